/-
  Several texts of the claim in one.
-/
import Derived.Lib.AppendZerosOnto
import Derived.Test.YtghechfdejhapaaGreatH6
set_option linter.unusedVariables false
set_option linter.unusedSimpArgs false
namespace Go.Proofs.YtghechfdejhapaaGreat
open Go.RowKit
noncomputable section
set_option maxRecDepth 10000
structure HasV (P:Program) (f:FuncId) (ds:List AV) (r:AV):Prop where
 enters:Enters P f
 calls: ∀ (w:World) (args:Array Value) (S:List Nat),RepVs w ds args.toList S→Calls P f args w fun e w'=> ∃ v S',e= .returned v∧Below w.heap.size w w'∧RepD w' r v S'∧ ∀ x∈S',x∈S
theorem aBY {w:World} {h:Hp} {u:Us} {ν:Nu} {d:AV} {v:Value} (r:Rep1 w h u ν d v) (ok:eT d=true): ∃ S,RepD w d v S∧ ∀ x∈S,gX h ν x:=by
 cases d <;> simp only [eT,Bool.false_eq_true] at ok <;> simp only [Rep1] at r
 ·exact ⟨[],by rw [r.1];exact zZ r.2,by simp⟩
 ·exact r
 ·exact r
theorem aCK {w:World} {h:Hp} {u:Us} {ν:Nu} : ∀ {ds:List AV} {vs:List Value},All2 (Rep1 w h u ν) ds vs→ds.all eT=true→ ∃ S,RepVs w ds vs S∧ ∀ x∈S,gX h ν x
 | [],vs,r,_=>by simp only [All2] at r;subst r;exact ⟨[],by simp [RepVs],by simp⟩
 |d::ds,vs,⟨v,q,e,r1,r2⟩,ok=>by
  subst e
  simp only [List.all_cons,Bool.and_eq_true] at ok
  obtain ⟨S1,a1,a2⟩:=aBY r1 ok.1
  obtain ⟨S2,b1,b2⟩:=aCK r2 ok.2
  refine ⟨S1++S2,by simp only [RepVs];exact ⟨v,q,S1,S2,rfl,rfl,a1,b1⟩,fun x hx=>?_⟩
  rcases List.mem_append.1 hx with h|h
  ·exact a2 x h
  ·exact b2 x h
theorem aNH {w:World} {h:Hp} {u:Us} {ν:Nu} {d:AV} {v:Value} (r:RepA w h u ν d v) (ok:sZ d=true): ∃ S,RepD w d v S∧ ∀ x∈S,gX h ν x:=by
 cases d <;> simp only [sZ,eT,Bool.false_eq_true] at ok <;> simp only [RepA,RepB] at r
 ·exact aBY r rfl
 ·exact aBY r rfl
 ·exact aBY r rfl
 ·obtain ⟨vs,rfl,r⟩:=r
  obtain ⟨S,a,b⟩:=aCK r ok
  exact ⟨S,by simp only [RepD];exact ⟨vs,rfl,a⟩,b⟩
 ·obtain ⟨vs,rfl,r⟩:=r
  obtain ⟨S,a,b⟩:=aCK r ok
  exact ⟨S,by simp only [RepD];exact ⟨vs,rfl,a⟩,b⟩
theorem aCL {w:World} {h:Hp} {u:Us} {ν:Nu} : ∀ {ds:List AV} {vs:List Value},All2 (RepA w h u ν) ds vs→ds.all sZ=true→ ∃ S,RepVs w ds vs S∧ ∀ x∈S,gX h ν x
 | [],vs,r,_=>by simp only [All2] at r;subst r;exact ⟨[],by simp [RepVs],by simp⟩
 |d::ds,vs,⟨v,q,e,r1,r2⟩,ok=>by
  subst e
  simp only [List.all_cons,Bool.and_eq_true] at ok
  obtain ⟨S1,a1,a2⟩:=aNH r1 ok.1
  obtain ⟨S2,b1,b2⟩:=aCL r2 ok.2
  refine ⟨S1++S2,by simp only [RepVs];exact ⟨v,q,S1,S2,rfl,rfl,a1,b1⟩,fun x hx=>?_⟩
  rcases List.mem_append.1 hx with h|h
  ·exact a2 x h
  ·exact b2 x h
section
variable {P:Program} {dst:Option Tmp} {ty:TypeId} {pos:String} {aft:Array Edge} {g:Option (Nat×Bool)} {ins:Operand→Option AV} {hp:Hp} {κ:Kp}
theorem aGd {fo:Operand} {xs:Array Operand} {ats:Array TypeId} {f:FuncId} {ds:List AV} {k:Nat} {es:List (List AV)} (hc:HasV P f ds (.list k es)) (hf:ins fo=some (.fn f [])) (hx:evs ins xs.toList=some ds) (hok:ds.all sZ=true):
  AEff P ⟨dst,.call ⟨.value fo,xs,ats⟩,ty,pos,aft,g⟩ ins hp κ ⟨.list k es,[],[],[]⟩:=by
 refine ⟨fun C s ν a w Q K {hκ} hi' ht hnw hd hs hK=>?_⟩
 have h1:=hs.ev ((hi' fo (by simp [Op.operands,Call.operands])).trans hf)
 simp only [RepA,RepB] at h1
 obtain ⟨cv,h1,h2⟩:=h1
 simp only [All2] at h2
 subst h2
 have h3:=aAB hs (xs:=xs.toList) (fun y hy=>hi' y (by simp [Op.operands,Call.operands];exact .inr (Array.mem_toList_iff.1 hy))) hx
 obtain ⟨S,e1,e2⟩:=aCL h3 hok
 have hcall:=hc.calls w (xs.map a.eval) S (by simpa using e1)
 unfold Oper.wp
 have hex:(execOp a.eval ⟨dst,.call ⟨.value fo,xs,ats⟩,ty,pos,aft,g⟩).run P w= .ok (.enter f (xs.map a.eval)) w:=by
  have:execOp a.eval ⟨dst,.call ⟨.value fo,xs,ats⟩,ty,pos,aft,g⟩=callFunc f (xs.map a.eval):=by
   simp [execOp,resolve,h1,Deferred.ofValue,invoke]
  rw [this]
  exact hc.enters _ _
 rw [hex]
 simp only [Oper.upon]
 refine hcall.mono fun e w' ⟨v,S',he,hb,hr,hsub⟩=>?_
 subst he
 simp only
 obtain ⟨φ,hh⟩:=hs.heap
 have ext:Ext w s.heap s.used ν w' s.heap s.used ν:=⟨fun _ h=>h,fun _ blk _ h=>⟨blk,h,rfl,rfl,rfl⟩,fun x hx h=>⟨hb.block x hx,h⟩,rfl⟩
 refine hK ν _ _ (hs.step hd (s':=s.app dst _) ext (hb.mono hs.base) ⟨φ,fun b blk hbl=>?_,hh.apart⟩ rfl ?_)
 ·obtain ⟨g1,g2,g3,g4⟩:=hh.blk b blk hbl
  exact ⟨g1,g2.ext ext rfl (fun y hy=>hb.block y (g2.lt y hy)),g3,g4⟩
 ·exact ⟨S',hr,fun x hx=>e2 x (hsub x hx)⟩
theorem aLY {T:List (Nat×Ty)} (hT:TyOk P T) {s:AState} {x:Operand} {zl zh:Operand} {t e:Nat} {y ye:Ty} {ao:Option Addr} {n c:Nat} {kl kh:IntKind} {l h:Int} (q:0≤l∧l≤h∧h≤n∧n≤c) (hx:s.ev x=some (.sc (.slice ao n c))) (hlo:s.ev zl=some (.sc (.int kl l))) (hhi:s.ev zh=some (.sc (.int kh h))) (hy:eC T t=some y) (hd:y.desc= .slice e) (hye:eC T e=some ye):
  AEff P ⟨dst,.slice t x (some zl) (some zh) none,ty,pos,aft,g⟩ s.ev s.heap s.kp ⟨.sc (.slice (if c=l.toNat then ao else ao.map (·.add (l.toNat*ye.size))) (h.toNat - l.toNat) (c - l.toNat)),[],[],[]⟩:=by
 refine AEff.pure fun C s' ν a w hi' ht hs=>?_
 have h1:=hs.ev ((hi' x (by simp [Op.operands])).trans hx)
 have h2:=hs.ev ((hi' zl (by simp [Op.operands])).trans hlo)
 have h3:=hs.ev ((hi' zh (by simp [Op.operands])).trans hhi)
 simp only [RepA,RepB,Rep1] at h1 h2 h3
 obtain ⟨i1,z1,d1,y1⟩:=hT.is hy
 obtain ⟨i2,z2,d2,y2⟩:=hT.is hye
 have hsb:=vS (P:=P) (len:=n) (cap:=c) (lo:=some (.int kl l)) (hi:=some (.int kh h)) w (.inr ⟨kl,rfl⟩) (.inr ⟨kh,rfl⟩) q.1 q.2.1 q.2.2.1 q.2.2.2
 refine ⟨_,?_,vF rfl⟩
 simp only [execOp,Instr.sliceAt,Instr.slice,h1.1,h2.1,h3.1,Sem.run_bind,jO (y1.slice hd),Result.andThen_ok,jB y2.info,y2.size,Option.map_none,Option.map_some]
 rw [hsb]
 by_cases e:c=l.toNat <;> simp [e]
end
theorem aNI {w:World} {k n c:Nat} {es:List (List AV)} {ao:Option Addr} {S:List Nat} {l h:Int} (r:RepD w (.list k es) (.slice ao n c) S) (q:0≤l∧l≤h∧h≤n): ∃ S',RepD w (.list k ((es.drop l.toNat).take (h.toNat - l.toNat))) (.slice (if c=l.toNat then ao else ao.map (·.add (l.toNat*k))) (h.toNat - l.toNat) (c - l.toNat)) S'∧ ∀ x∈S',x∈S:=by
 simp only [RepD] at r ⊢
 obtain ⟨ao',c',h3,h4,h5,h6⟩:=r
 cases h3
 have hlen:((es.drop l.toNat).take (h.toNat - l.toNat)).length=h.toNat - l.toNat:=by simp;omega
 rw [hlen]
 by_cases hz:h.toNat - l.toNat=0
 ·refine ⟨[],⟨_,_,rfl,by omega,by omega,.inl ⟨?_,rfl⟩⟩,by simp⟩
  rw [hz];simp
 ·rcases h6 with ⟨h6,_⟩|⟨b,o,S',rfl,h8,rfl,h9⟩
  ·have:es.length=0:=by rw [h6];rfl
   omega
  ·rw [if_neg (by omega)]
   obtain ⟨U1,g1,g2⟩:=h9.dropT (m:=l.toNat)
   obtain ⟨U2,g3,g4⟩:=g1.takeT (m:=h.toNat - l.toNat)
   refine ⟨b::U2,⟨_,_,rfl,by omega,by omega,.inr ⟨b,o+l.toNat*k,U2,by simp [Addr.add_lit],h8,rfl,g3⟩⟩,?_⟩
   intro y hy
   rcases List.mem_cons.1 hy with rfl|h'
   ·simp
   ·simp [g2 y (g4 y h')]
def vM (m:Mt) (i:Int):Int:=wr (i*m.cols)
def aAq (m:Mt) (i:Int):Int:=wr (wr (i+1)*m.cols)
def aCM (m:Mt) (i:Int):Option (List Int):=bif (decide (0≤vM m i)&&(decide (vM m i≤aAq m i)&&decide (aAq m i≤(m.cells.length:Int)))) then some ((m.cells.drop (vM m i).toNat).take ((aAq m i).toNat - (vM m i).toNat)) else none
theorem aQd (m:Mt) (i:Int) (ao:Option Addr) (n c:Nat) (q:0≤vM m i∧vM m i≤aAq m i∧aAq m i≤n∧n≤c):HasC Tryz.prog 190 [.agg [.int m.rows,.int m.cols,.sc (.slice ao n c)],.int i]
  (.sc (.slice (if c=(vM m i).toNat then ao else ao.map (·.add ((vM m i).toNat *1))) ((aAq m i).toNat - (vM m i).toNat) (c - (vM m i).toNat))):=by
 refine bK aA (rvs:=[.tmp 4]) (ns:=[0,1,2,3,4,5,6,7,8,9,10,11,12,13]) Tryz.func190 rfl rfl Tryz.ntmps190 rfl rfl rfl ?_
 refine eA ?_
 refine cK ?_
 refine aB (cC rfl rfl rfl rfl) rfl rfl rfl ?_
 refine aB (bJ rfl) rfl rfl rfl ?_
 refine cV ?_
 refine eE ?_
 refine eA ?_
 refine cK ?_
 refine aB (aD aA rfl rfl rfl rfl rfl rfl rfl) rfl rfl rfl ?_
 refine aB (aC aA rfl rfl rfl rfl rfl rfl rfl) rfl rfl rfl ?_
 refine aB (bF rfl) rfl rfl rfl ?_
 refine aB (aD aA rfl rfl rfl rfl rfl rfl rfl) rfl rfl rfl ?_
 refine aB (aC aA rfl rfl rfl rfl rfl rfl rfl) rfl rfl rfl ?_
 refine aB (fP rfl rfl) rfl rfl rfl ?_
 refine aB (bF rfl) rfl rfl rfl ?_
 refine aB (bV rfl rfl) rfl rfl rfl ?_
 refine aB (aD aA rfl rfl rfl rfl rfl rfl rfl) rfl rfl rfl ?_
 refine aB (aC aA rfl rfl rfl rfl rfl rfl rfl) rfl rfl rfl ?_
 refine aB (fP rfl rfl) rfl rfl rfl ?_
 refine aB (aLY aA (l:=vM m i) (h:=aAq m i) q rfl rfl rfl rfl rfl rfl) rfl rfl rfl ?_
 refine aB (bJ rfl) rfl rfl rfl ?_
 refine cV ?_
 refine eE ?_
 refine aP ?_
 exact aU rfl rfl rfl (aRA rfl)
theorem aLZ (m:Mt) (i:Int) (r:List Int) (h:aCM m i=some r):HasV Tryz.prog 190 [.agg (eM m),.int i] (.list 1 (List.map eI r)):=by
 obtain ⟨q,h⟩:=cg h
 obtain rfl:=so h
 simp only [Bool.and_eq_true,decide_eq_true_eq] at q
 refine ⟨Enters.mk Tryz.func190 (by kernel_rfl) (by kernel_rfl),fun w args S hargs=>?_⟩
 obtain ⟨args⟩:=args
 simp only [RepVs] at hargs
 obtain ⟨v,r,S1,S2,h1,rfl,h3,v2,r2,S3,S4,h4,rfl,h5,rfl,rfl⟩:=hargs
 subst h4 h1
 simp only [RepD,eM] at h3
 obtain ⟨vs,rfl,h3⟩:=h3
 simp only [RepVs] at h3
 obtain ⟨u1,r1,T1,T2,rfl,rfl,g1,u2,r3,T3,T4,rfl,rfl,g2,u3,r4,T5,T6,rfl,rfl,g3,rfl,rfl⟩:=h3
 have hu3: ∃ ao n c,u3= .slice ao n c∧n=m.cells.length∧n≤c:=by
  simp only [RepD] at g3
  obtain ⟨a,c,rfl,g4,_⟩:=g3
  exact ⟨_,_,_,rfl,by simp [aOC],g4⟩
 obtain ⟨ao,n,c,rfl,hn,hnc⟩:=hu3
 have hcall:=(aQd m i ao n c ⟨q.1,q.2.1,by omega,hnc⟩).calls w #[.agg #[u1,u2,.slice ao n c],v2] (T1++(T3++([]++[]))++(S3++[])) (by
  simp only [RepVs]
  refine ⟨_,_,_,_,rfl,rfl,?_,_,_,_,_,rfl,rfl,h5,rfl,rfl⟩
  simp only [RepD]
  refine ⟨[u1,u2,.slice ao n c],rfl,?_⟩
  simp only [RepVs]
  exact ⟨_,_,_,_,rfl,rfl,by simpa only [RepD] using g1,_,_,_,_,rfl,rfl,by simpa only [RepD] using g2,_,_,[],[],rfl,rfl,zZ rfl,rfl,rfl⟩)
 refine hcall.mono fun e w' ⟨v,S',he,hb,hr,_⟩=>?_
 simp only [aLG,aMx,aAA] at hr
 obtain ⟨rfl,_,_⟩:=hr
 obtain ⟨U,k1,k2⟩:=aNI (l:=vM m i) (h:=aAq m i) g3 ⟨q.1,q.2.1,by omega⟩
 refine ⟨_,U,he,hb,?_,?_⟩
 ·have hes:((aNA m.cells).drop (vM m i).toNat).take ((aAq m i).toNat - (vM m i).toNat)=List.map eI ((m.cells.drop (vM m i).toNat).take ((aAq m i).toNat - (vM m i).toNat)):=by
   show ((m.cells.map eI).drop _).take _=_
   rw [List.map_take,List.map_drop]
  rw [←hes]
  exact k1.below hb
 ·intro x hx
  have:=k2 x hx
  simp [this]
def aOV (hp:Hp) (touch:List Nat):List (Nat×Option Blk)→Prop
 | []=>True
 |(b,x)::r=>hp b=x∧touch.contains b=true∧aOV hp touch r
theorem aEs {hp h:Hp} {touch:List Nat} (ht: ∀ b∈touch,h b=hp b): ∀ {ed:List (Nat×Option Blk)},aOV hp touch ed→bN ed h=h
 | [],_=>rfl
 |(b,x)::r,⟨h1,h2,h3⟩=>by
  funext c
  simp only [bN]
  by_cases e:c=b
  ·subst e
   rw [cB,cond_true,←h1,ht c (by simpa using h2)]
  ·rw [cH e,cond_false,aEs ht h3]
theorem AEff.pureE {P:Program} {o:Oper} {ins:Operand→Option AV} {hp:Hp} {κ:Kp} {v:AV} {tc:List Nat} {ed:List (Nat×Option Blk)} (h:AEff P o ins hp κ ⟨v,tc,ed,[]⟩) (hs:aOV hp tc ed):AEff P o ins hp κ ⟨v,tc,[],[]⟩:=by
 refine ⟨fun C s ν a w Q K {hκ} hi ht hn hd hsim hK=>h.out C s ν a w Q K (hκ:=hκ) hi ht hn hd hsim fun ν' a' w' hs'=>hK ν' a' w' ?_⟩
 have e:s.app o.dst ⟨v,tc,ed,[]⟩=s.app o.dst ⟨v,tc,[],[]⟩:=by
  unfold AState.app
  rw [aEs ht hs]
  rfl
 rw [←e]
 exact hs'
theorem aJC {P:Program} {t tn e bytes:Nat} {size:Nat} (et:ElemTy P t e size bytes) (htn:P.underlying tn=some (.int .i64)) (hs:0<size) (w:World) (n:Nat) (h0:0<n) (hn:n≤1048576) (hb:n*bytes≤140737488355328) (ty:Nat):
  ∃ G cur,n≤G∧G≤maxLen∧cur.size=G*size∧(Builtin.append_ #[t,tn] ty #[.slice none 0 0,.int .i64 n]).run P w= .ok (.slice (some ⟨w.heap.size,0,none⟩) n G) (w.drew.alloc (.cells cur e)):=by
 obtain ⟨i,z,h1,h2,h3,h4,h5⟩:=et.hi
 have hold:(Builtin.firstCells i.size 0 (.slice none 0 0)).run P w.drew= .ok ([]:List Value).toArray w.drew:=run_firstCells_none w.drew i.size 0 0 0
 have h:=Lib.run_append_grow_zeros w t tn ty e i z .i64 .i64 et.ht htn h1 h2 none 0 0 [] hold n h0 (by rw [h3];exact hs) (by omega) (by omega) (by rw [h4];omega) (growslice_fits (by omega) (by rw [h4];simpa using hb))
 have hG:=grownCap_ge w (0+n) 0 e
 have hM:=grownCap_le_maxLen w (0+n) 0 e (by unfold maxLen;omega)
 rw [Nat.zero_add] at h hG hM
 refine ⟨grownCap w n 0 e,_,hG,hM,?_,h⟩
 simp only [Array.size_append,List.size_toArray,List.length_nil,Nat.zero_add]
 unfold Builtin.zeroCells
 simp only [Array.size_map,Array.size_range,h5]
 rw [←Nat.add_mul]
 congr 1
 omega
set_option maxRecDepth 100000 in
set_option maxHeartbeats 1000000 in
theorem aPi (n:Nat) (w:World) (hn:n≤1048576):
  Calls Tryz.prog 275 #[.slice none 0 0,.int .i64 n] w (Ret w fun v w'=> ∃ S,Own 3 aHQ w' w.heap.size v [] S):=by
 by_cases h0:n=0
 ·subst h0
  show Calls Tryz.prog 275 #[.slice none 0 0,.int .i64 0] w _
  go_enter Tryz.func275,Tryz.ntmps275
  go_wp2
  go_ret
  exact ⟨_,rfl,Below.refl _ _,[],Own.nil _ _ _ _⟩
 ·have h1: ¬ ((n:Int)<0):=by omega
  have h4:(n:Int)>0:=by omega
  have key: ∀ ty,∃ G cur,n≤G∧G≤maxLen∧cur.size=G*1∧(Builtin.append_ #[22,3] ty #[.slice none 0 0,.int .i64 n]).run Tryz.prog w= .ok (.slice (some ⟨w.heap.size,0,none⟩) n G) (w.drew.alloc (.cells cur 3)):=fun ty=>
   aJC aRE Tryz.underlying3 (by decide) w n (by omega) hn (by omega) ty
  obtain ⟨G,cur,hG,hM,hc,hr0⟩:=key 22
  have hG63:G≤9223372036854775807:=by unfold maxLen at hM;omega
  have HE:Hid (Own 3 aHQ (w.drew.alloc (.cells cur 3)) w.heap.size (.slice (some ⟨w.heap.size,0,none⟩) 0 G) [] [w.heap.size]∧Below w.heap.size w (w.drew.alloc (.cells cur 3))):=
   ⟨⟨[],[],World.ownsRow_made w.drew cur G (Nat.le_refl _) hM hc,⟨rfl,rfl⟩,rfl,⟨by simp,by simp⟩⟩,((aJo 1 (Below.refl _ _):Below w.heap.size w (w.drewN 1))).alloc (Nat.le_refl _) _⟩
  clear key hM hc
  go_enter Tryz.func275,Tryz.ntmps275
  go_wp2_with (at_builtin;refine Lib.wpList_append_run _ rfl _ _ _ _ rfl _ _ rfl rfl _ _ hr0 ?_)
  all_goals (go_ret;exact ⟨_,rfl,HE.out.2,_,HE.out.1⟩)
def aLa (n:Int):Option (List Int):=bif (decide (0≤n)&&decide (n≤1048576)) then some [] else none
theorem aPj {h:Hp} {k:Nat} :viewA h (.nil k) (.sc (.slice none 0 0)):=rfl
theorem aQe (n:Int) (r:List Int) (h:aLa n=some r):HasC Tryz.prog 275 [.sc (.slice none 0 0),.int n] (.list 1 (List.map eI r)):=by
 obtain ⟨q,h⟩:=cg h
 obtain rfl:=so h
 simp only [Bool.and_eq_true,decide_eq_true_eq] at q
 refine ⟨Enters.mk Tryz.func275 (by kernel_rfl) (by kernel_rfl),fun w args S hargs=>?_⟩
 obtain ⟨args⟩:=args
 simp only [RepVs,RepD] at hargs
 obtain ⟨v,r,S1,S2,h1,rfl,⟨rfl,_,rfl⟩,v2,r2,S3,S4,rfl,rfl,⟨rfl,_,rfl⟩,rfl,rfl⟩:=hargs
 subst h1
 have hc:=aPi n.toNat w (by omega)
 rw [show ((n.toNat:Nat):Int)=n by omega] at hc
 refine hc.mono fun e w' ⟨v,he,hb,S2,ho⟩=>?_
 obtain ⟨g1,g2⟩:=aKS ho
 exact ⟨v,S2,he,hb,g1,g2⟩
theorem aLb {σ:Nat→Option Nat} {n:Nat} {α:Type} {e:α→List AV} {z:α} {zc:List AV} (h:All2 (mA σ n) zc (ow e z)) (m:Nat):All2 (All2 (mA σ n)) (List.replicate m zc) ((List.replicate m z).map (ow e)):=by
 induction m with
 |zero=>rfl
 |succ m ih=>exact ⟨_,_,rfl,h,ih⟩
end
noncomputable section
structure SOps (P:Program) (ops:Array Oper) (nt:Nat) (l:List Oper) (s:AState) (K:AState→Prop):Prop where
 out: ∀ (C:Ctx),C.nt=nt→ ∀ (ν:Nu) (a:Act) (w:World),Sim C s ν a w→ ∀ (n:Nat) (Q:Exit→Act→World→Prop),(∀ s' ν' a' w',K s'→Sim C s' ν' a' w'→Q .normal a' w')→wpListIn (fw C.rd) n P ops Q l a w
section
variable {P:Program} {ops:Array Oper} {nt:Nat} {l:List Oper} {s:AState} {K:AState→Prop}
theorem aOW (h:K s):SOps P ops nt [] s K:=⟨fun C hC ν a w hs n Q hQ=>hQ s ν a w h hs⟩
theorem aDH {t:AState} (e:Ent s t) (h:SOps P ops nt l t K):SOps P ops nt l s K:=⟨fun C hC ν a w hs n Q hQ=>by
 obtain ⟨ν',hs'⟩:=e C ν a w hs
 exact h.out C hC ν' a w hs' n Q hQ⟩
theorem aOX {d:Option Tmp} {op:Op} {ty:TypeId} {pos:String} {aft:Array Edge} {g:Option (Nat×Bool)} {e:Eff} (he:AEff P ⟨d,op,ty,pos,aft,g⟩ s.ev s.heap s.kp e) (hd:aJw ⟨d,op,ty,pos,aft,g⟩ nt=true) (hg:pT ops s.env ⟨d,op,ty,pos,aft,g⟩=some true) (hn:(e.news.all fun b=> !s.used b)=true)
  (h:SOps P ops nt l (s.app d e) K):SOps P ops nt (⟨d,op,ty,pos,aft,g⟩::l) s K:=⟨fun C hC ν a w hs n Q hQ=>by
 subst hC
 refine wpListIn_step fun K' hK'=>?_
 have hst:aJs P ops C.nt ⟨d,op,ty,pos,aft,g⟩ s e:=⟨aIt hd,.inl ⟨hg,he,fun b hb=>by have:=List.all_eq_true.1 hn b hb;simpa using this⟩⟩
 exact aCE hst hs fun ν' a' w' hs'=>hK' _ _ (h.out C rfl ν' a' w' hs' n Q hQ)⟩
theorem aLc {Q:Exit→AState→Prop} {id:Nat} (h:SOps P l.toArray nt l s (Q .normal)):AC P nt (.region id l.toArray false) s Q:=by
 refine ⟨fun C hC ν a w hs n=>?_⟩
 exact wpIn_region_lit (h.out C hC ν a w hs n _ fun s' ν' a' w' hq hs'=>⟨s',ν',hq,hs'⟩)
end
section
variable {w w':World} {h h':Hp} {u u':Us} {ν ν':Nu} (U: ∀ b,u b=true→u' b=true) (O: ∀ b blk',u b=true→h' b=some blk'→ ∃ blk,h b=some blk∧blk.k=blk'.k∧blk.es.length=blk'.es.length∧ν' b=ν b)
include U O
end
section
variable {w w':World} {h h':Hp} {u u':Us} {ν ν':Nu} (U: ∀ b,u b=true→u' b=true) (O: ∀ b blk',u b=true→h' b=some blk'→ ∃ blk,h b=some blk∧blk.k=blk'.k∧blk.es.length=blk'.es.length∧ν' b=ν b)
include U O
end
section
variable {P:Program} {ops:Array Oper} {nt:Nat} {l:List Oper} {s:AState} {K:AState→Prop} {dst:Option Tmp} {ty:TypeId} {pos:String} {aft:Array Edge}
end
end
noncomputable section
theorem aLd (es:List (List AV)):(cX es).flatten=es.flatten.map sY:=by
 unfold cX
 rw [List.map_flatten]
end
noncomputable section
theorem Sim.stays {C:Ctx} {s:AState} {ν:Nu} {a:Act} {w:World} (hs:Sim C s ν a w) {κ:Kp} (hκ:s.kp=κ) {W:World} {G:Nat→Prop} (h:κ.fx=some (W,G)) {b:Nat} (hb:G b):w.heap[b]? =W.heap[b]? ∧gX s.heap ν b:=by
 obtain ⟨e1,e2⟩:=C.fxp (W,G) (by rw [←hs.kp,hκ];exact h)
 obtain ⟨e3,e4⟩:=e2 b hb
 obtain ⟨e5,e6⟩:=hs.ext.free b e3 e4
 rw [e1] at e5
 exact ⟨e5,e6,hs.okF (W,G) (by rw [←hs.kp,hκ];exact h) b hb⟩
theorem aLe {R:AV→Value→Prop} {V:AV→AV→Prop} {w:World} (hr: ∀ x d v,R x v→V x d→ ∃ S',RepD w d v S') {xs ds:List AV} {vs:List Value} (r:All2 R xs vs) (m:All2 V xs ds): ∃ S',RepVs w ds vs S':=wU hr r m
section
variable {P:Program} {dst:Option Tmp} {ty:TypeId} {pos:String} {aft:Array Edge} {g:Option (Nat×Bool)} {ins:Operand→Option AV} {hp:Hp} {κ:Kp}
end
section
variable {P:Program} {dst:Option Tmp} {ty:TypeId} {pos:String} {aft:Array Edge} {g:Option (Nat×Bool)} {s:AState}
end
theorem aOY {α:Type} {k:Nat} {e:α→List AV} {hp:Hp} {b i n:Nat} {l:List α} (E:EOk k e) (hb:hp b=some ⟨k,l.map (ow e)⟩):uR hp (.own b i n)=some (k,((l.drop i).take n).map e,[b]):=by
 simp only [uR,hb,←List.map_drop,←List.map_take]
 rw [aQY E]
section
variable {P:Program} {ops:Array Oper} {nt:Nat} {l:List Oper} {s:AState} {K:AState→Prop}
end
end
noncomputable section
theorem k {α:Sort _} {a:α} :a=a:=rfl
section
variable {P:Program} {ops:Array Oper} {nt:Nat} {r:List Oper} {s:AState} {tr:List Tr} {K:List Tr→AState→Prop} {K':AState→Prop}
def opB (ops:Array Oper) (nt:Nat) (s:AState) (o:Oper) (news:List Nat):Bool:=aJw o nt&&((match pT ops s.env o with|some true=>true|_=>false)&&news.all fun b=> !s.used b)
theorem aEH {o:Oper} {news:List Nat} (h:opB ops nt s o news=true):aJw o nt=true∧pT ops s.env o=some true∧(news.all fun b=> !s.used b)=true:=by
 simp only [opB,Bool.and_eq_true] at h
 obtain ⟨h1,h2,h3⟩:=h
 refine ⟨h1,?_,h3⟩
 split at h2
 ·assumption
 ·cases h2
theorem ae {d:Option Tmp} {op:Op} {ty:TypeId} {pos:String} {aft:Array Edge} {g:Option (Nat×Bool)} {e:Eff} (he:AEff P ⟨d,op,ty,pos,aft,g⟩ s.ev s.heap s.kp e) (hb:opB ops nt s ⟨d,op,ty,pos,aft,g⟩ e.news=true) (h:AOps P ops nt r (s.app d e) (aCv e::tr) K):AOps P ops nt (⟨d,op,ty,pos,aft,g⟩::r) s tr K:=
 aB he (aEH hb).1 (aEH hb).2.1 (aEH hb).2.2 h
theorem se {d:Option Tmp} {op:Op} {ty:TypeId} {pos:String} {aft:Array Edge} {g:Option (Nat×Bool)} {e:Eff} (he:AEff P ⟨d,op,ty,pos,aft,g⟩ s.ev s.heap s.kp e) (hb:opB ops nt s ⟨d,op,ty,pos,aft,g⟩ e.news=true) (h:SOps P ops nt r (s.app d e) K'):SOps P ops nt (⟨d,op,ty,pos,aft,g⟩::r) s K':=
 aOX he (aEH hb).1 (aEH hb).2.1 (aEH hb).2.2 h
theorem am {d:Option Tmp} {ty:TypeId} {pos:String} {aft:Array Edge} {g:Option (Nat×Bool)} {x:Operand} {v:AV} (hx:s.ev x=some v) (hb:opB ops nt s ⟨d,.move x,ty,pos,aft,g⟩ []=true) (h:AOps P ops nt r (s.app d ⟨v,[],[],[]⟩) (aCv ⟨v,[],[],[]⟩::tr) K):AOps P ops nt (⟨d,.move x,ty,pos,aft,g⟩::r) s tr K:=ae (bF hx) hb h
theorem aa {d:Option Tmp} {ty:TypeId} {pos:String} {aft:Array Edge} {g:Option (Nat×Bool)} {x:Operand} {v:AV} (hx:s.ev x=some v) (hb:opB ops nt s ⟨d,.assign x,ty,pos,aft,g⟩ []=true) (h:AOps P ops nt r (s.app d ⟨v,[],[],[]⟩) (aCv ⟨v,[],[],[]⟩::tr) K):AOps P ops nt (⟨d,.assign x,ty,pos,aft,g⟩::r) s tr K:=ae (bJ hx) hb h
theorem an (h:K tr s):AOps P ops nt [] s tr K:=cV h
theorem sn (h:K' s):SOps P ops nt [] s K':=aOW h
variable {Q:Exit→AState→Prop}
theorem sQ {x y:Code} (h:AC P nt x s (aAe (fun s'=>AC P nt y s' Q) Q)):AC P nt (.seq x y) s Q:=eA h
theorem rg {id:Nat} {l:List Oper} (h:AOps P l.toArray nt l s [] (fun _ s'=>Q .normal s')):AC P nt (.region id l.toArray false) s Q:=cK h
theorem pX {id:Nat} {l:List Oper} (h:SOps P l.toArray nt l s (Q .normal)):AC P nt (.region id l.toArray false) s Q:=aLc h
theorem tn (h:K' s):aAe K' Q .normal s:=h
end
theorem e1 {e:Nat→Option AV} {σ:Nat→Option Nat} {n t:Nat} {x y:AV} (h:e t=some x) (m:qM σ n x y): ∃ x,e t=some x∧qM σ n x y:=⟨x,h,m⟩
theorem ak {P:Program} {ops:Array Oper} {nt:Nat} {r:List Oper} {s:AState} {tr:List Tr} {K:List Tr→AState→Prop} {d:Option Tmp} {op:Op} {ty:TypeId} {pos:String} {aft:Array Edge} {g:Option (Nat×Bool)} (hg:pT ops s.env ⟨d,op,ty,pos,aft,g⟩=some false) (hd:aJw ⟨d,op,ty,pos,aft,g⟩ nt=true) (h:AOps P ops nt r ⟨upd d (.tuple []) s.env,s.heap,s.used,s.ns,s.kp⟩ (⟨[],[]⟩::tr) K):AOps P ops nt (⟨d,op,ty,pos,aft,g⟩::r) s tr K:=cP hg hd h
theorem oE {e:Nat→Option AV} {σ:Nat→Option Nat} {n t b i m b' i' m':Nat} (h:e t=some (.own b i m)) (p:(σ b',i,m,Nat.blt b' n)=(some b,i',m',true)): ∃ x,e t=some x∧qM σ n x (.own b' i' m'):=by
 obtain ⟨p1,p⟩:=Prod.mk.inj p
 obtain ⟨p2,p⟩:=Prod.mk.inj p
 obtain ⟨p3,p4⟩:=Prod.mk.inj p
 exact ⟨_,h,p1,p2,p3,p4⟩
theorem pE {e:Nat→Option AV} {σ:Nat→Option Nat} {n t b i m b' i' m':Nat} (h:e t=some (.ptr b i m)) (p:(σ b',i,m,Nat.blt b' n)=(some b,i',m',true)): ∃ x,e t=some x∧qM σ n x (.ptr b' i' m'):=by
 obtain ⟨p1,p⟩:=Prod.mk.inj p
 obtain ⟨p2,p⟩:=Prod.mk.inj p
 obtain ⟨p3,p4⟩:=Prod.mk.inj p
 exact ⟨_,h,p1,p2,p3,p4⟩
section
variable {σ:Nat→Option Nat} {n b b0 k:Nat} {h:Hp} {r:List (Nat×Blk)}
theorem hB {y:Blk} (hp:aBN y.es) (hs:σ b=some b0) (hb:h b0=some y) (hn:Nat.blt b n=true) (hr:uL σ n h r):uL σ n h ((b,y)::r):=by
 simp only [uL]
 rw [hs]
 exact ⟨⟨y,hb,rfl,.inl ⟨rfl,hp⟩⟩,hn,hr⟩
theorem hI {l:List Int} (hs:σ b=some b0) (hb:h b0=some ⟨1,List.map (ow eI) l⟩) (hn:Nat.blt b n=true) (hr:uL σ n h r):uL σ n h ((b,⟨1,List.map (ow eI) l⟩)::r):=hB (eD.plainO _) hs hb hn hr
theorem hP {y:Blk} (hs:σ b=some b0) (hb:h b0=some y) (hp:(y.es.all fun cs=>cs.all tJ)=true) (hn:Nat.blt b n=true) (hr:uL σ n h r):uL σ n h ((b,y)::r):=hB (aOD hp) hs hb hn hr
theorem hX {y:Blk} (hm:match σ b with|some b0=> ∃ x,h b0=some x∧aCF σ n x y|none=>y.es=[]) (hn:Nat.blt b n=true) (hr:uL σ n h r):uL σ n h ((b,y)::r):=⟨hm,hn,hr⟩
end
theorem dD {P:Program} {T:List (Nat×Ty)} (hT:TyOk P T) {dst:Option Tmp} {pos:String} {aft:Array Edge} {g:Option (Nat×Bool)} {s:AState} {x:Operand} {t e k:Nat} {y:Ty} {dty:TypeId} {α:Type} {f:α→List AV} {l:List α} (hx:s.ev x=some (.list k (List.map f l))) (hy:eC T t=some y) (hd:y.desc= .slice e):
  AEff P ⟨dst,.call ⟨.builtin .len,#[x],#[t]⟩,dty,pos,aft,g⟩ s.ev s.heap s.kp ⟨.int l.length,[],[],[]⟩:=AEff.val (cE hT hx hy hd) (by rw [List.length_map])
theorem lA {α:Type} {a b:List α} :(a++b).length=a.length+b.length:=List.length_append
theorem lT {α:Type} {a:List α} {i:Nat} {x:α} :(a.set i x).length=a.length:=List.length_set
theorem lR {α:Type} {n:Nat} {x:α} :(List.replicate n x).length=n:=List.length_replicate
theorem lC {α:Type} {a:α} {b:List α} :(a::b).length=b.length+1:=List.length_cons
theorem lN {α:Type} :([]:List α).length=0:=List.length_nil
theorem aAr:([]:List AV).all sZ=true:=rfl
theorem jP {d:AV} {ds:List AV} (h1:sZ d=true) (h2:ds.all sZ=true):(d::ds).all sZ=true:=by
 rw [List.all_cons,h1,h2];rfl
end
noncomputable section
set_option maxRecDepth 10000
set_option maxHeartbeats 4000000
def gD (a0:Int) (a1:Int) (a2:Int):Option Bool:=
 bif decide (a1≤a0) then
 (some (decide (a0≤a2)))
 else
 (some (false))
theorem iU (a0:Int) (a1:Int) (a2:Int) (r:Bool) (h:gD a0 a1 a2=some r):HasC Tryz.prog 92 [.int a0,.int a1,.int a2] (.bl r):=by
 refine bK aA (rvs:=[.tmp 6]) (ns:=[0,1]) Tryz.func92 k k Tryz.ntmps92 k k k<|sQ<|rg<|aa k k<|an<|tn<|sQ<|rg<|am k k<|am k k ?_
 refine ae (bC k k k) k<|am k k ?_
 rcases cb h with ⟨q1,h⟩|⟨q1,h⟩
 ·refine aX 10 k q1<|am k k<|am k k<|ae (bC k k k) k<|ae (aJ k k) k<|aa k k<|an<|tn<|aP ?_
  obtain rfl:=so h
  exact aU k k k (bT k)
 ·refine aX 10 k q1<|ak k k<|ak k k<|ak k k<|ae (aJ k k) k<|aa k k<|an<|tn<|aP ?_
  obtain rfl:=so h
  exact aU k k k (bT k)
def fD (a0:Int) (a1:Int) (a2:Int):Option Bool:=
 bif decide (a1≤a0) then
 (some (decide (a0≤a2)))
 else
 (some (false))
theorem fV (a0:Int) (a1:Int) (a2:Int) (r:Bool) (h:fD a0 a1 a2=some r):HasC Tryz.prog 127 [.int a0,.int a1,.int a2] (.bl r):=by
 refine bK aA (rvs:=[.tmp 6]) (ns:=[0,1]) Tryz.func127 k k Tryz.ntmps127 k k k<|sQ<|rg<|aa k k<|an<|tn<|sQ<|rg<|am k k<|am k k ?_
 refine ae (bC k k k) k<|am k k ?_
 rcases cb h with ⟨q1,h⟩|⟨q1,h⟩
 ·refine aX 10 k q1<|am k k<|am k k<|ae (bC k k k) k<|ae (aJ k k) k<|aa k k<|an<|tn<|aP ?_
  obtain rfl:=so h
  exact aU k k k (bT k)
 ·refine aX 10 k q1<|ak k k<|ak k k<|ak k k<|ae (aJ k k) k<|aa k k<|an<|tn<|aP ?_
  obtain rfl:=so h
  exact aU k k k (bT k)
def jZ (a0:(List Int)) (x1:(Int×Int)):Option ((Int×Int) ⊕ Int):=
 bif decide (x1.2<(a0.length:Int)) then
 (Option.bind (dV a0 x1.2) fun v2=>
 some (.inl (wr (x1.1+v2),wr (x1.2+1))))
 else
 (some (.inr x1.1))
def fL (a0:(List Int)):Option Int:=
 Option.bind (Lp (jZ a0) (0,0)) fun y3=>
 some (y3)
theorem mE (a0:(List Int)) (r:Int) (h:fL a0=some r):HasC Tryz.prog 86 [.list 1 (List.map eI a0)] (.int r):=by
 refine bK aA (rvs:=[.tmp 2]) (ns:=[0,1]) Tryz.func86 k k Tryz.ntmps86 k k k<|sQ<|rg<|aa k k<|an<|tn<|sQ<|rg<|aa k k<|an ?_
 refine tn<|sQ<|sQ<|rg<|am k k<|ae (dD aA k k k) k<|am k k<|an<|tn<|aN ?_
 obtain ⟨y3,hy3,h⟩:=ob h
 refine cU (body:=(jZ a0)) hy3 (fun (x1:(Int×Int))=>bU [(3,.int x1.1),(6,.list 1 (List.map eI a0)),(7,.int (a0.length:Int)),(8,.int x1.2)] [] 0 [0,1]) (fun r e t=>e= .exit 0∧Ent t (bU [(3,.int r)] [] 0 [0,1])) (aE (σ:=sg []) ⟨(e1 k k),⟨_,k,⟨k,k⟩⟩,(e1 k k),(e1 k k),trivial⟩ trivial k) ?_ ?_
 ·intro x1 o h
  refine sQ<|rg<|ae (bC k k k) k<|an<|tn<|sQ ?_
  rcases cb h with ⟨q1,h⟩|⟨q1,h⟩
  ·refine aL k q1<|aT<|tn<|sQ<|aN<|sQ<|rg ?_
   obtain ⟨v2,hv2,h⟩:=ob h
   refine ae (bH aA hv2 k k k k k k) k<|ae (aV aA k k k k k k) k<|aa k k<|an<|tn<|rg<|am k k<|am k k<|ae (bV k k) k<|aa k k ?_
   refine an<|bE<|tn<|rg<|ae (bV k k) k<|am k k<|an<|tn ?_
   obtain rfl:=so h
   exact ⟨_,k,(aE (σ:=sg []) ⟨(e1 k k),⟨_,k,⟨k,k⟩⟩,(e1 k k),(e1 k k),trivial⟩ trivial k)⟩
  ·refine aS k q1<|bG<|aH<|aH ?_
   obtain rfl:=so h
   exact ⟨_,k,k,(aE (σ:=sg []) ⟨(e1 k k),trivial⟩ trivial k)⟩
 ·rintro e t ⟨rfl,hent⟩
  refine aW<|tn<|aO hent<|sQ<|rg<|am k k<|aa k k<|an<|tn<|aP ?_
  obtain rfl:=so h
  exact aU k k k (cJ k)
def uU (a0:(List Int)) (a1:(List Int)) (x1:Int):Option (Int ⊕ (Unit ⊕ Bool)):=
 bif decide (x1<(a0.length:Int)) then
 (Option.bind (dV a0 x1) fun v3=>
 Option.bind (dV a1 x1) fun v4=>
 bif !decide (v3=v4) then
 (some (.inr (.inr (false))))
 else
 (some (.inl (wr (x1+1)))))
 else
 (some (.inr (.inl ())))
def yS (a0:(List Int)) (a1:(List Int)):Option Bool:=
 bif !decide ((a0.length:Int)=(a1.length:Int)) then
 (some (false))
 else
 (Option.bind (Lp (uU a0 a1) 0) fun y6=>
 Sum.elim (fun y7=>
 some (true)
 )
 (fun y8=>
 some y8
 )
 y6)
theorem aHR (a0:(List Int)) (a1:(List Int)) (r:Bool) (h:yS a0 a1=some r):HasC Tryz.prog 90 [.list 1 (List.map eI a0),.list 1 (List.map eI a1)] (.bl r):=by
 refine bK aA (rvs:=[.tmp 4]) (ns:=[0,1]) Tryz.func90 k k Tryz.ntmps90 k k k<|sQ<|rg<|aa k k<|an<|tn<|sQ<|sQ<|rg<|am k k ?_
 refine ae (dD aA k k k) k<|am k k<|ae (dD aA k k k) k<|ae (bC k k k) k<|an<|tn ?_
 rcases cb h with ⟨q1,h⟩|⟨q1,h⟩
 ·refine aL k q1<|sQ<|rg<|aa k k<|an<|tn<|aP<|aK ?_
  obtain rfl:=so h
  exact aU k k k (bT k)
 ·refine aS k q1<|aT<|tn<|sQ<|sQ<|rg<|aa k k<|an<|tn<|aN ?_
  obtain ⟨y6,hy6,h⟩:=ob h
  refine cU (body:=(uU a0 a1)) hy6 (fun (x1:Int)=>bU [(0,.list 1 (List.map eI a0)),(1,.list 1 (List.map eI a1)),(5,.int x1)] [] 0 [0,1]) (fun r e t=>Sum.elim (fun a=>(fun r e t=>e= .exit 0∧Ent t (bU [] [] 0 [0,1])) a e t) (fun b=>(fun r e t=>e= .ret∧sA TT [.tmp 4] (.bl r) .ret t) b e t) r) (aE (σ:=sg []) ⟨⟨_,k,⟨k,k⟩⟩,⟨_,k,⟨k,k⟩⟩,(e1 k k),trivial⟩ trivial k) ?_ ?_
  ·intro x1 o h
   refine sQ<|sQ<|rg<|am k k<|am k k<|ae (dD aA k k k) k<|ae (bC k k k) k<|an<|tn ?_
   rcases cb h with ⟨q2,h⟩|⟨q2,h⟩
   ·refine aL k q2<|aT<|tn<|sQ<|aN<|sQ<|aY jW<|am k k<|am k k ?_
    obtain ⟨v3,hv3,h⟩:=ob h
    refine ae (bH aA hv3 k k k k k k) k<|ae (aV aA k k k k k k) k<|am k k<|am k k ?_
    obtain ⟨v4,hv4,h⟩:=ob h
    refine ae (bH aA hv4 k k k k k k) k<|ae (aV aA k k k k k k) k<|ae (bC k k k) k<|an ?_
    refine ⟨by kernel_rfl,?_⟩
    refine tn<|aO (t:=bU [(0,.list 1 (List.map eI a0)),(1,.list 1 (List.map eI a1)),(5,.int x1),(25,.bl (!decide (v3=v4)))] [] 0 [0,1]) (aE (σ:=sg []) ⟨⟨_,k,⟨k,k⟩⟩,⟨_,k,⟨k,k⟩⟩,(e1 k k),(e1 k k),trivial⟩ trivial k) ?_
    rcases cb h with ⟨q5,h⟩|⟨q5,h⟩
    ·refine aL k q5<|sQ<|rg<|aa k k<|an<|tn<|aP<|bB<|aK<|aK ?_
     obtain rfl:=so h
     exact ⟨_,k,k,aU k k k (bT k)⟩
    ·refine aS k q5<|aT<|bE<|tn<|rg<|am k k<|ae (bV k k) k<|aa k k<|an<|tn ?_
     obtain rfl:=so h
     exact ⟨_,k,(aE (σ:=sg []) ⟨⟨_,k,⟨k,k⟩⟩,⟨_,k,⟨k,k⟩⟩,(e1 k k),trivial⟩ trivial k)⟩
   ·refine aS k q2<|bG<|aH<|aH ?_
    obtain rfl:=so h
    exact ⟨_,k,k,(aE (σ:=sg []) trivial trivial k)⟩
  ·intro e t hX
   rcases y6 with y7|y8
   ·obtain ⟨rfl,hent⟩:=hX
    refine aW<|tn<|aO hent<|sQ<|rg<|aa k k<|an<|tn<|aP ?_
    obtain rfl:=so h
    exact aU k k k (bT k)
   ·obtain ⟨rfl,hent⟩:=hX
    refine bB<|aK ?_
    obtain rfl:=so h
    exact hent
def jD (a0:(List Int)) (a1:(List Int)) (x1:Int):Option (Int ⊕ (Unit ⊕ Bool)):=
 bif decide (x1<(a0.length:Int)) then
 (Option.bind (dV a0 x1) fun v3=>
 Option.bind (dV a1 x1) fun v4=>
 bif !decide (v3=v4) then
 (some (.inr (.inr (false))))
 else
 (some (.inl (wr (x1+1)))))
 else
 (some (.inr (.inl ())))
def lH (a0:(List Int)) (a1:(List Int)):Option Bool:=
 bif !decide ((a0.length:Int)=(a1.length:Int)) then
 (some (false))
 else
 (Option.bind (Lp (jD a0 a1) 0) fun y6=>
 Sum.elim (fun y7=>
 some (true)
 )
 (fun y8=>
 some y8
 )
 y6)
theorem zH (a0:(List Int)) (a1:(List Int)) (r:Bool) (h:lH a0 a1=some r):HasC Tryz.prog 118 [.list 1 (List.map eI a0),.list 1 (List.map eI a1)] (.bl r):=by
 refine bK aA (rvs:=[.tmp 4]) (ns:=[0,1]) Tryz.func118 k k Tryz.ntmps118 k k k<|sQ<|rg<|aa k k<|an<|tn<|sQ<|sQ<|rg<|am k k ?_
 refine ae (dD aA k k k) k<|am k k<|ae (dD aA k k k) k<|ae (bC k k k) k<|an<|tn ?_
 rcases cb h with ⟨q1,h⟩|⟨q1,h⟩
 ·refine aL k q1<|sQ<|rg<|aa k k<|an<|tn<|aP<|aK ?_
  obtain rfl:=so h
  exact aU k k k (bT k)
 ·refine aS k q1<|aT<|tn<|sQ<|sQ<|rg<|am k k<|ae (dD aA k k k) k<|am k k<|an ?_
  refine tn<|aN ?_
  obtain ⟨y6,hy6,h⟩:=ob h
  refine cU (body:=(jD a0 a1)) hy6 (fun (x1:Int)=>bU [(0,.list 1 (List.map eI a0)),(1,.list 1 (List.map eI a1)),(12,.int (a0.length:Int)),(13,.int x1)] [] 0 [0,1]) (fun r e t=>Sum.elim (fun a=>(fun r e t=>e= .exit 0∧Ent t (bU [] [] 0 [0,1])) a e t) (fun b=>(fun r e t=>e= .ret∧sA TT [.tmp 4] (.bl r) .ret t) b e t) r) (aE (σ:=sg []) ⟨⟨_,k,⟨k,k⟩⟩,⟨_,k,⟨k,k⟩⟩,(e1 k k),(e1 k k),trivial⟩ trivial k) ?_ ?_
  ·intro x1 o h
   refine sQ<|rg<|ae (bC k k k) k<|an<|tn<|sQ ?_
   rcases cb h with ⟨q2,h⟩|⟨q2,h⟩
   ·refine aL k q2<|aT<|tn<|sQ<|aN<|sQ<|rg<|am k k<|aa k k<|an ?_
    refine tn<|sQ<|aY jW<|am k k<|am k k ?_
    obtain ⟨v3,hv3,h⟩:=ob h
    refine ae (bH aA hv3 k k k k k k) k<|ae (aV aA k k k k k k) k<|am k k<|am k k ?_
    obtain ⟨v4,hv4,h⟩:=ob h
    refine ae (bH aA hv4 k k k k k k) k<|ae (aV aA k k k k k k) k<|ae (bC k k k) k<|an ?_
    refine ⟨by kernel_rfl,?_⟩
    refine tn<|aO (t:=bU [(0,.list 1 (List.map eI a0)),(1,.list 1 (List.map eI a1)),(12,.int (a0.length:Int)),(13,.int x1),(24,.bl (!decide (v3=v4)))] [] 0 [0,1]) (aE (σ:=sg []) ⟨⟨_,k,⟨k,k⟩⟩,⟨_,k,⟨k,k⟩⟩,(e1 k k),(e1 k k),(e1 k k),trivial⟩ trivial k) ?_
    rcases cb h with ⟨q5,h⟩|⟨q5,h⟩
    ·refine aL k q5<|sQ<|rg<|aa k k<|an<|tn<|aP<|bB<|aK<|aK ?_
     obtain rfl:=so h
     exact ⟨_,k,k,aU k k k (bT k)⟩
    ·refine aS k q5<|aT<|bE<|tn<|rg<|ae (bV k k) k<|am k k<|an<|tn ?_
     obtain rfl:=so h
     exact ⟨_,k,(aE (σ:=sg []) ⟨⟨_,k,⟨k,k⟩⟩,⟨_,k,⟨k,k⟩⟩,(e1 k k),(e1 k k),trivial⟩ trivial k)⟩
   ·refine aS k q2<|bG<|aH<|aH ?_
    obtain rfl:=so h
    exact ⟨_,k,k,(aE (σ:=sg []) trivial trivial k)⟩
  ·intro e t hX
   rcases y6 with y7|y8
   ·obtain ⟨rfl,hent⟩:=hX
    refine aW<|tn<|aO hent<|sQ<|rg<|aa k k<|an<|tn<|aP ?_
    obtain rfl:=so h
    exact aU k k k (bT k)
   ·obtain ⟨rfl,hent⟩:=hX
    refine bB<|aK ?_
    obtain rfl:=so h
    exact hent
def hJ (a0:Int):Option Bool:=
 bif decide (a0=2) then
 (some (true))
 else
 (bif decide (a0=3) then
 (some (true))
 else
 (some (decide (a0=5))))
theorem lI (a0:Int) (r:Bool) (h:hJ a0=some r):HasC Tryz.prog 161 [.int a0] (.bl r):=by
 refine bK aA (rvs:=[.tmp 2]) (ns:=[0,1]) Tryz.func161 k k Tryz.ntmps161 k k k<|sQ<|rg<|aa k k<|an<|tn<|sQ<|rg<|am k k<|ae (bC k k k) k ?_
 refine am k k ?_
 rcases cb h with ⟨q1,h⟩|⟨q1,h⟩
 ·refine aX 5 k q1<|ak k k<|ak k k<|ae (aJ k k) k<|am k k<|ak k k<|ak k k<|ae (aJ k k) k<|aa k k<|an ?_
  refine tn<|aO (t:=bU [(2,.bl true)] [] 0 [0,1]) (aE (σ:=sg []) ⟨(e1 k k),trivial⟩ trivial k)<|aP ?_
  obtain rfl:=so h
  exact aU k k k (bT k)
 ·refine aX 5 k q1<|am k k<|ae (bC k k k) k<|ae (aJ k k) k<|am k k ?_
  rcases cb h with ⟨q2,h⟩|⟨q2,h⟩
  ·refine aX 9 k q2<|ak k k<|ak k k<|ae (aJ k k) k<|aa k k<|an<|tn<|aO (t:=bU [(2,.bl true)] [] 0 [0,1]) (aE (σ:=sg []) ⟨(e1 k k),trivial⟩ trivial k)<|aP ?_
   obtain rfl:=so h
   exact aU k k k (bT k)
  ·refine aX 9 k q2<|am k k<|ae (bC k k k) k<|ae (aJ k k) k<|aa k k<|an<|tn<|aO (t:=bU [(2,.bl (decide (a0=5)))] [] 0 [0,1]) (aE (σ:=sg []) ⟨(e1 k k),trivial⟩ trivial k)<|aP ?_
   obtain rfl:=so h
   exact aU k k k (bT k)
def hO (a0:Int):Option Bool:=
 bif decide (a0=2) then
 (some (true))
 else
 (bif decide (a0=3) then
 (some (true))
 else
 (some (decide (a0=5))))
theorem lJ (a0:Int) (r:Bool) (h:hO a0=some r):HasC Tryz.prog 146 [.int a0] (.bl r):=by
 refine bK aA (rvs:=[.tmp 2]) (ns:=[0,1]) Tryz.func146 k k Tryz.ntmps146 k k k<|sQ<|rg<|aa k k<|an<|tn<|sQ<|rg<|am k k<|ae (bC k k k) k ?_
 refine am k k ?_
 rcases cb h with ⟨q1,h⟩|⟨q1,h⟩
 ·refine aX 5 k q1<|ak k k<|ak k k<|ae (aJ k k) k<|am k k<|ak k k<|ak k k<|ae (aJ k k) k<|aa k k<|an ?_
  refine tn<|aO (t:=bU [(2,.bl true)] [] 0 [0,1]) (aE (σ:=sg []) ⟨(e1 k k),trivial⟩ trivial k)<|aP ?_
  obtain rfl:=so h
  exact aU k k k (bT k)
 ·refine aX 5 k q1<|am k k<|ae (bC k k k) k<|ae (aJ k k) k<|am k k ?_
  rcases cb h with ⟨q2,h⟩|⟨q2,h⟩
  ·refine aX 9 k q2<|ak k k<|ak k k<|ae (aJ k k) k<|aa k k<|an<|tn<|aO (t:=bU [(2,.bl true)] [] 0 [0,1]) (aE (σ:=sg []) ⟨(e1 k k),trivial⟩ trivial k)<|aP ?_
   obtain rfl:=so h
   exact aU k k k (bT k)
  ·refine aX 9 k q2<|am k k<|ae (bC k k k) k<|ae (aJ k k) k<|aa k k<|an<|tn<|aO (t:=bU [(2,.bl (decide (a0=5)))] [] 0 [0,1]) (aE (σ:=sg []) ⟨(e1 k k),trivial⟩ trivial k)<|aP ?_
   obtain rfl:=so h
   exact aU k k k (bT k)
def mF (a0:Qv) (x1:Int):Option (Int ⊕ (Unit ⊕ Bool)):=
 bif decide (x1<(a0.src.length:Int)) then
 (bif decide (x1<(a0.tgt.length:Int)) then
 (Option.bind (dV a0.src x1) fun v3=>
 Option.bind (fD v3 0 (wr (a0.n - 1))) fun v4=>
 bif !v4 then
 (some (.inr (.inr (false))))
 else
 (Option.bind (dV a0.tgt x1) fun v6=>
 Option.bind (fD v6 0 (wr (a0.n - 1))) fun v7=>
 bif !v7 then
 (some (.inr (.inr (false))))
 else
 (some (.inl (wr (x1+1))))))
 else
 (some (.inr (.inl ()))))
 else
 (some (.inr (.inl ())))
def qY (a0:Qv):Option Bool:=
 Option.bind (Lp (mF a0) 0) fun y9=>
 Sum.elim (fun y10=>
 Option.bind (fD a0.n 1 5) fun v11=>
 bif v11 then
 (bif decide ((a0.src.length:Int)≤6) then
 (some (decide ((a0.tgt.length:Int)=(a0.src.length:Int))))
 else
 (some (false)))
 else
 (some (false))
 )
 (fun y14=>
 some y14
 )
 y9
theorem aFI (a0:Qv) (r:Bool) (h:qY a0=some r):HasC Tryz.prog 210 [.agg (eQ a0)] (.bl r):=by
 refine bK aA (rvs:=[.tmp 2]) (ns:=[0,1,2]) Tryz.func210 k k Tryz.ntmps210 k k k<|sQ<|rg<|ae (cC k k k k) k<|aa k k<|an<|tn<|sQ<|sQ<|rg ?_
 refine aa k k<|an<|tn<|aN ?_
 obtain ⟨y9,hy9,h⟩:=ob h
 refine cU (body:=(mF a0)) hy9 (fun (x1:Int)=>bU [(1,.ptr 0 0 0),(3,.int x1)] [(0,⟨3,[[.int a0.n,.list 1 (List.map eI a0.src),.list 1 (List.map eI a0.tgt)]]⟩)] 1 [1,2]) (fun r e t=>Sum.elim (fun a=>(fun r e t=>e= .exit 0∧Ent t (bU [(1,.ptr 0 0 0)] [(0,⟨3,[[.int a0.n,.list 1 (List.map eI a0.src),.list 1 (List.map eI a0.tgt)]]⟩)] 1 [1,2])) a e t) (fun b=>(fun r e t=>e= .ret∧sA TT [.tmp 2] (.bl r) .ret t) b e t) r) (aE (σ:=sg [(0,0)]) ⟨(pE k k),(e1 k k),trivial⟩ (hP k k k k<|trivial) k) ?_ ?_
 ·intro x1 o h
  refine sQ<|sQ<|rg<|am k k<|ae (aD aA k k k k k k k) k<|ae (aC aA k k k k k k k) k<|ae (dD aA k k k) k<|ae (bC k k k) k<|am k k ?_
  rcases cb h with ⟨q1,h⟩|⟨q1,h⟩
  ·refine aX 9 k q1<|am k k<|ae (aD aA k k k k k k k) k<|ae (aC aA k k k k k k k) k<|ae (dD aA k k k) k<|ae (bC k k k) k<|ae (aJ k k) k<|an<|tn<|aO (t:=bU [(1,.ptr 0 0 0),(3,.int x1),(15,.bl (decide (x1<(a0.tgt.length:Int))))] [(0,⟨3,[[.int a0.n,.list 1 (List.map eI a0.src),.list 1 (List.map eI a0.tgt)]]⟩)] 1 [1,2]) (aE (σ:=sg [(0,0)]) ⟨(pE k k),(e1 k k),(e1 k k),trivial⟩ (hP k k k k<|trivial) k) ?_
   rcases cb h with ⟨q2,h⟩|⟨q2,h⟩
   ·refine aL k q2<|aT<|tn<|sQ<|aN<|sQ<|aY jW<|ae (aD aA k k k k k k k) k<|ae (aC aA k k k k k k k) k<|am k k ?_
    obtain ⟨v3,hv3,h⟩:=ob h
    refine ae (bH aA hv3 k k k k k k) k<|ae (aV aA k k k k k k) k<|ae (aD aA k k k k k k k) k<|ae (aC aA k k k k k k k) k<|ae (iH k k) k ?_
    obtain ⟨v4,hv4,h⟩:=ob h
    refine ae (aZ (fV v3 0 (wr (a0.n - 1)) v4 hv4) k (aG (aI k) (aG (aI k) (aG (aI k) bA)))) k<|ae (cG k) k<|am k k ?_
    rcases cb h with ⟨q5,h⟩|⟨q5,h⟩
    ·refine aX 28 k q5<|ak k k<|ak k k<|ak k k<|ak k k<|ak k k<|ak k k<|ak k k<|ak k k<|ak k k ?_
     refine ak k k<|ae (aJ k k) k<|an ?_
     refine ⟨by kernel_rfl,?_⟩
     refine tn<|aO (t:=bU [(1,.ptr 0 0 0),(3,.int x1),(39,.bl true)] [(0,⟨3,[[.int a0.n,.list 1 (List.map eI a0.src),.list 1 (List.map eI a0.tgt)]]⟩)] 1 [1,2]) (aE (σ:=sg [(0,0)]) ⟨(pE k k),(e1 k k),(e1 k k),trivial⟩ (hP k k k k<|trivial) k)<|aL k k<|sQ<|rg<|aa k k<|an<|tn<|aP<|bB ?_
     refine aK<|aK ?_
     obtain rfl:=so h
     exact ⟨_,k,k,aU k k k (bT k)⟩
    ·refine aX 28 k q5<|ae (aD aA k k k k k k k) k<|ae (aC aA k k k k k k k) k<|am k k ?_
     obtain ⟨v6,hv6,h⟩:=ob h
     refine ae (bH aA hv6 k k k k k k) k<|ae (aV aA k k k k k k) k<|ae (aD aA k k k k k k k) k<|ae (aC aA k k k k k k k) k<|ae (iH k k) k ?_
     obtain ⟨v7,hv7,h⟩:=ob h
     refine ae (aZ (fV v6 0 (wr (a0.n - 1)) v7 hv7) k (aG (aI k) (aG (aI k) (aG (aI k) bA)))) k<|ae (cG k) k<|ae (aJ k k) k<|an ?_
     refine ⟨by kernel_rfl,?_⟩
     refine tn<|aO (t:=bU [(1,.ptr 0 0 0),(3,.int x1),(39,.bl (!v7))] [(0,⟨3,[[.int a0.n,.list 1 (List.map eI a0.src),.list 1 (List.map eI a0.tgt)]]⟩)] 1 [1,2]) (aE (σ:=sg [(0,0)]) ⟨(pE k k),(e1 k k),(e1 k k),trivial⟩ (hP k k k k<|trivial) k) ?_
     rcases cb h with ⟨q8,h⟩|⟨q8,h⟩
     ·refine aL k q8<|sQ<|rg<|aa k k<|an<|tn<|aP<|bB<|aK<|aK ?_
      obtain rfl:=so h
      exact ⟨_,k,k,aU k k k (bT k)⟩
     ·refine aS k q8<|aT<|bE<|tn<|rg<|am k k<|ae (bV k k) k<|aa k k<|an<|tn ?_
      obtain rfl:=so h
      exact ⟨_,k,(aE (σ:=sg [(0,0)]) ⟨(pE k k),(e1 k k),trivial⟩ (hP k k k k<|trivial) k)⟩
   ·refine aS k q2<|bG<|aH<|aH ?_
    obtain rfl:=so h
    exact ⟨_,k,k,(aE (σ:=sg [(0,0)]) ⟨(pE k k),trivial⟩ (hP k k k k<|trivial) k)⟩
  ·refine aX 9 k q1<|ak k k<|ak k k<|ak k k<|ak k k<|ak k k<|ae (aJ k k) k<|an<|tn<|aO (t:=bU [(1,.ptr 0 0 0),(3,.int x1),(15,.bl false)] [(0,⟨3,[[.int a0.n,.list 1 (List.map eI a0.src),.list 1 (List.map eI a0.tgt)]]⟩)] 1 [1,2]) (aE (σ:=sg [(0,0)]) ⟨(pE k k),(e1 k k),(e1 k k),trivial⟩ (hP k k k k<|trivial) k) ?_
   refine aS k k<|bG<|aH<|aH ?_
   obtain rfl:=so h
   exact ⟨_,k,k,(aE (σ:=sg [(0,0)]) ⟨(pE k k),trivial⟩ (hP k k k k<|trivial) k)⟩
 ·intro e t hX
  rcases y9 with y10|y14
  ·obtain ⟨rfl,hent⟩:=hX
   refine aW<|tn<|aO hent<|sQ<|rg<|ae (aD aA k k k k k k k) k<|ae (aC aA k k k k k k k) k ?_
   obtain ⟨v11,hv11,h⟩:=ob h
   refine ae (aZ (fV a0.n 1 5 v11 hv11) k (aG (aI k) (aG (aI k) (aG (aI k) bA)))) k<|am k k ?_
   rcases cb h with ⟨q12,h⟩|⟨q12,h⟩
   ·refine aX 43 k q12<|ae (aD aA k k k k k k k) k<|ae (aC aA k k k k k k k) k<|ae (dD aA k k k) k<|ae (bC k k k) k<|ae (aJ k k) k<|am k k ?_
    rcases cb h with ⟨q13,h⟩|⟨q13,h⟩
    ·refine aX 49 k q13<|ae (aD aA k k k k k k k) k<|ae (aC aA k k k k k k k) k<|ae (dD aA k k k) k<|ae (aD aA k k k k k k k) k<|ae (aC aA k k k k k k k) k<|ae (dD aA k k k) k<|ae (bC k k k) k<|ae (aJ k k) k<|aa k k ?_
     refine an<|tn<|aO (t:=bU [(2,.bl (decide ((a0.tgt.length:Int)=(a0.src.length:Int))))] [] 1 [1,2]) (aE (σ:=sg []) ⟨(e1 k k),trivial⟩ trivial k)<|aP ?_
     obtain rfl:=so h
     exact aU k k k (bT k)
    ·refine aX 49 k q13<|ak k k<|ak k k<|ak k k<|ak k k<|ak k k<|ak k k<|ak k k<|ae (aJ k k) k<|aa k k ?_
     refine an<|tn<|aO (t:=bU [(2,.bl false)] [] 1 [1,2]) (aE (σ:=sg []) ⟨(e1 k k),trivial⟩ trivial k)<|aP ?_
     obtain rfl:=so h
     exact aU k k k (bT k)
   ·refine aX 43 k q12<|ak k k<|ak k k<|ak k k<|ak k k<|ae (aJ k k) k<|am k k<|ak k k<|ak k k<|ak k k ?_
    refine ak k k<|ak k k<|ak k k<|ak k k<|ae (aJ k k) k<|aa k k<|an<|tn<|aO (t:=bU [(2,.bl false)] [] 1 [1,2]) (aE (σ:=sg []) ⟨(e1 k k),trivial⟩ trivial k)<|aP ?_
    obtain rfl:=so h
    exact aU k k k (bT k)
  ·obtain ⟨rfl,hent⟩:=hX
   refine bB<|aK ?_
   obtain rfl:=so h
   exact hent
def tC (a0:Int) (a1:Int):Option Mt:=
 bif (decide (0≤wr (a0*a1))&&decide (wr (a0*a1)≤1048576)) then
 (some ((⟨a0,a1,(List.replicate ((wr (a0*a1)).toNat) (0:Int))⟩:Mt)))
 else none
theorem aAs (a0:Int) (a1:Int) (r:Mt) (h:tC a0 a1=some r):HasC Tryz.prog 189 [.int a0,.int a1] (.agg (eM r)):=by
 refine bK aA (rvs:=[.cell 4 113]) (ns:=[0,1,2,3]) Tryz.func189 k k Tryz.ntmps189 k k k<|sQ<|rg<|ae (bX aA k k) k<|an<|tn<|sQ<|rg<|am k k<|am k k ?_
 refine am k k<|am k k<|ae (fP k k) k ?_
 obtain ⟨q1,h⟩:=cg h
 refine ae (aAJ aA q1 k k k k k k k k) k<|ae (cQ aA k k k k k k) k<|ae (bP aA k k k k k k k k) k<|an<|tn<|aO (t:=bU [(4,.ptr 0 0 0)] [(0,⟨3,[[.int a0,.int a1,.own 1 0 ((List.replicate ((wr (a0*a1)).toNat) (0:Int)).length)]]⟩),(1,⟨1,List.map (ow eI) (List.replicate ((wr (a0*a1)).toNat) (0:Int))⟩)] 2 [2,3]) (aE (σ:=sg [(0,0),(1,1)]) ⟨(pE k k),trivial⟩ (hX ⟨_,k,k,.inr ⟨_,_,k,⟨_,_,k,k,⟨_,_,k,k,⟨_,_,k,⟨k,k,(by simp only [bD,lA,lT,lR,lC,lN]),k⟩,k⟩⟩⟩,k⟩⟩ k<|hX ⟨_,k,k,.inl ⟨aAn (e:=eI) (z:=0) _,eD.plainO _⟩⟩ k<|trivial) k)<|aP ?_
 obtain rfl:=so h
 exact aU k k k (qN (cD (k) (cD (k) (cD (iQ eD k k) gZ))))
def vH (a0:Int) (a1:Int):Option Mt:=
 bif (decide (0≤wr (a0*a1))&&decide (wr (a0*a1)≤1048576)) then
 (some ((⟨a0,a1,(List.replicate ((wr (a0*a1)).toNat) (0:Int))⟩:Mt)))
 else none
theorem aHS (a0:Int) (a1:Int) (r:Mt) (h:vH a0 a1=some r):HasC Tryz.prog 201 [.int a0,.int a1] (.agg (eM r)):=by
 refine bK aA (rvs:=[.cell 4 113]) (ns:=[0,1,2,3]) Tryz.func201 k k Tryz.ntmps201 k k k<|sQ<|rg<|ae (bX aA k k) k<|an<|tn<|sQ<|rg<|am k k<|am k k ?_
 refine am k k<|am k k<|ae (fP k k) k ?_
 obtain ⟨q1,h⟩:=cg h
 refine ae (aAJ aA q1 k k k k k k k k) k<|ae (cQ aA k k k k k k) k<|ae (bP aA k k k k k k k k) k<|an<|tn<|aO (t:=bU [(4,.ptr 0 0 0)] [(0,⟨3,[[.int a0,.int a1,.own 1 0 ((List.replicate ((wr (a0*a1)).toNat) (0:Int)).length)]]⟩),(1,⟨1,List.map (ow eI) (List.replicate ((wr (a0*a1)).toNat) (0:Int))⟩)] 2 [2,3]) (aE (σ:=sg [(0,0),(1,1)]) ⟨(pE k k),trivial⟩ (hX ⟨_,k,k,.inr ⟨_,_,k,⟨_,_,k,k,⟨_,_,k,k,⟨_,_,k,⟨k,k,(by simp only [bD,lA,lT,lR,lC,lN]),k⟩,k⟩⟩⟩,k⟩⟩ k<|hX ⟨_,k,k,.inl ⟨aAn (e:=eI) (z:=0) _,eD.plainO _⟩⟩ k<|trivial) k)<|aP ?_
 obtain rfl:=so h
 exact aU k k k (qN (cD (k) (cD (k) (cD (iQ eD k k) gZ))))
def dM (a0:Mt) (a1:Int):Option Unit:=
 bif (decide (0≤wr (a1*a0.cols))&&(decide (wr (a1*a0.cols)≤wr ((wr (a1+1))*a0.cols))&&decide (wr ((wr (a1+1))*a0.cols)≤((a0.cells.length:Nat):Int)))) then
 (some ())
 else none
theorem eK (a0:Mt) (a1:Int) (r:Unit) (h:dM a0 a1=some r):HasE Tryz.prog 190 [.agg [.int a0.rows,.int a0.cols,.own 0 0 a0.cells.length],.int a1] [(0,⟨1,List.map (ow eI) a0.cells⟩)] 1 (.own 0 (0+(wr (a1*a0.cols)).toNat) ((wr ((wr (a1+1))*a0.cols)).toNat - (wr (a1*a0.cols)).toNat)) [(0,⟨1,List.map (ow eI) a0.cells⟩)]:=by
 refine tM aA (rvs:=[.tmp 4]) (ns:=[1,2,3]) Tryz.func190 k k Tryz.ntmps190 k k<|sQ<|rg<|ae (cC k k k k) k<|aa k k<|an<|tn<|sQ<|rg<|ae (aD aA k k k k k k k) k ?_
 refine ae (aC aA k k k k k k k) k<|am k k<|ae (aD aA k k k k k k k) k<|ae (aC aA k k k k k k k) k<|ae (fP k k) k<|am k k<|ae (bV k k) k<|ae (aD aA k k k k k k k) k<|ae (aC aA k k k k k k k) k<|ae (fP k k) k ?_
 obtain ⟨q1,h⟩:=cg h
 refine ae (yF aA (l:=wr (a1*a0.cols)) (h:=wr ((wr (a1+1))*a0.cols)) q1 k k k k k k k k) k<|aa k k<|an<|tn<|aO (t:=bU [(4,.own 0 (0+(wr (a1*a0.cols)).toNat) ((wr ((wr (a1+1))*a0.cols)).toNat - (wr (a1*a0.cols)).toNat))] [(0,⟨1,List.map (ow eI) a0.cells⟩)] 2 [2,3] 1) (aE (σ:=sg [(0,0)]) ⟨(oE k k),trivial⟩ (hI k k k<|trivial) k)<|aP ?_
 obtain rfl:=so h
 exact ⟨bU [(4,.own 0 (0+(wr (a1*a0.cols)).toNat) ((wr ((wr (a1+1))*a0.cols)).toNat - (wr (a1*a0.cols)).toNat))] [(0,⟨1,List.map (ow eI) a0.cells⟩)] 1 [1,2,3] 1,(aE (σ:=sg [(0,0)]) ⟨(oE k k),trivial⟩ (hI k k k<|trivial) k),k,⟨_,k,.inl k⟩,⟨k,trivial⟩⟩
def jQ (a0:Int) (a2:Int) (a3:(List Int)) (n1:Nat) (s1:Nat) (x1:((List Int)×Int)):Option (((List Int)×Int) ⊕ (List Int)):=
 bif decide (x1.2<(a3.length:Int)) then
 (Option.bind (dV a3 x1.2) fun v2=>
 bif (decide (0≤x1.2)&&decide (x1.2<((n1:Nat):Int))) then
 (Option.bind (x1.1[(s1+x1.2.toNat)]?) fun v3=>
 bif !decide (a0=0) then
 (bif (decide (0≤x1.2)&&decide (x1.2<((n1:Nat):Int))) then
 (Option.bind (x1.1[(s1+x1.2.toNat)]?) fun v5=>
 some (.inl ((x1.1.set (s1+x1.2.toNat) ((wr (v3+(wr (a2*v2)))).tmod a0)),wr (x1.2+1)))
 )
 else none)
 else none
 )
 else none)
 else
 (some (.inr x1.1))
def gR (a0:Int) (c0:(List Int)) (s1:Nat) (n1:Nat) (a2:Int) (a3:(List Int)):Option (List Int):=
 Option.bind (Lp (jQ a0 a2 a3 n1 s1) (c0,0)) fun y8=>
 some y8
theorem xG (a0:Int) (c0:(List Int)) (s1:Nat) (n1:Nat) (a2:Int) (a3:(List Int)) (r:(List Int)) (h:gR a0 c0 s1 n1 a2 a3=some r):HasE Tryz.prog 207 [.int a0,.own 0 s1 n1,.int a2,.list 1 (List.map eI a3)] [(0,⟨1,List.map (ow eI) c0⟩)] 1 (.own 0 s1 n1) [(0,⟨1,List.map (ow eI) r⟩)]:=by
 refine tM aA (rvs:=[.tmp 8]) (ns:=[1,2]) Tryz.func207 k k Tryz.ntmps207 k k<|sQ<|rg<|aa k k<|an<|tn<|sQ<|sQ<|rg<|am k k ?_
 refine ae (dD aA k k k) k<|am k k<|an<|tn<|aN ?_
 obtain ⟨y8,hy8,h⟩:=ob h
 refine cU (body:=(jQ a0 a2 a3 n1 s1)) hy8 (fun (x1:((List Int)×Int))=>bU [(0,.int a0),(1,.own 0 s1 n1),(2,.int a2),(11,.list 1 (List.map eI a3)),(12,.int (a3.length:Int)),(13,.int x1.2)] [(0,⟨1,List.map (ow eI) x1.1⟩)] 1 [1,2] 1) (fun r e t=>e= .exit 0∧Ent t (bU [(1,.own 0 s1 n1)] [(0,⟨1,List.map (ow eI) r⟩)] 1 [1,2] 1)) (aE (σ:=sg [(0,0)]) ⟨(e1 k k),(oE k k),(e1 k k),⟨_,k,⟨k,k⟩⟩,(e1 k k),(e1 k k),trivial⟩ (hI k k k<|trivial) k) ?_ ?_
 ·intro x1 o h
  refine sQ<|rg<|ae (bC k k k) k<|an<|tn<|sQ ?_
  rcases cb h with ⟨q1,h⟩|⟨q1,h⟩
  ·refine aL k q1<|aT<|tn<|sQ<|aN<|sQ<|rg<|am k k ?_
   obtain ⟨v2,hv2,h⟩:=ob h
   refine ae (bH aA hv2 k k k k k k) k<|ae (aV aA k k k k k k) k<|aa k k<|aa k k<|an<|tn<|rg<|am k k<|am k k<|am k k ?_
   refine am k k ?_
   obtain ⟨q4,h⟩:=cg h
   obtain ⟨v3,hv3,h⟩:=ob h
   refine ae (gM aA q4 k k k k k k k) k<|ae (aC aA k k k k (cL (hv3)) k k) k<|am k k<|am k k<|ae (fP k k) k<|ae (bV k k) k<|am k k ?_
   obtain ⟨q7,h⟩:=cg h
   refine ae (aDB k k q7) k ?_
   obtain ⟨q6,h⟩:=cg h
   obtain ⟨v5,hv5,h⟩:=ob h
   refine ae (gM aA q6 k k k k k k k) k<|ae (iI aA tG (u:=(wr (v3+(wr (a2*v2)))).tmod a0) (hv5) k k k k k k) k<|an<|bE<|tn<|aO (t:=bU [(0,.int a0),(1,.own 0 s1 n1),(2,.int a2),(11,.list 1 (List.map eI a3)),(12,.int (a3.length:Int)),(13,.int x1.2)] [(0,⟨1,List.map (ow eI) (x1.1.set (s1+x1.2.toNat) ((wr (v3+(wr (a2*v2)))).tmod a0))⟩)] 1 [1,2] 1) (aE (σ:=sg [(0,0)]) ⟨(e1 k k),(oE k k),(e1 k k),⟨_,k,⟨k,k⟩⟩,(e1 k k),(e1 k k),trivial⟩ (hI k k k<|trivial) k)<|rg<|ae (bV k k) k<|am k k<|an ?_
   refine tn ?_
   obtain rfl:=so h
   exact ⟨_,k,(aE (σ:=sg [(0,0)]) ⟨(e1 k k),(oE k k),(e1 k k),⟨_,k,⟨k,k⟩⟩,(e1 k k),(e1 k k),trivial⟩ (hI k k k<|trivial) k)⟩
  ·refine aS k q1<|bG<|aH<|aH ?_
   obtain rfl:=so h
   exact ⟨_,k,k,(aE (σ:=sg [(0,0)]) ⟨(oE k k),trivial⟩ (hI k k k<|trivial) k)⟩
 ·rintro e t ⟨rfl,hent⟩
  refine aW<|tn<|aO hent<|sQ<|rg<|am k k<|aa k k<|an<|tn<|aP ?_
  obtain rfl:=so h
  exact ⟨bU [(8,.own 0 s1 n1)] [(0,⟨1,List.map (ow eI) y8⟩)] 1 [1,2] 1,(aE (σ:=sg [(0,0)]) ⟨(oE k k),trivial⟩ (hI k k k<|trivial) k),k,⟨_,k,.inl k⟩,⟨k,trivial⟩⟩
def gI (a0:Int) (a2:Int) (n1:Nat) (n3:Nat) (s1:Nat) (s3:Nat) (x1:((List Int)×Int)):Option (((List Int)×Int) ⊕ (List Int)):=
 bif decide (x1.2<((n3:Nat):Int)) then
 (bif (decide (0≤x1.2)&&decide (x1.2<((n3:Nat):Int))) then
 (Option.bind (x1.1[(s3+x1.2.toNat)]?) fun v2=>
 bif (decide (0≤x1.2)&&decide (x1.2<((n1:Nat):Int))) then
 (Option.bind (x1.1[(s1+x1.2.toNat)]?) fun v4=>
 bif !decide (a0=0) then
 (bif (decide (0≤x1.2)&&decide (x1.2<((n1:Nat):Int))) then
 (Option.bind (x1.1[(s1+x1.2.toNat)]?) fun v6=>
 some (.inl ((x1.1.set (s1+x1.2.toNat) ((wr (v4+(wr (a2*v2)))).tmod a0)),wr (x1.2+1)))
 )
 else none)
 else none
 )
 else none
 )
 else none)
 else
 (some (.inr x1.1))
def iJ (a0:Int) (c0:(List Int)) (s1:Nat) (n1:Nat) (a2:Int) (s3:Nat) (n3:Nat):Option (List Int):=
 Option.bind (Lp (gI a0 a2 n1 n3 s1 s3) (c0,0)) fun y9=>
 some y9
theorem zJ (a0:Int) (c0:(List Int)) (s1:Nat) (n1:Nat) (a2:Int) (s3:Nat) (n3:Nat) (r:(List Int)) (h:iJ a0 c0 s1 n1 a2 s3 n3=some r):HasE Tryz.prog 207 [.int a0,.own 0 s1 n1,.int a2,.own 0 s3 n3] [(0,⟨1,List.map (ow eI) c0⟩)] 1 (.own 0 s1 n1) [(0,⟨1,List.map (ow eI) r⟩)]:=by
 refine tM aA (rvs:=[.tmp 8]) (ns:=[1,2]) Tryz.func207 k k Tryz.ntmps207 k k<|sQ<|rg<|aa k k<|an<|tn<|sQ<|sQ<|rg<|am k k ?_
 refine ae (bW aA k k k k) k<|am k k<|an<|tn<|aN ?_
 obtain ⟨y9,hy9,h⟩:=ob h
 refine cU (body:=(gI a0 a2 n1 n3 s1 s3)) hy9 (fun (x1:((List Int)×Int))=>bU [(0,.int a0),(1,.own 0 s1 n1),(2,.int a2),(11,.own 0 s3 n3),(12,.int ((n3:Nat):Int)),(13,.int x1.2)] [(0,⟨1,List.map (ow eI) x1.1⟩)] 1 [1,2] 1) (fun r e t=>e= .exit 0∧Ent t (bU [(1,.own 0 s1 n1)] [(0,⟨1,List.map (ow eI) r⟩)] 1 [1,2] 1)) (aE (σ:=sg [(0,0)]) ⟨(e1 k k),(oE k k),(e1 k k),(oE k k),(e1 k k),(e1 k k),trivial⟩ (hI k k k<|trivial) k) ?_ ?_
 ·intro x1 o h
  refine sQ<|rg<|ae (bC k k k) k<|an<|tn<|sQ ?_
  rcases cb h with ⟨q1,h⟩|⟨q1,h⟩
  ·refine aL k q1<|aT<|tn<|sQ<|aN<|sQ<|rg<|am k k ?_
   obtain ⟨q3,h⟩:=cg h
   obtain ⟨v2,hv2,h⟩:=ob h
   refine ae (gM aA q3 k k k k k k k) k<|ae (aC aA k k k k (cL (hv2)) k k) k<|aa k k<|aa k k<|an<|tn<|rg<|am k k<|am k k<|am k k ?_
   refine am k k ?_
   obtain ⟨q5,h⟩:=cg h
   obtain ⟨v4,hv4,h⟩:=ob h
   refine ae (gM aA q5 k k k k k k k) k<|ae (aC aA k k k k (cL (hv4)) k k) k<|am k k<|am k k<|ae (fP k k) k<|ae (bV k k) k<|am k k ?_
   obtain ⟨q8,h⟩:=cg h
   refine ae (aDB k k q8) k ?_
   obtain ⟨q7,h⟩:=cg h
   obtain ⟨v6,hv6,h⟩:=ob h
   refine ae (gM aA q7 k k k k k k k) k<|ae (iI aA tG (u:=(wr (v4+(wr (a2*v2)))).tmod a0) (hv6) k k k k k k) k<|an<|bE<|tn<|aO (t:=bU [(0,.int a0),(1,.own 0 s1 n1),(2,.int a2),(11,.own 0 s3 n3),(12,.int ((n3:Nat):Int)),(13,.int x1.2)] [(0,⟨1,List.map (ow eI) (x1.1.set (s1+x1.2.toNat) ((wr (v4+(wr (a2*v2)))).tmod a0))⟩)] 1 [1,2] 1) (aE (σ:=sg [(0,0)]) ⟨(e1 k k),(oE k k),(e1 k k),(oE k k),(e1 k k),(e1 k k),trivial⟩ (hI k k k<|trivial) k)<|rg<|ae (bV k k) k<|am k k<|an ?_
   refine tn ?_
   obtain rfl:=so h
   exact ⟨_,k,(aE (σ:=sg [(0,0)]) ⟨(e1 k k),(oE k k),(e1 k k),(oE k k),(e1 k k),(e1 k k),trivial⟩ (hI k k k<|trivial) k)⟩
  ·refine aS k q1<|bG<|aH<|aH ?_
   obtain rfl:=so h
   exact ⟨_,k,k,(aE (σ:=sg [(0,0)]) ⟨(oE k k),trivial⟩ (hI k k k<|trivial) k)⟩
 ·rintro e t ⟨rfl,hent⟩
  refine aW<|tn<|aO hent<|sQ<|rg<|am k k<|aa k k<|an<|tn<|aP ?_
  obtain rfl:=so h
  exact ⟨bU [(8,.own 0 s1 n1)] [(0,⟨1,List.map (ow eI) y9⟩)] 1 [1,2] 1,(aE (σ:=sg [(0,0)]) ⟨(oE k k),trivial⟩ (hI k k k<|trivial) k),k,⟨_,k,.inl k⟩,⟨k,trivial⟩⟩
def kF (a0:Int) (a1:Int):Option Int:=
 bif !decide (a0=0) then
 (bif decide (a1.tmod a0<0) then
 (some (wr ((a1.tmod a0)+a0)))
 else
 (some (a1.tmod a0)))
 else none
theorem tQ (a0:Int) (a1:Int) (r:Int) (h:kF a0 a1=some r):HasC Tryz.prog 202 [.int a0,.int a1] (.int r):=by
 refine bK aA (rvs:=[.tmp 4]) (ns:=[0,1]) Tryz.func202 k k Tryz.ntmps202 k k k<|sQ<|rg<|aa k k<|an<|tn<|sQ<|rg<|am k k<|am k k ?_
 obtain ⟨q2,h⟩:=cg h
 refine ae (aDB k k q2) k<|aa k k<|an<|tn<|sQ<|sQ<|rg<|am k k<|ae (bC k k k) k<|an ?_
 refine tn ?_
 rcases cb h with ⟨q1,h⟩|⟨q1,h⟩
 ·refine aL k q1<|rg<|am k k<|am k k<|ae (bV k k) k<|aa k k<|an<|tn<|sQ<|rg ?_
  refine am k k<|aa k k<|an<|tn<|aO (t:=bU [(4,.int (wr ((a1.tmod a0)+a0)))] [] 0 [0,1]) (aE (σ:=sg []) ⟨(e1 k k),trivial⟩ trivial k)<|aP ?_
  obtain rfl:=so h
  exact aU k k k (cJ k)
 ·refine aS k q1<|aT<|tn<|sQ<|rg<|am k k<|aa k k<|an<|tn<|aP ?_
  obtain rfl:=so h
  exact aU k k k (cJ k)
def kG (a1:Mt) (a2:Mt) (x1:((List Int)×Int)) (x2:((List Int)×Int)) (x3:(Int×Int)):Option ((Int×Int) ⊕ Int):=
 bif decide (x3.2<a1.cols) then
 (Option.bind (dV a1.cells (wr ((wr (x1.2*a1.cols))+x3.2))) fun v5=>
 Option.bind (dV a2.cells (wr ((wr (x3.2*a2.cols))+x2.2))) fun v6=>
 some (.inl (wr (x3.1+(wr (v5*v6))),wr (x3.2+1))))
 else
 (some (.inr x3.1))
def kH (a0:Int) (a1:Mt) (a2:Mt) (x1:((List Int)×Int)) (x2:((List Int)×Int)):Option (((List Int)×Int) ⊕ (List Int)):=
 bif decide (x2.2<a2.cols) then
 (Option.bind (Lp (kG a1 a2 x1 x2) (0,0)) fun y7=>
 Option.bind (kF a0 y7) fun v8=>
 Option.bind (dV x2.1 (wr ((wr (x1.2*a2.cols))+x2.2))) fun v9=>
 some (.inl ((x2.1.set ((wr ((wr (x1.2*a2.cols))+x2.2)).toNat) v8),wr (x2.2+1))))
 else
 (some (.inr x2.1))
def kI (a0:Int) (a1:Mt) (a2:Mt) (x1:((List Int)×Int)):Option (((List Int)×Int) ⊕ (List Int)):=
 bif decide (x1.2<a1.rows) then
 (Option.bind (Lp (kH a0 a1 a2 x1) (x1.1,0)) fun y10=>
 some (.inl (y10,wr (x1.2+1))))
 else
 (some (.inr x1.1))
def nW (a0:Int) (a1:Mt) (a2:Mt):Option Mt:=
 Option.bind (vH a1.rows a2.cols) fun v1=>
 Option.bind (Lp (kI a0 a1 a2) (v1.cells,0)) fun y11=>
 some ((⟨v1.rows,v1.cols,y11⟩:Mt))
theorem aDI (a0:Int) (a1:Mt) (a2:Mt) (r:Mt) (h:nW a0 a1 a2=some r):HasC Tryz.prog 145 [.int a0,.agg (eM a1),.agg (eM a2)] (.agg (eM r)):=by
 refine bK aA (rvs:=[.cell 6 113]) (ns:=[0,1,2,3,4,5,6]) Tryz.func145 k k Tryz.ntmps145 k k k<|sQ<|rg<|ae (cC k k k k) k<|ae (cC k k k k) k<|ae (bX aA k k) k<|an<|tn<|sQ<|rg ?_
 refine ae (aD aA k k k k k k k) k<|ae (aC aA k k k k k k k) k<|ae (aD aA k k k k k k k) k<|ae (aC aA k k k k k k k) k ?_
 obtain ⟨v1,hv1,h⟩:=ob h
 refine ae (AEff.conv (cR (x:= .agg [.int v1.rows,.int v1.cols,.own 3 0 (List.map eI v1.cells).length]) (nb:=[(3,⟨1,cX (List.map eI v1.cells)⟩)]) (aHS a1.rows a2.cols v1 hv1) k (by rfl) k k (bZ trivial (bZ trivial (bZ (eD.good _) gQ))) (aG (aI k) (aG (aI k) bA))) (v':= .agg [.int v1.rows,.int v1.cols,.own 3 0 v1.cells.length]) (ed':=[(3,some ⟨1,List.map (ow eI) v1.cells⟩)]) (by simp only [bD]) (eJ (nb':=[(3,⟨1,List.map (ow eI) v1.cells⟩)]) (by simp only [cT]))) k<|ae (bX aA k k) k<|ae (bP aA k k k k k k k k) k<|an<|tn<|sQ<|sQ<|rg<|aa k k<|an ?_
 refine tn<|aN ?_
 obtain ⟨y11,hy11,h⟩:=ob h
 refine cU (body:=(kI a0 a1 a2)) hy11 (fun (x1:((List Int)×Int))=>bU [(0,.int a0),(4,.ptr 0 0 0),(5,.ptr 1 0 0),(6,.ptr 2 0 0),(7,.ptr 3 0 0),(8,.int x1.2)] [(0,⟨3,[[.int a1.rows,.int a1.cols,.list 1 (List.map eI a1.cells)]]⟩),(1,⟨3,[[.int a2.rows,.int a2.cols,.list 1 (List.map eI a2.cells)]]⟩),(2,⟨3,[[.int 0,.int 0,.nil 1]]⟩),(3,⟨3,[[.int v1.rows,.int v1.cols,.own 4 0 x1.1.length]]⟩),(4,⟨1,List.map (ow eI) x1.1⟩)] 5 [5,6]) (fun r e t=>e= .exit 0∧Ent t (bU [(6,.ptr 0 0 0),(7,.ptr 1 0 0)] [(0,⟨3,[[.int 0,.int 0,.nil 1]]⟩),(1,⟨3,[[.int v1.rows,.int v1.cols,.own 2 0 r.length]]⟩),(2,⟨1,List.map (ow eI) r⟩)] 3 [3,4,5,6])) (aE (σ:=sg [(0,0),(1,1),(2,2),(3,4),(4,3)]) ⟨(e1 k k),(pE k k),(pE k k),(pE k k),(pE k k),(e1 k k),trivial⟩ (hP k k k k<|hP k k k k<|hP k k k k<|hX ⟨_,k,k,.inr ⟨_,_,k,⟨_,_,k,k,⟨_,_,k,k,⟨_,_,k,⟨k,k,k,k⟩,k⟩⟩⟩,k⟩⟩ k<|hI k k k<|trivial) k) ?_ ?_
 ·intro x1 o h
  refine sQ<|sQ<|rg<|am k k<|ae (aD aA k k k k k k k) k<|ae (aC aA k k k k k k k) k<|ae (bC k k k) k<|an<|tn ?_
  rcases cb h with ⟨q2,h⟩|⟨q2,h⟩
  ·refine aL k q2<|aT<|tn<|sQ<|aN<|sQ<|rg<|aa k k<|an<|tn ?_
   refine aN ?_
   obtain ⟨y10,hy10,h⟩:=ob h
   refine cU (body:=(kH a0 a1 a2 x1)) hy10 (fun (x2:((List Int)×Int))=>bU [(0,.int a0),(4,.ptr 0 0 0),(5,.ptr 1 0 0),(6,.ptr 2 0 0),(7,.ptr 3 0 0),(8,.int x1.2),(9,.int x2.2)] [(0,⟨3,[[.int a1.rows,.int a1.cols,.list 1 (List.map eI a1.cells)]]⟩),(1,⟨3,[[.int a2.rows,.int a2.cols,.list 1 (List.map eI a2.cells)]]⟩),(2,⟨3,[[.int 0,.int 0,.nil 1]]⟩),(3,⟨3,[[.int v1.rows,.int v1.cols,.own 4 0 x2.1.length]]⟩),(4,⟨1,List.map (ow eI) x2.1⟩)] 5 [5,6]) (fun r e t=>e= .exit 2∧Ent t (bU [(0,.int a0),(4,.ptr 0 0 0),(5,.ptr 1 0 0),(6,.ptr 2 0 0),(7,.ptr 3 0 0),(8,.int x1.2)] [(0,⟨3,[[.int a1.rows,.int a1.cols,.list 1 (List.map eI a1.cells)]]⟩),(1,⟨3,[[.int a2.rows,.int a2.cols,.list 1 (List.map eI a2.cells)]]⟩),(2,⟨3,[[.int 0,.int 0,.nil 1]]⟩),(3,⟨3,[[.int v1.rows,.int v1.cols,.own 4 0 r.length]]⟩),(4,⟨1,List.map (ow eI) r⟩)] 5 [5,6])) (aE (σ:=sg [(0,0),(1,1),(2,2),(3,3),(4,4)]) ⟨(e1 k k),(pE k k),(pE k k),(pE k k),(pE k k),(e1 k k),(e1 k k),trivial⟩ (hP k k k k<|hP k k k k<|hP k k k k<|hX ⟨_,k,k,.inr ⟨_,_,k,⟨_,_,k,k,⟨_,_,k,k,⟨_,_,k,⟨k,k,k,k⟩,k⟩⟩⟩,k⟩⟩ k<|hI k k k<|trivial) k) ?_ ?_
   ·intro x2 o h
    refine sQ<|sQ<|rg<|am k k<|ae (aD aA k k k k k k k) k<|ae (aC aA k k k k k k k) k<|ae (bC k k k) k<|an<|tn ?_
    rcases cb h with ⟨q3,h⟩|⟨q3,h⟩
    ·refine aL k q3<|aT<|tn<|sQ<|aN<|sQ<|rg<|aa k k<|an<|tn ?_
     refine sQ<|sQ<|rg<|aa k k<|an<|tn<|aN ?_
     obtain ⟨y7,hy7,h⟩:=ob h
     refine cU (body:=(kG a1 a2 x1 x2)) hy7 (fun (x3:(Int×Int))=>bU [(0,.int a0),(4,.ptr 0 0 0),(5,.ptr 1 0 0),(6,.ptr 2 0 0),(7,.ptr 3 0 0),(8,.int x1.2),(9,.int x2.2),(10,.int x3.1),(11,.int x3.2)] [(0,⟨3,[[.int a1.rows,.int a1.cols,.list 1 (List.map eI a1.cells)]]⟩),(1,⟨3,[[.int a2.rows,.int a2.cols,.list 1 (List.map eI a2.cells)]]⟩),(2,⟨3,[[.int 0,.int 0,.nil 1]]⟩),(3,⟨3,[[.int v1.rows,.int v1.cols,.own 4 0 x2.1.length]]⟩),(4,⟨1,List.map (ow eI) x2.1⟩)] 5 [5,6]) (fun r e t=>e= .exit 4∧Ent t (bU [(0,.int a0),(4,.ptr 0 0 0),(5,.ptr 1 0 0),(6,.ptr 2 0 0),(7,.ptr 3 0 0),(8,.int x1.2),(9,.int x2.2),(10,.int r)] [(0,⟨3,[[.int a1.rows,.int a1.cols,.list 1 (List.map eI a1.cells)]]⟩),(1,⟨3,[[.int a2.rows,.int a2.cols,.list 1 (List.map eI a2.cells)]]⟩),(2,⟨3,[[.int 0,.int 0,.nil 1]]⟩),(3,⟨3,[[.int v1.rows,.int v1.cols,.own 4 0 x2.1.length]]⟩),(4,⟨1,List.map (ow eI) x2.1⟩)] 5 [5,6])) (aE (σ:=sg [(0,0),(1,1),(2,2),(3,3),(4,4)]) ⟨(e1 k k),(pE k k),(pE k k),(pE k k),(pE k k),(e1 k k),(e1 k k),(e1 k k),(e1 k k),trivial⟩ (hP k k k k<|hP k k k k<|hP k k k k<|hX ⟨_,k,k,.inr ⟨_,_,k,⟨_,_,k,k,⟨_,_,k,k,⟨_,_,k,⟨k,k,k,k⟩,k⟩⟩⟩,k⟩⟩ k<|hI k k k<|trivial) k) ?_ ?_
     ·intro x3 o h
      refine sQ<|sQ<|rg<|am k k<|ae (aD aA k k k k k k k) k<|ae (aC aA k k k k k k k) k<|ae (bC k k k) k<|an<|tn ?_
      rcases cb h with ⟨q4,h⟩|⟨q4,h⟩
      ·refine aL k q4<|aT<|tn<|sQ<|aN<|aY jW<|am k k<|ae (aD aA k k k k k k k) k<|ae (aC aA k k k k k k k) k<|am k k ?_
       refine ae (aD aA k k k k k k k) k<|ae (aC aA k k k k k k k) k<|ae (fP k k) k<|am k k<|ae (bV k k) k ?_
       obtain ⟨v5,hv5,h⟩:=ob h
       refine ae (bH aA hv5 k k k k k k) k<|ae (aV aA k k k k k k) k<|ae (aD aA k k k k k k k) k<|ae (aC aA k k k k k k k) k<|am k k<|ae (aD aA k k k k k k k) k<|ae (aC aA k k k k k k k) k<|ae (fP k k) k<|am k k<|ae (bV k k) k ?_
       obtain ⟨v6,hv6,h⟩:=ob h
       refine ae (bH aA hv6 k k k k k k) k<|ae (aV aA k k k k k k) k<|ae (fP k k) k<|ae (bV k k) k<|aa k k<|an ?_
       refine ⟨by kernel_rfl,?_⟩
       refine bE<|tn<|aO (t:=bU [(0,.int a0),(4,.ptr 0 0 0),(5,.ptr 1 0 0),(6,.ptr 2 0 0),(7,.ptr 3 0 0),(8,.int x1.2),(9,.int x2.2),(10,.int (wr (x3.1+(wr (v5*v6))))),(11,.int x3.2)] [(0,⟨3,[[.int a1.rows,.int a1.cols,.list 1 (List.map eI a1.cells)]]⟩),(1,⟨3,[[.int a2.rows,.int a2.cols,.list 1 (List.map eI a2.cells)]]⟩),(2,⟨3,[[.int 0,.int 0,.nil 1]]⟩),(3,⟨3,[[.int v1.rows,.int v1.cols,.own 4 0 x2.1.length]]⟩),(4,⟨1,List.map (ow eI) x2.1⟩)] 5 [5,6]) (aE (σ:=sg [(0,0),(1,1),(2,2),(3,3),(4,4)]) ⟨(e1 k k),(pE k k),(pE k k),(pE k k),(pE k k),(e1 k k),(e1 k k),(e1 k k),(e1 k k),trivial⟩ (hP k k k k<|hP k k k k<|hP k k k k<|hX ⟨_,k,k,.inr ⟨_,_,k,⟨_,_,k,k,⟨_,_,k,k,⟨_,_,k,⟨k,k,k,k⟩,k⟩⟩⟩,k⟩⟩ k<|hI k k k<|trivial) k)<|rg<|am k k<|ae (bV k k) k<|aa k k<|an<|tn ?_
       obtain rfl:=so h
       exact ⟨_,k,(aE (σ:=sg [(0,0),(1,1),(2,2),(3,3),(4,4)]) ⟨(e1 k k),(pE k k),(pE k k),(pE k k),(pE k k),(e1 k k),(e1 k k),(e1 k k),(e1 k k),trivial⟩ (hP k k k k<|hP k k k k<|hP k k k k<|hX ⟨_,k,k,.inr ⟨_,_,k,⟨_,_,k,k,⟨_,_,k,k,⟨_,_,k,⟨k,k,k,k⟩,k⟩⟩⟩,k⟩⟩ k<|hI k k k<|trivial) k)⟩
      ·refine aS k q4<|bG<|aH<|aH ?_
       obtain rfl:=so h
       exact ⟨_,k,k,(aE (σ:=sg [(0,0),(1,1),(2,2),(3,3),(4,4)]) ⟨(e1 k k),(pE k k),(pE k k),(pE k k),(pE k k),(e1 k k),(e1 k k),(e1 k k),trivial⟩ (hP k k k k<|hP k k k k<|hP k k k k<|hX ⟨_,k,k,.inr ⟨_,_,k,⟨_,_,k,k,⟨_,_,k,k,⟨_,_,k,⟨k,k,k,k⟩,k⟩⟩⟩,k⟩⟩ k<|hI k k k<|trivial) k)⟩
     ·rintro e t ⟨rfl,hent⟩
      refine aW<|tn<|aO hent<|aY jW<|ae (aD aA k k k k k k k) k<|ae (aC aA k k k k k k k) k<|am k k<|ae (aD aA k k k k k k k) k<|ae (aC aA k k k k k k k) k<|ae (fP k k) k ?_
      refine am k k<|ae (bV k k) k<|am k k<|am k k ?_
      obtain ⟨v8,hv8,h⟩:=ob h
      refine ae (aZ (tQ a0 y7 v8 hv8) k (aG (aI k) (aG (aI k) bA))) k ?_
      obtain ⟨v9,hv9,h⟩:=ob h
      refine ae (cY aA (eU hv9) (eV hv9) k k k k k k k) k<|ae (iI aA tG (u:=v8) (dO hv9) k k k k k k) k<|an ?_
      refine ⟨by kernel_rfl,?_⟩
      refine bE<|tn<|aO (t:=bU [(0,.int a0),(4,.ptr 0 0 0),(5,.ptr 1 0 0),(6,.ptr 2 0 0),(7,.ptr 3 0 0),(8,.int x1.2),(9,.int x2.2)] [(0,⟨3,[[.int a1.rows,.int a1.cols,.list 1 (List.map eI a1.cells)]]⟩),(1,⟨3,[[.int a2.rows,.int a2.cols,.list 1 (List.map eI a2.cells)]]⟩),(2,⟨3,[[.int 0,.int 0,.nil 1]]⟩),(3,⟨3,[[.int v1.rows,.int v1.cols,.own 4 0 ((x2.1.set ((wr ((wr (x1.2*a2.cols))+x2.2)).toNat) v8).length)]]⟩),(4,⟨1,List.map (ow eI) (x2.1.set ((wr ((wr (x1.2*a2.cols))+x2.2)).toNat) v8)⟩)] 5 [5,6]) (aE (σ:=sg [(0,0),(1,1),(2,2),(3,3),(4,4)]) ⟨(e1 k k),(pE k k),(pE k k),(pE k k),(pE k k),(e1 k k),(e1 k k),trivial⟩ (hP k k k k<|hP k k k k<|hP k k k k<|hX ⟨_,k,k,.inr ⟨_,_,k,⟨_,_,k,k,⟨_,_,k,k,⟨_,_,k,⟨k,k,(by simp only [bD,lA,lT,lR,lC,lN]),k⟩,k⟩⟩⟩,k⟩⟩ k<|hI k k k<|trivial) k)<|rg<|am k k<|ae (bV k k) k<|aa k k<|an<|tn ?_
      obtain rfl:=so h
      exact ⟨_,k,(aE (σ:=sg [(0,0),(1,1),(2,2),(3,3),(4,4)]) ⟨(e1 k k),(pE k k),(pE k k),(pE k k),(pE k k),(e1 k k),(e1 k k),trivial⟩ (hP k k k k<|hP k k k k<|hP k k k k<|hX ⟨_,k,k,.inr ⟨_,_,k,⟨_,_,k,k,⟨_,_,k,k,⟨_,_,k,⟨k,k,k,k⟩,k⟩⟩⟩,k⟩⟩ k<|hI k k k<|trivial) k)⟩
    ·refine aS k q3<|bG<|aH<|aH ?_
     obtain rfl:=so h
     exact ⟨_,k,k,(aE (σ:=sg [(0,0),(1,1),(2,2),(3,3),(4,4)]) ⟨(e1 k k),(pE k k),(pE k k),(pE k k),(pE k k),(e1 k k),trivial⟩ (hP k k k k<|hP k k k k<|hP k k k k<|hX ⟨_,k,k,.inr ⟨_,_,k,⟨_,_,k,k,⟨_,_,k,k,⟨_,_,k,⟨k,k,k,k⟩,k⟩⟩⟩,k⟩⟩ k<|hI k k k<|trivial) k)⟩
   ·rintro e t ⟨rfl,hent⟩
    refine aW<|bE<|tn<|aO hent<|rg<|am k k<|ae (bV k k) k<|aa k k<|an<|tn ?_
    obtain rfl:=so h
    exact ⟨_,k,(aE (σ:=sg [(0,0),(1,1),(2,2),(3,3),(4,4)]) ⟨(e1 k k),(pE k k),(pE k k),(pE k k),(pE k k),(e1 k k),trivial⟩ (hP k k k k<|hP k k k k<|hP k k k k<|hX ⟨_,k,k,.inr ⟨_,_,k,⟨_,_,k,k,⟨_,_,k,k,⟨_,_,k,⟨k,k,k,k⟩,k⟩⟩⟩,k⟩⟩ k<|hI k k k<|trivial) k)⟩
  ·refine aS k q2<|bG<|aH<|aH ?_
   obtain rfl:=so h
   exact ⟨_,k,k,(aE (σ:=sg [(0,2),(1,3),(2,4)]) ⟨(pE k k),(pE k k),trivial⟩ (hP k k k k<|hX ⟨_,k,k,.inr ⟨_,_,k,⟨_,_,k,k,⟨_,_,k,k,⟨_,_,k,⟨k,k,k,k⟩,k⟩⟩⟩,k⟩⟩ k<|hI k k k<|trivial) k)⟩
 ·rintro e t ⟨rfl,hent⟩
  refine aW<|tn<|aO hent<|sQ<|rg<|ae (aC aA k k k k k k k) k<|ae (bP aA k k k k k k k k) k<|an<|tn<|aP ?_
  obtain rfl:=so h
  exact aU k k k (qN (cD (k) (cD (k) (cD (iQ eD k k) gZ))))
def kJ (a0:Int) (a1:Int) (x1:Int):Option (Int ⊕ (Unit ⊕ Int)):=
 bif decide (x1<a0) then
 (Option.bind (hJ a0) fun v2=>
 bif v2 then
 (Option.bind (kF a0 a1) fun v4=>
 Option.bind (kF a0 (wr (v4*x1))) fun v5=>
 bif decide (v5=1) then
 (some (.inr (.inr (x1))))
 else
 (some (.inl (wr (x1+1)))))
 else
 (some (.inr (.inl ()))))
 else
 (some (.inr (.inl ())))
def iK (a0:Int) (a1:Int):Option Int:=
 Option.bind (Lp (kJ a0 a1) 1) fun y7=>
 Sum.elim (fun y8=>
 some (0)
 )
 (fun y9=>
 some y9
 )
 y7
theorem aDJ (a0:Int) (a1:Int) (r:Int) (h:iK a0 a1=some r):HasC Tryz.prog 244 [.int a0,.int a1] (.int r):=by
 refine bK aA (rvs:=[.tmp 4]) (ns:=[0,1]) Tryz.func244 k k Tryz.ntmps244 k k k<|sQ<|rg<|aa k k<|an<|tn<|sQ<|sQ<|rg<|aa k k ?_
 refine an<|tn<|aN ?_
 obtain ⟨y7,hy7,h⟩:=ob h
 refine cU (body:=(kJ a0 a1)) hy7 (fun (x1:Int)=>bU [(0,.int a0),(1,.int a1),(5,.int x1)] [] 0 [0,1]) (fun r e t=>Sum.elim (fun a=>(fun r e t=>e= .exit 0∧Ent t (bU [] [] 0 [0,1])) a e t) (fun b=>(fun r e t=>e= .ret∧sA TT [.tmp 4] (.int r) .ret t) b e t) r) (aE (σ:=sg []) ⟨(e1 k k),(e1 k k),(e1 k k),trivial⟩ trivial k) ?_ ?_
 ·intro x1 o h
  refine sQ<|sQ<|rg<|am k k<|am k k<|ae (bC k k k) k<|am k k ?_
  rcases cb h with ⟨q1,h⟩|⟨q1,h⟩
  ·refine aX 9 k q1<|am k k ?_
   obtain ⟨v2,hv2,h⟩:=ob h
   refine ae (aZ (lI a0 v2 hv2) k (aG (aI k) bA)) k<|ae (aJ k k) k<|an<|tn ?_
   rcases cb h with ⟨q3,h⟩|⟨q3,h⟩
   ·refine aL k q3<|aT<|tn<|sQ<|aN<|sQ<|rg<|am k k<|am k k<|am k k ?_
    obtain ⟨v4,hv4,h⟩:=ob h
    refine ae (aZ (tQ a0 a1 v4 hv4) k (aG (aI k) (aG (aI k) bA))) k<|am k k<|ae (fP k k) k ?_
    obtain ⟨v5,hv5,h⟩:=ob h
    refine ae (aZ (tQ a0 (wr (v4*x1)) v5 hv5) k (aG (aI k) (aG (aI k) bA))) k<|ae (bC k k k) k<|an<|tn<|aO (t:=bU [(0,.int a0),(1,.int a1),(5,.int x1),(22,.bl (decide (v5=1)))] [] 0 [0,1]) (aE (σ:=sg []) ⟨(e1 k k),(e1 k k),(e1 k k),(e1 k k),trivial⟩ trivial k) ?_
    rcases cb h with ⟨q6,h⟩|⟨q6,h⟩
    ·refine aL k q6<|sQ<|rg<|am k k<|aa k k<|an<|tn<|aP<|bB<|aK ?_
     refine aK ?_
     obtain rfl:=so h
     exact ⟨_,k,k,aU k k k (cJ k)⟩
    ·refine aS k q6<|aT<|bE<|tn<|rg<|am k k<|ae (bV k k) k<|aa k k<|an<|tn ?_
     obtain rfl:=so h
     exact ⟨_,k,(aE (σ:=sg []) ⟨(e1 k k),(e1 k k),(e1 k k),trivial⟩ trivial k)⟩
   ·refine aS k q3<|bG<|aH<|aH ?_
    obtain rfl:=so h
    exact ⟨_,k,k,(aE (σ:=sg []) trivial trivial k)⟩
  ·refine aX 9 k q1<|ak k k<|ak k k<|ae (aJ k k) k<|an<|tn<|aS k k<|bG<|aH<|aH ?_
   obtain rfl:=so h
   exact ⟨_,k,k,(aE (σ:=sg []) trivial trivial k)⟩
 ·intro e t hX
  rcases y7 with y8|y9
  ·obtain ⟨rfl,hent⟩:=hX
   refine aW<|tn<|aO hent<|sQ<|rg<|aa k k<|an<|tn<|aP ?_
   obtain rfl:=so h
   exact aU k k k (cJ k)
  ·obtain ⟨rfl,hent⟩:=hX
   refine bB<|aK ?_
   obtain rfl:=so h
   exact hent
def mG (a0:Int) (a1:(List Int)) (x1:Int):Option (Int ⊕ (Unit ⊕ Bool)):=
 bif decide (x1<(a1.length:Int)) then
 (Option.bind (dV a1 x1) fun v5=>
 Option.bind (fD v5 0 (wr (a0 - 1))) fun v6=>
 bif !v6 then
 (some (.inr (.inr (false))))
 else
 (some (.inl (wr (x1+1)))))
 else
 (some (.inr (.inl ())))
def gN (a0:Int) (a1:(List Int)):Option Bool:=
 Option.bind (hJ a0) fun v1=>
 bif !v1 then
 (some (false))
 else
 (bif decide (64<(a1.length:Int)) then
 (some (false))
 else
 (Option.bind (Lp (mG a0 a1) 0) fun y8=>
 Sum.elim (fun y9=>
 some (true)
 )
 (fun y10=>
 some y10
 )
 y8))
theorem vT (a0:Int) (a1:(List Int)) (r:Bool) (h:gN a0 a1=some r):HasC Tryz.prog 211 [.int a0,.list 1 (List.map eI a1)] (.bl r):=by
 refine bK aA (rvs:=[.tmp 4]) (ns:=[0,1]) Tryz.func211 k k Tryz.ntmps211 k k k<|sQ<|rg<|aa k k<|an<|tn<|sQ<|sQ<|rg<|am k k ?_
 obtain ⟨v1,hv1,h⟩:=ob h
 refine ae (aZ (lI a0 v1 hv1) k (aG (aI k) bA)) k<|ae (cG k) k<|am k k ?_
 rcases cb h with ⟨q2,h⟩|⟨q2,h⟩
 ·refine aX 9 k q2<|ak k k<|ak k k<|ak k k<|ae (aJ k k) k<|an<|tn<|aL k k<|sQ<|rg ?_
  refine aa k k<|an<|tn<|aP<|aK ?_
  obtain rfl:=so h
  exact aU k k k (bT k)
 ·refine aX 9 k q2<|am k k<|ae (dD aA k k k) k<|ae (bC k k k) k<|ae (aJ k k) k<|an<|tn ?_
  rcases cb h with ⟨q3,h⟩|⟨q3,h⟩
  ·refine aL k q3<|sQ<|rg<|aa k k<|an<|tn<|aP<|aK ?_
   obtain rfl:=so h
   exact aU k k k (bT k)
  ·refine aS k q3<|aT<|tn<|sQ<|sQ<|rg<|aa k k<|an<|tn<|aN ?_
   obtain ⟨y8,hy8,h⟩:=ob h
   refine cU (body:=(mG a0 a1)) hy8 (fun (x1:Int)=>bU [(0,.int a0),(1,.list 1 (List.map eI a1)),(5,.int x1)] [] 0 [0,1]) (fun r e t=>Sum.elim (fun a=>(fun r e t=>e= .exit 0∧Ent t (bU [] [] 0 [0,1])) a e t) (fun b=>(fun r e t=>e= .ret∧sA TT [.tmp 4] (.bl r) .ret t) b e t) r) (aE (σ:=sg []) ⟨(e1 k k),⟨_,k,⟨k,k⟩⟩,(e1 k k),trivial⟩ trivial k) ?_ ?_
   ·intro x1 o h
    refine sQ<|sQ<|rg<|am k k<|am k k<|ae (dD aA k k k) k<|ae (bC k k k) k<|an<|tn ?_
    rcases cb h with ⟨q4,h⟩|⟨q4,h⟩
    ·refine aL k q4<|aT<|tn<|sQ<|aN<|sQ<|rg<|am k k<|am k k ?_
     obtain ⟨v5,hv5,h⟩:=ob h
     refine ae (bH aA hv5 k k k k k k) k<|ae (aV aA k k k k k k) k<|am k k<|ae (iH k k) k ?_
     obtain ⟨v6,hv6,h⟩:=ob h
     refine ae (aZ (fV v5 0 (wr (a0 - 1)) v6 hv6) k (aG (aI k) (aG (aI k) (aG (aI k) bA)))) k<|ae (cG k) k<|an<|tn<|aO (t:=bU [(0,.int a0),(1,.list 1 (List.map eI a1)),(5,.int x1),(27,.bl (!v6))] [] 0 [0,1]) (aE (σ:=sg []) ⟨(e1 k k),⟨_,k,⟨k,k⟩⟩,(e1 k k),(e1 k k),trivial⟩ trivial k) ?_
     rcases cb h with ⟨q7,h⟩|⟨q7,h⟩
     ·refine aL k q7<|sQ<|rg<|aa k k<|an<|tn<|aP<|bB<|aK<|aK ?_
      obtain rfl:=so h
      exact ⟨_,k,k,aU k k k (bT k)⟩
     ·refine aS k q7<|aT<|bE<|tn<|rg<|am k k<|ae (bV k k) k<|aa k k<|an<|tn ?_
      obtain rfl:=so h
      exact ⟨_,k,(aE (σ:=sg []) ⟨(e1 k k),⟨_,k,⟨k,k⟩⟩,(e1 k k),trivial⟩ trivial k)⟩
    ·refine aS k q4<|bG<|aH<|aH ?_
     obtain rfl:=so h
     exact ⟨_,k,k,(aE (σ:=sg []) trivial trivial k)⟩
   ·intro e t hX
    rcases y8 with y9|y10
    ·obtain ⟨rfl,hent⟩:=hX
     refine aW<|tn<|aO hent<|sQ<|rg<|aa k k<|an<|tn<|aP ?_
     obtain rfl:=so h
     exact aU k k k (bT k)
    ·obtain ⟨rfl,hent⟩:=hX
     refine bB<|aK ?_
     obtain rfl:=so h
     exact hent
def kB (a0:Int) (a1:Mt):Option Bool:=
 Option.bind (fD a1.rows 0 8) fun v1=>
 bif v1 then
 (Option.bind (fD a1.cols 0 8) fun v3=>
 bif v3 then
 (bif decide ((a1.cells.length:Int)=wr (a1.rows*a1.cols)) then
 (Option.bind (gN a0 a1.cells) fun v6=>
 some (v6))
 else
 (some (false)))
 else
 (some (false)))
 else
 (some (false))
theorem vU (a0:Int) (a1:Mt) (r:Bool) (h:kB a0 a1=some r):HasC Tryz.prog 163 [.int a0,.agg (eM a1)] (.bl r):=by
 refine bK aA (rvs:=[.tmp 4]) (ns:=[0,1,2]) Tryz.func163 k k Tryz.ntmps163 k k k<|sQ<|rg<|ae (cC k k k k) k<|aa k k<|an<|tn<|sQ<|rg<|ae (aD aA k k k k k k k) k ?_
 refine ae (aC aA k k k k k k k) k ?_
 obtain ⟨v1,hv1,h⟩:=ob h
 refine ae (aZ (fV a1.rows 0 8 v1 hv1) k (aG (aI k) (aG (aI k) (aG (aI k) bA)))) k<|am k k ?_
 rcases cb h with ⟨q2,h⟩|⟨q2,h⟩
 ·refine aX 8 k q2<|ae (aD aA k k k k k k k) k<|ae (aC aA k k k k k k k) k ?_
  obtain ⟨v3,hv3,h⟩:=ob h
  refine ae (aZ (fV a1.cols 0 8 v3 hv3) k (aG (aI k) (aG (aI k) (aG (aI k) bA)))) k<|ae (aJ k k) k<|am k k ?_
  rcases cb h with ⟨q4,h⟩|⟨q4,h⟩
  ·refine aX 13 k q4<|ae (aD aA k k k k k k k) k<|ae (aC aA k k k k k k k) k<|ae (dD aA k k k) k<|ae (aD aA k k k k k k k) k<|ae (aC aA k k k k k k k) k<|ae (aD aA k k k k k k k) k<|ae (aC aA k k k k k k k) k<|ae (fP k k) k<|ae (bC k k k) k ?_
   refine ae (aJ k k) k<|am k k ?_
   rcases cb h with ⟨q5,h⟩|⟨q5,h⟩
   ·refine aX 24 k q5<|am k k<|ae (aD aA k k k k k k k) k<|ae (aC aA k k k k k k k) k ?_
    obtain ⟨v6,hv6,h⟩:=ob h
    refine ae (aZ (vT a0 a1.cells v6 hv6) k (aG (aI k) (aG (aI k) bA))) k<|ae (aJ k k) k<|aa k k<|an<|tn<|aO (t:=bU [(4,.bl v6)] [] 1 [1,2]) (aE (σ:=sg []) ⟨(e1 k k),trivial⟩ trivial k)<|aP ?_
    obtain rfl:=so h
    exact aU k k k (bT k)
   ·refine aX 24 k q5<|ak k k<|ak k k<|ak k k<|ak k k<|ae (aJ k k) k<|aa k k<|an<|tn<|aO (t:=bU [(4,.bl false)] [] 1 [1,2]) (aE (σ:=sg []) ⟨(e1 k k),trivial⟩ trivial k) ?_
    refine aP ?_
    obtain rfl:=so h
    exact aU k k k (bT k)
  ·refine aX 13 k q4<|ak k k<|ak k k<|ak k k<|ak k k<|ak k k<|ak k k<|ak k k<|ak k k<|ak k k ?_
   refine ae (aJ k k) k<|am k k<|ak k k<|ak k k<|ak k k<|ak k k<|ae (aJ k k) k<|aa k k<|an<|tn ?_
   refine aO (t:=bU [(4,.bl false)] [] 1 [1,2]) (aE (σ:=sg []) ⟨(e1 k k),trivial⟩ trivial k)<|aP ?_
   obtain rfl:=so h
   exact aU k k k (bT k)
 ·refine aX 8 k q2<|ak k k<|ak k k<|ak k k<|ae (aJ k k) k<|am k k<|ak k k<|ak k k<|ak k k<|ak k k ?_
  refine ak k k<|ak k k<|ak k k<|ak k k<|ak k k<|ae (aJ k k) k<|am k k<|ak k k<|ak k k<|ak k k ?_
  refine ak k k<|ae (aJ k k) k<|aa k k<|an<|tn<|aO (t:=bU [(4,.bl false)] [] 1 [1,2]) (aE (σ:=sg []) ⟨(e1 k k),trivial⟩ trivial k)<|aP ?_
  obtain rfl:=so h
  exact aU k k k (bT k)
def yT (a0:Mt):Option Mt:=
 bif decide (([]:(List Int)).length +a0.cells.length≤4294967296) then
 (some ((⟨a0.rows,a0.cols,(([]:(List Int))++a0.cells)⟩:Mt)))
 else none
theorem aHT (a0:Mt) (r:Mt) (h:yT a0=some r):HasC Tryz.prog 114 [.agg (eM a0)] (.agg (eM r)):=by
 refine bK aA (rvs:=[.cell 2 113]) (ns:=[0,1,2,3,4,5]) Tryz.func114 k k Tryz.ntmps114 k k k<|sQ<|rg<|ae (cC k k k k) k<|ae (bX aA k k) k<|an<|tn<|sQ<|aY jW<|ae (aD aA k k k k k k k) k ?_
 refine ae (aC aA k k k k k k k) k<|ae (aD aA k k k k k k k) k<|ae (aC aA k k k k k k k) k<|ae (cS aA k k k k k k k k k k k k) k<|ae (aD aA k k k k k k k) k<|ae (aC aA k k k k k k k) k ?_
 obtain ⟨q1,h⟩:=cg h
 refine ae (uN aA (l:=([]:(List Int))) (m:=a0.cells) tG q1 k k k k k k k k k k k k) k<|ae (cQ aA k k k k k k) k<|ae (bP aA k k k k k k k k) k<|an ?_
 refine ⟨by kernel_rfl,?_⟩
 refine tn<|aO (t:=bU [(2,.ptr 1 0 0)] [(1,⟨3,[[.int a0.rows,.int a0.cols,.own 3 0 ((([]:(List Int))++a0.cells).length)]]⟩),(3,⟨1,List.map (ow eI) (([]:(List Int))++a0.cells)⟩)] 4 [4,5]) (aE (σ:=sg [(1,1),(3,3)]) ⟨(pE k k),trivial⟩ (hX ⟨_,k,k,.inr ⟨_,_,k,⟨_,_,k,k,⟨_,_,k,k,⟨_,_,k,⟨k,k,k,k⟩,k⟩⟩⟩,k⟩⟩ k<|hI k k k<|trivial) k)<|aP ?_
 obtain rfl:=so h
 exact aU k k k (qN (cD (k) (cD (k) (cD (iQ eD k k) gZ))))
end
noncomputable section
set_option maxRecDepth 10000
set_option maxHeartbeats 4000000
def jE (v1:Mt) (x1:(Int×(List Int)×(List Int)×Int)) (x2:(Int×Int)):Option ((Int×Int) ⊕ Int):=
 bif decide (x1.2.2.2≤x2.2) then
 (Option.bind (dV x1.2.1 (wr ((wr (x2.2*v1.cols))+x1.1))) fun v5=>
 bif !decide (v5=0) then
 (some (.inl (x2.2,wr (x2.2 - 1))))
 else
 (some (.inl (x2.1,wr (x2.2 - 1)))))
 else
 (some (.inr x2.1))
def mH (v1:Mt) (x1:(Int×(List Int)×(List Int)×Int)) (y7:Int) (x3:((List Int)×Int)):Option (((List Int)×Int) ⊕ (List Int)):=
 bif decide (x3.2<v1.cols) then
 (Option.bind (dV x3.1 (wr ((wr (x1.2.2.2*v1.cols))+x3.2))) fun v10=>
 Option.bind (dV x3.1 (wr ((wr (y7*v1.cols))+x3.2))) fun v11=>
 Option.bind (dV x3.1 (wr ((wr (x1.2.2.2*v1.cols))+x3.2))) fun v12=>
 Option.bind (dV (x3.1.set ((wr ((wr (x1.2.2.2*v1.cols))+x3.2)).toNat) v11) (wr ((wr (y7*v1.cols))+x3.2))) fun v13=>
 some (.inl (((x3.1.set ((wr ((wr (x1.2.2.2*v1.cols))+x3.2)).toNat) v11).set ((wr ((wr (y7*v1.cols))+x3.2)).toNat) v10),wr (x3.2+1))))
 else
 (some (.inr x3.1))
def mI (a0:Int) (v1:Mt) (v16:Int) (x1:(Int×(List Int)×(List Int)×Int)) (x4:((List Int)×Int)):Option (((List Int)×Int) ⊕ (List Int)):=
 bif decide (x4.2<v1.cols) then
 (Option.bind (dV x4.1 (wr ((wr (x1.2.2.2*v1.cols))+x4.2))) fun v18=>
 Option.bind (kF a0 (wr (v16*v18))) fun v19=>
 Option.bind (dV x4.1 (wr ((wr (x1.2.2.2*v1.cols))+x4.2))) fun v20=>
 some (.inl ((x4.1.set ((wr ((wr (x1.2.2.2*v1.cols))+x4.2)).toNat) v19),wr (x4.2+1))))
 else
 (some (.inr x4.1))
def jF (a0:Int) (v1:Mt) (v23:Int) (x1:(Int×(List Int)×(List Int)×Int)) (x5:((List Int)×Int)) (x6:((List Int)×Int)):Option (((List Int)×Int) ⊕ (List Int)):=
 bif decide (x6.2<v1.cols) then
 (bif !decide (x5.2=x1.2.2.2) then
 (Option.bind (dV x6.1 (wr ((wr (x5.2*v1.cols))+x6.2))) fun v26=>
 Option.bind (dV x6.1 (wr ((wr (x1.2.2.2*v1.cols))+x6.2))) fun v27=>
 Option.bind (kF a0 (wr (v26 - (wr (v23*v27))))) fun v28=>
 Option.bind (dV x6.1 (wr ((wr (x5.2*v1.cols))+x6.2))) fun v29=>
 some (.inl ((x6.1.set ((wr ((wr (x5.2*v1.cols))+x6.2)).toNat) v28),wr (x6.2+1))))
 else
 (some (.inr x6.1)))
 else
 (some (.inr x6.1))
def gS (a0:Int) (v1:Mt) (x1:(Int×(List Int)×(List Int)×Int)) (x5:((List Int)×Int)):Option (((List Int)×Int) ⊕ (List Int)):=
 bif decide (x5.2<v1.rows) then
 (Option.bind (dV x5.1 (wr ((wr (x5.2*v1.cols))+x1.1))) fun v23=>
 Option.bind (Lp (jF a0 v1 v23 x1 x5) (x5.1,0)) fun y30=>
 some (.inl (y30,wr (x5.2+1))))
 else
 (some (.inr x5.1))
def eW (a0:Int) (v1:Mt) (x1:(Int×(List Int)×(List Int)×Int)):Option ((Int×(List Int)×(List Int)×Int) ⊕ ((List Int)×(List Int))):=
 bif decide (x1.1<v1.cols) then
 (bif decide (x1.2.2.2<v1.rows) then
 (Option.bind (Lp (jE v1 x1) ((-1),wr (v1.rows - 1))) fun y7=>
 bif decide (y7<0) then
 (some (.inl (wr (x1.1+1),x1.2.1,x1.2.2.1,x1.2.2.2)))
 else
 (Option.bind (Lp (mH v1 x1 y7) (x1.2.1,0)) fun y14=>
 Option.bind (dV y14 (wr ((wr (x1.2.2.2*v1.cols))+x1.1))) fun v15=>
 Option.bind (iK a0 v15) fun v16=>
 Option.bind (Lp (mI a0 v1 v16 x1) (y14,0)) fun y21=>
 Option.bind (Lp (gS a0 v1 x1) (y21,0)) fun y31=>
 bif decide (x1.2.2.1.length+[x1.1].length ≤4294967296) then
 (some (.inl (wr (x1.1+1),y31,(x1.2.2.1++[x1.1]),wr (x1.2.2.2+1))))
 else none))
 else
 (some (.inr (x1.2.1,x1.2.2.1))))
 else
 (some (.inr (x1.2.1,x1.2.2.1)))
def kC (a0:Int) (a1:Mt):Option (Mt×(List Int)):=
 Option.bind (yT a1) fun v1=>
 Option.bind (Lp (eW a0 v1) (0,v1.cells,([]:(List Int)),0)) fun y33=>
 some (((⟨v1.rows,v1.cols,y33.1⟩:Mt),y33.2))
theorem aFJ (a0:Int) (a1:Mt) (r:(Mt×(List Int))) (h:kC a0 a1=some r):HasC Tryz.prog 226 [.int a0,.agg (eM a1)] (.tuple [.agg (eM r.1),.list 1 (List.map eI r.2)]):=by
 refine bK aA (rvs:=[.cell 4 113,.tmp 5]) (ns:=[0,1,2,3,4,5,6,7]) Tryz.func226 k k Tryz.ntmps226 k k k<|sQ<|rg<|ae (cC k k k k) k<|ae (bX aA k k) k<|aa k k<|an<|tn<|sQ<|rg ?_
 refine ae (aC aA k k k k k k k) k ?_
 obtain ⟨v1,hv1,h⟩:=ob h
 refine ae (AEff.conv (cR (x:= .agg [.int v1.rows,.int v1.cols,.own 2 0 (List.map eI v1.cells).length]) (nb:=[(2,⟨1,cX (List.map eI v1.cells)⟩)]) (aHT a1 v1 hv1) k (by rfl) k k (bZ trivial (bZ trivial (bZ (eD.good _) gQ))) (aG (cA (aM (aQ k) (aM (aQ k) (aM (aQ k) cF)))) bA)) (v':= .agg [.int v1.rows,.int v1.cols,.own 2 0 v1.cells.length]) (ed':=[(2,some ⟨1,List.map (ow eI) v1.cells⟩)]) (by simp only [bD]) (eJ (nb':=[(2,⟨1,List.map (ow eI) v1.cells⟩)]) (by simp only [cT]))) k<|ae (bX aA k k) k<|ae (bP aA k k k k k k k k) k<|an<|tn<|sQ<|rg<|ae (cS aA k k k k k k k k k k k k) k<|aa k k<|an ?_
 refine tn<|aO (t:=bU [(0,.int a0),(4,.ptr 1 0 0),(6,.ptr 3 0 0),(7,.own 4 0 (([]:(List Int)).length))] [(1,⟨3,[[.int 0,.int 0,.nil 1]]⟩),(2,⟨1,List.map (ow eI) v1.cells⟩),(3,⟨3,[[.int v1.rows,.int v1.cols,.own 2 0 v1.cells.length]]⟩),(4,⟨1,List.map (ow eI) ([]:(List Int))⟩)] 5 [5,6,7]) (aE (σ:=sg [(1,1),(2,2),(3,3),(4,4)]) ⟨(e1 k k),(pE k k),(pE k k),⟨_,k,⟨k,k,(by simp only [bD,lA,lT,lR,lC,lN]),k⟩⟩,trivial⟩ (hP k k k k<|hI k k k<|hX ⟨_,k,k,.inr ⟨_,_,k,⟨_,_,k,k,⟨_,_,k,k,⟨_,_,k,⟨k,k,k,k⟩,k⟩⟩⟩,k⟩⟩ k<|hI k k k<|trivial) k)<|sQ<|rg<|aa k k<|an<|tn<|sQ<|sQ<|rg ?_
 refine aa k k<|an<|tn<|aN ?_
 obtain ⟨y33,hy33,h⟩:=ob h
 refine cU (body:=(eW a0 v1)) hy33 (fun (x1:(Int×(List Int)×(List Int)×Int))=>bU [(0,.int a0),(4,.ptr 0 0 0),(6,.ptr 1 0 0),(7,.own 3 0 x1.2.2.1.length),(8,.int x1.2.2.2),(9,.int x1.1)] [(0,⟨3,[[.int 0,.int 0,.nil 1]]⟩),(1,⟨3,[[.int v1.rows,.int v1.cols,.own 2 0 x1.2.1.length]]⟩),(2,⟨1,List.map (ow eI) x1.2.1⟩),(3,⟨1,List.map (ow eI) x1.2.2.1⟩)] 4 [4,5,6,7]) (fun r e t=>e= .exit 0∧Ent t (bU [(4,.ptr 0 0 0),(6,.ptr 1 0 0),(7,.own 3 0 r.2.length)] [(0,⟨3,[[.int 0,.int 0,.nil 1]]⟩),(1,⟨3,[[.int v1.rows,.int v1.cols,.own 2 0 r.1.length]]⟩),(2,⟨1,List.map (ow eI) r.1⟩),(3,⟨1,List.map (ow eI) r.2⟩)] 4 [4,5,6,7])) (aE (σ:=sg [(0,1),(1,3),(2,2),(3,4)]) ⟨(e1 k k),(pE k k),(pE k k),(oE k k),(e1 k k),(e1 k k),trivial⟩ (hP k k k k<|hX ⟨_,k,k,.inr ⟨_,_,k,⟨_,_,k,k,⟨_,_,k,k,⟨_,_,k,⟨k,k,k,k⟩,k⟩⟩⟩,k⟩⟩ k<|hI k k k<|hI k k k<|trivial) k) ?_ ?_
 ·intro x1 o h
  refine sQ<|sQ<|rg<|am k k<|ae (aD aA k k k k k k k) k<|ae (aC aA k k k k k k k) k<|ae (bC k k k) k<|am k k ?_
  rcases cb h with ⟨q2,h⟩|⟨q2,h⟩
  ·refine aX 26 k q2<|am k k<|ae (aD aA k k k k k k k) k<|ae (aC aA k k k k k k k) k<|ae (bC k k k) k<|ae (aJ k k) k<|an<|tn ?_
   rcases cb h with ⟨q3,h⟩|⟨q3,h⟩
   ·refine aL k q3<|aT<|tn<|sQ<|aN<|sQ<|rg<|aa k k<|an<|tn ?_
    refine sQ<|sQ<|rg<|ae (aD aA k k k k k k k) k<|ae (aC aA k k k k k k k) k<|ae (iH k k) k<|aa k k<|an<|tn<|aO (t:=bU [(0,.int a0),(4,.ptr 0 0 0),(6,.ptr 1 0 0),(7,.own 3 0 x1.2.2.1.length),(8,.int x1.2.2.2),(9,.int x1.1),(10,.int (-1)),(11,.int (wr (v1.rows - 1)))] [(0,⟨3,[[.int 0,.int 0,.nil 1]]⟩),(1,⟨3,[[.int v1.rows,.int v1.cols,.own 2 0 x1.2.1.length]]⟩),(2,⟨1,List.map (ow eI) x1.2.1⟩),(3,⟨1,List.map (ow eI) x1.2.2.1⟩)] 4 [4,5,6,7]) (aE (σ:=sg [(0,0),(1,1),(2,2),(3,3)]) ⟨(e1 k k),(pE k k),(pE k k),(oE k k),(e1 k k),(e1 k k),(e1 k k),(e1 k k),trivial⟩ (hP k k k k<|hX ⟨_,k,k,.inr ⟨_,_,k,⟨_,_,k,k,⟨_,_,k,k,⟨_,_,k,⟨k,k,k,k⟩,k⟩⟩⟩,k⟩⟩ k<|hI k k k<|hI k k k<|trivial) k) ?_
    refine aN ?_
    obtain ⟨y7,hy7,h⟩:=ob h
    refine cU (body:=(jE v1 x1)) hy7 (fun (x2:(Int×Int))=>bU [(0,.int a0),(4,.ptr 0 0 0),(6,.ptr 1 0 0),(7,.own 3 0 x1.2.2.1.length),(8,.int x1.2.2.2),(9,.int x1.1),(10,.int x2.1),(11,.int x2.2)] [(0,⟨3,[[.int 0,.int 0,.nil 1]]⟩),(1,⟨3,[[.int v1.rows,.int v1.cols,.own 2 0 x1.2.1.length]]⟩),(2,⟨1,List.map (ow eI) x1.2.1⟩),(3,⟨1,List.map (ow eI) x1.2.2.1⟩)] 4 [4,5,6,7]) (fun r e t=>e= .exit 2∧Ent t (bU [(0,.int a0),(4,.ptr 0 0 0),(6,.ptr 1 0 0),(7,.own 3 0 x1.2.2.1.length),(8,.int x1.2.2.2),(9,.int x1.1),(10,.int r)] [(0,⟨3,[[.int 0,.int 0,.nil 1]]⟩),(1,⟨3,[[.int v1.rows,.int v1.cols,.own 2 0 x1.2.1.length]]⟩),(2,⟨1,List.map (ow eI) x1.2.1⟩),(3,⟨1,List.map (ow eI) x1.2.2.1⟩)] 4 [4,5,6,7])) (aE (σ:=sg [(0,0),(1,1),(2,2),(3,3)]) ⟨(e1 k k),(pE k k),(pE k k),(oE k k),(e1 k k),(e1 k k),(e1 k k),(e1 k k),trivial⟩ (hP k k k k<|hX ⟨_,k,k,.inr ⟨_,_,k,⟨_,_,k,k,⟨_,_,k,k,⟨_,_,k,⟨k,k,k,k⟩,k⟩⟩⟩,k⟩⟩ k<|hI k k k<|hI k k k<|trivial) k) ?_ ?_
    ·intro x2 o h
     refine sQ<|sQ<|rg<|am k k<|am k k<|ae (bC k k k) k<|an<|tn ?_
     rcases cb h with ⟨q4,h⟩|⟨q4,h⟩
     ·refine aL k q4<|aT<|tn<|sQ<|aN<|sQ<|rg<|ae (aD aA k k k k k k k) k<|ae (aC aA k k k k k k k) k<|am k k ?_
      refine ae (aD aA k k k k k k k) k<|ae (aC aA k k k k k k k) k<|ae (fP k k) k<|am k k<|ae (bV k k) k ?_
      obtain ⟨v5,hv5,h⟩:=ob h
      refine ae (cY aA (eU hv5) (eV hv5) k k k k k k k) k<|ae (aC aA k k k k (cL (dO hv5)) k k) k<|ae (bC k k k) k<|an<|tn<|aO (t:=bU [(0,.int a0),(4,.ptr 0 0 0),(6,.ptr 1 0 0),(7,.own 3 0 x1.2.2.1.length),(8,.int x1.2.2.2),(9,.int x1.1),(10,.int x2.1),(11,.int x2.2),(52,.bl (!decide (v5=0)))] [(0,⟨3,[[.int 0,.int 0,.nil 1]]⟩),(1,⟨3,[[.int v1.rows,.int v1.cols,.own 2 0 x1.2.1.length]]⟩),(2,⟨1,List.map (ow eI) x1.2.1⟩),(3,⟨1,List.map (ow eI) x1.2.2.1⟩)] 4 [4,5,6,7]) (aE (σ:=sg [(0,0),(1,1),(2,2),(3,3)]) ⟨(e1 k k),(pE k k),(pE k k),(oE k k),(e1 k k),(e1 k k),(e1 k k),(e1 k k),(e1 k k),trivial⟩ (hP k k k k<|hX ⟨_,k,k,.inr ⟨_,_,k,⟨_,_,k,k,⟨_,_,k,k,⟨_,_,k,⟨k,k,k,k⟩,k⟩⟩⟩,k⟩⟩ k<|hI k k k<|hI k k k<|trivial) k) ?_
      rcases cb h with ⟨q6,h⟩|⟨q6,h⟩
      ·refine aL k q6<|rg<|am k k<|aa k k<|an<|bE<|tn<|rg<|am k k<|ae (iH k k) k ?_
       refine aa k k<|an<|tn ?_
       obtain rfl:=so h
       exact ⟨_,k,(aE (σ:=sg [(0,0),(1,1),(2,2),(3,3)]) ⟨(e1 k k),(pE k k),(pE k k),(oE k k),(e1 k k),(e1 k k),(e1 k k),(e1 k k),trivial⟩ (hP k k k k<|hX ⟨_,k,k,.inr ⟨_,_,k,⟨_,_,k,k,⟨_,_,k,k,⟨_,_,k,⟨k,k,k,k⟩,k⟩⟩⟩,k⟩⟩ k<|hI k k k<|hI k k k<|trivial) k)⟩
      ·refine aS k q6<|aT<|bE<|tn<|rg<|am k k<|ae (iH k k) k<|aa k k<|an<|tn ?_
       obtain rfl:=so h
       exact ⟨_,k,(aE (σ:=sg [(0,0),(1,1),(2,2),(3,3)]) ⟨(e1 k k),(pE k k),(pE k k),(oE k k),(e1 k k),(e1 k k),(e1 k k),(e1 k k),trivial⟩ (hP k k k k<|hX ⟨_,k,k,.inr ⟨_,_,k,⟨_,_,k,k,⟨_,_,k,k,⟨_,_,k,⟨k,k,k,k⟩,k⟩⟩⟩,k⟩⟩ k<|hI k k k<|hI k k k<|trivial) k)⟩
     ·refine aS k q4<|bG<|aH<|aH ?_
      obtain rfl:=so h
      exact ⟨_,k,k,(aE (σ:=sg [(0,0),(1,1),(2,2),(3,3)]) ⟨(e1 k k),(pE k k),(pE k k),(oE k k),(e1 k k),(e1 k k),(e1 k k),trivial⟩ (hP k k k k<|hX ⟨_,k,k,.inr ⟨_,_,k,⟨_,_,k,k,⟨_,_,k,k,⟨_,_,k,⟨k,k,k,k⟩,k⟩⟩⟩,k⟩⟩ k<|hI k k k<|hI k k k<|trivial) k)⟩
    ·rintro e t ⟨rfl,hent⟩
     refine aW<|tn<|aO hent<|sQ<|sQ<|rg<|am k k<|ae (bC k k k) k<|an<|tn ?_
     rcases cb h with ⟨q8,h⟩|⟨q8,h⟩
     ·refine aL k q8<|bG<|aH<|aW<|tn<|rg<|am k k<|ae (bV k k) k<|aa k k<|an ?_
      refine tn ?_
      obtain rfl:=so h
      exact ⟨_,k,(aE (σ:=sg [(0,0),(1,1),(2,2),(3,3)]) ⟨(e1 k k),(pE k k),(pE k k),(oE k k),(e1 k k),(e1 k k),trivial⟩ (hP k k k k<|hX ⟨_,k,k,.inr ⟨_,_,k,⟨_,_,k,k,⟨_,_,k,k,⟨_,_,k,⟨k,k,k,k⟩,k⟩⟩⟩,k⟩⟩ k<|hI k k k<|hI k k k<|trivial) k)⟩
     ·refine aS k q8<|aT<|tn<|sQ<|sQ<|rg<|aa k k<|an<|tn<|aN ?_
      obtain ⟨y14,hy14,h⟩:=ob h
      refine cU (body:=(mH v1 x1 y7)) hy14 (fun (x3:((List Int)×Int))=>bU [(0,.int a0),(4,.ptr 0 0 0),(6,.ptr 1 0 0),(7,.own 3 0 x1.2.2.1.length),(8,.int x1.2.2.2),(9,.int x1.1),(10,.int y7),(12,.int x3.2)] [(0,⟨3,[[.int 0,.int 0,.nil 1]]⟩),(1,⟨3,[[.int v1.rows,.int v1.cols,.own 2 0 x3.1.length]]⟩),(2,⟨1,List.map (ow eI) x3.1⟩),(3,⟨1,List.map (ow eI) x1.2.2.1⟩)] 4 [4,5,6,7]) (fun r e t=>e= .exit 4∧Ent t (bU [(0,.int a0),(4,.ptr 0 0 0),(6,.ptr 1 0 0),(7,.own 3 0 x1.2.2.1.length),(8,.int x1.2.2.2),(9,.int x1.1)] [(0,⟨3,[[.int 0,.int 0,.nil 1]]⟩),(1,⟨3,[[.int v1.rows,.int v1.cols,.own 2 0 r.length]]⟩),(2,⟨1,List.map (ow eI) r⟩),(3,⟨1,List.map (ow eI) x1.2.2.1⟩)] 4 [4,5,6,7])) (aE (σ:=sg [(0,0),(1,1),(2,2),(3,3)]) ⟨(e1 k k),(pE k k),(pE k k),(oE k k),(e1 k k),(e1 k k),(e1 k k),(e1 k k),trivial⟩ (hP k k k k<|hX ⟨_,k,k,.inr ⟨_,_,k,⟨_,_,k,k,⟨_,_,k,k,⟨_,_,k,⟨k,k,k,k⟩,k⟩⟩⟩,k⟩⟩ k<|hI k k k<|hI k k k<|trivial) k) ?_ ?_
      ·intro x3 o h
       refine sQ<|sQ<|rg<|am k k<|ae (aD aA k k k k k k k) k<|ae (aC aA k k k k k k k) k<|ae (bC k k k) k<|an<|tn ?_
       rcases cb h with ⟨q9,h⟩|⟨q9,h⟩
       ·refine aL k q9<|aT<|tn<|sQ<|aN<|sQ<|rg<|ae (aD aA k k k k k k k) k<|ae (aC aA k k k k k k k) k<|am k k ?_
        refine ae (aD aA k k k k k k k) k<|ae (aC aA k k k k k k k) k<|ae (fP k k) k<|am k k<|ae (bV k k) k ?_
        obtain ⟨v10,hv10,h⟩:=ob h
        refine ae (cY aA (eU hv10) (eV hv10) k k k k k k k) k<|ae (aC aA k k k k (cL (dO hv10)) k k) k<|aa k k<|an<|tn<|aO (t:=bU [(0,.int a0),(4,.ptr 0 0 0),(6,.ptr 1 0 0),(7,.own 3 0 x1.2.2.1.length),(8,.int x1.2.2.2),(9,.int x1.1),(10,.int y7),(12,.int x3.2),(13,.int v10)] [(0,⟨3,[[.int 0,.int 0,.nil 1]]⟩),(1,⟨3,[[.int v1.rows,.int v1.cols,.own 2 0 x3.1.length]]⟩),(2,⟨1,List.map (ow eI) x3.1⟩),(3,⟨1,List.map (ow eI) x1.2.2.1⟩)] 4 [4,5,6,7]) (aE (σ:=sg [(0,0),(1,1),(2,2),(3,3)]) ⟨(e1 k k),(pE k k),(pE k k),(oE k k),(e1 k k),(e1 k k),(e1 k k),(e1 k k),(e1 k k),trivial⟩ (hP k k k k<|hX ⟨_,k,k,.inr ⟨_,_,k,⟨_,_,k,k,⟨_,_,k,k,⟨_,_,k,⟨k,k,k,k⟩,k⟩⟩⟩,k⟩⟩ k<|hI k k k<|hI k k k<|trivial) k)<|sQ<|aY jW<|ae (aD aA k k k k k k k) k<|ae (aC aA k k k k k k k) k ?_
        refine am k k<|ae (aD aA k k k k k k k) k<|ae (aC aA k k k k k k k) k<|ae (fP k k) k<|am k k<|ae (bV k k) k<|ae (aD aA k k k k k k k) k<|ae (aC aA k k k k k k k) k<|am k k<|ae (aD aA k k k k k k k) k ?_
        refine ae (aC aA k k k k k k k) k<|ae (fP k k) k<|am k k<|ae (bV k k) k ?_
        obtain ⟨v11,hv11,h⟩:=ob h
        refine ae (cY aA (eU hv11) (eV hv11) k k k k k k k) k<|ae (aC aA k k k k (cL (dO hv11)) k k) k ?_
        obtain ⟨v12,hv12,h⟩:=ob h
        refine ae (cY aA (eU hv12) (eV hv12) k k k k k k k) k<|ae (iI aA tG (u:=v11) (dO hv12) k k k k k k) k<|an ?_
        refine ⟨by kernel_rfl,?_⟩
        refine tn<|aO (t:=bU [(0,.int a0),(4,.ptr 0 0 0),(6,.ptr 1 0 0),(7,.own 3 0 x1.2.2.1.length),(8,.int x1.2.2.2),(9,.int x1.1),(10,.int y7),(12,.int x3.2),(13,.int v10)] [(0,⟨3,[[.int 0,.int 0,.nil 1]]⟩),(1,⟨3,[[.int v1.rows,.int v1.cols,.own 2 0 ((x3.1.set ((wr ((wr (x1.2.2.2*v1.cols))+x3.2)).toNat) v11).length)]]⟩),(2,⟨1,List.map (ow eI) (x3.1.set ((wr ((wr (x1.2.2.2*v1.cols))+x3.2)).toNat) v11)⟩),(3,⟨1,List.map (ow eI) x1.2.2.1⟩)] 4 [4,5,6,7]) (aE (σ:=sg [(0,0),(1,1),(2,2),(3,3)]) ⟨(e1 k k),(pE k k),(pE k k),(oE k k),(e1 k k),(e1 k k),(e1 k k),(e1 k k),(e1 k k),trivial⟩ (hP k k k k<|hX ⟨_,k,k,.inr ⟨_,_,k,⟨_,_,k,k,⟨_,_,k,k,⟨_,_,k,⟨k,k,(by simp only [bD,lA,lT,lR,lC,lN]),k⟩,k⟩⟩⟩,k⟩⟩ k<|hI k k k<|hI k k k<|trivial) k)<|rg<|ae (aD aA k k k k k k k) k<|ae (aC aA k k k k k k k) k<|am k k<|ae (aD aA k k k k k k k) k<|ae (aC aA k k k k k k k) k<|ae (fP k k) k<|am k k ?_
        refine ae (bV k k) k<|am k k ?_
        obtain ⟨v13,hv13,h⟩:=ob h
        refine ae (cY aA (eU hv13) (eV hv13) k k k k k k k) k<|ae (iI aA tG (u:=v10) (dO hv13) k k k k k k) k<|an<|bE<|tn<|rg<|am k k<|ae (bV k k) k<|aa k k<|an ?_
        refine tn ?_
        obtain rfl:=so h
        exact ⟨_,k,(aE (σ:=sg [(0,0),(1,1),(2,2),(3,3)]) ⟨(e1 k k),(pE k k),(pE k k),(oE k k),(e1 k k),(e1 k k),(e1 k k),(e1 k k),trivial⟩ (hP k k k k<|hX ⟨_,k,k,.inr ⟨_,_,k,⟨_,_,k,k,⟨_,_,k,k,⟨_,_,k,⟨k,k,(by simp only [bD,lA,lT,lR,lC,lN]),k⟩,k⟩⟩⟩,k⟩⟩ k<|hI k k k<|hI k k k<|trivial) k)⟩
       ·refine aS k q9<|bG<|aH<|aH ?_
        obtain rfl:=so h
        exact ⟨_,k,k,(aE (σ:=sg [(0,0),(1,1),(2,2),(3,3)]) ⟨(e1 k k),(pE k k),(pE k k),(oE k k),(e1 k k),(e1 k k),trivial⟩ (hP k k k k<|hX ⟨_,k,k,.inr ⟨_,_,k,⟨_,_,k,k,⟨_,_,k,k,⟨_,_,k,⟨k,k,k,k⟩,k⟩⟩⟩,k⟩⟩ k<|hI k k k<|hI k k k<|trivial) k)⟩
      ·rintro e t ⟨rfl,hent⟩
       refine aW<|tn<|aO hent<|sQ<|rg<|am k k<|ae (aD aA k k k k k k k) k<|ae (aC aA k k k k k k k) k<|am k k<|ae (aD aA k k k k k k k) k ?_
       refine ae (aC aA k k k k k k k) k<|ae (fP k k) k<|am k k<|ae (bV k k) k ?_
       obtain ⟨v15,hv15,h⟩:=ob h
       refine ae (cY aA (eU hv15) (eV hv15) k k k k k k k) k<|ae (aC aA k k k k (cL (dO hv15)) k k) k ?_
       obtain ⟨v16,hv16,h⟩:=ob h
       refine ae (aZ (aDJ a0 v15 v16 hv16) k (aG (aI k) (aG (aI k) bA))) k<|aa k k<|an<|tn<|aO (t:=bU [(0,.int a0),(4,.ptr 0 0 0),(6,.ptr 1 0 0),(7,.own 3 0 x1.2.2.1.length),(8,.int x1.2.2.2),(9,.int x1.1),(14,.int v16)] [(0,⟨3,[[.int 0,.int 0,.nil 1]]⟩),(1,⟨3,[[.int v1.rows,.int v1.cols,.own 2 0 y14.length]]⟩),(2,⟨1,List.map (ow eI) y14⟩),(3,⟨1,List.map (ow eI) x1.2.2.1⟩)] 4 [4,5,6,7]) (aE (σ:=sg [(0,0),(1,1),(2,2),(3,3)]) ⟨(e1 k k),(pE k k),(pE k k),(oE k k),(e1 k k),(e1 k k),(e1 k k),trivial⟩ (hP k k k k<|hX ⟨_,k,k,.inr ⟨_,_,k,⟨_,_,k,k,⟨_,_,k,k,⟨_,_,k,⟨k,k,k,k⟩,k⟩⟩⟩,k⟩⟩ k<|hI k k k<|hI k k k<|trivial) k)<|sQ<|sQ<|rg<|aa k k<|an ?_
       refine tn<|aN ?_
       obtain ⟨y21,hy21,h⟩:=ob h
       refine cU (body:=(mI a0 v1 v16 x1)) hy21 (fun (x4:((List Int)×Int))=>bU [(0,.int a0),(4,.ptr 0 0 0),(6,.ptr 1 0 0),(7,.own 3 0 x1.2.2.1.length),(8,.int x1.2.2.2),(9,.int x1.1),(14,.int v16),(15,.int x4.2)] [(0,⟨3,[[.int 0,.int 0,.nil 1]]⟩),(1,⟨3,[[.int v1.rows,.int v1.cols,.own 2 0 x4.1.length]]⟩),(2,⟨1,List.map (ow eI) x4.1⟩),(3,⟨1,List.map (ow eI) x1.2.2.1⟩)] 4 [4,5,6,7]) (fun r e t=>e= .exit 6∧Ent t (bU [(0,.int a0),(4,.ptr 0 0 0),(6,.ptr 1 0 0),(7,.own 3 0 x1.2.2.1.length),(8,.int x1.2.2.2),(9,.int x1.1)] [(0,⟨3,[[.int 0,.int 0,.nil 1]]⟩),(1,⟨3,[[.int v1.rows,.int v1.cols,.own 2 0 r.length]]⟩),(2,⟨1,List.map (ow eI) r⟩),(3,⟨1,List.map (ow eI) x1.2.2.1⟩)] 4 [4,5,6,7])) (aE (σ:=sg [(0,0),(1,1),(2,2),(3,3)]) ⟨(e1 k k),(pE k k),(pE k k),(oE k k),(e1 k k),(e1 k k),(e1 k k),(e1 k k),trivial⟩ (hP k k k k<|hX ⟨_,k,k,.inr ⟨_,_,k,⟨_,_,k,k,⟨_,_,k,k,⟨_,_,k,⟨k,k,k,k⟩,k⟩⟩⟩,k⟩⟩ k<|hI k k k<|hI k k k<|trivial) k) ?_ ?_
       ·intro x4 o h
        refine sQ<|sQ<|rg<|am k k<|ae (aD aA k k k k k k k) k<|ae (aC aA k k k k k k k) k<|ae (bC k k k) k<|an<|tn ?_
        rcases cb h with ⟨q17,h⟩|⟨q17,h⟩
        ·refine aL k q17<|aT<|tn<|sQ<|aN<|aY jW<|ae (aD aA k k k k k k k) k<|ae (aC aA k k k k k k k) k<|am k k<|ae (aD aA k k k k k k k) k ?_
         refine ae (aC aA k k k k k k k) k<|ae (fP k k) k<|am k k<|ae (bV k k) k<|am k k<|am k k<|ae (aD aA k k k k k k k) k<|ae (aC aA k k k k k k k) k<|am k k<|ae (aD aA k k k k k k k) k ?_
         refine ae (aC aA k k k k k k k) k<|ae (fP k k) k<|am k k<|ae (bV k k) k ?_
         obtain ⟨v18,hv18,h⟩:=ob h
         refine ae (cY aA (eU hv18) (eV hv18) k k k k k k k) k<|ae (aC aA k k k k (cL (dO hv18)) k k) k<|ae (fP k k) k ?_
         obtain ⟨v19,hv19,h⟩:=ob h
         refine ae (aZ (tQ a0 (wr (v16*v18)) v19 hv19) k (aG (aI k) (aG (aI k) bA))) k ?_
         obtain ⟨v20,hv20,h⟩:=ob h
         refine ae (cY aA (eU hv20) (eV hv20) k k k k k k k) k<|ae (iI aA tG (u:=v19) (dO hv20) k k k k k k) k<|an ?_
         refine ⟨by kernel_rfl,?_⟩
         refine bE<|tn<|aO (t:=bU [(0,.int a0),(4,.ptr 0 0 0),(6,.ptr 1 0 0),(7,.own 3 0 x1.2.2.1.length),(8,.int x1.2.2.2),(9,.int x1.1),(14,.int v16),(15,.int x4.2)] [(0,⟨3,[[.int 0,.int 0,.nil 1]]⟩),(1,⟨3,[[.int v1.rows,.int v1.cols,.own 2 0 ((x4.1.set ((wr ((wr (x1.2.2.2*v1.cols))+x4.2)).toNat) v19).length)]]⟩),(2,⟨1,List.map (ow eI) (x4.1.set ((wr ((wr (x1.2.2.2*v1.cols))+x4.2)).toNat) v19)⟩),(3,⟨1,List.map (ow eI) x1.2.2.1⟩)] 4 [4,5,6,7]) (aE (σ:=sg [(0,0),(1,1),(2,2),(3,3)]) ⟨(e1 k k),(pE k k),(pE k k),(oE k k),(e1 k k),(e1 k k),(e1 k k),(e1 k k),trivial⟩ (hP k k k k<|hX ⟨_,k,k,.inr ⟨_,_,k,⟨_,_,k,k,⟨_,_,k,k,⟨_,_,k,⟨k,k,(by simp only [bD,lA,lT,lR,lC,lN]),k⟩,k⟩⟩⟩,k⟩⟩ k<|hI k k k<|hI k k k<|trivial) k)<|rg<|am k k<|ae (bV k k) k<|aa k k<|an<|tn ?_
         obtain rfl:=so h
         exact ⟨_,k,(aE (σ:=sg [(0,0),(1,1),(2,2),(3,3)]) ⟨(e1 k k),(pE k k),(pE k k),(oE k k),(e1 k k),(e1 k k),(e1 k k),(e1 k k),trivial⟩ (hP k k k k<|hX ⟨_,k,k,.inr ⟨_,_,k,⟨_,_,k,k,⟨_,_,k,k,⟨_,_,k,⟨k,k,k,k⟩,k⟩⟩⟩,k⟩⟩ k<|hI k k k<|hI k k k<|trivial) k)⟩
        ·refine aS k q17<|bG<|aH<|aH ?_
         obtain rfl:=so h
         exact ⟨_,k,k,(aE (σ:=sg [(0,0),(1,1),(2,2),(3,3)]) ⟨(e1 k k),(pE k k),(pE k k),(oE k k),(e1 k k),(e1 k k),trivial⟩ (hP k k k k<|hX ⟨_,k,k,.inr ⟨_,_,k,⟨_,_,k,k,⟨_,_,k,k,⟨_,_,k,⟨k,k,k,k⟩,k⟩⟩⟩,k⟩⟩ k<|hI k k k<|hI k k k<|trivial) k)⟩
       ·rintro e t ⟨rfl,hent⟩
        refine aW<|tn<|aO hent<|sQ<|sQ<|rg<|aa k k<|an<|tn<|aN ?_
        obtain ⟨y31,hy31,h⟩:=ob h
        refine cU (body:=(gS a0 v1 x1)) hy31 (fun (x5:((List Int)×Int))=>bU [(0,.int a0),(4,.ptr 0 0 0),(6,.ptr 1 0 0),(7,.own 3 0 x1.2.2.1.length),(8,.int x1.2.2.2),(9,.int x1.1),(16,.int x5.2)] [(0,⟨3,[[.int 0,.int 0,.nil 1]]⟩),(1,⟨3,[[.int v1.rows,.int v1.cols,.own 2 0 x5.1.length]]⟩),(2,⟨1,List.map (ow eI) x5.1⟩),(3,⟨1,List.map (ow eI) x1.2.2.1⟩)] 4 [4,5,6,7]) (fun r e t=>e= .exit 8∧Ent t (bU [(0,.int a0),(4,.ptr 0 0 0),(6,.ptr 1 0 0),(7,.own 3 0 x1.2.2.1.length),(8,.int x1.2.2.2),(9,.int x1.1)] [(0,⟨3,[[.int 0,.int 0,.nil 1]]⟩),(1,⟨3,[[.int v1.rows,.int v1.cols,.own 2 0 r.length]]⟩),(2,⟨1,List.map (ow eI) r⟩),(3,⟨1,List.map (ow eI) x1.2.2.1⟩)] 4 [4,5,6,7])) (aE (σ:=sg [(0,0),(1,1),(2,2),(3,3)]) ⟨(e1 k k),(pE k k),(pE k k),(oE k k),(e1 k k),(e1 k k),(e1 k k),trivial⟩ (hP k k k k<|hX ⟨_,k,k,.inr ⟨_,_,k,⟨_,_,k,k,⟨_,_,k,k,⟨_,_,k,⟨k,k,k,k⟩,k⟩⟩⟩,k⟩⟩ k<|hI k k k<|hI k k k<|trivial) k) ?_ ?_
        ·intro x5 o h
         refine sQ<|sQ<|rg<|am k k<|ae (aD aA k k k k k k k) k<|ae (aC aA k k k k k k k) k<|ae (bC k k k) k<|an<|tn ?_
         rcases cb h with ⟨q22,h⟩|⟨q22,h⟩
         ·refine aL k q22<|aT<|tn<|sQ<|aN<|sQ<|rg<|ae (aD aA k k k k k k k) k<|ae (aC aA k k k k k k k) k<|am k k ?_
          refine ae (aD aA k k k k k k k) k<|ae (aC aA k k k k k k k) k<|ae (fP k k) k<|am k k<|ae (bV k k) k ?_
          obtain ⟨v23,hv23,h⟩:=ob h
          refine ae (cY aA (eU hv23) (eV hv23) k k k k k k k) k<|ae (aC aA k k k k (cL (dO hv23)) k k) k<|aa k k<|an<|tn<|aO (t:=bU [(0,.int a0),(4,.ptr 0 0 0),(6,.ptr 1 0 0),(7,.own 3 0 x1.2.2.1.length),(8,.int x1.2.2.2),(9,.int x1.1),(16,.int x5.2),(17,.int v23)] [(0,⟨3,[[.int 0,.int 0,.nil 1]]⟩),(1,⟨3,[[.int v1.rows,.int v1.cols,.own 2 0 x5.1.length]]⟩),(2,⟨1,List.map (ow eI) x5.1⟩),(3,⟨1,List.map (ow eI) x1.2.2.1⟩)] 4 [4,5,6,7]) (aE (σ:=sg [(0,0),(1,1),(2,2),(3,3)]) ⟨(e1 k k),(pE k k),(pE k k),(oE k k),(e1 k k),(e1 k k),(e1 k k),(e1 k k),trivial⟩ (hP k k k k<|hX ⟨_,k,k,.inr ⟨_,_,k,⟨_,_,k,k,⟨_,_,k,k,⟨_,_,k,⟨k,k,k,k⟩,k⟩⟩⟩,k⟩⟩ k<|hI k k k<|hI k k k<|trivial) k)<|sQ<|rg<|aa k k<|an ?_
          refine tn<|aN ?_
          obtain ⟨y30,hy30,h⟩:=ob h
          refine cU (body:=(jF a0 v1 v23 x1 x5)) hy30 (fun (x6:((List Int)×Int))=>bU [(0,.int a0),(4,.ptr 0 0 0),(6,.ptr 1 0 0),(7,.own 3 0 x1.2.2.1.length),(8,.int x1.2.2.2),(9,.int x1.1),(16,.int x5.2),(17,.int v23),(18,.int x6.2)] [(0,⟨3,[[.int 0,.int 0,.nil 1]]⟩),(1,⟨3,[[.int v1.rows,.int v1.cols,.own 2 0 x6.1.length]]⟩),(2,⟨1,List.map (ow eI) x6.1⟩),(3,⟨1,List.map (ow eI) x1.2.2.1⟩)] 4 [4,5,6,7]) (fun r e t=>e= .exit 10∧Ent t (bU [(0,.int a0),(4,.ptr 0 0 0),(6,.ptr 1 0 0),(7,.own 3 0 x1.2.2.1.length),(8,.int x1.2.2.2),(9,.int x1.1),(16,.int x5.2)] [(0,⟨3,[[.int 0,.int 0,.nil 1]]⟩),(1,⟨3,[[.int v1.rows,.int v1.cols,.own 2 0 r.length]]⟩),(2,⟨1,List.map (ow eI) r⟩),(3,⟨1,List.map (ow eI) x1.2.2.1⟩)] 4 [4,5,6,7])) (aE (σ:=sg [(0,0),(1,1),(2,2),(3,3)]) ⟨(e1 k k),(pE k k),(pE k k),(oE k k),(e1 k k),(e1 k k),(e1 k k),(e1 k k),(e1 k k),trivial⟩ (hP k k k k<|hX ⟨_,k,k,.inr ⟨_,_,k,⟨_,_,k,k,⟨_,_,k,k,⟨_,_,k,⟨k,k,k,k⟩,k⟩⟩⟩,k⟩⟩ k<|hI k k k<|hI k k k<|trivial) k) ?_ ?_
          ·intro x6 o h
           refine sQ<|sQ<|rg<|am k k<|ae (aD aA k k k k k k k) k<|ae (aC aA k k k k k k k) k<|ae (bC k k k) k<|am k k ?_
           rcases cb h with ⟨q24,h⟩|⟨q24,h⟩
           ·refine aX 162 k q24<|am k k<|am k k<|ae (bC k k k) k<|ae (aJ k k) k<|an<|tn ?_
            rcases cb h with ⟨q25,h⟩|⟨q25,h⟩
            ·refine aL k q25<|aT<|tn<|sQ<|aN<|aY jW<|ae (aD aA k k k k k k k) k<|ae (aC aA k k k k k k k) k<|am k k<|ae (aD aA k k k k k k k) k ?_
             refine ae (aC aA k k k k k k k) k<|ae (fP k k) k<|am k k<|ae (bV k k) k<|am k k<|ae (aD aA k k k k k k k) k<|ae (aC aA k k k k k k k) k<|am k k<|ae (aD aA k k k k k k k) k<|ae (aC aA k k k k k k k) k ?_
             refine ae (fP k k) k<|am k k<|ae (bV k k) k ?_
             obtain ⟨v26,hv26,h⟩:=ob h
             refine ae (cY aA (eU hv26) (eV hv26) k k k k k k k) k<|ae (aC aA k k k k (cL (dO hv26)) k k) k<|am k k<|ae (aD aA k k k k k k k) k<|ae (aC aA k k k k k k k) k<|am k k<|ae (aD aA k k k k k k k) k<|ae (aC aA k k k k k k k) k<|ae (fP k k) k<|am k k ?_
             refine ae (bV k k) k ?_
             obtain ⟨v27,hv27,h⟩:=ob h
             refine ae (cY aA (eU hv27) (eV hv27) k k k k k k k) k<|ae (aC aA k k k k (cL (dO hv27)) k k) k<|ae (fP k k) k<|ae (iH k k) k ?_
             obtain ⟨v28,hv28,h⟩:=ob h
             refine ae (aZ (tQ a0 (wr (v26 - (wr (v23*v27)))) v28 hv28) k (aG (aI k) (aG (aI k) bA))) k ?_
             obtain ⟨v29,hv29,h⟩:=ob h
             refine ae (cY aA (eU hv29) (eV hv29) k k k k k k k) k<|ae (iI aA tG (u:=v28) (dO hv29) k k k k k k) k<|an ?_
             refine ⟨by kernel_rfl,?_⟩
             refine bE<|tn<|aO (t:=bU [(0,.int a0),(4,.ptr 0 0 0),(6,.ptr 1 0 0),(7,.own 3 0 x1.2.2.1.length),(8,.int x1.2.2.2),(9,.int x1.1),(16,.int x5.2),(17,.int v23),(18,.int x6.2)] [(0,⟨3,[[.int 0,.int 0,.nil 1]]⟩),(1,⟨3,[[.int v1.rows,.int v1.cols,.own 2 0 ((x6.1.set ((wr ((wr (x5.2*v1.cols))+x6.2)).toNat) v28).length)]]⟩),(2,⟨1,List.map (ow eI) (x6.1.set ((wr ((wr (x5.2*v1.cols))+x6.2)).toNat) v28)⟩),(3,⟨1,List.map (ow eI) x1.2.2.1⟩)] 4 [4,5,6,7]) (aE (σ:=sg [(0,0),(1,1),(2,2),(3,3)]) ⟨(e1 k k),(pE k k),(pE k k),(oE k k),(e1 k k),(e1 k k),(e1 k k),(e1 k k),(e1 k k),trivial⟩ (hP k k k k<|hX ⟨_,k,k,.inr ⟨_,_,k,⟨_,_,k,k,⟨_,_,k,k,⟨_,_,k,⟨k,k,(by simp only [bD,lA,lT,lR,lC,lN]),k⟩,k⟩⟩⟩,k⟩⟩ k<|hI k k k<|hI k k k<|trivial) k)<|rg<|am k k<|ae (bV k k) k<|aa k k<|an<|tn ?_
             obtain rfl:=so h
             exact ⟨_,k,(aE (σ:=sg [(0,0),(1,1),(2,2),(3,3)]) ⟨(e1 k k),(pE k k),(pE k k),(oE k k),(e1 k k),(e1 k k),(e1 k k),(e1 k k),(e1 k k),trivial⟩ (hP k k k k<|hX ⟨_,k,k,.inr ⟨_,_,k,⟨_,_,k,k,⟨_,_,k,k,⟨_,_,k,⟨k,k,k,k⟩,k⟩⟩⟩,k⟩⟩ k<|hI k k k<|hI k k k<|trivial) k)⟩
            ·refine aS k q25<|bG<|aH<|aH ?_
             obtain rfl:=so h
             exact ⟨_,k,k,(aE (σ:=sg [(0,0),(1,1),(2,2),(3,3)]) ⟨(e1 k k),(pE k k),(pE k k),(oE k k),(e1 k k),(e1 k k),(e1 k k),trivial⟩ (hP k k k k<|hX ⟨_,k,k,.inr ⟨_,_,k,⟨_,_,k,k,⟨_,_,k,k,⟨_,_,k,⟨k,k,k,k⟩,k⟩⟩⟩,k⟩⟩ k<|hI k k k<|hI k k k<|trivial) k)⟩
           ·refine aX 162 k q24<|ak k k<|ak k k<|ak k k<|ae (aJ k k) k<|an<|tn<|aS k k<|bG<|aH ?_
            refine aH ?_
            obtain rfl:=so h
            exact ⟨_,k,k,(aE (σ:=sg [(0,0),(1,1),(2,2),(3,3)]) ⟨(e1 k k),(pE k k),(pE k k),(oE k k),(e1 k k),(e1 k k),(e1 k k),trivial⟩ (hP k k k k<|hX ⟨_,k,k,.inr ⟨_,_,k,⟨_,_,k,k,⟨_,_,k,k,⟨_,_,k,⟨k,k,k,k⟩,k⟩⟩⟩,k⟩⟩ k<|hI k k k<|hI k k k<|trivial) k)⟩
          ·rintro e t ⟨rfl,hent⟩
           refine aW<|bE<|tn<|aO hent<|rg<|am k k<|ae (bV k k) k<|aa k k<|an<|tn ?_
           obtain rfl:=so h
           exact ⟨_,k,(aE (σ:=sg [(0,0),(1,1),(2,2),(3,3)]) ⟨(e1 k k),(pE k k),(pE k k),(oE k k),(e1 k k),(e1 k k),(e1 k k),trivial⟩ (hP k k k k<|hX ⟨_,k,k,.inr ⟨_,_,k,⟨_,_,k,k,⟨_,_,k,k,⟨_,_,k,⟨k,k,k,k⟩,k⟩⟩⟩,k⟩⟩ k<|hI k k k<|hI k k k<|trivial) k)⟩
         ·refine aS k q22<|bG<|aH<|aH ?_
          obtain rfl:=so h
          exact ⟨_,k,k,(aE (σ:=sg [(0,0),(1,1),(2,2),(3,3)]) ⟨(e1 k k),(pE k k),(pE k k),(oE k k),(e1 k k),(e1 k k),trivial⟩ (hP k k k k<|hX ⟨_,k,k,.inr ⟨_,_,k,⟨_,_,k,k,⟨_,_,k,k,⟨_,_,k,⟨k,k,k,k⟩,k⟩⟩⟩,k⟩⟩ k<|hI k k k<|hI k k k<|trivial) k)⟩
        ·rintro e t ⟨rfl,hent⟩
         refine aW<|tn<|aO hent<|sQ<|rg<|am k k<|am k k<|ae (cS aA k k k k k k k k k k k k) k ?_
         obtain ⟨q32,h⟩:=cg h
         refine ae (uN aA (l:=x1.2.2.1) (m:=[x1.1]) tG q32 k k k k k k k k k k k k) k<|aa k k<|an<|tn<|rg<|am k k<|ae (bV k k) k<|aa k k<|an<|bE ?_
         refine tn<|rg<|am k k<|ae (bV k k) k<|aa k k<|an<|tn ?_
         obtain rfl:=so h
         exact ⟨_,k,(aE (σ:=sg [(0,0),(1,1),(2,2),(3,5)]) ⟨(e1 k k),(pE k k),(pE k k),(oE k k),(e1 k k),(e1 k k),trivial⟩ (hP k k k k<|hX ⟨_,k,k,.inr ⟨_,_,k,⟨_,_,k,k,⟨_,_,k,k,⟨_,_,k,⟨k,k,k,k⟩,k⟩⟩⟩,k⟩⟩ k<|hI k k k<|hI k k k<|trivial) k)⟩
   ·refine aS k q3<|bG<|aH<|aH ?_
    obtain rfl:=so h
    exact ⟨_,k,k,(aE (σ:=sg [(0,0),(1,1),(2,2),(3,3)]) ⟨(pE k k),(pE k k),(oE k k),trivial⟩ (hP k k k k<|hX ⟨_,k,k,.inr ⟨_,_,k,⟨_,_,k,k,⟨_,_,k,k,⟨_,_,k,⟨k,k,k,k⟩,k⟩⟩⟩,k⟩⟩ k<|hI k k k<|hI k k k<|trivial) k)⟩
  ·refine aX 26 k q2<|ak k k<|ak k k<|ak k k<|ak k k<|ae (aJ k k) k<|an<|tn<|aS k k<|bG ?_
   refine aH<|aH ?_
   obtain rfl:=so h
   exact ⟨_,k,k,(aE (σ:=sg [(0,0),(1,1),(2,2),(3,3)]) ⟨(pE k k),(pE k k),(oE k k),trivial⟩ (hP k k k k<|hX ⟨_,k,k,.inr ⟨_,_,k,⟨_,_,k,k,⟨_,_,k,k,⟨_,_,k,⟨k,k,k,k⟩,k⟩⟩⟩,k⟩⟩ k<|hI k k k<|hI k k k<|trivial) k)⟩
 ·rintro e t ⟨rfl,hent⟩
  refine aW<|tn<|aO hent<|sQ<|rg<|ae (aC aA k k k k k k k) k<|am k k<|ae (bP aA k k k k k k k k) k<|aa k k<|an ?_
  refine tn<|aP ?_
  obtain rfl:=so h
  exact aU k k k (gH k (dU (yP (cD (k) (cD (k) (cD (iQ eD k k) gZ)))) (dU (xC (iQ eD k k)) mD)))
def pY (a0:Int) (a1:Int):Option Int:=
 Option.bind (hO a0) fun v1=>
 bif !v1 then
 (some (0))
 else
 (bif !decide (a0=0) then
 (bif !decide (a0=0) then
 (some ((wr ((a1.tmod a0)+a0)).tmod a0))
 else none)
 else none)
theorem aEI (a0:Int) (a1:Int) (r:Int) (h:pY a0 a1=some r):HasC Tryz.prog 273 [.int a0,.int a1] (.int r):=by
 refine bK aA (rvs:=[.tmp 4]) (ns:=[0,1]) Tryz.func273 k k Tryz.ntmps273 k k k<|sQ<|rg<|aa k k<|an<|tn<|sQ<|sQ<|rg<|am k k ?_
 obtain ⟨v1,hv1,h⟩:=ob h
 refine ae (aZ (lJ a0 v1 hv1) k (aG (aI k) bA)) k<|ae (cG k) k<|an<|tn ?_
 rcases cb h with ⟨q2,h⟩|⟨q2,h⟩
 ·refine aL k q2<|sQ<|rg<|aa k k<|an<|tn<|aP<|aK ?_
  obtain rfl:=so h
  exact aU k k k (cJ k)
 ·refine aS k q2<|aT<|tn<|sQ<|rg<|am k k<|am k k ?_
  obtain ⟨q4,h⟩:=cg h
  refine ae (aDB k k q4) k<|am k k<|ae (bV k k) k<|am k k ?_
  obtain ⟨q3,h⟩:=cg h
  refine ae (aDB k k q3) k<|aa k k<|an<|tn<|aO (t:=bU [(4,.int ((wr ((a1.tmod a0)+a0)).tmod a0))] [] 0 [0,1]) (aE (σ:=sg []) ⟨(e1 k k),trivial⟩ trivial k)<|aP ?_
  obtain rfl:=so h
  exact aU k k k (cJ k)
def mJ (a0:Int) (a1:Int) (a2:Int) (x1:(Int×Int)):Option ((Int×Int) ⊕ Int):=
 bif decide (x1.2<a2) then
 (Option.bind (pY a0 a1) fun v6=>
 bif !decide (a0=0) then
 (some (.inl ((wr (x1.1*v6)).tmod a0,wr (x1.2+1))))
 else none)
 else
 (some (.inr x1.1))
def qZ (a0:Int) (a1:Int) (a2:Int):Option Int:=
 Option.bind (hO a0) fun v1=>
 bif !v1 then
 (some (0))
 else
 (Option.bind (gD a2 0 1000) fun v3=>
 bif !v3 then
 (some (0))
 else
 (Option.bind (Lp (mJ a0 a1 a2) (1,0)) fun y8=>
 some (y8)))
theorem aFK (a0:Int) (a1:Int) (a2:Int) (r:Int) (h:qZ a0 a1 a2=some r):HasC Tryz.prog 265 [.int a0,.int a1,.int a2] (.int r):=by
 refine bK aA (rvs:=[.tmp 6]) (ns:=[0,1]) Tryz.func265 k k Tryz.ntmps265 k k k<|sQ<|rg<|aa k k<|an<|tn<|sQ<|sQ<|rg<|am k k ?_
 obtain ⟨v1,hv1,h⟩:=ob h
 refine ae (aZ (lJ a0 v1 hv1) k (aG (aI k) bA)) k<|ae (cG k) k<|am k k ?_
 rcases cb h with ⟨q2,h⟩|⟨q2,h⟩
 ·refine aX 11 k q2<|ak k k<|ak k k<|ak k k<|ae (aJ k k) k<|an<|tn<|aL k k<|sQ<|rg ?_
  refine aa k k<|an<|tn<|aP<|aK ?_
  obtain rfl:=so h
  exact aU k k k (cJ k)
 ·refine aX 11 k q2<|am k k ?_
  obtain ⟨v3,hv3,h⟩:=ob h
  refine ae (aZ (iU a2 0 1000 v3 hv3) k (aG (aI k) (aG (aI k) (aG (aI k) bA)))) k<|ae (cG k) k<|ae (aJ k k) k<|an<|tn ?_
  rcases cb h with ⟨q4,h⟩|⟨q4,h⟩
  ·refine aL k q4<|sQ<|rg<|aa k k<|an<|tn<|aP<|aK ?_
   obtain rfl:=so h
   exact aU k k k (cJ k)
  ·refine aS k q4<|aT<|tn<|sQ<|rg<|aa k k<|an<|tn<|sQ<|sQ ?_
   refine rg<|am k k<|am k k<|an<|tn<|aO (t:=bU [(0,.int a0),(1,.int a1),(7,.int 1),(16,.int a2),(17,.int 0)] [] 0 [0,1]) (aE (σ:=sg []) ⟨(e1 k k),(e1 k k),(e1 k k),(e1 k k),(e1 k k),trivial⟩ trivial k)<|aN ?_
   obtain ⟨y8,hy8,h⟩:=ob h
   refine cU (body:=(mJ a0 a1 a2)) hy8 (fun (x1:(Int×Int))=>bU [(0,.int a0),(1,.int a1),(7,.int x1.1),(16,.int a2),(17,.int x1.2)] [] 0 [0,1]) (fun r e t=>e= .exit 0∧Ent t (bU [(7,.int r)] [] 0 [0,1])) (aE (σ:=sg []) ⟨(e1 k k),(e1 k k),(e1 k k),(e1 k k),(e1 k k),trivial⟩ trivial k) ?_ ?_
   ·intro x1 o h
    refine sQ<|rg<|ae (bC k k k) k<|an<|tn<|sQ ?_
    rcases cb h with ⟨q5,h⟩|⟨q5,h⟩
    ·refine aL k q5<|aT<|tn<|sQ<|aN<|rg<|am k k<|am k k<|am k k ?_
     obtain ⟨v6,hv6,h⟩:=ob h
     refine ae (aZ (aEI a0 a1 v6 hv6) k (aG (aI k) (aG (aI k) bA))) k<|ae (fP k k) k<|am k k ?_
     obtain ⟨q7,h⟩:=cg h
     refine ae (aDB k k q7) k<|aa k k<|an<|bE<|tn<|rg<|ae (bV k k) k<|am k k<|an<|tn ?_
     obtain rfl:=so h
     exact ⟨_,k,(aE (σ:=sg []) ⟨(e1 k k),(e1 k k),(e1 k k),(e1 k k),(e1 k k),trivial⟩ trivial k)⟩
    ·refine aS k q5<|bG<|aH<|aH ?_
     obtain rfl:=so h
     exact ⟨_,k,k,(aE (σ:=sg []) ⟨(e1 k k),trivial⟩ trivial k)⟩
   ·rintro e t ⟨rfl,hent⟩
    refine aW<|tn<|aO hent<|sQ<|rg<|am k k<|aa k k<|an<|tn<|aP ?_
    obtain rfl:=so h
    exact aU k k k (cJ k)
def nX (a0:Int) (a1:Int):Option Int:=
 Option.bind (hO a0) fun v1=>
 bif !v1 then
 (some (0))
 else
 (Option.bind (qZ a0 a1 (max (wr (a0 - 2)) 1)) fun v3=>
 some (v3))
theorem aDK (a0:Int) (a1:Int) (r:Int) (h:nX a0 a1=some r):HasC Tryz.prog 243 [.int a0,.int a1] (.int r):=by
 refine bK aA (rvs:=[.tmp 4]) (ns:=[0,1]) Tryz.func243 k k Tryz.ntmps243 k k k<|sQ<|rg<|aa k k<|an<|tn<|sQ<|sQ<|rg<|am k k ?_
 obtain ⟨v1,hv1,h⟩:=ob h
 refine ae (aZ (lJ a0 v1 hv1) k (aG (aI k) bA)) k<|ae (cG k) k<|an<|tn ?_
 rcases cb h with ⟨q2,h⟩|⟨q2,h⟩
 ·refine aL k q2<|sQ<|rg<|aa k k<|an<|tn<|aP<|aK ?_
  obtain rfl:=so h
  exact aU k k k (cJ k)
 ·refine aS k q2<|aT<|tn<|sQ<|rg<|am k k<|am k k<|am k k<|ae (iH k k) k<|ae (aRD k k) k ?_
  obtain ⟨v3,hv3,h⟩:=ob h
  refine ae (aZ (aFK a0 a1 (max (wr (a0 - 2)) 1) v3 hv3) k (aG (aI k) (aG (aI k) (aG (aI k) bA)))) k<|aa k k<|an<|tn<|aP ?_
  obtain rfl:=so h
  exact aU k k k (cJ k)
def pA (a0:(List Int)) (a1:Int) (x1:Int):Option (Int ⊕ (Unit ⊕ Int)):=
 bif decide (x1<(a0.length:Int)) then
 (Option.bind (dV a0 x1) fun v2=>
 bif decide (a1=v2) then
 (some (.inr (.inr (x1))))
 else
 (some (.inl (wr (x1+1)))))
 else
 (some (.inr (.inl ())))
def iL (a0:(List Int)) (a1:Int):Option Int:=
 Option.bind (Lp (pA a0 a1) 0) fun y4=>
 Sum.elim (fun y5=>
 some ((-1))
 )
 (fun y6=>
 some y6
 )
 y4
theorem zK (a0:(List Int)) (a1:Int) (r:Int) (h:iL a0 a1=some r):HasC Tryz.prog 237 [.list 1 (List.map eI a0),.int a1] (.int r):=by
 refine bK aA (rvs:=[.tmp 4]) (ns:=[0,1]) Tryz.func237 k k Tryz.ntmps237 k k k<|sQ<|rg<|aa k k<|an<|tn<|sQ<|sQ<|rg<|am k k ?_
 refine ae (dD aA k k k) k<|am k k<|an<|tn<|aN ?_
 obtain ⟨y4,hy4,h⟩:=ob h
 refine cU (body:=(pA a0 a1)) hy4 (fun (x1:Int)=>bU [(0,.list 1 (List.map eI a0)),(1,.int a1),(7,.int (a0.length:Int)),(8,.int x1)] [] 0 [0,1]) (fun r e t=>Sum.elim (fun a=>(fun r e t=>e= .exit 0∧Ent t (bU [] [] 0 [0,1])) a e t) (fun b=>(fun r e t=>e= .ret∧sA TT [.tmp 4] (.int r) .ret t) b e t) r) (aE (σ:=sg []) ⟨⟨_,k,⟨k,k⟩⟩,(e1 k k),(e1 k k),(e1 k k),trivial⟩ trivial k) ?_ ?_
 ·intro x1 o h
  refine sQ<|rg<|ae (bC k k k) k<|an<|tn<|sQ ?_
  rcases cb h with ⟨q1,h⟩|⟨q1,h⟩
  ·refine aL k q1<|aT<|tn<|sQ<|aN<|sQ<|rg<|am k k<|aa k k<|an ?_
   refine tn<|sQ<|rg<|am k k<|am k k<|am k k ?_
   obtain ⟨v2,hv2,h⟩:=ob h
   refine ae (bH aA hv2 k k k k k k) k<|ae (aV aA k k k k k k) k<|ae (bC k k k) k<|an<|tn ?_
   rcases cb h with ⟨q3,h⟩|⟨q3,h⟩
   ·refine aL k q3<|sQ<|rg<|am k k<|aa k k<|an<|tn<|aP<|bB<|aK ?_
    refine aK ?_
    obtain rfl:=so h
    exact ⟨_,k,k,aU k k k (cJ k)⟩
   ·refine aS k q3<|aT<|bE<|tn<|rg<|ae (bV k k) k<|am k k<|an<|tn ?_
    obtain rfl:=so h
    exact ⟨_,k,(aE (σ:=sg []) ⟨⟨_,k,⟨k,k⟩⟩,(e1 k k),(e1 k k),(e1 k k),trivial⟩ trivial k)⟩
  ·refine aS k q1<|bG<|aH<|aH ?_
   obtain rfl:=so h
   exact ⟨_,k,k,(aE (σ:=sg []) trivial trivial k)⟩
 ·intro e t hX
  rcases y4 with y5|y6
  ·obtain ⟨rfl,hent⟩:=hX
   refine aW<|tn<|aO hent<|sQ<|rg<|aa k k<|an<|tn<|aP ?_
   obtain rfl:=so h
   exact aU k k k (cJ k)
  ·obtain ⟨rfl,hent⟩:=hX
   refine bB<|aK ?_
   obtain rfl:=so h
   exact hent
def gJ (a0:(List Int)) (a1:Int):Option Bool:=
 Option.bind (iL a0 a1) fun v1=>
 some (decide (0≤v1))
theorem xH (a0:(List Int)) (a1:Int) (r:Bool) (h:gJ a0 a1=some r):HasC Tryz.prog 208 [.list 1 (List.map eI a0),.int a1] (.bl r):=by
 refine bK aA (rvs:=[.tmp 4]) (ns:=[0,1]) Tryz.func208 k k Tryz.ntmps208 k k k<|sQ<|rg<|aa k k<|an<|tn<|sQ<|rg<|am k k<|am k k ?_
 obtain ⟨v1,hv1,h⟩:=ob h
 refine ae (aZ (zK a0 a1 v1 hv1) k (aG (aI k) (aG (aI k) bA))) k<|ae (bC k k k) k<|aa k k<|an<|tn<|aP ?_
 obtain rfl:=so h
 exact aU k k k (bT k)
def jR (a0:Int) (a1:(List Int)) (x1:((List Int)×Int)):Option (((List Int)×Int) ⊕ (List Int)):=
 bif decide (x1.2<a0) then
 (Option.bind (gJ a1 x1.2) fun v2=>
 bif !v2 then
 (bif decide (x1.1.length+[x1.2].length ≤4294967296) then
 (some (.inl ((x1.1++[x1.2]),wr (x1.2+1))))
 else none)
 else
 (some (.inl (x1.1,wr (x1.2+1)))))
 else
 (some (.inr x1.1))
def mK (a0:Int) (a1:(List Int)):Option (List Int):=
 Option.bind (Lp (jR a0 a1) ([],0)) fun y5=>
 some (y5)
theorem aCN (a0:Int) (a1:(List Int)) (r:(List Int)) (h:mK a0 a1=some r):HasC Tryz.prog 152 [.int a0,.list 1 (List.map eI a1)] (.list 1 (List.map eI r)):=by
 refine bK aA (rvs:=[.tmp 4]) (ns:=[0,1,2,3,4]) Tryz.func152 k k Tryz.ntmps152 k k k<|sQ<|rg<|aa k k<|an<|tn<|sQ<|rg<|aa k k<|an ?_
 refine tn<|sQ<|sQ<|rg<|am k k<|am k k<|an<|tn<|aN ?_
 obtain ⟨y5,hy5,h⟩:=ob h
 refine cU (body:=(jR a0 a1)) hy5 (fun (x1:((List Int)×Int))=>bU [(1,.list 1 (List.map eI a1)),(5,.own 0 0 x1.1.length),(7,.int a0),(8,.int x1.2)] [(0,⟨1,List.map (ow eI) x1.1⟩)] 1 [1,2,3,4]) (fun r e t=>e= .exit 0∧Ent t (bU [(5,.own 0 0 r.length)] [(0,⟨1,List.map (ow eI) r⟩)] 1 [1,2,3,4])) (aE (σ:=sg []) ⟨⟨_,k,⟨k,k⟩⟩,⟨_,k,⟨k,k,k,k⟩⟩,(e1 k k),(e1 k k),trivial⟩ (hX k k<|trivial) k) ?_ ?_
 ·intro x1 o h
  refine sQ<|rg<|ae (bC k k k) k<|an<|tn<|sQ ?_
  rcases cb h with ⟨q1,h⟩|⟨q1,h⟩
  ·refine aL k q1<|aT<|tn<|sQ<|aN<|sQ<|rg<|am k k<|aa k k<|an ?_
   refine tn<|sQ<|rg<|am k k<|am k k ?_
   obtain ⟨v2,hv2,h⟩:=ob h
   refine ae (aZ (xH a1 x1.2 v2 hv2) k (aG (aI k) (aG (aI k) bA))) k<|ae (cG k) k<|an<|tn ?_
   rcases cb h with ⟨q3,h⟩|⟨q3,h⟩
   ·refine aL k q3<|rg<|am k k<|am k k<|ae (cS aA k k k k k k k k k k k k) k ?_
    obtain ⟨q4,h⟩:=cg h
    refine ae (uN aA (l:=x1.1) (m:=[x1.2]) tG q4 k k k k k k k k k k k k) k<|aa k k<|an<|bE<|tn<|aO (t:=bU [(1,.list 1 (List.map eI a1)),(5,.own 2 0 ((x1.1++[x1.2]).length)),(7,.int a0),(8,.int x1.2)] [(2,⟨1,List.map (ow eI) (x1.1++[x1.2])⟩)] 3 [3,4]) (aE (σ:=sg [(2,2)]) ⟨⟨_,k,⟨k,k⟩⟩,(oE k k),(e1 k k),(e1 k k),trivial⟩ (hI k k k<|trivial) k)<|rg<|ae (bV k k) k<|am k k<|an ?_
    refine tn ?_
    obtain rfl:=so h
    exact ⟨_,k,(aE (σ:=sg [(0,2)]) ⟨⟨_,k,⟨k,k⟩⟩,(oE k k),(e1 k k),(e1 k k),trivial⟩ (hI k k k<|trivial) k)⟩
   ·refine aS k q3<|aT<|bE<|tn<|rg<|ae (bV k k) k<|am k k<|an<|tn ?_
    obtain rfl:=so h
    exact ⟨_,k,(aE (σ:=sg [(0,0)]) ⟨⟨_,k,⟨k,k⟩⟩,(oE k k),(e1 k k),(e1 k k),trivial⟩ (hI k k k<|trivial) k)⟩
  ·refine aS k q1<|bG<|aH<|aH ?_
   obtain rfl:=so h
   exact ⟨_,k,k,(aE (σ:=sg [(0,0)]) ⟨(oE k k),trivial⟩ (hI k k k<|trivial) k)⟩
 ·rintro e t ⟨rfl,hent⟩
  refine aW<|tn<|aO hent<|sQ<|rg<|am k k<|aa k k<|an<|tn<|aP ?_
  obtain rfl:=so h
  exact aU k k k (mB (iQ eD k k))
def iM (a1:(List Int)) (x1:(Int×Int)):Option ((Int×Int) ⊕ (Int ⊕ Bool)):=
 bif decide (x1.2<(a1.length:Int)) then
 (Option.bind (dV a1 x1.2) fun v5=>
 Option.bind (fD v5 0 4) fun v6=>
 bif !v6 then
 (some (.inr (.inr (false))))
 else
 (Option.bind (dV a1 x1.2) fun v8=>
 some (.inl (wr (x1.1+v8),wr (x1.2+1)))))
 else
 (some (.inr (.inl x1.1)))
def tR (a0:Qv) (a1:(List Int)):Option Bool:=
 Option.bind (qY a0) fun v1=>
 bif !v1 then
 (some (false))
 else
 (bif !decide ((a1.length:Int)=a0.n) then
 (some (false))
 else
 (Option.bind (Lp (iM a1) (0,0)) fun y9=>
 Sum.elim (fun y10=>
 some (decide (y10≤8))
 )
 (fun y11=>
 some y11
 )
 y9))
theorem aGe (a0:Qv) (a1:(List Int)) (r:Bool) (h:tR a0 a1=some r):HasC Tryz.prog 162 [.agg (eQ a0),.list 1 (List.map eI a1)] (.bl r):=by
 refine bK aA (rvs:=[.tmp 4]) (ns:=[0,1,2]) Tryz.func162 k k Tryz.ntmps162 k k k<|sQ<|rg<|ae (cC k k k k) k<|aa k k<|an<|tn<|sQ<|sQ<|rg ?_
 refine ae (aC aA k k k k k k k) k ?_
 obtain ⟨v1,hv1,h⟩:=ob h
 refine ae (aZ (aFI a0 v1 hv1) k (aG (cA (aM (aQ k) (aM (aQ k) (aM (aQ k) cF)))) bA)) k<|ae (cG k) k<|am k k ?_
 rcases cb h with ⟨q2,h⟩|⟨q2,h⟩
 ·refine aX 10 k q2<|ak k k<|ak k k<|ak k k<|ak k k<|ak k k<|ae (aJ k k) k<|an<|tn<|aO (t:=bU [(1,.list 1 (List.map eI a1)),(16,.bl true)] [] 1 [1,2]) (aE (σ:=sg []) ⟨⟨_,k,⟨k,k⟩⟩,(e1 k k),trivial⟩ trivial k) ?_
  refine aL k k<|sQ<|rg<|aa k k<|an<|tn<|aP<|aK ?_
  obtain rfl:=so h
  exact aU k k k (bT k)
 ·refine aX 10 k q2<|am k k<|ae (dD aA k k k) k<|ae (aD aA k k k k k k k) k<|ae (aC aA k k k k k k k) k<|ae (bC k k k) k<|ae (aJ k k) k<|an<|tn<|aO (t:=bU [(1,.list 1 (List.map eI a1)),(16,.bl (!decide ((a1.length:Int)=a0.n)))] [] 1 [1,2]) (aE (σ:=sg []) ⟨⟨_,k,⟨k,k⟩⟩,(e1 k k),trivial⟩ trivial k) ?_
  rcases cb h with ⟨q3,h⟩|⟨q3,h⟩
  ·refine aL k q3<|sQ<|rg<|aa k k<|an<|tn<|aP<|aK ?_
   obtain rfl:=so h
   exact aU k k k (bT k)
  ·refine aS k q3<|aT<|tn<|sQ<|rg<|aa k k<|an<|tn<|sQ<|sQ ?_
   refine rg<|aa k k<|an<|tn<|aN ?_
   obtain ⟨y9,hy9,h⟩:=ob h
   refine cU (body:=(iM a1)) hy9 (fun (x1:(Int×Int))=>bU [(1,.list 1 (List.map eI a1)),(5,.int x1.1),(6,.int x1.2)] [] 0 [0,1,2]) (fun r e t=>Sum.elim (fun a=>(fun r e t=>e= .exit 0∧Ent t (bU [(5,.int r)] [] 0 [0,1,2])) a e t) (fun b=>(fun r e t=>e= .ret∧sA TT [.tmp 4] (.bl r) .ret t) b e t) r) (aE (σ:=sg []) ⟨⟨_,k,⟨k,k⟩⟩,(e1 k k),(e1 k k),trivial⟩ trivial k) ?_ ?_
   ·intro x1 o h
    refine sQ<|sQ<|rg<|am k k<|am k k<|ae (dD aA k k k) k<|ae (bC k k k) k<|an<|tn ?_
    rcases cb h with ⟨q4,h⟩|⟨q4,h⟩
    ·refine aL k q4<|aT<|tn<|sQ<|aN<|sQ<|sQ<|rg<|am k k<|am k k ?_
     obtain ⟨v5,hv5,h⟩:=ob h
     refine ae (bH aA hv5 k k k k k k) k<|ae (aV aA k k k k k k) k ?_
     obtain ⟨v6,hv6,h⟩:=ob h
     refine ae (aZ (fV v5 0 4 v6 hv6) k (aG (aI k) (aG (aI k) (aG (aI k) bA)))) k<|ae (cG k) k<|an<|tn ?_
     rcases cb h with ⟨q7,h⟩|⟨q7,h⟩
     ·refine aL k q7<|sQ<|rg<|aa k k<|an<|tn<|aP<|aK<|bB<|aK ?_
      refine aK ?_
      obtain rfl:=so h
      exact ⟨_,k,k,aU k k k (bT k)⟩
     ·refine aS k q7<|aT<|tn<|rg<|am k k<|am k k<|am k k ?_
      obtain ⟨v8,hv8,h⟩:=ob h
      refine ae (bH aA hv8 k k k k k k) k<|ae (aV aA k k k k k k) k<|ae (bV k k) k<|aa k k<|an<|bE<|tn<|aO (t:=bU [(1,.list 1 (List.map eI a1)),(5,.int (wr (x1.1+v8))),(6,.int x1.2)] [] 0 [0,1,2]) (aE (σ:=sg []) ⟨⟨_,k,⟨k,k⟩⟩,(e1 k k),(e1 k k),trivial⟩ trivial k)<|rg<|am k k ?_
      refine ae (bV k k) k<|aa k k<|an<|tn ?_
      obtain rfl:=so h
      exact ⟨_,k,(aE (σ:=sg []) ⟨⟨_,k,⟨k,k⟩⟩,(e1 k k),(e1 k k),trivial⟩ trivial k)⟩
    ·refine aS k q4<|bG<|aH<|aH ?_
     obtain rfl:=so h
     exact ⟨_,k,k,(aE (σ:=sg []) ⟨(e1 k k),trivial⟩ trivial k)⟩
   ·intro e t hX
    rcases y9 with y10|y11
    ·obtain ⟨rfl,hent⟩:=hX
     refine aW<|tn<|aO hent<|sQ<|rg<|am k k<|ae (bC k k k) k<|aa k k<|an<|tn ?_
     refine aP ?_
     obtain rfl:=so h
     exact aU k k k (bT k)
    ·obtain ⟨rfl,hent⟩:=hX
     refine bB<|aK ?_
     obtain rfl:=so h
     exact hent
def rA (a0:Rp) (x1:Int):Option (Int ⊕ (Unit ⊕ Bool)):=
 bif decide (x1<(a0.maps.length:Int)) then
 (Option.bind (dV a0.maps x1) fun v7=>
 Option.bind (kB a0.p v7) fun v8=>
 bif !v8 then
 (some (.inr (.inr (false))))
 else
 (Option.bind (dV a0.maps x1) fun v10=>
 Option.bind (dV a0.q.src x1) fun v11=>
 Option.bind (dV a0.dims v11) fun v12=>
 bif !decide (v10.cols=v12) then
 (some (.inr (.inr (false))))
 else
 (Option.bind (dV a0.maps x1) fun v14=>
 Option.bind (dV a0.q.tgt x1) fun v15=>
 Option.bind (dV a0.dims v15) fun v16=>
 bif !decide (v14.rows=v16) then
 (some (.inr (.inr (false))))
 else
 (some (.inl (wr (x1+1)))))))
 else
 (some (.inr (.inl ())))
def tS (a0:Rp):Option Bool:=
 Option.bind (hJ a0.p) fun v1=>
 bif !v1 then
 (some (false))
 else
 (Option.bind (tR a0.q a0.dims) fun v3=>
 bif !v3 then
 (some (false))
 else
 (bif !decide ((a0.maps.length:Int)=(a0.q.src.length:Int)) then
 (some (false))
 else
 (Option.bind (Lp (rA a0) 0) fun y18=>
 Sum.elim (fun y19=>
 some (true)
 )
 (fun y20=>
 some y20
 )
 y18)))
theorem aDL (a0:Rp) (r:Bool) (h:tS a0=some r):HasC Tryz.prog 110 [.agg (eR a0)] (.bl r):=by
 refine bK aA (rvs:=[.tmp 2]) (ns:=[0,1,2]) Tryz.func110 k k Tryz.ntmps110 k k k<|sQ<|rg<|ae (cC k k k k) k<|aa k k<|an<|tn<|sQ<|sQ<|rg ?_
 refine ae (aD aA k k k k k k k) k<|ae (aC aA k k k k k k k) k ?_
 obtain ⟨v1,hv1,h⟩:=ob h
 refine ae (aZ (lI a0.p v1 hv1) k (aG (aI k) bA)) k<|ae (cG k) k<|am k k ?_
 rcases cb h with ⟨q2,h⟩|⟨q2,h⟩
 ·refine aX 8 k q2<|ak k k<|ak k k<|ak k k<|ak k k<|ak k k<|ak k k<|ae (aJ k k) k<|am k k<|ak k k ?_
  refine ak k k<|ak k k<|ak k k<|ak k k<|ak k k<|ak k k<|ak k k<|ae (aJ k k) k<|an<|tn ?_
  refine aO (t:=bU [(1,.ptr 0 0 0),(25,.bl true)] [(0,⟨6,[[.int a0.p,.int a0.q.n,.list 1 (List.map eI a0.q.src),.list 1 (List.map eI a0.q.tgt),.list 1 (List.map eI a0.dims),.list 3 (List.map eM a0.maps)]]⟩)] 1 [1,2]) (aE (σ:=sg [(0,0)]) ⟨(pE k k),(e1 k k),trivial⟩ (hP k k k k<|trivial) k)<|aL k k<|sQ<|rg<|aa k k<|an<|tn<|aP<|aK ?_
  obtain rfl:=so h
  exact aU k k k (bT k)
 ·refine aX 8 k q2<|ae (aD aA k k k k k k k) k<|ae (aC aA k k k k k k k) k<|ae (aD aA k k k k k k k) k<|ae (aC aA k k k k k k k) k ?_
  obtain ⟨v3,hv3,h⟩:=ob h
  refine ae (aZ (aGe a0.q a0.dims v3 hv3) k (aG (cA (aM (aQ k) (aM (aQ k) (aM (aQ k) cF)))) (aG (aI k) bA))) k<|ae (cG k) k<|ae (aJ k k) k<|am k k ?_
  rcases cb h with ⟨q4,h⟩|⟨q4,h⟩
  ·refine aX 16 k q4<|ak k k<|ak k k<|ak k k<|ak k k<|ak k k<|ak k k<|ak k k<|ak k k<|ae (aJ k k) k ?_
   refine an<|tn<|aO (t:=bU [(1,.ptr 0 0 0),(25,.bl true)] [(0,⟨6,[[.int a0.p,.int a0.q.n,.list 1 (List.map eI a0.q.src),.list 1 (List.map eI a0.q.tgt),.list 1 (List.map eI a0.dims),.list 3 (List.map eM a0.maps)]]⟩)] 1 [1,2]) (aE (σ:=sg [(0,0)]) ⟨(pE k k),(e1 k k),trivial⟩ (hP k k k k<|trivial) k)<|aL k k<|sQ<|rg<|aa k k<|an<|tn<|aP ?_
   refine aK ?_
   obtain rfl:=so h
   exact aU k k k (bT k)
  ·refine aX 16 k q4<|ae (aD aA k k k k k k k) k<|ae (aC aA k k k k k k k) k<|ae (dD aA k k k) k<|ae (aD aA k k k k k k k) k<|ae (aD aA k k k k k k k) k<|ae (aC aA k k k k k k k) k<|ae (dD aA k k k) k<|ae (bC k k k) k<|ae (aJ k k) k ?_
   refine an<|tn<|aO (t:=bU [(1,.ptr 0 0 0),(25,.bl (!decide ((a0.maps.length:Int)=(a0.q.src.length:Int))))] [(0,⟨6,[[.int a0.p,.int a0.q.n,.list 1 (List.map eI a0.q.src),.list 1 (List.map eI a0.q.tgt),.list 1 (List.map eI a0.dims),.list 3 (List.map eM a0.maps)]]⟩)] 1 [1,2]) (aE (σ:=sg [(0,0)]) ⟨(pE k k),(e1 k k),trivial⟩ (hP k k k k<|trivial) k) ?_
   rcases cb h with ⟨q5,h⟩|⟨q5,h⟩
   ·refine aL k q5<|sQ<|rg<|aa k k<|an<|tn<|aP<|aK ?_
    obtain rfl:=so h
    exact aU k k k (bT k)
   ·refine aS k q5<|aT<|tn<|sQ<|sQ<|rg<|aa k k<|an<|tn<|aN ?_
    obtain ⟨y18,hy18,h⟩:=ob h
    refine cU (body:=(rA a0)) hy18 (fun (x1:Int)=>bU [(1,.ptr 0 0 0),(3,.int x1)] [(0,⟨6,[[.int a0.p,.int a0.q.n,.list 1 (List.map eI a0.q.src),.list 1 (List.map eI a0.q.tgt),.list 1 (List.map eI a0.dims),.list 3 (List.map eM a0.maps)]]⟩)] 1 [1,2]) (fun r e t=>Sum.elim (fun a=>(fun r e t=>e= .exit 0∧Ent t (bU [] [] 0 [0,1,2])) a e t) (fun b=>(fun r e t=>e= .ret∧sA TT [.tmp 2] (.bl r) .ret t) b e t) r) (aE (σ:=sg [(0,0)]) ⟨(pE k k),(e1 k k),trivial⟩ (hP k k k k<|trivial) k) ?_ ?_
    ·intro x1 o h
     refine sQ<|sQ<|rg<|am k k<|ae (aD aA k k k k k k k) k<|ae (aC aA k k k k k k k) k<|ae (dD aA k k k) k<|ae (bC k k k) k<|an<|tn ?_
     rcases cb h with ⟨q6,h⟩|⟨q6,h⟩
     ·refine aL k q6<|aT<|tn<|sQ<|aN<|sQ<|aY jW<|ae (aD aA k k k k k k k) k<|ae (aC aA k k k k k k k) k<|ae (aD aA k k k k k k k) k ?_
      refine ae (aC aA k k k k k k k) k<|am k k ?_
      obtain ⟨v7,hv7,h⟩:=ob h
      refine ae (bH aA hv7 k k k k k k) k<|ae (aV aA k k k k k k) k ?_
      obtain ⟨v8,hv8,h⟩:=ob h
      refine ae (aZ (vU a0.p v7 v8 hv8) k (aG (aI k) (aG (cA (aM (aQ k) (aM (aQ k) (aM (aQ k) cF)))) bA))) k<|ae (cG k) k<|am k k ?_
      rcases cb h with ⟨q9,h⟩|⟨q9,h⟩
      ·refine aX 42 k q9<|ak k k<|ak k k<|ak k k<|ak k k<|ak k k<|ak k k<|ak k k<|ak k k<|ak k k ?_
       refine ak k k<|ak k k<|ak k k<|ak k k<|ak k k<|ak k k<|ak k k<|ak k k<|ae (aJ k k) k<|am k k ?_
       refine ak k k<|ak k k<|ak k k<|ak k k<|ak k k<|ak k k<|ak k k<|ak k k<|ak k k<|ak k k ?_
       refine ak k k<|ak k k<|ak k k<|ak k k<|ak k k<|ak k k<|ak k k<|ae (aJ k k) k<|an ?_
       refine ⟨by kernel_rfl,?_⟩
       refine tn<|aO (t:=bU [(1,.ptr 0 0 0),(3,.int x1),(79,.bl true)] [(0,⟨6,[[.int a0.p,.int a0.q.n,.list 1 (List.map eI a0.q.src),.list 1 (List.map eI a0.q.tgt),.list 1 (List.map eI a0.dims),.list 3 (List.map eM a0.maps)]]⟩)] 1 [1,2]) (aE (σ:=sg [(0,0)]) ⟨(pE k k),(e1 k k),(e1 k k),trivial⟩ (hP k k k k<|trivial) k)<|aL k k<|sQ<|rg<|aa k k<|an<|tn<|aP<|bB ?_
       refine aK<|aK ?_
       obtain rfl:=so h
       exact ⟨_,k,k,aU k k k (bT k)⟩
      ·refine aX 42 k q9<|ae (aD aA k k k k k k k) k<|ae (aC aA k k k k k k k) k<|am k k ?_
       obtain ⟨v10,hv10,h⟩:=ob h
       refine ae (bH aA hv10 k k k k k k) k<|ae (bY aA k k k k k k) k<|ae (aV aA k k k k k k) k<|ae (aD aA k k k k k k k) k<|ae (aC aA k k k k k k k) k<|ae (aD aA k k k k k k k) k<|ae (aD aA k k k k k k k) k<|ae (aC aA k k k k k k k) k<|am k k ?_
       obtain ⟨v11,hv11,h⟩:=ob h
       refine ae (bH aA hv11 k k k k k k) k<|ae (aV aA k k k k k k) k ?_
       obtain ⟨v12,hv12,h⟩:=ob h
       refine ae (bH aA hv12 k k k k k k) k<|ae (aV aA k k k k k k) k<|ae (bC k k k) k<|ae (aJ k k) k<|am k k ?_
       rcases cb h with ⟨q13,h⟩|⟨q13,h⟩
       ·refine aX 61 k q13<|ak k k<|ak k k<|ak k k<|ak k k<|ak k k<|ak k k<|ak k k<|ak k k<|ak k k ?_
        refine ak k k<|ak k k<|ak k k<|ak k k<|ak k k<|ak k k<|ak k k<|ak k k<|ae (aJ k k) k<|an ?_
        refine ⟨by kernel_rfl,?_⟩
        refine tn<|aO (t:=bU [(1,.ptr 0 0 0),(3,.int x1),(79,.bl true)] [(0,⟨6,[[.int a0.p,.int a0.q.n,.list 1 (List.map eI a0.q.src),.list 1 (List.map eI a0.q.tgt),.list 1 (List.map eI a0.dims),.list 3 (List.map eM a0.maps)]]⟩)] 1 [1,2]) (aE (σ:=sg [(0,0)]) ⟨(pE k k),(e1 k k),(e1 k k),trivial⟩ (hP k k k k<|trivial) k)<|aL k k<|sQ<|rg<|aa k k<|an<|tn<|aP<|bB ?_
        refine aK<|aK ?_
        obtain rfl:=so h
        exact ⟨_,k,k,aU k k k (bT k)⟩
       ·refine aX 61 k q13<|ae (aD aA k k k k k k k) k<|ae (aC aA k k k k k k k) k<|am k k ?_
        obtain ⟨v14,hv14,h⟩:=ob h
        refine ae (bH aA hv14 k k k k k k) k<|ae (bY aA k k k k k k) k<|ae (aV aA k k k k k k) k<|ae (aD aA k k k k k k k) k<|ae (aC aA k k k k k k k) k<|ae (aD aA k k k k k k k) k<|ae (aD aA k k k k k k k) k<|ae (aC aA k k k k k k k) k<|am k k ?_
        obtain ⟨v15,hv15,h⟩:=ob h
        refine ae (bH aA hv15 k k k k k k) k<|ae (aV aA k k k k k k) k ?_
        obtain ⟨v16,hv16,h⟩:=ob h
        refine ae (bH aA hv16 k k k k k k) k<|ae (aV aA k k k k k k) k<|ae (bC k k k) k<|ae (aJ k k) k<|an ?_
        refine ⟨by kernel_rfl,?_⟩
        refine tn<|aO (t:=bU [(1,.ptr 0 0 0),(3,.int x1),(79,.bl (!decide (v14.rows=v16)))] [(0,⟨6,[[.int a0.p,.int a0.q.n,.list 1 (List.map eI a0.q.src),.list 1 (List.map eI a0.q.tgt),.list 1 (List.map eI a0.dims),.list 3 (List.map eM a0.maps)]]⟩)] 1 [1,2]) (aE (σ:=sg [(0,0)]) ⟨(pE k k),(e1 k k),(e1 k k),trivial⟩ (hP k k k k<|trivial) k) ?_
        rcases cb h with ⟨q17,h⟩|⟨q17,h⟩
        ·refine aL k q17<|sQ<|rg<|aa k k<|an<|tn<|aP<|bB<|aK<|aK ?_
         obtain rfl:=so h
         exact ⟨_,k,k,aU k k k (bT k)⟩
        ·refine aS k q17<|aT<|bE<|tn<|rg<|am k k<|ae (bV k k) k<|aa k k<|an<|tn ?_
         obtain rfl:=so h
         exact ⟨_,k,(aE (σ:=sg [(0,0)]) ⟨(pE k k),(e1 k k),trivial⟩ (hP k k k k<|trivial) k)⟩
     ·refine aS k q6<|bG<|aH<|aH ?_
      obtain rfl:=so h
      exact ⟨_,k,k,(aE (σ:=sg []) trivial trivial k)⟩
    ·intro e t hX
     rcases y18 with y19|y20
     ·obtain ⟨rfl,hent⟩:=hX
      refine aW<|tn<|aO hent<|sQ<|rg<|aa k k<|an<|tn<|aP ?_
      obtain rfl:=so h
      exact aU k k k (bT k)
     ·obtain ⟨rfl,hent⟩:=hX
      refine bB<|aK ?_
      obtain rfl:=so h
      exact hent
end
noncomputable section
set_option maxRecDepth 10000
set_option maxHeartbeats 4000000
def cZ (a0:(List Int)) (a1:(Int→Option Bool)) (x1:Int):Option (Int ⊕ (Unit ⊕ Int)):=
 bif decide (x1<(a0.length:Int)) then
 (Option.bind (dV a0 x1) fun v2=>
 Option.bind (a1 v2) fun v3=>
 bif v3 then
 (some (.inr (.inr (x1))))
 else
 (some (.inl (wr (x1+1)))))
 else
 (some (.inr (.inl ())))
def dS (a0:(List Int)) (a1:(Int→Option Bool)):Option Int:=
 Option.bind (Lp (cZ a0 a1) 0) fun y5=>
 Sum.elim (fun y6=>
 some ((-1))
 )
 (fun y7=>
 some y7
 )
 y5
theorem nY (a0:(List Int)) (a1:(Int→Option Bool)) {f1:FuncId} {c1:List AV} (hc1:c1.all eT=true) (hf1: ∀ b0 r,a1 b0=some r→HasC Tryz.prog f1 ([.int b0]++c1) (.bl r)) (r:Int) (h:dS a0 a1=some r):HasC Tryz.prog 227 [.list 1 (List.map eI a0),.fn f1 c1] (.int r):=by
 refine bK aA (rvs:=[.tmp 4]) (ns:=[0,1]) Tryz.func227 k k Tryz.ntmps227 k k (jP k (jP hc1 aAr))<|sQ<|rg<|aa k k<|an<|tn<|sQ<|sQ<|rg<|am k k ?_
 refine ae (dD aA k k k) k<|am k k<|an<|tn<|aN ?_
 obtain ⟨y5,hy5,h⟩:=ob h
 refine cU (body:=(cZ a0 a1)) hy5 (fun (x1:Int)=>bU [(0,.list 1 (List.map eI a0)),(1,.fn f1 c1),(7,.int (a0.length:Int)),(8,.int x1)] [] 0 [0,1]) (fun r e t=>Sum.elim (fun a=>(fun r e t=>e= .exit 0∧Ent t (bU [] [] 0 [0,1])) a e t) (fun b=>(fun r e t=>e= .ret∧sA TT [.tmp 4] (.int r) .ret t) b e t) r) (aE (σ:=sg []) ⟨⟨_,k,⟨k,k⟩⟩,⟨_,k,⟨k,jY _ hc1⟩⟩,(e1 k k),(e1 k k),trivial⟩ trivial k) ?_ ?_
 ·intro x1 o h
  refine sQ<|rg<|ae (bC k k k) k<|an<|tn<|sQ ?_
  rcases cb h with ⟨q1,h⟩|⟨q1,h⟩
  ·refine aL k q1<|aT<|tn<|sQ<|aN<|sQ<|rg<|am k k<|aa k k<|an ?_
   refine tn<|sQ<|rg<|am k k<|am k k<|am k k ?_
   obtain ⟨v2,hv2,h⟩:=ob h
   refine ae (bH aA hv2 k k k k k k) k<|ae (aV aA k k k k k k) k ?_
   obtain ⟨v3,hv3,h⟩:=ob h
   refine ae (aBU hc1 (hf1 v2 v3 hv3) k k (aG (aI k) bA)) k<|an<|tn ?_
   rcases cb h with ⟨q4,h⟩|⟨q4,h⟩
   ·refine aL k q4<|sQ<|rg<|am k k<|aa k k<|an<|tn<|aP<|bB<|aK ?_
    refine aK ?_
    obtain rfl:=so h
    exact ⟨_,k,k,aU k k k (cJ k)⟩
   ·refine aS k q4<|aT<|bE<|tn<|rg<|ae (bV k k) k<|am k k<|an<|tn ?_
    obtain rfl:=so h
    exact ⟨_,k,(aE (σ:=sg []) ⟨⟨_,k,⟨k,k⟩⟩,⟨_,k,⟨k,jY _ hc1⟩⟩,(e1 k k),(e1 k k),trivial⟩ trivial k)⟩
  ·refine aS k q1<|bG<|aH<|aH ?_
   obtain rfl:=so h
   exact ⟨_,k,k,(aE (σ:=sg []) trivial trivial k)⟩
 ·intro e t hX
  rcases y5 with y6|y7
  ·obtain ⟨rfl,hent⟩:=hX
   refine aW<|tn<|aO hent<|sQ<|rg<|aa k k<|an<|tn<|aP ?_
   obtain rfl:=so h
   exact aU k k k (cJ k)
  ·obtain ⟨rfl,hent⟩:=hX
   refine bB<|aK ?_
   obtain rfl:=so h
   exact hent
def gT (a0:(List Int)) (a1:(Int→Option Bool)):Option Bool:=
 Option.bind (dS a0 a1) fun v1=>
 some (decide (0≤v1))
theorem uV (a0:(List Int)) (a1:(Int→Option Bool)) {f1:FuncId} {c1:List AV} (hc1:c1.all eT=true) (hf1: ∀ b0 r,a1 b0=some r→HasC Tryz.prog f1 ([.int b0]++c1) (.bl r)) (r:Bool) (h:gT a0 a1=some r):HasC Tryz.prog 186 [.list 1 (List.map eI a0),.fn f1 c1] (.bl r):=by
 refine bK aA (rvs:=[.tmp 4]) (ns:=[0,1]) Tryz.func186 k k Tryz.ntmps186 k k (jP k (jP hc1 aAr))<|sQ<|rg<|aa k k<|an<|tn<|sQ<|rg<|am k k<|am k k ?_
 obtain ⟨v1,hv1,h⟩:=ob h
 refine ae (aZ (nY a0 a1 hc1 hf1 v1 hv1) k (aG (aI k) (aG (aLV hc1) bA))) k<|ae (bC k k k) k<|aa k k<|an<|tn<|aP ?_
 obtain rfl:=so h
 exact aU k k k (bT k)
def fH (a0:(List (List Int))) (a1:((List Int)→Option Bool)) (x1:Int):Option (Int ⊕ (Unit ⊕ Int)):=
 bif decide (x1<(a0.length:Int)) then
 (Option.bind (dV a0 x1) fun v2=>
 Option.bind (a1 v2) fun v3=>
 bif v3 then
 (some (.inr (.inr (x1))))
 else
 (some (.inl (wr (x1+1)))))
 else
 (some (.inr (.inl ())))
def hZ (a0:(List (List Int))) (a1:((List Int)→Option Bool)):Option Int:=
 Option.bind (Lp (fH a0 a1) 0) fun y5=>
 Sum.elim (fun y6=>
 some ((-1))
 )
 (fun y7=>
 some y7
 )
 y5
theorem vN (a0:(List (List Int))) (a1:((List Int)→Option Bool)) {f1:FuncId} {c1:List AV} (hc1:c1.all eT=true) (hf1: ∀ b0 r,a1 b0=some r→HasC Tryz.prog f1 ([.list 1 (List.map eI b0)]++c1) (.bl r)) (r:Int) (h:hZ a0 a1=some r):HasC Tryz.prog 261 [.list 1 (List.map (dA 1 eI) a0),.fn f1 c1] (.int r):=by
 refine bK aA (rvs:=[.tmp 4]) (ns:=[0,1]) Tryz.func261 k k Tryz.ntmps261 k k (jP k (jP hc1 aAr))<|sQ<|rg<|aa k k<|an<|tn<|sQ<|sQ<|rg<|am k k ?_
 refine ae (dD aA k k k) k<|am k k<|an<|tn<|aN ?_
 obtain ⟨y5,hy5,h⟩:=ob h
 refine cU (body:=(fH a0 a1)) hy5 (fun (x1:Int)=>bU [(0,.list 1 (List.map (dA 1 eI) a0)),(1,.fn f1 c1),(7,.int (a0.length:Int)),(8,.int x1)] [] 0 [0,1]) (fun r e t=>Sum.elim (fun a=>(fun r e t=>e= .exit 0∧Ent t (bU [] [] 0 [0,1])) a e t) (fun b=>(fun r e t=>e= .ret∧sA TT [.tmp 4] (.int r) .ret t) b e t) r) (aE (σ:=sg []) ⟨⟨_,k,⟨k,k⟩⟩,⟨_,k,⟨k,jY _ hc1⟩⟩,(e1 k k),(e1 k k),trivial⟩ trivial k) ?_ ?_
 ·intro x1 o h
  refine sQ<|rg<|ae (bC k k k) k<|an<|tn<|sQ ?_
  rcases cb h with ⟨q1,h⟩|⟨q1,h⟩
  ·refine aL k q1<|aT<|tn<|sQ<|aN<|sQ<|rg<|am k k<|aa k k<|an ?_
   refine tn<|sQ<|rg<|am k k<|am k k<|am k k ?_
   obtain ⟨v2,hv2,h⟩:=ob h
   refine ae (bH aA hv2 k k k k k k) k<|ae (aV aA k k k k k k) k ?_
   obtain ⟨v3,hv3,h⟩:=ob h
   refine ae (aBU hc1 (hf1 v2 v3 hv3) k k (aG (aI k) bA)) k<|an<|tn ?_
   rcases cb h with ⟨q4,h⟩|⟨q4,h⟩
   ·refine aL k q4<|sQ<|rg<|am k k<|aa k k<|an<|tn<|aP<|bB<|aK ?_
    refine aK ?_
    obtain rfl:=so h
    exact ⟨_,k,k,aU k k k (cJ k)⟩
   ·refine aS k q4<|aT<|bE<|tn<|rg<|ae (bV k k) k<|am k k<|an<|tn ?_
    obtain rfl:=so h
    exact ⟨_,k,(aE (σ:=sg []) ⟨⟨_,k,⟨k,k⟩⟩,⟨_,k,⟨k,jY _ hc1⟩⟩,(e1 k k),(e1 k k),trivial⟩ trivial k)⟩
  ·refine aS k q1<|bG<|aH<|aH ?_
   obtain rfl:=so h
   exact ⟨_,k,k,(aE (σ:=sg []) trivial trivial k)⟩
 ·intro e t hX
  rcases y5 with y6|y7
  ·obtain ⟨rfl,hent⟩:=hX
   refine aW<|tn<|aO hent<|sQ<|rg<|aa k k<|an<|tn<|aP ?_
   obtain rfl:=so h
   exact aU k k k (cJ k)
  ·obtain ⟨rfl,hent⟩:=hX
   refine bB<|aK ?_
   obtain rfl:=so h
   exact hent
def eB (a0:(List (List Int))) (a1:((List Int)→Option Bool)):Option Bool:=
 Option.bind (hZ a0 a1) fun v1=>
 some (decide (0≤v1))
theorem kK (a0:(List (List Int))) (a1:((List Int)→Option Bool)) {f1:FuncId} {c1:List AV} (hc1:c1.all eT=true) (hf1: ∀ b0 r,a1 b0=some r→HasC Tryz.prog f1 ([.list 1 (List.map eI b0)]++c1) (.bl r)) (r:Bool) (h:eB a0 a1=some r):HasC Tryz.prog 234 [.list 1 (List.map (dA 1 eI) a0),.fn f1 c1] (.bl r):=by
 refine bK aA (rvs:=[.tmp 4]) (ns:=[0,1]) Tryz.func234 k k Tryz.ntmps234 k k (jP k (jP hc1 aAr))<|sQ<|rg<|aa k k<|an<|tn<|sQ<|rg<|am k k<|am k k ?_
 obtain ⟨v1,hv1,h⟩:=ob h
 refine ae (aZ (vN a0 a1 hc1 hf1 v1 hv1) k (aG (aI k) (aG (aLV hc1) bA))) k<|ae (bC k k k) k<|aa k k<|an<|tn<|aP ?_
 obtain rfl:=so h
 exact aU k k k (bT k)
def jG (a0:Int) (a1:Int) (a2:Int):Option Bool:=
 Option.bind (gD a0 a1 a2) fun v1=>
 some (!v1)
theorem aCO (a0:Int) (a1:Int) (a2:Int) (r:Bool) (h:jG a0 a1 a2=some r):HasC Tryz.prog 187 [.int a0,.ref (eI a1),.ref (eI a2)] (.bl r):=by
 refine bK aA (rvs:=[.tmp 4]) (ns:=[0,1]) Tryz.func187 k k Tryz.ntmps187 k k k<|sQ<|rg<|aa k k<|an<|tn<|sQ<|rg<|am k k<|ae (aV aA k k k k k k) k ?_
 refine ae (aV aA k k k k k k) k ?_
 obtain ⟨v1,hv1,h⟩:=ob h
 refine ae (aZ (iU a0 a1 a2 v1 hv1) k (aG (aI k) (aG (aI k) (aG (aI k) bA)))) k<|ae (cG k) k<|aa k k<|an<|tn<|aP ?_
 obtain rfl:=so h
 exact aU k k k (bT k)
def fB (a0:(List Int)) (a1:Int) (a2:Int):Option Bool:=
 Option.bind (gT a0 (fun b0=>jG b0 a1 a2)) fun v1=>
 some (!v1)
theorem gU (a0:(List Int)) (a1:Int) (a2:Int) (r:Bool) (h:fB a0 a1 a2=some r):HasC Tryz.prog 138 [.list 1 (List.map eI a0),.int a1,.int a2] (.bl r):=by
 refine bK aA (rvs:=[.tmp 6]) (ns:=[0,1,2,3]) Tryz.func138 k k Tryz.ntmps138 k k k<|sQ<|rg<|ae (cC k k k k) k<|ae (cC k k k k) k<|aa k k<|an<|tn<|sQ<|rg ?_
 refine am k k<|ae (wI (vs:=[.ptr 0 0 0,.ptr 1 0 0]) k (by simp)) k ?_
 obtain ⟨v1,hv1,h⟩:=ob h
 refine ae (aZ (uV a0 (fun b0=>jG b0 a1 a2) k (fun b0 r h=>aCO b0 a1 a2 r h) v1 hv1) k (aG (aI k) (aG (aGX (yD (aAo k k (aM (aQ k) cF)) (yD (aAo k k (aM (aQ k) cF)) aAI))) bA))) k<|ae (cG k) k<|aa k k<|an<|tn<|aP ?_
 obtain rfl:=so h
 exact aU k k k (bT k)
def nC (a0:Int) (a1:(List Int)):Option Bool:=
 Option.bind (hO a0) fun v1=>
 bif v1 then
 (bif decide ((a1.length:Int)≤64) then
 (Option.bind (fB a1 0 (wr (a0 - 1))) fun v4=>
 some (v4))
 else
 (some (false)))
 else
 (some (false))
theorem aAV (a0:Int) (a1:(List Int)) (r:Bool) (h:nC a0 a1=some r):HasC Tryz.prog 204 [.int a0,.list 1 (List.map eI a1)] (.bl r):=by
 refine bK aA (rvs:=[.tmp 4]) (ns:=[0,1]) Tryz.func204 k k Tryz.ntmps204 k k k<|sQ<|rg<|aa k k<|an<|tn<|sQ<|rg<|am k k ?_
 obtain ⟨v1,hv1,h⟩:=ob h
 refine ae (aZ (lJ a0 v1 hv1) k (aG (aI k) bA)) k<|am k k ?_
 rcases cb h with ⟨q2,h⟩|⟨q2,h⟩
 ·refine aX 7 k q2<|am k k<|ae (dD aA k k k) k<|ae (bC k k k) k<|ae (aJ k k) k<|am k k ?_
  rcases cb h with ⟨q3,h⟩|⟨q3,h⟩
  ·refine aX 12 k q3<|am k k<|am k k<|ae (iH k k) k ?_
   obtain ⟨v4,hv4,h⟩:=ob h
   refine ae (aZ (gU a1 0 (wr (a0 - 1)) v4 hv4) k (aG (aI k) (aG (aI k) (aG (aI k) bA)))) k<|ae (aJ k k) k<|aa k k<|an<|tn<|aO (t:=bU [(4,.bl v4)] [] 0 [0,1]) (aE (σ:=sg []) ⟨(e1 k k),trivial⟩ trivial k)<|aP ?_
   obtain rfl:=so h
   exact aU k k k (bT k)
  ·refine aX 12 k q3<|ak k k<|ak k k<|ak k k<|ak k k<|ae (aJ k k) k<|aa k k<|an<|tn<|aO (t:=bU [(4,.bl false)] [] 0 [0,1]) (aE (σ:=sg []) ⟨(e1 k k),trivial⟩ trivial k) ?_
   refine aP ?_
   obtain rfl:=so h
   exact aU k k k (bT k)
 ·refine aX 7 k q2<|ak k k<|ak k k<|ak k k<|ae (aJ k k) k<|am k k<|ak k k<|ak k k<|ak k k<|ak k k ?_
  refine ae (aJ k k) k<|aa k k<|an<|tn<|aO (t:=bU [(4,.bl false)] [] 0 [0,1]) (aE (σ:=sg []) ⟨(e1 k k),trivial⟩ trivial k)<|aP ?_
  obtain rfl:=so h
  exact aU k k k (bT k)
def rB (a0:Int) (a1:Mt):Option Bool:=
 Option.bind (gD a1.rows 0 8) fun v1=>
 bif v1 then
 (Option.bind (gD a1.cols 0 8) fun v3=>
 bif v3 then
 (bif decide ((a1.cells.length:Int)=wr (a1.rows*a1.cols)) then
 (Option.bind (nC a0 a1.cells) fun v6=>
 some (v6))
 else
 (some (false)))
 else
 (some (false)))
 else
 (some (false))
theorem aFL (a0:Int) (a1:Mt) (r:Bool) (h:rB a0 a1=some r):HasC Tryz.prog 148 [.int a0,.agg (eM a1)] (.bl r):=by
 refine bK aA (rvs:=[.tmp 4]) (ns:=[0,1,2]) Tryz.func148 k k Tryz.ntmps148 k k k<|sQ<|rg<|ae (cC k k k k) k<|aa k k<|an<|tn<|sQ<|rg<|ae (aD aA k k k k k k k) k ?_
 refine ae (aC aA k k k k k k k) k ?_
 obtain ⟨v1,hv1,h⟩:=ob h
 refine ae (aZ (iU a1.rows 0 8 v1 hv1) k (aG (aI k) (aG (aI k) (aG (aI k) bA)))) k<|am k k ?_
 rcases cb h with ⟨q2,h⟩|⟨q2,h⟩
 ·refine aX 8 k q2<|ae (aD aA k k k k k k k) k<|ae (aC aA k k k k k k k) k ?_
  obtain ⟨v3,hv3,h⟩:=ob h
  refine ae (aZ (iU a1.cols 0 8 v3 hv3) k (aG (aI k) (aG (aI k) (aG (aI k) bA)))) k<|ae (aJ k k) k<|am k k ?_
  rcases cb h with ⟨q4,h⟩|⟨q4,h⟩
  ·refine aX 13 k q4<|ae (aD aA k k k k k k k) k<|ae (aC aA k k k k k k k) k<|ae (dD aA k k k) k<|ae (aD aA k k k k k k k) k<|ae (aC aA k k k k k k k) k<|ae (aD aA k k k k k k k) k<|ae (aC aA k k k k k k k) k<|ae (fP k k) k<|ae (bC k k k) k ?_
   refine ae (aJ k k) k<|am k k ?_
   rcases cb h with ⟨q5,h⟩|⟨q5,h⟩
   ·refine aX 24 k q5<|am k k<|ae (aD aA k k k k k k k) k<|ae (aC aA k k k k k k k) k ?_
    obtain ⟨v6,hv6,h⟩:=ob h
    refine ae (aZ (aAV a0 a1.cells v6 hv6) k (aG (aI k) (aG (aI k) bA))) k<|ae (aJ k k) k<|aa k k<|an<|tn<|aO (t:=bU [(4,.bl v6)] [] 1 [1,2]) (aE (σ:=sg []) ⟨(e1 k k),trivial⟩ trivial k)<|aP ?_
    obtain rfl:=so h
    exact aU k k k (bT k)
   ·refine aX 24 k q5<|ak k k<|ak k k<|ak k k<|ak k k<|ae (aJ k k) k<|aa k k<|an<|tn<|aO (t:=bU [(4,.bl false)] [] 1 [1,2]) (aE (σ:=sg []) ⟨(e1 k k),trivial⟩ trivial k) ?_
    refine aP ?_
    obtain rfl:=so h
    exact aU k k k (bT k)
  ·refine aX 13 k q4<|ak k k<|ak k k<|ak k k<|ak k k<|ak k k<|ak k k<|ak k k<|ak k k<|ak k k ?_
   refine ae (aJ k k) k<|am k k<|ak k k<|ak k k<|ak k k<|ak k k<|ae (aJ k k) k<|aa k k<|an<|tn ?_
   refine aO (t:=bU [(4,.bl false)] [] 1 [1,2]) (aE (σ:=sg []) ⟨(e1 k k),trivial⟩ trivial k)<|aP ?_
   obtain rfl:=so h
   exact aU k k k (bT k)
 ·refine aX 8 k q2<|ak k k<|ak k k<|ak k k<|ae (aJ k k) k<|am k k<|ak k k<|ak k k<|ak k k<|ak k k ?_
  refine ak k k<|ak k k<|ak k k<|ak k k<|ak k k<|ae (aJ k k) k<|am k k<|ak k k<|ak k k<|ak k k ?_
  refine ak k k<|ae (aJ k k) k<|aa k k<|an<|tn<|aO (t:=bU [(4,.bl false)] [] 1 [1,2]) (aE (σ:=sg []) ⟨(e1 k k),trivial⟩ trivial k)<|aP ?_
  obtain rfl:=so h
  exact aU k k k (bT k)
def rC (a0:Qv):Option Bool:=
 Option.bind (gD a0.n 1 5) fun v1=>
 bif v1 then
 (bif decide ((a0.src.length:Int)=(a0.tgt.length:Int)) then
 (bif decide ((a0.src.length:Int)≤6) then
 (Option.bind (fB a0.src 0 (wr (a0.n - 1))) fun v5=>
 bif v5 then
 (Option.bind (fB a0.tgt 0 (wr (a0.n - 1))) fun v7=>
 some (v7))
 else
 (some (false)))
 else
 (some (false)))
 else
 (some (false)))
 else
 (some (false))
theorem aFM (a0:Qv) (r:Bool) (h:rC a0=some r):HasC Tryz.prog 203 [.agg (eQ a0)] (.bl r):=by
 refine bK aA (rvs:=[.tmp 2]) (ns:=[0,1,2]) Tryz.func203 k k Tryz.ntmps203 k k k<|sQ<|rg<|ae (cC k k k k) k<|aa k k<|an<|tn<|sQ<|rg<|ae (aD aA k k k k k k k) k ?_
 refine ae (aC aA k k k k k k k) k ?_
 obtain ⟨v1,hv1,h⟩:=ob h
 refine ae (aZ (iU a0.n 1 5 v1 hv1) k (aG (aI k) (aG (aI k) (aG (aI k) bA)))) k<|am k k ?_
 rcases cb h with ⟨q2,h⟩|⟨q2,h⟩
 ·refine aX 6 k q2<|ae (aD aA k k k k k k k) k<|ae (aC aA k k k k k k k) k<|ae (dD aA k k k) k<|ae (aD aA k k k k k k k) k<|ae (aC aA k k k k k k k) k<|ae (dD aA k k k) k<|ae (bC k k k) k<|ae (aJ k k) k<|am k k ?_
  rcases cb h with ⟨q3,h⟩|⟨q3,h⟩
  ·refine aX 15 k q3<|ae (aD aA k k k k k k k) k<|ae (aC aA k k k k k k k) k<|ae (dD aA k k k) k<|ae (bC k k k) k<|ae (aJ k k) k<|am k k ?_
   rcases cb h with ⟨q4,h⟩|⟨q4,h⟩
   ·refine aX 21 k q4<|ae (aD aA k k k k k k k) k<|ae (aC aA k k k k k k k) k<|ae (aD aA k k k k k k k) k<|ae (aC aA k k k k k k k) k<|ae (iH k k) k ?_
    obtain ⟨v5,hv5,h⟩:=ob h
    refine ae (aZ (gU a0.src 0 (wr (a0.n - 1)) v5 hv5) k (aG (aI k) (aG (aI k) (aG (aI k) bA)))) k<|ae (aJ k k) k<|am k k ?_
    rcases cb h with ⟨q6,h⟩|⟨q6,h⟩
    ·refine aX 29 k q6<|ae (aD aA k k k k k k k) k<|ae (aC aA k k k k k k k) k<|ae (aD aA k k k k k k k) k<|ae (aC aA k k k k k k k) k<|ae (iH k k) k ?_
     obtain ⟨v7,hv7,h⟩:=ob h
     refine ae (aZ (gU a0.tgt 0 (wr (a0.n - 1)) v7 hv7) k (aG (aI k) (aG (aI k) (aG (aI k) bA)))) k<|ae (aJ k k) k<|aa k k<|an<|tn<|aO (t:=bU [(2,.bl v7)] [] 1 [1,2]) (aE (σ:=sg []) ⟨(e1 k k),trivial⟩ trivial k)<|aP ?_
     obtain rfl:=so h
     exact aU k k k (bT k)
    ·refine aX 29 k q6<|ak k k<|ak k k<|ak k k<|ak k k<|ak k k<|ak k k<|ae (aJ k k) k<|aa k k<|an ?_
     refine tn<|aO (t:=bU [(2,.bl false)] [] 1 [1,2]) (aE (σ:=sg []) ⟨(e1 k k),trivial⟩ trivial k)<|aP ?_
     obtain rfl:=so h
     exact aU k k k (bT k)
   ·refine aX 21 k q4<|ak k k<|ak k k<|ak k k<|ak k k<|ak k k<|ak k k<|ae (aJ k k) k<|am k k<|ak k k ?_
    refine ak k k<|ak k k<|ak k k<|ak k k<|ak k k<|ae (aJ k k) k<|aa k k<|an<|tn<|aO (t:=bU [(2,.bl false)] [] 1 [1,2]) (aE (σ:=sg []) ⟨(e1 k k),trivial⟩ trivial k) ?_
    refine aP ?_
    obtain rfl:=so h
    exact aU k k k (bT k)
  ·refine aX 15 k q3<|ak k k<|ak k k<|ak k k<|ak k k<|ae (aJ k k) k<|am k k<|ak k k<|ak k k<|ak k k ?_
   refine ak k k<|ak k k<|ak k k<|ae (aJ k k) k<|am k k<|ak k k<|ak k k<|ak k k<|ak k k<|ak k k ?_
   refine ak k k<|ae (aJ k k) k<|aa k k<|an<|tn<|aO (t:=bU [(2,.bl false)] [] 1 [1,2]) (aE (σ:=sg []) ⟨(e1 k k),trivial⟩ trivial k)<|aP ?_
   obtain rfl:=so h
   exact aU k k k (bT k)
 ·refine aX 6 k q2<|ak k k<|ak k k<|ak k k<|ak k k<|ak k k<|ak k k<|ak k k<|ae (aJ k k) k<|am k k ?_
  refine ak k k<|ak k k<|ak k k<|ak k k<|ae (aJ k k) k<|am k k<|ak k k<|ak k k<|ak k k<|ak k k ?_
  refine ak k k<|ak k k<|ae (aJ k k) k<|am k k<|ak k k<|ak k k<|ak k k<|ak k k<|ak k k<|ak k k ?_
  refine ae (aJ k k) k<|aa k k<|an<|tn<|aO (t:=bU [(2,.bl false)] [] 1 [1,2]) (aE (σ:=sg []) ⟨(e1 k k),trivial⟩ trivial k)<|aP ?_
  obtain rfl:=so h
  exact aU k k k (bT k)
def tT (a0:Qv) (a1:(List Int)):Option Bool:=
 Option.bind (rC a0) fun v1=>
 bif v1 then
 (bif decide ((a1.length:Int)=a0.n) then
 (Option.bind (fB a1 0 4) fun v4=>
 bif v4 then
 (Option.bind (fL a1) fun v6=>
 some (decide (v6≤8)))
 else
 (some (false)))
 else
 (some (false)))
 else
 (some (false))
theorem aGf (a0:Qv) (a1:(List Int)) (r:Bool) (h:tT a0 a1=some r):HasC Tryz.prog 147 [.agg (eQ a0),.list 1 (List.map eI a1)] (.bl r):=by
 refine bK aA (rvs:=[.tmp 4]) (ns:=[0,1,2]) Tryz.func147 k k Tryz.ntmps147 k k k<|sQ<|rg<|ae (cC k k k k) k<|aa k k<|an<|tn<|sQ<|rg<|ae (aC aA k k k k k k k) k ?_
 obtain ⟨v1,hv1,h⟩:=ob h
 refine ae (aZ (aFM a0 v1 hv1) k (aG (cA (aM (aQ k) (aM (aQ k) (aM (aQ k) cF)))) bA)) k<|am k k ?_
 rcases cb h with ⟨q2,h⟩|⟨q2,h⟩
 ·refine aX 7 k q2<|am k k<|ae (dD aA k k k) k<|ae (aD aA k k k k k k k) k<|ae (aC aA k k k k k k k) k<|ae (bC k k k) k<|ae (aJ k k) k<|am k k ?_
  rcases cb h with ⟨q3,h⟩|⟨q3,h⟩
  ·refine aX 14 k q3<|am k k ?_
   obtain ⟨v4,hv4,h⟩:=ob h
   refine ae (aZ (gU a1 0 4 v4 hv4) k (aG (aI k) (aG (aI k) (aG (aI k) bA)))) k<|ae (aJ k k) k<|am k k ?_
   rcases cb h with ⟨q5,h⟩|⟨q5,h⟩
   ·refine aX 18 k q5<|am k k ?_
    obtain ⟨v6,hv6,h⟩:=ob h
    refine ae (aZ (mE a1 v6 hv6) k (aG (aI k) bA)) k<|ae (bC k k k) k<|ae (aJ k k) k<|aa k k<|an<|tn<|aO (t:=bU [(4,.bl (decide (v6≤8)))] [] 1 [1,2]) (aE (σ:=sg []) ⟨(e1 k k),trivial⟩ trivial k)<|aP ?_
    obtain rfl:=so h
    exact aU k k k (bT k)
   ·refine aX 18 k q5<|ak k k<|ak k k<|ak k k<|ae (aJ k k) k<|aa k k<|an<|tn<|aO (t:=bU [(4,.bl false)] [] 1 [1,2]) (aE (σ:=sg []) ⟨(e1 k k),trivial⟩ trivial k)<|aP ?_
    obtain rfl:=so h
    exact aU k k k (bT k)
  ·refine aX 14 k q3<|ak k k<|ak k k<|ae (aJ k k) k<|am k k<|ak k k<|ak k k<|ak k k<|ae (aJ k k) k<|aa k k ?_
   refine an<|tn<|aO (t:=bU [(4,.bl false)] [] 1 [1,2]) (aE (σ:=sg []) ⟨(e1 k k),trivial⟩ trivial k)<|aP ?_
   obtain rfl:=so h
   exact aU k k k (bT k)
 ·refine aX 7 k q2<|ak k k<|ak k k<|ak k k<|ak k k<|ak k k<|ae (aJ k k) k<|am k k<|ak k k<|ak k k ?_
  refine ae (aJ k k) k<|am k k<|ak k k<|ak k k<|ak k k<|ae (aJ k k) k<|aa k k<|an<|tn<|aO (t:=bU [(4,.bl false)] [] 1 [1,2]) (aE (σ:=sg []) ⟨(e1 k k),trivial⟩ trivial k) ?_
  refine aP ?_
  obtain rfl:=so h
  exact aU k k k (bT k)
def rD (a0:Rp) (x1:Int):Option (Int ⊕ (Unit ⊕ Bool)):=
 bif decide (x1<(a0.maps.length:Int)) then
 (Option.bind (dV a0.maps x1) fun v7=>
 Option.bind (rB a0.p v7) fun v8=>
 bif !v8 then
 (some (.inr (.inr (false))))
 else
 (Option.bind (dV a0.q.src x1) fun v10=>
 Option.bind (dV a0.dims v10) fun v11=>
 bif !decide (v7.cols=v11) then
 (some (.inr (.inr (false))))
 else
 (Option.bind (dV a0.q.tgt x1) fun v13=>
 Option.bind (dV a0.dims v13) fun v14=>
 bif !decide (v7.rows=v14) then
 (some (.inr (.inr (false))))
 else
 (some (.inl (wr (x1+1)))))))
 else
 (some (.inr (.inl ())))
def tU (a0:Rp):Option Bool:=
 Option.bind (hO a0.p) fun v1=>
 bif !v1 then
 (some (false))
 else
 (Option.bind (tT a0.q a0.dims) fun v3=>
 bif !v3 then
 (some (false))
 else
 (bif !decide ((a0.maps.length:Int)=(a0.q.src.length:Int)) then
 (some (false))
 else
 (Option.bind (Lp (rD a0) 0) fun y16=>
 Sum.elim (fun y17=>
 some (true)
 )
 (fun y18=>
 some y18
 )
 y16)))
theorem aDM (a0:Rp) (r:Bool) (h:tU a0=some r):HasC Tryz.prog 101 [.agg (eR a0)] (.bl r):=by
 refine bK aA (rvs:=[.tmp 2]) (ns:=[0,1,2,3]) Tryz.func101 k k Tryz.ntmps101 k k k<|sQ<|rg<|ae (cC k k k k) k<|aa k k<|an<|tn<|sQ<|sQ<|rg ?_
 refine ae (aD aA k k k k k k k) k<|ae (aC aA k k k k k k k) k ?_
 obtain ⟨v1,hv1,h⟩:=ob h
 refine ae (aZ (lJ a0.p v1 hv1) k (aG (aI k) bA)) k<|ae (cG k) k<|am k k ?_
 rcases cb h with ⟨q2,h⟩|⟨q2,h⟩
 ·refine aX 9 k q2<|ak k k<|ak k k<|ak k k<|ak k k<|ak k k<|ak k k<|ae (aJ k k) k<|am k k<|ak k k ?_
  refine ak k k<|ak k k<|ak k k<|ak k k<|ak k k<|ak k k<|ak k k<|ae (aJ k k) k<|an<|tn ?_
  refine aO (t:=bU [(1,.ptr 0 0 0),(26,.bl true)] [(0,⟨6,[[.int a0.p,.int a0.q.n,.list 1 (List.map eI a0.q.src),.list 1 (List.map eI a0.q.tgt),.list 1 (List.map eI a0.dims),.list 3 (List.map eM a0.maps)]]⟩)] 1 [1,2,3]) (aE (σ:=sg [(0,0)]) ⟨(pE k k),(e1 k k),trivial⟩ (hP k k k k<|trivial) k)<|aL k k<|sQ<|rg<|aa k k<|an<|tn<|aP<|aK ?_
  obtain rfl:=so h
  exact aU k k k (bT k)
 ·refine aX 9 k q2<|ae (aD aA k k k k k k k) k<|ae (aC aA k k k k k k k) k<|ae (aD aA k k k k k k k) k<|ae (aC aA k k k k k k k) k ?_
  obtain ⟨v3,hv3,h⟩:=ob h
  refine ae (aZ (aGf a0.q a0.dims v3 hv3) k (aG (cA (aM (aQ k) (aM (aQ k) (aM (aQ k) cF)))) (aG (aI k) bA))) k<|ae (cG k) k<|ae (aJ k k) k<|am k k ?_
  rcases cb h with ⟨q4,h⟩|⟨q4,h⟩
  ·refine aX 17 k q4<|ak k k<|ak k k<|ak k k<|ak k k<|ak k k<|ak k k<|ak k k<|ak k k<|ae (aJ k k) k ?_
   refine an<|tn<|aO (t:=bU [(1,.ptr 0 0 0),(26,.bl true)] [(0,⟨6,[[.int a0.p,.int a0.q.n,.list 1 (List.map eI a0.q.src),.list 1 (List.map eI a0.q.tgt),.list 1 (List.map eI a0.dims),.list 3 (List.map eM a0.maps)]]⟩)] 1 [1,2,3]) (aE (σ:=sg [(0,0)]) ⟨(pE k k),(e1 k k),trivial⟩ (hP k k k k<|trivial) k)<|aL k k<|sQ<|rg<|aa k k<|an<|tn<|aP ?_
   refine aK ?_
   obtain rfl:=so h
   exact aU k k k (bT k)
  ·refine aX 17 k q4<|ae (aD aA k k k k k k k) k<|ae (aC aA k k k k k k k) k<|ae (dD aA k k k) k<|ae (aD aA k k k k k k k) k<|ae (aD aA k k k k k k k) k<|ae (aC aA k k k k k k k) k<|ae (dD aA k k k) k<|ae (bC k k k) k<|ae (aJ k k) k ?_
   refine an<|tn<|aO (t:=bU [(1,.ptr 0 0 0),(26,.bl (!decide ((a0.maps.length:Int)=(a0.q.src.length:Int))))] [(0,⟨6,[[.int a0.p,.int a0.q.n,.list 1 (List.map eI a0.q.src),.list 1 (List.map eI a0.q.tgt),.list 1 (List.map eI a0.dims),.list 3 (List.map eM a0.maps)]]⟩)] 1 [1,2,3]) (aE (σ:=sg [(0,0)]) ⟨(pE k k),(e1 k k),trivial⟩ (hP k k k k<|trivial) k) ?_
   rcases cb h with ⟨q5,h⟩|⟨q5,h⟩
   ·refine aL k q5<|sQ<|rg<|aa k k<|an<|tn<|aP<|aK ?_
    obtain rfl:=so h
    exact aU k k k (bT k)
   ·refine aS k q5<|aT<|tn<|sQ<|sQ<|rg<|ae (aD aA k k k k k k k) k<|ae (aC aA k k k k k k k) k<|ae (dD aA k k k) k<|am k k ?_
    refine an<|tn<|aN ?_
    obtain ⟨y16,hy16,h⟩:=ob h
    refine cU (body:=(rD a0)) hy16 (fun (x1:Int)=>bU [(1,.ptr 0 0 0),(28,.list 3 (List.map eM a0.maps)),(29,.int (a0.maps.length:Int)),(30,.int x1)] [(0,⟨6,[[.int a0.p,.int a0.q.n,.list 1 (List.map eI a0.q.src),.list 1 (List.map eI a0.q.tgt),.list 1 (List.map eI a0.dims),.list 3 (List.map eM a0.maps)]]⟩)] 1 [1,2,3]) (fun r e t=>Sum.elim (fun a=>(fun r e t=>e= .exit 0∧Ent t (bU [] [] 0 [0,1,2,3])) a e t) (fun b=>(fun r e t=>e= .ret∧sA TT [.tmp 2] (.bl r) .ret t) b e t) r) (aE (σ:=sg [(0,0)]) ⟨(pE k k),⟨_,k,⟨k,k⟩⟩,(e1 k k),(e1 k k),trivial⟩ (hP k k k k<|trivial) k) ?_ ?_
    ·intro x1 o h
     refine sQ<|rg<|ae (bC k k k) k<|an<|tn<|sQ ?_
     rcases cb h with ⟨q6,h⟩|⟨q6,h⟩
     ·refine aL k q6<|aT<|tn<|sQ<|aN<|sQ<|rg<|am k k ?_
      obtain ⟨v7,hv7,h⟩:=ob h
      refine ae (bH aA hv7 k k k k k k) k<|ae (aV aA k k k k k k) k<|ae (bX aA k k) k<|aa k k<|ae (bP aA k k k k k k k k) k<|an<|tn<|sQ<|aY jW<|ae (aD aA k k k k k k k) k ?_
      refine ae (aC aA k k k k k k k) k<|ae (aC aA k k k k k k k) k ?_
      obtain ⟨v8,hv8,h⟩:=ob h
      refine ae (aZ (aFL a0.p v7 v8 hv8) k (aG (aI k) (aG (cA (aM (aQ k) (aM (aQ k) (aM (aQ k) cF)))) bA))) k<|ae (cG k) k<|am k k ?_
      rcases cb h with ⟨q9,h⟩|⟨q9,h⟩
      ·refine aX 40 k q9<|ak k k<|ak k k<|ak k k<|ak k k<|ak k k<|ak k k<|ak k k<|ak k k<|ak k k ?_
       refine ak k k<|ak k k<|ak k k<|ak k k<|ae (aJ k k) k<|am k k<|ak k k<|ak k k<|ak k k<|ak k k ?_
       refine ak k k<|ak k k<|ak k k<|ak k k<|ak k k<|ak k k<|ak k k<|ak k k<|ak k k<|ae (aJ k k) k ?_
       refine an ?_
       refine ⟨by kernel_rfl,?_⟩
       refine tn<|aO (t:=bU [(1,.ptr 0 0 0),(28,.list 3 (List.map eM a0.maps)),(29,.int (a0.maps.length:Int)),(30,.int x1),(69,.bl true)] [(0,⟨6,[[.int a0.p,.int a0.q.n,.list 1 (List.map eI a0.q.src),.list 1 (List.map eI a0.q.tgt),.list 1 (List.map eI a0.dims),.list 3 (List.map eM a0.maps)]]⟩)] 2 [2,3]) (aE (σ:=sg [(0,0)]) ⟨(pE k k),⟨_,k,⟨k,k⟩⟩,(e1 k k),(e1 k k),(e1 k k),trivial⟩ (hP k k k k<|trivial) k)<|aL k k<|sQ<|rg<|aa k k<|an<|tn<|aP<|bB ?_
       refine aK<|aK ?_
       obtain rfl:=so h
       exact ⟨_,k,k,aU k k k (bT k)⟩
      ·refine aX 40 k q9<|ae (aD aA k k k k k k k) k<|ae (aC aA k k k k k k k) k<|ae (aD aA k k k k k k k) k<|ae (aC aA k k k k k k k) k<|ae (aD aA k k k k k k k) k<|ae (aD aA k k k k k k k) k<|ae (aC aA k k k k k k k) k<|am k k ?_
       obtain ⟨v10,hv10,h⟩:=ob h
       refine ae (bH aA hv10 k k k k k k) k<|ae (aV aA k k k k k k) k ?_
       obtain ⟨v11,hv11,h⟩:=ob h
       refine ae (bH aA hv11 k k k k k k) k<|ae (aV aA k k k k k k) k<|ae (bC k k k) k<|ae (aJ k k) k<|am k k ?_
       rcases cb h with ⟨q12,h⟩|⟨q12,h⟩
       ·refine aX 55 k q12<|ak k k<|ak k k<|ak k k<|ak k k<|ak k k<|ak k k<|ak k k<|ak k k<|ak k k ?_
        refine ak k k<|ak k k<|ak k k<|ak k k<|ae (aJ k k) k<|an ?_
        refine ⟨by kernel_rfl,?_⟩
        refine tn<|aO (t:=bU [(1,.ptr 0 0 0),(28,.list 3 (List.map eM a0.maps)),(29,.int (a0.maps.length:Int)),(30,.int x1),(69,.bl true)] [(0,⟨6,[[.int a0.p,.int a0.q.n,.list 1 (List.map eI a0.q.src),.list 1 (List.map eI a0.q.tgt),.list 1 (List.map eI a0.dims),.list 3 (List.map eM a0.maps)]]⟩)] 2 [2,3]) (aE (σ:=sg [(0,0)]) ⟨(pE k k),⟨_,k,⟨k,k⟩⟩,(e1 k k),(e1 k k),(e1 k k),trivial⟩ (hP k k k k<|trivial) k)<|aL k k<|sQ<|rg<|aa k k<|an<|tn<|aP<|bB ?_
        refine aK<|aK ?_
        obtain rfl:=so h
        exact ⟨_,k,k,aU k k k (bT k)⟩
       ·refine aX 55 k q12<|ae (aD aA k k k k k k k) k<|ae (aC aA k k k k k k k) k<|ae (aD aA k k k k k k k) k<|ae (aC aA k k k k k k k) k<|ae (aD aA k k k k k k k) k<|ae (aD aA k k k k k k k) k<|ae (aC aA k k k k k k k) k<|am k k ?_
        obtain ⟨v13,hv13,h⟩:=ob h
        refine ae (bH aA hv13 k k k k k k) k<|ae (aV aA k k k k k k) k ?_
        obtain ⟨v14,hv14,h⟩:=ob h
        refine ae (bH aA hv14 k k k k k k) k<|ae (aV aA k k k k k k) k<|ae (bC k k k) k<|ae (aJ k k) k<|an ?_
        refine ⟨by kernel_rfl,?_⟩
        refine tn<|aO (t:=bU [(1,.ptr 0 0 0),(28,.list 3 (List.map eM a0.maps)),(29,.int (a0.maps.length:Int)),(30,.int x1),(69,.bl (!decide (v7.rows=v14)))] [(0,⟨6,[[.int a0.p,.int a0.q.n,.list 1 (List.map eI a0.q.src),.list 1 (List.map eI a0.q.tgt),.list 1 (List.map eI a0.dims),.list 3 (List.map eM a0.maps)]]⟩)] 2 [2,3]) (aE (σ:=sg [(0,0)]) ⟨(pE k k),⟨_,k,⟨k,k⟩⟩,(e1 k k),(e1 k k),(e1 k k),trivial⟩ (hP k k k k<|trivial) k) ?_
        rcases cb h with ⟨q15,h⟩|⟨q15,h⟩
        ·refine aL k q15<|sQ<|rg<|aa k k<|an<|tn<|aP<|bB<|aK<|aK ?_
         obtain rfl:=so h
         exact ⟨_,k,k,aU k k k (bT k)⟩
        ·refine aS k q15<|aT<|bE<|tn<|rg<|ae (bV k k) k<|am k k<|an<|tn ?_
         obtain rfl:=so h
         exact ⟨_,k,(aE (σ:=sg [(0,0)]) ⟨(pE k k),⟨_,k,⟨k,k⟩⟩,(e1 k k),(e1 k k),trivial⟩ (hP k k k k<|trivial) k)⟩
     ·refine aS k q6<|bG<|aH<|aH ?_
      obtain rfl:=so h
      exact ⟨_,k,k,(aE (σ:=sg []) trivial trivial k)⟩
    ·intro e t hX
     rcases y16 with y17|y18
     ·obtain ⟨rfl,hent⟩:=hX
      refine aW<|tn<|aO hent<|sQ<|rg<|aa k k<|an<|tn<|aP ?_
      obtain rfl:=so h
      exact aU k k k (bT k)
     ·obtain ⟨rfl,hent⟩:=hX
      refine bB<|aK ?_
      obtain rfl:=so h
      exact hent
def qO (a0:Mt):Option Mt:=
 Option.bind (tP a0.cells) fun v1=>
 some ((⟨a0.rows,a0.cols,v1⟩:Mt))
theorem aBg (a0:Mt) (r:Mt) (h:qO a0=some r):HasC Tryz.prog 170 [.agg (eM a0)] (.agg (eM r)):=by
 refine bK aA (rvs:=[.cell 2 113]) (ns:=[0,1,2,3,4]) Tryz.func170 k k Tryz.ntmps170 k k k<|sQ<|rg<|ae (cC k k k k) k<|ae (bX aA k k) k<|an<|tn<|sQ<|rg<|ae (aD aA k k k k k k k) k ?_
 refine ae (aC aA k k k k k k k) k ?_
 obtain ⟨v1,hv1,h⟩:=ob h
 refine ae (AEff.conv (cR (x:= .own 2 0 (List.map eI v1).length) (nb:=[(2,⟨1,cX (List.map eI v1)⟩)]) (aDG a0.cells v1 hv1) k (by rfl) k k (eD.good _) (aG (aI k) bA)) (v':= .own 2 0 v1.length) (ed':=[(2,some ⟨1,List.map (ow eI) v1⟩)]) (by simp only [bD]) (eJ (nb':=[(2,⟨1,List.map (ow eI) v1⟩)]) (by simp only [cT]))) k<|ae (aD aA k k k k k k k) k<|ae (bP aA k k k k k k k k) k<|an<|tn<|sQ<|rg<|ae (aC aA k k k k k k k) k<|ae (bP aA k k k k k k k k) k<|an ?_
 refine tn<|aP ?_
 obtain rfl:=so h
 exact aU k k k (qN (cD (k) (cD (k) (cD (iQ eD k k) gZ))))
def rE (a0:Int) (a2:Mt) (v1:Mt) (v3:(List Int)) (x1:((List Int)×Int)) (x2:((List Int)×Int)):Option (((List Int)×Int) ⊕ (List Int)):=
 bif decide (x2.2<(v3.length:Int)) then
 (Option.bind (dV v3 x2.2) fun v5=>
 Option.bind (dM (⟨v1.rows,v1.cols,x2.1⟩:Mt) x1.2) fun v6=>
 Option.bind (aCM a2 x2.2) fun v7=>
 Option.bind (gR a0 x2.1 (0+(wr (x1.2*v1.cols)).toNat) ((wr ((wr (x1.2+1))*v1.cols)).toNat - (wr (x1.2*v1.cols)).toNat) v5 v7) fun v8=>
 bif decide (v8.length=x2.1.length) then
 (some (.inl (v8,wr (x2.2+1))))
 else none)
 else
 (some (.inr x2.1))
def rF (a0:Int) (a1:Mt) (a2:Mt) (v1:Mt) (x1:((List Int)×Int)):Option (((List Int)×Int) ⊕ (List Int)):=
 bif decide (x1.2<a1.rows) then
 (Option.bind (aCM a1 x1.2) fun v3=>
 Option.bind (Lp (rE a0 a2 v1 v3 x1) (x1.1,0)) fun y10=>
 some (.inl (y10,wr (x1.2+1))))
 else
 (some (.inr x1.1))
def wL (a0:Int) (a1:Mt) (a2:Mt):Option Mt:=
 Option.bind (tC a1.rows a2.cols) fun v1=>
 Option.bind (Lp (rF a0 a1 a2 v1) (v1.cells,0)) fun y11=>
 some ((⟨v1.rows,v1.cols,y11⟩:Mt))
theorem aJD (a0:Int) (a1:Mt) (a2:Mt) (r:Mt) (h:wL a0 a1 a2=some r):HasC Tryz.prog 151 [.int a0,.agg (eM a1),.agg (eM a2)] (.agg (eM r)):=by
 refine bK aA (rvs:=[.cell 6 113]) (ns:=[0,1,2,3,4,5,6]) Tryz.func151 k k Tryz.ntmps151 k k k<|sQ<|rg<|ae (cC k k k k) k<|ae (cC k k k k) k<|ae (bX aA k k) k<|an<|tn<|sQ<|rg ?_
 refine ae (aD aA k k k k k k k) k<|ae (aC aA k k k k k k k) k<|ae (aD aA k k k k k k k) k<|ae (aC aA k k k k k k k) k ?_
 obtain ⟨v1,hv1,h⟩:=ob h
 refine ae (AEff.conv (cR (x:= .agg [.int v1.rows,.int v1.cols,.own 3 0 (List.map eI v1.cells).length]) (nb:=[(3,⟨1,cX (List.map eI v1.cells)⟩)]) (aAs a1.rows a2.cols v1 hv1) k (by rfl) k k (bZ trivial (bZ trivial (bZ (eD.good _) gQ))) (aG (aI k) (aG (aI k) bA))) (v':= .agg [.int v1.rows,.int v1.cols,.own 3 0 v1.cells.length]) (ed':=[(3,some ⟨1,List.map (ow eI) v1.cells⟩)]) (by simp only [bD]) (eJ (nb':=[(3,⟨1,List.map (ow eI) v1.cells⟩)]) (by simp only [cT]))) k<|ae (bX aA k k) k<|ae (bP aA k k k k k k k k) k<|an<|tn<|sQ<|sQ<|rg<|ae (aD aA k k k k k k k) k<|ae (aC aA k k k k k k k) k ?_
 refine am k k<|an<|tn<|aO (t:=bU [(0,.int a0),(4,.ptr 0 0 0),(5,.ptr 1 0 0),(6,.ptr 2 0 0),(7,.ptr 4 0 0),(17,.int a1.rows),(18,.int 0)] [(0,⟨3,[[.int a1.rows,.int a1.cols,.list 1 (List.map eI a1.cells)]]⟩),(1,⟨3,[[.int a2.rows,.int a2.cols,.list 1 (List.map eI a2.cells)]]⟩),(2,⟨3,[[.int 0,.int 0,.nil 1]]⟩),(3,⟨1,List.map (ow eI) v1.cells⟩),(4,⟨3,[[.int v1.rows,.int v1.cols,.own 3 0 v1.cells.length]]⟩)] 5 [5,6]) (aE (σ:=sg [(0,0),(1,1),(2,2),(3,3),(4,4)]) ⟨(e1 k k),(pE k k),(pE k k),(pE k k),(pE k k),(e1 k k),(e1 k k),trivial⟩ (hP k k k k<|hP k k k k<|hP k k k k<|hI k k k<|hX ⟨_,k,k,.inr ⟨_,_,k,⟨_,_,k,k,⟨_,_,k,k,⟨_,_,k,⟨k,k,k,k⟩,k⟩⟩⟩,k⟩⟩ k<|trivial) k)<|aN ?_
 obtain ⟨y11,hy11,h⟩:=ob h
 refine cU (body:=(rF a0 a1 a2 v1)) hy11 (fun (x1:((List Int)×Int))=>bU [(0,.int a0),(4,.ptr 0 0 0),(5,.ptr 1 0 0),(6,.ptr 2 0 0),(7,.ptr 3 0 0),(17,.int a1.rows),(18,.int x1.2)] [(0,⟨3,[[.int a1.rows,.int a1.cols,.list 1 (List.map eI a1.cells)]]⟩),(1,⟨3,[[.int a2.rows,.int a2.cols,.list 1 (List.map eI a2.cells)]]⟩),(2,⟨3,[[.int 0,.int 0,.nil 1]]⟩),(3,⟨3,[[.int v1.rows,.int v1.cols,.own 4 0 x1.1.length]]⟩),(4,⟨1,List.map (ow eI) x1.1⟩)] 5 [5,6]) (fun r e t=>e= .exit 0∧Ent t (bU [(6,.ptr 0 0 0),(7,.ptr 1 0 0)] [(0,⟨3,[[.int 0,.int 0,.nil 1]]⟩),(1,⟨3,[[.int v1.rows,.int v1.cols,.own 2 0 r.length]]⟩),(2,⟨1,List.map (ow eI) r⟩)] 3 [3,4,5,6])) (aE (σ:=sg [(0,0),(1,1),(2,2),(3,4),(4,3)]) ⟨(e1 k k),(pE k k),(pE k k),(pE k k),(pE k k),(e1 k k),(e1 k k),trivial⟩ (hP k k k k<|hP k k k k<|hP k k k k<|hX ⟨_,k,k,.inr ⟨_,_,k,⟨_,_,k,k,⟨_,_,k,k,⟨_,_,k,⟨k,k,k,k⟩,k⟩⟩⟩,k⟩⟩ k<|hI k k k<|trivial) k) ?_ ?_
 ·intro x1 o h
  refine sQ<|rg<|ae (bC k k k) k<|an<|tn<|sQ ?_
  rcases cb h with ⟨q2,h⟩|⟨q2,h⟩
  ·refine aL k q2<|aT<|tn<|sQ<|aN<|sQ<|rg<|am k k<|aa k k<|an ?_
   refine tn<|sQ<|rg<|ae (aC aA k k k k k k k) k<|am k k ?_
   obtain ⟨v3,hv3,h⟩:=ob h
   refine ae (aGd (aLZ a1 x1.2 v3 hv3) k k k) k<|ae (dD aA k k k) k<|am k k<|an<|tn<|aN ?_
   obtain ⟨y10,hy10,h⟩:=ob h
   refine cU (body:=(rE a0 a2 v1 v3 x1)) hy10 (fun (x2:((List Int)×Int))=>bU [(0,.int a0),(4,.ptr 0 0 0),(5,.ptr 1 0 0),(6,.ptr 2 0 0),(7,.ptr 3 0 0),(8,.int x1.2),(17,.int a1.rows),(18,.int x1.2),(23,.list 1 (List.map eI v3)),(24,.int (v3.length:Int)),(25,.int x2.2)] [(0,⟨3,[[.int a1.rows,.int a1.cols,.list 1 (List.map eI a1.cells)]]⟩),(1,⟨3,[[.int a2.rows,.int a2.cols,.list 1 (List.map eI a2.cells)]]⟩),(2,⟨3,[[.int 0,.int 0,.nil 1]]⟩),(3,⟨3,[[.int v1.rows,.int v1.cols,.own 4 0 x2.1.length]]⟩),(4,⟨1,List.map (ow eI) x2.1⟩)] 5 [5,6]) (fun r e t=>e= .exit 2∧Ent t (bU [(0,.int a0),(4,.ptr 0 0 0),(5,.ptr 1 0 0),(6,.ptr 2 0 0),(7,.ptr 3 0 0),(17,.int a1.rows),(18,.int x1.2)] [(0,⟨3,[[.int a1.rows,.int a1.cols,.list 1 (List.map eI a1.cells)]]⟩),(1,⟨3,[[.int a2.rows,.int a2.cols,.list 1 (List.map eI a2.cells)]]⟩),(2,⟨3,[[.int 0,.int 0,.nil 1]]⟩),(3,⟨3,[[.int v1.rows,.int v1.cols,.own 4 0 r.length]]⟩),(4,⟨1,List.map (ow eI) r⟩)] 5 [5,6])) (aE (σ:=sg [(0,0),(1,1),(2,2),(3,3),(4,4)]) ⟨(e1 k k),(pE k k),(pE k k),(pE k k),(pE k k),(e1 k k),(e1 k k),(e1 k k),⟨_,k,⟨k,k⟩⟩,(e1 k k),(e1 k k),trivial⟩ (hP k k k k<|hP k k k k<|hP k k k k<|hX ⟨_,k,k,.inr ⟨_,_,k,⟨_,_,k,k,⟨_,_,k,k,⟨_,_,k,⟨k,k,k,k⟩,k⟩⟩⟩,k⟩⟩ k<|hI k k k<|trivial) k) ?_ ?_
   ·intro x2 o h
    refine sQ<|rg<|ae (bC k k k) k<|an<|tn<|sQ ?_
    rcases cb h with ⟨q4,h⟩|⟨q4,h⟩
    ·refine aL k q4<|aT<|tn<|sQ<|aN<|sQ<|rg<|am k k ?_
     obtain ⟨v5,hv5,h⟩:=ob h
     refine ae (bH aA hv5 k k k k k k) k<|ae (aV aA k k k k k k) k<|aa k k<|aa k k<|an<|tn<|aY jW<|am k k<|ae (aC aA k k k k k k k) k<|am k k ?_
     obtain ⟨v6,hv6,h⟩:=ob h
     refine ae (AEff.pureE (lG (σ:=sg [(0,4)]) (σ':=sg [(4,0)]) (touch:=[4]) (news:=[]) (hl2:=[(4,⟨1,List.map (ow eI) x2.1⟩)]) (n':=5) (r2:= .own 4 (0+(wr (x1.2*v1.cols)).toNat) ((wr ((wr (x1.2+1))*v1.cols)).toNat - (wr (x1.2*v1.cols)).toNat)) (eK (⟨v1.rows,v1.cols,x2.1⟩:Mt) x1.2 v6 hv6) k k ⟨_,_,k,⟨_,_,k,k,⟨_,_,k,k,⟨_,_,k,⟨k,k,k,k⟩,k⟩⟩⟩,⟨_,_,k,k,k⟩⟩ ⟨⟨_,k,k,.inl ⟨k,eD.plainO _⟩⟩,k,trivial⟩ k k k ⟨⟨_,k,k,.inl ⟨k,eD.plainO _⟩⟩,k,trivial⟩ k ⟨k,k,(by simp only [bD,lA,lT,lR,lC,lN]),k⟩ k ⟨k,eD.tame _ _,trivial⟩ k k) ⟨k,k,trivial⟩) k<|am k k<|ae (aC aA k k k k k k k) k<|am k k ?_
     obtain ⟨v7,hv7,h⟩:=ob h
     refine ae (aGd (aLZ a2 x2.2 v7 hv7) k k k) k ?_
     obtain ⟨v8,hv8,h⟩:=ob h
     refine ae (lG (σ:=sg [(0,4)]) (σ':=sg [(4,0)]) (touch:=[4]) (news:=[]) (hl2:=[(4,⟨1,List.map (ow eI) v8⟩)]) (n':=5) (r2:= .own 4 (0+(wr (x1.2*v1.cols)).toNat) ((wr ((wr (x1.2+1))*v1.cols)).toNat - (wr (x1.2*v1.cols)).toNat)) (xG a0 x2.1 (0+(wr (x1.2*v1.cols)).toNat) ((wr ((wr (x1.2+1))*v1.cols)).toNat - (wr (x1.2*v1.cols)).toNat) v5 v7 v8 hv8) k k ⟨_,_,k,k,⟨_,_,k,⟨k,k,k,k⟩,⟨_,_,k,k,⟨_,_,k,⟨k,k⟩,k⟩⟩⟩⟩ ⟨⟨_,k,k,.inl ⟨k,eD.plainO _⟩⟩,k,trivial⟩ k k k ⟨⟨_,k,k,.inl ⟨k,eD.plainO _⟩⟩,k,trivial⟩ k ⟨k,k,(by simp only [bD,lA,lT,lR,lC,lN]),k⟩ k ⟨k,eD.tame _ _,trivial⟩ k k) k ?_
     obtain ⟨q9,h⟩:=cg h
     refine an ?_
     refine ⟨by kernel_rfl,?_⟩
     refine bE<|tn<|aO (t:=bU [(0,.int a0),(4,.ptr 0 0 0),(5,.ptr 1 0 0),(6,.ptr 2 0 0),(7,.ptr 3 0 0),(8,.int x1.2),(17,.int a1.rows),(18,.int x1.2),(23,.list 1 (List.map eI v3)),(24,.int (v3.length:Int)),(25,.int x2.2)] [(0,⟨3,[[.int a1.rows,.int a1.cols,.list 1 (List.map eI a1.cells)]]⟩),(1,⟨3,[[.int a2.rows,.int a2.cols,.list 1 (List.map eI a2.cells)]]⟩),(2,⟨3,[[.int 0,.int 0,.nil 1]]⟩),(3,⟨3,[[.int v1.rows,.int v1.cols,.own 4 0 v8.length]]⟩),(4,⟨1,List.map (ow eI) v8⟩)] 5 [5,6]) (aE (σ:=sg [(0,0),(1,1),(2,2),(3,3),(4,4)]) ⟨(e1 k k),(pE k k),(pE k k),(pE k k),(pE k k),(e1 k k),(e1 k k),(e1 k k),⟨_,k,⟨k,k⟩⟩,(e1 k k),(e1 k k),trivial⟩ (hP k k k k<|hP k k k k<|hP k k k k<|hX ⟨_,k,k,.inr ⟨_,_,k,⟨_,_,k,k,⟨_,_,k,k,⟨_,_,k,⟨k,k,(by simp only [bD,lA,lT,lR,lC,lN,of_decide_eq_true q9]),k⟩,k⟩⟩⟩,k⟩⟩ k<|hI k k k<|trivial) k)<|rg<|ae (bV k k) k<|am k k<|an<|tn ?_
     obtain rfl:=so h
     exact ⟨_,k,(aE (σ:=sg [(0,0),(1,1),(2,2),(3,3),(4,4)]) ⟨(e1 k k),(pE k k),(pE k k),(pE k k),(pE k k),(e1 k k),(e1 k k),(e1 k k),⟨_,k,⟨k,k⟩⟩,(e1 k k),(e1 k k),trivial⟩ (hP k k k k<|hP k k k k<|hP k k k k<|hX ⟨_,k,k,.inr ⟨_,_,k,⟨_,_,k,k,⟨_,_,k,k,⟨_,_,k,⟨k,k,k,k⟩,k⟩⟩⟩,k⟩⟩ k<|hI k k k<|trivial) k)⟩
    ·refine aS k q4<|bG<|aH<|aH ?_
     obtain rfl:=so h
     exact ⟨_,k,k,(aE (σ:=sg [(0,0),(1,1),(2,2),(3,3),(4,4)]) ⟨(e1 k k),(pE k k),(pE k k),(pE k k),(pE k k),(e1 k k),(e1 k k),trivial⟩ (hP k k k k<|hP k k k k<|hP k k k k<|hX ⟨_,k,k,.inr ⟨_,_,k,⟨_,_,k,k,⟨_,_,k,k,⟨_,_,k,⟨k,k,k,k⟩,k⟩⟩⟩,k⟩⟩ k<|hI k k k<|trivial) k)⟩
   ·rintro e t ⟨rfl,hent⟩
    refine aW<|bE<|tn<|aO hent<|rg<|ae (bV k k) k<|am k k<|an<|tn ?_
    obtain rfl:=so h
    exact ⟨_,k,(aE (σ:=sg [(0,0),(1,1),(2,2),(3,3),(4,4)]) ⟨(e1 k k),(pE k k),(pE k k),(pE k k),(pE k k),(e1 k k),(e1 k k),trivial⟩ (hP k k k k<|hP k k k k<|hP k k k k<|hX ⟨_,k,k,.inr ⟨_,_,k,⟨_,_,k,k,⟨_,_,k,k,⟨_,_,k,⟨k,k,k,k⟩,k⟩⟩⟩,k⟩⟩ k<|hI k k k<|trivial) k)⟩
  ·refine aS k q2<|bG<|aH<|aH ?_
   obtain rfl:=so h
   exact ⟨_,k,k,(aE (σ:=sg [(0,2),(1,3),(2,4)]) ⟨(pE k k),(pE k k),trivial⟩ (hP k k k k<|hX ⟨_,k,k,.inr ⟨_,_,k,⟨_,_,k,k,⟨_,_,k,k,⟨_,_,k,⟨k,k,k,k⟩,k⟩⟩⟩,k⟩⟩ k<|hI k k k<|trivial) k)⟩
 ·rintro e t ⟨rfl,hent⟩
  refine aW<|tn<|aO hent<|sQ<|rg<|ae (aC aA k k k k k k k) k<|ae (bP aA k k k k k k k k) k<|an<|tn<|aP ?_
  obtain rfl:=so h
  exact aU k k k (qN (cD (k) (cD (k) (cD (iQ eD k k) gZ))))
def lK (v1:Mt) (x1:(Int×(List Int)×(List Int))) (x2:Int):Option (Int ⊕ Int):=
 bif decide (x2<v1.rows) then
 (Option.bind (dM (⟨v1.rows,v1.cols,x1.2.1⟩:Mt) x2) fun v4=>
 bif (decide (0≤x1.1)&&decide (x1.1<((((wr ((wr (x2+1))*v1.cols)).toNat - (wr (x2*v1.cols)).toNat):Nat):Int))) then
 (Option.bind (x1.2.1[((0+(wr (x2*v1.cols)).toNat)+x1.1.toNat)]?) fun v5=>
 bif decide (v5=0) then
 (some (.inl (wr (x2+1))))
 else
 (some (.inr x2))
 )
 else none)
 else
 (some (.inr x2))
def pZ (v1:Mt) (x1:(Int×(List Int)×(List Int))) (y8:Int) (x3:((List Int)×Int)):Option (((List Int)×Int) ⊕ (List Int)):=
 bif decide (x3.2<v1.cols) then
 (Option.bind (dM (⟨v1.rows,v1.cols,x3.1⟩:Mt) y8) fun v12=>
 Option.bind (dM (⟨v1.rows,v1.cols,x3.1⟩:Mt) y8) fun v13=>
 bif (decide (0≤x3.2)&&decide (x3.2<((((wr ((wr (y8+1))*v1.cols)).toNat - (wr (y8*v1.cols)).toNat):Nat):Int))) then
 (Option.bind (x3.1[((0+(wr (y8*v1.cols)).toNat)+x3.2.toNat)]?) fun v14=>
 bif (decide (0≤x3.2)&&decide (x3.2<((((wr ((wr (((x1.2.2.length:Nat):Int)+1))*v1.cols)).toNat - (wr (((x1.2.2.length:Nat):Int)*v1.cols)).toNat):Nat):Int))) then
 (Option.bind (x3.1[((0+(wr (((x1.2.2.length:Nat):Int)*v1.cols)).toNat)+x3.2.toNat)]?) fun v16=>
 bif (decide (0≤x3.2)&&decide (x3.2<((((wr ((wr (((x1.2.2.length:Nat):Int)+1))*v1.cols)).toNat - (wr (((x1.2.2.length:Nat):Int)*v1.cols)).toNat):Nat):Int))) then
 (Option.bind (x3.1[((0+(wr (((x1.2.2.length:Nat):Int)*v1.cols)).toNat)+x3.2.toNat)]?) fun v18=>
 bif (decide (0≤x3.2)&&decide (x3.2<((((wr ((wr (y8+1))*v1.cols)).toNat - (wr (y8*v1.cols)).toNat):Nat):Int))) then
 (Option.bind ((x3.1.set ((0+(wr (((x1.2.2.length:Nat):Int)*v1.cols)).toNat)+x3.2.toNat) v14)[((0+(wr (y8*v1.cols)).toNat)+x3.2.toNat)]?) fun v20=>
 some (.inl (((x3.1.set ((0+(wr (((x1.2.2.length:Nat):Int)*v1.cols)).toNat)+x3.2.toNat) v14).set ((0+(wr (y8*v1.cols)).toNat)+x3.2.toNat) v16),wr (x3.2+1)))
 )
 else none
 )
 else none
 )
 else none
 )
 else none)
 else
 (some (.inr x3.1))
def qA (a0:Int) (v1:Mt) (v25:Int) (x1:(Int×(List Int)×(List Int))) (x4:((List Int)×Int)):Option (((List Int)×Int) ⊕ (List Int)):=
 bif decide (x4.2<((((wr ((wr (((x1.2.2.length:Nat):Int)+1))*v1.cols)).toNat - (wr (((x1.2.2.length:Nat):Int)*v1.cols)).toNat):Nat):Int)) then
 (bif (decide (0≤x4.2)&&decide (x4.2<((((wr ((wr (((x1.2.2.length:Nat):Int)+1))*v1.cols)).toNat - (wr (((x1.2.2.length:Nat):Int)*v1.cols)).toNat):Nat):Int))) then
 (Option.bind (x4.1[((0+(wr (((x1.2.2.length:Nat):Int)*v1.cols)).toNat)+x4.2.toNat)]?) fun v27=>
 bif !decide (a0=0) then
 (bif (decide (0≤x4.2)&&decide (x4.2<((((wr ((wr (((x1.2.2.length:Nat):Int)+1))*v1.cols)).toNat - (wr (((x1.2.2.length:Nat):Int)*v1.cols)).toNat):Nat):Int))) then
 (Option.bind (x4.1[((0+(wr (((x1.2.2.length:Nat):Int)*v1.cols)).toNat)+x4.2.toNat)]?) fun v29=>
 some (.inl ((x4.1.set ((0+(wr (((x1.2.2.length:Nat):Int)*v1.cols)).toNat)+x4.2.toNat) ((wr (v27*v25)).tmod a0)),wr (x4.2+1)))
 )
 else none)
 else none
 )
 else none)
 else
 (some (.inr x4.1))
def qB (a0:Int) (v1:Mt) (x1:(Int×(List Int)×(List Int))) (x5:((List Int)×Int)):Option (((List Int)×Int) ⊕ (List Int)):=
 bif decide (x5.2<v1.rows) then
 (bif !decide (x5.2=((x1.2.2.length:Nat):Int)) then
 (Option.bind (dM (⟨v1.rows,v1.cols,x5.1⟩:Mt) x5.2) fun v35=>
 Option.bind (dM (⟨v1.rows,v1.cols,x5.1⟩:Mt) x5.2) fun v36=>
 bif (decide (0≤x1.1)&&decide (x1.1<((((wr ((wr (x5.2+1))*v1.cols)).toNat - (wr (x5.2*v1.cols)).toNat):Nat):Int))) then
 (Option.bind (x5.1[((0+(wr (x5.2*v1.cols)).toNat)+x1.1.toNat)]?) fun v37=>
 Option.bind (iJ a0 x5.1 (0+(wr (x5.2*v1.cols)).toNat) ((wr ((wr (x5.2+1))*v1.cols)).toNat - (wr (x5.2*v1.cols)).toNat) (wr (a0 - v37)) (0+(wr (((x1.2.2.length:Nat):Int)*v1.cols)).toNat) ((wr ((wr (((x1.2.2.length:Nat):Int)+1))*v1.cols)).toNat - (wr (((x1.2.2.length:Nat):Int)*v1.cols)).toNat)) fun v39=>
 bif decide (v39.length=x5.1.length) then
 (some (.inl (v39,wr (x5.2+1))))
 else none
 )
 else none)
 else
 (some (.inl (x5.1,wr (x5.2+1)))))
 else
 (some (.inr x5.1))
def lL (a0:Int) (v1:Mt) (x1:(Int×(List Int)×(List Int))):Option ((Int×(List Int)×(List Int)) ⊕ ((List Int)×(List Int))):=
 bif decide (x1.1<v1.cols) then
 (Option.bind (Lp (lK v1 x1) ((x1.2.2.length:Nat):Int)) fun y8=>
 bif decide (y8=v1.rows) then
 (some (.inl (wr (x1.1+1),x1.2.1,x1.2.2)))
 else
 (Option.bind (dM (⟨v1.rows,v1.cols,x1.2.1⟩:Mt) ((x1.2.2.length:Nat):Int)) fun v10=>
 Option.bind (Lp (pZ v1 x1 y8) (x1.2.1,0)) fun y22=>
 bif (decide (0≤x1.1)&&decide (x1.1<((((wr ((wr (((x1.2.2.length:Nat):Int)+1))*v1.cols)).toNat - (wr (((x1.2.2.length:Nat):Int)*v1.cols)).toNat):Nat):Int))) then
 (Option.bind (y22[((0+(wr (((x1.2.2.length:Nat):Int)*v1.cols)).toNat)+x1.1.toNat)]?) fun v23=>
 Option.bind (nX a0 v23) fun v25=>
 Option.bind (Lp (qA a0 v1 v25 x1) (y22,0)) fun y32=>
 Option.bind (Lp (qB a0 v1 x1) (y32,0)) fun y41=>
 bif decide (x1.2.2.length+[x1.1].length ≤4294967296) then
 (some (.inl (wr (x1.1+1),y41,(x1.2.2++[x1.1]))))
 else none
 )
 else none))
 else
 (some (.inr (x1.2.1,x1.2.2)))
def vI (a0:Int) (a1:Mt):Option (Mt×(List Int)):=
 Option.bind (qO a1) fun v1=>
 Option.bind (Lp (lL a0 v1) (0,v1.cells,[])) fun y43=>
 some (((⟨v1.rows,v1.cols,y43.1⟩:Mt),y43.2))
theorem aHU (a0:Int) (a1:Mt) (r:(Mt×(List Int))) (h:vI a0 a1=some r):HasC Tryz.prog 222 [.int a0,.agg (eM a1)] (.tuple [.agg (eM r.1),.list 1 (List.map eI r.2)]):=by
 refine bK aA (rvs:=[.cell 4 113,.tmp 5]) (ns:=[0,1,2,3,4,5,6,7]) Tryz.func222 k k Tryz.ntmps222 k k k<|sQ<|rg<|ae (cC k k k k) k<|ae (bX aA k k) k<|aa k k<|an<|tn<|sQ<|rg ?_
 refine ae (aC aA k k k k k k k) k ?_
 obtain ⟨v1,hv1,h⟩:=ob h
 refine ae (AEff.conv (cR (x:= .agg [.int v1.rows,.int v1.cols,.own 2 0 (List.map eI v1.cells).length]) (nb:=[(2,⟨1,cX (List.map eI v1.cells)⟩)]) (aBg a1 v1 hv1) k (by rfl) k k (bZ trivial (bZ trivial (bZ (eD.good _) gQ))) (aG (cA (aM (aQ k) (aM (aQ k) (aM (aQ k) cF)))) bA)) (v':= .agg [.int v1.rows,.int v1.cols,.own 2 0 v1.cells.length]) (ed':=[(2,some ⟨1,List.map (ow eI) v1.cells⟩)]) (by simp only [bD]) (eJ (nb':=[(2,⟨1,List.map (ow eI) v1.cells⟩)]) (by simp only [cT]))) k<|ae (bP aA k k k k k k k k) k<|an<|tn<|sQ<|rg<|aa k k<|an<|tn<|sQ ?_
 refine sQ<|rg<|ae (aD aA k k k k k k k) k<|ae (aC aA k k k k k k k) k<|am k k<|an<|tn<|aN ?_
 obtain ⟨y43,hy43,h⟩:=ob h
 refine cU (body:=(lL a0 v1)) hy43 (fun (x1:(Int×(List Int)×(List Int)))=>bU [(0,.int a0),(3,.ptr 0 0 0),(4,.ptr 2 0 0),(6,.own 3 0 x1.2.2.length),(17,.int v1.cols),(18,.int x1.1)] [(0,⟨3,[[.int v1.rows,.int v1.cols,.own 1 0 x1.2.1.length]]⟩),(1,⟨1,List.map (ow eI) x1.2.1⟩),(2,⟨3,[[.int 0,.int 0,.nil 1]]⟩),(3,⟨1,List.map (ow eI) x1.2.2⟩)] 4 [4,5,6,7]) (fun r e t=>e= .exit 0∧Ent t (bU [(3,.ptr 0 0 0),(4,.ptr 2 0 0),(6,.own 3 0 r.2.length)] [(0,⟨3,[[.int v1.rows,.int v1.cols,.own 1 0 r.1.length]]⟩),(1,⟨1,List.map (ow eI) r.1⟩),(2,⟨3,[[.int 0,.int 0,.nil 1]]⟩),(3,⟨1,List.map (ow eI) r.2⟩)] 4 [4,5,6,7])) (aE (σ:=sg [(0,0),(1,2),(2,1)]) ⟨(e1 k k),(pE k k),(pE k k),⟨_,k,⟨k,k,k,k⟩⟩,(e1 k k),(e1 k k),trivial⟩ (hX ⟨_,k,k,.inr ⟨_,_,k,⟨_,_,k,k,⟨_,_,k,k,⟨_,_,k,⟨k,k,k,k⟩,k⟩⟩⟩,k⟩⟩ k<|hI k k k<|hP k k k k<|hX k k<|trivial) k) ?_ ?_
 ·intro x1 o h
  refine sQ<|rg<|ae (bC k k k) k<|an<|tn<|sQ ?_
  rcases cb h with ⟨q2,h⟩|⟨q2,h⟩
  ·refine aL k q2<|aT<|tn<|sQ<|aN<|sQ<|rg<|am k k<|aa k k<|an ?_
   refine tn<|sQ<|rg<|am k k<|ae (bW aA k k k k) k<|aa k k<|an<|tn<|sQ<|aN ?_
   obtain ⟨y8,hy8,h⟩:=ob h
   refine cU (body:=(lK v1 x1)) hy8 (fun (x2:Int)=>bU [(0,.int a0),(3,.ptr 0 0 0),(4,.ptr 2 0 0),(6,.own 3 0 x1.2.2.length),(7,.int x1.1),(8,.int x2),(17,.int v1.cols),(18,.int x1.1)] [(0,⟨3,[[.int v1.rows,.int v1.cols,.own 1 0 x1.2.1.length]]⟩),(1,⟨1,List.map (ow eI) x1.2.1⟩),(2,⟨3,[[.int 0,.int 0,.nil 1]]⟩),(3,⟨1,List.map (ow eI) x1.2.2⟩)] 4 [4,5,6,7]) (fun r e t=>e= .exit 2∧Ent t (bU [(0,.int a0),(3,.ptr 0 0 0),(4,.ptr 2 0 0),(6,.own 3 0 x1.2.2.length),(7,.int x1.1),(8,.int r),(17,.int v1.cols),(18,.int x1.1)] [(0,⟨3,[[.int v1.rows,.int v1.cols,.own 1 0 x1.2.1.length]]⟩),(1,⟨1,List.map (ow eI) x1.2.1⟩),(2,⟨3,[[.int 0,.int 0,.nil 1]]⟩),(3,⟨1,List.map (ow eI) x1.2.2⟩)] 4 [4,5,6,7])) (aE (σ:=sg [(0,0),(1,1),(2,2),(3,3)]) ⟨(e1 k k),(pE k k),(pE k k),(oE k k),(e1 k k),(e1 k k),(e1 k k),(e1 k k),trivial⟩ (hX ⟨_,k,k,.inr ⟨_,_,k,⟨_,_,k,k,⟨_,_,k,k,⟨_,_,k,⟨k,k,k,k⟩,k⟩⟩⟩,k⟩⟩ k<|hI k k k<|hP k k k k<|hI k k k<|trivial) k) ?_ ?_
   ·intro x2 o h
    refine sQ<|sQ<|rg<|am k k<|ae (aD aA k k k k k k k) k<|ae (aC aA k k k k k k k) k<|ae (bC k k k) k<|am k k ?_
    rcases cb h with ⟨q3,h⟩|⟨q3,h⟩
    ·refine aX 27 k q3<|ae (aC aA k k k k k k k) k<|am k k ?_
     obtain ⟨v4,hv4,h⟩:=ob h
     refine ae (AEff.pureE (lG (σ:=sg [(0,1)]) (σ':=sg [(1,0)]) (touch:=[1]) (news:=[]) (hl2:=[(1,⟨1,List.map (ow eI) x1.2.1⟩)]) (n':=4) (r2:= .own 1 (0+(wr (x2*v1.cols)).toNat) ((wr ((wr (x2+1))*v1.cols)).toNat - (wr (x2*v1.cols)).toNat)) (eK (⟨v1.rows,v1.cols,x1.2.1⟩:Mt) x2 v4 hv4) k k ⟨_,_,k,⟨_,_,k,k,⟨_,_,k,k,⟨_,_,k,⟨k,k,k,k⟩,k⟩⟩⟩,⟨_,_,k,k,k⟩⟩ ⟨⟨_,k,k,.inl ⟨k,eD.plainO _⟩⟩,k,trivial⟩ k k k ⟨⟨_,k,k,.inl ⟨k,eD.plainO _⟩⟩,k,trivial⟩ k ⟨k,k,(by simp only [bD,lA,lT,lR,lC,lN]),k⟩ k ⟨k,eD.tame _ _,trivial⟩ k k) ⟨k,k,trivial⟩) k<|am k k ?_
     obtain ⟨q6,h⟩:=cg h
     obtain ⟨v5,hv5,h⟩:=ob h
     refine ae (gM aA q6 k k k k k k k) k<|ae (aC aA k k k k (cL (hv5)) k k) k<|ae (bC k k k) k<|ae (aJ k k) k<|an<|tn<|aO (t:=bU [(0,.int a0),(3,.ptr 0 0 0),(4,.ptr 2 0 0),(6,.own 3 0 x1.2.2.length),(7,.int x1.1),(8,.int x2),(17,.int v1.cols),(18,.int x1.1),(35,.bl (decide (v5=0)))] [(0,⟨3,[[.int v1.rows,.int v1.cols,.own 1 0 x1.2.1.length]]⟩),(1,⟨1,List.map (ow eI) x1.2.1⟩),(2,⟨3,[[.int 0,.int 0,.nil 1]]⟩),(3,⟨1,List.map (ow eI) x1.2.2⟩)] 4 [4,5,6,7]) (aE (σ:=sg [(0,0),(1,1),(2,2),(3,3)]) ⟨(e1 k k),(pE k k),(pE k k),(oE k k),(e1 k k),(e1 k k),(e1 k k),(e1 k k),(e1 k k),trivial⟩ (hX ⟨_,k,k,.inr ⟨_,_,k,⟨_,_,k,k,⟨_,_,k,k,⟨_,_,k,⟨k,k,k,k⟩,k⟩⟩⟩,k⟩⟩ k<|hI k k k<|hP k k k k<|hI k k k<|trivial) k) ?_
     rcases cb h with ⟨q7,h⟩|⟨q7,h⟩
     ·refine aL k q7<|aT<|tn<|aN<|rg<|am k k<|ae (bV k k) k<|aa k k<|an<|bE ?_
      refine tn ?_
      obtain rfl:=so h
      exact ⟨_,k,(aE (σ:=sg [(0,0),(1,1),(2,2),(3,3)]) ⟨(e1 k k),(pE k k),(pE k k),(oE k k),(e1 k k),(e1 k k),(e1 k k),(e1 k k),trivial⟩ (hX ⟨_,k,k,.inr ⟨_,_,k,⟨_,_,k,k,⟨_,_,k,k,⟨_,_,k,⟨k,k,k,k⟩,k⟩⟩⟩,k⟩⟩ k<|hI k k k<|hP k k k k<|hI k k k<|trivial) k)⟩
     ·refine aS k q7<|bG<|aH<|aH ?_
      obtain rfl:=so h
      exact ⟨_,k,k,(aE (σ:=sg [(0,0),(1,1),(2,2),(3,3)]) ⟨(e1 k k),(pE k k),(pE k k),(oE k k),(e1 k k),(e1 k k),(e1 k k),(e1 k k),trivial⟩ (hX ⟨_,k,k,.inr ⟨_,_,k,⟨_,_,k,k,⟨_,_,k,k,⟨_,_,k,⟨k,k,k,k⟩,k⟩⟩⟩,k⟩⟩ k<|hI k k k<|hP k k k k<|hI k k k<|trivial) k)⟩
    ·refine aX 27 k q3<|ak k k<|ak k k<|ak k k<|ak k k<|ak k k<|ak k k<|ak k k<|ae (aJ k k) k<|an ?_
     refine tn<|aO (t:=bU [(0,.int a0),(3,.ptr 0 0 0),(4,.ptr 2 0 0),(6,.own 3 0 x1.2.2.length),(7,.int x1.1),(8,.int x2),(17,.int v1.cols),(18,.int x1.1),(35,.bl false)] [(0,⟨3,[[.int v1.rows,.int v1.cols,.own 1 0 x1.2.1.length]]⟩),(1,⟨1,List.map (ow eI) x1.2.1⟩),(2,⟨3,[[.int 0,.int 0,.nil 1]]⟩),(3,⟨1,List.map (ow eI) x1.2.2⟩)] 4 [4,5,6,7]) (aE (σ:=sg [(0,0),(1,1),(2,2),(3,3)]) ⟨(e1 k k),(pE k k),(pE k k),(oE k k),(e1 k k),(e1 k k),(e1 k k),(e1 k k),(e1 k k),trivial⟩ (hX ⟨_,k,k,.inr ⟨_,_,k,⟨_,_,k,k,⟨_,_,k,k,⟨_,_,k,⟨k,k,k,k⟩,k⟩⟩⟩,k⟩⟩ k<|hI k k k<|hP k k k k<|hI k k k<|trivial) k)<|aS k k<|bG<|aH<|aH ?_
     obtain rfl:=so h
     exact ⟨_,k,k,(aE (σ:=sg [(0,0),(1,1),(2,2),(3,3)]) ⟨(e1 k k),(pE k k),(pE k k),(oE k k),(e1 k k),(e1 k k),(e1 k k),(e1 k k),trivial⟩ (hX ⟨_,k,k,.inr ⟨_,_,k,⟨_,_,k,k,⟨_,_,k,k,⟨_,_,k,⟨k,k,k,k⟩,k⟩⟩⟩,k⟩⟩ k<|hI k k k<|hP k k k k<|hI k k k<|trivial) k)⟩
   ·rintro e t ⟨rfl,hent⟩
    refine aW<|tn<|aO hent<|sQ<|sQ<|rg<|am k k<|ae (aD aA k k k k k k k) k<|ae (aC aA k k k k k k k) k<|ae (bC k k k) k ?_
    refine an<|tn ?_
    rcases cb h with ⟨q9,h⟩|⟨q9,h⟩
    ·refine aL k q9<|bG<|aH<|aW<|tn<|rg<|ae (bV k k) k<|am k k<|an<|tn ?_
     obtain rfl:=so h
     exact ⟨_,k,(aE (σ:=sg [(0,0),(1,1),(2,2),(3,3)]) ⟨(e1 k k),(pE k k),(pE k k),(oE k k),(e1 k k),(e1 k k),trivial⟩ (hX ⟨_,k,k,.inr ⟨_,_,k,⟨_,_,k,k,⟨_,_,k,k,⟨_,_,k,⟨k,k,k,k⟩,k⟩⟩⟩,k⟩⟩ k<|hI k k k<|hP k k k k<|hI k k k<|trivial) k)⟩
    ·refine aS k q9<|aT<|tn<|sQ<|rg<|ae (aC aA k k k k k k k) k<|am k k<|ae (bW aA k k k k) k ?_
     obtain ⟨v10,hv10,h⟩:=ob h
     refine ae (AEff.pureE (lG (σ:=sg [(0,1)]) (σ':=sg [(1,0)]) (touch:=[1]) (news:=[]) (hl2:=[(1,⟨1,List.map (ow eI) x1.2.1⟩)]) (n':=4) (r2:= .own 1 (0+(wr (((x1.2.2.length:Nat):Int)*v1.cols)).toNat) ((wr ((wr (((x1.2.2.length:Nat):Int)+1))*v1.cols)).toNat - (wr (((x1.2.2.length:Nat):Int)*v1.cols)).toNat)) (eK (⟨v1.rows,v1.cols,x1.2.1⟩:Mt) ((x1.2.2.length:Nat):Int) v10 hv10) k k ⟨_,_,k,⟨_,_,k,k,⟨_,_,k,k,⟨_,_,k,⟨k,k,k,k⟩,k⟩⟩⟩,⟨_,_,k,k,k⟩⟩ ⟨⟨_,k,k,.inl ⟨k,eD.plainO _⟩⟩,k,trivial⟩ k k k ⟨⟨_,k,k,.inl ⟨k,eD.plainO _⟩⟩,k,trivial⟩ k ⟨k,k,(by simp only [bD,lA,lT,lR,lC,lN]),k⟩ k ⟨k,eD.tame _ _,trivial⟩ k k) ⟨k,k,trivial⟩) k<|aa k k<|an<|tn<|sQ<|sQ<|rg<|ae (aD aA k k k k k k k) k<|ae (aC aA k k k k k k k) k<|am k k ?_
     refine an<|tn<|aO (t:=bU [(0,.int a0),(3,.ptr 0 0 0),(4,.ptr 2 0 0),(6,.own 3 0 x1.2.2.length),(7,.int x1.1),(8,.int y8),(9,.own 1 (0+(wr (((x1.2.2.length:Nat):Int)*v1.cols)).toNat) ((wr ((wr (((x1.2.2.length:Nat):Int)+1))*v1.cols)).toNat - (wr (((x1.2.2.length:Nat):Int)*v1.cols)).toNat)),(17,.int v1.cols),(18,.int x1.1),(47,.int v1.cols),(48,.int 0)] [(0,⟨3,[[.int v1.rows,.int v1.cols,.own 1 0 x1.2.1.length]]⟩),(1,⟨1,List.map (ow eI) x1.2.1⟩),(2,⟨3,[[.int 0,.int 0,.nil 1]]⟩),(3,⟨1,List.map (ow eI) x1.2.2⟩)] 4 [4,5,6,7]) (aE (σ:=sg [(0,0),(1,1),(2,2),(3,3)]) ⟨(e1 k k),(pE k k),(pE k k),(oE k k),(e1 k k),(e1 k k),(oE k k),(e1 k k),(e1 k k),(e1 k k),(e1 k k),trivial⟩ (hX ⟨_,k,k,.inr ⟨_,_,k,⟨_,_,k,k,⟨_,_,k,k,⟨_,_,k,⟨k,k,k,k⟩,k⟩⟩⟩,k⟩⟩ k<|hI k k k<|hP k k k k<|hI k k k<|trivial) k)<|aN ?_
     obtain ⟨y22,hy22,h⟩:=ob h
     refine cU (body:=(pZ v1 x1 y8)) hy22 (fun (x3:((List Int)×Int))=>bU [(0,.int a0),(3,.ptr 0 0 0),(4,.ptr 2 0 0),(6,.own 3 0 x1.2.2.length),(7,.int x1.1),(8,.int y8),(9,.own 1 (0+(wr (((x1.2.2.length:Nat):Int)*v1.cols)).toNat) ((wr ((wr (((x1.2.2.length:Nat):Int)+1))*v1.cols)).toNat - (wr (((x1.2.2.length:Nat):Int)*v1.cols)).toNat)),(17,.int v1.cols),(18,.int x1.1),(47,.int v1.cols),(48,.int x3.2)] [(0,⟨3,[[.int v1.rows,.int v1.cols,.own 1 0 x3.1.length]]⟩),(1,⟨1,List.map (ow eI) x3.1⟩),(2,⟨3,[[.int 0,.int 0,.nil 1]]⟩),(3,⟨1,List.map (ow eI) x1.2.2⟩)] 4 [4,5,6,7]) (fun r e t=>e= .exit 4∧Ent t (bU [(0,.int a0),(3,.ptr 0 0 0),(4,.ptr 2 0 0),(6,.own 3 0 x1.2.2.length),(7,.int x1.1),(9,.own 1 (0+(wr (((x1.2.2.length:Nat):Int)*v1.cols)).toNat) ((wr ((wr (((x1.2.2.length:Nat):Int)+1))*v1.cols)).toNat - (wr (((x1.2.2.length:Nat):Int)*v1.cols)).toNat)),(17,.int v1.cols),(18,.int x1.1)] [(0,⟨3,[[.int v1.rows,.int v1.cols,.own 1 0 r.length]]⟩),(1,⟨1,List.map (ow eI) r⟩),(2,⟨3,[[.int 0,.int 0,.nil 1]]⟩),(3,⟨1,List.map (ow eI) x1.2.2⟩)] 4 [4,5,6,7])) (aE (σ:=sg [(0,0),(1,1),(2,2),(3,3)]) ⟨(e1 k k),(pE k k),(pE k k),(oE k k),(e1 k k),(e1 k k),(oE k k),(e1 k k),(e1 k k),(e1 k k),(e1 k k),trivial⟩ (hX ⟨_,k,k,.inr ⟨_,_,k,⟨_,_,k,k,⟨_,_,k,k,⟨_,_,k,⟨k,k,k,k⟩,k⟩⟩⟩,k⟩⟩ k<|hI k k k<|hP k k k k<|hI k k k<|trivial) k) ?_ ?_
     ·intro x3 o h
      refine sQ<|rg<|ae (bC k k k) k<|an<|tn<|sQ ?_
      rcases cb h with ⟨q11,h⟩|⟨q11,h⟩
      ·refine aL k q11<|aT<|tn<|sQ<|aN<|sQ<|rg<|am k k<|aa k k<|an ?_
       refine tn<|aY jW<|am k k<|am k k<|ae (aC aA k k k k k k k) k<|am k k ?_
       obtain ⟨v12,hv12,h⟩:=ob h
       refine ae (AEff.pureE (lG (σ:=sg [(0,1)]) (σ':=sg [(1,0)]) (touch:=[1]) (news:=[]) (hl2:=[(1,⟨1,List.map (ow eI) x3.1⟩)]) (n':=4) (r2:= .own 1 (0+(wr (y8*v1.cols)).toNat) ((wr ((wr (y8+1))*v1.cols)).toNat - (wr (y8*v1.cols)).toNat)) (eK (⟨v1.rows,v1.cols,x3.1⟩:Mt) y8 v12 hv12) k k ⟨_,_,k,⟨_,_,k,k,⟨_,_,k,k,⟨_,_,k,⟨k,k,k,k⟩,k⟩⟩⟩,⟨_,_,k,k,k⟩⟩ ⟨⟨_,k,k,.inl ⟨k,eD.plainO _⟩⟩,k,trivial⟩ k k k ⟨⟨_,k,k,.inl ⟨k,eD.plainO _⟩⟩,k,trivial⟩ k ⟨k,k,(by simp only [bD,lA,lT,lR,lC,lN]),k⟩ k ⟨k,eD.tame _ _,trivial⟩ k k) ⟨k,k,trivial⟩) k<|am k k<|ae (aC aA k k k k k k k) k<|am k k ?_
       obtain ⟨v13,hv13,h⟩:=ob h
       refine ae (AEff.pureE (lG (σ:=sg [(0,1)]) (σ':=sg [(1,0)]) (touch:=[1]) (news:=[]) (hl2:=[(1,⟨1,List.map (ow eI) x3.1⟩)]) (n':=4) (r2:= .own 1 (0+(wr (y8*v1.cols)).toNat) ((wr ((wr (y8+1))*v1.cols)).toNat - (wr (y8*v1.cols)).toNat)) (eK (⟨v1.rows,v1.cols,x3.1⟩:Mt) y8 v13 hv13) k k ⟨_,_,k,⟨_,_,k,k,⟨_,_,k,k,⟨_,_,k,⟨k,k,k,k⟩,k⟩⟩⟩,⟨_,_,k,k,k⟩⟩ ⟨⟨_,k,k,.inl ⟨k,eD.plainO _⟩⟩,k,trivial⟩ k k k ⟨⟨_,k,k,.inl ⟨k,eD.plainO _⟩⟩,k,trivial⟩ k ⟨k,k,(by simp only [bD,lA,lT,lR,lC,lN]),k⟩ k ⟨k,eD.tame _ _,trivial⟩ k k) ⟨k,k,trivial⟩) k<|am k k ?_
       obtain ⟨q15,h⟩:=cg h
       obtain ⟨v14,hv14,h⟩:=ob h
       refine ae (gM aA q15 k k k k k k k) k<|ae (aC aA k k k k (cL (hv14)) k k) k<|am k k<|am k k ?_
       obtain ⟨q17,h⟩:=cg h
       obtain ⟨v16,hv16,h⟩:=ob h
       refine ae (gM aA q17 k k k k k k k) k<|ae (aC aA k k k k (cL (hv16)) k k) k ?_
       obtain ⟨q19,h⟩:=cg h
       obtain ⟨v18,hv18,h⟩:=ob h
       refine ae (gM aA q19 k k k k k k k) k<|ae (iI aA tG (u:=v14) (hv18) k k k k k k) k ?_
       obtain ⟨q21,h⟩:=cg h
       obtain ⟨v20,hv20,h⟩:=ob h
       refine ae (gM aA q21 k k k k k k k) k<|ae (iI aA tG (u:=v16) (hv20) k k k k k k) k<|an ?_
       refine ⟨by kernel_rfl,?_⟩
       refine bE<|tn<|aO (t:=bU [(0,.int a0),(3,.ptr 0 0 0),(4,.ptr 2 0 0),(6,.own 3 0 x1.2.2.length),(7,.int x1.1),(8,.int y8),(9,.own 1 (0+(wr (((x1.2.2.length:Nat):Int)*v1.cols)).toNat) ((wr ((wr (((x1.2.2.length:Nat):Int)+1))*v1.cols)).toNat - (wr (((x1.2.2.length:Nat):Int)*v1.cols)).toNat)),(17,.int v1.cols),(18,.int x1.1),(47,.int v1.cols),(48,.int x3.2)] [(0,⟨3,[[.int v1.rows,.int v1.cols,.own 1 0 (((x3.1.set ((0+(wr (((x1.2.2.length:Nat):Int)*v1.cols)).toNat)+x3.2.toNat) v14).set ((0+(wr (y8*v1.cols)).toNat)+x3.2.toNat) v16).length)]]⟩),(1,⟨1,List.map (ow eI) ((x3.1.set ((0+(wr (((x1.2.2.length:Nat):Int)*v1.cols)).toNat)+x3.2.toNat) v14).set ((0+(wr (y8*v1.cols)).toNat)+x3.2.toNat) v16)⟩),(2,⟨3,[[.int 0,.int 0,.nil 1]]⟩),(3,⟨1,List.map (ow eI) x1.2.2⟩)] 4 [4,5,6,7]) (aE (σ:=sg [(0,0),(1,1),(2,2),(3,3)]) ⟨(e1 k k),(pE k k),(pE k k),(oE k k),(e1 k k),(e1 k k),(oE k k),(e1 k k),(e1 k k),(e1 k k),(e1 k k),trivial⟩ (hX ⟨_,k,k,.inr ⟨_,_,k,⟨_,_,k,k,⟨_,_,k,k,⟨_,_,k,⟨k,k,(by simp only [bD,lA,lT,lR,lC,lN]),k⟩,k⟩⟩⟩,k⟩⟩ k<|hI k k k<|hP k k k k<|hI k k k<|trivial) k)<|rg<|ae (bV k k) k<|am k k<|an<|tn ?_
       obtain rfl:=so h
       exact ⟨_,k,(aE (σ:=sg [(0,0),(1,1),(2,2),(3,3)]) ⟨(e1 k k),(pE k k),(pE k k),(oE k k),(e1 k k),(e1 k k),(oE k k),(e1 k k),(e1 k k),(e1 k k),(e1 k k),trivial⟩ (hX ⟨_,k,k,.inr ⟨_,_,k,⟨_,_,k,k,⟨_,_,k,k,⟨_,_,k,⟨k,k,k,k⟩,k⟩⟩⟩,k⟩⟩ k<|hI k k k<|hP k k k k<|hI k k k<|trivial) k)⟩
      ·refine aS k q11<|bG<|aH<|aH ?_
       obtain rfl:=so h
       exact ⟨_,k,k,(aE (σ:=sg [(0,0),(1,1),(2,2),(3,3)]) ⟨(e1 k k),(pE k k),(pE k k),(oE k k),(e1 k k),(oE k k),(e1 k k),(e1 k k),trivial⟩ (hX ⟨_,k,k,.inr ⟨_,_,k,⟨_,_,k,k,⟨_,_,k,k,⟨_,_,k,⟨k,k,k,k⟩,k⟩⟩⟩,k⟩⟩ k<|hI k k k<|hP k k k k<|hI k k k<|trivial) k)⟩
     ·rintro e t ⟨rfl,hent⟩
      refine aW<|tn<|aO hent<|sQ<|rg<|am k k<|am k k<|am k k ?_
      obtain ⟨q24,h⟩:=cg h
      obtain ⟨v23,hv23,h⟩:=ob h
      refine ae (gM aA q24 k k k k k k k) k<|ae (aC aA k k k k (cL (hv23)) k k) k ?_
      obtain ⟨v25,hv25,h⟩:=ob h
      refine ae (aZ (aDK a0 v23 v25 hv25) k (aG (aI k) (aG (aI k) bA))) k<|aa k k<|an<|tn<|sQ<|sQ<|rg<|am k k<|ae (bW aA k k k k) k<|am k k ?_
      refine an<|tn<|aN ?_
      obtain ⟨y32,hy32,h⟩:=ob h
      refine cU (body:=(qA a0 v1 v25 x1)) hy32 (fun (x4:((List Int)×Int))=>bU [(0,.int a0),(3,.ptr 0 0 0),(4,.ptr 2 0 0),(6,.own 3 0 x1.2.2.length),(7,.int x1.1),(9,.own 1 (0+(wr (((x1.2.2.length:Nat):Int)*v1.cols)).toNat) ((wr ((wr (((x1.2.2.length:Nat):Int)+1))*v1.cols)).toNat - (wr (((x1.2.2.length:Nat):Int)*v1.cols)).toNat)),(11,.int v25),(17,.int v1.cols),(18,.int x1.1),(77,.int ((((wr ((wr (((x1.2.2.length:Nat):Int)+1))*v1.cols)).toNat - (wr (((x1.2.2.length:Nat):Int)*v1.cols)).toNat):Nat):Int)),(78,.int x4.2)] [(0,⟨3,[[.int v1.rows,.int v1.cols,.own 1 0 x4.1.length]]⟩),(1,⟨1,List.map (ow eI) x4.1⟩),(2,⟨3,[[.int 0,.int 0,.nil 1]]⟩),(3,⟨1,List.map (ow eI) x1.2.2⟩)] 4 [4,5,6,7]) (fun r e t=>e= .exit 6∧Ent t (bU [(0,.int a0),(3,.ptr 0 0 0),(4,.ptr 2 0 0),(6,.own 3 0 x1.2.2.length),(7,.int x1.1),(9,.own 1 (0+(wr (((x1.2.2.length:Nat):Int)*v1.cols)).toNat) ((wr ((wr (((x1.2.2.length:Nat):Int)+1))*v1.cols)).toNat - (wr (((x1.2.2.length:Nat):Int)*v1.cols)).toNat)),(17,.int v1.cols),(18,.int x1.1)] [(0,⟨3,[[.int v1.rows,.int v1.cols,.own 1 0 r.length]]⟩),(1,⟨1,List.map (ow eI) r⟩),(2,⟨3,[[.int 0,.int 0,.nil 1]]⟩),(3,⟨1,List.map (ow eI) x1.2.2⟩)] 4 [4,5,6,7])) (aE (σ:=sg [(0,0),(1,1),(2,2),(3,3)]) ⟨(e1 k k),(pE k k),(pE k k),(oE k k),(e1 k k),(oE k k),(e1 k k),(e1 k k),(e1 k k),(e1 k k),(e1 k k),trivial⟩ (hX ⟨_,k,k,.inr ⟨_,_,k,⟨_,_,k,k,⟨_,_,k,k,⟨_,_,k,⟨k,k,k,k⟩,k⟩⟩⟩,k⟩⟩ k<|hI k k k<|hP k k k k<|hI k k k<|trivial) k) ?_ ?_
      ·intro x4 o h
       refine sQ<|rg<|ae (bC k k k) k<|an<|tn<|sQ ?_
       rcases cb h with ⟨q26,h⟩|⟨q26,h⟩
       ·refine aL k q26<|aT<|tn<|sQ<|aN<|sQ<|rg<|am k k<|aa k k<|an ?_
        refine tn<|rg<|am k k<|am k k<|am k k<|am k k ?_
        obtain ⟨q28,h⟩:=cg h
        obtain ⟨v27,hv27,h⟩:=ob h
        refine ae (gM aA q28 k k k k k k k) k<|ae (aC aA k k k k (cL (hv27)) k k) k<|am k k<|ae (fP k k) k<|am k k ?_
        obtain ⟨q31,h⟩:=cg h
        refine ae (aDB k k q31) k ?_
        obtain ⟨q30,h⟩:=cg h
        obtain ⟨v29,hv29,h⟩:=ob h
        refine ae (gM aA q30 k k k k k k k) k<|ae (iI aA tG (u:=(wr (v27*v25)).tmod a0) (hv29) k k k k k k) k<|an<|bE<|tn<|aO (t:=bU [(0,.int a0),(3,.ptr 0 0 0),(4,.ptr 2 0 0),(6,.own 3 0 x1.2.2.length),(7,.int x1.1),(9,.own 1 (0+(wr (((x1.2.2.length:Nat):Int)*v1.cols)).toNat) ((wr ((wr (((x1.2.2.length:Nat):Int)+1))*v1.cols)).toNat - (wr (((x1.2.2.length:Nat):Int)*v1.cols)).toNat)),(11,.int v25),(17,.int v1.cols),(18,.int x1.1),(77,.int ((((wr ((wr (((x1.2.2.length:Nat):Int)+1))*v1.cols)).toNat - (wr (((x1.2.2.length:Nat):Int)*v1.cols)).toNat):Nat):Int)),(78,.int x4.2)] [(0,⟨3,[[.int v1.rows,.int v1.cols,.own 1 0 ((x4.1.set ((0+(wr (((x1.2.2.length:Nat):Int)*v1.cols)).toNat)+x4.2.toNat) ((wr (v27*v25)).tmod a0)).length)]]⟩),(1,⟨1,List.map (ow eI) (x4.1.set ((0+(wr (((x1.2.2.length:Nat):Int)*v1.cols)).toNat)+x4.2.toNat) ((wr (v27*v25)).tmod a0))⟩),(2,⟨3,[[.int 0,.int 0,.nil 1]]⟩),(3,⟨1,List.map (ow eI) x1.2.2⟩)] 4 [4,5,6,7]) (aE (σ:=sg [(0,0),(1,1),(2,2),(3,3)]) ⟨(e1 k k),(pE k k),(pE k k),(oE k k),(e1 k k),(oE k k),(e1 k k),(e1 k k),(e1 k k),(e1 k k),(e1 k k),trivial⟩ (hX ⟨_,k,k,.inr ⟨_,_,k,⟨_,_,k,k,⟨_,_,k,k,⟨_,_,k,⟨k,k,(by simp only [bD,lA,lT,lR,lC,lN]),k⟩,k⟩⟩⟩,k⟩⟩ k<|hI k k k<|hP k k k k<|hI k k k<|trivial) k)<|rg<|ae (bV k k) k<|am k k<|an ?_
        refine tn ?_
        obtain rfl:=so h
        exact ⟨_,k,(aE (σ:=sg [(0,0),(1,1),(2,2),(3,3)]) ⟨(e1 k k),(pE k k),(pE k k),(oE k k),(e1 k k),(oE k k),(e1 k k),(e1 k k),(e1 k k),(e1 k k),(e1 k k),trivial⟩ (hX ⟨_,k,k,.inr ⟨_,_,k,⟨_,_,k,k,⟨_,_,k,k,⟨_,_,k,⟨k,k,k,k⟩,k⟩⟩⟩,k⟩⟩ k<|hI k k k<|hP k k k k<|hI k k k<|trivial) k)⟩
       ·refine aS k q26<|bG<|aH<|aH ?_
        obtain rfl:=so h
        exact ⟨_,k,k,(aE (σ:=sg [(0,0),(1,1),(2,2),(3,3)]) ⟨(e1 k k),(pE k k),(pE k k),(oE k k),(e1 k k),(oE k k),(e1 k k),(e1 k k),trivial⟩ (hX ⟨_,k,k,.inr ⟨_,_,k,⟨_,_,k,k,⟨_,_,k,k,⟨_,_,k,⟨k,k,k,k⟩,k⟩⟩⟩,k⟩⟩ k<|hI k k k<|hP k k k k<|hI k k k<|trivial) k)⟩
      ·rintro e t ⟨rfl,hent⟩
       refine aW<|tn<|aO hent<|sQ<|sQ<|rg<|ae (aD aA k k k k k k k) k<|ae (aC aA k k k k k k k) k<|am k k<|an ?_
       refine tn<|aN ?_
       obtain ⟨y41,hy41,h⟩:=ob h
       refine cU (body:=(qB a0 v1 x1)) hy41 (fun (x5:((List Int)×Int))=>bU [(0,.int a0),(3,.ptr 0 0 0),(4,.ptr 2 0 0),(6,.own 3 0 x1.2.2.length),(7,.int x1.1),(9,.own 1 (0+(wr (((x1.2.2.length:Nat):Int)*v1.cols)).toNat) ((wr ((wr (((x1.2.2.length:Nat):Int)+1))*v1.cols)).toNat - (wr (((x1.2.2.length:Nat):Int)*v1.cols)).toNat)),(17,.int v1.cols),(18,.int x1.1),(94,.int v1.rows),(95,.int x5.2)] [(0,⟨3,[[.int v1.rows,.int v1.cols,.own 1 0 x5.1.length]]⟩),(1,⟨1,List.map (ow eI) x5.1⟩),(2,⟨3,[[.int 0,.int 0,.nil 1]]⟩),(3,⟨1,List.map (ow eI) x1.2.2⟩)] 4 [4,5,6,7]) (fun r e t=>e= .exit 8∧Ent t (bU [(0,.int a0),(3,.ptr 0 0 0),(4,.ptr 2 0 0),(6,.own 3 0 x1.2.2.length),(7,.int x1.1),(17,.int v1.cols),(18,.int x1.1)] [(0,⟨3,[[.int v1.rows,.int v1.cols,.own 1 0 r.length]]⟩),(1,⟨1,List.map (ow eI) r⟩),(2,⟨3,[[.int 0,.int 0,.nil 1]]⟩),(3,⟨1,List.map (ow eI) x1.2.2⟩)] 4 [4,5,6,7])) (aE (σ:=sg [(0,0),(1,1),(2,2),(3,3)]) ⟨(e1 k k),(pE k k),(pE k k),(oE k k),(e1 k k),(oE k k),(e1 k k),(e1 k k),(e1 k k),(e1 k k),trivial⟩ (hX ⟨_,k,k,.inr ⟨_,_,k,⟨_,_,k,k,⟨_,_,k,k,⟨_,_,k,⟨k,k,k,k⟩,k⟩⟩⟩,k⟩⟩ k<|hI k k k<|hP k k k k<|hI k k k<|trivial) k) ?_ ?_
       ·intro x5 o h
        refine sQ<|rg<|ae (bC k k k) k<|an<|tn<|sQ ?_
        rcases cb h with ⟨q33,h⟩|⟨q33,h⟩
        ·refine aL k q33<|aT<|tn<|sQ<|aN<|sQ<|rg<|am k k<|aa k k<|an ?_
         refine tn<|sQ<|rg<|am k k<|am k k<|ae (bW aA k k k k) k<|ae (bC k k k) k<|an<|tn ?_
         rcases cb h with ⟨q34,h⟩|⟨q34,h⟩
         ·refine aL k q34<|aY jW<|am k k<|ae (aC aA k k k k k k k) k<|am k k ?_
          obtain ⟨v35,hv35,h⟩:=ob h
          refine ae (AEff.pureE (lG (σ:=sg [(0,1)]) (σ':=sg [(1,0)]) (touch:=[1]) (news:=[]) (hl2:=[(1,⟨1,List.map (ow eI) x5.1⟩)]) (n':=4) (r2:= .own 1 (0+(wr (x5.2*v1.cols)).toNat) ((wr ((wr (x5.2+1))*v1.cols)).toNat - (wr (x5.2*v1.cols)).toNat)) (eK (⟨v1.rows,v1.cols,x5.1⟩:Mt) x5.2 v35 hv35) k k ⟨_,_,k,⟨_,_,k,k,⟨_,_,k,k,⟨_,_,k,⟨k,k,k,k⟩,k⟩⟩⟩,⟨_,_,k,k,k⟩⟩ ⟨⟨_,k,k,.inl ⟨k,eD.plainO _⟩⟩,k,trivial⟩ k k k ⟨⟨_,k,k,.inl ⟨k,eD.plainO _⟩⟩,k,trivial⟩ k ⟨k,k,(by simp only [bD,lA,lT,lR,lC,lN]),k⟩ k ⟨k,eD.tame _ _,trivial⟩ k k) ⟨k,k,trivial⟩) k<|am k k<|ae (aC aA k k k k k k k) k<|am k k ?_
          obtain ⟨v36,hv36,h⟩:=ob h
          refine ae (AEff.pureE (lG (σ:=sg [(0,1)]) (σ':=sg [(1,0)]) (touch:=[1]) (news:=[]) (hl2:=[(1,⟨1,List.map (ow eI) x5.1⟩)]) (n':=4) (r2:= .own 1 (0+(wr (x5.2*v1.cols)).toNat) ((wr ((wr (x5.2+1))*v1.cols)).toNat - (wr (x5.2*v1.cols)).toNat)) (eK (⟨v1.rows,v1.cols,x5.1⟩:Mt) x5.2 v36 hv36) k k ⟨_,_,k,⟨_,_,k,k,⟨_,_,k,k,⟨_,_,k,⟨k,k,k,k⟩,k⟩⟩⟩,⟨_,_,k,k,k⟩⟩ ⟨⟨_,k,k,.inl ⟨k,eD.plainO _⟩⟩,k,trivial⟩ k k k ⟨⟨_,k,k,.inl ⟨k,eD.plainO _⟩⟩,k,trivial⟩ k ⟨k,k,(by simp only [bD,lA,lT,lR,lC,lN]),k⟩ k ⟨k,eD.tame _ _,trivial⟩ k k) ⟨k,k,trivial⟩) k<|am k k ?_
          obtain ⟨q38,h⟩:=cg h
          obtain ⟨v37,hv37,h⟩:=ob h
          refine ae (gM aA q38 k k k k k k k) k<|ae (aC aA k k k k (cL (hv37)) k k) k<|ae (iH k k) k<|am k k ?_
          obtain ⟨v39,hv39,h⟩:=ob h
          refine ae (lG (σ:=sg [(0,1)]) (σ':=sg [(1,0)]) (touch:=[1]) (news:=[]) (hl2:=[(1,⟨1,List.map (ow eI) v39⟩)]) (n':=4) (r2:= .own 1 (0+(wr (x5.2*v1.cols)).toNat) ((wr ((wr (x5.2+1))*v1.cols)).toNat - (wr (x5.2*v1.cols)).toNat)) (zJ a0 x5.1 (0+(wr (x5.2*v1.cols)).toNat) ((wr ((wr (x5.2+1))*v1.cols)).toNat - (wr (x5.2*v1.cols)).toNat) (wr (a0 - v37)) (0+(wr (((x1.2.2.length:Nat):Int)*v1.cols)).toNat) ((wr ((wr (((x1.2.2.length:Nat):Int)+1))*v1.cols)).toNat - (wr (((x1.2.2.length:Nat):Int)*v1.cols)).toNat) v39 hv39) k k ⟨_,_,k,k,⟨_,_,k,⟨k,k,k,k⟩,⟨_,_,k,k,⟨_,_,k,⟨k,k,k,k⟩,k⟩⟩⟩⟩ ⟨⟨_,k,k,.inl ⟨k,eD.plainO _⟩⟩,k,trivial⟩ k k k ⟨⟨_,k,k,.inl ⟨k,eD.plainO _⟩⟩,k,trivial⟩ k ⟨k,k,(by simp only [bD,lA,lT,lR,lC,lN]),k⟩ k ⟨k,eD.tame _ _,trivial⟩ k k) k ?_
          obtain ⟨q40,h⟩:=cg h
          refine an ?_
          refine ⟨by kernel_rfl,?_⟩
          refine bE<|tn<|aO (t:=bU [(0,.int a0),(3,.ptr 0 0 0),(4,.ptr 2 0 0),(6,.own 3 0 x1.2.2.length),(7,.int x1.1),(9,.own 1 (0+(wr (((x1.2.2.length:Nat):Int)*v1.cols)).toNat) ((wr ((wr (((x1.2.2.length:Nat):Int)+1))*v1.cols)).toNat - (wr (((x1.2.2.length:Nat):Int)*v1.cols)).toNat)),(17,.int v1.cols),(18,.int x1.1),(94,.int v1.rows),(95,.int x5.2)] [(0,⟨3,[[.int v1.rows,.int v1.cols,.own 1 0 v39.length]]⟩),(1,⟨1,List.map (ow eI) v39⟩),(2,⟨3,[[.int 0,.int 0,.nil 1]]⟩),(3,⟨1,List.map (ow eI) x1.2.2⟩)] 4 [4,5,6,7]) (aE (σ:=sg [(0,0),(1,1),(2,2),(3,3)]) ⟨(e1 k k),(pE k k),(pE k k),(oE k k),(e1 k k),(oE k k),(e1 k k),(e1 k k),(e1 k k),(e1 k k),trivial⟩ (hX ⟨_,k,k,.inr ⟨_,_,k,⟨_,_,k,k,⟨_,_,k,k,⟨_,_,k,⟨k,k,(by simp only [bD,lA,lT,lR,lC,lN,of_decide_eq_true q40]),k⟩,k⟩⟩⟩,k⟩⟩ k<|hI k k k<|hP k k k k<|hI k k k<|trivial) k)<|rg<|ae (bV k k) k<|am k k<|an<|tn ?_
          obtain rfl:=so h
          exact ⟨_,k,(aE (σ:=sg [(0,0),(1,1),(2,2),(3,3)]) ⟨(e1 k k),(pE k k),(pE k k),(oE k k),(e1 k k),(oE k k),(e1 k k),(e1 k k),(e1 k k),(e1 k k),trivial⟩ (hX ⟨_,k,k,.inr ⟨_,_,k,⟨_,_,k,k,⟨_,_,k,k,⟨_,_,k,⟨k,k,k,k⟩,k⟩⟩⟩,k⟩⟩ k<|hI k k k<|hP k k k k<|hI k k k<|trivial) k)⟩
         ·refine aS k q34<|aT<|bE<|tn<|rg<|ae (bV k k) k<|am k k<|an<|tn ?_
          obtain rfl:=so h
          exact ⟨_,k,(aE (σ:=sg [(0,0),(1,1),(2,2),(3,3)]) ⟨(e1 k k),(pE k k),(pE k k),(oE k k),(e1 k k),(oE k k),(e1 k k),(e1 k k),(e1 k k),(e1 k k),trivial⟩ (hX ⟨_,k,k,.inr ⟨_,_,k,⟨_,_,k,k,⟨_,_,k,k,⟨_,_,k,⟨k,k,k,k⟩,k⟩⟩⟩,k⟩⟩ k<|hI k k k<|hP k k k k<|hI k k k<|trivial) k)⟩
        ·refine aS k q33<|bG<|aH<|aH ?_
         obtain rfl:=so h
         exact ⟨_,k,k,(aE (σ:=sg [(0,0),(1,1),(2,2),(3,3)]) ⟨(e1 k k),(pE k k),(pE k k),(oE k k),(e1 k k),(e1 k k),(e1 k k),trivial⟩ (hX ⟨_,k,k,.inr ⟨_,_,k,⟨_,_,k,k,⟨_,_,k,k,⟨_,_,k,⟨k,k,k,k⟩,k⟩⟩⟩,k⟩⟩ k<|hI k k k<|hP k k k k<|hI k k k<|trivial) k)⟩
       ·rintro e t ⟨rfl,hent⟩
        refine aW<|tn<|aO hent<|rg<|am k k<|am k k<|ae (cS aA k k k k k k k k k k k k) k ?_
        obtain ⟨q42,h⟩:=cg h
        refine ae (uN aA (l:=x1.2.2) (m:=[x1.1]) tG q42 k k k k k k k k k k k k) k<|aa k k<|an<|bE<|tn<|rg<|ae (bV k k) k<|am k k<|an<|tn ?_
        obtain rfl:=so h
        exact ⟨_,k,(aE (σ:=sg [(0,0),(1,1),(2,2),(3,5)]) ⟨(e1 k k),(pE k k),(pE k k),(oE k k),(e1 k k),(e1 k k),trivial⟩ (hX ⟨_,k,k,.inr ⟨_,_,k,⟨_,_,k,k,⟨_,_,k,k,⟨_,_,k,⟨k,k,k,k⟩,k⟩⟩⟩,k⟩⟩ k<|hI k k k<|hP k k k k<|hI k k k<|trivial) k)⟩
  ·refine aS k q2<|bG<|aH<|aH ?_
   obtain rfl:=so h
   exact ⟨_,k,k,(aE (σ:=sg [(0,0),(1,1),(2,2),(3,3)]) ⟨(pE k k),(pE k k),(oE k k),trivial⟩ (hX ⟨_,k,k,.inr ⟨_,_,k,⟨_,_,k,k,⟨_,_,k,k,⟨_,_,k,⟨k,k,k,k⟩,k⟩⟩⟩,k⟩⟩ k<|hI k k k<|hP k k k k<|hI k k k<|trivial) k)⟩
 ·rintro e t ⟨rfl,hent⟩
  refine aW<|tn<|aO hent<|sQ<|rg<|ae (aC aA k k k k k k k) k<|am k k<|ae (bP aA k k k k k k k k) k<|aa k k<|an ?_
  refine tn<|aP ?_
  obtain rfl:=so h
  exact aU k k k (gH k (dU (yP (cD (k) (cD (k) (cD (iQ eD k k) gZ)))) (dU (xC (iQ eD k k)) mD)))
def gB (a0:(List (List Int))) (x1:(Int×Int)):Option ((Int×Int) ⊕ Int):=
 bif decide (x1.2<(a0.length:Int)) then
 (Option.bind (dV a0 x1.2) fun v2=>
 bif decide (wr (x1.1+(v2.length:Int))<0) then
 (none)
 else
 (some (.inl (wr (x1.1+(v2.length:Int)),wr (x1.2+1)))))
 else
 (some (.inr x1.1))
def gC (a0:(List (List Int))) (x2:((List Int)×Int)):Option (((List Int)×Int) ⊕ (List Int)):=
 bif decide (x2.2<(a0.length:Int)) then
 (Option.bind (dV a0 x2.2) fun v7=>
 bif decide (x2.1.length+v7.length≤4294967296) then
 (some (.inl ((x2.1++v7),wr (x2.2+1))))
 else none)
 else
 (some (.inr x2.1))
def gW (a0:(List (List Int))):Option (List Int):=
 Option.bind (Lp (gB a0) (0,0)) fun y4=>
 Option.bind (aLa y4) fun v5=>
 Option.bind (Lp (gC a0) (v5,0)) fun y9=>
 some (y9)
theorem yU (a0:(List (List Int))) (r:(List Int)) (h:gW a0=some r):HasC Tryz.prog 271 [.list 1 (List.map (dA 1 eI) a0)] (.list 1 (List.map eI r)):=by
 refine bK aA (rvs:=[.tmp 2]) (ns:=[0,1,2,3]) Tryz.func271 k k Tryz.ntmps271 k k k<|sQ<|rg<|aa k k<|an<|tn<|sQ<|rg<|aa k k<|an ?_
 refine tn<|sQ<|sQ<|rg<|am k k<|ae (dD aA k k k) k<|am k k<|an<|tn<|aN ?_
 obtain ⟨y4,hy4,h⟩:=ob h
 refine cU (body:=(gB a0)) hy4 (fun (x1:(Int×Int))=>bU [(0,.list 1 (List.map (dA 1 eI) a0)),(3,.int x1.1),(9,.list 1 (List.map (dA 1 eI) a0)),(10,.int (a0.length:Int)),(11,.int x1.2)] [] 0 [0,1,2,3]) (fun r e t=>e= .exit 0∧Ent t (bU [(0,.list 1 (List.map (dA 1 eI) a0)),(3,.int r)] [] 0 [0,1,2,3])) (aE (σ:=sg []) ⟨⟨_,k,⟨k,k⟩⟩,(e1 k k),⟨_,k,⟨k,k⟩⟩,(e1 k k),(e1 k k),trivial⟩ trivial k) ?_ ?_
 ·intro x1 o h
  refine sQ<|rg<|ae (bC k k k) k<|an<|tn<|sQ ?_
  rcases cb h with ⟨q1,h⟩|⟨q1,h⟩
  ·refine aL k q1<|aT<|tn<|sQ<|aN<|sQ<|rg ?_
   obtain ⟨v2,hv2,h⟩:=ob h
   refine ae (bH aA hv2 k k k k k k) k<|ae (aV aA k k k k k k) k<|aa k k<|an<|tn<|sQ<|rg<|am k k<|am k k<|ae (dD aA k k k) k ?_
   refine ae (bV k k) k<|aa k k<|an<|tn<|sQ<|rg<|am k k<|ae (bC k k k) k<|an<|tn ?_
   rcases cb h with ⟨q3,h⟩|⟨q3,h⟩
   ·refine aL k q3<|rg ?_
    cases h
   ·refine aS k q3<|aT<|bE<|tn<|rg<|ae (bV k k) k<|am k k<|an<|tn ?_
    obtain rfl:=so h
    exact ⟨_,k,(aE (σ:=sg []) ⟨⟨_,k,⟨k,k⟩⟩,(e1 k k),⟨_,k,⟨k,k⟩⟩,(e1 k k),(e1 k k),trivial⟩ trivial k)⟩
  ·refine aS k q1<|bG<|aH<|aH ?_
   obtain rfl:=so h
   exact ⟨_,k,k,(aE (σ:=sg []) ⟨⟨_,k,⟨k,k⟩⟩,(e1 k k),trivial⟩ trivial k)⟩
 ·rintro e t ⟨rfl,hent⟩
  refine aW<|tn<|aO hent<|sQ<|rg<|am k k ?_
  obtain ⟨v5,hv5,h⟩:=ob h
  refine ae (AEff.conv (cR (x:= .own 0 0 (List.map eI v5).length) (nb:=[(0,⟨1,cX (List.map eI v5)⟩)]) (aQe y4 v5 hv5) k (by rfl) k k (eD.good _) (aG aPj (aG (aI k) bA))) (v':= .own 0 0 v5.length) (ed':=[(0,some ⟨1,List.map (ow eI) v5⟩)]) (by simp only [bD]) (eJ (nb':=[(0,⟨1,List.map (ow eI) v5⟩)]) (by simp only [cT]))) k<|aa k k<|an<|tn<|sQ<|sQ<|rg<|am k k<|ae (dD aA k k k) k<|am k k ?_
  refine an<|tn<|aN ?_
  obtain ⟨y9,hy9,h⟩:=ob h
  refine cU (body:=(gC a0)) hy9 (fun (x2:((List Int)×Int))=>bU [(6,.own 0 0 x2.1.length),(25,.list 1 (List.map (dA 1 eI) a0)),(26,.int (a0.length:Int)),(27,.int x2.2)] [(0,⟨1,List.map (ow eI) x2.1⟩)] 1 [1,2,3]) (fun r e t=>e= .exit 2∧Ent t (bU [(6,.own 0 0 r.length)] [(0,⟨1,List.map (ow eI) r⟩)] 1 [1,2,3])) (aE (σ:=sg [(0,0)]) ⟨(oE k k),⟨_,k,⟨k,k⟩⟩,(e1 k k),(e1 k k),trivial⟩ (hI k k k<|trivial) k) ?_ ?_
  ·intro x2 o h
   refine sQ<|rg<|ae (bC k k k) k<|an<|tn<|sQ ?_
   rcases cb h with ⟨q6,h⟩|⟨q6,h⟩
   ·refine aL k q6<|aT<|tn<|sQ<|aN<|sQ<|rg ?_
    obtain ⟨v7,hv7,h⟩:=ob h
    refine ae (bH aA hv7 k k k k k k) k<|ae (aV aA k k k k k k) k<|aa k k<|an<|tn<|rg<|am k k<|am k k ?_
    obtain ⟨q8,h⟩:=cg h
    refine ae (uN aA (l:=x2.1) (m:=v7) tG q8 k k k k k k k k k k k k) k<|aa k k<|an<|bE<|tn<|rg<|ae (bV k k) k<|am k k<|an<|tn ?_
    obtain rfl:=so h
    exact ⟨_,k,(aE (σ:=sg [(0,1)]) ⟨(oE k k),⟨_,k,⟨k,k⟩⟩,(e1 k k),(e1 k k),trivial⟩ (hI k k k<|trivial) k)⟩
   ·refine aS k q6<|bG<|aH<|aH ?_
    obtain rfl:=so h
    exact ⟨_,k,k,(aE (σ:=sg [(0,0)]) ⟨(oE k k),trivial⟩ (hI k k k<|trivial) k)⟩
  ·rintro e t ⟨rfl,hent⟩
   refine aW<|tn<|aO hent<|sQ<|rg<|am k k<|aa k k<|an<|tn<|aP ?_
   obtain rfl:=so h
   exact aU k k k (mB (iQ eD k k))
end
noncomputable section
set_option maxRecDepth 10000
set_option maxHeartbeats 4000000
def kO (a0:(List Int)) (a1:Int):Option Int:=
 bif decide (wr (a1 - (a0.length:Int))<0) then
 (some ((-1)))
 else
 (some (wr (a1 - (a0.length:Int))))
theorem vJ (a0:(List Int)) (a1:Int) (r:Int) (h:kO a0 a1=some r):HasC Tryz.prog 53 [.list 1 (List.map eI a0),.int a1] (.int r):=by
 refine bK aA (rvs:=[.tmp 4]) (ns:=[0,1]) Tryz.func53 k k Tryz.ntmps53 k k k<|sQ<|rg<|aa k k<|an<|tn<|sQ<|rg<|am k k<|am k k ?_
 refine ae (dD aA k k k) k<|ae (iH k k) k<|aa k k<|an<|tn<|sQ<|sQ<|rg<|am k k<|ae (bC k k k) k ?_
 refine an<|tn ?_
 rcases cb h with ⟨q1,h⟩|⟨q1,h⟩
 ·refine aL k q1<|sQ<|rg<|aa k k<|an<|tn<|aP<|aK ?_
  obtain rfl:=so h
  exact aU k k k (cJ k)
 ·refine aS k q1<|aT<|tn<|sQ<|rg<|am k k<|aa k k<|an<|tn<|aP ?_
  obtain rfl:=so h
  exact aU k k k (cJ k)
def vV (a0:Qv) (a1:Int):Option Int:=
 Option.bind (kO a0.src a1) fun v1=>
 bif decide (v1<0) then
 (some ((-1)))
 else
 (Option.bind (kO a0.tgt v1) fun v3=>
 bif decide (v3<0) then
 (some ((-1)))
 else
 (some (v3)))
theorem aFN (a0:Qv) (a1:Int) (r:Int) (h:vV a0 a1=some r):HasC Tryz.prog 52 [.agg (eQ a0),.int a1] (.int r):=by
 refine bK aA (rvs:=[.tmp 4]) (ns:=[0,1,2]) Tryz.func52 k k Tryz.ntmps52 k k k<|sQ<|rg<|ae (cC k k k k) k<|aa k k<|an<|tn<|sQ<|rg<|ae (aD aA k k k k k k k) k ?_
 refine ae (aC aA k k k k k k k) k<|am k k ?_
 obtain ⟨v1,hv1,h⟩:=ob h
 refine ae (aZ (vJ a0.src a1 v1 hv1) k (aG (aI k) (aG (aI k) bA))) k<|aa k k<|an<|tn<|sQ<|sQ<|rg<|am k k<|ae (bC k k k) k<|an ?_
 refine tn ?_
 rcases cb h with ⟨q2,h⟩|⟨q2,h⟩
 ·refine aL k q2<|sQ<|rg<|aa k k<|an<|tn<|aP<|aK ?_
  obtain rfl:=so h
  exact aU k k k (cJ k)
 ·refine aS k q2<|aT<|tn<|sQ<|rg<|ae (aD aA k k k k k k k) k<|ae (aC aA k k k k k k k) k<|am k k ?_
  obtain ⟨v3,hv3,h⟩:=ob h
  refine ae (aZ (vJ a0.tgt v1 v3 hv3) k (aG (aI k) (aG (aI k) bA))) k<|aa k k<|an<|tn<|aO (t:=bU [(1,.int v3)] [] 1 [1,2]) (aE (σ:=sg []) ⟨(e1 k k),trivial⟩ trivial k)<|sQ<|sQ<|rg<|am k k<|ae (bC k k k) k ?_
  refine an<|tn ?_
  rcases cb h with ⟨q4,h⟩|⟨q4,h⟩
  ·refine aL k q4<|sQ<|rg<|aa k k<|an<|tn<|aP<|aK ?_
   obtain rfl:=so h
   exact aU k k k (cJ k)
  ·refine aS k q4<|aT<|tn<|sQ<|rg<|am k k<|aa k k<|an<|tn<|aP ?_
   obtain rfl:=so h
   exact aU k k k (cJ k)
def vW (a0:Mt) (a1:Int):Option Int:=
 Option.bind (kO a0.cells a1) fun v1=>
 bif decide (v1<0) then
 (some ((-1)))
 else
 (some (v1))
theorem aFO (a0:Mt) (a1:Int) (r:Int) (h:vW a0 a1=some r):HasC Tryz.prog 109 [.agg (eM a0),.int a1] (.int r):=by
 refine bK aA (rvs:=[.tmp 4]) (ns:=[0,1,2]) Tryz.func109 k k Tryz.ntmps109 k k k<|sQ<|rg<|ae (cC k k k k) k<|aa k k<|an<|tn<|sQ<|rg<|ae (aD aA k k k k k k k) k ?_
 refine ae (aC aA k k k k k k k) k<|am k k ?_
 obtain ⟨v1,hv1,h⟩:=ob h
 refine ae (aZ (vJ a0.cells a1 v1 hv1) k (aG (aI k) (aG (aI k) bA))) k<|aa k k<|an<|tn<|sQ<|sQ<|rg<|am k k<|ae (bC k k k) k<|an ?_
 refine tn ?_
 rcases cb h with ⟨q2,h⟩|⟨q2,h⟩
 ·refine aL k q2<|sQ<|rg<|aa k k<|an<|tn<|aP<|aK ?_
  obtain rfl:=so h
  exact aU k k k (cJ k)
 ·refine aS k q2<|aT<|tn<|sQ<|rg<|am k k<|aa k k<|an<|tn<|aP ?_
  obtain rfl:=so h
  exact aU k k k (cJ k)
def kX (a0:(List Mt)) (x1:(Int×Int)):Option ((Int×Int) ⊕ (Int ⊕ Int)):=
 bif decide (x1.2<(a0.length:Int)) then
 (Option.bind (dV a0 x1.2) fun v3=>
 Option.bind (vW v3 x1.1) fun v4=>
 bif decide (v4<0) then
 (some (.inr (.inr ((-1)))))
 else
 (some (.inl (v4,wr (x1.2+1)))))
 else
 (some (.inr (.inl x1.1)))
def qC (a0:(List Mt)) (a1:Int):Option Int:=
 bif decide (wr (a1 - (a0.length:Int))<0) then
 (some ((-1)))
 else
 (Option.bind (Lp (kX a0) (wr (a1 - (a0.length:Int)),0)) fun y6=>
 Sum.elim (fun y7=>
 some (y7)
 )
 (fun y8=>
 some y8
 )
 y6)
theorem aEJ (a0:(List Mt)) (a1:Int) (r:Int) (h:qC a0 a1=some r):HasC Tryz.prog 54 [.list 3 (List.map eM a0),.int a1] (.int r):=by
 refine bK aA (rvs:=[.tmp 4]) (ns:=[0,1]) Tryz.func54 k k Tryz.ntmps54 k k k<|sQ<|rg<|aa k k<|an<|tn<|sQ<|rg<|am k k<|am k k ?_
 refine ae (dD aA k k k) k<|ae (iH k k) k<|aa k k<|an<|tn<|sQ<|sQ<|rg<|am k k<|ae (bC k k k) k ?_
 refine an<|tn ?_
 rcases cb h with ⟨q1,h⟩|⟨q1,h⟩
 ·refine aL k q1<|sQ<|rg<|aa k k<|an<|tn<|aP<|aK ?_
  obtain rfl:=so h
  exact aU k k k (cJ k)
 ·refine aS k q1<|aT<|tn<|sQ<|sQ<|rg<|aa k k<|an<|tn<|aN ?_
  obtain ⟨y6,hy6,h⟩:=ob h
  refine cU (body:=(kX a0)) hy6 (fun (x1:(Int×Int))=>bU [(0,.list 3 (List.map eM a0)),(1,.int x1.1),(5,.int x1.2)] [] 0 [0,1]) (fun r e t=>Sum.elim (fun a=>(fun r e t=>e= .exit 0∧Ent t (bU [(1,.int r)] [] 0 [0,1])) a e t) (fun b=>(fun r e t=>e= .ret∧sA TT [.tmp 4] (.int r) .ret t) b e t) r) (aE (σ:=sg []) ⟨⟨_,k,⟨k,k⟩⟩,(e1 k k),(e1 k k),trivial⟩ trivial k) ?_ ?_
  ·intro x1 o h
   refine sQ<|sQ<|rg<|am k k<|am k k<|ae (dD aA k k k) k<|ae (bC k k k) k<|an<|tn ?_
   rcases cb h with ⟨q2,h⟩|⟨q2,h⟩
   ·refine aL k q2<|aT<|tn<|sQ<|aN<|sQ<|rg<|am k k<|am k k ?_
    obtain ⟨v3,hv3,h⟩:=ob h
    refine ae (bH aA hv3 k k k k k k) k<|ae (aV aA k k k k k k) k<|am k k ?_
    obtain ⟨v4,hv4,h⟩:=ob h
    refine ae (aZ (aFO v3 x1.1 v4 hv4) k (aG (cA (aM (aQ k) (aM (aQ k) (aM (aQ k) cF)))) (aG (aI k) bA))) k<|aa k k<|an<|tn<|sQ<|rg<|am k k<|ae (bC k k k) k<|an<|tn ?_
    refine aO (t:=bU [(0,.list 3 (List.map eM a0)),(1,.int v4),(5,.int x1.2),(25,.bl (decide (v4<0)))] [] 0 [0,1]) (aE (σ:=sg []) ⟨⟨_,k,⟨k,k⟩⟩,(e1 k k),(e1 k k),(e1 k k),trivial⟩ trivial k) ?_
    rcases cb h with ⟨q5,h⟩|⟨q5,h⟩
    ·refine aL k q5<|sQ<|rg<|aa k k<|an<|tn<|aP<|bB<|aK<|aK ?_
     obtain rfl:=so h
     exact ⟨_,k,k,aU k k k (cJ k)⟩
    ·refine aS k q5<|aT<|bE<|tn<|rg<|am k k<|ae (bV k k) k<|aa k k<|an<|tn ?_
     obtain rfl:=so h
     exact ⟨_,k,(aE (σ:=sg []) ⟨⟨_,k,⟨k,k⟩⟩,(e1 k k),(e1 k k),trivial⟩ trivial k)⟩
   ·refine aS k q2<|bG<|aH<|aH ?_
    obtain rfl:=so h
    exact ⟨_,k,k,(aE (σ:=sg []) ⟨(e1 k k),trivial⟩ trivial k)⟩
  ·intro e t hX
   rcases y6 with y7|y8
   ·obtain ⟨rfl,hent⟩:=hX
    refine aW<|tn<|aO hent<|sQ<|rg<|am k k<|aa k k<|an<|tn<|aP ?_
    obtain rfl:=so h
    exact aU k k k (cJ k)
   ·obtain ⟨rfl,hent⟩:=hX
    refine bB<|aK ?_
    obtain rfl:=so h
    exact hent
def wM (a0:Rp) (a1:Int):Option Int:=
 Option.bind (vV a0.q a1) fun v1=>
 bif decide (v1<0) then
 (some ((-1)))
 else
 (Option.bind (kO a0.dims v1) fun v3=>
 bif decide (v3<0) then
 (some ((-1)))
 else
 (Option.bind (qC a0.maps v3) fun v5=>
 bif decide (v5<0) then
 (some ((-1)))
 else
 (some (v5))))
theorem aJE (a0:Rp) (a1:Int) (r:Int) (h:wM a0 a1=some r):HasC Tryz.prog 13 [.agg (eR a0),.int a1] (.int r):=by
 refine bK aA (rvs:=[.tmp 4]) (ns:=[0,1,2]) Tryz.func13 k k Tryz.ntmps13 k k k<|sQ<|rg<|ae (cC k k k k) k<|aa k k<|an<|tn<|sQ<|rg<|ae (aD aA k k k k k k k) k ?_
 refine ae (aC aA k k k k k k k) k<|am k k ?_
 obtain ⟨v1,hv1,h⟩:=ob h
 refine ae (aZ (aFN a0.q a1 v1 hv1) k (aG (cA (aM (aQ k) (aM (aQ k) (aM (aQ k) cF)))) (aG (aI k) bA))) k<|aa k k<|an<|tn<|sQ<|sQ<|rg<|am k k<|ae (bC k k k) k<|an ?_
 refine tn ?_
 rcases cb h with ⟨q2,h⟩|⟨q2,h⟩
 ·refine aL k q2<|sQ<|rg<|aa k k<|an<|tn<|aP<|aK ?_
  obtain rfl:=so h
  exact aU k k k (cJ k)
 ·refine aS k q2<|aT<|tn<|sQ<|rg<|ae (aD aA k k k k k k k) k<|ae (aC aA k k k k k k k) k<|am k k ?_
  obtain ⟨v3,hv3,h⟩:=ob h
  refine ae (aZ (vJ a0.dims v1 v3 hv3) k (aG (aI k) (aG (aI k) bA))) k<|aa k k<|an<|tn<|aO (t:=bU [(1,.int v3),(2,.ptr 0 0 0)] [(0,⟨6,[[.int a0.p,.int a0.q.n,.list 1 (List.map eI a0.q.src),.list 1 (List.map eI a0.q.tgt),.list 1 (List.map eI a0.dims),.list 3 (List.map eM a0.maps)]]⟩)] 1 [1,2]) (aE (σ:=sg [(0,0)]) ⟨(e1 k k),(pE k k),trivial⟩ (hP k k k k<|trivial) k)<|sQ<|sQ<|rg<|am k k<|ae (bC k k k) k ?_
  refine an<|tn ?_
  rcases cb h with ⟨q4,h⟩|⟨q4,h⟩
  ·refine aL k q4<|sQ<|rg<|aa k k<|an<|tn<|aP<|aK ?_
   obtain rfl:=so h
   exact aU k k k (cJ k)
  ·refine aS k q4<|aT<|tn<|sQ<|rg<|ae (aD aA k k k k k k k) k<|ae (aC aA k k k k k k k) k<|am k k ?_
   obtain ⟨v5,hv5,h⟩:=ob h
   refine ae (aZ (aEJ a0.maps v3 v5 hv5) k (aG (aI k) (aG (aI k) bA))) k<|aa k k<|an<|tn<|sQ<|sQ<|rg<|am k k<|ae (bC k k k) k<|an ?_
   refine tn ?_
   rcases cb h with ⟨q6,h⟩|⟨q6,h⟩
   ·refine aL k q6<|sQ<|rg<|aa k k<|an<|tn<|aP<|aK ?_
    obtain rfl:=so h
    exact aU k k k (cJ k)
   ·refine aS k q6<|aT<|tn<|sQ<|rg<|am k k<|aa k k<|an<|tn<|aP ?_
    obtain rfl:=so h
    exact aU k k k (cJ k)
def qD (a0:(List Int)) (x1:((List Int)×Int)):Option (((List Int)×Int) ⊕ (List Int)):=
 bif decide (x1.2<(a0.length:Int)) then
 (Option.bind (dV a0 x1.2) fun v2=>
 Option.bind (dV x1.1 x1.2) fun v3=>
 some (.inl ((x1.1.set x1.2.toNat v2),wr (x1.2+1))))
 else
 (some (.inr x1.1))
def fC (a0:(List Int)):Option (List Int):=
 bif (decide (0≤(a0.length:Int))&&decide ((a0.length:Int)≤1048576)) then
 (Option.bind (Lp (qD a0) ((List.replicate ((a0.length:Int).toNat) (0:Int)),0)) fun y4=>
 some (y4))
 else none
theorem kP (a0:(List Int)) (r:(List Int)) (h:fC a0=some r):HasC Tryz.prog 23 [.list 1 (List.map eI a0)] (.list 1 (List.map eI r)):=by
 refine bK aA (rvs:=[.tmp 2]) (ns:=[0,1,2]) Tryz.func23 k k Tryz.ntmps23 k k k<|sQ<|rg<|aa k k<|an<|tn<|sQ<|rg<|am k k<|ae (dD aA k k k) k ?_
 obtain ⟨q5,h⟩:=cg h
 refine ae (aAJ aA q5 k k k k k k k k) k<|aa k k<|an<|tn<|aO (t:=bU [(0,.list 1 (List.map eI a0)),(3,.own 0 0 ((List.replicate ((a0.length:Int).toNat) (0:Int)).length))] [(0,⟨1,List.map (ow eI) (List.replicate ((a0.length:Int).toNat) (0:Int))⟩)] 1 [1,2]) (aE (σ:=sg [(0,0)]) ⟨⟨_,k,⟨k,k⟩⟩,⟨_,k,⟨k,k,(by simp only [bD,lA,lT,lR,lC,lN]),k⟩⟩,trivial⟩ (hX ⟨_,k,k,.inl ⟨aAn (e:=eI) (z:=0) _,eD.plainO _⟩⟩ k<|trivial) k)<|sQ<|sQ<|rg<|aa k k<|an ?_
 refine tn<|aN ?_
 obtain ⟨y4,hy4,h⟩:=ob h
 refine cU (body:=(qD a0)) hy4 (fun (x1:((List Int)×Int))=>bU [(0,.list 1 (List.map eI a0)),(3,.own 0 0 x1.1.length),(4,.int x1.2)] [(0,⟨1,List.map (ow eI) x1.1⟩)] 1 [1,2]) (fun r e t=>e= .exit 0∧Ent t (bU [(3,.own 0 0 r.length)] [(0,⟨1,List.map (ow eI) r⟩)] 1 [1,2])) (aE (σ:=sg [(0,0)]) ⟨⟨_,k,⟨k,k⟩⟩,(oE k k),(e1 k k),trivial⟩ (hI k k k<|trivial) k) ?_ ?_
 ·intro x1 o h
  refine sQ<|sQ<|rg<|am k k<|am k k<|ae (dD aA k k k) k<|ae (bC k k k) k<|an<|tn ?_
  rcases cb h with ⟨q1,h⟩|⟨q1,h⟩
  ·refine aL k q1<|aT<|tn<|sQ<|aN<|rg<|am k k<|am k k<|am k k<|am k k ?_
   obtain ⟨v2,hv2,h⟩:=ob h
   refine ae (bH aA hv2 k k k k k k) k<|ae (aV aA k k k k k k) k ?_
   obtain ⟨v3,hv3,h⟩:=ob h
   refine ae (cY aA (eU hv3) (eV hv3) k k k k k k k) k<|ae (iI aA tG (u:=v2) (dO hv3) k k k k k k) k<|an<|bE<|tn<|aO (t:=bU [(0,.list 1 (List.map eI a0)),(3,.own 0 0 ((x1.1.set x1.2.toNat v2).length)),(4,.int x1.2)] [(0,⟨1,List.map (ow eI) (x1.1.set x1.2.toNat v2)⟩)] 1 [1,2]) (aE (σ:=sg [(0,0)]) ⟨⟨_,k,⟨k,k⟩⟩,⟨_,k,⟨k,k,(by simp only [bD,lA,lT,lR,lC,lN]),k⟩⟩,(e1 k k),trivial⟩ (hI k k k<|trivial) k)<|rg<|am k k<|ae (bV k k) k<|aa k k ?_
   refine an<|tn ?_
   obtain rfl:=so h
   exact ⟨_,k,(aE (σ:=sg [(0,0)]) ⟨⟨_,k,⟨k,k⟩⟩,(oE k k),(e1 k k),trivial⟩ (hI k k k<|trivial) k)⟩
  ·refine aS k q1<|bG<|aH<|aH ?_
   obtain rfl:=so h
   exact ⟨_,k,k,(aE (σ:=sg [(0,0)]) ⟨(oE k k),trivial⟩ (hI k k k<|trivial) k)⟩
 ·rintro e t ⟨rfl,hent⟩
  refine aW<|tn<|aO hent<|sQ<|rg<|am k k<|aa k k<|an<|tn<|aP ?_
  obtain rfl:=so h
  exact aU k k k (mB (iQ eD k k))
def rG (a0:Qv):Option Qv:=
 Option.bind (fC a0.src) fun v1=>
 Option.bind (fC a0.tgt) fun v2=>
 some ((⟨a0.n,v1,v2⟩:Qv))
theorem aFP (a0:Qv) (r:Qv) (h:rG a0=some r):HasC Tryz.prog 59 [.agg (eQ a0)] (.agg (eQ r)):=by
 refine bK aA (rvs:=[.cell 2 29]) (ns:=[0,1,2,3,4,5,6]) Tryz.func59 k k Tryz.ntmps59 k k k<|sQ<|rg<|ae (cC k k k k) k<|ae (bX aA k k) k<|an<|tn<|sQ<|rg<|ae (bX aA k k) k ?_
 refine an<|tn<|sQ<|rg<|ae (aD aA k k k k k k k) k<|ae (aC aA k k k k k k k) k<|ae (aD aA k k k k k k k) k<|ae (bP aA k k k k k k k k) k<|an<|tn ?_
 refine sQ<|rg<|ae (aD aA k k k k k k k) k<|ae (aC aA k k k k k k k) k ?_
 obtain ⟨v1,hv1,h⟩:=ob h
 refine ae (AEff.conv (cR (x:= .own 3 0 (List.map eI v1).length) (nb:=[(3,⟨1,cX (List.map eI v1)⟩)]) (kP a0.src v1 hv1) k (by rfl) k k (eD.good _) (aG (aI k) bA)) (v':= .own 3 0 v1.length) (ed':=[(3,some ⟨1,List.map (ow eI) v1⟩)]) (by simp only [bD]) (eJ (nb':=[(3,⟨1,List.map (ow eI) v1⟩)]) (by simp only [cT]))) k<|ae (aD aA k k k k k k k) k<|ae (bP aA k k k k k k k k) k<|an<|tn<|aO (t:=bU [(1,.ptr 0 0 0),(2,.ptr 1 0 0),(3,.ptr 2 0 0)] [(0,⟨3,[[.int a0.n,.list 1 (List.map eI a0.src),.list 1 (List.map eI a0.tgt)]]⟩),(1,⟨3,[[.int 0,.nil 1,.nil 1]]⟩),(2,⟨3,[[.int a0.n,.own 3 0 v1.length,.nil 1]]⟩),(3,⟨1,List.map (ow eI) v1⟩)] 4 [4,5,6]) (aE (σ:=sg [(0,0),(1,1),(2,2),(3,3)]) ⟨(pE k k),(pE k k),(pE k k),trivial⟩ (hP k k k k<|hP k k k k<|hX ⟨_,k,k,.inr ⟨_,_,k,⟨_,_,k,k,⟨_,_,k,⟨k,k,k,k⟩,⟨_,_,k,trivial,k⟩⟩⟩,k⟩⟩ k<|hI k k k<|trivial) k)<|sQ<|rg<|ae (aD aA k k k k k k k) k<|ae (aC aA k k k k k k k) k ?_
 obtain ⟨v2,hv2,h⟩:=ob h
 refine ae (AEff.conv (cR (x:= .own 4 0 (List.map eI v2).length) (nb:=[(4,⟨1,cX (List.map eI v2)⟩)]) (kP a0.tgt v2 hv2) k (by rfl) k k (eD.good _) (aG (aI k) bA)) (v':= .own 4 0 v2.length) (ed':=[(4,some ⟨1,List.map (ow eI) v2⟩)]) (by simp only [bD]) (eJ (nb':=[(4,⟨1,List.map (ow eI) v2⟩)]) (by simp only [cT]))) k<|ae (aD aA k k k k k k k) k<|ae (bP aA k k k k k k k k) k<|an<|tn<|sQ<|rg<|ae (aC aA k k k k k k k) k<|ae (bP aA k k k k k k k k) k<|an ?_
 refine tn<|aP ?_
 obtain rfl:=so h
 exact aU k k k (qN (cD (k) (cD (iQ eD k k) (cD (iQ eD k k) gZ))))
def rH (a0:Mt):Option Mt:=
 Option.bind (fC a0.cells) fun v1=>
 some ((⟨a0.rows,a0.cols,v1⟩:Mt))
theorem aFQ (a0:Mt) (r:Mt) (h:rH a0=some r):HasC Tryz.prog 116 [.agg (eM a0)] (.agg (eM r)):=by
 refine bK aA (rvs:=[.cell 2 113]) (ns:=[0,1,2,3,4,5]) Tryz.func116 k k Tryz.ntmps116 k k k<|sQ<|rg<|ae (cC k k k k) k<|ae (bX aA k k) k<|an<|tn<|sQ<|rg<|ae (bX aA k k) k ?_
 refine an<|tn<|sQ<|rg<|ae (aD aA k k k k k k k) k<|ae (aC aA k k k k k k k) k<|ae (aD aA k k k k k k k) k<|ae (bP aA k k k k k k k k) k<|an<|tn ?_
 refine sQ<|rg<|ae (aD aA k k k k k k k) k<|ae (aC aA k k k k k k k) k<|ae (aD aA k k k k k k k) k<|ae (bP aA k k k k k k k k) k<|an<|tn<|sQ<|rg ?_
 refine ae (aD aA k k k k k k k) k<|ae (aC aA k k k k k k k) k ?_
 obtain ⟨v1,hv1,h⟩:=ob h
 refine ae (AEff.conv (cR (x:= .own 3 0 (List.map eI v1).length) (nb:=[(3,⟨1,cX (List.map eI v1)⟩)]) (kP a0.cells v1 hv1) k (by rfl) k k (eD.good _) (aG (aI k) bA)) (v':= .own 3 0 v1.length) (ed':=[(3,some ⟨1,List.map (ow eI) v1⟩)]) (by simp only [bD]) (eJ (nb':=[(3,⟨1,List.map (ow eI) v1⟩)]) (by simp only [cT]))) k<|ae (aD aA k k k k k k k) k<|ae (bP aA k k k k k k k k) k<|an<|tn<|aO (t:=bU [(2,.ptr 1 0 0),(3,.ptr 2 0 0)] [(1,⟨3,[[.int 0,.int 0,.nil 1]]⟩),(2,⟨3,[[.int a0.rows,.int a0.cols,.own 3 0 v1.length]]⟩),(3,⟨1,List.map (ow eI) v1⟩)] 4 [4,5]) (aE (σ:=sg [(1,1),(2,2),(3,3)]) ⟨(pE k k),(pE k k),trivial⟩ (hP k k k k<|hX ⟨_,k,k,.inr ⟨_,_,k,⟨_,_,k,k,⟨_,_,k,k,⟨_,_,k,⟨k,k,k,k⟩,k⟩⟩⟩,k⟩⟩ k<|hI k k k<|trivial) k)<|sQ<|rg<|ae (aC aA k k k k k k k) k<|ae (bP aA k k k k k k k k) k ?_
 refine an<|tn<|aP ?_
 obtain rfl:=so h
 exact aU k k k (qN (cD (k) (cD (k) (cD (iQ eD k k) gZ))))
def kY (a0:(List Mt)) (x1:((List Mt)×Int)):Option (((List Mt)×Int) ⊕ (List Mt)):=
 bif decide (x1.2<(a0.length:Int)) then
 (Option.bind (dV a0 x1.2) fun v2=>
 Option.bind (rH v2) fun v3=>
 Option.bind (dV x1.1 x1.2) fun v4=>
 some (.inl ((x1.1.set x1.2.toNat v3),wr (x1.2+1))))
 else
 (some (.inr x1.1))
def qE (a0:(List Mt)):Option (List Mt):=
 bif (decide (0≤(a0.length:Int))&&decide ((a0.length:Int)≤1048576)) then
 (Option.bind (Lp (kY a0) ((List.replicate ((a0.length:Int).toNat) ((⟨0,0,[]⟩:Mt):Mt)),0)) fun y5=>
 some (y5))
 else none
theorem aEK (a0:(List Mt)) (r:(List Mt)) (h:qE a0=some r):HasC Tryz.prog 60 [.list 3 (List.map eM a0)] (.list 3 (List.map eM r)):=by
 refine bK aA (rvs:=[.tmp 2]) (ns:=[0,1,2,3]) Tryz.func60 k k Tryz.ntmps60 k k k<|sQ<|rg<|aa k k<|an<|tn<|sQ<|rg<|am k k<|ae (dD aA k k k) k ?_
 obtain ⟨q6,h⟩:=cg h
 refine ae (aAJ aA q6 k k k k k k k k) k<|aa k k<|an<|tn<|aO (t:=bU [(0,.list 3 (List.map eM a0)),(3,.own 0 0 ((List.replicate ((a0.length:Int).toNat) ((⟨0,0,[]⟩:Mt):Mt)).length))] [(0,⟨3,List.map (ow eM) (List.replicate ((a0.length:Int).toNat) ((⟨0,0,[]⟩:Mt):Mt))⟩)] 1 [1,2,3]) (aE (σ:=sg [(0,0)]) ⟨⟨_,k,⟨k,k⟩⟩,⟨_,k,⟨k,k,(by simp only [bD,lA,lT,lR,lC,lN]),k⟩⟩,trivial⟩ (hX ⟨_,k,k,.inr (aLb (e:=eM) (z:=(⟨0,0,[]⟩:Mt)) (zc:=[.int 0,.int 0,.nil 1]) ⟨_,_,k,k,⟨_,_,k,k,⟨_,_,k,k,k⟩⟩⟩ _)⟩ k<|trivial) k)<|sQ<|sQ<|rg<|aa k k<|an ?_
 refine tn<|aN ?_
 obtain ⟨y5,hy5,h⟩:=ob h
 refine cU (body:=(kY a0)) hy5 (fun (x1:((List Mt)×Int))=>bU [(0,.list 3 (List.map eM a0)),(3,.own 0 0 x1.1.length),(4,.int x1.2)] [(0,⟨3,List.map (ow eM) x1.1⟩)] 1 [1,2,3]) (fun r e t=>e= .exit 0∧Ent t (bU [(3,.own 0 0 r.length)] [(0,⟨3,List.map (ow eM) r⟩)] 1 [1,2,3])) (aE (σ:=sg [(0,0)]) ⟨⟨_,k,⟨k,k⟩⟩,(oE k k),(e1 k k),trivial⟩ (hB (aAm.plainO _) k k k<|trivial) k) ?_ ?_
 ·intro x1 o h
  refine sQ<|sQ<|rg<|am k k<|am k k<|ae (dD aA k k k) k<|ae (bC k k k) k<|an<|tn ?_
  rcases cb h with ⟨q1,h⟩|⟨q1,h⟩
  ·refine aL k q1<|aT<|tn<|sQ<|aN<|rg<|am k k<|am k k<|am k k<|am k k ?_
   obtain ⟨v2,hv2,h⟩:=ob h
   refine ae (bH aA hv2 k k k k k k) k<|ae (aV aA k k k k k k) k ?_
   obtain ⟨v3,hv3,h⟩:=ob h
   refine ae (AEff.conv (cR (x:= .agg [.int v3.rows,.int v3.cols,.own 1 0 (List.map eI v3.cells).length]) (nb:=[(1,⟨1,cX (List.map eI v3.cells)⟩)]) (aFQ v2 v3 hv3) k (by rfl) k k (bZ trivial (bZ trivial (bZ (eD.good _) gQ))) (aG (cA (aM (aQ k) (aM (aQ k) (aM (aQ k) cF)))) bA)) (v':= .agg [.int v3.rows,.int v3.cols,.own 1 0 v3.cells.length]) (ed':=[(1,some ⟨1,List.map (ow eI) v3.cells⟩)]) (by simp only [bD]) (eJ (nb':=[(1,⟨1,List.map (ow eI) v3.cells⟩)]) (by simp only [cT]))) k ?_
   obtain ⟨v4,hv4,h⟩:=ob h
   refine ae (cY aA (eU hv4) (eV hv4) k k k k k k k) k<|ae (bP aA k k k k k k (cL (dO hv4)) k) k<|an<|bE<|tn<|aO (t:=bU [(0,.list 3 (List.map eM a0)),(3,.own 0 0 x1.1.length),(4,.int x1.2)] [(0,⟨3,(List.map (ow eM) x1.1).set x1.2.toNat [.int v3.rows,.int v3.cols,.own 1 0 v3.cells.length]⟩),(1,⟨1,List.map (ow eI) v3.cells⟩)] 2 [2,3]) (aE (σ:=sg [(0,0),(1,1)]) ⟨⟨_,k,⟨k,k⟩⟩,(oE k k),(e1 k k),trivial⟩ (hX ⟨_,k,k,.inr (aPh (σ:=sg [(0,0),(1,1)]) (m:=2) (e:=eM) (l:=x1.1) (i:=x1.2.toNat) (c:=[.int v3.rows,.int v3.cols,.own 1 0 v3.cells.length]) (d:=[.int v3.rows,.int v3.cols,.own 1 0 v3.cells.length]) aAm ⟨_,_,k,k,⟨_,_,k,k,⟨_,_,k,⟨k,k,k,k⟩,k⟩⟩⟩)⟩ k<|hI k k k<|trivial) k)<|rg<|am k k<|ae (bV k k) k<|aa k k ?_
   refine an<|tn ?_
   obtain rfl:=so h
   exact ⟨_,k,(Ent.trans (show Ent _ (bU [(0,.list 3 (List.map eM a0)),(3,.own 0 0 ((x1.1.set x1.2.toNat v3).length)),(4,.int (wr (x1.2+1)))] [(0,⟨3,List.map (ow eM) (x1.1.set x1.2.toNat v3)⟩)] 2 [2,3]) from (Ent.trans (aOQ (b:=0) (b':=1) (j:=2) (es':=List.map eI v3.cells) (by rw [List.length_map];exact eV hv4) k k k k (bD _ _) (eD.frzs _)) (aE (σ:=sg [(0,0)]) ⟨⟨_,k,⟨k,k⟩⟩,⟨_,k,⟨k,k,(by simp only [bD,lA,lT,lR,lC,lN]),k⟩⟩,(e1 k k),trivial⟩ (hX ⟨_,k,k,.inl ⟨aQc v3 k,aAm.plainO _⟩⟩ k<|trivial) k))) (aE (σ:=sg [(0,0)]) ⟨⟨_,k,⟨k,k⟩⟩,(oE k k),(e1 k k),trivial⟩ (hB (aAm.plainO _) k k k<|trivial) k))⟩
  ·refine aS k q1<|bG<|aH<|aH ?_
   obtain rfl:=so h
   exact ⟨_,k,k,(aE (σ:=sg [(0,0)]) ⟨(oE k k),trivial⟩ (hB (aAm.plainO _) k k k<|trivial) k)⟩
 ·rintro e t ⟨rfl,hent⟩
  refine aW<|tn<|aO hent<|sQ<|rg<|am k k<|aa k k<|an<|tn<|aP ?_
  obtain rfl:=so h
  exact aU k k k (mB (iQ aAm k k))
def iR (a0:Rp):Option Rp:=
 Option.bind (rG a0.q) fun v1=>
 Option.bind (fC a0.dims) fun v2=>
 Option.bind (qE a0.maps) fun v3=>
 some ((⟨a0.p,v1,v2,v3⟩:Rp))
theorem aAK (a0:Rp) (r:Rp) (h:iR a0=some r):HasC Tryz.prog 15 [.agg (eR a0)] (.agg (eR r)):=by
 refine bK aA (rvs:=[.cell 2 32]) (ns:=[0,1,2,3,4,5,6,7,8]) Tryz.func15 k k Tryz.ntmps15 k k k<|sQ<|rg<|ae (cC k k k k) k<|ae (bX aA k k) k<|an<|tn<|sQ<|rg<|ae (bX aA k k) k ?_
 refine an<|tn<|sQ<|rg<|ae (aD aA k k k k k k k) k<|ae (aC aA k k k k k k k) k<|ae (aD aA k k k k k k k) k<|ae (bP aA k k k k k k k k) k<|an<|tn ?_
 refine sQ<|rg<|ae (aD aA k k k k k k k) k<|ae (aC aA k k k k k k k) k ?_
 obtain ⟨v1,hv1,h⟩:=ob h
 refine ae (AEff.conv (cR (x:= .agg [.int v1.n,.own 3 0 (List.map eI v1.src).length,.own 4 0 (List.map eI v1.tgt).length]) (nb:=[(3,⟨1,cX (List.map eI v1.src)⟩),(4,⟨1,cX (List.map eI v1.tgt)⟩)]) (aFP a0.q v1 hv1) k (by rfl) k k (bZ trivial (bZ (eD.good _) (bZ (eD.good _) gQ))) (aG (cA (aM (aQ k) (aM (aQ k) (aM (aQ k) cF)))) bA)) (v':= .agg [.int v1.n,.own 3 0 v1.src.length,.own 4 0 v1.tgt.length]) (ed':=[(3,some ⟨1,List.map (ow eI) v1.src⟩),(4,some ⟨1,List.map (ow eI) v1.tgt⟩)]) (by simp only [bD]) (eJ (nb':=[(3,⟨1,List.map (ow eI) v1.src⟩),(4,⟨1,List.map (ow eI) v1.tgt⟩)]) (by simp only [cT]))) k<|ae (aD aA k k k k k k k) k<|ae (bP aA k k k k k k k k) k<|an<|tn<|aO (t:=bU [(1,.ptr 0 0 0),(2,.ptr 1 0 0),(3,.ptr 2 0 0)] [(0,⟨6,[[.int a0.p,.int a0.q.n,.list 1 (List.map eI a0.q.src),.list 1 (List.map eI a0.q.tgt),.list 1 (List.map eI a0.dims),.list 3 (List.map eM a0.maps)]]⟩),(1,⟨6,[[.int 0,.int 0,.nil 1,.nil 1,.nil 1,.nil 3]]⟩),(2,⟨6,[[.int a0.p,.int v1.n,.own 3 0 v1.src.length,.own 4 0 v1.tgt.length,.nil 1,.nil 3]]⟩),(3,⟨1,List.map (ow eI) v1.src⟩),(4,⟨1,List.map (ow eI) v1.tgt⟩)] 5 [5,6,7,8]) (aE (σ:=sg [(0,0),(1,1),(2,2),(3,3),(4,4)]) ⟨(pE k k),(pE k k),(pE k k),trivial⟩ (hP k k k k<|hP k k k k<|hX ⟨_,k,k,.inr ⟨_,_,k,⟨_,_,k,k,⟨_,_,k,k,⟨_,_,k,⟨k,k,k,k⟩,⟨_,_,k,⟨k,k,k,k⟩,⟨_,_,k,trivial,⟨_,_,k,trivial,k⟩⟩⟩⟩⟩⟩,k⟩⟩ k<|hI k k k<|hI k k k<|trivial) k) ?_
 refine sQ<|rg<|ae (aD aA k k k k k k k) k<|ae (aC aA k k k k k k k) k ?_
 obtain ⟨v2,hv2,h⟩:=ob h
 refine ae (AEff.conv (cR (x:= .own 5 0 (List.map eI v2).length) (nb:=[(5,⟨1,cX (List.map eI v2)⟩)]) (kP a0.dims v2 hv2) k (by rfl) k k (eD.good _) (aG (aI k) bA)) (v':= .own 5 0 v2.length) (ed':=[(5,some ⟨1,List.map (ow eI) v2⟩)]) (by simp only [bD]) (eJ (nb':=[(5,⟨1,List.map (ow eI) v2⟩)]) (by simp only [cT]))) k<|ae (aD aA k k k k k k k) k<|ae (bP aA k k k k k k k k) k<|an<|tn<|sQ<|rg<|ae (aD aA k k k k k k k) k<|ae (aC aA k k k k k k k) k ?_
 obtain ⟨v3,hv3,h⟩:=ob h
 refine ae (AEff.conv (cR (x:= .own 6 0 (List.map eM v3).length) (nb:=[(6,⟨3,cX (List.map eM v3)⟩)]) (aEK a0.maps v3 hv3) k (by rfl) k k (aAm.good _) (aG (aI k) bA)) (v':= .own 6 0 v3.length) (ed':=[(6,some ⟨3,List.map (ow eM) v3⟩)]) (by simp only [bD]) (eJ (nb':=[(6,⟨3,List.map (ow eM) v3⟩)]) (by simp only [cT]))) k<|ae (aD aA k k k k k k k) k<|ae (bP aA k k k k k k k k) k<|an<|tn<|sQ<|rg<|ae (aC aA k k k k k k k) k<|ae (bP aA k k k k k k k k) k<|an ?_
 refine tn<|aO (t:=bU [(2,.ptr 1 0 0)] [(1,⟨6,[[.int a0.p,.int v1.n,.own 3 0 v1.src.length,.own 4 0 v1.tgt.length,.own 5 0 v2.length,.own 6 0 v3.length]]⟩),(3,⟨1,List.map (ow eI) v1.src⟩),(4,⟨1,List.map (ow eI) v1.tgt⟩),(5,⟨1,List.map (ow eI) v2⟩),(6,⟨3,List.map (ow eM) v3⟩)] 7 [7,8]) (aE (σ:=sg [(1,1),(3,3),(4,4),(5,5),(6,6)]) ⟨(pE k k),trivial⟩ (hX ⟨_,k,k,.inr ⟨_,_,k,⟨_,_,k,k,⟨_,_,k,k,⟨_,_,k,⟨k,k,k,k⟩,⟨_,_,k,⟨k,k,k,k⟩,⟨_,_,k,⟨k,k,k,k⟩,⟨_,_,k,⟨k,k,k,k⟩,k⟩⟩⟩⟩⟩⟩,k⟩⟩ k<|hI k k k<|hI k k k<|hI k k k<|hB (aAm.plainO _) k k k<|trivial) k)<|aP ?_
 obtain rfl:=so h
 exact aU k k k (qN (cD (k) (cD (k) (cD (iQ eD k k) (cD (iQ eD k k) (cD (iQ eD k k) (cD (iQ aAm k k) gZ)))))))
def uW (a0:(List Int)) (a1:(List Int)) (x1:Int):Option (Int ⊕ (Unit ⊕ Bool)):=
 bif decide (x1<(a0.length:Int)) then
 (Option.bind (dV a0 x1) fun v3=>
 Option.bind (dV a1 x1) fun v4=>
 bif !decide (v3=v4) then
 (some (.inr (.inr (false))))
 else
 (some (.inl (wr (x1+1)))))
 else
 (some (.inr (.inl ())))
def iV (a0:(List Int)) (a1:(List Int)):Option Bool:=
 bif !decide ((a0.length:Int)=(a1.length:Int)) then
 (some (false))
 else
 (Option.bind (Lp (uW a0 a1) 0) fun y6=>
 Sum.elim (fun y7=>
 some (true)
 )
 (fun y8=>
 some y8
 )
 y6)
theorem qS (a0:(List Int)) (a1:(List Int)) (r:Bool) (h:iV a0 a1=some r):HasC Tryz.prog 25 [.list 1 (List.map eI a0),.list 1 (List.map eI a1)] (.bl r):=by
 refine bK aA (rvs:=[.tmp 4]) (ns:=[0,1]) Tryz.func25 k k Tryz.ntmps25 k k k<|sQ<|rg<|aa k k<|an<|tn<|sQ<|sQ<|rg<|am k k ?_
 refine ae (dD aA k k k) k<|am k k<|ae (dD aA k k k) k<|ae (bC k k k) k<|an<|tn ?_
 rcases cb h with ⟨q1,h⟩|⟨q1,h⟩
 ·refine aL k q1<|sQ<|rg<|aa k k<|an<|tn<|aP<|aK ?_
  obtain rfl:=so h
  exact aU k k k (bT k)
 ·refine aS k q1<|aT<|tn<|sQ<|sQ<|rg<|aa k k<|an<|tn<|aN ?_
  obtain ⟨y6,hy6,h⟩:=ob h
  refine cU (body:=(uW a0 a1)) hy6 (fun (x1:Int)=>bU [(0,.list 1 (List.map eI a0)),(1,.list 1 (List.map eI a1)),(5,.int x1)] [] 0 [0,1]) (fun r e t=>Sum.elim (fun a=>(fun r e t=>e= .exit 0∧Ent t (bU [] [] 0 [0,1])) a e t) (fun b=>(fun r e t=>e= .ret∧sA TT [.tmp 4] (.bl r) .ret t) b e t) r) (aE (σ:=sg []) ⟨⟨_,k,⟨k,k⟩⟩,⟨_,k,⟨k,k⟩⟩,(e1 k k),trivial⟩ trivial k) ?_ ?_
  ·intro x1 o h
   refine sQ<|sQ<|rg<|am k k<|am k k<|ae (dD aA k k k) k<|ae (bC k k k) k<|an<|tn ?_
   rcases cb h with ⟨q2,h⟩|⟨q2,h⟩
   ·refine aL k q2<|aT<|tn<|sQ<|aN<|sQ<|aY jW<|am k k<|am k k ?_
    obtain ⟨v3,hv3,h⟩:=ob h
    refine ae (bH aA hv3 k k k k k k) k<|ae (aV aA k k k k k k) k<|am k k<|am k k ?_
    obtain ⟨v4,hv4,h⟩:=ob h
    refine ae (bH aA hv4 k k k k k k) k<|ae (aV aA k k k k k k) k<|ae (bC k k k) k<|an ?_
    refine ⟨by kernel_rfl,?_⟩
    refine tn<|aO (t:=bU [(0,.list 1 (List.map eI a0)),(1,.list 1 (List.map eI a1)),(5,.int x1),(25,.bl (!decide (v3=v4)))] [] 0 [0,1]) (aE (σ:=sg []) ⟨⟨_,k,⟨k,k⟩⟩,⟨_,k,⟨k,k⟩⟩,(e1 k k),(e1 k k),trivial⟩ trivial k) ?_
    rcases cb h with ⟨q5,h⟩|⟨q5,h⟩
    ·refine aL k q5<|sQ<|rg<|aa k k<|an<|tn<|aP<|bB<|aK<|aK ?_
     obtain rfl:=so h
     exact ⟨_,k,k,aU k k k (bT k)⟩
    ·refine aS k q5<|aT<|bE<|tn<|rg<|am k k<|ae (bV k k) k<|aa k k<|an<|tn ?_
     obtain rfl:=so h
     exact ⟨_,k,(aE (σ:=sg []) ⟨⟨_,k,⟨k,k⟩⟩,⟨_,k,⟨k,k⟩⟩,(e1 k k),trivial⟩ trivial k)⟩
   ·refine aS k q2<|bG<|aH<|aH ?_
    obtain rfl:=so h
    exact ⟨_,k,k,(aE (σ:=sg []) trivial trivial k)⟩
  ·intro e t hX
   rcases y6 with y7|y8
   ·obtain ⟨rfl,hent⟩:=hX
    refine aW<|tn<|aO hent<|sQ<|rg<|aa k k<|an<|tn<|aP ?_
    obtain rfl:=so h
    exact aU k k k (bT k)
   ·obtain ⟨rfl,hent⟩:=hX
    refine bB<|aK ?_
    obtain rfl:=so h
    exact hent
def rI (a0:Qv) (a1:Qv):Option Bool:=
 bif !decide (a0.n=a1.n) then
 (some (false))
 else
 (Option.bind (iV a0.src a1.src) fun v2=>
 bif !v2 then
 (some (false))
 else
 (Option.bind (iV a0.tgt a1.tgt) fun v4=>
 bif !v4 then
 (some (false))
 else
 (some (true))))
theorem aFR (a0:Qv) (a1:Qv) (r:Bool) (h:rI a0 a1=some r):HasC Tryz.prog 68 [.agg (eQ a0),.agg (eQ a1)] (.bl r):=by
 refine bK aA (rvs:=[.tmp 4]) (ns:=[0,1,2,3]) Tryz.func68 k k Tryz.ntmps68 k k k<|sQ<|rg<|ae (cC k k k k) k<|ae (cC k k k k) k<|aa k k<|an<|tn<|sQ<|sQ ?_
 refine rg<|ae (aD aA k k k k k k k) k<|ae (aC aA k k k k k k k) k<|ae (aD aA k k k k k k k) k<|ae (aC aA k k k k k k k) k<|ae (bC k k k) k<|an<|tn ?_
 rcases cb h with ⟨q1,h⟩|⟨q1,h⟩
 ·refine aL k q1<|sQ<|rg<|aa k k<|an<|tn<|aP<|aK ?_
  obtain rfl:=so h
  exact aU k k k (bT k)
 ·refine aS k q1<|aT<|tn<|sQ<|sQ<|rg<|ae (aD aA k k k k k k k) k<|ae (aC aA k k k k k k k) k<|ae (aD aA k k k k k k k) k<|ae (aC aA k k k k k k k) k ?_
  obtain ⟨v2,hv2,h⟩:=ob h
  refine ae (aZ (qS a0.src a1.src v2 hv2) k (aG (aI k) (aG (aI k) bA))) k<|ae (cG k) k<|an<|tn<|aO (t:=bU [(2,.ptr 0 0 0),(3,.ptr 1 0 0),(15,.bl (!v2))] [(0,⟨3,[[.int a0.n,.list 1 (List.map eI a0.src),.list 1 (List.map eI a0.tgt)]]⟩),(1,⟨3,[[.int a1.n,.list 1 (List.map eI a1.src),.list 1 (List.map eI a1.tgt)]]⟩)] 2 [2,3]) (aE (σ:=sg [(0,0),(1,1)]) ⟨(pE k k),(pE k k),(e1 k k),trivial⟩ (hP k k k k<|hP k k k k<|trivial) k) ?_
  rcases cb h with ⟨q3,h⟩|⟨q3,h⟩
  ·refine aL k q3<|sQ<|rg<|aa k k<|an<|tn<|aP<|aK ?_
   obtain rfl:=so h
   exact aU k k k (bT k)
  ·refine aS k q3<|aT<|tn<|sQ<|sQ<|rg<|ae (aD aA k k k k k k k) k<|ae (aC aA k k k k k k k) k<|ae (aD aA k k k k k k k) k<|ae (aC aA k k k k k k k) k ?_
   obtain ⟨v4,hv4,h⟩:=ob h
   refine ae (aZ (qS a0.tgt a1.tgt v4 hv4) k (aG (aI k) (aG (aI k) bA))) k<|ae (cG k) k<|an<|tn ?_
   rcases cb h with ⟨q5,h⟩|⟨q5,h⟩
   ·refine aL k q5<|sQ<|rg<|aa k k<|an<|tn<|aP<|aK ?_
    obtain rfl:=so h
    exact aU k k k (bT k)
   ·refine aS k q5<|aT<|tn<|sQ<|rg<|aa k k<|an<|tn<|aP ?_
    obtain rfl:=so h
    exact aU k k k (bT k)
def rJ (a0:Mt) (a1:Mt):Option Bool:=
 bif !decide (a0.rows=a1.rows) then
 (some (false))
 else
 (bif !decide (a0.cols=a1.cols) then
 (some (false))
 else
 (Option.bind (iV a0.cells a1.cells) fun v3=>
 bif !v3 then
 (some (false))
 else
 (some (true))))
theorem aFS (a0:Mt) (a1:Mt) (r:Bool) (h:rJ a0 a1=some r):HasC Tryz.prog 124 [.agg (eM a0),.agg (eM a1)] (.bl r):=by
 refine bK aA (rvs:=[.tmp 4]) (ns:=[0,1,2,3]) Tryz.func124 k k Tryz.ntmps124 k k k<|sQ<|rg<|ae (cC k k k k) k<|ae (cC k k k k) k<|aa k k<|an<|tn<|sQ<|sQ ?_
 refine rg<|ae (aD aA k k k k k k k) k<|ae (aC aA k k k k k k k) k<|ae (aD aA k k k k k k k) k<|ae (aC aA k k k k k k k) k<|ae (bC k k k) k<|an<|tn ?_
 rcases cb h with ⟨q1,h⟩|⟨q1,h⟩
 ·refine aL k q1<|sQ<|rg<|aa k k<|an<|tn<|aP<|aK ?_
  obtain rfl:=so h
  exact aU k k k (bT k)
 ·refine aS k q1<|aT<|tn<|sQ<|sQ<|rg<|ae (aD aA k k k k k k k) k<|ae (aC aA k k k k k k k) k<|ae (aD aA k k k k k k k) k<|ae (aC aA k k k k k k k) k ?_
  refine ae (bC k k k) k<|an<|tn<|aO (t:=bU [(2,.ptr 0 0 0),(3,.ptr 1 0 0),(14,.bl (!decide (a0.cols=a1.cols)))] [(0,⟨3,[[.int a0.rows,.int a0.cols,.list 1 (List.map eI a0.cells)]]⟩),(1,⟨3,[[.int a1.rows,.int a1.cols,.list 1 (List.map eI a1.cells)]]⟩)] 2 [2,3]) (aE (σ:=sg [(0,0),(1,1)]) ⟨(pE k k),(pE k k),(e1 k k),trivial⟩ (hP k k k k<|hP k k k k<|trivial) k) ?_
  rcases cb h with ⟨q2,h⟩|⟨q2,h⟩
  ·refine aL k q2<|sQ<|rg<|aa k k<|an<|tn<|aP<|aK ?_
   obtain rfl:=so h
   exact aU k k k (bT k)
  ·refine aS k q2<|aT<|tn<|sQ<|sQ<|rg<|ae (aD aA k k k k k k k) k<|ae (aC aA k k k k k k k) k<|ae (aD aA k k k k k k k) k<|ae (aC aA k k k k k k k) k ?_
   obtain ⟨v3,hv3,h⟩:=ob h
   refine ae (aZ (qS a0.cells a1.cells v3 hv3) k (aG (aI k) (aG (aI k) bA))) k<|ae (cG k) k<|an<|tn ?_
   rcases cb h with ⟨q4,h⟩|⟨q4,h⟩
   ·refine aL k q4<|sQ<|rg<|aa k k<|an<|tn<|aP<|aK ?_
    obtain rfl:=so h
    exact aU k k k (bT k)
   ·refine aS k q4<|aT<|tn<|sQ<|rg<|aa k k<|an<|tn<|aP ?_
    obtain rfl:=so h
    exact aU k k k (bT k)
def kZ (a0:(List Mt)) (a1:(List Mt)) (x1:Int):Option (Int ⊕ (Unit ⊕ Bool)):=
 bif decide (x1<(a0.length:Int)) then
 (Option.bind (dV a0 x1) fun v3=>
 Option.bind (dV a1 x1) fun v4=>
 Option.bind (rJ v3 v4) fun v5=>
 bif !v5 then
 (some (.inr (.inr (false))))
 else
 (some (.inl (wr (x1+1)))))
 else
 (some (.inr (.inl ())))
def qF (a0:(List Mt)) (a1:(List Mt)):Option Bool:=
 bif !decide ((a0.length:Int)=(a1.length:Int)) then
 (some (false))
 else
 (Option.bind (Lp (kZ a0 a1) 0) fun y7=>
 Sum.elim (fun y8=>
 some (true)
 )
 (fun y9=>
 some y9
 )
 y7)
theorem aEL (a0:(List Mt)) (a1:(List Mt)) (r:Bool) (h:qF a0 a1=some r):HasC Tryz.prog 66 [.list 3 (List.map eM a0),.list 3 (List.map eM a1)] (.bl r):=by
 refine bK aA (rvs:=[.tmp 4]) (ns:=[0,1]) Tryz.func66 k k Tryz.ntmps66 k k k<|sQ<|rg<|aa k k<|an<|tn<|sQ<|sQ<|rg<|am k k ?_
 refine ae (dD aA k k k) k<|am k k<|ae (dD aA k k k) k<|ae (bC k k k) k<|an<|tn ?_
 rcases cb h with ⟨q1,h⟩|⟨q1,h⟩
 ·refine aL k q1<|sQ<|rg<|aa k k<|an<|tn<|aP<|aK ?_
  obtain rfl:=so h
  exact aU k k k (bT k)
 ·refine aS k q1<|aT<|tn<|sQ<|sQ<|rg<|aa k k<|an<|tn<|aN ?_
  obtain ⟨y7,hy7,h⟩:=ob h
  refine cU (body:=(kZ a0 a1)) hy7 (fun (x1:Int)=>bU [(0,.list 3 (List.map eM a0)),(1,.list 3 (List.map eM a1)),(5,.int x1)] [] 0 [0,1]) (fun r e t=>Sum.elim (fun a=>(fun r e t=>e= .exit 0∧Ent t (bU [] [] 0 [0,1])) a e t) (fun b=>(fun r e t=>e= .ret∧sA TT [.tmp 4] (.bl r) .ret t) b e t) r) (aE (σ:=sg []) ⟨⟨_,k,⟨k,k⟩⟩,⟨_,k,⟨k,k⟩⟩,(e1 k k),trivial⟩ trivial k) ?_ ?_
  ·intro x1 o h
   refine sQ<|sQ<|rg<|am k k<|am k k<|ae (dD aA k k k) k<|ae (bC k k k) k<|an<|tn ?_
   rcases cb h with ⟨q2,h⟩|⟨q2,h⟩
   ·refine aL k q2<|aT<|tn<|sQ<|aN<|sQ<|aY jW<|am k k<|am k k ?_
    obtain ⟨v3,hv3,h⟩:=ob h
    refine ae (bH aA hv3 k k k k k k) k<|ae (aV aA k k k k k k) k<|am k k<|am k k ?_
    obtain ⟨v4,hv4,h⟩:=ob h
    refine ae (bH aA hv4 k k k k k k) k<|ae (aV aA k k k k k k) k ?_
    obtain ⟨v5,hv5,h⟩:=ob h
    refine ae (aZ (aFS v3 v4 v5 hv5) k (aG (cA (aM (aQ k) (aM (aQ k) (aM (aQ k) cF)))) (aG (cA (aM (aQ k) (aM (aQ k) (aM (aQ k) cF)))) bA))) k<|ae (cG k) k<|an ?_
    refine ⟨by kernel_rfl,?_⟩
    refine tn<|aO (t:=bU [(0,.list 3 (List.map eM a0)),(1,.list 3 (List.map eM a1)),(5,.int x1),(26,.bl (!v5))] [] 0 [0,1]) (aE (σ:=sg []) ⟨⟨_,k,⟨k,k⟩⟩,⟨_,k,⟨k,k⟩⟩,(e1 k k),(e1 k k),trivial⟩ trivial k) ?_
    rcases cb h with ⟨q6,h⟩|⟨q6,h⟩
    ·refine aL k q6<|sQ<|rg<|aa k k<|an<|tn<|aP<|bB<|aK<|aK ?_
     obtain rfl:=so h
     exact ⟨_,k,k,aU k k k (bT k)⟩
    ·refine aS k q6<|aT<|bE<|tn<|rg<|am k k<|ae (bV k k) k<|aa k k<|an<|tn ?_
     obtain rfl:=so h
     exact ⟨_,k,(aE (σ:=sg []) ⟨⟨_,k,⟨k,k⟩⟩,⟨_,k,⟨k,k⟩⟩,(e1 k k),trivial⟩ trivial k)⟩
   ·refine aS k q2<|bG<|aH<|aH ?_
    obtain rfl:=so h
    exact ⟨_,k,k,(aE (σ:=sg []) trivial trivial k)⟩
  ·intro e t hX
   rcases y7 with y8|y9
   ·obtain ⟨rfl,hent⟩:=hX
    refine aW<|tn<|aO hent<|sQ<|rg<|aa k k<|an<|tn<|aP ?_
    obtain rfl:=so h
    exact aU k k k (bT k)
   ·obtain ⟨rfl,hent⟩:=hX
    refine bB<|aK ?_
    obtain rfl:=so h
    exact hent
def tW (a0:Rp) (a1:Rp):Option Bool:=
 bif !decide (a0.p=a1.p) then
 (some (false))
 else
 (Option.bind (rI a0.q a1.q) fun v2=>
 bif !v2 then
 (some (false))
 else
 (Option.bind (iV a0.dims a1.dims) fun v4=>
 bif !v4 then
 (some (false))
 else
 (Option.bind (qF a0.maps a1.maps) fun v6=>
 bif !v6 then
 (some (false))
 else
 (some (true)))))
theorem aJF (a0:Rp) (a1:Rp) (r:Bool) (h:tW a0 a1=some r):HasC Tryz.prog 18 [.agg (eR a0),.agg (eR a1)] (.bl r):=by
 refine bK aA (rvs:=[.tmp 4]) (ns:=[0,1,2,3]) Tryz.func18 k k Tryz.ntmps18 k k k<|sQ<|rg<|ae (cC k k k k) k<|ae (cC k k k k) k<|aa k k<|an<|tn<|sQ<|sQ ?_
 refine rg<|ae (aD aA k k k k k k k) k<|ae (aC aA k k k k k k k) k<|ae (aD aA k k k k k k k) k<|ae (aC aA k k k k k k k) k<|ae (bC k k k) k<|an<|tn ?_
 rcases cb h with ⟨q1,h⟩|⟨q1,h⟩
 ·refine aL k q1<|sQ<|rg<|aa k k<|an<|tn<|aP<|aK ?_
  obtain rfl:=so h
  exact aU k k k (bT k)
 ·refine aS k q1<|aT<|tn<|sQ<|sQ<|rg<|ae (aD aA k k k k k k k) k<|ae (aC aA k k k k k k k) k<|ae (aD aA k k k k k k k) k<|ae (aC aA k k k k k k k) k ?_
  obtain ⟨v2,hv2,h⟩:=ob h
  refine ae (aZ (aFR a0.q a1.q v2 hv2) k (aG (cA (aM (aQ k) (aM (aQ k) (aM (aQ k) cF)))) (aG (cA (aM (aQ k) (aM (aQ k) (aM (aQ k) cF)))) bA))) k<|ae (cG k) k<|an<|tn<|aO (t:=bU [(2,.ptr 0 0 0),(3,.ptr 1 0 0),(15,.bl (!v2))] [(0,⟨6,[[.int a0.p,.int a0.q.n,.list 1 (List.map eI a0.q.src),.list 1 (List.map eI a0.q.tgt),.list 1 (List.map eI a0.dims),.list 3 (List.map eM a0.maps)]]⟩),(1,⟨6,[[.int a1.p,.int a1.q.n,.list 1 (List.map eI a1.q.src),.list 1 (List.map eI a1.q.tgt),.list 1 (List.map eI a1.dims),.list 3 (List.map eM a1.maps)]]⟩)] 2 [2,3]) (aE (σ:=sg [(0,0),(1,1)]) ⟨(pE k k),(pE k k),(e1 k k),trivial⟩ (hP k k k k<|hP k k k k<|trivial) k) ?_
  rcases cb h with ⟨q3,h⟩|⟨q3,h⟩
  ·refine aL k q3<|sQ<|rg<|aa k k<|an<|tn<|aP<|aK ?_
   obtain rfl:=so h
   exact aU k k k (bT k)
  ·refine aS k q3<|aT<|tn<|sQ<|sQ<|rg<|ae (aD aA k k k k k k k) k<|ae (aC aA k k k k k k k) k<|ae (aD aA k k k k k k k) k<|ae (aC aA k k k k k k k) k ?_
   obtain ⟨v4,hv4,h⟩:=ob h
   refine ae (aZ (qS a0.dims a1.dims v4 hv4) k (aG (aI k) (aG (aI k) bA))) k<|ae (cG k) k<|an<|tn ?_
   rcases cb h with ⟨q5,h⟩|⟨q5,h⟩
   ·refine aL k q5<|sQ<|rg<|aa k k<|an<|tn<|aP<|aK ?_
    obtain rfl:=so h
    exact aU k k k (bT k)
   ·refine aS k q5<|aT<|tn<|sQ<|sQ<|rg<|ae (aD aA k k k k k k k) k<|ae (aC aA k k k k k k k) k<|ae (aD aA k k k k k k k) k<|ae (aC aA k k k k k k k) k ?_
    obtain ⟨v6,hv6,h⟩:=ob h
    refine ae (aZ (aEL a0.maps a1.maps v6 hv6) k (aG (aI k) (aG (aI k) bA))) k<|ae (cG k) k<|an<|tn<|aO (t:=bU [(27,.bl (!v6))] [] 2 [2,3]) (aE (σ:=sg []) ⟨(e1 k k),trivial⟩ trivial k) ?_
    rcases cb h with ⟨q7,h⟩|⟨q7,h⟩
    ·refine aL k q7<|sQ<|rg<|aa k k<|an<|tn<|aP<|aK ?_
     obtain rfl:=so h
     exact aU k k k (bT k)
    ·refine aS k q7<|aT<|tn<|sQ<|rg<|aa k k<|an<|tn<|aP ?_
     obtain rfl:=so h
     exact aU k k k (bT k)
end
noncomputable section
def zI (n:Nat) (left:Int):Int:=if left - n<0 then -1 else left - n
def zC:List (Int→Int)→Int→Int
 | [],left=>left
 |f::fs,left=>if f left<0 then -1 else zC fs (f left)
def zS {α:Type} (f:α→Int→Int) (l:List α) (left:Int):Int:=if left - l.length<0 then -1 else zC (l.map f) (left - l.length)
def zQ (q:Qv):Int→Int:=zC [zI q.src.length,zI q.tgt.length]
def zM (m:Mt):Int→Int:=zC [zI m.cells.length]
def zR (r:Rp):Int→Int:=zC [zQ r.q,zI r.dims.length,zS zM r.maps]
def yG (f:Int→Int) (b:Prop):Prop:= ∀ left,0≤left→left≤1048576→f left= -1∨(0≤f left∧f left≤left∧b)
theorem yH (n:Nat):yG (zI n) (n≤1048576):=by
 intro left h0 h1
 unfold zI
 by_cases h:left - n<0
 ·rw [if_pos h];exact .inl rfl
 ·rw [if_neg h];exact .inr ⟨by omega,by omega,by omega⟩
theorem aEM:yG (zC []) True:=fun left h0 _=> .inr ⟨h0,Int.le_refl _,trivial⟩
theorem sC {f:Int→Int} {fs:List (Int→Int)} {b bs:Prop} (h:yG f b) (k:yG (zC fs) bs):yG (zC (f::fs)) (b∧bs):=by
 intro left h0 h1
 unfold zC
 rcases h left h0 h1 with e|⟨e1,e2,e3⟩
 ·rw [e,if_pos (by decide)];exact .inl rfl
 ·rw [if_neg (by omega)]
  rcases k (f left) e1 (by omega) with g|⟨g1,g2,g3⟩
  ·exact .inl g
  ·exact .inr ⟨g1,by omega,e3,g3⟩
theorem aIH {α:Type} {f:α→Int→Int} {b:α→Prop} (h: ∀ x,yG (f x) (b x)): ∀ l:List α,yG (zC (l.map f)) (∀ x∈l,b x)
 | []=>fun left h0 _=> .inr ⟨h0,Int.le_refl _,by simp⟩
 |x::l=>fun left h0 h1=>by
  rcases sC (h x) (aIH h l) left h0 h1 with e|⟨e1,e2,e3,e4⟩
  ·exact .inl e
  ·exact .inr ⟨e1,e2,fun y hy=>by rcases List.mem_cons.1 hy with rfl|h';exact e3;exact e4 y h'⟩
theorem aMZ {α:Type} {f:α→Int→Int} {b:α→Prop} (h: ∀ x,yG (f x) (b x)) (l:List α):yG (zS f l) (l.length≤1048576∧ ∀ x∈l,b x):=by
 intro left h0 h1
 unfold zS
 by_cases e:left - l.length<0
 ·rw [if_pos e];exact .inl rfl
 ·rw [if_neg e]
  rcases aIH h l (left - l.length) (by omega) (by omega) with g|⟨g1,g2,g3⟩
  ·exact .inl g
  ·exact .inr ⟨g1,by omega,by omega,g3⟩
def bI (l:List Int):Prop:=l.length≤1048576
def bQ (q:Qv):Prop:=bI q.src∧bI q.tgt∧True
def bM (m:Mt):Prop:=bI m.cells∧True
def bR (r:Rp):Prop:=bQ r.q∧bI r.dims∧(r.maps.length≤1048576∧ ∀ m∈r.maps,bM m)∧True
def bS (s:Sc):Prop:=(s.basis.length≤1048576∧ ∀ v∈s.basis,bI v)∧True
theorem aMa (q:Qv):yG (zQ q) (bQ q):=sC (yH _) (sC (yH _) aEM)
theorem aJG (m:Mt):yG (zM m) (bM m):=sC (yH _) aEM
theorem aMb (r:Rp):yG (zR r) (bR r):=sC (aMa _) (sC (yH _) (sC (aMZ aJG _) aEM))
def fI {α:Type} (l:List α):Prop:=l.length≤9223372036854775807
theorem aBZ {o:Option Int} {z:Int→Int} {zs:List (Int→Int)} {b:Prop} {left:Int} {k:Int→Option Int} (ho:o=some (z left)) (hf:yG z b) (h0:0≤left) (h1:left≤1048576) (hk: ∀ v,0≤v→v≤1048576→k v=some (zC zs v)):
  Option.bind o (fun v=>bif decide (v<0) then some (-1) else k v)=some (zC (z::zs) left):=by
 rw [ho,Option.bind_some]
 unfold zC
 rcases hf left h0 h1 with e|⟨e1,e2,_⟩
 ·rw [e];rfl
 ·rw [if_neg (by omega),decide_eq_false (by omega: ¬ z left<0),cond_false];exact hk _ e1 (by omega)
theorem aPk {α:Type} {body:Int×Int→Option ((Int×Int) ⊕ (Int ⊕ Int))} {f:α→Int→Int} {b:α→Prop} {l:List α} (hf: ∀ x,yG (f x) (b x)) (hl:l.length≤1048576)
  (hs: ∀ (v:Int) (k:Nat) (hk:k<l.length),0≤v→v≤1048576→body (v,k)=some (bif decide (f l[k] v<0) then .inr (.inr (-1)) else .inl (f l[k] v,wr (k+1)))) (he: ∀ v,body (v,l.length)=some (.inr (.inl v))) (v:Int) (h0:0≤v) (h1:v≤1048576):
  Option.bind (Lp body (v,0)) (fun y=>Sum.elim (fun y=>some y) (fun y=>some y) y)=some (zC (l.map f) v):=by
 have key: ∀ d k:Nat,k+d=l.length→ ∀ v:Int,0≤v→v≤1048576→Option.bind (Lp body (v,(k:Int))) (fun y=>Sum.elim (fun y=>some y) (fun y=>some y) y)=some (zC ((l.drop k).map f) v):=by
  intro d
  induction d with
  |zero=>
   intro k hk v _ _
   rw [Nat.add_zero] at hk;subst hk
   rw [vG (he v)]
   simp [zC]
  |succ d ih=>
   intro k hk v h0 h1
   have h:=hs v k (by omega) h0 h1
   rw [List.drop_eq_getElem_cons (by omega:k<l.length),List.map_cons]
   unfold zC
   rcases hf l[k] v h0 h1 with e|⟨e1,e2,_⟩
   ·rw [e] at h ⊢
    rw [vG (r:= .inr (-1)) (by rw [h];rfl)];rfl
   ·rw [if_neg (by omega)]
    rw [decide_eq_false (by omega: ¬ f l[k] v<0),cond_false,dG (n:=l.length) (by omega) (by omega)] at h
    rw [aBS h]
    exact ih (k+1) (by omega) _ e1 (by omega)
 have:=key l.length 0 (by omega) v h0 h1
 simpa using this
theorem aPl {l:List Int} {left:Int} (hl:fI l) (h0:0≤left) (h1:left≤1048576):kO l left=some (zI l.length left):=by
 unfold fI at hl
 unfold kO zI
 rw [aGN (by omega)]
 by_cases h:left - l.length<0
 ·rw [decide_eq_true h,if_pos h];rfl
 ·rw [decide_eq_false h,if_neg h];rfl
def fQ (q:Qv):Prop:=fI q.src∧fI q.tgt
theorem aRZ {q:Qv} {left:Int} (hl:fQ q) (h0:0≤left) (h1:left≤1048576):vV q left=some (zQ q left):=
 aBZ (aPl hl.1 h0 h1) (yH _) h0 h1 fun v g0 g1=>aBZ (aPl hl.2 g0 g1) (yH _) g0 g1 fun v _ _=>rfl
def fM (m:Mt):Prop:=fI m.cells
theorem aRa {m:Mt} {left:Int} (hl:fM m) (h0:0≤left) (h1:left≤1048576):vW m left=some (zM m left):=
 aBZ (aPl hl h0 h1) (yH _) h0 h1 fun v _ _=>rfl
def fMs (l:List Mt):Prop:=fI l∧ ∀ m∈l,fM m
theorem aRF {l:List Mt} {left:Int} (hl:fMs l) (h0:0≤left) (h1:left≤1048576):qC l left=some (zS zM l left):=by
 obtain ⟨ha,hb⟩:=hl
 unfold fI at ha
 unfold qC zS
 rw [aGN (by omega)]
 by_cases h:left - l.length<0
 ·rw [decide_eq_true h,if_pos h];rfl
 ·rw [decide_eq_false h,if_neg h,cond_false]
  refine aPk (f:=zM) aJG (by omega) (fun v k hk g0 g1=>?_) (fun v=>?_) _ (by omega) (by omega)
  ·unfold kX
   simp only
   rw [kN hk,cond_true,gE hk,Option.bind_some,aRa (hb _ (List.getElem_mem hk)) g0 g1,Option.bind_some]
   cases decide (zM l[k] v<0) <;> rfl
  ·unfold kX
   simp only
   rw [nV (Nat.le_refl _),cond_false]
def fR (r:Rp):Prop:=fQ r.q∧fI r.dims∧fMs r.maps
theorem aRG {r:Rp} {left:Int} (hl:fR r) (h0:0≤left) (h1:left≤1048576):wM r left=some (zR r left):=
 aBZ (aRZ hl.1 h0 h1) (aMa _) h0 h1 fun v g0 g1=>aBZ (aPl hl.2.1 g0 g1) (yH _) g0 g1 fun v g2 g3=>aBZ (aRF hl.2.2 g2 g3) (aMZ aJG _) g2 g3 fun v _ _=>rfl
theorem aII {α:Type} {body:List α×Int→Option ((List α×Int) ⊕ List α)} {l:List α} (z:α) (hl:l.length≤4611686018427387904)
  (hs: ∀ (k:Nat) (hk:k<l.length) (r:List α),r.length=l.length→body (r,k)=some (.inl (r.set k l[k],wr (k+1)))) (he: ∀ r,body (r,l.length)=some (.inr r)):Lp body (List.replicate ((l.length:Int).toNat) z,0)=some l:=by
 refine aOE (fun k=>(l.take k++List.replicate (l.length - k) z,(k:Int))) l.length (by simp) (fun k hk=>?_) ?_
 ·rw [hs k hk _ (by simp;omega),dG hk hl]
  congr 3
  rw [show l.length - k=(l.length - (k+1))+1 by omega,List.replicate_succ,List.set_append_right _ _ (by simp;omega)]
  rw [List.take_succ_eq_append_getElem hk,List.length_take,Nat.min_eq_left (Nat.le_of_lt hk),Nat.sub_self,List.set_cons_zero,List.append_assoc];rfl
 ·rw [he];simp
theorem aNJ {l:List Int} (h:bI l):fC l=some l:=by
 unfold bI at h
 unfold fC
 rw [decide_eq_true (by omega),decide_eq_true (by omega:(l.length:Int)≤1048576),Bool.and_self,cond_true]
 rw [aII 0 (by omega) (fun k hk r hr=>?_) (fun r=>?_)];rfl
 ·unfold qD
  simp only
  rw [kN hk,cond_true,gE hk,Option.bind_some,gE (hr▸hk),Option.bind_some,Int.toNat_natCast]
 ·unfold qD
  simp only
  rw [nV (Nat.le_refl _),cond_false]
theorem aRc {q:Qv} (h:bQ q):rG q=some q:=by
 unfold rG
 rw [aNJ h.1,Option.bind_some,aNJ h.2.1,Option.bind_some]
theorem aRd {m:Mt} (h:bM m):rH m=some m:=by
 unfold rH
 rw [aNJ h.1,Option.bind_some]
theorem aRH {l:List Mt} (h:l.length≤1048576∧ ∀ m∈l,bM m):qE l=some l:=by
 obtain ⟨h,hb⟩:=h
 unfold qE
 rw [decide_eq_true (by omega),decide_eq_true (by omega:(l.length:Int)≤1048576),Bool.and_self,cond_true]
 rw [aII _ (by omega) (fun k hk r hr=>?_) (fun r=>?_)];rfl
 ·unfold kY
  simp only
  rw [kN hk,cond_true,gE hk,Option.bind_some,aRd (hb _ (List.getElem_mem hk)),Option.bind_some,gE (hr▸hk),Option.bind_some,Int.toNat_natCast]
 ·unfold kY
  simp only
  rw [nV (Nat.le_refl _),cond_false]
theorem aRI {r:Rp} (h:bR r):iR r=some r:=by
 unfold iR
 rw [aRc h.1,Option.bind_some,aNJ h.2.1,Option.bind_some,aRH h.2.2.1,Option.bind_some]
theorem aDN {α:Type} [DecidableEq α] {body:Int→Option (Int ⊕ (Unit ⊕ Bool))} {a b:List α} (hl:a.length≤4611686018427387904) (hab:a.length=b.length)
  (hs: ∀ (k:Nat) (h1:k<a.length) (h2:k<b.length),body k=some (bif decide (a[k]=b[k]) then .inl (wr (k+1)) else .inr (.inr false))) (he:body a.length=some (.inr (.inl ()))):
  Option.bind (Lp body 0) (fun y=>Sum.elim (fun _=>some true) (fun y=>some y) y)=some (decide (a=b)):=by
 have key: ∀ (P:Nat→Bool),(∀ (k:Nat) (h1:k<a.length) (h2:k<b.length),P k=decide (a[k]=b[k]))→Lp body 0=some (bif (List.range a.length).all P then .inl () else .inr false)→Option.bind (Lp body 0) (fun y=>Sum.elim (fun _=>some true) (fun y=>some y) y)=some (decide (a=b)):=by
  intro P hP e
  rw [e,Option.bind_some]
  have:(List.range a.length).all P=decide (a=b):=by
   rw [Bool.eq_iff_iff,pV,decide_eq_true_eq]
   constructor
   ·intro h
    refine List.ext_getElem hab fun k h1 h2=>?_
    have:=h k h1
    rw [hP k h1 h2] at this
    exact of_decide_eq_true this
   ·rintro rfl k hk;rw [hP k hk hk];simp
  rw [this]
  cases decide (a=b) <;> rfl
 refine key (fun k=>if h:k<a.length then if h2:k<b.length then decide (a[k]=b[k]) else false else false) (fun k h1 h2=>by rw [dif_pos h1,dif_pos h2]) (sB _ _ hl (fun k hk=>?_) (fun _=>he))
 rw [dif_pos hk,dif_pos (hab▸hk)]
 exact hs k hk (hab▸hk)
theorem aAt {α β:Type} {a:List α} {b:List β} :decide ((a.length:Int)=(b.length:Int))=decide (a.length=b.length):=by
 rw [Bool.eq_iff_iff,decide_eq_true_eq,decide_eq_true_eq];omega
theorem aJH {body:Int→Option (Int ⊕ (Unit ⊕ Bool))} {a b:List Int} (hl:a.length≤4611686018427387904)
  (hb:body=fun x=>bif decide (x<(a.length:Int)) then (Option.bind (dV a x) fun v3=>Option.bind (dV b x) fun v4=>bif !decide (v3=v4) then (some (.inr (.inr (false)))) else (some (.inl (wr (x+1))))) else (some (.inr (.inl ())))):
  (bif !decide ((a.length:Int)=(b.length:Int)) then some false else Option.bind (Lp body 0) (fun y=>Sum.elim (fun _=>some true) (fun y=>some y) y))=some (decide (a=b)):=by
 rw [aAt]
 by_cases h:a.length=b.length
 ·rw [decide_eq_true h,Bool.not_true,cond_false]
  refine aDN hl h (fun k h1 h2=>?_) ?_
  ·rw [hb]
   simp only
   rw [kN h1,cond_true,gE h1,Option.bind_some,gE h2,Option.bind_some]
   cases decide (a[k]=b[k]) <;> rfl
  ·rw [hb]
   simp only
   rw [nV (Nat.le_refl _),cond_false]
 ·rw [decide_eq_false h,Bool.not_false,cond_true,decide_eq_false (by rintro rfl;exact h rfl)]
theorem gK {c d:Bool} {o:Option Bool} (h:c=true→o=some d):(bif !c then some false else o)=some (c&&d):=by cases c with|false=>rfl|true=>exact h rfl
theorem aNK {a b:List Int} (h:bI a):iV a b=some (decide (a=b)):=by
 unfold bI at h
 exact aJH (body:=uW a b) (by omega) rfl
theorem aJI {d:Bool} :(bif !d then some false else some true)=some d:=by cases d <;> rfl
theorem aRe {a b:Qv} (h:bQ a):rI a b=some (decide (a=b)):=by
 unfold rI
 rw [gK (d:=decide (a.src=b.src)&&decide (a.tgt=b.tgt)) (fun _=>?_)]
 ·cases a;cases b;simp [Bool.and_assoc]
 ·rw [aNK h.1,Option.bind_some]
  refine gK fun _=>?_
  rw [aNK h.2.1,Option.bind_some,aJI]
theorem aRf {a b:Mt} (h:bM a):rJ a b=some (decide (a=b)):=by
 unfold rJ
 rw [gK (d:=decide (a.cols=b.cols)&&decide (a.cells=b.cells)) (fun _=>?_)]
 ·cases a;cases b;simp [Bool.and_assoc]
 ·refine gK fun _=>?_
  rw [aNK h.1,Option.bind_some,aJI]
theorem aRJ {a b:List Mt} (h:a.length≤1048576∧ ∀ m∈a,bM m):qF a b=some (decide (a=b)):=by
 obtain ⟨h,hb⟩:=h
 unfold qF
 rw [aAt]
 by_cases e:a.length=b.length
 ·rw [decide_eq_true e,Bool.not_true,cond_false]
  refine aDN (by omega) e (fun k h1 h2=>?_) ?_
  ·unfold kZ
   rw [kN h1,cond_true,gE h1,Option.bind_some,gE h2,Option.bind_some,aRf (hb _ (List.getElem_mem h1)),Option.bind_some]
   cases decide (a[k]=b[k]) <;> rfl
  ·unfold kZ
   rw [nV (Nat.le_refl _),cond_false]
 ·rw [decide_eq_false e,Bool.not_false,cond_true,decide_eq_false (by rintro rfl;exact e rfl)]
theorem aRK {a b:Rp} (h:bR a):tW a b=some (decide (a=b)):=by
 unfold tW
 rw [gK (d:=decide (a.q=b.q)&&(decide (a.dims=b.dims)&&decide (a.maps=b.maps))) (fun _=>?_)]
 ·cases a;cases b;simp [Bool.and_assoc]
 ·rw [aRe h.1,Option.bind_some]
  refine gK fun _=>?_
  rw [aNK h.2.1,Option.bind_some]
  refine gK fun _=>?_
  rw [aRJ h.2.2.1,Option.bind_some,aJI]
end
noncomputable section
theorem fJ {c d:Bool} {o:Option Bool} (h:c=true→o=some d):(bif c then o else some false)=some (c&&d):=by cases c with|false=>rfl|true=>exact h rfl
theorem xI {c d:Bool} :(bif c then some d else some false)=some (c&&d):=by cases c <;> rfl
theorem aMc {x a b:Int} :(bif decide (a≤x) then some (decide (x≤b)) else some false)=some (lZ x a b):=by
 rw [xI]
 unfold lZ
 by_cases h1:a≤x <;> by_cases h2:x≤b <;> simp [h1,h2]
theorem tX (x a b:Int):gD x a b=some (lZ x a b):=aMc
theorem sD (x a b:Int):fD x a b=some (lZ x a b):=aMc
theorem aKT (p:Int):(bif decide (p=2) then some true else bif decide (p=3) then some true else some (decide (p=5)))=some (kU p):=by
 unfold kU
 by_cases h2:p=2 <;> by_cases h3:p=3 <;> by_cases h5:p=5 <;> simp [h2,h3,h5]
theorem aDO (p:Int):hJ p=some (kU p):=aKT p
theorem aBa (p:Int):hO p=some (kU p):=aKT p
theorem aOZ {a b:List Int} (h:bI a):yS a b=some (decide (a=b)):=by
 unfold bI at h
 exact aJH (body:=uU a b) (by omega) rfl
theorem aNL {a b:List Int} (h:bI a):lH a b=some (decide (a=b)):=by
 unfold bI at h
 exact aJH (body:=jD a b) (by omega) rfl
theorem aEN (p:Int) {v:List Int} (h:bI v):gN p v=some (kU p&&decide (v.length≤64)&&v.all fun x=>lZ x 0 (wr (p - 1))):=by
 unfold bI at h
 unfold gN
 rw [aDO,Option.bind_some]
 cases kU p with
 |false=>rfl
 |true=>
  rw [Bool.not_true,cond_false,Bool.true_and]
  by_cases h64:v.length≤64
  ·rw [decide_eq_false (by omega),cond_false,decide_eq_true h64,Bool.true_and]
   rw [sB (fun k=>lZ (v[k]?.getD 0) 0 (wr (p - 1))) false (n:=v.length) (by omega) (fun k hk=>?_) (fun _=>?_),nJ 0 v (fun x=>lZ x 0 (wr (p - 1))),Option.bind_some]
   ·cases v.all _ <;> rfl
   ·unfold mG
    rw [kN hk,cond_true,pQ 0 hk,Option.bind_some,sD,Option.bind_some]
    cases lZ _ 0 _ <;> rfl
   ·unfold mG
    rw [nV (Nat.le_refl _),cond_false]
  ·rw [decide_eq_true (by omega),cond_true,decide_eq_false h64,Bool.false_and]
theorem aKU {v:List Int} {f:Int→Option Bool} (P:Int→Bool) (hf: ∀ x,f x=some (P x)) (h:bI v): ∃ i:Int,dS v f=some i∧decide (0≤i)=v.any P:=by
 unfold bI at h
 unfold dS
 rw [aDz (s0:=0) (s:=0) (n:=v.length) (fun k=>bif P (v[k]?.getD 0) then some (k:Int) else none) rfl (by omega) (Nat.zero_le _) (fun k _ hk=>?_) (fun _=>?_)]
 ·rw [Option.bind_some]
  cases e:(List.range' 0 (v.length - 0)).findSome? (fun k:Nat=>bif P (v[k]?.getD 0) then some (k:Int) else none) with
  |none=>
   refine ⟨-1,rfl,?_⟩
   rw [List.findSome?_eq_none_iff] at e
   have:v.any P=false:=by
    rw [List.any_eq_false]
    intro x hx
    obtain ⟨k,hk,rfl⟩:=List.mem_iff_getElem.1 hx
    have:=e k (by simp;omega)
    simp only [List.getElem?_eq_getElem hk,Option.getD_some] at this
    cases hp:P v[k] with
    |false=>simp
    |true=>rw [hp] at this;cases this
   rw [this];rfl
  |some i=>
   refine ⟨i,rfl,?_⟩
   obtain ⟨k,hk,he⟩:=List.exists_of_findSome?_eq_some e
   simp at hk
   have hkl:k<v.length:=by omega
   rw [List.getElem?_eq_getElem hkl] at he
   simp only [Option.getD_some] at he
   cases hp:P v[k] with
   |false=>rw [hp] at he;cases he
   |true=>
    rw [hp] at he
    cases he
    rw [decide_eq_true (by omega),eq_comm,List.any_eq_true]
    exact ⟨_,List.getElem_mem hkl,hp⟩
 ·unfold cZ
  rw [kN hk,cond_true,pQ 0 hk,Option.bind_some,hf,Option.bind_some]
  cases P _ <;> rfl
 ·unfold cZ
  rw [nV (Nat.le_refl _),cond_false]
theorem pB {v:List Int} (h:bI v) (a b:Int):fB v a b=some (v.all fun x=>lZ x a b):=by
 unfold fB gT
 obtain ⟨i,h1,h2⟩:=aKU (f:=fun b0=>jG b0 a b) (fun x=> !lZ x a b) (fun x=>by simp only [jG];rw [tX,Option.bind_some]) h
 rw [h1,Option.bind_some,Option.bind_some,h2,List.not_any_eq_all_not]
 simp
theorem aIJ (p:Int) {v:List Int} (h:bI v):nC p v=some (kU p&&decide (v.length≤64)&&v.all fun x=>lZ x 0 (wr (p - 1))):=by
 unfold nC
 rw [aBa,Option.bind_some,pB h,Option.bind_some,xI,xI,Bool.and_assoc]
 congr 3
 rw [Bool.eq_iff_iff,decide_eq_true_eq,decide_eq_true_eq];omega
def aBh (p:Int) (m:Mt):Bool:=lZ m.rows 0 8&&(lZ m.cols 0 8&&(decide ((m.cells.length:Int)=wr (m.rows*m.cols))&&(kU p&&decide (m.cells.length≤64)&&m.cells.all fun x=>lZ x 0 (wr (p - 1)))))
theorem aEO (p:Int) {m:Mt} (h:bM m):kB p m=some (aBh p m):=by
 unfold kB aBh
 rw [sD,Option.bind_some]
 refine fJ fun _=>?_
 rw [sD,Option.bind_some]
 refine fJ fun _=>?_
 refine fJ fun _=>?_
 rw [aEN p h.1,Option.bind_some]
theorem aNM (p:Int) {m:Mt} (h:bM m):rB p m=some (aBh p m):=by
 unfold rB aBh
 rw [tX,Option.bind_some]
 refine fJ fun _=>?_
 rw [tX,Option.bind_some]
 refine fJ fun _=>?_
 refine fJ fun _=>?_
 rw [aIJ p h.1,Option.bind_some]
theorem aLf {p:Int} {m:Mt} (h:aBh p m=true):kU p=true∧ ∃ (r c:Nat) (F:Nat→Nat→Int),r≤8∧c≤8∧m=⟨r,c,dH r c F⟩∧ ∀ i j,i<r→j<c→0≤F i j∧F i j<p:=by
 unfold aBh at h
 simp only [Bool.and_eq_true,decide_eq_true_eq,List.all_eq_true] at h
 obtain ⟨h1,h2,h3,⟨h4,h5⟩,h6⟩:=h
 have h1:=gP h1
 have h2:=gP h2
 refine ⟨h4,m.rows.toNat,m.cols.toNat,fun i j=>m.cells[i*m.cols.toNat+j]?.getD 0,by omega,by omega,?_,?_⟩
 ·obtain ⟨a,b,l⟩:=m
  simp only at*
  obtain ⟨r,rfl⟩:=Int.eq_ofNat_of_zero_le h1.1
  obtain ⟨c,rfl⟩:=Int.eq_ofNat_of_zero_le h2.1
  have hb:r*c≤64:=Nat.mul_le_mul (by omega:r≤8) (by omega:c≤8)
  rw [aKL (by omega)] at h3
  simp only [Int.toNat_natCast]
  rw [←aPd (by omega)]
 ·intro i j hi hj
  show 0≤m.cells[i*m.cols.toNat+j]?.getD 0∧m.cells[i*m.cols.toNat+j]?.getD 0<p
  have hx:=aMU hi hj
  have e:((m.rows.toNat*m.cols.toNat:Nat):Int)=m.rows*m.cols:=by
   rw [Int.natCast_mul,Int.toNat_of_nonneg h1.1,Int.toNat_of_nonneg h2.1]
  have hb:m.rows.toNat*m.cols.toNat≤64:=Nat.mul_le_mul (by omega:m.rows.toNat≤8) (by omega:m.cols.toNat≤8)
  rw [eZ (by omega)] at h3
  have hl:i*m.cols.toNat+j<m.cells.length:=by omega
  have:=gP (h6 _ (List.getElem_mem hl))
  rw [List.getElem?_eq_getElem hl,Option.getD_some]
  have hp:=gF h4
  rw [eZ (by omega)] at this
  omega
def aEt (q:Qv):Bool:=lZ q.n 1 5&&(decide ((q.src.length:Int)=(q.tgt.length:Int))&&(decide ((q.src.length:Int)≤6)&&((q.src.all fun x=>lZ x 0 (wr (q.n - 1)))&&(q.tgt.all fun x=>lZ x 0 (wr (q.n - 1))))))
theorem aPm {q:Qv} (h:bQ q):rC q=some (aEt q):=by
 unfold rC aEt
 rw [tX,Option.bind_some]
 refine fJ fun _=>fJ fun _=>fJ fun _=>?_
 rw [pB h.1,Option.bind_some]
 refine fJ fun _=>?_
 rw [pB h.2.1,Option.bind_some]
theorem aPn {q:Qv} (h:bQ q):qY q=some (aEt q):=by
 obtain ⟨h1,h2,_⟩:=h
 unfold bI at h1 h2
 unfold qY
 rw [sB (n:=min q.src.length q.tgt.length) (fun k=>lZ (q.src[k]?.getD 0) 0 (wr (q.n - 1))&&lZ (q.tgt[k]?.getD 0) 0 (wr (q.n - 1))) false (by omega) (fun k hk=>?_) (fun _=>?_)]
 ·rw [Option.bind_some]
  unfold aEt
  by_cases e:q.src.length=q.tgt.length
  ·have e2:min q.src.length q.tgt.length=q.src.length:=by omega
   have hall:(List.range q.src.length).all (fun k=>lZ (q.src[k]?.getD 0) 0 (wr (q.n - 1))&&lZ (q.tgt[k]?.getD 0) 0 (wr (q.n - 1)))=((q.src.all fun x=>lZ x 0 (wr (q.n - 1)))&&(q.tgt.all fun x=>lZ x 0 (wr (q.n - 1)))):=by
    rw [←nJ 0 q.src,←nJ 0 q.tgt,←e]
    rw [Bool.eq_iff_iff,Bool.and_eq_true,pV,pV,pV]
    simp only [Bool.and_eq_true]
    exact ⟨fun h=>⟨fun k hk=>(h k hk).1,fun k hk=>(h k hk).2⟩,fun h k hk=>⟨h.1 k hk,h.2 k hk⟩⟩
   rw [e2,hall,decide_eq_true (by omega:(q.src.length:Int)=(q.tgt.length:Int))]
   cases (q.src.all fun x=>lZ x 0 (wr (q.n - 1)))&&(q.tgt.all fun x=>lZ x 0 (wr (q.n - 1))) with
   |false=>simp
   |true=>
    simp only [cond_true,Sum.elim_inl]
    rw [sD,Option.bind_some,decide_eq_true (by omega:(q.tgt.length:Int)=(q.src.length:Int)),xI,xI]
    simp
  ·rw [decide_eq_false (by omega: ¬ (q.src.length:Int)=(q.tgt.length:Int))]
   simp only [Bool.false_and,Bool.and_false]
   cases (List.range (min q.src.length q.tgt.length)).all _ with
   |false=>rfl
   |true=>
    simp only [cond_true,Sum.elim_inl]
    rw [sD,Option.bind_some,decide_eq_false (by omega: ¬ (q.tgt.length:Int)=(q.src.length:Int)),xI,xI]
    simp
 ·unfold mF
  rw [kN (by omega),cond_true,kN (by omega),cond_true,pQ 0 (by omega),Option.bind_some,sD,Option.bind_some,pQ 0 (by omega),Option.bind_some,sD,Option.bind_some]
  cases lZ (q.src[k]?.getD 0) 0 (wr (q.n - 1)) <;> cases lZ (q.tgt[k]?.getD 0) 0 (wr (q.n - 1)) <;> rfl
 ·unfold mF
  by_cases e:q.src.length≤q.tgt.length
  ·rw [nV (by omega),cond_false]
  ·rw [kN (by omega),cond_true,nV (by omega),cond_false]
theorem aAu {q:Qv} (h:aEt q=true): ∃ n:Nat,q.n=n∧1≤n∧n≤5∧q.src.length=q.tgt.length∧q.src.length≤6∧(∀ x∈q.src,0≤x∧x<n)∧ ∀ x∈q.tgt,0≤x∧x<n:=by
 unfold aEt at h
 simp only [Bool.and_eq_true,decide_eq_true_eq,List.all_eq_true] at h
 obtain ⟨h1,h2,h3,h4,h5⟩:=h
 have h1:=gP h1
 rw [eZ (by omega)] at h4 h5
 refine ⟨q.n.toNat,by omega,by omega,by omega,by omega,by omega,fun x hx=>?_,fun x hx=>?_⟩
 ·have:=gP (h4 x hx);omega
 ·have:=gP (h5 x hx);omega
def aEu (q:Qv) (d:List Int):Bool:=aEt q&&(decide ((d.length:Int)=q.n)&&((d.all fun x=>lZ x 0 4)&&decide (d.sum≤8)))
theorem aLg {d:List Int} (h: ∀ x∈d,0≤x∧x≤4):0≤d.sum∧d.sum≤4*d.length:=by
 induction d with
 |nil=>simp
 |cons x d ih=>
  have h1:=h x (by simp)
  have h2:=ih fun y hy=>h y (by simp [hy])
  simp only [List.sum_cons,List.length_cons]
  omega
theorem tY {d:List Int} {k:Nat} (hk:k<d.length):(d.take (k+1)).sum=(d.take k).sum +d[k]?.getD 0:=by
 rw [List.take_succ_eq_append_getElem hk,List.sum_append]
 simp [hk]
theorem aMd {d:List Int} (h: ∀ x∈d,0≤x∧x≤4) (hl:d.length≤1048576):fL d=some d.sum:=by
 unfold fL
 rw [fA (r:=d.sum) (fun k=>((d.take k).sum,(k:Int))) d.length (by simp) (fun k hk=>?_) (fun _=>?_)];rfl
 ·unfold jZ
  simp only
  rw [kN hk,cond_true,pQ 0 hk,Option.bind_some,dG hk (by omega)]
  have h1:=aLg (d:=d.take (k+1)) fun x hx=>h x (List.mem_of_mem_take hx)
  rw [←tY hk,eZ (by simp at h1;omega)]
 ·unfold jZ
  simp only
  rw [nV (Nat.le_refl _),cond_false,List.take_length]
theorem aLh {q:Qv} {d:List Int} (hq:bQ q) (hd:bI d):tT q d=some (aEu q d):=by
 unfold tT aEu
 rw [aPm hq,Option.bind_some]
 refine fJ fun _=>fJ fun _=>?_
 rw [pB hd,Option.bind_some]
 refine fJ fun h=>?_
 rw [aMd (fun x hx=>gP (List.all_eq_true.1 h x hx)) hd,Option.bind_some]
theorem aLi {q:Qv} {d:List Int} (hq:bQ q) (hd:bI d):tR q d=some (aEu q d):=by
 unfold bI at hd
 unfold tR aEu
 rw [aPn hq,Option.bind_some]
 refine gK fun _=>gK fun _=>?_
 cases hall:d.all (fun x=>lZ x 0 4) with
 |true=>
  have hb: ∀ x∈d,0≤x∧x≤4:=fun x hx=>gP (List.all_eq_true.1 hall x hx)
  rw [fA (r:= .inl d.sum) (fun k=>((d.take k).sum,(k:Int))) d.length (by simp) (fun k hk=>?_) (fun _=>?_)];rfl
  ·unfold iM
   simp only
   rw [kN hk,cond_true,pQ 0 hk,Option.bind_some,sD,Option.bind_some]
   have hin:lZ (d[k]?.getD 0) 0 4=true:=by rw [List.getElem?_eq_getElem hk];exact List.all_eq_true.1 hall _ (List.getElem_mem hk)
   rw [hin,Bool.not_true,cond_false,Option.bind_some,dG hk (by omega)]
   have h1:=aLg (d:=d.take (k+1)) fun x hx=>hb x (List.mem_of_mem_take hx)
   rw [←tY hk,eZ (by simp at h1;omega)]
  ·unfold iM
   simp only
   rw [nV (Nat.le_refl _),cond_false,List.take_length]
 |false=>
  have key:=aMS (body:=iM d) (s:=(0,0)) (fun s=> ∃ k:Nat,s.2=k∧k≤d.length∧ ∀ j,j<k→lZ (d[j]?.getD 0) 0 4=true) (fun s=>d.length - s.2.toNat) (fun r=>r= .inr false)
   ⟨0,rfl,Nat.zero_le _,fun j hj=>absurd hj (Nat.not_lt_zero _)⟩ (fun s ⟨k,hs,hk,hj⟩=>?_)
  ·obtain ⟨r,h1,h2⟩:=key
   rw [h1,h2];rfl
  ·obtain ⟨t,s2⟩:=s
   simp only at hs
   subst hs
   rcases Nat.lt_or_ge k d.length with hlt|hge
   ·unfold iM
    simp only
    rw [kN hlt,cond_true,pQ 0 hlt,Option.bind_some,sD,Option.bind_some]
    cases hin:lZ (d[k]?.getD 0) 0 4 with
    |false=>exact .inr ⟨_,rfl,rfl⟩
    |true=>
     rw [Bool.not_true,cond_false,Option.bind_some,dG hlt (by omega)]
     refine .inl ⟨_,rfl,⟨k+1,rfl,hlt,fun j hj2=>?_⟩,by simp;omega⟩
     by_cases e:j=k
     ·subst e;exact hin
     ·exact hj j (by omega)
   ·exfalso
    have:d.all (fun x=>lZ x 0 4)=true:=by
     rw [←nJ 0 d,pV];exact fun j hj'=>hj j (by omega)
    rw [hall] at this;cases this
theorem aAv {q:Qv} {d:List Int} (h:aEu q d=true):aEt q=true∧(d.length:Int)=q.n∧(∀ x∈d,0≤x∧x≤4)∧d.sum≤8:=by
 unfold aEu at h
 simp only [Bool.and_eq_true,decide_eq_true_eq,List.all_eq_true] at h
 exact ⟨h.1,h.2.1,fun x hx=>gP (h.2.2.1 x hx),h.2.2.2⟩
def aDP (r:Rp):Bool:=kU r.p&&(aEu r.q r.dims&&(decide ((r.maps.length:Int)=(r.q.src.length:Int))&&(List.range r.maps.length).all fun k=>
 aBh r.p (r.maps[k]?.getD ⟨0,0,[]⟩)&&(decide ((r.maps[k]?.getD ⟨0,0,[]⟩).cols=r.dims[(r.q.src[k]?.getD 0).toNat]?.getD 0)&&decide ((r.maps[k]?.getD ⟨0,0,[]⟩).rows=r.dims[(r.q.tgt[k]?.getD 0).toNat]?.getD 0))))
theorem dI {α:Type} {l:List α} {k:Nat} (d:α) (h:k<l.length):l[k]?.getD d∈l:=by rw [List.getElem?_eq_getElem h];exact List.getElem_mem h
theorem aIK {r:Rp} (h:bR r):tS r=some (aDP r):=by
 obtain ⟨h1,h2,⟨h3,h4⟩,_⟩:=h
 unfold tS aDP
 rw [aDO,Option.bind_some]
 refine gK fun hF=>?_
 rw [aLi h1 h2,Option.bind_some]
 refine gK fun hD=>?_
 obtain ⟨hQ,hd1,hd2,_⟩:=aAv hD
 obtain ⟨n,hn,_,_,hq1,hq2,hq3,hq4⟩:=aAu hQ
 refine gK fun hL=>?_
 have hL:=of_decide_eq_true hL
 rw [sB (fun k=>aBh r.p (r.maps[k]?.getD ⟨0,0,[]⟩)&&(decide ((r.maps[k]?.getD ⟨0,0,[]⟩).cols=r.dims[(r.q.src[k]?.getD 0).toNat]?.getD 0)&&decide ((r.maps[k]?.getD ⟨0,0,[]⟩).rows=r.dims[(r.q.tgt[k]?.getD 0).toNat]?.getD 0))) false (n:=r.maps.length) (by omega) (fun k hk=>?_) (fun _=>?_),Option.bind_some]
 ·cases (List.range r.maps.length).all _ <;> rfl
 ·have hs:=hq3 _ (dI 0 (show k<r.q.src.length by omega))
  have ht:=hq4 _ (dI 0 (show k<r.q.tgt.length by omega))
  unfold rA
  rw [kN hk,cond_true,pQ ⟨0,0,[]⟩ hk,Option.bind_some,aEO _ (h4 _ (dI _ hk)),Option.bind_some,Option.bind_some,pQ 0 (by omega),Option.bind_some,atI 0 hs.1 (by omega),Option.bind_some,Option.bind_some,pQ 0 (by omega),Option.bind_some,atI 0 ht.1 (by omega),Option.bind_some]
  cases aBh r.p _ <;> cases decide ((r.maps[k]?.getD _).cols=_) <;> cases decide ((r.maps[k]?.getD _).rows=_) <;> rfl
 ·unfold rA
  rw [nV (Nat.le_refl _),cond_false]
theorem aIL {r:Rp} (h:bR r):tU r=some (aDP r):=by
 obtain ⟨h1,h2,⟨h3,h4⟩,_⟩:=h
 unfold tU aDP
 rw [aBa,Option.bind_some]
 refine gK fun hF=>?_
 rw [aLh h1 h2,Option.bind_some]
 refine gK fun hD=>?_
 obtain ⟨hQ,hd1,hd2,_⟩:=aAv hD
 obtain ⟨n,hn,_,_,hq1,hq2,hq3,hq4⟩:=aAu hQ
 refine gK fun hL=>?_
 have hL:=of_decide_eq_true hL
 rw [sB (fun k=>aBh r.p (r.maps[k]?.getD ⟨0,0,[]⟩)&&(decide ((r.maps[k]?.getD ⟨0,0,[]⟩).cols=r.dims[(r.q.src[k]?.getD 0).toNat]?.getD 0)&&decide ((r.maps[k]?.getD ⟨0,0,[]⟩).rows=r.dims[(r.q.tgt[k]?.getD 0).toNat]?.getD 0))) false (n:=r.maps.length) (by omega) (fun k hk=>?_) (fun _=>?_),Option.bind_some]
 ·cases (List.range r.maps.length).all _ <;> rfl
 ·have hs:=hq3 _ (dI 0 (show k<r.q.src.length by omega))
  have ht:=hq4 _ (dI 0 (show k<r.q.tgt.length by omega))
  unfold rD
  rw [kN hk,cond_true,pQ ⟨0,0,[]⟩ hk,Option.bind_some,aNM _ (h4 _ (dI _ hk)),Option.bind_some,pQ 0 (by omega),Option.bind_some,atI 0 hs.1 (by omega),Option.bind_some,pQ 0 (by omega),Option.bind_some,atI 0 ht.1 (by omega),Option.bind_some]
  cases aBh r.p _ <;> cases decide ((r.maps[k]?.getD _).cols=_) <;> cases decide ((r.maps[k]?.getD _).rows=_) <;> rfl
 ·unfold rD
  rw [nV (Nat.le_refl _),cond_false]
end
end Go.Proofs.YtghechfdejhapaaGreat

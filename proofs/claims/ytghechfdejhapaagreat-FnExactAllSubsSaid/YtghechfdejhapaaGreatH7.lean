/-
  Several texts of the claim in one.
-/
import Derived.Lib.AppendZerosOnto
import Derived.Test.YtghechfdejhapaaGreatH6
set_option linter.unusedVariables false
set_option linter.unusedSimpArgs false
namespace Go.Proofs.YtghechfdejhapaaGreat
open Go.RowKit
noncomputable section
set_option maxRecDepth 10000
structure HasV (P:Program) (f:FuncId) (ds:List AV) (r:AV):Prop where
 enters:Enters P f
 calls: ∀ (w:World) (args:Array Value) (S:List Nat),RepVs w ds args.toList S→Calls P f args w fun e w'=> ∃ v S',e= .returned v∧Below w.heap.size w w'∧RepD w' r v S'∧ ∀ x∈S',x∈S
theorem aBw {w:World} {h:Hp} {u:Us} {ν:Nu} {d:AV} {v:Value} (r:Rep1 w h u ν d v) (ok:eP d=true): ∃ S,RepD w d v S∧ ∀ x∈S,gV h ν x:=by
 cases d <;> simp only [eP,Bool.false_eq_true] at ok <;> simp only [Rep1] at r
 ·exact ⟨[],by rw [r.1];exact zD r.2,by simp⟩
 ·exact r
 ·exact r
theorem aCk {w:World} {h:Hp} {u:Us} {ν:Nu} : ∀ {ds:List AV} {vs:List Value},All2 (Rep1 w h u ν) ds vs→ds.all eP=true→ ∃ S,RepVs w ds vs S∧ ∀ x∈S,gV h ν x
 | [],vs,r,_=>by simp only [All2] at r;subst r;exact ⟨[],by simp [RepVs],by simp⟩
 |d::ds,vs,⟨v,q,e,r1,r2⟩,ok=>by
  subst e
  simp only [List.all_cons,Bool.and_eq_true] at ok
  obtain ⟨S1,a1,a2⟩:=aBw r1 ok.1
  obtain ⟨S2,b1,b2⟩:=aCk r2 ok.2
  refine ⟨S1++S2,by simp only [RepVs];exact ⟨v,q,S1,S2,rfl,rfl,a1,b1⟩,fun x hx=>?_⟩
  rcases List.mem_append.1 hx with h|h
  ·exact a2 x h
  ·exact b2 x h
theorem aOE {w:World} {h:Hp} {u:Us} {ν:Nu} {d:AV} {v:Value} (r:RepA w h u ν d v) (ok:tH d=true): ∃ S,RepD w d v S∧ ∀ x∈S,gV h ν x:=by
 cases d <;> simp only [tH,eP,Bool.false_eq_true] at ok <;> simp only [RepA,RepB] at r
 ·exact aBw r rfl
 ·exact aBw r rfl
 ·exact aBw r rfl
 ·obtain ⟨vs,rfl,r⟩:=r
  obtain ⟨S,a,b⟩:=aCk r ok
  exact ⟨S,by simp only [RepD];exact ⟨vs,rfl,a⟩,b⟩
 ·obtain ⟨vs,rfl,r⟩:=r
  obtain ⟨S,a,b⟩:=aCk r ok
  exact ⟨S,by simp only [RepD];exact ⟨vs,rfl,a⟩,b⟩
theorem aCl {w:World} {h:Hp} {u:Us} {ν:Nu} : ∀ {ds:List AV} {vs:List Value},All2 (RepA w h u ν) ds vs→ds.all tH=true→ ∃ S,RepVs w ds vs S∧ ∀ x∈S,gV h ν x
 | [],vs,r,_=>by simp only [All2] at r;subst r;exact ⟨[],by simp [RepVs],by simp⟩
 |d::ds,vs,⟨v,q,e,r1,r2⟩,ok=>by
  subst e
  simp only [List.all_cons,Bool.and_eq_true] at ok
  obtain ⟨S1,a1,a2⟩:=aOE r1 ok.1
  obtain ⟨S2,b1,b2⟩:=aCl r2 ok.2
  refine ⟨S1++S2,by simp only [RepVs];exact ⟨v,q,S1,S2,rfl,rfl,a1,b1⟩,fun x hx=>?_⟩
  rcases List.mem_append.1 hx with h|h
  ·exact a2 x h
  ·exact b2 x h
section
variable {P:Program} {dst:Option Tmp} {ty:TypeId} {pos:String} {aft:Array Edge} {g:Option (Nat×Bool)} {ins:Operand→Option AV} {hp:Hp} {κ:Kp}
theorem aHP {fo:Operand} {xs:Array Operand} {ats:Array TypeId} {f:FuncId} {ds:List AV} {k:Nat} {es:List (List AV)} (hc:HasV P f ds (.list k es)) (hf:ins fo=some (.fn f [])) (hx:evs ins xs.toList=some ds) (hok:ds.all tH=true):
  AEff P ⟨dst,.call ⟨.value fo,xs,ats⟩,ty,pos,aft,g⟩ ins hp κ ⟨.list k es,[],[],[]⟩:=by
 refine ⟨fun C s ν a w Q K {hκ} hi' ht hnw hd hs hK=>?_⟩
 have h1:=hs.ev ((hi' fo (by simp [Op.operands,Call.operands])).trans hf)
 simp only [RepA,RepB] at h1
 obtain ⟨cv,h1,h2⟩:=h1
 simp only [All2] at h2
 subst h2
 have h3:=xE hs (xs:=xs.toList) (fun y hy=>hi' y (by simp [Op.operands,Call.operands];exact .inr (Array.mem_toList_iff.1 hy))) hx
 obtain ⟨S,e1,e2⟩:=aCl h3 hok
 have hcall:=hc.calls w (xs.map a.eval) S (by simpa using e1)
 unfold Oper.wp
 have hex:(execOp a.eval ⟨dst,.call ⟨.value fo,xs,ats⟩,ty,pos,aft,g⟩).run P w= .ok (.enter f (xs.map a.eval)) w:=by
  have:execOp a.eval ⟨dst,.call ⟨.value fo,xs,ats⟩,ty,pos,aft,g⟩=callFunc f (xs.map a.eval):=by
   simp [execOp,resolve,h1,Deferred.ofValue,invoke]
  rw [this]
  exact hc.enters _ _
 rw [hex]
 simp only [Oper.upon]
 refine hcall.mono fun e w' ⟨v,S',he,hb,hr,hsub⟩=>?_
 subst he
 simp only
 obtain ⟨φ,hh⟩:=hs.heap
 have ext:Ext w s.heap s.used ν w' s.heap s.used ν:=⟨fun _ h=>h,fun _ blk _ h=>⟨blk,h,rfl,rfl,rfl⟩,fun x hx h=>⟨hb.block x hx,h⟩,rfl⟩
 refine hK ν _ _ (hs.step hd (s':=s.app dst _) ext (hb.mono hs.base) ⟨φ,fun b blk hbl=>?_,hh.apart⟩ rfl ?_)
 ·obtain ⟨g1,g2,g3,g4⟩:=hh.blk b blk hbl
  exact ⟨g1,g2.ext ext rfl (fun y hy=>hb.block y (g2.lt y hy)),g3,g4⟩
 ·exact ⟨S',hr,fun x hx=>e2 x (hsub x hx)⟩
theorem aMW {T:List (Nat×Ty)} (hT:TyOk P T) {s:AState} {x:Operand} {zl zh:Operand} {t e:Nat} {y ye:Ty} {ao:Option Addr} {n c:Nat} {kl kh:IntKind} {l h:Int} (q:0≤l∧l≤h∧h≤n∧n≤c) (hx:s.ev x=some (.sc (.slice ao n c))) (hlo:s.ev zl=some (.sc (.int kl l))) (hhi:s.ev zh=some (.sc (.int kh h))) (hy:dX T t=some y) (hd:y.desc= .slice e) (hye:dX T e=some ye):
  AEff P ⟨dst,.slice t x (some zl) (some zh) none,ty,pos,aft,g⟩ s.ev s.heap s.kp ⟨.sc (.slice (if c=l.toNat then ao else ao.map (·.add (l.toNat*ye.size))) (h.toNat - l.toNat) (c - l.toNat)),[],[],[]⟩:=by
 refine AEff.pure fun C s' ν a w hi' ht hs=>?_
 have h1:=hs.ev ((hi' x (by simp [Op.operands])).trans hx)
 have h2:=hs.ev ((hi' zl (by simp [Op.operands])).trans hlo)
 have h3:=hs.ev ((hi' zh (by simp [Op.operands])).trans hhi)
 simp only [RepA,RepB,Rep1] at h1 h2 h3
 obtain ⟨i1,z1,d1,y1⟩:=hT.is hy
 obtain ⟨i2,z2,d2,y2⟩:=hT.is hye
 have hsb:=wP (P:=P) (len:=n) (cap:=c) (lo:=some (.int kl l)) (hi:=some (.int kh h)) w (.inr ⟨kl,rfl⟩) (.inr ⟨kh,rfl⟩) q.1 q.2.1 q.2.2.1 q.2.2.2
 refine ⟨_,?_,vR rfl⟩
 simp only [execOp,Instr.sliceAt,Instr.slice,h1.1,h2.1,h3.1,Sem.run_bind,jQ (y1.slice hd),Result.andThen_ok,jE y2.info,y2.size,Option.map_none,Option.map_some]
 rw [hsb]
 by_cases e:c=l.toNat <;> simp [e]
end
theorem aOF {w:World} {k n c:Nat} {es:List (List AV)} {ao:Option Addr} {S:List Nat} {l h:Int} (r:RepD w (.list k es) (.slice ao n c) S) (q:0≤l∧l≤h∧h≤n): ∃ S',RepD w (.list k ((es.drop l.toNat).take (h.toNat - l.toNat))) (.slice (if c=l.toNat then ao else ao.map (·.add (l.toNat*k))) (h.toNat - l.toNat) (c - l.toNat)) S'∧ ∀ x∈S',x∈S:=by
 simp only [RepD] at r ⊢
 obtain ⟨ao',c',h3,h4,h5,h6⟩:=r
 cases h3
 have hlen:((es.drop l.toNat).take (h.toNat - l.toNat)).length=h.toNat - l.toNat:=by simp;omega
 rw [hlen]
 by_cases hz:h.toNat - l.toNat=0
 ·refine ⟨[],⟨_,_,rfl,by omega,by omega,.inl ⟨?_,rfl⟩⟩,by simp⟩
  rw [hz];simp
 ·rcases h6 with ⟨h6,_⟩|⟨b,o,S',rfl,h8,rfl,h9⟩
  ·have:es.length=0:=by rw [h6];rfl
   omega
  ·rw [if_neg (by omega)]
   obtain ⟨U1,g1,g2⟩:=h9.dropT (m:=l.toNat)
   obtain ⟨U2,g3,g4⟩:=g1.takeT (m:=h.toNat - l.toNat)
   refine ⟨b::U2,⟨_,_,rfl,by omega,by omega,.inr ⟨b,o+l.toNat*k,U2,by simp [Addr.add_lit],h8,rfl,g3⟩⟩,?_⟩
   intro y hy
   rcases List.mem_cons.1 hy with rfl|h'
   ·simp
   ·simp [g2 y (g4 y h')]
def wD (m:Mt) (i:Int):Int:=wr (i*m.cols)
def aBT (m:Mt) (i:Int):Int:=wr (wr (i+1)*m.cols)
def aCm (m:Mt) (i:Int):Option (List Int):=bif (decide (0≤wD m i)&&(decide (wD m i≤aBT m i)&&decide (aBT m i≤(m.cells.length:Int)))) then some ((m.cells.drop (wD m i).toNat).take ((aBT m i).toNat - (wD m i).toNat)) else none
theorem aRx (m:Mt) (i:Int) (ao:Option Addr) (n c:Nat) (q:0≤wD m i∧wD m i≤aBT m i∧aBT m i≤n∧n≤c):HasC Tryz.prog 190 [.agg [.int m.rows,.int m.cols,.sc (.slice ao n c)],.int i]
  (.sc (.slice (if c=(wD m i).toNat then ao else ao.map (·.add ((wD m i).toNat *1))) ((aBT m i).toNat - (wD m i).toNat) (c - (wD m i).toNat))):=by
 refine bJ aB (rvs:=[.tmp 4]) (ns:=[0,1,2,3,4,5,6,7,8,9,10,11,12,13]) Tryz.func190 rfl rfl Tryz.ntmps190 rfl rfl rfl ?_
 refine eH ?_
 refine cK ?_
 refine aA (cE rfl rfl rfl rfl) rfl rfl rfl ?_
 refine aA (cC rfl) rfl rfl rfl ?_
 refine cZ ?_
 refine eK ?_
 refine eH ?_
 refine cK ?_
 refine aA (bW aB rfl rfl rfl rfl rfl rfl rfl) rfl rfl rfl ?_
 refine aA (bE aB rfl rfl rfl rfl rfl rfl rfl) rfl rfl rfl ?_
 refine aA (cX rfl) rfl rfl rfl ?_
 refine aA (bW aB rfl rfl rfl rfl rfl rfl rfl) rfl rfl rfl ?_
 refine aA (bE aB rfl rfl rfl rfl rfl rfl rfl) rfl rfl rfl ?_
 refine aA (gJ rfl rfl) rfl rfl rfl ?_
 refine aA (cX rfl) rfl rfl rfl ?_
 refine aA (bT rfl rfl) rfl rfl rfl ?_
 refine aA (bW aB rfl rfl rfl rfl rfl rfl rfl) rfl rfl rfl ?_
 refine aA (bE aB rfl rfl rfl rfl rfl rfl rfl) rfl rfl rfl ?_
 refine aA (gJ rfl rfl) rfl rfl rfl ?_
 refine aA (aMW aB (l:=wD m i) (h:=aBT m i) q rfl rfl rfl rfl rfl rfl) rfl rfl rfl ?_
 refine aA (cC rfl) rfl rfl rfl ?_
 refine cZ ?_
 refine eK ?_
 refine aL ?_
 exact aS rfl rfl rfl (aSa rfl)
theorem aMX (m:Mt) (i:Int) (r:List Int) (h:aCm m i=some r):HasV Tryz.prog 190 [.agg (eM m),.int i] (.list 1 (List.map eI r)):=by
 obtain ⟨q,h⟩:=cg h
 obtain rfl:=so h
 simp only [Bool.and_eq_true,decide_eq_true_eq] at q
 refine ⟨Enters.mk Tryz.func190 (by kernel_rfl) (by kernel_rfl),fun w args S hargs=>?_⟩
 obtain ⟨args⟩:=args
 simp only [RepVs] at hargs
 obtain ⟨v,r,S1,S2,h1,rfl,h3,v2,r2,S3,S4,h4,rfl,h5,rfl,rfl⟩:=hargs
 subst h4 h1
 simp only [RepD,eM] at h3
 obtain ⟨vs,rfl,h3⟩:=h3
 simp only [RepVs] at h3
 obtain ⟨u1,r1,T1,T2,rfl,rfl,g1,u2,r3,T3,T4,rfl,rfl,g2,u3,r4,T5,T6,rfl,rfl,g3,rfl,rfl⟩:=h3
 have hu3: ∃ ao n c,u3= .slice ao n c∧n=m.cells.length∧n≤c:=by
  simp only [RepD] at g3
  obtain ⟨a,c,rfl,g4,_⟩:=g3
  exact ⟨_,_,_,rfl,by simp [aPB],g4⟩
 obtain ⟨ao,n,c,rfl,hn,hnc⟩:=hu3
 have hcall:=(aRx m i ao n c ⟨q.1,q.2.1,by omega,hnc⟩).calls w #[.agg #[u1,u2,.slice ao n c],v2] (T1++(T3++([]++[]))++(S3++[])) (by
  simp only [RepVs]
  refine ⟨_,_,_,_,rfl,rfl,?_,_,_,_,_,rfl,rfl,h5,rfl,rfl⟩
  simp only [RepD]
  refine ⟨[u1,u2,.slice ao n c],rfl,?_⟩
  simp only [RepVs]
  exact ⟨_,_,_,_,rfl,rfl,by simpa only [RepD] using g1,_,_,_,_,rfl,rfl,by simpa only [RepD] using g2,_,_,[],[],rfl,rfl,zD rfl,rfl,rfl⟩)
 refine hcall.mono fun e w' ⟨v,S',he,hb,hr,_⟩=>?_
 simp only [aJh,aNu,aAk] at hr
 obtain ⟨rfl,_,_⟩:=hr
 obtain ⟨U,k1,k2⟩:=aOF (l:=wD m i) (h:=aBT m i) g3 ⟨q.1,q.2.1,by omega⟩
 refine ⟨_,U,he,hb,?_,?_⟩
 ·have hes:((aNx m.cells).drop (wD m i).toNat).take ((aBT m i).toNat - (wD m i).toNat)=List.map eI ((m.cells.drop (wD m i).toNat).take ((aBT m i).toNat - (wD m i).toNat)):=by
   show ((m.cells.map eI).drop _).take _=_
   rw [List.map_take,List.map_drop]
  rw [←hes]
  exact k1.below hb
 ·intro x hx
  have:=k2 x hx
  simp [this]
def aPU (hp:Hp) (touch:List Nat):List (Nat×Option Blk)→Prop
 | []=>True
 |(b,x)::r=>hp b=x∧touch.contains b=true∧aPU hp touch r
theorem aFc {hp h:Hp} {touch:List Nat} (ht: ∀ b∈touch,h b=hp b): ∀ {ed:List (Nat×Option Blk)},aPU hp touch ed→bG ed h=h
 | [],_=>rfl
 |(b,x)::r,⟨h1,h2,h3⟩=>by
  funext c
  simp only [bG]
  by_cases e:c=b
  ·subst e
   rw [cB,cond_true,←h1,ht c (by simpa using h2)]
  ·rw [cG e,cond_false,aFc ht h3]
theorem AEff.pureE {P:Program} {o:Oper} {ins:Operand→Option AV} {hp:Hp} {κ:Kp} {v:AV} {tc:List Nat} {ed:List (Nat×Option Blk)} (h:AEff P o ins hp κ ⟨v,tc,ed,[]⟩) (hs:aPU hp tc ed):AEff P o ins hp κ ⟨v,tc,[],[]⟩:=by
 refine ⟨fun C s ν a w Q K {hκ} hi ht hn hd hsim hK=>h.out C s ν a w Q K (hκ:=hκ) hi ht hn hd hsim fun ν' a' w' hs'=>hK ν' a' w' ?_⟩
 have e:s.app o.dst ⟨v,tc,ed,[]⟩=s.app o.dst ⟨v,tc,[],[]⟩:=by
  unfold AState.app
  rw [aFc ht hs]
  rfl
 rw [←e]
 exact hs'
theorem aJr {P:Program} {t tn e bytes:Nat} {size:Nat} (et:ElemTy P t e size bytes) (htn:P.underlying tn=some (.int .i64)) (hs:0<size) (w:World) (n:Nat) (h0:0<n) (hn:n≤1048576) (hb:n*bytes≤140737488355328) (ty:Nat):
  ∃ G cur,n≤G∧G≤maxLen∧cur.size=G*size∧(Builtin.append_ #[t,tn] ty #[.slice none 0 0,.int .i64 n]).run P w= .ok (.slice (some ⟨w.heap.size,0,none⟩) n G) (w.drew.alloc (.cells cur e)):=by
 obtain ⟨i,z,h1,h2,h3,h4,h5⟩:=et.hi
 have hold:(Builtin.firstCells i.size 0 (.slice none 0 0)).run P w.drew= .ok ([]:List Value).toArray w.drew:=run_firstCells_none w.drew i.size 0 0 0
 have h:=Lib.run_append_grow_zeros w t tn ty e i z .i64 .i64 et.ht htn h1 h2 none 0 0 [] hold n h0 (by rw [h3];exact hs) (by omega) (by omega) (by rw [h4];omega) (growslice_fits (by omega) (by rw [h4];simpa using hb))
 have hG:=grownCap_ge w (0+n) 0 e
 have hM:=grownCap_le_maxLen w (0+n) 0 e (by unfold maxLen;omega)
 rw [Nat.zero_add] at h hG hM
 refine ⟨grownCap w n 0 e,_,hG,hM,?_,h⟩
 simp only [Array.size_append,List.size_toArray,List.length_nil,Nat.zero_add]
 unfold Builtin.zeroCells
 simp only [Array.size_map,Array.size_range,h5]
 rw [←Nat.add_mul]
 congr 1
 omega
set_option maxRecDepth 100000 in
set_option maxHeartbeats 1000000 in
theorem aQw (n:Nat) (w:World) (hn:n≤1048576):
  Calls Tryz.prog 275 #[.slice none 0 0,.int .i64 n] w (Ret w fun v w'=> ∃ S,Own 3 aIM w' w.heap.size v [] S):=by
 by_cases h0:n=0
 ·subst h0
  show Calls Tryz.prog 275 #[.slice none 0 0,.int .i64 0] w _
  go_enter Tryz.func275,Tryz.ntmps275
  go_wp2
  go_ret
  exact ⟨_,rfl,Below.refl _ _,[],Own.nil _ _ _ _⟩
 ·have h1: ¬ ((n:Int)<0):=by omega
  have h4:(n:Int)>0:=by omega
  have key: ∀ ty,∃ G cur,n≤G∧G≤maxLen∧cur.size=G*1∧(Builtin.append_ #[22,3] ty #[.slice none 0 0,.int .i64 n]).run Tryz.prog w= .ok (.slice (some ⟨w.heap.size,0,none⟩) n G) (w.drew.alloc (.cells cur 3)):=fun ty=>
   aJr aSf Tryz.underlying3 (by decide) w n (by omega) hn (by omega) ty
  obtain ⟨G,cur,hG,hM,hc,hr0⟩:=key 22
  have hG63:G≤9223372036854775807:=by unfold maxLen at hM;omega
  have HE:Hid (Own 3 aIM (w.drew.alloc (.cells cur 3)) w.heap.size (.slice (some ⟨w.heap.size,0,none⟩) 0 G) [] [w.heap.size]∧Below w.heap.size w (w.drew.alloc (.cells cur 3))):=
   ⟨⟨[],[],World.ownsRow_made w.drew cur G (Nat.le_refl _) hM hc,⟨rfl,rfl⟩,rfl,⟨by simp,by simp⟩⟩,((aKc 1 (Below.refl _ _):Below w.heap.size w (w.drewN 1))).alloc (Nat.le_refl _) _⟩
  clear key hM hc
  go_enter Tryz.func275,Tryz.ntmps275
  go_wp2_with (at_builtin;refine Lib.wpList_append_run _ rfl _ _ _ _ rfl _ _ rfl rfl _ _ hr0 ?_)
  all_goals (go_ret;exact ⟨_,rfl,HE.out.2,_,HE.out.1⟩)
def aMY (n:Int):Option (List Int):=bif (decide (0≤n)&&decide (n≤1048576)) then some [] else none
theorem aQx {h:Hp} {k:Nat} :viewA h (.nil k) (.sc (.slice none 0 0)):=rfl
theorem aRy (n:Int) (r:List Int) (h:aMY n=some r):HasC Tryz.prog 275 [.sc (.slice none 0 0),.int n] (.list 1 (List.map eI r)):=by
 obtain ⟨q,h⟩:=cg h
 obtain rfl:=so h
 simp only [Bool.and_eq_true,decide_eq_true_eq] at q
 refine ⟨Enters.mk Tryz.func275 (by kernel_rfl) (by kernel_rfl),fun w args S hargs=>?_⟩
 obtain ⟨args⟩:=args
 simp only [RepVs,RepD] at hargs
 obtain ⟨v,r,S1,S2,h1,rfl,⟨rfl,_,rfl⟩,v2,r2,S3,S4,rfl,rfl,⟨rfl,_,rfl⟩,rfl,rfl⟩:=hargs
 subst h1
 have hc:=aQw n.toNat w (by omega)
 rw [show ((n.toNat:Nat):Int)=n by omega] at hc
 refine hc.mono fun e w' ⟨v,he,hb,S2,ho⟩=>?_
 obtain ⟨g1,g2⟩:=aLG ho
 exact ⟨v,S2,he,hb,g1,g2⟩
theorem aMZ {σ:Nat→Option Nat} {n:Nat} {α:Type} {e:α→List AV} {z:α} {zc:List AV} (h:All2 (mJ σ n) zc (ow e z)) (m:Nat):All2 (All2 (mJ σ n)) (List.replicate m zc) ((List.replicate m z).map (ow e)):=by
 induction m with
 |zero=>rfl
 |succ m ih=>exact ⟨_,_,rfl,h,ih⟩
end
noncomputable section
structure HasT (P:Program) (f:FuncId) (ds:List AV) (hl:List (Nat×Blk)) (kp:Nat) (r:AV) (hl':List (Nat×Blk)):Prop where
 enters:Enters P f
 calls: ∀ (B:Nat) (M:Nat→Prop) (w:World) (args:Array Value) (ν:Nu) (φ:Nat→List Nat),(∀ x,M x→B≤x)→B≤w.heap.size→(∀ x,w.heap.size≤x→M x)→(∀ x,M x→ν.ok x)→All2 (RepA w (fD hl) (pM kp) ν) ds args.toList→HeapOk M w (fD hl) (pM kp) ν φ→
  Calls P f args w fun e w'=> ∃ v u' ν' φ',e= .returned v∧Below B w w'∧ExtF (fun x=> ¬ M x) w (fD hl) (pM kp) ν w' (fD hl') u' ν'∧HeapOk M w' (fD hl') u' ν' φ'∧RepA w' (fD hl') u' ν' r v
theorem aQy {M:Nat→Prop} {w:World} {h:Hp} {u:Us} {ν:Nu} {φ:Nat→List Nat} (hh:HeapOk M w h u ν φ) {x:Nat} (hx: ¬ M x):oC h ν x:=by
 intro b blk β c hb hν e
 subst e
 obtain ⟨_,g2,_,g4⟩:=hh.blk b blk hb
 exact hx (g4 _ (jF g2 hν))
theorem ExtF.shrink {F:Nat→Prop} {w w':World} {h h' g:Hp} {u u':Us} {ν ν':Nu} (e:ExtF F w h u ν w' h' u' ν') (hg: ∀ b blk,g b=some blk→h' b=some blk):ExtF F w h u ν w' g u' ν':=
 ⟨e.used,fun b blk hb hgb=>e.old b blk hb (hg b blk hgb),fun x hx hf=>⟨(e.free x hx hf).1,fun b blk β c hb hν=>(e.free x hx hf).2 b blk β c (hg b blk hb) hν⟩,e.okE⟩
theorem aDh {P:Program} {T:List (Nat×Ty)} (hT:TyOk P T) {f:FuncId} {fn:Func} {c:Code} {nt kp:Nat} {ds:List AV} {hl hl':List (Nat×Blk)} {r:AV} {rvs:List ResultVar} {ns:List Nat} (hf:P.funcs[f]? =some fn) (hb:fn.body=some c) (hname:(fn.name== "runtime.NumGoroutine")=false) (hnt:fn.ntmps=nt) (hres:fn.results.toList=rvs)
  (hlen:Nat.ble ds.length nt=true) (h:AC P nt c ⟨aBK ds,fD hl,pM kp,ns,⟨kp,true,none,true⟩⟩ (fun e t=> ∃ t',Ent t t'∧aSd T rvs r hl' e t')):HasT P f ds hl kp r hl':=by
 refine ⟨Enters.mk hf (by rw [hb];rfl) hname,fun B M w args ν φ hMB hB hM hMo hargs hheap=>?_⟩
 refine (callsIn_wide (n:=0)).1 (callsIn_of_wp_marks (F:=fw none) hf hb trivial ?_)
 have hlen':=Nat.le_of_ble_eq_true hlen
 have hal:args.size=ds.length:=by have:=hargs.len;simpa using this
 let C:Ctx:=⟨B,w,nt,M,hMB,⟨kp,true,none,true⟩,w,fD hl,ν,fun x=> ¬ M x,(fun _ x _ hm hn=>hn hm),(fun _ h=>by cases h),none,fun _=>rfl⟩
 have hsim:Sim C ⟨aBK ds,fD hl,pM kp,ns,⟨kp,true,none,true⟩⟩ ν ⟨args++Array.replicate (fn.ntmps - args.size) undef,[]⟩ w:=by
  refine ⟨Below.refl _ _,hB,hM,qB,by show (args++Array.replicate (fn.ntmps - args.size) undef).size=nt;simp [hnt];omega,?_,⟨φ,hheap⟩,rfl,ExtF.refl fun _ _ h=>aQy hheap h,Nat.le_refl _,hMo,fun _ h=>by cases h⟩
  intro t x hx
  have hx':ds[t]? =some x:=by rw [←aDd];exact hx
  obtain ⟨v,h1,h2⟩:=hargs.get hx'
  refine ⟨v,?_,h2⟩
  have hlt:t<args.size:=by
   rcases Nat.lt_or_ge t args.size with h'|h'
   ·exact h'
   ·rw [List.getElem?_eq_none (by simpa using h')] at h1;cases h1
  show (args++Array.replicate (fn.ntmps - args.size) undef)[t]? =some v
  rw [Array.getElem?_append_left hlt]
  simpa using h1
 refine wpIn_mono (h.out C rfl _ _ w hsim 0) fun e a' w0 ⟨s1,ν1,⟨s',hent,hq⟩,hs1⟩=>?_
 obtain ⟨ν',hs0⟩:=hent C ν1 a' w0 hs1
 obtain ⟨Ds,d1,d2,d3⟩:=hs0.defers
 obtain ⟨w',hs',hleave⟩:=hs0.leave (P:=P) (n:=0) d1 d2 d3
 obtain ⟨he,⟨avs,hv,hone⟩,hsame⟩:=hq
 have hsub: ∀ b blk,fD hl' b=some blk→s'.heap b=some blk:=fun b blk hb=>aEl hsame (iU hb)
 obtain ⟨us,h1,h2⟩:=wC hT hs' hv
 obtain ⟨φ',hh⟩:=hs'.heap
 have hrun:(results fn a'.tmps).run P w'= .ok (if hh:us.toArray.size=1 then us.toArray[0] else .tuple us.toArray) w':=by
  unfold results
  rw [Sem.run_bind,Array.mapM_eq_mapM_toList,Sem.run_map,hres]
  have h1':=h1
  generalize hq:(List.mapM _ rvs:Sem (List Value))=m
  rw [show Sem.run P m w'= .ok us w' by rw [←hq];exact h1']
  simp
 have shr:=(Ext.refl w' s'.heap s'.used ν').shrink hsub
 have hrep:RepA w' (fD hl') s'.used ν' r (if hh:us.toArray.size=1 then us.toArray[0] else .tuple us.toArray):=by
  rcases hone with rfl|⟨g1,g2,rfl⟩
  ·obtain ⟨u,q,rfl,k1,k2⟩:=h2
   simp only [All2] at k2
   subst k2
   exact k1.ext shr
  ·have hul:us.length=avs.length:=h2.len
   rw [dif_neg (by simp;rw [hul];exact g1)]
   refine ⟨us,rfl,h2.congrM fun x hx v hr=>?_⟩
   exact aPR (hr.ext shr) (List.all_eq_true.1 g2 x hx)
 have hend:=hleave fn (fun e w'=> ∃ v u' ν' φ',e= .returned v∧Below B w w'∧ExtF (fun x=> ¬ M x) w (fD hl) (pM kp) ν w' (fD hl') u' ν'∧HeapOk M w' (fD hl') u' ν' φ'∧RepA w' (fD hl') u' ν' r v)
  ⟨_,hrun,_,s'.used,ν',φ',rfl,hs'.below,hs'.ext.shrink hsub,hh.shrink hsub (fun _ _ _ _ h=>h),hrep⟩
 cases e <;> simp only [aGy,Bool.false_eq_true] at he <;> exact hend
structure SOps (P:Program) (ops:Array Oper) (nt:Nat) (l:List Oper) (s:AState) (K:AState→Prop):Prop where
 out: ∀ (C:Ctx),C.nt=nt→ ∀ (ν:Nu) (a:Act) (w:World),Sim C s ν a w→ ∀ (n:Nat) (Q:Exit→Act→World→Prop),(∀ s' ν' a' w',K s'→Sim C s' ν' a' w'→Q .normal a' w')→wpListIn (fw C.rd) n P ops Q l a w
section
variable {P:Program} {ops:Array Oper} {nt:Nat} {l:List Oper} {s:AState} {K:AState→Prop}
theorem aPV (h:K s):SOps P ops nt [] s K:=⟨fun C hC ν a w hs n Q hQ=>hQ s ν a w h hs⟩
theorem fY {t:AState} (e:Ent s t) (h:SOps P ops nt l t K):SOps P ops nt l s K:=⟨fun C hC ν a w hs n Q hQ=>by
 obtain ⟨ν',hs'⟩:=e C ν a w hs
 exact h.out C hC ν' a w hs' n Q hQ⟩
theorem aPW {d:Option Tmp} {op:Op} {ty:TypeId} {pos:String} {aft:Array Edge} {g:Option (Nat×Bool)} {e:Eff} (he:AEff P ⟨d,op,ty,pos,aft,g⟩ s.ev s.heap s.kp e) (hd:aFq ⟨d,op,ty,pos,aft,g⟩ nt=true) (hg:lF ops s.env ⟨d,op,ty,pos,aft,g⟩=some true) (hn:(e.news.all fun b=> !s.used b)=true)
  (h:SOps P ops nt l (s.app d e) K):SOps P ops nt (⟨d,op,ty,pos,aft,g⟩::l) s K:=⟨fun C hC ν a w hs n Q hQ=>by
 subst hC
 refine wpListIn_step fun K' hK'=>?_
 have hst:aJf P ops C.nt ⟨d,op,ty,pos,aft,g⟩ s e:=⟨aDV hd,.inl ⟨hg,he,fun b hb=>by have:=List.all_eq_true.1 hn b hb;simpa using this⟩⟩
 exact aAi hst hs fun ν' a' w' hs'=>hK' _ _ (h.out C rfl ν' a' w' hs' n Q hQ)⟩
theorem aMa {Q:Exit→AState→Prop} {id:Nat} (h:SOps P l.toArray nt l s (Q .normal)):AC P nt (.region id l.toArray false) s Q:=by
 refine ⟨fun C hC ν a w hs n=>?_⟩
 exact wpIn_region_lit (h.out C hC ν a w hs n _ fun s' ν' a' w' hq hs'=>⟨s',ν',hq,hs'⟩)
end
def df1:AV→Bool
 | .sc _=>true
 | .nil _=>true
 | .dead=>true
 | .own _ _ _=>true
 | .ptr _ _ _=>true
 |_=>false
def dfC:AV→Bool
 | .abs _ _=>true
 |x=>df1 x
def dfB:AV→Bool
 | .agg cs=>cs.all df1
 |x=>df1 x
def dfA:AV→Bool
 | .tuple cs=>cs.all dfB
 |x=>dfB x
section
variable {w w':World} {h h':Hp} {u u':Us} {ν ν':Nu} (U: ∀ b,u b=true→u' b=true) (O: ∀ b blk',u b=true→h' b=some blk'→ ∃ blk,h b=some blk∧blk.k=blk'.k∧blk.es.length=blk'.es.length∧ν' b=ν b)
include U O
theorem aJs: ∀ {x:AV} {v:Value},Rep1 w h u ν x v→df1 x=true→Rep1 w' h' u' ν' x v:=by
 intro x v r t
 cases x <;> simp only [df1,Bool.false_eq_true] at t <;> simp only [Rep1] at r ⊢
 ·exact r
 ·exact r
 ·refine ⟨U _ r.1,fun blk hb=>?_⟩
  obtain ⟨blk0,e1,e2,e3,e4⟩:=O _ blk r.1 hb
  have:=r.2 blk0 e1
  rw [e4,←e3,←e2]
  exact this
 ·refine ⟨U _ r.1,fun blk hb=>?_⟩
  obtain ⟨blk0,e1,e2,e3,e4⟩:=O _ blk r.1 hb
  have:=r.2 blk0 e1
  rw [e4,←e2]
  exact this
end
section
variable {w w':World} {h h':Hp} {u u':Us} {ν ν':Nu} (U: ∀ b,u b=true→u' b=true) (O: ∀ b blk',u b=true→h' b=some blk'→ ∃ blk,h b=some blk∧blk.k=blk'.k∧blk.es.length=blk'.es.length∧ν' b=ν b)
include U O
theorem aLH: ∀ {xs:List AV} {vs:List Value},All2 (Rep1 w h u ν) xs vs→xs.all df1=true→All2 (Rep1 w' h' u' ν') xs vs
 | [],vs,r,_=>r
 |x::xs,vs,⟨v,q,e,r,k⟩,t=>by
  simp only [List.all_cons,Bool.and_eq_true] at t
  exact ⟨v,q,e,aJs U O r t.1,aLH k t.2⟩
theorem aNQ {x:AV} {v:Value} (r:RepB w h u ν x v) (t:dfB x=true):RepB w' h' u' ν' x v:=by
 cases x <;> simp only [RepB] at r ⊢ <;> first
  |exact aJs U O r t
  |(obtain ⟨vs,e,r⟩:=r;exact ⟨vs,e,aLH U O r t⟩)
  |(simp only [dfB,df1,Bool.false_eq_true] at t)
theorem aNR {x:AV} {v:Value} (r:RepA w h u ν x v) (t:dfA x=true):RepA w' h' u' ν' x v:=by
 by_cases ht: ∃ cs,x= .tuple cs
 ·obtain ⟨cs,rfl⟩:=ht
  obtain ⟨vs,e,r⟩:=r
  refine ⟨vs,e,r.congrM fun y hy d hd=>aNQ U O hd ?_⟩
  exact List.all_eq_true.1 t y hy
 ·have r':RepB w h u ν x v:=by cases x <;> first|exact r|exact absurd ⟨_,rfl⟩ ht
  have t':dfB x=true:=by cases x <;> first|exact t|exact absurd ⟨_,rfl⟩ ht
  have:=aNQ (w':=w') U O r' t'
  cases x <;> first|exact this|exact absurd ⟨_,rfl⟩ ht
theorem aQz {x:AV} {v:Value} {S:List Nat} (hk: ∀ b∈S,w'.heap[b]? =w.heap[b]?) (r:CellRep w h u ν x v S) (t:dfC x=true):CellRep w' h' u' ν' x v S:=by
 cases x <;> simp only [CellRep] at r ⊢ <;> first
  |exact ⟨aJs U O r.1 t,r.2⟩
  |exact r.keep hk
  |exact r
theorem aDi: ∀ {xs:List AV} {vs:List Value} {S:List Nat},(∀ b∈S,w'.heap[b]? =w.heap[b]?)→CellsRep w h u ν xs vs S→(∀ c∈xs,dfC c=true)→CellsRep w' h' u' ν' xs vs S
 | [],_,_,_,r,_=>r
 |x::xs,vs,S,hk,⟨v,q,S1,S2,e1,e2,r,k⟩,t=>by
  subst e2
  exact ⟨v,q,S1,S2,e1,rfl,aQz U O (fun b hb=>hk b (by simp [hb])) r (t x (by simp)),aDi (fun b hb=>hk b (by simp [hb])) k (fun c hc=>t c (by simp [hc]))⟩
theorem aJB {b:Nat} {blk:Blk} {S:List Nat} (hν:ν' b=ν b) (hk: ∀ x∈S,w'.heap[x]? =w.heap[x]?) (r:BlkOk w h u ν b blk S) (t: ∀ cs∈blk.es,∀ c∈cs,dfC c=true):BlkOk w' h' u' ν' b blk S:=by
 refine ⟨r.1,?_⟩
 rcases r.2 with ⟨q1,q2,q3⟩|⟨β,c,arr,ty,T,vs,q1,q2,q3,q4,q5,q6,q7,q8⟩
 ·exact .inl ⟨hν.trans q1,q2,q3⟩
 ·subst q6
  refine .inr ⟨β,c,arr,ty,T,vs,hν.trans q1,(hk β (by simp)).trans q2,q3,q4,q5,rfl,q7,aDi U O (fun x hx=>hk x (by simp [hx])) q8 fun c hc=>?_⟩
  obtain ⟨cs,hcs,hc⟩:=List.mem_flatten.1 hc
  exact t cs hcs c hc
end
section
variable {P:Program} {ops:Array Oper} {nt:Nat} {l:List Oper} {s:AState} {K:AState→Prop} {dst:Option Tmp} {ty:TypeId} {pos:String} {aft:Array Edge}
theorem aHQ {fo:Operand} {xs:Array Operand} {ats:Array TypeId} {f:FuncId} {caps avs ds:List AV} {hl hl' hl2:List (Nat×Blk)} {kp n':Nat} {r r2:AV} {σ σ':Nat→Option Nat} {touch news:List Nat} {ed:List (Nat×Option Blk)}
  (hc:HasT P f ds hl kp r hl') (hf:s.ev fo=some (.fn f caps)) (hx:evs s.ev xs.toList=some avs) (hav:All2 (mK σ kp) (avs++caps) ds) (hh:sO σ kp s.heap hl) (hi:aCg σ hl=true) (hit:xG σ touch hl=true) (hlive:(touch.all fun b=>(s.heap b).isSome)=true)
  (hh':sO σ' n' (fD hl') hl2) (hi':aCg σ' hl2=true) (hr:mK σ' n' r r2) (hbk:aCV σ σ' kp news hl2=true) (htl:aIv (touch++news) hl2) (htr:aLE (touch++news) r2=true) (he:wO (touch++news) hl2=ed)
  (hd:aFq ⟨dst,.call ⟨.value fo,xs,ats⟩,ty,pos,aft,none⟩ nt=true) (hn:(news.all fun b=> !s.used b)=true) (hT:s.kp.T=true) (hdf: ∀ t x,s.env t=some x→dfA x=true) (hdc: ∀ b blk,s.heap b=some blk→b ∉ touch++news→ ∀ cs∈blk.es,∀ c∈cs,dfC c=true)
  (h:SOps P ops nt l (s.app dst ⟨r2,touch,ed,news⟩) K):SOps P ops nt (⟨dst,.call ⟨.value fo,xs,ats⟩,ty,pos,aft,none⟩::l) s K:=⟨fun C hC ν a w hs n0 Q hQ=>by
 subst hC
 refine wpListIn_step fun K' hK'=>?_
 rw [if_pos (aEW hs (ops:=ops) (t:=true) rfl)]
 refine aRj (fun c h=>by cases h) ?_
 have hnw: ∀ b∈news,s.used b=false:=fun b hb=>by have:=List.all_eq_true.1 hn b hb;simpa using this
 have hfn:=hs.ev hf
 simp only [RepA,RepB] at hfn
 obtain ⟨cv,hfv,hcap⟩:=hfn
 have hval:=xE hs (xs:=xs.toList) (fun y hy=>rfl) hx
 obtain ⟨φ,hφ⟩:=hs.heap
 let h3:Hp:=fun b=>if b∈touch then s.heap b else none
 have sub: ∀ b blk,h3 b=some blk→s.heap b=some blk∧b∈touch:=by
  intro b blk hb
  by_cases e:b∈touch
  ·simp only [h3,if_pos e] at hb;exact ⟨hb,e⟩
  ·simp only [h3,if_neg e] at hb;cases hb
 let M2:Nat→Prop:=fun x=>(∃ b,b∈touch∧s.heap b≠none∧x∈φ b)∨w.heap.size≤x
 have hM2: ∀ x,M2 x→C.M x:=by
  rintro x (⟨b,_,hb,hx⟩|hx)
  ·obtain ⟨blk,hb⟩:=Option.ne_none_iff_exists'.1 hb
   exact (hφ.blk b blk hb).2.2.2 x hx
  ·exact hs.fresh x hx
 have hk3:HeapOk M2 w h3 s.used ν φ:=hφ.shrink (fun b blk hb=>(sub b blk hb).1) (fun b x hb hx _=>by
  obtain ⟨blk,hb⟩:=Option.ne_none_iff_exists'.1 hb
  obtain ⟨e1,e2⟩:=sub b blk hb
  exact .inl ⟨b,e2,by rw [e1];simp,hx⟩)
 have hent:sO σ kp h3 hl:=vD (h:=s.heap) (touch:=touch) (fun b hb=>by simp only [h3,if_pos hb]) hit hh
 have cv1:=zG (w:=w) (u:=s.used) (ν:=ν) hent hi
 have hk4:=cv1.heap hk3
 have shr3:Ext w s.heap s.used ν w h3 s.used ν:=(Ext.refl _ _ _ _).shrink (fun b blk hb=>(sub b blk hb).1)
 have hargs:All2 (RepA w (fD hl) (pM kp) (gT σ ν)) ds (xs.toList.map a.eval++cv):=
  aAU (R:=RepA w s.heap s.used ν) (Mt:=mK σ kp) (R':=RepA w (fD hl) (pM kp) (gT σ ν)) (fun x y v hx hm=>cv1.rep (RepA.ext shr3 hx) hm) (hval.append (hcap.mono fun x v h=>Rep1.repA h)) hav
 have hcall:=hc.calls C.B M2 w ((xs.map a.eval)++cv.toArray) (gT σ ν) _ (fun x hx=>C.low x (hM2 x hx)) hs.base (fun x hx=> .inr hx) (fun x hx=>hs.okM x (hM2 x hx)) (by simpa using hargs) hk4
 unfold Oper.wp
 have hex:(execOp a.eval ⟨dst,.call ⟨.value fo,xs,ats⟩,ty,pos,aft,none⟩).run P w= .ok (.enter f ((xs.map a.eval)++cv.toArray)) w:=by
  have:execOp a.eval ⟨dst,.call ⟨.value fo,xs,ats⟩,ty,pos,aft,none⟩=callFunc f ((xs.map a.eval)++cv.toArray):=by
   simp [execOp,resolve,hfv,Deferred.ofValue,invoke]
  rw [this]
  exact hc.enters _ _
 rw [hex]
 simp only [Oper.upon]
 refine hcall.mono fun e w' ⟨v,u1,ν1,φ1,hev,hbel,hext,hh1,hrep⟩=>?_
 subst hev
 simp only
 have cv2:=zG (w:=w') (u:=u1) (ν:=ν1) hh' hi'
 have hh2:=cv2.heap hh1
 generalize hrl:touch++news=rl at*
 let ν':Nu:=⟨fun b=>if b∈rl then gT σ' ν1 b else ν b,ν.ok⟩
 have hν1: ∀ b,b∈rl→ν' b=gT σ' ν1 b:=fun b hb=>if_pos hb
 have hν2: ∀ b,b ∉ rl→ν' b=ν b:=fun b hb=>if_neg hb
 have hheq: ∀ b,bG ed s.heap b=if b∈rl then fD hl2 b else s.heap b:=fun b=>by rw [←he];exact aBR
 have hhe1: ∀ b,b∈rl→bG ed s.heap b=fD hl2 b:=fun b hb=>by rw [hheq,if_pos hb]
 have hhe2: ∀ b,b ∉ rl→bG ed s.heap b=s.heap b:=fun b hb=>by rw [hheq,if_neg hb]
 have hused: ∀ b,b∈rl→eT news s.used b=true:=by
  intro b hb
  rw [←hrl] at hb
  rw [fP]
  rcases List.mem_append.1 hb with h|h
  ·have h5:=List.all_eq_true.1 hlive b h
   cases hq:s.heap b with
   |none=>rw [hq] at h5;cases h5
   |some blk=>rw [(hφ.blk b blk hq).1,Bool.or_true]
  ·have:news.contains b=true:=by simpa using h
   rw [this,Bool.true_or]
 have U: ∀ b,s.used b=true→eT news s.used b=true:=fun b hb=>by rw [fP,hb,Bool.or_true]
 have O: ∀ b blk',s.used b=true→bG ed s.heap b=some blk'→ ∃ blk,s.heap b=some blk∧blk.k=blk'.k∧blk.es.length=blk'.es.length∧ν' b=ν b:=by
  intro b blk' hu hb
  by_cases e:b∈rl
  ·rw [hhe1 b e] at hb
   obtain ⟨i,e1,e2⟩:=aAT hbk (iU hb)
   obtain ⟨x,f1,f2,f3⟩:=(cv2.look b blk' hb).1 i e1
   rcases e2 with e2|⟨e2,e3⟩
   ·rw [hnw b e2] at hu;cases hu
   ·obtain ⟨blk0,g1,g2,g3,g4⟩:=hext.old i x e2 f1
    obtain ⟨z,k1,k2,k3⟩:=(cv1.look i blk0 g1).1 b e3
    refine ⟨z,(sub b z k1).1,k2.trans (g2.trans f2),k3.trans (g3.trans f3),?_⟩
    rw [hν1 b e]
    simp only [gT,e1]
    rw [g4]
    simp only [gT,e3]
  ·rw [hhe2 b e] at hb
   exact ⟨blk',hb,rfl,rfl,hν2 b e⟩
 have hout: ∀ b blk x,s.heap b=some blk→b ∉ rl→x∈φ b→w'.heap[x]? =w.heap[x]? :=by
  intro b blk x hb hbr hx
  refine (hext.free x ((hφ.blk b blk hb).2.1.lt x hx) ?_).1
  rintro (⟨b2,e1,e2,e3⟩|e1)
  ·have hne:b2≠b:=by rintro rfl;exact hbr (by rw [←hrl];exact List.mem_append_left _ e1)
   exact hφ.apart b2 b x e2 (by rw [hb];simp) hne e3 hx
  ·have:=(hφ.blk b blk hb).2.1.lt x hx
   omega
 have hcross: ∀ b c x,fD hl2 b≠none→s.heap c≠none→c ∉ rl→x∈(match σ' b with|some b0=>φ1 b0|none=>[])→x ∉ φ c:=by
  intro b c x hb hc' hcr hx hx2
  obtain ⟨y1,hy1⟩:=Option.ne_none_iff_exists'.1 hb
  obtain ⟨y2,hy2⟩:=Option.ne_none_iff_exists'.1 hc'
  rcases (hh2.blk b y1 hy1).2.2.2 x hx with ⟨b2,e1,e2,e3⟩|e1
  ·have hne:b2≠c:=by rintro rfl;exact hcr (by rw [←hrl];exact List.mem_append_left _ e1)
   exact hφ.apart b2 c x e2 hc' hne e3 hx2
  ·have:=(hφ.blk c y2 hy2).2.1.lt x hx2
   omega
 have hdef:OkD C w' a.defers:=by
  obtain ⟨Ds,q1,q2,q3⟩:=hs.defers
  refine ⟨Ds,q1,q2,fun D hD=>?_⟩
  obtain ⟨p1,p2,p3⟩:=q3 D hD
  refine ⟨p1,p2,(hext.free D (gA p3) ?_).1.trans p3⟩
  rintro (⟨b,e1,e2,e3⟩|e1)
  ·obtain ⟨blk,hb⟩:=Option.ne_none_iff_exists'.1 e2
   obtain ⟨o,o1,o2⟩:=(hφ.blk b blk hb).2.1.inC D e3
   rw [p3] at o1;cases o1;cases o2
  ·have:=gA p3;omega
 have hfin:Sim C (s.app dst ⟨r2,touch,ed,news⟩) ν' (a.put dst v) w':=by
  refine ⟨hs.below.trans hbel,Nat.le_trans hs.base hbel.size,fun x hx=>hs.fresh x (Nat.le_trans hbel.size hx),by rw [aGh];exact hdef,by rw [aKe];exact hs.size,?_,⟨fun b=>if b∈rl then (match σ' b with|some b0=>φ1 b0|none=>[]) else φ b,?_,?_⟩,hs.kp,?_,Nat.le_trans hs.szE hbel.size,hs.okM,hs.okF⟩
  ·exact aNC hs.size (aDV hd).1 (fun t x h=>by obtain ⟨v,h1,h2⟩:=hs.env t x h;exact ⟨v,h1,aNR U O h2 (hdf t x h)⟩) (aEn (h1:=fD hl2) (u1:=pM n') (ν1:=gT σ' ν1) hhe1 hν1 hused (cv2.rep hrep hr) htr)
  ·intro b blk' hb
   replace hb:bG ed s.heap b=some blk':=hb
   by_cases e:b∈rl
   ·rw [hhe1 b e] at hb
    simp only [if_pos e]
    obtain ⟨_,g2,g3,g4⟩:=hh2.blk b blk' hb
    exact ⟨hused b e,aBS (h1:=fD hl2) (u1:=pM n') (ν1:=gT σ' ν1) hhe1 hν1 hused e g2 (aBv htl (iU hb)).2,g3,fun x hx=>hM2 x (g4 x hx)⟩
   ·rw [hhe2 b e] at hb
    simp only [if_neg e]
    obtain ⟨g1,g2,g3,g4⟩:=hφ.blk b blk' hb
    exact ⟨U b g1,aJB U O (hν2 b e) (fun x hx=>hout b blk' x hb e hx) g2 (hdc b blk' hb e),g3,g4⟩
  ·intro b c x hb hc' hne hxb hxc
   replace hb:bG ed s.heap b≠none:=hb
   replace hc':bG ed s.heap c≠none:=hc'
   by_cases e1:b∈rl <;> by_cases e2:c∈rl
   ·simp only [if_pos e1] at hxb
    simp only [if_pos e2] at hxc
    rw [hhe1 b e1] at hb
    rw [hhe1 c e2] at hc'
    exact hh2.apart b c x hb hc' hne hxb hxc
   ·simp only [if_pos e1] at hxb
    simp only [if_neg e2] at hxc
    rw [hhe1 b e1] at hb
    rw [hhe2 c e2] at hc'
    exact hcross b c x hb hc' e2 hxb hxc
   ·simp only [if_neg e1] at hxb
    simp only [if_pos e2] at hxc
    rw [hhe2 b e1] at hb
    rw [hhe1 c e2] at hc'
    exact hcross c b x hc' hb e1 hxc hxb
   ·simp only [if_neg e1] at hxb
    simp only [if_neg e2] at hxc
    rw [hhe2 b e1] at hb
    rw [hhe2 c e2] at hc'
    exact hφ.apart b c x hb hc' hne hxb hxc
  ·refine ⟨fun b hb=>U b (hs.ext.used b hb),fun b blk' hb hl'=>?_,fun x hx hF=>?_,hs.ext.okE⟩
   ·obtain ⟨y,g1,g2,g3,g4⟩:=O b blk' (hs.ext.used b hb) hl'
    obtain ⟨z,k1,k2,k3,k4⟩:=hs.ext.old b y hb g1
    exact ⟨z,k1,k2.trans g2,k3.trans g3,g4.trans k4⟩
   ·obtain ⟨g1,g2⟩:=hs.ext.free x hx hF
    have hm: ¬ M2 x:=fun hm=>C.tm (by rw [←hs.kp];exact hT) x hx (hM2 x hm) hF
    obtain ⟨p1,p2⟩:=hext.free x (uU hx g1) hm
    refine ⟨p1.trans g1,fun b blk β c hb hν=>?_⟩
    replace hb:bG ed s.heap b=some blk:=hb
    by_cases e:b∈rl
    ·rw [hhe1 b e] at hb
     rw [hν1 b e] at hν
     exact cv2.free x p2 b blk β c hb hν
    ·rw [hhe2 b e] at hb
     rw [hν2 b e] at hν
     exact g2 b blk β c hb hν
 exact hK' _ _ (h.out C rfl _ _ _ hfin n0 Q hQ)⟩
end
end
noncomputable section
theorem aLI {w:World} {h:Hp} {u:Us} {ν:Nu} : ∀ {cs:List AV} {vs:List Value} {S:List Nat},RepOV w cs vs S→CellsRep w h u ν (cs.map rA) vs S
 | [],vs,S,r=>by simp only [RepOV] at r;exact r
 |c::cs,vs,S,r=>by
  simp only [RepOV] at r
  obtain ⟨v,q,S1,S2,e1,e2,_,h3,h4⟩:=r
  refine ⟨v,q,S1,S2,e1,e2,?_,aLI h4⟩
  cases c with
  |sc x=>simp only [RepO] at h3;exact ⟨⟨h3.1,h3.2.1⟩,h3.2.2⟩
  |list k es=>exact h3
  |_=>simp only [RepO] at h3
theorem aMb {k:Nat} {es:List (List AV)} (h: ∀ cs∈es,cs.length=k): ∀ cs∈cM es,cs.length=k:=by
 intro cs hcs
 unfold cM at hcs
 obtain ⟨d,hd,rfl⟩:=List.mem_map.1 hcs
 rw [List.length_map];exact h d hd
theorem aHR (es:List (List AV)):(cM es).flatten=es.flatten.map rA:=by
 unfold cM
 rw [List.map_flatten]
theorem aPY {s:AState} {b c i j k':Nat} {blk:Blk} {cs:List AV} {es':List (List AV)} (hT:s.kp.T=true) (hb:s.heap b=some blk) (hi:blk.es[i]? =some cs) (hj:cs[j]? =some (.abs k' es')) (hc:s.used c=false) (hdf: ∀ t x,s.env t=some x→dfA x=true) (hdc: ∀ b blk,s.heap b=some blk→ ∀ cs∈blk.es,∀ c∈cs,dfC c=true):
  Ent s ⟨s.env,bG [(c,some ⟨k',cM es'⟩),(b,some ⟨blk.k,blk.es.set i (cs.take j++[.own c 0 es'.length]++cs.drop (j+1))⟩)] s.heap,eT [c] s.used,s.ns,s.kp⟩:=by
 intro C ν a w hs
 obtain ⟨φ,hh⟩:=hs.heap
 obtain ⟨hub,⟨hk1,hx1⟩,hnd1,hB1⟩:=hh.blk b blk hb
 have hne:b≠c:=by rintro rfl;rw [hub] at hc;cases hc
 have hcn:s.heap c=none:=hs.unused hc
 have hcs:=hk1 cs (List.mem_of_getElem? hi)
 have hjl:j<cs.length:=by
  rcases Nat.lt_or_ge j cs.length with h'|h'
  ·exact h'
  ·rw [List.getElem?_eq_none h'] at hj;cases hj
 rcases hx1 with ⟨q1,q2,_⟩|⟨β,cap,arr,ty,T,vs,q1,q2,q3,q4,q5,q6,q7,q8⟩
 ·rw [q2] at hi;simp at hi
 have hdrop:blk.es.flatten.drop (i*blk.k+j)= .abs k' es'::blk.es.flatten.drop (i*blk.k+j+1):=by
  obtain ⟨r,hr⟩:=uV hk1 hi
  have h1:blk.es.flatten.drop (i*blk.k+j)=(cs++r).drop j:=by rw [←hr,List.drop_drop]
  have h2:blk.es.flatten.drop (i*blk.k+j+1)=(cs++r).drop (j+1):=by rw [←hr,List.drop_drop,Nat.add_assoc]
  rw [h1,h2,List.drop_append_of_le_length (by omega),List.drop_append_of_le_length (by omega),List.drop_eq_getElem_cons hjl]
  have:cs[j]= .abs k' es':=by simpa [hjl] using hj
  rw [this];rfl
 have hfl:blk.es.flatten=blk.es.flatten.take (i*blk.k+j)++([.abs k' es']++blk.es.flatten.drop (i*blk.k+j+1)):=by
  rw [List.singleton_append,←hdrop,List.take_append_drop]
 rw [hfl] at q8
 obtain ⟨v1,v2,S1,S2,e1,e2,e3,e4,e5⟩:=q8.append_inv
 obtain ⟨v3,v4,S3,S4,f1,f2,f3,f4,f5⟩:=e5.append_inv
 subst f1 f2
 obtain ⟨v,r0,S5,S6,rfl,rfl,g1,⟨rfl,rfl⟩⟩:=f4
 simp only [CellRep] at g1
 rw [List.append_nil] at e2
 have hφ:φ b=β::(S1++(S5++S4)):=by rw [q6,e2]
 obtain ⟨νc,hνc⟩: ∃ νc:Option (Nat×Nat),(∀ (h:Hp) (u:Us) (ν':Nu),ν' c=νc→BlkOk w h u ν' c ⟨k',cM es'⟩ S5)∧(νc=none→v= .slice none 0 0)∧(∀ β' cap',νc=some (β',cap')→ownV β' 0 k' es'.length cap' v∧β'∈S5):=by
  simp only [RepO] at g1
  rcases g1 with ⟨rfl,rfl,rfl⟩|⟨β',cap',arr',ty',T',vs',p1,p2,p3,p4,p5,p6,rfl,p8,p9⟩
  ·exact ⟨none,fun h u ν' hν=>⟨by simp [cM],.inl ⟨hν,rfl,rfl⟩⟩,fun _=>rfl,fun _ _ e=>by cases e⟩
  ·have hl:(cM es').length=es'.length:=by simp [cM]
   refine ⟨some (β',cap'),fun h u ν' hν=>⟨aMb p6,.inr ⟨β',cap',arr',ty',T',vs',hν,p2,p3,by show (cM es').length ≤cap';omega,p5,rfl,by show arr'.toList.take ((cM es').length *k')=vs';rw [hl];exact p8,?_⟩⟩,fun e=>by (cases e),fun x y e=>?_⟩
   ·show CellsRep w h u ν' (cM es').flatten vs' T'
    rw [aHR]
    exact aLI (aAg.1 p9)
   ·cases e;rw [p1];exact ⟨aEU,by simp⟩
 obtain ⟨hB,hn0,hn1⟩:=hνc
 let ν':Nu:=⟨fun x=>if x=c then νc else ν x,ν.ok⟩
 have hν1:ν' c=νc:=if_pos rfl
 have hν2: ∀ x,x≠c→ν' x=ν x:=fun x hx=>if_neg hx
 have hl1:bG [(c,some ⟨k',cM es'⟩),(b,some ⟨blk.k,blk.es.set i (cs.take j++[.own c 0 es'.length]++cs.drop (j+1))⟩)] s.heap c=some ⟨k',cM es'⟩:=by simp [bG]
 have hl2:bG [(c,some ⟨k',cM es'⟩),(b,some ⟨blk.k,blk.es.set i (cs.take j++[.own c 0 es'.length]++cs.drop (j+1))⟩)] s.heap b=some ⟨blk.k,blk.es.set i (cs.take j++[.own c 0 es'.length]++cs.drop (j+1))⟩:=by simp [bG,cG hne]
 have hl3: ∀ x,x≠c→x≠b→bG [(c,some ⟨k',cM es'⟩),(b,some ⟨blk.k,blk.es.set i (cs.take j++[.own c 0 es'.length]++cs.drop (j+1))⟩)] s.heap x=s.heap x:=fun x h1 h2=>by simp [bG,cG h1,cG h2]
 generalize hH:bG [(c,some ⟨k',cM es'⟩),(b,some ⟨blk.k,blk.es.set i (cs.take j++[.own c 0 es'.length]++cs.drop (j+1))⟩)] s.heap=H at*
 have U: ∀ x,s.used x=true→eT [c] s.used x=true:=fun x hx=>by rw [fP,hx,Bool.or_true]
 have O: ∀ x blk',s.used x=true→H x=some blk'→ ∃ y,s.heap x=some y∧y.k=blk'.k∧y.es.length=blk'.es.length∧ν' x=ν x:=by
  intro x blk' hu hx
  have hxc:x≠c:=by rintro rfl;rw [hu] at hc;cases hc
  by_cases e:x=b
  ·subst e
   rw [hl2] at hx
   cases hx
   exact ⟨blk,hb,rfl,by simp,hν2 _ hxc⟩
  ·rw [hl3 x hxc e] at hx
   exact ⟨blk',hx,rfl,rfl,hν2 _ hxc⟩
 have hfl2: ∀ d∈blk.es.flatten,dfC d=true:=by
  intro d hd
  obtain ⟨ds,h1,h2⟩:=List.mem_flatten.1 hd
  exact hdc b blk hb ds h1 d h2
 refine ⟨ν',hs.below,hs.base,hs.fresh,hs.defers,hs.size,fun t x hx=>by obtain ⟨v,h1,h2⟩:=hs.env t x hx;exact ⟨v,h1,aNR U O h2 (hdf t x hx)⟩,⟨fun x=>if x=c then S5 else if x=b then β::(S1++S4) else φ x,?_,?_⟩,hs.kp,?_,hs.szE,hs.okM,hs.okF⟩
 ·intro x blk2 hx
  replace hx:H x=some blk2:=hx
  have hnd:=hnd1
  rw [hφ] at hnd
  have n1:=List.nodup_cons.1 hnd
  have n2:=List.nodup_append.1 n1.2
  have n3:=List.nodup_append.1 n2.2.1
  by_cases e:x=c
  ·subst e
   rw [hl1] at hx
   cases hx
   simp only [if_true]
   refine ⟨by rw [fP];simp,hB _ _ _ hν1,n3.1,fun y hy=>hB1 y (by rw [hφ];simp [hy])⟩
  ·by_cases e0:x=b
   ·subst e0
    rw [hl2] at hx
    cases hx
    simp only [if_neg e,if_true]
    refine ⟨U _ hub,⟨?_,.inr ⟨β,cap,arr,ty,S1++S4,vs,(hν2 _ e).trans q1,q2,q3,by simpa using q4,q5,rfl,by simpa using q7,?_⟩⟩,?_,?_⟩
    ·intro d hd
     rcases List.mem_or_eq_of_mem_set hd with h|h
     ·exact hk1 d h
     ·rw [h];simp;omega
    ·rw [vS (n:=1) hk1 hi rfl (by omega),e1]
     have m1:CellsRep w H (eT [c] s.used) ν' [.own c 0 es'.length] [v] []:=by
      refine ⟨v,[],[],[],rfl,rfl,⟨⟨by rw [fP];simp,fun blk3 h3=>?_⟩,rfl⟩,rfl,rfl⟩
      rw [hl1] at h3
      cases h3
      refine ⟨by simp [cM],fun h4=>hn0 (hν1.symm.trans h4),fun β' c' h4=>(hn1 β' c' (hν1.symm.trans h4)).1⟩
     have m2:=(aDi (w':=w) (h':=H) (u':=eT [c] s.used) (ν':=ν') U O (fun _ _=>rfl) e4 (fun d hd=>hfl2 d (List.mem_of_mem_take hd))).append (m1.append (aDi (w':=w) (h':=H) (u':=eT [c] s.used) (ν':=ν') U O (fun _ _=>rfl) f5 (fun d hd=>hfl2 d (List.mem_of_mem_drop hd))))
     rw [List.append_assoc (List.take (i*blk.k+j) blk.es.flatten)]
     simpa using m2
    ·refine List.nodup_cons.2 ⟨fun hm=>n1.1 ?_,List.nodup_append.2 ⟨n2.1,n3.2.1,fun y hy z hz=>n2.2.2 y hy z (by simp [hz])⟩⟩
     rcases List.mem_append.1 hm with h|h <;> simp [h]
    ·intro y hy
     refine hB1 y ?_
     rw [hφ]
     rcases List.mem_cons.1 hy with rfl|h
     ·simp
     ·rcases List.mem_append.1 h with h|h <;> simp [h]
   ·rw [hl3 x e e0] at hx
    simp only [if_neg e,if_neg e0]
    obtain ⟨p1,p2,p3,p4⟩:=hh.blk x blk2 hx
    exact ⟨U _ p1,aJB U O (hν2 _ e) (fun _ _=>rfl) p2 (hdc x blk2 hx),p3,p4⟩
 ·have hnd:=hnd1
  rw [hφ] at hnd
  have n1:=List.nodup_cons.1 hnd
  have n2:=List.nodup_append.1 n1.2
  have n3:=List.nodup_append.1 n2.2.1
  have hbn:s.heap b≠none:=by rw [hb];simp
  have hS5: ∀ y,y∈S5→y∈φ b:=fun y hy=>by rw [hφ];simp [hy]
  have hSb: ∀ y,y∈β::(S1++S4)→y∈φ b:=fun y hy=>by
   rw [hφ]
   rcases List.mem_cons.1 hy with rfl|h
   ·simp
   ·rcases List.mem_append.1 h with h|h <;> simp [h]
  have hcb: ∀ y,y∈S5→y ∉ β::(S1++S4):=by
   intro y h5 hy
   rcases List.mem_cons.1 hy with rfl|h
   ·exact n1.1 (by simp [h5])
   ·rcases List.mem_append.1 h with h|h
    ·exact n2.2.2 y h y (by simp [h5]) rfl
    ·exact n3.2.2 y h5 y h rfl
  intro x1 x2 y hx1 hx2 hne2 hy1 hy2
  replace hx1:H x1≠none:=hx1
  replace hx2:H x2≠none:=hx2
  replace hy1:y∈(if x1=c then S5 else if x1=b then β::(S1++S4) else φ x1):=hy1
  replace hy2:y∈(if x2=c then S5 else if x2=b then β::(S1++S4) else φ x2):=hy2
  by_cases a1:x1=c <;> by_cases a2:x2=c
  ·exact hne2 (a1.trans a2.symm)
  ·rw [if_pos a1] at hy1
   rw [if_neg a2] at hy2
   by_cases b2:x2=b
   ·rw [if_pos b2] at hy2;exact hcb y hy1 hy2
   ·rw [if_neg b2] at hy2
    rw [hl3 x2 a2 b2] at hx2
    exact hh.apart b x2 y hbn hx2 (Ne.symm b2) (hS5 y hy1) hy2
  ·rw [if_neg a1] at hy1
   rw [if_pos a2] at hy2
   by_cases b1:x1=b
   ·rw [if_pos b1] at hy1;exact hcb y hy2 hy1
   ·rw [if_neg b1] at hy1
    rw [hl3 x1 a1 b1] at hx1
    exact hh.apart b x1 y hbn hx1 (Ne.symm b1) (hS5 y hy2) hy1
  ·rw [if_neg a1] at hy1
   rw [if_neg a2] at hy2
   by_cases b1:x1=b <;> by_cases b2:x2=b
   ·exact hne2 (b1.trans b2.symm)
   ·rw [if_pos b1] at hy1
    rw [if_neg b2] at hy2
    rw [hl3 x2 a2 b2] at hx2
    exact hh.apart b x2 y hbn hx2 (Ne.symm b2) (hSb y hy1) hy2
   ·rw [if_neg b1] at hy1
    rw [if_pos b2] at hy2
    rw [hl3 x1 a1 b1] at hx1
    exact hh.apart b x1 y hbn hx1 (Ne.symm b1) (hSb y hy2) hy1
   ·rw [if_neg b1] at hy1
    rw [if_neg b2] at hy2
    rw [hl3 x1 a1 b1] at hx1
    rw [hl3 x2 a2 b2] at hx2
    exact hh.apart x1 x2 y hx1 hx2 hne2 hy1 hy2
 ·refine ⟨fun x hx=>U x (hs.ext.used x hx),fun x blk' hx hl'=>?_,fun x hx hF=>?_,hs.ext.okE⟩
  ·obtain ⟨y,g1,g2,g3,g4⟩:=O x blk' (hs.ext.used x hx) hl'
   obtain ⟨z,k1,k2,k3,k4⟩:=hs.ext.old x y hx g1
   exact ⟨z,k1,k2.trans g2,k3.trans g3,g4.trans k4⟩
  ·obtain ⟨g1,g2⟩:=hs.ext.free x hx hF
   refine ⟨g1,fun b2 blk2 β2 c2 hb2 h2 e=>?_⟩
   replace hb2:H b2=some blk2:=hb2
   by_cases a1:b2=c
   ·subst a1
    rw [hν1] at h2
    subst e
    exact C.tm (by rw [←hs.kp];exact hT) β2 hx (hB1 β2 (by rw [hφ];simp [(hn1 _ _ h2).2])) hF
   ·rw [hν2 _ a1] at h2
    by_cases a2:b2=b
    ·subst a2;exact g2 b2 blk β2 c2 hb h2 e
    ·rw [hl3 b2 a1 a2] at hb2
     exact g2 b2 blk2 β2 c2 hb2 h2 e
end
noncomputable section
def Raw1 (κ:Kp) (x d:AV):Prop:= ∃ W G v S,κ.fx=some (W,G)∧x= .sc v∧RepD W d v S∧ ∀ b∈S,G b
def RawK (κ:Kp):AV→AV→Prop
 | .agg xs,.agg ds=>All2 (Raw1 κ) xs ds
 |x,d=>Raw1 κ x d
theorem Sim.stays {C:Ctx} {s:AState} {ν:Nu} {a:Act} {w:World} (hs:Sim C s ν a w) {κ:Kp} (hκ:s.kp=κ) {W:World} {G:Nat→Prop} (h:κ.fx=some (W,G)) {b:Nat} (hb:G b):w.heap[b]? =W.heap[b]? ∧gV s.heap ν b:=by
 obtain ⟨e1,e2⟩:=C.fxp (W,G) (by rw [←hs.kp,hκ];exact h)
 obtain ⟨e3,e4⟩:=e2 b hb
 obtain ⟨e5,e6⟩:=hs.ext.free b e3 e4
 rw [e1] at e5
 exact ⟨e5,e6,hs.okF (W,G) (by rw [←hs.kp,hκ];exact h) b hb⟩
theorem Raw1.rep {C:Ctx} {s:AState} {ν ν':Nu} {a:Act} {w:World} {h:Hp} {u:Us} (hs:Sim C s ν a w) {κ:Kp} (hκ:s.kp=κ) {x d:AV} {v:Value} (r:Rep1 w h u ν' x v) (m:Raw1 κ x d): ∃ S',RepD w d v S':=by
 obtain ⟨W,G,y,S,h1,rfl,h2,h3⟩:=m
 rw [r.1]
 exact ⟨S,h2.keep fun b hm=>(hs.stays hκ h1 (h3 b hm)).1⟩
theorem RawK.rep {C:Ctx} {s:AState} {ν:Nu} {a:Act} {w:World} (hs:Sim C s ν a w) {κ:Kp} (hκ:s.kp=κ) {x d:AV} {v:Value} (r:RepA w s.heap s.used ν x v) (m:RawK κ x d): ∃ S',RepD w d v S':=by
 by_cases ho: ∃ xs ds,x= .agg xs∧d= .agg ds
 ·obtain ⟨xs,ds,rfl,rfl⟩:=ho
  obtain ⟨vs,rfl,r⟩:=r
  obtain ⟨S,h⟩:=uZ (V:=Raw1 κ) (fun x d v hr hm=>hm.rep hs hκ hr) r m
  exact ⟨S,by simp only [RepD];exact ⟨vs,rfl,h⟩⟩
 ·have m':Raw1 κ x d:=by
   cases x <;> first|exact m|(cases d <;> first|exact m|exact absurd ⟨_,_,rfl,rfl⟩ ho)
  obtain ⟨W,G,y,S,h1,rfl,h2,h3⟩:=m'
  exact Raw1.rep (h:=s.heap) (u:=s.used) (ν':=ν) (x:= .sc y) hs hκ (show Rep1 w s.heap s.used ν (.sc y) v from r) ⟨W,G,y,S,h1,rfl,h2,h3⟩
def fxW (W:World):Option (World×(Nat→Prop)):=some (W,fun x=>x<W.heap.size)
theorem kB {κ:Kp} {W:World} {d:AV} {v:Value} {S:List Nat} (h:κ.fx=fxW W) (r:RepD W d v S):Raw1 κ (.sc v) d:=⟨W,_,v,S,h,rfl,r,r.lt⟩
theorem vU {κ:Kp} {W:World} {u:Value} (h:κ.fx=fxW W) (o:u.oneCell'=true):Raw1 κ (.sc u) (.sc u):=kB h (zD o)
theorem aPZ {κ:Kp} {W:World} {k:Nat} {es:List (List AV)} {v:Value} {S:List Nat} (h:κ.fx=fxW W) (r:RepD W (.list k es) v S):RawK κ (.sc v) (.list k es):=kB h r
theorem aDj {κ:Kp} :RawK κ (.agg []) (.agg []):=rfl
theorem eG {κ:Kp} {x d:AV} {xs ds:List AV} (a:Raw1 κ x d) (b:RawK κ (.agg xs) (.agg ds)):RawK κ (.agg (x::xs)) (.agg (d::ds)):=⟨d,ds,rfl,a,b⟩
def aDk (κ:Kp) (h:Hp) (x d:AV):Prop:=viewA h x d∨RawK κ x d
theorem vE {κ:Kp} {h:Hp} :All2 (aDk κ h) [] []:=rfl
theorem iM {κ:Kp} {h:Hp} {x d:AV} {xs ds:List AV} (a:aDk κ h x d) (b:All2 (aDk κ h) xs ds):All2 (aDk κ h) (x::xs) (d::ds):=⟨d,ds,rfl,a,b⟩
theorem aHS {R:AV→Value→Prop} {V:AV→AV→Prop} {w:World} (hr: ∀ x d v,R x v→V x d→ ∃ S',RepD w d v S') {xs ds:List AV} {vs:List Value} (r:All2 R xs vs) (m:All2 V xs ds): ∃ S',RepVs w ds vs S':=uZ hr r m
section
variable {P:Program} {dst:Option Tmp} {ty:TypeId} {pos:String} {aft:Array Edge} {g:Option (Nat×Bool)} {ins:Operand→Option AV} {hp:Hp} {κ:Kp}
theorem aJC {fo:Operand} {xs:Array Operand} {ats:Array TypeId} {f:FuncId} {avs ds:List AV} {r x:AV} {nb:List (Nat×Blk)} {ns ns':List Nat} (hf:ins fo=some (.fn f [])) (hx:evs ins xs.toList=some avs) (hc:HasC P f ds r) (hv1:All2 (aDk κ hp) avs ds) (hg:aFa r)
  (hi:aMF ns r=(x,nb,ns')) (hfl:aKp x=true) (hn:ns.Nodup):
  AEff P ⟨dst,.call ⟨.value fo,xs,ats⟩,ty,pos,aft,g⟩ ins hp κ ⟨x,avs.flatMap (uY hp),mM nb,nb.map (·.1)⟩:=by
 refine ⟨fun C s ν a w Q K {hκ} hi' ht hnw hd hs hK=>?_⟩
 have h1:=hs.ev ((hi' fo (by simp [Op.operands,Call.operands])).trans hf)
 simp only [RepA,RepB] at h1
 obtain ⟨cv,h1,h2⟩:=h1
 simp only [All2] at h2
 subst h2
 obtain ⟨φ,hh⟩:=hs.heap
 have h3:=xE hs (xs:=xs.toList) (fun y hy=>hi' y (by simp [Op.operands,Call.operands];exact .inr (Array.mem_toList_iff.1 hy))) hx
 have hv1':All2 (aDk κ s.heap) avs ds:=hv1.congrM fun y hy d hd=>hd.elim (fun hd=> .inl (hd.congr fun b hb=>ht b (List.mem_flatMap.2 ⟨y,hy,hb⟩))) .inr
 obtain ⟨S1,e1⟩:=aHS (V:=aDk κ s.heap) (fun x d v hr hv=>hv.elim (fun hv=>viewA.rep hh hr hv) (fun hv=>hv.rep hs hκ hr)) h3 hv1'
 have hcall:=hc.calls w (xs.map a.eval) S1 (by simpa using e1)
 unfold Oper.wp
 have hex:(execOp a.eval ⟨dst,.call ⟨.value fo,xs,ats⟩,ty,pos,aft,g⟩).run P w= .ok (.enter f (xs.map a.eval)) w:=by
  have:execOp a.eval ⟨dst,.call ⟨.value fo,xs,ats⟩,ty,pos,aft,g⟩=callFunc f (xs.map a.eval):=by
   simp [execOp,resolve,h1,Deferred.ofValue,invoke]
  rw [this]
  exact hc.enters _ _
 rw [hex]
 simp only [Oper.upon]
 refine hcall.mono fun e w' ⟨v,S',he,hb,hr,hnew⟩=>?_
 subst he
 simp only
 obtain ⟨g1,X,Sf,g2,g3⟩:=aNK (w:=w) hi hfl hr hg hnew.1 hn
 have hnn:(nb.map (·.1)).Nodup:=by rw [g1] at hn;exact (List.nodup_append.1 hn).1
 obtain ⟨ν',hs'⟩:=hs.call hd hb g2 hnew hnn (fun b hb=>hnw b hb) g3 (touch:=avs.flatMap (uY hp))
 exact hK ν' _ _ hs'
end
section
variable {P:Program} {dst:Option Tmp} {ty:TypeId} {pos:String} {aft:Array Edge} {g:Option (Nat×Bool)} {s:AState}
theorem vF {f:FuncId} {xs:Array Operand} {ats:Array TypeId} {avs ds:List AV} {u:Value} (hc:HasC P f ds (.sc u)) (hx:evs s.ev xs.toList=some avs) (hv1:All2 (aDk s.kp s.heap) avs ds):
  AEff P ⟨dst,.call ⟨.value (.func f),xs,ats⟩,ty,pos,aft,g⟩ s.ev s.heap s.kp ⟨.sc u,avs.flatMap (uY s.heap),[],[]⟩:=
 aJC (ns:=[]) (nb:=[]) (r:= .sc u) (x:= .sc u) rfl hx hc hv1 trivial (aJj [] u) rfl (by simp)
theorem aAW {f:FuncId} {xs:Array Operand} {ats:Array TypeId} {avs ds:List AV} {r x:AV} {nb:List (Nat×Blk)} {ns':List Nat} (hc:HasC P f ds r) (hx:evs s.ev xs.toList=some avs) (hi:aMF s.ns r=(x,nb,ns')) (hfl:aKp x=true) (hn:aBJ s.ns=true) (hg:aFa r) (hv1:All2 (aDk s.kp s.heap) avs ds):
  AEff P ⟨dst,.call ⟨.value (.func f),xs,ats⟩,ty,pos,aft,g⟩ s.ev s.heap s.kp ⟨x,avs.flatMap (uY s.heap),mM nb,nb.map (·.1)⟩:=
 aJC rfl hx hc hv1 hg hi hfl (xT hn)
end
def aHT (w:World):List AV→(List AV→Prop)→Prop
 | [],K=>K []
 | .sc u::cs,K=>aHT w cs (fun xs=>K (.sc u::xs))
 |d::cs,K=> ∀ v S,RepD w d v S→aHT w cs (fun xs=>K (.sc v::xs))
def oG (w:World):List AV→(List AV→Prop)→Prop
 | [],K=>K []
 | .sc u::ds,K=>oG w ds (fun xs=>K (.sc u::xs))
 | .agg cs::ds,K=>aHT w cs (fun xs=>oG w ds (fun ys=>K (.agg xs::ys)))
 |d::ds,K=> ∀ v S,RepD w d v S→oG w ds (fun xs=>K (.sc v::xs))
theorem aPa {w:World} {K:List AV→Prop} (h:K []):aHT w [] K:=h
theorem aNS {w:World} {u:Value} {cs:List AV} {K:List AV→Prop} (h:aHT w cs (fun xs=>K (.sc u::xs))):aHT w (.sc u::cs) K:=h
theorem aJt {w:World} {k:Nat} {es:List (List AV)} {cs:List AV} {K:List AV→Prop} (h: ∀ v S,RepD w (.list k es) v S→aHT w cs (fun xs=>K (.sc v::xs))):aHT w (.list k es::cs) K:=h
theorem aLJ {w:World} {K:List AV→Prop} (h:K []):oG w [] K:=h
theorem aRA {w:World} {u:Value} {cs:List AV} {K:List AV→Prop} (h:oG w cs (fun xs=>K (.sc u::xs))):oG w (.sc u::cs) K:=h
theorem aPb {w:World} {xs cs:List AV} {K:List AV→Prop} (h:aHT w xs (fun xs=>oG w cs (fun ys=>K (.agg xs::ys)))):oG w (.agg xs::cs) K:=h
theorem aSA {w:World} {k:Nat} {es:List (List AV)} {cs:List AV} {K:List AV→Prop} (h: ∀ v S,RepD w (.list k es) v S→oG w cs (fun xs=>K (.sc v::xs))):oG w (.list k es::cs) K:=h
def aPc:AV→Bool
 | .sc u=>u.oneCell'
 | .agg cs=>cs.all iB
 | .list _ _=>true
 |_=>false
theorem aHU {w:World} {d:AV} {v:Value} {S:List Nat} (r:RepD w d v S) (ok:iB d=true):v.oneCell'=true:=by
 cases d <;> simp only [iB,Bool.false_eq_true] at ok <;> simp only [RepD] at r
 ·rw [r.1];exact ok
 ·obtain ⟨a,c,rfl,_⟩:=r;rfl
theorem aJu {w:World} : ∀ {cs:List AV} {us:List Value} {S:List Nat} {K:List AV→Prop},RepVs w cs us S→cs.all iB=true→aHT w cs K→ ∃ xs,K xs∧ ∀ (w':World) (h:Hp) (u:Us) (ν:Nu),All2 (Rep1 w' h u ν) xs us
 | [],us,S,K,r,_,k=>by simp only [RepVs] at r;obtain ⟨rfl,_⟩:=r;exact ⟨[],k,fun _ _ _ _=>rfl⟩
 |c::cs,us,S,K,r,ok,k=>by
  simp only [RepVs] at r
  obtain ⟨v,q,S1,S2,rfl,rfl,h3,h4⟩:=r
  simp only [List.all_cons,Bool.and_eq_true] at ok
  have key: ∀ x,aHT w cs (fun xs=>K (x::xs))→x= .sc v→ ∃ xs,K xs∧ ∀ (w':World) (h:Hp) (u:Us) (ν:Nu),All2 (Rep1 w' h u ν) xs (v::q):=by
   rintro x k1 rfl
   obtain ⟨xs,g1,g2⟩:=aJu h4 ok.2 k1
   exact ⟨.sc v::xs,g1,fun w' h u ν=>⟨v,q,rfl,⟨rfl,aHU h3 ok.1⟩,g2 w' h u ν⟩⟩
  cases c <;> simp only [iB,Bool.false_eq_true,false_and] at ok
  ·simp only [RepD] at h3
   exact key _ k (by rw [h3.1])
  ·exact key _ (k v S1 h3) rfl
theorem aJD {w:World} : ∀ {ds:List AV} {vs:List Value} {S:List Nat} {K:List AV→Prop},RepVs w ds vs S→ds.all aPc=true→oG w ds K→ ∃ xs,K xs∧xs.length=ds.length∧ ∀ (h:Hp) (u:Us) (ν:Nu),All2 (RepA w h u ν) xs vs
 | [],vs,S,K,r,_,k=>by simp only [RepVs] at r;obtain ⟨rfl,_⟩:=r;exact ⟨[],k,rfl,fun _ _ _=>rfl⟩
 |d::ds,vs,S,K,r,ok,k=>by
  simp only [RepVs] at r
  obtain ⟨v,q,S1,S2,rfl,rfl,h3,h4⟩:=r
  simp only [List.all_cons,Bool.and_eq_true] at ok
  have key: ∀ x,oG w ds (fun xs=>K (x::xs))→(∀ (h:Hp) (u:Us) (ν:Nu),RepA w h u ν x v)→ ∃ xs,K xs∧xs.length=(d::ds).length∧ ∀ (h:Hp) (u:Us) (ν:Nu),All2 (RepA w h u ν) xs (v::q):=by
   intro x k1 hx
   obtain ⟨xs,g1,g2,g3⟩:=aJD h4 ok.2 k1
   exact ⟨x::xs,g1,by simp [g2],fun h u ν=>⟨v,q,rfl,hx h u ν,g3 h u ν⟩⟩
  cases d <;> simp only [aPc,Bool.false_eq_true,false_and] at ok
  ·simp only [RepD] at h3
   exact key _ k fun h u ν=>by simp only [RepA,RepB,Rep1];exact ⟨h3.1,h3.2.1⟩
  ·exact key _ (k v S1 h3) fun h u ν=>(show Rep1 w h u ν (.sc v) v from ⟨rfl,aHU h3 rfl⟩)
  ·have h3':=h3
   simp only [RepD] at h3'
   obtain ⟨us,rfl,h5⟩:=h3'
   obtain ⟨xs,g1,g2⟩:=aJu h5 ok.1 k
   exact key _ g1 fun h u ν=>by simp only [RepA,RepB];exact ⟨us,rfl,g2 w h u ν⟩
def dfE:List (Nat×AV)→Prop
 | []=>True
 |(_,x)::r=>dfA x=true∧dfE r
theorem aAB: ∀ {l:List (Nat×AV)},dfE l→ ∀ t x,uQ l t=some x→dfA x=true
 | [],_,t,x,h=>by cases h
 |(k,v)::r,⟨h1,h2⟩,t,x,h=>by
  simp only [uQ] at h
  cases hb:Nat.beq t k with
  |true=>rw [hb] at h;cases h;exact h1
  |false=>rw [hb] at h;exact aAB h2 t x h
def dfR (y:Blk):Prop:= ∀ cs∈y.es,∀ c∈cs,dfC c=true
def dfH (skip:List Nat):List (Nat×Blk)→Prop
 | []=>True
 |(b,y)::r=>(b∈skip∨dfR y)∧dfH skip r
theorem aAC {skip:List Nat} : ∀ {l:List (Nat×Blk)},dfH skip l→ ∀ b blk,fD l b=some blk→b ∉ skip→ ∀ cs∈blk.es,∀ c∈cs,dfC c=true
 | [],_,b,x,h=>by cases h
 |(k,v)::r,⟨h1,h2⟩,b,x,h=>by
  simp only [fD] at h
  by_cases e:b=k
  ·subst e
   rw [cB] at h
   cases h
   intro hn
   exact h1.elim (fun h=>absurd h hn) id
  ·rw [cG e] at h
   exact aAC h2 b x h
theorem EOk.df {α:Type} {k:Nat} {e:α→List AV} (E:EOk k e) (k':Nat) (l:List α):dfR ⟨k',l.map (ow e)⟩:=by
 intro cs hcs c hc
 obtain ⟨x,_,rfl⟩:=List.mem_map.1 hcs
 obtain ⟨d,hd,rfl⟩:=List.mem_map.1 hc
 have:=E.mem x d hd
 cases d <;> simp only [iB,Bool.false_eq_true] at this <;> rfl
theorem EOk.dfS {α:Type} {k:Nat} {e:α→List AV} (E:EOk k e) (k':Nat) (l:List α) (i:Nat) {c:List AV} (h:c.all dfC=true):dfR ⟨k',(l.map (ow e)).set i c⟩:=by
 intro cs hcs d hd
 rcases List.mem_or_eq_of_mem_set hcs with h1|rfl
 ·exact E.df k' l cs h1 d hd
 ·exact List.all_eq_true.1 h d hd
theorem aPd {k:Nat} {es:List (List AV)} (h:(es.all fun cs=>cs.all dfC)=true):dfR ⟨k,es⟩:=fun cs hcs c hc=>List.all_eq_true.1 (List.all_eq_true.1 h cs hcs) c hc
theorem aDl {α:Type} {e:α→List AV} {l:List α} {i:Nat} {v:α} (h:l[i]? =some v):l.map (ow e)=(l.map (ow e)).set i (ow e v):=by
 rw [←List.map_set]
 congr 1
 refine List.ext_getElem? fun j=>?_
 rw [List.getElem?_set]
 by_cases e:i=j
 ·subst e
  have:i<l.length:=by
   rcases Nat.lt_or_ge i l.length with h'|h'
   ·exact h'
   ·rw [List.getElem?_eq_none h'] at h;cases h
  rw [if_pos rfl,if_pos this,h]
 ·rw [if_neg e]
theorem aBx {α:Type} {k:Nat} {e:α→List AV} (E:EOk k e) {l:List α} {i:Nat} {c:List AV} (h:c.all qZ=true):aAj ((l.map (ow e)).set i c):=by
 intro cs hcs d hd
 rcases List.mem_or_eq_of_mem_set hcs with h1|rfl
 ·exact E.plainO l cs h1 d hd
 ·exact List.all_eq_true.1 h d hd
theorem aBy {s:AState} {b c i j k k' n:Nat} {A es' fs:List (List AV)} {cs:List AV} (hi:i<A.length) (hT:s.kp.T=true) (hb:s.heap b=some ⟨k,A.set i cs⟩) (hj:cs[j]? =some (.abs k' es')) (hc:s.used c=false) (hn:es'.length=n) (hfs:cM es'=fs) (hdf: ∀ t x,s.env t=some x→dfA x=true) (hdc: ∀ b blk,s.heap b=some blk→b ∉ ([]:List Nat)→ ∀ cs∈blk.es,∀ c∈cs,dfC c=true):
  Ent s ⟨s.env,bG [(c,some ⟨k',fs⟩),(b,some ⟨k,A.set i (zW cs j [.own c 0 n])⟩)] s.heap,eT [c] s.used,s.ns,s.kp⟩:=by
 subst hn hfs
 have hjl:j<cs.length:=by
  rcases Nat.lt_or_ge j cs.length with h'|h'
  ·exact h'
  ·rw [List.getElem?_eq_none h'] at hj;cases hj
 have h:=aPY (c:=c) hT hb (i:=i) (cs:=cs) (by simp [hi]) hj hc hdf (fun b blk hb=>hdc b blk hb (by simp))
 have e:=aBq (cs:=cs) (j:=j) (vs:=[.own c 0 es'.length]) (by simp;omega)
 simp only [List.length_singleton] at e
 rw [e] at h
 simp only [List.set_set] at h
 exact h
theorem aHV {P:Program} {T:List (Nat×Ty)} {dst:Option Tmp} {ty:TypeId} {pos:String} {aft:Array Edge} {g:Option (Nat×Bool)} {s:AState} (hT:TyOk P T) {t:TypeId} {y:Ty} {x z:Operand} {val:AV} {b i j kk:Nat} {A:List (List AV)} {cs:List AV} (hi:i<A.length) (hx:s.ev x=some (.ptr b i j)) (hb:s.heap b=some ⟨kk,A.set i cs⟩) (hz:s.ev z=some val) (hy:dX T t=some y) (hsz:Nat.beq (eB val).length y.size=true) (ok:(eB val).all (okCell s.heap)=true) (hn:Nat.ble (j+y.size) cs.length=true):
  AEff P ⟨dst,.store t x z,ty,pos,aft,g⟩ s.ev s.heap s.kp ⟨.dead,b::dZ (eB val),[(b,some ⟨kk,A.set i (zW cs j (eB val))⟩)],[]⟩:=by
 have h:=bK (P:=P) hT (dst:=dst) (ty:=ty) (pos:=pos) (aft:=aft) (g:=g) hx hb hz hy hsz ok (i:=i) (cs:=cs) (by simp [hi]) hn
 rw [List.set_set] at h
 exact h
theorem aPe {α:Type} {k:Nat} {e:α→List AV} {hp:Hp} {b i n:Nat} {l:List α} (E:EOk k e) (hb:hp b=some ⟨k,l.map (ow e)⟩):uW hp (.own b i n)=some (k,((l.drop i).take n).map e,[b]):=by
 simp only [uW,hb,←List.map_drop,←List.map_take]
 rw [aRu E]
section
variable {P:Program} {ops:Array Oper} {nt:Nat} {l:List Oper} {s:AState} {K:AState→Prop}
theorem wF {t u:Bool} (i:Nat) (hi:s.env i=some (.sc (.bool t))) (q:t=u) (h:SOps P ops nt l ⟨upd (some i) (.sc (.bool u)) s.env,s.heap,s.used,s.ns,s.kp⟩ K):SOps P ops nt l s K:=by
 subst q
 rw [aKu hi] at h
 exact h
theorem gO {d:Option Tmp} {op:Op} {ty:TypeId} {pos:String} {aft:Array Edge} {g:Option (Nat×Bool)} (hg:lF ops s.env ⟨d,op,ty,pos,aft,g⟩=some false) (hd:aFq ⟨d,op,ty,pos,aft,g⟩ nt=true) (h:SOps P ops nt l ⟨upd d (.tuple []) s.env,s.heap,s.used,s.ns,s.kp⟩ K):SOps P ops nt (⟨d,op,ty,pos,aft,g⟩::l) s K:=⟨fun C hC ν a w hs n Q hQ=>by
 subst hC
 refine wpListIn_step fun K' hK'=>?_
 have hst:aJf P ops C.nt ⟨d,op,ty,pos,aft,g⟩ s yY:=⟨aDV hd,.inr ⟨hg,rfl⟩⟩
 exact aAi hst hs fun ν' a' w' hs'=>hK' _ _ (h.out C rfl ν' a' w' hs' n Q hQ)⟩
end
end
noncomputable section
theorem k {α:Sort _} {a:α} :a=a:=rfl
section
variable {P:Program} {ops:Array Oper} {nt:Nat} {r:List Oper} {s:AState} {tr:List Tr} {K:List Tr→AState→Prop} {K':AState→Prop}
def opB (ops:Array Oper) (nt:Nat) (s:AState) (o:Oper) (news:List Nat):Bool:=aFq o nt&&((match lF ops s.env o with|some true=>true|_=>false)&&news.all fun b=> !s.used b)
theorem aEo {o:Oper} {news:List Nat} (h:opB ops nt s o news=true):aFq o nt=true∧lF ops s.env o=some true∧(news.all fun b=> !s.used b)=true:=by
 simp only [opB,Bool.and_eq_true] at h
 obtain ⟨h1,h2,h3⟩:=h
 refine ⟨h1,?_,h3⟩
 split at h2
 ·assumption
 ·cases h2
theorem ae {d:Option Tmp} {op:Op} {ty:TypeId} {pos:String} {aft:Array Edge} {g:Option (Nat×Bool)} {e:Eff} (he:AEff P ⟨d,op,ty,pos,aft,g⟩ s.ev s.heap s.kp e) (hb:opB ops nt s ⟨d,op,ty,pos,aft,g⟩ e.news=true) (h:AOps P ops nt r (s.app d e) (aAM e::tr) K):AOps P ops nt (⟨d,op,ty,pos,aft,g⟩::r) s tr K:=
 aA he (aEo hb).1 (aEo hb).2.1 (aEo hb).2.2 h
theorem se {d:Option Tmp} {op:Op} {ty:TypeId} {pos:String} {aft:Array Edge} {g:Option (Nat×Bool)} {e:Eff} (he:AEff P ⟨d,op,ty,pos,aft,g⟩ s.ev s.heap s.kp e) (hb:opB ops nt s ⟨d,op,ty,pos,aft,g⟩ e.news=true) (h:SOps P ops nt r (s.app d e) K'):SOps P ops nt (⟨d,op,ty,pos,aft,g⟩::r) s K':=
 aPW he (aEo hb).1 (aEo hb).2.1 (aEo hb).2.2 h
theorem am {d:Option Tmp} {ty:TypeId} {pos:String} {aft:Array Edge} {g:Option (Nat×Bool)} {x:Operand} {v:AV} (hx:s.ev x=some v) (hb:opB ops nt s ⟨d,.move x,ty,pos,aft,g⟩ []=true) (h:AOps P ops nt r (s.app d ⟨v,[],[],[]⟩) (aAM ⟨v,[],[],[]⟩::tr) K):AOps P ops nt (⟨d,.move x,ty,pos,aft,g⟩::r) s tr K:=ae (cX hx) hb h
theorem aa {d:Option Tmp} {ty:TypeId} {pos:String} {aft:Array Edge} {g:Option (Nat×Bool)} {x:Operand} {v:AV} (hx:s.ev x=some v) (hb:opB ops nt s ⟨d,.assign x,ty,pos,aft,g⟩ []=true) (h:AOps P ops nt r (s.app d ⟨v,[],[],[]⟩) (aAM ⟨v,[],[],[]⟩::tr) K):AOps P ops nt (⟨d,.assign x,ty,pos,aft,g⟩::r) s tr K:=ae (cC hx) hb h
theorem an (h:K tr s):AOps P ops nt [] s tr K:=cZ h
theorem sn (h:K' s):SOps P ops nt [] s K':=aPV h
variable {Q:Exit→AState→Prop}
theorem sQ {x y:Code} (h:AC P nt x s (zB (fun s'=>AC P nt y s' Q) Q)):AC P nt (.seq x y) s Q:=eH h
theorem rg {id:Nat} {l:List Oper} (h:AOps P l.toArray nt l s [] (fun _ s'=>Q .normal s')):AC P nt (.region id l.toArray false) s Q:=cK h
theorem rgS {id:Nat} {l:List Oper} (h:SOps P l.toArray nt l s (Q .normal)):AC P nt (.region id l.toArray false) s Q:=aMa h
theorem tn (h:K' s):zB K' Q .normal s:=h
end
theorem e1 {e:Nat→Option AV} {σ:Nat→Option Nat} {n t:Nat} {x y:AV} (h:e t=some x) (m:mK σ n x y): ∃ x,e t=some x∧mK σ n x y:=⟨x,h,m⟩
theorem ak {P:Program} {ops:Array Oper} {nt:Nat} {r:List Oper} {s:AState} {tr:List Tr} {K:List Tr→AState→Prop} {d:Option Tmp} {op:Op} {ty:TypeId} {pos:String} {aft:Array Edge} {g:Option (Nat×Bool)} (hg:lF ops s.env ⟨d,op,ty,pos,aft,g⟩=some false) (hd:aFq ⟨d,op,ty,pos,aft,g⟩ nt=true) (h:AOps P ops nt r ⟨upd d (.tuple []) s.env,s.heap,s.used,s.ns,s.kp⟩ (⟨[],[]⟩::tr) K):AOps P ops nt (⟨d,op,ty,pos,aft,g⟩::r) s tr K:=cR hg hd h
theorem oE {e:Nat→Option AV} {σ:Nat→Option Nat} {n t b i m b' i' m':Nat} (h:e t=some (.own b i m)) (p:(σ b',i,m,Nat.blt b' n)=(some b,i',m',true)): ∃ x,e t=some x∧mK σ n x (.own b' i' m'):=by
 obtain ⟨p1,p⟩:=Prod.mk.inj p
 obtain ⟨p2,p⟩:=Prod.mk.inj p
 obtain ⟨p3,p4⟩:=Prod.mk.inj p
 exact ⟨_,h,p1,p2,p3,p4⟩
theorem pE {e:Nat→Option AV} {σ:Nat→Option Nat} {n t b i m b' i' m':Nat} (h:e t=some (.ptr b i m)) (p:(σ b',i,m,Nat.blt b' n)=(some b,i',m',true)): ∃ x,e t=some x∧mK σ n x (.ptr b' i' m'):=by
 obtain ⟨p1,p⟩:=Prod.mk.inj p
 obtain ⟨p2,p⟩:=Prod.mk.inj p
 obtain ⟨p3,p4⟩:=Prod.mk.inj p
 exact ⟨_,h,p1,p2,p3,p4⟩
section
variable {σ:Nat→Option Nat} {n b b0 k:Nat} {h:Hp} {r:List (Nat×Blk)}
theorem hB {y:Blk} (hp:aAj y.es) (hs:σ b=some b0) (hb:h b0=some y) (hn:Nat.blt b n=true) (hr:sO σ n h r):sO σ n h ((b,y)::r):=by
 simp only [sO]
 rw [hs]
 exact ⟨⟨y,hb,rfl,.inl ⟨rfl,hp⟩⟩,hn,hr⟩
theorem hI {l:List Int} (hs:σ b=some b0) (hb:h b0=some ⟨1,List.map (ow eI) l⟩) (hn:Nat.blt b n=true) (hr:sO σ n h r):sO σ n h ((b,⟨1,List.map (ow eI) l⟩)::r):=hB (dR.plainO _) hs hb hn hr
theorem hP {y:Blk} (hs:σ b=some b0) (hb:h b0=some y) (hp:(y.es.all fun cs=>cs.all qZ)=true) (hn:Nat.blt b n=true) (hr:sO σ n h r):sO σ n h ((b,y)::r):=hB (aPC hp) hs hb hn hr
theorem hX {y:Blk} (hm:match σ b with|some b0=> ∃ x,h b0=some x∧aCf σ n x y|none=>y.es=[]) (hn:Nat.blt b n=true) (hr:sO σ n h r):sO σ n h ((b,y)::r):=⟨hm,hn,hr⟩
end
theorem aTP {P:Program} {T:List (Nat×Ty)} (hT:TyOk P T) {dst:Option Tmp} {pos:String} {aft:Array Edge} {g:Option (Nat×Bool)} {s:AState} {x:Operand} {t e k:Nat} {y:Ty} {dty:TypeId} {α:Type} {f:α→List AV} {l:List α} (hx:s.ev x=some (.list k (List.map f l))) (hy:dX T t=some y) (hd:y.desc= .slice e):
  AEff P ⟨dst,.call ⟨.builtin .len,#[x],#[t]⟩,dty,pos,aft,g⟩ s.ev s.heap s.kp ⟨.int l.length,[],[],[]⟩:=AEff.val (cI hT hx hy hd) (by rw [List.length_map])
theorem lA {α:Type} {a b:List α} :(a++b).length=a.length+b.length:=List.length_append
theorem lT {α:Type} {a:List α} {i:Nat} {x:α} :(a.set i x).length=a.length:=List.length_set
theorem lR {α:Type} {n:Nat} {x:α} :(List.replicate n x).length=n:=List.length_replicate
theorem lC {α:Type} {a:α} {b:List α} :(a::b).length=b.length+1:=List.length_cons
theorem lN {α:Type} :([]:List α).length=0:=List.length_nil
theorem aEp:([]:List AV).all tH=true:=rfl
theorem oT {d:AV} {ds:List AV} (h1:tH d=true) (h2:ds.all tH=true):(d::ds).all tH=true:=by
 rw [List.all_cons,h1,h2];rfl
end
noncomputable section
theorem k2 {αa:Sort _} {a:αa} {αb:Sort _} {b:αb} :a=a∧b=b:=⟨rfl,rfl⟩
theorem k3 {αa:Sort _} {a:αa} {αb:Sort _} {b:αb} {αc:Sort _} {c:αc} :a=a∧b=b∧c=c:=⟨rfl,rfl,rfl⟩
theorem k4 {αa:Sort _} {a:αa} {αb:Sort _} {b:αb} {αc:Sort _} {c:αc} {αd:Sort _} {d:αd} :a=a∧b=b∧c=c∧d=d:=⟨rfl,rfl,rfl,rfl⟩
theorem k7 {αa:Sort _} {a:αa} {αb:Sort _} {b:αb} {αc:Sort _} {c:αc} {αd:Sort _} {d:αd} {αe:Sort _} {e:αe} {αf:Sort _} {f:αf} {αg:Sort _} {g:αg} :a=a∧b=b∧c=c∧d=d∧e=e∧f=f∧g=g:=⟨rfl,rfl,rfl,rfl,rfl,rfl,rfl⟩
theorem k8 {αa:Sort _} {a:αa} {αb:Sort _} {b:αb} {αc:Sort _} {c:αc} {αd:Sort _} {d:αd} {αe:Sort _} {e:αe} {αf:Sort _} {f:αf} {αg:Sort _} {g:αg} {αh:Sort _} {h:αh} :a=a∧b=b∧c=c∧d=d∧e=e∧f=f∧g=g∧h=h:=⟨rfl,rfl,rfl,rfl,rfl,rfl,rfl,rfl⟩
section
variable {ops:Array Oper} {nt:Nat} {r:List Oper} {s:AState} {tr:List Tr} {K:List Tr→AState→Prop} {K':AState→Prop} {d:Option Tmp} {ty:TypeId} {pos:String} {aft:Array Edge} {g:Option (Nat×Bool)}
theorem lp {x:Operand} {t:Nat} {y:Ty} {b i j:Nat} {blk:Blk} {cs:List AV} {v:AV} (h:s.ev x=some (.ptr b i j)∧s.heap b=some blk∧dX TT t=some y∧(y.desc.isAgg||Nat.beq y.size 1)=true∧blk.es[i]? =some cs∧Nat.ble (j+y.size) cs.length=true∧aAL y.desc.isAgg (((cs.drop j).take y.size).map zV)=v∧opB ops nt s ⟨d,.load t x,ty,pos,aft,g⟩ []=true) (g2:AOps Tryz.prog ops nt r (s.app d ⟨v,[b],[],[]⟩) (aAM ⟨v,[b],[],[]⟩::tr) K):AOps Tryz.prog ops nt (⟨d,.load t x,ty,pos,aft,g⟩::r) s tr K:=by
 obtain ⟨h0,h1,h2,h3,h4,h5,h6,h7⟩:=h
 exact ae (bE aB h0 h1 h2 h3 h4 h5 h6) h7 g2
theorem fp {x:Operand} {st f off ft:Nat} {b i j:Nat} {blk:Blk} {y yf:Ty} {fs:List (Nat×Nat)} (h:s.ev x=some (.ptr b i j)∧s.heap b=some blk∧dX TT st=some y∧y.desc= .struct fs∧fs[f]? =some (off,ft)∧dX TT ft=some yf∧Nat.beq yf.size 0=false∧opB ops nt s ⟨d,.fieldAddr st x f,ty,pos,aft,g⟩ []=true) (g2:AOps Tryz.prog ops nt r (s.app d ⟨.ptr b i (j+off),[b],[],[]⟩) (aAM ⟨.ptr b i (j+off),[b],[],[]⟩::tr) K):AOps Tryz.prog ops nt (⟨d,.fieldAddr st x f,ty,pos,aft,g⟩::r) s tr K:=by
 obtain ⟨h0,h1,h2,h3,h4,h5,h6,h7⟩:=h
 exact ae (bW aB h0 h1 h2 h3 h4 h5 h6) h7 g2
theorem lr {x:Operand} {t:Nat} {y:Ty} {cs:List AV} {v:AV} (h:s.ev x=some (.ref cs)∧dX TT t=some y∧(y.desc.isAgg||Nat.beq y.size 1)=true∧Nat.ble y.size cs.length=true∧(cs.take y.size).all eP=true∧aAL y.desc.isAgg (cs.take y.size)=v∧opB ops nt s ⟨d,.load t x,ty,pos,aft,g⟩ []=true) (g2:AOps Tryz.prog ops nt r (s.app d ⟨v,[],[],[]⟩) (aAM ⟨v,[],[],[]⟩::tr) K):AOps Tryz.prog ops nt (⟨d,.load t x,ty,pos,aft,g⟩::r) s tr K:=by
 obtain ⟨h0,h1,h2,h3,h4,h5,h6⟩:=h
 exact ae (cH aB h0 h1 h2 h3 h4 h5) h6 g2
theorem cm {op:BinOp} {t t':TypeId} {x y:Operand} {q:IntKind} {a b:Int} {c:Bool} (h:s.ev x=some (.sc (.int q a))∧s.ev y=some (.sc (.int q b))∧aQm op a b=some c∧opB ops nt s ⟨d,.binOp op t x y t',ty,pos,aft,g⟩ []=true) (g2:AOps Tryz.prog ops nt r (s.app d ⟨.bl c,[],[],[]⟩) (aAM ⟨.bl c,[],[],[]⟩::tr) K):AOps Tryz.prog ops nt (⟨d,.binOp op t x y t',ty,pos,aft,g⟩::r) s tr K:=by
 obtain ⟨h0,h1,h2,h3⟩:=h
 exact ae (fV h0 h1 h2) h3 g2
theorem pk {c x y:Operand} {t:Bool} {v:AV} (h:s.ev c=some (.sc (.bool t))∧s.ev (if t then x else y)=some v∧opB ops nt s ⟨d,.pick c x y,ty,pos,aft,g⟩ []=true) (g2:AOps Tryz.prog ops nt r (s.app d ⟨v,[],[],[]⟩) (aAM ⟨v,[],[],[]⟩::tr) K):AOps Tryz.prog ops nt (⟨d,.pick c x y,ty,pos,aft,g⟩::r) s tr K:=by
 obtain ⟨h0,h1,h2⟩:=h
 exact ae (dB h0 h1) h2 g2
theorem ln {x:Operand} {t e q:Nat} {y:Ty} {α:Type} {f:α→List AV} {l:List α} (h:s.ev x=some (.list q (List.map f l))∧dX TT t=some y∧y.desc= .slice e∧opB ops nt s ⟨d,.call ⟨.builtin .len,#[x],#[t]⟩,ty,pos,aft,g⟩ []=true) (g2:AOps Tryz.prog ops nt r (s.app d ⟨.int l.length,[],[],[]⟩) (aAM ⟨.int l.length,[],[],[]⟩::tr) K):AOps Tryz.prog ops nt (⟨d,.call ⟨.builtin .len,#[x],#[t]⟩,ty,pos,aft,g⟩::r) s tr K:=by
 obtain ⟨h0,h1,h2,h3⟩:=h
 exact ae (aTP aB h0 h1 h2) h3 g2
theorem lpS {x:Operand} {t:Nat} {y:Ty} {b i j:Nat} {blk:Blk} {cs:List AV} {v:AV} (h:s.ev x=some (.ptr b i j)∧s.heap b=some blk∧dX TT t=some y∧(y.desc.isAgg||Nat.beq y.size 1)=true∧blk.es[i]? =some cs∧Nat.ble (j+y.size) cs.length=true∧aAL y.desc.isAgg (((cs.drop j).take y.size).map zV)=v∧opB ops nt s ⟨d,.load t x,ty,pos,aft,g⟩ []=true) (g2:SOps Tryz.prog ops nt r (s.app d ⟨v,[b],[],[]⟩) K'):SOps Tryz.prog ops nt (⟨d,.load t x,ty,pos,aft,g⟩::r) s K':=by
 obtain ⟨h0,h1,h2,h3,h4,h5,h6,h7⟩:=h
 exact se (bE aB h0 h1 h2 h3 h4 h5 h6) h7 g2
theorem fpS {x:Operand} {st f off ft:Nat} {b i j:Nat} {blk:Blk} {y yf:Ty} {fs:List (Nat×Nat)} (h:s.ev x=some (.ptr b i j)∧s.heap b=some blk∧dX TT st=some y∧y.desc= .struct fs∧fs[f]? =some (off,ft)∧dX TT ft=some yf∧Nat.beq yf.size 0=false∧opB ops nt s ⟨d,.fieldAddr st x f,ty,pos,aft,g⟩ []=true) (g2:SOps Tryz.prog ops nt r (s.app d ⟨.ptr b i (j+off),[b],[],[]⟩) K'):SOps Tryz.prog ops nt (⟨d,.fieldAddr st x f,ty,pos,aft,g⟩::r) s K':=by
 obtain ⟨h0,h1,h2,h3,h4,h5,h6,h7⟩:=h
 exact se (bW aB h0 h1 h2 h3 h4 h5 h6) h7 g2
theorem cmS {op:BinOp} {t t':TypeId} {x y:Operand} {q:IntKind} {a b:Int} {c:Bool} (h:s.ev x=some (.sc (.int q a))∧s.ev y=some (.sc (.int q b))∧aQm op a b=some c∧opB ops nt s ⟨d,.binOp op t x y t',ty,pos,aft,g⟩ []=true) (g2:SOps Tryz.prog ops nt r (s.app d ⟨.bl c,[],[],[]⟩) K'):SOps Tryz.prog ops nt (⟨d,.binOp op t x y t',ty,pos,aft,g⟩::r) s K':=by
 obtain ⟨h0,h1,h2,h3⟩:=h
 exact se (fV h0 h1 h2) h3 g2
theorem pkS {c x y:Operand} {t:Bool} {v:AV} (h:s.ev c=some (.sc (.bool t))∧s.ev (if t then x else y)=some v∧opB ops nt s ⟨d,.pick c x y,ty,pos,aft,g⟩ []=true) (g2:SOps Tryz.prog ops nt r (s.app d ⟨v,[],[],[]⟩) K'):SOps Tryz.prog ops nt (⟨d,.pick c x y,ty,pos,aft,g⟩::r) s K':=by
 obtain ⟨h0,h1,h2⟩:=h
 exact se (dB h0 h1) h2 g2
theorem kC {x:Operand} {v:AV} (h:s.ev x=some v∧opB ops nt s ⟨d,.assign x,ty,pos,aft,g⟩ []=true) (g2:SOps Tryz.prog ops nt r (s.app d ⟨v,[],[],[]⟩) K'):SOps Tryz.prog ops nt (⟨d,.assign x,ty,pos,aft,g⟩::r) s K':=by
 obtain ⟨h0,h1⟩:=h
 exact se (cC h0) h1 g2
theorem fC {x:Operand} {v:AV} (h:s.ev x=some v∧opB ops nt s ⟨d,.move x,ty,pos,aft,g⟩ []=true) (g2:SOps Tryz.prog ops nt r (s.app d ⟨v,[],[],[]⟩) K'):SOps Tryz.prog ops nt (⟨d,.move x,ty,pos,aft,g⟩::r) s K':=by
 obtain ⟨h0,h1⟩:=h
 exact se (cX h0) h1 g2
theorem aJ:True:=trivial
theorem aT {x:Operand} {v:AV} {Q:Exit→AState→Prop} {T:AState→Prop} (h:s.ev x=some v∧opB ops nt s ⟨d,.assign x,ty,pos,aft,g⟩ []=true) (g2:T (s.app d ⟨v,[],[],[]⟩)):AOps Tryz.prog ops nt [⟨d,.assign x,ty,pos,aft,g⟩] s tr (fun _ s'=>zB T Q .normal s'):=aa h.1 h.2 (an (tn g2))
theorem aK {o1 o2:Oper} (h:(lF ops s.env o1=some false∧aFq o1 nt=true∧lF ops (upd o1.dst (.tuple []) s.env) o2=some false∧aFq o2 nt=true)) (g2:AOps Tryz.prog ops nt r ⟨upd o2.dst (.tuple []) (upd o1.dst (.tuple []) s.env),s.heap,s.used,s.ns,s.kp⟩ (⟨[],[]⟩::⟨[],[]⟩::tr) K):AOps Tryz.prog ops nt (o1::o2::r) s tr K:=ak h.1 h.2.1 (ak h.2.2.1 h.2.2.2 g2)
theorem sR {id:Nat} {l:List Oper} {y:Code} {Q:Exit→AState→Prop} (h:AOps Tryz.prog l.toArray nt l s [] (fun _ s'=>zB (fun s'=>AC Tryz.prog nt y s' Q) Q .normal s')):AC Tryz.prog nt (.seq (.region id l.toArray false) y) s Q:=sQ (rg h)
theorem sS {id:Nat} {l:List Oper} {y:Code} {Q:Exit→AState→Prop} (h:SOps Tryz.prog l.toArray nt l s (zB (fun s'=>AC Tryz.prog nt y s' Q) Q .normal)):AC Tryz.prog nt (.seq (.region id l.toArray false) y) s Q:=sQ (rgS h)
end
end
noncomputable section
set_option maxRecDepth 10000
set_option maxHeartbeats 4000000
def hO (a0:Int) (a1:Int) (a2:Int):Option Bool:=
 bif decide (a1≤a0) then
 (some (decide (a0≤a2)))
 else
 (some (false))
theorem kV (a0:Int) (a1:Int) (a2:Int) (r:Bool) (h:hO a0 a1 a2=some r):HasC Tryz.prog 92 [.int a0,.int a1,.int a2] (.bl r):=by
 refine bJ aB (rvs:=[.tmp 6]) (ns:=[0,1]) Tryz.func92 k k Tryz.ntmps92 k k k<|sR<|aT k2<|sR<|am k k<|am k k ?_
 refine cm k4<|am k k ?_
 rcases cb h with ⟨q1,h⟩|⟨q1,h⟩
 ·refine aX 10 k q1<|am k k<|am k k<|cm k4<|pk k3<|aT k2<|aL ?_
  obtain rfl:=so h
  exact aS k k k (bO k)
 ·refine aX 10 k q1<|aK k4<|ak k k<|pk k3<|aT k2<|aL ?_
  obtain rfl:=so h
  exact aS k k k (bO k)
def fU (a0:Int) (a1:Int) (a2:Int):Option Bool:=
 bif decide (a1≤a0) then
 (some (decide (a0≤a2)))
 else
 (some (false))
theorem gP (a0:Int) (a1:Int) (a2:Int) (r:Bool) (h:fU a0 a1 a2=some r):HasC Tryz.prog 127 [.int a0,.int a1,.int a2] (.bl r):=by
 refine bJ aB (rvs:=[.tmp 6]) (ns:=[0,1]) Tryz.func127 k k Tryz.ntmps127 k k k<|sR<|aT k2<|sR<|am k k<|am k k ?_
 refine cm k4<|am k k ?_
 rcases cb h with ⟨q1,h⟩|⟨q1,h⟩
 ·refine aX 10 k q1<|am k k<|am k k<|cm k4<|pk k3<|aT k2<|aL ?_
  obtain rfl:=so h
  exact aS k k k (bO k)
 ·refine aX 10 k q1<|aK k4<|ak k k<|pk k3<|aT k2<|aL ?_
  obtain rfl:=so h
  exact aS k k k (bO k)
def rH (a0:(List Int)) (x1:(Int×Int)):Option ((Int×Int) ⊕ Int):=
 bif decide (x1.2<(a0.length:Int)) then
 (Option.bind (dY a0 x1.2) fun v2=>
 some (.inl (wr (x1.1+v2),wr (x1.2+1))))
 else
 (some (.inr x1.1))
def tW (a0:(List Int)):Option Int:=
 Option.bind (Lp (rH a0) (0,0)) fun y3=>
 some (y3)
theorem aDm (a0:(List Int)) (r:Int) (h:tW a0=some r):HasC Tryz.prog 86 [.list 1 (a0.map eI)] (.int r):=by
 refine bJ aB (rvs:=[.tmp 2]) (ns:=[0,1]) Tryz.func86 k k Tryz.ntmps86 k k k<|sR<|aT k2<|sR<|aa k k<|an ?_
 refine tn<|sQ<|sR<|am k k<|ln k4<|am k k<|an<|tn<|aI ?_
 obtain ⟨y3,hy3,h⟩:=ob h
 refine cV (body:=(rH a0)) hy3 (fun (x1:(Int×Int))=>bN [(3,.int x1.1),(6,.list 1 (a0.map eI)),(7,.int (a0.length:Int)),(8,.int x1.2)] [] 0 [0,1]) (fun r e t=>e= .exit 0∧Ent t (bN [(3,.int r)] [] 0 [0,1])) (aC (σ:=sg []) ⟨(e1 k k),⟨_,k,⟨k,k⟩⟩,(e1 k k),(e1 k k),aJ⟩ aJ k) ?_ ?_
 ·intro x1 o h
  refine sR<|cm k4<|an<|tn<|sQ ?_
  rcases cb h with ⟨q1,h⟩|⟨q1,h⟩
  ·refine aH k q1<|aQ<|tn<|sQ<|aI<|sR ?_
   obtain ⟨v2,hv2,h⟩:=ob h
   refine ae (bF aB hv2 k k k k k k) k<|lr k7<|aT k2<|rg<|am k k<|am k k<|ae (bT k k) k<|aa k k ?_
   refine an<|bB<|tn<|rg<|ae (bT k k) k<|am k k<|an<|tn ?_
   obtain rfl:=so h
   exact ⟨_,k,(aC (σ:=sg []) ⟨(e1 k k),⟨_,k,⟨k,k⟩⟩,(e1 k k),(e1 k k),aJ⟩ aJ k)⟩
  ·refine aN k q1<|bC<|aE<|aE ?_
   obtain rfl:=so h
   exact ⟨_,k,k,(aC (σ:=sg []) ⟨(e1 k k),aJ⟩ aJ k)⟩
 ·rintro e t ⟨rfl,hent⟩
  refine aU<|tn<|aM hent<|sR<|am k k<|aT k2<|aL ?_
  obtain rfl:=so h
  exact aS k k k (cT k)
def aAX (a0:(List Int)) (a1:(List Int)) (x1:Int):Option (Int ⊕ (Unit ⊕ Bool)):=
 bif decide (x1<(a0.length:Int)) then
 (Option.bind (dY a0 x1) fun v3=>
 Option.bind (dY a1 x1) fun v4=>
 bif !decide (v3=v4) then
 (some (.inr (.inr (false))))
 else
 (some (.inl (wr (x1+1)))))
 else
 (some (.inr (.inl ())))
def aIO (a0:(List Int)) (a1:(List Int)):Option Bool:=
 bif !decide ((a0.length:Int)=(a1.length:Int)) then
 (some (false))
 else
 (Option.bind (Lp (aAX a0 a1) 0) fun y6=>
 Sum.elim (fun y7=>
 some (true)
 )
 (fun y8=>
 some y8
 )
 y6)
def jG (a0:(List Int)) (a1:(List Int)) (x1:Int):Option (Int ⊕ (Unit ⊕ Bool)):=
 bif decide (x1<(a0.length:Int)) then
 (Option.bind (dY a0 x1) fun v3=>
 Option.bind (dY a1 x1) fun v4=>
 bif !decide (v3=v4) then
 (some (.inr (.inr (false))))
 else
 (some (.inl (wr (x1+1)))))
 else
 (some (.inr (.inl ())))
def lU (a0:(List Int)) (a1:(List Int)):Option Bool:=
 bif !decide ((a0.length:Int)=(a1.length:Int)) then
 (some (false))
 else
 (Option.bind (Lp (jG a0 a1) 0) fun y6=>
 Sum.elim (fun y7=>
 some (true)
 )
 (fun y8=>
 some y8
 )
 y6)
theorem aAY (a0:(List Int)) (a1:(List Int)) (r:Bool) (h:lU a0 a1=some r):HasC Tryz.prog 118 [.list 1 (a0.map eI),.list 1 (a1.map eI)] (.bl r):=by
 refine bJ aB (rvs:=[.tmp 4]) (ns:=[0,1]) Tryz.func118 k k Tryz.ntmps118 k k k<|sR<|aT k2<|sQ<|sR<|am k k ?_
 refine ln k4<|am k k<|ln k4<|cm k4<|an<|tn ?_
 rcases cb h with ⟨q1,h⟩|⟨q1,h⟩
 ·refine aH k q1<|sR<|aT k2<|aL<|aG ?_
  obtain rfl:=so h
  exact aS k k k (bO k)
 ·refine aN k q1<|aQ<|tn<|sQ<|sR<|am k k<|ln k4<|am k k<|an ?_
  refine tn<|aI ?_
  obtain ⟨y6,hy6,h⟩:=ob h
  refine cV (body:=(jG a0 a1)) hy6 (fun (x1:Int)=>bN [(0,.list 1 (a0.map eI)),(1,.list 1 (a1.map eI)),(12,.int (a0.length:Int)),(13,.int x1)] [] 0 [0,1]) (fun r e t=>Sum.elim (fun a=>(fun r e t=>e= .exit 0∧Ent t (bN [] [] 0 [0,1])) a e t) (fun b=>(fun r e t=>e= .ret∧oD TT [.tmp 4] (.bl r) .ret t) b e t) r) (aC (σ:=sg []) ⟨⟨_,k,⟨k,k⟩⟩,⟨_,k,⟨k,k⟩⟩,(e1 k k),(e1 k k),aJ⟩ aJ k) ?_ ?_
  ·intro x1 o h
   refine sR<|cm k4<|an<|tn<|sQ ?_
   rcases cb h with ⟨q2,h⟩|⟨q2,h⟩
   ·refine aH k q2<|aQ<|tn<|sQ<|aI<|sR<|am k k<|aa k k<|an ?_
    refine tn<|sQ<|aW kI<|am k k<|am k k ?_
    obtain ⟨v3,hv3,h⟩:=ob h
    refine ae (bF aB hv3 k k k k k k) k<|lr k7<|am k k<|am k k ?_
    obtain ⟨v4,hv4,h⟩:=ob h
    refine ae (bF aB hv4 k k k k k k) k<|lr k7<|cm k4<|an ?_
    refine ⟨by kernel_rfl,?_⟩
    refine tn<|aM (t:=bN [(0,.list 1 (a0.map eI)),(1,.list 1 (a1.map eI)),(12,.int (a0.length:Int)),(13,.int x1),(24,.bl (!decide (v3=v4)))] [] 0 [0,1]) (aC (σ:=sg []) ⟨⟨_,k,⟨k,k⟩⟩,⟨_,k,⟨k,k⟩⟩,(e1 k k),(e1 k k),(e1 k k),aJ⟩ aJ k) ?_
    rcases cb h with ⟨q5,h⟩|⟨q5,h⟩
    ·refine aH k q5<|sR<|aT k2<|aL<|aY<|aG<|aG ?_
     obtain rfl:=so h
     exact ⟨_,k,k,aS k k k (bO k)⟩
    ·refine aN k q5<|aQ<|bB<|tn<|rg<|ae (bT k k) k<|am k k<|an<|tn ?_
     obtain rfl:=so h
     exact ⟨_,k,(aC (σ:=sg []) ⟨⟨_,k,⟨k,k⟩⟩,⟨_,k,⟨k,k⟩⟩,(e1 k k),(e1 k k),aJ⟩ aJ k)⟩
   ·refine aN k q2<|bC<|aE<|aE ?_
    obtain rfl:=so h
    exact ⟨_,k,k,(aC (σ:=sg []) aJ aJ k)⟩
  ·intro e t hX
   rcases y6 with y7|y8
   ·obtain ⟨rfl,hent⟩:=hX
    refine aU<|tn<|aM hent<|sR<|aT k2<|aL ?_
    obtain rfl:=so h
    exact aS k k k (bO k)
   ·obtain ⟨rfl,hent⟩:=hX
    refine aY<|aG ?_
    obtain rfl:=so h
    exact hent
def iE (a0:Int):Option Bool:=
 bif decide (a0=2) then
 (some (true))
 else
 (bif decide (a0=3) then
 (some (true))
 else
 (some (decide (a0=5))))
theorem lV (a0:Int) (r:Bool) (h:iE a0=some r):HasC Tryz.prog 161 [.int a0] (.bl r):=by
 refine bJ aB (rvs:=[.tmp 2]) (ns:=[0,1]) Tryz.func161 k k Tryz.ntmps161 k k k<|sR<|aT k2<|sR<|am k k<|cm k4 ?_
 refine am k k ?_
 rcases cb h with ⟨q1,h⟩|⟨q1,h⟩
 ·refine aX 5 k q1<|aK k4<|pk k3<|am k k<|aK k4<|pk k3<|aa k k<|an ?_
  refine tn<|aM (t:=bN [(2,.bl true)] [] 0 [0,1]) (aC (σ:=sg []) ⟨(e1 k k),aJ⟩ aJ k)<|aL ?_
  obtain rfl:=so h
  exact aS k k k (bO k)
 ·refine aX 5 k q1<|am k k<|cm k4<|pk k3<|am k k ?_
  rcases cb h with ⟨q2,h⟩|⟨q2,h⟩
  ·refine aX 9 k q2<|aK k4<|pk k3<|aT k2<|aM (t:=bN [(2,.bl true)] [] 0 [0,1]) (aC (σ:=sg []) ⟨(e1 k k),aJ⟩ aJ k)<|aL ?_
   obtain rfl:=so h
   exact aS k k k (bO k)
  ·refine aX 9 k q2<|am k k<|cm k4<|pk k3<|aT k2<|aM (t:=bN [(2,.bl (decide (a0=5)))] [] 0 [0,1]) (aC (σ:=sg []) ⟨(e1 k k),aJ⟩ aJ k)<|aL ?_
   obtain rfl:=so h
   exact aS k k k (bO k)
def iH (a0:Int):Option Bool:=
 bif decide (a0=2) then
 (some (true))
 else
 (bif decide (a0=3) then
 (some (true))
 else
 (some (decide (a0=5))))
theorem lW (a0:Int) (r:Bool) (h:iH a0=some r):HasC Tryz.prog 146 [.int a0] (.bl r):=by
 refine bJ aB (rvs:=[.tmp 2]) (ns:=[0,1]) Tryz.func146 k k Tryz.ntmps146 k k k<|sR<|aT k2<|sR<|am k k<|cm k4 ?_
 refine am k k ?_
 rcases cb h with ⟨q1,h⟩|⟨q1,h⟩
 ·refine aX 5 k q1<|aK k4<|pk k3<|am k k<|aK k4<|pk k3<|aa k k<|an ?_
  refine tn<|aM (t:=bN [(2,.bl true)] [] 0 [0,1]) (aC (σ:=sg []) ⟨(e1 k k),aJ⟩ aJ k)<|aL ?_
  obtain rfl:=so h
  exact aS k k k (bO k)
 ·refine aX 5 k q1<|am k k<|cm k4<|pk k3<|am k k ?_
  rcases cb h with ⟨q2,h⟩|⟨q2,h⟩
  ·refine aX 9 k q2<|aK k4<|pk k3<|aT k2<|aM (t:=bN [(2,.bl true)] [] 0 [0,1]) (aC (σ:=sg []) ⟨(e1 k k),aJ⟩ aJ k)<|aL ?_
   obtain rfl:=so h
   exact aS k k k (bO k)
  ·refine aX 9 k q2<|am k k<|cm k4<|pk k3<|aT k2<|aM (t:=bN [(2,.bl (decide (a0=5)))] [] 0 [0,1]) (aC (σ:=sg []) ⟨(e1 k k),aJ⟩ aJ k)<|aL ?_
   obtain rfl:=so h
   exact aS k k k (bO k)
def mO (a0:Qv) (x1:Int):Option (Int ⊕ (Unit ⊕ Bool)):=
 bif decide (x1<(a0.src.length:Int)) then
 (bif decide (x1<(a0.tgt.length:Int)) then
 (Option.bind (dY a0.src x1) fun v3=>
 Option.bind (fU v3 0 (wr (a0.n - 1))) fun v4=>
 bif !v4 then
 (some (.inr (.inr (false))))
 else
 (Option.bind (dY a0.tgt x1) fun v6=>
 Option.bind (fU v6 0 (wr (a0.n - 1))) fun v7=>
 bif !v7 then
 (some (.inr (.inr (false))))
 else
 (some (.inl (wr (x1+1))))))
 else
 (some (.inr (.inl ()))))
 else
 (some (.inr (.inl ())))
def rI (a0:Qv):Option Bool:=
 Option.bind (Lp (mO a0) 0) fun y9=>
 Sum.elim (fun y10=>
 Option.bind (fU a0.n 1 5) fun v11=>
 bif v11 then
 (bif decide ((a0.src.length:Int)≤6) then
 (some (decide ((a0.tgt.length:Int)=(a0.src.length:Int))))
 else
 (some (false)))
 else
 (some (false))
 )
 (fun y14=>
 some y14
 )
 y9
theorem aFs (a0:Qv) (r:Bool) (h:rI a0=some r):HasC Tryz.prog 210 [.agg (eQ a0)] (.bl r):=by
 refine bJ aB (rvs:=[.tmp 2]) (ns:=[0,1,2]) Tryz.func210 k k Tryz.ntmps210 k k k<|sR<|ae (cE k k k k) k<|aT k2<|sQ<|sR ?_
 refine aT k2<|aI ?_
 obtain ⟨y9,hy9,h⟩:=ob h
 refine cV (body:=(mO a0)) hy9 (fun (x1:Int)=>bN [(1,.ptr 0 0 0),(3,.int x1)] [(0,⟨3,[[.int a0.n,.list 1 (a0.src.map eI),.list 1 (a0.tgt.map eI)]]⟩)] 1 [1,2]) (fun r e t=>Sum.elim (fun a=>(fun r e t=>e= .exit 0∧Ent t (bN [(1,.ptr 0 0 0)] [(0,⟨3,[[.int a0.n,.list 1 (a0.src.map eI),.list 1 (a0.tgt.map eI)]]⟩)] 1 [1,2])) a e t) (fun b=>(fun r e t=>e= .ret∧oD TT [.tmp 2] (.bl r) .ret t) b e t) r) (aC (σ:=sg [(0,0)]) ⟨(pE k k),(e1 k k),aJ⟩ (hP k k k k<|aJ) k) ?_ ?_
 ·intro x1 o h
  refine sQ<|sR<|am k k<|fp k8<|lp k8<|ln k4<|cm k4<|am k k ?_
  rcases cb h with ⟨q1,h⟩|⟨q1,h⟩
  ·refine aX 9 k q1<|am k k<|fp k8<|lp k8<|ln k4<|cm k4<|pk k3<|an<|tn<|aM (t:=bN [(1,.ptr 0 0 0),(3,.int x1),(15,.bl (decide (x1<(a0.tgt.length:Int))))] [(0,⟨3,[[.int a0.n,.list 1 (a0.src.map eI),.list 1 (a0.tgt.map eI)]]⟩)] 1 [1,2]) (aC (σ:=sg [(0,0)]) ⟨(pE k k),(e1 k k),(e1 k k),aJ⟩ (hP k k k k<|aJ) k) ?_
   rcases cb h with ⟨q2,h⟩|⟨q2,h⟩
   ·refine aH k q2<|aQ<|tn<|sQ<|aI<|sQ<|aW kI<|fp k8<|lp k8<|am k k ?_
    obtain ⟨v3,hv3,h⟩:=ob h
    refine ae (bF aB hv3 k k k k k k) k<|lr k7<|fp k8<|lp k8<|ae (iX k k) k ?_
    obtain ⟨v4,hv4,h⟩:=ob h
    refine ae (bA (gP v3 0 (wr (a0.n - 1)) v4 hv4) k (aD (aO k) (aD (aO k) (aD (aO k) bD)))) k<|ae (cJ k) k<|am k k ?_
    rcases cb h with ⟨q5,h⟩|⟨q5,h⟩
    ·refine aX 28 k q5<|aK k4<|aK k4<|aK k4<|aK k4<|ak k k ?_
     refine ak k k<|pk k3<|an ?_
     refine ⟨by kernel_rfl,?_⟩
     refine tn<|aM (t:=bN [(1,.ptr 0 0 0),(3,.int x1),(39,.bl true)] [(0,⟨3,[[.int a0.n,.list 1 (a0.src.map eI),.list 1 (a0.tgt.map eI)]]⟩)] 1 [1,2]) (aC (σ:=sg [(0,0)]) ⟨(pE k k),(e1 k k),(e1 k k),aJ⟩ (hP k k k k<|aJ) k)<|aH k k<|sR<|aT k2<|aL<|aY ?_
     refine aG<|aG ?_
     obtain rfl:=so h
     exact ⟨_,k,k,aS k k k (bO k)⟩
    ·refine aX 28 k q5<|fp k8<|lp k8<|am k k ?_
     obtain ⟨v6,hv6,h⟩:=ob h
     refine ae (bF aB hv6 k k k k k k) k<|lr k7<|fp k8<|lp k8<|ae (iX k k) k ?_
     obtain ⟨v7,hv7,h⟩:=ob h
     refine ae (bA (gP v6 0 (wr (a0.n - 1)) v7 hv7) k (aD (aO k) (aD (aO k) (aD (aO k) bD)))) k<|ae (cJ k) k<|pk k3<|an ?_
     refine ⟨by kernel_rfl,?_⟩
     refine tn<|aM (t:=bN [(1,.ptr 0 0 0),(3,.int x1),(39,.bl (!v7))] [(0,⟨3,[[.int a0.n,.list 1 (a0.src.map eI),.list 1 (a0.tgt.map eI)]]⟩)] 1 [1,2]) (aC (σ:=sg [(0,0)]) ⟨(pE k k),(e1 k k),(e1 k k),aJ⟩ (hP k k k k<|aJ) k) ?_
     rcases cb h with ⟨q8,h⟩|⟨q8,h⟩
     ·refine aH k q8<|sR<|aT k2<|aL<|aY<|aG<|aG ?_
      obtain rfl:=so h
      exact ⟨_,k,k,aS k k k (bO k)⟩
     ·refine aN k q8<|aQ<|bB<|tn<|rg<|am k k<|ae (bT k k) k<|aT k2 ?_
      obtain rfl:=so h
      exact ⟨_,k,(aC (σ:=sg [(0,0)]) ⟨(pE k k),(e1 k k),aJ⟩ (hP k k k k<|aJ) k)⟩
   ·refine aN k q2<|bC<|aE<|aE ?_
    obtain rfl:=so h
    exact ⟨_,k,k,(aC (σ:=sg [(0,0)]) ⟨(pE k k),aJ⟩ (hP k k k k<|aJ) k)⟩
  ·refine aX 9 k q1<|aK k4<|aK k4<|ak k k<|pk k3<|an<|tn<|aM (t:=bN [(1,.ptr 0 0 0),(3,.int x1),(15,.bl false)] [(0,⟨3,[[.int a0.n,.list 1 (a0.src.map eI),.list 1 (a0.tgt.map eI)]]⟩)] 1 [1,2]) (aC (σ:=sg [(0,0)]) ⟨(pE k k),(e1 k k),(e1 k k),aJ⟩ (hP k k k k<|aJ) k) ?_
   refine aN k k<|bC<|aE<|aE ?_
   obtain rfl:=so h
   exact ⟨_,k,k,(aC (σ:=sg [(0,0)]) ⟨(pE k k),aJ⟩ (hP k k k k<|aJ) k)⟩
 ·intro e t hX
  rcases y9 with y10|y14
  ·obtain ⟨rfl,hent⟩:=hX
   refine aU<|tn<|aM hent<|sR<|fp k8<|lp k8 ?_
   obtain ⟨v11,hv11,h⟩:=ob h
   refine ae (bA (gP a0.n 1 5 v11 hv11) k (aD (aO k) (aD (aO k) (aD (aO k) bD)))) k<|am k k ?_
   rcases cb h with ⟨q12,h⟩|⟨q12,h⟩
   ·refine aX 43 k q12<|fp k8<|lp k8<|ln k4<|cm k4<|pk k3<|am k k ?_
    rcases cb h with ⟨q13,h⟩|⟨q13,h⟩
    ·refine aX 49 k q13<|fp k8<|lp k8<|ln k4<|fp k8<|lp k8<|ln k4<|cm k4<|pk k3<|aa k k ?_
     refine an<|tn<|aM (t:=bN [(2,.bl (decide ((a0.tgt.length:Int)=(a0.src.length:Int))))] [] 1 [1,2]) (aC (σ:=sg []) ⟨(e1 k k),aJ⟩ aJ k)<|aL ?_
     obtain rfl:=so h
     exact aS k k k (bO k)
    ·refine aX 49 k q13<|aK k4<|aK k4<|aK k4<|ak k k<|pk k3<|aa k k ?_
     refine an<|tn<|aM (t:=bN [(2,.bl false)] [] 1 [1,2]) (aC (σ:=sg []) ⟨(e1 k k),aJ⟩ aJ k)<|aL ?_
     obtain rfl:=so h
     exact aS k k k (bO k)
   ·refine aX 43 k q12<|aK k4<|aK k4<|pk k3<|am k k<|aK k4<|ak k k ?_
    refine aK k4<|aK k4<|pk k3<|aT k2<|aM (t:=bN [(2,.bl false)] [] 1 [1,2]) (aC (σ:=sg []) ⟨(e1 k k),aJ⟩ aJ k)<|aL ?_
    obtain rfl:=so h
    exact aS k k k (bO k)
  ·obtain ⟨rfl,hent⟩:=hX
   refine aY<|aG ?_
   obtain rfl:=so h
   exact hent
def tK (a0:Int) (a1:Int):Option Mt:=
 bif (decide (0≤wr (a0*a1))&&decide (wr (a0*a1)≤1048576)) then
 (some ((⟨a0,a1,(List.replicate ((wr (a0*a1)).toNat) (0:Int))⟩:Mt)))
 else none
theorem aBU (a0:Int) (a1:Int) (r:Mt) (h:tK a0 a1=some r):HasC Tryz.prog 189 [.int a0,.int a1] (.agg (eM r)):=by
 refine bJ aB (rvs:=[.cell 4 113]) (ns:=[0,1,2,3]) Tryz.func189 k k Tryz.ntmps189 k k k<|sR<|ae (bV aB k k) k<|an<|tn<|sR<|am k k<|am k k ?_
 refine am k k<|am k k<|ae (gJ k k) k ?_
 obtain ⟨q1,h⟩:=cg h
 refine ae (aAq aB q1 k k k k k k k k) k<|ae (cS aB k k k k k k) k<|ae (bK aB k k k k k k k k) k<|an<|tn<|aM (t:=bN [(4,.ptr 0 0 0)] [(0,⟨3,[[.int a0,.int a1,.own 1 0 ((List.replicate ((wr (a0*a1)).toNat) (0:Int)).length)]]⟩),(1,⟨1,List.map (ow eI) (List.replicate ((wr (a0*a1)).toNat) (0:Int))⟩)] 2 [2,3]) (aC (σ:=sg [(0,0),(1,1)]) ⟨(pE k k),aJ⟩ (hX ⟨_,k,k,.inr ⟨_,_,k,⟨_,_,k,k,⟨_,_,k,k,⟨_,_,k,⟨k,k,(by simp only [aZ,lA,lT,lR,lC,lN]),k⟩,k⟩⟩⟩,k⟩⟩ k<|hX ⟨_,k,k,.inl ⟨aBQ (e:=eI) (z:=0) _,dR.plainO _⟩⟩ k<|aJ) k)<|aL ?_
 obtain rfl:=so h
 exact aS k k k (qV (cF (k) (cF (k) (cF (iZ dR k k) iD))))
def vV (a0:Int) (a1:Int):Option Mt:=
 bif (decide (0≤wr (a0*a1))&&decide (wr (a0*a1)≤1048576)) then
 (some ((⟨a0,a1,(List.replicate ((wr (a0*a1)).toNat) (0:Int))⟩:Mt)))
 else none
theorem aIP (a0:Int) (a1:Int) (r:Mt) (h:vV a0 a1=some r):HasC Tryz.prog 201 [.int a0,.int a1] (.agg (eM r)):=by
 refine bJ aB (rvs:=[.cell 4 113]) (ns:=[0,1,2,3]) Tryz.func201 k k Tryz.ntmps201 k k k<|sR<|ae (bV aB k k) k<|an<|tn<|sR<|am k k<|am k k ?_
 refine am k k<|am k k<|ae (gJ k k) k ?_
 obtain ⟨q1,h⟩:=cg h
 refine ae (aAq aB q1 k k k k k k k k) k<|ae (cS aB k k k k k k) k<|ae (bK aB k k k k k k k k) k<|an<|tn<|aM (t:=bN [(4,.ptr 0 0 0)] [(0,⟨3,[[.int a0,.int a1,.own 1 0 ((List.replicate ((wr (a0*a1)).toNat) (0:Int)).length)]]⟩),(1,⟨1,List.map (ow eI) (List.replicate ((wr (a0*a1)).toNat) (0:Int))⟩)] 2 [2,3]) (aC (σ:=sg [(0,0),(1,1)]) ⟨(pE k k),aJ⟩ (hX ⟨_,k,k,.inr ⟨_,_,k,⟨_,_,k,k,⟨_,_,k,k,⟨_,_,k,⟨k,k,(by simp only [aZ,lA,lT,lR,lC,lN]),k⟩,k⟩⟩⟩,k⟩⟩ k<|hX ⟨_,k,k,.inl ⟨aBQ (e:=eI) (z:=0) _,dR.plainO _⟩⟩ k<|aJ) k)<|aL ?_
 obtain rfl:=so h
 exact aS k k k (qV (cF (k) (cF (k) (cF (iZ dR k k) iD))))
def dQ (a0:Mt) (a1:Int):Option Unit:=
 bif (decide (0≤wr (a1*a0.cols))&&(decide (wr (a1*a0.cols)≤wr ((wr (a1+1))*a0.cols))&&decide (wr ((wr (a1+1))*a0.cols)≤((a0.cells.length:Nat):Int)))) then
 (some ())
 else none
theorem eU (a0:Mt) (a1:Int) (r:Unit) (h:dQ a0 a1=some r):HasE Tryz.prog 190 [.agg [.int a0.rows,.int a0.cols,.own 0 0 a0.cells.length],.int a1] [(0,⟨1,a0.cells.map (ow eI)⟩)] 1 (.own 0 (0+(wr (a1*a0.cols)).toNat) ((wr ((wr (a1+1))*a0.cols)).toNat - (wr (a1*a0.cols)).toNat)) [(0,⟨1,a0.cells.map (ow eI)⟩)]:=by
 refine qF aB (rvs:=[.tmp 4]) (ns:=[1,2,3]) Tryz.func190 k k Tryz.ntmps190 k k<|sR<|ae (cE k k k k) k<|aT k2<|sR<|fp k8 ?_
 refine lp k8<|am k k<|fp k8<|lp k8<|ae (gJ k k) k<|am k k<|ae (bT k k) k<|fp k8<|lp k8<|ae (gJ k k) k ?_
 obtain ⟨q1,h⟩:=cg h
 refine ae (zH aB (l:=wr (a1*a0.cols)) (h:=wr ((wr (a1+1))*a0.cols)) q1 k k k k k k k k) k<|aT k2<|aM (t:=bN [(4,.own 0 (0+(wr (a1*a0.cols)).toNat) ((wr ((wr (a1+1))*a0.cols)).toNat - (wr (a1*a0.cols)).toNat))] [(0,⟨1,a0.cells.map (ow eI)⟩)] 2 [2,3] 1) (aC (σ:=sg [(0,0)]) ⟨(oE k k),aJ⟩ (hI k k k<|aJ) k)<|aL ?_
 obtain rfl:=so h
 exact ⟨bN [(4,.own 0 (0+(wr (a1*a0.cols)).toNat) ((wr ((wr (a1+1))*a0.cols)).toNat - (wr (a1*a0.cols)).toNat))] [(0,⟨1,a0.cells.map (ow eI)⟩)] 1 [1,2,3] 1,(aC (σ:=sg [(0,0)]) ⟨(oE k k),aJ⟩ (hI k k k<|aJ) k),k,⟨_,k,.inl k⟩,⟨k,aJ⟩⟩
def jR (a0:Int) (a2:Int) (a3:(List Int)) (n1:Nat) (s1:Nat) (x1:((List Int)×Int)):Option (((List Int)×Int) ⊕ (List Int)):=
 bif decide (x1.2<(a3.length:Int)) then
 (Option.bind (dY a3 x1.2) fun v2=>
 bif (decide (0≤x1.2)&&decide (x1.2<((n1:Nat):Int))) then
 (Option.bind (x1.1[(s1+x1.2.toNat)]?) fun v3=>
 bif !decide (a0=0) then
 (bif (decide (0≤x1.2)&&decide (x1.2<((n1:Nat):Int))) then
 (Option.bind (x1.1[(s1+x1.2.toNat)]?) fun v5=>
 some (.inl ((x1.1.set (s1+x1.2.toNat) ((wr (v3+(wr (a2*v2)))).tmod a0)),wr (x1.2+1)))
 )
 else none)
 else none
 )
 else none)
 else
 (some (.inr x1.1))
def gW (a0:Int) (c0:(List Int)) (s1:Nat) (n1:Nat) (a2:Int) (a3:(List Int)):Option (List Int):=
 Option.bind (Lp (jR a0 a2 a3 n1 s1) (c0,0)) fun y8=>
 some y8
theorem yC (a0:Int) (c0:(List Int)) (s1:Nat) (n1:Nat) (a2:Int) (a3:(List Int)) (r:(List Int)) (h:gW a0 c0 s1 n1 a2 a3=some r):HasE Tryz.prog 207 [.int a0,.own 0 s1 n1,.int a2,.list 1 (a3.map eI)] [(0,⟨1,c0.map (ow eI)⟩)] 1 (.own 0 s1 n1) [(0,⟨1,r.map (ow eI)⟩)]:=by
 refine qF aB (rvs:=[.tmp 8]) (ns:=[1,2]) Tryz.func207 k k Tryz.ntmps207 k k<|sR<|aT k2<|sQ<|sR<|am k k ?_
 refine ln k4<|am k k<|an<|tn<|aI ?_
 obtain ⟨y8,hy8,h⟩:=ob h
 refine cV (body:=(jR a0 a2 a3 n1 s1)) hy8 (fun (x1:((List Int)×Int))=>bN [(0,.int a0),(1,.own 0 s1 n1),(2,.int a2),(11,.list 1 (a3.map eI)),(12,.int (a3.length:Int)),(13,.int x1.2)] [(0,⟨1,x1.1.map (ow eI)⟩)] 1 [1,2] 1) (fun r e t=>e= .exit 0∧Ent t (bN [(1,.own 0 s1 n1)] [(0,⟨1,r.map (ow eI)⟩)] 1 [1,2] 1)) (aC (σ:=sg [(0,0)]) ⟨(e1 k k),(oE k k),(e1 k k),⟨_,k,⟨k,k⟩⟩,(e1 k k),(e1 k k),aJ⟩ (hI k k k<|aJ) k) ?_ ?_
 ·intro x1 o h
  refine sR<|cm k4<|an<|tn<|sQ ?_
  rcases cb h with ⟨q1,h⟩|⟨q1,h⟩
  ·refine aH k q1<|aQ<|tn<|sQ<|aI<|sR<|am k k ?_
   obtain ⟨v2,hv2,h⟩:=ob h
   refine ae (bF aB hv2 k k k k k k) k<|lr k7<|aa k k<|aT k2<|rg<|am k k<|am k k<|am k k ?_
   refine am k k ?_
   obtain ⟨q4,h⟩:=cg h
   obtain ⟨v3,hv3,h⟩:=ob h
   refine ae (gN aB q4 k k k k k k k) k<|ae (bE aB k k k k (cP (hv3)) k k) k<|am k k<|am k k<|ae (gJ k k) k<|ae (bT k k) k<|am k k ?_
   obtain ⟨q7,h⟩:=cg h
   refine ae (aDb k k q7) k ?_
   obtain ⟨q6,h⟩:=cg h
   obtain ⟨v5,hv5,h⟩:=ob h
   refine ae (gN aB q6 k k k k k k k) k<|ae (hJ aB tS (u:=(wr (v3+(wr (a2*v2)))).tmod a0) (hv5) k k k k k k) k<|an<|bB<|tn<|aM (t:=bN [(0,.int a0),(1,.own 0 s1 n1),(2,.int a2),(11,.list 1 (a3.map eI)),(12,.int (a3.length:Int)),(13,.int x1.2)] [(0,⟨1,List.map (ow eI) (x1.1.set (s1+x1.2.toNat) ((wr (v3+(wr (a2*v2)))).tmod a0))⟩)] 1 [1,2] 1) (aC (σ:=sg [(0,0)]) ⟨(e1 k k),(oE k k),(e1 k k),⟨_,k,⟨k,k⟩⟩,(e1 k k),(e1 k k),aJ⟩ (hI k k k<|aJ) k)<|rg<|ae (bT k k) k<|am k k<|an ?_
   refine tn ?_
   obtain rfl:=so h
   exact ⟨_,k,(aC (σ:=sg [(0,0)]) ⟨(e1 k k),(oE k k),(e1 k k),⟨_,k,⟨k,k⟩⟩,(e1 k k),(e1 k k),aJ⟩ (hI k k k<|aJ) k)⟩
  ·refine aN k q1<|bC<|aE<|aE ?_
   obtain rfl:=so h
   exact ⟨_,k,k,(aC (σ:=sg [(0,0)]) ⟨(oE k k),aJ⟩ (hI k k k<|aJ) k)⟩
 ·rintro e t ⟨rfl,hent⟩
  refine aU<|tn<|aM hent<|sR<|am k k<|aT k2<|aL ?_
  obtain rfl:=so h
  exact ⟨bN [(8,.own 0 s1 n1)] [(0,⟨1,y8.map (ow eI)⟩)] 1 [1,2] 1,(aC (σ:=sg [(0,0)]) ⟨(oE k k),aJ⟩ (hI k k k<|aJ) k),k,⟨_,k,.inl k⟩,⟨k,aJ⟩⟩
def gL (a0:Int) (a2:Int) (n1:Nat) (n3:Nat) (s1:Nat) (s3:Nat) (x1:((List Int)×Int)):Option (((List Int)×Int) ⊕ (List Int)):=
 bif decide (x1.2<((n3:Nat):Int)) then
 (bif (decide (0≤x1.2)&&decide (x1.2<((n3:Nat):Int))) then
 (Option.bind (x1.1[(s3+x1.2.toNat)]?) fun v2=>
 bif (decide (0≤x1.2)&&decide (x1.2<((n1:Nat):Int))) then
 (Option.bind (x1.1[(s1+x1.2.toNat)]?) fun v4=>
 bif !decide (a0=0) then
 (bif (decide (0≤x1.2)&&decide (x1.2<((n1:Nat):Int))) then
 (Option.bind (x1.1[(s1+x1.2.toNat)]?) fun v6=>
 some (.inl ((x1.1.set (s1+x1.2.toNat) ((wr (v4+(wr (a2*v2)))).tmod a0)),wr (x1.2+1)))
 )
 else none)
 else none
 )
 else none
 )
 else none)
 else
 (some (.inr x1.1))
def iN (a0:Int) (c0:(List Int)) (s1:Nat) (n1:Nat) (a2:Int) (s3:Nat) (n3:Nat):Option (List Int):=
 Option.bind (Lp (gL a0 a2 n1 n3 s1 s3) (c0,0)) fun y9=>
 some y9
theorem aAZ (a0:Int) (c0:(List Int)) (s1:Nat) (n1:Nat) (a2:Int) (s3:Nat) (n3:Nat) (r:(List Int)) (h:iN a0 c0 s1 n1 a2 s3 n3=some r):HasE Tryz.prog 207 [.int a0,.own 0 s1 n1,.int a2,.own 0 s3 n3] [(0,⟨1,c0.map (ow eI)⟩)] 1 (.own 0 s1 n1) [(0,⟨1,r.map (ow eI)⟩)]:=by
 refine qF aB (rvs:=[.tmp 8]) (ns:=[1,2]) Tryz.func207 k k Tryz.ntmps207 k k<|sR<|aT k2<|sQ<|sR<|am k k ?_
 refine ae (bP aB k k k k) k<|am k k<|an<|tn<|aI ?_
 obtain ⟨y9,hy9,h⟩:=ob h
 refine cV (body:=(gL a0 a2 n1 n3 s1 s3)) hy9 (fun (x1:((List Int)×Int))=>bN [(0,.int a0),(1,.own 0 s1 n1),(2,.int a2),(11,.own 0 s3 n3),(12,.int ((n3:Nat):Int)),(13,.int x1.2)] [(0,⟨1,x1.1.map (ow eI)⟩)] 1 [1,2] 1) (fun r e t=>e= .exit 0∧Ent t (bN [(1,.own 0 s1 n1)] [(0,⟨1,r.map (ow eI)⟩)] 1 [1,2] 1)) (aC (σ:=sg [(0,0)]) ⟨(e1 k k),(oE k k),(e1 k k),(oE k k),(e1 k k),(e1 k k),aJ⟩ (hI k k k<|aJ) k) ?_ ?_
 ·intro x1 o h
  refine sR<|cm k4<|an<|tn<|sQ ?_
  rcases cb h with ⟨q1,h⟩|⟨q1,h⟩
  ·refine aH k q1<|aQ<|tn<|sQ<|aI<|sR<|am k k ?_
   obtain ⟨q3,h⟩:=cg h
   obtain ⟨v2,hv2,h⟩:=ob h
   refine ae (gN aB q3 k k k k k k k) k<|ae (bE aB k k k k (cP (hv2)) k k) k<|aa k k<|aT k2<|rg<|am k k<|am k k<|am k k ?_
   refine am k k ?_
   obtain ⟨q5,h⟩:=cg h
   obtain ⟨v4,hv4,h⟩:=ob h
   refine ae (gN aB q5 k k k k k k k) k<|ae (bE aB k k k k (cP (hv4)) k k) k<|am k k<|am k k<|ae (gJ k k) k<|ae (bT k k) k<|am k k ?_
   obtain ⟨q8,h⟩:=cg h
   refine ae (aDb k k q8) k ?_
   obtain ⟨q7,h⟩:=cg h
   obtain ⟨v6,hv6,h⟩:=ob h
   refine ae (gN aB q7 k k k k k k k) k<|ae (hJ aB tS (u:=(wr (v4+(wr (a2*v2)))).tmod a0) (hv6) k k k k k k) k<|an<|bB<|tn<|aM (t:=bN [(0,.int a0),(1,.own 0 s1 n1),(2,.int a2),(11,.own 0 s3 n3),(12,.int ((n3:Nat):Int)),(13,.int x1.2)] [(0,⟨1,List.map (ow eI) (x1.1.set (s1+x1.2.toNat) ((wr (v4+(wr (a2*v2)))).tmod a0))⟩)] 1 [1,2] 1) (aC (σ:=sg [(0,0)]) ⟨(e1 k k),(oE k k),(e1 k k),(oE k k),(e1 k k),(e1 k k),aJ⟩ (hI k k k<|aJ) k)<|rg<|ae (bT k k) k<|am k k<|an ?_
   refine tn ?_
   obtain rfl:=so h
   exact ⟨_,k,(aC (σ:=sg [(0,0)]) ⟨(e1 k k),(oE k k),(e1 k k),(oE k k),(e1 k k),(e1 k k),aJ⟩ (hI k k k<|aJ) k)⟩
  ·refine aN k q1<|bC<|aE<|aE ?_
   obtain rfl:=so h
   exact ⟨_,k,k,(aC (σ:=sg [(0,0)]) ⟨(oE k k),aJ⟩ (hI k k k<|aJ) k)⟩
 ·rintro e t ⟨rfl,hent⟩
  refine aU<|tn<|aM hent<|sR<|am k k<|aT k2<|aL ?_
  obtain rfl:=so h
  exact ⟨bN [(8,.own 0 s1 n1)] [(0,⟨1,y9.map (ow eI)⟩)] 1 [1,2] 1,(aC (σ:=sg [(0,0)]) ⟨(oE k k),aJ⟩ (hI k k k<|aJ) k),k,⟨_,k,.inl k⟩,⟨k,aJ⟩⟩
def kJ (a0:Int) (a1:Int):Option Int:=
 bif !decide (a0=0) then
 (bif decide (a1.tmod a0<0) then
 (some (wr ((a1.tmod a0)+a0)))
 else
 (some (a1.tmod a0)))
 else none
theorem tX (a0:Int) (a1:Int) (r:Int) (h:kJ a0 a1=some r):HasC Tryz.prog 202 [.int a0,.int a1] (.int r):=by
 refine bJ aB (rvs:=[.tmp 4]) (ns:=[0,1]) Tryz.func202 k k Tryz.ntmps202 k k k<|sR<|aT k2<|sR<|am k k<|am k k ?_
 obtain ⟨q2,h⟩:=cg h
 refine ae (aDb k k q2) k<|aT k2<|sQ<|sR<|am k k<|cm k4<|an ?_
 refine tn ?_
 rcases cb h with ⟨q1,h⟩|⟨q1,h⟩
 ·refine aH k q1<|rg<|am k k<|am k k<|ae (bT k k) k<|aT k2<|sR ?_
  refine am k k<|aT k2<|aM (t:=bN [(4,.int (wr ((a1.tmod a0)+a0)))] [] 0 [0,1]) (aC (σ:=sg []) ⟨(e1 k k),aJ⟩ aJ k)<|aL ?_
  obtain rfl:=so h
  exact aS k k k (cT k)
 ·refine aN k q1<|aQ<|tn<|sR<|am k k<|aT k2<|aL ?_
  obtain rfl:=so h
  exact aS k k k (cT k)
def kK (a1:Mt) (a2:Mt) (x1:((List Int)×Int)) (x2:((List Int)×Int)) (x3:(Int×Int)):Option ((Int×Int) ⊕ Int):=
 bif decide (x3.2<a1.cols) then
 (Option.bind (dY a1.cells (wr ((wr (x1.2*a1.cols))+x3.2))) fun v5=>
 Option.bind (dY a2.cells (wr ((wr (x3.2*a2.cols))+x2.2))) fun v6=>
 some (.inl (wr (x3.1+(wr (v5*v6))),wr (x3.2+1))))
 else
 (some (.inr x3.1))
def kL (a0:Int) (a1:Mt) (a2:Mt) (x1:((List Int)×Int)) (x2:((List Int)×Int)):Option (((List Int)×Int) ⊕ (List Int)):=
 bif decide (x2.2<a2.cols) then
 (Option.bind (Lp (kK a1 a2 x1 x2) (0,0)) fun y7=>
 Option.bind (kJ a0 y7) fun v8=>
 Option.bind (dY x2.1 (wr ((wr (x1.2*a2.cols))+x2.2))) fun v9=>
 some (.inl ((x2.1.set ((wr ((wr (x1.2*a2.cols))+x2.2)).toNat) v8),wr (x2.2+1))))
 else
 (some (.inr x2.1))
def kM (a0:Int) (a1:Mt) (a2:Mt) (x1:((List Int)×Int)):Option (((List Int)×Int) ⊕ (List Int)):=
 bif decide (x1.2<a1.rows) then
 (Option.bind (Lp (kL a0 a1 a2 x1) (x1.1,0)) fun y10=>
 some (.inl (y10,wr (x1.2+1))))
 else
 (some (.inr x1.1))
def oU (a0:Int) (a1:Mt) (a2:Mt):Option Mt:=
 Option.bind (vV a1.rows a2.cols) fun v1=>
 Option.bind (Lp (kM a0 a1 a2) (v1.cells,0)) fun y11=>
 some ((⟨v1.rows,v1.cols,y11⟩:Mt))
theorem aDn (a0:Int) (a1:Mt) (a2:Mt) (r:Mt) (h:oU a0 a1 a2=some r):HasC Tryz.prog 145 [.int a0,.agg (eM a1),.agg (eM a2)] (.agg (eM r)):=by
 refine bJ aB (rvs:=[.cell 6 113]) (ns:=[0,1,2,3,4,5,6]) Tryz.func145 k k Tryz.ntmps145 k k k<|sR<|ae (cE k k k k) k<|ae (cE k k k k) k<|ae (bV aB k k) k<|an<|tn<|sR ?_
 refine fp k8<|lp k8<|fp k8<|lp k8 ?_
 obtain ⟨v1,hv1,h⟩:=ob h
 refine ae (AEff.conv (dF (x:= .agg [.int v1.rows,.int v1.cols,.own 3 0 (v1.cells.map eI).length]) (nb:=[(3,⟨1,cM (v1.cells.map eI)⟩)]) (aIP a1.rows a2.cols v1 hv1) k (by rfl) k k (bU aJ (bU aJ (bU (dR.good _) gS))) (aD (aO k) (aD (aO k) bD))) (v':= .agg [.int v1.rows,.int v1.cols,.own 3 0 v1.cells.length]) (ed':=[(3,some ⟨1,v1.cells.map (ow eI)⟩)]) (by simp only [aZ]) (fB (nb':=[(3,⟨1,v1.cells.map (ow eI)⟩)]) (by simp only [cW]))) k<|ae (bV aB k k) k<|ae (bK aB k k k k k k k k) k<|an<|tn<|sQ<|sR<|aa k k<|an ?_
 refine tn<|aI ?_
 obtain ⟨y11,hy11,h⟩:=ob h
 refine cV (body:=(kM a0 a1 a2)) hy11 (fun (x1:((List Int)×Int))=>bN [(0,.int a0),(4,.ptr 0 0 0),(5,.ptr 1 0 0),(6,.ptr 2 0 0),(7,.ptr 3 0 0),(8,.int x1.2)] [(0,⟨3,[[.int a1.rows,.int a1.cols,.list 1 (a1.cells.map eI)]]⟩),(1,⟨3,[[.int a2.rows,.int a2.cols,.list 1 (a2.cells.map eI)]]⟩),(2,⟨3,[[.int 0,.int 0,.nil 1]]⟩),(3,⟨3,[[.int v1.rows,.int v1.cols,.own 4 0 x1.1.length]]⟩),(4,⟨1,x1.1.map (ow eI)⟩)] 5 [5,6]) (fun r e t=>e= .exit 0∧Ent t (bN [(6,.ptr 0 0 0),(7,.ptr 1 0 0)] [(0,⟨3,[[.int 0,.int 0,.nil 1]]⟩),(1,⟨3,[[.int v1.rows,.int v1.cols,.own 2 0 r.length]]⟩),(2,⟨1,r.map (ow eI)⟩)] 3 [3,4,5,6])) (aC (σ:=sg [(0,0),(1,1),(2,2),(3,4),(4,3)]) ⟨(e1 k k),(pE k k),(pE k k),(pE k k),(pE k k),(e1 k k),aJ⟩ (hP k k k k<|hP k k k k<|hP k k k k<|hX ⟨_,k,k,.inr ⟨_,_,k,⟨_,_,k,k,⟨_,_,k,k,⟨_,_,k,⟨k,k,k,k⟩,k⟩⟩⟩,k⟩⟩ k<|hI k k k<|aJ) k) ?_ ?_
 ·intro x1 o h
  refine sQ<|sR<|am k k<|fp k8<|lp k8<|cm k4<|an<|tn ?_
  rcases cb h with ⟨q2,h⟩|⟨q2,h⟩
  ·refine aH k q2<|aQ<|tn<|sQ<|aI<|sR<|aT k2 ?_
   refine aI ?_
   obtain ⟨y10,hy10,h⟩:=ob h
   refine cV (body:=(kL a0 a1 a2 x1)) hy10 (fun (x2:((List Int)×Int))=>bN [(0,.int a0),(4,.ptr 0 0 0),(5,.ptr 1 0 0),(6,.ptr 2 0 0),(7,.ptr 3 0 0),(8,.int x1.2),(9,.int x2.2)] [(0,⟨3,[[.int a1.rows,.int a1.cols,.list 1 (a1.cells.map eI)]]⟩),(1,⟨3,[[.int a2.rows,.int a2.cols,.list 1 (a2.cells.map eI)]]⟩),(2,⟨3,[[.int 0,.int 0,.nil 1]]⟩),(3,⟨3,[[.int v1.rows,.int v1.cols,.own 4 0 x2.1.length]]⟩),(4,⟨1,x2.1.map (ow eI)⟩)] 5 [5,6]) (fun r e t=>e= .exit 2∧Ent t (bN [(0,.int a0),(4,.ptr 0 0 0),(5,.ptr 1 0 0),(6,.ptr 2 0 0),(7,.ptr 3 0 0),(8,.int x1.2)] [(0,⟨3,[[.int a1.rows,.int a1.cols,.list 1 (a1.cells.map eI)]]⟩),(1,⟨3,[[.int a2.rows,.int a2.cols,.list 1 (a2.cells.map eI)]]⟩),(2,⟨3,[[.int 0,.int 0,.nil 1]]⟩),(3,⟨3,[[.int v1.rows,.int v1.cols,.own 4 0 r.length]]⟩),(4,⟨1,r.map (ow eI)⟩)] 5 [5,6])) (aC (σ:=sg [(0,0),(1,1),(2,2),(3,3),(4,4)]) ⟨(e1 k k),(pE k k),(pE k k),(pE k k),(pE k k),(e1 k k),(e1 k k),aJ⟩ (hP k k k k<|hP k k k k<|hP k k k k<|hX ⟨_,k,k,.inr ⟨_,_,k,⟨_,_,k,k,⟨_,_,k,k,⟨_,_,k,⟨k,k,k,k⟩,k⟩⟩⟩,k⟩⟩ k<|hI k k k<|aJ) k) ?_ ?_
   ·intro x2 o h
    refine sQ<|sR<|am k k<|fp k8<|lp k8<|cm k4<|an<|tn ?_
    rcases cb h with ⟨q3,h⟩|⟨q3,h⟩
    ·refine aH k q3<|aQ<|tn<|sQ<|aI<|sR<|aT k2 ?_
     refine sQ<|sR<|aT k2<|aI ?_
     obtain ⟨y7,hy7,h⟩:=ob h
     refine cV (body:=(kK a1 a2 x1 x2)) hy7 (fun (x3:(Int×Int))=>bN [(0,.int a0),(4,.ptr 0 0 0),(5,.ptr 1 0 0),(6,.ptr 2 0 0),(7,.ptr 3 0 0),(8,.int x1.2),(9,.int x2.2),(10,.int x3.1),(11,.int x3.2)] [(0,⟨3,[[.int a1.rows,.int a1.cols,.list 1 (a1.cells.map eI)]]⟩),(1,⟨3,[[.int a2.rows,.int a2.cols,.list 1 (a2.cells.map eI)]]⟩),(2,⟨3,[[.int 0,.int 0,.nil 1]]⟩),(3,⟨3,[[.int v1.rows,.int v1.cols,.own 4 0 x2.1.length]]⟩),(4,⟨1,x2.1.map (ow eI)⟩)] 5 [5,6]) (fun r e t=>e= .exit 4∧Ent t (bN [(0,.int a0),(4,.ptr 0 0 0),(5,.ptr 1 0 0),(6,.ptr 2 0 0),(7,.ptr 3 0 0),(8,.int x1.2),(9,.int x2.2),(10,.int r)] [(0,⟨3,[[.int a1.rows,.int a1.cols,.list 1 (a1.cells.map eI)]]⟩),(1,⟨3,[[.int a2.rows,.int a2.cols,.list 1 (a2.cells.map eI)]]⟩),(2,⟨3,[[.int 0,.int 0,.nil 1]]⟩),(3,⟨3,[[.int v1.rows,.int v1.cols,.own 4 0 x2.1.length]]⟩),(4,⟨1,x2.1.map (ow eI)⟩)] 5 [5,6])) (aC (σ:=sg [(0,0),(1,1),(2,2),(3,3),(4,4)]) ⟨(e1 k k),(pE k k),(pE k k),(pE k k),(pE k k),(e1 k k),(e1 k k),(e1 k k),(e1 k k),aJ⟩ (hP k k k k<|hP k k k k<|hP k k k k<|hX ⟨_,k,k,.inr ⟨_,_,k,⟨_,_,k,k,⟨_,_,k,k,⟨_,_,k,⟨k,k,k,k⟩,k⟩⟩⟩,k⟩⟩ k<|hI k k k<|aJ) k) ?_ ?_
     ·intro x3 o h
      refine sQ<|sR<|am k k<|fp k8<|lp k8<|cm k4<|an<|tn ?_
      rcases cb h with ⟨q4,h⟩|⟨q4,h⟩
      ·refine aH k q4<|aQ<|tn<|sQ<|aI<|aW kI<|am k k<|fp k8<|lp k8<|am k k ?_
       refine fp k8<|lp k8<|ae (gJ k k) k<|am k k<|ae (bT k k) k ?_
       obtain ⟨v5,hv5,h⟩:=ob h
       refine ae (bF aB hv5 k k k k k k) k<|lr k7<|fp k8<|lp k8<|am k k<|fp k8<|lp k8<|ae (gJ k k) k<|am k k<|ae (bT k k) k ?_
       obtain ⟨v6,hv6,h⟩:=ob h
       refine ae (bF aB hv6 k k k k k k) k<|lr k7<|ae (gJ k k) k<|ae (bT k k) k<|aa k k<|an ?_
       refine ⟨by kernel_rfl,?_⟩
       refine bB<|tn<|aM (t:=bN [(0,.int a0),(4,.ptr 0 0 0),(5,.ptr 1 0 0),(6,.ptr 2 0 0),(7,.ptr 3 0 0),(8,.int x1.2),(9,.int x2.2),(10,.int (wr (x3.1+(wr (v5*v6))))),(11,.int x3.2)] [(0,⟨3,[[.int a1.rows,.int a1.cols,.list 1 (a1.cells.map eI)]]⟩),(1,⟨3,[[.int a2.rows,.int a2.cols,.list 1 (a2.cells.map eI)]]⟩),(2,⟨3,[[.int 0,.int 0,.nil 1]]⟩),(3,⟨3,[[.int v1.rows,.int v1.cols,.own 4 0 x2.1.length]]⟩),(4,⟨1,x2.1.map (ow eI)⟩)] 5 [5,6]) (aC (σ:=sg [(0,0),(1,1),(2,2),(3,3),(4,4)]) ⟨(e1 k k),(pE k k),(pE k k),(pE k k),(pE k k),(e1 k k),(e1 k k),(e1 k k),(e1 k k),aJ⟩ (hP k k k k<|hP k k k k<|hP k k k k<|hX ⟨_,k,k,.inr ⟨_,_,k,⟨_,_,k,k,⟨_,_,k,k,⟨_,_,k,⟨k,k,k,k⟩,k⟩⟩⟩,k⟩⟩ k<|hI k k k<|aJ) k)<|rg<|am k k<|ae (bT k k) k<|aT k2 ?_
       obtain rfl:=so h
       exact ⟨_,k,(aC (σ:=sg [(0,0),(1,1),(2,2),(3,3),(4,4)]) ⟨(e1 k k),(pE k k),(pE k k),(pE k k),(pE k k),(e1 k k),(e1 k k),(e1 k k),(e1 k k),aJ⟩ (hP k k k k<|hP k k k k<|hP k k k k<|hX ⟨_,k,k,.inr ⟨_,_,k,⟨_,_,k,k,⟨_,_,k,k,⟨_,_,k,⟨k,k,k,k⟩,k⟩⟩⟩,k⟩⟩ k<|hI k k k<|aJ) k)⟩
      ·refine aN k q4<|bC<|aE<|aE ?_
       obtain rfl:=so h
       exact ⟨_,k,k,(aC (σ:=sg [(0,0),(1,1),(2,2),(3,3),(4,4)]) ⟨(e1 k k),(pE k k),(pE k k),(pE k k),(pE k k),(e1 k k),(e1 k k),(e1 k k),aJ⟩ (hP k k k k<|hP k k k k<|hP k k k k<|hX ⟨_,k,k,.inr ⟨_,_,k,⟨_,_,k,k,⟨_,_,k,k,⟨_,_,k,⟨k,k,k,k⟩,k⟩⟩⟩,k⟩⟩ k<|hI k k k<|aJ) k)⟩
     ·rintro e t ⟨rfl,hent⟩
      refine aU<|tn<|aM hent<|aW kI<|fp k8<|lp k8<|am k k<|fp k8<|lp k8<|ae (gJ k k) k ?_
      refine am k k<|ae (bT k k) k<|am k k<|am k k ?_
      obtain ⟨v8,hv8,h⟩:=ob h
      refine ae (bA (tX a0 y7 v8 hv8) k (aD (aO k) (aD (aO k) bD))) k ?_
      obtain ⟨v9,hv9,h⟩:=ob h
      refine ae (cU aB (eF hv9) (dE hv9) k k k k k k k) k<|ae (hJ aB tS (u:=v8) (dJ hv9) k k k k k k) k<|an ?_
      refine ⟨by kernel_rfl,?_⟩
      refine bB<|tn<|aM (t:=bN [(0,.int a0),(4,.ptr 0 0 0),(5,.ptr 1 0 0),(6,.ptr 2 0 0),(7,.ptr 3 0 0),(8,.int x1.2),(9,.int x2.2)] [(0,⟨3,[[.int a1.rows,.int a1.cols,.list 1 (a1.cells.map eI)]]⟩),(1,⟨3,[[.int a2.rows,.int a2.cols,.list 1 (a2.cells.map eI)]]⟩),(2,⟨3,[[.int 0,.int 0,.nil 1]]⟩),(3,⟨3,[[.int v1.rows,.int v1.cols,.own 4 0 ((x2.1.set ((wr ((wr (x1.2*a2.cols))+x2.2)).toNat) v8).length)]]⟩),(4,⟨1,List.map (ow eI) (x2.1.set ((wr ((wr (x1.2*a2.cols))+x2.2)).toNat) v8)⟩)] 5 [5,6]) (aC (σ:=sg [(0,0),(1,1),(2,2),(3,3),(4,4)]) ⟨(e1 k k),(pE k k),(pE k k),(pE k k),(pE k k),(e1 k k),(e1 k k),aJ⟩ (hP k k k k<|hP k k k k<|hP k k k k<|hX ⟨_,k,k,.inr ⟨_,_,k,⟨_,_,k,k,⟨_,_,k,k,⟨_,_,k,⟨k,k,(by simp only [aZ,lA,lT,lR,lC,lN]),k⟩,k⟩⟩⟩,k⟩⟩ k<|hI k k k<|aJ) k)<|rg<|am k k<|ae (bT k k) k<|aT k2 ?_
      obtain rfl:=so h
      exact ⟨_,k,(aC (σ:=sg [(0,0),(1,1),(2,2),(3,3),(4,4)]) ⟨(e1 k k),(pE k k),(pE k k),(pE k k),(pE k k),(e1 k k),(e1 k k),aJ⟩ (hP k k k k<|hP k k k k<|hP k k k k<|hX ⟨_,k,k,.inr ⟨_,_,k,⟨_,_,k,k,⟨_,_,k,k,⟨_,_,k,⟨k,k,k,k⟩,k⟩⟩⟩,k⟩⟩ k<|hI k k k<|aJ) k)⟩
    ·refine aN k q3<|bC<|aE<|aE ?_
     obtain rfl:=so h
     exact ⟨_,k,k,(aC (σ:=sg [(0,0),(1,1),(2,2),(3,3),(4,4)]) ⟨(e1 k k),(pE k k),(pE k k),(pE k k),(pE k k),(e1 k k),aJ⟩ (hP k k k k<|hP k k k k<|hP k k k k<|hX ⟨_,k,k,.inr ⟨_,_,k,⟨_,_,k,k,⟨_,_,k,k,⟨_,_,k,⟨k,k,k,k⟩,k⟩⟩⟩,k⟩⟩ k<|hI k k k<|aJ) k)⟩
   ·rintro e t ⟨rfl,hent⟩
    refine aU<|bB<|tn<|aM hent<|rg<|am k k<|ae (bT k k) k<|aT k2 ?_
    obtain rfl:=so h
    exact ⟨_,k,(aC (σ:=sg [(0,0),(1,1),(2,2),(3,3),(4,4)]) ⟨(e1 k k),(pE k k),(pE k k),(pE k k),(pE k k),(e1 k k),aJ⟩ (hP k k k k<|hP k k k k<|hP k k k k<|hX ⟨_,k,k,.inr ⟨_,_,k,⟨_,_,k,k,⟨_,_,k,k,⟨_,_,k,⟨k,k,k,k⟩,k⟩⟩⟩,k⟩⟩ k<|hI k k k<|aJ) k)⟩
  ·refine aN k q2<|bC<|aE<|aE ?_
   obtain rfl:=so h
   exact ⟨_,k,k,(aC (σ:=sg [(0,2),(1,3),(2,4)]) ⟨(pE k k),(pE k k),aJ⟩ (hP k k k k<|hX ⟨_,k,k,.inr ⟨_,_,k,⟨_,_,k,k,⟨_,_,k,k,⟨_,_,k,⟨k,k,k,k⟩,k⟩⟩⟩,k⟩⟩ k<|hI k k k<|aJ) k)⟩
 ·rintro e t ⟨rfl,hent⟩
  refine aU<|tn<|aM hent<|sR<|lp k8<|ae (bK aB k k k k k k k k) k<|an<|tn<|aL ?_
  obtain rfl:=so h
  exact aS k k k (qV (cF (k) (cF (k) (cF (iZ dR k k) iD))))
def kN (a0:Int) (a1:Int) (x1:Int):Option (Int ⊕ (Unit ⊕ Int)):=
 bif decide (x1<a0) then
 (Option.bind (iE a0) fun v2=>
 bif v2 then
 (Option.bind (kJ a0 a1) fun v4=>
 Option.bind (kJ a0 (wr (v4*x1))) fun v5=>
 bif decide (v5=1) then
 (some (.inr (.inr (x1))))
 else
 (some (.inl (wr (x1+1)))))
 else
 (some (.inr (.inl ()))))
 else
 (some (.inr (.inl ())))
def iO (a0:Int) (a1:Int):Option Int:=
 Option.bind (Lp (kN a0 a1) 1) fun y7=>
 Sum.elim (fun y8=>
 some (0)
 )
 (fun y9=>
 some y9
 )
 y7
theorem aDo (a0:Int) (a1:Int) (r:Int) (h:iO a0 a1=some r):HasC Tryz.prog 244 [.int a0,.int a1] (.int r):=by
 refine bJ aB (rvs:=[.tmp 4]) (ns:=[0,1]) Tryz.func244 k k Tryz.ntmps244 k k k<|sR<|aT k2<|sQ<|sR<|aa k k ?_
 refine an<|tn<|aI ?_
 obtain ⟨y7,hy7,h⟩:=ob h
 refine cV (body:=(kN a0 a1)) hy7 (fun (x1:Int)=>bN [(0,.int a0),(1,.int a1),(5,.int x1)] [] 0 [0,1]) (fun r e t=>Sum.elim (fun a=>(fun r e t=>e= .exit 0∧Ent t (bN [] [] 0 [0,1])) a e t) (fun b=>(fun r e t=>e= .ret∧oD TT [.tmp 4] (.int r) .ret t) b e t) r) (aC (σ:=sg []) ⟨(e1 k k),(e1 k k),(e1 k k),aJ⟩ aJ k) ?_ ?_
 ·intro x1 o h
  refine sQ<|sR<|am k k<|am k k<|cm k4<|am k k ?_
  rcases cb h with ⟨q1,h⟩|⟨q1,h⟩
  ·refine aX 9 k q1<|am k k ?_
   obtain ⟨v2,hv2,h⟩:=ob h
   refine ae (bA (lV a0 v2 hv2) k (aD (aO k) bD)) k<|pk k3<|an<|tn ?_
   rcases cb h with ⟨q3,h⟩|⟨q3,h⟩
   ·refine aH k q3<|aQ<|tn<|sQ<|aI<|sR<|am k k<|am k k<|am k k ?_
    obtain ⟨v4,hv4,h⟩:=ob h
    refine ae (bA (tX a0 a1 v4 hv4) k (aD (aO k) (aD (aO k) bD))) k<|am k k<|ae (gJ k k) k ?_
    obtain ⟨v5,hv5,h⟩:=ob h
    refine ae (bA (tX a0 (wr (v4*x1)) v5 hv5) k (aD (aO k) (aD (aO k) bD))) k<|cm k4<|an<|tn<|aM (t:=bN [(0,.int a0),(1,.int a1),(5,.int x1),(22,.bl (decide (v5=1)))] [] 0 [0,1]) (aC (σ:=sg []) ⟨(e1 k k),(e1 k k),(e1 k k),(e1 k k),aJ⟩ aJ k) ?_
    rcases cb h with ⟨q6,h⟩|⟨q6,h⟩
    ·refine aH k q6<|sR<|am k k<|aT k2<|aL<|aY<|aG ?_
     refine aG ?_
     obtain rfl:=so h
     exact ⟨_,k,k,aS k k k (cT k)⟩
    ·refine aN k q6<|aQ<|bB<|tn<|rg<|am k k<|ae (bT k k) k<|aT k2 ?_
     obtain rfl:=so h
     exact ⟨_,k,(aC (σ:=sg []) ⟨(e1 k k),(e1 k k),(e1 k k),aJ⟩ aJ k)⟩
   ·refine aN k q3<|bC<|aE<|aE ?_
    obtain rfl:=so h
    exact ⟨_,k,k,(aC (σ:=sg []) aJ aJ k)⟩
  ·refine aX 9 k q1<|aK k4<|pk k3<|an<|tn<|aN k k<|bC<|aE<|aE ?_
   obtain rfl:=so h
   exact ⟨_,k,k,(aC (σ:=sg []) aJ aJ k)⟩
 ·intro e t hX
  rcases y7 with y8|y9
  ·obtain ⟨rfl,hent⟩:=hX
   refine aU<|tn<|aM hent<|sR<|aT k2<|aL ?_
   obtain rfl:=so h
   exact aS k k k (cT k)
  ·obtain ⟨rfl,hent⟩:=hX
   refine aY<|aG ?_
   obtain rfl:=so h
   exact hent
def mP (a0:Int) (a1:(List Int)) (x1:Int):Option (Int ⊕ (Unit ⊕ Bool)):=
 bif decide (x1<(a1.length:Int)) then
 (Option.bind (dY a1 x1) fun v5=>
 Option.bind (fU v5 0 (wr (a0 - 1))) fun v6=>
 bif !v6 then
 (some (.inr (.inr (false))))
 else
 (some (.inl (wr (x1+1)))))
 else
 (some (.inr (.inl ())))
def gQ (a0:Int) (a1:(List Int)):Option Bool:=
 Option.bind (iE a0) fun v1=>
 bif !v1 then
 (some (false))
 else
 (bif decide (64<(a1.length:Int)) then
 (some (false))
 else
 (Option.bind (Lp (mP a0 a1) 0) fun y8=>
 Sum.elim (fun y9=>
 some (true)
 )
 (fun y10=>
 some y10
 )
 y8))
theorem wQ (a0:Int) (a1:(List Int)) (r:Bool) (h:gQ a0 a1=some r):HasC Tryz.prog 211 [.int a0,.list 1 (a1.map eI)] (.bl r):=by
 refine bJ aB (rvs:=[.tmp 4]) (ns:=[0,1]) Tryz.func211 k k Tryz.ntmps211 k k k<|sR<|aT k2<|sQ<|sR<|am k k ?_
 obtain ⟨v1,hv1,h⟩:=ob h
 refine ae (bA (lV a0 v1 hv1) k (aD (aO k) bD)) k<|ae (cJ k) k<|am k k ?_
 rcases cb h with ⟨q2,h⟩|⟨q2,h⟩
 ·refine aX 9 k q2<|aK k4<|ak k k<|pk k3<|an<|tn<|aH k k<|sR ?_
  refine aT k2<|aL<|aG ?_
  obtain rfl:=so h
  exact aS k k k (bO k)
 ·refine aX 9 k q2<|am k k<|ln k4<|cm k4<|pk k3<|an<|tn ?_
  rcases cb h with ⟨q3,h⟩|⟨q3,h⟩
  ·refine aH k q3<|sR<|aT k2<|aL<|aG ?_
   obtain rfl:=so h
   exact aS k k k (bO k)
  ·refine aN k q3<|aQ<|tn<|sQ<|sR<|aT k2<|aI ?_
   obtain ⟨y8,hy8,h⟩:=ob h
   refine cV (body:=(mP a0 a1)) hy8 (fun (x1:Int)=>bN [(0,.int a0),(1,.list 1 (a1.map eI)),(5,.int x1)] [] 0 [0,1]) (fun r e t=>Sum.elim (fun a=>(fun r e t=>e= .exit 0∧Ent t (bN [] [] 0 [0,1])) a e t) (fun b=>(fun r e t=>e= .ret∧oD TT [.tmp 4] (.bl r) .ret t) b e t) r) (aC (σ:=sg []) ⟨(e1 k k),⟨_,k,⟨k,k⟩⟩,(e1 k k),aJ⟩ aJ k) ?_ ?_
   ·intro x1 o h
    refine sQ<|sR<|am k k<|am k k<|ln k4<|cm k4<|an<|tn ?_
    rcases cb h with ⟨q4,h⟩|⟨q4,h⟩
    ·refine aH k q4<|aQ<|tn<|sQ<|aI<|sR<|am k k<|am k k ?_
     obtain ⟨v5,hv5,h⟩:=ob h
     refine ae (bF aB hv5 k k k k k k) k<|lr k7<|am k k<|ae (iX k k) k ?_
     obtain ⟨v6,hv6,h⟩:=ob h
     refine ae (bA (gP v5 0 (wr (a0 - 1)) v6 hv6) k (aD (aO k) (aD (aO k) (aD (aO k) bD)))) k<|ae (cJ k) k<|an<|tn<|aM (t:=bN [(0,.int a0),(1,.list 1 (a1.map eI)),(5,.int x1),(27,.bl (!v6))] [] 0 [0,1]) (aC (σ:=sg []) ⟨(e1 k k),⟨_,k,⟨k,k⟩⟩,(e1 k k),(e1 k k),aJ⟩ aJ k) ?_
     rcases cb h with ⟨q7,h⟩|⟨q7,h⟩
     ·refine aH k q7<|sR<|aT k2<|aL<|aY<|aG<|aG ?_
      obtain rfl:=so h
      exact ⟨_,k,k,aS k k k (bO k)⟩
     ·refine aN k q7<|aQ<|bB<|tn<|rg<|am k k<|ae (bT k k) k<|aT k2 ?_
      obtain rfl:=so h
      exact ⟨_,k,(aC (σ:=sg []) ⟨(e1 k k),⟨_,k,⟨k,k⟩⟩,(e1 k k),aJ⟩ aJ k)⟩
    ·refine aN k q4<|bC<|aE<|aE ?_
     obtain rfl:=so h
     exact ⟨_,k,k,(aC (σ:=sg []) aJ aJ k)⟩
   ·intro e t hX
    rcases y8 with y9|y10
    ·obtain ⟨rfl,hent⟩:=hX
     refine aU<|tn<|aM hent<|sR<|aT k2<|aL ?_
     obtain rfl:=so h
     exact aS k k k (bO k)
    ·obtain ⟨rfl,hent⟩:=hX
     refine aY<|aG ?_
     obtain rfl:=so h
     exact hent
def kE (a0:Int) (a1:Mt):Option Bool:=
 Option.bind (fU a1.rows 0 8) fun v1=>
 bif v1 then
 (Option.bind (fU a1.cols 0 8) fun v3=>
 bif v3 then
 (bif decide ((a1.cells.length:Int)=wr (a1.rows*a1.cols)) then
 (Option.bind (gQ a0 a1.cells) fun v6=>
 some (v6))
 else
 (some (false)))
 else
 (some (false)))
 else
 (some (false))
theorem wR (a0:Int) (a1:Mt) (r:Bool) (h:kE a0 a1=some r):HasC Tryz.prog 163 [.int a0,.agg (eM a1)] (.bl r):=by
 refine bJ aB (rvs:=[.tmp 4]) (ns:=[0,1,2]) Tryz.func163 k k Tryz.ntmps163 k k k<|sR<|ae (cE k k k k) k<|aT k2<|sR<|fp k8 ?_
 refine lp k8 ?_
 obtain ⟨v1,hv1,h⟩:=ob h
 refine ae (bA (gP a1.rows 0 8 v1 hv1) k (aD (aO k) (aD (aO k) (aD (aO k) bD)))) k<|am k k ?_
 rcases cb h with ⟨q2,h⟩|⟨q2,h⟩
 ·refine aX 8 k q2<|fp k8<|lp k8 ?_
  obtain ⟨v3,hv3,h⟩:=ob h
  refine ae (bA (gP a1.cols 0 8 v3 hv3) k (aD (aO k) (aD (aO k) (aD (aO k) bD)))) k<|pk k3<|am k k ?_
  rcases cb h with ⟨q4,h⟩|⟨q4,h⟩
  ·refine aX 13 k q4<|fp k8<|lp k8<|ln k4<|fp k8<|lp k8<|fp k8<|lp k8<|ae (gJ k k) k<|cm k4 ?_
   refine pk k3<|am k k ?_
   rcases cb h with ⟨q5,h⟩|⟨q5,h⟩
   ·refine aX 24 k q5<|am k k<|fp k8<|lp k8 ?_
    obtain ⟨v6,hv6,h⟩:=ob h
    refine ae (bA (wQ a0 a1.cells v6 hv6) k (aD (aO k) (aD (aO k) bD))) k<|pk k3<|aT k2<|aM (t:=bN [(4,.bl v6)] [] 1 [1,2]) (aC (σ:=sg []) ⟨(e1 k k),aJ⟩ aJ k)<|aL ?_
    obtain rfl:=so h
    exact aS k k k (bO k)
   ·refine aX 24 k q5<|aK k4<|aK k4<|pk k3<|aT k2<|aM (t:=bN [(4,.bl false)] [] 1 [1,2]) (aC (σ:=sg []) ⟨(e1 k k),aJ⟩ aJ k) ?_
    refine aL ?_
    obtain rfl:=so h
    exact aS k k k (bO k)
  ·refine aX 13 k q4<|aK k4<|aK k4<|aK k4<|aK k4<|ak k k ?_
   refine pk k3<|am k k<|aK k4<|aK k4<|pk k3<|aT k2 ?_
   refine aM (t:=bN [(4,.bl false)] [] 1 [1,2]) (aC (σ:=sg []) ⟨(e1 k k),aJ⟩ aJ k)<|aL ?_
   obtain rfl:=so h
   exact aS k k k (bO k)
 ·refine aX 8 k q2<|aK k4<|ak k k<|pk k3<|am k k<|aK k4<|aK k4 ?_
  refine aK k4<|aK k4<|ak k k<|pk k3<|am k k<|aK k4<|ak k k ?_
  refine ak k k<|pk k3<|aT k2<|aM (t:=bN [(4,.bl false)] [] 1 [1,2]) (aC (σ:=sg []) ⟨(e1 k k),aJ⟩ aJ k)<|aL ?_
  obtain rfl:=so h
  exact aS k k k (bO k)
def aAD (a0:Mt):Option Mt:=
 bif decide (([]:(List Int)).length +a0.cells.length≤4294967296) then
 (some ((⟨a0.rows,a0.cols,(([]:(List Int))++a0.cells)⟩:Mt)))
 else none
theorem aIQ (a0:Mt) (r:Mt) (h:aAD a0=some r):HasC Tryz.prog 114 [.agg (eM a0)] (.agg (eM r)):=by
 refine bJ aB (rvs:=[.cell 2 113]) (ns:=[0,1,2,3,4,5]) Tryz.func114 k k Tryz.ntmps114 k k k<|sR<|ae (cE k k k k) k<|ae (bV aB k k) k<|an<|tn<|sQ<|aW kI<|fp k8 ?_
 refine lp k8<|fp k8<|lp k8<|ae (cY aB k k k k k k k k k k k k) k<|fp k8<|lp k8 ?_
 obtain ⟨q1,h⟩:=cg h
 refine ae (xB aB (l:=([]:(List Int))) (m:=a0.cells) tS q1 k k k k k k k k k k k k) k<|ae (cS aB k k k k k k) k<|ae (bK aB k k k k k k k k) k<|an ?_
 refine ⟨by kernel_rfl,?_⟩
 refine tn<|aM (t:=bN [(2,.ptr 1 0 0)] [(1,⟨3,[[.int a0.rows,.int a0.cols,.own 3 0 ((([]:(List Int))++a0.cells).length)]]⟩),(3,⟨1,List.map (ow eI) (([]:(List Int))++a0.cells)⟩)] 4 [4,5]) (aC (σ:=sg [(1,1),(3,3)]) ⟨(pE k k),aJ⟩ (hX ⟨_,k,k,.inr ⟨_,_,k,⟨_,_,k,k,⟨_,_,k,k,⟨_,_,k,⟨k,k,k,k⟩,k⟩⟩⟩,k⟩⟩ k<|hI k k k<|aJ) k)<|aL ?_
 obtain rfl:=so h
 exact aS k k k (qV (cF (k) (cF (k) (cF (iZ dR k k) iD))))
end
noncomputable section
set_option maxRecDepth 10000
set_option maxHeartbeats 4000000
def jH (v1:Mt) (x1:(Int×(List Int)×(List Int)×Int)) (x2:(Int×Int)):Option ((Int×Int) ⊕ Int):=
 bif decide (x1.2.2.2≤x2.2) then
 (Option.bind (dY x1.2.1 (wr ((wr (x2.2*v1.cols))+x1.1))) fun v5=>
 bif !decide (v5=0) then
 (some (.inl (x2.2,wr (x2.2 - 1))))
 else
 (some (.inl (x2.1,wr (x2.2 - 1)))))
 else
 (some (.inr x2.1))
def mQ (v1:Mt) (x1:(Int×(List Int)×(List Int)×Int)) (y7:Int) (x3:((List Int)×Int)):Option (((List Int)×Int) ⊕ (List Int)):=
 bif decide (x3.2<v1.cols) then
 (Option.bind (dY x3.1 (wr ((wr (x1.2.2.2*v1.cols))+x3.2))) fun v10=>
 Option.bind (dY x3.1 (wr ((wr (y7*v1.cols))+x3.2))) fun v11=>
 Option.bind (dY x3.1 (wr ((wr (x1.2.2.2*v1.cols))+x3.2))) fun v12=>
 Option.bind (dY (x3.1.set ((wr ((wr (x1.2.2.2*v1.cols))+x3.2)).toNat) v11) (wr ((wr (y7*v1.cols))+x3.2))) fun v13=>
 some (.inl (((x3.1.set ((wr ((wr (x1.2.2.2*v1.cols))+x3.2)).toNat) v11).set ((wr ((wr (y7*v1.cols))+x3.2)).toNat) v10),wr (x3.2+1))))
 else
 (some (.inr x3.1))
def mR (a0:Int) (v1:Mt) (v16:Int) (x1:(Int×(List Int)×(List Int)×Int)) (x4:((List Int)×Int)):Option (((List Int)×Int) ⊕ (List Int)):=
 bif decide (x4.2<v1.cols) then
 (Option.bind (dY x4.1 (wr ((wr (x1.2.2.2*v1.cols))+x4.2))) fun v18=>
 Option.bind (kJ a0 (wr (v16*v18))) fun v19=>
 Option.bind (dY x4.1 (wr ((wr (x1.2.2.2*v1.cols))+x4.2))) fun v20=>
 some (.inl ((x4.1.set ((wr ((wr (x1.2.2.2*v1.cols))+x4.2)).toNat) v19),wr (x4.2+1))))
 else
 (some (.inr x4.1))
def jI (a0:Int) (v1:Mt) (v23:Int) (x1:(Int×(List Int)×(List Int)×Int)) (x5:((List Int)×Int)) (x6:((List Int)×Int)):Option (((List Int)×Int) ⊕ (List Int)):=
 bif decide (x6.2<v1.cols) then
 (bif !decide (x5.2=x1.2.2.2) then
 (Option.bind (dY x6.1 (wr ((wr (x5.2*v1.cols))+x6.2))) fun v26=>
 Option.bind (dY x6.1 (wr ((wr (x1.2.2.2*v1.cols))+x6.2))) fun v27=>
 Option.bind (kJ a0 (wr (v26 - (wr (v23*v27))))) fun v28=>
 Option.bind (dY x6.1 (wr ((wr (x5.2*v1.cols))+x6.2))) fun v29=>
 some (.inl ((x6.1.set ((wr ((wr (x5.2*v1.cols))+x6.2)).toNat) v28),wr (x6.2+1))))
 else
 (some (.inr x6.1)))
 else
 (some (.inr x6.1))
def gX (a0:Int) (v1:Mt) (x1:(Int×(List Int)×(List Int)×Int)) (x5:((List Int)×Int)):Option (((List Int)×Int) ⊕ (List Int)):=
 bif decide (x5.2<v1.rows) then
 (Option.bind (dY x5.1 (wr ((wr (x5.2*v1.cols))+x1.1))) fun v23=>
 Option.bind (Lp (jI a0 v1 v23 x1 x5) (x5.1,0)) fun y30=>
 some (.inl (y30,wr (x5.2+1))))
 else
 (some (.inr x5.1))
def eY (a0:Int) (v1:Mt) (x1:(Int×(List Int)×(List Int)×Int)):Option ((Int×(List Int)×(List Int)×Int) ⊕ ((List Int)×(List Int))):=
 bif decide (x1.1<v1.cols) then
 (bif decide (x1.2.2.2<v1.rows) then
 (Option.bind (Lp (jH v1 x1) ((-1),wr (v1.rows - 1))) fun y7=>
 bif decide (y7<0) then
 (some (.inl (wr (x1.1+1),x1.2.1,x1.2.2.1,x1.2.2.2)))
 else
 (Option.bind (Lp (mQ v1 x1 y7) (x1.2.1,0)) fun y14=>
 Option.bind (dY y14 (wr ((wr (x1.2.2.2*v1.cols))+x1.1))) fun v15=>
 Option.bind (iO a0 v15) fun v16=>
 Option.bind (Lp (mR a0 v1 v16 x1) (y14,0)) fun y21=>
 Option.bind (Lp (gX a0 v1 x1) (y21,0)) fun y31=>
 bif decide (x1.2.2.1.length+[x1.1].length ≤4294967296) then
 (some (.inl (wr (x1.1+1),y31,(x1.2.2.1++[x1.1]),wr (x1.2.2.2+1))))
 else none))
 else
 (some (.inr (x1.2.1,x1.2.2.1))))
 else
 (some (.inr (x1.2.1,x1.2.2.1)))
def kF (a0:Int) (a1:Mt):Option (Mt×(List Int)):=
 Option.bind (aAD a1) fun v1=>
 Option.bind (Lp (eY a0 v1) (0,v1.cells,([]:(List Int)),0)) fun y33=>
 some (((⟨v1.rows,v1.cols,y33.1⟩:Mt),y33.2))
theorem aFt (a0:Int) (a1:Mt) (r:(Mt×(List Int))) (h:kF a0 a1=some r):HasC Tryz.prog 226 [.int a0,.agg (eM a1)] (.tuple [.agg (eM r.1),.list 1 (r.2.map eI)]):=by
 refine bJ aB (rvs:=[.cell 4 113,.tmp 5]) (ns:=[0,1,2,3,4,5,6,7]) Tryz.func226 k k Tryz.ntmps226 k k k<|sR<|ae (cE k k k k) k<|ae (bV aB k k) k<|aT k2<|sR ?_
 refine lp k8 ?_
 obtain ⟨v1,hv1,h⟩:=ob h
 refine ae (AEff.conv (dF (x:= .agg [.int v1.rows,.int v1.cols,.own 2 0 (v1.cells.map eI).length]) (nb:=[(2,⟨1,cM (v1.cells.map eI)⟩)]) (aIQ a1 v1 hv1) k (by rfl) k k (bU aJ (bU aJ (bU (dR.good _) gS))) (aD (cD (aR (aV k) (aR (aV k) (aR (aV k) cO)))) bD)) (v':= .agg [.int v1.rows,.int v1.cols,.own 2 0 v1.cells.length]) (ed':=[(2,some ⟨1,v1.cells.map (ow eI)⟩)]) (by simp only [aZ]) (fB (nb':=[(2,⟨1,v1.cells.map (ow eI)⟩)]) (by simp only [cW]))) k<|ae (bV aB k k) k<|ae (bK aB k k k k k k k k) k<|an<|tn<|sR<|ae (cY aB k k k k k k k k k k k k) k<|aa k k<|an ?_
 refine tn<|aM (t:=bN [(0,.int a0),(4,.ptr 1 0 0),(6,.ptr 3 0 0),(7,.own 4 0 (([]:(List Int)).length))] [(1,⟨3,[[.int 0,.int 0,.nil 1]]⟩),(2,⟨1,v1.cells.map (ow eI)⟩),(3,⟨3,[[.int v1.rows,.int v1.cols,.own 2 0 v1.cells.length]]⟩),(4,⟨1,List.map (ow eI) ([]:(List Int))⟩)] 5 [5,6,7]) (aC (σ:=sg [(1,1),(2,2),(3,3),(4,4)]) ⟨(e1 k k),(pE k k),(pE k k),⟨_,k,⟨k,k,(by simp only [aZ,lA,lT,lR,lC,lN]),k⟩⟩,aJ⟩ (hP k k k k<|hI k k k<|hX ⟨_,k,k,.inr ⟨_,_,k,⟨_,_,k,k,⟨_,_,k,k,⟨_,_,k,⟨k,k,k,k⟩,k⟩⟩⟩,k⟩⟩ k<|hI k k k<|aJ) k)<|sR<|aT k2<|sQ<|sR ?_
 refine aT k2<|aI ?_
 obtain ⟨y33,hy33,h⟩:=ob h
 refine cV (body:=(eY a0 v1)) hy33 (fun (x1:(Int×(List Int)×(List Int)×Int))=>bN [(0,.int a0),(4,.ptr 0 0 0),(6,.ptr 1 0 0),(7,.own 3 0 x1.2.2.1.length),(8,.int x1.2.2.2),(9,.int x1.1)] [(0,⟨3,[[.int 0,.int 0,.nil 1]]⟩),(1,⟨3,[[.int v1.rows,.int v1.cols,.own 2 0 x1.2.1.length]]⟩),(2,⟨1,x1.2.1.map (ow eI)⟩),(3,⟨1,x1.2.2.1.map (ow eI)⟩)] 4 [4,5,6,7]) (fun r e t=>e= .exit 0∧Ent t (bN [(4,.ptr 0 0 0),(6,.ptr 1 0 0),(7,.own 3 0 r.2.length)] [(0,⟨3,[[.int 0,.int 0,.nil 1]]⟩),(1,⟨3,[[.int v1.rows,.int v1.cols,.own 2 0 r.1.length]]⟩),(2,⟨1,r.1.map (ow eI)⟩),(3,⟨1,r.2.map (ow eI)⟩)] 4 [4,5,6,7])) (aC (σ:=sg [(0,1),(1,3),(2,2),(3,4)]) ⟨(e1 k k),(pE k k),(pE k k),(oE k k),(e1 k k),(e1 k k),aJ⟩ (hP k k k k<|hX ⟨_,k,k,.inr ⟨_,_,k,⟨_,_,k,k,⟨_,_,k,k,⟨_,_,k,⟨k,k,k,k⟩,k⟩⟩⟩,k⟩⟩ k<|hI k k k<|hI k k k<|aJ) k) ?_ ?_
 ·intro x1 o h
  refine sQ<|sR<|am k k<|fp k8<|lp k8<|cm k4<|am k k ?_
  rcases cb h with ⟨q2,h⟩|⟨q2,h⟩
  ·refine aX 26 k q2<|am k k<|fp k8<|lp k8<|cm k4<|pk k3<|an<|tn ?_
   rcases cb h with ⟨q3,h⟩|⟨q3,h⟩
   ·refine aH k q3<|aQ<|tn<|sQ<|aI<|sR<|aT k2 ?_
    refine sQ<|sR<|fp k8<|lp k8<|ae (iX k k) k<|aT k2<|aM (t:=bN [(0,.int a0),(4,.ptr 0 0 0),(6,.ptr 1 0 0),(7,.own 3 0 x1.2.2.1.length),(8,.int x1.2.2.2),(9,.int x1.1),(10,.int (-1)),(11,.int (wr (v1.rows - 1)))] [(0,⟨3,[[.int 0,.int 0,.nil 1]]⟩),(1,⟨3,[[.int v1.rows,.int v1.cols,.own 2 0 x1.2.1.length]]⟩),(2,⟨1,x1.2.1.map (ow eI)⟩),(3,⟨1,x1.2.2.1.map (ow eI)⟩)] 4 [4,5,6,7]) (aC (σ:=sg [(0,0),(1,1),(2,2),(3,3)]) ⟨(e1 k k),(pE k k),(pE k k),(oE k k),(e1 k k),(e1 k k),(e1 k k),(e1 k k),aJ⟩ (hP k k k k<|hX ⟨_,k,k,.inr ⟨_,_,k,⟨_,_,k,k,⟨_,_,k,k,⟨_,_,k,⟨k,k,k,k⟩,k⟩⟩⟩,k⟩⟩ k<|hI k k k<|hI k k k<|aJ) k) ?_
    refine aI ?_
    obtain ⟨y7,hy7,h⟩:=ob h
    refine cV (body:=(jH v1 x1)) hy7 (fun (x2:(Int×Int))=>bN [(0,.int a0),(4,.ptr 0 0 0),(6,.ptr 1 0 0),(7,.own 3 0 x1.2.2.1.length),(8,.int x1.2.2.2),(9,.int x1.1),(10,.int x2.1),(11,.int x2.2)] [(0,⟨3,[[.int 0,.int 0,.nil 1]]⟩),(1,⟨3,[[.int v1.rows,.int v1.cols,.own 2 0 x1.2.1.length]]⟩),(2,⟨1,x1.2.1.map (ow eI)⟩),(3,⟨1,x1.2.2.1.map (ow eI)⟩)] 4 [4,5,6,7]) (fun r e t=>e= .exit 2∧Ent t (bN [(0,.int a0),(4,.ptr 0 0 0),(6,.ptr 1 0 0),(7,.own 3 0 x1.2.2.1.length),(8,.int x1.2.2.2),(9,.int x1.1),(10,.int r)] [(0,⟨3,[[.int 0,.int 0,.nil 1]]⟩),(1,⟨3,[[.int v1.rows,.int v1.cols,.own 2 0 x1.2.1.length]]⟩),(2,⟨1,x1.2.1.map (ow eI)⟩),(3,⟨1,x1.2.2.1.map (ow eI)⟩)] 4 [4,5,6,7])) (aC (σ:=sg [(0,0),(1,1),(2,2),(3,3)]) ⟨(e1 k k),(pE k k),(pE k k),(oE k k),(e1 k k),(e1 k k),(e1 k k),(e1 k k),aJ⟩ (hP k k k k<|hX ⟨_,k,k,.inr ⟨_,_,k,⟨_,_,k,k,⟨_,_,k,k,⟨_,_,k,⟨k,k,k,k⟩,k⟩⟩⟩,k⟩⟩ k<|hI k k k<|hI k k k<|aJ) k) ?_ ?_
    ·intro x2 o h
     refine sQ<|sR<|am k k<|am k k<|cm k4<|an<|tn ?_
     rcases cb h with ⟨q4,h⟩|⟨q4,h⟩
     ·refine aH k q4<|aQ<|tn<|sQ<|aI<|sR<|fp k8<|lp k8<|am k k ?_
      refine fp k8<|lp k8<|ae (gJ k k) k<|am k k<|ae (bT k k) k ?_
      obtain ⟨v5,hv5,h⟩:=ob h
      refine ae (cU aB (eF hv5) (dE hv5) k k k k k k k) k<|ae (bE aB k k k k (cP (dJ hv5)) k k) k<|cm k4<|an<|tn<|aM (t:=bN [(0,.int a0),(4,.ptr 0 0 0),(6,.ptr 1 0 0),(7,.own 3 0 x1.2.2.1.length),(8,.int x1.2.2.2),(9,.int x1.1),(10,.int x2.1),(11,.int x2.2),(52,.bl (!decide (v5=0)))] [(0,⟨3,[[.int 0,.int 0,.nil 1]]⟩),(1,⟨3,[[.int v1.rows,.int v1.cols,.own 2 0 x1.2.1.length]]⟩),(2,⟨1,x1.2.1.map (ow eI)⟩),(3,⟨1,x1.2.2.1.map (ow eI)⟩)] 4 [4,5,6,7]) (aC (σ:=sg [(0,0),(1,1),(2,2),(3,3)]) ⟨(e1 k k),(pE k k),(pE k k),(oE k k),(e1 k k),(e1 k k),(e1 k k),(e1 k k),(e1 k k),aJ⟩ (hP k k k k<|hX ⟨_,k,k,.inr ⟨_,_,k,⟨_,_,k,k,⟨_,_,k,k,⟨_,_,k,⟨k,k,k,k⟩,k⟩⟩⟩,k⟩⟩ k<|hI k k k<|hI k k k<|aJ) k) ?_
      rcases cb h with ⟨q6,h⟩|⟨q6,h⟩
      ·refine aH k q6<|rg<|am k k<|aa k k<|an<|bB<|tn<|rg<|am k k<|ae (iX k k) k ?_
       refine aT k2 ?_
       obtain rfl:=so h
       exact ⟨_,k,(aC (σ:=sg [(0,0),(1,1),(2,2),(3,3)]) ⟨(e1 k k),(pE k k),(pE k k),(oE k k),(e1 k k),(e1 k k),(e1 k k),(e1 k k),aJ⟩ (hP k k k k<|hX ⟨_,k,k,.inr ⟨_,_,k,⟨_,_,k,k,⟨_,_,k,k,⟨_,_,k,⟨k,k,k,k⟩,k⟩⟩⟩,k⟩⟩ k<|hI k k k<|hI k k k<|aJ) k)⟩
      ·refine aN k q6<|aQ<|bB<|tn<|rg<|am k k<|ae (iX k k) k<|aT k2 ?_
       obtain rfl:=so h
       exact ⟨_,k,(aC (σ:=sg [(0,0),(1,1),(2,2),(3,3)]) ⟨(e1 k k),(pE k k),(pE k k),(oE k k),(e1 k k),(e1 k k),(e1 k k),(e1 k k),aJ⟩ (hP k k k k<|hX ⟨_,k,k,.inr ⟨_,_,k,⟨_,_,k,k,⟨_,_,k,k,⟨_,_,k,⟨k,k,k,k⟩,k⟩⟩⟩,k⟩⟩ k<|hI k k k<|hI k k k<|aJ) k)⟩
     ·refine aN k q4<|bC<|aE<|aE ?_
      obtain rfl:=so h
      exact ⟨_,k,k,(aC (σ:=sg [(0,0),(1,1),(2,2),(3,3)]) ⟨(e1 k k),(pE k k),(pE k k),(oE k k),(e1 k k),(e1 k k),(e1 k k),aJ⟩ (hP k k k k<|hX ⟨_,k,k,.inr ⟨_,_,k,⟨_,_,k,k,⟨_,_,k,k,⟨_,_,k,⟨k,k,k,k⟩,k⟩⟩⟩,k⟩⟩ k<|hI k k k<|hI k k k<|aJ) k)⟩
    ·rintro e t ⟨rfl,hent⟩
     refine aU<|tn<|aM hent<|sQ<|sR<|am k k<|cm k4<|an<|tn ?_
     rcases cb h with ⟨q8,h⟩|⟨q8,h⟩
     ·refine aH k q8<|bC<|aE<|aU<|tn<|rg<|am k k<|ae (bT k k) k<|aa k k<|an ?_
      refine tn ?_
      obtain rfl:=so h
      exact ⟨_,k,(aC (σ:=sg [(0,0),(1,1),(2,2),(3,3)]) ⟨(e1 k k),(pE k k),(pE k k),(oE k k),(e1 k k),(e1 k k),aJ⟩ (hP k k k k<|hX ⟨_,k,k,.inr ⟨_,_,k,⟨_,_,k,k,⟨_,_,k,k,⟨_,_,k,⟨k,k,k,k⟩,k⟩⟩⟩,k⟩⟩ k<|hI k k k<|hI k k k<|aJ) k)⟩
     ·refine aN k q8<|aQ<|tn<|sQ<|sR<|aT k2<|aI ?_
      obtain ⟨y14,hy14,h⟩:=ob h
      refine cV (body:=(mQ v1 x1 y7)) hy14 (fun (x3:((List Int)×Int))=>bN [(0,.int a0),(4,.ptr 0 0 0),(6,.ptr 1 0 0),(7,.own 3 0 x1.2.2.1.length),(8,.int x1.2.2.2),(9,.int x1.1),(10,.int y7),(12,.int x3.2)] [(0,⟨3,[[.int 0,.int 0,.nil 1]]⟩),(1,⟨3,[[.int v1.rows,.int v1.cols,.own 2 0 x3.1.length]]⟩),(2,⟨1,x3.1.map (ow eI)⟩),(3,⟨1,x1.2.2.1.map (ow eI)⟩)] 4 [4,5,6,7]) (fun r e t=>e= .exit 4∧Ent t (bN [(0,.int a0),(4,.ptr 0 0 0),(6,.ptr 1 0 0),(7,.own 3 0 x1.2.2.1.length),(8,.int x1.2.2.2),(9,.int x1.1)] [(0,⟨3,[[.int 0,.int 0,.nil 1]]⟩),(1,⟨3,[[.int v1.rows,.int v1.cols,.own 2 0 r.length]]⟩),(2,⟨1,r.map (ow eI)⟩),(3,⟨1,x1.2.2.1.map (ow eI)⟩)] 4 [4,5,6,7])) (aC (σ:=sg [(0,0),(1,1),(2,2),(3,3)]) ⟨(e1 k k),(pE k k),(pE k k),(oE k k),(e1 k k),(e1 k k),(e1 k k),(e1 k k),aJ⟩ (hP k k k k<|hX ⟨_,k,k,.inr ⟨_,_,k,⟨_,_,k,k,⟨_,_,k,k,⟨_,_,k,⟨k,k,k,k⟩,k⟩⟩⟩,k⟩⟩ k<|hI k k k<|hI k k k<|aJ) k) ?_ ?_
      ·intro x3 o h
       refine sQ<|sR<|am k k<|fp k8<|lp k8<|cm k4<|an<|tn ?_
       rcases cb h with ⟨q9,h⟩|⟨q9,h⟩
       ·refine aH k q9<|aQ<|tn<|sQ<|aI<|sR<|fp k8<|lp k8<|am k k ?_
        refine fp k8<|lp k8<|ae (gJ k k) k<|am k k<|ae (bT k k) k ?_
        obtain ⟨v10,hv10,h⟩:=ob h
        refine ae (cU aB (eF hv10) (dE hv10) k k k k k k k) k<|ae (bE aB k k k k (cP (dJ hv10)) k k) k<|aT k2<|aM (t:=bN [(0,.int a0),(4,.ptr 0 0 0),(6,.ptr 1 0 0),(7,.own 3 0 x1.2.2.1.length),(8,.int x1.2.2.2),(9,.int x1.1),(10,.int y7),(12,.int x3.2),(13,.int v10)] [(0,⟨3,[[.int 0,.int 0,.nil 1]]⟩),(1,⟨3,[[.int v1.rows,.int v1.cols,.own 2 0 x3.1.length]]⟩),(2,⟨1,x3.1.map (ow eI)⟩),(3,⟨1,x1.2.2.1.map (ow eI)⟩)] 4 [4,5,6,7]) (aC (σ:=sg [(0,0),(1,1),(2,2),(3,3)]) ⟨(e1 k k),(pE k k),(pE k k),(oE k k),(e1 k k),(e1 k k),(e1 k k),(e1 k k),(e1 k k),aJ⟩ (hP k k k k<|hX ⟨_,k,k,.inr ⟨_,_,k,⟨_,_,k,k,⟨_,_,k,k,⟨_,_,k,⟨k,k,k,k⟩,k⟩⟩⟩,k⟩⟩ k<|hI k k k<|hI k k k<|aJ) k)<|sQ<|aW kI<|fp k8<|lp k8 ?_
        refine am k k<|fp k8<|lp k8<|ae (gJ k k) k<|am k k<|ae (bT k k) k<|fp k8<|lp k8<|am k k<|fp k8 ?_
        refine lp k8<|ae (gJ k k) k<|am k k<|ae (bT k k) k ?_
        obtain ⟨v11,hv11,h⟩:=ob h
        refine ae (cU aB (eF hv11) (dE hv11) k k k k k k k) k<|ae (bE aB k k k k (cP (dJ hv11)) k k) k ?_
        obtain ⟨v12,hv12,h⟩:=ob h
        refine ae (cU aB (eF hv12) (dE hv12) k k k k k k k) k<|ae (hJ aB tS (u:=v11) (dJ hv12) k k k k k k) k<|an ?_
        refine ⟨by kernel_rfl,?_⟩
        refine tn<|aM (t:=bN [(0,.int a0),(4,.ptr 0 0 0),(6,.ptr 1 0 0),(7,.own 3 0 x1.2.2.1.length),(8,.int x1.2.2.2),(9,.int x1.1),(10,.int y7),(12,.int x3.2),(13,.int v10)] [(0,⟨3,[[.int 0,.int 0,.nil 1]]⟩),(1,⟨3,[[.int v1.rows,.int v1.cols,.own 2 0 ((x3.1.set ((wr ((wr (x1.2.2.2*v1.cols))+x3.2)).toNat) v11).length)]]⟩),(2,⟨1,List.map (ow eI) (x3.1.set ((wr ((wr (x1.2.2.2*v1.cols))+x3.2)).toNat) v11)⟩),(3,⟨1,x1.2.2.1.map (ow eI)⟩)] 4 [4,5,6,7]) (aC (σ:=sg [(0,0),(1,1),(2,2),(3,3)]) ⟨(e1 k k),(pE k k),(pE k k),(oE k k),(e1 k k),(e1 k k),(e1 k k),(e1 k k),(e1 k k),aJ⟩ (hP k k k k<|hX ⟨_,k,k,.inr ⟨_,_,k,⟨_,_,k,k,⟨_,_,k,k,⟨_,_,k,⟨k,k,(by simp only [aZ,lA,lT,lR,lC,lN]),k⟩,k⟩⟩⟩,k⟩⟩ k<|hI k k k<|hI k k k<|aJ) k)<|rg<|fp k8<|lp k8<|am k k<|fp k8<|lp k8<|ae (gJ k k) k<|am k k ?_
        refine ae (bT k k) k<|am k k ?_
        obtain ⟨v13,hv13,h⟩:=ob h
        refine ae (cU aB (eF hv13) (dE hv13) k k k k k k k) k<|ae (hJ aB tS (u:=v10) (dJ hv13) k k k k k k) k<|an<|bB<|tn<|rg<|am k k<|ae (bT k k) k<|aa k k<|an ?_
        refine tn ?_
        obtain rfl:=so h
        exact ⟨_,k,(aC (σ:=sg [(0,0),(1,1),(2,2),(3,3)]) ⟨(e1 k k),(pE k k),(pE k k),(oE k k),(e1 k k),(e1 k k),(e1 k k),(e1 k k),aJ⟩ (hP k k k k<|hX ⟨_,k,k,.inr ⟨_,_,k,⟨_,_,k,k,⟨_,_,k,k,⟨_,_,k,⟨k,k,(by simp only [aZ,lA,lT,lR,lC,lN]),k⟩,k⟩⟩⟩,k⟩⟩ k<|hI k k k<|hI k k k<|aJ) k)⟩
       ·refine aN k q9<|bC<|aE<|aE ?_
        obtain rfl:=so h
        exact ⟨_,k,k,(aC (σ:=sg [(0,0),(1,1),(2,2),(3,3)]) ⟨(e1 k k),(pE k k),(pE k k),(oE k k),(e1 k k),(e1 k k),aJ⟩ (hP k k k k<|hX ⟨_,k,k,.inr ⟨_,_,k,⟨_,_,k,k,⟨_,_,k,k,⟨_,_,k,⟨k,k,k,k⟩,k⟩⟩⟩,k⟩⟩ k<|hI k k k<|hI k k k<|aJ) k)⟩
      ·rintro e t ⟨rfl,hent⟩
       refine aU<|tn<|aM hent<|sR<|am k k<|fp k8<|lp k8<|am k k<|fp k8 ?_
       refine lp k8<|ae (gJ k k) k<|am k k<|ae (bT k k) k ?_
       obtain ⟨v15,hv15,h⟩:=ob h
       refine ae (cU aB (eF hv15) (dE hv15) k k k k k k k) k<|ae (bE aB k k k k (cP (dJ hv15)) k k) k ?_
       obtain ⟨v16,hv16,h⟩:=ob h
       refine ae (bA (aDo a0 v15 v16 hv16) k (aD (aO k) (aD (aO k) bD))) k<|aT k2<|aM (t:=bN [(0,.int a0),(4,.ptr 0 0 0),(6,.ptr 1 0 0),(7,.own 3 0 x1.2.2.1.length),(8,.int x1.2.2.2),(9,.int x1.1),(14,.int v16)] [(0,⟨3,[[.int 0,.int 0,.nil 1]]⟩),(1,⟨3,[[.int v1.rows,.int v1.cols,.own 2 0 y14.length]]⟩),(2,⟨1,y14.map (ow eI)⟩),(3,⟨1,x1.2.2.1.map (ow eI)⟩)] 4 [4,5,6,7]) (aC (σ:=sg [(0,0),(1,1),(2,2),(3,3)]) ⟨(e1 k k),(pE k k),(pE k k),(oE k k),(e1 k k),(e1 k k),(e1 k k),aJ⟩ (hP k k k k<|hX ⟨_,k,k,.inr ⟨_,_,k,⟨_,_,k,k,⟨_,_,k,k,⟨_,_,k,⟨k,k,k,k⟩,k⟩⟩⟩,k⟩⟩ k<|hI k k k<|hI k k k<|aJ) k)<|sQ<|sR<|aa k k<|an ?_
       refine tn<|aI ?_
       obtain ⟨y21,hy21,h⟩:=ob h
       refine cV (body:=(mR a0 v1 v16 x1)) hy21 (fun (x4:((List Int)×Int))=>bN [(0,.int a0),(4,.ptr 0 0 0),(6,.ptr 1 0 0),(7,.own 3 0 x1.2.2.1.length),(8,.int x1.2.2.2),(9,.int x1.1),(14,.int v16),(15,.int x4.2)] [(0,⟨3,[[.int 0,.int 0,.nil 1]]⟩),(1,⟨3,[[.int v1.rows,.int v1.cols,.own 2 0 x4.1.length]]⟩),(2,⟨1,x4.1.map (ow eI)⟩),(3,⟨1,x1.2.2.1.map (ow eI)⟩)] 4 [4,5,6,7]) (fun r e t=>e= .exit 6∧Ent t (bN [(0,.int a0),(4,.ptr 0 0 0),(6,.ptr 1 0 0),(7,.own 3 0 x1.2.2.1.length),(8,.int x1.2.2.2),(9,.int x1.1)] [(0,⟨3,[[.int 0,.int 0,.nil 1]]⟩),(1,⟨3,[[.int v1.rows,.int v1.cols,.own 2 0 r.length]]⟩),(2,⟨1,r.map (ow eI)⟩),(3,⟨1,x1.2.2.1.map (ow eI)⟩)] 4 [4,5,6,7])) (aC (σ:=sg [(0,0),(1,1),(2,2),(3,3)]) ⟨(e1 k k),(pE k k),(pE k k),(oE k k),(e1 k k),(e1 k k),(e1 k k),(e1 k k),aJ⟩ (hP k k k k<|hX ⟨_,k,k,.inr ⟨_,_,k,⟨_,_,k,k,⟨_,_,k,k,⟨_,_,k,⟨k,k,k,k⟩,k⟩⟩⟩,k⟩⟩ k<|hI k k k<|hI k k k<|aJ) k) ?_ ?_
       ·intro x4 o h
        refine sQ<|sR<|am k k<|fp k8<|lp k8<|cm k4<|an<|tn ?_
        rcases cb h with ⟨q17,h⟩|⟨q17,h⟩
        ·refine aH k q17<|aQ<|tn<|sQ<|aI<|aW kI<|fp k8<|lp k8<|am k k<|fp k8 ?_
         refine lp k8<|ae (gJ k k) k<|am k k<|ae (bT k k) k<|am k k<|am k k<|fp k8<|lp k8<|am k k<|fp k8 ?_
         refine lp k8<|ae (gJ k k) k<|am k k<|ae (bT k k) k ?_
         obtain ⟨v18,hv18,h⟩:=ob h
         refine ae (cU aB (eF hv18) (dE hv18) k k k k k k k) k<|ae (bE aB k k k k (cP (dJ hv18)) k k) k<|ae (gJ k k) k ?_
         obtain ⟨v19,hv19,h⟩:=ob h
         refine ae (bA (tX a0 (wr (v16*v18)) v19 hv19) k (aD (aO k) (aD (aO k) bD))) k ?_
         obtain ⟨v20,hv20,h⟩:=ob h
         refine ae (cU aB (eF hv20) (dE hv20) k k k k k k k) k<|ae (hJ aB tS (u:=v19) (dJ hv20) k k k k k k) k<|an ?_
         refine ⟨by kernel_rfl,?_⟩
         refine bB<|tn<|aM (t:=bN [(0,.int a0),(4,.ptr 0 0 0),(6,.ptr 1 0 0),(7,.own 3 0 x1.2.2.1.length),(8,.int x1.2.2.2),(9,.int x1.1),(14,.int v16),(15,.int x4.2)] [(0,⟨3,[[.int 0,.int 0,.nil 1]]⟩),(1,⟨3,[[.int v1.rows,.int v1.cols,.own 2 0 ((x4.1.set ((wr ((wr (x1.2.2.2*v1.cols))+x4.2)).toNat) v19).length)]]⟩),(2,⟨1,List.map (ow eI) (x4.1.set ((wr ((wr (x1.2.2.2*v1.cols))+x4.2)).toNat) v19)⟩),(3,⟨1,x1.2.2.1.map (ow eI)⟩)] 4 [4,5,6,7]) (aC (σ:=sg [(0,0),(1,1),(2,2),(3,3)]) ⟨(e1 k k),(pE k k),(pE k k),(oE k k),(e1 k k),(e1 k k),(e1 k k),(e1 k k),aJ⟩ (hP k k k k<|hX ⟨_,k,k,.inr ⟨_,_,k,⟨_,_,k,k,⟨_,_,k,k,⟨_,_,k,⟨k,k,(by simp only [aZ,lA,lT,lR,lC,lN]),k⟩,k⟩⟩⟩,k⟩⟩ k<|hI k k k<|hI k k k<|aJ) k)<|rg<|am k k<|ae (bT k k) k<|aT k2 ?_
         obtain rfl:=so h
         exact ⟨_,k,(aC (σ:=sg [(0,0),(1,1),(2,2),(3,3)]) ⟨(e1 k k),(pE k k),(pE k k),(oE k k),(e1 k k),(e1 k k),(e1 k k),(e1 k k),aJ⟩ (hP k k k k<|hX ⟨_,k,k,.inr ⟨_,_,k,⟨_,_,k,k,⟨_,_,k,k,⟨_,_,k,⟨k,k,k,k⟩,k⟩⟩⟩,k⟩⟩ k<|hI k k k<|hI k k k<|aJ) k)⟩
        ·refine aN k q17<|bC<|aE<|aE ?_
         obtain rfl:=so h
         exact ⟨_,k,k,(aC (σ:=sg [(0,0),(1,1),(2,2),(3,3)]) ⟨(e1 k k),(pE k k),(pE k k),(oE k k),(e1 k k),(e1 k k),aJ⟩ (hP k k k k<|hX ⟨_,k,k,.inr ⟨_,_,k,⟨_,_,k,k,⟨_,_,k,k,⟨_,_,k,⟨k,k,k,k⟩,k⟩⟩⟩,k⟩⟩ k<|hI k k k<|hI k k k<|aJ) k)⟩
       ·rintro e t ⟨rfl,hent⟩
        refine aU<|tn<|aM hent<|sQ<|sR<|aT k2<|aI ?_
        obtain ⟨y31,hy31,h⟩:=ob h
        refine cV (body:=(gX a0 v1 x1)) hy31 (fun (x5:((List Int)×Int))=>bN [(0,.int a0),(4,.ptr 0 0 0),(6,.ptr 1 0 0),(7,.own 3 0 x1.2.2.1.length),(8,.int x1.2.2.2),(9,.int x1.1),(16,.int x5.2)] [(0,⟨3,[[.int 0,.int 0,.nil 1]]⟩),(1,⟨3,[[.int v1.rows,.int v1.cols,.own 2 0 x5.1.length]]⟩),(2,⟨1,x5.1.map (ow eI)⟩),(3,⟨1,x1.2.2.1.map (ow eI)⟩)] 4 [4,5,6,7]) (fun r e t=>e= .exit 8∧Ent t (bN [(0,.int a0),(4,.ptr 0 0 0),(6,.ptr 1 0 0),(7,.own 3 0 x1.2.2.1.length),(8,.int x1.2.2.2),(9,.int x1.1)] [(0,⟨3,[[.int 0,.int 0,.nil 1]]⟩),(1,⟨3,[[.int v1.rows,.int v1.cols,.own 2 0 r.length]]⟩),(2,⟨1,r.map (ow eI)⟩),(3,⟨1,x1.2.2.1.map (ow eI)⟩)] 4 [4,5,6,7])) (aC (σ:=sg [(0,0),(1,1),(2,2),(3,3)]) ⟨(e1 k k),(pE k k),(pE k k),(oE k k),(e1 k k),(e1 k k),(e1 k k),aJ⟩ (hP k k k k<|hX ⟨_,k,k,.inr ⟨_,_,k,⟨_,_,k,k,⟨_,_,k,k,⟨_,_,k,⟨k,k,k,k⟩,k⟩⟩⟩,k⟩⟩ k<|hI k k k<|hI k k k<|aJ) k) ?_ ?_
        ·intro x5 o h
         refine sQ<|sR<|am k k<|fp k8<|lp k8<|cm k4<|an<|tn ?_
         rcases cb h with ⟨q22,h⟩|⟨q22,h⟩
         ·refine aH k q22<|aQ<|tn<|sQ<|aI<|sR<|fp k8<|lp k8<|am k k ?_
          refine fp k8<|lp k8<|ae (gJ k k) k<|am k k<|ae (bT k k) k ?_
          obtain ⟨v23,hv23,h⟩:=ob h
          refine ae (cU aB (eF hv23) (dE hv23) k k k k k k k) k<|ae (bE aB k k k k (cP (dJ hv23)) k k) k<|aT k2<|aM (t:=bN [(0,.int a0),(4,.ptr 0 0 0),(6,.ptr 1 0 0),(7,.own 3 0 x1.2.2.1.length),(8,.int x1.2.2.2),(9,.int x1.1),(16,.int x5.2),(17,.int v23)] [(0,⟨3,[[.int 0,.int 0,.nil 1]]⟩),(1,⟨3,[[.int v1.rows,.int v1.cols,.own 2 0 x5.1.length]]⟩),(2,⟨1,x5.1.map (ow eI)⟩),(3,⟨1,x1.2.2.1.map (ow eI)⟩)] 4 [4,5,6,7]) (aC (σ:=sg [(0,0),(1,1),(2,2),(3,3)]) ⟨(e1 k k),(pE k k),(pE k k),(oE k k),(e1 k k),(e1 k k),(e1 k k),(e1 k k),aJ⟩ (hP k k k k<|hX ⟨_,k,k,.inr ⟨_,_,k,⟨_,_,k,k,⟨_,_,k,k,⟨_,_,k,⟨k,k,k,k⟩,k⟩⟩⟩,k⟩⟩ k<|hI k k k<|hI k k k<|aJ) k)<|sR<|aa k k<|an ?_
          refine tn<|aI ?_
          obtain ⟨y30,hy30,h⟩:=ob h
          refine cV (body:=(jI a0 v1 v23 x1 x5)) hy30 (fun (x6:((List Int)×Int))=>bN [(0,.int a0),(4,.ptr 0 0 0),(6,.ptr 1 0 0),(7,.own 3 0 x1.2.2.1.length),(8,.int x1.2.2.2),(9,.int x1.1),(16,.int x5.2),(17,.int v23),(18,.int x6.2)] [(0,⟨3,[[.int 0,.int 0,.nil 1]]⟩),(1,⟨3,[[.int v1.rows,.int v1.cols,.own 2 0 x6.1.length]]⟩),(2,⟨1,x6.1.map (ow eI)⟩),(3,⟨1,x1.2.2.1.map (ow eI)⟩)] 4 [4,5,6,7]) (fun r e t=>e= .exit 10∧Ent t (bN [(0,.int a0),(4,.ptr 0 0 0),(6,.ptr 1 0 0),(7,.own 3 0 x1.2.2.1.length),(8,.int x1.2.2.2),(9,.int x1.1),(16,.int x5.2)] [(0,⟨3,[[.int 0,.int 0,.nil 1]]⟩),(1,⟨3,[[.int v1.rows,.int v1.cols,.own 2 0 r.length]]⟩),(2,⟨1,r.map (ow eI)⟩),(3,⟨1,x1.2.2.1.map (ow eI)⟩)] 4 [4,5,6,7])) (aC (σ:=sg [(0,0),(1,1),(2,2),(3,3)]) ⟨(e1 k k),(pE k k),(pE k k),(oE k k),(e1 k k),(e1 k k),(e1 k k),(e1 k k),(e1 k k),aJ⟩ (hP k k k k<|hX ⟨_,k,k,.inr ⟨_,_,k,⟨_,_,k,k,⟨_,_,k,k,⟨_,_,k,⟨k,k,k,k⟩,k⟩⟩⟩,k⟩⟩ k<|hI k k k<|hI k k k<|aJ) k) ?_ ?_
          ·intro x6 o h
           refine sQ<|sR<|am k k<|fp k8<|lp k8<|cm k4<|am k k ?_
           rcases cb h with ⟨q24,h⟩|⟨q24,h⟩
           ·refine aX 162 k q24<|am k k<|am k k<|cm k4<|pk k3<|an<|tn ?_
            rcases cb h with ⟨q25,h⟩|⟨q25,h⟩
            ·refine aH k q25<|aQ<|tn<|sQ<|aI<|aW kI<|fp k8<|lp k8<|am k k<|fp k8 ?_
             refine lp k8<|ae (gJ k k) k<|am k k<|ae (bT k k) k<|am k k<|fp k8<|lp k8<|am k k<|fp k8<|lp k8 ?_
             refine ae (gJ k k) k<|am k k<|ae (bT k k) k ?_
             obtain ⟨v26,hv26,h⟩:=ob h
             refine ae (cU aB (eF hv26) (dE hv26) k k k k k k k) k<|ae (bE aB k k k k (cP (dJ hv26)) k k) k<|am k k<|fp k8<|lp k8<|am k k<|fp k8<|lp k8<|ae (gJ k k) k<|am k k ?_
             refine ae (bT k k) k ?_
             obtain ⟨v27,hv27,h⟩:=ob h
             refine ae (cU aB (eF hv27) (dE hv27) k k k k k k k) k<|ae (bE aB k k k k (cP (dJ hv27)) k k) k<|ae (gJ k k) k<|ae (iX k k) k ?_
             obtain ⟨v28,hv28,h⟩:=ob h
             refine ae (bA (tX a0 (wr (v26 - (wr (v23*v27)))) v28 hv28) k (aD (aO k) (aD (aO k) bD))) k ?_
             obtain ⟨v29,hv29,h⟩:=ob h
             refine ae (cU aB (eF hv29) (dE hv29) k k k k k k k) k<|ae (hJ aB tS (u:=v28) (dJ hv29) k k k k k k) k<|an ?_
             refine ⟨by kernel_rfl,?_⟩
             refine bB<|tn<|aM (t:=bN [(0,.int a0),(4,.ptr 0 0 0),(6,.ptr 1 0 0),(7,.own 3 0 x1.2.2.1.length),(8,.int x1.2.2.2),(9,.int x1.1),(16,.int x5.2),(17,.int v23),(18,.int x6.2)] [(0,⟨3,[[.int 0,.int 0,.nil 1]]⟩),(1,⟨3,[[.int v1.rows,.int v1.cols,.own 2 0 ((x6.1.set ((wr ((wr (x5.2*v1.cols))+x6.2)).toNat) v28).length)]]⟩),(2,⟨1,List.map (ow eI) (x6.1.set ((wr ((wr (x5.2*v1.cols))+x6.2)).toNat) v28)⟩),(3,⟨1,x1.2.2.1.map (ow eI)⟩)] 4 [4,5,6,7]) (aC (σ:=sg [(0,0),(1,1),(2,2),(3,3)]) ⟨(e1 k k),(pE k k),(pE k k),(oE k k),(e1 k k),(e1 k k),(e1 k k),(e1 k k),(e1 k k),aJ⟩ (hP k k k k<|hX ⟨_,k,k,.inr ⟨_,_,k,⟨_,_,k,k,⟨_,_,k,k,⟨_,_,k,⟨k,k,(by simp only [aZ,lA,lT,lR,lC,lN]),k⟩,k⟩⟩⟩,k⟩⟩ k<|hI k k k<|hI k k k<|aJ) k)<|rg<|am k k<|ae (bT k k) k<|aT k2 ?_
             obtain rfl:=so h
             exact ⟨_,k,(aC (σ:=sg [(0,0),(1,1),(2,2),(3,3)]) ⟨(e1 k k),(pE k k),(pE k k),(oE k k),(e1 k k),(e1 k k),(e1 k k),(e1 k k),(e1 k k),aJ⟩ (hP k k k k<|hX ⟨_,k,k,.inr ⟨_,_,k,⟨_,_,k,k,⟨_,_,k,k,⟨_,_,k,⟨k,k,k,k⟩,k⟩⟩⟩,k⟩⟩ k<|hI k k k<|hI k k k<|aJ) k)⟩
            ·refine aN k q25<|bC<|aE<|aE ?_
             obtain rfl:=so h
             exact ⟨_,k,k,(aC (σ:=sg [(0,0),(1,1),(2,2),(3,3)]) ⟨(e1 k k),(pE k k),(pE k k),(oE k k),(e1 k k),(e1 k k),(e1 k k),aJ⟩ (hP k k k k<|hX ⟨_,k,k,.inr ⟨_,_,k,⟨_,_,k,k,⟨_,_,k,k,⟨_,_,k,⟨k,k,k,k⟩,k⟩⟩⟩,k⟩⟩ k<|hI k k k<|hI k k k<|aJ) k)⟩
           ·refine aX 162 k q24<|aK k4<|ak k k<|pk k3<|an<|tn<|aN k k<|bC<|aE ?_
            refine aE ?_
            obtain rfl:=so h
            exact ⟨_,k,k,(aC (σ:=sg [(0,0),(1,1),(2,2),(3,3)]) ⟨(e1 k k),(pE k k),(pE k k),(oE k k),(e1 k k),(e1 k k),(e1 k k),aJ⟩ (hP k k k k<|hX ⟨_,k,k,.inr ⟨_,_,k,⟨_,_,k,k,⟨_,_,k,k,⟨_,_,k,⟨k,k,k,k⟩,k⟩⟩⟩,k⟩⟩ k<|hI k k k<|hI k k k<|aJ) k)⟩
          ·rintro e t ⟨rfl,hent⟩
           refine aU<|bB<|tn<|aM hent<|rg<|am k k<|ae (bT k k) k<|aT k2 ?_
           obtain rfl:=so h
           exact ⟨_,k,(aC (σ:=sg [(0,0),(1,1),(2,2),(3,3)]) ⟨(e1 k k),(pE k k),(pE k k),(oE k k),(e1 k k),(e1 k k),(e1 k k),aJ⟩ (hP k k k k<|hX ⟨_,k,k,.inr ⟨_,_,k,⟨_,_,k,k,⟨_,_,k,k,⟨_,_,k,⟨k,k,k,k⟩,k⟩⟩⟩,k⟩⟩ k<|hI k k k<|hI k k k<|aJ) k)⟩
         ·refine aN k q22<|bC<|aE<|aE ?_
          obtain rfl:=so h
          exact ⟨_,k,k,(aC (σ:=sg [(0,0),(1,1),(2,2),(3,3)]) ⟨(e1 k k),(pE k k),(pE k k),(oE k k),(e1 k k),(e1 k k),aJ⟩ (hP k k k k<|hX ⟨_,k,k,.inr ⟨_,_,k,⟨_,_,k,k,⟨_,_,k,k,⟨_,_,k,⟨k,k,k,k⟩,k⟩⟩⟩,k⟩⟩ k<|hI k k k<|hI k k k<|aJ) k)⟩
        ·rintro e t ⟨rfl,hent⟩
         refine aU<|tn<|aM hent<|sR<|am k k<|am k k<|ae (cY aB k k k k k k k k k k k k) k ?_
         obtain ⟨q32,h⟩:=cg h
         refine ae (xB aB (l:=x1.2.2.1) (m:=[x1.1]) tS q32 k k k k k k k k k k k k) k<|aT k2<|rg<|am k k<|ae (bT k k) k<|aa k k<|an<|bB ?_
         refine tn<|rg<|am k k<|ae (bT k k) k<|aT k2 ?_
         obtain rfl:=so h
         exact ⟨_,k,(aC (σ:=sg [(0,0),(1,1),(2,2),(3,5)]) ⟨(e1 k k),(pE k k),(pE k k),(oE k k),(e1 k k),(e1 k k),aJ⟩ (hP k k k k<|hX ⟨_,k,k,.inr ⟨_,_,k,⟨_,_,k,k,⟨_,_,k,k,⟨_,_,k,⟨k,k,k,k⟩,k⟩⟩⟩,k⟩⟩ k<|hI k k k<|hI k k k<|aJ) k)⟩
   ·refine aN k q3<|bC<|aE<|aE ?_
    obtain rfl:=so h
    exact ⟨_,k,k,(aC (σ:=sg [(0,0),(1,1),(2,2),(3,3)]) ⟨(pE k k),(pE k k),(oE k k),aJ⟩ (hP k k k k<|hX ⟨_,k,k,.inr ⟨_,_,k,⟨_,_,k,k,⟨_,_,k,k,⟨_,_,k,⟨k,k,k,k⟩,k⟩⟩⟩,k⟩⟩ k<|hI k k k<|hI k k k<|aJ) k)⟩
  ·refine aX 26 k q2<|aK k4<|aK k4<|pk k3<|an<|tn<|aN k k<|bC ?_
   refine aE<|aE ?_
   obtain rfl:=so h
   exact ⟨_,k,k,(aC (σ:=sg [(0,0),(1,1),(2,2),(3,3)]) ⟨(pE k k),(pE k k),(oE k k),aJ⟩ (hP k k k k<|hX ⟨_,k,k,.inr ⟨_,_,k,⟨_,_,k,k,⟨_,_,k,k,⟨_,_,k,⟨k,k,k,k⟩,k⟩⟩⟩,k⟩⟩ k<|hI k k k<|hI k k k<|aJ) k)⟩
 ·rintro e t ⟨rfl,hent⟩
  refine aU<|tn<|aM hent<|sR<|lp k8<|am k k<|ae (bK aB k k k k k k k k) k<|aa k k<|an ?_
  refine tn<|aL ?_
  obtain rfl:=so h
  exact aS k k k (fX k (dL (zY (cF (k) (cF (k) (cF (iZ dR k k) iD)))) (dL (vC (iZ dR k k)) kU)))
def qG (a0:Int) (a1:Int):Option Int:=
 Option.bind (iH a0) fun v1=>
 bif !v1 then
 (some (0))
 else
 (bif !decide (a0=0) then
 (bif !decide (a0=0) then
 (some ((wr ((a1.tmod a0)+a0)).tmod a0))
 else none)
 else none)
theorem aEq (a0:Int) (a1:Int) (r:Int) (h:qG a0 a1=some r):HasC Tryz.prog 273 [.int a0,.int a1] (.int r):=by
 refine bJ aB (rvs:=[.tmp 4]) (ns:=[0,1]) Tryz.func273 k k Tryz.ntmps273 k k k<|sR<|aT k2<|sQ<|sR<|am k k ?_
 obtain ⟨v1,hv1,h⟩:=ob h
 refine ae (bA (lW a0 v1 hv1) k (aD (aO k) bD)) k<|ae (cJ k) k<|an<|tn ?_
 rcases cb h with ⟨q2,h⟩|⟨q2,h⟩
 ·refine aH k q2<|sR<|aT k2<|aL<|aG ?_
  obtain rfl:=so h
  exact aS k k k (cT k)
 ·refine aN k q2<|aQ<|tn<|sR<|am k k<|am k k ?_
  obtain ⟨q4,h⟩:=cg h
  refine ae (aDb k k q4) k<|am k k<|ae (bT k k) k<|am k k ?_
  obtain ⟨q3,h⟩:=cg h
  refine ae (aDb k k q3) k<|aT k2<|aM (t:=bN [(4,.int ((wr ((a1.tmod a0)+a0)).tmod a0))] [] 0 [0,1]) (aC (σ:=sg []) ⟨(e1 k k),aJ⟩ aJ k)<|aL ?_
  obtain rfl:=so h
  exact aS k k k (cT k)
def mS (a0:Int) (a1:Int) (a2:Int) (x1:(Int×Int)):Option ((Int×Int) ⊕ Int):=
 bif decide (x1.2<a2) then
 (Option.bind (qG a0 a1) fun v6=>
 bif !decide (a0=0) then
 (some (.inl ((wr (x1.1*v6)).tmod a0,wr (x1.2+1))))
 else none)
 else
 (some (.inr x1.1))
def rJ (a0:Int) (a1:Int) (a2:Int):Option Int:=
 Option.bind (iH a0) fun v1=>
 bif !v1 then
 (some (0))
 else
 (Option.bind (hO a2 0 1000) fun v3=>
 bif !v3 then
 (some (0))
 else
 (Option.bind (Lp (mS a0 a1 a2) (1,0)) fun y8=>
 some (y8)))
theorem aFu (a0:Int) (a1:Int) (a2:Int) (r:Int) (h:rJ a0 a1 a2=some r):HasC Tryz.prog 265 [.int a0,.int a1,.int a2] (.int r):=by
 refine bJ aB (rvs:=[.tmp 6]) (ns:=[0,1]) Tryz.func265 k k Tryz.ntmps265 k k k<|sR<|aT k2<|sQ<|sR<|am k k ?_
 obtain ⟨v1,hv1,h⟩:=ob h
 refine ae (bA (lW a0 v1 hv1) k (aD (aO k) bD)) k<|ae (cJ k) k<|am k k ?_
 rcases cb h with ⟨q2,h⟩|⟨q2,h⟩
 ·refine aX 11 k q2<|aK k4<|ak k k<|pk k3<|an<|tn<|aH k k<|sR ?_
  refine aT k2<|aL<|aG ?_
  obtain rfl:=so h
  exact aS k k k (cT k)
 ·refine aX 11 k q2<|am k k ?_
  obtain ⟨v3,hv3,h⟩:=ob h
  refine ae (bA (kV a2 0 1000 v3 hv3) k (aD (aO k) (aD (aO k) (aD (aO k) bD)))) k<|ae (cJ k) k<|pk k3<|an<|tn ?_
  rcases cb h with ⟨q4,h⟩|⟨q4,h⟩
  ·refine aH k q4<|sR<|aT k2<|aL<|aG ?_
   obtain rfl:=so h
   exact aS k k k (cT k)
  ·refine aN k q4<|aQ<|tn<|sR<|aT k2<|sQ<|sQ ?_
   refine rg<|am k k<|am k k<|an<|tn<|aM (t:=bN [(0,.int a0),(1,.int a1),(7,.int 1),(16,.int a2),(17,.int 0)] [] 0 [0,1]) (aC (σ:=sg []) ⟨(e1 k k),(e1 k k),(e1 k k),(e1 k k),(e1 k k),aJ⟩ aJ k)<|aI ?_
   obtain ⟨y8,hy8,h⟩:=ob h
   refine cV (body:=(mS a0 a1 a2)) hy8 (fun (x1:(Int×Int))=>bN [(0,.int a0),(1,.int a1),(7,.int x1.1),(16,.int a2),(17,.int x1.2)] [] 0 [0,1]) (fun r e t=>e= .exit 0∧Ent t (bN [(7,.int r)] [] 0 [0,1])) (aC (σ:=sg []) ⟨(e1 k k),(e1 k k),(e1 k k),(e1 k k),(e1 k k),aJ⟩ aJ k) ?_ ?_
   ·intro x1 o h
    refine sR<|cm k4<|an<|tn<|sQ ?_
    rcases cb h with ⟨q5,h⟩|⟨q5,h⟩
    ·refine aH k q5<|aQ<|tn<|sQ<|aI<|rg<|am k k<|am k k<|am k k ?_
     obtain ⟨v6,hv6,h⟩:=ob h
     refine ae (bA (aEq a0 a1 v6 hv6) k (aD (aO k) (aD (aO k) bD))) k<|ae (gJ k k) k<|am k k ?_
     obtain ⟨q7,h⟩:=cg h
     refine ae (aDb k k q7) k<|aa k k<|an<|bB<|tn<|rg<|ae (bT k k) k<|am k k<|an<|tn ?_
     obtain rfl:=so h
     exact ⟨_,k,(aC (σ:=sg []) ⟨(e1 k k),(e1 k k),(e1 k k),(e1 k k),(e1 k k),aJ⟩ aJ k)⟩
    ·refine aN k q5<|bC<|aE<|aE ?_
     obtain rfl:=so h
     exact ⟨_,k,k,(aC (σ:=sg []) ⟨(e1 k k),aJ⟩ aJ k)⟩
   ·rintro e t ⟨rfl,hent⟩
    refine aU<|tn<|aM hent<|sR<|am k k<|aT k2<|aL ?_
    obtain rfl:=so h
    exact aS k k k (cT k)
def oV (a0:Int) (a1:Int):Option Int:=
 Option.bind (iH a0) fun v1=>
 bif !v1 then
 (some (0))
 else
 (Option.bind (rJ a0 a1 (max (wr (a0 - 2)) 1)) fun v3=>
 some (v3))
theorem aDp (a0:Int) (a1:Int) (r:Int) (h:oV a0 a1=some r):HasC Tryz.prog 243 [.int a0,.int a1] (.int r):=by
 refine bJ aB (rvs:=[.tmp 4]) (ns:=[0,1]) Tryz.func243 k k Tryz.ntmps243 k k k<|sR<|aT k2<|sQ<|sR<|am k k ?_
 obtain ⟨v1,hv1,h⟩:=ob h
 refine ae (bA (lW a0 v1 hv1) k (aD (aO k) bD)) k<|ae (cJ k) k<|an<|tn ?_
 rcases cb h with ⟨q2,h⟩|⟨q2,h⟩
 ·refine aH k q2<|sR<|aT k2<|aL<|aG ?_
  obtain rfl:=so h
  exact aS k k k (cT k)
 ·refine aN k q2<|aQ<|tn<|sR<|am k k<|am k k<|am k k<|ae (iX k k) k<|ae (aSe k k) k ?_
  obtain ⟨v3,hv3,h⟩:=ob h
  refine ae (bA (aFu a0 a1 (max (wr (a0 - 2)) 1) v3 hv3) k (aD (aO k) (aD (aO k) (aD (aO k) bD)))) k<|aT k2<|aL ?_
  obtain rfl:=so h
  exact aS k k k (cT k)
def pR (a0:(List Int)) (a1:Int) (x1:Int):Option (Int ⊕ (Unit ⊕ Int)):=
 bif decide (x1<(a0.length:Int)) then
 (Option.bind (dY a0 x1) fun v2=>
 bif decide (a1=v2) then
 (some (.inr (.inr (x1))))
 else
 (some (.inl (wr (x1+1)))))
 else
 (some (.inr (.inl ())))
def iP (a0:(List Int)) (a1:Int):Option Int:=
 Option.bind (Lp (pR a0 a1) 0) fun y4=>
 Sum.elim (fun y5=>
 some ((-1))
 )
 (fun y6=>
 some y6
 )
 y4
theorem aAa (a0:(List Int)) (a1:Int) (r:Int) (h:iP a0 a1=some r):HasC Tryz.prog 237 [.list 1 (a0.map eI),.int a1] (.int r):=by
 refine bJ aB (rvs:=[.tmp 4]) (ns:=[0,1]) Tryz.func237 k k Tryz.ntmps237 k k k<|sR<|aT k2<|sQ<|sR<|am k k ?_
 refine ln k4<|am k k<|an<|tn<|aI ?_
 obtain ⟨y4,hy4,h⟩:=ob h
 refine cV (body:=(pR a0 a1)) hy4 (fun (x1:Int)=>bN [(0,.list 1 (a0.map eI)),(1,.int a1),(7,.int (a0.length:Int)),(8,.int x1)] [] 0 [0,1]) (fun r e t=>Sum.elim (fun a=>(fun r e t=>e= .exit 0∧Ent t (bN [] [] 0 [0,1])) a e t) (fun b=>(fun r e t=>e= .ret∧oD TT [.tmp 4] (.int r) .ret t) b e t) r) (aC (σ:=sg []) ⟨⟨_,k,⟨k,k⟩⟩,(e1 k k),(e1 k k),(e1 k k),aJ⟩ aJ k) ?_ ?_
 ·intro x1 o h
  refine sR<|cm k4<|an<|tn<|sQ ?_
  rcases cb h with ⟨q1,h⟩|⟨q1,h⟩
  ·refine aH k q1<|aQ<|tn<|sQ<|aI<|sR<|am k k<|aa k k<|an ?_
   refine tn<|sR<|am k k<|am k k<|am k k ?_
   obtain ⟨v2,hv2,h⟩:=ob h
   refine ae (bF aB hv2 k k k k k k) k<|lr k7<|cm k4<|an<|tn ?_
   rcases cb h with ⟨q3,h⟩|⟨q3,h⟩
   ·refine aH k q3<|sR<|am k k<|aT k2<|aL<|aY<|aG ?_
    refine aG ?_
    obtain rfl:=so h
    exact ⟨_,k,k,aS k k k (cT k)⟩
   ·refine aN k q3<|aQ<|bB<|tn<|rg<|ae (bT k k) k<|am k k<|an<|tn ?_
    obtain rfl:=so h
    exact ⟨_,k,(aC (σ:=sg []) ⟨⟨_,k,⟨k,k⟩⟩,(e1 k k),(e1 k k),(e1 k k),aJ⟩ aJ k)⟩
  ·refine aN k q1<|bC<|aE<|aE ?_
   obtain rfl:=so h
   exact ⟨_,k,k,(aC (σ:=sg []) aJ aJ k)⟩
 ·intro e t hX
  rcases y4 with y5|y6
  ·obtain ⟨rfl,hent⟩:=hX
   refine aU<|tn<|aM hent<|sR<|aT k2<|aL ?_
   obtain rfl:=so h
   exact aS k k k (cT k)
  ·obtain ⟨rfl,hent⟩:=hX
   refine aY<|aG ?_
   obtain rfl:=so h
   exact hent
def gM (a0:(List Int)) (a1:Int):Option Bool:=
 Option.bind (iP a0 a1) fun v1=>
 some (decide (0≤v1))
theorem yD (a0:(List Int)) (a1:Int) (r:Bool) (h:gM a0 a1=some r):HasC Tryz.prog 208 [.list 1 (a0.map eI),.int a1] (.bl r):=by
 refine bJ aB (rvs:=[.tmp 4]) (ns:=[0,1]) Tryz.func208 k k Tryz.ntmps208 k k k<|sR<|aT k2<|sR<|am k k<|am k k ?_
 obtain ⟨v1,hv1,h⟩:=ob h
 refine ae (bA (aAa a0 a1 v1 hv1) k (aD (aO k) (aD (aO k) bD))) k<|cm k4<|aT k2<|aL ?_
 obtain rfl:=so h
 exact aS k k k (bO k)
def jS (a0:Int) (a1:(List Int)) (x1:((List Int)×Int)):Option (((List Int)×Int) ⊕ (List Int)):=
 bif decide (x1.2<a0) then
 (Option.bind (gM a1 x1.2) fun v2=>
 bif !v2 then
 (bif decide (x1.1.length+[x1.2].length ≤4294967296) then
 (some (.inl ((x1.1++[x1.2]),wr (x1.2+1))))
 else none)
 else
 (some (.inl (x1.1,wr (x1.2+1)))))
 else
 (some (.inr x1.1))
def mT (a0:Int) (a1:(List Int)):Option (List Int):=
 Option.bind (Lp (jS a0 a1) ([],0)) fun y5=>
 some (y5)
theorem aCn (a0:Int) (a1:(List Int)) (r:(List Int)) (h:mT a0 a1=some r):HasC Tryz.prog 152 [.int a0,.list 1 (a1.map eI)] (.list 1 (r.map eI)):=by
 refine bJ aB (rvs:=[.tmp 4]) (ns:=[0,1,2,3,4]) Tryz.func152 k k Tryz.ntmps152 k k k<|sR<|aT k2<|sR<|aa k k<|an ?_
 refine tn<|sQ<|sR<|am k k<|am k k<|an<|tn<|aI ?_
 obtain ⟨y5,hy5,h⟩:=ob h
 refine cV (body:=(jS a0 a1)) hy5 (fun (x1:((List Int)×Int))=>bN [(1,.list 1 (a1.map eI)),(5,.own 0 0 x1.1.length),(7,.int a0),(8,.int x1.2)] [(0,⟨1,x1.1.map (ow eI)⟩)] 1 [1,2,3,4]) (fun r e t=>e= .exit 0∧Ent t (bN [(5,.own 0 0 r.length)] [(0,⟨1,r.map (ow eI)⟩)] 1 [1,2,3,4])) (aC (σ:=sg []) ⟨⟨_,k,⟨k,k⟩⟩,⟨_,k,⟨k,k,k,k⟩⟩,(e1 k k),(e1 k k),aJ⟩ (hX k k<|aJ) k) ?_ ?_
 ·intro x1 o h
  refine sR<|cm k4<|an<|tn<|sQ ?_
  rcases cb h with ⟨q1,h⟩|⟨q1,h⟩
  ·refine aH k q1<|aQ<|tn<|sQ<|aI<|sR<|am k k<|aa k k<|an ?_
   refine tn<|sR<|am k k<|am k k ?_
   obtain ⟨v2,hv2,h⟩:=ob h
   refine ae (bA (yD a1 x1.2 v2 hv2) k (aD (aO k) (aD (aO k) bD))) k<|ae (cJ k) k<|an<|tn ?_
   rcases cb h with ⟨q3,h⟩|⟨q3,h⟩
   ·refine aH k q3<|rg<|am k k<|am k k<|ae (cY aB k k k k k k k k k k k k) k ?_
    obtain ⟨q4,h⟩:=cg h
    refine ae (xB aB (l:=x1.1) (m:=[x1.2]) tS q4 k k k k k k k k k k k k) k<|aa k k<|an<|bB<|tn<|aM (t:=bN [(1,.list 1 (a1.map eI)),(5,.own 2 0 ((x1.1++[x1.2]).length)),(7,.int a0),(8,.int x1.2)] [(2,⟨1,List.map (ow eI) (x1.1++[x1.2])⟩)] 3 [3,4]) (aC (σ:=sg [(2,2)]) ⟨⟨_,k,⟨k,k⟩⟩,(oE k k),(e1 k k),(e1 k k),aJ⟩ (hI k k k<|aJ) k)<|rg<|ae (bT k k) k<|am k k<|an ?_
    refine tn ?_
    obtain rfl:=so h
    exact ⟨_,k,(aC (σ:=sg [(0,2)]) ⟨⟨_,k,⟨k,k⟩⟩,(oE k k),(e1 k k),(e1 k k),aJ⟩ (hI k k k<|aJ) k)⟩
   ·refine aN k q3<|aQ<|bB<|tn<|rg<|ae (bT k k) k<|am k k<|an<|tn ?_
    obtain rfl:=so h
    exact ⟨_,k,(aC (σ:=sg [(0,0)]) ⟨⟨_,k,⟨k,k⟩⟩,(oE k k),(e1 k k),(e1 k k),aJ⟩ (hI k k k<|aJ) k)⟩
  ·refine aN k q1<|bC<|aE<|aE ?_
   obtain rfl:=so h
   exact ⟨_,k,k,(aC (σ:=sg [(0,0)]) ⟨(oE k k),aJ⟩ (hI k k k<|aJ) k)⟩
 ·rintro e t ⟨rfl,hent⟩
  refine aU<|tn<|aM hent<|sR<|am k k<|aT k2<|aL ?_
  obtain rfl:=so h
  exact aS k k k (qE (iZ dR k k))
def iQ (a1:(List Int)) (x1:(Int×Int)):Option ((Int×Int) ⊕ (Int ⊕ Bool)):=
 bif decide (x1.2<(a1.length:Int)) then
 (Option.bind (dY a1 x1.2) fun v5=>
 Option.bind (fU v5 0 4) fun v6=>
 bif !v6 then
 (some (.inr (.inr (false))))
 else
 (Option.bind (dY a1 x1.2) fun v8=>
 some (.inl (wr (x1.1+v8),wr (x1.2+1)))))
 else
 (some (.inr (.inl x1.1)))
def tY (a0:Qv) (a1:(List Int)):Option Bool:=
 Option.bind (rI a0) fun v1=>
 bif !v1 then
 (some (false))
 else
 (bif !decide ((a1.length:Int)=a0.n) then
 (some (false))
 else
 (Option.bind (Lp (iQ a1) (0,0)) fun y9=>
 Sum.elim (fun y10=>
 some (decide (y10≤8))
 )
 (fun y11=>
 some y11
 )
 y9))
theorem aHW (a0:Qv) (a1:(List Int)) (r:Bool) (h:tY a0 a1=some r):HasC Tryz.prog 162 [.agg (eQ a0),.list 1 (a1.map eI)] (.bl r):=by
 refine bJ aB (rvs:=[.tmp 4]) (ns:=[0,1,2]) Tryz.func162 k k Tryz.ntmps162 k k k<|sR<|ae (cE k k k k) k<|aT k2<|sQ<|sR ?_
 refine lp k8 ?_
 obtain ⟨v1,hv1,h⟩:=ob h
 refine ae (bA (aFs a0 v1 hv1) k (aD (cD (aR (aV k) (aR (aV k) (aR (aV k) cO)))) bD)) k<|ae (cJ k) k<|am k k ?_
 rcases cb h with ⟨q2,h⟩|⟨q2,h⟩
 ·refine aX 10 k q2<|aK k4<|aK k4<|ak k k<|pk k3<|an<|tn<|aM (t:=bN [(1,.list 1 (a1.map eI)),(16,.bl true)] [] 1 [1,2]) (aC (σ:=sg []) ⟨⟨_,k,⟨k,k⟩⟩,(e1 k k),aJ⟩ aJ k) ?_
  refine aH k k<|sR<|aT k2<|aL<|aG ?_
  obtain rfl:=so h
  exact aS k k k (bO k)
 ·refine aX 10 k q2<|am k k<|ln k4<|fp k8<|lp k8<|cm k4<|pk k3<|an<|tn<|aM (t:=bN [(1,.list 1 (a1.map eI)),(16,.bl (!decide ((a1.length:Int)=a0.n)))] [] 1 [1,2]) (aC (σ:=sg []) ⟨⟨_,k,⟨k,k⟩⟩,(e1 k k),aJ⟩ aJ k) ?_
  rcases cb h with ⟨q3,h⟩|⟨q3,h⟩
  ·refine aH k q3<|sR<|aT k2<|aL<|aG ?_
   obtain rfl:=so h
   exact aS k k k (bO k)
  ·refine aN k q3<|aQ<|tn<|sR<|aT k2<|sQ<|sQ ?_
   refine rg<|aT k2<|aI ?_
   obtain ⟨y9,hy9,h⟩:=ob h
   refine cV (body:=(iQ a1)) hy9 (fun (x1:(Int×Int))=>bN [(1,.list 1 (a1.map eI)),(5,.int x1.1),(6,.int x1.2)] [] 0 [0,1,2]) (fun r e t=>Sum.elim (fun a=>(fun r e t=>e= .exit 0∧Ent t (bN [(5,.int r)] [] 0 [0,1,2])) a e t) (fun b=>(fun r e t=>e= .ret∧oD TT [.tmp 4] (.bl r) .ret t) b e t) r) (aC (σ:=sg []) ⟨⟨_,k,⟨k,k⟩⟩,(e1 k k),(e1 k k),aJ⟩ aJ k) ?_ ?_
   ·intro x1 o h
    refine sQ<|sR<|am k k<|am k k<|ln k4<|cm k4<|an<|tn ?_
    rcases cb h with ⟨q4,h⟩|⟨q4,h⟩
    ·refine aH k q4<|aQ<|tn<|sQ<|aI<|sQ<|sR<|am k k<|am k k ?_
     obtain ⟨v5,hv5,h⟩:=ob h
     refine ae (bF aB hv5 k k k k k k) k<|lr k7 ?_
     obtain ⟨v6,hv6,h⟩:=ob h
     refine ae (bA (gP v5 0 4 v6 hv6) k (aD (aO k) (aD (aO k) (aD (aO k) bD)))) k<|ae (cJ k) k<|an<|tn ?_
     rcases cb h with ⟨q7,h⟩|⟨q7,h⟩
     ·refine aH k q7<|sR<|aT k2<|aL<|aG<|aY<|aG ?_
      refine aG ?_
      obtain rfl:=so h
      exact ⟨_,k,k,aS k k k (bO k)⟩
     ·refine aN k q7<|aQ<|tn<|rg<|am k k<|am k k<|am k k ?_
      obtain ⟨v8,hv8,h⟩:=ob h
      refine ae (bF aB hv8 k k k k k k) k<|lr k7<|ae (bT k k) k<|aa k k<|an<|bB<|tn<|aM (t:=bN [(1,.list 1 (a1.map eI)),(5,.int (wr (x1.1+v8))),(6,.int x1.2)] [] 0 [0,1,2]) (aC (σ:=sg []) ⟨⟨_,k,⟨k,k⟩⟩,(e1 k k),(e1 k k),aJ⟩ aJ k)<|rg<|am k k ?_
      refine ae (bT k k) k<|aT k2 ?_
      obtain rfl:=so h
      exact ⟨_,k,(aC (σ:=sg []) ⟨⟨_,k,⟨k,k⟩⟩,(e1 k k),(e1 k k),aJ⟩ aJ k)⟩
    ·refine aN k q4<|bC<|aE<|aE ?_
     obtain rfl:=so h
     exact ⟨_,k,k,(aC (σ:=sg []) ⟨(e1 k k),aJ⟩ aJ k)⟩
   ·intro e t hX
    rcases y9 with y10|y11
    ·obtain ⟨rfl,hent⟩:=hX
     refine aU<|tn<|aM hent<|sR<|am k k<|cm k4<|aT k2 ?_
     refine aL ?_
     obtain rfl:=so h
     exact aS k k k (bO k)
    ·obtain ⟨rfl,hent⟩:=hX
     refine aY<|aG ?_
     obtain rfl:=so h
     exact hent
def rK (a0:Rp) (x1:Int):Option (Int ⊕ (Unit ⊕ Bool)):=
 bif decide (x1<(a0.maps.length:Int)) then
 (Option.bind (dY a0.maps x1) fun v7=>
 Option.bind (kE a0.p v7) fun v8=>
 bif !v8 then
 (some (.inr (.inr (false))))
 else
 (Option.bind (dY a0.maps x1) fun v10=>
 Option.bind (dY a0.q.src x1) fun v11=>
 Option.bind (dY a0.dims v11) fun v12=>
 bif !decide (v10.cols=v12) then
 (some (.inr (.inr (false))))
 else
 (Option.bind (dY a0.maps x1) fun v14=>
 Option.bind (dY a0.q.tgt x1) fun v15=>
 Option.bind (dY a0.dims v15) fun v16=>
 bif !decide (v14.rows=v16) then
 (some (.inr (.inr (false))))
 else
 (some (.inl (wr (x1+1)))))))
 else
 (some (.inr (.inl ())))
def tZ (a0:Rp):Option Bool:=
 Option.bind (iE a0.p) fun v1=>
 bif !v1 then
 (some (false))
 else
 (Option.bind (tY a0.q a0.dims) fun v3=>
 bif !v3 then
 (some (false))
 else
 (bif !decide ((a0.maps.length:Int)=(a0.q.src.length:Int)) then
 (some (false))
 else
 (Option.bind (Lp (rK a0) 0) fun y18=>
 Sum.elim (fun y19=>
 some (true)
 )
 (fun y20=>
 some y20
 )
 y18)))
theorem aDq (a0:Rp) (r:Bool) (h:tZ a0=some r):HasC Tryz.prog 110 [.agg (eR a0)] (.bl r):=by
 refine bJ aB (rvs:=[.tmp 2]) (ns:=[0,1,2]) Tryz.func110 k k Tryz.ntmps110 k k k<|sR<|ae (cE k k k k) k<|aT k2<|sQ<|sR ?_
 refine fp k8<|lp k8 ?_
 obtain ⟨v1,hv1,h⟩:=ob h
 refine ae (bA (lV a0.p v1 hv1) k (aD (aO k) bD)) k<|ae (cJ k) k<|am k k ?_
 rcases cb h with ⟨q2,h⟩|⟨q2,h⟩
 ·refine aX 8 k q2<|aK k4<|aK k4<|aK k4<|pk k3<|am k k<|ak k k ?_
  refine aK k4<|aK k4<|aK k4<|ak k k<|pk k3<|an<|tn ?_
  refine aM (t:=bN [(1,.ptr 0 0 0),(25,.bl true)] [(0,⟨6,[[.int a0.p,.int a0.q.n,.list 1 (a0.q.src.map eI),.list 1 (a0.q.tgt.map eI),.list 1 (a0.dims.map eI),.list 3 (a0.maps.map eM)]]⟩)] 1 [1,2]) (aC (σ:=sg [(0,0)]) ⟨(pE k k),(e1 k k),aJ⟩ (hP k k k k<|aJ) k)<|aH k k<|sR<|aT k2<|aL<|aG ?_
  obtain rfl:=so h
  exact aS k k k (bO k)
 ·refine aX 8 k q2<|fp k8<|lp k8<|fp k8<|lp k8 ?_
  obtain ⟨v3,hv3,h⟩:=ob h
  refine ae (bA (aHW a0.q a0.dims v3 hv3) k (aD (cD (aR (aV k) (aR (aV k) (aR (aV k) cO)))) (aD (aO k) bD))) k<|ae (cJ k) k<|pk k3<|am k k ?_
  rcases cb h with ⟨q4,h⟩|⟨q4,h⟩
  ·refine aX 16 k q4<|aK k4<|aK k4<|aK k4<|aK k4<|pk k3 ?_
   refine an<|tn<|aM (t:=bN [(1,.ptr 0 0 0),(25,.bl true)] [(0,⟨6,[[.int a0.p,.int a0.q.n,.list 1 (a0.q.src.map eI),.list 1 (a0.q.tgt.map eI),.list 1 (a0.dims.map eI),.list 3 (a0.maps.map eM)]]⟩)] 1 [1,2]) (aC (σ:=sg [(0,0)]) ⟨(pE k k),(e1 k k),aJ⟩ (hP k k k k<|aJ) k)<|aH k k<|sR<|aT k2<|aL ?_
   refine aG ?_
   obtain rfl:=so h
   exact aS k k k (bO k)
  ·refine aX 16 k q4<|fp k8<|lp k8<|ln k4<|fp k8<|fp k8<|lp k8<|ln k4<|cm k4<|pk k3 ?_
   refine an<|tn<|aM (t:=bN [(1,.ptr 0 0 0),(25,.bl (!decide ((a0.maps.length:Int)=(a0.q.src.length:Int))))] [(0,⟨6,[[.int a0.p,.int a0.q.n,.list 1 (a0.q.src.map eI),.list 1 (a0.q.tgt.map eI),.list 1 (a0.dims.map eI),.list 3 (a0.maps.map eM)]]⟩)] 1 [1,2]) (aC (σ:=sg [(0,0)]) ⟨(pE k k),(e1 k k),aJ⟩ (hP k k k k<|aJ) k) ?_
   rcases cb h with ⟨q5,h⟩|⟨q5,h⟩
   ·refine aH k q5<|sR<|aT k2<|aL<|aG ?_
    obtain rfl:=so h
    exact aS k k k (bO k)
   ·refine aN k q5<|aQ<|tn<|sQ<|sR<|aT k2<|aI ?_
    obtain ⟨y18,hy18,h⟩:=ob h
    refine cV (body:=(rK a0)) hy18 (fun (x1:Int)=>bN [(1,.ptr 0 0 0),(3,.int x1)] [(0,⟨6,[[.int a0.p,.int a0.q.n,.list 1 (a0.q.src.map eI),.list 1 (a0.q.tgt.map eI),.list 1 (a0.dims.map eI),.list 3 (a0.maps.map eM)]]⟩)] 1 [1,2]) (fun r e t=>Sum.elim (fun a=>(fun r e t=>e= .exit 0∧Ent t (bN [] [] 0 [0,1,2])) a e t) (fun b=>(fun r e t=>e= .ret∧oD TT [.tmp 2] (.bl r) .ret t) b e t) r) (aC (σ:=sg [(0,0)]) ⟨(pE k k),(e1 k k),aJ⟩ (hP k k k k<|aJ) k) ?_ ?_
    ·intro x1 o h
     refine sQ<|sR<|am k k<|fp k8<|lp k8<|ln k4<|cm k4<|an<|tn ?_
     rcases cb h with ⟨q6,h⟩|⟨q6,h⟩
     ·refine aH k q6<|aQ<|tn<|sQ<|aI<|sQ<|aW kI<|fp k8<|lp k8<|fp k8 ?_
      refine lp k8<|am k k ?_
      obtain ⟨v7,hv7,h⟩:=ob h
      refine ae (bF aB hv7 k k k k k k) k<|lr k7 ?_
      obtain ⟨v8,hv8,h⟩:=ob h
      refine ae (bA (wR a0.p v7 v8 hv8) k (aD (aO k) (aD (cD (aR (aV k) (aR (aV k) (aR (aV k) cO)))) bD))) k<|ae (cJ k) k<|am k k ?_
      rcases cb h with ⟨q9,h⟩|⟨q9,h⟩
      ·refine aX 42 k q9<|aK k4<|aK k4<|aK k4<|aK k4<|ak k k ?_
       refine aK k4<|aK k4<|aK k4<|aK k4<|pk k3<|am k k ?_
       refine aK k4<|aK k4<|aK k4<|aK k4<|aK k4 ?_
       refine aK k4<|aK k4<|aK k4<|ak k k<|pk k3<|an ?_
       refine ⟨by kernel_rfl,?_⟩
       refine tn<|aM (t:=bN [(1,.ptr 0 0 0),(3,.int x1),(79,.bl true)] [(0,⟨6,[[.int a0.p,.int a0.q.n,.list 1 (a0.q.src.map eI),.list 1 (a0.q.tgt.map eI),.list 1 (a0.dims.map eI),.list 3 (a0.maps.map eM)]]⟩)] 1 [1,2]) (aC (σ:=sg [(0,0)]) ⟨(pE k k),(e1 k k),(e1 k k),aJ⟩ (hP k k k k<|aJ) k)<|aH k k<|sR<|aT k2<|aL<|aY ?_
       refine aG<|aG ?_
       obtain rfl:=so h
       exact ⟨_,k,k,aS k k k (bO k)⟩
      ·refine aX 42 k q9<|fp k8<|lp k8<|am k k ?_
       obtain ⟨v10,hv10,h⟩:=ob h
       refine ae (bF aB hv10 k k k k k k) k<|ae (bZ aB k k k k k k) k<|lr k7<|fp k8<|lp k8<|fp k8<|fp k8<|lp k8<|am k k ?_
       obtain ⟨v11,hv11,h⟩:=ob h
       refine ae (bF aB hv11 k k k k k k) k<|lr k7 ?_
       obtain ⟨v12,hv12,h⟩:=ob h
       refine ae (bF aB hv12 k k k k k k) k<|lr k7<|cm k4<|pk k3<|am k k ?_
       rcases cb h with ⟨q13,h⟩|⟨q13,h⟩
       ·refine aX 61 k q13<|aK k4<|aK k4<|aK k4<|aK k4<|ak k k ?_
        refine aK k4<|aK k4<|aK k4<|aK k4<|pk k3<|an ?_
        refine ⟨by kernel_rfl,?_⟩
        refine tn<|aM (t:=bN [(1,.ptr 0 0 0),(3,.int x1),(79,.bl true)] [(0,⟨6,[[.int a0.p,.int a0.q.n,.list 1 (a0.q.src.map eI),.list 1 (a0.q.tgt.map eI),.list 1 (a0.dims.map eI),.list 3 (a0.maps.map eM)]]⟩)] 1 [1,2]) (aC (σ:=sg [(0,0)]) ⟨(pE k k),(e1 k k),(e1 k k),aJ⟩ (hP k k k k<|aJ) k)<|aH k k<|sR<|aT k2<|aL<|aY ?_
        refine aG<|aG ?_
        obtain rfl:=so h
        exact ⟨_,k,k,aS k k k (bO k)⟩
       ·refine aX 61 k q13<|fp k8<|lp k8<|am k k ?_
        obtain ⟨v14,hv14,h⟩:=ob h
        refine ae (bF aB hv14 k k k k k k) k<|ae (bZ aB k k k k k k) k<|lr k7<|fp k8<|lp k8<|fp k8<|fp k8<|lp k8<|am k k ?_
        obtain ⟨v15,hv15,h⟩:=ob h
        refine ae (bF aB hv15 k k k k k k) k<|lr k7 ?_
        obtain ⟨v16,hv16,h⟩:=ob h
        refine ae (bF aB hv16 k k k k k k) k<|lr k7<|cm k4<|pk k3<|an ?_
        refine ⟨by kernel_rfl,?_⟩
        refine tn<|aM (t:=bN [(1,.ptr 0 0 0),(3,.int x1),(79,.bl (!decide (v14.rows=v16)))] [(0,⟨6,[[.int a0.p,.int a0.q.n,.list 1 (a0.q.src.map eI),.list 1 (a0.q.tgt.map eI),.list 1 (a0.dims.map eI),.list 3 (a0.maps.map eM)]]⟩)] 1 [1,2]) (aC (σ:=sg [(0,0)]) ⟨(pE k k),(e1 k k),(e1 k k),aJ⟩ (hP k k k k<|aJ) k) ?_
        rcases cb h with ⟨q17,h⟩|⟨q17,h⟩
        ·refine aH k q17<|sR<|aT k2<|aL<|aY<|aG<|aG ?_
         obtain rfl:=so h
         exact ⟨_,k,k,aS k k k (bO k)⟩
        ·refine aN k q17<|aQ<|bB<|tn<|rg<|am k k<|ae (bT k k) k<|aT k2 ?_
         obtain rfl:=so h
         exact ⟨_,k,(aC (σ:=sg [(0,0)]) ⟨(pE k k),(e1 k k),aJ⟩ (hP k k k k<|aJ) k)⟩
     ·refine aN k q6<|bC<|aE<|aE ?_
      obtain rfl:=so h
      exact ⟨_,k,k,(aC (σ:=sg []) aJ aJ k)⟩
    ·intro e t hX
     rcases y18 with y19|y20
     ·obtain ⟨rfl,hent⟩:=hX
      refine aU<|tn<|aM hent<|sR<|aT k2<|aL ?_
      obtain rfl:=so h
      exact aS k k k (bO k)
     ·obtain ⟨rfl,hent⟩:=hX
      refine aY<|aG ?_
      obtain rfl:=so h
      exact hent
end
noncomputable section
set_option maxRecDepth 10000
set_option maxHeartbeats 4000000
def dC (a0:(List Int)) (a1:(Int→Option Bool)) (x1:Int):Option (Int ⊕ (Unit ⊕ Int)):=
 bif decide (x1<(a0.length:Int)) then
 (Option.bind (dY a0 x1) fun v2=>
 Option.bind (a1 v2) fun v3=>
 bif v3 then
 (some (.inr (.inr (x1))))
 else
 (some (.inl (wr (x1+1)))))
 else
 (some (.inr (.inl ())))
def dV (a0:(List Int)) (a1:(Int→Option Bool)):Option Int:=
 Option.bind (Lp (dC a0 a1) 0) fun y5=>
 Sum.elim (fun y6=>
 some ((-1))
 )
 (fun y7=>
 some y7
 )
 y5
theorem oW (a0:(List Int)) (a1:(Int→Option Bool)) {f1:FuncId} {c1:List AV} (hc1:c1.all eP=true) (hf1: ∀ b0 r,a1 b0=some r→HasC Tryz.prog f1 ([.int b0]++c1) (.bl r)) (r:Int) (h:dV a0 a1=some r):HasC Tryz.prog 227 [.list 1 (a0.map eI),.fn f1 c1] (.int r):=by
 refine bJ aB (rvs:=[.tmp 4]) (ns:=[0,1]) Tryz.func227 k k Tryz.ntmps227 k k (oT k (oT hc1 aEp))<|sR<|aT k2<|sQ<|sR<|am k k ?_
 refine ln k4<|am k k<|an<|tn<|aI ?_
 obtain ⟨y5,hy5,h⟩:=ob h
 refine cV (body:=(dC a0 a1)) hy5 (fun (x1:Int)=>bN [(0,.list 1 (a0.map eI)),(1,.fn f1 c1),(7,.int (a0.length:Int)),(8,.int x1)] [] 0 [0,1]) (fun r e t=>Sum.elim (fun a=>(fun r e t=>e= .exit 0∧Ent t (bN [] [] 0 [0,1])) a e t) (fun b=>(fun r e t=>e= .ret∧oD TT [.tmp 4] (.int r) .ret t) b e t) r) (aC (σ:=sg []) ⟨⟨_,k,⟨k,k⟩⟩,⟨_,k,⟨k,nY _ hc1⟩⟩,(e1 k k),(e1 k k),aJ⟩ aJ k) ?_ ?_
 ·intro x1 o h
  refine sR<|cm k4<|an<|tn<|sQ ?_
  rcases cb h with ⟨q1,h⟩|⟨q1,h⟩
  ·refine aH k q1<|aQ<|tn<|sQ<|aI<|sR<|am k k<|aa k k<|an ?_
   refine tn<|sR<|am k k<|am k k<|am k k ?_
   obtain ⟨v2,hv2,h⟩:=ob h
   refine ae (bF aB hv2 k k k k k k) k<|lr k7 ?_
   obtain ⟨v3,hv3,h⟩:=ob h
   refine ae (aDc hc1 (hf1 v2 v3 hv3) k k (aD (aO k) bD)) k<|an<|tn ?_
   rcases cb h with ⟨q4,h⟩|⟨q4,h⟩
   ·refine aH k q4<|sR<|am k k<|aT k2<|aL<|aY<|aG ?_
    refine aG ?_
    obtain rfl:=so h
    exact ⟨_,k,k,aS k k k (cT k)⟩
   ·refine aN k q4<|aQ<|bB<|tn<|rg<|ae (bT k k) k<|am k k<|an<|tn ?_
    obtain rfl:=so h
    exact ⟨_,k,(aC (σ:=sg []) ⟨⟨_,k,⟨k,k⟩⟩,⟨_,k,⟨k,nY _ hc1⟩⟩,(e1 k k),(e1 k k),aJ⟩ aJ k)⟩
  ·refine aN k q1<|bC<|aE<|aE ?_
   obtain rfl:=so h
   exact ⟨_,k,k,(aC (σ:=sg []) aJ aJ k)⟩
 ·intro e t hX
  rcases y5 with y6|y7
  ·obtain ⟨rfl,hent⟩:=hX
   refine aU<|tn<|aM hent<|sR<|aT k2<|aL ?_
   obtain rfl:=so h
   exact aS k k k (cT k)
  ·obtain ⟨rfl,hent⟩:=hX
   refine aY<|aG ?_
   obtain rfl:=so h
   exact hent
def gY (a0:(List Int)) (a1:(Int→Option Bool)):Option Bool:=
 Option.bind (dV a0 a1) fun v1=>
 some (decide (0≤v1))
theorem vG (a0:(List Int)) (a1:(Int→Option Bool)) {f1:FuncId} {c1:List AV} (hc1:c1.all eP=true) (hf1: ∀ b0 r,a1 b0=some r→HasC Tryz.prog f1 ([.int b0]++c1) (.bl r)) (r:Bool) (h:gY a0 a1=some r):HasC Tryz.prog 186 [.list 1 (a0.map eI),.fn f1 c1] (.bl r):=by
 refine bJ aB (rvs:=[.tmp 4]) (ns:=[0,1]) Tryz.func186 k k Tryz.ntmps186 k k (oT k (oT hc1 aEp))<|sR<|aT k2<|sR<|am k k<|am k k ?_
 obtain ⟨v1,hv1,h⟩:=ob h
 refine ae (bA (oW a0 a1 hc1 hf1 v1 hv1) k (aD (aO k) (aD (aPP hc1) bD))) k<|cm k4<|aT k2<|aL ?_
 obtain rfl:=so h
 exact aS k k k (bO k)
def fH (a0:(List (List Int))) (a1:((List Int)→Option Bool)) (x1:Int):Option (Int ⊕ (Unit ⊕ Int)):=
 bif decide (x1<(a0.length:Int)) then
 (Option.bind (dY a0 x1) fun v2=>
 Option.bind (a1 v2) fun v3=>
 bif v3 then
 (some (.inr (.inr (x1))))
 else
 (some (.inl (wr (x1+1)))))
 else
 (some (.inr (.inl ())))
def iI (a0:(List (List Int))) (a1:((List Int)→Option Bool)):Option Int:=
 Option.bind (Lp (fH a0 a1) 0) fun y5=>
 Sum.elim (fun y6=>
 some ((-1))
 )
 (fun y7=>
 some y7
 )
 y5
theorem wG (a0:(List (List Int))) (a1:((List Int)→Option Bool)) {f1:FuncId} {c1:List AV} (hc1:c1.all eP=true) (hf1: ∀ b0 r,a1 b0=some r→HasC Tryz.prog f1 ([.list 1 (b0.map eI)]++c1) (.bl r)) (r:Int) (h:iI a0 a1=some r):HasC Tryz.prog 261 [.list 1 (a0.map (cL 1 eI)),.fn f1 c1] (.int r):=by
 refine bJ aB (rvs:=[.tmp 4]) (ns:=[0,1]) Tryz.func261 k k Tryz.ntmps261 k k (oT k (oT hc1 aEp))<|sR<|aT k2<|sQ<|sR<|am k k ?_
 refine ln k4<|am k k<|an<|tn<|aI ?_
 obtain ⟨y5,hy5,h⟩:=ob h
 refine cV (body:=(fH a0 a1)) hy5 (fun (x1:Int)=>bN [(0,.list 1 (a0.map (cL 1 eI))),(1,.fn f1 c1),(7,.int (a0.length:Int)),(8,.int x1)] [] 0 [0,1]) (fun r e t=>Sum.elim (fun a=>(fun r e t=>e= .exit 0∧Ent t (bN [] [] 0 [0,1])) a e t) (fun b=>(fun r e t=>e= .ret∧oD TT [.tmp 4] (.int r) .ret t) b e t) r) (aC (σ:=sg []) ⟨⟨_,k,⟨k,k⟩⟩,⟨_,k,⟨k,nY _ hc1⟩⟩,(e1 k k),(e1 k k),aJ⟩ aJ k) ?_ ?_
 ·intro x1 o h
  refine sR<|cm k4<|an<|tn<|sQ ?_
  rcases cb h with ⟨q1,h⟩|⟨q1,h⟩
  ·refine aH k q1<|aQ<|tn<|sQ<|aI<|sR<|am k k<|aa k k<|an ?_
   refine tn<|sR<|am k k<|am k k<|am k k ?_
   obtain ⟨v2,hv2,h⟩:=ob h
   refine ae (bF aB hv2 k k k k k k) k<|lr k7 ?_
   obtain ⟨v3,hv3,h⟩:=ob h
   refine ae (aDc hc1 (hf1 v2 v3 hv3) k k (aD (aO k) bD)) k<|an<|tn ?_
   rcases cb h with ⟨q4,h⟩|⟨q4,h⟩
   ·refine aH k q4<|sR<|am k k<|aT k2<|aL<|aY<|aG ?_
    refine aG ?_
    obtain rfl:=so h
    exact ⟨_,k,k,aS k k k (cT k)⟩
   ·refine aN k q4<|aQ<|bB<|tn<|rg<|ae (bT k k) k<|am k k<|an<|tn ?_
    obtain rfl:=so h
    exact ⟨_,k,(aC (σ:=sg []) ⟨⟨_,k,⟨k,k⟩⟩,⟨_,k,⟨k,nY _ hc1⟩⟩,(e1 k k),(e1 k k),aJ⟩ aJ k)⟩
  ·refine aN k q1<|bC<|aE<|aE ?_
   obtain rfl:=so h
   exact ⟨_,k,k,(aC (σ:=sg []) aJ aJ k)⟩
 ·intro e t hX
  rcases y5 with y6|y7
  ·obtain ⟨rfl,hent⟩:=hX
   refine aU<|tn<|aM hent<|sR<|aT k2<|aL ?_
   obtain rfl:=so h
   exact aS k k k (cT k)
  ·obtain ⟨rfl,hent⟩:=hX
   refine aY<|aG ?_
   obtain rfl:=so h
   exact hent
def eJ (a0:(List (List Int))) (a1:((List Int)→Option Bool)):Option Bool:=
 Option.bind (iI a0 a1) fun v1=>
 some (decide (0≤v1))
theorem kO (a0:(List (List Int))) (a1:((List Int)→Option Bool)) {f1:FuncId} {c1:List AV} (hc1:c1.all eP=true) (hf1: ∀ b0 r,a1 b0=some r→HasC Tryz.prog f1 ([.list 1 (b0.map eI)]++c1) (.bl r)) (r:Bool) (h:eJ a0 a1=some r):HasC Tryz.prog 234 [.list 1 (a0.map (cL 1 eI)),.fn f1 c1] (.bl r):=by
 refine bJ aB (rvs:=[.tmp 4]) (ns:=[0,1]) Tryz.func234 k k Tryz.ntmps234 k k (oT k (oT hc1 aEp))<|sR<|aT k2<|sR<|am k k<|am k k ?_
 obtain ⟨v1,hv1,h⟩:=ob h
 refine ae (bA (wG a0 a1 hc1 hf1 v1 hv1) k (aD (aO k) (aD (aPP hc1) bD))) k<|cm k4<|aT k2<|aL ?_
 obtain rfl:=so h
 exact aS k k k (bO k)
def jJ (a0:Int) (a1:Int) (a2:Int):Option Bool:=
 Option.bind (hO a0 a1 a2) fun v1=>
 some (!v1)
theorem aCo (a0:Int) (a1:Int) (a2:Int) (r:Bool) (h:jJ a0 a1 a2=some r):HasC Tryz.prog 187 [.int a0,.ref (eI a1),.ref (eI a2)] (.bl r):=by
 refine bJ aB (rvs:=[.tmp 4]) (ns:=[0,1]) Tryz.func187 k k Tryz.ntmps187 k k k<|sR<|aT k2<|sR<|am k k<|lr k7 ?_
 refine lr k7 ?_
 obtain ⟨v1,hv1,h⟩:=ob h
 refine ae (bA (kV a0 a1 a2 v1 hv1) k (aD (aO k) (aD (aO k) (aD (aO k) bD)))) k<|ae (cJ k) k<|aT k2<|aL ?_
 obtain rfl:=so h
 exact aS k k k (bO k)
def gD (a0:(List Int)) (a1:Int) (a2:Int):Option Bool:=
 Option.bind (gY a0 (fun b0=>jJ b0 a1 a2)) fun v1=>
 some (!v1)
theorem lY (a0:(List Int)) (a1:Int) (a2:Int) (r:Bool) (h:gD a0 a1 a2=some r):HasC Tryz.prog 138 [.list 1 (a0.map eI),.int a1,.int a2] (.bl r):=by
 refine bJ aB (rvs:=[.tmp 6]) (ns:=[0,1,2,3]) Tryz.func138 k k Tryz.ntmps138 k k k<|sR<|ae (cE k k k k) k<|ae (cE k k k k) k<|aT k2<|sR ?_
 refine am k k<|ae (aAh (vs:=[.ptr 0 0 0,.ptr 1 0 0]) k (by simp)) k ?_
 obtain ⟨v1,hv1,h⟩:=ob h
 refine ae (bA (vG a0 (fun b0=>jJ b0 a1 a2) k (fun b0 r h=>aCo b0 a1 a2 r h) v1 hv1) k (aD (aO k) (aD (aIs (aBu (aEk k k (aR (aV k) cO)) (aBu (aEk k k (aR (aV k) cO)) aBt))) bD))) k<|ae (cJ k) k<|aT k2<|aL ?_
 obtain rfl:=so h
 exact aS k k k (bO k)
def nP (a0:Int) (a1:(List Int)):Option Bool:=
 Option.bind (iH a0) fun v1=>
 bif v1 then
 (bif decide ((a1.length:Int)≤64) then
 (Option.bind (gD a1 0 (wr (a0 - 1))) fun v4=>
 some (v4))
 else
 (some (false)))
 else
 (some (false))
theorem aBA (a0:Int) (a1:(List Int)) (r:Bool) (h:nP a0 a1=some r):HasC Tryz.prog 204 [.int a0,.list 1 (a1.map eI)] (.bl r):=by
 refine bJ aB (rvs:=[.tmp 4]) (ns:=[0,1]) Tryz.func204 k k Tryz.ntmps204 k k k<|sR<|aT k2<|sR<|am k k ?_
 obtain ⟨v1,hv1,h⟩:=ob h
 refine ae (bA (lW a0 v1 hv1) k (aD (aO k) bD)) k<|am k k ?_
 rcases cb h with ⟨q2,h⟩|⟨q2,h⟩
 ·refine aX 7 k q2<|am k k<|ln k4<|cm k4<|pk k3<|am k k ?_
  rcases cb h with ⟨q3,h⟩|⟨q3,h⟩
  ·refine aX 12 k q3<|am k k<|am k k<|ae (iX k k) k ?_
   obtain ⟨v4,hv4,h⟩:=ob h
   refine ae (bA (lY a1 0 (wr (a0 - 1)) v4 hv4) k (aD (aO k) (aD (aO k) (aD (aO k) bD)))) k<|pk k3<|aT k2<|aM (t:=bN [(4,.bl v4)] [] 0 [0,1]) (aC (σ:=sg []) ⟨(e1 k k),aJ⟩ aJ k)<|aL ?_
   obtain rfl:=so h
   exact aS k k k (bO k)
  ·refine aX 12 k q3<|aK k4<|aK k4<|pk k3<|aT k2<|aM (t:=bN [(4,.bl false)] [] 0 [0,1]) (aC (σ:=sg []) ⟨(e1 k k),aJ⟩ aJ k) ?_
   refine aL ?_
   obtain rfl:=so h
   exact aS k k k (bO k)
 ·refine aX 7 k q2<|aK k4<|ak k k<|pk k3<|am k k<|aK k4<|aK k4 ?_
  refine pk k3<|aT k2<|aM (t:=bN [(4,.bl false)] [] 0 [0,1]) (aC (σ:=sg []) ⟨(e1 k k),aJ⟩ aJ k)<|aL ?_
  obtain rfl:=so h
  exact aS k k k (bO k)
def rL (a0:Int) (a1:Mt):Option Bool:=
 Option.bind (hO a1.rows 0 8) fun v1=>
 bif v1 then
 (Option.bind (hO a1.cols 0 8) fun v3=>
 bif v3 then
 (bif decide ((a1.cells.length:Int)=wr (a1.rows*a1.cols)) then
 (Option.bind (nP a0 a1.cells) fun v6=>
 some (v6))
 else
 (some (false)))
 else
 (some (false)))
 else
 (some (false))
theorem aFv (a0:Int) (a1:Mt) (r:Bool) (h:rL a0 a1=some r):HasC Tryz.prog 148 [.int a0,.agg (eM a1)] (.bl r):=by
 refine bJ aB (rvs:=[.tmp 4]) (ns:=[0,1,2]) Tryz.func148 k k Tryz.ntmps148 k k k<|sR<|ae (cE k k k k) k<|aT k2<|sR<|fp k8 ?_
 refine lp k8 ?_
 obtain ⟨v1,hv1,h⟩:=ob h
 refine ae (bA (kV a1.rows 0 8 v1 hv1) k (aD (aO k) (aD (aO k) (aD (aO k) bD)))) k<|am k k ?_
 rcases cb h with ⟨q2,h⟩|⟨q2,h⟩
 ·refine aX 8 k q2<|fp k8<|lp k8 ?_
  obtain ⟨v3,hv3,h⟩:=ob h
  refine ae (bA (kV a1.cols 0 8 v3 hv3) k (aD (aO k) (aD (aO k) (aD (aO k) bD)))) k<|pk k3<|am k k ?_
  rcases cb h with ⟨q4,h⟩|⟨q4,h⟩
  ·refine aX 13 k q4<|fp k8<|lp k8<|ln k4<|fp k8<|lp k8<|fp k8<|lp k8<|ae (gJ k k) k<|cm k4 ?_
   refine pk k3<|am k k ?_
   rcases cb h with ⟨q5,h⟩|⟨q5,h⟩
   ·refine aX 24 k q5<|am k k<|fp k8<|lp k8 ?_
    obtain ⟨v6,hv6,h⟩:=ob h
    refine ae (bA (aBA a0 a1.cells v6 hv6) k (aD (aO k) (aD (aO k) bD))) k<|pk k3<|aT k2<|aM (t:=bN [(4,.bl v6)] [] 1 [1,2]) (aC (σ:=sg []) ⟨(e1 k k),aJ⟩ aJ k)<|aL ?_
    obtain rfl:=so h
    exact aS k k k (bO k)
   ·refine aX 24 k q5<|aK k4<|aK k4<|pk k3<|aT k2<|aM (t:=bN [(4,.bl false)] [] 1 [1,2]) (aC (σ:=sg []) ⟨(e1 k k),aJ⟩ aJ k) ?_
    refine aL ?_
    obtain rfl:=so h
    exact aS k k k (bO k)
  ·refine aX 13 k q4<|aK k4<|aK k4<|aK k4<|aK k4<|ak k k ?_
   refine pk k3<|am k k<|aK k4<|aK k4<|pk k3<|aT k2 ?_
   refine aM (t:=bN [(4,.bl false)] [] 1 [1,2]) (aC (σ:=sg []) ⟨(e1 k k),aJ⟩ aJ k)<|aL ?_
   obtain rfl:=so h
   exact aS k k k (bO k)
 ·refine aX 8 k q2<|aK k4<|ak k k<|pk k3<|am k k<|aK k4<|aK k4 ?_
  refine aK k4<|aK k4<|ak k k<|pk k3<|am k k<|aK k4<|ak k k ?_
  refine ak k k<|pk k3<|aT k2<|aM (t:=bN [(4,.bl false)] [] 1 [1,2]) (aC (σ:=sg []) ⟨(e1 k k),aJ⟩ aJ k)<|aL ?_
  obtain rfl:=so h
  exact aS k k k (bO k)
def rM (a0:Qv):Option Bool:=
 Option.bind (hO a0.n 1 5) fun v1=>
 bif v1 then
 (bif decide ((a0.src.length:Int)=(a0.tgt.length:Int)) then
 (bif decide ((a0.src.length:Int)≤6) then
 (Option.bind (gD a0.src 0 (wr (a0.n - 1))) fun v5=>
 bif v5 then
 (Option.bind (gD a0.tgt 0 (wr (a0.n - 1))) fun v7=>
 some (v7))
 else
 (some (false)))
 else
 (some (false)))
 else
 (some (false)))
 else
 (some (false))
theorem aFw (a0:Qv) (r:Bool) (h:rM a0=some r):HasC Tryz.prog 203 [.agg (eQ a0)] (.bl r):=by
 refine bJ aB (rvs:=[.tmp 2]) (ns:=[0,1,2]) Tryz.func203 k k Tryz.ntmps203 k k k<|sR<|ae (cE k k k k) k<|aT k2<|sR<|fp k8 ?_
 refine lp k8 ?_
 obtain ⟨v1,hv1,h⟩:=ob h
 refine ae (bA (kV a0.n 1 5 v1 hv1) k (aD (aO k) (aD (aO k) (aD (aO k) bD)))) k<|am k k ?_
 rcases cb h with ⟨q2,h⟩|⟨q2,h⟩
 ·refine aX 6 k q2<|fp k8<|lp k8<|ln k4<|fp k8<|lp k8<|ln k4<|cm k4<|pk k3<|am k k ?_
  rcases cb h with ⟨q3,h⟩|⟨q3,h⟩
  ·refine aX 15 k q3<|fp k8<|lp k8<|ln k4<|cm k4<|pk k3<|am k k ?_
   rcases cb h with ⟨q4,h⟩|⟨q4,h⟩
   ·refine aX 21 k q4<|fp k8<|lp k8<|fp k8<|lp k8<|ae (iX k k) k ?_
    obtain ⟨v5,hv5,h⟩:=ob h
    refine ae (bA (lY a0.src 0 (wr (a0.n - 1)) v5 hv5) k (aD (aO k) (aD (aO k) (aD (aO k) bD)))) k<|pk k3<|am k k ?_
    rcases cb h with ⟨q6,h⟩|⟨q6,h⟩
    ·refine aX 29 k q6<|fp k8<|lp k8<|fp k8<|lp k8<|ae (iX k k) k ?_
     obtain ⟨v7,hv7,h⟩:=ob h
     refine ae (bA (lY a0.tgt 0 (wr (a0.n - 1)) v7 hv7) k (aD (aO k) (aD (aO k) (aD (aO k) bD)))) k<|pk k3<|aT k2<|aM (t:=bN [(2,.bl v7)] [] 1 [1,2]) (aC (σ:=sg []) ⟨(e1 k k),aJ⟩ aJ k)<|aL ?_
     obtain rfl:=so h
     exact aS k k k (bO k)
    ·refine aX 29 k q6<|aK k4<|aK k4<|aK k4<|pk k3<|aa k k<|an ?_
     refine tn<|aM (t:=bN [(2,.bl false)] [] 1 [1,2]) (aC (σ:=sg []) ⟨(e1 k k),aJ⟩ aJ k)<|aL ?_
     obtain rfl:=so h
     exact aS k k k (bO k)
   ·refine aX 21 k q4<|aK k4<|aK k4<|aK k4<|pk k3<|am k k<|ak k k ?_
    refine aK k4<|aK k4<|ak k k<|pk k3<|aT k2<|aM (t:=bN [(2,.bl false)] [] 1 [1,2]) (aC (σ:=sg []) ⟨(e1 k k),aJ⟩ aJ k) ?_
    refine aL ?_
    obtain rfl:=so h
    exact aS k k k (bO k)
  ·refine aX 15 k q3<|aK k4<|aK k4<|pk k3<|am k k<|aK k4<|ak k k ?_
   refine aK k4<|ak k k<|pk k3<|am k k<|aK k4<|aK k4<|ak k k ?_
   refine ak k k<|pk k3<|aT k2<|aM (t:=bN [(2,.bl false)] [] 1 [1,2]) (aC (σ:=sg []) ⟨(e1 k k),aJ⟩ aJ k)<|aL ?_
   obtain rfl:=so h
   exact aS k k k (bO k)
 ·refine aX 6 k q2<|aK k4<|aK k4<|aK k4<|ak k k<|pk k3<|am k k ?_
  refine aK k4<|aK k4<|pk k3<|am k k<|aK k4<|aK k4 ?_
  refine aK k4<|pk k3<|am k k<|aK k4<|aK k4<|aK k4 ?_
  refine pk k3<|aT k2<|aM (t:=bN [(2,.bl false)] [] 1 [1,2]) (aC (σ:=sg []) ⟨(e1 k k),aJ⟩ aJ k)<|aL ?_
  obtain rfl:=so h
  exact aS k k k (bO k)
def uA (a0:Qv) (a1:(List Int)):Option Bool:=
 Option.bind (rM a0) fun v1=>
 bif v1 then
 (bif decide ((a1.length:Int)=a0.n) then
 (Option.bind (gD a1 0 4) fun v4=>
 bif v4 then
 (Option.bind (tW a1) fun v6=>
 some (decide (v6≤8)))
 else
 (some (false)))
 else
 (some (false)))
 else
 (some (false))
theorem aHX (a0:Qv) (a1:(List Int)) (r:Bool) (h:uA a0 a1=some r):HasC Tryz.prog 147 [.agg (eQ a0),.list 1 (a1.map eI)] (.bl r):=by
 refine bJ aB (rvs:=[.tmp 4]) (ns:=[0,1,2]) Tryz.func147 k k Tryz.ntmps147 k k k<|sR<|ae (cE k k k k) k<|aT k2<|sR<|lp k8 ?_
 obtain ⟨v1,hv1,h⟩:=ob h
 refine ae (bA (aFw a0 v1 hv1) k (aD (cD (aR (aV k) (aR (aV k) (aR (aV k) cO)))) bD)) k<|am k k ?_
 rcases cb h with ⟨q2,h⟩|⟨q2,h⟩
 ·refine aX 7 k q2<|am k k<|ln k4<|fp k8<|lp k8<|cm k4<|pk k3<|am k k ?_
  rcases cb h with ⟨q3,h⟩|⟨q3,h⟩
  ·refine aX 14 k q3<|am k k ?_
   obtain ⟨v4,hv4,h⟩:=ob h
   refine ae (bA (lY a1 0 4 v4 hv4) k (aD (aO k) (aD (aO k) (aD (aO k) bD)))) k<|pk k3<|am k k ?_
   rcases cb h with ⟨q5,h⟩|⟨q5,h⟩
   ·refine aX 18 k q5<|am k k ?_
    obtain ⟨v6,hv6,h⟩:=ob h
    refine ae (bA (aDm a1 v6 hv6) k (aD (aO k) bD)) k<|cm k4<|pk k3<|aT k2<|aM (t:=bN [(4,.bl (decide (v6≤8)))] [] 1 [1,2]) (aC (σ:=sg []) ⟨(e1 k k),aJ⟩ aJ k)<|aL ?_
    obtain rfl:=so h
    exact aS k k k (bO k)
   ·refine aX 18 k q5<|aK k4<|ak k k<|pk k3<|aT k2<|aM (t:=bN [(4,.bl false)] [] 1 [1,2]) (aC (σ:=sg []) ⟨(e1 k k),aJ⟩ aJ k)<|aL ?_
    obtain rfl:=so h
    exact aS k k k (bO k)
  ·refine aX 14 k q3<|aK k4<|pk k3<|am k k<|aK k4<|ak k k<|pk k3<|aa k k ?_
   refine an<|tn<|aM (t:=bN [(4,.bl false)] [] 1 [1,2]) (aC (σ:=sg []) ⟨(e1 k k),aJ⟩ aJ k)<|aL ?_
   obtain rfl:=so h
   exact aS k k k (bO k)
 ·refine aX 7 k q2<|aK k4<|aK k4<|ak k k<|pk k3<|am k k<|aK k4 ?_
  refine pk k3<|am k k<|aK k4<|ak k k<|pk k3<|aT k2<|aM (t:=bN [(4,.bl false)] [] 1 [1,2]) (aC (σ:=sg []) ⟨(e1 k k),aJ⟩ aJ k) ?_
  refine aL ?_
  obtain rfl:=so h
  exact aS k k k (bO k)
def rN (a0:Rp) (x1:Int):Option (Int ⊕ (Unit ⊕ Bool)):=
 bif decide (x1<(a0.maps.length:Int)) then
 (Option.bind (dY a0.maps x1) fun v7=>
 Option.bind (rL a0.p v7) fun v8=>
 bif !v8 then
 (some (.inr (.inr (false))))
 else
 (Option.bind (dY a0.q.src x1) fun v10=>
 Option.bind (dY a0.dims v10) fun v11=>
 bif !decide (v7.cols=v11) then
 (some (.inr (.inr (false))))
 else
 (Option.bind (dY a0.q.tgt x1) fun v13=>
 Option.bind (dY a0.dims v13) fun v14=>
 bif !decide (v7.rows=v14) then
 (some (.inr (.inr (false))))
 else
 (some (.inl (wr (x1+1)))))))
 else
 (some (.inr (.inl ())))
def uB (a0:Rp):Option Bool:=
 Option.bind (iH a0.p) fun v1=>
 bif !v1 then
 (some (false))
 else
 (Option.bind (uA a0.q a0.dims) fun v3=>
 bif !v3 then
 (some (false))
 else
 (bif !decide ((a0.maps.length:Int)=(a0.q.src.length:Int)) then
 (some (false))
 else
 (Option.bind (Lp (rN a0) 0) fun y16=>
 Sum.elim (fun y17=>
 some (true)
 )
 (fun y18=>
 some y18
 )
 y16)))
theorem aDr (a0:Rp) (r:Bool) (h:uB a0=some r):HasC Tryz.prog 101 [.agg (eR a0)] (.bl r):=by
 refine bJ aB (rvs:=[.tmp 2]) (ns:=[0,1,2,3]) Tryz.func101 k k Tryz.ntmps101 k k k<|sR<|ae (cE k k k k) k<|aT k2<|sQ<|sR ?_
 refine fp k8<|lp k8 ?_
 obtain ⟨v1,hv1,h⟩:=ob h
 refine ae (bA (lW a0.p v1 hv1) k (aD (aO k) bD)) k<|ae (cJ k) k<|am k k ?_
 rcases cb h with ⟨q2,h⟩|⟨q2,h⟩
 ·refine aX 9 k q2<|aK k4<|aK k4<|aK k4<|pk k3<|am k k<|ak k k ?_
  refine aK k4<|aK k4<|aK k4<|ak k k<|pk k3<|an<|tn ?_
  refine aM (t:=bN [(1,.ptr 0 0 0),(26,.bl true)] [(0,⟨6,[[.int a0.p,.int a0.q.n,.list 1 (a0.q.src.map eI),.list 1 (a0.q.tgt.map eI),.list 1 (a0.dims.map eI),.list 3 (a0.maps.map eM)]]⟩)] 1 [1,2,3]) (aC (σ:=sg [(0,0)]) ⟨(pE k k),(e1 k k),aJ⟩ (hP k k k k<|aJ) k)<|aH k k<|sR<|aT k2<|aL<|aG ?_
  obtain rfl:=so h
  exact aS k k k (bO k)
 ·refine aX 9 k q2<|fp k8<|lp k8<|fp k8<|lp k8 ?_
  obtain ⟨v3,hv3,h⟩:=ob h
  refine ae (bA (aHX a0.q a0.dims v3 hv3) k (aD (cD (aR (aV k) (aR (aV k) (aR (aV k) cO)))) (aD (aO k) bD))) k<|ae (cJ k) k<|pk k3<|am k k ?_
  rcases cb h with ⟨q4,h⟩|⟨q4,h⟩
  ·refine aX 17 k q4<|aK k4<|aK k4<|aK k4<|aK k4<|pk k3 ?_
   refine an<|tn<|aM (t:=bN [(1,.ptr 0 0 0),(26,.bl true)] [(0,⟨6,[[.int a0.p,.int a0.q.n,.list 1 (a0.q.src.map eI),.list 1 (a0.q.tgt.map eI),.list 1 (a0.dims.map eI),.list 3 (a0.maps.map eM)]]⟩)] 1 [1,2,3]) (aC (σ:=sg [(0,0)]) ⟨(pE k k),(e1 k k),aJ⟩ (hP k k k k<|aJ) k)<|aH k k<|sR<|aT k2<|aL ?_
   refine aG ?_
   obtain rfl:=so h
   exact aS k k k (bO k)
  ·refine aX 17 k q4<|fp k8<|lp k8<|ln k4<|fp k8<|fp k8<|lp k8<|ln k4<|cm k4<|pk k3 ?_
   refine an<|tn<|aM (t:=bN [(1,.ptr 0 0 0),(26,.bl (!decide ((a0.maps.length:Int)=(a0.q.src.length:Int))))] [(0,⟨6,[[.int a0.p,.int a0.q.n,.list 1 (a0.q.src.map eI),.list 1 (a0.q.tgt.map eI),.list 1 (a0.dims.map eI),.list 3 (a0.maps.map eM)]]⟩)] 1 [1,2,3]) (aC (σ:=sg [(0,0)]) ⟨(pE k k),(e1 k k),aJ⟩ (hP k k k k<|aJ) k) ?_
   rcases cb h with ⟨q5,h⟩|⟨q5,h⟩
   ·refine aH k q5<|sR<|aT k2<|aL<|aG ?_
    obtain rfl:=so h
    exact aS k k k (bO k)
   ·refine aN k q5<|aQ<|tn<|sQ<|sR<|fp k8<|lp k8<|ln k4<|am k k ?_
    refine an<|tn<|aI ?_
    obtain ⟨y16,hy16,h⟩:=ob h
    refine cV (body:=(rN a0)) hy16 (fun (x1:Int)=>bN [(1,.ptr 0 0 0),(28,.list 3 (a0.maps.map eM)),(29,.int (a0.maps.length:Int)),(30,.int x1)] [(0,⟨6,[[.int a0.p,.int a0.q.n,.list 1 (a0.q.src.map eI),.list 1 (a0.q.tgt.map eI),.list 1 (a0.dims.map eI),.list 3 (a0.maps.map eM)]]⟩)] 1 [1,2,3]) (fun r e t=>Sum.elim (fun a=>(fun r e t=>e= .exit 0∧Ent t (bN [] [] 0 [0,1,2,3])) a e t) (fun b=>(fun r e t=>e= .ret∧oD TT [.tmp 2] (.bl r) .ret t) b e t) r) (aC (σ:=sg [(0,0)]) ⟨(pE k k),⟨_,k,⟨k,k⟩⟩,(e1 k k),(e1 k k),aJ⟩ (hP k k k k<|aJ) k) ?_ ?_
    ·intro x1 o h
     refine sR<|cm k4<|an<|tn<|sQ ?_
     rcases cb h with ⟨q6,h⟩|⟨q6,h⟩
     ·refine aH k q6<|aQ<|tn<|sQ<|aI<|sR<|am k k ?_
      obtain ⟨v7,hv7,h⟩:=ob h
      refine ae (bF aB hv7 k k k k k k) k<|lr k7<|ae (bV aB k k) k<|aa k k<|ae (bK aB k k k k k k k k) k<|an<|tn<|sQ<|aW kI<|fp k8 ?_
      refine lp k8<|lp k8 ?_
      obtain ⟨v8,hv8,h⟩:=ob h
      refine ae (bA (aFv a0.p v7 v8 hv8) k (aD (aO k) (aD (cD (aR (aV k) (aR (aV k) (aR (aV k) cO)))) bD))) k<|ae (cJ k) k<|am k k ?_
      rcases cb h with ⟨q9,h⟩|⟨q9,h⟩
      ·refine aX 40 k q9<|aK k4<|aK k4<|aK k4<|aK k4<|ak k k ?_
       refine aK k4<|aK k4<|pk k3<|am k k<|aK k4<|aK k4 ?_
       refine aK k4<|aK k4<|aK k4<|aK k4<|ak k k<|pk k3 ?_
       refine an ?_
       refine ⟨by kernel_rfl,?_⟩
       refine tn<|aM (t:=bN [(1,.ptr 0 0 0),(28,.list 3 (a0.maps.map eM)),(29,.int (a0.maps.length:Int)),(30,.int x1),(69,.bl true)] [(0,⟨6,[[.int a0.p,.int a0.q.n,.list 1 (a0.q.src.map eI),.list 1 (a0.q.tgt.map eI),.list 1 (a0.dims.map eI),.list 3 (a0.maps.map eM)]]⟩)] 2 [2,3]) (aC (σ:=sg [(0,0)]) ⟨(pE k k),⟨_,k,⟨k,k⟩⟩,(e1 k k),(e1 k k),(e1 k k),aJ⟩ (hP k k k k<|aJ) k)<|aH k k<|sR<|aT k2<|aL<|aY ?_
       refine aG<|aG ?_
       obtain rfl:=so h
       exact ⟨_,k,k,aS k k k (bO k)⟩
      ·refine aX 40 k q9<|fp k8<|lp k8<|fp k8<|lp k8<|fp k8<|fp k8<|lp k8<|am k k ?_
       obtain ⟨v10,hv10,h⟩:=ob h
       refine ae (bF aB hv10 k k k k k k) k<|lr k7 ?_
       obtain ⟨v11,hv11,h⟩:=ob h
       refine ae (bF aB hv11 k k k k k k) k<|lr k7<|cm k4<|pk k3<|am k k ?_
       rcases cb h with ⟨q12,h⟩|⟨q12,h⟩
       ·refine aX 55 k q12<|aK k4<|aK k4<|aK k4<|aK k4<|ak k k ?_
        refine aK k4<|aK k4<|pk k3<|an ?_
        refine ⟨by kernel_rfl,?_⟩
        refine tn<|aM (t:=bN [(1,.ptr 0 0 0),(28,.list 3 (a0.maps.map eM)),(29,.int (a0.maps.length:Int)),(30,.int x1),(69,.bl true)] [(0,⟨6,[[.int a0.p,.int a0.q.n,.list 1 (a0.q.src.map eI),.list 1 (a0.q.tgt.map eI),.list 1 (a0.dims.map eI),.list 3 (a0.maps.map eM)]]⟩)] 2 [2,3]) (aC (σ:=sg [(0,0)]) ⟨(pE k k),⟨_,k,⟨k,k⟩⟩,(e1 k k),(e1 k k),(e1 k k),aJ⟩ (hP k k k k<|aJ) k)<|aH k k<|sR<|aT k2<|aL<|aY ?_
        refine aG<|aG ?_
        obtain rfl:=so h
        exact ⟨_,k,k,aS k k k (bO k)⟩
       ·refine aX 55 k q12<|fp k8<|lp k8<|fp k8<|lp k8<|fp k8<|fp k8<|lp k8<|am k k ?_
        obtain ⟨v13,hv13,h⟩:=ob h
        refine ae (bF aB hv13 k k k k k k) k<|lr k7 ?_
        obtain ⟨v14,hv14,h⟩:=ob h
        refine ae (bF aB hv14 k k k k k k) k<|lr k7<|cm k4<|pk k3<|an ?_
        refine ⟨by kernel_rfl,?_⟩
        refine tn<|aM (t:=bN [(1,.ptr 0 0 0),(28,.list 3 (a0.maps.map eM)),(29,.int (a0.maps.length:Int)),(30,.int x1),(69,.bl (!decide (v7.rows=v14)))] [(0,⟨6,[[.int a0.p,.int a0.q.n,.list 1 (a0.q.src.map eI),.list 1 (a0.q.tgt.map eI),.list 1 (a0.dims.map eI),.list 3 (a0.maps.map eM)]]⟩)] 2 [2,3]) (aC (σ:=sg [(0,0)]) ⟨(pE k k),⟨_,k,⟨k,k⟩⟩,(e1 k k),(e1 k k),(e1 k k),aJ⟩ (hP k k k k<|aJ) k) ?_
        rcases cb h with ⟨q15,h⟩|⟨q15,h⟩
        ·refine aH k q15<|sR<|aT k2<|aL<|aY<|aG<|aG ?_
         obtain rfl:=so h
         exact ⟨_,k,k,aS k k k (bO k)⟩
        ·refine aN k q15<|aQ<|bB<|tn<|rg<|ae (bT k k) k<|am k k<|an<|tn ?_
         obtain rfl:=so h
         exact ⟨_,k,(aC (σ:=sg [(0,0)]) ⟨(pE k k),⟨_,k,⟨k,k⟩⟩,(e1 k k),(e1 k k),aJ⟩ (hP k k k k<|aJ) k)⟩
     ·refine aN k q6<|bC<|aE<|aE ?_
      obtain rfl:=so h
      exact ⟨_,k,k,(aC (σ:=sg []) aJ aJ k)⟩
    ·intro e t hX
     rcases y16 with y17|y18
     ·obtain ⟨rfl,hent⟩:=hX
      refine aU<|tn<|aM hent<|sR<|aT k2<|aL ?_
      obtain rfl:=so h
      exact aS k k k (bO k)
     ·obtain ⟨rfl,hent⟩:=hX
      refine aY<|aG ?_
      obtain rfl:=so h
      exact hent
def qW (a0:Mt):Option Mt:=
 Option.bind (tU a0.cells) fun v1=>
 some ((⟨a0.rows,a0.cols,v1⟩:Mt))
theorem aCG (a0:Mt) (r:Mt) (h:qW a0=some r):HasC Tryz.prog 170 [.agg (eM a0)] (.agg (eM r)):=by
 refine bJ aB (rvs:=[.cell 2 113]) (ns:=[0,1,2,3,4]) Tryz.func170 k k Tryz.ntmps170 k k k<|sR<|ae (cE k k k k) k<|ae (bV aB k k) k<|an<|tn<|sR<|fp k8 ?_
 refine lp k8 ?_
 obtain ⟨v1,hv1,h⟩:=ob h
 refine ae (AEff.conv (dF (x:= .own 2 0 (v1.map eI).length) (nb:=[(2,⟨1,cM (v1.map eI)⟩)]) (aDg a0.cells v1 hv1) k (by rfl) k k (dR.good _) (aD (aO k) bD)) (v':= .own 2 0 v1.length) (ed':=[(2,some ⟨1,v1.map (ow eI)⟩)]) (by simp only [aZ]) (fB (nb':=[(2,⟨1,v1.map (ow eI)⟩)]) (by simp only [cW]))) k<|fp k8<|ae (bK aB k k k k k k k k) k<|an<|tn<|sR<|lp k8<|ae (bK aB k k k k k k k k) k<|an ?_
 refine tn<|aL ?_
 obtain rfl:=so h
 exact aS k k k (qV (cF (k) (cF (k) (cF (iZ dR k k) iD))))
def rO (a0:Int) (a2:Mt) (v1:Mt) (v3:(List Int)) (x1:((List Int)×Int)) (x2:((List Int)×Int)):Option (((List Int)×Int) ⊕ (List Int)):=
 bif decide (x2.2<(v3.length:Int)) then
 (Option.bind (dY v3 x2.2) fun v5=>
 Option.bind (dQ (⟨v1.rows,v1.cols,x2.1⟩:Mt) x1.2) fun v6=>
 Option.bind (aCm a2 x2.2) fun v7=>
 Option.bind (gW a0 x2.1 (0+(wr (x1.2*v1.cols)).toNat) ((wr ((wr (x1.2+1))*v1.cols)).toNat - (wr (x1.2*v1.cols)).toNat) v5 v7) fun v8=>
 bif decide (v8.length=x2.1.length) then
 (some (.inl (v8,wr (x2.2+1))))
 else none)
 else
 (some (.inr x2.1))
def rP (a0:Int) (a1:Mt) (a2:Mt) (v1:Mt) (x1:((List Int)×Int)):Option (((List Int)×Int) ⊕ (List Int)):=
 bif decide (x1.2<a1.rows) then
 (Option.bind (aCm a1 x1.2) fun v3=>
 Option.bind (Lp (rO a0 a2 v1 v3 x1) (x1.1,0)) fun y10=>
 some (.inl (y10,wr (x1.2+1))))
 else
 (some (.inr x1.1))
def xH (a0:Int) (a1:Mt) (a2:Mt):Option Mt:=
 Option.bind (tK a1.rows a2.cols) fun v1=>
 Option.bind (Lp (rP a0 a1 a2 v1) (v1.cells,0)) fun y11=>
 some ((⟨v1.rows,v1.cols,y11⟩:Mt))
theorem aJw (a0:Int) (a1:Mt) (a2:Mt) (r:Mt) (h:xH a0 a1 a2=some r):HasC Tryz.prog 151 [.int a0,.agg (eM a1),.agg (eM a2)] (.agg (eM r)):=by
 refine bJ aB (rvs:=[.cell 6 113]) (ns:=[0,1,2,3,4,5,6]) Tryz.func151 k k Tryz.ntmps151 k k k<|sR<|ae (cE k k k k) k<|ae (cE k k k k) k<|ae (bV aB k k) k<|an<|tn<|sR ?_
 refine fp k8<|lp k8<|fp k8<|lp k8 ?_
 obtain ⟨v1,hv1,h⟩:=ob h
 refine ae (AEff.conv (dF (x:= .agg [.int v1.rows,.int v1.cols,.own 3 0 (v1.cells.map eI).length]) (nb:=[(3,⟨1,cM (v1.cells.map eI)⟩)]) (aBU a1.rows a2.cols v1 hv1) k (by rfl) k k (bU aJ (bU aJ (bU (dR.good _) gS))) (aD (aO k) (aD (aO k) bD))) (v':= .agg [.int v1.rows,.int v1.cols,.own 3 0 v1.cells.length]) (ed':=[(3,some ⟨1,v1.cells.map (ow eI)⟩)]) (by simp only [aZ]) (fB (nb':=[(3,⟨1,v1.cells.map (ow eI)⟩)]) (by simp only [cW]))) k<|ae (bV aB k k) k<|ae (bK aB k k k k k k k k) k<|an<|tn<|sQ<|sR<|fp k8<|lp k8 ?_
 refine am k k<|an<|tn<|aM (t:=bN [(0,.int a0),(4,.ptr 0 0 0),(5,.ptr 1 0 0),(6,.ptr 2 0 0),(7,.ptr 4 0 0),(17,.int a1.rows),(18,.int 0)] [(0,⟨3,[[.int a1.rows,.int a1.cols,.list 1 (a1.cells.map eI)]]⟩),(1,⟨3,[[.int a2.rows,.int a2.cols,.list 1 (a2.cells.map eI)]]⟩),(2,⟨3,[[.int 0,.int 0,.nil 1]]⟩),(3,⟨1,v1.cells.map (ow eI)⟩),(4,⟨3,[[.int v1.rows,.int v1.cols,.own 3 0 v1.cells.length]]⟩)] 5 [5,6]) (aC (σ:=sg [(0,0),(1,1),(2,2),(3,3),(4,4)]) ⟨(e1 k k),(pE k k),(pE k k),(pE k k),(pE k k),(e1 k k),(e1 k k),aJ⟩ (hP k k k k<|hP k k k k<|hP k k k k<|hI k k k<|hX ⟨_,k,k,.inr ⟨_,_,k,⟨_,_,k,k,⟨_,_,k,k,⟨_,_,k,⟨k,k,k,k⟩,k⟩⟩⟩,k⟩⟩ k<|aJ) k)<|aI ?_
 obtain ⟨y11,hy11,h⟩:=ob h
 refine cV (body:=(rP a0 a1 a2 v1)) hy11 (fun (x1:((List Int)×Int))=>bN [(0,.int a0),(4,.ptr 0 0 0),(5,.ptr 1 0 0),(6,.ptr 2 0 0),(7,.ptr 3 0 0),(17,.int a1.rows),(18,.int x1.2)] [(0,⟨3,[[.int a1.rows,.int a1.cols,.list 1 (a1.cells.map eI)]]⟩),(1,⟨3,[[.int a2.rows,.int a2.cols,.list 1 (a2.cells.map eI)]]⟩),(2,⟨3,[[.int 0,.int 0,.nil 1]]⟩),(3,⟨3,[[.int v1.rows,.int v1.cols,.own 4 0 x1.1.length]]⟩),(4,⟨1,x1.1.map (ow eI)⟩)] 5 [5,6]) (fun r e t=>e= .exit 0∧Ent t (bN [(6,.ptr 0 0 0),(7,.ptr 1 0 0)] [(0,⟨3,[[.int 0,.int 0,.nil 1]]⟩),(1,⟨3,[[.int v1.rows,.int v1.cols,.own 2 0 r.length]]⟩),(2,⟨1,r.map (ow eI)⟩)] 3 [3,4,5,6])) (aC (σ:=sg [(0,0),(1,1),(2,2),(3,4),(4,3)]) ⟨(e1 k k),(pE k k),(pE k k),(pE k k),(pE k k),(e1 k k),(e1 k k),aJ⟩ (hP k k k k<|hP k k k k<|hP k k k k<|hX ⟨_,k,k,.inr ⟨_,_,k,⟨_,_,k,k,⟨_,_,k,k,⟨_,_,k,⟨k,k,k,k⟩,k⟩⟩⟩,k⟩⟩ k<|hI k k k<|aJ) k) ?_ ?_
 ·intro x1 o h
  refine sR<|cm k4<|an<|tn<|sQ ?_
  rcases cb h with ⟨q2,h⟩|⟨q2,h⟩
  ·refine aH k q2<|aQ<|tn<|sQ<|aI<|sR<|am k k<|aa k k<|an ?_
   refine tn<|sR<|lp k8<|am k k ?_
   obtain ⟨v3,hv3,h⟩:=ob h
   refine ae (aHP (aMX a1 x1.2 v3 hv3) k k k) k<|ln k4<|am k k<|an<|tn<|aI ?_
   obtain ⟨y10,hy10,h⟩:=ob h
   refine cV (body:=(rO a0 a2 v1 v3 x1)) hy10 (fun (x2:((List Int)×Int))=>bN [(0,.int a0),(4,.ptr 0 0 0),(5,.ptr 1 0 0),(6,.ptr 2 0 0),(7,.ptr 3 0 0),(8,.int x1.2),(17,.int a1.rows),(18,.int x1.2),(23,.list 1 (v3.map eI)),(24,.int (v3.length:Int)),(25,.int x2.2)] [(0,⟨3,[[.int a1.rows,.int a1.cols,.list 1 (a1.cells.map eI)]]⟩),(1,⟨3,[[.int a2.rows,.int a2.cols,.list 1 (a2.cells.map eI)]]⟩),(2,⟨3,[[.int 0,.int 0,.nil 1]]⟩),(3,⟨3,[[.int v1.rows,.int v1.cols,.own 4 0 x2.1.length]]⟩),(4,⟨1,x2.1.map (ow eI)⟩)] 5 [5,6]) (fun r e t=>e= .exit 2∧Ent t (bN [(0,.int a0),(4,.ptr 0 0 0),(5,.ptr 1 0 0),(6,.ptr 2 0 0),(7,.ptr 3 0 0),(17,.int a1.rows),(18,.int x1.2)] [(0,⟨3,[[.int a1.rows,.int a1.cols,.list 1 (a1.cells.map eI)]]⟩),(1,⟨3,[[.int a2.rows,.int a2.cols,.list 1 (a2.cells.map eI)]]⟩),(2,⟨3,[[.int 0,.int 0,.nil 1]]⟩),(3,⟨3,[[.int v1.rows,.int v1.cols,.own 4 0 r.length]]⟩),(4,⟨1,r.map (ow eI)⟩)] 5 [5,6])) (aC (σ:=sg [(0,0),(1,1),(2,2),(3,3),(4,4)]) ⟨(e1 k k),(pE k k),(pE k k),(pE k k),(pE k k),(e1 k k),(e1 k k),(e1 k k),⟨_,k,⟨k,k⟩⟩,(e1 k k),(e1 k k),aJ⟩ (hP k k k k<|hP k k k k<|hP k k k k<|hX ⟨_,k,k,.inr ⟨_,_,k,⟨_,_,k,k,⟨_,_,k,k,⟨_,_,k,⟨k,k,k,k⟩,k⟩⟩⟩,k⟩⟩ k<|hI k k k<|aJ) k) ?_ ?_
   ·intro x2 o h
    refine sR<|cm k4<|an<|tn<|sQ ?_
    rcases cb h with ⟨q4,h⟩|⟨q4,h⟩
    ·refine aH k q4<|aQ<|tn<|sQ<|aI<|sR<|am k k ?_
     obtain ⟨v5,hv5,h⟩:=ob h
     refine ae (bF aB hv5 k k k k k k) k<|lr k7<|aa k k<|aT k2<|aW kI<|am k k<|lp k8<|am k k ?_
     obtain ⟨v6,hv6,h⟩:=ob h
     refine ae (AEff.pureE (gK (σ:=sg [(0,4)]) (σ':=sg [(4,0)]) (touch:=[4]) (news:=[]) (hl2:=[(4,⟨1,x2.1.map (ow eI)⟩)]) (n':=5) (r2:= .own 4 (0+(wr (x1.2*v1.cols)).toNat) ((wr ((wr (x1.2+1))*v1.cols)).toNat - (wr (x1.2*v1.cols)).toNat)) (eU (⟨v1.rows,v1.cols,x2.1⟩:Mt) x1.2 v6 hv6) k k ⟨_,_,k,⟨_,_,k,k,⟨_,_,k,k,⟨_,_,k,⟨k,k,k,k⟩,k⟩⟩⟩,⟨_,_,k,k,k⟩⟩ ⟨⟨_,k,k,.inl ⟨k,dR.plainO _⟩⟩,k,aJ⟩ k k k ⟨⟨_,k,k,.inl ⟨k,dR.plainO _⟩⟩,k,aJ⟩ k ⟨k,k,(by simp only [aZ,lA,lT,lR,lC,lN]),k⟩ k ⟨k,dR.tame _ _,aJ⟩ k k) ⟨k,k,aJ⟩) k<|am k k<|lp k8<|am k k ?_
     obtain ⟨v7,hv7,h⟩:=ob h
     refine ae (aHP (aMX a2 x2.2 v7 hv7) k k k) k ?_
     obtain ⟨v8,hv8,h⟩:=ob h
     refine ae (gK (σ:=sg [(0,4)]) (σ':=sg [(4,0)]) (touch:=[4]) (news:=[]) (hl2:=[(4,⟨1,v8.map (ow eI)⟩)]) (n':=5) (r2:= .own 4 (0+(wr (x1.2*v1.cols)).toNat) ((wr ((wr (x1.2+1))*v1.cols)).toNat - (wr (x1.2*v1.cols)).toNat)) (yC a0 x2.1 (0+(wr (x1.2*v1.cols)).toNat) ((wr ((wr (x1.2+1))*v1.cols)).toNat - (wr (x1.2*v1.cols)).toNat) v5 v7 v8 hv8) k k ⟨_,_,k,k,⟨_,_,k,⟨k,k,k,k⟩,⟨_,_,k,k,⟨_,_,k,⟨k,k⟩,k⟩⟩⟩⟩ ⟨⟨_,k,k,.inl ⟨k,dR.plainO _⟩⟩,k,aJ⟩ k k k ⟨⟨_,k,k,.inl ⟨k,dR.plainO _⟩⟩,k,aJ⟩ k ⟨k,k,(by simp only [aZ,lA,lT,lR,lC,lN]),k⟩ k ⟨k,dR.tame _ _,aJ⟩ k k) k ?_
     obtain ⟨q9,h⟩:=cg h
     refine an ?_
     refine ⟨by kernel_rfl,?_⟩
     refine bB<|tn<|aM (t:=bN [(0,.int a0),(4,.ptr 0 0 0),(5,.ptr 1 0 0),(6,.ptr 2 0 0),(7,.ptr 3 0 0),(8,.int x1.2),(17,.int a1.rows),(18,.int x1.2),(23,.list 1 (v3.map eI)),(24,.int (v3.length:Int)),(25,.int x2.2)] [(0,⟨3,[[.int a1.rows,.int a1.cols,.list 1 (a1.cells.map eI)]]⟩),(1,⟨3,[[.int a2.rows,.int a2.cols,.list 1 (a2.cells.map eI)]]⟩),(2,⟨3,[[.int 0,.int 0,.nil 1]]⟩),(3,⟨3,[[.int v1.rows,.int v1.cols,.own 4 0 v8.length]]⟩),(4,⟨1,v8.map (ow eI)⟩)] 5 [5,6]) (aC (σ:=sg [(0,0),(1,1),(2,2),(3,3),(4,4)]) ⟨(e1 k k),(pE k k),(pE k k),(pE k k),(pE k k),(e1 k k),(e1 k k),(e1 k k),⟨_,k,⟨k,k⟩⟩,(e1 k k),(e1 k k),aJ⟩ (hP k k k k<|hP k k k k<|hP k k k k<|hX ⟨_,k,k,.inr ⟨_,_,k,⟨_,_,k,k,⟨_,_,k,k,⟨_,_,k,⟨k,k,(by simp only [aZ,lA,lT,lR,lC,lN,of_decide_eq_true q9]),k⟩,k⟩⟩⟩,k⟩⟩ k<|hI k k k<|aJ) k)<|rg<|ae (bT k k) k<|am k k<|an<|tn ?_
     obtain rfl:=so h
     exact ⟨_,k,(aC (σ:=sg [(0,0),(1,1),(2,2),(3,3),(4,4)]) ⟨(e1 k k),(pE k k),(pE k k),(pE k k),(pE k k),(e1 k k),(e1 k k),(e1 k k),⟨_,k,⟨k,k⟩⟩,(e1 k k),(e1 k k),aJ⟩ (hP k k k k<|hP k k k k<|hP k k k k<|hX ⟨_,k,k,.inr ⟨_,_,k,⟨_,_,k,k,⟨_,_,k,k,⟨_,_,k,⟨k,k,k,k⟩,k⟩⟩⟩,k⟩⟩ k<|hI k k k<|aJ) k)⟩
    ·refine aN k q4<|bC<|aE<|aE ?_
     obtain rfl:=so h
     exact ⟨_,k,k,(aC (σ:=sg [(0,0),(1,1),(2,2),(3,3),(4,4)]) ⟨(e1 k k),(pE k k),(pE k k),(pE k k),(pE k k),(e1 k k),(e1 k k),aJ⟩ (hP k k k k<|hP k k k k<|hP k k k k<|hX ⟨_,k,k,.inr ⟨_,_,k,⟨_,_,k,k,⟨_,_,k,k,⟨_,_,k,⟨k,k,k,k⟩,k⟩⟩⟩,k⟩⟩ k<|hI k k k<|aJ) k)⟩
   ·rintro e t ⟨rfl,hent⟩
    refine aU<|bB<|tn<|aM hent<|rg<|ae (bT k k) k<|am k k<|an<|tn ?_
    obtain rfl:=so h
    exact ⟨_,k,(aC (σ:=sg [(0,0),(1,1),(2,2),(3,3),(4,4)]) ⟨(e1 k k),(pE k k),(pE k k),(pE k k),(pE k k),(e1 k k),(e1 k k),aJ⟩ (hP k k k k<|hP k k k k<|hP k k k k<|hX ⟨_,k,k,.inr ⟨_,_,k,⟨_,_,k,k,⟨_,_,k,k,⟨_,_,k,⟨k,k,k,k⟩,k⟩⟩⟩,k⟩⟩ k<|hI k k k<|aJ) k)⟩
  ·refine aN k q2<|bC<|aE<|aE ?_
   obtain rfl:=so h
   exact ⟨_,k,k,(aC (σ:=sg [(0,2),(1,3),(2,4)]) ⟨(pE k k),(pE k k),aJ⟩ (hP k k k k<|hX ⟨_,k,k,.inr ⟨_,_,k,⟨_,_,k,k,⟨_,_,k,k,⟨_,_,k,⟨k,k,k,k⟩,k⟩⟩⟩,k⟩⟩ k<|hI k k k<|aJ) k)⟩
 ·rintro e t ⟨rfl,hent⟩
  refine aU<|tn<|aM hent<|sR<|lp k8<|ae (bK aB k k k k k k k k) k<|an<|tn<|aL ?_
  obtain rfl:=so h
  exact aS k k k (qV (cF (k) (cF (k) (cF (iZ dR k k) iD))))
def lZ (v1:Mt) (x1:(Int×(List Int)×(List Int))) (x2:Int):Option (Int ⊕ Int):=
 bif decide (x2<v1.rows) then
 (Option.bind (dQ (⟨v1.rows,v1.cols,x1.2.1⟩:Mt) x2) fun v4=>
 bif (decide (0≤x1.1)&&decide (x1.1<((((wr ((wr (x2+1))*v1.cols)).toNat - (wr (x2*v1.cols)).toNat):Nat):Int))) then
 (Option.bind (x1.2.1[((0+(wr (x2*v1.cols)).toNat)+x1.1.toNat)]?) fun v5=>
 bif decide (v5=0) then
 (some (.inl (wr (x2+1))))
 else
 (some (.inr x2))
 )
 else none)
 else
 (some (.inr x2))
def qH (v1:Mt) (x1:(Int×(List Int)×(List Int))) (y8:Int) (x3:((List Int)×Int)):Option (((List Int)×Int) ⊕ (List Int)):=
 bif decide (x3.2<v1.cols) then
 (Option.bind (dQ (⟨v1.rows,v1.cols,x3.1⟩:Mt) y8) fun v12=>
 Option.bind (dQ (⟨v1.rows,v1.cols,x3.1⟩:Mt) y8) fun v13=>
 bif (decide (0≤x3.2)&&decide (x3.2<((((wr ((wr (y8+1))*v1.cols)).toNat - (wr (y8*v1.cols)).toNat):Nat):Int))) then
 (Option.bind (x3.1[((0+(wr (y8*v1.cols)).toNat)+x3.2.toNat)]?) fun v14=>
 bif (decide (0≤x3.2)&&decide (x3.2<((((wr ((wr (((x1.2.2.length:Nat):Int)+1))*v1.cols)).toNat - (wr (((x1.2.2.length:Nat):Int)*v1.cols)).toNat):Nat):Int))) then
 (Option.bind (x3.1[((0+(wr (((x1.2.2.length:Nat):Int)*v1.cols)).toNat)+x3.2.toNat)]?) fun v16=>
 bif (decide (0≤x3.2)&&decide (x3.2<((((wr ((wr (((x1.2.2.length:Nat):Int)+1))*v1.cols)).toNat - (wr (((x1.2.2.length:Nat):Int)*v1.cols)).toNat):Nat):Int))) then
 (Option.bind (x3.1[((0+(wr (((x1.2.2.length:Nat):Int)*v1.cols)).toNat)+x3.2.toNat)]?) fun v18=>
 bif (decide (0≤x3.2)&&decide (x3.2<((((wr ((wr (y8+1))*v1.cols)).toNat - (wr (y8*v1.cols)).toNat):Nat):Int))) then
 (Option.bind ((x3.1.set ((0+(wr (((x1.2.2.length:Nat):Int)*v1.cols)).toNat)+x3.2.toNat) v14)[((0+(wr (y8*v1.cols)).toNat)+x3.2.toNat)]?) fun v20=>
 some (.inl (((x3.1.set ((0+(wr (((x1.2.2.length:Nat):Int)*v1.cols)).toNat)+x3.2.toNat) v14).set ((0+(wr (y8*v1.cols)).toNat)+x3.2.toNat) v16),wr (x3.2+1)))
 )
 else none
 )
 else none
 )
 else none
 )
 else none)
 else
 (some (.inr x3.1))
def qI (a0:Int) (v1:Mt) (v25:Int) (x1:(Int×(List Int)×(List Int))) (x4:((List Int)×Int)):Option (((List Int)×Int) ⊕ (List Int)):=
 bif decide (x4.2<((((wr ((wr (((x1.2.2.length:Nat):Int)+1))*v1.cols)).toNat - (wr (((x1.2.2.length:Nat):Int)*v1.cols)).toNat):Nat):Int)) then
 (bif (decide (0≤x4.2)&&decide (x4.2<((((wr ((wr (((x1.2.2.length:Nat):Int)+1))*v1.cols)).toNat - (wr (((x1.2.2.length:Nat):Int)*v1.cols)).toNat):Nat):Int))) then
 (Option.bind (x4.1[((0+(wr (((x1.2.2.length:Nat):Int)*v1.cols)).toNat)+x4.2.toNat)]?) fun v27=>
 bif !decide (a0=0) then
 (bif (decide (0≤x4.2)&&decide (x4.2<((((wr ((wr (((x1.2.2.length:Nat):Int)+1))*v1.cols)).toNat - (wr (((x1.2.2.length:Nat):Int)*v1.cols)).toNat):Nat):Int))) then
 (Option.bind (x4.1[((0+(wr (((x1.2.2.length:Nat):Int)*v1.cols)).toNat)+x4.2.toNat)]?) fun v29=>
 some (.inl ((x4.1.set ((0+(wr (((x1.2.2.length:Nat):Int)*v1.cols)).toNat)+x4.2.toNat) ((wr (v27*v25)).tmod a0)),wr (x4.2+1)))
 )
 else none)
 else none
 )
 else none)
 else
 (some (.inr x4.1))
def qJ (a0:Int) (v1:Mt) (x1:(Int×(List Int)×(List Int))) (x5:((List Int)×Int)):Option (((List Int)×Int) ⊕ (List Int)):=
 bif decide (x5.2<v1.rows) then
 (bif !decide (x5.2=((x1.2.2.length:Nat):Int)) then
 (Option.bind (dQ (⟨v1.rows,v1.cols,x5.1⟩:Mt) x5.2) fun v35=>
 Option.bind (dQ (⟨v1.rows,v1.cols,x5.1⟩:Mt) x5.2) fun v36=>
 bif (decide (0≤x1.1)&&decide (x1.1<((((wr ((wr (x5.2+1))*v1.cols)).toNat - (wr (x5.2*v1.cols)).toNat):Nat):Int))) then
 (Option.bind (x5.1[((0+(wr (x5.2*v1.cols)).toNat)+x1.1.toNat)]?) fun v37=>
 Option.bind (iN a0 x5.1 (0+(wr (x5.2*v1.cols)).toNat) ((wr ((wr (x5.2+1))*v1.cols)).toNat - (wr (x5.2*v1.cols)).toNat) (wr (a0 - v37)) (0+(wr (((x1.2.2.length:Nat):Int)*v1.cols)).toNat) ((wr ((wr (((x1.2.2.length:Nat):Int)+1))*v1.cols)).toNat - (wr (((x1.2.2.length:Nat):Int)*v1.cols)).toNat)) fun v39=>
 bif decide (v39.length=x5.1.length) then
 (some (.inl (v39,wr (x5.2+1))))
 else none
 )
 else none)
 else
 (some (.inl (x5.1,wr (x5.2+1)))))
 else
 (some (.inr x5.1))
def mA (a0:Int) (v1:Mt) (x1:(Int×(List Int)×(List Int))):Option ((Int×(List Int)×(List Int)) ⊕ ((List Int)×(List Int))):=
 bif decide (x1.1<v1.cols) then
 (Option.bind (Lp (lZ v1 x1) ((x1.2.2.length:Nat):Int)) fun y8=>
 bif decide (y8=v1.rows) then
 (some (.inl (wr (x1.1+1),x1.2.1,x1.2.2)))
 else
 (Option.bind (dQ (⟨v1.rows,v1.cols,x1.2.1⟩:Mt) ((x1.2.2.length:Nat):Int)) fun v10=>
 Option.bind (Lp (qH v1 x1 y8) (x1.2.1,0)) fun y22=>
 bif (decide (0≤x1.1)&&decide (x1.1<((((wr ((wr (((x1.2.2.length:Nat):Int)+1))*v1.cols)).toNat - (wr (((x1.2.2.length:Nat):Int)*v1.cols)).toNat):Nat):Int))) then
 (Option.bind (y22[((0+(wr (((x1.2.2.length:Nat):Int)*v1.cols)).toNat)+x1.1.toNat)]?) fun v23=>
 Option.bind (oV a0 v23) fun v25=>
 Option.bind (Lp (qI a0 v1 v25 x1) (y22,0)) fun y32=>
 Option.bind (Lp (qJ a0 v1 x1) (y32,0)) fun y41=>
 bif decide (x1.2.2.length+[x1.1].length ≤4294967296) then
 (some (.inl (wr (x1.1+1),y41,(x1.2.2++[x1.1]))))
 else none
 )
 else none))
 else
 (some (.inr (x1.2.1,x1.2.2)))
def vW (a0:Int) (a1:Mt):Option (Mt×(List Int)):=
 Option.bind (qW a1) fun v1=>
 Option.bind (Lp (mA a0 v1) (0,v1.cells,[])) fun y43=>
 some (((⟨v1.rows,v1.cols,y43.1⟩:Mt),y43.2))
theorem aIR (a0:Int) (a1:Mt) (r:(Mt×(List Int))) (h:vW a0 a1=some r):HasC Tryz.prog 222 [.int a0,.agg (eM a1)] (.tuple [.agg (eM r.1),.list 1 (r.2.map eI)]):=by
 refine bJ aB (rvs:=[.cell 4 113,.tmp 5]) (ns:=[0,1,2,3,4,5,6,7]) Tryz.func222 k k Tryz.ntmps222 k k k<|sR<|ae (cE k k k k) k<|ae (bV aB k k) k<|aT k2<|sR ?_
 refine lp k8 ?_
 obtain ⟨v1,hv1,h⟩:=ob h
 refine ae (AEff.conv (dF (x:= .agg [.int v1.rows,.int v1.cols,.own 2 0 (v1.cells.map eI).length]) (nb:=[(2,⟨1,cM (v1.cells.map eI)⟩)]) (aCG a1 v1 hv1) k (by rfl) k k (bU aJ (bU aJ (bU (dR.good _) gS))) (aD (cD (aR (aV k) (aR (aV k) (aR (aV k) cO)))) bD)) (v':= .agg [.int v1.rows,.int v1.cols,.own 2 0 v1.cells.length]) (ed':=[(2,some ⟨1,v1.cells.map (ow eI)⟩)]) (by simp only [aZ]) (fB (nb':=[(2,⟨1,v1.cells.map (ow eI)⟩)]) (by simp only [cW]))) k<|ae (bK aB k k k k k k k k) k<|an<|tn<|sR<|aT k2<|sQ ?_
 refine sR<|fp k8<|lp k8<|am k k<|an<|tn<|aI ?_
 obtain ⟨y43,hy43,h⟩:=ob h
 refine cV (body:=(mA a0 v1)) hy43 (fun (x1:(Int×(List Int)×(List Int)))=>bN [(0,.int a0),(3,.ptr 0 0 0),(4,.ptr 2 0 0),(6,.own 3 0 x1.2.2.length),(17,.int v1.cols),(18,.int x1.1)] [(0,⟨3,[[.int v1.rows,.int v1.cols,.own 1 0 x1.2.1.length]]⟩),(1,⟨1,x1.2.1.map (ow eI)⟩),(2,⟨3,[[.int 0,.int 0,.nil 1]]⟩),(3,⟨1,x1.2.2.map (ow eI)⟩)] 4 [4,5,6,7]) (fun r e t=>e= .exit 0∧Ent t (bN [(3,.ptr 0 0 0),(4,.ptr 2 0 0),(6,.own 3 0 r.2.length)] [(0,⟨3,[[.int v1.rows,.int v1.cols,.own 1 0 r.1.length]]⟩),(1,⟨1,r.1.map (ow eI)⟩),(2,⟨3,[[.int 0,.int 0,.nil 1]]⟩),(3,⟨1,r.2.map (ow eI)⟩)] 4 [4,5,6,7])) (aC (σ:=sg [(0,0),(1,2),(2,1)]) ⟨(e1 k k),(pE k k),(pE k k),⟨_,k,⟨k,k,k,k⟩⟩,(e1 k k),(e1 k k),aJ⟩ (hX ⟨_,k,k,.inr ⟨_,_,k,⟨_,_,k,k,⟨_,_,k,k,⟨_,_,k,⟨k,k,k,k⟩,k⟩⟩⟩,k⟩⟩ k<|hI k k k<|hP k k k k<|hX k k<|aJ) k) ?_ ?_
 ·intro x1 o h
  refine sR<|cm k4<|an<|tn<|sQ ?_
  rcases cb h with ⟨q2,h⟩|⟨q2,h⟩
  ·refine aH k q2<|aQ<|tn<|sQ<|aI<|sR<|am k k<|aa k k<|an ?_
   refine tn<|sR<|am k k<|ae (bP aB k k k k) k<|aT k2<|sQ<|aI ?_
   obtain ⟨y8,hy8,h⟩:=ob h
   refine cV (body:=(lZ v1 x1)) hy8 (fun (x2:Int)=>bN [(0,.int a0),(3,.ptr 0 0 0),(4,.ptr 2 0 0),(6,.own 3 0 x1.2.2.length),(7,.int x1.1),(8,.int x2),(17,.int v1.cols),(18,.int x1.1)] [(0,⟨3,[[.int v1.rows,.int v1.cols,.own 1 0 x1.2.1.length]]⟩),(1,⟨1,x1.2.1.map (ow eI)⟩),(2,⟨3,[[.int 0,.int 0,.nil 1]]⟩),(3,⟨1,x1.2.2.map (ow eI)⟩)] 4 [4,5,6,7]) (fun r e t=>e= .exit 2∧Ent t (bN [(0,.int a0),(3,.ptr 0 0 0),(4,.ptr 2 0 0),(6,.own 3 0 x1.2.2.length),(7,.int x1.1),(8,.int r),(17,.int v1.cols),(18,.int x1.1)] [(0,⟨3,[[.int v1.rows,.int v1.cols,.own 1 0 x1.2.1.length]]⟩),(1,⟨1,x1.2.1.map (ow eI)⟩),(2,⟨3,[[.int 0,.int 0,.nil 1]]⟩),(3,⟨1,x1.2.2.map (ow eI)⟩)] 4 [4,5,6,7])) (aC (σ:=sg [(0,0),(1,1),(2,2),(3,3)]) ⟨(e1 k k),(pE k k),(pE k k),(oE k k),(e1 k k),(e1 k k),(e1 k k),(e1 k k),aJ⟩ (hX ⟨_,k,k,.inr ⟨_,_,k,⟨_,_,k,k,⟨_,_,k,k,⟨_,_,k,⟨k,k,k,k⟩,k⟩⟩⟩,k⟩⟩ k<|hI k k k<|hP k k k k<|hI k k k<|aJ) k) ?_ ?_
   ·intro x2 o h
    refine sQ<|sR<|am k k<|fp k8<|lp k8<|cm k4<|am k k ?_
    rcases cb h with ⟨q3,h⟩|⟨q3,h⟩
    ·refine aX 27 k q3<|lp k8<|am k k ?_
     obtain ⟨v4,hv4,h⟩:=ob h
     refine ae (AEff.pureE (gK (σ:=sg [(0,1)]) (σ':=sg [(1,0)]) (touch:=[1]) (news:=[]) (hl2:=[(1,⟨1,x1.2.1.map (ow eI)⟩)]) (n':=4) (r2:= .own 1 (0+(wr (x2*v1.cols)).toNat) ((wr ((wr (x2+1))*v1.cols)).toNat - (wr (x2*v1.cols)).toNat)) (eU (⟨v1.rows,v1.cols,x1.2.1⟩:Mt) x2 v4 hv4) k k ⟨_,_,k,⟨_,_,k,k,⟨_,_,k,k,⟨_,_,k,⟨k,k,k,k⟩,k⟩⟩⟩,⟨_,_,k,k,k⟩⟩ ⟨⟨_,k,k,.inl ⟨k,dR.plainO _⟩⟩,k,aJ⟩ k k k ⟨⟨_,k,k,.inl ⟨k,dR.plainO _⟩⟩,k,aJ⟩ k ⟨k,k,(by simp only [aZ,lA,lT,lR,lC,lN]),k⟩ k ⟨k,dR.tame _ _,aJ⟩ k k) ⟨k,k,aJ⟩) k<|am k k ?_
     obtain ⟨q6,h⟩:=cg h
     obtain ⟨v5,hv5,h⟩:=ob h
     refine ae (gN aB q6 k k k k k k k) k<|ae (bE aB k k k k (cP (hv5)) k k) k<|cm k4<|pk k3<|an<|tn<|aM (t:=bN [(0,.int a0),(3,.ptr 0 0 0),(4,.ptr 2 0 0),(6,.own 3 0 x1.2.2.length),(7,.int x1.1),(8,.int x2),(17,.int v1.cols),(18,.int x1.1),(35,.bl (decide (v5=0)))] [(0,⟨3,[[.int v1.rows,.int v1.cols,.own 1 0 x1.2.1.length]]⟩),(1,⟨1,x1.2.1.map (ow eI)⟩),(2,⟨3,[[.int 0,.int 0,.nil 1]]⟩),(3,⟨1,x1.2.2.map (ow eI)⟩)] 4 [4,5,6,7]) (aC (σ:=sg [(0,0),(1,1),(2,2),(3,3)]) ⟨(e1 k k),(pE k k),(pE k k),(oE k k),(e1 k k),(e1 k k),(e1 k k),(e1 k k),(e1 k k),aJ⟩ (hX ⟨_,k,k,.inr ⟨_,_,k,⟨_,_,k,k,⟨_,_,k,k,⟨_,_,k,⟨k,k,k,k⟩,k⟩⟩⟩,k⟩⟩ k<|hI k k k<|hP k k k k<|hI k k k<|aJ) k) ?_
     rcases cb h with ⟨q7,h⟩|⟨q7,h⟩
     ·refine aH k q7<|aQ<|tn<|aI<|rg<|am k k<|ae (bT k k) k<|aa k k<|an<|bB ?_
      refine tn ?_
      obtain rfl:=so h
      exact ⟨_,k,(aC (σ:=sg [(0,0),(1,1),(2,2),(3,3)]) ⟨(e1 k k),(pE k k),(pE k k),(oE k k),(e1 k k),(e1 k k),(e1 k k),(e1 k k),aJ⟩ (hX ⟨_,k,k,.inr ⟨_,_,k,⟨_,_,k,k,⟨_,_,k,k,⟨_,_,k,⟨k,k,k,k⟩,k⟩⟩⟩,k⟩⟩ k<|hI k k k<|hP k k k k<|hI k k k<|aJ) k)⟩
     ·refine aN k q7<|bC<|aE<|aE ?_
      obtain rfl:=so h
      exact ⟨_,k,k,(aC (σ:=sg [(0,0),(1,1),(2,2),(3,3)]) ⟨(e1 k k),(pE k k),(pE k k),(oE k k),(e1 k k),(e1 k k),(e1 k k),(e1 k k),aJ⟩ (hX ⟨_,k,k,.inr ⟨_,_,k,⟨_,_,k,k,⟨_,_,k,k,⟨_,_,k,⟨k,k,k,k⟩,k⟩⟩⟩,k⟩⟩ k<|hI k k k<|hP k k k k<|hI k k k<|aJ) k)⟩
    ·refine aX 27 k q3<|aK k4<|aK k4<|aK k4<|ak k k<|pk k3<|an ?_
     refine tn<|aM (t:=bN [(0,.int a0),(3,.ptr 0 0 0),(4,.ptr 2 0 0),(6,.own 3 0 x1.2.2.length),(7,.int x1.1),(8,.int x2),(17,.int v1.cols),(18,.int x1.1),(35,.bl false)] [(0,⟨3,[[.int v1.rows,.int v1.cols,.own 1 0 x1.2.1.length]]⟩),(1,⟨1,x1.2.1.map (ow eI)⟩),(2,⟨3,[[.int 0,.int 0,.nil 1]]⟩),(3,⟨1,x1.2.2.map (ow eI)⟩)] 4 [4,5,6,7]) (aC (σ:=sg [(0,0),(1,1),(2,2),(3,3)]) ⟨(e1 k k),(pE k k),(pE k k),(oE k k),(e1 k k),(e1 k k),(e1 k k),(e1 k k),(e1 k k),aJ⟩ (hX ⟨_,k,k,.inr ⟨_,_,k,⟨_,_,k,k,⟨_,_,k,k,⟨_,_,k,⟨k,k,k,k⟩,k⟩⟩⟩,k⟩⟩ k<|hI k k k<|hP k k k k<|hI k k k<|aJ) k)<|aN k k<|bC<|aE<|aE ?_
     obtain rfl:=so h
     exact ⟨_,k,k,(aC (σ:=sg [(0,0),(1,1),(2,2),(3,3)]) ⟨(e1 k k),(pE k k),(pE k k),(oE k k),(e1 k k),(e1 k k),(e1 k k),(e1 k k),aJ⟩ (hX ⟨_,k,k,.inr ⟨_,_,k,⟨_,_,k,k,⟨_,_,k,k,⟨_,_,k,⟨k,k,k,k⟩,k⟩⟩⟩,k⟩⟩ k<|hI k k k<|hP k k k k<|hI k k k<|aJ) k)⟩
   ·rintro e t ⟨rfl,hent⟩
    refine aU<|tn<|aM hent<|sQ<|sR<|am k k<|fp k8<|lp k8<|cm k4 ?_
    refine an<|tn ?_
    rcases cb h with ⟨q9,h⟩|⟨q9,h⟩
    ·refine aH k q9<|bC<|aE<|aU<|tn<|rg<|ae (bT k k) k<|am k k<|an<|tn ?_
     obtain rfl:=so h
     exact ⟨_,k,(aC (σ:=sg [(0,0),(1,1),(2,2),(3,3)]) ⟨(e1 k k),(pE k k),(pE k k),(oE k k),(e1 k k),(e1 k k),aJ⟩ (hX ⟨_,k,k,.inr ⟨_,_,k,⟨_,_,k,k,⟨_,_,k,k,⟨_,_,k,⟨k,k,k,k⟩,k⟩⟩⟩,k⟩⟩ k<|hI k k k<|hP k k k k<|hI k k k<|aJ) k)⟩
    ·refine aN k q9<|aQ<|tn<|sR<|lp k8<|am k k<|ae (bP aB k k k k) k ?_
     obtain ⟨v10,hv10,h⟩:=ob h
     refine ae (AEff.pureE (gK (σ:=sg [(0,1)]) (σ':=sg [(1,0)]) (touch:=[1]) (news:=[]) (hl2:=[(1,⟨1,x1.2.1.map (ow eI)⟩)]) (n':=4) (r2:= .own 1 (0+(wr (((x1.2.2.length:Nat):Int)*v1.cols)).toNat) ((wr ((wr (((x1.2.2.length:Nat):Int)+1))*v1.cols)).toNat - (wr (((x1.2.2.length:Nat):Int)*v1.cols)).toNat)) (eU (⟨v1.rows,v1.cols,x1.2.1⟩:Mt) ((x1.2.2.length:Nat):Int) v10 hv10) k k ⟨_,_,k,⟨_,_,k,k,⟨_,_,k,k,⟨_,_,k,⟨k,k,k,k⟩,k⟩⟩⟩,⟨_,_,k,k,k⟩⟩ ⟨⟨_,k,k,.inl ⟨k,dR.plainO _⟩⟩,k,aJ⟩ k k k ⟨⟨_,k,k,.inl ⟨k,dR.plainO _⟩⟩,k,aJ⟩ k ⟨k,k,(by simp only [aZ,lA,lT,lR,lC,lN]),k⟩ k ⟨k,dR.tame _ _,aJ⟩ k k) ⟨k,k,aJ⟩) k<|aT k2<|sQ<|sR<|fp k8<|lp k8<|am k k ?_
     refine an<|tn<|aM (t:=bN [(0,.int a0),(3,.ptr 0 0 0),(4,.ptr 2 0 0),(6,.own 3 0 x1.2.2.length),(7,.int x1.1),(8,.int y8),(9,.own 1 (0+(wr (((x1.2.2.length:Nat):Int)*v1.cols)).toNat) ((wr ((wr (((x1.2.2.length:Nat):Int)+1))*v1.cols)).toNat - (wr (((x1.2.2.length:Nat):Int)*v1.cols)).toNat)),(17,.int v1.cols),(18,.int x1.1),(47,.int v1.cols),(48,.int 0)] [(0,⟨3,[[.int v1.rows,.int v1.cols,.own 1 0 x1.2.1.length]]⟩),(1,⟨1,x1.2.1.map (ow eI)⟩),(2,⟨3,[[.int 0,.int 0,.nil 1]]⟩),(3,⟨1,x1.2.2.map (ow eI)⟩)] 4 [4,5,6,7]) (aC (σ:=sg [(0,0),(1,1),(2,2),(3,3)]) ⟨(e1 k k),(pE k k),(pE k k),(oE k k),(e1 k k),(e1 k k),(oE k k),(e1 k k),(e1 k k),(e1 k k),(e1 k k),aJ⟩ (hX ⟨_,k,k,.inr ⟨_,_,k,⟨_,_,k,k,⟨_,_,k,k,⟨_,_,k,⟨k,k,k,k⟩,k⟩⟩⟩,k⟩⟩ k<|hI k k k<|hP k k k k<|hI k k k<|aJ) k)<|aI ?_
     obtain ⟨y22,hy22,h⟩:=ob h
     refine cV (body:=(qH v1 x1 y8)) hy22 (fun (x3:((List Int)×Int))=>bN [(0,.int a0),(3,.ptr 0 0 0),(4,.ptr 2 0 0),(6,.own 3 0 x1.2.2.length),(7,.int x1.1),(8,.int y8),(9,.own 1 (0+(wr (((x1.2.2.length:Nat):Int)*v1.cols)).toNat) ((wr ((wr (((x1.2.2.length:Nat):Int)+1))*v1.cols)).toNat - (wr (((x1.2.2.length:Nat):Int)*v1.cols)).toNat)),(17,.int v1.cols),(18,.int x1.1),(47,.int v1.cols),(48,.int x3.2)] [(0,⟨3,[[.int v1.rows,.int v1.cols,.own 1 0 x3.1.length]]⟩),(1,⟨1,x3.1.map (ow eI)⟩),(2,⟨3,[[.int 0,.int 0,.nil 1]]⟩),(3,⟨1,x1.2.2.map (ow eI)⟩)] 4 [4,5,6,7]) (fun r e t=>e= .exit 4∧Ent t (bN [(0,.int a0),(3,.ptr 0 0 0),(4,.ptr 2 0 0),(6,.own 3 0 x1.2.2.length),(7,.int x1.1),(9,.own 1 (0+(wr (((x1.2.2.length:Nat):Int)*v1.cols)).toNat) ((wr ((wr (((x1.2.2.length:Nat):Int)+1))*v1.cols)).toNat - (wr (((x1.2.2.length:Nat):Int)*v1.cols)).toNat)),(17,.int v1.cols),(18,.int x1.1)] [(0,⟨3,[[.int v1.rows,.int v1.cols,.own 1 0 r.length]]⟩),(1,⟨1,r.map (ow eI)⟩),(2,⟨3,[[.int 0,.int 0,.nil 1]]⟩),(3,⟨1,x1.2.2.map (ow eI)⟩)] 4 [4,5,6,7])) (aC (σ:=sg [(0,0),(1,1),(2,2),(3,3)]) ⟨(e1 k k),(pE k k),(pE k k),(oE k k),(e1 k k),(e1 k k),(oE k k),(e1 k k),(e1 k k),(e1 k k),(e1 k k),aJ⟩ (hX ⟨_,k,k,.inr ⟨_,_,k,⟨_,_,k,k,⟨_,_,k,k,⟨_,_,k,⟨k,k,k,k⟩,k⟩⟩⟩,k⟩⟩ k<|hI k k k<|hP k k k k<|hI k k k<|aJ) k) ?_ ?_
     ·intro x3 o h
      refine sR<|cm k4<|an<|tn<|sQ ?_
      rcases cb h with ⟨q11,h⟩|⟨q11,h⟩
      ·refine aH k q11<|aQ<|tn<|sQ<|aI<|sR<|am k k<|aa k k<|an ?_
       refine tn<|aW kI<|am k k<|am k k<|lp k8<|am k k ?_
       obtain ⟨v12,hv12,h⟩:=ob h
       refine ae (AEff.pureE (gK (σ:=sg [(0,1)]) (σ':=sg [(1,0)]) (touch:=[1]) (news:=[]) (hl2:=[(1,⟨1,x3.1.map (ow eI)⟩)]) (n':=4) (r2:= .own 1 (0+(wr (y8*v1.cols)).toNat) ((wr ((wr (y8+1))*v1.cols)).toNat - (wr (y8*v1.cols)).toNat)) (eU (⟨v1.rows,v1.cols,x3.1⟩:Mt) y8 v12 hv12) k k ⟨_,_,k,⟨_,_,k,k,⟨_,_,k,k,⟨_,_,k,⟨k,k,k,k⟩,k⟩⟩⟩,⟨_,_,k,k,k⟩⟩ ⟨⟨_,k,k,.inl ⟨k,dR.plainO _⟩⟩,k,aJ⟩ k k k ⟨⟨_,k,k,.inl ⟨k,dR.plainO _⟩⟩,k,aJ⟩ k ⟨k,k,(by simp only [aZ,lA,lT,lR,lC,lN]),k⟩ k ⟨k,dR.tame _ _,aJ⟩ k k) ⟨k,k,aJ⟩) k<|am k k<|lp k8<|am k k ?_
       obtain ⟨v13,hv13,h⟩:=ob h
       refine ae (AEff.pureE (gK (σ:=sg [(0,1)]) (σ':=sg [(1,0)]) (touch:=[1]) (news:=[]) (hl2:=[(1,⟨1,x3.1.map (ow eI)⟩)]) (n':=4) (r2:= .own 1 (0+(wr (y8*v1.cols)).toNat) ((wr ((wr (y8+1))*v1.cols)).toNat - (wr (y8*v1.cols)).toNat)) (eU (⟨v1.rows,v1.cols,x3.1⟩:Mt) y8 v13 hv13) k k ⟨_,_,k,⟨_,_,k,k,⟨_,_,k,k,⟨_,_,k,⟨k,k,k,k⟩,k⟩⟩⟩,⟨_,_,k,k,k⟩⟩ ⟨⟨_,k,k,.inl ⟨k,dR.plainO _⟩⟩,k,aJ⟩ k k k ⟨⟨_,k,k,.inl ⟨k,dR.plainO _⟩⟩,k,aJ⟩ k ⟨k,k,(by simp only [aZ,lA,lT,lR,lC,lN]),k⟩ k ⟨k,dR.tame _ _,aJ⟩ k k) ⟨k,k,aJ⟩) k<|am k k ?_
       obtain ⟨q15,h⟩:=cg h
       obtain ⟨v14,hv14,h⟩:=ob h
       refine ae (gN aB q15 k k k k k k k) k<|ae (bE aB k k k k (cP (hv14)) k k) k<|am k k<|am k k ?_
       obtain ⟨q17,h⟩:=cg h
       obtain ⟨v16,hv16,h⟩:=ob h
       refine ae (gN aB q17 k k k k k k k) k<|ae (bE aB k k k k (cP (hv16)) k k) k ?_
       obtain ⟨q19,h⟩:=cg h
       obtain ⟨v18,hv18,h⟩:=ob h
       refine ae (gN aB q19 k k k k k k k) k<|ae (hJ aB tS (u:=v14) (hv18) k k k k k k) k ?_
       obtain ⟨q21,h⟩:=cg h
       obtain ⟨v20,hv20,h⟩:=ob h
       refine ae (gN aB q21 k k k k k k k) k<|ae (hJ aB tS (u:=v16) (hv20) k k k k k k) k<|an ?_
       refine ⟨by kernel_rfl,?_⟩
       refine bB<|tn<|aM (t:=bN [(0,.int a0),(3,.ptr 0 0 0),(4,.ptr 2 0 0),(6,.own 3 0 x1.2.2.length),(7,.int x1.1),(8,.int y8),(9,.own 1 (0+(wr (((x1.2.2.length:Nat):Int)*v1.cols)).toNat) ((wr ((wr (((x1.2.2.length:Nat):Int)+1))*v1.cols)).toNat - (wr (((x1.2.2.length:Nat):Int)*v1.cols)).toNat)),(17,.int v1.cols),(18,.int x1.1),(47,.int v1.cols),(48,.int x3.2)] [(0,⟨3,[[.int v1.rows,.int v1.cols,.own 1 0 (((x3.1.set ((0+(wr (((x1.2.2.length:Nat):Int)*v1.cols)).toNat)+x3.2.toNat) v14).set ((0+(wr (y8*v1.cols)).toNat)+x3.2.toNat) v16).length)]]⟩),(1,⟨1,List.map (ow eI) ((x3.1.set ((0+(wr (((x1.2.2.length:Nat):Int)*v1.cols)).toNat)+x3.2.toNat) v14).set ((0+(wr (y8*v1.cols)).toNat)+x3.2.toNat) v16)⟩),(2,⟨3,[[.int 0,.int 0,.nil 1]]⟩),(3,⟨1,x1.2.2.map (ow eI)⟩)] 4 [4,5,6,7]) (aC (σ:=sg [(0,0),(1,1),(2,2),(3,3)]) ⟨(e1 k k),(pE k k),(pE k k),(oE k k),(e1 k k),(e1 k k),(oE k k),(e1 k k),(e1 k k),(e1 k k),(e1 k k),aJ⟩ (hX ⟨_,k,k,.inr ⟨_,_,k,⟨_,_,k,k,⟨_,_,k,k,⟨_,_,k,⟨k,k,(by simp only [aZ,lA,lT,lR,lC,lN]),k⟩,k⟩⟩⟩,k⟩⟩ k<|hI k k k<|hP k k k k<|hI k k k<|aJ) k)<|rg<|ae (bT k k) k<|am k k<|an<|tn ?_
       obtain rfl:=so h
       exact ⟨_,k,(aC (σ:=sg [(0,0),(1,1),(2,2),(3,3)]) ⟨(e1 k k),(pE k k),(pE k k),(oE k k),(e1 k k),(e1 k k),(oE k k),(e1 k k),(e1 k k),(e1 k k),(e1 k k),aJ⟩ (hX ⟨_,k,k,.inr ⟨_,_,k,⟨_,_,k,k,⟨_,_,k,k,⟨_,_,k,⟨k,k,k,k⟩,k⟩⟩⟩,k⟩⟩ k<|hI k k k<|hP k k k k<|hI k k k<|aJ) k)⟩
      ·refine aN k q11<|bC<|aE<|aE ?_
       obtain rfl:=so h
       exact ⟨_,k,k,(aC (σ:=sg [(0,0),(1,1),(2,2),(3,3)]) ⟨(e1 k k),(pE k k),(pE k k),(oE k k),(e1 k k),(oE k k),(e1 k k),(e1 k k),aJ⟩ (hX ⟨_,k,k,.inr ⟨_,_,k,⟨_,_,k,k,⟨_,_,k,k,⟨_,_,k,⟨k,k,k,k⟩,k⟩⟩⟩,k⟩⟩ k<|hI k k k<|hP k k k k<|hI k k k<|aJ) k)⟩
     ·rintro e t ⟨rfl,hent⟩
      refine aU<|tn<|aM hent<|sR<|am k k<|am k k<|am k k ?_
      obtain ⟨q24,h⟩:=cg h
      obtain ⟨v23,hv23,h⟩:=ob h
      refine ae (gN aB q24 k k k k k k k) k<|ae (bE aB k k k k (cP (hv23)) k k) k ?_
      obtain ⟨v25,hv25,h⟩:=ob h
      refine ae (bA (aDp a0 v23 v25 hv25) k (aD (aO k) (aD (aO k) bD))) k<|aT k2<|sQ<|sR<|am k k<|ae (bP aB k k k k) k<|am k k ?_
      refine an<|tn<|aI ?_
      obtain ⟨y32,hy32,h⟩:=ob h
      refine cV (body:=(qI a0 v1 v25 x1)) hy32 (fun (x4:((List Int)×Int))=>bN [(0,.int a0),(3,.ptr 0 0 0),(4,.ptr 2 0 0),(6,.own 3 0 x1.2.2.length),(7,.int x1.1),(9,.own 1 (0+(wr (((x1.2.2.length:Nat):Int)*v1.cols)).toNat) ((wr ((wr (((x1.2.2.length:Nat):Int)+1))*v1.cols)).toNat - (wr (((x1.2.2.length:Nat):Int)*v1.cols)).toNat)),(11,.int v25),(17,.int v1.cols),(18,.int x1.1),(77,.int ((((wr ((wr (((x1.2.2.length:Nat):Int)+1))*v1.cols)).toNat - (wr (((x1.2.2.length:Nat):Int)*v1.cols)).toNat):Nat):Int)),(78,.int x4.2)] [(0,⟨3,[[.int v1.rows,.int v1.cols,.own 1 0 x4.1.length]]⟩),(1,⟨1,x4.1.map (ow eI)⟩),(2,⟨3,[[.int 0,.int 0,.nil 1]]⟩),(3,⟨1,x1.2.2.map (ow eI)⟩)] 4 [4,5,6,7]) (fun r e t=>e= .exit 6∧Ent t (bN [(0,.int a0),(3,.ptr 0 0 0),(4,.ptr 2 0 0),(6,.own 3 0 x1.2.2.length),(7,.int x1.1),(9,.own 1 (0+(wr (((x1.2.2.length:Nat):Int)*v1.cols)).toNat) ((wr ((wr (((x1.2.2.length:Nat):Int)+1))*v1.cols)).toNat - (wr (((x1.2.2.length:Nat):Int)*v1.cols)).toNat)),(17,.int v1.cols),(18,.int x1.1)] [(0,⟨3,[[.int v1.rows,.int v1.cols,.own 1 0 r.length]]⟩),(1,⟨1,r.map (ow eI)⟩),(2,⟨3,[[.int 0,.int 0,.nil 1]]⟩),(3,⟨1,x1.2.2.map (ow eI)⟩)] 4 [4,5,6,7])) (aC (σ:=sg [(0,0),(1,1),(2,2),(3,3)]) ⟨(e1 k k),(pE k k),(pE k k),(oE k k),(e1 k k),(oE k k),(e1 k k),(e1 k k),(e1 k k),(e1 k k),(e1 k k),aJ⟩ (hX ⟨_,k,k,.inr ⟨_,_,k,⟨_,_,k,k,⟨_,_,k,k,⟨_,_,k,⟨k,k,k,k⟩,k⟩⟩⟩,k⟩⟩ k<|hI k k k<|hP k k k k<|hI k k k<|aJ) k) ?_ ?_
      ·intro x4 o h
       refine sR<|cm k4<|an<|tn<|sQ ?_
       rcases cb h with ⟨q26,h⟩|⟨q26,h⟩
       ·refine aH k q26<|aQ<|tn<|sQ<|aI<|sR<|am k k<|aa k k<|an ?_
        refine tn<|rg<|am k k<|am k k<|am k k<|am k k ?_
        obtain ⟨q28,h⟩:=cg h
        obtain ⟨v27,hv27,h⟩:=ob h
        refine ae (gN aB q28 k k k k k k k) k<|ae (bE aB k k k k (cP (hv27)) k k) k<|am k k<|ae (gJ k k) k<|am k k ?_
        obtain ⟨q31,h⟩:=cg h
        refine ae (aDb k k q31) k ?_
        obtain ⟨q30,h⟩:=cg h
        obtain ⟨v29,hv29,h⟩:=ob h
        refine ae (gN aB q30 k k k k k k k) k<|ae (hJ aB tS (u:=(wr (v27*v25)).tmod a0) (hv29) k k k k k k) k<|an<|bB<|tn<|aM (t:=bN [(0,.int a0),(3,.ptr 0 0 0),(4,.ptr 2 0 0),(6,.own 3 0 x1.2.2.length),(7,.int x1.1),(9,.own 1 (0+(wr (((x1.2.2.length:Nat):Int)*v1.cols)).toNat) ((wr ((wr (((x1.2.2.length:Nat):Int)+1))*v1.cols)).toNat - (wr (((x1.2.2.length:Nat):Int)*v1.cols)).toNat)),(11,.int v25),(17,.int v1.cols),(18,.int x1.1),(77,.int ((((wr ((wr (((x1.2.2.length:Nat):Int)+1))*v1.cols)).toNat - (wr (((x1.2.2.length:Nat):Int)*v1.cols)).toNat):Nat):Int)),(78,.int x4.2)] [(0,⟨3,[[.int v1.rows,.int v1.cols,.own 1 0 ((x4.1.set ((0+(wr (((x1.2.2.length:Nat):Int)*v1.cols)).toNat)+x4.2.toNat) ((wr (v27*v25)).tmod a0)).length)]]⟩),(1,⟨1,List.map (ow eI) (x4.1.set ((0+(wr (((x1.2.2.length:Nat):Int)*v1.cols)).toNat)+x4.2.toNat) ((wr (v27*v25)).tmod a0))⟩),(2,⟨3,[[.int 0,.int 0,.nil 1]]⟩),(3,⟨1,x1.2.2.map (ow eI)⟩)] 4 [4,5,6,7]) (aC (σ:=sg [(0,0),(1,1),(2,2),(3,3)]) ⟨(e1 k k),(pE k k),(pE k k),(oE k k),(e1 k k),(oE k k),(e1 k k),(e1 k k),(e1 k k),(e1 k k),(e1 k k),aJ⟩ (hX ⟨_,k,k,.inr ⟨_,_,k,⟨_,_,k,k,⟨_,_,k,k,⟨_,_,k,⟨k,k,(by simp only [aZ,lA,lT,lR,lC,lN]),k⟩,k⟩⟩⟩,k⟩⟩ k<|hI k k k<|hP k k k k<|hI k k k<|aJ) k)<|rg<|ae (bT k k) k<|am k k<|an ?_
        refine tn ?_
        obtain rfl:=so h
        exact ⟨_,k,(aC (σ:=sg [(0,0),(1,1),(2,2),(3,3)]) ⟨(e1 k k),(pE k k),(pE k k),(oE k k),(e1 k k),(oE k k),(e1 k k),(e1 k k),(e1 k k),(e1 k k),(e1 k k),aJ⟩ (hX ⟨_,k,k,.inr ⟨_,_,k,⟨_,_,k,k,⟨_,_,k,k,⟨_,_,k,⟨k,k,k,k⟩,k⟩⟩⟩,k⟩⟩ k<|hI k k k<|hP k k k k<|hI k k k<|aJ) k)⟩
       ·refine aN k q26<|bC<|aE<|aE ?_
        obtain rfl:=so h
        exact ⟨_,k,k,(aC (σ:=sg [(0,0),(1,1),(2,2),(3,3)]) ⟨(e1 k k),(pE k k),(pE k k),(oE k k),(e1 k k),(oE k k),(e1 k k),(e1 k k),aJ⟩ (hX ⟨_,k,k,.inr ⟨_,_,k,⟨_,_,k,k,⟨_,_,k,k,⟨_,_,k,⟨k,k,k,k⟩,k⟩⟩⟩,k⟩⟩ k<|hI k k k<|hP k k k k<|hI k k k<|aJ) k)⟩
      ·rintro e t ⟨rfl,hent⟩
       refine aU<|tn<|aM hent<|sQ<|sR<|fp k8<|lp k8<|am k k<|an ?_
       refine tn<|aI ?_
       obtain ⟨y41,hy41,h⟩:=ob h
       refine cV (body:=(qJ a0 v1 x1)) hy41 (fun (x5:((List Int)×Int))=>bN [(0,.int a0),(3,.ptr 0 0 0),(4,.ptr 2 0 0),(6,.own 3 0 x1.2.2.length),(7,.int x1.1),(9,.own 1 (0+(wr (((x1.2.2.length:Nat):Int)*v1.cols)).toNat) ((wr ((wr (((x1.2.2.length:Nat):Int)+1))*v1.cols)).toNat - (wr (((x1.2.2.length:Nat):Int)*v1.cols)).toNat)),(17,.int v1.cols),(18,.int x1.1),(94,.int v1.rows),(95,.int x5.2)] [(0,⟨3,[[.int v1.rows,.int v1.cols,.own 1 0 x5.1.length]]⟩),(1,⟨1,x5.1.map (ow eI)⟩),(2,⟨3,[[.int 0,.int 0,.nil 1]]⟩),(3,⟨1,x1.2.2.map (ow eI)⟩)] 4 [4,5,6,7]) (fun r e t=>e= .exit 8∧Ent t (bN [(0,.int a0),(3,.ptr 0 0 0),(4,.ptr 2 0 0),(6,.own 3 0 x1.2.2.length),(7,.int x1.1),(17,.int v1.cols),(18,.int x1.1)] [(0,⟨3,[[.int v1.rows,.int v1.cols,.own 1 0 r.length]]⟩),(1,⟨1,r.map (ow eI)⟩),(2,⟨3,[[.int 0,.int 0,.nil 1]]⟩),(3,⟨1,x1.2.2.map (ow eI)⟩)] 4 [4,5,6,7])) (aC (σ:=sg [(0,0),(1,1),(2,2),(3,3)]) ⟨(e1 k k),(pE k k),(pE k k),(oE k k),(e1 k k),(oE k k),(e1 k k),(e1 k k),(e1 k k),(e1 k k),aJ⟩ (hX ⟨_,k,k,.inr ⟨_,_,k,⟨_,_,k,k,⟨_,_,k,k,⟨_,_,k,⟨k,k,k,k⟩,k⟩⟩⟩,k⟩⟩ k<|hI k k k<|hP k k k k<|hI k k k<|aJ) k) ?_ ?_
       ·intro x5 o h
        refine sR<|cm k4<|an<|tn<|sQ ?_
        rcases cb h with ⟨q33,h⟩|⟨q33,h⟩
        ·refine aH k q33<|aQ<|tn<|sQ<|aI<|sR<|am k k<|aa k k<|an ?_
         refine tn<|sR<|am k k<|am k k<|ae (bP aB k k k k) k<|cm k4<|an<|tn ?_
         rcases cb h with ⟨q34,h⟩|⟨q34,h⟩
         ·refine aH k q34<|aW kI<|am k k<|lp k8<|am k k ?_
          obtain ⟨v35,hv35,h⟩:=ob h
          refine ae (AEff.pureE (gK (σ:=sg [(0,1)]) (σ':=sg [(1,0)]) (touch:=[1]) (news:=[]) (hl2:=[(1,⟨1,x5.1.map (ow eI)⟩)]) (n':=4) (r2:= .own 1 (0+(wr (x5.2*v1.cols)).toNat) ((wr ((wr (x5.2+1))*v1.cols)).toNat - (wr (x5.2*v1.cols)).toNat)) (eU (⟨v1.rows,v1.cols,x5.1⟩:Mt) x5.2 v35 hv35) k k ⟨_,_,k,⟨_,_,k,k,⟨_,_,k,k,⟨_,_,k,⟨k,k,k,k⟩,k⟩⟩⟩,⟨_,_,k,k,k⟩⟩ ⟨⟨_,k,k,.inl ⟨k,dR.plainO _⟩⟩,k,aJ⟩ k k k ⟨⟨_,k,k,.inl ⟨k,dR.plainO _⟩⟩,k,aJ⟩ k ⟨k,k,(by simp only [aZ,lA,lT,lR,lC,lN]),k⟩ k ⟨k,dR.tame _ _,aJ⟩ k k) ⟨k,k,aJ⟩) k<|am k k<|lp k8<|am k k ?_
          obtain ⟨v36,hv36,h⟩:=ob h
          refine ae (AEff.pureE (gK (σ:=sg [(0,1)]) (σ':=sg [(1,0)]) (touch:=[1]) (news:=[]) (hl2:=[(1,⟨1,x5.1.map (ow eI)⟩)]) (n':=4) (r2:= .own 1 (0+(wr (x5.2*v1.cols)).toNat) ((wr ((wr (x5.2+1))*v1.cols)).toNat - (wr (x5.2*v1.cols)).toNat)) (eU (⟨v1.rows,v1.cols,x5.1⟩:Mt) x5.2 v36 hv36) k k ⟨_,_,k,⟨_,_,k,k,⟨_,_,k,k,⟨_,_,k,⟨k,k,k,k⟩,k⟩⟩⟩,⟨_,_,k,k,k⟩⟩ ⟨⟨_,k,k,.inl ⟨k,dR.plainO _⟩⟩,k,aJ⟩ k k k ⟨⟨_,k,k,.inl ⟨k,dR.plainO _⟩⟩,k,aJ⟩ k ⟨k,k,(by simp only [aZ,lA,lT,lR,lC,lN]),k⟩ k ⟨k,dR.tame _ _,aJ⟩ k k) ⟨k,k,aJ⟩) k<|am k k ?_
          obtain ⟨q38,h⟩:=cg h
          obtain ⟨v37,hv37,h⟩:=ob h
          refine ae (gN aB q38 k k k k k k k) k<|ae (bE aB k k k k (cP (hv37)) k k) k<|ae (iX k k) k<|am k k ?_
          obtain ⟨v39,hv39,h⟩:=ob h
          refine ae (gK (σ:=sg [(0,1)]) (σ':=sg [(1,0)]) (touch:=[1]) (news:=[]) (hl2:=[(1,⟨1,v39.map (ow eI)⟩)]) (n':=4) (r2:= .own 1 (0+(wr (x5.2*v1.cols)).toNat) ((wr ((wr (x5.2+1))*v1.cols)).toNat - (wr (x5.2*v1.cols)).toNat)) (aAZ a0 x5.1 (0+(wr (x5.2*v1.cols)).toNat) ((wr ((wr (x5.2+1))*v1.cols)).toNat - (wr (x5.2*v1.cols)).toNat) (wr (a0 - v37)) (0+(wr (((x1.2.2.length:Nat):Int)*v1.cols)).toNat) ((wr ((wr (((x1.2.2.length:Nat):Int)+1))*v1.cols)).toNat - (wr (((x1.2.2.length:Nat):Int)*v1.cols)).toNat) v39 hv39) k k ⟨_,_,k,k,⟨_,_,k,⟨k,k,k,k⟩,⟨_,_,k,k,⟨_,_,k,⟨k,k,k,k⟩,k⟩⟩⟩⟩ ⟨⟨_,k,k,.inl ⟨k,dR.plainO _⟩⟩,k,aJ⟩ k k k ⟨⟨_,k,k,.inl ⟨k,dR.plainO _⟩⟩,k,aJ⟩ k ⟨k,k,(by simp only [aZ,lA,lT,lR,lC,lN]),k⟩ k ⟨k,dR.tame _ _,aJ⟩ k k) k ?_
          obtain ⟨q40,h⟩:=cg h
          refine an ?_
          refine ⟨by kernel_rfl,?_⟩
          refine bB<|tn<|aM (t:=bN [(0,.int a0),(3,.ptr 0 0 0),(4,.ptr 2 0 0),(6,.own 3 0 x1.2.2.length),(7,.int x1.1),(9,.own 1 (0+(wr (((x1.2.2.length:Nat):Int)*v1.cols)).toNat) ((wr ((wr (((x1.2.2.length:Nat):Int)+1))*v1.cols)).toNat - (wr (((x1.2.2.length:Nat):Int)*v1.cols)).toNat)),(17,.int v1.cols),(18,.int x1.1),(94,.int v1.rows),(95,.int x5.2)] [(0,⟨3,[[.int v1.rows,.int v1.cols,.own 1 0 v39.length]]⟩),(1,⟨1,v39.map (ow eI)⟩),(2,⟨3,[[.int 0,.int 0,.nil 1]]⟩),(3,⟨1,x1.2.2.map (ow eI)⟩)] 4 [4,5,6,7]) (aC (σ:=sg [(0,0),(1,1),(2,2),(3,3)]) ⟨(e1 k k),(pE k k),(pE k k),(oE k k),(e1 k k),(oE k k),(e1 k k),(e1 k k),(e1 k k),(e1 k k),aJ⟩ (hX ⟨_,k,k,.inr ⟨_,_,k,⟨_,_,k,k,⟨_,_,k,k,⟨_,_,k,⟨k,k,(by simp only [aZ,lA,lT,lR,lC,lN,of_decide_eq_true q40]),k⟩,k⟩⟩⟩,k⟩⟩ k<|hI k k k<|hP k k k k<|hI k k k<|aJ) k)<|rg<|ae (bT k k) k<|am k k<|an<|tn ?_
          obtain rfl:=so h
          exact ⟨_,k,(aC (σ:=sg [(0,0),(1,1),(2,2),(3,3)]) ⟨(e1 k k),(pE k k),(pE k k),(oE k k),(e1 k k),(oE k k),(e1 k k),(e1 k k),(e1 k k),(e1 k k),aJ⟩ (hX ⟨_,k,k,.inr ⟨_,_,k,⟨_,_,k,k,⟨_,_,k,k,⟨_,_,k,⟨k,k,k,k⟩,k⟩⟩⟩,k⟩⟩ k<|hI k k k<|hP k k k k<|hI k k k<|aJ) k)⟩
         ·refine aN k q34<|aQ<|bB<|tn<|rg<|ae (bT k k) k<|am k k<|an<|tn ?_
          obtain rfl:=so h
          exact ⟨_,k,(aC (σ:=sg [(0,0),(1,1),(2,2),(3,3)]) ⟨(e1 k k),(pE k k),(pE k k),(oE k k),(e1 k k),(oE k k),(e1 k k),(e1 k k),(e1 k k),(e1 k k),aJ⟩ (hX ⟨_,k,k,.inr ⟨_,_,k,⟨_,_,k,k,⟨_,_,k,k,⟨_,_,k,⟨k,k,k,k⟩,k⟩⟩⟩,k⟩⟩ k<|hI k k k<|hP k k k k<|hI k k k<|aJ) k)⟩
        ·refine aN k q33<|bC<|aE<|aE ?_
         obtain rfl:=so h
         exact ⟨_,k,k,(aC (σ:=sg [(0,0),(1,1),(2,2),(3,3)]) ⟨(e1 k k),(pE k k),(pE k k),(oE k k),(e1 k k),(e1 k k),(e1 k k),aJ⟩ (hX ⟨_,k,k,.inr ⟨_,_,k,⟨_,_,k,k,⟨_,_,k,k,⟨_,_,k,⟨k,k,k,k⟩,k⟩⟩⟩,k⟩⟩ k<|hI k k k<|hP k k k k<|hI k k k<|aJ) k)⟩
       ·rintro e t ⟨rfl,hent⟩
        refine aU<|tn<|aM hent<|rg<|am k k<|am k k<|ae (cY aB k k k k k k k k k k k k) k ?_
        obtain ⟨q42,h⟩:=cg h
        refine ae (xB aB (l:=x1.2.2) (m:=[x1.1]) tS q42 k k k k k k k k k k k k) k<|aa k k<|an<|bB<|tn<|rg<|ae (bT k k) k<|am k k<|an<|tn ?_
        obtain rfl:=so h
        exact ⟨_,k,(aC (σ:=sg [(0,0),(1,1),(2,2),(3,5)]) ⟨(e1 k k),(pE k k),(pE k k),(oE k k),(e1 k k),(e1 k k),aJ⟩ (hX ⟨_,k,k,.inr ⟨_,_,k,⟨_,_,k,k,⟨_,_,k,k,⟨_,_,k,⟨k,k,k,k⟩,k⟩⟩⟩,k⟩⟩ k<|hI k k k<|hP k k k k<|hI k k k<|aJ) k)⟩
  ·refine aN k q2<|bC<|aE<|aE ?_
   obtain rfl:=so h
   exact ⟨_,k,k,(aC (σ:=sg [(0,0),(1,1),(2,2),(3,3)]) ⟨(pE k k),(pE k k),(oE k k),aJ⟩ (hX ⟨_,k,k,.inr ⟨_,_,k,⟨_,_,k,k,⟨_,_,k,k,⟨_,_,k,⟨k,k,k,k⟩,k⟩⟩⟩,k⟩⟩ k<|hI k k k<|hP k k k k<|hI k k k<|aJ) k)⟩
 ·rintro e t ⟨rfl,hent⟩
  refine aU<|tn<|aM hent<|sR<|lp k8<|am k k<|ae (bK aB k k k k k k k k) k<|aa k k<|an ?_
  refine tn<|aL ?_
  obtain rfl:=so h
  exact aS k k k (fX k (dL (zY (cF (k) (cF (k) (cF (iZ dR k k) iD)))) (dL (vC (iZ dR k k)) kU)))
def gF (a0:(List (List Int))) (x1:(Int×Int)):Option ((Int×Int) ⊕ Int):=
 bif decide (x1.2<(a0.length:Int)) then
 (Option.bind (dY a0 x1.2) fun v2=>
 bif decide (wr (x1.1+(v2.length:Int))<0) then
 (none)
 else
 (some (.inl (wr (x1.1+(v2.length:Int)),wr (x1.2+1)))))
 else
 (some (.inr x1.1))
def gG (a0:(List (List Int))) (x2:((List Int)×Int)):Option (((List Int)×Int) ⊕ (List Int)):=
 bif decide (x2.2<(a0.length:Int)) then
 (Option.bind (dY a0 x2.2) fun v7=>
 bif decide (x2.1.length+v7.length≤4294967296) then
 (some (.inl ((x2.1++v7),wr (x2.2+1))))
 else none)
 else
 (some (.inr x2.1))
def hZ (a0:(List (List Int))):Option (List Int):=
 Option.bind (Lp (gF a0) (0,0)) fun y4=>
 Option.bind (aMY y4) fun v5=>
 Option.bind (Lp (gG a0) (v5,0)) fun y9=>
 some (y9)
theorem aAE (a0:(List (List Int))) (r:(List Int)) (h:hZ a0=some r):HasC Tryz.prog 271 [.list 1 (a0.map (cL 1 eI))] (.list 1 (r.map eI)):=by
 refine bJ aB (rvs:=[.tmp 2]) (ns:=[0,1,2,3]) Tryz.func271 k k Tryz.ntmps271 k k k<|sR<|aT k2<|sR<|aa k k<|an ?_
 refine tn<|sQ<|sR<|am k k<|ln k4<|am k k<|an<|tn<|aI ?_
 obtain ⟨y4,hy4,h⟩:=ob h
 refine cV (body:=(gF a0)) hy4 (fun (x1:(Int×Int))=>bN [(0,.list 1 (a0.map (cL 1 eI))),(3,.int x1.1),(9,.list 1 (a0.map (cL 1 eI))),(10,.int (a0.length:Int)),(11,.int x1.2)] [] 0 [0,1,2,3]) (fun r e t=>e= .exit 0∧Ent t (bN [(0,.list 1 (a0.map (cL 1 eI))),(3,.int r)] [] 0 [0,1,2,3])) (aC (σ:=sg []) ⟨⟨_,k,⟨k,k⟩⟩,(e1 k k),⟨_,k,⟨k,k⟩⟩,(e1 k k),(e1 k k),aJ⟩ aJ k) ?_ ?_
 ·intro x1 o h
  refine sR<|cm k4<|an<|tn<|sQ ?_
  rcases cb h with ⟨q1,h⟩|⟨q1,h⟩
  ·refine aH k q1<|aQ<|tn<|sQ<|aI<|sR ?_
   obtain ⟨v2,hv2,h⟩:=ob h
   refine ae (bF aB hv2 k k k k k k) k<|lr k7<|aT k2<|sR<|am k k<|am k k<|ln k4 ?_
   refine ae (bT k k) k<|aT k2<|sR<|am k k<|cm k4<|an<|tn ?_
   rcases cb h with ⟨q3,h⟩|⟨q3,h⟩
   ·refine aH k q3<|rg ?_
    cases h
   ·refine aN k q3<|aQ<|bB<|tn<|rg<|ae (bT k k) k<|am k k<|an<|tn ?_
    obtain rfl:=so h
    exact ⟨_,k,(aC (σ:=sg []) ⟨⟨_,k,⟨k,k⟩⟩,(e1 k k),⟨_,k,⟨k,k⟩⟩,(e1 k k),(e1 k k),aJ⟩ aJ k)⟩
  ·refine aN k q1<|bC<|aE<|aE ?_
   obtain rfl:=so h
   exact ⟨_,k,k,(aC (σ:=sg []) ⟨⟨_,k,⟨k,k⟩⟩,(e1 k k),aJ⟩ aJ k)⟩
 ·rintro e t ⟨rfl,hent⟩
  refine aU<|tn<|aM hent<|sR<|am k k ?_
  obtain ⟨v5,hv5,h⟩:=ob h
  refine ae (AEff.conv (dF (x:= .own 0 0 (v5.map eI).length) (nb:=[(0,⟨1,cM (v5.map eI)⟩)]) (aRy y4 v5 hv5) k (by rfl) k k (dR.good _) (aD aQx (aD (aO k) bD))) (v':= .own 0 0 v5.length) (ed':=[(0,some ⟨1,v5.map (ow eI)⟩)]) (by simp only [aZ]) (fB (nb':=[(0,⟨1,v5.map (ow eI)⟩)]) (by simp only [cW]))) k<|aT k2<|sQ<|sR<|am k k<|ln k4<|am k k ?_
  refine an<|tn<|aI ?_
  obtain ⟨y9,hy9,h⟩:=ob h
  refine cV (body:=(gG a0)) hy9 (fun (x2:((List Int)×Int))=>bN [(6,.own 0 0 x2.1.length),(25,.list 1 (a0.map (cL 1 eI))),(26,.int (a0.length:Int)),(27,.int x2.2)] [(0,⟨1,x2.1.map (ow eI)⟩)] 1 [1,2,3]) (fun r e t=>e= .exit 2∧Ent t (bN [(6,.own 0 0 r.length)] [(0,⟨1,r.map (ow eI)⟩)] 1 [1,2,3])) (aC (σ:=sg [(0,0)]) ⟨(oE k k),⟨_,k,⟨k,k⟩⟩,(e1 k k),(e1 k k),aJ⟩ (hI k k k<|aJ) k) ?_ ?_
  ·intro x2 o h
   refine sR<|cm k4<|an<|tn<|sQ ?_
   rcases cb h with ⟨q6,h⟩|⟨q6,h⟩
   ·refine aH k q6<|aQ<|tn<|sQ<|aI<|sR ?_
    obtain ⟨v7,hv7,h⟩:=ob h
    refine ae (bF aB hv7 k k k k k k) k<|lr k7<|aT k2<|rg<|am k k<|am k k ?_
    obtain ⟨q8,h⟩:=cg h
    refine ae (xB aB (l:=x2.1) (m:=v7) tS q8 k k k k k k k k k k k k) k<|aa k k<|an<|bB<|tn<|rg<|ae (bT k k) k<|am k k<|an<|tn ?_
    obtain rfl:=so h
    exact ⟨_,k,(aC (σ:=sg [(0,1)]) ⟨(oE k k),⟨_,k,⟨k,k⟩⟩,(e1 k k),(e1 k k),aJ⟩ (hI k k k<|aJ) k)⟩
   ·refine aN k q6<|bC<|aE<|aE ?_
    obtain rfl:=so h
    exact ⟨_,k,k,(aC (σ:=sg [(0,0)]) ⟨(oE k k),aJ⟩ (hI k k k<|aJ) k)⟩
  ·rintro e t ⟨rfl,hent⟩
   refine aU<|tn<|aM hent<|sR<|am k k<|aT k2<|aL ?_
   obtain rfl:=so h
   exact aS k k k (qE (iZ dR k k))
end
noncomputable section
set_option maxRecDepth 10000
set_option maxHeartbeats 4000000
def kW (a0:(List Int)) (a1:Int):Option Int:=
 bif decide (wr (a1 - (a0.length:Int))<0) then
 (some ((-1)))
 else
 (some (wr (a1 - (a0.length:Int))))
theorem vX (a0:(List Int)) (a1:Int) (r:Int) (h:kW a0 a1=some r):HasC Tryz.prog 53 [.list 1 (a0.map eI),.int a1] (.int r):=by
 refine bJ aB (rvs:=[.tmp 4]) (ns:=[0,1]) Tryz.func53 k k Tryz.ntmps53 k k k<|sR<|aT k2<|sR<|am k k<|am k k ?_
 refine ln k4<|ae (iX k k) k<|aT k2<|sQ<|sR<|am k k<|cm k4 ?_
 refine an<|tn ?_
 rcases cb h with ⟨q1,h⟩|⟨q1,h⟩
 ·refine aH k q1<|sR<|aT k2<|aL<|aG ?_
  obtain rfl:=so h
  exact aS k k k (cT k)
 ·refine aN k q1<|aQ<|tn<|sR<|am k k<|aT k2<|aL ?_
  obtain rfl:=so h
  exact aS k k k (cT k)
def wS (a0:Qv) (a1:Int):Option Int:=
 Option.bind (kW a0.src a1) fun v1=>
 bif decide (v1<0) then
 (some ((-1)))
 else
 (Option.bind (kW a0.tgt v1) fun v3=>
 bif decide (v3<0) then
 (some ((-1)))
 else
 (some (v3)))
theorem aFx (a0:Qv) (a1:Int) (r:Int) (h:wS a0 a1=some r):HasC Tryz.prog 52 [.agg (eQ a0),.int a1] (.int r):=by
 refine bJ aB (rvs:=[.tmp 4]) (ns:=[0,1,2]) Tryz.func52 k k Tryz.ntmps52 k k k<|sR<|ae (cE k k k k) k<|aT k2<|sR<|fp k8 ?_
 refine lp k8<|am k k ?_
 obtain ⟨v1,hv1,h⟩:=ob h
 refine ae (bA (vX a0.src a1 v1 hv1) k (aD (aO k) (aD (aO k) bD))) k<|aT k2<|sQ<|sR<|am k k<|cm k4<|an ?_
 refine tn ?_
 rcases cb h with ⟨q2,h⟩|⟨q2,h⟩
 ·refine aH k q2<|sR<|aT k2<|aL<|aG ?_
  obtain rfl:=so h
  exact aS k k k (cT k)
 ·refine aN k q2<|aQ<|tn<|sR<|fp k8<|lp k8<|am k k ?_
  obtain ⟨v3,hv3,h⟩:=ob h
  refine ae (bA (vX a0.tgt v1 v3 hv3) k (aD (aO k) (aD (aO k) bD))) k<|aT k2<|aM (t:=bN [(1,.int v3)] [] 1 [1,2]) (aC (σ:=sg []) ⟨(e1 k k),aJ⟩ aJ k)<|sQ<|sR<|am k k<|cm k4 ?_
  refine an<|tn ?_
  rcases cb h with ⟨q4,h⟩|⟨q4,h⟩
  ·refine aH k q4<|sR<|aT k2<|aL<|aG ?_
   obtain rfl:=so h
   exact aS k k k (cT k)
  ·refine aN k q4<|aQ<|tn<|sR<|am k k<|aT k2<|aL ?_
   obtain rfl:=so h
   exact aS k k k (cT k)
def wT (a0:Mt) (a1:Int):Option Int:=
 Option.bind (kW a0.cells a1) fun v1=>
 bif decide (v1<0) then
 (some ((-1)))
 else
 (some (v1))
theorem aFy (a0:Mt) (a1:Int) (r:Int) (h:wT a0 a1=some r):HasC Tryz.prog 109 [.agg (eM a0),.int a1] (.int r):=by
 refine bJ aB (rvs:=[.tmp 4]) (ns:=[0,1,2]) Tryz.func109 k k Tryz.ntmps109 k k k<|sR<|ae (cE k k k k) k<|aT k2<|sR<|fp k8 ?_
 refine lp k8<|am k k ?_
 obtain ⟨v1,hv1,h⟩:=ob h
 refine ae (bA (vX a0.cells a1 v1 hv1) k (aD (aO k) (aD (aO k) bD))) k<|aT k2<|sQ<|sR<|am k k<|cm k4<|an ?_
 refine tn ?_
 rcases cb h with ⟨q2,h⟩|⟨q2,h⟩
 ·refine aH k q2<|sR<|aT k2<|aL<|aG ?_
  obtain rfl:=so h
  exact aS k k k (cT k)
 ·refine aN k q2<|aQ<|tn<|sR<|am k k<|aT k2<|aL ?_
  obtain rfl:=so h
  exact aS k k k (cT k)
def lG (a0:(List Mt)) (x1:(Int×Int)):Option ((Int×Int) ⊕ (Int ⊕ Int)):=
 bif decide (x1.2<(a0.length:Int)) then
 (Option.bind (dY a0 x1.2) fun v3=>
 Option.bind (wT v3 x1.1) fun v4=>
 bif decide (v4<0) then
 (some (.inr (.inr ((-1)))))
 else
 (some (.inl (v4,wr (x1.2+1)))))
 else
 (some (.inr (.inl x1.1)))
def qK (a0:(List Mt)) (a1:Int):Option Int:=
 bif decide (wr (a1 - (a0.length:Int))<0) then
 (some ((-1)))
 else
 (Option.bind (Lp (lG a0) (wr (a1 - (a0.length:Int)),0)) fun y6=>
 Sum.elim (fun y7=>
 some (y7)
 )
 (fun y8=>
 some y8
 )
 y6)
theorem aEr (a0:(List Mt)) (a1:Int) (r:Int) (h:qK a0 a1=some r):HasC Tryz.prog 54 [.list 3 (a0.map eM),.int a1] (.int r):=by
 refine bJ aB (rvs:=[.tmp 4]) (ns:=[0,1]) Tryz.func54 k k Tryz.ntmps54 k k k<|sR<|aT k2<|sR<|am k k<|am k k ?_
 refine ln k4<|ae (iX k k) k<|aT k2<|sQ<|sR<|am k k<|cm k4 ?_
 refine an<|tn ?_
 rcases cb h with ⟨q1,h⟩|⟨q1,h⟩
 ·refine aH k q1<|sR<|aT k2<|aL<|aG ?_
  obtain rfl:=so h
  exact aS k k k (cT k)
 ·refine aN k q1<|aQ<|tn<|sQ<|sR<|aT k2<|aI ?_
  obtain ⟨y6,hy6,h⟩:=ob h
  refine cV (body:=(lG a0)) hy6 (fun (x1:(Int×Int))=>bN [(0,.list 3 (a0.map eM)),(1,.int x1.1),(5,.int x1.2)] [] 0 [0,1]) (fun r e t=>Sum.elim (fun a=>(fun r e t=>e= .exit 0∧Ent t (bN [(1,.int r)] [] 0 [0,1])) a e t) (fun b=>(fun r e t=>e= .ret∧oD TT [.tmp 4] (.int r) .ret t) b e t) r) (aC (σ:=sg []) ⟨⟨_,k,⟨k,k⟩⟩,(e1 k k),(e1 k k),aJ⟩ aJ k) ?_ ?_
  ·intro x1 o h
   refine sQ<|sR<|am k k<|am k k<|ln k4<|cm k4<|an<|tn ?_
   rcases cb h with ⟨q2,h⟩|⟨q2,h⟩
   ·refine aH k q2<|aQ<|tn<|sQ<|aI<|sR<|am k k<|am k k ?_
    obtain ⟨v3,hv3,h⟩:=ob h
    refine ae (bF aB hv3 k k k k k k) k<|lr k7<|am k k ?_
    obtain ⟨v4,hv4,h⟩:=ob h
    refine ae (bA (aFy v3 x1.1 v4 hv4) k (aD (cD (aR (aV k) (aR (aV k) (aR (aV k) cO)))) (aD (aO k) bD))) k<|aT k2<|sR<|am k k<|cm k4<|an<|tn ?_
    refine aM (t:=bN [(0,.list 3 (a0.map eM)),(1,.int v4),(5,.int x1.2),(25,.bl (decide (v4<0)))] [] 0 [0,1]) (aC (σ:=sg []) ⟨⟨_,k,⟨k,k⟩⟩,(e1 k k),(e1 k k),(e1 k k),aJ⟩ aJ k) ?_
    rcases cb h with ⟨q5,h⟩|⟨q5,h⟩
    ·refine aH k q5<|sR<|aT k2<|aL<|aY<|aG<|aG ?_
     obtain rfl:=so h
     exact ⟨_,k,k,aS k k k (cT k)⟩
    ·refine aN k q5<|aQ<|bB<|tn<|rg<|am k k<|ae (bT k k) k<|aT k2 ?_
     obtain rfl:=so h
     exact ⟨_,k,(aC (σ:=sg []) ⟨⟨_,k,⟨k,k⟩⟩,(e1 k k),(e1 k k),aJ⟩ aJ k)⟩
   ·refine aN k q2<|bC<|aE<|aE ?_
    obtain rfl:=so h
    exact ⟨_,k,k,(aC (σ:=sg []) ⟨(e1 k k),aJ⟩ aJ k)⟩
  ·intro e t hX
   rcases y6 with y7|y8
   ·obtain ⟨rfl,hent⟩:=hX
    refine aU<|tn<|aM hent<|sR<|am k k<|aT k2<|aL ?_
    obtain rfl:=so h
    exact aS k k k (cT k)
   ·obtain ⟨rfl,hent⟩:=hX
    refine aY<|aG ?_
    obtain rfl:=so h
    exact hent
def aAr (a0:Rp) (a1:Int):Option Int:=
 Option.bind (wS a0.q a1) fun v1=>
 bif decide (v1<0) then
 (some ((-1)))
 else
 (Option.bind (kW a0.dims v1) fun v3=>
 bif decide (v3<0) then
 (some ((-1)))
 else
 (Option.bind (qK a0.maps v3) fun v5=>
 bif decide (v5<0) then
 (some ((-1)))
 else
 (some (v5))))
theorem aJx (a0:Rp) (a1:Int) (r:Int) (h:aAr a0 a1=some r):HasC Tryz.prog 13 [.agg (eR a0),.int a1] (.int r):=by
 refine bJ aB (rvs:=[.tmp 4]) (ns:=[0,1,2]) Tryz.func13 k k Tryz.ntmps13 k k k<|sR<|ae (cE k k k k) k<|aT k2<|sR<|fp k8 ?_
 refine lp k8<|am k k ?_
 obtain ⟨v1,hv1,h⟩:=ob h
 refine ae (bA (aFx a0.q a1 v1 hv1) k (aD (cD (aR (aV k) (aR (aV k) (aR (aV k) cO)))) (aD (aO k) bD))) k<|aT k2<|sQ<|sR<|am k k<|cm k4<|an ?_
 refine tn ?_
 rcases cb h with ⟨q2,h⟩|⟨q2,h⟩
 ·refine aH k q2<|sR<|aT k2<|aL<|aG ?_
  obtain rfl:=so h
  exact aS k k k (cT k)
 ·refine aN k q2<|aQ<|tn<|sR<|fp k8<|lp k8<|am k k ?_
  obtain ⟨v3,hv3,h⟩:=ob h
  refine ae (bA (vX a0.dims v1 v3 hv3) k (aD (aO k) (aD (aO k) bD))) k<|aT k2<|aM (t:=bN [(1,.int v3),(2,.ptr 0 0 0)] [(0,⟨6,[[.int a0.p,.int a0.q.n,.list 1 (a0.q.src.map eI),.list 1 (a0.q.tgt.map eI),.list 1 (a0.dims.map eI),.list 3 (a0.maps.map eM)]]⟩)] 1 [1,2]) (aC (σ:=sg [(0,0)]) ⟨(e1 k k),(pE k k),aJ⟩ (hP k k k k<|aJ) k)<|sQ<|sR<|am k k<|cm k4 ?_
  refine an<|tn ?_
  rcases cb h with ⟨q4,h⟩|⟨q4,h⟩
  ·refine aH k q4<|sR<|aT k2<|aL<|aG ?_
   obtain rfl:=so h
   exact aS k k k (cT k)
  ·refine aN k q4<|aQ<|tn<|sR<|fp k8<|lp k8<|am k k ?_
   obtain ⟨v5,hv5,h⟩:=ob h
   refine ae (bA (aEr a0.maps v3 v5 hv5) k (aD (aO k) (aD (aO k) bD))) k<|aT k2<|sQ<|sR<|am k k<|cm k4<|an ?_
   refine tn ?_
   rcases cb h with ⟨q6,h⟩|⟨q6,h⟩
   ·refine aH k q6<|sR<|aT k2<|aL<|aG ?_
    obtain rfl:=so h
    exact aS k k k (cT k)
   ·refine aN k q6<|aQ<|tn<|sR<|am k k<|aT k2<|aL ?_
    obtain rfl:=so h
    exact aS k k k (cT k)
def qL (a0:(List Int)) (x1:((List Int)×Int)):Option (((List Int)×Int) ⊕ (List Int)):=
 bif decide (x1.2<(a0.length:Int)) then
 (Option.bind (dY a0 x1.2) fun v2=>
 Option.bind (dY x1.1 x1.2) fun v3=>
 some (.inl ((x1.1.set x1.2.toNat v2),wr (x1.2+1))))
 else
 (some (.inr x1.1))
def kX (a0:(List Int)):Option (List Int):=
 bif (decide (0≤(a0.length:Int))&&decide ((a0.length:Int)≤1048576)) then
 (Option.bind (Lp (qL a0) ((List.replicate ((a0.length:Int).toNat) (0:Int)),0)) fun y4=>
 some (y4))
 else none
theorem vY (a0:(List Int)) (r:(List Int)) (h:kX a0=some r):HasC Tryz.prog 23 [.list 1 (a0.map eI)] (.list 1 (r.map eI)):=by
 refine bJ aB (rvs:=[.tmp 2]) (ns:=[0,1,2]) Tryz.func23 k k Tryz.ntmps23 k k k<|sR<|aT k2<|sR<|am k k<|ln k4 ?_
 obtain ⟨q5,h⟩:=cg h
 refine ae (aAq aB q5 k k k k k k k k) k<|aT k2<|aM (t:=bN [(0,.list 1 (a0.map eI)),(3,.own 0 0 ((List.replicate ((a0.length:Int).toNat) (0:Int)).length))] [(0,⟨1,List.map (ow eI) (List.replicate ((a0.length:Int).toNat) (0:Int))⟩)] 1 [1,2]) (aC (σ:=sg [(0,0)]) ⟨⟨_,k,⟨k,k⟩⟩,⟨_,k,⟨k,k,(by simp only [aZ,lA,lT,lR,lC,lN]),k⟩⟩,aJ⟩ (hX ⟨_,k,k,.inl ⟨aBQ (e:=eI) (z:=0) _,dR.plainO _⟩⟩ k<|aJ) k)<|sQ<|sR<|aa k k<|an ?_
 refine tn<|aI ?_
 obtain ⟨y4,hy4,h⟩:=ob h
 refine cV (body:=(qL a0)) hy4 (fun (x1:((List Int)×Int))=>bN [(0,.list 1 (a0.map eI)),(3,.own 0 0 x1.1.length),(4,.int x1.2)] [(0,⟨1,x1.1.map (ow eI)⟩)] 1 [1,2]) (fun r e t=>e= .exit 0∧Ent t (bN [(3,.own 0 0 r.length)] [(0,⟨1,r.map (ow eI)⟩)] 1 [1,2])) (aC (σ:=sg [(0,0)]) ⟨⟨_,k,⟨k,k⟩⟩,(oE k k),(e1 k k),aJ⟩ (hI k k k<|aJ) k) ?_ ?_
 ·intro x1 o h
  refine sQ<|sR<|am k k<|am k k<|ln k4<|cm k4<|an<|tn ?_
  rcases cb h with ⟨q1,h⟩|⟨q1,h⟩
  ·refine aH k q1<|aQ<|tn<|sQ<|aI<|rg<|am k k<|am k k<|am k k<|am k k ?_
   obtain ⟨v2,hv2,h⟩:=ob h
   refine ae (bF aB hv2 k k k k k k) k<|lr k7 ?_
   obtain ⟨v3,hv3,h⟩:=ob h
   refine ae (cU aB (eF hv3) (dE hv3) k k k k k k k) k<|ae (hJ aB tS (u:=v2) (dJ hv3) k k k k k k) k<|an<|bB<|tn<|aM (t:=bN [(0,.list 1 (a0.map eI)),(3,.own 0 0 ((x1.1.set x1.2.toNat v2).length)),(4,.int x1.2)] [(0,⟨1,List.map (ow eI) (x1.1.set x1.2.toNat v2)⟩)] 1 [1,2]) (aC (σ:=sg [(0,0)]) ⟨⟨_,k,⟨k,k⟩⟩,⟨_,k,⟨k,k,(by simp only [aZ,lA,lT,lR,lC,lN]),k⟩⟩,(e1 k k),aJ⟩ (hI k k k<|aJ) k)<|rg<|am k k<|ae (bT k k) k<|aa k k ?_
   refine an<|tn ?_
   obtain rfl:=so h
   exact ⟨_,k,(aC (σ:=sg [(0,0)]) ⟨⟨_,k,⟨k,k⟩⟩,(oE k k),(e1 k k),aJ⟩ (hI k k k<|aJ) k)⟩
  ·refine aN k q1<|bC<|aE<|aE ?_
   obtain rfl:=so h
   exact ⟨_,k,k,(aC (σ:=sg [(0,0)]) ⟨(oE k k),aJ⟩ (hI k k k<|aJ) k)⟩
 ·rintro e t ⟨rfl,hent⟩
  refine aU<|tn<|aM hent<|sR<|am k k<|aT k2<|aL ?_
  obtain rfl:=so h
  exact aS k k k (qE (iZ dR k k))
def rQ (a0:Qv):Option Qv:=
 Option.bind (kX a0.src) fun v1=>
 Option.bind (kX a0.tgt) fun v2=>
 some ((⟨a0.n,v1,v2⟩:Qv))
theorem aFz (a0:Qv) (r:Qv) (h:rQ a0=some r):HasC Tryz.prog 59 [.agg (eQ a0)] (.agg (eQ r)):=by
 refine bJ aB (rvs:=[.cell 2 29]) (ns:=[0,1,2,3,4,5,6]) Tryz.func59 k k Tryz.ntmps59 k k k<|sR<|ae (cE k k k k) k<|ae (bV aB k k) k<|an<|tn<|sR<|ae (bV aB k k) k ?_
 refine an<|tn<|sR<|fp k8<|lp k8<|fp k8<|ae (bK aB k k k k k k k k) k<|an<|tn ?_
 refine sR<|fp k8<|lp k8 ?_
 obtain ⟨v1,hv1,h⟩:=ob h
 refine ae (AEff.conv (dF (x:= .own 3 0 (v1.map eI).length) (nb:=[(3,⟨1,cM (v1.map eI)⟩)]) (vY a0.src v1 hv1) k (by rfl) k k (dR.good _) (aD (aO k) bD)) (v':= .own 3 0 v1.length) (ed':=[(3,some ⟨1,v1.map (ow eI)⟩)]) (by simp only [aZ]) (fB (nb':=[(3,⟨1,v1.map (ow eI)⟩)]) (by simp only [cW]))) k<|fp k8<|ae (bK aB k k k k k k k k) k<|an<|tn<|aM (t:=bN [(1,.ptr 0 0 0),(2,.ptr 1 0 0),(3,.ptr 2 0 0)] [(0,⟨3,[[.int a0.n,.list 1 (a0.src.map eI),.list 1 (a0.tgt.map eI)]]⟩),(1,⟨3,[[.int 0,.nil 1,.nil 1]]⟩),(2,⟨3,[[.int a0.n,.own 3 0 v1.length,.nil 1]]⟩),(3,⟨1,v1.map (ow eI)⟩)] 4 [4,5,6]) (aC (σ:=sg [(0,0),(1,1),(2,2),(3,3)]) ⟨(pE k k),(pE k k),(pE k k),aJ⟩ (hP k k k k<|hP k k k k<|hX ⟨_,k,k,.inr ⟨_,_,k,⟨_,_,k,k,⟨_,_,k,⟨k,k,k,k⟩,⟨_,_,k,aJ,k⟩⟩⟩,k⟩⟩ k<|hI k k k<|aJ) k)<|sR<|fp k8<|lp k8 ?_
 obtain ⟨v2,hv2,h⟩:=ob h
 refine ae (AEff.conv (dF (x:= .own 4 0 (v2.map eI).length) (nb:=[(4,⟨1,cM (v2.map eI)⟩)]) (vY a0.tgt v2 hv2) k (by rfl) k k (dR.good _) (aD (aO k) bD)) (v':= .own 4 0 v2.length) (ed':=[(4,some ⟨1,v2.map (ow eI)⟩)]) (by simp only [aZ]) (fB (nb':=[(4,⟨1,v2.map (ow eI)⟩)]) (by simp only [cW]))) k<|fp k8<|ae (bK aB k k k k k k k k) k<|an<|tn<|sR<|lp k8<|ae (bK aB k k k k k k k k) k<|an ?_
 refine tn<|aL ?_
 obtain rfl:=so h
 exact aS k k k (qV (cF (k) (cF (iZ dR k k) (cF (iZ dR k k) iD))))
def rR (a0:Mt):Option Mt:=
 Option.bind (kX a0.cells) fun v1=>
 some ((⟨a0.rows,a0.cols,v1⟩:Mt))
theorem aGA (a0:Mt) (r:Mt) (h:rR a0=some r):HasC Tryz.prog 116 [.agg (eM a0)] (.agg (eM r)):=by
 refine bJ aB (rvs:=[.cell 2 113]) (ns:=[0,1,2,3,4,5]) Tryz.func116 k k Tryz.ntmps116 k k k<|sR<|ae (cE k k k k) k<|ae (bV aB k k) k<|an<|tn<|sR<|ae (bV aB k k) k ?_
 refine an<|tn<|sR<|fp k8<|lp k8<|fp k8<|ae (bK aB k k k k k k k k) k<|an<|tn ?_
 refine sR<|fp k8<|lp k8<|fp k8<|ae (bK aB k k k k k k k k) k<|an<|tn<|sR ?_
 refine fp k8<|lp k8 ?_
 obtain ⟨v1,hv1,h⟩:=ob h
 refine ae (AEff.conv (dF (x:= .own 3 0 (v1.map eI).length) (nb:=[(3,⟨1,cM (v1.map eI)⟩)]) (vY a0.cells v1 hv1) k (by rfl) k k (dR.good _) (aD (aO k) bD)) (v':= .own 3 0 v1.length) (ed':=[(3,some ⟨1,v1.map (ow eI)⟩)]) (by simp only [aZ]) (fB (nb':=[(3,⟨1,v1.map (ow eI)⟩)]) (by simp only [cW]))) k<|fp k8<|ae (bK aB k k k k k k k k) k<|an<|tn<|aM (t:=bN [(2,.ptr 1 0 0),(3,.ptr 2 0 0)] [(1,⟨3,[[.int 0,.int 0,.nil 1]]⟩),(2,⟨3,[[.int a0.rows,.int a0.cols,.own 3 0 v1.length]]⟩),(3,⟨1,v1.map (ow eI)⟩)] 4 [4,5]) (aC (σ:=sg [(1,1),(2,2),(3,3)]) ⟨(pE k k),(pE k k),aJ⟩ (hP k k k k<|hX ⟨_,k,k,.inr ⟨_,_,k,⟨_,_,k,k,⟨_,_,k,k,⟨_,_,k,⟨k,k,k,k⟩,k⟩⟩⟩,k⟩⟩ k<|hI k k k<|aJ) k)<|sR<|lp k8<|ae (bK aB k k k k k k k k) k ?_
 refine an<|tn<|aL ?_
 obtain rfl:=so h
 exact aS k k k (qV (cF (k) (cF (k) (cF (iZ dR k k) iD))))
def lH (a0:(List Mt)) (x1:((List Mt)×Int)):Option (((List Mt)×Int) ⊕ (List Mt)):=
 bif decide (x1.2<(a0.length:Int)) then
 (Option.bind (dY a0 x1.2) fun v2=>
 Option.bind (rR v2) fun v3=>
 Option.bind (dY x1.1 x1.2) fun v4=>
 some (.inl ((x1.1.set x1.2.toNat v3),wr (x1.2+1))))
 else
 (some (.inr x1.1))
def qM (a0:(List Mt)):Option (List Mt):=
 bif (decide (0≤(a0.length:Int))&&decide ((a0.length:Int)≤1048576)) then
 (Option.bind (Lp (lH a0) ((List.replicate ((a0.length:Int).toNat) ((⟨0,0,[]⟩:Mt):Mt)),0)) fun y5=>
 some (y5))
 else none
theorem aEs (a0:(List Mt)) (r:(List Mt)) (h:qM a0=some r):HasC Tryz.prog 60 [.list 3 (a0.map eM)] (.list 3 (r.map eM)):=by
 refine bJ aB (rvs:=[.tmp 2]) (ns:=[0,1,2,3]) Tryz.func60 k k Tryz.ntmps60 k k k<|sR<|aT k2<|sR<|am k k<|ln k4 ?_
 obtain ⟨q6,h⟩:=cg h
 refine ae (aAq aB q6 k k k k k k k k) k<|aT k2<|aM (t:=bN [(0,.list 3 (a0.map eM)),(3,.own 0 0 ((List.replicate ((a0.length:Int).toNat) ((⟨0,0,[]⟩:Mt):Mt)).length))] [(0,⟨3,List.map (ow eM) (List.replicate ((a0.length:Int).toNat) ((⟨0,0,[]⟩:Mt):Mt))⟩)] 1 [1,2,3]) (aC (σ:=sg [(0,0)]) ⟨⟨_,k,⟨k,k⟩⟩,⟨_,k,⟨k,k,(by simp only [aZ,lA,lT,lR,lC,lN]),k⟩⟩,aJ⟩ (hX ⟨_,k,k,.inr (aMZ (e:=eM) (z:=(⟨0,0,[]⟩:Mt)) (zc:=[.int 0,.int 0,.nil 1]) ⟨_,_,k,k,⟨_,_,k,k,⟨_,_,k,k,k⟩⟩⟩ _)⟩ k<|aJ) k)<|sQ<|sR<|aa k k<|an ?_
 refine tn<|aI ?_
 obtain ⟨y5,hy5,h⟩:=ob h
 refine cV (body:=(lH a0)) hy5 (fun (x1:((List Mt)×Int))=>bN [(0,.list 3 (a0.map eM)),(3,.own 0 0 x1.1.length),(4,.int x1.2)] [(0,⟨3,x1.1.map (ow eM)⟩)] 1 [1,2,3]) (fun r e t=>e= .exit 0∧Ent t (bN [(3,.own 0 0 r.length)] [(0,⟨3,r.map (ow eM)⟩)] 1 [1,2,3])) (aC (σ:=sg [(0,0)]) ⟨⟨_,k,⟨k,k⟩⟩,(oE k k),(e1 k k),aJ⟩ (hB (lQ.plainO _) k k k<|aJ) k) ?_ ?_
 ·intro x1 o h
  refine sQ<|sR<|am k k<|am k k<|ln k4<|cm k4<|an<|tn ?_
  rcases cb h with ⟨q1,h⟩|⟨q1,h⟩
  ·refine aH k q1<|aQ<|tn<|sQ<|aI<|rg<|am k k<|am k k<|am k k<|am k k ?_
   obtain ⟨v2,hv2,h⟩:=ob h
   refine ae (bF aB hv2 k k k k k k) k<|lr k7 ?_
   obtain ⟨v3,hv3,h⟩:=ob h
   refine ae (AEff.conv (dF (x:= .agg [.int v3.rows,.int v3.cols,.own 1 0 (v3.cells.map eI).length]) (nb:=[(1,⟨1,cM (v3.cells.map eI)⟩)]) (aGA v2 v3 hv3) k (by rfl) k k (bU aJ (bU aJ (bU (dR.good _) gS))) (aD (cD (aR (aV k) (aR (aV k) (aR (aV k) cO)))) bD)) (v':= .agg [.int v3.rows,.int v3.cols,.own 1 0 v3.cells.length]) (ed':=[(1,some ⟨1,v3.cells.map (ow eI)⟩)]) (by simp only [aZ]) (fB (nb':=[(1,⟨1,v3.cells.map (ow eI)⟩)]) (by simp only [cW]))) k ?_
   obtain ⟨v4,hv4,h⟩:=ob h
   refine ae (cU aB (eF hv4) (dE hv4) k k k k k k k) k<|ae (bK aB k k k k k k (cP (dJ hv4)) k) k<|an<|bB<|tn<|aM (t:=bN [(0,.list 3 (a0.map eM)),(3,.own 0 0 x1.1.length),(4,.int x1.2)] [(0,⟨3,(x1.1.map (ow eM)).set x1.2.toNat [.int v3.rows,.int v3.cols,.own 1 0 v3.cells.length]⟩),(1,⟨1,v3.cells.map (ow eI)⟩)] 2 [2,3]) (aC (σ:=sg [(0,0),(1,1)]) ⟨⟨_,k,⟨k,k⟩⟩,(oE k k),(e1 k k),aJ⟩ (hX ⟨_,k,k,.inr (zJ (σ:=sg [(0,0),(1,1)]) (m:=2) (e:=eM) (l:=x1.1) (i:=x1.2.toNat) (c:=[.int v3.rows,.int v3.cols,.own 1 0 v3.cells.length]) (d:=[.int v3.rows,.int v3.cols,.own 1 0 v3.cells.length]) lQ ⟨_,_,k,k,⟨_,_,k,k,⟨_,_,k,⟨k,k,k,k⟩,k⟩⟩⟩)⟩ k<|hI k k k<|aJ) k)<|rg<|am k k<|ae (bT k k) k<|aa k k ?_
   refine an<|tn ?_
   obtain rfl:=so h
   exact ⟨_,k,(Ent.trans (show Ent _ (bN [(0,.list 3 (a0.map eM)),(3,.own 0 0 ((x1.1.set x1.2.toNat v3).length)),(4,.int (wr (x1.2+1)))] [(0,⟨3,List.map (ow eM) (x1.1.set x1.2.toNat v3)⟩)] 2 [2,3]) from (Ent.trans (aBP (b:=0) (b':=1) (j:=2) (es':=v3.cells.map eI) (by rw [List.length_map];exact dE hv4) k k k k (aZ _ _) (dR.frzs _)) (aC (σ:=sg [(0,0)]) ⟨⟨_,k,⟨k,k⟩⟩,⟨_,k,⟨k,k,(by simp only [aZ,lA,lT,lR,lC,lN]),k⟩⟩,(e1 k k),aJ⟩ (hX ⟨_,k,k,.inl ⟨aHM v3 k,lQ.plainO _⟩⟩ k<|aJ) k))) (aC (σ:=sg [(0,0)]) ⟨⟨_,k,⟨k,k⟩⟩,(oE k k),(e1 k k),aJ⟩ (hB (lQ.plainO _) k k k<|aJ) k))⟩
  ·refine aN k q1<|bC<|aE<|aE ?_
   obtain rfl:=so h
   exact ⟨_,k,k,(aC (σ:=sg [(0,0)]) ⟨(oE k k),aJ⟩ (hB (lQ.plainO _) k k k<|aJ) k)⟩
 ·rintro e t ⟨rfl,hent⟩
  refine aU<|tn<|aM hent<|sR<|am k k<|aT k2<|aL ?_
  obtain rfl:=so h
  exact aS k k k (qE (iZ lQ k k))
def mU (a0:Rp):Option Rp:=
 Option.bind (rQ a0.q) fun v1=>
 Option.bind (kX a0.dims) fun v2=>
 Option.bind (qM a0.maps) fun v3=>
 some ((⟨a0.p,v1,v2,v3⟩:Rp))
theorem xI (a0:Rp) (r:Rp) (h:mU a0=some r):HasC Tryz.prog 15 [.agg (eR a0)] (.agg (eR r)):=by
 refine bJ aB (rvs:=[.cell 2 32]) (ns:=[0,1,2,3,4,5,6,7,8]) Tryz.func15 k k Tryz.ntmps15 k k k<|sR<|ae (cE k k k k) k<|ae (bV aB k k) k<|an<|tn<|sR<|ae (bV aB k k) k ?_
 refine an<|tn<|sR<|fp k8<|lp k8<|fp k8<|ae (bK aB k k k k k k k k) k<|an<|tn ?_
 refine sR<|fp k8<|lp k8 ?_
 obtain ⟨v1,hv1,h⟩:=ob h
 refine ae (AEff.conv (dF (x:= .agg [.int v1.n,.own 3 0 (v1.src.map eI).length,.own 4 0 (v1.tgt.map eI).length]) (nb:=[(3,⟨1,cM (v1.src.map eI)⟩),(4,⟨1,cM (v1.tgt.map eI)⟩)]) (aFz a0.q v1 hv1) k (by rfl) k k (bU aJ (bU (dR.good _) (bU (dR.good _) gS))) (aD (cD (aR (aV k) (aR (aV k) (aR (aV k) cO)))) bD)) (v':= .agg [.int v1.n,.own 3 0 v1.src.length,.own 4 0 v1.tgt.length]) (ed':=[(3,some ⟨1,v1.src.map (ow eI)⟩),(4,some ⟨1,v1.tgt.map (ow eI)⟩)]) (by simp only [aZ]) (fB (nb':=[(3,⟨1,v1.src.map (ow eI)⟩),(4,⟨1,v1.tgt.map (ow eI)⟩)]) (by simp only [cW]))) k<|fp k8<|ae (bK aB k k k k k k k k) k<|an<|tn<|aM (t:=bN [(1,.ptr 0 0 0),(2,.ptr 1 0 0),(3,.ptr 2 0 0)] [(0,⟨6,[[.int a0.p,.int a0.q.n,.list 1 (a0.q.src.map eI),.list 1 (a0.q.tgt.map eI),.list 1 (a0.dims.map eI),.list 3 (a0.maps.map eM)]]⟩),(1,⟨6,[[.int 0,.int 0,.nil 1,.nil 1,.nil 1,.nil 3]]⟩),(2,⟨6,[[.int a0.p,.int v1.n,.own 3 0 v1.src.length,.own 4 0 v1.tgt.length,.nil 1,.nil 3]]⟩),(3,⟨1,v1.src.map (ow eI)⟩),(4,⟨1,v1.tgt.map (ow eI)⟩)] 5 [5,6,7,8]) (aC (σ:=sg [(0,0),(1,1),(2,2),(3,3),(4,4)]) ⟨(pE k k),(pE k k),(pE k k),aJ⟩ (hP k k k k<|hP k k k k<|hX ⟨_,k,k,.inr ⟨_,_,k,⟨_,_,k,k,⟨_,_,k,k,⟨_,_,k,⟨k,k,k,k⟩,⟨_,_,k,⟨k,k,k,k⟩,⟨_,_,k,aJ,⟨_,_,k,aJ,k⟩⟩⟩⟩⟩⟩,k⟩⟩ k<|hI k k k<|hI k k k<|aJ) k) ?_
 refine sR<|fp k8<|lp k8 ?_
 obtain ⟨v2,hv2,h⟩:=ob h
 refine ae (AEff.conv (dF (x:= .own 5 0 (v2.map eI).length) (nb:=[(5,⟨1,cM (v2.map eI)⟩)]) (vY a0.dims v2 hv2) k (by rfl) k k (dR.good _) (aD (aO k) bD)) (v':= .own 5 0 v2.length) (ed':=[(5,some ⟨1,v2.map (ow eI)⟩)]) (by simp only [aZ]) (fB (nb':=[(5,⟨1,v2.map (ow eI)⟩)]) (by simp only [cW]))) k<|fp k8<|ae (bK aB k k k k k k k k) k<|an<|tn<|sR<|fp k8<|lp k8 ?_
 obtain ⟨v3,hv3,h⟩:=ob h
 refine ae (AEff.conv (dF (x:= .own 6 0 (v3.map eM).length) (nb:=[(6,⟨3,cM (v3.map eM)⟩)]) (aEs a0.maps v3 hv3) k (by rfl) k k (lQ.good _) (aD (aO k) bD)) (v':= .own 6 0 v3.length) (ed':=[(6,some ⟨3,v3.map (ow eM)⟩)]) (by simp only [aZ]) (fB (nb':=[(6,⟨3,v3.map (ow eM)⟩)]) (by simp only [cW]))) k<|fp k8<|ae (bK aB k k k k k k k k) k<|an<|tn<|sR<|lp k8<|ae (bK aB k k k k k k k k) k<|an ?_
 refine tn<|aM (t:=bN [(2,.ptr 1 0 0)] [(1,⟨6,[[.int a0.p,.int v1.n,.own 3 0 v1.src.length,.own 4 0 v1.tgt.length,.own 5 0 v2.length,.own 6 0 v3.length]]⟩),(3,⟨1,v1.src.map (ow eI)⟩),(4,⟨1,v1.tgt.map (ow eI)⟩),(5,⟨1,v2.map (ow eI)⟩),(6,⟨3,v3.map (ow eM)⟩)] 7 [7,8]) (aC (σ:=sg [(1,1),(3,3),(4,4),(5,5),(6,6)]) ⟨(pE k k),aJ⟩ (hX ⟨_,k,k,.inr ⟨_,_,k,⟨_,_,k,k,⟨_,_,k,k,⟨_,_,k,⟨k,k,k,k⟩,⟨_,_,k,⟨k,k,k,k⟩,⟨_,_,k,⟨k,k,k,k⟩,⟨_,_,k,⟨k,k,k,k⟩,k⟩⟩⟩⟩⟩⟩,k⟩⟩ k<|hI k k k<|hI k k k<|hI k k k<|hB (lQ.plainO _) k k k<|aJ) k)<|aL ?_
 obtain rfl:=so h
 exact aS k k k (qV (cF (k) (cF (k) (cF (iZ dR k k) (cF (iZ dR k k) (cF (iZ dR k k) (cF (iZ lQ k k) iD)))))))
def vH (a0:(List Int)) (a1:(List Int)) (x1:Int):Option (Int ⊕ (Unit ⊕ Bool)):=
 bif decide (x1<(a0.length:Int)) then
 (Option.bind (dY a0 x1) fun v3=>
 Option.bind (dY a1 x1) fun v4=>
 bif !decide (v3=v4) then
 (some (.inr (.inr (false))))
 else
 (some (.inl (wr (x1+1)))))
 else
 (some (.inr (.inl ())))
def kY (a0:(List Int)) (a1:(List Int)):Option Bool:=
 bif !decide ((a0.length:Int)=(a1.length:Int)) then
 (some (false))
 else
 (Option.bind (Lp (vH a0 a1) 0) fun y6=>
 Sum.elim (fun y7=>
 some (true)
 )
 (fun y8=>
 some y8
 )
 y6)
theorem rC (a0:(List Int)) (a1:(List Int)) (r:Bool) (h:kY a0 a1=some r):HasC Tryz.prog 25 [.list 1 (a0.map eI),.list 1 (a1.map eI)] (.bl r):=by
 refine bJ aB (rvs:=[.tmp 4]) (ns:=[0,1]) Tryz.func25 k k Tryz.ntmps25 k k k<|sR<|aT k2<|sQ<|sR<|am k k ?_
 refine ln k4<|am k k<|ln k4<|cm k4<|an<|tn ?_
 rcases cb h with ⟨q1,h⟩|⟨q1,h⟩
 ·refine aH k q1<|sR<|aT k2<|aL<|aG ?_
  obtain rfl:=so h
  exact aS k k k (bO k)
 ·refine aN k q1<|aQ<|tn<|sQ<|sR<|aT k2<|aI ?_
  obtain ⟨y6,hy6,h⟩:=ob h
  refine cV (body:=(vH a0 a1)) hy6 (fun (x1:Int)=>bN [(0,.list 1 (a0.map eI)),(1,.list 1 (a1.map eI)),(5,.int x1)] [] 0 [0,1]) (fun r e t=>Sum.elim (fun a=>(fun r e t=>e= .exit 0∧Ent t (bN [] [] 0 [0,1])) a e t) (fun b=>(fun r e t=>e= .ret∧oD TT [.tmp 4] (.bl r) .ret t) b e t) r) (aC (σ:=sg []) ⟨⟨_,k,⟨k,k⟩⟩,⟨_,k,⟨k,k⟩⟩,(e1 k k),aJ⟩ aJ k) ?_ ?_
  ·intro x1 o h
   refine sQ<|sR<|am k k<|am k k<|ln k4<|cm k4<|an<|tn ?_
   rcases cb h with ⟨q2,h⟩|⟨q2,h⟩
   ·refine aH k q2<|aQ<|tn<|sQ<|aI<|sQ<|aW kI<|am k k<|am k k ?_
    obtain ⟨v3,hv3,h⟩:=ob h
    refine ae (bF aB hv3 k k k k k k) k<|lr k7<|am k k<|am k k ?_
    obtain ⟨v4,hv4,h⟩:=ob h
    refine ae (bF aB hv4 k k k k k k) k<|lr k7<|cm k4<|an ?_
    refine ⟨by kernel_rfl,?_⟩
    refine tn<|aM (t:=bN [(0,.list 1 (a0.map eI)),(1,.list 1 (a1.map eI)),(5,.int x1),(25,.bl (!decide (v3=v4)))] [] 0 [0,1]) (aC (σ:=sg []) ⟨⟨_,k,⟨k,k⟩⟩,⟨_,k,⟨k,k⟩⟩,(e1 k k),(e1 k k),aJ⟩ aJ k) ?_
    rcases cb h with ⟨q5,h⟩|⟨q5,h⟩
    ·refine aH k q5<|sR<|aT k2<|aL<|aY<|aG<|aG ?_
     obtain rfl:=so h
     exact ⟨_,k,k,aS k k k (bO k)⟩
    ·refine aN k q5<|aQ<|bB<|tn<|rg<|am k k<|ae (bT k k) k<|aT k2 ?_
     obtain rfl:=so h
     exact ⟨_,k,(aC (σ:=sg []) ⟨⟨_,k,⟨k,k⟩⟩,⟨_,k,⟨k,k⟩⟩,(e1 k k),aJ⟩ aJ k)⟩
   ·refine aN k q2<|bC<|aE<|aE ?_
    obtain rfl:=so h
    exact ⟨_,k,k,(aC (σ:=sg []) aJ aJ k)⟩
  ·intro e t hX
   rcases y6 with y7|y8
   ·obtain ⟨rfl,hent⟩:=hX
    refine aU<|tn<|aM hent<|sR<|aT k2<|aL ?_
    obtain rfl:=so h
    exact aS k k k (bO k)
   ·obtain ⟨rfl,hent⟩:=hX
    refine aY<|aG ?_
    obtain rfl:=so h
    exact hent
def rS (a0:Qv) (a1:Qv):Option Bool:=
 bif !decide (a0.n=a1.n) then
 (some (false))
 else
 (Option.bind (kY a0.src a1.src) fun v2=>
 bif !v2 then
 (some (false))
 else
 (Option.bind (kY a0.tgt a1.tgt) fun v4=>
 bif !v4 then
 (some (false))
 else
 (some (true))))
theorem aGB (a0:Qv) (a1:Qv) (r:Bool) (h:rS a0 a1=some r):HasC Tryz.prog 68 [.agg (eQ a0),.agg (eQ a1)] (.bl r):=by
 refine bJ aB (rvs:=[.tmp 4]) (ns:=[0,1,2,3]) Tryz.func68 k k Tryz.ntmps68 k k k<|sR<|ae (cE k k k k) k<|ae (cE k k k k) k<|aT k2<|sQ<|sQ ?_
 refine rg<|fp k8<|lp k8<|fp k8<|lp k8<|cm k4<|an<|tn ?_
 rcases cb h with ⟨q1,h⟩|⟨q1,h⟩
 ·refine aH k q1<|sR<|aT k2<|aL<|aG ?_
  obtain rfl:=so h
  exact aS k k k (bO k)
 ·refine aN k q1<|aQ<|tn<|sQ<|sR<|fp k8<|lp k8<|fp k8<|lp k8 ?_
  obtain ⟨v2,hv2,h⟩:=ob h
  refine ae (bA (rC a0.src a1.src v2 hv2) k (aD (aO k) (aD (aO k) bD))) k<|ae (cJ k) k<|an<|tn<|aM (t:=bN [(2,.ptr 0 0 0),(3,.ptr 1 0 0),(15,.bl (!v2))] [(0,⟨3,[[.int a0.n,.list 1 (a0.src.map eI),.list 1 (a0.tgt.map eI)]]⟩),(1,⟨3,[[.int a1.n,.list 1 (a1.src.map eI),.list 1 (a1.tgt.map eI)]]⟩)] 2 [2,3]) (aC (σ:=sg [(0,0),(1,1)]) ⟨(pE k k),(pE k k),(e1 k k),aJ⟩ (hP k k k k<|hP k k k k<|aJ) k) ?_
  rcases cb h with ⟨q3,h⟩|⟨q3,h⟩
  ·refine aH k q3<|sR<|aT k2<|aL<|aG ?_
   obtain rfl:=so h
   exact aS k k k (bO k)
  ·refine aN k q3<|aQ<|tn<|sQ<|sR<|fp k8<|lp k8<|fp k8<|lp k8 ?_
   obtain ⟨v4,hv4,h⟩:=ob h
   refine ae (bA (rC a0.tgt a1.tgt v4 hv4) k (aD (aO k) (aD (aO k) bD))) k<|ae (cJ k) k<|an<|tn ?_
   rcases cb h with ⟨q5,h⟩|⟨q5,h⟩
   ·refine aH k q5<|sR<|aT k2<|aL<|aG ?_
    obtain rfl:=so h
    exact aS k k k (bO k)
   ·refine aN k q5<|aQ<|tn<|sR<|aT k2<|aL ?_
    obtain rfl:=so h
    exact aS k k k (bO k)
def rT (a0:Mt) (a1:Mt):Option Bool:=
 bif !decide (a0.rows=a1.rows) then
 (some (false))
 else
 (bif !decide (a0.cols=a1.cols) then
 (some (false))
 else
 (Option.bind (kY a0.cells a1.cells) fun v3=>
 bif !v3 then
 (some (false))
 else
 (some (true))))
theorem aGC (a0:Mt) (a1:Mt) (r:Bool) (h:rT a0 a1=some r):HasC Tryz.prog 124 [.agg (eM a0),.agg (eM a1)] (.bl r):=by
 refine bJ aB (rvs:=[.tmp 4]) (ns:=[0,1,2,3]) Tryz.func124 k k Tryz.ntmps124 k k k<|sR<|ae (cE k k k k) k<|ae (cE k k k k) k<|aT k2<|sQ<|sQ ?_
 refine rg<|fp k8<|lp k8<|fp k8<|lp k8<|cm k4<|an<|tn ?_
 rcases cb h with ⟨q1,h⟩|⟨q1,h⟩
 ·refine aH k q1<|sR<|aT k2<|aL<|aG ?_
  obtain rfl:=so h
  exact aS k k k (bO k)
 ·refine aN k q1<|aQ<|tn<|sQ<|sR<|fp k8<|lp k8<|fp k8<|lp k8 ?_
  refine cm k4<|an<|tn<|aM (t:=bN [(2,.ptr 0 0 0),(3,.ptr 1 0 0),(14,.bl (!decide (a0.cols=a1.cols)))] [(0,⟨3,[[.int a0.rows,.int a0.cols,.list 1 (a0.cells.map eI)]]⟩),(1,⟨3,[[.int a1.rows,.int a1.cols,.list 1 (a1.cells.map eI)]]⟩)] 2 [2,3]) (aC (σ:=sg [(0,0),(1,1)]) ⟨(pE k k),(pE k k),(e1 k k),aJ⟩ (hP k k k k<|hP k k k k<|aJ) k) ?_
  rcases cb h with ⟨q2,h⟩|⟨q2,h⟩
  ·refine aH k q2<|sR<|aT k2<|aL<|aG ?_
   obtain rfl:=so h
   exact aS k k k (bO k)
  ·refine aN k q2<|aQ<|tn<|sQ<|sR<|fp k8<|lp k8<|fp k8<|lp k8 ?_
   obtain ⟨v3,hv3,h⟩:=ob h
   refine ae (bA (rC a0.cells a1.cells v3 hv3) k (aD (aO k) (aD (aO k) bD))) k<|ae (cJ k) k<|an<|tn ?_
   rcases cb h with ⟨q4,h⟩|⟨q4,h⟩
   ·refine aH k q4<|sR<|aT k2<|aL<|aG ?_
    obtain rfl:=so h
    exact aS k k k (bO k)
   ·refine aN k q4<|aQ<|tn<|sR<|aT k2<|aL ?_
    obtain rfl:=so h
    exact aS k k k (bO k)
def lI (a0:(List Mt)) (a1:(List Mt)) (x1:Int):Option (Int ⊕ (Unit ⊕ Bool)):=
 bif decide (x1<(a0.length:Int)) then
 (Option.bind (dY a0 x1) fun v3=>
 Option.bind (dY a1 x1) fun v4=>
 Option.bind (rT v3 v4) fun v5=>
 bif !v5 then
 (some (.inr (.inr (false))))
 else
 (some (.inl (wr (x1+1)))))
 else
 (some (.inr (.inl ())))
def qN (a0:(List Mt)) (a1:(List Mt)):Option Bool:=
 bif !decide ((a0.length:Int)=(a1.length:Int)) then
 (some (false))
 else
 (Option.bind (Lp (lI a0 a1) 0) fun y7=>
 Sum.elim (fun y8=>
 some (true)
 )
 (fun y9=>
 some y9
 )
 y7)
theorem aEt (a0:(List Mt)) (a1:(List Mt)) (r:Bool) (h:qN a0 a1=some r):HasC Tryz.prog 66 [.list 3 (a0.map eM),.list 3 (a1.map eM)] (.bl r):=by
 refine bJ aB (rvs:=[.tmp 4]) (ns:=[0,1]) Tryz.func66 k k Tryz.ntmps66 k k k<|sR<|aT k2<|sQ<|sR<|am k k ?_
 refine ln k4<|am k k<|ln k4<|cm k4<|an<|tn ?_
 rcases cb h with ⟨q1,h⟩|⟨q1,h⟩
 ·refine aH k q1<|sR<|aT k2<|aL<|aG ?_
  obtain rfl:=so h
  exact aS k k k (bO k)
 ·refine aN k q1<|aQ<|tn<|sQ<|sR<|aT k2<|aI ?_
  obtain ⟨y7,hy7,h⟩:=ob h
  refine cV (body:=(lI a0 a1)) hy7 (fun (x1:Int)=>bN [(0,.list 3 (a0.map eM)),(1,.list 3 (a1.map eM)),(5,.int x1)] [] 0 [0,1]) (fun r e t=>Sum.elim (fun a=>(fun r e t=>e= .exit 0∧Ent t (bN [] [] 0 [0,1])) a e t) (fun b=>(fun r e t=>e= .ret∧oD TT [.tmp 4] (.bl r) .ret t) b e t) r) (aC (σ:=sg []) ⟨⟨_,k,⟨k,k⟩⟩,⟨_,k,⟨k,k⟩⟩,(e1 k k),aJ⟩ aJ k) ?_ ?_
  ·intro x1 o h
   refine sQ<|sR<|am k k<|am k k<|ln k4<|cm k4<|an<|tn ?_
   rcases cb h with ⟨q2,h⟩|⟨q2,h⟩
   ·refine aH k q2<|aQ<|tn<|sQ<|aI<|sQ<|aW kI<|am k k<|am k k ?_
    obtain ⟨v3,hv3,h⟩:=ob h
    refine ae (bF aB hv3 k k k k k k) k<|lr k7<|am k k<|am k k ?_
    obtain ⟨v4,hv4,h⟩:=ob h
    refine ae (bF aB hv4 k k k k k k) k<|lr k7 ?_
    obtain ⟨v5,hv5,h⟩:=ob h
    refine ae (bA (aGC v3 v4 v5 hv5) k (aD (cD (aR (aV k) (aR (aV k) (aR (aV k) cO)))) (aD (cD (aR (aV k) (aR (aV k) (aR (aV k) cO)))) bD))) k<|ae (cJ k) k<|an ?_
    refine ⟨by kernel_rfl,?_⟩
    refine tn<|aM (t:=bN [(0,.list 3 (a0.map eM)),(1,.list 3 (a1.map eM)),(5,.int x1),(26,.bl (!v5))] [] 0 [0,1]) (aC (σ:=sg []) ⟨⟨_,k,⟨k,k⟩⟩,⟨_,k,⟨k,k⟩⟩,(e1 k k),(e1 k k),aJ⟩ aJ k) ?_
    rcases cb h with ⟨q6,h⟩|⟨q6,h⟩
    ·refine aH k q6<|sR<|aT k2<|aL<|aY<|aG<|aG ?_
     obtain rfl:=so h
     exact ⟨_,k,k,aS k k k (bO k)⟩
    ·refine aN k q6<|aQ<|bB<|tn<|rg<|am k k<|ae (bT k k) k<|aT k2 ?_
     obtain rfl:=so h
     exact ⟨_,k,(aC (σ:=sg []) ⟨⟨_,k,⟨k,k⟩⟩,⟨_,k,⟨k,k⟩⟩,(e1 k k),aJ⟩ aJ k)⟩
   ·refine aN k q2<|bC<|aE<|aE ?_
    obtain rfl:=so h
    exact ⟨_,k,k,(aC (σ:=sg []) aJ aJ k)⟩
  ·intro e t hX
   rcases y7 with y8|y9
   ·obtain ⟨rfl,hent⟩:=hX
    refine aU<|tn<|aM hent<|sR<|aT k2<|aL ?_
    obtain rfl:=so h
    exact aS k k k (bO k)
   ·obtain ⟨rfl,hent⟩:=hX
    refine aY<|aG ?_
    obtain rfl:=so h
    exact hent
def xJ (a0:Rp) (a1:Rp):Option Bool:=
 bif !decide (a0.p=a1.p) then
 (some (false))
 else
 (Option.bind (rS a0.q a1.q) fun v2=>
 bif !v2 then
 (some (false))
 else
 (Option.bind (kY a0.dims a1.dims) fun v4=>
 bif !v4 then
 (some (false))
 else
 (Option.bind (qN a0.maps a1.maps) fun v6=>
 bif !v6 then
 (some (false))
 else
 (some (true)))))
theorem aJy (a0:Rp) (a1:Rp) (r:Bool) (h:xJ a0 a1=some r):HasC Tryz.prog 18 [.agg (eR a0),.agg (eR a1)] (.bl r):=by
 refine bJ aB (rvs:=[.tmp 4]) (ns:=[0,1,2,3]) Tryz.func18 k k Tryz.ntmps18 k k k<|sR<|ae (cE k k k k) k<|ae (cE k k k k) k<|aT k2<|sQ<|sQ ?_
 refine rg<|fp k8<|lp k8<|fp k8<|lp k8<|cm k4<|an<|tn ?_
 rcases cb h with ⟨q1,h⟩|⟨q1,h⟩
 ·refine aH k q1<|sR<|aT k2<|aL<|aG ?_
  obtain rfl:=so h
  exact aS k k k (bO k)
 ·refine aN k q1<|aQ<|tn<|sQ<|sR<|fp k8<|lp k8<|fp k8<|lp k8 ?_
  obtain ⟨v2,hv2,h⟩:=ob h
  refine ae (bA (aGB a0.q a1.q v2 hv2) k (aD (cD (aR (aV k) (aR (aV k) (aR (aV k) cO)))) (aD (cD (aR (aV k) (aR (aV k) (aR (aV k) cO)))) bD))) k<|ae (cJ k) k<|an<|tn<|aM (t:=bN [(2,.ptr 0 0 0),(3,.ptr 1 0 0),(15,.bl (!v2))] [(0,⟨6,[[.int a0.p,.int a0.q.n,.list 1 (a0.q.src.map eI),.list 1 (a0.q.tgt.map eI),.list 1 (a0.dims.map eI),.list 3 (a0.maps.map eM)]]⟩),(1,⟨6,[[.int a1.p,.int a1.q.n,.list 1 (a1.q.src.map eI),.list 1 (a1.q.tgt.map eI),.list 1 (a1.dims.map eI),.list 3 (a1.maps.map eM)]]⟩)] 2 [2,3]) (aC (σ:=sg [(0,0),(1,1)]) ⟨(pE k k),(pE k k),(e1 k k),aJ⟩ (hP k k k k<|hP k k k k<|aJ) k) ?_
  rcases cb h with ⟨q3,h⟩|⟨q3,h⟩
  ·refine aH k q3<|sR<|aT k2<|aL<|aG ?_
   obtain rfl:=so h
   exact aS k k k (bO k)
  ·refine aN k q3<|aQ<|tn<|sQ<|sR<|fp k8<|lp k8<|fp k8<|lp k8 ?_
   obtain ⟨v4,hv4,h⟩:=ob h
   refine ae (bA (rC a0.dims a1.dims v4 hv4) k (aD (aO k) (aD (aO k) bD))) k<|ae (cJ k) k<|an<|tn ?_
   rcases cb h with ⟨q5,h⟩|⟨q5,h⟩
   ·refine aH k q5<|sR<|aT k2<|aL<|aG ?_
    obtain rfl:=so h
    exact aS k k k (bO k)
   ·refine aN k q5<|aQ<|tn<|sQ<|sR<|fp k8<|lp k8<|fp k8<|lp k8 ?_
    obtain ⟨v6,hv6,h⟩:=ob h
    refine ae (bA (aEt a0.maps a1.maps v6 hv6) k (aD (aO k) (aD (aO k) bD))) k<|ae (cJ k) k<|an<|tn<|aM (t:=bN [(27,.bl (!v6))] [] 2 [2,3]) (aC (σ:=sg []) ⟨(e1 k k),aJ⟩ aJ k) ?_
    rcases cb h with ⟨q7,h⟩|⟨q7,h⟩
    ·refine aH k q7<|sR<|aT k2<|aL<|aG ?_
     obtain rfl:=so h
     exact aS k k k (bO k)
    ·refine aN k q7<|aQ<|tn<|sR<|aT k2<|aL ?_
     obtain rfl:=so h
     exact aS k k k (bO k)
end
end Go.Proofs.YtghechfdejhapaaGreat

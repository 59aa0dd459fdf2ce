/-
  Several texts of the claim in one.
-/
import Derived.Lib.AppendZerosOnto
import Derived.Test.YtghechfdejhapaaGreatH6
set_option linter.unusedVariables false
set_option linter.unusedSimpArgs false
namespace Go.Proofs.YtghechfdejhapaaGreat
open Go.RowKit
noncomputable section
set_option maxRecDepth 10000
structure HasV (P:Program) (f:FuncId) (ds:List AV) (r:AV):Prop where
 enters:Enters P f
 calls: ∀ (w:World) (args:Array Value) (S:List Nat),RepVs w ds args.toList S→Calls P f args w fun e w'=> ∃ v S',e= .returned v∧Below w.heap.size w w'∧RepD w' r v S'∧ ∀ x∈S',x∈S
theorem aBd {w:World} {h:Hp} {u:Us} {ν:Nu} {d:AV} {v:Value} (r:Rep1 w h u ν d v) (ok:eP d=true): ∃ S,RepD w d v S∧ ∀ x∈S,gT h ν x:=by
 cases d <;> simp only [eP,Bool.false_eq_true] at ok <;> simp only [Rep1] at r
 ·exact ⟨[],by rw [r.1];exact yJ r.2,by simp⟩
 ·exact r
 ·exact r
theorem aCQ {w:World} {h:Hp} {u:Us} {ν:Nu} : ∀ {ds:List AV} {vs:List Value},All2 (Rep1 w h u ν) ds vs→ds.all eP=true→ ∃ S,RepVs w ds vs S∧ ∀ x∈S,gT h ν x
 | [],vs,r,_=>by simp only [All2] at r;subst r;exact ⟨[],by simp [RepVs],by simp⟩
 |d::ds,vs,⟨v,q,e,r1,r2⟩,ok=>by
  subst e
  simp only [List.all_cons,Bool.and_eq_true] at ok
  obtain ⟨S1,a1,a2⟩:=aBd r1 ok.1
  obtain ⟨S2,b1,b2⟩:=aCQ r2 ok.2
  refine ⟨S1++S2,by simp only [RepVs];exact ⟨v,q,S1,S2,rfl,rfl,a1,b1⟩,fun x hx=>?_⟩
  rcases List.mem_append.1 hx with h|h
  ·exact a2 x h
  ·exact b2 x h
theorem aNa {w:World} {h:Hp} {u:Us} {ν:Nu} {d:AV} {v:Value} (r:RepA w h u ν d v) (ok:sX d=true): ∃ S,RepD w d v S∧ ∀ x∈S,gT h ν x:=by
 cases d <;> simp only [sX,eP,Bool.false_eq_true] at ok <;> simp only [RepA,RepB] at r
 ·exact aBd r rfl
 ·exact aBd r rfl
 ·exact aBd r rfl
 ·obtain ⟨vs,rfl,r⟩:=r
  obtain ⟨S,a,b⟩:=aCQ r ok
  exact ⟨S,by simp only [RepD];exact ⟨vs,rfl,a⟩,b⟩
 ·obtain ⟨vs,rfl,r⟩:=r
  obtain ⟨S,a,b⟩:=aCQ r ok
  exact ⟨S,by simp only [RepD];exact ⟨vs,rfl,a⟩,b⟩
theorem aCR {w:World} {h:Hp} {u:Us} {ν:Nu} : ∀ {ds:List AV} {vs:List Value},All2 (RepA w h u ν) ds vs→ds.all sX=true→ ∃ S,RepVs w ds vs S∧ ∀ x∈S,gT h ν x
 | [],vs,r,_=>by simp only [All2] at r;subst r;exact ⟨[],by simp [RepVs],by simp⟩
 |d::ds,vs,⟨v,q,e,r1,r2⟩,ok=>by
  subst e
  simp only [List.all_cons,Bool.and_eq_true] at ok
  obtain ⟨S1,a1,a2⟩:=aNa r1 ok.1
  obtain ⟨S2,b1,b2⟩:=aCR r2 ok.2
  refine ⟨S1++S2,by simp only [RepVs];exact ⟨v,q,S1,S2,rfl,rfl,a1,b1⟩,fun x hx=>?_⟩
  rcases List.mem_append.1 hx with h|h
  ·exact a2 x h
  ·exact b2 x h
section
variable {P:Program} {dst:Option Tmp} {ty:TypeId} {pos:String} {aft:Array Edge} {g:Option (Nat×Bool)} {ins:Operand→Option AV} {hp:Hp} {κ:Kp}
theorem aGs {fo:Operand} {xs:Array Operand} {ats:Array TypeId} {f:FuncId} {ds:List AV} {k:Nat} {es:List (List AV)} (hc:HasV P f ds (.list k es)) (hf:ins fo=some (.fn f [])) (hx:evs ins xs.toList=some ds) (hok:ds.all sX=true):
  AEff P ⟨dst,.call ⟨.value fo,xs,ats⟩,ty,pos,aft,g⟩ ins hp κ ⟨.list k es,[],[],[]⟩:=by
 refine ⟨fun C s ν a w Q K {hκ} hi' ht hnw hd hs hK=>?_⟩
 have h1:=hs.ev ((hi' fo (by simp [Op.operands,Call.operands])).trans hf)
 simp only [RepA,RepB] at h1
 obtain ⟨cv,h1,h2⟩:=h1
 simp only [All2] at h2
 subst h2
 have h3:=wN hs (xs:=xs.toList) (fun y hy=>hi' y (by simp [Op.operands,Call.operands];exact .inr (Array.mem_toList_iff.1 hy))) hx
 obtain ⟨S,e1,e2⟩:=aCR h3 hok
 have hcall:=hc.calls w (xs.map a.eval) S (by simpa using e1)
 unfold Oper.wp
 have hex:(execOp a.eval ⟨dst,.call ⟨.value fo,xs,ats⟩,ty,pos,aft,g⟩).run P w= .ok (.enter f (xs.map a.eval)) w:=by
  have:execOp a.eval ⟨dst,.call ⟨.value fo,xs,ats⟩,ty,pos,aft,g⟩=callFunc f (xs.map a.eval):=by
   simp [execOp,resolve,h1,Deferred.ofValue,invoke]
  rw [this]
  exact hc.enters _ _
 rw [hex]
 simp only [Oper.upon]
 refine hcall.mono fun e w' ⟨v,S',he,hb,hr,hsub⟩=>?_
 subst he
 simp only
 obtain ⟨φ,hh⟩:=hs.heap
 have ext:Ext w s.heap s.used ν w' s.heap s.used ν:=⟨fun _ h=>h,fun _ blk _ h=>⟨blk,h,rfl,rfl,rfl⟩,fun x hx h=>⟨hb.block x hx,h⟩,rfl⟩
 refine hK ν _ _ (hs.step hd (s':=s.app dst _) ext (hb.mono hs.base) ⟨φ,fun b blk hbl=>?_,hh.apart⟩ rfl ?_)
 ·obtain ⟨g1,g2,g3,g4⟩:=hh.blk b blk hbl
  exact ⟨g1,g2.ext ext rfl (fun y hy=>hb.block y (g2.lt y hy)),g3,g4⟩
 ·exact ⟨S',hr,fun x hx=>e2 x (hsub x hx)⟩
theorem aLq {T:List (Nat×Ty)} (hT:TyOk P T) {s:AState} {x:Operand} {zl zh:Operand} {t e:Nat} {y ye:Ty} {ao:Option Addr} {n c:Nat} {kl kh:IntKind} {l h:Int} (q:0≤l∧l≤h∧h≤n∧n≤c) (hx:s.ev x=some (.sc (.slice ao n c))) (hlo:s.ev zl=some (.sc (.int kl l))) (hhi:s.ev zh=some (.sc (.int kh h))) (hy:eE T t=some y) (hd:y.desc= .slice e) (hye:eE T e=some ye):
  AEff P ⟨dst,.slice t x (some zl) (some zh) none,ty,pos,aft,g⟩ s.ev s.heap s.kp ⟨.sc (.slice (if c=l.toNat then ao else ao.map (·.add (l.toNat*ye.size))) (h.toNat - l.toNat) (c - l.toNat)),[],[],[]⟩:=by
 refine AEff.pure fun C s' ν a w hi' ht hs=>?_
 have h1:=hs.ev ((hi' x (by simp [Op.operands])).trans hx)
 have h2:=hs.ev ((hi' zl (by simp [Op.operands])).trans hlo)
 have h3:=hs.ev ((hi' zh (by simp [Op.operands])).trans hhi)
 simp only [RepA,RepB,Rep1] at h1 h2 h3
 obtain ⟨i1,z1,d1,y1⟩:=hT.is hy
 obtain ⟨i2,z2,d2,y2⟩:=hT.is hye
 have hsb:=vZ (P:=P) (len:=n) (cap:=c) (lo:=some (.int kl l)) (hi:=some (.int kh h)) w (.inr ⟨kl,rfl⟩) (.inr ⟨kh,rfl⟩) q.1 q.2.1 q.2.2.1 q.2.2.2
 refine ⟨_,?_,tF rfl⟩
 simp only [execOp,Instr.sliceAt,Instr.slice,h1.1,h2.1,h3.1,Sem.run_bind,iR (y1.slice hd),Result.andThen_ok,jC y2.info,y2.size,Option.map_none,Option.map_some]
 rw [hsb]
 by_cases e:c=l.toNat <;> simp [e]
end
theorem aNb {w:World} {k n c:Nat} {es:List (List AV)} {ao:Option Addr} {S:List Nat} {l h:Int} (r:RepD w (.list k es) (.slice ao n c) S) (q:0≤l∧l≤h∧h≤n): ∃ S',RepD w (.list k ((es.drop l.toNat).take (h.toNat - l.toNat))) (.slice (if c=l.toNat then ao else ao.map (·.add (l.toNat*k))) (h.toNat - l.toNat) (c - l.toNat)) S'∧ ∀ x∈S',x∈S:=by
 simp only [RepD] at r ⊢
 obtain ⟨ao',c',h3,h4,h5,h6⟩:=r
 cases h3
 have hlen:((es.drop l.toNat).take (h.toNat - l.toNat)).length=h.toNat - l.toNat:=by simp;omega
 rw [hlen]
 by_cases hz:h.toNat - l.toNat=0
 ·refine ⟨[],⟨_,_,rfl,by omega,by omega,.inl ⟨?_,rfl⟩⟩,by simp⟩
  rw [hz];simp
 ·rcases h6 with ⟨h6,_⟩|⟨b,o,S',rfl,h8,rfl,h9⟩
  ·have:es.length=0:=by rw [h6];rfl
   omega
  ·rw [if_neg (by omega)]
   obtain ⟨U1,g1,g2⟩:=h9.dropT (m:=l.toNat)
   obtain ⟨U2,g3,g4⟩:=g1.takeT (m:=h.toNat - l.toNat)
   refine ⟨b::U2,⟨_,_,rfl,by omega,by omega,.inr ⟨b,o+l.toNat*k,U2,by simp [Addr.add_lit],h8,rfl,g3⟩⟩,?_⟩
   intro y hy
   rcases List.mem_cons.1 hy with rfl|h'
   ·simp
   ·simp [g2 y (g4 y h')]
def vM (m:Mt) (i:Int):Int:=wr (i*m.cols)
def aBE (m:Mt) (i:Int):Int:=wr (wr (i+1)*m.cols)
def aCS (m:Mt) (i:Int):Option (List Int):=bif (decide (0≤vM m i)&&(decide (vM m i≤aBE m i)&&decide (aBE m i≤(m.cells.length:Int)))) then some ((m.cells.drop (vM m i).toNat).take ((aBE m i).toNat - (vM m i).toNat)) else none
theorem aRI (m:Mt) (i:Int) (ao:Option Addr) (n c:Nat) (q:0≤vM m i∧vM m i≤aBE m i∧aBE m i≤n∧n≤c):HasC Tryz.prog 190 [.agg [.int m.rows,.int m.cols,.sc (.slice ao n c)],.int i]
  (.sc (.slice (if c=(vM m i).toNat then ao else ao.map (·.add ((vM m i).toNat *1))) ((aBE m i).toNat - (vM m i).toNat) (c - (vM m i).toNat))):=by
 refine bN aA (rvs:=[.tmp 4]) (ns:=[0,1,2,3,4,5,6,7,8,9,10,11,12,13]) Tryz.func190 rfl rfl Tryz.ntmps190 rfl rfl rfl ?_
 refine eF ?_
 refine cK ?_
 refine aB (cD rfl rfl rfl rfl) rfl rfl rfl ?_
 refine aB (aV rfl) rfl rfl rfl ?_
 refine cX ?_
 refine eH ?_
 refine eF ?_
 refine cK ?_
 refine aB (aD aA rfl rfl rfl rfl rfl rfl rfl) rfl rfl rfl ?_
 refine aB (aC aA rfl rfl rfl rfl rfl rfl rfl) rfl rfl rfl ?_
 refine aB (aS rfl) rfl rfl rfl ?_
 refine aB (aD aA rfl rfl rfl rfl rfl rfl rfl) rfl rfl rfl ?_
 refine aB (aC aA rfl rfl rfl rfl rfl rfl rfl) rfl rfl rfl ?_
 refine aB (gN rfl rfl) rfl rfl rfl ?_
 refine aB (aS rfl) rfl rfl rfl ?_
 refine aB (bW rfl rfl) rfl rfl rfl ?_
 refine aB (aD aA rfl rfl rfl rfl rfl rfl rfl) rfl rfl rfl ?_
 refine aB (aC aA rfl rfl rfl rfl rfl rfl rfl) rfl rfl rfl ?_
 refine aB (gN rfl rfl) rfl rfl rfl ?_
 refine aB (aLq aA (l:=vM m i) (h:=aBE m i) q rfl rfl rfl rfl rfl rfl) rfl rfl rfl ?_
 refine aB (aV rfl) rfl rfl rfl ?_
 refine cX ?_
 refine eH ?_
 refine aK ?_
 exact aT rfl rfl rfl (aRi rfl)
theorem aLr (m:Mt) (i:Int) (r:List Int) (h:aCS m i=some r):HasV Tryz.prog 190 [.agg (eM m),.int i] (.list 1 (List.map eI r)):=by
 obtain ⟨q,h⟩:=cg h
 obtain rfl:=so h
 simp only [Bool.and_eq_true,decide_eq_true_eq] at q
 refine ⟨Enters.mk Tryz.func190 (by kernel_rfl) (by kernel_rfl),fun w args S hargs=>?_⟩
 obtain ⟨args⟩:=args
 simp only [RepVs] at hargs
 obtain ⟨v,r,S1,S2,h1,rfl,h3,v2,r2,S3,S4,h4,rfl,h5,rfl,rfl⟩:=hargs
 subst h4 h1
 simp only [RepD,eM] at h3
 obtain ⟨vs,rfl,h3⟩:=h3
 simp only [RepVs] at h3
 obtain ⟨u1,r1,T1,T2,rfl,rfl,g1,u2,r3,T3,T4,rfl,rfl,g2,u3,r4,T5,T6,rfl,rfl,g3,rfl,rfl⟩:=h3
 have hu3: ∃ ao n c,u3= .slice ao n c∧n=m.cells.length∧n≤c:=by
  simp only [RepD] at g3
  obtain ⟨a,c,rfl,g4,_⟩:=g3
  exact ⟨_,_,_,rfl,by simp [aOY],g4⟩
 obtain ⟨ao,n,c,rfl,hn,hnc⟩:=hu3
 have hcall:=(aRI m i ao n c ⟨q.1,q.2.1,by omega,hnc⟩).calls w #[.agg #[u1,u2,.slice ao n c],v2] (T1++(T3++([]++[]))++(S3++[])) (by
  simp only [RepVs]
  refine ⟨_,_,_,_,rfl,rfl,?_,_,_,_,_,rfl,rfl,h5,rfl,rfl⟩
  simp only [RepD]
  refine ⟨[u1,u2,.slice ao n c],rfl,?_⟩
  simp only [RepVs]
  exact ⟨_,_,_,_,rfl,rfl,by simpa only [RepD] using g1,_,_,_,_,rfl,rfl,by simpa only [RepD] using g2,_,_,[],[],rfl,rfl,yJ rfl,rfl,rfl⟩)
 refine hcall.mono fun e w' ⟨v,S',he,hb,hr,_⟩=>?_
 simp only [aJF,aNQ,aAT] at hr
 obtain ⟨rfl,_,_⟩:=hr
 obtain ⟨U,k1,k2⟩:=aNb (l:=vM m i) (h:=aBE m i) g3 ⟨q.1,q.2.1,by omega⟩
 refine ⟨_,U,he,hb,?_,?_⟩
 ·have hes:((aNT m.cells).drop (vM m i).toNat).take ((aBE m i).toNat - (vM m i).toNat)=List.map eI ((m.cells.drop (vM m i).toNat).take ((aBE m i).toNat - (vM m i).toNat)):=by
   show ((m.cells.map eI).drop _).take _=_
   rw [List.map_take,List.map_drop]
  rw [←hes]
  exact k1.below hb
 ·intro x hx
  have:=k2 x hx
  simp [this]
def aOq (hp:Hp) (touch:List Nat):List (Nat×Option Blk)→Prop
 | []=>True
 |(b,x)::r=>hp b=x∧touch.contains b=true∧aOq hp touch r
theorem aFJ {hp h:Hp} {touch:List Nat} (ht: ∀ b∈touch,h b=hp b): ∀ {ed:List (Nat×Option Blk)},aOq hp touch ed→bK ed h=h
 | [],_=>rfl
 |(b,x)::r,⟨h1,h2,h3⟩=>by
  funext c
  simp only [bK]
  by_cases e:c=b
  ·subst e
   rw [cI,cond_true,←h1,ht c (by simpa using h2)]
  ·rw [cL e,cond_false,aFJ ht h3]
theorem AEff.pureE {P:Program} {o:Oper} {ins:Operand→Option AV} {hp:Hp} {κ:Kp} {v:AV} {tc:List Nat} {ed:List (Nat×Option Blk)} (h:AEff P o ins hp κ ⟨v,tc,ed,[]⟩) (hs:aOq hp tc ed):AEff P o ins hp κ ⟨v,tc,[],[]⟩:=by
 refine ⟨fun C s ν a w Q K {hκ} hi ht hn hd hsim hK=>h.out C s ν a w Q K (hκ:=hκ) hi ht hn hd hsim fun ν' a' w' hs'=>hK ν' a' w' ?_⟩
 have e:s.app o.dst ⟨v,tc,ed,[]⟩=s.app o.dst ⟨v,tc,[],[]⟩:=by
  unfold AState.app
  rw [aFJ ht hs]
  rfl
 rw [←e]
 exact hs'
theorem aJP {P:Program} {t tn e bytes:Nat} {size:Nat} (et:ElemTy P t e size bytes) (htn:P.underlying tn=some (.int .i64)) (hs:0<size) (w:World) (n:Nat) (h0:0<n) (hn:n≤1048576) (hb:n*bytes≤140737488355328) (ty:Nat):
  ∃ G cur,n≤G∧G≤maxLen∧cur.size=G*size∧(Builtin.append_ #[t,tn] ty #[.slice none 0 0,.int .i64 n]).run P w= .ok (.slice (some ⟨w.heap.size,0,none⟩) n G) (w.drew.alloc (.cells cur e)):=by
 obtain ⟨i,z,h1,h2,h3,h4,h5⟩:=et.hi
 have hold:(Builtin.firstCells i.size 0 (.slice none 0 0)).run P w.drew= .ok ([]:List Value).toArray w.drew:=run_firstCells_none w.drew i.size 0 0 0
 have h:=Lib.run_append_grow_zeros w t tn ty e i z .i64 .i64 et.ht htn h1 h2 none 0 0 [] hold n h0 (by rw [h3];exact hs) (by omega) (by omega) (by rw [h4];omega) (growslice_fits (by omega) (by rw [h4];simpa using hb))
 have hG:=grownCap_ge w (0+n) 0 e
 have hM:=grownCap_le_maxLen w (0+n) 0 e (by unfold maxLen;omega)
 rw [Nat.zero_add] at h hG hM
 refine ⟨grownCap w n 0 e,_,hG,hM,?_,h⟩
 simp only [Array.size_append,List.size_toArray,List.length_nil,Nat.zero_add]
 unfold Builtin.zeroCells
 simp only [Array.size_map,Array.size_range,h5]
 rw [←Nat.add_mul]
 congr 1
 omega
set_option maxRecDepth 100000 in
set_option maxHeartbeats 1000000 in
theorem aQK (n:Nat) (w:World) (hn:n≤1048576):
  Calls Tryz.prog 275 #[.slice none 0 0,.int .i64 n] w (Ret w fun v w'=> ∃ S,Own 3 aHo w' w.heap.size v [] S):=by
 by_cases h0:n=0
 ·subst h0
  show Calls Tryz.prog 275 #[.slice none 0 0,.int .i64 0] w _
  go_enter Tryz.func275,Tryz.ntmps275
  go_wp2
  go_ret
  exact ⟨_,rfl,Below.refl _ _,[],Own.nil _ _ _ _⟩
 ·have h1: ¬ ((n:Int)<0):=by omega
  have h4:(n:Int)>0:=by omega
  have key: ∀ ty,∃ G cur,n≤G∧G≤maxLen∧cur.size=G*1∧(Builtin.append_ #[22,3] ty #[.slice none 0 0,.int .i64 n]).run Tryz.prog w= .ok (.slice (some ⟨w.heap.size,0,none⟩) n G) (w.drew.alloc (.cells cur 3)):=fun ty=>
   aJP aRn Tryz.underlying3 (by decide) w n (by omega) hn (by omega) ty
  obtain ⟨G,cur,hG,hM,hc,hr0⟩:=key 22
  have hG63:G≤9223372036854775807:=by unfold maxLen at hM;omega
  have HE:Hid (Own 3 aHo (w.drew.alloc (.cells cur 3)) w.heap.size (.slice (some ⟨w.heap.size,0,none⟩) 0 G) [] [w.heap.size]∧Below w.heap.size w (w.drew.alloc (.cells cur 3))):=
   ⟨⟨[],[],World.ownsRow_made w.drew cur G (Nat.le_refl _) hM hc,⟨rfl,rfl⟩,rfl,⟨by simp,by simp⟩⟩,((aKE 1 (Below.refl _ _):Below w.heap.size w (w.drewN 1))).alloc (Nat.le_refl _) _⟩
  clear key hM hc
  go_enter Tryz.func275,Tryz.ntmps275
  go_wp2_with (at_builtin;refine Lib.wpList_append_run _ rfl _ _ _ _ rfl _ _ rfl rfl _ _ hr0 ?_)
  all_goals (go_ret;exact ⟨_,rfl,HE.out.2,_,HE.out.1⟩)
def aLs (n:Int):Option (List Int):=bif (decide (0≤n)&&decide (n≤1048576)) then some [] else none
theorem aQL {h:Hp} {k:Nat} :viewA h (.nil k) (.sc (.slice none 0 0)):=rfl
theorem aRJ (n:Int) (r:List Int) (h:aLs n=some r):HasC Tryz.prog 275 [.sc (.slice none 0 0),.int n] (.list 1 (List.map eI r)):=by
 obtain ⟨q,h⟩:=cg h
 obtain rfl:=so h
 simp only [Bool.and_eq_true,decide_eq_true_eq] at q
 refine ⟨Enters.mk Tryz.func275 (by kernel_rfl) (by kernel_rfl),fun w args S hargs=>?_⟩
 obtain ⟨args⟩:=args
 simp only [RepVs,RepD] at hargs
 obtain ⟨v,r,S1,S2,h1,rfl,⟨rfl,_,rfl⟩,v2,r2,S3,S4,rfl,rfl,⟨rfl,_,rfl⟩,rfl,rfl⟩:=hargs
 subst h1
 have hc:=aQK n.toNat w (by omega)
 rw [show ((n.toNat:Nat):Int)=n by omega] at hc
 refine hc.mono fun e w' ⟨v,he,hb,S2,ho⟩=>?_
 obtain ⟨g1,g2⟩:=aKh ho
 exact ⟨v,S2,he,hb,g1,g2⟩
theorem aLt {σ:Nat→Option Nat} {n:Nat} {α:Type} {e:α→List AV} {z:α} {zc:List AV} (h:All2 (mD σ n) zc (ow e z)) (m:Nat):All2 (All2 (mD σ n)) (List.replicate m zc) ((List.replicate m z).map (ow e)):=by
 induction m with
 |zero=>rfl
 |succ m ih=>exact ⟨_,_,rfl,h,ih⟩
end
noncomputable section
structure HasT (P:Program) (f:FuncId) (ds:List AV) (hl:List (Nat×Blk)) (kp:Nat) (r:AV) (hl':List (Nat×Blk)):Prop where
 enters:Enters P f
 calls: ∀ (B:Nat) (M:Nat→Prop) (w:World) (args:Array Value) (ν:Nu) (φ:Nat→List Nat),(∀ x,M x→B≤x)→B≤w.heap.size→(∀ x,w.heap.size≤x→M x)→(∀ x,M x→ν.ok x)→All2 (RepA w (eY hl) (pG kp) ν) ds args.toList→HeapOk M w (eY hl) (pG kp) ν φ→
  Calls P f args w fun e w'=> ∃ v u' ν' φ',e= .returned v∧Below B w w'∧ExtF (fun x=> ¬ M x) w (eY hl) (pG kp) ν w' (eY hl') u' ν'∧HeapOk M w' (eY hl') u' ν' φ'∧RepA w' (eY hl') u' ν' r v
theorem aQM {M:Nat→Prop} {w:World} {h:Hp} {u:Us} {ν:Nu} {φ:Nat→List Nat} (hh:HeapOk M w h u ν φ) {x:Nat} (hx: ¬ M x):nW h ν x:=by
 intro b blk β c hb hν e
 subst e
 obtain ⟨_,g2,_,g4⟩:=hh.blk b blk hb
 exact hx (g4 _ (jE g2 hν))
theorem ExtF.shrink {F:Nat→Prop} {w w':World} {h h' g:Hp} {u u':Us} {ν ν':Nu} (e:ExtF F w h u ν w' h' u' ν') (hg: ∀ b blk,g b=some blk→h' b=some blk):ExtF F w h u ν w' g u' ν':=
 ⟨e.used,fun b blk hb hgb=>e.old b blk hb (hg b blk hgb),fun x hx hf=>⟨(e.free x hx hf).1,fun b blk β c hb hν=>(e.free x hx hf).2 b blk β c (hg b blk hb) hν⟩,e.okE⟩
theorem aDN {P:Program} {T:List (Nat×Ty)} (hT:TyOk P T) {f:FuncId} {fn:Func} {c:Code} {nt kp:Nat} {ds:List AV} {hl hl':List (Nat×Blk)} {r:AV} {rvs:List ResultVar} {ns:List Nat} (hf:P.funcs[f]? =some fn) (hb:fn.body=some c) (hname:(fn.name== "runtime.NumGoroutine")=false) (hnt:fn.ntmps=nt) (hres:fn.results.toList=rvs)
  (hlen:Nat.ble ds.length nt=true) (h:AC P nt c ⟨aAv ds,eY hl,pG kp,ns,⟨kp,true,none,true⟩⟩ (fun e t=> ∃ t',Ent t t'∧aRl T rvs r hl' e t')):HasT P f ds hl kp r hl':=by
 refine ⟨Enters.mk hf (by rw [hb];rfl) hname,fun B M w args ν φ hMB hB hM hMo hargs hheap=>?_⟩
 refine (callsIn_wide (n:=0)).1 (callsIn_of_wp_marks (F:=fw none) hf hb trivial ?_)
 have hlen':=Nat.le_of_ble_eq_true hlen
 have hal:args.size=ds.length:=by have:=hargs.len;simpa using this
 let C:Ctx:=⟨B,w,nt,M,hMB,⟨kp,true,none,true⟩,w,eY hl,ν,fun x=> ¬ M x,(fun _ x _ hm hn=>hn hm),(fun _ h=>by cases h),none,fun _=>rfl⟩
 have hsim:Sim C ⟨aAv ds,eY hl,pG kp,ns,⟨kp,true,none,true⟩⟩ ν ⟨args++Array.replicate (fn.ntmps - args.size) undef,[]⟩ w:=by
  refine ⟨Below.refl _ _,hB,hM,pR,by show (args++Array.replicate (fn.ntmps - args.size) undef).size=nt;simp [hnt];omega,?_,⟨φ,hheap⟩,rfl,ExtF.refl fun _ _ h=>aQM hheap h,Nat.le_refl _,hMo,fun _ h=>by cases h⟩
  intro t x hx
  have hx':ds[t]? =some x:=by rw [←aDJ];exact hx
  obtain ⟨v,h1,h2⟩:=hargs.get hx'
  refine ⟨v,?_,h2⟩
  have hlt:t<args.size:=by
   rcases Nat.lt_or_ge t args.size with h'|h'
   ·exact h'
   ·rw [List.getElem?_eq_none (by simpa using h')] at h1;cases h1
  show (args++Array.replicate (fn.ntmps - args.size) undef)[t]? =some v
  rw [Array.getElem?_append_left hlt]
  simpa using h1
 refine wpIn_mono (h.out C rfl _ _ w hsim 0) fun e a' w0 ⟨s1,ν1,⟨s',hent,hq⟩,hs1⟩=>?_
 obtain ⟨ν',hs0⟩:=hent C ν1 a' w0 hs1
 obtain ⟨Ds,d1,d2,d3⟩:=hs0.defers
 obtain ⟨w',hs',hleave⟩:=hs0.leave (P:=P) (n:=0) d1 d2 d3
 obtain ⟨he,⟨avs,hv,hone⟩,hsame⟩:=hq
 have hsub: ∀ b blk,eY hl' b=some blk→s'.heap b=some blk:=fun b blk hb=>aEQ hsame (iS hb)
 obtain ⟨us,h1,h2⟩:=vL hT hs' hv
 obtain ⟨φ',hh⟩:=hs'.heap
 have hrun:(results fn a'.tmps).run P w'= .ok (if hh:us.toArray.size=1 then us.toArray[0] else .tuple us.toArray) w':=by
  unfold results
  rw [Sem.run_bind,Array.mapM_eq_mapM_toList,Sem.run_map,hres]
  have h1':=h1
  generalize hq:(List.mapM _ rvs:Sem (List Value))=m
  rw [show Sem.run P m w'= .ok us w' by rw [←hq];exact h1']
  simp
 have shr:=(Ext.refl w' s'.heap s'.used ν').shrink hsub
 have hrep:RepA w' (eY hl') s'.used ν' r (if hh:us.toArray.size=1 then us.toArray[0] else .tuple us.toArray):=by
  rcases hone with rfl|⟨g1,g2,rfl⟩
  ·obtain ⟨u,q,rfl,k1,k2⟩:=h2
   simp only [All2] at k2
   subst k2
   exact k1.ext shr
  ·have hul:us.length=avs.length:=h2.len
   rw [dif_neg (by simp;rw [hul];exact g1)]
   refine ⟨us,rfl,h2.congrM fun x hx v hr=>?_⟩
   exact aOn (hr.ext shr) (List.all_eq_true.1 g2 x hx)
 have hend:=hleave fn (fun e w'=> ∃ v u' ν' φ',e= .returned v∧Below B w w'∧ExtF (fun x=> ¬ M x) w (eY hl) (pG kp) ν w' (eY hl') u' ν'∧HeapOk M w' (eY hl') u' ν' φ'∧RepA w' (eY hl') u' ν' r v)
  ⟨_,hrun,_,s'.used,ν',φ',rfl,hs'.below,hs'.ext.shrink hsub,hh.shrink hsub (fun _ _ _ _ h=>h),hrep⟩
 cases e <;> simp only [aGb,Bool.false_eq_true] at he <;> exact hend
structure SOps (P:Program) (ops:Array Oper) (nt:Nat) (l:List Oper) (s:AState) (K:AState→Prop):Prop where
 out: ∀ (C:Ctx),C.nt=nt→ ∀ (ν:Nu) (a:Act) (w:World),Sim C s ν a w→ ∀ (n:Nat) (Q:Exit→Act→World→Prop),(∀ s' ν' a' w',K s'→Sim C s' ν' a' w'→Q .normal a' w')→wpListIn (fw C.rd) n P ops Q l a w
section
variable {P:Program} {ops:Array Oper} {nt:Nat} {l:List Oper} {s:AState} {K:AState→Prop}
theorem aOr (h:K s):SOps P ops nt [] s K:=⟨fun C hC ν a w hs n Q hQ=>hQ s ν a w h hs⟩
theorem fV {t:AState} (e:Ent s t) (h:SOps P ops nt l t K):SOps P ops nt l s K:=⟨fun C hC ν a w hs n Q hQ=>by
 obtain ⟨ν',hs'⟩:=e C ν a w hs
 exact h.out C hC ν' a w hs' n Q hQ⟩
theorem aOs {d:Option Tmp} {op:Op} {ty:TypeId} {pos:String} {aft:Array Edge} {g:Option (Nat×Bool)} {e:Eff} (he:AEff P ⟨d,op,ty,pos,aft,g⟩ s.ev s.heap s.kp e) (hd:aHm ⟨d,op,ty,pos,aft,g⟩ nt=true) (hg:oK ops s.env ⟨d,op,ty,pos,aft,g⟩=some true) (hn:(e.news.all fun b=> !s.used b)=true)
  (h:SOps P ops nt l (s.app d e) K):SOps P ops nt (⟨d,op,ty,pos,aft,g⟩::l) s K:=⟨fun C hC ν a w hs n Q hQ=>by
 subst hC
 refine wpListIn_step fun K' hK'=>?_
 have hst:aJD P ops C.nt ⟨d,op,ty,pos,aft,g⟩ s e:=⟨aDC hd,.inl ⟨hg,he,fun b hb=>by have:=List.all_eq_true.1 hn b hb;simpa using this⟩⟩
 exact aAR hst hs fun ν' a' w' hs'=>hK' _ _ (h.out C rfl ν' a' w' hs' n Q hQ)⟩
theorem aLu {Q:Exit→AState→Prop} {id:Nat} (h:SOps P l.toArray nt l s (Q .normal)):AC P nt (.region id l.toArray false) s Q:=by
 refine ⟨fun C hC ν a w hs n=>?_⟩
 exact wpIn_region_lit (h.out C hC ν a w hs n _ fun s' ν' a' w' hq hs'=>⟨s',ν',hq,hs'⟩)
end
def df1:AV→Bool
 | .sc _=>true
 | .nil _=>true
 | .dead=>true
 | .own _ _ _=>true
 | .ptr _ _ _=>true
 |_=>false
def dfC:AV→Bool
 | .abs _ _=>true
 |x=>df1 x
def dfB:AV→Bool
 | .agg cs=>cs.all df1
 |x=>df1 x
def dfA:AV→Bool
 | .tuple cs=>cs.all dfB
 |x=>dfB x
section
variable {w w':World} {h h':Hp} {u u':Us} {ν ν':Nu} (U: ∀ b,u b=true→u' b=true) (O: ∀ b blk',u b=true→h' b=some blk'→ ∃ blk,h b=some blk∧blk.k=blk'.k∧blk.es.length=blk'.es.length∧ν' b=ν b)
include U O
theorem aJQ: ∀ {x:AV} {v:Value},Rep1 w h u ν x v→df1 x=true→Rep1 w' h' u' ν' x v:=by
 intro x v r t
 cases x <;> simp only [df1,Bool.false_eq_true] at t <;> simp only [Rep1] at r ⊢
 ·exact r
 ·exact r
 ·refine ⟨U _ r.1,fun blk hb=>?_⟩
  obtain ⟨blk0,e1,e2,e3,e4⟩:=O _ blk r.1 hb
  have:=r.2 blk0 e1
  rw [e4,←e3,←e2]
  exact this
 ·refine ⟨U _ r.1,fun blk hb=>?_⟩
  obtain ⟨blk0,e1,e2,e3,e4⟩:=O _ blk r.1 hb
  have:=r.2 blk0 e1
  rw [e4,←e2]
  exact this
end
section
variable {w w':World} {h h':Hp} {u u':Us} {ν ν':Nu} (U: ∀ b,u b=true→u' b=true) (O: ∀ b blk',u b=true→h' b=some blk'→ ∃ blk,h b=some blk∧blk.k=blk'.k∧blk.es.length=blk'.es.length∧ν' b=ν b)
include U O
theorem aKi: ∀ {xs:List AV} {vs:List Value},All2 (Rep1 w h u ν) xs vs→xs.all df1=true→All2 (Rep1 w' h' u' ν') xs vs
 | [],vs,r,_=>r
 |x::xs,vs,⟨v,q,e,r,k⟩,t=>by
  simp only [List.all_cons,Bool.and_eq_true] at t
  exact ⟨v,q,e,aJQ U O r t.1,aKi k t.2⟩
theorem aMl {x:AV} {v:Value} (r:RepB w h u ν x v) (t:dfB x=true):RepB w' h' u' ν' x v:=by
 cases x <;> simp only [RepB] at r ⊢ <;> first
  |exact aJQ U O r t
  |(obtain ⟨vs,e,r⟩:=r;exact ⟨vs,e,aKi U O r t⟩)
  |(simp only [dfB,df1,Bool.false_eq_true] at t)
theorem aMm {x:AV} {v:Value} (r:RepA w h u ν x v) (t:dfA x=true):RepA w' h' u' ν' x v:=by
 by_cases ht: ∃ cs,x= .tuple cs
 ·obtain ⟨cs,rfl⟩:=ht
  obtain ⟨vs,e,r⟩:=r
  refine ⟨vs,e,r.congrM fun y hy d hd=>aMl U O hd ?_⟩
  exact List.all_eq_true.1 t y hy
 ·have r':RepB w h u ν x v:=by cases x <;> first|exact r|exact absurd ⟨_,rfl⟩ ht
  have t':dfB x=true:=by cases x <;> first|exact t|exact absurd ⟨_,rfl⟩ ht
  have:=aMl (w':=w') U O r' t'
  cases x <;> first|exact this|exact absurd ⟨_,rfl⟩ ht
theorem aQN {x:AV} {v:Value} {S:List Nat} (hk: ∀ b∈S,w'.heap[b]? =w.heap[b]?) (r:CellRep w h u ν x v S) (t:dfC x=true):CellRep w' h' u' ν' x v S:=by
 cases x <;> simp only [CellRep] at r ⊢ <;> first
  |exact ⟨aJQ U O r.1 t,r.2⟩
  |exact r.keep hk
  |exact r
theorem aDO: ∀ {xs:List AV} {vs:List Value} {S:List Nat},(∀ b∈S,w'.heap[b]? =w.heap[b]?)→CellsRep w h u ν xs vs S→(∀ c∈xs,dfC c=true)→CellsRep w' h' u' ν' xs vs S
 | [],_,_,_,r,_=>r
 |x::xs,vs,S,hk,⟨v,q,S1,S2,e1,e2,r,k⟩,t=>by
  subst e2
  exact ⟨v,q,S1,S2,e1,rfl,aQN U O (fun b hb=>hk b (by simp [hb])) r (t x (by simp)),aDO (fun b hb=>hk b (by simp [hb])) k (fun c hc=>t c (by simp [hc]))⟩
theorem aIb {b:Nat} {blk:Blk} {S:List Nat} (hν:ν' b=ν b) (hk: ∀ x∈S,w'.heap[x]? =w.heap[x]?) (r:BlkOk w h u ν b blk S) (t: ∀ cs∈blk.es,∀ c∈cs,dfC c=true):BlkOk w' h' u' ν' b blk S:=by
 refine ⟨r.1,?_⟩
 rcases r.2 with ⟨q1,q2,q3⟩|⟨β,c,arr,ty,T,vs,q1,q2,q3,q4,q5,q6,q7,q8⟩
 ·exact .inl ⟨hν.trans q1,q2,q3⟩
 ·subst q6
  refine .inr ⟨β,c,arr,ty,T,vs,hν.trans q1,(hk β (by simp)).trans q2,q3,q4,q5,rfl,q7,aDO U O (fun x hx=>hk x (by simp [hx])) q8 fun c hc=>?_⟩
  obtain ⟨cs,hcs,hc⟩:=List.mem_flatten.1 hc
  exact t cs hcs c hc
end
section
variable {P:Program} {ops:Array Oper} {nt:Nat} {l:List Oper} {s:AState} {K:AState→Prop} {dst:Option Tmp} {ty:TypeId} {pos:String} {aft:Array Edge}
theorem aGt {fo:Operand} {xs:Array Operand} {ats:Array TypeId} {f:FuncId} {caps avs ds:List AV} {hl hl' hl2:List (Nat×Blk)} {kp n':Nat} {r r2:AV} {σ σ':Nat→Option Nat} {touch news:List Nat} {ed:List (Nat×Option Blk)}
  (hc:HasT P f ds hl kp r hl') (hf:s.ev fo=some (.fn f caps)) (hx:evs s.ev xs.toList=some avs) (hav:All2 (mE σ kp) (avs++caps) ds) (hh:rZ σ kp s.heap hl) (hi:aCK σ hl=true) (hit:wP σ touch hl=true) (hlive:(touch.all fun b=>(s.heap b).isSome)=true)
  (hh':rZ σ' n' (eY hl') hl2) (hi':aCK σ' hl2=true) (hr:mE σ' n' r r2) (hbk:aCB σ σ' kp news hl2=true) (htl:aIW (touch++news) hl2) (htr:aKg (touch++news) r2=true) (he:vY (touch++news) hl2=ed)
  (hd:aHm ⟨dst,.call ⟨.value fo,xs,ats⟩,ty,pos,aft,none⟩ nt=true) (hn:(news.all fun b=> !s.used b)=true) (hT:s.kp.T=true) (hdf: ∀ t x,s.env t=some x→dfA x=true) (hdc: ∀ b blk,s.heap b=some blk→b ∉ touch++news→ ∀ cs∈blk.es,∀ c∈cs,dfC c=true)
  (h:SOps P ops nt l (s.app dst ⟨r2,touch,ed,news⟩) K):SOps P ops nt (⟨dst,.call ⟨.value fo,xs,ats⟩,ty,pos,aft,none⟩::l) s K:=⟨fun C hC ν a w hs n0 Q hQ=>by
 subst hC
 refine wpListIn_step fun K' hK'=>?_
 rw [if_pos (aEB hs (ops:=ops) (t:=true) rfl)]
 refine aQr (fun c h=>by cases h) ?_
 have hnw: ∀ b∈news,s.used b=false:=fun b hb=>by have:=List.all_eq_true.1 hn b hb;simpa using this
 have hfn:=hs.ev hf
 simp only [RepA,RepB] at hfn
 obtain ⟨cv,hfv,hcap⟩:=hfn
 have hval:=wN hs (xs:=xs.toList) (fun y hy=>rfl) hx
 obtain ⟨φ,hφ⟩:=hs.heap
 let h3:Hp:=fun b=>if b∈touch then s.heap b else none
 have sub: ∀ b blk,h3 b=some blk→s.heap b=some blk∧b∈touch:=by
  intro b blk hb
  by_cases e:b∈touch
  ·simp only [h3,if_pos e] at hb;exact ⟨hb,e⟩
  ·simp only [h3,if_neg e] at hb;cases hb
 let M2:Nat→Prop:=fun x=>(∃ b,b∈touch∧s.heap b≠none∧x∈φ b)∨w.heap.size≤x
 have hM2: ∀ x,M2 x→C.M x:=by
  rintro x (⟨b,_,hb,hx⟩|hx)
  ·obtain ⟨blk,hb⟩:=Option.ne_none_iff_exists'.1 hb
   exact (hφ.blk b blk hb).2.2.2 x hx
  ·exact hs.fresh x hx
 have hk3:HeapOk M2 w h3 s.used ν φ:=hφ.shrink (fun b blk hb=>(sub b blk hb).1) (fun b x hb hx _=>by
  obtain ⟨blk,hb⟩:=Option.ne_none_iff_exists'.1 hb
  obtain ⟨e1,e2⟩:=sub b blk hb
  exact .inl ⟨b,e2,by rw [e1];simp,hx⟩)
 have hent:rZ σ kp h3 hl:=uT (h:=s.heap) (touch:=touch) (fun b hb=>by simp only [h3,if_pos hb]) hit hh
 have cv1:=yN (w:=w) (u:=s.used) (ν:=ν) hent hi
 have hk4:=cv1.heap hk3
 have shr3:Ext w s.heap s.used ν w h3 s.used ν:=(Ext.refl _ _ _ _).shrink (fun b blk hb=>(sub b blk hb).1)
 have hargs:All2 (RepA w (eY hl) (pG kp) (gR σ ν)) ds (xs.toList.map a.eval++cv):=
  aAC (R:=RepA w s.heap s.used ν) (Mt:=mE σ kp) (R':=RepA w (eY hl) (pG kp) (gR σ ν)) (fun x y v hx hm=>cv1.rep (RepA.ext shr3 hx) hm) (hval.append (hcap.mono fun x v h=>Rep1.repA h)) hav
 have hcall:=hc.calls C.B M2 w ((xs.map a.eval)++cv.toArray) (gR σ ν) _ (fun x hx=>C.low x (hM2 x hx)) hs.base (fun x hx=> .inr hx) (fun x hx=>hs.okM x (hM2 x hx)) (by simpa using hargs) hk4
 unfold Oper.wp
 have hex:(execOp a.eval ⟨dst,.call ⟨.value fo,xs,ats⟩,ty,pos,aft,none⟩).run P w= .ok (.enter f ((xs.map a.eval)++cv.toArray)) w:=by
  have:execOp a.eval ⟨dst,.call ⟨.value fo,xs,ats⟩,ty,pos,aft,none⟩=callFunc f ((xs.map a.eval)++cv.toArray):=by
   simp [execOp,resolve,hfv,Deferred.ofValue,invoke]
  rw [this]
  exact hc.enters _ _
 rw [hex]
 simp only [Oper.upon]
 refine hcall.mono fun e w' ⟨v,u1,ν1,φ1,hev,hbel,hext,hh1,hrep⟩=>?_
 subst hev
 simp only
 have cv2:=yN (w:=w') (u:=u1) (ν:=ν1) hh' hi'
 have hh2:=cv2.heap hh1
 generalize hrl:touch++news=rl at*
 let ν':Nu:=⟨fun b=>if b∈rl then gR σ' ν1 b else ν b,ν.ok⟩
 have hν1: ∀ b,b∈rl→ν' b=gR σ' ν1 b:=fun b hb=>if_pos hb
 have hν2: ∀ b,b ∉ rl→ν' b=ν b:=fun b hb=>if_neg hb
 have hheq: ∀ b,bK ed s.heap b=if b∈rl then eY hl2 b else s.heap b:=fun b=>by rw [←he];exact aBC
 have hhe1: ∀ b,b∈rl→bK ed s.heap b=eY hl2 b:=fun b hb=>by rw [hheq,if_pos hb]
 have hhe2: ∀ b,b ∉ rl→bK ed s.heap b=s.heap b:=fun b hb=>by rw [hheq,if_neg hb]
 have hused: ∀ b,b∈rl→fG news s.used b=true:=by
  intro b hb
  rw [←hrl] at hb
  rw [fL]
  rcases List.mem_append.1 hb with h|h
  ·have h5:=List.all_eq_true.1 hlive b h
   cases hq:s.heap b with
   |none=>rw [hq] at h5;cases h5
   |some blk=>rw [(hφ.blk b blk hq).1,Bool.or_true]
  ·have:news.contains b=true:=by simpa using h
   rw [this,Bool.true_or]
 have U: ∀ b,s.used b=true→fG news s.used b=true:=fun b hb=>by rw [fL,hb,Bool.or_true]
 have O: ∀ b blk',s.used b=true→bK ed s.heap b=some blk'→ ∃ blk,s.heap b=some blk∧blk.k=blk'.k∧blk.es.length=blk'.es.length∧ν' b=ν b:=by
  intro b blk' hu hb
  by_cases e:b∈rl
  ·rw [hhe1 b e] at hb
   obtain ⟨i,e1,e2⟩:=aAB hbk (iS hb)
   obtain ⟨x,f1,f2,f3⟩:=(cv2.look b blk' hb).1 i e1
   rcases e2 with e2|⟨e2,e3⟩
   ·rw [hnw b e2] at hu;cases hu
   ·obtain ⟨blk0,g1,g2,g3,g4⟩:=hext.old i x e2 f1
    obtain ⟨z,k1,k2,k3⟩:=(cv1.look i blk0 g1).1 b e3
    refine ⟨z,(sub b z k1).1,k2.trans (g2.trans f2),k3.trans (g3.trans f3),?_⟩
    rw [hν1 b e]
    simp only [gR,e1]
    rw [g4]
    simp only [gR,e3]
  ·rw [hhe2 b e] at hb
   exact ⟨blk',hb,rfl,rfl,hν2 b e⟩
 have hout: ∀ b blk x,s.heap b=some blk→b ∉ rl→x∈φ b→w'.heap[x]? =w.heap[x]? :=by
  intro b blk x hb hbr hx
  refine (hext.free x ((hφ.blk b blk hb).2.1.lt x hx) ?_).1
  rintro (⟨b2,e1,e2,e3⟩|e1)
  ·have hne:b2≠b:=by rintro rfl;exact hbr (by rw [←hrl];exact List.mem_append_left _ e1)
   exact hφ.apart b2 b x e2 (by rw [hb];simp) hne e3 hx
  ·have:=(hφ.blk b blk hb).2.1.lt x hx
   omega
 have hcross: ∀ b c x,eY hl2 b≠none→s.heap c≠none→c ∉ rl→x∈(match σ' b with|some b0=>φ1 b0|none=>[])→x ∉ φ c:=by
  intro b c x hb hc' hcr hx hx2
  obtain ⟨y1,hy1⟩:=Option.ne_none_iff_exists'.1 hb
  obtain ⟨y2,hy2⟩:=Option.ne_none_iff_exists'.1 hc'
  rcases (hh2.blk b y1 hy1).2.2.2 x hx with ⟨b2,e1,e2,e3⟩|e1
  ·have hne:b2≠c:=by rintro rfl;exact hcr (by rw [←hrl];exact List.mem_append_left _ e1)
   exact hφ.apart b2 c x e2 hc' hne e3 hx2
  ·have:=(hφ.blk c y2 hy2).2.1.lt x hx2
   omega
 have hdef:OkD C w' a.defers:=by
  obtain ⟨Ds,q1,q2,q3⟩:=hs.defers
  refine ⟨Ds,q1,q2,fun D hD=>?_⟩
  obtain ⟨p1,p2,p3⟩:=q3 D hD
  refine ⟨p1,p2,(hext.free D (fZ p3) ?_).1.trans p3⟩
  rintro (⟨b,e1,e2,e3⟩|e1)
  ·obtain ⟨blk,hb⟩:=Option.ne_none_iff_exists'.1 e2
   obtain ⟨o,o1,o2⟩:=(hφ.blk b blk hb).2.1.inC D e3
   rw [p3] at o1;cases o1;cases o2
  ·have:=fZ p3;omega
 have hfin:Sim C (s.app dst ⟨r2,touch,ed,news⟩) ν' (a.put dst v) w':=by
  refine ⟨hs.below.trans hbel,Nat.le_trans hs.base hbel.size,fun x hx=>hs.fresh x (Nat.le_trans hbel.size hx),by rw [aGL];exact hdef,by rw [aKG];exact hs.size,?_,⟨fun b=>if b∈rl then (match σ' b with|some b0=>φ1 b0|none=>[]) else φ b,?_,?_⟩,hs.kp,?_,Nat.le_trans hs.szE hbel.size,hs.okM,hs.okF⟩
  ·exact aMW hs.size (aDC hd).1 (fun t x h=>by obtain ⟨v,h1,h2⟩:=hs.env t x h;exact ⟨v,h1,aMm U O h2 (hdf t x h)⟩) (aES (h1:=eY hl2) (u1:=pG n') (ν1:=gR σ' ν1) hhe1 hν1 hused (cv2.rep hrep hr) htr)
  ·intro b blk' hb
   replace hb:bK ed s.heap b=some blk':=hb
   by_cases e:b∈rl
   ·rw [hhe1 b e] at hb
    simp only [if_pos e]
    obtain ⟨_,g2,g3,g4⟩:=hh2.blk b blk' hb
    exact ⟨hused b e,aBD (h1:=eY hl2) (u1:=pG n') (ν1:=gR σ' ν1) hhe1 hν1 hused e g2 (aBc htl (iS hb)).2,g3,fun x hx=>hM2 x (g4 x hx)⟩
   ·rw [hhe2 b e] at hb
    simp only [if_neg e]
    obtain ⟨g1,g2,g3,g4⟩:=hφ.blk b blk' hb
    exact ⟨U b g1,aIb U O (hν2 b e) (fun x hx=>hout b blk' x hb e hx) g2 (hdc b blk' hb e),g3,g4⟩
  ·intro b c x hb hc' hne hxb hxc
   replace hb:bK ed s.heap b≠none:=hb
   replace hc':bK ed s.heap c≠none:=hc'
   by_cases e1:b∈rl <;> by_cases e2:c∈rl
   ·simp only [if_pos e1] at hxb
    simp only [if_pos e2] at hxc
    rw [hhe1 b e1] at hb
    rw [hhe1 c e2] at hc'
    exact hh2.apart b c x hb hc' hne hxb hxc
   ·simp only [if_pos e1] at hxb
    simp only [if_neg e2] at hxc
    rw [hhe1 b e1] at hb
    rw [hhe2 c e2] at hc'
    exact hcross b c x hb hc' e2 hxb hxc
   ·simp only [if_neg e1] at hxb
    simp only [if_pos e2] at hxc
    rw [hhe2 b e1] at hb
    rw [hhe1 c e2] at hc'
    exact hcross c b x hc' hb e1 hxc hxb
   ·simp only [if_neg e1] at hxb
    simp only [if_neg e2] at hxc
    rw [hhe2 b e1] at hb
    rw [hhe2 c e2] at hc'
    exact hφ.apart b c x hb hc' hne hxb hxc
  ·refine ⟨fun b hb=>U b (hs.ext.used b hb),fun b blk' hb hl'=>?_,fun x hx hF=>?_,hs.ext.okE⟩
   ·obtain ⟨y,g1,g2,g3,g4⟩:=O b blk' (hs.ext.used b hb) hl'
    obtain ⟨z,k1,k2,k3,k4⟩:=hs.ext.old b y hb g1
    exact ⟨z,k1,k2.trans g2,k3.trans g3,g4.trans k4⟩
   ·obtain ⟨g1,g2⟩:=hs.ext.free x hx hF
    have hm: ¬ M2 x:=fun hm=>C.tm (by rw [←hs.kp];exact hT) x hx (hM2 x hm) hF
    obtain ⟨p1,p2⟩:=hext.free x (uN hx g1) hm
    refine ⟨p1.trans g1,fun b blk β c hb hν=>?_⟩
    replace hb:bK ed s.heap b=some blk:=hb
    by_cases e:b∈rl
    ·rw [hhe1 b e] at hb
     rw [hν1 b e] at hν
     exact cv2.free x p2 b blk β c hb hν
    ·rw [hhe2 b e] at hb
     rw [hν2 b e] at hν
     exact g2 b blk β c hb hν
 exact hK' _ _ (h.out C rfl _ _ _ hfin n0 Q hQ)⟩
end
end
noncomputable section
theorem aKj {w:World} {h:Hp} {u:Us} {ν:Nu} : ∀ {cs:List AV} {vs:List Value} {S:List Nat},RepOV w cs vs S→CellsRep w h u ν (cs.map qN) vs S
 | [],vs,S,r=>by simp only [RepOV] at r;exact r
 |c::cs,vs,S,r=>by
  simp only [RepOV] at r
  obtain ⟨v,q,S1,S2,e1,e2,_,h3,h4⟩:=r
  refine ⟨v,q,S1,S2,e1,e2,?_,aKj h4⟩
  cases c with
  |sc x=>simp only [RepO] at h3;exact ⟨⟨h3.1,h3.2.1⟩,h3.2.2⟩
  |list k es=>exact h3
  |_=>simp only [RepO] at h3
theorem aLv {k:Nat} {es:List (List AV)} (h: ∀ cs∈es,cs.length=k): ∀ cs∈cJ es,cs.length=k:=by
 intro cs hcs
 unfold cJ at hcs
 obtain ⟨d,hd,rfl⟩:=List.mem_map.1 hcs
 rw [List.length_map];exact h d hd
theorem aGu (es:List (List AV)):(cJ es).flatten=es.flatten.map qN:=by
 unfold cJ
 rw [List.map_flatten]
theorem aOu {s:AState} {b c i j k':Nat} {blk:Blk} {cs:List AV} {es':List (List AV)} (hT:s.kp.T=true) (hb:s.heap b=some blk) (hi:blk.es[i]? =some cs) (hj:cs[j]? =some (.abs k' es')) (hc:s.used c=false) (hdf: ∀ t x,s.env t=some x→dfA x=true) (hdc: ∀ b blk,s.heap b=some blk→ ∀ cs∈blk.es,∀ c∈cs,dfC c=true):
  Ent s ⟨s.env,bK [(c,some ⟨k',cJ es'⟩),(b,some ⟨blk.k,blk.es.set i (cs.take j++[.own c 0 es'.length]++cs.drop (j+1))⟩)] s.heap,fG [c] s.used,s.ns,s.kp⟩:=by
 intro C ν a w hs
 obtain ⟨φ,hh⟩:=hs.heap
 obtain ⟨hub,⟨hk1,hx1⟩,hnd1,hB1⟩:=hh.blk b blk hb
 have hne:b≠c:=by rintro rfl;rw [hub] at hc;cases hc
 have hcn:s.heap c=none:=hs.unused hc
 have hcs:=hk1 cs (List.mem_of_getElem? hi)
 have hjl:j<cs.length:=by
  rcases Nat.lt_or_ge j cs.length with h'|h'
  ·exact h'
  ·rw [List.getElem?_eq_none h'] at hj;cases hj
 rcases hx1 with ⟨q1,q2,_⟩|⟨β,cap,arr,ty,T,vs,q1,q2,q3,q4,q5,q6,q7,q8⟩
 ·rw [q2] at hi;simp at hi
 have hdrop:blk.es.flatten.drop (i*blk.k+j)= .abs k' es'::blk.es.flatten.drop (i*blk.k+j+1):=by
  obtain ⟨r,hr⟩:=uO hk1 hi
  have h1:blk.es.flatten.drop (i*blk.k+j)=(cs++r).drop j:=by rw [←hr,List.drop_drop]
  have h2:blk.es.flatten.drop (i*blk.k+j+1)=(cs++r).drop (j+1):=by rw [←hr,List.drop_drop,Nat.add_assoc]
  rw [h1,h2,List.drop_append_of_le_length (by omega),List.drop_append_of_le_length (by omega),List.drop_eq_getElem_cons hjl]
  have:cs[j]= .abs k' es':=by simpa [hjl] using hj
  rw [this];rfl
 have hfl:blk.es.flatten=blk.es.flatten.take (i*blk.k+j)++([.abs k' es']++blk.es.flatten.drop (i*blk.k+j+1)):=by
  rw [List.singleton_append,←hdrop,List.take_append_drop]
 rw [hfl] at q8
 obtain ⟨v1,v2,S1,S2,e1,e2,e3,e4,e5⟩:=q8.append_inv
 obtain ⟨v3,v4,S3,S4,f1,f2,f3,f4,f5⟩:=e5.append_inv
 subst f1 f2
 obtain ⟨v,r0,S5,S6,rfl,rfl,g1,⟨rfl,rfl⟩⟩:=f4
 simp only [CellRep] at g1
 rw [List.append_nil] at e2
 have hφ:φ b=β::(S1++(S5++S4)):=by rw [q6,e2]
 obtain ⟨νc,hνc⟩: ∃ νc:Option (Nat×Nat),(∀ (h:Hp) (u:Us) (ν':Nu),ν' c=νc→BlkOk w h u ν' c ⟨k',cJ es'⟩ S5)∧(νc=none→v= .slice none 0 0)∧(∀ β' cap',νc=some (β',cap')→ownV β' 0 k' es'.length cap' v∧β'∈S5):=by
  simp only [RepO] at g1
  rcases g1 with ⟨rfl,rfl,rfl⟩|⟨β',cap',arr',ty',T',vs',p1,p2,p3,p4,p5,p6,rfl,p8,p9⟩
  ·exact ⟨none,fun h u ν' hν=>⟨by simp [cJ],.inl ⟨hν,rfl,rfl⟩⟩,fun _=>rfl,fun _ _ e=>by cases e⟩
  ·have hl:(cJ es').length=es'.length:=by simp [cJ]
   refine ⟨some (β',cap'),fun h u ν' hν=>⟨aLv p6,.inr ⟨β',cap',arr',ty',T',vs',hν,p2,p3,by show (cJ es').length ≤cap';omega,p5,rfl,by show arr'.toList.take ((cJ es').length *k')=vs';rw [hl];exact p8,?_⟩⟩,fun e=>by (cases e),fun x y e=>?_⟩
   ·show CellsRep w h u ν' (cJ es').flatten vs' T'
    rw [aGu]
    exact aKj (aAN.1 p9)
   ·cases e;rw [p1];exact ⟨aDz,by simp⟩
 obtain ⟨hB,hn0,hn1⟩:=hνc
 let ν':Nu:=⟨fun x=>if x=c then νc else ν x,ν.ok⟩
 have hν1:ν' c=νc:=if_pos rfl
 have hν2: ∀ x,x≠c→ν' x=ν x:=fun x hx=>if_neg hx
 have hl1:bK [(c,some ⟨k',cJ es'⟩),(b,some ⟨blk.k,blk.es.set i (cs.take j++[.own c 0 es'.length]++cs.drop (j+1))⟩)] s.heap c=some ⟨k',cJ es'⟩:=by simp [bK]
 have hl2:bK [(c,some ⟨k',cJ es'⟩),(b,some ⟨blk.k,blk.es.set i (cs.take j++[.own c 0 es'.length]++cs.drop (j+1))⟩)] s.heap b=some ⟨blk.k,blk.es.set i (cs.take j++[.own c 0 es'.length]++cs.drop (j+1))⟩:=by simp [bK,cL hne]
 have hl3: ∀ x,x≠c→x≠b→bK [(c,some ⟨k',cJ es'⟩),(b,some ⟨blk.k,blk.es.set i (cs.take j++[.own c 0 es'.length]++cs.drop (j+1))⟩)] s.heap x=s.heap x:=fun x h1 h2=>by simp [bK,cL h1,cL h2]
 generalize hH:bK [(c,some ⟨k',cJ es'⟩),(b,some ⟨blk.k,blk.es.set i (cs.take j++[.own c 0 es'.length]++cs.drop (j+1))⟩)] s.heap=H at*
 have U: ∀ x,s.used x=true→fG [c] s.used x=true:=fun x hx=>by rw [fL,hx,Bool.or_true]
 have O: ∀ x blk',s.used x=true→H x=some blk'→ ∃ y,s.heap x=some y∧y.k=blk'.k∧y.es.length=blk'.es.length∧ν' x=ν x:=by
  intro x blk' hu hx
  have hxc:x≠c:=by rintro rfl;rw [hu] at hc;cases hc
  by_cases e:x=b
  ·subst e
   rw [hl2] at hx
   cases hx
   exact ⟨blk,hb,rfl,by simp,hν2 _ hxc⟩
  ·rw [hl3 x hxc e] at hx
   exact ⟨blk',hx,rfl,rfl,hν2 _ hxc⟩
 have hfl2: ∀ d∈blk.es.flatten,dfC d=true:=by
  intro d hd
  obtain ⟨ds,h1,h2⟩:=List.mem_flatten.1 hd
  exact hdc b blk hb ds h1 d h2
 refine ⟨ν',hs.below,hs.base,hs.fresh,hs.defers,hs.size,fun t x hx=>by obtain ⟨v,h1,h2⟩:=hs.env t x hx;exact ⟨v,h1,aMm U O h2 (hdf t x hx)⟩,⟨fun x=>if x=c then S5 else if x=b then β::(S1++S4) else φ x,?_,?_⟩,hs.kp,?_,hs.szE,hs.okM,hs.okF⟩
 ·intro x blk2 hx
  replace hx:H x=some blk2:=hx
  have hnd:=hnd1
  rw [hφ] at hnd
  have n1:=List.nodup_cons.1 hnd
  have n2:=List.nodup_append.1 n1.2
  have n3:=List.nodup_append.1 n2.2.1
  by_cases e:x=c
  ·subst e
   rw [hl1] at hx
   cases hx
   simp only [if_true]
   refine ⟨by rw [fL];simp,hB _ _ _ hν1,n3.1,fun y hy=>hB1 y (by rw [hφ];simp [hy])⟩
  ·by_cases e0:x=b
   ·subst e0
    rw [hl2] at hx
    cases hx
    simp only [if_neg e,if_true]
    refine ⟨U _ hub,⟨?_,.inr ⟨β,cap,arr,ty,S1++S4,vs,(hν2 _ e).trans q1,q2,q3,by simpa using q4,q5,rfl,by simpa using q7,?_⟩⟩,?_,?_⟩
    ·intro d hd
     rcases List.mem_or_eq_of_mem_set hd with h|h
     ·exact hk1 d h
     ·rw [h];simp;omega
    ·rw [vE (n:=1) hk1 hi rfl (by omega),e1]
     have m1:CellsRep w H (fG [c] s.used) ν' [.own c 0 es'.length] [v] []:=by
      refine ⟨v,[],[],[],rfl,rfl,⟨⟨by rw [fL];simp,fun blk3 h3=>?_⟩,rfl⟩,rfl,rfl⟩
      rw [hl1] at h3
      cases h3
      refine ⟨by simp [cJ],fun h4=>hn0 (hν1.symm.trans h4),fun β' c' h4=>(hn1 β' c' (hν1.symm.trans h4)).1⟩
     have m2:=(aDO (w':=w) (h':=H) (u':=fG [c] s.used) (ν':=ν') U O (fun _ _=>rfl) e4 (fun d hd=>hfl2 d (List.mem_of_mem_take hd))).append (m1.append (aDO (w':=w) (h':=H) (u':=fG [c] s.used) (ν':=ν') U O (fun _ _=>rfl) f5 (fun d hd=>hfl2 d (List.mem_of_mem_drop hd))))
     rw [List.append_assoc (List.take (i*blk.k+j) blk.es.flatten)]
     simpa using m2
    ·refine List.nodup_cons.2 ⟨fun hm=>n1.1 ?_,List.nodup_append.2 ⟨n2.1,n3.2.1,fun y hy z hz=>n2.2.2 y hy z (by simp [hz])⟩⟩
     rcases List.mem_append.1 hm with h|h <;> simp [h]
    ·intro y hy
     refine hB1 y ?_
     rw [hφ]
     rcases List.mem_cons.1 hy with rfl|h
     ·simp
     ·rcases List.mem_append.1 h with h|h <;> simp [h]
   ·rw [hl3 x e e0] at hx
    simp only [if_neg e,if_neg e0]
    obtain ⟨p1,p2,p3,p4⟩:=hh.blk x blk2 hx
    exact ⟨U _ p1,aIb U O (hν2 _ e) (fun _ _=>rfl) p2 (hdc x blk2 hx),p3,p4⟩
 ·have hnd:=hnd1
  rw [hφ] at hnd
  have n1:=List.nodup_cons.1 hnd
  have n2:=List.nodup_append.1 n1.2
  have n3:=List.nodup_append.1 n2.2.1
  have hbn:s.heap b≠none:=by rw [hb];simp
  have hS5: ∀ y,y∈S5→y∈φ b:=fun y hy=>by rw [hφ];simp [hy]
  have hSb: ∀ y,y∈β::(S1++S4)→y∈φ b:=fun y hy=>by
   rw [hφ]
   rcases List.mem_cons.1 hy with rfl|h
   ·simp
   ·rcases List.mem_append.1 h with h|h <;> simp [h]
  have hcb: ∀ y,y∈S5→y ∉ β::(S1++S4):=by
   intro y h5 hy
   rcases List.mem_cons.1 hy with rfl|h
   ·exact n1.1 (by simp [h5])
   ·rcases List.mem_append.1 h with h|h
    ·exact n2.2.2 y h y (by simp [h5]) rfl
    ·exact n3.2.2 y h5 y h rfl
  intro x1 x2 y hx1 hx2 hne2 hy1 hy2
  replace hx1:H x1≠none:=hx1
  replace hx2:H x2≠none:=hx2
  replace hy1:y∈(if x1=c then S5 else if x1=b then β::(S1++S4) else φ x1):=hy1
  replace hy2:y∈(if x2=c then S5 else if x2=b then β::(S1++S4) else φ x2):=hy2
  by_cases a1:x1=c <;> by_cases a2:x2=c
  ·exact hne2 (a1.trans a2.symm)
  ·rw [if_pos a1] at hy1
   rw [if_neg a2] at hy2
   by_cases b2:x2=b
   ·rw [if_pos b2] at hy2;exact hcb y hy1 hy2
   ·rw [if_neg b2] at hy2
    rw [hl3 x2 a2 b2] at hx2
    exact hh.apart b x2 y hbn hx2 (Ne.symm b2) (hS5 y hy1) hy2
  ·rw [if_neg a1] at hy1
   rw [if_pos a2] at hy2
   by_cases b1:x1=b
   ·rw [if_pos b1] at hy1;exact hcb y hy2 hy1
   ·rw [if_neg b1] at hy1
    rw [hl3 x1 a1 b1] at hx1
    exact hh.apart b x1 y hbn hx1 (Ne.symm b1) (hS5 y hy2) hy1
  ·rw [if_neg a1] at hy1
   rw [if_neg a2] at hy2
   by_cases b1:x1=b <;> by_cases b2:x2=b
   ·exact hne2 (b1.trans b2.symm)
   ·rw [if_pos b1] at hy1
    rw [if_neg b2] at hy2
    rw [hl3 x2 a2 b2] at hx2
    exact hh.apart b x2 y hbn hx2 (Ne.symm b2) (hSb y hy1) hy2
   ·rw [if_neg b1] at hy1
    rw [if_pos b2] at hy2
    rw [hl3 x1 a1 b1] at hx1
    exact hh.apart b x1 y hbn hx1 (Ne.symm b1) (hSb y hy2) hy1
   ·rw [if_neg b1] at hy1
    rw [if_neg b2] at hy2
    rw [hl3 x1 a1 b1] at hx1
    rw [hl3 x2 a2 b2] at hx2
    exact hh.apart x1 x2 y hx1 hx2 hne2 hy1 hy2
 ·refine ⟨fun x hx=>U x (hs.ext.used x hx),fun x blk' hx hl'=>?_,fun x hx hF=>?_,hs.ext.okE⟩
  ·obtain ⟨y,g1,g2,g3,g4⟩:=O x blk' (hs.ext.used x hx) hl'
   obtain ⟨z,k1,k2,k3,k4⟩:=hs.ext.old x y hx g1
   exact ⟨z,k1,k2.trans g2,k3.trans g3,g4.trans k4⟩
  ·obtain ⟨g1,g2⟩:=hs.ext.free x hx hF
   refine ⟨g1,fun b2 blk2 β2 c2 hb2 h2 e=>?_⟩
   replace hb2:H b2=some blk2:=hb2
   by_cases a1:b2=c
   ·subst a1
    rw [hν1] at h2
    subst e
    exact C.tm (by rw [←hs.kp];exact hT) β2 hx (hB1 β2 (by rw [hφ];simp [(hn1 _ _ h2).2])) hF
   ·rw [hν2 _ a1] at h2
    by_cases a2:b2=b
    ·subst a2;exact g2 b2 blk β2 c2 hb h2 e
    ·rw [hl3 b2 a1 a2] at hb2
     exact g2 b2 blk2 β2 c2 hb2 h2 e
end
noncomputable section
def Raw1 (κ:Kp) (x d:AV):Prop:= ∃ W G v S,κ.fx=some (W,G)∧x= .sc v∧RepD W d v S∧ ∀ b∈S,G b
def RawK (κ:Kp):AV→AV→Prop
 | .agg xs,.agg ds=>All2 (Raw1 κ) xs ds
 |x,d=>Raw1 κ x d
theorem Sim.stays {C:Ctx} {s:AState} {ν:Nu} {a:Act} {w:World} (hs:Sim C s ν a w) {κ:Kp} (hκ:s.kp=κ) {W:World} {G:Nat→Prop} (h:κ.fx=some (W,G)) {b:Nat} (hb:G b):w.heap[b]? =W.heap[b]? ∧gT s.heap ν b:=by
 obtain ⟨e1,e2⟩:=C.fxp (W,G) (by rw [←hs.kp,hκ];exact h)
 obtain ⟨e3,e4⟩:=e2 b hb
 obtain ⟨e5,e6⟩:=hs.ext.free b e3 e4
 rw [e1] at e5
 exact ⟨e5,e6,hs.okF (W,G) (by rw [←hs.kp,hκ];exact h) b hb⟩
theorem Raw1.rep {C:Ctx} {s:AState} {ν ν':Nu} {a:Act} {w:World} {h:Hp} {u:Us} (hs:Sim C s ν a w) {κ:Kp} (hκ:s.kp=κ) {x d:AV} {v:Value} (r:Rep1 w h u ν' x v) (m:Raw1 κ x d): ∃ S',RepD w d v S':=by
 obtain ⟨W,G,y,S,h1,rfl,h2,h3⟩:=m
 rw [r.1]
 exact ⟨S,h2.keep fun b hm=>(hs.stays hκ h1 (h3 b hm)).1⟩
theorem RawK.rep {C:Ctx} {s:AState} {ν:Nu} {a:Act} {w:World} (hs:Sim C s ν a w) {κ:Kp} (hκ:s.kp=κ) {x d:AV} {v:Value} (r:RepA w s.heap s.used ν x v) (m:RawK κ x d): ∃ S',RepD w d v S':=by
 by_cases ho: ∃ xs ds,x= .agg xs∧d= .agg ds
 ·obtain ⟨xs,ds,rfl,rfl⟩:=ho
  obtain ⟨vs,rfl,r⟩:=r
  obtain ⟨S,h⟩:=uR (V:=Raw1 κ) (fun x d v hr hm=>hm.rep hs hκ hr) r m
  exact ⟨S,by simp only [RepD];exact ⟨vs,rfl,h⟩⟩
 ·have m':Raw1 κ x d:=by
   cases x <;> first|exact m|(cases d <;> first|exact m|exact absurd ⟨_,_,rfl,rfl⟩ ho)
  obtain ⟨W,G,y,S,h1,rfl,h2,h3⟩:=m'
  exact Raw1.rep (h:=s.heap) (u:=s.used) (ν':=ν) (x:= .sc y) hs hκ (show Rep1 w s.heap s.used ν (.sc y) v from r) ⟨W,G,y,S,h1,rfl,h2,h3⟩
def fxW (W:World):Option (World×(Nat→Prop)):=some (W,fun x=>x<W.heap.size)
theorem kB {κ:Kp} {W:World} {d:AV} {v:Value} {S:List Nat} (h:κ.fx=fxW W) (r:RepD W d v S):Raw1 κ (.sc v) d:=⟨W,_,v,S,h,rfl,r,r.lt⟩
theorem vG {κ:Kp} {W:World} {u:Value} (h:κ.fx=fxW W) (o:u.oneCell'=true):Raw1 κ (.sc u) (.sc u):=kB h (yJ o)
theorem aGv {κ:Kp} {W:World} {k:Nat} {es:List (List AV)} {v:Value} {S:List Nat} (h:κ.fx=fxW W) (r:RepD W (.list k es) v S):RawK κ (.sc v) (.list k es):=kB h r
theorem aDP {κ:Kp} :RawK κ (.agg []) (.agg []):=rfl
theorem eC {κ:Kp} {x d:AV} {xs ds:List AV} (a:Raw1 κ x d) (b:RawK κ (.agg xs) (.agg ds)):RawK κ (.agg (x::xs)) (.agg (d::ds)):=⟨d,ds,rfl,a,b⟩
def aDQ (κ:Kp) (h:Hp) (x d:AV):Prop:=viewA h x d∨RawK κ x d
theorem oA {κ:Kp} {h:Hp} :All2 (aDQ κ h) [] []:=rfl
theorem fF {κ:Kp} {h:Hp} {x d:AV} {xs ds:List AV} (a:aDQ κ h x d) (b:All2 (aDQ κ h) xs ds):All2 (aDQ κ h) (x::xs) (d::ds):=⟨d,ds,rfl,a,b⟩
theorem aGw {R:AV→Value→Prop} {V:AV→AV→Prop} {w:World} (hr: ∀ x d v,R x v→V x d→ ∃ S',RepD w d v S') {xs ds:List AV} {vs:List Value} (r:All2 R xs vs) (m:All2 V xs ds): ∃ S',RepVs w ds vs S':=uR hr r m
section
variable {P:Program} {dst:Option Tmp} {ty:TypeId} {pos:String} {aft:Array Edge} {g:Option (Nat×Bool)} {ins:Operand→Option AV} {hp:Hp} {κ:Kp}
theorem aIc {fo:Operand} {xs:Array Operand} {ats:Array TypeId} {f:FuncId} {avs ds:List AV} {r x:AV} {nb:List (Nat×Blk)} {ns ns':List Nat} (hf:ins fo=some (.fn f [])) (hx:evs ins xs.toList=some avs) (hc:HasC P f ds r) (hv1:All2 (aDQ κ hp) avs ds) (hg:aFF r)
  (hi:aLY ns r=(x,nb,ns')) (hfl:aKS x=true) (hn:ns.Nodup):
  AEff P ⟨dst,.call ⟨.value fo,xs,ats⟩,ty,pos,aft,g⟩ ins hp κ ⟨x,avs.flatMap (uQ hp),mF nb,nb.map (·.1)⟩:=by
 refine ⟨fun C s ν a w Q K {hκ} hi' ht hnw hd hs hK=>?_⟩
 have h1:=hs.ev ((hi' fo (by simp [Op.operands,Call.operands])).trans hf)
 simp only [RepA,RepB] at h1
 obtain ⟨cv,h1,h2⟩:=h1
 simp only [All2] at h2
 subst h2
 obtain ⟨φ,hh⟩:=hs.heap
 have h3:=wN hs (xs:=xs.toList) (fun y hy=>hi' y (by simp [Op.operands,Call.operands];exact .inr (Array.mem_toList_iff.1 hy))) hx
 have hv1':All2 (aDQ κ s.heap) avs ds:=hv1.congrM fun y hy d hd=>hd.elim (fun hd=> .inl (hd.congr fun b hb=>ht b (List.mem_flatMap.2 ⟨y,hy,hb⟩))) .inr
 obtain ⟨S1,e1⟩:=aGw (V:=aDQ κ s.heap) (fun x d v hr hv=>hv.elim (fun hv=>viewA.rep hh hr hv) (fun hv=>hv.rep hs hκ hr)) h3 hv1'
 have hcall:=hc.calls w (xs.map a.eval) S1 (by simpa using e1)
 unfold Oper.wp
 have hex:(execOp a.eval ⟨dst,.call ⟨.value fo,xs,ats⟩,ty,pos,aft,g⟩).run P w= .ok (.enter f (xs.map a.eval)) w:=by
  have:execOp a.eval ⟨dst,.call ⟨.value fo,xs,ats⟩,ty,pos,aft,g⟩=callFunc f (xs.map a.eval):=by
   simp [execOp,resolve,h1,Deferred.ofValue,invoke]
  rw [this]
  exact hc.enters _ _
 rw [hex]
 simp only [Oper.upon]
 refine hcall.mono fun e w' ⟨v,S',he,hb,hr,hnew⟩=>?_
 subst he
 simp only
 obtain ⟨g1,X,Sf,g2,g3⟩:=aMe (w:=w) hi hfl hr hg hnew.1 hn
 have hnn:(nb.map (·.1)).Nodup:=by rw [g1] at hn;exact (List.nodup_append.1 hn).1
 obtain ⟨ν',hs'⟩:=hs.call hd hb g2 hnew hnn (fun b hb=>hnw b hb) g3 (touch:=avs.flatMap (uQ hp))
 exact hK ν' _ _ hs'
end
section
variable {P:Program} {dst:Option Tmp} {ty:TypeId} {pos:String} {aft:Array Edge} {g:Option (Nat×Bool)} {s:AState}
theorem tA {f:FuncId} {xs:Array Operand} {ats:Array TypeId} {avs ds:List AV} {u:Value} (hc:HasC P f ds (.sc u)) (hx:evs s.ev xs.toList=some avs) (hv1:All2 (aDQ s.kp s.heap) avs ds):
  AEff P ⟨dst,.call ⟨.value (.func f),xs,ats⟩,ty,pos,aft,g⟩ s.ev s.heap s.kp ⟨.sc u,avs.flatMap (uQ s.heap),[],[]⟩:=
 aIc (ns:=[]) (nb:=[]) (r:= .sc u) (x:= .sc u) rfl hx hc hv1 trivial (aJH [] u) rfl (by simp)
theorem qP {f:FuncId} {xs:Array Operand} {ats:Array TypeId} {avs ds:List AV} {r x:AV} {nb:List (Nat×Blk)} {ns':List Nat} (hc:HasC P f ds r) (hx:evs s.ev xs.toList=some avs) (hi:aLY s.ns r=(x,nb,ns')) (hfl:aKS x=true) (hn:aAu s.ns=true) (hg:aFF r) (hv1:All2 (aDQ s.kp s.heap) avs ds):
  AEff P ⟨dst,.call ⟨.value (.func f),xs,ats⟩,ty,pos,aft,g⟩ s.ev s.heap s.kp ⟨x,avs.flatMap (uQ s.heap),mF nb,nb.map (·.1)⟩:=
 aIc rfl hx hc hv1 hg hi hfl (xB hn)
end
def aGx (w:World):List AV→(List AV→Prop)→Prop
 | [],K=>K []
 | .sc u::cs,K=>aGx w cs (fun xs=>K (.sc u::xs))
 |d::cs,K=> ∀ v S,RepD w d v S→aGx w cs (fun xs=>K (.sc v::xs))
def oB (w:World):List AV→(List AV→Prop)→Prop
 | [],K=>K []
 | .sc u::ds,K=>oB w ds (fun xs=>K (.sc u::xs))
 | .agg cs::ds,K=>aGx w cs (fun xs=>oB w ds (fun ys=>K (.agg xs::ys)))
 |d::ds,K=> ∀ v S,RepD w d v S→oB w ds (fun xs=>K (.sc v::xs))
theorem aOv {w:World} {K:List AV→Prop} (h:K []):aGx w [] K:=h
theorem aMn {w:World} {u:Value} {cs:List AV} {K:List AV→Prop} (h:aGx w cs (fun xs=>K (.sc u::xs))):aGx w (.sc u::cs) K:=h
theorem aJR {w:World} {k:Nat} {es:List (List AV)} {cs:List AV} {K:List AV→Prop} (h: ∀ v S,RepD w (.list k es) v S→aGx w cs (fun xs=>K (.sc v::xs))):aGx w (.list k es::cs) K:=h
theorem aKk {w:World} {K:List AV→Prop} (h:K []):oB w [] K:=h
theorem aMo {w:World} {u:Value} {cs:List AV} {K:List AV→Prop} (h:oB w cs (fun xs=>K (.sc u::xs))):oB w (.sc u::cs) K:=h
theorem aOw {w:World} {xs cs:List AV} {K:List AV→Prop} (h:aGx w xs (fun xs=>oB w cs (fun ys=>K (.agg xs::ys)))):oB w (.agg xs::cs) K:=h
theorem aOx {w:World} {k:Nat} {es:List (List AV)} {cs:List AV} {K:List AV→Prop} (h: ∀ v S,RepD w (.list k es) v S→oB w cs (fun xs=>K (.sc v::xs))):oB w (.list k es::cs) K:=h
def aOy:AV→Bool
 | .sc u=>u.oneCell'
 | .agg cs=>cs.all iO
 | .list _ _=>true
 |_=>false
theorem aGy {w:World} {d:AV} {v:Value} {S:List Nat} (r:RepD w d v S) (ok:iO d=true):v.oneCell'=true:=by
 cases d <;> simp only [iO,Bool.false_eq_true] at ok <;> simp only [RepD] at r
 ·rw [r.1];exact ok
 ·obtain ⟨a,c,rfl,_⟩:=r;rfl
theorem aJS {w:World} : ∀ {cs:List AV} {us:List Value} {S:List Nat} {K:List AV→Prop},RepVs w cs us S→cs.all iO=true→aGx w cs K→ ∃ xs,K xs∧ ∀ (w':World) (h:Hp) (u:Us) (ν:Nu),All2 (Rep1 w' h u ν) xs us
 | [],us,S,K,r,_,k=>by simp only [RepVs] at r;obtain ⟨rfl,_⟩:=r;exact ⟨[],k,fun _ _ _ _=>rfl⟩
 |c::cs,us,S,K,r,ok,k=>by
  simp only [RepVs] at r
  obtain ⟨v,q,S1,S2,rfl,rfl,h3,h4⟩:=r
  simp only [List.all_cons,Bool.and_eq_true] at ok
  have key: ∀ x,aGx w cs (fun xs=>K (x::xs))→x= .sc v→ ∃ xs,K xs∧ ∀ (w':World) (h:Hp) (u:Us) (ν:Nu),All2 (Rep1 w' h u ν) xs (v::q):=by
   rintro x k1 rfl
   obtain ⟨xs,g1,g2⟩:=aJS h4 ok.2 k1
   exact ⟨.sc v::xs,g1,fun w' h u ν=>⟨v,q,rfl,⟨rfl,aGy h3 ok.1⟩,g2 w' h u ν⟩⟩
  cases c <;> simp only [iO,Bool.false_eq_true,false_and] at ok
  ·simp only [RepD] at h3
   exact key _ k (by rw [h3.1])
  ·exact key _ (k v S1 h3) rfl
theorem aId {w:World} : ∀ {ds:List AV} {vs:List Value} {S:List Nat} {K:List AV→Prop},RepVs w ds vs S→ds.all aOy=true→oB w ds K→ ∃ xs,K xs∧xs.length=ds.length∧ ∀ (h:Hp) (u:Us) (ν:Nu),All2 (RepA w h u ν) xs vs
 | [],vs,S,K,r,_,k=>by simp only [RepVs] at r;obtain ⟨rfl,_⟩:=r;exact ⟨[],k,rfl,fun _ _ _=>rfl⟩
 |d::ds,vs,S,K,r,ok,k=>by
  simp only [RepVs] at r
  obtain ⟨v,q,S1,S2,rfl,rfl,h3,h4⟩:=r
  simp only [List.all_cons,Bool.and_eq_true] at ok
  have key: ∀ x,oB w ds (fun xs=>K (x::xs))→(∀ (h:Hp) (u:Us) (ν:Nu),RepA w h u ν x v)→ ∃ xs,K xs∧xs.length=(d::ds).length∧ ∀ (h:Hp) (u:Us) (ν:Nu),All2 (RepA w h u ν) xs (v::q):=by
   intro x k1 hx
   obtain ⟨xs,g1,g2,g3⟩:=aId h4 ok.2 k1
   exact ⟨x::xs,g1,by simp [g2],fun h u ν=>⟨v,q,rfl,hx h u ν,g3 h u ν⟩⟩
  cases d <;> simp only [aOy,Bool.false_eq_true,false_and] at ok
  ·simp only [RepD] at h3
   exact key _ k fun h u ν=>by simp only [RepA,RepB,Rep1];exact ⟨h3.1,h3.2.1⟩
  ·exact key _ (k v S1 h3) fun h u ν=>(show Rep1 w h u ν (.sc v) v from ⟨rfl,aGy h3 rfl⟩)
  ·have h3':=h3
   simp only [RepD] at h3'
   obtain ⟨us,rfl,h5⟩:=h3'
   obtain ⟨xs,g1,g2⟩:=aJS h5 ok.1 k
   exact key _ g1 fun h u ν=>by simp only [RepA,RepB];exact ⟨us,rfl,g2 w h u ν⟩
def dfE:List (Nat×AV)→Prop
 | []=>True
 |(_,x)::r=>dfA x=true∧dfE r
theorem zF: ∀ {l:List (Nat×AV)},dfE l→ ∀ t x,uI l t=some x→dfA x=true
 | [],_,t,x,h=>by cases h
 |(k,v)::r,⟨h1,h2⟩,t,x,h=>by
  simp only [uI] at h
  cases hb:Nat.beq t k with
  |true=>rw [hb] at h;cases h;exact h1
  |false=>rw [hb] at h;exact zF h2 t x h
def dfR (y:Blk):Prop:= ∀ cs∈y.es,∀ c∈cs,dfC c=true
def dfH (skip:List Nat):List (Nat×Blk)→Prop
 | []=>True
 |(b,y)::r=>(b∈skip∨dfR y)∧dfH skip r
theorem zG {skip:List Nat} : ∀ {l:List (Nat×Blk)},dfH skip l→ ∀ b blk,eY l b=some blk→b ∉ skip→ ∀ cs∈blk.es,∀ c∈cs,dfC c=true
 | [],_,b,x,h=>by cases h
 |(k,v)::r,⟨h1,h2⟩,b,x,h=>by
  simp only [eY] at h
  by_cases e:b=k
  ·subst e
   rw [cI] at h
   cases h
   intro hn
   exact h1.elim (fun h=>absurd h hn) id
  ·rw [cL e] at h
   exact zG h2 b x h
theorem EOk.df {α:Type} {k:Nat} {e:α→List AV} (E:EOk k e) (k':Nat) (l:List α):dfR ⟨k',l.map (ow e)⟩:=by
 intro cs hcs c hc
 obtain ⟨x,_,rfl⟩:=List.mem_map.1 hcs
 obtain ⟨d,hd,rfl⟩:=List.mem_map.1 hc
 have:=E.mem x d hd
 cases d <;> simp only [iO,Bool.false_eq_true] at this <;> rfl
theorem EOk.dfS {α:Type} {k:Nat} {e:α→List AV} (E:EOk k e) (k':Nat) (l:List α) (i:Nat) {c:List AV} (h:c.all dfC=true):dfR ⟨k',(l.map (ow e)).set i c⟩:=by
 intro cs hcs d hd
 rcases List.mem_or_eq_of_mem_set hcs with h1|rfl
 ·exact E.df k' l cs h1 d hd
 ·exact List.all_eq_true.1 h d hd
theorem aOz {k:Nat} {es:List (List AV)} (h:(es.all fun cs=>cs.all dfC)=true):dfR ⟨k,es⟩:=fun cs hcs c hc=>List.all_eq_true.1 (List.all_eq_true.1 h cs hcs) c hc
theorem aDR {α:Type} {e:α→List AV} {l:List α} {i:Nat} {v:α} (h:l[i]? =some v):l.map (ow e)=(l.map (ow e)).set i (ow e v):=by
 rw [←List.map_set]
 congr 1
 refine List.ext_getElem? fun j=>?_
 rw [List.getElem?_set]
 by_cases e:i=j
 ·subst e
  have:i<l.length:=by
   rcases Nat.lt_or_ge i l.length with h'|h'
   ·exact h'
   ·rw [List.getElem?_eq_none h'] at h;cases h
  rw [if_pos rfl,if_pos this,h]
 ·rw [if_neg e]
theorem aBe {α:Type} {k:Nat} {e:α→List AV} (E:EOk k e) {l:List α} {i:Nat} {c:List AV} (h:c.all qM=true):aAS ((l.map (ow e)).set i c):=by
 intro cs hcs d hd
 rcases List.mem_or_eq_of_mem_set hcs with h1|rfl
 ·exact E.plainO l cs h1 d hd
 ·exact List.all_eq_true.1 h d hd
theorem aBf {s:AState} {b c i j k k' n:Nat} {A es' fs:List (List AV)} {cs:List AV} (hi:i<A.length) (hT:s.kp.T=true) (hb:s.heap b=some ⟨k,A.set i cs⟩) (hj:cs[j]? =some (.abs k' es')) (hc:s.used c=false) (hn:es'.length=n) (hfs:cJ es'=fs) (hdf: ∀ t x,s.env t=some x→dfA x=true) (hdc: ∀ b blk,s.heap b=some blk→b ∉ ([]:List Nat)→ ∀ cs∈blk.es,∀ c∈cs,dfC c=true):
  Ent s ⟨s.env,bK [(c,some ⟨k',fs⟩),(b,some ⟨k,A.set i (yY cs j [.own c 0 n])⟩)] s.heap,fG [c] s.used,s.ns,s.kp⟩:=by
 subst hn hfs
 have hjl:j<cs.length:=by
  rcases Nat.lt_or_ge j cs.length with h'|h'
  ·exact h'
  ·rw [List.getElem?_eq_none h'] at hj;cases hj
 have h:=aOu (c:=c) hT hb (i:=i) (cs:=cs) (by simp [hi]) hj hc hdf (fun b blk hb=>hdc b blk hb (by simp))
 have e:=aBX (cs:=cs) (j:=j) (vs:=[.own c 0 es'.length]) (by simp;omega)
 simp only [List.length_singleton] at e
 rw [e] at h
 simp only [List.set_set] at h
 exact h
theorem aGz {P:Program} {T:List (Nat×Ty)} {dst:Option Tmp} {ty:TypeId} {pos:String} {aft:Array Edge} {g:Option (Nat×Bool)} {s:AState} (hT:TyOk P T) {t:TypeId} {y:Ty} {x z:Operand} {val:AV} {b i j kk:Nat} {A:List (List AV)} {cs:List AV} (hi:i<A.length) (hx:s.ev x=some (.ptr b i j)) (hb:s.heap b=some ⟨kk,A.set i cs⟩) (hz:s.ev z=some val) (hy:eE T t=some y) (hsz:Nat.beq (dY val).length y.size=true) (ok:(dY val).all (okCell s.heap)=true) (hn:Nat.ble (j+y.size) cs.length=true):
  AEff P ⟨dst,.store t x z,ty,pos,aft,g⟩ s.ev s.heap s.kp ⟨.dead,b::dV (dY val),[(b,some ⟨kk,A.set i (yY cs j (dY val))⟩)],[]⟩:=by
 have h:=bP (P:=P) hT (dst:=dst) (ty:=ty) (pos:=pos) (aft:=aft) (g:=g) hx hb hz hy hsz ok (i:=i) (cs:=cs) (by simp [hi]) hn
 rw [List.set_set] at h
 exact h
theorem aPA {α:Type} {k:Nat} {e:α→List AV} {hp:Hp} {b i n:Nat} {l:List α} (E:EOk k e) (hb:hp b=some ⟨k,l.map (ow e)⟩):yX hp (.own b i n)=some (k,((l.drop i).take n).map e,[b]):=by
 simp only [yX,hb,←List.map_drop,←List.map_take]
 rw [aRF E]
section
variable {P:Program} {ops:Array Oper} {nt:Nat} {l:List Oper} {s:AState} {K:AState→Prop}
theorem vN {t u:Bool} (i:Nat) (hi:s.env i=some (.sc (.bool t))) (q:t=u) (h:SOps P ops nt l ⟨upd (some i) (.sc (.bool u)) s.env,s.heap,s.used,s.ns,s.kp⟩ K):SOps P ops nt l s K:=by
 subst q
 rw [aKX hi] at h
 exact h
theorem gM {d:Option Tmp} {op:Op} {ty:TypeId} {pos:String} {aft:Array Edge} {g:Option (Nat×Bool)} (hg:oK ops s.env ⟨d,op,ty,pos,aft,g⟩=some false) (hd:aHm ⟨d,op,ty,pos,aft,g⟩ nt=true) (h:SOps P ops nt l ⟨upd d (.tuple []) s.env,s.heap,s.used,s.ns,s.kp⟩ K):SOps P ops nt (⟨d,op,ty,pos,aft,g⟩::l) s K:=⟨fun C hC ν a w hs n Q hQ=>by
 subst hC
 refine wpListIn_step fun K' hK'=>?_
 have hst:aJD P ops C.nt ⟨d,op,ty,pos,aft,g⟩ s yG:=⟨aDC hd,.inr ⟨hg,rfl⟩⟩
 exact aAR hst hs fun ν' a' w' hs'=>hK' _ _ (h.out C rfl ν' a' w' hs' n Q hQ)⟩
end
end
noncomputable section
theorem k {α:Sort _} {a:α} :a=a:=rfl
section
variable {P:Program} {ops:Array Oper} {nt:Nat} {r:List Oper} {s:AState} {tr:List Tr} {K:List Tr→AState→Prop} {K':AState→Prop}
def opB (ops:Array Oper) (nt:Nat) (s:AState) (o:Oper) (news:List Nat):Bool:=aHm o nt&&((match oK ops s.env o with|some true=>true|_=>false)&&news.all fun b=> !s.used b)
theorem aEU {o:Oper} {news:List Nat} (h:opB ops nt s o news=true):aHm o nt=true∧oK ops s.env o=some true∧(news.all fun b=> !s.used b)=true:=by
 simp only [opB,Bool.and_eq_true] at h
 obtain ⟨h1,h2,h3⟩:=h
 refine ⟨h1,?_,h3⟩
 split at h2
 ·assumption
 ·cases h2
theorem ae {d:Option Tmp} {op:Op} {ty:TypeId} {pos:String} {aft:Array Edge} {g:Option (Nat×Bool)} {e:Eff} (he:AEff P ⟨d,op,ty,pos,aft,g⟩ s.ev s.heap s.kp e) (hb:opB ops nt s ⟨d,op,ty,pos,aft,g⟩ e.news=true) (h:AOps P ops nt r (s.app d e) (aDB e::tr) K):AOps P ops nt (⟨d,op,ty,pos,aft,g⟩::r) s tr K:=
 aB he (aEU hb).1 (aEU hb).2.1 (aEU hb).2.2 h
theorem se {d:Option Tmp} {op:Op} {ty:TypeId} {pos:String} {aft:Array Edge} {g:Option (Nat×Bool)} {e:Eff} (he:AEff P ⟨d,op,ty,pos,aft,g⟩ s.ev s.heap s.kp e) (hb:opB ops nt s ⟨d,op,ty,pos,aft,g⟩ e.news=true) (h:SOps P ops nt r (s.app d e) K'):SOps P ops nt (⟨d,op,ty,pos,aft,g⟩::r) s K':=
 aOs he (aEU hb).1 (aEU hb).2.1 (aEU hb).2.2 h
theorem am {d:Option Tmp} {ty:TypeId} {pos:String} {aft:Array Edge} {g:Option (Nat×Bool)} {x:Operand} {v:AV} (hx:s.ev x=some v) (hb:opB ops nt s ⟨d,.move x,ty,pos,aft,g⟩ []=true) (h:AOps P ops nt r (s.app d ⟨v,[],[],[]⟩) (aDB ⟨v,[],[],[]⟩::tr) K):AOps P ops nt (⟨d,.move x,ty,pos,aft,g⟩::r) s tr K:=ae (aS hx) hb h
theorem aa {d:Option Tmp} {ty:TypeId} {pos:String} {aft:Array Edge} {g:Option (Nat×Bool)} {x:Operand} {v:AV} (hx:s.ev x=some v) (hb:opB ops nt s ⟨d,.assign x,ty,pos,aft,g⟩ []=true) (h:AOps P ops nt r (s.app d ⟨v,[],[],[]⟩) (aDB ⟨v,[],[],[]⟩::tr) K):AOps P ops nt (⟨d,.assign x,ty,pos,aft,g⟩::r) s tr K:=ae (aV hx) hb h
theorem an (h:K tr s):AOps P ops nt [] s tr K:=cX h
theorem sn (h:K' s):SOps P ops nt [] s K':=aOr h
variable {Q:Exit→AState→Prop}
theorem sQ {x y:Code} (h:AC P nt x s (aAt (fun s'=>AC P nt y s' Q) Q)):AC P nt (.seq x y) s Q:=eF h
theorem rg {id:Nat} {l:List Oper} (h:AOps P l.toArray nt l s [] (fun _ s'=>Q .normal s')):AC P nt (.region id l.toArray false) s Q:=cK h
theorem fE {id:Nat} {l:List Oper} (h:SOps P l.toArray nt l s (Q .normal)):AC P nt (.region id l.toArray false) s Q:=aLu h
theorem tn (h:K' s):aAt K' Q .normal s:=h
end
theorem e1 {e:Nat→Option AV} {σ:Nat→Option Nat} {n t:Nat} {x y:AV} (h:e t=some x) (m:mE σ n x y): ∃ x,e t=some x∧mE σ n x y:=⟨x,h,m⟩
theorem ak {P:Program} {ops:Array Oper} {nt:Nat} {r:List Oper} {s:AState} {tr:List Tr} {K:List Tr→AState→Prop} {d:Option Tmp} {op:Op} {ty:TypeId} {pos:String} {aft:Array Edge} {g:Option (Nat×Bool)} (hg:oK ops s.env ⟨d,op,ty,pos,aft,g⟩=some false) (hd:aHm ⟨d,op,ty,pos,aft,g⟩ nt=true) (h:AOps P ops nt r ⟨upd d (.tuple []) s.env,s.heap,s.used,s.ns,s.kp⟩ (⟨[],[]⟩::tr) K):AOps P ops nt (⟨d,op,ty,pos,aft,g⟩::r) s tr K:=cP hg hd h
theorem oE {e:Nat→Option AV} {σ:Nat→Option Nat} {n t b i m b' i' m':Nat} (h:e t=some (.own b i m)) (p:(σ b',i,m,Nat.blt b' n)=(some b,i',m',true)): ∃ x,e t=some x∧mE σ n x (.own b' i' m'):=by
 obtain ⟨p1,p⟩:=Prod.mk.inj p
 obtain ⟨p2,p⟩:=Prod.mk.inj p
 obtain ⟨p3,p4⟩:=Prod.mk.inj p
 exact ⟨_,h,p1,p2,p3,p4⟩
theorem pE {e:Nat→Option AV} {σ:Nat→Option Nat} {n t b i m b' i' m':Nat} (h:e t=some (.ptr b i m)) (p:(σ b',i,m,Nat.blt b' n)=(some b,i',m',true)): ∃ x,e t=some x∧mE σ n x (.ptr b' i' m'):=by
 obtain ⟨p1,p⟩:=Prod.mk.inj p
 obtain ⟨p2,p⟩:=Prod.mk.inj p
 obtain ⟨p3,p4⟩:=Prod.mk.inj p
 exact ⟨_,h,p1,p2,p3,p4⟩
section
variable {σ:Nat→Option Nat} {n b b0 k:Nat} {h:Hp} {r:List (Nat×Blk)}
theorem hB {y:Blk} (hp:aAS y.es) (hs:σ b=some b0) (hb:h b0=some y) (hn:Nat.blt b n=true) (hr:rZ σ n h r):rZ σ n h ((b,y)::r):=by
 simp only [rZ]
 rw [hs]
 exact ⟨⟨y,hb,rfl,.inl ⟨rfl,hp⟩⟩,hn,hr⟩
theorem hI {l:List Int} (hs:σ b=some b0) (hb:h b0=some ⟨1,List.map (ow eI) l⟩) (hn:Nat.blt b n=true) (hr:rZ σ n h r):rZ σ n h ((b,⟨1,List.map (ow eI) l⟩)::r):=hB (dK.plainO _) hs hb hn hr
theorem hP {y:Blk} (hs:σ b=some b0) (hb:h b0=some y) (hp:(y.es.all fun cs=>cs.all qM)=true) (hn:Nat.blt b n=true) (hr:rZ σ n h r):rZ σ n h ((b,y)::r):=hB (aOZ hp) hs hb hn hr
theorem hX {y:Blk} (hm:match σ b with|some b0=> ∃ x,h b0=some x∧aCJ σ n x y|none=>y.es=[]) (hn:Nat.blt b n=true) (hr:rZ σ n h r):rZ σ n h ((b,y)::r):=⟨hm,hn,hr⟩
end
theorem dG {P:Program} {T:List (Nat×Ty)} (hT:TyOk P T) {dst:Option Tmp} {pos:String} {aft:Array Edge} {g:Option (Nat×Bool)} {s:AState} {x:Operand} {t e k:Nat} {y:Ty} {dty:TypeId} {α:Type} {f:α→List AV} {l:List α} (hx:s.ev x=some (.list k (List.map f l))) (hy:eE T t=some y) (hd:y.desc= .slice e):
  AEff P ⟨dst,.call ⟨.builtin .len,#[x],#[t]⟩,dty,pos,aft,g⟩ s.ev s.heap s.kp ⟨.int l.length,[],[],[]⟩:=AEff.val (cF hT hx hy hd) (by rw [List.length_map])
theorem lA {α:Type} {a b:List α} :(a++b).length=a.length+b.length:=List.length_append
theorem lT {α:Type} {a:List α} {i:Nat} {x:α} :(a.set i x).length=a.length:=List.length_set
theorem lR {α:Type} {n:Nat} {x:α} :(List.replicate n x).length=n:=List.length_replicate
theorem lC {α:Type} {a:α} {b:List α} :(a::b).length=b.length+1:=List.length_cons
theorem lN {α:Type} :([]:List α).length=0:=List.length_nil
theorem aEV:([]:List AV).all sX=true:=rfl
theorem oN {d:AV} {ds:List AV} (h1:sX d=true) (h2:ds.all sX=true):(d::ds).all sX=true:=by
 rw [List.all_cons,h1,h2];rfl
end
noncomputable section
set_option maxRecDepth 10000
set_option maxHeartbeats 4000000
def gY (a0:Int) (a1:Int) (a2:Int):Option Bool:=
 bif decide (a1≤a0) then
 (some (decide (a0≤a2)))
 else
 (some (false))
theorem kS (a0:Int) (a1:Int) (a2:Int) (r:Bool) (h:gY a0 a1 a2=some r):HasC Tryz.prog 92 [.int a0,.int a1,.int a2] (.bl r):=by
 refine bN aA (rvs:=[.tmp 6]) (ns:=[0,1]) Tryz.func92 k k Tryz.ntmps92 k k k<|sQ<|rg<|aa k k<|an<|tn<|sQ<|rg<|am k k<|am k k ?_
 refine ae (bD k k k) k<|am k k ?_
 rcases cb h with ⟨q1,h⟩|⟨q1,h⟩
 ·refine bA 10 k q1<|am k k<|am k k<|ae (bD k k k) k<|ae (aP k k) k<|aa k k<|an<|tn<|aK ?_
  obtain rfl:=so h
  exact aT k k k (bT k)
 ·refine bA 10 k q1<|ak k k<|ak k k<|ak k k<|ae (aP k k) k<|aa k k<|an<|tn<|aK ?_
  obtain rfl:=so h
  exact aT k k k (bT k)
def fS (a0:Int) (a1:Int) (a2:Int):Option Bool:=
 bif decide (a1≤a0) then
 (some (decide (a0≤a2)))
 else
 (some (false))
theorem gO (a0:Int) (a1:Int) (a2:Int) (r:Bool) (h:fS a0 a1 a2=some r):HasC Tryz.prog 127 [.int a0,.int a1,.int a2] (.bl r):=by
 refine bN aA (rvs:=[.tmp 6]) (ns:=[0,1]) Tryz.func127 k k Tryz.ntmps127 k k k<|sQ<|rg<|aa k k<|an<|tn<|sQ<|rg<|am k k<|am k k ?_
 refine ae (bD k k k) k<|am k k ?_
 rcases cb h with ⟨q1,h⟩|⟨q1,h⟩
 ·refine bA 10 k q1<|am k k<|am k k<|ae (bD k k k) k<|ae (aP k k) k<|aa k k<|an<|tn<|aK ?_
  obtain rfl:=so h
  exact aT k k k (bT k)
 ·refine bA 10 k q1<|ak k k<|ak k k<|ak k k<|ae (aP k k) k<|aa k k<|an<|tn<|aK ?_
  obtain rfl:=so h
  exact aT k k k (bT k)
def qW (a0:(List Int)) (x1:(Int×Int)):Option ((Int×Int) ⊕ Int):=
 bif decide (x1.2<(a0.length:Int)) then
 (Option.bind (dX a0 x1.2) fun v2=>
 some (.inl (wr (x1.1+v2),wr (x1.2+1))))
 else
 (some (.inr x1.1))
def tN (a0:(List Int)):Option Int:=
 Option.bind (Lp (qW a0) (0,0)) fun y3=>
 some (y3)
theorem aDS (a0:(List Int)) (r:Int) (h:tN a0=some r):HasC Tryz.prog 86 [.list 1 (List.map eI a0)] (.int r):=by
 refine bN aA (rvs:=[.tmp 2]) (ns:=[0,1]) Tryz.func86 k k Tryz.ntmps86 k k k<|sQ<|rg<|aa k k<|an<|tn<|sQ<|rg<|aa k k<|an ?_
 refine tn<|sQ<|sQ<|rg<|am k k<|ae (dG aA k k k) k<|am k k<|an<|tn<|aL ?_
 obtain ⟨y3,hy3,h⟩:=ob h
 refine cV (body:=(qW a0)) hy3 (fun (x1:(Int×Int))=>bU [(3,.int x1.1),(6,.list 1 (List.map eI a0)),(7,.int (a0.length:Int)),(8,.int x1.2)] [] 0 [0,1]) (fun r e t=>e= .exit 0∧Ent t (bU [(3,.int r)] [] 0 [0,1])) (aE (σ:=sg []) ⟨(e1 k k),⟨_,k,⟨k,k⟩⟩,(e1 k k),(e1 k k),trivial⟩ trivial k) ?_ ?_
 ·intro x1 o h
  refine sQ<|rg<|ae (bD k k k) k<|an<|tn<|sQ ?_
  rcases cb h with ⟨q1,h⟩|⟨q1,h⟩
  ·refine aJ k q1<|aR<|tn<|sQ<|aL<|sQ<|rg ?_
   obtain ⟨v2,hv2,h⟩:=ob h
   refine ae (bJ aA hv2 k k k k k k) k<|ae (aW aA k k k k k k) k<|aa k k<|an<|tn<|rg<|am k k<|am k k<|ae (bW k k) k<|aa k k ?_
   refine an<|bF<|tn<|rg<|ae (bW k k) k<|am k k<|an<|tn ?_
   obtain rfl:=so h
   exact ⟨_,k,(aE (σ:=sg []) ⟨(e1 k k),⟨_,k,⟨k,k⟩⟩,(e1 k k),(e1 k k),trivial⟩ trivial k)⟩
  ·refine aN k q1<|bH<|aH<|aH ?_
   obtain rfl:=so h
   exact ⟨_,k,k,(aE (σ:=sg []) ⟨(e1 k k),trivial⟩ trivial k)⟩
 ·rintro e t ⟨rfl,hent⟩
  refine aX<|tn<|aO hent<|sQ<|rg<|am k k<|aa k k<|an<|tn<|aK ?_
  obtain rfl:=so h
  exact aT k k k (cS k)
def aAD (a0:(List Int)) (a1:(List Int)) (x1:Int):Option (Int ⊕ (Unit ⊕ Bool)):=
 bif decide (x1<(a0.length:Int)) then
 (Option.bind (dX a0 x1) fun v3=>
 Option.bind (dX a1 x1) fun v4=>
 bif !decide (v3=v4) then
 (some (.inr (.inr (false))))
 else
 (some (.inl (wr (x1+1)))))
 else
 (some (.inr (.inl ())))
def aHp (a0:(List Int)) (a1:(List Int)):Option Bool:=
 bif !decide ((a0.length:Int)=(a1.length:Int)) then
 (some (false))
 else
 (Option.bind (Lp (aAD a0 a1) 0) fun y6=>
 Sum.elim (fun y7=>
 some (true)
 )
 (fun y8=>
 some y8
 )
 y6)
def jF (a0:(List Int)) (a1:(List Int)) (x1:Int):Option (Int ⊕ (Unit ⊕ Bool)):=
 bif decide (x1<(a0.length:Int)) then
 (Option.bind (dX a0 x1) fun v3=>
 Option.bind (dX a1 x1) fun v4=>
 bif !decide (v3=v4) then
 (some (.inr (.inr (false))))
 else
 (some (.inl (wr (x1+1)))))
 else
 (some (.inr (.inl ())))
def lK (a0:(List Int)) (a1:(List Int)):Option Bool:=
 bif !decide ((a0.length:Int)=(a1.length:Int)) then
 (some (false))
 else
 (Option.bind (Lp (jF a0 a1) 0) fun y6=>
 Sum.elim (fun y7=>
 some (true)
 )
 (fun y8=>
 some y8
 )
 y6)
theorem aAE (a0:(List Int)) (a1:(List Int)) (r:Bool) (h:lK a0 a1=some r):HasC Tryz.prog 118 [.list 1 (List.map eI a0),.list 1 (List.map eI a1)] (.bl r):=by
 refine bN aA (rvs:=[.tmp 4]) (ns:=[0,1]) Tryz.func118 k k Tryz.ntmps118 k k k<|sQ<|rg<|aa k k<|an<|tn<|sQ<|sQ<|rg<|am k k ?_
 refine ae (dG aA k k k) k<|am k k<|ae (dG aA k k k) k<|ae (bD k k k) k<|an<|tn ?_
 rcases cb h with ⟨q1,h⟩|⟨q1,h⟩
 ·refine aJ k q1<|sQ<|rg<|aa k k<|an<|tn<|aK<|aI ?_
  obtain rfl:=so h
  exact aT k k k (bT k)
 ·refine aN k q1<|aR<|tn<|sQ<|sQ<|rg<|am k k<|ae (dG aA k k k) k<|am k k<|an ?_
  refine tn<|aL ?_
  obtain ⟨y6,hy6,h⟩:=ob h
  refine cV (body:=(jF a0 a1)) hy6 (fun (x1:Int)=>bU [(0,.list 1 (List.map eI a0)),(1,.list 1 (List.map eI a1)),(12,.int (a0.length:Int)),(13,.int x1)] [] 0 [0,1]) (fun r e t=>Sum.elim (fun a=>(fun r e t=>e= .exit 0∧Ent t (bU [] [] 0 [0,1])) a e t) (fun b=>(fun r e t=>e= .ret∧nZ TT [.tmp 4] (.bl r) .ret t) b e t) r) (aE (σ:=sg []) ⟨⟨_,k,⟨k,k⟩⟩,⟨_,k,⟨k,k⟩⟩,(e1 k k),(e1 k k),trivial⟩ trivial k) ?_ ?_
  ·intro x1 o h
   refine sQ<|rg<|ae (bD k k k) k<|an<|tn<|sQ ?_
   rcases cb h with ⟨q2,h⟩|⟨q2,h⟩
   ·refine aJ k q2<|aR<|tn<|sQ<|aL<|sQ<|rg<|am k k<|aa k k<|an ?_
    refine tn<|sQ<|aZ kR<|am k k<|am k k ?_
    obtain ⟨v3,hv3,h⟩:=ob h
    refine ae (bJ aA hv3 k k k k k k) k<|ae (aW aA k k k k k k) k<|am k k<|am k k ?_
    obtain ⟨v4,hv4,h⟩:=ob h
    refine ae (bJ aA hv4 k k k k k k) k<|ae (aW aA k k k k k k) k<|ae (bD k k k) k<|an ?_
    refine ⟨by kernel_rfl,?_⟩
    refine tn<|aO (t:=bU [(0,.list 1 (List.map eI a0)),(1,.list 1 (List.map eI a1)),(12,.int (a0.length:Int)),(13,.int x1),(24,.bl (!decide (v3=v4)))] [] 0 [0,1]) (aE (σ:=sg []) ⟨⟨_,k,⟨k,k⟩⟩,⟨_,k,⟨k,k⟩⟩,(e1 k k),(e1 k k),(e1 k k),trivial⟩ trivial k) ?_
    rcases cb h with ⟨q5,h⟩|⟨q5,h⟩
    ·refine aJ k q5<|sQ<|rg<|aa k k<|an<|tn<|aK<|bB<|aI<|aI ?_
     obtain rfl:=so h
     exact ⟨_,k,k,aT k k k (bT k)⟩
    ·refine aN k q5<|aR<|bF<|tn<|rg<|ae (bW k k) k<|am k k<|an<|tn ?_
     obtain rfl:=so h
     exact ⟨_,k,(aE (σ:=sg []) ⟨⟨_,k,⟨k,k⟩⟩,⟨_,k,⟨k,k⟩⟩,(e1 k k),(e1 k k),trivial⟩ trivial k)⟩
   ·refine aN k q2<|bH<|aH<|aH ?_
    obtain rfl:=so h
    exact ⟨_,k,k,(aE (σ:=sg []) trivial trivial k)⟩
  ·intro e t hX
   rcases y6 with y7|y8
   ·obtain ⟨rfl,hent⟩:=hX
    refine aX<|tn<|aO hent<|sQ<|rg<|aa k k<|an<|tn<|aK ?_
    obtain rfl:=so h
    exact aT k k k (bT k)
   ·obtain ⟨rfl,hent⟩:=hX
    refine bB<|aI ?_
    obtain rfl:=so h
    exact hent
def iA (a0:Int):Option Bool:=
 bif decide (a0=2) then
 (some (true))
 else
 (bif decide (a0=3) then
 (some (true))
 else
 (some (decide (a0=5))))
theorem lL (a0:Int) (r:Bool) (h:iA a0=some r):HasC Tryz.prog 161 [.int a0] (.bl r):=by
 refine bN aA (rvs:=[.tmp 2]) (ns:=[0,1]) Tryz.func161 k k Tryz.ntmps161 k k k<|sQ<|rg<|aa k k<|an<|tn<|sQ<|rg<|am k k<|ae (bD k k k) k ?_
 refine am k k ?_
 rcases cb h with ⟨q1,h⟩|⟨q1,h⟩
 ·refine bA 5 k q1<|ak k k<|ak k k<|ae (aP k k) k<|am k k<|ak k k<|ak k k<|ae (aP k k) k<|aa k k<|an ?_
  refine tn<|aO (t:=bU [(2,.bl true)] [] 0 [0,1]) (aE (σ:=sg []) ⟨(e1 k k),trivial⟩ trivial k)<|aK ?_
  obtain rfl:=so h
  exact aT k k k (bT k)
 ·refine bA 5 k q1<|am k k<|ae (bD k k k) k<|ae (aP k k) k<|am k k ?_
  rcases cb h with ⟨q2,h⟩|⟨q2,h⟩
  ·refine bA 9 k q2<|ak k k<|ak k k<|ae (aP k k) k<|aa k k<|an<|tn<|aO (t:=bU [(2,.bl true)] [] 0 [0,1]) (aE (σ:=sg []) ⟨(e1 k k),trivial⟩ trivial k)<|aK ?_
   obtain rfl:=so h
   exact aT k k k (bT k)
  ·refine bA 9 k q2<|am k k<|ae (bD k k k) k<|ae (aP k k) k<|aa k k<|an<|tn<|aO (t:=bU [(2,.bl (decide (a0=5)))] [] 0 [0,1]) (aE (σ:=sg []) ⟨(e1 k k),trivial⟩ trivial k)<|aK ?_
   obtain rfl:=so h
   exact aT k k k (bT k)
def iB (a0:Int):Option Bool:=
 bif decide (a0=2) then
 (some (true))
 else
 (bif decide (a0=3) then
 (some (true))
 else
 (some (decide (a0=5))))
theorem lM (a0:Int) (r:Bool) (h:iB a0=some r):HasC Tryz.prog 146 [.int a0] (.bl r):=by
 refine bN aA (rvs:=[.tmp 2]) (ns:=[0,1]) Tryz.func146 k k Tryz.ntmps146 k k k<|sQ<|rg<|aa k k<|an<|tn<|sQ<|rg<|am k k<|ae (bD k k k) k ?_
 refine am k k ?_
 rcases cb h with ⟨q1,h⟩|⟨q1,h⟩
 ·refine bA 5 k q1<|ak k k<|ak k k<|ae (aP k k) k<|am k k<|ak k k<|ak k k<|ae (aP k k) k<|aa k k<|an ?_
  refine tn<|aO (t:=bU [(2,.bl true)] [] 0 [0,1]) (aE (σ:=sg []) ⟨(e1 k k),trivial⟩ trivial k)<|aK ?_
  obtain rfl:=so h
  exact aT k k k (bT k)
 ·refine bA 5 k q1<|am k k<|ae (bD k k k) k<|ae (aP k k) k<|am k k ?_
  rcases cb h with ⟨q2,h⟩|⟨q2,h⟩
  ·refine bA 9 k q2<|ak k k<|ak k k<|ae (aP k k) k<|aa k k<|an<|tn<|aO (t:=bU [(2,.bl true)] [] 0 [0,1]) (aE (σ:=sg []) ⟨(e1 k k),trivial⟩ trivial k)<|aK ?_
   obtain rfl:=so h
   exact aT k k k (bT k)
  ·refine bA 9 k q2<|am k k<|ae (bD k k k) k<|ae (aP k k) k<|aa k k<|an<|tn<|aO (t:=bU [(2,.bl (decide (a0=5)))] [] 0 [0,1]) (aE (σ:=sg []) ⟨(e1 k k),trivial⟩ trivial k)<|aK ?_
   obtain rfl:=so h
   exact aT k k k (bT k)
def mI (a0:Qv) (x1:Int):Option (Int ⊕ (Unit ⊕ Bool)):=
 bif decide (x1<(a0.src.length:Int)) then
 (bif decide (x1<(a0.tgt.length:Int)) then
 (Option.bind (dX a0.src x1) fun v3=>
 Option.bind (fS v3 0 (wr (a0.n - 1))) fun v4=>
 bif !v4 then
 (some (.inr (.inr (false))))
 else
 (Option.bind (dX a0.tgt x1) fun v6=>
 Option.bind (fS v6 0 (wr (a0.n - 1))) fun v7=>
 bif !v7 then
 (some (.inr (.inr (false))))
 else
 (some (.inl (wr (x1+1))))))
 else
 (some (.inr (.inl ()))))
 else
 (some (.inr (.inl ())))
def qX (a0:Qv):Option Bool:=
 Option.bind (Lp (mI a0) 0) fun y9=>
 Sum.elim (fun y10=>
 Option.bind (fS a0.n 1 5) fun v11=>
 bif v11 then
 (bif decide ((a0.src.length:Int)≤6) then
 (some (decide ((a0.tgt.length:Int)=(a0.src.length:Int))))
 else
 (some (false)))
 else
 (some (false))
 )
 (fun y14=>
 some y14
 )
 y9
theorem aFW (a0:Qv) (r:Bool) (h:qX a0=some r):HasC Tryz.prog 210 [.agg (eQ a0)] (.bl r):=by
 refine bN aA (rvs:=[.tmp 2]) (ns:=[0,1,2]) Tryz.func210 k k Tryz.ntmps210 k k k<|sQ<|rg<|ae (cD k k k k) k<|aa k k<|an<|tn<|sQ<|sQ<|rg ?_
 refine aa k k<|an<|tn<|aL ?_
 obtain ⟨y9,hy9,h⟩:=ob h
 refine cV (body:=(mI a0)) hy9 (fun (x1:Int)=>bU [(1,.ptr 0 0 0),(3,.int x1)] [(0,⟨3,[[.int a0.n,.list 1 (List.map eI a0.src),.list 1 (List.map eI a0.tgt)]]⟩)] 1 [1,2]) (fun r e t=>Sum.elim (fun a=>(fun r e t=>e= .exit 0∧Ent t (bU [(1,.ptr 0 0 0)] [(0,⟨3,[[.int a0.n,.list 1 (List.map eI a0.src),.list 1 (List.map eI a0.tgt)]]⟩)] 1 [1,2])) a e t) (fun b=>(fun r e t=>e= .ret∧nZ TT [.tmp 2] (.bl r) .ret t) b e t) r) (aE (σ:=sg [(0,0)]) ⟨(pE k k),(e1 k k),trivial⟩ (hP k k k k<|trivial) k) ?_ ?_
 ·intro x1 o h
  refine sQ<|sQ<|rg<|am k k<|ae (aD aA k k k k k k k) k<|ae (aC aA k k k k k k k) k<|ae (dG aA k k k) k<|ae (bD k k k) k<|am k k ?_
  rcases cb h with ⟨q1,h⟩|⟨q1,h⟩
  ·refine bA 9 k q1<|am k k<|ae (aD aA k k k k k k k) k<|ae (aC aA k k k k k k k) k<|ae (dG aA k k k) k<|ae (bD k k k) k<|ae (aP k k) k<|an<|tn<|aO (t:=bU [(1,.ptr 0 0 0),(3,.int x1),(15,.bl (decide (x1<(a0.tgt.length:Int))))] [(0,⟨3,[[.int a0.n,.list 1 (List.map eI a0.src),.list 1 (List.map eI a0.tgt)]]⟩)] 1 [1,2]) (aE (σ:=sg [(0,0)]) ⟨(pE k k),(e1 k k),(e1 k k),trivial⟩ (hP k k k k<|trivial) k) ?_
   rcases cb h with ⟨q2,h⟩|⟨q2,h⟩
   ·refine aJ k q2<|aR<|tn<|sQ<|aL<|sQ<|aZ kR<|ae (aD aA k k k k k k k) k<|ae (aC aA k k k k k k k) k<|am k k ?_
    obtain ⟨v3,hv3,h⟩:=ob h
    refine ae (bJ aA hv3 k k k k k k) k<|ae (aW aA k k k k k k) k<|ae (aD aA k k k k k k k) k<|ae (aC aA k k k k k k k) k<|ae (jY k k) k ?_
    obtain ⟨v4,hv4,h⟩:=ob h
    refine ae (bE (gO v3 0 (wr (a0.n - 1)) v4 hv4) k (aG (aM k) (aG (aM k) (aG (aM k) bG)))) k<|ae (cH k) k<|am k k ?_
    rcases cb h with ⟨q5,h⟩|⟨q5,h⟩
    ·refine bA 28 k q5<|ak k k<|ak k k<|ak k k<|ak k k<|ak k k<|ak k k<|ak k k<|ak k k<|ak k k ?_
     refine ak k k<|ae (aP k k) k<|an ?_
     refine ⟨by kernel_rfl,?_⟩
     refine tn<|aO (t:=bU [(1,.ptr 0 0 0),(3,.int x1),(39,.bl true)] [(0,⟨3,[[.int a0.n,.list 1 (List.map eI a0.src),.list 1 (List.map eI a0.tgt)]]⟩)] 1 [1,2]) (aE (σ:=sg [(0,0)]) ⟨(pE k k),(e1 k k),(e1 k k),trivial⟩ (hP k k k k<|trivial) k)<|aJ k k<|sQ<|rg<|aa k k<|an<|tn<|aK<|bB ?_
     refine aI<|aI ?_
     obtain rfl:=so h
     exact ⟨_,k,k,aT k k k (bT k)⟩
    ·refine bA 28 k q5<|ae (aD aA k k k k k k k) k<|ae (aC aA k k k k k k k) k<|am k k ?_
     obtain ⟨v6,hv6,h⟩:=ob h
     refine ae (bJ aA hv6 k k k k k k) k<|ae (aW aA k k k k k k) k<|ae (aD aA k k k k k k k) k<|ae (aC aA k k k k k k k) k<|ae (jY k k) k ?_
     obtain ⟨v7,hv7,h⟩:=ob h
     refine ae (bE (gO v6 0 (wr (a0.n - 1)) v7 hv7) k (aG (aM k) (aG (aM k) (aG (aM k) bG)))) k<|ae (cH k) k<|ae (aP k k) k<|an ?_
     refine ⟨by kernel_rfl,?_⟩
     refine tn<|aO (t:=bU [(1,.ptr 0 0 0),(3,.int x1),(39,.bl (!v7))] [(0,⟨3,[[.int a0.n,.list 1 (List.map eI a0.src),.list 1 (List.map eI a0.tgt)]]⟩)] 1 [1,2]) (aE (σ:=sg [(0,0)]) ⟨(pE k k),(e1 k k),(e1 k k),trivial⟩ (hP k k k k<|trivial) k) ?_
     rcases cb h with ⟨q8,h⟩|⟨q8,h⟩
     ·refine aJ k q8<|sQ<|rg<|aa k k<|an<|tn<|aK<|bB<|aI<|aI ?_
      obtain rfl:=so h
      exact ⟨_,k,k,aT k k k (bT k)⟩
     ·refine aN k q8<|aR<|bF<|tn<|rg<|am k k<|ae (bW k k) k<|aa k k<|an<|tn ?_
      obtain rfl:=so h
      exact ⟨_,k,(aE (σ:=sg [(0,0)]) ⟨(pE k k),(e1 k k),trivial⟩ (hP k k k k<|trivial) k)⟩
   ·refine aN k q2<|bH<|aH<|aH ?_
    obtain rfl:=so h
    exact ⟨_,k,k,(aE (σ:=sg [(0,0)]) ⟨(pE k k),trivial⟩ (hP k k k k<|trivial) k)⟩
  ·refine bA 9 k q1<|ak k k<|ak k k<|ak k k<|ak k k<|ak k k<|ae (aP k k) k<|an<|tn<|aO (t:=bU [(1,.ptr 0 0 0),(3,.int x1),(15,.bl false)] [(0,⟨3,[[.int a0.n,.list 1 (List.map eI a0.src),.list 1 (List.map eI a0.tgt)]]⟩)] 1 [1,2]) (aE (σ:=sg [(0,0)]) ⟨(pE k k),(e1 k k),(e1 k k),trivial⟩ (hP k k k k<|trivial) k) ?_
   refine aN k k<|bH<|aH<|aH ?_
   obtain rfl:=so h
   exact ⟨_,k,k,(aE (σ:=sg [(0,0)]) ⟨(pE k k),trivial⟩ (hP k k k k<|trivial) k)⟩
 ·intro e t hX
  rcases y9 with y10|y14
  ·obtain ⟨rfl,hent⟩:=hX
   refine aX<|tn<|aO hent<|sQ<|rg<|ae (aD aA k k k k k k k) k<|ae (aC aA k k k k k k k) k ?_
   obtain ⟨v11,hv11,h⟩:=ob h
   refine ae (bE (gO a0.n 1 5 v11 hv11) k (aG (aM k) (aG (aM k) (aG (aM k) bG)))) k<|am k k ?_
   rcases cb h with ⟨q12,h⟩|⟨q12,h⟩
   ·refine bA 43 k q12<|ae (aD aA k k k k k k k) k<|ae (aC aA k k k k k k k) k<|ae (dG aA k k k) k<|ae (bD k k k) k<|ae (aP k k) k<|am k k ?_
    rcases cb h with ⟨q13,h⟩|⟨q13,h⟩
    ·refine bA 49 k q13<|ae (aD aA k k k k k k k) k<|ae (aC aA k k k k k k k) k<|ae (dG aA k k k) k<|ae (aD aA k k k k k k k) k<|ae (aC aA k k k k k k k) k<|ae (dG aA k k k) k<|ae (bD k k k) k<|ae (aP k k) k<|aa k k ?_
     refine an<|tn<|aO (t:=bU [(2,.bl (decide ((a0.tgt.length:Int)=(a0.src.length:Int))))] [] 1 [1,2]) (aE (σ:=sg []) ⟨(e1 k k),trivial⟩ trivial k)<|aK ?_
     obtain rfl:=so h
     exact aT k k k (bT k)
    ·refine bA 49 k q13<|ak k k<|ak k k<|ak k k<|ak k k<|ak k k<|ak k k<|ak k k<|ae (aP k k) k<|aa k k ?_
     refine an<|tn<|aO (t:=bU [(2,.bl false)] [] 1 [1,2]) (aE (σ:=sg []) ⟨(e1 k k),trivial⟩ trivial k)<|aK ?_
     obtain rfl:=so h
     exact aT k k k (bT k)
   ·refine bA 43 k q12<|ak k k<|ak k k<|ak k k<|ak k k<|ae (aP k k) k<|am k k<|ak k k<|ak k k<|ak k k ?_
    refine ak k k<|ak k k<|ak k k<|ak k k<|ae (aP k k) k<|aa k k<|an<|tn<|aO (t:=bU [(2,.bl false)] [] 1 [1,2]) (aE (σ:=sg []) ⟨(e1 k k),trivial⟩ trivial k)<|aK ?_
    obtain rfl:=so h
    exact aT k k k (bT k)
  ·obtain ⟨rfl,hent⟩:=hX
   refine bB<|aI ?_
   obtain rfl:=so h
   exact hent
def tB (a0:Int) (a1:Int):Option Mt:=
 bif (decide (0≤wr (a0*a1))&&decide (wr (a0*a1)≤1048576)) then
 (some ((⟨a0,a1,(List.replicate ((wr (a0*a1)).toNat) (0:Int))⟩:Mt)))
 else none
theorem aBF (a0:Int) (a1:Int) (r:Mt) (h:tB a0 a1=some r):HasC Tryz.prog 189 [.int a0,.int a1] (.agg (eM r)):=by
 refine bN aA (rvs:=[.cell 4 113]) (ns:=[0,1,2,3]) Tryz.func189 k k Tryz.ntmps189 k k k<|sQ<|rg<|ae (cA aA k k) k<|an<|tn<|sQ<|rg<|am k k<|am k k ?_
 refine am k k<|am k k<|ae (gN k k) k ?_
 obtain ⟨q1,h⟩:=cg h
 refine ae (aBB aA q1 k k k k k k k k) k<|ae (cQ aA k k k k k k) k<|ae (bP aA k k k k k k k k) k<|an<|tn<|aO (t:=bU [(4,.ptr 0 0 0)] [(0,⟨3,[[.int a0,.int a1,.own 1 0 ((List.replicate ((wr (a0*a1)).toNat) (0:Int)).length)]]⟩),(1,⟨1,List.map (ow eI) (List.replicate ((wr (a0*a1)).toNat) (0:Int))⟩)] 2 [2,3]) (aE (σ:=sg [(0,0),(1,1)]) ⟨(pE k k),trivial⟩ (hX ⟨_,k,k,.inr ⟨_,_,k,⟨_,_,k,k,⟨_,_,k,k,⟨_,_,k,⟨k,k,(by simp only [bC,lA,lT,lR,lC,lN]),k⟩,k⟩⟩⟩,k⟩⟩ k<|hX ⟨_,k,k,.inl ⟨aCO (e:=eI) (z:=0) _,dK.plainO _⟩⟩ k<|trivial) k)<|aK ?_
 obtain rfl:=so h
 exact aT k k k (qI (cC (k) (cC (k) (cC (jD dK k k) hZ))))
def vH (a0:Int) (a1:Int):Option Mt:=
 bif (decide (0≤wr (a0*a1))&&decide (wr (a0*a1)≤1048576)) then
 (some ((⟨a0,a1,(List.replicate ((wr (a0*a1)).toNat) (0:Int))⟩:Mt)))
 else none
theorem aHq (a0:Int) (a1:Int) (r:Mt) (h:vH a0 a1=some r):HasC Tryz.prog 201 [.int a0,.int a1] (.agg (eM r)):=by
 refine bN aA (rvs:=[.cell 4 113]) (ns:=[0,1,2,3]) Tryz.func201 k k Tryz.ntmps201 k k k<|sQ<|rg<|ae (cA aA k k) k<|an<|tn<|sQ<|rg<|am k k<|am k k ?_
 refine am k k<|am k k<|ae (gN k k) k ?_
 obtain ⟨q1,h⟩:=cg h
 refine ae (aBB aA q1 k k k k k k k k) k<|ae (cQ aA k k k k k k) k<|ae (bP aA k k k k k k k k) k<|an<|tn<|aO (t:=bU [(4,.ptr 0 0 0)] [(0,⟨3,[[.int a0,.int a1,.own 1 0 ((List.replicate ((wr (a0*a1)).toNat) (0:Int)).length)]]⟩),(1,⟨1,List.map (ow eI) (List.replicate ((wr (a0*a1)).toNat) (0:Int))⟩)] 2 [2,3]) (aE (σ:=sg [(0,0),(1,1)]) ⟨(pE k k),trivial⟩ (hX ⟨_,k,k,.inr ⟨_,_,k,⟨_,_,k,k,⟨_,_,k,k,⟨_,_,k,⟨k,k,(by simp only [bC,lA,lT,lR,lC,lN]),k⟩,k⟩⟩⟩,k⟩⟩ k<|hX ⟨_,k,k,.inl ⟨aCO (e:=eI) (z:=0) _,dK.plainO _⟩⟩ k<|trivial) k)<|aK ?_
 obtain rfl:=so h
 exact aT k k k (qI (cC (k) (cC (k) (cC (jD dK k k) hZ))))
def dM (a0:Mt) (a1:Int):Option Unit:=
 bif (decide (0≤wr (a1*a0.cols))&&(decide (wr (a1*a0.cols)≤wr ((wr (a1+1))*a0.cols))&&decide (wr ((wr (a1+1))*a0.cols)≤((a0.cells.length:Nat):Int)))) then
 (some ())
 else none
theorem eO (a0:Mt) (a1:Int) (r:Unit) (h:dM a0 a1=some r):HasE Tryz.prog 190 [.agg [.int a0.rows,.int a0.cols,.own 0 0 a0.cells.length],.int a1] [(0,⟨1,List.map (ow eI) a0.cells⟩)] 1 (.own 0 (0+(wr (a1*a0.cols)).toNat) ((wr ((wr (a1+1))*a0.cols)).toNat - (wr (a1*a0.cols)).toNat)) [(0,⟨1,List.map (ow eI) a0.cells⟩)]:=by
 refine qV aA (rvs:=[.tmp 4]) (ns:=[1,2,3]) Tryz.func190 k k Tryz.ntmps190 k k<|sQ<|rg<|ae (cD k k k k) k<|aa k k<|an<|tn<|sQ<|rg<|ae (aD aA k k k k k k k) k ?_
 refine ae (aC aA k k k k k k k) k<|am k k<|ae (aD aA k k k k k k k) k<|ae (aC aA k k k k k k k) k<|ae (gN k k) k<|am k k<|ae (bW k k) k<|ae (aD aA k k k k k k k) k<|ae (aC aA k k k k k k k) k<|ae (gN k k) k ?_
 obtain ⟨q1,h⟩:=cg h
 refine ae (yO aA (l:=wr (a1*a0.cols)) (h:=wr ((wr (a1+1))*a0.cols)) q1 k k k k k k k k) k<|aa k k<|an<|tn<|aO (t:=bU [(4,.own 0 (0+(wr (a1*a0.cols)).toNat) ((wr ((wr (a1+1))*a0.cols)).toNat - (wr (a1*a0.cols)).toNat))] [(0,⟨1,List.map (ow eI) a0.cells⟩)] 2 [2,3] 1) (aE (σ:=sg [(0,0)]) ⟨(oE k k),trivial⟩ (hI k k k<|trivial) k)<|aK ?_
 obtain rfl:=so h
 exact ⟨bU [(4,.own 0 (0+(wr (a1*a0.cols)).toNat) ((wr ((wr (a1+1))*a0.cols)).toNat - (wr (a1*a0.cols)).toNat))] [(0,⟨1,List.map (ow eI) a0.cells⟩)] 1 [1,2,3] 1,(aE (σ:=sg [(0,0)]) ⟨(oE k k),trivial⟩ (hI k k k<|trivial) k),k,⟨_,k,.inl k⟩,⟨k,trivial⟩⟩
def jP (a0:Int) (a2:Int) (a3:(List Int)) (n1:Nat) (s1:Nat) (x1:((List Int)×Int)):Option (((List Int)×Int) ⊕ (List Int)):=
 bif decide (x1.2<(a3.length:Int)) then
 (Option.bind (dX a3 x1.2) fun v2=>
 bif (decide (0≤x1.2)&&decide (x1.2<((n1:Nat):Int))) then
 (Option.bind (x1.1[(s1+x1.2.toNat)]?) fun v3=>
 bif !decide (a0=0) then
 (bif (decide (0≤x1.2)&&decide (x1.2<((n1:Nat):Int))) then
 (Option.bind (x1.1[(s1+x1.2.toNat)]?) fun v5=>
 some (.inl ((x1.1.set (s1+x1.2.toNat) ((wr (v3+(wr (a2*v2)))).tmod a0)),wr (x1.2+1)))
 )
 else none)
 else none
 )
 else none)
 else
 (some (.inr x1.1))
def gU (a0:Int) (c0:(List Int)) (s1:Nat) (n1:Nat) (a2:Int) (a3:(List Int)):Option (List Int):=
 Option.bind (Lp (jP a0 a2 a3 n1 s1) (c0,0)) fun y8=>
 some y8
theorem xK (a0:Int) (c0:(List Int)) (s1:Nat) (n1:Nat) (a2:Int) (a3:(List Int)) (r:(List Int)) (h:gU a0 c0 s1 n1 a2 a3=some r):HasE Tryz.prog 207 [.int a0,.own 0 s1 n1,.int a2,.list 1 (List.map eI a3)] [(0,⟨1,List.map (ow eI) c0⟩)] 1 (.own 0 s1 n1) [(0,⟨1,List.map (ow eI) r⟩)]:=by
 refine qV aA (rvs:=[.tmp 8]) (ns:=[1,2]) Tryz.func207 k k Tryz.ntmps207 k k<|sQ<|rg<|aa k k<|an<|tn<|sQ<|sQ<|rg<|am k k ?_
 refine ae (dG aA k k k) k<|am k k<|an<|tn<|aL ?_
 obtain ⟨y8,hy8,h⟩:=ob h
 refine cV (body:=(jP a0 a2 a3 n1 s1)) hy8 (fun (x1:((List Int)×Int))=>bU [(0,.int a0),(1,.own 0 s1 n1),(2,.int a2),(11,.list 1 (List.map eI a3)),(12,.int (a3.length:Int)),(13,.int x1.2)] [(0,⟨1,List.map (ow eI) x1.1⟩)] 1 [1,2] 1) (fun r e t=>e= .exit 0∧Ent t (bU [(1,.own 0 s1 n1)] [(0,⟨1,List.map (ow eI) r⟩)] 1 [1,2] 1)) (aE (σ:=sg [(0,0)]) ⟨(e1 k k),(oE k k),(e1 k k),⟨_,k,⟨k,k⟩⟩,(e1 k k),(e1 k k),trivial⟩ (hI k k k<|trivial) k) ?_ ?_
 ·intro x1 o h
  refine sQ<|rg<|ae (bD k k k) k<|an<|tn<|sQ ?_
  rcases cb h with ⟨q1,h⟩|⟨q1,h⟩
  ·refine aJ k q1<|aR<|tn<|sQ<|aL<|sQ<|rg<|am k k ?_
   obtain ⟨v2,hv2,h⟩:=ob h
   refine ae (bJ aA hv2 k k k k k k) k<|ae (aW aA k k k k k k) k<|aa k k<|aa k k<|an<|tn<|rg<|am k k<|am k k<|am k k ?_
   refine am k k ?_
   obtain ⟨q4,h⟩:=cg h
   obtain ⟨v3,hv3,h⟩:=ob h
   refine ae (gL aA q4 k k k k k k k) k<|ae (aC aA k k k k (cM (hv3)) k k) k<|am k k<|am k k<|ae (gN k k) k<|ae (bW k k) k<|am k k ?_
   obtain ⟨q7,h⟩:=cg h
   refine ae (aFG k k q7) k ?_
   obtain ⟨q6,h⟩:=cg h
   obtain ⟨v5,hv5,h⟩:=ob h
   refine ae (gL aA q6 k k k k k k k) k<|ae (iH aA uJ (u:=(wr (v3+(wr (a2*v2)))).tmod a0) (hv5) k k k k k k) k<|an<|bF<|tn<|aO (t:=bU [(0,.int a0),(1,.own 0 s1 n1),(2,.int a2),(11,.list 1 (List.map eI a3)),(12,.int (a3.length:Int)),(13,.int x1.2)] [(0,⟨1,List.map (ow eI) (x1.1.set (s1+x1.2.toNat) ((wr (v3+(wr (a2*v2)))).tmod a0))⟩)] 1 [1,2] 1) (aE (σ:=sg [(0,0)]) ⟨(e1 k k),(oE k k),(e1 k k),⟨_,k,⟨k,k⟩⟩,(e1 k k),(e1 k k),trivial⟩ (hI k k k<|trivial) k)<|rg<|ae (bW k k) k<|am k k<|an ?_
   refine tn ?_
   obtain rfl:=so h
   exact ⟨_,k,(aE (σ:=sg [(0,0)]) ⟨(e1 k k),(oE k k),(e1 k k),⟨_,k,⟨k,k⟩⟩,(e1 k k),(e1 k k),trivial⟩ (hI k k k<|trivial) k)⟩
  ·refine aN k q1<|bH<|aH<|aH ?_
   obtain rfl:=so h
   exact ⟨_,k,k,(aE (σ:=sg [(0,0)]) ⟨(oE k k),trivial⟩ (hI k k k<|trivial) k)⟩
 ·rintro e t ⟨rfl,hent⟩
  refine aX<|tn<|aO hent<|sQ<|rg<|am k k<|aa k k<|an<|tn<|aK ?_
  obtain rfl:=so h
  exact ⟨bU [(8,.own 0 s1 n1)] [(0,⟨1,List.map (ow eI) y8⟩)] 1 [1,2] 1,(aE (σ:=sg [(0,0)]) ⟨(oE k k),trivial⟩ (hI k k k<|trivial) k),k,⟨_,k,.inl k⟩,⟨k,trivial⟩⟩
def gJ (a0:Int) (a2:Int) (n1:Nat) (n3:Nat) (s1:Nat) (s3:Nat) (x1:((List Int)×Int)):Option (((List Int)×Int) ⊕ (List Int)):=
 bif decide (x1.2<((n3:Nat):Int)) then
 (bif (decide (0≤x1.2)&&decide (x1.2<((n3:Nat):Int))) then
 (Option.bind (x1.1[(s3+x1.2.toNat)]?) fun v2=>
 bif (decide (0≤x1.2)&&decide (x1.2<((n1:Nat):Int))) then
 (Option.bind (x1.1[(s1+x1.2.toNat)]?) fun v4=>
 bif !decide (a0=0) then
 (bif (decide (0≤x1.2)&&decide (x1.2<((n1:Nat):Int))) then
 (Option.bind (x1.1[(s1+x1.2.toNat)]?) fun v6=>
 some (.inl ((x1.1.set (s1+x1.2.toNat) ((wr (v4+(wr (a2*v2)))).tmod a0)),wr (x1.2+1)))
 )
 else none)
 else none
 )
 else none
 )
 else none)
 else
 (some (.inr x1.1))
def iJ (a0:Int) (c0:(List Int)) (s1:Nat) (n1:Nat) (a2:Int) (s3:Nat) (n3:Nat):Option (List Int):=
 Option.bind (Lp (gJ a0 a2 n1 n3 s1 s3) (c0,0)) fun y9=>
 some y9
theorem aAF (a0:Int) (c0:(List Int)) (s1:Nat) (n1:Nat) (a2:Int) (s3:Nat) (n3:Nat) (r:(List Int)) (h:iJ a0 c0 s1 n1 a2 s3 n3=some r):HasE Tryz.prog 207 [.int a0,.own 0 s1 n1,.int a2,.own 0 s3 n3] [(0,⟨1,List.map (ow eI) c0⟩)] 1 (.own 0 s1 n1) [(0,⟨1,List.map (ow eI) r⟩)]:=by
 refine qV aA (rvs:=[.tmp 8]) (ns:=[1,2]) Tryz.func207 k k Tryz.ntmps207 k k<|sQ<|rg<|aa k k<|an<|tn<|sQ<|sQ<|rg<|am k k ?_
 refine ae (bV aA k k k k) k<|am k k<|an<|tn<|aL ?_
 obtain ⟨y9,hy9,h⟩:=ob h
 refine cV (body:=(gJ a0 a2 n1 n3 s1 s3)) hy9 (fun (x1:((List Int)×Int))=>bU [(0,.int a0),(1,.own 0 s1 n1),(2,.int a2),(11,.own 0 s3 n3),(12,.int ((n3:Nat):Int)),(13,.int x1.2)] [(0,⟨1,List.map (ow eI) x1.1⟩)] 1 [1,2] 1) (fun r e t=>e= .exit 0∧Ent t (bU [(1,.own 0 s1 n1)] [(0,⟨1,List.map (ow eI) r⟩)] 1 [1,2] 1)) (aE (σ:=sg [(0,0)]) ⟨(e1 k k),(oE k k),(e1 k k),(oE k k),(e1 k k),(e1 k k),trivial⟩ (hI k k k<|trivial) k) ?_ ?_
 ·intro x1 o h
  refine sQ<|rg<|ae (bD k k k) k<|an<|tn<|sQ ?_
  rcases cb h with ⟨q1,h⟩|⟨q1,h⟩
  ·refine aJ k q1<|aR<|tn<|sQ<|aL<|sQ<|rg<|am k k ?_
   obtain ⟨q3,h⟩:=cg h
   obtain ⟨v2,hv2,h⟩:=ob h
   refine ae (gL aA q3 k k k k k k k) k<|ae (aC aA k k k k (cM (hv2)) k k) k<|aa k k<|aa k k<|an<|tn<|rg<|am k k<|am k k<|am k k ?_
   refine am k k ?_
   obtain ⟨q5,h⟩:=cg h
   obtain ⟨v4,hv4,h⟩:=ob h
   refine ae (gL aA q5 k k k k k k k) k<|ae (aC aA k k k k (cM (hv4)) k k) k<|am k k<|am k k<|ae (gN k k) k<|ae (bW k k) k<|am k k ?_
   obtain ⟨q8,h⟩:=cg h
   refine ae (aFG k k q8) k ?_
   obtain ⟨q7,h⟩:=cg h
   obtain ⟨v6,hv6,h⟩:=ob h
   refine ae (gL aA q7 k k k k k k k) k<|ae (iH aA uJ (u:=(wr (v4+(wr (a2*v2)))).tmod a0) (hv6) k k k k k k) k<|an<|bF<|tn<|aO (t:=bU [(0,.int a0),(1,.own 0 s1 n1),(2,.int a2),(11,.own 0 s3 n3),(12,.int ((n3:Nat):Int)),(13,.int x1.2)] [(0,⟨1,List.map (ow eI) (x1.1.set (s1+x1.2.toNat) ((wr (v4+(wr (a2*v2)))).tmod a0))⟩)] 1 [1,2] 1) (aE (σ:=sg [(0,0)]) ⟨(e1 k k),(oE k k),(e1 k k),(oE k k),(e1 k k),(e1 k k),trivial⟩ (hI k k k<|trivial) k)<|rg<|ae (bW k k) k<|am k k<|an ?_
   refine tn ?_
   obtain rfl:=so h
   exact ⟨_,k,(aE (σ:=sg [(0,0)]) ⟨(e1 k k),(oE k k),(e1 k k),(oE k k),(e1 k k),(e1 k k),trivial⟩ (hI k k k<|trivial) k)⟩
  ·refine aN k q1<|bH<|aH<|aH ?_
   obtain rfl:=so h
   exact ⟨_,k,k,(aE (σ:=sg [(0,0)]) ⟨(oE k k),trivial⟩ (hI k k k<|trivial) k)⟩
 ·rintro e t ⟨rfl,hent⟩
  refine aX<|tn<|aO hent<|sQ<|rg<|am k k<|aa k k<|an<|tn<|aK ?_
  obtain rfl:=so h
  exact ⟨bU [(8,.own 0 s1 n1)] [(0,⟨1,List.map (ow eI) y9⟩)] 1 [1,2] 1,(aE (σ:=sg [(0,0)]) ⟨(oE k k),trivial⟩ (hI k k k<|trivial) k),k,⟨_,k,.inl k⟩,⟨k,trivial⟩⟩
def kI (a0:Int) (a1:Int):Option Int:=
 bif !decide (a0=0) then
 (bif decide (a1.tmod a0<0) then
 (some (wr ((a1.tmod a0)+a0)))
 else
 (some (a1.tmod a0)))
 else none
theorem tP (a0:Int) (a1:Int) (r:Int) (h:kI a0 a1=some r):HasC Tryz.prog 202 [.int a0,.int a1] (.int r):=by
 refine bN aA (rvs:=[.tmp 4]) (ns:=[0,1]) Tryz.func202 k k Tryz.ntmps202 k k k<|sQ<|rg<|aa k k<|an<|tn<|sQ<|rg<|am k k<|am k k ?_
 obtain ⟨q2,h⟩:=cg h
 refine ae (aFG k k q2) k<|aa k k<|an<|tn<|sQ<|sQ<|rg<|am k k<|ae (bD k k k) k<|an ?_
 refine tn ?_
 rcases cb h with ⟨q1,h⟩|⟨q1,h⟩
 ·refine aJ k q1<|rg<|am k k<|am k k<|ae (bW k k) k<|aa k k<|an<|tn<|sQ<|rg ?_
  refine am k k<|aa k k<|an<|tn<|aO (t:=bU [(4,.int (wr ((a1.tmod a0)+a0)))] [] 0 [0,1]) (aE (σ:=sg []) ⟨(e1 k k),trivial⟩ trivial k)<|aK ?_
  obtain rfl:=so h
  exact aT k k k (cS k)
 ·refine aN k q1<|aR<|tn<|sQ<|rg<|am k k<|aa k k<|an<|tn<|aK ?_
  obtain rfl:=so h
  exact aT k k k (cS k)
def kJ (a1:Mt) (a2:Mt) (x1:((List Int)×Int)) (x2:((List Int)×Int)) (x3:(Int×Int)):Option ((Int×Int) ⊕ Int):=
 bif decide (x3.2<a1.cols) then
 (Option.bind (dX a1.cells (wr ((wr (x1.2*a1.cols))+x3.2))) fun v5=>
 Option.bind (dX a2.cells (wr ((wr (x3.2*a2.cols))+x2.2))) fun v6=>
 some (.inl (wr (x3.1+(wr (v5*v6))),wr (x3.2+1))))
 else
 (some (.inr x3.1))
def kK (a0:Int) (a1:Mt) (a2:Mt) (x1:((List Int)×Int)) (x2:((List Int)×Int)):Option (((List Int)×Int) ⊕ (List Int)):=
 bif decide (x2.2<a2.cols) then
 (Option.bind (Lp (kJ a1 a2 x1 x2) (0,0)) fun y7=>
 Option.bind (kI a0 y7) fun v8=>
 Option.bind (dX x2.1 (wr ((wr (x1.2*a2.cols))+x2.2))) fun v9=>
 some (.inl ((x2.1.set ((wr ((wr (x1.2*a2.cols))+x2.2)).toNat) v8),wr (x2.2+1))))
 else
 (some (.inr x2.1))
def kL (a0:Int) (a1:Mt) (a2:Mt) (x1:((List Int)×Int)):Option (((List Int)×Int) ⊕ (List Int)):=
 bif decide (x1.2<a1.rows) then
 (Option.bind (Lp (kK a0 a1 a2 x1) (x1.1,0)) fun y10=>
 some (.inl (y10,wr (x1.2+1))))
 else
 (some (.inr x1.1))
def oO (a0:Int) (a1:Mt) (a2:Mt):Option Mt:=
 Option.bind (vH a1.rows a2.cols) fun v1=>
 Option.bind (Lp (kL a0 a1 a2) (v1.cells,0)) fun y11=>
 some ((⟨v1.rows,v1.cols,y11⟩:Mt))
theorem aDT (a0:Int) (a1:Mt) (a2:Mt) (r:Mt) (h:oO a0 a1 a2=some r):HasC Tryz.prog 145 [.int a0,.agg (eM a1),.agg (eM a2)] (.agg (eM r)):=by
 refine bN aA (rvs:=[.cell 6 113]) (ns:=[0,1,2,3,4,5,6]) Tryz.func145 k k Tryz.ntmps145 k k k<|sQ<|rg<|ae (cD k k k k) k<|ae (cD k k k k) k<|ae (cA aA k k) k<|an<|tn<|sQ<|rg ?_
 refine ae (aD aA k k k k k k k) k<|ae (aC aA k k k k k k k) k<|ae (aD aA k k k k k k k) k<|ae (aC aA k k k k k k k) k ?_
 obtain ⟨v1,hv1,h⟩:=ob h
 refine ae (AEff.conv (dC (x:= .agg [.int v1.rows,.int v1.cols,.own 3 0 (List.map eI v1.cells).length]) (nb:=[(3,⟨1,cJ (List.map eI v1.cells)⟩)]) (aHq a1.rows a2.cols v1 hv1) k (by rfl) k k (bZ trivial (bZ trivial (bZ (dK.good _) gQ))) (aG (aM k) (aG (aM k) bG))) (v':= .agg [.int v1.rows,.int v1.cols,.own 3 0 v1.cells.length]) (ed':=[(3,some ⟨1,List.map (ow eI) v1.cells⟩)]) (by simp only [bC]) (eN (nb':=[(3,⟨1,List.map (ow eI) v1.cells⟩)]) (by simp only [cO]))) k<|ae (cA aA k k) k<|ae (bP aA k k k k k k k k) k<|an<|tn<|sQ<|sQ<|rg<|aa k k<|an ?_
 refine tn<|aL ?_
 obtain ⟨y11,hy11,h⟩:=ob h
 refine cV (body:=(kL a0 a1 a2)) hy11 (fun (x1:((List Int)×Int))=>bU [(0,.int a0),(4,.ptr 0 0 0),(5,.ptr 1 0 0),(6,.ptr 2 0 0),(7,.ptr 3 0 0),(8,.int x1.2)] [(0,⟨3,[[.int a1.rows,.int a1.cols,.list 1 (List.map eI a1.cells)]]⟩),(1,⟨3,[[.int a2.rows,.int a2.cols,.list 1 (List.map eI a2.cells)]]⟩),(2,⟨3,[[.int 0,.int 0,.nil 1]]⟩),(3,⟨3,[[.int v1.rows,.int v1.cols,.own 4 0 x1.1.length]]⟩),(4,⟨1,List.map (ow eI) x1.1⟩)] 5 [5,6]) (fun r e t=>e= .exit 0∧Ent t (bU [(6,.ptr 0 0 0),(7,.ptr 1 0 0)] [(0,⟨3,[[.int 0,.int 0,.nil 1]]⟩),(1,⟨3,[[.int v1.rows,.int v1.cols,.own 2 0 r.length]]⟩),(2,⟨1,List.map (ow eI) r⟩)] 3 [3,4,5,6])) (aE (σ:=sg [(0,0),(1,1),(2,2),(3,4),(4,3)]) ⟨(e1 k k),(pE k k),(pE k k),(pE k k),(pE k k),(e1 k k),trivial⟩ (hP k k k k<|hP k k k k<|hP k k k k<|hX ⟨_,k,k,.inr ⟨_,_,k,⟨_,_,k,k,⟨_,_,k,k,⟨_,_,k,⟨k,k,k,k⟩,k⟩⟩⟩,k⟩⟩ k<|hI k k k<|trivial) k) ?_ ?_
 ·intro x1 o h
  refine sQ<|sQ<|rg<|am k k<|ae (aD aA k k k k k k k) k<|ae (aC aA k k k k k k k) k<|ae (bD k k k) k<|an<|tn ?_
  rcases cb h with ⟨q2,h⟩|⟨q2,h⟩
  ·refine aJ k q2<|aR<|tn<|sQ<|aL<|sQ<|rg<|aa k k<|an<|tn ?_
   refine aL ?_
   obtain ⟨y10,hy10,h⟩:=ob h
   refine cV (body:=(kK a0 a1 a2 x1)) hy10 (fun (x2:((List Int)×Int))=>bU [(0,.int a0),(4,.ptr 0 0 0),(5,.ptr 1 0 0),(6,.ptr 2 0 0),(7,.ptr 3 0 0),(8,.int x1.2),(9,.int x2.2)] [(0,⟨3,[[.int a1.rows,.int a1.cols,.list 1 (List.map eI a1.cells)]]⟩),(1,⟨3,[[.int a2.rows,.int a2.cols,.list 1 (List.map eI a2.cells)]]⟩),(2,⟨3,[[.int 0,.int 0,.nil 1]]⟩),(3,⟨3,[[.int v1.rows,.int v1.cols,.own 4 0 x2.1.length]]⟩),(4,⟨1,List.map (ow eI) x2.1⟩)] 5 [5,6]) (fun r e t=>e= .exit 2∧Ent t (bU [(0,.int a0),(4,.ptr 0 0 0),(5,.ptr 1 0 0),(6,.ptr 2 0 0),(7,.ptr 3 0 0),(8,.int x1.2)] [(0,⟨3,[[.int a1.rows,.int a1.cols,.list 1 (List.map eI a1.cells)]]⟩),(1,⟨3,[[.int a2.rows,.int a2.cols,.list 1 (List.map eI a2.cells)]]⟩),(2,⟨3,[[.int 0,.int 0,.nil 1]]⟩),(3,⟨3,[[.int v1.rows,.int v1.cols,.own 4 0 r.length]]⟩),(4,⟨1,List.map (ow eI) r⟩)] 5 [5,6])) (aE (σ:=sg [(0,0),(1,1),(2,2),(3,3),(4,4)]) ⟨(e1 k k),(pE k k),(pE k k),(pE k k),(pE k k),(e1 k k),(e1 k k),trivial⟩ (hP k k k k<|hP k k k k<|hP k k k k<|hX ⟨_,k,k,.inr ⟨_,_,k,⟨_,_,k,k,⟨_,_,k,k,⟨_,_,k,⟨k,k,k,k⟩,k⟩⟩⟩,k⟩⟩ k<|hI k k k<|trivial) k) ?_ ?_
   ·intro x2 o h
    refine sQ<|sQ<|rg<|am k k<|ae (aD aA k k k k k k k) k<|ae (aC aA k k k k k k k) k<|ae (bD k k k) k<|an<|tn ?_
    rcases cb h with ⟨q3,h⟩|⟨q3,h⟩
    ·refine aJ k q3<|aR<|tn<|sQ<|aL<|sQ<|rg<|aa k k<|an<|tn ?_
     refine sQ<|sQ<|rg<|aa k k<|an<|tn<|aL ?_
     obtain ⟨y7,hy7,h⟩:=ob h
     refine cV (body:=(kJ a1 a2 x1 x2)) hy7 (fun (x3:(Int×Int))=>bU [(0,.int a0),(4,.ptr 0 0 0),(5,.ptr 1 0 0),(6,.ptr 2 0 0),(7,.ptr 3 0 0),(8,.int x1.2),(9,.int x2.2),(10,.int x3.1),(11,.int x3.2)] [(0,⟨3,[[.int a1.rows,.int a1.cols,.list 1 (List.map eI a1.cells)]]⟩),(1,⟨3,[[.int a2.rows,.int a2.cols,.list 1 (List.map eI a2.cells)]]⟩),(2,⟨3,[[.int 0,.int 0,.nil 1]]⟩),(3,⟨3,[[.int v1.rows,.int v1.cols,.own 4 0 x2.1.length]]⟩),(4,⟨1,List.map (ow eI) x2.1⟩)] 5 [5,6]) (fun r e t=>e= .exit 4∧Ent t (bU [(0,.int a0),(4,.ptr 0 0 0),(5,.ptr 1 0 0),(6,.ptr 2 0 0),(7,.ptr 3 0 0),(8,.int x1.2),(9,.int x2.2),(10,.int r)] [(0,⟨3,[[.int a1.rows,.int a1.cols,.list 1 (List.map eI a1.cells)]]⟩),(1,⟨3,[[.int a2.rows,.int a2.cols,.list 1 (List.map eI a2.cells)]]⟩),(2,⟨3,[[.int 0,.int 0,.nil 1]]⟩),(3,⟨3,[[.int v1.rows,.int v1.cols,.own 4 0 x2.1.length]]⟩),(4,⟨1,List.map (ow eI) x2.1⟩)] 5 [5,6])) (aE (σ:=sg [(0,0),(1,1),(2,2),(3,3),(4,4)]) ⟨(e1 k k),(pE k k),(pE k k),(pE k k),(pE k k),(e1 k k),(e1 k k),(e1 k k),(e1 k k),trivial⟩ (hP k k k k<|hP k k k k<|hP k k k k<|hX ⟨_,k,k,.inr ⟨_,_,k,⟨_,_,k,k,⟨_,_,k,k,⟨_,_,k,⟨k,k,k,k⟩,k⟩⟩⟩,k⟩⟩ k<|hI k k k<|trivial) k) ?_ ?_
     ·intro x3 o h
      refine sQ<|sQ<|rg<|am k k<|ae (aD aA k k k k k k k) k<|ae (aC aA k k k k k k k) k<|ae (bD k k k) k<|an<|tn ?_
      rcases cb h with ⟨q4,h⟩|⟨q4,h⟩
      ·refine aJ k q4<|aR<|tn<|sQ<|aL<|aZ kR<|am k k<|ae (aD aA k k k k k k k) k<|ae (aC aA k k k k k k k) k<|am k k ?_
       refine ae (aD aA k k k k k k k) k<|ae (aC aA k k k k k k k) k<|ae (gN k k) k<|am k k<|ae (bW k k) k ?_
       obtain ⟨v5,hv5,h⟩:=ob h
       refine ae (bJ aA hv5 k k k k k k) k<|ae (aW aA k k k k k k) k<|ae (aD aA k k k k k k k) k<|ae (aC aA k k k k k k k) k<|am k k<|ae (aD aA k k k k k k k) k<|ae (aC aA k k k k k k k) k<|ae (gN k k) k<|am k k<|ae (bW k k) k ?_
       obtain ⟨v6,hv6,h⟩:=ob h
       refine ae (bJ aA hv6 k k k k k k) k<|ae (aW aA k k k k k k) k<|ae (gN k k) k<|ae (bW k k) k<|aa k k<|an ?_
       refine ⟨by kernel_rfl,?_⟩
       refine bF<|tn<|aO (t:=bU [(0,.int a0),(4,.ptr 0 0 0),(5,.ptr 1 0 0),(6,.ptr 2 0 0),(7,.ptr 3 0 0),(8,.int x1.2),(9,.int x2.2),(10,.int (wr (x3.1+(wr (v5*v6))))),(11,.int x3.2)] [(0,⟨3,[[.int a1.rows,.int a1.cols,.list 1 (List.map eI a1.cells)]]⟩),(1,⟨3,[[.int a2.rows,.int a2.cols,.list 1 (List.map eI a2.cells)]]⟩),(2,⟨3,[[.int 0,.int 0,.nil 1]]⟩),(3,⟨3,[[.int v1.rows,.int v1.cols,.own 4 0 x2.1.length]]⟩),(4,⟨1,List.map (ow eI) x2.1⟩)] 5 [5,6]) (aE (σ:=sg [(0,0),(1,1),(2,2),(3,3),(4,4)]) ⟨(e1 k k),(pE k k),(pE k k),(pE k k),(pE k k),(e1 k k),(e1 k k),(e1 k k),(e1 k k),trivial⟩ (hP k k k k<|hP k k k k<|hP k k k k<|hX ⟨_,k,k,.inr ⟨_,_,k,⟨_,_,k,k,⟨_,_,k,k,⟨_,_,k,⟨k,k,k,k⟩,k⟩⟩⟩,k⟩⟩ k<|hI k k k<|trivial) k)<|rg<|am k k<|ae (bW k k) k<|aa k k<|an<|tn ?_
       obtain rfl:=so h
       exact ⟨_,k,(aE (σ:=sg [(0,0),(1,1),(2,2),(3,3),(4,4)]) ⟨(e1 k k),(pE k k),(pE k k),(pE k k),(pE k k),(e1 k k),(e1 k k),(e1 k k),(e1 k k),trivial⟩ (hP k k k k<|hP k k k k<|hP k k k k<|hX ⟨_,k,k,.inr ⟨_,_,k,⟨_,_,k,k,⟨_,_,k,k,⟨_,_,k,⟨k,k,k,k⟩,k⟩⟩⟩,k⟩⟩ k<|hI k k k<|trivial) k)⟩
      ·refine aN k q4<|bH<|aH<|aH ?_
       obtain rfl:=so h
       exact ⟨_,k,k,(aE (σ:=sg [(0,0),(1,1),(2,2),(3,3),(4,4)]) ⟨(e1 k k),(pE k k),(pE k k),(pE k k),(pE k k),(e1 k k),(e1 k k),(e1 k k),trivial⟩ (hP k k k k<|hP k k k k<|hP k k k k<|hX ⟨_,k,k,.inr ⟨_,_,k,⟨_,_,k,k,⟨_,_,k,k,⟨_,_,k,⟨k,k,k,k⟩,k⟩⟩⟩,k⟩⟩ k<|hI k k k<|trivial) k)⟩
     ·rintro e t ⟨rfl,hent⟩
      refine aX<|tn<|aO hent<|aZ kR<|ae (aD aA k k k k k k k) k<|ae (aC aA k k k k k k k) k<|am k k<|ae (aD aA k k k k k k k) k<|ae (aC aA k k k k k k k) k<|ae (gN k k) k ?_
      refine am k k<|ae (bW k k) k<|am k k<|am k k ?_
      obtain ⟨v8,hv8,h⟩:=ob h
      refine ae (bE (tP a0 y7 v8 hv8) k (aG (aM k) (aG (aM k) bG))) k ?_
      obtain ⟨v9,hv9,h⟩:=ob h
      refine ae (cT aA (eD hv9) (dB hv9) k k k k k k k) k<|ae (iH aA uJ (u:=v8) (dI hv9) k k k k k k) k<|an ?_
      refine ⟨by kernel_rfl,?_⟩
      refine bF<|tn<|aO (t:=bU [(0,.int a0),(4,.ptr 0 0 0),(5,.ptr 1 0 0),(6,.ptr 2 0 0),(7,.ptr 3 0 0),(8,.int x1.2),(9,.int x2.2)] [(0,⟨3,[[.int a1.rows,.int a1.cols,.list 1 (List.map eI a1.cells)]]⟩),(1,⟨3,[[.int a2.rows,.int a2.cols,.list 1 (List.map eI a2.cells)]]⟩),(2,⟨3,[[.int 0,.int 0,.nil 1]]⟩),(3,⟨3,[[.int v1.rows,.int v1.cols,.own 4 0 ((x2.1.set ((wr ((wr (x1.2*a2.cols))+x2.2)).toNat) v8).length)]]⟩),(4,⟨1,List.map (ow eI) (x2.1.set ((wr ((wr (x1.2*a2.cols))+x2.2)).toNat) v8)⟩)] 5 [5,6]) (aE (σ:=sg [(0,0),(1,1),(2,2),(3,3),(4,4)]) ⟨(e1 k k),(pE k k),(pE k k),(pE k k),(pE k k),(e1 k k),(e1 k k),trivial⟩ (hP k k k k<|hP k k k k<|hP k k k k<|hX ⟨_,k,k,.inr ⟨_,_,k,⟨_,_,k,k,⟨_,_,k,k,⟨_,_,k,⟨k,k,(by simp only [bC,lA,lT,lR,lC,lN]),k⟩,k⟩⟩⟩,k⟩⟩ k<|hI k k k<|trivial) k)<|rg<|am k k<|ae (bW k k) k<|aa k k<|an<|tn ?_
      obtain rfl:=so h
      exact ⟨_,k,(aE (σ:=sg [(0,0),(1,1),(2,2),(3,3),(4,4)]) ⟨(e1 k k),(pE k k),(pE k k),(pE k k),(pE k k),(e1 k k),(e1 k k),trivial⟩ (hP k k k k<|hP k k k k<|hP k k k k<|hX ⟨_,k,k,.inr ⟨_,_,k,⟨_,_,k,k,⟨_,_,k,k,⟨_,_,k,⟨k,k,k,k⟩,k⟩⟩⟩,k⟩⟩ k<|hI k k k<|trivial) k)⟩
    ·refine aN k q3<|bH<|aH<|aH ?_
     obtain rfl:=so h
     exact ⟨_,k,k,(aE (σ:=sg [(0,0),(1,1),(2,2),(3,3),(4,4)]) ⟨(e1 k k),(pE k k),(pE k k),(pE k k),(pE k k),(e1 k k),trivial⟩ (hP k k k k<|hP k k k k<|hP k k k k<|hX ⟨_,k,k,.inr ⟨_,_,k,⟨_,_,k,k,⟨_,_,k,k,⟨_,_,k,⟨k,k,k,k⟩,k⟩⟩⟩,k⟩⟩ k<|hI k k k<|trivial) k)⟩
   ·rintro e t ⟨rfl,hent⟩
    refine aX<|bF<|tn<|aO hent<|rg<|am k k<|ae (bW k k) k<|aa k k<|an<|tn ?_
    obtain rfl:=so h
    exact ⟨_,k,(aE (σ:=sg [(0,0),(1,1),(2,2),(3,3),(4,4)]) ⟨(e1 k k),(pE k k),(pE k k),(pE k k),(pE k k),(e1 k k),trivial⟩ (hP k k k k<|hP k k k k<|hP k k k k<|hX ⟨_,k,k,.inr ⟨_,_,k,⟨_,_,k,k,⟨_,_,k,k,⟨_,_,k,⟨k,k,k,k⟩,k⟩⟩⟩,k⟩⟩ k<|hI k k k<|trivial) k)⟩
  ·refine aN k q2<|bH<|aH<|aH ?_
   obtain rfl:=so h
   exact ⟨_,k,k,(aE (σ:=sg [(0,2),(1,3),(2,4)]) ⟨(pE k k),(pE k k),trivial⟩ (hP k k k k<|hX ⟨_,k,k,.inr ⟨_,_,k,⟨_,_,k,k,⟨_,_,k,k,⟨_,_,k,⟨k,k,k,k⟩,k⟩⟩⟩,k⟩⟩ k<|hI k k k<|trivial) k)⟩
 ·rintro e t ⟨rfl,hent⟩
  refine aX<|tn<|aO hent<|sQ<|rg<|ae (aC aA k k k k k k k) k<|ae (bP aA k k k k k k k k) k<|an<|tn<|aK ?_
  obtain rfl:=so h
  exact aT k k k (qI (cC (k) (cC (k) (cC (jD dK k k) hZ))))
def kM (a0:Int) (a1:Int) (x1:Int):Option (Int ⊕ (Unit ⊕ Int)):=
 bif decide (x1<a0) then
 (Option.bind (iA a0) fun v2=>
 bif v2 then
 (Option.bind (kI a0 a1) fun v4=>
 Option.bind (kI a0 (wr (v4*x1))) fun v5=>
 bif decide (v5=1) then
 (some (.inr (.inr (x1))))
 else
 (some (.inl (wr (x1+1)))))
 else
 (some (.inr (.inl ()))))
 else
 (some (.inr (.inl ())))
def iK (a0:Int) (a1:Int):Option Int:=
 Option.bind (Lp (kM a0 a1) 1) fun y7=>
 Sum.elim (fun y8=>
 some (0)
 )
 (fun y9=>
 some y9
 )
 y7
theorem aDU (a0:Int) (a1:Int) (r:Int) (h:iK a0 a1=some r):HasC Tryz.prog 244 [.int a0,.int a1] (.int r):=by
 refine bN aA (rvs:=[.tmp 4]) (ns:=[0,1]) Tryz.func244 k k Tryz.ntmps244 k k k<|sQ<|rg<|aa k k<|an<|tn<|sQ<|sQ<|rg<|aa k k ?_
 refine an<|tn<|aL ?_
 obtain ⟨y7,hy7,h⟩:=ob h
 refine cV (body:=(kM a0 a1)) hy7 (fun (x1:Int)=>bU [(0,.int a0),(1,.int a1),(5,.int x1)] [] 0 [0,1]) (fun r e t=>Sum.elim (fun a=>(fun r e t=>e= .exit 0∧Ent t (bU [] [] 0 [0,1])) a e t) (fun b=>(fun r e t=>e= .ret∧nZ TT [.tmp 4] (.int r) .ret t) b e t) r) (aE (σ:=sg []) ⟨(e1 k k),(e1 k k),(e1 k k),trivial⟩ trivial k) ?_ ?_
 ·intro x1 o h
  refine sQ<|sQ<|rg<|am k k<|am k k<|ae (bD k k k) k<|am k k ?_
  rcases cb h with ⟨q1,h⟩|⟨q1,h⟩
  ·refine bA 9 k q1<|am k k ?_
   obtain ⟨v2,hv2,h⟩:=ob h
   refine ae (bE (lL a0 v2 hv2) k (aG (aM k) bG)) k<|ae (aP k k) k<|an<|tn ?_
   rcases cb h with ⟨q3,h⟩|⟨q3,h⟩
   ·refine aJ k q3<|aR<|tn<|sQ<|aL<|sQ<|rg<|am k k<|am k k<|am k k ?_
    obtain ⟨v4,hv4,h⟩:=ob h
    refine ae (bE (tP a0 a1 v4 hv4) k (aG (aM k) (aG (aM k) bG))) k<|am k k<|ae (gN k k) k ?_
    obtain ⟨v5,hv5,h⟩:=ob h
    refine ae (bE (tP a0 (wr (v4*x1)) v5 hv5) k (aG (aM k) (aG (aM k) bG))) k<|ae (bD k k k) k<|an<|tn<|aO (t:=bU [(0,.int a0),(1,.int a1),(5,.int x1),(22,.bl (decide (v5=1)))] [] 0 [0,1]) (aE (σ:=sg []) ⟨(e1 k k),(e1 k k),(e1 k k),(e1 k k),trivial⟩ trivial k) ?_
    rcases cb h with ⟨q6,h⟩|⟨q6,h⟩
    ·refine aJ k q6<|sQ<|rg<|am k k<|aa k k<|an<|tn<|aK<|bB<|aI ?_
     refine aI ?_
     obtain rfl:=so h
     exact ⟨_,k,k,aT k k k (cS k)⟩
    ·refine aN k q6<|aR<|bF<|tn<|rg<|am k k<|ae (bW k k) k<|aa k k<|an<|tn ?_
     obtain rfl:=so h
     exact ⟨_,k,(aE (σ:=sg []) ⟨(e1 k k),(e1 k k),(e1 k k),trivial⟩ trivial k)⟩
   ·refine aN k q3<|bH<|aH<|aH ?_
    obtain rfl:=so h
    exact ⟨_,k,k,(aE (σ:=sg []) trivial trivial k)⟩
  ·refine bA 9 k q1<|ak k k<|ak k k<|ae (aP k k) k<|an<|tn<|aN k k<|bH<|aH<|aH ?_
   obtain rfl:=so h
   exact ⟨_,k,k,(aE (σ:=sg []) trivial trivial k)⟩
 ·intro e t hX
  rcases y7 with y8|y9
  ·obtain ⟨rfl,hent⟩:=hX
   refine aX<|tn<|aO hent<|sQ<|rg<|aa k k<|an<|tn<|aK ?_
   obtain rfl:=so h
   exact aT k k k (cS k)
  ·obtain ⟨rfl,hent⟩:=hX
   refine bB<|aI ?_
   obtain rfl:=so h
   exact hent
def mJ (a0:Int) (a1:(List Int)) (x1:Int):Option (Int ⊕ (Unit ⊕ Bool)):=
 bif decide (x1<(a1.length:Int)) then
 (Option.bind (dX a1 x1) fun v5=>
 Option.bind (fS v5 0 (wr (a0 - 1))) fun v6=>
 bif !v6 then
 (some (.inr (.inr (false))))
 else
 (some (.inl (wr (x1+1)))))
 else
 (some (.inr (.inl ())))
def gP (a0:Int) (a1:(List Int)):Option Bool:=
 Option.bind (iA a0) fun v1=>
 bif !v1 then
 (some (false))
 else
 (bif decide (64<(a1.length:Int)) then
 (some (false))
 else
 (Option.bind (Lp (mJ a0 a1) 0) fun y8=>
 Sum.elim (fun y9=>
 some (true)
 )
 (fun y10=>
 some y10
 )
 y8))
theorem wA (a0:Int) (a1:(List Int)) (r:Bool) (h:gP a0 a1=some r):HasC Tryz.prog 211 [.int a0,.list 1 (List.map eI a1)] (.bl r):=by
 refine bN aA (rvs:=[.tmp 4]) (ns:=[0,1]) Tryz.func211 k k Tryz.ntmps211 k k k<|sQ<|rg<|aa k k<|an<|tn<|sQ<|sQ<|rg<|am k k ?_
 obtain ⟨v1,hv1,h⟩:=ob h
 refine ae (bE (lL a0 v1 hv1) k (aG (aM k) bG)) k<|ae (cH k) k<|am k k ?_
 rcases cb h with ⟨q2,h⟩|⟨q2,h⟩
 ·refine bA 9 k q2<|ak k k<|ak k k<|ak k k<|ae (aP k k) k<|an<|tn<|aJ k k<|sQ<|rg ?_
  refine aa k k<|an<|tn<|aK<|aI ?_
  obtain rfl:=so h
  exact aT k k k (bT k)
 ·refine bA 9 k q2<|am k k<|ae (dG aA k k k) k<|ae (bD k k k) k<|ae (aP k k) k<|an<|tn ?_
  rcases cb h with ⟨q3,h⟩|⟨q3,h⟩
  ·refine aJ k q3<|sQ<|rg<|aa k k<|an<|tn<|aK<|aI ?_
   obtain rfl:=so h
   exact aT k k k (bT k)
  ·refine aN k q3<|aR<|tn<|sQ<|sQ<|rg<|aa k k<|an<|tn<|aL ?_
   obtain ⟨y8,hy8,h⟩:=ob h
   refine cV (body:=(mJ a0 a1)) hy8 (fun (x1:Int)=>bU [(0,.int a0),(1,.list 1 (List.map eI a1)),(5,.int x1)] [] 0 [0,1]) (fun r e t=>Sum.elim (fun a=>(fun r e t=>e= .exit 0∧Ent t (bU [] [] 0 [0,1])) a e t) (fun b=>(fun r e t=>e= .ret∧nZ TT [.tmp 4] (.bl r) .ret t) b e t) r) (aE (σ:=sg []) ⟨(e1 k k),⟨_,k,⟨k,k⟩⟩,(e1 k k),trivial⟩ trivial k) ?_ ?_
   ·intro x1 o h
    refine sQ<|sQ<|rg<|am k k<|am k k<|ae (dG aA k k k) k<|ae (bD k k k) k<|an<|tn ?_
    rcases cb h with ⟨q4,h⟩|⟨q4,h⟩
    ·refine aJ k q4<|aR<|tn<|sQ<|aL<|sQ<|rg<|am k k<|am k k ?_
     obtain ⟨v5,hv5,h⟩:=ob h
     refine ae (bJ aA hv5 k k k k k k) k<|ae (aW aA k k k k k k) k<|am k k<|ae (jY k k) k ?_
     obtain ⟨v6,hv6,h⟩:=ob h
     refine ae (bE (gO v5 0 (wr (a0 - 1)) v6 hv6) k (aG (aM k) (aG (aM k) (aG (aM k) bG)))) k<|ae (cH k) k<|an<|tn<|aO (t:=bU [(0,.int a0),(1,.list 1 (List.map eI a1)),(5,.int x1),(27,.bl (!v6))] [] 0 [0,1]) (aE (σ:=sg []) ⟨(e1 k k),⟨_,k,⟨k,k⟩⟩,(e1 k k),(e1 k k),trivial⟩ trivial k) ?_
     rcases cb h with ⟨q7,h⟩|⟨q7,h⟩
     ·refine aJ k q7<|sQ<|rg<|aa k k<|an<|tn<|aK<|bB<|aI<|aI ?_
      obtain rfl:=so h
      exact ⟨_,k,k,aT k k k (bT k)⟩
     ·refine aN k q7<|aR<|bF<|tn<|rg<|am k k<|ae (bW k k) k<|aa k k<|an<|tn ?_
      obtain rfl:=so h
      exact ⟨_,k,(aE (σ:=sg []) ⟨(e1 k k),⟨_,k,⟨k,k⟩⟩,(e1 k k),trivial⟩ trivial k)⟩
    ·refine aN k q4<|bH<|aH<|aH ?_
     obtain rfl:=so h
     exact ⟨_,k,k,(aE (σ:=sg []) trivial trivial k)⟩
   ·intro e t hX
    rcases y8 with y9|y10
    ·obtain ⟨rfl,hent⟩:=hX
     refine aX<|tn<|aO hent<|sQ<|rg<|aa k k<|an<|tn<|aK ?_
     obtain rfl:=so h
     exact aT k k k (bT k)
    ·obtain ⟨rfl,hent⟩:=hX
     refine bB<|aI ?_
     obtain rfl:=so h
     exact hent
def kD (a0:Int) (a1:Mt):Option Bool:=
 Option.bind (fS a1.rows 0 8) fun v1=>
 bif v1 then
 (Option.bind (fS a1.cols 0 8) fun v3=>
 bif v3 then
 (bif decide ((a1.cells.length:Int)=wr (a1.rows*a1.cols)) then
 (Option.bind (gP a0 a1.cells) fun v6=>
 some (v6))
 else
 (some (false)))
 else
 (some (false)))
 else
 (some (false))
theorem wB (a0:Int) (a1:Mt) (r:Bool) (h:kD a0 a1=some r):HasC Tryz.prog 163 [.int a0,.agg (eM a1)] (.bl r):=by
 refine bN aA (rvs:=[.tmp 4]) (ns:=[0,1,2]) Tryz.func163 k k Tryz.ntmps163 k k k<|sQ<|rg<|ae (cD k k k k) k<|aa k k<|an<|tn<|sQ<|rg<|ae (aD aA k k k k k k k) k ?_
 refine ae (aC aA k k k k k k k) k ?_
 obtain ⟨v1,hv1,h⟩:=ob h
 refine ae (bE (gO a1.rows 0 8 v1 hv1) k (aG (aM k) (aG (aM k) (aG (aM k) bG)))) k<|am k k ?_
 rcases cb h with ⟨q2,h⟩|⟨q2,h⟩
 ·refine bA 8 k q2<|ae (aD aA k k k k k k k) k<|ae (aC aA k k k k k k k) k ?_
  obtain ⟨v3,hv3,h⟩:=ob h
  refine ae (bE (gO a1.cols 0 8 v3 hv3) k (aG (aM k) (aG (aM k) (aG (aM k) bG)))) k<|ae (aP k k) k<|am k k ?_
  rcases cb h with ⟨q4,h⟩|⟨q4,h⟩
  ·refine bA 13 k q4<|ae (aD aA k k k k k k k) k<|ae (aC aA k k k k k k k) k<|ae (dG aA k k k) k<|ae (aD aA k k k k k k k) k<|ae (aC aA k k k k k k k) k<|ae (aD aA k k k k k k k) k<|ae (aC aA k k k k k k k) k<|ae (gN k k) k<|ae (bD k k k) k ?_
   refine ae (aP k k) k<|am k k ?_
   rcases cb h with ⟨q5,h⟩|⟨q5,h⟩
   ·refine bA 24 k q5<|am k k<|ae (aD aA k k k k k k k) k<|ae (aC aA k k k k k k k) k ?_
    obtain ⟨v6,hv6,h⟩:=ob h
    refine ae (bE (wA a0 a1.cells v6 hv6) k (aG (aM k) (aG (aM k) bG))) k<|ae (aP k k) k<|aa k k<|an<|tn<|aO (t:=bU [(4,.bl v6)] [] 1 [1,2]) (aE (σ:=sg []) ⟨(e1 k k),trivial⟩ trivial k)<|aK ?_
    obtain rfl:=so h
    exact aT k k k (bT k)
   ·refine bA 24 k q5<|ak k k<|ak k k<|ak k k<|ak k k<|ae (aP k k) k<|aa k k<|an<|tn<|aO (t:=bU [(4,.bl false)] [] 1 [1,2]) (aE (σ:=sg []) ⟨(e1 k k),trivial⟩ trivial k) ?_
    refine aK ?_
    obtain rfl:=so h
    exact aT k k k (bT k)
  ·refine bA 13 k q4<|ak k k<|ak k k<|ak k k<|ak k k<|ak k k<|ak k k<|ak k k<|ak k k<|ak k k ?_
   refine ae (aP k k) k<|am k k<|ak k k<|ak k k<|ak k k<|ak k k<|ae (aP k k) k<|aa k k<|an<|tn ?_
   refine aO (t:=bU [(4,.bl false)] [] 1 [1,2]) (aE (σ:=sg []) ⟨(e1 k k),trivial⟩ trivial k)<|aK ?_
   obtain rfl:=so h
   exact aT k k k (bT k)
 ·refine bA 8 k q2<|ak k k<|ak k k<|ak k k<|ae (aP k k) k<|am k k<|ak k k<|ak k k<|ak k k<|ak k k ?_
  refine ak k k<|ak k k<|ak k k<|ak k k<|ak k k<|ae (aP k k) k<|am k k<|ak k k<|ak k k<|ak k k ?_
  refine ak k k<|ae (aP k k) k<|aa k k<|an<|tn<|aO (t:=bU [(4,.bl false)] [] 1 [1,2]) (aE (σ:=sg []) ⟨(e1 k k),trivial⟩ trivial k)<|aK ?_
  obtain rfl:=so h
  exact aT k k k (bT k)
def zH (a0:Mt):Option Mt:=
 bif decide (([]:(List Int)).length +a0.cells.length≤4294967296) then
 (some ((⟨a0.rows,a0.cols,(([]:(List Int))++a0.cells)⟩:Mt)))
 else none
theorem aHr (a0:Mt) (r:Mt) (h:zH a0=some r):HasC Tryz.prog 114 [.agg (eM a0)] (.agg (eM r)):=by
 refine bN aA (rvs:=[.cell 2 113]) (ns:=[0,1,2,3,4,5]) Tryz.func114 k k Tryz.ntmps114 k k k<|sQ<|rg<|ae (cD k k k k) k<|ae (cA aA k k) k<|an<|tn<|sQ<|aZ kR<|ae (aD aA k k k k k k k) k ?_
 refine ae (aC aA k k k k k k k) k<|ae (aD aA k k k k k k k) k<|ae (aC aA k k k k k k k) k<|ae (cW aA k k k k k k k k k k k k) k<|ae (aD aA k k k k k k k) k<|ae (aC aA k k k k k k k) k ?_
 obtain ⟨q1,h⟩:=cg h
 refine ae (xI aA (l:=([]:(List Int))) (m:=a0.cells) uJ q1 k k k k k k k k k k k k) k<|ae (cQ aA k k k k k k) k<|ae (bP aA k k k k k k k k) k<|an ?_
 refine ⟨by kernel_rfl,?_⟩
 refine tn<|aO (t:=bU [(2,.ptr 1 0 0)] [(1,⟨3,[[.int a0.rows,.int a0.cols,.own 3 0 ((([]:(List Int))++a0.cells).length)]]⟩),(3,⟨1,List.map (ow eI) (([]:(List Int))++a0.cells)⟩)] 4 [4,5]) (aE (σ:=sg [(1,1),(3,3)]) ⟨(pE k k),trivial⟩ (hX ⟨_,k,k,.inr ⟨_,_,k,⟨_,_,k,k,⟨_,_,k,k,⟨_,_,k,⟨k,k,k,k⟩,k⟩⟩⟩,k⟩⟩ k<|hI k k k<|trivial) k)<|aK ?_
 obtain rfl:=so h
 exact aT k k k (qI (cC (k) (cC (k) (cC (jD dK k k) hZ))))
end
noncomputable section
set_option maxRecDepth 10000
set_option maxHeartbeats 4000000
def jG (v1:Mt) (x1:(Int×(List Int)×(List Int)×Int)) (x2:(Int×Int)):Option ((Int×Int) ⊕ Int):=
 bif decide (x1.2.2.2≤x2.2) then
 (Option.bind (dX x1.2.1 (wr ((wr (x2.2*v1.cols))+x1.1))) fun v5=>
 bif !decide (v5=0) then
 (some (.inl (x2.2,wr (x2.2 - 1))))
 else
 (some (.inl (x2.1,wr (x2.2 - 1)))))
 else
 (some (.inr x2.1))
def mK (v1:Mt) (x1:(Int×(List Int)×(List Int)×Int)) (y7:Int) (x3:((List Int)×Int)):Option (((List Int)×Int) ⊕ (List Int)):=
 bif decide (x3.2<v1.cols) then
 (Option.bind (dX x3.1 (wr ((wr (x1.2.2.2*v1.cols))+x3.2))) fun v10=>
 Option.bind (dX x3.1 (wr ((wr (y7*v1.cols))+x3.2))) fun v11=>
 Option.bind (dX x3.1 (wr ((wr (x1.2.2.2*v1.cols))+x3.2))) fun v12=>
 Option.bind (dX (x3.1.set ((wr ((wr (x1.2.2.2*v1.cols))+x3.2)).toNat) v11) (wr ((wr (y7*v1.cols))+x3.2))) fun v13=>
 some (.inl (((x3.1.set ((wr ((wr (x1.2.2.2*v1.cols))+x3.2)).toNat) v11).set ((wr ((wr (y7*v1.cols))+x3.2)).toNat) v10),wr (x3.2+1))))
 else
 (some (.inr x3.1))
def mM (a0:Int) (v1:Mt) (v16:Int) (x1:(Int×(List Int)×(List Int)×Int)) (x4:((List Int)×Int)):Option (((List Int)×Int) ⊕ (List Int)):=
 bif decide (x4.2<v1.cols) then
 (Option.bind (dX x4.1 (wr ((wr (x1.2.2.2*v1.cols))+x4.2))) fun v18=>
 Option.bind (kI a0 (wr (v16*v18))) fun v19=>
 Option.bind (dX x4.1 (wr ((wr (x1.2.2.2*v1.cols))+x4.2))) fun v20=>
 some (.inl ((x4.1.set ((wr ((wr (x1.2.2.2*v1.cols))+x4.2)).toNat) v19),wr (x4.2+1))))
 else
 (some (.inr x4.1))
def jH (a0:Int) (v1:Mt) (v23:Int) (x1:(Int×(List Int)×(List Int)×Int)) (x5:((List Int)×Int)) (x6:((List Int)×Int)):Option (((List Int)×Int) ⊕ (List Int)):=
 bif decide (x6.2<v1.cols) then
 (bif !decide (x5.2=x1.2.2.2) then
 (Option.bind (dX x6.1 (wr ((wr (x5.2*v1.cols))+x6.2))) fun v26=>
 Option.bind (dX x6.1 (wr ((wr (x1.2.2.2*v1.cols))+x6.2))) fun v27=>
 Option.bind (kI a0 (wr (v26 - (wr (v23*v27))))) fun v28=>
 Option.bind (dX x6.1 (wr ((wr (x5.2*v1.cols))+x6.2))) fun v29=>
 some (.inl ((x6.1.set ((wr ((wr (x5.2*v1.cols))+x6.2)).toNat) v28),wr (x6.2+1))))
 else
 (some (.inr x6.1)))
 else
 (some (.inr x6.1))
def gV (a0:Int) (v1:Mt) (x1:(Int×(List Int)×(List Int)×Int)) (x5:((List Int)×Int)):Option (((List Int)×Int) ⊕ (List Int)):=
 bif decide (x5.2<v1.rows) then
 (Option.bind (dX x5.1 (wr ((wr (x5.2*v1.cols))+x1.1))) fun v23=>
 Option.bind (Lp (jH a0 v1 v23 x1 x5) (x5.1,0)) fun y30=>
 some (.inl (y30,wr (x5.2+1))))
 else
 (some (.inr x5.1))
def eV (a0:Int) (v1:Mt) (x1:(Int×(List Int)×(List Int)×Int)):Option ((Int×(List Int)×(List Int)×Int) ⊕ ((List Int)×(List Int))):=
 bif decide (x1.1<v1.cols) then
 (bif decide (x1.2.2.2<v1.rows) then
 (Option.bind (Lp (jG v1 x1) ((-1),wr (v1.rows - 1))) fun y7=>
 bif decide (y7<0) then
 (some (.inl (wr (x1.1+1),x1.2.1,x1.2.2.1,x1.2.2.2)))
 else
 (Option.bind (Lp (mK v1 x1 y7) (x1.2.1,0)) fun y14=>
 Option.bind (dX y14 (wr ((wr (x1.2.2.2*v1.cols))+x1.1))) fun v15=>
 Option.bind (iK a0 v15) fun v16=>
 Option.bind (Lp (mM a0 v1 v16 x1) (y14,0)) fun y21=>
 Option.bind (Lp (gV a0 v1 x1) (y21,0)) fun y31=>
 bif decide (x1.2.2.1.length+[x1.1].length ≤4294967296) then
 (some (.inl (wr (x1.1+1),y31,(x1.2.2.1++[x1.1]),wr (x1.2.2.2+1))))
 else none))
 else
 (some (.inr (x1.2.1,x1.2.2.1))))
 else
 (some (.inr (x1.2.1,x1.2.2.1)))
def kE (a0:Int) (a1:Mt):Option (Mt×(List Int)):=
 Option.bind (zH a1) fun v1=>
 Option.bind (Lp (eV a0 v1) (0,v1.cells,([]:(List Int)),0)) fun y33=>
 some (((⟨v1.rows,v1.cols,y33.1⟩:Mt),y33.2))
theorem aFX (a0:Int) (a1:Mt) (r:(Mt×(List Int))) (h:kE a0 a1=some r):HasC Tryz.prog 226 [.int a0,.agg (eM a1)] (.tuple [.agg (eM r.1),.list 1 (List.map eI r.2)]):=by
 refine bN aA (rvs:=[.cell 4 113,.tmp 5]) (ns:=[0,1,2,3,4,5,6,7]) Tryz.func226 k k Tryz.ntmps226 k k k<|sQ<|rg<|ae (cD k k k k) k<|ae (cA aA k k) k<|aa k k<|an<|tn<|sQ<|rg ?_
 refine ae (aC aA k k k k k k k) k ?_
 obtain ⟨v1,hv1,h⟩:=ob h
 refine ae (AEff.conv (dC (x:= .agg [.int v1.rows,.int v1.cols,.own 2 0 (List.map eI v1.cells).length]) (nb:=[(2,⟨1,cJ (List.map eI v1.cells)⟩)]) (aHr a1 v1 hv1) k (by rfl) k k (bZ trivial (bZ trivial (bZ (dK.good _) gQ))) (aG (cE (aU (aY k) (aU (aY k) (aU (aY k) cR)))) bG)) (v':= .agg [.int v1.rows,.int v1.cols,.own 2 0 v1.cells.length]) (ed':=[(2,some ⟨1,List.map (ow eI) v1.cells⟩)]) (by simp only [bC]) (eN (nb':=[(2,⟨1,List.map (ow eI) v1.cells⟩)]) (by simp only [cO]))) k<|ae (cA aA k k) k<|ae (bP aA k k k k k k k k) k<|an<|tn<|sQ<|rg<|ae (cW aA k k k k k k k k k k k k) k<|aa k k<|an ?_
 refine tn<|aO (t:=bU [(0,.int a0),(4,.ptr 1 0 0),(6,.ptr 3 0 0),(7,.own 4 0 (([]:(List Int)).length))] [(1,⟨3,[[.int 0,.int 0,.nil 1]]⟩),(2,⟨1,List.map (ow eI) v1.cells⟩),(3,⟨3,[[.int v1.rows,.int v1.cols,.own 2 0 v1.cells.length]]⟩),(4,⟨1,List.map (ow eI) ([]:(List Int))⟩)] 5 [5,6,7]) (aE (σ:=sg [(1,1),(2,2),(3,3),(4,4)]) ⟨(e1 k k),(pE k k),(pE k k),⟨_,k,⟨k,k,(by simp only [bC,lA,lT,lR,lC,lN]),k⟩⟩,trivial⟩ (hP k k k k<|hI k k k<|hX ⟨_,k,k,.inr ⟨_,_,k,⟨_,_,k,k,⟨_,_,k,k,⟨_,_,k,⟨k,k,k,k⟩,k⟩⟩⟩,k⟩⟩ k<|hI k k k<|trivial) k)<|sQ<|rg<|aa k k<|an<|tn<|sQ<|sQ<|rg ?_
 refine aa k k<|an<|tn<|aL ?_
 obtain ⟨y33,hy33,h⟩:=ob h
 refine cV (body:=(eV a0 v1)) hy33 (fun (x1:(Int×(List Int)×(List Int)×Int))=>bU [(0,.int a0),(4,.ptr 0 0 0),(6,.ptr 1 0 0),(7,.own 3 0 x1.2.2.1.length),(8,.int x1.2.2.2),(9,.int x1.1)] [(0,⟨3,[[.int 0,.int 0,.nil 1]]⟩),(1,⟨3,[[.int v1.rows,.int v1.cols,.own 2 0 x1.2.1.length]]⟩),(2,⟨1,List.map (ow eI) x1.2.1⟩),(3,⟨1,List.map (ow eI) x1.2.2.1⟩)] 4 [4,5,6,7]) (fun r e t=>e= .exit 0∧Ent t (bU [(4,.ptr 0 0 0),(6,.ptr 1 0 0),(7,.own 3 0 r.2.length)] [(0,⟨3,[[.int 0,.int 0,.nil 1]]⟩),(1,⟨3,[[.int v1.rows,.int v1.cols,.own 2 0 r.1.length]]⟩),(2,⟨1,List.map (ow eI) r.1⟩),(3,⟨1,List.map (ow eI) r.2⟩)] 4 [4,5,6,7])) (aE (σ:=sg [(0,1),(1,3),(2,2),(3,4)]) ⟨(e1 k k),(pE k k),(pE k k),(oE k k),(e1 k k),(e1 k k),trivial⟩ (hP k k k k<|hX ⟨_,k,k,.inr ⟨_,_,k,⟨_,_,k,k,⟨_,_,k,k,⟨_,_,k,⟨k,k,k,k⟩,k⟩⟩⟩,k⟩⟩ k<|hI k k k<|hI k k k<|trivial) k) ?_ ?_
 ·intro x1 o h
  refine sQ<|sQ<|rg<|am k k<|ae (aD aA k k k k k k k) k<|ae (aC aA k k k k k k k) k<|ae (bD k k k) k<|am k k ?_
  rcases cb h with ⟨q2,h⟩|⟨q2,h⟩
  ·refine bA 26 k q2<|am k k<|ae (aD aA k k k k k k k) k<|ae (aC aA k k k k k k k) k<|ae (bD k k k) k<|ae (aP k k) k<|an<|tn ?_
   rcases cb h with ⟨q3,h⟩|⟨q3,h⟩
   ·refine aJ k q3<|aR<|tn<|sQ<|aL<|sQ<|rg<|aa k k<|an<|tn ?_
    refine sQ<|sQ<|rg<|ae (aD aA k k k k k k k) k<|ae (aC aA k k k k k k k) k<|ae (jY k k) k<|aa k k<|an<|tn<|aO (t:=bU [(0,.int a0),(4,.ptr 0 0 0),(6,.ptr 1 0 0),(7,.own 3 0 x1.2.2.1.length),(8,.int x1.2.2.2),(9,.int x1.1),(10,.int (-1)),(11,.int (wr (v1.rows - 1)))] [(0,⟨3,[[.int 0,.int 0,.nil 1]]⟩),(1,⟨3,[[.int v1.rows,.int v1.cols,.own 2 0 x1.2.1.length]]⟩),(2,⟨1,List.map (ow eI) x1.2.1⟩),(3,⟨1,List.map (ow eI) x1.2.2.1⟩)] 4 [4,5,6,7]) (aE (σ:=sg [(0,0),(1,1),(2,2),(3,3)]) ⟨(e1 k k),(pE k k),(pE k k),(oE k k),(e1 k k),(e1 k k),(e1 k k),(e1 k k),trivial⟩ (hP k k k k<|hX ⟨_,k,k,.inr ⟨_,_,k,⟨_,_,k,k,⟨_,_,k,k,⟨_,_,k,⟨k,k,k,k⟩,k⟩⟩⟩,k⟩⟩ k<|hI k k k<|hI k k k<|trivial) k) ?_
    refine aL ?_
    obtain ⟨y7,hy7,h⟩:=ob h
    refine cV (body:=(jG v1 x1)) hy7 (fun (x2:(Int×Int))=>bU [(0,.int a0),(4,.ptr 0 0 0),(6,.ptr 1 0 0),(7,.own 3 0 x1.2.2.1.length),(8,.int x1.2.2.2),(9,.int x1.1),(10,.int x2.1),(11,.int x2.2)] [(0,⟨3,[[.int 0,.int 0,.nil 1]]⟩),(1,⟨3,[[.int v1.rows,.int v1.cols,.own 2 0 x1.2.1.length]]⟩),(2,⟨1,List.map (ow eI) x1.2.1⟩),(3,⟨1,List.map (ow eI) x1.2.2.1⟩)] 4 [4,5,6,7]) (fun r e t=>e= .exit 2∧Ent t (bU [(0,.int a0),(4,.ptr 0 0 0),(6,.ptr 1 0 0),(7,.own 3 0 x1.2.2.1.length),(8,.int x1.2.2.2),(9,.int x1.1),(10,.int r)] [(0,⟨3,[[.int 0,.int 0,.nil 1]]⟩),(1,⟨3,[[.int v1.rows,.int v1.cols,.own 2 0 x1.2.1.length]]⟩),(2,⟨1,List.map (ow eI) x1.2.1⟩),(3,⟨1,List.map (ow eI) x1.2.2.1⟩)] 4 [4,5,6,7])) (aE (σ:=sg [(0,0),(1,1),(2,2),(3,3)]) ⟨(e1 k k),(pE k k),(pE k k),(oE k k),(e1 k k),(e1 k k),(e1 k k),(e1 k k),trivial⟩ (hP k k k k<|hX ⟨_,k,k,.inr ⟨_,_,k,⟨_,_,k,k,⟨_,_,k,k,⟨_,_,k,⟨k,k,k,k⟩,k⟩⟩⟩,k⟩⟩ k<|hI k k k<|hI k k k<|trivial) k) ?_ ?_
    ·intro x2 o h
     refine sQ<|sQ<|rg<|am k k<|am k k<|ae (bD k k k) k<|an<|tn ?_
     rcases cb h with ⟨q4,h⟩|⟨q4,h⟩
     ·refine aJ k q4<|aR<|tn<|sQ<|aL<|sQ<|rg<|ae (aD aA k k k k k k k) k<|ae (aC aA k k k k k k k) k<|am k k ?_
      refine ae (aD aA k k k k k k k) k<|ae (aC aA k k k k k k k) k<|ae (gN k k) k<|am k k<|ae (bW k k) k ?_
      obtain ⟨v5,hv5,h⟩:=ob h
      refine ae (cT aA (eD hv5) (dB hv5) k k k k k k k) k<|ae (aC aA k k k k (cM (dI hv5)) k k) k<|ae (bD k k k) k<|an<|tn<|aO (t:=bU [(0,.int a0),(4,.ptr 0 0 0),(6,.ptr 1 0 0),(7,.own 3 0 x1.2.2.1.length),(8,.int x1.2.2.2),(9,.int x1.1),(10,.int x2.1),(11,.int x2.2),(52,.bl (!decide (v5=0)))] [(0,⟨3,[[.int 0,.int 0,.nil 1]]⟩),(1,⟨3,[[.int v1.rows,.int v1.cols,.own 2 0 x1.2.1.length]]⟩),(2,⟨1,List.map (ow eI) x1.2.1⟩),(3,⟨1,List.map (ow eI) x1.2.2.1⟩)] 4 [4,5,6,7]) (aE (σ:=sg [(0,0),(1,1),(2,2),(3,3)]) ⟨(e1 k k),(pE k k),(pE k k),(oE k k),(e1 k k),(e1 k k),(e1 k k),(e1 k k),(e1 k k),trivial⟩ (hP k k k k<|hX ⟨_,k,k,.inr ⟨_,_,k,⟨_,_,k,k,⟨_,_,k,k,⟨_,_,k,⟨k,k,k,k⟩,k⟩⟩⟩,k⟩⟩ k<|hI k k k<|hI k k k<|trivial) k) ?_
      rcases cb h with ⟨q6,h⟩|⟨q6,h⟩
      ·refine aJ k q6<|rg<|am k k<|aa k k<|an<|bF<|tn<|rg<|am k k<|ae (jY k k) k ?_
       refine aa k k<|an<|tn ?_
       obtain rfl:=so h
       exact ⟨_,k,(aE (σ:=sg [(0,0),(1,1),(2,2),(3,3)]) ⟨(e1 k k),(pE k k),(pE k k),(oE k k),(e1 k k),(e1 k k),(e1 k k),(e1 k k),trivial⟩ (hP k k k k<|hX ⟨_,k,k,.inr ⟨_,_,k,⟨_,_,k,k,⟨_,_,k,k,⟨_,_,k,⟨k,k,k,k⟩,k⟩⟩⟩,k⟩⟩ k<|hI k k k<|hI k k k<|trivial) k)⟩
      ·refine aN k q6<|aR<|bF<|tn<|rg<|am k k<|ae (jY k k) k<|aa k k<|an<|tn ?_
       obtain rfl:=so h
       exact ⟨_,k,(aE (σ:=sg [(0,0),(1,1),(2,2),(3,3)]) ⟨(e1 k k),(pE k k),(pE k k),(oE k k),(e1 k k),(e1 k k),(e1 k k),(e1 k k),trivial⟩ (hP k k k k<|hX ⟨_,k,k,.inr ⟨_,_,k,⟨_,_,k,k,⟨_,_,k,k,⟨_,_,k,⟨k,k,k,k⟩,k⟩⟩⟩,k⟩⟩ k<|hI k k k<|hI k k k<|trivial) k)⟩
     ·refine aN k q4<|bH<|aH<|aH ?_
      obtain rfl:=so h
      exact ⟨_,k,k,(aE (σ:=sg [(0,0),(1,1),(2,2),(3,3)]) ⟨(e1 k k),(pE k k),(pE k k),(oE k k),(e1 k k),(e1 k k),(e1 k k),trivial⟩ (hP k k k k<|hX ⟨_,k,k,.inr ⟨_,_,k,⟨_,_,k,k,⟨_,_,k,k,⟨_,_,k,⟨k,k,k,k⟩,k⟩⟩⟩,k⟩⟩ k<|hI k k k<|hI k k k<|trivial) k)⟩
    ·rintro e t ⟨rfl,hent⟩
     refine aX<|tn<|aO hent<|sQ<|sQ<|rg<|am k k<|ae (bD k k k) k<|an<|tn ?_
     rcases cb h with ⟨q8,h⟩|⟨q8,h⟩
     ·refine aJ k q8<|bH<|aH<|aX<|tn<|rg<|am k k<|ae (bW k k) k<|aa k k<|an ?_
      refine tn ?_
      obtain rfl:=so h
      exact ⟨_,k,(aE (σ:=sg [(0,0),(1,1),(2,2),(3,3)]) ⟨(e1 k k),(pE k k),(pE k k),(oE k k),(e1 k k),(e1 k k),trivial⟩ (hP k k k k<|hX ⟨_,k,k,.inr ⟨_,_,k,⟨_,_,k,k,⟨_,_,k,k,⟨_,_,k,⟨k,k,k,k⟩,k⟩⟩⟩,k⟩⟩ k<|hI k k k<|hI k k k<|trivial) k)⟩
     ·refine aN k q8<|aR<|tn<|sQ<|sQ<|rg<|aa k k<|an<|tn<|aL ?_
      obtain ⟨y14,hy14,h⟩:=ob h
      refine cV (body:=(mK v1 x1 y7)) hy14 (fun (x3:((List Int)×Int))=>bU [(0,.int a0),(4,.ptr 0 0 0),(6,.ptr 1 0 0),(7,.own 3 0 x1.2.2.1.length),(8,.int x1.2.2.2),(9,.int x1.1),(10,.int y7),(12,.int x3.2)] [(0,⟨3,[[.int 0,.int 0,.nil 1]]⟩),(1,⟨3,[[.int v1.rows,.int v1.cols,.own 2 0 x3.1.length]]⟩),(2,⟨1,List.map (ow eI) x3.1⟩),(3,⟨1,List.map (ow eI) x1.2.2.1⟩)] 4 [4,5,6,7]) (fun r e t=>e= .exit 4∧Ent t (bU [(0,.int a0),(4,.ptr 0 0 0),(6,.ptr 1 0 0),(7,.own 3 0 x1.2.2.1.length),(8,.int x1.2.2.2),(9,.int x1.1)] [(0,⟨3,[[.int 0,.int 0,.nil 1]]⟩),(1,⟨3,[[.int v1.rows,.int v1.cols,.own 2 0 r.length]]⟩),(2,⟨1,List.map (ow eI) r⟩),(3,⟨1,List.map (ow eI) x1.2.2.1⟩)] 4 [4,5,6,7])) (aE (σ:=sg [(0,0),(1,1),(2,2),(3,3)]) ⟨(e1 k k),(pE k k),(pE k k),(oE k k),(e1 k k),(e1 k k),(e1 k k),(e1 k k),trivial⟩ (hP k k k k<|hX ⟨_,k,k,.inr ⟨_,_,k,⟨_,_,k,k,⟨_,_,k,k,⟨_,_,k,⟨k,k,k,k⟩,k⟩⟩⟩,k⟩⟩ k<|hI k k k<|hI k k k<|trivial) k) ?_ ?_
      ·intro x3 o h
       refine sQ<|sQ<|rg<|am k k<|ae (aD aA k k k k k k k) k<|ae (aC aA k k k k k k k) k<|ae (bD k k k) k<|an<|tn ?_
       rcases cb h with ⟨q9,h⟩|⟨q9,h⟩
       ·refine aJ k q9<|aR<|tn<|sQ<|aL<|sQ<|rg<|ae (aD aA k k k k k k k) k<|ae (aC aA k k k k k k k) k<|am k k ?_
        refine ae (aD aA k k k k k k k) k<|ae (aC aA k k k k k k k) k<|ae (gN k k) k<|am k k<|ae (bW k k) k ?_
        obtain ⟨v10,hv10,h⟩:=ob h
        refine ae (cT aA (eD hv10) (dB hv10) k k k k k k k) k<|ae (aC aA k k k k (cM (dI hv10)) k k) k<|aa k k<|an<|tn<|aO (t:=bU [(0,.int a0),(4,.ptr 0 0 0),(6,.ptr 1 0 0),(7,.own 3 0 x1.2.2.1.length),(8,.int x1.2.2.2),(9,.int x1.1),(10,.int y7),(12,.int x3.2),(13,.int v10)] [(0,⟨3,[[.int 0,.int 0,.nil 1]]⟩),(1,⟨3,[[.int v1.rows,.int v1.cols,.own 2 0 x3.1.length]]⟩),(2,⟨1,List.map (ow eI) x3.1⟩),(3,⟨1,List.map (ow eI) x1.2.2.1⟩)] 4 [4,5,6,7]) (aE (σ:=sg [(0,0),(1,1),(2,2),(3,3)]) ⟨(e1 k k),(pE k k),(pE k k),(oE k k),(e1 k k),(e1 k k),(e1 k k),(e1 k k),(e1 k k),trivial⟩ (hP k k k k<|hX ⟨_,k,k,.inr ⟨_,_,k,⟨_,_,k,k,⟨_,_,k,k,⟨_,_,k,⟨k,k,k,k⟩,k⟩⟩⟩,k⟩⟩ k<|hI k k k<|hI k k k<|trivial) k)<|sQ<|aZ kR<|ae (aD aA k k k k k k k) k<|ae (aC aA k k k k k k k) k ?_
        refine am k k<|ae (aD aA k k k k k k k) k<|ae (aC aA k k k k k k k) k<|ae (gN k k) k<|am k k<|ae (bW k k) k<|ae (aD aA k k k k k k k) k<|ae (aC aA k k k k k k k) k<|am k k<|ae (aD aA k k k k k k k) k ?_
        refine ae (aC aA k k k k k k k) k<|ae (gN k k) k<|am k k<|ae (bW k k) k ?_
        obtain ⟨v11,hv11,h⟩:=ob h
        refine ae (cT aA (eD hv11) (dB hv11) k k k k k k k) k<|ae (aC aA k k k k (cM (dI hv11)) k k) k ?_
        obtain ⟨v12,hv12,h⟩:=ob h
        refine ae (cT aA (eD hv12) (dB hv12) k k k k k k k) k<|ae (iH aA uJ (u:=v11) (dI hv12) k k k k k k) k<|an ?_
        refine ⟨by kernel_rfl,?_⟩
        refine tn<|aO (t:=bU [(0,.int a0),(4,.ptr 0 0 0),(6,.ptr 1 0 0),(7,.own 3 0 x1.2.2.1.length),(8,.int x1.2.2.2),(9,.int x1.1),(10,.int y7),(12,.int x3.2),(13,.int v10)] [(0,⟨3,[[.int 0,.int 0,.nil 1]]⟩),(1,⟨3,[[.int v1.rows,.int v1.cols,.own 2 0 ((x3.1.set ((wr ((wr (x1.2.2.2*v1.cols))+x3.2)).toNat) v11).length)]]⟩),(2,⟨1,List.map (ow eI) (x3.1.set ((wr ((wr (x1.2.2.2*v1.cols))+x3.2)).toNat) v11)⟩),(3,⟨1,List.map (ow eI) x1.2.2.1⟩)] 4 [4,5,6,7]) (aE (σ:=sg [(0,0),(1,1),(2,2),(3,3)]) ⟨(e1 k k),(pE k k),(pE k k),(oE k k),(e1 k k),(e1 k k),(e1 k k),(e1 k k),(e1 k k),trivial⟩ (hP k k k k<|hX ⟨_,k,k,.inr ⟨_,_,k,⟨_,_,k,k,⟨_,_,k,k,⟨_,_,k,⟨k,k,(by simp only [bC,lA,lT,lR,lC,lN]),k⟩,k⟩⟩⟩,k⟩⟩ k<|hI k k k<|hI k k k<|trivial) k)<|rg<|ae (aD aA k k k k k k k) k<|ae (aC aA k k k k k k k) k<|am k k<|ae (aD aA k k k k k k k) k<|ae (aC aA k k k k k k k) k<|ae (gN k k) k<|am k k ?_
        refine ae (bW k k) k<|am k k ?_
        obtain ⟨v13,hv13,h⟩:=ob h
        refine ae (cT aA (eD hv13) (dB hv13) k k k k k k k) k<|ae (iH aA uJ (u:=v10) (dI hv13) k k k k k k) k<|an<|bF<|tn<|rg<|am k k<|ae (bW k k) k<|aa k k<|an ?_
        refine tn ?_
        obtain rfl:=so h
        exact ⟨_,k,(aE (σ:=sg [(0,0),(1,1),(2,2),(3,3)]) ⟨(e1 k k),(pE k k),(pE k k),(oE k k),(e1 k k),(e1 k k),(e1 k k),(e1 k k),trivial⟩ (hP k k k k<|hX ⟨_,k,k,.inr ⟨_,_,k,⟨_,_,k,k,⟨_,_,k,k,⟨_,_,k,⟨k,k,(by simp only [bC,lA,lT,lR,lC,lN]),k⟩,k⟩⟩⟩,k⟩⟩ k<|hI k k k<|hI k k k<|trivial) k)⟩
       ·refine aN k q9<|bH<|aH<|aH ?_
        obtain rfl:=so h
        exact ⟨_,k,k,(aE (σ:=sg [(0,0),(1,1),(2,2),(3,3)]) ⟨(e1 k k),(pE k k),(pE k k),(oE k k),(e1 k k),(e1 k k),trivial⟩ (hP k k k k<|hX ⟨_,k,k,.inr ⟨_,_,k,⟨_,_,k,k,⟨_,_,k,k,⟨_,_,k,⟨k,k,k,k⟩,k⟩⟩⟩,k⟩⟩ k<|hI k k k<|hI k k k<|trivial) k)⟩
      ·rintro e t ⟨rfl,hent⟩
       refine aX<|tn<|aO hent<|sQ<|rg<|am k k<|ae (aD aA k k k k k k k) k<|ae (aC aA k k k k k k k) k<|am k k<|ae (aD aA k k k k k k k) k ?_
       refine ae (aC aA k k k k k k k) k<|ae (gN k k) k<|am k k<|ae (bW k k) k ?_
       obtain ⟨v15,hv15,h⟩:=ob h
       refine ae (cT aA (eD hv15) (dB hv15) k k k k k k k) k<|ae (aC aA k k k k (cM (dI hv15)) k k) k ?_
       obtain ⟨v16,hv16,h⟩:=ob h
       refine ae (bE (aDU a0 v15 v16 hv16) k (aG (aM k) (aG (aM k) bG))) k<|aa k k<|an<|tn<|aO (t:=bU [(0,.int a0),(4,.ptr 0 0 0),(6,.ptr 1 0 0),(7,.own 3 0 x1.2.2.1.length),(8,.int x1.2.2.2),(9,.int x1.1),(14,.int v16)] [(0,⟨3,[[.int 0,.int 0,.nil 1]]⟩),(1,⟨3,[[.int v1.rows,.int v1.cols,.own 2 0 y14.length]]⟩),(2,⟨1,List.map (ow eI) y14⟩),(3,⟨1,List.map (ow eI) x1.2.2.1⟩)] 4 [4,5,6,7]) (aE (σ:=sg [(0,0),(1,1),(2,2),(3,3)]) ⟨(e1 k k),(pE k k),(pE k k),(oE k k),(e1 k k),(e1 k k),(e1 k k),trivial⟩ (hP k k k k<|hX ⟨_,k,k,.inr ⟨_,_,k,⟨_,_,k,k,⟨_,_,k,k,⟨_,_,k,⟨k,k,k,k⟩,k⟩⟩⟩,k⟩⟩ k<|hI k k k<|hI k k k<|trivial) k)<|sQ<|sQ<|rg<|aa k k<|an ?_
       refine tn<|aL ?_
       obtain ⟨y21,hy21,h⟩:=ob h
       refine cV (body:=(mM a0 v1 v16 x1)) hy21 (fun (x4:((List Int)×Int))=>bU [(0,.int a0),(4,.ptr 0 0 0),(6,.ptr 1 0 0),(7,.own 3 0 x1.2.2.1.length),(8,.int x1.2.2.2),(9,.int x1.1),(14,.int v16),(15,.int x4.2)] [(0,⟨3,[[.int 0,.int 0,.nil 1]]⟩),(1,⟨3,[[.int v1.rows,.int v1.cols,.own 2 0 x4.1.length]]⟩),(2,⟨1,List.map (ow eI) x4.1⟩),(3,⟨1,List.map (ow eI) x1.2.2.1⟩)] 4 [4,5,6,7]) (fun r e t=>e= .exit 6∧Ent t (bU [(0,.int a0),(4,.ptr 0 0 0),(6,.ptr 1 0 0),(7,.own 3 0 x1.2.2.1.length),(8,.int x1.2.2.2),(9,.int x1.1)] [(0,⟨3,[[.int 0,.int 0,.nil 1]]⟩),(1,⟨3,[[.int v1.rows,.int v1.cols,.own 2 0 r.length]]⟩),(2,⟨1,List.map (ow eI) r⟩),(3,⟨1,List.map (ow eI) x1.2.2.1⟩)] 4 [4,5,6,7])) (aE (σ:=sg [(0,0),(1,1),(2,2),(3,3)]) ⟨(e1 k k),(pE k k),(pE k k),(oE k k),(e1 k k),(e1 k k),(e1 k k),(e1 k k),trivial⟩ (hP k k k k<|hX ⟨_,k,k,.inr ⟨_,_,k,⟨_,_,k,k,⟨_,_,k,k,⟨_,_,k,⟨k,k,k,k⟩,k⟩⟩⟩,k⟩⟩ k<|hI k k k<|hI k k k<|trivial) k) ?_ ?_
       ·intro x4 o h
        refine sQ<|sQ<|rg<|am k k<|ae (aD aA k k k k k k k) k<|ae (aC aA k k k k k k k) k<|ae (bD k k k) k<|an<|tn ?_
        rcases cb h with ⟨q17,h⟩|⟨q17,h⟩
        ·refine aJ k q17<|aR<|tn<|sQ<|aL<|aZ kR<|ae (aD aA k k k k k k k) k<|ae (aC aA k k k k k k k) k<|am k k<|ae (aD aA k k k k k k k) k ?_
         refine ae (aC aA k k k k k k k) k<|ae (gN k k) k<|am k k<|ae (bW k k) k<|am k k<|am k k<|ae (aD aA k k k k k k k) k<|ae (aC aA k k k k k k k) k<|am k k<|ae (aD aA k k k k k k k) k ?_
         refine ae (aC aA k k k k k k k) k<|ae (gN k k) k<|am k k<|ae (bW k k) k ?_
         obtain ⟨v18,hv18,h⟩:=ob h
         refine ae (cT aA (eD hv18) (dB hv18) k k k k k k k) k<|ae (aC aA k k k k (cM (dI hv18)) k k) k<|ae (gN k k) k ?_
         obtain ⟨v19,hv19,h⟩:=ob h
         refine ae (bE (tP a0 (wr (v16*v18)) v19 hv19) k (aG (aM k) (aG (aM k) bG))) k ?_
         obtain ⟨v20,hv20,h⟩:=ob h
         refine ae (cT aA (eD hv20) (dB hv20) k k k k k k k) k<|ae (iH aA uJ (u:=v19) (dI hv20) k k k k k k) k<|an ?_
         refine ⟨by kernel_rfl,?_⟩
         refine bF<|tn<|aO (t:=bU [(0,.int a0),(4,.ptr 0 0 0),(6,.ptr 1 0 0),(7,.own 3 0 x1.2.2.1.length),(8,.int x1.2.2.2),(9,.int x1.1),(14,.int v16),(15,.int x4.2)] [(0,⟨3,[[.int 0,.int 0,.nil 1]]⟩),(1,⟨3,[[.int v1.rows,.int v1.cols,.own 2 0 ((x4.1.set ((wr ((wr (x1.2.2.2*v1.cols))+x4.2)).toNat) v19).length)]]⟩),(2,⟨1,List.map (ow eI) (x4.1.set ((wr ((wr (x1.2.2.2*v1.cols))+x4.2)).toNat) v19)⟩),(3,⟨1,List.map (ow eI) x1.2.2.1⟩)] 4 [4,5,6,7]) (aE (σ:=sg [(0,0),(1,1),(2,2),(3,3)]) ⟨(e1 k k),(pE k k),(pE k k),(oE k k),(e1 k k),(e1 k k),(e1 k k),(e1 k k),trivial⟩ (hP k k k k<|hX ⟨_,k,k,.inr ⟨_,_,k,⟨_,_,k,k,⟨_,_,k,k,⟨_,_,k,⟨k,k,(by simp only [bC,lA,lT,lR,lC,lN]),k⟩,k⟩⟩⟩,k⟩⟩ k<|hI k k k<|hI k k k<|trivial) k)<|rg<|am k k<|ae (bW k k) k<|aa k k<|an<|tn ?_
         obtain rfl:=so h
         exact ⟨_,k,(aE (σ:=sg [(0,0),(1,1),(2,2),(3,3)]) ⟨(e1 k k),(pE k k),(pE k k),(oE k k),(e1 k k),(e1 k k),(e1 k k),(e1 k k),trivial⟩ (hP k k k k<|hX ⟨_,k,k,.inr ⟨_,_,k,⟨_,_,k,k,⟨_,_,k,k,⟨_,_,k,⟨k,k,k,k⟩,k⟩⟩⟩,k⟩⟩ k<|hI k k k<|hI k k k<|trivial) k)⟩
        ·refine aN k q17<|bH<|aH<|aH ?_
         obtain rfl:=so h
         exact ⟨_,k,k,(aE (σ:=sg [(0,0),(1,1),(2,2),(3,3)]) ⟨(e1 k k),(pE k k),(pE k k),(oE k k),(e1 k k),(e1 k k),trivial⟩ (hP k k k k<|hX ⟨_,k,k,.inr ⟨_,_,k,⟨_,_,k,k,⟨_,_,k,k,⟨_,_,k,⟨k,k,k,k⟩,k⟩⟩⟩,k⟩⟩ k<|hI k k k<|hI k k k<|trivial) k)⟩
       ·rintro e t ⟨rfl,hent⟩
        refine aX<|tn<|aO hent<|sQ<|sQ<|rg<|aa k k<|an<|tn<|aL ?_
        obtain ⟨y31,hy31,h⟩:=ob h
        refine cV (body:=(gV a0 v1 x1)) hy31 (fun (x5:((List Int)×Int))=>bU [(0,.int a0),(4,.ptr 0 0 0),(6,.ptr 1 0 0),(7,.own 3 0 x1.2.2.1.length),(8,.int x1.2.2.2),(9,.int x1.1),(16,.int x5.2)] [(0,⟨3,[[.int 0,.int 0,.nil 1]]⟩),(1,⟨3,[[.int v1.rows,.int v1.cols,.own 2 0 x5.1.length]]⟩),(2,⟨1,List.map (ow eI) x5.1⟩),(3,⟨1,List.map (ow eI) x1.2.2.1⟩)] 4 [4,5,6,7]) (fun r e t=>e= .exit 8∧Ent t (bU [(0,.int a0),(4,.ptr 0 0 0),(6,.ptr 1 0 0),(7,.own 3 0 x1.2.2.1.length),(8,.int x1.2.2.2),(9,.int x1.1)] [(0,⟨3,[[.int 0,.int 0,.nil 1]]⟩),(1,⟨3,[[.int v1.rows,.int v1.cols,.own 2 0 r.length]]⟩),(2,⟨1,List.map (ow eI) r⟩),(3,⟨1,List.map (ow eI) x1.2.2.1⟩)] 4 [4,5,6,7])) (aE (σ:=sg [(0,0),(1,1),(2,2),(3,3)]) ⟨(e1 k k),(pE k k),(pE k k),(oE k k),(e1 k k),(e1 k k),(e1 k k),trivial⟩ (hP k k k k<|hX ⟨_,k,k,.inr ⟨_,_,k,⟨_,_,k,k,⟨_,_,k,k,⟨_,_,k,⟨k,k,k,k⟩,k⟩⟩⟩,k⟩⟩ k<|hI k k k<|hI k k k<|trivial) k) ?_ ?_
        ·intro x5 o h
         refine sQ<|sQ<|rg<|am k k<|ae (aD aA k k k k k k k) k<|ae (aC aA k k k k k k k) k<|ae (bD k k k) k<|an<|tn ?_
         rcases cb h with ⟨q22,h⟩|⟨q22,h⟩
         ·refine aJ k q22<|aR<|tn<|sQ<|aL<|sQ<|rg<|ae (aD aA k k k k k k k) k<|ae (aC aA k k k k k k k) k<|am k k ?_
          refine ae (aD aA k k k k k k k) k<|ae (aC aA k k k k k k k) k<|ae (gN k k) k<|am k k<|ae (bW k k) k ?_
          obtain ⟨v23,hv23,h⟩:=ob h
          refine ae (cT aA (eD hv23) (dB hv23) k k k k k k k) k<|ae (aC aA k k k k (cM (dI hv23)) k k) k<|aa k k<|an<|tn<|aO (t:=bU [(0,.int a0),(4,.ptr 0 0 0),(6,.ptr 1 0 0),(7,.own 3 0 x1.2.2.1.length),(8,.int x1.2.2.2),(9,.int x1.1),(16,.int x5.2),(17,.int v23)] [(0,⟨3,[[.int 0,.int 0,.nil 1]]⟩),(1,⟨3,[[.int v1.rows,.int v1.cols,.own 2 0 x5.1.length]]⟩),(2,⟨1,List.map (ow eI) x5.1⟩),(3,⟨1,List.map (ow eI) x1.2.2.1⟩)] 4 [4,5,6,7]) (aE (σ:=sg [(0,0),(1,1),(2,2),(3,3)]) ⟨(e1 k k),(pE k k),(pE k k),(oE k k),(e1 k k),(e1 k k),(e1 k k),(e1 k k),trivial⟩ (hP k k k k<|hX ⟨_,k,k,.inr ⟨_,_,k,⟨_,_,k,k,⟨_,_,k,k,⟨_,_,k,⟨k,k,k,k⟩,k⟩⟩⟩,k⟩⟩ k<|hI k k k<|hI k k k<|trivial) k)<|sQ<|rg<|aa k k<|an ?_
          refine tn<|aL ?_
          obtain ⟨y30,hy30,h⟩:=ob h
          refine cV (body:=(jH a0 v1 v23 x1 x5)) hy30 (fun (x6:((List Int)×Int))=>bU [(0,.int a0),(4,.ptr 0 0 0),(6,.ptr 1 0 0),(7,.own 3 0 x1.2.2.1.length),(8,.int x1.2.2.2),(9,.int x1.1),(16,.int x5.2),(17,.int v23),(18,.int x6.2)] [(0,⟨3,[[.int 0,.int 0,.nil 1]]⟩),(1,⟨3,[[.int v1.rows,.int v1.cols,.own 2 0 x6.1.length]]⟩),(2,⟨1,List.map (ow eI) x6.1⟩),(3,⟨1,List.map (ow eI) x1.2.2.1⟩)] 4 [4,5,6,7]) (fun r e t=>e= .exit 10∧Ent t (bU [(0,.int a0),(4,.ptr 0 0 0),(6,.ptr 1 0 0),(7,.own 3 0 x1.2.2.1.length),(8,.int x1.2.2.2),(9,.int x1.1),(16,.int x5.2)] [(0,⟨3,[[.int 0,.int 0,.nil 1]]⟩),(1,⟨3,[[.int v1.rows,.int v1.cols,.own 2 0 r.length]]⟩),(2,⟨1,List.map (ow eI) r⟩),(3,⟨1,List.map (ow eI) x1.2.2.1⟩)] 4 [4,5,6,7])) (aE (σ:=sg [(0,0),(1,1),(2,2),(3,3)]) ⟨(e1 k k),(pE k k),(pE k k),(oE k k),(e1 k k),(e1 k k),(e1 k k),(e1 k k),(e1 k k),trivial⟩ (hP k k k k<|hX ⟨_,k,k,.inr ⟨_,_,k,⟨_,_,k,k,⟨_,_,k,k,⟨_,_,k,⟨k,k,k,k⟩,k⟩⟩⟩,k⟩⟩ k<|hI k k k<|hI k k k<|trivial) k) ?_ ?_
          ·intro x6 o h
           refine sQ<|sQ<|rg<|am k k<|ae (aD aA k k k k k k k) k<|ae (aC aA k k k k k k k) k<|ae (bD k k k) k<|am k k ?_
           rcases cb h with ⟨q24,h⟩|⟨q24,h⟩
           ·refine bA 162 k q24<|am k k<|am k k<|ae (bD k k k) k<|ae (aP k k) k<|an<|tn ?_
            rcases cb h with ⟨q25,h⟩|⟨q25,h⟩
            ·refine aJ k q25<|aR<|tn<|sQ<|aL<|aZ kR<|ae (aD aA k k k k k k k) k<|ae (aC aA k k k k k k k) k<|am k k<|ae (aD aA k k k k k k k) k ?_
             refine ae (aC aA k k k k k k k) k<|ae (gN k k) k<|am k k<|ae (bW k k) k<|am k k<|ae (aD aA k k k k k k k) k<|ae (aC aA k k k k k k k) k<|am k k<|ae (aD aA k k k k k k k) k<|ae (aC aA k k k k k k k) k ?_
             refine ae (gN k k) k<|am k k<|ae (bW k k) k ?_
             obtain ⟨v26,hv26,h⟩:=ob h
             refine ae (cT aA (eD hv26) (dB hv26) k k k k k k k) k<|ae (aC aA k k k k (cM (dI hv26)) k k) k<|am k k<|ae (aD aA k k k k k k k) k<|ae (aC aA k k k k k k k) k<|am k k<|ae (aD aA k k k k k k k) k<|ae (aC aA k k k k k k k) k<|ae (gN k k) k<|am k k ?_
             refine ae (bW k k) k ?_
             obtain ⟨v27,hv27,h⟩:=ob h
             refine ae (cT aA (eD hv27) (dB hv27) k k k k k k k) k<|ae (aC aA k k k k (cM (dI hv27)) k k) k<|ae (gN k k) k<|ae (jY k k) k ?_
             obtain ⟨v28,hv28,h⟩:=ob h
             refine ae (bE (tP a0 (wr (v26 - (wr (v23*v27)))) v28 hv28) k (aG (aM k) (aG (aM k) bG))) k ?_
             obtain ⟨v29,hv29,h⟩:=ob h
             refine ae (cT aA (eD hv29) (dB hv29) k k k k k k k) k<|ae (iH aA uJ (u:=v28) (dI hv29) k k k k k k) k<|an ?_
             refine ⟨by kernel_rfl,?_⟩
             refine bF<|tn<|aO (t:=bU [(0,.int a0),(4,.ptr 0 0 0),(6,.ptr 1 0 0),(7,.own 3 0 x1.2.2.1.length),(8,.int x1.2.2.2),(9,.int x1.1),(16,.int x5.2),(17,.int v23),(18,.int x6.2)] [(0,⟨3,[[.int 0,.int 0,.nil 1]]⟩),(1,⟨3,[[.int v1.rows,.int v1.cols,.own 2 0 ((x6.1.set ((wr ((wr (x5.2*v1.cols))+x6.2)).toNat) v28).length)]]⟩),(2,⟨1,List.map (ow eI) (x6.1.set ((wr ((wr (x5.2*v1.cols))+x6.2)).toNat) v28)⟩),(3,⟨1,List.map (ow eI) x1.2.2.1⟩)] 4 [4,5,6,7]) (aE (σ:=sg [(0,0),(1,1),(2,2),(3,3)]) ⟨(e1 k k),(pE k k),(pE k k),(oE k k),(e1 k k),(e1 k k),(e1 k k),(e1 k k),(e1 k k),trivial⟩ (hP k k k k<|hX ⟨_,k,k,.inr ⟨_,_,k,⟨_,_,k,k,⟨_,_,k,k,⟨_,_,k,⟨k,k,(by simp only [bC,lA,lT,lR,lC,lN]),k⟩,k⟩⟩⟩,k⟩⟩ k<|hI k k k<|hI k k k<|trivial) k)<|rg<|am k k<|ae (bW k k) k<|aa k k<|an<|tn ?_
             obtain rfl:=so h
             exact ⟨_,k,(aE (σ:=sg [(0,0),(1,1),(2,2),(3,3)]) ⟨(e1 k k),(pE k k),(pE k k),(oE k k),(e1 k k),(e1 k k),(e1 k k),(e1 k k),(e1 k k),trivial⟩ (hP k k k k<|hX ⟨_,k,k,.inr ⟨_,_,k,⟨_,_,k,k,⟨_,_,k,k,⟨_,_,k,⟨k,k,k,k⟩,k⟩⟩⟩,k⟩⟩ k<|hI k k k<|hI k k k<|trivial) k)⟩
            ·refine aN k q25<|bH<|aH<|aH ?_
             obtain rfl:=so h
             exact ⟨_,k,k,(aE (σ:=sg [(0,0),(1,1),(2,2),(3,3)]) ⟨(e1 k k),(pE k k),(pE k k),(oE k k),(e1 k k),(e1 k k),(e1 k k),trivial⟩ (hP k k k k<|hX ⟨_,k,k,.inr ⟨_,_,k,⟨_,_,k,k,⟨_,_,k,k,⟨_,_,k,⟨k,k,k,k⟩,k⟩⟩⟩,k⟩⟩ k<|hI k k k<|hI k k k<|trivial) k)⟩
           ·refine bA 162 k q24<|ak k k<|ak k k<|ak k k<|ae (aP k k) k<|an<|tn<|aN k k<|bH<|aH ?_
            refine aH ?_
            obtain rfl:=so h
            exact ⟨_,k,k,(aE (σ:=sg [(0,0),(1,1),(2,2),(3,3)]) ⟨(e1 k k),(pE k k),(pE k k),(oE k k),(e1 k k),(e1 k k),(e1 k k),trivial⟩ (hP k k k k<|hX ⟨_,k,k,.inr ⟨_,_,k,⟨_,_,k,k,⟨_,_,k,k,⟨_,_,k,⟨k,k,k,k⟩,k⟩⟩⟩,k⟩⟩ k<|hI k k k<|hI k k k<|trivial) k)⟩
          ·rintro e t ⟨rfl,hent⟩
           refine aX<|bF<|tn<|aO hent<|rg<|am k k<|ae (bW k k) k<|aa k k<|an<|tn ?_
           obtain rfl:=so h
           exact ⟨_,k,(aE (σ:=sg [(0,0),(1,1),(2,2),(3,3)]) ⟨(e1 k k),(pE k k),(pE k k),(oE k k),(e1 k k),(e1 k k),(e1 k k),trivial⟩ (hP k k k k<|hX ⟨_,k,k,.inr ⟨_,_,k,⟨_,_,k,k,⟨_,_,k,k,⟨_,_,k,⟨k,k,k,k⟩,k⟩⟩⟩,k⟩⟩ k<|hI k k k<|hI k k k<|trivial) k)⟩
         ·refine aN k q22<|bH<|aH<|aH ?_
          obtain rfl:=so h
          exact ⟨_,k,k,(aE (σ:=sg [(0,0),(1,1),(2,2),(3,3)]) ⟨(e1 k k),(pE k k),(pE k k),(oE k k),(e1 k k),(e1 k k),trivial⟩ (hP k k k k<|hX ⟨_,k,k,.inr ⟨_,_,k,⟨_,_,k,k,⟨_,_,k,k,⟨_,_,k,⟨k,k,k,k⟩,k⟩⟩⟩,k⟩⟩ k<|hI k k k<|hI k k k<|trivial) k)⟩
        ·rintro e t ⟨rfl,hent⟩
         refine aX<|tn<|aO hent<|sQ<|rg<|am k k<|am k k<|ae (cW aA k k k k k k k k k k k k) k ?_
         obtain ⟨q32,h⟩:=cg h
         refine ae (xI aA (l:=x1.2.2.1) (m:=[x1.1]) uJ q32 k k k k k k k k k k k k) k<|aa k k<|an<|tn<|rg<|am k k<|ae (bW k k) k<|aa k k<|an<|bF ?_
         refine tn<|rg<|am k k<|ae (bW k k) k<|aa k k<|an<|tn ?_
         obtain rfl:=so h
         exact ⟨_,k,(aE (σ:=sg [(0,0),(1,1),(2,2),(3,5)]) ⟨(e1 k k),(pE k k),(pE k k),(oE k k),(e1 k k),(e1 k k),trivial⟩ (hP k k k k<|hX ⟨_,k,k,.inr ⟨_,_,k,⟨_,_,k,k,⟨_,_,k,k,⟨_,_,k,⟨k,k,k,k⟩,k⟩⟩⟩,k⟩⟩ k<|hI k k k<|hI k k k<|trivial) k)⟩
   ·refine aN k q3<|bH<|aH<|aH ?_
    obtain rfl:=so h
    exact ⟨_,k,k,(aE (σ:=sg [(0,0),(1,1),(2,2),(3,3)]) ⟨(pE k k),(pE k k),(oE k k),trivial⟩ (hP k k k k<|hX ⟨_,k,k,.inr ⟨_,_,k,⟨_,_,k,k,⟨_,_,k,k,⟨_,_,k,⟨k,k,k,k⟩,k⟩⟩⟩,k⟩⟩ k<|hI k k k<|hI k k k<|trivial) k)⟩
  ·refine bA 26 k q2<|ak k k<|ak k k<|ak k k<|ak k k<|ae (aP k k) k<|an<|tn<|aN k k<|bH ?_
   refine aH<|aH ?_
   obtain rfl:=so h
   exact ⟨_,k,k,(aE (σ:=sg [(0,0),(1,1),(2,2),(3,3)]) ⟨(pE k k),(pE k k),(oE k k),trivial⟩ (hP k k k k<|hX ⟨_,k,k,.inr ⟨_,_,k,⟨_,_,k,k,⟨_,_,k,k,⟨_,_,k,⟨k,k,k,k⟩,k⟩⟩⟩,k⟩⟩ k<|hI k k k<|hI k k k<|trivial) k)⟩
 ·rintro e t ⟨rfl,hent⟩
  refine aX<|tn<|aO hent<|sQ<|rg<|ae (aC aA k k k k k k k) k<|am k k<|ae (bP aA k k k k k k k k) k<|aa k k<|an ?_
  refine tn<|aK ?_
  obtain rfl:=so h
  exact aT k k k (fJ k (dH (zA (cC (k) (cC (k) (cC (jD dK k k) hZ)))) (dH (tJ (jD dK k k)) jZ)))
def pT (a0:Int) (a1:Int):Option Int:=
 Option.bind (iB a0) fun v1=>
 bif !v1 then
 (some (0))
 else
 (bif !decide (a0=0) then
 (bif !decide (a0=0) then
 (some ((wr ((a1.tmod a0)+a0)).tmod a0))
 else none)
 else none)
theorem aEW (a0:Int) (a1:Int) (r:Int) (h:pT a0 a1=some r):HasC Tryz.prog 273 [.int a0,.int a1] (.int r):=by
 refine bN aA (rvs:=[.tmp 4]) (ns:=[0,1]) Tryz.func273 k k Tryz.ntmps273 k k k<|sQ<|rg<|aa k k<|an<|tn<|sQ<|sQ<|rg<|am k k ?_
 obtain ⟨v1,hv1,h⟩:=ob h
 refine ae (bE (lM a0 v1 hv1) k (aG (aM k) bG)) k<|ae (cH k) k<|an<|tn ?_
 rcases cb h with ⟨q2,h⟩|⟨q2,h⟩
 ·refine aJ k q2<|sQ<|rg<|aa k k<|an<|tn<|aK<|aI ?_
  obtain rfl:=so h
  exact aT k k k (cS k)
 ·refine aN k q2<|aR<|tn<|sQ<|rg<|am k k<|am k k ?_
  obtain ⟨q4,h⟩:=cg h
  refine ae (aFG k k q4) k<|am k k<|ae (bW k k) k<|am k k ?_
  obtain ⟨q3,h⟩:=cg h
  refine ae (aFG k k q3) k<|aa k k<|an<|tn<|aO (t:=bU [(4,.int ((wr ((a1.tmod a0)+a0)).tmod a0))] [] 0 [0,1]) (aE (σ:=sg []) ⟨(e1 k k),trivial⟩ trivial k)<|aK ?_
  obtain rfl:=so h
  exact aT k k k (cS k)
def mN (a0:Int) (a1:Int) (a2:Int) (x1:(Int×Int)):Option ((Int×Int) ⊕ Int):=
 bif decide (x1.2<a2) then
 (Option.bind (pT a0 a1) fun v6=>
 bif !decide (a0=0) then
 (some (.inl ((wr (x1.1*v6)).tmod a0,wr (x1.2+1))))
 else none)
 else
 (some (.inr x1.1))
def qY (a0:Int) (a1:Int) (a2:Int):Option Int:=
 Option.bind (iB a0) fun v1=>
 bif !v1 then
 (some (0))
 else
 (Option.bind (gY a2 0 1000) fun v3=>
 bif !v3 then
 (some (0))
 else
 (Option.bind (Lp (mN a0 a1 a2) (1,0)) fun y8=>
 some (y8)))
theorem aFY (a0:Int) (a1:Int) (a2:Int) (r:Int) (h:qY a0 a1 a2=some r):HasC Tryz.prog 265 [.int a0,.int a1,.int a2] (.int r):=by
 refine bN aA (rvs:=[.tmp 6]) (ns:=[0,1]) Tryz.func265 k k Tryz.ntmps265 k k k<|sQ<|rg<|aa k k<|an<|tn<|sQ<|sQ<|rg<|am k k ?_
 obtain ⟨v1,hv1,h⟩:=ob h
 refine ae (bE (lM a0 v1 hv1) k (aG (aM k) bG)) k<|ae (cH k) k<|am k k ?_
 rcases cb h with ⟨q2,h⟩|⟨q2,h⟩
 ·refine bA 11 k q2<|ak k k<|ak k k<|ak k k<|ae (aP k k) k<|an<|tn<|aJ k k<|sQ<|rg ?_
  refine aa k k<|an<|tn<|aK<|aI ?_
  obtain rfl:=so h
  exact aT k k k (cS k)
 ·refine bA 11 k q2<|am k k ?_
  obtain ⟨v3,hv3,h⟩:=ob h
  refine ae (bE (kS a2 0 1000 v3 hv3) k (aG (aM k) (aG (aM k) (aG (aM k) bG)))) k<|ae (cH k) k<|ae (aP k k) k<|an<|tn ?_
  rcases cb h with ⟨q4,h⟩|⟨q4,h⟩
  ·refine aJ k q4<|sQ<|rg<|aa k k<|an<|tn<|aK<|aI ?_
   obtain rfl:=so h
   exact aT k k k (cS k)
  ·refine aN k q4<|aR<|tn<|sQ<|rg<|aa k k<|an<|tn<|sQ<|sQ ?_
   refine rg<|am k k<|am k k<|an<|tn<|aO (t:=bU [(0,.int a0),(1,.int a1),(7,.int 1),(16,.int a2),(17,.int 0)] [] 0 [0,1]) (aE (σ:=sg []) ⟨(e1 k k),(e1 k k),(e1 k k),(e1 k k),(e1 k k),trivial⟩ trivial k)<|aL ?_
   obtain ⟨y8,hy8,h⟩:=ob h
   refine cV (body:=(mN a0 a1 a2)) hy8 (fun (x1:(Int×Int))=>bU [(0,.int a0),(1,.int a1),(7,.int x1.1),(16,.int a2),(17,.int x1.2)] [] 0 [0,1]) (fun r e t=>e= .exit 0∧Ent t (bU [(7,.int r)] [] 0 [0,1])) (aE (σ:=sg []) ⟨(e1 k k),(e1 k k),(e1 k k),(e1 k k),(e1 k k),trivial⟩ trivial k) ?_ ?_
   ·intro x1 o h
    refine sQ<|rg<|ae (bD k k k) k<|an<|tn<|sQ ?_
    rcases cb h with ⟨q5,h⟩|⟨q5,h⟩
    ·refine aJ k q5<|aR<|tn<|sQ<|aL<|rg<|am k k<|am k k<|am k k ?_
     obtain ⟨v6,hv6,h⟩:=ob h
     refine ae (bE (aEW a0 a1 v6 hv6) k (aG (aM k) (aG (aM k) bG))) k<|ae (gN k k) k<|am k k ?_
     obtain ⟨q7,h⟩:=cg h
     refine ae (aFG k k q7) k<|aa k k<|an<|bF<|tn<|rg<|ae (bW k k) k<|am k k<|an<|tn ?_
     obtain rfl:=so h
     exact ⟨_,k,(aE (σ:=sg []) ⟨(e1 k k),(e1 k k),(e1 k k),(e1 k k),(e1 k k),trivial⟩ trivial k)⟩
    ·refine aN k q5<|bH<|aH<|aH ?_
     obtain rfl:=so h
     exact ⟨_,k,k,(aE (σ:=sg []) ⟨(e1 k k),trivial⟩ trivial k)⟩
   ·rintro e t ⟨rfl,hent⟩
    refine aX<|tn<|aO hent<|sQ<|rg<|am k k<|aa k k<|an<|tn<|aK ?_
    obtain rfl:=so h
    exact aT k k k (cS k)
def oP (a0:Int) (a1:Int):Option Int:=
 Option.bind (iB a0) fun v1=>
 bif !v1 then
 (some (0))
 else
 (Option.bind (qY a0 a1 (max (wr (a0 - 2)) 1)) fun v3=>
 some (v3))
theorem aDV (a0:Int) (a1:Int) (r:Int) (h:oP a0 a1=some r):HasC Tryz.prog 243 [.int a0,.int a1] (.int r):=by
 refine bN aA (rvs:=[.tmp 4]) (ns:=[0,1]) Tryz.func243 k k Tryz.ntmps243 k k k<|sQ<|rg<|aa k k<|an<|tn<|sQ<|sQ<|rg<|am k k ?_
 obtain ⟨v1,hv1,h⟩:=ob h
 refine ae (bE (lM a0 v1 hv1) k (aG (aM k) bG)) k<|ae (cH k) k<|an<|tn ?_
 rcases cb h with ⟨q2,h⟩|⟨q2,h⟩
 ·refine aJ k q2<|sQ<|rg<|aa k k<|an<|tn<|aK<|aI ?_
  obtain rfl:=so h
  exact aT k k k (cS k)
 ·refine aN k q2<|aR<|tn<|sQ<|rg<|am k k<|am k k<|am k k<|ae (jY k k) k<|ae (aRm k k) k ?_
  obtain ⟨v3,hv3,h⟩:=ob h
  refine ae (bE (aFY a0 a1 (max (wr (a0 - 2)) 1) v3 hv3) k (aG (aM k) (aG (aM k) (aG (aM k) bG)))) k<|aa k k<|an<|tn<|aK ?_
  obtain rfl:=so h
  exact aT k k k (cS k)
def pL (a0:(List Int)) (a1:Int) (x1:Int):Option (Int ⊕ (Unit ⊕ Int)):=
 bif decide (x1<(a0.length:Int)) then
 (Option.bind (dX a0 x1) fun v2=>
 bif decide (a1=v2) then
 (some (.inr (.inr (x1))))
 else
 (some (.inl (wr (x1+1)))))
 else
 (some (.inr (.inl ())))
def iL (a0:(List Int)) (a1:Int):Option Int:=
 Option.bind (Lp (pL a0 a1) 0) fun y4=>
 Sum.elim (fun y5=>
 some ((-1))
 )
 (fun y6=>
 some y6
 )
 y4
theorem aAG (a0:(List Int)) (a1:Int) (r:Int) (h:iL a0 a1=some r):HasC Tryz.prog 237 [.list 1 (List.map eI a0),.int a1] (.int r):=by
 refine bN aA (rvs:=[.tmp 4]) (ns:=[0,1]) Tryz.func237 k k Tryz.ntmps237 k k k<|sQ<|rg<|aa k k<|an<|tn<|sQ<|sQ<|rg<|am k k ?_
 refine ae (dG aA k k k) k<|am k k<|an<|tn<|aL ?_
 obtain ⟨y4,hy4,h⟩:=ob h
 refine cV (body:=(pL a0 a1)) hy4 (fun (x1:Int)=>bU [(0,.list 1 (List.map eI a0)),(1,.int a1),(7,.int (a0.length:Int)),(8,.int x1)] [] 0 [0,1]) (fun r e t=>Sum.elim (fun a=>(fun r e t=>e= .exit 0∧Ent t (bU [] [] 0 [0,1])) a e t) (fun b=>(fun r e t=>e= .ret∧nZ TT [.tmp 4] (.int r) .ret t) b e t) r) (aE (σ:=sg []) ⟨⟨_,k,⟨k,k⟩⟩,(e1 k k),(e1 k k),(e1 k k),trivial⟩ trivial k) ?_ ?_
 ·intro x1 o h
  refine sQ<|rg<|ae (bD k k k) k<|an<|tn<|sQ ?_
  rcases cb h with ⟨q1,h⟩|⟨q1,h⟩
  ·refine aJ k q1<|aR<|tn<|sQ<|aL<|sQ<|rg<|am k k<|aa k k<|an ?_
   refine tn<|sQ<|rg<|am k k<|am k k<|am k k ?_
   obtain ⟨v2,hv2,h⟩:=ob h
   refine ae (bJ aA hv2 k k k k k k) k<|ae (aW aA k k k k k k) k<|ae (bD k k k) k<|an<|tn ?_
   rcases cb h with ⟨q3,h⟩|⟨q3,h⟩
   ·refine aJ k q3<|sQ<|rg<|am k k<|aa k k<|an<|tn<|aK<|bB<|aI ?_
    refine aI ?_
    obtain rfl:=so h
    exact ⟨_,k,k,aT k k k (cS k)⟩
   ·refine aN k q3<|aR<|bF<|tn<|rg<|ae (bW k k) k<|am k k<|an<|tn ?_
    obtain rfl:=so h
    exact ⟨_,k,(aE (σ:=sg []) ⟨⟨_,k,⟨k,k⟩⟩,(e1 k k),(e1 k k),(e1 k k),trivial⟩ trivial k)⟩
  ·refine aN k q1<|bH<|aH<|aH ?_
   obtain rfl:=so h
   exact ⟨_,k,k,(aE (σ:=sg []) trivial trivial k)⟩
 ·intro e t hX
  rcases y4 with y5|y6
  ·obtain ⟨rfl,hent⟩:=hX
   refine aX<|tn<|aO hent<|sQ<|rg<|aa k k<|an<|tn<|aK ?_
   obtain rfl:=so h
   exact aT k k k (cS k)
  ·obtain ⟨rfl,hent⟩:=hX
   refine bB<|aI ?_
   obtain rfl:=so h
   exact hent
def gK (a0:(List Int)) (a1:Int):Option Bool:=
 Option.bind (iL a0 a1) fun v1=>
 some (decide (0≤v1))
theorem xM (a0:(List Int)) (a1:Int) (r:Bool) (h:gK a0 a1=some r):HasC Tryz.prog 208 [.list 1 (List.map eI a0),.int a1] (.bl r):=by
 refine bN aA (rvs:=[.tmp 4]) (ns:=[0,1]) Tryz.func208 k k Tryz.ntmps208 k k k<|sQ<|rg<|aa k k<|an<|tn<|sQ<|rg<|am k k<|am k k ?_
 obtain ⟨v1,hv1,h⟩:=ob h
 refine ae (bE (aAG a0 a1 v1 hv1) k (aG (aM k) (aG (aM k) bG))) k<|ae (bD k k k) k<|aa k k<|an<|tn<|aK ?_
 obtain rfl:=so h
 exact aT k k k (bT k)
def jQ (a0:Int) (a1:(List Int)) (x1:((List Int)×Int)):Option (((List Int)×Int) ⊕ (List Int)):=
 bif decide (x1.2<a0) then
 (Option.bind (gK a1 x1.2) fun v2=>
 bif !v2 then
 (bif decide (x1.1.length+[x1.2].length ≤4294967296) then
 (some (.inl ((x1.1++[x1.2]),wr (x1.2+1))))
 else none)
 else
 (some (.inl (x1.1,wr (x1.2+1)))))
 else
 (some (.inr x1.1))
def mO (a0:Int) (a1:(List Int)):Option (List Int):=
 Option.bind (Lp (jQ a0 a1) ([],0)) fun y5=>
 some (y5)
theorem aCT (a0:Int) (a1:(List Int)) (r:(List Int)) (h:mO a0 a1=some r):HasC Tryz.prog 152 [.int a0,.list 1 (List.map eI a1)] (.list 1 (List.map eI r)):=by
 refine bN aA (rvs:=[.tmp 4]) (ns:=[0,1,2,3,4]) Tryz.func152 k k Tryz.ntmps152 k k k<|sQ<|rg<|aa k k<|an<|tn<|sQ<|rg<|aa k k<|an ?_
 refine tn<|sQ<|sQ<|rg<|am k k<|am k k<|an<|tn<|aL ?_
 obtain ⟨y5,hy5,h⟩:=ob h
 refine cV (body:=(jQ a0 a1)) hy5 (fun (x1:((List Int)×Int))=>bU [(1,.list 1 (List.map eI a1)),(5,.own 0 0 x1.1.length),(7,.int a0),(8,.int x1.2)] [(0,⟨1,List.map (ow eI) x1.1⟩)] 1 [1,2,3,4]) (fun r e t=>e= .exit 0∧Ent t (bU [(5,.own 0 0 r.length)] [(0,⟨1,List.map (ow eI) r⟩)] 1 [1,2,3,4])) (aE (σ:=sg []) ⟨⟨_,k,⟨k,k⟩⟩,⟨_,k,⟨k,k,k,k⟩⟩,(e1 k k),(e1 k k),trivial⟩ (hX k k<|trivial) k) ?_ ?_
 ·intro x1 o h
  refine sQ<|rg<|ae (bD k k k) k<|an<|tn<|sQ ?_
  rcases cb h with ⟨q1,h⟩|⟨q1,h⟩
  ·refine aJ k q1<|aR<|tn<|sQ<|aL<|sQ<|rg<|am k k<|aa k k<|an ?_
   refine tn<|sQ<|rg<|am k k<|am k k ?_
   obtain ⟨v2,hv2,h⟩:=ob h
   refine ae (bE (xM a1 x1.2 v2 hv2) k (aG (aM k) (aG (aM k) bG))) k<|ae (cH k) k<|an<|tn ?_
   rcases cb h with ⟨q3,h⟩|⟨q3,h⟩
   ·refine aJ k q3<|rg<|am k k<|am k k<|ae (cW aA k k k k k k k k k k k k) k ?_
    obtain ⟨q4,h⟩:=cg h
    refine ae (xI aA (l:=x1.1) (m:=[x1.2]) uJ q4 k k k k k k k k k k k k) k<|aa k k<|an<|bF<|tn<|aO (t:=bU [(1,.list 1 (List.map eI a1)),(5,.own 2 0 ((x1.1++[x1.2]).length)),(7,.int a0),(8,.int x1.2)] [(2,⟨1,List.map (ow eI) (x1.1++[x1.2])⟩)] 3 [3,4]) (aE (σ:=sg [(2,2)]) ⟨⟨_,k,⟨k,k⟩⟩,(oE k k),(e1 k k),(e1 k k),trivial⟩ (hI k k k<|trivial) k)<|rg<|ae (bW k k) k<|am k k<|an ?_
    refine tn ?_
    obtain rfl:=so h
    exact ⟨_,k,(aE (σ:=sg [(0,2)]) ⟨⟨_,k,⟨k,k⟩⟩,(oE k k),(e1 k k),(e1 k k),trivial⟩ (hI k k k<|trivial) k)⟩
   ·refine aN k q3<|aR<|bF<|tn<|rg<|ae (bW k k) k<|am k k<|an<|tn ?_
    obtain rfl:=so h
    exact ⟨_,k,(aE (σ:=sg [(0,0)]) ⟨⟨_,k,⟨k,k⟩⟩,(oE k k),(e1 k k),(e1 k k),trivial⟩ (hI k k k<|trivial) k)⟩
  ·refine aN k q1<|bH<|aH<|aH ?_
   obtain rfl:=so h
   exact ⟨_,k,k,(aE (σ:=sg [(0,0)]) ⟨(oE k k),trivial⟩ (hI k k k<|trivial) k)⟩
 ·rintro e t ⟨rfl,hent⟩
  refine aX<|tn<|aO hent<|sQ<|rg<|am k k<|aa k k<|an<|tn<|aK ?_
  obtain rfl:=so h
  exact aT k k k (qU (jD dK k k))
def iM (a1:(List Int)) (x1:(Int×Int)):Option ((Int×Int) ⊕ (Int ⊕ Bool)):=
 bif decide (x1.2<(a1.length:Int)) then
 (Option.bind (dX a1 x1.2) fun v5=>
 Option.bind (fS v5 0 4) fun v6=>
 bif !v6 then
 (some (.inr (.inr (false))))
 else
 (Option.bind (dX a1 x1.2) fun v8=>
 some (.inl (wr (x1.1+v8),wr (x1.2+1)))))
 else
 (some (.inr (.inl x1.1)))
def tQ (a0:Qv) (a1:(List Int)):Option Bool:=
 Option.bind (qX a0) fun v1=>
 bif !v1 then
 (some (false))
 else
 (bif !decide ((a1.length:Int)=a0.n) then
 (some (false))
 else
 (Option.bind (Lp (iM a1) (0,0)) fun y9=>
 Sum.elim (fun y10=>
 some (decide (y10≤8))
 )
 (fun y11=>
 some y11
 )
 y9))
theorem aHA (a0:Qv) (a1:(List Int)) (r:Bool) (h:tQ a0 a1=some r):HasC Tryz.prog 162 [.agg (eQ a0),.list 1 (List.map eI a1)] (.bl r):=by
 refine bN aA (rvs:=[.tmp 4]) (ns:=[0,1,2]) Tryz.func162 k k Tryz.ntmps162 k k k<|sQ<|rg<|ae (cD k k k k) k<|aa k k<|an<|tn<|sQ<|sQ<|rg ?_
 refine ae (aC aA k k k k k k k) k ?_
 obtain ⟨v1,hv1,h⟩:=ob h
 refine ae (bE (aFW a0 v1 hv1) k (aG (cE (aU (aY k) (aU (aY k) (aU (aY k) cR)))) bG)) k<|ae (cH k) k<|am k k ?_
 rcases cb h with ⟨q2,h⟩|⟨q2,h⟩
 ·refine bA 10 k q2<|ak k k<|ak k k<|ak k k<|ak k k<|ak k k<|ae (aP k k) k<|an<|tn<|aO (t:=bU [(1,.list 1 (List.map eI a1)),(16,.bl true)] [] 1 [1,2]) (aE (σ:=sg []) ⟨⟨_,k,⟨k,k⟩⟩,(e1 k k),trivial⟩ trivial k) ?_
  refine aJ k k<|sQ<|rg<|aa k k<|an<|tn<|aK<|aI ?_
  obtain rfl:=so h
  exact aT k k k (bT k)
 ·refine bA 10 k q2<|am k k<|ae (dG aA k k k) k<|ae (aD aA k k k k k k k) k<|ae (aC aA k k k k k k k) k<|ae (bD k k k) k<|ae (aP k k) k<|an<|tn<|aO (t:=bU [(1,.list 1 (List.map eI a1)),(16,.bl (!decide ((a1.length:Int)=a0.n)))] [] 1 [1,2]) (aE (σ:=sg []) ⟨⟨_,k,⟨k,k⟩⟩,(e1 k k),trivial⟩ trivial k) ?_
  rcases cb h with ⟨q3,h⟩|⟨q3,h⟩
  ·refine aJ k q3<|sQ<|rg<|aa k k<|an<|tn<|aK<|aI ?_
   obtain rfl:=so h
   exact aT k k k (bT k)
  ·refine aN k q3<|aR<|tn<|sQ<|rg<|aa k k<|an<|tn<|sQ<|sQ ?_
   refine rg<|aa k k<|an<|tn<|aL ?_
   obtain ⟨y9,hy9,h⟩:=ob h
   refine cV (body:=(iM a1)) hy9 (fun (x1:(Int×Int))=>bU [(1,.list 1 (List.map eI a1)),(5,.int x1.1),(6,.int x1.2)] [] 0 [0,1,2]) (fun r e t=>Sum.elim (fun a=>(fun r e t=>e= .exit 0∧Ent t (bU [(5,.int r)] [] 0 [0,1,2])) a e t) (fun b=>(fun r e t=>e= .ret∧nZ TT [.tmp 4] (.bl r) .ret t) b e t) r) (aE (σ:=sg []) ⟨⟨_,k,⟨k,k⟩⟩,(e1 k k),(e1 k k),trivial⟩ trivial k) ?_ ?_
   ·intro x1 o h
    refine sQ<|sQ<|rg<|am k k<|am k k<|ae (dG aA k k k) k<|ae (bD k k k) k<|an<|tn ?_
    rcases cb h with ⟨q4,h⟩|⟨q4,h⟩
    ·refine aJ k q4<|aR<|tn<|sQ<|aL<|sQ<|sQ<|rg<|am k k<|am k k ?_
     obtain ⟨v5,hv5,h⟩:=ob h
     refine ae (bJ aA hv5 k k k k k k) k<|ae (aW aA k k k k k k) k ?_
     obtain ⟨v6,hv6,h⟩:=ob h
     refine ae (bE (gO v5 0 4 v6 hv6) k (aG (aM k) (aG (aM k) (aG (aM k) bG)))) k<|ae (cH k) k<|an<|tn ?_
     rcases cb h with ⟨q7,h⟩|⟨q7,h⟩
     ·refine aJ k q7<|sQ<|rg<|aa k k<|an<|tn<|aK<|aI<|bB<|aI ?_
      refine aI ?_
      obtain rfl:=so h
      exact ⟨_,k,k,aT k k k (bT k)⟩
     ·refine aN k q7<|aR<|tn<|rg<|am k k<|am k k<|am k k ?_
      obtain ⟨v8,hv8,h⟩:=ob h
      refine ae (bJ aA hv8 k k k k k k) k<|ae (aW aA k k k k k k) k<|ae (bW k k) k<|aa k k<|an<|bF<|tn<|aO (t:=bU [(1,.list 1 (List.map eI a1)),(5,.int (wr (x1.1+v8))),(6,.int x1.2)] [] 0 [0,1,2]) (aE (σ:=sg []) ⟨⟨_,k,⟨k,k⟩⟩,(e1 k k),(e1 k k),trivial⟩ trivial k)<|rg<|am k k ?_
      refine ae (bW k k) k<|aa k k<|an<|tn ?_
      obtain rfl:=so h
      exact ⟨_,k,(aE (σ:=sg []) ⟨⟨_,k,⟨k,k⟩⟩,(e1 k k),(e1 k k),trivial⟩ trivial k)⟩
    ·refine aN k q4<|bH<|aH<|aH ?_
     obtain rfl:=so h
     exact ⟨_,k,k,(aE (σ:=sg []) ⟨(e1 k k),trivial⟩ trivial k)⟩
   ·intro e t hX
    rcases y9 with y10|y11
    ·obtain ⟨rfl,hent⟩:=hX
     refine aX<|tn<|aO hent<|sQ<|rg<|am k k<|ae (bD k k k) k<|aa k k<|an<|tn ?_
     refine aK ?_
     obtain rfl:=so h
     exact aT k k k (bT k)
    ·obtain ⟨rfl,hent⟩:=hX
     refine bB<|aI ?_
     obtain rfl:=so h
     exact hent
def qZ (a0:Rp) (x1:Int):Option (Int ⊕ (Unit ⊕ Bool)):=
 bif decide (x1<(a0.maps.length:Int)) then
 (Option.bind (dX a0.maps x1) fun v7=>
 Option.bind (kD a0.p v7) fun v8=>
 bif !v8 then
 (some (.inr (.inr (false))))
 else
 (Option.bind (dX a0.maps x1) fun v10=>
 Option.bind (dX a0.q.src x1) fun v11=>
 Option.bind (dX a0.dims v11) fun v12=>
 bif !decide (v10.cols=v12) then
 (some (.inr (.inr (false))))
 else
 (Option.bind (dX a0.maps x1) fun v14=>
 Option.bind (dX a0.q.tgt x1) fun v15=>
 Option.bind (dX a0.dims v15) fun v16=>
 bif !decide (v14.rows=v16) then
 (some (.inr (.inr (false))))
 else
 (some (.inl (wr (x1+1)))))))
 else
 (some (.inr (.inl ())))
def tR (a0:Rp):Option Bool:=
 Option.bind (iA a0.p) fun v1=>
 bif !v1 then
 (some (false))
 else
 (Option.bind (tQ a0.q a0.dims) fun v3=>
 bif !v3 then
 (some (false))
 else
 (bif !decide ((a0.maps.length:Int)=(a0.q.src.length:Int)) then
 (some (false))
 else
 (Option.bind (Lp (qZ a0) 0) fun y18=>
 Sum.elim (fun y19=>
 some (true)
 )
 (fun y20=>
 some y20
 )
 y18)))
theorem aDW (a0:Rp) (r:Bool) (h:tR a0=some r):HasC Tryz.prog 110 [.agg (eR a0)] (.bl r):=by
 refine bN aA (rvs:=[.tmp 2]) (ns:=[0,1,2]) Tryz.func110 k k Tryz.ntmps110 k k k<|sQ<|rg<|ae (cD k k k k) k<|aa k k<|an<|tn<|sQ<|sQ<|rg ?_
 refine ae (aD aA k k k k k k k) k<|ae (aC aA k k k k k k k) k ?_
 obtain ⟨v1,hv1,h⟩:=ob h
 refine ae (bE (lL a0.p v1 hv1) k (aG (aM k) bG)) k<|ae (cH k) k<|am k k ?_
 rcases cb h with ⟨q2,h⟩|⟨q2,h⟩
 ·refine bA 8 k q2<|ak k k<|ak k k<|ak k k<|ak k k<|ak k k<|ak k k<|ae (aP k k) k<|am k k<|ak k k ?_
  refine ak k k<|ak k k<|ak k k<|ak k k<|ak k k<|ak k k<|ak k k<|ae (aP k k) k<|an<|tn ?_
  refine aO (t:=bU [(1,.ptr 0 0 0),(25,.bl true)] [(0,⟨6,[[.int a0.p,.int a0.q.n,.list 1 (List.map eI a0.q.src),.list 1 (List.map eI a0.q.tgt),.list 1 (List.map eI a0.dims),.list 3 (List.map eM a0.maps)]]⟩)] 1 [1,2]) (aE (σ:=sg [(0,0)]) ⟨(pE k k),(e1 k k),trivial⟩ (hP k k k k<|trivial) k)<|aJ k k<|sQ<|rg<|aa k k<|an<|tn<|aK<|aI ?_
  obtain rfl:=so h
  exact aT k k k (bT k)
 ·refine bA 8 k q2<|ae (aD aA k k k k k k k) k<|ae (aC aA k k k k k k k) k<|ae (aD aA k k k k k k k) k<|ae (aC aA k k k k k k k) k ?_
  obtain ⟨v3,hv3,h⟩:=ob h
  refine ae (bE (aHA a0.q a0.dims v3 hv3) k (aG (cE (aU (aY k) (aU (aY k) (aU (aY k) cR)))) (aG (aM k) bG))) k<|ae (cH k) k<|ae (aP k k) k<|am k k ?_
  rcases cb h with ⟨q4,h⟩|⟨q4,h⟩
  ·refine bA 16 k q4<|ak k k<|ak k k<|ak k k<|ak k k<|ak k k<|ak k k<|ak k k<|ak k k<|ae (aP k k) k ?_
   refine an<|tn<|aO (t:=bU [(1,.ptr 0 0 0),(25,.bl true)] [(0,⟨6,[[.int a0.p,.int a0.q.n,.list 1 (List.map eI a0.q.src),.list 1 (List.map eI a0.q.tgt),.list 1 (List.map eI a0.dims),.list 3 (List.map eM a0.maps)]]⟩)] 1 [1,2]) (aE (σ:=sg [(0,0)]) ⟨(pE k k),(e1 k k),trivial⟩ (hP k k k k<|trivial) k)<|aJ k k<|sQ<|rg<|aa k k<|an<|tn<|aK ?_
   refine aI ?_
   obtain rfl:=so h
   exact aT k k k (bT k)
  ·refine bA 16 k q4<|ae (aD aA k k k k k k k) k<|ae (aC aA k k k k k k k) k<|ae (dG aA k k k) k<|ae (aD aA k k k k k k k) k<|ae (aD aA k k k k k k k) k<|ae (aC aA k k k k k k k) k<|ae (dG aA k k k) k<|ae (bD k k k) k<|ae (aP k k) k ?_
   refine an<|tn<|aO (t:=bU [(1,.ptr 0 0 0),(25,.bl (!decide ((a0.maps.length:Int)=(a0.q.src.length:Int))))] [(0,⟨6,[[.int a0.p,.int a0.q.n,.list 1 (List.map eI a0.q.src),.list 1 (List.map eI a0.q.tgt),.list 1 (List.map eI a0.dims),.list 3 (List.map eM a0.maps)]]⟩)] 1 [1,2]) (aE (σ:=sg [(0,0)]) ⟨(pE k k),(e1 k k),trivial⟩ (hP k k k k<|trivial) k) ?_
   rcases cb h with ⟨q5,h⟩|⟨q5,h⟩
   ·refine aJ k q5<|sQ<|rg<|aa k k<|an<|tn<|aK<|aI ?_
    obtain rfl:=so h
    exact aT k k k (bT k)
   ·refine aN k q5<|aR<|tn<|sQ<|sQ<|rg<|aa k k<|an<|tn<|aL ?_
    obtain ⟨y18,hy18,h⟩:=ob h
    refine cV (body:=(qZ a0)) hy18 (fun (x1:Int)=>bU [(1,.ptr 0 0 0),(3,.int x1)] [(0,⟨6,[[.int a0.p,.int a0.q.n,.list 1 (List.map eI a0.q.src),.list 1 (List.map eI a0.q.tgt),.list 1 (List.map eI a0.dims),.list 3 (List.map eM a0.maps)]]⟩)] 1 [1,2]) (fun r e t=>Sum.elim (fun a=>(fun r e t=>e= .exit 0∧Ent t (bU [] [] 0 [0,1,2])) a e t) (fun b=>(fun r e t=>e= .ret∧nZ TT [.tmp 2] (.bl r) .ret t) b e t) r) (aE (σ:=sg [(0,0)]) ⟨(pE k k),(e1 k k),trivial⟩ (hP k k k k<|trivial) k) ?_ ?_
    ·intro x1 o h
     refine sQ<|sQ<|rg<|am k k<|ae (aD aA k k k k k k k) k<|ae (aC aA k k k k k k k) k<|ae (dG aA k k k) k<|ae (bD k k k) k<|an<|tn ?_
     rcases cb h with ⟨q6,h⟩|⟨q6,h⟩
     ·refine aJ k q6<|aR<|tn<|sQ<|aL<|sQ<|aZ kR<|ae (aD aA k k k k k k k) k<|ae (aC aA k k k k k k k) k<|ae (aD aA k k k k k k k) k ?_
      refine ae (aC aA k k k k k k k) k<|am k k ?_
      obtain ⟨v7,hv7,h⟩:=ob h
      refine ae (bJ aA hv7 k k k k k k) k<|ae (aW aA k k k k k k) k ?_
      obtain ⟨v8,hv8,h⟩:=ob h
      refine ae (bE (wB a0.p v7 v8 hv8) k (aG (aM k) (aG (cE (aU (aY k) (aU (aY k) (aU (aY k) cR)))) bG))) k<|ae (cH k) k<|am k k ?_
      rcases cb h with ⟨q9,h⟩|⟨q9,h⟩
      ·refine bA 42 k q9<|ak k k<|ak k k<|ak k k<|ak k k<|ak k k<|ak k k<|ak k k<|ak k k<|ak k k ?_
       refine ak k k<|ak k k<|ak k k<|ak k k<|ak k k<|ak k k<|ak k k<|ak k k<|ae (aP k k) k<|am k k ?_
       refine ak k k<|ak k k<|ak k k<|ak k k<|ak k k<|ak k k<|ak k k<|ak k k<|ak k k<|ak k k ?_
       refine ak k k<|ak k k<|ak k k<|ak k k<|ak k k<|ak k k<|ak k k<|ae (aP k k) k<|an ?_
       refine ⟨by kernel_rfl,?_⟩
       refine tn<|aO (t:=bU [(1,.ptr 0 0 0),(3,.int x1),(79,.bl true)] [(0,⟨6,[[.int a0.p,.int a0.q.n,.list 1 (List.map eI a0.q.src),.list 1 (List.map eI a0.q.tgt),.list 1 (List.map eI a0.dims),.list 3 (List.map eM a0.maps)]]⟩)] 1 [1,2]) (aE (σ:=sg [(0,0)]) ⟨(pE k k),(e1 k k),(e1 k k),trivial⟩ (hP k k k k<|trivial) k)<|aJ k k<|sQ<|rg<|aa k k<|an<|tn<|aK<|bB ?_
       refine aI<|aI ?_
       obtain rfl:=so h
       exact ⟨_,k,k,aT k k k (bT k)⟩
      ·refine bA 42 k q9<|ae (aD aA k k k k k k k) k<|ae (aC aA k k k k k k k) k<|am k k ?_
       obtain ⟨v10,hv10,h⟩:=ob h
       refine ae (bJ aA hv10 k k k k k k) k<|ae (cB aA k k k k k k) k<|ae (aW aA k k k k k k) k<|ae (aD aA k k k k k k k) k<|ae (aC aA k k k k k k k) k<|ae (aD aA k k k k k k k) k<|ae (aD aA k k k k k k k) k<|ae (aC aA k k k k k k k) k<|am k k ?_
       obtain ⟨v11,hv11,h⟩:=ob h
       refine ae (bJ aA hv11 k k k k k k) k<|ae (aW aA k k k k k k) k ?_
       obtain ⟨v12,hv12,h⟩:=ob h
       refine ae (bJ aA hv12 k k k k k k) k<|ae (aW aA k k k k k k) k<|ae (bD k k k) k<|ae (aP k k) k<|am k k ?_
       rcases cb h with ⟨q13,h⟩|⟨q13,h⟩
       ·refine bA 61 k q13<|ak k k<|ak k k<|ak k k<|ak k k<|ak k k<|ak k k<|ak k k<|ak k k<|ak k k ?_
        refine ak k k<|ak k k<|ak k k<|ak k k<|ak k k<|ak k k<|ak k k<|ak k k<|ae (aP k k) k<|an ?_
        refine ⟨by kernel_rfl,?_⟩
        refine tn<|aO (t:=bU [(1,.ptr 0 0 0),(3,.int x1),(79,.bl true)] [(0,⟨6,[[.int a0.p,.int a0.q.n,.list 1 (List.map eI a0.q.src),.list 1 (List.map eI a0.q.tgt),.list 1 (List.map eI a0.dims),.list 3 (List.map eM a0.maps)]]⟩)] 1 [1,2]) (aE (σ:=sg [(0,0)]) ⟨(pE k k),(e1 k k),(e1 k k),trivial⟩ (hP k k k k<|trivial) k)<|aJ k k<|sQ<|rg<|aa k k<|an<|tn<|aK<|bB ?_
        refine aI<|aI ?_
        obtain rfl:=so h
        exact ⟨_,k,k,aT k k k (bT k)⟩
       ·refine bA 61 k q13<|ae (aD aA k k k k k k k) k<|ae (aC aA k k k k k k k) k<|am k k ?_
        obtain ⟨v14,hv14,h⟩:=ob h
        refine ae (bJ aA hv14 k k k k k k) k<|ae (cB aA k k k k k k) k<|ae (aW aA k k k k k k) k<|ae (aD aA k k k k k k k) k<|ae (aC aA k k k k k k k) k<|ae (aD aA k k k k k k k) k<|ae (aD aA k k k k k k k) k<|ae (aC aA k k k k k k k) k<|am k k ?_
        obtain ⟨v15,hv15,h⟩:=ob h
        refine ae (bJ aA hv15 k k k k k k) k<|ae (aW aA k k k k k k) k ?_
        obtain ⟨v16,hv16,h⟩:=ob h
        refine ae (bJ aA hv16 k k k k k k) k<|ae (aW aA k k k k k k) k<|ae (bD k k k) k<|ae (aP k k) k<|an ?_
        refine ⟨by kernel_rfl,?_⟩
        refine tn<|aO (t:=bU [(1,.ptr 0 0 0),(3,.int x1),(79,.bl (!decide (v14.rows=v16)))] [(0,⟨6,[[.int a0.p,.int a0.q.n,.list 1 (List.map eI a0.q.src),.list 1 (List.map eI a0.q.tgt),.list 1 (List.map eI a0.dims),.list 3 (List.map eM a0.maps)]]⟩)] 1 [1,2]) (aE (σ:=sg [(0,0)]) ⟨(pE k k),(e1 k k),(e1 k k),trivial⟩ (hP k k k k<|trivial) k) ?_
        rcases cb h with ⟨q17,h⟩|⟨q17,h⟩
        ·refine aJ k q17<|sQ<|rg<|aa k k<|an<|tn<|aK<|bB<|aI<|aI ?_
         obtain rfl:=so h
         exact ⟨_,k,k,aT k k k (bT k)⟩
        ·refine aN k q17<|aR<|bF<|tn<|rg<|am k k<|ae (bW k k) k<|aa k k<|an<|tn ?_
         obtain rfl:=so h
         exact ⟨_,k,(aE (σ:=sg [(0,0)]) ⟨(pE k k),(e1 k k),trivial⟩ (hP k k k k<|trivial) k)⟩
     ·refine aN k q6<|bH<|aH<|aH ?_
      obtain rfl:=so h
      exact ⟨_,k,k,(aE (σ:=sg []) trivial trivial k)⟩
    ·intro e t hX
     rcases y18 with y19|y20
     ·obtain ⟨rfl,hent⟩:=hX
      refine aX<|tn<|aO hent<|sQ<|rg<|aa k k<|an<|tn<|aK ?_
      obtain rfl:=so h
      exact aT k k k (bT k)
     ·obtain ⟨rfl,hent⟩:=hX
      refine bB<|aI ?_
      obtain rfl:=so h
      exact hent
end
noncomputable section
set_option maxRecDepth 10000
set_option maxHeartbeats 4000000
def cZ (a0:(List Int)) (a1:(Int→Option Bool)) (x1:Int):Option (Int ⊕ (Unit ⊕ Int)):=
 bif decide (x1<(a0.length:Int)) then
 (Option.bind (dX a0 x1) fun v2=>
 Option.bind (a1 v2) fun v3=>
 bif v3 then
 (some (.inr (.inr (x1))))
 else
 (some (.inl (wr (x1+1)))))
 else
 (some (.inr (.inl ())))
def dS (a0:(List Int)) (a1:(Int→Option Bool)):Option Int:=
 Option.bind (Lp (cZ a0 a1) 0) fun y5=>
 Sum.elim (fun y6=>
 some ((-1))
 )
 (fun y7=>
 some y7
 )
 y5
theorem oS (a0:(List Int)) (a1:(Int→Option Bool)) {f1:FuncId} {c1:List AV} (hc1:c1.all eP=true) (hf1: ∀ b0 r,a1 b0=some r→HasC Tryz.prog f1 ([.int b0]++c1) (.bl r)) (r:Int) (h:dS a0 a1=some r):HasC Tryz.prog 227 [.list 1 (List.map eI a0),.fn f1 c1] (.int r):=by
 refine bN aA (rvs:=[.tmp 4]) (ns:=[0,1]) Tryz.func227 k k Tryz.ntmps227 k k (oN k (oN hc1 aEV))<|sQ<|rg<|aa k k<|an<|tn<|sQ<|sQ<|rg<|am k k ?_
 refine ae (dG aA k k k) k<|am k k<|an<|tn<|aL ?_
 obtain ⟨y5,hy5,h⟩:=ob h
 refine cV (body:=(cZ a0 a1)) hy5 (fun (x1:Int)=>bU [(0,.list 1 (List.map eI a0)),(1,.fn f1 c1),(7,.int (a0.length:Int)),(8,.int x1)] [] 0 [0,1]) (fun r e t=>Sum.elim (fun a=>(fun r e t=>e= .exit 0∧Ent t (bU [] [] 0 [0,1])) a e t) (fun b=>(fun r e t=>e= .ret∧nZ TT [.tmp 4] (.int r) .ret t) b e t) r) (aE (σ:=sg []) ⟨⟨_,k,⟨k,k⟩⟩,⟨_,k,⟨k,nP _ hc1⟩⟩,(e1 k k),(e1 k k),trivial⟩ trivial k) ?_ ?_
 ·intro x1 o h
  refine sQ<|rg<|ae (bD k k k) k<|an<|tn<|sQ ?_
  rcases cb h with ⟨q1,h⟩|⟨q1,h⟩
  ·refine aJ k q1<|aR<|tn<|sQ<|aL<|sQ<|rg<|am k k<|aa k k<|an ?_
   refine tn<|sQ<|rg<|am k k<|am k k<|am k k ?_
   obtain ⟨v2,hv2,h⟩:=ob h
   refine ae (bJ aA hv2 k k k k k k) k<|ae (aW aA k k k k k k) k ?_
   obtain ⟨v3,hv3,h⟩:=ob h
   refine ae (aDI hc1 (hf1 v2 v3 hv3) k k (aG (aM k) bG)) k<|an<|tn ?_
   rcases cb h with ⟨q4,h⟩|⟨q4,h⟩
   ·refine aJ k q4<|sQ<|rg<|am k k<|aa k k<|an<|tn<|aK<|bB<|aI ?_
    refine aI ?_
    obtain rfl:=so h
    exact ⟨_,k,k,aT k k k (cS k)⟩
   ·refine aN k q4<|aR<|bF<|tn<|rg<|ae (bW k k) k<|am k k<|an<|tn ?_
    obtain rfl:=so h
    exact ⟨_,k,(aE (σ:=sg []) ⟨⟨_,k,⟨k,k⟩⟩,⟨_,k,⟨k,nP _ hc1⟩⟩,(e1 k k),(e1 k k),trivial⟩ trivial k)⟩
  ·refine aN k q1<|bH<|aH<|aH ?_
   obtain rfl:=so h
   exact ⟨_,k,k,(aE (σ:=sg []) trivial trivial k)⟩
 ·intro e t hX
  rcases y5 with y6|y7
  ·obtain ⟨rfl,hent⟩:=hX
   refine aX<|tn<|aO hent<|sQ<|rg<|aa k k<|an<|tn<|aK ?_
   obtain rfl:=so h
   exact aT k k k (cS k)
  ·obtain ⟨rfl,hent⟩:=hX
   refine bB<|aI ?_
   obtain rfl:=so h
   exact hent
def gW (a0:(List Int)) (a1:(Int→Option Bool)):Option Bool:=
 Option.bind (dS a0 a1) fun v1=>
 some (decide (0≤v1))
theorem uU (a0:(List Int)) (a1:(Int→Option Bool)) {f1:FuncId} {c1:List AV} (hc1:c1.all eP=true) (hf1: ∀ b0 r,a1 b0=some r→HasC Tryz.prog f1 ([.int b0]++c1) (.bl r)) (r:Bool) (h:gW a0 a1=some r):HasC Tryz.prog 186 [.list 1 (List.map eI a0),.fn f1 c1] (.bl r):=by
 refine bN aA (rvs:=[.tmp 4]) (ns:=[0,1]) Tryz.func186 k k Tryz.ntmps186 k k (oN k (oN hc1 aEV))<|sQ<|rg<|aa k k<|an<|tn<|sQ<|rg<|am k k<|am k k ?_
 obtain ⟨v1,hv1,h⟩:=ob h
 refine ae (bE (oS a0 a1 hc1 hf1 v1 hv1) k (aG (aM k) (aG (aOl hc1) bG))) k<|ae (bD k k k) k<|aa k k<|an<|tn<|aK ?_
 obtain rfl:=so h
 exact aT k k k (bT k)
def fD (a0:(List (List Int))) (a1:((List Int)→Option Bool)) (x1:Int):Option (Int ⊕ (Unit ⊕ Int)):=
 bif decide (x1<(a0.length:Int)) then
 (Option.bind (dX a0 x1) fun v2=>
 Option.bind (a1 v2) fun v3=>
 bif v3 then
 (some (.inr (.inr (x1))))
 else
 (some (.inl (wr (x1+1)))))
 else
 (some (.inr (.inl ())))
def iC (a0:(List (List Int))) (a1:((List Int)→Option Bool)):Option Int:=
 Option.bind (Lp (fD a0 a1) 0) fun y5=>
 Sum.elim (fun y6=>
 some ((-1))
 )
 (fun y7=>
 some y7
 )
 y5
theorem vO (a0:(List (List Int))) (a1:((List Int)→Option Bool)) {f1:FuncId} {c1:List AV} (hc1:c1.all eP=true) (hf1: ∀ b0 r,a1 b0=some r→HasC Tryz.prog f1 ([.list 1 (List.map eI b0)]++c1) (.bl r)) (r:Int) (h:iC a0 a1=some r):HasC Tryz.prog 261 [.list 1 (List.map (cU 1 eI) a0),.fn f1 c1] (.int r):=by
 refine bN aA (rvs:=[.tmp 4]) (ns:=[0,1]) Tryz.func261 k k Tryz.ntmps261 k k (oN k (oN hc1 aEV))<|sQ<|rg<|aa k k<|an<|tn<|sQ<|sQ<|rg<|am k k ?_
 refine ae (dG aA k k k) k<|am k k<|an<|tn<|aL ?_
 obtain ⟨y5,hy5,h⟩:=ob h
 refine cV (body:=(fD a0 a1)) hy5 (fun (x1:Int)=>bU [(0,.list 1 (List.map (cU 1 eI) a0)),(1,.fn f1 c1),(7,.int (a0.length:Int)),(8,.int x1)] [] 0 [0,1]) (fun r e t=>Sum.elim (fun a=>(fun r e t=>e= .exit 0∧Ent t (bU [] [] 0 [0,1])) a e t) (fun b=>(fun r e t=>e= .ret∧nZ TT [.tmp 4] (.int r) .ret t) b e t) r) (aE (σ:=sg []) ⟨⟨_,k,⟨k,k⟩⟩,⟨_,k,⟨k,nP _ hc1⟩⟩,(e1 k k),(e1 k k),trivial⟩ trivial k) ?_ ?_
 ·intro x1 o h
  refine sQ<|rg<|ae (bD k k k) k<|an<|tn<|sQ ?_
  rcases cb h with ⟨q1,h⟩|⟨q1,h⟩
  ·refine aJ k q1<|aR<|tn<|sQ<|aL<|sQ<|rg<|am k k<|aa k k<|an ?_
   refine tn<|sQ<|rg<|am k k<|am k k<|am k k ?_
   obtain ⟨v2,hv2,h⟩:=ob h
   refine ae (bJ aA hv2 k k k k k k) k<|ae (aW aA k k k k k k) k ?_
   obtain ⟨v3,hv3,h⟩:=ob h
   refine ae (aDI hc1 (hf1 v2 v3 hv3) k k (aG (aM k) bG)) k<|an<|tn ?_
   rcases cb h with ⟨q4,h⟩|⟨q4,h⟩
   ·refine aJ k q4<|sQ<|rg<|am k k<|aa k k<|an<|tn<|aK<|bB<|aI ?_
    refine aI ?_
    obtain rfl:=so h
    exact ⟨_,k,k,aT k k k (cS k)⟩
   ·refine aN k q4<|aR<|bF<|tn<|rg<|ae (bW k k) k<|am k k<|an<|tn ?_
    obtain rfl:=so h
    exact ⟨_,k,(aE (σ:=sg []) ⟨⟨_,k,⟨k,k⟩⟩,⟨_,k,⟨k,nP _ hc1⟩⟩,(e1 k k),(e1 k k),trivial⟩ trivial k)⟩
  ·refine aN k q1<|bH<|aH<|aH ?_
   obtain rfl:=so h
   exact ⟨_,k,k,(aE (σ:=sg []) trivial trivial k)⟩
 ·intro e t hX
  rcases y5 with y6|y7
  ·obtain ⟨rfl,hent⟩:=hX
   refine aX<|tn<|aO hent<|sQ<|rg<|aa k k<|an<|tn<|aK ?_
   obtain rfl:=so h
   exact aT k k k (cS k)
  ·obtain ⟨rfl,hent⟩:=hX
   refine bB<|aI ?_
   obtain rfl:=so h
   exact hent
def eG (a0:(List (List Int))) (a1:((List Int)→Option Bool)):Option Bool:=
 Option.bind (iC a0 a1) fun v1=>
 some (decide (0≤v1))
theorem kN (a0:(List (List Int))) (a1:((List Int)→Option Bool)) {f1:FuncId} {c1:List AV} (hc1:c1.all eP=true) (hf1: ∀ b0 r,a1 b0=some r→HasC Tryz.prog f1 ([.list 1 (List.map eI b0)]++c1) (.bl r)) (r:Bool) (h:eG a0 a1=some r):HasC Tryz.prog 234 [.list 1 (List.map (cU 1 eI) a0),.fn f1 c1] (.bl r):=by
 refine bN aA (rvs:=[.tmp 4]) (ns:=[0,1]) Tryz.func234 k k Tryz.ntmps234 k k (oN k (oN hc1 aEV))<|sQ<|rg<|aa k k<|an<|tn<|sQ<|rg<|am k k<|am k k ?_
 obtain ⟨v1,hv1,h⟩:=ob h
 refine ae (bE (vO a0 a1 hc1 hf1 v1 hv1) k (aG (aM k) (aG (aOl hc1) bG))) k<|ae (bD k k k) k<|aa k k<|an<|tn<|aK ?_
 obtain rfl:=so h
 exact aT k k k (bT k)
def jI (a0:Int) (a1:Int) (a2:Int):Option Bool:=
 Option.bind (gY a0 a1 a2) fun v1=>
 some (!v1)
theorem aCU (a0:Int) (a1:Int) (a2:Int) (r:Bool) (h:jI a0 a1 a2=some r):HasC Tryz.prog 187 [.int a0,.ref (eI a1),.ref (eI a2)] (.bl r):=by
 refine bN aA (rvs:=[.tmp 4]) (ns:=[0,1]) Tryz.func187 k k Tryz.ntmps187 k k k<|sQ<|rg<|aa k k<|an<|tn<|sQ<|rg<|am k k<|ae (aW aA k k k k k k) k ?_
 refine ae (aW aA k k k k k k) k ?_
 obtain ⟨v1,hv1,h⟩:=ob h
 refine ae (bE (kS a0 a1 a2 v1 hv1) k (aG (aM k) (aG (aM k) (aG (aM k) bG)))) k<|ae (cH k) k<|aa k k<|an<|tn<|aK ?_
 obtain rfl:=so h
 exact aT k k k (bT k)
def gC (a0:(List Int)) (a1:Int) (a2:Int):Option Bool:=
 Option.bind (gW a0 (fun b0=>jI b0 a1 a2)) fun v1=>
 some (!v1)
theorem lO (a0:(List Int)) (a1:Int) (a2:Int) (r:Bool) (h:gC a0 a1 a2=some r):HasC Tryz.prog 138 [.list 1 (List.map eI a0),.int a1,.int a2] (.bl r):=by
 refine bN aA (rvs:=[.tmp 6]) (ns:=[0,1,2,3]) Tryz.func138 k k Tryz.ntmps138 k k k<|sQ<|rg<|ae (cD k k k k) k<|ae (cD k k k k) k<|aa k k<|an<|tn<|sQ<|rg ?_
 refine am k k<|ae (aAO (vs:=[.ptr 0 0 0,.ptr 1 0 0]) k (by simp)) k ?_
 obtain ⟨v1,hv1,h⟩:=ob h
 refine ae (bE (uU a0 (fun b0=>jI b0 a1 a2) k (fun b0 r h=>aCU b0 a1 a2 r h) v1 hv1) k (aG (aM k) (aG (aIT (aBb (aEP k k (aU (aY k) cR)) (aBb (aEP k k (aU (aY k) cR)) aBa))) bG))) k<|ae (cH k) k<|aa k k<|an<|tn<|aK ?_
 obtain rfl:=so h
 exact aT k k k (bT k)
def nK (a0:Int) (a1:(List Int)):Option Bool:=
 Option.bind (iB a0) fun v1=>
 bif v1 then
 (bif decide ((a1.length:Int)≤64) then
 (Option.bind (gC a1 0 (wr (a0 - 1))) fun v4=>
 some (v4))
 else
 (some (false)))
 else
 (some (false))
theorem aAj (a0:Int) (a1:(List Int)) (r:Bool) (h:nK a0 a1=some r):HasC Tryz.prog 204 [.int a0,.list 1 (List.map eI a1)] (.bl r):=by
 refine bN aA (rvs:=[.tmp 4]) (ns:=[0,1]) Tryz.func204 k k Tryz.ntmps204 k k k<|sQ<|rg<|aa k k<|an<|tn<|sQ<|rg<|am k k ?_
 obtain ⟨v1,hv1,h⟩:=ob h
 refine ae (bE (lM a0 v1 hv1) k (aG (aM k) bG)) k<|am k k ?_
 rcases cb h with ⟨q2,h⟩|⟨q2,h⟩
 ·refine bA 7 k q2<|am k k<|ae (dG aA k k k) k<|ae (bD k k k) k<|ae (aP k k) k<|am k k ?_
  rcases cb h with ⟨q3,h⟩|⟨q3,h⟩
  ·refine bA 12 k q3<|am k k<|am k k<|ae (jY k k) k ?_
   obtain ⟨v4,hv4,h⟩:=ob h
   refine ae (bE (lO a1 0 (wr (a0 - 1)) v4 hv4) k (aG (aM k) (aG (aM k) (aG (aM k) bG)))) k<|ae (aP k k) k<|aa k k<|an<|tn<|aO (t:=bU [(4,.bl v4)] [] 0 [0,1]) (aE (σ:=sg []) ⟨(e1 k k),trivial⟩ trivial k)<|aK ?_
   obtain rfl:=so h
   exact aT k k k (bT k)
  ·refine bA 12 k q3<|ak k k<|ak k k<|ak k k<|ak k k<|ae (aP k k) k<|aa k k<|an<|tn<|aO (t:=bU [(4,.bl false)] [] 0 [0,1]) (aE (σ:=sg []) ⟨(e1 k k),trivial⟩ trivial k) ?_
   refine aK ?_
   obtain rfl:=so h
   exact aT k k k (bT k)
 ·refine bA 7 k q2<|ak k k<|ak k k<|ak k k<|ae (aP k k) k<|am k k<|ak k k<|ak k k<|ak k k<|ak k k ?_
  refine ae (aP k k) k<|aa k k<|an<|tn<|aO (t:=bU [(4,.bl false)] [] 0 [0,1]) (aE (σ:=sg []) ⟨(e1 k k),trivial⟩ trivial k)<|aK ?_
  obtain rfl:=so h
  exact aT k k k (bT k)
def rA (a0:Int) (a1:Mt):Option Bool:=
 Option.bind (gY a1.rows 0 8) fun v1=>
 bif v1 then
 (Option.bind (gY a1.cols 0 8) fun v3=>
 bif v3 then
 (bif decide ((a1.cells.length:Int)=wr (a1.rows*a1.cols)) then
 (Option.bind (nK a0 a1.cells) fun v6=>
 some (v6))
 else
 (some (false)))
 else
 (some (false)))
 else
 (some (false))
theorem aFZ (a0:Int) (a1:Mt) (r:Bool) (h:rA a0 a1=some r):HasC Tryz.prog 148 [.int a0,.agg (eM a1)] (.bl r):=by
 refine bN aA (rvs:=[.tmp 4]) (ns:=[0,1,2]) Tryz.func148 k k Tryz.ntmps148 k k k<|sQ<|rg<|ae (cD k k k k) k<|aa k k<|an<|tn<|sQ<|rg<|ae (aD aA k k k k k k k) k ?_
 refine ae (aC aA k k k k k k k) k ?_
 obtain ⟨v1,hv1,h⟩:=ob h
 refine ae (bE (kS a1.rows 0 8 v1 hv1) k (aG (aM k) (aG (aM k) (aG (aM k) bG)))) k<|am k k ?_
 rcases cb h with ⟨q2,h⟩|⟨q2,h⟩
 ·refine bA 8 k q2<|ae (aD aA k k k k k k k) k<|ae (aC aA k k k k k k k) k ?_
  obtain ⟨v3,hv3,h⟩:=ob h
  refine ae (bE (kS a1.cols 0 8 v3 hv3) k (aG (aM k) (aG (aM k) (aG (aM k) bG)))) k<|ae (aP k k) k<|am k k ?_
  rcases cb h with ⟨q4,h⟩|⟨q4,h⟩
  ·refine bA 13 k q4<|ae (aD aA k k k k k k k) k<|ae (aC aA k k k k k k k) k<|ae (dG aA k k k) k<|ae (aD aA k k k k k k k) k<|ae (aC aA k k k k k k k) k<|ae (aD aA k k k k k k k) k<|ae (aC aA k k k k k k k) k<|ae (gN k k) k<|ae (bD k k k) k ?_
   refine ae (aP k k) k<|am k k ?_
   rcases cb h with ⟨q5,h⟩|⟨q5,h⟩
   ·refine bA 24 k q5<|am k k<|ae (aD aA k k k k k k k) k<|ae (aC aA k k k k k k k) k ?_
    obtain ⟨v6,hv6,h⟩:=ob h
    refine ae (bE (aAj a0 a1.cells v6 hv6) k (aG (aM k) (aG (aM k) bG))) k<|ae (aP k k) k<|aa k k<|an<|tn<|aO (t:=bU [(4,.bl v6)] [] 1 [1,2]) (aE (σ:=sg []) ⟨(e1 k k),trivial⟩ trivial k)<|aK ?_
    obtain rfl:=so h
    exact aT k k k (bT k)
   ·refine bA 24 k q5<|ak k k<|ak k k<|ak k k<|ak k k<|ae (aP k k) k<|aa k k<|an<|tn<|aO (t:=bU [(4,.bl false)] [] 1 [1,2]) (aE (σ:=sg []) ⟨(e1 k k),trivial⟩ trivial k) ?_
    refine aK ?_
    obtain rfl:=so h
    exact aT k k k (bT k)
  ·refine bA 13 k q4<|ak k k<|ak k k<|ak k k<|ak k k<|ak k k<|ak k k<|ak k k<|ak k k<|ak k k ?_
   refine ae (aP k k) k<|am k k<|ak k k<|ak k k<|ak k k<|ak k k<|ae (aP k k) k<|aa k k<|an<|tn ?_
   refine aO (t:=bU [(4,.bl false)] [] 1 [1,2]) (aE (σ:=sg []) ⟨(e1 k k),trivial⟩ trivial k)<|aK ?_
   obtain rfl:=so h
   exact aT k k k (bT k)
 ·refine bA 8 k q2<|ak k k<|ak k k<|ak k k<|ae (aP k k) k<|am k k<|ak k k<|ak k k<|ak k k<|ak k k ?_
  refine ak k k<|ak k k<|ak k k<|ak k k<|ak k k<|ae (aP k k) k<|am k k<|ak k k<|ak k k<|ak k k ?_
  refine ak k k<|ae (aP k k) k<|aa k k<|an<|tn<|aO (t:=bU [(4,.bl false)] [] 1 [1,2]) (aE (σ:=sg []) ⟨(e1 k k),trivial⟩ trivial k)<|aK ?_
  obtain rfl:=so h
  exact aT k k k (bT k)
def rB (a0:Qv):Option Bool:=
 Option.bind (gY a0.n 1 5) fun v1=>
 bif v1 then
 (bif decide ((a0.src.length:Int)=(a0.tgt.length:Int)) then
 (bif decide ((a0.src.length:Int)≤6) then
 (Option.bind (gC a0.src 0 (wr (a0.n - 1))) fun v5=>
 bif v5 then
 (Option.bind (gC a0.tgt 0 (wr (a0.n - 1))) fun v7=>
 some (v7))
 else
 (some (false)))
 else
 (some (false)))
 else
 (some (false)))
 else
 (some (false))
theorem aFa (a0:Qv) (r:Bool) (h:rB a0=some r):HasC Tryz.prog 203 [.agg (eQ a0)] (.bl r):=by
 refine bN aA (rvs:=[.tmp 2]) (ns:=[0,1,2]) Tryz.func203 k k Tryz.ntmps203 k k k<|sQ<|rg<|ae (cD k k k k) k<|aa k k<|an<|tn<|sQ<|rg<|ae (aD aA k k k k k k k) k ?_
 refine ae (aC aA k k k k k k k) k ?_
 obtain ⟨v1,hv1,h⟩:=ob h
 refine ae (bE (kS a0.n 1 5 v1 hv1) k (aG (aM k) (aG (aM k) (aG (aM k) bG)))) k<|am k k ?_
 rcases cb h with ⟨q2,h⟩|⟨q2,h⟩
 ·refine bA 6 k q2<|ae (aD aA k k k k k k k) k<|ae (aC aA k k k k k k k) k<|ae (dG aA k k k) k<|ae (aD aA k k k k k k k) k<|ae (aC aA k k k k k k k) k<|ae (dG aA k k k) k<|ae (bD k k k) k<|ae (aP k k) k<|am k k ?_
  rcases cb h with ⟨q3,h⟩|⟨q3,h⟩
  ·refine bA 15 k q3<|ae (aD aA k k k k k k k) k<|ae (aC aA k k k k k k k) k<|ae (dG aA k k k) k<|ae (bD k k k) k<|ae (aP k k) k<|am k k ?_
   rcases cb h with ⟨q4,h⟩|⟨q4,h⟩
   ·refine bA 21 k q4<|ae (aD aA k k k k k k k) k<|ae (aC aA k k k k k k k) k<|ae (aD aA k k k k k k k) k<|ae (aC aA k k k k k k k) k<|ae (jY k k) k ?_
    obtain ⟨v5,hv5,h⟩:=ob h
    refine ae (bE (lO a0.src 0 (wr (a0.n - 1)) v5 hv5) k (aG (aM k) (aG (aM k) (aG (aM k) bG)))) k<|ae (aP k k) k<|am k k ?_
    rcases cb h with ⟨q6,h⟩|⟨q6,h⟩
    ·refine bA 29 k q6<|ae (aD aA k k k k k k k) k<|ae (aC aA k k k k k k k) k<|ae (aD aA k k k k k k k) k<|ae (aC aA k k k k k k k) k<|ae (jY k k) k ?_
     obtain ⟨v7,hv7,h⟩:=ob h
     refine ae (bE (lO a0.tgt 0 (wr (a0.n - 1)) v7 hv7) k (aG (aM k) (aG (aM k) (aG (aM k) bG)))) k<|ae (aP k k) k<|aa k k<|an<|tn<|aO (t:=bU [(2,.bl v7)] [] 1 [1,2]) (aE (σ:=sg []) ⟨(e1 k k),trivial⟩ trivial k)<|aK ?_
     obtain rfl:=so h
     exact aT k k k (bT k)
    ·refine bA 29 k q6<|ak k k<|ak k k<|ak k k<|ak k k<|ak k k<|ak k k<|ae (aP k k) k<|aa k k<|an ?_
     refine tn<|aO (t:=bU [(2,.bl false)] [] 1 [1,2]) (aE (σ:=sg []) ⟨(e1 k k),trivial⟩ trivial k)<|aK ?_
     obtain rfl:=so h
     exact aT k k k (bT k)
   ·refine bA 21 k q4<|ak k k<|ak k k<|ak k k<|ak k k<|ak k k<|ak k k<|ae (aP k k) k<|am k k<|ak k k ?_
    refine ak k k<|ak k k<|ak k k<|ak k k<|ak k k<|ae (aP k k) k<|aa k k<|an<|tn<|aO (t:=bU [(2,.bl false)] [] 1 [1,2]) (aE (σ:=sg []) ⟨(e1 k k),trivial⟩ trivial k) ?_
    refine aK ?_
    obtain rfl:=so h
    exact aT k k k (bT k)
  ·refine bA 15 k q3<|ak k k<|ak k k<|ak k k<|ak k k<|ae (aP k k) k<|am k k<|ak k k<|ak k k<|ak k k ?_
   refine ak k k<|ak k k<|ak k k<|ae (aP k k) k<|am k k<|ak k k<|ak k k<|ak k k<|ak k k<|ak k k ?_
   refine ak k k<|ae (aP k k) k<|aa k k<|an<|tn<|aO (t:=bU [(2,.bl false)] [] 1 [1,2]) (aE (σ:=sg []) ⟨(e1 k k),trivial⟩ trivial k)<|aK ?_
   obtain rfl:=so h
   exact aT k k k (bT k)
 ·refine bA 6 k q2<|ak k k<|ak k k<|ak k k<|ak k k<|ak k k<|ak k k<|ak k k<|ae (aP k k) k<|am k k ?_
  refine ak k k<|ak k k<|ak k k<|ak k k<|ae (aP k k) k<|am k k<|ak k k<|ak k k<|ak k k<|ak k k ?_
  refine ak k k<|ak k k<|ae (aP k k) k<|am k k<|ak k k<|ak k k<|ak k k<|ak k k<|ak k k<|ak k k ?_
  refine ae (aP k k) k<|aa k k<|an<|tn<|aO (t:=bU [(2,.bl false)] [] 1 [1,2]) (aE (σ:=sg []) ⟨(e1 k k),trivial⟩ trivial k)<|aK ?_
  obtain rfl:=so h
  exact aT k k k (bT k)
def tS (a0:Qv) (a1:(List Int)):Option Bool:=
 Option.bind (rB a0) fun v1=>
 bif v1 then
 (bif decide ((a1.length:Int)=a0.n) then
 (Option.bind (gC a1 0 4) fun v4=>
 bif v4 then
 (Option.bind (tN a1) fun v6=>
 some (decide (v6≤8)))
 else
 (some (false)))
 else
 (some (false)))
 else
 (some (false))
theorem aHB (a0:Qv) (a1:(List Int)) (r:Bool) (h:tS a0 a1=some r):HasC Tryz.prog 147 [.agg (eQ a0),.list 1 (List.map eI a1)] (.bl r):=by
 refine bN aA (rvs:=[.tmp 4]) (ns:=[0,1,2]) Tryz.func147 k k Tryz.ntmps147 k k k<|sQ<|rg<|ae (cD k k k k) k<|aa k k<|an<|tn<|sQ<|rg<|ae (aC aA k k k k k k k) k ?_
 obtain ⟨v1,hv1,h⟩:=ob h
 refine ae (bE (aFa a0 v1 hv1) k (aG (cE (aU (aY k) (aU (aY k) (aU (aY k) cR)))) bG)) k<|am k k ?_
 rcases cb h with ⟨q2,h⟩|⟨q2,h⟩
 ·refine bA 7 k q2<|am k k<|ae (dG aA k k k) k<|ae (aD aA k k k k k k k) k<|ae (aC aA k k k k k k k) k<|ae (bD k k k) k<|ae (aP k k) k<|am k k ?_
  rcases cb h with ⟨q3,h⟩|⟨q3,h⟩
  ·refine bA 14 k q3<|am k k ?_
   obtain ⟨v4,hv4,h⟩:=ob h
   refine ae (bE (lO a1 0 4 v4 hv4) k (aG (aM k) (aG (aM k) (aG (aM k) bG)))) k<|ae (aP k k) k<|am k k ?_
   rcases cb h with ⟨q5,h⟩|⟨q5,h⟩
   ·refine bA 18 k q5<|am k k ?_
    obtain ⟨v6,hv6,h⟩:=ob h
    refine ae (bE (aDS a1 v6 hv6) k (aG (aM k) bG)) k<|ae (bD k k k) k<|ae (aP k k) k<|aa k k<|an<|tn<|aO (t:=bU [(4,.bl (decide (v6≤8)))] [] 1 [1,2]) (aE (σ:=sg []) ⟨(e1 k k),trivial⟩ trivial k)<|aK ?_
    obtain rfl:=so h
    exact aT k k k (bT k)
   ·refine bA 18 k q5<|ak k k<|ak k k<|ak k k<|ae (aP k k) k<|aa k k<|an<|tn<|aO (t:=bU [(4,.bl false)] [] 1 [1,2]) (aE (σ:=sg []) ⟨(e1 k k),trivial⟩ trivial k)<|aK ?_
    obtain rfl:=so h
    exact aT k k k (bT k)
  ·refine bA 14 k q3<|ak k k<|ak k k<|ae (aP k k) k<|am k k<|ak k k<|ak k k<|ak k k<|ae (aP k k) k<|aa k k ?_
   refine an<|tn<|aO (t:=bU [(4,.bl false)] [] 1 [1,2]) (aE (σ:=sg []) ⟨(e1 k k),trivial⟩ trivial k)<|aK ?_
   obtain rfl:=so h
   exact aT k k k (bT k)
 ·refine bA 7 k q2<|ak k k<|ak k k<|ak k k<|ak k k<|ak k k<|ae (aP k k) k<|am k k<|ak k k<|ak k k ?_
  refine ae (aP k k) k<|am k k<|ak k k<|ak k k<|ak k k<|ae (aP k k) k<|aa k k<|an<|tn<|aO (t:=bU [(4,.bl false)] [] 1 [1,2]) (aE (σ:=sg []) ⟨(e1 k k),trivial⟩ trivial k) ?_
  refine aK ?_
  obtain rfl:=so h
  exact aT k k k (bT k)
def rC (a0:Rp) (x1:Int):Option (Int ⊕ (Unit ⊕ Bool)):=
 bif decide (x1<(a0.maps.length:Int)) then
 (Option.bind (dX a0.maps x1) fun v7=>
 Option.bind (rA a0.p v7) fun v8=>
 bif !v8 then
 (some (.inr (.inr (false))))
 else
 (Option.bind (dX a0.q.src x1) fun v10=>
 Option.bind (dX a0.dims v10) fun v11=>
 bif !decide (v7.cols=v11) then
 (some (.inr (.inr (false))))
 else
 (Option.bind (dX a0.q.tgt x1) fun v13=>
 Option.bind (dX a0.dims v13) fun v14=>
 bif !decide (v7.rows=v14) then
 (some (.inr (.inr (false))))
 else
 (some (.inl (wr (x1+1)))))))
 else
 (some (.inr (.inl ())))
def tT (a0:Rp):Option Bool:=
 Option.bind (iB a0.p) fun v1=>
 bif !v1 then
 (some (false))
 else
 (Option.bind (tS a0.q a0.dims) fun v3=>
 bif !v3 then
 (some (false))
 else
 (bif !decide ((a0.maps.length:Int)=(a0.q.src.length:Int)) then
 (some (false))
 else
 (Option.bind (Lp (rC a0) 0) fun y16=>
 Sum.elim (fun y17=>
 some (true)
 )
 (fun y18=>
 some y18
 )
 y16)))
theorem aDX (a0:Rp) (r:Bool) (h:tT a0=some r):HasC Tryz.prog 101 [.agg (eR a0)] (.bl r):=by
 refine bN aA (rvs:=[.tmp 2]) (ns:=[0,1,2,3]) Tryz.func101 k k Tryz.ntmps101 k k k<|sQ<|rg<|ae (cD k k k k) k<|aa k k<|an<|tn<|sQ<|sQ<|rg ?_
 refine ae (aD aA k k k k k k k) k<|ae (aC aA k k k k k k k) k ?_
 obtain ⟨v1,hv1,h⟩:=ob h
 refine ae (bE (lM a0.p v1 hv1) k (aG (aM k) bG)) k<|ae (cH k) k<|am k k ?_
 rcases cb h with ⟨q2,h⟩|⟨q2,h⟩
 ·refine bA 9 k q2<|ak k k<|ak k k<|ak k k<|ak k k<|ak k k<|ak k k<|ae (aP k k) k<|am k k<|ak k k ?_
  refine ak k k<|ak k k<|ak k k<|ak k k<|ak k k<|ak k k<|ak k k<|ae (aP k k) k<|an<|tn ?_
  refine aO (t:=bU [(1,.ptr 0 0 0),(26,.bl true)] [(0,⟨6,[[.int a0.p,.int a0.q.n,.list 1 (List.map eI a0.q.src),.list 1 (List.map eI a0.q.tgt),.list 1 (List.map eI a0.dims),.list 3 (List.map eM a0.maps)]]⟩)] 1 [1,2,3]) (aE (σ:=sg [(0,0)]) ⟨(pE k k),(e1 k k),trivial⟩ (hP k k k k<|trivial) k)<|aJ k k<|sQ<|rg<|aa k k<|an<|tn<|aK<|aI ?_
  obtain rfl:=so h
  exact aT k k k (bT k)
 ·refine bA 9 k q2<|ae (aD aA k k k k k k k) k<|ae (aC aA k k k k k k k) k<|ae (aD aA k k k k k k k) k<|ae (aC aA k k k k k k k) k ?_
  obtain ⟨v3,hv3,h⟩:=ob h
  refine ae (bE (aHB a0.q a0.dims v3 hv3) k (aG (cE (aU (aY k) (aU (aY k) (aU (aY k) cR)))) (aG (aM k) bG))) k<|ae (cH k) k<|ae (aP k k) k<|am k k ?_
  rcases cb h with ⟨q4,h⟩|⟨q4,h⟩
  ·refine bA 17 k q4<|ak k k<|ak k k<|ak k k<|ak k k<|ak k k<|ak k k<|ak k k<|ak k k<|ae (aP k k) k ?_
   refine an<|tn<|aO (t:=bU [(1,.ptr 0 0 0),(26,.bl true)] [(0,⟨6,[[.int a0.p,.int a0.q.n,.list 1 (List.map eI a0.q.src),.list 1 (List.map eI a0.q.tgt),.list 1 (List.map eI a0.dims),.list 3 (List.map eM a0.maps)]]⟩)] 1 [1,2,3]) (aE (σ:=sg [(0,0)]) ⟨(pE k k),(e1 k k),trivial⟩ (hP k k k k<|trivial) k)<|aJ k k<|sQ<|rg<|aa k k<|an<|tn<|aK ?_
   refine aI ?_
   obtain rfl:=so h
   exact aT k k k (bT k)
  ·refine bA 17 k q4<|ae (aD aA k k k k k k k) k<|ae (aC aA k k k k k k k) k<|ae (dG aA k k k) k<|ae (aD aA k k k k k k k) k<|ae (aD aA k k k k k k k) k<|ae (aC aA k k k k k k k) k<|ae (dG aA k k k) k<|ae (bD k k k) k<|ae (aP k k) k ?_
   refine an<|tn<|aO (t:=bU [(1,.ptr 0 0 0),(26,.bl (!decide ((a0.maps.length:Int)=(a0.q.src.length:Int))))] [(0,⟨6,[[.int a0.p,.int a0.q.n,.list 1 (List.map eI a0.q.src),.list 1 (List.map eI a0.q.tgt),.list 1 (List.map eI a0.dims),.list 3 (List.map eM a0.maps)]]⟩)] 1 [1,2,3]) (aE (σ:=sg [(0,0)]) ⟨(pE k k),(e1 k k),trivial⟩ (hP k k k k<|trivial) k) ?_
   rcases cb h with ⟨q5,h⟩|⟨q5,h⟩
   ·refine aJ k q5<|sQ<|rg<|aa k k<|an<|tn<|aK<|aI ?_
    obtain rfl:=so h
    exact aT k k k (bT k)
   ·refine aN k q5<|aR<|tn<|sQ<|sQ<|rg<|ae (aD aA k k k k k k k) k<|ae (aC aA k k k k k k k) k<|ae (dG aA k k k) k<|am k k ?_
    refine an<|tn<|aL ?_
    obtain ⟨y16,hy16,h⟩:=ob h
    refine cV (body:=(rC a0)) hy16 (fun (x1:Int)=>bU [(1,.ptr 0 0 0),(28,.list 3 (List.map eM a0.maps)),(29,.int (a0.maps.length:Int)),(30,.int x1)] [(0,⟨6,[[.int a0.p,.int a0.q.n,.list 1 (List.map eI a0.q.src),.list 1 (List.map eI a0.q.tgt),.list 1 (List.map eI a0.dims),.list 3 (List.map eM a0.maps)]]⟩)] 1 [1,2,3]) (fun r e t=>Sum.elim (fun a=>(fun r e t=>e= .exit 0∧Ent t (bU [] [] 0 [0,1,2,3])) a e t) (fun b=>(fun r e t=>e= .ret∧nZ TT [.tmp 2] (.bl r) .ret t) b e t) r) (aE (σ:=sg [(0,0)]) ⟨(pE k k),⟨_,k,⟨k,k⟩⟩,(e1 k k),(e1 k k),trivial⟩ (hP k k k k<|trivial) k) ?_ ?_
    ·intro x1 o h
     refine sQ<|rg<|ae (bD k k k) k<|an<|tn<|sQ ?_
     rcases cb h with ⟨q6,h⟩|⟨q6,h⟩
     ·refine aJ k q6<|aR<|tn<|sQ<|aL<|sQ<|rg<|am k k ?_
      obtain ⟨v7,hv7,h⟩:=ob h
      refine ae (bJ aA hv7 k k k k k k) k<|ae (aW aA k k k k k k) k<|ae (cA aA k k) k<|aa k k<|ae (bP aA k k k k k k k k) k<|an<|tn<|sQ<|aZ kR<|ae (aD aA k k k k k k k) k ?_
      refine ae (aC aA k k k k k k k) k<|ae (aC aA k k k k k k k) k ?_
      obtain ⟨v8,hv8,h⟩:=ob h
      refine ae (bE (aFZ a0.p v7 v8 hv8) k (aG (aM k) (aG (cE (aU (aY k) (aU (aY k) (aU (aY k) cR)))) bG))) k<|ae (cH k) k<|am k k ?_
      rcases cb h with ⟨q9,h⟩|⟨q9,h⟩
      ·refine bA 40 k q9<|ak k k<|ak k k<|ak k k<|ak k k<|ak k k<|ak k k<|ak k k<|ak k k<|ak k k ?_
       refine ak k k<|ak k k<|ak k k<|ak k k<|ae (aP k k) k<|am k k<|ak k k<|ak k k<|ak k k<|ak k k ?_
       refine ak k k<|ak k k<|ak k k<|ak k k<|ak k k<|ak k k<|ak k k<|ak k k<|ak k k<|ae (aP k k) k ?_
       refine an ?_
       refine ⟨by kernel_rfl,?_⟩
       refine tn<|aO (t:=bU [(1,.ptr 0 0 0),(28,.list 3 (List.map eM a0.maps)),(29,.int (a0.maps.length:Int)),(30,.int x1),(69,.bl true)] [(0,⟨6,[[.int a0.p,.int a0.q.n,.list 1 (List.map eI a0.q.src),.list 1 (List.map eI a0.q.tgt),.list 1 (List.map eI a0.dims),.list 3 (List.map eM a0.maps)]]⟩)] 2 [2,3]) (aE (σ:=sg [(0,0)]) ⟨(pE k k),⟨_,k,⟨k,k⟩⟩,(e1 k k),(e1 k k),(e1 k k),trivial⟩ (hP k k k k<|trivial) k)<|aJ k k<|sQ<|rg<|aa k k<|an<|tn<|aK<|bB ?_
       refine aI<|aI ?_
       obtain rfl:=so h
       exact ⟨_,k,k,aT k k k (bT k)⟩
      ·refine bA 40 k q9<|ae (aD aA k k k k k k k) k<|ae (aC aA k k k k k k k) k<|ae (aD aA k k k k k k k) k<|ae (aC aA k k k k k k k) k<|ae (aD aA k k k k k k k) k<|ae (aD aA k k k k k k k) k<|ae (aC aA k k k k k k k) k<|am k k ?_
       obtain ⟨v10,hv10,h⟩:=ob h
       refine ae (bJ aA hv10 k k k k k k) k<|ae (aW aA k k k k k k) k ?_
       obtain ⟨v11,hv11,h⟩:=ob h
       refine ae (bJ aA hv11 k k k k k k) k<|ae (aW aA k k k k k k) k<|ae (bD k k k) k<|ae (aP k k) k<|am k k ?_
       rcases cb h with ⟨q12,h⟩|⟨q12,h⟩
       ·refine bA 55 k q12<|ak k k<|ak k k<|ak k k<|ak k k<|ak k k<|ak k k<|ak k k<|ak k k<|ak k k ?_
        refine ak k k<|ak k k<|ak k k<|ak k k<|ae (aP k k) k<|an ?_
        refine ⟨by kernel_rfl,?_⟩
        refine tn<|aO (t:=bU [(1,.ptr 0 0 0),(28,.list 3 (List.map eM a0.maps)),(29,.int (a0.maps.length:Int)),(30,.int x1),(69,.bl true)] [(0,⟨6,[[.int a0.p,.int a0.q.n,.list 1 (List.map eI a0.q.src),.list 1 (List.map eI a0.q.tgt),.list 1 (List.map eI a0.dims),.list 3 (List.map eM a0.maps)]]⟩)] 2 [2,3]) (aE (σ:=sg [(0,0)]) ⟨(pE k k),⟨_,k,⟨k,k⟩⟩,(e1 k k),(e1 k k),(e1 k k),trivial⟩ (hP k k k k<|trivial) k)<|aJ k k<|sQ<|rg<|aa k k<|an<|tn<|aK<|bB ?_
        refine aI<|aI ?_
        obtain rfl:=so h
        exact ⟨_,k,k,aT k k k (bT k)⟩
       ·refine bA 55 k q12<|ae (aD aA k k k k k k k) k<|ae (aC aA k k k k k k k) k<|ae (aD aA k k k k k k k) k<|ae (aC aA k k k k k k k) k<|ae (aD aA k k k k k k k) k<|ae (aD aA k k k k k k k) k<|ae (aC aA k k k k k k k) k<|am k k ?_
        obtain ⟨v13,hv13,h⟩:=ob h
        refine ae (bJ aA hv13 k k k k k k) k<|ae (aW aA k k k k k k) k ?_
        obtain ⟨v14,hv14,h⟩:=ob h
        refine ae (bJ aA hv14 k k k k k k) k<|ae (aW aA k k k k k k) k<|ae (bD k k k) k<|ae (aP k k) k<|an ?_
        refine ⟨by kernel_rfl,?_⟩
        refine tn<|aO (t:=bU [(1,.ptr 0 0 0),(28,.list 3 (List.map eM a0.maps)),(29,.int (a0.maps.length:Int)),(30,.int x1),(69,.bl (!decide (v7.rows=v14)))] [(0,⟨6,[[.int a0.p,.int a0.q.n,.list 1 (List.map eI a0.q.src),.list 1 (List.map eI a0.q.tgt),.list 1 (List.map eI a0.dims),.list 3 (List.map eM a0.maps)]]⟩)] 2 [2,3]) (aE (σ:=sg [(0,0)]) ⟨(pE k k),⟨_,k,⟨k,k⟩⟩,(e1 k k),(e1 k k),(e1 k k),trivial⟩ (hP k k k k<|trivial) k) ?_
        rcases cb h with ⟨q15,h⟩|⟨q15,h⟩
        ·refine aJ k q15<|sQ<|rg<|aa k k<|an<|tn<|aK<|bB<|aI<|aI ?_
         obtain rfl:=so h
         exact ⟨_,k,k,aT k k k (bT k)⟩
        ·refine aN k q15<|aR<|bF<|tn<|rg<|ae (bW k k) k<|am k k<|an<|tn ?_
         obtain rfl:=so h
         exact ⟨_,k,(aE (σ:=sg [(0,0)]) ⟨(pE k k),⟨_,k,⟨k,k⟩⟩,(e1 k k),(e1 k k),trivial⟩ (hP k k k k<|trivial) k)⟩
     ·refine aN k q6<|bH<|aH<|aH ?_
      obtain rfl:=so h
      exact ⟨_,k,k,(aE (σ:=sg []) trivial trivial k)⟩
    ·intro e t hX
     rcases y16 with y17|y18
     ·obtain ⟨rfl,hent⟩:=hX
      refine aX<|tn<|aO hent<|sQ<|rg<|aa k k<|an<|tn<|aK ?_
      obtain rfl:=so h
      exact aT k k k (bT k)
     ·obtain ⟨rfl,hent⟩:=hX
      refine bB<|aI ?_
      obtain rfl:=so h
      exact hent
def qJ (a0:Mt):Option Mt:=
 Option.bind (tM a0.cells) fun v1=>
 some ((⟨a0.rows,a0.cols,v1⟩:Mt))
theorem aBn (a0:Mt) (r:Mt) (h:qJ a0=some r):HasC Tryz.prog 170 [.agg (eM a0)] (.agg (eM r)):=by
 refine bN aA (rvs:=[.cell 2 113]) (ns:=[0,1,2,3,4]) Tryz.func170 k k Tryz.ntmps170 k k k<|sQ<|rg<|ae (cD k k k k) k<|ae (cA aA k k) k<|an<|tn<|sQ<|rg<|ae (aD aA k k k k k k k) k ?_
 refine ae (aC aA k k k k k k k) k ?_
 obtain ⟨v1,hv1,h⟩:=ob h
 refine ae (AEff.conv (dC (x:= .own 2 0 (List.map eI v1).length) (nb:=[(2,⟨1,cJ (List.map eI v1)⟩)]) (aDM a0.cells v1 hv1) k (by rfl) k k (dK.good _) (aG (aM k) bG)) (v':= .own 2 0 v1.length) (ed':=[(2,some ⟨1,List.map (ow eI) v1⟩)]) (by simp only [bC]) (eN (nb':=[(2,⟨1,List.map (ow eI) v1⟩)]) (by simp only [cO]))) k<|ae (aD aA k k k k k k k) k<|ae (bP aA k k k k k k k k) k<|an<|tn<|sQ<|rg<|ae (aC aA k k k k k k k) k<|ae (bP aA k k k k k k k k) k<|an ?_
 refine tn<|aK ?_
 obtain rfl:=so h
 exact aT k k k (qI (cC (k) (cC (k) (cC (jD dK k k) hZ))))
def rD (a0:Int) (a2:Mt) (v1:Mt) (v3:(List Int)) (x1:((List Int)×Int)) (x2:((List Int)×Int)):Option (((List Int)×Int) ⊕ (List Int)):=
 bif decide (x2.2<(v3.length:Int)) then
 (Option.bind (dX v3 x2.2) fun v5=>
 Option.bind (dM (⟨v1.rows,v1.cols,x2.1⟩:Mt) x1.2) fun v6=>
 Option.bind (aCS a2 x2.2) fun v7=>
 Option.bind (gU a0 x2.1 (0+(wr (x1.2*v1.cols)).toNat) ((wr ((wr (x1.2+1))*v1.cols)).toNat - (wr (x1.2*v1.cols)).toNat) v5 v7) fun v8=>
 bif decide (v8.length=x2.1.length) then
 (some (.inl (v8,wr (x2.2+1))))
 else none)
 else
 (some (.inr x2.1))
def rE (a0:Int) (a1:Mt) (a2:Mt) (v1:Mt) (x1:((List Int)×Int)):Option (((List Int)×Int) ⊕ (List Int)):=
 bif decide (x1.2<a1.rows) then
 (Option.bind (aCS a1 x1.2) fun v3=>
 Option.bind (Lp (rD a0 a2 v1 v3 x1) (x1.1,0)) fun y10=>
 some (.inl (y10,wr (x1.2+1))))
 else
 (some (.inr x1.1))
def wQ (a0:Int) (a1:Mt) (a2:Mt):Option Mt:=
 Option.bind (tB a1.rows a2.cols) fun v1=>
 Option.bind (Lp (rE a0 a1 a2 v1) (v1.cells,0)) fun y11=>
 some ((⟨v1.rows,v1.cols,y11⟩:Mt))
theorem aJT (a0:Int) (a1:Mt) (a2:Mt) (r:Mt) (h:wQ a0 a1 a2=some r):HasC Tryz.prog 151 [.int a0,.agg (eM a1),.agg (eM a2)] (.agg (eM r)):=by
 refine bN aA (rvs:=[.cell 6 113]) (ns:=[0,1,2,3,4,5,6]) Tryz.func151 k k Tryz.ntmps151 k k k<|sQ<|rg<|ae (cD k k k k) k<|ae (cD k k k k) k<|ae (cA aA k k) k<|an<|tn<|sQ<|rg ?_
 refine ae (aD aA k k k k k k k) k<|ae (aC aA k k k k k k k) k<|ae (aD aA k k k k k k k) k<|ae (aC aA k k k k k k k) k ?_
 obtain ⟨v1,hv1,h⟩:=ob h
 refine ae (AEff.conv (dC (x:= .agg [.int v1.rows,.int v1.cols,.own 3 0 (List.map eI v1.cells).length]) (nb:=[(3,⟨1,cJ (List.map eI v1.cells)⟩)]) (aBF a1.rows a2.cols v1 hv1) k (by rfl) k k (bZ trivial (bZ trivial (bZ (dK.good _) gQ))) (aG (aM k) (aG (aM k) bG))) (v':= .agg [.int v1.rows,.int v1.cols,.own 3 0 v1.cells.length]) (ed':=[(3,some ⟨1,List.map (ow eI) v1.cells⟩)]) (by simp only [bC]) (eN (nb':=[(3,⟨1,List.map (ow eI) v1.cells⟩)]) (by simp only [cO]))) k<|ae (cA aA k k) k<|ae (bP aA k k k k k k k k) k<|an<|tn<|sQ<|sQ<|rg<|ae (aD aA k k k k k k k) k<|ae (aC aA k k k k k k k) k ?_
 refine am k k<|an<|tn<|aO (t:=bU [(0,.int a0),(4,.ptr 0 0 0),(5,.ptr 1 0 0),(6,.ptr 2 0 0),(7,.ptr 4 0 0),(17,.int a1.rows),(18,.int 0)] [(0,⟨3,[[.int a1.rows,.int a1.cols,.list 1 (List.map eI a1.cells)]]⟩),(1,⟨3,[[.int a2.rows,.int a2.cols,.list 1 (List.map eI a2.cells)]]⟩),(2,⟨3,[[.int 0,.int 0,.nil 1]]⟩),(3,⟨1,List.map (ow eI) v1.cells⟩),(4,⟨3,[[.int v1.rows,.int v1.cols,.own 3 0 v1.cells.length]]⟩)] 5 [5,6]) (aE (σ:=sg [(0,0),(1,1),(2,2),(3,3),(4,4)]) ⟨(e1 k k),(pE k k),(pE k k),(pE k k),(pE k k),(e1 k k),(e1 k k),trivial⟩ (hP k k k k<|hP k k k k<|hP k k k k<|hI k k k<|hX ⟨_,k,k,.inr ⟨_,_,k,⟨_,_,k,k,⟨_,_,k,k,⟨_,_,k,⟨k,k,k,k⟩,k⟩⟩⟩,k⟩⟩ k<|trivial) k)<|aL ?_
 obtain ⟨y11,hy11,h⟩:=ob h
 refine cV (body:=(rE a0 a1 a2 v1)) hy11 (fun (x1:((List Int)×Int))=>bU [(0,.int a0),(4,.ptr 0 0 0),(5,.ptr 1 0 0),(6,.ptr 2 0 0),(7,.ptr 3 0 0),(17,.int a1.rows),(18,.int x1.2)] [(0,⟨3,[[.int a1.rows,.int a1.cols,.list 1 (List.map eI a1.cells)]]⟩),(1,⟨3,[[.int a2.rows,.int a2.cols,.list 1 (List.map eI a2.cells)]]⟩),(2,⟨3,[[.int 0,.int 0,.nil 1]]⟩),(3,⟨3,[[.int v1.rows,.int v1.cols,.own 4 0 x1.1.length]]⟩),(4,⟨1,List.map (ow eI) x1.1⟩)] 5 [5,6]) (fun r e t=>e= .exit 0∧Ent t (bU [(6,.ptr 0 0 0),(7,.ptr 1 0 0)] [(0,⟨3,[[.int 0,.int 0,.nil 1]]⟩),(1,⟨3,[[.int v1.rows,.int v1.cols,.own 2 0 r.length]]⟩),(2,⟨1,List.map (ow eI) r⟩)] 3 [3,4,5,6])) (aE (σ:=sg [(0,0),(1,1),(2,2),(3,4),(4,3)]) ⟨(e1 k k),(pE k k),(pE k k),(pE k k),(pE k k),(e1 k k),(e1 k k),trivial⟩ (hP k k k k<|hP k k k k<|hP k k k k<|hX ⟨_,k,k,.inr ⟨_,_,k,⟨_,_,k,k,⟨_,_,k,k,⟨_,_,k,⟨k,k,k,k⟩,k⟩⟩⟩,k⟩⟩ k<|hI k k k<|trivial) k) ?_ ?_
 ·intro x1 o h
  refine sQ<|rg<|ae (bD k k k) k<|an<|tn<|sQ ?_
  rcases cb h with ⟨q2,h⟩|⟨q2,h⟩
  ·refine aJ k q2<|aR<|tn<|sQ<|aL<|sQ<|rg<|am k k<|aa k k<|an ?_
   refine tn<|sQ<|rg<|ae (aC aA k k k k k k k) k<|am k k ?_
   obtain ⟨v3,hv3,h⟩:=ob h
   refine ae (aGs (aLr a1 x1.2 v3 hv3) k k k) k<|ae (dG aA k k k) k<|am k k<|an<|tn<|aL ?_
   obtain ⟨y10,hy10,h⟩:=ob h
   refine cV (body:=(rD a0 a2 v1 v3 x1)) hy10 (fun (x2:((List Int)×Int))=>bU [(0,.int a0),(4,.ptr 0 0 0),(5,.ptr 1 0 0),(6,.ptr 2 0 0),(7,.ptr 3 0 0),(8,.int x1.2),(17,.int a1.rows),(18,.int x1.2),(23,.list 1 (List.map eI v3)),(24,.int (v3.length:Int)),(25,.int x2.2)] [(0,⟨3,[[.int a1.rows,.int a1.cols,.list 1 (List.map eI a1.cells)]]⟩),(1,⟨3,[[.int a2.rows,.int a2.cols,.list 1 (List.map eI a2.cells)]]⟩),(2,⟨3,[[.int 0,.int 0,.nil 1]]⟩),(3,⟨3,[[.int v1.rows,.int v1.cols,.own 4 0 x2.1.length]]⟩),(4,⟨1,List.map (ow eI) x2.1⟩)] 5 [5,6]) (fun r e t=>e= .exit 2∧Ent t (bU [(0,.int a0),(4,.ptr 0 0 0),(5,.ptr 1 0 0),(6,.ptr 2 0 0),(7,.ptr 3 0 0),(17,.int a1.rows),(18,.int x1.2)] [(0,⟨3,[[.int a1.rows,.int a1.cols,.list 1 (List.map eI a1.cells)]]⟩),(1,⟨3,[[.int a2.rows,.int a2.cols,.list 1 (List.map eI a2.cells)]]⟩),(2,⟨3,[[.int 0,.int 0,.nil 1]]⟩),(3,⟨3,[[.int v1.rows,.int v1.cols,.own 4 0 r.length]]⟩),(4,⟨1,List.map (ow eI) r⟩)] 5 [5,6])) (aE (σ:=sg [(0,0),(1,1),(2,2),(3,3),(4,4)]) ⟨(e1 k k),(pE k k),(pE k k),(pE k k),(pE k k),(e1 k k),(e1 k k),(e1 k k),⟨_,k,⟨k,k⟩⟩,(e1 k k),(e1 k k),trivial⟩ (hP k k k k<|hP k k k k<|hP k k k k<|hX ⟨_,k,k,.inr ⟨_,_,k,⟨_,_,k,k,⟨_,_,k,k,⟨_,_,k,⟨k,k,k,k⟩,k⟩⟩⟩,k⟩⟩ k<|hI k k k<|trivial) k) ?_ ?_
   ·intro x2 o h
    refine sQ<|rg<|ae (bD k k k) k<|an<|tn<|sQ ?_
    rcases cb h with ⟨q4,h⟩|⟨q4,h⟩
    ·refine aJ k q4<|aR<|tn<|sQ<|aL<|sQ<|rg<|am k k ?_
     obtain ⟨v5,hv5,h⟩:=ob h
     refine ae (bJ aA hv5 k k k k k k) k<|ae (aW aA k k k k k k) k<|aa k k<|aa k k<|an<|tn<|aZ kR<|am k k<|ae (aC aA k k k k k k k) k<|am k k ?_
     obtain ⟨v6,hv6,h⟩:=ob h
     refine ae (AEff.pureE (gB (σ:=sg [(0,4)]) (σ':=sg [(4,0)]) (touch:=[4]) (news:=[]) (hl2:=[(4,⟨1,List.map (ow eI) x2.1⟩)]) (n':=5) (r2:= .own 4 (0+(wr (x1.2*v1.cols)).toNat) ((wr ((wr (x1.2+1))*v1.cols)).toNat - (wr (x1.2*v1.cols)).toNat)) (eO (⟨v1.rows,v1.cols,x2.1⟩:Mt) x1.2 v6 hv6) k k ⟨_,_,k,⟨_,_,k,k,⟨_,_,k,k,⟨_,_,k,⟨k,k,k,k⟩,k⟩⟩⟩,⟨_,_,k,k,k⟩⟩ ⟨⟨_,k,k,.inl ⟨k,dK.plainO _⟩⟩,k,trivial⟩ k k k ⟨⟨_,k,k,.inl ⟨k,dK.plainO _⟩⟩,k,trivial⟩ k ⟨k,k,(by simp only [bC,lA,lT,lR,lC,lN]),k⟩ k ⟨k,dK.tame _ _,trivial⟩ k k) ⟨k,k,trivial⟩) k<|am k k<|ae (aC aA k k k k k k k) k<|am k k ?_
     obtain ⟨v7,hv7,h⟩:=ob h
     refine ae (aGs (aLr a2 x2.2 v7 hv7) k k k) k ?_
     obtain ⟨v8,hv8,h⟩:=ob h
     refine ae (gB (σ:=sg [(0,4)]) (σ':=sg [(4,0)]) (touch:=[4]) (news:=[]) (hl2:=[(4,⟨1,List.map (ow eI) v8⟩)]) (n':=5) (r2:= .own 4 (0+(wr (x1.2*v1.cols)).toNat) ((wr ((wr (x1.2+1))*v1.cols)).toNat - (wr (x1.2*v1.cols)).toNat)) (xK a0 x2.1 (0+(wr (x1.2*v1.cols)).toNat) ((wr ((wr (x1.2+1))*v1.cols)).toNat - (wr (x1.2*v1.cols)).toNat) v5 v7 v8 hv8) k k ⟨_,_,k,k,⟨_,_,k,⟨k,k,k,k⟩,⟨_,_,k,k,⟨_,_,k,⟨k,k⟩,k⟩⟩⟩⟩ ⟨⟨_,k,k,.inl ⟨k,dK.plainO _⟩⟩,k,trivial⟩ k k k ⟨⟨_,k,k,.inl ⟨k,dK.plainO _⟩⟩,k,trivial⟩ k ⟨k,k,(by simp only [bC,lA,lT,lR,lC,lN]),k⟩ k ⟨k,dK.tame _ _,trivial⟩ k k) k ?_
     obtain ⟨q9,h⟩:=cg h
     refine an ?_
     refine ⟨by kernel_rfl,?_⟩
     refine bF<|tn<|aO (t:=bU [(0,.int a0),(4,.ptr 0 0 0),(5,.ptr 1 0 0),(6,.ptr 2 0 0),(7,.ptr 3 0 0),(8,.int x1.2),(17,.int a1.rows),(18,.int x1.2),(23,.list 1 (List.map eI v3)),(24,.int (v3.length:Int)),(25,.int x2.2)] [(0,⟨3,[[.int a1.rows,.int a1.cols,.list 1 (List.map eI a1.cells)]]⟩),(1,⟨3,[[.int a2.rows,.int a2.cols,.list 1 (List.map eI a2.cells)]]⟩),(2,⟨3,[[.int 0,.int 0,.nil 1]]⟩),(3,⟨3,[[.int v1.rows,.int v1.cols,.own 4 0 v8.length]]⟩),(4,⟨1,List.map (ow eI) v8⟩)] 5 [5,6]) (aE (σ:=sg [(0,0),(1,1),(2,2),(3,3),(4,4)]) ⟨(e1 k k),(pE k k),(pE k k),(pE k k),(pE k k),(e1 k k),(e1 k k),(e1 k k),⟨_,k,⟨k,k⟩⟩,(e1 k k),(e1 k k),trivial⟩ (hP k k k k<|hP k k k k<|hP k k k k<|hX ⟨_,k,k,.inr ⟨_,_,k,⟨_,_,k,k,⟨_,_,k,k,⟨_,_,k,⟨k,k,(by simp only [bC,lA,lT,lR,lC,lN,of_decide_eq_true q9]),k⟩,k⟩⟩⟩,k⟩⟩ k<|hI k k k<|trivial) k)<|rg<|ae (bW k k) k<|am k k<|an<|tn ?_
     obtain rfl:=so h
     exact ⟨_,k,(aE (σ:=sg [(0,0),(1,1),(2,2),(3,3),(4,4)]) ⟨(e1 k k),(pE k k),(pE k k),(pE k k),(pE k k),(e1 k k),(e1 k k),(e1 k k),⟨_,k,⟨k,k⟩⟩,(e1 k k),(e1 k k),trivial⟩ (hP k k k k<|hP k k k k<|hP k k k k<|hX ⟨_,k,k,.inr ⟨_,_,k,⟨_,_,k,k,⟨_,_,k,k,⟨_,_,k,⟨k,k,k,k⟩,k⟩⟩⟩,k⟩⟩ k<|hI k k k<|trivial) k)⟩
    ·refine aN k q4<|bH<|aH<|aH ?_
     obtain rfl:=so h
     exact ⟨_,k,k,(aE (σ:=sg [(0,0),(1,1),(2,2),(3,3),(4,4)]) ⟨(e1 k k),(pE k k),(pE k k),(pE k k),(pE k k),(e1 k k),(e1 k k),trivial⟩ (hP k k k k<|hP k k k k<|hP k k k k<|hX ⟨_,k,k,.inr ⟨_,_,k,⟨_,_,k,k,⟨_,_,k,k,⟨_,_,k,⟨k,k,k,k⟩,k⟩⟩⟩,k⟩⟩ k<|hI k k k<|trivial) k)⟩
   ·rintro e t ⟨rfl,hent⟩
    refine aX<|bF<|tn<|aO hent<|rg<|ae (bW k k) k<|am k k<|an<|tn ?_
    obtain rfl:=so h
    exact ⟨_,k,(aE (σ:=sg [(0,0),(1,1),(2,2),(3,3),(4,4)]) ⟨(e1 k k),(pE k k),(pE k k),(pE k k),(pE k k),(e1 k k),(e1 k k),trivial⟩ (hP k k k k<|hP k k k k<|hP k k k k<|hX ⟨_,k,k,.inr ⟨_,_,k,⟨_,_,k,k,⟨_,_,k,k,⟨_,_,k,⟨k,k,k,k⟩,k⟩⟩⟩,k⟩⟩ k<|hI k k k<|trivial) k)⟩
  ·refine aN k q2<|bH<|aH<|aH ?_
   obtain rfl:=so h
   exact ⟨_,k,k,(aE (σ:=sg [(0,2),(1,3),(2,4)]) ⟨(pE k k),(pE k k),trivial⟩ (hP k k k k<|hX ⟨_,k,k,.inr ⟨_,_,k,⟨_,_,k,k,⟨_,_,k,k,⟨_,_,k,⟨k,k,k,k⟩,k⟩⟩⟩,k⟩⟩ k<|hI k k k<|trivial) k)⟩
 ·rintro e t ⟨rfl,hent⟩
  refine aX<|tn<|aO hent<|sQ<|rg<|ae (aC aA k k k k k k k) k<|ae (bP aA k k k k k k k k) k<|an<|tn<|aK ?_
  obtain rfl:=so h
  exact aT k k k (qI (cC (k) (cC (k) (cC (jD dK k k) hZ))))
def lP (v1:Mt) (x1:(Int×(List Int)×(List Int))) (x2:Int):Option (Int ⊕ Int):=
 bif decide (x2<v1.rows) then
 (Option.bind (dM (⟨v1.rows,v1.cols,x1.2.1⟩:Mt) x2) fun v4=>
 bif (decide (0≤x1.1)&&decide (x1.1<((((wr ((wr (x2+1))*v1.cols)).toNat - (wr (x2*v1.cols)).toNat):Nat):Int))) then
 (Option.bind (x1.2.1[((0+(wr (x2*v1.cols)).toNat)+x1.1.toNat)]?) fun v5=>
 bif decide (v5=0) then
 (some (.inl (wr (x2+1))))
 else
 (some (.inr x2))
 )
 else none)
 else
 (some (.inr x2))
def pU (v1:Mt) (x1:(Int×(List Int)×(List Int))) (y8:Int) (x3:((List Int)×Int)):Option (((List Int)×Int) ⊕ (List Int)):=
 bif decide (x3.2<v1.cols) then
 (Option.bind (dM (⟨v1.rows,v1.cols,x3.1⟩:Mt) y8) fun v12=>
 Option.bind (dM (⟨v1.rows,v1.cols,x3.1⟩:Mt) y8) fun v13=>
 bif (decide (0≤x3.2)&&decide (x3.2<((((wr ((wr (y8+1))*v1.cols)).toNat - (wr (y8*v1.cols)).toNat):Nat):Int))) then
 (Option.bind (x3.1[((0+(wr (y8*v1.cols)).toNat)+x3.2.toNat)]?) fun v14=>
 bif (decide (0≤x3.2)&&decide (x3.2<((((wr ((wr (((x1.2.2.length:Nat):Int)+1))*v1.cols)).toNat - (wr (((x1.2.2.length:Nat):Int)*v1.cols)).toNat):Nat):Int))) then
 (Option.bind (x3.1[((0+(wr (((x1.2.2.length:Nat):Int)*v1.cols)).toNat)+x3.2.toNat)]?) fun v16=>
 bif (decide (0≤x3.2)&&decide (x3.2<((((wr ((wr (((x1.2.2.length:Nat):Int)+1))*v1.cols)).toNat - (wr (((x1.2.2.length:Nat):Int)*v1.cols)).toNat):Nat):Int))) then
 (Option.bind (x3.1[((0+(wr (((x1.2.2.length:Nat):Int)*v1.cols)).toNat)+x3.2.toNat)]?) fun v18=>
 bif (decide (0≤x3.2)&&decide (x3.2<((((wr ((wr (y8+1))*v1.cols)).toNat - (wr (y8*v1.cols)).toNat):Nat):Int))) then
 (Option.bind ((x3.1.set ((0+(wr (((x1.2.2.length:Nat):Int)*v1.cols)).toNat)+x3.2.toNat) v14)[((0+(wr (y8*v1.cols)).toNat)+x3.2.toNat)]?) fun v20=>
 some (.inl (((x3.1.set ((0+(wr (((x1.2.2.length:Nat):Int)*v1.cols)).toNat)+x3.2.toNat) v14).set ((0+(wr (y8*v1.cols)).toNat)+x3.2.toNat) v16),wr (x3.2+1)))
 )
 else none
 )
 else none
 )
 else none
 )
 else none)
 else
 (some (.inr x3.1))
def pV (a0:Int) (v1:Mt) (v25:Int) (x1:(Int×(List Int)×(List Int))) (x4:((List Int)×Int)):Option (((List Int)×Int) ⊕ (List Int)):=
 bif decide (x4.2<((((wr ((wr (((x1.2.2.length:Nat):Int)+1))*v1.cols)).toNat - (wr (((x1.2.2.length:Nat):Int)*v1.cols)).toNat):Nat):Int)) then
 (bif (decide (0≤x4.2)&&decide (x4.2<((((wr ((wr (((x1.2.2.length:Nat):Int)+1))*v1.cols)).toNat - (wr (((x1.2.2.length:Nat):Int)*v1.cols)).toNat):Nat):Int))) then
 (Option.bind (x4.1[((0+(wr (((x1.2.2.length:Nat):Int)*v1.cols)).toNat)+x4.2.toNat)]?) fun v27=>
 bif !decide (a0=0) then
 (bif (decide (0≤x4.2)&&decide (x4.2<((((wr ((wr (((x1.2.2.length:Nat):Int)+1))*v1.cols)).toNat - (wr (((x1.2.2.length:Nat):Int)*v1.cols)).toNat):Nat):Int))) then
 (Option.bind (x4.1[((0+(wr (((x1.2.2.length:Nat):Int)*v1.cols)).toNat)+x4.2.toNat)]?) fun v29=>
 some (.inl ((x4.1.set ((0+(wr (((x1.2.2.length:Nat):Int)*v1.cols)).toNat)+x4.2.toNat) ((wr (v27*v25)).tmod a0)),wr (x4.2+1)))
 )
 else none)
 else none
 )
 else none)
 else
 (some (.inr x4.1))
def pW (a0:Int) (v1:Mt) (x1:(Int×(List Int)×(List Int))) (x5:((List Int)×Int)):Option (((List Int)×Int) ⊕ (List Int)):=
 bif decide (x5.2<v1.rows) then
 (bif !decide (x5.2=((x1.2.2.length:Nat):Int)) then
 (Option.bind (dM (⟨v1.rows,v1.cols,x5.1⟩:Mt) x5.2) fun v35=>
 Option.bind (dM (⟨v1.rows,v1.cols,x5.1⟩:Mt) x5.2) fun v36=>
 bif (decide (0≤x1.1)&&decide (x1.1<((((wr ((wr (x5.2+1))*v1.cols)).toNat - (wr (x5.2*v1.cols)).toNat):Nat):Int))) then
 (Option.bind (x5.1[((0+(wr (x5.2*v1.cols)).toNat)+x1.1.toNat)]?) fun v37=>
 Option.bind (iJ a0 x5.1 (0+(wr (x5.2*v1.cols)).toNat) ((wr ((wr (x5.2+1))*v1.cols)).toNat - (wr (x5.2*v1.cols)).toNat) (wr (a0 - v37)) (0+(wr (((x1.2.2.length:Nat):Int)*v1.cols)).toNat) ((wr ((wr (((x1.2.2.length:Nat):Int)+1))*v1.cols)).toNat - (wr (((x1.2.2.length:Nat):Int)*v1.cols)).toNat)) fun v39=>
 bif decide (v39.length=x5.1.length) then
 (some (.inl (v39,wr (x5.2+1))))
 else none
 )
 else none)
 else
 (some (.inl (x5.1,wr (x5.2+1)))))
 else
 (some (.inr x5.1))
def lQ (a0:Int) (v1:Mt) (x1:(Int×(List Int)×(List Int))):Option ((Int×(List Int)×(List Int)) ⊕ ((List Int)×(List Int))):=
 bif decide (x1.1<v1.cols) then
 (Option.bind (Lp (lP v1 x1) ((x1.2.2.length:Nat):Int)) fun y8=>
 bif decide (y8=v1.rows) then
 (some (.inl (wr (x1.1+1),x1.2.1,x1.2.2)))
 else
 (Option.bind (dM (⟨v1.rows,v1.cols,x1.2.1⟩:Mt) ((x1.2.2.length:Nat):Int)) fun v10=>
 Option.bind (Lp (pU v1 x1 y8) (x1.2.1,0)) fun y22=>
 bif (decide (0≤x1.1)&&decide (x1.1<((((wr ((wr (((x1.2.2.length:Nat):Int)+1))*v1.cols)).toNat - (wr (((x1.2.2.length:Nat):Int)*v1.cols)).toNat):Nat):Int))) then
 (Option.bind (y22[((0+(wr (((x1.2.2.length:Nat):Int)*v1.cols)).toNat)+x1.1.toNat)]?) fun v23=>
 Option.bind (oP a0 v23) fun v25=>
 Option.bind (Lp (pV a0 v1 v25 x1) (y22,0)) fun y32=>
 Option.bind (Lp (pW a0 v1 x1) (y32,0)) fun y41=>
 bif decide (x1.2.2.length+[x1.1].length ≤4294967296) then
 (some (.inl (wr (x1.1+1),y41,(x1.2.2++[x1.1]))))
 else none
 )
 else none))
 else
 (some (.inr (x1.2.1,x1.2.2)))
def vI (a0:Int) (a1:Mt):Option (Mt×(List Int)):=
 Option.bind (qJ a1) fun v1=>
 Option.bind (Lp (lQ a0 v1) (0,v1.cells,[])) fun y43=>
 some (((⟨v1.rows,v1.cols,y43.1⟩:Mt),y43.2))
theorem aHs (a0:Int) (a1:Mt) (r:(Mt×(List Int))) (h:vI a0 a1=some r):HasC Tryz.prog 222 [.int a0,.agg (eM a1)] (.tuple [.agg (eM r.1),.list 1 (List.map eI r.2)]):=by
 refine bN aA (rvs:=[.cell 4 113,.tmp 5]) (ns:=[0,1,2,3,4,5,6,7]) Tryz.func222 k k Tryz.ntmps222 k k k<|sQ<|rg<|ae (cD k k k k) k<|ae (cA aA k k) k<|aa k k<|an<|tn<|sQ<|rg ?_
 refine ae (aC aA k k k k k k k) k ?_
 obtain ⟨v1,hv1,h⟩:=ob h
 refine ae (AEff.conv (dC (x:= .agg [.int v1.rows,.int v1.cols,.own 2 0 (List.map eI v1.cells).length]) (nb:=[(2,⟨1,cJ (List.map eI v1.cells)⟩)]) (aBn a1 v1 hv1) k (by rfl) k k (bZ trivial (bZ trivial (bZ (dK.good _) gQ))) (aG (cE (aU (aY k) (aU (aY k) (aU (aY k) cR)))) bG)) (v':= .agg [.int v1.rows,.int v1.cols,.own 2 0 v1.cells.length]) (ed':=[(2,some ⟨1,List.map (ow eI) v1.cells⟩)]) (by simp only [bC]) (eN (nb':=[(2,⟨1,List.map (ow eI) v1.cells⟩)]) (by simp only [cO]))) k<|ae (bP aA k k k k k k k k) k<|an<|tn<|sQ<|rg<|aa k k<|an<|tn<|sQ ?_
 refine sQ<|rg<|ae (aD aA k k k k k k k) k<|ae (aC aA k k k k k k k) k<|am k k<|an<|tn<|aL ?_
 obtain ⟨y43,hy43,h⟩:=ob h
 refine cV (body:=(lQ a0 v1)) hy43 (fun (x1:(Int×(List Int)×(List Int)))=>bU [(0,.int a0),(3,.ptr 0 0 0),(4,.ptr 2 0 0),(6,.own 3 0 x1.2.2.length),(17,.int v1.cols),(18,.int x1.1)] [(0,⟨3,[[.int v1.rows,.int v1.cols,.own 1 0 x1.2.1.length]]⟩),(1,⟨1,List.map (ow eI) x1.2.1⟩),(2,⟨3,[[.int 0,.int 0,.nil 1]]⟩),(3,⟨1,List.map (ow eI) x1.2.2⟩)] 4 [4,5,6,7]) (fun r e t=>e= .exit 0∧Ent t (bU [(3,.ptr 0 0 0),(4,.ptr 2 0 0),(6,.own 3 0 r.2.length)] [(0,⟨3,[[.int v1.rows,.int v1.cols,.own 1 0 r.1.length]]⟩),(1,⟨1,List.map (ow eI) r.1⟩),(2,⟨3,[[.int 0,.int 0,.nil 1]]⟩),(3,⟨1,List.map (ow eI) r.2⟩)] 4 [4,5,6,7])) (aE (σ:=sg [(0,0),(1,2),(2,1)]) ⟨(e1 k k),(pE k k),(pE k k),⟨_,k,⟨k,k,k,k⟩⟩,(e1 k k),(e1 k k),trivial⟩ (hX ⟨_,k,k,.inr ⟨_,_,k,⟨_,_,k,k,⟨_,_,k,k,⟨_,_,k,⟨k,k,k,k⟩,k⟩⟩⟩,k⟩⟩ k<|hI k k k<|hP k k k k<|hX k k<|trivial) k) ?_ ?_
 ·intro x1 o h
  refine sQ<|rg<|ae (bD k k k) k<|an<|tn<|sQ ?_
  rcases cb h with ⟨q2,h⟩|⟨q2,h⟩
  ·refine aJ k q2<|aR<|tn<|sQ<|aL<|sQ<|rg<|am k k<|aa k k<|an ?_
   refine tn<|sQ<|rg<|am k k<|ae (bV aA k k k k) k<|aa k k<|an<|tn<|sQ<|aL ?_
   obtain ⟨y8,hy8,h⟩:=ob h
   refine cV (body:=(lP v1 x1)) hy8 (fun (x2:Int)=>bU [(0,.int a0),(3,.ptr 0 0 0),(4,.ptr 2 0 0),(6,.own 3 0 x1.2.2.length),(7,.int x1.1),(8,.int x2),(17,.int v1.cols),(18,.int x1.1)] [(0,⟨3,[[.int v1.rows,.int v1.cols,.own 1 0 x1.2.1.length]]⟩),(1,⟨1,List.map (ow eI) x1.2.1⟩),(2,⟨3,[[.int 0,.int 0,.nil 1]]⟩),(3,⟨1,List.map (ow eI) x1.2.2⟩)] 4 [4,5,6,7]) (fun r e t=>e= .exit 2∧Ent t (bU [(0,.int a0),(3,.ptr 0 0 0),(4,.ptr 2 0 0),(6,.own 3 0 x1.2.2.length),(7,.int x1.1),(8,.int r),(17,.int v1.cols),(18,.int x1.1)] [(0,⟨3,[[.int v1.rows,.int v1.cols,.own 1 0 x1.2.1.length]]⟩),(1,⟨1,List.map (ow eI) x1.2.1⟩),(2,⟨3,[[.int 0,.int 0,.nil 1]]⟩),(3,⟨1,List.map (ow eI) x1.2.2⟩)] 4 [4,5,6,7])) (aE (σ:=sg [(0,0),(1,1),(2,2),(3,3)]) ⟨(e1 k k),(pE k k),(pE k k),(oE k k),(e1 k k),(e1 k k),(e1 k k),(e1 k k),trivial⟩ (hX ⟨_,k,k,.inr ⟨_,_,k,⟨_,_,k,k,⟨_,_,k,k,⟨_,_,k,⟨k,k,k,k⟩,k⟩⟩⟩,k⟩⟩ k<|hI k k k<|hP k k k k<|hI k k k<|trivial) k) ?_ ?_
   ·intro x2 o h
    refine sQ<|sQ<|rg<|am k k<|ae (aD aA k k k k k k k) k<|ae (aC aA k k k k k k k) k<|ae (bD k k k) k<|am k k ?_
    rcases cb h with ⟨q3,h⟩|⟨q3,h⟩
    ·refine bA 27 k q3<|ae (aC aA k k k k k k k) k<|am k k ?_
     obtain ⟨v4,hv4,h⟩:=ob h
     refine ae (AEff.pureE (gB (σ:=sg [(0,1)]) (σ':=sg [(1,0)]) (touch:=[1]) (news:=[]) (hl2:=[(1,⟨1,List.map (ow eI) x1.2.1⟩)]) (n':=4) (r2:= .own 1 (0+(wr (x2*v1.cols)).toNat) ((wr ((wr (x2+1))*v1.cols)).toNat - (wr (x2*v1.cols)).toNat)) (eO (⟨v1.rows,v1.cols,x1.2.1⟩:Mt) x2 v4 hv4) k k ⟨_,_,k,⟨_,_,k,k,⟨_,_,k,k,⟨_,_,k,⟨k,k,k,k⟩,k⟩⟩⟩,⟨_,_,k,k,k⟩⟩ ⟨⟨_,k,k,.inl ⟨k,dK.plainO _⟩⟩,k,trivial⟩ k k k ⟨⟨_,k,k,.inl ⟨k,dK.plainO _⟩⟩,k,trivial⟩ k ⟨k,k,(by simp only [bC,lA,lT,lR,lC,lN]),k⟩ k ⟨k,dK.tame _ _,trivial⟩ k k) ⟨k,k,trivial⟩) k<|am k k ?_
     obtain ⟨q6,h⟩:=cg h
     obtain ⟨v5,hv5,h⟩:=ob h
     refine ae (gL aA q6 k k k k k k k) k<|ae (aC aA k k k k (cM (hv5)) k k) k<|ae (bD k k k) k<|ae (aP k k) k<|an<|tn<|aO (t:=bU [(0,.int a0),(3,.ptr 0 0 0),(4,.ptr 2 0 0),(6,.own 3 0 x1.2.2.length),(7,.int x1.1),(8,.int x2),(17,.int v1.cols),(18,.int x1.1),(35,.bl (decide (v5=0)))] [(0,⟨3,[[.int v1.rows,.int v1.cols,.own 1 0 x1.2.1.length]]⟩),(1,⟨1,List.map (ow eI) x1.2.1⟩),(2,⟨3,[[.int 0,.int 0,.nil 1]]⟩),(3,⟨1,List.map (ow eI) x1.2.2⟩)] 4 [4,5,6,7]) (aE (σ:=sg [(0,0),(1,1),(2,2),(3,3)]) ⟨(e1 k k),(pE k k),(pE k k),(oE k k),(e1 k k),(e1 k k),(e1 k k),(e1 k k),(e1 k k),trivial⟩ (hX ⟨_,k,k,.inr ⟨_,_,k,⟨_,_,k,k,⟨_,_,k,k,⟨_,_,k,⟨k,k,k,k⟩,k⟩⟩⟩,k⟩⟩ k<|hI k k k<|hP k k k k<|hI k k k<|trivial) k) ?_
     rcases cb h with ⟨q7,h⟩|⟨q7,h⟩
     ·refine aJ k q7<|aR<|tn<|aL<|rg<|am k k<|ae (bW k k) k<|aa k k<|an<|bF ?_
      refine tn ?_
      obtain rfl:=so h
      exact ⟨_,k,(aE (σ:=sg [(0,0),(1,1),(2,2),(3,3)]) ⟨(e1 k k),(pE k k),(pE k k),(oE k k),(e1 k k),(e1 k k),(e1 k k),(e1 k k),trivial⟩ (hX ⟨_,k,k,.inr ⟨_,_,k,⟨_,_,k,k,⟨_,_,k,k,⟨_,_,k,⟨k,k,k,k⟩,k⟩⟩⟩,k⟩⟩ k<|hI k k k<|hP k k k k<|hI k k k<|trivial) k)⟩
     ·refine aN k q7<|bH<|aH<|aH ?_
      obtain rfl:=so h
      exact ⟨_,k,k,(aE (σ:=sg [(0,0),(1,1),(2,2),(3,3)]) ⟨(e1 k k),(pE k k),(pE k k),(oE k k),(e1 k k),(e1 k k),(e1 k k),(e1 k k),trivial⟩ (hX ⟨_,k,k,.inr ⟨_,_,k,⟨_,_,k,k,⟨_,_,k,k,⟨_,_,k,⟨k,k,k,k⟩,k⟩⟩⟩,k⟩⟩ k<|hI k k k<|hP k k k k<|hI k k k<|trivial) k)⟩
    ·refine bA 27 k q3<|ak k k<|ak k k<|ak k k<|ak k k<|ak k k<|ak k k<|ak k k<|ae (aP k k) k<|an ?_
     refine tn<|aO (t:=bU [(0,.int a0),(3,.ptr 0 0 0),(4,.ptr 2 0 0),(6,.own 3 0 x1.2.2.length),(7,.int x1.1),(8,.int x2),(17,.int v1.cols),(18,.int x1.1),(35,.bl false)] [(0,⟨3,[[.int v1.rows,.int v1.cols,.own 1 0 x1.2.1.length]]⟩),(1,⟨1,List.map (ow eI) x1.2.1⟩),(2,⟨3,[[.int 0,.int 0,.nil 1]]⟩),(3,⟨1,List.map (ow eI) x1.2.2⟩)] 4 [4,5,6,7]) (aE (σ:=sg [(0,0),(1,1),(2,2),(3,3)]) ⟨(e1 k k),(pE k k),(pE k k),(oE k k),(e1 k k),(e1 k k),(e1 k k),(e1 k k),(e1 k k),trivial⟩ (hX ⟨_,k,k,.inr ⟨_,_,k,⟨_,_,k,k,⟨_,_,k,k,⟨_,_,k,⟨k,k,k,k⟩,k⟩⟩⟩,k⟩⟩ k<|hI k k k<|hP k k k k<|hI k k k<|trivial) k)<|aN k k<|bH<|aH<|aH ?_
     obtain rfl:=so h
     exact ⟨_,k,k,(aE (σ:=sg [(0,0),(1,1),(2,2),(3,3)]) ⟨(e1 k k),(pE k k),(pE k k),(oE k k),(e1 k k),(e1 k k),(e1 k k),(e1 k k),trivial⟩ (hX ⟨_,k,k,.inr ⟨_,_,k,⟨_,_,k,k,⟨_,_,k,k,⟨_,_,k,⟨k,k,k,k⟩,k⟩⟩⟩,k⟩⟩ k<|hI k k k<|hP k k k k<|hI k k k<|trivial) k)⟩
   ·rintro e t ⟨rfl,hent⟩
    refine aX<|tn<|aO hent<|sQ<|sQ<|rg<|am k k<|ae (aD aA k k k k k k k) k<|ae (aC aA k k k k k k k) k<|ae (bD k k k) k ?_
    refine an<|tn ?_
    rcases cb h with ⟨q9,h⟩|⟨q9,h⟩
    ·refine aJ k q9<|bH<|aH<|aX<|tn<|rg<|ae (bW k k) k<|am k k<|an<|tn ?_
     obtain rfl:=so h
     exact ⟨_,k,(aE (σ:=sg [(0,0),(1,1),(2,2),(3,3)]) ⟨(e1 k k),(pE k k),(pE k k),(oE k k),(e1 k k),(e1 k k),trivial⟩ (hX ⟨_,k,k,.inr ⟨_,_,k,⟨_,_,k,k,⟨_,_,k,k,⟨_,_,k,⟨k,k,k,k⟩,k⟩⟩⟩,k⟩⟩ k<|hI k k k<|hP k k k k<|hI k k k<|trivial) k)⟩
    ·refine aN k q9<|aR<|tn<|sQ<|rg<|ae (aC aA k k k k k k k) k<|am k k<|ae (bV aA k k k k) k ?_
     obtain ⟨v10,hv10,h⟩:=ob h
     refine ae (AEff.pureE (gB (σ:=sg [(0,1)]) (σ':=sg [(1,0)]) (touch:=[1]) (news:=[]) (hl2:=[(1,⟨1,List.map (ow eI) x1.2.1⟩)]) (n':=4) (r2:= .own 1 (0+(wr (((x1.2.2.length:Nat):Int)*v1.cols)).toNat) ((wr ((wr (((x1.2.2.length:Nat):Int)+1))*v1.cols)).toNat - (wr (((x1.2.2.length:Nat):Int)*v1.cols)).toNat)) (eO (⟨v1.rows,v1.cols,x1.2.1⟩:Mt) ((x1.2.2.length:Nat):Int) v10 hv10) k k ⟨_,_,k,⟨_,_,k,k,⟨_,_,k,k,⟨_,_,k,⟨k,k,k,k⟩,k⟩⟩⟩,⟨_,_,k,k,k⟩⟩ ⟨⟨_,k,k,.inl ⟨k,dK.plainO _⟩⟩,k,trivial⟩ k k k ⟨⟨_,k,k,.inl ⟨k,dK.plainO _⟩⟩,k,trivial⟩ k ⟨k,k,(by simp only [bC,lA,lT,lR,lC,lN]),k⟩ k ⟨k,dK.tame _ _,trivial⟩ k k) ⟨k,k,trivial⟩) k<|aa k k<|an<|tn<|sQ<|sQ<|rg<|ae (aD aA k k k k k k k) k<|ae (aC aA k k k k k k k) k<|am k k ?_
     refine an<|tn<|aO (t:=bU [(0,.int a0),(3,.ptr 0 0 0),(4,.ptr 2 0 0),(6,.own 3 0 x1.2.2.length),(7,.int x1.1),(8,.int y8),(9,.own 1 (0+(wr (((x1.2.2.length:Nat):Int)*v1.cols)).toNat) ((wr ((wr (((x1.2.2.length:Nat):Int)+1))*v1.cols)).toNat - (wr (((x1.2.2.length:Nat):Int)*v1.cols)).toNat)),(17,.int v1.cols),(18,.int x1.1),(47,.int v1.cols),(48,.int 0)] [(0,⟨3,[[.int v1.rows,.int v1.cols,.own 1 0 x1.2.1.length]]⟩),(1,⟨1,List.map (ow eI) x1.2.1⟩),(2,⟨3,[[.int 0,.int 0,.nil 1]]⟩),(3,⟨1,List.map (ow eI) x1.2.2⟩)] 4 [4,5,6,7]) (aE (σ:=sg [(0,0),(1,1),(2,2),(3,3)]) ⟨(e1 k k),(pE k k),(pE k k),(oE k k),(e1 k k),(e1 k k),(oE k k),(e1 k k),(e1 k k),(e1 k k),(e1 k k),trivial⟩ (hX ⟨_,k,k,.inr ⟨_,_,k,⟨_,_,k,k,⟨_,_,k,k,⟨_,_,k,⟨k,k,k,k⟩,k⟩⟩⟩,k⟩⟩ k<|hI k k k<|hP k k k k<|hI k k k<|trivial) k)<|aL ?_
     obtain ⟨y22,hy22,h⟩:=ob h
     refine cV (body:=(pU v1 x1 y8)) hy22 (fun (x3:((List Int)×Int))=>bU [(0,.int a0),(3,.ptr 0 0 0),(4,.ptr 2 0 0),(6,.own 3 0 x1.2.2.length),(7,.int x1.1),(8,.int y8),(9,.own 1 (0+(wr (((x1.2.2.length:Nat):Int)*v1.cols)).toNat) ((wr ((wr (((x1.2.2.length:Nat):Int)+1))*v1.cols)).toNat - (wr (((x1.2.2.length:Nat):Int)*v1.cols)).toNat)),(17,.int v1.cols),(18,.int x1.1),(47,.int v1.cols),(48,.int x3.2)] [(0,⟨3,[[.int v1.rows,.int v1.cols,.own 1 0 x3.1.length]]⟩),(1,⟨1,List.map (ow eI) x3.1⟩),(2,⟨3,[[.int 0,.int 0,.nil 1]]⟩),(3,⟨1,List.map (ow eI) x1.2.2⟩)] 4 [4,5,6,7]) (fun r e t=>e= .exit 4∧Ent t (bU [(0,.int a0),(3,.ptr 0 0 0),(4,.ptr 2 0 0),(6,.own 3 0 x1.2.2.length),(7,.int x1.1),(9,.own 1 (0+(wr (((x1.2.2.length:Nat):Int)*v1.cols)).toNat) ((wr ((wr (((x1.2.2.length:Nat):Int)+1))*v1.cols)).toNat - (wr (((x1.2.2.length:Nat):Int)*v1.cols)).toNat)),(17,.int v1.cols),(18,.int x1.1)] [(0,⟨3,[[.int v1.rows,.int v1.cols,.own 1 0 r.length]]⟩),(1,⟨1,List.map (ow eI) r⟩),(2,⟨3,[[.int 0,.int 0,.nil 1]]⟩),(3,⟨1,List.map (ow eI) x1.2.2⟩)] 4 [4,5,6,7])) (aE (σ:=sg [(0,0),(1,1),(2,2),(3,3)]) ⟨(e1 k k),(pE k k),(pE k k),(oE k k),(e1 k k),(e1 k k),(oE k k),(e1 k k),(e1 k k),(e1 k k),(e1 k k),trivial⟩ (hX ⟨_,k,k,.inr ⟨_,_,k,⟨_,_,k,k,⟨_,_,k,k,⟨_,_,k,⟨k,k,k,k⟩,k⟩⟩⟩,k⟩⟩ k<|hI k k k<|hP k k k k<|hI k k k<|trivial) k) ?_ ?_
     ·intro x3 o h
      refine sQ<|rg<|ae (bD k k k) k<|an<|tn<|sQ ?_
      rcases cb h with ⟨q11,h⟩|⟨q11,h⟩
      ·refine aJ k q11<|aR<|tn<|sQ<|aL<|sQ<|rg<|am k k<|aa k k<|an ?_
       refine tn<|aZ kR<|am k k<|am k k<|ae (aC aA k k k k k k k) k<|am k k ?_
       obtain ⟨v12,hv12,h⟩:=ob h
       refine ae (AEff.pureE (gB (σ:=sg [(0,1)]) (σ':=sg [(1,0)]) (touch:=[1]) (news:=[]) (hl2:=[(1,⟨1,List.map (ow eI) x3.1⟩)]) (n':=4) (r2:= .own 1 (0+(wr (y8*v1.cols)).toNat) ((wr ((wr (y8+1))*v1.cols)).toNat - (wr (y8*v1.cols)).toNat)) (eO (⟨v1.rows,v1.cols,x3.1⟩:Mt) y8 v12 hv12) k k ⟨_,_,k,⟨_,_,k,k,⟨_,_,k,k,⟨_,_,k,⟨k,k,k,k⟩,k⟩⟩⟩,⟨_,_,k,k,k⟩⟩ ⟨⟨_,k,k,.inl ⟨k,dK.plainO _⟩⟩,k,trivial⟩ k k k ⟨⟨_,k,k,.inl ⟨k,dK.plainO _⟩⟩,k,trivial⟩ k ⟨k,k,(by simp only [bC,lA,lT,lR,lC,lN]),k⟩ k ⟨k,dK.tame _ _,trivial⟩ k k) ⟨k,k,trivial⟩) k<|am k k<|ae (aC aA k k k k k k k) k<|am k k ?_
       obtain ⟨v13,hv13,h⟩:=ob h
       refine ae (AEff.pureE (gB (σ:=sg [(0,1)]) (σ':=sg [(1,0)]) (touch:=[1]) (news:=[]) (hl2:=[(1,⟨1,List.map (ow eI) x3.1⟩)]) (n':=4) (r2:= .own 1 (0+(wr (y8*v1.cols)).toNat) ((wr ((wr (y8+1))*v1.cols)).toNat - (wr (y8*v1.cols)).toNat)) (eO (⟨v1.rows,v1.cols,x3.1⟩:Mt) y8 v13 hv13) k k ⟨_,_,k,⟨_,_,k,k,⟨_,_,k,k,⟨_,_,k,⟨k,k,k,k⟩,k⟩⟩⟩,⟨_,_,k,k,k⟩⟩ ⟨⟨_,k,k,.inl ⟨k,dK.plainO _⟩⟩,k,trivial⟩ k k k ⟨⟨_,k,k,.inl ⟨k,dK.plainO _⟩⟩,k,trivial⟩ k ⟨k,k,(by simp only [bC,lA,lT,lR,lC,lN]),k⟩ k ⟨k,dK.tame _ _,trivial⟩ k k) ⟨k,k,trivial⟩) k<|am k k ?_
       obtain ⟨q15,h⟩:=cg h
       obtain ⟨v14,hv14,h⟩:=ob h
       refine ae (gL aA q15 k k k k k k k) k<|ae (aC aA k k k k (cM (hv14)) k k) k<|am k k<|am k k ?_
       obtain ⟨q17,h⟩:=cg h
       obtain ⟨v16,hv16,h⟩:=ob h
       refine ae (gL aA q17 k k k k k k k) k<|ae (aC aA k k k k (cM (hv16)) k k) k ?_
       obtain ⟨q19,h⟩:=cg h
       obtain ⟨v18,hv18,h⟩:=ob h
       refine ae (gL aA q19 k k k k k k k) k<|ae (iH aA uJ (u:=v14) (hv18) k k k k k k) k ?_
       obtain ⟨q21,h⟩:=cg h
       obtain ⟨v20,hv20,h⟩:=ob h
       refine ae (gL aA q21 k k k k k k k) k<|ae (iH aA uJ (u:=v16) (hv20) k k k k k k) k<|an ?_
       refine ⟨by kernel_rfl,?_⟩
       refine bF<|tn<|aO (t:=bU [(0,.int a0),(3,.ptr 0 0 0),(4,.ptr 2 0 0),(6,.own 3 0 x1.2.2.length),(7,.int x1.1),(8,.int y8),(9,.own 1 (0+(wr (((x1.2.2.length:Nat):Int)*v1.cols)).toNat) ((wr ((wr (((x1.2.2.length:Nat):Int)+1))*v1.cols)).toNat - (wr (((x1.2.2.length:Nat):Int)*v1.cols)).toNat)),(17,.int v1.cols),(18,.int x1.1),(47,.int v1.cols),(48,.int x3.2)] [(0,⟨3,[[.int v1.rows,.int v1.cols,.own 1 0 (((x3.1.set ((0+(wr (((x1.2.2.length:Nat):Int)*v1.cols)).toNat)+x3.2.toNat) v14).set ((0+(wr (y8*v1.cols)).toNat)+x3.2.toNat) v16).length)]]⟩),(1,⟨1,List.map (ow eI) ((x3.1.set ((0+(wr (((x1.2.2.length:Nat):Int)*v1.cols)).toNat)+x3.2.toNat) v14).set ((0+(wr (y8*v1.cols)).toNat)+x3.2.toNat) v16)⟩),(2,⟨3,[[.int 0,.int 0,.nil 1]]⟩),(3,⟨1,List.map (ow eI) x1.2.2⟩)] 4 [4,5,6,7]) (aE (σ:=sg [(0,0),(1,1),(2,2),(3,3)]) ⟨(e1 k k),(pE k k),(pE k k),(oE k k),(e1 k k),(e1 k k),(oE k k),(e1 k k),(e1 k k),(e1 k k),(e1 k k),trivial⟩ (hX ⟨_,k,k,.inr ⟨_,_,k,⟨_,_,k,k,⟨_,_,k,k,⟨_,_,k,⟨k,k,(by simp only [bC,lA,lT,lR,lC,lN]),k⟩,k⟩⟩⟩,k⟩⟩ k<|hI k k k<|hP k k k k<|hI k k k<|trivial) k)<|rg<|ae (bW k k) k<|am k k<|an<|tn ?_
       obtain rfl:=so h
       exact ⟨_,k,(aE (σ:=sg [(0,0),(1,1),(2,2),(3,3)]) ⟨(e1 k k),(pE k k),(pE k k),(oE k k),(e1 k k),(e1 k k),(oE k k),(e1 k k),(e1 k k),(e1 k k),(e1 k k),trivial⟩ (hX ⟨_,k,k,.inr ⟨_,_,k,⟨_,_,k,k,⟨_,_,k,k,⟨_,_,k,⟨k,k,k,k⟩,k⟩⟩⟩,k⟩⟩ k<|hI k k k<|hP k k k k<|hI k k k<|trivial) k)⟩
      ·refine aN k q11<|bH<|aH<|aH ?_
       obtain rfl:=so h
       exact ⟨_,k,k,(aE (σ:=sg [(0,0),(1,1),(2,2),(3,3)]) ⟨(e1 k k),(pE k k),(pE k k),(oE k k),(e1 k k),(oE k k),(e1 k k),(e1 k k),trivial⟩ (hX ⟨_,k,k,.inr ⟨_,_,k,⟨_,_,k,k,⟨_,_,k,k,⟨_,_,k,⟨k,k,k,k⟩,k⟩⟩⟩,k⟩⟩ k<|hI k k k<|hP k k k k<|hI k k k<|trivial) k)⟩
     ·rintro e t ⟨rfl,hent⟩
      refine aX<|tn<|aO hent<|sQ<|rg<|am k k<|am k k<|am k k ?_
      obtain ⟨q24,h⟩:=cg h
      obtain ⟨v23,hv23,h⟩:=ob h
      refine ae (gL aA q24 k k k k k k k) k<|ae (aC aA k k k k (cM (hv23)) k k) k ?_
      obtain ⟨v25,hv25,h⟩:=ob h
      refine ae (bE (aDV a0 v23 v25 hv25) k (aG (aM k) (aG (aM k) bG))) k<|aa k k<|an<|tn<|sQ<|sQ<|rg<|am k k<|ae (bV aA k k k k) k<|am k k ?_
      refine an<|tn<|aL ?_
      obtain ⟨y32,hy32,h⟩:=ob h
      refine cV (body:=(pV a0 v1 v25 x1)) hy32 (fun (x4:((List Int)×Int))=>bU [(0,.int a0),(3,.ptr 0 0 0),(4,.ptr 2 0 0),(6,.own 3 0 x1.2.2.length),(7,.int x1.1),(9,.own 1 (0+(wr (((x1.2.2.length:Nat):Int)*v1.cols)).toNat) ((wr ((wr (((x1.2.2.length:Nat):Int)+1))*v1.cols)).toNat - (wr (((x1.2.2.length:Nat):Int)*v1.cols)).toNat)),(11,.int v25),(17,.int v1.cols),(18,.int x1.1),(77,.int ((((wr ((wr (((x1.2.2.length:Nat):Int)+1))*v1.cols)).toNat - (wr (((x1.2.2.length:Nat):Int)*v1.cols)).toNat):Nat):Int)),(78,.int x4.2)] [(0,⟨3,[[.int v1.rows,.int v1.cols,.own 1 0 x4.1.length]]⟩),(1,⟨1,List.map (ow eI) x4.1⟩),(2,⟨3,[[.int 0,.int 0,.nil 1]]⟩),(3,⟨1,List.map (ow eI) x1.2.2⟩)] 4 [4,5,6,7]) (fun r e t=>e= .exit 6∧Ent t (bU [(0,.int a0),(3,.ptr 0 0 0),(4,.ptr 2 0 0),(6,.own 3 0 x1.2.2.length),(7,.int x1.1),(9,.own 1 (0+(wr (((x1.2.2.length:Nat):Int)*v1.cols)).toNat) ((wr ((wr (((x1.2.2.length:Nat):Int)+1))*v1.cols)).toNat - (wr (((x1.2.2.length:Nat):Int)*v1.cols)).toNat)),(17,.int v1.cols),(18,.int x1.1)] [(0,⟨3,[[.int v1.rows,.int v1.cols,.own 1 0 r.length]]⟩),(1,⟨1,List.map (ow eI) r⟩),(2,⟨3,[[.int 0,.int 0,.nil 1]]⟩),(3,⟨1,List.map (ow eI) x1.2.2⟩)] 4 [4,5,6,7])) (aE (σ:=sg [(0,0),(1,1),(2,2),(3,3)]) ⟨(e1 k k),(pE k k),(pE k k),(oE k k),(e1 k k),(oE k k),(e1 k k),(e1 k k),(e1 k k),(e1 k k),(e1 k k),trivial⟩ (hX ⟨_,k,k,.inr ⟨_,_,k,⟨_,_,k,k,⟨_,_,k,k,⟨_,_,k,⟨k,k,k,k⟩,k⟩⟩⟩,k⟩⟩ k<|hI k k k<|hP k k k k<|hI k k k<|trivial) k) ?_ ?_
      ·intro x4 o h
       refine sQ<|rg<|ae (bD k k k) k<|an<|tn<|sQ ?_
       rcases cb h with ⟨q26,h⟩|⟨q26,h⟩
       ·refine aJ k q26<|aR<|tn<|sQ<|aL<|sQ<|rg<|am k k<|aa k k<|an ?_
        refine tn<|rg<|am k k<|am k k<|am k k<|am k k ?_
        obtain ⟨q28,h⟩:=cg h
        obtain ⟨v27,hv27,h⟩:=ob h
        refine ae (gL aA q28 k k k k k k k) k<|ae (aC aA k k k k (cM (hv27)) k k) k<|am k k<|ae (gN k k) k<|am k k ?_
        obtain ⟨q31,h⟩:=cg h
        refine ae (aFG k k q31) k ?_
        obtain ⟨q30,h⟩:=cg h
        obtain ⟨v29,hv29,h⟩:=ob h
        refine ae (gL aA q30 k k k k k k k) k<|ae (iH aA uJ (u:=(wr (v27*v25)).tmod a0) (hv29) k k k k k k) k<|an<|bF<|tn<|aO (t:=bU [(0,.int a0),(3,.ptr 0 0 0),(4,.ptr 2 0 0),(6,.own 3 0 x1.2.2.length),(7,.int x1.1),(9,.own 1 (0+(wr (((x1.2.2.length:Nat):Int)*v1.cols)).toNat) ((wr ((wr (((x1.2.2.length:Nat):Int)+1))*v1.cols)).toNat - (wr (((x1.2.2.length:Nat):Int)*v1.cols)).toNat)),(11,.int v25),(17,.int v1.cols),(18,.int x1.1),(77,.int ((((wr ((wr (((x1.2.2.length:Nat):Int)+1))*v1.cols)).toNat - (wr (((x1.2.2.length:Nat):Int)*v1.cols)).toNat):Nat):Int)),(78,.int x4.2)] [(0,⟨3,[[.int v1.rows,.int v1.cols,.own 1 0 ((x4.1.set ((0+(wr (((x1.2.2.length:Nat):Int)*v1.cols)).toNat)+x4.2.toNat) ((wr (v27*v25)).tmod a0)).length)]]⟩),(1,⟨1,List.map (ow eI) (x4.1.set ((0+(wr (((x1.2.2.length:Nat):Int)*v1.cols)).toNat)+x4.2.toNat) ((wr (v27*v25)).tmod a0))⟩),(2,⟨3,[[.int 0,.int 0,.nil 1]]⟩),(3,⟨1,List.map (ow eI) x1.2.2⟩)] 4 [4,5,6,7]) (aE (σ:=sg [(0,0),(1,1),(2,2),(3,3)]) ⟨(e1 k k),(pE k k),(pE k k),(oE k k),(e1 k k),(oE k k),(e1 k k),(e1 k k),(e1 k k),(e1 k k),(e1 k k),trivial⟩ (hX ⟨_,k,k,.inr ⟨_,_,k,⟨_,_,k,k,⟨_,_,k,k,⟨_,_,k,⟨k,k,(by simp only [bC,lA,lT,lR,lC,lN]),k⟩,k⟩⟩⟩,k⟩⟩ k<|hI k k k<|hP k k k k<|hI k k k<|trivial) k)<|rg<|ae (bW k k) k<|am k k<|an ?_
        refine tn ?_
        obtain rfl:=so h
        exact ⟨_,k,(aE (σ:=sg [(0,0),(1,1),(2,2),(3,3)]) ⟨(e1 k k),(pE k k),(pE k k),(oE k k),(e1 k k),(oE k k),(e1 k k),(e1 k k),(e1 k k),(e1 k k),(e1 k k),trivial⟩ (hX ⟨_,k,k,.inr ⟨_,_,k,⟨_,_,k,k,⟨_,_,k,k,⟨_,_,k,⟨k,k,k,k⟩,k⟩⟩⟩,k⟩⟩ k<|hI k k k<|hP k k k k<|hI k k k<|trivial) k)⟩
       ·refine aN k q26<|bH<|aH<|aH ?_
        obtain rfl:=so h
        exact ⟨_,k,k,(aE (σ:=sg [(0,0),(1,1),(2,2),(3,3)]) ⟨(e1 k k),(pE k k),(pE k k),(oE k k),(e1 k k),(oE k k),(e1 k k),(e1 k k),trivial⟩ (hX ⟨_,k,k,.inr ⟨_,_,k,⟨_,_,k,k,⟨_,_,k,k,⟨_,_,k,⟨k,k,k,k⟩,k⟩⟩⟩,k⟩⟩ k<|hI k k k<|hP k k k k<|hI k k k<|trivial) k)⟩
      ·rintro e t ⟨rfl,hent⟩
       refine aX<|tn<|aO hent<|sQ<|sQ<|rg<|ae (aD aA k k k k k k k) k<|ae (aC aA k k k k k k k) k<|am k k<|an ?_
       refine tn<|aL ?_
       obtain ⟨y41,hy41,h⟩:=ob h
       refine cV (body:=(pW a0 v1 x1)) hy41 (fun (x5:((List Int)×Int))=>bU [(0,.int a0),(3,.ptr 0 0 0),(4,.ptr 2 0 0),(6,.own 3 0 x1.2.2.length),(7,.int x1.1),(9,.own 1 (0+(wr (((x1.2.2.length:Nat):Int)*v1.cols)).toNat) ((wr ((wr (((x1.2.2.length:Nat):Int)+1))*v1.cols)).toNat - (wr (((x1.2.2.length:Nat):Int)*v1.cols)).toNat)),(17,.int v1.cols),(18,.int x1.1),(94,.int v1.rows),(95,.int x5.2)] [(0,⟨3,[[.int v1.rows,.int v1.cols,.own 1 0 x5.1.length]]⟩),(1,⟨1,List.map (ow eI) x5.1⟩),(2,⟨3,[[.int 0,.int 0,.nil 1]]⟩),(3,⟨1,List.map (ow eI) x1.2.2⟩)] 4 [4,5,6,7]) (fun r e t=>e= .exit 8∧Ent t (bU [(0,.int a0),(3,.ptr 0 0 0),(4,.ptr 2 0 0),(6,.own 3 0 x1.2.2.length),(7,.int x1.1),(17,.int v1.cols),(18,.int x1.1)] [(0,⟨3,[[.int v1.rows,.int v1.cols,.own 1 0 r.length]]⟩),(1,⟨1,List.map (ow eI) r⟩),(2,⟨3,[[.int 0,.int 0,.nil 1]]⟩),(3,⟨1,List.map (ow eI) x1.2.2⟩)] 4 [4,5,6,7])) (aE (σ:=sg [(0,0),(1,1),(2,2),(3,3)]) ⟨(e1 k k),(pE k k),(pE k k),(oE k k),(e1 k k),(oE k k),(e1 k k),(e1 k k),(e1 k k),(e1 k k),trivial⟩ (hX ⟨_,k,k,.inr ⟨_,_,k,⟨_,_,k,k,⟨_,_,k,k,⟨_,_,k,⟨k,k,k,k⟩,k⟩⟩⟩,k⟩⟩ k<|hI k k k<|hP k k k k<|hI k k k<|trivial) k) ?_ ?_
       ·intro x5 o h
        refine sQ<|rg<|ae (bD k k k) k<|an<|tn<|sQ ?_
        rcases cb h with ⟨q33,h⟩|⟨q33,h⟩
        ·refine aJ k q33<|aR<|tn<|sQ<|aL<|sQ<|rg<|am k k<|aa k k<|an ?_
         refine tn<|sQ<|rg<|am k k<|am k k<|ae (bV aA k k k k) k<|ae (bD k k k) k<|an<|tn ?_
         rcases cb h with ⟨q34,h⟩|⟨q34,h⟩
         ·refine aJ k q34<|aZ kR<|am k k<|ae (aC aA k k k k k k k) k<|am k k ?_
          obtain ⟨v35,hv35,h⟩:=ob h
          refine ae (AEff.pureE (gB (σ:=sg [(0,1)]) (σ':=sg [(1,0)]) (touch:=[1]) (news:=[]) (hl2:=[(1,⟨1,List.map (ow eI) x5.1⟩)]) (n':=4) (r2:= .own 1 (0+(wr (x5.2*v1.cols)).toNat) ((wr ((wr (x5.2+1))*v1.cols)).toNat - (wr (x5.2*v1.cols)).toNat)) (eO (⟨v1.rows,v1.cols,x5.1⟩:Mt) x5.2 v35 hv35) k k ⟨_,_,k,⟨_,_,k,k,⟨_,_,k,k,⟨_,_,k,⟨k,k,k,k⟩,k⟩⟩⟩,⟨_,_,k,k,k⟩⟩ ⟨⟨_,k,k,.inl ⟨k,dK.plainO _⟩⟩,k,trivial⟩ k k k ⟨⟨_,k,k,.inl ⟨k,dK.plainO _⟩⟩,k,trivial⟩ k ⟨k,k,(by simp only [bC,lA,lT,lR,lC,lN]),k⟩ k ⟨k,dK.tame _ _,trivial⟩ k k) ⟨k,k,trivial⟩) k<|am k k<|ae (aC aA k k k k k k k) k<|am k k ?_
          obtain ⟨v36,hv36,h⟩:=ob h
          refine ae (AEff.pureE (gB (σ:=sg [(0,1)]) (σ':=sg [(1,0)]) (touch:=[1]) (news:=[]) (hl2:=[(1,⟨1,List.map (ow eI) x5.1⟩)]) (n':=4) (r2:= .own 1 (0+(wr (x5.2*v1.cols)).toNat) ((wr ((wr (x5.2+1))*v1.cols)).toNat - (wr (x5.2*v1.cols)).toNat)) (eO (⟨v1.rows,v1.cols,x5.1⟩:Mt) x5.2 v36 hv36) k k ⟨_,_,k,⟨_,_,k,k,⟨_,_,k,k,⟨_,_,k,⟨k,k,k,k⟩,k⟩⟩⟩,⟨_,_,k,k,k⟩⟩ ⟨⟨_,k,k,.inl ⟨k,dK.plainO _⟩⟩,k,trivial⟩ k k k ⟨⟨_,k,k,.inl ⟨k,dK.plainO _⟩⟩,k,trivial⟩ k ⟨k,k,(by simp only [bC,lA,lT,lR,lC,lN]),k⟩ k ⟨k,dK.tame _ _,trivial⟩ k k) ⟨k,k,trivial⟩) k<|am k k ?_
          obtain ⟨q38,h⟩:=cg h
          obtain ⟨v37,hv37,h⟩:=ob h
          refine ae (gL aA q38 k k k k k k k) k<|ae (aC aA k k k k (cM (hv37)) k k) k<|ae (jY k k) k<|am k k ?_
          obtain ⟨v39,hv39,h⟩:=ob h
          refine ae (gB (σ:=sg [(0,1)]) (σ':=sg [(1,0)]) (touch:=[1]) (news:=[]) (hl2:=[(1,⟨1,List.map (ow eI) v39⟩)]) (n':=4) (r2:= .own 1 (0+(wr (x5.2*v1.cols)).toNat) ((wr ((wr (x5.2+1))*v1.cols)).toNat - (wr (x5.2*v1.cols)).toNat)) (aAF a0 x5.1 (0+(wr (x5.2*v1.cols)).toNat) ((wr ((wr (x5.2+1))*v1.cols)).toNat - (wr (x5.2*v1.cols)).toNat) (wr (a0 - v37)) (0+(wr (((x1.2.2.length:Nat):Int)*v1.cols)).toNat) ((wr ((wr (((x1.2.2.length:Nat):Int)+1))*v1.cols)).toNat - (wr (((x1.2.2.length:Nat):Int)*v1.cols)).toNat) v39 hv39) k k ⟨_,_,k,k,⟨_,_,k,⟨k,k,k,k⟩,⟨_,_,k,k,⟨_,_,k,⟨k,k,k,k⟩,k⟩⟩⟩⟩ ⟨⟨_,k,k,.inl ⟨k,dK.plainO _⟩⟩,k,trivial⟩ k k k ⟨⟨_,k,k,.inl ⟨k,dK.plainO _⟩⟩,k,trivial⟩ k ⟨k,k,(by simp only [bC,lA,lT,lR,lC,lN]),k⟩ k ⟨k,dK.tame _ _,trivial⟩ k k) k ?_
          obtain ⟨q40,h⟩:=cg h
          refine an ?_
          refine ⟨by kernel_rfl,?_⟩
          refine bF<|tn<|aO (t:=bU [(0,.int a0),(3,.ptr 0 0 0),(4,.ptr 2 0 0),(6,.own 3 0 x1.2.2.length),(7,.int x1.1),(9,.own 1 (0+(wr (((x1.2.2.length:Nat):Int)*v1.cols)).toNat) ((wr ((wr (((x1.2.2.length:Nat):Int)+1))*v1.cols)).toNat - (wr (((x1.2.2.length:Nat):Int)*v1.cols)).toNat)),(17,.int v1.cols),(18,.int x1.1),(94,.int v1.rows),(95,.int x5.2)] [(0,⟨3,[[.int v1.rows,.int v1.cols,.own 1 0 v39.length]]⟩),(1,⟨1,List.map (ow eI) v39⟩),(2,⟨3,[[.int 0,.int 0,.nil 1]]⟩),(3,⟨1,List.map (ow eI) x1.2.2⟩)] 4 [4,5,6,7]) (aE (σ:=sg [(0,0),(1,1),(2,2),(3,3)]) ⟨(e1 k k),(pE k k),(pE k k),(oE k k),(e1 k k),(oE k k),(e1 k k),(e1 k k),(e1 k k),(e1 k k),trivial⟩ (hX ⟨_,k,k,.inr ⟨_,_,k,⟨_,_,k,k,⟨_,_,k,k,⟨_,_,k,⟨k,k,(by simp only [bC,lA,lT,lR,lC,lN,of_decide_eq_true q40]),k⟩,k⟩⟩⟩,k⟩⟩ k<|hI k k k<|hP k k k k<|hI k k k<|trivial) k)<|rg<|ae (bW k k) k<|am k k<|an<|tn ?_
          obtain rfl:=so h
          exact ⟨_,k,(aE (σ:=sg [(0,0),(1,1),(2,2),(3,3)]) ⟨(e1 k k),(pE k k),(pE k k),(oE k k),(e1 k k),(oE k k),(e1 k k),(e1 k k),(e1 k k),(e1 k k),trivial⟩ (hX ⟨_,k,k,.inr ⟨_,_,k,⟨_,_,k,k,⟨_,_,k,k,⟨_,_,k,⟨k,k,k,k⟩,k⟩⟩⟩,k⟩⟩ k<|hI k k k<|hP k k k k<|hI k k k<|trivial) k)⟩
         ·refine aN k q34<|aR<|bF<|tn<|rg<|ae (bW k k) k<|am k k<|an<|tn ?_
          obtain rfl:=so h
          exact ⟨_,k,(aE (σ:=sg [(0,0),(1,1),(2,2),(3,3)]) ⟨(e1 k k),(pE k k),(pE k k),(oE k k),(e1 k k),(oE k k),(e1 k k),(e1 k k),(e1 k k),(e1 k k),trivial⟩ (hX ⟨_,k,k,.inr ⟨_,_,k,⟨_,_,k,k,⟨_,_,k,k,⟨_,_,k,⟨k,k,k,k⟩,k⟩⟩⟩,k⟩⟩ k<|hI k k k<|hP k k k k<|hI k k k<|trivial) k)⟩
        ·refine aN k q33<|bH<|aH<|aH ?_
         obtain rfl:=so h
         exact ⟨_,k,k,(aE (σ:=sg [(0,0),(1,1),(2,2),(3,3)]) ⟨(e1 k k),(pE k k),(pE k k),(oE k k),(e1 k k),(e1 k k),(e1 k k),trivial⟩ (hX ⟨_,k,k,.inr ⟨_,_,k,⟨_,_,k,k,⟨_,_,k,k,⟨_,_,k,⟨k,k,k,k⟩,k⟩⟩⟩,k⟩⟩ k<|hI k k k<|hP k k k k<|hI k k k<|trivial) k)⟩
       ·rintro e t ⟨rfl,hent⟩
        refine aX<|tn<|aO hent<|rg<|am k k<|am k k<|ae (cW aA k k k k k k k k k k k k) k ?_
        obtain ⟨q42,h⟩:=cg h
        refine ae (xI aA (l:=x1.2.2) (m:=[x1.1]) uJ q42 k k k k k k k k k k k k) k<|aa k k<|an<|bF<|tn<|rg<|ae (bW k k) k<|am k k<|an<|tn ?_
        obtain rfl:=so h
        exact ⟨_,k,(aE (σ:=sg [(0,0),(1,1),(2,2),(3,5)]) ⟨(e1 k k),(pE k k),(pE k k),(oE k k),(e1 k k),(e1 k k),trivial⟩ (hX ⟨_,k,k,.inr ⟨_,_,k,⟨_,_,k,k,⟨_,_,k,k,⟨_,_,k,⟨k,k,k,k⟩,k⟩⟩⟩,k⟩⟩ k<|hI k k k<|hP k k k k<|hI k k k<|trivial) k)⟩
  ·refine aN k q2<|bH<|aH<|aH ?_
   obtain rfl:=so h
   exact ⟨_,k,k,(aE (σ:=sg [(0,0),(1,1),(2,2),(3,3)]) ⟨(pE k k),(pE k k),(oE k k),trivial⟩ (hX ⟨_,k,k,.inr ⟨_,_,k,⟨_,_,k,k,⟨_,_,k,k,⟨_,_,k,⟨k,k,k,k⟩,k⟩⟩⟩,k⟩⟩ k<|hI k k k<|hP k k k k<|hI k k k<|trivial) k)⟩
 ·rintro e t ⟨rfl,hent⟩
  refine aX<|tn<|aO hent<|sQ<|rg<|ae (aC aA k k k k k k k) k<|am k k<|ae (bP aA k k k k k k k k) k<|aa k k<|an ?_
  refine tn<|aK ?_
  obtain rfl:=so h
  exact aT k k k (fJ k (dH (zA (cC (k) (cC (k) (cC (jD dK k k) hZ)))) (dH (tJ (jD dK k k)) jZ)))
def gE (a0:(List (List Int))) (x1:(Int×Int)):Option ((Int×Int) ⊕ Int):=
 bif decide (x1.2<(a0.length:Int)) then
 (Option.bind (dX a0 x1.2) fun v2=>
 bif decide (wr (x1.1+(v2.length:Int))<0) then
 (none)
 else
 (some (.inl (wr (x1.1+(v2.length:Int)),wr (x1.2+1)))))
 else
 (some (.inr x1.1))
def gF (a0:(List (List Int))) (x2:((List Int)×Int)):Option (((List Int)×Int) ⊕ (List Int)):=
 bif decide (x2.2<(a0.length:Int)) then
 (Option.bind (dX a0 x2.2) fun v7=>
 bif decide (x2.1.length+v7.length≤4294967296) then
 (some (.inl ((x2.1++v7),wr (x2.2+1))))
 else none)
 else
 (some (.inr x2.1))
def gZ (a0:(List (List Int))):Option (List Int):=
 Option.bind (Lp (gE a0) (0,0)) fun y4=>
 Option.bind (aLs y4) fun v5=>
 Option.bind (Lp (gF a0) (v5,0)) fun y9=>
 some (y9)
theorem zJ (a0:(List (List Int))) (r:(List Int)) (h:gZ a0=some r):HasC Tryz.prog 271 [.list 1 (List.map (cU 1 eI) a0)] (.list 1 (List.map eI r)):=by
 refine bN aA (rvs:=[.tmp 2]) (ns:=[0,1,2,3]) Tryz.func271 k k Tryz.ntmps271 k k k<|sQ<|rg<|aa k k<|an<|tn<|sQ<|rg<|aa k k<|an ?_
 refine tn<|sQ<|sQ<|rg<|am k k<|ae (dG aA k k k) k<|am k k<|an<|tn<|aL ?_
 obtain ⟨y4,hy4,h⟩:=ob h
 refine cV (body:=(gE a0)) hy4 (fun (x1:(Int×Int))=>bU [(0,.list 1 (List.map (cU 1 eI) a0)),(3,.int x1.1),(9,.list 1 (List.map (cU 1 eI) a0)),(10,.int (a0.length:Int)),(11,.int x1.2)] [] 0 [0,1,2,3]) (fun r e t=>e= .exit 0∧Ent t (bU [(0,.list 1 (List.map (cU 1 eI) a0)),(3,.int r)] [] 0 [0,1,2,3])) (aE (σ:=sg []) ⟨⟨_,k,⟨k,k⟩⟩,(e1 k k),⟨_,k,⟨k,k⟩⟩,(e1 k k),(e1 k k),trivial⟩ trivial k) ?_ ?_
 ·intro x1 o h
  refine sQ<|rg<|ae (bD k k k) k<|an<|tn<|sQ ?_
  rcases cb h with ⟨q1,h⟩|⟨q1,h⟩
  ·refine aJ k q1<|aR<|tn<|sQ<|aL<|sQ<|rg ?_
   obtain ⟨v2,hv2,h⟩:=ob h
   refine ae (bJ aA hv2 k k k k k k) k<|ae (aW aA k k k k k k) k<|aa k k<|an<|tn<|sQ<|rg<|am k k<|am k k<|ae (dG aA k k k) k ?_
   refine ae (bW k k) k<|aa k k<|an<|tn<|sQ<|rg<|am k k<|ae (bD k k k) k<|an<|tn ?_
   rcases cb h with ⟨q3,h⟩|⟨q3,h⟩
   ·refine aJ k q3<|rg ?_
    cases h
   ·refine aN k q3<|aR<|bF<|tn<|rg<|ae (bW k k) k<|am k k<|an<|tn ?_
    obtain rfl:=so h
    exact ⟨_,k,(aE (σ:=sg []) ⟨⟨_,k,⟨k,k⟩⟩,(e1 k k),⟨_,k,⟨k,k⟩⟩,(e1 k k),(e1 k k),trivial⟩ trivial k)⟩
  ·refine aN k q1<|bH<|aH<|aH ?_
   obtain rfl:=so h
   exact ⟨_,k,k,(aE (σ:=sg []) ⟨⟨_,k,⟨k,k⟩⟩,(e1 k k),trivial⟩ trivial k)⟩
 ·rintro e t ⟨rfl,hent⟩
  refine aX<|tn<|aO hent<|sQ<|rg<|am k k ?_
  obtain ⟨v5,hv5,h⟩:=ob h
  refine ae (AEff.conv (dC (x:= .own 0 0 (List.map eI v5).length) (nb:=[(0,⟨1,cJ (List.map eI v5)⟩)]) (aRJ y4 v5 hv5) k (by rfl) k k (dK.good _) (aG aQL (aG (aM k) bG))) (v':= .own 0 0 v5.length) (ed':=[(0,some ⟨1,List.map (ow eI) v5⟩)]) (by simp only [bC]) (eN (nb':=[(0,⟨1,List.map (ow eI) v5⟩)]) (by simp only [cO]))) k<|aa k k<|an<|tn<|sQ<|sQ<|rg<|am k k<|ae (dG aA k k k) k<|am k k ?_
  refine an<|tn<|aL ?_
  obtain ⟨y9,hy9,h⟩:=ob h
  refine cV (body:=(gF a0)) hy9 (fun (x2:((List Int)×Int))=>bU [(6,.own 0 0 x2.1.length),(25,.list 1 (List.map (cU 1 eI) a0)),(26,.int (a0.length:Int)),(27,.int x2.2)] [(0,⟨1,List.map (ow eI) x2.1⟩)] 1 [1,2,3]) (fun r e t=>e= .exit 2∧Ent t (bU [(6,.own 0 0 r.length)] [(0,⟨1,List.map (ow eI) r⟩)] 1 [1,2,3])) (aE (σ:=sg [(0,0)]) ⟨(oE k k),⟨_,k,⟨k,k⟩⟩,(e1 k k),(e1 k k),trivial⟩ (hI k k k<|trivial) k) ?_ ?_
  ·intro x2 o h
   refine sQ<|rg<|ae (bD k k k) k<|an<|tn<|sQ ?_
   rcases cb h with ⟨q6,h⟩|⟨q6,h⟩
   ·refine aJ k q6<|aR<|tn<|sQ<|aL<|sQ<|rg ?_
    obtain ⟨v7,hv7,h⟩:=ob h
    refine ae (bJ aA hv7 k k k k k k) k<|ae (aW aA k k k k k k) k<|aa k k<|an<|tn<|rg<|am k k<|am k k ?_
    obtain ⟨q8,h⟩:=cg h
    refine ae (xI aA (l:=x2.1) (m:=v7) uJ q8 k k k k k k k k k k k k) k<|aa k k<|an<|bF<|tn<|rg<|ae (bW k k) k<|am k k<|an<|tn ?_
    obtain rfl:=so h
    exact ⟨_,k,(aE (σ:=sg [(0,1)]) ⟨(oE k k),⟨_,k,⟨k,k⟩⟩,(e1 k k),(e1 k k),trivial⟩ (hI k k k<|trivial) k)⟩
   ·refine aN k q6<|bH<|aH<|aH ?_
    obtain rfl:=so h
    exact ⟨_,k,k,(aE (σ:=sg [(0,0)]) ⟨(oE k k),trivial⟩ (hI k k k<|trivial) k)⟩
  ·rintro e t ⟨rfl,hent⟩
   refine aX<|tn<|aO hent<|sQ<|rg<|am k k<|aa k k<|an<|tn<|aK ?_
   obtain rfl:=so h
   exact aT k k k (qU (jD dK k k))
end
end Go.Proofs.YtghechfdejhapaaGreat

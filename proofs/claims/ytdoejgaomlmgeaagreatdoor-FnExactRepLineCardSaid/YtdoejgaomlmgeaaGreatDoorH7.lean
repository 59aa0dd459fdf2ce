/-
  Several texts of the claim in one.
-/
import Derived.Lib.AppendZerosOnto
import Derived.Test.YtdoejgaomlmgeaaGreatDoorProg
import Derived.Test.YtdoejgaomlmgeaaGreatDoorH6
set_option linter.unusedVariables false
set_option linter.unusedSimpArgs false
namespace Go.Proofs.YtdoejgaomlmgeaaGreatDoor
open Go.RowKit
noncomputable section
set_option maxRecDepth 10000
structure HasV (P:Program) (f:FuncId) (ds:List AV) (r:AV):Prop where
 enters:Enters P f
 calls: ∀ (w:World) (args:Array Value) (S:List Nat),RepVs w ds args.toList S→Calls P f args w λe w'=> ∃ v S',e= .returned v∧Below w.heap.size w w'∧RepD w' r v S'∧ ∀ x∈S',x∈S
theorem aCr {w:World} {h:Hp} {u:Us} {ν:Nu} {d:AV} {v:Value} (r:Rep1 w h u ν d v) (ok:eP d=true): ∃ S,RepD w d v S∧ ∀ x∈S,iZ h ν x:=by
 cases d <;> simp only [eP,fU] at ok <;> simp only [Rep1] at r
 ·exact ⟨[],by rw [r.1];exact aAY r.2,by simp⟩
 ·exact r
 ·exact r
theorem aDe {w:World} {h:Hp} {u:Us} {ν:Nu} : ∀ {ds:List AV} {vs:List Value},All2 (Rep1 w h u ν) ds vs→ds.all eP=true→ ∃ S,RepVs w ds vs S∧ ∀ x∈S,iZ h ν x
 | [],vs,r,_=>by simp only [All2] at r;subst r;exact ⟨[],by simp [RepVs],by simp⟩
 |d::ds,vs,⟨v,q,e,r1,r2⟩,ok=>by
  subst e;simp only [List.all_cons,cW] at ok;obtain ⟨S1,a1,a2⟩:=aCr r1 ok.1;obtain ⟨S2,b1,b2⟩:=aDe r2 ok.2;refine ⟨S1++S2,by simp only [RepVs];exact ⟨v,q,S1,S2,rfl,rfl,a1,b1⟩,λx hx=>?_⟩;rcases eO.1 hx with h|h
  ·exact a2 x h
  ·exact b2 x h
theorem aPp {w:World} {h:Hp} {u:Us} {ν:Nu} {d:AV} {v:Value} (r:RepA w h u ν d v) (ok:yS d=true): ∃ S,RepD w d v S∧ ∀ x∈S,iZ h ν x:=by
 cases d <;> simp only [yS,eP,fU] at ok <;> simp only [RepA,RepB] at r
 ·exact aCr r rfl
 ·exact aCr r rfl
 ·exact aCr r rfl
 ·obtain ⟨vs,rfl,r⟩:=r;obtain ⟨S,a,b⟩:=aDe r ok;exact ⟨S,by simp only [RepD];exact ⟨vs,rfl,a⟩,b⟩
 ·obtain ⟨vs,rfl,r⟩:=r;obtain ⟨S,a,b⟩:=aDe r ok;exact ⟨S,by simp only [RepD];exact ⟨vs,rfl,a⟩,b⟩
theorem aHW {w:World} {h:Hp} {u:Us} {ν:Nu} : ∀ {ds:List AV} {vs:List Value},All2 (RepA w h u ν) ds vs→ds.all yS=true→ ∃ S,RepVs w ds vs S∧ ∀ x∈S,iZ h ν x
 | [],vs,r,_=>by simp only [All2] at r;subst r;exact ⟨[],by simp [RepVs],by simp⟩
 |d::ds,vs,⟨v,q,e,r1,r2⟩,ok=>by
  subst e;simp only [List.all_cons,cW] at ok;obtain ⟨S1,a1,a2⟩:=aPp r1 ok.1;obtain ⟨S2,b1,b2⟩:=aHW r2 ok.2;refine ⟨S1++S2,by simp only [RepVs];exact ⟨v,q,S1,S2,rfl,rfl,a1,b1⟩,λx hx=>?_⟩;rcases eO.1 hx with h|h
  ·exact a2 x h
  ·exact b2 x h
section
variable {P:Program} {dst:Option Tmp} {ty:TypeId} {pos:String} {aft:Array Edge} {g:Option (Nat×Bool)} {ins:Operand→Option AV} {hp:Hp} {κ:Kp}
theorem aHX {fo:Operand} {xs:Array Operand} {ats:Array TypeId} {f:FuncId} {ds:List AV} {k:Nat} {es:List (List AV)} (hc:HasV P f ds (.list k es)) (hf:ins fo=some (.fn f [])) (hx:evs ins xs.toList=some ds) (hok:ds.all yS=true):
  AEff P ⟨dst,.call ⟨.value fo,xs,ats⟩,ty,pos,aft,g⟩ ins hp κ ⟨.list k es,[],[],[]⟩:=by
 refine ⟨λC s ν a w Q K {hκ} hi' ht hnw hd hs hK=>?_⟩;have h1:=hs.ev ((hi' fo (by simp [Op.operands,Call.operands])).trans hf);simp only [RepA,RepB] at h1;obtain ⟨cv,h1,h2⟩:=h1;simp only [All2] at h2;subst h2;have h3:=aCk hs (xs:=xs.toList) (λy hy=>hi' y (by simp [Op.operands,Call.operands];exact .inr (Array.mem_toList_iff.1 hy))) hx;obtain ⟨S,e1,e2⟩:=aHW h3 hok;have hcall:=hc.calls w (xs.map a.eval) S (by simpa using e1);unfold Oper.wp
 have hex:(execOp a.eval ⟨dst,.call ⟨.value fo,xs,ats⟩,ty,pos,aft,g⟩).run P w= .ok (.enter f (xs.map a.eval)) w:=by
  have:execOp a.eval ⟨dst,.call ⟨.value fo,xs,ats⟩,ty,pos,aft,g⟩=callFunc f (xs.map a.eval):=by
   simp [execOp,resolve,h1,Deferred.ofValue,invoke]
  rw [this];exact hc.enters _ _
 rw [hex];simp only [Oper.upon];refine hcall.mono λe w' ⟨v,S',he,hb,hr,hsub⟩=>?_;subst he;simp only;obtain ⟨φ,hh⟩:=hs.heap;have ext:Ext w s.heap s.used ν w' s.heap s.used ν:=⟨λ_ h=>h,λ_ blk _ h=>⟨blk,h,rfl,rfl,rfl⟩,λx hx h=>⟨hb.block x hx,h⟩,rfl⟩;refine hK ν _ _ (hs.step hd (s':=s.app dst _) ext (hb.mono hs.base) ⟨φ,λb blk hbl=>?_,hh.apart⟩ rfl ?_)
 ·obtain ⟨g1,g2,g3,g4⟩:=hh.blk b blk hbl;exact ⟨g1,g2.ext ext rfl (λy hy=>hb.block y (g2.lt y hy)),g3,g4⟩
 ·exact ⟨S',hr,λx hx=>e2 x (hsub x hx)⟩
theorem aNj {T:List (Nat×Ty)} (hT:TyOk P T) {s:AState} {x:Operand} {zl zh:Operand} {t e:Nat} {y ye:Ty} {ao:Option Addr} {n c:Nat} {kl kh:IntKind} {l h:Int} (q:0≤l∧l≤h∧h≤n∧n≤c) (hx:s.ev x=some (.sc (.slice ao n c))) (hlo:s.ev zl=some (.sc (.int kl l))) (hhi:s.ev zh=some (.sc (.int kh h))) (hy:dH T t=some y) (hd:y.desc= .slice e) (hye:dH T e=some ye):
  AEff P ⟨dst,.slice t x (some zl) (some zh) none,ty,pos,aft,g⟩ s.ev s.heap s.kp ⟨.sc (.slice (if c=l.toNat then ao else ao.map (·.add (l.toNat*ye.size))) (h.toNat - l.toNat) (c - l.toNat)),[],[],[]⟩:=by
 refine AEff.pure λC s' ν a w hi' ht hs=>?_;have h1:=hs.ev ((hi' x (by simp [Op.operands])).trans hx);have h2:=hs.ev ((hi' zl (by simp [Op.operands])).trans hlo);have h3:=hs.ev ((hi' zh (by simp [Op.operands])).trans hhi);simp only [RepA,RepB,Rep1] at h1 h2 h3;obtain ⟨i1,z1,d1,y1⟩:=hT.is hy;obtain ⟨i2,z2,d2,y2⟩:=hT.is hye;have hsb:=tX (P:=P) (len:=n) (cap:=c) (lo:=some (.int kl l)) (hi:=some (.int kh h)) w (.inr ⟨kl,rfl⟩) (.inr ⟨kh,rfl⟩) q.1 q.2.1 q.2.2.1 q.2.2.2;refine ⟨_,?_,xM rfl⟩;simp only [execOp,Instr.sliceAt,Instr.slice,h1.1,h2.1,h3.1,Sem.run_bind,lG (y1.slice hd),Result.andThen_ok,lH y2.info,y2.size,Option.map_none,Option.map_some];rw [hsb];by_cases e:c=l.toNat <;> simp [e]
end
theorem aPq {w:World} {k n c:Nat} {es:List (List AV)} {ao:Option Addr} {S:List Nat} {l h:Int} (r:RepD w (.list k es) (.slice ao n c) S) (q:0≤l∧l≤h∧h≤n): ∃ S',RepD w (.list k ((es.drop l.toNat).take (h.toNat - l.toNat))) (.slice (if c=l.toNat then ao else ao.map (·.add (l.toNat*k))) (h.toNat - l.toNat) (c - l.toNat)) S'∧ ∀ x∈S',x∈S:=by
 simp only [RepD] at r ⊢;obtain ⟨ao',c',h3,h4,h5,h6⟩:=r;cases h3;have hlen:((es.drop l.toNat).take (h.toNat - l.toNat)).length=h.toNat - l.toNat:=by simp;omega
 rw [hlen];by_cases hz:h.toNat - l.toNat=0
 ·refine ⟨[],⟨_,_,rfl,by omega,by omega,.inl ⟨?_,rfl⟩⟩,by simp⟩;rw [hz];simp
 ·rcases h6 with ⟨h6,_⟩|⟨b,o,S',rfl,h8,rfl,h9⟩
  ·have:es.length=0:=by rw [h6];rfl
   omega
  ·rw [aV (by omega)];obtain ⟨U1,g1,g2⟩:=h9.dropT (m:=l.toNat);obtain ⟨U2,g3,g4⟩:=g1.takeT (m:=h.toNat - l.toNat);refine ⟨b::U2,⟨_,_,rfl,by omega,by omega,.inr ⟨b,o+l.toNat*k,U2,by simp [Addr.add_lit],h8,rfl,g3⟩⟩,?_⟩;intro y hy;rcases fE.1 hy with rfl|h'
   ·simp
   ·simp [g2 y (g4 y h')]
def yF (m:Mt) (i:Int):Int:=wr (i*m.cols)
def aCP (m:Mt) (i:Int):Int:=wr (wr (i+1)*m.cols)
def aEt (m:Mt) (i:Int):Option (List Int):=bif (decide (0≤yF m i)&&(decide (yF m i≤aCP m i)&&decide (aCP m i≤(m.cells.length:Int)))) then some ((m.cells.drop (yF m i).toNat).take ((aCP m i).toNat - (yF m i).toNat)) else none
theorem aUP (m:Mt) (i:Int) (ao:Option Addr) (n c:Nat) (q:0≤yF m i∧yF m i≤aCP m i∧aCP m i≤n∧n≤c):HasC Tryz.prog 190 [.agg [.int m.rows,.int m.cols,.sc (.slice ao n c)],.int i]
  (.sc (.slice (if c=(yF m i).toNat then ao else ao.map (·.add ((yF m i).toNat *1))) ((aCP m i).toNat - (yF m i).toNat) (c - (yF m i).toNat))):=by
 refine aCm aP (rvs:=[.tmp 4]) (ns:=[0,1,2,3,4,5,6,7,8,9,10,11,12,13]) Tryz.func190 rfl rfl Tryz.ntmps190 rfl rfl rfl ?_;refine aNQ ?_;refine aEi ?_;refine jA (aTu rfl rfl rfl rfl) rfl rfl rfl ?_;refine jA (aBY rfl) rfl rfl rfl ?_;refine aGw ?_;refine aRF ?_;refine aNQ ?_;refine aEi ?_;refine jA (yD aP rfl rfl rfl rfl rfl rfl rfl) rfl rfl rfl ?_;refine jA (fD aP rfl rfl rfl rfl rfl rfl rfl) rfl rfl rfl ?_;refine jA (aDs rfl) rfl rfl rfl ?_;refine jA (yD aP rfl rfl rfl rfl rfl rfl rfl) rfl rfl rfl ?_;refine jA (fD aP rfl rfl rfl rfl rfl rfl rfl) rfl rfl rfl ?_;refine jA (eX rfl rfl) rfl rfl rfl ?_;refine jA (aDs rfl) rfl rfl rfl ?_;refine jA (bB rfl rfl) rfl rfl rfl ?_;refine jA (yD aP rfl rfl rfl rfl rfl rfl rfl) rfl rfl rfl ?_;refine jA (fD aP rfl rfl rfl rfl rfl rfl rfl) rfl rfl rfl ?_;refine jA (eX rfl rfl) rfl rfl rfl ?_;refine jA (aNj aP (l:=yF m i) (h:=aCP m i) q rfl rfl rfl rfl rfl rfl) rfl rfl rfl ?_;refine jA (aBY rfl) rfl rfl rfl ?_;refine aGw ?_;refine aRF ?_;refine aD ?_;exact aZ rfl rfl rfl (lJ rfl)
theorem aNk (m:Mt) (i:Int) (r:List Int) (h:aEt m i=some r):HasV Tryz.prog 190 [.agg (eM m),.int i] (.list 1 (List.map eI r)):=by
 obtain ⟨q,h⟩:=cg h;obtain rfl:=so h;simp only [cW,iO] at q;refine ⟨Enters.mk Tryz.func190 (by kernel_rfl) (by kernel_rfl),λw args S hargs=>?_⟩;obtain ⟨args⟩:=args;simp only [RepVs] at hargs;obtain ⟨v,r,S1,S2,h1,rfl,h3,v2,r2,S3,S4,h4,rfl,h5,rfl,rfl⟩:=hargs;subst h4 h1;simp only [RepD,eM] at h3;obtain ⟨vs,rfl,h3⟩:=h3;simp only [RepVs] at h3;obtain ⟨u1,r1,T1,T2,rfl,rfl,g1,u2,r3,T3,T4,rfl,rfl,g2,u3,r4,T5,T6,rfl,rfl,g3,rfl,rfl⟩:=h3
 have hu3: ∃ ao n c,u3= .slice ao n c∧n=m.cells.length∧n≤c:=by
  simp only [RepD] at g3;obtain ⟨a,c,rfl,g4,_⟩:=g3;exact ⟨_,_,_,rfl,by simp [aRG],g4⟩
 obtain ⟨ao,n,c,rfl,hn,hnc⟩:=hu3
 have hcall:=(aUP m i ao n c ⟨q.1,q.2.1,by omega,hnc⟩).calls w #[.agg #[u1,u2,.slice ao n c],v2] (T1++(T3++([]++[]))++(S3++[])) (by
  simp only [RepVs];refine ⟨_,_,_,_,rfl,rfl,?_,_,_,_,_,rfl,rfl,h5,rfl,rfl⟩;simp only [RepD];refine ⟨[u1,u2,.slice ao n c],rfl,?_⟩;simp only [RepVs]
  exact ⟨_,_,_,_,rfl,rfl,by simpa only [RepD] using g1,_,_,_,_,rfl,rfl,by simpa only [RepD] using g2,_,_,[],[],rfl,rfl,aAY rfl,rfl,rfl⟩)
 refine hcall.mono λe w' ⟨v,S',he,hb,hr,_⟩=>?_;simp only [aKK,aPc,aBc] at hr;obtain ⟨rfl,_,_⟩:=hr;obtain ⟨U,k1,k2⟩:=aPq (l:=yF m i) (h:=aCP m i) g3 ⟨q.1,q.2.1,by omega⟩;refine ⟨_,U,he,hb,?_,?_⟩
 ·have hes:((aSv m.cells).drop (yF m i).toNat).take ((aCP m i).toNat - (yF m i).toNat)=List.map eI ((m.cells.drop (yF m i).toNat).take ((aCP m i).toNat - (yF m i).toNat)):=by
   show ((m.cells.map eI).drop _).take _=_;rw [List.map_take,List.map_drop]
  rw [←hes];exact k1.below hb
 ·intro x hx;have:=k2 x hx;simp [this]
def aRb (hp:Hp) (touch:List Nat):List (Nat×Option Blk)→Prop
 | []=>True
 |(b,x)::r=>hp b=x∧touch.contains b=true∧aRb hp touch r
theorem aFk {hp h:Hp} {touch:List Nat} (ht: ∀ b∈touch,h b=hp b): ∀ {ed:List (Nat×Option Blk)},aRb hp touch ed→bJ ed h=h
 | [],_=>rfl
 |(b,x)::r,⟨h1,h2,h3⟩=>by
  funext c;simp only [bJ];by_cases e:c=b
  ·subst e;rw [cE,aN,←h1,ht c (by simpa using h2)]
  ·rw [cI e,aS,aFk ht h3]
theorem AEff.pureE {P:Program} {o:Oper} {ins:Operand→Option AV} {hp:Hp} {κ:Kp} {v:AV} {tc:List Nat} {ed:List (Nat×Option Blk)} (h:AEff P o ins hp κ ⟨v,tc,ed,[]⟩) (hs:aRb hp tc ed):AEff P o ins hp κ ⟨v,tc,[],[]⟩:=by
 refine ⟨λC s ν a w Q K {hκ} hi ht hn hd hsim hK=>h.out C s ν a w Q K (hκ:=hκ) hi ht hn hd hsim λν' a' w' hs'=>hK ν' a' w' ?_⟩
 have e:s.app o.dst ⟨v,tc,ed,[]⟩=s.app o.dst ⟨v,tc,[],[]⟩:=by
  unfold AState.app;rw [aFk ht hs];rfl
 rw [←e];exact hs'
theorem aEE {P:Program} {t tn e bytes:Nat} {size:Nat} (et:ElemTy P t e size bytes) (htn:P.underlying tn=some (.int .i64)) (hs:0<size) (w:World) (n:Nat) (h0:0<n) (hn:n≤1048576) (hb:n*bytes≤140737488355328) (ty:Nat):
  ∃ G cur,n≤G∧G≤maxLen∧cur.size=G*size∧(Builtin.append_ #[t,tn] ty #[.slice none 0 0,.int .i64 n]).run P w= .ok (.slice (some ⟨w.heap.size,0,none⟩) n G) (w.drew.alloc (.cells cur e)):=by
 obtain ⟨i,z,h1,h2,h3,h4,h5⟩:=et.hi;have hold:(Builtin.firstCells i.size 0 (.slice none 0 0)).run P w.drew= .ok ([]:List Value).toArray w.drew:=run_firstCells_none w.drew i.size 0 0 0;have h:=Lib.run_append_grow_zeros w t tn ty e i z .i64 .i64 et.ht htn h1 h2 none 0 0 [] hold n h0 (by rw [h3];exact hs) (by omega) (by omega) (by rw [h4];omega) (growslice_fits (by omega) (by rw [h4];simpa using hb));have hG:=grownCap_ge w (0+n) 0 e;have hM:=grownCap_le_maxLen w (0+n) 0 e (by unfold maxLen;omega);rw [Nat.zero_add] at h hG hM;refine ⟨grownCap w n 0 e,_,hG,hM,?_,h⟩;simp only [Array.size_append,List.size_toArray,List.length_nil,Nat.zero_add];unfold Builtin.zeroCells;simp only [Array.size_map,Array.size_range,h5];rw [←Nat.add_mul];congr 1;omega
set_option maxRecDepth 100000 in
set_option maxHeartbeats 1000000 in
theorem aTE (n:Nat) (w:World) (hn:n≤1048576):
  Calls Tryz.prog 248 #[.slice none 0 0,.int .i64 n] w (Ret w λv w'=> ∃ S,Own 3 aFx w' w.heap.size v [] S):=by
 by_cases h0:n=0
 ·subst h0;show Calls Tryz.prog 248 #[.slice none 0 0,.int .i64 0] w _
  go_enter Tryz.func248,Tryz.ntmps248
  go_wp2
  go_ret
  exact ⟨_,rfl,Below.refl _ _,[],Own.nil _ _ _ _⟩
 ·have h1: ¬ ((n:Int)<0):=by omega
  have h4:(n:Int)>0:=by omega
  have key: ∀ ty,∃ G cur,n≤G∧G≤maxLen∧cur.size=G*1∧(Builtin.append_ #[22,3] ty #[.slice none 0 0,.int .i64 n]).run Tryz.prog w= .ok (.slice (some ⟨w.heap.size,0,none⟩) n G) (w.drew.alloc (.cells cur 3)):=λty=>
   aEE aVB Tryz.underlying3 (by decide) w n (by omega) hn (by omega) ty
  obtain ⟨G,cur,hG,hM,hc,hr0⟩:=key 22;have hG63:G≤9223372036854775807:=by unfold maxLen at hM;omega
  have HE:Hid (Own 3 aFx (w.drew.alloc (.cells cur 3)) w.heap.size (.slice (some ⟨w.heap.size,0,none⟩) 0 G) [] [w.heap.size]∧Below w.heap.size w (w.drew.alloc (.cells cur 3))):=
   ⟨⟨[],[],World.ownsRow_made w.drew cur G (bA _) hM hc,⟨rfl,rfl⟩,rfl,⟨by simp,by simp⟩⟩,((aFV 1 (Below.refl _ _):Below w.heap.size w (w.drewN 1))).alloc (bA _) _⟩
  clear key hM hc
  go_enter Tryz.func248,Tryz.ntmps248
  go_wp2_with (at_builtin;refine Lib.wpList_append_run _ rfl _ _ _ _ rfl _ _ rfl rfl _ _ hr0 ?_)
  all_goals (go_ret;exact ⟨_,rfl,HE.out.2,_,HE.out.1⟩)
def aNl (n:Int):Option (List Int):=bif (decide (0≤n)&&decide (n≤1048576)) then some [] else none
theorem aOr {h:Hp} {k:Nat} :viewA h (.nil k) (.sc (.slice none 0 0)):=rfl
theorem aUQ (n:Int) (r:List Int) (h:aNl n=some r):HasC Tryz.prog 248 [.sc (.slice none 0 0),.int n] (.list 1 (List.map eI r)):=by
 obtain ⟨q,h⟩:=cg h;obtain rfl:=so h;simp only [cW,iO] at q;refine ⟨Enters.mk Tryz.func248 (by kernel_rfl) (by kernel_rfl),λw args S hargs=>?_⟩;obtain ⟨args⟩:=args;simp only [RepVs,RepD] at hargs;obtain ⟨v,r,S1,S2,h1,rfl,⟨rfl,_,rfl⟩,v2,r2,S3,S4,rfl,rfl,⟨rfl,_,rfl⟩,rfl,rfl⟩:=hargs;subst h1;have hc:=aTE n.toNat w (by omega);rw [show ((n.toNat:Nat):Int)=n by omega] at hc;refine hc.mono λe w' ⟨v,he,hb,S2,ho⟩=>?_;obtain ⟨g1,g2⟩:=aHV ho;exact ⟨v,S2,he,hb,g1,g2⟩
theorem aNm {σ:Nat→Option Nat} {n:Nat} {α:Type} {e:α→List AV} {z:α} {zc:List AV} (h:All2 (fL σ n) zc (ow e z)) (m:Nat):All2 (All2 (fL σ n)) (List.replicate m zc) ((List.replicate m z).map (ow e)):=by
 induction m with
 |zero=>rfl
 |succ m ih=>exact ⟨_,_,rfl,h,ih⟩
end
noncomputable section
structure SOps (P:Program) (ops:Array Oper) (nt:Nat) (l:List Oper) (s:AState) (K:AState→Prop):Prop where
 out: ∀ (C:Ctx),C.nt=nt→ ∀ (ν:Nu) (a:Act) (w:World),Sim C s ν a w→ ∀ (n:Nat) (Q:Exit→Act→World→Prop),(∀ s' ν' a' w',K s'→Sim C s' ν' a' w'→Q .normal a' w')→wpListIn (fw C.rd) n P ops Q l a w
section
variable {P:Program} {ops:Array Oper} {nt:Nat} {l:List Oper} {s:AState} {K:AState→Prop}
theorem aRc (h:K s):SOps P ops nt [] s K:=⟨λC hC ν a w hs n Q hQ=>hQ s ν a w h hs⟩
theorem aLy {d:Option Tmp} {op:Op} {ty:TypeId} {pos:String} {aft:Array Edge} {g:Option (Nat×Bool)} {e:Eff} (he:AEff P ⟨d,op,ty,pos,aft,g⟩ s.ev s.heap s.kp e) (hd:aGx ⟨d,op,ty,pos,aft,g⟩ nt=true) (hg:mR ops s.env ⟨d,op,ty,pos,aft,g⟩=some true) (hn:(e.news.all λb=> !s.used b)=true)
  (h:SOps P ops nt l (s.app d e) K):SOps P ops nt (⟨d,op,ty,pos,aft,g⟩::l) s K:=⟨λC hC ν a w hs n Q hQ=>by
 subst hC;refine wpListIn_step λK' hK'=>?_;have hst:aLY P ops C.nt ⟨d,op,ty,pos,aft,g⟩ s e:=⟨aKJ hd,.inl ⟨hg,he,λb hb=>by have:=List.all_eq_true.1 hn b hb;simpa using this⟩⟩
 exact aDU hst hs λν' a' w' hs'=>hK' _ _ (h.out C rfl ν' a' w' hs' n Q hQ)⟩
theorem aNn {Q:Exit→AState→Prop} {id:Nat} (h:SOps P l.toArray nt l s (Q .normal)):AC P nt (.region id l.toArray false) s Q:=by
 refine ⟨λC hC ν a w hs n=>?_⟩;exact wpIn_region_lit (h.out C hC ν a w hs n _ λs' ν' a' w' hq hs'=>⟨s',ν',hq,hs'⟩)
end
def df1:AV→Bool
 | .sc _=>true
 | .nil _=>true
 | .dead=>true
 | .own _ _ _=>true
 | .ptr _ _ _=>true
 |_=>false
def dfC:AV→Bool
 | .abs _ _=>true
 | .fn _ cs=>cs.all df1
 |x=>df1 x
def dfB:AV→Bool
 | .agg cs=>cs.all df1
 |x=>df1 x
def dfA:AV→Bool
 | .tuple cs=>cs.all dfB
 |x=>dfB x
section
variable {w w':World} {h h':Hp} {u u':Us} {ν ν':Nu} (U: ∀ b,u b=true→u' b=true) (O: ∀ b blk',u b=true→h' b=some blk'→ ∃ blk,h b=some blk∧blk.k=blk'.k∧blk.es.length=blk'.es.length∧ν' b=ν b)
include U O
theorem aKR: ∀ {x:AV} {v:Value},Rep1 w h u ν x v→df1 x=true→Rep1 w' h' u' ν' x v:=by
 intro x v r t;cases x <;> simp only [df1,fU] at t <;> simp only [Rep1] at r ⊢
 ·exact r
 ·exact r
 ·refine ⟨U _ r.1,λblk hb=>?_⟩;obtain ⟨blk0,e1,e2,e3,e4⟩:=O _ blk r.1 hb;have:=r.2 blk0 e1;rw [e4,←e3,←e2];exact this
 ·refine ⟨U _ r.1,λblk hb=>?_⟩;obtain ⟨blk0,e1,e2,e3,e4⟩:=O _ blk r.1 hb;have:=r.2 blk0 e1;rw [e4,←e2];exact this
end
section
variable {w w':World} {h h':Hp} {u u':Us} {ν ν':Nu} (U: ∀ b,u b=true→u' b=true) (O: ∀ b blk',u b=true→h' b=some blk'→ ∃ blk,h b=some blk∧blk.k=blk'.k∧blk.es.length=blk'.es.length∧ν' b=ν b)
include U O
theorem aHY: ∀ {xs:List AV} {vs:List Value},All2 (Rep1 w h u ν) xs vs→xs.all df1=true→All2 (Rep1 w' h' u' ν') xs vs
 | [],vs,r,_=>r
 |x::xs,vs,⟨v,q,e,r,k⟩,t=>by
  simp only [List.all_cons,cW] at t;exact ⟨v,q,e,aKR U O r t.1,aHY k t.2⟩
theorem aOs {x:AV} {v:Value} (r:RepB w h u ν x v) (t:dfB x=true):RepB w' h' u' ν' x v:=by
 cases x <;> simp only [RepB] at r ⊢ <;> first
  |exact aKR U O r t
  |(obtain ⟨vs,e,r⟩:=r;exact ⟨vs,e,aHY U O r t⟩)
  |(simp only [dfB,df1,fU] at t)
theorem aTF {x:AV} {v:Value} (r:RepA w h u ν x v) (t:dfA x=true):RepA w' h' u' ν' x v:=by
 by_cases ht: ∃ cs,x= .tuple cs
 ·obtain ⟨cs,rfl⟩:=ht;obtain ⟨vs,e,r⟩:=r;refine ⟨vs,e,r.congrM λy hy d hd=>aOs U O hd ?_⟩;exact List.all_eq_true.1 t y hy
 ·have r':RepB w h u ν x v:=by cases x <;> first|exact r|exact absurd ⟨_,rfl⟩ ht
  have t':dfB x=true:=by cases x <;> first|exact t|exact absurd ⟨_,rfl⟩ ht
  have:=aOs (w':=w') U O r' t';cases x <;> first|exact this|exact absurd ⟨_,rfl⟩ ht
theorem aTG {x:AV} {v:Value} {S:List Nat} (hk: ∀ b∈S,w'.heap[b]? =w.heap[b]?) (r:CellRep w h u ν x v S) (t:dfC x=true):CellRep w' h' u' ν' x v S:=by
 cases x <;> simp only [CellRep] at r ⊢ <;> first
  |exact ⟨aKR U O r.1 t,r.2⟩
  |(obtain ⟨⟨vs,e,q⟩,q2⟩:=r;exact ⟨⟨vs,e,aHY U O q t⟩,q2⟩)
  |exact r.keep hk
  |exact r
theorem aEF: ∀ {xs:List AV} {vs:List Value} {S:List Nat},(∀ b∈S,w'.heap[b]? =w.heap[b]?)→CellsRep w h u ν xs vs S→(∀ c∈xs,dfC c=true)→CellsRep w' h' u' ν' xs vs S
 | [],_,_,_,r,_=>r
 |x::xs,vs,S,hk,⟨v,q,S1,S2,e1,e2,r,k⟩,t=>by
  subst e2;exact ⟨v,q,S1,S2,e1,rfl,aTG U O (λb hb=>hk b (by simp [hb])) r (t x (by simp)),aEF (λb hb=>hk b (by simp [hb])) k (λc hc=>t c (by simp [hc]))⟩
theorem aPr {b:Nat} {blk:Blk} {S:List Nat} (hν:ν' b=ν b) (hk: ∀ x∈S,w'.heap[x]? =w.heap[x]?) (r:BlkOk w h u ν b blk S) (t: ∀ cs∈blk.es,∀ c∈cs,dfC c=true):BlkOk w' h' u' ν' b blk S:=by
 refine ⟨r.1,?_⟩;rcases r.2 with ⟨q1,q2,q3⟩|⟨β,c,arr,ty,T,vs,q1,q2,q3,q4,q5,q6,q7,q8⟩
 ·exact .inl ⟨hν.trans q1,q2,q3⟩
 ·subst q6;refine .inr ⟨β,c,arr,ty,T,vs,hν.trans q1,(hk β (by simp)).trans q2,q3,q4,q5,rfl,q7,aEF U O (λx hx=>hk x (by simp [hx])) q8 λc hc=>?_⟩;obtain ⟨cs,hcs,hc⟩:=List.mem_flatten.1 hc;exact t cs hcs c hc
end
end
noncomputable section
theorem aLz {w:World} {h:Hp} {u:Us} {ν:Nu} : ∀ {cs:List AV} {vs:List Value} {S:List Nat},RepOV w cs vs S→CellsRep w h u ν (cs.map qG) vs S
 | [],vs,S,r=>by simp only [RepOV] at r;exact r
 |c::cs,vs,S,r=>by
  simp only [RepOV] at r;obtain ⟨v,q,S1,S2,e1,e2,_,h3,h4⟩:=r;refine ⟨v,q,S1,S2,e1,e2,?_,aLz h4⟩;cases c with
  |sc x=>simp only [RepO] at h3;exact ⟨⟨h3.1,h3.2.1⟩,h3.2.2⟩
  |list k es=>exact h3
  |_=>simp only [RepO] at h3
theorem aNo {k:Nat} {es:List (List AV)} (h: ∀ cs∈es,cs.length=k): ∀ cs∈dA es,cs.length=k:=by
 intro cs hcs;unfold dA at hcs;obtain ⟨d,hd,rfl⟩:=List.mem_map.1 hcs;rw [cK];exact h d hd
theorem aHZ (es:List (List AV)):(dA es).flatten=es.flatten.map qG:=by
 unfold dA;rw [List.map_flatten]
theorem aRd {s:AState} {b c i j k':Nat} {blk:Blk} {cs:List AV} {es':List (List AV)} (hT:s.kp.T=true) (hb:s.heap b=some blk) (hi:blk.es[i]? =some cs) (hj:cs[j]? =some (.abs k' es')) (hc:s.used c=false) (hdf: ∀ t x,s.env t=some x→dfA x=true) (hdc: ∀ b blk,s.heap b=some blk→ ∀ cs∈blk.es,∀ c∈cs,dfC c=true):
  Ent s ⟨s.env,bJ [(c,some ⟨k',dA es'⟩),(b,some ⟨blk.k,blk.es.set i (cs.take j++[.own c 0 es'.length]++cs.drop (j+1))⟩)] s.heap,gL [c] s.used,s.ns,s.kp⟩:=by
 intro C ν a w hs;obtain ⟨φ,hh⟩:=hs.heap;obtain ⟨hub,⟨hk1,hx1⟩,hnd1,hB1⟩:=hh.blk b blk hb;have hne:b≠c:=by rintro rfl;rw [hub] at hc;cases hc
 have hcn:s.heap c=none:=hs.unused hc;have hcs:=hk1 cs (List.mem_of_getElem? hi)
 have hjl:j<cs.length:=by
  rcases dV j cs.length with h'|h'
  ·exact h'
  ·rw [iP h'] at hj;cases hj
 rcases hx1 with ⟨q1,q2,_⟩|⟨β,cap,arr,ty,T,vs,q1,q2,q3,q4,q5,q6,q7,q8⟩
 ·rw [q2] at hi;simp at hi
 have hdrop:blk.es.flatten.drop (i*blk.k+j)= .abs k' es'::blk.es.flatten.drop (i*blk.k+j+1):=by
  obtain ⟨r,hr⟩:=wV hk1 hi;have h1:blk.es.flatten.drop (i*blk.k+j)=(cs++r).drop j:=by rw [←hr,List.drop_drop]
  have h2:blk.es.flatten.drop (i*blk.k+j+1)=(cs++r).drop (j+1):=by rw [←hr,List.drop_drop,Nat.add_assoc]
  rw [h1,h2,List.drop_append_of_le_length (by omega),List.drop_append_of_le_length (by omega),List.drop_eq_getElem_cons hjl];have:cs[j]= .abs k' es':=by simpa [hjl] using hj
  rw [this];rfl
 have hfl:blk.es.flatten=blk.es.flatten.take (i*blk.k+j)++([.abs k' es']++blk.es.flatten.drop (i*blk.k+j+1)):=by
  rw [List.singleton_append,←hdrop,List.take_append_drop]
 rw [hfl] at q8;obtain ⟨v1,v2,S1,S2,e1,e2,e3,e4,e5⟩:=q8.append_inv;obtain ⟨v3,v4,S3,S4,f1,f2,f3,f4,f5⟩:=e5.append_inv;subst f1 f2;obtain ⟨v,r0,S5,S6,rfl,rfl,g1,⟨rfl,rfl⟩⟩:=f4;simp only [CellRep] at g1;rw [List.append_nil] at e2;have hφ:φ b=β::(S1++(S5++S4)):=by rw [q6,e2]
 obtain ⟨νc,hνc⟩: ∃ νc:Option (Nat×Nat),(∀ (h:Hp) (u:Us) (ν':Nu),ν' c=νc→BlkOk w h u ν' c ⟨k',dA es'⟩ S5)∧(νc=none→v= .slice none 0 0)∧(∀ β' cap',νc=some (β',cap')→ownV β' 0 k' es'.length cap' v∧β'∈S5):=by
  simp only [RepO] at g1;rcases g1 with ⟨rfl,rfl,rfl⟩|⟨β',cap',arr',ty',T',vs',p1,p2,p3,p4,p5,p6,rfl,p8,p9⟩
  ·exact ⟨none,λh u ν' hν=>⟨by simp [dA],.inl ⟨hν,rfl,rfl⟩⟩,λ_=>rfl,λ_ _ e=>by cases e⟩
  ·have hl:(dA es').length=es'.length:=by simp [dA]
   refine ⟨some (β',cap'),λh u ν' hν=>⟨aNo p6,.inr ⟨β',cap',arr',ty',T',vs',hν,p2,p3,by show (dA es').length ≤cap';omega,p5,rfl,by show arr'.toList.take ((dA es').length *k')=vs';rw [hl];exact p8,?_⟩⟩,λe=>by (cases e),λx y e=>?_⟩
   ·show CellsRep w h u ν' (dA es').flatten vs' T';rw [aHZ];exact aLz (aBW.1 p9)
   ·cases e;rw [p1];exact ⟨aEd,by simp⟩
 obtain ⟨hB,hn0,hn1⟩:=hνc;let ν':Nu:=⟨λx=>if x=c then νc else ν x,ν.ok⟩;have hν1:ν' c=νc:=aU rfl;have hν2: ∀ x,x≠c→ν' x=ν x:=λx hx=>aV hx;have hl1:bJ [(c,some ⟨k',dA es'⟩),(b,some ⟨blk.k,blk.es.set i (cs.take j++[.own c 0 es'.length]++cs.drop (j+1))⟩)] s.heap c=some ⟨k',dA es'⟩:=by simp [bJ]
 have hl2:bJ [(c,some ⟨k',dA es'⟩),(b,some ⟨blk.k,blk.es.set i (cs.take j++[.own c 0 es'.length]++cs.drop (j+1))⟩)] s.heap b=some ⟨blk.k,blk.es.set i (cs.take j++[.own c 0 es'.length]++cs.drop (j+1))⟩:=by simp [bJ,cI hne]
 have hl3: ∀ x,x≠c→x≠b→bJ [(c,some ⟨k',dA es'⟩),(b,some ⟨blk.k,blk.es.set i (cs.take j++[.own c 0 es'.length]++cs.drop (j+1))⟩)] s.heap x=s.heap x:=λx h1 h2=>by simp [bJ,cI h1,cI h2]
 generalize hH:bJ [(c,some ⟨k',dA es'⟩),(b,some ⟨blk.k,blk.es.set i (cs.take j++[.own c 0 es'.length]++cs.drop (j+1))⟩)] s.heap=H at*;have U: ∀ x,s.used x=true→gL [c] s.used x=true:=λx hx=>by rw [iV,hx,Bool.or_true]
 have O: ∀ x blk',s.used x=true→H x=some blk'→ ∃ y,s.heap x=some y∧y.k=blk'.k∧y.es.length=blk'.es.length∧ν' x=ν x:=by
  intro x blk' hu hx;have hxc:x≠c:=by rintro rfl;rw [hu] at hc;cases hc
  by_cases e:x=b
  ·subst e;rw [hl2] at hx;cases hx;exact ⟨blk,hb,rfl,by simp,hν2 _ hxc⟩
  ·rw [hl3 x hxc e] at hx;exact ⟨blk',hx,rfl,rfl,hν2 _ hxc⟩
 have hfl2: ∀ d∈blk.es.flatten,dfC d=true:=by
  intro d hd;obtain ⟨ds,h1,h2⟩:=List.mem_flatten.1 hd;exact hdc b blk hb ds h1 d h2
 refine ⟨ν',hs.below,hs.base,hs.fresh,hs.defers,hs.size,λt x hx=>by obtain ⟨v,h1,h2⟩:=hs.env t x hx;exact ⟨v,h1,aTF U O h2 (hdf t x hx)⟩,⟨λx=>if x=c then S5 else if x=b then β::(S1++S4) else φ x,?_,?_⟩,hs.kp,?_,hs.szE,hs.okM,hs.okF⟩
 ·intro x blk2 hx;replace hx:H x=some blk2:=hx;have hnd:=hnd1;rw [hφ] at hnd;have n1:=List.nodup_cons.1 hnd;have n2:=List.nodup_append.1 n1.2;have n3:=List.nodup_append.1 n2.2.1;by_cases e:x=c
  ·subst e;rw [hl1] at hx;cases hx;simp only [if_true];refine ⟨by rw [iV];simp,hB _ _ _ hν1,n3.1,λy hy=>hB1 y (by rw [hφ];simp [hy])⟩
  ·by_cases e0:x=b
   ·subst e0;rw [hl2] at hx;cases hx;simp only [aV e,if_true];refine ⟨U _ hub,⟨?_,.inr ⟨β,cap,arr,ty,S1++S4,vs,(hν2 _ e).trans q1,q2,q3,by simpa using q4,q5,rfl,by simpa using q7,?_⟩⟩,?_,?_⟩
    ·intro d hd;rcases List.mem_or_eq_of_mem_set hd with h|h
     ·exact hk1 d h
     ·rw [h];simp;omega
    ·rw [xO (n:=1) hk1 hi rfl (by omega),e1]
     have m1:CellsRep w H (gL [c] s.used) ν' [.own c 0 es'.length] [v] []:=by
      refine ⟨v,[],[],[],rfl,rfl,⟨⟨by rw [iV];simp,λblk3 h3=>?_⟩,rfl⟩,rfl,rfl⟩;rw [hl1] at h3;cases h3;refine ⟨by simp [dA],λh4=>hn0 (hν1.symm.trans h4),λβ' c' h4=>(hn1 β' c' (hν1.symm.trans h4)).1⟩
     have m2:=(aEF (w':=w) (h':=H) (u':=gL [c] s.used) (ν':=ν') U O (λ_ _=>rfl) e4 (λd hd=>hfl2 d (List.mem_of_mem_take hd))).append (m1.append (aEF (w':=w) (h':=H) (u':=gL [c] s.used) (ν':=ν') U O (λ_ _=>rfl) f5 (λd hd=>hfl2 d (List.mem_of_mem_drop hd))));rw [List.append_assoc (List.take (i*blk.k+j) blk.es.flatten)];simpa using m2
    ·refine List.nodup_cons.2 ⟨λhm=>n1.1 ?_,List.nodup_append.2 ⟨n2.1,n3.2.1,λy hy z hz=>n2.2.2 y hy z (by simp [hz])⟩⟩;rcases eO.1 hm with h|h <;> simp [h]
    ·intro y hy;refine hB1 y ?_;rw [hφ];rcases fE.1 hy with rfl|h
     ·simp
     ·rcases eO.1 h with h|h <;> simp [h]
   ·rw [hl3 x e e0] at hx;simp only [aV e,aV e0];obtain ⟨p1,p2,p3,p4⟩:=hh.blk x blk2 hx;exact ⟨U _ p1,aPr U O (hν2 _ e) (λ_ _=>rfl) p2 (hdc x blk2 hx),p3,p4⟩
 ·have hnd:=hnd1;rw [hφ] at hnd;have n1:=List.nodup_cons.1 hnd;have n2:=List.nodup_append.1 n1.2;have n3:=List.nodup_append.1 n2.2.1;have hbn:s.heap b≠none:=by rw [hb];simp
  have hS5: ∀ y,y∈S5→y∈φ b:=λy hy=>by rw [hφ];simp [hy]
  have hSb: ∀ y,y∈β::(S1++S4)→y∈φ b:=λy hy=>by
   rw [hφ];rcases fE.1 hy with rfl|h
   ·simp
   ·rcases eO.1 h with h|h <;> simp [h]
  have hcb: ∀ y,y∈S5→y ∉ β::(S1++S4):=by
   intro y h5 hy;rcases fE.1 hy with rfl|h
   ·exact n1.1 (by simp [h5])
   ·rcases eO.1 h with h|h
    ·exact n2.2.2 y h y (by simp [h5]) rfl
    ·exact n3.2.2 y h5 y h rfl
  intro x1 x2 y hx1 hx2 hne2 hy1 hy2;replace hx1:H x1≠none:=hx1;replace hx2:H x2≠none:=hx2;replace hy1:y∈(if x1=c then S5 else if x1=b then β::(S1++S4) else φ x1):=hy1;replace hy2:y∈(if x2=c then S5 else if x2=b then β::(S1++S4) else φ x2):=hy2;by_cases a1:x1=c <;> by_cases a2:x2=c
  ·exact hne2 (a1.trans a2.symm)
  ·rw [aU a1] at hy1;rw [aV a2] at hy2;by_cases b2:x2=b
   ·rw [aU b2] at hy2;exact hcb y hy1 hy2
   ·rw [aV b2] at hy2;rw [hl3 x2 a2 b2] at hx2;exact hh.apart b x2 y hbn hx2 (Ne.symm b2) (hS5 y hy1) hy2
  ·rw [aV a1] at hy1;rw [aU a2] at hy2;by_cases b1:x1=b
   ·rw [aU b1] at hy1;exact hcb y hy2 hy1
   ·rw [aV b1] at hy1;rw [hl3 x1 a1 b1] at hx1;exact hh.apart b x1 y hbn hx1 (Ne.symm b1) (hS5 y hy2) hy1
  ·rw [aV a1] at hy1;rw [aV a2] at hy2;by_cases b1:x1=b <;> by_cases b2:x2=b
   ·exact hne2 (b1.trans b2.symm)
   ·rw [aU b1] at hy1;rw [aV b2] at hy2;rw [hl3 x2 a2 b2] at hx2;exact hh.apart b x2 y hbn hx2 (Ne.symm b2) (hSb y hy1) hy2
   ·rw [aV b1] at hy1;rw [aU b2] at hy2;rw [hl3 x1 a1 b1] at hx1;exact hh.apart b x1 y hbn hx1 (Ne.symm b1) (hSb y hy2) hy1
   ·rw [aV b1] at hy1;rw [aV b2] at hy2;rw [hl3 x1 a1 b1] at hx1;rw [hl3 x2 a2 b2] at hx2;exact hh.apart x1 x2 y hx1 hx2 hne2 hy1 hy2
 ·refine ⟨λx hx=>U x (hs.ext.used x hx),λx blk' hx hl'=>?_,λx hx hF=>?_,hs.ext.okE⟩
  ·obtain ⟨y,g1,g2,g3,g4⟩:=O x blk' (hs.ext.used x hx) hl';obtain ⟨z,k1,k2,k3,k4⟩:=hs.ext.old x y hx g1;exact ⟨z,k1,k2.trans g2,k3.trans g3,g4.trans k4⟩
  ·obtain ⟨g1,g2⟩:=hs.ext.free x hx hF;refine ⟨g1,λb2 blk2 β2 c2 hb2 h2 e=>?_⟩;replace hb2:H b2=some blk2:=hb2;by_cases a1:b2=c
   ·subst a1;rw [hν1] at h2;subst e;exact C.tm (by rw [←hs.kp];exact hT) β2 hx (hB1 β2 (by rw [hφ];simp [(hn1 _ _ h2).2])) hF
   ·rw [hν2 _ a1] at h2;by_cases a2:b2=b
    ·subst a2;exact g2 b2 blk β2 c2 hb h2 e
    ·rw [hl3 b2 a1 a2] at hb2;exact g2 b2 blk2 β2 c2 hb2 h2 e
end
noncomputable section
def Raw1 (κ:Kp) (x d:AV):Prop:= ∃ W G v S,κ.fx=some (W,G)∧x= .sc v∧RepD W d v S∧ ∀ b∈S,G b
def RawK (κ:Kp):AV→AV→Prop
 | .agg xs,.agg ds=>All2 (Raw1 κ) xs ds
 |x,d=>Raw1 κ x d
theorem Sim.stays {C:Ctx} {s:AState} {ν:Nu} {a:Act} {w:World} (hs:Sim C s ν a w) {κ:Kp} (hκ:s.kp=κ) {W:World} {G:Nat→Prop} (h:κ.fx=some (W,G)) {b:Nat} (hb:G b):w.heap[b]? =W.heap[b]? ∧iZ s.heap ν b:=by
 obtain ⟨e1,e2⟩:=C.fxp (W,G) (by rw [←hs.kp,hκ];exact h);obtain ⟨e3,e4⟩:=e2 b hb;obtain ⟨e5,e6⟩:=hs.ext.free b e3 e4;rw [e1] at e5;exact ⟨e5,e6,hs.okF (W,G) (by rw [←hs.kp,hκ];exact h) b hb⟩
theorem Raw1.rep {C:Ctx} {s:AState} {ν ν':Nu} {a:Act} {w:World} {h:Hp} {u:Us} (hs:Sim C s ν a w) {κ:Kp} (hκ:s.kp=κ) {x d:AV} {v:Value} (r:Rep1 w h u ν' x v) (m:Raw1 κ x d): ∃ S',RepD w d v S':=by
 obtain ⟨W,G,y,S,h1,rfl,h2,h3⟩:=m;rw [r.1];exact ⟨S,h2.keep λb hm=>(hs.stays hκ h1 (h3 b hm)).1⟩
theorem RawK.rep {C:Ctx} {s:AState} {ν:Nu} {a:Act} {w:World} (hs:Sim C s ν a w) {κ:Kp} (hκ:s.kp=κ) {x d:AV} {v:Value} (r:RepA w s.heap s.used ν x v) (m:RawK κ x d): ∃ S',RepD w d v S':=by
 by_cases ho: ∃ xs ds,x= .agg xs∧d= .agg ds
 ·obtain ⟨xs,ds,rfl,rfl⟩:=ho;obtain ⟨vs,rfl,r⟩:=r;obtain ⟨S,h⟩:=wW (V:=Raw1 κ) (λx d v hr hm=>hm.rep hs hκ hr) r m;exact ⟨S,by simp only [RepD];exact ⟨vs,rfl,h⟩⟩
 ·have m':Raw1 κ x d:=by
   cases x <;> first|exact m|(cases d <;> first|exact m|exact absurd ⟨_,_,rfl,rfl⟩ ho)
  obtain ⟨W,G,y,S,h1,rfl,h2,h3⟩:=m';exact Raw1.rep (h:=s.heap) (u:=s.used) (ν':=ν) (x:= .sc y) hs hκ (show Rep1 w s.heap s.used ν (.sc y) v from r) ⟨W,G,y,S,h1,rfl,h2,h3⟩
def fxW (W:World):Option (World×(Nat→Prop)):=some (W,λx=>x<W.heap.size)
theorem aDf {κ:Kp} {W:World} {d:AV} {v:Value} {S:List Nat} (h:κ.fx=fxW W) (r:RepD W d v S):Raw1 κ (.sc v) d:=⟨W,_,v,S,h,rfl,r,r.lt⟩
theorem aCs {κ:Kp} {W:World} {u:Value} (h:κ.fx=fxW W) (o:u.oneCell'=true):Raw1 κ (.sc u) (.sc u):=aDf h (aAY o)
theorem aKS {κ:Kp} :RawK κ (.agg []) (.agg []):=rfl
theorem pN {κ:Kp} {x d:AV} {xs ds:List AV} (a:Raw1 κ x d) (b:RawK κ (.agg xs) (.agg ds)):RawK κ (.agg (x::xs)) (.agg (d::ds)):=⟨d,ds,rfl,a,b⟩
def aBN (κ:Kp) (h:Hp) (x d:AV):Prop:=viewA h x d∨RawK κ x d
theorem aCQ {κ:Kp} {h:Hp} :All2 (aBN κ h) [] []:=rfl
theorem xR {κ:Kp} {h:Hp} {x d:AV} {xs ds:List AV} (a:aBN κ h x d) (b:All2 (aBN κ h) xs ds):All2 (aBN κ h) (x::xs) (d::ds):=⟨d,ds,rfl,a,b⟩
theorem aNp {R:AV→Value→Prop} {V:AV→AV→Prop} {w:World} (hr: ∀ x d v,R x v→V x d→ ∃ S',RepD w d v S') {xs ds:List AV} {vs:List Value} (r:All2 R xs vs) (m:All2 V xs ds): ∃ S',RepVs w ds vs S':=wW hr r m
section
variable {P:Program} {dst:Option Tmp} {ty:TypeId} {pos:String} {aft:Array Edge} {g:Option (Nat×Bool)} {ins:Operand→Option AV} {hp:Hp} {κ:Kp}
theorem aPs {fo:Operand} {xs:Array Operand} {ats:Array TypeId} {f:FuncId} {avs ds:List AV} {r x:AV} {nb:List (Nat×Blk)} {ns ns':List Nat} (hf:ins fo=some (.fn f [])) (hx:evs ins xs.toList=some avs) (hc:HasC P f ds r) (hv1:All2 (aBN κ hp) avs ds) (hg:aFb r)
  (hi:aNR ns r=(x,nb,ns')) (hfl:aLi x=true) (hn:ns.Nodup):
  AEff P ⟨dst,.call ⟨.value fo,xs,ats⟩,ty,pos,aft,g⟩ ins hp κ ⟨x,avs.flatMap (qC hp),oH nb,nb.map (·.1)⟩:=by
 refine ⟨λC s ν a w Q K {hκ} hi' ht hnw hd hs hK=>?_⟩;have h1:=hs.ev ((hi' fo (by simp [Op.operands,Call.operands])).trans hf);simp only [RepA,RepB] at h1;obtain ⟨cv,h1,h2⟩:=h1;simp only [All2] at h2;subst h2;obtain ⟨φ,hh⟩:=hs.heap;have h3:=aCk hs (xs:=xs.toList) (λy hy=>hi' y (by simp [Op.operands,Call.operands];exact .inr (Array.mem_toList_iff.1 hy))) hx;have hv1':All2 (aBN κ s.heap) avs ds:=hv1.congrM λy hy d hd=>hd.elim (λhd=> .inl (hd.congr λb hb=>ht b (List.mem_flatMap.2 ⟨y,hy,hb⟩))) .inr;obtain ⟨S1,e1⟩:=aNp (V:=aBN κ s.heap) (λx d v hr hv=>hv.elim (λhv=>viewA.rep hh hr hv) (λhv=>hv.rep hs hκ hr)) h3 hv1';have hcall:=hc.calls w (xs.map a.eval) S1 (by simpa using e1);unfold Oper.wp
 have hex:(execOp a.eval ⟨dst,.call ⟨.value fo,xs,ats⟩,ty,pos,aft,g⟩).run P w= .ok (.enter f (xs.map a.eval)) w:=by
  have:execOp a.eval ⟨dst,.call ⟨.value fo,xs,ats⟩,ty,pos,aft,g⟩=callFunc f (xs.map a.eval):=by
   simp [execOp,resolve,h1,Deferred.ofValue,invoke]
  rw [this];exact hc.enters _ _
 rw [hex];simp only [Oper.upon];refine hcall.mono λe w' ⟨v,S',he,hb,hr,hnew⟩=>?_;subst he;simp only;obtain ⟨g1,X,Sf,g2,g3⟩:=aOh (w:=w) hi hfl hr hg hnew.1 hn;have hnn:(nb.map (·.1)).Nodup:=by rw [g1] at hn;exact (List.nodup_append.1 hn).1
 obtain ⟨ν',hs'⟩:=hs.call hd hb g2 hnew hnn (λb hb=>hnw b hb) g3 (touch:=avs.flatMap (qC hp));exact hK ν' _ _ hs'
end
section
variable {P:Program} {dst:Option Tmp} {ty:TypeId} {pos:String} {aft:Array Edge} {g:Option (Nat×Bool)} {s:AState}
theorem aMA {f:FuncId} {xs:Array Operand} {ats:Array TypeId} {avs ds:List AV} {r x:AV} {nb:List (Nat×Blk)} {ns':List Nat} (hc:HasC P f ds r) (hx:evs s.ev xs.toList=some avs) (hi:aNR s.ns r=(x,nb,ns')) (hfl:aLi x=true) (hn:vI s.ns=true) (hg:aFb r) (hv1:All2 (aBN s.kp s.heap) avs ds):
  AEff P ⟨dst,.call ⟨.value (.func f),xs,ats⟩,ty,pos,aft,g⟩ s.ev s.heap s.kp ⟨x,avs.flatMap (qC s.heap),oH nb,nb.map (·.1)⟩:=
 aPs rfl hx hc hv1 hg hi hfl (aBF hn)
end
def aEu (w:World):List AV→(List AV→Prop)→Prop
 | [],K=>K []
 | .sc u::cs,K=>aEu w cs (λxs=>K (.sc u::xs))
 |d::cs,K=> ∀ v S,RepD w d v S→aEu w cs (λxs=>K (.sc v::xs))
def aBl (w:World):List AV→(List AV→Prop)→Prop
 | [],K=>K []
 | .sc u::ds,K=>aBl w ds (λxs=>K (.sc u::xs))
 | .agg cs::ds,K=>aEu w cs (λxs=>aBl w ds (λys=>K (.agg xs::ys)))
 |d::ds,K=> ∀ v S,RepD w d v S→aBl w ds (λxs=>K (.sc v::xs))
theorem aEG {w:World} {K:List AV→Prop} (h:K []):aEu w [] K:=h
theorem aAb {w:World} {u:Value} {cs:List AV} {K:List AV→Prop} (h:aEu w cs (λxs=>K (.sc u::xs))):aEu w (.sc u::cs) K:=h
theorem aAq {w:World} {k:Nat} {es:List (List AV)} {cs:List AV} {K:List AV→Prop} (h: ∀ v S,RepD w (.list k es) v S→aEu w cs (λxs=>K (.sc v::xs))):aEu w (.list k es::cs) K:=h
theorem aMB {w:World} {K:List AV→Prop} (h:K []):aBl w [] K:=h
theorem aMC {w:World} {xs cs:List AV} {K:List AV→Prop} (h:aEu w xs (λxs=>aBl w cs (λys=>K (.agg xs::ys)))):aBl w (.agg xs::cs) K:=h
def aRe:AV→Bool
 | .sc u=>u.oneCell'
 | .agg cs=>cs.all jB
 | .list _ _=>true
 |_=>false
theorem aMD {w:World} {d:AV} {v:Value} {S:List Nat} (r:RepD w d v S) (ok:jB d=true):v.oneCell'=true:=by
 cases d <;> simp only [jB,fU] at ok <;> simp only [RepD] at r
 ·rw [r.1];exact ok
 ·obtain ⟨a,c,rfl,_⟩:=r;rfl
theorem aKT {w:World} : ∀ {cs:List AV} {us:List Value} {S:List Nat} {K:List AV→Prop},RepVs w cs us S→cs.all jB=true→aEu w cs K→ ∃ xs,K xs∧ ∀ (w':World) (h:Hp) (u:Us) (ν:Nu),All2 (Rep1 w' h u ν) xs us
 | [],us,S,K,r,_,k=>by simp only [RepVs] at r;obtain ⟨rfl,_⟩:=r;exact ⟨[],k,λ_ _ _ _=>rfl⟩
 |c::cs,us,S,K,r,ok,k=>by
  simp only [RepVs] at r;obtain ⟨v,q,S1,S2,rfl,rfl,h3,h4⟩:=r;simp only [List.all_cons,cW] at ok
  have key: ∀ x,aEu w cs (λxs=>K (x::xs))→x= .sc v→ ∃ xs,K xs∧ ∀ (w':World) (h:Hp) (u:Us) (ν:Nu),All2 (Rep1 w' h u ν) xs (v::q):=by
   rintro x k1 rfl;obtain ⟨xs,g1,g2⟩:=aKT h4 ok.2 k1;exact ⟨.sc v::xs,g1,λw' h u ν=>⟨v,q,rfl,⟨rfl,aMD h3 ok.1⟩,g2 w' h u ν⟩⟩
  cases c <;> simp only [jB,fU,false_and] at ok
  ·simp only [RepD] at h3;exact key _ k (by rw [h3.1])
  ·exact key _ (k v S1 h3) rfl
theorem aJZ {w:World} : ∀ {ds:List AV} {vs:List Value} {S:List Nat} {K:List AV→Prop},RepVs w ds vs S→ds.all aRe=true→aBl w ds K→ ∃ xs,K xs∧xs.length=ds.length∧ ∀ (h:Hp) (u:Us) (ν:Nu),All2 (RepA w h u ν) xs vs
 | [],vs,S,K,r,_,k=>by simp only [RepVs] at r;obtain ⟨rfl,_⟩:=r;exact ⟨[],k,rfl,λ_ _ _=>rfl⟩
 |d::ds,vs,S,K,r,ok,k=>by
  simp only [RepVs] at r;obtain ⟨v,q,S1,S2,rfl,rfl,h3,h4⟩:=r;simp only [List.all_cons,cW] at ok
  have key: ∀ x,aBl w ds (λxs=>K (x::xs))→(∀ (h:Hp) (u:Us) (ν:Nu),RepA w h u ν x v)→ ∃ xs,K xs∧xs.length=(d::ds).length∧ ∀ (h:Hp) (u:Us) (ν:Nu),All2 (RepA w h u ν) xs (v::q):=by
   intro x k1 hx;obtain ⟨xs,g1,g2,g3⟩:=aJZ h4 ok.2 k1;exact ⟨x::xs,g1,by simp [g2],λh u ν=>⟨v,q,rfl,hx h u ν,g3 h u ν⟩⟩
  cases d <;> simp only [aRe,fU,false_and] at ok
  ·simp only [RepD] at h3;exact key _ k λh u ν=>by simp only [RepA,RepB,Rep1];exact ⟨h3.1,h3.2.1⟩
  ·exact key _ (k v S1 h3) λh u ν=>(show Rep1 w h u ν (.sc v) v from ⟨rfl,aMD h3 rfl⟩)
  ·have h3':=h3;simp only [RepD] at h3';obtain ⟨us,rfl,h5⟩:=h3';obtain ⟨xs,g1,g2⟩:=aKT h5 ok.1 k;exact key _ g1 λh u ν=>by simp only [RepA,RepB];exact ⟨us,rfl,g2 w h u ν⟩
theorem aME {P:Program} {T:List (Nat×Ty)} (hT:TyOk P T) {f:FuncId} {fn:Func} {c:Code} {nt:Nat} {ds:List AV} {r:AV} {rvs:List ResultVar} {ns:List Nat} (hf:P.funcs[f]? =some fn) (hb:fn.body=some c) (hname:(fn.name== "runtime.NumGoroutine")=false) (hnt:fn.ntmps=nt) (hres:fn.results.toList=rvs)
  (hlen:Nat.ble ds.length nt=true) (hok:ds.all aRe=true) (h: ∀ W:World,aBl W ds λxs=>AC P nt c ⟨aEl xs,pL [],ltb 0,ns,⟨0,true,fxW W,true⟩⟩ (vJ T rvs r)):HasC P f ds r:=by
 refine ⟨Enters.mk hf (by rw [hb];rfl) hname,λw args S hargs=>?_⟩;refine (callsIn_wide (n:=0)).1 (callsIn_of_wp_marks (F:=fw none) hf hb trivial ?_);have hlen':=Nat.le_of_ble_eq_true hlen;have hal:args.size=ds.length:=by have:=hargs.len;simpa using this
 obtain ⟨xs,hac,hxl,hxr⟩:=aJZ hargs hok (h w);let C:Ctx:=⟨w.heap.size,w,nt,λx=>w.heap.size≤x,λ_ h=>h,⟨0,true,fxW w,true⟩,w,pL [],Nu.none,λx=>x<w.heap.size,λ_ x hx hm=>absurd hx (Nat.not_lt.2 hm),(λp h=>by cases h;exact ⟨rfl,λx hx=>⟨hx,hx⟩⟩),none,λ_=>rfl⟩;have hfr: ∀ x,aBA (pL []) Nu.none x:=λx b blk β c hb=>by cases hb
 have hsim:Sim C ⟨aEl xs,pL [],ltb 0,ns,⟨0,true,fxW w,true⟩⟩ Nu.none ⟨args++Array.replicate (fn.ntmps - args.size) undef,[]⟩ w:=by
  refine ⟨Below.refl _ _,bA _,λ_ hx=>hx,aGZ,by show (args++Array.replicate (fn.ntmps - args.size) undef).size=nt;simp [hnt];omega,?_,⟨λ_=>[],λb blk hb=>(by cases hb),λb c x hb=>absurd rfl hb⟩,rfl,ExtF.refl λx _ _=>hfr x,bA _,λ_ _=>trivial,λ_ _ _ _=>trivial⟩;intro t x hx;have hx':xs[t]? =some x:=by rw [←aHP];exact hx
  obtain ⟨v,h1,h2⟩:=(hxr (pL []) (ltb 0) Nu.none).get hx';refine ⟨v,?_,h2⟩
  have hlt:t<args.size:=by
   rcases dV t args.size with h'|h'
   ·exact h'
   ·rw [iP (by simpa using h')] at h1;cases h1
  show (args++Array.replicate (fn.ntmps - args.size) undef)[t]? =some v;rw [Array.getElem?_append_left hlt];simpa using h1
 refine wpIn_mono (hac.out C rfl _ _ w hsim 0) λe a' w0 ⟨s',ν',hq,hs0⟩=>?_;obtain ⟨Ds,d1,d2,d3⟩:=hs0.defers;obtain ⟨w',hs',hleave⟩:=hs0.leave (P:=P) (n:=0) d1 d2 d3;obtain ⟨he,avs,hv,hn,hfz⟩:=hq;obtain ⟨us,h1,h2⟩:=aAZ hT hs' hv;obtain ⟨φ,hh⟩:=hs'.heap;have hn':=aBF hn
 have hrun:(results fn a'.tmps).run P w'= .ok (if hh:us.toArray.size=1 then us.toArray[0] else .tuple us.toArray) w':=by
  unfold results;rw [Sem.run_bind,Array.mapM_eq_mapM_toList,Sem.run_map,hres];have h1':=h1;generalize hq:(List.mapM _ rvs:Sem (List Value))=m;rw [show Sem.run P m w'= .ok us w' by rw [←hq];exact h1'];simp
 have hres2: ∃ S',aKK w' r (if hh:us.toArray.size=1 then us.toArray[0] else .tuple us.toArray) S'∧New w.heap.size S':=by
  have hul:us.length=avs.length:=h2.len;unfold aIk at hfz;split at hfz
  ·rename_i v r';obtain ⟨u,q,rfl,g1,g2⟩:=h2;simp only [All2] at g2;subst g2;simp only [List.flatMap_cons,List.flatMap_nil,List.append_nil] at hn';obtain ⟨S',a1,a2,a3,a4⟩:=aHD hh g1 hfz.1 hn';refine ⟨S',?_,a2,a3⟩;simp only [List.size_toArray,List.length_cons,List.length_nil,Nat.zero_add,dite_true];have hnt:=hfz.2;cases r <;> first|exact a1|exact absurd rfl (hnt _)
  ·rename_i vs rs _;obtain ⟨S',a1,a2,a3,a4⟩:=aEk hh h2 hfz.2 hn';refine ⟨S',?_,a2,a3⟩;rw [dif_neg (by simp;rw [hul];exact hfz.1)];exact ⟨us,rfl,a1⟩
  ·exact hfz.elim
 obtain ⟨S',hr1,hr2⟩:=hres2;have hend:=hleave fn (λe w'=> ∃ v S',e= .returned v∧Below w.heap.size w w'∧aKK w' r v S'∧New w.heap.size S') ⟨_,hrun,_,S',rfl,hs'.below,hr1,hr2⟩;cases e <;> simp only [aFc,fU] at he <;> exact hend
def dfE:List (Nat×AV)→Prop
 | []=>True
 |(_,x)::r=>dfA x=true∧dfE r
theorem aNq: ∀ {l:List (Nat×AV)},dfE l→ ∀ t x,aPb l t=some x→dfA x=true
 | [],_,t,x,h=>by cases h
 |(k,v)::r,⟨h1,h2⟩,t,x,h=>by
  simp only [aPb] at h;cases hb:Nat.beq t k with
  |true=>rw [hb] at h;cases h;exact h1
  |false=>rw [hb] at h;exact aNq h2 t x h
def dfR (y:Blk):Prop:= ∀ cs∈y.es,∀ c∈cs,dfC c=true
def dfH (skip:List Nat):List (Nat×Blk)→Prop
 | []=>True
 |(b,y)::r=>(b∈skip∨dfR y)∧dfH skip r
theorem aNr {skip:List Nat} : ∀ {l:List (Nat×Blk)},dfH skip l→ ∀ b blk,pL l b=some blk→b ∉ skip→ ∀ cs∈blk.es,∀ c∈cs,dfC c=true
 | [],_,b,x,h=>by cases h
 |(k,v)::r,⟨h1,h2⟩,b,x,h=>by
  simp only [pL] at h;by_cases e:b=k
  ·subst e;rw [cE] at h;cases h;intro hn;exact h1.elim (λh=>absurd h hn) id
  ·rw [cI e] at h;exact aNr h2 b x h
theorem EOk.df {α:Type} {k:Nat} {e:α→List AV} (E:EOk k e) (k':Nat) (l:List α):dfR ⟨k',l.map (ow e)⟩:=by
 intro cs hcs c hc;obtain ⟨x,_,rfl⟩:=List.mem_map.1 hcs;obtain ⟨d,hd,rfl⟩:=List.mem_map.1 hc;have:=E.mem x d hd;cases d <;> simp only [jB,fU] at this <;> rfl
theorem EOk.dfS {α:Type} {k:Nat} {e:α→List AV} (E:EOk k e) (k':Nat) (l:List α) (i:Nat) {c:List AV} (h:c.all dfC=true):dfR ⟨k',(l.map (ow e)).set i c⟩:=by
 intro cs hcs d hd;rcases List.mem_or_eq_of_mem_set hcs with h1|rfl
 ·exact E.df k' l cs h1 d hd
 ·exact List.all_eq_true.1 h d hd
theorem aKU {k:Nat} {es:List (List AV)} (h:(es.all λcs=>cs.all dfC)=true):dfR ⟨k,es⟩:=λcs hcs c hc=>List.all_eq_true.1 (List.all_eq_true.1 h cs hcs) c hc
theorem aMF {α:Type} {e:α→List AV} {l:List α} {i:Nat} {v:α} (h:l[i]? =some v):l.map (ow e)=(l.map (ow e)).set i (ow e v):=by
 rw [←List.map_set];congr 1;refine List.ext_getElem? λj=>?_;rw [List.getElem?_set];by_cases e:i=j
 ·subst e
  have:i<l.length:=by
   rcases dV i l.length with h'|h'
   ·exact h'
   ·rw [iP h'] at h;cases h
  rw [aU rfl,aU this,h]
 ·rw [aV e]
theorem aJa {α:Type} {k:Nat} {e:α→List AV} (E:EOk k e) {l:List α} {i:Nat} {c:List AV} (h:c.all tN=true):aBb ((l.map (ow e)).set i c):=by
 intro cs hcs d hd;rcases List.mem_or_eq_of_mem_set hcs with h1|rfl
 ·exact E.plainO l cs h1 d hd
 ·exact List.all_eq_true.1 h d hd
theorem aJb {s:AState} {b c i j k k' n:Nat} {A es' fs:List (List AV)} {cs:List AV} (hi:i<A.length) (hT:s.kp.T=true) (hb:s.heap b=some ⟨k,A.set i cs⟩) (hj:cs[j]? =some (.abs k' es')) (hc:s.used c=false) (hn:es'.length=n) (hfs:dA es'=fs) (hdf: ∀ t x,s.env t=some x→dfA x=true) (hdc: ∀ b blk,s.heap b=some blk→b ∉ ([]:List Nat)→ ∀ cs∈blk.es,∀ c∈cs,dfC c=true):
  Ent s ⟨s.env,bJ [(c,some ⟨k',fs⟩),(b,some ⟨k,A.set i (aAm cs j [.own c 0 n])⟩)] s.heap,gL [c] s.used,s.ns,s.kp⟩:=by
 subst hn hfs
 have hjl:j<cs.length:=by
  rcases dV j cs.length with h'|h'
  ·exact h'
  ·rw [iP h'] at hj;cases hj
 have h:=aRd (c:=c) hT hb (i:=i) (cs:=cs) (by simp [hi]) hj hc hdf (λb blk hb=>hdc b blk hb (by simp));have e:=aBe (cs:=cs) (j:=j) (vs:=[.own c 0 es'.length]) (by simp;omega);simp only [List.length_singleton] at e;rw [e] at h;simp only [List.set_set] at h;exact h
theorem aMG {P:Program} {T:List (Nat×Ty)} {dst:Option Tmp} {ty:TypeId} {pos:String} {aft:Array Edge} {g:Option (Nat×Bool)} {s:AState} (hT:TyOk P T) {t:TypeId} {y:Ty} {x z:Operand} {val:AV} {b i j kk:Nat} {A:List (List AV)} {cs:List AV} (hi:i<A.length) (hx:s.ev x=some (.ptr b i j)) (hb:s.heap b=some ⟨kk,A.set i cs⟩) (hz:s.ev z=some val) (hy:dH T t=some y) (hsz:Nat.beq (cJ val).length y.size=true) (ok:(cJ val).all (okCell s.heap)=true) (hn:Nat.ble (j+y.size) cs.length=true):
  AEff P ⟨dst,.store t x z,ty,pos,aft,g⟩ s.ev s.heap s.kp ⟨.dead,b::cO (cJ val),[(b,some ⟨kk,A.set i (aAm cs j (cJ val))⟩)],[]⟩:=by
 have h:=xP (P:=P) hT (dst:=dst) (ty:=ty) (pos:=pos) (aft:=aft) (g:=g) hx hb hz hy hsz ok (i:=i) (cs:=cs) (by simp [hi]) hn;rw [List.set_set] at h;exact h
theorem aUR {α:Type} {k:Nat} {e:α→List AV} {hp:Hp} {b i n:Nat} {l:List α} (E:EOk k e) (hb:hp b=some ⟨k,l.map (ow e)⟩):aAl hp (.own b i n)=some (k,((l.drop i).take n).map e,[b]):=by
 simp only [aAl,hb,←List.map_drop,←List.map_take];rw [aRS E]
end
noncomputable section
theorem k {α:Sort _} {a:α} :a=a:=rfl
section
variable {P:Program} {ops:Array Oper} {nt:Nat} {r:List Oper} {s:AState} {tr:List Tr} {K:List Tr→AState→Prop} {K':AState→Prop}
def opB (ops:Array Oper) (nt:Nat) (s:AState) (o:Oper) (news:List Nat):Bool:=aGx o nt&&((match mR ops s.env o with|some true=>true|_=>false)&&news.all λb=> !s.used b)
theorem aEv {o:Oper} {news:List Nat} (h:opB ops nt s o news=true):aGx o nt=true∧mR ops s.env o=some true∧(news.all λb=> !s.used b)=true:=by
 simp only [opB,cW] at h;obtain ⟨h1,h2,h3⟩:=h;refine ⟨h1,?_,h3⟩;split at h2
 ·assumption
 ·cases h2
theorem ae {d:Option Tmp} {op:Op} {ty:TypeId} {pos:String} {aft:Array Edge} {g:Option (Nat×Bool)} {e:Eff} (he:AEff P ⟨d,op,ty,pos,aft,g⟩ s.ev s.heap s.kp e) (hb:opB ops nt s ⟨d,op,ty,pos,aft,g⟩ e.news=true) (h:AOps P ops nt r (s.app d e) (aBC e::tr) K):AOps P ops nt (⟨d,op,ty,pos,aft,g⟩::r) s tr K:=
 jA he (aEv hb).1 (aEv hb).2.1 (aEv hb).2.2 h
theorem se {d:Option Tmp} {op:Op} {ty:TypeId} {pos:String} {aft:Array Edge} {g:Option (Nat×Bool)} {e:Eff} (he:AEff P ⟨d,op,ty,pos,aft,g⟩ s.ev s.heap s.kp e) (hb:opB ops nt s ⟨d,op,ty,pos,aft,g⟩ e.news=true) (h:SOps P ops nt r (s.app d e) K'):SOps P ops nt (⟨d,op,ty,pos,aft,g⟩::r) s K':=
 aLy he (aEv hb).1 (aEv hb).2.1 (aEv hb).2.2 h
theorem am {d:Option Tmp} {ty:TypeId} {pos:String} {aft:Array Edge} {g:Option (Nat×Bool)} {x:Operand} {v:AV} (hx:s.ev x=some v) (hb:opB ops nt s ⟨d,.move x,ty,pos,aft,g⟩ []=true) (h:AOps P ops nt r (s.app d ⟨v,[],[],[]⟩) (aBC ⟨v,[],[],[]⟩::tr) K):AOps P ops nt (⟨d,.move x,ty,pos,aft,g⟩::r) s tr K:=ae (aDs hx) hb h
theorem aa {d:Option Tmp} {ty:TypeId} {pos:String} {aft:Array Edge} {g:Option (Nat×Bool)} {x:Operand} {v:AV} (hx:s.ev x=some v) (hb:opB ops nt s ⟨d,.assign x,ty,pos,aft,g⟩ []=true) (h:AOps P ops nt r (s.app d ⟨v,[],[],[]⟩) (aBC ⟨v,[],[],[]⟩::tr) K):AOps P ops nt (⟨d,.assign x,ty,pos,aft,g⟩::r) s tr K:=ae (aBY hx) hb h
theorem an (h:K tr s):AOps P ops nt [] s tr K:=aGw h
theorem sn (h:K' s):SOps P ops nt [] s K':=aRc h
variable {Q:Exit→AState→Prop}
theorem sQ {x y:Code} (h:AC P nt x s (aAX (λs'=>AC P nt y s' Q) Q)):AC P nt (.seq x y) s Q:=aNQ h
theorem rg {id:Nat} {l:List Oper} (h:AOps P l.toArray nt l s [] (λ_ s'=>Q .normal s')):AC P nt (.region id l.toArray false) s Q:=aEi h
theorem rgS {id:Nat} {l:List Oper} (h:SOps P l.toArray nt l s (Q .normal)):AC P nt (.region id l.toArray false) s Q:=aNn h
theorem tn (h:K' s):aAX K' Q .normal s:=h
end
theorem ak {P:Program} {ops:Array Oper} {nt:Nat} {r:List Oper} {s:AState} {tr:List Tr} {K:List Tr→AState→Prop} {d:Option Tmp} {op:Op} {ty:TypeId} {pos:String} {aft:Array Edge} {g:Option (Nat×Bool)} (hg:mR ops s.env ⟨d,op,ty,pos,aft,g⟩=some false) (hd:aGx ⟨d,op,ty,pos,aft,g⟩ nt=true) (h:AOps P ops nt r ⟨upd d (.tuple []) s.env,s.heap,s.used,s.ns,s.kp⟩ (⟨[],[]⟩::tr) K):AOps P ops nt (⟨d,op,ty,pos,aft,g⟩::r) s tr K:=aPa hg hd h
section
variable {σ:Nat→Option Nat} {n b b0 k:Nat} {h:Hp} {r:List (Nat×Blk)}
theorem hB {y:Blk} (hp:aBb y.es) (hs:σ b=some b0) (hb:h b0=some y) (hn:Nat.blt b n=true) (hr:tP σ n h r):tP σ n h ((b,y)::r):=by
 simp only [tP];rw [hs];exact ⟨⟨y,hb,rfl,.inl ⟨rfl,hp⟩⟩,hn,hr⟩
theorem hX {y:Blk} (hm:match σ b with|some b0=> ∃ x,h b0=some x∧aDV σ n x y|none=>y.es=[]) (hn:Nat.blt b n=true) (hr:tP σ n h r):tP σ n h ((b,y)::r):=⟨hm,hn,hr⟩
end
theorem aVv {P:Program} {T:List (Nat×Ty)} (hT:TyOk P T) {dst:Option Tmp} {pos:String} {aft:Array Edge} {g:Option (Nat×Bool)} {s:AState} {x:Operand} {t e k:Nat} {y:Ty} {dty:TypeId} {α:Type} {f:α→List AV} {l:List α} (hx:s.ev x=some (.list k (List.map f l))) (hy:dH T t=some y) (hd:y.desc= .slice e):
  AEff P ⟨dst,.call ⟨.builtin .len,#[x],#[t]⟩,dty,pos,aft,g⟩ s.ev s.heap s.kp ⟨.int l.length,[],[],[]⟩:=AEff.val (aNV hT hx hy hd) (by rw [cK])
theorem lA {α:Type} {a b:List α} :(a++b).length=a.length+b.length:=List.length_append
theorem lT {α:Type} {a:List α} {i:Nat} {x:α} :(a.set i x).length=a.length:=List.length_set
theorem lR {α:Type} {n:Nat} {x:α} :(List.replicate n x).length=n:=List.length_replicate
theorem lC {α:Type} {a:α} {b:List α} :(a::b).length=b.length+1:=List.length_cons
theorem lN {α:Type} :([]:List α).length=0:=List.length_nil
theorem aKV:([]:List AV).all yS=true:=rfl
theorem aAc {d:AV} {ds:List AV} (h1:yS d=true) (h2:ds.all yS=true):(d::ds).all yS=true:=by
 rw [List.all_cons,h1,h2];rfl
end
noncomputable section
theorem k2 {αa:Sort _} {a:αa} {αb:Sort _} {b:αb} :a=a∧b=b:=⟨rfl,rfl⟩
theorem k3 {αa:Sort _} {a:αa} {αb:Sort _} {b:αb} {αc:Sort _} {c:αc} :a=a∧b=b∧c=c:=⟨rfl,rfl,rfl⟩
theorem k4 {αa:Sort _} {a:αa} {αb:Sort _} {b:αb} {αc:Sort _} {c:αc} {αd:Sort _} {d:αd} :a=a∧b=b∧c=c∧d=d:=⟨rfl,rfl,rfl,rfl⟩
theorem k7 {αa:Sort _} {a:αa} {αb:Sort _} {b:αb} {αc:Sort _} {c:αc} {αd:Sort _} {d:αd} {αe:Sort _} {e:αe} {αf:Sort _} {f:αf} {αg:Sort _} {g:αg} :a=a∧b=b∧c=c∧d=d∧e=e∧f=f∧g=g:=⟨rfl,rfl,rfl,rfl,rfl,rfl,rfl⟩
theorem k8 {αa:Sort _} {a:αa} {αb:Sort _} {b:αb} {αc:Sort _} {c:αc} {αd:Sort _} {d:αd} {αe:Sort _} {e:αe} {αf:Sort _} {f:αf} {αg:Sort _} {g:αg} {αh:Sort _} {h:αh} :a=a∧b=b∧c=c∧d=d∧e=e∧f=f∧g=g∧h=h:=⟨rfl,rfl,rfl,rfl,rfl,rfl,rfl,rfl⟩
section
variable {ops:Array Oper} {nt:Nat} {r:List Oper} {s:AState} {tr:List Tr} {K:List Tr→AState→Prop} {K':AState→Prop} {d:Option Tmp} {ty:TypeId} {pos:String} {aft:Array Edge} {g:Option (Nat×Bool)}
theorem lp {x:Operand} {t:Nat} {y:Ty} {b i j:Nat} {blk:Blk} {cs:List AV} {v:AV} (h:s.ev x=some (.ptr b i j)∧s.heap b=some blk∧dH TT t=some y∧(y.desc.isAgg||Nat.beq y.size 1)=true∧blk.es[i]? =some cs∧Nat.ble (j+y.size) cs.length=true∧yJ y.desc.isAgg (((cs.drop j).take y.size).map aBX)=v∧opB ops nt s ⟨d,.load t x,ty,pos,aft,g⟩ []=true) (g2:AOps Tryz.prog ops nt r (s.app d ⟨v,[b],[],[]⟩) (aBC ⟨v,[b],[],[]⟩::tr) K):AOps Tryz.prog ops nt (⟨d,.load t x,ty,pos,aft,g⟩::r) s tr K:=by
 obtain ⟨h0,h1,h2,h3,h4,h5,h6,h7⟩:=h;exact ae (fD aP h0 h1 h2 h3 h4 h5 h6) h7 g2
theorem fp {x:Operand} {st f off ft:Nat} {b i j:Nat} {blk:Blk} {y yf:Ty} {fs:List (Nat×Nat)} (h:s.ev x=some (.ptr b i j)∧s.heap b=some blk∧dH TT st=some y∧y.desc= .struct fs∧fs[f]? =some (off,ft)∧dH TT ft=some yf∧Nat.beq yf.size 0=false∧opB ops nt s ⟨d,.fieldAddr st x f,ty,pos,aft,g⟩ []=true) (g2:AOps Tryz.prog ops nt r (s.app d ⟨.ptr b i (j+off),[b],[],[]⟩) (aBC ⟨.ptr b i (j+off),[b],[],[]⟩::tr) K):AOps Tryz.prog ops nt (⟨d,.fieldAddr st x f,ty,pos,aft,g⟩::r) s tr K:=by
 obtain ⟨h0,h1,h2,h3,h4,h5,h6,h7⟩:=h;exact ae (yD aP h0 h1 h2 h3 h4 h5 h6) h7 g2
theorem lr {x:Operand} {t:Nat} {y:Ty} {cs:List AV} {v:AV} (h:s.ev x=some (.ref cs)∧dH TT t=some y∧(y.desc.isAgg||Nat.beq y.size 1)=true∧Nat.ble y.size cs.length=true∧(cs.take y.size).all eP=true∧yJ y.desc.isAgg (cs.take y.size)=v∧opB ops nt s ⟨d,.load t x,ty,pos,aft,g⟩ []=true) (g2:AOps Tryz.prog ops nt r (s.app d ⟨v,[],[],[]⟩) (aBC ⟨v,[],[],[]⟩::tr) K):AOps Tryz.prog ops nt (⟨d,.load t x,ty,pos,aft,g⟩::r) s tr K:=by
 obtain ⟨h0,h1,h2,h3,h4,h5,h6⟩:=h;exact ae (aNU aP h0 h1 h2 h3 h4 h5) h6 g2
theorem cm {op:BinOp} {t t':TypeId} {x y:Operand} {q:IntKind} {a b:Int} {c:Bool} (h:s.ev x=some (.sc (.int q a))∧s.ev y=some (.sc (.int q b))∧aSu op a b=some c∧opB ops nt s ⟨d,.binOp op t x y t',ty,pos,aft,g⟩ []=true) (g2:AOps Tryz.prog ops nt r (s.app d ⟨.bl c,[],[],[]⟩) (aBC ⟨.bl c,[],[],[]⟩::tr) K):AOps Tryz.prog ops nt (⟨d,.binOp op t x y t',ty,pos,aft,g⟩::r) s tr K:=by
 obtain ⟨h0,h1,h2,h3⟩:=h;exact ae (aTt h0 h1 h2) h3 g2
theorem pk {c x y:Operand} {t:Bool} {v:AV} (h:s.ev c=some (.sc (.bool t))∧s.ev (if t then x else y)=some v∧opB ops nt s ⟨d,.pick c x y,ty,pos,aft,g⟩ []=true) (g2:AOps Tryz.prog ops nt r (s.app d ⟨v,[],[],[]⟩) (aBC ⟨v,[],[],[]⟩::tr) K):AOps Tryz.prog ops nt (⟨d,.pick c x y,ty,pos,aft,g⟩::r) s tr K:=by
 obtain ⟨h0,h1,h2⟩:=h;exact ae (aQt h0 h1) h2 g2
theorem ln {x:Operand} {t e q:Nat} {y:Ty} {α:Type} {f:α→List AV} {l:List α} (h:s.ev x=some (.list q (List.map f l))∧dH TT t=some y∧y.desc= .slice e∧opB ops nt s ⟨d,.call ⟨.builtin .len,#[x],#[t]⟩,ty,pos,aft,g⟩ []=true) (g2:AOps Tryz.prog ops nt r (s.app d ⟨.int l.length,[],[],[]⟩) (aBC ⟨.int l.length,[],[],[]⟩::tr) K):AOps Tryz.prog ops nt (⟨d,.call ⟨.builtin .len,#[x],#[t]⟩,ty,pos,aft,g⟩::r) s tr K:=by
 obtain ⟨h0,h1,h2,h3⟩:=h;exact ae (aVv aP h0 h1 h2) h3 g2
theorem lpS {x:Operand} {t:Nat} {y:Ty} {b i j:Nat} {blk:Blk} {cs:List AV} {v:AV} (h:s.ev x=some (.ptr b i j)∧s.heap b=some blk∧dH TT t=some y∧(y.desc.isAgg||Nat.beq y.size 1)=true∧blk.es[i]? =some cs∧Nat.ble (j+y.size) cs.length=true∧yJ y.desc.isAgg (((cs.drop j).take y.size).map aBX)=v∧opB ops nt s ⟨d,.load t x,ty,pos,aft,g⟩ []=true) (g2:SOps Tryz.prog ops nt r (s.app d ⟨v,[b],[],[]⟩) K'):SOps Tryz.prog ops nt (⟨d,.load t x,ty,pos,aft,g⟩::r) s K':=by
 obtain ⟨h0,h1,h2,h3,h4,h5,h6,h7⟩:=h;exact se (fD aP h0 h1 h2 h3 h4 h5 h6) h7 g2
theorem fpS {x:Operand} {st f off ft:Nat} {b i j:Nat} {blk:Blk} {y yf:Ty} {fs:List (Nat×Nat)} (h:s.ev x=some (.ptr b i j)∧s.heap b=some blk∧dH TT st=some y∧y.desc= .struct fs∧fs[f]? =some (off,ft)∧dH TT ft=some yf∧Nat.beq yf.size 0=false∧opB ops nt s ⟨d,.fieldAddr st x f,ty,pos,aft,g⟩ []=true) (g2:SOps Tryz.prog ops nt r (s.app d ⟨.ptr b i (j+off),[b],[],[]⟩) K'):SOps Tryz.prog ops nt (⟨d,.fieldAddr st x f,ty,pos,aft,g⟩::r) s K':=by
 obtain ⟨h0,h1,h2,h3,h4,h5,h6,h7⟩:=h;exact se (yD aP h0 h1 h2 h3 h4 h5 h6) h7 g2
theorem cmS {op:BinOp} {t t':TypeId} {x y:Operand} {q:IntKind} {a b:Int} {c:Bool} (h:s.ev x=some (.sc (.int q a))∧s.ev y=some (.sc (.int q b))∧aSu op a b=some c∧opB ops nt s ⟨d,.binOp op t x y t',ty,pos,aft,g⟩ []=true) (g2:SOps Tryz.prog ops nt r (s.app d ⟨.bl c,[],[],[]⟩) K'):SOps Tryz.prog ops nt (⟨d,.binOp op t x y t',ty,pos,aft,g⟩::r) s K':=by
 obtain ⟨h0,h1,h2,h3⟩:=h;exact se (aTt h0 h1 h2) h3 g2
theorem saS {x:Operand} {v:AV} (h:s.ev x=some v∧opB ops nt s ⟨d,.assign x,ty,pos,aft,g⟩ []=true) (g2:SOps Tryz.prog ops nt r (s.app d ⟨v,[],[],[]⟩) K'):SOps Tryz.prog ops nt (⟨d,.assign x,ty,pos,aft,g⟩::r) s K':=by
 obtain ⟨h0,h1⟩:=h;exact se (aBY h0) h1 g2
theorem smS {x:Operand} {v:AV} (h:s.ev x=some v∧opB ops nt s ⟨d,.move x,ty,pos,aft,g⟩ []=true) (g2:SOps Tryz.prog ops nt r (s.app d ⟨v,[],[],[]⟩) K'):SOps Tryz.prog ops nt (⟨d,.move x,ty,pos,aft,g⟩::r) s K':=by
 obtain ⟨h0,h1⟩:=h;exact se (aDs h0) h1 g2
theorem aX:True:=trivial
theorem aT {x:Operand} {v:AV} {Q:Exit→AState→Prop} {T:AState→Prop} (h:s.ev x=some v∧opB ops nt s ⟨d,.assign x,ty,pos,aft,g⟩ []=true) (g2:T (s.app d ⟨v,[],[],[]⟩)):AOps Tryz.prog ops nt [⟨d,.assign x,ty,pos,aft,g⟩] s tr (λ_ s'=>aAX T Q .normal s'):=aa h.1 h.2 (an (tn g2))
theorem aK {o1 o2:Oper} (h:(mR ops s.env o1=some false∧aGx o1 nt=true∧mR ops (upd o1.dst (.tuple []) s.env) o2=some false∧aGx o2 nt=true)) (g2:AOps Tryz.prog ops nt r ⟨upd o2.dst (.tuple []) (upd o1.dst (.tuple []) s.env),s.heap,s.used,s.ns,s.kp⟩ (⟨[],[]⟩::⟨[],[]⟩::tr) K):AOps Tryz.prog ops nt (o1::o2::r) s tr K:=ak h.1 h.2.1 (ak h.2.2.1 h.2.2.2 g2)
theorem sR {id:Nat} {l:List Oper} {y:Code} {Q:Exit→AState→Prop} (h:AOps Tryz.prog l.toArray nt l s [] (λ_ s'=>aAX (λs'=>AC Tryz.prog nt y s' Q) Q .normal s')):AC Tryz.prog nt (.seq (.region id l.toArray false) y) s Q:=sQ (rg h)
theorem sS {id:Nat} {l:List Oper} {y:Code} {Q:Exit→AState→Prop} (h:SOps Tryz.prog l.toArray nt l s (aAX (λs'=>AC Tryz.prog nt y s' Q) Q .normal)):AC Tryz.prog nt (.seq (.region id l.toArray false) y) s Q:=sQ (rgS h)
end
end
noncomputable section
theorem oB {α β:Type} {o:Option α} {k:α→Option β} {r:β} {p:Prop} (h:o.bind k=some r) (f: ∀ a,o=some a→k a=some r→p):p:=by
 obtain ⟨a,h1,h2⟩:=ob h;exact f a h1 h2
theorem eG {h:Hp} {cs:List AV} (hp:cs.all eP=true):viewA h (.agg cs) (.agg cs):=aGb (aLm hp)
theorem gW {T:List (Nat×Ty)} {rvs:List ResultVar} {e:Exit} {s:AState} {u v:Bool} (h:some u=some v) (p:yY T s rvs=some [.bl u]∧aFc e=true):vJ T rvs (.bl v) e s:=by
 cases h;exact aZ p.2 p.1 rfl (oD rfl)
theorem yT {T:List (Nat×Ty)} {rvs:List ResultVar} {e:Exit} {s:AState} {u v:Int} (h:some u=some v) (p:yY T s rvs=some [.int u]∧aFc e=true):vJ T rvs (.int v) e s:=by
 cases h;exact aZ p.2 p.1 rfl (aEm rfl)
theorem cL {d:Option Tmp} {ty:TypeId} {pos:String} {aft:Array Edge} {g:Option (Nat×Bool)} {s:AState} {f:FuncId} {xs:Array Operand} {ats:Array TypeId} {avs ds:List AV} {ns':List Nat} {α:Type} {e:α→List AV} {q b:Nat} {l:List α} (ok:EOk q e) (hc:HasC Tryz.prog f ds (.list q (List.map e l))) (h:evs s.ev xs.toList=some avs∧s.ns=b::ns'∧vI s.ns=true) (hv:All2 (viewA s.heap) avs ds):AEff Tryz.prog ⟨d,.call ⟨.value (.func f),xs,ats⟩,ty,pos,aft,g⟩ s.ev s.heap s.kp ⟨.own b 0 l.length,avs.flatMap (qC s.heap)++[].flatMap (qB s.heap),[(b,some ⟨q,List.map (ow e) l⟩)],[b]⟩:=
 AEff.conv (iB (x:= .own b 0 (List.map e l).length) (nb:=[(b,⟨q,dA (List.map e l)⟩)]) hc h.1 (by rw [h.2.1];rfl) rfl h.2.2 (ok.good _) hv) (by simp only [aR]) (rJ (nb':=[(b,⟨q,List.map (ow e) l⟩)]) (by simp only [fW]))
theorem cLK {d:Option Tmp} {ty:TypeId} {pos:String} {aft:Array Edge} {g:Option (Nat×Bool)} {s:AState} {f:FuncId} {xs:Array Operand} {ats:Array TypeId} {avs ds:List AV} {ns':List Nat} {α:Type} {e:α→List AV} {q b:Nat} {l:List α} (ok:EOk q e) (hc:HasC Tryz.prog f ds (.list q (List.map e l))) (h:evs s.ev xs.toList=some avs∧s.ns=b::ns'∧vI s.ns=true) (hv:All2 (aBN s.kp s.heap) avs ds):AEff Tryz.prog ⟨d,.call ⟨.value (.func f),xs,ats⟩,ty,pos,aft,g⟩ s.ev s.heap s.kp ⟨.own b 0 l.length,avs.flatMap (qC s.heap),[(b,some ⟨q,List.map (ow e) l⟩)],[b]⟩:=
 AEff.conv (aMA (x:= .own b 0 (List.map e l).length) (nb:=[(b,⟨q,dA (List.map e l)⟩)]) hc h.1 (by rw [h.2.1];rfl) rfl h.2.2 (ok.good _) hv) (by simp only [aR]) (rJ (nb':=[(b,⟨q,List.map (ow e) l⟩)]) (by simp only [fW]))
theorem cM {d:Option Tmp} {ty:TypeId} {pos:String} {aft:Array Edge} {g:Option (Nat×Bool)} {s:AState} {f:FuncId} {xs:Array Operand} {ats:Array TypeId} {avs ds:List AV} {ns':List Nat} {b:Nat} {v:Mt} (hc:HasC Tryz.prog f ds (.agg (eM v))) (h:evs s.ev xs.toList=some avs∧s.ns=b::ns'∧vI s.ns=true) (hv:All2 (viewA s.heap) avs ds):AEff Tryz.prog ⟨d,.call ⟨.value (.func f),xs,ats⟩,ty,pos,aft,g⟩ s.ev s.heap s.kp ⟨.agg [.int v.rows,.int v.cols,.own b 0 v.cells.length],avs.flatMap (qC s.heap)++[].flatMap (qB s.heap),[(b,some ⟨1,List.map (ow eI) v.cells⟩)],[b]⟩:=
 AEff.conv (iB (x:= .agg [.int v.rows,.int v.cols,.own b 0 (List.map eI v.cells).length]) (nb:=[(b,⟨1,dA (List.map eI v.cells)⟩)]) hc h.1 (by rw [h.2.1];rfl) rfl h.2.2 (cH trivial (cH trivial (cH (dT.good _) nM))) hv) (by simp only [aR]) (rJ (nb':=[(b,⟨1,List.map (ow eI) v.cells⟩)]) (by simp only [fW]))
theorem cQ {d:Option Tmp} {ty:TypeId} {pos:String} {aft:Array Edge} {g:Option (Nat×Bool)} {s:AState} {f:FuncId} {xs:Array Operand} {ats:Array TypeId} {avs ds:List AV} {ns':List Nat} {b c:Nat} {v:Qv} (hc:HasC Tryz.prog f ds (.agg (eQ v))) (h:evs s.ev xs.toList=some avs∧s.ns=b::c::ns'∧vI s.ns=true) (hv:All2 (viewA s.heap) avs ds):AEff Tryz.prog ⟨d,.call ⟨.value (.func f),xs,ats⟩,ty,pos,aft,g⟩ s.ev s.heap s.kp ⟨.agg [.int v.n,.own b 0 v.src.length,.own c 0 v.tgt.length],avs.flatMap (qC s.heap)++[].flatMap (qB s.heap),[(b,some ⟨1,List.map (ow eI) v.src⟩),(c,some ⟨1,List.map (ow eI) v.tgt⟩)],[b,c]⟩:=
 AEff.conv (iB (x:= .agg [.int v.n,.own b 0 (List.map eI v.src).length,.own c 0 (List.map eI v.tgt).length]) (nb:=[(b,⟨1,dA (List.map eI v.src)⟩),(c,⟨1,dA (List.map eI v.tgt)⟩)]) hc h.1 (by rw [h.2.1];rfl) rfl h.2.2 (cH trivial (cH (dT.good _) (cH (dT.good _) nM))) hv) (by simp only [aR]) (rJ (nb':=[(b,⟨1,List.map (ow eI) v.src⟩),(c,⟨1,List.map (ow eI) v.tgt⟩)]) (by simp only [fW]))
theorem cR {d:Option Tmp} {ty:TypeId} {pos:String} {aft:Array Edge} {g:Option (Nat×Bool)} {s:AState} {f:FuncId} {xs:Array Operand} {ats:Array TypeId} {avs ds:List AV} {ns':List Nat} {b c b3 b4:Nat} {v:Rp} (hc:HasC Tryz.prog f ds (.agg (eR v))) (h:evs s.ev xs.toList=some avs∧s.ns=b::c::b3::b4::ns'∧vI s.ns=true) (hv:All2 (viewA s.heap) avs ds):AEff Tryz.prog ⟨d,.call ⟨.value (.func f),xs,ats⟩,ty,pos,aft,g⟩ s.ev s.heap s.kp ⟨.agg [.int v.p,.int v.q.n,.own b 0 v.q.src.length,.own c 0 v.q.tgt.length,.own b3 0 v.dims.length,.own b4 0 v.maps.length],avs.flatMap (qC s.heap)++[].flatMap (qB s.heap),[(b,some ⟨1,List.map (ow eI) v.q.src⟩),(c,some ⟨1,List.map (ow eI) v.q.tgt⟩),(b3,some ⟨1,List.map (ow eI) v.dims⟩),(b4,some ⟨3,List.map (ow eM) v.maps⟩)],[b,c,b3,b4]⟩:=
 AEff.conv (iB (x:= .agg [.int v.p,.int v.q.n,.own b 0 (List.map eI v.q.src).length,.own c 0 (List.map eI v.q.tgt).length,.own b3 0 (List.map eI v.dims).length,.own b4 0 (List.map eM v.maps).length]) (nb:=[(b,⟨1,dA (List.map eI v.q.src)⟩),(c,⟨1,dA (List.map eI v.q.tgt)⟩),(b3,⟨1,dA (List.map eI v.dims)⟩),(b4,⟨3,dA (List.map eM v.maps)⟩)]) hc h.1 (by rw [h.2.1];rfl) rfl h.2.2 (cH trivial (cH trivial (cH (dT.good _) (cH (dT.good _) (cH (dT.good _) (cH (jZ.good _) nM)))))) hv) (by simp only [aR]) (rJ (nb':=[(b,⟨1,List.map (ow eI) v.q.src⟩),(c,⟨1,List.map (ow eI) v.q.tgt⟩),(b3,⟨1,List.map (ow eI) v.dims⟩),(b4,⟨3,List.map (ow eM) v.maps⟩)]) (by simp only [fW]))
theorem cS {d:Option Tmp} {ty:TypeId} {pos:String} {aft:Array Edge} {g:Option (Nat×Bool)} {s:AState} {f:FuncId} {xs:Array Operand} {ats:Array TypeId} {avs ds:List AV} {ns':List Nat} {b:Nat} {v:Sc} (hc:HasC Tryz.prog f ds (.agg (eS v))) (h:evs s.ev xs.toList=some avs∧s.ns=b::ns'∧vI s.ns=true) (hv:All2 (viewA s.heap) avs ds):AEff Tryz.prog ⟨d,.call ⟨.value (.func f),xs,ats⟩,ty,pos,aft,g⟩ s.ev s.heap s.kp ⟨.agg [.int v.size,.own b 0 v.basis.length],avs.flatMap (qC s.heap)++[].flatMap (qB s.heap),[(b,some ⟨1,List.map (ow (dQ 1 eI)) v.basis⟩)],[b]⟩:=
 AEff.conv (iB (x:= .agg [.int v.size,.own b 0 (List.map (dQ 1 eI) v.basis).length]) (nb:=[(b,⟨1,dA (List.map (dQ 1 eI) v.basis)⟩)]) hc h.1 (by rw [h.2.1];rfl) rfl h.2.2 (cH trivial (cH (bW.good _) nM)) hv) (by simp only [aR]) (rJ (nb':=[(b,⟨1,List.map (ow (dQ 1 eI)) v.basis⟩)]) (by simp only [fW]))
theorem cSK {d:Option Tmp} {ty:TypeId} {pos:String} {aft:Array Edge} {g:Option (Nat×Bool)} {s:AState} {f:FuncId} {xs:Array Operand} {ats:Array TypeId} {avs ds:List AV} {ns':List Nat} {b:Nat} {v:Sc} (hc:HasC Tryz.prog f ds (.agg (eS v))) (h:evs s.ev xs.toList=some avs∧s.ns=b::ns'∧vI s.ns=true) (hv:All2 (aBN s.kp s.heap) avs ds):AEff Tryz.prog ⟨d,.call ⟨.value (.func f),xs,ats⟩,ty,pos,aft,g⟩ s.ev s.heap s.kp ⟨.agg [.int v.size,.own b 0 v.basis.length],avs.flatMap (qC s.heap),[(b,some ⟨1,List.map (ow (dQ 1 eI)) v.basis⟩)],[b]⟩:=
 AEff.conv (aMA (x:= .agg [.int v.size,.own b 0 (List.map (dQ 1 eI) v.basis).length]) (nb:=[(b,⟨1,dA (List.map (dQ 1 eI) v.basis)⟩)]) hc h.1 (by rw [h.2.1];rfl) rfl h.2.2 (cH trivial (cH (bW.good _) nM)) hv) (by simp only [aR]) (rJ (nb':=[(b,⟨1,List.map (ow (dQ 1 eI)) v.basis⟩)]) (by simp only [fW]))
def re1 (σ:Nat→Option Nat):AV→AV
 | .own b i m=>match σ b with|some b0=> .own b0 i m|none=> .dead
 | .ptr b i j=>match σ b with|some b0=> .ptr b0 i j|none=> .dead
 |x=>x
def reA (σ:Nat→Option Nat):AV→AV
 | .agg cs=> .agg (cs.map (re1 σ))
 |x=>re1 σ x
def ok1 (σ:Nat→Option Nat) (n:Nat):AV→Bool
 | .own b _ _=>(σ b).isSome &&Nat.blt b n
 | .ptr b _ _=>(σ b).isSome &&Nat.blt b n
 | .sc _=>true
 | .nil _=>true
 | .list _ _=>true
 | .ref _=>true
 |_=>false
def okA (σ:Nat→Option Nat) (n:Nat):AV→Bool
 | .agg cs=>cs.all (ok1 σ n)
 |x=>ok1 σ n x
def aMH (e:Nat→Option AV):List (Nat×AV)→List (Option AV)
 | []=>[]
 |(t,_)::r=>e t::aMH e r
def aMI (σ:Nat→Option Nat):List (Nat×AV)→List (Option AV)
 | []=>[]
 |(_,y)::r=>some (reA σ y)::aMI σ r
theorem aBO {σ:Nat→Option Nat} {n:Nat} {y:AV} (h:ok1 σ n y=true):eY σ n (re1 σ y) y:=by
 cases y <;> simp only [ok1,fU] at h
 ·rfl
 ·trivial
 ·exact ⟨rfl,rfl⟩
 ·rfl
 all_goals
  rename_i b i j
  simp only [cW] at h
  obtain ⟨b0,hb⟩:=Option.isSome_iff_exists.1 h.1
  simp only [re1,hb]
  exact ⟨hb,rfl,rfl,h.2⟩
theorem aTz {σ:Nat→Option Nat} {n:Nat} : ∀ {cs:List AV},cs.all (ok1 σ n)=true→All2 (eY σ n) (cs.map (re1 σ)) cs
 | [],_=>rfl
 |c::cs,h=>by
  simp only [List.all_cons,cW] at h;exact ⟨c,cs,rfl,aBO h.1,aTz h.2⟩
theorem aVG {σ:Nat→Option Nat} {n:Nat} {y:AV} (h:okA σ n y=true):vH σ n (reA σ y) y:=by
 cases y with
 |agg cs=>exact aTz h
 |fn f cs=>simp [okA,ok1] at h
 |tuple cs=>simp [okA,ok1] at h
 |dead=>simp [okA,ok1] at h
 |abs q es=>simp [okA,ok1] at h
 |sc u=>exact aBO (σ:=σ) (n:=n) (y:= .sc u) h
 |nil q=>exact aBO (σ:=σ) (n:=n) (y:= .nil q) h
 |list q es=>exact aBO (σ:=σ) (n:=n) (y:= .list q es) h
 |ref cs=>exact aBO (σ:=σ) (n:=n) (y:= .ref cs) h
 |own b i m=>
  have:=aBO (σ:=σ) (n:=n) (y:= .own b i m) h;simp only [reA];generalize re1 σ (.own b i m)=z at*;cases z <;> first|exact this|exact this.elim
 |ptr b i j=>
  have:=aBO (σ:=σ) (n:=n) (y:= .ptr b i j) h;simp only [reA];generalize re1 σ (.ptr b i j)=z at*;cases z <;> first|exact this|exact this.elim
theorem aVH {σ:Nat→Option Nat} {n:Nat} {e:Nat→Option AV} : ∀ {tl:List (Nat×AV)},aMH e tl=aMI σ tl→(tl.all λp=>okA σ n p.2)=true→aDz σ n e tl
 | [],_,_=>trivial
 |(t,y)::r,h,q=>by
  simp only [aMH,aMI,List.cons.injEq] at h;simp only [List.all_cons,cW] at q;exact ⟨⟨_,h.1,aVG q.1⟩,aVH h.2 q.2⟩
theorem bG {σ:Nat→Option Nat} {n:Nat} {e:Nat→Option AV} {tl:List (Nat×AV)} (h:aMH e tl=aMI σ tl∧(tl.all λp=>okA σ n p.2)=true):aDz σ n e tl:=aVH h.1 h.2
end
noncomputable section
def nmA:List Nat:=[0,1,2,3,4,5,6,7,8,9,10,11,12,13,14,15,16,17,18,19]++[20,21,22,23,24,25,26,27,28,29,30,31,32,33,34,35,36,37,38,39]++([40,41,42,43,44,45,46,47,48,49,50,51,52,53,54,55,56,57,58,59]++([60,61,62,63,64,65,66,67,68,69,70,71,72,73,74,75,76,77,78,79]++[80,81,82,83,84,85,86,87,88,89,90,91,92,93,94,95,96,97,98,99]))
abbrev mN (e:List (Nat×AV)) (h:List (Nat×Blk)) (n:Nat) (kp:Kp:=0):AState:=mkS e h n (nmA.drop n) kp
def iSg:List (Nat×Blk)→Nat→Option Nat
 | [],_=>none
 |(q,_)::r,t=>bif Nat.beq t q then some t else iSg r t
def zSg:List (Nat×Blk)→List Nat→Nat→Option Nat
 |(q,_)::r,b::bs,t=>bif Nat.beq t q then some b else zSg r bs t
 |_,_,_=>none
theorem bO {s:AState} {n:Nat} {kp:Kp} {tl:List (Nat×AV)} {hl:List (Nat×Blk)} (he:aDz (iSg hl) n s.env tl) (hh:tP (iSg hl) n s.heap hl) (p:aDW (iSg hl) hl=true∧s.kp=kp∧aJG (iSg hl) kp.n hl=true∧Nat.ble kp.n n=true):Ent s (mN tl hl n kp):=hO he hh p.1 p.2.1 p.2.2.1 p.2.2.2
theorem jI (bs:List Nat) {s:AState} {n:Nat} {kp:Kp} {tl:List (Nat×AV)} {hl:List (Nat×Blk)} (he:aDz (zSg hl bs) n s.env tl) (hh:tP (zSg hl bs) n s.heap hl) (p:aDW (zSg hl bs) hl=true∧s.kp=kp∧aJG (zSg hl bs) kp.n hl=true∧Nat.ble kp.n n=true):Ent s (mN tl hl n kp):=hO he hh p.1 p.2.1 p.2.2.1 p.2.2.2
section
variable {σ:Nat→Option Nat} {n:Nat}
theorem aMJ {e:Nat→Option AV} : ∀ {m:Nat} {tl:List (Nat×AV)},aDz σ n e (tl.take m)→aDz σ n e (tl.drop m)→aDz σ n e tl
 |0,_,_,h=>h
 |m+1,[],_,_=>trivial
 |m+1,(t,y)::r,h1,h2=>⟨h1.1,aMJ h1.2 h2⟩
theorem kW (m:Nat) {e:Nat→Option AV} {tl:List (Nat×AV)} (h:aMH e (tl.take m)=aMI σ (tl.take m)∧((tl.take m).all λp=>okA σ n p.2)=true) (h2:aDz σ n e (tl.drop m)):aDz σ n e tl:=aMJ (bG h) h2
theorem iC {e:Nat→Option AV} {t:Nat} {y:AV} {r:List (Nat×AV)} (h: ∃ x,e t=some x∧vH σ n x y) (h2:aDz σ n e r):aDz σ n e ((t,y)::r):=⟨h,h2⟩
variable {b b0 q:Nat} {h:Hp} {r:List (Nat×Blk)}
theorem cB {l:List Int} (p:(σ b,h b0,Nat.blt b n)=(some b0,some ⟨1,List.map (ow eI) l⟩,true)) (hr:tP σ n h r):tP σ n h ((b,⟨1,List.map (ow eI) l⟩)::r):=by
 obtain ⟨p1,p⟩:=Prod.mk.inj p;obtain ⟨p2,p3⟩:=Prod.mk.inj p;exact hB (dT.plainO _) p1 p2 p3 hr
theorem bH {y:Blk} (p:(σ b,h b0,Nat.blt b n,y.es.all λcs=>cs.all tN)=(some b0,some y,true,true)) (hr:tP σ n h r):tP σ n h ((b,y)::r):=by
 obtain ⟨p1,p⟩:=Prod.mk.inj p;obtain ⟨p2,p⟩:=Prod.mk.inj p;obtain ⟨p3,p4⟩:=Prod.mk.inj p;exact hB (aRH p4) p1 p2 p3 hr
theorem dY {y:Blk} (hp:aBb y.es) (p:(σ b,h b0,Nat.blt b n)=(some b0,some y,true)) (hr:tP σ n h r):tP σ n h ((b,y)::r):=by
 obtain ⟨p1,p⟩:=Prod.mk.inj p;obtain ⟨p2,p3⟩:=Prod.mk.inj p;exact hB hp p1 p2 p3 hr
def reC (σ:Nat→Option Nat):AV→AV
 | .own b i m=>match σ b with|some b0=> .own b0 i m|none=> .dead
 | .ptr b i j=>match σ b with|some b0=> .ptr b0 i j|none=> .dead
 |x=>x
def okC (σ:Nat→Option Nat) (n:Nat):AV→Bool
 | .own b _ _=>(σ b).isSome &&Nat.blt b n
 | .ptr b _ _=>(σ b).isSome &&Nat.blt b n
 | .sc _=>true
 | .nil _=>true
 | .list _ _=>true
 | .abs _ _=>true
 | .ref _=>true
 |_=>false
theorem aVK {y:AV} (h:okC σ n y=true):fL σ n (reC σ y) y:=by
 cases y with
 |sc u=>exact aBO (σ:=σ) (n:=n) (y:= .sc u) h
 |nil q=>exact aBO (σ:=σ) (n:=n) (y:= .nil q) h
 |list q es=>exact aBO (σ:=σ) (n:=n) (y:= .list q es) h
 |ref cs=>exact aBO (σ:=σ) (n:=n) (y:= .ref cs) h
 |abs q es=>exact ⟨rfl,rfl⟩
 |own b i m=>
  have:=aBO (σ:=σ) (n:=n) (y:= .own b i m) h;show fL σ n (re1 σ (.own b i m)) _;generalize re1 σ (.own b i m)=z at*;cases z <;> first|exact this|exact this.elim
 |ptr b i j=>
  have:=aBO (σ:=σ) (n:=n) (y:= .ptr b i j) h;show fL σ n (re1 σ (.ptr b i j)) _;generalize re1 σ (.ptr b i j)=z at*;cases z <;> first|exact this|exact this.elim
 |agg cs=>simp [okC] at h
 |fn f cs=>simp [okC] at h
 |tuple cs=>simp [okC] at h
 |dead=>simp [okC] at h
theorem aRg: ∀ {cs:List AV},cs.all (okC σ n)=true→All2 (fL σ n) (cs.map (reC σ)) cs
 | [],_=>rfl
 |c::cs,h=>by
  simp only [List.all_cons,cW] at h;exact ⟨c,cs,rfl,aVK h.1,aRg h.2⟩
theorem aRh: ∀ {es:List (List AV)},(es.all λcs=>cs.all (okC σ n))=true→All2 (All2 (fL σ n)) (es.map (List.map (reC σ))) es
 | [],_=>rfl
 |c::cs,h=>by
  simp only [List.all_cons,cW] at h;exact ⟨c,cs,rfl,aRg h.1,aRh h.2⟩
theorem gX {es:List (List AV)} (p:(σ b,h b0,Nat.blt b n,es.all λcs=>cs.all (okC σ n))=(some b0,some ⟨q,es.map (List.map (reC σ))⟩,true,true)) (hr:tP σ n h r):tP σ n h ((b,⟨q,es⟩)::r):=by
 obtain ⟨p1,p⟩:=Prod.mk.inj p;obtain ⟨p2,p⟩:=Prod.mk.inj p;obtain ⟨p3,p4⟩:=Prod.mk.inj p;refine hX ?_ p3 hr;rw [p1];exact ⟨_,p2,rfl,.inr (aRh p4)⟩
end
theorem cG {α:Type} {c:Bool} {A:Option α} {r:α} {p:Prop} (h:cond c A none=some r) (f:c=true→A=some r→p):p:=f (cg h).1 (cg h).2
section
variable {h:Hp} {x:AV} {xs ds:List AV}
theorem bZ (q:eP x=true) (b:All2 (viewA h) xs ds):All2 (viewA h) (x::xs) (x::ds):=aG (aOk q) b
theorem vcT {b m:Nat} {l:List Int} (hb:h b=some ⟨1,List.map (ow eI) l⟩) (hn:l.length=m) (q:All2 (viewA h) xs ds):All2 (viewA h) (.own b 0 m::xs) (.list 1 (List.map eI l)::ds):=aG (yZ dT hb hn) q
end
theorem cT {d:Option Tmp} {ty:TypeId} {pos:String} {aft:Array Edge} {g:Option (Nat×Bool)} {s:AState} {f:FuncId} {xs:Array Operand} {ats:Array TypeId} {avs ds:List AV} {ns':List Nat} {α:Type} {e:α→List AV} {q b:Nat} {l:List α} {z:Bool} {c0:Nat} (ok:EOk q e) (hc:HasC Tryz.prog f ds (.tuple [.list q (List.map e l),.bl z])) (h:evs s.ev xs.toList=some avs∧s.ns=b::c0::ns'∧vI s.ns=true) (hv:All2 (viewA s.heap) avs ds):AEff Tryz.prog ⟨d,.call ⟨.value (.func f),xs,ats⟩,ty,pos,aft,g⟩ s.ev s.heap s.kp ⟨.tuple [.own b 0 l.length,.bl z],avs.flatMap (qC s.heap)++[].flatMap (qB s.heap),[(b,some ⟨q,List.map (ow e) l⟩)],[b]⟩:=
 AEff.conv (iB (x:= .tuple [.own b 0 (List.map e l).length,.bl z]) (nb:=[(b,⟨q,dA (List.map e l)⟩)]) hc h.1 (by rw [h.2.1];rfl) rfl h.2.2 (eJ (ok.good _) (eJ trivial tK)) hv) (by simp only [aR]) (rJ (nb':=[(b,⟨q,List.map (ow e) l⟩)]) (by simp only [fW]))
section
variable {h:Hp} {κ:Kp}
theorem vaR {b1 b2 b3 b4 m1 m2 m3 m4:Nat} {v:Rp} (p:h b1=some ⟨1,List.map (ow eI) v.q.src⟩∧v.q.src.length=m1∧h b2=some ⟨1,List.map (ow eI) v.q.tgt⟩∧v.q.tgt.length=m2∧h b3=some ⟨1,List.map (ow eI) v.dims⟩∧v.dims.length=m3∧h b4=some ⟨3,List.map (ow eM) v.maps⟩∧v.maps.length=m4):viewA h (.agg [.int v.p,.int v.q.n,.own b1 0 m1,.own b2 0 m2,.own b3 0 m3,.own b4 0 m4]) (.agg (eR v)):=
 aGb (rS (aAa rfl) (rS (aAa rfl) (rS (aFw dT p.1 p.2.1) (rS (aFw dT p.2.2.1 p.2.2.2.1) (rS (aFw dT p.2.2.2.2.1 p.2.2.2.2.2.1) (rS (aFw jZ p.2.2.2.2.2.2.1 p.2.2.2.2.2.2.2) aHE))))))
theorem vaM {b m:Nat} {v:Mt} (p:h b=some ⟨1,List.map (ow eI) v.cells⟩∧v.cells.length=m):viewA h (.agg [.int v.rows,.int v.cols,.own b 0 m]) (.agg (eM v)):=aGb (rS (aAa rfl) (rS (aAa rfl) (rS (aFw dT p.1 p.2) aHE)))
theorem vaC {b m:Nat} {v:Sc} (p:h b=some ⟨1,List.map (ow (dQ 1 eI)) v.basis⟩∧v.basis.length=m):viewA h (.agg [.int v.size,.own b 0 m]) (.agg (eS v)):=aGb (rS (aAa rfl) (rS (aFw bW p.1 p.2) aHE))
theorem vrR {W:World} {a:Rp} {w2 w3 w4 w5:Value} {S2 S3 S4 S5:List Nat} (hf:κ.fx=fxW W) (r2:RepD W (.list 1 (List.map eI a.q.src)) w2 S2) (r3:RepD W (.list 1 (List.map eI a.q.tgt)) w3 S3) (r4:RepD W (.list 1 (List.map eI a.dims)) w4 S4) (r5:RepD W (.list 3 (List.map eM a.maps)) w5 S5):aBN κ h (.agg [.int a.p,.int a.q.n,.sc w2,.sc w3,.sc w4,.sc w5]) (.agg (eR a)):=
 .inr (pN (aCs hf rfl) (pN (aCs hf rfl) (pN (aDf hf r2) (pN (aDf hf r3) (pN (aDf hf r4) (pN (aDf hf r5) aKS))))))
variable {x:AV} {xs ds:List AV}
theorem wkS (q:eP x=true) (b:All2 (aBN κ h) xs ds):All2 (aBN κ h) (x::xs) (x::ds):=xR (.inl (aOk q)) b
end
section
variable {dst:Option Tmp} {ty:TypeId} {pos:String} {aft:Array Edge} {g:Option (Nat×Bool)} {s:AState}
theorem wl {t e:TypeId} {n:Nat} {parts:Array (Nat×Operand)} {y ye:Ty} {ps:List (Nat×List AV)} {cs:List AV} {b:Nat}
  (h:(s.ns.head?,dH TT t,y.desc,dH TT e,ye.zero.length,Nat.ble (n*ye.size) 16777216,Nat.ble n 16777216,xN s.ev parts.toList,aAS (λi=>some (i*ye.size,ye.size)) (List.replicate n ye.zero).flatten ps,(ps.all λp=>p.2.all (okCell s.heap)),cs.all (okCell s.heap),(ps.flatMap (λp=>cO p.2)++cO cs).contains b)=(some b,some y,.slice e,some ye,ye.size,true,true,some ps,some cs,true,true,false)):
  AEff Tryz.prog ⟨dst,.buildSlice t n parts,ty,pos,aft,g⟩ s.ev s.heap s.kp ⟨.own b 0 n,ps.flatMap (λp=>cO p.2)++cO cs,[(b,some ⟨ye.size,aCA ye.size n cs⟩)],[b]⟩:=by
 simp only [Prod.mk.injEq] at h;obtain ⟨h1,h2,h3,h4,h5,h6,h7,h8,h9,h10,h11,h12⟩:=h;exact aUy aP h1 h2 h3 h4 h5 h6 h7 h8 h9 h10 h11 h12
theorem ws {t:TypeId} {y:Ty} {x z:Operand} {val:AV} {b i j kk:Nat} {ees:List (List AV)} {cs:List AV}
  (h:(s.ev x,s.heap b,s.ev z,dH TT t,Nat.beq (cJ val).length y.size,(cJ val).all (okCell s.heap),ees[i]?,Nat.ble (j+y.size) cs.length)=(some (.ptr b i j),some ⟨kk,ees⟩,some val,some y,true,true,some cs,true)):
  AEff Tryz.prog ⟨dst,.store t x z,ty,pos,aft,g⟩ s.ev s.heap s.kp ⟨.dead,b::cO (cJ val),[(b,some ⟨kk,ees.set i (aAm cs j (cJ val))⟩)],[]⟩:=by
 simp only [Prod.mk.injEq] at h;obtain ⟨h1,h2,h3,h4,h5,h6,h7,h8⟩:=h;exact xP aP h1 h2 h3 h4 h5 h6 h7 h8
theorem wb {t:TypeId} {x:Operand} {v:AV} {b:Nat} (h:(s.ns.head?,s.ev x,(cJ v).all (okCell s.heap),(cO (cJ v)).contains b)=(some b,some v,true,false)):
  AEff Tryz.prog ⟨dst,.box t x,ty,pos,aft,g⟩ s.ev s.heap s.kp ⟨.ptr b 0 0,cO (cJ v),[(b,some ⟨(cJ v).length,[cJ v]⟩)],[b]⟩:=by
 simp only [Prod.mk.injEq] at h;obtain ⟨h1,h2,h3,h4⟩:=h;exact aTu h1 h2 h3 h4
theorem xl {α:Type} {k:Nat} {e:α→List AV} {x ix:Operand} {t et:Nat} {y ye:Ty} {l:List α} {kk:IntKind} {i:Int} {v:α} (hm:cP l i=some v)
  (h:(s.ev x,s.ev ix,dH TT t,y.desc,dH TT et,ye.size)=(some (.list k (l.map e)),some (.sc (.int kk i)),some y,.slice et,some ye,k)):
  AEff Tryz.prog ⟨dst,.indexAddr t x ix,ty,pos,aft,g⟩ s.ev s.heap s.kp ⟨.ref (e v),[],[],[]⟩:=by
 simp only [Prod.mk.injEq] at h;obtain ⟨h1,h2,h3,h4,h5,h6⟩:=h;exact aPj aP hm h1 h2 h3 h4 h5 h6
theorem xo {α:Type} {l:List α} {v:α} {x ix:Operand} {t et:Nat} {y ye:Ty} {b kz:Nat} {es:List (List AV)} {kk:IntKind} {i:Int} (hm:cP l i=some v)
  (h:(s.ev x,s.heap b,s.ev ix,dH TT t,y.desc,dH TT et,ye.size)=(some (.own b 0 l.length),some ⟨kz,es⟩,some (.sc (.int kk i)),some y,.slice et,some ye,kz)):
  AEff Tryz.prog ⟨dst,.indexAddr t x ix,ty,pos,aft,g⟩ s.ev s.heap s.kp ⟨.ptr b i.toNat 0,[b],[],[]⟩:=by
 simp only [Prod.mk.injEq] at h;obtain ⟨h1,h2,h3,h4,h5,h6,h7⟩:=h;exact aRR aP (aNY hm) (rF hm) h1 h2 h3 h4 h5 h6 h7
theorem wp {α:Type} {e:α→List AV} {l:List α} {u:α} {x:Operand} {t:Nat} {y:Ty} {b j k:Nat} {i:Int} {v:AV} (hm:cP l i=some u)
  (h:(s.ev x,s.heap b,dH TT t,(y.desc.isAgg||Nat.beq y.size 1),Nat.ble (j+y.size) (e u).length,yJ y.desc.isAgg ((((e u).drop j).take y.size).map aBX))=(some (.ptr b i.toNat j),some ⟨k,l.map e⟩,some y,true,true,v)):
  AEff Tryz.prog ⟨dst,.load t x,ty,pos,aft,g⟩ s.ev s.heap s.kp ⟨v,[b],[],[]⟩:=by
 simp only [Prod.mk.injEq] at h;obtain ⟨h1,h2,h3,h4,h5,h6⟩:=h;exact fD aP h1 h2 h3 h4 (qD (dI hm)) h5 h6
end
theorem hM {f:FuncId} {fn:Func} {c:Code} {nt:Nat} {ds:List AV} {r:AV} (rvs:List ResultVar) (hf:Tryz.prog.funcs[f]? =some fn) (hnt:fn.ntmps=nt) (h':(fn.body,(fn.name== "runtime.NumGoroutine"),fn.results.toList,Nat.ble ds.length nt,ds.all yS)=(some c,false,rvs,true,true)) (h:AC Tryz.prog nt c (s0 ds nmA) (vJ TT rvs r)):HasC Tryz.prog f ds r:=by
 simp only [Prod.mk.injEq] at h';exact aCm aP hf h'.1 h'.2.1 hnt h'.2.2.1 h'.2.2.2.1 h'.2.2.2.2 h
@[elab_as_elim] theorem sp {α:Type} {a:α} {P:α→Prop} {o:α} (h:some a=some o) (p:P a):P o:=so h▸p
theorem oF {α:Type} {t:Bool} {A B:Option α} {r:α} {G:Prop} (h:cond t A B=some r) (p:t=true→A=some r→G) (q:t=false→B=some r→G):G:=by
 rcases cb h with ⟨e,h⟩|⟨e,h⟩
 ·exact p e h
 ·exact q e h
theorem cV {P:Program} {nt:Nat} {Q:Exit→AState→Prop} {s:AState} {c:Operand} {x y:Code} {α:Type} {t:Bool} {A B:Option α} {r:α} (hc:s.ev c=some (.sc (.bool t))) (h:cond t A B=some r) (p:t=true→A=some r→AC P nt x s Q) (q:t=false→B=some r→AC P nt y s Q):AC P nt (.cond c x y) s Q:=oF h (λe h=>dX hc e (p e h)) λe h=>lK hc e (q e h)
theorem oA {p q:Prop} (a:p) (b:q):p∧q:=⟨a,b⟩
def oMt (v:Mt) (a:Nat):List AV:=[.int v.rows,.int v.cols,.own a 0 v.cells.length]
def oSc (v:Sc) (a:Nat):List AV:=[.int v.size,.own a 0 v.basis.length]
def fN:List AV:=[.int 0,.int 0,.nil 1]
end
noncomputable section
set_option maxRecDepth 10000
set_option maxHeartbeats 4000000
def mJ (a0:Int) (a1:Int) (a2:Int):Option Bool:=
 bif decide (a1≤a0) then
 (some (decide (a0≤a2)))
 else
 (some (false))
theorem tQ (a0:Int) (a1:Int) (a2:Int) (r:Bool) (h:mJ a0 a1 a2=some r):HasC Tryz.prog 77 [.int a0,.int a1,.int a2] (.bl r):=by
 exact hM [.tmp 6] Tryz.func77 Tryz.ntmps77 k<|sR<|aT k2<|sR<|am k k<|am k k<|cm k4<|am k k<|oF h (λq1 h=>aO 10 k q1<|am k k<|am k k<|cm k4<|pk k3<|aT k2<|aD<|gW h k2) λq1 h=>aO 10 k q1<|aK k4<|ak k k<|pk k3<|aT k2<|aD<|gW h k2
def gT (a0:Int) (a1:Int) (a2:Int):Option Bool:=
 bif decide (a1≤a0) then
 (some (decide (a0≤a2)))
 else
 (some (false))
theorem jU (a0:Int) (a1:Int) (a2:Int) (r:Bool) (h:gT a0 a1 a2=some r):HasC Tryz.prog 118 [.int a0,.int a1,.int a2] (.bl r):=by
 exact hM [.tmp 6] Tryz.func118 Tryz.ntmps118 k<|sR<|aT k2<|sR<|am k k<|am k k<|cm k4<|am k k<|oF h (λq1 h=>aO 10 k q1<|am k k<|am k k<|cm k4<|pk k3<|aT k2<|aD<|gW h k2) λq1 h=>aO 10 k q1<|aK k4<|ak k k<|pk k3<|aT k2<|aD<|gW h k2
def tY (a0:(List Int)) (x1:(Int×Int)):Option ((Int×Int) ⊕ Int):=
 bif decide (x1.2<(a0.length:Int)) then
 ((cP a0 x1.2).bind λv2=>
 some (.inl (wr (x1.1+v2),wr (x1.2+1))))
 else
 (some (.inr x1.1))
def lM (a0:(List Int)):Option Int:=
 (Lp (tY a0) (0,0)).bind λy3=>
 some (y3)
theorem zA (a0:(List Int)) (r:Int) (h:lM a0=some r):HasC Tryz.prog 109 [.list 1 (a0.map eI)] (.int r):=by
 refine hM [.tmp 2] Tryz.func109 Tryz.ntmps109 k<|sR<|aT k2<|sR<|aT k2<|sQ<|sR<|am k k<|ln k4<|am k k<|an<|tn<|aC<|oB h λy3 hy3 h=>bU (body:=(tY a0)) hy3 (λ(x1:(Int×Int))=>mN [(3,.int x1.1),(6,.list 1 (a0.map eI)),(7,.int (a0.length:Int)),(8,.int x1.2)] [] 0) (λr e t=>e= .exit 0∧Ent t (mN [(3,.int r)] [] 0)) (bO (bG k2) aX k4) ?_ ?_
 ·intro x1 o h;exact sR<|cm k4<|an<|tn<|sQ<|cV k h (λ_ h=>aI<|tn<|sQ<|aC<|sR<|oB h λv2 hv2 h=>ae (xl hv2 k) k<|lr k7<|aT k2<|rg<|am k k<|am k k<|ae (bB k k) k<|aa k k<|an<|aY<|tn<|rg<|ae (bB k k) k<|am k k<|an<|tn<|sp h ⟨_,k,(bO (bG k2) aX k4)⟩) λ_ h=>aW<|aB<|aB<|sp h ⟨_,k,k,(bO (bG k2) aX k4)⟩
 ·rintro e t ⟨rfl,hent⟩;exact aM<|tn<|aL hent<|sR<|am k k<|aT k2<|aD<|yT h k2
def xB (a0:(List Int)) (a1:(List Int)) (x1:Int):Option (Int ⊕ (Unit ⊕ Bool)):=
 bif decide (x1<(a0.length:Int)) then
 ((cP a0 x1).bind λv3=>
 (cP a1 x1).bind λv4=>
 bif !decide (v3=v4) then
 (some (.inr (.inr (false))))
 else
 (some (.inl (wr (x1+1)))))
 else
 (some (.inr (.inl ())))
def tR (a0:(List Int)) (a1:(List Int)):Option Bool:=
 bif !decide ((a0.length:Int)=(a1.length:Int)) then
 (some (false))
 else
 ((Lp (xB a0 a1) 0).bind λy6=>
 Sum.elim (λy7=>
 some (true)
 )
 (λy8=>
 some y8
 )
 y6)
theorem aAr (a0:(List Int)) (a1:(List Int)) (r:Bool) (h:tR a0 a1=some r):HasC Tryz.prog 95 [.list 1 (a0.map eI),.list 1 (a1.map eI)] (.bl r):=by
 refine hM [.tmp 4] Tryz.func95 Tryz.ntmps95 k<|sR<|aT k2<|sQ<|sR<|am k k<|ln k4<|am k k<|ln k4<|cm k4<|an<|tn<|cV k h (λ_ h=>sR<|aT k2<|aD<|aJ<|gW h k2) λ_ h=>?_;refine aI<|tn<|sQ<|sR<|aT k2<|aC<|oB h λy6 hy6 h=>bU (body:=(xB a0 a1)) hy6 (λ(x1:Int)=>mN [(0,.list 1 (a0.map eI)),(1,.list 1 (a1.map eI)),(5,.int x1)] [] 0) (λr e t=>Sum.elim (λa=>(λr e t=>e= .exit 0∧Ent t (mN [] [] 0)) a e t) (λb=>(λr e t=>e= .ret∧vJ TT [.tmp 4] (.bl r) .ret t) b e t) r) (bO (bG k2) aX k4) ?_ ?_
 ·intro x1 o h;exact sQ<|sR<|am k k<|am k k<|ln k4<|cm k4<|an<|tn<|cV k h (λ_ h=>aI<|tn<|sQ<|aC<|sQ<|aQ fA<|am k k<|am k k<|oB h λv3 hv3 h=>ae (xl hv3 k) k<|lr k7<|am k k<|am k k<|oB h λv4 hv4 h=>ae (xl hv4 k) k<|lr k7<|cm k4<|an<|oA (by kernel_rfl)<|tn<|cV k h (λ_ h=>sR<|aT k2<|aD<|bL<|aJ<|aJ<|sp h ⟨_,k,k,aZ k k k (oD k)⟩) λ_ h=>aI<|aY<|tn<|rg<|am k k<|ae (bB k k) k<|aT k2<|sp h ⟨_,k,(bO (bG k2) aX k4)⟩) λ_ h=>aW<|aB<|aB<|sp h ⟨_,k,k,(bO aX aX k4)⟩
 ·intro e t hX;rcases y6 with y7|y8
  ·obtain ⟨rfl,hent⟩:=hX;exact aM<|tn<|aL hent<|sR<|aT k2<|aD<|gW h k2
  ·obtain ⟨rfl,hent⟩:=hX;exact bL<|aJ<|sp h hent
def tZ (a0:(List Int)) (a1:Int) (x1:Int):Option (Int ⊕ (Unit ⊕ Bool)):=
 bif decide (x1<(a0.length:Int)) then
 ((cP a0 x1).bind λv2=>
 bif decide (v2=a1) then
 (some (.inr (.inr (true))))
 else
 (some (.inl (wr (x1+1)))))
 else
 (some (.inr (.inl ())))
def zB (a0:(List Int)) (a1:Int):Option Bool:=
 (Lp (tZ a0 a1) 0).bind λy4=>
 Sum.elim (λy5=>
 some (false)
 )
 (λy6=>
 some y6
 )
 y4
theorem aKX (a0:(List Int)) (a1:Int) (r:Bool) (h:zB a0 a1=some r):HasC Tryz.prog 187 [.list 1 (a0.map eI),.int a1] (.bl r):=by
 refine hM [.tmp 4] Tryz.func187 Tryz.ntmps187 k<|sR<|aT k2<|sQ<|sR<|aT k2<|aC<|oB h λy4 hy4 h=>bU (body:=(tZ a0 a1)) hy4 (λ(x1:Int)=>mN [(0,.list 1 (a0.map eI)),(1,.int a1),(5,.int x1)] [] 0) (λr e t=>Sum.elim (λa=>(λr e t=>e= .exit 0∧Ent t (mN [] [] 0)) a e t) (λb=>(λr e t=>e= .ret∧vJ TT [.tmp 4] (.bl r) .ret t) b e t) r) (bO (bG k2) aX k4) ?_ ?_
 ·intro x1 o h;exact sQ<|sR<|am k k<|am k k<|ln k4<|cm k4<|an<|tn<|cV k h (λ_ h=>aI<|tn<|sQ<|aC<|sR<|am k k<|am k k<|oB h λv2 hv2 h=>ae (xl hv2 k) k<|lr k7<|am k k<|cm k4<|an<|tn<|cV k h (λ_ h=>sR<|aT k2<|aD<|bL<|aJ<|aJ<|sp h ⟨_,k,k,aZ k k k (oD k)⟩) λ_ h=>aI<|aY<|tn<|rg<|am k k<|ae (bB k k) k<|aT k2<|sp h ⟨_,k,(bO (bG k2) aX k4)⟩) λ_ h=>aW<|aB<|aB<|sp h ⟨_,k,k,(bO aX aX k4)⟩
 ·intro e t hX;rcases y4 with y5|y6
  ·obtain ⟨rfl,hent⟩:=hX;exact aM<|tn<|aL hent<|sR<|aT k2<|aD<|gW h k2
  ·obtain ⟨rfl,hent⟩:=hX;exact bL<|aJ<|sp h hent
def kA (a0:(List Int)) (a1:(List Int)) (x1:Int):Option (Int ⊕ (Unit ⊕ Bool)):=
 bif decide (x1<(a0.length:Int)) then
 ((cP a0 x1).bind λv3=>
 (cP a1 x1).bind λv4=>
 bif !decide (v3=v4) then
 (some (.inr (.inr (false))))
 else
 (some (.inl (wr (x1+1)))))
 else
 (some (.inr (.inl ())))
def eK (a0:(List Int)) (a1:(List Int)):Option Bool:=
 bif !decide ((a0.length:Int)=(a1.length:Int)) then
 (some (false))
 else
 ((Lp (kA a0 a1) 0).bind λy6=>
 Sum.elim (λy7=>
 some (true)
 )
 (λy8=>
 some y8
 )
 y6)
theorem nO (a0:(List Int)) (a1:(List Int)) (r:Bool) (h:eK a0 a1=some r):HasC Tryz.prog 111 [.list 1 (a0.map eI),.list 1 (a1.map eI)] (.bl r):=by
 refine hM [.tmp 4] Tryz.func111 Tryz.ntmps111 k<|sR<|aT k2<|sQ<|sR<|am k k<|ln k4<|am k k<|ln k4<|cm k4<|an<|tn<|cV k h (λ_ h=>sR<|aT k2<|aD<|aJ<|gW h k2) λ_ h=>?_;refine aI<|tn<|sQ<|sR<|am k k<|ln k4<|am k k<|an<|tn<|aC<|oB h λy6 hy6 h=>bU (body:=(kA a0 a1)) hy6 (λ(x1:Int)=>mN [(0,.list 1 (a0.map eI)),(1,.list 1 (a1.map eI)),(12,.int (a0.length:Int)),(13,.int x1)] [] 0) (λr e t=>Sum.elim (λa=>(λr e t=>e= .exit 0∧Ent t (mN [] [] 0)) a e t) (λb=>(λr e t=>e= .ret∧vJ TT [.tmp 4] (.bl r) .ret t) b e t) r) (bO (bG k2) aX k4) ?_ ?_
 ·intro x1 o h;exact sR<|cm k4<|an<|tn<|sQ<|cV k h (λ_ h=>aI<|tn<|sQ<|aC<|sR<|am k k<|aT k2<|sQ<|aQ fA<|am k k<|am k k<|oB h λv3 hv3 h=>ae (xl hv3 k) k<|lr k7<|am k k<|am k k<|oB h λv4 hv4 h=>ae (xl hv4 k) k<|lr k7<|cm k4<|an<|oA (by kernel_rfl)<|tn<|cV k h (λ_ h=>sR<|aT k2<|aD<|bL<|aJ<|aJ<|sp h ⟨_,k,k,aZ k k k (oD k)⟩) λ_ h=>aI<|aY<|tn<|rg<|ae (bB k k) k<|am k k<|an<|tn<|sp h ⟨_,k,(bO (bG k2) aX k4)⟩) λ_ h=>aW<|aB<|aB<|sp h ⟨_,k,k,(bO aX aX k4)⟩
 ·intro e t hX;rcases y6 with y7|y8
  ·obtain ⟨rfl,hent⟩:=hX;exact aM<|tn<|aL hent<|sR<|aT k2<|aD<|gW h k2
  ·obtain ⟨rfl,hent⟩:=hX;exact bL<|aJ<|sp h hent
def kB (a0:Int):Option Bool:=
 bif decide (a0=2) then
 (some (true))
 else
 (bif decide (a0=3) then
 (some (true))
 else
 (some (decide (a0=5))))
theorem rK (a0:Int) (r:Bool) (h:kB a0=some r):HasC Tryz.prog 79 [.int a0] (.bl r):=by
 exact hM [.tmp 2] Tryz.func79 Tryz.ntmps79 k<|sR<|aT k2<|sR<|am k k<|cm k4<|am k k<|oF h (λq1 h=>aO 5 k q1<|aK k4<|pk k3<|am k k<|aK k4<|pk k3<|aT k2<|aD<|gW h k2) λq1 h=>aO 5 k q1<|am k k<|cm k4<|pk k3<|am k k<|oF h (λq2 h=>aO 9 k q2<|aK k4<|pk k3<|aT k2<|aD<|gW h k2) λq2 h=>aO 9 k q2<|am k k<|cm k4<|pk k3<|aT k2<|aD<|gW h k2
def kC (a0:Int):Option Bool:=
 bif decide (a0=2) then
 (some (true))
 else
 (bif decide (a0=3) then
 (some (true))
 else
 (some (decide (a0=5))))
theorem rL (a0:Int) (r:Bool) (h:kC a0=some r):HasC Tryz.prog 98 [.int a0] (.bl r):=by
 exact hM [.tmp 2] Tryz.func98 Tryz.ntmps98 k<|sR<|aT k2<|sR<|am k k<|cm k4<|am k k<|oF h (λq1 h=>aO 5 k q1<|aK k4<|pk k3<|am k k<|aK k4<|pk k3<|aT k2<|aD<|gW h k2) λq1 h=>aO 5 k q1<|am k k<|cm k4<|pk k3<|am k k<|oF h (λq2 h=>aO 9 k q2<|aK k4<|pk k3<|aT k2<|aD<|gW h k2) λq2 h=>aO 9 k q2<|am k k<|cm k4<|pk k3<|aT k2<|aD<|gW h k2
def oK (a0:Qv) (x1:Int):Option (Int ⊕ (Unit ⊕ Bool)):=
 bif decide (x1<(a0.src.length:Int)) then
 (bif decide (x1<(a0.tgt.length:Int)) then
 ((cP a0.src x1).bind λv3=>
 (gT v3 0 (wr (a0.n - 1))).bind λv4=>
 bif !v4 then
 (some (.inr (.inr (false))))
 else
 ((cP a0.tgt x1).bind λv6=>
 (gT v6 0 (wr (a0.n - 1))).bind λv7=>
 bif !v7 then
 (some (.inr (.inr (false))))
 else
 (some (.inl (wr (x1+1))))))
 else
 (some (.inr (.inl ()))))
 else
 (some (.inr (.inl ())))
def uA (a0:Qv):Option Bool:=
 (Lp (oK a0) 0).bind λy9=>
 Sum.elim (λy10=>
 (gT a0.n 1 5).bind λv11=>
 bif v11 then
 (bif decide ((a0.src.length:Int)≤6) then
 (some (decide ((a0.tgt.length:Int)=(a0.src.length:Int))))
 else
 (some (false)))
 else
 (some (false))
 )
 (λy14=>
 some y14
 )
 y9
theorem aFy (a0:Qv) (r:Bool) (h:uA a0=some r):HasC Tryz.prog 133 [.agg (eQ a0)] (.bl r):=by
 refine hM [.tmp 2] Tryz.func133 Tryz.ntmps133 k<|sR<|ae (wb k) k<|aT k2<|sQ<|sR<|aT k2<|aC<|oB h λy9 hy9 h=>bU (body:=(oK a0)) hy9 (λ(x1:Int)=>mN [(1,.ptr 0 0 0),(3,.int x1)] [(0,⟨3,[eQ a0]⟩)] 1) (λr e t=>Sum.elim (λa=>(λr e t=>e= .exit 0∧Ent t (mN [(1,.ptr 0 0 0)] [(0,⟨3,[eQ a0]⟩)] 1)) a e t) (λb=>(λr e t=>e= .ret∧vJ TT [.tmp 2] (.bl r) .ret t) b e t) r) (bO (bG k2) (bH k<|aX) k4) ?_ ?_
 ·intro x1 o h;refine sQ<|sR<|am k k<|fp k8<|lp k8<|ln k4<|cm k4<|am k k<|oF h (λq1 h=>?_) λq1 h=>aO 9 k q1<|aK k4<|aK k4<|ak k k<|pk k3<|an<|tn<|lK k k<|aW<|aB<|aB<|sp h ⟨_,k,k,(bO (bG k2) (bH k<|aX) k4)⟩;exact aO 9 k q1<|am k k<|fp k8<|lp k8<|ln k4<|cm k4<|pk k3<|an<|tn<|cV k h (λ_ h=>aI<|tn<|sQ<|aC<|sQ<|aQ fA<|fp k8<|lp k8<|am k k<|oB h λv3 hv3 h=>ae (xl hv3 k) k<|lr k7<|fp k8<|lp k8<|ae (mP k k) k<|oB h λv4 hv4 h=>ae (aH (jU v3 0 (wr (a0.n - 1)) v4 hv4) k (bZ k (bZ k (bZ k aE)))) k<|ae (dB k) k<|am k k<|oF h (λq5 h=>aO 28 k q5<|aK k4<|aK k4<|aK k4<|aK k4<|aK k4<|pk k3<|an<|oA (by kernel_rfl)<|tn<|aL (t:=mN [(1,.ptr 0 0 0),(3,.int x1),(39,.bl true)] [(0,⟨3,[eQ a0]⟩)] 1) (bO (bG k2) (bH k<|aX) k4)<|dX k k<|sR<|aT k2<|aD<|bL<|aJ<|aJ<|sp h ⟨_,k,k,aZ k k k (oD k)⟩) λq5 h=>aO 28 k q5<|fp k8<|lp k8<|am k k<|oB h λv6 hv6 h=>ae (xl hv6 k) k<|lr k7<|fp k8<|lp k8<|ae (mP k k) k<|oB h λv7 hv7 h=>ae (aH (jU v6 0 (wr (a0.n - 1)) v7 hv7) k (bZ k (bZ k (bZ k aE)))) k<|ae (dB k) k<|pk k3<|an<|oA (by kernel_rfl)<|tn<|aL (t:=mN [(1,.ptr 0 0 0),(3,.int x1),(39,.bl (!v7))] [(0,⟨3,[eQ a0]⟩)] 1) (bO (bG k2) (bH k<|aX) k4)<|cV k h (λ_ h=>sR<|aT k2<|aD<|bL<|aJ<|aJ<|sp h ⟨_,k,k,aZ k k k (oD k)⟩) λ_ h=>aI<|aY<|tn<|rg<|am k k<|ae (bB k k) k<|aT k2<|sp h ⟨_,k,(bO (bG k2) (bH k<|aX) k4)⟩) λ_ h=>aW<|aB<|aB<|sp h ⟨_,k,k,(bO (bG k2) (bH k<|aX) k4)⟩
 ·intro e t hX;rcases y9 with y10|y14
  ·obtain ⟨rfl,hent⟩:=hX;exact aM<|tn<|aL hent<|sR<|fp k8<|lp k8<|oB h λv11 hv11 h=>ae (aH (jU a0.n 1 5 v11 hv11) k (bZ k (bZ k (bZ k aE)))) k<|am k k<|oF h (λq12 h=>aO 43 k q12<|fp k8<|lp k8<|ln k4<|cm k4<|pk k3<|am k k<|oF h (λq13 h=>aO 49 k q13<|fp k8<|lp k8<|ln k4<|fp k8<|lp k8<|ln k4<|cm k4<|pk k3<|aT k2<|aD<|gW h k2) λq13 h=>aO 49 k q13<|aK k4<|aK k4<|aK k4<|ak k k<|pk k3<|aT k2<|aD<|gW h k2) λq12 h=>aO 43 k q12<|aK k4<|aK k4<|pk k3<|am k k<|aK k4<|aK k4<|aK k4<|ak k k<|pk k3<|aT k2<|aD<|gW h k2
  ·obtain ⟨rfl,hent⟩:=hX;exact bL<|aJ<|sp h hent
def oG (a0:Int) (a1:Int):Option Mt:=
 bif (decide (0≤wr (a0*a1))&&decide (wr (a0*a1)≤1048576)) then
 (some ((⟨a0,a1,(List.replicate ((wr (a0*a1)).toNat) (0:Int))⟩:Mt)))
 else none
theorem yG (a0:Int) (a1:Int) (r:Mt) (h:oG a0 a1=some r):HasC Tryz.prog 231 [.int a0,.int a1] (.agg (eM r)):=by
 exact hM [.cell 4 96] Tryz.func231 Tryz.ntmps231 k<|sR<|ae (bX aP k k) k<|an<|tn<|sR<|am k k<|am k k<|am k k<|am k k<|ae (eX k k) k<|cG h λq1 h=>ae (vX aP q1 k k k k k k k k) k<|ae (fY aP k k k k k k) k<|ae (ws k) k<|an<|tn<|aL (t:=mN [(4,.ptr 0 0 0)] [(0,⟨3,[[.int a0,.int a1,.own 1 0 ((List.replicate ((wr (a0*a1)).toNat) (0:Int)).length)]]⟩),(1,⟨1,List.map (ow eI) (List.replicate ((wr (a0*a1)).toNat) (0:Int))⟩)] 2) (bO (bG k2) (hX ⟨_,k,k,.inr ⟨_,_,k,⟨_,_,k,k,⟨_,_,k,k,⟨_,_,k,⟨k,k,(by simp only [aR,lA,lT,lR,lC,lN]),k⟩,k⟩⟩⟩,k⟩⟩ k<|hX ⟨_,k,k,.inl ⟨xA (e:=eI) (z:=0) _,dT.plainO _⟩⟩ k<|aX) k4)<|aD<|sp h (aZ k k k (jH (bD (k) (bD (k) (bD (eH dT k k) eV)))))
def oN (a0:Int) (x1:((List Int)×Int)):Option (((List Int)×Int) ⊕ (List Int)):=
 bif decide (x1.2<a0) then
 ((cP x1.1 (wr ((wr (x1.2*a0))+x1.2))).bind λv3=>
 some (.inl ((x1.1.set ((wr ((wr (x1.2*a0))+x1.2)).toNat) 1),wr (x1.2+1))))
 else
 (some (.inr x1.1))
def uB (a0:Int):Option Mt:=
 (oG a0 a0).bind λv1=>
 (Lp (oN a0) (v1.cells,0)).bind λy4=>
 some ((⟨v1.rows,v1.cols,y4⟩:Mt))
theorem aFz (a0:Int) (r:Mt) (h:uB a0=some r):HasC Tryz.prog 197 [.int a0] (.agg (eM r)):=by
 refine hM [.cell 2 96] Tryz.func197 Tryz.ntmps197 k<|sR<|ae (bX aP k k) k<|an<|tn<|sR<|am k k<|am k k<|oB h λv1 hv1 h=>ae (cM (yG a0 a0 v1 hv1) k3 (bZ k (bZ k aE))) k<|ae (bX aP k k) k<|ae (ws k) k<|an<|tn<|sQ<|sR<|am k k<|am k k<|an<|tn<|aC<|oB h λy4 hy4 h=>bU (body:=(oN a0)) hy4 (λ(x1:((List Int)×Int))=>mN [(0,.int a0),(2,.ptr 0 0 0),(3,.ptr 1 0 0),(8,.int a0),(9,.int x1.2)] [(0,⟨3,[fN]⟩),(1,⟨3,[[.int v1.rows,.int v1.cols,.own 2 0 x1.1.length]]⟩),(2,⟨1,x1.1.map (ow eI)⟩)] 3) (λr e t=>e= .exit 0∧Ent t (mN [(2,.ptr 0 0 0),(3,.ptr 1 0 0)] [(0,⟨3,[fN]⟩),(1,⟨3,[[.int v1.rows,.int v1.cols,.own 2 0 r.length]]⟩),(2,⟨1,r.map (ow eI)⟩)] 3)) (jI [0,2,1] (bG k2) (bH k<|gX k<|cB k<|aX) k4) ?_ ?_
 ·intro x1 o h;exact sR<|cm k4<|an<|tn<|sQ<|cV k h (λ_ h=>aI<|tn<|sQ<|aC<|sR<|am k k<|aT k2<|rg<|fp k8<|lp k8<|am k k<|am k k<|ae (eX k k) k<|am k k<|ae (bB k k) k<|oB h λv3 hv3 h=>ae (xo hv3 k) k<|ae (fK aP kX (u:=1) (dI hv3) k k k k k k) k<|an<|aY<|tn<|rg<|ae (bB k k) k<|am k k<|an<|tn<|sp h ⟨_,k,(bO (bG k2) (bH k<|hX ⟨_,k,k,.inr ⟨_,_,k,⟨_,_,k,k,⟨_,_,k,k,⟨_,_,k,⟨k,k,(by simp only [aR,lA,lT,lR,lC,lN]),k⟩,k⟩⟩⟩,k⟩⟩ k<|cB k<|aX) k4)⟩) λ_ h=>aW<|aB<|aB<|sp h ⟨_,k,k,(bO (bG k2) (bH k<|gX k<|cB k<|aX) k4)⟩
 ·rintro e t ⟨rfl,hent⟩;exact aM<|tn<|aL hent<|sR<|lp k8<|ae (ws k) k<|an<|tn<|aD<|sp h (aZ k k k (jH (bD (k) (bD (k) (bD (eH dT k k) eV)))))
def pU (a0:Int) (a1:Int):Option Mt:=
 bif (decide (0≤wr (a0*a1))&&decide (wr (a0*a1)≤1048576)) then
 (some ((⟨a0,a1,(List.replicate ((wr (a0*a1)).toNat) (0:Int))⟩:Mt)))
 else none
theorem aAs (a0:Int) (a1:Int) (r:Mt) (h:pU a0 a1=some r):HasC Tryz.prog 226 [.int a0,.int a1] (.agg (eM r)):=by
 exact hM [.cell 4 96] Tryz.func226 Tryz.ntmps226 k<|sR<|ae (bX aP k k) k<|an<|tn<|sR<|am k k<|am k k<|am k k<|am k k<|ae (eX k k) k<|cG h λq1 h=>ae (vX aP q1 k k k k k k k k) k<|ae (fY aP k k k k k k) k<|ae (ws k) k<|an<|tn<|aL (t:=mN [(4,.ptr 0 0 0)] [(0,⟨3,[[.int a0,.int a1,.own 1 0 ((List.replicate ((wr (a0*a1)).toNat) (0:Int)).length)]]⟩),(1,⟨1,List.map (ow eI) (List.replicate ((wr (a0*a1)).toNat) (0:Int))⟩)] 2) (bO (bG k2) (hX ⟨_,k,k,.inr ⟨_,_,k,⟨_,_,k,k,⟨_,_,k,k,⟨_,_,k,⟨k,k,(by simp only [aR,lA,lT,lR,lC,lN]),k⟩,k⟩⟩⟩,k⟩⟩ k<|hX ⟨_,k,k,.inl ⟨xA (e:=eI) (z:=0) _,dT.plainO _⟩⟩ k<|aX) k4)<|aD<|sp h (aZ k k k (jH (bD (k) (bD (k) (bD (eH dT k k) eV)))))
def lO (a0:Int) (x1:((List Int)×Int)):Option (((List Int)×Int) ⊕ (List Int)):=
 bif decide (x1.2<a0) then
 ((cP x1.1 (wr ((wr (x1.2*a0))+x1.2))).bind λv3=>
 some (.inl ((x1.1.set ((wr ((wr (x1.2*a0))+x1.2)).toNat) 1),wr (x1.2+1))))
 else
 (some (.inr x1.1))
def qH (a0:Int):Option Mt:=
 (pU a0 a0).bind λv1=>
 (Lp (lO a0) (v1.cells,0)).bind λy4=>
 some ((⟨v1.rows,v1.cols,y4⟩:Mt))
theorem aEH (a0:Int) (r:Mt) (h:qH a0=some r):HasC Tryz.prog 185 [.int a0] (.agg (eM r)):=by
 refine hM [.cell 2 96] Tryz.func185 Tryz.ntmps185 k<|sR<|ae (bX aP k k) k<|an<|tn<|sR<|am k k<|am k k<|oB h λv1 hv1 h=>ae (cM (aAs a0 a0 v1 hv1) k3 (bZ k (bZ k aE))) k<|ae (bX aP k k) k<|ae (ws k) k<|an<|tn<|sQ<|sR<|aT k2<|aC<|oB h λy4 hy4 h=>bU (body:=(lO a0)) hy4 (λ(x1:((List Int)×Int))=>mN [(0,.int a0),(2,.ptr 0 0 0),(3,.ptr 1 0 0),(4,.int x1.2)] [(0,⟨3,[fN]⟩),(1,⟨3,[[.int v1.rows,.int v1.cols,.own 2 0 x1.1.length]]⟩),(2,⟨1,x1.1.map (ow eI)⟩)] 3) (λr e t=>e= .exit 0∧Ent t (mN [(2,.ptr 0 0 0),(3,.ptr 1 0 0)] [(0,⟨3,[fN]⟩),(1,⟨3,[[.int v1.rows,.int v1.cols,.own 2 0 r.length]]⟩),(2,⟨1,r.map (ow eI)⟩)] 3)) (jI [0,2,1] (bG k2) (bH k<|gX k<|cB k<|aX) k4) ?_ ?_
 ·intro x1 o h;exact sQ<|sR<|am k k<|am k k<|cm k4<|an<|tn<|cV k h (λ_ h=>aI<|tn<|sQ<|aC<|rg<|fp k8<|lp k8<|am k k<|am k k<|ae (eX k k) k<|am k k<|ae (bB k k) k<|oB h λv3 hv3 h=>ae (xo hv3 k) k<|ae (fK aP kX (u:=1) (dI hv3) k k k k k k) k<|an<|aY<|tn<|rg<|am k k<|ae (bB k k) k<|aT k2<|sp h ⟨_,k,(bO (bG k2) (bH k<|hX ⟨_,k,k,.inr ⟨_,_,k,⟨_,_,k,k,⟨_,_,k,k,⟨_,_,k,⟨k,k,(by simp only [aR,lA,lT,lR,lC,lN]),k⟩,k⟩⟩⟩,k⟩⟩ k<|cB k<|aX) k4)⟩) λ_ h=>aW<|aB<|aB<|sp h ⟨_,k,k,(bO (bG k2) (bH k<|gX k<|cB k<|aX) k4)⟩
 ·rintro e t ⟨rfl,hent⟩;exact aM<|tn<|aL hent<|sR<|lp k8<|ae (ws k) k<|an<|tn<|aD<|sp h (aZ k k k (jH (bD (k) (bD (k) (bD (eH dT k k) eV)))))
def dL (a0:Mt) (a1:Int):Option Unit:=
 bif (decide (0≤wr (a1*a0.cols))&&(decide (wr (a1*a0.cols)≤wr ((wr (a1+1))*a0.cols))&&decide (wr ((wr (a1+1))*a0.cols)≤((a0.cells.length:Nat):Int)))) then
 (some ())
 else none
theorem fG (a0:Mt) (a1:Int) (r:Unit) (h:dL a0 a1=some r):HasE Tryz.prog 190 [.agg [.int a0.rows,.int a0.cols,.own 0 0 a0.cells.length],.int a1] [(0,⟨1,a0.cells.map (ow eI)⟩)] 1 (.own 0 (0+(wr (a1*a0.cols)).toNat) ((wr ((wr (a1+1))*a0.cols)).toNat - (wr (a1*a0.cols)).toNat)) [(0,⟨1,a0.cells.map (ow eI)⟩)]:=by
 exact aBg aP (rvs:=[.tmp 4]) (ns:=nmA.drop 1) Tryz.func190 k k Tryz.ntmps190 k k<|sR<|ae (wb k) k<|aT k2<|sR<|fp k8<|lp k8<|am k k<|fp k8<|lp k8<|ae (eX k k) k<|am k k<|ae (bB k k) k<|fp k8<|lp k8<|ae (eX k k) k<|cG h λq1 h=>ae (aFj aP (l:=wr (a1*a0.cols)) (h:=wr ((wr (a1+1))*a0.cols)) q1 k k k k k k k k) k<|aT k2<|aD<|sp h ⟨mN [(4,.own 0 (0+(wr (a1*a0.cols)).toNat) ((wr ((wr (a1+1))*a0.cols)).toNat - (wr (a1*a0.cols)).toNat))] [(0,⟨1,a0.cells.map (ow eI)⟩)] 1 1,(bO (bG k2) (cB k<|aX) k4),k,⟨_,k,.inl k⟩,⟨k,aX⟩⟩
def kN (a0:Int) (a2:Int) (a3:(List Int)) (n1:Nat) (s1:Nat) (x1:((List Int)×Int)):Option (((List Int)×Int) ⊕ (List Int)):=
 bif decide (x1.2<(a3.length:Int)) then
 ((cP a3 x1.2).bind λv2=>
 bif (decide (0≤x1.2)&&decide (x1.2<((n1:Nat):Int))) then
 ((x1.1[(s1+x1.2.toNat)]?).bind λv3=>
 bif !decide (a0=0) then
 (bif (decide (0≤x1.2)&&decide (x1.2<((n1:Nat):Int))) then
 ((x1.1[(s1+x1.2.toNat)]?).bind λv5=>
 some (.inl ((x1.1.set (s1+x1.2.toNat) ((wr (v3+(wr (a2*v2)))).tmod a0)),wr (x1.2+1)))
 )
 else none)
 else none
 )
 else none)
 else
 (some (.inr x1.1))
def gE (a0:Int) (c0:(List Int)) (s1:Nat) (n1:Nat) (a2:Int) (a3:(List Int)):Option (List Int):=
 (Lp (kN a0 a2 a3 n1 s1) (c0,0)).bind λy8=>
 some y8
theorem vK (a0:Int) (c0:(List Int)) (s1:Nat) (n1:Nat) (a2:Int) (a3:(List Int)) (r:(List Int)) (h:gE a0 c0 s1 n1 a2 a3=some r):HasE Tryz.prog 193 [.int a0,.own 0 s1 n1,.int a2,.list 1 (a3.map eI)] [(0,⟨1,c0.map (ow eI)⟩)] 1 (.own 0 s1 n1) [(0,⟨1,r.map (ow eI)⟩)]:=by
 refine aBg aP (rvs:=[.tmp 8]) (ns:=nmA.drop 1) Tryz.func193 k k Tryz.ntmps193 k k<|sR<|aT k2<|sQ<|sR<|am k k<|ln k4<|am k k<|an<|tn<|aC<|oB h λy8 hy8 h=>bU (body:=(kN a0 a2 a3 n1 s1)) hy8 (λ(x1:((List Int)×Int))=>mN [(0,.int a0),(1,.own 0 s1 n1),(2,.int a2),(11,.list 1 (a3.map eI)),(12,.int (a3.length:Int)),(13,.int x1.2)] [(0,⟨1,x1.1.map (ow eI)⟩)] 1 1) (λr e t=>e= .exit 0∧Ent t (mN [(1,.own 0 s1 n1)] [(0,⟨1,r.map (ow eI)⟩)] 1 1)) (bO (bG k2) (cB k<|aX) k4) ?_ ?_
 ·intro x1 o h;refine sR<|cm k4<|an<|tn<|sQ<|cV k h (λ_ h=>?_) λ_ h=>aW<|aB<|aB<|sp h ⟨_,k,k,(bO (bG k2) (cB k<|aX) k4)⟩;refine aI<|tn<|sQ<|aC<|sR<|am k k<|oB h λv2 hv2 h=>ae (xl hv2 k) k<|lr k7<|aa k k<|aT k2<|rg<|am k k<|am k k<|am k k<|am k k<|cG h λq4 h=>oB h λv3 hv3 h=>ae (hU aP q4 k k k k k k k) k<|ae (fD aP k k k k (qD (hv3)) k k) k<|am k k<|am k k<|ae (eX k k) k<|ae (bB k k) k<|am k k<|cG h λq7 h=>ae (aCD k k q7) k<|cG h λq6 h=>oB h λv5 hv5 h=>ae (hU aP q6 k k k k k k k) k<|ae (fK aP kX (u:=(wr (v3+(wr (a2*v2)))).tmod a0) (hv5) k k k k k k) k<|an ?_;exact aY<|tn<|rg<|ae (bB k k) k<|am k k<|an<|tn<|sp h ⟨_,k,(bO (bG k2) (cB k<|aX) k4)⟩
 ·rintro e t ⟨rfl,hent⟩;exact aM<|tn<|aL hent<|sR<|am k k<|aT k2<|aD<|sp h ⟨mN [(8,.own 0 s1 n1)] [(0,⟨1,y8.map (ow eI)⟩)] 1 1,(bO (bG k2) (cB k<|aX) k4),k,⟨_,k,.inl k⟩,⟨k,aX⟩⟩
def gM (a0:Int) (a2:Int) (n1:Nat) (n3:Nat) (s1:Nat) (s3:Nat) (x1:((List Int)×Int)):Option (((List Int)×Int) ⊕ (List Int)):=
 bif decide (x1.2<((n3:Nat):Int)) then
 (bif (decide (0≤x1.2)&&decide (x1.2<((n3:Nat):Int))) then
 ((x1.1[(s3+x1.2.toNat)]?).bind λv2=>
 bif (decide (0≤x1.2)&&decide (x1.2<((n1:Nat):Int))) then
 ((x1.1[(s1+x1.2.toNat)]?).bind λv4=>
 bif !decide (a0=0) then
 (bif (decide (0≤x1.2)&&decide (x1.2<((n1:Nat):Int))) then
 ((x1.1[(s1+x1.2.toNat)]?).bind λv6=>
 some (.inl ((x1.1.set (s1+x1.2.toNat) ((wr (v4+(wr (a2*v2)))).tmod a0)),wr (x1.2+1)))
 )
 else none)
 else none
 )
 else none
 )
 else none)
 else
 (some (.inr x1.1))
def iS (a0:Int) (c0:(List Int)) (s1:Nat) (n1:Nat) (a2:Int) (s3:Nat) (n3:Nat):Option (List Int):=
 (Lp (gM a0 a2 n1 n3 s1 s3) (c0,0)).bind λy9=>
 some y9
theorem aBP (a0:Int) (c0:(List Int)) (s1:Nat) (n1:Nat) (a2:Int) (s3:Nat) (n3:Nat) (r:(List Int)) (h:iS a0 c0 s1 n1 a2 s3 n3=some r):HasE Tryz.prog 193 [.int a0,.own 0 s1 n1,.int a2,.own 0 s3 n3] [(0,⟨1,c0.map (ow eI)⟩)] 1 (.own 0 s1 n1) [(0,⟨1,r.map (ow eI)⟩)]:=by
 refine aBg aP (rvs:=[.tmp 8]) (ns:=nmA.drop 1) Tryz.func193 k k Tryz.ntmps193 k k<|sR<|aT k2<|sQ<|sR<|am k k<|ae (dW aP k k k k) k<|am k k<|an<|tn<|aC<|oB h λy9 hy9 h=>bU (body:=(gM a0 a2 n1 n3 s1 s3)) hy9 (λ(x1:((List Int)×Int))=>mN [(0,.int a0),(1,.own 0 s1 n1),(2,.int a2),(11,.own 0 s3 n3),(12,.int ((n3:Nat):Int)),(13,.int x1.2)] [(0,⟨1,x1.1.map (ow eI)⟩)] 1 1) (λr e t=>e= .exit 0∧Ent t (mN [(1,.own 0 s1 n1)] [(0,⟨1,r.map (ow eI)⟩)] 1 1)) (bO (bG k2) (cB k<|aX) k4) ?_ ?_
 ·intro x1 o h;refine sR<|cm k4<|an<|tn<|sQ<|cV k h (λ_ h=>?_) λ_ h=>aW<|aB<|aB<|sp h ⟨_,k,k,(bO (bG k2) (cB k<|aX) k4)⟩;refine aI<|tn<|sQ<|aC<|sR<|am k k<|cG h λq3 h=>oB h λv2 hv2 h=>ae (hU aP q3 k k k k k k k) k<|ae (fD aP k k k k (qD (hv2)) k k) k<|aa k k<|aT k2<|rg<|am k k<|am k k<|am k k<|am k k<|cG h λq5 h=>oB h λv4 hv4 h=>ae (hU aP q5 k k k k k k k) k<|ae (fD aP k k k k (qD (hv4)) k k) k<|am k k<|am k k<|ae (eX k k) k<|ae (bB k k) k<|am k k<|cG h λq8 h=>ae (aCD k k q8) k<|cG h λq7 h=>oB h λv6 hv6 h=>ae (hU aP q7 k k k k k k k) k<|ae (fK aP kX (u:=(wr (v4+(wr (a2*v2)))).tmod a0) (hv6) k k k k k k) k<|an ?_;exact aY<|tn<|rg<|ae (bB k k) k<|am k k<|an<|tn<|sp h ⟨_,k,(bO (bG k2) (cB k<|aX) k4)⟩
 ·rintro e t ⟨rfl,hent⟩;exact aM<|tn<|aL hent<|sR<|am k k<|aT k2<|aD<|sp h ⟨mN [(8,.own 0 s1 n1)] [(0,⟨1,y9.map (ow eI)⟩)] 1 1,(bO (bG k2) (cB k<|aX) k4),k,⟨_,k,.inl k⟩,⟨k,aX⟩⟩
def fZ (a0:Int) (a1:Int):Option Int:=
 bif !decide (a0=0) then
 (bif decide (a1.tmod a0<0) then
 (some (wr ((a1.tmod a0)+a0)))
 else
 (some (a1.tmod a0)))
 else none
theorem jJ (a0:Int) (a1:Int) (r:Int) (h:fZ a0 a1=some r):HasC Tryz.prog 147 [.int a0,.int a1] (.int r):=by
 exact hM [.tmp 4] Tryz.func147 Tryz.ntmps147 k<|sR<|aT k2<|sR<|am k k<|am k k<|cG h λq2 h=>ae (aCD k k q2) k<|aT k2<|sQ<|sR<|am k k<|cm k4<|an<|tn<|cV k h (λ_ h=>rg<|am k k<|am k k<|ae (bB k k) k<|aT k2<|sR<|am k k<|aT k2<|aD<|yT h k2) λ_ h=>aI<|tn<|sR<|am k k<|aT k2<|aD<|yT h k2
def lP (a1:Mt) (a2:Mt) (x1:((List Int)×Int)) (x2:((List Int)×Int)) (x3:(Int×Int)):Option ((Int×Int) ⊕ Int):=
 bif decide (x3.2<a1.cols) then
 ((cP a1.cells (wr ((wr (x1.2*a1.cols))+x3.2))).bind λv5=>
 (cP a2.cells (wr ((wr (x3.2*a2.cols))+x2.2))).bind λv6=>
 some (.inl (wr (x3.1+(wr (v5*v6))),wr (x3.2+1))))
 else
 (some (.inr x3.1))
def lQ (a0:Int) (a1:Mt) (a2:Mt) (x1:((List Int)×Int)) (x2:((List Int)×Int)):Option (((List Int)×Int) ⊕ (List Int)):=
 bif decide (x2.2<a2.cols) then
 ((Lp (lP a1 a2 x1 x2) (0,0)).bind λy7=>
 (fZ a0 y7).bind λv8=>
 (cP x2.1 (wr ((wr (x1.2*a2.cols))+x2.2))).bind λv9=>
 some (.inl ((x2.1.set ((wr ((wr (x1.2*a2.cols))+x2.2)).toNat) v8),wr (x2.2+1))))
 else
 (some (.inr x2.1))
def lS (a0:Int) (a1:Mt) (a2:Mt) (x1:((List Int)×Int)):Option (((List Int)×Int) ⊕ (List Int)):=
 bif decide (x1.2<a1.rows) then
 ((Lp (lQ a0 a1 a2 x1) (x1.1,0)).bind λy10=>
 some (.inl (y10,wr (x1.2+1))))
 else
 (some (.inr x1.1))
def qI (a0:Int) (a1:Mt) (a2:Mt):Option Mt:=
 (pU a1.rows a2.cols).bind λv1=>
 (Lp (lS a0 a1 a2) (v1.cells,0)).bind λy11=>
 some ((⟨v1.rows,v1.cols,y11⟩:Mt))
theorem aEI (a0:Int) (a1:Mt) (a2:Mt) (r:Mt) (h:qI a0 a1 a2=some r):HasC Tryz.prog 246 [.int a0,.agg (eM a1),.agg (eM a2)] (.agg (eM r)):=by
 refine hM [.cell 6 96] Tryz.func246 Tryz.ntmps246 k<|sR<|ae (wb k) k<|ae (wb k) k<|ae (bX aP k k) k<|an<|tn<|sR<|fp k8<|lp k8<|fp k8<|lp k8<|oB h λv1 hv1 h=>ae (cM (aAs a1.rows a2.cols v1 hv1) k3 (bZ k (bZ k aE))) k<|ae (bX aP k k) k<|ae (ws k) k<|an<|tn<|sQ<|sR<|aT k2<|aC<|oB h λy11 hy11 h=>bU (body:=(lS a0 a1 a2)) hy11 (λ(x1:((List Int)×Int))=>mN [(0,.int a0),(4,.ptr 0 0 0),(5,.ptr 1 0 0),(6,.ptr 2 0 0),(7,.ptr 3 0 0),(8,.int x1.2)] [(0,⟨3,[eM a1]⟩),(1,⟨3,[eM a2]⟩),(2,⟨3,[fN]⟩),(3,⟨3,[[.int v1.rows,.int v1.cols,.own 4 0 x1.1.length]]⟩),(4,⟨1,x1.1.map (ow eI)⟩)] 5) (λr e t=>e= .exit 0∧Ent t (mN [(6,.ptr 0 0 0),(7,.ptr 1 0 0)] [(0,⟨3,[fN]⟩),(1,⟨3,[[.int v1.rows,.int v1.cols,.own 2 0 r.length]]⟩),(2,⟨1,r.map (ow eI)⟩)] 3)) (jI [0,1,2,4,3] (bG k2) (bH k<|bH k<|bH k<|gX k<|cB k<|aX) k4) ?_ ?_
 ·intro x1 o h;refine sQ<|sR<|am k k<|fp k8<|lp k8<|cm k4<|an<|tn<|cV k h (λ_ h=>?_) λ_ h=>aW<|aB<|aB<|sp h ⟨_,k,k,(jI [2,3,4] (bG k2) (bH k<|gX k<|cB k<|aX) k4)⟩;refine aI<|tn<|sQ<|aC<|sR<|aT k2<|aC<|oB h λy10 hy10 h=>bU (body:=(lQ a0 a1 a2 x1)) hy10 (λ(x2:((List Int)×Int))=>mN [(0,.int a0),(4,.ptr 0 0 0),(5,.ptr 1 0 0),(6,.ptr 2 0 0),(7,.ptr 3 0 0),(8,.int x1.2),(9,.int x2.2)] [(0,⟨3,[eM a1]⟩),(1,⟨3,[eM a2]⟩),(2,⟨3,[fN]⟩),(3,⟨3,[[.int v1.rows,.int v1.cols,.own 4 0 x2.1.length]]⟩),(4,⟨1,x2.1.map (ow eI)⟩)] 5) (λr e t=>e= .exit 2∧Ent t (mN [(0,.int a0),(4,.ptr 0 0 0),(5,.ptr 1 0 0),(6,.ptr 2 0 0),(7,.ptr 3 0 0),(8,.int x1.2)] [(0,⟨3,[eM a1]⟩),(1,⟨3,[eM a2]⟩),(2,⟨3,[fN]⟩),(3,⟨3,[[.int v1.rows,.int v1.cols,.own 4 0 r.length]]⟩),(4,⟨1,r.map (ow eI)⟩)] 5)) (bO (bG k2) (bH k<|bH k<|bH k<|gX k<|cB k<|aX) k4) ?_ ?_
  ·intro x2 o h;refine sQ<|sR<|am k k<|fp k8<|lp k8<|cm k4<|an<|tn<|cV k h (λ_ h=>?_) λ_ h=>aW<|aB<|aB<|sp h ⟨_,k,k,(bO (bG k2) (bH k<|bH k<|bH k<|gX k<|cB k<|aX) k4)⟩;refine aI<|tn<|sQ<|aC<|sR<|aT k2<|sQ<|sR<|aT k2<|aC<|oB h λy7 hy7 h=>bU (body:=(lP a1 a2 x1 x2)) hy7 (λ(x3:(Int×Int))=>mN [(0,.int a0),(4,.ptr 0 0 0),(5,.ptr 1 0 0),(6,.ptr 2 0 0),(7,.ptr 3 0 0),(8,.int x1.2),(9,.int x2.2),(10,.int x3.1),(11,.int x3.2)] [(0,⟨3,[eM a1]⟩),(1,⟨3,[eM a2]⟩),(2,⟨3,[fN]⟩),(3,⟨3,[[.int v1.rows,.int v1.cols,.own 4 0 x2.1.length]]⟩),(4,⟨1,x2.1.map (ow eI)⟩)] 5) (λr e t=>e= .exit 4∧Ent t (mN [(0,.int a0),(4,.ptr 0 0 0),(5,.ptr 1 0 0),(6,.ptr 2 0 0),(7,.ptr 3 0 0),(8,.int x1.2),(9,.int x2.2),(10,.int r)] [(0,⟨3,[eM a1]⟩),(1,⟨3,[eM a2]⟩),(2,⟨3,[fN]⟩),(3,⟨3,[[.int v1.rows,.int v1.cols,.own 4 0 x2.1.length]]⟩),(4,⟨1,x2.1.map (ow eI)⟩)] 5)) (bO (bG k2) (bH k<|bH k<|bH k<|gX k<|cB k<|aX) k4) ?_ ?_
   ·intro x3 o h;refine sQ<|sR<|am k k<|fp k8<|lp k8<|cm k4<|an<|tn<|cV k h (λ_ h=>?_) λ_ h=>aW<|aB<|aB<|sp h ⟨_,k,k,(bO (bG k2) (bH k<|bH k<|bH k<|gX k<|cB k<|aX) k4)⟩;refine aI<|tn<|sQ<|aC<|aQ fA<|am k k<|fp k8<|lp k8<|am k k<|fp k8<|lp k8<|ae (eX k k) k<|am k k<|ae (bB k k) k<|oB h λv5 hv5 h=>ae (xl hv5 k) k<|lr k7<|fp k8<|lp k8<|am k k<|fp k8<|lp k8<|ae (eX k k) k<|am k k<|ae (bB k k) k<|oB h λv6 hv6 h=>ae (xl hv6 k) k<|lr k7<|ae (eX k k) k<|ae (bB k k) k<|aa k k ?_;exact an<|oA (by kernel_rfl)<|aY<|tn<|aL (t:=mN [(0,.int a0),(4,.ptr 0 0 0),(5,.ptr 1 0 0),(6,.ptr 2 0 0),(7,.ptr 3 0 0),(8,.int x1.2),(9,.int x2.2),(10,.int (wr (x3.1+(wr (v5*v6))))),(11,.int x3.2)] [(0,⟨3,[eM a1]⟩),(1,⟨3,[eM a2]⟩),(2,⟨3,[fN]⟩),(3,⟨3,[[.int v1.rows,.int v1.cols,.own 4 0 x2.1.length]]⟩),(4,⟨1,x2.1.map (ow eI)⟩)] 5) (bO (bG k2) (bH k<|bH k<|bH k<|gX k<|cB k<|aX) k4)<|rg<|am k k<|ae (bB k k) k<|aT k2<|sp h ⟨_,k,(bO (bG k2) (bH k<|bH k<|bH k<|gX k<|cB k<|aX) k4)⟩
   ·rintro e t ⟨rfl,hent⟩;exact aM<|tn<|aL hent<|aQ fA<|fp k8<|lp k8<|am k k<|fp k8<|lp k8<|ae (eX k k) k<|am k k<|ae (bB k k) k<|am k k<|am k k<|oB h λv8 hv8 h=>ae (aH (jJ a0 y7 v8 hv8) k (bZ k (bZ k aE))) k<|oB h λv9 hv9 h=>ae (xo hv9 k) k<|ae (fK aP kX (u:=v8) (dI hv9) k k k k k k) k<|an<|oA (by kernel_rfl)<|aY<|tn<|rg<|am k k<|ae (bB k k) k<|aT k2<|sp h ⟨_,k,(bO (bG k2) (bH k<|bH k<|bH k<|hX ⟨_,k,k,.inr ⟨_,_,k,⟨_,_,k,k,⟨_,_,k,k,⟨_,_,k,⟨k,k,(by simp only [aR,lA,lT,lR,lC,lN]),k⟩,k⟩⟩⟩,k⟩⟩ k<|cB k<|aX) k4)⟩
  ·rintro e t ⟨rfl,hent⟩;exact aM<|aY<|tn<|aL hent<|rg<|am k k<|ae (bB k k) k<|aT k2<|sp h ⟨_,k,(bO (bG k2) (bH k<|bH k<|bH k<|gX k<|cB k<|aX) k4)⟩
 ·rintro e t ⟨rfl,hent⟩;exact aM<|tn<|aL hent<|sR<|lp k8<|ae (ws k) k<|an<|tn<|aD<|sp h (aZ k k k (jH (bD (k) (bD (k) (bD (eH dT k k) eV)))))
def lU (a0:Int) (a1:Int) (x1:Int):Option (Int ⊕ (Unit ⊕ Int)):=
 bif decide (x1<a0) then
 ((kB a0).bind λv2=>
 bif v2 then
 ((fZ a0 a1).bind λv4=>
 (fZ a0 (wr (v4*x1))).bind λv5=>
 bif decide (v5=1) then
 (some (.inr (.inr (x1))))
 else
 (some (.inl (wr (x1+1)))))
 else
 (some (.inr (.inl ()))))
 else
 (some (.inr (.inl ())))
def qJ (a0:Int) (a1:Int):Option Int:=
 (Lp (lU a0 a1) 1).bind λy7=>
 Sum.elim (λy8=>
 some (0)
 )
 (λy9=>
 some y9
 )
 y7
theorem aEJ (a0:Int) (a1:Int) (r:Int) (h:qJ a0 a1=some r):HasC Tryz.prog 149 [.int a0,.int a1] (.int r):=by
 refine hM [.tmp 4] Tryz.func149 Tryz.ntmps149 k<|sR<|aT k2<|sQ<|sR<|aT k2<|aC<|oB h λy7 hy7 h=>bU (body:=(lU a0 a1)) hy7 (λ(x1:Int)=>mN [(0,.int a0),(1,.int a1),(5,.int x1)] [] 0) (λr e t=>Sum.elim (λa=>(λr e t=>e= .exit 0∧Ent t (mN [] [] 0)) a e t) (λb=>(λr e t=>e= .ret∧vJ TT [.tmp 4] (.int r) .ret t) b e t) r) (bO (bG k2) aX k4) ?_ ?_
 ·intro x1 o h;exact sQ<|sR<|am k k<|am k k<|cm k4<|am k k<|oF h (λq1 h=>aO 9 k q1<|am k k<|oB h λv2 hv2 h=>ae (aH (rK a0 v2 hv2) k (bZ k aE)) k<|pk k3<|an<|tn<|cV k h (λ_ h=>aI<|tn<|sQ<|aC<|sR<|am k k<|am k k<|am k k<|oB h λv4 hv4 h=>ae (aH (jJ a0 a1 v4 hv4) k (bZ k (bZ k aE))) k<|am k k<|ae (eX k k) k<|oB h λv5 hv5 h=>ae (aH (jJ a0 (wr (v4*x1)) v5 hv5) k (bZ k (bZ k aE))) k<|cm k4<|an<|tn<|cV k h (λ_ h=>sR<|am k k<|aT k2<|aD<|bL<|aJ<|aJ<|sp h ⟨_,k,k,aZ k k k (aEm k)⟩) λ_ h=>aI<|aY<|tn<|rg<|am k k<|ae (bB k k) k<|aT k2<|sp h ⟨_,k,(bO (bG k2) aX k4)⟩) λ_ h=>aW<|aB<|aB<|sp h ⟨_,k,k,(bO aX aX k4)⟩) λq1 h=>aO 9 k q1<|aK k4<|pk k3<|an<|tn<|lK k k<|aW<|aB<|aB<|sp h ⟨_,k,k,(bO aX aX k4)⟩
 ·intro e t hX;rcases y7 with y8|y9
  ·obtain ⟨rfl,hent⟩:=hX;exact aM<|tn<|aL hent<|sR<|aT k2<|aD<|yT h k2
  ·obtain ⟨rfl,hent⟩:=hX;exact bL<|aJ<|sp h hent
def oO (a0:Int) (a1:(List Int)) (x1:Int):Option (Int ⊕ (Unit ⊕ Bool)):=
 bif decide (x1<(a1.length:Int)) then
 ((cP a1 x1).bind λv5=>
 (gT v5 0 (wr (a0 - 1))).bind λv6=>
 bif !v6 then
 (some (.inr (.inr (false))))
 else
 (some (.inl (wr (x1+1)))))
 else
 (some (.inr (.inl ())))
def iW (a0:Int) (a1:(List Int)):Option Bool:=
 (kB a0).bind λv1=>
 bif !v1 then
 (some (false))
 else
 (bif decide (64<(a1.length:Int)) then
 (some (false))
 else
 ((Lp (oO a0 a1) 0).bind λy8=>
 Sum.elim (λy9=>
 some (true)
 )
 (λy10=>
 some y10
 )
 y8))
theorem uC (a0:Int) (a1:(List Int)) (r:Bool) (h:iW a0 a1=some r):HasC Tryz.prog 134 [.int a0,.list 1 (a1.map eI)] (.bl r):=by
 refine hM [.tmp 4] Tryz.func134 Tryz.ntmps134 k<|sR<|aT k2<|sQ<|sR<|am k k<|oB h λv1 hv1 h=>ae (aH (rK a0 v1 hv1) k (bZ k aE)) k<|ae (dB k) k<|am k k<|oF h (λq2 h=>aO 9 k q2<|aK k4<|ak k k<|pk k3<|an<|tn<|dX k k<|sR<|aT k2<|aD<|aJ<|gW h k2) λq2 h=>?_;refine aO 9 k q2<|am k k<|ln k4<|cm k4<|pk k3<|an<|tn<|cV k h (λ_ h=>sR<|aT k2<|aD<|aJ<|gW h k2) λ_ h=>?_;refine aI<|tn<|sQ<|sR<|aT k2<|aC<|oB h λy8 hy8 h=>bU (body:=(oO a0 a1)) hy8 (λ(x1:Int)=>mN [(0,.int a0),(1,.list 1 (a1.map eI)),(5,.int x1)] [] 0) (λr e t=>Sum.elim (λa=>(λr e t=>e= .exit 0∧Ent t (mN [] [] 0)) a e t) (λb=>(λr e t=>e= .ret∧vJ TT [.tmp 4] (.bl r) .ret t) b e t) r) (bO (bG k2) aX k4) ?_ ?_
 ·intro x1 o h;exact sQ<|sR<|am k k<|am k k<|ln k4<|cm k4<|an<|tn<|cV k h (λ_ h=>aI<|tn<|sQ<|aC<|sR<|am k k<|am k k<|oB h λv5 hv5 h=>ae (xl hv5 k) k<|lr k7<|am k k<|ae (mP k k) k<|oB h λv6 hv6 h=>ae (aH (jU v5 0 (wr (a0 - 1)) v6 hv6) k (bZ k (bZ k (bZ k aE)))) k<|ae (dB k) k<|an<|tn<|cV k h (λ_ h=>sR<|aT k2<|aD<|bL<|aJ<|aJ<|sp h ⟨_,k,k,aZ k k k (oD k)⟩) λ_ h=>aI<|aY<|tn<|rg<|am k k<|ae (bB k k) k<|aT k2<|sp h ⟨_,k,(bO (bG k2) aX k4)⟩) λ_ h=>aW<|aB<|aB<|sp h ⟨_,k,k,(bO aX aX k4)⟩
 ·intro e t hX;rcases y8 with y9|y10
  ·obtain ⟨rfl,hent⟩:=hX;exact aM<|tn<|aL hent<|sR<|aT k2<|aD<|gW h k2
  ·obtain ⟨rfl,hent⟩:=hX;exact bL<|aJ<|sp h hent
def gU (a0:Int) (a1:Mt):Option Bool:=
 (gT a1.rows 0 8).bind λv1=>
 bif v1 then
 ((gT a1.cols 0 8).bind λv3=>
 bif v3 then
 (bif decide ((a1.cells.length:Int)=wr (a1.rows*a1.cols)) then
 ((iW a0 a1.cells).bind λv6=>
 some (v6))
 else
 (some (false)))
 else
 (some (false)))
 else
 (some (false))
theorem pO (a0:Int) (a1:Mt) (r:Bool) (h:gU a0 a1=some r):HasC Tryz.prog 81 [.int a0,.agg (eM a1)] (.bl r):=by
 exact hM [.tmp 4] Tryz.func81 Tryz.ntmps81 k<|sR<|ae (wb k) k<|aT k2<|sR<|fp k8<|lp k8<|oB h λv1 hv1 h=>ae (aH (jU a1.rows 0 8 v1 hv1) k (bZ k (bZ k (bZ k aE)))) k<|am k k<|oF h (λq2 h=>aO 8 k q2<|fp k8<|lp k8<|oB h λv3 hv3 h=>ae (aH (jU a1.cols 0 8 v3 hv3) k (bZ k (bZ k (bZ k aE)))) k<|pk k3<|am k k<|oF h (λq4 h=>aO 13 k q4<|fp k8<|lp k8<|ln k4<|fp k8<|lp k8<|fp k8<|lp k8<|ae (eX k k) k<|cm k4<|pk k3<|am k k<|oF h (λq5 h=>aO 24 k q5<|am k k<|fp k8<|lp k8<|oB h λv6 hv6 h=>ae (aH (uC a0 a1.cells v6 hv6) k (bZ k (bZ k aE))) k<|pk k3<|aT k2<|aD<|gW h k2) λq5 h=>aO 24 k q5<|aK k4<|aK k4<|pk k3<|aT k2<|aD<|gW h k2) λq4 h=>aO 13 k q4<|aK k4<|aK k4<|aK k4<|aK k4<|ak k k<|pk k3<|am k k<|aK k4<|aK k4<|pk k3<|aT k2<|aD<|gW h k2) λq2 h=>aO 8 k q2<|aK k4<|ak k k<|pk k3<|am k k<|aK k4<|aK k4<|aK k4<|aK k4<|ak k k<|pk k3<|am k k<|aK k4<|aK k4<|pk k3<|aT k2<|aD<|gW h k2
def aAt (a0:Mt):Option Mt:=
 bif decide (([]:(List Int)).length +a0.cells.length≤4294967296) then
 (some ((⟨a0.rows,a0.cols,(([]:(List Int))++a0.cells)⟩:Mt)))
 else none
theorem aIl (a0:Mt) (r:Mt) (h:aAt a0=some r):HasC Tryz.prog 148 [.agg (eM a0)] (.agg (eM r)):=by
 exact hM [.cell 2 96] Tryz.func148 Tryz.ntmps148 k<|sR<|ae (wb k) k<|ae (bX aP k k) k<|an<|tn<|sQ<|aQ fA<|fp k8<|lp k8<|fp k8<|lp k8<|ae (wl k) k<|fp k8<|lp k8<|cG h λq1 h=>ae (mQ aP (l:=([]:(List Int))) (m:=a0.cells) kX q1 k k k k k k k k k k k k) k<|ae (fY aP k k k k k k) k<|ae (ws k) k<|an<|oA (by kernel_rfl)<|tn<|aD<|sp h (aZ k k k (jH (bD (k) (bD (k) (bD (eH dT k k) eV)))))
end
noncomputable section
set_option maxRecDepth 10000
set_option maxHeartbeats 4000000
def kD (v1:Mt) (x1:(Int×(List Int)×(List Int)×Int)) (x2:(Int×Int)):Option ((Int×Int) ⊕ Int):=
 bif decide (x1.2.2.2≤x2.2) then
 ((cP x1.2.1 (wr ((wr (x2.2*v1.cols))+x1.1))).bind λv5=>
 bif !decide (v5=0) then
 (some (.inl (x2.2,wr (x2.2 - 1))))
 else
 (some (.inl (x2.1,wr (x2.2 - 1)))))
 else
 (some (.inr x2.1))
def oP (v1:Mt) (x1:(Int×(List Int)×(List Int)×Int)) (y7:Int) (x3:((List Int)×Int)):Option (((List Int)×Int) ⊕ (List Int)):=
 bif decide (x3.2<v1.cols) then
 ((cP x3.1 (wr ((wr (x1.2.2.2*v1.cols))+x3.2))).bind λv10=>
 (cP x3.1 (wr ((wr (y7*v1.cols))+x3.2))).bind λv11=>
 (cP x3.1 (wr ((wr (x1.2.2.2*v1.cols))+x3.2))).bind λv12=>
 (cP (x3.1.set ((wr ((wr (x1.2.2.2*v1.cols))+x3.2)).toNat) v11) (wr ((wr (y7*v1.cols))+x3.2))).bind λv13=>
 some (.inl (((x3.1.set ((wr ((wr (x1.2.2.2*v1.cols))+x3.2)).toNat) v11).set ((wr ((wr (y7*v1.cols))+x3.2)).toNat) v10),wr (x3.2+1))))
 else
 (some (.inr x3.1))
def oU (a0:Int) (v1:Mt) (v16:Int) (x1:(Int×(List Int)×(List Int)×Int)) (x4:((List Int)×Int)):Option (((List Int)×Int) ⊕ (List Int)):=
 bif decide (x4.2<v1.cols) then
 ((cP x4.1 (wr ((wr (x1.2.2.2*v1.cols))+x4.2))).bind λv18=>
 (fZ a0 (wr (v16*v18))).bind λv19=>
 (cP x4.1 (wr ((wr (x1.2.2.2*v1.cols))+x4.2))).bind λv20=>
 some (.inl ((x4.1.set ((wr ((wr (x1.2.2.2*v1.cols))+x4.2)).toNat) v19),wr (x4.2+1))))
 else
 (some (.inr x4.1))
def kE (a0:Int) (v1:Mt) (v23:Int) (x1:(Int×(List Int)×(List Int)×Int)) (x5:((List Int)×Int)) (x6:((List Int)×Int)):Option (((List Int)×Int) ⊕ (List Int)):=
 bif decide (x6.2<v1.cols) then
 (bif !decide (x5.2=x1.2.2.2) then
 ((cP x6.1 (wr ((wr (x5.2*v1.cols))+x6.2))).bind λv26=>
 (cP x6.1 (wr ((wr (x1.2.2.2*v1.cols))+x6.2))).bind λv27=>
 (fZ a0 (wr (v26 - (wr (v23*v27))))).bind λv28=>
 (cP x6.1 (wr ((wr (x5.2*v1.cols))+x6.2))).bind λv29=>
 some (.inl ((x6.1.set ((wr ((wr (x5.2*v1.cols))+x6.2)).toNat) v28),wr (x6.2+1))))
 else
 (some (.inr x6.1)))
 else
 (some (.inr x6.1))
def oV (a0:Int) (v1:Mt) (x1:(Int×(List Int)×(List Int)×Int)) (x5:((List Int)×Int)):Option (((List Int)×Int) ⊕ (List Int)):=
 bif decide (x5.2<v1.rows) then
 ((cP x5.1 (wr ((wr (x5.2*v1.cols))+x1.1))).bind λv23=>
 (Lp (kE a0 v1 v23 x1 x5) (x5.1,0)).bind λy30=>
 some (.inl (y30,wr (x5.2+1))))
 else
 (some (.inr x5.1))
def gF (a0:Int) (v1:Mt) (x1:(Int×(List Int)×(List Int)×Int)):Option ((Int×(List Int)×(List Int)×Int) ⊕ ((List Int)×(List Int))):=
 bif decide (x1.1<v1.cols) then
 (bif decide (x1.2.2.2<v1.rows) then
 ((Lp (kD v1 x1) ((-1),wr (v1.rows - 1))).bind λy7=>
 bif decide (y7<0) then
 (some (.inl (wr (x1.1+1),x1.2.1,x1.2.2.1,x1.2.2.2)))
 else
 ((Lp (oP v1 x1 y7) (x1.2.1,0)).bind λy14=>
 (cP y14 (wr ((wr (x1.2.2.2*v1.cols))+x1.1))).bind λv15=>
 (qJ a0 v15).bind λv16=>
 (Lp (oU a0 v1 v16 x1) (y14,0)).bind λy21=>
 (Lp (oV a0 v1 x1) (y21,0)).bind λy31=>
 bif decide (x1.2.2.1.length+[x1.1].length ≤4294967296) then
 (some (.inl (wr (x1.1+1),y31,(x1.2.2.1++[x1.1]),wr (x1.2.2.2+1))))
 else none))
 else
 (some (.inr (x1.2.1,x1.2.2.1))))
 else
 (some (.inr (x1.2.1,x1.2.2.1)))
def gV (a0:Int) (a1:Mt):Option (Mt×(List Int)):=
 (aAt a1).bind λv1=>
 (Lp (gF a0 v1) (0,v1.cells,([]:(List Int)),0)).bind λy33=>
 some (((⟨v1.rows,v1.cols,y33.1⟩:Mt),y33.2))
theorem pP (a0:Int) (a1:Mt) (r:(Mt×(List Int))) (h:gV a0 a1=some r):HasC Tryz.prog 90 [.int a0,.agg (eM a1)] (.tuple [.agg (eM r.1),.list 1 (r.2.map eI)]):=by
 refine hM [.cell 4 96,.tmp 5] Tryz.func90 Tryz.ntmps90 k<|sR<|ae (wb k) k<|ae (bX aP k k) k<|aT k2<|sR<|lp k8<|oB h λv1 hv1 h=>ae (cM (aIl a1 v1 hv1) k3 (aG (eG k) aE)) k<|ae (bX aP k k) k<|ae (ws k) k<|an<|tn<|sR<|ae (wl k) k<|aT k2<|aL (t:=mN [(0,.int a0),(4,.ptr 1 0 0),(6,.ptr 3 0 0),(7,.own 4 0 (([]:(List Int)).length))] [(1,⟨3,[fN]⟩),(2,⟨1,v1.cells.map (ow eI)⟩),(3,⟨3,[oMt v1 2]⟩),(4,⟨1,List.map (ow eI) ([]:(List Int))⟩)] 5) (bO (kW 3 k2 (iC ⟨_,k,⟨k,k,(by simp only [aR,lA,lT,lR,lC,lN]),k⟩⟩ aX)) (bH k<|cB k<|gX k<|cB k<|aX) k4)<|sR<|aT k2<|sQ<|sQ ?_;refine rg<|aT k2<|aC<|oB h λy33 hy33 h=>bU (body:=(gF a0 v1)) hy33 (λ(x1:(Int×(List Int)×(List Int)×Int))=>mN [(0,.int a0),(4,.ptr 0 0 0),(6,.ptr 1 0 0),(7,.own 3 0 x1.2.2.1.length),(8,.int x1.2.2.2),(9,.int x1.1)] [(0,⟨3,[fN]⟩),(1,⟨3,[[.int v1.rows,.int v1.cols,.own 2 0 x1.2.1.length]]⟩),(2,⟨1,x1.2.1.map (ow eI)⟩),(3,⟨1,x1.2.2.1.map (ow eI)⟩)] 4) (λr e t=>e= .exit 0∧Ent t (mN [(4,.ptr 0 0 0),(6,.ptr 1 0 0),(7,.own 3 0 r.2.length)] [(0,⟨3,[fN]⟩),(1,⟨3,[[.int v1.rows,.int v1.cols,.own 2 0 r.1.length]]⟩),(2,⟨1,r.1.map (ow eI)⟩),(3,⟨1,r.2.map (ow eI)⟩)] 4)) (jI [1,3,2,4] (bG k2) (bH k<|gX k<|cB k<|cB k<|aX) k4) ?_ ?_
 ·intro x1 o h;refine sQ<|sR<|am k k<|fp k8<|lp k8<|cm k4<|am k k<|oF h (λq2 h=>?_) λq2 h=>aO 26 k q2<|aK k4<|aK k4<|pk k3<|an<|tn<|lK k k<|aW<|aB<|aB<|sp h ⟨_,k,k,(bO (bG k2) (bH k<|gX k<|cB k<|cB k<|aX) k4)⟩;refine aO 26 k q2<|am k k<|fp k8<|lp k8<|cm k4<|pk k3<|an<|tn<|cV k h (λ_ h=>?_) λ_ h=>aW<|aB<|aB<|sp h ⟨_,k,k,(bO (bG k2) (bH k<|gX k<|cB k<|cB k<|aX) k4)⟩;refine aI<|tn<|sQ<|aC<|sR<|aT k2<|sQ<|sR<|fp k8<|lp k8<|ae (mP k k) k<|aT k2<|aC<|oB h λy7 hy7 h=>bU (body:=(kD v1 x1)) hy7 (λ(x2:(Int×Int))=>mN [(0,.int a0),(4,.ptr 0 0 0),(6,.ptr 1 0 0),(7,.own 3 0 x1.2.2.1.length),(8,.int x1.2.2.2),(9,.int x1.1),(10,.int x2.1),(11,.int x2.2)] [(0,⟨3,[fN]⟩),(1,⟨3,[[.int v1.rows,.int v1.cols,.own 2 0 x1.2.1.length]]⟩),(2,⟨1,x1.2.1.map (ow eI)⟩),(3,⟨1,x1.2.2.1.map (ow eI)⟩)] 4) (λr e t=>e= .exit 2∧Ent t (mN [(0,.int a0),(4,.ptr 0 0 0),(6,.ptr 1 0 0),(7,.own 3 0 x1.2.2.1.length),(8,.int x1.2.2.2),(9,.int x1.1),(10,.int r)] [(0,⟨3,[fN]⟩),(1,⟨3,[[.int v1.rows,.int v1.cols,.own 2 0 x1.2.1.length]]⟩),(2,⟨1,x1.2.1.map (ow eI)⟩),(3,⟨1,x1.2.2.1.map (ow eI)⟩)] 4)) (bO (bG k2) (bH k<|gX k<|cB k<|cB k<|aX) k4) ?_ ?_
  ·intro x2 o h;exact sQ<|sR<|am k k<|am k k<|cm k4<|an<|tn<|cV k h (λ_ h=>aI<|tn<|sQ<|aC<|sR<|fp k8<|lp k8<|am k k<|fp k8<|lp k8<|ae (eX k k) k<|am k k<|ae (bB k k) k<|oB h λv5 hv5 h=>ae (xo hv5 k) k<|ae (wp hv5 k) k<|cm k4<|an<|tn<|cV k h (λ_ h=>rg<|am k k<|aa k k<|an<|aY<|tn<|rg<|am k k<|ae (mP k k) k<|aT k2<|sp h ⟨_,k,(bO (bG k2) (bH k<|gX k<|cB k<|cB k<|aX) k4)⟩) λ_ h=>aI<|aY<|tn<|rg<|am k k<|ae (mP k k) k<|aT k2<|sp h ⟨_,k,(bO (bG k2) (bH k<|gX k<|cB k<|cB k<|aX) k4)⟩) λ_ h=>aW<|aB<|aB<|sp h ⟨_,k,k,(bO (bG k2) (bH k<|gX k<|cB k<|cB k<|aX) k4)⟩
  ·rintro e t ⟨rfl,hent⟩;refine aM<|tn<|aL hent<|sQ<|sR<|am k k<|cm k4<|an<|tn<|cV k h (λ_ h=>aW<|aB<|aM<|tn<|rg<|am k k<|ae (bB k k) k<|aT k2<|sp h ⟨_,k,(bO (bG k2) (bH k<|gX k<|cB k<|cB k<|aX) k4)⟩) λ_ h=>?_;refine aI<|tn<|sQ<|sR<|aT k2<|aC<|oB h λy14 hy14 h=>bU (body:=(oP v1 x1 y7)) hy14 (λ(x3:((List Int)×Int))=>mN [(0,.int a0),(4,.ptr 0 0 0),(6,.ptr 1 0 0),(7,.own 3 0 x1.2.2.1.length),(8,.int x1.2.2.2),(9,.int x1.1),(10,.int y7),(12,.int x3.2)] [(0,⟨3,[fN]⟩),(1,⟨3,[[.int v1.rows,.int v1.cols,.own 2 0 x3.1.length]]⟩),(2,⟨1,x3.1.map (ow eI)⟩),(3,⟨1,x1.2.2.1.map (ow eI)⟩)] 4) (λr e t=>e= .exit 4∧Ent t (mN [(0,.int a0),(4,.ptr 0 0 0),(6,.ptr 1 0 0),(7,.own 3 0 x1.2.2.1.length),(8,.int x1.2.2.2),(9,.int x1.1)] [(0,⟨3,[fN]⟩),(1,⟨3,[[.int v1.rows,.int v1.cols,.own 2 0 r.length]]⟩),(2,⟨1,r.map (ow eI)⟩),(3,⟨1,x1.2.2.1.map (ow eI)⟩)] 4)) (bO (bG k2) (bH k<|gX k<|cB k<|cB k<|aX) k4) ?_ ?_
   ·intro x3 o h;refine sQ<|sR<|am k k<|fp k8<|lp k8<|cm k4<|an<|tn<|cV k h (λ_ h=>?_) λ_ h=>aW<|aB<|aB<|sp h ⟨_,k,k,(bO (bG k2) (bH k<|gX k<|cB k<|cB k<|aX) k4)⟩;refine aI<|tn<|sQ<|aC<|sR<|fp k8<|lp k8<|am k k<|fp k8<|lp k8<|ae (eX k k) k<|am k k<|ae (bB k k) k<|oB h λv10 hv10 h=>ae (xo hv10 k) k<|ae (wp hv10 k) k<|aT k2<|sQ<|aQ fA<|fp k8<|lp k8<|am k k<|fp k8<|lp k8<|ae (eX k k) k<|am k k<|ae (bB k k) k ?_;refine fp k8<|lp k8<|am k k<|fp k8<|lp k8<|ae (eX k k) k<|am k k<|ae (bB k k) k<|oB h λv11 hv11 h=>ae (xo hv11 k) k<|ae (wp hv11 k) k<|oB h λv12 hv12 h=>ae (xo hv12 k) k<|ae (fK aP kX (u:=v11) (dI hv12) k k k k k k) k<|an<|oA (by kernel_rfl)<|tn<|aL (t:=mN [(0,.int a0),(4,.ptr 0 0 0),(6,.ptr 1 0 0),(7,.own 3 0 x1.2.2.1.length),(8,.int x1.2.2.2),(9,.int x1.1),(10,.int y7),(12,.int x3.2),(13,.int v10)] [(0,⟨3,[fN]⟩),(1,⟨3,[[.int v1.rows,.int v1.cols,.own 2 0 ((x3.1.set ((wr ((wr (x1.2.2.2*v1.cols))+x3.2)).toNat) v11).length)]]⟩),(2,⟨1,List.map (ow eI) (x3.1.set ((wr ((wr (x1.2.2.2*v1.cols))+x3.2)).toNat) v11)⟩),(3,⟨1,x1.2.2.1.map (ow eI)⟩)] 4) (bO (bG k2) (bH k<|hX ⟨_,k,k,.inr ⟨_,_,k,⟨_,_,k,k,⟨_,_,k,k,⟨_,_,k,⟨k,k,(by simp only [aR,lA,lT,lR,lC,lN]),k⟩,k⟩⟩⟩,k⟩⟩ k<|cB k<|cB k<|aX) k4)<|rg<|fp k8<|lp k8<|am k k<|fp k8<|lp k8<|ae (eX k k) k<|am k k<|ae (bB k k) k<|am k k<|oB h λv13 hv13 h=>ae (xo hv13 k) k<|ae (fK aP kX (u:=v10) (dI hv13) k k k k k k) k<|an<|aY ?_;exact tn<|rg<|am k k<|ae (bB k k) k<|aT k2<|sp h ⟨_,k,(bO (bG k2) (bH k<|hX ⟨_,k,k,.inr ⟨_,_,k,⟨_,_,k,k,⟨_,_,k,k,⟨_,_,k,⟨k,k,(by simp only [aR,lA,lT,lR,lC,lN]),k⟩,k⟩⟩⟩,k⟩⟩ k<|cB k<|cB k<|aX) k4)⟩
   ·rintro e t ⟨rfl,hent⟩;refine aM<|tn<|aL hent<|sR<|am k k<|fp k8<|lp k8<|am k k<|fp k8<|lp k8<|ae (eX k k) k<|am k k<|ae (bB k k) k<|oB h λv15 hv15 h=>ae (xo hv15 k) k<|ae (wp hv15 k) k<|oB h λv16 hv16 h=>ae (aH (aEJ a0 v15 v16 hv16) k (bZ k (bZ k aE))) k<|aT k2<|sQ<|sR<|aT k2<|aC<|oB h λy21 hy21 h=>bU (body:=(oU a0 v1 v16 x1)) hy21 (λ(x4:((List Int)×Int))=>mN [(0,.int a0),(4,.ptr 0 0 0),(6,.ptr 1 0 0),(7,.own 3 0 x1.2.2.1.length),(8,.int x1.2.2.2),(9,.int x1.1),(14,.int v16),(15,.int x4.2)] [(0,⟨3,[fN]⟩),(1,⟨3,[[.int v1.rows,.int v1.cols,.own 2 0 x4.1.length]]⟩),(2,⟨1,x4.1.map (ow eI)⟩),(3,⟨1,x1.2.2.1.map (ow eI)⟩)] 4) (λr e t=>e= .exit 6∧Ent t (mN [(0,.int a0),(4,.ptr 0 0 0),(6,.ptr 1 0 0),(7,.own 3 0 x1.2.2.1.length),(8,.int x1.2.2.2),(9,.int x1.1)] [(0,⟨3,[fN]⟩),(1,⟨3,[[.int v1.rows,.int v1.cols,.own 2 0 r.length]]⟩),(2,⟨1,r.map (ow eI)⟩),(3,⟨1,x1.2.2.1.map (ow eI)⟩)] 4)) (bO (bG k2) (bH k<|gX k<|cB k<|cB k<|aX) k4) ?_ ?_
    ·intro x4 o h;refine sQ<|sR<|am k k<|fp k8<|lp k8<|cm k4<|an<|tn<|cV k h (λ_ h=>?_) λ_ h=>aW<|aB<|aB<|sp h ⟨_,k,k,(bO (bG k2) (bH k<|gX k<|cB k<|cB k<|aX) k4)⟩;refine aI<|tn<|sQ<|aC<|aQ fA<|fp k8<|lp k8<|am k k<|fp k8<|lp k8<|ae (eX k k) k<|am k k<|ae (bB k k) k<|am k k<|am k k<|fp k8<|lp k8<|am k k<|fp k8<|lp k8<|ae (eX k k) k<|am k k<|ae (bB k k) k<|oB h λv18 hv18 h=>ae (xo hv18 k) k<|ae (wp hv18 k) k<|ae (eX k k) k<|oB h λv19 hv19 h=>ae (aH (jJ a0 (wr (v16*v18)) v19 hv19) k (bZ k (bZ k aE))) k<|oB h λv20 hv20 h=>ae (xo hv20 k) k<|ae (fK aP kX (u:=v19) (dI hv20) k k k k k k) k ?_;exact an<|oA (by kernel_rfl)<|aY<|tn<|aL (t:=mN [(0,.int a0),(4,.ptr 0 0 0),(6,.ptr 1 0 0),(7,.own 3 0 x1.2.2.1.length),(8,.int x1.2.2.2),(9,.int x1.1),(14,.int v16),(15,.int x4.2)] [(0,⟨3,[fN]⟩),(1,⟨3,[[.int v1.rows,.int v1.cols,.own 2 0 ((x4.1.set ((wr ((wr (x1.2.2.2*v1.cols))+x4.2)).toNat) v19).length)]]⟩),(2,⟨1,List.map (ow eI) (x4.1.set ((wr ((wr (x1.2.2.2*v1.cols))+x4.2)).toNat) v19)⟩),(3,⟨1,x1.2.2.1.map (ow eI)⟩)] 4) (bO (bG k2) (bH k<|hX ⟨_,k,k,.inr ⟨_,_,k,⟨_,_,k,k,⟨_,_,k,k,⟨_,_,k,⟨k,k,(by simp only [aR,lA,lT,lR,lC,lN]),k⟩,k⟩⟩⟩,k⟩⟩ k<|cB k<|cB k<|aX) k4)<|rg<|am k k<|ae (bB k k) k<|aT k2<|sp h ⟨_,k,(bO (bG k2) (bH k<|gX k<|cB k<|cB k<|aX) k4)⟩
    ·rintro e t ⟨rfl,hent⟩;refine aM<|tn<|aL hent<|sQ<|sR<|aT k2<|aC<|oB h λy31 hy31 h=>bU (body:=(oV a0 v1 x1)) hy31 (λ(x5:((List Int)×Int))=>mN [(0,.int a0),(4,.ptr 0 0 0),(6,.ptr 1 0 0),(7,.own 3 0 x1.2.2.1.length),(8,.int x1.2.2.2),(9,.int x1.1),(16,.int x5.2)] [(0,⟨3,[fN]⟩),(1,⟨3,[[.int v1.rows,.int v1.cols,.own 2 0 x5.1.length]]⟩),(2,⟨1,x5.1.map (ow eI)⟩),(3,⟨1,x1.2.2.1.map (ow eI)⟩)] 4) (λr e t=>e= .exit 8∧Ent t (mN [(0,.int a0),(4,.ptr 0 0 0),(6,.ptr 1 0 0),(7,.own 3 0 x1.2.2.1.length),(8,.int x1.2.2.2),(9,.int x1.1)] [(0,⟨3,[fN]⟩),(1,⟨3,[[.int v1.rows,.int v1.cols,.own 2 0 r.length]]⟩),(2,⟨1,r.map (ow eI)⟩),(3,⟨1,x1.2.2.1.map (ow eI)⟩)] 4)) (bO (bG k2) (bH k<|gX k<|cB k<|cB k<|aX) k4) ?_ ?_
     ·intro x5 o h;refine sQ<|sR<|am k k<|fp k8<|lp k8<|cm k4<|an<|tn<|cV k h (λ_ h=>?_) λ_ h=>aW<|aB<|aB<|sp h ⟨_,k,k,(bO (bG k2) (bH k<|gX k<|cB k<|cB k<|aX) k4)⟩;refine aI<|tn<|sQ<|aC<|sR<|fp k8<|lp k8<|am k k<|fp k8<|lp k8<|ae (eX k k) k<|am k k<|ae (bB k k) k<|oB h λv23 hv23 h=>ae (xo hv23 k) k<|ae (wp hv23 k) k<|aT k2<|sR<|aT k2<|aC<|oB h λy30 hy30 h=>bU (body:=(kE a0 v1 v23 x1 x5)) hy30 (λ(x6:((List Int)×Int))=>mN [(0,.int a0),(4,.ptr 0 0 0),(6,.ptr 1 0 0),(7,.own 3 0 x1.2.2.1.length),(8,.int x1.2.2.2),(9,.int x1.1),(16,.int x5.2),(17,.int v23),(18,.int x6.2)] [(0,⟨3,[fN]⟩),(1,⟨3,[[.int v1.rows,.int v1.cols,.own 2 0 x6.1.length]]⟩),(2,⟨1,x6.1.map (ow eI)⟩),(3,⟨1,x1.2.2.1.map (ow eI)⟩)] 4) (λr e t=>e= .exit 10∧Ent t (mN [(0,.int a0),(4,.ptr 0 0 0),(6,.ptr 1 0 0),(7,.own 3 0 x1.2.2.1.length),(8,.int x1.2.2.2),(9,.int x1.1),(16,.int x5.2)] [(0,⟨3,[fN]⟩),(1,⟨3,[[.int v1.rows,.int v1.cols,.own 2 0 r.length]]⟩),(2,⟨1,r.map (ow eI)⟩),(3,⟨1,x1.2.2.1.map (ow eI)⟩)] 4)) (bO (bG k2) (bH k<|gX k<|cB k<|cB k<|aX) k4) ?_ ?_
      ·intro x6 o h;refine sQ<|sR<|am k k<|fp k8<|lp k8<|cm k4<|am k k<|oF h (λq24 h=>?_) λq24 h=>aO 162 k q24<|aK k4<|ak k k<|pk k3<|an<|tn<|lK k k<|aW<|aB<|aB<|sp h ⟨_,k,k,(bO (bG k2) (bH k<|gX k<|cB k<|cB k<|aX) k4)⟩;refine aO 162 k q24<|am k k<|am k k<|cm k4<|pk k3<|an<|tn<|cV k h (λ_ h=>?_) λ_ h=>aW<|aB<|aB<|sp h ⟨_,k,k,(bO (bG k2) (bH k<|gX k<|cB k<|cB k<|aX) k4)⟩;refine aI<|tn<|sQ<|aC<|aQ fA<|fp k8<|lp k8<|am k k<|fp k8<|lp k8<|ae (eX k k) k<|am k k<|ae (bB k k) k<|am k k<|fp k8<|lp k8<|am k k<|fp k8<|lp k8<|ae (eX k k) k<|am k k<|ae (bB k k) k<|oB h λv26 hv26 h=>ae (xo hv26 k) k<|ae (wp hv26 k) k<|am k k<|fp k8<|lp k8<|am k k<|fp k8 ?_;exact lp k8<|ae (eX k k) k<|am k k<|ae (bB k k) k<|oB h λv27 hv27 h=>ae (xo hv27 k) k<|ae (wp hv27 k) k<|ae (eX k k) k<|ae (mP k k) k<|oB h λv28 hv28 h=>ae (aH (jJ a0 (wr (v26 - (wr (v23*v27)))) v28 hv28) k (bZ k (bZ k aE))) k<|oB h λv29 hv29 h=>ae (xo hv29 k) k<|ae (fK aP kX (u:=v28) (dI hv29) k k k k k k) k<|an<|oA (by kernel_rfl)<|aY<|tn<|aL (t:=mN [(0,.int a0),(4,.ptr 0 0 0),(6,.ptr 1 0 0),(7,.own 3 0 x1.2.2.1.length),(8,.int x1.2.2.2),(9,.int x1.1),(16,.int x5.2),(17,.int v23),(18,.int x6.2)] [(0,⟨3,[fN]⟩),(1,⟨3,[[.int v1.rows,.int v1.cols,.own 2 0 ((x6.1.set ((wr ((wr (x5.2*v1.cols))+x6.2)).toNat) v28).length)]]⟩),(2,⟨1,List.map (ow eI) (x6.1.set ((wr ((wr (x5.2*v1.cols))+x6.2)).toNat) v28)⟩),(3,⟨1,x1.2.2.1.map (ow eI)⟩)] 4) (bO (bG k2) (bH k<|hX ⟨_,k,k,.inr ⟨_,_,k,⟨_,_,k,k,⟨_,_,k,k,⟨_,_,k,⟨k,k,(by simp only [aR,lA,lT,lR,lC,lN]),k⟩,k⟩⟩⟩,k⟩⟩ k<|cB k<|cB k<|aX) k4)<|rg<|am k k<|ae (bB k k) k<|aT k2<|sp h ⟨_,k,(bO (bG k2) (bH k<|gX k<|cB k<|cB k<|aX) k4)⟩
      ·rintro e t ⟨rfl,hent⟩;exact aM<|aY<|tn<|aL hent<|rg<|am k k<|ae (bB k k) k<|aT k2<|sp h ⟨_,k,(bO (bG k2) (bH k<|gX k<|cB k<|cB k<|aX) k4)⟩
     ·rintro e t ⟨rfl,hent⟩;exact aM<|tn<|aL hent<|sR<|am k k<|am k k<|ae (wl k) k<|cG h λq32 h=>ae (mQ aP (l:=x1.2.2.1) (m:=[x1.1]) kX q32 k k k k k k k k k k k k) k<|aT k2<|rg<|am k k<|ae (bB k k) k<|aa k k<|an<|aY<|tn<|rg<|am k k<|ae (bB k k) k<|aT k2<|sp h ⟨_,k,(jI [0,1,2,5] (bG k2) (bH k<|gX k<|cB k<|cB k<|aX) k4)⟩
 ·rintro e t ⟨rfl,hent⟩;exact aM<|tn<|aL hent<|sR<|lp k8<|am k k<|ae (ws k) k<|aT k2<|aD<|sp h (aZ k k k (dP k (bY (tJ (bD (k) (bD (k) (bD (eH dT k k) eV)))) (bY (oJ (eH dT k k)) gD))))
def xC (a0:Int) (a1:Mt):Option (Mt×(List Int)×Bool):=
 (gU a0 a1).bind λv1=>
 bif !v1 then
 (some (((⟨0,0,[]⟩:Mt),([]:(List Int)),false)))
 else
 ((gV a0 a1).bind λv3=>
 some ((v3.1,v3.2,true)))
theorem aEw (a0:Int) (a1:Mt) (r:(Mt×(List Int)×Bool)) (h:xC a0 a1=some r):HasC Tryz.prog 135 [.int a0,.agg (eM a1)] (.tuple [.agg (eM r.1),.list 1 (r.2.1.map eI),.bl r.2.2]):=by
 exact hM [.cell 4 96,.tmp 5,.tmp 6] Tryz.func135 Tryz.ntmps135 k<|sR<|ae (wb k) k<|ae (bX aP k k) k<|aa k k<|aT k2<|sQ<|sR<|am k k<|lp k8<|oB h λv1 hv1 h=>ae (aH (pO a0 a1 v1 hv1) k (bZ k (aG (eG k) aE))) k<|ae (dB k) k<|an<|tn<|cV k h (λ_ h=>sR<|ae (fY aP k k k k k k) k<|ae (wl k) k<|ae (ws k) k<|aa k k<|aT k2<|aL (t:=mN [(4,.ptr 1 0 0),(5,.own 2 0 (([]:(List Int)).length)),(6,.bl false)] [(1,⟨3,[fN]⟩),(2,⟨1,List.map (ow eI) ([]:(List Int))⟩)] 3) (bO (kW 1 k2 (iC ⟨_,k,⟨k,k,(by simp only [aR,lA,lT,lR,lC,lN]),k⟩⟩ (bG k2))) (bH k<|cB k<|aX) k4)<|aD<|aJ<|sp h (aZ k k k (dP k (bY (tJ (bD (k) (bD (k) (bD (k) eV)))) (bY (oJ (eH dT k k)) (bY (k) gD)))))) λ_ h=>aI<|tn<|sR<|am k k<|lp k8<|oB h λv3 hv3 h=>ae (AEff.conv (iB (x:= .tuple [.agg [.int v3.1.rows,.int v3.1.cols,.own 2 0 (v3.1.cells.map eI).length],.own 3 0 (v3.2.map eI).length]) (nb:=[(2,⟨1,dA (v3.1.cells.map eI)⟩),(3,⟨1,dA (v3.2.map eI)⟩)]) (pP a0 a1 v3 hv3) k (by rfl) k k (eJ (cH aX (cH aX (cH (dT.good _) nM))) (eJ (dT.good _) tK)) (bZ k (aG (eG k) aE))) (v':= .tuple [.agg [.int v3.1.rows,.int v3.1.cols,.own 2 0 v3.1.cells.length],.own 3 0 v3.2.length]) (ed':=[(2,some ⟨1,v3.1.cells.map (ow eI)⟩),(3,some ⟨1,v3.2.map (ow eI)⟩)]) (by simp only [aR]) (rJ (nb':=[(2,⟨1,v3.1.cells.map (ow eI)⟩),(3,⟨1,v3.2.map (ow eI)⟩)]) (by simp only [fW]))) k<|am k k<|ae (bP k k (by intro _ h;cases h)) k<|ae (bP k k (by intro _ h;cases h)) k<|ae (bX aP k k) k<|ae (ws k) k<|aT k2<|sR<|lp k8<|am k k<|ae (ws k) k<|aa k k<|aT k2<|aD<|sp h (aZ k k k (dP k (bY (tJ (bD (k) (bD (k) (bD (eH dT k k) eV)))) (bY (oJ (eH dT k k)) (bY (k) gD)))))
def tS (a0:Int) (a1:Mt):Option Int:=
 (xC a0 a1).bind λv1=>
 bif !v1.2.2 then
 (some ((-1)))
 else
 (some (((v1.2.1.length:Nat):Int)))
theorem aDJ (a0:Int) (a1:Mt) (r:Int) (h:tS a0 a1=some r):HasC Tryz.prog 84 [.int a0,.agg (eM a1)] (.int r):=by
 exact hM [.tmp 4] Tryz.func84 Tryz.ntmps84 k<|sR<|ae (wb k) k<|aT k2<|sR<|am k k<|lp k8<|oB h λv1 hv1 h=>ae (AEff.conv (iB (x:= .tuple [.agg [.int v1.1.rows,.int v1.1.cols,.own 1 0 (v1.1.cells.map eI).length],.own 2 0 (v1.2.1.map eI).length,.bl v1.2.2]) (nb:=[(1,⟨1,dA (v1.1.cells.map eI)⟩),(2,⟨1,dA (v1.2.1.map eI)⟩)]) (aEw a0 a1 v1 hv1) k (by rfl) k k (eJ (cH aX (cH aX (cH (dT.good _) nM))) (eJ (dT.good _) (eJ aX tK))) (bZ k (aG (eG k) aE))) (v':= .tuple [.agg [.int v1.1.rows,.int v1.1.cols,.own 1 0 v1.1.cells.length],.own 2 0 v1.2.1.length,.bl v1.2.2]) (ed':=[(1,some ⟨1,v1.1.cells.map (ow eI)⟩),(2,some ⟨1,v1.2.1.map (ow eI)⟩)]) (by simp only [aR]) (rJ (nb':=[(1,⟨1,v1.1.cells.map (ow eI)⟩),(2,⟨1,v1.2.1.map (ow eI)⟩)]) (by simp only [fW]))) k<|am k k<|ae (bP k k (by intro _ h;cases h)) k<|ae (bP k k (by intro _ h;cases h)) k<|ae (bP k k (by intro _ h;cases h)) k<|ae (bX aP k k) k<|ae (ws k) k<|aa k k<|aT k2<|sQ<|sR<|am k k<|ae (dB k) k<|an<|tn<|cV k h (λ_ h=>sR<|aT k2<|aD<|aJ<|yT h k2) λ_ h=>aI<|tn<|sR<|am k k<|ae (dW aP k k k k) k<|aT k2<|aD<|yT h k2
def rU (a0:Int) (a1:Int):Option Int:=
 (kC a0).bind λv1=>
 bif !v1 then
 (some (0))
 else
 (bif !decide (a0=0) then
 (bif !decide (a0=0) then
 (some ((wr ((a1.tmod a0)+a0)).tmod a0))
 else none)
 else none)
theorem aEx (a0:Int) (a1:Int) (r:Int) (h:rU a0 a1=some r):HasC Tryz.prog 247 [.int a0,.int a1] (.int r):=by
 exact hM [.tmp 4] Tryz.func247 Tryz.ntmps247 k<|sR<|aT k2<|sQ<|sR<|am k k<|oB h λv1 hv1 h=>ae (aH (rL a0 v1 hv1) k (bZ k aE)) k<|ae (dB k) k<|an<|tn<|cV k h (λ_ h=>sR<|aT k2<|aD<|aJ<|yT h k2) λ_ h=>aI<|tn<|sR<|am k k<|am k k<|cG h λq4 h=>ae (aCD k k q4) k<|am k k<|ae (bB k k) k<|am k k<|cG h λq3 h=>ae (aCD k k q3) k<|aT k2<|aD<|yT h k2
def oW (a0:Int) (a1:Int) (a2:Int) (x1:(Int×Int)):Option ((Int×Int) ⊕ Int):=
 bif decide (x1.2<a2) then
 ((rU a0 a1).bind λv6=>
 bif !decide (a0=0) then
 (some (.inl ((wr (x1.1*v6)).tmod a0,wr (x1.2+1))))
 else none)
 else
 (some (.inr x1.1))
def uD (a0:Int) (a1:Int) (a2:Int):Option Int:=
 (kC a0).bind λv1=>
 bif !v1 then
 (some (0))
 else
 ((mJ a2 0 1000).bind λv3=>
 bif !v3 then
 (some (0))
 else
 ((Lp (oW a0 a1 a2) (1,0)).bind λy8=>
 some (y8)))
theorem aGA (a0:Int) (a1:Int) (a2:Int) (r:Int) (h:uD a0 a1 a2=some r):HasC Tryz.prog 228 [.int a0,.int a1,.int a2] (.int r):=by
 refine hM [.tmp 6] Tryz.func228 Tryz.ntmps228 k<|sR<|aT k2<|sQ<|sR<|am k k<|oB h λv1 hv1 h=>ae (aH (rL a0 v1 hv1) k (bZ k aE)) k<|ae (dB k) k<|am k k<|oF h (λq2 h=>aO 11 k q2<|aK k4<|ak k k<|pk k3<|an<|tn<|dX k k<|sR<|aT k2<|aD<|aJ<|yT h k2) λq2 h=>?_;refine aO 11 k q2<|am k k<|oB h λv3 hv3 h=>ae (aH (tQ a2 0 1000 v3 hv3) k (bZ k (bZ k (bZ k aE)))) k<|ae (dB k) k<|pk k3<|an<|tn<|cV k h (λ_ h=>sR<|aT k2<|aD<|aJ<|yT h k2) λ_ h=>?_;refine aI<|tn<|sR<|aT k2<|sQ<|sR<|am k k<|am k k<|an<|tn<|aC<|oB h λy8 hy8 h=>bU (body:=(oW a0 a1 a2)) hy8 (λ(x1:(Int×Int))=>mN [(0,.int a0),(1,.int a1),(7,.int x1.1),(16,.int a2),(17,.int x1.2)] [] 0) (λr e t=>e= .exit 0∧Ent t (mN [(7,.int r)] [] 0)) (bO (bG k2) aX k4) ?_ ?_
 ·intro x1 o h;exact sR<|cm k4<|an<|tn<|sQ<|cV k h (λ_ h=>aI<|tn<|sQ<|aC<|rg<|am k k<|am k k<|am k k<|oB h λv6 hv6 h=>ae (aH (aEx a0 a1 v6 hv6) k (bZ k (bZ k aE))) k<|ae (eX k k) k<|am k k<|cG h λq7 h=>ae (aCD k k q7) k<|aa k k<|an<|aY<|tn<|rg<|ae (bB k k) k<|am k k<|an<|tn<|sp h ⟨_,k,(bO (bG k2) aX k4)⟩) λ_ h=>aW<|aB<|aB<|sp h ⟨_,k,k,(bO (bG k2) aX k4)⟩
 ·rintro e t ⟨rfl,hent⟩;exact aM<|tn<|aL hent<|sR<|am k k<|aT k2<|aD<|yT h k2
def qK (a0:Int) (a1:Int):Option Int:=
 (kC a0).bind λv1=>
 bif !v1 then
 (some (0))
 else
 ((uD a0 a1 (max (wr (a0 - 2)) 1)).bind λv3=>
 some (v3))
theorem aEK (a0:Int) (a1:Int) (r:Int) (h:qK a0 a1=some r):HasC Tryz.prog 192 [.int a0,.int a1] (.int r):=by
 exact hM [.tmp 4] Tryz.func192 Tryz.ntmps192 k<|sR<|aT k2<|sQ<|sR<|am k k<|oB h λv1 hv1 h=>ae (aH (rL a0 v1 hv1) k (bZ k aE)) k<|ae (dB k) k<|an<|tn<|cV k h (λ_ h=>sR<|aT k2<|aD<|aJ<|yT h k2) λ_ h=>aI<|tn<|sR<|am k k<|am k k<|am k k<|ae (mP k k) k<|ae (aTw k k) k<|oB h λv3 hv3 h=>ae (aH (aGA a0 a1 (max (wr (a0 - 2)) 1) v3 hv3) k (bZ k (bZ k (bZ k aE)))) k<|aT k2<|aD<|yT h k2
def gN (a0:(List Int)) (a1:Int) (x1:Int):Option (Int ⊕ (Unit ⊕ Int)):=
 bif decide (x1<(a0.length:Int)) then
 ((cP a0 x1).bind λv2=>
 bif decide (a1=v2) then
 (some (.inr (.inr (x1))))
 else
 (some (.inl (wr (x1+1)))))
 else
 (some (.inr (.inl ())))
def nP (a0:(List Int)) (a1:Int):Option Int:=
 (Lp (gN a0 a1) 0).bind λy4=>
 Sum.elim (λy5=>
 some ((-1))
 )
 (λy6=>
 some y6
 )
 y4
theorem aBQ (a0:(List Int)) (a1:Int) (r:Int) (h:nP a0 a1=some r):HasC Tryz.prog 249 [.list 1 (a0.map eI),.int a1] (.int r):=by
 refine hM [.tmp 4] Tryz.func249 Tryz.ntmps249 k<|sR<|aT k2<|sQ<|sR<|am k k<|ln k4<|am k k<|an<|tn<|aC<|oB h λy4 hy4 h=>bU (body:=(gN a0 a1)) hy4 (λ(x1:Int)=>mN [(0,.list 1 (a0.map eI)),(1,.int a1),(7,.int (a0.length:Int)),(8,.int x1)] [] 0) (λr e t=>Sum.elim (λa=>(λr e t=>e= .exit 0∧Ent t (mN [] [] 0)) a e t) (λb=>(λr e t=>e= .ret∧vJ TT [.tmp 4] (.int r) .ret t) b e t) r) (bO (bG k2) aX k4) ?_ ?_
 ·intro x1 o h;exact sR<|cm k4<|an<|tn<|sQ<|cV k h (λ_ h=>aI<|tn<|sQ<|aC<|sR<|am k k<|aT k2<|sR<|am k k<|am k k<|am k k<|oB h λv2 hv2 h=>ae (xl hv2 k) k<|lr k7<|cm k4<|an<|tn<|cV k h (λ_ h=>sR<|am k k<|aT k2<|aD<|bL<|aJ<|aJ<|sp h ⟨_,k,k,aZ k k k (aEm k)⟩) λ_ h=>aI<|aY<|tn<|rg<|ae (bB k k) k<|am k k<|an<|tn<|sp h ⟨_,k,(bO (bG k2) aX k4)⟩) λ_ h=>aW<|aB<|aB<|sp h ⟨_,k,k,(bO aX aX k4)⟩
 ·intro e t hX;rcases y4 with y5|y6
  ·obtain ⟨rfl,hent⟩:=hX;exact aM<|tn<|aL hent<|sR<|aT k2<|aD<|yT h k2
  ·obtain ⟨rfl,hent⟩:=hX;exact bL<|aJ<|sp h hent
def gO (a0:(List Int)) (a1:Int):Option Bool:=
 (nP a0 a1).bind λv1=>
 some (decide (0≤v1))
theorem aAH (a0:(List Int)) (a1:Int) (r:Bool) (h:gO a0 a1=some r):HasC Tryz.prog 232 [.list 1 (a0.map eI),.int a1] (.bl r):=by
 exact hM [.tmp 4] Tryz.func232 Tryz.ntmps232 k<|sR<|aT k2<|sR<|am k k<|am k k<|oB h λv1 hv1 h=>ae (aH (aBQ a0 a1 v1 hv1) k (bZ k (bZ k aE))) k<|cm k4<|aT k2<|aD<|gW h k2
def kO (a0:Int) (a1:(List Int)) (x1:((List Int)×Int)):Option (((List Int)×Int) ⊕ (List Int)):=
 bif decide (x1.2<a0) then
 ((gO a1 x1.2).bind λv2=>
 bif !v2 then
 (bif decide (x1.1.length+[x1.2].length ≤4294967296) then
 (some (.inl ((x1.1++[x1.2]),wr (x1.2+1))))
 else none)
 else
 (some (.inl (x1.1,wr (x1.2+1)))))
 else
 (some (.inr x1.1))
def oX (a0:Int) (a1:(List Int)):Option (List Int):=
 (Lp (kO a0 a1) ([],0)).bind λy5=>
 some (y5)
theorem aDg (a0:Int) (a1:(List Int)) (r:(List Int)) (h:oX a0 a1=some r):HasC Tryz.prog 199 [.int a0,.list 1 (a1.map eI)] (.list 1 (r.map eI)):=by
 refine hM [.tmp 4] Tryz.func199 Tryz.ntmps199 k<|sR<|aT k2<|sR<|aT k2<|sQ<|sR<|am k k<|am k k<|an<|tn<|aC<|oB h λy5 hy5 h=>bU (body:=(kO a0 a1)) hy5 (λ(x1:((List Int)×Int))=>mN [(1,.list 1 (a1.map eI)),(5,.own 0 0 x1.1.length),(7,.int a0),(8,.int x1.2)] [(0,⟨1,x1.1.map (ow eI)⟩)] 1) (λr e t=>e= .exit 0∧Ent t (mN [(5,.own 0 0 r.length)] [(0,⟨1,r.map (ow eI)⟩)] 1)) (hO (σ:=sg []) (kW 1 k2 (iC ⟨_,k,⟨k,k,k,k⟩⟩ (bG k2))) (hX k k<|aX) k) ?_ ?_
 ·intro x1 o h;exact sR<|cm k4<|an<|tn<|sQ<|cV k h (λ_ h=>aI<|tn<|sQ<|aC<|sR<|am k k<|aT k2<|sR<|am k k<|am k k<|oB h λv2 hv2 h=>ae (aH (aAH a1 x1.2 v2 hv2) k (bZ k (bZ k aE))) k<|ae (dB k) k<|an<|tn<|cV k h (λ_ h=>rg<|am k k<|am k k<|ae (wl k) k<|cG h λq4 h=>ae (mQ aP (l:=x1.1) (m:=[x1.2]) kX q4 k k k k k k k k k k k k) k<|aa k k<|an<|aY<|tn<|rg<|ae (bB k k) k<|am k k<|an<|tn<|sp h ⟨_,k,(jI [2] (bG k2) (cB k<|aX) k4)⟩) λ_ h=>aI<|aY<|tn<|rg<|ae (bB k k) k<|am k k<|an<|tn<|sp h ⟨_,k,(bO (bG k2) (cB k<|aX) k4)⟩) λ_ h=>aW<|aB<|aB<|sp h ⟨_,k,k,(bO (bG k2) (cB k<|aX) k4)⟩
 ·rintro e t ⟨rfl,hent⟩;exact aM<|tn<|aL hent<|sR<|am k k<|aT k2<|aD<|sp h (aZ k k k (eB (eH dT k k)))
def iT (a1:(List Int)) (x1:(Int×Int)):Option ((Int×Int) ⊕ (Int ⊕ Bool)):=
 bif decide (x1.2<(a1.length:Int)) then
 ((cP a1 x1.2).bind λv5=>
 (gT v5 0 4).bind λv6=>
 bif !v6 then
 (some (.inr (.inr (false))))
 else
 ((cP a1 x1.2).bind λv8=>
 some (.inl (wr (x1.1+v8),wr (x1.2+1)))))
 else
 (some (.inr (.inl x1.1)))
def vY (a0:Qv) (a1:(List Int)):Option Bool:=
 (uA a0).bind λv1=>
 bif !v1 then
 (some (false))
 else
 (bif !decide ((a1.length:Int)=a0.n) then
 (some (false))
 else
 ((Lp (iT a1) (0,0)).bind λy9=>
 Sum.elim (λy10=>
 some (decide (y10≤8))
 )
 (λy11=>
 some y11
 )
 y9))
theorem aHa (a0:Qv) (a1:(List Int)) (r:Bool) (h:vY a0 a1=some r):HasC Tryz.prog 80 [.agg (eQ a0),.list 1 (a1.map eI)] (.bl r):=by
 refine hM [.tmp 4] Tryz.func80 Tryz.ntmps80 k<|sR<|ae (wb k) k<|aT k2<|sQ<|sR<|lp k8<|oB h λv1 hv1 h=>ae (aH (aFy a0 v1 hv1) k (aG (eG k) aE)) k<|ae (dB k) k<|am k k<|oF h (λq2 h=>aO 10 k q2<|aK k4<|aK k4<|ak k k<|pk k3<|an<|tn<|dX k k<|sR<|aT k2<|aD<|aJ<|gW h k2) λq2 h=>?_;refine aO 10 k q2<|am k k<|ln k4<|fp k8<|lp k8<|cm k4<|pk k3<|an<|tn<|cV k h (λ_ h=>sR<|aT k2<|aD<|aJ<|gW h k2) λ_ h=>?_;refine aI<|tn<|sR<|aT k2<|sQ<|sR<|aT k2<|aC<|oB h λy9 hy9 h=>bU (body:=(iT a1)) hy9 (λ(x1:(Int×Int))=>mN [(1,.list 1 (a1.map eI)),(5,.int x1.1),(6,.int x1.2)] [] 0) (λr e t=>Sum.elim (λa=>(λr e t=>e= .exit 0∧Ent t (mN [(5,.int r)] [] 0)) a e t) (λb=>(λr e t=>e= .ret∧vJ TT [.tmp 4] (.bl r) .ret t) b e t) r) (bO (bG k2) aX k4) ?_ ?_
 ·intro x1 o h;exact sQ<|sR<|am k k<|am k k<|ln k4<|cm k4<|an<|tn<|cV k h (λ_ h=>aI<|tn<|sQ<|aC<|sQ<|sR<|am k k<|am k k<|oB h λv5 hv5 h=>ae (xl hv5 k) k<|lr k7<|oB h λv6 hv6 h=>ae (aH (jU v5 0 4 v6 hv6) k (bZ k (bZ k (bZ k aE)))) k<|ae (dB k) k<|an<|tn<|cV k h (λ_ h=>sR<|aT k2<|aD<|aJ<|bL<|aJ<|aJ<|sp h ⟨_,k,k,aZ k k k (oD k)⟩) λ_ h=>aI<|tn<|rg<|am k k<|am k k<|am k k<|oB h λv8 hv8 h=>ae (xl hv8 k) k<|lr k7<|ae (bB k k) k<|aa k k<|an<|aY<|tn<|rg<|am k k<|ae (bB k k) k<|aT k2<|sp h ⟨_,k,(bO (bG k2) aX k4)⟩) λ_ h=>aW<|aB<|aB<|sp h ⟨_,k,k,(bO (bG k2) aX k4)⟩
 ·intro e t hX;rcases y9 with y10|y11
  ·obtain ⟨rfl,hent⟩:=hX;exact aM<|tn<|aL hent<|sR<|am k k<|cm k4<|aT k2<|aD<|gW h k2
  ·obtain ⟨rfl,hent⟩:=hX;exact bL<|aJ<|sp h hent
def uE (a0:Rp) (x1:Int):Option (Int ⊕ (Unit ⊕ Bool)):=
 bif decide (x1<(a0.maps.length:Int)) then
 ((cP a0.maps x1).bind λv7=>
 (gU a0.p v7).bind λv8=>
 bif !v8 then
 (some (.inr (.inr (false))))
 else
 ((cP a0.maps x1).bind λv10=>
 (cP a0.q.src x1).bind λv11=>
 (cP a0.dims v11).bind λv12=>
 bif !decide (v10.cols=v12) then
 (some (.inr (.inr (false))))
 else
 ((cP a0.maps x1).bind λv14=>
 (cP a0.q.tgt x1).bind λv15=>
 (cP a0.dims v15).bind λv16=>
 bif !decide (v14.rows=v16) then
 (some (.inr (.inr (false))))
 else
 (some (.inl (wr (x1+1)))))))
 else
 (some (.inr (.inl ())))
def dU (a0:Rp):Option Bool:=
 (kB a0.p).bind λv1=>
 bif !v1 then
 (some (false))
 else
 ((vY a0.q a0.dims).bind λv3=>
 bif !v3 then
 (some (false))
 else
 (bif !decide ((a0.maps.length:Int)=(a0.q.src.length:Int)) then
 (some (false))
 else
 ((Lp (uE a0) 0).bind λy18=>
 Sum.elim (λy19=>
 some (true)
 )
 (λy20=>
 some y20
 )
 y18)))
theorem fH (a0:Rp) (r:Bool) (h:dU a0=some r):HasC Tryz.prog 35 [.agg (eR a0)] (.bl r):=by
 refine hM [.tmp 2] Tryz.func35 Tryz.ntmps35 k<|sR<|ae (wb k) k<|aT k2<|sQ<|sR<|fp k8<|lp k8<|oB h λv1 hv1 h=>ae (aH (rK a0.p v1 hv1) k (bZ k aE)) k<|ae (dB k) k<|am k k<|oF h (λq2 h=>aO 8 k q2<|aK k4<|aK k4<|aK k4<|pk k3<|am k k<|aK k4<|aK k4<|aK k4<|aK k4<|pk k3<|an<|tn<|aL (t:=mN [(1,.ptr 0 0 0),(25,.bl true)] [(0,⟨6,[eR a0]⟩)] 1) (bO (bG k2) (bH k<|aX) k4)<|dX k k<|sR<|aT k2<|aD<|aJ<|gW h k2) λq2 h=>?_;refine aO 8 k q2<|fp k8<|lp k8<|fp k8<|lp k8<|oB h λv3 hv3 h=>ae (aH (aHa a0.q a0.dims v3 hv3) k (aG (eG k) (bZ k aE))) k<|ae (dB k) k<|pk k3<|am k k<|oF h (λq4 h=>aO 16 k q4<|aK k4<|aK k4<|aK k4<|aK k4<|pk k3<|an<|tn<|aL (t:=mN [(1,.ptr 0 0 0),(25,.bl true)] [(0,⟨6,[eR a0]⟩)] 1) (bO (bG k2) (bH k<|aX) k4)<|dX k k<|sR<|aT k2<|aD<|aJ<|gW h k2) λq4 h=>?_;refine aO 16 k q4<|fp k8<|lp k8<|ln k4<|fp k8<|fp k8<|lp k8<|ln k4<|cm k4<|pk k3<|an<|tn<|aL (t:=mN [(1,.ptr 0 0 0),(25,.bl (!decide ((a0.maps.length:Int)=(a0.q.src.length:Int))))] [(0,⟨6,[eR a0]⟩)] 1) (bO (bG k2) (bH k<|aX) k4)<|cV k h (λ_ h=>sR<|aT k2<|aD<|aJ<|gW h k2) λ_ h=>?_;refine aI<|tn<|sQ<|sR<|aT k2<|aC<|oB h λy18 hy18 h=>bU (body:=(uE a0)) hy18 (λ(x1:Int)=>mN [(1,.ptr 0 0 0),(3,.int x1)] [(0,⟨6,[eR a0]⟩)] 1) (λr e t=>Sum.elim (λa=>(λr e t=>e= .exit 0∧Ent t (mN [] [] 0)) a e t) (λb=>(λr e t=>e= .ret∧vJ TT [.tmp 2] (.bl r) .ret t) b e t) r) (bO (bG k2) (bH k<|aX) k4) ?_ ?_
 ·intro x1 o h;refine sQ<|sR<|am k k<|fp k8<|lp k8<|ln k4<|cm k4<|an<|tn<|cV k h (λ_ h=>?_) λ_ h=>aW<|aB<|aB<|sp h ⟨_,k,k,(bO aX aX k4)⟩;refine aI<|tn<|sQ<|aC<|sQ<|aQ fA<|fp k8<|lp k8<|fp k8<|lp k8<|am k k<|oB h λv7 hv7 h=>ae (xl hv7 k) k<|lr k7<|oB h λv8 hv8 h=>ae (aH (pO a0.p v7 v8 hv8) k (bZ k (aG (eG k) aE))) k<|ae (dB k) k<|am k k<|oF h (λq9 h=>?_) λq9 h=>?_
  ·refine aO 42 k q9<|aK k4<|aK k4<|aK k4<|aK k4<|aK k4<|aK k4<|aK k4<|aK k4<|ak k k<|pk k3<|am k k<|aK k4<|aK k4<|aK k4<|aK k4<|aK k4 ?_;exact aK k4<|aK k4<|aK k4<|ak k k<|pk k3<|an<|oA (by kernel_rfl)<|tn<|aL (t:=mN [(1,.ptr 0 0 0),(3,.int x1),(79,.bl true)] [(0,⟨6,[eR a0]⟩)] 1) (bO (bG k2) (bH k<|aX) k4)<|dX k k<|sR<|aT k2<|aD<|bL<|aJ<|aJ<|sp h ⟨_,k,k,aZ k k k (oD k)⟩
  ·refine aO 42 k q9<|fp k8<|lp k8<|am k k<|oB h λv10 hv10 h=>ae (xl hv10 k) k<|ae (vO aP k k k k k k) k<|lr k7<|fp k8<|lp k8<|fp k8<|fp k8<|lp k8<|am k k<|oB h λv11 hv11 h=>ae (xl hv11 k) k<|lr k7<|oB h λv12 hv12 h=>ae (xl hv12 k) k<|lr k7<|cm k4<|pk k3<|am k k<|oF h (λq13 h=>?_) λq13 h=>aO 61 k q13<|fp k8<|lp k8<|am k k<|oB h λv14 hv14 h=>ae (xl hv14 k) k<|ae (vO aP k k k k k k) k<|lr k7<|fp k8<|lp k8<|fp k8<|fp k8<|lp k8<|am k k<|oB h λv15 hv15 h=>ae (xl hv15 k) k<|lr k7<|oB h λv16 hv16 h=>ae (xl hv16 k) k<|lr k7<|cm k4<|pk k3<|an<|oA (by kernel_rfl)<|tn<|aL (t:=mN [(1,.ptr 0 0 0),(3,.int x1),(79,.bl (!decide (v14.rows=v16)))] [(0,⟨6,[eR a0]⟩)] 1) (bO (bG k2) (bH k<|aX) k4)<|cV k h (λ_ h=>sR<|aT k2<|aD<|bL<|aJ<|aJ<|sp h ⟨_,k,k,aZ k k k (oD k)⟩) λ_ h=>aI<|aY<|tn<|rg<|am k k<|ae (bB k k) k<|aT k2<|sp h ⟨_,k,(bO (bG k2) (bH k<|aX) k4)⟩;refine aO 61 k q13<|aK k4<|aK k4<|aK k4<|aK k4<|aK k4<|aK k4<|aK k4<|aK k4<|ak k k<|pk k3<|an<|oA (by kernel_rfl)<|tn<|aL (t:=mN [(1,.ptr 0 0 0),(3,.int x1),(79,.bl true)] [(0,⟨6,[eR a0]⟩)] 1) (bO (bG k2) (bH k<|aX) k4)<|dX k k<|sR<|aT k2<|aD ?_;exact bL<|aJ<|aJ<|sp h ⟨_,k,k,aZ k k k (oD k)⟩
 ·intro e t hX;rcases y18 with y19|y20
  ·obtain ⟨rfl,hent⟩:=hX;exact aM<|tn<|aL hent<|sR<|aT k2<|aD<|gW h k2
  ·obtain ⟨rfl,hent⟩:=hX;exact bL<|aJ<|sp h hent
def mT (a0:Qv) (a1:Qv):Option Bool:=
 bif decide (a0.n=a1.n) then
 ((tR a0.src a1.src).bind λv2=>
 bif v2 then
 ((tR a0.tgt a1.tgt).bind λv4=>
 some (v4))
 else
 (some (false)))
 else
 (some (false))
theorem aDC (a0:Qv) (a1:Qv) (r:Bool) (h:mT a0 a1=some r):HasC Tryz.prog 144 [.agg (eQ a0),.agg (eQ a1)] (.bl r):=by
 exact hM [.tmp 4] Tryz.func144 Tryz.ntmps144 k<|sR<|ae (wb k) k<|ae (wb k) k<|aT k2<|sR<|fp k8<|lp k8<|fp k8<|lp k8<|cm k4<|am k k<|oF h (λq1 h=>aO 10 k q1<|fp k8<|lp k8<|fp k8<|lp k8<|oB h λv2 hv2 h=>ae (aH (aAr a0.src a1.src v2 hv2) k (bZ k (bZ k aE))) k<|pk k3<|am k k<|oF h (λq3 h=>aO 17 k q3<|fp k8<|lp k8<|fp k8<|lp k8<|oB h λv4 hv4 h=>ae (aH (aAr a0.tgt a1.tgt v4 hv4) k (bZ k (bZ k aE))) k<|pk k3<|aT k2<|aD<|gW h k2) λq3 h=>aO 17 k q3<|aK k4<|aK k4<|ak k k<|pk k3<|aT k2<|aD<|gW h k2) λq1 h=>aO 10 k q1<|aK k4<|aK k4<|ak k k<|pk k3<|am k k<|aK k4<|aK k4<|ak k k<|pk k3<|aT k2<|aD<|gW h k2
def mU (a0:Qv) (a1:Qv):Option Bool:=
 bif decide (a0.n=a1.n) then
 ((eK a0.src a1.src).bind λv2=>
 bif v2 then
 ((eK a0.tgt a1.tgt).bind λv4=>
 some (v4))
 else
 (some (false)))
 else
 (some (false))
theorem aDD (a0:Qv) (a1:Qv) (r:Bool) (h:mU a0 a1=some r):HasC Tryz.prog 163 [.agg (eQ a0),.agg (eQ a1)] (.bl r):=by
 exact hM [.tmp 4] Tryz.func163 Tryz.ntmps163 k<|sR<|ae (wb k) k<|ae (wb k) k<|aT k2<|sR<|fp k8<|lp k8<|fp k8<|lp k8<|cm k4<|am k k<|oF h (λq1 h=>aO 10 k q1<|fp k8<|lp k8<|fp k8<|lp k8<|oB h λv2 hv2 h=>ae (aH (nO a0.src a1.src v2 hv2) k (bZ k (bZ k aE))) k<|pk k3<|am k k<|oF h (λq3 h=>aO 17 k q3<|fp k8<|lp k8<|fp k8<|lp k8<|oB h λv4 hv4 h=>ae (aH (nO a0.tgt a1.tgt v4 hv4) k (bZ k (bZ k aE))) k<|pk k3<|aT k2<|aD<|gW h k2) λq3 h=>aO 17 k q3<|aK k4<|aK k4<|ak k k<|pk k3<|aT k2<|aD<|gW h k2) λq1 h=>aO 10 k q1<|aK k4<|aK k4<|ak k k<|pk k3<|am k k<|aK k4<|aK k4<|ak k k<|pk k3<|aT k2<|aD<|gW h k2
def rV (a0:Rp) (a1:Rp):Option Bool:=
 (dU a0).bind λv1=>
 bif v1 then
 ((dU a1).bind λv3=>
 bif v3 then
 (bif decide (a0.p=a1.p) then
 ((mT a0.q a1.q).bind λv6=>
 some (v6))
 else
 (some (false)))
 else
 (some (false)))
 else
 (some (false))
theorem aEL (a0:Rp) (a1:Rp) (r:Bool) (h:rV a0 a1=some r):HasC Tryz.prog 88 [.agg (eR a0),.agg (eR a1)] (.bl r):=by
 exact hM [.tmp 4] Tryz.func88 Tryz.ntmps88 k<|sR<|ae (wb k) k<|ae (wb k) k<|aT k2<|sR<|lp k8<|oB h λv1 hv1 h=>ae (aH (fH a0 v1 hv1) k (aG (eG k) aE)) k<|am k k<|oF h (λq2 h=>aO 7 k q2<|lp k8<|oB h λv3 hv3 h=>ae (aH (fH a1 v3 hv3) k (aG (eG k) aE)) k<|pk k3<|am k k<|oF h (λq4 h=>aO 11 k q4<|fp k8<|lp k8<|fp k8<|lp k8<|cm k4<|pk k3<|am k k<|oF h (λq5 h=>aO 18 k q5<|fp k8<|lp k8<|fp k8<|lp k8<|oB h λv6 hv6 h=>ae (aH (aDC a0.q a1.q v6 hv6) k (aG (eG k) (aG (eG k) aE))) k<|pk k3<|aT k2<|aD<|gW h k2) λq5 h=>aO 18 k q5<|aK k4<|aK k4<|ak k k<|pk k3<|aT k2<|aD<|gW h k2) λq4 h=>aO 11 k q4<|aK k4<|aK k4<|ak k k<|pk k3<|am k k<|aK k4<|aK k4<|ak k k<|pk k3<|aT k2<|aD<|gW h k2) λq2 h=>aO 7 k q2<|aK k4<|pk k3<|am k k<|aK k4<|aK k4<|ak k k<|pk k3<|am k k<|aK k4<|aK k4<|ak k k<|pk k3<|aT k2<|aD<|gW h k2
end
noncomputable section
set_option maxRecDepth 10000
set_option maxHeartbeats 4000000
def cN (a0:(List Int)) (a1:(Int→Option Bool)) (x1:Int):Option (Int ⊕ (Unit ⊕ Int)):=
 bif decide (x1<(a0.length:Int)) then
 ((cP a0 x1).bind λv2=>
 (a1 v2).bind λv3=>
 bif v3 then
 (some (.inr (.inr (x1))))
 else
 (some (.inl (wr (x1+1)))))
 else
 (some (.inr (.inl ())))
def fJ (a0:(List Int)) (a1:(Int→Option Bool)):Option Int:=
 (Lp (cN a0 a1) 0).bind λy5=>
 Sum.elim (λy6=>
 some ((-1))
 )
 (λy7=>
 some y7
 )
 y5
theorem zD (a0:(List Int)) (a1:(Int→Option Bool)) {f1:FuncId} {c1:List AV} (hc1:c1.all eP=true) (hf1: ∀ b0 r,a1 b0=some r→HasC Tryz.prog f1 ([.int b0]++c1) (.bl r)) (r:Int) (h:fJ a0 a1=some r):HasC Tryz.prog 178 [.list 1 (a0.map eI),.fn f1 c1] (.int r):=by
 refine aCm aP (rvs:=[.tmp 4]) (ns:=nmA) Tryz.func178 k k Tryz.ntmps178 k k (aAc k (aAc hc1 aKV))<|sR<|aT k2<|sQ<|sR<|am k k<|ln k4<|am k k<|an<|tn<|aC<|oB h λy5 hy5 h=>bU (body:=(cN a0 a1)) hy5 (λ(x1:Int)=>mN [(0,.list 1 (a0.map eI)),(1,.fn f1 c1),(7,.int (a0.length:Int)),(8,.int x1)] [] 0) (λr e t=>Sum.elim (λa=>(λr e t=>e= .exit 0∧Ent t (mN [] [] 0)) a e t) (λb=>(λr e t=>e= .ret∧vJ TT [.tmp 4] (.int r) .ret t) b e t) r) (bO (kW 1 k2 (iC ⟨_,k,⟨k,aCp _ hc1⟩⟩ (bG k2))) aX k4) ?_ ?_
 ·intro x1 o h;exact sR<|cm k4<|an<|tn<|sQ<|cV k h (λ_ h=>aI<|tn<|sQ<|aC<|sR<|am k k<|aT k2<|sR<|am k k<|am k k<|am k k<|oB h λv2 hv2 h=>ae (xl hv2 k) k<|lr k7<|oB h λv3 hv3 h=>ae (aOp hc1 (hf1 v2 v3 hv3) k k (bZ k aE)) k<|an<|tn<|cV k h (λ_ h=>sR<|am k k<|aT k2<|aD<|bL<|aJ<|aJ<|sp h ⟨_,k,k,aZ k k k (aEm k)⟩) λ_ h=>aI<|aY<|tn<|rg<|ae (bB k k) k<|am k k<|an<|tn<|sp h ⟨_,k,(bO (kW 1 k2 (iC ⟨_,k,⟨k,aCp _ hc1⟩⟩ (bG k2))) aX k4)⟩) λ_ h=>aW<|aB<|aB<|sp h ⟨_,k,k,(bO aX aX k4)⟩
 ·intro e t hX;rcases y5 with y6|y7
  ·obtain ⟨rfl,hent⟩:=hX;exact aM<|tn<|aL hent<|sR<|aT k2<|aD<|yT h k2
  ·obtain ⟨rfl,hent⟩:=hX;exact bL<|aJ<|sp h hent
def dK (a0:(List Int)) (a1:(Int→Option Bool)):Option Bool:=
 (fJ a0 a1).bind λv1=>
 some (decide (0≤v1))
theorem nQ (a0:(List Int)) (a1:(Int→Option Bool)) {f1:FuncId} {c1:List AV} (hc1:c1.all eP=true) (hf1: ∀ b0 r,a1 b0=some r→HasC Tryz.prog f1 ([.int b0]++c1) (.bl r)) (r:Bool) (h:dK a0 a1=some r):HasC Tryz.prog 167 [.list 1 (a0.map eI),.fn f1 c1] (.bl r):=by
 exact aCm aP (rvs:=[.tmp 4]) (ns:=nmA) Tryz.func167 k k Tryz.ntmps167 k k (aAc k (aAc hc1 aKV))<|sR<|aT k2<|sR<|am k k<|am k k<|oB h λv1 hv1 h=>ae (aH (zD a0 a1 hc1 hf1 v1 hv1) k (bZ k (aG (aRV hc1) aE))) k<|cm k4<|aT k2<|aD<|gW h k2
def kF (a0:Int) (a1:Int) (a2:Int):Option Bool:=
 (mJ a0 a1 a2).bind λv1=>
 some (!v1)
theorem aDh (a0:Int) (a1:Int) (a2:Int) (r:Bool) (h:kF a0 a1 a2=some r):HasC Tryz.prog 169 [.int a0,.ref (eI a1),.ref (eI a2)] (.bl r):=by
 exact hM [.tmp 4] Tryz.func169 Tryz.ntmps169 k<|sR<|aT k2<|sR<|am k k<|lr k7<|lr k7<|oB h λv1 hv1 h=>ae (aH (tQ a0 a1 a2 v1 hv1) k (bZ k (bZ k (bZ k aE)))) k<|ae (dB k) k<|aT k2<|aD<|gW h k2
def hY (a0:(List Int)) (a1:Int) (a2:Int):Option Bool:=
 (dK a0 (λb0=>kF b0 a1 a2)).bind λv1=>
 some (!v1)
theorem rW (a0:(List Int)) (a1:Int) (a2:Int) (r:Bool) (h:hY a0 a1 a2=some r):HasC Tryz.prog 119 [.list 1 (a0.map eI),.int a1,.int a2] (.bl r):=by
 exact hM [.tmp 6] Tryz.func119 Tryz.ntmps119 k<|sR<|ae (wb k) k<|ae (wb k) k<|aT k2<|sR<|am k k<|ae (aKD (vs:=[.ptr 0 0 0,.ptr 1 0 0]) k (by simp)) k<|oB h λv1 hv1 h=>ae (aH (nQ a0 (λb0=>kF b0 a1 a2) k (λb0 r h=>aDh b0 a1 a2 r h) v1 hv1) k (bZ k (aG (aRU (aOo (aRT k k (rS (aAa k) aHE)) (aOo (aRT k k (rS (aAa k) aHE)) aKQ))) aE))) k<|ae (dB k) k<|aT k2<|aD<|gW h k2
def uF (a0:Int) (a1:(List Int)):Option Bool:=
 (kC a0).bind λv1=>
 bif v1 then
 (bif decide ((a1.length:Int)≤64) then
 ((hY a1 0 (wr (a0 - 1))).bind λv4=>
 some (v4))
 else
 (some (false)))
 else
 (some (false))
theorem aGB (a0:Int) (a1:(List Int)) (r:Bool) (h:uF a0 a1=some r):HasC Tryz.prog 153 [.int a0,.list 1 (a1.map eI)] (.bl r):=by
 exact hM [.tmp 4] Tryz.func153 Tryz.ntmps153 k<|sR<|aT k2<|sR<|am k k<|oB h λv1 hv1 h=>ae (aH (rL a0 v1 hv1) k (bZ k aE)) k<|am k k<|oF h (λq2 h=>aO 7 k q2<|am k k<|ln k4<|cm k4<|pk k3<|am k k<|oF h (λq3 h=>aO 12 k q3<|am k k<|am k k<|ae (mP k k) k<|oB h λv4 hv4 h=>ae (aH (rW a1 0 (wr (a0 - 1)) v4 hv4) k (bZ k (bZ k (bZ k aE)))) k<|pk k3<|aT k2<|aD<|gW h k2) λq3 h=>aO 12 k q3<|aK k4<|aK k4<|pk k3<|aT k2<|aD<|gW h k2) λq2 h=>aO 7 k q2<|aK k4<|ak k k<|pk k3<|am k k<|aK k4<|aK k4<|pk k3<|aT k2<|aD<|gW h k2
def pQ (a0:Int) (a1:Mt):Option Bool:=
 (mJ a1.rows 0 8).bind λv1=>
 bif v1 then
 ((mJ a1.cols 0 8).bind λv3=>
 bif v3 then
 (bif decide ((a1.cells.length:Int)=wr (a1.rows*a1.cols)) then
 ((uF a0 a1.cells).bind λv6=>
 some (v6))
 else
 (some (false)))
 else
 (some (false)))
 else
 (some (false))
theorem aCE (a0:Int) (a1:Mt) (r:Bool) (h:pQ a0 a1=some r):HasC Tryz.prog 100 [.int a0,.agg (eM a1)] (.bl r):=by
 exact hM [.tmp 4] Tryz.func100 Tryz.ntmps100 k<|sR<|ae (wb k) k<|aT k2<|sR<|fp k8<|lp k8<|oB h λv1 hv1 h=>ae (aH (tQ a1.rows 0 8 v1 hv1) k (bZ k (bZ k (bZ k aE)))) k<|am k k<|oF h (λq2 h=>aO 8 k q2<|fp k8<|lp k8<|oB h λv3 hv3 h=>ae (aH (tQ a1.cols 0 8 v3 hv3) k (bZ k (bZ k (bZ k aE)))) k<|pk k3<|am k k<|oF h (λq4 h=>aO 13 k q4<|fp k8<|lp k8<|ln k4<|fp k8<|lp k8<|fp k8<|lp k8<|ae (eX k k) k<|cm k4<|pk k3<|am k k<|oF h (λq5 h=>aO 24 k q5<|am k k<|fp k8<|lp k8<|oB h λv6 hv6 h=>ae (aH (aGB a0 a1.cells v6 hv6) k (bZ k (bZ k aE))) k<|pk k3<|aT k2<|aD<|gW h k2) λq5 h=>aO 24 k q5<|aK k4<|aK k4<|pk k3<|aT k2<|aD<|gW h k2) λq4 h=>aO 13 k q4<|aK k4<|aK k4<|aK k4<|aK k4<|ak k k<|pk k3<|am k k<|aK k4<|aK k4<|pk k3<|aT k2<|aD<|gW h k2) λq2 h=>aO 8 k q2<|aK k4<|ak k k<|pk k3<|am k k<|aK k4<|aK k4<|aK k4<|aK k4<|ak k k<|pk k3<|am k k<|aK k4<|aK k4<|pk k3<|aT k2<|aD<|gW h k2
def uG (a0:Qv):Option Bool:=
 (mJ a0.n 1 5).bind λv1=>
 bif v1 then
 (bif decide ((a0.src.length:Int)=(a0.tgt.length:Int)) then
 (bif decide ((a0.src.length:Int)≤6) then
 ((hY a0.src 0 (wr (a0.n - 1))).bind λv5=>
 bif v5 then
 ((hY a0.tgt 0 (wr (a0.n - 1))).bind λv7=>
 some (v7))
 else
 (some (false)))
 else
 (some (false)))
 else
 (some (false)))
 else
 (some (false))
theorem aGC (a0:Qv) (r:Bool) (h:uG a0=some r):HasC Tryz.prog 152 [.agg (eQ a0)] (.bl r):=by
 refine hM [.tmp 2] Tryz.func152 Tryz.ntmps152 k<|sR<|ae (wb k) k<|aT k2<|sR<|fp k8<|lp k8<|oB h λv1 hv1 h=>ae (aH (tQ a0.n 1 5 v1 hv1) k (bZ k (bZ k (bZ k aE)))) k<|am k k<|oF h (λq2 h=>aO 6 k q2<|fp k8<|lp k8<|ln k4<|fp k8<|lp k8<|ln k4<|cm k4<|pk k3<|am k k<|oF h (λq3 h=>aO 15 k q3<|fp k8<|lp k8<|ln k4<|cm k4<|pk k3<|am k k<|oF h (λq4 h=>aO 21 k q4<|fp k8<|lp k8<|fp k8<|lp k8<|ae (mP k k) k<|oB h λv5 hv5 h=>ae (aH (rW a0.src 0 (wr (a0.n - 1)) v5 hv5) k (bZ k (bZ k (bZ k aE)))) k<|pk k3<|am k k<|oF h (λq6 h=>aO 29 k q6<|fp k8<|lp k8<|fp k8<|lp k8<|ae (mP k k) k<|oB h λv7 hv7 h=>ae (aH (rW a0.tgt 0 (wr (a0.n - 1)) v7 hv7) k (bZ k (bZ k (bZ k aE)))) k<|pk k3<|aT k2<|aD<|gW h k2) λq6 h=>aO 29 k q6<|aK k4<|aK k4<|aK k4<|pk k3<|aT k2<|aD<|gW h k2) λq4 h=>aO 21 k q4<|aK k4<|aK k4<|aK k4<|pk k3<|am k k<|aK k4<|aK k4<|aK k4<|pk k3<|aT k2<|aD<|gW h k2) λq3 h=>aO 15 k q3<|aK k4<|aK k4<|pk k3<|am k k<|aK k4<|aK k4<|aK k4<|pk k3<|am k k<|aK k4<|aK k4<|aK k4<|pk k3<|aT k2<|aD<|gW h k2) λq2 h=>?_;refine aO 6 k q2<|aK k4<|aK k4<|aK k4<|ak k k<|pk k3<|am k k<|aK k4<|aK k4<|pk k3<|am k k<|aK k4<|aK k4<|aK k4<|pk k3<|am k k<|aK k4<|aK k4<|aK k4 ?_;exact pk k3<|aT k2<|aD<|gW h k2
def vZ (a0:Qv) (a1:(List Int)):Option Bool:=
 (uG a0).bind λv1=>
 bif v1 then
 (bif decide ((a1.length:Int)=a0.n) then
 ((hY a1 0 4).bind λv4=>
 bif v4 then
 ((lM a1).bind λv6=>
 some (decide (v6≤8)))
 else
 (some (false)))
 else
 (some (false)))
 else
 (some (false))
theorem aHb (a0:Qv) (a1:(List Int)) (r:Bool) (h:vZ a0 a1=some r):HasC Tryz.prog 99 [.agg (eQ a0),.list 1 (a1.map eI)] (.bl r):=by
 exact hM [.tmp 4] Tryz.func99 Tryz.ntmps99 k<|sR<|ae (wb k) k<|aT k2<|sR<|lp k8<|oB h λv1 hv1 h=>ae (aH (aGC a0 v1 hv1) k (aG (eG k) aE)) k<|am k k<|oF h (λq2 h=>aO 7 k q2<|am k k<|ln k4<|fp k8<|lp k8<|cm k4<|pk k3<|am k k<|oF h (λq3 h=>aO 14 k q3<|am k k<|oB h λv4 hv4 h=>ae (aH (rW a1 0 4 v4 hv4) k (bZ k (bZ k (bZ k aE)))) k<|pk k3<|am k k<|oF h (λq5 h=>aO 18 k q5<|am k k<|oB h λv6 hv6 h=>ae (aH (zA a1 v6 hv6) k (bZ k aE)) k<|cm k4<|pk k3<|aT k2<|aD<|gW h k2) λq5 h=>aO 18 k q5<|aK k4<|ak k k<|pk k3<|aT k2<|aD<|gW h k2) λq3 h=>aO 14 k q3<|aK k4<|pk k3<|am k k<|aK k4<|ak k k<|pk k3<|aT k2<|aD<|gW h k2) λq2 h=>aO 7 k q2<|aK k4<|aK k4<|ak k k<|pk k3<|am k k<|aK k4<|pk k3<|am k k<|aK k4<|ak k k<|pk k3<|aT k2<|aD<|gW h k2
def uH (a0:Rp) (x1:Int):Option (Int ⊕ (Unit ⊕ Bool)):=
 bif decide (x1<(a0.maps.length:Int)) then
 ((cP a0.maps x1).bind λv7=>
 (pQ a0.p v7).bind λv8=>
 bif !v8 then
 (some (.inr (.inr (false))))
 else
 ((cP a0.q.src x1).bind λv10=>
 (cP a0.dims v10).bind λv11=>
 bif !decide (v7.cols=v11) then
 (some (.inr (.inr (false))))
 else
 ((cP a0.q.tgt x1).bind λv13=>
 (cP a0.dims v13).bind λv14=>
 bif !decide (v7.rows=v14) then
 (some (.inr (.inr (false))))
 else
 (some (.inl (wr (x1+1)))))))
 else
 (some (.inr (.inl ())))
def fS (a0:Rp):Option Bool:=
 (kC a0.p).bind λv1=>
 bif !v1 then
 (some (false))
 else
 ((vZ a0.q a0.dims).bind λv3=>
 bif !v3 then
 (some (false))
 else
 (bif !decide ((a0.maps.length:Int)=(a0.q.src.length:Int)) then
 (some (false))
 else
 ((Lp (uH a0) 0).bind λy16=>
 Sum.elim (λy17=>
 some (true)
 )
 (λy18=>
 some y18
 )
 y16)))
theorem iD (a0:Rp) (r:Bool) (h:fS a0=some r):HasC Tryz.prog 49 [.agg (eR a0)] (.bl r):=by
 refine hM [.tmp 2] Tryz.func49 Tryz.ntmps49 k<|sR<|ae (wb k) k<|aT k2<|sQ<|sR<|fp k8<|lp k8<|oB h λv1 hv1 h=>ae (aH (rL a0.p v1 hv1) k (bZ k aE)) k<|ae (dB k) k<|am k k<|oF h (λq2 h=>aO 9 k q2<|aK k4<|aK k4<|aK k4<|pk k3<|am k k<|aK k4<|aK k4<|aK k4<|aK k4<|pk k3<|an<|tn<|aL (t:=mN [(1,.ptr 0 0 0),(26,.bl true)] [(0,⟨6,[eR a0]⟩)] 1) (bO (bG k2) (bH k<|aX) k4)<|dX k k<|sR<|aT k2<|aD<|aJ<|gW h k2) λq2 h=>?_;refine aO 9 k q2<|fp k8<|lp k8<|fp k8<|lp k8<|oB h λv3 hv3 h=>ae (aH (aHb a0.q a0.dims v3 hv3) k (aG (eG k) (bZ k aE))) k<|ae (dB k) k<|pk k3<|am k k<|oF h (λq4 h=>aO 17 k q4<|aK k4<|aK k4<|aK k4<|aK k4<|pk k3<|an<|tn<|aL (t:=mN [(1,.ptr 0 0 0),(26,.bl true)] [(0,⟨6,[eR a0]⟩)] 1) (bO (bG k2) (bH k<|aX) k4)<|dX k k<|sR<|aT k2<|aD<|aJ<|gW h k2) λq4 h=>?_;refine aO 17 k q4<|fp k8<|lp k8<|ln k4<|fp k8<|fp k8<|lp k8<|ln k4<|cm k4<|pk k3<|an<|tn<|aL (t:=mN [(1,.ptr 0 0 0),(26,.bl (!decide ((a0.maps.length:Int)=(a0.q.src.length:Int))))] [(0,⟨6,[eR a0]⟩)] 1) (bO (bG k2) (bH k<|aX) k4)<|cV k h (λ_ h=>sR<|aT k2<|aD<|aJ<|gW h k2) λ_ h=>?_;refine aI<|tn<|sQ<|sR<|fp k8<|lp k8<|ln k4<|am k k<|an<|tn<|aC<|oB h λy16 hy16 h=>bU (body:=(uH a0)) hy16 (λ(x1:Int)=>mN [(1,.ptr 0 0 0),(28,.list 3 (a0.maps.map eM)),(29,.int (a0.maps.length:Int)),(30,.int x1)] [(0,⟨6,[eR a0]⟩)] 1) (λr e t=>Sum.elim (λa=>(λr e t=>e= .exit 0∧Ent t (mN [] [] 0)) a e t) (λb=>(λr e t=>e= .ret∧vJ TT [.tmp 2] (.bl r) .ret t) b e t) r) (bO (bG k2) (bH k<|aX) k4) ?_ ?_
 ·intro x1 o h;refine sR<|cm k4<|an<|tn<|sQ<|cV k h (λ_ h=>?_) λ_ h=>aW<|aB<|aB<|sp h ⟨_,k,k,(bO aX aX k4)⟩;refine aI<|tn<|sQ<|aC<|sR<|am k k<|oB h λv7 hv7 h=>ae (xl hv7 k) k<|lr k7<|ae (bX aP k k) k<|aa k k<|ae (ws k) k<|an<|tn<|sQ<|aQ fA<|fp k8<|lp k8<|lp k8<|oB h λv8 hv8 h=>ae (aH (aCE a0.p v7 v8 hv8) k (bZ k (aG (eG k) aE))) k<|ae (dB k) k<|am k k<|oF h (λq9 h=>?_) λq9 h=>?_
  ·refine aO 40 k q9<|aK k4<|aK k4<|aK k4<|aK k4<|aK k4<|aK k4<|ak k k<|pk k3<|am k k<|aK k4<|aK k4<|aK k4<|aK k4<|aK k4<|aK k4<|ak k k<|pk k3 ?_;exact an<|oA (by kernel_rfl)<|tn<|aL (t:=mN [(1,.ptr 0 0 0),(28,.list 3 (a0.maps.map eM)),(29,.int (a0.maps.length:Int)),(30,.int x1),(69,.bl true)] [(0,⟨6,[eR a0]⟩)] 2) (bO (bG k2) (bH k<|aX) k4)<|dX k k<|sR<|aT k2<|aD<|bL<|aJ<|aJ<|sp h ⟨_,k,k,aZ k k k (oD k)⟩
  ·exact aO 40 k q9<|fp k8<|lp k8<|fp k8<|lp k8<|fp k8<|fp k8<|lp k8<|am k k<|oB h λv10 hv10 h=>ae (xl hv10 k) k<|lr k7<|oB h λv11 hv11 h=>ae (xl hv11 k) k<|lr k7<|cm k4<|pk k3<|am k k<|oF h (λq12 h=>aO 55 k q12<|aK k4<|aK k4<|aK k4<|aK k4<|aK k4<|aK k4<|ak k k<|pk k3<|an<|oA (by kernel_rfl)<|tn<|aL (t:=mN [(1,.ptr 0 0 0),(28,.list 3 (a0.maps.map eM)),(29,.int (a0.maps.length:Int)),(30,.int x1),(69,.bl true)] [(0,⟨6,[eR a0]⟩)] 2) (bO (bG k2) (bH k<|aX) k4)<|dX k k<|sR<|aT k2<|aD<|bL<|aJ<|aJ<|sp h ⟨_,k,k,aZ k k k (oD k)⟩) λq12 h=>aO 55 k q12<|fp k8<|lp k8<|fp k8<|lp k8<|fp k8<|fp k8<|lp k8<|am k k<|oB h λv13 hv13 h=>ae (xl hv13 k) k<|lr k7<|oB h λv14 hv14 h=>ae (xl hv14 k) k<|lr k7<|cm k4<|pk k3<|an<|oA (by kernel_rfl)<|tn<|aL (t:=mN [(1,.ptr 0 0 0),(28,.list 3 (a0.maps.map eM)),(29,.int (a0.maps.length:Int)),(30,.int x1),(69,.bl (!decide (v7.rows=v14)))] [(0,⟨6,[eR a0]⟩)] 2) (bO (bG k2) (bH k<|aX) k4)<|cV k h (λ_ h=>sR<|aT k2<|aD<|bL<|aJ<|aJ<|sp h ⟨_,k,k,aZ k k k (oD k)⟩) λ_ h=>aI<|aY<|tn<|rg<|ae (bB k k) k<|am k k<|an<|tn<|sp h ⟨_,k,(bO (bG k2) (bH k<|aX) k4)⟩
 ·intro e t hX;rcases y16 with y17|y18
  ·obtain ⟨rfl,hent⟩:=hX;exact aM<|tn<|aL hent<|sR<|aT k2<|aD<|gW h k2
  ·obtain ⟨rfl,hent⟩:=hX;exact bL<|aJ<|sp h hent
def jC (a0:Mt):Option Mt:=
 (xQ a0.cells).bind λv1=>
 some ((⟨a0.rows,a0.cols,v1⟩:Mt))
theorem yU (a0:Mt) (r:Mt) (h:jC a0=some r):HasC Tryz.prog 191 [.agg (eM a0)] (.agg (eM r)):=by
 exact hM [.cell 2 96] Tryz.func191 Tryz.ntmps191 k<|sR<|ae (wb k) k<|ae (bX aP k k) k<|an<|tn<|sR<|fp k8<|lp k8<|oB h λv1 hv1 h=>ae (cL dT (aGf a0.cells v1 hv1) k3 (bZ k aE)) k<|fp k8<|ae (ws k) k<|an<|tn<|sR<|lp k8<|ae (ws k) k<|an<|tn<|aD<|sp h (aZ k k k (jH (bD (k) (bD (k) (bD (eH dT k k) eV)))))
def uI (a0:Int) (a2:Mt) (v1:Mt) (v3:(List Int)) (x1:((List Int)×Int)) (x2:((List Int)×Int)):Option (((List Int)×Int) ⊕ (List Int)):=
 bif decide (x2.2<(v3.length:Int)) then
 ((cP v3 x2.2).bind λv5=>
 (dL (⟨v1.rows,v1.cols,x2.1⟩:Mt) x1.2).bind λv6=>
 (aEt a2 x2.2).bind λv7=>
 (gE a0 x2.1 (0+(wr (x1.2*v1.cols)).toNat) ((wr ((wr (x1.2+1))*v1.cols)).toNat - (wr (x1.2*v1.cols)).toNat) v5 v7).bind λv8=>
 bif decide (v8.length=x2.1.length) then
 (some (.inl (v8,wr (x2.2+1))))
 else none)
 else
 (some (.inr x2.1))
def uJ (a0:Int) (a1:Mt) (a2:Mt) (v1:Mt) (x1:((List Int)×Int)):Option (((List Int)×Int) ⊕ (List Int)):=
 bif decide (x1.2<a1.rows) then
 ((aEt a1 x1.2).bind λv3=>
 (Lp (uI a0 a2 v1 v3 x1) (x1.1,0)).bind λy10=>
 some (.inl (y10,wr (x1.2+1))))
 else
 (some (.inr x1.1))
def rX (a0:Int) (a1:Mt) (a2:Mt):Option Mt:=
 (oG a1.rows a2.cols).bind λv1=>
 (Lp (uJ a0 a1 a2 v1) (v1.cells,0)).bind λy11=>
 some ((⟨v1.rows,v1.cols,y11⟩:Mt))
theorem aBm (a0:Int) (a1:Mt) (a2:Mt) (r:Mt) (h:rX a0 a1 a2=some r):HasC Tryz.prog 233 [.int a0,.agg (eM a1),.agg (eM a2)] (.agg (eM r)):=by
 refine hM [.cell 6 96] Tryz.func233 Tryz.ntmps233 k<|sR<|ae (wb k) k<|ae (wb k) k<|ae (bX aP k k) k<|an<|tn<|sR<|fp k8<|lp k8<|fp k8<|lp k8<|oB h λv1 hv1 h=>ae (cM (yG a1.rows a2.cols v1 hv1) k3 (bZ k (bZ k aE))) k<|ae (bX aP k k) k<|ae (ws k) k<|an<|tn<|sQ<|sR<|fp k8<|lp k8<|am k k<|an<|tn<|aC<|oB h λy11 hy11 h=>bU (body:=(uJ a0 a1 a2 v1)) hy11 (λ(x1:((List Int)×Int))=>mN [(0,.int a0),(4,.ptr 0 0 0),(5,.ptr 1 0 0),(6,.ptr 2 0 0),(7,.ptr 3 0 0),(17,.int a1.rows),(18,.int x1.2)] [(0,⟨3,[eM a1]⟩),(1,⟨3,[eM a2]⟩),(2,⟨3,[fN]⟩),(3,⟨3,[[.int v1.rows,.int v1.cols,.own 4 0 x1.1.length]]⟩),(4,⟨1,x1.1.map (ow eI)⟩)] 5) (λr e t=>e= .exit 0∧Ent t (mN [(6,.ptr 0 0 0),(7,.ptr 1 0 0)] [(0,⟨3,[fN]⟩),(1,⟨3,[[.int v1.rows,.int v1.cols,.own 2 0 r.length]]⟩),(2,⟨1,r.map (ow eI)⟩)] 3)) (jI [0,1,2,4,3] (bG k2) (bH k<|bH k<|bH k<|gX k<|cB k<|aX) k4) ?_ ?_
 ·intro x1 o h;refine sR<|cm k4<|an<|tn<|sQ<|cV k h (λ_ h=>?_) λ_ h=>aW<|aB<|aB<|sp h ⟨_,k,k,(jI [2,3,4] (bG k2) (bH k<|gX k<|cB k<|aX) k4)⟩;refine aI<|tn<|sQ<|aC<|sR<|am k k<|aT k2<|sR<|lp k8<|am k k<|oB h λv3 hv3 h=>ae (aHX (aNk a1 x1.2 v3 hv3) k k k) k<|ln k4<|am k k<|an<|tn<|aC<|oB h λy10 hy10 h=>bU (body:=(uI a0 a2 v1 v3 x1)) hy10 (λ(x2:((List Int)×Int))=>mN [(0,.int a0),(4,.ptr 0 0 0),(5,.ptr 1 0 0),(6,.ptr 2 0 0),(7,.ptr 3 0 0),(8,.int x1.2),(17,.int a1.rows),(18,.int x1.2),(23,.list 1 (v3.map eI)),(24,.int (v3.length:Int)),(25,.int x2.2)] [(0,⟨3,[eM a1]⟩),(1,⟨3,[eM a2]⟩),(2,⟨3,[fN]⟩),(3,⟨3,[[.int v1.rows,.int v1.cols,.own 4 0 x2.1.length]]⟩),(4,⟨1,x2.1.map (ow eI)⟩)] 5) (λr e t=>e= .exit 2∧Ent t (mN [(0,.int a0),(4,.ptr 0 0 0),(5,.ptr 1 0 0),(6,.ptr 2 0 0),(7,.ptr 3 0 0),(17,.int a1.rows),(18,.int x1.2)] [(0,⟨3,[eM a1]⟩),(1,⟨3,[eM a2]⟩),(2,⟨3,[fN]⟩),(3,⟨3,[[.int v1.rows,.int v1.cols,.own 4 0 r.length]]⟩),(4,⟨1,r.map (ow eI)⟩)] 5)) (bO (bG k2) (bH k<|bH k<|bH k<|gX k<|cB k<|aX) k4) ?_ ?_
  ·intro x2 o h;refine sR<|cm k4<|an<|tn<|sQ<|cV k h (λ_ h=>?_) λ_ h=>aW<|aB<|aB<|sp h ⟨_,k,k,(bO (bG k2) (bH k<|bH k<|bH k<|gX k<|cB k<|aX) k4)⟩;refine aI<|tn<|sQ<|aC<|sR<|am k k<|oB h λv5 hv5 h=>ae (xl hv5 k) k<|lr k7<|aa k k<|aT k2<|aQ fA<|am k k<|lp k8<|am k k<|oB h λv6 hv6 h=>ae (AEff.pureE (nN (σ:=sg [(0,4)]) (σ':=sg [(4,0)]) (touch:=[4]) (news:=[]) (hl2:=[(4,⟨1,x2.1.map (ow eI)⟩)]) (n':=5) (r2:= .own 4 (0+(wr (x1.2*v1.cols)).toNat) ((wr ((wr (x1.2+1))*v1.cols)).toNat - (wr (x1.2*v1.cols)).toNat)) (fG (⟨v1.rows,v1.cols,x2.1⟩:Mt) x1.2 v6 hv6) k k ⟨_,_,k,⟨_,_,k,k,⟨_,_,k,k,⟨_,_,k,⟨k,k,k,k⟩,k⟩⟩⟩,⟨_,_,k,k,k⟩⟩ ⟨⟨_,k,k,.inl ⟨k,dT.plainO _⟩⟩,k,aX⟩ k k k ⟨⟨_,k,k,.inl ⟨k,dT.plainO _⟩⟩,k,aX⟩ k ⟨k,k,(by simp only [aR,lA,lT,lR,lC,lN]),k⟩ k ⟨k,dT.tame _ _,aX⟩ k k) ⟨k,k,aX⟩) k<|am k k<|lp k8<|am k k<|oB h λv7 hv7 h=>ae (aHX (aNk a2 x2.2 v7 hv7) k k k) k<|oB h λv8 hv8 h=>ae (nN (σ:=sg [(0,4)]) (σ':=sg [(4,0)]) (touch:=[4]) (news:=[]) (hl2:=[(4,⟨1,v8.map (ow eI)⟩)]) (n':=5) (r2:= .own 4 (0+(wr (x1.2*v1.cols)).toNat) ((wr ((wr (x1.2+1))*v1.cols)).toNat - (wr (x1.2*v1.cols)).toNat)) (vK a0 x2.1 (0+(wr (x1.2*v1.cols)).toNat) ((wr ((wr (x1.2+1))*v1.cols)).toNat - (wr (x1.2*v1.cols)).toNat) v5 v7 v8 hv8) k k ⟨_,_,k,k,⟨_,_,k,⟨k,k,k,k⟩,⟨_,_,k,k,⟨_,_,k,⟨k,k⟩,k⟩⟩⟩⟩ ⟨⟨_,k,k,.inl ⟨k,dT.plainO _⟩⟩,k,aX⟩ k k k ⟨⟨_,k,k,.inl ⟨k,dT.plainO _⟩⟩,k,aX⟩ k ⟨k,k,(by simp only [aR,lA,lT,lR,lC,lN]),k⟩ k ⟨k,dT.tame _ _,aX⟩ k k) k<|cG h λq9 h=>an<|oA (by kernel_rfl)<|aY<|tn<|rg<|ae (bB k k) k ?_;exact am k k<|an<|tn<|sp h ⟨_,k,(bO (bG k2) (bH k<|bH k<|bH k<|hX ⟨_,k,k,.inr ⟨_,_,k,⟨_,_,k,k,⟨_,_,k,k,⟨_,_,k,⟨k,k,(by simp only [aR,lA,lT,lR,lC,lN,of_decide_eq_true q9]),k⟩,k⟩⟩⟩,k⟩⟩ k<|cB k<|aX) k4)⟩
  ·rintro e t ⟨rfl,hent⟩;exact aM<|aY<|tn<|aL hent<|rg<|ae (bB k k) k<|am k k<|an<|tn<|sp h ⟨_,k,(bO (bG k2) (bH k<|bH k<|bH k<|gX k<|cB k<|aX) k4)⟩
 ·rintro e t ⟨rfl,hent⟩;exact aM<|tn<|aL hent<|sR<|lp k8<|ae (ws k) k<|an<|tn<|aD<|sp h (aZ k k k (jH (bD (k) (bD (k) (bD (eH dT k k) eV)))))
def nR (v1:Mt) (x1:(Int×(List Int)×(List Int))) (x2:Int):Option (Int ⊕ Int):=
 bif decide (x2<v1.rows) then
 ((dL (⟨v1.rows,v1.cols,x1.2.1⟩:Mt) x2).bind λv4=>
 bif (decide (0≤x1.1)&&decide (x1.1<((((wr ((wr (x2+1))*v1.cols)).toNat - (wr (x2*v1.cols)).toNat):Nat):Int))) then
 ((x1.2.1[((0+(wr (x2*v1.cols)).toNat)+x1.1.toNat)]?).bind λv5=>
 bif decide (v5=0) then
 (some (.inl (wr (x2+1))))
 else
 (some (.inr x2))
 )
 else none)
 else
 (some (.inr x2))
def rY (v1:Mt) (x1:(Int×(List Int)×(List Int))) (y8:Int) (x3:((List Int)×Int)):Option (((List Int)×Int) ⊕ (List Int)):=
 bif decide (x3.2<v1.cols) then
 ((dL (⟨v1.rows,v1.cols,x3.1⟩:Mt) y8).bind λv12=>
 (dL (⟨v1.rows,v1.cols,x3.1⟩:Mt) y8).bind λv13=>
 bif (decide (0≤x3.2)&&decide (x3.2<((((wr ((wr (y8+1))*v1.cols)).toNat - (wr (y8*v1.cols)).toNat):Nat):Int))) then
 ((x3.1[((0+(wr (y8*v1.cols)).toNat)+x3.2.toNat)]?).bind λv14=>
 bif (decide (0≤x3.2)&&decide (x3.2<((((wr ((wr (((x1.2.2.length:Nat):Int)+1))*v1.cols)).toNat - (wr (((x1.2.2.length:Nat):Int)*v1.cols)).toNat):Nat):Int))) then
 ((x3.1[((0+(wr (((x1.2.2.length:Nat):Int)*v1.cols)).toNat)+x3.2.toNat)]?).bind λv16=>
 bif (decide (0≤x3.2)&&decide (x3.2<((((wr ((wr (((x1.2.2.length:Nat):Int)+1))*v1.cols)).toNat - (wr (((x1.2.2.length:Nat):Int)*v1.cols)).toNat):Nat):Int))) then
 ((x3.1[((0+(wr (((x1.2.2.length:Nat):Int)*v1.cols)).toNat)+x3.2.toNat)]?).bind λv18=>
 bif (decide (0≤x3.2)&&decide (x3.2<((((wr ((wr (y8+1))*v1.cols)).toNat - (wr (y8*v1.cols)).toNat):Nat):Int))) then
 (((x3.1.set ((0+(wr (((x1.2.2.length:Nat):Int)*v1.cols)).toNat)+x3.2.toNat) v14)[((0+(wr (y8*v1.cols)).toNat)+x3.2.toNat)]?).bind λv20=>
 some (.inl (((x3.1.set ((0+(wr (((x1.2.2.length:Nat):Int)*v1.cols)).toNat)+x3.2.toNat) v14).set ((0+(wr (y8*v1.cols)).toNat)+x3.2.toNat) v16),wr (x3.2+1)))
 )
 else none
 )
 else none
 )
 else none
 )
 else none)
 else
 (some (.inr x3.1))
def rZ (a0:Int) (v1:Mt) (v25:Int) (x1:(Int×(List Int)×(List Int))) (x4:((List Int)×Int)):Option (((List Int)×Int) ⊕ (List Int)):=
 bif decide (x4.2<((((wr ((wr (((x1.2.2.length:Nat):Int)+1))*v1.cols)).toNat - (wr (((x1.2.2.length:Nat):Int)*v1.cols)).toNat):Nat):Int)) then
 (bif (decide (0≤x4.2)&&decide (x4.2<((((wr ((wr (((x1.2.2.length:Nat):Int)+1))*v1.cols)).toNat - (wr (((x1.2.2.length:Nat):Int)*v1.cols)).toNat):Nat):Int))) then
 ((x4.1[((0+(wr (((x1.2.2.length:Nat):Int)*v1.cols)).toNat)+x4.2.toNat)]?).bind λv27=>
 bif !decide (a0=0) then
 (bif (decide (0≤x4.2)&&decide (x4.2<((((wr ((wr (((x1.2.2.length:Nat):Int)+1))*v1.cols)).toNat - (wr (((x1.2.2.length:Nat):Int)*v1.cols)).toNat):Nat):Int))) then
 ((x4.1[((0+(wr (((x1.2.2.length:Nat):Int)*v1.cols)).toNat)+x4.2.toNat)]?).bind λv29=>
 some (.inl ((x4.1.set ((0+(wr (((x1.2.2.length:Nat):Int)*v1.cols)).toNat)+x4.2.toNat) ((wr (v27*v25)).tmod a0)),wr (x4.2+1)))
 )
 else none)
 else none
 )
 else none)
 else
 (some (.inr x4.1))
def sA (a0:Int) (v1:Mt) (x1:(Int×(List Int)×(List Int))) (x5:((List Int)×Int)):Option (((List Int)×Int) ⊕ (List Int)):=
 bif decide (x5.2<v1.rows) then
 (bif !decide (x5.2=((x1.2.2.length:Nat):Int)) then
 ((dL (⟨v1.rows,v1.cols,x5.1⟩:Mt) x5.2).bind λv35=>
 (dL (⟨v1.rows,v1.cols,x5.1⟩:Mt) x5.2).bind λv36=>
 bif (decide (0≤x1.1)&&decide (x1.1<((((wr ((wr (x5.2+1))*v1.cols)).toNat - (wr (x5.2*v1.cols)).toNat):Nat):Int))) then
 ((x5.1[((0+(wr (x5.2*v1.cols)).toNat)+x1.1.toNat)]?).bind λv37=>
 (iS a0 x5.1 (0+(wr (x5.2*v1.cols)).toNat) ((wr ((wr (x5.2+1))*v1.cols)).toNat - (wr (x5.2*v1.cols)).toNat) (wr (a0 - v37)) (0+(wr (((x1.2.2.length:Nat):Int)*v1.cols)).toNat) ((wr ((wr (((x1.2.2.length:Nat):Int)+1))*v1.cols)).toNat - (wr (((x1.2.2.length:Nat):Int)*v1.cols)).toNat)).bind λv39=>
 bif decide (v39.length=x5.1.length) then
 (some (.inl (v39,wr (x5.2+1))))
 else none
 )
 else none)
 else
 (some (.inl (x5.1,wr (x5.2+1)))))
 else
 (some (.inr x5.1))
def nS (a0:Int) (v1:Mt) (x1:(Int×(List Int)×(List Int))):Option ((Int×(List Int)×(List Int)) ⊕ ((List Int)×(List Int))):=
 bif decide (x1.1<v1.cols) then
 ((Lp (nR v1 x1) ((x1.2.2.length:Nat):Int)).bind λy8=>
 bif decide (y8=v1.rows) then
 (some (.inl (wr (x1.1+1),x1.2.1,x1.2.2)))
 else
 ((dL (⟨v1.rows,v1.cols,x1.2.1⟩:Mt) ((x1.2.2.length:Nat):Int)).bind λv10=>
 (Lp (rY v1 x1 y8) (x1.2.1,0)).bind λy22=>
 bif (decide (0≤x1.1)&&decide (x1.1<((((wr ((wr (((x1.2.2.length:Nat):Int)+1))*v1.cols)).toNat - (wr (((x1.2.2.length:Nat):Int)*v1.cols)).toNat):Nat):Int))) then
 ((y22[((0+(wr (((x1.2.2.length:Nat):Int)*v1.cols)).toNat)+x1.1.toNat)]?).bind λv23=>
 (qK a0 v23).bind λv25=>
 (Lp (rZ a0 v1 v25 x1) (y22,0)).bind λy32=>
 (Lp (sA a0 v1 x1) (y32,0)).bind λy41=>
 bif decide (x1.2.2.length+[x1.1].length ≤4294967296) then
 (some (.inl (wr (x1.1+1),y41,(x1.2.2++[x1.1]))))
 else none
 )
 else none))
 else
 (some (.inr (x1.2.1,x1.2.2)))
def pV (a0:Int) (a1:Mt):Option (Mt×(List Int)):=
 (jC a1).bind λv1=>
 (Lp (nS a0 v1) (0,v1.cells,[])).bind λy43=>
 some (((⟨v1.rows,v1.cols,y43.1⟩:Mt),y43.2))
theorem aAu (a0:Int) (a1:Mt) (r:(Mt×(List Int))) (h:pV a0 a1=some r):HasC Tryz.prog 155 [.int a0,.agg (eM a1)] (.tuple [.agg (eM r.1),.list 1 (r.2.map eI)]):=by
 refine hM [.cell 4 96,.tmp 5] Tryz.func155 Tryz.ntmps155 k<|sR<|ae (wb k) k<|ae (bX aP k k) k<|aT k2<|sR<|lp k8<|oB h λv1 hv1 h=>ae (cM (yU a1 v1 hv1) k3 (aG (eG k) aE)) k<|ae (ws k) k<|an<|tn<|sR<|aT k2<|sQ<|sR<|fp k8<|lp k8<|am k k<|an<|tn<|aC<|oB h λy43 hy43 h=>bU (body:=(nS a0 v1)) hy43 (λ(x1:(Int×(List Int)×(List Int)))=>mN [(0,.int a0),(3,.ptr 0 0 0),(4,.ptr 2 0 0),(6,.own 3 0 x1.2.2.length),(17,.int v1.cols),(18,.int x1.1)] [(0,⟨3,[[.int v1.rows,.int v1.cols,.own 1 0 x1.2.1.length]]⟩),(1,⟨1,x1.2.1.map (ow eI)⟩),(2,⟨3,[fN]⟩),(3,⟨1,x1.2.2.map (ow eI)⟩)] 4) (λr e t=>e= .exit 0∧Ent t (mN [(3,.ptr 0 0 0),(4,.ptr 2 0 0),(6,.own 3 0 r.2.length)] [(0,⟨3,[[.int v1.rows,.int v1.cols,.own 1 0 r.1.length]]⟩),(1,⟨1,r.1.map (ow eI)⟩),(2,⟨3,[fN]⟩),(3,⟨1,r.2.map (ow eI)⟩)] 4)) (hO (σ:=sg [(0,0),(1,2),(2,1)]) (kW 3 k2 (iC ⟨_,k,⟨k,k,k,k⟩⟩ (bG k2))) (gX k<|cB k<|bH k<|hX k k<|aX) k) ?_ ?_
 ·intro x1 o h;refine sR<|cm k4<|an<|tn<|sQ<|cV k h (λ_ h=>?_) λ_ h=>aW<|aB<|aB<|sp h ⟨_,k,k,(bO (bG k2) (gX k<|cB k<|bH k<|cB k<|aX) k4)⟩;refine aI<|tn<|sQ<|aC<|sR<|am k k<|aT k2<|sR<|am k k<|ae (dW aP k k k k) k<|aT k2<|sQ<|aC<|oB h λy8 hy8 h=>bU (body:=(nR v1 x1)) hy8 (λ(x2:Int)=>mN [(0,.int a0),(3,.ptr 0 0 0),(4,.ptr 2 0 0),(6,.own 3 0 x1.2.2.length),(7,.int x1.1),(8,.int x2),(17,.int v1.cols),(18,.int x1.1)] [(0,⟨3,[[.int v1.rows,.int v1.cols,.own 1 0 x1.2.1.length]]⟩),(1,⟨1,x1.2.1.map (ow eI)⟩),(2,⟨3,[fN]⟩),(3,⟨1,x1.2.2.map (ow eI)⟩)] 4) (λr e t=>e= .exit 2∧Ent t (mN [(0,.int a0),(3,.ptr 0 0 0),(4,.ptr 2 0 0),(6,.own 3 0 x1.2.2.length),(7,.int x1.1),(8,.int r),(17,.int v1.cols),(18,.int x1.1)] [(0,⟨3,[[.int v1.rows,.int v1.cols,.own 1 0 x1.2.1.length]]⟩),(1,⟨1,x1.2.1.map (ow eI)⟩),(2,⟨3,[fN]⟩),(3,⟨1,x1.2.2.map (ow eI)⟩)] 4)) (bO (bG k2) (gX k<|cB k<|bH k<|cB k<|aX) k4) ?_ ?_
  ·intro x2 o h;exact sQ<|sR<|am k k<|fp k8<|lp k8<|cm k4<|am k k<|oF h (λq3 h=>aO 27 k q3<|lp k8<|am k k<|oB h λv4 hv4 h=>ae (AEff.pureE (nN (σ:=sg [(0,1)]) (σ':=sg [(1,0)]) (touch:=[1]) (news:=[]) (hl2:=[(1,⟨1,x1.2.1.map (ow eI)⟩)]) (n':=4) (r2:= .own 1 (0+(wr (x2*v1.cols)).toNat) ((wr ((wr (x2+1))*v1.cols)).toNat - (wr (x2*v1.cols)).toNat)) (fG (⟨v1.rows,v1.cols,x1.2.1⟩:Mt) x2 v4 hv4) k k ⟨_,_,k,⟨_,_,k,k,⟨_,_,k,k,⟨_,_,k,⟨k,k,k,k⟩,k⟩⟩⟩,⟨_,_,k,k,k⟩⟩ ⟨⟨_,k,k,.inl ⟨k,dT.plainO _⟩⟩,k,aX⟩ k k k ⟨⟨_,k,k,.inl ⟨k,dT.plainO _⟩⟩,k,aX⟩ k ⟨k,k,(by simp only [aR,lA,lT,lR,lC,lN]),k⟩ k ⟨k,dT.tame _ _,aX⟩ k k) ⟨k,k,aX⟩) k<|am k k<|cG h λq6 h=>oB h λv5 hv5 h=>ae (hU aP q6 k k k k k k k) k<|ae (fD aP k k k k (qD (hv5)) k k) k<|cm k4<|pk k3<|an<|tn<|cV k h (λ_ h=>aI<|tn<|aC<|rg<|am k k<|ae (bB k k) k<|aa k k<|an<|aY<|tn<|sp h ⟨_,k,(bO (bG k2) (gX k<|cB k<|bH k<|cB k<|aX) k4)⟩) λ_ h=>aW<|aB<|aB<|sp h ⟨_,k,k,(bO (bG k2) (gX k<|cB k<|bH k<|cB k<|aX) k4)⟩) λq3 h=>aO 27 k q3<|aK k4<|aK k4<|aK k4<|ak k k<|pk k3<|an<|tn<|lK k k<|aW<|aB<|aB<|sp h ⟨_,k,k,(bO (bG k2) (gX k<|cB k<|bH k<|cB k<|aX) k4)⟩
  ·rintro e t ⟨rfl,hent⟩;refine aM<|tn<|aL hent<|sQ<|sR<|am k k<|fp k8<|lp k8<|cm k4<|an<|tn<|cV k h (λ_ h=>aW<|aB<|aM<|tn<|rg<|ae (bB k k) k<|am k k<|an<|tn<|sp h ⟨_,k,(bO (bG k2) (gX k<|cB k<|bH k<|cB k<|aX) k4)⟩) λ_ h=>?_;refine aI<|tn<|sR<|lp k8<|am k k<|ae (dW aP k k k k) k<|oB h λv10 hv10 h=>ae (AEff.pureE (nN (σ:=sg [(0,1)]) (σ':=sg [(1,0)]) (touch:=[1]) (news:=[]) (hl2:=[(1,⟨1,x1.2.1.map (ow eI)⟩)]) (n':=4) (r2:= .own 1 (0+(wr (((x1.2.2.length:Nat):Int)*v1.cols)).toNat) ((wr ((wr (((x1.2.2.length:Nat):Int)+1))*v1.cols)).toNat - (wr (((x1.2.2.length:Nat):Int)*v1.cols)).toNat)) (fG (⟨v1.rows,v1.cols,x1.2.1⟩:Mt) ((x1.2.2.length:Nat):Int) v10 hv10) k k ⟨_,_,k,⟨_,_,k,k,⟨_,_,k,k,⟨_,_,k,⟨k,k,k,k⟩,k⟩⟩⟩,⟨_,_,k,k,k⟩⟩ ⟨⟨_,k,k,.inl ⟨k,dT.plainO _⟩⟩,k,aX⟩ k k k ⟨⟨_,k,k,.inl ⟨k,dT.plainO _⟩⟩,k,aX⟩ k ⟨k,k,(by simp only [aR,lA,lT,lR,lC,lN]),k⟩ k ⟨k,dT.tame _ _,aX⟩ k k) ⟨k,k,aX⟩) k<|aT k2<|sQ<|sR<|fp k8<|lp k8<|am k k<|an<|tn<|aC<|oB h λy22 hy22 h=>bU (body:=(rY v1 x1 y8)) hy22 (λ(x3:((List Int)×Int))=>mN [(0,.int a0),(3,.ptr 0 0 0),(4,.ptr 2 0 0),(6,.own 3 0 x1.2.2.length),(7,.int x1.1),(8,.int y8),(9,.own 1 (0+(wr (((x1.2.2.length:Nat):Int)*v1.cols)).toNat) ((wr ((wr (((x1.2.2.length:Nat):Int)+1))*v1.cols)).toNat - (wr (((x1.2.2.length:Nat):Int)*v1.cols)).toNat)),(17,.int v1.cols),(18,.int x1.1),(47,.int v1.cols),(48,.int x3.2)] [(0,⟨3,[[.int v1.rows,.int v1.cols,.own 1 0 x3.1.length]]⟩),(1,⟨1,x3.1.map (ow eI)⟩),(2,⟨3,[fN]⟩),(3,⟨1,x1.2.2.map (ow eI)⟩)] 4) (λr e t=>e= .exit 4∧Ent t (mN [(0,.int a0),(3,.ptr 0 0 0),(4,.ptr 2 0 0),(6,.own 3 0 x1.2.2.length),(7,.int x1.1),(9,.own 1 (0+(wr (((x1.2.2.length:Nat):Int)*v1.cols)).toNat) ((wr ((wr (((x1.2.2.length:Nat):Int)+1))*v1.cols)).toNat - (wr (((x1.2.2.length:Nat):Int)*v1.cols)).toNat)),(17,.int v1.cols),(18,.int x1.1)] [(0,⟨3,[[.int v1.rows,.int v1.cols,.own 1 0 r.length]]⟩),(1,⟨1,r.map (ow eI)⟩),(2,⟨3,[fN]⟩),(3,⟨1,x1.2.2.map (ow eI)⟩)] 4)) (bO (bG k2) (gX k<|cB k<|bH k<|cB k<|aX) k4) ?_ ?_
   ·intro x3 o h;refine sR<|cm k4<|an<|tn<|sQ<|cV k h (λ_ h=>?_) λ_ h=>aW<|aB<|aB<|sp h ⟨_,k,k,(bO (bG k2) (gX k<|cB k<|bH k<|cB k<|aX) k4)⟩;refine aI<|tn<|sQ<|aC<|sR<|am k k<|aT k2<|aQ fA<|am k k<|am k k<|lp k8<|am k k<|oB h λv12 hv12 h=>ae (AEff.pureE (nN (σ:=sg [(0,1)]) (σ':=sg [(1,0)]) (touch:=[1]) (news:=[]) (hl2:=[(1,⟨1,x3.1.map (ow eI)⟩)]) (n':=4) (r2:= .own 1 (0+(wr (y8*v1.cols)).toNat) ((wr ((wr (y8+1))*v1.cols)).toNat - (wr (y8*v1.cols)).toNat)) (fG (⟨v1.rows,v1.cols,x3.1⟩:Mt) y8 v12 hv12) k k ⟨_,_,k,⟨_,_,k,k,⟨_,_,k,k,⟨_,_,k,⟨k,k,k,k⟩,k⟩⟩⟩,⟨_,_,k,k,k⟩⟩ ⟨⟨_,k,k,.inl ⟨k,dT.plainO _⟩⟩,k,aX⟩ k k k ⟨⟨_,k,k,.inl ⟨k,dT.plainO _⟩⟩,k,aX⟩ k ⟨k,k,(by simp only [aR,lA,lT,lR,lC,lN]),k⟩ k ⟨k,dT.tame _ _,aX⟩ k k) ⟨k,k,aX⟩) k<|am k k<|lp k8<|am k k<|oB h λv13 hv13 h=>ae (AEff.pureE (nN (σ:=sg [(0,1)]) (σ':=sg [(1,0)]) (touch:=[1]) (news:=[]) (hl2:=[(1,⟨1,x3.1.map (ow eI)⟩)]) (n':=4) (r2:= .own 1 (0+(wr (y8*v1.cols)).toNat) ((wr ((wr (y8+1))*v1.cols)).toNat - (wr (y8*v1.cols)).toNat)) (fG (⟨v1.rows,v1.cols,x3.1⟩:Mt) y8 v13 hv13) k k ⟨_,_,k,⟨_,_,k,k,⟨_,_,k,k,⟨_,_,k,⟨k,k,k,k⟩,k⟩⟩⟩,⟨_,_,k,k,k⟩⟩ ⟨⟨_,k,k,.inl ⟨k,dT.plainO _⟩⟩,k,aX⟩ k k k ⟨⟨_,k,k,.inl ⟨k,dT.plainO _⟩⟩,k,aX⟩ k ⟨k,k,(by simp only [aR,lA,lT,lR,lC,lN]),k⟩ k ⟨k,dT.tame _ _,aX⟩ k k) ⟨k,k,aX⟩) k<|am k k<|cG h λq15 h=>oB h λv14 hv14 h=>ae (hU aP q15 k k k k k k k) k<|ae (fD aP k k k k (qD (hv14)) k k) k<|am k k<|am k k<|cG h λq17 h=>oB h λv16 hv16 h=>ae (hU aP q17 k k k k k k k) k<|ae (fD aP k k k k (qD (hv16)) k k) k<|cG h λq19 h=>oB h λv18 hv18 h=>ae (hU aP q19 k k k k k k k) k<|ae (fK aP kX (u:=v14) (hv18) k k k k k k) k ?_;exact cG h λq21 h=>oB h λv20 hv20 h=>ae (hU aP q21 k k k k k k k) k<|ae (fK aP kX (u:=v16) (hv20) k k k k k k) k<|an<|oA (by kernel_rfl)<|aY<|tn<|rg<|ae (bB k k) k<|am k k<|an<|tn<|sp h ⟨_,k,(bO (bG k2) (hX ⟨_,k,k,.inr ⟨_,_,k,⟨_,_,k,k,⟨_,_,k,k,⟨_,_,k,⟨k,k,(by simp only [aR,lA,lT,lR,lC,lN]),k⟩,k⟩⟩⟩,k⟩⟩ k<|cB k<|bH k<|cB k<|aX) k4)⟩
   ·rintro e t ⟨rfl,hent⟩;refine aM<|tn<|aL hent<|sR<|am k k<|am k k<|am k k<|cG h λq24 h=>oB h λv23 hv23 h=>ae (hU aP q24 k k k k k k k) k<|ae (fD aP k k k k (qD (hv23)) k k) k<|oB h λv25 hv25 h=>ae (aH (aEK a0 v23 v25 hv25) k (bZ k (bZ k aE))) k<|aT k2<|sQ<|sR<|am k k<|ae (dW aP k k k k) k<|am k k<|an<|tn<|aC<|oB h λy32 hy32 h=>bU (body:=(rZ a0 v1 v25 x1)) hy32 (λ(x4:((List Int)×Int))=>mN [(0,.int a0),(3,.ptr 0 0 0),(4,.ptr 2 0 0),(6,.own 3 0 x1.2.2.length),(7,.int x1.1),(9,.own 1 (0+(wr (((x1.2.2.length:Nat):Int)*v1.cols)).toNat) ((wr ((wr (((x1.2.2.length:Nat):Int)+1))*v1.cols)).toNat - (wr (((x1.2.2.length:Nat):Int)*v1.cols)).toNat)),(11,.int v25),(17,.int v1.cols),(18,.int x1.1),(77,.int ((((wr ((wr (((x1.2.2.length:Nat):Int)+1))*v1.cols)).toNat - (wr (((x1.2.2.length:Nat):Int)*v1.cols)).toNat):Nat):Int)),(78,.int x4.2)] [(0,⟨3,[[.int v1.rows,.int v1.cols,.own 1 0 x4.1.length]]⟩),(1,⟨1,x4.1.map (ow eI)⟩),(2,⟨3,[fN]⟩),(3,⟨1,x1.2.2.map (ow eI)⟩)] 4) (λr e t=>e= .exit 6∧Ent t (mN [(0,.int a0),(3,.ptr 0 0 0),(4,.ptr 2 0 0),(6,.own 3 0 x1.2.2.length),(7,.int x1.1),(9,.own 1 (0+(wr (((x1.2.2.length:Nat):Int)*v1.cols)).toNat) ((wr ((wr (((x1.2.2.length:Nat):Int)+1))*v1.cols)).toNat - (wr (((x1.2.2.length:Nat):Int)*v1.cols)).toNat)),(17,.int v1.cols),(18,.int x1.1)] [(0,⟨3,[[.int v1.rows,.int v1.cols,.own 1 0 r.length]]⟩),(1,⟨1,r.map (ow eI)⟩),(2,⟨3,[fN]⟩),(3,⟨1,x1.2.2.map (ow eI)⟩)] 4)) (bO (bG k2) (gX k<|cB k<|bH k<|cB k<|aX) k4) ?_ ?_
    ·intro x4 o h;refine sR<|cm k4<|an<|tn<|sQ<|cV k h (λ_ h=>?_) λ_ h=>aW<|aB<|aB<|sp h ⟨_,k,k,(bO (bG k2) (gX k<|cB k<|bH k<|cB k<|aX) k4)⟩;refine aI<|tn<|sQ<|aC<|sR<|am k k<|aT k2<|rg<|am k k<|am k k<|am k k<|am k k<|cG h λq28 h=>oB h λv27 hv27 h=>ae (hU aP q28 k k k k k k k) k<|ae (fD aP k k k k (qD (hv27)) k k) k<|am k k<|ae (eX k k) k<|am k k<|cG h λq31 h=>ae (aCD k k q31) k<|cG h λq30 h=>oB h λv29 hv29 h=>ae (hU aP q30 k k k k k k k) k<|ae (fK aP kX (u:=(wr (v27*v25)).tmod a0) (hv29) k k k k k k) k<|an<|aY<|tn<|rg<|ae (bB k k) k<|am k k ?_;exact an<|tn<|sp h ⟨_,k,(bO (bG k2) (hX ⟨_,k,k,.inr ⟨_,_,k,⟨_,_,k,k,⟨_,_,k,k,⟨_,_,k,⟨k,k,(by simp only [aR,lA,lT,lR,lC,lN]),k⟩,k⟩⟩⟩,k⟩⟩ k<|cB k<|bH k<|cB k<|aX) k4)⟩
    ·rintro e t ⟨rfl,hent⟩;refine aM<|tn<|aL hent<|sQ<|sR<|fp k8<|lp k8<|am k k<|an<|tn<|aC<|oB h λy41 hy41 h=>bU (body:=(sA a0 v1 x1)) hy41 (λ(x5:((List Int)×Int))=>mN [(0,.int a0),(3,.ptr 0 0 0),(4,.ptr 2 0 0),(6,.own 3 0 x1.2.2.length),(7,.int x1.1),(9,.own 1 (0+(wr (((x1.2.2.length:Nat):Int)*v1.cols)).toNat) ((wr ((wr (((x1.2.2.length:Nat):Int)+1))*v1.cols)).toNat - (wr (((x1.2.2.length:Nat):Int)*v1.cols)).toNat)),(17,.int v1.cols),(18,.int x1.1),(94,.int v1.rows),(95,.int x5.2)] [(0,⟨3,[[.int v1.rows,.int v1.cols,.own 1 0 x5.1.length]]⟩),(1,⟨1,x5.1.map (ow eI)⟩),(2,⟨3,[fN]⟩),(3,⟨1,x1.2.2.map (ow eI)⟩)] 4) (λr e t=>e= .exit 8∧Ent t (mN [(0,.int a0),(3,.ptr 0 0 0),(4,.ptr 2 0 0),(6,.own 3 0 x1.2.2.length),(7,.int x1.1),(17,.int v1.cols),(18,.int x1.1)] [(0,⟨3,[[.int v1.rows,.int v1.cols,.own 1 0 r.length]]⟩),(1,⟨1,r.map (ow eI)⟩),(2,⟨3,[fN]⟩),(3,⟨1,x1.2.2.map (ow eI)⟩)] 4)) (bO (bG k2) (gX k<|cB k<|bH k<|cB k<|aX) k4) ?_ ?_
     ·intro x5 o h;refine sR<|cm k4<|an<|tn<|sQ<|cV k h (λ_ h=>?_) λ_ h=>aW<|aB<|aB<|sp h ⟨_,k,k,(bO (bG k2) (gX k<|cB k<|bH k<|cB k<|aX) k4)⟩;refine aI<|tn<|sQ<|aC<|sR<|am k k<|aT k2<|sR<|am k k<|am k k<|ae (dW aP k k k k) k<|cm k4<|an<|tn<|cV k h (λ_ h=>?_) λ_ h=>aI<|aY<|tn<|rg<|ae (bB k k) k<|am k k<|an<|tn<|sp h ⟨_,k,(bO (bG k2) (gX k<|cB k<|bH k<|cB k<|aX) k4)⟩;exact aQ fA<|am k k<|lp k8<|am k k<|oB h λv35 hv35 h=>ae (AEff.pureE (nN (σ:=sg [(0,1)]) (σ':=sg [(1,0)]) (touch:=[1]) (news:=[]) (hl2:=[(1,⟨1,x5.1.map (ow eI)⟩)]) (n':=4) (r2:= .own 1 (0+(wr (x5.2*v1.cols)).toNat) ((wr ((wr (x5.2+1))*v1.cols)).toNat - (wr (x5.2*v1.cols)).toNat)) (fG (⟨v1.rows,v1.cols,x5.1⟩:Mt) x5.2 v35 hv35) k k ⟨_,_,k,⟨_,_,k,k,⟨_,_,k,k,⟨_,_,k,⟨k,k,k,k⟩,k⟩⟩⟩,⟨_,_,k,k,k⟩⟩ ⟨⟨_,k,k,.inl ⟨k,dT.plainO _⟩⟩,k,aX⟩ k k k ⟨⟨_,k,k,.inl ⟨k,dT.plainO _⟩⟩,k,aX⟩ k ⟨k,k,(by simp only [aR,lA,lT,lR,lC,lN]),k⟩ k ⟨k,dT.tame _ _,aX⟩ k k) ⟨k,k,aX⟩) k<|am k k<|lp k8<|am k k<|oB h λv36 hv36 h=>ae (AEff.pureE (nN (σ:=sg [(0,1)]) (σ':=sg [(1,0)]) (touch:=[1]) (news:=[]) (hl2:=[(1,⟨1,x5.1.map (ow eI)⟩)]) (n':=4) (r2:= .own 1 (0+(wr (x5.2*v1.cols)).toNat) ((wr ((wr (x5.2+1))*v1.cols)).toNat - (wr (x5.2*v1.cols)).toNat)) (fG (⟨v1.rows,v1.cols,x5.1⟩:Mt) x5.2 v36 hv36) k k ⟨_,_,k,⟨_,_,k,k,⟨_,_,k,k,⟨_,_,k,⟨k,k,k,k⟩,k⟩⟩⟩,⟨_,_,k,k,k⟩⟩ ⟨⟨_,k,k,.inl ⟨k,dT.plainO _⟩⟩,k,aX⟩ k k k ⟨⟨_,k,k,.inl ⟨k,dT.plainO _⟩⟩,k,aX⟩ k ⟨k,k,(by simp only [aR,lA,lT,lR,lC,lN]),k⟩ k ⟨k,dT.tame _ _,aX⟩ k k) ⟨k,k,aX⟩) k<|am k k<|cG h λq38 h=>oB h λv37 hv37 h=>ae (hU aP q38 k k k k k k k) k<|ae (fD aP k k k k (qD (hv37)) k k) k<|ae (mP k k) k<|am k k<|oB h λv39 hv39 h=>ae (nN (σ:=sg [(0,1)]) (σ':=sg [(1,0)]) (touch:=[1]) (news:=[]) (hl2:=[(1,⟨1,v39.map (ow eI)⟩)]) (n':=4) (r2:= .own 1 (0+(wr (x5.2*v1.cols)).toNat) ((wr ((wr (x5.2+1))*v1.cols)).toNat - (wr (x5.2*v1.cols)).toNat)) (aBP a0 x5.1 (0+(wr (x5.2*v1.cols)).toNat) ((wr ((wr (x5.2+1))*v1.cols)).toNat - (wr (x5.2*v1.cols)).toNat) (wr (a0 - v37)) (0+(wr (((x1.2.2.length:Nat):Int)*v1.cols)).toNat) ((wr ((wr (((x1.2.2.length:Nat):Int)+1))*v1.cols)).toNat - (wr (((x1.2.2.length:Nat):Int)*v1.cols)).toNat) v39 hv39) k k ⟨_,_,k,k,⟨_,_,k,⟨k,k,k,k⟩,⟨_,_,k,k,⟨_,_,k,⟨k,k,k,k⟩,k⟩⟩⟩⟩ ⟨⟨_,k,k,.inl ⟨k,dT.plainO _⟩⟩,k,aX⟩ k k k ⟨⟨_,k,k,.inl ⟨k,dT.plainO _⟩⟩,k,aX⟩ k ⟨k,k,(by simp only [aR,lA,lT,lR,lC,lN]),k⟩ k ⟨k,dT.tame _ _,aX⟩ k k) k<|cG h λq40 h=>an<|oA (by kernel_rfl)<|aY<|tn<|rg<|ae (bB k k) k<|am k k<|an<|tn<|sp h ⟨_,k,(bO (bG k2) (hX ⟨_,k,k,.inr ⟨_,_,k,⟨_,_,k,k,⟨_,_,k,k,⟨_,_,k,⟨k,k,(by simp only [aR,lA,lT,lR,lC,lN,of_decide_eq_true q40]),k⟩,k⟩⟩⟩,k⟩⟩ k<|cB k<|bH k<|cB k<|aX) k4)⟩
     ·rintro e t ⟨rfl,hent⟩;exact aM<|tn<|aL hent<|rg<|am k k<|am k k<|ae (wl k) k<|cG h λq42 h=>ae (mQ aP (l:=x1.2.2) (m:=[x1.1]) kX q42 k k k k k k k k k k k k) k<|aa k k<|an<|aY<|tn<|rg<|ae (bB k k) k<|am k k<|an<|tn<|sp h ⟨_,k,(jI [0,1,2,5] (bG k2) (gX k<|cB k<|bH k<|cB k<|aX) k4)⟩
 ·rintro e t ⟨rfl,hent⟩;exact aM<|tn<|aL hent<|sR<|lp k8<|am k k<|ae (ws k) k<|aT k2<|aD<|sp h (aZ k k k (dP k (bY (tJ (bD (k) (bD (k) (bD (eH dT k k) eV)))) (bY (oJ (eH dT k k)) gD))))
def vS (a0:Int) (a1:Mt):Option Int:=
 (pV a0 a1).bind λv1=>
 some (((v1.2.length:Nat):Int))
theorem aCR (a0:Int) (a1:Mt) (r:Int) (h:vS a0 a1=some r):HasC Tryz.prog 102 [.int a0,.agg (eM a1)] (.int r):=by
 exact hM [.tmp 4] Tryz.func102 Tryz.ntmps102 k<|sR<|ae (wb k) k<|aT k2<|sR<|am k k<|lp k8<|oB h λv1 hv1 h=>ae (AEff.conv (iB (x:= .tuple [.agg [.int v1.1.rows,.int v1.1.cols,.own 1 0 (v1.1.cells.map eI).length],.own 2 0 (v1.2.map eI).length]) (nb:=[(1,⟨1,dA (v1.1.cells.map eI)⟩),(2,⟨1,dA (v1.2.map eI)⟩)]) (aAu a0 a1 v1 hv1) k (by rfl) k k (eJ (cH aX (cH aX (cH (dT.good _) nM))) (eJ (dT.good _) tK)) (bZ k (aG (eG k) aE))) (v':= .tuple [.agg [.int v1.1.rows,.int v1.1.cols,.own 1 0 v1.1.cells.length],.own 2 0 v1.2.length]) (ed':=[(1,some ⟨1,v1.1.cells.map (ow eI)⟩),(2,some ⟨1,v1.2.map (ow eI)⟩)]) (by simp only [aR]) (rJ (nb':=[(1,⟨1,v1.1.cells.map (ow eI)⟩),(2,⟨1,v1.2.map (ow eI)⟩)]) (by simp only [fW]))) k<|am k k<|ae (bP k k (by intro _ h;cases h)) k<|ae (bP k k (by intro _ h;cases h)) k<|ae (bX aP k k) k<|ae (ws k) k<|aT k2<|sR<|am k k<|ae (dW aP k k k k) k<|aT k2<|aD<|yT h k2
def xD (a0:Rp) (a1:Rp):Option Bool:=
 (fS a0).bind λv1=>
 bif v1 then
 ((fS a1).bind λv3=>
 bif v3 then
 (bif decide (a0.p=a1.p) then
 ((mU a0.q a1.q).bind λv6=>
 some (v6))
 else
 (some (false)))
 else
 (some (false)))
 else
 (some (false))
theorem aHc (a0:Rp) (a1:Rp) (r:Bool) (h:xD a0 a1=some r):HasC Tryz.prog 106 [.agg (eR a0),.agg (eR a1)] (.bl r):=by
 exact hM [.tmp 4] Tryz.func106 Tryz.ntmps106 k<|sR<|ae (wb k) k<|ae (wb k) k<|aT k2<|sR<|lp k8<|oB h λv1 hv1 h=>ae (aH (iD a0 v1 hv1) k (aG (eG k) aE)) k<|am k k<|oF h (λq2 h=>aO 7 k q2<|lp k8<|oB h λv3 hv3 h=>ae (aH (iD a1 v3 hv3) k (aG (eG k) aE)) k<|pk k3<|am k k<|oF h (λq4 h=>aO 11 k q4<|fp k8<|lp k8<|fp k8<|lp k8<|cm k4<|pk k3<|am k k<|oF h (λq5 h=>aO 18 k q5<|fp k8<|lp k8<|fp k8<|lp k8<|oB h λv6 hv6 h=>ae (aH (aDD a0.q a1.q v6 hv6) k (aG (eG k) (aG (eG k) aE))) k<|pk k3<|aT k2<|aD<|gW h k2) λq5 h=>aO 18 k q5<|aK k4<|aK k4<|ak k k<|pk k3<|aT k2<|aD<|gW h k2) λq4 h=>aO 11 k q4<|aK k4<|aK k4<|ak k k<|pk k3<|am k k<|aK k4<|aK k4<|ak k k<|pk k3<|aT k2<|aD<|gW h k2) λq2 h=>aO 7 k q2<|aK k4<|pk k3<|am k k<|aK k4<|aK k4<|ak k k<|pk k3<|am k k<|aK k4<|aK k4<|ak k k<|pk k3<|aT k2<|aD<|gW h k2
def gJ (a0:(List (List Int))) (x1:(Int×Int)):Option ((Int×Int) ⊕ Int):=
 bif decide (x1.2<(a0.length:Int)) then
 ((cP a0 x1.2).bind λv2=>
 bif decide (wr (x1.1+(v2.length:Int))<0) then
 (none)
 else
 (some (.inl (wr (x1.1+(v2.length:Int)),wr (x1.2+1)))))
 else
 (some (.inr x1.1))
def gK (a0:(List (List Int))) (x2:((List Int)×Int)):Option (((List Int)×Int) ⊕ (List Int)):=
 bif decide (x2.2<(a0.length:Int)) then
 ((cP a0 x2.2).bind λv7=>
 bif decide (x2.1.length+v7.length≤4294967296) then
 (some (.inl ((x2.1++v7),wr (x2.2+1))))
 else none)
 else
 (some (.inr x2.1))
def iE (a0:(List (List Int))):Option (List Int):=
 (Lp (gJ a0) (0,0)).bind λy4=>
 (aNl y4).bind λv5=>
 (Lp (gK a0) (v5,0)).bind λy9=>
 some (y9)
theorem aAv (a0:(List (List Int))) (r:(List Int)) (h:iE a0=some r):HasC Tryz.prog 230 [.list 1 (a0.map (dQ 1 eI))] (.list 1 (r.map eI)):=by
 refine hM [.tmp 2] Tryz.func230 Tryz.ntmps230 k<|sR<|aT k2<|sR<|aT k2<|sQ<|sR<|am k k<|ln k4<|am k k<|an<|tn<|aC<|oB h λy4 hy4 h=>bU (body:=(gJ a0)) hy4 (λ(x1:(Int×Int))=>mN [(0,.list 1 (a0.map (dQ 1 eI))),(3,.int x1.1),(9,.list 1 (a0.map (dQ 1 eI))),(10,.int (a0.length:Int)),(11,.int x1.2)] [] 0) (λr e t=>e= .exit 0∧Ent t (mN [(0,.list 1 (a0.map (dQ 1 eI))),(3,.int r)] [] 0)) (bO (bG k2) aX k4) ?_ ?_
 ·intro x1 o h;refine sR<|cm k4<|an<|tn<|sQ<|cV k h (λ_ h=>?_) λ_ h=>aW<|aB<|aB<|sp h ⟨_,k,k,(bO (bG k2) aX k4)⟩;refine aI<|tn<|sQ<|aC<|sR<|oB h λv2 hv2 h=>ae (xl hv2 k) k<|lr k7<|aT k2<|sR<|am k k<|am k k<|ln k4<|ae (bB k k) k<|aT k2<|sR<|am k k<|cm k4<|an<|tn<|cV k h (λ_ h=>?_) λ_ h=>aI<|aY<|tn<|rg<|ae (bB k k) k<|am k k<|an<|tn<|sp h ⟨_,k,(bO (bG k2) aX k4)⟩;refine rg ?_;cases h
 ·rintro e t ⟨rfl,hent⟩;refine aM<|tn<|aL hent<|sR<|am k k<|oB h λv5 hv5 h=>ae (cL dT (aUQ y4 v5 hv5) k3 (aG aOr (bZ k aE))) k<|aT k2<|sQ<|sR<|am k k<|ln k4<|am k k<|an<|tn<|aC<|oB h λy9 hy9 h=>bU (body:=(gK a0)) hy9 (λ(x2:((List Int)×Int))=>mN [(6,.own 0 0 x2.1.length),(25,.list 1 (a0.map (dQ 1 eI))),(26,.int (a0.length:Int)),(27,.int x2.2)] [(0,⟨1,x2.1.map (ow eI)⟩)] 1) (λr e t=>e= .exit 2∧Ent t (mN [(6,.own 0 0 r.length)] [(0,⟨1,r.map (ow eI)⟩)] 1)) (bO (bG k2) (cB k<|aX) k4) ?_ ?_
  ·intro x2 o h;exact sR<|cm k4<|an<|tn<|sQ<|cV k h (λ_ h=>aI<|tn<|sQ<|aC<|sR<|oB h λv7 hv7 h=>ae (xl hv7 k) k<|lr k7<|aT k2<|rg<|am k k<|am k k<|cG h λq8 h=>ae (mQ aP (l:=x2.1) (m:=v7) kX q8 k k k k k k k k k k k k) k<|aa k k<|an<|aY<|tn<|rg<|ae (bB k k) k<|am k k<|an<|tn<|sp h ⟨_,k,(jI [1] (bG k2) (cB k<|aX) k4)⟩) λ_ h=>aW<|aB<|aB<|sp h ⟨_,k,k,(bO (bG k2) (cB k<|aX) k4)⟩
  ·rintro e t ⟨rfl,hent⟩;exact aM<|tn<|aL hent<|sR<|am k k<|aT k2<|aD<|sp h (aZ k k k (eB (eH dT k k)))
end
noncomputable section
set_option maxRecDepth 10000
set_option maxHeartbeats 4000000
def mK (a0:(List Int)) (a1:Int):Option Int:=
 bif decide (wr (a1 - (a0.length:Int))<0) then
 (some ((-1)))
 else
 (some (wr (a1 - (a0.length:Int))))
theorem xS (a0:(List Int)) (a1:Int) (r:Int) (h:mK a0 a1=some r):HasC Tryz.prog 15 [.list 1 (a0.map eI),.int a1] (.int r):=by
 exact hM [.tmp 4] Tryz.func15 Tryz.ntmps15 k<|sR<|aT k2<|sR<|am k k<|am k k<|ln k4<|ae (mP k k) k<|aT k2<|sQ<|sR<|am k k<|cm k4<|an<|tn<|cV k h (λ_ h=>sR<|aT k2<|aD<|aJ<|yT h k2) λ_ h=>aI<|tn<|sR<|am k k<|aT k2<|aD<|yT h k2
def yK (a0:Qv) (a1:Int):Option Int:=
 (mK a0.src a1).bind λv1=>
 bif decide (v1<0) then
 (some ((-1)))
 else
 ((mK a0.tgt v1).bind λv3=>
 bif decide (v3<0) then
 (some ((-1)))
 else
 (some (v3)))
theorem aGD (a0:Qv) (a1:Int) (r:Int) (h:yK a0 a1=some r):HasC Tryz.prog 33 [.agg (eQ a0),.int a1] (.int r):=by
 exact hM [.tmp 4] Tryz.func33 Tryz.ntmps33 k<|sR<|ae (wb k) k<|aT k2<|sR<|fp k8<|lp k8<|am k k<|oB h λv1 hv1 h=>ae (aH (xS a0.src a1 v1 hv1) k (bZ k (bZ k aE))) k<|aT k2<|sQ<|sR<|am k k<|cm k4<|an<|tn<|cV k h (λ_ h=>sR<|aT k2<|aD<|aJ<|yT h k2) λ_ h=>aI<|tn<|sR<|fp k8<|lp k8<|am k k<|oB h λv3 hv3 h=>ae (aH (xS a0.tgt v1 v3 hv3) k (bZ k (bZ k aE))) k<|aT k2<|sQ<|sR<|am k k<|cm k4<|an<|tn<|cV k h (λ_ h=>sR<|aT k2<|aD<|aJ<|yT h k2) λ_ h=>aI<|tn<|sR<|am k k<|aT k2<|aD<|yT h k2
def yL (a0:Mt) (a1:Int):Option Int:=
 (mK a0.cells a1).bind λv1=>
 bif decide (v1<0) then
 (some ((-1)))
 else
 (some (v1))
theorem aGE (a0:Mt) (a1:Int) (r:Int) (h:yL a0 a1=some r):HasC Tryz.prog 78 [.agg (eM a0),.int a1] (.int r):=by
 exact hM [.tmp 4] Tryz.func78 Tryz.ntmps78 k<|sR<|ae (wb k) k<|aT k2<|sR<|fp k8<|lp k8<|am k k<|oB h λv1 hv1 h=>ae (aH (xS a0.cells a1 v1 hv1) k (bZ k (bZ k aE))) k<|aT k2<|sQ<|sR<|am k k<|cm k4<|an<|tn<|cV k h (λ_ h=>sR<|aT k2<|aD<|aJ<|yT h k2) λ_ h=>aI<|tn<|sR<|am k k<|aT k2<|aD<|yT h k2
def mV (a0:(List Mt)) (x1:(Int×Int)):Option ((Int×Int) ⊕ (Int ⊕ Int)):=
 bif decide (x1.2<(a0.length:Int)) then
 ((cP a0 x1.2).bind λv3=>
 (yL v3 x1.1).bind λv4=>
 bif decide (v4<0) then
 (some (.inr (.inr ((-1)))))
 else
 (some (.inl (v4,wr (x1.2+1)))))
 else
 (some (.inr (.inl x1.1)))
def sB (a0:(List Mt)) (a1:Int):Option Int:=
 bif decide (wr (a1 - (a0.length:Int))<0) then
 (some ((-1)))
 else
 ((Lp (mV a0) (wr (a1 - (a0.length:Int)),0)).bind λy6=>
 Sum.elim (λy7=>
 some (y7)
 )
 (λy8=>
 some y8
 )
 y6)
theorem aEy (a0:(List Mt)) (a1:Int) (r:Int) (h:sB a0 a1=some r):HasC Tryz.prog 34 [.list 3 (a0.map eM),.int a1] (.int r):=by
 refine hM [.tmp 4] Tryz.func34 Tryz.ntmps34 k<|sR<|aT k2<|sR<|am k k<|am k k<|ln k4<|ae (mP k k) k<|aT k2<|sQ<|sR<|am k k<|cm k4<|an<|tn<|cV k h (λ_ h=>sR<|aT k2<|aD<|aJ<|yT h k2) λ_ h=>?_;refine aI<|tn<|sQ<|sR<|aT k2<|aC<|oB h λy6 hy6 h=>bU (body:=(mV a0)) hy6 (λ(x1:(Int×Int))=>mN [(0,.list 3 (a0.map eM)),(1,.int x1.1),(5,.int x1.2)] [] 0) (λr e t=>Sum.elim (λa=>(λr e t=>e= .exit 0∧Ent t (mN [(1,.int r)] [] 0)) a e t) (λb=>(λr e t=>e= .ret∧vJ TT [.tmp 4] (.int r) .ret t) b e t) r) (bO (bG k2) aX k4) ?_ ?_
 ·intro x1 o h;exact sQ<|sR<|am k k<|am k k<|ln k4<|cm k4<|an<|tn<|cV k h (λ_ h=>aI<|tn<|sQ<|aC<|sR<|am k k<|am k k<|oB h λv3 hv3 h=>ae (xl hv3 k) k<|lr k7<|am k k<|oB h λv4 hv4 h=>ae (aH (aGE v3 x1.1 v4 hv4) k (aG (eG k) (bZ k aE))) k<|aT k2<|sR<|am k k<|cm k4<|an<|tn<|cV k h (λ_ h=>sR<|aT k2<|aD<|bL<|aJ<|aJ<|sp h ⟨_,k,k,aZ k k k (aEm k)⟩) λ_ h=>aI<|aY<|tn<|rg<|am k k<|ae (bB k k) k<|aT k2<|sp h ⟨_,k,(bO (bG k2) aX k4)⟩) λ_ h=>aW<|aB<|aB<|sp h ⟨_,k,k,(bO (bG k2) aX k4)⟩
 ·intro e t hX;rcases y6 with y7|y8
  ·obtain ⟨rfl,hent⟩:=hX;exact aM<|tn<|aL hent<|sR<|am k k<|aT k2<|aD<|yT h k2
  ·obtain ⟨rfl,hent⟩:=hX;exact bL<|aJ<|sp h hent
def aBn (a0:Rp) (a1:Int):Option Int:=
 (yK a0.q a1).bind λv1=>
 bif decide (v1<0) then
 (some ((-1)))
 else
 ((mK a0.dims v1).bind λv3=>
 bif decide (v3<0) then
 (some ((-1)))
 else
 ((sB a0.maps v3).bind λv5=>
 bif decide (v5<0) then
 (some ((-1)))
 else
 (some (v5))))
theorem aKY (a0:Rp) (a1:Int) (r:Int) (h:aBn a0 a1=some r):HasC Tryz.prog 10 [.agg (eR a0),.int a1] (.int r):=by
 exact hM [.tmp 4] Tryz.func10 Tryz.ntmps10 k<|sR<|ae (wb k) k<|aT k2<|sR<|fp k8<|lp k8<|am k k<|oB h λv1 hv1 h=>ae (aH (aGD a0.q a1 v1 hv1) k (aG (eG k) (bZ k aE))) k<|aT k2<|sQ<|sR<|am k k<|cm k4<|an<|tn<|cV k h (λ_ h=>sR<|aT k2<|aD<|aJ<|yT h k2) λ_ h=>aI<|tn<|sR<|fp k8<|lp k8<|am k k<|oB h λv3 hv3 h=>ae (aH (xS a0.dims v1 v3 hv3) k (bZ k (bZ k aE))) k<|aT k2<|sQ<|sR<|am k k<|cm k4<|an<|tn<|cV k h (λ_ h=>sR<|aT k2<|aD<|aJ<|yT h k2) λ_ h=>aI<|tn<|sR<|fp k8<|lp k8<|am k k<|oB h λv5 hv5 h=>ae (aH (aEy a0.maps v3 v5 hv5) k (bZ k (bZ k aE))) k<|aT k2<|sQ<|sR<|am k k<|cm k4<|an<|tn<|cV k h (λ_ h=>sR<|aT k2<|aL (t:=mN [(4,.int (-1))] [] 1) (bO (bG k2) aX k4)<|aD<|aJ<|yT h k2) λ_ h=>aI<|tn<|sR<|am k k<|aT k2<|aD<|yT h k2
def sC (a0:(List Int)) (x1:((List Int)×Int)):Option (((List Int)×Int) ⊕ (List Int)):=
 bif decide (x1.2<(a0.length:Int)) then
 ((cP a0 x1.2).bind λv2=>
 (cP x1.1 x1.2).bind λv3=>
 some (.inl ((x1.1.set x1.2.toNat v2),wr (x1.2+1))))
 else
 (some (.inr x1.1))
def mM (a0:(List Int)):Option (List Int):=
 bif (decide (0≤(a0.length:Int))&&decide ((a0.length:Int)≤1048576)) then
 ((Lp (sC a0) ((List.replicate ((a0.length:Int).toNat) (0:Int)),0)).bind λy4=>
 some (y4))
 else none
theorem xT (a0:(List Int)) (r:(List Int)) (h:mM a0=some r):HasC Tryz.prog 22 [.list 1 (a0.map eI)] (.list 1 (r.map eI)):=by
 refine hM [.tmp 2] Tryz.func22 Tryz.ntmps22 k<|sR<|aT k2<|sR<|am k k<|ln k4<|cG h λq5 h=>ae (vX aP q5 k k k k k k k k) k<|aT k2<|aL (t:=mN [(0,.list 1 (a0.map eI)),(3,.own 0 0 ((List.replicate ((a0.length:Int).toNat) (0:Int)).length))] [(0,⟨1,List.map (ow eI) (List.replicate ((a0.length:Int).toNat) (0:Int))⟩)] 1) (bO (kW 1 k2 (iC ⟨_,k,⟨k,k,(by simp only [aR,lA,lT,lR,lC,lN]),k⟩⟩ aX)) (hX ⟨_,k,k,.inl ⟨xA (e:=eI) (z:=0) _,dT.plainO _⟩⟩ k<|aX) k4)<|sQ<|sR<|aT k2<|aC<|oB h λy4 hy4 h=>bU (body:=(sC a0)) hy4 (λ(x1:((List Int)×Int))=>mN [(0,.list 1 (a0.map eI)),(3,.own 0 0 x1.1.length),(4,.int x1.2)] [(0,⟨1,x1.1.map (ow eI)⟩)] 1) (λr e t=>e= .exit 0∧Ent t (mN [(3,.own 0 0 r.length)] [(0,⟨1,r.map (ow eI)⟩)] 1)) (bO (bG k2) (cB k<|aX) k4) ?_ ?_
 ·intro x1 o h;exact sQ<|sR<|am k k<|am k k<|ln k4<|cm k4<|an<|tn<|cV k h (λ_ h=>aI<|tn<|sQ<|aC<|rg<|am k k<|am k k<|am k k<|am k k<|oB h λv2 hv2 h=>ae (xl hv2 k) k<|lr k7<|oB h λv3 hv3 h=>ae (xo hv3 k) k<|ae (fK aP kX (u:=v2) (dI hv3) k k k k k k) k<|an<|aY<|tn<|rg<|am k k<|ae (bB k k) k<|aT k2<|sp h ⟨_,k,(bO (kW 1 k2 (iC ⟨_,k,⟨k,k,(by simp only [aR,lA,lT,lR,lC,lN]),k⟩⟩ (bG k2))) (cB k<|aX) k4)⟩) λ_ h=>aW<|aB<|aB<|sp h ⟨_,k,k,(bO (bG k2) (cB k<|aX) k4)⟩
 ·rintro e t ⟨rfl,hent⟩;exact aM<|tn<|aL hent<|sR<|am k k<|aT k2<|aD<|sp h (aZ k k k (eB (eH dT k k)))
def uK (a0:Qv):Option Qv:=
 (mM a0.src).bind λv1=>
 (mM a0.tgt).bind λv2=>
 some ((⟨a0.n,v1,v2⟩:Qv))
theorem aGF (a0:Qv) (r:Qv) (h:uK a0=some r):HasC Tryz.prog 47 [.agg (eQ a0)] (.agg (eQ r)):=by
 refine hM [.cell 2 39] Tryz.func47 Tryz.ntmps47 k<|sR<|ae (wb k) k<|ae (bX aP k k) k<|an<|tn<|sR<|ae (bX aP k k) k<|an<|tn<|sR<|fp k8<|lp k8<|fp k8<|ae (ws k) k<|an<|tn<|sR<|fp k8<|lp k8<|oB h λv1 hv1 h=>ae (cL dT (xT a0.src v1 hv1) k3 (bZ k aE)) k<|fp k8<|ae (ws k) k<|an<|tn<|sQ ?_;exact rg<|fp k8<|lp k8<|oB h λv2 hv2 h=>ae (cL dT (xT a0.tgt v2 hv2) k3 (bZ k aE)) k<|fp k8<|ae (ws k) k<|an<|tn<|sR<|lp k8<|ae (ws k) k<|an<|tn<|aD<|sp h (aZ k k k (jH (bD (k) (bD (eH dT k k) (bD (eH dT k k) eV)))))
def uL (a0:Mt):Option Mt:=
 (mM a0.cells).bind λv1=>
 some ((⟨a0.rows,a0.cols,v1⟩:Mt))
theorem aGG (a0:Mt) (r:Mt) (h:uL a0=some r):HasC Tryz.prog 97 [.agg (eM a0)] (.agg (eM r)):=by
 refine hM [.cell 2 96] Tryz.func97 Tryz.ntmps97 k<|sR<|ae (wb k) k<|ae (bX aP k k) k<|an<|tn<|sR<|ae (bX aP k k) k<|an<|tn<|sR<|fp k8<|lp k8<|fp k8<|ae (ws k) k<|an<|tn<|sR<|fp k8<|lp k8<|fp k8<|ae (ws k) k<|an<|tn<|sR ?_;exact fp k8<|lp k8<|oB h λv1 hv1 h=>ae (cL dT (xT a0.cells v1 hv1) k3 (bZ k aE)) k<|fp k8<|ae (ws k) k<|an<|tn<|sR<|lp k8<|ae (ws k) k<|an<|tn<|aD<|sp h (aZ k k k (jH (bD (k) (bD (k) (bD (eH dT k k) eV)))))
def mW (a0:(List Mt)) (x1:((List Mt)×Int)):Option (((List Mt)×Int) ⊕ (List Mt)):=
 bif decide (x1.2<(a0.length:Int)) then
 ((cP a0 x1.2).bind λv2=>
 (uL v2).bind λv3=>
 (cP x1.1 x1.2).bind λv4=>
 some (.inl ((x1.1.set x1.2.toNat v3),wr (x1.2+1))))
 else
 (some (.inr x1.1))
def sD (a0:(List Mt)):Option (List Mt):=
 bif (decide (0≤(a0.length:Int))&&decide ((a0.length:Int)≤1048576)) then
 ((Lp (mW a0) ((List.replicate ((a0.length:Int).toNat) ((⟨0,0,[]⟩:Mt):Mt)),0)).bind λy5=>
 some (y5))
 else none
theorem aEz (a0:(List Mt)) (r:(List Mt)) (h:sD a0=some r):HasC Tryz.prog 48 [.list 3 (a0.map eM)] (.list 3 (r.map eM)):=by
 refine hM [.tmp 2] Tryz.func48 Tryz.ntmps48 k<|sR<|aT k2<|sR<|am k k<|ln k4<|cG h λq6 h=>ae (vX aP q6 k k k k k k k k) k<|aT k2<|aL (t:=mN [(0,.list 3 (a0.map eM)),(3,.own 0 0 ((List.replicate ((a0.length:Int).toNat) ((⟨0,0,[]⟩:Mt):Mt)).length))] [(0,⟨3,List.map (ow eM) (List.replicate ((a0.length:Int).toNat) ((⟨0,0,[]⟩:Mt):Mt))⟩)] 1) (bO (kW 1 k2 (iC ⟨_,k,⟨k,k,(by simp only [aR,lA,lT,lR,lC,lN]),k⟩⟩ aX)) (hX ⟨_,k,k,.inr (aNm (e:=eM) (z:=(⟨0,0,[]⟩:Mt)) (zc:=[.int 0,.int 0,.nil 1]) ⟨_,_,k,k,⟨_,_,k,k,⟨_,_,k,k,k⟩⟩⟩ _)⟩ k<|aX) k4)<|sQ<|sR<|aT k2<|aC<|oB h λy5 hy5 h=>bU (body:=(mW a0)) hy5 (λ(x1:((List Mt)×Int))=>mN [(0,.list 3 (a0.map eM)),(3,.own 0 0 x1.1.length),(4,.int x1.2)] [(0,⟨3,x1.1.map (ow eM)⟩)] 1) (λr e t=>e= .exit 0∧Ent t (mN [(3,.own 0 0 r.length)] [(0,⟨3,r.map (ow eM)⟩)] 1)) (bO (bG k2) (dY (jZ.plainO _) k<|aX) k4) ?_ ?_
 ·intro x1 o h;exact sQ<|sR<|am k k<|am k k<|ln k4<|cm k4<|an<|tn<|cV k h (λ_ h=>aI<|tn<|sQ<|aC<|rg<|am k k<|am k k<|am k k<|am k k<|oB h λv2 hv2 h=>ae (xl hv2 k) k<|lr k7<|oB h λv3 hv3 h=>ae (cM (aGG v2 v3 hv3) k3 (aG (eG k) aE)) k<|oB h λv4 hv4 h=>ae (xo hv4 k) k<|ae (xP aP k k k k k k (qD (dI hv4)) k) k<|an<|aY<|tn<|rg<|am k k<|ae (bB k k) k<|aT k2<|sp h ⟨_,k,(Ent.trans (show Ent _ (mN [(0,.list 3 (a0.map eM)),(3,.own 0 0 ((x1.1.set x1.2.toNat v3).length)),(4,.int (wr (x1.2+1)))] [(0,⟨3,List.map (ow eM) (x1.1.set x1.2.toNat v3)⟩)] 2) from (Ent.trans (aAE (b:=0) (b':=1) (j:=2) (es':=v3.cells.map eI) (by rw [cK];exact rF hv4) k k k k (aR _ _) (dT.frzs _)) (bO (kW 1 k2 (iC ⟨_,k,⟨k,k,(by simp only [aR,lA,lT,lR,lC,lN]),k⟩⟩ (bG k2))) (hX ⟨_,k,k,.inl ⟨aBk v3 k,jZ.plainO _⟩⟩ k<|aX) k4))) (bO (bG k2) (dY (jZ.plainO _) k<|aX) k4))⟩) λ_ h=>aW<|aB<|aB<|sp h ⟨_,k,k,(bO (bG k2) (dY (jZ.plainO _) k<|aX) k4)⟩
 ·rintro e t ⟨rfl,hent⟩;exact aM<|tn<|aL hent<|sR<|am k k<|aT k2<|aD<|sp h (aZ k k k (eB (eH jZ k k)))
def sE (a0:Rp):Option Rp:=
 (uK a0.q).bind λv1=>
 (mM a0.dims).bind λv2=>
 (sD a0.maps).bind λv3=>
 some ((⟨a0.p,v1,v2,v3⟩:Rp))
theorem aBo (a0:Rp) (r:Rp) (h:sE a0=some r):HasC Tryz.prog 12 [.agg (eR a0)] (.agg (eR r)):=by
 refine hM [.cell 2 42] Tryz.func12 Tryz.ntmps12 k<|sR<|ae (wb k) k<|ae (bX aP k k) k<|an<|tn<|sR<|ae (bX aP k k) k<|an<|tn<|sR<|fp k8<|lp k8<|fp k8<|ae (ws k) k<|an<|tn<|sR<|fp k8<|lp k8<|oB h λv1 hv1 h=>ae (cQ (aGF a0.q v1 hv1) k3 (aG (eG k) aE)) k<|fp k8<|ae (ws k) k<|an<|tn<|sQ ?_;exact rg<|fp k8<|lp k8<|oB h λv2 hv2 h=>ae (cL dT (xT a0.dims v2 hv2) k3 (bZ k aE)) k<|fp k8<|ae (ws k) k<|an<|tn<|sR<|fp k8<|lp k8<|oB h λv3 hv3 h=>ae (cL jZ (aEz a0.maps v3 hv3) k3 (bZ k aE)) k<|fp k8<|ae (ws k) k<|an<|tn<|sR<|lp k8<|ae (ws k) k<|an<|tn<|aL (t:=mN [(2,.ptr 1 0 0)] [(1,⟨6,[[.int a0.p,.int v1.n,.own 3 0 v1.src.length,.own 4 0 v1.tgt.length,.own 5 0 v2.length,.own 6 0 v3.length]]⟩),(3,⟨1,v1.src.map (ow eI)⟩),(4,⟨1,v1.tgt.map (ow eI)⟩),(5,⟨1,v2.map (ow eI)⟩),(6,⟨3,v3.map (ow eM)⟩)] 7) (bO (bG k2) (gX k<|cB k<|cB k<|cB k<|dY (jZ.plainO _) k<|aX) k4)<|aD<|sp h (aZ k k k (jH (bD (k) (bD (k) (bD (eH dT k k) (bD (eH dT k k) (bD (eH dT k k) (bD (eH jZ k k) eV))))))))
def xE (a0:(List Int)) (a1:(List Int)) (x1:Int):Option (Int ⊕ (Unit ⊕ Bool)):=
 bif decide (x1<(a0.length:Int)) then
 ((cP a0 x1).bind λv3=>
 (cP a1 x1).bind λv4=>
 bif !decide (v3=v4) then
 (some (.inr (.inr (false))))
 else
 (some (.inl (wr (x1+1)))))
 else
 (some (.inr (.inl ())))
def pW (a0:(List Int)) (a1:(List Int)):Option Bool:=
 bif !decide ((a0.length:Int)=(a1.length:Int)) then
 (some (false))
 else
 ((Lp (xE a0 a1) 0).bind λy6=>
 Sum.elim (λy7=>
 some (true)
 )
 (λy8=>
 some y8
 )
 y6)
theorem xU (a0:(List Int)) (a1:(List Int)) (r:Bool) (h:pW a0 a1=some r):HasC Tryz.prog 31 [.list 1 (a0.map eI),.list 1 (a1.map eI)] (.bl r):=by
 refine hM [.tmp 4] Tryz.func31 Tryz.ntmps31 k<|sR<|aT k2<|sQ<|sR<|am k k<|ln k4<|am k k<|ln k4<|cm k4<|an<|tn<|cV k h (λ_ h=>sR<|aT k2<|aD<|aJ<|gW h k2) λ_ h=>?_;refine aI<|tn<|sQ<|sR<|aT k2<|aC<|oB h λy6 hy6 h=>bU (body:=(xE a0 a1)) hy6 (λ(x1:Int)=>mN [(0,.list 1 (a0.map eI)),(1,.list 1 (a1.map eI)),(5,.int x1)] [] 0) (λr e t=>Sum.elim (λa=>(λr e t=>e= .exit 0∧Ent t (mN [] [] 0)) a e t) (λb=>(λr e t=>e= .ret∧vJ TT [.tmp 4] (.bl r) .ret t) b e t) r) (bO (bG k2) aX k4) ?_ ?_
 ·intro x1 o h;exact sQ<|sR<|am k k<|am k k<|ln k4<|cm k4<|an<|tn<|cV k h (λ_ h=>aI<|tn<|sQ<|aC<|sQ<|aQ fA<|am k k<|am k k<|oB h λv3 hv3 h=>ae (xl hv3 k) k<|lr k7<|am k k<|am k k<|oB h λv4 hv4 h=>ae (xl hv4 k) k<|lr k7<|cm k4<|an<|oA (by kernel_rfl)<|tn<|cV k h (λ_ h=>sR<|aT k2<|aD<|bL<|aJ<|aJ<|sp h ⟨_,k,k,aZ k k k (oD k)⟩) λ_ h=>aI<|aY<|tn<|rg<|am k k<|ae (bB k k) k<|aT k2<|sp h ⟨_,k,(bO (bG k2) aX k4)⟩) λ_ h=>aW<|aB<|aB<|sp h ⟨_,k,k,(bO aX aX k4)⟩
 ·intro e t hX;rcases y6 with y7|y8
  ·obtain ⟨rfl,hent⟩:=hX;exact aM<|tn<|aL hent<|sR<|aT k2<|aD<|gW h k2
  ·obtain ⟨rfl,hent⟩:=hX;exact bL<|aJ<|sp h hent
def uM (a0:Qv) (a1:Qv):Option Bool:=
 bif !decide (a0.n=a1.n) then
 (some (false))
 else
 ((pW a0.src a1.src).bind λv2=>
 bif !v2 then
 (some (false))
 else
 ((pW a0.tgt a1.tgt).bind λv4=>
 bif !v4 then
 (some (false))
 else
 (some (true))))
theorem aGH (a0:Qv) (a1:Qv) (r:Bool) (h:uM a0 a1=some r):HasC Tryz.prog 60 [.agg (eQ a0),.agg (eQ a1)] (.bl r):=by
 exact hM [.tmp 4] Tryz.func60 Tryz.ntmps60 k<|sR<|ae (wb k) k<|ae (wb k) k<|aT k2<|sQ<|sR<|fp k8<|lp k8<|fp k8<|lp k8<|cm k4<|an<|tn<|cV k h (λ_ h=>sR<|aT k2<|aD<|aJ<|gW h k2) λ_ h=>aI<|tn<|sQ<|sR<|fp k8<|lp k8<|fp k8<|lp k8<|oB h λv2 hv2 h=>ae (aH (xU a0.src a1.src v2 hv2) k (bZ k (bZ k aE))) k<|ae (dB k) k<|an<|tn<|cV k h (λ_ h=>sR<|aT k2<|aD<|aJ<|gW h k2) λ_ h=>aI<|tn<|sQ<|sR<|fp k8<|lp k8<|fp k8<|lp k8<|oB h λv4 hv4 h=>ae (aH (xU a0.tgt a1.tgt v4 hv4) k (bZ k (bZ k aE))) k<|ae (dB k) k<|an<|tn<|cV k h (λ_ h=>sR<|aT k2<|aD<|aJ<|gW h k2) λ_ h=>aI<|tn<|sR<|aT k2<|aD<|gW h k2
def uN (a0:Mt) (a1:Mt):Option Bool:=
 bif !decide (a0.rows=a1.rows) then
 (some (false))
 else
 (bif !decide (a0.cols=a1.cols) then
 (some (false))
 else
 ((pW a0.cells a1.cells).bind λv3=>
 bif !v3 then
 (some (false))
 else
 (some (true))))
theorem aGI (a0:Mt) (a1:Mt) (r:Bool) (h:uN a0 a1=some r):HasC Tryz.prog 117 [.agg (eM a0),.agg (eM a1)] (.bl r):=by
 exact hM [.tmp 4] Tryz.func117 Tryz.ntmps117 k<|sR<|ae (wb k) k<|ae (wb k) k<|aT k2<|sQ<|sR<|fp k8<|lp k8<|fp k8<|lp k8<|cm k4<|an<|tn<|cV k h (λ_ h=>sR<|aT k2<|aD<|aJ<|gW h k2) λ_ h=>aI<|tn<|sQ<|sR<|fp k8<|lp k8<|fp k8<|lp k8<|cm k4<|an<|tn<|cV k h (λ_ h=>sR<|aT k2<|aD<|aJ<|gW h k2) λ_ h=>aI<|tn<|sQ<|sR<|fp k8<|lp k8<|fp k8<|lp k8<|oB h λv3 hv3 h=>ae (aH (xU a0.cells a1.cells v3 hv3) k (bZ k (bZ k aE))) k<|ae (dB k) k<|an<|tn<|cV k h (λ_ h=>sR<|aT k2<|aD<|aJ<|gW h k2) λ_ h=>aI<|tn<|sR<|aT k2<|aD<|gW h k2
def mX (a0:(List Mt)) (a1:(List Mt)) (x1:Int):Option (Int ⊕ (Unit ⊕ Bool)):=
 bif decide (x1<(a0.length:Int)) then
 ((cP a0 x1).bind λv3=>
 (cP a1 x1).bind λv4=>
 (uN v3 v4).bind λv5=>
 bif !v5 then
 (some (.inr (.inr (false))))
 else
 (some (.inl (wr (x1+1)))))
 else
 (some (.inr (.inl ())))
def sF (a0:(List Mt)) (a1:(List Mt)):Option Bool:=
 bif !decide ((a0.length:Int)=(a1.length:Int)) then
 (some (false))
 else
 ((Lp (mX a0 a1) 0).bind λy7=>
 Sum.elim (λy8=>
 some (true)
 )
 (λy9=>
 some y9
 )
 y7)
theorem aFA (a0:(List Mt)) (a1:(List Mt)) (r:Bool) (h:sF a0 a1=some r):HasC Tryz.prog 61 [.list 3 (a0.map eM),.list 3 (a1.map eM)] (.bl r):=by
 refine hM [.tmp 4] Tryz.func61 Tryz.ntmps61 k<|sR<|aT k2<|sQ<|sR<|am k k<|ln k4<|am k k<|ln k4<|cm k4<|an<|tn<|cV k h (λ_ h=>sR<|aT k2<|aD<|aJ<|gW h k2) λ_ h=>?_;refine aI<|tn<|sQ<|sR<|aT k2<|aC<|oB h λy7 hy7 h=>bU (body:=(mX a0 a1)) hy7 (λ(x1:Int)=>mN [(0,.list 3 (a0.map eM)),(1,.list 3 (a1.map eM)),(5,.int x1)] [] 0) (λr e t=>Sum.elim (λa=>(λr e t=>e= .exit 0∧Ent t (mN [] [] 0)) a e t) (λb=>(λr e t=>e= .ret∧vJ TT [.tmp 4] (.bl r) .ret t) b e t) r) (bO (bG k2) aX k4) ?_ ?_
 ·intro x1 o h;exact sQ<|sR<|am k k<|am k k<|ln k4<|cm k4<|an<|tn<|cV k h (λ_ h=>aI<|tn<|sQ<|aC<|sQ<|aQ fA<|am k k<|am k k<|oB h λv3 hv3 h=>ae (xl hv3 k) k<|lr k7<|am k k<|am k k<|oB h λv4 hv4 h=>ae (xl hv4 k) k<|lr k7<|oB h λv5 hv5 h=>ae (aH (aGI v3 v4 v5 hv5) k (aG (eG k) (aG (eG k) aE))) k<|ae (dB k) k<|an<|oA (by kernel_rfl)<|tn<|cV k h (λ_ h=>sR<|aT k2<|aD<|bL<|aJ<|aJ<|sp h ⟨_,k,k,aZ k k k (oD k)⟩) λ_ h=>aI<|aY<|tn<|rg<|am k k<|ae (bB k k) k<|aT k2<|sp h ⟨_,k,(bO (bG k2) aX k4)⟩) λ_ h=>aW<|aB<|aB<|sp h ⟨_,k,k,(bO aX aX k4)⟩
 ·intro e t hX;rcases y7 with y8|y9
  ·obtain ⟨rfl,hent⟩:=hX;exact aM<|tn<|aL hent<|sR<|aT k2<|aD<|gW h k2
  ·obtain ⟨rfl,hent⟩:=hX;exact bL<|aJ<|sp h hent
def zE (a0:Rp) (a1:Rp):Option Bool:=
 bif !decide (a0.p=a1.p) then
 (some (false))
 else
 ((uM a0.q a1.q).bind λv2=>
 bif !v2 then
 (some (false))
 else
 ((pW a0.dims a1.dims).bind λv4=>
 bif !v4 then
 (some (false))
 else
 ((sF a0.maps a1.maps).bind λv6=>
 bif !v6 then
 (some (false))
 else
 (some (true)))))
theorem aKZ (a0:Rp) (a1:Rp) (r:Bool) (h:zE a0 a1=some r):HasC Tryz.prog 14 [.agg (eR a0),.agg (eR a1)] (.bl r):=by
 exact hM [.tmp 4] Tryz.func14 Tryz.ntmps14 k<|sR<|ae (wb k) k<|ae (wb k) k<|aT k2<|sQ<|sR<|fp k8<|lp k8<|fp k8<|lp k8<|cm k4<|an<|tn<|cV k h (λ_ h=>sR<|aT k2<|aD<|aJ<|gW h k2) λ_ h=>aI<|tn<|sQ<|sR<|fp k8<|lp k8<|fp k8<|lp k8<|oB h λv2 hv2 h=>ae (aH (aGH a0.q a1.q v2 hv2) k (aG (eG k) (aG (eG k) aE))) k<|ae (dB k) k<|an<|tn<|cV k h (λ_ h=>sR<|aT k2<|aD<|aJ<|gW h k2) λ_ h=>aI<|tn<|sQ<|sR<|fp k8<|lp k8<|fp k8<|lp k8<|oB h λv4 hv4 h=>ae (aH (xU a0.dims a1.dims v4 hv4) k (bZ k (bZ k aE))) k<|ae (dB k) k<|an<|tn<|cV k h (λ_ h=>sR<|aT k2<|aD<|aJ<|gW h k2) λ_ h=>aI<|tn<|sQ<|sR<|fp k8<|lp k8<|fp k8<|lp k8<|oB h λv6 hv6 h=>ae (aH (aFA a0.maps a1.maps v6 hv6) k (bZ k (bZ k aE))) k<|ae (dB k) k<|an<|tn<|aL (t:=mN [(27,.bl (!v6))] [] 2) (bO (bG k2) aX k4)<|cV k h (λ_ h=>sR<|aT k2<|aD<|aJ<|gW h k2) λ_ h=>aI<|tn<|sR<|aT k2<|aD<|gW h k2
end
noncomputable section
def zI (n:Nat) (left:Int):Int:=if left - n<0 then -1 else left - n
def zC:List (Int→Int)→Int→Int
 | [],left=>left
 |f::fs,left=>if f left<0 then -1 else zC fs (f left)
def zS {α:Type} (f:α→Int→Int) (l:List α) (left:Int):Int:=if left - l.length<0 then -1 else zC (l.map f) (left - l.length)
def zQ (q:Qv):Int→Int:=zC [zI q.src.length,zI q.tgt.length]
def zM (m:Mt):Int→Int:=zC [zI m.cells.length]
def zR (r:Rp):Int→Int:=zC [zQ r.q,zI r.dims.length,zS zM r.maps]
def aAd (f:Int→Int) (b:Prop):Prop:= ∀ left,0≤left→left≤1048576→f left= -1∨(0≤f left∧f left≤left∧b)
theorem aAe (n:Nat):aAd (zI n) (n≤1048576):=by
 intro left h0 h1;unfold zI;by_cases h:left - n<0
 ·rw [aU h];exact .inl rfl
 ·rw [aV h];exact .inr ⟨by omega,by omega,by omega⟩
theorem aFB:aAd (zC []) True:=λleft h0 _=> .inr ⟨h0,Int.le_refl _,trivial⟩
theorem vL {f:Int→Int} {fs:List (Int→Int)} {b bs:Prop} (h:aAd f b) (k:aAd (zC fs) bs):aAd (zC (f::fs)) (b∧bs):=by
 intro left h0 h1;unfold zC;rcases h left h0 h1 with e|⟨e1,e2,e3⟩
 ·rw [e,aU (by decide)];exact .inl rfl
 ·rw [aV (by omega)];rcases k (f left) e1 (by omega) with g|⟨g1,g2,g3⟩
  ·exact .inl g
  ·exact .inr ⟨g1,by omega,e3,g3⟩
theorem aJc {α:Type} {f:α→Int→Int} {b:α→Prop} (h: ∀ x,aAd (f x) (b x)): ∀ l:List α,aAd (zC (l.map f)) (∀ x∈l,b x)
 | []=>λleft h0 _=> .inr ⟨h0,Int.le_refl _,by simp⟩
 |x::l=>λleft h0 h1=>by
  rcases vL (h x) (aJc h l) left h0 h1 with e|⟨e1,e2,e3,e4⟩
  ·exact .inl e
  ·exact .inr ⟨e1,e2,λy hy=>by rcases fE.1 hy with rfl|h';exact e3;exact e4 y h'⟩
theorem aOu {α:Type} {f:α→Int→Int} {b:α→Prop} (h: ∀ x,aAd (f x) (b x)) (l:List α):aAd (zS f l) (l.length≤1048576∧ ∀ x∈l,b x):=by
 intro left h0 h1;unfold zS;by_cases e:left - l.length<0
 ·rw [aU e];exact .inl rfl
 ·rw [aV e];rcases aJc h l (left - l.length) (by omega) (by omega) with g|⟨g1,g2,g3⟩
  ·exact .inl g
  ·exact .inr ⟨g1,by omega,by omega,g3⟩
def bI (l:List Int):Prop:=l.length≤1048576
def bQ (q:Qv):Prop:=bI q.src∧bI q.tgt∧True
def bM (m:Mt):Prop:=bI m.cells∧True
def bR (r:Rp):Prop:=bQ r.q∧bI r.dims∧(r.maps.length≤1048576∧ ∀ m∈r.maps,bM m)∧True
def bS (s:Sc):Prop:=(s.basis.length≤1048576∧ ∀ v∈s.basis,bI v)∧True
theorem aOv (q:Qv):aAd (zQ q) (bQ q):=vL (aAe _) (vL (aAe _) aFB)
theorem aKa (m:Mt):aAd (zM m) (bM m):=vL (aAe _) aFB
theorem aTJ (r:Rp):aAd (zR r) (bR r):=vL (aOv _) (vL (aAe _) (vL (aOu aKa _) aFB))
def fI {α:Type} (l:List α):Prop:=l.length≤9223372036854775807
theorem aCt {o:Option Int} {z:Int→Int} {zs:List (Int→Int)} {b:Prop} {left:Int} {k:Int→Option Int} (ho:o=some (z left)) (hf:aAd z b) (h0:0≤left) (h1:left≤1048576) (hk: ∀ v,0≤v→v≤1048576→k v=some (zC zs v)):
  Option.bind o (λv=>bif decide (v<0) then some (-1) else k v)=some (zC (z::zs) left):=by
 rw [ho,aA];unfold zC;rcases hf left h0 h1 with e|⟨e1,e2,_⟩
 ·rw [e];rfl
 ·rw [aV (by omega),dM (by omega: ¬ z left<0),aS];exact hk _ e1 (by omega)
theorem aTK {α:Type} {body:Int×Int→Option ((Int×Int) ⊕ (Int ⊕ Int))} {f:α→Int→Int} {b:α→Prop} {l:List α} (hf: ∀ x,aAd (f x) (b x)) (hl:l.length≤1048576)
  (hs: ∀ (v:Int) (k:Nat) (hk:k<l.length),0≤v→v≤1048576→body (v,k)=some (bif decide (f l[k] v<0) then .inr (.inr (-1)) else .inl (f l[k] v,wr (k+1)))) (he: ∀ v,body (v,l.length)=some (.inr (.inl v))) (v:Int) (h0:0≤v) (h1:v≤1048576):
  Option.bind (Lp body (v,0)) (λy=>Sum.elim (λy=>some y) (λy=>some y) y)=some (zC (l.map f) v):=by
 have key: ∀ d k:Nat,k+d=l.length→ ∀ v:Int,0≤v→v≤1048576→Option.bind (Lp body (v,(k:Int))) (λy=>Sum.elim (λy=>some y) (λy=>some y) y)=some (zC ((l.drop k).map f) v):=by
  intro d;induction d with
  |zero=>
   intro k hk v _ _;rw [Nat.add_zero] at hk;subst hk;rw [iQ (he v)];simp [zC]
  |succ d ih=>
   intro k hk v h0 h1;have h:=hs v k (by omega) h0 h1;rw [List.drop_eq_getElem_cons (by omega:k<l.length),List.map_cons];unfold zC;rcases hf l[k] v h0 h1 with e|⟨e1,e2,_⟩
   ·rw [e] at h ⊢;rw [iQ (r:= .inr (-1)) (by rw [h];rfl)];rfl
   ·rw [aV (by omega)];rw [dM (by omega: ¬ f l[k] v<0),aS,bK (n:=l.length) (by omega) (by omega)] at h;rw [mS h];exact ih (k+1) (by omega) _ e1 (by omega)
 have:=key l.length 0 (by omega) v h0 h1;simpa using this
theorem aTL {l:List Int} {left:Int} (hl:fI l) (h0:0≤left) (h1:left≤1048576):mK l left=some (zI l.length left):=by
 unfold fI at hl;unfold mK zI;rw [aRI (by omega)];by_cases h:left - l.length<0
 ·rw [bC h,aU h];rfl
 ·rw [dM h,aV h];rfl
def fQ (q:Qv):Prop:=fI q.src∧fI q.tgt
theorem aVz {q:Qv} {left:Int} (hl:fQ q) (h0:0≤left) (h1:left≤1048576):yK q left=some (zQ q left):=
 aCt (aTL hl.1 h0 h1) (aAe _) h0 h1 λv g0 g1=>aCt (aTL hl.2 g0 g1) (aAe _) g0 g1 λv _ _=>rfl
def fM (m:Mt):Prop:=fI m.cells
theorem aWA {m:Mt} {left:Int} (hl:fM m) (h0:0≤left) (h1:left≤1048576):yL m left=some (zM m left):=
 aCt (aTL hl h0 h1) (aAe _) h0 h1 λv _ _=>rfl
def fMs (l:List Mt):Prop:=fI l∧ ∀ m∈l,fM m
theorem aVL {l:List Mt} {left:Int} (hl:fMs l) (h0:0≤left) (h1:left≤1048576):sB l left=some (zS zM l left):=by
 obtain ⟨ha,hb⟩:=hl;unfold fI at ha;unfold sB zS;rw [aRI (by omega)];by_cases h:left - l.length<0
 ·rw [bC h,aU h];rfl
 ·rw [dM h,aV h,aS];refine aTK (f:=zM) aKa (by omega) (λv k hk g0 g1=>?_) (λv=>?_) _ (by omega) (by omega)
  ·unfold mV;simp only;rw [gC hk,aN,dR hk,aA,aWA (hb _ (List.getElem_mem hk)) g0 g1,aA];cases decide (zM l[k] v<0) <;> rfl
  ·unfold mV;simp only;rw [gS (bA _),aS]
def fR (r:Rp):Prop:=fQ r.q∧fI r.dims∧fMs r.maps
theorem aWC {r:Rp} {left:Int} (hl:fR r) (h0:0≤left) (h1:left≤1048576):aBn r left=some (zR r left):=
 aCt (aVz hl.1 h0 h1) (aOv _) h0 h1 λv g0 g1=>aCt (aTL hl.2.1 g0 g1) (aAe _) g0 g1 λv g2 g3=>aCt (aVL hl.2.2 g2 g3) (aOu aKa _) g2 g3 λv _ _=>rfl
theorem aJd {α:Type} {body:List α×Int→Option ((List α×Int) ⊕ List α)} {l:List α} (z:α) (hl:l.length≤4611686018427387904)
  (hs: ∀ (k:Nat) (hk:k<l.length) (r:List α),r.length=l.length→body (r,k)=some (.inl (r.set k l[k],wr (k+1)))) (he: ∀ r,body (r,l.length)=some (.inr r)):Lp body (List.replicate ((l.length:Int).toNat) z,0)=some l:=by
 refine aRJ (λk=>(l.take k++List.replicate (l.length - k) z,(k:Int))) l.length (by simp) (λk hk=>?_) ?_
 ·rw [hs k hk _ (by simp;omega),bK hk hl];congr 3;rw [show l.length - k=(l.length - (k+1))+1 by omega,List.replicate_succ,List.set_append_right _ _ (by simp;omega)];rw [aCM hk,List.length_take,Nat.min_eq_left (Nat.le_of_lt hk),Nat.sub_self,List.set_cons_zero,List.append_assoc];rfl
 ·rw [he];simp
theorem aTM {l:List Int} (h:bI l):mM l=some l:=by
 unfold bI at h;unfold mM;rw [bC (by omega),bC (by omega:(l.length:Int)≤1048576),Bool.and_self,aN];rw [aJd 0 (by omega) (λk hk r hr=>?_) (λr=>?_)];rfl
 ·unfold sC;simp only;rw [gC hk,aN,dR hk,aA,dR (hr▸hk),aA,dJ]
 ·unfold sC;simp only;rw [gS (bA _),aS]
theorem aWD {q:Qv} (h:bQ q):uK q=some q:=by
 unfold uK;rw [aTM h.1,aA,aTM h.2.1,aA]
theorem aWE {m:Mt} (h:bM m):uL m=some m:=by
 unfold uL;rw [aTM h.1,aA]
theorem aVM {l:List Mt} (h:l.length≤1048576∧ ∀ m∈l,bM m):sD l=some l:=by
 obtain ⟨h,hb⟩:=h;unfold sD;rw [bC (by omega),bC (by omega:(l.length:Int)≤1048576),Bool.and_self,aN];rw [aJd _ (by omega) (λk hk r hr=>?_) (λr=>?_)];rfl
 ·unfold mW;simp only;rw [gC hk,aN,dR hk,aA,aWE (hb _ (List.getElem_mem hk)),aA,dR (hr▸hk),aA,dJ]
 ·unfold mW;simp only;rw [gS (bA _),aS]
theorem aWF {r:Rp} (h:bR r):sE r=some r:=by
 unfold sE;rw [aWD h.1,aA,aTM h.2.1,aA,aVM h.2.2.1,aA]
theorem aHd {α:Type} [DecidableEq α] {body:Int→Option (Int ⊕ (Unit ⊕ Bool))} {a b:List α} (hl:a.length≤4611686018427387904) (hab:a.length=b.length)
  (hs: ∀ (k:Nat) (h1:k<a.length) (h2:k<b.length),body k=some (bif decide (a[k]=b[k]) then .inl (wr (k+1)) else .inr (.inr false))) (he:body a.length=some (.inr (.inl ()))):
  Option.bind (Lp body 0) (λy=>Sum.elim (λ_=>some true) (λy=>some y) y)=some (decide (a=b)):=by
 have key: ∀ (P:Nat→Bool),(∀ (k:Nat) (h1:k<a.length) (h2:k<b.length),P k=decide (a[k]=b[k]))→Lp body 0=some (bif (List.range a.length).all P then .inl () else .inr false)→Option.bind (Lp body 0) (λy=>Sum.elim (λ_=>some true) (λy=>some y) y)=some (decide (a=b)):=by
  intro P hP e;rw [e,aA]
  have:(List.range a.length).all P=decide (a=b):=by
   rw [Bool.eq_iff_iff,vP,iO];constructor
   ·intro h;refine List.ext_getElem hab λk h1 h2=>?_;have:=h k h1;rw [hP k h1 h2] at this;exact of_decide_eq_true this
   ·rintro rfl k hk;rw [hP k hk hk];simp
  rw [this];cases decide (a=b) <;> rfl
 refine key (λk=>if h:k<a.length then if h2:k<b.length then decide (a[k]=b[k]) else false else false) (λk h1 h2=>by rw [dif_pos h1,dif_pos h2]) (aAB _ _ hl (λk hk=>?_) (λ_=>he));rw [dif_pos hk,dif_pos (hab▸hk)];exact hs k hk (hab▸hk)
theorem aEM {α β:Type} {a:List α} {b:List β} :decide ((a.length:Int)=(b.length:Int))=decide (a.length=b.length):=by
 rw [Bool.eq_iff_iff,iO,iO];omega
theorem aKb {body:Int→Option (Int ⊕ (Unit ⊕ Bool))} {a b:List Int} (hl:a.length≤4611686018427387904)
  (hb:body=λx=>bif decide (x<(a.length:Int)) then (Option.bind (cP a x) λv3=>Option.bind (cP b x) λv4=>bif !decide (v3=v4) then (some (.inr (.inr (false)))) else (some (.inl (wr (x+1))))) else (some (.inr (.inl ())))):
  (bif !decide ((a.length:Int)=(b.length:Int)) then some false else Option.bind (Lp body 0) (λy=>Sum.elim (λ_=>some true) (λy=>some y) y))=some (decide (a=b)):=by
 rw [aEM];by_cases h:a.length=b.length
 ·rw [bC h,eC,aS];refine aHd hl h (λk h1 h2=>?_) ?_
  ·rw [hb];simp only;rw [gC h1,aN,dR h1,aA,dR h2,aA];cases decide (a[k]=b[k]) <;> rfl
  ·rw [hb];simp only;rw [gS (bA _),aS]
 ·rw [dM h,Bool.not_false,aN,dM (by rintro rfl;exact h rfl)]
theorem iL {c d:Bool} {o:Option Bool} (h:c=true→o=some d):(bif !c then some false else o)=some (c&&d):=by cases c with|false=>rfl|true=>exact h rfl
theorem aTN {a b:List Int} (h:bI a):pW a b=some (decide (a=b)):=by
 unfold bI at h;exact aKb (body:=xE a b) (by omega) rfl
theorem aKc {d:Bool} :(bif !d then some false else some true)=some d:=by cases d <;> rfl
theorem aWG {a b:Qv} (h:bQ a):uM a b=some (decide (a=b)):=by
 unfold uM;rw [iL (d:=decide (a.src=b.src)&&decide (a.tgt=b.tgt)) (λ_=>?_)]
 ·cases a;cases b;simp [Bool.and_assoc]
 ·rw [aTN h.1,aA];refine iL λ_=>?_;rw [aTN h.2.1,aA,aKc]
theorem aWH {a b:Mt} (h:bM a):uN a b=some (decide (a=b)):=by
 unfold uN;rw [iL (d:=decide (a.cols=b.cols)&&decide (a.cells=b.cells)) (λ_=>?_)]
 ·cases a;cases b;simp [Bool.and_assoc]
 ·refine iL λ_=>?_;rw [aTN h.1,aA,aKc]
theorem aVN {a b:List Mt} (h:a.length≤1048576∧ ∀ m∈a,bM m):sF a b=some (decide (a=b)):=by
 obtain ⟨h,hb⟩:=h;unfold sF;rw [aEM];by_cases e:a.length=b.length
 ·rw [bC e,eC,aS];refine aHd (by omega) e (λk h1 h2=>?_) ?_
  ·unfold mX;rw [gC h1,aN,dR h1,aA,dR h2,aA,aWH (hb _ (List.getElem_mem h1)),aA];cases decide (a[k]=b[k]) <;> rfl
  ·unfold mX;rw [gS (bA _),aS]
 ·rw [dM e,Bool.not_false,aN,dM (by rintro rfl;exact e rfl)]
theorem aWI {a b:Rp} (h:bR a):zE a b=some (decide (a=b)):=by
 unfold zE;rw [iL (d:=decide (a.q=b.q)&&(decide (a.dims=b.dims)&&decide (a.maps=b.maps))) (λ_=>?_)]
 ·cases a;cases b;simp [Bool.and_assoc]
 ·rw [aWG h.1,aA];refine iL λ_=>?_;rw [aTN h.2.1,aA];refine iL λ_=>?_;rw [aVN h.2.2.1,aA,aKc]
end
noncomputable section
open Go.ChangeShapes Go.WideShapes Go.ChangeAt Go.RowKit
theorem oI:aAG Tryz.prog 3 (aBM 1 eI):=aNi Tryz.underlying3
theorem oL:aAG Tryz.prog 22 (aBM 1 eL):=aED Tryz.underlying22 (by decide) (by kernel_rfl) oI
theorem oQ:aAG Tryz.prog 33 (aBM 3 eQ):=by
 intro H enc w fuel cs d ps h hf;obtain ⟨x0,T0,u0⟩:=pT Tryz.underlying33 h hf aHT (i:=0) (ft:=3) rfl (k:=1) (by kernel_rfl) oI;obtain ⟨x1,T1,u1⟩:=pT Tryz.underlying33 h hf u0 (i:=1) (ft:=22) rfl (k:=1) (by kernel_rfl) oL;obtain ⟨x2,T2,u2⟩:=pT Tryz.underlying33 h hf u1 (i:=2) (ft:=22) rfl (k:=1) (by kernel_rfl) oL;exact ⟨⟨x0,x1,x2⟩,_,aHU Tryz.underlying33 h hf u2 (by kernel_rfl) _ rfl⟩
theorem oM:aAG Tryz.prog 93 (aBM 3 eM):=by
 intro H enc w fuel cs d ps h hf;obtain ⟨x0,T0,u0⟩:=pT Tryz.underlying93 h hf aHT (i:=0) (ft:=3) rfl (k:=1) (by kernel_rfl) oI;obtain ⟨x1,T1,u1⟩:=pT Tryz.underlying93 h hf u0 (i:=1) (ft:=3) rfl (k:=1) (by kernel_rfl) oI;obtain ⟨x2,T2,u2⟩:=pT Tryz.underlying93 h hf u1 (i:=2) (ft:=22) rfl (k:=1) (by kernel_rfl) oL;exact ⟨⟨x0,x1,x2⟩,_,aHU Tryz.underlying93 h hf u2 (by kernel_rfl) _ rfl⟩
theorem oMs:aAG Tryz.prog 34 (aBM 1 (λl:List Mt=>[.list 3 (l.map eM)])):=aED Tryz.underlying34 (by decide) (by kernel_rfl) oM
theorem oR:aAG Tryz.prog 36 (aBM 6 eR):=by
 intro H enc w fuel cs d ps h hf;obtain ⟨x0,T0,u0⟩:=pT Tryz.underlying36 h hf aHT (i:=0) (ft:=3) rfl (k:=1) (by kernel_rfl) oI;obtain ⟨x1,T1,u1⟩:=pT Tryz.underlying36 h hf u0 (i:=1) (ft:=33) rfl (k:=3) (by kernel_rfl) oQ;obtain ⟨x2,T2,u2⟩:=pT Tryz.underlying36 h hf u1 (i:=2) (ft:=22) rfl (k:=1) (by kernel_rfl) oL;obtain ⟨x3,T3,u3⟩:=pT Tryz.underlying36 h hf u2 (i:=3) (ft:=34) rfl (k:=1) (by kernel_rfl) oMs;exact ⟨⟨x0,x1,x2,x3⟩,_,aHU Tryz.underlying36 h hf u3 (by kernel_rfl) _ rfl⟩
end
noncomputable section
theorem aOw {w:World} : ∀ {ds:List AV} {vs:List Value} {S:List Nat},RepVs w ds vs S→ ∀ d∈ds,∃ v S',RepD w d v S'
 | [],_,_,_,d,hd=>by cases hd
 |c::cs,vs,S,h,d,hd=>by
  simp only [RepVs] at h;obtain ⟨v,r,S1,S2,_,_,h3,h4⟩:=h;rcases fE.1 hd with rfl|h'
  ·exact ⟨v,S1,h3⟩
  ·exact aOw h4 d h'
theorem aOx {w:World} {b:Nat} : ∀ {ds:List AV} {o:Nat} {S:List Nat},RepCs w b o ds S→ ∀ d∈ds,∃ v S',RepD w d v S'
 | [],_,_,_,d,hd=>by cases hd
 |c::cs,o,S,h,d,hd=>by
  simp only [RepCs] at h;obtain ⟨v,S1,S2,_,_,_,_,h3,h4⟩:=h;rcases fE.1 hd with rfl|h'
  ·exact ⟨v,S1,h3⟩
  ·exact aOx h4 d h'
theorem aOy {w:World} {k b:Nat} : ∀ {es:List (List AV)} {o:Nat} {S:List Nat},RepEs w k b o es S→ ∀ cs∈es,∀ d∈cs,∃ v S',RepD w d v S'
 | [],_,_,_,cs,hc=>by cases hc
 |c::es,o,S,h,cs,hc=>by
  simp only [RepEs] at h;obtain ⟨S1,S2,_,_,h3,h4⟩:=h;rcases fE.1 hc with rfl|h'
  ·exact aOx h3
  ·exact aOy h4 cs h'
theorem aOz {w:World} {k:Nat} {es:List (List AV)} {v:Value} {S:List Nat} (h:RepD w (.list k es) v S):es.length≤9223372036854775807∧ ∀ cs∈es,∀ d∈cs,∃ v S',RepD w d v S':=by
 unfold RepD at h;obtain ⟨a,c,_,h2,h3,h4⟩:=h;have hm:maxLen≤9223372036854775807:=by decide
 refine ⟨by omega,?_⟩;rcases h4 with ⟨rfl,_⟩|⟨b,o,T,_,_,_,h5⟩
 ·intro cs hcs;cases hcs
 ·exact aOy h5
theorem aVO {w:World} {l:List Int} {v:Value} {S:List Nat} (h:RepD w (aKM l) v S):fI l:=by
 have:=(aOz (k:=1) (es:=List.map eI l) h).1
 rwa [cK] at this
theorem aKd {w:World} {ds:List AV} (h: ∀ d∈ds,∃ v S',RepD w d v S') {l:List Int} (hl:aKM l∈ds):fI l:=by
 obtain ⟨v,S,h⟩:=h _ hl;exact aVO h
theorem aRi {w:World} {ds:List AV} (h: ∀ d∈ds,∃ v S',RepD w d v S') {α:Type} {k:Nat} {e:α→List AV} {l:List α} (hl:AV.list k (l.map e)∈ds):fI l∧ ∀ x∈l,∀ d∈e x,∃ v S',RepD w d v S':=by
 obtain ⟨v,S,h⟩:=h _ hl;have:=aOz h;rw [cK] at this;exact ⟨this.1,λx hx=>this.2 _ (List.mem_map.2 ⟨x,hx,rfl⟩)⟩
theorem aVP {w:World} {m:Mt} (h: ∀ d∈eM m,∃ v S',RepD w d v S'):fM m:=aKd h (by simp [eM])
theorem aUT {w:World} {l:List Mt} {ds:List AV} (h: ∀ d∈ds,∃ v S',RepD w d v S') (hl:AV.list 3 (l.map eM)∈ds):fMs l:=by
 obtain ⟨h1,h2⟩:=aRi h hl;exact ⟨h1,λm hm=>aVP (h2 m hm)⟩
theorem aVQ {w:World} {r:Rp} (h: ∀ d∈eR r,∃ v S',RepD w d v S'):fR r:=⟨⟨aKd h (by simp [eR]),aKd h (by simp [eR])⟩,aKd h (by simp [eR]),aUT h (by simp [eR])⟩
theorem aRj {w0 w:World} {v:Value} {S:List Nat} (h:aKK w (.bl true) v S):Ending.returned v= .returned (.bool true):=by rw [h.1]
end
noncomputable section
def sN (f:Nat→Int):Nat→Int
 |0=>0
 |k+1=>sN f k+f k
theorem gZ {f g:Nat→Int} : ∀ {n:Nat},(∀ k,k<n→f k=g k)→sN f n=sN g n
 |0,_=>rfl
 |n+1,h=>by rw [sN,sN,gZ λk hk=>h k (by omega),h n (by omega)]
theorem aNt (f g:Nat→Int): ∀ n,sN (λk=>f k+g k) n=sN f n+sN g n
 |0=>rfl
 |n+1=>by rw [sN,sN,sN,aNt f g n];omega
theorem aNu (c:Int) (f:Nat→Int): ∀ n,sN (λk=>c*f k) n=c*sN f n
 |0=>by simp [sN]
 |n+1=>by rw [sN,sN,aNu c f n,Int.mul_add]
theorem zF: ∀ n,sN (λ_=>0) n=0
 |0=>rfl
 |n+1=>by rw [sN,zF n];rfl
theorem aBp {f:Nat→Int} {j:Nat} : ∀ {n:Nat},j<n→(∀ k,k<n→k≠j→f k=0)→sN f n=f j
 |0,h,_=>absurd h (Nat.not_lt_zero _)
 |n+1,h,hz=>by
  rw [sN];by_cases e:j=n
  ·subst e;rw [gZ (g:=λ_=>0) λk hk=>hz k (by omega) (by omega),zF];omega
  ·rw [aBp (j:=j) (by omega) λk hk hj=>hz k (by omega) hj,hz n (by omega) (by omega)];omega
def Z0 (p x:Int):Prop:=x % p=0
theorem aKe {p x y:Int} (h:Z0 p x) (k:Z0 p y):Z0 p (x+y):=by unfold Z0 at*;rw [Int.add_emod,h,k];simp
theorem aFC {p x:Int} (c:Int) (h:Z0 p x):Z0 p (c*x):=by unfold Z0 at*;rw [Int.mul_emod,h];simp
theorem aUC {p:Int} {f g:Nat→Int} : ∀ {n:Nat},(∀ k,k<n→f k % p=g k % p)→sN f n % p=sN g n % p
 |0,_=>rfl
 |n+1,h=>by rw [sN,sN,Int.add_emod,aUC λk hk=>h k (by omega),h n (by omega),←Int.add_emod]
theorem aRk {p x y:Int} (h:x % p=y % p) (k:Z0 p x):Z0 p y:=by unfold Z0 at*;rw [←h];exact k
def dt (n:Nat) (f x:Nat→Int):Int:=sN (λk=>f k*x k) n
def Kr (p:Int) (m n:Nat) (F:Nat→Nat→Int) (x:Nat→Int):Prop:= ∀ i,i<m→Z0 p (dt n (F i) x)
theorem aNv {p:Int} {n:Nat} {f g x:Nat→Int} (h: ∀ k,k<n→f k % p=g k % p):dt n f x % p=dt n g x % p:=by
 unfold dt;refine aUC λk hk=>?_;rw [Int.mul_emod,h k hk,←Int.mul_emod]
theorem aRl {n:Nat} {f g x:Nat→Int} (c:Int):dt n (λk=>f k+c*g k) x=dt n f x+c*dt n g x:=by
 unfold dt;rw [←aNu,←aNt];refine gZ λk hk=>?_;rw [Int.add_mul,Int.mul_assoc]
theorem aPA {n:Nat} {f x:Nat→Int} (c:Int):dt n (λk=>c*f k) x=c*dt n f x:=by
 unfold dt;rw [←aNu];refine gZ λk hk=>?_;rw [Int.mul_assoc]
theorem aRm {p:Int} (hp:iR p=true) {m n k r j:Nat} (hj:j<n) (hk:k<m) (hr:r<m) {F:Nat→Nat→Int} (hin:wT p m n F) (hrj:F r j≠0) (x:Nat→Int):Kr p m n (fF p F k r j) x↔Kr p m n F x:=by
 have hb:=dF hp;have hrb:=hin r j hr hj;have hiv:=aRM hp (r:=F r j) ⟨by omega,by omega⟩;generalize hs:aBH p (F r j)=s at*;have hrow: ∀ c,fF p F k r j k c=(F r c*s) % p:=by intro c;simp [fF,wU,rH,vQ,hs]
 have hoth: ∀ i c,i≠k→fF p F k r j i c=((if i=r then F k c else F i c) - (if i=r then F k j else F i j)*fF p F k r j k c) % p:=by
  intro i c hi;simp [fF,wU,rH,vQ,hi,hs]
 have e1:dt n (fF p F k r j k) x % p=(s*dt n (F r) x) % p:=by
  rw [←aPA];refine aNv λc hc=>?_;rw [hrow,Int.mul_comm,Int.emod_emod_of_dvd _ (Int.dvd_refl p)]
 have e2:dt n (F r) x % p=(F r j*dt n (fF p F k r j k) x) % p:=by
  rw [←aPA];refine aNv λc hc=>?_;rw [hrow,Int.mul_emod,Int.emod_emod_of_dvd _ (Int.dvd_refl p),←Int.mul_emod,show F r j*(F r c*s)=(F r j*s)*F r c by rw [Int.mul_comm (F r c),Int.mul_assoc],Int.mul_emod,hiv.2.2];simp
 have e3: ∀ i,i≠k→ ∀ G:Nat→Int,(∀ c,G c=if i=r then F k c else F i c)→dt n (fF p F k r j i) x % p=(dt n G x+ -(G j)*dt n (fF p F k r j k) x) % p:=by
  intro i hi G hG;rw [←aRl];refine aNv λc hc=>?_;rw [hoth i c hi,Int.emod_emod_of_dvd _ (Int.dvd_refl p),←hG,←hG,Int.neg_mul,Int.sub_eq_add_neg]
 constructor
 ·intro h;have hkk:=h k hk;have hrr:Z0 p (dt n (F r) x):=by unfold Z0;rw [e2];exact aFC _ hkk
  have key: ∀ i,i<m→i≠k→Z0 p (dt n (λc=>if i=r then F k c else F i c) x):=by
   intro i hi hik;have h1:=h i hi;unfold Z0 at h1;rw [e3 i hik (λc=>if i=r then F k c else F i c) (λc=>rfl)] at h1;have h2:=aKe (y:=(if i=r then F k j else F i j)*dt n (fF p F k r j k) x) h1 (aFC _ hkk);refine aRk (congrArg (· % p) ?_) h2;rw [Int.neg_mul];omega
  intro i hi;by_cases e:i=r
  ·subst e;exact hrr
  ·by_cases e4:i=k
   ·subst e4;have:=key r hr (λh=>e h.symm);simpa using this
   ·have:=key i hi e4;simpa [e] using this
 ·intro h;have hkk:Z0 p (dt n (fF p F k r j k) x):=by unfold Z0;rw [e1];exact aFC _ (h r hr)
  intro i hi;by_cases e:i=k
  ·subst e;exact hkk
  ·unfold Z0;rw [e3 i e (λc=>if i=r then F k c else F i c) (λc=>rfl)];refine aKe ?_ (aFC _ hkk);by_cases e4:i=r
   ·simp only [e4,if_true];exact h k hk
   ·simp only [e4,if_false];exact h i hi
theorem xV {p:Int} (hp:iR p=true) {m n:Nat} {F:Nat→Nat→Int} (hin:wT p m n F) (x:Nat→Int): ∀ t,t≤n→(Kr p m n (bF p m F t).1 x↔Kr p m n F x)
 |0,_=>Iff.rfl
 |t+1,ht=>by
  have ih:=xV hp hin x t (by omega);have hin2:=pM (by have:=dF hp;omega:0<p) hin t;have hlen:= @kZ p m F t;show Kr p m n (gI p m (bF p m F t) t).1 x↔_;unfold gI;split
  ·exact ih
  ·rename_i h1;have hle:= @aAC (bF p m F t).1 t (m - (bF p m F t).2.length) (bF p m F t).2.length;have hh:= @aCn (bF p m F t).1 t (m - (bF p m F t).2.length) (bF p m F t).2.length (by omega);refine Iff.trans ?_ ih;exact aRm hp (by omega) (by omega) (by omega) hin2 hh x
def kx (F:Nat→Nat→Int) (L:List Nat) (k:Nat):Nat→Int:=λc=>if c=k then 1 else -(sN (λi=>if L[i]?.getD 0=c then F i k else 0) L.length)
theorem aMK {m n:Nat} {F:Nat→Nat→Int} {L:List Nat} (h:Red m n F L) {k:Nat} (hk:k<n) (hL: ∀ i,i<L.length→L[i]?.getD 0≠k) (g:Nat→Int):dt n g (kx F L k)=g k - sN (λi=>g (L[i]?.getD 0)*F i k) L.length:=by
 have key: ∀ a,a≤L.length→sN (λc=>g c*(if c=k then 1 else -(sN (λi=>if L[i]?.getD 0=c then F i k else 0) a))) n=g k - sN (λi=>g (L[i]?.getD 0)*F i k) a:=by
  intro a;induction a with
  |zero=>
   intro _;rw [aBp (j:=k) hk]
   ·rw [aU rfl];simp [sN]
   ·intro c hc hck;rw [aV hck];simp [sN]
  |succ a ih=>
   intro ha;have ih:=ih (by omega);have hlt:=h.lt a (by omega);have hne:=hL a (by omega)
   have e:sN (λc=>g c*(if c=k then 1 else -(sN (λi=>if L[i]?.getD 0=c then F i k else 0) (a+1)))) n
     =sN (λc=>g c*(if c=k then 1 else -(sN (λi=>if L[i]?.getD 0=c then F i k else 0) a))+(if c=L[a]?.getD 0 then -(g c*F a k) else 0)) n:=by
    refine gZ λc hc=>?_;by_cases e1:c=k
    ·rw [aU e1,aU e1,aV (by omega)];omega
    ·rw [aV e1,aV e1];simp only [sN];by_cases e2:c=L[a]?.getD 0
     ·rw [aU e2,aU e2.symm,Int.neg_add,Int.mul_add,Int.mul_neg (g c) (F a k)]
     ·rw [aV e2,aV (λh=>e2 h.symm)];simp
   rw [e,aNt,ih,aBp (j:=L[a]?.getD 0) hlt (λc _ hc=>aV hc),aU rfl];simp only [sN];omega
 have:=key L.length (bA _);exact this
theorem aKf {p:Int} {m n:Nat} {F:Nat→Nat→Int} {L:List Nat} (h:Red m n F L) {k:Nat} (hk:k<n) (hL: ∀ i,i<L.length→L[i]?.getD 0≠k):Kr p m n F (kx F L k):=by
 intro i hi;rw [aMK h hk hL];rcases dV i L.length with hl|hl
 ·rw [aBp (j:=i) hl]
  ·rw [h.one i hl];unfold Z0;rw [Int.one_mul,Int.sub_self];simp
  ·intro t ht hti;rw [h.col t i ht hi (λe=>hti e.symm)];simp
 ·rw [h.low i k hl hi hk,gZ (g:=λ_=>0) λt ht=>by rw [h.low i _ hl hi (h.lt t ht)];simp];rw [zF];unfold Z0;simp
theorem aGg {p:Int} (hp:iR p=true) {m m' n:Nat} {F G:Nat→Nat→Int} {L M:List Nat} (hF:Red m n F L) (hG:Red m' n G M) (hK: ∀ x,Kr p m n F x→Kr p m' n G x) {t:Nat} (ht:t<M.length): ∃ i,i<L.length∧L[i]?.getD 0=M[t]?.getD 0:=by
 have hb:=dF hp;refine Classical.byContradiction λhn=>?_;have hL: ∀ i,i<L.length→L[i]?.getD 0≠M[t]?.getD 0:=λi hi e=>hn ⟨i,hi,e⟩;have hk:=hG.lt t ht;have h1:=hK _ (aKf (p:=p) hF hk hL) t (by have:=hG.len;omega);rw [aMK hF hk hL,hG.one t ht,gZ (g:=λ_=>0) λi hi=>?_,zF] at h1
 ·unfold Z0 at h1;rw [Int.sub_zero,Int.emod_eq_of_lt (by omega) (by omega)] at h1;cases h1
 ·rcases dV (L[i]?.getD 0) (M[t]?.getD 0) with e|e
  ·rw [hG.left t _ ht e];simp
  ·have:=hL i hi;rw [hF.left i _ hi (by omega)];simp
theorem aFD: ∀ {L M:List Nat},(∀ i k,i<k→k<L.length→L[i]?.getD 0<L[k]?.getD 0)→(∀ i k,i<k→k<M.length→M[i]?.getD 0<M[k]?.getD 0)→(∀ i,i<L.length→ ∃ j,j<M.length∧M[j]?.getD 0=L[i]?.getD 0)→(∀ j,j<M.length→ ∃ i,i<L.length∧L[i]?.getD 0=M[j]?.getD 0)→L=M
 | [],[],_,_,_,_=>rfl
 | [],y::M,_,_,_,h=>by obtain ⟨i,hi,_⟩:=h 0 (by simp);simp at hi
 |x::L,[],_,_,h,_=>by obtain ⟨i,hi,_⟩:=h 0 (by simp);simp at hi
 |x::L,y::M,hL,hM,h1,h2=>by
  have sL: ∀ i k,i<k→k<L.length→L[i]?.getD 0<L[k]?.getD 0:=λi k hik hk=>by have:=hL (i+1) (k+1) (by omega) (by simp;omega);simpa using this
  have sM: ∀ i k,i<k→k<M.length→M[i]?.getD 0<M[k]?.getD 0:=λi k hik hk=>by have:=hM (i+1) (k+1) (by omega) (by simp;omega);simpa using this
  have xL: ∀ i,i<L.length→x<L[i]?.getD 0:=λi hi=>by have:=hL 0 (i+1) (by omega) (by simp;omega);simpa using this
  have yM: ∀ i,i<M.length→y<M[i]?.getD 0:=λi hi=>by have:=hM 0 (i+1) (by omega) (by simp;omega);simpa using this
  have exy:x=y:=by
   obtain ⟨j,hj,e1⟩:=h1 0 (by simp);obtain ⟨i,hi,e2⟩:=h2 0 (by simp);simp at e1 e2
   have b1:y≤x:=by
    cases j with
    |zero=>simp at e1;omega
    |succ j=>simp at e1 hj;have:=yM j hj;omega
   have b2:x≤y:=by
    cases i with
    |zero=>simp at e2;omega
    |succ i=>simp at e2 hi;have:=xL i hi;omega
   omega
  subst exy;congr 1;refine aFD sL sM (λi hi=>?_) (λj hj=>?_)
  ·obtain ⟨j,hj,e⟩:=h1 (i+1) (by simp;omega);simp at e;have:=xL i hi;cases j with
   |zero=>simp at e;omega
   |succ j=>simp at e hj;exact ⟨j,hj,e⟩
  ·obtain ⟨i,hi,e⟩:=h2 (j+1) (by simp;omega);simp at e;have:=yM j hj;cases i with
   |zero=>simp at e;omega
   |succ i=>simp at e hi;exact ⟨i,hi,e⟩
theorem aNw {p:Int} (hp:iR p=true) {m m' n:Nat} {F G:Nat→Nat→Int} {L M:List Nat} (hF:Red m n F L) (hG:Red m' n G M) (iF:wT p m n F) (iG:wT p m' n G) (hK: ∀ x,Kr p m n F x↔Kr p m' n G x):L=M∧ ∀ i j,i<L.length→j<n→F i j=G i j:=by
 have e:L=M:=aFD hF.inc hG.inc (λi hi=>aGg hp hG hF (λx=>(hK x).2) hi) (λj hj=>aGg hp hF hG (λx=>(hK x).1) hj);subst e;refine ⟨rfl,λi k hi hk=>?_⟩;have hm:=hF.len;have hm':=hG.len;by_cases hL: ∃ t,t<L.length∧L[t]?.getD 0=k
 ·obtain ⟨t,ht,rfl⟩:=hL;by_cases e:i=t
  ·subst e;rw [hF.one i hi,hG.one i hi]
  ·rw [hF.col t i ht (by omega) e,hG.col t i ht (by omega) e]
 ·have hL: ∀ t,t<L.length→L[t]?.getD 0≠k:=λt ht e=>hL ⟨t,ht,e⟩;have h1:=(hK _).1 (aKf (p:=p) hF hk hL) i (by omega);rw [aMK hF hk hL,aBp (j:=i) hi (λt ht hti=>by rw [hG.col t i ht (by omega) (λe=>hti e.symm)];simp),hG.one i hi,Int.one_mul] at h1;unfold Z0 at h1;have b1:=iF i k (by omega) hk;have b2:=iG i k (by omega) hk;have hd:=Int.dvd_of_emod_eq_zero h1;obtain ⟨c,hc⟩:=hd
  have hc0:c=0:=by
   rcases Int.lt_trichotomy c 0 with h|h|h
   ·have:=Int.mul_le_mul_of_nonneg_left (show c≤ -1 by omega) (by omega:0≤p);omega
   ·exact h
   ·have:=Int.mul_le_mul_of_nonneg_left (show 1≤c by omega) (by omega:0≤p);omega
  subst hc0;simp at hc;omega
theorem aKg {p:Int} (hp:iR p=true) {m m' n:Nat} {F G:Nat→Nat→Int} (iF:wT p m n F) (iG:wT p m' n G) (hK: ∀ x,Kr p m n F x↔Kr p m' n G x):(bF p m F n).2=(bF p m' G n).2∧ ∀ i j,i<(bF p m F n).2.length→j<n→(bF p m F n).1 i j=(bF p m' G n).1 i j:=by
 have hb:=dF hp;refine aNw hp (aAD hp iF n (bA _)) (aAD hp iG n (bA _)) (pM (by omega) iF n) (pM (by omega) iG n) λx=>?_;rw [xV hp iF x n (bA _),hK,xV hp iG x n (bA _)]
end
noncomputable section
theorem gA {c d:Bool} {o:Option Bool} (h:c=true→o=some d):(bif c then o else some false)=some (c&&d):=by cases c with|false=>rfl|true=>exact h rfl
theorem aAI {c d:Bool} :(bif c then some d else some false)=some (c&&d):=by cases c <;> rfl
theorem aPB {x a b:Int} :(bif decide (a≤x) then some (decide (x≤b)) else some false)=some (inR x a b):=by
 rw [aAI];unfold inR;by_cases h1:a≤x <;> by_cases h2:x≤b <;> simp [h1,h2]
theorem aCS (x a b:Int):mJ x a b=some (inR x a b):=aPB
theorem yN (x a b:Int):gT x a b=some (inR x a b):=aPB
theorem aML (p:Int):(bif decide (p=2) then some true else bif decide (p=3) then some true else some (decide (p=5)))=some (iR p):=by
 unfold iR;by_cases h2:p=2 <;> by_cases h3:p=3 <;> by_cases h5:p=5 <;> simp [h2,h3,h5]
theorem aEN (p:Int):kB p=some (iR p):=aML p
theorem aEO (p:Int):kC p=some (iR p):=aML p
theorem aHe {a b:List Int} (h:bI a):tR a b=some (decide (a=b)):=by
 unfold bI at h;exact aKb (body:=xB a b) (by omega) rfl
theorem aFE {a b:List Int} (h:bI a):eK a b=some (decide (a=b)):=by
 unfold bI at h;exact aKb (body:=kA a b) (by omega) rfl
theorem aPt {a b:Qv} (h:bQ a):mT a b=some (decide (a=b)):=by
 unfold mT;rw [gA (d:=decide (a.src=b.src)&&decide (a.tgt=b.tgt)) (λ_=>?_)]
 ·cases a;cases b;simp
 ·rw [aHe h.1,aA];refine gA λ_=>?_;rw [aHe h.2.1,aA]
theorem aPu {a b:Qv} (h:bQ a):mU a b=some (decide (a=b)):=by
 unfold mU;rw [gA (d:=decide (a.src=b.src)&&decide (a.tgt=b.tgt)) (λ_=>?_)]
 ·cases a;cases b;simp
 ·rw [aFE h.1,aA];refine gA λ_=>?_;rw [aFE h.2.1,aA]
theorem aCu (p:Int) {v:List Int} (h:bI v):iW p v=some (iR p&&decide (v.length≤64)&&v.all λx=>inR x 0 (wr (p - 1))):=by
 unfold bI at h;unfold iW;rw [aEN,aA];cases iR p with
 |false=>rfl
 |true=>
  rw [eC,aS,Bool.true_and];by_cases h64:v.length≤64
  ·rw [dM (by omega),aS,bC h64,Bool.true_and];rw [aAB (λk=>inR (v[k]?.getD 0) 0 (wr (p - 1))) false (n:=v.length) (by omega) (λk hk=>?_) (λ_=>?_),aBI 0 v (λx=>inR x 0 (wr (p - 1))),aA]
   ·cases v.all _ <;> rfl
   ·unfold oO;rw [gC hk,aN,iJ 0 hk,aA,yN,aA];cases inR _ 0 _ <;> rfl
   ·unfold oO;rw [gS (bA _),aS]
  ·rw [bC (by omega),aN,dM h64,Bool.false_and]
theorem aMM {v:List Int} {f:Int→Option Bool} (P:Int→Bool) (hf: ∀ x,f x=some (P x)) (h:bI v): ∃ i:Int,fJ v f=some i∧decide (0≤i)=v.any P:=by
 unfold bI at h;unfold fJ;rw [wY (s0:=0) (s:=0) (n:=v.length) (λk=>bif P (v[k]?.getD 0) then some (k:Int) else none) rfl (by omega) (Nat.zero_le _) (λk _ hk=>?_) (λ_=>?_)]
 ·rw [aA];cases e:(List.range' 0 (v.length - 0)).findSome? (λk:Nat=>bif P (v[k]?.getD 0) then some (k:Int) else none) with
  |none=>
   refine ⟨-1,rfl,?_⟩;rw [List.findSome?_eq_none_iff] at e
   have:v.any P=false:=by
    rw [List.any_eq_false];intro x hx;obtain ⟨k,hk,rfl⟩:=List.mem_iff_getElem.1 hx;have:=e k (by simp;omega);simp only [iY hk,lF] at this;cases hp:P v[k] with
    |false=>simp
    |true=>rw [hp] at this;cases this
   rw [this];rfl
  |some i=>
   refine ⟨i,rfl,?_⟩;obtain ⟨k,hk,he⟩:=List.exists_of_findSome?_eq_some e;simp at hk;have hkl:k<v.length:=by omega
   rw [iY hkl] at he;simp only [lF] at he;cases hp:P v[k] with
   |false=>rw [hp] at he;cases he
   |true=>
    rw [hp] at he;cases he;rw [bC (by omega),eq_comm,List.any_eq_true];exact ⟨_,List.getElem_mem hkl,hp⟩
 ·unfold cN;rw [gC hk,aN,iJ 0 hk,aA,hf,aA];cases P _ <;> rfl
 ·unfold cN;rw [gS (bA _),aS]
theorem aAf {v:List Int} (h:bI v) (a b:Int):hY v a b=some (v.all λx=>inR x a b):=by
 unfold hY dK;obtain ⟨i,h1,h2⟩:=aMM (f:=λb0=>kF b0 a b) (λx=> !inR x a b) (λx=>by simp only [kF];rw [aCS,aA]) h;rw [h1,aA,aA,h2,List.not_any_eq_all_not];simp
theorem aPv (p:Int) {v:List Int} (h:bI v):uF p v=some (iR p&&decide (v.length≤64)&&v.all λx=>inR x 0 (wr (p - 1))):=by
 unfold uF;rw [aEO,aA,aAf h,aA,aAI,aAI,Bool.and_assoc];congr 3;rw [Bool.eq_iff_iff,iO,iO];omega
def aAP (p:Int) (m:Mt):Bool:=inR m.rows 0 8&&(inR m.cols 0 8&&(decide ((m.cells.length:Int)=wr (m.rows*m.cols))&&(iR p&&decide (m.cells.length≤64)&&m.cells.all λx=>inR x 0 (wr (p - 1)))))
theorem aBR (p:Int) {m:Mt} (h:bM m):gU p m=some (aAP p m):=by
 unfold gU aAP;rw [yN,aA];refine gA λ_=>?_;rw [yN,aA];refine gA λ_=>?_;refine gA λ_=>?_;rw [aCu p h.1,aA]
theorem aJe (p:Int) {m:Mt} (h:bM m):pQ p m=some (aAP p m):=by
 unfold pQ aAP;rw [aCS,aA];refine gA λ_=>?_;rw [aCS,aA];refine gA λ_=>?_;refine gA λ_=>?_;rw [aPv p h.1,aA]
theorem aBq {p:Int} {m:Mt} (h:aAP p m=true):iR p=true∧ ∃ (r c:Nat) (F:Nat→Nat→Int),r≤8∧c≤8∧m=⟨r,c,bT r c F⟩∧ ∀ i j,i<r→j<c→0≤F i j∧F i j<p:=by
 unfold aAP at h;simp only [cW,iO,List.all_eq_true] at h;obtain ⟨h1,h2,h3,⟨h4,h5⟩,h6⟩:=h;have h1:=rG h1;have h2:=rG h2;refine ⟨h4,m.rows.toNat,m.cols.toNat,λi j=>m.cells[i*m.cols.toNat+j]?.getD 0,by omega,by omega,?_,?_⟩
 ·obtain ⟨a,b,l⟩:=m;simp only at*;obtain ⟨r,rfl⟩:=Int.eq_ofNat_of_zero_le h1.1;obtain ⟨c,rfl⟩:=Int.eq_ofNat_of_zero_le h2.1;have hb:r*c≤64:=Nat.mul_le_mul (by omega:r≤8) (by omega:c≤8);rw [aHJ (by omega)] at h3;simp only [dJ];rw [←aSz (by omega)]
 ·intro i j hi hj;show 0≤m.cells[i*m.cols.toNat+j]?.getD 0∧m.cells[i*m.cols.toNat+j]?.getD 0<p;have hx:=aHI hi hj
  have e:((m.rows.toNat*m.cols.toNat:Nat):Int)=m.rows*m.cols:=by
   rw [Int.natCast_mul,Int.toNat_of_nonneg h1.1,Int.toNat_of_nonneg h2.1]
  have hb:m.rows.toNat*m.cols.toNat≤64:=Nat.mul_le_mul (by omega:m.rows.toNat≤8) (by omega:m.cols.toNat≤8);rw [cZ (by omega)] at h3;have hl:i*m.cols.toNat+j<m.cells.length:=by omega
  have:=rG (h6 _ (List.getElem_mem hl));rw [iY hl,lF];have hp:=dF h4;rw [cZ (by omega)] at this;omega
def aFl (q:Qv):Bool:=inR q.n 1 5&&(decide ((q.src.length:Int)=(q.tgt.length:Int))&&(decide ((q.src.length:Int)≤6)&&((q.src.all λx=>inR x 0 (wr (q.n - 1)))&&(q.tgt.all λx=>inR x 0 (wr (q.n - 1))))))
theorem aTO {q:Qv} (h:bQ q):uG q=some (aFl q):=by
 unfold uG aFl;rw [aCS,aA];refine gA λ_=>gA λ_=>gA λ_=>?_;rw [aAf h.1,aA];refine gA λ_=>?_;rw [aAf h.2.1,aA]
theorem aTP {q:Qv} (h:bQ q):uA q=some (aFl q):=by
 obtain ⟨h1,h2,_⟩:=h;unfold bI at h1 h2;unfold uA;rw [aAB (n:=min q.src.length q.tgt.length) (λk=>inR (q.src[k]?.getD 0) 0 (wr (q.n - 1))&&inR (q.tgt[k]?.getD 0) 0 (wr (q.n - 1))) false (by omega) (λk hk=>?_) (λ_=>?_)]
 ·rw [aA];unfold aFl;by_cases e:q.src.length=q.tgt.length
  ·have e2:min q.src.length q.tgt.length=q.src.length:=by omega
   have hall:(List.range q.src.length).all (λk=>inR (q.src[k]?.getD 0) 0 (wr (q.n - 1))&&inR (q.tgt[k]?.getD 0) 0 (wr (q.n - 1)))=((q.src.all λx=>inR x 0 (wr (q.n - 1)))&&(q.tgt.all λx=>inR x 0 (wr (q.n - 1)))):=by
    rw [←aBI 0 q.src,←aBI 0 q.tgt,←e];rw [Bool.eq_iff_iff,cW,vP,vP,vP];simp only [cW];exact ⟨λh=>⟨λk hk=>(h k hk).1,λk hk=>(h k hk).2⟩,λh k hk=>⟨h.1 k hk,h.2 k hk⟩⟩
   rw [e2,hall,bC (by omega:(q.src.length:Int)=(q.tgt.length:Int))];cases (q.src.all λx=>inR x 0 (wr (q.n - 1)))&&(q.tgt.all λx=>inR x 0 (wr (q.n - 1))) with
   |false=>simp
   |true=>
    simp only [aN,Sum.elim_inl];rw [yN,aA,bC (by omega:(q.tgt.length:Int)=(q.src.length:Int)),aAI,aAI];simp
  ·rw [dM (by omega: ¬ (q.src.length:Int)=(q.tgt.length:Int))];simp only [Bool.false_and,Bool.and_false];cases (List.range (min q.src.length q.tgt.length)).all _ with
   |false=>rfl
   |true=>
    simp only [aN,Sum.elim_inl];rw [yN,aA,dM (by omega: ¬ (q.tgt.length:Int)=(q.src.length:Int)),aAI,aAI];simp
 ·unfold oK;rw [gC (by omega),aN,gC (by omega),aN,iJ 0 (by omega),aA,yN,aA,iJ 0 (by omega),aA,yN,aA];cases inR (q.src[k]?.getD 0) 0 (wr (q.n - 1)) <;> cases inR (q.tgt[k]?.getD 0) 0 (wr (q.n - 1)) <;> rfl
 ·unfold oK;by_cases e:q.src.length≤q.tgt.length
  ·rw [gS (by omega),aS]
  ·rw [gC (by omega),aN,gS (by omega),aS]
theorem aAg {q:Qv} (h:aFl q=true): ∃ n:Nat,q.n=n∧1≤n∧n≤5∧q.src.length=q.tgt.length∧q.src.length≤6∧(∀ x∈q.src,0≤x∧x<n)∧ ∀ x∈q.tgt,0≤x∧x<n:=by
 unfold aFl at h;simp only [cW,iO,List.all_eq_true] at h;obtain ⟨h1,h2,h3,h4,h5⟩:=h;have h1:=rG h1;rw [cZ (by omega)] at h4 h5;refine ⟨q.n.toNat,by omega,by omega,by omega,by omega,by omega,λx hx=>?_,λx hx=>?_⟩
 ·have:=rG (h4 x hx);omega
 ·have:=rG (h5 x hx);omega
def aFm (q:Qv) (d:List Int):Bool:=aFl q&&(decide ((d.length:Int)=q.n)&&((d.all λx=>inR x 0 4)&&decide (d.sum≤8)))
theorem aHf {d:List Int} (h: ∀ x∈d,0≤x∧x≤4):0≤d.sum∧d.sum≤4*d.length:=by
 induction d with
 |nil=>simp
 |cons x d ih=>
  have h1:=h x (by simp);have h2:=ih λy hy=>h y (by simp [hy]);simp only [List.sum_cons,List.length_cons];omega
theorem aHg {d:List Int} {k:Nat} (hk:k<d.length):(d.take (k+1)).sum=(d.take k).sum +d[k]?.getD 0:=by
 rw [aCM hk,List.sum_append];simp [hk]
theorem aKh {d:List Int} (h: ∀ x∈d,0≤x∧x≤4) (hl:d.length≤1048576):lM d=some d.sum:=by
 unfold lM;rw [cF (r:=d.sum) (λk=>((d.take k).sum,(k:Int))) d.length (by simp) (λk hk=>?_) (λ_=>?_)];rfl
 ·unfold tY;simp only;rw [gC hk,aN,iJ 0 hk,aA,bK hk (by omega)];have h1:=aHf (d:=d.take (k+1)) λx hx=>h x (List.mem_of_mem_take hx);rw [←aHg hk,cZ (by simp at h1;omega)]
 ·unfold tY;simp only;rw [gS (bA _),aS,List.take_length]
theorem aNx {q:Qv} {d:List Int} (hq:bQ q) (hd:bI d):vZ q d=some (aFm q d):=by
 unfold vZ aFm;rw [aTO hq,aA];refine gA λ_=>gA λ_=>?_;rw [aAf hd,aA];refine gA λh=>?_;rw [aKh (λx hx=>rG (List.all_eq_true.1 h x hx)) hd,aA]
theorem aNy {q:Qv} {d:List Int} (hq:bQ q) (hd:bI d):vY q d=some (aFm q d):=by
 unfold bI at hd;unfold vY aFm;rw [aTP hq,aA];refine iL λ_=>iL λ_=>?_;cases hall:d.all (λx=>inR x 0 4) with
 |true=>
  have hb: ∀ x∈d,0≤x∧x≤4:=λx hx=>rG (List.all_eq_true.1 hall x hx);rw [cF (r:= .inl d.sum) (λk=>((d.take k).sum,(k:Int))) d.length (by simp) (λk hk=>?_) (λ_=>?_)];rfl
  ·unfold iT;simp only;rw [gC hk,aN,iJ 0 hk,aA,yN,aA];have hin:inR (d[k]?.getD 0) 0 4=true:=by rw [iY hk];exact List.all_eq_true.1 hall _ (List.getElem_mem hk)
   rw [hin,eC,aS,aA,bK hk (by omega)];have h1:=aHf (d:=d.take (k+1)) λx hx=>hb x (List.mem_of_mem_take hx);rw [←aHg hk,cZ (by simp at h1;omega)]
  ·unfold iT;simp only;rw [gS (bA _),aS,List.take_length]
 |false=>
  have key:=aKN (body:=iT d) (s:=(0,0)) (λs=> ∃ k:Nat,s.2=k∧k≤d.length∧ ∀ j,j<k→inR (d[j]?.getD 0) 0 4=true) (λs=>d.length - s.2.toNat) (λr=>r= .inr false)
   ⟨0,rfl,Nat.zero_le _,λj hj=>absurd hj (Nat.not_lt_zero _)⟩ (λs ⟨k,hs,hk,hj⟩=>?_)
  ·obtain ⟨r,h1,h2⟩:=key;rw [h1,h2];rfl
  ·obtain ⟨t,s2⟩:=s;simp only at hs;subst hs;rcases dV k d.length with hlt|hge
   ·unfold iT;simp only;rw [gC hlt,aN,iJ 0 hlt,aA,yN,aA];cases hin:inR (d[k]?.getD 0) 0 4 with
    |false=>exact .inr ⟨_,rfl,rfl⟩
    |true=>
     rw [eC,aS,aA,bK hlt (by omega)];refine .inl ⟨_,rfl,⟨k+1,rfl,hlt,λj hj2=>?_⟩,by simp;omega⟩;by_cases e:j=k
     ·subst e;exact hin
     ·exact hj j (by omega)
   ·exfalso
    have:d.all (λx=>inR x 0 4)=true:=by
     rw [←aBI 0 d,vP];exact λj hj'=>hj j (by omega)
    rw [hall] at this;cases this
theorem jV {q:Qv} {d:List Int} (h:aFm q d=true):aFl q=true∧(d.length:Int)=q.n∧(∀ x∈d,0≤x∧x≤4)∧d.sum≤8:=by
 unfold aFm at h;simp only [cW,iO,List.all_eq_true] at h;exact ⟨h.1,h.2.1,λx hx=>rG (h.2.2.1 x hx),h.2.2.2⟩
def kV (r:Rp):Bool:=iR r.p&&(aFm r.q r.dims&&(decide ((r.maps.length:Int)=(r.q.src.length:Int))&&(List.range r.maps.length).all λk=>
 aAP r.p (r.maps[k]?.getD ⟨0,0,[]⟩)&&(decide ((r.maps[k]?.getD ⟨0,0,[]⟩).cols=r.dims[(r.q.src[k]?.getD 0).toNat]?.getD 0)&&decide ((r.maps[k]?.getD ⟨0,0,[]⟩).rows=r.dims[(r.q.tgt[k]?.getD 0).toNat]?.getD 0))))
theorem fT {α:Type} {l:List α} {k:Nat} (d:α) (h:k<l.length):l[k]?.getD d∈l:=by rw [iY h];exact List.getElem_mem h
theorem hZ {r:Rp} (h:bR r):dU r=some (kV r):=by
 obtain ⟨h1,h2,⟨h3,h4⟩,_⟩:=h;unfold dU kV;rw [aEN,aA];refine iL λhF=>?_;rw [aNy h1 h2,aA];refine iL λhD=>?_;obtain ⟨hQ,hd1,hd2,_⟩:=jV hD;obtain ⟨n,hn,_,_,hq1,hq2,hq3,hq4⟩:=aAg hQ;refine iL λhL=>?_;have hL:=of_decide_eq_true hL;rw [aAB (λk=>aAP r.p (r.maps[k]?.getD ⟨0,0,[]⟩)&&(decide ((r.maps[k]?.getD ⟨0,0,[]⟩).cols=r.dims[(r.q.src[k]?.getD 0).toNat]?.getD 0)&&decide ((r.maps[k]?.getD ⟨0,0,[]⟩).rows=r.dims[(r.q.tgt[k]?.getD 0).toNat]?.getD 0))) false (n:=r.maps.length) (by omega) (λk hk=>?_) (λ_=>?_),aA]
 ·cases (List.range r.maps.length).all _ <;> rfl
 ·have hs:=hq3 _ (fT 0 (show k<r.q.src.length by omega));have ht:=hq4 _ (fT 0 (show k<r.q.tgt.length by omega));unfold uE;rw [gC hk,aN,iJ ⟨0,0,[]⟩ hk,aA,aBR _ (h4 _ (fT _ hk)),aA,aA,iJ 0 (by omega),aA,atI 0 hs.1 (by omega),aA,aA,iJ 0 (by omega),aA,atI 0 ht.1 (by omega),aA];cases aAP r.p _ <;> cases decide ((r.maps[k]?.getD _).cols=_) <;> cases decide ((r.maps[k]?.getD _).rows=_) <;> rfl
 ·unfold uE;rw [gS (bA _),aS]
theorem nT {r:Rp} (h:bR r):fS r=some (kV r):=by
 obtain ⟨h1,h2,⟨h3,h4⟩,_⟩:=h;unfold fS kV;rw [aEO,aA];refine iL λhF=>?_;rw [aNx h1 h2,aA];refine iL λhD=>?_;obtain ⟨hQ,hd1,hd2,_⟩:=jV hD;obtain ⟨n,hn,_,_,hq1,hq2,hq3,hq4⟩:=aAg hQ;refine iL λhL=>?_;have hL:=of_decide_eq_true hL;rw [aAB (λk=>aAP r.p (r.maps[k]?.getD ⟨0,0,[]⟩)&&(decide ((r.maps[k]?.getD ⟨0,0,[]⟩).cols=r.dims[(r.q.src[k]?.getD 0).toNat]?.getD 0)&&decide ((r.maps[k]?.getD ⟨0,0,[]⟩).rows=r.dims[(r.q.tgt[k]?.getD 0).toNat]?.getD 0))) false (n:=r.maps.length) (by omega) (λk hk=>?_) (λ_=>?_),aA]
 ·cases (List.range r.maps.length).all _ <;> rfl
 ·have hs:=hq3 _ (fT 0 (show k<r.q.src.length by omega));have ht:=hq4 _ (fT 0 (show k<r.q.tgt.length by omega));unfold uH;rw [gC hk,aN,iJ ⟨0,0,[]⟩ hk,aA,aJe _ (h4 _ (fT _ hk)),aA,iJ 0 (by omega),aA,atI 0 hs.1 (by omega),aA,iJ 0 (by omega),aA,atI 0 ht.1 (by omega),aA];cases aAP r.p _ <;> cases decide ((r.maps[k]?.getD _).cols=_) <;> cases decide ((r.maps[k]?.getD _).rows=_) <;> rfl
 ·unfold uH;rw [gS (bA _),aS]
theorem aPC {a b:Rp} (ha:bR a) (hb:bR b):rV a b=some (kV a&&(kV b&&(decide (a.p=b.p)&&decide (a.q=b.q)))):=by
 unfold rV;rw [hZ ha,aA];refine gA λ_=>?_;rw [hZ hb,aA];refine gA λ_=>gA λ_=>?_;rw [aPt ha.1,aA]
theorem aUD {a b:Rp} (ha:bR a) (hb:bR b):xD a b=some (kV a&&(kV b&&(decide (a.p=b.p)&&decide (a.q=b.q)))):=by
 unfold xD;rw [nT ha,aA];refine gA λ_=>?_;rw [nT hb,aA];refine gA λ_=>gA λ_=>?_;rw [aPu ha.1,aA]
end
noncomputable section
theorem aKi {a b:Int} (ha:0≤a∧a≤5) (hb:0≤b∧b≤5):0≤a*b∧a*b≤25:=by
 refine ⟨Int.mul_nonneg ha.1 hb.1,?_⟩;have:=Int.mul_le_mul ha.2 hb.2 hb.1 (by decide:(0:Int)≤5);omega
theorem zG {x p:Int} (hp:iR p=true):0≤x % p∧x % p<p:=by
 have:=dF hp;exact ⟨Int.emod_nonneg _ (by omega),Int.emod_lt_of_pos _ (by omega)⟩
theorem zH {p x:Int} (hp:iR p=true) (hx: -4611686018427387904≤x∧x≤4611686018427387904):fZ p x=some (x % p):=by
 have hb:=dF hp;have hr:=aHG x p (by omega);unfold fZ;rw [dM (by omega),Bool.not_false,aN];rcases aHH x p (by omega) with ⟨h,e⟩|⟨h,e⟩
 ·rw [dM (by omega),aS,e]
 ·rw [bC h,aN,cZ (by omega),e];congr 1;omega
theorem aMN {p x:Int} (hp:iR p=true):rU p x=some (x % p):=by
 have hb:=dF hp;have hr:=aHG x p (by omega);unfold rU;rw [aEO,hp,aA,eC,aS,dM (by omega),Bool.not_false,aN,aN,cZ (by omega),aPi _ _ (by omega)]
theorem aNz {p x:Int} (hp:iR p=true) {k:Nat} (hk:k≤1000):uD p x k=some (aKO p (x % p) k):=by
 have hb:=dF hp;unfold uD;rw [aEO,hp,aA,eC,aS,aCS,wX (by omega) (by omega),aA,eC,aS];rw [cF (r:=aKO p (x % p) k) (λt=>(aKO p (x % p) t,(t:Int))) k (by rfl) (λt ht=>?_) (λ_=>?_),aA]
 ·unfold oW;simp only;have h1:=aOl hp (zG (x:=x) hp) t;have h2:=zG (x:=x) hp;have h3:=aKi (a:=aKO p (x % p) t) (b:=x % p) (by omega) (by omega);rw [gC ht,aN,aMN hp,aA,dM (by omega),Bool.not_false,aN,bK ht (by omega),cZ (by omega),Int.tmod_eq_emod_of_nonneg h3.1];rfl
 ·unfold oW;simp only;rw [gS (bA _),aS]
theorem aPw {p x:Int} (hp:iR p=true):qK p x=some (aBH p (x % p)):=by
 have hb:=dF hp;unfold qK aBH;rw [aEO,hp,aA,eC,aS,cZ (by omega)];have e:max (p - 2) 1=(((max (p - 2) 1).toNat:Nat):Int):=by omega
 rw [e,aNz hp (by omega),aA,dJ]
theorem aPx {p x:Int} (hp:iR p=true) (hx: -4611686018427387904≤x∧x≤4611686018427387904):qJ p x=some (aBH p (x % p)):=by
 have hb:=dF hp;have h2:=zG (x:=x) hp;obtain ⟨n,hn⟩: ∃ n:Nat,p=n:=⟨p.toNat,by omega⟩;unfold qJ;rw [wY (s0:=1) (s:=1) (n:=n) (λk:Nat=>bif decide ((x % p*k) % p=1) then some (k:Int) else none) rfl (by omega) (by omega) (λk h1 hk=>?_) (λ_=>?_),aA]
 ·cases e:(List.range' 1 (n - 1)).findSome? (λk:Nat=>bif decide ((x % p*k) % p=1) then some (k:Int) else none) with
  |none=>
   rw [List.findSome?_eq_none_iff] at e;rw [aRL hp h2 λy h3 h4 h5=>?_];rfl;have:=e y (by simp;omega);rw [bC h5] at this;cases this
  |some i=>
   obtain ⟨k,hk,he⟩:=List.exists_of_findSome?_eq_some e;simp at hk;cases hd:decide ((x % p*k) % p=1) with
   |false=>rw [hd] at he;cases he
   |true=>
    rw [hd] at he;cases he;rw [aSx hp h2 (y:=k) (by omega) (of_decide_eq_true hd)];rfl
 ·unfold lU;have h3:=aKi (a:=x % p) (b:=k) (by omega) (by omega);rw [bC (by omega),aN,aEN,hp,aA,aN,zH hp hx,aA,cZ (by omega),zH hp (by omega),aA];cases decide (x % p*k % p=1) <;> rfl
 ·unfold lU;rw [dM (by omega),aS]
theorem aHh {r c i:Nat} (hi:i<r):(i+1)*c≤r*c:=Nat.mul_le_mul_right c hi
theorem ixw {r c i j:Nat} (hN:r*c≤1048576) (hi:i<r) (hj:j<c):wr (wr ((i:Int)*(c:Int))+(j:Int))=((i*c+j:Nat):Int):=wix (by have:=aHI hi hj;omega)
theorem atT {r c i j:Nat} (hN:r*c≤1048576) (hi:i<r) (hj:j<c) (F:Nat→Nat→Int):cP (bT r c F) (wr (wr ((i:Int)*(c:Int))+(j:Int)))=some (F i j):=by rw [ixw hN hi hj,aSy F hi hj]
theorem aKj {r c i j:Nat} (hN:r*c≤1048576) (hi:i<r) (hj:j<c) (F:Nat→Nat→Int) (v:Int):(bT r c F).set (wr (wr ((i:Int)*(c:Int))+(j:Int))).toNat v=bT r c (aDB F i j v):=by rw [ixw hN hi hj,dJ,aBJ F v hi hj]
theorem tL {r c i:Nat} (hN:r*c≤1048576) (hi:i<r):wr ((i:Int)*(c:Int))=((i*c:Nat):Int):=aHJ (by have:= @aHh r c i hi;rw [Nat.succ_mul] at this;omega)
theorem wA {r c i:Nat} (hN:r*c≤1048576) (hr:r≤1048576) (hi:i<r):wr (wr ((i:Int)+1)*(c:Int))=((i*c+c:Nat):Int):=by
 have:= @aHh r c i hi;rw [bK hi (by omega),aHJ (by omega),Nat.succ_mul]
def dZ (c:Nat) (f:Nat→Int):List Int:=(List.range c).map f
theorem eN (c:Nat) (f:Nat→Int):(dZ c f).length=c:=by simp [dZ]
theorem aBr {c:Nat} (f:Nat→Int) {j:Nat} (h:j<c):cP (dZ c f) (j:Int)=some (f j):=by rw [dR (by rw [eN];exact h)];simp [dZ]
theorem aFn {r c i:Nat} (hN:r*c≤1048576) (hr:r≤1048576) (hi:i<r) (F:Nat→Nat→Int):dL ⟨r,c,bT r c F⟩ i=some ():=by
 have:= @aHh r c i hi;rw [Nat.succ_mul] at this;unfold dL;simp only;rw [tL hN hi,wA hN hr hi,dO,bC (by omega),bC (by omega:((i*c:Nat):Int)≤((i*c+c:Nat):Int)),bC (by omega:((i*c+c:Nat):Int)≤((r*c:Nat):Int))];rfl
theorem aOA {r c i:Nat} (hN:r*c≤1048576) (hr:r≤1048576) (hi:i<r) (F:Nat→Nat→Int):aEt ⟨r,c,bT r c F⟩ i=some (dZ c (F i)):=by
 have h:= @aHh r c i hi;rw [Nat.succ_mul] at h;unfold aEt yF aCP;simp only;rw [tL hN hi,wA hN hr hi,dO,bC (by omega),bC (by omega:((i*c:Nat):Int)≤((i*c+c:Nat):Int)),bC (by omega:((i*c+c:Nat):Int)≤((r*c:Nat):Int))];simp only [Bool.and_self,aN,dJ];congr 1;refine List.ext_getElem (by simp [dO,eN];omega) λt h1 h2=>?_;rw [eN] at h2;rw [List.getElem_take,List.getElem_drop];simp [bT,dZ,aAn h2,aAo h2]
def aHi (p:Int) (F:Nat→Nat→Int) (i:Nat) (k:Int) (g:Nat→Int):Nat→Nat→Int:=λa b=>if a=i then (F i b+k*g b) % p else F a b
theorem gd (x:Nat):(decide (0≤(x:Int))&&true)=true:=by rw [bC (by omega)];rfl
theorem aPy {p:Int} (hp:iR p=true):(!decide (p=0))=true:=by have:=dF hp;rw [dM (by omega)];rfl
theorem aHj {p:Int} (hp:iR p=true) {r c i:Nat} (hc:c≤1048576) (hi:i<r) {F:Nat→Nat→Int} {g:Nat→Int} {k:Int} (hk:0≤k∧k≤5) (hF: ∀ b,b<c→0≤F i b∧F i b<p) (hg: ∀ b,b<c→0≤g b∧g b<p):
  gE p (bT r c F) (i*c) c k (dZ c g)=some (bT r c (aHi p F i k g)):=by
 have hb:=dF hp;unfold gE;rw [cF (r:=bT r c (aHi p F i k g)) (λx=>(bT r c (λa b=>if a=i∧b<x then (F i b+k*g b) % p else F a b),(x:Int))) c (by simp) (λx hx=>?_) (λ_=>?_)];rfl
 ·have h1:=hF x hx;have h2:=hg x hx;have h3:=aKi hk (show 0≤g x∧g x≤5 by omega);unfold kN;simp only;rw [eN,gC hx,aN,aBr _ hx,aA,gd x,aN,dJ,iK _ hi hx,aA,aPy hp,aN,aN,aA,aBJ _ _ hi hx,bK hx (by omega)];rw [aV (by omega),cZ (x:=k*g x) (by omega),cZ (by omega),Int.tmod_eq_emod_of_nonneg (by omega)];congr 3;refine cC λa b ha hb=>?_;simp only [aDB];by_cases e1:a=i∧b=x
  ·obtain ⟨rfl,rfl⟩:=e1;rw [aU ⟨rfl,rfl⟩,aU ⟨rfl,by omega⟩]
  ·rw [aV e1];by_cases e2:a=i∧b<x
   ·rw [aU e2,aU ⟨e2.1,by omega⟩]
   ·rw [aV e2,aV (by omega)]
 ·unfold kN;simp only;rw [eN,gS (bA _),aS];congr 2;refine cC λa b ha hb=>?_;simp only [aHi];by_cases e:a=i
  ·rw [aU ⟨e,hb⟩,aU e]
  ·rw [aV (by omega),aV e]
theorem aPz {p:Int} (hp:iR p=true) {r c i j:Nat} (hc:c≤1048576) (hi:i<r) (hj:j<r) (hij:i≠j) {F:Nat→Nat→Int} {k:Int} (hk:0≤k∧k≤5) (hF: ∀ b,b<c→0≤F i b∧F i b<p) (hg: ∀ b,b<c→0≤F j b∧F j b<p):
  iS p (bT r c F) (i*c) c k (j*c) c=some (bT r c (aHi p F i k (F j))):=by
 have hb:=dF hp;unfold iS;rw [cF (r:=bT r c (aHi p F i k (F j))) (λx=>(bT r c (λa b=>if a=i∧b<x then (F i b+k*F j b) % p else F a b),(x:Int))) c (by simp) (λx hx=>?_) (λ_=>?_)];rfl
 ·have h1:=hF x hx;have h2:=hg x hx;have h3:=aKi hk (show 0≤F j x∧F j x≤5 by omega);unfold gM;simp only;rw [gC hx,aN,gd x,aN,dJ,iK _ hj hx,aA,aN,iK _ hi hx,aA,aPy hp,aN,aN,aA,aBJ _ _ hi hx,bK hx (by omega)];rw [aV (by omega),aV (by omega),cZ (x:=k*F j x) (by omega),cZ (by omega),Int.tmod_eq_emod_of_nonneg (by omega)];congr 3;refine cC λa b ha hb=>?_;simp only [aDB];by_cases e1:a=i∧b=x
  ·obtain ⟨rfl,rfl⟩:=e1;rw [aU ⟨rfl,rfl⟩,aU ⟨rfl,by omega⟩]
  ·rw [aV e1];by_cases e2:a=i∧b<x
   ·rw [aU e2,aU ⟨e2.1,by omega⟩]
   ·rw [aV e2,aV (by omega)]
 ·unfold gM;simp only;rw [gS (bA _),aS];congr 2;refine cC λa b ha hb=>?_;simp only [aHi];by_cases e:a=i
  ·rw [aU ⟨e,hb⟩,aU e]
  ·rw [aV (by omega),aV e]
theorem aRn {r c:Nat} (hN:r*c≤1048576):(decide (0≤wr ((r:Int)*(c:Int)))&&decide (wr ((r:Int)*(c:Int))≤1048576))=true:=by
 rw [aHJ (by omega),bC (by omega),bC (by omega)];rfl
theorem aHk {r c:Nat} (hN:r*c≤1048576):oG r c=some ⟨r,c,bT r c λ_ _=>0⟩:=by
 unfold oG;rw [aRn hN,aN,aHJ (by omega),dJ,aJN]
theorem aHl {r c:Nat} (hN:r*c≤1048576):pU r c=some ⟨r,c,bT r c λ_ _=>0⟩:=by
 unfold pU;rw [aRn hN,aN,aHJ (by omega),dJ,aJN]
def aBS:Nat→Nat→Int:=λa b=>if a=b then 1 else 0
theorem aJf {n k:Nat} (hk:k<n):bT n n (aDB (λa b=>if a=b∧a<k then 1 else 0) k k 1)=bT n n (λa b=>if a=b∧a<k+1 then 1 else 0):=by
 refine cC λa b ha hb=>?_;simp only [aDB];by_cases e:a=k∧b=k
 ·rw [aU e,aU (by omega)]
 ·rw [aV e];by_cases e2:a=b∧a<k
  ·rw [aU e2,aU (by omega)]
  ·rw [aV e2,aV (by omega)]
theorem aOB {n:Nat} (hN:n*n≤1048576) (hn:n≤1048576):uB n=some ⟨n,n,bT n n aBS⟩:=by
 unfold uB;rw [aHk hN,aA];rw [cF (r:=bT n n aBS) (λk=>(bT n n (λa b=>if a=b∧a<k then 1 else 0),(k:Int))) n (by simp) (λk hk=>?_) (λ_=>?_),aA]
 ·unfold oN;simp only;rw [gC hk,aN,atT hN hk hk,aA,aKj hN hk hk,bK hk (by omega),aJf hk]
 ·unfold oN;simp only;rw [gS (bA _),aS];congr 2;refine cC λa b ha hb=>?_;unfold aBS;by_cases e:a=b
  ·rw [aU ⟨e,ha⟩,aU e]
  ·rw [aV (by omega),aV e]
theorem aKk {n:Nat} (hN:n*n≤1048576) (hn:n≤1048576):qH n=some ⟨n,n,bT n n aBS⟩:=by
 unfold qH;rw [aHl hN,aA];rw [cF (r:=bT n n aBS) (λk=>(bT n n (λa b=>if a=b∧a<k then 1 else 0),(k:Int))) n (by simp) (λk hk=>?_) (λ_=>?_),aA]
 ·unfold lO;simp only;rw [gC hk,aN,atT hN hk hk,aA,aKj hN hk hk,bK hk (by omega),aJf hk]
 ·unfold lO;simp only;rw [gS (bA _),aS];congr 2;refine cC λa b ha hb=>?_;unfold aBS;by_cases e:a=b
  ·rw [aU ⟨e,ha⟩,aU e]
  ·rw [aV (by omega),aV e]
def aEP (F G:Nat→Nat→Int) (i j:Nat):Nat→Int
 |0=>0
 |k+1=>aEP F G i j k+F i k*G k j
def aMO (p:Int) (F G:Nat→Nat→Int) (i j:Nat):Nat→Int
 |0=>0
 |k+1=>(aMO p F G i j k+F i k*G k j) % p
theorem aKl {p:Int} (hp:iR p=true) (F G:Nat→Nat→Int) (i j:Nat): ∀ k,aMO p F G i j k=aEP F G i j k % p
 |0=>by simp [aMO,aEP]
 |k+1=>by rw [aMO,aEP,aKl hp F G i j k];simp [Int.add_emod]
theorem aKm {p:Int} (hp:iR p=true) {F G:Nat→Nat→Int} {i j:Nat} : ∀ {k:Nat},(∀ t,t<k→0≤F i t∧F i t<p)→(∀ t,t<k→0≤G t j∧G t j<p)→0≤aEP F G i j k∧aEP F G i j k≤25*k
 |0,_,_=>by simp [aEP]
 |k+1,hF,hG=>by
  have hb:=dF hp;have h:=aKm hp (k:=k) (λt ht=>hF t (by omega)) (λt ht=>hG t (by omega));have h1:=hF k (by omega);have h2:=hG k (by omega);have h3:=aKi (a:=F i k) (b:=G k j) (by omega) (by omega);rw [aEP];omega
def aBs (p:Int) (n:Nat) (F G:Nat→Nat→Int):Nat→Nat→Int:=λi j=>aEP F G i j n % p
theorem aPD {p:Int} (hp:iR p=true) (n:Nat) (F G:Nat→Nat→Int) (m c:Nat):wT p m c (aBs p n F G):=λi j _ _=>zG hp
theorem aKn {p:Int} (hp:iR p=true) {r n c:Nat} (h1:r*n≤1048576) (h2:n*c≤1048576) (h3:r*c≤1048576) (hr:r≤1048576) (hn:n≤1048576) (hc:c≤1048576) {F G:Nat→Nat→Int} (hF:wT p r n F) (hG:wT p n c G):
  qI p ⟨r,n,bT r n F⟩ ⟨n,c,bT n c G⟩=some ⟨r,c,bT r c (aBs p n F G)⟩:=by
 have hb:=dF hp;unfold qI;simp only;rw [aHl h3,aA];simp only;rw [cF (r:=bT r c (aBs p n F G)) (λi=>(bT r c (λa b=>if a<i then aBs p n F G a b else 0),(i:Int))) r (by simp) (λi hi=>?_) (λ_=>?_),aA]
 ·unfold lS;simp only;rw [gC hi,aN];rw [cF (r:=bT r c (λa b=>if a<i+1 then aBs p n F G a b else 0)) (λj=>(bT r c (λa b=>if a<i∨(a=i∧b<j) then aBs p n F G a b else 0),(j:Int))) c (by simp) (λj hj=>?_) (λ_=>?_),aA,bK hi (by omega)]
  ·unfold lQ;simp only;rw [gC hj,aN];have hbd:=aKm hp (F:=F) (G:=G) (i:=i) (j:=j) (k:=n) (λt ht=>hF i t hi ht) (λt ht=>hG t j ht hj);rw [cF (r:=aEP F G i j n) (λk=>(aEP F G i j k,(k:Int))) n (by simp [aEP]) (λk hk=>?_) (λ_=>?_),aA,zH hp (by omega),aA,atT h3 hi hj,aA,aKj h3 hi hj,bK hj (by omega)]
   ·congr 3;refine cC λa b ha hb=>?_;simp only [aDB];by_cases e:a=i∧b=j
    ·rw [aU e,aU (by omega),e.1,e.2];rfl
    ·rw [aV e];by_cases e2:a<i∨a=i∧b<j
     ·rw [aU e2,aU (by omega)]
     ·rw [aV e2,aV (by omega)]
   ·unfold lP;simp only;have g1:=hF i k hi hk;have g2:=hG k j hk hj;have g3:=aKi (a:=F i k) (b:=G k j) (by omega) (by omega);have g4:=aKm hp (F:=F) (G:=G) (i:=i) (j:=j) (k:=k) (λt ht=>hF i t hi (by omega)) (λt ht=>hG t j (by omega) hj);rw [gC hk,aN,atT h1 hi hk,aA,atT h2 hk hj,aA,bK hk (by omega),cZ (x:=F i k*G k j) (by omega),cZ (by omega)];rfl
   ·unfold lP;simp only;rw [gS (bA _),aS]
  ·unfold lQ;simp only;rw [gS (bA _),aS];congr 2;refine cC λa b ha hb=>?_;by_cases e:a<i+1
   ·rw [aU e,aU (by omega)]
   ·rw [aV e,aV (by omega)]
 ·unfold lS;simp only;rw [gS (bA _),aS];congr 2;exact cC λa b ha hb=>by rw [aU ha]
theorem aKo {p:Int} (hp:iR p=true) {r n c:Nat} (h1:r*n≤1048576) (h2:n*c≤1048576) (h3:r*c≤1048576) (hr:r≤1048576) (hn:n≤1048576) (hc:c≤1048576) {F G:Nat→Nat→Int} (hF:wT p r n F) (hG:wT p n c G):
  rX p ⟨r,n,bT r n F⟩ ⟨n,c,bT n c G⟩=some ⟨r,c,bT r c (aBs p n F G)⟩:=by
 have hb:=dF hp;have hD: ∀ i j,aMO p F G i j n=aBs p n F G i j:=λi j=>aKl hp F G i j n;unfold rX;simp only;rw [aHk h3,aA];simp only;rw [cF (r:=bT r c (aBs p n F G)) (λi=>(bT r c (λa b=>if a<i then aBs p n F G a b else 0),(i:Int))) r (by simp) (λi hi=>?_) (λ_=>?_),aA]
 ·unfold uJ;simp only;rw [gC hi,aN,aOA h1 hr hi,aA];rw [cF (r:=bT r c (λa b=>if a<i+1 then aBs p n F G a b else 0)) (λk=>(bT r c (λa b=>if a<i then aBs p n F G a b else if a=i then aMO p F G i b k else 0),(k:Int))) n ?_ (λk hk=>?_) (λ_=>?_),aA,bK hi (by omega)]
  ·congr 1
   exact cC λa b ha hb=>by
    by_cases e:a<i
    ·rw [aU e,aU e]
    ·rw [aV e,aV e];simp [aMO]
  ·unfold uI;simp only;have g1:=hF i k hi hk;rw [eN,gC hk,aN,aBr _ hk,aA,aFn h3 hr hi,aA,aOA h2 hn hk,aA,Nat.zero_add,tL h3 hi,wA h3 hr hi,dJ,dJ,show i*c+c - i*c=c by omega];rw [aHj hp hc hi (by omega) (λb hb=>?_) (λb hb=>hG k b hk hb),aA,dO,dO,bC rfl,aN,bK hk (by omega)]
   ·congr 3;refine cC λa b ha hb=>?_;simp only [aHi];by_cases e:a=i
    ·subst e;simp [aMO]
    ·rw [aV e,aV e,aV e]
   ·rw [aV (by omega),aU rfl,aKl hp];exact zG hp
  ·unfold uI;simp only;rw [eN,gS (bA _),aS];congr 2;refine cC λa b ha hb=>?_;by_cases e:a<i
   ·rw [aU e,aU (by omega)]
   ·by_cases e2:a=i
    ·subst e2;rw [aV (by omega),aU rfl,aU (by omega),hD]
    ·rw [aV e,aV e2,aV (by omega)]
 ·unfold uJ;simp only;rw [gS (bA _),aS];congr 2;exact cC λa b ha hb=>by rw [aU ha]
end
end Go.Proofs.YtdoejgaomlmgeaaGreatDoor

/-
  Several texts of the claim in one.
-/
import Derived.Lib.AppendZerosOnto
import Derived.Test.YtilpfdokmlanjaaGreatDoorProg
import Derived.Test.YtilpfdokmlanjaaGreatDoorH6
set_option linter.unusedVariables false
set_option linter.unusedSimpArgs false
namespace Go.Proofs.YtilpfdokmlanjaaGreatDoor
open Go.RowKit
noncomputable section
set_option maxRecDepth 10000
structure HasV (P:Program) (f:FuncId) (ds:List AV) (r:AV):Prop where
 enters:Enters P f
 calls: ∀ (w:World) (args:Array Value) (S:List Nat),RepVs w ds args.toList S→Calls P f args w λe w'=> ∃ v S',e= .returned v∧Below w.heap.size w w'∧RepD w' r v S'∧ ∀ x∈S',x∈S
theorem zO {w:World} {h:Hp} {u:Us} {ν:Nu} {d:AV} {v:Value} (r:Rep1 w h u ν d v) (ok:dI d=true): ∃ S,RepD w d v S∧ ∀ x∈S,uF h ν x:=by
 cases d <;> simp only [dI,iS] at ok <;> simp only [Rep1] at r
 ·exact ⟨[],by rw [r.1];exact aBA r.2,by simp⟩
 ·exact r
 ·exact r
theorem aAa {w:World} {h:Hp} {u:Us} {ν:Nu} : ∀ {ds:List AV} {vs:List Value},All2 (Rep1 w h u ν) ds vs→ds.all dI=true→ ∃ S,RepVs w ds vs S∧ ∀ x∈S,uF h ν x
 | [],vs,r,_=>by simp only [All2] at r;subst r;exact ⟨[],by simp [RepVs],by simp⟩
 |d::ds,vs,⟨v,q,e,r1,r2⟩,ok=>by
  subst e;simp only [List.all_cons,cV] at ok;obtain ⟨S1,a1,a2⟩:=zO r1 ok.1;obtain ⟨S2,b1,b2⟩:=aAa r2 ok.2;refine ⟨S1++S2,by simp only [RepVs];exact ⟨v,q,S1,S2,rfl,rfl,a1,b1⟩,λx hx=>?_⟩;rcases eE.1 hx with h|h
  ·exact a2 x h
  ·exact b2 x h
theorem aKI {w:World} {h:Hp} {u:Us} {ν:Nu} {d:AV} {v:Value} (r:RepA w h u ν d v) (ok:vW d=true): ∃ S,RepD w d v S∧ ∀ x∈S,uF h ν x:=by
 cases d <;> simp only [vW,dI,iS] at ok <;> simp only [RepA,RepB] at r
 ·exact zO r rfl
 ·exact zO r rfl
 ·exact zO r rfl
 ·obtain ⟨vs,rfl,r⟩:=r;obtain ⟨S,a,b⟩:=aAa r ok;exact ⟨S,by simp only [RepD];exact ⟨vs,rfl,a⟩,b⟩
 ·obtain ⟨vs,rfl,r⟩:=r;obtain ⟨S,a,b⟩:=aAa r ok;exact ⟨S,by simp only [RepD];exact ⟨vs,rfl,a⟩,b⟩
theorem aDy {w:World} {h:Hp} {u:Us} {ν:Nu} : ∀ {ds:List AV} {vs:List Value},All2 (RepA w h u ν) ds vs→ds.all vW=true→ ∃ S,RepVs w ds vs S∧ ∀ x∈S,uF h ν x
 | [],vs,r,_=>by simp only [All2] at r;subst r;exact ⟨[],by simp [RepVs],by simp⟩
 |d::ds,vs,⟨v,q,e,r1,r2⟩,ok=>by
  subst e;simp only [List.all_cons,cV] at ok;obtain ⟨S1,a1,a2⟩:=aKI r1 ok.1;obtain ⟨S2,b1,b2⟩:=aDy r2 ok.2;refine ⟨S1++S2,by simp only [RepVs];exact ⟨v,q,S1,S2,rfl,rfl,a1,b1⟩,λx hx=>?_⟩;rcases eE.1 hx with h|h
  ·exact a2 x h
  ·exact b2 x h
section
variable {P:Program} {dst:Option Tmp} {ty:TypeId} {pos:String} {aft:Array Edge} {g:Option (Nat×Bool)} {ins:Operand→Option AV} {hp:Hp} {κ:Kp}
theorem aDz {fo:Operand} {xs:Array Operand} {ats:Array TypeId} {f:FuncId} {ds:List AV} {k:Nat} {es:List (List AV)} (hc:HasV P f ds (.list k es)) (hf:ins fo=some (.fn f [])) (hx:evs ins xs.toList=some ds) (hok:ds.all vW=true):
  AEff P ⟨dst,.call ⟨.value fo,xs,ats⟩,ty,pos,aft,g⟩ ins hp κ ⟨.list k es,[],[],[]⟩:=by
 refine ⟨λC s ν a w Q K {hκ} hi' ht hnw hd hs hK=>?_⟩;have h1:=hs.ev ((hi' fo (by simp [Op.operands,Call.operands])).trans hf);simp only [RepA,RepB] at h1;obtain ⟨cv,h1,h2⟩:=h1;simp only [All2] at h2;subst h2;have h3:=aCw hs (xs:=xs.toList) (λy hy=>hi' y (by simp [Op.operands,Call.operands];exact .inr (Array.mem_toList_iff.1 hy))) hx;obtain ⟨S,e1,e2⟩:=aDy h3 hok;have hcall:=hc.calls w (xs.map a.eval) S (by simpa using e1);unfold Oper.wp
 have hex:(execOp a.eval ⟨dst,.call ⟨.value fo,xs,ats⟩,ty,pos,aft,g⟩).run P w= .ok (.enter f (xs.map a.eval)) w:=by
  have:execOp a.eval ⟨dst,.call ⟨.value fo,xs,ats⟩,ty,pos,aft,g⟩=callFunc f (xs.map a.eval):=by
   simp [execOp,resolve,h1,Deferred.ofValue,invoke]
  rw [this];exact hc.enters _ _
 rw [hex];simp only [Oper.upon];refine hcall.mono λe w' ⟨v,S',he,hb,hr,hsub⟩=>?_;subst he;simp only;obtain ⟨φ,hh⟩:=hs.heap;have ext:Ext w s.heap s.used ν w' s.heap s.used ν:=⟨λ_ h=>h,λ_ blk _ h=>⟨blk,h,rfl,rfl,rfl⟩,λx hx h=>⟨hb.block x hx,h⟩,rfl⟩;refine hK ν _ _ (hs.step hd (s':=s.app dst _) ext (hb.mono hs.base) ⟨φ,λb blk hbl=>?_,hh.apart⟩ rfl ?_)
 ·obtain ⟨g1,g2,g3,g4⟩:=hh.blk b blk hbl;exact ⟨g1,g2.ext ext rfl (λy hy=>hb.block y (g2.lt y hy)),g3,g4⟩
 ·exact ⟨S',hr,λx hx=>e2 x (hsub x hx)⟩
theorem aIZ {T:List (Nat×Ty)} (hT:TyOk P T) {s:AState} {x:Operand} {zl zh:Operand} {t e:Nat} {y ye:Ty} {ao:Option Addr} {n c:Nat} {kl kh:IntKind} {l h:Int} (q:0≤l∧l≤h∧h≤n∧n≤c) (hx:s.ev x=some (.sc (.slice ao n c))) (hlo:s.ev zl=some (.sc (.int kl l))) (hhi:s.ev zh=some (.sc (.int kh h))) (hy:dB T t=some y) (hd:y.desc= .slice e) (hye:dB T e=some ye):
  AEff P ⟨dst,.slice t x (some zl) (some zh) none,ty,pos,aft,g⟩ s.ev s.heap s.kp ⟨.sc (.slice (if c=l.toNat then ao else ao.map (·.add (l.toNat*ye.size))) (h.toNat - l.toNat) (c - l.toNat)),[],[],[]⟩:=by
 refine AEff.pure λC s' ν a w hi' ht hs=>?_;have h1:=hs.ev ((hi' x (by simp [Op.operands])).trans hx);have h2:=hs.ev ((hi' zl (by simp [Op.operands])).trans hlo);have h3:=hs.ev ((hi' zh (by simp [Op.operands])).trans hhi);simp only [RepA,RepB,Rep1] at h1 h2 h3;obtain ⟨i1,z1,d1,y1⟩:=hT.is hy;obtain ⟨i2,z2,d2,y2⟩:=hT.is hye;have hsb:=tI (P:=P) (len:=n) (cap:=c) (lo:=some (.int kl l)) (hi:=some (.int kh h)) w (.inr ⟨kl,rfl⟩) (.inr ⟨kh,rfl⟩) q.1 q.2.1 q.2.2.1 q.2.2.2;refine ⟨_,?_,rV rfl⟩;simp only [execOp,Instr.sliceAt,Instr.slice,h1.1,h2.1,h3.1,Sem.run_bind,kS (y1.slice hd),Result.andThen_ok,iX y2.info,y2.size,Option.map_none,Option.map_some];rw [hsb];by_cases e:c=l.toNat <;> simp [e]
end
theorem aKJ {w:World} {k n c:Nat} {es:List (List AV)} {ao:Option Addr} {S:List Nat} {l h:Int} (r:RepD w (.list k es) (.slice ao n c) S) (q:0≤l∧l≤h∧h≤n): ∃ S',RepD w (.list k ((es.drop l.toNat).take (h.toNat - l.toNat))) (.slice (if c=l.toNat then ao else ao.map (·.add (l.toNat*k))) (h.toNat - l.toNat) (c - l.toNat)) S'∧ ∀ x∈S',x∈S:=by
 simp only [RepD] at r ⊢;obtain ⟨ao',c',h3,h4,h5,h6⟩:=r;cases h3;have hlen:((es.drop l.toNat).take (h.toNat - l.toNat)).length=h.toNat - l.toNat:=by simp;omega
 rw [hlen];by_cases hz:h.toNat - l.toNat=0
 ·refine ⟨[],⟨_,_,rfl,by omega,by omega,.inl ⟨?_,rfl⟩⟩,by simp⟩;rw [hz];simp
 ·rcases h6 with ⟨h6,_⟩|⟨b,o,S',rfl,h8,rfl,h9⟩
  ·have:es.length=0:=by rw [h6];rfl
   omega
  ·rw [aS (by omega)];obtain ⟨U1,g1,g2⟩:=h9.dropT (m:=l.toNat);obtain ⟨U2,g3,g4⟩:=g1.takeT (m:=h.toNat - l.toNat);refine ⟨b::U2,⟨_,_,rfl,by omega,by omega,.inr ⟨b,o+l.toNat*k,U2,by simp [Addr.add_lit],h8,rfl,g3⟩⟩,?_⟩;intro y hy;rcases dU.1 hy with rfl|h'
   ·simp
   ·simp [g2 y (g4 y h')]
def sT (m:Mt) (i:Int):Int:=wr (i*m.cols)
def yO (m:Mt) (i:Int):Int:=wr (wr (i+1)*m.cols)
def aBp (m:Mt) (i:Int):Option (List Int):=bif (decide (0≤sT m i)&&(decide (sT m i≤yO m i)&&decide (yO m i≤(m.cells.length:Int)))) then some ((m.cells.drop (sT m i).toNat).take ((yO m i).toNat - (sT m i).toNat)) else none
theorem aNP (m:Mt) (i:Int) (ao:Option Addr) (n c:Nat) (q:0≤sT m i∧sT m i≤yO m i∧yO m i≤n∧n≤c):HasC Tryz.prog 254 [.agg [.int m.rows,.int m.cols,.sc (.slice ao n c)],.int i]
  (.sc (.slice (if c=(sT m i).toNat then ao else ao.map (·.add ((sT m i).toNat *1))) ((yO m i).toNat - (sT m i).toNat) (c - (sT m i).toNat))):=by
 refine tR aQ (rvs:=[.tmp 4]) (ns:=[0,1,2,3,4,5,6,7,8,9,10,11,12,13]) Tryz.func254 rfl rfl Tryz.ntmps254 rfl rfl rfl ?_;refine aIE ?_;refine aBe ?_;refine gP (aMr rfl rfl rfl rfl) rfl rfl rfl ?_;refine gP (aAO rfl) rfl rfl rfl ?_;refine aDX ?_;refine aKz ?_;refine aIE ?_;refine aBe ?_;refine gP (vC aQ rfl rfl rfl rfl rfl rfl rfl) rfl rfl rfl ?_;refine gP (eO aQ rfl rfl rfl rfl rfl rfl rfl) rfl rfl rfl ?_;refine gP (aDN rfl) rfl rfl rfl ?_;refine gP (vC aQ rfl rfl rfl rfl rfl rfl rfl) rfl rfl rfl ?_;refine gP (eO aQ rfl rfl rfl rfl rfl rfl rfl) rfl rfl rfl ?_;refine gP (gI rfl rfl) rfl rfl rfl ?_;refine gP (aDN rfl) rfl rfl rfl ?_;refine gP (bH rfl rfl) rfl rfl rfl ?_;refine gP (vC aQ rfl rfl rfl rfl rfl rfl rfl) rfl rfl rfl ?_;refine gP (eO aQ rfl rfl rfl rfl rfl rfl rfl) rfl rfl rfl ?_;refine gP (gI rfl rfl) rfl rfl rfl ?_;refine gP (aIZ aQ (l:=sT m i) (h:=yO m i) q rfl rfl rfl rfl rfl rfl) rfl rfl rfl ?_;refine gP (aAO rfl) rfl rfl rfl ?_;refine aDX ?_;refine aKz ?_;refine aD ?_;exact aR rfl rfl rfl (dF rfl)
theorem aIa (m:Mt) (i:Int) (r:List Int) (h:aBp m i=some r):HasV Tryz.prog 254 [.agg (eM m),.int i] (.list 1 (List.map eI r)):=by
 obtain ⟨q,h⟩:=cg h;obtain rfl:=so h;simp only [cV,iR] at q;refine ⟨Enters.mk Tryz.func254 (by kernel_rfl) (by kernel_rfl),λw args S hargs=>?_⟩;obtain ⟨args⟩:=args;simp only [RepVs] at hargs;obtain ⟨v,r,S1,S2,h1,rfl,h3,v2,r2,S3,S4,h4,rfl,h5,rfl,rfl⟩:=hargs;subst h4 h1;simp only [RepD,eM] at h3;obtain ⟨vs,rfl,h3⟩:=h3;simp only [RepVs] at h3;obtain ⟨u1,r1,T1,T2,rfl,rfl,g1,u2,r3,T3,T4,rfl,rfl,g2,u3,r4,T5,T6,rfl,rfl,g3,rfl,rfl⟩:=h3
 have hu3: ∃ ao n c,u3= .slice ao n c∧n=m.cells.length∧n≤c:=by
  simp only [RepD] at g3;obtain ⟨a,c,rfl,g4,_⟩:=g3;exact ⟨_,_,_,rfl,by simp [aLA],g4⟩
 obtain ⟨ao,n,c,rfl,hn,hnc⟩:=hu3
 have hcall:=(aNP m i ao n c ⟨q.1,q.2.1,by omega,hnc⟩).calls w #[.agg #[u1,u2,.slice ao n c],v2] (T1++(T3++([]++[]))++(S3++[])) (by
  simp only [RepVs];refine ⟨_,_,_,_,rfl,rfl,?_,_,_,_,_,rfl,rfl,h5,rfl,rfl⟩;simp only [RepD];refine ⟨[u1,u2,.slice ao n c],rfl,?_⟩;simp only [RepVs]
  exact ⟨_,_,_,_,rfl,rfl,by simpa only [RepD] using g1,_,_,_,_,rfl,rfl,by simpa only [RepD] using g2,_,_,[],[],rfl,rfl,aBA rfl,rfl,rfl⟩)
 refine hcall.mono λe w' ⟨v,S',he,hb,hr,_⟩=>?_;simp only [aIF,aJt,wZ] at hr;obtain ⟨rfl,_,_⟩:=hr;obtain ⟨U,k1,k2⟩:=aKJ (l:=sT m i) (h:=yO m i) g3 ⟨q.1,q.2.1,by omega⟩;refine ⟨_,U,he,hb,?_,?_⟩
 ·have hes:((aMR m.cells).drop (sT m i).toNat).take ((yO m i).toNat - (sT m i).toNat)=List.map eI ((m.cells.drop (sT m i).toNat).take ((yO m i).toNat - (sT m i).toNat)):=by
   show ((m.cells.map eI).drop _).take _=_;rw [List.map_take,List.map_drop]
  rw [←hes];exact k1.below hb
 ·intro x hx;have:=k2 x hx;simp [this]
def aLO (hp:Hp) (touch:List Nat):List (Nat×Option Blk)→Prop
 | []=>True
 |(b,x)::r=>hp b=x∧touch.contains b=true∧aLO hp touch r
theorem aCM {hp h:Hp} {touch:List Nat} (ht: ∀ b∈touch,h b=hp b): ∀ {ed:List (Nat×Option Blk)},aLO hp touch ed→bO ed h=h
 | [],_=>rfl
 |(b,x)::r,⟨h1,h2,h3⟩=>by
  funext c;simp only [bO];by_cases e:c=b
  ·subst e;rw [cB,aL,←h1,ht c (by simpa using h2)]
  ·rw [cO e,aP,aCM ht h3]
theorem AEff.pureE {P:Program} {o:Oper} {ins:Operand→Option AV} {hp:Hp} {κ:Kp} {v:AV} {tc:List Nat} {ed:List (Nat×Option Blk)} (h:AEff P o ins hp κ ⟨v,tc,ed,[]⟩) (hs:aLO hp tc ed):AEff P o ins hp κ ⟨v,tc,[],[]⟩:=by
 refine ⟨λC s ν a w Q K {hκ} hi ht hn hd hsim hK=>h.out C s ν a w Q K (hκ:=hκ) hi ht hn hd hsim λν' a' w' hs'=>hK ν' a' w' ?_⟩
 have e:s.app o.dst ⟨v,tc,ed,[]⟩=s.app o.dst ⟨v,tc,[],[]⟩:=by
  unfold AState.app;rw [aCM ht hs];rfl
 rw [←e];exact hs'
theorem aGK {P:Program} {t tn e bytes:Nat} {size:Nat} (et:ElemTy P t e size bytes) (htn:P.underlying tn=some (.int .i64)) (hs:0<size) (w:World) (n:Nat) (h0:0<n) (hn:n≤1048576) (hb:n*bytes≤140737488355328) (ty:Nat):
  ∃ G cur,n≤G∧G≤maxLen∧cur.size=G*size∧(Builtin.append_ #[t,tn] ty #[.slice none 0 0,.int .i64 n]).run P w= .ok (.slice (some ⟨w.heap.size,0,none⟩) n G) (w.drew.alloc (.cells cur e)):=by
 obtain ⟨i,z,h1,h2,h3,h4,h5⟩:=et.hi;have hold:(Builtin.firstCells i.size 0 (.slice none 0 0)).run P w.drew= .ok ([]:List Value).toArray w.drew:=run_firstCells_none w.drew i.size 0 0 0;have h:=Lib.run_append_grow_zeros w t tn ty e i z .i64 .i64 et.ht htn h1 h2 none 0 0 [] hold n h0 (by rw [h3];exact hs) (by omega) (by omega) (by rw [h4];omega) (growslice_fits (by omega) (by rw [h4];simpa using hb));have hG:=grownCap_ge w (0+n) 0 e;have hM:=grownCap_le_maxLen w (0+n) 0 e (by unfold maxLen;omega);rw [Nat.zero_add] at h hG hM;refine ⟨grownCap w n 0 e,_,hG,hM,?_,h⟩;simp only [Array.size_append,List.size_toArray,List.length_nil,Nat.zero_add];unfold Builtin.zeroCells;simp only [Array.size_map,Array.size_range,h5];rw [←Nat.add_mul];congr 1;omega
set_option maxRecDepth 100000 in
set_option maxHeartbeats 1000000 in
theorem aMb (n:Nat) (w:World) (hn:n≤1048576):
  Calls Tryz.prog 337 #[.slice none 0 0,.int .i64 n] w (Ret w λv w'=> ∃ S,Own 3 aEj w' w.heap.size v [] S):=by
 by_cases h0:n=0
 ·subst h0;show Calls Tryz.prog 337 #[.slice none 0 0,.int .i64 0] w _
  go_enter Tryz.func337,Tryz.ntmps337
  go_wp2
  go_ret
  exact ⟨_,rfl,Below.refl _ _,[],Own.nil _ _ _ _⟩
 ·have h1: ¬ ((n:Int)<0):=by omega
  have h4:(n:Int)>0:=by omega
  have key: ∀ ty,∃ G cur,n≤G∧G≤maxLen∧cur.size=G*1∧(Builtin.append_ #[22,3] ty #[.slice none 0 0,.int .i64 n]).run Tryz.prog w= .ok (.slice (some ⟨w.heap.size,0,none⟩) n G) (w.drew.alloc (.cells cur 3)):=λty=>
   aGK aNz Tryz.underlying3 (by decide) w n (by omega) hn (by omega) ty
  obtain ⟨G,cur,hG,hM,hc,hr0⟩:=key 22;have hG63:G≤9223372036854775807:=by unfold maxLen at hM;omega
  have HE:Hid (Own 3 aEj (w.drew.alloc (.cells cur 3)) w.heap.size (.slice (some ⟨w.heap.size,0,none⟩) 0 G) [] [w.heap.size]∧Below w.heap.size w (w.drew.alloc (.cells cur 3))):=
   ⟨⟨[],[],World.ownsRow_made w.drew cur G (bG _) hM hc,⟨rfl,rfl⟩,rfl,⟨by simp,by simp⟩⟩,((aGp 1 (Below.refl _ _):Below w.heap.size w (w.drewN 1))).alloc (bG _) _⟩
  clear key hM hc
  go_enter Tryz.func337,Tryz.ntmps337
  go_wp2_with (at_builtin;refine Lib.wpList_append_run _ rfl _ _ _ _ rfl _ _ rfl rfl _ _ hr0 ?_)
  all_goals (go_ret;exact ⟨_,rfl,HE.out.2,_,HE.out.1⟩)
def aIb (n:Int):Option (List Int):=bif (decide (0≤n)&&decide (n≤1048576)) then some [] else none
theorem aMc {h:Hp} {k:Nat} :viewA h (.nil k) (.sc (.slice none 0 0)):=rfl
theorem aNQ (n:Int) (r:List Int) (h:aIb n=some r):HasC Tryz.prog 337 [.sc (.slice none 0 0),.int n] (.list 1 (List.map eI r)):=by
 obtain ⟨q,h⟩:=cg h;obtain rfl:=so h;simp only [cV,iR] at q;refine ⟨Enters.mk Tryz.func337 (by kernel_rfl) (by kernel_rfl),λw args S hargs=>?_⟩;obtain ⟨args⟩:=args;simp only [RepVs,RepD] at hargs;obtain ⟨v,r,S1,S2,h1,rfl,⟨rfl,_,rfl⟩,v2,r2,S3,S4,rfl,rfl,⟨rfl,_,rfl⟩,rfl,rfl⟩:=hargs;subst h1;have hc:=aMb n.toNat w (by omega);rw [show ((n.toNat:Nat):Int)=n by omega] at hc;refine hc.mono λe w' ⟨v,he,hb,S2,ho⟩=>?_;obtain ⟨g1,g2⟩:=aHW ho;exact ⟨v,S2,he,hb,g1,g2⟩
theorem aAb {σ:Nat→Option Nat} {n:Nat} {α:Type} {e:α→List AV} {z:α} {zc:List AV} (h:All2 (kT σ n) zc (ow e z)) (m:Nat):All2 (All2 (kT σ n)) (List.replicate m zc) ((List.replicate m z).map (ow e)):=by
 induction m with
 |zero=>rfl
 |succ m ih=>exact ⟨_,_,rfl,h,ih⟩
end
noncomputable section
theorem aNR {α:Type} {k:Nat} {e:α→List AV} {hp:Hp} {b i n:Nat} {l:List α} (E:EOk k e) (hb:hp b=some ⟨k,l.map (ow e)⟩):yD hp (.own b i n)=some (k,((l.drop i).take n).map e,[b]):=by
 simp only [yD,hb,←List.map_drop,←List.map_take];rw [aNM E]
end
noncomputable section
theorem k {α:Sort _} {a:α} :a=a:=rfl
section
variable {P:Program} {ops:Array Oper} {nt:Nat} {r:List Oper} {s:AState} {tr:List Tr} {K:List Tr→AState→Prop} {K':AState→Prop}
def opB (ops:Array Oper) (nt:Nat) (s:AState) (o:Oper) (news:List Nat):Bool:=aGD o nt&&((match mF ops s.env o with|some true=>true|_=>false)&&news.all λb=> !s.used b)
theorem aIc {o:Oper} {news:List Nat} (h:opB ops nt s o news=true):aGD o nt=true∧mF ops s.env o=some true∧(news.all λb=> !s.used b)=true:=by
 simp only [opB,cV] at h;obtain ⟨h1,h2,h3⟩:=h;refine ⟨h1,?_,h3⟩;split at h2
 ·assumption
 ·cases h2
theorem ae {d:Option Tmp} {op:Op} {ty:TypeId} {pos:String} {aft:Array Edge} {g:Option (Nat×Bool)} {e:Eff} (he:AEff P ⟨d,op,ty,pos,aft,g⟩ s.ev s.heap s.kp e) (hb:opB ops nt s ⟨d,op,ty,pos,aft,g⟩ e.news=true) (h:AOps P ops nt r (s.app d e) (vS e::tr) K):AOps P ops nt (⟨d,op,ty,pos,aft,g⟩::r) s tr K:=
 gP he (aIc hb).1 (aIc hb).2.1 (aIc hb).2.2 h
theorem am {d:Option Tmp} {ty:TypeId} {pos:String} {aft:Array Edge} {g:Option (Nat×Bool)} {x:Operand} {v:AV} (hx:s.ev x=some v) (hb:opB ops nt s ⟨d,.move x,ty,pos,aft,g⟩ []=true) (h:AOps P ops nt r (s.app d ⟨v,[],[],[]⟩) (vS ⟨v,[],[],[]⟩::tr) K):AOps P ops nt (⟨d,.move x,ty,pos,aft,g⟩::r) s tr K:=ae (aDN hx) hb h
theorem aa {d:Option Tmp} {ty:TypeId} {pos:String} {aft:Array Edge} {g:Option (Nat×Bool)} {x:Operand} {v:AV} (hx:s.ev x=some v) (hb:opB ops nt s ⟨d,.assign x,ty,pos,aft,g⟩ []=true) (h:AOps P ops nt r (s.app d ⟨v,[],[],[]⟩) (vS ⟨v,[],[],[]⟩::tr) K):AOps P ops nt (⟨d,.assign x,ty,pos,aft,g⟩::r) s tr K:=ae (aAO hx) hb h
theorem an (h:K tr s):AOps P ops nt [] s tr K:=aDX h
variable {Q:Exit→AState→Prop}
theorem sQ {x y:Code} (h:AC P nt x s (vT (λs'=>AC P nt y s' Q) Q)):AC P nt (.seq x y) s Q:=aIE h
theorem rg {id:Nat} {l:List Oper} (h:AOps P l.toArray nt l s [] (λ_ s'=>Q .normal s')):AC P nt (.region id l.toArray false) s Q:=aBe h
theorem tn (h:K' s):vT K' Q .normal s:=h
end
theorem ak {P:Program} {ops:Array Oper} {nt:Nat} {r:List Oper} {s:AState} {tr:List Tr} {K:List Tr→AState→Prop} {d:Option Tmp} {op:Op} {ty:TypeId} {pos:String} {aft:Array Edge} {g:Option (Nat×Bool)} (hg:mF ops s.env ⟨d,op,ty,pos,aft,g⟩=some false) (hd:aGD ⟨d,op,ty,pos,aft,g⟩ nt=true) (h:AOps P ops nt r ⟨upd d (.tuple []) s.env,s.heap,s.used,s.ns,s.kp⟩ (⟨[],[]⟩::tr) K):AOps P ops nt (⟨d,op,ty,pos,aft,g⟩::r) s tr K:=aJs hg hd h
section
variable {σ:Nat→Option Nat} {n b b0 k:Nat} {h:Hp} {r:List (Nat×Blk)}
theorem hB {y:Blk} (hp:aAx y.es) (hs:σ b=some b0) (hb:h b0=some y) (hn:Nat.blt b n=true) (hr:sP σ n h r):sP σ n h ((b,y)::r):=by
 simp only [sP];rw [hs];exact ⟨⟨y,hb,rfl,.inl ⟨rfl,hp⟩⟩,hn,hr⟩
theorem hX {y:Blk} (hm:match σ b with|some b0=> ∃ x,h b0=some x∧aAR σ n x y|none=>y.es=[]) (hn:Nat.blt b n=true) (hr:sP σ n h r):sP σ n h ((b,y)::r):=⟨hm,hn,hr⟩
end
theorem aOq {P:Program} {T:List (Nat×Ty)} (hT:TyOk P T) {dst:Option Tmp} {pos:String} {aft:Array Edge} {g:Option (Nat×Bool)} {s:AState} {x:Operand} {t e k:Nat} {y:Ty} {dty:TypeId} {α:Type} {f:α→List AV} {l:List α} (hx:s.ev x=some (.list k (List.map f l))) (hy:dB T t=some y) (hd:y.desc= .slice e):
  AEff P ⟨dst,.call ⟨.builtin .len,#[x],#[t]⟩,dty,pos,aft,g⟩ s.ev s.heap s.kp ⟨.int l.length,[],[],[]⟩:=AEff.val (aIJ hT hx hy hd) (by rw [eD])
theorem lA {α:Type} {a b:List α} :(a++b).length=a.length+b.length:=List.length_append
theorem lT {α:Type} {a:List α} {i:Nat} {x:α} :(a.set i x).length=a.length:=List.length_set
theorem lR {α:Type} {n:Nat} {x:α} :(List.replicate n x).length=n:=List.length_replicate
theorem lC {α:Type} {a:α} {b:List α} :(a::b).length=b.length+1:=List.length_cons
theorem lN {α:Type} :([]:List α).length=0:=List.length_nil
theorem aAc:([]:List AV).all vW=true:=rfl
theorem kU {d:AV} {ds:List AV} (h1:vW d=true) (h2:ds.all vW=true):(d::ds).all vW=true:=by
 rw [List.all_cons,h1,h2];rfl
end
noncomputable section
theorem k2 {αa:Sort _} {a:αa} {αb:Sort _} {b:αb} :a=a∧b=b:=⟨rfl,rfl⟩
theorem k3 {αa:Sort _} {a:αa} {αb:Sort _} {b:αb} {αc:Sort _} {c:αc} :a=a∧b=b∧c=c:=⟨rfl,rfl,rfl⟩
theorem k4 {αa:Sort _} {a:αa} {αb:Sort _} {b:αb} {αc:Sort _} {c:αc} {αd:Sort _} {d:αd} :a=a∧b=b∧c=c∧d=d:=⟨rfl,rfl,rfl,rfl⟩
theorem k7 {αa:Sort _} {a:αa} {αb:Sort _} {b:αb} {αc:Sort _} {c:αc} {αd:Sort _} {d:αd} {αe:Sort _} {e:αe} {αf:Sort _} {f:αf} {αg:Sort _} {g:αg} :a=a∧b=b∧c=c∧d=d∧e=e∧f=f∧g=g:=⟨rfl,rfl,rfl,rfl,rfl,rfl,rfl⟩
theorem k8 {αa:Sort _} {a:αa} {αb:Sort _} {b:αb} {αc:Sort _} {c:αc} {αd:Sort _} {d:αd} {αe:Sort _} {e:αe} {αf:Sort _} {f:αf} {αg:Sort _} {g:αg} {αh:Sort _} {h:αh} :a=a∧b=b∧c=c∧d=d∧e=e∧f=f∧g=g∧h=h:=⟨rfl,rfl,rfl,rfl,rfl,rfl,rfl,rfl⟩
section
variable {ops:Array Oper} {nt:Nat} {r:List Oper} {s:AState} {tr:List Tr} {K:List Tr→AState→Prop} {K':AState→Prop} {d:Option Tmp} {ty:TypeId} {pos:String} {aft:Array Edge} {g:Option (Nat×Bool)}
theorem lp {x:Operand} {t:Nat} {y:Ty} {b i j:Nat} {blk:Blk} {cs:List AV} {v:AV} (h:s.ev x=some (.ptr b i j)∧s.heap b=some blk∧dB TT t=some y∧(y.desc.isAgg||Nat.beq y.size 1)=true∧blk.es[i]? =some cs∧Nat.ble (j+y.size) cs.length=true∧aAr y.desc.isAgg (((cs.drop j).take y.size).map xZ)=v∧opB ops nt s ⟨d,.load t x,ty,pos,aft,g⟩ []=true) (g2:AOps Tryz.prog ops nt r (s.app d ⟨v,[b],[],[]⟩) (vS ⟨v,[b],[],[]⟩::tr) K):AOps Tryz.prog ops nt (⟨d,.load t x,ty,pos,aft,g⟩::r) s tr K:=by
 obtain ⟨h0,h1,h2,h3,h4,h5,h6,h7⟩:=h;exact ae (eO aQ h0 h1 h2 h3 h4 h5 h6) h7 g2
theorem fp {x:Operand} {st f off ft:Nat} {b i j:Nat} {blk:Blk} {y yf:Ty} {fs:List (Nat×Nat)} (h:s.ev x=some (.ptr b i j)∧s.heap b=some blk∧dB TT st=some y∧y.desc= .struct fs∧fs[f]? =some (off,ft)∧dB TT ft=some yf∧Nat.beq yf.size 0=false∧opB ops nt s ⟨d,.fieldAddr st x f,ty,pos,aft,g⟩ []=true) (g2:AOps Tryz.prog ops nt r (s.app d ⟨.ptr b i (j+off),[b],[],[]⟩) (vS ⟨.ptr b i (j+off),[b],[],[]⟩::tr) K):AOps Tryz.prog ops nt (⟨d,.fieldAddr st x f,ty,pos,aft,g⟩::r) s tr K:=by
 obtain ⟨h0,h1,h2,h3,h4,h5,h6,h7⟩:=h;exact ae (vC aQ h0 h1 h2 h3 h4 h5 h6) h7 g2
theorem lr {x:Operand} {t:Nat} {y:Ty} {cs:List AV} {v:AV} (h:s.ev x=some (.ref cs)∧dB TT t=some y∧(y.desc.isAgg||Nat.beq y.size 1)=true∧Nat.ble y.size cs.length=true∧(cs.take y.size).all dI=true∧aAr y.desc.isAgg (cs.take y.size)=v∧opB ops nt s ⟨d,.load t x,ty,pos,aft,g⟩ []=true) (g2:AOps Tryz.prog ops nt r (s.app d ⟨v,[],[],[]⟩) (vS ⟨v,[],[],[]⟩::tr) K):AOps Tryz.prog ops nt (⟨d,.load t x,ty,pos,aft,g⟩::r) s tr K:=by
 obtain ⟨h0,h1,h2,h3,h4,h5,h6⟩:=h;exact ae (aII aQ h0 h1 h2 h3 h4 h5) h6 g2
theorem cm {op:BinOp} {t t':TypeId} {x y:Operand} {q:IntKind} {a b:Int} {c:Bool} (h:s.ev x=some (.sc (.int q a))∧s.ev y=some (.sc (.int q b))∧aNK op a b=some c∧opB ops nt s ⟨d,.binOp op t x y t',ty,pos,aft,g⟩ []=true) (g2:AOps Tryz.prog ops nt r (s.app d ⟨.bl c,[],[],[]⟩) (vS ⟨.bl c,[],[],[]⟩::tr) K):AOps Tryz.prog ops nt (⟨d,.binOp op t x y t',ty,pos,aft,g⟩::r) s tr K:=by
 obtain ⟨h0,h1,h2,h3⟩:=h;exact ae (aNu h0 h1 h2) h3 g2
theorem pk {c x y:Operand} {t:Bool} {v:AV} (h:s.ev c=some (.sc (.bool t))∧s.ev (if t then x else y)=some v∧opB ops nt s ⟨d,.pick c x y,ty,pos,aft,g⟩ []=true) (g2:AOps Tryz.prog ops nt r (s.app d ⟨v,[],[],[]⟩) (vS ⟨v,[],[],[]⟩::tr) K):AOps Tryz.prog ops nt (⟨d,.pick c x y,ty,pos,aft,g⟩::r) s tr K:=by
 obtain ⟨h0,h1,h2⟩:=h;exact ae (aKl h0 h1) h2 g2
theorem ln {x:Operand} {t e q:Nat} {y:Ty} {α:Type} {f:α→List AV} {l:List α} (h:s.ev x=some (.list q (List.map f l))∧dB TT t=some y∧y.desc= .slice e∧opB ops nt s ⟨d,.call ⟨.builtin .len,#[x],#[t]⟩,ty,pos,aft,g⟩ []=true) (g2:AOps Tryz.prog ops nt r (s.app d ⟨.int l.length,[],[],[]⟩) (vS ⟨.int l.length,[],[],[]⟩::tr) K):AOps Tryz.prog ops nt (⟨d,.call ⟨.builtin .len,#[x],#[t]⟩,ty,pos,aft,g⟩::r) s tr K:=by
 obtain ⟨h0,h1,h2,h3⟩:=h;exact ae (aOq aQ h0 h1 h2) h3 g2
theorem bA:True:=trivial
theorem aT {x:Operand} {v:AV} {Q:Exit→AState→Prop} {T:AState→Prop} (h:s.ev x=some v∧opB ops nt s ⟨d,.assign x,ty,pos,aft,g⟩ []=true) (g2:T (s.app d ⟨v,[],[],[]⟩)):AOps Tryz.prog ops nt [⟨d,.assign x,ty,pos,aft,g⟩] s tr (λ_ s'=>vT T Q .normal s'):=aa h.1 h.2 (an (tn g2))
theorem aK {o1 o2:Oper} (h:(mF ops s.env o1=some false∧aGD o1 nt=true∧mF ops (upd o1.dst (.tuple []) s.env) o2=some false∧aGD o2 nt=true)) (g2:AOps Tryz.prog ops nt r ⟨upd o2.dst (.tuple []) (upd o1.dst (.tuple []) s.env),s.heap,s.used,s.ns,s.kp⟩ (⟨[],[]⟩::⟨[],[]⟩::tr) K):AOps Tryz.prog ops nt (o1::o2::r) s tr K:=ak h.1 h.2.1 (ak h.2.2.1 h.2.2.2 g2)
theorem sR {id:Nat} {l:List Oper} {y:Code} {Q:Exit→AState→Prop} (h:AOps Tryz.prog l.toArray nt l s [] (λ_ s'=>vT (λs'=>AC Tryz.prog nt y s' Q) Q .normal s')):AC Tryz.prog nt (.seq (.region id l.toArray false) y) s Q:=sQ (rg h)
end
end
noncomputable section
theorem oB {α β:Type} {o:Option α} {k:α→Option β} {r:β} {p:Prop} (h:o.bind k=some r) (f: ∀ a,o=some a→k a=some r→p):p:=by
 obtain ⟨a,h1,h2⟩:=ob h;exact f a h1 h2
theorem iV {h:Hp} {cs:List AV} (hp:cs.all dI=true):viewA h (.agg cs) (.agg cs):=xB (aHI hp)
theorem eJ {T:List (Nat×Ty)} {rvs:List ResultVar} {e:Exit} {s:AState} {u v:Bool} (h:some u=some v) (p:tQ T s rvs=some [.bl u]∧aDe e=true):nJ T rvs (.bl v) e s:=by
 cases h;exact aR p.2 p.1 rfl (iY rfl)
theorem uT {T:List (Nat×Ty)} {rvs:List ResultVar} {e:Exit} {s:AState} {u v:Int} (h:some u=some v) (p:tQ T s rvs=some [.int u]∧aDe e=true):nJ T rvs (.int v) e s:=by
 cases h;exact aR p.2 p.1 rfl (xC rfl)
theorem cL {d:Option Tmp} {ty:TypeId} {pos:String} {aft:Array Edge} {g:Option (Nat×Bool)} {s:AState} {f:FuncId} {xs:Array Operand} {ats:Array TypeId} {avs ds:List AV} {ns':List Nat} {α:Type} {e:α→List AV} {q b:Nat} {l:List α} (ok:EOk q e) (hc:HasC Tryz.prog f ds (.list q (List.map e l))) (h:evs s.ev xs.toList=some avs∧s.ns=b::ns'∧tE s.ns=true) (hv:All2 (viewA s.heap) avs ds):AEff Tryz.prog ⟨d,.call ⟨.value (.func f),xs,ats⟩,ty,pos,aft,g⟩ s.ev s.heap s.kp ⟨.own b 0 l.length,avs.flatMap (rN s.heap)++[].flatMap (lZ s.heap),[(b,some ⟨q,List.map (ow e) l⟩)],[b]⟩:=
 AEff.conv (mH (x:= .own b 0 (List.map e l).length) (nb:=[(b,⟨q,cN (List.map e l)⟩)]) hc h.1 (by rw [h.2.1];rfl) rfl h.2.2 (ok.good _) hv) (by simp only [bF]) (vD (nb':=[(b,⟨q,List.map (ow e) l⟩)]) (by simp only [nK]))
theorem cM {d:Option Tmp} {ty:TypeId} {pos:String} {aft:Array Edge} {g:Option (Nat×Bool)} {s:AState} {f:FuncId} {xs:Array Operand} {ats:Array TypeId} {avs ds:List AV} {ns':List Nat} {b:Nat} {v:Mt} (hc:HasC Tryz.prog f ds (.agg (eM v))) (h:evs s.ev xs.toList=some avs∧s.ns=b::ns'∧tE s.ns=true) (hv:All2 (viewA s.heap) avs ds):AEff Tryz.prog ⟨d,.call ⟨.value (.func f),xs,ats⟩,ty,pos,aft,g⟩ s.ev s.heap s.kp ⟨.agg [.int v.rows,.int v.cols,.own b 0 v.cells.length],avs.flatMap (rN s.heap)++[].flatMap (lZ s.heap),[(b,some ⟨1,List.map (ow eI) v.cells⟩)],[b]⟩:=
 AEff.conv (mH (x:= .agg [.int v.rows,.int v.cols,.own b 0 (List.map eI v.cells).length]) (nb:=[(b,⟨1,cN (List.map eI v.cells)⟩)]) hc h.1 (by rw [h.2.1];rfl) rfl h.2.2 (bE trivial (bE trivial (bE (dH.good _) tH))) hv) (by simp only [bF]) (vD (nb':=[(b,⟨1,List.map (ow eI) v.cells⟩)]) (by simp only [nK]))
theorem cQ {d:Option Tmp} {ty:TypeId} {pos:String} {aft:Array Edge} {g:Option (Nat×Bool)} {s:AState} {f:FuncId} {xs:Array Operand} {ats:Array TypeId} {avs ds:List AV} {ns':List Nat} {b c:Nat} {v:Qv} (hc:HasC Tryz.prog f ds (.agg (eQ v))) (h:evs s.ev xs.toList=some avs∧s.ns=b::c::ns'∧tE s.ns=true) (hv:All2 (viewA s.heap) avs ds):AEff Tryz.prog ⟨d,.call ⟨.value (.func f),xs,ats⟩,ty,pos,aft,g⟩ s.ev s.heap s.kp ⟨.agg [.int v.n,.own b 0 v.src.length,.own c 0 v.tgt.length],avs.flatMap (rN s.heap)++[].flatMap (lZ s.heap),[(b,some ⟨1,List.map (ow eI) v.src⟩),(c,some ⟨1,List.map (ow eI) v.tgt⟩)],[b,c]⟩:=
 AEff.conv (mH (x:= .agg [.int v.n,.own b 0 (List.map eI v.src).length,.own c 0 (List.map eI v.tgt).length]) (nb:=[(b,⟨1,cN (List.map eI v.src)⟩),(c,⟨1,cN (List.map eI v.tgt)⟩)]) hc h.1 (by rw [h.2.1];rfl) rfl h.2.2 (bE trivial (bE (dH.good _) (bE (dH.good _) tH))) hv) (by simp only [bF]) (vD (nb':=[(b,⟨1,List.map (ow eI) v.src⟩),(c,⟨1,List.map (ow eI) v.tgt⟩)]) (by simp only [nK]))
theorem cR {d:Option Tmp} {ty:TypeId} {pos:String} {aft:Array Edge} {g:Option (Nat×Bool)} {s:AState} {f:FuncId} {xs:Array Operand} {ats:Array TypeId} {avs ds:List AV} {ns':List Nat} {b c b3 b4:Nat} {v:Rp} (hc:HasC Tryz.prog f ds (.agg (eR v))) (h:evs s.ev xs.toList=some avs∧s.ns=b::c::b3::b4::ns'∧tE s.ns=true) (hv:All2 (viewA s.heap) avs ds):AEff Tryz.prog ⟨d,.call ⟨.value (.func f),xs,ats⟩,ty,pos,aft,g⟩ s.ev s.heap s.kp ⟨.agg [.int v.p,.int v.q.n,.own b 0 v.q.src.length,.own c 0 v.q.tgt.length,.own b3 0 v.dims.length,.own b4 0 v.maps.length],avs.flatMap (rN s.heap)++[].flatMap (lZ s.heap),[(b,some ⟨1,List.map (ow eI) v.q.src⟩),(c,some ⟨1,List.map (ow eI) v.q.tgt⟩),(b3,some ⟨1,List.map (ow eI) v.dims⟩),(b4,some ⟨3,List.map (ow eM) v.maps⟩)],[b,c,b3,b4]⟩:=
 AEff.conv (mH (x:= .agg [.int v.p,.int v.q.n,.own b 0 (List.map eI v.q.src).length,.own c 0 (List.map eI v.q.tgt).length,.own b3 0 (List.map eI v.dims).length,.own b4 0 (List.map eM v.maps).length]) (nb:=[(b,⟨1,cN (List.map eI v.q.src)⟩),(c,⟨1,cN (List.map eI v.q.tgt)⟩),(b3,⟨1,cN (List.map eI v.dims)⟩),(b4,⟨3,cN (List.map eM v.maps)⟩)]) hc h.1 (by rw [h.2.1];rfl) rfl h.2.2 (bE trivial (bE trivial (bE (dH.good _) (bE (dH.good _) (bE (dH.good _) (bE (lM.good _) tH)))))) hv) (by simp only [bF]) (vD (nb':=[(b,⟨1,List.map (ow eI) v.q.src⟩),(c,⟨1,List.map (ow eI) v.q.tgt⟩),(b3,⟨1,List.map (ow eI) v.dims⟩),(b4,⟨3,List.map (ow eM) v.maps⟩)]) (by simp only [nK]))
theorem cS {d:Option Tmp} {ty:TypeId} {pos:String} {aft:Array Edge} {g:Option (Nat×Bool)} {s:AState} {f:FuncId} {xs:Array Operand} {ats:Array TypeId} {avs ds:List AV} {ns':List Nat} {b:Nat} {v:Sc} (hc:HasC Tryz.prog f ds (.agg (eS v))) (h:evs s.ev xs.toList=some avs∧s.ns=b::ns'∧tE s.ns=true) (hv:All2 (viewA s.heap) avs ds):AEff Tryz.prog ⟨d,.call ⟨.value (.func f),xs,ats⟩,ty,pos,aft,g⟩ s.ev s.heap s.kp ⟨.agg [.int v.size,.own b 0 v.basis.length],avs.flatMap (rN s.heap)++[].flatMap (lZ s.heap),[(b,some ⟨1,List.map (ow (jA 1 eI)) v.basis⟩)],[b]⟩:=
 AEff.conv (mH (x:= .agg [.int v.size,.own b 0 (List.map (jA 1 eI) v.basis).length]) (nb:=[(b,⟨1,cN (List.map (jA 1 eI) v.basis)⟩)]) hc h.1 (by rw [h.2.1];rfl) rfl h.2.2 (bE trivial (bE (gM.good _) tH)) hv) (by simp only [bF]) (vD (nb':=[(b,⟨1,List.map (ow (jA 1 eI)) v.basis⟩)]) (by simp only [nK]))
def re1 (σ:Nat→Option Nat):AV→AV
 | .own b i m=>match σ b with|some b0=> .own b0 i m|none=> .dead
 | .ptr b i j=>match σ b with|some b0=> .ptr b0 i j|none=> .dead
 |x=>x
def reA (σ:Nat→Option Nat):AV→AV
 | .agg cs=> .agg (cs.map (re1 σ))
 |x=>re1 σ x
def ok1 (σ:Nat→Option Nat) (n:Nat):AV→Bool
 | .own b _ _=>(σ b).isSome &&Nat.blt b n
 | .ptr b _ _=>(σ b).isSome &&Nat.blt b n
 | .sc _=>true
 | .nil _=>true
 | .list _ _=>true
 | .ref _=>true
 |_=>false
def okA (σ:Nat→Option Nat) (n:Nat):AV→Bool
 | .agg cs=>cs.all (ok1 σ n)
 |x=>ok1 σ n x
def aHX (e:Nat→Option AV):List (Nat×AV)→List (Option AV)
 | []=>[]
 |(t,_)::r=>e t::aHX e r
def aHY (σ:Nat→Option Nat):List (Nat×AV)→List (Option AV)
 | []=>[]
 |(_,y)::r=>some (reA σ y)::aHY σ r
theorem wF {σ:Nat→Option Nat} {n:Nat} {y:AV} (h:ok1 σ n y=true):eF σ n (re1 σ y) y:=by
 cases y <;> simp only [ok1,iS] at h
 ·rfl
 ·trivial
 ·exact ⟨rfl,rfl⟩
 ·rfl
 all_goals
  rename_i b i j
  simp only [cV] at h
  obtain ⟨b0,hb⟩:=Option.isSome_iff_exists.1 h.1
  simp only [re1,hb]
  exact ⟨hb,rfl,rfl,h.2⟩
theorem aMu {σ:Nat→Option Nat} {n:Nat} : ∀ {cs:List AV},cs.all (ok1 σ n)=true→All2 (eF σ n) (cs.map (re1 σ)) cs
 | [],_=>rfl
 |c::cs,h=>by
  simp only [List.all_cons,cV] at h;exact ⟨c,cs,rfl,wF h.1,aMu h.2⟩
theorem aOA {σ:Nat→Option Nat} {n:Nat} {y:AV} (h:okA σ n y=true):tD σ n (reA σ y) y:=by
 cases y with
 |agg cs=>exact aMu h
 |fn f cs=>simp [okA,ok1] at h
 |tuple cs=>simp [okA,ok1] at h
 |dead=>simp [okA,ok1] at h
 |abs q es=>simp [okA,ok1] at h
 |sc u=>exact wF (σ:=σ) (n:=n) (y:= .sc u) h
 |nil q=>exact wF (σ:=σ) (n:=n) (y:= .nil q) h
 |list q es=>exact wF (σ:=σ) (n:=n) (y:= .list q es) h
 |ref cs=>exact wF (σ:=σ) (n:=n) (y:= .ref cs) h
 |own b i m=>
  have:=wF (σ:=σ) (n:=n) (y:= .own b i m) h;simp only [reA];generalize re1 σ (.own b i m)=z at*;cases z <;> first|exact this|exact this.elim
 |ptr b i j=>
  have:=wF (σ:=σ) (n:=n) (y:= .ptr b i j) h;simp only [reA];generalize re1 σ (.ptr b i j)=z at*;cases z <;> first|exact this|exact this.elim
theorem aOB {σ:Nat→Option Nat} {n:Nat} {e:Nat→Option AV} : ∀ {tl:List (Nat×AV)},aHX e tl=aHY σ tl→(tl.all λp=>okA σ n p.2)=true→aAy σ n e tl
 | [],_,_=>trivial
 |(t,y)::r,h,q=>by
  simp only [aHX,aHY,List.cons.injEq] at h;simp only [List.all_cons,cV] at q;exact ⟨⟨_,h.1,aOA q.1⟩,aOB h.2 q.2⟩
theorem bK {σ:Nat→Option Nat} {n:Nat} {e:Nat→Option AV} {tl:List (Nat×AV)} (h:aHX e tl=aHY σ tl∧(tl.all λp=>okA σ n p.2)=true):aAy σ n e tl:=aOB h.1 h.2
end
noncomputable section
def nmA:List Nat:=[0,1,2,3,4,5,6,7,8,9,10,11,12,13,14,15,16,17,18,19]++[20,21,22,23,24,25,26,27,28,29,30,31,32,33,34,35,36,37,38,39]++([40,41,42,43,44,45,46,47,48,49,50,51,52,53,54,55,56,57,58,59]++([60,61,62,63,64,65,66,67,68,69,70,71,72,73,74,75,76,77,78,79]++[80,81,82,83,84,85,86,87,88,89,90,91,92,93,94,95,96,97,98,99]))
abbrev mN (e:List (Nat×AV)) (h:List (Nat×Blk)) (n:Nat) (kp:Kp:=0):AState:=mkS e h n (nmA.drop n) kp
def iSg:List (Nat×Blk)→Nat→Option Nat
 | [],_=>none
 |(q,_)::r,t=>bif Nat.beq t q then some t else iSg r t
def zSg:List (Nat×Blk)→List Nat→Nat→Option Nat
 |(q,_)::r,b::bs,t=>bif Nat.beq t q then some b else zSg r bs t
 |_,_,_=>none
theorem bL {s:AState} {n:Nat} {kp:Kp} {tl:List (Nat×AV)} {hl:List (Nat×Blk)} (he:aAy (iSg hl) n s.env tl) (hh:sP (iSg hl) n s.heap hl) (p:aDY (iSg hl) hl=true∧s.kp=kp∧aFI (iSg hl) kp.n hl=true∧Nat.ble kp.n n=true):Ent s (mN tl hl n kp):=uH he hh p.1 p.2.1 p.2.2.1 p.2.2.2
theorem ntZ (bs:List Nat) {s:AState} {n:Nat} {kp:Kp} {tl:List (Nat×AV)} {hl:List (Nat×Blk)} (he:aAy (zSg hl bs) n s.env tl) (hh:sP (zSg hl bs) n s.heap hl) (p:aDY (zSg hl bs) hl=true∧s.kp=kp∧aFI (zSg hl bs) kp.n hl=true∧Nat.ble kp.n n=true):Ent s (mN tl hl n kp):=uH he hh p.1 p.2.1 p.2.2.1 p.2.2.2
section
variable {σ:Nat→Option Nat} {n:Nat}
theorem aHZ {e:Nat→Option AV} : ∀ {m:Nat} {tl:List (Nat×AV)},aAy σ n e (tl.take m)→aAy σ n e (tl.drop m)→aAy σ n e tl
 |0,_,_,h=>h
 |m+1,[],_,_=>trivial
 |m+1,(t,y)::r,h1,h2=>⟨h1.1,aHZ h1.2 h2⟩
theorem xU (m:Nat) {e:Nat→Option AV} {tl:List (Nat×AV)} (h:aHX e (tl.take m)=aHY σ (tl.take m)∧((tl.take m).all λp=>okA σ n p.2)=true) (h2:aAy σ n e (tl.drop m)):aAy σ n e tl:=aHZ (bK h) h2
theorem vE {e:Nat→Option AV} {t:Nat} {y:AV} {r:List (Nat×AV)} (h: ∃ x,e t=some x∧tD σ n x y) (h2:aAy σ n e r):aAy σ n e ((t,y)::r):=⟨h,h2⟩
variable {b b0 q:Nat} {h:Hp} {r:List (Nat×Blk)}
theorem dJ {l:List Int} (p:(σ b,h b0,Nat.blt b n)=(some b0,some ⟨1,List.map (ow eI) l⟩,true)) (hr:sP σ n h r):sP σ n h ((b,⟨1,List.map (ow eI) l⟩)::r):=by
 obtain ⟨p1,p⟩:=Prod.mk.inj p;obtain ⟨p2,p3⟩:=Prod.mk.inj p;exact hB (dH.plainO _) p1 p2 p3 hr
theorem cP {y:Blk} (p:(σ b,h b0,Nat.blt b n,y.es.all λcs=>cs.all qP)=(some b0,some y,true,true)) (hr:sP σ n h r):sP σ n h ((b,y)::r):=by
 obtain ⟨p1,p⟩:=Prod.mk.inj p;obtain ⟨p2,p⟩:=Prod.mk.inj p;obtain ⟨p3,p4⟩:=Prod.mk.inj p;exact hB (aLB p4) p1 p2 p3 hr
theorem sU {y:Blk} (hp:aAx y.es) (p:(σ b,h b0,Nat.blt b n)=(some b0,some y,true)) (hr:sP σ n h r):sP σ n h ((b,y)::r):=by
 obtain ⟨p1,p⟩:=Prod.mk.inj p;obtain ⟨p2,p3⟩:=Prod.mk.inj p;exact hB hp p1 p2 p3 hr
def reC (σ:Nat→Option Nat):AV→AV
 | .own b i m=>match σ b with|some b0=> .own b0 i m|none=> .dead
 | .ptr b i j=>match σ b with|some b0=> .ptr b0 i j|none=> .dead
 |x=>x
def okC (σ:Nat→Option Nat) (n:Nat):AV→Bool
 | .own b _ _=>(σ b).isSome &&Nat.blt b n
 | .ptr b _ _=>(σ b).isSome &&Nat.blt b n
 | .sc _=>true
 | .nil _=>true
 | .list _ _=>true
 | .abs _ _=>true
 | .ref _=>true
 |_=>false
theorem aOE {y:AV} (h:okC σ n y=true):kT σ n (reC σ y) y:=by
 cases y with
 |sc u=>exact wF (σ:=σ) (n:=n) (y:= .sc u) h
 |nil q=>exact wF (σ:=σ) (n:=n) (y:= .nil q) h
 |list q es=>exact wF (σ:=σ) (n:=n) (y:= .list q es) h
 |ref cs=>exact wF (σ:=σ) (n:=n) (y:= .ref cs) h
 |abs q es=>exact ⟨rfl,rfl⟩
 |own b i m=>
  have:=wF (σ:=σ) (n:=n) (y:= .own b i m) h;show kT σ n (re1 σ (.own b i m)) _;generalize re1 σ (.own b i m)=z at*;cases z <;> first|exact this|exact this.elim
 |ptr b i j=>
  have:=wF (σ:=σ) (n:=n) (y:= .ptr b i j) h;show kT σ n (re1 σ (.ptr b i j)) _;generalize re1 σ (.ptr b i j)=z at*;cases z <;> first|exact this|exact this.elim
 |agg cs=>simp [okC] at h
 |fn f cs=>simp [okC] at h
 |tuple cs=>simp [okC] at h
 |dead=>simp [okC] at h
theorem aLQ: ∀ {cs:List AV},cs.all (okC σ n)=true→All2 (kT σ n) (cs.map (reC σ)) cs
 | [],_=>rfl
 |c::cs,h=>by
  simp only [List.all_cons,cV] at h;exact ⟨c,cs,rfl,aOE h.1,aLQ h.2⟩
theorem aLR: ∀ {es:List (List AV)},(es.all λcs=>cs.all (okC σ n))=true→All2 (All2 (kT σ n)) (es.map (List.map (reC σ))) es
 | [],_=>rfl
 |c::cs,h=>by
  simp only [List.all_cons,cV] at h;exact ⟨c,cs,rfl,aLQ h.1,aLR h.2⟩
theorem nO {es:List (List AV)} (p:(σ b,h b0,Nat.blt b n,es.all λcs=>cs.all (okC σ n))=(some b0,some ⟨q,es.map (List.map (reC σ))⟩,true,true)) (hr:sP σ n h r):sP σ n h ((b,⟨q,es⟩)::r):=by
 obtain ⟨p1,p⟩:=Prod.mk.inj p;obtain ⟨p2,p⟩:=Prod.mk.inj p;obtain ⟨p3,p4⟩:=Prod.mk.inj p;refine hX ?_ p3 hr;rw [p1];exact ⟨_,p2,rfl,.inr (aLR p4)⟩
end
theorem cG {α:Type} {c:Bool} {A:Option α} {r:α} {p:Prop} (h:cond c A none=some r) (f:c=true→A=some r→p):p:=f (cg h).1 (cg h).2
section
variable {h:Hp} {x:AV} {xs ds:List AV}
theorem bN (q:dI x=true) (b:All2 (viewA h) xs ds):All2 (viewA h) (x::xs) (x::ds):=aN (aMS q) b
theorem vcT {b m:Nat} {l:List Int} (hb:h b=some ⟨1,List.map (ow eI) l⟩) (hn:l.length=m) (q:All2 (viewA h) xs ds):All2 (viewA h) (.own b 0 m::xs) (.list 1 (List.map eI l)::ds):=aN (aCU dH hb hn) q
end
theorem cT {d:Option Tmp} {ty:TypeId} {pos:String} {aft:Array Edge} {g:Option (Nat×Bool)} {s:AState} {f:FuncId} {xs:Array Operand} {ats:Array TypeId} {avs ds:List AV} {ns':List Nat} {α:Type} {e:α→List AV} {q b:Nat} {l:List α} {z:Bool} {c0:Nat} (ok:EOk q e) (hc:HasC Tryz.prog f ds (.tuple [.list q (List.map e l),.bl z])) (h:evs s.ev xs.toList=some avs∧s.ns=b::c0::ns'∧tE s.ns=true) (hv:All2 (viewA s.heap) avs ds):AEff Tryz.prog ⟨d,.call ⟨.value (.func f),xs,ats⟩,ty,pos,aft,g⟩ s.ev s.heap s.kp ⟨.tuple [.own b 0 l.length,.bl z],avs.flatMap (rN s.heap)++[].flatMap (lZ s.heap),[(b,some ⟨q,List.map (ow e) l⟩)],[b]⟩:=
 AEff.conv (mH (x:= .tuple [.own b 0 (List.map e l).length,.bl z]) (nb:=[(b,⟨q,cN (List.map e l)⟩)]) hc h.1 (by rw [h.2.1];rfl) rfl h.2.2 (rX (ok.good _) (rX trivial aDr)) hv) (by simp only [bF]) (vD (nb':=[(b,⟨q,List.map (ow e) l⟩)]) (by simp only [nK]))
section
variable {h:Hp} {κ:Kp}
theorem vaM {b m:Nat} {v:Mt} (p:h b=some ⟨1,List.map (ow eI) v.cells⟩∧v.cells.length=m):viewA h (.agg [.int v.rows,.int v.cols,.own b 0 m]) (.agg (eM v)):=xB (bD (dK rfl) (bD (dK rfl) (bD (fJ dH p.1 p.2) tF)))
theorem vaC {b m:Nat} {v:Sc} (p:h b=some ⟨1,List.map (ow (jA 1 eI)) v.basis⟩∧v.basis.length=m):viewA h (.agg [.int v.size,.own b 0 m]) (.agg (eS v)):=xB (bD (dK rfl) (bD (fJ gM p.1 p.2) tF))
variable {x:AV} {xs ds:List AV}
end
section
variable {dst:Option Tmp} {ty:TypeId} {pos:String} {aft:Array Edge} {g:Option (Nat×Bool)} {s:AState}
theorem wl {t e:TypeId} {n:Nat} {parts:Array (Nat×Operand)} {y ye:Ty} {ps:List (Nat×List AV)} {cs:List AV} {b:Nat}
  (h:(s.ns.head?,dB TT t,y.desc,dB TT e,ye.zero.length,Nat.ble (n*ye.size) 16777216,Nat.ble n 16777216,rW s.ev parts.toList,vR (λi=>some (i*ye.size,ye.size)) (List.replicate n ye.zero).flatten ps,(ps.all λp=>p.2.all (okCell s.heap)),cs.all (okCell s.heap),(ps.flatMap (λp=>cI p.2)++cI cs).contains b)=(some b,some y,.slice e,some ye,ye.size,true,true,some ps,some cs,true,true,false)):
  AEff Tryz.prog ⟨dst,.buildSlice t n parts,ty,pos,aft,g⟩ s.ev s.heap s.kp ⟨.own b 0 n,ps.flatMap (λp=>cI p.2)++cI cs,[(b,some ⟨ye.size,yC ye.size n cs⟩)],[b]⟩:=by
 simp only [Prod.mk.injEq] at h;obtain ⟨h1,h2,h3,h4,h5,h6,h7,h8,h9,h10,h11,h12⟩:=h;exact aNv aQ h1 h2 h3 h4 h5 h6 h7 h8 h9 h10 h11 h12
theorem ws {t:TypeId} {y:Ty} {x z:Operand} {val:AV} {b i j kk:Nat} {ees:List (List AV)} {cs:List AV}
  (h:(s.ev x,s.heap b,s.ev z,dB TT t,Nat.beq (cC val).length y.size,(cC val).all (okCell s.heap),ees[i]?,Nat.ble (j+y.size) cs.length)=(some (.ptr b i j),some ⟨kk,ees⟩,some val,some y,true,true,some cs,true)):
  AEff Tryz.prog ⟨dst,.store t x z,ty,pos,aft,g⟩ s.ev s.heap s.kp ⟨.dead,b::cI (cC val),[(b,some ⟨kk,ees.set i (zY cs j (cC val))⟩)],[]⟩:=by
 simp only [Prod.mk.injEq] at h;obtain ⟨h1,h2,h3,h4,h5,h6,h7,h8⟩:=h;exact zH aQ h1 h2 h3 h4 h5 h6 h7 h8
theorem wb {t:TypeId} {x:Operand} {v:AV} {b:Nat} (h:(s.ns.head?,s.ev x,(cC v).all (okCell s.heap),(cI (cC v)).contains b)=(some b,some v,true,false)):
  AEff Tryz.prog ⟨dst,.box t x,ty,pos,aft,g⟩ s.ev s.heap s.kp ⟨.ptr b 0 0,cI (cC v),[(b,some ⟨(cC v).length,[cC v]⟩)],[b]⟩:=by
 simp only [Prod.mk.injEq] at h;obtain ⟨h1,h2,h3,h4⟩:=h;exact aMr h1 h2 h3 h4
theorem xl {α:Type} {k:Nat} {e:α→List AV} {x ix:Operand} {t et:Nat} {y ye:Ty} {l:List α} {kk:IntKind} {i:Int} {v:α} (hm:dL l i=some v)
  (h:(s.ev x,s.ev ix,dB TT t,y.desc,dB TT et,ye.size)=(some (.list k (l.map e)),some (.sc (.int kk i)),some y,.slice et,some ye,k)):
  AEff Tryz.prog ⟨dst,.indexAddr t x ix,ty,pos,aft,g⟩ s.ev s.heap s.kp ⟨.ref (e v),[],[],[]⟩:=by
 simp only [Prod.mk.injEq] at h;obtain ⟨h1,h2,h3,h4,h5,h6⟩:=h;exact aKB aQ hm h1 h2 h3 h4 h5 h6
theorem xo {α:Type} {l:List α} {v:α} {x ix:Operand} {t et:Nat} {y ye:Ty} {b kz:Nat} {es:List (List AV)} {kk:IntKind} {i:Int} (hm:dL l i=some v)
  (h:(s.ev x,s.heap b,s.ev ix,dB TT t,y.desc,dB TT et,ye.size)=(some (.own b 0 l.length),some ⟨kz,es⟩,some (.sc (.int kk i)),some y,.slice et,some ye,kz)):
  AEff Tryz.prog ⟨dst,.indexAddr t x ix,ty,pos,aft,g⟩ s.ev s.heap s.kp ⟨.ptr b i.toNat 0,[b],[],[]⟩:=by
 simp only [Prod.mk.injEq] at h;obtain ⟨h1,h2,h3,h4,h5,h6,h7⟩:=h;exact aHN aQ (aGG hm) (vJ hm) h1 h2 h3 h4 h5 h6 h7
theorem wp {α:Type} {e:α→List AV} {l:List α} {u:α} {x:Operand} {t:Nat} {y:Ty} {b j k:Nat} {i:Int} {v:AV} (hm:dL l i=some u)
  (h:(s.ev x,s.heap b,dB TT t,(y.desc.isAgg||Nat.beq y.size 1),Nat.ble (j+y.size) (e u).length,aAr y.desc.isAgg ((((e u).drop j).take y.size).map xZ))=(some (.ptr b i.toNat j),some ⟨k,l.map e⟩,some y,true,true,v)):
  AEff Tryz.prog ⟨dst,.load t x,ty,pos,aft,g⟩ s.ev s.heap s.kp ⟨v,[b],[],[]⟩:=by
 simp only [Prod.mk.injEq] at h;obtain ⟨h1,h2,h3,h4,h5,h6⟩:=h;exact eO aQ h1 h2 h3 h4 (qD (iK hm)) h5 h6
end
theorem hM {f:FuncId} {fn:Func} {c:Code} {nt:Nat} {ds:List AV} {r:AV} (rvs:List ResultVar) (hf:Tryz.prog.funcs[f]? =some fn) (hnt:fn.ntmps=nt) (h':(fn.body,(fn.name== "runtime.NumGoroutine"),fn.results.toList,Nat.ble ds.length nt,ds.all vW)=(some c,false,rvs,true,true)) (h:AC Tryz.prog nt c (s0 ds nmA) (nJ TT rvs r)):HasC Tryz.prog f ds r:=by
 simp only [Prod.mk.injEq] at h';exact tR aQ hf h'.1 h'.2.1 hnt h'.2.2.1 h'.2.2.2.1 h'.2.2.2.2 h
@[elab_as_elim] theorem sp {α:Type} {a:α} {P:α→Prop} {o:α} (h:some a=some o) (p:P a):P o:=so h▸p
theorem oP {α:Type} {t:Bool} {A B:Option α} {r:α} {G:Prop} (h:cond t A B=some r) (p:t=true→A=some r→G) (q:t=false→B=some r→G):G:=by
 rcases cb h with ⟨e,h⟩|⟨e,h⟩
 ·exact p e h
 ·exact q e h
theorem cJ {P:Program} {nt:Nat} {Q:Exit→AState→Prop} {s:AState} {c:Operand} {x y:Code} {α:Type} {t:Bool} {A B:Option α} {r:α} (hc:s.ev c=some (.sc (.bool t))) (h:cond t A B=some r) (p:t=true→A=some r→AC P nt x s Q) (q:t=false→B=some r→AC P nt y s Q):AC P nt (.cond c x y) s Q:=oP h (λe h=>dC hc e (p e h)) λe h=>oV hc e (q e h)
theorem tU {p q:Prop} (a:p) (b:q):p∧q:=⟨a,b⟩
def oMt (v:Mt) (a:Nat):List AV:=[.int v.rows,.int v.cols,.own a 0 v.cells.length]
def oSc (v:Sc) (a:Nat):List AV:=[.int v.size,.own a 0 v.basis.length]
def jM:List AV:=[.int 0,.int 0,.nil 1]
end
noncomputable section
set_option maxRecDepth 10000
set_option maxHeartbeats 4000000
def fA (a0:Int) (a1:Int) (a2:Int):Option Bool:=
 bif decide (a1≤a0) then
 (some (decide (a0≤a2)))
 else
 (some (false))
theorem hJ (a0:Int) (a1:Int) (a2:Int) (r:Bool) (h:fA a0 a1 a2=some r):HasC Tryz.prog 110 [.int a0,.int a1,.int a2] (.bl r):=by
 exact hM [.tmp 6] Tryz.func110 Tryz.ntmps110 k<|sR<|aT k2<|sR<|am k k<|am k k<|cm k4<|am k k<|oP h (λq1 h=>aJ 10 k q1<|am k k<|am k k<|cm k4<|pk k3<|aT k2<|aD<|eJ h k2) λq1 h=>aJ 10 k q1<|aK k4<|ak k k<|pk k3<|aT k2<|aD<|eJ h k2
def gC (a0:Int) (a1:Int) (a2:Int):Option Bool:=
 bif decide (a1≤a0) then
 (some (decide (a0≤a2)))
 else
 (some (false))
theorem jB (a0:Int) (a1:Int) (a2:Int) (r:Bool) (h:gC a0 a1 a2=some r):HasC Tryz.prog 113 [.int a0,.int a1,.int a2] (.bl r):=by
 exact hM [.tmp 6] Tryz.func113 Tryz.ntmps113 k<|sR<|aT k2<|sR<|am k k<|am k k<|cm k4<|am k k<|oP h (λq1 h=>aJ 10 k q1<|am k k<|am k k<|cm k4<|pk k3<|aT k2<|aD<|eJ h k2) λq1 h=>aJ 10 k q1<|aK k4<|ak k k<|pk k3<|aT k2<|aD<|eJ h k2
def pD (a0:(List Int)) (x1:(Int×Int)):Option ((Int×Int) ⊕ Int):=
 bif decide (x1.2<(a0.length:Int)) then
 ((dL a0 x1.2).bind λv2=>
 some (.inl (wr (x1.1+v2),wr (x1.2+1))))
 else
 (some (.inr x1.1))
def tW (a0:(List Int)):Option Int:=
 (Lp (pD a0) (0,0)).bind λy3=>
 some (y3)
theorem aGL (a0:(List Int)) (r:Int) (h:tW a0=some r):HasC Tryz.prog 153 [.list 1 (a0.map eI)] (.int r):=by
 refine hM [.tmp 2] Tryz.func153 Tryz.ntmps153 k<|sR<|aT k2<|sR<|aT k2<|sQ<|sR<|am k k<|ln k4<|am k k<|an<|tn<|aH<|oB h λy3 hy3 h=>bX (body:=(pD a0)) hy3 (λ(x1:(Int×Int))=>mN [(3,.int x1.1),(6,.list 1 (a0.map eI)),(7,.int (a0.length:Int)),(8,.int x1.2)] [] 0) (λr e t=>e= .exit 0∧Ent t (mN [(3,.int r)] [] 0)) (bL (bK k2) bA k4) ?_ ?_
 ·intro x1 o h;exact sR<|cm k4<|an<|tn<|sQ<|cJ k h (λ_ h=>aG<|tn<|sQ<|aH<|sR<|oB h λv2 hv2 h=>ae (xl hv2 k) k<|lr k7<|aT k2<|rg<|am k k<|am k k<|ae (bH k k) k<|aa k k<|an<|aX<|tn<|rg<|ae (bH k k) k<|am k k<|an<|tn<|sp h ⟨_,k,(bL (bK k2) bA k4)⟩) λ_ h=>aY<|aC<|aC<|sp h ⟨_,k,k,(bL (bK k2) bA k4)⟩
 ·rintro e t ⟨rfl,hent⟩;exact aM<|tn<|aO hent<|sR<|am k k<|aT k2<|aD<|uT h k2
def iB (a0:(List Int)) (a1:(List Int)) (x1:Int):Option (Int ⊕ (Unit ⊕ Bool)):=
 bif decide (x1<(a0.length:Int)) then
 ((dL a0 x1).bind λv3=>
 (dL a1 x1).bind λv4=>
 bif !decide (v3=v4) then
 (some (.inr (.inr (false))))
 else
 (some (.inl (wr (x1+1)))))
 else
 (some (.inr (.inl ())))
def kB (a0:(List Int)) (a1:(List Int)):Option Bool:=
 bif !decide ((a0.length:Int)=(a1.length:Int)) then
 (some (false))
 else
 ((Lp (iB a0 a1) 0).bind λy6=>
 Sum.elim (λy7=>
 some (true)
 )
 (λy8=>
 some y8
 )
 y6)
theorem wG (a0:(List Int)) (a1:(List Int)) (r:Bool) (h:kB a0 a1=some r):HasC Tryz.prog 155 [.list 1 (a0.map eI),.list 1 (a1.map eI)] (.bl r):=by
 refine hM [.tmp 4] Tryz.func155 Tryz.ntmps155 k<|sR<|aT k2<|sQ<|sR<|am k k<|ln k4<|am k k<|ln k4<|cm k4<|an<|tn<|cJ k h (λ_ h=>sR<|aT k2<|aD<|aB<|eJ h k2) λ_ h=>?_;refine aG<|tn<|sQ<|sR<|am k k<|ln k4<|am k k<|an<|tn<|aH<|oB h λy6 hy6 h=>bX (body:=(iB a0 a1)) hy6 (λ(x1:Int)=>mN [(0,.list 1 (a0.map eI)),(1,.list 1 (a1.map eI)),(12,.int (a0.length:Int)),(13,.int x1)] [] 0) (λr e t=>Sum.elim (λa=>(λr e t=>e= .exit 0∧Ent t (mN [] [] 0)) a e t) (λb=>(λr e t=>e= .ret∧nJ TT [.tmp 4] (.bl r) .ret t) b e t) r) (bL (bK k2) bA k4) ?_ ?_
 ·intro x1 o h;exact sR<|cm k4<|an<|tn<|sQ<|cJ k h (λ_ h=>aG<|tn<|sQ<|aH<|sR<|am k k<|aT k2<|sQ<|aW jN<|am k k<|am k k<|oB h λv3 hv3 h=>ae (xl hv3 k) k<|lr k7<|am k k<|am k k<|oB h λv4 hv4 h=>ae (xl hv4 k) k<|lr k7<|cm k4<|an<|tU (by kernel_rfl)<|tn<|cJ k h (λ_ h=>sR<|aT k2<|aD<|aU<|aB<|aB<|sp h ⟨_,k,k,aR k k k (iY k)⟩) λ_ h=>aG<|aX<|tn<|rg<|ae (bH k k) k<|am k k<|an<|tn<|sp h ⟨_,k,(bL (bK k2) bA k4)⟩) λ_ h=>aY<|aC<|aC<|sp h ⟨_,k,k,(bL bA bA k4)⟩
 ·intro e t hX;rcases y6 with y7|y8
  ·obtain ⟨rfl,hent⟩:=hX;exact aM<|tn<|aO hent<|sR<|aT k2<|aD<|eJ h k2
  ·obtain ⟨rfl,hent⟩:=hX;exact aU<|aB<|sp h hent
def kC (a0:Int):Option Bool:=
 bif decide (a0=2) then
 (some (true))
 else
 (bif decide (a0=3) then
 (some (true))
 else
 (some (decide (a0=5))))
theorem qS (a0:Int) (r:Bool) (h:kC a0=some r):HasC Tryz.prog 116 [.int a0] (.bl r):=by
 exact hM [.tmp 2] Tryz.func116 Tryz.ntmps116 k<|sR<|aT k2<|sR<|am k k<|cm k4<|am k k<|oP h (λq1 h=>aJ 5 k q1<|aK k4<|pk k3<|am k k<|aK k4<|pk k3<|aT k2<|aD<|eJ h k2) λq1 h=>aJ 5 k q1<|am k k<|cm k4<|pk k3<|am k k<|oP h (λq2 h=>aJ 9 k q2<|aK k4<|pk k3<|aT k2<|aD<|eJ h k2) λq2 h=>aJ 9 k q2<|am k k<|cm k4<|pk k3<|aT k2<|aD<|eJ h k2
def gD (a0:Int):Option Bool:=
 bif decide (a0=2) then
 (some (true))
 else
 (bif decide (a0=3) then
 (some (true))
 else
 (some (decide (a0=5))))
theorem kD (a0:Int) (r:Bool) (h:gD a0=some r):HasC Tryz.prog 123 [.int a0] (.bl r):=by
 exact hM [.tmp 2] Tryz.func123 Tryz.ntmps123 k<|sR<|aT k2<|sR<|am k k<|cm k4<|am k k<|oP h (λq1 h=>aJ 5 k q1<|aK k4<|pk k3<|am k k<|aK k4<|pk k3<|aT k2<|aD<|eJ h k2) λq1 h=>aJ 5 k q1<|am k k<|cm k4<|pk k3<|am k k<|oP h (λq2 h=>aJ 9 k q2<|aK k4<|pk k3<|aT k2<|aD<|eJ h k2) λq2 h=>aJ 9 k q2<|am k k<|cm k4<|pk k3<|aT k2<|aD<|eJ h k2
def kV (a0:Qv) (x1:Int):Option (Int ⊕ (Unit ⊕ Bool)):=
 bif decide (x1<(a0.src.length:Int)) then
 (bif decide (x1<(a0.tgt.length:Int)) then
 ((dL a0.src x1).bind λv3=>
 (gC v3 0 (wr (a0.n - 1))).bind λv4=>
 bif !v4 then
 (some (.inr (.inr (false))))
 else
 ((dL a0.tgt x1).bind λv6=>
 (gC v6 0 (wr (a0.n - 1))).bind λv7=>
 bif !v7 then
 (some (.inr (.inr (false))))
 else
 (some (.inl (wr (x1+1))))))
 else
 (some (.inr (.inl ()))))
 else
 (some (.inr (.inl ())))
def lO (a0:Qv):Option Bool:=
 (Lp (kV a0) 0).bind λy9=>
 Sum.elim (λy10=>
 (gC a0.n 1 5).bind λv11=>
 bif v11 then
 (bif decide ((a0.src.length:Int)≤6) then
 (some (decide ((a0.tgt.length:Int)=(a0.src.length:Int))))
 else
 (some (false)))
 else
 (some (false))
 )
 (λy14=>
 some y14
 )
 y9
theorem xV (a0:Qv) (r:Bool) (h:lO a0=some r):HasC Tryz.prog 115 [.agg (eQ a0)] (.bl r):=by
 refine hM [.tmp 2] Tryz.func115 Tryz.ntmps115 k<|sR<|ae (wb k) k<|aT k2<|sQ<|sR<|aT k2<|aH<|oB h λy9 hy9 h=>bX (body:=(kV a0)) hy9 (λ(x1:Int)=>mN [(1,.ptr 0 0 0),(3,.int x1)] [(0,⟨3,[eQ a0]⟩)] 1) (λr e t=>Sum.elim (λa=>(λr e t=>e= .exit 0∧Ent t (mN [(1,.ptr 0 0 0)] [(0,⟨3,[eQ a0]⟩)] 1)) a e t) (λb=>(λr e t=>e= .ret∧nJ TT [.tmp 2] (.bl r) .ret t) b e t) r) (bL (bK k2) (cP k<|bA) k4) ?_ ?_
 ·intro x1 o h;refine sQ<|sR<|am k k<|fp k8<|lp k8<|ln k4<|cm k4<|am k k<|oP h (λq1 h=>?_) λq1 h=>aJ 9 k q1<|aK k4<|aK k4<|ak k k<|pk k3<|an<|tn<|oV k k<|aY<|aC<|aC<|sp h ⟨_,k,k,(bL (bK k2) (cP k<|bA) k4)⟩;exact aJ 9 k q1<|am k k<|fp k8<|lp k8<|ln k4<|cm k4<|pk k3<|an<|tn<|cJ k h (λ_ h=>aG<|tn<|sQ<|aH<|sQ<|aW jN<|fp k8<|lp k8<|am k k<|oB h λv3 hv3 h=>ae (xl hv3 k) k<|lr k7<|fp k8<|lp k8<|ae (oY k k) k<|oB h λv4 hv4 h=>ae (aE (jB v3 0 (wr (a0.n - 1)) v4 hv4) k (bN k (bN k (bN k aI)))) k<|ae (cK k) k<|am k k<|oP h (λq5 h=>aJ 28 k q5<|aK k4<|aK k4<|aK k4<|aK k4<|aK k4<|pk k3<|an<|tU (by kernel_rfl)<|tn<|aO (t:=mN [(1,.ptr 0 0 0),(3,.int x1),(39,.bl true)] [(0,⟨3,[eQ a0]⟩)] 1) (bL (bK k2) (cP k<|bA) k4)<|dC k k<|sR<|aT k2<|aD<|aU<|aB<|aB<|sp h ⟨_,k,k,aR k k k (iY k)⟩) λq5 h=>aJ 28 k q5<|fp k8<|lp k8<|am k k<|oB h λv6 hv6 h=>ae (xl hv6 k) k<|lr k7<|fp k8<|lp k8<|ae (oY k k) k<|oB h λv7 hv7 h=>ae (aE (jB v6 0 (wr (a0.n - 1)) v7 hv7) k (bN k (bN k (bN k aI)))) k<|ae (cK k) k<|pk k3<|an<|tU (by kernel_rfl)<|tn<|aO (t:=mN [(1,.ptr 0 0 0),(3,.int x1),(39,.bl (!v7))] [(0,⟨3,[eQ a0]⟩)] 1) (bL (bK k2) (cP k<|bA) k4)<|cJ k h (λ_ h=>sR<|aT k2<|aD<|aU<|aB<|aB<|sp h ⟨_,k,k,aR k k k (iY k)⟩) λ_ h=>aG<|aX<|tn<|rg<|am k k<|ae (bH k k) k<|aT k2<|sp h ⟨_,k,(bL (bK k2) (cP k<|bA) k4)⟩) λ_ h=>aY<|aC<|aC<|sp h ⟨_,k,k,(bL (bK k2) (cP k<|bA) k4)⟩
 ·intro e t hX;rcases y9 with y10|y14
  ·obtain ⟨rfl,hent⟩:=hX;exact aM<|tn<|aO hent<|sR<|fp k8<|lp k8<|oB h λv11 hv11 h=>ae (aE (jB a0.n 1 5 v11 hv11) k (bN k (bN k (bN k aI)))) k<|am k k<|oP h (λq12 h=>aJ 43 k q12<|fp k8<|lp k8<|ln k4<|cm k4<|pk k3<|am k k<|oP h (λq13 h=>aJ 49 k q13<|fp k8<|lp k8<|ln k4<|fp k8<|lp k8<|ln k4<|cm k4<|pk k3<|aT k2<|aD<|eJ h k2) λq13 h=>aJ 49 k q13<|aK k4<|aK k4<|aK k4<|ak k k<|pk k3<|aT k2<|aD<|eJ h k2) λq12 h=>aJ 43 k q12<|aK k4<|aK k4<|pk k3<|am k k<|aK k4<|aK k4<|aK k4<|ak k k<|pk k3<|aT k2<|aD<|eJ h k2
  ·obtain ⟨rfl,hent⟩:=hX;exact aU<|aB<|sp h hent
def sW (a0:Int) (a1:Int):Option Mt:=
 bif (decide (0≤wr (a0*a1))&&decide (wr (a0*a1)≤1048576)) then
 (some ((⟨a0,a1,(List.replicate ((wr (a0*a1)).toNat) (0:Int))⟩:Mt)))
 else none
theorem aCN (a0:Int) (a1:Int) (r:Mt) (h:sW a0 a1=some r):HasC Tryz.prog 165 [.int a0,.int a1] (.agg (eM r)):=by
 exact hM [.cell 4 130] Tryz.func165 Tryz.ntmps165 k<|sR<|ae (cH aQ k k) k<|an<|tn<|sR<|am k k<|am k k<|am k k<|am k k<|ae (gI k k) k<|cG h λq1 h=>ae (xF aQ q1 k k k k k k k k) k<|ae (mG aQ k k k k k k) k<|ae (ws k) k<|an<|tn<|aO (t:=mN [(4,.ptr 0 0 0)] [(0,⟨3,[[.int a0,.int a1,.own 1 0 ((List.replicate ((wr (a0*a1)).toNat) (0:Int)).length)]]⟩),(1,⟨1,List.map (ow eI) (List.replicate ((wr (a0*a1)).toNat) (0:Int))⟩)] 2) (bL (bK k2) (hX ⟨_,k,k,.inr ⟨_,_,k,⟨_,_,k,k,⟨_,_,k,k,⟨_,_,k,⟨k,k,(by simp only [bF,lA,lT,lR,lC,lN]),k⟩,k⟩⟩⟩,k⟩⟩ k<|hX ⟨_,k,k,.inl ⟨aDo (e:=eI) (z:=0) _,dH.plainO _⟩⟩ k<|bA) k4)<|aD<|sp h (aR k k k (mA (aZ (k) (aZ (k) (aZ (fK dH k k) fH)))))
def rY (a0:Int) (a1:Int):Option Mt:=
 bif (decide (0≤wr (a0*a1))&&decide (wr (a0*a1)≤1048576)) then
 (some ((⟨a0,a1,(List.replicate ((wr (a0*a1)).toNat) (0:Int))⟩:Mt)))
 else none
theorem aEk (a0:Int) (a1:Int) (r:Mt) (h:rY a0 a1=some r):HasC Tryz.prog 162 [.int a0,.int a1] (.agg (eM r)):=by
 exact hM [.cell 4 130] Tryz.func162 Tryz.ntmps162 k<|sR<|ae (cH aQ k k) k<|an<|tn<|sR<|am k k<|am k k<|am k k<|am k k<|ae (gI k k) k<|cG h λq1 h=>ae (xF aQ q1 k k k k k k k k) k<|ae (mG aQ k k k k k k) k<|ae (ws k) k<|an<|tn<|aO (t:=mN [(4,.ptr 0 0 0)] [(0,⟨3,[[.int a0,.int a1,.own 1 0 ((List.replicate ((wr (a0*a1)).toNat) (0:Int)).length)]]⟩),(1,⟨1,List.map (ow eI) (List.replicate ((wr (a0*a1)).toNat) (0:Int))⟩)] 2) (bL (bK k2) (hX ⟨_,k,k,.inr ⟨_,_,k,⟨_,_,k,k,⟨_,_,k,k,⟨_,_,k,⟨k,k,(by simp only [bF,lA,lT,lR,lC,lN]),k⟩,k⟩⟩⟩,k⟩⟩ k<|hX ⟨_,k,k,.inl ⟨aDo (e:=eI) (z:=0) _,dH.plainO _⟩⟩ k<|bA) k4)<|aD<|sp h (aR k k k (mA (aZ (k) (aZ (k) (aZ (fK dH k k) fH)))))
def dD (a0:Mt) (a1:Int):Option Unit:=
 bif (decide (0≤wr (a1*a0.cols))&&(decide (wr (a1*a0.cols)≤wr ((wr (a1+1))*a0.cols))&&decide (wr ((wr (a1+1))*a0.cols)≤((a0.cells.length:Nat):Int)))) then
 (some ())
 else none
theorem eH (a0:Mt) (a1:Int) (r:Unit) (h:dD a0 a1=some r):HasE Tryz.prog 254 [.agg [.int a0.rows,.int a0.cols,.own 0 0 a0.cells.length],.int a1] [(0,⟨1,a0.cells.map (ow eI)⟩)] 1 (.own 0 (0+(wr (a1*a0.cols)).toNat) ((wr ((wr (a1+1))*a0.cols)).toNat - (wr (a1*a0.cols)).toNat)) [(0,⟨1,a0.cells.map (ow eI)⟩)]:=by
 exact aGI aQ (rvs:=[.tmp 4]) (ns:=nmA.drop 1) Tryz.func254 k k Tryz.ntmps254 k k<|sR<|ae (wb k) k<|aT k2<|sR<|fp k8<|lp k8<|am k k<|fp k8<|lp k8<|ae (gI k k) k<|am k k<|ae (bH k k) k<|fp k8<|lp k8<|ae (gI k k) k<|cG h λq1 h=>ae (aCK aQ (l:=wr (a1*a0.cols)) (h:=wr ((wr (a1+1))*a0.cols)) q1 k k k k k k k k) k<|aT k2<|aD<|sp h ⟨mN [(4,.own 0 (0+(wr (a1*a0.cols)).toNat) ((wr ((wr (a1+1))*a0.cols)).toNat - (wr (a1*a0.cols)).toNat))] [(0,⟨1,a0.cells.map (ow eI)⟩)] 1 1,(bL (bK k2) (dJ k<|bA) k4),k,⟨_,k,.inl k⟩,⟨k,bA⟩⟩
def iM (a0:Int) (a2:Int) (a3:(List Int)) (n1:Nat) (s1:Nat) (x1:((List Int)×Int)):Option (((List Int)×Int) ⊕ (List Int)):=
 bif decide (x1.2<(a3.length:Int)) then
 ((dL a3 x1.2).bind λv2=>
 bif (decide (0≤x1.2)&&decide (x1.2<((n1:Nat):Int))) then
 ((x1.1[(s1+x1.2.toNat)]?).bind λv3=>
 bif !decide (a0=0) then
 (bif (decide (0≤x1.2)&&decide (x1.2<((n1:Nat):Int))) then
 ((x1.1[(s1+x1.2.toNat)]?).bind λv5=>
 some (.inl ((x1.1.set (s1+x1.2.toNat) ((wr (v3+(wr (a2*v2)))).tmod a0)),wr (x1.2+1)))
 )
 else none)
 else none
 )
 else none)
 else
 (some (.inr x1.1))
def fT (a0:Int) (c0:(List Int)) (s1:Nat) (n1:Nat) (a2:Int) (a3:(List Int)):Option (List Int):=
 (Lp (iM a0 a2 a3 n1 s1) (c0,0)).bind λy8=>
 some y8
theorem uK (a0:Int) (c0:(List Int)) (s1:Nat) (n1:Nat) (a2:Int) (a3:(List Int)) (r:(List Int)) (h:fT a0 c0 s1 n1 a2 a3=some r):HasE Tryz.prog 267 [.int a0,.own 0 s1 n1,.int a2,.list 1 (a3.map eI)] [(0,⟨1,c0.map (ow eI)⟩)] 1 (.own 0 s1 n1) [(0,⟨1,r.map (ow eI)⟩)]:=by
 refine aGI aQ (rvs:=[.tmp 8]) (ns:=nmA.drop 1) Tryz.func267 k k Tryz.ntmps267 k k<|sR<|aT k2<|sQ<|sR<|am k k<|ln k4<|am k k<|an<|tn<|aH<|oB h λy8 hy8 h=>bX (body:=(iM a0 a2 a3 n1 s1)) hy8 (λ(x1:((List Int)×Int))=>mN [(0,.int a0),(1,.own 0 s1 n1),(2,.int a2),(11,.list 1 (a3.map eI)),(12,.int (a3.length:Int)),(13,.int x1.2)] [(0,⟨1,x1.1.map (ow eI)⟩)] 1 1) (λr e t=>e= .exit 0∧Ent t (mN [(1,.own 0 s1 n1)] [(0,⟨1,r.map (ow eI)⟩)] 1 1)) (bL (bK k2) (dJ k<|bA) k4) ?_ ?_
 ·intro x1 o h;refine sR<|cm k4<|an<|tn<|sQ<|cJ k h (λ_ h=>?_) λ_ h=>aY<|aC<|aC<|sp h ⟨_,k,k,(bL (bK k2) (dJ k<|bA) k4)⟩;refine aG<|tn<|sQ<|aH<|sR<|am k k<|oB h λv2 hv2 h=>ae (xl hv2 k) k<|lr k7<|aa k k<|aT k2<|rg<|am k k<|am k k<|am k k<|am k k<|cG h λq4 h=>oB h λv3 hv3 h=>ae (gJ aQ q4 k k k k k k k) k<|ae (eO aQ k k k k (qD (hv3)) k k) k<|am k k<|am k k<|ae (gI k k) k<|ae (bH k k) k<|am k k<|cG h λq7 h=>ae (aBF k k q7) k<|cG h λq6 h=>oB h λv5 hv5 h=>ae (gJ aQ q6 k k k k k k k) k<|ae (mI aQ vL (u:=(wr (v3+(wr (a2*v2)))).tmod a0) (hv5) k k k k k k) k<|an ?_;exact aX<|tn<|rg<|ae (bH k k) k<|am k k<|an<|tn<|sp h ⟨_,k,(bL (bK k2) (dJ k<|bA) k4)⟩
 ·rintro e t ⟨rfl,hent⟩;exact aM<|tn<|aO hent<|sR<|am k k<|aT k2<|aD<|sp h ⟨mN [(8,.own 0 s1 n1)] [(0,⟨1,y8.map (ow eI)⟩)] 1 1,(bL (bK k2) (dJ k<|bA) k4),k,⟨_,k,.inl k⟩,⟨k,bA⟩⟩
def fE (a0:Int) (a2:Int) (n1:Nat) (n3:Nat) (s1:Nat) (s3:Nat) (x1:((List Int)×Int)):Option (((List Int)×Int) ⊕ (List Int)):=
 bif decide (x1.2<((n3:Nat):Int)) then
 (bif (decide (0≤x1.2)&&decide (x1.2<((n3:Nat):Int))) then
 ((x1.1[(s3+x1.2.toNat)]?).bind λv2=>
 bif (decide (0≤x1.2)&&decide (x1.2<((n1:Nat):Int))) then
 ((x1.1[(s1+x1.2.toNat)]?).bind λv4=>
 bif !decide (a0=0) then
 (bif (decide (0≤x1.2)&&decide (x1.2<((n1:Nat):Int))) then
 ((x1.1[(s1+x1.2.toNat)]?).bind λv6=>
 some (.inl ((x1.1.set (s1+x1.2.toNat) ((wr (v4+(wr (a2*v2)))).tmod a0)),wr (x1.2+1)))
 )
 else none)
 else none
 )
 else none
 )
 else none)
 else
 (some (.inr x1.1))
def gK (a0:Int) (c0:(List Int)) (s1:Nat) (n1:Nat) (a2:Int) (s3:Nat) (n3:Nat):Option (List Int):=
 (Lp (fE a0 a2 n1 n3 s1 s3) (c0,0)).bind λy9=>
 some y9
theorem wH (a0:Int) (c0:(List Int)) (s1:Nat) (n1:Nat) (a2:Int) (s3:Nat) (n3:Nat) (r:(List Int)) (h:gK a0 c0 s1 n1 a2 s3 n3=some r):HasE Tryz.prog 267 [.int a0,.own 0 s1 n1,.int a2,.own 0 s3 n3] [(0,⟨1,c0.map (ow eI)⟩)] 1 (.own 0 s1 n1) [(0,⟨1,r.map (ow eI)⟩)]:=by
 refine aGI aQ (rvs:=[.tmp 8]) (ns:=nmA.drop 1) Tryz.func267 k k Tryz.ntmps267 k k<|sR<|aT k2<|sQ<|sR<|am k k<|ae (lU aQ k k k k) k<|am k k<|an<|tn<|aH<|oB h λy9 hy9 h=>bX (body:=(fE a0 a2 n1 n3 s1 s3)) hy9 (λ(x1:((List Int)×Int))=>mN [(0,.int a0),(1,.own 0 s1 n1),(2,.int a2),(11,.own 0 s3 n3),(12,.int ((n3:Nat):Int)),(13,.int x1.2)] [(0,⟨1,x1.1.map (ow eI)⟩)] 1 1) (λr e t=>e= .exit 0∧Ent t (mN [(1,.own 0 s1 n1)] [(0,⟨1,r.map (ow eI)⟩)] 1 1)) (bL (bK k2) (dJ k<|bA) k4) ?_ ?_
 ·intro x1 o h;refine sR<|cm k4<|an<|tn<|sQ<|cJ k h (λ_ h=>?_) λ_ h=>aY<|aC<|aC<|sp h ⟨_,k,k,(bL (bK k2) (dJ k<|bA) k4)⟩;refine aG<|tn<|sQ<|aH<|sR<|am k k<|cG h λq3 h=>oB h λv2 hv2 h=>ae (gJ aQ q3 k k k k k k k) k<|ae (eO aQ k k k k (qD (hv2)) k k) k<|aa k k<|aT k2<|rg<|am k k<|am k k<|am k k<|am k k<|cG h λq5 h=>oB h λv4 hv4 h=>ae (gJ aQ q5 k k k k k k k) k<|ae (eO aQ k k k k (qD (hv4)) k k) k<|am k k<|am k k<|ae (gI k k) k<|ae (bH k k) k<|am k k<|cG h λq8 h=>ae (aBF k k q8) k<|cG h λq7 h=>oB h λv6 hv6 h=>ae (gJ aQ q7 k k k k k k k) k<|ae (mI aQ vL (u:=(wr (v4+(wr (a2*v2)))).tmod a0) (hv6) k k k k k k) k<|an ?_;exact aX<|tn<|rg<|ae (bH k k) k<|am k k<|an<|tn<|sp h ⟨_,k,(bL (bK k2) (dJ k<|bA) k4)⟩
 ·rintro e t ⟨rfl,hent⟩;exact aM<|tn<|aO hent<|sR<|am k k<|aT k2<|aD<|sp h ⟨mN [(8,.own 0 s1 n1)] [(0,⟨1,y9.map (ow eI)⟩)] 1 1,(bL (bK k2) (dJ k<|bA) k4),k,⟨_,k,.inl k⟩,⟨k,bA⟩⟩
def jC (a0:Int) (a1:Int):Option Int:=
 bif !decide (a0=0) then
 (bif decide (a1.tmod a0<0) then
 (some (wr ((a1.tmod a0)+a0)))
 else
 (some (a1.tmod a0)))
 else none
theorem qT (a0:Int) (a1:Int) (r:Int) (h:jC a0 a1=some r):HasC Tryz.prog 206 [.int a0,.int a1] (.int r):=by
 exact hM [.tmp 4] Tryz.func206 Tryz.ntmps206 k<|sR<|aT k2<|sR<|am k k<|am k k<|cG h λq2 h=>ae (aBF k k q2) k<|aT k2<|sQ<|sR<|am k k<|cm k4<|an<|tn<|cJ k h (λ_ h=>rg<|am k k<|am k k<|ae (bH k k) k<|aT k2<|sR<|am k k<|aT k2<|aD<|uT h k2) λ_ h=>aG<|tn<|sR<|am k k<|aT k2<|aD<|uT h k2
def jD (a1:Mt) (a2:Mt) (x1:((List Int)×Int)) (x2:((List Int)×Int)) (x3:(Int×Int)):Option ((Int×Int) ⊕ Int):=
 bif decide (x3.2<a1.cols) then
 ((dL a1.cells (wr ((wr (x1.2*a1.cols))+x3.2))).bind λv5=>
 (dL a2.cells (wr ((wr (x3.2*a2.cols))+x2.2))).bind λv6=>
 some (.inl (wr (x3.1+(wr (v5*v6))),wr (x3.2+1))))
 else
 (some (.inr x3.1))
def jE (a0:Int) (a1:Mt) (a2:Mt) (x1:((List Int)×Int)) (x2:((List Int)×Int)):Option (((List Int)×Int) ⊕ (List Int)):=
 bif decide (x2.2<a2.cols) then
 ((Lp (jD a1 a2 x1 x2) (0,0)).bind λy7=>
 (jC a0 y7).bind λv8=>
 (dL x2.1 (wr ((wr (x1.2*a2.cols))+x2.2))).bind λv9=>
 some (.inl ((x2.1.set ((wr ((wr (x1.2*a2.cols))+x2.2)).toNat) v8),wr (x2.2+1))))
 else
 (some (.inr x2.1))
def jF (a0:Int) (a1:Mt) (a2:Mt) (x1:((List Int)×Int)):Option (((List Int)×Int) ⊕ (List Int)):=
 bif decide (x1.2<a1.rows) then
 ((Lp (jE a0 a1 a2 x1) (x1.1,0)).bind λy10=>
 some (.inl (y10,wr (x1.2+1))))
 else
 (some (.inr x1.1))
def mJ (a0:Int) (a1:Mt) (a2:Mt):Option Mt:=
 (rY a1.rows a2.cols).bind λv1=>
 (Lp (jF a0 a1 a2) (v1.cells,0)).bind λy11=>
 some ((⟨v1.rows,v1.cols,y11⟩:Mt))
theorem aBK (a0:Int) (a1:Mt) (a2:Mt) (r:Mt) (h:mJ a0 a1 a2=some r):HasC Tryz.prog 282 [.int a0,.agg (eM a1),.agg (eM a2)] (.agg (eM r)):=by
 refine hM [.cell 6 130] Tryz.func282 Tryz.ntmps282 k<|sR<|ae (wb k) k<|ae (wb k) k<|ae (cH aQ k k) k<|an<|tn<|sR<|fp k8<|lp k8<|fp k8<|lp k8<|oB h λv1 hv1 h=>ae (cM (aEk a1.rows a2.cols v1 hv1) k3 (bN k (bN k aI))) k<|ae (cH aQ k k) k<|ae (ws k) k<|an<|tn<|sQ<|sR<|aT k2<|aH<|oB h λy11 hy11 h=>bX (body:=(jF a0 a1 a2)) hy11 (λ(x1:((List Int)×Int))=>mN [(0,.int a0),(4,.ptr 0 0 0),(5,.ptr 1 0 0),(6,.ptr 2 0 0),(7,.ptr 3 0 0),(8,.int x1.2)] [(0,⟨3,[eM a1]⟩),(1,⟨3,[eM a2]⟩),(2,⟨3,[jM]⟩),(3,⟨3,[[.int v1.rows,.int v1.cols,.own 4 0 x1.1.length]]⟩),(4,⟨1,x1.1.map (ow eI)⟩)] 5) (λr e t=>e= .exit 0∧Ent t (mN [(6,.ptr 0 0 0),(7,.ptr 1 0 0)] [(0,⟨3,[jM]⟩),(1,⟨3,[[.int v1.rows,.int v1.cols,.own 2 0 r.length]]⟩),(2,⟨1,r.map (ow eI)⟩)] 3)) (ntZ [0,1,2,4,3] (bK k2) (cP k<|cP k<|cP k<|nO k<|dJ k<|bA) k4) ?_ ?_
 ·intro x1 o h;refine sQ<|sR<|am k k<|fp k8<|lp k8<|cm k4<|an<|tn<|cJ k h (λ_ h=>?_) λ_ h=>aY<|aC<|aC<|sp h ⟨_,k,k,(ntZ [2,3,4] (bK k2) (cP k<|nO k<|dJ k<|bA) k4)⟩;refine aG<|tn<|sQ<|aH<|sR<|aT k2<|aH<|oB h λy10 hy10 h=>bX (body:=(jE a0 a1 a2 x1)) hy10 (λ(x2:((List Int)×Int))=>mN [(0,.int a0),(4,.ptr 0 0 0),(5,.ptr 1 0 0),(6,.ptr 2 0 0),(7,.ptr 3 0 0),(8,.int x1.2),(9,.int x2.2)] [(0,⟨3,[eM a1]⟩),(1,⟨3,[eM a2]⟩),(2,⟨3,[jM]⟩),(3,⟨3,[[.int v1.rows,.int v1.cols,.own 4 0 x2.1.length]]⟩),(4,⟨1,x2.1.map (ow eI)⟩)] 5) (λr e t=>e= .exit 2∧Ent t (mN [(0,.int a0),(4,.ptr 0 0 0),(5,.ptr 1 0 0),(6,.ptr 2 0 0),(7,.ptr 3 0 0),(8,.int x1.2)] [(0,⟨3,[eM a1]⟩),(1,⟨3,[eM a2]⟩),(2,⟨3,[jM]⟩),(3,⟨3,[[.int v1.rows,.int v1.cols,.own 4 0 r.length]]⟩),(4,⟨1,r.map (ow eI)⟩)] 5)) (bL (bK k2) (cP k<|cP k<|cP k<|nO k<|dJ k<|bA) k4) ?_ ?_
  ·intro x2 o h;refine sQ<|sR<|am k k<|fp k8<|lp k8<|cm k4<|an<|tn<|cJ k h (λ_ h=>?_) λ_ h=>aY<|aC<|aC<|sp h ⟨_,k,k,(bL (bK k2) (cP k<|cP k<|cP k<|nO k<|dJ k<|bA) k4)⟩;refine aG<|tn<|sQ<|aH<|sR<|aT k2<|sQ<|sR<|aT k2<|aH<|oB h λy7 hy7 h=>bX (body:=(jD a1 a2 x1 x2)) hy7 (λ(x3:(Int×Int))=>mN [(0,.int a0),(4,.ptr 0 0 0),(5,.ptr 1 0 0),(6,.ptr 2 0 0),(7,.ptr 3 0 0),(8,.int x1.2),(9,.int x2.2),(10,.int x3.1),(11,.int x3.2)] [(0,⟨3,[eM a1]⟩),(1,⟨3,[eM a2]⟩),(2,⟨3,[jM]⟩),(3,⟨3,[[.int v1.rows,.int v1.cols,.own 4 0 x2.1.length]]⟩),(4,⟨1,x2.1.map (ow eI)⟩)] 5) (λr e t=>e= .exit 4∧Ent t (mN [(0,.int a0),(4,.ptr 0 0 0),(5,.ptr 1 0 0),(6,.ptr 2 0 0),(7,.ptr 3 0 0),(8,.int x1.2),(9,.int x2.2),(10,.int r)] [(0,⟨3,[eM a1]⟩),(1,⟨3,[eM a2]⟩),(2,⟨3,[jM]⟩),(3,⟨3,[[.int v1.rows,.int v1.cols,.own 4 0 x2.1.length]]⟩),(4,⟨1,x2.1.map (ow eI)⟩)] 5)) (bL (bK k2) (cP k<|cP k<|cP k<|nO k<|dJ k<|bA) k4) ?_ ?_
   ·intro x3 o h;refine sQ<|sR<|am k k<|fp k8<|lp k8<|cm k4<|an<|tn<|cJ k h (λ_ h=>?_) λ_ h=>aY<|aC<|aC<|sp h ⟨_,k,k,(bL (bK k2) (cP k<|cP k<|cP k<|nO k<|dJ k<|bA) k4)⟩;refine aG<|tn<|sQ<|aH<|aW jN<|am k k<|fp k8<|lp k8<|am k k<|fp k8<|lp k8<|ae (gI k k) k<|am k k<|ae (bH k k) k<|oB h λv5 hv5 h=>ae (xl hv5 k) k<|lr k7<|fp k8<|lp k8<|am k k<|fp k8<|lp k8<|ae (gI k k) k<|am k k<|ae (bH k k) k<|oB h λv6 hv6 h=>ae (xl hv6 k) k<|lr k7<|ae (gI k k) k<|ae (bH k k) k<|aa k k ?_;exact an<|tU (by kernel_rfl)<|aX<|tn<|aO (t:=mN [(0,.int a0),(4,.ptr 0 0 0),(5,.ptr 1 0 0),(6,.ptr 2 0 0),(7,.ptr 3 0 0),(8,.int x1.2),(9,.int x2.2),(10,.int (wr (x3.1+(wr (v5*v6))))),(11,.int x3.2)] [(0,⟨3,[eM a1]⟩),(1,⟨3,[eM a2]⟩),(2,⟨3,[jM]⟩),(3,⟨3,[[.int v1.rows,.int v1.cols,.own 4 0 x2.1.length]]⟩),(4,⟨1,x2.1.map (ow eI)⟩)] 5) (bL (bK k2) (cP k<|cP k<|cP k<|nO k<|dJ k<|bA) k4)<|rg<|am k k<|ae (bH k k) k<|aT k2<|sp h ⟨_,k,(bL (bK k2) (cP k<|cP k<|cP k<|nO k<|dJ k<|bA) k4)⟩
   ·rintro e t ⟨rfl,hent⟩;exact aM<|tn<|aO hent<|aW jN<|fp k8<|lp k8<|am k k<|fp k8<|lp k8<|ae (gI k k) k<|am k k<|ae (bH k k) k<|am k k<|am k k<|oB h λv8 hv8 h=>ae (aE (qT a0 y7 v8 hv8) k (bN k (bN k aI))) k<|oB h λv9 hv9 h=>ae (xo hv9 k) k<|ae (mI aQ vL (u:=v8) (iK hv9) k k k k k k) k<|an<|tU (by kernel_rfl)<|aX<|tn<|rg<|am k k<|ae (bH k k) k<|aT k2<|sp h ⟨_,k,(bL (bK k2) (cP k<|cP k<|cP k<|hX ⟨_,k,k,.inr ⟨_,_,k,⟨_,_,k,k,⟨_,_,k,k,⟨_,_,k,⟨k,k,(by simp only [bF,lA,lT,lR,lC,lN]),k⟩,k⟩⟩⟩,k⟩⟩ k<|dJ k<|bA) k4)⟩
  ·rintro e t ⟨rfl,hent⟩;exact aM<|aX<|tn<|aO hent<|rg<|am k k<|ae (bH k k) k<|aT k2<|sp h ⟨_,k,(bL (bK k2) (cP k<|cP k<|cP k<|nO k<|dJ k<|bA) k4)⟩
 ·rintro e t ⟨rfl,hent⟩;exact aM<|tn<|aO hent<|sR<|lp k8<|ae (ws k) k<|an<|tn<|aD<|sp h (aR k k k (mA (aZ (k) (aZ (k) (aZ (fK dH k k) fH)))))
def jG (a0:Int) (a1:Int) (x1:Int):Option (Int ⊕ (Unit ⊕ Int)):=
 bif decide (x1<a0) then
 ((kC a0).bind λv2=>
 bif v2 then
 ((jC a0 a1).bind λv4=>
 (jC a0 (wr (v4*x1))).bind λv5=>
 bif decide (v5=1) then
 (some (.inr (.inr (x1))))
 else
 (some (.inl (wr (x1+1)))))
 else
 (some (.inr (.inl ()))))
 else
 (some (.inr (.inl ())))
def mK (a0:Int) (a1:Int):Option Int:=
 (Lp (jG a0 a1) 1).bind λy7=>
 Sum.elim (λy8=>
 some (0)
 )
 (λy9=>
 some y9
 )
 y7
theorem aBL (a0:Int) (a1:Int) (r:Int) (h:mK a0 a1=some r):HasC Tryz.prog 208 [.int a0,.int a1] (.int r):=by
 refine hM [.tmp 4] Tryz.func208 Tryz.ntmps208 k<|sR<|aT k2<|sQ<|sR<|aT k2<|aH<|oB h λy7 hy7 h=>bX (body:=(jG a0 a1)) hy7 (λ(x1:Int)=>mN [(0,.int a0),(1,.int a1),(5,.int x1)] [] 0) (λr e t=>Sum.elim (λa=>(λr e t=>e= .exit 0∧Ent t (mN [] [] 0)) a e t) (λb=>(λr e t=>e= .ret∧nJ TT [.tmp 4] (.int r) .ret t) b e t) r) (bL (bK k2) bA k4) ?_ ?_
 ·intro x1 o h;exact sQ<|sR<|am k k<|am k k<|cm k4<|am k k<|oP h (λq1 h=>aJ 9 k q1<|am k k<|oB h λv2 hv2 h=>ae (aE (qS a0 v2 hv2) k (bN k aI)) k<|pk k3<|an<|tn<|cJ k h (λ_ h=>aG<|tn<|sQ<|aH<|sR<|am k k<|am k k<|am k k<|oB h λv4 hv4 h=>ae (aE (qT a0 a1 v4 hv4) k (bN k (bN k aI))) k<|am k k<|ae (gI k k) k<|oB h λv5 hv5 h=>ae (aE (qT a0 (wr (v4*x1)) v5 hv5) k (bN k (bN k aI))) k<|cm k4<|an<|tn<|cJ k h (λ_ h=>sR<|am k k<|aT k2<|aD<|aU<|aB<|aB<|sp h ⟨_,k,k,aR k k k (xC k)⟩) λ_ h=>aG<|aX<|tn<|rg<|am k k<|ae (bH k k) k<|aT k2<|sp h ⟨_,k,(bL (bK k2) bA k4)⟩) λ_ h=>aY<|aC<|aC<|sp h ⟨_,k,k,(bL bA bA k4)⟩) λq1 h=>aJ 9 k q1<|aK k4<|pk k3<|an<|tn<|oV k k<|aY<|aC<|aC<|sp h ⟨_,k,k,(bL bA bA k4)⟩
 ·intro e t hX;rcases y7 with y8|y9
  ·obtain ⟨rfl,hent⟩:=hX;exact aM<|tn<|aO hent<|sR<|aT k2<|aD<|uT h k2
  ·obtain ⟨rfl,hent⟩:=hX;exact aU<|aB<|sp h hent
def kW (a0:Int) (a1:(List Int)) (x1:Int):Option (Int ⊕ (Unit ⊕ Bool)):=
 bif decide (x1<(a1.length:Int)) then
 ((dL a1 x1).bind λv5=>
 (gC v5 0 (wr (a0 - 1))).bind λv6=>
 bif !v6 then
 (some (.inr (.inr (false))))
 else
 (some (.inl (wr (x1+1)))))
 else
 (some (.inr (.inl ())))
def iW (a0:Int) (a1:(List Int)):Option Bool:=
 (kC a0).bind λv1=>
 bif !v1 then
 (some (false))
 else
 (bif decide (64<(a1.length:Int)) then
 (some (false))
 else
 ((Lp (kW a0 a1) 0).bind λy8=>
 Sum.elim (λy9=>
 some (true)
 )
 (λy10=>
 some y10
 )
 y8))
theorem tJ (a0:Int) (a1:(List Int)) (r:Bool) (h:iW a0 a1=some r):HasC Tryz.prog 181 [.int a0,.list 1 (a1.map eI)] (.bl r):=by
 refine hM [.tmp 4] Tryz.func181 Tryz.ntmps181 k<|sR<|aT k2<|sQ<|sR<|am k k<|oB h λv1 hv1 h=>ae (aE (qS a0 v1 hv1) k (bN k aI)) k<|ae (cK k) k<|am k k<|oP h (λq2 h=>aJ 9 k q2<|aK k4<|ak k k<|pk k3<|an<|tn<|dC k k<|sR<|aT k2<|aD<|aB<|eJ h k2) λq2 h=>?_;refine aJ 9 k q2<|am k k<|ln k4<|cm k4<|pk k3<|an<|tn<|cJ k h (λ_ h=>sR<|aT k2<|aD<|aB<|eJ h k2) λ_ h=>?_;refine aG<|tn<|sQ<|sR<|aT k2<|aH<|oB h λy8 hy8 h=>bX (body:=(kW a0 a1)) hy8 (λ(x1:Int)=>mN [(0,.int a0),(1,.list 1 (a1.map eI)),(5,.int x1)] [] 0) (λr e t=>Sum.elim (λa=>(λr e t=>e= .exit 0∧Ent t (mN [] [] 0)) a e t) (λb=>(λr e t=>e= .ret∧nJ TT [.tmp 4] (.bl r) .ret t) b e t) r) (bL (bK k2) bA k4) ?_ ?_
 ·intro x1 o h;exact sQ<|sR<|am k k<|am k k<|ln k4<|cm k4<|an<|tn<|cJ k h (λ_ h=>aG<|tn<|sQ<|aH<|sR<|am k k<|am k k<|oB h λv5 hv5 h=>ae (xl hv5 k) k<|lr k7<|am k k<|ae (oY k k) k<|oB h λv6 hv6 h=>ae (aE (jB v5 0 (wr (a0 - 1)) v6 hv6) k (bN k (bN k (bN k aI)))) k<|ae (cK k) k<|an<|tn<|cJ k h (λ_ h=>sR<|aT k2<|aD<|aU<|aB<|aB<|sp h ⟨_,k,k,aR k k k (iY k)⟩) λ_ h=>aG<|aX<|tn<|rg<|am k k<|ae (bH k k) k<|aT k2<|sp h ⟨_,k,(bL (bK k2) bA k4)⟩) λ_ h=>aY<|aC<|aC<|sp h ⟨_,k,k,(bL bA bA k4)⟩
 ·intro e t hX;rcases y8 with y9|y10
  ·obtain ⟨rfl,hent⟩:=hX;exact aM<|tn<|aO hent<|sR<|aT k2<|aD<|eJ h k2
  ·obtain ⟨rfl,hent⟩:=hX;exact aU<|aB<|sp h hent
def gN (a0:Int) (a1:Mt):Option Bool:=
 (gC a1.rows 0 8).bind λv1=>
 bif v1 then
 ((gC a1.cols 0 8).bind λv3=>
 bif v3 then
 (bif decide ((a1.cells.length:Int)=wr (a1.rows*a1.cols)) then
 ((iW a0 a1.cells).bind λv6=>
 some (v6))
 else
 (some (false)))
 else
 (some (false)))
 else
 (some (false))
theorem pE (a0:Int) (a1:Mt) (r:Bool) (h:gN a0 a1=some r):HasC Tryz.prog 118 [.int a0,.agg (eM a1)] (.bl r):=by
 exact hM [.tmp 4] Tryz.func118 Tryz.ntmps118 k<|sR<|ae (wb k) k<|aT k2<|sR<|fp k8<|lp k8<|oB h λv1 hv1 h=>ae (aE (jB a1.rows 0 8 v1 hv1) k (bN k (bN k (bN k aI)))) k<|am k k<|oP h (λq2 h=>aJ 8 k q2<|fp k8<|lp k8<|oB h λv3 hv3 h=>ae (aE (jB a1.cols 0 8 v3 hv3) k (bN k (bN k (bN k aI)))) k<|pk k3<|am k k<|oP h (λq4 h=>aJ 13 k q4<|fp k8<|lp k8<|ln k4<|fp k8<|lp k8<|fp k8<|lp k8<|ae (gI k k) k<|cm k4<|pk k3<|am k k<|oP h (λq5 h=>aJ 24 k q5<|am k k<|fp k8<|lp k8<|oB h λv6 hv6 h=>ae (aE (tJ a0 a1.cells v6 hv6) k (bN k (bN k aI))) k<|pk k3<|aT k2<|aD<|eJ h k2) λq5 h=>aJ 24 k q5<|aK k4<|aK k4<|pk k3<|aT k2<|aD<|eJ h k2) λq4 h=>aJ 13 k q4<|aK k4<|aK k4<|aK k4<|aK k4<|ak k k<|pk k3<|am k k<|aK k4<|aK k4<|pk k3<|aT k2<|aD<|eJ h k2) λq2 h=>aJ 8 k q2<|aK k4<|ak k k<|pk k3<|am k k<|aK k4<|aK k4<|aK k4<|aK k4<|ak k k<|pk k3<|am k k<|aK k4<|aK k4<|pk k3<|aT k2<|aD<|eJ h k2
def vN (a0:Mt):Option Mt:=
 bif decide (([]:(List Int)).length +a0.cells.length≤4294967296) then
 (some ((⟨a0.rows,a0.cols,(([]:(List Int))++a0.cells)⟩:Mt)))
 else none
theorem aEl (a0:Mt) (r:Mt) (h:vN a0=some r):HasC Tryz.prog 207 [.agg (eM a0)] (.agg (eM r)):=by
 exact hM [.cell 2 130] Tryz.func207 Tryz.ntmps207 k<|sR<|ae (wb k) k<|ae (cH aQ k k) k<|an<|tn<|sQ<|aW jN<|fp k8<|lp k8<|fp k8<|lp k8<|ae (wl k) k<|fp k8<|lp k8<|cG h λq1 h=>ae (oZ aQ (l:=([]:(List Int))) (m:=a0.cells) vL q1 k k k k k k k k k k k k) k<|ae (mG aQ k k k k k k) k<|ae (ws k) k<|an<|tU (by kernel_rfl)<|tn<|aD<|sp h (aR k k k (mA (aZ (k) (aZ (k) (aZ (fK dH k k) fH)))))
end
noncomputable section
set_option maxRecDepth 10000
set_option maxHeartbeats 4000000
def iC (v1:Mt) (x1:(Int×(List Int)×(List Int)×Int)) (x2:(Int×Int)):Option ((Int×Int) ⊕ Int):=
 bif decide (x1.2.2.2≤x2.2) then
 ((dL x1.2.1 (wr ((wr (x2.2*v1.cols))+x1.1))).bind λv5=>
 bif !decide (v5=0) then
 (some (.inl (x2.2,wr (x2.2 - 1))))
 else
 (some (.inl (x2.1,wr (x2.2 - 1)))))
 else
 (some (.inr x2.1))
def kX (v1:Mt) (x1:(Int×(List Int)×(List Int)×Int)) (y7:Int) (x3:((List Int)×Int)):Option (((List Int)×Int) ⊕ (List Int)):=
 bif decide (x3.2<v1.cols) then
 ((dL x3.1 (wr ((wr (x1.2.2.2*v1.cols))+x3.2))).bind λv10=>
 (dL x3.1 (wr ((wr (y7*v1.cols))+x3.2))).bind λv11=>
 (dL x3.1 (wr ((wr (x1.2.2.2*v1.cols))+x3.2))).bind λv12=>
 (dL (x3.1.set ((wr ((wr (x1.2.2.2*v1.cols))+x3.2)).toNat) v11) (wr ((wr (y7*v1.cols))+x3.2))).bind λv13=>
 some (.inl (((x3.1.set ((wr ((wr (x1.2.2.2*v1.cols))+x3.2)).toNat) v11).set ((wr ((wr (y7*v1.cols))+x3.2)).toNat) v10),wr (x3.2+1))))
 else
 (some (.inr x3.1))
def kY (a0:Int) (v1:Mt) (v16:Int) (x1:(Int×(List Int)×(List Int)×Int)) (x4:((List Int)×Int)):Option (((List Int)×Int) ⊕ (List Int)):=
 bif decide (x4.2<v1.cols) then
 ((dL x4.1 (wr ((wr (x1.2.2.2*v1.cols))+x4.2))).bind λv18=>
 (jC a0 (wr (v16*v18))).bind λv19=>
 (dL x4.1 (wr ((wr (x1.2.2.2*v1.cols))+x4.2))).bind λv20=>
 some (.inl ((x4.1.set ((wr ((wr (x1.2.2.2*v1.cols))+x4.2)).toNat) v19),wr (x4.2+1))))
 else
 (some (.inr x4.1))
def iD (a0:Int) (v1:Mt) (v23:Int) (x1:(Int×(List Int)×(List Int)×Int)) (x5:((List Int)×Int)) (x6:((List Int)×Int)):Option (((List Int)×Int) ⊕ (List Int)):=
 bif decide (x6.2<v1.cols) then
 (bif !decide (x5.2=x1.2.2.2) then
 ((dL x6.1 (wr ((wr (x5.2*v1.cols))+x6.2))).bind λv26=>
 (dL x6.1 (wr ((wr (x1.2.2.2*v1.cols))+x6.2))).bind λv27=>
 (jC a0 (wr (v26 - (wr (v23*v27))))).bind λv28=>
 (dL x6.1 (wr ((wr (x5.2*v1.cols))+x6.2))).bind λv29=>
 some (.inl ((x6.1.set ((wr ((wr (x5.2*v1.cols))+x6.2)).toNat) v28),wr (x6.2+1))))
 else
 (some (.inr x6.1)))
 else
 (some (.inr x6.1))
def kZ (a0:Int) (v1:Mt) (x1:(Int×(List Int)×(List Int)×Int)) (x5:((List Int)×Int)):Option (((List Int)×Int) ⊕ (List Int)):=
 bif decide (x5.2<v1.rows) then
 ((dL x5.1 (wr ((wr (x5.2*v1.cols))+x1.1))).bind λv23=>
 (Lp (iD a0 v1 v23 x1 x5) (x5.1,0)).bind λy30=>
 some (.inl (y30,wr (x5.2+1))))
 else
 (some (.inr x5.1))
def eT (a0:Int) (v1:Mt) (x1:(Int×(List Int)×(List Int)×Int)):Option ((Int×(List Int)×(List Int)×Int) ⊕ ((List Int)×(List Int))):=
 bif decide (x1.1<v1.cols) then
 (bif decide (x1.2.2.2<v1.rows) then
 ((Lp (iC v1 x1) ((-1),wr (v1.rows - 1))).bind λy7=>
 bif decide (y7<0) then
 (some (.inl (wr (x1.1+1),x1.2.1,x1.2.2.1,x1.2.2.2)))
 else
 ((Lp (kX v1 x1 y7) (x1.2.1,0)).bind λy14=>
 (dL y14 (wr ((wr (x1.2.2.2*v1.cols))+x1.1))).bind λv15=>
 (mK a0 v15).bind λv16=>
 (Lp (kY a0 v1 v16 x1) (y14,0)).bind λy21=>
 (Lp (kZ a0 v1 x1) (y21,0)).bind λy31=>
 bif decide (x1.2.2.1.length+[x1.1].length ≤4294967296) then
 (some (.inl (wr (x1.1+1),y31,(x1.2.2.1++[x1.1]),wr (x1.2.2.2+1))))
 else none))
 else
 (some (.inr (x1.2.1,x1.2.2.1))))
 else
 (some (.inr (x1.2.1,x1.2.2.1)))
def pF (a0:Int) (a1:Mt):Option (Mt×(List Int)):=
 (vN a1).bind λv1=>
 (Lp (eT a0 v1) (0,v1.cells,([]:(List Int)),0)).bind λy33=>
 some (((⟨v1.rows,v1.cols,y33.1⟩:Mt),y33.2))
theorem aCV (a0:Int) (a1:Mt) (r:(Mt×(List Int))) (h:pF a0 a1=some r):HasC Tryz.prog 141 [.int a0,.agg (eM a1)] (.tuple [.agg (eM r.1),.list 1 (r.2.map eI)]):=by
 refine hM [.cell 4 130,.tmp 5] Tryz.func141 Tryz.ntmps141 k<|sR<|ae (wb k) k<|ae (cH aQ k k) k<|aT k2<|sR<|lp k8<|oB h λv1 hv1 h=>ae (cM (aEl a1 v1 hv1) k3 (aN (iV k) aI)) k<|ae (cH aQ k k) k<|ae (ws k) k<|an<|tn<|sR<|ae (wl k) k<|aT k2<|aO (t:=mN [(0,.int a0),(4,.ptr 1 0 0),(6,.ptr 3 0 0),(7,.own 4 0 (([]:(List Int)).length))] [(1,⟨3,[jM]⟩),(2,⟨1,v1.cells.map (ow eI)⟩),(3,⟨3,[oMt v1 2]⟩),(4,⟨1,List.map (ow eI) ([]:(List Int))⟩)] 5) (bL (xU 3 k2 (vE ⟨_,k,⟨k,k,(by simp only [bF,lA,lT,lR,lC,lN]),k⟩⟩ bA)) (cP k<|dJ k<|nO k<|dJ k<|bA) k4)<|sR<|aT k2<|sQ<|sQ ?_;refine rg<|aT k2<|aH<|oB h λy33 hy33 h=>bX (body:=(eT a0 v1)) hy33 (λ(x1:(Int×(List Int)×(List Int)×Int))=>mN [(0,.int a0),(4,.ptr 0 0 0),(6,.ptr 1 0 0),(7,.own 3 0 x1.2.2.1.length),(8,.int x1.2.2.2),(9,.int x1.1)] [(0,⟨3,[jM]⟩),(1,⟨3,[[.int v1.rows,.int v1.cols,.own 2 0 x1.2.1.length]]⟩),(2,⟨1,x1.2.1.map (ow eI)⟩),(3,⟨1,x1.2.2.1.map (ow eI)⟩)] 4) (λr e t=>e= .exit 0∧Ent t (mN [(4,.ptr 0 0 0),(6,.ptr 1 0 0),(7,.own 3 0 r.2.length)] [(0,⟨3,[jM]⟩),(1,⟨3,[[.int v1.rows,.int v1.cols,.own 2 0 r.1.length]]⟩),(2,⟨1,r.1.map (ow eI)⟩),(3,⟨1,r.2.map (ow eI)⟩)] 4)) (ntZ [1,3,2,4] (bK k2) (cP k<|nO k<|dJ k<|dJ k<|bA) k4) ?_ ?_
 ·intro x1 o h;refine sQ<|sR<|am k k<|fp k8<|lp k8<|cm k4<|am k k<|oP h (λq2 h=>?_) λq2 h=>aJ 26 k q2<|aK k4<|aK k4<|pk k3<|an<|tn<|oV k k<|aY<|aC<|aC<|sp h ⟨_,k,k,(bL (bK k2) (cP k<|nO k<|dJ k<|dJ k<|bA) k4)⟩;refine aJ 26 k q2<|am k k<|fp k8<|lp k8<|cm k4<|pk k3<|an<|tn<|cJ k h (λ_ h=>?_) λ_ h=>aY<|aC<|aC<|sp h ⟨_,k,k,(bL (bK k2) (cP k<|nO k<|dJ k<|dJ k<|bA) k4)⟩;refine aG<|tn<|sQ<|aH<|sR<|aT k2<|sQ<|sR<|fp k8<|lp k8<|ae (oY k k) k<|aT k2<|aH<|oB h λy7 hy7 h=>bX (body:=(iC v1 x1)) hy7 (λ(x2:(Int×Int))=>mN [(0,.int a0),(4,.ptr 0 0 0),(6,.ptr 1 0 0),(7,.own 3 0 x1.2.2.1.length),(8,.int x1.2.2.2),(9,.int x1.1),(10,.int x2.1),(11,.int x2.2)] [(0,⟨3,[jM]⟩),(1,⟨3,[[.int v1.rows,.int v1.cols,.own 2 0 x1.2.1.length]]⟩),(2,⟨1,x1.2.1.map (ow eI)⟩),(3,⟨1,x1.2.2.1.map (ow eI)⟩)] 4) (λr e t=>e= .exit 2∧Ent t (mN [(0,.int a0),(4,.ptr 0 0 0),(6,.ptr 1 0 0),(7,.own 3 0 x1.2.2.1.length),(8,.int x1.2.2.2),(9,.int x1.1),(10,.int r)] [(0,⟨3,[jM]⟩),(1,⟨3,[[.int v1.rows,.int v1.cols,.own 2 0 x1.2.1.length]]⟩),(2,⟨1,x1.2.1.map (ow eI)⟩),(3,⟨1,x1.2.2.1.map (ow eI)⟩)] 4)) (bL (bK k2) (cP k<|nO k<|dJ k<|dJ k<|bA) k4) ?_ ?_
  ·intro x2 o h;exact sQ<|sR<|am k k<|am k k<|cm k4<|an<|tn<|cJ k h (λ_ h=>aG<|tn<|sQ<|aH<|sR<|fp k8<|lp k8<|am k k<|fp k8<|lp k8<|ae (gI k k) k<|am k k<|ae (bH k k) k<|oB h λv5 hv5 h=>ae (xo hv5 k) k<|ae (wp hv5 k) k<|cm k4<|an<|tn<|cJ k h (λ_ h=>rg<|am k k<|aa k k<|an<|aX<|tn<|rg<|am k k<|ae (oY k k) k<|aT k2<|sp h ⟨_,k,(bL (bK k2) (cP k<|nO k<|dJ k<|dJ k<|bA) k4)⟩) λ_ h=>aG<|aX<|tn<|rg<|am k k<|ae (oY k k) k<|aT k2<|sp h ⟨_,k,(bL (bK k2) (cP k<|nO k<|dJ k<|dJ k<|bA) k4)⟩) λ_ h=>aY<|aC<|aC<|sp h ⟨_,k,k,(bL (bK k2) (cP k<|nO k<|dJ k<|dJ k<|bA) k4)⟩
  ·rintro e t ⟨rfl,hent⟩;refine aM<|tn<|aO hent<|sQ<|sR<|am k k<|cm k4<|an<|tn<|cJ k h (λ_ h=>aY<|aC<|aM<|tn<|rg<|am k k<|ae (bH k k) k<|aT k2<|sp h ⟨_,k,(bL (bK k2) (cP k<|nO k<|dJ k<|dJ k<|bA) k4)⟩) λ_ h=>?_;refine aG<|tn<|sQ<|sR<|aT k2<|aH<|oB h λy14 hy14 h=>bX (body:=(kX v1 x1 y7)) hy14 (λ(x3:((List Int)×Int))=>mN [(0,.int a0),(4,.ptr 0 0 0),(6,.ptr 1 0 0),(7,.own 3 0 x1.2.2.1.length),(8,.int x1.2.2.2),(9,.int x1.1),(10,.int y7),(12,.int x3.2)] [(0,⟨3,[jM]⟩),(1,⟨3,[[.int v1.rows,.int v1.cols,.own 2 0 x3.1.length]]⟩),(2,⟨1,x3.1.map (ow eI)⟩),(3,⟨1,x1.2.2.1.map (ow eI)⟩)] 4) (λr e t=>e= .exit 4∧Ent t (mN [(0,.int a0),(4,.ptr 0 0 0),(6,.ptr 1 0 0),(7,.own 3 0 x1.2.2.1.length),(8,.int x1.2.2.2),(9,.int x1.1)] [(0,⟨3,[jM]⟩),(1,⟨3,[[.int v1.rows,.int v1.cols,.own 2 0 r.length]]⟩),(2,⟨1,r.map (ow eI)⟩),(3,⟨1,x1.2.2.1.map (ow eI)⟩)] 4)) (bL (bK k2) (cP k<|nO k<|dJ k<|dJ k<|bA) k4) ?_ ?_
   ·intro x3 o h;refine sQ<|sR<|am k k<|fp k8<|lp k8<|cm k4<|an<|tn<|cJ k h (λ_ h=>?_) λ_ h=>aY<|aC<|aC<|sp h ⟨_,k,k,(bL (bK k2) (cP k<|nO k<|dJ k<|dJ k<|bA) k4)⟩;refine aG<|tn<|sQ<|aH<|sR<|fp k8<|lp k8<|am k k<|fp k8<|lp k8<|ae (gI k k) k<|am k k<|ae (bH k k) k<|oB h λv10 hv10 h=>ae (xo hv10 k) k<|ae (wp hv10 k) k<|aT k2<|sQ<|aW jN<|fp k8<|lp k8<|am k k<|fp k8<|lp k8<|ae (gI k k) k<|am k k<|ae (bH k k) k ?_;refine fp k8<|lp k8<|am k k<|fp k8<|lp k8<|ae (gI k k) k<|am k k<|ae (bH k k) k<|oB h λv11 hv11 h=>ae (xo hv11 k) k<|ae (wp hv11 k) k<|oB h λv12 hv12 h=>ae (xo hv12 k) k<|ae (mI aQ vL (u:=v11) (iK hv12) k k k k k k) k<|an<|tU (by kernel_rfl)<|tn<|aO (t:=mN [(0,.int a0),(4,.ptr 0 0 0),(6,.ptr 1 0 0),(7,.own 3 0 x1.2.2.1.length),(8,.int x1.2.2.2),(9,.int x1.1),(10,.int y7),(12,.int x3.2),(13,.int v10)] [(0,⟨3,[jM]⟩),(1,⟨3,[[.int v1.rows,.int v1.cols,.own 2 0 ((x3.1.set ((wr ((wr (x1.2.2.2*v1.cols))+x3.2)).toNat) v11).length)]]⟩),(2,⟨1,List.map (ow eI) (x3.1.set ((wr ((wr (x1.2.2.2*v1.cols))+x3.2)).toNat) v11)⟩),(3,⟨1,x1.2.2.1.map (ow eI)⟩)] 4) (bL (bK k2) (cP k<|hX ⟨_,k,k,.inr ⟨_,_,k,⟨_,_,k,k,⟨_,_,k,k,⟨_,_,k,⟨k,k,(by simp only [bF,lA,lT,lR,lC,lN]),k⟩,k⟩⟩⟩,k⟩⟩ k<|dJ k<|dJ k<|bA) k4)<|rg<|fp k8<|lp k8<|am k k<|fp k8<|lp k8<|ae (gI k k) k<|am k k<|ae (bH k k) k<|am k k<|oB h λv13 hv13 h=>ae (xo hv13 k) k<|ae (mI aQ vL (u:=v10) (iK hv13) k k k k k k) k<|an<|aX ?_;exact tn<|rg<|am k k<|ae (bH k k) k<|aT k2<|sp h ⟨_,k,(bL (bK k2) (cP k<|hX ⟨_,k,k,.inr ⟨_,_,k,⟨_,_,k,k,⟨_,_,k,k,⟨_,_,k,⟨k,k,(by simp only [bF,lA,lT,lR,lC,lN]),k⟩,k⟩⟩⟩,k⟩⟩ k<|dJ k<|dJ k<|bA) k4)⟩
   ·rintro e t ⟨rfl,hent⟩;refine aM<|tn<|aO hent<|sR<|am k k<|fp k8<|lp k8<|am k k<|fp k8<|lp k8<|ae (gI k k) k<|am k k<|ae (bH k k) k<|oB h λv15 hv15 h=>ae (xo hv15 k) k<|ae (wp hv15 k) k<|oB h λv16 hv16 h=>ae (aE (aBL a0 v15 v16 hv16) k (bN k (bN k aI))) k<|aT k2<|sQ<|sR<|aT k2<|aH<|oB h λy21 hy21 h=>bX (body:=(kY a0 v1 v16 x1)) hy21 (λ(x4:((List Int)×Int))=>mN [(0,.int a0),(4,.ptr 0 0 0),(6,.ptr 1 0 0),(7,.own 3 0 x1.2.2.1.length),(8,.int x1.2.2.2),(9,.int x1.1),(14,.int v16),(15,.int x4.2)] [(0,⟨3,[jM]⟩),(1,⟨3,[[.int v1.rows,.int v1.cols,.own 2 0 x4.1.length]]⟩),(2,⟨1,x4.1.map (ow eI)⟩),(3,⟨1,x1.2.2.1.map (ow eI)⟩)] 4) (λr e t=>e= .exit 6∧Ent t (mN [(0,.int a0),(4,.ptr 0 0 0),(6,.ptr 1 0 0),(7,.own 3 0 x1.2.2.1.length),(8,.int x1.2.2.2),(9,.int x1.1)] [(0,⟨3,[jM]⟩),(1,⟨3,[[.int v1.rows,.int v1.cols,.own 2 0 r.length]]⟩),(2,⟨1,r.map (ow eI)⟩),(3,⟨1,x1.2.2.1.map (ow eI)⟩)] 4)) (bL (bK k2) (cP k<|nO k<|dJ k<|dJ k<|bA) k4) ?_ ?_
    ·intro x4 o h;refine sQ<|sR<|am k k<|fp k8<|lp k8<|cm k4<|an<|tn<|cJ k h (λ_ h=>?_) λ_ h=>aY<|aC<|aC<|sp h ⟨_,k,k,(bL (bK k2) (cP k<|nO k<|dJ k<|dJ k<|bA) k4)⟩;refine aG<|tn<|sQ<|aH<|aW jN<|fp k8<|lp k8<|am k k<|fp k8<|lp k8<|ae (gI k k) k<|am k k<|ae (bH k k) k<|am k k<|am k k<|fp k8<|lp k8<|am k k<|fp k8<|lp k8<|ae (gI k k) k<|am k k<|ae (bH k k) k<|oB h λv18 hv18 h=>ae (xo hv18 k) k<|ae (wp hv18 k) k<|ae (gI k k) k<|oB h λv19 hv19 h=>ae (aE (qT a0 (wr (v16*v18)) v19 hv19) k (bN k (bN k aI))) k<|oB h λv20 hv20 h=>ae (xo hv20 k) k<|ae (mI aQ vL (u:=v19) (iK hv20) k k k k k k) k ?_;exact an<|tU (by kernel_rfl)<|aX<|tn<|aO (t:=mN [(0,.int a0),(4,.ptr 0 0 0),(6,.ptr 1 0 0),(7,.own 3 0 x1.2.2.1.length),(8,.int x1.2.2.2),(9,.int x1.1),(14,.int v16),(15,.int x4.2)] [(0,⟨3,[jM]⟩),(1,⟨3,[[.int v1.rows,.int v1.cols,.own 2 0 ((x4.1.set ((wr ((wr (x1.2.2.2*v1.cols))+x4.2)).toNat) v19).length)]]⟩),(2,⟨1,List.map (ow eI) (x4.1.set ((wr ((wr (x1.2.2.2*v1.cols))+x4.2)).toNat) v19)⟩),(3,⟨1,x1.2.2.1.map (ow eI)⟩)] 4) (bL (bK k2) (cP k<|hX ⟨_,k,k,.inr ⟨_,_,k,⟨_,_,k,k,⟨_,_,k,k,⟨_,_,k,⟨k,k,(by simp only [bF,lA,lT,lR,lC,lN]),k⟩,k⟩⟩⟩,k⟩⟩ k<|dJ k<|dJ k<|bA) k4)<|rg<|am k k<|ae (bH k k) k<|aT k2<|sp h ⟨_,k,(bL (bK k2) (cP k<|nO k<|dJ k<|dJ k<|bA) k4)⟩
    ·rintro e t ⟨rfl,hent⟩;refine aM<|tn<|aO hent<|sQ<|sR<|aT k2<|aH<|oB h λy31 hy31 h=>bX (body:=(kZ a0 v1 x1)) hy31 (λ(x5:((List Int)×Int))=>mN [(0,.int a0),(4,.ptr 0 0 0),(6,.ptr 1 0 0),(7,.own 3 0 x1.2.2.1.length),(8,.int x1.2.2.2),(9,.int x1.1),(16,.int x5.2)] [(0,⟨3,[jM]⟩),(1,⟨3,[[.int v1.rows,.int v1.cols,.own 2 0 x5.1.length]]⟩),(2,⟨1,x5.1.map (ow eI)⟩),(3,⟨1,x1.2.2.1.map (ow eI)⟩)] 4) (λr e t=>e= .exit 8∧Ent t (mN [(0,.int a0),(4,.ptr 0 0 0),(6,.ptr 1 0 0),(7,.own 3 0 x1.2.2.1.length),(8,.int x1.2.2.2),(9,.int x1.1)] [(0,⟨3,[jM]⟩),(1,⟨3,[[.int v1.rows,.int v1.cols,.own 2 0 r.length]]⟩),(2,⟨1,r.map (ow eI)⟩),(3,⟨1,x1.2.2.1.map (ow eI)⟩)] 4)) (bL (bK k2) (cP k<|nO k<|dJ k<|dJ k<|bA) k4) ?_ ?_
     ·intro x5 o h;refine sQ<|sR<|am k k<|fp k8<|lp k8<|cm k4<|an<|tn<|cJ k h (λ_ h=>?_) λ_ h=>aY<|aC<|aC<|sp h ⟨_,k,k,(bL (bK k2) (cP k<|nO k<|dJ k<|dJ k<|bA) k4)⟩;refine aG<|tn<|sQ<|aH<|sR<|fp k8<|lp k8<|am k k<|fp k8<|lp k8<|ae (gI k k) k<|am k k<|ae (bH k k) k<|oB h λv23 hv23 h=>ae (xo hv23 k) k<|ae (wp hv23 k) k<|aT k2<|sR<|aT k2<|aH<|oB h λy30 hy30 h=>bX (body:=(iD a0 v1 v23 x1 x5)) hy30 (λ(x6:((List Int)×Int))=>mN [(0,.int a0),(4,.ptr 0 0 0),(6,.ptr 1 0 0),(7,.own 3 0 x1.2.2.1.length),(8,.int x1.2.2.2),(9,.int x1.1),(16,.int x5.2),(17,.int v23),(18,.int x6.2)] [(0,⟨3,[jM]⟩),(1,⟨3,[[.int v1.rows,.int v1.cols,.own 2 0 x6.1.length]]⟩),(2,⟨1,x6.1.map (ow eI)⟩),(3,⟨1,x1.2.2.1.map (ow eI)⟩)] 4) (λr e t=>e= .exit 10∧Ent t (mN [(0,.int a0),(4,.ptr 0 0 0),(6,.ptr 1 0 0),(7,.own 3 0 x1.2.2.1.length),(8,.int x1.2.2.2),(9,.int x1.1),(16,.int x5.2)] [(0,⟨3,[jM]⟩),(1,⟨3,[[.int v1.rows,.int v1.cols,.own 2 0 r.length]]⟩),(2,⟨1,r.map (ow eI)⟩),(3,⟨1,x1.2.2.1.map (ow eI)⟩)] 4)) (bL (bK k2) (cP k<|nO k<|dJ k<|dJ k<|bA) k4) ?_ ?_
      ·intro x6 o h;refine sQ<|sR<|am k k<|fp k8<|lp k8<|cm k4<|am k k<|oP h (λq24 h=>?_) λq24 h=>aJ 162 k q24<|aK k4<|ak k k<|pk k3<|an<|tn<|oV k k<|aY<|aC<|aC<|sp h ⟨_,k,k,(bL (bK k2) (cP k<|nO k<|dJ k<|dJ k<|bA) k4)⟩;refine aJ 162 k q24<|am k k<|am k k<|cm k4<|pk k3<|an<|tn<|cJ k h (λ_ h=>?_) λ_ h=>aY<|aC<|aC<|sp h ⟨_,k,k,(bL (bK k2) (cP k<|nO k<|dJ k<|dJ k<|bA) k4)⟩;refine aG<|tn<|sQ<|aH<|aW jN<|fp k8<|lp k8<|am k k<|fp k8<|lp k8<|ae (gI k k) k<|am k k<|ae (bH k k) k<|am k k<|fp k8<|lp k8<|am k k<|fp k8<|lp k8<|ae (gI k k) k<|am k k<|ae (bH k k) k<|oB h λv26 hv26 h=>ae (xo hv26 k) k<|ae (wp hv26 k) k<|am k k<|fp k8<|lp k8<|am k k<|fp k8 ?_;exact lp k8<|ae (gI k k) k<|am k k<|ae (bH k k) k<|oB h λv27 hv27 h=>ae (xo hv27 k) k<|ae (wp hv27 k) k<|ae (gI k k) k<|ae (oY k k) k<|oB h λv28 hv28 h=>ae (aE (qT a0 (wr (v26 - (wr (v23*v27)))) v28 hv28) k (bN k (bN k aI))) k<|oB h λv29 hv29 h=>ae (xo hv29 k) k<|ae (mI aQ vL (u:=v28) (iK hv29) k k k k k k) k<|an<|tU (by kernel_rfl)<|aX<|tn<|aO (t:=mN [(0,.int a0),(4,.ptr 0 0 0),(6,.ptr 1 0 0),(7,.own 3 0 x1.2.2.1.length),(8,.int x1.2.2.2),(9,.int x1.1),(16,.int x5.2),(17,.int v23),(18,.int x6.2)] [(0,⟨3,[jM]⟩),(1,⟨3,[[.int v1.rows,.int v1.cols,.own 2 0 ((x6.1.set ((wr ((wr (x5.2*v1.cols))+x6.2)).toNat) v28).length)]]⟩),(2,⟨1,List.map (ow eI) (x6.1.set ((wr ((wr (x5.2*v1.cols))+x6.2)).toNat) v28)⟩),(3,⟨1,x1.2.2.1.map (ow eI)⟩)] 4) (bL (bK k2) (cP k<|hX ⟨_,k,k,.inr ⟨_,_,k,⟨_,_,k,k,⟨_,_,k,k,⟨_,_,k,⟨k,k,(by simp only [bF,lA,lT,lR,lC,lN]),k⟩,k⟩⟩⟩,k⟩⟩ k<|dJ k<|dJ k<|bA) k4)<|rg<|am k k<|ae (bH k k) k<|aT k2<|sp h ⟨_,k,(bL (bK k2) (cP k<|nO k<|dJ k<|dJ k<|bA) k4)⟩
      ·rintro e t ⟨rfl,hent⟩;exact aM<|aX<|tn<|aO hent<|rg<|am k k<|ae (bH k k) k<|aT k2<|sp h ⟨_,k,(bL (bK k2) (cP k<|nO k<|dJ k<|dJ k<|bA) k4)⟩
     ·rintro e t ⟨rfl,hent⟩;exact aM<|tn<|aO hent<|sR<|am k k<|am k k<|ae (wl k) k<|cG h λq32 h=>ae (oZ aQ (l:=x1.2.2.1) (m:=[x1.1]) vL q32 k k k k k k k k k k k k) k<|aT k2<|rg<|am k k<|ae (bH k k) k<|aa k k<|an<|aX<|tn<|rg<|am k k<|ae (bH k k) k<|aT k2<|sp h ⟨_,k,(ntZ [0,1,2,5] (bK k2) (cP k<|nO k<|dJ k<|dJ k<|bA) k4)⟩
 ·rintro e t ⟨rfl,hent⟩;exact aM<|tn<|aO hent<|sR<|lp k8<|am k k<|ae (ws k) k<|aT k2<|aD<|sp h (aR k k k (iZ k (dV (vK (aZ (k) (aZ (k) (aZ (fK dH k k) fH)))) (dV (aBm (fK dH k k)) qR))))
def nP (a0:Int) (a1:Int):Option Int:=
 (gD a0).bind λv1=>
 bif !v1 then
 (some (0))
 else
 (bif !decide (a0=0) then
 (bif !decide (a0=0) then
 (some ((wr ((a1.tmod a0)+a0)).tmod a0))
 else none)
 else none)
theorem aBq (a0:Int) (a1:Int) (r:Int) (h:nP a0 a1=some r):HasC Tryz.prog 338 [.int a0,.int a1] (.int r):=by
 exact hM [.tmp 4] Tryz.func338 Tryz.ntmps338 k<|sR<|aT k2<|sQ<|sR<|am k k<|oB h λv1 hv1 h=>ae (aE (kD a0 v1 hv1) k (bN k aI)) k<|ae (cK k) k<|an<|tn<|cJ k h (λ_ h=>sR<|aT k2<|aD<|aB<|uT h k2) λ_ h=>aG<|tn<|sR<|am k k<|am k k<|cG h λq4 h=>ae (aBF k k q4) k<|am k k<|ae (bH k k) k<|am k k<|cG h λq3 h=>ae (aBF k k q3) k<|aT k2<|aD<|uT h k2
def lD (a0:Int) (a1:Int) (a2:Int) (x1:(Int×Int)):Option ((Int×Int) ⊕ Int):=
 bif decide (x1.2<a2) then
 ((nP a0 a1).bind λv6=>
 bif !decide (a0=0) then
 (some (.inl ((wr (x1.1*v6)).tmod a0,wr (x1.2+1))))
 else none)
 else
 (some (.inr x1.1))
def pG (a0:Int) (a1:Int) (a2:Int):Option Int:=
 (gD a0).bind λv1=>
 bif !v1 then
 (some (0))
 else
 ((fA a2 0 1000).bind λv3=>
 bif !v3 then
 (some (0))
 else
 ((Lp (lD a0 a1 a2) (1,0)).bind λy8=>
 some (y8)))
theorem aCW (a0:Int) (a1:Int) (a2:Int) (r:Int) (h:pG a0 a1 a2=some r):HasC Tryz.prog 311 [.int a0,.int a1,.int a2] (.int r):=by
 refine hM [.tmp 6] Tryz.func311 Tryz.ntmps311 k<|sR<|aT k2<|sQ<|sR<|am k k<|oB h λv1 hv1 h=>ae (aE (kD a0 v1 hv1) k (bN k aI)) k<|ae (cK k) k<|am k k<|oP h (λq2 h=>aJ 11 k q2<|aK k4<|ak k k<|pk k3<|an<|tn<|dC k k<|sR<|aT k2<|aD<|aB<|uT h k2) λq2 h=>?_;refine aJ 11 k q2<|am k k<|oB h λv3 hv3 h=>ae (aE (hJ a2 0 1000 v3 hv3) k (bN k (bN k (bN k aI)))) k<|ae (cK k) k<|pk k3<|an<|tn<|cJ k h (λ_ h=>sR<|aT k2<|aD<|aB<|uT h k2) λ_ h=>?_;refine aG<|tn<|sR<|aT k2<|sQ<|sR<|am k k<|am k k<|an<|tn<|aH<|oB h λy8 hy8 h=>bX (body:=(lD a0 a1 a2)) hy8 (λ(x1:(Int×Int))=>mN [(0,.int a0),(1,.int a1),(7,.int x1.1),(16,.int a2),(17,.int x1.2)] [] 0) (λr e t=>e= .exit 0∧Ent t (mN [(7,.int r)] [] 0)) (bL (bK k2) bA k4) ?_ ?_
 ·intro x1 o h;exact sR<|cm k4<|an<|tn<|sQ<|cJ k h (λ_ h=>aG<|tn<|sQ<|aH<|rg<|am k k<|am k k<|am k k<|oB h λv6 hv6 h=>ae (aE (aBq a0 a1 v6 hv6) k (bN k (bN k aI))) k<|ae (gI k k) k<|am k k<|cG h λq7 h=>ae (aBF k k q7) k<|aa k k<|an<|aX<|tn<|rg<|ae (bH k k) k<|am k k<|an<|tn<|sp h ⟨_,k,(bL (bK k2) bA k4)⟩) λ_ h=>aY<|aC<|aC<|sp h ⟨_,k,k,(bL (bK k2) bA k4)⟩
 ·rintro e t ⟨rfl,hent⟩;exact aM<|tn<|aO hent<|sR<|am k k<|aT k2<|aD<|uT h k2
def mM (a0:Int) (a1:Int):Option Int:=
 (gD a0).bind λv1=>
 bif !v1 then
 (some (0))
 else
 ((pG a0 a1 (max (wr (a0 - 2)) 1)).bind λv3=>
 some (v3))
theorem aBM (a0:Int) (a1:Int) (r:Int) (h:mM a0 a1=some r):HasC Tryz.prog 266 [.int a0,.int a1] (.int r):=by
 exact hM [.tmp 4] Tryz.func266 Tryz.ntmps266 k<|sR<|aT k2<|sQ<|sR<|am k k<|oB h λv1 hv1 h=>ae (aE (kD a0 v1 hv1) k (bN k aI)) k<|ae (cK k) k<|an<|tn<|cJ k h (λ_ h=>sR<|aT k2<|aD<|aB<|uT h k2) λ_ h=>aG<|tn<|sR<|am k k<|am k k<|am k k<|ae (oY k k) k<|ae (aCL k k) k<|oB h λv3 hv3 h=>ae (aE (aCW a0 a1 (max (wr (a0 - 2)) 1) v3 hv3) k (bN k (bN k (bN k aI)))) k<|aT k2<|aD<|uT h k2
def gL (a1:(List Int)) (x1:(Int×Int)):Option ((Int×Int) ⊕ (Int ⊕ Bool)):=
 bif decide (x1.2<(a1.length:Int)) then
 ((dL a1 x1.2).bind λv5=>
 (gC v5 0 4).bind λv6=>
 bif !v6 then
 (some (.inr (.inr (false))))
 else
 ((dL a1 x1.2).bind λv8=>
 some (.inl (wr (x1.1+v8),wr (x1.2+1)))))
 else
 (some (.inr (.inl x1.1)))
def qU (a0:Qv) (a1:(List Int)):Option Bool:=
 (lO a0).bind λv1=>
 bif !v1 then
 (some (false))
 else
 (bif !decide ((a1.length:Int)=a0.n) then
 (some (false))
 else
 ((Lp (gL a1) (0,0)).bind λy9=>
 Sum.elim (λy10=>
 some (decide (y10≤8))
 )
 (λy11=>
 some y11
 )
 y9))
theorem aEA (a0:Qv) (a1:(List Int)) (r:Bool) (h:qU a0 a1=some r):HasC Tryz.prog 117 [.agg (eQ a0),.list 1 (a1.map eI)] (.bl r):=by
 refine hM [.tmp 4] Tryz.func117 Tryz.ntmps117 k<|sR<|ae (wb k) k<|aT k2<|sQ<|sR<|lp k8<|oB h λv1 hv1 h=>ae (aE (xV a0 v1 hv1) k (aN (iV k) aI)) k<|ae (cK k) k<|am k k<|oP h (λq2 h=>aJ 10 k q2<|aK k4<|aK k4<|ak k k<|pk k3<|an<|tn<|dC k k<|sR<|aT k2<|aD<|aB<|eJ h k2) λq2 h=>?_;refine aJ 10 k q2<|am k k<|ln k4<|fp k8<|lp k8<|cm k4<|pk k3<|an<|tn<|cJ k h (λ_ h=>sR<|aT k2<|aD<|aB<|eJ h k2) λ_ h=>?_;refine aG<|tn<|sR<|aT k2<|sQ<|sR<|aT k2<|aH<|oB h λy9 hy9 h=>bX (body:=(gL a1)) hy9 (λ(x1:(Int×Int))=>mN [(1,.list 1 (a1.map eI)),(5,.int x1.1),(6,.int x1.2)] [] 0) (λr e t=>Sum.elim (λa=>(λr e t=>e= .exit 0∧Ent t (mN [(5,.int r)] [] 0)) a e t) (λb=>(λr e t=>e= .ret∧nJ TT [.tmp 4] (.bl r) .ret t) b e t) r) (bL (bK k2) bA k4) ?_ ?_
 ·intro x1 o h;exact sQ<|sR<|am k k<|am k k<|ln k4<|cm k4<|an<|tn<|cJ k h (λ_ h=>aG<|tn<|sQ<|aH<|sQ<|sR<|am k k<|am k k<|oB h λv5 hv5 h=>ae (xl hv5 k) k<|lr k7<|oB h λv6 hv6 h=>ae (aE (jB v5 0 4 v6 hv6) k (bN k (bN k (bN k aI)))) k<|ae (cK k) k<|an<|tn<|cJ k h (λ_ h=>sR<|aT k2<|aD<|aB<|aU<|aB<|aB<|sp h ⟨_,k,k,aR k k k (iY k)⟩) λ_ h=>aG<|tn<|rg<|am k k<|am k k<|am k k<|oB h λv8 hv8 h=>ae (xl hv8 k) k<|lr k7<|ae (bH k k) k<|aa k k<|an<|aX<|tn<|rg<|am k k<|ae (bH k k) k<|aT k2<|sp h ⟨_,k,(bL (bK k2) bA k4)⟩) λ_ h=>aY<|aC<|aC<|sp h ⟨_,k,k,(bL (bK k2) bA k4)⟩
 ·intro e t hX;rcases y9 with y10|y11
  ·obtain ⟨rfl,hent⟩:=hX;exact aM<|tn<|aO hent<|sR<|am k k<|cm k4<|aT k2<|aD<|eJ h k2
  ·obtain ⟨rfl,hent⟩:=hX;exact aU<|aB<|sp h hent
def pH (a0:Rp) (x1:Int):Option (Int ⊕ (Unit ⊕ Bool)):=
 bif decide (x1<(a0.maps.length:Int)) then
 ((dL a0.maps x1).bind λv7=>
 (gN a0.p v7).bind λv8=>
 bif !v8 then
 (some (.inr (.inr (false))))
 else
 ((dL a0.maps x1).bind λv10=>
 (dL a0.q.src x1).bind λv11=>
 (dL a0.dims v11).bind λv12=>
 bif !decide (v10.cols=v12) then
 (some (.inr (.inr (false))))
 else
 ((dL a0.maps x1).bind λv14=>
 (dL a0.q.tgt x1).bind λv15=>
 (dL a0.dims v15).bind λv16=>
 bif !decide (v14.rows=v16) then
 (some (.inr (.inr (false))))
 else
 (some (.inl (wr (x1+1)))))))
 else
 (some (.inr (.inl ())))
def nQ (a0:Rp):Option Bool:=
 (kC a0.p).bind λv1=>
 bif !v1 then
 (some (false))
 else
 ((qU a0.q a0.dims).bind λv3=>
 bif !v3 then
 (some (false))
 else
 (bif !decide ((a0.maps.length:Int)=(a0.q.src.length:Int)) then
 (some (false))
 else
 ((Lp (pH a0) 0).bind λy18=>
 Sum.elim (λy19=>
 some (true)
 )
 (λy20=>
 some y20
 )
 y18)))
theorem xG (a0:Rp) (r:Bool) (h:nQ a0=some r):HasC Tryz.prog 49 [.agg (eR a0)] (.bl r):=by
 refine hM [.tmp 2] Tryz.func49 Tryz.ntmps49 k<|sR<|ae (wb k) k<|aT k2<|sQ<|sR<|fp k8<|lp k8<|oB h λv1 hv1 h=>ae (aE (qS a0.p v1 hv1) k (bN k aI)) k<|ae (cK k) k<|am k k<|oP h (λq2 h=>aJ 8 k q2<|aK k4<|aK k4<|aK k4<|pk k3<|am k k<|aK k4<|aK k4<|aK k4<|aK k4<|pk k3<|an<|tn<|aO (t:=mN [(1,.ptr 0 0 0),(25,.bl true)] [(0,⟨6,[eR a0]⟩)] 1) (bL (bK k2) (cP k<|bA) k4)<|dC k k<|sR<|aT k2<|aD<|aB<|eJ h k2) λq2 h=>?_;refine aJ 8 k q2<|fp k8<|lp k8<|fp k8<|lp k8<|oB h λv3 hv3 h=>ae (aE (aEA a0.q a0.dims v3 hv3) k (aN (iV k) (bN k aI))) k<|ae (cK k) k<|pk k3<|am k k<|oP h (λq4 h=>aJ 16 k q4<|aK k4<|aK k4<|aK k4<|aK k4<|pk k3<|an<|tn<|aO (t:=mN [(1,.ptr 0 0 0),(25,.bl true)] [(0,⟨6,[eR a0]⟩)] 1) (bL (bK k2) (cP k<|bA) k4)<|dC k k<|sR<|aT k2<|aD<|aB<|eJ h k2) λq4 h=>?_;refine aJ 16 k q4<|fp k8<|lp k8<|ln k4<|fp k8<|fp k8<|lp k8<|ln k4<|cm k4<|pk k3<|an<|tn<|aO (t:=mN [(1,.ptr 0 0 0),(25,.bl (!decide ((a0.maps.length:Int)=(a0.q.src.length:Int))))] [(0,⟨6,[eR a0]⟩)] 1) (bL (bK k2) (cP k<|bA) k4)<|cJ k h (λ_ h=>sR<|aT k2<|aD<|aB<|eJ h k2) λ_ h=>?_;refine aG<|tn<|sQ<|sR<|aT k2<|aH<|oB h λy18 hy18 h=>bX (body:=(pH a0)) hy18 (λ(x1:Int)=>mN [(1,.ptr 0 0 0),(3,.int x1)] [(0,⟨6,[eR a0]⟩)] 1) (λr e t=>Sum.elim (λa=>(λr e t=>e= .exit 0∧Ent t (mN [] [] 0)) a e t) (λb=>(λr e t=>e= .ret∧nJ TT [.tmp 2] (.bl r) .ret t) b e t) r) (bL (bK k2) (cP k<|bA) k4) ?_ ?_
 ·intro x1 o h;refine sQ<|sR<|am k k<|fp k8<|lp k8<|ln k4<|cm k4<|an<|tn<|cJ k h (λ_ h=>?_) λ_ h=>aY<|aC<|aC<|sp h ⟨_,k,k,(bL bA bA k4)⟩;refine aG<|tn<|sQ<|aH<|sQ<|aW jN<|fp k8<|lp k8<|fp k8<|lp k8<|am k k<|oB h λv7 hv7 h=>ae (xl hv7 k) k<|lr k7<|oB h λv8 hv8 h=>ae (aE (pE a0.p v7 v8 hv8) k (bN k (aN (iV k) aI))) k<|ae (cK k) k<|am k k<|oP h (λq9 h=>?_) λq9 h=>?_
  ·refine aJ 42 k q9<|aK k4<|aK k4<|aK k4<|aK k4<|aK k4<|aK k4<|aK k4<|aK k4<|ak k k<|pk k3<|am k k<|aK k4<|aK k4<|aK k4<|aK k4<|aK k4 ?_;exact aK k4<|aK k4<|aK k4<|ak k k<|pk k3<|an<|tU (by kernel_rfl)<|tn<|aO (t:=mN [(1,.ptr 0 0 0),(3,.int x1),(79,.bl true)] [(0,⟨6,[eR a0]⟩)] 1) (bL (bK k2) (cP k<|bA) k4)<|dC k k<|sR<|aT k2<|aD<|aU<|aB<|aB<|sp h ⟨_,k,k,aR k k k (iY k)⟩
  ·refine aJ 42 k q9<|fp k8<|lp k8<|am k k<|oB h λv10 hv10 h=>ae (xl hv10 k) k<|ae (gB aQ k k k k k k) k<|lr k7<|fp k8<|lp k8<|fp k8<|fp k8<|lp k8<|am k k<|oB h λv11 hv11 h=>ae (xl hv11 k) k<|lr k7<|oB h λv12 hv12 h=>ae (xl hv12 k) k<|lr k7<|cm k4<|pk k3<|am k k<|oP h (λq13 h=>?_) λq13 h=>aJ 61 k q13<|fp k8<|lp k8<|am k k<|oB h λv14 hv14 h=>ae (xl hv14 k) k<|ae (gB aQ k k k k k k) k<|lr k7<|fp k8<|lp k8<|fp k8<|fp k8<|lp k8<|am k k<|oB h λv15 hv15 h=>ae (xl hv15 k) k<|lr k7<|oB h λv16 hv16 h=>ae (xl hv16 k) k<|lr k7<|cm k4<|pk k3<|an<|tU (by kernel_rfl)<|tn<|aO (t:=mN [(1,.ptr 0 0 0),(3,.int x1),(79,.bl (!decide (v14.rows=v16)))] [(0,⟨6,[eR a0]⟩)] 1) (bL (bK k2) (cP k<|bA) k4)<|cJ k h (λ_ h=>sR<|aT k2<|aD<|aU<|aB<|aB<|sp h ⟨_,k,k,aR k k k (iY k)⟩) λ_ h=>aG<|aX<|tn<|rg<|am k k<|ae (bH k k) k<|aT k2<|sp h ⟨_,k,(bL (bK k2) (cP k<|bA) k4)⟩;refine aJ 61 k q13<|aK k4<|aK k4<|aK k4<|aK k4<|aK k4<|aK k4<|aK k4<|aK k4<|ak k k<|pk k3<|an<|tU (by kernel_rfl)<|tn<|aO (t:=mN [(1,.ptr 0 0 0),(3,.int x1),(79,.bl true)] [(0,⟨6,[eR a0]⟩)] 1) (bL (bK k2) (cP k<|bA) k4)<|dC k k<|sR<|aT k2<|aD ?_;exact aU<|aB<|aB<|sp h ⟨_,k,k,aR k k k (iY k)⟩
 ·intro e t hX;rcases y18 with y19|y20
  ·obtain ⟨rfl,hent⟩:=hX;exact aM<|tn<|aO hent<|sR<|aT k2<|aD<|eJ h k2
  ·obtain ⟨rfl,hent⟩:=hX;exact aU<|aB<|sp h hent
end
noncomputable section
set_option maxRecDepth 10000
set_option maxHeartbeats 4000000
def bY (a0:(List Int)) (a1:(Int→Option Bool)) (x1:Int):Option (Int ⊕ (Unit ⊕ Int)):=
 bif decide (x1<(a0.length:Int)) then
 ((dL a0 x1).bind λv2=>
 (a1 v2).bind λv3=>
 bif v3 then
 (some (.inr (.inr (x1))))
 else
 (some (.inl (wr (x1+1)))))
 else
 (some (.inr (.inl ())))
def cW (a0:(List Int)) (a1:(Int→Option Bool)):Option Int:=
 (Lp (bY a0 a1) 0).bind λy5=>
 Sum.elim (λy6=>
 some ((-1))
 )
 (λy7=>
 some y7
 )
 y5
theorem mO (a0:(List Int)) (a1:(Int→Option Bool)) {f1:FuncId} {c1:List AV} (hc1:c1.all dI=true) (hf1: ∀ b0 r,a1 b0=some r→HasC Tryz.prog f1 ([.int b0]++c1) (.bl r)) (r:Int) (h:cW a0 a1=some r):HasC Tryz.prog 245 [.list 1 (a0.map eI),.fn f1 c1] (.int r):=by
 refine tR aQ (rvs:=[.tmp 4]) (ns:=nmA) Tryz.func245 k k Tryz.ntmps245 k k (kU k (kU hc1 aAc))<|sR<|aT k2<|sQ<|sR<|am k k<|ln k4<|am k k<|an<|tn<|aH<|oB h λy5 hy5 h=>bX (body:=(bY a0 a1)) hy5 (λ(x1:Int)=>mN [(0,.list 1 (a0.map eI)),(1,.fn f1 c1),(7,.int (a0.length:Int)),(8,.int x1)] [] 0) (λr e t=>Sum.elim (λa=>(λr e t=>e= .exit 0∧Ent t (mN [] [] 0)) a e t) (λb=>(λr e t=>e= .ret∧nJ TT [.tmp 4] (.int r) .ret t) b e t) r) (bL (xU 1 k2 (vE ⟨_,k,⟨k,qL _ hc1⟩⟩ (bK k2))) bA k4) ?_ ?_
 ·intro x1 o h;exact sR<|cm k4<|an<|tn<|sQ<|cJ k h (λ_ h=>aG<|tn<|sQ<|aH<|sR<|am k k<|aT k2<|sR<|am k k<|am k k<|am k k<|oB h λv2 hv2 h=>ae (xl hv2 k) k<|lr k7<|oB h λv3 hv3 h=>ae (aCz hc1 (hf1 v2 v3 hv3) k k (bN k aI)) k<|an<|tn<|cJ k h (λ_ h=>sR<|am k k<|aT k2<|aD<|aU<|aB<|aB<|sp h ⟨_,k,k,aR k k k (xC k)⟩) λ_ h=>aG<|aX<|tn<|rg<|ae (bH k k) k<|am k k<|an<|tn<|sp h ⟨_,k,(bL (xU 1 k2 (vE ⟨_,k,⟨k,qL _ hc1⟩⟩ (bK k2))) bA k4)⟩) λ_ h=>aY<|aC<|aC<|sp h ⟨_,k,k,(bL bA bA k4)⟩
 ·intro e t hX;rcases y5 with y6|y7
  ·obtain ⟨rfl,hent⟩:=hX;exact aM<|tn<|aO hent<|sR<|aT k2<|aD<|uT h k2
  ·obtain ⟨rfl,hent⟩:=hX;exact aU<|aB<|sp h hent
def fU (a0:(List Int)) (a1:(Int→Option Bool)):Option Bool:=
 (cW a0 a1).bind λv1=>
 some (decide (0≤v1))
theorem rQ (a0:(List Int)) (a1:(Int→Option Bool)) {f1:FuncId} {c1:List AV} (hc1:c1.all dI=true) (hf1: ∀ b0 r,a1 b0=some r→HasC Tryz.prog f1 ([.int b0]++c1) (.bl r)) (r:Bool) (h:fU a0 a1=some r):HasC Tryz.prog 220 [.list 1 (a0.map eI),.fn f1 c1] (.bl r):=by
 exact tR aQ (rvs:=[.tmp 4]) (ns:=nmA) Tryz.func220 k k Tryz.ntmps220 k k (kU k (kU hc1 aAc))<|sR<|aT k2<|sR<|am k k<|am k k<|oB h λv1 hv1 h=>ae (aE (mO a0 a1 hc1 hf1 v1 hv1) k (bN k (aN (aIW hc1) aI))) k<|cm k4<|aT k2<|aD<|eJ h k2
def dS (a0:(List (List Int))) (a1:((List Int)→Option Bool)) (x1:Int):Option (Int ⊕ (Unit ⊕ Int)):=
 bif decide (x1<(a0.length:Int)) then
 ((dL a0 x1).bind λv2=>
 (a1 v2).bind λv3=>
 bif v3 then
 (some (.inr (.inr (x1))))
 else
 (some (.inl (wr (x1+1)))))
 else
 (some (.inr (.inl ())))
def gE (a0:(List (List Int))) (a1:((List Int)→Option Bool)):Option Int:=
 (Lp (dS a0 a1) 0).bind λy5=>
 Sum.elim (λy6=>
 some ((-1))
 )
 (λy7=>
 some y7
 )
 y5
theorem sX (a0:(List (List Int))) (a1:((List Int)→Option Bool)) {f1:FuncId} {c1:List AV} (hc1:c1.all dI=true) (hf1: ∀ b0 r,a1 b0=some r→HasC Tryz.prog f1 ([.list 1 (b0.map eI)]++c1) (.bl r)) (r:Int) (h:gE a0 a1=some r):HasC Tryz.prog 259 [.list 1 (a0.map (jA 1 eI)),.fn f1 c1] (.int r):=by
 refine tR aQ (rvs:=[.tmp 4]) (ns:=nmA) Tryz.func259 k k Tryz.ntmps259 k k (kU k (kU hc1 aAc))<|sR<|aT k2<|sQ<|sR<|am k k<|ln k4<|am k k<|an<|tn<|aH<|oB h λy5 hy5 h=>bX (body:=(dS a0 a1)) hy5 (λ(x1:Int)=>mN [(0,.list 1 (a0.map (jA 1 eI))),(1,.fn f1 c1),(7,.int (a0.length:Int)),(8,.int x1)] [] 0) (λr e t=>Sum.elim (λa=>(λr e t=>e= .exit 0∧Ent t (mN [] [] 0)) a e t) (λb=>(λr e t=>e= .ret∧nJ TT [.tmp 4] (.int r) .ret t) b e t) r) (bL (xU 1 k2 (vE ⟨_,k,⟨k,qL _ hc1⟩⟩ (bK k2))) bA k4) ?_ ?_
 ·intro x1 o h;exact sR<|cm k4<|an<|tn<|sQ<|cJ k h (λ_ h=>aG<|tn<|sQ<|aH<|sR<|am k k<|aT k2<|sR<|am k k<|am k k<|am k k<|oB h λv2 hv2 h=>ae (xl hv2 k) k<|lr k7<|oB h λv3 hv3 h=>ae (aCz hc1 (hf1 v2 v3 hv3) k k (bN k aI)) k<|an<|tn<|cJ k h (λ_ h=>sR<|am k k<|aT k2<|aD<|aU<|aB<|aB<|sp h ⟨_,k,k,aR k k k (xC k)⟩) λ_ h=>aG<|aX<|tn<|rg<|ae (bH k k) k<|am k k<|an<|tn<|sp h ⟨_,k,(bL (xU 1 k2 (vE ⟨_,k,⟨k,qL _ hc1⟩⟩ (bK k2))) bA k4)⟩) λ_ h=>aY<|aC<|aC<|sp h ⟨_,k,k,(bL bA bA k4)⟩
 ·intro e t hX;rcases y5 with y6|y7
  ·obtain ⟨rfl,hent⟩:=hX;exact aM<|tn<|aO hent<|sR<|aT k2<|aD<|uT h k2
  ·obtain ⟨rfl,hent⟩:=hX;exact aU<|aB<|sp h hent
def dE (a0:(List (List Int))) (a1:((List Int)→Option Bool)):Option Bool:=
 (gE a0 a1).bind λv1=>
 some (decide (0≤v1))
theorem jH (a0:(List (List Int))) (a1:((List Int)→Option Bool)) {f1:FuncId} {c1:List AV} (hc1:c1.all dI=true) (hf1: ∀ b0 r,a1 b0=some r→HasC Tryz.prog f1 ([.list 1 (b0.map eI)]++c1) (.bl r)) (r:Bool) (h:dE a0 a1=some r):HasC Tryz.prog 190 [.list 1 (a0.map (jA 1 eI)),.fn f1 c1] (.bl r):=by
 exact tR aQ (rvs:=[.tmp 4]) (ns:=nmA) Tryz.func190 k k Tryz.ntmps190 k k (kU k (kU hc1 aAc))<|sR<|aT k2<|sR<|am k k<|am k k<|oB h λv1 hv1 h=>ae (aE (sX a0 a1 hc1 hf1 v1 hv1) k (bN k (aN (aIW hc1) aI))) k<|cm k4<|aT k2<|aD<|eJ h k2
def iE (a0:Int) (a1:Int) (a2:Int):Option Bool:=
 (fA a0 a1 a2).bind λv1=>
 some (!v1)
theorem aAd (a0:Int) (a1:Int) (a2:Int) (r:Bool) (h:iE a0 a1 a2=some r):HasC Tryz.prog 236 [.int a0,.ref (eI a1),.ref (eI a2)] (.bl r):=by
 exact hM [.tmp 4] Tryz.func236 Tryz.ntmps236 k<|sR<|aT k2<|sR<|am k k<|lr k7<|lr k7<|oB h λv1 hv1 h=>ae (aE (hJ a0 a1 a2 v1 hv1) k (bN k (bN k (bN k aI)))) k<|ae (cK k) k<|aT k2<|aD<|eJ h k2
def fV (a0:(List Int)) (a1:Int) (a2:Int):Option Bool:=
 (fU a0 (λb0=>iE b0 a1 a2)).bind λv1=>
 some (!v1)
theorem nR (a0:(List Int)) (a1:Int) (a2:Int) (r:Bool) (h:fV a0 a1 a2=some r):HasC Tryz.prog 167 [.list 1 (a0.map eI),.int a1,.int a2] (.bl r):=by
 exact hM [.tmp 6] Tryz.func167 Tryz.ntmps167 k<|sR<|ae (wb k) k<|ae (wb k) k<|aT k2<|sR<|am k k<|ae (wV (vs:=[.ptr 0 0 0,.ptr 1 0 0]) k (by simp)) k<|oB h λv1 hv1 h=>ae (aE (rQ a0 (λb0=>iE b0 a1 a2) k (λb0 r h=>aAd b0 a1 a2 r h) v1 hv1) k (bN k (aN (aFU (zN (aBn k k (bD (dK k) tF)) (zN (aBn k k (bD (dK k) tF)) zL))) aI))) k<|ae (cK k) k<|aT k2<|aD<|eJ h k2
def lP (a0:Int) (a1:(List Int)):Option Bool:=
 (gD a0).bind λv1=>
 bif v1 then
 (bif decide ((a1.length:Int)≤64) then
 ((fV a1 0 (wr (a0 - 1))).bind λv4=>
 some (v4))
 else
 (some (false)))
 else
 (some (false))
theorem xW (a0:Int) (a1:(List Int)) (r:Bool) (h:lP a0 a1=some r):HasC Tryz.prog 185 [.int a0,.list 1 (a1.map eI)] (.bl r):=by
 exact hM [.tmp 4] Tryz.func185 Tryz.ntmps185 k<|sR<|aT k2<|sR<|am k k<|oB h λv1 hv1 h=>ae (aE (kD a0 v1 hv1) k (bN k aI)) k<|am k k<|oP h (λq2 h=>aJ 7 k q2<|am k k<|ln k4<|cm k4<|pk k3<|am k k<|oP h (λq3 h=>aJ 12 k q3<|am k k<|am k k<|ae (oY k k) k<|oB h λv4 hv4 h=>ae (aE (nR a1 0 (wr (a0 - 1)) v4 hv4) k (bN k (bN k (bN k aI)))) k<|pk k3<|aT k2<|aD<|eJ h k2) λq3 h=>aJ 12 k q3<|aK k4<|aK k4<|pk k3<|aT k2<|aD<|eJ h k2) λq2 h=>aJ 7 k q2<|aK k4<|ak k k<|pk k3<|am k k<|aK k4<|aK k4<|pk k3<|aT k2<|aD<|eJ h k2
def lQ (a0:Int) (a1:Mt):Option Bool:=
 (fA a1.rows 0 8).bind λv1=>
 bif v1 then
 ((fA a1.cols 0 8).bind λv3=>
 bif v3 then
 (bif decide ((a1.cells.length:Int)=wr (a1.rows*a1.cols)) then
 ((lP a0 a1.cells).bind λv6=>
 some (v6))
 else
 (some (false)))
 else
 (some (false)))
 else
 (some (false))
theorem xX (a0:Int) (a1:Mt) (r:Bool) (h:lQ a0 a1=some r):HasC Tryz.prog 125 [.int a0,.agg (eM a1)] (.bl r):=by
 exact hM [.tmp 4] Tryz.func125 Tryz.ntmps125 k<|sR<|ae (wb k) k<|aT k2<|sR<|fp k8<|lp k8<|oB h λv1 hv1 h=>ae (aE (hJ a1.rows 0 8 v1 hv1) k (bN k (bN k (bN k aI)))) k<|am k k<|oP h (λq2 h=>aJ 8 k q2<|fp k8<|lp k8<|oB h λv3 hv3 h=>ae (aE (hJ a1.cols 0 8 v3 hv3) k (bN k (bN k (bN k aI)))) k<|pk k3<|am k k<|oP h (λq4 h=>aJ 13 k q4<|fp k8<|lp k8<|ln k4<|fp k8<|lp k8<|fp k8<|lp k8<|ae (gI k k) k<|cm k4<|pk k3<|am k k<|oP h (λq5 h=>aJ 24 k q5<|am k k<|fp k8<|lp k8<|oB h λv6 hv6 h=>ae (aE (xW a0 a1.cells v6 hv6) k (bN k (bN k aI))) k<|pk k3<|aT k2<|aD<|eJ h k2) λq5 h=>aJ 24 k q5<|aK k4<|aK k4<|pk k3<|aT k2<|aD<|eJ h k2) λq4 h=>aJ 13 k q4<|aK k4<|aK k4<|aK k4<|aK k4<|ak k k<|pk k3<|am k k<|aK k4<|aK k4<|pk k3<|aT k2<|aD<|eJ h k2) λq2 h=>aJ 8 k q2<|aK k4<|ak k k<|pk k3<|am k k<|aK k4<|aK k4<|aK k4<|aK k4<|ak k k<|pk k3<|am k k<|aK k4<|aK k4<|pk k3<|aT k2<|aD<|eJ h k2
def lS (a0:Qv):Option Bool:=
 (fA a0.n 1 5).bind λv1=>
 bif v1 then
 (bif decide ((a0.src.length:Int)=(a0.tgt.length:Int)) then
 (bif decide ((a0.src.length:Int)≤6) then
 ((fV a0.src 0 (wr (a0.n - 1))).bind λv5=>
 bif v5 then
 ((fV a0.tgt 0 (wr (a0.n - 1))).bind λv7=>
 some (v7))
 else
 (some (false)))
 else
 (some (false)))
 else
 (some (false)))
 else
 (some (false))
theorem xY (a0:Qv) (r:Bool) (h:lS a0=some r):HasC Tryz.prog 126 [.agg (eQ a0)] (.bl r):=by
 refine hM [.tmp 2] Tryz.func126 Tryz.ntmps126 k<|sR<|ae (wb k) k<|aT k2<|sR<|fp k8<|lp k8<|oB h λv1 hv1 h=>ae (aE (hJ a0.n 1 5 v1 hv1) k (bN k (bN k (bN k aI)))) k<|am k k<|oP h (λq2 h=>aJ 6 k q2<|fp k8<|lp k8<|ln k4<|fp k8<|lp k8<|ln k4<|cm k4<|pk k3<|am k k<|oP h (λq3 h=>aJ 15 k q3<|fp k8<|lp k8<|ln k4<|cm k4<|pk k3<|am k k<|oP h (λq4 h=>aJ 21 k q4<|fp k8<|lp k8<|fp k8<|lp k8<|ae (oY k k) k<|oB h λv5 hv5 h=>ae (aE (nR a0.src 0 (wr (a0.n - 1)) v5 hv5) k (bN k (bN k (bN k aI)))) k<|pk k3<|am k k<|oP h (λq6 h=>aJ 29 k q6<|fp k8<|lp k8<|fp k8<|lp k8<|ae (oY k k) k<|oB h λv7 hv7 h=>ae (aE (nR a0.tgt 0 (wr (a0.n - 1)) v7 hv7) k (bN k (bN k (bN k aI)))) k<|pk k3<|aT k2<|aD<|eJ h k2) λq6 h=>aJ 29 k q6<|aK k4<|aK k4<|aK k4<|pk k3<|aT k2<|aD<|eJ h k2) λq4 h=>aJ 21 k q4<|aK k4<|aK k4<|aK k4<|pk k3<|am k k<|aK k4<|aK k4<|aK k4<|pk k3<|aT k2<|aD<|eJ h k2) λq3 h=>aJ 15 k q3<|aK k4<|aK k4<|pk k3<|am k k<|aK k4<|aK k4<|aK k4<|pk k3<|am k k<|aK k4<|aK k4<|aK k4<|pk k3<|aT k2<|aD<|eJ h k2) λq2 h=>?_;refine aJ 6 k q2<|aK k4<|aK k4<|aK k4<|ak k k<|pk k3<|am k k<|aK k4<|aK k4<|pk k3<|am k k<|aK k4<|aK k4<|aK k4<|pk k3<|am k k<|aK k4<|aK k4<|aK k4 ?_;exact pk k3<|aT k2<|aD<|eJ h k2
def qV (a0:Qv) (a1:(List Int)):Option Bool:=
 (lS a0).bind λv1=>
 bif v1 then
 (bif decide ((a1.length:Int)=a0.n) then
 ((fV a1 0 4).bind λv4=>
 bif v4 then
 ((tW a1).bind λv6=>
 some (decide (v6≤8)))
 else
 (some (false)))
 else
 (some (false)))
 else
 (some (false))
theorem aEB (a0:Qv) (a1:(List Int)) (r:Bool) (h:qV a0 a1=some r):HasC Tryz.prog 124 [.agg (eQ a0),.list 1 (a1.map eI)] (.bl r):=by
 exact hM [.tmp 4] Tryz.func124 Tryz.ntmps124 k<|sR<|ae (wb k) k<|aT k2<|sR<|lp k8<|oB h λv1 hv1 h=>ae (aE (xY a0 v1 hv1) k (aN (iV k) aI)) k<|am k k<|oP h (λq2 h=>aJ 7 k q2<|am k k<|ln k4<|fp k8<|lp k8<|cm k4<|pk k3<|am k k<|oP h (λq3 h=>aJ 14 k q3<|am k k<|oB h λv4 hv4 h=>ae (aE (nR a1 0 4 v4 hv4) k (bN k (bN k (bN k aI)))) k<|pk k3<|am k k<|oP h (λq5 h=>aJ 18 k q5<|am k k<|oB h λv6 hv6 h=>ae (aE (aGL a1 v6 hv6) k (bN k aI)) k<|cm k4<|pk k3<|aT k2<|aD<|eJ h k2) λq5 h=>aJ 18 k q5<|aK k4<|ak k k<|pk k3<|aT k2<|aD<|eJ h k2) λq3 h=>aJ 14 k q3<|aK k4<|pk k3<|am k k<|aK k4<|ak k k<|pk k3<|aT k2<|aD<|eJ h k2) λq2 h=>aJ 7 k q2<|aK k4<|aK k4<|ak k k<|pk k3<|am k k<|aK k4<|pk k3<|am k k<|aK k4<|ak k k<|pk k3<|aT k2<|aD<|eJ h k2
def pI (a0:Rp) (x1:Int):Option (Int ⊕ (Unit ⊕ Bool)):=
 bif decide (x1<(a0.maps.length:Int)) then
 ((dL a0.maps x1).bind λv7=>
 (lQ a0.p v7).bind λv8=>
 bif !v8 then
 (some (.inr (.inr (false))))
 else
 ((dL a0.q.src x1).bind λv10=>
 (dL a0.dims v10).bind λv11=>
 bif !decide (v7.cols=v11) then
 (some (.inr (.inr (false))))
 else
 ((dL a0.q.tgt x1).bind λv13=>
 (dL a0.dims v13).bind λv14=>
 bif !decide (v7.rows=v14) then
 (some (.inr (.inr (false))))
 else
 (some (.inl (wr (x1+1)))))))
 else
 (some (.inr (.inl ())))
def jI (a0:Rp):Option Bool:=
 (gD a0.p).bind λv1=>
 bif !v1 then
 (some (false))
 else
 ((qV a0.q a0.dims).bind λv3=>
 bif !v3 then
 (some (false))
 else
 (bif !decide ((a0.maps.length:Int)=(a0.q.src.length:Int)) then
 (some (false))
 else
 ((Lp (pI a0) 0).bind λy16=>
 Sum.elim (λy17=>
 some (true)
 )
 (λy18=>
 some y18
 )
 y16)))
theorem qW (a0:Rp) (r:Bool) (h:jI a0=some r):HasC Tryz.prog 58 [.agg (eR a0)] (.bl r):=by
 refine hM [.tmp 2] Tryz.func58 Tryz.ntmps58 k<|sR<|ae (wb k) k<|aT k2<|sQ<|sR<|fp k8<|lp k8<|oB h λv1 hv1 h=>ae (aE (kD a0.p v1 hv1) k (bN k aI)) k<|ae (cK k) k<|am k k<|oP h (λq2 h=>aJ 9 k q2<|aK k4<|aK k4<|aK k4<|pk k3<|am k k<|aK k4<|aK k4<|aK k4<|aK k4<|pk k3<|an<|tn<|aO (t:=mN [(1,.ptr 0 0 0),(26,.bl true)] [(0,⟨6,[eR a0]⟩)] 1) (bL (bK k2) (cP k<|bA) k4)<|dC k k<|sR<|aT k2<|aD<|aB<|eJ h k2) λq2 h=>?_;refine aJ 9 k q2<|fp k8<|lp k8<|fp k8<|lp k8<|oB h λv3 hv3 h=>ae (aE (aEB a0.q a0.dims v3 hv3) k (aN (iV k) (bN k aI))) k<|ae (cK k) k<|pk k3<|am k k<|oP h (λq4 h=>aJ 17 k q4<|aK k4<|aK k4<|aK k4<|aK k4<|pk k3<|an<|tn<|aO (t:=mN [(1,.ptr 0 0 0),(26,.bl true)] [(0,⟨6,[eR a0]⟩)] 1) (bL (bK k2) (cP k<|bA) k4)<|dC k k<|sR<|aT k2<|aD<|aB<|eJ h k2) λq4 h=>?_;refine aJ 17 k q4<|fp k8<|lp k8<|ln k4<|fp k8<|fp k8<|lp k8<|ln k4<|cm k4<|pk k3<|an<|tn<|aO (t:=mN [(1,.ptr 0 0 0),(26,.bl (!decide ((a0.maps.length:Int)=(a0.q.src.length:Int))))] [(0,⟨6,[eR a0]⟩)] 1) (bL (bK k2) (cP k<|bA) k4)<|cJ k h (λ_ h=>sR<|aT k2<|aD<|aB<|eJ h k2) λ_ h=>?_;refine aG<|tn<|sQ<|sR<|fp k8<|lp k8<|ln k4<|am k k<|an<|tn<|aH<|oB h λy16 hy16 h=>bX (body:=(pI a0)) hy16 (λ(x1:Int)=>mN [(1,.ptr 0 0 0),(28,.list 3 (a0.maps.map eM)),(29,.int (a0.maps.length:Int)),(30,.int x1)] [(0,⟨6,[eR a0]⟩)] 1) (λr e t=>Sum.elim (λa=>(λr e t=>e= .exit 0∧Ent t (mN [] [] 0)) a e t) (λb=>(λr e t=>e= .ret∧nJ TT [.tmp 2] (.bl r) .ret t) b e t) r) (bL (bK k2) (cP k<|bA) k4) ?_ ?_
 ·intro x1 o h;refine sR<|cm k4<|an<|tn<|sQ<|cJ k h (λ_ h=>?_) λ_ h=>aY<|aC<|aC<|sp h ⟨_,k,k,(bL bA bA k4)⟩;refine aG<|tn<|sQ<|aH<|sR<|am k k<|oB h λv7 hv7 h=>ae (xl hv7 k) k<|lr k7<|ae (cH aQ k k) k<|aa k k<|ae (ws k) k<|an<|tn<|sQ<|aW jN<|fp k8<|lp k8<|lp k8<|oB h λv8 hv8 h=>ae (aE (xX a0.p v7 v8 hv8) k (bN k (aN (iV k) aI))) k<|ae (cK k) k<|am k k<|oP h (λq9 h=>?_) λq9 h=>?_
  ·refine aJ 40 k q9<|aK k4<|aK k4<|aK k4<|aK k4<|aK k4<|aK k4<|ak k k<|pk k3<|am k k<|aK k4<|aK k4<|aK k4<|aK k4<|aK k4<|aK k4<|ak k k<|pk k3 ?_;exact an<|tU (by kernel_rfl)<|tn<|aO (t:=mN [(1,.ptr 0 0 0),(28,.list 3 (a0.maps.map eM)),(29,.int (a0.maps.length:Int)),(30,.int x1),(69,.bl true)] [(0,⟨6,[eR a0]⟩)] 2) (bL (bK k2) (cP k<|bA) k4)<|dC k k<|sR<|aT k2<|aD<|aU<|aB<|aB<|sp h ⟨_,k,k,aR k k k (iY k)⟩
  ·exact aJ 40 k q9<|fp k8<|lp k8<|fp k8<|lp k8<|fp k8<|fp k8<|lp k8<|am k k<|oB h λv10 hv10 h=>ae (xl hv10 k) k<|lr k7<|oB h λv11 hv11 h=>ae (xl hv11 k) k<|lr k7<|cm k4<|pk k3<|am k k<|oP h (λq12 h=>aJ 55 k q12<|aK k4<|aK k4<|aK k4<|aK k4<|aK k4<|aK k4<|ak k k<|pk k3<|an<|tU (by kernel_rfl)<|tn<|aO (t:=mN [(1,.ptr 0 0 0),(28,.list 3 (a0.maps.map eM)),(29,.int (a0.maps.length:Int)),(30,.int x1),(69,.bl true)] [(0,⟨6,[eR a0]⟩)] 2) (bL (bK k2) (cP k<|bA) k4)<|dC k k<|sR<|aT k2<|aD<|aU<|aB<|aB<|sp h ⟨_,k,k,aR k k k (iY k)⟩) λq12 h=>aJ 55 k q12<|fp k8<|lp k8<|fp k8<|lp k8<|fp k8<|fp k8<|lp k8<|am k k<|oB h λv13 hv13 h=>ae (xl hv13 k) k<|lr k7<|oB h λv14 hv14 h=>ae (xl hv14 k) k<|lr k7<|cm k4<|pk k3<|an<|tU (by kernel_rfl)<|tn<|aO (t:=mN [(1,.ptr 0 0 0),(28,.list 3 (a0.maps.map eM)),(29,.int (a0.maps.length:Int)),(30,.int x1),(69,.bl (!decide (v7.rows=v14)))] [(0,⟨6,[eR a0]⟩)] 2) (bL (bK k2) (cP k<|bA) k4)<|cJ k h (λ_ h=>sR<|aT k2<|aD<|aU<|aB<|aB<|sp h ⟨_,k,k,aR k k k (iY k)⟩) λ_ h=>aG<|aX<|tn<|rg<|ae (bH k k) k<|am k k<|an<|tn<|sp h ⟨_,k,(bL (bK k2) (cP k<|bA) k4)⟩
 ·intro e t hX;rcases y16 with y17|y18
  ·obtain ⟨rfl,hent⟩:=hX;exact aM<|tn<|aO hent<|sR<|aT k2<|aD<|eJ h k2
  ·obtain ⟨rfl,hent⟩:=hX;exact aU<|aB<|sp h hent
def oT (a0:Mt):Option Mt:=
 (tT a0.cells).bind λv1=>
 some ((⟨a0.rows,a0.cols,v1⟩:Mt))
theorem zZ (a0:Mt) (r:Mt) (h:oT a0=some r):HasC Tryz.prog 265 [.agg (eM a0)] (.agg (eM r)):=by
 exact hM [.cell 2 130] Tryz.func265 Tryz.ntmps265 k<|sR<|ae (wb k) k<|ae (cH aQ k k) k<|an<|tn<|sR<|fp k8<|lp k8<|oB h λv1 hv1 h=>ae (cL dH (aDA a0.cells v1 hv1) k3 (bN k aI)) k<|fp k8<|ae (ws k) k<|an<|tn<|sR<|lp k8<|ae (ws k) k<|an<|tn<|aD<|sp h (aR k k k (mA (aZ (k) (aZ (k) (aZ (fK dH k k) fH)))))
def pJ (a0:Int) (a2:Mt) (v1:Mt) (v3:(List Int)) (x1:((List Int)×Int)) (x2:((List Int)×Int)):Option (((List Int)×Int) ⊕ (List Int)):=
 bif decide (x2.2<(v3.length:Int)) then
 ((dL v3 x2.2).bind λv5=>
 (dD (⟨v1.rows,v1.cols,x2.1⟩:Mt) x1.2).bind λv6=>
 (aBp a2 x2.2).bind λv7=>
 (fT a0 x2.1 (0+(wr (x1.2*v1.cols)).toNat) ((wr ((wr (x1.2+1))*v1.cols)).toNat - (wr (x1.2*v1.cols)).toNat) v5 v7).bind λv8=>
 bif decide (v8.length=x2.1.length) then
 (some (.inl (v8,wr (x2.2+1))))
 else none)
 else
 (some (.inr x2.1))
def pK (a0:Int) (a1:Mt) (a2:Mt) (v1:Mt) (x1:((List Int)×Int)):Option (((List Int)×Int) ⊕ (List Int)):=
 bif decide (x1.2<a1.rows) then
 ((aBp a1 x1.2).bind λv3=>
 (Lp (pJ a0 a2 v1 v3 x1) (x1.1,0)).bind λy10=>
 some (.inl (y10,wr (x1.2+1))))
 else
 (some (.inr x1.1))
def tX (a0:Int) (a1:Mt) (a2:Mt):Option Mt:=
 (sW a1.rows a2.cols).bind λv1=>
 (Lp (pK a0 a1 a2 v1) (v1.cells,0)).bind λy11=>
 some ((⟨v1.rows,v1.cols,y11⟩:Mt))
theorem aGM (a0:Int) (a1:Mt) (a2:Mt) (r:Mt) (h:tX a0 a1 a2=some r):HasC Tryz.prog 262 [.int a0,.agg (eM a1),.agg (eM a2)] (.agg (eM r)):=by
 refine hM [.cell 6 130] Tryz.func262 Tryz.ntmps262 k<|sR<|ae (wb k) k<|ae (wb k) k<|ae (cH aQ k k) k<|an<|tn<|sR<|fp k8<|lp k8<|fp k8<|lp k8<|oB h λv1 hv1 h=>ae (cM (aCN a1.rows a2.cols v1 hv1) k3 (bN k (bN k aI))) k<|ae (cH aQ k k) k<|ae (ws k) k<|an<|tn<|sQ<|sR<|fp k8<|lp k8<|am k k<|an<|tn<|aH<|oB h λy11 hy11 h=>bX (body:=(pK a0 a1 a2 v1)) hy11 (λ(x1:((List Int)×Int))=>mN [(0,.int a0),(4,.ptr 0 0 0),(5,.ptr 1 0 0),(6,.ptr 2 0 0),(7,.ptr 3 0 0),(17,.int a1.rows),(18,.int x1.2)] [(0,⟨3,[eM a1]⟩),(1,⟨3,[eM a2]⟩),(2,⟨3,[jM]⟩),(3,⟨3,[[.int v1.rows,.int v1.cols,.own 4 0 x1.1.length]]⟩),(4,⟨1,x1.1.map (ow eI)⟩)] 5) (λr e t=>e= .exit 0∧Ent t (mN [(6,.ptr 0 0 0),(7,.ptr 1 0 0)] [(0,⟨3,[jM]⟩),(1,⟨3,[[.int v1.rows,.int v1.cols,.own 2 0 r.length]]⟩),(2,⟨1,r.map (ow eI)⟩)] 3)) (ntZ [0,1,2,4,3] (bK k2) (cP k<|cP k<|cP k<|nO k<|dJ k<|bA) k4) ?_ ?_
 ·intro x1 o h;refine sR<|cm k4<|an<|tn<|sQ<|cJ k h (λ_ h=>?_) λ_ h=>aY<|aC<|aC<|sp h ⟨_,k,k,(ntZ [2,3,4] (bK k2) (cP k<|nO k<|dJ k<|bA) k4)⟩;refine aG<|tn<|sQ<|aH<|sR<|am k k<|aT k2<|sR<|lp k8<|am k k<|oB h λv3 hv3 h=>ae (aDz (aIa a1 x1.2 v3 hv3) k k k) k<|ln k4<|am k k<|an<|tn<|aH<|oB h λy10 hy10 h=>bX (body:=(pJ a0 a2 v1 v3 x1)) hy10 (λ(x2:((List Int)×Int))=>mN [(0,.int a0),(4,.ptr 0 0 0),(5,.ptr 1 0 0),(6,.ptr 2 0 0),(7,.ptr 3 0 0),(8,.int x1.2),(17,.int a1.rows),(18,.int x1.2),(23,.list 1 (v3.map eI)),(24,.int (v3.length:Int)),(25,.int x2.2)] [(0,⟨3,[eM a1]⟩),(1,⟨3,[eM a2]⟩),(2,⟨3,[jM]⟩),(3,⟨3,[[.int v1.rows,.int v1.cols,.own 4 0 x2.1.length]]⟩),(4,⟨1,x2.1.map (ow eI)⟩)] 5) (λr e t=>e= .exit 2∧Ent t (mN [(0,.int a0),(4,.ptr 0 0 0),(5,.ptr 1 0 0),(6,.ptr 2 0 0),(7,.ptr 3 0 0),(17,.int a1.rows),(18,.int x1.2)] [(0,⟨3,[eM a1]⟩),(1,⟨3,[eM a2]⟩),(2,⟨3,[jM]⟩),(3,⟨3,[[.int v1.rows,.int v1.cols,.own 4 0 r.length]]⟩),(4,⟨1,r.map (ow eI)⟩)] 5)) (bL (bK k2) (cP k<|cP k<|cP k<|nO k<|dJ k<|bA) k4) ?_ ?_
  ·intro x2 o h;refine sR<|cm k4<|an<|tn<|sQ<|cJ k h (λ_ h=>?_) λ_ h=>aY<|aC<|aC<|sp h ⟨_,k,k,(bL (bK k2) (cP k<|cP k<|cP k<|nO k<|dJ k<|bA) k4)⟩;refine aG<|tn<|sQ<|aH<|sR<|am k k<|oB h λv5 hv5 h=>ae (xl hv5 k) k<|lr k7<|aa k k<|aT k2<|aW jN<|am k k<|lp k8<|am k k<|oB h λv6 hv6 h=>ae (AEff.pureE (nD (σ:=sg [(0,4)]) (σ':=sg [(4,0)]) (touch:=[4]) (news:=[]) (hl2:=[(4,⟨1,x2.1.map (ow eI)⟩)]) (n':=5) (r2:= .own 4 (0+(wr (x1.2*v1.cols)).toNat) ((wr ((wr (x1.2+1))*v1.cols)).toNat - (wr (x1.2*v1.cols)).toNat)) (eH (⟨v1.rows,v1.cols,x2.1⟩:Mt) x1.2 v6 hv6) k k ⟨_,_,k,⟨_,_,k,k,⟨_,_,k,k,⟨_,_,k,⟨k,k,k,k⟩,k⟩⟩⟩,⟨_,_,k,k,k⟩⟩ ⟨⟨_,k,k,.inl ⟨k,dH.plainO _⟩⟩,k,bA⟩ k k k ⟨⟨_,k,k,.inl ⟨k,dH.plainO _⟩⟩,k,bA⟩ k ⟨k,k,(by simp only [bF,lA,lT,lR,lC,lN]),k⟩ k ⟨k,dH.tame _ _,bA⟩ k k) ⟨k,k,bA⟩) k<|am k k<|lp k8<|am k k<|oB h λv7 hv7 h=>ae (aDz (aIa a2 x2.2 v7 hv7) k k k) k<|oB h λv8 hv8 h=>ae (nD (σ:=sg [(0,4)]) (σ':=sg [(4,0)]) (touch:=[4]) (news:=[]) (hl2:=[(4,⟨1,v8.map (ow eI)⟩)]) (n':=5) (r2:= .own 4 (0+(wr (x1.2*v1.cols)).toNat) ((wr ((wr (x1.2+1))*v1.cols)).toNat - (wr (x1.2*v1.cols)).toNat)) (uK a0 x2.1 (0+(wr (x1.2*v1.cols)).toNat) ((wr ((wr (x1.2+1))*v1.cols)).toNat - (wr (x1.2*v1.cols)).toNat) v5 v7 v8 hv8) k k ⟨_,_,k,k,⟨_,_,k,⟨k,k,k,k⟩,⟨_,_,k,k,⟨_,_,k,⟨k,k⟩,k⟩⟩⟩⟩ ⟨⟨_,k,k,.inl ⟨k,dH.plainO _⟩⟩,k,bA⟩ k k k ⟨⟨_,k,k,.inl ⟨k,dH.plainO _⟩⟩,k,bA⟩ k ⟨k,k,(by simp only [bF,lA,lT,lR,lC,lN]),k⟩ k ⟨k,dH.tame _ _,bA⟩ k k) k<|cG h λq9 h=>an<|tU (by kernel_rfl)<|aX<|tn<|rg<|ae (bH k k) k ?_;exact am k k<|an<|tn<|sp h ⟨_,k,(bL (bK k2) (cP k<|cP k<|cP k<|hX ⟨_,k,k,.inr ⟨_,_,k,⟨_,_,k,k,⟨_,_,k,k,⟨_,_,k,⟨k,k,(by simp only [bF,lA,lT,lR,lC,lN,of_decide_eq_true q9]),k⟩,k⟩⟩⟩,k⟩⟩ k<|dJ k<|bA) k4)⟩
  ·rintro e t ⟨rfl,hent⟩;exact aM<|aX<|tn<|aO hent<|rg<|ae (bH k k) k<|am k k<|an<|tn<|sp h ⟨_,k,(bL (bK k2) (cP k<|cP k<|cP k<|nO k<|dJ k<|bA) k4)⟩
 ·rintro e t ⟨rfl,hent⟩;exact aM<|tn<|aO hent<|sR<|lp k8<|ae (ws k) k<|an<|tn<|aD<|sp h (aR k k k (mA (aZ (k) (aZ (k) (aZ (fK dH k k) fH)))))
def kE (v1:Mt) (x1:(Int×(List Int)×(List Int))) (x2:Int):Option (Int ⊕ Int):=
 bif decide (x2<v1.rows) then
 ((dD (⟨v1.rows,v1.cols,x1.2.1⟩:Mt) x2).bind λv4=>
 bif (decide (0≤x1.1)&&decide (x1.1<((((wr ((wr (x2+1))*v1.cols)).toNat - (wr (x2*v1.cols)).toNat):Nat):Int))) then
 ((x1.2.1[((0+(wr (x2*v1.cols)).toNat)+x1.1.toNat)]?).bind λv5=>
 bif decide (v5=0) then
 (some (.inl (wr (x2+1))))
 else
 (some (.inr x2))
 )
 else none)
 else
 (some (.inr x2))
def nS (v1:Mt) (x1:(Int×(List Int)×(List Int))) (y8:Int) (x3:((List Int)×Int)):Option (((List Int)×Int) ⊕ (List Int)):=
 bif decide (x3.2<v1.cols) then
 ((dD (⟨v1.rows,v1.cols,x3.1⟩:Mt) y8).bind λv12=>
 (dD (⟨v1.rows,v1.cols,x3.1⟩:Mt) y8).bind λv13=>
 bif (decide (0≤x3.2)&&decide (x3.2<((((wr ((wr (y8+1))*v1.cols)).toNat - (wr (y8*v1.cols)).toNat):Nat):Int))) then
 ((x3.1[((0+(wr (y8*v1.cols)).toNat)+x3.2.toNat)]?).bind λv14=>
 bif (decide (0≤x3.2)&&decide (x3.2<((((wr ((wr (((x1.2.2.length:Nat):Int)+1))*v1.cols)).toNat - (wr (((x1.2.2.length:Nat):Int)*v1.cols)).toNat):Nat):Int))) then
 ((x3.1[((0+(wr (((x1.2.2.length:Nat):Int)*v1.cols)).toNat)+x3.2.toNat)]?).bind λv16=>
 bif (decide (0≤x3.2)&&decide (x3.2<((((wr ((wr (((x1.2.2.length:Nat):Int)+1))*v1.cols)).toNat - (wr (((x1.2.2.length:Nat):Int)*v1.cols)).toNat):Nat):Int))) then
 ((x3.1[((0+(wr (((x1.2.2.length:Nat):Int)*v1.cols)).toNat)+x3.2.toNat)]?).bind λv18=>
 bif (decide (0≤x3.2)&&decide (x3.2<((((wr ((wr (y8+1))*v1.cols)).toNat - (wr (y8*v1.cols)).toNat):Nat):Int))) then
 (((x3.1.set ((0+(wr (((x1.2.2.length:Nat):Int)*v1.cols)).toNat)+x3.2.toNat) v14)[((0+(wr (y8*v1.cols)).toNat)+x3.2.toNat)]?).bind λv20=>
 some (.inl (((x3.1.set ((0+(wr (((x1.2.2.length:Nat):Int)*v1.cols)).toNat)+x3.2.toNat) v14).set ((0+(wr (y8*v1.cols)).toNat)+x3.2.toNat) v16),wr (x3.2+1)))
 )
 else none
 )
 else none
 )
 else none
 )
 else none)
 else
 (some (.inr x3.1))
def nT (a0:Int) (v1:Mt) (v25:Int) (x1:(Int×(List Int)×(List Int))) (x4:((List Int)×Int)):Option (((List Int)×Int) ⊕ (List Int)):=
 bif decide (x4.2<((((wr ((wr (((x1.2.2.length:Nat):Int)+1))*v1.cols)).toNat - (wr (((x1.2.2.length:Nat):Int)*v1.cols)).toNat):Nat):Int)) then
 (bif (decide (0≤x4.2)&&decide (x4.2<((((wr ((wr (((x1.2.2.length:Nat):Int)+1))*v1.cols)).toNat - (wr (((x1.2.2.length:Nat):Int)*v1.cols)).toNat):Nat):Int))) then
 ((x4.1[((0+(wr (((x1.2.2.length:Nat):Int)*v1.cols)).toNat)+x4.2.toNat)]?).bind λv27=>
 bif !decide (a0=0) then
 (bif (decide (0≤x4.2)&&decide (x4.2<((((wr ((wr (((x1.2.2.length:Nat):Int)+1))*v1.cols)).toNat - (wr (((x1.2.2.length:Nat):Int)*v1.cols)).toNat):Nat):Int))) then
 ((x4.1[((0+(wr (((x1.2.2.length:Nat):Int)*v1.cols)).toNat)+x4.2.toNat)]?).bind λv29=>
 some (.inl ((x4.1.set ((0+(wr (((x1.2.2.length:Nat):Int)*v1.cols)).toNat)+x4.2.toNat) ((wr (v27*v25)).tmod a0)),wr (x4.2+1)))
 )
 else none)
 else none
 )
 else none)
 else
 (some (.inr x4.1))
def nU (a0:Int) (v1:Mt) (x1:(Int×(List Int)×(List Int))) (x5:((List Int)×Int)):Option (((List Int)×Int) ⊕ (List Int)):=
 bif decide (x5.2<v1.rows) then
 (bif !decide (x5.2=((x1.2.2.length:Nat):Int)) then
 ((dD (⟨v1.rows,v1.cols,x5.1⟩:Mt) x5.2).bind λv35=>
 (dD (⟨v1.rows,v1.cols,x5.1⟩:Mt) x5.2).bind λv36=>
 bif (decide (0≤x1.1)&&decide (x1.1<((((wr ((wr (x5.2+1))*v1.cols)).toNat - (wr (x5.2*v1.cols)).toNat):Nat):Int))) then
 ((x5.1[((0+(wr (x5.2*v1.cols)).toNat)+x1.1.toNat)]?).bind λv37=>
 (gK a0 x5.1 (0+(wr (x5.2*v1.cols)).toNat) ((wr ((wr (x5.2+1))*v1.cols)).toNat - (wr (x5.2*v1.cols)).toNat) (wr (a0 - v37)) (0+(wr (((x1.2.2.length:Nat):Int)*v1.cols)).toNat) ((wr ((wr (((x1.2.2.length:Nat):Int)+1))*v1.cols)).toNat - (wr (((x1.2.2.length:Nat):Int)*v1.cols)).toNat)).bind λv39=>
 bif decide (v39.length=x5.1.length) then
 (some (.inl (v39,wr (x5.2+1))))
 else none
 )
 else none)
 else
 (some (.inl (x5.1,wr (x5.2+1)))))
 else
 (some (.inr x5.1))
def kF (a0:Int) (v1:Mt) (x1:(Int×(List Int)×(List Int))):Option ((Int×(List Int)×(List Int)) ⊕ ((List Int)×(List Int))):=
 bif decide (x1.1<v1.cols) then
 ((Lp (kE v1 x1) ((x1.2.2.length:Nat):Int)).bind λy8=>
 bif decide (y8=v1.rows) then
 (some (.inl (wr (x1.1+1),x1.2.1,x1.2.2)))
 else
 ((dD (⟨v1.rows,v1.cols,x1.2.1⟩:Mt) ((x1.2.2.length:Nat):Int)).bind λv10=>
 (Lp (nS v1 x1 y8) (x1.2.1,0)).bind λy22=>
 bif (decide (0≤x1.1)&&decide (x1.1<((((wr ((wr (((x1.2.2.length:Nat):Int)+1))*v1.cols)).toNat - (wr (((x1.2.2.length:Nat):Int)*v1.cols)).toNat):Nat):Int))) then
 ((y22[((0+(wr (((x1.2.2.length:Nat):Int)*v1.cols)).toNat)+x1.1.toNat)]?).bind λv23=>
 (mM a0 v23).bind λv25=>
 (Lp (nT a0 v1 v25 x1) (y22,0)).bind λy32=>
 (Lp (nU a0 v1 x1) (y32,0)).bind λy41=>
 bif decide (x1.2.2.length+[x1.1].length ≤4294967296) then
 (some (.inl (wr (x1.1+1),y41,(x1.2.2++[x1.1]))))
 else none
 )
 else none))
 else
 (some (.inr (x1.2.1,x1.2.2)))
def rZ (a0:Int) (a1:Mt):Option (Mt×(List Int)):=
 (oT a1).bind λv1=>
 (Lp (kF a0 v1) (0,v1.cells,[])).bind λy43=>
 some (((⟨v1.rows,v1.cols,y43.1⟩:Mt),y43.2))
theorem aEm (a0:Int) (a1:Mt) (r:(Mt×(List Int))) (h:rZ a0 a1=some r):HasC Tryz.prog 210 [.int a0,.agg (eM a1)] (.tuple [.agg (eM r.1),.list 1 (r.2.map eI)]):=by
 refine hM [.cell 4 130,.tmp 5] Tryz.func210 Tryz.ntmps210 k<|sR<|ae (wb k) k<|ae (cH aQ k k) k<|aT k2<|sR<|lp k8<|oB h λv1 hv1 h=>ae (cM (zZ a1 v1 hv1) k3 (aN (iV k) aI)) k<|ae (ws k) k<|an<|tn<|sR<|aT k2<|sQ<|sR<|fp k8<|lp k8<|am k k<|an<|tn<|aH<|oB h λy43 hy43 h=>bX (body:=(kF a0 v1)) hy43 (λ(x1:(Int×(List Int)×(List Int)))=>mN [(0,.int a0),(3,.ptr 0 0 0),(4,.ptr 2 0 0),(6,.own 3 0 x1.2.2.length),(17,.int v1.cols),(18,.int x1.1)] [(0,⟨3,[[.int v1.rows,.int v1.cols,.own 1 0 x1.2.1.length]]⟩),(1,⟨1,x1.2.1.map (ow eI)⟩),(2,⟨3,[jM]⟩),(3,⟨1,x1.2.2.map (ow eI)⟩)] 4) (λr e t=>e= .exit 0∧Ent t (mN [(3,.ptr 0 0 0),(4,.ptr 2 0 0),(6,.own 3 0 r.2.length)] [(0,⟨3,[[.int v1.rows,.int v1.cols,.own 1 0 r.1.length]]⟩),(1,⟨1,r.1.map (ow eI)⟩),(2,⟨3,[jM]⟩),(3,⟨1,r.2.map (ow eI)⟩)] 4)) (uH (σ:=sg [(0,0),(1,2),(2,1)]) (xU 3 k2 (vE ⟨_,k,⟨k,k,k,k⟩⟩ (bK k2))) (nO k<|dJ k<|cP k<|hX k k<|bA) k) ?_ ?_
 ·intro x1 o h;refine sR<|cm k4<|an<|tn<|sQ<|cJ k h (λ_ h=>?_) λ_ h=>aY<|aC<|aC<|sp h ⟨_,k,k,(bL (bK k2) (nO k<|dJ k<|cP k<|dJ k<|bA) k4)⟩;refine aG<|tn<|sQ<|aH<|sR<|am k k<|aT k2<|sR<|am k k<|ae (lU aQ k k k k) k<|aT k2<|sQ<|aH<|oB h λy8 hy8 h=>bX (body:=(kE v1 x1)) hy8 (λ(x2:Int)=>mN [(0,.int a0),(3,.ptr 0 0 0),(4,.ptr 2 0 0),(6,.own 3 0 x1.2.2.length),(7,.int x1.1),(8,.int x2),(17,.int v1.cols),(18,.int x1.1)] [(0,⟨3,[[.int v1.rows,.int v1.cols,.own 1 0 x1.2.1.length]]⟩),(1,⟨1,x1.2.1.map (ow eI)⟩),(2,⟨3,[jM]⟩),(3,⟨1,x1.2.2.map (ow eI)⟩)] 4) (λr e t=>e= .exit 2∧Ent t (mN [(0,.int a0),(3,.ptr 0 0 0),(4,.ptr 2 0 0),(6,.own 3 0 x1.2.2.length),(7,.int x1.1),(8,.int r),(17,.int v1.cols),(18,.int x1.1)] [(0,⟨3,[[.int v1.rows,.int v1.cols,.own 1 0 x1.2.1.length]]⟩),(1,⟨1,x1.2.1.map (ow eI)⟩),(2,⟨3,[jM]⟩),(3,⟨1,x1.2.2.map (ow eI)⟩)] 4)) (bL (bK k2) (nO k<|dJ k<|cP k<|dJ k<|bA) k4) ?_ ?_
  ·intro x2 o h;exact sQ<|sR<|am k k<|fp k8<|lp k8<|cm k4<|am k k<|oP h (λq3 h=>aJ 27 k q3<|lp k8<|am k k<|oB h λv4 hv4 h=>ae (AEff.pureE (nD (σ:=sg [(0,1)]) (σ':=sg [(1,0)]) (touch:=[1]) (news:=[]) (hl2:=[(1,⟨1,x1.2.1.map (ow eI)⟩)]) (n':=4) (r2:= .own 1 (0+(wr (x2*v1.cols)).toNat) ((wr ((wr (x2+1))*v1.cols)).toNat - (wr (x2*v1.cols)).toNat)) (eH (⟨v1.rows,v1.cols,x1.2.1⟩:Mt) x2 v4 hv4) k k ⟨_,_,k,⟨_,_,k,k,⟨_,_,k,k,⟨_,_,k,⟨k,k,k,k⟩,k⟩⟩⟩,⟨_,_,k,k,k⟩⟩ ⟨⟨_,k,k,.inl ⟨k,dH.plainO _⟩⟩,k,bA⟩ k k k ⟨⟨_,k,k,.inl ⟨k,dH.plainO _⟩⟩,k,bA⟩ k ⟨k,k,(by simp only [bF,lA,lT,lR,lC,lN]),k⟩ k ⟨k,dH.tame _ _,bA⟩ k k) ⟨k,k,bA⟩) k<|am k k<|cG h λq6 h=>oB h λv5 hv5 h=>ae (gJ aQ q6 k k k k k k k) k<|ae (eO aQ k k k k (qD (hv5)) k k) k<|cm k4<|pk k3<|an<|tn<|cJ k h (λ_ h=>aG<|tn<|aH<|rg<|am k k<|ae (bH k k) k<|aa k k<|an<|aX<|tn<|sp h ⟨_,k,(bL (bK k2) (nO k<|dJ k<|cP k<|dJ k<|bA) k4)⟩) λ_ h=>aY<|aC<|aC<|sp h ⟨_,k,k,(bL (bK k2) (nO k<|dJ k<|cP k<|dJ k<|bA) k4)⟩) λq3 h=>aJ 27 k q3<|aK k4<|aK k4<|aK k4<|ak k k<|pk k3<|an<|tn<|oV k k<|aY<|aC<|aC<|sp h ⟨_,k,k,(bL (bK k2) (nO k<|dJ k<|cP k<|dJ k<|bA) k4)⟩
  ·rintro e t ⟨rfl,hent⟩;refine aM<|tn<|aO hent<|sQ<|sR<|am k k<|fp k8<|lp k8<|cm k4<|an<|tn<|cJ k h (λ_ h=>aY<|aC<|aM<|tn<|rg<|ae (bH k k) k<|am k k<|an<|tn<|sp h ⟨_,k,(bL (bK k2) (nO k<|dJ k<|cP k<|dJ k<|bA) k4)⟩) λ_ h=>?_;refine aG<|tn<|sR<|lp k8<|am k k<|ae (lU aQ k k k k) k<|oB h λv10 hv10 h=>ae (AEff.pureE (nD (σ:=sg [(0,1)]) (σ':=sg [(1,0)]) (touch:=[1]) (news:=[]) (hl2:=[(1,⟨1,x1.2.1.map (ow eI)⟩)]) (n':=4) (r2:= .own 1 (0+(wr (((x1.2.2.length:Nat):Int)*v1.cols)).toNat) ((wr ((wr (((x1.2.2.length:Nat):Int)+1))*v1.cols)).toNat - (wr (((x1.2.2.length:Nat):Int)*v1.cols)).toNat)) (eH (⟨v1.rows,v1.cols,x1.2.1⟩:Mt) ((x1.2.2.length:Nat):Int) v10 hv10) k k ⟨_,_,k,⟨_,_,k,k,⟨_,_,k,k,⟨_,_,k,⟨k,k,k,k⟩,k⟩⟩⟩,⟨_,_,k,k,k⟩⟩ ⟨⟨_,k,k,.inl ⟨k,dH.plainO _⟩⟩,k,bA⟩ k k k ⟨⟨_,k,k,.inl ⟨k,dH.plainO _⟩⟩,k,bA⟩ k ⟨k,k,(by simp only [bF,lA,lT,lR,lC,lN]),k⟩ k ⟨k,dH.tame _ _,bA⟩ k k) ⟨k,k,bA⟩) k<|aT k2<|sQ<|sR<|fp k8<|lp k8<|am k k<|an<|tn<|aH<|oB h λy22 hy22 h=>bX (body:=(nS v1 x1 y8)) hy22 (λ(x3:((List Int)×Int))=>mN [(0,.int a0),(3,.ptr 0 0 0),(4,.ptr 2 0 0),(6,.own 3 0 x1.2.2.length),(7,.int x1.1),(8,.int y8),(9,.own 1 (0+(wr (((x1.2.2.length:Nat):Int)*v1.cols)).toNat) ((wr ((wr (((x1.2.2.length:Nat):Int)+1))*v1.cols)).toNat - (wr (((x1.2.2.length:Nat):Int)*v1.cols)).toNat)),(17,.int v1.cols),(18,.int x1.1),(47,.int v1.cols),(48,.int x3.2)] [(0,⟨3,[[.int v1.rows,.int v1.cols,.own 1 0 x3.1.length]]⟩),(1,⟨1,x3.1.map (ow eI)⟩),(2,⟨3,[jM]⟩),(3,⟨1,x1.2.2.map (ow eI)⟩)] 4) (λr e t=>e= .exit 4∧Ent t (mN [(0,.int a0),(3,.ptr 0 0 0),(4,.ptr 2 0 0),(6,.own 3 0 x1.2.2.length),(7,.int x1.1),(9,.own 1 (0+(wr (((x1.2.2.length:Nat):Int)*v1.cols)).toNat) ((wr ((wr (((x1.2.2.length:Nat):Int)+1))*v1.cols)).toNat - (wr (((x1.2.2.length:Nat):Int)*v1.cols)).toNat)),(17,.int v1.cols),(18,.int x1.1)] [(0,⟨3,[[.int v1.rows,.int v1.cols,.own 1 0 r.length]]⟩),(1,⟨1,r.map (ow eI)⟩),(2,⟨3,[jM]⟩),(3,⟨1,x1.2.2.map (ow eI)⟩)] 4)) (bL (bK k2) (nO k<|dJ k<|cP k<|dJ k<|bA) k4) ?_ ?_
   ·intro x3 o h;refine sR<|cm k4<|an<|tn<|sQ<|cJ k h (λ_ h=>?_) λ_ h=>aY<|aC<|aC<|sp h ⟨_,k,k,(bL (bK k2) (nO k<|dJ k<|cP k<|dJ k<|bA) k4)⟩;refine aG<|tn<|sQ<|aH<|sR<|am k k<|aT k2<|aW jN<|am k k<|am k k<|lp k8<|am k k<|oB h λv12 hv12 h=>ae (AEff.pureE (nD (σ:=sg [(0,1)]) (σ':=sg [(1,0)]) (touch:=[1]) (news:=[]) (hl2:=[(1,⟨1,x3.1.map (ow eI)⟩)]) (n':=4) (r2:= .own 1 (0+(wr (y8*v1.cols)).toNat) ((wr ((wr (y8+1))*v1.cols)).toNat - (wr (y8*v1.cols)).toNat)) (eH (⟨v1.rows,v1.cols,x3.1⟩:Mt) y8 v12 hv12) k k ⟨_,_,k,⟨_,_,k,k,⟨_,_,k,k,⟨_,_,k,⟨k,k,k,k⟩,k⟩⟩⟩,⟨_,_,k,k,k⟩⟩ ⟨⟨_,k,k,.inl ⟨k,dH.plainO _⟩⟩,k,bA⟩ k k k ⟨⟨_,k,k,.inl ⟨k,dH.plainO _⟩⟩,k,bA⟩ k ⟨k,k,(by simp only [bF,lA,lT,lR,lC,lN]),k⟩ k ⟨k,dH.tame _ _,bA⟩ k k) ⟨k,k,bA⟩) k<|am k k<|lp k8<|am k k<|oB h λv13 hv13 h=>ae (AEff.pureE (nD (σ:=sg [(0,1)]) (σ':=sg [(1,0)]) (touch:=[1]) (news:=[]) (hl2:=[(1,⟨1,x3.1.map (ow eI)⟩)]) (n':=4) (r2:= .own 1 (0+(wr (y8*v1.cols)).toNat) ((wr ((wr (y8+1))*v1.cols)).toNat - (wr (y8*v1.cols)).toNat)) (eH (⟨v1.rows,v1.cols,x3.1⟩:Mt) y8 v13 hv13) k k ⟨_,_,k,⟨_,_,k,k,⟨_,_,k,k,⟨_,_,k,⟨k,k,k,k⟩,k⟩⟩⟩,⟨_,_,k,k,k⟩⟩ ⟨⟨_,k,k,.inl ⟨k,dH.plainO _⟩⟩,k,bA⟩ k k k ⟨⟨_,k,k,.inl ⟨k,dH.plainO _⟩⟩,k,bA⟩ k ⟨k,k,(by simp only [bF,lA,lT,lR,lC,lN]),k⟩ k ⟨k,dH.tame _ _,bA⟩ k k) ⟨k,k,bA⟩) k<|am k k<|cG h λq15 h=>oB h λv14 hv14 h=>ae (gJ aQ q15 k k k k k k k) k<|ae (eO aQ k k k k (qD (hv14)) k k) k<|am k k<|am k k<|cG h λq17 h=>oB h λv16 hv16 h=>ae (gJ aQ q17 k k k k k k k) k<|ae (eO aQ k k k k (qD (hv16)) k k) k<|cG h λq19 h=>oB h λv18 hv18 h=>ae (gJ aQ q19 k k k k k k k) k<|ae (mI aQ vL (u:=v14) (hv18) k k k k k k) k ?_;exact cG h λq21 h=>oB h λv20 hv20 h=>ae (gJ aQ q21 k k k k k k k) k<|ae (mI aQ vL (u:=v16) (hv20) k k k k k k) k<|an<|tU (by kernel_rfl)<|aX<|tn<|rg<|ae (bH k k) k<|am k k<|an<|tn<|sp h ⟨_,k,(bL (bK k2) (hX ⟨_,k,k,.inr ⟨_,_,k,⟨_,_,k,k,⟨_,_,k,k,⟨_,_,k,⟨k,k,(by simp only [bF,lA,lT,lR,lC,lN]),k⟩,k⟩⟩⟩,k⟩⟩ k<|dJ k<|cP k<|dJ k<|bA) k4)⟩
   ·rintro e t ⟨rfl,hent⟩;refine aM<|tn<|aO hent<|sR<|am k k<|am k k<|am k k<|cG h λq24 h=>oB h λv23 hv23 h=>ae (gJ aQ q24 k k k k k k k) k<|ae (eO aQ k k k k (qD (hv23)) k k) k<|oB h λv25 hv25 h=>ae (aE (aBM a0 v23 v25 hv25) k (bN k (bN k aI))) k<|aT k2<|sQ<|sR<|am k k<|ae (lU aQ k k k k) k<|am k k<|an<|tn<|aH<|oB h λy32 hy32 h=>bX (body:=(nT a0 v1 v25 x1)) hy32 (λ(x4:((List Int)×Int))=>mN [(0,.int a0),(3,.ptr 0 0 0),(4,.ptr 2 0 0),(6,.own 3 0 x1.2.2.length),(7,.int x1.1),(9,.own 1 (0+(wr (((x1.2.2.length:Nat):Int)*v1.cols)).toNat) ((wr ((wr (((x1.2.2.length:Nat):Int)+1))*v1.cols)).toNat - (wr (((x1.2.2.length:Nat):Int)*v1.cols)).toNat)),(11,.int v25),(17,.int v1.cols),(18,.int x1.1),(77,.int ((((wr ((wr (((x1.2.2.length:Nat):Int)+1))*v1.cols)).toNat - (wr (((x1.2.2.length:Nat):Int)*v1.cols)).toNat):Nat):Int)),(78,.int x4.2)] [(0,⟨3,[[.int v1.rows,.int v1.cols,.own 1 0 x4.1.length]]⟩),(1,⟨1,x4.1.map (ow eI)⟩),(2,⟨3,[jM]⟩),(3,⟨1,x1.2.2.map (ow eI)⟩)] 4) (λr e t=>e= .exit 6∧Ent t (mN [(0,.int a0),(3,.ptr 0 0 0),(4,.ptr 2 0 0),(6,.own 3 0 x1.2.2.length),(7,.int x1.1),(9,.own 1 (0+(wr (((x1.2.2.length:Nat):Int)*v1.cols)).toNat) ((wr ((wr (((x1.2.2.length:Nat):Int)+1))*v1.cols)).toNat - (wr (((x1.2.2.length:Nat):Int)*v1.cols)).toNat)),(17,.int v1.cols),(18,.int x1.1)] [(0,⟨3,[[.int v1.rows,.int v1.cols,.own 1 0 r.length]]⟩),(1,⟨1,r.map (ow eI)⟩),(2,⟨3,[jM]⟩),(3,⟨1,x1.2.2.map (ow eI)⟩)] 4)) (bL (bK k2) (nO k<|dJ k<|cP k<|dJ k<|bA) k4) ?_ ?_
    ·intro x4 o h;refine sR<|cm k4<|an<|tn<|sQ<|cJ k h (λ_ h=>?_) λ_ h=>aY<|aC<|aC<|sp h ⟨_,k,k,(bL (bK k2) (nO k<|dJ k<|cP k<|dJ k<|bA) k4)⟩;refine aG<|tn<|sQ<|aH<|sR<|am k k<|aT k2<|rg<|am k k<|am k k<|am k k<|am k k<|cG h λq28 h=>oB h λv27 hv27 h=>ae (gJ aQ q28 k k k k k k k) k<|ae (eO aQ k k k k (qD (hv27)) k k) k<|am k k<|ae (gI k k) k<|am k k<|cG h λq31 h=>ae (aBF k k q31) k<|cG h λq30 h=>oB h λv29 hv29 h=>ae (gJ aQ q30 k k k k k k k) k<|ae (mI aQ vL (u:=(wr (v27*v25)).tmod a0) (hv29) k k k k k k) k<|an<|aX<|tn<|rg<|ae (bH k k) k<|am k k ?_;exact an<|tn<|sp h ⟨_,k,(bL (bK k2) (hX ⟨_,k,k,.inr ⟨_,_,k,⟨_,_,k,k,⟨_,_,k,k,⟨_,_,k,⟨k,k,(by simp only [bF,lA,lT,lR,lC,lN]),k⟩,k⟩⟩⟩,k⟩⟩ k<|dJ k<|cP k<|dJ k<|bA) k4)⟩
    ·rintro e t ⟨rfl,hent⟩;refine aM<|tn<|aO hent<|sQ<|sR<|fp k8<|lp k8<|am k k<|an<|tn<|aH<|oB h λy41 hy41 h=>bX (body:=(nU a0 v1 x1)) hy41 (λ(x5:((List Int)×Int))=>mN [(0,.int a0),(3,.ptr 0 0 0),(4,.ptr 2 0 0),(6,.own 3 0 x1.2.2.length),(7,.int x1.1),(9,.own 1 (0+(wr (((x1.2.2.length:Nat):Int)*v1.cols)).toNat) ((wr ((wr (((x1.2.2.length:Nat):Int)+1))*v1.cols)).toNat - (wr (((x1.2.2.length:Nat):Int)*v1.cols)).toNat)),(17,.int v1.cols),(18,.int x1.1),(94,.int v1.rows),(95,.int x5.2)] [(0,⟨3,[[.int v1.rows,.int v1.cols,.own 1 0 x5.1.length]]⟩),(1,⟨1,x5.1.map (ow eI)⟩),(2,⟨3,[jM]⟩),(3,⟨1,x1.2.2.map (ow eI)⟩)] 4) (λr e t=>e= .exit 8∧Ent t (mN [(0,.int a0),(3,.ptr 0 0 0),(4,.ptr 2 0 0),(6,.own 3 0 x1.2.2.length),(7,.int x1.1),(17,.int v1.cols),(18,.int x1.1)] [(0,⟨3,[[.int v1.rows,.int v1.cols,.own 1 0 r.length]]⟩),(1,⟨1,r.map (ow eI)⟩),(2,⟨3,[jM]⟩),(3,⟨1,x1.2.2.map (ow eI)⟩)] 4)) (bL (bK k2) (nO k<|dJ k<|cP k<|dJ k<|bA) k4) ?_ ?_
     ·intro x5 o h;refine sR<|cm k4<|an<|tn<|sQ<|cJ k h (λ_ h=>?_) λ_ h=>aY<|aC<|aC<|sp h ⟨_,k,k,(bL (bK k2) (nO k<|dJ k<|cP k<|dJ k<|bA) k4)⟩;refine aG<|tn<|sQ<|aH<|sR<|am k k<|aT k2<|sR<|am k k<|am k k<|ae (lU aQ k k k k) k<|cm k4<|an<|tn<|cJ k h (λ_ h=>?_) λ_ h=>aG<|aX<|tn<|rg<|ae (bH k k) k<|am k k<|an<|tn<|sp h ⟨_,k,(bL (bK k2) (nO k<|dJ k<|cP k<|dJ k<|bA) k4)⟩;exact aW jN<|am k k<|lp k8<|am k k<|oB h λv35 hv35 h=>ae (AEff.pureE (nD (σ:=sg [(0,1)]) (σ':=sg [(1,0)]) (touch:=[1]) (news:=[]) (hl2:=[(1,⟨1,x5.1.map (ow eI)⟩)]) (n':=4) (r2:= .own 1 (0+(wr (x5.2*v1.cols)).toNat) ((wr ((wr (x5.2+1))*v1.cols)).toNat - (wr (x5.2*v1.cols)).toNat)) (eH (⟨v1.rows,v1.cols,x5.1⟩:Mt) x5.2 v35 hv35) k k ⟨_,_,k,⟨_,_,k,k,⟨_,_,k,k,⟨_,_,k,⟨k,k,k,k⟩,k⟩⟩⟩,⟨_,_,k,k,k⟩⟩ ⟨⟨_,k,k,.inl ⟨k,dH.plainO _⟩⟩,k,bA⟩ k k k ⟨⟨_,k,k,.inl ⟨k,dH.plainO _⟩⟩,k,bA⟩ k ⟨k,k,(by simp only [bF,lA,lT,lR,lC,lN]),k⟩ k ⟨k,dH.tame _ _,bA⟩ k k) ⟨k,k,bA⟩) k<|am k k<|lp k8<|am k k<|oB h λv36 hv36 h=>ae (AEff.pureE (nD (σ:=sg [(0,1)]) (σ':=sg [(1,0)]) (touch:=[1]) (news:=[]) (hl2:=[(1,⟨1,x5.1.map (ow eI)⟩)]) (n':=4) (r2:= .own 1 (0+(wr (x5.2*v1.cols)).toNat) ((wr ((wr (x5.2+1))*v1.cols)).toNat - (wr (x5.2*v1.cols)).toNat)) (eH (⟨v1.rows,v1.cols,x5.1⟩:Mt) x5.2 v36 hv36) k k ⟨_,_,k,⟨_,_,k,k,⟨_,_,k,k,⟨_,_,k,⟨k,k,k,k⟩,k⟩⟩⟩,⟨_,_,k,k,k⟩⟩ ⟨⟨_,k,k,.inl ⟨k,dH.plainO _⟩⟩,k,bA⟩ k k k ⟨⟨_,k,k,.inl ⟨k,dH.plainO _⟩⟩,k,bA⟩ k ⟨k,k,(by simp only [bF,lA,lT,lR,lC,lN]),k⟩ k ⟨k,dH.tame _ _,bA⟩ k k) ⟨k,k,bA⟩) k<|am k k<|cG h λq38 h=>oB h λv37 hv37 h=>ae (gJ aQ q38 k k k k k k k) k<|ae (eO aQ k k k k (qD (hv37)) k k) k<|ae (oY k k) k<|am k k<|oB h λv39 hv39 h=>ae (nD (σ:=sg [(0,1)]) (σ':=sg [(1,0)]) (touch:=[1]) (news:=[]) (hl2:=[(1,⟨1,v39.map (ow eI)⟩)]) (n':=4) (r2:= .own 1 (0+(wr (x5.2*v1.cols)).toNat) ((wr ((wr (x5.2+1))*v1.cols)).toNat - (wr (x5.2*v1.cols)).toNat)) (wH a0 x5.1 (0+(wr (x5.2*v1.cols)).toNat) ((wr ((wr (x5.2+1))*v1.cols)).toNat - (wr (x5.2*v1.cols)).toNat) (wr (a0 - v37)) (0+(wr (((x1.2.2.length:Nat):Int)*v1.cols)).toNat) ((wr ((wr (((x1.2.2.length:Nat):Int)+1))*v1.cols)).toNat - (wr (((x1.2.2.length:Nat):Int)*v1.cols)).toNat) v39 hv39) k k ⟨_,_,k,k,⟨_,_,k,⟨k,k,k,k⟩,⟨_,_,k,k,⟨_,_,k,⟨k,k,k,k⟩,k⟩⟩⟩⟩ ⟨⟨_,k,k,.inl ⟨k,dH.plainO _⟩⟩,k,bA⟩ k k k ⟨⟨_,k,k,.inl ⟨k,dH.plainO _⟩⟩,k,bA⟩ k ⟨k,k,(by simp only [bF,lA,lT,lR,lC,lN]),k⟩ k ⟨k,dH.tame _ _,bA⟩ k k) k<|cG h λq40 h=>an<|tU (by kernel_rfl)<|aX<|tn<|rg<|ae (bH k k) k<|am k k<|an<|tn<|sp h ⟨_,k,(bL (bK k2) (hX ⟨_,k,k,.inr ⟨_,_,k,⟨_,_,k,k,⟨_,_,k,k,⟨_,_,k,⟨k,k,(by simp only [bF,lA,lT,lR,lC,lN,of_decide_eq_true q40]),k⟩,k⟩⟩⟩,k⟩⟩ k<|dJ k<|cP k<|dJ k<|bA) k4)⟩
     ·rintro e t ⟨rfl,hent⟩;exact aM<|tn<|aO hent<|rg<|am k k<|am k k<|ae (wl k) k<|cG h λq42 h=>ae (oZ aQ (l:=x1.2.2) (m:=[x1.1]) vL q42 k k k k k k k k k k k k) k<|aa k k<|an<|aX<|tn<|rg<|ae (bH k k) k<|am k k<|an<|tn<|sp h ⟨_,k,(ntZ [0,1,2,5] (bK k2) (nO k<|dJ k<|cP k<|dJ k<|bA) k4)⟩
 ·rintro e t ⟨rfl,hent⟩;exact aM<|tn<|aO hent<|sR<|lp k8<|am k k<|ae (ws k) k<|aT k2<|aD<|sp h (aR k k k (iZ k (dV (vK (aZ (k) (aZ (k) (aZ (fK dH k k) fH)))) (dV (aBm (fK dH k k)) qR))))
def eY (a0:(List (List Int))) (x1:(Int×Int)):Option ((Int×Int) ⊕ Int):=
 bif decide (x1.2<(a0.length:Int)) then
 ((dL a0 x1.2).bind λv2=>
 bif decide (wr (x1.1+(v2.length:Int))<0) then
 (none)
 else
 (some (.inl (wr (x1.1+(v2.length:Int)),wr (x1.2+1)))))
 else
 (some (.inr x1.1))
def eZ (a0:(List (List Int))) (x2:((List Int)×Int)):Option (((List Int)×Int) ⊕ (List Int)):=
 bif decide (x2.2<(a0.length:Int)) then
 ((dL a0 x2.2).bind λv7=>
 bif decide (x2.1.length+v7.length≤4294967296) then
 (some (.inl ((x2.1++v7),wr (x2.2+1))))
 else none)
 else
 (some (.inr x2.1))
def fZ (a0:(List (List Int))):Option (List Int):=
 (Lp (eY a0) (0,0)).bind λy4=>
 (aIb y4).bind λv5=>
 (Lp (eZ a0) (v5,0)).bind λy9=>
 some (y9)
theorem vO (a0:(List (List Int))) (r:(List Int)) (h:fZ a0=some r):HasC Tryz.prog 309 [.list 1 (a0.map (jA 1 eI))] (.list 1 (r.map eI)):=by
 refine hM [.tmp 2] Tryz.func309 Tryz.ntmps309 k<|sR<|aT k2<|sR<|aT k2<|sQ<|sR<|am k k<|ln k4<|am k k<|an<|tn<|aH<|oB h λy4 hy4 h=>bX (body:=(eY a0)) hy4 (λ(x1:(Int×Int))=>mN [(0,.list 1 (a0.map (jA 1 eI))),(3,.int x1.1),(9,.list 1 (a0.map (jA 1 eI))),(10,.int (a0.length:Int)),(11,.int x1.2)] [] 0) (λr e t=>e= .exit 0∧Ent t (mN [(0,.list 1 (a0.map (jA 1 eI))),(3,.int r)] [] 0)) (bL (bK k2) bA k4) ?_ ?_
 ·intro x1 o h;refine sR<|cm k4<|an<|tn<|sQ<|cJ k h (λ_ h=>?_) λ_ h=>aY<|aC<|aC<|sp h ⟨_,k,k,(bL (bK k2) bA k4)⟩;refine aG<|tn<|sQ<|aH<|sR<|oB h λv2 hv2 h=>ae (xl hv2 k) k<|lr k7<|aT k2<|sR<|am k k<|am k k<|ln k4<|ae (bH k k) k<|aT k2<|sR<|am k k<|cm k4<|an<|tn<|cJ k h (λ_ h=>?_) λ_ h=>aG<|aX<|tn<|rg<|ae (bH k k) k<|am k k<|an<|tn<|sp h ⟨_,k,(bL (bK k2) bA k4)⟩;refine rg ?_;cases h
 ·rintro e t ⟨rfl,hent⟩;refine aM<|tn<|aO hent<|sR<|am k k<|oB h λv5 hv5 h=>ae (cL dH (aNQ y4 v5 hv5) k3 (aN aMc (bN k aI))) k<|aT k2<|sQ<|sR<|am k k<|ln k4<|am k k<|an<|tn<|aH<|oB h λy9 hy9 h=>bX (body:=(eZ a0)) hy9 (λ(x2:((List Int)×Int))=>mN [(6,.own 0 0 x2.1.length),(25,.list 1 (a0.map (jA 1 eI))),(26,.int (a0.length:Int)),(27,.int x2.2)] [(0,⟨1,x2.1.map (ow eI)⟩)] 1) (λr e t=>e= .exit 2∧Ent t (mN [(6,.own 0 0 r.length)] [(0,⟨1,r.map (ow eI)⟩)] 1)) (bL (bK k2) (dJ k<|bA) k4) ?_ ?_
  ·intro x2 o h;exact sR<|cm k4<|an<|tn<|sQ<|cJ k h (λ_ h=>aG<|tn<|sQ<|aH<|sR<|oB h λv7 hv7 h=>ae (xl hv7 k) k<|lr k7<|aT k2<|rg<|am k k<|am k k<|cG h λq8 h=>ae (oZ aQ (l:=x2.1) (m:=v7) vL q8 k k k k k k k k k k k k) k<|aa k k<|an<|aX<|tn<|rg<|ae (bH k k) k<|am k k<|an<|tn<|sp h ⟨_,k,(ntZ [1] (bK k2) (dJ k<|bA) k4)⟩) λ_ h=>aY<|aC<|aC<|sp h ⟨_,k,k,(bL (bK k2) (dJ k<|bA) k4)⟩
  ·rintro e t ⟨rfl,hent⟩;exact aM<|tn<|aO hent<|sR<|am k k<|aT k2<|aD<|sp h (aR k k k (nM (fK dH k k)))
end
noncomputable section
set_option maxRecDepth 10000
set_option maxHeartbeats 4000000
def fB (a0:(List Int)) (a1:Int):Option Int:=
 bif decide (wr (a1 - (a0.length:Int))<0) then
 (some ((-1)))
 else
 (some (wr (a1 - (a0.length:Int))))
theorem lV (a0:(List Int)) (a1:Int) (r:Int) (h:fB a0 a1=some r):HasC Tryz.prog 24 [.list 1 (a0.map eI),.int a1] (.int r):=by
 exact hM [.tmp 4] Tryz.func24 Tryz.ntmps24 k<|sR<|aT k2<|sR<|am k k<|am k k<|ln k4<|ae (oY k k) k<|aT k2<|sQ<|sR<|am k k<|cm k4<|an<|tn<|cJ k h (λ_ h=>sR<|aT k2<|aD<|aB<|uT h k2) λ_ h=>aG<|tn<|sR<|am k k<|aT k2<|aD<|uT h k2
def tK (a0:Qv) (a1:Int):Option Int:=
 (fB a0.src a1).bind λv1=>
 bif decide (v1<0) then
 (some ((-1)))
 else
 ((fB a0.tgt v1).bind λv3=>
 bif decide (v3<0) then
 (some ((-1)))
 else
 (some (v3)))
theorem aCX (a0:Qv) (a1:Int) (r:Int) (h:tK a0 a1=some r):HasC Tryz.prog 70 [.agg (eQ a0),.int a1] (.int r):=by
 exact hM [.tmp 4] Tryz.func70 Tryz.ntmps70 k<|sR<|ae (wb k) k<|aT k2<|sR<|fp k8<|lp k8<|am k k<|oB h λv1 hv1 h=>ae (aE (lV a0.src a1 v1 hv1) k (bN k (bN k aI))) k<|aT k2<|sQ<|sR<|am k k<|cm k4<|an<|tn<|cJ k h (λ_ h=>sR<|aT k2<|aD<|aB<|uT h k2) λ_ h=>aG<|tn<|sR<|fp k8<|lp k8<|am k k<|oB h λv3 hv3 h=>ae (aE (lV a0.tgt v1 v3 hv3) k (bN k (bN k aI))) k<|aT k2<|sQ<|sR<|am k k<|cm k4<|an<|tn<|cJ k h (λ_ h=>sR<|aT k2<|aD<|aB<|uT h k2) λ_ h=>aG<|tn<|sR<|am k k<|aT k2<|aD<|uT h k2
def tL (a0:Mt) (a1:Int):Option Int:=
 (fB a0.cells a1).bind λv1=>
 bif decide (v1<0) then
 (some ((-1)))
 else
 (some (v1))
theorem aCY (a0:Mt) (a1:Int) (r:Int) (h:tL a0 a1=some r):HasC Tryz.prog 111 [.agg (eM a0),.int a1] (.int r):=by
 exact hM [.tmp 4] Tryz.func111 Tryz.ntmps111 k<|sR<|ae (wb k) k<|aT k2<|sR<|fp k8<|lp k8<|am k k<|oB h λv1 hv1 h=>ae (aE (lV a0.cells a1 v1 hv1) k (bN k (bN k aI))) k<|aT k2<|sQ<|sR<|am k k<|cm k4<|an<|tn<|cJ k h (λ_ h=>sR<|aT k2<|aD<|aB<|uT h k2) λ_ h=>aG<|tn<|sR<|am k k<|aT k2<|aD<|uT h k2
def jP (a0:(List Mt)) (x1:(Int×Int)):Option ((Int×Int) ⊕ (Int ⊕ Int)):=
 bif decide (x1.2<(a0.length:Int)) then
 ((dL a0 x1.2).bind λv3=>
 (tL v3 x1.1).bind λv4=>
 bif decide (v4<0) then
 (some (.inr (.inr ((-1)))))
 else
 (some (.inl (v4,wr (x1.2+1)))))
 else
 (some (.inr (.inl x1.1)))
def kG (a0:(List Mt)) (a1:Int):Option Int:=
 bif decide (wr (a1 - (a0.length:Int))<0) then
 (some ((-1)))
 else
 ((Lp (jP a0) (wr (a1 - (a0.length:Int)),0)).bind λy6=>
 Sum.elim (λy7=>
 some (y7)
 )
 (λy8=>
 some y8
 )
 y6)
theorem wI (a0:(List Mt)) (a1:Int) (r:Int) (h:kG a0 a1=some r):HasC Tryz.prog 43 [.list 3 (a0.map eM),.int a1] (.int r):=by
 refine hM [.tmp 4] Tryz.func43 Tryz.ntmps43 k<|sR<|aT k2<|sR<|am k k<|am k k<|ln k4<|ae (oY k k) k<|aT k2<|sQ<|sR<|am k k<|cm k4<|an<|tn<|cJ k h (λ_ h=>sR<|aT k2<|aD<|aB<|uT h k2) λ_ h=>?_;refine aG<|tn<|sQ<|sR<|aT k2<|aH<|oB h λy6 hy6 h=>bX (body:=(jP a0)) hy6 (λ(x1:(Int×Int))=>mN [(0,.list 3 (a0.map eM)),(1,.int x1.1),(5,.int x1.2)] [] 0) (λr e t=>Sum.elim (λa=>(λr e t=>e= .exit 0∧Ent t (mN [(1,.int r)] [] 0)) a e t) (λb=>(λr e t=>e= .ret∧nJ TT [.tmp 4] (.int r) .ret t) b e t) r) (bL (bK k2) bA k4) ?_ ?_
 ·intro x1 o h;exact sQ<|sR<|am k k<|am k k<|ln k4<|cm k4<|an<|tn<|cJ k h (λ_ h=>aG<|tn<|sQ<|aH<|sR<|am k k<|am k k<|oB h λv3 hv3 h=>ae (xl hv3 k) k<|lr k7<|am k k<|oB h λv4 hv4 h=>ae (aE (aCY v3 x1.1 v4 hv4) k (aN (iV k) (bN k aI))) k<|aT k2<|sR<|am k k<|cm k4<|an<|tn<|cJ k h (λ_ h=>sR<|aT k2<|aD<|aU<|aB<|aB<|sp h ⟨_,k,k,aR k k k (xC k)⟩) λ_ h=>aG<|aX<|tn<|rg<|am k k<|ae (bH k k) k<|aT k2<|sp h ⟨_,k,(bL (bK k2) bA k4)⟩) λ_ h=>aY<|aC<|aC<|sp h ⟨_,k,k,(bL (bK k2) bA k4)⟩
 ·intro e t hX;rcases y6 with y7|y8
  ·obtain ⟨rfl,hent⟩:=hX;exact aM<|tn<|aO hent<|sR<|am k k<|aT k2<|aD<|uT h k2
  ·obtain ⟨rfl,hent⟩:=hX;exact aU<|aB<|sp h hent
def qX (a0:Rp) (a1:Int):Option Int:=
 (tK a0.q a1).bind λv1=>
 bif decide (v1<0) then
 (some ((-1)))
 else
 ((fB a0.dims v1).bind λv3=>
 bif decide (v3<0) then
 (some ((-1)))
 else
 ((kG a0.maps v3).bind λv5=>
 bif decide (v5<0) then
 (some ((-1)))
 else
 (some (v5))))
theorem xH (a0:Rp) (a1:Int) (r:Int) (h:qX a0 a1=some r):HasC Tryz.prog 17 [.agg (eR a0),.int a1] (.int r):=by
 exact hM [.tmp 4] Tryz.func17 Tryz.ntmps17 k<|sR<|ae (wb k) k<|aT k2<|sR<|fp k8<|lp k8<|am k k<|oB h λv1 hv1 h=>ae (aE (aCX a0.q a1 v1 hv1) k (aN (iV k) (bN k aI))) k<|aT k2<|sQ<|sR<|am k k<|cm k4<|an<|tn<|cJ k h (λ_ h=>sR<|aT k2<|aD<|aB<|uT h k2) λ_ h=>aG<|tn<|sR<|fp k8<|lp k8<|am k k<|oB h λv3 hv3 h=>ae (aE (lV a0.dims v1 v3 hv3) k (bN k (bN k aI))) k<|aT k2<|sQ<|sR<|am k k<|cm k4<|an<|tn<|cJ k h (λ_ h=>sR<|aT k2<|aD<|aB<|uT h k2) λ_ h=>aG<|tn<|sR<|fp k8<|lp k8<|am k k<|oB h λv5 hv5 h=>ae (aE (wI a0.maps v3 v5 hv5) k (bN k (bN k aI))) k<|aT k2<|sQ<|sR<|am k k<|cm k4<|an<|tn<|cJ k h (λ_ h=>sR<|aT k2<|aO (t:=mN [(4,.int (-1))] [] 1) (bL (bK k2) bA k4)<|aD<|aB<|uT h k2) λ_ h=>aG<|tn<|sR<|am k k<|aT k2<|aD<|uT h k2
def nV (a0:(List Int)) (x1:((List Int)×Int)):Option (((List Int)×Int) ⊕ (List Int)):=
 bif decide (x1.2<(a0.length:Int)) then
 ((dL a0 x1.2).bind λv2=>
 (dL x1.1 x1.2).bind λv3=>
 some (.inl ((x1.1.set x1.2.toNat v2),wr (x1.2+1))))
 else
 (some (.inr x1.1))
def gA (a0:(List Int)):Option (List Int):=
 bif (decide (0≤(a0.length:Int))&&decide ((a0.length:Int)≤1048576)) then
 ((Lp (nV a0) ((List.replicate ((a0.length:Int).toNat) (0:Int)),0)).bind λy4=>
 some (y4))
 else none
theorem lW (a0:(List Int)) (r:(List Int)) (h:gA a0=some r):HasC Tryz.prog 31 [.list 1 (a0.map eI)] (.list 1 (r.map eI)):=by
 refine hM [.tmp 2] Tryz.func31 Tryz.ntmps31 k<|sR<|aT k2<|sR<|am k k<|ln k4<|cG h λq5 h=>ae (xF aQ q5 k k k k k k k k) k<|aT k2<|aO (t:=mN [(0,.list 1 (a0.map eI)),(3,.own 0 0 ((List.replicate ((a0.length:Int).toNat) (0:Int)).length))] [(0,⟨1,List.map (ow eI) (List.replicate ((a0.length:Int).toNat) (0:Int))⟩)] 1) (bL (xU 1 k2 (vE ⟨_,k,⟨k,k,(by simp only [bF,lA,lT,lR,lC,lN]),k⟩⟩ bA)) (hX ⟨_,k,k,.inl ⟨aDo (e:=eI) (z:=0) _,dH.plainO _⟩⟩ k<|bA) k4)<|sQ<|sR<|aT k2<|aH<|oB h λy4 hy4 h=>bX (body:=(nV a0)) hy4 (λ(x1:((List Int)×Int))=>mN [(0,.list 1 (a0.map eI)),(3,.own 0 0 x1.1.length),(4,.int x1.2)] [(0,⟨1,x1.1.map (ow eI)⟩)] 1) (λr e t=>e= .exit 0∧Ent t (mN [(3,.own 0 0 r.length)] [(0,⟨1,r.map (ow eI)⟩)] 1)) (bL (bK k2) (dJ k<|bA) k4) ?_ ?_
 ·intro x1 o h;exact sQ<|sR<|am k k<|am k k<|ln k4<|cm k4<|an<|tn<|cJ k h (λ_ h=>aG<|tn<|sQ<|aH<|rg<|am k k<|am k k<|am k k<|am k k<|oB h λv2 hv2 h=>ae (xl hv2 k) k<|lr k7<|oB h λv3 hv3 h=>ae (xo hv3 k) k<|ae (mI aQ vL (u:=v2) (iK hv3) k k k k k k) k<|an<|aX<|tn<|rg<|am k k<|ae (bH k k) k<|aT k2<|sp h ⟨_,k,(bL (xU 1 k2 (vE ⟨_,k,⟨k,k,(by simp only [bF,lA,lT,lR,lC,lN]),k⟩⟩ (bK k2))) (dJ k<|bA) k4)⟩) λ_ h=>aY<|aC<|aC<|sp h ⟨_,k,k,(bL (bK k2) (dJ k<|bA) k4)⟩
 ·rintro e t ⟨rfl,hent⟩;exact aM<|tn<|aO hent<|sR<|am k k<|aT k2<|aD<|sp h (aR k k k (nM (fK dH k k)))
def pL (a0:Qv):Option Qv:=
 (gA a0.src).bind λv1=>
 (gA a0.tgt).bind λv2=>
 some ((⟨a0.n,v1,v2⟩:Qv))
theorem aCZ (a0:Qv) (r:Qv) (h:pL a0=some r):HasC Tryz.prog 81 [.agg (eQ a0)] (.agg (eQ r)):=by
 refine hM [.cell 2 44] Tryz.func81 Tryz.ntmps81 k<|sR<|ae (wb k) k<|ae (cH aQ k k) k<|an<|tn<|sR<|ae (cH aQ k k) k<|an<|tn<|sR<|fp k8<|lp k8<|fp k8<|ae (ws k) k<|an<|tn<|sR<|fp k8<|lp k8<|oB h λv1 hv1 h=>ae (cL dH (lW a0.src v1 hv1) k3 (bN k aI)) k<|fp k8<|ae (ws k) k<|an<|tn<|sQ ?_;exact rg<|fp k8<|lp k8<|oB h λv2 hv2 h=>ae (cL dH (lW a0.tgt v2 hv2) k3 (bN k aI)) k<|fp k8<|ae (ws k) k<|an<|tn<|sR<|lp k8<|ae (ws k) k<|an<|tn<|aD<|sp h (aR k k k (mA (aZ (k) (aZ (fK dH k k) (aZ (fK dH k k) fH)))))
def pM (a0:Mt):Option Mt:=
 (gA a0.cells).bind λv1=>
 some ((⟨a0.rows,a0.cols,v1⟩:Mt))
theorem aCa (a0:Mt) (r:Mt) (h:pM a0=some r):HasC Tryz.prog 120 [.agg (eM a0)] (.agg (eM r)):=by
 refine hM [.cell 2 130] Tryz.func120 Tryz.ntmps120 k<|sR<|ae (wb k) k<|ae (cH aQ k k) k<|an<|tn<|sR<|ae (cH aQ k k) k<|an<|tn<|sR<|fp k8<|lp k8<|fp k8<|ae (ws k) k<|an<|tn<|sR<|fp k8<|lp k8<|fp k8<|ae (ws k) k<|an<|tn<|sR ?_;exact fp k8<|lp k8<|oB h λv1 hv1 h=>ae (cL dH (lW a0.cells v1 hv1) k3 (bN k aI)) k<|fp k8<|ae (ws k) k<|an<|tn<|sR<|lp k8<|ae (ws k) k<|an<|tn<|aD<|sp h (aR k k k (mA (aZ (k) (aZ (k) (aZ (fK dH k k) fH)))))
def jQ (a0:(List Mt)) (x1:((List Mt)×Int)):Option (((List Mt)×Int) ⊕ (List Mt)):=
 bif decide (x1.2<(a0.length:Int)) then
 ((dL a0 x1.2).bind λv2=>
 (pM v2).bind λv3=>
 (dL x1.1 x1.2).bind λv4=>
 some (.inl ((x1.1.set x1.2.toNat v3),wr (x1.2+1))))
 else
 (some (.inr x1.1))
def kH (a0:(List Mt)):Option (List Mt):=
 bif (decide (0≤(a0.length:Int))&&decide ((a0.length:Int)≤1048576)) then
 ((Lp (jQ a0) ((List.replicate ((a0.length:Int).toNat) ((⟨0,0,[]⟩:Mt):Mt)),0)).bind λy5=>
 some (y5))
 else none
theorem wJ (a0:(List Mt)) (r:(List Mt)) (h:kH a0=some r):HasC Tryz.prog 54 [.list 3 (a0.map eM)] (.list 3 (r.map eM)):=by
 refine hM [.tmp 2] Tryz.func54 Tryz.ntmps54 k<|sR<|aT k2<|sR<|am k k<|ln k4<|cG h λq6 h=>ae (xF aQ q6 k k k k k k k k) k<|aT k2<|aO (t:=mN [(0,.list 3 (a0.map eM)),(3,.own 0 0 ((List.replicate ((a0.length:Int).toNat) ((⟨0,0,[]⟩:Mt):Mt)).length))] [(0,⟨3,List.map (ow eM) (List.replicate ((a0.length:Int).toNat) ((⟨0,0,[]⟩:Mt):Mt))⟩)] 1) (bL (xU 1 k2 (vE ⟨_,k,⟨k,k,(by simp only [bF,lA,lT,lR,lC,lN]),k⟩⟩ bA)) (hX ⟨_,k,k,.inr (aAb (e:=eM) (z:=(⟨0,0,[]⟩:Mt)) (zc:=[.int 0,.int 0,.nil 1]) ⟨_,_,k,k,⟨_,_,k,k,⟨_,_,k,k,k⟩⟩⟩ _)⟩ k<|bA) k4)<|sQ<|sR<|aT k2<|aH<|oB h λy5 hy5 h=>bX (body:=(jQ a0)) hy5 (λ(x1:((List Mt)×Int))=>mN [(0,.list 3 (a0.map eM)),(3,.own 0 0 x1.1.length),(4,.int x1.2)] [(0,⟨3,x1.1.map (ow eM)⟩)] 1) (λr e t=>e= .exit 0∧Ent t (mN [(3,.own 0 0 r.length)] [(0,⟨3,r.map (ow eM)⟩)] 1)) (bL (bK k2) (sU (lM.plainO _) k<|bA) k4) ?_ ?_
 ·intro x1 o h;exact sQ<|sR<|am k k<|am k k<|ln k4<|cm k4<|an<|tn<|cJ k h (λ_ h=>aG<|tn<|sQ<|aH<|rg<|am k k<|am k k<|am k k<|am k k<|oB h λv2 hv2 h=>ae (xl hv2 k) k<|lr k7<|oB h λv3 hv3 h=>ae (cM (aCa v2 v3 hv3) k3 (aN (iV k) aI)) k<|oB h λv4 hv4 h=>ae (xo hv4 k) k<|ae (zH aQ k k k k k k (qD (iK hv4)) k) k<|an<|aX<|tn<|rg<|am k k<|ae (bH k k) k<|aT k2<|sp h ⟨_,k,(Ent.trans (show Ent _ (mN [(0,.list 3 (a0.map eM)),(3,.own 0 0 ((x1.1.set x1.2.toNat v3).length)),(4,.int (wr (x1.2+1)))] [(0,⟨3,List.map (ow eM) (x1.1.set x1.2.toNat v3)⟩)] 2) from (Ent.trans (uJ (b:=0) (b':=1) (j:=2) (es':=v3.cells.map eI) (by rw [eD];exact vJ hv4) k k k k (bF _ _) (dH.frzs _)) (bL (xU 1 k2 (vE ⟨_,k,⟨k,k,(by simp only [bF,lA,lT,lR,lC,lN]),k⟩⟩ (bK k2))) (hX ⟨_,k,k,.inl ⟨aGJ v3 k,lM.plainO _⟩⟩ k<|bA) k4))) (bL (bK k2) (sU (lM.plainO _) k<|bA) k4))⟩) λ_ h=>aY<|aC<|aC<|sp h ⟨_,k,k,(bL (bK k2) (sU (lM.plainO _) k<|bA) k4)⟩
 ·rintro e t ⟨rfl,hent⟩;exact aM<|tn<|aO hent<|sR<|am k k<|aT k2<|aD<|sp h (aR k k k (nM (fK lM k k)))
def nW (a0:Rp):Option Rp:=
 (pL a0.q).bind λv1=>
 (gA a0.dims).bind λv2=>
 (kH a0.maps).bind λv3=>
 some ((⟨a0.p,v1,v2,v3⟩:Rp))
theorem xI (a0:Rp) (r:Rp) (h:nW a0=some r):HasC Tryz.prog 19 [.agg (eR a0)] (.agg (eR r)):=by
 refine hM [.cell 2 47] Tryz.func19 Tryz.ntmps19 k<|sR<|ae (wb k) k<|ae (cH aQ k k) k<|an<|tn<|sR<|ae (cH aQ k k) k<|an<|tn<|sR<|fp k8<|lp k8<|fp k8<|ae (ws k) k<|an<|tn<|sR<|fp k8<|lp k8<|oB h λv1 hv1 h=>ae (cQ (aCZ a0.q v1 hv1) k3 (aN (iV k) aI)) k<|fp k8<|ae (ws k) k<|an<|tn<|sQ ?_;exact rg<|fp k8<|lp k8<|oB h λv2 hv2 h=>ae (cL dH (lW a0.dims v2 hv2) k3 (bN k aI)) k<|fp k8<|ae (ws k) k<|an<|tn<|sR<|fp k8<|lp k8<|oB h λv3 hv3 h=>ae (cL lM (wJ a0.maps v3 hv3) k3 (bN k aI)) k<|fp k8<|ae (ws k) k<|an<|tn<|sR<|lp k8<|ae (ws k) k<|an<|tn<|aO (t:=mN [(2,.ptr 1 0 0)] [(1,⟨6,[[.int a0.p,.int v1.n,.own 3 0 v1.src.length,.own 4 0 v1.tgt.length,.own 5 0 v2.length,.own 6 0 v3.length]]⟩),(3,⟨1,v1.src.map (ow eI)⟩),(4,⟨1,v1.tgt.map (ow eI)⟩),(5,⟨1,v2.map (ow eI)⟩),(6,⟨3,v3.map (ow eM)⟩)] 7) (bL (bK k2) (nO k<|dJ k<|dJ k<|dJ k<|sU (lM.plainO _) k<|bA) k4)<|aD<|sp h (aR k k k (mA (aZ (k) (aZ (k) (aZ (fK dH k k) (aZ (fK dH k k) (aZ (fK dH k k) (aZ (fK lM k k) fH))))))))
def rR (a0:(List Int)) (a1:(List Int)) (x1:Int):Option (Int ⊕ (Unit ⊕ Bool)):=
 bif decide (x1<(a0.length:Int)) then
 ((dL a0 x1).bind λv3=>
 (dL a1 x1).bind λv4=>
 bif !decide (v3=v4) then
 (some (.inr (.inr (false))))
 else
 (some (.inl (wr (x1+1)))))
 else
 (some (.inr (.inl ())))
def hO (a0:(List Int)) (a1:(List Int)):Option Bool:=
 bif !decide ((a0.length:Int)=(a1.length:Int)) then
 (some (false))
 else
 ((Lp (rR a0 a1) 0).bind λy6=>
 Sum.elim (λy7=>
 some (true)
 )
 (λy8=>
 some y8
 )
 y6)
theorem lX (a0:(List Int)) (a1:(List Int)) (r:Bool) (h:hO a0 a1=some r):HasC Tryz.prog 40 [.list 1 (a0.map eI),.list 1 (a1.map eI)] (.bl r):=by
 refine hM [.tmp 4] Tryz.func40 Tryz.ntmps40 k<|sR<|aT k2<|sQ<|sR<|am k k<|ln k4<|am k k<|ln k4<|cm k4<|an<|tn<|cJ k h (λ_ h=>sR<|aT k2<|aD<|aB<|eJ h k2) λ_ h=>?_;refine aG<|tn<|sQ<|sR<|aT k2<|aH<|oB h λy6 hy6 h=>bX (body:=(rR a0 a1)) hy6 (λ(x1:Int)=>mN [(0,.list 1 (a0.map eI)),(1,.list 1 (a1.map eI)),(5,.int x1)] [] 0) (λr e t=>Sum.elim (λa=>(λr e t=>e= .exit 0∧Ent t (mN [] [] 0)) a e t) (λb=>(λr e t=>e= .ret∧nJ TT [.tmp 4] (.bl r) .ret t) b e t) r) (bL (bK k2) bA k4) ?_ ?_
 ·intro x1 o h;exact sQ<|sR<|am k k<|am k k<|ln k4<|cm k4<|an<|tn<|cJ k h (λ_ h=>aG<|tn<|sQ<|aH<|sQ<|aW jN<|am k k<|am k k<|oB h λv3 hv3 h=>ae (xl hv3 k) k<|lr k7<|am k k<|am k k<|oB h λv4 hv4 h=>ae (xl hv4 k) k<|lr k7<|cm k4<|an<|tU (by kernel_rfl)<|tn<|cJ k h (λ_ h=>sR<|aT k2<|aD<|aU<|aB<|aB<|sp h ⟨_,k,k,aR k k k (iY k)⟩) λ_ h=>aG<|aX<|tn<|rg<|am k k<|ae (bH k k) k<|aT k2<|sp h ⟨_,k,(bL (bK k2) bA k4)⟩) λ_ h=>aY<|aC<|aC<|sp h ⟨_,k,k,(bL bA bA k4)⟩
 ·intro e t hX;rcases y6 with y7|y8
  ·obtain ⟨rfl,hent⟩:=hX;exact aM<|tn<|aO hent<|sR<|aT k2<|aD<|eJ h k2
  ·obtain ⟨rfl,hent⟩:=hX;exact aU<|aB<|sp h hent
def pN (a0:Qv) (a1:Qv):Option Bool:=
 bif !decide (a0.n=a1.n) then
 (some (false))
 else
 ((hO a0.src a1.src).bind λv2=>
 bif !v2 then
 (some (false))
 else
 ((hO a0.tgt a1.tgt).bind λv4=>
 bif !v4 then
 (some (false))
 else
 (some (true))))
theorem aCb (a0:Qv) (a1:Qv) (r:Bool) (h:pN a0 a1=some r):HasC Tryz.prog 91 [.agg (eQ a0),.agg (eQ a1)] (.bl r):=by
 exact hM [.tmp 4] Tryz.func91 Tryz.ntmps91 k<|sR<|ae (wb k) k<|ae (wb k) k<|aT k2<|sQ<|sR<|fp k8<|lp k8<|fp k8<|lp k8<|cm k4<|an<|tn<|cJ k h (λ_ h=>sR<|aT k2<|aD<|aB<|eJ h k2) λ_ h=>aG<|tn<|sQ<|sR<|fp k8<|lp k8<|fp k8<|lp k8<|oB h λv2 hv2 h=>ae (aE (lX a0.src a1.src v2 hv2) k (bN k (bN k aI))) k<|ae (cK k) k<|an<|tn<|cJ k h (λ_ h=>sR<|aT k2<|aD<|aB<|eJ h k2) λ_ h=>aG<|tn<|sQ<|sR<|fp k8<|lp k8<|fp k8<|lp k8<|oB h λv4 hv4 h=>ae (aE (lX a0.tgt a1.tgt v4 hv4) k (bN k (bN k aI))) k<|ae (cK k) k<|an<|tn<|cJ k h (λ_ h=>sR<|aT k2<|aD<|aB<|eJ h k2) λ_ h=>aG<|tn<|sR<|aT k2<|aD<|eJ h k2
def pO (a0:Mt) (a1:Mt):Option Bool:=
 bif !decide (a0.rows=a1.rows) then
 (some (false))
 else
 (bif !decide (a0.cols=a1.cols) then
 (some (false))
 else
 ((hO a0.cells a1.cells).bind λv3=>
 bif !v3 then
 (some (false))
 else
 (some (true))))
theorem aCc (a0:Mt) (a1:Mt) (r:Bool) (h:pO a0 a1=some r):HasC Tryz.prog 132 [.agg (eM a0),.agg (eM a1)] (.bl r):=by
 exact hM [.tmp 4] Tryz.func132 Tryz.ntmps132 k<|sR<|ae (wb k) k<|ae (wb k) k<|aT k2<|sQ<|sR<|fp k8<|lp k8<|fp k8<|lp k8<|cm k4<|an<|tn<|cJ k h (λ_ h=>sR<|aT k2<|aD<|aB<|eJ h k2) λ_ h=>aG<|tn<|sQ<|sR<|fp k8<|lp k8<|fp k8<|lp k8<|cm k4<|an<|tn<|cJ k h (λ_ h=>sR<|aT k2<|aD<|aB<|eJ h k2) λ_ h=>aG<|tn<|sQ<|sR<|fp k8<|lp k8<|fp k8<|lp k8<|oB h λv3 hv3 h=>ae (aE (lX a0.cells a1.cells v3 hv3) k (bN k (bN k aI))) k<|ae (cK k) k<|an<|tn<|cJ k h (λ_ h=>sR<|aT k2<|aD<|aB<|eJ h k2) λ_ h=>aG<|tn<|sR<|aT k2<|aD<|eJ h k2
def jR (a0:(List Mt)) (a1:(List Mt)) (x1:Int):Option (Int ⊕ (Unit ⊕ Bool)):=
 bif decide (x1<(a0.length:Int)) then
 ((dL a0 x1).bind λv3=>
 (dL a1 x1).bind λv4=>
 (pO v3 v4).bind λv5=>
 bif !v5 then
 (some (.inr (.inr (false))))
 else
 (some (.inl (wr (x1+1)))))
 else
 (some (.inr (.inl ())))
def kI (a0:(List Mt)) (a1:(List Mt)):Option Bool:=
 bif !decide ((a0.length:Int)=(a1.length:Int)) then
 (some (false))
 else
 ((Lp (jR a0 a1) 0).bind λy7=>
 Sum.elim (λy8=>
 some (true)
 )
 (λy9=>
 some y9
 )
 y7)
theorem wK (a0:(List Mt)) (a1:(List Mt)) (r:Bool) (h:kI a0 a1=some r):HasC Tryz.prog 67 [.list 3 (a0.map eM),.list 3 (a1.map eM)] (.bl r):=by
 refine hM [.tmp 4] Tryz.func67 Tryz.ntmps67 k<|sR<|aT k2<|sQ<|sR<|am k k<|ln k4<|am k k<|ln k4<|cm k4<|an<|tn<|cJ k h (λ_ h=>sR<|aT k2<|aD<|aB<|eJ h k2) λ_ h=>?_;refine aG<|tn<|sQ<|sR<|aT k2<|aH<|oB h λy7 hy7 h=>bX (body:=(jR a0 a1)) hy7 (λ(x1:Int)=>mN [(0,.list 3 (a0.map eM)),(1,.list 3 (a1.map eM)),(5,.int x1)] [] 0) (λr e t=>Sum.elim (λa=>(λr e t=>e= .exit 0∧Ent t (mN [] [] 0)) a e t) (λb=>(λr e t=>e= .ret∧nJ TT [.tmp 4] (.bl r) .ret t) b e t) r) (bL (bK k2) bA k4) ?_ ?_
 ·intro x1 o h;exact sQ<|sR<|am k k<|am k k<|ln k4<|cm k4<|an<|tn<|cJ k h (λ_ h=>aG<|tn<|sQ<|aH<|sQ<|aW jN<|am k k<|am k k<|oB h λv3 hv3 h=>ae (xl hv3 k) k<|lr k7<|am k k<|am k k<|oB h λv4 hv4 h=>ae (xl hv4 k) k<|lr k7<|oB h λv5 hv5 h=>ae (aE (aCc v3 v4 v5 hv5) k (aN (iV k) (aN (iV k) aI))) k<|ae (cK k) k<|an<|tU (by kernel_rfl)<|tn<|cJ k h (λ_ h=>sR<|aT k2<|aD<|aU<|aB<|aB<|sp h ⟨_,k,k,aR k k k (iY k)⟩) λ_ h=>aG<|aX<|tn<|rg<|am k k<|ae (bH k k) k<|aT k2<|sp h ⟨_,k,(bL (bK k2) bA k4)⟩) λ_ h=>aY<|aC<|aC<|sp h ⟨_,k,k,(bL bA bA k4)⟩
 ·intro e t hX;rcases y7 with y8|y9
  ·obtain ⟨rfl,hent⟩:=hX;exact aM<|tn<|aO hent<|sR<|aT k2<|aD<|eJ h k2
  ·obtain ⟨rfl,hent⟩:=hX;exact aU<|aB<|sp h hent
def nX (a0:Rp) (a1:Rp):Option Bool:=
 bif !decide (a0.p=a1.p) then
 (some (false))
 else
 ((pN a0.q a1.q).bind λv2=>
 bif !v2 then
 (some (false))
 else
 ((hO a0.dims a1.dims).bind λv4=>
 bif !v4 then
 (some (false))
 else
 ((kI a0.maps a1.maps).bind λv6=>
 bif !v6 then
 (some (false))
 else
 (some (true)))))
theorem xJ (a0:Rp) (a1:Rp) (r:Bool) (h:nX a0 a1=some r):HasC Tryz.prog 21 [.agg (eR a0),.agg (eR a1)] (.bl r):=by
 exact hM [.tmp 4] Tryz.func21 Tryz.ntmps21 k<|sR<|ae (wb k) k<|ae (wb k) k<|aT k2<|sQ<|sR<|fp k8<|lp k8<|fp k8<|lp k8<|cm k4<|an<|tn<|cJ k h (λ_ h=>sR<|aT k2<|aD<|aB<|eJ h k2) λ_ h=>aG<|tn<|sQ<|sR<|fp k8<|lp k8<|fp k8<|lp k8<|oB h λv2 hv2 h=>ae (aE (aCb a0.q a1.q v2 hv2) k (aN (iV k) (aN (iV k) aI))) k<|ae (cK k) k<|an<|tn<|cJ k h (λ_ h=>sR<|aT k2<|aD<|aB<|eJ h k2) λ_ h=>aG<|tn<|sQ<|sR<|fp k8<|lp k8<|fp k8<|lp k8<|oB h λv4 hv4 h=>ae (aE (lX a0.dims a1.dims v4 hv4) k (bN k (bN k aI))) k<|ae (cK k) k<|an<|tn<|cJ k h (λ_ h=>sR<|aT k2<|aD<|aB<|eJ h k2) λ_ h=>aG<|tn<|sQ<|sR<|fp k8<|lp k8<|fp k8<|lp k8<|oB h λv6 hv6 h=>ae (aE (wK a0.maps a1.maps v6 hv6) k (bN k (bN k aI))) k<|ae (cK k) k<|an<|tn<|aO (t:=mN [(27,.bl (!v6))] [] 2) (bL (bK k2) bA k4)<|cJ k h (λ_ h=>sR<|aT k2<|aD<|aB<|eJ h k2) λ_ h=>aG<|tn<|sR<|aT k2<|aD<|eJ h k2
def nY (a0:(List Rp)) (x1:(Int×Int)):Option ((Int×Int) ⊕ (Int ⊕ Int)):=
 bif decide (x1.2<(a0.length:Int)) then
 ((dL a0 x1.2).bind λv3=>
 (qX v3 x1.1).bind λv4=>
 bif decide (v4<0) then
 (some (.inr (.inr ((-1)))))
 else
 (some (.inl (v4,wr (x1.2+1)))))
 else
 (some (.inr (.inl x1.1)))
def sA (a0:(List Rp)) (a1:Int):Option Int:=
 bif decide (wr (a1 - (a0.length:Int))<0) then
 (some ((-1)))
 else
 ((Lp (nY a0) (wr (a1 - (a0.length:Int)),0)).bind λy6=>
 Sum.elim (λy7=>
 some (y7)
 )
 (λy8=>
 some y8
 )
 y6)
theorem aEn (a0:(List Rp)) (a1:Int) (r:Int) (h:sA a0 a1=some r):HasC Tryz.prog 42 [.list 6 (a0.map eR),.int a1] (.int r):=by
 refine hM [.tmp 4] Tryz.func42 Tryz.ntmps42 k<|sR<|aT k2<|sR<|am k k<|am k k<|ln k4<|ae (oY k k) k<|aT k2<|sQ<|sR<|am k k<|cm k4<|an<|tn<|cJ k h (λ_ h=>sR<|aT k2<|aD<|aB<|uT h k2) λ_ h=>?_;refine aG<|tn<|sQ<|sR<|aT k2<|aH<|oB h λy6 hy6 h=>bX (body:=(nY a0)) hy6 (λ(x1:(Int×Int))=>mN [(0,.list 6 (a0.map eR)),(1,.int x1.1),(5,.int x1.2)] [] 0) (λr e t=>Sum.elim (λa=>(λr e t=>e= .exit 0∧Ent t (mN [(1,.int r)] [] 0)) a e t) (λb=>(λr e t=>e= .ret∧nJ TT [.tmp 4] (.int r) .ret t) b e t) r) (bL (bK k2) bA k4) ?_ ?_
 ·intro x1 o h;exact sQ<|sR<|am k k<|am k k<|ln k4<|cm k4<|an<|tn<|cJ k h (λ_ h=>aG<|tn<|sQ<|aH<|sR<|am k k<|am k k<|oB h λv3 hv3 h=>ae (xl hv3 k) k<|lr k7<|am k k<|oB h λv4 hv4 h=>ae (aE (xH v3 x1.1 v4 hv4) k (aN (iV k) (bN k aI))) k<|aT k2<|sR<|am k k<|cm k4<|an<|tn<|cJ k h (λ_ h=>sR<|aT k2<|aD<|aU<|aB<|aB<|sp h ⟨_,k,k,aR k k k (xC k)⟩) λ_ h=>aG<|aX<|tn<|rg<|am k k<|ae (bH k k) k<|aT k2<|sp h ⟨_,k,(bL (bK k2) bA k4)⟩) λ_ h=>aY<|aC<|aC<|sp h ⟨_,k,k,(bL (bK k2) bA k4)⟩
 ·intro e t hX;rcases y6 with y7|y8
  ·obtain ⟨rfl,hent⟩:=hX;exact aM<|tn<|aO hent<|sR<|am k k<|aT k2<|aD<|uT h k2
  ·obtain ⟨rfl,hent⟩:=hX;exact aU<|aB<|sp h hent
def nZ (a0:(List Rp)) (x1:((List Rp)×Int)):Option (((List Rp)×Int) ⊕ (List Rp)):=
 bif decide (x1.2<(a0.length:Int)) then
 ((dL a0 x1.2).bind λv2=>
 (nW v2).bind λv3=>
 (dL x1.1 x1.2).bind λv4=>
 some (.inl ((x1.1.set x1.2.toNat v3),wr (x1.2+1))))
 else
 (some (.inr x1.1))
def sB (a0:(List Rp)):Option (List Rp):=
 bif (decide (0≤(a0.length:Int))&&decide ((a0.length:Int)≤1048576)) then
 ((Lp (nZ a0) ((List.replicate ((a0.length:Int).toNat) ((⟨0,(⟨0,[],[]⟩:Qv),[],[]⟩:Rp):Rp)),0)).bind λy5=>
 some (y5))
 else none
theorem aEo (a0:(List Rp)) (r:(List Rp)) (h:sB a0=some r):HasC Tryz.prog 53 [.list 6 (a0.map eR)] (.list 6 (r.map eR)):=by
 refine hM [.tmp 2] Tryz.func53 Tryz.ntmps53 k<|sR<|aT k2<|sR<|am k k<|ln k4<|cG h λq6 h=>ae (xF aQ q6 k k k k k k k k) k<|aT k2<|aO (t:=mN [(0,.list 6 (a0.map eR)),(3,.own 0 0 ((List.replicate ((a0.length:Int).toNat) ((⟨0,(⟨0,[],[]⟩:Qv),[],[]⟩:Rp):Rp)).length))] [(0,⟨6,List.map (ow eR) (List.replicate ((a0.length:Int).toNat) ((⟨0,(⟨0,[],[]⟩:Qv),[],[]⟩:Rp):Rp))⟩)] 1) (bL (xU 1 k2 (vE ⟨_,k,⟨k,k,(by simp only [bF,lA,lT,lR,lC,lN]),k⟩⟩ bA)) (hX ⟨_,k,k,.inr (aAb (e:=eR) (z:=(⟨0,(⟨0,[],[]⟩:Qv),[],[]⟩:Rp)) (zc:=[.int 0,.int 0,.nil 1,.nil 1,.nil 1,.nil 3]) ⟨_,_,k,k,⟨_,_,k,k,⟨_,_,k,k,⟨_,_,k,k,⟨_,_,k,k,⟨_,_,k,k,k⟩⟩⟩⟩⟩⟩ _)⟩ k<|bA) k4)<|sQ<|sR<|aT k2<|aH<|oB h λy5 hy5 h=>bX (body:=(nZ a0)) hy5 (λ(x1:((List Rp)×Int))=>mN [(0,.list 6 (a0.map eR)),(3,.own 0 0 x1.1.length),(4,.int x1.2)] [(0,⟨6,x1.1.map (ow eR)⟩)] 1) (λr e t=>e= .exit 0∧Ent t (mN [(3,.own 0 0 r.length)] [(0,⟨6,r.map (ow eR)⟩)] 1)) (bL (bK k2) (sU (aAW.plainO _) k<|bA) k4) ?_ ?_
 ·intro x1 o h;refine sQ<|sR<|am k k<|am k k<|ln k4<|cm k4<|an<|tn<|cJ k h (λ_ h=>?_) λ_ h=>aY<|aC<|aC<|sp h ⟨_,k,k,(bL (bK k2) (sU (aAW.plainO _) k<|bA) k4)⟩;exact aG<|tn<|sQ<|aH<|rg<|am k k<|am k k<|am k k<|am k k<|oB h λv2 hv2 h=>ae (xl hv2 k) k<|lr k7<|oB h λv3 hv3 h=>ae (cR (xI v2 v3 hv3) k3 (aN (iV k) aI)) k<|oB h λv4 hv4 h=>ae (xo hv4 k) k<|ae (zH aQ k k k k k k (qD (iK hv4)) k) k<|an<|aX<|tn<|rg<|am k k<|ae (bH k k) k<|aT k2<|sp h ⟨_,k,(Ent.trans (show Ent _ (mN [(0,.list 6 (a0.map eR)),(3,.own 0 0 ((x1.1.set x1.2.toNat v3).length)),(4,.int (wr (x1.2+1)))] [(0,⟨6,List.map (ow eR) (x1.1.set x1.2.toNat v3)⟩)] 5) from (Ent.trans (uJ (b:=0) (b':=1) (j:=2) (es':=v3.q.src.map eI) (by rw [eD];exact vJ hv4) k k k k (bF _ _) (dH.frzs _)) (Ent.trans (uJ (b:=0) (b':=2) (j:=3) (es':=v3.q.tgt.map eI) (by rw [eD];exact vJ hv4) k k k k (bF _ _) (dH.frzs _)) (Ent.trans (uJ (b:=0) (b':=3) (j:=4) (es':=v3.dims.map eI) (by rw [eD];exact vJ hv4) k k k k (bF _ _) (dH.frzs _)) (Ent.trans (uJ (b:=0) (b':=4) (j:=5) (es':=v3.maps.map eM) (by rw [eD];exact vJ hv4) k k k k (bF _ _) (lM.frzs _)) (bL (xU 1 k2 (vE ⟨_,k,⟨k,k,(by simp only [bF,lA,lT,lR,lC,lN]),k⟩⟩ (bK k2))) (hX ⟨_,k,k,.inl ⟨aGJ v3 k,aAW.plainO _⟩⟩ k<|bA) k4)))))) (bL (bK k2) (sU (aAW.plainO _) k<|bA) k4))⟩
 ·rintro e t ⟨rfl,hent⟩;exact aM<|tn<|aO hent<|sR<|am k k<|aT k2<|aD<|sp h (aR k k k (nM (fK aAW k k)))
def oA (a0:(List Rp)) (a1:(List Rp)) (x1:Int):Option (Int ⊕ (Unit ⊕ Bool)):=
 bif decide (x1<(a0.length:Int)) then
 ((dL a0 x1).bind λv3=>
 (dL a1 x1).bind λv4=>
 (nX v3 v4).bind λv5=>
 bif !v5 then
 (some (.inr (.inr (false))))
 else
 (some (.inl (wr (x1+1)))))
 else
 (some (.inr (.inl ())))
def sC (a0:(List Rp)) (a1:(List Rp)):Option Bool:=
 bif !decide ((a0.length:Int)=(a1.length:Int)) then
 (some (false))
 else
 ((Lp (oA a0 a1) 0).bind λy7=>
 Sum.elim (λy8=>
 some (true)
 )
 (λy9=>
 some y9
 )
 y7)
theorem aEp (a0:(List Rp)) (a1:(List Rp)) (r:Bool) (h:sC a0 a1=some r):HasC Tryz.prog 66 [.list 6 (a0.map eR),.list 6 (a1.map eR)] (.bl r):=by
 refine hM [.tmp 4] Tryz.func66 Tryz.ntmps66 k<|sR<|aT k2<|sQ<|sR<|am k k<|ln k4<|am k k<|ln k4<|cm k4<|an<|tn<|cJ k h (λ_ h=>sR<|aT k2<|aD<|aB<|eJ h k2) λ_ h=>?_;refine aG<|tn<|sQ<|sR<|aT k2<|aH<|oB h λy7 hy7 h=>bX (body:=(oA a0 a1)) hy7 (λ(x1:Int)=>mN [(0,.list 6 (a0.map eR)),(1,.list 6 (a1.map eR)),(5,.int x1)] [] 0) (λr e t=>Sum.elim (λa=>(λr e t=>e= .exit 0∧Ent t (mN [] [] 0)) a e t) (λb=>(λr e t=>e= .ret∧nJ TT [.tmp 4] (.bl r) .ret t) b e t) r) (bL (bK k2) bA k4) ?_ ?_
 ·intro x1 o h;exact sQ<|sR<|am k k<|am k k<|ln k4<|cm k4<|an<|tn<|cJ k h (λ_ h=>aG<|tn<|sQ<|aH<|sQ<|aW jN<|am k k<|am k k<|oB h λv3 hv3 h=>ae (xl hv3 k) k<|lr k7<|am k k<|am k k<|oB h λv4 hv4 h=>ae (xl hv4 k) k<|lr k7<|oB h λv5 hv5 h=>ae (aE (xJ v3 v4 v5 hv5) k (aN (iV k) (aN (iV k) aI))) k<|ae (cK k) k<|an<|tU (by kernel_rfl)<|tn<|cJ k h (λ_ h=>sR<|aT k2<|aD<|aU<|aB<|aB<|sp h ⟨_,k,k,aR k k k (iY k)⟩) λ_ h=>aG<|aX<|tn<|rg<|am k k<|ae (bH k k) k<|aT k2<|sp h ⟨_,k,(bL (bK k2) bA k4)⟩) λ_ h=>aY<|aC<|aC<|sp h ⟨_,k,k,(bL bA bA k4)⟩
 ·intro e t hX;rcases y7 with y8|y9
  ·obtain ⟨rfl,hent⟩:=hX;exact aM<|tn<|aO hent<|sR<|aT k2<|aD<|eJ h k2
  ·obtain ⟨rfl,hent⟩:=hX;exact aU<|aB<|sp h hent
end
noncomputable section
def zI (n:Nat) (left:Int):Int:=if left - n<0 then -1 else left - n
def zC:List (Int→Int)→Int→Int
 | [],left=>left
 |f::fs,left=>if f left<0 then -1 else zC fs (f left)
def zS {α:Type} (f:α→Int→Int) (l:List α) (left:Int):Int:=if left - l.length<0 then -1 else zC (l.map f) (left - l.length)
def zQ (q:Qv):Int→Int:=zC [zI q.src.length,zI q.tgt.length]
def zM (m:Mt):Int→Int:=zC [zI m.cells.length]
def zR (r:Rp):Int→Int:=zC [zQ r.q,zI r.dims.length,zS zM r.maps]
def aKK (l:List Int):Int→Int:=zI l.length
def zSc (s:Sc):Int→Int:=zC [zS aKK s.basis]
def zB (l:List Br):Int→Int:=zI l.length
def zCl (c:Cl):Int→Int:=zC [zR c.rep,zR c.other,zS zR c.parts,zS zM c.maps,zB c.bars,zI c.theta.length,zS zSc c.subs]
def rM (f:Int→Int) (b:Prop):Prop:= ∀ left,0≤left→left≤1048576→f left= -1∨(0≤f left∧f left≤left∧b)
theorem pP (n:Nat):rM (zI n) (n≤1048576):=by
 intro left h0 h1;unfold zI;by_cases h:left - n<0
 ·rw [aV h];exact .inl rfl
 ·rw [aS h];exact .inr ⟨by omega,by omega,by omega⟩
theorem wL:rM (zC []) True:=λleft h0 _=> .inr ⟨h0,Int.le_refl _,trivial⟩
theorem eV {f:Int→Int} {fs:List (Int→Int)} {b bs:Prop} (h:rM f b) (k:rM (zC fs) bs):rM (zC (f::fs)) (b∧bs):=by
 intro left h0 h1;unfold zC;rcases h left h0 h1 with e|⟨e1,e2,e3⟩
 ·rw [e,aV (by decide)];exact .inl rfl
 ·rw [aS (by omega)];rcases k (f left) e1 (by omega) with g|⟨g1,g2,g3⟩
  ·exact .inl g
  ·exact .inr ⟨g1,by omega,e3,g3⟩
theorem aFf {α:Type} {f:α→Int→Int} {b:α→Prop} (h: ∀ x,rM (f x) (b x)): ∀ l:List α,rM (zC (l.map f)) (∀ x∈l,b x)
 | []=>λleft h0 _=> .inr ⟨h0,Int.le_refl _,by simp⟩
 |x::l=>λleft h0 h1=>by
  rcases eV (h x) (aFf h l) left h0 h1 with e|⟨e1,e2,e3,e4⟩
  ·exact .inl e
  ·exact .inr ⟨e1,e2,λy hy=>by rcases dU.1 hy with rfl|h';exact e3;exact e4 y h'⟩
theorem sD {α:Type} {f:α→Int→Int} {b:α→Prop} (h: ∀ x,rM (f x) (b x)) (l:List α):rM (zS f l) (l.length≤1048576∧ ∀ x∈l,b x):=by
 intro left h0 h1;unfold zS;by_cases e:left - l.length<0
 ·rw [aV e];exact .inl rfl
 ·rw [aS e];rcases aFf h l (left - l.length) (by omega) (by omega) with g|⟨g1,g2,g3⟩
  ·exact .inl g
  ·exact .inr ⟨g1,by omega,by omega,g3⟩
def bI (l:List Int):Prop:=l.length≤1048576
def bQ (q:Qv):Prop:=bI q.src∧bI q.tgt∧True
def bM (m:Mt):Prop:=bI m.cells∧True
def bR (r:Rp):Prop:=bQ r.q∧bI r.dims∧(r.maps.length≤1048576∧ ∀ m∈r.maps,bM m)∧True
def bS (s:Sc):Prop:=(s.basis.length≤1048576∧ ∀ v∈s.basis,bI v)∧True
def bC (c:Cl):Prop:=bR c.rep∧bR c.other∧(c.parts.length≤1048576∧ ∀ r∈c.parts,bR r)∧(c.maps.length≤1048576∧ ∀ m∈c.maps,bM m)∧c.bars.length≤1048576∧bI c.theta∧(c.subs.length≤1048576∧ ∀ s∈c.subs,bS s)∧True
theorem aJO (q:Qv):rM (zQ q) (bQ q):=eV (pP _) (eV (pP _) wL)
theorem aBN (m:Mt):rM (zM m) (bM m):=eV (pP _) wL
theorem xK (r:Rp):rM (zR r) (bR r):=eV (aJO _) (eV (pP _) (eV (sD aBN _) wL))
theorem aBr (l:List Int):rM (aKK l) (bI l):=pP _
theorem aEC (s:Sc):rM (zSc s) (bS s):=eV (sD aBr _) wL
theorem aJP (l:List Br):rM (zB l) (l.length≤1048576):=pP _
theorem aLS (c:Cl):rM (zCl c) (bC c):=eV (xK _) (eV (xK _) (eV (sD xK _) (eV (sD aBN _) (eV (aJP _) (eV (pP _) (eV (sD aEC _) wL))))))
def fI {α:Type} (l:List α):Prop:=l.length≤9223372036854775807
theorem mP {o:Option Int} {z:Int→Int} {zs:List (Int→Int)} {b:Prop} {left:Int} {k:Int→Option Int} (ho:o=some (z left)) (hf:rM z b) (h0:0≤left) (h1:left≤1048576) (hk: ∀ v,0≤v→v≤1048576→k v=some (zC zs v)):
  Option.bind o (λv=>bif decide (v<0) then some (-1) else k v)=some (zC (z::zs) left):=by
 rw [ho,aA];unfold zC;rcases hf left h0 h1 with e|⟨e1,e2,_⟩
 ·rw [e];rfl
 ·rw [aS (by omega),bU (by omega: ¬ z left<0),aP];exact hk _ e1 (by omega)
theorem aDB {α:Type} {body:Int×Int→Option ((Int×Int) ⊕ (Int ⊕ Int))} {f:α→Int→Int} {b:α→Prop} {l:List α} (hf: ∀ x,rM (f x) (b x)) (hl:l.length≤1048576)
  (hs: ∀ (v:Int) (k:Nat) (hk:k<l.length),0≤v→v≤1048576→body (v,k)=some (bif decide (f l[k] v<0) then .inr (.inr (-1)) else .inl (f l[k] v,wr (k+1)))) (he: ∀ v,body (v,l.length)=some (.inr (.inl v))) (v:Int) (h0:0≤v) (h1:v≤1048576):
  Option.bind (Lp body (v,0)) (λy=>Sum.elim (λy=>some y) (λy=>some y) y)=some (zC (l.map f) v):=by
 have key: ∀ d k:Nat,k+d=l.length→ ∀ v:Int,0≤v→v≤1048576→Option.bind (Lp body (v,(k:Int))) (λy=>Sum.elim (λy=>some y) (λy=>some y) y)=some (zC ((l.drop k).map f) v):=by
  intro d;induction d with
  |zero=>
   intro k hk v _ _;rw [Nat.add_zero] at hk;subst hk;rw [fY (he v)];simp [zC]
  |succ d ih=>
   intro k hk v h0 h1;have h:=hs v k (by omega) h0 h1;rw [List.drop_eq_getElem_cons (by omega:k<l.length),List.map_cons];unfold zC;rcases hf l[k] v h0 h1 with e|⟨e1,e2,_⟩
   ·rw [e] at h ⊢;rw [fY (r:= .inr (-1)) (by rw [h];rfl)];rfl
   ·rw [aS (by omega)];rw [bU (by omega: ¬ f l[k] v<0),aP,bW (n:=l.length) (by omega) (by omega)] at h;rw [pC h];exact ih (k+1) (by omega) _ e1 (by omega)
 have:=key l.length 0 (by omega) v h0 h1;simpa using this
theorem aKL {l:List Int} {left:Int} (hl:fI l) (h0:0≤left) (h1:left≤1048576):fB l left=some (zI l.length left):=by
 unfold fI at hl;unfold fB zI;rw [aDg (by omega)];by_cases h:left - l.length<0
 ·rw [bB h,aV h];rfl
 ·rw [bU h,aS h];rfl
def fQ (q:Qv):Prop:=fI q.src∧fI q.tgt
theorem aOt {q:Qv} {left:Int} (hl:fQ q) (h0:0≤left) (h1:left≤1048576):tK q left=some (zQ q left):=
 mP (aKL hl.1 h0 h1) (pP _) h0 h1 λv g0 g1=>mP (aKL hl.2 g0 g1) (pP _) g0 g1 λv _ _=>rfl
def fM (m:Mt):Prop:=fI m.cells
theorem aOu {m:Mt} {left:Int} (hl:fM m) (h0:0≤left) (h1:left≤1048576):tL m left=some (zM m left):=
 mP (aKL hl h0 h1) (pP _) h0 h1 λv _ _=>rfl
def fMs (l:List Mt):Prop:=fI l∧ ∀ m∈l,fM m
theorem aMw {l:List Mt} {left:Int} (hl:fMs l) (h0:0≤left) (h1:left≤1048576):kG l left=some (zS zM l left):=by
 obtain ⟨ha,hb⟩:=hl;unfold fI at ha;unfold kG zS;rw [aDg (by omega)];by_cases h:left - l.length<0
 ·rw [bB h,aV h];rfl
 ·rw [bU h,aS h,aP];refine aDB (f:=zM) aBN (by omega) (λv k hk g0 g1=>?_) (λv=>?_) _ (by omega) (by omega)
  ·unfold jP;simp only;rw [iL hk,aL,bP hk,aA,aOu (hb _ (List.getElem_mem hk)) g0 g1,aA];cases decide (zM l[k] v<0) <;> rfl
  ·unfold jP;simp only;rw [kR (bG _),aP]
def fR (r:Rp):Prop:=fQ r.q∧fI r.dims∧fMs r.maps
theorem aNS {r:Rp} {left:Int} (hl:fR r) (h0:0≤left) (h1:left≤1048576):qX r left=some (zR r left):=
 mP (aOt hl.1 h0 h1) (aJO _) h0 h1 λv g0 g1=>mP (aKL hl.2.1 g0 g1) (pP _) g0 g1 λv g2 g3=>mP (aMw hl.2.2 g2 g3) (sD aBN _) g2 g3 λv _ _=>rfl
def fRs (l:List Rp):Prop:=fI l∧ ∀ r∈l,fR r
theorem aOG {l:List Rp} {left:Int} (hl:fRs l) (h0:0≤left) (h1:left≤1048576):sA l left=some (zS zR l left):=by
 obtain ⟨ha,hb⟩:=hl;unfold fI at ha;unfold sA zS;rw [aDg (by omega)];by_cases h:left - l.length<0
 ·rw [bB h,aV h];rfl
 ·rw [bU h,aS h,aP];refine aDB (f:=zR) xK (by omega) (λv k hk g0 g1=>?_) (λv=>?_) _ (by omega) (by omega)
  ·unfold nY;simp only;rw [iL hk,aL,bP hk,aA,aNS (hb _ (List.getElem_mem hk)) g0 g1,aA];cases decide (zR l[k] v<0) <;> rfl
  ·unfold nY;simp only;rw [kR (bG _),aP]
theorem uC {α:Type} {body:List α×Int→Option ((List α×Int) ⊕ List α)} {l:List α} (z:α) (hl:l.length≤4611686018427387904)
  (hs: ∀ (k:Nat) (hk:k<l.length) (r:List α),r.length=l.length→body (r,k)=some (.inl (r.set k l[k],wr (k+1)))) (he: ∀ r,body (r,l.length)=some (.inr r)):Lp body (List.replicate ((l.length:Int).toNat) z,0)=some l:=by
 refine aLC (λk=>(l.take k++List.replicate (l.length - k) z,(k:Int))) l.length (by simp) (λk hk=>?_) ?_
 ·rw [hs k hk _ (by simp;omega),bW hk hl];congr 3;rw [show l.length - k=(l.length - (k+1))+1 by omega,List.replicate_succ,List.set_append_right _ _ (by simp;omega)];rw [uV hk,List.length_take,Nat.min_eq_left (Nat.le_of_lt hk),Nat.sub_self,List.set_cons_zero,List.append_assoc];rfl
 ·rw [he];simp
theorem aKM {l:List Int} (h:bI l):gA l=some l:=by
 unfold bI at h;unfold gA;rw [bB (by omega),bB (by omega:(l.length:Int)≤1048576),Bool.and_self,aL];rw [uC 0 (by omega) (λk hk r hr=>?_) (λr=>?_)];rfl
 ·unfold nV;simp only;rw [iL hk,aL,bP hk,aA,bP (hr▸hk),aA,eA]
 ·unfold nV;simp only;rw [kR (bG _),aP]
theorem aOw {q:Qv} (h:bQ q):pL q=some q:=by
 unfold pL;rw [aKM h.1,aA,aKM h.2.1,aA]
theorem aOx {m:Mt} (h:bM m):pM m=some m:=by
 unfold pM;rw [aKM h.1,aA]
theorem aMx {l:List Mt} (h:l.length≤1048576∧ ∀ m∈l,bM m):kH l=some l:=by
 obtain ⟨h,hb⟩:=h;unfold kH;rw [bB (by omega),bB (by omega:(l.length:Int)≤1048576),Bool.and_self,aL];rw [uC _ (by omega) (λk hk r hr=>?_) (λr=>?_)];rfl
 ·unfold jQ;simp only;rw [iL hk,aL,bP hk,aA,aOx (hb _ (List.getElem_mem hk)),aA,bP (hr▸hk),aA,eA]
 ·unfold jQ;simp only;rw [kR (bG _),aP]
theorem aNT {r:Rp} (h:bR r):nW r=some r:=by
 unfold nW;rw [aOw h.1,aA,aKM h.2.1,aA,aMx h.2.2.1,aA]
theorem aOH {l:List Rp} (h:l.length≤1048576∧ ∀ m∈l,bR m):sB l=some l:=by
 obtain ⟨h,hb⟩:=h;unfold sB;rw [bB (by omega),bB (by omega:(l.length:Int)≤1048576),Bool.and_self,aL];rw [uC _ (by omega) (λk hk r hr=>?_) (λr=>?_)];rfl
 ·unfold nZ;simp only;rw [iL hk,aL,bP hk,aA,aNT (hb _ (List.getElem_mem hk)),aA,bP (hr▸hk),aA,eA]
 ·unfold nZ;simp only;rw [kR (bG _),aP]
theorem uL {α:Type} [DecidableEq α] {body:Int→Option (Int ⊕ (Unit ⊕ Bool))} {a b:List α} (hl:a.length≤4611686018427387904) (hab:a.length=b.length)
  (hs: ∀ (k:Nat) (h1:k<a.length) (h2:k<b.length),body k=some (bif decide (a[k]=b[k]) then .inl (wr (k+1)) else .inr (.inr false))) (he:body a.length=some (.inr (.inl ()))):
  Option.bind (Lp body 0) (λy=>Sum.elim (λ_=>some true) (λy=>some y) y)=some (decide (a=b)):=by
 have key: ∀ (P:Nat→Bool),(∀ (k:Nat) (h1:k<a.length) (h2:k<b.length),P k=decide (a[k]=b[k]))→Lp body 0=some (bif (List.range a.length).all P then .inl () else .inr false)→Option.bind (Lp body 0) (λy=>Sum.elim (λ_=>some true) (λy=>some y) y)=some (decide (a=b)):=by
  intro P hP e;rw [e,aA]
  have:(List.range a.length).all P=decide (a=b):=by
   rw [Bool.eq_iff_iff,rO,iR];constructor
   ·intro h;refine List.ext_getElem hab λk h1 h2=>?_;have:=h k h1;rw [hP k h1 h2] at this;exact of_decide_eq_true this
   ·rintro rfl k hk;rw [hP k hk hk];simp
  rw [this];cases decide (a=b) <;> rfl
 refine key (λk=>if h:k<a.length then if h2:k<b.length then decide (a[k]=b[k]) else false else false) (λk h1 h2=>by rw [dif_pos h1,dif_pos h2]) (tG _ _ hl (λk hk=>?_) (λ_=>he));rw [dif_pos hk,dif_pos (hab▸hk)];exact hs k hk (hab▸hk)
theorem sY {α β:Type} {a:List α} {b:List β} :decide ((a.length:Int)=(b.length:Int))=decide (a.length=b.length):=by
 rw [Bool.eq_iff_iff,iR,iR];omega
theorem aJQ {body:Int→Option (Int ⊕ (Unit ⊕ Bool))} {a b:List Int} (hl:a.length≤4611686018427387904)
  (hb:body=λx=>bif decide (x<(a.length:Int)) then (Option.bind (dL a x) λv3=>Option.bind (dL b x) λv4=>bif !decide (v3=v4) then (some (.inr (.inr (false)))) else (some (.inl (wr (x+1))))) else (some (.inr (.inl ())))):
  (bif !decide ((a.length:Int)=(b.length:Int)) then some false else Option.bind (Lp body 0) (λy=>Sum.elim (λ_=>some true) (λy=>some y) y))=some (decide (a=b)):=by
 rw [sY];by_cases h:a.length=b.length
 ·rw [bB h,dP,aP];refine uL hl h (λk h1 h2=>?_) ?_
  ·rw [hb];simp only;rw [iL h1,aL,bP h1,aA,bP h2,aA];cases decide (a[k]=b[k]) <;> rfl
  ·rw [hb];simp only;rw [kR (bG _),aP]
 ·rw [bU h,Bool.not_false,aL,bU (by rintro rfl;exact h rfl)]
theorem eX {c d:Bool} {o:Option Bool} (h:c=true→o=some d):(bif !c then some false else o)=some (c&&d):=by cases c with|false=>rfl|true=>exact h rfl
theorem aKN {a b:List Int} (h:bI a):hO a b=some (decide (a=b)):=by
 unfold bI at h;exact aJQ (body:=rR a b) (by omega) rfl
theorem aDC {d:Bool} :(bif !d then some false else some true)=some d:=by cases d <;> rfl
theorem aOy {a b:Qv} (h:bQ a):pN a b=some (decide (a=b)):=by
 unfold pN;rw [eX (d:=decide (a.src=b.src)&&decide (a.tgt=b.tgt)) (λ_=>?_)]
 ·cases a;cases b;simp [Bool.and_assoc]
 ·rw [aKN h.1,aA];refine eX λ_=>?_;rw [aKN h.2.1,aA,aDC]
theorem aOz {a b:Mt} (h:bM a):pO a b=some (decide (a=b)):=by
 unfold pO;rw [eX (d:=decide (a.cols=b.cols)&&decide (a.cells=b.cells)) (λ_=>?_)]
 ·cases a;cases b;simp [Bool.and_assoc]
 ·refine eX λ_=>?_;rw [aKN h.1,aA,aDC]
theorem aMy {a b:List Mt} (h:a.length≤1048576∧ ∀ m∈a,bM m):kI a b=some (decide (a=b)):=by
 obtain ⟨h,hb⟩:=h;unfold kI;rw [sY];by_cases e:a.length=b.length
 ·rw [bB e,dP,aP];refine uL (by omega) e (λk h1 h2=>?_) ?_
  ·unfold jR;rw [iL h1,aL,bP h1,aA,bP h2,aA,aOz (hb _ (List.getElem_mem h1)),aA];cases decide (a[k]=b[k]) <;> rfl
  ·unfold jR;rw [kR (bG _),aP]
 ·rw [bU e,Bool.not_false,aL,bU (by rintro rfl;exact e rfl)]
theorem aNU {a b:Rp} (h:bR a):nX a b=some (decide (a=b)):=by
 unfold nX;rw [eX (d:=decide (a.q=b.q)&&(decide (a.dims=b.dims)&&decide (a.maps=b.maps))) (λ_=>?_)]
 ·cases a;cases b;simp [Bool.and_assoc]
 ·rw [aOy h.1,aA];refine eX λ_=>?_;rw [aKN h.2.1,aA];refine eX λ_=>?_;rw [aMy h.2.2.1,aA,aDC]
theorem aOI {a b:List Rp} (h:a.length≤1048576∧ ∀ m∈a,bR m):sC a b=some (decide (a=b)):=by
 obtain ⟨h,hb⟩:=h;unfold sC;rw [sY];by_cases e:a.length=b.length
 ·rw [bB e,dP,aP];refine uL (by omega) e (λk h1 h2=>?_) ?_
  ·unfold oA;rw [iL h1,aL,bP h1,aA,bP h2,aA,aNU (hb _ (List.getElem_mem h1)),aA];cases decide (a[k]=b[k]) <;> rfl
  ·unfold oA;rw [kR (bG _),aP]
 ·rw [bU e,Bool.not_false,aL,bU (by rintro rfl;exact e rfl)]
end
noncomputable section
open Go.ChangeShapes Go.WideShapes Go.ChangeAt Go.RowKit
theorem oI:oO Tryz.prog 3 (rP 1 eI):=aIY Tryz.underlying3
theorem oL:oO Tryz.prog 22 (rP 1 eL):=nN Tryz.underlying22 (by decide) (by kernel_rfl) oI
theorem oQ:oO Tryz.prog 33 (rP 3 eQ):=by
 intro H enc w fuel cs d ps h hf;obtain ⟨x0,T0,u0⟩:=dG Tryz.underlying33 h hf wC (i:=0) (ft:=3) rfl (k:=1) (by kernel_rfl) oI;obtain ⟨x1,T1,u1⟩:=dG Tryz.underlying33 h hf u0 (i:=1) (ft:=22) rfl (k:=1) (by kernel_rfl) oL;obtain ⟨x2,T2,u2⟩:=dG Tryz.underlying33 h hf u1 (i:=2) (ft:=22) rfl (k:=1) (by kernel_rfl) oL;exact ⟨⟨x0,x1,x2⟩,_,wD Tryz.underlying33 h hf u2 (by kernel_rfl) _ rfl⟩
theorem oM:oO Tryz.prog 125 (rP 3 eM):=by
 intro H enc w fuel cs d ps h hf;obtain ⟨x0,T0,u0⟩:=dG Tryz.underlying125 h hf wC (i:=0) (ft:=3) rfl (k:=1) (by kernel_rfl) oI;obtain ⟨x1,T1,u1⟩:=dG Tryz.underlying125 h hf u0 (i:=1) (ft:=3) rfl (k:=1) (by kernel_rfl) oI;obtain ⟨x2,T2,u2⟩:=dG Tryz.underlying125 h hf u1 (i:=2) (ft:=22) rfl (k:=1) (by kernel_rfl) oL;exact ⟨⟨x0,x1,x2⟩,_,wD Tryz.underlying125 h hf u2 (by kernel_rfl) _ rfl⟩
theorem oMs:oO Tryz.prog 34 (rP 1 (λl:List Mt=>[.list 3 (l.map eM)])):=nN Tryz.underlying34 (by decide) (by kernel_rfl) oM
theorem oR:oO Tryz.prog 36 (rP 6 eR):=by
 intro H enc w fuel cs d ps h hf;obtain ⟨x0,T0,u0⟩:=dG Tryz.underlying36 h hf wC (i:=0) (ft:=3) rfl (k:=1) (by kernel_rfl) oI;obtain ⟨x1,T1,u1⟩:=dG Tryz.underlying36 h hf u0 (i:=1) (ft:=33) rfl (k:=3) (by kernel_rfl) oQ;obtain ⟨x2,T2,u2⟩:=dG Tryz.underlying36 h hf u1 (i:=2) (ft:=22) rfl (k:=1) (by kernel_rfl) oL;obtain ⟨x3,T3,u3⟩:=dG Tryz.underlying36 h hf u2 (i:=3) (ft:=34) rfl (k:=1) (by kernel_rfl) oMs;exact ⟨⟨x0,x1,x2,x3⟩,_,wD Tryz.underlying36 h hf u3 (by kernel_rfl) _ rfl⟩
theorem oRs:oO Tryz.prog 37 (rP 1 (λl:List Rp=>[.list 6 (l.map eR)])):=nN Tryz.underlying37 (by decide) (by kernel_rfl) oR
theorem aOJ:oO Tryz.prog 23 (rP 1 (λl:List (List Int)=>[.list 1 (l.map eL)])):=nN Tryz.underlying23 (by decide) (by kernel_rfl) oL
theorem oS:oO Tryz.prog 128 (rP 2 eS):=by
 intro H enc w fuel cs d ps h hf;obtain ⟨x0,T0,u0⟩:=dG Tryz.underlying128 h hf wC (i:=0) (ft:=3) rfl (k:=1) (by kernel_rfl) oI;obtain ⟨x1,T1,u1⟩:=dG Tryz.underlying128 h hf u0 (i:=1) (ft:=23) rfl (k:=1) (by kernel_rfl) aOJ;exact ⟨⟨x0,x1⟩,_,wD Tryz.underlying128 h hf u1 (by kernel_rfl) _ rfl⟩
theorem oSs:oO Tryz.prog 39 (rP 1 (λl:List Sc=>[.list 2 (l.map eS)])):=nN Tryz.underlying39 (by decide) (by kernel_rfl) oS
theorem oBr:oO Tryz.prog 137 (rP 3 eB):=by
 intro H enc w fuel cs d ps h hf;obtain ⟨x0,T0,u0⟩:=dG Tryz.underlying137 h hf wC (i:=0) (ft:=3) rfl (k:=1) (by kernel_rfl) oI;obtain ⟨x1,T1,u1⟩:=dG Tryz.underlying137 h hf u0 (i:=1) (ft:=3) rfl (k:=1) (by kernel_rfl) oI;obtain ⟨x2,T2,u2⟩:=dG Tryz.underlying137 h hf u1 (i:=2) (ft:=3) rfl (k:=1) (by kernel_rfl) oI;exact ⟨⟨x0,x1,x2⟩,_,wD Tryz.underlying137 h hf u2 (by kernel_rfl) _ rfl⟩
theorem oBs:oO Tryz.prog 38 (rP 1 (λl:List Br=>[.list 3 (l.map eB)])):=nN Tryz.underlying38 (by decide) (by kernel_rfl) oBr
theorem aHa:oO Tryz.prog 41 (rP 18 eC):=by
 intro H enc w fuel cs d ps h hf;obtain ⟨x0,T0,u0⟩:=dG Tryz.underlying41 h hf wC (i:=0) (ft:=3) rfl (k:=1) (by kernel_rfl) oI;obtain ⟨x1,T1,u1⟩:=dG Tryz.underlying41 h hf u0 (i:=1) (ft:=36) rfl (k:=6) (by kernel_rfl) oR;obtain ⟨x2,T2,u2⟩:=dG Tryz.underlying41 h hf u1 (i:=2) (ft:=36) rfl (k:=6) (by kernel_rfl) oR;obtain ⟨x3,T3,u3⟩:=dG Tryz.underlying41 h hf u2 (i:=3) (ft:=37) rfl (k:=1) (by kernel_rfl) oRs;obtain ⟨x4,T4,u4⟩:=dG Tryz.underlying41 h hf u3 (i:=4) (ft:=34) rfl (k:=1) (by kernel_rfl) oMs;obtain ⟨x5,T5,u5⟩:=dG Tryz.underlying41 h hf u4 (i:=5) (ft:=38) rfl (k:=1) (by kernel_rfl) oBs;obtain ⟨x6,T6,u6⟩:=dG Tryz.underlying41 h hf u5 (i:=6) (ft:=22) rfl (k:=1) (by kernel_rfl) oL;obtain ⟨x7,T7,u7⟩:=dG Tryz.underlying41 h hf u6 (i:=7) (ft:=39) rfl (k:=1) (by kernel_rfl) oSs;exact ⟨⟨x0,x1,x2,x3,x4,x5,x6,x7⟩,_,wD Tryz.underlying41 h hf u7 (by kernel_rfl) _ rfl⟩
end
noncomputable section
theorem aJR {w:World} : ∀ {ds:List AV} {vs:List Value} {S:List Nat},RepVs w ds vs S→ ∀ d∈ds,∃ v S',RepD w d v S'
 | [],_,_,_,d,hd=>by cases hd
 |c::cs,vs,S,h,d,hd=>by
  simp only [RepVs] at h;obtain ⟨v,r,S1,S2,_,_,h3,h4⟩:=h;rcases dU.1 hd with rfl|h'
  ·exact ⟨v,S1,h3⟩
  ·exact aJR h4 d h'
theorem aJS {w:World} {b:Nat} : ∀ {ds:List AV} {o:Nat} {S:List Nat},RepCs w b o ds S→ ∀ d∈ds,∃ v S',RepD w d v S'
 | [],_,_,_,d,hd=>by cases hd
 |c::cs,o,S,h,d,hd=>by
  simp only [RepCs] at h;obtain ⟨v,S1,S2,_,_,_,_,h3,h4⟩:=h;rcases dU.1 hd with rfl|h'
  ·exact ⟨v,S1,h3⟩
  ·exact aJS h4 d h'
theorem aJT {w:World} {k b:Nat} : ∀ {es:List (List AV)} {o:Nat} {S:List Nat},RepEs w k b o es S→ ∀ cs∈es,∀ d∈cs,∃ v S',RepD w d v S'
 | [],_,_,_,cs,hc=>by cases hc
 |c::es,o,S,h,cs,hc=>by
  simp only [RepEs] at h;obtain ⟨S1,S2,_,_,h3,h4⟩:=h;rcases dU.1 hc with rfl|h'
  ·exact aJS h3
  ·exact aJT h4 cs h'
theorem aJU {w:World} {k:Nat} {es:List (List AV)} {v:Value} {S:List Nat} (h:RepD w (.list k es) v S):es.length≤9223372036854775807∧ ∀ cs∈es,∀ d∈cs,∃ v S',RepD w d v S':=by
 unfold RepD at h;obtain ⟨a,c,_,h2,h3,h4⟩:=h;have hm:maxLen≤9223372036854775807:=by decide
 refine ⟨by omega,?_⟩;rcases h4 with ⟨rfl,_⟩|⟨b,o,T,_,_,_,h5⟩
 ·intro cs hcs;cases hcs
 ·exact aJT h5
theorem aMz {w:World} {l:List Int} {v:Value} {S:List Nat} (h:RepD w (yG l) v S):fI l:=by
 have:=(aJU (k:=1) (es:=List.map eI l) h).1
 rwa [eD] at this
theorem aED {w:World} {ds:List AV} (h: ∀ d∈ds,∃ v S',RepD w d v S') {l:List Int} (hl:yG l∈ds):fI l:=by
 obtain ⟨v,S,h⟩:=h _ hl;exact aMz h
theorem yP {w:World} {ds:List AV} (h: ∀ d∈ds,∃ v S',RepD w d v S') {α:Type} {k:Nat} {e:α→List AV} {l:List α} (hl:AV.list k (l.map e)∈ds):fI l∧ ∀ x∈l,∀ d∈e x,∃ v S',RepD w d v S':=by
 obtain ⟨v,S,h⟩:=h _ hl;have:=aJU h;rw [eD] at this;exact ⟨this.1,λx hx=>this.2 _ (List.mem_map.2 ⟨x,hx,rfl⟩)⟩
theorem aOK {w:World} {m:Mt} (h: ∀ d∈eM m,∃ v S',RepD w d v S'):fM m:=aED h (by simp [eM])
theorem aLT {w:World} {l:List Mt} {ds:List AV} (h: ∀ d∈ds,∃ v S',RepD w d v S') (hl:AV.list 3 (l.map eM)∈ds):fMs l:=by
 obtain ⟨h1,h2⟩:=yP h hl;exact ⟨h1,λm hm=>aOK (h2 m hm)⟩
theorem aLU {w:World} {r:Rp} (h: ∀ d∈eR r,∃ v S',RepD w d v S'):fR r:=⟨⟨aED h (by simp [eR]),aED h (by simp [eR])⟩,aED h (by simp [eR]),aLT h (by simp [eR])⟩
theorem aNV {w:World} {l:List Rp} {ds:List AV} (h: ∀ d∈ds,∃ v S',RepD w d v S') (hl:AV.list 6 (l.map eR)∈ds):fRs l:=by
 obtain ⟨h1,h2⟩:=yP h hl;exact ⟨h1,λm hm=>aLU (h2 m hm)⟩
theorem aLV {w0 w:World} {v:Value} {S:List Nat} (h:aIF w (.bl true) v S):Ending.returned v= .returned (.bool true):=by rw [h.1]
end
noncomputable section
def sN (f:Nat→Int):Nat→Int
 |0=>0
 |k+1=>sN f k+f k
theorem nE {f g:Nat→Int} : ∀ {n:Nat},(∀ k,k<n→f k=g k)→sN f n=sN g n
 |0,_=>rfl
 |n+1,h=>by rw [sN,sN,nE λk hk=>h k (by omega),h n (by omega)]
theorem aId (f g:Nat→Int): ∀ n,sN (λk=>f k+g k) n=sN f n+sN g n
 |0=>rfl
 |n+1=>by rw [sN,sN,sN,aId f g n];omega
theorem aIe (c:Int) (f:Nat→Int): ∀ n,sN (λk=>c*f k) n=c*sN f n
 |0=>by simp [sN]
 |n+1=>by rw [sN,sN,aIe c f n,Int.mul_add]
theorem xM: ∀ n,sN (λ_=>0) n=0
 |0=>rfl
 |n+1=>by rw [sN,xM n];rfl
theorem aBs {f:Nat→Int} {j:Nat} : ∀ {n:Nat},j<n→(∀ k,k<n→k≠j→f k=0)→sN f n=f j
 |0,h,_=>absurd h (Nat.not_lt_zero _)
 |n+1,h,hz=>by
  rw [sN];by_cases e:j=n
  ·subst e;rw [nE (g:=λ_=>0) λk hk=>hz k (by omega) (by omega),xM];omega
  ·rw [aBs (j:=j) (by omega) λk hk hj=>hz k (by omega) hj,hz n (by omega) (by omega)];omega
def Z0 (p x:Int):Prop:=x % p=0
theorem aLW {p x y:Int} (h:Z0 p x) (k:Z0 p y):Z0 p (x+y):=by unfold Z0 at*;rw [Int.add_emod,h,k];simp
theorem aEE {p x:Int} (c:Int) (h:Z0 p x):Z0 p (c*x):=by unfold Z0 at*;rw [Int.mul_emod,h];simp
theorem aNA {p:Int} {f g:Nat→Int} : ∀ {n:Nat},(∀ k,k<n→f k % p=g k % p)→sN f n % p=sN g n % p
 |0,_=>rfl
 |n+1,h=>by rw [sN,sN,Int.add_emod,aNA λk hk=>h k (by omega),h n (by omega),←Int.add_emod]
theorem aLX {p x y:Int} (h:x % p=y % p) (k:Z0 p x):Z0 p y:=by unfold Z0 at*;rw [←h];exact k
def dt (n:Nat) (f x:Nat→Int):Int:=sN (λk=>f k*x k) n
def Kr (p:Int) (m n:Nat) (F:Nat→Nat→Int) (x:Nat→Int):Prop:= ∀ i,i<m→Z0 p (dt n (F i) x)
theorem aGN {p:Int} {n:Nat} {f g x:Nat→Int} (h: ∀ k,k<n→f k % p=g k % p):dt n f x % p=dt n g x % p:=by
 unfold dt;refine aNA λk hk=>?_;rw [Int.mul_emod,h k hk,←Int.mul_emod]
theorem aLY {n:Nat} {f g x:Nat→Int} (c:Int):dt n (λk=>f k+c*g k) x=dt n f x+c*dt n g x:=by
 unfold dt;rw [←aIe,←aId];refine nE λk hk=>?_;rw [Int.add_mul,Int.mul_assoc]
theorem aJV {n:Nat} {f x:Nat→Int} (c:Int):dt n (λk=>c*f k) x=c*dt n f x:=by
 unfold dt;rw [←aIe];refine nE λk hk=>?_;rw [Int.mul_assoc]
theorem aLZ {p:Int} (hp:jO p=true) {m n k r j:Nat} (hj:j<n) (hk:k<m) (hr:r<m) {F:Nat→Nat→Int} (hin:xD p m n F) (hrj:F r j≠0) (x:Nat→Int):Kr p m n (dR p F k r j) x↔Kr p m n F x:=by
 have hb:=eP hp;have hrb:=hin r j hr hj;have hiv:=aLF hp (r:=F r j) ⟨by omega,by omega⟩;generalize hs:vY p (F r j)=s at*;have hrow: ∀ c,dR p F k r j k c=(F r c*s) % p:=by intro c;simp [dR,rL,nC,qI,hs]
 have hoth: ∀ i c,i≠k→dR p F k r j i c=((if i=r then F k c else F i c) - (if i=r then F k j else F i j)*dR p F k r j k c) % p:=by
  intro i c hi;simp [dR,rL,nC,qI,hi,hs]
 have e1:dt n (dR p F k r j k) x % p=(s*dt n (F r) x) % p:=by
  rw [←aJV];refine aGN λc hc=>?_;rw [hrow,Int.mul_comm,Int.emod_emod_of_dvd _ (Int.dvd_refl p)]
 have e2:dt n (F r) x % p=(F r j*dt n (dR p F k r j k) x) % p:=by
  rw [←aJV];refine aGN λc hc=>?_;rw [hrow,Int.mul_emod,Int.emod_emod_of_dvd _ (Int.dvd_refl p),←Int.mul_emod,show F r j*(F r c*s)=(F r j*s)*F r c by rw [Int.mul_comm (F r c),Int.mul_assoc],Int.mul_emod,hiv.2.2];simp
 have e3: ∀ i,i≠k→ ∀ G:Nat→Int,(∀ c,G c=if i=r then F k c else F i c)→dt n (dR p F k r j i) x % p=(dt n G x+ -(G j)*dt n (dR p F k r j k) x) % p:=by
  intro i hi G hG;rw [←aLY];refine aGN λc hc=>?_;rw [hoth i c hi,Int.emod_emod_of_dvd _ (Int.dvd_refl p),←hG,←hG,Int.neg_mul,Int.sub_eq_add_neg]
 constructor
 ·intro h;have hkk:=h k hk;have hrr:Z0 p (dt n (F r) x):=by unfold Z0;rw [e2];exact aEE _ hkk
  have key: ∀ i,i<m→i≠k→Z0 p (dt n (λc=>if i=r then F k c else F i c) x):=by
   intro i hi hik;have h1:=h i hi;unfold Z0 at h1;rw [e3 i hik (λc=>if i=r then F k c else F i c) (λc=>rfl)] at h1;have h2:=aLW (y:=(if i=r then F k j else F i j)*dt n (dR p F k r j k) x) h1 (aEE _ hkk);refine aLX (congrArg (· % p) ?_) h2;rw [Int.neg_mul];omega
  intro i hi;by_cases e:i=r
  ·subst e;exact hrr
  ·by_cases e4:i=k
   ·subst e4;have:=key r hr (λh=>e h.symm);simpa using this
   ·have:=key i hi e4;simpa [e] using this
 ·intro h;have hkk:Z0 p (dt n (dR p F k r j k) x):=by unfold Z0;rw [e1];exact aEE _ (h r hr)
  intro i hi;by_cases e:i=k
  ·subst e;exact hkk
  ·unfold Z0;rw [e3 i e (λc=>if i=r then F k c else F i c) (λc=>rfl)];refine aLW ?_ (aEE _ hkk);by_cases e4:i=r
   ·simp only [e4,if_true];exact h k hk
   ·simp only [e4,if_false];exact h i hi
theorem aBO {p:Int} (hp:jO p=true) {m n:Nat} {F:Nat→Nat→Int} (hin:xD p m n F) (x:Nat→Int): ∀ t,t≤n→(Kr p m n (bZ p m F t).1 x↔Kr p m n F x)
 |0,_=>Iff.rfl
 |t+1,ht=>by
  have ih:=aBO hp hin x t (by omega);have hin2:=oX (by have:=eP hp;omega:0<p) hin t;have hlen:= @qJ p m F t;show Kr p m n (fD p m (bZ p m F t) t).1 x↔_;unfold fD;split
  ·exact ih
  ·rename_i h1;have hle:= @uI (bZ p m F t).1 t (m - (bZ p m F t).2.length) (bZ p m F t).2.length;have hh:= @zK (bZ p m F t).1 t (m - (bZ p m F t).2.length) (bZ p m F t).2.length (by omega);refine Iff.trans ?_ ih;exact aLZ hp (by omega) (by omega) (by omega) hin2 hh x
def kx (F:Nat→Nat→Int) (L:List Nat) (k:Nat):Nat→Int:=λc=>if c=k then 1 else -(sN (λi=>if L[i]?.getD 0=c then F i k else 0) L.length)
theorem aHb {m n:Nat} {F:Nat→Nat→Int} {L:List Nat} (h:Red m n F L) {k:Nat} (hk:k<n) (hL: ∀ i,i<L.length→L[i]?.getD 0≠k) (g:Nat→Int):dt n g (kx F L k)=g k - sN (λi=>g (L[i]?.getD 0)*F i k) L.length:=by
 have key: ∀ a,a≤L.length→sN (λc=>g c*(if c=k then 1 else -(sN (λi=>if L[i]?.getD 0=c then F i k else 0) a))) n=g k - sN (λi=>g (L[i]?.getD 0)*F i k) a:=by
  intro a;induction a with
  |zero=>
   intro _;rw [aBs (j:=k) hk]
   ·rw [aV rfl];simp [sN]
   ·intro c hc hck;rw [aS hck];simp [sN]
  |succ a ih=>
   intro ha;have ih:=ih (by omega);have hlt:=h.lt a (by omega);have hne:=hL a (by omega)
   have e:sN (λc=>g c*(if c=k then 1 else -(sN (λi=>if L[i]?.getD 0=c then F i k else 0) (a+1)))) n
     =sN (λc=>g c*(if c=k then 1 else -(sN (λi=>if L[i]?.getD 0=c then F i k else 0) a))+(if c=L[a]?.getD 0 then -(g c*F a k) else 0)) n:=by
    refine nE λc hc=>?_;by_cases e1:c=k
    ·rw [aV e1,aV e1,aS (by omega)];omega
    ·rw [aS e1,aS e1];simp only [sN];by_cases e2:c=L[a]?.getD 0
     ·rw [aV e2,aV e2.symm,Int.neg_add,Int.mul_add,Int.mul_neg (g c) (F a k)]
     ·rw [aS e2,aS (λh=>e2 h.symm)];simp
   rw [e,aId,ih,aBs (j:=L[a]?.getD 0) hlt (λc _ hc=>aS hc),aV rfl];simp only [sN];omega
 have:=key L.length (bG _);exact this
theorem aGO {p:Int} {m n:Nat} {F:Nat→Nat→Int} {L:List Nat} (h:Red m n F L) {k:Nat} (hk:k<n) (hL: ∀ i,i<L.length→L[i]?.getD 0≠k):Kr p m n F (kx F L k):=by
 intro i hi;rw [aHb h hk hL];rcases eN i L.length with hl|hl
 ·rw [aBs (j:=i) hl]
  ·rw [h.one i hl];unfold Z0;rw [Int.one_mul,Int.sub_self];simp
  ·intro t ht hti;rw [h.col t i ht hi (λe=>hti e.symm)];simp
 ·rw [h.low i k hl hi hk,nE (g:=λ_=>0) λt ht=>by rw [h.low i _ hl hi (h.lt t ht)];simp];rw [xM];unfold Z0;simp
theorem aGP {p:Int} (hp:jO p=true) {m m' n:Nat} {F G:Nat→Nat→Int} {L M:List Nat} (hF:Red m n F L) (hG:Red m' n G M) (hK: ∀ x,Kr p m n F x→Kr p m' n G x) {t:Nat} (ht:t<M.length): ∃ i,i<L.length∧L[i]?.getD 0=M[t]?.getD 0:=by
 have hb:=eP hp;refine Classical.byContradiction λhn=>?_;have hL: ∀ i,i<L.length→L[i]?.getD 0≠M[t]?.getD 0:=λi hi e=>hn ⟨i,hi,e⟩;have hk:=hG.lt t ht;have h1:=hK _ (aGO (p:=p) hF hk hL) t (by have:=hG.len;omega);rw [aHb hF hk hL,hG.one t ht,nE (g:=λ_=>0) λi hi=>?_,xM] at h1
 ·unfold Z0 at h1;rw [Int.sub_zero,Int.emod_eq_of_lt (by omega) (by omega)] at h1;cases h1
 ·rcases eN (L[i]?.getD 0) (M[t]?.getD 0) with e|e
  ·rw [hG.left t _ ht e];simp
  ·have:=hL i hi;rw [hF.left i _ hi (by omega)];simp
theorem aFg: ∀ {L M:List Nat},(∀ i k,i<k→k<L.length→L[i]?.getD 0<L[k]?.getD 0)→(∀ i k,i<k→k<M.length→M[i]?.getD 0<M[k]?.getD 0)→(∀ i,i<L.length→ ∃ j,j<M.length∧M[j]?.getD 0=L[i]?.getD 0)→(∀ j,j<M.length→ ∃ i,i<L.length∧L[i]?.getD 0=M[j]?.getD 0)→L=M
 | [],[],_,_,_,_=>rfl
 | [],y::M,_,_,_,h=>by obtain ⟨i,hi,_⟩:=h 0 (by simp);simp at hi
 |x::L,[],_,_,h,_=>by obtain ⟨i,hi,_⟩:=h 0 (by simp);simp at hi
 |x::L,y::M,hL,hM,h1,h2=>by
  have sL: ∀ i k,i<k→k<L.length→L[i]?.getD 0<L[k]?.getD 0:=λi k hik hk=>by have:=hL (i+1) (k+1) (by omega) (by simp;omega);simpa using this
  have sM: ∀ i k,i<k→k<M.length→M[i]?.getD 0<M[k]?.getD 0:=λi k hik hk=>by have:=hM (i+1) (k+1) (by omega) (by simp;omega);simpa using this
  have xL: ∀ i,i<L.length→x<L[i]?.getD 0:=λi hi=>by have:=hL 0 (i+1) (by omega) (by simp;omega);simpa using this
  have yM: ∀ i,i<M.length→y<M[i]?.getD 0:=λi hi=>by have:=hM 0 (i+1) (by omega) (by simp;omega);simpa using this
  have exy:x=y:=by
   obtain ⟨j,hj,e1⟩:=h1 0 (by simp);obtain ⟨i,hi,e2⟩:=h2 0 (by simp);simp at e1 e2
   have b1:y≤x:=by
    cases j with
    |zero=>simp at e1;omega
    |succ j=>simp at e1 hj;have:=yM j hj;omega
   have b2:x≤y:=by
    cases i with
    |zero=>simp at e2;omega
    |succ i=>simp at e2 hi;have:=xL i hi;omega
   omega
  subst exy;congr 1;refine aFg sL sM (λi hi=>?_) (λj hj=>?_)
  ·obtain ⟨j,hj,e⟩:=h1 (i+1) (by simp;omega);simp at e;have:=xL i hi;cases j with
   |zero=>simp at e;omega
   |succ j=>simp at e hj;exact ⟨j,hj,e⟩
  ·obtain ⟨i,hi,e⟩:=h2 (j+1) (by simp;omega);simp at e;have:=yM j hj;cases i with
   |zero=>simp at e;omega
   |succ i=>simp at e hi;exact ⟨i,hi,e⟩
theorem aIf {p:Int} (hp:jO p=true) {m m' n:Nat} {F G:Nat→Nat→Int} {L M:List Nat} (hF:Red m n F L) (hG:Red m' n G M) (iF:xD p m n F) (iG:xD p m' n G) (hK: ∀ x,Kr p m n F x↔Kr p m' n G x):L=M∧ ∀ i j,i<L.length→j<n→F i j=G i j:=by
 have e:L=M:=aFg hF.inc hG.inc (λi hi=>aGP hp hG hF (λx=>(hK x).2) hi) (λj hj=>aGP hp hF hG (λx=>(hK x).1) hj);subst e;refine ⟨rfl,λi k hi hk=>?_⟩;have hm:=hF.len;have hm':=hG.len;by_cases hL: ∃ t,t<L.length∧L[t]?.getD 0=k
 ·obtain ⟨t,ht,rfl⟩:=hL;by_cases e:i=t
  ·subst e;rw [hF.one i hi,hG.one i hi]
  ·rw [hF.col t i ht (by omega) e,hG.col t i ht (by omega) e]
 ·have hL: ∀ t,t<L.length→L[t]?.getD 0≠k:=λt ht e=>hL ⟨t,ht,e⟩;have h1:=(hK _).1 (aGO (p:=p) hF hk hL) i (by omega);rw [aHb hF hk hL,aBs (j:=i) hi (λt ht hti=>by rw [hG.col t i ht (by omega) (λe=>hti e.symm)];simp),hG.one i hi,Int.one_mul] at h1;unfold Z0 at h1;have b1:=iF i k (by omega) hk;have b2:=iG i k (by omega) hk;have hd:=Int.dvd_of_emod_eq_zero h1;obtain ⟨c,hc⟩:=hd
  have hc0:c=0:=by
   rcases Int.lt_trichotomy c 0 with h|h|h
   ·have:=Int.mul_le_mul_of_nonneg_left (show c≤ -1 by omega) (by omega:0≤p);omega
   ·exact h
   ·have:=Int.mul_le_mul_of_nonneg_left (show 1≤c by omega) (by omega:0≤p);omega
  subst hc0;simp at hc;omega
theorem aGQ {p:Int} (hp:jO p=true) {m m' n:Nat} {F G:Nat→Nat→Int} (iF:xD p m n F) (iG:xD p m' n G) (hK: ∀ x,Kr p m n F x↔Kr p m' n G x):(bZ p m F n).2=(bZ p m' G n).2∧ ∀ i j,i<(bZ p m F n).2.length→j<n→(bZ p m F n).1 i j=(bZ p m' G n).1 i j:=by
 have hb:=eP hp;refine aIf hp (aBk hp iF n (bG _)) (aBk hp iG n (bG _)) (oX (by omega) iF n) (oX (by omega) iG n) λx=>?_;rw [aBO hp iF x n (bG _),hK,aBO hp iG x n (bG _)]
end
noncomputable section
theorem iN {c d:Bool} {o:Option Bool} (h:c=true→o=some d):(bif c then o else some false)=some (c&&d):=by cases c with|false=>rfl|true=>exact h rfl
theorem uM {c d:Bool} :(bif c then some d else some false)=some (c&&d):=by cases c <;> rfl
theorem aJW {x a b:Int} :(bif decide (a≤x) then some (decide (x≤b)) else some false)=some (sS x a b):=by
 rw [uM];unfold sS;by_cases h1:a≤x <;> by_cases h2:x≤b <;> simp [h1,h2]
theorem sZ (x a b:Int):fA x a b=some (sS x a b):=aJW
theorem uN (x a b:Int):gC x a b=some (sS x a b):=aJW
theorem aHc (p:Int):(bif decide (p=2) then some true else bif decide (p=3) then some true else some (decide (p=5)))=some (jO p):=by
 unfold jO;by_cases h2:p=2 <;> by_cases h3:p=3 <;> by_cases h5:p=5 <;> simp [h2,h3,h5]
theorem aDD (p:Int):kC p=some (jO p):=aHc p
theorem zP (p:Int):gD p=some (jO p):=aHc p
theorem aKO {a b:List Int} (h:bI a):kB a b=some (decide (a=b)):=by
 unfold bI at h;exact aJQ (body:=iB a b) (by omega) rfl
theorem aBt (p:Int) {v:List Int} (h:bI v):iW p v=some (jO p&&decide (v.length≤64)&&v.all λx=>sS x 0 (wr (p - 1))):=by
 unfold bI at h;unfold iW;rw [aDD,aA];cases jO p with
 |false=>rfl
 |true=>
  rw [dP,aP,Bool.true_and];by_cases h64:v.length≤64
  ·rw [bU (by omega),aP,bB h64,Bool.true_and];rw [tG (λk=>sS (v[k]?.getD 0) 0 (wr (p - 1))) false (n:=v.length) (by omega) (λk hk=>?_) (λ_=>?_),vZ 0 v (λx=>sS x 0 (wr (p - 1))),aA]
   ·cases v.all _ <;> rfl
   ·unfold kW;rw [iL hk,aL,tS 0 hk,aA,uN,aA];cases sS _ 0 _ <;> rfl
   ·unfold kW;rw [kR (bG _),aP]
  ·rw [bB (by omega),aL,bU h64,Bool.false_and]
theorem aHd {v:List Int} {f:Int→Option Bool} (P:Int→Bool) (hf: ∀ x,f x=some (P x)) (h:bI v): ∃ i:Int,cW v f=some i∧decide (0≤i)=v.any P:=by
 unfold bI at h;unfold cW;rw [aBi (s0:=0) (s:=0) (n:=v.length) (λk=>bif P (v[k]?.getD 0) then some (k:Int) else none) rfl (by omega) (Nat.zero_le _) (λk _ hk=>?_) (λ_=>?_)]
 ·rw [aA];cases e:(List.range' 0 (v.length - 0)).findSome? (λk:Nat=>bif P (v[k]?.getD 0) then some (k:Int) else none) with
  |none=>
   refine ⟨-1,rfl,?_⟩;rw [List.findSome?_eq_none_iff] at e
   have:v.any P=false:=by
    rw [List.any_eq_false];intro x hx;obtain ⟨k,hk,rfl⟩:=List.mem_iff_getElem.1 hx;have:=e k (by simp;omega);simp only [xS hk,sO] at this;cases hp:P v[k] with
    |false=>simp
    |true=>rw [hp] at this;cases this
   rw [this];rfl
  |some i=>
   refine ⟨i,rfl,?_⟩;obtain ⟨k,hk,he⟩:=List.exists_of_findSome?_eq_some e;simp at hk;have hkl:k<v.length:=by omega
   rw [xS hkl] at he;simp only [sO] at he;cases hp:P v[k] with
   |false=>rw [hp] at he;cases he
   |true=>
    rw [hp] at he;cases he;rw [bB (by omega),eq_comm,List.any_eq_true];exact ⟨_,List.getElem_mem hkl,hp⟩
 ·unfold bY;rw [iL hk,aL,tS 0 hk,aA,hf,aA];cases P _ <;> rfl
 ·unfold bY;rw [kR (bG _),aP]
theorem vF {v:List Int} (h:bI v) (a b:Int):fV v a b=some (v.all λx=>sS x a b):=by
 unfold fV fU;obtain ⟨i,h1,h2⟩:=aHd (f:=λb0=>iE b0 a b) (λx=> !sS x a b) (λx=>by simp only [iE];rw [sZ,aA]) h;rw [h1,aA,aA,h2,List.not_any_eq_all_not];simp
theorem aFh (p:Int) {v:List Int} (h:bI v):lP p v=some (jO p&&decide (v.length≤64)&&v.all λx=>sS x 0 (wr (p - 1))):=by
 unfold lP;rw [zP,aA,vF h,aA,uM,uM,Bool.and_assoc];congr 3;rw [Bool.eq_iff_iff,iR,iR];omega
def wM (p:Int) (m:Mt):Bool:=sS m.rows 0 8&&(sS m.cols 0 8&&(decide ((m.cells.length:Int)=wr (m.rows*m.cols))&&(jO p&&decide (m.cells.length≤64)&&m.cells.all λx=>sS x 0 (wr (p - 1)))))
theorem zT (p:Int) {m:Mt} (h:bM m):gN p m=some (wM p m):=by
 unfold gN wM;rw [uN,aA];refine iN λ_=>?_;rw [uN,aA];refine iN λ_=>?_;refine iN λ_=>?_;rw [aBt p h.1,aA]
theorem aFi (p:Int) {m:Mt} (h:bM m):lQ p m=some (wM p m):=by
 unfold lQ wM;rw [sZ,aA];refine iN λ_=>?_;rw [sZ,aA];refine iN λ_=>?_;refine iN λ_=>?_;rw [aFh p h.1,aA]
theorem xN {p:Int} {m:Mt} (h:wM p m=true):jO p=true∧ ∃ (r c:Nat) (F:Nat→Nat→Int),r≤8∧c≤8∧m=⟨r,c,bT r c F⟩∧ ∀ i j,i<r→j<c→0≤F i j∧F i j<p:=by
 unfold wM at h;simp only [cV,iR,List.all_eq_true] at h;obtain ⟨h1,h2,h3,⟨h4,h5⟩,h6⟩:=h;have h1:=kA h1;have h2:=kA h2;refine ⟨h4,m.rows.toNat,m.cols.toNat,λi j=>m.cells[i*m.cols.toNat+j]?.getD 0,by omega,by omega,?_,?_⟩
 ·obtain ⟨a,b,l⟩:=m;simp only at*;obtain ⟨r,rfl⟩:=Int.eq_ofNat_of_zero_le h1.1;obtain ⟨c,rfl⟩:=Int.eq_ofNat_of_zero_le h2.1;have hb:r*c≤64:=Nat.mul_le_mul (by omega:r≤8) (by omega:c≤8);rw [aIP (by omega)] at h3;simp only [eA];rw [←aMW (by omega)]
 ·intro i j hi hj;show 0≤m.cells[i*m.cols.toNat+j]?.getD 0∧m.cells[i*m.cols.toNat+j]?.getD 0<p;have hx:=aJL hi hj
  have e:((m.rows.toNat*m.cols.toNat:Nat):Int)=m.rows*m.cols:=by
   rw [Int.natCast_mul,Int.toNat_of_nonneg h1.1,Int.toNat_of_nonneg h2.1]
  have hb:m.rows.toNat*m.cols.toNat≤64:=Nat.mul_le_mul (by omega:m.rows.toNat≤8) (by omega:m.cols.toNat≤8);rw [fX (by omega)] at h3;have hl:i*m.cols.toNat+j<m.cells.length:=by omega
  have:=kA (h6 _ (List.getElem_mem hl));rw [xS hl,sO];have hp:=eP h4;rw [fX (by omega)] at this;omega
def vG (q:Qv):Bool:=sS q.n 1 5&&(decide ((q.src.length:Int)=(q.tgt.length:Int))&&(decide ((q.src.length:Int)≤6)&&((q.src.all λx=>sS x 0 (wr (q.n - 1)))&&(q.tgt.all λx=>sS x 0 (wr (q.n - 1))))))
theorem aJX {q:Qv} (h:bQ q):lS q=some (vG q):=by
 unfold lS vG;rw [sZ,aA];refine iN λ_=>iN λ_=>iN λ_=>?_;rw [vF h.1,aA];refine iN λ_=>?_;rw [vF h.2.1,aA]
theorem aJY {q:Qv} (h:bQ q):lO q=some (vG q):=by
 obtain ⟨h1,h2,_⟩:=h;unfold bI at h1 h2;unfold lO;rw [tG (n:=min q.src.length q.tgt.length) (λk=>sS (q.src[k]?.getD 0) 0 (wr (q.n - 1))&&sS (q.tgt[k]?.getD 0) 0 (wr (q.n - 1))) false (by omega) (λk hk=>?_) (λ_=>?_)]
 ·rw [aA];unfold vG;by_cases e:q.src.length=q.tgt.length
  ·have e2:min q.src.length q.tgt.length=q.src.length:=by omega
   have hall:(List.range q.src.length).all (λk=>sS (q.src[k]?.getD 0) 0 (wr (q.n - 1))&&sS (q.tgt[k]?.getD 0) 0 (wr (q.n - 1)))=((q.src.all λx=>sS x 0 (wr (q.n - 1)))&&(q.tgt.all λx=>sS x 0 (wr (q.n - 1)))):=by
    rw [←vZ 0 q.src,←vZ 0 q.tgt,←e];rw [Bool.eq_iff_iff,cV,rO,rO,rO];simp only [cV];exact ⟨λh=>⟨λk hk=>(h k hk).1,λk hk=>(h k hk).2⟩,λh k hk=>⟨h.1 k hk,h.2 k hk⟩⟩
   rw [e2,hall,bB (by omega:(q.src.length:Int)=(q.tgt.length:Int))];cases (q.src.all λx=>sS x 0 (wr (q.n - 1)))&&(q.tgt.all λx=>sS x 0 (wr (q.n - 1))) with
   |false=>simp
   |true=>
    simp only [aL,Sum.elim_inl];rw [uN,aA,bB (by omega:(q.tgt.length:Int)=(q.src.length:Int)),uM,uM];simp
  ·rw [bU (by omega: ¬ (q.src.length:Int)=(q.tgt.length:Int))];simp only [Bool.false_and,Bool.and_false];cases (List.range (min q.src.length q.tgt.length)).all _ with
   |false=>rfl
   |true=>
    simp only [aL,Sum.elim_inl];rw [uN,aA,bU (by omega: ¬ (q.tgt.length:Int)=(q.src.length:Int)),uM,uM];simp
 ·unfold kV;rw [iL (by omega),aL,iL (by omega),aL,tS 0 (by omega),aA,uN,aA,tS 0 (by omega),aA,uN,aA];cases sS (q.src[k]?.getD 0) 0 (wr (q.n - 1)) <;> cases sS (q.tgt[k]?.getD 0) 0 (wr (q.n - 1)) <;> rfl
 ·unfold kV;by_cases e:q.src.length≤q.tgt.length
  ·rw [kR (by omega),aP]
  ·rw [iL (by omega),aL,kR (by omega),aP]
theorem nF {q:Qv} (h:vG q=true): ∃ n:Nat,q.n=n∧1≤n∧n≤5∧q.src.length=q.tgt.length∧q.src.length≤6∧(∀ x∈q.src,0≤x∧x<n)∧ ∀ x∈q.tgt,0≤x∧x<n:=by
 unfold vG at h;simp only [cV,iR,List.all_eq_true] at h;obtain ⟨h1,h2,h3,h4,h5⟩:=h;have h1:=kA h1;rw [fX (by omega)] at h4 h5;refine ⟨q.n.toNat,by omega,by omega,by omega,by omega,by omega,λx hx=>?_,λx hx=>?_⟩
 ·have:=kA (h4 x hx);omega
 ·have:=kA (h5 x hx);omega
def aCO (q:Qv) (d:List Int):Bool:=vG q&&(decide ((d.length:Int)=q.n)&&((d.all λx=>sS x 0 4)&&decide (d.sum≤8)))
theorem aLa {d:List Int} (h: ∀ x∈d,0≤x∧x≤4):0≤d.sum∧d.sum≤4*d.length:=by
 induction d with
 |nil=>simp
 |cons x d ih=>
  have h1:=h x (by simp);have h2:=ih λy hy=>h y (by simp [hy]);simp only [List.sum_cons,List.length_cons];omega
theorem aHe {d:List Int} {k:Nat} (hk:k<d.length):(d.take (k+1)).sum=(d.take k).sum +d[k]?.getD 0:=by
 rw [uV hk,List.sum_append];simp [hk]
theorem aMe {d:List Int} (h: ∀ x∈d,0≤x∧x≤4) (hl:d.length≤1048576):tW d=some d.sum:=by
 unfold tW;rw [dQ (r:=d.sum) (λk=>((d.take k).sum,(k:Int))) d.length (by simp) (λk hk=>?_) (λ_=>?_)];rfl
 ·unfold pD;simp only;rw [iL hk,aL,tS 0 hk,aA,bW hk (by omega)];have h1:=aLa (d:=d.take (k+1)) λx hx=>h x (List.mem_of_mem_take hx);rw [←aHe hk,fX (by simp at h1;omega)]
 ·unfold pD;simp only;rw [kR (bG _),aP,List.take_length]
theorem aIg {q:Qv} {d:List Int} (hq:bQ q) (hd:bI d):qV q d=some (aCO q d):=by
 unfold qV aCO;rw [aJX hq,aA];refine iN λ_=>iN λ_=>?_;rw [vF hd,aA];refine iN λh=>?_;rw [aMe (λx hx=>kA (List.all_eq_true.1 h x hx)) hd,aA]
theorem aIh {q:Qv} {d:List Int} (hq:bQ q) (hd:bI d):qU q d=some (aCO q d):=by
 unfold bI at hd;unfold qU aCO;rw [aJY hq,aA];refine eX λ_=>eX λ_=>?_;cases hall:d.all (λx=>sS x 0 4) with
 |true=>
  have hb: ∀ x∈d,0≤x∧x≤4:=λx hx=>kA (List.all_eq_true.1 hall x hx);rw [dQ (r:= .inl d.sum) (λk=>((d.take k).sum,(k:Int))) d.length (by simp) (λk hk=>?_) (λ_=>?_)];rfl
  ·unfold gL;simp only;rw [iL hk,aL,tS 0 hk,aA,uN,aA];have hin:sS (d[k]?.getD 0) 0 4=true:=by rw [xS hk];exact List.all_eq_true.1 hall _ (List.getElem_mem hk)
   rw [hin,dP,aP,aA,bW hk (by omega)];have h1:=aLa (d:=d.take (k+1)) λx hx=>hb x (List.mem_of_mem_take hx);rw [←aHe hk,fX (by simp at h1;omega)]
  ·unfold gL;simp only;rw [kR (bG _),aP,List.take_length]
 |false=>
  have key:=aJJ (body:=gL d) (s:=(0,0)) (λs=> ∃ k:Nat,s.2=k∧k≤d.length∧ ∀ j,j<k→sS (d[j]?.getD 0) 0 4=true) (λs=>d.length - s.2.toNat) (λr=>r= .inr false)
   ⟨0,rfl,Nat.zero_le _,λj hj=>absurd hj (Nat.not_lt_zero _)⟩ (λs ⟨k,hs,hk,hj⟩=>?_)
  ·obtain ⟨r,h1,h2⟩:=key;rw [h1,h2];rfl
  ·obtain ⟨t,s2⟩:=s;simp only at hs;subst hs;rcases eN k d.length with hlt|hge
   ·unfold gL;simp only;rw [iL hlt,aL,tS 0 hlt,aA,uN,aA];cases hin:sS (d[k]?.getD 0) 0 4 with
    |false=>exact .inr ⟨_,rfl,rfl⟩
    |true=>
     rw [dP,aP,aA,bW hlt (by omega)];refine .inl ⟨_,rfl,⟨k+1,rfl,hlt,λj hj2=>?_⟩,by simp;omega⟩;by_cases e:j=k
     ·subst e;exact hin
     ·exact hj j (by omega)
   ·exfalso
    have:d.all (λx=>sS x 0 4)=true:=by
     rw [←vZ 0 d,rO];exact λj hj'=>hj j (by omega)
    rw [hall] at this;cases this
theorem nG {q:Qv} {d:List Int} (h:aCO q d=true):vG q=true∧(d.length:Int)=q.n∧(∀ x∈d,0≤x∧x≤4)∧d.sum≤8:=by
 unfold aCO at h;simp only [cV,iR,List.all_eq_true] at h;exact ⟨h.1,h.2.1,λx hx=>kA (h.2.2.1 x hx),h.2.2.2⟩
def mB (r:Rp):Bool:=jO r.p&&(aCO r.q r.dims&&(decide ((r.maps.length:Int)=(r.q.src.length:Int))&&(List.range r.maps.length).all λk=>
 wM r.p (r.maps[k]?.getD ⟨0,0,[]⟩)&&(decide ((r.maps[k]?.getD ⟨0,0,[]⟩).cols=r.dims[(r.q.src[k]?.getD 0).toNat]?.getD 0)&&decide ((r.maps[k]?.getD ⟨0,0,[]⟩).rows=r.dims[(r.q.tgt[k]?.getD 0).toNat]?.getD 0))))
theorem dW {α:Type} {l:List α} {k:Nat} (d:α) (h:k<l.length):l[k]?.getD d∈l:=by rw [xS h];exact List.getElem_mem h
theorem wN {r:Rp} (h:bR r):nQ r=some (mB r):=by
 obtain ⟨h1,h2,⟨h3,h4⟩,_⟩:=h;unfold nQ mB;rw [aDD,aA];refine eX λhF=>?_;rw [aIh h1 h2,aA];refine eX λhD=>?_;obtain ⟨hQ,hd1,hd2,_⟩:=nG hD;obtain ⟨n,hn,_,_,hq1,hq2,hq3,hq4⟩:=nF hQ;refine eX λhL=>?_;have hL:=of_decide_eq_true hL;rw [tG (λk=>wM r.p (r.maps[k]?.getD ⟨0,0,[]⟩)&&(decide ((r.maps[k]?.getD ⟨0,0,[]⟩).cols=r.dims[(r.q.src[k]?.getD 0).toNat]?.getD 0)&&decide ((r.maps[k]?.getD ⟨0,0,[]⟩).rows=r.dims[(r.q.tgt[k]?.getD 0).toNat]?.getD 0))) false (n:=r.maps.length) (by omega) (λk hk=>?_) (λ_=>?_),aA]
 ·cases (List.range r.maps.length).all _ <;> rfl
 ·have hs:=hq3 _ (dW 0 (show k<r.q.src.length by omega));have ht:=hq4 _ (dW 0 (show k<r.q.tgt.length by omega));unfold pH;rw [iL hk,aL,tS ⟨0,0,[]⟩ hk,aA,zT _ (h4 _ (dW _ hk)),aA,aA,tS 0 (by omega),aA,atI 0 hs.1 (by omega),aA,aA,tS 0 (by omega),aA,atI 0 ht.1 (by omega),aA];cases wM r.p _ <;> cases decide ((r.maps[k]?.getD _).cols=_) <;> cases decide ((r.maps[k]?.getD _).rows=_) <;> rfl
 ·unfold pH;rw [kR (bG _),aP]
theorem wO {r:Rp} (h:bR r):jI r=some (mB r):=by
 obtain ⟨h1,h2,⟨h3,h4⟩,_⟩:=h;unfold jI mB;rw [zP,aA];refine eX λhF=>?_;rw [aIg h1 h2,aA];refine eX λhD=>?_;obtain ⟨hQ,hd1,hd2,_⟩:=nG hD;obtain ⟨n,hn,_,_,hq1,hq2,hq3,hq4⟩:=nF hQ;refine eX λhL=>?_;have hL:=of_decide_eq_true hL;rw [tG (λk=>wM r.p (r.maps[k]?.getD ⟨0,0,[]⟩)&&(decide ((r.maps[k]?.getD ⟨0,0,[]⟩).cols=r.dims[(r.q.src[k]?.getD 0).toNat]?.getD 0)&&decide ((r.maps[k]?.getD ⟨0,0,[]⟩).rows=r.dims[(r.q.tgt[k]?.getD 0).toNat]?.getD 0))) false (n:=r.maps.length) (by omega) (λk hk=>?_) (λ_=>?_),aA]
 ·cases (List.range r.maps.length).all _ <;> rfl
 ·have hs:=hq3 _ (dW 0 (show k<r.q.src.length by omega));have ht:=hq4 _ (dW 0 (show k<r.q.tgt.length by omega));unfold pI;rw [iL hk,aL,tS ⟨0,0,[]⟩ hk,aA,aFi _ (h4 _ (dW _ hk)),aA,tS 0 (by omega),aA,atI 0 hs.1 (by omega),aA,tS 0 (by omega),aA,atI 0 ht.1 (by omega),aA];cases wM r.p _ <;> cases decide ((r.maps[k]?.getD _).cols=_) <;> cases decide ((r.maps[k]?.getD _).rows=_) <;> rfl
 ·unfold pI;rw [kR (bG _),aP]
end
noncomputable section
theorem aGR {a b:Int} (ha:0≤a∧a≤5) (hb:0≤b∧b≤5):0≤a*b∧a*b≤25:=by
 refine ⟨Int.mul_nonneg ha.1 hb.1,?_⟩;have:=Int.mul_le_mul ha.2 hb.2 hb.1 (by decide:(0:Int)≤5);omega
theorem vH {x p:Int} (hp:jO p=true):0≤x % p∧x % p<p:=by
 have:=eP hp;exact ⟨Int.emod_nonneg _ (by omega),Int.emod_lt_of_pos _ (by omega)⟩
theorem aBP {p x:Int} (hp:jO p=true) (hx: -4611686018427387904≤x∧x≤4611686018427387904):jC p x=some (x % p):=by
 have hb:=eP hp;have hr:=aDh x p (by omega);unfold jC;rw [bU (by omega),Bool.not_false,aL];rcases aDi x p (by omega) with ⟨h,e⟩|⟨h,e⟩
 ·rw [bU (by omega),aP,e]
 ·rw [bB h,aL,fX (by omega),e];congr 1;omega
theorem aHf {p x:Int} (hp:jO p=true):nP p x=some (x % p):=by
 have hb:=eP hp;have hr:=aDh x p (by omega);unfold nP;rw [zP,hp,aA,dP,aP,bU (by omega),Bool.not_false,aL,aL,fX (by omega),aJz _ _ (by omega)]
theorem aIi {p x:Int} (hp:jO p=true) {k:Nat} (hk:k≤1000):pG p x k=some (aGH p (x % p) k):=by
 have hb:=eP hp;unfold pG;rw [zP,hp,aA,dP,aP,sZ,aAU (by omega) (by omega),aA,dP,aP];rw [dQ (r:=aGH p (x % p) k) (λt=>(aGH p (x % p) t,(t:Int))) k (by rfl) (λt ht=>?_) (λ_=>?_),aA]
 ·unfold lD;simp only;have h1:=aJK hp (vH (x:=x) hp) t;have h2:=vH (x:=x) hp;have h3:=aGR (a:=aGH p (x % p) t) (b:=x % p) (by omega) (by omega);rw [iL ht,aL,aHf hp,aA,bU (by omega),Bool.not_false,aL,bW ht (by omega),fX (by omega),Int.tmod_eq_emod_of_nonneg h3.1];rfl
 ·unfold lD;simp only;rw [kR (bG _),aP]
theorem aKP {p x:Int} (hp:jO p=true):mM p x=some (vY p (x % p)):=by
 have hb:=eP hp;unfold mM vY;rw [zP,hp,aA,dP,aP,fX (by omega)];have e:max (p - 2) 1=(((max (p - 2) 1).toNat:Nat):Int):=by omega
 rw [e,aIi hp (by omega),aA,eA]
theorem aKQ {p x:Int} (hp:jO p=true) (hx: -4611686018427387904≤x∧x≤4611686018427387904):mK p x=some (vY p (x % p)):=by
 have hb:=eP hp;have h2:=vH (x:=x) hp;obtain ⟨n,hn⟩: ∃ n:Nat,p=n:=⟨p.toNat,by omega⟩;unfold mK;rw [aBi (s0:=1) (s:=1) (n:=n) (λk:Nat=>bif decide ((x % p*k) % p=1) then some (k:Int) else none) rfl (by omega) (by omega) (λk h1 hk=>?_) (λ_=>?_),aA]
 ·cases e:(List.range' 1 (n - 1)).findSome? (λk:Nat=>bif decide ((x % p*k) % p=1) then some (k:Int) else none) with
  |none=>
   rw [List.findSome?_eq_none_iff] at e;rw [aLE hp h2 λy h3 h4 h5=>?_];rfl;have:=e y (by simp;omega);rw [bB h5] at this;cases this
  |some i=>
   obtain ⟨k,hk,he⟩:=List.exists_of_findSome?_eq_some e;simp at hk;cases hd:decide ((x % p*k) % p=1) with
   |false=>rw [hd] at he;cases he
   |true=>
    rw [hd] at he;cases he;rw [aMU hp h2 (y:=k) (by omega) (of_decide_eq_true hd)];rfl
 ·unfold jG;have h3:=aGR (a:=x % p) (b:=k) (by omega) (by omega);rw [bB (by omega),aL,aDD,hp,aA,aL,aBP hp hx,aA,fX (by omega),aBP hp (by omega),aA];cases decide (x % p*k % p=1) <;> rfl
 ·unfold jG;rw [bU (by omega),aP]
theorem aEF {r c i:Nat} (hi:i<r):(i+1)*c≤r*c:=Nat.mul_le_mul_right c hi
theorem ixw {r c i j:Nat} (hN:r*c≤1048576) (hi:i<r) (hj:j<c):wr (wr ((i:Int)*(c:Int))+(j:Int))=((i*c+j:Nat):Int):=wix (by have:=aJL hi hj;omega)
theorem atT {r c i j:Nat} (hN:r*c≤1048576) (hi:i<r) (hj:j<c) (F:Nat→Nat→Int):dL (bT r c F) (wr (wr ((i:Int)*(c:Int))+(j:Int)))=some (F i j):=by rw [ixw hN hi hj,aMV F hi hj]
theorem aKS {r c i j:Nat} (hN:r*c≤1048576) (hi:i<r) (hj:j<c) (F:Nat→Nat→Int) (v:Int):(bT r c F).set (wr (wr ((i:Int)*(c:Int))+(j:Int))).toNat v=bT r c (aBj F i j v):=by rw [ixw hN hi hj,eA,wA F v hi hj]
theorem qF {r c i:Nat} (hN:r*c≤1048576) (hi:i<r):wr ((i:Int)*(c:Int))=((i*c:Nat):Int):=aIP (by have:= @aEF r c i hi;rw [Nat.succ_mul] at this;omega)
theorem rS {r c i:Nat} (hN:r*c≤1048576) (hr:r≤1048576) (hi:i<r):wr (wr ((i:Int)+1)*(c:Int))=((i*c+c:Nat):Int):=by
 have:= @aEF r c i hi;rw [bW hi (by omega),aIP (by omega),Nat.succ_mul]
def fL (c:Nat) (f:Nat→Int):List Int:=(List.range c).map f
theorem dT (c:Nat) (f:Nat→Int):(fL c f).length=c:=by simp [fL]
theorem aDE {c:Nat} (f:Nat→Int) {j:Nat} (h:j<c):dL (fL c f) (j:Int)=some (f j):=by rw [bP (by rw [dT];exact h)];simp [fL]
theorem aEG {r c i:Nat} (hN:r*c≤1048576) (hr:r≤1048576) (hi:i<r) (F:Nat→Nat→Int):dD ⟨r,c,bT r c F⟩ i=some ():=by
 have:= @aEF r c i hi;rw [Nat.succ_mul] at this;unfold dD;simp only;rw [qF hN hi,rS hN hr hi,dX,bB (by omega),bB (by omega:((i*c:Nat):Int)≤((i*c+c:Nat):Int)),bB (by omega:((i*c+c:Nat):Int)≤((r*c:Nat):Int))];rfl
theorem aIj {r c i:Nat} (hN:r*c≤1048576) (hr:r≤1048576) (hi:i<r) (F:Nat→Nat→Int):aBp ⟨r,c,bT r c F⟩ i=some (fL c (F i)):=by
 have h:= @aEF r c i hi;rw [Nat.succ_mul] at h;unfold aBp sT yO;simp only;rw [qF hN hi,rS hN hr hi,dX,bB (by omega),bB (by omega:((i*c:Nat):Int)≤((i*c+c:Nat):Int)),bB (by omega:((i*c+c:Nat):Int)≤((r*c:Nat):Int))];simp only [Bool.and_self,aL,eA];congr 1;refine List.ext_getElem (by simp [dX,dT];omega) λt h1 h2=>?_;rw [dT] at h2;rw [List.getElem_take,List.getElem_drop];simp [bT,fL,aDj h2,aDk h2]
def aEq (p:Int) (F:Nat→Nat→Int) (i:Nat) (k:Int) (g:Nat→Int):Nat→Nat→Int:=λa b=>if a=i then (F i b+k*g b) % p else F a b
theorem gd (x:Nat):(decide (0≤(x:Int))&&true)=true:=by rw [bB (by omega)];rfl
theorem aNW {p:Int} (hp:jO p=true):(!decide (p=0))=true:=by have:=eP hp;rw [bU (by omega)];rfl
theorem aHg {p:Int} (hp:jO p=true) {r c i:Nat} (hc:c≤1048576) (hi:i<r) {F:Nat→Nat→Int} {g:Nat→Int} {k:Int} (hk:0≤k∧k≤5) (hF: ∀ b,b<c→0≤F i b∧F i b<p) (hg: ∀ b,b<c→0≤g b∧g b<p):
  fT p (bT r c F) (i*c) c k (fL c g)=some (bT r c (aEq p F i k g)):=by
 have hb:=eP hp;unfold fT;rw [dQ (r:=bT r c (aEq p F i k g)) (λx=>(bT r c (λa b=>if a=i∧b<x then (F i b+k*g b) % p else F a b),(x:Int))) c (by simp) (λx hx=>?_) (λ_=>?_)];rfl
 ·have h1:=hF x hx;have h2:=hg x hx;have h3:=aGR hk (show 0≤g x∧g x≤5 by omega);unfold iM;simp only;rw [dT,iL hx,aL,aDE _ hx,aA,gd x,aL,eA,iA _ hi hx,aA,aNW hp,aL,aL,aA,wA _ _ hi hx,bW hx (by omega)];rw [aS (by omega),fX (x:=k*g x) (by omega),fX (by omega),Int.tmod_eq_emod_of_nonneg (by omega)];congr 3;refine cD λa b ha hb=>?_;simp only [aBj];by_cases e1:a=i∧b=x
  ·obtain ⟨rfl,rfl⟩:=e1;rw [aV ⟨rfl,rfl⟩,aV ⟨rfl,by omega⟩]
  ·rw [aS e1];by_cases e2:a=i∧b<x
   ·rw [aV e2,aV ⟨e2.1,by omega⟩]
   ·rw [aS e2,aS (by omega)]
 ·unfold iM;simp only;rw [dT,kR (bG _),aP];congr 2;refine cD λa b ha hb=>?_;simp only [aEq];by_cases e:a=i
  ·rw [aV ⟨e,hb⟩,aV e]
  ·rw [aS (by omega),aS e]
theorem aKT {p:Int} (hp:jO p=true) {r c i j:Nat} (hc:c≤1048576) (hi:i<r) (hj:j<r) (hij:i≠j) {F:Nat→Nat→Int} {k:Int} (hk:0≤k∧k≤5) (hF: ∀ b,b<c→0≤F i b∧F i b<p) (hg: ∀ b,b<c→0≤F j b∧F j b<p):
  gK p (bT r c F) (i*c) c k (j*c) c=some (bT r c (aEq p F i k (F j))):=by
 have hb:=eP hp;unfold gK;rw [dQ (r:=bT r c (aEq p F i k (F j))) (λx=>(bT r c (λa b=>if a=i∧b<x then (F i b+k*F j b) % p else F a b),(x:Int))) c (by simp) (λx hx=>?_) (λ_=>?_)];rfl
 ·have h1:=hF x hx;have h2:=hg x hx;have h3:=aGR hk (show 0≤F j x∧F j x≤5 by omega);unfold fE;simp only;rw [iL hx,aL,gd x,aL,eA,iA _ hj hx,aA,aL,iA _ hi hx,aA,aNW hp,aL,aL,aA,wA _ _ hi hx,bW hx (by omega)];rw [aS (by omega),aS (by omega),fX (x:=k*F j x) (by omega),fX (by omega),Int.tmod_eq_emod_of_nonneg (by omega)];congr 3;refine cD λa b ha hb=>?_;simp only [aBj];by_cases e1:a=i∧b=x
  ·obtain ⟨rfl,rfl⟩:=e1;rw [aV ⟨rfl,rfl⟩,aV ⟨rfl,by omega⟩]
  ·rw [aS e1];by_cases e2:a=i∧b<x
   ·rw [aV e2,aV ⟨e2.1,by omega⟩]
   ·rw [aS e2,aS (by omega)]
 ·unfold fE;simp only;rw [kR (bG _),aP];congr 2;refine cD λa b ha hb=>?_;simp only [aEq];by_cases e:a=i
  ·rw [aV ⟨e,hb⟩,aV e]
  ·rw [aS (by omega),aS e]
theorem aLb {r c:Nat} (hN:r*c≤1048576):(decide (0≤wr ((r:Int)*(c:Int)))&&decide (wr ((r:Int)*(c:Int))≤1048576))=true:=by
 rw [aIP (by omega),bB (by omega),bB (by omega)];rfl
theorem aLc {r c:Nat} (hN:r*c≤1048576):sW r c=some ⟨r,c,bT r c λ_ _=>0⟩:=by
 unfold sW;rw [aLb hN,aL,aIP (by omega),eA,aFS]
theorem aLd {r c:Nat} (hN:r*c≤1048576):rY r c=some ⟨r,c,bT r c λ_ _=>0⟩:=by
 unfold rY;rw [aLb hN,aL,aIP (by omega),eA,aFS]
def aCd (F G:Nat→Nat→Int) (i j:Nat):Nat→Int
 |0=>0
 |k+1=>aCd F G i j k+F i k*G k j
def aHh (p:Int) (F G:Nat→Nat→Int) (i j:Nat):Nat→Int
 |0=>0
 |k+1=>(aHh p F G i j k+F i k*G k j) % p
theorem aGS {p:Int} (hp:jO p=true) (F G:Nat→Nat→Int) (i j:Nat): ∀ k,aHh p F G i j k=aCd F G i j k % p
 |0=>by simp [aHh,aCd]
 |k+1=>by rw [aHh,aCd,aGS hp F G i j k];simp [Int.add_emod]
theorem aGT {p:Int} (hp:jO p=true) {F G:Nat→Nat→Int} {i j:Nat} : ∀ {k:Nat},(∀ t,t<k→0≤F i t∧F i t<p)→(∀ t,t<k→0≤G t j∧G t j<p)→0≤aCd F G i j k∧aCd F G i j k≤25*k
 |0,_,_=>by simp [aCd]
 |k+1,hF,hG=>by
  have hb:=eP hp;have h:=aGT hp (k:=k) (λt ht=>hF t (by omega)) (λt ht=>hG t (by omega));have h1:=hF k (by omega);have h2:=hG k (by omega);have h3:=aGR (a:=F i k) (b:=G k j) (by omega) (by omega);rw [aCd];omega
def aCe (p:Int) (n:Nat) (F G:Nat→Nat→Int):Nat→Nat→Int:=λi j=>aCd F G i j n % p
theorem aGU {p:Int} (hp:jO p=true) {r n c:Nat} (h1:r*n≤1048576) (h2:n*c≤1048576) (h3:r*c≤1048576) (hr:r≤1048576) (hn:n≤1048576) (hc:c≤1048576) {F G:Nat→Nat→Int} (hF:xD p r n F) (hG:xD p n c G):
  mJ p ⟨r,n,bT r n F⟩ ⟨n,c,bT n c G⟩=some ⟨r,c,bT r c (aCe p n F G)⟩:=by
 have hb:=eP hp;unfold mJ;simp only;rw [aLd h3,aA];simp only;rw [dQ (r:=bT r c (aCe p n F G)) (λi=>(bT r c (λa b=>if a<i then aCe p n F G a b else 0),(i:Int))) r (by simp) (λi hi=>?_) (λ_=>?_),aA]
 ·unfold jF;simp only;rw [iL hi,aL];rw [dQ (r:=bT r c (λa b=>if a<i+1 then aCe p n F G a b else 0)) (λj=>(bT r c (λa b=>if a<i∨(a=i∧b<j) then aCe p n F G a b else 0),(j:Int))) c (by simp) (λj hj=>?_) (λ_=>?_),aA,bW hi (by omega)]
  ·unfold jE;simp only;rw [iL hj,aL];have hbd:=aGT hp (F:=F) (G:=G) (i:=i) (j:=j) (k:=n) (λt ht=>hF i t hi ht) (λt ht=>hG t j ht hj);rw [dQ (r:=aCd F G i j n) (λk=>(aCd F G i j k,(k:Int))) n (by simp [aCd]) (λk hk=>?_) (λ_=>?_),aA,aBP hp (by omega),aA,atT h3 hi hj,aA,aKS h3 hi hj,bW hj (by omega)]
   ·congr 3;refine cD λa b ha hb=>?_;simp only [aBj];by_cases e:a=i∧b=j
    ·rw [aV e,aV (by omega),e.1,e.2];rfl
    ·rw [aS e];by_cases e2:a<i∨a=i∧b<j
     ·rw [aV e2,aV (by omega)]
     ·rw [aS e2,aS (by omega)]
   ·unfold jD;simp only;have g1:=hF i k hi hk;have g2:=hG k j hk hj;have g3:=aGR (a:=F i k) (b:=G k j) (by omega) (by omega);have g4:=aGT hp (F:=F) (G:=G) (i:=i) (j:=j) (k:=k) (λt ht=>hF i t hi (by omega)) (λt ht=>hG t j (by omega) hj);rw [iL hk,aL,atT h1 hi hk,aA,atT h2 hk hj,aA,bW hk (by omega),fX (x:=F i k*G k j) (by omega),fX (by omega)];rfl
   ·unfold jD;simp only;rw [kR (bG _),aP]
  ·unfold jE;simp only;rw [kR (bG _),aP];congr 2;refine cD λa b ha hb=>?_;by_cases e:a<i+1
   ·rw [aV e,aV (by omega)]
   ·rw [aS e,aS (by omega)]
 ·unfold jF;simp only;rw [kR (bG _),aP];congr 2;exact cD λa b ha hb=>by rw [aV ha]
theorem aMf {p:Int} (hp:jO p=true) {r n c:Nat} (h1:r*n≤1048576) (h2:n*c≤1048576) (h3:r*c≤1048576) (hr:r≤1048576) (hn:n≤1048576) (hc:c≤1048576) {F G:Nat→Nat→Int} (hF:xD p r n F) (hG:xD p n c G):
  tX p ⟨r,n,bT r n F⟩ ⟨n,c,bT n c G⟩=some ⟨r,c,bT r c (aCe p n F G)⟩:=by
 have hb:=eP hp;have hD: ∀ i j,aHh p F G i j n=aCe p n F G i j:=λi j=>aGS hp F G i j n;unfold tX;simp only;rw [aLc h3,aA];simp only;rw [dQ (r:=bT r c (aCe p n F G)) (λi=>(bT r c (λa b=>if a<i then aCe p n F G a b else 0),(i:Int))) r (by simp) (λi hi=>?_) (λ_=>?_),aA]
 ·unfold pK;simp only;rw [iL hi,aL,aIj h1 hr hi,aA];rw [dQ (r:=bT r c (λa b=>if a<i+1 then aCe p n F G a b else 0)) (λk=>(bT r c (λa b=>if a<i then aCe p n F G a b else if a=i then aHh p F G i b k else 0),(k:Int))) n ?_ (λk hk=>?_) (λ_=>?_),aA,bW hi (by omega)]
  ·congr 1
   exact cD λa b ha hb=>by
    by_cases e:a<i
    ·rw [aV e,aV e]
    ·rw [aS e,aS e];simp [aHh]
  ·unfold pJ;simp only;have g1:=hF i k hi hk;rw [dT,iL hk,aL,aDE _ hk,aA,aEG h3 hr hi,aA,aIj h2 hn hk,aA,Nat.zero_add,qF h3 hi,rS h3 hr hi,eA,eA,show i*c+c - i*c=c by omega];rw [aHg hp hc hi (by omega) (λb hb=>?_) (λb hb=>hG k b hk hb),aA,dX,dX,bB rfl,aL,bW hk (by omega)]
   ·congr 3;refine cD λa b ha hb=>?_;simp only [aEq];by_cases e:a=i
    ·subst e;simp [aHh]
    ·rw [aS e,aS e,aS e]
   ·rw [aS (by omega),aV rfl,aGS hp];exact vH hp
  ·unfold pJ;simp only;rw [dT,kR (bG _),aP];congr 2;refine cD λa b ha hb=>?_;by_cases e:a<i
   ·rw [aV e,aV (by omega)]
   ·by_cases e2:a=i
    ·subst e2;rw [aS (by omega),aV rfl,aV (by omega),hD]
    ·rw [aS e,aS e2,aS (by omega)]
 ·unfold pK;simp only;rw [kR (bG _),aP];congr 2;exact cD λa b ha hb=>by rw [aV ha]
end
noncomputable section
def qM (L:List Nat):List Int:=L.map λt:Nat=>(t:Int)
theorem kJ (L:List Nat):(qM L).length=L.length:=by simp [qM]
theorem aEH {p:Int} {m:Nat} {F:Nat→Nat→Int} {j:Nat} (h:(bZ p m F j).2.length=m): ∀ d,bZ p m F (j+d)=bZ p m F j
 |0=>rfl
 |d+1=>by
  show fD p m (bZ p m F (j+d)) (j+d)=_;rw [aEH h d];unfold fD;rw [aV];rw [h,Nat.sub_self];rfl
def xO (F:Nat→Nat→Int) (a b x:Nat):Nat→Nat→Int:=λi y=>if y<x then qI F a b i y else F i y
def tY (p:Int) (F:Nat→Nat→Int) (a:Nat) (s:Int) (x:Nat):Nat→Nat→Int:=λi y=>if y<x then nC p F a s i y else F i y
def gO (p:Int) (F:Nat→Nat→Int) (a j x:Nat):Nat→Nat→Int:=λi c=>if i<x then rL p F a j i c else F i c
theorem aFj {r c a b x:Nat} (F:Nat→Nat→Int):bT r c (aBj (aBj (xO F a b x) a x (F b x)) b x (F a x))=bT r c (xO F a b (x+1)):=by
 refine cD λi y hi hy=>?_;simp only [aBj,xO,qI];by_cases e:y=x
 ·subst e;simp only [and_true,Nat.lt_irrefl,if_false,Nat.lt_succ_self,if_true];by_cases e1:i=b
  ·rw [aV e1];by_cases e2:i=a
   ·rw [aV e2];subst e1;rw [e2]
   ·rw [aS e2,aV e1]
  ·rw [aS e1];by_cases e2:i=a
   ·rw [aV e2,aV e2]
   ·rw [aS e2,aS e2,aS e1]
 ·rw [aS (by omega),aS (by omega)];by_cases e1:y<x
  ·rw [aV e1,aV (show y<x+1 by omega)]
  ·rw [aS e1,aS (show ¬ y<x+1 by omega)]
theorem zU {F:Nat→Nat→Int} {a b x i:Nat} :xO F a b x i x=F i x:=by simp [xO]
theorem aEI {p:Int} {F:Nat→Nat→Int} {a x i:Nat} {s:Int} :tY p F a s x i x=F i x:=by simp [tY]
theorem aEJ {p:Int} {r c a x:Nat} {s:Int} (F:Nat→Nat→Int):bT r c (aBj (tY p F a s x) a x ((F a x*s) % p))=bT r c (tY p F a s (x+1)):=by
 refine cD λi y hi hy=>?_;simp only [aBj,tY,nC];by_cases e:y=x
 ·subst e;simp only [and_true,Nat.lt_irrefl,if_false,Nat.lt_succ_self,if_true]
 ·rw [aS (by omega)];by_cases e1:y<x
  ·rw [aV e1,aV (show y<x+1 by omega)]
  ·rw [aS e1,aS (show ¬ y<x+1 by omega)]
theorem aJZ {p r:Int} (hp:jO p=true) (hr:0≤r∧r<p):0≤vY p r∧vY p r<p:=aJK hp hr _
theorem aHi {p:Int} {m n k r:Nat} {F:Nat→Nat→Int} (h:xD p m n F) (hk:k<m) (hr:r<m):xD p m n (qI F k r):=by
 intro i c hi hc;unfold qI;split
 ·exact h r c hr hc
 ·split
  ·exact h k c hk hc
  ·exact h i c hi hc
theorem aFk {p:Int} (hp:jO p=true) {m n k:Nat} {s:Int} {F:Nat→Nat→Int} (h:xD p m n F):xD p m n (nC p F k s):=by
 intro i c hi hc;unfold nC;split
 ·exact vH hp
 ·exact h i c hi hc
theorem aKU {p:Int} (hp:jO p=true) {m n k j x:Nat} {F:Nat→Nat→Int} (h:xD p m n F):xD p m n (gO p F k j x):=by
 intro i c hi hc;unfold gO rL;split
 ·split
  ·rename_i h1 h2;subst h2;exact h _ c hi hc
  ·exact vH hp
 ·exact h i c hi hc
theorem aLe {p:Int} (hp:jO p=true) {m n k j x:Nat} {F:Nat→Nat→Int} (hx:x≠k):bT m n (aEq p (gO p F k j x) x (p - F x j) (gO p F k j x k))=bT m n (gO p F k j (x+1)):=by
 refine cD λi c hi hc=>?_;simp only [aEq,gO,rL];by_cases e:i=x
 ·subst e;rw [aV rfl,aS (Nat.lt_irrefl _),aV (Nat.lt_succ_self _),aS hx];simp only [if_true,ite_self];rw [show F i c+(p - F i j)*F k c=(F i c - F i j*F k c)+p*F k c by rw [Int.sub_mul];omega,Int.add_mul_emod_self_left]
 ·rw [aS e];by_cases e1:i<x
  ·rw [aV e1,aV (show i<x+1 by omega)]
  ·rw [aS e1,aS (show ¬ i<x+1 by omega)]
theorem aFl {p:Int} {m n k j:Nat} {F:Nat→Nat→Int} :bT m n (gO p F k j k)=bT m n (gO p F k j (k+1)):=by
 refine cD λi c hi hc=>?_;simp only [gO,rL];by_cases e:i<k
 ·rw [aV e,aV (show i<k+1 by omega)]
 ·rw [aS e];by_cases e1:i=k
  ·subst e1;simp
  ·rw [aS (show ¬ i<k+1 by omega)]
theorem aEK {p:Int} {F:Nat→Nat→Int} {k r j:Nat} :dR p F k r j=rL p (nC p (qI F k r) k (vY p (F r j))) k j:=rfl
structure Tb (p:Int) (m n:Nat) (F:Nat→Nat→Int):Prop where
 hp:jO p=true
 hN:m*n≤1048576
 hm:m≤1048576
 hn:n≤1048576
 hi:xD p m n F
theorem aNX {p:Int} {m n:Nat} {F:Nat→Nat→Int} (T:Tb p m n F) {j:Nat} (hj:j<n) (L:List Nat) (hL:L.length≤m) (l:List Int):
  Lp (kE ⟨m,n,l⟩ ((j:Int),bT m n F,qM L)) (((qM L).length:Nat):Int)=some ((gZ F j (m - L.length) L.length:Nat):Int):=by
 obtain ⟨hp,hN,hm,hn,hi⟩:=T;have hle:= @uI F j (m - L.length) L.length;have hz:= @aAV F j (m - L.length) L.length;have hh:= @zK F j (m - L.length) L.length;generalize gZ F j (m - L.length) L.length=r at*;rw [kJ];refine dQ (λt=>((L.length+t:Nat):Int)) (r - L.length) (by simp) (λt ht=>?_) (λ_=>?_)
 ·unfold kE;simp only
  rw [iL (by omega),aL,aEG hN hm (by omega),aA,qF hN (by omega),rS hN hm (by omega),eA,eA,Nat.add_sub_cancel_left,iL hj,gd,aL,Nat.zero_add,eA,iA _ (by omega) hj,aA,
   hz _ (by omega) (by omega),bB rfl,aL,bW (n:=m) (by omega) (by omega),Nat.add_assoc]
 ·rw [show L.length+(r - L.length)=r by omega];unfold kE;simp only;rcases eN r m with h|h
  ·rw [iL h,aL,aEG hN hm h,aA,qF hN h,rS hN hm h,eA,eA,Nat.add_sub_cancel_left,iL hj,gd,aL,Nat.zero_add,eA,iA _ h hj,aA,
    bU (hh (by omega)),aP]
  ·rw [kR h,aP]
theorem aMg {p:Int} {m n:Nat} {F:Nat→Nat→Int} (T:Tb p m n F) {j:Nat} (hj:j<n) (L:List Nat) (hL:L.length≤m) (l:List Int):
  kF p ⟨m,n,l⟩ ((j:Int),bT m n F,qM L)=some (.inl (((j+1:Nat):Int),bT m n (fD p m (F,L) j).1,qM (fD p m (F,L) j).2)):=by
 have hpv:=aNX T hj L hL l;obtain ⟨hp,hN,hm,hn,hi⟩:=T;have hb:=eP hp;have hle:= @uI F j (m - L.length) L.length;unfold kF fD;simp only;rw [iL hj,aL,hpv,aA,bW hj (by omega)];clear hpv;generalize gZ F j (m - L.length) L.length=r at*;by_cases hr:r=m
 ·rw [bB (by omega),aL,aV hr]
 ·rw [bU (by omega),aP,aS hr];have hk:L.length<m:=by omega
  have hrm:r<m:=by omega
  simp only [kJ];rw [aEG hN hm hk,aA,qF hN hk,rS hN hm hk];simp only [eA,Nat.add_sub_cancel_left,Nat.zero_add];rw [dQ (r:=bT m n (qI F L.length r)) (λx=>(bT m n (xO F L.length r x),(x:Int))) n ?_ (λx hx=>?_) (λ_=>?_),aA,iL hj,gd,aL,iA _ hk hj,aA]
  ·have e1:qI F L.length r L.length j=F r j:=by simp [qI]
   have hrj:=hi r j hrm hj;rw [e1,aKP hp,aA,Int.emod_eq_of_lt hrj.1 hrj.2];have hs:=aJZ hp hrj;rw [aEK];generalize vY p (F r j)=s at*;have h1:=aHi hi hk hrm;generalize qI F L.length r=F1 at*;rw [dQ (r:=bT m n (nC p F1 L.length s)) (λx=>(bT m n (tY p F1 L.length s x),(x:Int))) n ?_ (λx hx=>?_) (λ_=>?_),aA]
   ·have h2:=aFk hp (k:=L.length) (s:=s) h1;generalize nC p F1 L.length s=F2 at*;rw [dQ (r:=bT m n (rL p F2 L.length j)) (λx=>(bT m n (gO p F2 L.length j x),(x:Int))) m ?_ (λx hx=>?_) (λ_=>?_),aA]
    ·rw [bB (by simp;omega),aL];simp [qM]
    ·congr 1
    ·unfold nU;simp only [kJ];rw [iL hx,aL];by_cases hxk:x=L.length
     ·rw [bB (by omega),dP,aP,bW hx (by omega),hxk,aFl]
     ·rw [bU (by omega),Bool.not_false,aL,aEG hN hm hx,aA,aA,qF hN hx,rS hN hm hx,qF hN hk,rS hN hm hk];simp only [eA,Nat.add_sub_cancel_left,Nat.zero_add];rw [iL hj,gd,aL,iA _ hx hj,aA];have e2:gO p F2 L.length j x x j=F2 x j:=by simp [gO]
      have h3:=h2 x j hx hj;have h4:=aKU hp (k:=L.length) (j:=j) (x:=x) h2;rw [e2,fX (by omega),aKT hp hn hx hk hxk (by omega) (λb hb=>h4 _ b hx hb) (λb hb=>h4 _ b hk hb),aA,dX,dX,bB rfl,aL,bW hx (by omega),aLe hp hxk]
    ·unfold nU;simp only;rw [kR (bG _),aP];congr 2;exact cD λa b ha hb=>by simp only [gO];rw [aV ha]
   ·congr 1
   ·unfold nT;simp only [kJ];rw [qF hN hk,rS hN hm hk];simp only [eA,Nat.add_sub_cancel_left,Nat.zero_add];have g1:=h1 _ x hk hx;have g2:=aGR (a:=F1 L.length x) (b:=s) (by omega) (by omega);rw [iL hx,aL,gd,aL,iA _ hk hx,aA,aNW hp,aL,aL,aA,aEI,fX (by omega),Int.tmod_eq_emod_of_nonneg g2.1,wA _ _ hk hx,bW hx (by omega),aEJ]
   ·unfold nT;simp only [kJ];rw [qF hN hk,rS hN hm hk];simp only [eA,Nat.add_sub_cancel_left,Nat.zero_add];rw [kR (bG _),aP];congr 2;exact cD λa b ha hb=>by simp only [tY];rw [aV hb]
  ·congr 1
  ·unfold nS;simp only [kJ];rw [iL hx,aL,aEG hN hm hrm,aA,aA,qF hN hk,rS hN hm hk,qF hN hrm,rS hN hm hrm];simp only [eA,Nat.add_sub_cancel_left,Nat.zero_add];rw [iL hx,gd,aL,iA _ hrm hx,aA,aL,iA _ hk hx,aA,aL,aA,aL,wA _ _ hk hx,iA _ hrm hx,aA,wA _ _ hrm hx,zU,zU,bW hx (by omega),aFj]
  ·unfold nS;simp only;rw [kR (bG _),aP];congr 2;exact cD λa b ha hb=>by simp only [xO];rw [aV hb]
theorem aGV {p:Int} {m n:Nat} {F:Nat→Nat→Int} (T:Tb p m n F):rZ p ⟨m,n,bT m n F⟩=some (⟨m,n,bT m n (bZ p m F n).1⟩,qM (bZ p m F n).2):=by
 have hN:=T.hN;have hn:=T.hn;unfold rZ oT tT;simp only;rw [dX,bB hN,aL,aA,aA];simp only;rw [dQ (r:=(bT m n (bZ p m F n).1,qM (bZ p m F n).2)) (λj=>((j:Int),bT m n (bZ p m F j).1,qM (bZ p m F j).2)) n (by simp [bZ,qM]) (λj hj=>?_) (λ_=>?_),aA]
 ·show _=some (Sum.inl (((j+1:Nat):Int),bT m n (fD p m (bZ p m F j) j).1,qM (fD p m (bZ p m F j) j).2):(Int×List Int×List Int) ⊕ (List Int×List Int));exact aMg ⟨T.hp,T.hN,T.hm,T.hn,oX (by have:=eP T.hp;omega) T.hi j⟩ hj _ (qJ j) _
 ·unfold kF;simp only;rw [kR (bG _),aP]
theorem aNY {p:Int} {m n:Nat} {F:Nat→Nat→Int} (T:Tb p m n F) {j:Nat} (hj:j<n) (L:List Nat) (hL:L.length<m) (l:List Int):
  Lp (iC ⟨m,n,l⟩ ((j:Int),bT m n F,qM L,(L.length:Int))) (-1,wr ((m:Int) - 1))=some (if gZ F j (m - L.length) L.length=m then -1 else ((gZ F j (m - L.length) L.length:Nat):Int)):=by
 obtain ⟨hp,hN,hm,hn,hi⟩:=T;refine dQ (λt=>(if gZ F j t (m - t)=m then -1 else ((gZ F j t (m - t):Nat):Int),((m - t:Nat):Int) - 1)) (m - L.length) ?_ (λt ht=>?_) (λ_=>?_)
 ·simp only [gZ,Nat.sub_zero,if_true];rw [fX (by omega)]
 ·unfold iC;simp only;have e:((m - t:Nat):Int) - 1=((m - (t+1):Nat):Int):=by omega
  have hi2:m - (t+1)<m:=by omega
  rw [e,bB (by omega),aL,atT hN hi2 hj,aA,fX (x:=((m - (t+1):Nat):Int) - 1) (by omega)]
  have ep:gZ F j (t+1) (m - (t+1))=if F (m - (t+1)) j=0 then gZ F j t (m - t) else m - (t+1):=by
   rw [gZ,show m - (t+1)+1=m - t by omega]
  rw [ep];by_cases h:F (m - (t+1)) j=0
  ·rw [bB h,dP,aP,aV h]
  ·rw [bU h,Bool.not_false,aL,aS h,aS (by omega)]
 ·rw [show m - (m - L.length)=L.length by omega];unfold iC;simp only;rw [bU (by omega),aP]
theorem aMh {p:Int} {m n:Nat} {F:Nat→Nat→Int} (T:Tb p m n F) {j:Nat} (hj:j<n) (L:List Nat) (hL:L.length<m) (l:List Int):
  eT p ⟨m,n,l⟩ ((j:Int),bT m n F,qM L,(L.length:Int))=some (.inl (((j+1:Nat):Int),bT m n (fD p m (F,L) j).1,qM (fD p m (F,L) j).2,((fD p m (F,L) j).2.length:Int))):=by
 have hpv:=aNY T hj L hL l;obtain ⟨hp,hN,hm,hn,hi⟩:=T;have hb:=eP hp;have hle:= @uI F j (m - L.length) L.length;unfold eT fD;simp only;rw [iL hj,aL,iL hL,aL,hpv,aA,bW hj (by omega)];clear hpv;generalize gZ F j (m - L.length) L.length=r at*;have hk:L.length<m:=hL;by_cases hr:r=m
 ·rw [aV hr,aV hr,bB (by omega),aL]
 ·rw [aS hr,aS hr,bU (by omega),aP];have hrm:r<m:=by omega
  rw [dQ (r:=bT m n (qI F L.length r)) (λx=>(bT m n (xO F L.length r x),(x:Int))) n ?_ (λx hx=>?_) (λ_=>?_),aA,atT hN hk hj,aA]
  ·have e1:qI F L.length r L.length j=F r j:=by simp [qI]
   have hrj:=hi r j hrm hj;rw [e1,aKQ hp (by omega),aA,Int.emod_eq_of_lt hrj.1 hrj.2];have hs:=aJZ hp hrj;rw [aEK];generalize vY p (F r j)=s at*;have h1:=aHi hi hk hrm;generalize qI F L.length r=F1 at*;rw [dQ (r:=bT m n (nC p F1 L.length s)) (λx=>(bT m n (tY p F1 L.length s x),(x:Int))) n ?_ (λx hx=>?_) (λ_=>?_),aA]
   ·have h2:=aFk hp (k:=L.length) (s:=s) h1;generalize nC p F1 L.length s=F2 at*;rw [dQ (r:=bT m n (rL p F2 L.length j)) (λx=>(bT m n (gO p F2 L.length j x),(x:Int))) m ?_ (λx hx=>?_) (λ_=>?_),aA]
    ·rw [kJ,bB (by simp;omega),aL,bW hk (by omega)];simp [qM]
    ·congr 1
    ·unfold kZ;simp only;rw [iL hx,aL,atT hN hx hj,aA,bW hx (by omega)];have e2:gO p F2 L.length j x x j=F2 x j:=by simp [gO]
     rw [e2];by_cases hxk:x=L.length
     ·rw [fY (r:=bT m n (gO p F2 L.length j x)) ?_,aA,hxk,aFl];unfold iD;simp only;rcases Nat.eq_zero_or_pos n with h0|h0
      ·omega
      ·rw [bB (by omega),aL,bB (by omega),dP,aP]
     ·rw [dQ (r:=bT m n (gO p F2 L.length j (x+1))) (λy=>(bT m n (λa c=>if a=x∧c<y then rL p F2 L.length j x c else gO p F2 L.length j x a c),(y:Int))) n (by simp) (λy hy=>?_) (λ_=>?_),aA]
      ·unfold iD;simp only;rw [iL hy,aL,bU (by omega),Bool.not_false,aL,atT hN hx hy,aA,atT hN hk hy,aA];have e3:gO p F2 L.length j x x y=F2 x y:=by simp [gO]
       have e4:gO p F2 L.length j x L.length y=F2 L.length y:=by simp [gO,rL]
       rw [aS (by omega),aS (by omega),e3,e4];have g1:=h2 x j hx hj;have g2:=h2 L.length y hk hy;have g3:=h2 x y hx hy;have g4:=aGR (a:=F2 x j) (b:=F2 L.length y) (by omega) (by omega);rw [fX (x:=F2 x j*F2 L.length y) (by omega),fX (x:=F2 x y - F2 x j*F2 L.length y) (by omega),aBP hp (by omega),aA,aA,aKS hN hx hy,bW hy (by omega)];congr 3;refine cD λa c ha hc=>?_;simp only [aBj];by_cases e5:a=x∧c=y
       ·rw [aV e5,aV (by omega),e5.2];simp only [rL];rw [aS hxk]
       ·rw [aS e5];by_cases e6:a=x∧c<y
        ·rw [aV e6,aV (by omega)]
        ·rw [aS e6,aS (by omega)]
      ·unfold iD;simp only;rw [kR (bG _),aP];congr 2;refine cD λa c ha hc=>?_;simp only [gO];by_cases e5:a=x
       ·rw [aV ⟨e5,hc⟩,aV (by omega),e5]
       ·rw [aS (by omega)];by_cases e6:a<x
        ·rw [aV e6,aV (by omega)]
        ·rw [aS e6,aS (by omega)]
    ·unfold kZ;simp only;rw [kR (bG _),aP];congr 2;exact cD λa b ha hb=>by simp only [gO];rw [aV ha]
   ·congr 1
   ·unfold kY;simp only;have g1:=h1 _ x hk hx;have g2:=aGR (a:=F1 L.length x) (b:=s) (by omega) (by omega);rw [iL hx,aL,atT hN hk hx,aA,aEI,Int.mul_comm,fX (by omega),aBP hp (by omega),aA,aA,aKS hN hk hx,bW hx (by omega),aEJ]
   ·unfold kY;simp only;rw [kR (bG _),aP];congr 2;exact cD λa b ha hb=>by simp only [tY];rw [aV hb]
  ·congr 1
  ·unfold kX;simp only;rw [iL hx,aL,atT hN hk hx,aA,atT hN hrm hx,aA,aA,aKS hN hk hx,atT hN hrm hx,aA,aKS hN hrm hx,zU,zU,bW hx (by omega),aFj]
  ·unfold kX;simp only;rw [kR (bG _),aP];congr 2;exact cD λa b ha hb=>by simp only [xO];rw [aV hb]
theorem aGW {p:Int} {m n:Nat} {F:Nat→Nat→Int} (T:Tb p m n F):pF p ⟨m,n,bT m n F⟩=some (⟨m,n,bT m n (bZ p m F n).1⟩,qM (bZ p m F n).2):=by
 have hN:=T.hN;have hn:=T.hn;unfold pF vN;simp only;rw [dX,bB (by simp;omega),aL,aA];simp only [List.nil_append]
 obtain ⟨r,h1,h2⟩: ∃ r,Lp (eT p ⟨m,n,bT m n F⟩) (0,bT m n F,[],0)=some r∧r=(bT m n (bZ p m F n).1,qM (bZ p m F n).2):=by
  refine aJJ (λs=> ∃ j:Nat,j≤n∧s=((j:Int),bT m n (bZ p m F j).1,qM (bZ p m F j).2,((bZ p m F j).2.length:Int))) (λs=>n - s.1.toNat) _ ⟨0,Nat.zero_le _,by simp [bZ,qM]⟩ ?_;rintro s ⟨j,hj,rfl⟩;rcases eN j n with hlt|hge
  ·have hlen:= @qJ p m F j;rcases eN (bZ p m F j).2.length m with hl|hl
   ·refine .inl ⟨_,aMh ⟨T.hp,T.hN,T.hm,T.hn,oX (by have:=eP T.hp;omega) T.hi j⟩ hlt _ hl _,⟨j+1,hlt,rfl⟩,?_⟩;simp;omega
   ·refine .inr ⟨_,?_,rfl⟩;unfold eT;simp only;have e:=aEH (p:=p) (F:=F) (j:=j) (by omega:(bZ p m F j).2.length=m) (n - j);rw [show j+(n - j)=n by omega] at e;rw [iL hlt,aL,kR hl,aP,e]
  ·have e:j=n:=by omega
   subst e;refine .inr ⟨_,?_,rfl⟩;unfold eT;simp only;rw [kR (bG _),aP]
 rw [h1,h2,aA]
end
noncomputable section
set_option maxRecDepth 10000
set_option maxHeartbeats 4000000
def iO (v1:Mt) (v3:(List Int)) (x1:((List Int)×Int)) (x2:((List Int)×Int)):Option (((List Int)×Int) ⊕ (List Int)):=
 bif decide (x2.2<(v3.length:Int)) then
 ((dL v3 x2.2).bind λv5=>
 (dL x2.1 (wr ((wr (x2.2*v1.cols))+x1.2))).bind λv6=>
 some (.inl ((x2.1.set ((wr ((wr (x2.2*v1.cols))+x1.2)).toNat) v5),wr (x2.2+1))))
 else
 (some (.inr x2.1))
def iP (a1:(List (List Int))) (v1:Mt) (x1:((List Int)×Int)):Option (((List Int)×Int) ⊕ (List Int)):=
 bif decide (x1.2<(a1.length:Int)) then
 ((dL a1 x1.2).bind λv3=>
 (Lp (iO v1 v3 x1) (x1.1,0)).bind λy7=>
 some (.inl (y7,wr (x1.2+1))))
 else
 (some (.inr x1.1))
def iH (a0:Int) (a1:(List (List Int))):Option Mt:=
 (sW a0 (a1.length:Int)).bind λv1=>
 (Lp (iP a1 v1) (v1.cells,0)).bind λy8=>
 some ((⟨v1.rows,v1.cols,y8⟩:Mt))
theorem aAe (a0:Int) (a1:(List (List Int))) (r:Mt) (h:iH a0 a1=some r):HasC Tryz.prog 235 [.int a0,.list 1 (a1.map (jA 1 eI))] (.agg (eM r)):=by
 refine hM [.cell 4 130] Tryz.func235 Tryz.ntmps235 k<|sR<|ae (cH aQ k k) k<|an<|tn<|sR<|am k k<|am k k<|ln k4<|oB h λv1 hv1 h=>ae (cM (aCN a0 (a1.length:Int) v1 hv1) k3 (bN k (bN k aI))) k<|ae (cH aQ k k) k<|ae (ws k) k<|an<|tn<|sQ<|sR<|am k k<|ln k4<|am k k<|an<|tn<|aH<|oB h λy8 hy8 h=>bX (body:=(iP a1 v1)) hy8 (λ(x1:((List Int)×Int))=>mN [(4,.ptr 0 0 0),(5,.ptr 1 0 0),(14,.list 1 (a1.map (jA 1 eI))),(15,.int (a1.length:Int)),(16,.int x1.2)] [(0,⟨3,[jM]⟩),(1,⟨3,[[.int v1.rows,.int v1.cols,.own 2 0 x1.1.length]]⟩),(2,⟨1,x1.1.map (ow eI)⟩)] 3) (λr e t=>e= .exit 0∧Ent t (mN [(4,.ptr 0 0 0),(5,.ptr 1 0 0)] [(0,⟨3,[jM]⟩),(1,⟨3,[[.int v1.rows,.int v1.cols,.own 2 0 r.length]]⟩),(2,⟨1,r.map (ow eI)⟩)] 3)) (ntZ [0,2,1] (bK k2) (cP k<|nO k<|dJ k<|bA) k4) ?_ ?_
 ·intro x1 o h;refine sR<|cm k4<|an<|tn<|sQ<|cJ k h (λ_ h=>?_) λ_ h=>aY<|aC<|aC<|sp h ⟨_,k,k,(bL (bK k2) (cP k<|nO k<|dJ k<|bA) k4)⟩;refine aG<|tn<|sQ<|aH<|sR<|am k k<|oB h λv3 hv3 h=>ae (xl hv3 k) k<|lr k7<|aa k k<|aT k2<|sR<|am k k<|ln k4<|am k k<|an<|tn<|aH<|oB h λy7 hy7 h=>bX (body:=(iO v1 v3 x1)) hy7 (λ(x2:((List Int)×Int))=>mN [(4,.ptr 0 0 0),(5,.ptr 1 0 0),(6,.int x1.2),(14,.list 1 (a1.map (jA 1 eI))),(15,.int (a1.length:Int)),(16,.int x1.2),(21,.list 1 (v3.map eI)),(22,.int (v3.length:Int)),(23,.int x2.2)] [(0,⟨3,[jM]⟩),(1,⟨3,[[.int v1.rows,.int v1.cols,.own 2 0 x2.1.length]]⟩),(2,⟨1,x2.1.map (ow eI)⟩)] 3) (λr e t=>e= .exit 2∧Ent t (mN [(4,.ptr 0 0 0),(5,.ptr 1 0 0),(14,.list 1 (a1.map (jA 1 eI))),(15,.int (a1.length:Int)),(16,.int x1.2)] [(0,⟨3,[jM]⟩),(1,⟨3,[[.int v1.rows,.int v1.cols,.own 2 0 r.length]]⟩),(2,⟨1,r.map (ow eI)⟩)] 3)) (bL (bK k2) (cP k<|nO k<|dJ k<|bA) k4) ?_ ?_
  ·intro x2 o h;refine sR<|cm k4<|an<|tn<|sQ<|cJ k h (λ_ h=>?_) λ_ h=>aY<|aC<|aC<|sp h ⟨_,k,k,(bL (bK k2) (cP k<|nO k<|dJ k<|bA) k4)⟩;refine aG<|tn<|sQ<|aH<|sR<|am k k<|oB h λv5 hv5 h=>ae (xl hv5 k) k<|lr k7<|aa k k<|aT k2<|rg<|fp k8<|lp k8<|am k k<|fp k8<|lp k8<|ae (gI k k) k<|am k k<|ae (bH k k) k<|am k k<|oB h λv6 hv6 h=>ae (xo hv6 k) k<|ae (mI aQ vL (u:=v5) (iK hv6) k k k k k k) k<|an<|aX<|tn<|rg ?_;exact ae (bH k k) k<|am k k<|an<|tn<|sp h ⟨_,k,(bL (bK k2) (cP k<|hX ⟨_,k,k,.inr ⟨_,_,k,⟨_,_,k,k,⟨_,_,k,k,⟨_,_,k,⟨k,k,(by simp only [bF,lA,lT,lR,lC,lN]),k⟩,k⟩⟩⟩,k⟩⟩ k<|dJ k<|bA) k4)⟩
  ·rintro e t ⟨rfl,hent⟩;exact aM<|aX<|tn<|aO hent<|rg<|ae (bH k k) k<|am k k<|an<|tn<|sp h ⟨_,k,(bL (bK k2) (cP k<|nO k<|dJ k<|bA) k4)⟩
 ·rintro e t ⟨rfl,hent⟩;exact aM<|tn<|aO hent<|sR<|lp k8<|ae (ws k) k<|an<|tn<|aD<|sp h (aR k k k (mA (aZ (k) (aZ (k) (aZ (fK dH k k) fH)))))
end
noncomputable section
set_option maxRecDepth 10000
set_option maxHeartbeats 4000000
end
noncomputable section
def dN (r:Rp) (k:Nat):Nat:=(r.dims[k]?.getD 0).toNat
theorem yQ {r:Rp} (h:mB r=true):jO r.p=true∧aCO r.q r.dims=true∧r.maps.length=r.q.src.length∧ ∀ k,k<r.maps.length→wM r.p (r.maps[k]?.getD ⟨0,0,[]⟩)=true∧(r.maps[k]?.getD ⟨0,0,[]⟩).cols=r.dims[(r.q.src[k]?.getD 0).toNat]?.getD 0∧(r.maps[k]?.getD ⟨0,0,[]⟩).rows=r.dims[(r.q.tgt[k]?.getD 0).toNat]?.getD 0:=by
 unfold mB at h;simp only [cV,iR,rO] at h;exact ⟨h.1,h.2.1,by omega,h.2.2.2⟩
theorem aHj (c:Nat) (f:Nat→Nat→Int): ∀ n,((List.range n).map λi=>fL c (f i)).flatten=bT n c f
 |0=>by simp [bT]
 |n+1=>by
  rw [List.range_succ,List.map_append,List.flatten_append,aHj c f n];unfold bT;rw [Nat.succ_mul,List.range_add,List.map_append];congr 1;simp only [List.map_cons,List.map_nil,List.flatten_cons,List.flatten_nil,List.append_nil,List.map_map,fL];refine aAn λj hj=>?_;have hj:=List.mem_range.1 hj;simp only [Function.comp];rw [aDj hj,aDk hj]
theorem aFm {l:List (List Int)} (h: ∀ x∈l,x.length≤1024):l.flatten.length≤1024*l.length:=by
 induction l with
 |nil=>simp
 |cons x l ih=>
  have h1:=h x (by simp);have h2:=ih λy hy=>h y (by simp [hy]);simp only [List.flatten_cons,List.length_append,List.length_cons];omega
theorem uD {l:List (List Int)} {k:Nat} (hk:k<l.length):(l.take (k+1)).flatten=(l.take k).flatten++l[k]:=by
 rw [uV hk,List.flatten_append];simp
theorem aLf {l:List (List Int)} (hl:l.length≤512) (h: ∀ x∈l,x.length≤1024):fZ l=some l.flatten:=by
 have hb: ∀ k,(l.take k).flatten.length ≤1024*512:=λk=>by
  have:=aFm (l:=l.take k) λx hx=>h x (List.mem_of_mem_take hx);have h2:(l.take k).length ≤512:=by simp;omega
  omega
 unfold fZ;rw [dQ (r:=(l.flatten.length:Int)) (λk=>(((l.take k).flatten.length:Int),(k:Int))) l.length (by simp) (λk hk=>?_) (λ_=>?_),aA]
 ·have e:=hb l.length;rw [List.take_length] at e;unfold aIb;rw [bB (by omega),bB (by omega:(l.flatten.length:Int)≤1048576),Bool.and_self,aL,aA];rw [dQ (r:=l.flatten) (λk=>((l.take k).flatten,(k:Int))) l.length (by simp) (λk hk=>?_) (λ_=>?_),aA]
  ·unfold eZ;simp only;have e2:=hb (k+1);rw [uD hk,List.length_append] at e2;rw [iL hk,aL,bP hk,aA,bB (by omega),aL,bW hk (by omega),uD hk]
  ·unfold eZ;simp only;rw [kR (bG _),aP,List.take_length]
 ·unfold eY;simp only;have e2:=hb (k+1);rw [uD hk,List.length_append] at e2;rw [iL hk,aL,bP hk,aA,fX (x:=_+_) (by omega),bU (by omega),aP,bW hk (by omega),uD hk,List.length_append,Int.natCast_add (List.take k l).flatten.length l[k].length]
 ·unfold eY;simp only;rw [kR (bG _),aP,List.take_length]
end
noncomputable section
set_option maxRecDepth 10000
set_option maxHeartbeats 4000000
def mQ (a0:(List (List Int))) (x1:(Int×Int)):Option ((Int×Int) ⊕ (Int ⊕ Int)):=
 bif decide (x1.2<(a0.length:Int)) then
 ((dL a0 x1.2).bind λv3=>
 (fB v3 x1.1).bind λv4=>
 bif decide (v4<0) then
 (some (.inr (.inr ((-1)))))
 else
 (some (.inl (v4,wr (x1.2+1)))))
 else
 (some (.inr (.inl x1.1)))
def qY (a0:(List (List Int))) (a1:Int):Option Int:=
 bif decide (wr (a1 - (a0.length:Int))<0) then
 (some ((-1)))
 else
 ((Lp (mQ a0) (wr (a1 - (a0.length:Int)),0)).bind λy6=>
 Sum.elim (λy7=>
 some (y7)
 )
 (λy8=>
 some y8
 )
 y6)
theorem aEL (a0:(List (List Int))) (a1:Int) (r:Int) (h:qY a0 a1=some r):HasC Tryz.prog 25 [.list 1 (a0.map (jA 1 eI)),.int a1] (.int r):=by
 refine hM [.tmp 4] Tryz.func25 Tryz.ntmps25 k<|sR<|aT k2<|sR<|am k k<|am k k<|ln k4<|ae (oY k k) k<|aT k2<|sQ<|sR<|am k k<|cm k4<|an<|tn<|cJ k h (λ_ h=>sR<|aT k2<|aD<|aB<|uT h k2) λ_ h=>?_;refine aG<|tn<|sQ<|sR<|aT k2<|aH<|oB h λy6 hy6 h=>bX (body:=(mQ a0)) hy6 (λ(x1:(Int×Int))=>mN [(0,.list 1 (a0.map (jA 1 eI))),(1,.int x1.1),(5,.int x1.2)] [] 0) (λr e t=>Sum.elim (λa=>(λr e t=>e= .exit 0∧Ent t (mN [(1,.int r)] [] 0)) a e t) (λb=>(λr e t=>e= .ret∧nJ TT [.tmp 4] (.int r) .ret t) b e t) r) (bL (bK k2) bA k4) ?_ ?_
 ·intro x1 o h;exact sQ<|sR<|am k k<|am k k<|ln k4<|cm k4<|an<|tn<|cJ k h (λ_ h=>aG<|tn<|sQ<|aH<|sR<|am k k<|am k k<|oB h λv3 hv3 h=>ae (xl hv3 k) k<|lr k7<|am k k<|oB h λv4 hv4 h=>ae (aE (lV v3 x1.1 v4 hv4) k (bN k (bN k aI))) k<|aT k2<|sR<|am k k<|cm k4<|an<|tn<|cJ k h (λ_ h=>sR<|aT k2<|aD<|aU<|aB<|aB<|sp h ⟨_,k,k,aR k k k (xC k)⟩) λ_ h=>aG<|aX<|tn<|rg<|am k k<|ae (bH k k) k<|aT k2<|sp h ⟨_,k,(bL (bK k2) bA k4)⟩) λ_ h=>aY<|aC<|aC<|sp h ⟨_,k,k,(bL (bK k2) bA k4)⟩
 ·intro e t hX;rcases y6 with y7|y8
  ·obtain ⟨rfl,hent⟩:=hX;exact aM<|tn<|aO hent<|sR<|am k k<|aT k2<|aD<|uT h k2
  ·obtain ⟨rfl,hent⟩:=hX;exact aU<|aB<|sp h hent
def uO (a0:Sc) (a1:Int):Option Int:=
 (qY a0.basis a1).bind λv1=>
 bif decide (v1<0) then
 (some ((-1)))
 else
 (some (v1))
theorem aEM (a0:Sc) (a1:Int) (r:Int) (h:uO a0 a1=some r):HasC Tryz.prog 112 [.agg (eS a0),.int a1] (.int r):=by
 exact hM [.tmp 4] Tryz.func112 Tryz.ntmps112 k<|sR<|ae (wb k) k<|aT k2<|sR<|fp k8<|lp k8<|am k k<|oB h λv1 hv1 h=>ae (aE (aEL a0.basis a1 v1 hv1) k (bN k (bN k aI))) k<|aT k2<|sQ<|sR<|am k k<|cm k4<|an<|tn<|cJ k h (λ_ h=>sR<|aT k2<|aD<|aB<|uT h k2) λ_ h=>aG<|tn<|sR<|am k k<|aT k2<|aD<|uT h k2
def lE (a0:(List Sc)) (x1:(Int×Int)):Option ((Int×Int) ⊕ (Int ⊕ Int)):=
 bif decide (x1.2<(a0.length:Int)) then
 ((dL a0 x1.2).bind λv3=>
 (uO v3 x1.1).bind λv4=>
 bif decide (v4<0) then
 (some (.inr (.inr ((-1)))))
 else
 (some (.inl (v4,wr (x1.2+1)))))
 else
 (some (.inr (.inl x1.1)))
def pQ (a0:(List Sc)) (a1:Int):Option Int:=
 bif decide (wr (a1 - (a0.length:Int))<0) then
 (some ((-1)))
 else
 ((Lp (lE a0) (wr (a1 - (a0.length:Int)),0)).bind λy6=>
 Sum.elim (λy7=>
 some (y7)
 )
 (λy8=>
 some y8
 )
 y6)
theorem aCf (a0:(List Sc)) (a1:Int) (r:Int) (h:pQ a0 a1=some r):HasC Tryz.prog 45 [.list 2 (a0.map eS),.int a1] (.int r):=by
 refine hM [.tmp 4] Tryz.func45 Tryz.ntmps45 k<|sR<|aT k2<|sR<|am k k<|am k k<|ln k4<|ae (oY k k) k<|aT k2<|sQ<|sR<|am k k<|cm k4<|an<|tn<|cJ k h (λ_ h=>sR<|aT k2<|aD<|aB<|uT h k2) λ_ h=>?_;refine aG<|tn<|sQ<|sR<|aT k2<|aH<|oB h λy6 hy6 h=>bX (body:=(lE a0)) hy6 (λ(x1:(Int×Int))=>mN [(0,.list 2 (a0.map eS)),(1,.int x1.1),(5,.int x1.2)] [] 0) (λr e t=>Sum.elim (λa=>(λr e t=>e= .exit 0∧Ent t (mN [(1,.int r)] [] 0)) a e t) (λb=>(λr e t=>e= .ret∧nJ TT [.tmp 4] (.int r) .ret t) b e t) r) (bL (bK k2) bA k4) ?_ ?_
 ·intro x1 o h;exact sQ<|sR<|am k k<|am k k<|ln k4<|cm k4<|an<|tn<|cJ k h (λ_ h=>aG<|tn<|sQ<|aH<|sR<|am k k<|am k k<|oB h λv3 hv3 h=>ae (xl hv3 k) k<|lr k7<|am k k<|oB h λv4 hv4 h=>ae (aE (aEM v3 x1.1 v4 hv4) k (aN (iV k) (bN k aI))) k<|aT k2<|sR<|am k k<|cm k4<|an<|tn<|cJ k h (λ_ h=>sR<|aT k2<|aD<|aU<|aB<|aB<|sp h ⟨_,k,k,aR k k k (xC k)⟩) λ_ h=>aG<|aX<|tn<|rg<|am k k<|ae (bH k k) k<|aT k2<|sp h ⟨_,k,(bL (bK k2) bA k4)⟩) λ_ h=>aY<|aC<|aC<|sp h ⟨_,k,k,(bL (bK k2) bA k4)⟩
 ·intro e t hX;rcases y6 with y7|y8
  ·obtain ⟨rfl,hent⟩:=hX;exact aM<|tn<|aO hent<|sR<|am k k<|aT k2<|aD<|uT h k2
  ·obtain ⟨rfl,hent⟩:=hX;exact aU<|aB<|sp h hent
def mR (a0:(List (List Int))) (x1:((List (List Int))×Int)):Option (((List (List Int))×Int) ⊕ (List (List Int))):=
 bif decide (x1.2<(a0.length:Int)) then
 ((dL a0 x1.2).bind λv2=>
 (gA v2).bind λv3=>
 (dL x1.1 x1.2).bind λv4=>
 some (.inl ((x1.1.set x1.2.toNat v3),wr (x1.2+1))))
 else
 (some (.inr x1.1))
def qZ (a0:(List (List Int))):Option (List (List Int)):=
 bif (decide (0≤(a0.length:Int))&&decide ((a0.length:Int)≤1048576)) then
 ((Lp (mR a0) ((List.replicate ((a0.length:Int).toNat) ([]:(List Int))),0)).bind λy5=>
 some (y5))
 else none
theorem aEN (a0:(List (List Int))) (r:(List (List Int))) (h:qZ a0=some r):HasC Tryz.prog 32 [.list 1 (a0.map (jA 1 eI))] (.list 1 (r.map (jA 1 eI))):=by
 refine hM [.tmp 2] Tryz.func32 Tryz.ntmps32 k<|sR<|aT k2<|sR<|am k k<|ln k4<|cG h λq6 h=>ae (xF aQ q6 k k k k k k k k) k<|aT k2<|aO (t:=mN [(0,.list 1 (a0.map (jA 1 eI))),(3,.own 0 0 ((List.replicate ((a0.length:Int).toNat) ([]:(List Int))).length))] [(0,⟨1,List.map (ow (jA 1 eI)) (List.replicate ((a0.length:Int).toNat) ([]:(List Int)))⟩)] 1) (bL (xU 1 k2 (vE ⟨_,k,⟨k,k,(by simp only [bF,lA,lT,lR,lC,lN]),k⟩⟩ bA)) (hX ⟨_,k,k,.inr (aKC _)⟩ k<|bA) k4)<|sQ<|sR<|aT k2<|aH<|oB h λy5 hy5 h=>bX (body:=(mR a0)) hy5 (λ(x1:((List (List Int))×Int))=>mN [(0,.list 1 (a0.map (jA 1 eI))),(3,.own 0 0 x1.1.length),(4,.int x1.2)] [(0,⟨1,x1.1.map (ow (jA 1 eI))⟩)] 1) (λr e t=>e= .exit 0∧Ent t (mN [(3,.own 0 0 r.length)] [(0,⟨1,r.map (ow (jA 1 eI))⟩)] 1)) (bL (bK k2) (sU (gM.plainO _) k<|bA) k4) ?_ ?_
 ·intro x1 o h;exact sQ<|sR<|am k k<|am k k<|ln k4<|cm k4<|an<|tn<|cJ k h (λ_ h=>aG<|tn<|sQ<|aH<|rg<|am k k<|am k k<|am k k<|am k k<|oB h λv2 hv2 h=>ae (xl hv2 k) k<|lr k7<|oB h λv3 hv3 h=>ae (cL dH (lW v2 v3 hv3) k3 (bN k aI)) k<|oB h λv4 hv4 h=>ae (xo hv4 k) k<|ae (zH aQ k k k k k k (qD (iK hv4)) k) k<|an<|aX<|tn<|rg<|am k k<|ae (bH k k) k<|aT k2<|sp h ⟨_,k,(Ent.trans (show Ent _ (mN [(0,.list 1 (a0.map (jA 1 eI))),(3,.own 0 0 ((x1.1.set x1.2.toNat v3).length)),(4,.int (wr (x1.2+1)))] [(0,⟨1,List.map (ow (jA 1 eI)) (x1.1.set x1.2.toNat v3)⟩)] 2) from (Ent.trans (uJ (b:=0) (b':=1) (j:=0) (es':=v3.map eI) (by rw [eD];exact vJ hv4) k k k k (bF _ _) (dH.frzs _)) (bL (xU 1 k2 (vE ⟨_,k,⟨k,k,(by simp only [bF,lA,lT,lR,lC,lN]),k⟩⟩ (bK k2))) (hX ⟨_,k,k,.inl ⟨aGJ v3 k,gM.plainO _⟩⟩ k<|bA) k4))) (bL (bK k2) (sU (gM.plainO _) k<|bA) k4))⟩) λ_ h=>aY<|aC<|aC<|sp h ⟨_,k,k,(bL (bK k2) (sU (gM.plainO _) k<|bA) k4)⟩
 ·rintro e t ⟨rfl,hent⟩;exact aM<|tn<|aO hent<|sR<|am k k<|aT k2<|aD<|sp h (aR k k k (nM (fK gM k k)))
def rA (a0:Sc):Option Sc:=
 (qZ a0.basis).bind λv1=>
 some ((⟨a0.size,v1⟩:Sc))
theorem aEO (a0:Sc) (r:Sc) (h:rA a0=some r):HasC Tryz.prog 122 [.agg (eS a0)] (.agg (eS r)):=by
 refine hM [.cell 2 134] Tryz.func122 Tryz.ntmps122 k<|sR<|ae (wb k) k<|ae (cH aQ k k) k<|an<|tn<|sR<|ae (cH aQ k k) k<|an<|tn<|sR<|fp k8<|lp k8<|fp k8<|ae (ws k) k<|an<|tn<|sR<|fp k8<|lp k8<|oB h λv1 hv1 h=>ae (cL gM (aEN a0.basis v1 hv1) k3 (bN k aI)) k<|fp k8<|ae (ws k) k<|an<|tn<|sQ ?_;exact rg<|lp k8<|ae (ws k) k<|an<|tn<|aD<|sp h (aR k k k (mA (aZ (k) (aZ (fK gM k k) fH))))
def lF (a0:(List Sc)) (x1:((List Sc)×Int)):Option (((List Sc)×Int) ⊕ (List Sc)):=
 bif decide (x1.2<(a0.length:Int)) then
 ((dL a0 x1.2).bind λv2=>
 (rA v2).bind λv3=>
 (dL x1.1 x1.2).bind λv4=>
 some (.inl ((x1.1.set x1.2.toNat v3),wr (x1.2+1))))
 else
 (some (.inr x1.1))
def pR (a0:(List Sc)):Option (List Sc):=
 bif (decide (0≤(a0.length:Int))&&decide ((a0.length:Int)≤1048576)) then
 ((Lp (lF a0) ((List.replicate ((a0.length:Int).toNat) ((⟨0,[]⟩:Sc):Sc)),0)).bind λy5=>
 some (y5))
 else none
theorem aCg (a0:(List Sc)) (r:(List Sc)) (h:pR a0=some r):HasC Tryz.prog 56 [.list 2 (a0.map eS)] (.list 2 (r.map eS)):=by
 refine hM [.tmp 2] Tryz.func56 Tryz.ntmps56 k<|sR<|aT k2<|sR<|am k k<|ln k4<|cG h λq6 h=>ae (xF aQ q6 k k k k k k k k) k<|aT k2<|aO (t:=mN [(0,.list 2 (a0.map eS)),(3,.own 0 0 ((List.replicate ((a0.length:Int).toNat) ((⟨0,[]⟩:Sc):Sc)).length))] [(0,⟨2,List.map (ow eS) (List.replicate ((a0.length:Int).toNat) ((⟨0,[]⟩:Sc):Sc))⟩)] 1) (bL (xU 1 k2 (vE ⟨_,k,⟨k,k,(by simp only [bF,lA,lT,lR,lC,lN]),k⟩⟩ bA)) (hX ⟨_,k,k,.inr (aAb (e:=eS) (z:=(⟨0,[]⟩:Sc)) (zc:=[.int 0,.nil 1]) ⟨_,_,k,k,⟨_,_,k,k,k⟩⟩ _)⟩ k<|bA) k4)<|sQ<|sR<|aT k2<|aH<|oB h λy5 hy5 h=>bX (body:=(lF a0)) hy5 (λ(x1:((List Sc)×Int))=>mN [(0,.list 2 (a0.map eS)),(3,.own 0 0 x1.1.length),(4,.int x1.2)] [(0,⟨2,x1.1.map (ow eS)⟩)] 1) (λr e t=>e= .exit 0∧Ent t (mN [(3,.own 0 0 r.length)] [(0,⟨2,r.map (ow eS)⟩)] 1)) (bL (bK k2) (sU (aBG.plainO _) k<|bA) k4) ?_ ?_
 ·intro x1 o h;exact sQ<|sR<|am k k<|am k k<|ln k4<|cm k4<|an<|tn<|cJ k h (λ_ h=>aG<|tn<|sQ<|aH<|rg<|am k k<|am k k<|am k k<|am k k<|oB h λv2 hv2 h=>ae (xl hv2 k) k<|lr k7<|oB h λv3 hv3 h=>ae (cS (aEO v2 v3 hv3) k3 (aN (iV k) aI)) k<|oB h λv4 hv4 h=>ae (xo hv4 k) k<|ae (zH aQ k k k k k k (qD (iK hv4)) k) k<|an<|aX<|tn<|rg<|am k k<|ae (bH k k) k<|aT k2<|sp h ⟨_,k,(Ent.trans (show Ent _ (mN [(0,.list 2 (a0.map eS)),(3,.own 0 0 ((x1.1.set x1.2.toNat v3).length)),(4,.int (wr (x1.2+1)))] [(0,⟨2,List.map (ow eS) (x1.1.set x1.2.toNat v3)⟩)] 2) from (Ent.trans (uJ (b:=0) (b':=1) (j:=1) (es':=v3.basis.map (jA 1 eI)) (by rw [eD];exact vJ hv4) k k k k (bF _ _) (gM.frzs _)) (bL (xU 1 k2 (vE ⟨_,k,⟨k,k,(by simp only [bF,lA,lT,lR,lC,lN]),k⟩⟩ (bK k2))) (hX ⟨_,k,k,.inl ⟨aGJ v3 k,aBG.plainO _⟩⟩ k<|bA) k4))) (bL (bK k2) (sU (aBG.plainO _) k<|bA) k4))⟩) λ_ h=>aY<|aC<|aC<|sp h ⟨_,k,k,(bL (bK k2) (sU (aBG.plainO _) k<|bA) k4)⟩
 ·rintro e t ⟨rfl,hent⟩;exact aM<|tn<|aO hent<|sR<|am k k<|aT k2<|aD<|sp h (aR k k k (nM (fK aBG k k)))
def mS (a0:(List (List Int))) (a1:(List (List Int))) (x1:Int):Option (Int ⊕ (Unit ⊕ Bool)):=
 bif decide (x1<(a0.length:Int)) then
 ((dL a0 x1).bind λv3=>
 (dL a1 x1).bind λv4=>
 (hO v3 v4).bind λv5=>
 bif !v5 then
 (some (.inr (.inr (false))))
 else
 (some (.inl (wr (x1+1)))))
 else
 (some (.inr (.inl ())))
def rB (a0:(List (List Int))) (a1:(List (List Int))):Option Bool:=
 bif !decide ((a0.length:Int)=(a1.length:Int)) then
 (some (false))
 else
 ((Lp (mS a0 a1) 0).bind λy7=>
 Sum.elim (λy8=>
 some (true)
 )
 (λy9=>
 some y9
 )
 y7)
theorem aEP (a0:(List (List Int))) (a1:(List (List Int))) (r:Bool) (h:rB a0 a1=some r):HasC Tryz.prog 41 [.list 1 (a0.map (jA 1 eI)),.list 1 (a1.map (jA 1 eI))] (.bl r):=by
 refine hM [.tmp 4] Tryz.func41 Tryz.ntmps41 k<|sR<|aT k2<|sQ<|sR<|am k k<|ln k4<|am k k<|ln k4<|cm k4<|an<|tn<|cJ k h (λ_ h=>sR<|aT k2<|aD<|aB<|eJ h k2) λ_ h=>?_;refine aG<|tn<|sQ<|sR<|aT k2<|aH<|oB h λy7 hy7 h=>bX (body:=(mS a0 a1)) hy7 (λ(x1:Int)=>mN [(0,.list 1 (a0.map (jA 1 eI))),(1,.list 1 (a1.map (jA 1 eI))),(5,.int x1)] [] 0) (λr e t=>Sum.elim (λa=>(λr e t=>e= .exit 0∧Ent t (mN [] [] 0)) a e t) (λb=>(λr e t=>e= .ret∧nJ TT [.tmp 4] (.bl r) .ret t) b e t) r) (bL (bK k2) bA k4) ?_ ?_
 ·intro x1 o h;exact sQ<|sR<|am k k<|am k k<|ln k4<|cm k4<|an<|tn<|cJ k h (λ_ h=>aG<|tn<|sQ<|aH<|sQ<|aW jN<|am k k<|am k k<|oB h λv3 hv3 h=>ae (xl hv3 k) k<|lr k7<|am k k<|am k k<|oB h λv4 hv4 h=>ae (xl hv4 k) k<|lr k7<|oB h λv5 hv5 h=>ae (aE (lX v3 v4 v5 hv5) k (bN k (bN k aI))) k<|ae (cK k) k<|an<|tU (by kernel_rfl)<|tn<|cJ k h (λ_ h=>sR<|aT k2<|aD<|aU<|aB<|aB<|sp h ⟨_,k,k,aR k k k (iY k)⟩) λ_ h=>aG<|aX<|tn<|rg<|am k k<|ae (bH k k) k<|aT k2<|sp h ⟨_,k,(bL (bK k2) bA k4)⟩) λ_ h=>aY<|aC<|aC<|sp h ⟨_,k,k,(bL bA bA k4)⟩
 ·intro e t hX;rcases y7 with y8|y9
  ·obtain ⟨rfl,hent⟩:=hX;exact aM<|tn<|aO hent<|sR<|aT k2<|aD<|eJ h k2
  ·obtain ⟨rfl,hent⟩:=hX;exact aU<|aB<|sp h hent
def rC (a0:Sc) (a1:Sc):Option Bool:=
 bif !decide (a0.size=a1.size) then
 (some (false))
 else
 ((rB a0.basis a1.basis).bind λv2=>
 bif !v2 then
 (some (false))
 else
 (some (true)))
theorem aEQ (a0:Sc) (a1:Sc) (r:Bool) (h:rC a0 a1=some r):HasC Tryz.prog 134 [.agg (eS a0),.agg (eS a1)] (.bl r):=by
 exact hM [.tmp 4] Tryz.func134 Tryz.ntmps134 k<|sR<|ae (wb k) k<|ae (wb k) k<|aT k2<|sQ<|sR<|fp k8<|lp k8<|fp k8<|lp k8<|cm k4<|an<|tn<|cJ k h (λ_ h=>sR<|aT k2<|aD<|aB<|eJ h k2) λ_ h=>aG<|tn<|sQ<|sR<|fp k8<|lp k8<|fp k8<|lp k8<|oB h λv2 hv2 h=>ae (aE (aEP a0.basis a1.basis v2 hv2) k (bN k (bN k aI))) k<|ae (cK k) k<|an<|tn<|cJ k h (λ_ h=>sR<|aT k2<|aD<|aB<|eJ h k2) λ_ h=>aG<|tn<|sR<|aT k2<|aD<|eJ h k2
def lG (a0:(List Sc)) (a1:(List Sc)) (x1:Int):Option (Int ⊕ (Unit ⊕ Bool)):=
 bif decide (x1<(a0.length:Int)) then
 ((dL a0 x1).bind λv3=>
 (dL a1 x1).bind λv4=>
 (rC v3 v4).bind λv5=>
 bif !v5 then
 (some (.inr (.inr (false))))
 else
 (some (.inl (wr (x1+1)))))
 else
 (some (.inr (.inl ())))
def pS (a0:(List Sc)) (a1:(List Sc)):Option Bool:=
 bif !decide ((a0.length:Int)=(a1.length:Int)) then
 (some (false))
 else
 ((Lp (lG a0 a1) 0).bind λy7=>
 Sum.elim (λy8=>
 some (true)
 )
 (λy9=>
 some y9
 )
 y7)
theorem aCh (a0:(List Sc)) (a1:(List Sc)) (r:Bool) (h:pS a0 a1=some r):HasC Tryz.prog 69 [.list 2 (a0.map eS),.list 2 (a1.map eS)] (.bl r):=by
 refine hM [.tmp 4] Tryz.func69 Tryz.ntmps69 k<|sR<|aT k2<|sQ<|sR<|am k k<|ln k4<|am k k<|ln k4<|cm k4<|an<|tn<|cJ k h (λ_ h=>sR<|aT k2<|aD<|aB<|eJ h k2) λ_ h=>?_;refine aG<|tn<|sQ<|sR<|aT k2<|aH<|oB h λy7 hy7 h=>bX (body:=(lG a0 a1)) hy7 (λ(x1:Int)=>mN [(0,.list 2 (a0.map eS)),(1,.list 2 (a1.map eS)),(5,.int x1)] [] 0) (λr e t=>Sum.elim (λa=>(λr e t=>e= .exit 0∧Ent t (mN [] [] 0)) a e t) (λb=>(λr e t=>e= .ret∧nJ TT [.tmp 4] (.bl r) .ret t) b e t) r) (bL (bK k2) bA k4) ?_ ?_
 ·intro x1 o h;exact sQ<|sR<|am k k<|am k k<|ln k4<|cm k4<|an<|tn<|cJ k h (λ_ h=>aG<|tn<|sQ<|aH<|sQ<|aW jN<|am k k<|am k k<|oB h λv3 hv3 h=>ae (xl hv3 k) k<|lr k7<|am k k<|am k k<|oB h λv4 hv4 h=>ae (xl hv4 k) k<|lr k7<|oB h λv5 hv5 h=>ae (aE (aEQ v3 v4 v5 hv5) k (aN (iV k) (aN (iV k) aI))) k<|ae (cK k) k<|an<|tU (by kernel_rfl)<|tn<|cJ k h (λ_ h=>sR<|aT k2<|aD<|aU<|aB<|aB<|sp h ⟨_,k,k,aR k k k (iY k)⟩) λ_ h=>aG<|aX<|tn<|rg<|am k k<|ae (bH k k) k<|aT k2<|sp h ⟨_,k,(bL (bK k2) bA k4)⟩) λ_ h=>aY<|aC<|aC<|sp h ⟨_,k,k,(bL bA bA k4)⟩
 ·intro e t hX;rcases y7 with y8|y9
  ·obtain ⟨rfl,hent⟩:=hX;exact aM<|tn<|aO hent<|sR<|aT k2<|aD<|eJ h k2
  ·obtain ⟨rfl,hent⟩:=hX;exact aU<|aB<|sp h hent
end
noncomputable section
theorem aNZ {l:List Int} {left:Int} (hl:fI l) (h0:0≤left) (h1:left≤1048576):fB l left=some (aKK l left):=aKL hl h0 h1
def fLs (l:List (List Int)):Prop:=fI l∧ ∀ m∈l,fI m
theorem aOL {l:List (List Int)} {left:Int} (hl:fLs l) (h0:0≤left) (h1:left≤1048576):qY l left=some (zS aKK l left):=by
 obtain ⟨ha,hb⟩:=hl;unfold fI at ha;unfold qY zS;rw [aDg (by omega)];by_cases h:left - l.length<0
 ·rw [bB h,aV h];rfl
 ·rw [bU h,aS h,aP];refine aDB (f:=aKK) aBr (by omega) (λv k hk g0 g1=>?_) (λv=>?_) _ (by omega) (by omega)
  ·unfold mQ;simp only;rw [iL hk,aL,bP hk,aA,aNZ (hb _ (List.getElem_mem hk)) g0 g1,aA];cases decide ((aKK) l[k] v<0) <;> rfl
  ·unfold mQ;simp only;rw [kR (bG _),aP]
def fS (s:Sc):Prop:=fLs s.basis
theorem aPB {s:Sc} {left:Int} (hl:fS s) (h0:0≤left) (h1:left≤1048576):uO s left=some (zSc s left):=
 mP (aOL hl h0 h1) (sD aBr _) h0 h1 λv _ _=>rfl
def fSs (l:List Sc):Prop:=fI l∧ ∀ m∈l,fS m
theorem aOM {l:List Sc} {left:Int} (hl:fSs l) (h0:0≤left) (h1:left≤1048576):pQ l left=some (zS zSc l left):=by
 obtain ⟨ha,hb⟩:=hl;unfold fI at ha;unfold pQ zS;rw [aDg (by omega)];by_cases h:left - l.length<0
 ·rw [bB h,aV h];rfl
 ·rw [bU h,aS h,aP];refine aDB (f:=zSc) aEC (by omega) (λv k hk g0 g1=>?_) (λv=>?_) _ (by omega) (by omega)
  ·unfold lE;simp only;rw [iL hk,aL,bP hk,aA,aPB (hb _ (List.getElem_mem hk)) g0 g1,aA];cases decide ((zSc) l[k] v<0) <;> rfl
  ·unfold lE;simp only;rw [kR (bG _),aP]
theorem aON {l:List (List Int)} (h:l.length≤1048576∧ ∀ m∈l,bI m):qZ l=some l:=by
 obtain ⟨h,hb⟩:=h;unfold qZ;rw [bB (by omega),bB (by omega:(l.length:Int)≤1048576),Bool.and_self,aL];rw [uC [] (by omega) (λk hk r hr=>?_) (λr=>?_)];rfl
 ·unfold mR;simp only;rw [iL hk,aL,bP hk,aA,aKM (hb _ (List.getElem_mem hk)),aA,bP (hr▸hk),aA,eA]
 ·unfold mR;simp only;rw [kR (bG _),aP]
theorem aPD {s:Sc} (h:bS s):rA s=some s:=by
 unfold rA;rw [aON h.1,aA]
theorem aOO {l:List Sc} (h:l.length≤1048576∧ ∀ m∈l,bS m):pR l=some l:=by
 obtain ⟨h,hb⟩:=h;unfold pR;rw [bB (by omega),bB (by omega:(l.length:Int)≤1048576),Bool.and_self,aL];rw [uC (⟨0,[]⟩:Sc) (by omega) (λk hk r hr=>?_) (λr=>?_)];rfl
 ·unfold lF;simp only;rw [iL hk,aL,bP hk,aA,aPD (hb _ (List.getElem_mem hk)),aA,bP (hr▸hk),aA,eA]
 ·unfold lF;simp only;rw [kR (bG _),aP]
theorem aOP {a b:List (List Int)} (h:a.length≤1048576∧ ∀ m∈a,bI m):rB a b=some (decide (a=b)):=by
 obtain ⟨h,hb⟩:=h;unfold rB;rw [sY];by_cases e:a.length=b.length
 ·rw [bB e,dP,aP];refine uL (by omega) e (λk h1 h2=>?_) ?_
  ·unfold mS;rw [iL h1,aL,bP h1,aA,bP h2,aA,aKN (hb _ (List.getElem_mem h1)),aA];cases decide (a[k]=b[k]) <;> rfl
  ·unfold mS;rw [kR (bG _),aP]
 ·rw [bU e,Bool.not_false,aL,bU (by rintro rfl;exact e rfl)]
theorem aPE {a b:Sc} (h:bS a):rC a b=some (decide (a=b)):=by
 unfold rC;rw [eX (d:=decide (a.basis=b.basis)) (λ_=>?_)]
 ·cases a;cases b;simp
 ·rw [aOP h.1,aA,aDC]
theorem aOQ {a b:List Sc} (h:a.length≤1048576∧ ∀ m∈a,bS m):pS a b=some (decide (a=b)):=by
 obtain ⟨h,hb⟩:=h;unfold pS;rw [sY];by_cases e:a.length=b.length
 ·rw [bB e,dP,aP];refine uL (by omega) e (λk h1 h2=>?_) ?_
  ·unfold lG;rw [iL h1,aL,bP h1,aA,bP h2,aA,aPE (hb _ (List.getElem_mem h1)),aA];cases decide (a[k]=b[k]) <;> rfl
  ·unfold lG;rw [kR (bG _),aP]
 ·rw [bU e,Bool.not_false,aL,bU (by rintro rfl;exact e rfl)]
theorem aNa {w:World} {l:List (List Int)} {ds:List AV} (h: ∀ d∈ds,∃ v S',RepD w d v S') (hl:AV.list 1 (l.map eL)∈ds):fLs l:=by
 obtain ⟨h1,h2⟩:=yP h hl;refine ⟨h1,λv hv=>?_⟩;obtain ⟨v',S',h3⟩:=h2 v hv (yG v) (by simp);exact aMz h3
theorem aOR {w:World} {s:Sc} (h: ∀ d∈eS s,∃ v S',RepD w d v S'):fS s:=aNa h (by simp [eS])
theorem aNb {w:World} {l:List Sc} {ds:List AV} (h: ∀ d∈ds,∃ v S',RepD w d v S') (hl:AV.list 2 (l.map eS)∈ds):fSs l:=by
 obtain ⟨h1,h2⟩:=yP h hl;exact ⟨h1,λm hm=>aOR (h2 m hm)⟩
end
end Go.Proofs.YtilpfdokmlanjaaGreatDoor

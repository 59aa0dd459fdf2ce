/-
  Several texts of the claim in one.
-/
import Derived.Lib.AppendZerosOnto
import Derived.Test.YtilpfdokmlanjaaGreatProg
import Derived.Test.YtilpfdokmlanjaaGreatG6
set_option linter.unusedVariables false
set_option linter.unusedSimpArgs false
namespace Go.Proofs.YtilpfdokmlanjaaGreat
open Go.RowKit
noncomputable section
set_option maxRecDepth 10000
structure HasV (P:Program) (f:FuncId) (ds:List AV) (r:AV):Prop where
 enters:Enters P f
 calls: ∀ (w:World) (args:Array Value) (S:List Nat),RepVs w ds args.toList S→Calls P f args w λe w'=> ∃ v S',e= .returned v∧Below w.heap.size w w'∧RepD w' r v S'∧ ∀ x∈S',x∈S
theorem aDy {w:World} {h:Hp} {u:Us} {ν:Nu} {d:AV} {v:Value} (r:Rep1 w h u ν d v) (ok:fE d=true): ∃ S,RepD w d v S∧ ∀ x∈S,jR h ν x:=by
 cases d <;> simp only [fE,fJ] at ok <;> simp only [Rep1] at r
 ·exact ⟨[],by rw [r.1];exact aAb r.2,by simp⟩
 ·exact r
 ·exact r
theorem aEs {w:World} {h:Hp} {u:Us} {ν:Nu} : ∀ {ds:List AV} {vs:List Value},All2 (Rep1 w h u ν) ds vs→ds.all fE=true→ ∃ S,RepVs w ds vs S∧ ∀ x∈S,jR h ν x
 | [],vs,r,_=>by simp only [All2] at r;subst r;exact ⟨[],by simp [RepVs],by simp⟩
 |d::ds,vs,⟨v,q,e,r1,r2⟩,ok=>by
  subst e;simp only [List.all_cons,dF] at ok;obtain ⟨S1,a1,a2⟩:=aDy r1 ok.1;obtain ⟨S2,b1,b2⟩:=aEs r2 ok.2;refine ⟨S1++S2,by simp only [RepVs];exact ⟨v,q,S1,S2,rfl,rfl,a1,b1⟩,λx hx=>?_⟩;rcases eP.1 hx with h|h
  ·exact a2 x h
  ·exact b2 x h
theorem aRV {w:World} {h:Hp} {u:Us} {ν:Nu} {d:AV} {v:Value} (r:RepA w h u ν d v) (ok:vN d=true): ∃ S,RepD w d v S∧ ∀ x∈S,jR h ν x:=by
 cases d <;> simp only [vN,fE,fJ] at ok <;> simp only [RepA,RepB] at r
 ·exact aDy r rfl
 ·exact aDy r rfl
 ·exact aDy r rfl
 ·obtain ⟨vs,rfl,r⟩:=r;obtain ⟨S,a,b⟩:=aEs r ok;exact ⟨S,by simp only [RepD];exact ⟨vs,rfl,a⟩,b⟩
 ·obtain ⟨vs,rfl,r⟩:=r;obtain ⟨S,a,b⟩:=aEs r ok;exact ⟨S,by simp only [RepD];exact ⟨vs,rfl,a⟩,b⟩
theorem aEt {w:World} {h:Hp} {u:Us} {ν:Nu} : ∀ {ds:List AV} {vs:List Value},All2 (RepA w h u ν) ds vs→ds.all vN=true→ ∃ S,RepVs w ds vs S∧ ∀ x∈S,jR h ν x
 | [],vs,r,_=>by simp only [All2] at r;subst r;exact ⟨[],by simp [RepVs],by simp⟩
 |d::ds,vs,⟨v,q,e,r1,r2⟩,ok=>by
  subst e;simp only [List.all_cons,dF] at ok;obtain ⟨S1,a1,a2⟩:=aRV r1 ok.1;obtain ⟨S2,b1,b2⟩:=aEt r2 ok.2;refine ⟨S1++S2,by simp only [RepVs];exact ⟨v,q,S1,S2,rfl,rfl,a1,b1⟩,λx hx=>?_⟩;rcases eP.1 hx with h|h
  ·exact a2 x h
  ·exact b2 x h
section
variable {P:Program} {dst:Option Tmp} {ty:TypeId} {pos:String} {aft:Array Edge} {g:Option (Nat×Bool)} {ins:Operand→Option AV} {hp:Hp} {κ:Kp}
theorem aIv {fo:Operand} {xs:Array Operand} {ats:Array TypeId} {f:FuncId} {ds:List AV} {k:Nat} {es:List (List AV)} (hc:HasV P f ds (.list k es)) (hf:ins fo=some (.fn f [])) (hx:evs ins xs.toList=some ds) (hok:ds.all vN=true):
  AEff P ⟨dst,.call ⟨.value fo,xs,ats⟩,ty,pos,aft,g⟩ ins hp κ ⟨.list k es,[],[],[]⟩:=by
 refine ⟨λC s ν a w Q K {hκ} hi' ht hnw hd hs hK=>?_⟩;have h1:=hs.ev ((hi' fo (by simp [Op.operands,Call.operands])).trans hf);simp only [RepA,RepB] at h1;obtain ⟨cv,h1,h2⟩:=h1;simp only [All2] at h2;subst h2;have h3:=zO hs (xs:=xs.toList) (λy hy=>hi' y (by simp [Op.operands,Call.operands];exact .inr (Array.mem_toList_iff.1 hy))) hx;obtain ⟨S,e1,e2⟩:=aEt h3 hok;have hcall:=hc.calls w (xs.map a.eval) S (by simpa using e1);unfold Oper.wp
 have hex:(execOp a.eval ⟨dst,.call ⟨.value fo,xs,ats⟩,ty,pos,aft,g⟩).run P w= .ok (.enter f (xs.map a.eval)) w:=by
  have:execOp a.eval ⟨dst,.call ⟨.value fo,xs,ats⟩,ty,pos,aft,g⟩=callFunc f (xs.map a.eval):=by
   simp [execOp,resolve,h1,Deferred.ofValue,invoke]
  rw [this];exact hc.enters _ _
 rw [hex];simp only [Oper.upon];refine hcall.mono λe w' ⟨v,S',he,hb,hr,hsub⟩=>?_;subst he;simp only;obtain ⟨φ,hh⟩:=hs.heap;have ext:Ext w s.heap s.used ν w' s.heap s.used ν:=⟨λ_ h=>h,λ_ blk _ h=>⟨blk,h,rfl,rfl,rfl⟩,λx hx h=>⟨hb.block x hx,h⟩,rfl⟩;refine hK ν _ _ (hs.step hd (s':=s.app dst _) ext (hb.mono hs.base) ⟨φ,λb blk hbl=>?_,hh.apart⟩ rfl ?_)
 ·obtain ⟨g1,g2,g3,g4⟩:=hh.blk b blk hbl;exact ⟨g1,g2.ext ext rfl (λy hy=>hb.block y (g2.lt y hy)),g3,g4⟩
 ·exact ⟨S',hr,λx hx=>e2 x (hsub x hx)⟩
theorem aPI {T:List (Nat×Ty)} (hT:TyOk P T) {s:AState} {x:Operand} {zl zh:Operand} {t e:Nat} {y ye:Ty} {ao:Option Addr} {n c:Nat} {kl kh:IntKind} {l h:Int} (q:0≤l∧l≤h∧h≤n∧n≤c) (hx:s.ev x=some (.sc (.slice ao n c))) (hlo:s.ev zl=some (.sc (.int kl l))) (hhi:s.ev zh=some (.sc (.int kh h))) (hy:dY T t=some y) (hd:y.desc= .slice e) (hye:dY T e=some ye):
  AEff P ⟨dst,.slice t x (some zl) (some zh) none,ty,pos,aft,g⟩ s.ev s.heap s.kp ⟨.sc (.slice (if c=l.toNat then ao else ao.map (·.add (l.toNat*ye.size))) (h.toNat - l.toNat) (c - l.toNat)),[],[],[]⟩:=by
 refine AEff.pure λC s' ν a w hi' ht hs=>?_;have h1:=hs.ev ((hi' x (by simp [Op.operands])).trans hx);have h2:=hs.ev ((hi' zl (by simp [Op.operands])).trans hlo);have h3:=hs.ev ((hi' zh (by simp [Op.operands])).trans hhi);simp only [RepA,RepB,Rep1] at h1 h2 h3;obtain ⟨i1,z1,d1,y1⟩:=hT.is hy;obtain ⟨i2,z2,d2,y2⟩:=hT.is hye;have hsb:=wA (P:=P) (len:=n) (cap:=c) (lo:=some (.int kl l)) (hi:=some (.int kh h)) w (.inr ⟨kl,rfl⟩) (.inr ⟨kh,rfl⟩) q.1 q.2.1 q.2.2.1 q.2.2.2;refine ⟨_,?_,uI rfl⟩;simp only [execOp,Instr.sliceAt,Instr.slice,h1.1,h2.1,h3.1,Sem.run_bind,kD (y1.slice hd),Result.andThen_ok,kL y2.info,y2.size,Option.map_none,Option.map_some];rw [hsb];by_cases e:c=l.toNat <;> simp [e]
end
theorem aRW {w:World} {k n c:Nat} {es:List (List AV)} {ao:Option Addr} {S:List Nat} {l h:Int} (r:RepD w (.list k es) (.slice ao n c) S) (q:0≤l∧l≤h∧h≤n): ∃ S',RepD w (.list k ((es.drop l.toNat).take (h.toNat - l.toNat))) (.slice (if c=l.toNat then ao else ao.map (·.add (l.toNat*k))) (h.toNat - l.toNat) (c - l.toNat)) S'∧ ∀ x∈S',x∈S:=by
 simp only [RepD] at r ⊢;obtain ⟨ao',c',h3,h4,h5,h6⟩:=r;cases h3;have hlen:((es.drop l.toNat).take (h.toNat - l.toNat)).length=h.toNat - l.toNat:=by simp;omega
 rw [hlen];by_cases hz:h.toNat - l.toNat=0
 ·refine ⟨[],⟨_,_,rfl,by omega,by omega,.inl ⟨?_,rfl⟩⟩,by simp⟩;rw [hz];simp
 ·rcases h6 with ⟨h6,_⟩|⟨b,o,S',rfl,h8,rfl,h9⟩
  ·have:es.length=0:=by rw [h6];rfl
   omega
  ·rw [aW (by omega)];obtain ⟨U1,g1,g2⟩:=h9.dropT (m:=l.toNat);obtain ⟨U2,g3,g4⟩:=g1.takeT (m:=h.toNat - l.toNat);refine ⟨b::U2,⟨_,_,rfl,by omega,by omega,.inr ⟨b,o+l.toNat*k,U2,by simp [Addr.add_lit],h8,rfl,g3⟩⟩,?_⟩;intro y hy;rcases eC.1 hy with rfl|h'
   ·simp
   ·simp [g2 y (g4 y h')]
def aAA (m:Mt) (i:Int):Int:=wr (i*m.cols)
def aDU (m:Mt) (i:Int):Int:=wr (wr (i+1)*m.cols)
def aGc (m:Mt) (i:Int):Option (List Int):=bif (decide (0≤aAA m i)&&(decide (aAA m i≤aDU m i)&&decide (aDU m i≤(m.cells.length:Int)))) then some ((m.cells.drop (aAA m i).toNat).take ((aDU m i).toNat - (aAA m i).toNat)) else none
theorem aWH (m:Mt) (i:Int) (ao:Option Addr) (n c:Nat) (q:0≤aAA m i∧aAA m i≤aDU m i∧aDU m i≤n∧n≤c):HasC Tryz.prog 225 [.agg [.int m.rows,.int m.cols,.sc (.slice ao n c)],.int i]
  (.sc (.slice (if c=(aAA m i).toNat then ao else ao.map (·.add ((aAA m i).toNat *1))) ((aDU m i).toNat - (aAA m i).toNat) (c - (aAA m i).toNat))):=by
 refine aCg aD (rvs:=[.tmp 4]) (ns:=[0,1,2,3,4,5,6,7,8,9,10,11,12,13]) Tryz.func225 rfl rfl Tryz.ntmps225 rfl rfl rfl ?_;refine fS ?_;refine cW ?_;refine aA (yQ rfl rfl rfl rfl) rfl rfl rfl ?_;refine aA (cX rfl) rfl rfl rfl ?_;refine dK ?_;refine gP ?_;refine fS ?_;refine cW ?_;refine aA (eW aD rfl rfl rfl rfl rfl rfl rfl) rfl rfl rfl ?_;refine aA (cI aD rfl rfl rfl rfl rfl rfl rfl) rfl rfl rfl ?_;refine aA (cS rfl) rfl rfl rfl ?_;refine aA (eW aD rfl rfl rfl rfl rfl rfl rfl) rfl rfl rfl ?_;refine aA (cI aD rfl rfl rfl rfl rfl rfl rfl) rfl rfl rfl ?_;refine aA (fZ rfl rfl) rfl rfl rfl ?_;refine aA (cS rfl) rfl rfl rfl ?_;refine aA (bF rfl rfl) rfl rfl rfl ?_;refine aA (eW aD rfl rfl rfl rfl rfl rfl rfl) rfl rfl rfl ?_;refine aA (cI aD rfl rfl rfl rfl rfl rfl rfl) rfl rfl rfl ?_;refine aA (fZ rfl rfl) rfl rfl rfl ?_;refine aA (aPI aD (l:=aAA m i) (h:=aDU m i) q rfl rfl rfl rfl rfl rfl) rfl rfl rfl ?_;refine aA (cX rfl) rfl rfl rfl ?_;refine dK ?_;refine gP ?_;refine aJ ?_;exact bT rfl rfl rfl (aXI rfl)
theorem aPJ (m:Mt) (i:Int) (r:List Int) (h:aGc m i=some r):HasV Tryz.prog 225 [.agg (eM m),.int i] (.list 1 (List.map eI r)):=by
 obtain ⟨q,h⟩:=cg h;obtain rfl:=so h;simp only [dF,iD] at q;refine ⟨Enters.mk Tryz.func225 (by kernel_rfl) (by kernel_rfl),λw args S hargs=>?_⟩;obtain ⟨args⟩:=args;simp only [RepVs] at hargs;obtain ⟨v,r,S1,S2,h1,rfl,h3,v2,r2,S3,S4,h4,rfl,h5,rfl,rfl⟩:=hargs;subst h4 h1;simp only [RepD,eM] at h3;obtain ⟨vs,rfl,h3⟩:=h3;simp only [RepVs] at h3;obtain ⟨u1,r1,T1,T2,rfl,rfl,g1,u2,r3,T3,T4,rfl,rfl,g2,u3,r4,T5,T6,rfl,rfl,g3,rfl,rfl⟩:=h3
 have hu3: ∃ ao n c,u3= .slice ao n c∧n=m.cells.length∧n≤c:=by
  simp only [RepD] at g3;obtain ⟨a,c,rfl,g4,_⟩:=g3;exact ⟨_,_,_,rfl,by simp [aNJ],g4⟩
 obtain ⟨ao,n,c,rfl,hn,hnc⟩:=hu3
 have hcall:=(aWH m i ao n c ⟨q.1,q.2.1,by omega,hnc⟩).calls w #[.agg #[u1,u2,.slice ao n c],v2] (T1++(T3++([]++[]))++(S3++[])) (by
  simp only [RepVs];refine ⟨_,_,_,_,rfl,rfl,?_,_,_,_,_,rfl,rfl,h5,rfl,rfl⟩;simp only [RepD];refine ⟨[u1,u2,.slice ao n c],rfl,?_⟩;simp only [RepVs]
  exact ⟨_,_,_,_,rfl,rfl,by simpa only [RepD] using g1,_,_,_,_,rfl,rfl,by simpa only [RepD] using g2,_,_,[],[],rfl,rfl,aAb rfl,rfl,rfl⟩)
 refine hcall.mono λe w' ⟨v,S',he,hb,hr,_⟩=>?_;simp only [aIe,aRK,aAc] at hr;obtain ⟨rfl,_,_⟩:=hr;obtain ⟨U,k1,k2⟩:=aRW (l:=aAA m i) (h:=aDU m i) g3 ⟨q.1,q.2.1,by omega⟩;refine ⟨_,U,he,hb,?_,?_⟩
 ·have hes:((aRN m.cells).drop (aAA m i).toNat).take ((aDU m i).toNat - (aAA m i).toNat)=List.map eI ((m.cells.drop (aAA m i).toNat).take ((aDU m i).toNat - (aAA m i).toNat)):=by
   show ((m.cells.map eI).drop _).take _=_;rw [List.map_take,List.map_drop]
  rw [←hes];exact k1.below hb
 ·intro x hx;have:=k2 x hx;simp [this]
def aTA (hp:Hp) (touch:List Nat):List (Nat×Option Blk)→Prop
 | []=>True
 |(b,x)::r=>hp b=x∧touch.contains b=true∧aTA hp touch r
theorem aHR {hp h:Hp} {touch:List Nat} (ht: ∀ b∈touch,h b=hp b): ∀ {ed:List (Nat×Option Blk)},aTA hp touch ed→bB ed h=h
 | [],_=>rfl
 |(b,x)::r,⟨h1,h2,h3⟩=>by
  funext c;simp only [bB];by_cases e:c=b
  ·subst e;rw [bY,aM,←h1,ht c (by simpa using h2)]
  ·rw [cB e,aX,aHR ht h3]
theorem AEff.pureE {P:Program} {o:Oper} {ins:Operand→Option AV} {hp:Hp} {κ:Kp} {v:AV} {tc:List Nat} {ed:List (Nat×Option Blk)} (h:AEff P o ins hp κ ⟨v,tc,ed,[]⟩) (hs:aTA hp tc ed):AEff P o ins hp κ ⟨v,tc,[],[]⟩:=by
 refine ⟨λC s ν a w Q K {hκ} hi ht hn hd hsim hK=>h.out C s ν a w Q K (hκ:=hκ) hi ht hn hd hsim λν' a' w' hs'=>hK ν' a' w' ?_⟩
 have e:s.app o.dst ⟨v,tc,ed,[]⟩=s.app o.dst ⟨v,tc,[],[]⟩:=by
  unfold AState.app;rw [aHR ht hs];rfl
 rw [←e];exact hs'
theorem aLs {P:Program} {t tn e bytes:Nat} {size:Nat} (et:ElemTy P t e size bytes) (htn:P.underlying tn=some (.int .i64)) (hs:0<size) (w:World) (n:Nat) (h0:0<n) (hn:n≤1048576) (hb:n*bytes≤140737488355328) (ty:Nat):
  ∃ G cur,n≤G∧G≤maxLen∧cur.size=G*size∧(Builtin.append_ #[t,tn] ty #[.slice none 0 0,.int .i64 n]).run P w= .ok (.slice (some ⟨w.heap.size,0,none⟩) n G) (w.drew.alloc (.cells cur e)):=by
 obtain ⟨i,z,h1,h2,h3,h4,h5⟩:=et.hi;have hold:(Builtin.firstCells i.size 0 (.slice none 0 0)).run P w.drew= .ok ([]:List Value).toArray w.drew:=run_firstCells_none w.drew i.size 0 0 0;have h:=Lib.run_append_grow_zeros w t tn ty e i z .i64 .i64 et.ht htn h1 h2 none 0 0 [] hold n h0 (by rw [h3];exact hs) (by omega) (by omega) (by rw [h4];omega) (growslice_fits (by omega) (by rw [h4];simpa using hb));have hG:=grownCap_ge w (0+n) 0 e;have hM:=grownCap_le_maxLen w (0+n) 0 e (by unfold maxLen;omega);rw [Nat.zero_add] at h hG hM;refine ⟨grownCap w n 0 e,_,hG,hM,?_,h⟩;simp only [Array.size_append,List.size_toArray,List.length_nil,Nat.zero_add];unfold Builtin.zeroCells;simp only [Array.size_map,Array.size_range,h5];rw [←Nat.add_mul];congr 1;omega
set_option maxRecDepth 100000 in
set_option maxHeartbeats 1000000 in
theorem aUp (n:Nat) (w:World) (hn:n≤1048576):
  Calls Tryz.prog 210 #[.slice none 0 0,.int .i64 n] w (Ret w λv w'=> ∃ S,Own 3 aKD w' w.heap.size v [] S):=by
 by_cases h0:n=0
 ·subst h0;show Calls Tryz.prog 210 #[.slice none 0 0,.int .i64 0] w _
  go_enter Tryz.func210,Tryz.ntmps210
  go_wp2
  go_ret
  exact ⟨_,rfl,Below.refl _ _,[],Own.nil _ _ _ _⟩
 ·have h1: ¬ ((n:Int)<0):=by omega
  have h4:(n:Int)>0:=by omega
  have key: ∀ ty,∃ G cur,n≤G∧G≤maxLen∧cur.size=G*1∧(Builtin.append_ #[22,3] ty #[.slice none 0 0,.int .i64 n]).run Tryz.prog w= .ok (.slice (some ⟨w.heap.size,0,none⟩) n G) (w.drew.alloc (.cells cur 3)):=λty=>
   aLs aXN Tryz.underlying3 (by decide) w n (by omega) hn (by omega) ty
  obtain ⟨G,cur,hG,hM,hc,hr0⟩:=key 22;have hG63:G≤9223372036854775807:=by unfold maxLen at hM;omega
  have HE:Hid (Own 3 aKD (w.drew.alloc (.cells cur 3)) w.heap.size (.slice (some ⟨w.heap.size,0,none⟩) 0 G) [] [w.heap.size]∧Below w.heap.size w (w.drew.alloc (.cells cur 3))):=
   ⟨⟨[],[],World.ownsRow_made w.drew cur G (bO _) hM hc,⟨rfl,rfl⟩,rfl,⟨by simp,by simp⟩⟩,((aMs 1 (Below.refl _ _):Below w.heap.size w (w.drewN 1))).alloc (bO _) _⟩
  clear key hM hc
  go_enter Tryz.func210,Tryz.ntmps210
  go_wp2_with (at_builtin;refine Lib.wpList_append_run _ rfl _ _ _ _ rfl _ _ rfl rfl _ _ hr0 ?_)
  all_goals (go_ret;exact ⟨_,rfl,HE.out.2,_,HE.out.1⟩)
def aLt (n:Int):Option (List Int):=bif (decide (0≤n)&&decide (n≤1048576)) then some [] else none
theorem aUq {h:Hp} {k:Nat} :viewA h (.nil k) (.sc (.slice none 0 0)):=rfl
theorem aWI (n:Int) (r:List Int) (h:aLt n=some r):HasC Tryz.prog 210 [.sc (.slice none 0 0),.int n] (.list 1 (List.map eI r)):=by
 obtain ⟨q,h⟩:=cg h;obtain rfl:=so h;simp only [dF,iD] at q;refine ⟨Enters.mk Tryz.func210 (by kernel_rfl) (by kernel_rfl),λw args S hargs=>?_⟩;obtain ⟨args⟩:=args;simp only [RepVs,RepD] at hargs;obtain ⟨v,r,S1,S2,h1,rfl,⟨rfl,_,rfl⟩,v2,r2,S3,S4,rfl,rfl,⟨rfl,_,rfl⟩,rfl,rfl⟩:=hargs;subst h1;have hc:=aUp n.toNat w (by omega);rw [show ((n.toNat:Nat):Int)=n by omega] at hc;refine hc.mono λe w' ⟨v,he,hb,S2,ho⟩=>?_;obtain ⟨g1,g2⟩:=aNS ho;exact ⟨v,S2,he,hb,g1,g2⟩
end
noncomputable section
structure HasT (P:Program) (f:FuncId) (ds:List AV) (hl:List (Nat×Blk)) (kp:Nat) (r:AV) (hl':List (Nat×Blk)):Prop where
 enters:Enters P f
 calls: ∀ (B:Nat) (M:Nat→Prop) (w:World) (args:Array Value) (ν:Nu) (φ:Nat→List Nat),(∀ x,M x→B≤x)→B≤w.heap.size→(∀ x,w.heap.size≤x→M x)→(∀ x,M x→ν.ok x)→All2 (RepA w (fR hl) (rE kp) ν) ds args.toList→HeapOk M w (fR hl) (rE kp) ν φ→
  Calls P f args w λe w'=> ∃ v u' ν' φ',e= .returned v∧Below B w w'∧ExtF (λx=> ¬ M x) w (fR hl) (rE kp) ν w' (fR hl') u' ν'∧HeapOk M w' (fR hl') u' ν' φ'∧RepA w' (fR hl') u' ν' r v
theorem aUr {M:Nat→Prop} {w:World} {h:Hp} {u:Us} {ν:Nu} {φ:Nat→List Nat} (hh:HeapOk M w h u ν φ) {x:Nat} (hx: ¬ M x):sD h ν x:=by
 intro b blk β c hb hν e;subst e;obtain ⟨_,g2,_,g4⟩:=hh.blk b blk hb;exact hx (g4 _ (mZ g2 hν))
theorem ExtF.shrink {F:Nat→Prop} {w w':World} {h h' g:Hp} {u u':Us} {ν ν':Nu} (e:ExtF F w h u ν w' h' u' ν') (hg: ∀ b blk,g b=some blk→h' b=some blk):ExtF F w h u ν w' g u' ν':=
 ⟨e.used,λb blk hb hgb=>e.old b blk hb (hg b blk hgb),λx hx hf=>⟨(e.free x hx hf).1,λb blk β c hb hν=>(e.free x hx hf).2 b blk β c (hg b blk hb) hν⟩,e.okE⟩
theorem aQP {P:Program} {T:List (Nat×Ty)} (hT:TyOk P T) {f:FuncId} {fn:Func} {c:Code} {nt kp:Nat} {ds:List AV} {hl hl':List (Nat×Blk)} {r:AV} {rvs:List ResultVar} {ns:List Nat} (hf:P.funcs[f]? =some fn) (hb:fn.body=some c) (hname:(fn.name== "runtime.NumGoroutine")=false) (hnt:fn.ntmps=nt) (hres:fn.results.toList=rvs)
  (hlen:Nat.ble ds.length nt=true) (h:AC P nt c ⟨aCf ds,fR hl,rE kp,ns,⟨kp,true,none,true⟩⟩ (λe t=> ∃ t',Ent t t'∧aXL T rvs r hl' e t')):HasT P f ds hl kp r hl':=by
 refine ⟨Enters.mk hf (by rw [hb];rfl) hname,λB M w args ν φ hMB hB hM hMo hargs hheap=>?_⟩;refine (callsIn_wide (n:=0)).1 (callsIn_of_wp_marks (F:=fw none) hf hb trivial ?_);have hlen':=Nat.le_of_ble_eq_true hlen;have hal:args.size=ds.length:=by have:=hargs.len;simpa using this
 let C:Ctx:=⟨B,w,nt,M,hMB,⟨kp,true,none,true⟩,w,fR hl,ν,λx=> ¬ M x,(λ_ x _ hm hn=>hn hm),(λ_ h=>by cases h),none,λ_=>rfl⟩
 have hsim:Sim C ⟨aCf ds,fR hl,rE kp,ns,⟨kp,true,none,true⟩⟩ ν ⟨args++Array.replicate (fn.ntmps - args.size) undef,[]⟩ w:=by
  refine ⟨Below.refl _ _,hB,hM,tB,by show (args++Array.replicate (fn.ntmps - args.size) undef).size=nt;simp [hnt];omega,?_,⟨φ,hheap⟩,rfl,ExtF.refl λ_ _ h=>aUr hheap h,bO _,hMo,λ_ h=>by cases h⟩;intro t x hx;have hx':ds[t]? =some x:=by rw [←aDP];exact hx
  obtain ⟨v,h1,h2⟩:=hargs.get hx';refine ⟨v,?_,h2⟩
  have hlt:t<args.size:=by
   rcases eD t args.size with h'|h'
   ·exact h'
   ·rw [gB (by simpa using h')] at h1;cases h1
  show (args++Array.replicate (fn.ntmps - args.size) undef)[t]? =some v;rw [Array.getElem?_append_left hlt];simpa using h1
 refine wpIn_mono (h.out C rfl _ _ w hsim 0) λe a' w0 ⟨s1,ν1,⟨s',hent,hq⟩,hs1⟩=>?_;obtain ⟨ν',hs0⟩:=hent C ν1 a' w0 hs1;obtain ⟨Ds,d1,d2,d3⟩:=hs0.defers;obtain ⟨w',hs',hleave⟩:=hs0.leave (P:=P) (n:=0) d1 d2 d3;obtain ⟨he,⟨avs,hv,hone⟩,hsame⟩:=hq;have hsub: ∀ b blk,fR hl' b=some blk→s'.heap b=some blk:=λb blk hb=>aGX hsame (lF hb);obtain ⟨us,h1,h2⟩:=xN hT hs' hv;obtain ⟨φ',hh⟩:=hs'.heap
 have hrun:(results fn a'.tmps).run P w'= .ok (if hh:us.toArray.size=1 then us.toArray[0] else .tuple us.toArray) w':=by
  unfold results;rw [Sem.run_bind,Array.mapM_eq_mapM_toList,Sem.run_map,hres];have h1':=h1;generalize hq:(List.mapM _ rvs:Sem (List Value))=m;rw [show Sem.run P m w'= .ok us w' by rw [←hq];exact h1'];simp
 have shr:=(Ext.refl w' s'.heap s'.used ν').shrink hsub
 have hrep:RepA w' (fR hl') s'.used ν' r (if hh:us.toArray.size=1 then us.toArray[0] else .tuple us.toArray):=by
  rcases hone with rfl|⟨g1,g2,rfl⟩
  ·obtain ⟨u,q,rfl,k1,k2⟩:=h2;simp only [All2] at k2;subst k2;exact k1.ext shr
  ·have hul:us.length=avs.length:=h2.len;rw [dif_neg (by simp;rw [hul];exact g1)];refine ⟨us,rfl,h2.congrM λx hx v hr=>?_⟩;exact aSw (hr.ext shr) (List.all_eq_true.1 g2 x hx)
 have hend:=hleave fn (λe w'=> ∃ v u' ν' φ',e= .returned v∧Below B w w'∧ExtF (λx=> ¬ M x) w (fR hl) (rE kp) ν w' (fR hl') u' ν'∧HeapOk M w' (fR hl') u' ν' φ'∧RepA w' (fR hl') u' ν' r v)
  ⟨_,hrun,_,s'.used,ν',φ',rfl,hs'.below,hs'.ext.shrink hsub,hh.shrink hsub (λ_ _ _ _ h=>h),hrep⟩
 cases e <;> simp only [aCB,fJ] at he <;> exact hend
structure SOps (P:Program) (ops:Array Oper) (nt:Nat) (l:List Oper) (s:AState) (K:AState→Prop):Prop where
 out: ∀ (C:Ctx),C.nt=nt→ ∀ (ν:Nu) (a:Act) (w:World),Sim C s ν a w→ ∀ (n:Nat) (Q:Exit→Act→World→Prop),(∀ s' ν' a' w',K s'→Sim C s' ν' a' w'→Q .normal a' w')→wpListIn (fw C.rd) n P ops Q l a w
section
variable {P:Program} {ops:Array Oper} {nt:Nat} {l:List Oper} {s:AState} {K:AState→Prop}
theorem aTB (h:K s):SOps P ops nt [] s K:=⟨λC hC ν a w hs n Q hQ=>hQ s ν a w h hs⟩
theorem iJ {t:AState} (e:Ent s t) (h:SOps P ops nt l t K):SOps P ops nt l s K:=⟨λC hC ν a w hs n Q hQ=>by
 obtain ⟨ν',hs'⟩:=e C ν a w hs
 exact h.out C hC ν' a w hs' n Q hQ⟩
theorem aNT {d:Option Tmp} {op:Op} {ty:TypeId} {pos:String} {aft:Array Edge} {g:Option (Nat×Bool)} {e:Eff} (he:AEff P ⟨d,op,ty,pos,aft,g⟩ s.ev s.heap s.kp e) (hd:aFQ ⟨d,op,ty,pos,aft,g⟩ nt=true) (hg:nO ops s.env ⟨d,op,ty,pos,aft,g⟩=some true) (hn:(e.news.all λb=> !s.used b)=true)
  (h:SOps P ops nt l (s.app d e) K):SOps P ops nt (⟨d,op,ty,pos,aft,g⟩::l) s K:=⟨λC hC ν a w hs n Q hQ=>by
 subst hC;refine wpListIn_step λK' hK'=>?_;have hst:aLh P ops C.nt ⟨d,op,ty,pos,aft,g⟩ s e:=⟨aFR hd,.inl ⟨hg,he,λb hb=>by have:=List.all_eq_true.1 hn b hb;simpa using this⟩⟩
 exact aCb hst hs λν' a' w' hs'=>hK' _ _ (h.out C rfl ν' a' w' hs' n Q hQ)⟩
theorem aPK {Q:Exit→AState→Prop} {id:Nat} (h:SOps P l.toArray nt l s (Q .normal)):AC P nt (.region id l.toArray false) s Q:=by
 refine ⟨λC hC ν a w hs n=>?_⟩;exact wpIn_region_lit (h.out C hC ν a w hs n _ λs' ν' a' w' hq hs'=>⟨s',ν',hq,hs'⟩)
end
def df1:AV→Bool
 | .sc _=>true
 | .nil _=>true
 | .dead=>true
 | .own _ _ _=>true
 | .ptr _ _ _=>true
 |_=>false
def dfC:AV→Bool
 | .abs _ _=>true
 | .fn _ cs=>cs.all df1
 |x=>df1 x
def dfB:AV→Bool
 | .agg cs=>cs.all df1
 |x=>df1 x
def dfA:AV→Bool
 | .tuple cs=>cs.all dfB
 |x=>dfB x
section
variable {w w':World} {h h':Hp} {u u':Us} {ν ν':Nu} (U: ∀ b,u b=true→u' b=true) (O: ∀ b blk',u b=true→h' b=some blk'→ ∃ blk,h b=some blk∧blk.k=blk'.k∧blk.es.length=blk'.es.length∧ν' b=ν b)
include U O
theorem aLu: ∀ {x:AV} {v:Value},Rep1 w h u ν x v→df1 x=true→Rep1 w' h' u' ν' x v:=by
 intro x v r t;cases x <;> simp only [df1,fJ] at t <;> simp only [Rep1] at r ⊢
 ·exact r
 ·exact r
 ·refine ⟨U _ r.1,λblk hb=>?_⟩;obtain ⟨blk0,e1,e2,e3,e4⟩:=O _ blk r.1 hb;have:=r.2 blk0 e1;rw [e4,←e3,←e2];exact this
 ·refine ⟨U _ r.1,λblk hb=>?_⟩;obtain ⟨blk0,e1,e2,e3,e4⟩:=O _ blk r.1 hb;have:=r.2 blk0 e1;rw [e4,←e2];exact this
end
section
variable {w w':World} {h h':Hp} {u u':Us} {ν ν':Nu} (U: ∀ b,u b=true→u' b=true) (O: ∀ b blk',u b=true→h' b=some blk'→ ∃ blk,h b=some blk∧blk.k=blk'.k∧blk.es.length=blk'.es.length∧ν' b=ν b)
include U O
theorem aIw: ∀ {xs:List AV} {vs:List Value},All2 (Rep1 w h u ν) xs vs→xs.all df1=true→All2 (Rep1 w' h' u' ν') xs vs
 | [],vs,r,_=>r
 |x::xs,vs,⟨v,q,e,r,k⟩,t=>by
  simp only [List.all_cons,dF] at t;exact ⟨v,q,e,aLu U O r t.1,aIw k t.2⟩
theorem aQQ {x:AV} {v:Value} (r:RepB w h u ν x v) (t:dfB x=true):RepB w' h' u' ν' x v:=by
 cases x <;> simp only [RepB] at r ⊢ <;> first
  |exact aLu U O r t
  |(obtain ⟨vs,e,r⟩:=r;exact ⟨vs,e,aIw U O r t⟩)
  |(simp only [dfB,df1,fJ] at t)
theorem aQR {x:AV} {v:Value} (r:RepA w h u ν x v) (t:dfA x=true):RepA w' h' u' ν' x v:=by
 by_cases ht: ∃ cs,x= .tuple cs
 ·obtain ⟨cs,rfl⟩:=ht;obtain ⟨vs,e,r⟩:=r;refine ⟨vs,e,r.congrM λy hy d hd=>aQQ U O hd ?_⟩;exact List.all_eq_true.1 t y hy
 ·have r':RepB w h u ν x v:=by cases x <;> first|exact r|exact absurd ⟨_,rfl⟩ ht
  have t':dfB x=true:=by cases x <;> first|exact t|exact absurd ⟨_,rfl⟩ ht
  have:=aQQ (w':=w') U O r' t';cases x <;> first|exact this|exact absurd ⟨_,rfl⟩ ht
theorem aUs {x:AV} {v:Value} {S:List Nat} (hk: ∀ b∈S,w'.heap[b]? =w.heap[b]?) (r:CellRep w h u ν x v S) (t:dfC x=true):CellRep w' h' u' ν' x v S:=by
 cases x <;> simp only [CellRep] at r ⊢ <;> first
  |exact ⟨aLu U O r.1 t,r.2⟩
  |(obtain ⟨⟨vs,e,q⟩,q2⟩:=r;exact ⟨⟨vs,e,aIw U O q t⟩,q2⟩)
  |exact r.keep hk
  |exact r
theorem aFb: ∀ {xs:List AV} {vs:List Value} {S:List Nat},(∀ b∈S,w'.heap[b]? =w.heap[b]?)→CellsRep w h u ν xs vs S→(∀ c∈xs,dfC c=true)→CellsRep w' h' u' ν' xs vs S
 | [],_,_,_,r,_=>r
 |x::xs,vs,S,hk,⟨v,q,S1,S2,e1,e2,r,k⟩,t=>by
  subst e2;exact ⟨v,q,S1,S2,e1,rfl,aUs U O (λb hb=>hk b (by simp [hb])) r (t x (by simp)),aFb (λb hb=>hk b (by simp [hb])) k (λc hc=>t c (by simp [hc]))⟩
theorem aKm {b:Nat} {blk:Blk} {S:List Nat} (hν:ν' b=ν b) (hk: ∀ x∈S,w'.heap[x]? =w.heap[x]?) (r:BlkOk w h u ν b blk S) (t: ∀ cs∈blk.es,∀ c∈cs,dfC c=true):BlkOk w' h' u' ν' b blk S:=by
 refine ⟨r.1,?_⟩;rcases r.2 with ⟨q1,q2,q3⟩|⟨β,c,arr,ty,T,vs,q1,q2,q3,q4,q5,q6,q7,q8⟩
 ·exact .inl ⟨hν.trans q1,q2,q3⟩
 ·subst q6;refine .inr ⟨β,c,arr,ty,T,vs,hν.trans q1,(hk β (by simp)).trans q2,q3,q4,q5,rfl,q7,aFb U O (λx hx=>hk x (by simp [hx])) q8 λc hc=>?_⟩;obtain ⟨cs,hcs,hc⟩:=List.mem_flatten.1 hc;exact t cs hcs c hc
end
section
variable {P:Program} {ops:Array Oper} {nt:Nat} {l:List Oper} {s:AState} {K:AState→Prop} {dst:Option Tmp} {ty:TypeId} {pos:String} {aft:Array Edge}
theorem aTD {fo:Operand} {xs:Array Operand} {ats:Array TypeId} {f:FuncId} {caps avs ds:List AV} {hl hl' hl2:List (Nat×Blk)} {kp n':Nat} {r r2:AV} {σ σ':Nat→Option Nat} {touch news:List Nat} {ed:List (Nat×Option Blk)}
  (hc:HasT P f ds hl kp r hl') (hf:s.ev fo=some (.fn f caps)) (hx:evs s.ev xs.toList=some avs) (hav:All2 (pG σ kp) (avs++caps) ds) (hh:rG σ kp s.heap hl) (hi:aCc σ hl=true) (hit:zR σ touch hl=true) (hlive:(touch.all λb=>(s.heap b).isSome)=true)
  (hh':rG σ' n' (fR hl') hl2) (hi':aCc σ' hl2=true) (hr:pG σ' n' r r2) (hbk:aDQ σ σ' kp news hl2=true) (htl:aIt (touch++news) hl2) (htr:aKg (touch++news) r2=true) (he:yZ (touch++news) hl2=ed)
  (hd:aFQ ⟨dst,.call ⟨.value fo,xs,ats⟩,ty,pos,aft,none⟩ nt=true) (hn:(news.all λb=> !s.used b)=true) (hT:s.kp.T=true) (hdf: ∀ t x,s.env t=some x→dfA x=true) (hdc: ∀ b blk,s.heap b=some blk→b ∉ touch++news→ ∀ cs∈blk.es,∀ c∈cs,dfC c=true)
  (h:SOps P ops nt l (s.app dst ⟨r2,touch,ed,news⟩) K):SOps P ops nt (⟨dst,.call ⟨.value fo,xs,ats⟩,ty,pos,aft,none⟩::l) s K:=⟨λC hC ν a w hs n0 Q hQ=>by
 subst hC;refine wpListIn_step λK' hK'=>?_;rw [aY (aGQ hs (ops:=ops) (t:=true) rfl)];refine aVd (λc h=>by cases h) ?_;have hnw: ∀ b∈news,s.used b=false:=λb hb=>by have:=List.all_eq_true.1 hn b hb;simpa using this
 have hfn:=hs.ev hf;simp only [RepA,RepB] at hfn;obtain ⟨cv,hfv,hcap⟩:=hfn;have hval:=zO hs (xs:=xs.toList) (λy hy=>rfl) hx;obtain ⟨φ,hφ⟩:=hs.heap;let h3:Hp:=λb=>if b∈touch then s.heap b else none
 have sub: ∀ b blk,h3 b=some blk→s.heap b=some blk∧b∈touch:=by
  intro b blk hb;by_cases e:b∈touch
  ·simp only [h3,aY e] at hb;exact ⟨hb,e⟩
  ·simp only [h3,aW e] at hb;cases hb
 let M2:Nat→Prop:=λx=>(∃ b,b∈touch∧s.heap b≠none∧x∈φ b)∨w.heap.size≤x
 have hM2: ∀ x,M2 x→C.M x:=by
  rintro x (⟨b,_,hb,hx⟩|hx)
  ·obtain ⟨blk,hb⟩:=Option.ne_none_iff_exists'.1 hb;exact (hφ.blk b blk hb).2.2.2 x hx
  ·exact hs.fresh x hx
 have hk3:HeapOk M2 w h3 s.used ν φ:=hφ.shrink (λb blk hb=>(sub b blk hb).1) (λb x hb hx _=>by
  obtain ⟨blk,hb⟩:=Option.ne_none_iff_exists'.1 hb;obtain ⟨e1,e2⟩:=sub b blk hb
  exact .inl ⟨b,e2,by rw [e1];simp,hx⟩)
 have hent:rG σ kp h3 hl:=yY (h:=s.heap) (touch:=touch) (λb hb=>by simp only [h3,aY hb]) hit hh;have cv1:=aBW (w:=w) (u:=s.used) (ν:=ν) hent hi;have hk4:=cv1.heap hk3;have shr3:Ext w s.heap s.used ν w h3 s.used ν:=(Ext.refl _ _ _ _).shrink (λb blk hb=>(sub b blk hb).1)
 have hargs:All2 (RepA w (fR hl) (rE kp) (jM σ ν)) ds (xs.toList.map a.eval++cv):=
  aCK (R:=RepA w s.heap s.used ν) (Mt:=pG σ kp) (R':=RepA w (fR hl) (rE kp) (jM σ ν)) (λx y v hx hm=>cv1.rep (RepA.ext shr3 hx) hm) (hval.append (hcap.mono λx v h=>Rep1.repA h)) hav
 have hcall:=hc.calls C.B M2 w ((xs.map a.eval)++cv.toArray) (jM σ ν) _ (λx hx=>C.low x (hM2 x hx)) hs.base (λx hx=> .inr hx) (λx hx=>hs.okM x (hM2 x hx)) (by simpa using hargs) hk4;unfold Oper.wp
 have hex:(execOp a.eval ⟨dst,.call ⟨.value fo,xs,ats⟩,ty,pos,aft,none⟩).run P w= .ok (.enter f ((xs.map a.eval)++cv.toArray)) w:=by
  have:execOp a.eval ⟨dst,.call ⟨.value fo,xs,ats⟩,ty,pos,aft,none⟩=callFunc f ((xs.map a.eval)++cv.toArray):=by
   simp [execOp,resolve,hfv,Deferred.ofValue,invoke]
  rw [this];exact hc.enters _ _
 rw [hex];simp only [Oper.upon];refine hcall.mono λe w' ⟨v,u1,ν1,φ1,hev,hbel,hext,hh1,hrep⟩=>?_;subst hev;simp only;have cv2:=aBW (w:=w') (u:=u1) (ν:=ν1) hh' hi';have hh2:=cv2.heap hh1;generalize hrl:touch++news=rl at*;let ν':Nu:=⟨λb=>if b∈rl then jM σ' ν1 b else ν b,ν.ok⟩;have hν1: ∀ b,b∈rl→ν' b=jM σ' ν1 b:=λb hb=>aY hb;have hν2: ∀ b,b ∉ rl→ν' b=ν b:=λb hb=>aW hb;have hheq: ∀ b,bB ed s.heap b=if b∈rl then fR hl2 b else s.heap b:=λb=>by rw [←he];exact aDR
 have hhe1: ∀ b,b∈rl→bB ed s.heap b=fR hl2 b:=λb hb=>by rw [hheq,aY hb]
 have hhe2: ∀ b,b ∉ rl→bB ed s.heap b=s.heap b:=λb hb=>by rw [hheq,aW hb]
 have hused: ∀ b,b∈rl→fT news s.used b=true:=by
  intro b hb;rw [←hrl] at hb;rw [gW];rcases eP.1 hb with h|h
  ·have h5:=List.all_eq_true.1 hlive b h;cases hq:s.heap b with
   |none=>rw [hq] at h5;cases h5
   |some blk=>rw [(hφ.blk b blk hq).1,Bool.or_true]
  ·have:news.contains b=true:=by simpa using h
   rw [this,Bool.true_or]
 have U: ∀ b,s.used b=true→fT news s.used b=true:=λb hb=>by rw [gW,hb,Bool.or_true]
 have O: ∀ b blk',s.used b=true→bB ed s.heap b=some blk'→ ∃ blk,s.heap b=some blk∧blk.k=blk'.k∧blk.es.length=blk'.es.length∧ν' b=ν b:=by
  intro b blk' hu hb;by_cases e:b∈rl
  ·rw [hhe1 b e] at hb;obtain ⟨i,e1,e2⟩:=aCJ hbk (lF hb);obtain ⟨x,f1,f2,f3⟩:=(cv2.look b blk' hb).1 i e1;rcases e2 with e2|⟨e2,e3⟩
   ·rw [hnw b e2] at hu;cases hu
   ·obtain ⟨blk0,g1,g2,g3,g4⟩:=hext.old i x e2 f1;obtain ⟨z,k1,k2,k3⟩:=(cv1.look i blk0 g1).1 b e3;refine ⟨z,(sub b z k1).1,k2.trans (g2.trans f2),k3.trans (g3.trans f3),?_⟩;rw [hν1 b e];simp only [jM,e1];rw [g4];simp only [jM,e3]
  ·rw [hhe2 b e] at hb;exact ⟨blk',hb,rfl,rfl,hν2 b e⟩
 have hout: ∀ b blk x,s.heap b=some blk→b ∉ rl→x∈φ b→w'.heap[x]? =w.heap[x]? :=by
  intro b blk x hb hbr hx;refine (hext.free x ((hφ.blk b blk hb).2.1.lt x hx) ?_).1;rintro (⟨b2,e1,e2,e3⟩|e1)
  ·have hne:b2≠b:=by rintro rfl;exact hbr (by rw [←hrl];exact List.mem_append_left _ e1)
   exact hφ.apart b2 b x e2 (by rw [hb];simp) hne e3 hx
  ·have:=(hφ.blk b blk hb).2.1.lt x hx;omega
 have hcross: ∀ b c x,fR hl2 b≠none→s.heap c≠none→c ∉ rl→x∈(match σ' b with|some b0=>φ1 b0|none=>[])→x ∉ φ c:=by
  intro b c x hb hc' hcr hx hx2;obtain ⟨y1,hy1⟩:=Option.ne_none_iff_exists'.1 hb;obtain ⟨y2,hy2⟩:=Option.ne_none_iff_exists'.1 hc';rcases (hh2.blk b y1 hy1).2.2.2 x hx with ⟨b2,e1,e2,e3⟩|e1
  ·have hne:b2≠c:=by rintro rfl;exact hcr (by rw [←hrl];exact List.mem_append_left _ e1)
   exact hφ.apart b2 c x e2 hc' hne e3 hx2
  ·have:=(hφ.blk c y2 hy2).2.1.lt x hx2;omega
 have hdef:OkD C w' a.defers:=by
  obtain ⟨Ds,q1,q2,q3⟩:=hs.defers;refine ⟨Ds,q1,q2,λD hD=>?_⟩;obtain ⟨p1,p2,p3⟩:=q3 D hD;refine ⟨p1,p2,(hext.free D (gV p3) ?_).1.trans p3⟩;rintro (⟨b,e1,e2,e3⟩|e1)
  ·obtain ⟨blk,hb⟩:=Option.ne_none_iff_exists'.1 e2;obtain ⟨o,o1,o2⟩:=(hφ.blk b blk hb).2.1.inC D e3;rw [p3] at o1;cases o1;cases o2
  ·have:=gV p3;omega
 have hfin:Sim C (s.app dst ⟨r2,touch,ed,news⟩) ν' (a.put dst v) w':=by
  refine ⟨hs.below.trans hbel,Nat.le_trans hs.base hbel.size,λx hx=>hs.fresh x (Nat.le_trans hbel.size hx),by rw [aIO];exact hdef,by rw [aMu];exact hs.size,?_,⟨λb=>if b∈rl then (match σ' b with|some b0=>φ1 b0|none=>[]) else φ b,?_,?_⟩,hs.kp,?_,Nat.le_trans hs.szE hbel.size,hs.okM,hs.okF⟩
  ·exact aQD hs.size (aFR hd).1 (λt x h=>by obtain ⟨v,h1,h2⟩:=hs.env t x h;exact ⟨v,h1,aQR U O h2 (hdf t x h)⟩) (aGZ (h1:=fR hl2) (u1:=rE n') (ν1:=jM σ' ν1) hhe1 hν1 hused (cv2.rep hrep hr) htr)
  ·intro b blk' hb;replace hb:bB ed s.heap b=some blk':=hb;by_cases e:b∈rl
   ·rw [hhe1 b e] at hb;simp only [aY e];obtain ⟨_,g2,g3,g4⟩:=hh2.blk b blk' hb;exact ⟨hused b e,aDS (h1:=fR hl2) (u1:=rE n') (ν1:=jM σ' ν1) hhe1 hν1 hused e g2 (aDx htl (lF hb)).2,g3,λx hx=>hM2 x (g4 x hx)⟩
   ·rw [hhe2 b e] at hb;simp only [aW e];obtain ⟨g1,g2,g3,g4⟩:=hφ.blk b blk' hb;exact ⟨U b g1,aKm U O (hν2 b e) (λx hx=>hout b blk' x hb e hx) g2 (hdc b blk' hb e),g3,g4⟩
  ·intro b c x hb hc' hne hxb hxc;replace hb:bB ed s.heap b≠none:=hb;replace hc':bB ed s.heap c≠none:=hc';by_cases e1:b∈rl <;> by_cases e2:c∈rl
   ·simp only [aY e1] at hxb;simp only [aY e2] at hxc;rw [hhe1 b e1] at hb;rw [hhe1 c e2] at hc';exact hh2.apart b c x hb hc' hne hxb hxc
   ·simp only [aY e1] at hxb;simp only [aW e2] at hxc;rw [hhe1 b e1] at hb;rw [hhe2 c e2] at hc';exact hcross b c x hb hc' e2 hxb hxc
   ·simp only [aW e1] at hxb;simp only [aY e2] at hxc;rw [hhe2 b e1] at hb;rw [hhe1 c e2] at hc';exact hcross c b x hc' hb e1 hxc hxb
   ·simp only [aW e1] at hxb;simp only [aW e2] at hxc;rw [hhe2 b e1] at hb;rw [hhe2 c e2] at hc';exact hφ.apart b c x hb hc' hne hxb hxc
  ·refine ⟨λb hb=>U b (hs.ext.used b hb),λb blk' hb hl'=>?_,λx hx hF=>?_,hs.ext.okE⟩
   ·obtain ⟨y,g1,g2,g3,g4⟩:=O b blk' (hs.ext.used b hb) hl';obtain ⟨z,k1,k2,k3,k4⟩:=hs.ext.old b y hb g1;exact ⟨z,k1,k2.trans g2,k3.trans g3,g4.trans k4⟩
   ·obtain ⟨g1,g2⟩:=hs.ext.free x hx hF;have hm: ¬ M2 x:=λhm=>C.tm (by rw [←hs.kp];exact hT) x hx (hM2 x hm) hF;obtain ⟨p1,p2⟩:=hext.free x (yS hx g1) hm;refine ⟨p1.trans g1,λb blk β c hb hν=>?_⟩;replace hb:bB ed s.heap b=some blk:=hb;by_cases e:b∈rl
    ·rw [hhe1 b e] at hb;rw [hν1 b e] at hν;exact cv2.free x p2 b blk β c hb hν
    ·rw [hhe2 b e] at hb;rw [hν2 b e] at hν;exact g2 b blk β c hb hν
 exact hK' _ _ (h.out C rfl _ _ _ hfin n0 Q hQ)⟩
end
end
noncomputable section
theorem aNU {w:World} {h:Hp} {u:Us} {ν:Nu} : ∀ {cs:List AV} {vs:List Value} {S:List Nat},RepOV w cs vs S→CellsRep w h u ν (cs.map vD) vs S
 | [],vs,S,r=>by simp only [RepOV] at r;exact r
 |c::cs,vs,S,r=>by
  simp only [RepOV] at r;obtain ⟨v,q,S1,S2,e1,e2,_,h3,h4⟩:=r;refine ⟨v,q,S1,S2,e1,e2,?_,aNU h4⟩;cases c with
  |sc x=>simp only [RepO] at h3;exact ⟨⟨h3.1,h3.2.1⟩,h3.2.2⟩
  |list k es=>exact h3
  |_=>simp only [RepO] at h3
theorem aPL {k:Nat} {es:List (List AV)} (h: ∀ cs∈es,cs.length=k): ∀ cs∈cN es,cs.length=k:=by
 intro cs hcs;unfold cN at hcs;obtain ⟨d,hd,rfl⟩:=List.mem_map.1 hcs;rw [fD];exact h d hd
theorem aIx (es:List (List AV)):(cN es).flatten=es.flatten.map vD:=by
 unfold cN;rw [List.map_flatten]
theorem aTE {s:AState} {b c i j k':Nat} {blk:Blk} {cs:List AV} {es':List (List AV)} (hT:s.kp.T=true) (hb:s.heap b=some blk) (hi:blk.es[i]? =some cs) (hj:cs[j]? =some (.abs k' es')) (hc:s.used c=false) (hdf: ∀ t x,s.env t=some x→dfA x=true) (hdc: ∀ b blk,s.heap b=some blk→ ∀ cs∈blk.es,∀ c∈cs,dfC c=true):
  Ent s ⟨s.env,bB [(c,some ⟨k',cN es'⟩),(b,some ⟨blk.k,blk.es.set i (cs.take j++[.own c 0 es'.length]++cs.drop (j+1))⟩)] s.heap,fT [c] s.used,s.ns,s.kp⟩:=by
 intro C ν a w hs;obtain ⟨φ,hh⟩:=hs.heap;obtain ⟨hub,⟨hk1,hx1⟩,hnd1,hB1⟩:=hh.blk b blk hb;have hne:b≠c:=by rintro rfl;rw [hub] at hc;cases hc
 have hcn:s.heap c=none:=hs.unused hc;have hcs:=hk1 cs (List.mem_of_getElem? hi)
 have hjl:j<cs.length:=by
  rcases eD j cs.length with h'|h'
  ·exact h'
  ·rw [gB h'] at hj;cases hj
 rcases hx1 with ⟨q1,q2,_⟩|⟨β,cap,arr,ty,T,vs,q1,q2,q3,q4,q5,q6,q7,q8⟩
 ·rw [q2] at hi;simp at hi
 have hdrop:blk.es.flatten.drop (i*blk.k+j)= .abs k' es'::blk.es.flatten.drop (i*blk.k+j+1):=by
  obtain ⟨r,hr⟩:=xF hk1 hi;have h1:blk.es.flatten.drop (i*blk.k+j)=(cs++r).drop j:=by rw [←hr,List.drop_drop]
  have h2:blk.es.flatten.drop (i*blk.k+j+1)=(cs++r).drop (j+1):=by rw [←hr,List.drop_drop,Nat.add_assoc]
  rw [h1,h2,List.drop_append_of_le_length (by omega),List.drop_append_of_le_length (by omega),List.drop_eq_getElem_cons hjl];have:cs[j]= .abs k' es':=by simpa [hjl] using hj
  rw [this];rfl
 have hfl:blk.es.flatten=blk.es.flatten.take (i*blk.k+j)++([.abs k' es']++blk.es.flatten.drop (i*blk.k+j+1)):=by
  rw [List.singleton_append,←hdrop,List.take_append_drop]
 rw [hfl] at q8;obtain ⟨v1,v2,S1,S2,e1,e2,e3,e4,e5⟩:=q8.append_inv;obtain ⟨v3,v4,S3,S4,f1,f2,f3,f4,f5⟩:=e5.append_inv;subst f1 f2;obtain ⟨v,r0,S5,S6,rfl,rfl,g1,⟨rfl,rfl⟩⟩:=f4;simp only [CellRep] at g1;rw [List.append_nil] at e2;have hφ:φ b=β::(S1++(S5++S4)):=by rw [q6,e2]
 obtain ⟨νc,hνc⟩: ∃ νc:Option (Nat×Nat),(∀ (h:Hp) (u:Us) (ν':Nu),ν' c=νc→BlkOk w h u ν' c ⟨k',cN es'⟩ S5)∧(νc=none→v= .slice none 0 0)∧(∀ β' cap',νc=some (β',cap')→ownV β' 0 k' es'.length cap' v∧β'∈S5):=by
  simp only [RepO] at g1;rcases g1 with ⟨rfl,rfl,rfl⟩|⟨β',cap',arr',ty',T',vs',p1,p2,p3,p4,p5,p6,rfl,p8,p9⟩
  ·exact ⟨none,λh u ν' hν=>⟨by simp [cN],.inl ⟨hν,rfl,rfl⟩⟩,λ_=>rfl,λ_ _ e=>by cases e⟩
  ·have hl:(cN es').length=es'.length:=by simp [cN]
   refine ⟨some (β',cap'),λh u ν' hν=>⟨aPL p6,.inr ⟨β',cap',arr',ty',T',vs',hν,p2,p3,by show (cN es').length ≤cap';omega,p5,rfl,by show arr'.toList.take ((cN es').length *k')=vs';rw [hl];exact p8,?_⟩⟩,λe=>by (cases e),λx y e=>?_⟩
   ·show CellsRep w h u ν' (cN es').flatten vs' T';rw [aIx];exact aNU (aAs.1 p9)
   ·cases e;rw [p1];exact ⟨aGN,by simp⟩
 obtain ⟨hB,hn0,hn1⟩:=hνc;let ν':Nu:=⟨λx=>if x=c then νc else ν x,ν.ok⟩;have hν1:ν' c=νc:=aY rfl;have hν2: ∀ x,x≠c→ν' x=ν x:=λx hx=>aW hx;have hl1:bB [(c,some ⟨k',cN es'⟩),(b,some ⟨blk.k,blk.es.set i (cs.take j++[.own c 0 es'.length]++cs.drop (j+1))⟩)] s.heap c=some ⟨k',cN es'⟩:=by simp [bB]
 have hl2:bB [(c,some ⟨k',cN es'⟩),(b,some ⟨blk.k,blk.es.set i (cs.take j++[.own c 0 es'.length]++cs.drop (j+1))⟩)] s.heap b=some ⟨blk.k,blk.es.set i (cs.take j++[.own c 0 es'.length]++cs.drop (j+1))⟩:=by simp [bB,cB hne]
 have hl3: ∀ x,x≠c→x≠b→bB [(c,some ⟨k',cN es'⟩),(b,some ⟨blk.k,blk.es.set i (cs.take j++[.own c 0 es'.length]++cs.drop (j+1))⟩)] s.heap x=s.heap x:=λx h1 h2=>by simp [bB,cB h1,cB h2]
 generalize hH:bB [(c,some ⟨k',cN es'⟩),(b,some ⟨blk.k,blk.es.set i (cs.take j++[.own c 0 es'.length]++cs.drop (j+1))⟩)] s.heap=H at*;have U: ∀ x,s.used x=true→fT [c] s.used x=true:=λx hx=>by rw [gW,hx,Bool.or_true]
 have O: ∀ x blk',s.used x=true→H x=some blk'→ ∃ y,s.heap x=some y∧y.k=blk'.k∧y.es.length=blk'.es.length∧ν' x=ν x:=by
  intro x blk' hu hx;have hxc:x≠c:=by rintro rfl;rw [hu] at hc;cases hc
  by_cases e:x=b
  ·subst e;rw [hl2] at hx;cases hx;exact ⟨blk,hb,rfl,by simp,hν2 _ hxc⟩
  ·rw [hl3 x hxc e] at hx;exact ⟨blk',hx,rfl,rfl,hν2 _ hxc⟩
 have hfl2: ∀ d∈blk.es.flatten,dfC d=true:=by
  intro d hd;obtain ⟨ds,h1,h2⟩:=List.mem_flatten.1 hd;exact hdc b blk hb ds h1 d h2
 refine ⟨ν',hs.below,hs.base,hs.fresh,hs.defers,hs.size,λt x hx=>by obtain ⟨v,h1,h2⟩:=hs.env t x hx;exact ⟨v,h1,aQR U O h2 (hdf t x hx)⟩,⟨λx=>if x=c then S5 else if x=b then β::(S1++S4) else φ x,?_,?_⟩,hs.kp,?_,hs.szE,hs.okM,hs.okF⟩
 ·intro x blk2 hx;replace hx:H x=some blk2:=hx;have hnd:=hnd1;rw [hφ] at hnd;have n1:=List.nodup_cons.1 hnd;have n2:=List.nodup_append.1 n1.2;have n3:=List.nodup_append.1 n2.2.1;by_cases e:x=c
  ·subst e;rw [hl1] at hx;cases hx;simp only [if_true];refine ⟨by rw [gW];simp,hB _ _ _ hν1,n3.1,λy hy=>hB1 y (by rw [hφ];simp [hy])⟩
  ·by_cases e0:x=b
   ·subst e0;rw [hl2] at hx;cases hx;simp only [aW e,if_true];refine ⟨U _ hub,⟨?_,.inr ⟨β,cap,arr,ty,S1++S4,vs,(hν2 _ e).trans q1,q2,q3,by simpa using q4,q5,rfl,by simpa using q7,?_⟩⟩,?_,?_⟩
    ·intro d hd;rcases List.mem_or_eq_of_mem_set hd with h|h
     ·exact hk1 d h
     ·rw [h];simp;omega
    ·rw [vM (n:=1) hk1 hi rfl (by omega),e1]
     have m1:CellsRep w H (fT [c] s.used) ν' [.own c 0 es'.length] [v] []:=by
      refine ⟨v,[],[],[],rfl,rfl,⟨⟨by rw [gW];simp,λblk3 h3=>?_⟩,rfl⟩,rfl,rfl⟩;rw [hl1] at h3;cases h3;refine ⟨by simp [cN],λh4=>hn0 (hν1.symm.trans h4),λβ' c' h4=>(hn1 β' c' (hν1.symm.trans h4)).1⟩
     have m2:=(aFb (w':=w) (h':=H) (u':=fT [c] s.used) (ν':=ν') U O (λ_ _=>rfl) e4 (λd hd=>hfl2 d (List.mem_of_mem_take hd))).append (m1.append (aFb (w':=w) (h':=H) (u':=fT [c] s.used) (ν':=ν') U O (λ_ _=>rfl) f5 (λd hd=>hfl2 d (List.mem_of_mem_drop hd))));rw [List.append_assoc (List.take (i*blk.k+j) blk.es.flatten)];simpa using m2
    ·refine List.nodup_cons.2 ⟨λhm=>n1.1 ?_,List.nodup_append.2 ⟨n2.1,n3.2.1,λy hy z hz=>n2.2.2 y hy z (by simp [hz])⟩⟩;rcases eP.1 hm with h|h <;> simp [h]
    ·intro y hy;refine hB1 y ?_;rw [hφ];rcases eC.1 hy with rfl|h
     ·simp
     ·rcases eP.1 h with h|h <;> simp [h]
   ·rw [hl3 x e e0] at hx;simp only [aW e,aW e0];obtain ⟨p1,p2,p3,p4⟩:=hh.blk x blk2 hx;exact ⟨U _ p1,aKm U O (hν2 _ e) (λ_ _=>rfl) p2 (hdc x blk2 hx),p3,p4⟩
 ·have hnd:=hnd1;rw [hφ] at hnd;have n1:=List.nodup_cons.1 hnd;have n2:=List.nodup_append.1 n1.2;have n3:=List.nodup_append.1 n2.2.1;have hbn:s.heap b≠none:=by rw [hb];simp
  have hS5: ∀ y,y∈S5→y∈φ b:=λy hy=>by rw [hφ];simp [hy]
  have hSb: ∀ y,y∈β::(S1++S4)→y∈φ b:=λy hy=>by
   rw [hφ];rcases eC.1 hy with rfl|h
   ·simp
   ·rcases eP.1 h with h|h <;> simp [h]
  have hcb: ∀ y,y∈S5→y ∉ β::(S1++S4):=by
   intro y h5 hy;rcases eC.1 hy with rfl|h
   ·exact n1.1 (by simp [h5])
   ·rcases eP.1 h with h|h
    ·exact n2.2.2 y h y (by simp [h5]) rfl
    ·exact n3.2.2 y h5 y h rfl
  intro x1 x2 y hx1 hx2 hne2 hy1 hy2;replace hx1:H x1≠none:=hx1;replace hx2:H x2≠none:=hx2;replace hy1:y∈(if x1=c then S5 else if x1=b then β::(S1++S4) else φ x1):=hy1;replace hy2:y∈(if x2=c then S5 else if x2=b then β::(S1++S4) else φ x2):=hy2;by_cases a1:x1=c <;> by_cases a2:x2=c
  ·exact hne2 (a1.trans a2.symm)
  ·rw [aY a1] at hy1;rw [aW a2] at hy2;by_cases b2:x2=b
   ·rw [aY b2] at hy2;exact hcb y hy1 hy2
   ·rw [aW b2] at hy2;rw [hl3 x2 a2 b2] at hx2;exact hh.apart b x2 y hbn hx2 (Ne.symm b2) (hS5 y hy1) hy2
  ·rw [aW a1] at hy1;rw [aY a2] at hy2;by_cases b1:x1=b
   ·rw [aY b1] at hy1;exact hcb y hy2 hy1
   ·rw [aW b1] at hy1;rw [hl3 x1 a1 b1] at hx1;exact hh.apart b x1 y hbn hx1 (Ne.symm b1) (hS5 y hy2) hy1
  ·rw [aW a1] at hy1;rw [aW a2] at hy2;by_cases b1:x1=b <;> by_cases b2:x2=b
   ·exact hne2 (b1.trans b2.symm)
   ·rw [aY b1] at hy1;rw [aW b2] at hy2;rw [hl3 x2 a2 b2] at hx2;exact hh.apart b x2 y hbn hx2 (Ne.symm b2) (hSb y hy1) hy2
   ·rw [aW b1] at hy1;rw [aY b2] at hy2;rw [hl3 x1 a1 b1] at hx1;exact hh.apart b x1 y hbn hx1 (Ne.symm b1) (hSb y hy2) hy1
   ·rw [aW b1] at hy1;rw [aW b2] at hy2;rw [hl3 x1 a1 b1] at hx1;rw [hl3 x2 a2 b2] at hx2;exact hh.apart x1 x2 y hx1 hx2 hne2 hy1 hy2
 ·refine ⟨λx hx=>U x (hs.ext.used x hx),λx blk' hx hl'=>?_,λx hx hF=>?_,hs.ext.okE⟩
  ·obtain ⟨y,g1,g2,g3,g4⟩:=O x blk' (hs.ext.used x hx) hl';obtain ⟨z,k1,k2,k3,k4⟩:=hs.ext.old x y hx g1;exact ⟨z,k1,k2.trans g2,k3.trans g3,g4.trans k4⟩
  ·obtain ⟨g1,g2⟩:=hs.ext.free x hx hF;refine ⟨g1,λb2 blk2 β2 c2 hb2 h2 e=>?_⟩;replace hb2:H b2=some blk2:=hb2;by_cases a1:b2=c
   ·subst a1;rw [hν1] at h2;subst e;exact C.tm (by rw [←hs.kp];exact hT) β2 hx (hB1 β2 (by rw [hφ];simp [(hn1 _ _ h2).2])) hF
   ·rw [hν2 _ a1] at h2;by_cases a2:b2=b
    ·subst a2;exact g2 b2 blk β2 c2 hb h2 e
    ·rw [hl3 b2 a1 a2] at hb2;exact g2 b2 blk2 β2 c2 hb2 h2 e
end
noncomputable section
def Raw1 (κ:Kp) (x d:AV):Prop:= ∃ W G v S,κ.fx=some (W,G)∧x= .sc v∧RepD W d v S∧ ∀ b∈S,G b
def RawK (κ:Kp):AV→AV→Prop
 | .agg xs,.agg ds=>All2 (Raw1 κ) xs ds
 |x,d=>Raw1 κ x d
theorem Sim.stays {C:Ctx} {s:AState} {ν:Nu} {a:Act} {w:World} (hs:Sim C s ν a w) {κ:Kp} (hκ:s.kp=κ) {W:World} {G:Nat→Prop} (h:κ.fx=some (W,G)) {b:Nat} (hb:G b):w.heap[b]? =W.heap[b]? ∧jR s.heap ν b:=by
 obtain ⟨e1,e2⟩:=C.fxp (W,G) (by rw [←hs.kp,hκ];exact h);obtain ⟨e3,e4⟩:=e2 b hb;obtain ⟨e5,e6⟩:=hs.ext.free b e3 e4;rw [e1] at e5;exact ⟨e5,e6,hs.okF (W,G) (by rw [←hs.kp,hκ];exact h) b hb⟩
theorem Raw1.rep {C:Ctx} {s:AState} {ν ν':Nu} {a:Act} {w:World} {h:Hp} {u:Us} (hs:Sim C s ν a w) {κ:Kp} (hκ:s.kp=κ) {x d:AV} {v:Value} (r:Rep1 w h u ν' x v) (m:Raw1 κ x d): ∃ S',RepD w d v S':=by
 obtain ⟨W,G,y,S,h1,rfl,h2,h3⟩:=m;rw [r.1];exact ⟨S,h2.keep λb hm=>(hs.stays hκ h1 (h3 b hm)).1⟩
theorem RawK.rep {C:Ctx} {s:AState} {ν:Nu} {a:Act} {w:World} (hs:Sim C s ν a w) {κ:Kp} (hκ:s.kp=κ) {x d:AV} {v:Value} (r:RepA w s.heap s.used ν x v) (m:RawK κ x d): ∃ S',RepD w d v S':=by
 by_cases ho: ∃ xs ds,x= .agg xs∧d= .agg ds
 ·obtain ⟨xs,ds,rfl,rfl⟩:=ho;obtain ⟨vs,rfl,r⟩:=r;obtain ⟨S,h⟩:=xM (V:=Raw1 κ) (λx d v hr hm=>hm.rep hs hκ hr) r m;exact ⟨S,by simp only [RepD];exact ⟨vs,rfl,h⟩⟩
 ·have m':Raw1 κ x d:=by
   cases x <;> first|exact m|(cases d <;> first|exact m|exact absurd ⟨_,_,rfl,rfl⟩ ho)
  obtain ⟨W,G,y,S,h1,rfl,h2,h3⟩:=m';exact Raw1.rep (h:=s.heap) (u:=s.used) (ν':=ν) (x:= .sc y) hs hκ (show Rep1 w s.heap s.used ν (.sc y) v from r) ⟨W,G,y,S,h1,rfl,h2,h3⟩
def rd1:AV→Bool
 | .sc _=>true
 | .list _ _=>true
 | .ref _=>true
 |_=>false
theorem Raw1.rep1 {C:Ctx} {s:AState} {ν:Nu} {a:Act} {w:World} (hs:Sim C s ν a w) {κ:Kp} (hκ:s.kp=κ) {x d:AV} {v:Value} (r:Rep1 w s.heap s.used ν x v) (m:Raw1 κ x d) (ok:rd1 d=true):Rep1 w s.heap s.used ν d v:=by
 obtain ⟨W,G,y,S,h1,rfl,h2,h3⟩:=m;rw [r.1];have h4:=h2.keep λb hm=>(hs.stays hκ h1 (h3 b hm)).1;cases d <;> simp only [rd1,fJ] at ok
 ·simp only [RepD] at h4;exact ⟨h4.1,h4.2.1⟩
 ·exact ⟨S,h4,λx hx=>(hs.stays hκ h1 (h3 x hx)).2⟩
 ·exact ⟨S,h4,λx hx=>(hs.stays hκ h1 (h3 x hx)).2⟩
def rB (W:World):Option (World×(Nat→Prop)):=some (W,λx=>x<W.heap.size)
theorem jN {κ:Kp} {W:World} {d:AV} {v:Value} {S:List Nat} (h:κ.fx=rB W) (r:RepD W d v S):Raw1 κ (.sc v) d:=⟨W,_,v,S,h,rfl,r,r.lt⟩
theorem tD {κ:Kp} {W:World} {u:Value} (h:κ.fx=rB W) (o:u.oneCell'=true):Raw1 κ (.sc u) (.sc u):=jN h (aAb o)
theorem aVh {κ:Kp} {W:World} {k:Nat} {es:List (List AV)} {v:Value} {S:List Nat} (h:κ.fx=rB W) (r:RepD W (.list k es) v S):RawK κ (.sc v) (.list k es):=jN h r
theorem xU {κ:Kp} :RawK κ (.agg []) (.agg []):=rfl
theorem eG {κ:Kp} {x d:AV} {xs ds:List AV} (a:Raw1 κ x d) (b:RawK κ (.agg xs) (.agg ds)):RawK κ (.agg (x::xs)) (.agg (d::ds)):=⟨d,ds,rfl,a,b⟩
def vF (κ:Kp) (h:Hp) (x d:AV):Prop:=viewA h x d∨RawK κ x d
theorem jO {κ:Kp} {h:Hp} :All2 (vF κ h) [] []:=rfl
theorem fY {κ:Kp} {h:Hp} {x d:AV} {xs ds:List AV} (a:vF κ h x d) (b:All2 (vF κ h) xs ds):All2 (vF κ h) (x::xs) (d::ds):=⟨d,ds,rfl,a,b⟩
theorem aEu {R:AV→Value→Prop} {V:AV→AV→Prop} {w:World} (hr: ∀ x d v,R x v→V x d→ ∃ S',RepD w d v S') {xs ds:List AV} {vs:List Value} (r:All2 R xs vs) (m:All2 V xs ds): ∃ S',RepVs w ds vs S':=xM hr r m
section
variable {P:Program} {dst:Option Tmp} {ty:TypeId} {pos:String} {aft:Array Edge} {g:Option (Nat×Bool)} {ins:Operand→Option AV} {hp:Hp} {κ:Kp}
theorem aKn {fo:Operand} {xs:Array Operand} {ats:Array TypeId} {f:FuncId} {avs ds:List AV} {r x:AV} {nb:List (Nat×Blk)} {ns ns':List Nat} (hf:ins fo=some (.fn f [])) (hx:evs ins xs.toList=some avs) (hc:HasC P f ds r) (hv1:All2 (vF κ hp) avs ds) (hg:aHO r)
  (hi:aOv ns r=(x,nb,ns')) (hfl:aNF x=true) (hn:ns.Nodup):
  AEff P ⟨dst,.call ⟨.value fo,xs,ats⟩,ty,pos,aft,g⟩ ins hp κ ⟨x,avs.flatMap (kM hp),rH nb,nb.map (·.1)⟩:=by
 refine ⟨λC s ν a w Q K {hκ} hi' ht hnw hd hs hK=>?_⟩;have h1:=hs.ev ((hi' fo (by simp [Op.operands,Call.operands])).trans hf);simp only [RepA,RepB] at h1;obtain ⟨cv,h1,h2⟩:=h1;simp only [All2] at h2;subst h2;obtain ⟨φ,hh⟩:=hs.heap;have h3:=zO hs (xs:=xs.toList) (λy hy=>hi' y (by simp [Op.operands,Call.operands];exact .inr (Array.mem_toList_iff.1 hy))) hx;have hv1':All2 (vF κ s.heap) avs ds:=hv1.congrM λy hy d hd=>hd.elim (λhd=> .inl (hd.congr λb hb=>ht b (List.mem_flatMap.2 ⟨y,hy,hb⟩))) .inr;obtain ⟨S1,e1⟩:=aEu (V:=vF κ s.heap) (λx d v hr hv=>hv.elim (λhv=>viewA.rep hh hr hv) (λhv=>hv.rep hs hκ hr)) h3 hv1';have hcall:=hc.calls w (xs.map a.eval) S1 (by simpa using e1);unfold Oper.wp
 have hex:(execOp a.eval ⟨dst,.call ⟨.value fo,xs,ats⟩,ty,pos,aft,g⟩).run P w= .ok (.enter f (xs.map a.eval)) w:=by
  have:execOp a.eval ⟨dst,.call ⟨.value fo,xs,ats⟩,ty,pos,aft,g⟩=callFunc f (xs.map a.eval):=by
   simp [execOp,resolve,h1,Deferred.ofValue,invoke]
  rw [this];exact hc.enters _ _
 rw [hex];simp only [Oper.upon];refine hcall.mono λe w' ⟨v,S',he,hb,hr,hnew⟩=>?_;subst he;simp only;obtain ⟨g1,X,Sf,g2,g3⟩:=aLj (w:=w) hi hfl hr hg hnew.1 hn;have hnn:(nb.map (·.1)).Nodup:=by rw [g1] at hn;exact (List.nodup_append.1 hn).1
 obtain ⟨ν',hs'⟩:=hs.call hd hb g2 hnew hnn (λb hb=>hnw b hb) g3 (touch:=avs.flatMap (kM hp));exact hK ν' _ _ hs'
end
section
variable {P:Program} {dst:Option Tmp} {ty:TypeId} {pos:String} {aft:Array Edge} {g:Option (Nat×Bool)} {s:AState}
theorem oD {f:FuncId} {xs:Array Operand} {ats:Array TypeId} {avs ds:List AV} {u:Value} (hc:HasC P f ds (.sc u)) (hx:evs s.ev xs.toList=some avs) (hv1:All2 (vF s.kp s.heap) avs ds):
  AEff P ⟨dst,.call ⟨.value (.func f),xs,ats⟩,ty,pos,aft,g⟩ s.ev s.heap s.kp ⟨.sc u,avs.flatMap (kM s.heap),[],[]⟩:=
 aKn (ns:=[]) (nb:=[]) (r:= .sc u) (x:= .sc u) rfl hx hc hv1 trivial (aIC [] u) rfl (by simp)
theorem aAB {f:FuncId} {xs:Array Operand} {ats:Array TypeId} {avs ds:List AV} {r x:AV} {nb:List (Nat×Blk)} {ns':List Nat} (hc:HasC P f ds r) (hx:evs s.ev xs.toList=some avs) (hi:aOv s.ns r=(x,nb,ns')) (hfl:aNF x=true) (hn:rI s.ns=true) (hg:aHO r) (hv1:All2 (vF s.kp s.heap) avs ds):
  AEff P ⟨dst,.call ⟨.value (.func f),xs,ats⟩,ty,pos,aft,g⟩ s.ev s.heap s.kp ⟨x,avs.flatMap (kM s.heap),rH nb,nb.map (·.1)⟩:=
 aKn rfl hx hc hv1 hg hi hfl (yU hn)
end
def aFc (w:World):List AV→(List AV→Prop)→Prop
 | [],K=>K []
 | .sc u::cs,K=>aFc w cs (λxs=>K (.sc u::xs))
 |d::cs,K=> ∀ v S,RepD w d v S→aFc w cs (λxs=>K (.sc v::xs))
def qL (w:World):List AV→(List AV→Prop)→Prop
 | [],K=>K []
 | .sc u::ds,K=>qL w ds (λxs=>K (.sc u::xs))
 | .agg cs::ds,K=>aFc w cs (λxs=>qL w ds (λys=>K (.agg xs::ys)))
 |d::ds,K=> ∀ v S,RepD w d v S→qL w ds (λxs=>K (.sc v::xs))
theorem aAC {w:World} {K:List AV→Prop} (h:K []):aFc w [] K:=h
theorem wC {w:World} {u:Value} {cs:List AV} {K:List AV→Prop} (h:aFc w cs (λxs=>K (.sc u::xs))):aFc w (.sc u::cs) K:=h
theorem sZ {w:World} {k:Nat} {es:List (List AV)} {cs:List AV} {K:List AV→Prop} (h: ∀ v S,RepD w (.list k es) v S→aFc w cs (λxs=>K (.sc v::xs))):aFc w (.list k es::cs) K:=h
theorem aCL {w:World} {K:List AV→Prop} (h:K []):qL w [] K:=h
theorem aIE {w:World} {u:Value} {cs:List AV} {K:List AV→Prop} (h:qL w cs (λxs=>K (.sc u::xs))):qL w (.sc u::cs) K:=h
theorem aCM {w:World} {xs cs:List AV} {K:List AV→Prop} (h:aFc w xs (λxs=>qL w cs (λys=>K (.agg xs::ys)))):qL w (.agg xs::cs) K:=h
theorem aPM {w:World} {k:Nat} {es:List (List AV)} {cs:List AV} {K:List AV→Prop} (h: ∀ v S,RepD w (.list k es) v S→qL w cs (λxs=>K (.sc v::xs))):qL w (.list k es::cs) K:=h
def aQS:AV→Bool
 | .sc u=>u.oneCell'
 | .agg cs=>cs.all jI
 | .list _ _=>true
 |_=>false
theorem aIy {w:World} {d:AV} {v:Value} {S:List Nat} (r:RepD w d v S) (ok:jI d=true):v.oneCell'=true:=by
 cases d <;> simp only [jI,fJ] at ok <;> simp only [RepD] at r
 ·rw [r.1];exact ok
 ·obtain ⟨a,c,rfl,_⟩:=r;rfl
theorem aIF {w:World} : ∀ {cs:List AV} {us:List Value} {S:List Nat} {K:List AV→Prop},RepVs w cs us S→cs.all jI=true→aFc w cs K→ ∃ xs,K xs∧ ∀ (w':World) (h:Hp) (u:Us) (ν:Nu),All2 (Rep1 w' h u ν) xs us
 | [],us,S,K,r,_,k=>by simp only [RepVs] at r;obtain ⟨rfl,_⟩:=r;exact ⟨[],k,λ_ _ _ _=>rfl⟩
 |c::cs,us,S,K,r,ok,k=>by
  simp only [RepVs] at r;obtain ⟨v,q,S1,S2,rfl,rfl,h3,h4⟩:=r;simp only [List.all_cons,dF] at ok
  have key: ∀ x,aFc w cs (λxs=>K (x::xs))→x= .sc v→ ∃ xs,K xs∧ ∀ (w':World) (h:Hp) (u:Us) (ν:Nu),All2 (Rep1 w' h u ν) xs (v::q):=by
   rintro x k1 rfl;obtain ⟨xs,g1,g2⟩:=aIF h4 ok.2 k1;exact ⟨.sc v::xs,g1,λw' h u ν=>⟨v,q,rfl,⟨rfl,aIy h3 ok.1⟩,g2 w' h u ν⟩⟩
  cases c <;> simp only [jI,fJ,false_and] at ok
  ·simp only [RepD] at h3;exact key _ k (by rw [h3.1])
  ·exact key _ (k v S1 h3) rfl
theorem aGd {w:World} : ∀ {ds:List AV} {vs:List Value} {S:List Nat} {K:List AV→Prop},RepVs w ds vs S→ds.all aQS=true→qL w ds K→ ∃ xs,K xs∧xs.length=ds.length∧ ∀ (h:Hp) (u:Us) (ν:Nu),All2 (RepA w h u ν) xs vs
 | [],vs,S,K,r,_,k=>by simp only [RepVs] at r;obtain ⟨rfl,_⟩:=r;exact ⟨[],k,rfl,λ_ _ _=>rfl⟩
 |d::ds,vs,S,K,r,ok,k=>by
  simp only [RepVs] at r;obtain ⟨v,q,S1,S2,rfl,rfl,h3,h4⟩:=r;simp only [List.all_cons,dF] at ok
  have key: ∀ x,qL w ds (λxs=>K (x::xs))→(∀ (h:Hp) (u:Us) (ν:Nu),RepA w h u ν x v)→ ∃ xs,K xs∧xs.length=(d::ds).length∧ ∀ (h:Hp) (u:Us) (ν:Nu),All2 (RepA w h u ν) xs (v::q):=by
   intro x k1 hx;obtain ⟨xs,g1,g2,g3⟩:=aGd h4 ok.2 k1;exact ⟨x::xs,g1,by simp [g2],λh u ν=>⟨v,q,rfl,hx h u ν,g3 h u ν⟩⟩
  cases d <;> simp only [aQS,fJ,false_and] at ok
  ·simp only [RepD] at h3;exact key _ k λh u ν=>by simp only [RepA,RepB,Rep1];exact ⟨h3.1,h3.2.1⟩
  ·exact key _ (k v S1 h3) λh u ν=>(show Rep1 w h u ν (.sc v) v from ⟨rfl,aIy h3 rfl⟩)
  ·have h3':=h3;simp only [RepD] at h3';obtain ⟨us,rfl,h5⟩:=h3';obtain ⟨xs,g1,g2⟩:=aIF h5 ok.1 k;exact key _ g1 λh u ν=>by simp only [RepA,RepB];exact ⟨us,rfl,g2 w h u ν⟩
theorem aFd {P:Program} {T:List (Nat×Ty)} (hT:TyOk P T) {f:FuncId} {fn:Func} {c:Code} {nt:Nat} {ds:List AV} {r:AV} {rvs:List ResultVar} {ns:List Nat} (hf:P.funcs[f]? =some fn) (hb:fn.body=some c) (hname:(fn.name== "runtime.NumGoroutine")=false) (hnt:fn.ntmps=nt) (hres:fn.results.toList=rvs)
  (hlen:Nat.ble ds.length nt=true) (hok:ds.all aQS=true) (h: ∀ W:World,qL W ds λxs=>AC P nt c ⟨aCf xs,fR [],rE 0,ns,⟨0,true,rB W,true⟩⟩ (tW T rvs r)):HasC P f ds r:=by
 refine ⟨Enters.mk hf (by rw [hb];rfl) hname,λw args S hargs=>?_⟩;refine (callsIn_wide (n:=0)).1 (callsIn_of_wp_marks (F:=fw none) hf hb trivial ?_);have hlen':=Nat.le_of_ble_eq_true hlen;have hal:args.size=ds.length:=by have:=hargs.len;simpa using this
 obtain ⟨xs,hac,hxl,hxr⟩:=aGd hargs hok (h w);let C:Ctx:=⟨w.heap.size,w,nt,λx=>w.heap.size≤x,λ_ h=>h,⟨0,true,rB w,true⟩,w,fR [],Nu.none,λx=>x<w.heap.size,λ_ x hx hm=>absurd hx (Nat.not_lt.2 hm),(λp h=>by cases h;exact ⟨rfl,λx hx=>⟨hx,hx⟩⟩),none,λ_=>rfl⟩;have hfr: ∀ x,sD (fR []) Nu.none x:=λx b blk β c hb=>by cases hb
 have hsim:Sim C ⟨aCf xs,fR [],rE 0,ns,⟨0,true,rB w,true⟩⟩ Nu.none ⟨args++Array.replicate (fn.ntmps - args.size) undef,[]⟩ w:=by
  refine ⟨Below.refl _ _,bO _,λ_ hx=>hx,tB,by show (args++Array.replicate (fn.ntmps - args.size) undef).size=nt;simp [hnt];omega,?_,⟨λ_=>[],λb blk hb=>(by cases hb),λb c x hb=>absurd rfl hb⟩,rfl,ExtF.refl λx _ _=>hfr x,bO _,λ_ _=>trivial,λ_ _ _ _=>trivial⟩;intro t x hx;have hx':xs[t]? =some x:=by rw [←aDP];exact hx
  obtain ⟨v,h1,h2⟩:=(hxr (fR []) (rE 0) Nu.none).get hx';refine ⟨v,?_,h2⟩
  have hlt:t<args.size:=by
   rcases eD t args.size with h'|h'
   ·exact h'
   ·rw [gB (by simpa using h')] at h1;cases h1
  show (args++Array.replicate (fn.ntmps - args.size) undef)[t]? =some v;rw [Array.getElem?_append_left hlt];simpa using h1
 refine wpIn_mono (hac.out C rfl _ _ w hsim 0) λe a' w0 ⟨s',ν',hq,hs0⟩=>?_;obtain ⟨Ds,d1,d2,d3⟩:=hs0.defers;obtain ⟨w',hs',hleave⟩:=hs0.leave (P:=P) (n:=0) d1 d2 d3;obtain ⟨he,avs,hv,hn,hfz⟩:=hq;obtain ⟨us,h1,h2⟩:=xN hT hs' hv;obtain ⟨φ,hh⟩:=hs'.heap;have hn':=yU hn
 have hrun:(results fn a'.tmps).run P w'= .ok (if hh:us.toArray.size=1 then us.toArray[0] else .tuple us.toArray) w':=by
  unfold results;rw [Sem.run_bind,Array.mapM_eq_mapM_toList,Sem.run_map,hres];have h1':=h1;generalize hq:(List.mapM _ rvs:Sem (List Value))=m;rw [show Sem.run P m w'= .ok us w' by rw [←hq];exact h1'];simp
 have hres2: ∃ S',aIe w' r (if hh:us.toArray.size=1 then us.toArray[0] else .tuple us.toArray) S'∧New w.heap.size S':=by
  have hul:us.length=avs.length:=h2.len;unfold aIh at hfz;split at hfz
  ·rename_i v r';obtain ⟨u,q,rfl,g1,g2⟩:=h2;simp only [All2] at g2;subst g2;simp only [List.flatMap_cons,List.flatMap_nil,List.append_nil] at hn';obtain ⟨S',a1,a2,a3,a4⟩:=aFV hh g1 hfz.1 hn';refine ⟨S',?_,a2,a3⟩;simp only [List.size_toArray,List.length_cons,List.length_nil,Nat.zero_add,dite_true];have hnt:=hfz.2;cases r <;> first|exact a1|exact absurd rfl (hnt _)
  ·rename_i vs rs _;obtain ⟨S',a1,a2,a3,a4⟩:=aDr hh h2 hfz.2 hn';refine ⟨S',?_,a2,a3⟩;rw [dif_neg (by simp;rw [hul];exact hfz.1)];exact ⟨us,rfl,a1⟩
  ·exact hfz.elim
 obtain ⟨S',hr1,hr2⟩:=hres2;have hend:=hleave fn (λe w'=> ∃ v S',e= .returned v∧Below w.heap.size w w'∧aIe w' r v S'∧New w.heap.size S') ⟨_,hrun,_,S',rfl,hs'.below,hr1,hr2⟩;cases e <;> simp only [aCB,fJ] at he <;> exact hend
def dfE:List (Nat×AV)→Prop
 | []=>True
 |(_,x)::r=>dfA x=true∧dfE r
theorem aBm: ∀ {l:List (Nat×AV)},dfE l→ ∀ t x,qG l t=some x→dfA x=true
 | [],_,t,x,h=>by cases h
 |(k,v)::r,⟨h1,h2⟩,t,x,h=>by
  simp only [qG] at h;cases hb:Nat.beq t k with
  |true=>rw [hb] at h;cases h;exact h1
  |false=>rw [hb] at h;exact aBm h2 t x h
def dfR (y:Blk):Prop:= ∀ cs∈y.es,∀ c∈cs,dfC c=true
def dfH (skip:List Nat):List (Nat×Blk)→Prop
 | []=>True
 |(b,y)::r=>(b∈skip∨dfR y)∧dfH skip r
theorem aBn {skip:List Nat} : ∀ {l:List (Nat×Blk)},dfH skip l→ ∀ b blk,fR l b=some blk→b ∉ skip→ ∀ cs∈blk.es,∀ c∈cs,dfC c=true
 | [],_,b,x,h=>by cases h
 |(k,v)::r,⟨h1,h2⟩,b,x,h=>by
  simp only [fR] at h;by_cases e:b=k
  ·subst e;rw [bY] at h;cases h;intro hn;exact h1.elim (λh=>absurd h hn) id
  ·rw [cB e] at h;exact aBn h2 b x h
theorem EOk.df {α:Type} {k:Nat} {e:α→List AV} (E:EOk k e) (k':Nat) (l:List α):dfR ⟨k',l.map (ow e)⟩:=by
 intro cs hcs c hc;obtain ⟨x,_,rfl⟩:=List.mem_map.1 hcs;obtain ⟨d,hd,rfl⟩:=List.mem_map.1 hc;have:=E.mem x d hd;cases d <;> simp only [jI,fJ] at this <;> rfl
theorem EOk.dfS {α:Type} {k:Nat} {e:α→List AV} (E:EOk k e) (k':Nat) (l:List α) (i:Nat) {c:List AV} (h:c.all dfC=true):dfR ⟨k',(l.map (ow e)).set i c⟩:=by
 intro cs hcs d hd;rcases List.mem_or_eq_of_mem_set hcs with h1|rfl
 ·exact E.df k' l cs h1 d hd
 ·exact List.all_eq_true.1 h d hd
theorem vI {k:Nat} {es:List (List AV)} (h:(es.all λcs=>cs.all dfC)=true):dfR ⟨k,es⟩:=λcs hcs c hc=>List.all_eq_true.1 (List.all_eq_true.1 h cs hcs) c hc
theorem aAw {α:Type} {e:α→List AV} {l:List α} {i:Nat} {v:α} (h:l[i]? =some v):l.map (ow e)=(l.map (ow e)).set i (ow e v):=by
 rw [←List.map_set];congr 1;refine List.ext_getElem? λj=>?_;rw [List.getElem?_set];by_cases e:i=j
 ·subst e
  have:i<l.length:=by
   rcases eD i l.length with h'|h'
   ·exact h'
   ·rw [gB h'] at h;cases h
  rw [aY rfl,aY this,h]
 ·rw [aW e]
theorem zA {α:Type} {k:Nat} {e:α→List AV} (E:EOk k e) {l:List α} {i:Nat} {c:List AV} (h:c.all sE=true):aAa ((l.map (ow e)).set i c):=by
 intro cs hcs d hd;rcases List.mem_or_eq_of_mem_set hcs with h1|rfl
 ·exact E.plainO l cs h1 d hd
 ·exact List.all_eq_true.1 h d hd
theorem zB {s:AState} {b c i j k k' n:Nat} {A es' fs:List (List AV)} {cs:List AV} (hi:i<A.length) (hT:s.kp.T=true) (hb:s.heap b=some ⟨k,A.set i cs⟩) (hj:cs[j]? =some (.abs k' es')) (hc:s.used c=false) (hn:es'.length=n) (hfs:cN es'=fs) (hdf: ∀ t x,s.env t=some x→dfA x=true) (hdc: ∀ b blk,s.heap b=some blk→b ∉ ([]:List Nat)→ ∀ cs∈blk.es,∀ c∈cs,dfC c=true):
  Ent s ⟨s.env,bB [(c,some ⟨k',fs⟩),(b,some ⟨k,A.set i (aCC cs j [.own c 0 n])⟩)] s.heap,fT [c] s.used,s.ns,s.kp⟩:=by
 subst hn hfs
 have hjl:j<cs.length:=by
  rcases eD j cs.length with h'|h'
  ·exact h'
  ·rw [gB h'] at hj;cases hj
 have h:=aTE (c:=c) hT hb (i:=i) (cs:=cs) (by simp [hi]) hj hc hdf (λb blk hb=>hdc b blk hb (by simp));have e:=aCh (cs:=cs) (j:=j) (vs:=[.own c 0 es'.length]) (by simp;omega);simp only [List.length_singleton] at e;rw [e] at h;simp only [List.set_set] at h;exact h
theorem aIz {P:Program} {T:List (Nat×Ty)} {dst:Option Tmp} {ty:TypeId} {pos:String} {aft:Array Edge} {g:Option (Nat×Bool)} {s:AState} (hT:TyOk P T) {t:TypeId} {y:Ty} {x z:Operand} {val:AV} {b i j kk:Nat} {A:List (List AV)} {cs:List AV} (hi:i<A.length) (hx:s.ev x=some (.ptr b i j)) (hb:s.heap b=some ⟨kk,A.set i cs⟩) (hz:s.ev z=some val) (hy:dY T t=some y) (hsz:Nat.beq (dI val).length y.size=true) (ok:(dI val).all (okCell s.heap)=true) (hn:Nat.ble (j+y.size) cs.length=true):
  AEff P ⟨dst,.store t x z,ty,pos,aft,g⟩ s.ev s.heap s.kp ⟨.dead,b::dZ (dI val),[(b,some ⟨kk,A.set i (aCC cs j (dI val))⟩)],[]⟩:=by
 have h:=lG (P:=P) hT (dst:=dst) (ty:=ty) (pos:=pos) (aft:=aft) (g:=g) hx hb hz hy hsz ok (i:=i) (cs:=cs) (by simp [hi]) hn;rw [List.set_set] at h;exact h
theorem aWJ {α:Type} {k:Nat} {e:α→List AV} {hp:Hp} {b i n:Nat} {l:List α} (E:EOk k e) (hb:hp b=some ⟨k,l.map (ow e)⟩):tY hp (.own b i n)=some (k,((l.drop i).take n).map e,[b]):=by
 simp only [tY,hb,←List.map_drop,←List.map_take];rw [aSq E]
section
variable {P:Program} {ops:Array Oper} {nt:Nat} {l:List Oper} {s:AState} {K:AState→Prop}
theorem iK {t u:Bool} (i:Nat) (hi:s.env i=some (.sc (.bool t))) (q:t=u) (h:SOps P ops nt l ⟨upd (some i) (.sc (.bool u)) s.env,s.heap,s.used,s.ns,s.kp⟩ K):SOps P ops nt l s K:=by
 subst q;rw [aNL hi] at h;exact h
theorem cF {d:Option Tmp} {op:Op} {ty:TypeId} {pos:String} {aft:Array Edge} {g:Option (Nat×Bool)} (hg:nO ops s.env ⟨d,op,ty,pos,aft,g⟩=some false) (hd:aFQ ⟨d,op,ty,pos,aft,g⟩ nt=true) (h:SOps P ops nt l ⟨upd d (.tuple []) s.env,s.heap,s.used,s.ns,s.kp⟩ K):SOps P ops nt (⟨d,op,ty,pos,aft,g⟩::l) s K:=⟨λC hC ν a w hs n Q hQ=>by
 subst hC;refine wpListIn_step λK' hK'=>?_;have hst:aLh P ops C.nt ⟨d,op,ty,pos,aft,g⟩ s aBR:=⟨aFR hd,.inr ⟨hg,rfl⟩⟩
 exact aCb hst hs λν' a' w' hs'=>hK' _ _ (h.out C rfl ν' a' w' hs' n Q hQ)⟩
end
end
noncomputable section
theorem k {α:Sort _} {a:α} :a=a:=rfl
section
variable {P:Program} {ops:Array Oper} {nt:Nat} {r:List Oper} {s:AState} {tr:List Tr} {K:List Tr→AState→Prop} {K':AState→Prop}
def opB (ops:Array Oper) (nt:Nat) (s:AState) (o:Oper) (news:List Nat):Bool:=aFQ o nt&&((match nO ops s.env o with|some true=>true|_=>false)&&news.all λb=> !s.used b)
theorem aGe {o:Oper} {news:List Nat} (h:opB ops nt s o news=true):aFQ o nt=true∧nO ops s.env o=some true∧(news.all λb=> !s.used b)=true:=by
 simp only [opB,dF] at h;obtain ⟨h1,h2,h3⟩:=h;refine ⟨h1,?_,h3⟩;split at h2
 ·assumption
 ·cases h2
theorem ae {d:Option Tmp} {op:Op} {ty:TypeId} {pos:String} {aft:Array Edge} {g:Option (Nat×Bool)} {e:Eff} (he:AEff P ⟨d,op,ty,pos,aft,g⟩ s.ev s.heap s.kp e) (hb:opB ops nt s ⟨d,op,ty,pos,aft,g⟩ e.news=true) (h:AOps P ops nt r (s.app d e) (aBk e::tr) K):AOps P ops nt (⟨d,op,ty,pos,aft,g⟩::r) s tr K:=
 aA he (aGe hb).1 (aGe hb).2.1 (aGe hb).2.2 h
theorem se {d:Option Tmp} {op:Op} {ty:TypeId} {pos:String} {aft:Array Edge} {g:Option (Nat×Bool)} {e:Eff} (he:AEff P ⟨d,op,ty,pos,aft,g⟩ s.ev s.heap s.kp e) (hb:opB ops nt s ⟨d,op,ty,pos,aft,g⟩ e.news=true) (h:SOps P ops nt r (s.app d e) K'):SOps P ops nt (⟨d,op,ty,pos,aft,g⟩::r) s K':=
 aNT he (aGe hb).1 (aGe hb).2.1 (aGe hb).2.2 h
theorem am {d:Option Tmp} {ty:TypeId} {pos:String} {aft:Array Edge} {g:Option (Nat×Bool)} {x:Operand} {v:AV} (hx:s.ev x=some v) (hb:opB ops nt s ⟨d,.move x,ty,pos,aft,g⟩ []=true) (h:AOps P ops nt r (s.app d ⟨v,[],[],[]⟩) (aBk ⟨v,[],[],[]⟩::tr) K):AOps P ops nt (⟨d,.move x,ty,pos,aft,g⟩::r) s tr K:=ae (cS hx) hb h
theorem aa {d:Option Tmp} {ty:TypeId} {pos:String} {aft:Array Edge} {g:Option (Nat×Bool)} {x:Operand} {v:AV} (hx:s.ev x=some v) (hb:opB ops nt s ⟨d,.assign x,ty,pos,aft,g⟩ []=true) (h:AOps P ops nt r (s.app d ⟨v,[],[],[]⟩) (aBk ⟨v,[],[],[]⟩::tr) K):AOps P ops nt (⟨d,.assign x,ty,pos,aft,g⟩::r) s tr K:=ae (cX hx) hb h
theorem an (h:K tr s):AOps P ops nt [] s tr K:=dK h
theorem sn (h:K' s):SOps P ops nt [] s K':=aTB h
variable {Q:Exit→AState→Prop}
theorem sQ {x y:Code} (h:AC P nt x s (yP (λs'=>AC P nt y s' Q) Q)):AC P nt (.seq x y) s Q:=fS h
theorem rg {id:Nat} {l:List Oper} (h:AOps P l.toArray nt l s [] (λ_ s'=>Q .normal s')):AC P nt (.region id l.toArray false) s Q:=cW h
theorem rgS {id:Nat} {l:List Oper} (h:SOps P l.toArray nt l s (Q .normal)):AC P nt (.region id l.toArray false) s Q:=aPK h
theorem tn (h:K' s):yP K' Q .normal s:=h
end
theorem e1 {e:Nat→Option AV} {σ:Nat→Option Nat} {n t:Nat} {x y:AV} (h:e t=some x) (m:pG σ n x y): ∃ x,e t=some x∧pG σ n x y:=⟨x,h,m⟩
theorem ak {P:Program} {ops:Array Oper} {nt:Nat} {r:List Oper} {s:AState} {tr:List Tr} {K:List Tr→AState→Prop} {d:Option Tmp} {op:Op} {ty:TypeId} {pos:String} {aft:Array Edge} {g:Option (Nat×Bool)} (hg:nO ops s.env ⟨d,op,ty,pos,aft,g⟩=some false) (hd:aFQ ⟨d,op,ty,pos,aft,g⟩ nt=true) (h:AOps P ops nt r ⟨upd d (.tuple []) s.env,s.heap,s.used,s.ns,s.kp⟩ (⟨[],[]⟩::tr) K):AOps P ops nt (⟨d,op,ty,pos,aft,g⟩::r) s tr K:=iC hg hd h
section
variable {σ:Nat→Option Nat} {n b b0 k:Nat} {h:Hp} {r:List (Nat×Blk)}
theorem hB {y:Blk} (hp:aAa y.es) (hs:σ b=some b0) (hb:h b0=some y) (hn:Nat.blt b n=true) (hr:rG σ n h r):rG σ n h ((b,y)::r):=by
 simp only [rG];rw [hs];exact ⟨⟨y,hb,rfl,.inl ⟨rfl,hp⟩⟩,hn,hr⟩
theorem hX {y:Blk} (hm:match σ b with|some b0=> ∃ x,h b0=some x∧aEi σ n x y|none=>y.es=[]) (hn:Nat.blt b n=true) (hr:rG σ n h r):rG σ n h ((b,y)::r):=⟨hm,hn,hr⟩
end
theorem aYK {P:Program} {T:List (Nat×Ty)} (hT:TyOk P T) {dst:Option Tmp} {pos:String} {aft:Array Edge} {g:Option (Nat×Bool)} {s:AState} {x:Operand} {t e k:Nat} {y:Ty} {dty:TypeId} {α:Type} {f:α→List AV} {l:List α} (hx:s.ev x=some (.list k (List.map f l))) (hy:dY T t=some y) (hd:y.desc= .slice e):
  AEff P ⟨dst,.call ⟨.builtin .len,#[x],#[t]⟩,dty,pos,aft,g⟩ s.ev s.heap s.kp ⟨.int l.length,[],[],[]⟩:=AEff.val (fK hT hx hy hd) (by rw [fD])
theorem lA {α:Type} {a b:List α} :(a++b).length=a.length+b.length:=List.length_append
theorem lT {α:Type} {a:List α} {i:Nat} {x:α} :(a.set i x).length=a.length:=List.length_set
theorem lR {α:Type} {n:Nat} {x:α} :(List.replicate n x).length=n:=List.length_replicate
theorem lC {α:Type} {a:α} {b:List α} :(a::b).length=b.length+1:=List.length_cons
theorem lN {α:Type} :([]:List α).length=0:=List.length_nil
theorem aPN:([]:List AV).all vN=true:=rfl
theorem aDz {d:AV} {ds:List AV} (h1:vN d=true) (h2:ds.all vN=true):(d::ds).all vN=true:=by
 rw [List.all_cons,h1,h2];rfl
end
noncomputable section
theorem k2 {αa:Sort _} {a:αa} {αb:Sort _} {b:αb} :a=a∧b=b:=⟨rfl,rfl⟩
theorem k3 {αa:Sort _} {a:αa} {αb:Sort _} {b:αb} {αc:Sort _} {c:αc} :a=a∧b=b∧c=c:=⟨rfl,rfl,rfl⟩
theorem k4 {αa:Sort _} {a:αa} {αb:Sort _} {b:αb} {αc:Sort _} {c:αc} {αd:Sort _} {d:αd} :a=a∧b=b∧c=c∧d=d:=⟨rfl,rfl,rfl,rfl⟩
theorem k7 {αa:Sort _} {a:αa} {αb:Sort _} {b:αb} {αc:Sort _} {c:αc} {αd:Sort _} {d:αd} {αe:Sort _} {e:αe} {αf:Sort _} {f:αf} {αg:Sort _} {g:αg} :a=a∧b=b∧c=c∧d=d∧e=e∧f=f∧g=g:=⟨rfl,rfl,rfl,rfl,rfl,rfl,rfl⟩
theorem k8 {αa:Sort _} {a:αa} {αb:Sort _} {b:αb} {αc:Sort _} {c:αc} {αd:Sort _} {d:αd} {αe:Sort _} {e:αe} {αf:Sort _} {f:αf} {αg:Sort _} {g:αg} {αh:Sort _} {h:αh} :a=a∧b=b∧c=c∧d=d∧e=e∧f=f∧g=g∧h=h:=⟨rfl,rfl,rfl,rfl,rfl,rfl,rfl,rfl⟩
section
variable {ops:Array Oper} {nt:Nat} {r:List Oper} {s:AState} {tr:List Tr} {K:List Tr→AState→Prop} {K':AState→Prop} {d:Option Tmp} {ty:TypeId} {pos:String} {aft:Array Edge} {g:Option (Nat×Bool)}
theorem lp {x:Operand} {t:Nat} {y:Ty} {b i j:Nat} {blk:Blk} {cs:List AV} {v:AV} (h:s.ev x=some (.ptr b i j)∧s.heap b=some blk∧dY TT t=some y∧(y.desc.isAgg||Nat.beq y.size 1)=true∧blk.es[i]? =some cs∧Nat.ble (j+y.size) cs.length=true∧xQ y.desc.isAgg (((cs.drop j).take y.size).map aBj)=v∧opB ops nt s ⟨d,.load t x,ty,pos,aft,g⟩ []=true) (g2:AOps Tryz.prog ops nt r (s.app d ⟨v,[b],[],[]⟩) (aBk ⟨v,[b],[],[]⟩::tr) K):AOps Tryz.prog ops nt (⟨d,.load t x,ty,pos,aft,g⟩::r) s tr K:=by
 obtain ⟨h0,h1,h2,h3,h4,h5,h6,h7⟩:=h;exact ae (cI aD h0 h1 h2 h3 h4 h5 h6) h7 g2
theorem fp {x:Operand} {st f off ft:Nat} {b i j:Nat} {blk:Blk} {y yf:Ty} {fs:List (Nat×Nat)} (h:s.ev x=some (.ptr b i j)∧s.heap b=some blk∧dY TT st=some y∧y.desc= .struct fs∧fs[f]? =some (off,ft)∧dY TT ft=some yf∧Nat.beq yf.size 0=false∧opB ops nt s ⟨d,.fieldAddr st x f,ty,pos,aft,g⟩ []=true) (g2:AOps Tryz.prog ops nt r (s.app d ⟨.ptr b i (j+off),[b],[],[]⟩) (aBk ⟨.ptr b i (j+off),[b],[],[]⟩::tr) K):AOps Tryz.prog ops nt (⟨d,.fieldAddr st x f,ty,pos,aft,g⟩::r) s tr K:=by
 obtain ⟨h0,h1,h2,h3,h4,h5,h6,h7⟩:=h;exact ae (eW aD h0 h1 h2 h3 h4 h5 h6) h7 g2
theorem lr {x:Operand} {t:Nat} {y:Ty} {cs:List AV} {v:AV} (h:s.ev x=some (.ref cs)∧dY TT t=some y∧(y.desc.isAgg||Nat.beq y.size 1)=true∧Nat.ble y.size cs.length=true∧(cs.take y.size).all fE=true∧xQ y.desc.isAgg (cs.take y.size)=v∧opB ops nt s ⟨d,.load t x,ty,pos,aft,g⟩ []=true) (g2:AOps Tryz.prog ops nt r (s.app d ⟨v,[],[],[]⟩) (aBk ⟨v,[],[],[]⟩::tr) K):AOps Tryz.prog ops nt (⟨d,.load t x,ty,pos,aft,g⟩::r) s tr K:=by
 obtain ⟨h0,h1,h2,h3,h4,h5,h6⟩:=h;exact ae (gC aD h0 h1 h2 h3 h4 h5) h6 g2
theorem cm {op:BinOp} {t t':TypeId} {x y:Operand} {q:IntKind} {a b:Int} {c:Bool} (h:s.ev x=some (.sc (.int q a))∧s.ev y=some (.sc (.int q b))∧aUj op a b=some c∧opB ops nt s ⟨d,.binOp op t x y t',ty,pos,aft,g⟩ []=true) (g2:AOps Tryz.prog ops nt r (s.app d ⟨.bl c,[],[],[]⟩) (aBk ⟨.bl c,[],[],[]⟩::tr) K):AOps Tryz.prog ops nt (⟨d,.binOp op t x y t',ty,pos,aft,g⟩::r) s tr K:=by
 obtain ⟨h0,h1,h2,h3⟩:=h;exact ae (pM h0 h1 h2) h3 g2
theorem pk {c x y:Operand} {t:Bool} {v:AV} (h:s.ev c=some (.sc (.bool t))∧s.ev (if t then x else y)=some v∧opB ops nt s ⟨d,.pick c x y,ty,pos,aft,g⟩ []=true) (g2:AOps Tryz.prog ops nt r (s.app d ⟨v,[],[],[]⟩) (aBk ⟨v,[],[],[]⟩::tr) K):AOps Tryz.prog ops nt (⟨d,.pick c x y,ty,pos,aft,g⟩::r) s tr K:=by
 obtain ⟨h0,h1,h2⟩:=h;exact ae (gS h0 h1) h2 g2
theorem ln {x:Operand} {t e q:Nat} {y:Ty} {α:Type} {f:α→List AV} {l:List α} (h:s.ev x=some (.list q (List.map f l))∧dY TT t=some y∧y.desc= .slice e∧opB ops nt s ⟨d,.call ⟨.builtin .len,#[x],#[t]⟩,ty,pos,aft,g⟩ []=true) (g2:AOps Tryz.prog ops nt r (s.app d ⟨.int l.length,[],[],[]⟩) (aBk ⟨.int l.length,[],[],[]⟩::tr) K):AOps Tryz.prog ops nt (⟨d,.call ⟨.builtin .len,#[x],#[t]⟩,ty,pos,aft,g⟩::r) s tr K:=by
 obtain ⟨h0,h1,h2,h3⟩:=h;exact ae (aYK aD h0 h1 h2) h3 g2
theorem zD {x:Operand} {t:Nat} {y:Ty} {b i j:Nat} {blk:Blk} {cs:List AV} {v:AV} (h:s.ev x=some (.ptr b i j)∧s.heap b=some blk∧dY TT t=some y∧(y.desc.isAgg||Nat.beq y.size 1)=true∧blk.es[i]? =some cs∧Nat.ble (j+y.size) cs.length=true∧xQ y.desc.isAgg (((cs.drop j).take y.size).map aBj)=v∧opB ops nt s ⟨d,.load t x,ty,pos,aft,g⟩ []=true) (g2:SOps Tryz.prog ops nt r (s.app d ⟨v,[b],[],[]⟩) K'):SOps Tryz.prog ops nt (⟨d,.load t x,ty,pos,aft,g⟩::r) s K':=by
 obtain ⟨h0,h1,h2,h3,h4,h5,h6,h7⟩:=h;exact se (cI aD h0 h1 h2 h3 h4 h5 h6) h7 g2
theorem fpS {x:Operand} {st f off ft:Nat} {b i j:Nat} {blk:Blk} {y yf:Ty} {fs:List (Nat×Nat)} (h:s.ev x=some (.ptr b i j)∧s.heap b=some blk∧dY TT st=some y∧y.desc= .struct fs∧fs[f]? =some (off,ft)∧dY TT ft=some yf∧Nat.beq yf.size 0=false∧opB ops nt s ⟨d,.fieldAddr st x f,ty,pos,aft,g⟩ []=true) (g2:SOps Tryz.prog ops nt r (s.app d ⟨.ptr b i (j+off),[b],[],[]⟩) K'):SOps Tryz.prog ops nt (⟨d,.fieldAddr st x f,ty,pos,aft,g⟩::r) s K':=by
 obtain ⟨h0,h1,h2,h3,h4,h5,h6,h7⟩:=h;exact se (eW aD h0 h1 h2 h3 h4 h5 h6) h7 g2
theorem cmS {op:BinOp} {t t':TypeId} {x y:Operand} {q:IntKind} {a b:Int} {c:Bool} (h:s.ev x=some (.sc (.int q a))∧s.ev y=some (.sc (.int q b))∧aUj op a b=some c∧opB ops nt s ⟨d,.binOp op t x y t',ty,pos,aft,g⟩ []=true) (g2:SOps Tryz.prog ops nt r (s.app d ⟨.bl c,[],[],[]⟩) K'):SOps Tryz.prog ops nt (⟨d,.binOp op t x y t',ty,pos,aft,g⟩::r) s K':=by
 obtain ⟨h0,h1,h2,h3⟩:=h;exact se (pM h0 h1 h2) h3 g2
theorem pkS {c x y:Operand} {t:Bool} {v:AV} (h:s.ev c=some (.sc (.bool t))∧s.ev (if t then x else y)=some v∧opB ops nt s ⟨d,.pick c x y,ty,pos,aft,g⟩ []=true) (g2:SOps Tryz.prog ops nt r (s.app d ⟨v,[],[],[]⟩) K'):SOps Tryz.prog ops nt (⟨d,.pick c x y,ty,pos,aft,g⟩::r) s K':=by
 obtain ⟨h0,h1,h2⟩:=h;exact se (gS h0 h1) h2 g2
theorem gT {x:Operand} {v:AV} (h:s.ev x=some v∧opB ops nt s ⟨d,.assign x,ty,pos,aft,g⟩ []=true) (g2:SOps Tryz.prog ops nt r (s.app d ⟨v,[],[],[]⟩) K'):SOps Tryz.prog ops nt (⟨d,.assign x,ty,pos,aft,g⟩::r) s K':=by
 obtain ⟨h0,h1⟩:=h;exact se (cX h0) h1 g2
theorem eV {x:Operand} {v:AV} (h:s.ev x=some v∧opB ops nt s ⟨d,.move x,ty,pos,aft,g⟩ []=true) (g2:SOps Tryz.prog ops nt r (s.app d ⟨v,[],[],[]⟩) K'):SOps Tryz.prog ops nt (⟨d,.move x,ty,pos,aft,g⟩::r) s K':=by
 obtain ⟨h0,h1⟩:=h;exact se (cS h0) h1 g2
theorem aR:True:=trivial
theorem aT {x:Operand} {v:AV} {Q:Exit→AState→Prop} {T:AState→Prop} (h:s.ev x=some v∧opB ops nt s ⟨d,.assign x,ty,pos,aft,g⟩ []=true) (g2:T (s.app d ⟨v,[],[],[]⟩)):AOps Tryz.prog ops nt [⟨d,.assign x,ty,pos,aft,g⟩] s tr (λ_ s'=>yP T Q .normal s'):=aa h.1 h.2 (an (tn g2))
theorem aK {o1 o2:Oper} (h:(nO ops s.env o1=some false∧aFQ o1 nt=true∧nO ops (upd o1.dst (.tuple []) s.env) o2=some false∧aFQ o2 nt=true)) (g2:AOps Tryz.prog ops nt r ⟨upd o2.dst (.tuple []) (upd o1.dst (.tuple []) s.env),s.heap,s.used,s.ns,s.kp⟩ (⟨[],[]⟩::⟨[],[]⟩::tr) K):AOps Tryz.prog ops nt (o1::o2::r) s tr K:=ak h.1 h.2.1 (ak h.2.2.1 h.2.2.2 g2)
theorem sR {id:Nat} {l:List Oper} {y:Code} {Q:Exit→AState→Prop} (h:AOps Tryz.prog l.toArray nt l s [] (λ_ s'=>yP (λs'=>AC Tryz.prog nt y s' Q) Q .normal s')):AC Tryz.prog nt (.seq (.region id l.toArray false) y) s Q:=sQ (rg h)
theorem sS {id:Nat} {l:List Oper} {y:Code} {Q:Exit→AState→Prop} (h:SOps Tryz.prog l.toArray nt l s (yP (λs'=>AC Tryz.prog nt y s' Q) Q .normal)):AC Tryz.prog nt (.seq (.region id l.toArray false) y) s Q:=sQ (rgS h)
end
end
noncomputable section
theorem oB {α β:Type} {o:Option α} {k:α→Option β} {r:β} {p:Prop} (h:o.bind k=some r) (f: ∀ a,o=some a→k a=some r→p):p:=by
 obtain ⟨a,h1,h2⟩:=ob h;exact f a h1 h2
theorem lQ {h:Hp} {cs:List AV} (hp:cs.all fE=true):viewA h (.agg cs) (.agg cs):=aDs (aNK hp)
theorem kK {T:List (Nat×Ty)} {rvs:List ResultVar} {e:Exit} {s:AState} {u v:Bool} (h:some u=some v) (p:zP T s rvs=some [.bl u]∧aCB e=true):tW T rvs (.bl v) e s:=by
 cases h;exact bT p.2 p.1 rfl (xT rfl)
theorem rtI {T:List (Nat×Ty)} {rvs:List ResultVar} {e:Exit} {s:AState} {u v:Int} (h:some u=some v) (p:zP T s rvs=some [.int u]∧aCB e=true):tW T rvs (.int v) e s:=by
 cases h;exact bT p.2 p.1 rfl (aBl rfl)
theorem cL {d:Option Tmp} {ty:TypeId} {pos:String} {aft:Array Edge} {g:Option (Nat×Bool)} {s:AState} {f:FuncId} {xs:Array Operand} {ats:Array TypeId} {avs ds:List AV} {ns':List Nat} {α:Type} {e:α→List AV} {q b:Nat} {l:List α} (ok:EOk q e) (hc:HasC Tryz.prog f ds (.list q (List.map e l))) (h:evs s.ev xs.toList=some avs∧s.ns=b::ns'∧rI s.ns=true) (hv:All2 (viewA s.heap) avs ds):AEff Tryz.prog ⟨d,.call ⟨.value (.func f),xs,ats⟩,ty,pos,aft,g⟩ s.ev s.heap s.kp ⟨.own b 0 l.length,avs.flatMap (kM s.heap)++[].flatMap (qH s.heap),[(b,some ⟨q,List.map (ow e) l⟩)],[b]⟩:=
 AEff.conv (pO (x:= .own b 0 (List.map e l).length) (nb:=[(b,⟨q,cN (List.map e l)⟩)]) hc h.1 (by rw [h.2.1];rfl) rfl h.2.2 (ok.good _) hv) (by simp only [aO]) (vO (nb':=[(b,⟨q,List.map (ow e) l⟩)]) (by simp only [gA]))
theorem cLK {d:Option Tmp} {ty:TypeId} {pos:String} {aft:Array Edge} {g:Option (Nat×Bool)} {s:AState} {f:FuncId} {xs:Array Operand} {ats:Array TypeId} {avs ds:List AV} {ns':List Nat} {α:Type} {e:α→List AV} {q b:Nat} {l:List α} (ok:EOk q e) (hc:HasC Tryz.prog f ds (.list q (List.map e l))) (h:evs s.ev xs.toList=some avs∧s.ns=b::ns'∧rI s.ns=true) (hv:All2 (vF s.kp s.heap) avs ds):AEff Tryz.prog ⟨d,.call ⟨.value (.func f),xs,ats⟩,ty,pos,aft,g⟩ s.ev s.heap s.kp ⟨.own b 0 l.length,avs.flatMap (kM s.heap),[(b,some ⟨q,List.map (ow e) l⟩)],[b]⟩:=
 AEff.conv (aAB (x:= .own b 0 (List.map e l).length) (nb:=[(b,⟨q,cN (List.map e l)⟩)]) hc h.1 (by rw [h.2.1];rfl) rfl h.2.2 (ok.good _) hv) (by simp only [aO]) (vO (nb':=[(b,⟨q,List.map (ow e) l⟩)]) (by simp only [gA]))
theorem cM {d:Option Tmp} {ty:TypeId} {pos:String} {aft:Array Edge} {g:Option (Nat×Bool)} {s:AState} {f:FuncId} {xs:Array Operand} {ats:Array TypeId} {avs ds:List AV} {ns':List Nat} {b:Nat} {v:Mt} (hc:HasC Tryz.prog f ds (.agg (eM v))) (h:evs s.ev xs.toList=some avs∧s.ns=b::ns'∧rI s.ns=true) (hv:All2 (viewA s.heap) avs ds):AEff Tryz.prog ⟨d,.call ⟨.value (.func f),xs,ats⟩,ty,pos,aft,g⟩ s.ev s.heap s.kp ⟨.agg [.int v.rows,.int v.cols,.own b 0 v.cells.length],avs.flatMap (kM s.heap)++[].flatMap (qH s.heap),[(b,some ⟨1,List.map (ow eI) v.cells⟩)],[b]⟩:=
 AEff.conv (pO (x:= .agg [.int v.rows,.int v.cols,.own b 0 (List.map eI v.cells).length]) (nb:=[(b,⟨1,cN (List.map eI v.cells)⟩)]) hc h.1 (by rw [h.2.1];rfl) rfl h.2.2 (bZ trivial (bZ trivial (bZ (cP.good _) tZ))) hv) (by simp only [aO]) (vO (nb':=[(b,⟨1,List.map (ow eI) v.cells⟩)]) (by simp only [gA]))
theorem cMK {d:Option Tmp} {ty:TypeId} {pos:String} {aft:Array Edge} {g:Option (Nat×Bool)} {s:AState} {f:FuncId} {xs:Array Operand} {ats:Array TypeId} {avs ds:List AV} {ns':List Nat} {b:Nat} {v:Mt} (hc:HasC Tryz.prog f ds (.agg (eM v))) (h:evs s.ev xs.toList=some avs∧s.ns=b::ns'∧rI s.ns=true) (hv:All2 (vF s.kp s.heap) avs ds):AEff Tryz.prog ⟨d,.call ⟨.value (.func f),xs,ats⟩,ty,pos,aft,g⟩ s.ev s.heap s.kp ⟨.agg [.int v.rows,.int v.cols,.own b 0 v.cells.length],avs.flatMap (kM s.heap),[(b,some ⟨1,List.map (ow eI) v.cells⟩)],[b]⟩:=
 AEff.conv (aAB (x:= .agg [.int v.rows,.int v.cols,.own b 0 (List.map eI v.cells).length]) (nb:=[(b,⟨1,cN (List.map eI v.cells)⟩)]) hc h.1 (by rw [h.2.1];rfl) rfl h.2.2 (bZ trivial (bZ trivial (bZ (cP.good _) tZ))) hv) (by simp only [aO]) (vO (nb':=[(b,⟨1,List.map (ow eI) v.cells⟩)]) (by simp only [gA]))
theorem cQ {d:Option Tmp} {ty:TypeId} {pos:String} {aft:Array Edge} {g:Option (Nat×Bool)} {s:AState} {f:FuncId} {xs:Array Operand} {ats:Array TypeId} {avs ds:List AV} {ns':List Nat} {b c:Nat} {v:Qv} (hc:HasC Tryz.prog f ds (.agg (eQ v))) (h:evs s.ev xs.toList=some avs∧s.ns=b::c::ns'∧rI s.ns=true) (hv:All2 (viewA s.heap) avs ds):AEff Tryz.prog ⟨d,.call ⟨.value (.func f),xs,ats⟩,ty,pos,aft,g⟩ s.ev s.heap s.kp ⟨.agg [.int v.n,.own b 0 v.src.length,.own c 0 v.tgt.length],avs.flatMap (kM s.heap)++[].flatMap (qH s.heap),[(b,some ⟨1,List.map (ow eI) v.src⟩),(c,some ⟨1,List.map (ow eI) v.tgt⟩)],[b,c]⟩:=
 AEff.conv (pO (x:= .agg [.int v.n,.own b 0 (List.map eI v.src).length,.own c 0 (List.map eI v.tgt).length]) (nb:=[(b,⟨1,cN (List.map eI v.src)⟩),(c,⟨1,cN (List.map eI v.tgt)⟩)]) hc h.1 (by rw [h.2.1];rfl) rfl h.2.2 (bZ trivial (bZ (cP.good _) (bZ (cP.good _) tZ))) hv) (by simp only [aO]) (vO (nb':=[(b,⟨1,List.map (ow eI) v.src⟩),(c,⟨1,List.map (ow eI) v.tgt⟩)]) (by simp only [gA]))
theorem cQK {d:Option Tmp} {ty:TypeId} {pos:String} {aft:Array Edge} {g:Option (Nat×Bool)} {s:AState} {f:FuncId} {xs:Array Operand} {ats:Array TypeId} {avs ds:List AV} {ns':List Nat} {b c:Nat} {v:Qv} (hc:HasC Tryz.prog f ds (.agg (eQ v))) (h:evs s.ev xs.toList=some avs∧s.ns=b::c::ns'∧rI s.ns=true) (hv:All2 (vF s.kp s.heap) avs ds):AEff Tryz.prog ⟨d,.call ⟨.value (.func f),xs,ats⟩,ty,pos,aft,g⟩ s.ev s.heap s.kp ⟨.agg [.int v.n,.own b 0 v.src.length,.own c 0 v.tgt.length],avs.flatMap (kM s.heap),[(b,some ⟨1,List.map (ow eI) v.src⟩),(c,some ⟨1,List.map (ow eI) v.tgt⟩)],[b,c]⟩:=
 AEff.conv (aAB (x:= .agg [.int v.n,.own b 0 (List.map eI v.src).length,.own c 0 (List.map eI v.tgt).length]) (nb:=[(b,⟨1,cN (List.map eI v.src)⟩),(c,⟨1,cN (List.map eI v.tgt)⟩)]) hc h.1 (by rw [h.2.1];rfl) rfl h.2.2 (bZ trivial (bZ (cP.good _) (bZ (cP.good _) tZ))) hv) (by simp only [aO]) (vO (nb':=[(b,⟨1,List.map (ow eI) v.src⟩),(c,⟨1,List.map (ow eI) v.tgt⟩)]) (by simp only [gA]))
theorem cR {d:Option Tmp} {ty:TypeId} {pos:String} {aft:Array Edge} {g:Option (Nat×Bool)} {s:AState} {f:FuncId} {xs:Array Operand} {ats:Array TypeId} {avs ds:List AV} {ns':List Nat} {b c b3 b4:Nat} {v:Rp} (hc:HasC Tryz.prog f ds (.agg (eR v))) (h:evs s.ev xs.toList=some avs∧s.ns=b::c::b3::b4::ns'∧rI s.ns=true) (hv:All2 (viewA s.heap) avs ds):AEff Tryz.prog ⟨d,.call ⟨.value (.func f),xs,ats⟩,ty,pos,aft,g⟩ s.ev s.heap s.kp ⟨.agg [.int v.p,.int v.q.n,.own b 0 v.q.src.length,.own c 0 v.q.tgt.length,.own b3 0 v.dims.length,.own b4 0 v.maps.length],avs.flatMap (kM s.heap)++[].flatMap (qH s.heap),[(b,some ⟨1,List.map (ow eI) v.q.src⟩),(c,some ⟨1,List.map (ow eI) v.q.tgt⟩),(b3,some ⟨1,List.map (ow eI) v.dims⟩),(b4,some ⟨3,List.map (ow eM) v.maps⟩)],[b,c,b3,b4]⟩:=
 AEff.conv (pO (x:= .agg [.int v.p,.int v.q.n,.own b 0 (List.map eI v.q.src).length,.own c 0 (List.map eI v.q.tgt).length,.own b3 0 (List.map eI v.dims).length,.own b4 0 (List.map eM v.maps).length]) (nb:=[(b,⟨1,cN (List.map eI v.q.src)⟩),(c,⟨1,cN (List.map eI v.q.tgt)⟩),(b3,⟨1,cN (List.map eI v.dims)⟩),(b4,⟨3,cN (List.map eM v.maps)⟩)]) hc h.1 (by rw [h.2.1];rfl) rfl h.2.2 (bZ trivial (bZ trivial (bZ (cP.good _) (bZ (cP.good _) (bZ (cP.good _) (bZ (cE.good _) tZ)))))) hv) (by simp only [aO]) (vO (nb':=[(b,⟨1,List.map (ow eI) v.q.src⟩),(c,⟨1,List.map (ow eI) v.q.tgt⟩),(b3,⟨1,List.map (ow eI) v.dims⟩),(b4,⟨3,List.map (ow eM) v.maps⟩)]) (by simp only [gA]))
theorem cRK {d:Option Tmp} {ty:TypeId} {pos:String} {aft:Array Edge} {g:Option (Nat×Bool)} {s:AState} {f:FuncId} {xs:Array Operand} {ats:Array TypeId} {avs ds:List AV} {ns':List Nat} {b c b3 b4:Nat} {v:Rp} (hc:HasC Tryz.prog f ds (.agg (eR v))) (h:evs s.ev xs.toList=some avs∧s.ns=b::c::b3::b4::ns'∧rI s.ns=true) (hv:All2 (vF s.kp s.heap) avs ds):AEff Tryz.prog ⟨d,.call ⟨.value (.func f),xs,ats⟩,ty,pos,aft,g⟩ s.ev s.heap s.kp ⟨.agg [.int v.p,.int v.q.n,.own b 0 v.q.src.length,.own c 0 v.q.tgt.length,.own b3 0 v.dims.length,.own b4 0 v.maps.length],avs.flatMap (kM s.heap),[(b,some ⟨1,List.map (ow eI) v.q.src⟩),(c,some ⟨1,List.map (ow eI) v.q.tgt⟩),(b3,some ⟨1,List.map (ow eI) v.dims⟩),(b4,some ⟨3,List.map (ow eM) v.maps⟩)],[b,c,b3,b4]⟩:=
 AEff.conv (aAB (x:= .agg [.int v.p,.int v.q.n,.own b 0 (List.map eI v.q.src).length,.own c 0 (List.map eI v.q.tgt).length,.own b3 0 (List.map eI v.dims).length,.own b4 0 (List.map eM v.maps).length]) (nb:=[(b,⟨1,cN (List.map eI v.q.src)⟩),(c,⟨1,cN (List.map eI v.q.tgt)⟩),(b3,⟨1,cN (List.map eI v.dims)⟩),(b4,⟨3,cN (List.map eM v.maps)⟩)]) hc h.1 (by rw [h.2.1];rfl) rfl h.2.2 (bZ trivial (bZ trivial (bZ (cP.good _) (bZ (cP.good _) (bZ (cP.good _) (bZ (cE.good _) tZ)))))) hv) (by simp only [aO]) (vO (nb':=[(b,⟨1,List.map (ow eI) v.q.src⟩),(c,⟨1,List.map (ow eI) v.q.tgt⟩),(b3,⟨1,List.map (ow eI) v.dims⟩),(b4,⟨3,List.map (ow eM) v.maps⟩)]) (by simp only [gA]))
def re1 (σ:Nat→Option Nat):AV→AV
 | .own b i m=>match σ b with|some b0=> .own b0 i m|none=> .dead
 | .ptr b i j=>match σ b with|some b0=> .ptr b0 i j|none=> .dead
 |x=>x
def reA (σ:Nat→Option Nat):AV→AV
 | .agg cs=> .agg (cs.map (re1 σ))
 |x=>re1 σ x
def ok1 (σ:Nat→Option Nat) (n:Nat):AV→Bool
 | .own b _ _=>(σ b).isSome &&Nat.blt b n
 | .ptr b _ _=>(σ b).isSome &&Nat.blt b n
 | .sc _=>true
 | .nil _=>true
 | .list _ _=>true
 | .ref _=>true
 |_=>false
def okA (σ:Nat→Option Nat) (n:Nat):AV→Bool
 | .agg cs=>cs.all (ok1 σ n)
 |x=>ok1 σ n x
def aNV (e:Nat→Option AV):List (Nat×AV)→List (Option AV)
 | []=>[]
 |(t,_)::r=>e t::aNV e r
def aNW (σ:Nat→Option Nat):List (Nat×AV)→List (Option AV)
 | []=>[]
 |(_,y)::r=>some (reA σ y)::aNW σ r
theorem aCN {σ:Nat→Option Nat} {n:Nat} {y:AV} (h:ok1 σ n y=true):gH σ n (re1 σ y) y:=by
 cases y <;> simp only [ok1,fJ] at h
 ·rfl
 ·trivial
 ·exact ⟨rfl,rfl⟩
 ·rfl
 all_goals
  rename_i b i j
  simp only [dF] at h
  obtain ⟨b0,hb⟩:=Option.isSome_iff_exists.1 h.1
  simp only [re1,hb]
  exact ⟨hb,rfl,rfl,h.2⟩
theorem aVj {σ:Nat→Option Nat} {n:Nat} : ∀ {cs:List AV},cs.all (ok1 σ n)=true→All2 (gH σ n) (cs.map (re1 σ)) cs
 | [],_=>rfl
 |c::cs,h=>by
  simp only [List.all_cons,dF] at h;exact ⟨c,cs,rfl,aCN h.1,aVj h.2⟩
theorem aXP {σ:Nat→Option Nat} {n:Nat} {y:AV} (h:okA σ n y=true):pG σ n (reA σ y) y:=by
 cases y with
 |agg cs=>exact aVj h
 |fn f cs=>simp [okA,ok1] at h
 |tuple cs=>simp [okA,ok1] at h
 |dead=>simp [okA,ok1] at h
 |abs q es=>simp [okA,ok1] at h
 |sc u=>exact aCN (σ:=σ) (n:=n) (y:= .sc u) h
 |nil q=>exact aCN (σ:=σ) (n:=n) (y:= .nil q) h
 |list q es=>exact aCN (σ:=σ) (n:=n) (y:= .list q es) h
 |ref cs=>exact aCN (σ:=σ) (n:=n) (y:= .ref cs) h
 |own b i m=>
  have:=aCN (σ:=σ) (n:=n) (y:= .own b i m) h;simp only [reA];generalize re1 σ (.own b i m)=z at*;cases z <;> first|exact this|exact this.elim
 |ptr b i j=>
  have:=aCN (σ:=σ) (n:=n) (y:= .ptr b i j) h;simp only [reA];generalize re1 σ (.ptr b i j)=z at*;cases z <;> first|exact this|exact this.elim
theorem aXQ {σ:Nat→Option Nat} {n:Nat} {e:Nat→Option AV} : ∀ {tl:List (Nat×AV)},aNV e tl=aNW σ tl→(tl.all λp=>okA σ n p.2)=true→aFS σ n e tl
 | [],_,_=>trivial
 |(t,y)::r,h,q=>by
  simp only [aNV,aNW,List.cons.injEq] at h;simp only [List.all_cons,dF] at q;exact ⟨⟨_,h.1,aXP q.1⟩,aXQ h.2 q.2⟩
theorem bK {σ:Nat→Option Nat} {n:Nat} {e:Nat→Option AV} {tl:List (Nat×AV)} (h:aNV e tl=aNW σ tl∧(tl.all λp=>okA σ n p.2)=true):aFS σ n e tl:=aXQ h.1 h.2
end
noncomputable section
def nmA:List Nat:=[0,1,2,3,4,5,6,7,8,9,10,11,12,13,14,15,16,17,18,19]++[20,21,22,23,24,25,26,27,28,29,30,31,32,33,34,35,36,37,38,39]++([40,41,42,43,44,45,46,47,48,49,50,51,52,53,54,55,56,57,58,59]++([60,61,62,63,64,65,66,67,68,69,70,71,72,73,74,75,76,77,78,79]++[80,81,82,83,84,85,86,87,88,89,90,91,92,93,94,95,96,97,98,99]))
abbrev mN (e:List (Nat×AV)) (h:List (Nat×Blk)) (n:Nat) (kp:Kp:=0):AState:=mkS e h n (nmA.drop n) kp
def iSg:List (Nat×Blk)→Nat→Option Nat
 | [],_=>none
 |(q,_)::r,t=>bif Nat.beq t q then some t else iSg r t
def zSg:List (Nat×Blk)→List Nat→Nat→Option Nat
 |(q,_)::r,b::bs,t=>bif Nat.beq t q then some b else zSg r bs t
 |_,_,_=>none
theorem bS {s:AState} {n:Nat} {kp:Kp} {tl:List (Nat×AV)} {hl:List (Nat×Blk)} (he:aFS (iSg hl) n s.env tl) (hh:rG (iSg hl) n s.heap hl) (p:aCc (iSg hl) hl=true∧s.kp=kp∧aKW (iSg hl) kp.n hl=true∧Nat.ble kp.n n=true):Ent s (mN tl hl n kp):=fX he hh p.1 p.2.1 p.2.2.1 p.2.2.2
theorem mX (bs:List Nat) {s:AState} {n:Nat} {kp:Kp} {tl:List (Nat×AV)} {hl:List (Nat×Blk)} (he:aFS (zSg hl bs) n s.env tl) (hh:rG (zSg hl bs) n s.heap hl) (p:aCc (zSg hl bs) hl=true∧s.kp=kp∧aKW (zSg hl bs) kp.n hl=true∧Nat.ble kp.n n=true):Ent s (mN tl hl n kp):=fX he hh p.1 p.2.1 p.2.2.1 p.2.2.2
section
variable {σ:Nat→Option Nat} {n:Nat}
theorem aNX {e:Nat→Option AV} : ∀ {m:Nat} {tl:List (Nat×AV)},aFS σ n e (tl.take m)→aFS σ n e (tl.drop m)→aFS σ n e tl
 |0,_,_,h=>h
 |m+1,[],_,_=>trivial
 |m+1,(t,y)::r,h1,h2=>⟨h1.1,aNX h1.2 h2⟩
theorem mG (m:Nat) {e:Nat→Option AV} {tl:List (Nat×AV)} (h:aNV e (tl.take m)=aNW σ (tl.take m)∧((tl.take m).all λp=>okA σ n p.2)=true) (h2:aFS σ n e (tl.drop m)):aFS σ n e tl:=aNX (bK h) h2
theorem jJ {e:Nat→Option AV} {t:Nat} {y:AV} {r:List (Nat×AV)} (h: ∃ x,e t=some x∧pG σ n x y) (h2:aFS σ n e r):aFS σ n e ((t,y)::r):=⟨h,h2⟩
variable {b b0 q:Nat} {h:Hp} {r:List (Nat×Blk)}
theorem bP {l:List Int} (p:(σ b,h b0,Nat.blt b n)=(some b0,some ⟨1,List.map (ow eI) l⟩,true)) (hr:rG σ n h r):rG σ n h ((b,⟨1,List.map (ow eI) l⟩)::r):=by
 obtain ⟨p1,p⟩:=Prod.mk.inj p;obtain ⟨p2,p3⟩:=Prod.mk.inj p;exact hB (cP.plainO _) p1 p2 p3 hr
theorem bN {y:Blk} (p:(σ b,h b0,Nat.blt b n,y.es.all λcs=>cs.all sE)=(some b0,some y,true,true)) (hr:rG σ n h r):rG σ n h ((b,y)::r):=by
 obtain ⟨p1,p⟩:=Prod.mk.inj p;obtain ⟨p2,p⟩:=Prod.mk.inj p;obtain ⟨p3,p4⟩:=Prod.mk.inj p;exact hB (aSk p4) p1 p2 p3 hr
theorem cD {y:Blk} (hp:aAa y.es) (p:(σ b,h b0,Nat.blt b n)=(some b0,some y,true)) (hr:rG σ n h r):rG σ n h ((b,y)::r):=by
 obtain ⟨p1,p⟩:=Prod.mk.inj p;obtain ⟨p2,p3⟩:=Prod.mk.inj p;exact hB hp p1 p2 p3 hr
def reC (σ:Nat→Option Nat):AV→AV
 | .own b i m=>match σ b with|some b0=> .own b0 i m|none=> .dead
 | .ptr b i j=>match σ b with|some b0=> .ptr b0 i j|none=> .dead
 |x=>x
def okC (σ:Nat→Option Nat) (n:Nat):AV→Bool
 | .own b _ _=>(σ b).isSome &&Nat.blt b n
 | .ptr b _ _=>(σ b).isSome &&Nat.blt b n
 | .sc _=>true
 | .nil _=>true
 | .list _ _=>true
 | .abs _ _=>true
 | .ref _=>true
 |_=>false
theorem aXT {y:AV} (h:okC σ n y=true):mY σ n (reC σ y) y:=by
 cases y with
 |sc u=>exact aCN (σ:=σ) (n:=n) (y:= .sc u) h
 |nil q=>exact aCN (σ:=σ) (n:=n) (y:= .nil q) h
 |list q es=>exact aCN (σ:=σ) (n:=n) (y:= .list q es) h
 |ref cs=>exact aCN (σ:=σ) (n:=n) (y:= .ref cs) h
 |abs q es=>exact ⟨rfl,rfl⟩
 |own b i m=>
  have:=aCN (σ:=σ) (n:=n) (y:= .own b i m) h;show mY σ n (re1 σ (.own b i m)) _;generalize re1 σ (.own b i m)=z at*;cases z <;> first|exact this|exact this.elim
 |ptr b i j=>
  have:=aCN (σ:=σ) (n:=n) (y:= .ptr b i j) h;show mY σ n (re1 σ (.ptr b i j)) _;generalize re1 σ (.ptr b i j)=z at*;cases z <;> first|exact this|exact this.elim
 |agg cs=>simp [okC] at h
 |fn f cs=>simp [okC] at h
 |tuple cs=>simp [okC] at h
 |dead=>simp [okC] at h
theorem aTG: ∀ {cs:List AV},cs.all (okC σ n)=true→All2 (mY σ n) (cs.map (reC σ)) cs
 | [],_=>rfl
 |c::cs,h=>by
  simp only [List.all_cons,dF] at h;exact ⟨c,cs,rfl,aXT h.1,aTG h.2⟩
theorem aTH: ∀ {es:List (List AV)},(es.all λcs=>cs.all (okC σ n))=true→All2 (All2 (mY σ n)) (es.map (List.map (reC σ))) es
 | [],_=>rfl
 |c::cs,h=>by
  simp only [List.all_cons,dF] at h;exact ⟨c,cs,rfl,aTG h.1,aTH h.2⟩
theorem fF {es:List (List AV)} (p:(σ b,h b0,Nat.blt b n,es.all λcs=>cs.all (okC σ n))=(some b0,some ⟨q,es.map (List.map (reC σ))⟩,true,true)) (hr:rG σ n h r):rG σ n h ((b,⟨q,es⟩)::r):=by
 obtain ⟨p1,p⟩:=Prod.mk.inj p;obtain ⟨p2,p⟩:=Prod.mk.inj p;obtain ⟨p3,p4⟩:=Prod.mk.inj p;refine hX ?_ p3 hr;rw [p1];exact ⟨_,p2,rfl,.inr (aTH p4)⟩
end
theorem cG {α:Type} {c:Bool} {A:Option α} {r:α} {p:Prop} (h:cond c A none=some r) (f:c=true→A=some r→p):p:=f (cg h).1 (cg h).2
section
variable {h:Hp} {x:AV} {xs ds:List AV}
theorem dW (q:fE x=true) (b:All2 (viewA h) xs ds):All2 (viewA h) (x::xs) (x::ds):=aZ (aBU q) b
theorem vcT {b m:Nat} {l:List Int} (hb:h b=some ⟨1,List.map (ow eI) l⟩) (hn:l.length=m) (q:All2 (viewA h) xs ds):All2 (viewA h) (.own b 0 m::xs) (.list 1 (List.map eI l)::ds):=aZ (aAv cP hb hn) q
end
theorem cT {d:Option Tmp} {ty:TypeId} {pos:String} {aft:Array Edge} {g:Option (Nat×Bool)} {s:AState} {f:FuncId} {xs:Array Operand} {ats:Array TypeId} {avs ds:List AV} {ns':List Nat} {α:Type} {e:α→List AV} {q b:Nat} {l:List α} {z:Bool} {c0:Nat} (ok:EOk q e) (hc:HasC Tryz.prog f ds (.tuple [.list q (List.map e l),.bl z])) (h:evs s.ev xs.toList=some avs∧s.ns=b::c0::ns'∧rI s.ns=true) (hv:All2 (viewA s.heap) avs ds):AEff Tryz.prog ⟨d,.call ⟨.value (.func f),xs,ats⟩,ty,pos,aft,g⟩ s.ev s.heap s.kp ⟨.tuple [.own b 0 l.length,.bl z],avs.flatMap (kM s.heap)++[].flatMap (qH s.heap),[(b,some ⟨q,List.map (ow e) l⟩)],[b]⟩:=
 AEff.conv (pO (x:= .tuple [.own b 0 (List.map e l).length,.bl z]) (nb:=[(b,⟨q,cN (List.map e l)⟩)]) hc h.1 (by rw [h.2.1];rfl) rfl h.2.2 (fV (ok.good _) (fV trivial vH)) hv) (by simp only [aO]) (vO (nb':=[(b,⟨q,List.map (ow e) l⟩)]) (by simp only [gA]))
theorem cTK {d:Option Tmp} {ty:TypeId} {pos:String} {aft:Array Edge} {g:Option (Nat×Bool)} {s:AState} {f:FuncId} {xs:Array Operand} {ats:Array TypeId} {avs ds:List AV} {ns':List Nat} {α:Type} {e:α→List AV} {q b:Nat} {l:List α} {z:Bool} {c0:Nat} (ok:EOk q e) (hc:HasC Tryz.prog f ds (.tuple [.list q (List.map e l),.bl z])) (h:evs s.ev xs.toList=some avs∧s.ns=b::c0::ns'∧rI s.ns=true) (hv:All2 (vF s.kp s.heap) avs ds):AEff Tryz.prog ⟨d,.call ⟨.value (.func f),xs,ats⟩,ty,pos,aft,g⟩ s.ev s.heap s.kp ⟨.tuple [.own b 0 l.length,.bl z],avs.flatMap (kM s.heap),[(b,some ⟨q,List.map (ow e) l⟩)],[b]⟩:=
 AEff.conv (aAB (x:= .tuple [.own b 0 (List.map e l).length,.bl z]) (nb:=[(b,⟨q,cN (List.map e l)⟩)]) hc h.1 (by rw [h.2.1];rfl) rfl h.2.2 (fV (ok.good _) (fV trivial vH)) hv) (by simp only [aO]) (vO (nb':=[(b,⟨q,List.map (ow e) l⟩)]) (by simp only [gA]))
section
variable {h:Hp} {κ:Kp}
theorem vaR {b1 b2 b3 b4 m1 m2 m3 m4:Nat} {v:Rp} (p:h b1=some ⟨1,List.map (ow eI) v.q.src⟩∧v.q.src.length=m1∧h b2=some ⟨1,List.map (ow eI) v.q.tgt⟩∧v.q.tgt.length=m2∧h b3=some ⟨1,List.map (ow eI) v.dims⟩∧v.dims.length=m3∧h b4=some ⟨3,List.map (ow eM) v.maps⟩∧v.maps.length=m4):viewA h (.agg [.int v.p,.int v.q.n,.own b1 0 m1,.own b2 0 m2,.own b3 0 m3,.own b4 0 m4]) (.agg (eR v)):=
 aDs (gN (tC rfl) (gN (tC rfl) (gN (aAu cP p.1 p.2.1) (gN (aAu cP p.2.2.1 p.2.2.2.1) (gN (aAu cP p.2.2.2.2.1 p.2.2.2.2.2.1) (gN (aAu cE p.2.2.2.2.2.2.1 p.2.2.2.2.2.2.2) aCi))))))
theorem vaM {b m:Nat} {v:Mt} (p:h b=some ⟨1,List.map (ow eI) v.cells⟩∧v.cells.length=m):viewA h (.agg [.int v.rows,.int v.cols,.own b 0 m]) (.agg (eM v)):=aDs (gN (tC rfl) (gN (tC rfl) (gN (aAu cP p.1 p.2) aCi)))
theorem vaQ {b1 b2 m1 m2:Nat} {v:Qv} (p:h b1=some ⟨1,List.map (ow eI) v.src⟩∧v.src.length=m1∧h b2=some ⟨1,List.map (ow eI) v.tgt⟩∧v.tgt.length=m2):viewA h (.agg [.int v.n,.own b1 0 m1,.own b2 0 m2]) (.agg (eQ v)):=aDs (gN (tC rfl) (gN (aAu cP p.1 p.2.1) (gN (aAu cP p.2.2.1 p.2.2.2) aCi)))
theorem vrR {W:World} {a:Rp} {w2 w3 w4 w5:Value} {S2 S3 S4 S5:List Nat} (hf:κ.fx=rB W) (r2:RepD W (.list 1 (List.map eI a.q.src)) w2 S2) (r3:RepD W (.list 1 (List.map eI a.q.tgt)) w3 S3) (r4:RepD W (.list 1 (List.map eI a.dims)) w4 S4) (r5:RepD W (.list 3 (List.map eM a.maps)) w5 S5):vF κ h (.agg [.int a.p,.int a.q.n,.sc w2,.sc w3,.sc w4,.sc w5]) (.agg (eR a)):=
 .inr (eG (tD hf rfl) (eG (tD hf rfl) (eG (jN hf r2) (eG (jN hf r3) (eG (jN hf r4) (eG (jN hf r5) xU))))))
variable {x:AV} {xs ds:List AV}
theorem wkS (q:fE x=true) (b:All2 (vF κ h) xs ds):All2 (vF κ h) (x::xs) (x::ds):=fY (.inl (aBU q)) b
theorem wkT {b m:Nat} {l:List Int} (hb:h b=some ⟨1,List.map (ow eI) l⟩) (hn:l.length=m) (q:All2 (vF κ h) xs ds):All2 (vF κ h) (.own b 0 m::xs) (.list 1 (List.map eI l)::ds):=fY (.inl (aAv cP hb hn)) q
theorem wkD {W:World} {k:Nat} {es:List (List AV)} {v:Value} {S:List Nat} (hf:κ.fx=rB W) (r:RepD W (.list k es) v S) (q:All2 (vF κ h) xs ds):All2 (vF κ h) (.sc v::xs) (.list k es::ds):=fY (.inr (aVh hf r)) q
end
section
variable {dst:Option Tmp} {ty:TypeId} {pos:String} {aft:Array Edge} {g:Option (Nat×Bool)} {s:AState}
theorem wl {t e:TypeId} {n:Nat} {parts:Array (Nat×Operand)} {y ye:Ty} {ps:List (Nat×List AV)} {cs:List AV} {b:Nat}
  (h:(s.ns.head?,dY TT t,y.desc,dY TT e,ye.zero.length,Nat.ble (n*ye.size) 16777216,Nat.ble n 16777216,aAZ s.ev parts.toList,aCw (λi=>some (i*ye.size,ye.size)) (List.replicate n ye.zero).flatten ps,(ps.all λp=>p.2.all (okCell s.heap)),cs.all (okCell s.heap),(ps.flatMap (λp=>dZ p.2)++dZ cs).contains b)=(some b,some y,.slice e,some ye,ye.size,true,true,some ps,some cs,true,true,false)):
  AEff Tryz.prog ⟨dst,.buildSlice t n parts,ty,pos,aft,g⟩ s.ev s.heap s.kp ⟨.own b 0 n,ps.flatMap (λp=>dZ p.2)++dZ cs,[(b,some ⟨ye.size,aDI ye.size n cs⟩)],[b]⟩:=by
 simp only [Prod.mk.injEq] at h;obtain ⟨h1,h2,h3,h4,h5,h6,h7,h8,h9,h10,h11,h12⟩:=h;exact zY aD h1 h2 h3 h4 h5 h6 h7 h8 h9 h10 h11 h12
theorem ws {t:TypeId} {y:Ty} {x z:Operand} {val:AV} {b i j kk:Nat} {ees:List (List AV)} {cs:List AV}
  (h:(s.ev x,s.heap b,s.ev z,dY TT t,Nat.beq (dI val).length y.size,(dI val).all (okCell s.heap),ees[i]?,Nat.ble (j+y.size) cs.length)=(some (.ptr b i j),some ⟨kk,ees⟩,some val,some y,true,true,some cs,true)):
  AEff Tryz.prog ⟨dst,.store t x z,ty,pos,aft,g⟩ s.ev s.heap s.kp ⟨.dead,b::dZ (dI val),[(b,some ⟨kk,ees.set i (aCC cs j (dI val))⟩)],[]⟩:=by
 simp only [Prod.mk.injEq] at h;obtain ⟨h1,h2,h3,h4,h5,h6,h7,h8⟩:=h;exact lG aD h1 h2 h3 h4 h5 h6 h7 h8
theorem wb {t:TypeId} {x:Operand} {v:AV} {b:Nat} (h:(s.ns.head?,s.ev x,(dI v).all (okCell s.heap),(dZ (dI v)).contains b)=(some b,some v,true,false)):
  AEff Tryz.prog ⟨dst,.box t x,ty,pos,aft,g⟩ s.ev s.heap s.kp ⟨.ptr b 0 0,dZ (dI v),[(b,some ⟨(dI v).length,[dI v]⟩)],[b]⟩:=by
 simp only [Prod.mk.injEq] at h;obtain ⟨h1,h2,h3,h4⟩:=h;exact yQ h1 h2 h3 h4
theorem xl {α:Type} {k:Nat} {e:α→List AV} {x ix:Operand} {t et:Nat} {y ye:Ty} {l:List α} {kk:IntKind} {i:Int} {v:α} (hm:cO l i=some v)
  (h:(s.ev x,s.ev ix,dY TT t,y.desc,dY TT et,ye.size)=(some (.list k (l.map e)),some (.sc (.int kk i)),some y,.slice et,some ye,k)):
  AEff Tryz.prog ⟨dst,.indexAddr t x ix,ty,pos,aft,g⟩ s.ev s.heap s.kp ⟨.ref (e v),[],[],[]⟩:=by
 simp only [Prod.mk.injEq] at h;obtain ⟨h1,h2,h3,h4,h5,h6⟩:=h;exact aRQ aD hm h1 h2 h3 h4 h5 h6
theorem xo {α:Type} {l:List α} {v:α} {x ix:Operand} {t et:Nat} {y ye:Ty} {b kz:Nat} {es:List (List AV)} {kk:IntKind} {i:Int} (hm:cO l i=some v)
  (h:(s.ev x,s.heap b,s.ev ix,dY TT t,y.desc,dY TT et,ye.size)=(some (.own b 0 l.length),some ⟨kz,es⟩,some (.sc (.int kk i)),some y,.slice et,some ye,kz)):
  AEff Tryz.prog ⟨dst,.indexAddr t x ix,ty,pos,aft,g⟩ s.ev s.heap s.kp ⟨.ptr b i.toNat 0,[b],[],[]⟩:=by
 simp only [Prod.mk.injEq] at h;obtain ⟨h1,h2,h3,h4,h5,h6,h7⟩:=h;exact aCI aD (aIj hm) (iR hm) h1 h2 h3 h4 h5 h6 h7
theorem wp {α:Type} {e:α→List AV} {l:List α} {u:α} {x:Operand} {t:Nat} {y:Ty} {b j k:Nat} {i:Int} {v:AV} (hm:cO l i=some u)
  (h:(s.ev x,s.heap b,dY TT t,(y.desc.isAgg||Nat.beq y.size 1),Nat.ble (j+y.size) (e u).length,xQ y.desc.isAgg ((((e u).drop j).take y.size).map aBj))=(some (.ptr b i.toNat j),some ⟨k,l.map e⟩,some y,true,true,v)):
  AEff Tryz.prog ⟨dst,.load t x,ty,pos,aft,g⟩ s.ev s.heap s.kp ⟨v,[b],[],[]⟩:=by
 simp only [Prod.mk.injEq] at h;obtain ⟨h1,h2,h3,h4,h5,h6⟩:=h;exact cI aD h1 h2 h3 h4 (jW (dB hm)) h5 h6
end
theorem hM {f:FuncId} {fn:Func} {c:Code} {nt:Nat} {ds:List AV} {r:AV} (rvs:List ResultVar) (hf:Tryz.prog.funcs[f]? =some fn) (hnt:fn.ntmps=nt) (h':(fn.body,(fn.name== "runtime.NumGoroutine"),fn.results.toList,Nat.ble ds.length nt,ds.all vN)=(some c,false,rvs,true,true)) (h:AC Tryz.prog nt c (s0 ds nmA) (tW TT rvs r)):HasC Tryz.prog f ds r:=by
 simp only [Prod.mk.injEq] at h';exact aCg aD hf h'.1 h'.2.1 hnt h'.2.2.1 h'.2.2.2.1 h'.2.2.2.2 h
@[elab_as_elim] theorem sp {α:Type} {a:α} {P:α→Prop} {o:α} (h:some a=some o) (p:P a):P o:=so h▸p
theorem rA {α:Type} {t:Bool} {A B:Option α} {r:α} {G:Prop} (h:cond t A B=some r) (p:t=true→A=some r→G) (q:t=false→B=some r→G):G:=by
 rcases cb h with ⟨e,h⟩|⟨e,h⟩
 ·exact p e h
 ·exact q e h
theorem dR {P:Program} {nt:Nat} {Q:Exit→AState→Prop} {s:AState} {c:Operand} {x y:Code} {α:Type} {t:Bool} {A B:Option α} {r:α} (hc:s.ev c=some (.sc (.bool t))) (h:cond t A B=some r) (p:t=true→A=some r→AC P nt x s Q) (q:t=false→B=some r→AC P nt y s Q):AC P nt (.cond c x y) s Q:=rA h (λe h=>fG hc e (p e h)) λe h=>jS hc e (q e h)
theorem rC {p q:Prop} (a:p) (b:q):p∧q:=⟨a,b⟩
def oMt (v:Mt) (a:Nat):List AV:=[.int v.rows,.int v.cols,.own a 0 v.cells.length]
def oQv (v:Qv) (a b:Nat):List AV:=[.int v.n,.own a 0 v.src.length,.own b 0 v.tgt.length]
def oRp (v:Rp) (a b c d:Nat):List AV:=[.int v.p,.int v.q.n,.own a 0 v.q.src.length,.own b 0 v.q.tgt.length,.own c 0 v.dims.length,.own d 0 v.maps.length]
def iL:List AV:=[.int 0,.int 0,.nil 1]
def iS:List AV:=[.int 0,.int 0,.nil 1,.nil 1,.nil 1,.nil 3]
end
noncomputable section
set_option maxRecDepth 10000
set_option maxHeartbeats 4000000
def pI (a0:Int) (a1:Int) (a2:Int):Option Bool:=
 bif decide (a1≤a0) then
 (some (decide (a0≤a2)))
 else
 (some (false))
theorem vP (a0:Int) (a1:Int) (a2:Int) (r:Bool) (h:pI a0 a1 a2=some r):HasC Tryz.prog 81 [.int a0,.int a1,.int a2] (.bl r):=by
 exact hM [.tmp 6] Tryz.func81 Tryz.ntmps81 k<|sR<|aT k2<|sR<|am k k<|am k k<|cm k4<|am k k<|rA h (λq1 h=>aQ 10 k q1<|am k k<|am k k<|cm k4<|pk k3<|aT k2<|aJ<|kK h k2) λq1 h=>aQ 10 k q1<|aK k4<|ak k k<|pk k3<|aT k2<|aJ<|kK h k2
def kQ (a0:Int) (a1:Int) (a2:Int):Option Bool:=
 bif decide (a1≤a0) then
 (some (decide (a0≤a2)))
 else
 (some (false))
theorem oK (a0:Int) (a1:Int) (a2:Int) (r:Bool) (h:kQ a0 a1 a2=some r):HasC Tryz.prog 34 [.int a0,.int a1,.int a2] (.bl r):=by
 exact hM [.tmp 6] Tryz.func34 Tryz.ntmps34 k<|sR<|aT k2<|sR<|am k k<|am k k<|cm k4<|am k k<|rA h (λq1 h=>aQ 10 k q1<|am k k<|am k k<|cm k4<|pk k3<|aT k2<|aJ<|kK h k2) λq1 h=>aQ 10 k q1<|aK k4<|ak k k<|pk k3<|aT k2<|aJ<|kK h k2
def wD (a0:(List Int)) (x1:(Int×Int)):Option ((Int×Int) ⊕ Int):=
 bif decide (x1.2<(a0.length:Int)) then
 ((cO a0 x1.2).bind λv2=>
 some (.inl (wr (x1.1+v2),wr (x1.2+1))))
 else
 (some (.inr x1.1))
def rK (a0:(List Int)):Option Int:=
 (Lp (wD a0) (0,0)).bind λy3=>
 some (y3)
theorem aAe (a0:(List Int)) (r:Int) (h:rK a0=some r):HasC Tryz.prog 117 [.list 1 (a0.map eI)] (.int r):=by
 refine hM [.tmp 2] Tryz.func117 Tryz.ntmps117 k<|sR<|aT k2<|sR<|aT k2<|sQ<|sR<|am k k<|ln k4<|am k k<|an<|tn<|aE<|oB h λy3 hy3 h=>cC (body:=(wD a0)) hy3 (λ(x1:(Int×Int))=>mN [(3,.int x1.1),(6,.list 1 (a0.map eI)),(7,.int (a0.length:Int)),(8,.int x1.2)] [] 0) (λr e t=>e= .exit 0∧Ent t (mN [(3,.int r)] [] 0)) (bS (bK k2) aR k4) ?_ ?_
 ·intro x1 o h;exact sR<|cm k4<|an<|tn<|sQ<|dR k h (λ_ h=>aG<|tn<|sQ<|aE<|sR<|oB h λv2 hv2 h=>ae (xl hv2 k) k<|lr k7<|aT k2<|rg<|am k k<|am k k<|ae (bF k k) k<|aa k k<|an<|aV<|tn<|rg<|ae (bF k k) k<|am k k<|an<|tn<|sp h ⟨_,k,(bS (bK k2) aR k4)⟩) λ_ h=>aU<|aB<|aB<|sp h ⟨_,k,k,(bS (bK k2) aR k4)⟩
 ·rintro e t ⟨rfl,hent⟩;exact aL<|tn<|aP hent<|sR<|am k k<|aT k2<|aJ<|rtI h k2
def zE (a0:(List Int)) (a1:(List Int)) (x1:Int):Option (Int ⊕ (Unit ⊕ Bool)):=
 bif decide (x1<(a0.length:Int)) then
 ((cO a0 x1).bind λv3=>
 (cO a1 x1).bind λv4=>
 bif !decide (v3=v4) then
 (some (.inr (.inr (false))))
 else
 (some (.inl (wr (x1+1)))))
 else
 (some (.inr (.inl ())))
def vQ (a0:(List Int)) (a1:(List Int)):Option Bool:=
 bif !decide ((a0.length:Int)=(a1.length:Int)) then
 (some (false))
 else
 ((Lp (zE a0 a1) 0).bind λy6=>
 Sum.elim (λy7=>
 some (true)
 )
 (λy8=>
 some y8
 )
 y6)
theorem aBo (a0:(List Int)) (a1:(List Int)) (r:Bool) (h:vQ a0 a1=some r):HasC Tryz.prog 141 [.list 1 (a0.map eI),.list 1 (a1.map eI)] (.bl r):=by
 refine hM [.tmp 4] Tryz.func141 Tryz.ntmps141 k<|sR<|aT k2<|sQ<|sR<|am k k<|ln k4<|am k k<|ln k4<|cm k4<|an<|tn<|dR k h (λ_ h=>sR<|aT k2<|aJ<|aI<|kK h k2) λ_ h=>?_;refine aG<|tn<|sQ<|sR<|aT k2<|aE<|oB h λy6 hy6 h=>cC (body:=(zE a0 a1)) hy6 (λ(x1:Int)=>mN [(0,.list 1 (a0.map eI)),(1,.list 1 (a1.map eI)),(5,.int x1)] [] 0) (λr e t=>Sum.elim (λa=>(λr e t=>e= .exit 0∧Ent t (mN [] [] 0)) a e t) (λb=>(λr e t=>e= .ret∧tW TT [.tmp 4] (.bl r) .ret t) b e t) r) (bS (bK k2) aR k4) ?_ ?_
 ·intro x1 o h;exact sQ<|sR<|am k k<|am k k<|ln k4<|cm k4<|an<|tn<|dR k h (λ_ h=>aG<|tn<|sQ<|aE<|sQ<|aN gD<|am k k<|am k k<|oB h λv3 hv3 h=>ae (xl hv3 k) k<|lr k7<|am k k<|am k k<|oB h λv4 hv4 h=>ae (xl hv4 k) k<|lr k7<|cm k4<|an<|rC (by kernel_rfl)<|tn<|dR k h (λ_ h=>sR<|aT k2<|aJ<|bH<|aI<|aI<|sp h ⟨_,k,k,bT k k k (xT k)⟩) λ_ h=>aG<|aV<|tn<|rg<|am k k<|ae (bF k k) k<|aT k2<|sp h ⟨_,k,(bS (bK k2) aR k4)⟩) λ_ h=>aU<|aB<|aB<|sp h ⟨_,k,k,(bS aR aR k4)⟩
 ·intro e t hX;rcases y6 with y7|y8
  ·obtain ⟨rfl,hent⟩:=hX;exact aL<|tn<|aP hent<|sR<|aT k2<|aJ<|kK h k2
  ·obtain ⟨rfl,hent⟩:=hX;exact bH<|aI<|sp h hent
def wF (a0:(List Int)) (a1:Int) (x1:Int):Option (Int ⊕ (Unit ⊕ Bool)):=
 bif decide (x1<(a0.length:Int)) then
 ((cO a0 x1).bind λv2=>
 bif decide (v2=a1) then
 (some (.inr (.inr (true))))
 else
 (some (.inl (wr (x1+1)))))
 else
 (some (.inr (.inl ())))
def aAf (a0:(List Int)) (a1:Int):Option Bool:=
 (Lp (wF a0 a1) 0).bind λy4=>
 Sum.elim (λy5=>
 some (false)
 )
 (λy6=>
 some y6
 )
 y4
theorem aLx (a0:(List Int)) (a1:Int) (r:Bool) (h:aAf a0 a1=some r):HasC Tryz.prog 206 [.list 1 (a0.map eI),.int a1] (.bl r):=by
 refine hM [.tmp 4] Tryz.func206 Tryz.ntmps206 k<|sR<|aT k2<|sQ<|sR<|aT k2<|aE<|oB h λy4 hy4 h=>cC (body:=(wF a0 a1)) hy4 (λ(x1:Int)=>mN [(0,.list 1 (a0.map eI)),(1,.int a1),(5,.int x1)] [] 0) (λr e t=>Sum.elim (λa=>(λr e t=>e= .exit 0∧Ent t (mN [] [] 0)) a e t) (λb=>(λr e t=>e= .ret∧tW TT [.tmp 4] (.bl r) .ret t) b e t) r) (bS (bK k2) aR k4) ?_ ?_
 ·intro x1 o h;exact sQ<|sR<|am k k<|am k k<|ln k4<|cm k4<|an<|tn<|dR k h (λ_ h=>aG<|tn<|sQ<|aE<|sR<|am k k<|am k k<|oB h λv2 hv2 h=>ae (xl hv2 k) k<|lr k7<|am k k<|cm k4<|an<|tn<|dR k h (λ_ h=>sR<|aT k2<|aJ<|bH<|aI<|aI<|sp h ⟨_,k,k,bT k k k (xT k)⟩) λ_ h=>aG<|aV<|tn<|rg<|am k k<|ae (bF k k) k<|aT k2<|sp h ⟨_,k,(bS (bK k2) aR k4)⟩) λ_ h=>aU<|aB<|aB<|sp h ⟨_,k,k,(bS aR aR k4)⟩
 ·intro e t hX;rcases y4 with y5|y6
  ·obtain ⟨rfl,hent⟩:=hX;exact aL<|tn<|aP hent<|sR<|aT k2<|aJ<|kK h k2
  ·obtain ⟨rfl,hent⟩:=hX;exact bH<|aI<|sp h hent
def nA (a0:(List Int)) (a1:(List Int)) (x1:Int):Option (Int ⊕ (Unit ⊕ Bool)):=
 bif decide (x1<(a0.length:Int)) then
 ((cO a0 x1).bind λv3=>
 (cO a1 x1).bind λv4=>
 bif !decide (v3=v4) then
 (some (.inr (.inr (false))))
 else
 (some (.inl (wr (x1+1)))))
 else
 (some (.inr (.inl ())))
def qM (a0:(List Int)) (a1:(List Int)):Option Bool:=
 bif !decide ((a0.length:Int)=(a1.length:Int)) then
 (some (false))
 else
 ((Lp (nA a0 a1) 0).bind λy6=>
 Sum.elim (λy7=>
 some (true)
 )
 (λy8=>
 some y8
 )
 y6)
theorem aCO (a0:(List Int)) (a1:(List Int)) (r:Bool) (h:qM a0 a1=some r):HasC Tryz.prog 55 [.list 1 (a0.map eI),.list 1 (a1.map eI)] (.bl r):=by
 refine hM [.tmp 4] Tryz.func55 Tryz.ntmps55 k<|sR<|aT k2<|sQ<|sR<|am k k<|ln k4<|am k k<|ln k4<|cm k4<|an<|tn<|dR k h (λ_ h=>sR<|aT k2<|aJ<|aI<|kK h k2) λ_ h=>?_;refine aG<|tn<|sQ<|sR<|am k k<|ln k4<|am k k<|an<|tn<|aE<|oB h λy6 hy6 h=>cC (body:=(nA a0 a1)) hy6 (λ(x1:Int)=>mN [(0,.list 1 (a0.map eI)),(1,.list 1 (a1.map eI)),(12,.int (a0.length:Int)),(13,.int x1)] [] 0) (λr e t=>Sum.elim (λa=>(λr e t=>e= .exit 0∧Ent t (mN [] [] 0)) a e t) (λb=>(λr e t=>e= .ret∧tW TT [.tmp 4] (.bl r) .ret t) b e t) r) (bS (bK k2) aR k4) ?_ ?_
 ·intro x1 o h;exact sR<|cm k4<|an<|tn<|sQ<|dR k h (λ_ h=>aG<|tn<|sQ<|aE<|sR<|am k k<|aT k2<|sQ<|aN gD<|am k k<|am k k<|oB h λv3 hv3 h=>ae (xl hv3 k) k<|lr k7<|am k k<|am k k<|oB h λv4 hv4 h=>ae (xl hv4 k) k<|lr k7<|cm k4<|an<|rC (by kernel_rfl)<|tn<|dR k h (λ_ h=>sR<|aT k2<|aJ<|bH<|aI<|aI<|sp h ⟨_,k,k,bT k k k (xT k)⟩) λ_ h=>aG<|aV<|tn<|rg<|ae (bF k k) k<|am k k<|an<|tn<|sp h ⟨_,k,(bS (bK k2) aR k4)⟩) λ_ h=>aU<|aB<|aB<|sp h ⟨_,k,k,(bS aR aR k4)⟩
 ·intro e t hX;rcases y6 with y7|y8
  ·obtain ⟨rfl,hent⟩:=hX;exact aL<|tn<|aP hent<|sR<|aT k2<|aJ<|kK h k2
  ·obtain ⟨rfl,hent⟩:=hX;exact bH<|aI<|sp h hent
def kR (a0:Int):Option Bool:=
 bif decide (a0=2) then
 (some (true))
 else
 (bif decide (a0=3) then
 (some (true))
 else
 (some (decide (a0=5))))
theorem qN (a0:Int) (r:Bool) (h:kR a0=some r):HasC Tryz.prog 57 [.int a0] (.bl r):=by
 exact hM [.tmp 2] Tryz.func57 Tryz.ntmps57 k<|sR<|aT k2<|sR<|am k k<|cm k4<|am k k<|rA h (λq1 h=>aQ 5 k q1<|aK k4<|pk k3<|am k k<|aK k4<|pk k3<|aT k2<|aJ<|kK h k2) λq1 h=>aQ 5 k q1<|am k k<|cm k4<|pk k3<|am k k<|rA h (λq2 h=>aQ 9 k q2<|aK k4<|pk k3<|aT k2<|aJ<|kK h k2) λq2 h=>aQ 9 k q2<|am k k<|cm k4<|pk k3<|aT k2<|aJ<|kK h k2
def kS (a0:Int):Option Bool:=
 bif decide (a0=2) then
 (some (true))
 else
 (bif decide (a0=3) then
 (some (true))
 else
 (some (decide (a0=5))))
theorem qO (a0:Int) (r:Bool) (h:kS a0=some r):HasC Tryz.prog 100 [.int a0] (.bl r):=by
 exact hM [.tmp 2] Tryz.func100 Tryz.ntmps100 k<|sR<|aT k2<|sR<|am k k<|cm k4<|am k k<|rA h (λq1 h=>aQ 5 k q1<|aK k4<|pk k3<|am k k<|aK k4<|pk k3<|aT k2<|aJ<|kK h k2) λq1 h=>aQ 5 k q1<|am k k<|cm k4<|pk k3<|am k k<|rA h (λq2 h=>aQ 9 k q2<|aK k4<|pk k3<|aT k2<|aJ<|kK h k2) λq2 h=>aQ 9 k q2<|am k k<|cm k4<|pk k3<|aT k2<|aJ<|kK h k2
def rL (a0:Qv) (x1:Int):Option (Int ⊕ (Unit ⊕ Bool)):=
 bif decide (x1<(a0.src.length:Int)) then
 (bif decide (x1<(a0.tgt.length:Int)) then
 ((cO a0.src x1).bind λv3=>
 (kQ v3 0 (wr (a0.n - 1))).bind λv4=>
 bif !v4 then
 (some (.inr (.inr (false))))
 else
 ((cO a0.tgt x1).bind λv6=>
 (kQ v6 0 (wr (a0.n - 1))).bind λv7=>
 bif !v7 then
 (some (.inr (.inr (false))))
 else
 (some (.inl (wr (x1+1))))))
 else
 (some (.inr (.inl ()))))
 else
 (some (.inr (.inl ())))
def jK (a0:Qv):Option Bool:=
 (Lp (rL a0) 0).bind λy9=>
 Sum.elim (λy10=>
 (kQ a0.n 1 5).bind λv11=>
 bif v11 then
 (bif decide ((a0.src.length:Int)≤6) then
 (some (decide ((a0.tgt.length:Int)=(a0.src.length:Int))))
 else
 (some (false)))
 else
 (some (false))
 )
 (λy14=>
 some y14
 )
 y9
theorem wG (a0:Qv) (r:Bool) (h:jK a0=some r):HasC Tryz.prog 137 [.agg (eQ a0)] (.bl r):=by
 refine hM [.tmp 2] Tryz.func137 Tryz.ntmps137 k<|sR<|ae (wb k) k<|aT k2<|sQ<|sR<|aT k2<|aE<|oB h λy9 hy9 h=>cC (body:=(rL a0)) hy9 (λ(x1:Int)=>mN [(1,.ptr 0 0 0),(3,.int x1)] [(0,⟨3,[eQ a0]⟩)] 1) (λr e t=>Sum.elim (λa=>(λr e t=>e= .exit 0∧Ent t (mN [(1,.ptr 0 0 0)] [(0,⟨3,[eQ a0]⟩)] 1)) a e t) (λb=>(λr e t=>e= .ret∧tW TT [.tmp 2] (.bl r) .ret t) b e t) r) (bS (bK k2) (bN k<|aR) k4) ?_ ?_
 ·intro x1 o h;refine sQ<|sR<|am k k<|fp k8<|lp k8<|ln k4<|cm k4<|am k k<|rA h (λq1 h=>?_) λq1 h=>aQ 9 k q1<|aK k4<|aK k4<|ak k k<|pk k3<|an<|tn<|jS k k<|aU<|aB<|aB<|sp h ⟨_,k,k,(bS (bK k2) (bN k<|aR) k4)⟩;exact aQ 9 k q1<|am k k<|fp k8<|lp k8<|ln k4<|cm k4<|pk k3<|an<|tn<|dR k h (λ_ h=>aG<|tn<|sQ<|aE<|sQ<|aN gD<|fp k8<|lp k8<|am k k<|oB h λv3 hv3 h=>ae (xl hv3 k) k<|lr k7<|fp k8<|lp k8<|ae (iV k k) k<|oB h λv4 hv4 h=>ae (bC (oK v3 0 (wr (a0.n - 1)) v4 hv4) k (dW k (dW k (dW k aS)))) k<|ae (dL k) k<|am k k<|rA h (λq5 h=>aQ 28 k q5<|aK k4<|aK k4<|aK k4<|aK k4<|aK k4<|pk k3<|an<|rC (by kernel_rfl)<|tn<|aP (t:=mN [(1,.ptr 0 0 0),(3,.int x1),(39,.bl true)] [(0,⟨3,[eQ a0]⟩)] 1) (bS (bK k2) (bN k<|aR) k4)<|fG k k<|sR<|aT k2<|aJ<|bH<|aI<|aI<|sp h ⟨_,k,k,bT k k k (xT k)⟩) λq5 h=>aQ 28 k q5<|fp k8<|lp k8<|am k k<|oB h λv6 hv6 h=>ae (xl hv6 k) k<|lr k7<|fp k8<|lp k8<|ae (iV k k) k<|oB h λv7 hv7 h=>ae (bC (oK v6 0 (wr (a0.n - 1)) v7 hv7) k (dW k (dW k (dW k aS)))) k<|ae (dL k) k<|pk k3<|an<|rC (by kernel_rfl)<|tn<|aP (t:=mN [(1,.ptr 0 0 0),(3,.int x1),(39,.bl (!v7))] [(0,⟨3,[eQ a0]⟩)] 1) (bS (bK k2) (bN k<|aR) k4)<|dR k h (λ_ h=>sR<|aT k2<|aJ<|bH<|aI<|aI<|sp h ⟨_,k,k,bT k k k (xT k)⟩) λ_ h=>aG<|aV<|tn<|rg<|am k k<|ae (bF k k) k<|aT k2<|sp h ⟨_,k,(bS (bK k2) (bN k<|aR) k4)⟩) λ_ h=>aU<|aB<|aB<|sp h ⟨_,k,k,(bS (bK k2) (bN k<|aR) k4)⟩
 ·intro e t hX;rcases y9 with y10|y14
  ·obtain ⟨rfl,hent⟩:=hX;exact aL<|tn<|aP hent<|sR<|fp k8<|lp k8<|oB h λv11 hv11 h=>ae (bC (oK a0.n 1 5 v11 hv11) k (dW k (dW k (dW k aS)))) k<|am k k<|rA h (λq12 h=>aQ 43 k q12<|fp k8<|lp k8<|ln k4<|cm k4<|pk k3<|am k k<|rA h (λq13 h=>aQ 49 k q13<|fp k8<|lp k8<|ln k4<|fp k8<|lp k8<|ln k4<|cm k4<|pk k3<|aT k2<|aJ<|kK h k2) λq13 h=>aQ 49 k q13<|aK k4<|aK k4<|aK k4<|ak k k<|pk k3<|aT k2<|aJ<|kK h k2) λq12 h=>aQ 43 k q12<|aK k4<|aK k4<|pk k3<|am k k<|aK k4<|aK k4<|aK k4<|ak k k<|pk k3<|aT k2<|aJ<|kK h k2
  ·obtain ⟨rfl,hent⟩:=hX;exact bH<|aI<|sp h hent
def mT (a0:Int) (a1:Int):Option Mt:=
 bif (decide (0≤wr (a0*a1))&&decide (wr (a0*a1)≤1048576)) then
 (some ((⟨a0,a1,(List.replicate ((wr (a0*a1)).toNat) (0:Int))⟩:Mt)))
 else none
theorem uB (a0:Int) (a1:Int) (r:Mt) (h:mT a0 a1=some r):HasC Tryz.prog 119 [.int a0,.int a1] (.agg (eM r)):=by
 exact hM [.cell 4 91] Tryz.func119 Tryz.ntmps119 k<|sR<|ae (bX aD k k) k<|an<|tn<|sR<|am k k<|am k k<|am k k<|am k k<|ae (fZ k k) k<|cG h λq1 h=>ae (rJ aD q1 k k k k k k k k) k<|ae (dE aD k k k k k k) k<|ae (ws k) k<|an<|tn<|aP (t:=mN [(4,.ptr 0 0 0)] [(0,⟨3,[[.int a0,.int a1,.own 1 0 ((List.replicate ((wr (a0*a1)).toNat) (0:Int)).length)]]⟩),(1,⟨1,List.map (ow eI) (List.replicate ((wr (a0*a1)).toNat) (0:Int))⟩)] 2) (bS (bK k2) (hX ⟨_,k,k,.inr ⟨_,_,k,⟨_,_,k,k,⟨_,_,k,k,⟨_,_,k,⟨k,k,(by simp only [aO,lA,lT,lR,lC,lN]),k⟩,k⟩⟩⟩,k⟩⟩ k<|hX ⟨_,k,k,.inl ⟨xH (e:=eI) (z:=0) _,cP.plainO _⟩⟩ k<|aR) k4)<|aJ<|sp h (bT k k k (pH (aH (k) (aH (k) (aH (eX cP k k) eH)))))
def vR (a0:Int) (a1:Int):Option Mt:=
 bif (decide (0≤wr (a0*a1))&&decide (wr (a0*a1)≤1048576)) then
 (some ((⟨a0,a1,(List.replicate ((wr (a0*a1)).toNat) (0:Int))⟩:Mt)))
 else none
theorem aEX (a0:Int) (a1:Int) (r:Mt) (h:vR a0 a1=some r):HasC Tryz.prog 75 [.int a0,.int a1] (.agg (eM r)):=by
 exact hM [.cell 4 91] Tryz.func75 Tryz.ntmps75 k<|sR<|ae (bX aD k k) k<|an<|tn<|sR<|am k k<|am k k<|am k k<|am k k<|ae (fZ k k) k<|cG h λq1 h=>ae (rJ aD q1 k k k k k k k k) k<|ae (dE aD k k k k k k) k<|ae (ws k) k<|an<|tn<|aP (t:=mN [(4,.ptr 0 0 0)] [(0,⟨3,[[.int a0,.int a1,.own 1 0 ((List.replicate ((wr (a0*a1)).toNat) (0:Int)).length)]]⟩),(1,⟨1,List.map (ow eI) (List.replicate ((wr (a0*a1)).toNat) (0:Int))⟩)] 2) (bS (bK k2) (hX ⟨_,k,k,.inr ⟨_,_,k,⟨_,_,k,k,⟨_,_,k,k,⟨_,_,k,⟨k,k,(by simp only [aO,lA,lT,lR,lC,lN]),k⟩,k⟩⟩⟩,k⟩⟩ k<|hX ⟨_,k,k,.inl ⟨xH (e:=eI) (z:=0) _,cP.plainO _⟩⟩ k<|aR) k4)<|aJ<|sp h (bT k k k (pH (aH (k) (aH (k) (aH (eX cP k k) eH)))))
def fW (a0:Mt) (a1:Int):Option Unit:=
 bif (decide (0≤wr (a1*a0.cols))&&(decide (wr (a1*a0.cols)≤wr ((wr (a1+1))*a0.cols))&&decide (wr ((wr (a1+1))*a0.cols)≤((a0.cells.length:Nat):Int)))) then
 (some ())
 else none
theorem iW (a0:Mt) (a1:Int) (r:Unit) (h:fW a0 a1=some r):HasE Tryz.prog 225 [.agg [.int a0.rows,.int a0.cols,.own 0 0 a0.cells.length],.int a1] [(0,⟨1,a0.cells.map (ow eI)⟩)] 1 (.own 0 (0+(wr (a1*a0.cols)).toNat) ((wr ((wr (a1+1))*a0.cols)).toNat - (wr (a1*a0.cols)).toNat)) [(0,⟨1,a0.cells.map (ow eI)⟩)]:=by
 exact pP aD (rvs:=[.tmp 4]) (ns:=nmA.drop 1) Tryz.func225 k k Tryz.ntmps225 k k<|sR<|ae (wb k) k<|aT k2<|sR<|fp k8<|lp k8<|am k k<|fp k8<|lp k8<|ae (fZ k k) k<|am k k<|ae (bF k k) k<|fp k8<|lp k8<|ae (fZ k k) k<|cG h λq1 h=>ae (uA aD (l:=wr (a1*a0.cols)) (h:=wr ((wr (a1+1))*a0.cols)) q1 k k k k k k k k) k<|aT k2<|aJ<|sp h ⟨mN [(4,.own 0 (0+(wr (a1*a0.cols)).toNat) ((wr ((wr (a1+1))*a0.cols)).toNat - (wr (a1*a0.cols)).toNat))] [(0,⟨1,a0.cells.map (ow eI)⟩)] 1 1,(bS (bK k2) (bP k<|aR) k4),k,⟨_,k,.inl k⟩,⟨k,aR⟩⟩
def nP (a0:Int) (a2:Int) (a3:(List Int)) (n1:Nat) (s1:Nat) (x1:((List Int)×Int)):Option (((List Int)×Int) ⊕ (List Int)):=
 bif decide (x1.2<(a3.length:Int)) then
 ((cO a3 x1.2).bind λv2=>
 bif (decide (0≤x1.2)&&decide (x1.2<((n1:Nat):Int))) then
 ((x1.1[(s1+x1.2.toNat)]?).bind λv3=>
 bif !decide (a0=0) then
 (bif (decide (0≤x1.2)&&decide (x1.2<((n1:Nat):Int))) then
 ((x1.1[(s1+x1.2.toNat)]?).bind λv5=>
 some (.inl ((x1.1.set (s1+x1.2.toNat) ((wr (v3+(wr (a2*v2)))).tmod a0)),wr (x1.2+1)))
 )
 else none)
 else none
 )
 else none)
 else
 (some (.inr x1.1))
def nB (a0:Int) (c0:(List Int)) (s1:Nat) (n1:Nat) (a2:Int) (a3:(List Int)):Option (List Int):=
 (Lp (nP a0 a2 a3 n1 s1) (c0,0)).bind λy8=>
 some y8
theorem aAx (a0:Int) (c0:(List Int)) (s1:Nat) (n1:Nat) (a2:Int) (a3:(List Int)) (r:(List Int)) (h:nB a0 c0 s1 n1 a2 a3=some r):HasE Tryz.prog 232 [.int a0,.own 0 s1 n1,.int a2,.list 1 (a3.map eI)] [(0,⟨1,c0.map (ow eI)⟩)] 1 (.own 0 s1 n1) [(0,⟨1,r.map (ow eI)⟩)]:=by
 refine pP aD (rvs:=[.tmp 8]) (ns:=nmA.drop 1) Tryz.func232 k k Tryz.ntmps232 k k<|sR<|aT k2<|sQ<|sR<|am k k<|ln k4<|am k k<|an<|tn<|aE<|oB h λy8 hy8 h=>cC (body:=(nP a0 a2 a3 n1 s1)) hy8 (λ(x1:((List Int)×Int))=>mN [(0,.int a0),(1,.own 0 s1 n1),(2,.int a2),(11,.list 1 (a3.map eI)),(12,.int (a3.length:Int)),(13,.int x1.2)] [(0,⟨1,x1.1.map (ow eI)⟩)] 1 1) (λr e t=>e= .exit 0∧Ent t (mN [(1,.own 0 s1 n1)] [(0,⟨1,r.map (ow eI)⟩)] 1 1)) (bS (bK k2) (bP k<|aR) k4) ?_ ?_
 ·intro x1 o h;refine sR<|cm k4<|an<|tn<|sQ<|dR k h (λ_ h=>?_) λ_ h=>aU<|aB<|aB<|sp h ⟨_,k,k,(bS (bK k2) (bP k<|aR) k4)⟩;refine aG<|tn<|sQ<|aE<|sR<|am k k<|oB h λv2 hv2 h=>ae (xl hv2 k) k<|lr k7<|aa k k<|aT k2<|rg<|am k k<|am k k<|am k k<|am k k<|cG h λq4 h=>oB h λv3 hv3 h=>ae (lH aD q4 k k k k k k k) k<|ae (cI aD k k k k (jW (hv3)) k k) k<|am k k<|am k k<|ae (fZ k k) k<|ae (bF k k) k<|am k k<|cG h λq7 h=>ae (aHP k k q7) k<|cG h λq6 h=>oB h λv5 hv5 h=>ae (lH aD q6 k k k k k k k) k<|ae (fA aD jX (u:=(wr (v3+(wr (a2*v2)))).tmod a0) (hv5) k k k k k k) k<|an ?_;exact aV<|tn<|rg<|ae (bF k k) k<|am k k<|an<|tn<|sp h ⟨_,k,(bS (bK k2) (bP k<|aR) k4)⟩
 ·rintro e t ⟨rfl,hent⟩;exact aL<|tn<|aP hent<|sR<|am k k<|aT k2<|aJ<|sp h ⟨mN [(8,.own 0 s1 n1)] [(0,⟨1,y8.map (ow eI)⟩)] 1 1,(bS (bK k2) (bP k<|aR) k4),k,⟨_,k,.inl k⟩,⟨k,aR⟩⟩
def iX (a0:Int) (a2:Int) (n1:Nat) (n3:Nat) (s1:Nat) (s3:Nat) (x1:((List Int)×Int)):Option (((List Int)×Int) ⊕ (List Int)):=
 bif decide (x1.2<((n3:Nat):Int)) then
 (bif (decide (0≤x1.2)&&decide (x1.2<((n3:Nat):Int))) then
 ((x1.1[(s3+x1.2.toNat)]?).bind λv2=>
 bif (decide (0≤x1.2)&&decide (x1.2<((n1:Nat):Int))) then
 ((x1.1[(s1+x1.2.toNat)]?).bind λv4=>
 bif !decide (a0=0) then
 (bif (decide (0≤x1.2)&&decide (x1.2<((n1:Nat):Int))) then
 ((x1.1[(s1+x1.2.toNat)]?).bind λv6=>
 some (.inl ((x1.1.set (s1+x1.2.toNat) ((wr (v4+(wr (a2*v2)))).tmod a0)),wr (x1.2+1)))
 )
 else none)
 else none
 )
 else none
 )
 else none)
 else
 (some (.inr x1.1))
def lI (a0:Int) (c0:(List Int)) (s1:Nat) (n1:Nat) (a2:Int) (s3:Nat) (n3:Nat):Option (List Int):=
 (Lp (iX a0 a2 n1 n3 s1 s3) (c0,0)).bind λy9=>
 some y9
theorem aCP (a0:Int) (c0:(List Int)) (s1:Nat) (n1:Nat) (a2:Int) (s3:Nat) (n3:Nat) (r:(List Int)) (h:lI a0 c0 s1 n1 a2 s3 n3=some r):HasE Tryz.prog 232 [.int a0,.own 0 s1 n1,.int a2,.own 0 s3 n3] [(0,⟨1,c0.map (ow eI)⟩)] 1 (.own 0 s1 n1) [(0,⟨1,r.map (ow eI)⟩)]:=by
 refine pP aD (rvs:=[.tmp 8]) (ns:=nmA.drop 1) Tryz.func232 k k Tryz.ntmps232 k k<|sR<|aT k2<|sQ<|sR<|am k k<|ae (cA aD k k k k) k<|am k k<|an<|tn<|aE<|oB h λy9 hy9 h=>cC (body:=(iX a0 a2 n1 n3 s1 s3)) hy9 (λ(x1:((List Int)×Int))=>mN [(0,.int a0),(1,.own 0 s1 n1),(2,.int a2),(11,.own 0 s3 n3),(12,.int ((n3:Nat):Int)),(13,.int x1.2)] [(0,⟨1,x1.1.map (ow eI)⟩)] 1 1) (λr e t=>e= .exit 0∧Ent t (mN [(1,.own 0 s1 n1)] [(0,⟨1,r.map (ow eI)⟩)] 1 1)) (bS (bK k2) (bP k<|aR) k4) ?_ ?_
 ·intro x1 o h;refine sR<|cm k4<|an<|tn<|sQ<|dR k h (λ_ h=>?_) λ_ h=>aU<|aB<|aB<|sp h ⟨_,k,k,(bS (bK k2) (bP k<|aR) k4)⟩;refine aG<|tn<|sQ<|aE<|sR<|am k k<|cG h λq3 h=>oB h λv2 hv2 h=>ae (lH aD q3 k k k k k k k) k<|ae (cI aD k k k k (jW (hv2)) k k) k<|aa k k<|aT k2<|rg<|am k k<|am k k<|am k k<|am k k<|cG h λq5 h=>oB h λv4 hv4 h=>ae (lH aD q5 k k k k k k k) k<|ae (cI aD k k k k (jW (hv4)) k k) k<|am k k<|am k k<|ae (fZ k k) k<|ae (bF k k) k<|am k k<|cG h λq8 h=>ae (aHP k k q8) k<|cG h λq7 h=>oB h λv6 hv6 h=>ae (lH aD q7 k k k k k k k) k<|ae (fA aD jX (u:=(wr (v4+(wr (a2*v2)))).tmod a0) (hv6) k k k k k k) k<|an ?_;exact aV<|tn<|rg<|ae (bF k k) k<|am k k<|an<|tn<|sp h ⟨_,k,(bS (bK k2) (bP k<|aR) k4)⟩
 ·rintro e t ⟨rfl,hent⟩;exact aL<|tn<|aP hent<|sR<|am k k<|aT k2<|aJ<|sp h ⟨mN [(8,.own 0 s1 n1)] [(0,⟨1,y9.map (ow eI)⟩)] 1 1,(bS (bK k2) (bP k<|aR) k4),k,⟨_,k,.inl k⟩,⟨k,aR⟩⟩
def kF (a0:Int) (a1:Int):Option Int:=
 bif !decide (a0=0) then
 (bif decide (a1.tmod a0<0) then
 (some (wr ((a1.tmod a0)+a0)))
 else
 (some (a1.tmod a0)))
 else none
theorem rM (a0:Int) (a1:Int) (r:Int) (h:kF a0 a1=some r):HasC Tryz.prog 207 [.int a0,.int a1] (.int r):=by
 exact hM [.tmp 4] Tryz.func207 Tryz.ntmps207 k<|sR<|aT k2<|sR<|am k k<|am k k<|cG h λq2 h=>ae (aHP k k q2) k<|aT k2<|sQ<|sR<|am k k<|cm k4<|an<|tn<|dR k h (λ_ h=>rg<|am k k<|am k k<|ae (bF k k) k<|aT k2<|sR<|am k k<|aT k2<|aJ<|rtI h k2) λ_ h=>aG<|tn<|sR<|am k k<|aT k2<|aJ<|rtI h k2
def oM (a0:Int) (a1:Int) (x1:Int):Option (Int ⊕ (Unit ⊕ Int)):=
 bif decide (x1<a0) then
 ((kR a0).bind λv2=>
 bif v2 then
 ((kF a0 a1).bind λv4=>
 (kF a0 (wr (v4*x1))).bind λv5=>
 bif decide (v5=1) then
 (some (.inr (.inr (x1))))
 else
 (some (.inl (wr (x1+1)))))
 else
 (some (.inr (.inl ()))))
 else
 (some (.inr (.inl ())))
def tE (a0:Int) (a1:Int):Option Int:=
 (Lp (oM a0 a1) 1).bind λy7=>
 Sum.elim (λy8=>
 some (0)
 )
 (λy9=>
 some y9
 )
 y7
theorem aFe (a0:Int) (a1:Int) (r:Int) (h:tE a0 a1=some r):HasC Tryz.prog 235 [.int a0,.int a1] (.int r):=by
 refine hM [.tmp 4] Tryz.func235 Tryz.ntmps235 k<|sR<|aT k2<|sQ<|sR<|aT k2<|aE<|oB h λy7 hy7 h=>cC (body:=(oM a0 a1)) hy7 (λ(x1:Int)=>mN [(0,.int a0),(1,.int a1),(5,.int x1)] [] 0) (λr e t=>Sum.elim (λa=>(λr e t=>e= .exit 0∧Ent t (mN [] [] 0)) a e t) (λb=>(λr e t=>e= .ret∧tW TT [.tmp 4] (.int r) .ret t) b e t) r) (bS (bK k2) aR k4) ?_ ?_
 ·intro x1 o h;exact sQ<|sR<|am k k<|am k k<|cm k4<|am k k<|rA h (λq1 h=>aQ 9 k q1<|am k k<|oB h λv2 hv2 h=>ae (bC (qN a0 v2 hv2) k (dW k aS)) k<|pk k3<|an<|tn<|dR k h (λ_ h=>aG<|tn<|sQ<|aE<|sR<|am k k<|am k k<|am k k<|oB h λv4 hv4 h=>ae (bC (rM a0 a1 v4 hv4) k (dW k (dW k aS))) k<|am k k<|ae (fZ k k) k<|oB h λv5 hv5 h=>ae (bC (rM a0 (wr (v4*x1)) v5 hv5) k (dW k (dW k aS))) k<|cm k4<|an<|tn<|dR k h (λ_ h=>sR<|am k k<|aT k2<|aJ<|bH<|aI<|aI<|sp h ⟨_,k,k,bT k k k (aBl k)⟩) λ_ h=>aG<|aV<|tn<|rg<|am k k<|ae (bF k k) k<|aT k2<|sp h ⟨_,k,(bS (bK k2) aR k4)⟩) λ_ h=>aU<|aB<|aB<|sp h ⟨_,k,k,(bS aR aR k4)⟩) λq1 h=>aQ 9 k q1<|aK k4<|pk k3<|an<|tn<|jS k k<|aU<|aB<|aB<|sp h ⟨_,k,k,(bS aR aR k4)⟩
 ·intro e t hX;rcases y7 with y8|y9
  ·obtain ⟨rfl,hent⟩:=hX;exact aL<|tn<|aP hent<|sR<|aT k2<|aJ<|rtI h k2
  ·obtain ⟨rfl,hent⟩:=hX;exact bH<|aI<|sp h hent
def rN (a0:Int) (a1:(List Int)) (x1:Int):Option (Int ⊕ (Unit ⊕ Bool)):=
 bif decide (x1<(a1.length:Int)) then
 ((cO a1 x1).bind λv5=>
 (kQ v5 0 (wr (a0 - 1))).bind λv6=>
 bif !v6 then
 (some (.inr (.inr (false))))
 else
 (some (.inl (wr (x1+1)))))
 else
 (some (.inr (.inl ())))
def wH (a0:Int) (a1:(List Int)):Option Bool:=
 (kR a0).bind λv1=>
 bif !v1 then
 (some (false))
 else
 (bif decide (64<(a1.length:Int)) then
 (some (false))
 else
 ((Lp (rN a0 a1) 0).bind λy8=>
 Sum.elim (λy9=>
 some (true)
 )
 (λy10=>
 some y10
 )
 y8))
theorem aHg (a0:Int) (a1:(List Int)) (r:Bool) (h:wH a0 a1=some r):HasC Tryz.prog 138 [.int a0,.list 1 (a1.map eI)] (.bl r):=by
 refine hM [.tmp 4] Tryz.func138 Tryz.ntmps138 k<|sR<|aT k2<|sQ<|sR<|am k k<|oB h λv1 hv1 h=>ae (bC (qN a0 v1 hv1) k (dW k aS)) k<|ae (dL k) k<|am k k<|rA h (λq2 h=>aQ 9 k q2<|aK k4<|ak k k<|pk k3<|an<|tn<|fG k k<|sR<|aT k2<|aJ<|aI<|kK h k2) λq2 h=>?_;refine aQ 9 k q2<|am k k<|ln k4<|cm k4<|pk k3<|an<|tn<|dR k h (λ_ h=>sR<|aT k2<|aJ<|aI<|kK h k2) λ_ h=>?_;refine aG<|tn<|sQ<|sR<|aT k2<|aE<|oB h λy8 hy8 h=>cC (body:=(rN a0 a1)) hy8 (λ(x1:Int)=>mN [(0,.int a0),(1,.list 1 (a1.map eI)),(5,.int x1)] [] 0) (λr e t=>Sum.elim (λa=>(λr e t=>e= .exit 0∧Ent t (mN [] [] 0)) a e t) (λb=>(λr e t=>e= .ret∧tW TT [.tmp 4] (.bl r) .ret t) b e t) r) (bS (bK k2) aR k4) ?_ ?_
 ·intro x1 o h;exact sQ<|sR<|am k k<|am k k<|ln k4<|cm k4<|an<|tn<|dR k h (λ_ h=>aG<|tn<|sQ<|aE<|sR<|am k k<|am k k<|oB h λv5 hv5 h=>ae (xl hv5 k) k<|lr k7<|am k k<|ae (iV k k) k<|oB h λv6 hv6 h=>ae (bC (oK v5 0 (wr (a0 - 1)) v6 hv6) k (dW k (dW k (dW k aS)))) k<|ae (dL k) k<|an<|tn<|dR k h (λ_ h=>sR<|aT k2<|aJ<|bH<|aI<|aI<|sp h ⟨_,k,k,bT k k k (xT k)⟩) λ_ h=>aG<|aV<|tn<|rg<|am k k<|ae (bF k k) k<|aT k2<|sp h ⟨_,k,(bS (bK k2) aR k4)⟩) λ_ h=>aU<|aB<|aB<|sp h ⟨_,k,k,(bS aR aR k4)⟩
 ·intro e t hX;rcases y8 with y9|y10
  ·obtain ⟨rfl,hent⟩:=hX;exact aL<|tn<|aP hent<|sR<|aT k2<|aJ<|kK h k2
  ·obtain ⟨rfl,hent⟩:=hX;exact bH<|aI<|sp h hent
def wI (a0:Int) (a1:Mt):Option Bool:=
 (kQ a1.rows 0 8).bind λv1=>
 bif v1 then
 ((kQ a1.cols 0 8).bind λv3=>
 bif v3 then
 (bif decide ((a1.cells.length:Int)=wr (a1.rows*a1.cols)) then
 ((wH a0 a1.cells).bind λv6=>
 some (v6))
 else
 (some (false)))
 else
 (some (false)))
 else
 (some (false))
theorem aHh (a0:Int) (a1:Mt) (r:Bool) (h:wI a0 a1=some r):HasC Tryz.prog 88 [.int a0,.agg (eM a1)] (.bl r):=by
 exact hM [.tmp 4] Tryz.func88 Tryz.ntmps88 k<|sR<|ae (wb k) k<|aT k2<|sR<|fp k8<|lp k8<|oB h λv1 hv1 h=>ae (bC (oK a1.rows 0 8 v1 hv1) k (dW k (dW k (dW k aS)))) k<|am k k<|rA h (λq2 h=>aQ 8 k q2<|fp k8<|lp k8<|oB h λv3 hv3 h=>ae (bC (oK a1.cols 0 8 v3 hv3) k (dW k (dW k (dW k aS)))) k<|pk k3<|am k k<|rA h (λq4 h=>aQ 13 k q4<|fp k8<|lp k8<|ln k4<|fp k8<|lp k8<|fp k8<|lp k8<|ae (fZ k k) k<|cm k4<|pk k3<|am k k<|rA h (λq5 h=>aQ 24 k q5<|am k k<|fp k8<|lp k8<|oB h λv6 hv6 h=>ae (bC (aHg a0 a1.cells v6 hv6) k (dW k (dW k aS))) k<|pk k3<|aT k2<|aJ<|kK h k2) λq5 h=>aQ 24 k q5<|aK k4<|aK k4<|pk k3<|aT k2<|aJ<|kK h k2) λq4 h=>aQ 13 k q4<|aK k4<|aK k4<|aK k4<|aK k4<|ak k k<|pk k3<|am k k<|aK k4<|aK k4<|pk k3<|aT k2<|aJ<|kK h k2) λq2 h=>aQ 8 k q2<|aK k4<|ak k k<|pk k3<|am k k<|aK k4<|aK k4<|aK k4<|aK k4<|ak k k<|pk k3<|am k k<|aK k4<|aK k4<|pk k3<|aT k2<|aJ<|kK h k2
def aBp (a0:Mt):Option Mt:=
 bif decide (([]:(List Int)).length +a0.cells.length≤4294967296) then
 (some ((⟨a0.rows,a0.cols,(([]:(List Int))++a0.cells)⟩:Mt)))
 else none
theorem aKE (a0:Mt) (r:Mt) (h:aBp a0=some r):HasC Tryz.prog 116 [.agg (eM a0)] (.agg (eM r)):=by
 exact hM [.cell 2 91] Tryz.func116 Tryz.ntmps116 k<|sR<|ae (wb k) k<|ae (bX aD k k) k<|an<|tn<|sQ<|aN gD<|fp k8<|lp k8<|fp k8<|lp k8<|ae (wl k) k<|fp k8<|lp k8<|cG h λq1 h=>ae (vE aD (l:=([]:(List Int))) (m:=a0.cells) jX q1 k k k k k k k k k k k k) k<|ae (dE aD k k k k k k) k<|ae (ws k) k<|an<|rC (by kernel_rfl)<|tn<|aJ<|sp h (bT k k k (pH (aH (k) (aH (k) (aH (eX cP k k) eH)))))
end
noncomputable section
set_option maxRecDepth 10000
set_option maxHeartbeats 4000000
def nC (v1:Mt) (x1:(Int×(List Int)×(List Int)×Int)) (x2:(Int×Int)):Option ((Int×Int) ⊕ Int):=
 bif decide (x1.2.2.2≤x2.2) then
 ((cO x1.2.1 (wr ((wr (x2.2*v1.cols))+x1.1))).bind λv5=>
 bif !decide (v5=0) then
 (some (.inl (x2.2,wr (x2.2 - 1))))
 else
 (some (.inl (x2.1,wr (x2.2 - 1)))))
 else
 (some (.inr x2.1))
def rO (v1:Mt) (x1:(Int×(List Int)×(List Int)×Int)) (y7:Int) (x3:((List Int)×Int)):Option (((List Int)×Int) ⊕ (List Int)):=
 bif decide (x3.2<v1.cols) then
 ((cO x3.1 (wr ((wr (x1.2.2.2*v1.cols))+x3.2))).bind λv10=>
 (cO x3.1 (wr ((wr (y7*v1.cols))+x3.2))).bind λv11=>
 (cO x3.1 (wr ((wr (x1.2.2.2*v1.cols))+x3.2))).bind λv12=>
 (cO (x3.1.set ((wr ((wr (x1.2.2.2*v1.cols))+x3.2)).toNat) v11) (wr ((wr (y7*v1.cols))+x3.2))).bind λv13=>
 some (.inl (((x3.1.set ((wr ((wr (x1.2.2.2*v1.cols))+x3.2)).toNat) v11).set ((wr ((wr (y7*v1.cols))+x3.2)).toNat) v10),wr (x3.2+1))))
 else
 (some (.inr x3.1))
def rP (a0:Int) (v1:Mt) (v16:Int) (x1:(Int×(List Int)×(List Int)×Int)) (x4:((List Int)×Int)):Option (((List Int)×Int) ⊕ (List Int)):=
 bif decide (x4.2<v1.cols) then
 ((cO x4.1 (wr ((wr (x1.2.2.2*v1.cols))+x4.2))).bind λv18=>
 (kF a0 (wr (v16*v18))).bind λv19=>
 (cO x4.1 (wr ((wr (x1.2.2.2*v1.cols))+x4.2))).bind λv20=>
 some (.inl ((x4.1.set ((wr ((wr (x1.2.2.2*v1.cols))+x4.2)).toNat) v19),wr (x4.2+1))))
 else
 (some (.inr x4.1))
def nD (a0:Int) (v1:Mt) (v23:Int) (x1:(Int×(List Int)×(List Int)×Int)) (x5:((List Int)×Int)) (x6:((List Int)×Int)):Option (((List Int)×Int) ⊕ (List Int)):=
 bif decide (x6.2<v1.cols) then
 (bif !decide (x5.2=x1.2.2.2) then
 ((cO x6.1 (wr ((wr (x5.2*v1.cols))+x6.2))).bind λv26=>
 (cO x6.1 (wr ((wr (x1.2.2.2*v1.cols))+x6.2))).bind λv27=>
 (kF a0 (wr (v26 - (wr (v23*v27))))).bind λv28=>
 (cO x6.1 (wr ((wr (x5.2*v1.cols))+x6.2))).bind λv29=>
 some (.inl ((x6.1.set ((wr ((wr (x5.2*v1.cols))+x6.2)).toNat) v28),wr (x6.2+1))))
 else
 (some (.inr x6.1)))
 else
 (some (.inr x6.1))
def rQ (a0:Int) (v1:Mt) (x1:(Int×(List Int)×(List Int)×Int)) (x5:((List Int)×Int)):Option (((List Int)×Int) ⊕ (List Int)):=
 bif decide (x5.2<v1.rows) then
 ((cO x5.1 (wr ((wr (x5.2*v1.cols))+x1.1))).bind λv23=>
 (Lp (nD a0 v1 v23 x1 x5) (x5.1,0)).bind λy30=>
 some (.inl (y30,wr (x5.2+1))))
 else
 (some (.inr x5.1))
def iH (a0:Int) (v1:Mt) (x1:(Int×(List Int)×(List Int)×Int)):Option ((Int×(List Int)×(List Int)×Int) ⊕ ((List Int)×(List Int))):=
 bif decide (x1.1<v1.cols) then
 (bif decide (x1.2.2.2<v1.rows) then
 ((Lp (nC v1 x1) ((-1),wr (v1.rows - 1))).bind λy7=>
 bif decide (y7<0) then
 (some (.inl (wr (x1.1+1),x1.2.1,x1.2.2.1,x1.2.2.2)))
 else
 ((Lp (rO v1 x1 y7) (x1.2.1,0)).bind λy14=>
 (cO y14 (wr ((wr (x1.2.2.2*v1.cols))+x1.1))).bind λv15=>
 (tE a0 v15).bind λv16=>
 (Lp (rP a0 v1 v16 x1) (y14,0)).bind λy21=>
 (Lp (rQ a0 v1 x1) (y21,0)).bind λy31=>
 bif decide (x1.2.2.1.length+[x1.1].length ≤4294967296) then
 (some (.inl (wr (x1.1+1),y31,(x1.2.2.1++[x1.1]),wr (x1.2.2.2+1))))
 else none))
 else
 (some (.inr (x1.2.1,x1.2.2.1))))
 else
 (some (.inr (x1.2.1,x1.2.2.1)))
def wJ (a0:Int) (a1:Mt):Option (Mt×(List Int)):=
 (aBp a1).bind λv1=>
 (Lp (iH a0 v1) (0,v1.cells,([]:(List Int)),0)).bind λy33=>
 some (((⟨v1.rows,v1.cols,y33.1⟩:Mt),y33.2))
theorem aHi (a0:Int) (a1:Mt) (r:(Mt×(List Int))) (h:wJ a0 a1=some r):HasC Tryz.prog 205 [.int a0,.agg (eM a1)] (.tuple [.agg (eM r.1),.list 1 (r.2.map eI)]):=by
 refine hM [.cell 4 91,.tmp 5] Tryz.func205 Tryz.ntmps205 k<|sR<|ae (wb k) k<|ae (bX aD k k) k<|aT k2<|sR<|lp k8<|oB h λv1 hv1 h=>ae (cM (aKE a1 v1 hv1) k3 (aZ (lQ k) aS)) k<|ae (bX aD k k) k<|ae (ws k) k<|an<|tn<|sR<|ae (wl k) k<|aT k2<|aP (t:=mN [(0,.int a0),(4,.ptr 1 0 0),(6,.ptr 3 0 0),(7,.own 4 0 (([]:(List Int)).length))] [(1,⟨3,[iL]⟩),(2,⟨1,v1.cells.map (ow eI)⟩),(3,⟨3,[oMt v1 2]⟩),(4,⟨1,List.map (ow eI) ([]:(List Int))⟩)] 5) (bS (mG 3 k2 (jJ ⟨_,k,⟨k,k,(by simp only [aO,lA,lT,lR,lC,lN]),k⟩⟩ aR)) (bN k<|bP k<|fF k<|bP k<|aR) k4)<|sR<|aT k2<|sQ<|sQ ?_;refine rg<|aT k2<|aE<|oB h λy33 hy33 h=>cC (body:=(iH a0 v1)) hy33 (λ(x1:(Int×(List Int)×(List Int)×Int))=>mN [(0,.int a0),(4,.ptr 0 0 0),(6,.ptr 1 0 0),(7,.own 3 0 x1.2.2.1.length),(8,.int x1.2.2.2),(9,.int x1.1)] [(0,⟨3,[iL]⟩),(1,⟨3,[[.int v1.rows,.int v1.cols,.own 2 0 x1.2.1.length]]⟩),(2,⟨1,x1.2.1.map (ow eI)⟩),(3,⟨1,x1.2.2.1.map (ow eI)⟩)] 4) (λr e t=>e= .exit 0∧Ent t (mN [(4,.ptr 0 0 0),(6,.ptr 1 0 0),(7,.own 3 0 r.2.length)] [(0,⟨3,[iL]⟩),(1,⟨3,[[.int v1.rows,.int v1.cols,.own 2 0 r.1.length]]⟩),(2,⟨1,r.1.map (ow eI)⟩),(3,⟨1,r.2.map (ow eI)⟩)] 4)) (mX [1,3,2,4] (bK k2) (bN k<|fF k<|bP k<|bP k<|aR) k4) ?_ ?_
 ·intro x1 o h;refine sQ<|sR<|am k k<|fp k8<|lp k8<|cm k4<|am k k<|rA h (λq2 h=>?_) λq2 h=>aQ 26 k q2<|aK k4<|aK k4<|pk k3<|an<|tn<|jS k k<|aU<|aB<|aB<|sp h ⟨_,k,k,(bS (bK k2) (bN k<|fF k<|bP k<|bP k<|aR) k4)⟩;refine aQ 26 k q2<|am k k<|fp k8<|lp k8<|cm k4<|pk k3<|an<|tn<|dR k h (λ_ h=>?_) λ_ h=>aU<|aB<|aB<|sp h ⟨_,k,k,(bS (bK k2) (bN k<|fF k<|bP k<|bP k<|aR) k4)⟩;refine aG<|tn<|sQ<|aE<|sR<|aT k2<|sQ<|sR<|fp k8<|lp k8<|ae (iV k k) k<|aT k2<|aE<|oB h λy7 hy7 h=>cC (body:=(nC v1 x1)) hy7 (λ(x2:(Int×Int))=>mN [(0,.int a0),(4,.ptr 0 0 0),(6,.ptr 1 0 0),(7,.own 3 0 x1.2.2.1.length),(8,.int x1.2.2.2),(9,.int x1.1),(10,.int x2.1),(11,.int x2.2)] [(0,⟨3,[iL]⟩),(1,⟨3,[[.int v1.rows,.int v1.cols,.own 2 0 x1.2.1.length]]⟩),(2,⟨1,x1.2.1.map (ow eI)⟩),(3,⟨1,x1.2.2.1.map (ow eI)⟩)] 4) (λr e t=>e= .exit 2∧Ent t (mN [(0,.int a0),(4,.ptr 0 0 0),(6,.ptr 1 0 0),(7,.own 3 0 x1.2.2.1.length),(8,.int x1.2.2.2),(9,.int x1.1),(10,.int r)] [(0,⟨3,[iL]⟩),(1,⟨3,[[.int v1.rows,.int v1.cols,.own 2 0 x1.2.1.length]]⟩),(2,⟨1,x1.2.1.map (ow eI)⟩),(3,⟨1,x1.2.2.1.map (ow eI)⟩)] 4)) (bS (bK k2) (bN k<|fF k<|bP k<|bP k<|aR) k4) ?_ ?_
  ·intro x2 o h;exact sQ<|sR<|am k k<|am k k<|cm k4<|an<|tn<|dR k h (λ_ h=>aG<|tn<|sQ<|aE<|sR<|fp k8<|lp k8<|am k k<|fp k8<|lp k8<|ae (fZ k k) k<|am k k<|ae (bF k k) k<|oB h λv5 hv5 h=>ae (xo hv5 k) k<|ae (wp hv5 k) k<|cm k4<|an<|tn<|dR k h (λ_ h=>rg<|am k k<|aa k k<|an<|aV<|tn<|rg<|am k k<|ae (iV k k) k<|aT k2<|sp h ⟨_,k,(bS (bK k2) (bN k<|fF k<|bP k<|bP k<|aR) k4)⟩) λ_ h=>aG<|aV<|tn<|rg<|am k k<|ae (iV k k) k<|aT k2<|sp h ⟨_,k,(bS (bK k2) (bN k<|fF k<|bP k<|bP k<|aR) k4)⟩) λ_ h=>aU<|aB<|aB<|sp h ⟨_,k,k,(bS (bK k2) (bN k<|fF k<|bP k<|bP k<|aR) k4)⟩
  ·rintro e t ⟨rfl,hent⟩;refine aL<|tn<|aP hent<|sQ<|sR<|am k k<|cm k4<|an<|tn<|dR k h (λ_ h=>aU<|aB<|aL<|tn<|rg<|am k k<|ae (bF k k) k<|aT k2<|sp h ⟨_,k,(bS (bK k2) (bN k<|fF k<|bP k<|bP k<|aR) k4)⟩) λ_ h=>?_;refine aG<|tn<|sQ<|sR<|aT k2<|aE<|oB h λy14 hy14 h=>cC (body:=(rO v1 x1 y7)) hy14 (λ(x3:((List Int)×Int))=>mN [(0,.int a0),(4,.ptr 0 0 0),(6,.ptr 1 0 0),(7,.own 3 0 x1.2.2.1.length),(8,.int x1.2.2.2),(9,.int x1.1),(10,.int y7),(12,.int x3.2)] [(0,⟨3,[iL]⟩),(1,⟨3,[[.int v1.rows,.int v1.cols,.own 2 0 x3.1.length]]⟩),(2,⟨1,x3.1.map (ow eI)⟩),(3,⟨1,x1.2.2.1.map (ow eI)⟩)] 4) (λr e t=>e= .exit 4∧Ent t (mN [(0,.int a0),(4,.ptr 0 0 0),(6,.ptr 1 0 0),(7,.own 3 0 x1.2.2.1.length),(8,.int x1.2.2.2),(9,.int x1.1)] [(0,⟨3,[iL]⟩),(1,⟨3,[[.int v1.rows,.int v1.cols,.own 2 0 r.length]]⟩),(2,⟨1,r.map (ow eI)⟩),(3,⟨1,x1.2.2.1.map (ow eI)⟩)] 4)) (bS (bK k2) (bN k<|fF k<|bP k<|bP k<|aR) k4) ?_ ?_
   ·intro x3 o h;refine sQ<|sR<|am k k<|fp k8<|lp k8<|cm k4<|an<|tn<|dR k h (λ_ h=>?_) λ_ h=>aU<|aB<|aB<|sp h ⟨_,k,k,(bS (bK k2) (bN k<|fF k<|bP k<|bP k<|aR) k4)⟩;refine aG<|tn<|sQ<|aE<|sR<|fp k8<|lp k8<|am k k<|fp k8<|lp k8<|ae (fZ k k) k<|am k k<|ae (bF k k) k<|oB h λv10 hv10 h=>ae (xo hv10 k) k<|ae (wp hv10 k) k<|aT k2<|sQ<|aN gD<|fp k8<|lp k8<|am k k<|fp k8<|lp k8<|ae (fZ k k) k<|am k k<|ae (bF k k) k ?_;refine fp k8<|lp k8<|am k k<|fp k8<|lp k8<|ae (fZ k k) k<|am k k<|ae (bF k k) k<|oB h λv11 hv11 h=>ae (xo hv11 k) k<|ae (wp hv11 k) k<|oB h λv12 hv12 h=>ae (xo hv12 k) k<|ae (fA aD jX (u:=v11) (dB hv12) k k k k k k) k<|an<|rC (by kernel_rfl)<|tn<|aP (t:=mN [(0,.int a0),(4,.ptr 0 0 0),(6,.ptr 1 0 0),(7,.own 3 0 x1.2.2.1.length),(8,.int x1.2.2.2),(9,.int x1.1),(10,.int y7),(12,.int x3.2),(13,.int v10)] [(0,⟨3,[iL]⟩),(1,⟨3,[[.int v1.rows,.int v1.cols,.own 2 0 ((x3.1.set ((wr ((wr (x1.2.2.2*v1.cols))+x3.2)).toNat) v11).length)]]⟩),(2,⟨1,List.map (ow eI) (x3.1.set ((wr ((wr (x1.2.2.2*v1.cols))+x3.2)).toNat) v11)⟩),(3,⟨1,x1.2.2.1.map (ow eI)⟩)] 4) (bS (bK k2) (bN k<|hX ⟨_,k,k,.inr ⟨_,_,k,⟨_,_,k,k,⟨_,_,k,k,⟨_,_,k,⟨k,k,(by simp only [aO,lA,lT,lR,lC,lN]),k⟩,k⟩⟩⟩,k⟩⟩ k<|bP k<|bP k<|aR) k4)<|rg<|fp k8<|lp k8<|am k k<|fp k8<|lp k8<|ae (fZ k k) k<|am k k<|ae (bF k k) k<|am k k<|oB h λv13 hv13 h=>ae (xo hv13 k) k<|ae (fA aD jX (u:=v10) (dB hv13) k k k k k k) k<|an<|aV ?_;exact tn<|rg<|am k k<|ae (bF k k) k<|aT k2<|sp h ⟨_,k,(bS (bK k2) (bN k<|hX ⟨_,k,k,.inr ⟨_,_,k,⟨_,_,k,k,⟨_,_,k,k,⟨_,_,k,⟨k,k,(by simp only [aO,lA,lT,lR,lC,lN]),k⟩,k⟩⟩⟩,k⟩⟩ k<|bP k<|bP k<|aR) k4)⟩
   ·rintro e t ⟨rfl,hent⟩;refine aL<|tn<|aP hent<|sR<|am k k<|fp k8<|lp k8<|am k k<|fp k8<|lp k8<|ae (fZ k k) k<|am k k<|ae (bF k k) k<|oB h λv15 hv15 h=>ae (xo hv15 k) k<|ae (wp hv15 k) k<|oB h λv16 hv16 h=>ae (bC (aFe a0 v15 v16 hv16) k (dW k (dW k aS))) k<|aT k2<|sQ<|sR<|aT k2<|aE<|oB h λy21 hy21 h=>cC (body:=(rP a0 v1 v16 x1)) hy21 (λ(x4:((List Int)×Int))=>mN [(0,.int a0),(4,.ptr 0 0 0),(6,.ptr 1 0 0),(7,.own 3 0 x1.2.2.1.length),(8,.int x1.2.2.2),(9,.int x1.1),(14,.int v16),(15,.int x4.2)] [(0,⟨3,[iL]⟩),(1,⟨3,[[.int v1.rows,.int v1.cols,.own 2 0 x4.1.length]]⟩),(2,⟨1,x4.1.map (ow eI)⟩),(3,⟨1,x1.2.2.1.map (ow eI)⟩)] 4) (λr e t=>e= .exit 6∧Ent t (mN [(0,.int a0),(4,.ptr 0 0 0),(6,.ptr 1 0 0),(7,.own 3 0 x1.2.2.1.length),(8,.int x1.2.2.2),(9,.int x1.1)] [(0,⟨3,[iL]⟩),(1,⟨3,[[.int v1.rows,.int v1.cols,.own 2 0 r.length]]⟩),(2,⟨1,r.map (ow eI)⟩),(3,⟨1,x1.2.2.1.map (ow eI)⟩)] 4)) (bS (bK k2) (bN k<|fF k<|bP k<|bP k<|aR) k4) ?_ ?_
    ·intro x4 o h;refine sQ<|sR<|am k k<|fp k8<|lp k8<|cm k4<|an<|tn<|dR k h (λ_ h=>?_) λ_ h=>aU<|aB<|aB<|sp h ⟨_,k,k,(bS (bK k2) (bN k<|fF k<|bP k<|bP k<|aR) k4)⟩;refine aG<|tn<|sQ<|aE<|aN gD<|fp k8<|lp k8<|am k k<|fp k8<|lp k8<|ae (fZ k k) k<|am k k<|ae (bF k k) k<|am k k<|am k k<|fp k8<|lp k8<|am k k<|fp k8<|lp k8<|ae (fZ k k) k<|am k k<|ae (bF k k) k<|oB h λv18 hv18 h=>ae (xo hv18 k) k<|ae (wp hv18 k) k<|ae (fZ k k) k<|oB h λv19 hv19 h=>ae (bC (rM a0 (wr (v16*v18)) v19 hv19) k (dW k (dW k aS))) k<|oB h λv20 hv20 h=>ae (xo hv20 k) k<|ae (fA aD jX (u:=v19) (dB hv20) k k k k k k) k ?_;exact an<|rC (by kernel_rfl)<|aV<|tn<|aP (t:=mN [(0,.int a0),(4,.ptr 0 0 0),(6,.ptr 1 0 0),(7,.own 3 0 x1.2.2.1.length),(8,.int x1.2.2.2),(9,.int x1.1),(14,.int v16),(15,.int x4.2)] [(0,⟨3,[iL]⟩),(1,⟨3,[[.int v1.rows,.int v1.cols,.own 2 0 ((x4.1.set ((wr ((wr (x1.2.2.2*v1.cols))+x4.2)).toNat) v19).length)]]⟩),(2,⟨1,List.map (ow eI) (x4.1.set ((wr ((wr (x1.2.2.2*v1.cols))+x4.2)).toNat) v19)⟩),(3,⟨1,x1.2.2.1.map (ow eI)⟩)] 4) (bS (bK k2) (bN k<|hX ⟨_,k,k,.inr ⟨_,_,k,⟨_,_,k,k,⟨_,_,k,k,⟨_,_,k,⟨k,k,(by simp only [aO,lA,lT,lR,lC,lN]),k⟩,k⟩⟩⟩,k⟩⟩ k<|bP k<|bP k<|aR) k4)<|rg<|am k k<|ae (bF k k) k<|aT k2<|sp h ⟨_,k,(bS (bK k2) (bN k<|fF k<|bP k<|bP k<|aR) k4)⟩
    ·rintro e t ⟨rfl,hent⟩;refine aL<|tn<|aP hent<|sQ<|sR<|aT k2<|aE<|oB h λy31 hy31 h=>cC (body:=(rQ a0 v1 x1)) hy31 (λ(x5:((List Int)×Int))=>mN [(0,.int a0),(4,.ptr 0 0 0),(6,.ptr 1 0 0),(7,.own 3 0 x1.2.2.1.length),(8,.int x1.2.2.2),(9,.int x1.1),(16,.int x5.2)] [(0,⟨3,[iL]⟩),(1,⟨3,[[.int v1.rows,.int v1.cols,.own 2 0 x5.1.length]]⟩),(2,⟨1,x5.1.map (ow eI)⟩),(3,⟨1,x1.2.2.1.map (ow eI)⟩)] 4) (λr e t=>e= .exit 8∧Ent t (mN [(0,.int a0),(4,.ptr 0 0 0),(6,.ptr 1 0 0),(7,.own 3 0 x1.2.2.1.length),(8,.int x1.2.2.2),(9,.int x1.1)] [(0,⟨3,[iL]⟩),(1,⟨3,[[.int v1.rows,.int v1.cols,.own 2 0 r.length]]⟩),(2,⟨1,r.map (ow eI)⟩),(3,⟨1,x1.2.2.1.map (ow eI)⟩)] 4)) (bS (bK k2) (bN k<|fF k<|bP k<|bP k<|aR) k4) ?_ ?_
     ·intro x5 o h;refine sQ<|sR<|am k k<|fp k8<|lp k8<|cm k4<|an<|tn<|dR k h (λ_ h=>?_) λ_ h=>aU<|aB<|aB<|sp h ⟨_,k,k,(bS (bK k2) (bN k<|fF k<|bP k<|bP k<|aR) k4)⟩;refine aG<|tn<|sQ<|aE<|sR<|fp k8<|lp k8<|am k k<|fp k8<|lp k8<|ae (fZ k k) k<|am k k<|ae (bF k k) k<|oB h λv23 hv23 h=>ae (xo hv23 k) k<|ae (wp hv23 k) k<|aT k2<|sR<|aT k2<|aE<|oB h λy30 hy30 h=>cC (body:=(nD a0 v1 v23 x1 x5)) hy30 (λ(x6:((List Int)×Int))=>mN [(0,.int a0),(4,.ptr 0 0 0),(6,.ptr 1 0 0),(7,.own 3 0 x1.2.2.1.length),(8,.int x1.2.2.2),(9,.int x1.1),(16,.int x5.2),(17,.int v23),(18,.int x6.2)] [(0,⟨3,[iL]⟩),(1,⟨3,[[.int v1.rows,.int v1.cols,.own 2 0 x6.1.length]]⟩),(2,⟨1,x6.1.map (ow eI)⟩),(3,⟨1,x1.2.2.1.map (ow eI)⟩)] 4) (λr e t=>e= .exit 10∧Ent t (mN [(0,.int a0),(4,.ptr 0 0 0),(6,.ptr 1 0 0),(7,.own 3 0 x1.2.2.1.length),(8,.int x1.2.2.2),(9,.int x1.1),(16,.int x5.2)] [(0,⟨3,[iL]⟩),(1,⟨3,[[.int v1.rows,.int v1.cols,.own 2 0 r.length]]⟩),(2,⟨1,r.map (ow eI)⟩),(3,⟨1,x1.2.2.1.map (ow eI)⟩)] 4)) (bS (bK k2) (bN k<|fF k<|bP k<|bP k<|aR) k4) ?_ ?_
      ·intro x6 o h;refine sQ<|sR<|am k k<|fp k8<|lp k8<|cm k4<|am k k<|rA h (λq24 h=>?_) λq24 h=>aQ 162 k q24<|aK k4<|ak k k<|pk k3<|an<|tn<|jS k k<|aU<|aB<|aB<|sp h ⟨_,k,k,(bS (bK k2) (bN k<|fF k<|bP k<|bP k<|aR) k4)⟩;refine aQ 162 k q24<|am k k<|am k k<|cm k4<|pk k3<|an<|tn<|dR k h (λ_ h=>?_) λ_ h=>aU<|aB<|aB<|sp h ⟨_,k,k,(bS (bK k2) (bN k<|fF k<|bP k<|bP k<|aR) k4)⟩;refine aG<|tn<|sQ<|aE<|aN gD<|fp k8<|lp k8<|am k k<|fp k8<|lp k8<|ae (fZ k k) k<|am k k<|ae (bF k k) k<|am k k<|fp k8<|lp k8<|am k k<|fp k8<|lp k8<|ae (fZ k k) k<|am k k<|ae (bF k k) k<|oB h λv26 hv26 h=>ae (xo hv26 k) k<|ae (wp hv26 k) k<|am k k<|fp k8<|lp k8<|am k k<|fp k8 ?_;exact lp k8<|ae (fZ k k) k<|am k k<|ae (bF k k) k<|oB h λv27 hv27 h=>ae (xo hv27 k) k<|ae (wp hv27 k) k<|ae (fZ k k) k<|ae (iV k k) k<|oB h λv28 hv28 h=>ae (bC (rM a0 (wr (v26 - (wr (v23*v27)))) v28 hv28) k (dW k (dW k aS))) k<|oB h λv29 hv29 h=>ae (xo hv29 k) k<|ae (fA aD jX (u:=v28) (dB hv29) k k k k k k) k<|an<|rC (by kernel_rfl)<|aV<|tn<|aP (t:=mN [(0,.int a0),(4,.ptr 0 0 0),(6,.ptr 1 0 0),(7,.own 3 0 x1.2.2.1.length),(8,.int x1.2.2.2),(9,.int x1.1),(16,.int x5.2),(17,.int v23),(18,.int x6.2)] [(0,⟨3,[iL]⟩),(1,⟨3,[[.int v1.rows,.int v1.cols,.own 2 0 ((x6.1.set ((wr ((wr (x5.2*v1.cols))+x6.2)).toNat) v28).length)]]⟩),(2,⟨1,List.map (ow eI) (x6.1.set ((wr ((wr (x5.2*v1.cols))+x6.2)).toNat) v28)⟩),(3,⟨1,x1.2.2.1.map (ow eI)⟩)] 4) (bS (bK k2) (bN k<|hX ⟨_,k,k,.inr ⟨_,_,k,⟨_,_,k,k,⟨_,_,k,k,⟨_,_,k,⟨k,k,(by simp only [aO,lA,lT,lR,lC,lN]),k⟩,k⟩⟩⟩,k⟩⟩ k<|bP k<|bP k<|aR) k4)<|rg<|am k k<|ae (bF k k) k<|aT k2<|sp h ⟨_,k,(bS (bK k2) (bN k<|fF k<|bP k<|bP k<|aR) k4)⟩
      ·rintro e t ⟨rfl,hent⟩;exact aL<|aV<|tn<|aP hent<|rg<|am k k<|ae (bF k k) k<|aT k2<|sp h ⟨_,k,(bS (bK k2) (bN k<|fF k<|bP k<|bP k<|aR) k4)⟩
     ·rintro e t ⟨rfl,hent⟩;exact aL<|tn<|aP hent<|sR<|am k k<|am k k<|ae (wl k) k<|cG h λq32 h=>ae (vE aD (l:=x1.2.2.1) (m:=[x1.1]) jX q32 k k k k k k k k k k k k) k<|aT k2<|rg<|am k k<|ae (bF k k) k<|aa k k<|an<|aV<|tn<|rg<|am k k<|ae (bF k k) k<|aT k2<|sp h ⟨_,k,(mX [0,1,2,5] (bK k2) (bN k<|fF k<|bP k<|bP k<|aR) k4)⟩
 ·rintro e t ⟨rfl,hent⟩;exact aL<|tn<|aP hent<|sR<|lp k8<|am k k<|ae (ws k) k<|aT k2<|aJ<|sp h (bT k k k (dC k (bW (gX (aH (k) (aH (k) (aH (eX cP k k) eH)))) (bW (yX (eX cP k k)) fH))))
def uL (a0:Int) (a1:Int):Option Int:=
 (kS a0).bind λv1=>
 bif !v1 then
 (some (0))
 else
 (bif !decide (a0=0) then
 (bif !decide (a0=0) then
 (some ((wr ((a1.tmod a0)+a0)).tmod a0))
 else none)
 else none)
theorem aGf (a0:Int) (a1:Int) (r:Int) (h:uL a0 a1=some r):HasC Tryz.prog 252 [.int a0,.int a1] (.int r):=by
 exact hM [.tmp 4] Tryz.func252 Tryz.ntmps252 k<|sR<|aT k2<|sQ<|sR<|am k k<|oB h λv1 hv1 h=>ae (bC (qO a0 v1 hv1) k (dW k aS)) k<|ae (dL k) k<|an<|tn<|dR k h (λ_ h=>sR<|aT k2<|aJ<|aI<|rtI h k2) λ_ h=>aG<|tn<|sR<|am k k<|am k k<|cG h λq4 h=>ae (aHP k k q4) k<|am k k<|ae (bF k k) k<|am k k<|cG h λq3 h=>ae (aHP k k q3) k<|aT k2<|aJ<|rtI h k2
def rR (a0:Int) (a1:Int) (a2:Int) (x1:(Int×Int)):Option ((Int×Int) ⊕ Int):=
 bif decide (x1.2<a2) then
 ((uL a0 a1).bind λv6=>
 bif !decide (a0=0) then
 (some (.inl ((wr (x1.1*v6)).tmod a0,wr (x1.2+1))))
 else none)
 else
 (some (.inr x1.1))
def wK (a0:Int) (a1:Int) (a2:Int):Option Int:=
 (kS a0).bind λv1=>
 bif !v1 then
 (some (0))
 else
 ((pI a2 0 1000).bind λv3=>
 bif !v3 then
 (some (0))
 else
 ((Lp (rR a0 a1 a2) (1,0)).bind λy8=>
 some (y8)))
theorem aHj (a0:Int) (a1:Int) (a2:Int) (r:Int) (h:wK a0 a1 a2=some r):HasC Tryz.prog 249 [.int a0,.int a1,.int a2] (.int r):=by
 refine hM [.tmp 6] Tryz.func249 Tryz.ntmps249 k<|sR<|aT k2<|sQ<|sR<|am k k<|oB h λv1 hv1 h=>ae (bC (qO a0 v1 hv1) k (dW k aS)) k<|ae (dL k) k<|am k k<|rA h (λq2 h=>aQ 11 k q2<|aK k4<|ak k k<|pk k3<|an<|tn<|fG k k<|sR<|aT k2<|aJ<|aI<|rtI h k2) λq2 h=>?_;refine aQ 11 k q2<|am k k<|oB h λv3 hv3 h=>ae (bC (vP a2 0 1000 v3 hv3) k (dW k (dW k (dW k aS)))) k<|ae (dL k) k<|pk k3<|an<|tn<|dR k h (λ_ h=>sR<|aT k2<|aJ<|aI<|rtI h k2) λ_ h=>?_;refine aG<|tn<|sR<|aT k2<|sQ<|sR<|am k k<|am k k<|an<|tn<|aE<|oB h λy8 hy8 h=>cC (body:=(rR a0 a1 a2)) hy8 (λ(x1:(Int×Int))=>mN [(0,.int a0),(1,.int a1),(7,.int x1.1),(16,.int a2),(17,.int x1.2)] [] 0) (λr e t=>e= .exit 0∧Ent t (mN [(7,.int r)] [] 0)) (bS (bK k2) aR k4) ?_ ?_
 ·intro x1 o h;exact sR<|cm k4<|an<|tn<|sQ<|dR k h (λ_ h=>aG<|tn<|sQ<|aE<|rg<|am k k<|am k k<|am k k<|oB h λv6 hv6 h=>ae (bC (aGf a0 a1 v6 hv6) k (dW k (dW k aS))) k<|ae (fZ k k) k<|am k k<|cG h λq7 h=>ae (aHP k k q7) k<|aa k k<|an<|aV<|tn<|rg<|ae (bF k k) k<|am k k<|an<|tn<|sp h ⟨_,k,(bS (bK k2) aR k4)⟩) λ_ h=>aU<|aB<|aB<|sp h ⟨_,k,k,(bS (bK k2) aR k4)⟩
 ·rintro e t ⟨rfl,hent⟩;exact aL<|tn<|aP hent<|sR<|am k k<|aT k2<|aJ<|rtI h k2
def tF (a0:Int) (a1:Int):Option Int:=
 (kS a0).bind λv1=>
 bif !v1 then
 (some (0))
 else
 ((wK a0 a1 (max (wr (a0 - 2)) 1)).bind λv3=>
 some (v3))
theorem aFf (a0:Int) (a1:Int) (r:Int) (h:tF a0 a1=some r):HasC Tryz.prog 234 [.int a0,.int a1] (.int r):=by
 exact hM [.tmp 4] Tryz.func234 Tryz.ntmps234 k<|sR<|aT k2<|sQ<|sR<|am k k<|oB h λv1 hv1 h=>ae (bC (qO a0 v1 hv1) k (dW k aS)) k<|ae (dL k) k<|an<|tn<|dR k h (λ_ h=>sR<|aT k2<|aJ<|aI<|rtI h k2) λ_ h=>aG<|tn<|sR<|am k k<|am k k<|am k k<|ae (iV k k) k<|ae (aVf k k) k<|oB h λv3 hv3 h=>ae (bC (aHj a0 a1 (max (wr (a0 - 2)) 1) v3 hv3) k (dW k (dW k (dW k aS)))) k<|aT k2<|aJ<|rtI h k2
def lJ (a1:(List Int)) (x1:(Int×Int)):Option ((Int×Int) ⊕ (Int ⊕ Bool)):=
 bif decide (x1.2<(a1.length:Int)) then
 ((cO a1 x1.2).bind λv5=>
 (kQ v5 0 4).bind λv6=>
 bif !v6 then
 (some (.inr (.inr (false))))
 else
 ((cO a1 x1.2).bind λv8=>
 some (.inl (wr (x1.1+v8),wr (x1.2+1)))))
 else
 (some (.inr (.inl x1.1)))
def qP (a0:Qv) (a1:(List Int)):Option Bool:=
 (jK a0).bind λv1=>
 bif !v1 then
 (some (false))
 else
 (bif !decide ((a1.length:Int)=a0.n) then
 (some (false))
 else
 ((Lp (lJ a1) (0,0)).bind λy9=>
 Sum.elim (λy10=>
 some (decide (y10≤8))
 )
 (λy11=>
 some y11
 )
 y9))
theorem aAy (a0:Qv) (a1:(List Int)) (r:Bool) (h:qP a0 a1=some r):HasC Tryz.prog 87 [.agg (eQ a0),.list 1 (a1.map eI)] (.bl r):=by
 refine hM [.tmp 4] Tryz.func87 Tryz.ntmps87 k<|sR<|ae (wb k) k<|aT k2<|sQ<|sR<|lp k8<|oB h λv1 hv1 h=>ae (bC (wG a0 v1 hv1) k (aZ (lQ k) aS)) k<|ae (dL k) k<|am k k<|rA h (λq2 h=>aQ 10 k q2<|aK k4<|aK k4<|ak k k<|pk k3<|an<|tn<|fG k k<|sR<|aT k2<|aJ<|aI<|kK h k2) λq2 h=>?_;refine aQ 10 k q2<|am k k<|ln k4<|fp k8<|lp k8<|cm k4<|pk k3<|an<|tn<|dR k h (λ_ h=>sR<|aT k2<|aJ<|aI<|kK h k2) λ_ h=>?_;refine aG<|tn<|sR<|aT k2<|sQ<|sR<|aT k2<|aE<|oB h λy9 hy9 h=>cC (body:=(lJ a1)) hy9 (λ(x1:(Int×Int))=>mN [(1,.list 1 (a1.map eI)),(5,.int x1.1),(6,.int x1.2)] [] 0) (λr e t=>Sum.elim (λa=>(λr e t=>e= .exit 0∧Ent t (mN [(5,.int r)] [] 0)) a e t) (λb=>(λr e t=>e= .ret∧tW TT [.tmp 4] (.bl r) .ret t) b e t) r) (bS (bK k2) aR k4) ?_ ?_
 ·intro x1 o h;exact sQ<|sR<|am k k<|am k k<|ln k4<|cm k4<|an<|tn<|dR k h (λ_ h=>aG<|tn<|sQ<|aE<|sQ<|sR<|am k k<|am k k<|oB h λv5 hv5 h=>ae (xl hv5 k) k<|lr k7<|oB h λv6 hv6 h=>ae (bC (oK v5 0 4 v6 hv6) k (dW k (dW k (dW k aS)))) k<|ae (dL k) k<|an<|tn<|dR k h (λ_ h=>sR<|aT k2<|aJ<|aI<|bH<|aI<|aI<|sp h ⟨_,k,k,bT k k k (xT k)⟩) λ_ h=>aG<|tn<|rg<|am k k<|am k k<|am k k<|oB h λv8 hv8 h=>ae (xl hv8 k) k<|lr k7<|ae (bF k k) k<|aa k k<|an<|aV<|tn<|rg<|am k k<|ae (bF k k) k<|aT k2<|sp h ⟨_,k,(bS (bK k2) aR k4)⟩) λ_ h=>aU<|aB<|aB<|sp h ⟨_,k,k,(bS (bK k2) aR k4)⟩
 ·intro e t hX;rcases y9 with y10|y11
  ·obtain ⟨rfl,hent⟩:=hX;exact aL<|tn<|aP hent<|sR<|am k k<|cm k4<|aT k2<|aJ<|kK h k2
  ·obtain ⟨rfl,hent⟩:=hX;exact bH<|aI<|sp h hent
def wL (a0:Rp) (x1:Int):Option (Int ⊕ (Unit ⊕ Bool)):=
 bif decide (x1<(a0.maps.length:Int)) then
 ((cO a0.maps x1).bind λv7=>
 (wI a0.p v7).bind λv8=>
 bif !v8 then
 (some (.inr (.inr (false))))
 else
 ((cO a0.maps x1).bind λv10=>
 (cO a0.q.src x1).bind λv11=>
 (cO a0.dims v11).bind λv12=>
 bif !decide (v10.cols=v12) then
 (some (.inr (.inr (false))))
 else
 ((cO a0.maps x1).bind λv14=>
 (cO a0.q.tgt x1).bind λv15=>
 (cO a0.dims v15).bind λv16=>
 bif !decide (v14.rows=v16) then
 (some (.inr (.inr (false))))
 else
 (some (.inl (wr (x1+1)))))))
 else
 (some (.inr (.inl ())))
def uM (a0:Rp):Option Bool:=
 (kR a0.p).bind λv1=>
 bif !v1 then
 (some (false))
 else
 ((qP a0.q a0.dims).bind λv3=>
 bif !v3 then
 (some (false))
 else
 (bif !decide ((a0.maps.length:Int)=(a0.q.src.length:Int)) then
 (some (false))
 else
 ((Lp (wL a0) 0).bind λy18=>
 Sum.elim (λy19=>
 some (true)
 )
 (λy20=>
 some y20
 )
 y18)))
theorem aCl (a0:Rp) (r:Bool) (h:uM a0=some r):HasC Tryz.prog 45 [.agg (eR a0)] (.bl r):=by
 refine hM [.tmp 2] Tryz.func45 Tryz.ntmps45 k<|sR<|ae (wb k) k<|aT k2<|sQ<|sR<|fp k8<|lp k8<|oB h λv1 hv1 h=>ae (bC (qN a0.p v1 hv1) k (dW k aS)) k<|ae (dL k) k<|am k k<|rA h (λq2 h=>aQ 8 k q2<|aK k4<|aK k4<|aK k4<|pk k3<|am k k<|aK k4<|aK k4<|aK k4<|aK k4<|pk k3<|an<|tn<|aP (t:=mN [(1,.ptr 0 0 0),(25,.bl true)] [(0,⟨6,[eR a0]⟩)] 1) (bS (bK k2) (bN k<|aR) k4)<|fG k k<|sR<|aT k2<|aJ<|aI<|kK h k2) λq2 h=>?_;refine aQ 8 k q2<|fp k8<|lp k8<|fp k8<|lp k8<|oB h λv3 hv3 h=>ae (bC (aAy a0.q a0.dims v3 hv3) k (aZ (lQ k) (dW k aS))) k<|ae (dL k) k<|pk k3<|am k k<|rA h (λq4 h=>aQ 16 k q4<|aK k4<|aK k4<|aK k4<|aK k4<|pk k3<|an<|tn<|aP (t:=mN [(1,.ptr 0 0 0),(25,.bl true)] [(0,⟨6,[eR a0]⟩)] 1) (bS (bK k2) (bN k<|aR) k4)<|fG k k<|sR<|aT k2<|aJ<|aI<|kK h k2) λq4 h=>?_;refine aQ 16 k q4<|fp k8<|lp k8<|ln k4<|fp k8<|fp k8<|lp k8<|ln k4<|cm k4<|pk k3<|an<|tn<|aP (t:=mN [(1,.ptr 0 0 0),(25,.bl (!decide ((a0.maps.length:Int)=(a0.q.src.length:Int))))] [(0,⟨6,[eR a0]⟩)] 1) (bS (bK k2) (bN k<|aR) k4)<|dR k h (λ_ h=>sR<|aT k2<|aJ<|aI<|kK h k2) λ_ h=>?_;refine aG<|tn<|sQ<|sR<|aT k2<|aE<|oB h λy18 hy18 h=>cC (body:=(wL a0)) hy18 (λ(x1:Int)=>mN [(1,.ptr 0 0 0),(3,.int x1)] [(0,⟨6,[eR a0]⟩)] 1) (λr e t=>Sum.elim (λa=>(λr e t=>e= .exit 0∧Ent t (mN [] [] 0)) a e t) (λb=>(λr e t=>e= .ret∧tW TT [.tmp 2] (.bl r) .ret t) b e t) r) (bS (bK k2) (bN k<|aR) k4) ?_ ?_
 ·intro x1 o h;refine sQ<|sR<|am k k<|fp k8<|lp k8<|ln k4<|cm k4<|an<|tn<|dR k h (λ_ h=>?_) λ_ h=>aU<|aB<|aB<|sp h ⟨_,k,k,(bS aR aR k4)⟩;refine aG<|tn<|sQ<|aE<|sQ<|aN gD<|fp k8<|lp k8<|fp k8<|lp k8<|am k k<|oB h λv7 hv7 h=>ae (xl hv7 k) k<|lr k7<|oB h λv8 hv8 h=>ae (bC (aHh a0.p v7 v8 hv8) k (dW k (aZ (lQ k) aS))) k<|ae (dL k) k<|am k k<|rA h (λq9 h=>?_) λq9 h=>?_
  ·refine aQ 42 k q9<|aK k4<|aK k4<|aK k4<|aK k4<|aK k4<|aK k4<|aK k4<|aK k4<|ak k k<|pk k3<|am k k<|aK k4<|aK k4<|aK k4<|aK k4<|aK k4 ?_;exact aK k4<|aK k4<|aK k4<|ak k k<|pk k3<|an<|rC (by kernel_rfl)<|tn<|aP (t:=mN [(1,.ptr 0 0 0),(3,.int x1),(79,.bl true)] [(0,⟨6,[eR a0]⟩)] 1) (bS (bK k2) (bN k<|aR) k4)<|fG k k<|sR<|aT k2<|aJ<|bH<|aI<|aI<|sp h ⟨_,k,k,bT k k k (xT k)⟩
  ·refine aQ 42 k q9<|fp k8<|lp k8<|am k k<|oB h λv10 hv10 h=>ae (xl hv10 k) k<|ae (eJ aD k k k k k k) k<|lr k7<|fp k8<|lp k8<|fp k8<|fp k8<|lp k8<|am k k<|oB h λv11 hv11 h=>ae (xl hv11 k) k<|lr k7<|oB h λv12 hv12 h=>ae (xl hv12 k) k<|lr k7<|cm k4<|pk k3<|am k k<|rA h (λq13 h=>?_) λq13 h=>aQ 61 k q13<|fp k8<|lp k8<|am k k<|oB h λv14 hv14 h=>ae (xl hv14 k) k<|ae (eJ aD k k k k k k) k<|lr k7<|fp k8<|lp k8<|fp k8<|fp k8<|lp k8<|am k k<|oB h λv15 hv15 h=>ae (xl hv15 k) k<|lr k7<|oB h λv16 hv16 h=>ae (xl hv16 k) k<|lr k7<|cm k4<|pk k3<|an<|rC (by kernel_rfl)<|tn<|aP (t:=mN [(1,.ptr 0 0 0),(3,.int x1),(79,.bl (!decide (v14.rows=v16)))] [(0,⟨6,[eR a0]⟩)] 1) (bS (bK k2) (bN k<|aR) k4)<|dR k h (λ_ h=>sR<|aT k2<|aJ<|bH<|aI<|aI<|sp h ⟨_,k,k,bT k k k (xT k)⟩) λ_ h=>aG<|aV<|tn<|rg<|am k k<|ae (bF k k) k<|aT k2<|sp h ⟨_,k,(bS (bK k2) (bN k<|aR) k4)⟩;refine aQ 61 k q13<|aK k4<|aK k4<|aK k4<|aK k4<|aK k4<|aK k4<|aK k4<|aK k4<|ak k k<|pk k3<|an<|rC (by kernel_rfl)<|tn<|aP (t:=mN [(1,.ptr 0 0 0),(3,.int x1),(79,.bl true)] [(0,⟨6,[eR a0]⟩)] 1) (bS (bK k2) (bN k<|aR) k4)<|fG k k<|sR<|aT k2<|aJ ?_;exact bH<|aI<|aI<|sp h ⟨_,k,k,bT k k k (xT k)⟩
 ·intro e t hX;rcases y18 with y19|y20
  ·obtain ⟨rfl,hent⟩:=hX;exact aL<|tn<|aP hent<|sR<|aT k2<|aJ<|kK h k2
  ·obtain ⟨rfl,hent⟩:=hX;exact bH<|aI<|sp h hent
def pQ (a0:Qv) (a1:Qv):Option Bool:=
 bif decide (a0.n=a1.n) then
 ((vQ a0.src a1.src).bind λv2=>
 bif v2 then
 ((vQ a0.tgt a1.tgt).bind λv4=>
 some (v4))
 else
 (some (false)))
 else
 (some (false))
theorem aEN (a0:Qv) (a1:Qv) (r:Bool) (h:pQ a0 a1=some r):HasC Tryz.prog 127 [.agg (eQ a0),.agg (eQ a1)] (.bl r):=by
 exact hM [.tmp 4] Tryz.func127 Tryz.ntmps127 k<|sR<|ae (wb k) k<|ae (wb k) k<|aT k2<|sR<|fp k8<|lp k8<|fp k8<|lp k8<|cm k4<|am k k<|rA h (λq1 h=>aQ 10 k q1<|fp k8<|lp k8<|fp k8<|lp k8<|oB h λv2 hv2 h=>ae (bC (aBo a0.src a1.src v2 hv2) k (dW k (dW k aS))) k<|pk k3<|am k k<|rA h (λq3 h=>aQ 17 k q3<|fp k8<|lp k8<|fp k8<|lp k8<|oB h λv4 hv4 h=>ae (bC (aBo a0.tgt a1.tgt v4 hv4) k (dW k (dW k aS))) k<|pk k3<|aT k2<|aJ<|kK h k2) λq3 h=>aQ 17 k q3<|aK k4<|aK k4<|ak k k<|pk k3<|aT k2<|aJ<|kK h k2) λq1 h=>aQ 10 k q1<|aK k4<|aK k4<|ak k k<|pk k3<|am k k<|aK k4<|aK k4<|ak k k<|pk k3<|aT k2<|aJ<|kK h k2
def xV (a0:Rp) (a1:Rp):Option Bool:=
 (uM a0).bind λv1=>
 bif v1 then
 ((uM a1).bind λv3=>
 bif v3 then
 (bif decide (a0.p=a1.p) then
 ((pQ a0.q a1.q).bind λv6=>
 some (v6))
 else
 (some (false)))
 else
 (some (false)))
 else
 (some (false))
theorem aFg (a0:Rp) (a1:Rp) (r:Bool) (h:xV a0 a1=some r):HasC Tryz.prog 76 [.agg (eR a0),.agg (eR a1)] (.bl r):=by
 exact hM [.tmp 4] Tryz.func76 Tryz.ntmps76 k<|sR<|ae (wb k) k<|ae (wb k) k<|aT k2<|sR<|lp k8<|oB h λv1 hv1 h=>ae (bC (aCl a0 v1 hv1) k (aZ (lQ k) aS)) k<|am k k<|rA h (λq2 h=>aQ 7 k q2<|lp k8<|oB h λv3 hv3 h=>ae (bC (aCl a1 v3 hv3) k (aZ (lQ k) aS)) k<|pk k3<|am k k<|rA h (λq4 h=>aQ 11 k q4<|fp k8<|lp k8<|fp k8<|lp k8<|cm k4<|pk k3<|am k k<|rA h (λq5 h=>aQ 18 k q5<|fp k8<|lp k8<|fp k8<|lp k8<|oB h λv6 hv6 h=>ae (bC (aEN a0.q a1.q v6 hv6) k (aZ (lQ k) (aZ (lQ k) aS))) k<|pk k3<|aT k2<|aJ<|kK h k2) λq5 h=>aQ 18 k q5<|aK k4<|aK k4<|ak k k<|pk k3<|aT k2<|aJ<|kK h k2) λq4 h=>aQ 11 k q4<|aK k4<|aK k4<|ak k k<|pk k3<|am k k<|aK k4<|aK k4<|ak k k<|pk k3<|aT k2<|aJ<|kK h k2) λq2 h=>aQ 7 k q2<|aK k4<|pk k3<|am k k<|aK k4<|aK k4<|ak k k<|pk k3<|am k k<|aK k4<|aK k4<|ak k k<|pk k3<|aT k2<|aJ<|kK h k2
end
noncomputable section
set_option maxRecDepth 10000
set_option maxHeartbeats 4000000
def eZ (a0:(List Int)) (a1:(Int→Option Bool)) (x1:Int):Option (Int ⊕ (Unit ⊕ Int)):=
 bif decide (x1<(a0.length:Int)) then
 ((cO a0 x1).bind λv2=>
 (a1 v2).bind λv3=>
 bif v3 then
 (some (.inr (.inr (x1))))
 else
 (some (.inl (wr (x1+1)))))
 else
 (some (.inr (.inl ())))
def gE (a0:(List Int)) (a1:(Int→Option Bool)):Option Int:=
 (Lp (eZ a0 a1) 0).bind λy5=>
 Sum.elim (λy6=>
 some ((-1))
 )
 (λy7=>
 some y7
 )
 y5
theorem aAg (a0:(List Int)) (a1:(Int→Option Bool)) {f1:FuncId} {c1:List AV} (hc1:c1.all fE=true) (hf1: ∀ b0 r,a1 b0=some r→HasC Tryz.prog f1 ([.int b0]++c1) (.bl r)) (r:Int) (h:gE a0 a1=some r):HasC Tryz.prog 133 [.list 1 (a0.map eI),.fn f1 c1] (.int r):=by
 refine aCg aD (rvs:=[.tmp 4]) (ns:=nmA) Tryz.func133 k k Tryz.ntmps133 k k (aDz k (aDz hc1 aPN))<|sR<|aT k2<|sQ<|sR<|am k k<|ln k4<|am k k<|an<|tn<|aE<|oB h λy5 hy5 h=>cC (body:=(eZ a0 a1)) hy5 (λ(x1:Int)=>mN [(0,.list 1 (a0.map eI)),(1,.fn f1 c1),(7,.int (a0.length:Int)),(8,.int x1)] [] 0) (λr e t=>Sum.elim (λa=>(λr e t=>e= .exit 0∧Ent t (mN [] [] 0)) a e t) (λb=>(λr e t=>e= .ret∧tW TT [.tmp 4] (.int r) .ret t) b e t) r) (bS (mG 1 k2 (jJ ⟨_,k,⟨k,aDv _ hc1⟩⟩ (bK k2))) aR k4) ?_ ?_
 ·intro x1 o h;exact sR<|cm k4<|an<|tn<|sQ<|dR k h (λ_ h=>aG<|tn<|sQ<|aE<|sR<|am k k<|aT k2<|sR<|am k k<|am k k<|am k k<|oB h λv2 hv2 h=>ae (xl hv2 k) k<|lr k7<|oB h λv3 hv3 h=>ae (aLq hc1 (hf1 v2 v3 hv3) k k (dW k aS)) k<|an<|tn<|dR k h (λ_ h=>sR<|am k k<|aT k2<|aJ<|bH<|aI<|aI<|sp h ⟨_,k,k,bT k k k (aBl k)⟩) λ_ h=>aG<|aV<|tn<|rg<|ae (bF k k) k<|am k k<|an<|tn<|sp h ⟨_,k,(bS (mG 1 k2 (jJ ⟨_,k,⟨k,aDv _ hc1⟩⟩ (bK k2))) aR k4)⟩) λ_ h=>aU<|aB<|aB<|sp h ⟨_,k,k,(bS aR aR k4)⟩
 ·intro e t hX;rcases y5 with y6|y7
  ·obtain ⟨rfl,hent⟩:=hX;exact aL<|tn<|aP hent<|sR<|aT k2<|aJ<|rtI h k2
  ·obtain ⟨rfl,hent⟩:=hX;exact bH<|aI<|sp h hent
def dM (a0:(List Int)) (a1:(Int→Option Bool)):Option Bool:=
 (gE a0 a1).bind λv1=>
 some (decide (0≤v1))
theorem jZ (a0:(List Int)) (a1:(Int→Option Bool)) {f1:FuncId} {c1:List AV} (hc1:c1.all fE=true) (hf1: ∀ b0 r,a1 b0=some r→HasC Tryz.prog f1 ([.int b0]++c1) (.bl r)) (r:Bool) (h:dM a0 a1=some r):HasC Tryz.prog 79 [.list 1 (a0.map eI),.fn f1 c1] (.bl r):=by
 exact aCg aD (rvs:=[.tmp 4]) (ns:=nmA) Tryz.func79 k k Tryz.ntmps79 k k (aDz k (aDz hc1 aPN))<|sR<|aT k2<|sR<|am k k<|am k k<|oB h λv1 hv1 h=>ae (bC (aAg a0 a1 hc1 hf1 v1 hv1) k (dW k (aZ (aWF hc1) aS))) k<|cm k4<|aT k2<|aJ<|kK h k2
def gF (a0:(List (List Int))) (a1:((List Int)→Option Bool)) (x1:Int):Option (Int ⊕ (Unit ⊕ Int)):=
 bif decide (x1<(a0.length:Int)) then
 ((cO a0 x1).bind λv2=>
 (a1 v2).bind λv3=>
 bif v3 then
 (some (.inr (.inr (x1))))
 else
 (some (.inl (wr (x1+1)))))
 else
 (some (.inr (.inl ())))
def iA (a0:(List (List Int))) (a1:((List Int)→Option Bool)):Option Int:=
 (Lp (gF a0 a1) 0).bind λy5=>
 Sum.elim (λy6=>
 some ((-1))
 )
 (λy7=>
 some y7
 )
 y5
theorem aAD (a0:(List (List Int))) (a1:((List Int)→Option Bool)) {f1:FuncId} {c1:List AV} (hc1:c1.all fE=true) (hf1: ∀ b0 r,a1 b0=some r→HasC Tryz.prog f1 ([.list 1 (b0.map eI)]++c1) (.bl r)) (r:Int) (h:iA a0 a1=some r):HasC Tryz.prog 177 [.list 1 (a0.map (cH 1 eI)),.fn f1 c1] (.int r):=by
 refine aCg aD (rvs:=[.tmp 4]) (ns:=nmA) Tryz.func177 k k Tryz.ntmps177 k k (aDz k (aDz hc1 aPN))<|sR<|aT k2<|sQ<|sR<|am k k<|ln k4<|am k k<|an<|tn<|aE<|oB h λy5 hy5 h=>cC (body:=(gF a0 a1)) hy5 (λ(x1:Int)=>mN [(0,.list 1 (a0.map (cH 1 eI))),(1,.fn f1 c1),(7,.int (a0.length:Int)),(8,.int x1)] [] 0) (λr e t=>Sum.elim (λa=>(λr e t=>e= .exit 0∧Ent t (mN [] [] 0)) a e t) (λb=>(λr e t=>e= .ret∧tW TT [.tmp 4] (.int r) .ret t) b e t) r) (bS (mG 1 k2 (jJ ⟨_,k,⟨k,aDv _ hc1⟩⟩ (bK k2))) aR k4) ?_ ?_
 ·intro x1 o h;exact sR<|cm k4<|an<|tn<|sQ<|dR k h (λ_ h=>aG<|tn<|sQ<|aE<|sR<|am k k<|aT k2<|sR<|am k k<|am k k<|am k k<|oB h λv2 hv2 h=>ae (xl hv2 k) k<|lr k7<|oB h λv3 hv3 h=>ae (aLq hc1 (hf1 v2 v3 hv3) k k (dW k aS)) k<|an<|tn<|dR k h (λ_ h=>sR<|am k k<|aT k2<|aJ<|bH<|aI<|aI<|sp h ⟨_,k,k,bT k k k (aBl k)⟩) λ_ h=>aG<|aV<|tn<|rg<|ae (bF k k) k<|am k k<|an<|tn<|sp h ⟨_,k,(bS (mG 1 k2 (jJ ⟨_,k,⟨k,aDv _ hc1⟩⟩ (bK k2))) aR k4)⟩) λ_ h=>aU<|aB<|aB<|sp h ⟨_,k,k,(bS aR aR k4)⟩
 ·intro e t hX;rcases y5 with y6|y7
  ·obtain ⟨rfl,hent⟩:=hX;exact aL<|tn<|aP hent<|sR<|aT k2<|aJ<|rtI h k2
  ·obtain ⟨rfl,hent⟩:=hX;exact bH<|aI<|sp h hent
def nF (a0:Int) (a1:Int) (a2:Int):Option Bool:=
 (pI a0 a1 a2).bind λv1=>
 some (!v1)
theorem aEv (a0:Int) (a1:Int) (a2:Int) (r:Bool) (h:nF a0 a1 a2=some r):HasC Tryz.prog 80 [.int a0,.ref (eI a1),.ref (eI a2)] (.bl r):=by
 exact hM [.tmp 4] Tryz.func80 Tryz.ntmps80 k<|sR<|aT k2<|sR<|am k k<|lr k7<|lr k7<|oB h λv1 hv1 h=>ae (bC (vP a0 a1 a2 v1 hv1) k (dW k (dW k (dW k aS)))) k<|ae (dL k) k<|aT k2<|aJ<|kK h k2
def iM (a0:(List Int)) (a1:Int) (a2:Int):Option Bool:=
 (dM a0 (λb0=>nF b0 a1 a2)).bind λv1=>
 some (!v1)
theorem qQ (a0:(List Int)) (a1:Int) (a2:Int) (r:Bool) (h:iM a0 a1 a2=some r):HasC Tryz.prog 37 [.list 1 (a0.map eI),.int a1,.int a2] (.bl r):=by
 exact hM [.tmp 6] Tryz.func37 Tryz.ntmps37 k<|sR<|ae (wb k) k<|ae (wb k) k<|aT k2<|sR<|am k k<|ae (aAY (vs:=[.ptr 0 0 0,.ptr 1 0 0]) k (by simp)) k<|oB h λv1 hv1 h=>ae (bC (jZ a0 (λb0=>nF b0 a1 a2) k (λb0 r h=>aEv b0 a1 a2 r h) v1 hv1) k (dW k (aZ (aSu (aDw (aLp k k (gN (tC k) aCi)) (aDw (aLp k k (gN (tC k) aCi)) aLo))) aS))) k<|ae (dL k) k<|aT k2<|aJ<|kK h k2
def wM (a0:Int) (a1:(List Int)):Option Bool:=
 (kS a0).bind λv1=>
 bif v1 then
 (bif decide ((a1.length:Int)≤64) then
 ((iM a1 0 (wr (a0 - 1))).bind λv4=>
 some (v4))
 else
 (some (false)))
 else
 (some (false))
theorem aHk (a0:Int) (a1:(List Int)) (r:Bool) (h:wM a0 a1=some r):HasC Tryz.prog 145 [.int a0,.list 1 (a1.map eI)] (.bl r):=by
 exact hM [.tmp 4] Tryz.func145 Tryz.ntmps145 k<|sR<|aT k2<|sR<|am k k<|oB h λv1 hv1 h=>ae (bC (qO a0 v1 hv1) k (dW k aS)) k<|am k k<|rA h (λq2 h=>aQ 7 k q2<|am k k<|ln k4<|cm k4<|pk k3<|am k k<|rA h (λq3 h=>aQ 12 k q3<|am k k<|am k k<|ae (iV k k) k<|oB h λv4 hv4 h=>ae (bC (qQ a1 0 (wr (a0 - 1)) v4 hv4) k (dW k (dW k (dW k aS)))) k<|pk k3<|aT k2<|aJ<|kK h k2) λq3 h=>aQ 12 k q3<|aK k4<|aK k4<|pk k3<|aT k2<|aJ<|kK h k2) λq2 h=>aQ 7 k q2<|aK k4<|ak k k<|pk k3<|am k k<|aK k4<|aK k4<|pk k3<|aT k2<|aJ<|kK h k2
def wN (a0:Int) (a1:Mt):Option Bool:=
 (pI a1.rows 0 8).bind λv1=>
 bif v1 then
 ((pI a1.cols 0 8).bind λv3=>
 bif v3 then
 (bif decide ((a1.cells.length:Int)=wr (a1.rows*a1.cols)) then
 ((wM a0 a1.cells).bind λv6=>
 some (v6))
 else
 (some (false)))
 else
 (some (false)))
 else
 (some (false))
theorem aHl (a0:Int) (a1:Mt) (r:Bool) (h:wN a0 a1=some r):HasC Tryz.prog 102 [.int a0,.agg (eM a1)] (.bl r):=by
 exact hM [.tmp 4] Tryz.func102 Tryz.ntmps102 k<|sR<|ae (wb k) k<|aT k2<|sR<|fp k8<|lp k8<|oB h λv1 hv1 h=>ae (bC (vP a1.rows 0 8 v1 hv1) k (dW k (dW k (dW k aS)))) k<|am k k<|rA h (λq2 h=>aQ 8 k q2<|fp k8<|lp k8<|oB h λv3 hv3 h=>ae (bC (vP a1.cols 0 8 v3 hv3) k (dW k (dW k (dW k aS)))) k<|pk k3<|am k k<|rA h (λq4 h=>aQ 13 k q4<|fp k8<|lp k8<|ln k4<|fp k8<|lp k8<|fp k8<|lp k8<|ae (fZ k k) k<|cm k4<|pk k3<|am k k<|rA h (λq5 h=>aQ 24 k q5<|am k k<|fp k8<|lp k8<|oB h λv6 hv6 h=>ae (bC (aHk a0 a1.cells v6 hv6) k (dW k (dW k aS))) k<|pk k3<|aT k2<|aJ<|kK h k2) λq5 h=>aQ 24 k q5<|aK k4<|aK k4<|pk k3<|aT k2<|aJ<|kK h k2) λq4 h=>aQ 13 k q4<|aK k4<|aK k4<|aK k4<|aK k4<|ak k k<|pk k3<|am k k<|aK k4<|aK k4<|pk k3<|aT k2<|aJ<|kK h k2) λq2 h=>aQ 8 k q2<|aK k4<|ak k k<|pk k3<|am k k<|aK k4<|aK k4<|aK k4<|aK k4<|ak k k<|pk k3<|am k k<|aK k4<|aK k4<|pk k3<|aT k2<|aJ<|kK h k2
def sG (a0:Qv):Option Bool:=
 (pI a0.n 1 5).bind λv1=>
 bif v1 then
 (bif decide ((a0.src.length:Int)=(a0.tgt.length:Int)) then
 (bif decide ((a0.src.length:Int)≤6) then
 ((iM a0.src 0 (wr (a0.n - 1))).bind λv5=>
 bif v5 then
 ((iM a0.tgt 0 (wr (a0.n - 1))).bind λv7=>
 some (v7))
 else
 (some (false)))
 else
 (some (false)))
 else
 (some (false)))
 else
 (some (false))
theorem aDA (a0:Qv) (r:Bool) (h:sG a0=some r):HasC Tryz.prog 144 [.agg (eQ a0)] (.bl r):=by
 refine hM [.tmp 2] Tryz.func144 Tryz.ntmps144 k<|sR<|ae (wb k) k<|aT k2<|sR<|fp k8<|lp k8<|oB h λv1 hv1 h=>ae (bC (vP a0.n 1 5 v1 hv1) k (dW k (dW k (dW k aS)))) k<|am k k<|rA h (λq2 h=>aQ 6 k q2<|fp k8<|lp k8<|ln k4<|fp k8<|lp k8<|ln k4<|cm k4<|pk k3<|am k k<|rA h (λq3 h=>aQ 15 k q3<|fp k8<|lp k8<|ln k4<|cm k4<|pk k3<|am k k<|rA h (λq4 h=>aQ 21 k q4<|fp k8<|lp k8<|fp k8<|lp k8<|ae (iV k k) k<|oB h λv5 hv5 h=>ae (bC (qQ a0.src 0 (wr (a0.n - 1)) v5 hv5) k (dW k (dW k (dW k aS)))) k<|pk k3<|am k k<|rA h (λq6 h=>aQ 29 k q6<|fp k8<|lp k8<|fp k8<|lp k8<|ae (iV k k) k<|oB h λv7 hv7 h=>ae (bC (qQ a0.tgt 0 (wr (a0.n - 1)) v7 hv7) k (dW k (dW k (dW k aS)))) k<|pk k3<|aT k2<|aJ<|kK h k2) λq6 h=>aQ 29 k q6<|aK k4<|aK k4<|aK k4<|pk k3<|aT k2<|aJ<|kK h k2) λq4 h=>aQ 21 k q4<|aK k4<|aK k4<|aK k4<|pk k3<|am k k<|aK k4<|aK k4<|aK k4<|pk k3<|aT k2<|aJ<|kK h k2) λq3 h=>aQ 15 k q3<|aK k4<|aK k4<|pk k3<|am k k<|aK k4<|aK k4<|aK k4<|pk k3<|am k k<|aK k4<|aK k4<|aK k4<|pk k3<|aT k2<|aJ<|kK h k2) λq2 h=>?_;refine aQ 6 k q2<|aK k4<|aK k4<|aK k4<|ak k k<|pk k3<|am k k<|aK k4<|aK k4<|pk k3<|am k k<|aK k4<|aK k4<|aK k4<|pk k3<|am k k<|aK k4<|aK k4<|aK k4 ?_;exact pk k3<|aT k2<|aJ<|kK h k2
def qR (a0:Qv) (a1:(List Int)):Option Bool:=
 (sG a0).bind λv1=>
 bif v1 then
 (bif decide ((a1.length:Int)=a0.n) then
 ((iM a1 0 4).bind λv4=>
 bif v4 then
 ((rK a1).bind λv6=>
 some (decide (v6≤8)))
 else
 (some (false)))
 else
 (some (false)))
 else
 (some (false))
theorem aAz (a0:Qv) (a1:(List Int)) (r:Bool) (h:qR a0 a1=some r):HasC Tryz.prog 101 [.agg (eQ a0),.list 1 (a1.map eI)] (.bl r):=by
 exact hM [.tmp 4] Tryz.func101 Tryz.ntmps101 k<|sR<|ae (wb k) k<|aT k2<|sR<|lp k8<|oB h λv1 hv1 h=>ae (bC (aDA a0 v1 hv1) k (aZ (lQ k) aS)) k<|am k k<|rA h (λq2 h=>aQ 7 k q2<|am k k<|ln k4<|fp k8<|lp k8<|cm k4<|pk k3<|am k k<|rA h (λq3 h=>aQ 14 k q3<|am k k<|oB h λv4 hv4 h=>ae (bC (qQ a1 0 4 v4 hv4) k (dW k (dW k (dW k aS)))) k<|pk k3<|am k k<|rA h (λq5 h=>aQ 18 k q5<|am k k<|oB h λv6 hv6 h=>ae (bC (aAe a1 v6 hv6) k (dW k aS)) k<|cm k4<|pk k3<|aT k2<|aJ<|kK h k2) λq5 h=>aQ 18 k q5<|aK k4<|ak k k<|pk k3<|aT k2<|aJ<|kK h k2) λq3 h=>aQ 14 k q3<|aK k4<|pk k3<|am k k<|aK k4<|ak k k<|pk k3<|aT k2<|aJ<|kK h k2) λq2 h=>aQ 7 k q2<|aK k4<|aK k4<|ak k k<|pk k3<|am k k<|aK k4<|pk k3<|am k k<|aK k4<|ak k k<|pk k3<|aT k2<|aJ<|kK h k2
def wO (a0:Rp) (x1:Int):Option (Int ⊕ (Unit ⊕ Bool)):=
 bif decide (x1<(a0.maps.length:Int)) then
 ((cO a0.maps x1).bind λv7=>
 (wN a0.p v7).bind λv8=>
 bif !v8 then
 (some (.inr (.inr (false))))
 else
 ((cO a0.q.src x1).bind λv10=>
 (cO a0.dims v10).bind λv11=>
 bif !decide (v7.cols=v11) then
 (some (.inr (.inr (false))))
 else
 ((cO a0.q.tgt x1).bind λv13=>
 (cO a0.dims v13).bind λv14=>
 bif !decide (v7.rows=v14) then
 (some (.inr (.inr (false))))
 else
 (some (.inl (wr (x1+1)))))))
 else
 (some (.inr (.inl ())))
def aAh (a0:Rp):Option Bool:=
 (kS a0.p).bind λv1=>
 bif !v1 then
 (some (false))
 else
 ((qR a0.q a0.dims).bind λv3=>
 bif !v3 then
 (some (false))
 else
 (bif !decide ((a0.maps.length:Int)=(a0.q.src.length:Int)) then
 (some (false))
 else
 ((Lp (wO a0) 0).bind λy16=>
 Sum.elim (λy17=>
 some (true)
 )
 (λy18=>
 some y18
 )
 y16)))
theorem aLy (a0:Rp) (r:Bool) (h:aAh a0=some r):HasC Tryz.prog 51 [.agg (eR a0)] (.bl r):=by
 refine hM [.tmp 2] Tryz.func51 Tryz.ntmps51 k<|sR<|ae (wb k) k<|aT k2<|sQ<|sR<|fp k8<|lp k8<|oB h λv1 hv1 h=>ae (bC (qO a0.p v1 hv1) k (dW k aS)) k<|ae (dL k) k<|am k k<|rA h (λq2 h=>aQ 9 k q2<|aK k4<|aK k4<|aK k4<|pk k3<|am k k<|aK k4<|aK k4<|aK k4<|aK k4<|pk k3<|an<|tn<|aP (t:=mN [(1,.ptr 0 0 0),(26,.bl true)] [(0,⟨6,[eR a0]⟩)] 1) (bS (bK k2) (bN k<|aR) k4)<|fG k k<|sR<|aT k2<|aJ<|aI<|kK h k2) λq2 h=>?_;refine aQ 9 k q2<|fp k8<|lp k8<|fp k8<|lp k8<|oB h λv3 hv3 h=>ae (bC (aAz a0.q a0.dims v3 hv3) k (aZ (lQ k) (dW k aS))) k<|ae (dL k) k<|pk k3<|am k k<|rA h (λq4 h=>aQ 17 k q4<|aK k4<|aK k4<|aK k4<|aK k4<|pk k3<|an<|tn<|aP (t:=mN [(1,.ptr 0 0 0),(26,.bl true)] [(0,⟨6,[eR a0]⟩)] 1) (bS (bK k2) (bN k<|aR) k4)<|fG k k<|sR<|aT k2<|aJ<|aI<|kK h k2) λq4 h=>?_;refine aQ 17 k q4<|fp k8<|lp k8<|ln k4<|fp k8<|fp k8<|lp k8<|ln k4<|cm k4<|pk k3<|an<|tn<|aP (t:=mN [(1,.ptr 0 0 0),(26,.bl (!decide ((a0.maps.length:Int)=(a0.q.src.length:Int))))] [(0,⟨6,[eR a0]⟩)] 1) (bS (bK k2) (bN k<|aR) k4)<|dR k h (λ_ h=>sR<|aT k2<|aJ<|aI<|kK h k2) λ_ h=>?_;refine aG<|tn<|sQ<|sR<|fp k8<|lp k8<|ln k4<|am k k<|an<|tn<|aE<|oB h λy16 hy16 h=>cC (body:=(wO a0)) hy16 (λ(x1:Int)=>mN [(1,.ptr 0 0 0),(28,.list 3 (a0.maps.map eM)),(29,.int (a0.maps.length:Int)),(30,.int x1)] [(0,⟨6,[eR a0]⟩)] 1) (λr e t=>Sum.elim (λa=>(λr e t=>e= .exit 0∧Ent t (mN [] [] 0)) a e t) (λb=>(λr e t=>e= .ret∧tW TT [.tmp 2] (.bl r) .ret t) b e t) r) (bS (bK k2) (bN k<|aR) k4) ?_ ?_
 ·intro x1 o h;refine sR<|cm k4<|an<|tn<|sQ<|dR k h (λ_ h=>?_) λ_ h=>aU<|aB<|aB<|sp h ⟨_,k,k,(bS aR aR k4)⟩;refine aG<|tn<|sQ<|aE<|sR<|am k k<|oB h λv7 hv7 h=>ae (xl hv7 k) k<|lr k7<|ae (bX aD k k) k<|aa k k<|ae (ws k) k<|an<|tn<|sQ<|aN gD<|fp k8<|lp k8<|lp k8<|oB h λv8 hv8 h=>ae (bC (aHl a0.p v7 v8 hv8) k (dW k (aZ (lQ k) aS))) k<|ae (dL k) k<|am k k<|rA h (λq9 h=>?_) λq9 h=>?_
  ·refine aQ 40 k q9<|aK k4<|aK k4<|aK k4<|aK k4<|aK k4<|aK k4<|ak k k<|pk k3<|am k k<|aK k4<|aK k4<|aK k4<|aK k4<|aK k4<|aK k4<|ak k k<|pk k3 ?_;exact an<|rC (by kernel_rfl)<|tn<|aP (t:=mN [(1,.ptr 0 0 0),(28,.list 3 (a0.maps.map eM)),(29,.int (a0.maps.length:Int)),(30,.int x1),(69,.bl true)] [(0,⟨6,[eR a0]⟩)] 2) (bS (bK k2) (bN k<|aR) k4)<|fG k k<|sR<|aT k2<|aJ<|bH<|aI<|aI<|sp h ⟨_,k,k,bT k k k (xT k)⟩
  ·exact aQ 40 k q9<|fp k8<|lp k8<|fp k8<|lp k8<|fp k8<|fp k8<|lp k8<|am k k<|oB h λv10 hv10 h=>ae (xl hv10 k) k<|lr k7<|oB h λv11 hv11 h=>ae (xl hv11 k) k<|lr k7<|cm k4<|pk k3<|am k k<|rA h (λq12 h=>aQ 55 k q12<|aK k4<|aK k4<|aK k4<|aK k4<|aK k4<|aK k4<|ak k k<|pk k3<|an<|rC (by kernel_rfl)<|tn<|aP (t:=mN [(1,.ptr 0 0 0),(28,.list 3 (a0.maps.map eM)),(29,.int (a0.maps.length:Int)),(30,.int x1),(69,.bl true)] [(0,⟨6,[eR a0]⟩)] 2) (bS (bK k2) (bN k<|aR) k4)<|fG k k<|sR<|aT k2<|aJ<|bH<|aI<|aI<|sp h ⟨_,k,k,bT k k k (xT k)⟩) λq12 h=>aQ 55 k q12<|fp k8<|lp k8<|fp k8<|lp k8<|fp k8<|fp k8<|lp k8<|am k k<|oB h λv13 hv13 h=>ae (xl hv13 k) k<|lr k7<|oB h λv14 hv14 h=>ae (xl hv14 k) k<|lr k7<|cm k4<|pk k3<|an<|rC (by kernel_rfl)<|tn<|aP (t:=mN [(1,.ptr 0 0 0),(28,.list 3 (a0.maps.map eM)),(29,.int (a0.maps.length:Int)),(30,.int x1),(69,.bl (!decide (v7.rows=v14)))] [(0,⟨6,[eR a0]⟩)] 2) (bS (bK k2) (bN k<|aR) k4)<|dR k h (λ_ h=>sR<|aT k2<|aJ<|bH<|aI<|aI<|sp h ⟨_,k,k,bT k k k (xT k)⟩) λ_ h=>aG<|aV<|tn<|rg<|ae (bF k k) k<|am k k<|an<|tn<|sp h ⟨_,k,(bS (bK k2) (bN k<|aR) k4)⟩
 ·intro e t hX;rcases y16 with y17|y18
  ·obtain ⟨rfl,hent⟩:=hX;exact aL<|tn<|aP hent<|sR<|aT k2<|aJ<|kK h k2
  ·obtain ⟨rfl,hent⟩:=hX;exact bH<|aI<|sp h hent
def gY (a0:Mt):Option Mt:=
 (hO a0.cells).bind λv1=>
 some ((⟨a0.rows,a0.cols,v1⟩:Mt))
theorem vJ (a0:Mt) (r:Mt) (h:gY a0=some r):HasC Tryz.prog 167 [.agg (eM a0)] (.agg (eM r)):=by
 exact hM [.cell 2 91] Tryz.func167 Tryz.ntmps167 k<|sR<|ae (wb k) k<|ae (bX aD k k) k<|an<|tn<|sR<|fp k8<|lp k8<|oB h λv1 hv1 h=>ae (cL cP (wB a0.cells v1 hv1) k3 (dW k aS)) k<|fp k8<|ae (ws k) k<|an<|tn<|sR<|lp k8<|ae (ws k) k<|an<|tn<|aJ<|sp h (bT k k k (pH (aH (k) (aH (k) (aH (eX cP k k) eH)))))
def wP (a0:Int) (a2:Mt) (v1:Mt) (v3:(List Int)) (x1:((List Int)×Int)) (x2:((List Int)×Int)):Option (((List Int)×Int) ⊕ (List Int)):=
 bif decide (x2.2<(v3.length:Int)) then
 ((cO v3 x2.2).bind λv5=>
 (fW (⟨v1.rows,v1.cols,x2.1⟩:Mt) x1.2).bind λv6=>
 (aGc a2 x2.2).bind λv7=>
 (nB a0 x2.1 (0+(wr (x1.2*v1.cols)).toNat) ((wr ((wr (x1.2+1))*v1.cols)).toNat - (wr (x1.2*v1.cols)).toNat) v5 v7).bind λv8=>
 bif decide (v8.length=x2.1.length) then
 (some (.inl (v8,wr (x2.2+1))))
 else none)
 else
 (some (.inr x2.1))
def wQ (a0:Int) (a1:Mt) (a2:Mt) (v1:Mt) (x1:((List Int)×Int)):Option (((List Int)×Int) ⊕ (List Int)):=
 bif decide (x1.2<a1.rows) then
 ((aGc a1 x1.2).bind λv3=>
 (Lp (wP a0 a2 v1 v3 x1) (x1.1,0)).bind λy10=>
 some (.inl (y10,wr (x1.2+1))))
 else
 (some (.inr x1.1))
def xW (a0:Int) (a1:Mt) (a2:Mt):Option Mt:=
 (mT a1.rows a2.cols).bind λv1=>
 (Lp (wQ a0 a1 a2 v1) (v1.cells,0)).bind λy11=>
 some ((⟨v1.rows,v1.cols,y11⟩:Mt))
theorem aFh (a0:Int) (a1:Mt) (a2:Mt) (r:Mt) (h:xW a0 a1 a2=some r):HasC Tryz.prog 198 [.int a0,.agg (eM a1),.agg (eM a2)] (.agg (eM r)):=by
 refine hM [.cell 6 91] Tryz.func198 Tryz.ntmps198 k<|sR<|ae (wb k) k<|ae (wb k) k<|ae (bX aD k k) k<|an<|tn<|sR<|fp k8<|lp k8<|fp k8<|lp k8<|oB h λv1 hv1 h=>ae (cM (uB a1.rows a2.cols v1 hv1) k3 (dW k (dW k aS))) k<|ae (bX aD k k) k<|ae (ws k) k<|an<|tn<|sQ<|sR<|fp k8<|lp k8<|am k k<|an<|tn<|aE<|oB h λy11 hy11 h=>cC (body:=(wQ a0 a1 a2 v1)) hy11 (λ(x1:((List Int)×Int))=>mN [(0,.int a0),(4,.ptr 0 0 0),(5,.ptr 1 0 0),(6,.ptr 2 0 0),(7,.ptr 3 0 0),(17,.int a1.rows),(18,.int x1.2)] [(0,⟨3,[eM a1]⟩),(1,⟨3,[eM a2]⟩),(2,⟨3,[iL]⟩),(3,⟨3,[[.int v1.rows,.int v1.cols,.own 4 0 x1.1.length]]⟩),(4,⟨1,x1.1.map (ow eI)⟩)] 5) (λr e t=>e= .exit 0∧Ent t (mN [(6,.ptr 0 0 0),(7,.ptr 1 0 0)] [(0,⟨3,[iL]⟩),(1,⟨3,[[.int v1.rows,.int v1.cols,.own 2 0 r.length]]⟩),(2,⟨1,r.map (ow eI)⟩)] 3)) (mX [0,1,2,4,3] (bK k2) (bN k<|bN k<|bN k<|fF k<|bP k<|aR) k4) ?_ ?_
 ·intro x1 o h;refine sR<|cm k4<|an<|tn<|sQ<|dR k h (λ_ h=>?_) λ_ h=>aU<|aB<|aB<|sp h ⟨_,k,k,(mX [2,3,4] (bK k2) (bN k<|fF k<|bP k<|aR) k4)⟩;refine aG<|tn<|sQ<|aE<|sR<|am k k<|aT k2<|sR<|lp k8<|am k k<|oB h λv3 hv3 h=>ae (aIv (aPJ a1 x1.2 v3 hv3) k k k) k<|ln k4<|am k k<|an<|tn<|aE<|oB h λy10 hy10 h=>cC (body:=(wP a0 a2 v1 v3 x1)) hy10 (λ(x2:((List Int)×Int))=>mN [(0,.int a0),(4,.ptr 0 0 0),(5,.ptr 1 0 0),(6,.ptr 2 0 0),(7,.ptr 3 0 0),(8,.int x1.2),(17,.int a1.rows),(18,.int x1.2),(23,.list 1 (v3.map eI)),(24,.int (v3.length:Int)),(25,.int x2.2)] [(0,⟨3,[eM a1]⟩),(1,⟨3,[eM a2]⟩),(2,⟨3,[iL]⟩),(3,⟨3,[[.int v1.rows,.int v1.cols,.own 4 0 x2.1.length]]⟩),(4,⟨1,x2.1.map (ow eI)⟩)] 5) (λr e t=>e= .exit 2∧Ent t (mN [(0,.int a0),(4,.ptr 0 0 0),(5,.ptr 1 0 0),(6,.ptr 2 0 0),(7,.ptr 3 0 0),(17,.int a1.rows),(18,.int x1.2)] [(0,⟨3,[eM a1]⟩),(1,⟨3,[eM a2]⟩),(2,⟨3,[iL]⟩),(3,⟨3,[[.int v1.rows,.int v1.cols,.own 4 0 r.length]]⟩),(4,⟨1,r.map (ow eI)⟩)] 5)) (bS (bK k2) (bN k<|bN k<|bN k<|fF k<|bP k<|aR) k4) ?_ ?_
  ·intro x2 o h;refine sR<|cm k4<|an<|tn<|sQ<|dR k h (λ_ h=>?_) λ_ h=>aU<|aB<|aB<|sp h ⟨_,k,k,(bS (bK k2) (bN k<|bN k<|bN k<|fF k<|bP k<|aR) k4)⟩;refine aG<|tn<|sQ<|aE<|sR<|am k k<|oB h λv5 hv5 h=>ae (xl hv5 k) k<|lr k7<|aa k k<|aT k2<|aN gD<|am k k<|lp k8<|am k k<|oB h λv6 hv6 h=>ae (AEff.pureE (kO (σ:=sg [(0,4)]) (σ':=sg [(4,0)]) (touch:=[4]) (news:=[]) (hl2:=[(4,⟨1,x2.1.map (ow eI)⟩)]) (n':=5) (r2:= .own 4 (0+(wr (x1.2*v1.cols)).toNat) ((wr ((wr (x1.2+1))*v1.cols)).toNat - (wr (x1.2*v1.cols)).toNat)) (iW (⟨v1.rows,v1.cols,x2.1⟩:Mt) x1.2 v6 hv6) k k ⟨_,_,k,⟨_,_,k,k,⟨_,_,k,k,⟨_,_,k,⟨k,k,k,k⟩,k⟩⟩⟩,⟨_,_,k,k,k⟩⟩ ⟨⟨_,k,k,.inl ⟨k,cP.plainO _⟩⟩,k,aR⟩ k k k ⟨⟨_,k,k,.inl ⟨k,cP.plainO _⟩⟩,k,aR⟩ k ⟨k,k,(by simp only [aO,lA,lT,lR,lC,lN]),k⟩ k ⟨k,cP.tame _ _,aR⟩ k k) ⟨k,k,aR⟩) k<|am k k<|lp k8<|am k k<|oB h λv7 hv7 h=>ae (aIv (aPJ a2 x2.2 v7 hv7) k k k) k<|oB h λv8 hv8 h=>ae (kO (σ:=sg [(0,4)]) (σ':=sg [(4,0)]) (touch:=[4]) (news:=[]) (hl2:=[(4,⟨1,v8.map (ow eI)⟩)]) (n':=5) (r2:= .own 4 (0+(wr (x1.2*v1.cols)).toNat) ((wr ((wr (x1.2+1))*v1.cols)).toNat - (wr (x1.2*v1.cols)).toNat)) (aAx a0 x2.1 (0+(wr (x1.2*v1.cols)).toNat) ((wr ((wr (x1.2+1))*v1.cols)).toNat - (wr (x1.2*v1.cols)).toNat) v5 v7 v8 hv8) k k ⟨_,_,k,k,⟨_,_,k,⟨k,k,k,k⟩,⟨_,_,k,k,⟨_,_,k,⟨k,k⟩,k⟩⟩⟩⟩ ⟨⟨_,k,k,.inl ⟨k,cP.plainO _⟩⟩,k,aR⟩ k k k ⟨⟨_,k,k,.inl ⟨k,cP.plainO _⟩⟩,k,aR⟩ k ⟨k,k,(by simp only [aO,lA,lT,lR,lC,lN]),k⟩ k ⟨k,cP.tame _ _,aR⟩ k k) k<|cG h λq9 h=>an<|rC (by kernel_rfl)<|aV<|tn<|rg<|ae (bF k k) k ?_;exact am k k<|an<|tn<|sp h ⟨_,k,(bS (bK k2) (bN k<|bN k<|bN k<|hX ⟨_,k,k,.inr ⟨_,_,k,⟨_,_,k,k,⟨_,_,k,k,⟨_,_,k,⟨k,k,(by simp only [aO,lA,lT,lR,lC,lN,of_decide_eq_true q9]),k⟩,k⟩⟩⟩,k⟩⟩ k<|bP k<|aR) k4)⟩
  ·rintro e t ⟨rfl,hent⟩;exact aL<|aV<|tn<|aP hent<|rg<|ae (bF k k) k<|am k k<|an<|tn<|sp h ⟨_,k,(bS (bK k2) (bN k<|bN k<|bN k<|fF k<|bP k<|aR) k4)⟩
 ·rintro e t ⟨rfl,hent⟩;exact aL<|tn<|aP hent<|sR<|lp k8<|ae (ws k) k<|an<|tn<|aJ<|sp h (bT k k k (pH (aH (k) (aH (k) (aH (eX cP k k) eH)))))
def qS (v1:Mt) (x1:(Int×(List Int)×(List Int))) (x2:Int):Option (Int ⊕ Int):=
 bif decide (x2<v1.rows) then
 ((fW (⟨v1.rows,v1.cols,x1.2.1⟩:Mt) x2).bind λv4=>
 bif (decide (0≤x1.1)&&decide (x1.1<((((wr ((wr (x2+1))*v1.cols)).toNat - (wr (x2*v1.cols)).toNat):Nat):Int))) then
 ((x1.2.1[((0+(wr (x2*v1.cols)).toNat)+x1.1.toNat)]?).bind λv5=>
 bif decide (v5=0) then
 (some (.inl (wr (x2+1))))
 else
 (some (.inr x2))
 )
 else none)
 else
 (some (.inr x2))
def uN (v1:Mt) (x1:(Int×(List Int)×(List Int))) (y8:Int) (x3:((List Int)×Int)):Option (((List Int)×Int) ⊕ (List Int)):=
 bif decide (x3.2<v1.cols) then
 ((fW (⟨v1.rows,v1.cols,x3.1⟩:Mt) y8).bind λv12=>
 (fW (⟨v1.rows,v1.cols,x3.1⟩:Mt) y8).bind λv13=>
 bif (decide (0≤x3.2)&&decide (x3.2<((((wr ((wr (y8+1))*v1.cols)).toNat - (wr (y8*v1.cols)).toNat):Nat):Int))) then
 ((x3.1[((0+(wr (y8*v1.cols)).toNat)+x3.2.toNat)]?).bind λv14=>
 bif (decide (0≤x3.2)&&decide (x3.2<((((wr ((wr (((x1.2.2.length:Nat):Int)+1))*v1.cols)).toNat - (wr (((x1.2.2.length:Nat):Int)*v1.cols)).toNat):Nat):Int))) then
 ((x3.1[((0+(wr (((x1.2.2.length:Nat):Int)*v1.cols)).toNat)+x3.2.toNat)]?).bind λv16=>
 bif (decide (0≤x3.2)&&decide (x3.2<((((wr ((wr (((x1.2.2.length:Nat):Int)+1))*v1.cols)).toNat - (wr (((x1.2.2.length:Nat):Int)*v1.cols)).toNat):Nat):Int))) then
 ((x3.1[((0+(wr (((x1.2.2.length:Nat):Int)*v1.cols)).toNat)+x3.2.toNat)]?).bind λv18=>
 bif (decide (0≤x3.2)&&decide (x3.2<((((wr ((wr (y8+1))*v1.cols)).toNat - (wr (y8*v1.cols)).toNat):Nat):Int))) then
 (((x3.1.set ((0+(wr (((x1.2.2.length:Nat):Int)*v1.cols)).toNat)+x3.2.toNat) v14)[((0+(wr (y8*v1.cols)).toNat)+x3.2.toNat)]?).bind λv20=>
 some (.inl (((x3.1.set ((0+(wr (((x1.2.2.length:Nat):Int)*v1.cols)).toNat)+x3.2.toNat) v14).set ((0+(wr (y8*v1.cols)).toNat)+x3.2.toNat) v16),wr (x3.2+1)))
 )
 else none
 )
 else none
 )
 else none
 )
 else none)
 else
 (some (.inr x3.1))
def uO (a0:Int) (v1:Mt) (v25:Int) (x1:(Int×(List Int)×(List Int))) (x4:((List Int)×Int)):Option (((List Int)×Int) ⊕ (List Int)):=
 bif decide (x4.2<((((wr ((wr (((x1.2.2.length:Nat):Int)+1))*v1.cols)).toNat - (wr (((x1.2.2.length:Nat):Int)*v1.cols)).toNat):Nat):Int)) then
 (bif (decide (0≤x4.2)&&decide (x4.2<((((wr ((wr (((x1.2.2.length:Nat):Int)+1))*v1.cols)).toNat - (wr (((x1.2.2.length:Nat):Int)*v1.cols)).toNat):Nat):Int))) then
 ((x4.1[((0+(wr (((x1.2.2.length:Nat):Int)*v1.cols)).toNat)+x4.2.toNat)]?).bind λv27=>
 bif !decide (a0=0) then
 (bif (decide (0≤x4.2)&&decide (x4.2<((((wr ((wr (((x1.2.2.length:Nat):Int)+1))*v1.cols)).toNat - (wr (((x1.2.2.length:Nat):Int)*v1.cols)).toNat):Nat):Int))) then
 ((x4.1[((0+(wr (((x1.2.2.length:Nat):Int)*v1.cols)).toNat)+x4.2.toNat)]?).bind λv29=>
 some (.inl ((x4.1.set ((0+(wr (((x1.2.2.length:Nat):Int)*v1.cols)).toNat)+x4.2.toNat) ((wr (v27*v25)).tmod a0)),wr (x4.2+1)))
 )
 else none)
 else none
 )
 else none)
 else
 (some (.inr x4.1))
def uP (a0:Int) (v1:Mt) (x1:(Int×(List Int)×(List Int))) (x5:((List Int)×Int)):Option (((List Int)×Int) ⊕ (List Int)):=
 bif decide (x5.2<v1.rows) then
 (bif !decide (x5.2=((x1.2.2.length:Nat):Int)) then
 ((fW (⟨v1.rows,v1.cols,x5.1⟩:Mt) x5.2).bind λv35=>
 (fW (⟨v1.rows,v1.cols,x5.1⟩:Mt) x5.2).bind λv36=>
 bif (decide (0≤x1.1)&&decide (x1.1<((((wr ((wr (x5.2+1))*v1.cols)).toNat - (wr (x5.2*v1.cols)).toNat):Nat):Int))) then
 ((x5.1[((0+(wr (x5.2*v1.cols)).toNat)+x1.1.toNat)]?).bind λv37=>
 (lI a0 x5.1 (0+(wr (x5.2*v1.cols)).toNat) ((wr ((wr (x5.2+1))*v1.cols)).toNat - (wr (x5.2*v1.cols)).toNat) (wr (a0 - v37)) (0+(wr (((x1.2.2.length:Nat):Int)*v1.cols)).toNat) ((wr ((wr (((x1.2.2.length:Nat):Int)+1))*v1.cols)).toNat - (wr (((x1.2.2.length:Nat):Int)*v1.cols)).toNat)).bind λv39=>
 bif decide (v39.length=x5.1.length) then
 (some (.inl (v39,wr (x5.2+1))))
 else none
 )
 else none)
 else
 (some (.inl (x5.1,wr (x5.2+1)))))
 else
 (some (.inr x5.1))
def qT (a0:Int) (v1:Mt) (x1:(Int×(List Int)×(List Int))):Option ((Int×(List Int)×(List Int)) ⊕ ((List Int)×(List Int))):=
 bif decide (x1.1<v1.cols) then
 ((Lp (qS v1 x1) ((x1.2.2.length:Nat):Int)).bind λy8=>
 bif decide (y8=v1.rows) then
 (some (.inl (wr (x1.1+1),x1.2.1,x1.2.2)))
 else
 ((fW (⟨v1.rows,v1.cols,x1.2.1⟩:Mt) ((x1.2.2.length:Nat):Int)).bind λv10=>
 (Lp (uN v1 x1 y8) (x1.2.1,0)).bind λy22=>
 bif (decide (0≤x1.1)&&decide (x1.1<((((wr ((wr (((x1.2.2.length:Nat):Int)+1))*v1.cols)).toNat - (wr (((x1.2.2.length:Nat):Int)*v1.cols)).toNat):Nat):Int))) then
 ((y22[((0+(wr (((x1.2.2.length:Nat):Int)*v1.cols)).toNat)+x1.1.toNat)]?).bind λv23=>
 (tF a0 v23).bind λv25=>
 (Lp (uO a0 v1 v25 x1) (y22,0)).bind λy32=>
 (Lp (uP a0 v1 x1) (y32,0)).bind λy41=>
 bif decide (x1.2.2.length+[x1.1].length ≤4294967296) then
 (some (.inl (wr (x1.1+1),y41,(x1.2.2++[x1.1]))))
 else none
 )
 else none))
 else
 (some (.inr (x1.2.1,x1.2.2)))
def zS (a0:Int) (a1:Mt):Option (Mt×(List Int)):=
 (gY a1).bind λv1=>
 (Lp (qT a0 v1) (0,v1.cells,[])).bind λy43=>
 some (((⟨v1.rows,v1.cols,y43.1⟩:Mt),y43.2))
theorem aKF (a0:Int) (a1:Mt) (r:(Mt×(List Int))) (h:zS a0 a1=some r):HasC Tryz.prog 202 [.int a0,.agg (eM a1)] (.tuple [.agg (eM r.1),.list 1 (r.2.map eI)]):=by
 refine hM [.cell 4 91,.tmp 5] Tryz.func202 Tryz.ntmps202 k<|sR<|ae (wb k) k<|ae (bX aD k k) k<|aT k2<|sR<|lp k8<|oB h λv1 hv1 h=>ae (cM (vJ a1 v1 hv1) k3 (aZ (lQ k) aS)) k<|ae (ws k) k<|an<|tn<|sR<|aT k2<|sQ<|sR<|fp k8<|lp k8<|am k k<|an<|tn<|aE<|oB h λy43 hy43 h=>cC (body:=(qT a0 v1)) hy43 (λ(x1:(Int×(List Int)×(List Int)))=>mN [(0,.int a0),(3,.ptr 0 0 0),(4,.ptr 2 0 0),(6,.own 3 0 x1.2.2.length),(17,.int v1.cols),(18,.int x1.1)] [(0,⟨3,[[.int v1.rows,.int v1.cols,.own 1 0 x1.2.1.length]]⟩),(1,⟨1,x1.2.1.map (ow eI)⟩),(2,⟨3,[iL]⟩),(3,⟨1,x1.2.2.map (ow eI)⟩)] 4) (λr e t=>e= .exit 0∧Ent t (mN [(3,.ptr 0 0 0),(4,.ptr 2 0 0),(6,.own 3 0 r.2.length)] [(0,⟨3,[[.int v1.rows,.int v1.cols,.own 1 0 r.1.length]]⟩),(1,⟨1,r.1.map (ow eI)⟩),(2,⟨3,[iL]⟩),(3,⟨1,r.2.map (ow eI)⟩)] 4)) (fX (σ:=sg [(0,0),(1,2),(2,1)]) (mG 3 k2 (jJ ⟨_,k,⟨k,k,k,k⟩⟩ (bK k2))) (fF k<|bP k<|bN k<|hX k k<|aR) k) ?_ ?_
 ·intro x1 o h;refine sR<|cm k4<|an<|tn<|sQ<|dR k h (λ_ h=>?_) λ_ h=>aU<|aB<|aB<|sp h ⟨_,k,k,(bS (bK k2) (fF k<|bP k<|bN k<|bP k<|aR) k4)⟩;refine aG<|tn<|sQ<|aE<|sR<|am k k<|aT k2<|sR<|am k k<|ae (cA aD k k k k) k<|aT k2<|sQ<|aE<|oB h λy8 hy8 h=>cC (body:=(qS v1 x1)) hy8 (λ(x2:Int)=>mN [(0,.int a0),(3,.ptr 0 0 0),(4,.ptr 2 0 0),(6,.own 3 0 x1.2.2.length),(7,.int x1.1),(8,.int x2),(17,.int v1.cols),(18,.int x1.1)] [(0,⟨3,[[.int v1.rows,.int v1.cols,.own 1 0 x1.2.1.length]]⟩),(1,⟨1,x1.2.1.map (ow eI)⟩),(2,⟨3,[iL]⟩),(3,⟨1,x1.2.2.map (ow eI)⟩)] 4) (λr e t=>e= .exit 2∧Ent t (mN [(0,.int a0),(3,.ptr 0 0 0),(4,.ptr 2 0 0),(6,.own 3 0 x1.2.2.length),(7,.int x1.1),(8,.int r),(17,.int v1.cols),(18,.int x1.1)] [(0,⟨3,[[.int v1.rows,.int v1.cols,.own 1 0 x1.2.1.length]]⟩),(1,⟨1,x1.2.1.map (ow eI)⟩),(2,⟨3,[iL]⟩),(3,⟨1,x1.2.2.map (ow eI)⟩)] 4)) (bS (bK k2) (fF k<|bP k<|bN k<|bP k<|aR) k4) ?_ ?_
  ·intro x2 o h;exact sQ<|sR<|am k k<|fp k8<|lp k8<|cm k4<|am k k<|rA h (λq3 h=>aQ 27 k q3<|lp k8<|am k k<|oB h λv4 hv4 h=>ae (AEff.pureE (kO (σ:=sg [(0,1)]) (σ':=sg [(1,0)]) (touch:=[1]) (news:=[]) (hl2:=[(1,⟨1,x1.2.1.map (ow eI)⟩)]) (n':=4) (r2:= .own 1 (0+(wr (x2*v1.cols)).toNat) ((wr ((wr (x2+1))*v1.cols)).toNat - (wr (x2*v1.cols)).toNat)) (iW (⟨v1.rows,v1.cols,x1.2.1⟩:Mt) x2 v4 hv4) k k ⟨_,_,k,⟨_,_,k,k,⟨_,_,k,k,⟨_,_,k,⟨k,k,k,k⟩,k⟩⟩⟩,⟨_,_,k,k,k⟩⟩ ⟨⟨_,k,k,.inl ⟨k,cP.plainO _⟩⟩,k,aR⟩ k k k ⟨⟨_,k,k,.inl ⟨k,cP.plainO _⟩⟩,k,aR⟩ k ⟨k,k,(by simp only [aO,lA,lT,lR,lC,lN]),k⟩ k ⟨k,cP.tame _ _,aR⟩ k k) ⟨k,k,aR⟩) k<|am k k<|cG h λq6 h=>oB h λv5 hv5 h=>ae (lH aD q6 k k k k k k k) k<|ae (cI aD k k k k (jW (hv5)) k k) k<|cm k4<|pk k3<|an<|tn<|dR k h (λ_ h=>aG<|tn<|aE<|rg<|am k k<|ae (bF k k) k<|aa k k<|an<|aV<|tn<|sp h ⟨_,k,(bS (bK k2) (fF k<|bP k<|bN k<|bP k<|aR) k4)⟩) λ_ h=>aU<|aB<|aB<|sp h ⟨_,k,k,(bS (bK k2) (fF k<|bP k<|bN k<|bP k<|aR) k4)⟩) λq3 h=>aQ 27 k q3<|aK k4<|aK k4<|aK k4<|ak k k<|pk k3<|an<|tn<|jS k k<|aU<|aB<|aB<|sp h ⟨_,k,k,(bS (bK k2) (fF k<|bP k<|bN k<|bP k<|aR) k4)⟩
  ·rintro e t ⟨rfl,hent⟩;refine aL<|tn<|aP hent<|sQ<|sR<|am k k<|fp k8<|lp k8<|cm k4<|an<|tn<|dR k h (λ_ h=>aU<|aB<|aL<|tn<|rg<|ae (bF k k) k<|am k k<|an<|tn<|sp h ⟨_,k,(bS (bK k2) (fF k<|bP k<|bN k<|bP k<|aR) k4)⟩) λ_ h=>?_;refine aG<|tn<|sR<|lp k8<|am k k<|ae (cA aD k k k k) k<|oB h λv10 hv10 h=>ae (AEff.pureE (kO (σ:=sg [(0,1)]) (σ':=sg [(1,0)]) (touch:=[1]) (news:=[]) (hl2:=[(1,⟨1,x1.2.1.map (ow eI)⟩)]) (n':=4) (r2:= .own 1 (0+(wr (((x1.2.2.length:Nat):Int)*v1.cols)).toNat) ((wr ((wr (((x1.2.2.length:Nat):Int)+1))*v1.cols)).toNat - (wr (((x1.2.2.length:Nat):Int)*v1.cols)).toNat)) (iW (⟨v1.rows,v1.cols,x1.2.1⟩:Mt) ((x1.2.2.length:Nat):Int) v10 hv10) k k ⟨_,_,k,⟨_,_,k,k,⟨_,_,k,k,⟨_,_,k,⟨k,k,k,k⟩,k⟩⟩⟩,⟨_,_,k,k,k⟩⟩ ⟨⟨_,k,k,.inl ⟨k,cP.plainO _⟩⟩,k,aR⟩ k k k ⟨⟨_,k,k,.inl ⟨k,cP.plainO _⟩⟩,k,aR⟩ k ⟨k,k,(by simp only [aO,lA,lT,lR,lC,lN]),k⟩ k ⟨k,cP.tame _ _,aR⟩ k k) ⟨k,k,aR⟩) k<|aT k2<|sQ<|sR<|fp k8<|lp k8<|am k k<|an<|tn<|aE<|oB h λy22 hy22 h=>cC (body:=(uN v1 x1 y8)) hy22 (λ(x3:((List Int)×Int))=>mN [(0,.int a0),(3,.ptr 0 0 0),(4,.ptr 2 0 0),(6,.own 3 0 x1.2.2.length),(7,.int x1.1),(8,.int y8),(9,.own 1 (0+(wr (((x1.2.2.length:Nat):Int)*v1.cols)).toNat) ((wr ((wr (((x1.2.2.length:Nat):Int)+1))*v1.cols)).toNat - (wr (((x1.2.2.length:Nat):Int)*v1.cols)).toNat)),(17,.int v1.cols),(18,.int x1.1),(47,.int v1.cols),(48,.int x3.2)] [(0,⟨3,[[.int v1.rows,.int v1.cols,.own 1 0 x3.1.length]]⟩),(1,⟨1,x3.1.map (ow eI)⟩),(2,⟨3,[iL]⟩),(3,⟨1,x1.2.2.map (ow eI)⟩)] 4) (λr e t=>e= .exit 4∧Ent t (mN [(0,.int a0),(3,.ptr 0 0 0),(4,.ptr 2 0 0),(6,.own 3 0 x1.2.2.length),(7,.int x1.1),(9,.own 1 (0+(wr (((x1.2.2.length:Nat):Int)*v1.cols)).toNat) ((wr ((wr (((x1.2.2.length:Nat):Int)+1))*v1.cols)).toNat - (wr (((x1.2.2.length:Nat):Int)*v1.cols)).toNat)),(17,.int v1.cols),(18,.int x1.1)] [(0,⟨3,[[.int v1.rows,.int v1.cols,.own 1 0 r.length]]⟩),(1,⟨1,r.map (ow eI)⟩),(2,⟨3,[iL]⟩),(3,⟨1,x1.2.2.map (ow eI)⟩)] 4)) (bS (bK k2) (fF k<|bP k<|bN k<|bP k<|aR) k4) ?_ ?_
   ·intro x3 o h;refine sR<|cm k4<|an<|tn<|sQ<|dR k h (λ_ h=>?_) λ_ h=>aU<|aB<|aB<|sp h ⟨_,k,k,(bS (bK k2) (fF k<|bP k<|bN k<|bP k<|aR) k4)⟩;refine aG<|tn<|sQ<|aE<|sR<|am k k<|aT k2<|aN gD<|am k k<|am k k<|lp k8<|am k k<|oB h λv12 hv12 h=>ae (AEff.pureE (kO (σ:=sg [(0,1)]) (σ':=sg [(1,0)]) (touch:=[1]) (news:=[]) (hl2:=[(1,⟨1,x3.1.map (ow eI)⟩)]) (n':=4) (r2:= .own 1 (0+(wr (y8*v1.cols)).toNat) ((wr ((wr (y8+1))*v1.cols)).toNat - (wr (y8*v1.cols)).toNat)) (iW (⟨v1.rows,v1.cols,x3.1⟩:Mt) y8 v12 hv12) k k ⟨_,_,k,⟨_,_,k,k,⟨_,_,k,k,⟨_,_,k,⟨k,k,k,k⟩,k⟩⟩⟩,⟨_,_,k,k,k⟩⟩ ⟨⟨_,k,k,.inl ⟨k,cP.plainO _⟩⟩,k,aR⟩ k k k ⟨⟨_,k,k,.inl ⟨k,cP.plainO _⟩⟩,k,aR⟩ k ⟨k,k,(by simp only [aO,lA,lT,lR,lC,lN]),k⟩ k ⟨k,cP.tame _ _,aR⟩ k k) ⟨k,k,aR⟩) k<|am k k<|lp k8<|am k k<|oB h λv13 hv13 h=>ae (AEff.pureE (kO (σ:=sg [(0,1)]) (σ':=sg [(1,0)]) (touch:=[1]) (news:=[]) (hl2:=[(1,⟨1,x3.1.map (ow eI)⟩)]) (n':=4) (r2:= .own 1 (0+(wr (y8*v1.cols)).toNat) ((wr ((wr (y8+1))*v1.cols)).toNat - (wr (y8*v1.cols)).toNat)) (iW (⟨v1.rows,v1.cols,x3.1⟩:Mt) y8 v13 hv13) k k ⟨_,_,k,⟨_,_,k,k,⟨_,_,k,k,⟨_,_,k,⟨k,k,k,k⟩,k⟩⟩⟩,⟨_,_,k,k,k⟩⟩ ⟨⟨_,k,k,.inl ⟨k,cP.plainO _⟩⟩,k,aR⟩ k k k ⟨⟨_,k,k,.inl ⟨k,cP.plainO _⟩⟩,k,aR⟩ k ⟨k,k,(by simp only [aO,lA,lT,lR,lC,lN]),k⟩ k ⟨k,cP.tame _ _,aR⟩ k k) ⟨k,k,aR⟩) k<|am k k<|cG h λq15 h=>oB h λv14 hv14 h=>ae (lH aD q15 k k k k k k k) k<|ae (cI aD k k k k (jW (hv14)) k k) k<|am k k<|am k k<|cG h λq17 h=>oB h λv16 hv16 h=>ae (lH aD q17 k k k k k k k) k<|ae (cI aD k k k k (jW (hv16)) k k) k<|cG h λq19 h=>oB h λv18 hv18 h=>ae (lH aD q19 k k k k k k k) k<|ae (fA aD jX (u:=v14) (hv18) k k k k k k) k ?_;exact cG h λq21 h=>oB h λv20 hv20 h=>ae (lH aD q21 k k k k k k k) k<|ae (fA aD jX (u:=v16) (hv20) k k k k k k) k<|an<|rC (by kernel_rfl)<|aV<|tn<|rg<|ae (bF k k) k<|am k k<|an<|tn<|sp h ⟨_,k,(bS (bK k2) (hX ⟨_,k,k,.inr ⟨_,_,k,⟨_,_,k,k,⟨_,_,k,k,⟨_,_,k,⟨k,k,(by simp only [aO,lA,lT,lR,lC,lN]),k⟩,k⟩⟩⟩,k⟩⟩ k<|bP k<|bN k<|bP k<|aR) k4)⟩
   ·rintro e t ⟨rfl,hent⟩;refine aL<|tn<|aP hent<|sR<|am k k<|am k k<|am k k<|cG h λq24 h=>oB h λv23 hv23 h=>ae (lH aD q24 k k k k k k k) k<|ae (cI aD k k k k (jW (hv23)) k k) k<|oB h λv25 hv25 h=>ae (bC (aFf a0 v23 v25 hv25) k (dW k (dW k aS))) k<|aT k2<|sQ<|sR<|am k k<|ae (cA aD k k k k) k<|am k k<|an<|tn<|aE<|oB h λy32 hy32 h=>cC (body:=(uO a0 v1 v25 x1)) hy32 (λ(x4:((List Int)×Int))=>mN [(0,.int a0),(3,.ptr 0 0 0),(4,.ptr 2 0 0),(6,.own 3 0 x1.2.2.length),(7,.int x1.1),(9,.own 1 (0+(wr (((x1.2.2.length:Nat):Int)*v1.cols)).toNat) ((wr ((wr (((x1.2.2.length:Nat):Int)+1))*v1.cols)).toNat - (wr (((x1.2.2.length:Nat):Int)*v1.cols)).toNat)),(11,.int v25),(17,.int v1.cols),(18,.int x1.1),(77,.int ((((wr ((wr (((x1.2.2.length:Nat):Int)+1))*v1.cols)).toNat - (wr (((x1.2.2.length:Nat):Int)*v1.cols)).toNat):Nat):Int)),(78,.int x4.2)] [(0,⟨3,[[.int v1.rows,.int v1.cols,.own 1 0 x4.1.length]]⟩),(1,⟨1,x4.1.map (ow eI)⟩),(2,⟨3,[iL]⟩),(3,⟨1,x1.2.2.map (ow eI)⟩)] 4) (λr e t=>e= .exit 6∧Ent t (mN [(0,.int a0),(3,.ptr 0 0 0),(4,.ptr 2 0 0),(6,.own 3 0 x1.2.2.length),(7,.int x1.1),(9,.own 1 (0+(wr (((x1.2.2.length:Nat):Int)*v1.cols)).toNat) ((wr ((wr (((x1.2.2.length:Nat):Int)+1))*v1.cols)).toNat - (wr (((x1.2.2.length:Nat):Int)*v1.cols)).toNat)),(17,.int v1.cols),(18,.int x1.1)] [(0,⟨3,[[.int v1.rows,.int v1.cols,.own 1 0 r.length]]⟩),(1,⟨1,r.map (ow eI)⟩),(2,⟨3,[iL]⟩),(3,⟨1,x1.2.2.map (ow eI)⟩)] 4)) (bS (bK k2) (fF k<|bP k<|bN k<|bP k<|aR) k4) ?_ ?_
    ·intro x4 o h;refine sR<|cm k4<|an<|tn<|sQ<|dR k h (λ_ h=>?_) λ_ h=>aU<|aB<|aB<|sp h ⟨_,k,k,(bS (bK k2) (fF k<|bP k<|bN k<|bP k<|aR) k4)⟩;refine aG<|tn<|sQ<|aE<|sR<|am k k<|aT k2<|rg<|am k k<|am k k<|am k k<|am k k<|cG h λq28 h=>oB h λv27 hv27 h=>ae (lH aD q28 k k k k k k k) k<|ae (cI aD k k k k (jW (hv27)) k k) k<|am k k<|ae (fZ k k) k<|am k k<|cG h λq31 h=>ae (aHP k k q31) k<|cG h λq30 h=>oB h λv29 hv29 h=>ae (lH aD q30 k k k k k k k) k<|ae (fA aD jX (u:=(wr (v27*v25)).tmod a0) (hv29) k k k k k k) k<|an<|aV<|tn<|rg<|ae (bF k k) k<|am k k ?_;exact an<|tn<|sp h ⟨_,k,(bS (bK k2) (hX ⟨_,k,k,.inr ⟨_,_,k,⟨_,_,k,k,⟨_,_,k,k,⟨_,_,k,⟨k,k,(by simp only [aO,lA,lT,lR,lC,lN]),k⟩,k⟩⟩⟩,k⟩⟩ k<|bP k<|bN k<|bP k<|aR) k4)⟩
    ·rintro e t ⟨rfl,hent⟩;refine aL<|tn<|aP hent<|sQ<|sR<|fp k8<|lp k8<|am k k<|an<|tn<|aE<|oB h λy41 hy41 h=>cC (body:=(uP a0 v1 x1)) hy41 (λ(x5:((List Int)×Int))=>mN [(0,.int a0),(3,.ptr 0 0 0),(4,.ptr 2 0 0),(6,.own 3 0 x1.2.2.length),(7,.int x1.1),(9,.own 1 (0+(wr (((x1.2.2.length:Nat):Int)*v1.cols)).toNat) ((wr ((wr (((x1.2.2.length:Nat):Int)+1))*v1.cols)).toNat - (wr (((x1.2.2.length:Nat):Int)*v1.cols)).toNat)),(17,.int v1.cols),(18,.int x1.1),(94,.int v1.rows),(95,.int x5.2)] [(0,⟨3,[[.int v1.rows,.int v1.cols,.own 1 0 x5.1.length]]⟩),(1,⟨1,x5.1.map (ow eI)⟩),(2,⟨3,[iL]⟩),(3,⟨1,x1.2.2.map (ow eI)⟩)] 4) (λr e t=>e= .exit 8∧Ent t (mN [(0,.int a0),(3,.ptr 0 0 0),(4,.ptr 2 0 0),(6,.own 3 0 x1.2.2.length),(7,.int x1.1),(17,.int v1.cols),(18,.int x1.1)] [(0,⟨3,[[.int v1.rows,.int v1.cols,.own 1 0 r.length]]⟩),(1,⟨1,r.map (ow eI)⟩),(2,⟨3,[iL]⟩),(3,⟨1,x1.2.2.map (ow eI)⟩)] 4)) (bS (bK k2) (fF k<|bP k<|bN k<|bP k<|aR) k4) ?_ ?_
     ·intro x5 o h;refine sR<|cm k4<|an<|tn<|sQ<|dR k h (λ_ h=>?_) λ_ h=>aU<|aB<|aB<|sp h ⟨_,k,k,(bS (bK k2) (fF k<|bP k<|bN k<|bP k<|aR) k4)⟩;refine aG<|tn<|sQ<|aE<|sR<|am k k<|aT k2<|sR<|am k k<|am k k<|ae (cA aD k k k k) k<|cm k4<|an<|tn<|dR k h (λ_ h=>?_) λ_ h=>aG<|aV<|tn<|rg<|ae (bF k k) k<|am k k<|an<|tn<|sp h ⟨_,k,(bS (bK k2) (fF k<|bP k<|bN k<|bP k<|aR) k4)⟩;exact aN gD<|am k k<|lp k8<|am k k<|oB h λv35 hv35 h=>ae (AEff.pureE (kO (σ:=sg [(0,1)]) (σ':=sg [(1,0)]) (touch:=[1]) (news:=[]) (hl2:=[(1,⟨1,x5.1.map (ow eI)⟩)]) (n':=4) (r2:= .own 1 (0+(wr (x5.2*v1.cols)).toNat) ((wr ((wr (x5.2+1))*v1.cols)).toNat - (wr (x5.2*v1.cols)).toNat)) (iW (⟨v1.rows,v1.cols,x5.1⟩:Mt) x5.2 v35 hv35) k k ⟨_,_,k,⟨_,_,k,k,⟨_,_,k,k,⟨_,_,k,⟨k,k,k,k⟩,k⟩⟩⟩,⟨_,_,k,k,k⟩⟩ ⟨⟨_,k,k,.inl ⟨k,cP.plainO _⟩⟩,k,aR⟩ k k k ⟨⟨_,k,k,.inl ⟨k,cP.plainO _⟩⟩,k,aR⟩ k ⟨k,k,(by simp only [aO,lA,lT,lR,lC,lN]),k⟩ k ⟨k,cP.tame _ _,aR⟩ k k) ⟨k,k,aR⟩) k<|am k k<|lp k8<|am k k<|oB h λv36 hv36 h=>ae (AEff.pureE (kO (σ:=sg [(0,1)]) (σ':=sg [(1,0)]) (touch:=[1]) (news:=[]) (hl2:=[(1,⟨1,x5.1.map (ow eI)⟩)]) (n':=4) (r2:= .own 1 (0+(wr (x5.2*v1.cols)).toNat) ((wr ((wr (x5.2+1))*v1.cols)).toNat - (wr (x5.2*v1.cols)).toNat)) (iW (⟨v1.rows,v1.cols,x5.1⟩:Mt) x5.2 v36 hv36) k k ⟨_,_,k,⟨_,_,k,k,⟨_,_,k,k,⟨_,_,k,⟨k,k,k,k⟩,k⟩⟩⟩,⟨_,_,k,k,k⟩⟩ ⟨⟨_,k,k,.inl ⟨k,cP.plainO _⟩⟩,k,aR⟩ k k k ⟨⟨_,k,k,.inl ⟨k,cP.plainO _⟩⟩,k,aR⟩ k ⟨k,k,(by simp only [aO,lA,lT,lR,lC,lN]),k⟩ k ⟨k,cP.tame _ _,aR⟩ k k) ⟨k,k,aR⟩) k<|am k k<|cG h λq38 h=>oB h λv37 hv37 h=>ae (lH aD q38 k k k k k k k) k<|ae (cI aD k k k k (jW (hv37)) k k) k<|ae (iV k k) k<|am k k<|oB h λv39 hv39 h=>ae (kO (σ:=sg [(0,1)]) (σ':=sg [(1,0)]) (touch:=[1]) (news:=[]) (hl2:=[(1,⟨1,v39.map (ow eI)⟩)]) (n':=4) (r2:= .own 1 (0+(wr (x5.2*v1.cols)).toNat) ((wr ((wr (x5.2+1))*v1.cols)).toNat - (wr (x5.2*v1.cols)).toNat)) (aCP a0 x5.1 (0+(wr (x5.2*v1.cols)).toNat) ((wr ((wr (x5.2+1))*v1.cols)).toNat - (wr (x5.2*v1.cols)).toNat) (wr (a0 - v37)) (0+(wr (((x1.2.2.length:Nat):Int)*v1.cols)).toNat) ((wr ((wr (((x1.2.2.length:Nat):Int)+1))*v1.cols)).toNat - (wr (((x1.2.2.length:Nat):Int)*v1.cols)).toNat) v39 hv39) k k ⟨_,_,k,k,⟨_,_,k,⟨k,k,k,k⟩,⟨_,_,k,k,⟨_,_,k,⟨k,k,k,k⟩,k⟩⟩⟩⟩ ⟨⟨_,k,k,.inl ⟨k,cP.plainO _⟩⟩,k,aR⟩ k k k ⟨⟨_,k,k,.inl ⟨k,cP.plainO _⟩⟩,k,aR⟩ k ⟨k,k,(by simp only [aO,lA,lT,lR,lC,lN]),k⟩ k ⟨k,cP.tame _ _,aR⟩ k k) k<|cG h λq40 h=>an<|rC (by kernel_rfl)<|aV<|tn<|rg<|ae (bF k k) k<|am k k<|an<|tn<|sp h ⟨_,k,(bS (bK k2) (hX ⟨_,k,k,.inr ⟨_,_,k,⟨_,_,k,k,⟨_,_,k,k,⟨_,_,k,⟨k,k,(by simp only [aO,lA,lT,lR,lC,lN,of_decide_eq_true q40]),k⟩,k⟩⟩⟩,k⟩⟩ k<|bP k<|bN k<|bP k<|aR) k4)⟩
     ·rintro e t ⟨rfl,hent⟩;exact aL<|tn<|aP hent<|rg<|am k k<|am k k<|ae (wl k) k<|cG h λq42 h=>ae (vE aD (l:=x1.2.2) (m:=[x1.1]) jX q42 k k k k k k k k k k k k) k<|aa k k<|an<|aV<|tn<|rg<|ae (bF k k) k<|am k k<|an<|tn<|sp h ⟨_,k,(mX [0,1,2,5] (bK k2) (fF k<|bP k<|bN k<|bP k<|aR) k4)⟩
 ·rintro e t ⟨rfl,hent⟩;exact aL<|tn<|aP hent<|sR<|lp k8<|am k k<|ae (ws k) k<|aT k2<|aJ<|sp h (bT k k k (dC k (bW (gX (aH (k) (aH (k) (aH (eX cP k k) eH)))) (bW (yX (eX cP k k)) fH))))
def aBY (a0:Int) (a1:Mt):Option Int:=
 (zS a0 a1).bind λv1=>
 some (((v1.2.length:Nat):Int))
theorem aNY (a0:Int) (a1:Mt) (r:Int) (h:aBY a0 a1=some r):HasC Tryz.prog 171 [.int a0,.agg (eM a1)] (.int r):=by
 exact hM [.tmp 4] Tryz.func171 Tryz.ntmps171 k<|sR<|ae (wb k) k<|aT k2<|sR<|am k k<|lp k8<|oB h λv1 hv1 h=>ae (AEff.conv (pO (x:= .tuple [.agg [.int v1.1.rows,.int v1.1.cols,.own 1 0 (v1.1.cells.map eI).length],.own 2 0 (v1.2.map eI).length]) (nb:=[(1,⟨1,cN (v1.1.cells.map eI)⟩),(2,⟨1,cN (v1.2.map eI)⟩)]) (aKF a0 a1 v1 hv1) k (by rfl) k k (fV (bZ aR (bZ aR (bZ (cP.good _) tZ))) (fV (cP.good _) vH)) (dW k (aZ (lQ k) aS))) (v':= .tuple [.agg [.int v1.1.rows,.int v1.1.cols,.own 1 0 v1.1.cells.length],.own 2 0 v1.2.length]) (ed':=[(1,some ⟨1,v1.1.cells.map (ow eI)⟩),(2,some ⟨1,v1.2.map (ow eI)⟩)]) (by simp only [aO]) (vO (nb':=[(1,⟨1,v1.1.cells.map (ow eI)⟩),(2,⟨1,v1.2.map (ow eI)⟩)]) (by simp only [gA]))) k<|am k k<|ae (bD k k (by intro _ h;cases h)) k<|ae (bD k k (by intro _ h;cases h)) k<|ae (bX aD k k) k<|ae (ws k) k<|aT k2<|sR<|am k k<|ae (cA aD k k k k) k<|aT k2<|aJ<|rtI h k2
def cZ (a0:(List (List Int))) (x1:(Int×Int)):Option ((Int×Int) ⊕ Int):=
 bif decide (x1.2<(a0.length:Int)) then
 ((cO a0 x1.2).bind λv2=>
 bif decide (wr (x1.1+(v2.length:Int))<0) then
 (none)
 else
 (some (.inl (wr (x1.1+(v2.length:Int)),wr (x1.2+1)))))
 else
 (some (.inr x1.1))
def dA (a0:(List (List Int))) (x2:((List Int)×Int)):Option (((List Int)×Int) ⊕ (List Int)):=
 bif decide (x2.2<(a0.length:Int)) then
 ((cO a0 x2.2).bind λv7=>
 bif decide (x2.1.length+v7.length≤4294967296) then
 (some (.inl ((x2.1++v7),wr (x2.2+1))))
 else none)
 else
 (some (.inr x2.1))
def fL (a0:(List (List Int))):Option (List Int):=
 (Lp (cZ a0) (0,0)).bind λy4=>
 (aLt y4).bind λv5=>
 (Lp (dA a0) (v5,0)).bind λy9=>
 some (y9)
theorem vS (a0:(List (List Int))) (r:(List Int)) (h:fL a0=some r):HasC Tryz.prog 179 [.list 1 (a0.map (cH 1 eI))] (.list 1 (r.map eI)):=by
 refine hM [.tmp 2] Tryz.func179 Tryz.ntmps179 k<|sR<|aT k2<|sR<|aT k2<|sQ<|sR<|am k k<|ln k4<|am k k<|an<|tn<|aE<|oB h λy4 hy4 h=>cC (body:=(cZ a0)) hy4 (λ(x1:(Int×Int))=>mN [(0,.list 1 (a0.map (cH 1 eI))),(3,.int x1.1),(9,.list 1 (a0.map (cH 1 eI))),(10,.int (a0.length:Int)),(11,.int x1.2)] [] 0) (λr e t=>e= .exit 0∧Ent t (mN [(0,.list 1 (a0.map (cH 1 eI))),(3,.int r)] [] 0)) (bS (bK k2) aR k4) ?_ ?_
 ·intro x1 o h;refine sR<|cm k4<|an<|tn<|sQ<|dR k h (λ_ h=>?_) λ_ h=>aU<|aB<|aB<|sp h ⟨_,k,k,(bS (bK k2) aR k4)⟩;refine aG<|tn<|sQ<|aE<|sR<|oB h λv2 hv2 h=>ae (xl hv2 k) k<|lr k7<|aT k2<|sR<|am k k<|am k k<|ln k4<|ae (bF k k) k<|aT k2<|sR<|am k k<|cm k4<|an<|tn<|dR k h (λ_ h=>?_) λ_ h=>aG<|aV<|tn<|rg<|ae (bF k k) k<|am k k<|an<|tn<|sp h ⟨_,k,(bS (bK k2) aR k4)⟩;refine rg ?_;cases h
 ·rintro e t ⟨rfl,hent⟩;refine aL<|tn<|aP hent<|sR<|am k k<|oB h λv5 hv5 h=>ae (cL cP (aWI y4 v5 hv5) k3 (aZ aUq (dW k aS))) k<|aT k2<|sQ<|sR<|am k k<|ln k4<|am k k<|an<|tn<|aE<|oB h λy9 hy9 h=>cC (body:=(dA a0)) hy9 (λ(x2:((List Int)×Int))=>mN [(6,.own 0 0 x2.1.length),(25,.list 1 (a0.map (cH 1 eI))),(26,.int (a0.length:Int)),(27,.int x2.2)] [(0,⟨1,x2.1.map (ow eI)⟩)] 1) (λr e t=>e= .exit 2∧Ent t (mN [(6,.own 0 0 r.length)] [(0,⟨1,r.map (ow eI)⟩)] 1)) (bS (bK k2) (bP k<|aR) k4) ?_ ?_
  ·intro x2 o h;exact sR<|cm k4<|an<|tn<|sQ<|dR k h (λ_ h=>aG<|tn<|sQ<|aE<|sR<|oB h λv7 hv7 h=>ae (xl hv7 k) k<|lr k7<|aT k2<|rg<|am k k<|am k k<|cG h λq8 h=>ae (vE aD (l:=x2.1) (m:=v7) jX q8 k k k k k k k k k k k k) k<|aa k k<|an<|aV<|tn<|rg<|ae (bF k k) k<|am k k<|an<|tn<|sp h ⟨_,k,(mX [1] (bK k2) (bP k<|aR) k4)⟩) λ_ h=>aU<|aB<|aB<|sp h ⟨_,k,k,(bS (bK k2) (bP k<|aR) k4)⟩
  ·rintro e t ⟨rfl,hent⟩;exact aL<|tn<|aP hent<|sR<|am k k<|aT k2<|aJ<|sp h (bT k k k (mI (eX cP k k)))
end
noncomputable section
set_option maxRecDepth 10000
set_option maxHeartbeats 4000000
def vT (a0:(List Int)) (a1:Int):Option Int:=
 bif decide (wr (a1 - (a0.length:Int))<0) then
 (some ((-1)))
 else
 (some (wr (a1 - (a0.length:Int))))
theorem aEY (a0:(List Int)) (a1:Int) (r:Int) (h:vT a0 a1=some r):HasC Tryz.prog 31 [.list 1 (a0.map eI),.int a1] (.int r):=by
 exact hM [.tmp 4] Tryz.func31 Tryz.ntmps31 k<|sR<|aT k2<|sR<|am k k<|am k k<|ln k4<|ae (iV k k) k<|aT k2<|sQ<|sR<|am k k<|cm k4<|an<|tn<|dR k h (λ_ h=>sR<|aT k2<|aJ<|aI<|rtI h k2) λ_ h=>aG<|tn<|sR<|am k k<|aT k2<|aJ<|rtI h k2
def aAM (a0:Qv) (a1:Int):Option Int:=
 (vT a0.src a1).bind λv1=>
 bif decide (v1<0) then
 (some ((-1)))
 else
 ((vT a0.tgt v1).bind λv3=>
 bif decide (v3<0) then
 (some ((-1)))
 else
 (some (v3)))
theorem aHm (a0:Qv) (a1:Int) (r:Int) (h:aAM a0 a1=some r):HasC Tryz.prog 7 [.agg (eQ a0),.int a1] (.int r):=by
 exact hM [.tmp 4] Tryz.func7 Tryz.ntmps7 k<|sR<|ae (wb k) k<|aT k2<|sR<|fp k8<|lp k8<|am k k<|oB h λv1 hv1 h=>ae (bC (aEY a0.src a1 v1 hv1) k (dW k (dW k aS))) k<|aT k2<|sQ<|sR<|am k k<|cm k4<|an<|tn<|dR k h (λ_ h=>sR<|aT k2<|aJ<|aI<|rtI h k2) λ_ h=>aG<|tn<|sR<|fp k8<|lp k8<|am k k<|oB h λv3 hv3 h=>ae (bC (aEY a0.tgt v1 v3 hv3) k (dW k (dW k aS))) k<|aT k2<|sQ<|sR<|am k k<|cm k4<|an<|tn<|dR k h (λ_ h=>sR<|aT k2<|aJ<|aI<|rtI h k2) λ_ h=>aG<|tn<|sR<|am k k<|aT k2<|aJ<|rtI h k2
def uQ (a0:(List Int)) (x1:((List Int)×Int)):Option (((List Int)×Int) ⊕ (List Int)):=
 bif decide (x1.2<(a0.length:Int)) then
 ((cO a0 x1.2).bind λv2=>
 (cO x1.1 x1.2).bind λv3=>
 some (.inl ((x1.1.set x1.2.toNat v2),wr (x1.2+1))))
 else
 (some (.inr x1.1))
def kG (a0:(List Int)):Option (List Int):=
 bif (decide (0≤(a0.length:Int))&&decide ((a0.length:Int)≤1048576)) then
 ((Lp (uQ a0) ((List.replicate ((a0.length:Int).toNat) (0:Int)),0)).bind λy4=>
 some (y4))
 else none
theorem sU (a0:(List Int)) (r:(List Int)) (h:kG a0=some r):HasC Tryz.prog 10 [.list 1 (a0.map eI)] (.list 1 (r.map eI)):=by
 refine hM [.tmp 2] Tryz.func10 Tryz.ntmps10 k<|sR<|aT k2<|sR<|am k k<|ln k4<|cG h λq5 h=>ae (rJ aD q5 k k k k k k k k) k<|aT k2<|aP (t:=mN [(0,.list 1 (a0.map eI)),(3,.own 0 0 ((List.replicate ((a0.length:Int).toNat) (0:Int)).length))] [(0,⟨1,List.map (ow eI) (List.replicate ((a0.length:Int).toNat) (0:Int))⟩)] 1) (bS (mG 1 k2 (jJ ⟨_,k,⟨k,k,(by simp only [aO,lA,lT,lR,lC,lN]),k⟩⟩ aR)) (hX ⟨_,k,k,.inl ⟨xH (e:=eI) (z:=0) _,cP.plainO _⟩⟩ k<|aR) k4)<|sQ<|sR<|aT k2<|aE<|oB h λy4 hy4 h=>cC (body:=(uQ a0)) hy4 (λ(x1:((List Int)×Int))=>mN [(0,.list 1 (a0.map eI)),(3,.own 0 0 x1.1.length),(4,.int x1.2)] [(0,⟨1,x1.1.map (ow eI)⟩)] 1) (λr e t=>e= .exit 0∧Ent t (mN [(3,.own 0 0 r.length)] [(0,⟨1,r.map (ow eI)⟩)] 1)) (bS (bK k2) (bP k<|aR) k4) ?_ ?_
 ·intro x1 o h;exact sQ<|sR<|am k k<|am k k<|ln k4<|cm k4<|an<|tn<|dR k h (λ_ h=>aG<|tn<|sQ<|aE<|rg<|am k k<|am k k<|am k k<|am k k<|oB h λv2 hv2 h=>ae (xl hv2 k) k<|lr k7<|oB h λv3 hv3 h=>ae (xo hv3 k) k<|ae (fA aD jX (u:=v2) (dB hv3) k k k k k k) k<|an<|aV<|tn<|rg<|am k k<|ae (bF k k) k<|aT k2<|sp h ⟨_,k,(bS (mG 1 k2 (jJ ⟨_,k,⟨k,k,(by simp only [aO,lA,lT,lR,lC,lN]),k⟩⟩ (bK k2))) (bP k<|aR) k4)⟩) λ_ h=>aU<|aB<|aB<|sp h ⟨_,k,k,(bS (bK k2) (bP k<|aR) k4)⟩
 ·rintro e t ⟨rfl,hent⟩;exact aL<|tn<|aP hent<|sR<|am k k<|aT k2<|aJ<|sp h (bT k k k (mI (eX cP k k)))
def lS (a0:Qv):Option Qv:=
 (kG a0.src).bind λv1=>
 (kG a0.tgt).bind λv2=>
 some ((⟨a0.n,v1,v2⟩:Qv))
theorem wR (a0:Qv) (r:Qv) (h:lS a0=some r):HasC Tryz.prog 9 [.agg (eQ a0)] (.agg (eQ r)):=by
 refine hM [.cell 2 26] Tryz.func9 Tryz.ntmps9 k<|sR<|ae (wb k) k<|ae (bX aD k k) k<|an<|tn<|sR<|ae (bX aD k k) k<|an<|tn<|sR<|fp k8<|lp k8<|fp k8<|ae (ws k) k<|an<|tn<|sR<|fp k8<|lp k8<|oB h λv1 hv1 h=>ae (cL cP (sU a0.src v1 hv1) k3 (dW k aS)) k<|fp k8<|ae (ws k) k<|an<|tn<|sQ ?_;exact rg<|fp k8<|lp k8<|oB h λv2 hv2 h=>ae (cL cP (sU a0.tgt v2 hv2) k3 (dW k aS)) k<|fp k8<|ae (ws k) k<|an<|tn<|sR<|lp k8<|ae (ws k) k<|an<|tn<|aJ<|sp h (bT k k k (pH (aH (k) (aH (eX cP k k) (aH (eX cP k k) eH)))))
def zG (a0:(List Int)) (a1:(List Int)) (x1:Int):Option (Int ⊕ (Unit ⊕ Bool)):=
 bif decide (x1<(a0.length:Int)) then
 ((cO a0 x1).bind λv3=>
 (cO a1 x1).bind λv4=>
 bif !decide (v3=v4) then
 (some (.inr (.inr (false))))
 else
 (some (.inl (wr (x1+1)))))
 else
 (some (.inr (.inl ())))
def pJ (a0:(List Int)) (a1:(List Int)):Option Bool:=
 bif !decide ((a0.length:Int)=(a1.length:Int)) then
 (some (false))
 else
 ((Lp (zG a0 a1) 0).bind λy6=>
 Sum.elim (λy7=>
 some (true)
 )
 (λy8=>
 some y8
 )
 y6)
theorem vU (a0:(List Int)) (a1:(List Int)) (r:Bool) (h:pJ a0 a1=some r):HasC Tryz.prog 14 [.list 1 (a0.map eI),.list 1 (a1.map eI)] (.bl r):=by
 refine hM [.tmp 4] Tryz.func14 Tryz.ntmps14 k<|sR<|aT k2<|sQ<|sR<|am k k<|ln k4<|am k k<|ln k4<|cm k4<|an<|tn<|dR k h (λ_ h=>sR<|aT k2<|aJ<|aI<|kK h k2) λ_ h=>?_;refine aG<|tn<|sQ<|sR<|aT k2<|aE<|oB h λy6 hy6 h=>cC (body:=(zG a0 a1)) hy6 (λ(x1:Int)=>mN [(0,.list 1 (a0.map eI)),(1,.list 1 (a1.map eI)),(5,.int x1)] [] 0) (λr e t=>Sum.elim (λa=>(λr e t=>e= .exit 0∧Ent t (mN [] [] 0)) a e t) (λb=>(λr e t=>e= .ret∧tW TT [.tmp 4] (.bl r) .ret t) b e t) r) (bS (bK k2) aR k4) ?_ ?_
 ·intro x1 o h;exact sQ<|sR<|am k k<|am k k<|ln k4<|cm k4<|an<|tn<|dR k h (λ_ h=>aG<|tn<|sQ<|aE<|sQ<|aN gD<|am k k<|am k k<|oB h λv3 hv3 h=>ae (xl hv3 k) k<|lr k7<|am k k<|am k k<|oB h λv4 hv4 h=>ae (xl hv4 k) k<|lr k7<|cm k4<|an<|rC (by kernel_rfl)<|tn<|dR k h (λ_ h=>sR<|aT k2<|aJ<|bH<|aI<|aI<|sp h ⟨_,k,k,bT k k k (xT k)⟩) λ_ h=>aG<|aV<|tn<|rg<|am k k<|ae (bF k k) k<|aT k2<|sp h ⟨_,k,(bS (bK k2) aR k4)⟩) λ_ h=>aU<|aB<|aB<|sp h ⟨_,k,k,(bS aR aR k4)⟩
 ·intro e t hX;rcases y6 with y7|y8
  ·obtain ⟨rfl,hent⟩:=hX;exact aL<|tn<|aP hent<|sR<|aT k2<|aJ<|kK h k2
  ·obtain ⟨rfl,hent⟩:=hX;exact bH<|aI<|sp h hent
def sH (a0:Qv) (a1:Qv):Option Bool:=
 bif !decide (a0.n=a1.n) then
 (some (false))
 else
 ((pJ a0.src a1.src).bind λv2=>
 bif !v2 then
 (some (false))
 else
 ((pJ a0.tgt a1.tgt).bind λv4=>
 bif !v4 then
 (some (false))
 else
 (some (true))))
theorem aDB (a0:Qv) (a1:Qv) (r:Bool) (h:sH a0 a1=some r):HasC Tryz.prog 13 [.agg (eQ a0),.agg (eQ a1)] (.bl r):=by
 exact hM [.tmp 4] Tryz.func13 Tryz.ntmps13 k<|sR<|ae (wb k) k<|ae (wb k) k<|aT k2<|sQ<|sR<|fp k8<|lp k8<|fp k8<|lp k8<|cm k4<|an<|tn<|dR k h (λ_ h=>sR<|aT k2<|aJ<|aI<|kK h k2) λ_ h=>aG<|tn<|sQ<|sR<|fp k8<|lp k8<|fp k8<|lp k8<|oB h λv2 hv2 h=>ae (bC (vU a0.src a1.src v2 hv2) k (dW k (dW k aS))) k<|ae (dL k) k<|an<|tn<|dR k h (λ_ h=>sR<|aT k2<|aJ<|aI<|kK h k2) λ_ h=>aG<|tn<|sQ<|sR<|fp k8<|lp k8<|fp k8<|lp k8<|oB h λv4 hv4 h=>ae (bC (vU a0.tgt a1.tgt v4 hv4) k (dW k (dW k aS))) k<|ae (dL k) k<|an<|tn<|dR k h (λ_ h=>sR<|aT k2<|aJ<|aI<|kK h k2) λ_ h=>aG<|tn<|sR<|aT k2<|aJ<|kK h k2
def wS (a0:Mt) (a1:Mt):Option Bool:=
 bif !decide (a0.rows=a1.rows) then
 (some (false))
 else
 (bif !decide (a0.cols=a1.cols) then
 (some (false))
 else
 ((pJ a0.cells a1.cells).bind λv3=>
 bif !v3 then
 (some (false))
 else
 (some (true))))
theorem aHn (a0:Mt) (a1:Mt) (r:Bool) (h:wS a0 a1=some r):HasC Tryz.prog 85 [.agg (eM a0),.agg (eM a1)] (.bl r):=by
 exact hM [.tmp 4] Tryz.func85 Tryz.ntmps85 k<|sR<|ae (wb k) k<|ae (wb k) k<|aT k2<|sQ<|sR<|fp k8<|lp k8<|fp k8<|lp k8<|cm k4<|an<|tn<|dR k h (λ_ h=>sR<|aT k2<|aJ<|aI<|kK h k2) λ_ h=>aG<|tn<|sQ<|sR<|fp k8<|lp k8<|fp k8<|lp k8<|cm k4<|an<|tn<|dR k h (λ_ h=>sR<|aT k2<|aJ<|aI<|kK h k2) λ_ h=>aG<|tn<|sQ<|sR<|fp k8<|lp k8<|fp k8<|lp k8<|oB h λv3 hv3 h=>ae (bC (vU a0.cells a1.cells v3 hv3) k (dW k (dW k aS))) k<|ae (dL k) k<|an<|tn<|dR k h (λ_ h=>sR<|aT k2<|aJ<|aI<|kK h k2) λ_ h=>aG<|tn<|sR<|aT k2<|aJ<|kK h k2
def pR (a0:(List Mt)) (a1:(List Mt)) (x1:Int):Option (Int ⊕ (Unit ⊕ Bool)):=
 bif decide (x1<(a0.length:Int)) then
 ((cO a0 x1).bind λv3=>
 (cO a1 x1).bind λv4=>
 (wS v3 v4).bind λv5=>
 bif !v5 then
 (some (.inr (.inr (false))))
 else
 (some (.inl (wr (x1+1)))))
 else
 (some (.inr (.inl ())))
def uR (a0:(List Mt)) (a1:(List Mt)):Option Bool:=
 bif !decide ((a0.length:Int)=(a1.length:Int)) then
 (some (false))
 else
 ((Lp (pR a0 a1) 0).bind λy7=>
 Sum.elim (λy8=>
 some (true)
 )
 (λy9=>
 some y9
 )
 y7)
theorem aGg (a0:(List Mt)) (a1:(List Mt)) (r:Bool) (h:uR a0 a1=some r):HasC Tryz.prog 40 [.list 3 (a0.map eM),.list 3 (a1.map eM)] (.bl r):=by
 refine hM [.tmp 4] Tryz.func40 Tryz.ntmps40 k<|sR<|aT k2<|sQ<|sR<|am k k<|ln k4<|am k k<|ln k4<|cm k4<|an<|tn<|dR k h (λ_ h=>sR<|aT k2<|aJ<|aI<|kK h k2) λ_ h=>?_;refine aG<|tn<|sQ<|sR<|aT k2<|aE<|oB h λy7 hy7 h=>cC (body:=(pR a0 a1)) hy7 (λ(x1:Int)=>mN [(0,.list 3 (a0.map eM)),(1,.list 3 (a1.map eM)),(5,.int x1)] [] 0) (λr e t=>Sum.elim (λa=>(λr e t=>e= .exit 0∧Ent t (mN [] [] 0)) a e t) (λb=>(λr e t=>e= .ret∧tW TT [.tmp 4] (.bl r) .ret t) b e t) r) (bS (bK k2) aR k4) ?_ ?_
 ·intro x1 o h;exact sQ<|sR<|am k k<|am k k<|ln k4<|cm k4<|an<|tn<|dR k h (λ_ h=>aG<|tn<|sQ<|aE<|sQ<|aN gD<|am k k<|am k k<|oB h λv3 hv3 h=>ae (xl hv3 k) k<|lr k7<|am k k<|am k k<|oB h λv4 hv4 h=>ae (xl hv4 k) k<|lr k7<|oB h λv5 hv5 h=>ae (bC (aHn v3 v4 v5 hv5) k (aZ (lQ k) (aZ (lQ k) aS))) k<|ae (dL k) k<|an<|rC (by kernel_rfl)<|tn<|dR k h (λ_ h=>sR<|aT k2<|aJ<|bH<|aI<|aI<|sp h ⟨_,k,k,bT k k k (xT k)⟩) λ_ h=>aG<|aV<|tn<|rg<|am k k<|ae (bF k k) k<|aT k2<|sp h ⟨_,k,(bS (bK k2) aR k4)⟩) λ_ h=>aU<|aB<|aB<|sp h ⟨_,k,k,(bS aR aR k4)⟩
 ·intro e t hX;rcases y7 with y8|y9
  ·obtain ⟨rfl,hent⟩:=hX;exact aL<|tn<|aP hent<|sR<|aT k2<|aJ<|kK h k2
  ·obtain ⟨rfl,hent⟩:=hX;exact bH<|aI<|sp h hent
def uS (a0:Rp) (a1:Rp):Option Bool:=
 bif !decide (a0.p=a1.p) then
 (some (false))
 else
 ((sH a0.q a1.q).bind λv2=>
 bif !v2 then
 (some (false))
 else
 ((pJ a0.dims a1.dims).bind λv4=>
 bif !v4 then
 (some (false))
 else
 ((uR a0.maps a1.maps).bind λv6=>
 bif !v6 then
 (some (false))
 else
 (some (true)))))
theorem aCm (a0:Rp) (a1:Rp) (r:Bool) (h:uS a0 a1=some r):HasC Tryz.prog 12 [.agg (eR a0),.agg (eR a1)] (.bl r):=by
 exact hM [.tmp 4] Tryz.func12 Tryz.ntmps12 k<|sR<|ae (wb k) k<|ae (wb k) k<|aT k2<|sQ<|sR<|fp k8<|lp k8<|fp k8<|lp k8<|cm k4<|an<|tn<|dR k h (λ_ h=>sR<|aT k2<|aJ<|aI<|kK h k2) λ_ h=>aG<|tn<|sQ<|sR<|fp k8<|lp k8<|fp k8<|lp k8<|oB h λv2 hv2 h=>ae (bC (aDB a0.q a1.q v2 hv2) k (aZ (lQ k) (aZ (lQ k) aS))) k<|ae (dL k) k<|an<|tn<|dR k h (λ_ h=>sR<|aT k2<|aJ<|aI<|kK h k2) λ_ h=>aG<|tn<|sQ<|sR<|fp k8<|lp k8<|fp k8<|lp k8<|oB h λv4 hv4 h=>ae (bC (vU a0.dims a1.dims v4 hv4) k (dW k (dW k aS))) k<|ae (dL k) k<|an<|tn<|dR k h (λ_ h=>sR<|aT k2<|aJ<|aI<|kK h k2) λ_ h=>aG<|tn<|sQ<|sR<|fp k8<|lp k8<|fp k8<|lp k8<|oB h λv6 hv6 h=>ae (bC (aGg a0.maps a1.maps v6 hv6) k (dW k (dW k aS))) k<|ae (dL k) k<|an<|tn<|aP (t:=mN [(27,.bl (!v6))] [] 2) (bS (bK k2) aR k4)<|dR k h (λ_ h=>sR<|aT k2<|aJ<|aI<|kK h k2) λ_ h=>aG<|tn<|sR<|aT k2<|aJ<|kK h k2
end
noncomputable section
def zI (n:Nat) (left:Int):Int:=if left - n<0 then -1 else left - n
def zC:List (Int→Int)→Int→Int
 | [],left=>left
 |f::fs,left=>if f left<0 then -1 else zC fs (f left)
def zQ (q:Qv):Int→Int:=zC [zI q.src.length,zI q.tgt.length]
def aJB (f:Int→Int) (b:Prop):Prop:= ∀ left,0≤left→left≤1048576→f left= -1∨(0≤f left∧f left≤left∧b)
theorem aIG (n:Nat):aJB (zI n) (n≤1048576):=by
 intro left h0 h1;unfold zI;by_cases h:left - n<0
 ·rw [aY h];exact .inl rfl
 ·rw [aW h];exact .inr ⟨by omega,by omega,by omega⟩
theorem aRY:aJB (zC []) True:=λleft h0 _=> .inr ⟨h0,Int.le_refl _,trivial⟩
theorem aJC {f:Int→Int} {fs:List (Int→Int)} {b bs:Prop} (h:aJB f b) (k:aJB (zC fs) bs):aJB (zC (f::fs)) (b∧bs):=by
 intro left h0 h1;unfold zC;rcases h left h0 h1 with e|⟨e1,e2,e3⟩
 ·rw [e,aY (by decide)];exact .inl rfl
 ·rw [aW (by omega)];rcases k (f left) e1 (by omega) with g|⟨g1,g2,g3⟩
  ·exact .inl g
  ·exact .inr ⟨g1,by omega,e3,g3⟩
def bI (l:List Int):Prop:=l.length≤1048576
def bQ (q:Qv):Prop:=bI q.src∧bI q.tgt∧True
def bM (m:Mt):Prop:=bI m.cells∧True
def bR (r:Rp):Prop:=bQ r.q∧bI r.dims∧(r.maps.length≤1048576∧ ∀ m∈r.maps,bM m)∧True
theorem aUt (q:Qv):aJB (zQ q) (bQ q):=aJC (aIG _) (aJC (aIG _) aRY)
def fI {α:Type} (l:List α):Prop:=l.length≤9223372036854775807
theorem aQU {o:Option Int} {z:Int→Int} {zs:List (Int→Int)} {b:Prop} {left:Int} {k:Int→Option Int} (ho:o=some (z left)) (hf:aJB z b) (h0:0≤left) (h1:left≤1048576) (hk: ∀ v,0≤v→v≤1048576→k v=some (zC zs v)):
  Option.bind o (λv=>bif decide (v<0) then some (-1) else k v)=some (zC (z::zs) left):=by
 rw [ho,aC];unfold zC;rcases hf left h0 h1 with e|⟨e1,e2,_⟩
 ·rw [e];rfl
 ·rw [aW (by omega),eB (by omega: ¬ z left<0),aX];exact hk _ e1 (by omega)
theorem aXW {l:List Int} {left:Int} (hl:fI l) (h0:0≤left) (h1:left≤1048576):vT l left=some (zI l.length left):=by
 unfold fI at hl;unfold vT zI;rw [aIk (by omega)];by_cases h:left - l.length<0
 ·rw [bG h,aY h];rfl
 ·rw [eB h,aW h];rfl
def fQ (q:Qv):Prop:=fI q.src∧fI q.tgt
theorem aYM {q:Qv} {left:Int} (hl:fQ q) (h0:0≤left) (h1:left≤1048576):aAM q left=some (zQ q left):=
 aQU (aXW hl.1 h0 h1) (aIG _) h0 h1 λv g0 g1=>aQU (aXW hl.2 g0 g1) (aIG _) g0 g1 λv _ _=>rfl
theorem aRZ {α:Type} {body:List α×Int→Option ((List α×Int) ⊕ List α)} {l:List α} (z:α) (hl:l.length≤4611686018427387904)
  (hs: ∀ (k:Nat) (hk:k<l.length) (r:List α),r.length=l.length→body (r,k)=some (.inl (r.set k l[k],wr (k+1)))) (he: ∀ r,body (r,l.length)=some (.inr r)):Lp body (List.replicate ((l.length:Int).toNat) z,0)=some l:=by
 refine aSl (λk=>(l.take k++List.replicate (l.length - k) z,(k:Int))) l.length (by simp) (λk hk=>?_) ?_
 ·rw [hs k hk _ (by simp;omega),bU hk hl];congr 3;rw [show l.length - k=(l.length - (k+1))+1 by omega,List.replicate_succ,List.set_append_right _ _ (by simp;omega)];rw [aBy hk,List.length_take,Nat.min_eq_left (Nat.le_of_lt hk),Nat.sub_self,List.set_cons_zero,List.append_assoc];rfl
 ·rw [he];simp
theorem aWK {l:List Int} (h:bI l):kG l=some l:=by
 unfold bI at h;unfold kG;rw [bG (by omega),bG (by omega:(l.length:Int)≤1048576),Bool.and_self,aM];rw [aRZ 0 (by omega) (λk hk r hr=>?_) (λr=>?_)];rfl
 ·unfold uQ;simp only;rw [iE hk,aM,dJ hk,aC,dJ (hr▸hk),aC,dH]
 ·unfold uQ;simp only;rw [iT (bO _),aX]
theorem aYN {q:Qv} (h:bQ q):lS q=some q:=by
 unfold lS;rw [aWK h.1,aC,aWK h.2.1,aC]
theorem aNZ {α:Type} [DecidableEq α] {body:Int→Option (Int ⊕ (Unit ⊕ Bool))} {a b:List α} (hl:a.length≤4611686018427387904) (hab:a.length=b.length)
  (hs: ∀ (k:Nat) (h1:k<a.length) (h2:k<b.length),body k=some (bif decide (a[k]=b[k]) then .inl (wr (k+1)) else .inr (.inr false))) (he:body a.length=some (.inr (.inl ()))):
  Option.bind (Lp body 0) (λy=>Sum.elim (λ_=>some true) (λy=>some y) y)=some (decide (a=b)):=by
 have key: ∀ (P:Nat→Bool),(∀ (k:Nat) (h1:k<a.length) (h2:k<b.length),P k=decide (a[k]=b[k]))→Lp body 0=some (bif (List.range a.length).all P then .inl () else .inr false)→Option.bind (Lp body 0) (λy=>Sum.elim (λ_=>some true) (λy=>some y) y)=some (decide (a=b)):=by
  intro P hP e;rw [e,aC]
  have:(List.range a.length).all P=decide (a=b):=by
   rw [Bool.eq_iff_iff,yV,iD];constructor
   ·intro h;refine List.ext_getElem hab λk h1 h2=>?_;have:=h k h1;rw [hP k h1 h2] at this;exact of_decide_eq_true this
   ·rintro rfl k hk;rw [hP k hk hk];simp
  rw [this];cases decide (a=b) <;> rfl
 refine key (λk=>if h:k<a.length then if h2:k<b.length then decide (a[k]=b[k]) else false else false) (λk h1 h2=>by rw [dif_pos h1,dif_pos h2]) (aEm _ _ hl (λk hk=>?_) (λ_=>he));rw [dif_pos hk,dif_pos (hab▸hk)];exact hs k hk (hab▸hk)
theorem aNa {α β:Type} {a:List α} {b:List β} :decide ((a.length:Int)=(b.length:Int))=decide (a.length=b.length):=by
 rw [Bool.eq_iff_iff,iD,iD];omega
theorem aLz {body:Int→Option (Int ⊕ (Unit ⊕ Bool))} {a b:List Int} (hl:a.length≤4611686018427387904)
  (hb:body=λx=>bif decide (x<(a.length:Int)) then (Option.bind (cO a x) λv3=>Option.bind (cO b x) λv4=>bif !decide (v3=v4) then (some (.inr (.inr (false)))) else (some (.inl (wr (x+1))))) else (some (.inr (.inl ())))):
  (bif !decide ((a.length:Int)=(b.length:Int)) then some false else Option.bind (Lp body 0) (λy=>Sum.elim (λ_=>some true) (λy=>some y) y))=some (decide (a=b)):=by
 rw [aNa];by_cases h:a.length=b.length
 ·rw [bG h,gO,aX];refine aNZ hl h (λk h1 h2=>?_) ?_
  ·rw [hb];simp only;rw [iE h1,aM,dJ h1,aC,dJ h2,aC];cases decide (a[k]=b[k]) <;> rfl
  ·rw [hb];simp only;rw [iT (bO _),aX]
 ·rw [eB h,Bool.not_false,aM,eB (by rintro rfl;exact h rfl)]
theorem nG {c d:Bool} {o:Option Bool} (h:c=true→o=some d):(bif !c then some false else o)=some (c&&d):=by cases c with|false=>rfl|true=>exact h rfl
theorem aTI {a b:List Int} (h:bI a):pJ a b=some (decide (a=b)):=by
 unfold bI at h;exact aLz (body:=zG a b) (by omega) rfl
theorem aMA {d:Bool} :(bif !d then some false else some true)=some d:=by cases d <;> rfl
theorem aXX {a b:Qv} (h:bQ a):sH a b=some (decide (a=b)):=by
 unfold sH;rw [nG (d:=decide (a.src=b.src)&&decide (a.tgt=b.tgt)) (λ_=>?_)]
 ·cases a;cases b;simp [Bool.and_assoc]
 ·rw [aTI h.1,aC];refine nG λ_=>?_;rw [aTI h.2.1,aC,aMA]
theorem aYO {a b:Mt} (h:bM a):wS a b=some (decide (a=b)):=by
 unfold wS;rw [nG (d:=decide (a.cols=b.cols)&&decide (a.cells=b.cells)) (λ_=>?_)]
 ·cases a;cases b;simp [Bool.and_assoc]
 ·refine nG λ_=>?_;rw [aTI h.1,aC,aMA]
theorem aXY {a b:List Mt} (h:a.length≤1048576∧ ∀ m∈a,bM m):uR a b=some (decide (a=b)):=by
 obtain ⟨h,hb⟩:=h;unfold uR;rw [aNa];by_cases e:a.length=b.length
 ·rw [bG e,gO,aX];refine aNZ (by omega) e (λk h1 h2=>?_) ?_
  ·unfold pR;rw [iE h1,aM,dJ h1,aC,dJ h2,aC,aYO (hb _ (List.getElem_mem h1)),aC];cases decide (a[k]=b[k]) <;> rfl
  ·unfold pR;rw [iT (bO _),aX]
 ·rw [eB e,Bool.not_false,aM,eB (by rintro rfl;exact e rfl)]
theorem aYP {a b:Rp} (h:bR a):uS a b=some (decide (a=b)):=by
 unfold uS;rw [nG (d:=decide (a.q=b.q)&&(decide (a.dims=b.dims)&&decide (a.maps=b.maps))) (λ_=>?_)]
 ·cases a;cases b;simp [Bool.and_assoc]
 ·rw [aXX h.1,aC];refine nG λ_=>?_;rw [aTI h.2.1,aC];refine nG λ_=>?_;rw [aXY h.2.2.1,aC,aMA]
end
noncomputable section
open Go.ChangeShapes Go.WideShapes Go.ChangeAt Go.RowKit
theorem oI:aCz Tryz.prog 3 (aDC 1 eI):=aPH Tryz.underlying3
theorem oL:aCz Tryz.prog 22 (aDC 1 eL):=aLr Tryz.underlying22 (by decide) (by kernel_rfl) oI
theorem oQ:aCz Tryz.prog 24 (aDC 3 eQ):=by
 intro H enc w fuel cs d ps h hf;obtain ⟨x0,T0,u0⟩:=aGb Tryz.underlying24 h hf aSx (i:=0) (ft:=3) rfl (k:=1) (by kernel_rfl) oI;obtain ⟨x1,T1,u1⟩:=aGb Tryz.underlying24 h hf u0 (i:=1) (ft:=22) rfl (k:=1) (by kernel_rfl) oL;obtain ⟨x2,T2,u2⟩:=aGb Tryz.underlying24 h hf u1 (i:=2) (ft:=22) rfl (k:=1) (by kernel_rfl) oL;exact ⟨⟨x0,x1,x2⟩,_,aSy Tryz.underlying24 h hf u2 (by kernel_rfl) _ rfl⟩
end
noncomputable section
theorem aQV {w:World} : ∀ {ds:List AV} {vs:List Value} {S:List Nat},RepVs w ds vs S→ ∀ d∈ds,∃ v S',RepD w d v S'
 | [],_,_,_,d,hd=>by cases hd
 |c::cs,vs,S,h,d,hd=>by
  simp only [RepVs] at h;obtain ⟨v,r,S1,S2,_,_,h3,h4⟩:=h;rcases eC.1 hd with rfl|h'
  ·exact ⟨v,S1,h3⟩
  ·exact aQV h4 d h'
theorem aQW {w:World} {b:Nat} : ∀ {ds:List AV} {o:Nat} {S:List Nat},RepCs w b o ds S→ ∀ d∈ds,∃ v S',RepD w d v S'
 | [],_,_,_,d,hd=>by cases hd
 |c::cs,o,S,h,d,hd=>by
  simp only [RepCs] at h;obtain ⟨v,S1,S2,_,_,_,_,h3,h4⟩:=h;rcases eC.1 hd with rfl|h'
  ·exact ⟨v,S1,h3⟩
  ·exact aQW h4 d h'
theorem aQX {w:World} {k b:Nat} : ∀ {es:List (List AV)} {o:Nat} {S:List Nat},RepEs w k b o es S→ ∀ cs∈es,∀ d∈cs,∃ v S',RepD w d v S'
 | [],_,_,_,cs,hc=>by cases hc
 |c::es,o,S,h,cs,hc=>by
  simp only [RepEs] at h;obtain ⟨S1,S2,_,_,h3,h4⟩:=h;rcases eC.1 hc with rfl|h'
  ·exact aQW h3
  ·exact aQX h4 cs h'
theorem aUu {w:World} {k:Nat} {es:List (List AV)} {v:Value} {S:List Nat} (h:RepD w (.list k es) v S):es.length≤9223372036854775807∧ ∀ cs∈es,∀ d∈cs,∃ v S',RepD w d v S':=by
 unfold RepD at h;obtain ⟨a,c,_,h2,h3,h4⟩:=h;have hm:maxLen≤9223372036854775807:=by decide
 refine ⟨by omega,?_⟩;rcases h4 with ⟨rfl,_⟩|⟨b,o,T,_,_,_,h5⟩
 ·intro cs hcs;cases hcs
 ·exact aQX h5
theorem aVo {w:World} {l:List Int} {v:Value} {S:List Nat} (h:RepD w (aLl l) v S):fI l:=by
 have:=(aUu (k:=1) (es:=List.map eI l) h).1
 rwa [fD] at this
theorem aTJ {w:World} {ds:List AV} (h: ∀ d∈ds,∃ v S',RepD w d v S') {l:List Int} (hl:aLl l∈ds):fI l:=by
 obtain ⟨v,S,h⟩:=h _ hl;exact aVo h
theorem aXZ {w:World} {q:Qv} (h: ∀ d∈eQ q,∃ v S',RepD w d v S'):fQ q:=⟨aTJ h (by simp [eQ]),aTJ h (by simp [eQ])⟩
theorem aTK {w0 w:World} {v:Value} {S:List Nat} (h:aIe w (.bl true) v S):Ending.returned v= .returned (.bool true):=by rw [h.1]
end
noncomputable section
theorem nS {c d:Bool} {o:Option Bool} (h:c=true→o=some d):(bif c then o else some false)=some (c&&d):=by cases c with|false=>rfl|true=>exact h rfl
theorem aBA {c d:Bool} :(bif c then some d else some false)=some (c&&d):=by cases c <;> rfl
theorem aQY {x a b:Int} :(bif decide (a≤x) then some (decide (x≤b)) else some false)=some (inR x a b):=by
 rw [aBA];unfold inR;by_cases h1:a≤x <;> by_cases h2:x≤b <;> simp [h1,h2]
theorem aDW (x a b:Int):pI x a b=some (inR x a b):=aQY
theorem aAN (x a b:Int):kQ x a b=some (inR x a b):=aQY
theorem aNb (p:Int):(bif decide (p=2) then some true else bif decide (p=3) then some true else some (decide (p=5)))=some (isF p):=by
 unfold isF;by_cases h2:p=2 <;> by_cases h3:p=3 <;> by_cases h5:p=5 <;> simp [h2,h3,h5]
theorem aEA (p:Int):kR p=some (isF p):=aNb p
theorem aEB (p:Int):kS p=some (isF p):=aNb p
theorem aJD {a b:List Int} (h:bI a):vQ a b=some (decide (a=b)):=by
 unfold bI at h;exact aLz (body:=zE a b) (by omega) rfl
theorem aRa {a b:List Int} (h:bI a):qM a b=some (decide (a=b)):=by
 unfold bI at h;exact aLz (body:=nA a b) (by omega) rfl
theorem aRb {a b:Qv} (h:bQ a):pQ a b=some (decide (a=b)):=by
 unfold pQ;rw [nS (d:=decide (a.src=b.src)&&decide (a.tgt=b.tgt)) (λ_=>?_)]
 ·cases a;cases b;simp
 ·rw [aJD h.1,aC];refine nS λ_=>?_;rw [aJD h.2.1,aC]
theorem aRc (p:Int) {v:List Int} (h:bI v):wH p v=some (isF p&&decide (v.length≤64)&&v.all λx=>inR x 0 (wr (p - 1))):=by
 unfold bI at h;unfold wH;rw [aEA,aC];cases isF p with
 |false=>rfl
 |true=>
  rw [gO,aX,Bool.true_and];by_cases h64:v.length≤64
  ·rw [eB (by omega),aX,bG h64,Bool.true_and];rw [aEm (λk=>inR (v[k]?.getD 0) 0 (wr (p - 1))) false (n:=v.length) (by omega) (λk hk=>?_) (λ_=>?_),aCE 0 v (λx=>inR x 0 (wr (p - 1))),aC]
   ·cases v.all _ <;> rfl
   ·unfold rN;rw [iE hk,aM,vG 0 hk,aC,aAN,aC];cases inR _ 0 _ <;> rfl
   ·unfold rN;rw [iT (bO _),aX]
  ·rw [bG (by omega),aM,eB h64,Bool.false_and]
theorem aNc {v:List Int} {f:Int→Option Bool} (P:Int→Bool) (hf: ∀ x,f x=some (P x)) (h:bI v): ∃ i:Int,gE v f=some i∧decide (0≤i)=v.any P:=by
 unfold bI at h;unfold gE;rw [aAq (s0:=0) (s:=0) (n:=v.length) (λk=>bif P (v[k]?.getD 0) then some (k:Int) else none) rfl (by omega) (Nat.zero_le _) (λk _ hk=>?_) (λ_=>?_)]
 ·rw [aC];cases e:(List.range' 0 (v.length - 0)).findSome? (λk:Nat=>bif P (v[k]?.getD 0) then some (k:Int) else none) with
  |none=>
   refine ⟨-1,rfl,?_⟩;rw [List.findSome?_eq_none_iff] at e
   have:v.any P=false:=by
    rw [List.any_eq_false];intro x hx;obtain ⟨k,hk,rfl⟩:=List.mem_iff_getElem.1 hx;have:=e k (by simp;omega);simp only [hJ hk,rD] at this;cases hp:P v[k] with
    |false=>simp
    |true=>rw [hp] at this;cases this
   rw [this];rfl
  |some i=>
   refine ⟨i,rfl,?_⟩;obtain ⟨k,hk,he⟩:=List.exists_of_findSome?_eq_some e;simp at hk;have hkl:k<v.length:=by omega
   rw [hJ hkl] at he;simp only [rD] at he;cases hp:P v[k] with
   |false=>rw [hp] at he;cases he
   |true=>
    rw [hp] at he;cases he;rw [bG (by omega),eq_comm,List.any_eq_true];exact ⟨_,List.getElem_mem hkl,hp⟩
 ·unfold eZ;rw [iE hk,aM,vG 0 hk,aC,hf,aC];cases P _ <;> rfl
 ·unfold eZ;rw [iT (bO _),aX]
theorem aAE {v:List Int} (h:bI v) (a b:Int):iM v a b=some (v.all λx=>inR x a b):=by
 unfold iM dM;obtain ⟨i,h1,h2⟩:=aNc (f:=λb0=>nF b0 a b) (λx=> !inR x a b) (λx=>by simp only [nF];rw [aDW,aC]) h;rw [h1,aC,aC,h2,List.not_any_eq_all_not];simp
theorem aRd (p:Int) {v:List Int} (h:bI v):wM p v=some (isF p&&decide (v.length≤64)&&v.all λx=>inR x 0 (wr (p - 1))):=by
 unfold wM;rw [aEB,aC,aAE h,aC,aBA,aBA,Bool.and_assoc];congr 3;rw [Bool.eq_iff_iff,iD,iD];omega
def aGh (p:Int) (m:Mt):Bool:=inR m.rows 0 8&&(inR m.cols 0 8&&(decide ((m.cells.length:Int)=wr (m.rows*m.cols))&&(isF p&&decide (m.cells.length≤64)&&m.cells.all λx=>inR x 0 (wr (p - 1)))))
theorem aRe (p:Int) {m:Mt} (h:bM m):wI p m=some (aGh p m):=by
 unfold wI aGh;rw [aAN,aC];refine nS λ_=>?_;rw [aAN,aC];refine nS λ_=>?_;refine nS λ_=>?_;rw [aRc p h.1,aC]
theorem aRf (p:Int) {m:Mt} (h:bM m):wN p m=some (aGh p m):=by
 unfold wN aGh;rw [aDW,aC];refine nS λ_=>?_;rw [aDW,aC];refine nS λ_=>?_;refine nS λ_=>?_;rw [aRd p h.1,aC]
theorem aPO {p:Int} {m:Mt} (h:aGh p m=true):isF p=true∧ ∃ (r c:Nat) (F:Nat→Nat→Int),r≤8∧c≤8∧m=⟨r,c,cK r c F⟩∧ ∀ i j,i<r→j<c→0≤F i j∧F i j<p:=by
 unfold aGh at h;simp only [dF,iD,List.all_eq_true] at h;obtain ⟨h1,h2,h3,⟨h4,h5⟩,h6⟩:=h;have h1:=qI h1;have h2:=qI h2;refine ⟨h4,m.rows.toNat,m.cols.toNat,λi j=>m.cells[i*m.cols.toNat+j]?.getD 0,by omega,by omega,?_,?_⟩
 ·obtain ⟨a,b,l⟩:=m;simp only at*;obtain ⟨r,rfl⟩:=Int.eq_ofNat_of_zero_le h1.1;obtain ⟨c,rfl⟩:=Int.eq_ofNat_of_zero_le h2.1;have hb:r*c≤64:=Nat.mul_le_mul (by omega:r≤8) (by omega:c≤8);rw [aIq (by omega)] at h3;simp only [dH];rw [←aUo (by omega)]
 ·intro i j hi hj;show 0≤m.cells[i*m.cols.toNat+j]?.getD 0∧m.cells[i*m.cols.toNat+j]?.getD 0<p;have hx:=aIp hi hj
  have e:((m.rows.toNat*m.cols.toNat:Nat):Int)=m.rows*m.cols:=by
   rw [Int.natCast_mul,Int.toNat_of_nonneg h1.1,Int.toNat_of_nonneg h2.1]
  have hb:m.rows.toNat*m.cols.toNat≤64:=Nat.mul_le_mul (by omega:m.rows.toNat≤8) (by omega:m.cols.toNat≤8);rw [cY (by omega)] at h3;have hl:i*m.cols.toNat+j<m.cells.length:=by omega
  have:=qI (h6 _ (List.getElem_mem hl));rw [hJ hl,rD];have hp:=mH h4;rw [cY (by omega)] at this;omega
def aBB (q:Qv):Bool:=inR q.n 1 5&&(decide ((q.src.length:Int)=(q.tgt.length:Int))&&(decide ((q.src.length:Int)≤6)&&((q.src.all λx=>inR x 0 (wr (q.n - 1)))&&(q.tgt.all λx=>inR x 0 (wr (q.n - 1))))))
theorem aMB {q:Qv} (h:bQ q):sG q=some (aBB q):=by
 unfold sG aBB;rw [aDW,aC];refine nS λ_=>nS λ_=>nS λ_=>?_;rw [aAE h.1,aC];refine nS λ_=>?_;rw [aAE h.2.1,aC]
theorem aFi {q:Qv} (h:bQ q):jK q=some (aBB q):=by
 obtain ⟨h1,h2,_⟩:=h;unfold bI at h1 h2;unfold jK;rw [aEm (n:=min q.src.length q.tgt.length) (λk=>inR (q.src[k]?.getD 0) 0 (wr (q.n - 1))&&inR (q.tgt[k]?.getD 0) 0 (wr (q.n - 1))) false (by omega) (λk hk=>?_) (λ_=>?_)]
 ·rw [aC];unfold aBB;by_cases e:q.src.length=q.tgt.length
  ·have e2:min q.src.length q.tgt.length=q.src.length:=by omega
   have hall:(List.range q.src.length).all (λk=>inR (q.src[k]?.getD 0) 0 (wr (q.n - 1))&&inR (q.tgt[k]?.getD 0) 0 (wr (q.n - 1)))=((q.src.all λx=>inR x 0 (wr (q.n - 1)))&&(q.tgt.all λx=>inR x 0 (wr (q.n - 1)))):=by
    rw [←aCE 0 q.src,←aCE 0 q.tgt,←e];rw [Bool.eq_iff_iff,dF,yV,yV,yV];simp only [dF];exact ⟨λh=>⟨λk hk=>(h k hk).1,λk hk=>(h k hk).2⟩,λh k hk=>⟨h.1 k hk,h.2 k hk⟩⟩
   rw [e2,hall,bG (by omega:(q.src.length:Int)=(q.tgt.length:Int))];cases (q.src.all λx=>inR x 0 (wr (q.n - 1)))&&(q.tgt.all λx=>inR x 0 (wr (q.n - 1))) with
   |false=>simp
   |true=>
    simp only [aM,Sum.elim_inl];rw [aAN,aC,bG (by omega:(q.tgt.length:Int)=(q.src.length:Int)),aBA,aBA];simp
  ·rw [eB (by omega: ¬ (q.src.length:Int)=(q.tgt.length:Int))];simp only [Bool.false_and,Bool.and_false];cases (List.range (min q.src.length q.tgt.length)).all _ with
   |false=>rfl
   |true=>
    simp only [aM,Sum.elim_inl];rw [aAN,aC,eB (by omega: ¬ (q.tgt.length:Int)=(q.src.length:Int)),aBA,aBA];simp
 ·unfold rL;rw [iE (by omega),aM,iE (by omega),aM,vG 0 (by omega),aC,aAN,aC,vG 0 (by omega),aC,aAN,aC];cases inR (q.src[k]?.getD 0) 0 (wr (q.n - 1)) <;> cases inR (q.tgt[k]?.getD 0) 0 (wr (q.n - 1)) <;> rfl
 ·unfold rL;by_cases e:q.src.length≤q.tgt.length
  ·rw [iT (by omega),aX]
  ·rw [iE (by omega),aM,iT (by omega),aX]
theorem xO {q:Qv} (h:aBB q=true): ∃ n:Nat,q.n=n∧1≤n∧n≤5∧q.src.length=q.tgt.length∧q.src.length≤6∧(∀ x∈q.src,0≤x∧x<n)∧ ∀ x∈q.tgt,0≤x∧x<n:=by
 unfold aBB at h;simp only [dF,iD,List.all_eq_true] at h;obtain ⟨h1,h2,h3,h4,h5⟩:=h;have h1:=qI h1;rw [cY (by omega)] at h4 h5;refine ⟨q.n.toNat,by omega,by omega,by omega,by omega,by omega,λx hx=>?_,λx hx=>?_⟩
 ·have:=qI (h4 x hx);omega
 ·have:=qI (h5 x hx);omega
def aBC (q:Qv) (d:List Int):Bool:=aBB q&&(decide ((d.length:Int)=q.n)&&((d.all λx=>inR x 0 4)&&decide (d.sum≤8)))
theorem aMC {d:List Int} (h: ∀ x∈d,0≤x∧x≤4):0≤d.sum∧d.sum≤4*d.length:=by
 induction d with
 |nil=>simp
 |cons x d ih=>
  have h1:=h x (by simp);have h2:=ih λy hy=>h y (by simp [hy]);simp only [List.sum_cons,List.length_cons];omega
theorem aNd {d:List Int} {k:Nat} (hk:k<d.length):(d.take (k+1)).sum=(d.take k).sum +d[k]?.getD 0:=by
 rw [aBy hk,List.sum_append];simp [hk]
theorem aIH {d:List Int} (h: ∀ x∈d,0≤x∧x≤4) (hl:d.length≤1048576):rK d=some d.sum:=by
 unfold rK;rw [dQ (r:=d.sum) (λk=>((d.take k).sum,(k:Int))) d.length (by simp) (λk hk=>?_) (λ_=>?_)];rfl
 ·unfold wD;simp only;rw [iE hk,aM,vG 0 hk,aC,bU hk (by omega)];have h1:=aMC (d:=d.take (k+1)) λx hx=>h x (List.mem_of_mem_take hx);rw [←aNd hk,cY (by simp at h1;omega)]
 ·unfold wD;simp only;rw [iT (bO _),aX,List.take_length]
theorem aCn {q:Qv} {d:List Int} (hq:bQ q) (hd:bI d):qR q d=some (aBC q d):=by
 unfold qR aBC;rw [aMB hq,aC];refine nS λ_=>nS λ_=>?_;rw [aAE hd,aC];refine nS λh=>?_;rw [aIH (λx hx=>qI (List.all_eq_true.1 h x hx)) hd,aC]
theorem aCo {q:Qv} {d:List Int} (hq:bQ q) (hd:bI d):qP q d=some (aBC q d):=by
 unfold bI at hd;unfold qP aBC;rw [aFi hq,aC];refine nG λ_=>nG λ_=>?_;cases hall:d.all (λx=>inR x 0 4) with
 |true=>
  have hb: ∀ x∈d,0≤x∧x≤4:=λx hx=>qI (List.all_eq_true.1 hall x hx);rw [dQ (r:= .inl d.sum) (λk=>((d.take k).sum,(k:Int))) d.length (by simp) (λk hk=>?_) (λ_=>?_)];rfl
  ·unfold lJ;simp only;rw [iE hk,aM,vG 0 hk,aC,aAN,aC];have hin:inR (d[k]?.getD 0) 0 4=true:=by rw [hJ hk];exact List.all_eq_true.1 hall _ (List.getElem_mem hk)
   rw [hin,gO,aX,aC,bU hk (by omega)];have h1:=aMC (d:=d.take (k+1)) λx hx=>hb x (List.mem_of_mem_take hx);rw [←aNd hk,cY (by simp at h1;omega)]
  ·unfold lJ;simp only;rw [iT (bO _),aX,List.take_length]
 |false=>
  have key:=aDt (body:=lJ d) (s:=(0,0)) (λs=> ∃ k:Nat,s.2=k∧k≤d.length∧ ∀ j,j<k→inR (d[j]?.getD 0) 0 4=true) (λs=>d.length - s.2.toNat) (λr=>r= .inr false)
   ⟨0,rfl,Nat.zero_le _,λj hj=>absurd hj (Nat.not_lt_zero _)⟩ (λs ⟨k,hs,hk,hj⟩=>?_)
  ·obtain ⟨r,h1,h2⟩:=key;rw [h1,h2];rfl
  ·obtain ⟨t,s2⟩:=s;simp only at hs;subst hs;rcases eD k d.length with hlt|hge
   ·unfold lJ;simp only;rw [iE hlt,aM,vG 0 hlt,aC,aAN,aC];cases hin:inR (d[k]?.getD 0) 0 4 with
    |false=>exact .inr ⟨_,rfl,rfl⟩
    |true=>
     rw [gO,aX,aC,bU hlt (by omega)];refine .inl ⟨_,rfl,⟨k+1,rfl,hlt,λj hj2=>?_⟩,by simp;omega⟩;by_cases e:j=k
     ·subst e;exact hin
     ·exact hj j (by omega)
   ·exfalso
    have:d.all (λx=>inR x 0 4)=true:=by
     rw [←aCE 0 d,yV];exact λj hj'=>hj j (by omega)
    rw [hall] at this;cases this
theorem uC {q:Qv} {d:List Int} (h:aBC q d=true):aBB q=true∧(d.length:Int)=q.n∧(∀ x∈d,0≤x∧x≤4)∧d.sum≤8:=by
 unfold aBC at h;simp only [dF,iD,List.all_eq_true] at h;exact ⟨h.1,h.2.1,λx hx=>qI (h.2.2.1 x hx),h.2.2.2⟩
def sI (r:Rp):Bool:=isF r.p&&(aBC r.q r.dims&&(decide ((r.maps.length:Int)=(r.q.src.length:Int))&&(List.range r.maps.length).all λk=>
 aGh r.p (r.maps[k]?.getD ⟨0,0,[]⟩)&&(decide ((r.maps[k]?.getD ⟨0,0,[]⟩).cols=r.dims[(r.q.src[k]?.getD 0).toNat]?.getD 0)&&decide ((r.maps[k]?.getD ⟨0,0,[]⟩).rows=r.dims[(r.q.tgt[k]?.getD 0).toNat]?.getD 0))))
theorem tG {α:Type} {l:List α} {k:Nat} (d:α) (h:k<l.length):l[k]?.getD d∈l:=by rw [hJ h];exact List.getElem_mem h
theorem aGi {r:Rp} (h:bR r):uM r=some (sI r):=by
 obtain ⟨h1,h2,⟨h3,h4⟩,_⟩:=h;unfold uM sI;rw [aEA,aC];refine nG λhF=>?_;rw [aCo h1 h2,aC];refine nG λhD=>?_;obtain ⟨hQ,hd1,hd2,_⟩:=uC hD;obtain ⟨n,hn,_,_,hq1,hq2,hq3,hq4⟩:=xO hQ;refine nG λhL=>?_;have hL:=of_decide_eq_true hL;rw [aEm (λk=>aGh r.p (r.maps[k]?.getD ⟨0,0,[]⟩)&&(decide ((r.maps[k]?.getD ⟨0,0,[]⟩).cols=r.dims[(r.q.src[k]?.getD 0).toNat]?.getD 0)&&decide ((r.maps[k]?.getD ⟨0,0,[]⟩).rows=r.dims[(r.q.tgt[k]?.getD 0).toNat]?.getD 0))) false (n:=r.maps.length) (by omega) (λk hk=>?_) (λ_=>?_),aC]
 ·cases (List.range r.maps.length).all _ <;> rfl
 ·have hs:=hq3 _ (tG 0 (show k<r.q.src.length by omega));have ht:=hq4 _ (tG 0 (show k<r.q.tgt.length by omega));unfold wL;rw [iE hk,aM,vG ⟨0,0,[]⟩ hk,aC,aRe _ (h4 _ (tG _ hk)),aC,aC,vG 0 (by omega),aC,atI 0 hs.1 (by omega),aC,aC,vG 0 (by omega),aC,atI 0 ht.1 (by omega),aC];cases aGh r.p _ <;> cases decide ((r.maps[k]?.getD _).cols=_) <;> cases decide ((r.maps[k]?.getD _).rows=_) <;> rfl
 ·unfold wL;rw [iT (bO _),aX]
theorem aRg {r:Rp} (h:bR r):aAh r=some (sI r):=by
 obtain ⟨h1,h2,⟨h3,h4⟩,_⟩:=h;unfold aAh sI;rw [aEB,aC];refine nG λhF=>?_;rw [aCn h1 h2,aC];refine nG λhD=>?_;obtain ⟨hQ,hd1,hd2,_⟩:=uC hD;obtain ⟨n,hn,_,_,hq1,hq2,hq3,hq4⟩:=xO hQ;refine nG λhL=>?_;have hL:=of_decide_eq_true hL;rw [aEm (λk=>aGh r.p (r.maps[k]?.getD ⟨0,0,[]⟩)&&(decide ((r.maps[k]?.getD ⟨0,0,[]⟩).cols=r.dims[(r.q.src[k]?.getD 0).toNat]?.getD 0)&&decide ((r.maps[k]?.getD ⟨0,0,[]⟩).rows=r.dims[(r.q.tgt[k]?.getD 0).toNat]?.getD 0))) false (n:=r.maps.length) (by omega) (λk hk=>?_) (λ_=>?_),aC]
 ·cases (List.range r.maps.length).all _ <;> rfl
 ·have hs:=hq3 _ (tG 0 (show k<r.q.src.length by omega));have ht:=hq4 _ (tG 0 (show k<r.q.tgt.length by omega));unfold wO;rw [iE hk,aM,vG ⟨0,0,[]⟩ hk,aC,aRf _ (h4 _ (tG _ hk)),aC,vG 0 (by omega),aC,atI 0 hs.1 (by omega),aC,vG 0 (by omega),aC,atI 0 ht.1 (by omega),aC];cases aGh r.p _ <;> cases decide ((r.maps[k]?.getD _).cols=_) <;> cases decide ((r.maps[k]?.getD _).rows=_) <;> rfl
 ·unfold wO;rw [iT (bO _),aX]
theorem aQZ {a b:Rp} (ha:bR a) (hb:bR b):xV a b=some (sI a&&(sI b&&(decide (a.p=b.p)&&decide (a.q=b.q)))):=by
 unfold xV;rw [aGi ha,aC];refine nS λ_=>?_;rw [aGi hb,aC];refine nS λ_=>nS λ_=>?_;rw [aRb ha.1,aC]
end
noncomputable section
theorem aPP {a b:Int} (ha:0≤a∧a≤5) (hb:0≤b∧b≤5):0≤a*b∧a*b≤25:=by
 refine ⟨Int.mul_nonneg ha.1 hb.1,?_⟩;have:=Int.mul_le_mul ha.2 hb.2 hb.1 (by decide:(0:Int)≤5);omega
theorem aBZ {x p:Int} (hp:isF p=true):0≤x % p∧x % p<p:=by
 have:=mH hp;exact ⟨Int.emod_nonneg _ (by omega),Int.emod_lt_of_pos _ (by omega)⟩
theorem aCp {p x:Int} (hp:isF p=true) (hx: -4611686018427387904≤x∧x≤4611686018427387904):kF p x=some (x % p):=by
 have hb:=mH hp;have hr:=aIn x p (by omega);unfold kF;rw [eB (by omega),Bool.not_false,aM];rcases aIo x p (by omega) with ⟨h,e⟩|⟨h,e⟩
 ·rw [eB (by omega),aX,e]
 ·rw [bG h,aM,cY (by omega),e];congr 1;omega
theorem aNe {p x:Int} (hp:isF p=true):uL p x=some (x % p):=by
 have hb:=mH hp;have hr:=aIn x p (by omega);unfold uL;rw [aEB,hp,aC,gO,aX,eB (by omega),Bool.not_false,aM,aM,cY (by omega),aRP _ _ (by omega)]
theorem aPQ {p x:Int} (hp:isF p=true) {k:Nat} (hk:k≤1000):wK p x k=some (aLn p (x % p) k):=by
 have hb:=mH hp;unfold wK;rw [aEB,hp,aC,gO,aX,aDW,aIm (by omega) (by omega),aC,gO,aX];rw [dQ (r:=aLn p (x % p) k) (λt=>(aLn p (x % p) t,(t:Int))) k (by rfl) (λt ht=>?_) (λ_=>?_),aC]
 ·unfold rR;simp only;have h1:=aQL hp (aBZ (x:=x) hp) t;have h2:=aBZ (x:=x) hp;have h3:=aPP (a:=aLn p (x % p) t) (b:=x % p) (by omega) (by omega);rw [iE ht,aM,aNe hp,aC,eB (by omega),Bool.not_false,aM,bU ht (by omega),cY (by omega),Int.tmod_eq_emod_of_nonneg h3.1];rfl
 ·unfold rR;simp only;rw [iT (bO _),aX]
theorem aRh {p x:Int} (hp:isF p=true):tF p x=some (aEl p (x % p)):=by
 have hb:=mH hp;unfold tF aEl;rw [aEB,hp,aC,gO,aX,cY (by omega)];have e:max (p - 2) 1=(((max (p - 2) 1).toNat:Nat):Int):=by omega
 rw [e,aPQ hp (by omega),aC,dH]
theorem aRi {p x:Int} (hp:isF p=true) (hx: -4611686018427387904≤x∧x≤4611686018427387904):tE p x=some (aEl p (x % p)):=by
 have hb:=mH hp;have h2:=aBZ (x:=x) hp;obtain ⟨n,hn⟩: ∃ n:Nat,p=n:=⟨p.toNat,by omega⟩;unfold tE;rw [aAq (s0:=1) (s:=1) (n:=n) (λk:Nat=>bif decide ((x % p*k) % p=1) then some (k:Int) else none) rfl (by omega) (by omega) (λk h1 hk=>?_) (λ_=>?_),aC]
 ·cases e:(List.range' 1 (n - 1)).findSome? (λk:Nat=>bif decide ((x % p*k) % p=1) then some (k:Int) else none) with
  |none=>
   rw [List.findSome?_eq_none_iff] at e;rw [aSm hp h2 λy h3 h4 h5=>?_];rfl;have:=e y (by simp;omega);rw [bG h5] at this;cases this
  |some i=>
   obtain ⟨k,hk,he⟩:=List.exists_of_findSome?_eq_some e;simp at hk;cases hd:decide ((x % p*k) % p=1) with
   |false=>rw [hd] at he;cases he
   |true=>
    rw [hd] at he;cases he;rw [aUm hp h2 (y:=k) (by omega) (of_decide_eq_true hd)];rfl
 ·unfold oM;have h3:=aPP (a:=x % p) (b:=k) (by omega) (by omega);rw [bG (by omega),aM,aEA,hp,aC,aM,aCp hp hx,aC,cY (by omega),aCp hp (by omega),aC];cases decide (x % p*k % p=1) <;> rfl
 ·unfold oM;rw [eB (by omega),aX]
theorem aQa {r c i:Nat} (hi:i<r):(i+1)*c≤r*c:=Nat.mul_le_mul_right c hi
theorem ixw {r c i j:Nat} (hN:r*c≤1048576) (hi:i<r) (hj:j<c):wr (wr ((i:Int)*(c:Int))+(j:Int))=((i*c+j:Nat):Int):=wix (by have:=aIp hi hj;omega)
theorem atT {r c i j:Nat} (hN:r*c≤1048576) (hi:i<r) (hj:j<c) (F:Nat→Nat→Int):cO (cK r c F) (wr (wr ((i:Int)*(c:Int))+(j:Int)))=some (F i j):=by rw [ixw hN hi hj,aUn F hi hj]
theorem aPR {r c i j:Nat} (hN:r*c≤1048576) (hi:i<r) (hj:j<c) (F:Nat→Nat→Int) (v:Int):(cK r c F).set (wr (wr ((i:Int)*(c:Int))+(j:Int))).toNat v=cK r c (aFW F i j v):=by rw [ixw hN hi hj,dH,aCF F v hi hj]
theorem aAO {r c i:Nat} (hN:r*c≤1048576) (hi:i<r):wr ((i:Int)*(c:Int))=((i*c:Nat):Int):=aIq (by have:= @aQa r c i hi;rw [Nat.succ_mul] at this;omega)
theorem aAP {r c i:Nat} (hN:r*c≤1048576) (hr:r≤1048576) (hi:i<r):wr (wr ((i:Int)+1)*(c:Int))=((i*c+c:Nat):Int):=by
 have:= @aQa r c i hi;rw [bU hi (by omega),aIq (by omega),Nat.succ_mul]
def tX (c:Nat) (f:Nat→Int):List Int:=(List.range c).map f
theorem oN (c:Nat) (f:Nat→Int):(tX c f).length=c:=by simp [tX]
theorem aII {c:Nat} (f:Nat→Int) {j:Nat} (h:j<c):cO (tX c f) (j:Int)=some (f j):=by rw [dJ (by rw [oN];exact h)];simp [tX]
theorem aKo {r c i:Nat} (hN:r*c≤1048576) (hr:r≤1048576) (hi:i<r) (F:Nat→Nat→Int):fW ⟨r,c,cK r c F⟩ i=some ():=by
 have:= @aQa r c i hi;rw [Nat.succ_mul] at this;unfold fW;simp only;rw [aAO hN hi,aAP hN hr hi,jT,bG (by omega),bG (by omega:((i*c:Nat):Int)≤((i*c+c:Nat):Int)),bG (by omega:((i*c+c:Nat):Int)≤((r*c:Nat):Int))];rfl
theorem aPS {r c i:Nat} (hN:r*c≤1048576) (hr:r≤1048576) (hi:i<r) (F:Nat→Nat→Int):aGc ⟨r,c,cK r c F⟩ i=some (tX c (F i)):=by
 have h:= @aQa r c i hi;rw [Nat.succ_mul] at h;unfold aGc aAA aDU;simp only;rw [aAO hN hi,aAP hN hr hi,jT,bG (by omega),bG (by omega:((i*c:Nat):Int)≤((i*c+c:Nat):Int)),bG (by omega:((i*c+c:Nat):Int)≤((r*c:Nat):Int))];simp only [Bool.and_self,aM,dH];congr 1;refine List.ext_getElem (by simp [jT,oN];omega) λt h1 h2=>?_;rw [oN] at h2;rw [List.getElem_take,List.getElem_drop];simp [cK,tX,aCj h2,aCk h2]
def aKG (p:Int) (F:Nat→Nat→Int) (i:Nat) (k:Int) (g:Nat→Int):Nat→Nat→Int:=λa b=>if a=i then (F i b+k*g b) % p else F a b
theorem gd (x:Nat):(decide (0≤(x:Int))&&true)=true:=by rw [bG (by omega)];rfl
theorem aWL {p:Int} (hp:isF p=true):(!decide (p=0))=true:=by have:=mH hp;rw [eB (by omega)];rfl
theorem aNf {p:Int} (hp:isF p=true) {r c i:Nat} (hc:c≤1048576) (hi:i<r) {F:Nat→Nat→Int} {g:Nat→Int} {k:Int} (hk:0≤k∧k≤5) (hF: ∀ b,b<c→0≤F i b∧F i b<p) (hg: ∀ b,b<c→0≤g b∧g b<p):
  nB p (cK r c F) (i*c) c k (tX c g)=some (cK r c (aKG p F i k g)):=by
 have hb:=mH hp;unfold nB;rw [dQ (r:=cK r c (aKG p F i k g)) (λx=>(cK r c (λa b=>if a=i∧b<x then (F i b+k*g b) % p else F a b),(x:Int))) c (by simp) (λx hx=>?_) (λ_=>?_)];rfl
 ·have h1:=hF x hx;have h2:=hg x hx;have h3:=aPP hk (show 0≤g x∧g x≤5 by omega);unfold nP;simp only;rw [oN,iE hx,aM,aII _ hx,aC,gd x,aM,dH,qJ _ hi hx,aC,aWL hp,aM,aM,aC,aCF _ _ hi hx,bU hx (by omega)];rw [aW (by omega),cY (x:=k*g x) (by omega),cY (by omega),Int.tmod_eq_emod_of_nonneg (by omega)];congr 3;refine dG λa b ha hb=>?_;simp only [aFW];by_cases e1:a=i∧b=x
  ·obtain ⟨rfl,rfl⟩:=e1;rw [aY ⟨rfl,rfl⟩,aY ⟨rfl,by omega⟩]
  ·rw [aW e1];by_cases e2:a=i∧b<x
   ·rw [aY e2,aY ⟨e2.1,by omega⟩]
   ·rw [aW e2,aW (by omega)]
 ·unfold nP;simp only;rw [oN,iT (bO _),aX];congr 2;refine dG λa b ha hb=>?_;simp only [aKG];by_cases e:a=i
  ·rw [aY ⟨e,hb⟩,aY e]
  ·rw [aW (by omega),aW e]
theorem aRj {p:Int} (hp:isF p=true) {r c i j:Nat} (hc:c≤1048576) (hi:i<r) (hj:j<r) (hij:i≠j) {F:Nat→Nat→Int} {k:Int} (hk:0≤k∧k≤5) (hF: ∀ b,b<c→0≤F i b∧F i b<p) (hg: ∀ b,b<c→0≤F j b∧F j b<p):
  lI p (cK r c F) (i*c) c k (j*c) c=some (cK r c (aKG p F i k (F j))):=by
 have hb:=mH hp;unfold lI;rw [dQ (r:=cK r c (aKG p F i k (F j))) (λx=>(cK r c (λa b=>if a=i∧b<x then (F i b+k*F j b) % p else F a b),(x:Int))) c (by simp) (λx hx=>?_) (λ_=>?_)];rfl
 ·have h1:=hF x hx;have h2:=hg x hx;have h3:=aPP hk (show 0≤F j x∧F j x≤5 by omega);unfold iX;simp only;rw [iE hx,aM,gd x,aM,dH,qJ _ hj hx,aC,aM,qJ _ hi hx,aC,aWL hp,aM,aM,aC,aCF _ _ hi hx,bU hx (by omega)];rw [aW (by omega),aW (by omega),cY (x:=k*F j x) (by omega),cY (by omega),Int.tmod_eq_emod_of_nonneg (by omega)];congr 3;refine dG λa b ha hb=>?_;simp only [aFW];by_cases e1:a=i∧b=x
  ·obtain ⟨rfl,rfl⟩:=e1;rw [aY ⟨rfl,rfl⟩,aY ⟨rfl,by omega⟩]
  ·rw [aW e1];by_cases e2:a=i∧b<x
   ·rw [aY e2,aY ⟨e2.1,by omega⟩]
   ·rw [aW e2,aW (by omega)]
 ·unfold iX;simp only;rw [iT (bO _),aX];congr 2;refine dG λa b ha hb=>?_;simp only [aKG];by_cases e:a=i
  ·rw [aY ⟨e,hb⟩,aY e]
  ·rw [aW (by omega),aW e]
theorem aTL {r c:Nat} (hN:r*c≤1048576):(decide (0≤wr ((r:Int)*(c:Int)))&&decide (wr ((r:Int)*(c:Int))≤1048576))=true:=by
 rw [aIq (by omega),bG (by omega),bG (by omega)];rfl
theorem aEw {r c:Nat} (hN:r*c≤1048576):mT r c=some ⟨r,c,cK r c λ_ _=>0⟩:=by
 unfold mT;rw [aTL hN,aM,aIq (by omega),dH,aKd]
theorem aNg {r c:Nat} (hN:r*c≤1048576):vR r c=some ⟨r,c,cK r c λ_ _=>0⟩:=by
 unfold vR;rw [aTL hN,aM,aIq (by omega),dH,aKd]
def aPT (F G:Nat→Nat→Int) (i j:Nat):Nat→Int
 |0=>0
 |k+1=>aPT F G i j k+F i k*G k j
def aNh (p:Int) (F G:Nat→Nat→Int) (i j:Nat):Nat→Int
 |0=>0
 |k+1=>(aNh p F G i j k+F i k*G k j) % p
theorem aMD {p:Int} (hp:isF p=true) (F G:Nat→Nat→Int) (i j:Nat): ∀ k,aNh p F G i j k=aPT F G i j k % p
 |0=>by simp [aNh,aPT]
 |k+1=>by rw [aNh,aPT,aMD hp F G i j k];simp [Int.add_emod]
def aGj (p:Int) (n:Nat) (F G:Nat→Nat→Int):Nat→Nat→Int:=λi j=>aPT F G i j n % p
theorem aQb {p:Int} (hp:isF p=true) (n:Nat) (F G:Nat→Nat→Int) (m c:Nat):InP p m c (aGj p n F G):=λi j _ _=>aBZ hp
theorem aQc {p:Int} (hp:isF p=true) {r n c:Nat} (h1:r*n≤1048576) (h2:n*c≤1048576) (h3:r*c≤1048576) (hr:r≤1048576) (hn:n≤1048576) (hc:c≤1048576) {F G:Nat→Nat→Int} (hF:InP p r n F) (hG:InP p n c G):
  xW p ⟨r,n,cK r n F⟩ ⟨n,c,cK n c G⟩=some ⟨r,c,cK r c (aGj p n F G)⟩:=by
 have hb:=mH hp;have hD: ∀ i j,aNh p F G i j n=aGj p n F G i j:=λi j=>aMD hp F G i j n;unfold xW;simp only;rw [aEw h3,aC];simp only;rw [dQ (r:=cK r c (aGj p n F G)) (λi=>(cK r c (λa b=>if a<i then aGj p n F G a b else 0),(i:Int))) r (by simp) (λi hi=>?_) (λ_=>?_),aC]
 ·unfold wQ;simp only;rw [iE hi,aM,aPS h1 hr hi,aC];rw [dQ (r:=cK r c (λa b=>if a<i+1 then aGj p n F G a b else 0)) (λk=>(cK r c (λa b=>if a<i then aGj p n F G a b else if a=i then aNh p F G i b k else 0),(k:Int))) n ?_ (λk hk=>?_) (λ_=>?_),aC,bU hi (by omega)]
  ·congr 1
   exact dG λa b ha hb=>by
    by_cases e:a<i
    ·rw [aY e,aY e]
    ·rw [aW e,aW e];simp [aNh]
  ·unfold wP;simp only;have g1:=hF i k hi hk;rw [oN,iE hk,aM,aII _ hk,aC,aKo h3 hr hi,aC,aPS h2 hn hk,aC,Nat.zero_add,aAO h3 hi,aAP h3 hr hi,dH,dH,show i*c+c - i*c=c by omega];rw [aNf hp hc hi (by omega) (λb hb=>?_) (λb hb=>hG k b hk hb),aC,jT,jT,bG rfl,aM,bU hk (by omega)]
   ·congr 3;refine dG λa b ha hb=>?_;simp only [aKG];by_cases e:a=i
    ·subst e;simp [aNh]
    ·rw [aW e,aW e,aW e]
   ·rw [aW (by omega),aY rfl,aMD hp];exact aBZ hp
  ·unfold wP;simp only;rw [oN,iT (bO _),aX];congr 2;refine dG λa b ha hb=>?_;by_cases e:a<i
   ·rw [aY e,aY (by omega)]
   ·by_cases e2:a=i
    ·subst e2;rw [aW (by omega),aY rfl,aY (by omega),hD]
    ·rw [aW e,aW e2,aW (by omega)]
 ·unfold wQ;simp only;rw [iT (bO _),aX];congr 2;exact dG λa b ha hb=>by rw [aY ha]
end
noncomputable section
def sJ (L:List Nat):List Int:=L.map λt:Nat=>(t:Int)
theorem lK (L:List Nat):(sJ L).length=L.length:=by simp [sJ]
theorem aJE {p:Int} {m:Nat} {F:Nat→Nat→Int} {j:Nat} (h:(fU p m F j).2.length=m): ∀ d,fU p m F (j+d)=fU p m F j
 |0=>rfl
 |d+1=>by
  show kE p m (fU p m F (j+d)) (j+d)=_;rw [aJE h d];unfold kE;rw [aY];rw [h,Nat.sub_self];rfl
def aCq (F:Nat→Nat→Int) (a b x:Nat):Nat→Nat→Int:=λi y=>if y<x then aAV F a b i y else F i y
def aAi (p:Int) (F:Nat→Nat→Int) (a:Nat) (s:Int) (x:Nat):Nat→Nat→Int:=λi y=>if y<x then yW p F a s i y else F i y
def lU (p:Int) (F:Nat→Nat→Int) (a j x:Nat):Nat→Nat→Int:=λi c=>if i<x then aBV p F a j i c else F i c
theorem aKp {r c a b x:Nat} (F:Nat→Nat→Int):cK r c (aFW (aFW (aCq F a b x) a x (F b x)) b x (F a x))=cK r c (aCq F a b (x+1)):=by
 refine dG λi y hi hy=>?_;simp only [aFW,aCq,aAV];by_cases e:y=x
 ·subst e;simp only [and_true,Nat.lt_irrefl,if_false,Nat.lt_succ_self,if_true];by_cases e1:i=b
  ·rw [aY e1];by_cases e2:i=a
   ·rw [aY e2];subst e1;rw [e2]
   ·rw [aW e2,aY e1]
  ·rw [aW e1];by_cases e2:i=a
   ·rw [aY e2,aY e2]
   ·rw [aW e2,aW e2,aW e1]
 ·rw [aW (by omega),aW (by omega)];by_cases e1:y<x
  ·rw [aY e1,aY (show y<x+1 by omega)]
  ·rw [aW e1,aW (show ¬ y<x+1 by omega)]
theorem aEC {F:Nat→Nat→Int} {a b x i:Nat} :aCq F a b x i x=F i x:=by simp [aCq]
theorem aJF {p:Int} {F:Nat→Nat→Int} {a x i:Nat} {s:Int} :aAi p F a s x i x=F i x:=by simp [aAi]
theorem aJG {p:Int} {r c a x:Nat} {s:Int} (F:Nat→Nat→Int):cK r c (aFW (aAi p F a s x) a x ((F a x*s) % p))=cK r c (aAi p F a s (x+1)):=by
 refine dG λi y hi hy=>?_;simp only [aFW,aAi,yW];by_cases e:y=x
 ·subst e;simp only [and_true,Nat.lt_irrefl,if_false,Nat.lt_succ_self,if_true]
 ·rw [aW (by omega)];by_cases e1:y<x
  ·rw [aY e1,aY (show y<x+1 by omega)]
  ·rw [aW e1,aW (show ¬ y<x+1 by omega)]
theorem aQd {p r:Int} (hp:isF p=true) (hr:0≤r∧r<p):0≤aEl p r∧aEl p r<p:=aQL hp hr _
theorem aNi {p:Int} {m n k r:Nat} {F:Nat→Nat→Int} (h:InP p m n F) (hk:k<m) (hr:r<m):InP p m n (aAV F k r):=by
 intro i c hi hc;unfold aAV;split
 ·exact h r c hr hc
 ·split
  ·exact h k c hk hc
  ·exact h i c hi hc
theorem aKq {p:Int} (hp:isF p=true) {m n k:Nat} {s:Int} {F:Nat→Nat→Int} (h:InP p m n F):InP p m n (yW p F k s):=by
 intro i c hi hc;unfold yW;split
 ·exact aBZ hp
 ·exact h i c hi hc
theorem aRk {p:Int} (hp:isF p=true) {m n k j x:Nat} {F:Nat→Nat→Int} (h:InP p m n F):InP p m n (lU p F k j x):=by
 intro i c hi hc;unfold lU aBV;split
 ·split
  ·rename_i h1 h2;subst h2;exact h _ c hi hc
  ·exact aBZ hp
 ·exact h i c hi hc
theorem aTM {p:Int} (hp:isF p=true) {m n k j x:Nat} {F:Nat→Nat→Int} (hx:x≠k):cK m n (aKG p (lU p F k j x) x (p - F x j) (lU p F k j x k))=cK m n (lU p F k j (x+1)):=by
 refine dG λi c hi hc=>?_;simp only [aKG,lU,aBV];by_cases e:i=x
 ·subst e;rw [aY rfl,aW (Nat.lt_irrefl _),aY (Nat.lt_succ_self _),aW hx];simp only [if_true,ite_self];rw [show F i c+(p - F i j)*F k c=(F i c - F i j*F k c)+p*F k c by rw [Int.sub_mul];omega,Int.add_mul_emod_self_left]
 ·rw [aW e];by_cases e1:i<x
  ·rw [aY e1,aY (show i<x+1 by omega)]
  ·rw [aW e1,aW (show ¬ i<x+1 by omega)]
theorem aKr {p:Int} {m n k j:Nat} {F:Nat→Nat→Int} :cK m n (lU p F k j k)=cK m n (lU p F k j (k+1)):=by
 refine dG λi c hi hc=>?_;simp only [lU,aBV];by_cases e:i<k
 ·rw [aY e,aY (show i<k+1 by omega)]
 ·rw [aW e];by_cases e1:i=k
  ·subst e1;simp
  ·rw [aW (show ¬ i<k+1 by omega)]
theorem aJH {p:Int} {F:Nat→Nat→Int} {k r j:Nat} :vZ p F k r j=aBV p (yW p (aAV F k r) k (aEl p (F r j))) k j:=rfl
structure Tb (p:Int) (m n:Nat) (F:Nat→Nat→Int):Prop where
 hp:isF p=true
 hN:m*n≤1048576
 hm:m≤1048576
 hn:n≤1048576
 hi:InP p m n F
theorem aWM {p:Int} {m n:Nat} {F:Nat→Nat→Int} (T:Tb p m n F) {j:Nat} (hj:j<n) (L:List Nat) (hL:L.length≤m) (l:List Int):
  Lp (qS ⟨m,n,l⟩ ((j:Int),cK m n F,sJ L)) (((sJ L).length:Nat):Int)=some ((qK F j (m - L.length) L.length:Nat):Int):=by
 obtain ⟨hp,hN,hm,hn,hi⟩:=T;have hle:= @aCG F j (m - L.length) L.length;have hz:= @aEo F j (m - L.length) L.length;have hh:= @aGW F j (m - L.length) L.length;generalize qK F j (m - L.length) L.length=r at*;rw [lK];refine dQ (λt=>((L.length+t:Nat):Int)) (r - L.length) (by simp) (λt ht=>?_) (λ_=>?_)
 ·unfold qS;simp only
  rw [iE (by omega),aM,aKo hN hm (by omega),aC,aAO hN (by omega),aAP hN hm (by omega),dH,dH,Nat.add_sub_cancel_left,iE hj,gd,aM,Nat.zero_add,dH,qJ _ (by omega) hj,aC,
   hz _ (by omega) (by omega),bG rfl,aM,bU (n:=m) (by omega) (by omega),Nat.add_assoc]
 ·rw [show L.length+(r - L.length)=r by omega];unfold qS;simp only;rcases eD r m with h|h
  ·rw [iE h,aM,aKo hN hm h,aC,aAO hN h,aAP hN hm h,dH,dH,Nat.add_sub_cancel_left,iE hj,gd,aM,Nat.zero_add,dH,qJ _ h hj,aC,
    eB (hh (by omega)),aX]
  ·rw [iT h,aX]
theorem aUv {p:Int} {m n:Nat} {F:Nat→Nat→Int} (T:Tb p m n F) {j:Nat} (hj:j<n) (L:List Nat) (hL:L.length≤m) (l:List Int):
  qT p ⟨m,n,l⟩ ((j:Int),cK m n F,sJ L)=some (.inl (((j+1:Nat):Int),cK m n (kE p m (F,L) j).1,sJ (kE p m (F,L) j).2)):=by
 have hpv:=aWM T hj L hL l;obtain ⟨hp,hN,hm,hn,hi⟩:=T;have hb:=mH hp;have hle:= @aCG F j (m - L.length) L.length;unfold qT kE;simp only;rw [iE hj,aM,hpv,aC,bU hj (by omega)];clear hpv;generalize qK F j (m - L.length) L.length=r at*;by_cases hr:r=m
 ·rw [bG (by omega),aM,aY hr]
 ·rw [eB (by omega),aX,aW hr];have hk:L.length<m:=by omega
  have hrm:r<m:=by omega
  simp only [lK];rw [aKo hN hm hk,aC,aAO hN hk,aAP hN hm hk];simp only [dH,Nat.add_sub_cancel_left,Nat.zero_add];rw [dQ (r:=cK m n (aAV F L.length r)) (λx=>(cK m n (aCq F L.length r x),(x:Int))) n ?_ (λx hx=>?_) (λ_=>?_),aC,iE hj,gd,aM,qJ _ hk hj,aC]
  ·have e1:aAV F L.length r L.length j=F r j:=by simp [aAV]
   have hrj:=hi r j hrm hj;rw [e1,aRh hp,aC,Int.emod_eq_of_lt hrj.1 hrj.2];have hs:=aQd hp hrj;rw [aJH];generalize aEl p (F r j)=s at*;have h1:=aNi hi hk hrm;generalize aAV F L.length r=F1 at*;rw [dQ (r:=cK m n (yW p F1 L.length s)) (λx=>(cK m n (aAi p F1 L.length s x),(x:Int))) n ?_ (λx hx=>?_) (λ_=>?_),aC]
   ·have h2:=aKq hp (k:=L.length) (s:=s) h1;generalize yW p F1 L.length s=F2 at*;rw [dQ (r:=cK m n (aBV p F2 L.length j)) (λx=>(cK m n (lU p F2 L.length j x),(x:Int))) m ?_ (λx hx=>?_) (λ_=>?_),aC]
    ·rw [bG (by simp;omega),aM];simp [sJ]
    ·congr 1
    ·unfold uP;simp only [lK];rw [iE hx,aM];by_cases hxk:x=L.length
     ·rw [bG (by omega),gO,aX,bU hx (by omega),hxk,aKr]
     ·rw [eB (by omega),Bool.not_false,aM,aKo hN hm hx,aC,aC,aAO hN hx,aAP hN hm hx,aAO hN hk,aAP hN hm hk];simp only [dH,Nat.add_sub_cancel_left,Nat.zero_add];rw [iE hj,gd,aM,qJ _ hx hj,aC];have e2:lU p F2 L.length j x x j=F2 x j:=by simp [lU]
      have h3:=h2 x j hx hj;have h4:=aRk hp (k:=L.length) (j:=j) (x:=x) h2;rw [e2,cY (by omega),aRj hp hn hx hk hxk (by omega) (λb hb=>h4 _ b hx hb) (λb hb=>h4 _ b hk hb),aC,jT,jT,bG rfl,aM,bU hx (by omega),aTM hp hxk]
    ·unfold uP;simp only;rw [iT (bO _),aX];congr 2;exact dG λa b ha hb=>by simp only [lU];rw [aY ha]
   ·congr 1
   ·unfold uO;simp only [lK];rw [aAO hN hk,aAP hN hm hk];simp only [dH,Nat.add_sub_cancel_left,Nat.zero_add];have g1:=h1 _ x hk hx;have g2:=aPP (a:=F1 L.length x) (b:=s) (by omega) (by omega);rw [iE hx,aM,gd,aM,qJ _ hk hx,aC,aWL hp,aM,aM,aC,aJF,cY (by omega),Int.tmod_eq_emod_of_nonneg g2.1,aCF _ _ hk hx,bU hx (by omega),aJG]
   ·unfold uO;simp only [lK];rw [aAO hN hk,aAP hN hm hk];simp only [dH,Nat.add_sub_cancel_left,Nat.zero_add];rw [iT (bO _),aX];congr 2;exact dG λa b ha hb=>by simp only [aAi];rw [aY hb]
  ·congr 1
  ·unfold uN;simp only [lK];rw [iE hx,aM,aKo hN hm hrm,aC,aC,aAO hN hk,aAP hN hm hk,aAO hN hrm,aAP hN hm hrm];simp only [dH,Nat.add_sub_cancel_left,Nat.zero_add];rw [iE hx,gd,aM,qJ _ hrm hx,aC,aM,qJ _ hk hx,aC,aM,aC,aM,aCF _ _ hk hx,qJ _ hrm hx,aC,aCF _ _ hrm hx,aEC,aEC,bU hx (by omega),aKp]
  ·unfold uN;simp only;rw [iT (bO _),aX];congr 2;exact dG λa b ha hb=>by simp only [aCq];rw [aY hb]
theorem aME {p:Int} {m n:Nat} {F:Nat→Nat→Int} (T:Tb p m n F):zS p ⟨m,n,cK m n F⟩=some (⟨m,n,cK m n (fU p m F n).1⟩,sJ (fU p m F n).2):=by
 have hN:=T.hN;have hn:=T.hn;unfold zS gY hO;simp only;rw [jT,bG hN,aM,aC,aC];simp only;rw [dQ (r:=(cK m n (fU p m F n).1,sJ (fU p m F n).2)) (λj=>((j:Int),cK m n (fU p m F j).1,sJ (fU p m F j).2)) n (by simp [fU,sJ]) (λj hj=>?_) (λ_=>?_),aC]
 ·show _=some (Sum.inl (((j+1:Nat):Int),cK m n (kE p m (fU p m F j) j).1,sJ (kE p m (fU p m F j) j).2):(Int×List Int×List Int) ⊕ (List Int×List Int));exact aUv ⟨T.hp,T.hN,T.hm,T.hn,aDO (by have:=mH T.hp;omega) T.hi j⟩ hj _ (aDu j) _
 ·unfold qT;simp only;rw [iT (bO _),aX]
theorem aPU {p:Int} {m n:Nat} {F:Nat→Nat→Int} (T:Tb p m n F):aBY p ⟨m,n,cK m n F⟩=some ((fU p m F n).2.length:Int):=by
 unfold aBY;rw [aME T,aC,lK]
theorem aWN {p:Int} {m n:Nat} {F:Nat→Nat→Int} (T:Tb p m n F) {j:Nat} (hj:j<n) (L:List Nat) (hL:L.length<m) (l:List Int):
  Lp (nC ⟨m,n,l⟩ ((j:Int),cK m n F,sJ L,(L.length:Int))) (-1,wr ((m:Int) - 1))=some (if qK F j (m - L.length) L.length=m then -1 else ((qK F j (m - L.length) L.length:Nat):Int)):=by
 obtain ⟨hp,hN,hm,hn,hi⟩:=T;refine dQ (λt=>(if qK F j t (m - t)=m then -1 else ((qK F j t (m - t):Nat):Int),((m - t:Nat):Int) - 1)) (m - L.length) ?_ (λt ht=>?_) (λ_=>?_)
 ·simp only [qK,Nat.sub_zero,if_true];rw [cY (by omega)]
 ·unfold nC;simp only;have e:((m - t:Nat):Int) - 1=((m - (t+1):Nat):Int):=by omega
  have hi2:m - (t+1)<m:=by omega
  rw [e,bG (by omega),aM,atT hN hi2 hj,aC,cY (x:=((m - (t+1):Nat):Int) - 1) (by omega)]
  have ep:qK F j (t+1) (m - (t+1))=if F (m - (t+1)) j=0 then qK F j t (m - t) else m - (t+1):=by
   rw [qK,show m - (t+1)+1=m - t by omega]
  rw [ep];by_cases h:F (m - (t+1)) j=0
  ·rw [bG h,gO,aX,aY h]
  ·rw [eB h,Bool.not_false,aM,aW h,aW (by omega)]
 ·rw [show m - (m - L.length)=L.length by omega];unfold nC;simp only;rw [eB (by omega),aX]
theorem aUw {p:Int} {m n:Nat} {F:Nat→Nat→Int} (T:Tb p m n F) {j:Nat} (hj:j<n) (L:List Nat) (hL:L.length<m) (l:List Int):
  iH p ⟨m,n,l⟩ ((j:Int),cK m n F,sJ L,(L.length:Int))=some (.inl (((j+1:Nat):Int),cK m n (kE p m (F,L) j).1,sJ (kE p m (F,L) j).2,((kE p m (F,L) j).2.length:Int))):=by
 have hpv:=aWN T hj L hL l;obtain ⟨hp,hN,hm,hn,hi⟩:=T;have hb:=mH hp;have hle:= @aCG F j (m - L.length) L.length;unfold iH kE;simp only;rw [iE hj,aM,iE hL,aM,hpv,aC,bU hj (by omega)];clear hpv;generalize qK F j (m - L.length) L.length=r at*;have hk:L.length<m:=hL;by_cases hr:r=m
 ·rw [aY hr,aY hr,bG (by omega),aM]
 ·rw [aW hr,aW hr,eB (by omega),aX];have hrm:r<m:=by omega
  rw [dQ (r:=cK m n (aAV F L.length r)) (λx=>(cK m n (aCq F L.length r x),(x:Int))) n ?_ (λx hx=>?_) (λ_=>?_),aC,atT hN hk hj,aC]
  ·have e1:aAV F L.length r L.length j=F r j:=by simp [aAV]
   have hrj:=hi r j hrm hj;rw [e1,aRi hp (by omega),aC,Int.emod_eq_of_lt hrj.1 hrj.2];have hs:=aQd hp hrj;rw [aJH];generalize aEl p (F r j)=s at*;have h1:=aNi hi hk hrm;generalize aAV F L.length r=F1 at*;rw [dQ (r:=cK m n (yW p F1 L.length s)) (λx=>(cK m n (aAi p F1 L.length s x),(x:Int))) n ?_ (λx hx=>?_) (λ_=>?_),aC]
   ·have h2:=aKq hp (k:=L.length) (s:=s) h1;generalize yW p F1 L.length s=F2 at*;rw [dQ (r:=cK m n (aBV p F2 L.length j)) (λx=>(cK m n (lU p F2 L.length j x),(x:Int))) m ?_ (λx hx=>?_) (λ_=>?_),aC]
    ·rw [lK,bG (by simp;omega),aM,bU hk (by omega)];simp [sJ]
    ·congr 1
    ·unfold rQ;simp only;rw [iE hx,aM,atT hN hx hj,aC,bU hx (by omega)];have e2:lU p F2 L.length j x x j=F2 x j:=by simp [lU]
     rw [e2];by_cases hxk:x=L.length
     ·rw [dS (r:=cK m n (lU p F2 L.length j x)) ?_,aC,hxk,aKr];unfold nD;simp only;rcases Nat.eq_zero_or_pos n with h0|h0
      ·omega
      ·rw [bG (by omega),aM,bG (by omega),gO,aX]
     ·rw [dQ (r:=cK m n (lU p F2 L.length j (x+1))) (λy=>(cK m n (λa c=>if a=x∧c<y then aBV p F2 L.length j x c else lU p F2 L.length j x a c),(y:Int))) n (by simp) (λy hy=>?_) (λ_=>?_),aC]
      ·unfold nD;simp only;rw [iE hy,aM,eB (by omega),Bool.not_false,aM,atT hN hx hy,aC,atT hN hk hy,aC];have e3:lU p F2 L.length j x x y=F2 x y:=by simp [lU]
       have e4:lU p F2 L.length j x L.length y=F2 L.length y:=by simp [lU,aBV]
       rw [aW (by omega),aW (by omega),e3,e4];have g1:=h2 x j hx hj;have g2:=h2 L.length y hk hy;have g3:=h2 x y hx hy;have g4:=aPP (a:=F2 x j) (b:=F2 L.length y) (by omega) (by omega);rw [cY (x:=F2 x j*F2 L.length y) (by omega),cY (x:=F2 x y - F2 x j*F2 L.length y) (by omega),aCp hp (by omega),aC,aC,aPR hN hx hy,bU hy (by omega)];congr 3;refine dG λa c ha hc=>?_;simp only [aFW];by_cases e5:a=x∧c=y
       ·rw [aY e5,aY (by omega),e5.2];simp only [aBV];rw [aW hxk]
       ·rw [aW e5];by_cases e6:a=x∧c<y
        ·rw [aY e6,aY (by omega)]
        ·rw [aW e6,aW (by omega)]
      ·unfold nD;simp only;rw [iT (bO _),aX];congr 2;refine dG λa c ha hc=>?_;simp only [lU];by_cases e5:a=x
       ·rw [aY ⟨e5,hc⟩,aY (by omega),e5]
       ·rw [aW (by omega)];by_cases e6:a<x
        ·rw [aY e6,aY (by omega)]
        ·rw [aW e6,aW (by omega)]
    ·unfold rQ;simp only;rw [iT (bO _),aX];congr 2;exact dG λa b ha hb=>by simp only [lU];rw [aY ha]
   ·congr 1
   ·unfold rP;simp only;have g1:=h1 _ x hk hx;have g2:=aPP (a:=F1 L.length x) (b:=s) (by omega) (by omega);rw [iE hx,aM,atT hN hk hx,aC,aJF,Int.mul_comm,cY (by omega),aCp hp (by omega),aC,aC,aPR hN hk hx,bU hx (by omega),aJG]
   ·unfold rP;simp only;rw [iT (bO _),aX];congr 2;exact dG λa b ha hb=>by simp only [aAi];rw [aY hb]
  ·congr 1
  ·unfold rO;simp only;rw [iE hx,aM,atT hN hk hx,aC,atT hN hrm hx,aC,aC,aPR hN hk hx,atT hN hrm hx,aC,aPR hN hrm hx,aEC,aEC,bU hx (by omega),aKp]
  ·unfold rO;simp only;rw [iT (bO _),aX];congr 2;exact dG λa b ha hb=>by simp only [aCq];rw [aY hb]
theorem aMF {p:Int} {m n:Nat} {F:Nat→Nat→Int} (T:Tb p m n F):wJ p ⟨m,n,cK m n F⟩=some (⟨m,n,cK m n (fU p m F n).1⟩,sJ (fU p m F n).2):=by
 have hN:=T.hN;have hn:=T.hn;unfold wJ aBp;simp only;rw [jT,bG (by simp;omega),aM,aC];simp only [List.nil_append]
 obtain ⟨r,h1,h2⟩: ∃ r,Lp (iH p ⟨m,n,cK m n F⟩) (0,cK m n F,[],0)=some r∧r=(cK m n (fU p m F n).1,sJ (fU p m F n).2):=by
  refine aDt (λs=> ∃ j:Nat,j≤n∧s=((j:Int),cK m n (fU p m F j).1,sJ (fU p m F j).2,((fU p m F j).2.length:Int))) (λs=>n - s.1.toNat) _ ⟨0,Nat.zero_le _,by simp [fU,sJ]⟩ ?_;rintro s ⟨j,hj,rfl⟩;rcases eD j n with hlt|hge
  ·have hlen:= @aDu p m F j;rcases eD (fU p m F j).2.length m with hl|hl
   ·refine .inl ⟨_,aUw ⟨T.hp,T.hN,T.hm,T.hn,aDO (by have:=mH T.hp;omega) T.hi j⟩ hlt _ hl _,⟨j+1,hlt,rfl⟩,?_⟩;simp;omega
   ·refine .inr ⟨_,?_,rfl⟩;unfold iH;simp only;have e:=aJE (p:=p) (F:=F) (j:=j) (by omega:(fU p m F j).2.length=m) (n - j);rw [show j+(n - j)=n by omega] at e;rw [iE hlt,aM,iT hl,aX,e]
  ·have e:j=n:=by omega
   subst e;refine .inr ⟨_,?_,rfl⟩;unfold iH;simp only;rw [iT (bO _),aX]
 rw [h1,h2,aC]
end
end Go.Proofs.YtilpfdokmlanjaaGreat

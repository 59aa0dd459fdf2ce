/-
  Several texts of the claim in one.
-/
import Derived.Lib.AppendZerosOnto
import Derived.Test.YtpppcfhgaehcjaaGreatProg
import Derived.Test.YtpppcfhgaehcjaaGreatH6
set_option linter.unusedVariables false
set_option linter.unusedSimpArgs false
namespace Go.Proofs.YtpppcfhgaehcjaaGreat
open Go.RowKit
noncomputable section
set_option maxRecDepth 10000
structure HasV (P:Program) (f:FuncId) (ds:List AV) (r:AV):Prop where
 enters:Enters P f
 calls: ∀ (w:World) (args:Array Value) (S:List Nat),RepVs w ds args.toList S→Calls P f args w λe w'=> ∃ v S',e= .returned v∧Below w.heap.size w w'∧RepD w' r v S'∧ ∀ x∈S',x∈S
theorem aBZ {w:World} {h:Hp} {u:Us} {ν:Nu} {d:AV} {v:Value} (r:Rep1 w h u ν d v) (ok:eC d=true): ∃ S,RepD w d v S∧ ∀ x∈S,iD h ν x:=by
 cases d <;> simp only [eC,fL] at ok <;> simp only [Rep1] at r
 ·exact ⟨[],by rw [r.1];exact wC r.2,by simp⟩
 ·exact r
 ·exact r
theorem aCD {w:World} {h:Hp} {u:Us} {ν:Nu} : ∀ {ds:List AV} {vs:List Value},All2 (Rep1 w h u ν) ds vs→ds.all eC=true→ ∃ S,RepVs w ds vs S∧ ∀ x∈S,iD h ν x
 | [],vs,r,_=>by simp only [All2] at r;subst r;exact ⟨[],by simp [RepVs],by simp⟩
 |d::ds,vs,⟨v,q,e,r1,r2⟩,ok=>by
  subst e;simp only [List.all_cons,cU] at ok;obtain ⟨S1,a1,a2⟩:=aBZ r1 ok.1;obtain ⟨S2,b1,b2⟩:=aCD r2 ok.2;refine ⟨S1++S2,by simp only [RepVs];exact ⟨v,q,S1,S2,rfl,rfl,a1,b1⟩,λx hx=>?_⟩;rcases dS.1 hx with h|h
  ·exact a2 x h
  ·exact b2 x h
theorem aNE {w:World} {h:Hp} {u:Us} {ν:Nu} {d:AV} {v:Value} (r:RepA w h u ν d v) (ok:sC d=true): ∃ S,RepD w d v S∧ ∀ x∈S,iD h ν x:=by
 cases d <;> simp only [sC,eC,fL] at ok <;> simp only [RepA,RepB] at r
 ·exact aBZ r rfl
 ·exact aBZ r rfl
 ·exact aBZ r rfl
 ·obtain ⟨vs,rfl,r⟩:=r;obtain ⟨S,a,b⟩:=aCD r ok;exact ⟨S,by simp only [RepD];exact ⟨vs,rfl,a⟩,b⟩
 ·obtain ⟨vs,rfl,r⟩:=r;obtain ⟨S,a,b⟩:=aCD r ok;exact ⟨S,by simp only [RepD];exact ⟨vs,rfl,a⟩,b⟩
theorem aCE {w:World} {h:Hp} {u:Us} {ν:Nu} : ∀ {ds:List AV} {vs:List Value},All2 (RepA w h u ν) ds vs→ds.all sC=true→ ∃ S,RepVs w ds vs S∧ ∀ x∈S,iD h ν x
 | [],vs,r,_=>by simp only [All2] at r;subst r;exact ⟨[],by simp [RepVs],by simp⟩
 |d::ds,vs,⟨v,q,e,r1,r2⟩,ok=>by
  subst e;simp only [List.all_cons,cU] at ok;obtain ⟨S1,a1,a2⟩:=aNE r1 ok.1;obtain ⟨S2,b1,b2⟩:=aCE r2 ok.2;refine ⟨S1++S2,by simp only [RepVs];exact ⟨v,q,S1,S2,rfl,rfl,a1,b1⟩,λx hx=>?_⟩;rcases dS.1 hx with h|h
  ·exact a2 x h
  ·exact b2 x h
section
variable {P:Program} {dst:Option Tmp} {ty:TypeId} {pos:String} {aft:Array Edge} {g:Option (Nat×Bool)} {ins:Operand→Option AV} {hp:Hp} {κ:Kp}
theorem aJv {fo:Operand} {xs:Array Operand} {ats:Array TypeId} {f:FuncId} {ds:List AV} {k:Nat} {es:List (List AV)} (hc:HasV P f ds (.list k es)) (hf:ins fo=some (.fn f [])) (hx:evs ins xs.toList=some ds) (hok:ds.all sC=true):
  AEff P ⟨dst,.call ⟨.value fo,xs,ats⟩,ty,pos,aft,g⟩ ins hp κ ⟨.list k es,[],[],[]⟩:=by
 refine ⟨λC s ν a w Q K {hκ} hi' ht hnw hd hs hK=>?_⟩;have h1:=hs.ev ((hi' fo (by simp [Op.operands,Call.operands])).trans hf);simp only [RepA,RepB] at h1;obtain ⟨cv,h1,h2⟩:=h1;simp only [All2] at h2;subst h2;have h3:=wD hs (xs:=xs.toList) (λy hy=>hi' y (by simp [Op.operands,Call.operands];exact .inr (Array.mem_toList_iff.1 hy))) hx;obtain ⟨S,e1,e2⟩:=aCE h3 hok;have hcall:=hc.calls w (xs.map a.eval) S (by simpa using e1);unfold Oper.wp
 have hex:(execOp a.eval ⟨dst,.call ⟨.value fo,xs,ats⟩,ty,pos,aft,g⟩).run P w= .ok (.enter f (xs.map a.eval)) w:=by
  have:execOp a.eval ⟨dst,.call ⟨.value fo,xs,ats⟩,ty,pos,aft,g⟩=callFunc f (xs.map a.eval):=by
   simp [execOp,resolve,h1,Deferred.ofValue,invoke]
  rw [this];exact hc.enters _ _
 rw [hex];simp only [Oper.upon];refine hcall.mono λe w' ⟨v,S',he,hb,hr,hsub⟩=>?_;subst he;simp only;obtain ⟨φ,hh⟩:=hs.heap;have ext:Ext w s.heap s.used ν w' s.heap s.used ν:=⟨λ_ h=>h,λ_ blk _ h=>⟨blk,h,rfl,rfl,rfl⟩,λx hx h=>⟨hb.block x hx,h⟩,rfl⟩;refine hK ν _ _ (hs.step hd (s':=s.app dst _) ext (hb.mono hs.base) ⟨φ,λb blk hbl=>?_,hh.apart⟩ rfl ?_)
 ·obtain ⟨g1,g2,g3,g4⟩:=hh.blk b blk hbl;exact ⟨g1,g2.ext ext rfl (λy hy=>hb.block y (g2.lt y hy)),g3,g4⟩
 ·exact ⟨S',hr,λx hx=>e2 x (hsub x hx)⟩
theorem aLN {T:List (Nat×Ty)} (hT:TyOk P T) {s:AState} {x:Operand} {zl zh:Operand} {t e:Nat} {y ye:Ty} {ao:Option Addr} {n c:Nat} {kl kh:IntKind} {l h:Int} (q:0≤l∧l≤h∧h≤n∧n≤c) (hx:s.ev x=some (.sc (.slice ao n c))) (hlo:s.ev zl=some (.sc (.int kl l))) (hhi:s.ev zh=some (.sc (.int kh h))) (hy:dA T t=some y) (hd:y.desc= .slice e) (hye:dA T e=some ye):
  AEff P ⟨dst,.slice t x (some zl) (some zh) none,ty,pos,aft,g⟩ s.ev s.heap s.kp ⟨.sc (.slice (if c=l.toNat then ao else ao.map (·.add (l.toNat*ye.size))) (h.toNat - l.toNat) (c - l.toNat)),[],[],[]⟩:=by
 refine AEff.pure λC s' ν a w hi' ht hs=>?_;have h1:=hs.ev ((hi' x (by simp [Op.operands])).trans hx);have h2:=hs.ev ((hi' zl (by simp [Op.operands])).trans hlo);have h3:=hs.ev ((hi' zh (by simp [Op.operands])).trans hhi);simp only [RepA,RepB,Rep1] at h1 h2 h3;obtain ⟨i1,z1,d1,y1⟩:=hT.is hy;obtain ⟨i2,z2,d2,y2⟩:=hT.is hye;have hsb:=qW (P:=P) (len:=n) (cap:=c) (lo:=some (.int kl l)) (hi:=some (.int kh h)) w (.inr ⟨kl,rfl⟩) (.inr ⟨kh,rfl⟩) q.1 q.2.1 q.2.2.1 q.2.2.2;refine ⟨_,?_,uO rfl⟩;simp only [execOp,Instr.sliceAt,Instr.slice,h1.1,h2.1,h3.1,Sem.run_bind,jA (y1.slice hd),Result.andThen_ok,jQ y2.info,y2.size,Option.map_none,Option.map_some];rw [hsb];by_cases e:c=l.toNat <;> simp [e]
end
theorem aNF {w:World} {k n c:Nat} {es:List (List AV)} {ao:Option Addr} {S:List Nat} {l h:Int} (r:RepD w (.list k es) (.slice ao n c) S) (q:0≤l∧l≤h∧h≤n): ∃ S',RepD w (.list k ((es.drop l.toNat).take (h.toNat - l.toNat))) (.slice (if c=l.toNat then ao else ao.map (·.add (l.toNat*k))) (h.toNat - l.toNat) (c - l.toNat)) S'∧ ∀ x∈S',x∈S:=by
 simp only [RepD] at r ⊢;obtain ⟨ao',c',h3,h4,h5,h6⟩:=r;cases h3;have hlen:((es.drop l.toNat).take (h.toNat - l.toNat)).length=h.toNat - l.toNat:=by simp;omega
 rw [hlen];by_cases hz:h.toNat - l.toNat=0
 ·refine ⟨[],⟨_,_,rfl,by omega,by omega,.inl ⟨?_,rfl⟩⟩,by simp⟩;rw [hz];simp
 ·rcases h6 with ⟨h6,_⟩|⟨b,o,S',rfl,h8,rfl,h9⟩
  ·have:es.length=0:=by rw [h6];rfl
   omega
  ·rw [aO (by omega)];obtain ⟨U1,g1,g2⟩:=h9.dropT (m:=l.toNat);obtain ⟨U2,g3,g4⟩:=g1.takeT (m:=h.toNat - l.toNat);refine ⟨b::U2,⟨_,_,rfl,by omega,by omega,.inr ⟨b,o+l.toNat*k,U2,by simp [Addr.add_lit],h8,rfl,g3⟩⟩,?_⟩;intro y hy;rcases dK.1 hy with rfl|h'
   ·simp
   ·simp [g2 y (g4 y h')]
def vE (m:Mt) (i:Int):Int:=wr (i*m.cols)
def aBC (m:Mt) (i:Int):Int:=wr (wr (i+1)*m.cols)
def aFc (m:Mt) (i:Int):Option (List Int):=bif (decide (0≤vE m i)&&(decide (vE m i≤aBC m i)&&decide (aBC m i≤(m.cells.length:Int)))) then some ((m.cells.drop (vE m i).toNat).take ((aBC m i).toNat - (vE m i).toNat)) else none
theorem aRS (m:Mt) (i:Int) (ao:Option Addr) (n c:Nat) (q:0≤vE m i∧vE m i≤aBC m i∧aBC m i≤n∧n≤c):HasC Tryz.prog 150 [.agg [.int m.rows,.int m.cols,.sc (.slice ao n c)],.int i]
  (.sc (.slice (if c=(vE m i).toNat then ao else ao.map (·.add ((vE m i).toNat *1))) ((aBC m i).toNat - (vE m i).toNat) (c - (vE m i).toNat))):=by
 refine aAJ aH (rvs:=[.tmp 4]) (ns:=[0,1,2,3,4,5,6,7,8,9,10,11,12,13]) Tryz.func150 rfl rfl Tryz.ntmps150 rfl rfl rfl ?_;refine iS ?_;refine dU ?_;refine aQ (aQn rfl rfl rfl rfl) rfl rfl rfl ?_;refine aQ (eP rfl) rfl rfl rfl ?_;refine eK ?_;refine oP ?_;refine iS ?_;refine dU ?_;refine aQ (vA aH rfl rfl rfl rfl rfl rfl rfl) rfl rfl rfl ?_;refine aQ (cK aH rfl rfl rfl rfl rfl rfl rfl) rfl rfl rfl ?_;refine aQ (dL rfl) rfl rfl rfl ?_;refine aQ (vA aH rfl rfl rfl rfl rfl rfl rfl) rfl rfl rfl ?_;refine aQ (cK aH rfl rfl rfl rfl rfl rfl rfl) rfl rfl rfl ?_;refine aQ (fG rfl rfl) rfl rfl rfl ?_;refine aQ (dL rfl) rfl rfl rfl ?_;refine aQ (bC rfl rfl) rfl rfl rfl ?_;refine aQ (vA aH rfl rfl rfl rfl rfl rfl rfl) rfl rfl rfl ?_;refine aQ (cK aH rfl rfl rfl rfl rfl rfl rfl) rfl rfl rfl ?_;refine aQ (fG rfl rfl) rfl rfl rfl ?_;refine aQ (aLN aH (l:=vE m i) (h:=aBC m i) q rfl rfl rfl rfl rfl rfl) rfl rfl rfl ?_;refine aQ (eP rfl) rfl rfl rfl ?_;refine eK ?_;refine oP ?_;refine aG ?_;exact bN rfl rfl rfl (aSI rfl)
theorem aOU (m:Mt) (i:Int) (r:List Int) (h:aFc m i=some r):HasV Tryz.prog 150 [.agg (eM m),.int i] (.list 1 (List.map eI r)):=by
 obtain ⟨q,h⟩:=cg h;obtain rfl:=so h;simp only [cU,iK] at q;refine ⟨Enters.mk Tryz.func150 (by kernel_rfl) (by kernel_rfl),λw args S hargs=>?_⟩;obtain ⟨args⟩:=args;simp only [RepVs] at hargs;obtain ⟨v,r,S1,S2,h1,rfl,h3,v2,r2,S3,S4,h4,rfl,h5,rfl,rfl⟩:=hargs;subst h4 h1;simp only [RepD,eM] at h3;obtain ⟨vs,rfl,h3⟩:=h3;simp only [RepVs] at h3;obtain ⟨u1,r1,T1,T2,rfl,rfl,g1,u2,r3,T3,T4,rfl,rfl,g2,u3,r4,T5,T6,rfl,rfl,g3,rfl,rfl⟩:=h3
 have hu3: ∃ ao n c,u3= .slice ao n c∧n=m.cells.length∧n≤c:=by
  simp only [RepD] at g3;obtain ⟨a,c,rfl,g4,_⟩:=g3;exact ⟨_,_,_,rfl,by simp [aJk],g4⟩
 obtain ⟨ao,n,c,rfl,hn,hnc⟩:=hu3
 have hcall:=(aRS m i ao n c ⟨q.1,q.2.1,by omega,hnc⟩).calls w #[.agg #[u1,u2,.slice ao n c],v2] (T1++(T3++([]++[]))++(S3++[])) (by
  simp only [RepVs];refine ⟨_,_,_,_,rfl,rfl,?_,_,_,_,_,rfl,rfl,h5,rfl,rfl⟩;simp only [RepD];refine ⟨[u1,u2,.slice ao n c],rfl,?_⟩;simp only [RepVs]
  exact ⟨_,_,_,_,rfl,rfl,by simpa only [RepD] using g1,_,_,_,_,rfl,rfl,by simpa only [RepD] using g2,_,_,[],[],rfl,rfl,wC rfl,rfl,rfl⟩)
 refine hcall.mono λe w' ⟨v,S',he,hb,hr,_⟩=>?_;simp only [aIT,aMt,aAG] at hr;obtain ⟨rfl,_,_⟩:=hr;obtain ⟨U,k1,k2⟩:=aNF (l:=vE m i) (h:=aBC m i) g3 ⟨q.1,q.2.1,by omega⟩;refine ⟨_,U,he,hb,?_,?_⟩
 ·have hes:((aMw m.cells).drop (vE m i).toNat).take ((aBC m i).toNat - (vE m i).toNat)=List.map eI ((m.cells.drop (vE m i).toNat).take ((aBC m i).toNat - (vE m i).toNat)):=by
   show ((m.cells.map eI).drop _).take _=_;rw [List.map_take,List.map_drop]
  rw [←hes];exact k1.below hb
 ·intro x hx;have:=k2 x hx;simp [this]
def aOV (hp:Hp) (touch:List Nat):List (Nat×Option Blk)→Prop
 | []=>True
 |(b,x)::r=>hp b=x∧touch.contains b=true∧aOV hp touch r
theorem aEG {hp h:Hp} {touch:List Nat} (ht: ∀ b∈touch,h b=hp b): ∀ {ed:List (Nat×Option Blk)},aOV hp touch ed→aZ ed h=h
 | [],_=>rfl
 |(b,x)::r,⟨h1,h2,h3⟩=>by
  funext c;simp only [aZ];by_cases e:c=b
  ·subst e;rw [bU,aI,←h1,ht c (by simpa using h2)]
  ·rw [bX e,aW,aEG ht h3]
theorem AEff.pureE {P:Program} {o:Oper} {ins:Operand→Option AV} {hp:Hp} {κ:Kp} {v:AV} {tc:List Nat} {ed:List (Nat×Option Blk)} (h:AEff P o ins hp κ ⟨v,tc,ed,[]⟩) (hs:aOV hp tc ed):AEff P o ins hp κ ⟨v,tc,[],[]⟩:=by
 refine ⟨λC s ν a w Q K {hκ} hi ht hn hd hsim hK=>h.out C s ν a w Q K (hκ:=hκ) hi ht hn hd hsim λν' a' w' hs'=>hK ν' a' w' ?_⟩
 have e:s.app o.dst ⟨v,tc,ed,[]⟩=s.app o.dst ⟨v,tc,[],[]⟩:=by
  unfold AState.app;rw [aEG ht hs];rfl
 rw [←e];exact hs'
theorem aIc {P:Program} {t tn e bytes:Nat} {size:Nat} (et:ElemTy P t e size bytes) (htn:P.underlying tn=some (.int .i64)) (hs:0<size) (w:World) (n:Nat) (h0:0<n) (hn:n≤1048576) (hb:n*bytes≤140737488355328) (ty:Nat):
  ∃ G cur,n≤G∧G≤maxLen∧cur.size=G*size∧(Builtin.append_ #[t,tn] ty #[.slice none 0 0,.int .i64 n]).run P w= .ok (.slice (some ⟨w.heap.size,0,none⟩) n G) (w.drew.alloc (.cells cur e)):=by
 obtain ⟨i,z,h1,h2,h3,h4,h5⟩:=et.hi;have hold:(Builtin.firstCells i.size 0 (.slice none 0 0)).run P w.drew= .ok ([]:List Value).toArray w.drew:=run_firstCells_none w.drew i.size 0 0 0;have h:=Lib.run_append_grow_zeros w t tn ty e i z .i64 .i64 et.ht htn h1 h2 none 0 0 [] hold n h0 (by rw [h3];exact hs) (by omega) (by omega) (by rw [h4];omega) (growslice_fits (by omega) (by rw [h4];simpa using hb));have hG:=grownCap_ge w (0+n) 0 e;have hM:=grownCap_le_maxLen w (0+n) 0 e (by unfold maxLen;omega);rw [Nat.zero_add] at h hG hM;refine ⟨grownCap w n 0 e,_,hG,hM,?_,h⟩;simp only [Array.size_append,List.size_toArray,List.length_nil,Nat.zero_add];unfold Builtin.zeroCells;simp only [Array.size_map,Array.size_range,h5];rw [←Nat.add_mul];congr 1;omega
set_option maxRecDepth 100000 in
set_option maxHeartbeats 1000000 in
theorem aQB (n:Nat) (w:World) (hn:n≤1048576):
  Calls Tryz.prog 144 #[.slice none 0 0,.int .i64 n] w (Ret w λv w'=> ∃ S,Own 3 aGt w' w.heap.size v [] S):=by
 by_cases h0:n=0
 ·subst h0;show Calls Tryz.prog 144 #[.slice none 0 0,.int .i64 0] w _
  go_enter Tryz.func144,Tryz.ntmps144
  go_wp2
  go_ret
  exact ⟨_,rfl,Below.refl _ _,[],Own.nil _ _ _ _⟩
 ·have h1: ¬ ((n:Int)<0):=by omega
  have h4:(n:Int)>0:=by omega
  have key: ∀ ty,∃ G cur,n≤G∧G≤maxLen∧cur.size=G*1∧(Builtin.append_ #[22,3] ty #[.slice none 0 0,.int .i64 n]).run Tryz.prog w= .ok (.slice (some ⟨w.heap.size,0,none⟩) n G) (w.drew.alloc (.cells cur 3)):=λty=>
   aIc aSO Tryz.underlying3 (by decide) w n (by omega) hn (by omega) ty
  obtain ⟨G,cur,hG,hM,hc,hr0⟩:=key 22;have hG63:G≤9223372036854775807:=by unfold maxLen at hM;omega
  have HE:Hid (Own 3 aGt (w.drew.alloc (.cells cur 3)) w.heap.size (.slice (some ⟨w.heap.size,0,none⟩) 0 G) [] [w.heap.size]∧Below w.heap.size w (w.drew.alloc (.cells cur 3))):=
   ⟨⟨[],[],World.ownsRow_made w.drew cur G (bJ _) hM hc,⟨rfl,rfl⟩,rfl,⟨by simp,by simp⟩⟩,((aJQ 1 (Below.refl _ _):Below w.heap.size w (w.drewN 1))).alloc (bJ _) _⟩
  clear key hM hc
  go_enter Tryz.func144,Tryz.ntmps144
  go_wp2_with (at_builtin;refine Lib.wpList_append_run _ rfl _ _ _ _ rfl _ _ rfl rfl _ _ hr0 ?_)
  all_goals (go_ret;exact ⟨_,rfl,HE.out.2,_,HE.out.1⟩)
def aLO (n:Int):Option (List Int):=bif (decide (0≤n)&&decide (n≤1048576)) then some [] else none
theorem aQC {h:Hp} {k:Nat} :viewA h (.nil k) (.sc (.slice none 0 0)):=rfl
theorem aRT (n:Int) (r:List Int) (h:aLO n=some r):HasC Tryz.prog 144 [.sc (.slice none 0 0),.int n] (.list 1 (List.map eI r)):=by
 obtain ⟨q,h⟩:=cg h;obtain rfl:=so h;simp only [cU,iK] at q;refine ⟨Enters.mk Tryz.func144 (by kernel_rfl) (by kernel_rfl),λw args S hargs=>?_⟩;obtain ⟨args⟩:=args;simp only [RepVs,RepD] at hargs;obtain ⟨v,r,S1,S2,h1,rfl,⟨rfl,_,rfl⟩,v2,r2,S3,S4,rfl,rfl,⟨rfl,_,rfl⟩,rfl,rfl⟩:=hargs;subst h1;have hc:=aQB n.toNat w (by omega);rw [show ((n.toNat:Nat):Int)=n by omega] at hc;refine hc.mono λe w' ⟨v,he,hb,S2,ho⟩=>?_;obtain ⟨g1,g2⟩:=aJu ho;exact ⟨v,S2,he,hb,g1,g2⟩
end
noncomputable section
structure HasT (P:Program) (f:FuncId) (ds:List AV) (hl:List (Nat×Blk)) (kp:Nat) (r:AV) (hl':List (Nat×Blk)):Prop where
 enters:Enters P f
 calls: ∀ (B:Nat) (M:Nat→Prop) (w:World) (args:Array Value) (ν:Nu) (φ:Nat→List Nat),(∀ x,M x→B≤x)→B≤w.heap.size→(∀ x,w.heap.size≤x→M x)→(∀ x,M x→ν.ok x)→All2 (RepA w (eV hl) (qE kp) ν) ds args.toList→HeapOk M w (eV hl) (qE kp) ν φ→
  Calls P f args w λe w'=> ∃ v u' ν' φ',e= .returned v∧Below B w w'∧ExtF (λx=> ¬ M x) w (eV hl) (qE kp) ν w' (eV hl') u' ν'∧HeapOk M w' (eV hl') u' ν' φ'∧RepA w' (eV hl') u' ν' r v
theorem aQD {M:Nat→Prop} {w:World} {h:Hp} {u:Us} {ν:Nu} {φ:Nat→List Nat} (hh:HeapOk M w h u ν φ) {x:Nat} (hx: ¬ M x):pI h ν x:=by
 intro b blk β c hb hν e;subst e;obtain ⟨_,g2,_,g4⟩:=hh.blk b blk hb;exact hx (g4 _ (lX g2 hν))
theorem ExtF.shrink {F:Nat→Prop} {w w':World} {h h' g:Hp} {u u':Us} {ν ν':Nu} (e:ExtF F w h u ν w' h' u' ν') (hg: ∀ b blk,g b=some blk→h' b=some blk):ExtF F w h u ν w' g u' ν':=
 ⟨e.used,λb blk hb hgb=>e.old b blk hb (hg b blk hgb),λx hx hf=>⟨(e.free x hx hf).1,λb blk β c hb hν=>(e.free x hx hf).2 b blk β c (hg b blk hb) hν⟩,e.okE⟩
theorem aMK {P:Program} {T:List (Nat×Ty)} (hT:TyOk P T) {f:FuncId} {fn:Func} {c:Code} {nt kp:Nat} {ds:List AV} {hl hl':List (Nat×Blk)} {r:AV} {rvs:List ResultVar} {ns:List Nat} (hf:P.funcs[f]? =some fn) (hb:fn.body=some c) (hname:(fn.name== "runtime.NumGoroutine")=false) (hnt:fn.ntmps=nt) (hres:fn.results.toList=rvs)
  (hlen:Nat.ble ds.length nt=true) (h:AC P nt c ⟨aAs ds,eV hl,qE kp,ns,⟨kp,true,none,true⟩⟩ (λe t=> ∃ t',Ent t t'∧aSM T rvs r hl' e t')):HasT P f ds hl kp r hl':=by
 refine ⟨Enters.mk hf (by rw [hb];rfl) hname,λB M w args ν φ hMB hB hM hMo hargs hheap=>?_⟩;refine (callsIn_wide (n:=0)).1 (callsIn_of_wp_marks (F:=fw none) hf hb trivial ?_);have hlen':=Nat.le_of_ble_eq_true hlen;have hal:args.size=ds.length:=by have:=hargs.len;simpa using this
 let C:Ctx:=⟨B,w,nt,M,hMB,⟨kp,true,none,true⟩,w,eV hl,ν,λx=> ¬ M x,(λ_ x _ hm hn=>hn hm),(λ_ h=>by cases h),none,λ_=>rfl⟩
 have hsim:Sim C ⟨aAs ds,eV hl,qE kp,ns,⟨kp,true,none,true⟩⟩ ν ⟨args++Array.replicate (fn.ntmps - args.size) undef,[]⟩ w:=by
  refine ⟨Below.refl _ _,hB,hM,sH,by show (args++Array.replicate (fn.ntmps - args.size) undef).size=nt;simp [hnt];omega,?_,⟨φ,hheap⟩,rfl,ExtF.refl λ_ _ h=>aQD hheap h,bJ _,hMo,λ_ h=>by cases h⟩;intro t x hx;have hx':ds[t]? =some x:=by rw [←aCf];exact hx
  obtain ⟨v,h1,h2⟩:=hargs.get hx';refine ⟨v,?_,h2⟩
  have hlt:t<args.size:=by
   rcases dI t args.size with h'|h'
   ·exact h'
   ·rw [fR (by simpa using h')] at h1;cases h1
  show (args++Array.replicate (fn.ntmps - args.size) undef)[t]? =some v;rw [Array.getElem?_append_left hlt];simpa using h1
 refine wpIn_mono (h.out C rfl _ _ w hsim 0) λe a' w0 ⟨s1,ν1,⟨s',hent,hq⟩,hs1⟩=>?_;obtain ⟨ν',hs0⟩:=hent C ν1 a' w0 hs1;obtain ⟨Ds,d1,d2,d3⟩:=hs0.defers;obtain ⟨w',hs',hleave⟩:=hs0.leave (P:=P) (n:=0) d1 d2 d3;obtain ⟨he,⟨avs,hv,hone⟩,hsame⟩:=hq;have hsub: ∀ b blk,eV hl' b=some blk→s'.heap b=some blk:=λb blk hb=>aDY hsame (jB hb);obtain ⟨us,h1,h2⟩:=uZ hT hs' hv;obtain ⟨φ',hh⟩:=hs'.heap
 have hrun:(results fn a'.tmps).run P w'= .ok (if hh:us.toArray.size=1 then us.toArray[0] else .tuple us.toArray) w':=by
  unfold results;rw [Sem.run_bind,Array.mapM_eq_mapM_toList,Sem.run_map,hres];have h1':=h1;generalize hq:(List.mapM _ rvs:Sem (List Value))=m;rw [show Sem.run P m w'= .ok us w' by rw [←hq];exact h1'];simp
 have shr:=(Ext.refl w' s'.heap s'.used ν').shrink hsub
 have hrep:RepA w' (eV hl') s'.used ν' r (if hh:us.toArray.size=1 then us.toArray[0] else .tuple us.toArray):=by
  rcases hone with rfl|⟨g1,g2,rfl⟩
  ·obtain ⟨u,q,rfl,k1,k2⟩:=h2;simp only [All2] at k2;subst k2;exact k1.ext shr
  ·have hul:us.length=avs.length:=h2.len;rw [dif_neg (by simp;rw [hul];exact g1)];refine ⟨us,rfl,h2.congrM λx hx v hr=>?_⟩;exact aOQ (hr.ext shr) (List.all_eq_true.1 g2 x hx)
 have hend:=hleave fn (λe w'=> ∃ v u' ν' φ',e= .returned v∧Below B w w'∧ExtF (λx=> ¬ M x) w (eV hl) (qE kp) ν w' (eV hl') u' ν'∧HeapOk M w' (eV hl') u' ν' φ'∧RepA w' (eV hl') u' ν' r v)
  ⟨_,hrun,_,s'.used,ν',φ',rfl,hs'.below,hs'.ext.shrink hsub,hh.shrink hsub (λ_ _ _ _ h=>h),hrep⟩
 cases e <;> simp only [aCc,fL] at he <;> exact hend
structure SOps (P:Program) (ops:Array Oper) (nt:Nat) (l:List Oper) (s:AState) (K:AState→Prop):Prop where
 out: ∀ (C:Ctx),C.nt=nt→ ∀ (ν:Nu) (a:Act) (w:World),Sim C s ν a w→ ∀ (n:Nat) (Q:Exit→Act→World→Prop),(∀ s' ν' a' w',K s'→Sim C s' ν' a' w'→Q .normal a' w')→wpListIn (fw C.rd) n P ops Q l a w
section
variable {P:Program} {ops:Array Oper} {nt:Nat} {l:List Oper} {s:AState} {K:AState→Prop}
theorem aOW (h:K s):SOps P ops nt [] s K:=⟨λC hC ν a w hs n Q hQ=>hQ s ν a w h hs⟩
theorem dT {t:AState} (e:Ent s t) (h:SOps P ops nt l t K):SOps P ops nt l s K:=⟨λC hC ν a w hs n Q hQ=>by
 obtain ⟨ν',hs'⟩:=e C ν a w hs
 exact h.out C hC ν' a w hs' n Q hQ⟩
theorem aOX {d:Option Tmp} {op:Op} {ty:TypeId} {pos:String} {aft:Array Edge} {g:Option (Nat×Bool)} {e:Eff} (he:AEff P ⟨d,op,ty,pos,aft,g⟩ s.ev s.heap s.kp e) (hd:aEU ⟨d,op,ty,pos,aft,g⟩ nt=true) (hg:lB ops s.env ⟨d,op,ty,pos,aft,g⟩=some true) (hn:(e.news.all λb=> !s.used b)=true)
  (h:SOps P ops nt l (s.app d e) K):SOps P ops nt (⟨d,op,ty,pos,aft,g⟩::l) s K:=⟨λC hC ν a w hs n Q hQ=>by
 subst hC;refine wpListIn_step λK' hK'=>?_;have hst:aIR P ops C.nt ⟨d,op,ty,pos,aft,g⟩ s e:=⟨aCY hd,.inl ⟨hg,he,λb hb=>by have:=List.all_eq_true.1 hn b hb;simpa using this⟩⟩
 exact aAD hst hs λν' a' w' hs'=>hK' _ _ (h.out C rfl ν' a' w' hs' n Q hQ)⟩
theorem aLP {Q:Exit→AState→Prop} {id:Nat} (h:SOps P l.toArray nt l s (Q .normal)):AC P nt (.region id l.toArray false) s Q:=by
 refine ⟨λC hC ν a w hs n=>?_⟩;exact wpIn_region_lit (h.out C hC ν a w hs n _ λs' ν' a' w' hq hs'=>⟨s',ν',hq,hs'⟩)
end
def df1:AV→Bool
 | .sc _=>true
 | .nil _=>true
 | .dead=>true
 | .own _ _ _=>true
 | .ptr _ _ _=>true
 |_=>false
def dfC:AV→Bool
 | .abs _ _=>true
 | .fn _ cs=>cs.all df1
 |x=>df1 x
def dfB:AV→Bool
 | .agg cs=>cs.all df1
 |x=>df1 x
def dfA:AV→Bool
 | .tuple cs=>cs.all dfB
 |x=>dfB x
section
variable {w w':World} {h h':Hp} {u u':Us} {ν ν':Nu} (U: ∀ b,u b=true→u' b=true) (O: ∀ b blk',u b=true→h' b=some blk'→ ∃ blk,h b=some blk∧blk.k=blk'.k∧blk.es.length=blk'.es.length∧ν' b=ν b)
include U O
theorem aId: ∀ {x:AV} {v:Value},Rep1 w h u ν x v→df1 x=true→Rep1 w' h' u' ν' x v:=by
 intro x v r t;cases x <;> simp only [df1,fL] at t <;> simp only [Rep1] at r ⊢
 ·exact r
 ·exact r
 ·refine ⟨U _ r.1,λblk hb=>?_⟩;obtain ⟨blk0,e1,e2,e3,e4⟩:=O _ blk r.1 hb;have:=r.2 blk0 e1;rw [e4,←e3,←e2];exact this
 ·refine ⟨U _ r.1,λblk hb=>?_⟩;obtain ⟨blk0,e1,e2,e3,e4⟩:=O _ blk r.1 hb;have:=r.2 blk0 e1;rw [e4,←e2];exact this
end
section
variable {w w':World} {h h':Hp} {u u':Us} {ν ν':Nu} (U: ∀ b,u b=true→u' b=true) (O: ∀ b blk',u b=true→h' b=some blk'→ ∃ blk,h b=some blk∧blk.k=blk'.k∧blk.es.length=blk'.es.length∧ν' b=ν b)
include U O
theorem aFd: ∀ {xs:List AV} {vs:List Value},All2 (Rep1 w h u ν) xs vs→xs.all df1=true→All2 (Rep1 w' h' u' ν') xs vs
 | [],vs,r,_=>r
 |x::xs,vs,⟨v,q,e,r,k⟩,t=>by
  simp only [List.all_cons,cU] at t;exact ⟨v,q,e,aId U O r t.1,aFd k t.2⟩
theorem aML {x:AV} {v:Value} (r:RepB w h u ν x v) (t:dfB x=true):RepB w' h' u' ν' x v:=by
 cases x <;> simp only [RepB] at r ⊢ <;> first
  |exact aId U O r t
  |(obtain ⟨vs,e,r⟩:=r;exact ⟨vs,e,aFd U O r t⟩)
  |(simp only [dfB,df1,fL] at t)
theorem aMM {x:AV} {v:Value} (r:RepA w h u ν x v) (t:dfA x=true):RepA w' h' u' ν' x v:=by
 by_cases ht: ∃ cs,x= .tuple cs
 ·obtain ⟨cs,rfl⟩:=ht;obtain ⟨vs,e,r⟩:=r;refine ⟨vs,e,r.congrM λy hy d hd=>aML U O hd ?_⟩;exact List.all_eq_true.1 t y hy
 ·have r':RepB w h u ν x v:=by cases x <;> first|exact r|exact absurd ⟨_,rfl⟩ ht
  have t':dfB x=true:=by cases x <;> first|exact t|exact absurd ⟨_,rfl⟩ ht
  have:=aML (w':=w') U O r' t';cases x <;> first|exact this|exact absurd ⟨_,rfl⟩ ht
theorem aQE {x:AV} {v:Value} {S:List Nat} (hk: ∀ b∈S,w'.heap[b]? =w.heap[b]?) (r:CellRep w h u ν x v S) (t:dfC x=true):CellRep w' h' u' ν' x v S:=by
 cases x <;> simp only [CellRep] at r ⊢ <;> first
  |exact ⟨aId U O r.1 t,r.2⟩
  |(obtain ⟨⟨vs,e,q⟩,q2⟩:=r;exact ⟨⟨vs,e,aFd U O q t⟩,q2⟩)
  |exact r.keep hk
  |exact r
theorem aCi: ∀ {xs:List AV} {vs:List Value} {S:List Nat},(∀ b∈S,w'.heap[b]? =w.heap[b]?)→CellsRep w h u ν xs vs S→(∀ c∈xs,dfC c=true)→CellsRep w' h' u' ν' xs vs S
 | [],_,_,_,r,_=>r
 |x::xs,vs,S,hk,⟨v,q,S1,S2,e1,e2,r,k⟩,t=>by
  subst e2;exact ⟨v,q,S1,S2,e1,rfl,aQE U O (λb hb=>hk b (by simp [hb])) r (t x (by simp)),aCi (λb hb=>hk b (by simp [hb])) k (λc hc=>t c (by simp [hc]))⟩
theorem aHi {b:Nat} {blk:Blk} {S:List Nat} (hν:ν' b=ν b) (hk: ∀ x∈S,w'.heap[x]? =w.heap[x]?) (r:BlkOk w h u ν b blk S) (t: ∀ cs∈blk.es,∀ c∈cs,dfC c=true):BlkOk w' h' u' ν' b blk S:=by
 refine ⟨r.1,?_⟩;rcases r.2 with ⟨q1,q2,q3⟩|⟨β,c,arr,ty,T,vs,q1,q2,q3,q4,q5,q6,q7,q8⟩
 ·exact .inl ⟨hν.trans q1,q2,q3⟩
 ·subst q6;refine .inr ⟨β,c,arr,ty,T,vs,hν.trans q1,(hk β (by simp)).trans q2,q3,q4,q5,rfl,q7,aCi U O (λx hx=>hk x (by simp [hx])) q8 λc hc=>?_⟩;obtain ⟨cs,hcs,hc⟩:=List.mem_flatten.1 hc;exact t cs hcs c hc
end
section
variable {P:Program} {ops:Array Oper} {nt:Nat} {l:List Oper} {s:AState} {K:AState→Prop} {dst:Option Tmp} {ty:TypeId} {pos:String} {aft:Array Edge}
theorem aOZ {fo:Operand} {xs:Array Operand} {ats:Array TypeId} {f:FuncId} {caps avs ds:List AV} {hl hl' hl2:List (Nat×Blk)} {kp n':Nat} {r r2:AV} {σ σ':Nat→Option Nat} {touch news:List Nat} {ed:List (Nat×Option Blk)}
  (hc:HasT P f ds hl kp r hl') (hf:s.ev fo=some (.fn f caps)) (hx:evs s.ev xs.toList=some avs) (hav:All2 (mQ σ kp) (avs++caps) ds) (hh:mR σ kp s.heap hl) (hi:aAF σ hl=true) (hit:uR σ touch hl=true) (hlive:(touch.all λb=>(s.heap b).isSome)=true)
  (hh':mR σ' n' (eV hl') hl2) (hi':aAF σ' hl2=true) (hr:mQ σ' n' r r2) (hbk:aAx σ σ' kp news hl2=true) (htl:aFa (touch++news) hl2) (htr:aHb (touch++news) r2=true) (he:uA (touch++news) hl2=ed)
  (hd:aEU ⟨dst,.call ⟨.value fo,xs,ats⟩,ty,pos,aft,none⟩ nt=true) (hn:(news.all λb=> !s.used b)=true) (hT:s.kp.T=true) (hdf: ∀ t x,s.env t=some x→dfA x=true) (hdc: ∀ b blk,s.heap b=some blk→b ∉ touch++news→ ∀ cs∈blk.es,∀ c∈cs,dfC c=true)
  (h:SOps P ops nt l (s.app dst ⟨r2,touch,ed,news⟩) K):SOps P ops nt (⟨dst,.call ⟨.value fo,xs,ats⟩,ty,pos,aft,none⟩::l) s K:=⟨λC hC ν a w hs n0 Q hQ=>by
 subst hC;refine wpListIn_step λK' hK'=>?_;rw [aP (aDN hs (ops:=ops) (t:=true) rfl)];refine aQm (λc h=>by cases h) ?_;have hnw: ∀ b∈news,s.used b=false:=λb hb=>by have:=List.all_eq_true.1 hn b hb;simpa using this
 have hfn:=hs.ev hf;simp only [RepA,RepB] at hfn;obtain ⟨cv,hfv,hcap⟩:=hfn;have hval:=wD hs (xs:=xs.toList) (λy hy=>rfl) hx;obtain ⟨φ,hφ⟩:=hs.heap;let h3:Hp:=λb=>if b∈touch then s.heap b else none
 have sub: ∀ b blk,h3 b=some blk→s.heap b=some blk∧b∈touch:=by
  intro b blk hb;by_cases e:b∈touch
  ·simp only [h3,aP e] at hb;exact ⟨hb,e⟩
  ·simp only [h3,aO e] at hb;cases hb
 let M2:Nat→Prop:=λx=>(∃ b,b∈touch∧s.heap b≠none∧x∈φ b)∨w.heap.size≤x
 have hM2: ∀ x,M2 x→C.M x:=by
  rintro x (⟨b,_,hb,hx⟩|hx)
  ·obtain ⟨blk,hb⟩:=Option.ne_none_iff_exists'.1 hb;exact (hφ.blk b blk hb).2.2.2 x hx
  ·exact hs.fresh x hx
 have hk3:HeapOk M2 w h3 s.used ν φ:=hφ.shrink (λb blk hb=>(sub b blk hb).1) (λb x hb hx _=>by
  obtain ⟨blk,hb⟩:=Option.ne_none_iff_exists'.1 hb;obtain ⟨e1,e2⟩:=sub b blk hb
  exact .inl ⟨b,e2,by rw [e1];simp,hx⟩)
 have hent:mR σ kp h3 hl:=tZ (h:=s.heap) (touch:=touch) (λb hb=>by simp only [h3,aP hb]) hit hh;have cv1:=xQ (w:=w) (u:=s.used) (ν:=ν) hent hi;have hk4:=cv1.heap hk3;have shr3:Ext w s.heap s.used ν w h3 s.used ν:=(Ext.refl _ _ _ _).shrink (λb blk hb=>(sub b blk hb).1)
 have hargs:All2 (RepA w (eV hl) (qE kp) (gQ σ ν)) ds (xs.toList.map a.eval++cv):=
  zK (R:=RepA w s.heap s.used ν) (Mt:=mQ σ kp) (R':=RepA w (eV hl) (qE kp) (gQ σ ν)) (λx y v hx hm=>cv1.rep (RepA.ext shr3 hx) hm) (hval.append (hcap.mono λx v h=>Rep1.repA h)) hav
 have hcall:=hc.calls C.B M2 w ((xs.map a.eval)++cv.toArray) (gQ σ ν) _ (λx hx=>C.low x (hM2 x hx)) hs.base (λx hx=> .inr hx) (λx hx=>hs.okM x (hM2 x hx)) (by simpa using hargs) hk4;unfold Oper.wp
 have hex:(execOp a.eval ⟨dst,.call ⟨.value fo,xs,ats⟩,ty,pos,aft,none⟩).run P w= .ok (.enter f ((xs.map a.eval)++cv.toArray)) w:=by
  have:execOp a.eval ⟨dst,.call ⟨.value fo,xs,ats⟩,ty,pos,aft,none⟩=callFunc f ((xs.map a.eval)++cv.toArray):=by
   simp [execOp,resolve,hfv,Deferred.ofValue,invoke]
  rw [this];exact hc.enters _ _
 rw [hex];simp only [Oper.upon];refine hcall.mono λe w' ⟨v,u1,ν1,φ1,hev,hbel,hext,hh1,hrep⟩=>?_;subst hev;simp only;have cv2:=xQ (w:=w') (u:=u1) (ν:=ν1) hh' hi';have hh2:=cv2.heap hh1;generalize hrl:touch++news=rl at*;let ν':Nu:=⟨λb=>if b∈rl then gQ σ' ν1 b else ν b,ν.ok⟩;have hν1: ∀ b,b∈rl→ν' b=gQ σ' ν1 b:=λb hb=>aP hb;have hν2: ∀ b,b ∉ rl→ν' b=ν b:=λb hb=>aO hb;have hheq: ∀ b,aZ ed s.heap b=if b∈rl then eV hl2 b else s.heap b:=λb=>by rw [←he];exact aAy
 have hhe1: ∀ b,b∈rl→aZ ed s.heap b=eV hl2 b:=λb hb=>by rw [hheq,aP hb]
 have hhe2: ∀ b,b ∉ rl→aZ ed s.heap b=s.heap b:=λb hb=>by rw [hheq,aO hb]
 have hused: ∀ b,b∈rl→fF news s.used b=true:=by
  intro b hb;rw [←hrl] at hb;rw [fK];rcases dS.1 hb with h|h
  ·have h5:=List.all_eq_true.1 hlive b h;cases hq:s.heap b with
   |none=>rw [hq] at h5;cases h5
   |some blk=>rw [(hφ.blk b blk hq).1,Bool.or_true]
  ·have:news.contains b=true:=by simpa using h
   rw [this,Bool.true_or]
 have U: ∀ b,s.used b=true→fF news s.used b=true:=λb hb=>by rw [fK,hb,Bool.or_true]
 have O: ∀ b blk',s.used b=true→aZ ed s.heap b=some blk'→ ∃ blk,s.heap b=some blk∧blk.k=blk'.k∧blk.es.length=blk'.es.length∧ν' b=ν b:=by
  intro b blk' hu hb;by_cases e:b∈rl
  ·rw [hhe1 b e] at hb;obtain ⟨i,e1,e2⟩:=zJ hbk (jB hb);obtain ⟨x,f1,f2,f3⟩:=(cv2.look b blk' hb).1 i e1;rcases e2 with e2|⟨e2,e3⟩
   ·rw [hnw b e2] at hu;cases hu
   ·obtain ⟨blk0,g1,g2,g3,g4⟩:=hext.old i x e2 f1;obtain ⟨z,k1,k2,k3⟩:=(cv1.look i blk0 g1).1 b e3;refine ⟨z,(sub b z k1).1,k2.trans (g2.trans f2),k3.trans (g3.trans f3),?_⟩;rw [hν1 b e];simp only [gQ,e1];rw [g4];simp only [gQ,e3]
  ·rw [hhe2 b e] at hb;exact ⟨blk',hb,rfl,rfl,hν2 b e⟩
 have hout: ∀ b blk x,s.heap b=some blk→b ∉ rl→x∈φ b→w'.heap[x]? =w.heap[x]? :=by
  intro b blk x hb hbr hx;refine (hext.free x ((hφ.blk b blk hb).2.1.lt x hx) ?_).1;rintro (⟨b2,e1,e2,e3⟩|e1)
  ·have hne:b2≠b:=by rintro rfl;exact hbr (by rw [←hrl];exact List.mem_append_left _ e1)
   exact hφ.apart b2 b x e2 (by rw [hb];simp) hne e3 hx
  ·have:=(hφ.blk b blk hb).2.1.lt x hx;omega
 have hcross: ∀ b c x,eV hl2 b≠none→s.heap c≠none→c ∉ rl→x∈(match σ' b with|some b0=>φ1 b0|none=>[])→x ∉ φ c:=by
  intro b c x hb hc' hcr hx hx2;obtain ⟨y1,hy1⟩:=Option.ne_none_iff_exists'.1 hb;obtain ⟨y2,hy2⟩:=Option.ne_none_iff_exists'.1 hc';rcases (hh2.blk b y1 hy1).2.2.2 x hx with ⟨b2,e1,e2,e3⟩|e1
  ·have hne:b2≠c:=by rintro rfl;exact hcr (by rw [←hrl];exact List.mem_append_left _ e1)
   exact hφ.apart b2 c x e2 hc' hne e3 hx2
  ·have:=(hφ.blk c y2 hy2).2.1.lt x hx2;omega
 have hdef:OkD C w' a.defers:=by
  obtain ⟨Ds,q1,q2,q3⟩:=hs.defers;refine ⟨Ds,q1,q2,λD hD=>?_⟩;obtain ⟨p1,p2,p3⟩:=q3 D hD;refine ⟨p1,p2,(hext.free D (gE p3) ?_).1.trans p3⟩;rintro (⟨b,e1,e2,e3⟩|e1)
  ·obtain ⟨blk,hb⟩:=Option.ne_none_iff_exists'.1 e2;obtain ⟨o,o1,o2⟩:=(hφ.blk b blk hb).2.1.inC D e3;rw [p3] at o1;cases o1;cases o2
  ·have:=gE p3;omega
 have hfin:Sim C (s.app dst ⟨r2,touch,ed,news⟩) ν' (a.put dst v) w':=by
  refine ⟨hs.below.trans hbel,Nat.le_trans hs.base hbel.size,λx hx=>hs.fresh x (Nat.le_trans hbel.size hx),by rw [aFA];exact hdef,by rw [aJS];exact hs.size,?_,⟨λb=>if b∈rl then (match σ' b with|some b0=>φ1 b0|none=>[]) else φ b,?_,?_⟩,hs.kp,?_,Nat.le_trans hs.szE hbel.size,hs.okM,hs.okF⟩
  ·exact aLz hs.size (aCY hd).1 (λt x h=>by obtain ⟨v,h1,h2⟩:=hs.env t x h;exact ⟨v,h1,aMM U O h2 (hdf t x h)⟩) (aDa (h1:=eV hl2) (u1:=qE n') (ν1:=gQ σ' ν1) hhe1 hν1 hused (cv2.rep hrep hr) htr)
  ·intro b blk' hb;replace hb:aZ ed s.heap b=some blk':=hb;by_cases e:b∈rl
   ·rw [hhe1 b e] at hb;simp only [aP e];obtain ⟨_,g2,g3,g4⟩:=hh2.blk b blk' hb;exact ⟨hused b e,aAz (h1:=eV hl2) (u1:=qE n') (ν1:=gQ σ' ν1) hhe1 hν1 hused e g2 (aBX htl (jB hb)).2,g3,λx hx=>hM2 x (g4 x hx)⟩
   ·rw [hhe2 b e] at hb;simp only [aO e];obtain ⟨g1,g2,g3,g4⟩:=hφ.blk b blk' hb;exact ⟨U b g1,aHi U O (hν2 b e) (λx hx=>hout b blk' x hb e hx) g2 (hdc b blk' hb e),g3,g4⟩
  ·intro b c x hb hc' hne hxb hxc;replace hb:aZ ed s.heap b≠none:=hb;replace hc':aZ ed s.heap c≠none:=hc';by_cases e1:b∈rl <;> by_cases e2:c∈rl
   ·simp only [aP e1] at hxb;simp only [aP e2] at hxc;rw [hhe1 b e1] at hb;rw [hhe1 c e2] at hc';exact hh2.apart b c x hb hc' hne hxb hxc
   ·simp only [aP e1] at hxb;simp only [aO e2] at hxc;rw [hhe1 b e1] at hb;rw [hhe2 c e2] at hc';exact hcross b c x hb hc' e2 hxb hxc
   ·simp only [aO e1] at hxb;simp only [aP e2] at hxc;rw [hhe2 b e1] at hb;rw [hhe1 c e2] at hc';exact hcross c b x hc' hb e1 hxc hxb
   ·simp only [aO e1] at hxb;simp only [aO e2] at hxc;rw [hhe2 b e1] at hb;rw [hhe2 c e2] at hc';exact hφ.apart b c x hb hc' hne hxb hxc
  ·refine ⟨λb hb=>U b (hs.ext.used b hb),λb blk' hb hl'=>?_,λx hx hF=>?_,hs.ext.okE⟩
   ·obtain ⟨y,g1,g2,g3,g4⟩:=O b blk' (hs.ext.used b hb) hl';obtain ⟨z,k1,k2,k3,k4⟩:=hs.ext.old b y hb g1;exact ⟨z,k1,k2.trans g2,k3.trans g3,g4.trans k4⟩
   ·obtain ⟨g1,g2⟩:=hs.ext.free x hx hF;have hm: ¬ M2 x:=λhm=>C.tm (by rw [←hs.kp];exact hT) x hx (hM2 x hm) hF;obtain ⟨p1,p2⟩:=hext.free x (tR hx g1) hm;refine ⟨p1.trans g1,λb blk β c hb hν=>?_⟩;replace hb:aZ ed s.heap b=some blk:=hb;by_cases e:b∈rl
    ·rw [hhe1 b e] at hb;rw [hν1 b e] at hν;exact cv2.free x p2 b blk β c hb hν
    ·rw [hhe2 b e] at hb;rw [hν2 b e] at hν;exact g2 b blk β c hb hν
 exact hK' _ _ (h.out C rfl _ _ _ hfin n0 Q hQ)⟩
end
end
noncomputable section
theorem aJw {w:World} {h:Hp} {u:Us} {ν:Nu} : ∀ {cs:List AV} {vs:List Value} {S:List Nat},RepOV w cs vs S→CellsRep w h u ν (cs.map qM) vs S
 | [],vs,S,r=>by simp only [RepOV] at r;exact r
 |c::cs,vs,S,r=>by
  simp only [RepOV] at r;obtain ⟨v,q,S1,S2,e1,e2,_,h3,h4⟩:=r;refine ⟨v,q,S1,S2,e1,e2,?_,aJw h4⟩;cases c with
  |sc x=>simp only [RepO] at h3;exact ⟨⟨h3.1,h3.2.1⟩,h3.2.2⟩
  |list k es=>exact h3
  |_=>simp only [RepO] at h3
theorem aLQ {k:Nat} {es:List (List AV)} (h: ∀ cs∈es,cs.length=k): ∀ cs∈dM es,cs.length=k:=by
 intro cs hcs;unfold dM at hcs;obtain ⟨d,hd,rfl⟩:=List.mem_map.1 hcs;rw [dE];exact h d hd
theorem aFe (es:List (List AV)):(dM es).flatten=es.flatten.map qM:=by
 unfold dM;rw [List.map_flatten]
theorem aOa {s:AState} {b c i j k':Nat} {blk:Blk} {cs:List AV} {es':List (List AV)} (hT:s.kp.T=true) (hb:s.heap b=some blk) (hi:blk.es[i]? =some cs) (hj:cs[j]? =some (.abs k' es')) (hc:s.used c=false) (hdf: ∀ t x,s.env t=some x→dfA x=true) (hdc: ∀ b blk,s.heap b=some blk→ ∀ cs∈blk.es,∀ c∈cs,dfC c=true):
  Ent s ⟨s.env,aZ [(c,some ⟨k',dM es'⟩),(b,some ⟨blk.k,blk.es.set i (cs.take j++[.own c 0 es'.length]++cs.drop (j+1))⟩)] s.heap,fF [c] s.used,s.ns,s.kp⟩:=by
 intro C ν a w hs;obtain ⟨φ,hh⟩:=hs.heap;obtain ⟨hub,⟨hk1,hx1⟩,hnd1,hB1⟩:=hh.blk b blk hb;have hne:b≠c:=by rintro rfl;rw [hub] at hc;cases hc
 have hcn:s.heap c=none:=hs.unused hc;have hcs:=hk1 cs (List.mem_of_getElem? hi)
 have hjl:j<cs.length:=by
  rcases dI j cs.length with h'|h'
  ·exact h'
  ·rw [fR h'] at hj;cases hj
 rcases hx1 with ⟨q1,q2,_⟩|⟨β,cap,arr,ty,T,vs,q1,q2,q3,q4,q5,q6,q7,q8⟩
 ·rw [q2] at hi;simp at hi
 have hdrop:blk.es.flatten.drop (i*blk.k+j)= .abs k' es'::blk.es.flatten.drop (i*blk.k+j+1):=by
  obtain ⟨r,hr⟩:=tS hk1 hi;have h1:blk.es.flatten.drop (i*blk.k+j)=(cs++r).drop j:=by rw [←hr,List.drop_drop]
  have h2:blk.es.flatten.drop (i*blk.k+j+1)=(cs++r).drop (j+1):=by rw [←hr,List.drop_drop,Nat.add_assoc]
  rw [h1,h2,List.drop_append_of_le_length (by omega),List.drop_append_of_le_length (by omega),List.drop_eq_getElem_cons hjl];have:cs[j]= .abs k' es':=by simpa [hjl] using hj
  rw [this];rfl
 have hfl:blk.es.flatten=blk.es.flatten.take (i*blk.k+j)++([.abs k' es']++blk.es.flatten.drop (i*blk.k+j+1)):=by
  rw [List.singleton_append,←hdrop,List.take_append_drop]
 rw [hfl] at q8;obtain ⟨v1,v2,S1,S2,e1,e2,e3,e4,e5⟩:=q8.append_inv;obtain ⟨v3,v4,S3,S4,f1,f2,f3,f4,f5⟩:=e5.append_inv;subst f1 f2;obtain ⟨v,r0,S5,S6,rfl,rfl,g1,⟨rfl,rfl⟩⟩:=f4;simp only [CellRep] at g1;rw [List.append_nil] at e2;have hφ:φ b=β::(S1++(S5++S4)):=by rw [q6,e2]
 obtain ⟨νc,hνc⟩: ∃ νc:Option (Nat×Nat),(∀ (h:Hp) (u:Us) (ν':Nu),ν' c=νc→BlkOk w h u ν' c ⟨k',dM es'⟩ S5)∧(νc=none→v= .slice none 0 0)∧(∀ β' cap',νc=some (β',cap')→ownV β' 0 k' es'.length cap' v∧β'∈S5):=by
  simp only [RepO] at g1;rcases g1 with ⟨rfl,rfl,rfl⟩|⟨β',cap',arr',ty',T',vs',p1,p2,p3,p4,p5,p6,rfl,p8,p9⟩
  ·exact ⟨none,λh u ν' hν=>⟨by simp [dM],.inl ⟨hν,rfl,rfl⟩⟩,λ_=>rfl,λ_ _ e=>by cases e⟩
  ·have hl:(dM es').length=es'.length:=by simp [dM]
   refine ⟨some (β',cap'),λh u ν' hν=>⟨aLQ p6,.inr ⟨β',cap',arr',ty',T',vs',hν,p2,p3,by show (dM es').length ≤cap';omega,p5,rfl,by show arr'.toList.take ((dM es').length *k')=vs';rw [hl];exact p8,?_⟩⟩,λe=>by (cases e),λx y e=>?_⟩
   ·show CellsRep w h u ν' (dM es').flatten vs' T';rw [aFe];exact aJw (aAA.1 p9)
   ·cases e;rw [p1];exact ⟨aDK,by simp⟩
 obtain ⟨hB,hn0,hn1⟩:=hνc;let ν':Nu:=⟨λx=>if x=c then νc else ν x,ν.ok⟩;have hν1:ν' c=νc:=aP rfl;have hν2: ∀ x,x≠c→ν' x=ν x:=λx hx=>aO hx;have hl1:aZ [(c,some ⟨k',dM es'⟩),(b,some ⟨blk.k,blk.es.set i (cs.take j++[.own c 0 es'.length]++cs.drop (j+1))⟩)] s.heap c=some ⟨k',dM es'⟩:=by simp [aZ]
 have hl2:aZ [(c,some ⟨k',dM es'⟩),(b,some ⟨blk.k,blk.es.set i (cs.take j++[.own c 0 es'.length]++cs.drop (j+1))⟩)] s.heap b=some ⟨blk.k,blk.es.set i (cs.take j++[.own c 0 es'.length]++cs.drop (j+1))⟩:=by simp [aZ,bX hne]
 have hl3: ∀ x,x≠c→x≠b→aZ [(c,some ⟨k',dM es'⟩),(b,some ⟨blk.k,blk.es.set i (cs.take j++[.own c 0 es'.length]++cs.drop (j+1))⟩)] s.heap x=s.heap x:=λx h1 h2=>by simp [aZ,bX h1,bX h2]
 generalize hH:aZ [(c,some ⟨k',dM es'⟩),(b,some ⟨blk.k,blk.es.set i (cs.take j++[.own c 0 es'.length]++cs.drop (j+1))⟩)] s.heap=H at*;have U: ∀ x,s.used x=true→fF [c] s.used x=true:=λx hx=>by rw [fK,hx,Bool.or_true]
 have O: ∀ x blk',s.used x=true→H x=some blk'→ ∃ y,s.heap x=some y∧y.k=blk'.k∧y.es.length=blk'.es.length∧ν' x=ν x:=by
  intro x blk' hu hx;have hxc:x≠c:=by rintro rfl;rw [hu] at hc;cases hc
  by_cases e:x=b
  ·subst e;rw [hl2] at hx;cases hx;exact ⟨blk,hb,rfl,by simp,hν2 _ hxc⟩
  ·rw [hl3 x hxc e] at hx;exact ⟨blk',hx,rfl,rfl,hν2 _ hxc⟩
 have hfl2: ∀ d∈blk.es.flatten,dfC d=true:=by
  intro d hd;obtain ⟨ds,h1,h2⟩:=List.mem_flatten.1 hd;exact hdc b blk hb ds h1 d h2
 refine ⟨ν',hs.below,hs.base,hs.fresh,hs.defers,hs.size,λt x hx=>by obtain ⟨v,h1,h2⟩:=hs.env t x hx;exact ⟨v,h1,aMM U O h2 (hdf t x hx)⟩,⟨λx=>if x=c then S5 else if x=b then β::(S1++S4) else φ x,?_,?_⟩,hs.kp,?_,hs.szE,hs.okM,hs.okF⟩
 ·intro x blk2 hx;replace hx:H x=some blk2:=hx;have hnd:=hnd1;rw [hφ] at hnd;have n1:=List.nodup_cons.1 hnd;have n2:=List.nodup_append.1 n1.2;have n3:=List.nodup_append.1 n2.2.1;by_cases e:x=c
  ·subst e;rw [hl1] at hx;cases hx;simp only [if_true];refine ⟨by rw [fK];simp,hB _ _ _ hν1,n3.1,λy hy=>hB1 y (by rw [hφ];simp [hy])⟩
  ·by_cases e0:x=b
   ·subst e0;rw [hl2] at hx;cases hx;simp only [aO e,if_true];refine ⟨U _ hub,⟨?_,.inr ⟨β,cap,arr,ty,S1++S4,vs,(hν2 _ e).trans q1,q2,q3,by simpa using q4,q5,rfl,by simpa using q7,?_⟩⟩,?_,?_⟩
    ·intro d hd;rcases List.mem_or_eq_of_mem_set hd with h|h
     ·exact hk1 d h
     ·rw [h];simp;omega
    ·rw [uQ (n:=1) hk1 hi rfl (by omega),e1]
     have m1:CellsRep w H (fF [c] s.used) ν' [.own c 0 es'.length] [v] []:=by
      refine ⟨v,[],[],[],rfl,rfl,⟨⟨by rw [fK];simp,λblk3 h3=>?_⟩,rfl⟩,rfl,rfl⟩;rw [hl1] at h3;cases h3;refine ⟨by simp [dM],λh4=>hn0 (hν1.symm.trans h4),λβ' c' h4=>(hn1 β' c' (hν1.symm.trans h4)).1⟩
     have m2:=(aCi (w':=w) (h':=H) (u':=fF [c] s.used) (ν':=ν') U O (λ_ _=>rfl) e4 (λd hd=>hfl2 d (List.mem_of_mem_take hd))).append (m1.append (aCi (w':=w) (h':=H) (u':=fF [c] s.used) (ν':=ν') U O (λ_ _=>rfl) f5 (λd hd=>hfl2 d (List.mem_of_mem_drop hd))));rw [List.append_assoc (List.take (i*blk.k+j) blk.es.flatten)];simpa using m2
    ·refine List.nodup_cons.2 ⟨λhm=>n1.1 ?_,List.nodup_append.2 ⟨n2.1,n3.2.1,λy hy z hz=>n2.2.2 y hy z (by simp [hz])⟩⟩;rcases dS.1 hm with h|h <;> simp [h]
    ·intro y hy;refine hB1 y ?_;rw [hφ];rcases dK.1 hy with rfl|h
     ·simp
     ·rcases dS.1 h with h|h <;> simp [h]
   ·rw [hl3 x e e0] at hx;simp only [aO e,aO e0];obtain ⟨p1,p2,p3,p4⟩:=hh.blk x blk2 hx;exact ⟨U _ p1,aHi U O (hν2 _ e) (λ_ _=>rfl) p2 (hdc x blk2 hx),p3,p4⟩
 ·have hnd:=hnd1;rw [hφ] at hnd;have n1:=List.nodup_cons.1 hnd;have n2:=List.nodup_append.1 n1.2;have n3:=List.nodup_append.1 n2.2.1;have hbn:s.heap b≠none:=by rw [hb];simp
  have hS5: ∀ y,y∈S5→y∈φ b:=λy hy=>by rw [hφ];simp [hy]
  have hSb: ∀ y,y∈β::(S1++S4)→y∈φ b:=λy hy=>by
   rw [hφ];rcases dK.1 hy with rfl|h
   ·simp
   ·rcases dS.1 h with h|h <;> simp [h]
  have hcb: ∀ y,y∈S5→y ∉ β::(S1++S4):=by
   intro y h5 hy;rcases dK.1 hy with rfl|h
   ·exact n1.1 (by simp [h5])
   ·rcases dS.1 h with h|h
    ·exact n2.2.2 y h y (by simp [h5]) rfl
    ·exact n3.2.2 y h5 y h rfl
  intro x1 x2 y hx1 hx2 hne2 hy1 hy2;replace hx1:H x1≠none:=hx1;replace hx2:H x2≠none:=hx2;replace hy1:y∈(if x1=c then S5 else if x1=b then β::(S1++S4) else φ x1):=hy1;replace hy2:y∈(if x2=c then S5 else if x2=b then β::(S1++S4) else φ x2):=hy2;by_cases a1:x1=c <;> by_cases a2:x2=c
  ·exact hne2 (a1.trans a2.symm)
  ·rw [aP a1] at hy1;rw [aO a2] at hy2;by_cases b2:x2=b
   ·rw [aP b2] at hy2;exact hcb y hy1 hy2
   ·rw [aO b2] at hy2;rw [hl3 x2 a2 b2] at hx2;exact hh.apart b x2 y hbn hx2 (Ne.symm b2) (hS5 y hy1) hy2
  ·rw [aO a1] at hy1;rw [aP a2] at hy2;by_cases b1:x1=b
   ·rw [aP b1] at hy1;exact hcb y hy2 hy1
   ·rw [aO b1] at hy1;rw [hl3 x1 a1 b1] at hx1;exact hh.apart b x1 y hbn hx1 (Ne.symm b1) (hS5 y hy2) hy1
  ·rw [aO a1] at hy1;rw [aO a2] at hy2;by_cases b1:x1=b <;> by_cases b2:x2=b
   ·exact hne2 (b1.trans b2.symm)
   ·rw [aP b1] at hy1;rw [aO b2] at hy2;rw [hl3 x2 a2 b2] at hx2;exact hh.apart b x2 y hbn hx2 (Ne.symm b2) (hSb y hy1) hy2
   ·rw [aO b1] at hy1;rw [aP b2] at hy2;rw [hl3 x1 a1 b1] at hx1;exact hh.apart b x1 y hbn hx1 (Ne.symm b1) (hSb y hy2) hy1
   ·rw [aO b1] at hy1;rw [aO b2] at hy2;rw [hl3 x1 a1 b1] at hx1;rw [hl3 x2 a2 b2] at hx2;exact hh.apart x1 x2 y hx1 hx2 hne2 hy1 hy2
 ·refine ⟨λx hx=>U x (hs.ext.used x hx),λx blk' hx hl'=>?_,λx hx hF=>?_,hs.ext.okE⟩
  ·obtain ⟨y,g1,g2,g3,g4⟩:=O x blk' (hs.ext.used x hx) hl';obtain ⟨z,k1,k2,k3,k4⟩:=hs.ext.old x y hx g1;exact ⟨z,k1,k2.trans g2,k3.trans g3,g4.trans k4⟩
  ·obtain ⟨g1,g2⟩:=hs.ext.free x hx hF;refine ⟨g1,λb2 blk2 β2 c2 hb2 h2 e=>?_⟩;replace hb2:H b2=some blk2:=hb2;by_cases a1:b2=c
   ·subst a1;rw [hν1] at h2;subst e;exact C.tm (by rw [←hs.kp];exact hT) β2 hx (hB1 β2 (by rw [hφ];simp [(hn1 _ _ h2).2])) hF
   ·rw [hν2 _ a1] at h2;by_cases a2:b2=b
    ·subst a2;exact g2 b2 blk β2 c2 hb h2 e
    ·rw [hl3 b2 a1 a2] at hb2;exact g2 b2 blk2 β2 c2 hb2 h2 e
end
noncomputable section
def Raw1 (κ:Kp) (x d:AV):Prop:= ∃ W G v S,κ.fx=some (W,G)∧x= .sc v∧RepD W d v S∧ ∀ b∈S,G b
def RawK (κ:Kp):AV→AV→Prop
 | .agg xs,.agg ds=>All2 (Raw1 κ) xs ds
 |x,d=>Raw1 κ x d
theorem Sim.stays {C:Ctx} {s:AState} {ν:Nu} {a:Act} {w:World} (hs:Sim C s ν a w) {κ:Kp} (hκ:s.kp=κ) {W:World} {G:Nat→Prop} (h:κ.fx=some (W,G)) {b:Nat} (hb:G b):w.heap[b]? =W.heap[b]? ∧iD s.heap ν b:=by
 obtain ⟨e1,e2⟩:=C.fxp (W,G) (by rw [←hs.kp,hκ];exact h);obtain ⟨e3,e4⟩:=e2 b hb;obtain ⟨e5,e6⟩:=hs.ext.free b e3 e4;rw [e1] at e5;exact ⟨e5,e6,hs.okF (W,G) (by rw [←hs.kp,hκ];exact h) b hb⟩
theorem Raw1.rep {C:Ctx} {s:AState} {ν ν':Nu} {a:Act} {w:World} {h:Hp} {u:Us} (hs:Sim C s ν a w) {κ:Kp} (hκ:s.kp=κ) {x d:AV} {v:Value} (r:Rep1 w h u ν' x v) (m:Raw1 κ x d): ∃ S',RepD w d v S':=by
 obtain ⟨W,G,y,S,h1,rfl,h2,h3⟩:=m;rw [r.1];exact ⟨S,h2.keep λb hm=>(hs.stays hκ h1 (h3 b hm)).1⟩
theorem RawK.rep {C:Ctx} {s:AState} {ν:Nu} {a:Act} {w:World} (hs:Sim C s ν a w) {κ:Kp} (hκ:s.kp=κ) {x d:AV} {v:Value} (r:RepA w s.heap s.used ν x v) (m:RawK κ x d): ∃ S',RepD w d v S':=by
 by_cases ho: ∃ xs ds,x= .agg xs∧d= .agg ds
 ·obtain ⟨xs,ds,rfl,rfl⟩:=ho;obtain ⟨vs,rfl,r⟩:=r;obtain ⟨S,h⟩:=tT (V:=Raw1 κ) (λx d v hr hm=>hm.rep hs hκ hr) r m;exact ⟨S,by simp only [RepD];exact ⟨vs,rfl,h⟩⟩
 ·have m':Raw1 κ x d:=by
   cases x <;> first|exact m|(cases d <;> first|exact m|exact absurd ⟨_,_,rfl,rfl⟩ ho)
  obtain ⟨W,G,y,S,h1,rfl,h2,h3⟩:=m';exact Raw1.rep (h:=s.heap) (u:=s.used) (ν':=ν) (x:= .sc y) hs hκ (show Rep1 w s.heap s.used ν (.sc y) v from r) ⟨W,G,y,S,h1,rfl,h2,h3⟩
def xE (W:World):Option (World×(Nat→Prop)):=some (W,λx=>x<W.heap.size)
theorem oU {κ:Kp} {W:World} {d:AV} {v:Value} {S:List Nat} (h:κ.fx=xE W) (r:RepD W d v S):Raw1 κ (.sc v) d:=⟨W,_,v,S,h,rfl,r,r.lt⟩
theorem xR {κ:Kp} {W:World} {u:Value} (h:κ.fx=xE W) (o:u.oneCell'=true):Raw1 κ (.sc u) (.sc u):=oU h (wC o)
theorem aSQ {κ:Kp} {W:World} {k:Nat} {es:List (List AV)} {v:Value} {S:List Nat} (h:κ.fx=xE W) (r:RepD W (.list k es) v S):RawK κ (.sc v) (.list k es):=oU h r
theorem xS {κ:Kp} :RawK κ (.agg []) (.agg []):=rfl
theorem eW {κ:Kp} {x d:AV} {xs ds:List AV} (a:Raw1 κ x d) (b:RawK κ (.agg xs) (.agg ds)):RawK κ (.agg (x::xs)) (.agg (d::ds)):=⟨d,ds,rfl,a,b⟩
def vY (κ:Kp) (h:Hp) (x d:AV):Prop:=viewA h x d∨RawK κ x d
theorem mV {κ:Kp} {h:Hp} :All2 (vY κ h) [] []:=rfl
theorem fU {κ:Kp} {h:Hp} {x d:AV} {xs ds:List AV} (a:vY κ h x d) (b:All2 (vY κ h) xs ds):All2 (vY κ h) (x::xs) (d::ds):=⟨d,ds,rfl,a,b⟩
theorem aFf {R:AV→Value→Prop} {V:AV→AV→Prop} {w:World} (hr: ∀ x d v,R x v→V x d→ ∃ S',RepD w d v S') {xs ds:List AV} {vs:List Value} (r:All2 R xs vs) (m:All2 V xs ds): ∃ S',RepVs w ds vs S':=tT hr r m
section
variable {P:Program} {dst:Option Tmp} {ty:TypeId} {pos:String} {aft:Array Edge} {g:Option (Nat×Bool)} {ins:Operand→Option AV} {hp:Hp} {κ:Kp}
theorem aHj {fo:Operand} {xs:Array Operand} {ats:Array TypeId} {f:FuncId} {avs ds:List AV} {r x:AV} {nb:List (Nat×Blk)} {ns ns':List Nat} (hf:ins fo=some (.fn f [])) (hx:evs ins xs.toList=some avs) (hc:HasC P f ds r) (hv1:All2 (vY κ hp) avs ds) (hg:aED r)
  (hi:aKx ns r=(x,nb,ns')) (hfl:aJf x=true) (hn:ns.Nodup):
  AEff P ⟨dst,.call ⟨.value fo,xs,ats⟩,ty,pos,aft,g⟩ ins hp κ ⟨x,avs.flatMap (kW hp),mS nb,nb.map (·.1)⟩:=by
 refine ⟨λC s ν a w Q K {hκ} hi' ht hnw hd hs hK=>?_⟩;have h1:=hs.ev ((hi' fo (by simp [Op.operands,Call.operands])).trans hf);simp only [RepA,RepB] at h1;obtain ⟨cv,h1,h2⟩:=h1;simp only [All2] at h2;subst h2;obtain ⟨φ,hh⟩:=hs.heap;have h3:=wD hs (xs:=xs.toList) (λy hy=>hi' y (by simp [Op.operands,Call.operands];exact .inr (Array.mem_toList_iff.1 hy))) hx;have hv1':All2 (vY κ s.heap) avs ds:=hv1.congrM λy hy d hd=>hd.elim (λhd=> .inl (hd.congr λb hb=>ht b (List.mem_flatMap.2 ⟨y,hy,hb⟩))) .inr;obtain ⟨S1,e1⟩:=aFf (V:=vY κ s.heap) (λx d v hr hv=>hv.elim (λhv=>viewA.rep hh hr hv) (λhv=>hv.rep hs hκ hr)) h3 hv1';have hcall:=hc.calls w (xs.map a.eval) S1 (by simpa using e1);unfold Oper.wp
 have hex:(execOp a.eval ⟨dst,.call ⟨.value fo,xs,ats⟩,ty,pos,aft,g⟩).run P w= .ok (.enter f (xs.map a.eval)) w:=by
  have:execOp a.eval ⟨dst,.call ⟨.value fo,xs,ats⟩,ty,pos,aft,g⟩=callFunc f (xs.map a.eval):=by
   simp [execOp,resolve,h1,Deferred.ofValue,invoke]
  rw [this];exact hc.enters _ _
 rw [hex];simp only [Oper.upon];refine hcall.mono λe w' ⟨v,S',he,hb,hr,hnew⟩=>?_;subst he;simp only;obtain ⟨g1,X,Sf,g2,g3⟩:=aMG (w:=w) hi hfl hr hg hnew.1 hn;have hnn:(nb.map (·.1)).Nodup:=by rw [g1] at hn;exact (List.nodup_append.1 hn).1
 obtain ⟨ν',hs'⟩:=hs.call hd hb g2 hnew hnn (λb hb=>hnw b hb) g3 (touch:=avs.flatMap (kW hp));exact hK ν' _ _ hs'
end
section
variable {P:Program} {dst:Option Tmp} {ty:TypeId} {pos:String} {aft:Array Edge} {g:Option (Nat×Bool)} {s:AState}
theorem lZ {f:FuncId} {xs:Array Operand} {ats:Array TypeId} {avs ds:List AV} {u:Value} (hc:HasC P f ds (.sc u)) (hx:evs s.ev xs.toList=some avs) (hv1:All2 (vY s.kp s.heap) avs ds):
  AEff P ⟨dst,.call ⟨.value (.func f),xs,ats⟩,ty,pos,aft,g⟩ s.ev s.heap s.kp ⟨.sc u,avs.flatMap (kW s.heap),[],[]⟩:=
 aHj (ns:=[]) (nb:=[]) (r:= .sc u) (x:= .sc u) rfl hx hc hv1 trivial (aIV [] u) rfl (by simp)
theorem aFg {f:FuncId} {xs:Array Operand} {ats:Array TypeId} {avs ds:List AV} {r x:AV} {nb:List (Nat×Blk)} {ns':List Nat} (hc:HasC P f ds r) (hx:evs s.ev xs.toList=some avs) (hi:aKx s.ns r=(x,nb,ns')) (hfl:aJf x=true) (hn:rX s.ns=true) (hg:aED r) (hv1:All2 (vY s.kp s.heap) avs ds):
  AEff P ⟨dst,.call ⟨.value (.func f),xs,ats⟩,ty,pos,aft,g⟩ s.ev s.heap s.kp ⟨x,avs.flatMap (kW s.heap),mS nb,nb.map (·.1)⟩:=
 aHj rfl hx hc hv1 hg hi hfl (zA hn)
end
def aFh (w:World):List AV→(List AV→Prop)→Prop
 | [],K=>K []
 | .sc u::cs,K=>aFh w cs (λxs=>K (.sc u::xs))
 |d::cs,K=> ∀ v S,RepD w d v S→aFh w cs (λxs=>K (.sc v::xs))
def uB (w:World):List AV→(List AV→Prop)→Prop
 | [],K=>K []
 | .sc u::ds,K=>uB w ds (λxs=>K (.sc u::xs))
 | .agg cs::ds,K=>aFh w cs (λxs=>uB w ds (λys=>K (.agg xs::ys)))
 |d::ds,K=> ∀ v S,RepD w d v S→uB w ds (λxs=>K (.sc v::xs))
theorem aFi {w:World} {K:List AV→Prop} (h:K []):aFh w [] K:=h
theorem aIe {w:World} {u:Value} {cs:List AV} {K:List AV→Prop} (h:aFh w cs (λxs=>K (.sc u::xs))):aFh w (.sc u::cs) K:=h
theorem aDc {w:World} {k:Nat} {es:List (List AV)} {cs:List AV} {K:List AV→Prop} (h: ∀ v S,RepD w (.list k es) v S→aFh w cs (λxs=>K (.sc v::xs))):aFh w (.list k es::cs) K:=h
theorem aFj {w:World} {K:List AV→Prop} (h:K []):uB w [] K:=h
theorem aMN {w:World} {u:Value} {cs:List AV} {K:List AV→Prop} (h:uB w cs (λxs=>K (.sc u::xs))):uB w (.sc u::cs) K:=h
theorem aFk {w:World} {xs cs:List AV} {K:List AV→Prop} (h:aFh w xs (λxs=>uB w cs (λys=>K (.agg xs::ys)))):uB w (.agg xs::cs) K:=h
theorem aRU {w:World} {k:Nat} {es:List (List AV)} {cs:List AV} {K:List AV→Prop} (h: ∀ v S,RepD w (.list k es) v S→uB w cs (λxs=>K (.sc v::xs))):uB w (.list k es::cs) K:=h
def aOb:AV→Bool
 | .sc u=>u.oneCell'
 | .agg cs=>cs.all kJ
 | .list _ _=>true
 |_=>false
theorem aJx {w:World} {d:AV} {v:Value} {S:List Nat} (r:RepD w d v S) (ok:kJ d=true):v.oneCell'=true:=by
 cases d <;> simp only [kJ,fL] at ok <;> simp only [RepD] at r
 ·rw [r.1];exact ok
 ·obtain ⟨a,c,rfl,_⟩:=r;rfl
theorem aMO {w:World} : ∀ {cs:List AV} {us:List Value} {S:List Nat} {K:List AV→Prop},RepVs w cs us S→cs.all kJ=true→aFh w cs K→ ∃ xs,K xs∧ ∀ (w':World) (h:Hp) (u:Us) (ν:Nu),All2 (Rep1 w' h u ν) xs us
 | [],us,S,K,r,_,k=>by simp only [RepVs] at r;obtain ⟨rfl,_⟩:=r;exact ⟨[],k,λ_ _ _ _=>rfl⟩
 |c::cs,us,S,K,r,ok,k=>by
  simp only [RepVs] at r;obtain ⟨v,q,S1,S2,rfl,rfl,h3,h4⟩:=r;simp only [List.all_cons,cU] at ok
  have key: ∀ x,aFh w cs (λxs=>K (x::xs))→x= .sc v→ ∃ xs,K xs∧ ∀ (w':World) (h:Hp) (u:Us) (ν:Nu),All2 (Rep1 w' h u ν) xs (v::q):=by
   rintro x k1 rfl;obtain ⟨xs,g1,g2⟩:=aMO h4 ok.2 k1;exact ⟨.sc v::xs,g1,λw' h u ν=>⟨v,q,rfl,⟨rfl,aJx h3 ok.1⟩,g2 w' h u ν⟩⟩
  cases c <;> simp only [kJ,fL,false_and] at ok
  ·simp only [RepD] at h3;exact key _ k (by rw [h3.1])
  ·exact key _ (k v S1 h3) rfl
theorem aHk {w:World} : ∀ {ds:List AV} {vs:List Value} {S:List Nat} {K:List AV→Prop},RepVs w ds vs S→ds.all aOb=true→uB w ds K→ ∃ xs,K xs∧xs.length=ds.length∧ ∀ (h:Hp) (u:Us) (ν:Nu),All2 (RepA w h u ν) xs vs
 | [],vs,S,K,r,_,k=>by simp only [RepVs] at r;obtain ⟨rfl,_⟩:=r;exact ⟨[],k,rfl,λ_ _ _=>rfl⟩
 |d::ds,vs,S,K,r,ok,k=>by
  simp only [RepVs] at r;obtain ⟨v,q,S1,S2,rfl,rfl,h3,h4⟩:=r;simp only [List.all_cons,cU] at ok
  have key: ∀ x,uB w ds (λxs=>K (x::xs))→(∀ (h:Hp) (u:Us) (ν:Nu),RepA w h u ν x v)→ ∃ xs,K xs∧xs.length=(d::ds).length∧ ∀ (h:Hp) (u:Us) (ν:Nu),All2 (RepA w h u ν) xs (v::q):=by
   intro x k1 hx;obtain ⟨xs,g1,g2,g3⟩:=aHk h4 ok.2 k1;exact ⟨x::xs,g1,by simp [g2],λh u ν=>⟨v,q,rfl,hx h u ν,g3 h u ν⟩⟩
  cases d <;> simp only [aOb,fL,false_and] at ok
  ·simp only [RepD] at h3;exact key _ k λh u ν=>by simp only [RepA,RepB,Rep1];exact ⟨h3.1,h3.2.1⟩
  ·exact key _ (k v S1 h3) λh u ν=>(show Rep1 w h u ν (.sc v) v from ⟨rfl,aJx h3 rfl⟩)
  ·have h3':=h3;simp only [RepD] at h3';obtain ⟨us,rfl,h5⟩:=h3';obtain ⟨xs,g1,g2⟩:=aMO h5 ok.1 k;exact key _ g1 λh u ν=>by simp only [RepA,RepB];exact ⟨us,rfl,g2 w h u ν⟩
theorem aFl {P:Program} {T:List (Nat×Ty)} (hT:TyOk P T) {f:FuncId} {fn:Func} {c:Code} {nt:Nat} {ds:List AV} {r:AV} {rvs:List ResultVar} {ns:List Nat} (hf:P.funcs[f]? =some fn) (hb:fn.body=some c) (hname:(fn.name== "runtime.NumGoroutine")=false) (hnt:fn.ntmps=nt) (hres:fn.results.toList=rvs)
  (hlen:Nat.ble ds.length nt=true) (hok:ds.all aOb=true) (h: ∀ W:World,uB W ds λxs=>AC P nt c ⟨aAs xs,eV [],qE 0,ns,⟨0,true,xE W,true⟩⟩ (rY T rvs r)):HasC P f ds r:=by
 refine ⟨Enters.mk hf (by rw [hb];rfl) hname,λw args S hargs=>?_⟩;refine (callsIn_wide (n:=0)).1 (callsIn_of_wp_marks (F:=fw none) hf hb trivial ?_);have hlen':=Nat.le_of_ble_eq_true hlen;have hal:args.size=ds.length:=by have:=hargs.len;simpa using this
 obtain ⟨xs,hac,hxl,hxr⟩:=aHk hargs hok (h w);let C:Ctx:=⟨w.heap.size,w,nt,λx=>w.heap.size≤x,λ_ h=>h,⟨0,true,xE w,true⟩,w,eV [],Nu.none,λx=>x<w.heap.size,λ_ x hx hm=>absurd hx (Nat.not_lt.2 hm),(λp h=>by cases h;exact ⟨rfl,λx hx=>⟨hx,hx⟩⟩),none,λ_=>rfl⟩;have hfr: ∀ x,pI (eV []) Nu.none x:=λx b blk β c hb=>by cases hb
 have hsim:Sim C ⟨aAs xs,eV [],qE 0,ns,⟨0,true,xE w,true⟩⟩ Nu.none ⟨args++Array.replicate (fn.ntmps - args.size) undef,[]⟩ w:=by
  refine ⟨Below.refl _ _,bJ _,λ_ hx=>hx,sH,by show (args++Array.replicate (fn.ntmps - args.size) undef).size=nt;simp [hnt];omega,?_,⟨λ_=>[],λb blk hb=>(by cases hb),λb c x hb=>absurd rfl hb⟩,rfl,ExtF.refl λx _ _=>hfr x,bJ _,λ_ _=>trivial,λ_ _ _ _=>trivial⟩;intro t x hx;have hx':xs[t]? =some x:=by rw [←aCf];exact hx
  obtain ⟨v,h1,h2⟩:=(hxr (eV []) (qE 0) Nu.none).get hx';refine ⟨v,?_,h2⟩
  have hlt:t<args.size:=by
   rcases dI t args.size with h'|h'
   ·exact h'
   ·rw [fR (by simpa using h')] at h1;cases h1
  show (args++Array.replicate (fn.ntmps - args.size) undef)[t]? =some v;rw [Array.getElem?_append_left hlt];simpa using h1
 refine wpIn_mono (hac.out C rfl _ _ w hsim 0) λe a' w0 ⟨s',ν',hq,hs0⟩=>?_;obtain ⟨Ds,d1,d2,d3⟩:=hs0.defers;obtain ⟨w',hs',hleave⟩:=hs0.leave (P:=P) (n:=0) d1 d2 d3;obtain ⟨he,avs,hv,hn,hfz⟩:=hq;obtain ⟨us,h1,h2⟩:=uZ hT hs' hv;obtain ⟨φ,hh⟩:=hs'.heap;have hn':=zA hn
 have hrun:(results fn a'.tmps).run P w'= .ok (if hh:us.toArray.size=1 then us.toArray[0] else .tuple us.toArray) w':=by
  unfold results;rw [Sem.run_bind,Array.mapM_eq_mapM_toList,Sem.run_map,hres];have h1':=h1;generalize hq:(List.mapM _ rvs:Sem (List Value))=m;rw [show Sem.run P m w'= .ok us w' by rw [←hq];exact h1'];simp
 have hres2: ∃ S',aIT w' r (if hh:us.toArray.size=1 then us.toArray[0] else .tuple us.toArray) S'∧New w.heap.size S':=by
  have hul:us.length=avs.length:=h2.len;unfold aGq at hfz;split at hfz
  ·rename_i v r';obtain ⟨u,q,rfl,g1,g2⟩:=h2;simp only [All2] at g2;subst g2;simp only [List.flatMap_cons,List.flatMap_nil,List.append_nil] at hn';obtain ⟨S',a1,a2,a3,a4⟩:=aFR hh g1 hfz.1 hn';refine ⟨S',?_,a2,a3⟩;simp only [List.size_toArray,List.length_cons,List.length_nil,Nat.zero_add,dite_true];have hnt:=hfz.2;cases r <;> first|exact a1|exact absurd rfl (hnt _)
  ·rename_i vs rs _;obtain ⟨S',a1,a2,a3,a4⟩:=aDS hh h2 hfz.2 hn';refine ⟨S',?_,a2,a3⟩;rw [dif_neg (by simp;rw [hul];exact hfz.1)];exact ⟨us,rfl,a1⟩
  ·exact hfz.elim
 obtain ⟨S',hr1,hr2⟩:=hres2;have hend:=hleave fn (λe w'=> ∃ v S',e= .returned v∧Below w.heap.size w w'∧aIT w' r v S'∧New w.heap.size S') ⟨_,hrun,_,S',rfl,hs'.below,hr1,hr2⟩;cases e <;> simp only [aCc,fL] at he <;> exact hend
def dfE:List (Nat×AV)→Prop
 | []=>True
 |(_,x)::r=>dfA x=true∧dfE r
theorem uC: ∀ {l:List (Nat×AV)},dfE l→ ∀ t x,aAE l t=some x→dfA x=true
 | [],_,t,x,h=>by cases h
 |(k,v)::r,⟨h1,h2⟩,t,x,h=>by
  simp only [aAE] at h;cases hb:Nat.beq t k with
  |true=>rw [hb] at h;cases h;exact h1
  |false=>rw [hb] at h;exact uC h2 t x h
def dfR (y:Blk):Prop:= ∀ cs∈y.es,∀ c∈cs,dfC c=true
def dfH (skip:List Nat):List (Nat×Blk)→Prop
 | []=>True
 |(b,y)::r=>(b∈skip∨dfR y)∧dfH skip r
theorem uD {skip:List Nat} : ∀ {l:List (Nat×Blk)},dfH skip l→ ∀ b blk,eV l b=some blk→b ∉ skip→ ∀ cs∈blk.es,∀ c∈cs,dfC c=true
 | [],_,b,x,h=>by cases h
 |(k,v)::r,⟨h1,h2⟩,b,x,h=>by
  simp only [eV] at h;by_cases e:b=k
  ·subst e;rw [bU] at h;cases h;intro hn;exact h1.elim (λh=>absurd h hn) id
  ·rw [bX e] at h;exact uD h2 b x h
theorem EOk.df {α:Type} {k:Nat} {e:α→List AV} (E:EOk k e) (k':Nat) (l:List α):dfR ⟨k',l.map (ow e)⟩:=by
 intro cs hcs c hc;obtain ⟨x,_,rfl⟩:=List.mem_map.1 hcs;obtain ⟨d,hd,rfl⟩:=List.mem_map.1 hc;have:=E.mem x d hd;cases d <;> simp only [kJ,fL] at this <;> rfl
theorem EOk.dfS {α:Type} {k:Nat} {e:α→List AV} (E:EOk k e) (k':Nat) (l:List α) (i:Nat) {c:List AV} (h:c.all dfC=true):dfR ⟨k',(l.map (ow e)).set i c⟩:=by
 intro cs hcs d hd;rcases List.mem_or_eq_of_mem_set hcs with h1|rfl
 ·exact E.df k' l cs h1 d hd
 ·exact List.all_eq_true.1 h d hd
theorem aAO {k:Nat} {es:List (List AV)} (h:(es.all λcs=>cs.all dfC)=true):dfR ⟨k,es⟩:=λcs hcs c hc=>List.all_eq_true.1 (List.all_eq_true.1 h cs hcs) c hc
theorem wX {α:Type} {e:α→List AV} {l:List α} {i:Nat} {v:α} (h:l[i]? =some v):l.map (ow e)=(l.map (ow e)).set i (ow e v):=by
 rw [←List.map_set];congr 1;refine List.ext_getElem? λj=>?_;rw [List.getElem?_set];by_cases e:i=j
 ·subst e
  have:i<l.length:=by
   rcases dI i l.length with h'|h'
   ·exact h'
   ·rw [fR h'] at h;cases h
  rw [aP rfl,aP this,h]
 ·rw [aO e]
theorem uE {α:Type} {k:Nat} {e:α→List AV} (E:EOk k e) {l:List α} {i:Nat} {c:List AV} (h:c.all qL=true):xO ((l.map (ow e)).set i c):=by
 intro cs hcs d hd;rcases List.mem_or_eq_of_mem_set hcs with h1|rfl
 ·exact E.plainO l cs h1 d hd
 ·exact List.all_eq_true.1 h d hd
theorem oF {s:AState} {b c i j k k' n:Nat} {A es' fs:List (List AV)} {cs:List AV} (hi:i<A.length) (hT:s.kp.T=true) (hb:s.heap b=some ⟨k,A.set i cs⟩) (hj:cs[j]? =some (.abs k' es')) (hc:s.used c=false) (hn:es'.length=n) (hfs:dM es'=fs) (hdf: ∀ t x,s.env t=some x→dfA x=true) (hdc: ∀ b blk,s.heap b=some blk→b ∉ ([]:List Nat)→ ∀ cs∈blk.es,∀ c∈cs,dfC c=true):
  Ent s ⟨s.env,aZ [(c,some ⟨k',fs⟩),(b,some ⟨k,A.set i (aAK cs j [.own c 0 n])⟩)] s.heap,fF [c] s.used,s.ns,s.kp⟩:=by
 subst hn hfs
 have hjl:j<cs.length:=by
  rcases dI j cs.length with h'|h'
  ·exact h'
  ·rw [fR h'] at hj;cases hj
 have h:=aOa (c:=c) hT hb (i:=i) (cs:=cs) (by simp [hi]) hj hc hdf (λb blk hb=>hdc b blk hb (by simp));have e:=aBT (cs:=cs) (j:=j) (vs:=[.own c 0 es'.length]) (by simp;omega);simp only [List.length_singleton] at e;rw [e] at h;simp only [List.set_set] at h;exact h
theorem aCj {P:Program} {T:List (Nat×Ty)} {dst:Option Tmp} {ty:TypeId} {pos:String} {aft:Array Edge} {g:Option (Nat×Bool)} {s:AState} (hT:TyOk P T) {t:TypeId} {y:Ty} {x z:Operand} {val:AV} {b i j kk:Nat} {A:List (List AV)} {cs:List AV} (hi:i<A.length) (hx:s.ev x=some (.ptr b i j)) (hb:s.heap b=some ⟨kk,A.set i cs⟩) (hz:s.ev z=some val) (hy:dA T t=some y) (hsz:Nat.beq (cA val).length y.size=true) (ok:(cA val).all (okCell s.heap)=true) (hn:Nat.ble (j+y.size) cs.length=true):
  AEff P ⟨dst,.store t x z,ty,pos,aft,g⟩ s.ev s.heap s.kp ⟨.dead,b::cN (cA val),[(b,some ⟨kk,A.set i (aAK cs j (cA val))⟩)],[]⟩:=by
 have h:=aEq (P:=P) hT (dst:=dst) (ty:=ty) (pos:=pos) (aft:=aft) (g:=g) hx hb hz hy hsz ok (i:=i) (cs:=cs) (by simp [hi]) hn;rw [List.set_set] at h;exact h
theorem aRV {α:Type} {k:Nat} {e:α→List AV} {hp:Hp} {b i n:Nat} {l:List α} (E:EOk k e) (hb:hp b=some ⟨k,l.map (ow e)⟩):sJ hp (.own b i n)=some (k,((l.drop i).take n).map e,[b]):=by
 simp only [sJ,hb,←List.map_drop,←List.map_take];rw [aOO E]
section
variable {P:Program} {ops:Array Oper} {nt:Nat} {l:List Oper} {s:AState} {K:AState→Prop}
theorem fZ {t u:Bool} (i:Nat) (hi:s.env i=some (.sc (.bool t))) (q:t=u) (h:SOps P ops nt l ⟨upd (some i) (.sc (.bool u)) s.env,s.heap,s.used,s.ns,s.kp⟩ K):SOps P ops nt l s K:=by
 subst q;rw [aJm hi] at h;exact h
theorem bO {d:Option Tmp} {op:Op} {ty:TypeId} {pos:String} {aft:Array Edge} {g:Option (Nat×Bool)} (hg:lB ops s.env ⟨d,op,ty,pos,aft,g⟩=some false) (hd:aEU ⟨d,op,ty,pos,aft,g⟩ nt=true) (h:SOps P ops nt l ⟨upd d (.tuple []) s.env,s.heap,s.used,s.ns,s.kp⟩ K):SOps P ops nt (⟨d,op,ty,pos,aft,g⟩::l) s K:=⟨λC hC ν a w hs n Q hQ=>by
 subst hC;refine wpListIn_step λK' hK'=>?_;have hst:aIR P ops C.nt ⟨d,op,ty,pos,aft,g⟩ s xJ:=⟨aCY hd,.inr ⟨hg,rfl⟩⟩
 exact aAD hst hs λν' a' w' hs'=>hK' _ _ (h.out C rfl ν' a' w' hs' n Q hQ)⟩
end
end
noncomputable section
theorem k {α:Sort _} {a:α} :a=a:=rfl
section
variable {P:Program} {ops:Array Oper} {nt:Nat} {r:List Oper} {s:AState} {tr:List Tr} {K:List Tr→AState→Prop} {K':AState→Prop}
def opB (ops:Array Oper) (nt:Nat) (s:AState) (o:Oper) (news:List Nat):Bool:=aEU o nt&&((match lB ops s.env o with|some true=>true|_=>false)&&news.all λb=> !s.used b)
theorem aDd {o:Oper} {news:List Nat} (h:opB ops nt s o news=true):aEU o nt=true∧lB ops s.env o=some true∧(news.all λb=> !s.used b)=true:=by
 simp only [opB,cU] at h;obtain ⟨h1,h2,h3⟩:=h;refine ⟨h1,?_,h3⟩;split at h2
 ·assumption
 ·cases h2
theorem ae {d:Option Tmp} {op:Op} {ty:TypeId} {pos:String} {aft:Array Edge} {g:Option (Nat×Bool)} {e:Eff} (he:AEff P ⟨d,op,ty,pos,aft,g⟩ s.ev s.heap s.kp e) (hb:opB ops nt s ⟨d,op,ty,pos,aft,g⟩ e.news=true) (h:AOps P ops nt r (s.app d e) (yX e::tr) K):AOps P ops nt (⟨d,op,ty,pos,aft,g⟩::r) s tr K:=
 aQ he (aDd hb).1 (aDd hb).2.1 (aDd hb).2.2 h
theorem se {d:Option Tmp} {op:Op} {ty:TypeId} {pos:String} {aft:Array Edge} {g:Option (Nat×Bool)} {e:Eff} (he:AEff P ⟨d,op,ty,pos,aft,g⟩ s.ev s.heap s.kp e) (hb:opB ops nt s ⟨d,op,ty,pos,aft,g⟩ e.news=true) (h:SOps P ops nt r (s.app d e) K'):SOps P ops nt (⟨d,op,ty,pos,aft,g⟩::r) s K':=
 aOX he (aDd hb).1 (aDd hb).2.1 (aDd hb).2.2 h
theorem am {d:Option Tmp} {ty:TypeId} {pos:String} {aft:Array Edge} {g:Option (Nat×Bool)} {x:Operand} {v:AV} (hx:s.ev x=some v) (hb:opB ops nt s ⟨d,.move x,ty,pos,aft,g⟩ []=true) (h:AOps P ops nt r (s.app d ⟨v,[],[],[]⟩) (yX ⟨v,[],[],[]⟩::tr) K):AOps P ops nt (⟨d,.move x,ty,pos,aft,g⟩::r) s tr K:=ae (dL hx) hb h
theorem aa {d:Option Tmp} {ty:TypeId} {pos:String} {aft:Array Edge} {g:Option (Nat×Bool)} {x:Operand} {v:AV} (hx:s.ev x=some v) (hb:opB ops nt s ⟨d,.assign x,ty,pos,aft,g⟩ []=true) (h:AOps P ops nt r (s.app d ⟨v,[],[],[]⟩) (yX ⟨v,[],[],[]⟩::tr) K):AOps P ops nt (⟨d,.assign x,ty,pos,aft,g⟩::r) s tr K:=ae (eP hx) hb h
theorem an (h:K tr s):AOps P ops nt [] s tr K:=eK h
theorem sn (h:K' s):SOps P ops nt [] s K':=aOW h
variable {Q:Exit→AState→Prop}
theorem sQ {x y:Code} (h:AC P nt x s (xN (λs'=>AC P nt y s' Q) Q)):AC P nt (.seq x y) s Q:=iS h
theorem rg {id:Nat} {l:List Oper} (h:AOps P l.toArray nt l s [] (λ_ s'=>Q .normal s')):AC P nt (.region id l.toArray false) s Q:=dU h
theorem rgS {id:Nat} {l:List Oper} (h:SOps P l.toArray nt l s (Q .normal)):AC P nt (.region id l.toArray false) s Q:=aLP h
theorem tn (h:K' s):xN K' Q .normal s:=h
end
theorem ak {P:Program} {ops:Array Oper} {nt:Nat} {r:List Oper} {s:AState} {tr:List Tr} {K:List Tr→AState→Prop} {d:Option Tmp} {op:Op} {ty:TypeId} {pos:String} {aft:Array Edge} {g:Option (Nat×Bool)} (hg:lB ops s.env ⟨d,op,ty,pos,aft,g⟩=some false) (hd:aEU ⟨d,op,ty,pos,aft,g⟩ nt=true) (h:AOps P ops nt r ⟨upd d (.tuple []) s.env,s.heap,s.used,s.ns,s.kp⟩ (⟨[],[]⟩::tr) K):AOps P ops nt (⟨d,op,ty,pos,aft,g⟩::r) s tr K:=aHP hg hd h
section
variable {σ:Nat→Option Nat} {n b b0 k:Nat} {h:Hp} {r:List (Nat×Blk)}
theorem hB {y:Blk} (hp:xO y.es) (hs:σ b=some b0) (hb:h b0=some y) (hn:Nat.blt b n=true) (hr:mR σ n h r):mR σ n h ((b,y)::r):=by
 simp only [mR];rw [hs];exact ⟨⟨y,hb,rfl,.inl ⟨rfl,hp⟩⟩,hn,hr⟩
theorem hX {y:Blk} (hm:match σ b with|some b0=> ∃ x,h b0=some x∧aBv σ n x y|none=>y.es=[]) (hn:Nat.blt b n=true) (hr:mR σ n h r):mR σ n h ((b,y)::r):=⟨hm,hn,hr⟩
end
theorem aTG {P:Program} {T:List (Nat×Ty)} (hT:TyOk P T) {dst:Option Tmp} {pos:String} {aft:Array Edge} {g:Option (Nat×Bool)} {s:AState} {x:Operand} {t e k:Nat} {y:Ty} {dty:TypeId} {α:Type} {f:α→List AV} {l:List α} (hx:s.ev x=some (.list k (List.map f l))) (hy:dA T t=some y) (hd:y.desc= .slice e):
  AEff P ⟨dst,.call ⟨.builtin .len,#[x],#[t]⟩,dty,pos,aft,g⟩ s.ev s.heap s.kp ⟨.int l.length,[],[],[]⟩:=AEff.val (wU hT hx hy hd) (by rw [dE])
theorem lA {α:Type} {a b:List α} :(a++b).length=a.length+b.length:=List.length_append
theorem lT {α:Type} {a:List α} {i:Nat} {x:α} :(a.set i x).length=a.length:=List.length_set
theorem lR {α:Type} {n:Nat} {x:α} :(List.replicate n x).length=n:=List.length_replicate
theorem lC {α:Type} {a:α} {b:List α} :(a::b).length=b.length+1:=List.length_cons
theorem lN {α:Type} :([]:List α).length=0:=List.length_nil
theorem aLR:([]:List AV).all sC=true:=rfl
theorem aBa {d:AV} {ds:List AV} (h1:sC d=true) (h2:ds.all sC=true):(d::ds).all sC=true:=by
 rw [List.all_cons,h1,h2];rfl
end
noncomputable section
theorem k2 {αa:Sort _} {a:αa} {αb:Sort _} {b:αb} :a=a∧b=b:=⟨rfl,rfl⟩
theorem k3 {αa:Sort _} {a:αa} {αb:Sort _} {b:αb} {αc:Sort _} {c:αc} :a=a∧b=b∧c=c:=⟨rfl,rfl,rfl⟩
theorem k4 {αa:Sort _} {a:αa} {αb:Sort _} {b:αb} {αc:Sort _} {c:αc} {αd:Sort _} {d:αd} :a=a∧b=b∧c=c∧d=d:=⟨rfl,rfl,rfl,rfl⟩
theorem k7 {αa:Sort _} {a:αa} {αb:Sort _} {b:αb} {αc:Sort _} {c:αc} {αd:Sort _} {d:αd} {αe:Sort _} {e:αe} {αf:Sort _} {f:αf} {αg:Sort _} {g:αg} :a=a∧b=b∧c=c∧d=d∧e=e∧f=f∧g=g:=⟨rfl,rfl,rfl,rfl,rfl,rfl,rfl⟩
theorem k8 {αa:Sort _} {a:αa} {αb:Sort _} {b:αb} {αc:Sort _} {c:αc} {αd:Sort _} {d:αd} {αe:Sort _} {e:αe} {αf:Sort _} {f:αf} {αg:Sort _} {g:αg} {αh:Sort _} {h:αh} :a=a∧b=b∧c=c∧d=d∧e=e∧f=f∧g=g∧h=h:=⟨rfl,rfl,rfl,rfl,rfl,rfl,rfl,rfl⟩
section
variable {ops:Array Oper} {nt:Nat} {r:List Oper} {s:AState} {tr:List Tr} {K:List Tr→AState→Prop} {K':AState→Prop} {d:Option Tmp} {ty:TypeId} {pos:String} {aft:Array Edge} {g:Option (Nat×Bool)}
theorem lp {x:Operand} {t:Nat} {y:Ty} {b i j:Nat} {blk:Blk} {cs:List AV} {v:AV} (h:s.ev x=some (.ptr b i j)∧s.heap b=some blk∧dA TT t=some y∧(y.desc.isAgg||Nat.beq y.size 1)=true∧blk.es[i]? =some cs∧Nat.ble (j+y.size) cs.length=true∧yE y.desc.isAgg (((cs.drop j).take y.size).map yV)=v∧opB ops nt s ⟨d,.load t x,ty,pos,aft,g⟩ []=true) (g2:AOps Tryz.prog ops nt r (s.app d ⟨v,[b],[],[]⟩) (yX ⟨v,[b],[],[]⟩::tr) K):AOps Tryz.prog ops nt (⟨d,.load t x,ty,pos,aft,g⟩::r) s tr K:=by
 obtain ⟨h0,h1,h2,h3,h4,h5,h6,h7⟩:=h;exact ae (cK aH h0 h1 h2 h3 h4 h5 h6) h7 g2
theorem fp {x:Operand} {st f off ft:Nat} {b i j:Nat} {blk:Blk} {y yf:Ty} {fs:List (Nat×Nat)} (h:s.ev x=some (.ptr b i j)∧s.heap b=some blk∧dA TT st=some y∧y.desc= .struct fs∧fs[f]? =some (off,ft)∧dA TT ft=some yf∧Nat.beq yf.size 0=false∧opB ops nt s ⟨d,.fieldAddr st x f,ty,pos,aft,g⟩ []=true) (g2:AOps Tryz.prog ops nt r (s.app d ⟨.ptr b i (j+off),[b],[],[]⟩) (yX ⟨.ptr b i (j+off),[b],[],[]⟩::tr) K):AOps Tryz.prog ops nt (⟨d,.fieldAddr st x f,ty,pos,aft,g⟩::r) s tr K:=by
 obtain ⟨h0,h1,h2,h3,h4,h5,h6,h7⟩:=h;exact ae (vA aH h0 h1 h2 h3 h4 h5 h6) h7 g2
theorem lr {x:Operand} {t:Nat} {y:Ty} {cs:List AV} {v:AV} (h:s.ev x=some (.ref cs)∧dA TT t=some y∧(y.desc.isAgg||Nat.beq y.size 1)=true∧Nat.ble y.size cs.length=true∧(cs.take y.size).all eC=true∧yE y.desc.isAgg (cs.take y.size)=v∧opB ops nt s ⟨d,.load t x,ty,pos,aft,g⟩ []=true) (g2:AOps Tryz.prog ops nt r (s.app d ⟨v,[],[],[]⟩) (yX ⟨v,[],[],[]⟩::tr) K):AOps Tryz.prog ops nt (⟨d,.load t x,ty,pos,aft,g⟩::r) s tr K:=by
 obtain ⟨h0,h1,h2,h3,h4,h5,h6⟩:=h;exact ae (aFS aH h0 h1 h2 h3 h4 h5) h6 g2
theorem cm {op:BinOp} {t t':TypeId} {x y:Operand} {q:IntKind} {a b:Int} {c:Bool} (h:s.ev x=some (.sc (.int q a))∧s.ev y=some (.sc (.int q b))∧aPs op a b=some c∧opB ops nt s ⟨d,.binOp op t x y t',ty,pos,aft,g⟩ []=true) (g2:AOps Tryz.prog ops nt r (s.app d ⟨.bl c,[],[],[]⟩) (yX ⟨.bl c,[],[],[]⟩::tr) K):AOps Tryz.prog ops nt (⟨d,.binOp op t x y t',ty,pos,aft,g⟩::r) s tr K:=by
 obtain ⟨h0,h1,h2,h3⟩:=h;exact ae (aAb h0 h1 h2) h3 g2
theorem pk {c x y:Operand} {t:Bool} {v:AV} (h:s.ev c=some (.sc (.bool t))∧s.ev (if t then x else y)=some v∧opB ops nt s ⟨d,.pick c x y,ty,pos,aft,g⟩ []=true) (g2:AOps Tryz.prog ops nt r (s.app d ⟨v,[],[],[]⟩) (yX ⟨v,[],[],[]⟩::tr) K):AOps Tryz.prog ops nt (⟨d,.pick c x y,ty,pos,aft,g⟩::r) s tr K:=by
 obtain ⟨h0,h1,h2⟩:=h;exact ae (yW h0 h1) h2 g2
theorem ln {x:Operand} {t e q:Nat} {y:Ty} {α:Type} {f:α→List AV} {l:List α} (h:s.ev x=some (.list q (List.map f l))∧dA TT t=some y∧y.desc= .slice e∧opB ops nt s ⟨d,.call ⟨.builtin .len,#[x],#[t]⟩,ty,pos,aft,g⟩ []=true) (g2:AOps Tryz.prog ops nt r (s.app d ⟨.int l.length,[],[],[]⟩) (yX ⟨.int l.length,[],[],[]⟩::tr) K):AOps Tryz.prog ops nt (⟨d,.call ⟨.builtin .len,#[x],#[t]⟩,ty,pos,aft,g⟩::r) s tr K:=by
 obtain ⟨h0,h1,h2,h3⟩:=h;exact ae (aTG aH h0 h1 h2) h3 g2
theorem lpS {x:Operand} {t:Nat} {y:Ty} {b i j:Nat} {blk:Blk} {cs:List AV} {v:AV} (h:s.ev x=some (.ptr b i j)∧s.heap b=some blk∧dA TT t=some y∧(y.desc.isAgg||Nat.beq y.size 1)=true∧blk.es[i]? =some cs∧Nat.ble (j+y.size) cs.length=true∧yE y.desc.isAgg (((cs.drop j).take y.size).map yV)=v∧opB ops nt s ⟨d,.load t x,ty,pos,aft,g⟩ []=true) (g2:SOps Tryz.prog ops nt r (s.app d ⟨v,[b],[],[]⟩) K'):SOps Tryz.prog ops nt (⟨d,.load t x,ty,pos,aft,g⟩::r) s K':=by
 obtain ⟨h0,h1,h2,h3,h4,h5,h6,h7⟩:=h;exact se (cK aH h0 h1 h2 h3 h4 h5 h6) h7 g2
theorem fpS {x:Operand} {st f off ft:Nat} {b i j:Nat} {blk:Blk} {y yf:Ty} {fs:List (Nat×Nat)} (h:s.ev x=some (.ptr b i j)∧s.heap b=some blk∧dA TT st=some y∧y.desc= .struct fs∧fs[f]? =some (off,ft)∧dA TT ft=some yf∧Nat.beq yf.size 0=false∧opB ops nt s ⟨d,.fieldAddr st x f,ty,pos,aft,g⟩ []=true) (g2:SOps Tryz.prog ops nt r (s.app d ⟨.ptr b i (j+off),[b],[],[]⟩) K'):SOps Tryz.prog ops nt (⟨d,.fieldAddr st x f,ty,pos,aft,g⟩::r) s K':=by
 obtain ⟨h0,h1,h2,h3,h4,h5,h6,h7⟩:=h;exact se (vA aH h0 h1 h2 h3 h4 h5 h6) h7 g2
theorem cmS {op:BinOp} {t t':TypeId} {x y:Operand} {q:IntKind} {a b:Int} {c:Bool} (h:s.ev x=some (.sc (.int q a))∧s.ev y=some (.sc (.int q b))∧aPs op a b=some c∧opB ops nt s ⟨d,.binOp op t x y t',ty,pos,aft,g⟩ []=true) (g2:SOps Tryz.prog ops nt r (s.app d ⟨.bl c,[],[],[]⟩) K'):SOps Tryz.prog ops nt (⟨d,.binOp op t x y t',ty,pos,aft,g⟩::r) s K':=by
 obtain ⟨h0,h1,h2,h3⟩:=h;exact se (aAb h0 h1 h2) h3 g2
theorem pkS {c x y:Operand} {t:Bool} {v:AV} (h:s.ev c=some (.sc (.bool t))∧s.ev (if t then x else y)=some v∧opB ops nt s ⟨d,.pick c x y,ty,pos,aft,g⟩ []=true) (g2:SOps Tryz.prog ops nt r (s.app d ⟨v,[],[],[]⟩) K'):SOps Tryz.prog ops nt (⟨d,.pick c x y,ty,pos,aft,g⟩::r) s K':=by
 obtain ⟨h0,h1,h2⟩:=h;exact se (yW h0 h1) h2 g2
theorem fW {x:Operand} {v:AV} (h:s.ev x=some v∧opB ops nt s ⟨d,.assign x,ty,pos,aft,g⟩ []=true) (g2:SOps Tryz.prog ops nt r (s.app d ⟨v,[],[],[]⟩) K'):SOps Tryz.prog ops nt (⟨d,.assign x,ty,pos,aft,g⟩::r) s K':=by
 obtain ⟨h0,h1⟩:=h;exact se (eP h0) h1 g2
theorem cZ {x:Operand} {v:AV} (h:s.ev x=some v∧opB ops nt s ⟨d,.move x,ty,pos,aft,g⟩ []=true) (g2:SOps Tryz.prog ops nt r (s.app d ⟨v,[],[],[]⟩) K'):SOps Tryz.prog ops nt (⟨d,.move x,ty,pos,aft,g⟩::r) s K':=by
 obtain ⟨h0,h1⟩:=h;exact se (dL h0) h1 g2
theorem aR:True:=trivial
theorem aT {x:Operand} {v:AV} {Q:Exit→AState→Prop} {T:AState→Prop} (h:s.ev x=some v∧opB ops nt s ⟨d,.assign x,ty,pos,aft,g⟩ []=true) (g2:T (s.app d ⟨v,[],[],[]⟩)):AOps Tryz.prog ops nt [⟨d,.assign x,ty,pos,aft,g⟩] s tr (λ_ s'=>xN T Q .normal s'):=aa h.1 h.2 (an (tn g2))
theorem aK {o1 o2:Oper} (h:(lB ops s.env o1=some false∧aEU o1 nt=true∧lB ops (upd o1.dst (.tuple []) s.env) o2=some false∧aEU o2 nt=true)) (g2:AOps Tryz.prog ops nt r ⟨upd o2.dst (.tuple []) (upd o1.dst (.tuple []) s.env),s.heap,s.used,s.ns,s.kp⟩ (⟨[],[]⟩::⟨[],[]⟩::tr) K):AOps Tryz.prog ops nt (o1::o2::r) s tr K:=ak h.1 h.2.1 (ak h.2.2.1 h.2.2.2 g2)
theorem sR {id:Nat} {l:List Oper} {y:Code} {Q:Exit→AState→Prop} (h:AOps Tryz.prog l.toArray nt l s [] (λ_ s'=>xN (λs'=>AC Tryz.prog nt y s' Q) Q .normal s')):AC Tryz.prog nt (.seq (.region id l.toArray false) y) s Q:=sQ (rg h)
theorem sS {id:Nat} {l:List Oper} {y:Code} {Q:Exit→AState→Prop} (h:SOps Tryz.prog l.toArray nt l s (xN (λs'=>AC Tryz.prog nt y s' Q) Q .normal)):AC Tryz.prog nt (.seq (.region id l.toArray false) y) s Q:=sQ (rgS h)
end
end
noncomputable section
theorem oB {α β:Type} {o:Option α} {k:α→Option β} {r:β} {p:Prop} (h:o.bind k=some r) (f: ∀ a,o=some a→k a=some r→p):p:=by
 obtain ⟨a,h1,h2⟩:=ob h;exact f a h1 h2
theorem qH {h:Hp} {cs:List AV} (hp:cs.all eC=true):viewA h (.agg cs) (.agg cs):=aEr (aJl hp)
theorem kI {T:List (Nat×Ty)} {rvs:List ResultVar} {e:Exit} {s:AState} {u v:Bool} (h:some u=some v) (p:wF T s rvs=some [.bl u]∧aCc e=true):rY T rvs (.bl v) e s:=by
 cases h;exact bN p.2 p.1 rfl (vB rfl)
theorem yU {T:List (Nat×Ty)} {rvs:List ResultVar} {e:Exit} {s:AState} {u v:Int} (h:some u=some v) (p:wF T s rvs=some [.int u]∧aCc e=true):rY T rvs (.int v) e s:=by
 cases h;exact bN p.2 p.1 rfl (qG rfl)
theorem cL {d:Option Tmp} {ty:TypeId} {pos:String} {aft:Array Edge} {g:Option (Nat×Bool)} {s:AState} {f:FuncId} {xs:Array Operand} {ats:Array TypeId} {avs ds:List AV} {ns':List Nat} {α:Type} {e:α→List AV} {q b:Nat} {l:List α} (ok:EOk q e) (hc:HasC Tryz.prog f ds (.list q (List.map e l))) (h:evs s.ev xs.toList=some avs∧s.ns=b::ns'∧rX s.ns=true) (hv:All2 (viewA s.heap) avs ds):AEff Tryz.prog ⟨d,.call ⟨.value (.func f),xs,ats⟩,ty,pos,aft,g⟩ s.ev s.heap s.kp ⟨.own b 0 l.length,avs.flatMap (kW s.heap)++[].flatMap (oO s.heap),[(b,some ⟨q,List.map (ow e) l⟩)],[b]⟩:=
 AEff.conv (sO (x:= .own b 0 (List.map e l).length) (nb:=[(b,⟨q,dM (List.map e l)⟩)]) hc h.1 (by rw [h.2.1];rfl) rfl h.2.2 (ok.good _) hv) (by simp only [aL]) (aAc (nb':=[(b,⟨q,List.map (ow e) l⟩)]) (by simp only [gF]))
theorem cM {d:Option Tmp} {ty:TypeId} {pos:String} {aft:Array Edge} {g:Option (Nat×Bool)} {s:AState} {f:FuncId} {xs:Array Operand} {ats:Array TypeId} {avs ds:List AV} {ns':List Nat} {b:Nat} {v:Mt} (hc:HasC Tryz.prog f ds (.agg (eM v))) (h:evs s.ev xs.toList=some avs∧s.ns=b::ns'∧rX s.ns=true) (hv:All2 (viewA s.heap) avs ds):AEff Tryz.prog ⟨d,.call ⟨.value (.func f),xs,ats⟩,ty,pos,aft,g⟩ s.ev s.heap s.kp ⟨.agg [.int v.rows,.int v.cols,.own b 0 v.cells.length],avs.flatMap (kW s.heap)++[].flatMap (oO s.heap),[(b,some ⟨1,List.map (ow eI) v.cells⟩)],[b]⟩:=
 AEff.conv (sO (x:= .agg [.int v.rows,.int v.cols,.own b 0 (List.map eI v.cells).length]) (nb:=[(b,⟨1,dM (List.map eI v.cells)⟩)]) hc h.1 (by rw [h.2.1];rfl) rfl h.2.2 (dG trivial (dG trivial (dG (dD.good _) aAN))) hv) (by simp only [aL]) (aAc (nb':=[(b,⟨1,List.map (ow eI) v.cells⟩)]) (by simp only [gF]))
theorem cQ {d:Option Tmp} {ty:TypeId} {pos:String} {aft:Array Edge} {g:Option (Nat×Bool)} {s:AState} {f:FuncId} {xs:Array Operand} {ats:Array TypeId} {avs ds:List AV} {ns':List Nat} {b c:Nat} {v:Qv} (hc:HasC Tryz.prog f ds (.agg (eQ v))) (h:evs s.ev xs.toList=some avs∧s.ns=b::c::ns'∧rX s.ns=true) (hv:All2 (viewA s.heap) avs ds):AEff Tryz.prog ⟨d,.call ⟨.value (.func f),xs,ats⟩,ty,pos,aft,g⟩ s.ev s.heap s.kp ⟨.agg [.int v.n,.own b 0 v.src.length,.own c 0 v.tgt.length],avs.flatMap (kW s.heap)++[].flatMap (oO s.heap),[(b,some ⟨1,List.map (ow eI) v.src⟩),(c,some ⟨1,List.map (ow eI) v.tgt⟩)],[b,c]⟩:=
 AEff.conv (sO (x:= .agg [.int v.n,.own b 0 (List.map eI v.src).length,.own c 0 (List.map eI v.tgt).length]) (nb:=[(b,⟨1,dM (List.map eI v.src)⟩),(c,⟨1,dM (List.map eI v.tgt)⟩)]) hc h.1 (by rw [h.2.1];rfl) rfl h.2.2 (dG trivial (dG (dD.good _) (dG (dD.good _) aAN))) hv) (by simp only [aL]) (aAc (nb':=[(b,⟨1,List.map (ow eI) v.src⟩),(c,⟨1,List.map (ow eI) v.tgt⟩)]) (by simp only [gF]))
theorem cQK {d:Option Tmp} {ty:TypeId} {pos:String} {aft:Array Edge} {g:Option (Nat×Bool)} {s:AState} {f:FuncId} {xs:Array Operand} {ats:Array TypeId} {avs ds:List AV} {ns':List Nat} {b c:Nat} {v:Qv} (hc:HasC Tryz.prog f ds (.agg (eQ v))) (h:evs s.ev xs.toList=some avs∧s.ns=b::c::ns'∧rX s.ns=true) (hv:All2 (vY s.kp s.heap) avs ds):AEff Tryz.prog ⟨d,.call ⟨.value (.func f),xs,ats⟩,ty,pos,aft,g⟩ s.ev s.heap s.kp ⟨.agg [.int v.n,.own b 0 v.src.length,.own c 0 v.tgt.length],avs.flatMap (kW s.heap),[(b,some ⟨1,List.map (ow eI) v.src⟩),(c,some ⟨1,List.map (ow eI) v.tgt⟩)],[b,c]⟩:=
 AEff.conv (aFg (x:= .agg [.int v.n,.own b 0 (List.map eI v.src).length,.own c 0 (List.map eI v.tgt).length]) (nb:=[(b,⟨1,dM (List.map eI v.src)⟩),(c,⟨1,dM (List.map eI v.tgt)⟩)]) hc h.1 (by rw [h.2.1];rfl) rfl h.2.2 (dG trivial (dG (dD.good _) (dG (dD.good _) aAN))) hv) (by simp only [aL]) (aAc (nb':=[(b,⟨1,List.map (ow eI) v.src⟩),(c,⟨1,List.map (ow eI) v.tgt⟩)]) (by simp only [gF]))
theorem cR {d:Option Tmp} {ty:TypeId} {pos:String} {aft:Array Edge} {g:Option (Nat×Bool)} {s:AState} {f:FuncId} {xs:Array Operand} {ats:Array TypeId} {avs ds:List AV} {ns':List Nat} {b c b3 b4:Nat} {v:Rp} (hc:HasC Tryz.prog f ds (.agg (eR v))) (h:evs s.ev xs.toList=some avs∧s.ns=b::c::b3::b4::ns'∧rX s.ns=true) (hv:All2 (viewA s.heap) avs ds):AEff Tryz.prog ⟨d,.call ⟨.value (.func f),xs,ats⟩,ty,pos,aft,g⟩ s.ev s.heap s.kp ⟨.agg [.int v.p,.int v.q.n,.own b 0 v.q.src.length,.own c 0 v.q.tgt.length,.own b3 0 v.dims.length,.own b4 0 v.maps.length],avs.flatMap (kW s.heap)++[].flatMap (oO s.heap),[(b,some ⟨1,List.map (ow eI) v.q.src⟩),(c,some ⟨1,List.map (ow eI) v.q.tgt⟩),(b3,some ⟨1,List.map (ow eI) v.dims⟩),(b4,some ⟨3,List.map (ow eM) v.maps⟩)],[b,c,b3,b4]⟩:=
 AEff.conv (sO (x:= .agg [.int v.p,.int v.q.n,.own b 0 (List.map eI v.q.src).length,.own c 0 (List.map eI v.q.tgt).length,.own b3 0 (List.map eI v.dims).length,.own b4 0 (List.map eM v.maps).length]) (nb:=[(b,⟨1,dM (List.map eI v.q.src)⟩),(c,⟨1,dM (List.map eI v.q.tgt)⟩),(b3,⟨1,dM (List.map eI v.dims)⟩),(b4,⟨3,dM (List.map eM v.maps)⟩)]) hc h.1 (by rw [h.2.1];rfl) rfl h.2.2 (dG trivial (dG trivial (dG (dD.good _) (dG (dD.good _) (dG (dD.good _) (dG (dF.good _) aAN)))))) hv) (by simp only [aL]) (aAc (nb':=[(b,⟨1,List.map (ow eI) v.q.src⟩),(c,⟨1,List.map (ow eI) v.q.tgt⟩),(b3,⟨1,List.map (ow eI) v.dims⟩),(b4,⟨3,List.map (ow eM) v.maps⟩)]) (by simp only [gF]))
theorem cRK {d:Option Tmp} {ty:TypeId} {pos:String} {aft:Array Edge} {g:Option (Nat×Bool)} {s:AState} {f:FuncId} {xs:Array Operand} {ats:Array TypeId} {avs ds:List AV} {ns':List Nat} {b c b3 b4:Nat} {v:Rp} (hc:HasC Tryz.prog f ds (.agg (eR v))) (h:evs s.ev xs.toList=some avs∧s.ns=b::c::b3::b4::ns'∧rX s.ns=true) (hv:All2 (vY s.kp s.heap) avs ds):AEff Tryz.prog ⟨d,.call ⟨.value (.func f),xs,ats⟩,ty,pos,aft,g⟩ s.ev s.heap s.kp ⟨.agg [.int v.p,.int v.q.n,.own b 0 v.q.src.length,.own c 0 v.q.tgt.length,.own b3 0 v.dims.length,.own b4 0 v.maps.length],avs.flatMap (kW s.heap),[(b,some ⟨1,List.map (ow eI) v.q.src⟩),(c,some ⟨1,List.map (ow eI) v.q.tgt⟩),(b3,some ⟨1,List.map (ow eI) v.dims⟩),(b4,some ⟨3,List.map (ow eM) v.maps⟩)],[b,c,b3,b4]⟩:=
 AEff.conv (aFg (x:= .agg [.int v.p,.int v.q.n,.own b 0 (List.map eI v.q.src).length,.own c 0 (List.map eI v.q.tgt).length,.own b3 0 (List.map eI v.dims).length,.own b4 0 (List.map eM v.maps).length]) (nb:=[(b,⟨1,dM (List.map eI v.q.src)⟩),(c,⟨1,dM (List.map eI v.q.tgt)⟩),(b3,⟨1,dM (List.map eI v.dims)⟩),(b4,⟨3,dM (List.map eM v.maps)⟩)]) hc h.1 (by rw [h.2.1];rfl) rfl h.2.2 (dG trivial (dG trivial (dG (dD.good _) (dG (dD.good _) (dG (dD.good _) (dG (dF.good _) aAN)))))) hv) (by simp only [aL]) (aAc (nb':=[(b,⟨1,List.map (ow eI) v.q.src⟩),(c,⟨1,List.map (ow eI) v.q.tgt⟩),(b3,⟨1,List.map (ow eI) v.dims⟩),(b4,⟨3,List.map (ow eM) v.maps⟩)]) (by simp only [gF]))
def re1 (σ:Nat→Option Nat):AV→AV
 | .own b i m=>match σ b with|some b0=> .own b0 i m|none=> .dead
 | .ptr b i j=>match σ b with|some b0=> .ptr b0 i j|none=> .dead
 |x=>x
def reA (σ:Nat→Option Nat):AV→AV
 | .agg cs=> .agg (cs.map (re1 σ))
 |x=>re1 σ x
def ok1 (σ:Nat→Option Nat) (n:Nat):AV→Bool
 | .own b _ _=>(σ b).isSome &&Nat.blt b n
 | .ptr b _ _=>(σ b).isSome &&Nat.blt b n
 | .sc _=>true
 | .nil _=>true
 | .list _ _=>true
 | .ref _=>true
 |_=>false
def okA (σ:Nat→Option Nat) (n:Nat):AV→Bool
 | .agg cs=>cs.all (ok1 σ n)
 |x=>ok1 σ n x
def aJy (e:Nat→Option AV):List (Nat×AV)→List (Option AV)
 | []=>[]
 |(t,_)::r=>e t::aJy e r
def aJz (σ:Nat→Option Nat):List (Nat×AV)→List (Option AV)
 | []=>[]
 |(_,y)::r=>some (reA σ y)::aJz σ r
theorem zL {σ:Nat→Option Nat} {n:Nat} {y:AV} (h:ok1 σ n y=true):eY σ n (re1 σ y) y:=by
 cases y <;> simp only [ok1,fL] at h
 ·rfl
 ·trivial
 ·exact ⟨rfl,rfl⟩
 ·rfl
 all_goals
  rename_i b i j
  simp only [cU] at h
  obtain ⟨b0,hb⟩:=Option.isSome_iff_exists.1 h.1
  simp only [re1,hb]
  exact ⟨hb,rfl,rfl,h.2⟩
theorem aQt {σ:Nat→Option Nat} {n:Nat} : ∀ {cs:List AV},cs.all (ok1 σ n)=true→All2 (eY σ n) (cs.map (re1 σ)) cs
 | [],_=>rfl
 |c::cs,h=>by
  simp only [List.all_cons,cU] at h;exact ⟨c,cs,rfl,zL h.1,aQt h.2⟩
theorem aSR {σ:Nat→Option Nat} {n:Nat} {y:AV} (h:okA σ n y=true):mQ σ n (reA σ y) y:=by
 cases y with
 |agg cs=>exact aQt h
 |fn f cs=>simp [okA,ok1] at h
 |tuple cs=>simp [okA,ok1] at h
 |dead=>simp [okA,ok1] at h
 |abs q es=>simp [okA,ok1] at h
 |sc u=>exact zL (σ:=σ) (n:=n) (y:= .sc u) h
 |nil q=>exact zL (σ:=σ) (n:=n) (y:= .nil q) h
 |list q es=>exact zL (σ:=σ) (n:=n) (y:= .list q es) h
 |ref cs=>exact zL (σ:=σ) (n:=n) (y:= .ref cs) h
 |own b i m=>
  have:=zL (σ:=σ) (n:=n) (y:= .own b i m) h;simp only [reA];generalize re1 σ (.own b i m)=z at*;cases z <;> first|exact this|exact this.elim
 |ptr b i j=>
  have:=zL (σ:=σ) (n:=n) (y:= .ptr b i j) h;simp only [reA];generalize re1 σ (.ptr b i j)=z at*;cases z <;> first|exact this|exact this.elim
theorem aSS {σ:Nat→Option Nat} {n:Nat} {e:Nat→Option AV} : ∀ {tl:List (Nat×AV)},aJy e tl=aJz σ tl→(tl.all λp=>okA σ n p.2)=true→aCZ σ n e tl
 | [],_,_=>trivial
 |(t,y)::r,h,q=>by
  simp only [aJy,aJz,List.cons.injEq] at h;simp only [List.all_cons,cU] at q;exact ⟨⟨_,h.1,aSR q.1⟩,aSS h.2 q.2⟩
theorem bH {σ:Nat→Option Nat} {n:Nat} {e:Nat→Option AV} {tl:List (Nat×AV)} (h:aJy e tl=aJz σ tl∧(tl.all λp=>okA σ n p.2)=true):aCZ σ n e tl:=aSS h.1 h.2
end
noncomputable section
def nmA:List Nat:=[0,1,2,3,4,5,6,7,8,9,10,11,12,13,14,15,16,17,18,19]++[20,21,22,23,24,25,26,27,28,29,30,31,32,33,34,35,36,37,38,39]++([40,41,42,43,44,45,46,47,48,49,50,51,52,53,54,55,56,57,58,59]++([60,61,62,63,64,65,66,67,68,69,70,71,72,73,74,75,76,77,78,79]++[80,81,82,83,84,85,86,87,88,89,90,91,92,93,94,95,96,97,98,99]))
abbrev mN (e:List (Nat×AV)) (h:List (Nat×Blk)) (n:Nat) (kp:Kp:=0):AState:=mkS e h n (nmA.drop n) kp
def iSg:List (Nat×Blk)→Nat→Option Nat
 | [],_=>none
 |(q,_)::r,t=>bif Nat.beq t q then some t else iSg r t
def zSg:List (Nat×Blk)→List Nat→Nat→Option Nat
 |(q,_)::r,b::bs,t=>bif Nat.beq t q then some b else zSg r bs t
 |_,_,_=>none
theorem bK {s:AState} {n:Nat} {kp:Kp} {tl:List (Nat×AV)} {hl:List (Nat×Blk)} (he:aCZ (iSg hl) n s.env tl) (hh:mR (iSg hl) n s.heap hl) (p:aAF (iSg hl) hl=true∧s.kp=kp∧aHQ (iSg hl) kp.n hl=true∧Nat.ble kp.n n=true):Ent s (mN tl hl n kp):=eU he hh p.1 p.2.1 p.2.2.1 p.2.2.2
theorem sW (bs:List Nat) {s:AState} {n:Nat} {kp:Kp} {tl:List (Nat×AV)} {hl:List (Nat×Blk)} (he:aCZ (zSg hl bs) n s.env tl) (hh:mR (zSg hl bs) n s.heap hl) (p:aAF (zSg hl bs) hl=true∧s.kp=kp∧aHQ (zSg hl bs) kp.n hl=true∧Nat.ble kp.n n=true):Ent s (mN tl hl n kp):=eU he hh p.1 p.2.1 p.2.2.1 p.2.2.2
section
variable {σ:Nat→Option Nat} {n:Nat}
theorem aKA {e:Nat→Option AV} : ∀ {m:Nat} {tl:List (Nat×AV)},aCZ σ n e (tl.take m)→aCZ σ n e (tl.drop m)→aCZ σ n e tl
 |0,_,_,h=>h
 |m+1,[],_,_=>trivial
 |m+1,(t,y)::r,h1,h2=>⟨h1.1,aKA h1.2 h2⟩
theorem mA (m:Nat) {e:Nat→Option AV} {tl:List (Nat×AV)} (h:aJy e (tl.take m)=aJz σ (tl.take m)∧((tl.take m).all λp=>okA σ n p.2)=true) (h2:aCZ σ n e (tl.drop m)):aCZ σ n e tl:=aKA (bH h) h2
theorem jP {e:Nat→Option AV} {t:Nat} {y:AV} {r:List (Nat×AV)} (h: ∃ x,e t=some x∧mQ σ n x y) (h2:aCZ σ n e r):aCZ σ n e ((t,y)::r):=⟨h,h2⟩
variable {b b0 q:Nat} {h:Hp} {r:List (Nat×Blk)}
theorem bS {l:List Int} (p:(σ b,h b0,Nat.blt b n)=(some b0,some ⟨1,List.map (ow eI) l⟩,true)) (hr:mR σ n h r):mR σ n h ((b,⟨1,List.map (ow eI) l⟩)::r):=by
 obtain ⟨p1,p⟩:=Prod.mk.inj p;obtain ⟨p2,p3⟩:=Prod.mk.inj p;exact hB (dD.plainO _) p1 p2 p3 hr
theorem bP {y:Blk} (p:(σ b,h b0,Nat.blt b n,y.es.all λcs=>cs.all qL)=(some b0,some y,true,true)) (hr:mR σ n h r):mR σ n h ((b,y)::r):=by
 obtain ⟨p1,p⟩:=Prod.mk.inj p;obtain ⟨p2,p⟩:=Prod.mk.inj p;obtain ⟨p3,p4⟩:=Prod.mk.inj p;exact hB (aOH p4) p1 p2 p3 hr
theorem cD {y:Blk} (hp:xO y.es) (p:(σ b,h b0,Nat.blt b n)=(some b0,some y,true)) (hr:mR σ n h r):mR σ n h ((b,y)::r):=by
 obtain ⟨p1,p⟩:=Prod.mk.inj p;obtain ⟨p2,p3⟩:=Prod.mk.inj p;exact hB hp p1 p2 p3 hr
def reC (σ:Nat→Option Nat):AV→AV
 | .own b i m=>match σ b with|some b0=> .own b0 i m|none=> .dead
 | .ptr b i j=>match σ b with|some b0=> .ptr b0 i j|none=> .dead
 |x=>x
def okC (σ:Nat→Option Nat) (n:Nat):AV→Bool
 | .own b _ _=>(σ b).isSome &&Nat.blt b n
 | .ptr b _ _=>(σ b).isSome &&Nat.blt b n
 | .sc _=>true
 | .nil _=>true
 | .list _ _=>true
 | .abs _ _=>true
 | .ref _=>true
 |_=>false
theorem aSV {y:AV} (h:okC σ n y=true):jR σ n (reC σ y) y:=by
 cases y with
 |sc u=>exact zL (σ:=σ) (n:=n) (y:= .sc u) h
 |nil q=>exact zL (σ:=σ) (n:=n) (y:= .nil q) h
 |list q es=>exact zL (σ:=σ) (n:=n) (y:= .list q es) h
 |ref cs=>exact zL (σ:=σ) (n:=n) (y:= .ref cs) h
 |abs q es=>exact ⟨rfl,rfl⟩
 |own b i m=>
  have:=zL (σ:=σ) (n:=n) (y:= .own b i m) h;show jR σ n (re1 σ (.own b i m)) _;generalize re1 σ (.own b i m)=z at*;cases z <;> first|exact this|exact this.elim
 |ptr b i j=>
  have:=zL (σ:=σ) (n:=n) (y:= .ptr b i j) h;show jR σ n (re1 σ (.ptr b i j)) _;generalize re1 σ (.ptr b i j)=z at*;cases z <;> first|exact this|exact this.elim
 |agg cs=>simp [okC] at h
 |fn f cs=>simp [okC] at h
 |tuple cs=>simp [okC] at h
 |dead=>simp [okC] at h
theorem aOd: ∀ {cs:List AV},cs.all (okC σ n)=true→All2 (jR σ n) (cs.map (reC σ)) cs
 | [],_=>rfl
 |c::cs,h=>by
  simp only [List.all_cons,cU] at h;exact ⟨c,cs,rfl,aSV h.1,aOd h.2⟩
theorem aOe: ∀ {es:List (List AV)},(es.all λcs=>cs.all (okC σ n))=true→All2 (All2 (jR σ n)) (es.map (List.map (reC σ))) es
 | [],_=>rfl
 |c::cs,h=>by
  simp only [List.all_cons,cU] at h;exact ⟨c,cs,rfl,aOd h.1,aOe h.2⟩
theorem gA {es:List (List AV)} (p:(σ b,h b0,Nat.blt b n,es.all λcs=>cs.all (okC σ n))=(some b0,some ⟨q,es.map (List.map (reC σ))⟩,true,true)) (hr:mR σ n h r):mR σ n h ((b,⟨q,es⟩)::r):=by
 obtain ⟨p1,p⟩:=Prod.mk.inj p;obtain ⟨p2,p⟩:=Prod.mk.inj p;obtain ⟨p3,p4⟩:=Prod.mk.inj p;refine hX ?_ p3 hr;rw [p1];exact ⟨_,p2,rfl,.inr (aOe p4)⟩
end
theorem cG {α:Type} {c:Bool} {A:Option α} {r:α} {p:Prop} (h:cond c A none=some r) (f:c=true→A=some r→p):p:=f (cg h).1 (cg h).2
section
variable {h:Hp} {x:AV} {xs ds:List AV}
theorem dX (q:eC x=true) (b:All2 (viewA h) xs ds):All2 (viewA h) (x::xs) (x::ds):=bB (aBU q) b
theorem vcT {b m:Nat} {l:List Int} (hb:h b=some ⟨1,List.map (ow eI) l⟩) (hn:l.length=m) (q:All2 (viewA h) xs ds):All2 (viewA h) (.own b 0 m::xs) (.list 1 (List.map eI l)::ds):=bB (tN dD hb hn) q
end
theorem cT {d:Option Tmp} {ty:TypeId} {pos:String} {aft:Array Edge} {g:Option (Nat×Bool)} {s:AState} {f:FuncId} {xs:Array Operand} {ats:Array TypeId} {avs ds:List AV} {ns':List Nat} {α:Type} {e:α→List AV} {q b:Nat} {l:List α} {z:Bool} {c0:Nat} (ok:EOk q e) (hc:HasC Tryz.prog f ds (.tuple [.list q (List.map e l),.bl z])) (h:evs s.ev xs.toList=some avs∧s.ns=b::c0::ns'∧rX s.ns=true) (hv:All2 (viewA s.heap) avs ds):AEff Tryz.prog ⟨d,.call ⟨.value (.func f),xs,ats⟩,ty,pos,aft,g⟩ s.ev s.heap s.kp ⟨.tuple [.own b 0 l.length,.bl z],avs.flatMap (kW s.heap)++[].flatMap (oO s.heap),[(b,some ⟨q,List.map (ow e) l⟩)],[b]⟩:=
 AEff.conv (sO (x:= .tuple [.own b 0 (List.map e l).length,.bl z]) (nb:=[(b,⟨q,dM (List.map e l)⟩)]) hc h.1 (by rw [h.2.1];rfl) rfl h.2.2 (lF (ok.good _) (lF trivial aAw)) hv) (by simp only [aL]) (aAc (nb':=[(b,⟨q,List.map (ow e) l⟩)]) (by simp only [gF]))
theorem cTK {d:Option Tmp} {ty:TypeId} {pos:String} {aft:Array Edge} {g:Option (Nat×Bool)} {s:AState} {f:FuncId} {xs:Array Operand} {ats:Array TypeId} {avs ds:List AV} {ns':List Nat} {α:Type} {e:α→List AV} {q b:Nat} {l:List α} {z:Bool} {c0:Nat} (ok:EOk q e) (hc:HasC Tryz.prog f ds (.tuple [.list q (List.map e l),.bl z])) (h:evs s.ev xs.toList=some avs∧s.ns=b::c0::ns'∧rX s.ns=true) (hv:All2 (vY s.kp s.heap) avs ds):AEff Tryz.prog ⟨d,.call ⟨.value (.func f),xs,ats⟩,ty,pos,aft,g⟩ s.ev s.heap s.kp ⟨.tuple [.own b 0 l.length,.bl z],avs.flatMap (kW s.heap),[(b,some ⟨q,List.map (ow e) l⟩)],[b]⟩:=
 AEff.conv (aFg (x:= .tuple [.own b 0 (List.map e l).length,.bl z]) (nb:=[(b,⟨q,dM (List.map e l)⟩)]) hc h.1 (by rw [h.2.1];rfl) rfl h.2.2 (lF (ok.good _) (lF trivial aAw)) hv) (by simp only [aL]) (aAc (nb':=[(b,⟨q,List.map (ow e) l⟩)]) (by simp only [gF]))
section
variable {h:Hp} {κ:Kp}
theorem vaR {b1 b2 b3 b4 m1 m2 m3 m4:Nat} {v:Rp} (p:h b1=some ⟨1,List.map (ow eI) v.q.src⟩∧v.q.src.length=m1∧h b2=some ⟨1,List.map (ow eI) v.q.tgt⟩∧v.q.tgt.length=m2∧h b3=some ⟨1,List.map (ow eI) v.dims⟩∧v.dims.length=m3∧h b4=some ⟨3,List.map (ow eM) v.maps⟩∧v.maps.length=m4):viewA h (.agg [.int v.p,.int v.q.n,.own b1 0 m1,.own b2 0 m2,.own b3 0 m3,.own b4 0 m4]) (.agg (eR v)):=
 aEr (mT (wG rfl) (mT (wG rfl) (mT (aGs dD p.1 p.2.1) (mT (aGs dD p.2.2.1 p.2.2.2.1) (mT (aGs dD p.2.2.2.2.1 p.2.2.2.2.2.1) (mT (aGs dF p.2.2.2.2.2.2.1 p.2.2.2.2.2.2.2) aDT))))))
theorem vaM {b m:Nat} {v:Mt} (p:h b=some ⟨1,List.map (ow eI) v.cells⟩∧v.cells.length=m):viewA h (.agg [.int v.rows,.int v.cols,.own b 0 m]) (.agg (eM v)):=aEr (mT (wG rfl) (mT (wG rfl) (mT (aGs dD p.1 p.2) aDT)))
theorem vaQ {b1 b2 m1 m2:Nat} {v:Qv} (p:h b1=some ⟨1,List.map (ow eI) v.src⟩∧v.src.length=m1∧h b2=some ⟨1,List.map (ow eI) v.tgt⟩∧v.tgt.length=m2):viewA h (.agg [.int v.n,.own b1 0 m1,.own b2 0 m2]) (.agg (eQ v)):=aEr (mT (wG rfl) (mT (aGs dD p.1 p.2.1) (mT (aGs dD p.2.2.1 p.2.2.2) aDT)))
variable {x:AV} {xs ds:List AV}
theorem wkS (q:eC x=true) (b:All2 (vY κ h) xs ds):All2 (vY κ h) (x::xs) (x::ds):=fU (.inl (aBU q)) b
theorem wkD {W:World} {k:Nat} {es:List (List AV)} {v:Value} {S:List Nat} (hf:κ.fx=xE W) (r:RepD W (.list k es) v S) (q:All2 (vY κ h) xs ds):All2 (vY κ h) (.sc v::xs) (.list k es::ds):=fU (.inr (aSQ hf r)) q
end
section
variable {dst:Option Tmp} {ty:TypeId} {pos:String} {aft:Array Edge} {g:Option (Nat×Bool)} {s:AState}
theorem wl {t e:TypeId} {n:Nat} {parts:Array (Nat×Operand)} {y ye:Ty} {ps:List (Nat×List AV)} {cs:List AV} {b:Nat}
  (h:(s.ns.head?,dA TT t,y.desc,dA TT e,ye.zero.length,Nat.ble (n*ye.size) 16777216,Nat.ble n 16777216,wB s.ev parts.toList,aAZ (λi=>some (i*ye.size,ye.size)) (List.replicate n ye.zero).flatten ps,(ps.all λp=>p.2.all (okCell s.heap)),cs.all (okCell s.heap),(ps.flatMap (λp=>cN p.2)++cN cs).contains b)=(some b,some y,.slice e,some ye,ye.size,true,true,some ps,some cs,true,true,false)):
  AEff Tryz.prog ⟨dst,.buildSlice t n parts,ty,pos,aft,g⟩ s.ev s.heap s.kp ⟨.own b 0 n,ps.flatMap (λp=>cN p.2)++cN cs,[(b,some ⟨ye.size,aAr ye.size n cs⟩)],[b]⟩:=by
 simp only [Prod.mk.injEq] at h;obtain ⟨h1,h2,h3,h4,h5,h6,h7,h8,h9,h10,h11,h12⟩:=h;exact aSH aH h1 h2 h3 h4 h5 h6 h7 h8 h9 h10 h11 h12
theorem ws {t:TypeId} {y:Ty} {x z:Operand} {val:AV} {b i j kk:Nat} {ees:List (List AV)} {cs:List AV}
  (h:(s.ev x,s.heap b,s.ev z,dA TT t,Nat.beq (cA val).length y.size,(cA val).all (okCell s.heap),ees[i]?,Nat.ble (j+y.size) cs.length)=(some (.ptr b i j),some ⟨kk,ees⟩,some val,some y,true,true,some cs,true)):
  AEff Tryz.prog ⟨dst,.store t x z,ty,pos,aft,g⟩ s.ev s.heap s.kp ⟨.dead,b::cN (cA val),[(b,some ⟨kk,ees.set i (aAK cs j (cA val))⟩)],[]⟩:=by
 simp only [Prod.mk.injEq] at h;obtain ⟨h1,h2,h3,h4,h5,h6,h7,h8⟩:=h;exact aEq aH h1 h2 h3 h4 h5 h6 h7 h8
theorem wb {t:TypeId} {x:Operand} {v:AV} {b:Nat} (h:(s.ns.head?,s.ev x,(cA v).all (okCell s.heap),(cN (cA v)).contains b)=(some b,some v,true,false)):
  AEff Tryz.prog ⟨dst,.box t x,ty,pos,aft,g⟩ s.ev s.heap s.kp ⟨.ptr b 0 0,cN (cA v),[(b,some ⟨(cA v).length,[cA v]⟩)],[b]⟩:=by
 simp only [Prod.mk.injEq] at h;obtain ⟨h1,h2,h3,h4⟩:=h;exact aQn h1 h2 h3 h4
theorem xl {α:Type} {k:Nat} {e:α→List AV} {x ix:Operand} {t et:Nat} {y ye:Ty} {l:List α} {kk:IntKind} {i:Int} {v:α} (hm:cE l i=some v)
  (h:(s.ev x,s.ev ix,dA TT t,y.desc,dA TT et,ye.size)=(some (.list k (l.map e)),some (.sc (.int kk i)),some y,.slice et,some ye,k)):
  AEff Tryz.prog ⟨dst,.indexAddr t x ix,ty,pos,aft,g⟩ s.ev s.heap s.kp ⟨.ref (e v),[],[],[]⟩:=by
 simp only [Prod.mk.injEq] at h;obtain ⟨h1,h2,h3,h4,h5,h6⟩:=h;exact aMz aH hm h1 h2 h3 h4 h5 h6
theorem xo {α:Type} {l:List α} {v:α} {x ix:Operand} {t et:Nat} {y ye:Ty} {b kz:Nat} {es:List (List AV)} {kk:IntKind} {i:Int} (hm:cE l i=some v)
  (h:(s.ev x,s.heap b,s.ev ix,dA TT t,y.desc,dA TT et,ye.size)=(some (.own b 0 l.length),some ⟨kz,es⟩,some (.sc (.int kk i)),some y,.slice et,some ye,kz)):
  AEff Tryz.prog ⟨dst,.indexAddr t x ix,ty,pos,aft,g⟩ s.ev s.heap s.kp ⟨.ptr b i.toNat 0,[b],[],[]⟩:=by
 simp only [Prod.mk.injEq] at h;obtain ⟨h1,h2,h3,h4,h5,h6,h7⟩:=h;exact zH aH (aIX hm) (eD hm) h1 h2 h3 h4 h5 h6 h7
theorem wp {α:Type} {e:α→List AV} {l:List α} {u:α} {x:Operand} {t:Nat} {y:Ty} {b j k:Nat} {i:Int} {v:AV} (hm:cE l i=some u)
  (h:(s.ev x,s.heap b,dA TT t,(y.desc.isAgg||Nat.beq y.size 1),Nat.ble (j+y.size) (e u).length,yE y.desc.isAgg ((((e u).drop j).take y.size).map yV))=(some (.ptr b i.toNat j),some ⟨k,l.map e⟩,some y,true,true,v)):
  AEff Tryz.prog ⟨dst,.load t x,ty,pos,aft,g⟩ s.ev s.heap s.kp ⟨v,[b],[],[]⟩:=by
 simp only [Prod.mk.injEq] at h;obtain ⟨h1,h2,h3,h4,h5,h6⟩:=h;exact cK aH h1 h2 h3 h4 (wV (dC hm)) h5 h6
end
theorem hM {f:FuncId} {fn:Func} {c:Code} {nt:Nat} {ds:List AV} {r:AV} (rvs:List ResultVar) (hf:Tryz.prog.funcs[f]? =some fn) (hnt:fn.ntmps=nt) (h':(fn.body,(fn.name== "runtime.NumGoroutine"),fn.results.toList,Nat.ble ds.length nt,ds.all sC)=(some c,false,rvs,true,true)) (h:AC Tryz.prog nt c (s0 ds nmA) (rY TT rvs r)):HasC Tryz.prog f ds r:=by
 simp only [Prod.mk.injEq] at h';exact aAJ aH hf h'.1 h'.2.1 hnt h'.2.2.1 h'.2.2.2.1 h'.2.2.2.2 h
@[elab_as_elim] theorem sp {α:Type} {a:α} {P:α→Prop} {o:α} (h:some a=some o) (p:P a):P o:=so h▸p
theorem tQ {α:Type} {t:Bool} {A B:Option α} {r:α} {G:Prop} (h:cond t A B=some r) (p:t=true→A=some r→G) (q:t=false→B=some r→G):G:=by
 rcases cb h with ⟨e,h⟩|⟨e,h⟩
 ·exact p e h
 ·exact q e h
theorem dJ {P:Program} {nt:Nat} {Q:Exit→AState→Prop} {s:AState} {c:Operand} {x y:Code} {α:Type} {t:Bool} {A B:Option α} {r:α} (hc:s.ev c=some (.sc (.bool t))) (h:cond t A B=some r) (p:t=true→A=some r→AC P nt x s Q) (q:t=false→B=some r→AC P nt y s Q):AC P nt (.cond c x y) s Q:=tQ h (λe h=>gT hc e (p e h)) λe h=>lS hc e (q e h)
theorem sG {p q:Prop} (a:p) (b:q):p∧q:=⟨a,b⟩
def oMt (v:Mt) (a:Nat):List AV:=[.int v.rows,.int v.cols,.own a 0 v.cells.length]
def oQv (v:Qv) (a b:Nat):List AV:=[.int v.n,.own a 0 v.src.length,.own b 0 v.tgt.length]
def oRp (v:Rp) (a b c d:Nat):List AV:=[.int v.p,.int v.q.n,.own a 0 v.q.src.length,.own b 0 v.q.tgt.length,.own c 0 v.dims.length,.own d 0 v.maps.length]
def iJ:List AV:=[.int 0,.int 0,.nil 1]
def uF:List AV:=[.int 0,.int 0,.nil 1,.nil 1,.nil 1,.nil 3]
end
noncomputable section
set_option maxRecDepth 10000
set_option maxHeartbeats 4000000
def qN (a0:Int) (a1:Int) (a2:Int):Option Bool:=
 bif decide (a1≤a0) then
 (some (decide (a0≤a2)))
 else
 (some (false))
theorem yG (a0:Int) (a1:Int) (a2:Int) (r:Bool) (h:qN a0 a1 a2=some r):HasC Tryz.prog 81 [.int a0,.int a1,.int a2] (.bl r):=by
 exact hM [.tmp 6] Tryz.func81 Tryz.ntmps81 k<|sR<|aT k2<|sR<|am k k<|am k k<|cm k4<|am k k<|tQ h (λq1 h=>bA 10 k q1<|am k k<|am k k<|cm k4<|pk k3<|aT k2<|aG<|kI h k2) λq1 h=>bA 10 k q1<|aK k4<|ak k k<|pk k3<|aT k2<|aG<|kI h k2
def jL (a0:Int) (a1:Int) (a2:Int):Option Bool:=
 bif decide (a1≤a0) then
 (some (decide (a0≤a2)))
 else
 (some (false))
theorem mM (a0:Int) (a1:Int) (a2:Int) (r:Bool) (h:jL a0 a1 a2=some r):HasC Tryz.prog 37 [.int a0,.int a1,.int a2] (.bl r):=by
 exact hM [.tmp 6] Tryz.func37 Tryz.ntmps37 k<|sR<|aT k2<|sR<|am k k<|am k k<|cm k4<|am k k<|tQ h (λq1 h=>bA 10 k q1<|am k k<|am k k<|cm k4<|pk k3<|aT k2<|aG<|kI h k2) λq1 h=>bA 10 k q1<|aK k4<|ak k k<|pk k3<|aT k2<|aG<|kI h k2
def qX (a0:(List Int)) (x1:(Int×Int)):Option ((Int×Int) ⊕ Int):=
 bif decide (x1.2<(a0.length:Int)) then
 ((cE a0 x1.2).bind λv2=>
 some (.inl (wr (x1.1+v2),wr (x1.2+1))))
 else
 (some (.inr x1.1))
def pQ (a0:(List Int)):Option Int:=
 (Lp (qX a0) (0,0)).bind λy3=>
 some (y3)
theorem aAP (a0:(List Int)) (r:Int) (h:pQ a0=some r):HasC Tryz.prog 105 [.list 1 (a0.map eI)] (.int r):=by
 refine hM [.tmp 2] Tryz.func105 Tryz.ntmps105 k<|sR<|aT k2<|sR<|aT k2<|sQ<|sR<|am k k<|ln k4<|am k k<|an<|tn<|aC<|oB h λy3 hy3 h=>bW (body:=(qX a0)) hy3 (λ(x1:(Int×Int))=>mN [(3,.int x1.1),(6,.list 1 (a0.map eI)),(7,.int (a0.length:Int)),(8,.int x1.2)] [] 0) (λr e t=>e= .exit 0∧Ent t (mN [(3,.int r)] [] 0)) (bK (bH k2) aR k4) ?_ ?_
 ·intro x1 o h;exact sR<|cm k4<|an<|tn<|sQ<|dJ k h (λ_ h=>aD<|tn<|sQ<|aC<|sR<|oB h λv2 hv2 h=>ae (xl hv2 k) k<|lr k7<|aT k2<|rg<|am k k<|am k k<|ae (bC k k) k<|aa k k<|an<|aS<|tn<|rg<|ae (bC k k) k<|am k k<|an<|tn<|sp h ⟨_,k,(bK (bH k2) aR k4)⟩) λ_ h=>aX<|aA<|aA<|sp h ⟨_,k,k,(bK (bH k2) aR k4)⟩
 ·rintro e t ⟨rfl,hent⟩;exact aJ<|tn<|aM hent<|sR<|am k k<|aT k2<|aG<|yU h k2
def uG (a0:(List Int)) (a1:(List Int)) (x1:Int):Option (Int ⊕ (Unit ⊕ Bool)):=
 bif decide (x1<(a0.length:Int)) then
 ((cE a0 x1).bind λv3=>
 (cE a1 x1).bind λv4=>
 bif !decide (v3=v4) then
 (some (.inr (.inr (false))))
 else
 (some (.inl (wr (x1+1)))))
 else
 (some (.inr (.inl ())))
def qO (a0:(List Int)) (a1:(List Int)):Option Bool:=
 bif !decide ((a0.length:Int)=(a1.length:Int)) then
 (some (false))
 else
 ((Lp (uG a0 a1) 0).bind λy6=>
 Sum.elim (λy7=>
 some (true)
 )
 (λy8=>
 some y8
 )
 y6)
theorem yH (a0:(List Int)) (a1:(List Int)) (r:Bool) (h:qO a0 a1=some r):HasC Tryz.prog 98 [.list 1 (a0.map eI),.list 1 (a1.map eI)] (.bl r):=by
 refine hM [.tmp 4] Tryz.func98 Tryz.ntmps98 k<|sR<|aT k2<|sQ<|sR<|am k k<|ln k4<|am k k<|ln k4<|cm k4<|an<|tn<|dJ k h (λ_ h=>sR<|aT k2<|aG<|aE<|kI h k2) λ_ h=>?_;refine aD<|tn<|sQ<|sR<|aT k2<|aC<|oB h λy6 hy6 h=>bW (body:=(uG a0 a1)) hy6 (λ(x1:Int)=>mN [(0,.list 1 (a0.map eI)),(1,.list 1 (a1.map eI)),(5,.int x1)] [] 0) (λr e t=>Sum.elim (λa=>(λr e t=>e= .exit 0∧Ent t (mN [] [] 0)) a e t) (λb=>(λr e t=>e= .ret∧rY TT [.tmp 4] (.bl r) .ret t) b e t) r) (bK (bH k2) aR k4) ?_ ?_
 ·intro x1 o h;exact sQ<|sR<|am k k<|am k k<|ln k4<|cm k4<|an<|tn<|dJ k h (λ_ h=>aD<|tn<|sQ<|aC<|sQ<|aN gV<|am k k<|am k k<|oB h λv3 hv3 h=>ae (xl hv3 k) k<|lr k7<|am k k<|am k k<|oB h λv4 hv4 h=>ae (xl hv4 k) k<|lr k7<|cm k4<|an<|sG (by kernel_rfl)<|tn<|dJ k h (λ_ h=>sR<|aT k2<|aG<|bG<|aE<|aE<|sp h ⟨_,k,k,bN k k k (vB k)⟩) λ_ h=>aD<|aS<|tn<|rg<|am k k<|ae (bC k k) k<|aT k2<|sp h ⟨_,k,(bK (bH k2) aR k4)⟩) λ_ h=>aX<|aA<|aA<|sp h ⟨_,k,k,(bK aR aR k4)⟩
 ·intro e t hX;rcases y6 with y7|y8
  ·obtain ⟨rfl,hent⟩:=hX;exact aJ<|tn<|aM hent<|sR<|aT k2<|aG<|kI h k2
  ·obtain ⟨rfl,hent⟩:=hX;exact bG<|aE<|sp h hent
def qY (a0:(List Int)) (a1:Int) (x1:Int):Option (Int ⊕ (Unit ⊕ Bool)):=
 bif decide (x1<(a0.length:Int)) then
 ((cE a0 x1).bind λv2=>
 bif decide (v2=a1) then
 (some (.inr (.inr (true))))
 else
 (some (.inl (wr (x1+1)))))
 else
 (some (.inr (.inl ())))
def wH (a0:(List Int)) (a1:Int):Option Bool:=
 (Lp (qY a0 a1) 0).bind λy4=>
 Sum.elim (λy5=>
 some (false)
 )
 (λy6=>
 some y6
 )
 y4
theorem aIg (a0:(List Int)) (a1:Int) (r:Bool) (h:wH a0 a1=some r):HasC Tryz.prog 140 [.list 1 (a0.map eI),.int a1] (.bl r):=by
 refine hM [.tmp 4] Tryz.func140 Tryz.ntmps140 k<|sR<|aT k2<|sQ<|sR<|aT k2<|aC<|oB h λy4 hy4 h=>bW (body:=(qY a0 a1)) hy4 (λ(x1:Int)=>mN [(0,.list 1 (a0.map eI)),(1,.int a1),(5,.int x1)] [] 0) (λr e t=>Sum.elim (λa=>(λr e t=>e= .exit 0∧Ent t (mN [] [] 0)) a e t) (λb=>(λr e t=>e= .ret∧rY TT [.tmp 4] (.bl r) .ret t) b e t) r) (bK (bH k2) aR k4) ?_ ?_
 ·intro x1 o h;exact sQ<|sR<|am k k<|am k k<|ln k4<|cm k4<|an<|tn<|dJ k h (λ_ h=>aD<|tn<|sQ<|aC<|sR<|am k k<|am k k<|oB h λv2 hv2 h=>ae (xl hv2 k) k<|lr k7<|am k k<|cm k4<|an<|tn<|dJ k h (λ_ h=>sR<|aT k2<|aG<|bG<|aE<|aE<|sp h ⟨_,k,k,bN k k k (vB k)⟩) λ_ h=>aD<|aS<|tn<|rg<|am k k<|ae (bC k k) k<|aT k2<|sp h ⟨_,k,(bK (bH k2) aR k4)⟩) λ_ h=>aX<|aA<|aA<|sp h ⟨_,k,k,(bK aR aR k4)⟩
 ·intro e t hX;rcases y4 with y5|y6
  ·obtain ⟨rfl,hent⟩:=hX;exact aJ<|tn<|aM hent<|sR<|aT k2<|aG<|kI h k2
  ·obtain ⟨rfl,hent⟩:=hX;exact bG<|aE<|sp h hent
def jS (a0:(List Int)) (a1:(List Int)) (x1:Int):Option (Int ⊕ (Unit ⊕ Bool)):=
 bif decide (x1<(a0.length:Int)) then
 ((cE a0 x1).bind λv3=>
 (cE a1 x1).bind λv4=>
 bif !decide (v3=v4) then
 (some (.inr (.inr (false))))
 else
 (some (.inl (wr (x1+1)))))
 else
 (some (.inr (.inl ())))
def mB (a0:(List Int)) (a1:(List Int)):Option Bool:=
 bif !decide ((a0.length:Int)=(a1.length:Int)) then
 (some (false))
 else
 ((Lp (jS a0 a1) 0).bind λy6=>
 Sum.elim (λy7=>
 some (true)
 )
 (λy8=>
 some y8
 )
 y6)
theorem zM (a0:(List Int)) (a1:(List Int)) (r:Bool) (h:mB a0 a1=some r):HasC Tryz.prog 54 [.list 1 (a0.map eI),.list 1 (a1.map eI)] (.bl r):=by
 refine hM [.tmp 4] Tryz.func54 Tryz.ntmps54 k<|sR<|aT k2<|sQ<|sR<|am k k<|ln k4<|am k k<|ln k4<|cm k4<|an<|tn<|dJ k h (λ_ h=>sR<|aT k2<|aG<|aE<|kI h k2) λ_ h=>?_;refine aD<|tn<|sQ<|sR<|am k k<|ln k4<|am k k<|an<|tn<|aC<|oB h λy6 hy6 h=>bW (body:=(jS a0 a1)) hy6 (λ(x1:Int)=>mN [(0,.list 1 (a0.map eI)),(1,.list 1 (a1.map eI)),(12,.int (a0.length:Int)),(13,.int x1)] [] 0) (λr e t=>Sum.elim (λa=>(λr e t=>e= .exit 0∧Ent t (mN [] [] 0)) a e t) (λb=>(λr e t=>e= .ret∧rY TT [.tmp 4] (.bl r) .ret t) b e t) r) (bK (bH k2) aR k4) ?_ ?_
 ·intro x1 o h;exact sR<|cm k4<|an<|tn<|sQ<|dJ k h (λ_ h=>aD<|tn<|sQ<|aC<|sR<|am k k<|aT k2<|sQ<|aN gV<|am k k<|am k k<|oB h λv3 hv3 h=>ae (xl hv3 k) k<|lr k7<|am k k<|am k k<|oB h λv4 hv4 h=>ae (xl hv4 k) k<|lr k7<|cm k4<|an<|sG (by kernel_rfl)<|tn<|dJ k h (λ_ h=>sR<|aT k2<|aG<|bG<|aE<|aE<|sp h ⟨_,k,k,bN k k k (vB k)⟩) λ_ h=>aD<|aS<|tn<|rg<|ae (bC k k) k<|am k k<|an<|tn<|sp h ⟨_,k,(bK (bH k2) aR k4)⟩) λ_ h=>aX<|aA<|aA<|sp h ⟨_,k,k,(bK aR aR k4)⟩
 ·intro e t hX;rcases y6 with y7|y8
  ·obtain ⟨rfl,hent⟩:=hX;exact aJ<|tn<|aM hent<|sR<|aT k2<|aG<|kI h k2
  ·obtain ⟨rfl,hent⟩:=hX;exact bG<|aE<|sp h hent
def jT (a0:Int):Option Bool:=
 bif decide (a0=2) then
 (some (true))
 else
 (bif decide (a0=3) then
 (some (true))
 else
 (some (decide (a0=5))))
theorem pK (a0:Int) (r:Bool) (h:jT a0=some r):HasC Tryz.prog 31 [.int a0] (.bl r):=by
 exact hM [.tmp 2] Tryz.func31 Tryz.ntmps31 k<|sR<|aT k2<|sR<|am k k<|cm k4<|am k k<|tQ h (λq1 h=>bA 5 k q1<|aK k4<|pk k3<|am k k<|aK k4<|pk k3<|aT k2<|aG<|kI h k2) λq1 h=>bA 5 k q1<|am k k<|cm k4<|pk k3<|am k k<|tQ h (λq2 h=>bA 9 k q2<|aK k4<|pk k3<|aT k2<|aG<|kI h k2) λq2 h=>bA 9 k q2<|am k k<|cm k4<|pk k3<|aT k2<|aG<|kI h k2
def mD (a0:Int):Option Bool:=
 bif decide (a0=2) then
 (some (true))
 else
 (bif decide (a0=3) then
 (some (true))
 else
 (some (decide (a0=5))))
theorem sX (a0:Int) (r:Bool) (h:mD a0=some r):HasC Tryz.prog 66 [.int a0] (.bl r):=by
 exact hM [.tmp 2] Tryz.func66 Tryz.ntmps66 k<|sR<|aT k2<|sR<|am k k<|cm k4<|am k k<|tQ h (λq1 h=>bA 5 k q1<|aK k4<|pk k3<|am k k<|aK k4<|pk k3<|aT k2<|aG<|kI h k2) λq1 h=>bA 5 k q1<|am k k<|cm k4<|pk k3<|am k k<|tQ h (λq2 h=>bA 9 k q2<|aK k4<|pk k3<|aT k2<|aG<|kI h k2) λq2 h=>bA 9 k q2<|am k k<|cm k4<|pk k3<|aT k2<|aG<|kI h k2
def mW (a0:Qv) (x1:Int):Option (Int ⊕ (Unit ⊕ Bool)):=
 bif decide (x1<(a0.src.length:Int)) then
 (bif decide (x1<(a0.tgt.length:Int)) then
 ((cE a0.src x1).bind λv3=>
 (jL v3 0 (wr (a0.n - 1))).bind λv4=>
 bif !v4 then
 (some (.inr (.inr (false))))
 else
 ((cE a0.tgt x1).bind λv6=>
 (jL v6 0 (wr (a0.n - 1))).bind λv7=>
 bif !v7 then
 (some (.inr (.inr (false))))
 else
 (some (.inl (wr (x1+1))))))
 else
 (some (.inr (.inl ()))))
 else
 (some (.inr (.inl ())))
def gP (a0:Qv):Option Bool:=
 (Lp (mW a0) 0).bind λy9=>
 Sum.elim (λy10=>
 (jL a0.n 1 5).bind λv11=>
 bif v11 then
 (bif decide ((a0.src.length:Int)≤6) then
 (some (decide ((a0.tgt.length:Int)=(a0.src.length:Int))))
 else
 (some (false)))
 else
 (some (false))
 )
 (λy14=>
 some y14
 )
 y9
theorem qZ (a0:Qv) (r:Bool) (h:gP a0=some r):HasC Tryz.prog 95 [.agg (eQ a0)] (.bl r):=by
 refine hM [.tmp 2] Tryz.func95 Tryz.ntmps95 k<|sR<|ae (wb k) k<|aT k2<|sQ<|sR<|aT k2<|aC<|oB h λy9 hy9 h=>bW (body:=(mW a0)) hy9 (λ(x1:Int)=>mN [(1,.ptr 0 0 0),(3,.int x1)] [(0,⟨3,[eQ a0]⟩)] 1) (λr e t=>Sum.elim (λa=>(λr e t=>e= .exit 0∧Ent t (mN [(1,.ptr 0 0 0)] [(0,⟨3,[eQ a0]⟩)] 1)) a e t) (λb=>(λr e t=>e= .ret∧rY TT [.tmp 2] (.bl r) .ret t) b e t) r) (bK (bH k2) (bP k<|aR) k4) ?_ ?_
 ·intro x1 o h;refine sQ<|sR<|am k k<|fp k8<|lp k8<|ln k4<|cm k4<|am k k<|tQ h (λq1 h=>?_) λq1 h=>bA 9 k q1<|aK k4<|aK k4<|ak k k<|pk k3<|an<|tn<|lS k k<|aX<|aA<|aA<|sp h ⟨_,k,k,(bK (bH k2) (bP k<|aR) k4)⟩;exact bA 9 k q1<|am k k<|fp k8<|lp k8<|ln k4<|cm k4<|pk k3<|an<|tn<|dJ k h (λ_ h=>aD<|tn<|sQ<|aC<|sQ<|aN gV<|fp k8<|lp k8<|am k k<|oB h λv3 hv3 h=>ae (xl hv3 k) k<|lr k7<|fp k8<|lp k8<|ae (hJ k k) k<|oB h λv4 hv4 h=>ae (aY (mM v3 0 (wr (a0.n - 1)) v4 hv4) k (dX k (dX k (dX k aV)))) k<|ae (fM k) k<|am k k<|tQ h (λq5 h=>bA 28 k q5<|aK k4<|aK k4<|aK k4<|aK k4<|aK k4<|pk k3<|an<|sG (by kernel_rfl)<|tn<|aM (t:=mN [(1,.ptr 0 0 0),(3,.int x1),(39,.bl true)] [(0,⟨3,[eQ a0]⟩)] 1) (bK (bH k2) (bP k<|aR) k4)<|gT k k<|sR<|aT k2<|aG<|bG<|aE<|aE<|sp h ⟨_,k,k,bN k k k (vB k)⟩) λq5 h=>bA 28 k q5<|fp k8<|lp k8<|am k k<|oB h λv6 hv6 h=>ae (xl hv6 k) k<|lr k7<|fp k8<|lp k8<|ae (hJ k k) k<|oB h λv7 hv7 h=>ae (aY (mM v6 0 (wr (a0.n - 1)) v7 hv7) k (dX k (dX k (dX k aV)))) k<|ae (fM k) k<|pk k3<|an<|sG (by kernel_rfl)<|tn<|aM (t:=mN [(1,.ptr 0 0 0),(3,.int x1),(39,.bl (!v7))] [(0,⟨3,[eQ a0]⟩)] 1) (bK (bH k2) (bP k<|aR) k4)<|dJ k h (λ_ h=>sR<|aT k2<|aG<|bG<|aE<|aE<|sp h ⟨_,k,k,bN k k k (vB k)⟩) λ_ h=>aD<|aS<|tn<|rg<|am k k<|ae (bC k k) k<|aT k2<|sp h ⟨_,k,(bK (bH k2) (bP k<|aR) k4)⟩) λ_ h=>aX<|aA<|aA<|sp h ⟨_,k,k,(bK (bH k2) (bP k<|aR) k4)⟩
 ·intro e t hX;rcases y9 with y10|y14
  ·obtain ⟨rfl,hent⟩:=hX;exact aJ<|tn<|aM hent<|sR<|fp k8<|lp k8<|oB h λv11 hv11 h=>ae (aY (mM a0.n 1 5 v11 hv11) k (dX k (dX k (dX k aV)))) k<|am k k<|tQ h (λq12 h=>bA 43 k q12<|fp k8<|lp k8<|ln k4<|cm k4<|pk k3<|am k k<|tQ h (λq13 h=>bA 49 k q13<|fp k8<|lp k8<|ln k4<|fp k8<|lp k8<|ln k4<|cm k4<|pk k3<|aT k2<|aG<|kI h k2) λq13 h=>bA 49 k q13<|aK k4<|aK k4<|aK k4<|ak k k<|pk k3<|aT k2<|aG<|kI h k2) λq12 h=>bA 43 k q12<|aK k4<|aK k4<|pk k3<|am k k<|aK k4<|aK k4<|aK k4<|ak k k<|pk k3<|aT k2<|aG<|kI h k2
  ·obtain ⟨rfl,hent⟩:=hX;exact bG<|aE<|sp h hent
def mO (a0:Int) (a1:Int):Option Mt:=
 bif (decide (0≤wr (a0*a1))&&decide (wr (a0*a1)≤1048576)) then
 (some ((⟨a0,a1,(List.replicate ((wr (a0*a1)).toNat) (0:Int))⟩:Mt)))
 else none
theorem vF (a0:Int) (a1:Int) (r:Mt) (h:mO a0 a1=some r):HasC Tryz.prog 108 [.int a0,.int a1] (.agg (eM r)):=by
 exact hM [.cell 4 80] Tryz.func108 Tryz.ntmps108 k<|sR<|ae (dB aH k k) k<|an<|tn<|sR<|am k k<|am k k<|am k k<|am k k<|ae (fG k k) k<|cG h λq1 h=>ae (tY aH q1 k k k k k k k k) k<|ae (jC aH k k k k k k) k<|ae (ws k) k<|an<|tn<|aM (t:=mN [(4,.ptr 0 0 0)] [(0,⟨3,[[.int a0,.int a1,.own 1 0 ((List.replicate ((wr (a0*a1)).toNat) (0:Int)).length)]]⟩),(1,⟨1,List.map (ow eI) (List.replicate ((wr (a0*a1)).toNat) (0:Int))⟩)] 2) (bK (bH k2) (hX ⟨_,k,k,.inr ⟨_,_,k,⟨_,_,k,k,⟨_,_,k,k,⟨_,_,k,⟨k,k,(by simp only [aL,lA,lT,lR,lC,lN]),k⟩,k⟩⟩⟩,k⟩⟩ k<|hX ⟨_,k,k,.inl ⟨vP (e:=eI) (z:=0) _,dD.plainO _⟩⟩ k<|aR) k4)<|aG<|sp h (bN k k k (sT (aU (k) (aU (k) (aU (gU dD k k) gX)))))
def uS (a0:Int) (a1:Int):Option Mt:=
 bif (decide (0≤wr (a0*a1))&&decide (wr (a0*a1)≤1048576)) then
 (some ((⟨a0,a1,(List.replicate ((wr (a0*a1)).toNat) (0:Int))⟩:Mt)))
 else none
theorem aGu (a0:Int) (a1:Int) (r:Mt) (h:uS a0 a1=some r):HasC Tryz.prog 76 [.int a0,.int a1] (.agg (eM r)):=by
 exact hM [.cell 4 80] Tryz.func76 Tryz.ntmps76 k<|sR<|ae (dB aH k k) k<|an<|tn<|sR<|am k k<|am k k<|am k k<|am k k<|ae (fG k k) k<|cG h λq1 h=>ae (tY aH q1 k k k k k k k k) k<|ae (jC aH k k k k k k) k<|ae (ws k) k<|an<|tn<|aM (t:=mN [(4,.ptr 0 0 0)] [(0,⟨3,[[.int a0,.int a1,.own 1 0 ((List.replicate ((wr (a0*a1)).toNat) (0:Int)).length)]]⟩),(1,⟨1,List.map (ow eI) (List.replicate ((wr (a0*a1)).toNat) (0:Int))⟩)] 2) (bK (bH k2) (hX ⟨_,k,k,.inr ⟨_,_,k,⟨_,_,k,k,⟨_,_,k,k,⟨_,_,k,⟨k,k,(by simp only [aL,lA,lT,lR,lC,lN]),k⟩,k⟩⟩⟩,k⟩⟩ k<|hX ⟨_,k,k,.inl ⟨vP (e:=eI) (z:=0) _,dD.plainO _⟩⟩ k<|aR) k4)<|aG<|sp h (bN k k k (sT (aU (k) (aU (k) (aU (gU dD k k) gX)))))
def eB (a0:Mt) (a1:Int):Option Unit:=
 bif (decide (0≤wr (a1*a0.cols))&&(decide (wr (a1*a0.cols)≤wr ((wr (a1+1))*a0.cols))&&decide (wr ((wr (a1+1))*a0.cols)≤((a0.cells.length:Nat):Int)))) then
 (some ())
 else none
theorem gG (a0:Mt) (a1:Int) (r:Unit) (h:eB a0 a1=some r):HasE Tryz.prog 150 [.agg [.int a0.rows,.int a0.cols,.own 0 0 a0.cells.length],.int a1] [(0,⟨1,a0.cells.map (ow eI)⟩)] 1 (.own 0 (0+(wr (a1*a0.cols)).toNat) ((wr ((wr (a1+1))*a0.cols)).toNat - (wr (a1*a0.cols)).toNat)) [(0,⟨1,a0.cells.map (ow eI)⟩)]:=by
 exact sU aH (rvs:=[.tmp 4]) (ns:=nmA.drop 1) Tryz.func150 k k Tryz.ntmps150 k k<|sR<|ae (wb k) k<|aT k2<|sR<|fp k8<|lp k8<|am k k<|fp k8<|lp k8<|ae (fG k k) k<|am k k<|ae (bC k k) k<|fp k8<|lp k8<|ae (fG k k) k<|cG h λq1 h=>ae (vD aH (l:=wr (a1*a0.cols)) (h:=wr ((wr (a1+1))*a0.cols)) q1 k k k k k k k k) k<|aT k2<|aG<|sp h ⟨mN [(4,.own 0 (0+(wr (a1*a0.cols)).toNat) ((wr ((wr (a1+1))*a0.cols)).toNat - (wr (a1*a0.cols)).toNat))] [(0,⟨1,a0.cells.map (ow eI)⟩)] 1 1,(bK (bH k2) (bS k<|aR) k4),k,⟨_,k,.inl k⟩,⟨k,aR⟩⟩
def kC (a0:Int) (a2:Int) (a3:(List Int)) (n1:Nat) (s1:Nat) (x1:((List Int)×Int)):Option (((List Int)×Int) ⊕ (List Int)):=
 bif decide (x1.2<(a3.length:Int)) then
 ((cE a3 x1.2).bind λv2=>
 bif (decide (0≤x1.2)&&decide (x1.2<((n1:Nat):Int))) then
 ((x1.1[(s1+x1.2.toNat)]?).bind λv3=>
 bif !decide (a0=0) then
 (bif (decide (0≤x1.2)&&decide (x1.2<((n1:Nat):Int))) then
 ((x1.1[(s1+x1.2.toNat)]?).bind λv5=>
 some (.inl ((x1.1.set (s1+x1.2.toNat) ((wr (v3+(wr (a2*v2)))).tmod a0)),wr (x1.2+1)))
 )
 else none)
 else none
 )
 else none)
 else
 (some (.inr x1.1))
def jU (a0:Int) (c0:(List Int)) (s1:Nat) (n1:Nat) (a2:Int) (a3:(List Int)):Option (List Int):=
 (Lp (kC a0 a2 a3 n1 s1) (c0,0)).bind λy8=>
 some y8
theorem wY (a0:Int) (c0:(List Int)) (s1:Nat) (n1:Nat) (a2:Int) (a3:(List Int)) (r:(List Int)) (h:jU a0 c0 s1 n1 a2 a3=some r):HasE Tryz.prog 152 [.int a0,.own 0 s1 n1,.int a2,.list 1 (a3.map eI)] [(0,⟨1,c0.map (ow eI)⟩)] 1 (.own 0 s1 n1) [(0,⟨1,r.map (ow eI)⟩)]:=by
 refine sU aH (rvs:=[.tmp 8]) (ns:=nmA.drop 1) Tryz.func152 k k Tryz.ntmps152 k k<|sR<|aT k2<|sQ<|sR<|am k k<|ln k4<|am k k<|an<|tn<|aC<|oB h λy8 hy8 h=>bW (body:=(kC a0 a2 a3 n1 s1)) hy8 (λ(x1:((List Int)×Int))=>mN [(0,.int a0),(1,.own 0 s1 n1),(2,.int a2),(11,.list 1 (a3.map eI)),(12,.int (a3.length:Int)),(13,.int x1.2)] [(0,⟨1,x1.1.map (ow eI)⟩)] 1 1) (λr e t=>e= .exit 0∧Ent t (mN [(1,.own 0 s1 n1)] [(0,⟨1,r.map (ow eI)⟩)] 1 1)) (bK (bH k2) (bS k<|aR) k4) ?_ ?_
 ·intro x1 o h;refine sR<|cm k4<|an<|tn<|sQ<|dJ k h (λ_ h=>?_) λ_ h=>aX<|aA<|aA<|sp h ⟨_,k,k,(bK (bH k2) (bS k<|aR) k4)⟩;refine aD<|tn<|sQ<|aC<|sR<|am k k<|oB h λv2 hv2 h=>ae (xl hv2 k) k<|lr k7<|aa k k<|aT k2<|rg<|am k k<|am k k<|am k k<|am k k<|cG h λq4 h=>oB h λv3 hv3 h=>ae (iL aH q4 k k k k k k k) k<|ae (cK aH k k k k (wV (hv3)) k k) k<|am k k<|am k k<|ae (fG k k) k<|ae (bC k k) k<|am k k<|cG h λq7 h=>ae (aEF k k q7) k<|cG h λq6 h=>oB h λv5 hv5 h=>ae (iL aH q6 k k k k k k k) k<|ae (eJ aH kL (u:=(wr (v3+(wr (a2*v2)))).tmod a0) (hv5) k k k k k k) k<|an ?_;exact aS<|tn<|rg<|ae (bC k k) k<|am k k<|an<|tn<|sp h ⟨_,k,(bK (bH k2) (bS k<|aR) k4)⟩
 ·rintro e t ⟨rfl,hent⟩;exact aJ<|tn<|aM hent<|sR<|am k k<|aT k2<|aG<|sp h ⟨mN [(8,.own 0 s1 n1)] [(0,⟨1,y8.map (ow eI)⟩)] 1 1,(bK (bH k2) (bS k<|aR) k4),k,⟨_,k,.inl k⟩,⟨k,aR⟩⟩
def gH (a0:Int) (a2:Int) (n1:Nat) (n3:Nat) (s1:Nat) (s3:Nat) (x1:((List Int)×Int)):Option (((List Int)×Int) ⊕ (List Int)):=
 bif decide (x1.2<((n3:Nat):Int)) then
 (bif (decide (0≤x1.2)&&decide (x1.2<((n3:Nat):Int))) then
 ((x1.1[(s3+x1.2.toNat)]?).bind λv2=>
 bif (decide (0≤x1.2)&&decide (x1.2<((n1:Nat):Int))) then
 ((x1.1[(s1+x1.2.toNat)]?).bind λv4=>
 bif !decide (a0=0) then
 (bif (decide (0≤x1.2)&&decide (x1.2<((n1:Nat):Int))) then
 ((x1.1[(s1+x1.2.toNat)]?).bind λv6=>
 some (.inl ((x1.1.set (s1+x1.2.toNat) ((wr (v4+(wr (a2*v2)))).tmod a0)),wr (x1.2+1)))
 )
 else none)
 else none
 )
 else none
 )
 else none)
 else
 (some (.inr x1.1))
def iM (a0:Int) (c0:(List Int)) (s1:Nat) (n1:Nat) (a2:Int) (s3:Nat) (n3:Nat):Option (List Int):=
 (Lp (gH a0 a2 n1 n3 s1 s3) (c0,0)).bind λy9=>
 some y9
theorem zN (a0:Int) (c0:(List Int)) (s1:Nat) (n1:Nat) (a2:Int) (s3:Nat) (n3:Nat) (r:(List Int)) (h:iM a0 c0 s1 n1 a2 s3 n3=some r):HasE Tryz.prog 152 [.int a0,.own 0 s1 n1,.int a2,.own 0 s3 n3] [(0,⟨1,c0.map (ow eI)⟩)] 1 (.own 0 s1 n1) [(0,⟨1,r.map (ow eI)⟩)]:=by
 refine sU aH (rvs:=[.tmp 8]) (ns:=nmA.drop 1) Tryz.func152 k k Tryz.ntmps152 k k<|sR<|aT k2<|sQ<|sR<|am k k<|ae (cW aH k k k k) k<|am k k<|an<|tn<|aC<|oB h λy9 hy9 h=>bW (body:=(gH a0 a2 n1 n3 s1 s3)) hy9 (λ(x1:((List Int)×Int))=>mN [(0,.int a0),(1,.own 0 s1 n1),(2,.int a2),(11,.own 0 s3 n3),(12,.int ((n3:Nat):Int)),(13,.int x1.2)] [(0,⟨1,x1.1.map (ow eI)⟩)] 1 1) (λr e t=>e= .exit 0∧Ent t (mN [(1,.own 0 s1 n1)] [(0,⟨1,r.map (ow eI)⟩)] 1 1)) (bK (bH k2) (bS k<|aR) k4) ?_ ?_
 ·intro x1 o h;refine sR<|cm k4<|an<|tn<|sQ<|dJ k h (λ_ h=>?_) λ_ h=>aX<|aA<|aA<|sp h ⟨_,k,k,(bK (bH k2) (bS k<|aR) k4)⟩;refine aD<|tn<|sQ<|aC<|sR<|am k k<|cG h λq3 h=>oB h λv2 hv2 h=>ae (iL aH q3 k k k k k k k) k<|ae (cK aH k k k k (wV (hv2)) k k) k<|aa k k<|aT k2<|rg<|am k k<|am k k<|am k k<|am k k<|cG h λq5 h=>oB h λv4 hv4 h=>ae (iL aH q5 k k k k k k k) k<|ae (cK aH k k k k (wV (hv4)) k k) k<|am k k<|am k k<|ae (fG k k) k<|ae (bC k k) k<|am k k<|cG h λq8 h=>ae (aEF k k q8) k<|cG h λq7 h=>oB h λv6 hv6 h=>ae (iL aH q7 k k k k k k k) k<|ae (eJ aH kL (u:=(wr (v4+(wr (a2*v2)))).tmod a0) (hv6) k k k k k k) k<|an ?_;exact aS<|tn<|rg<|ae (bC k k) k<|am k k<|an<|tn<|sp h ⟨_,k,(bK (bH k2) (bS k<|aR) k4)⟩
 ·rintro e t ⟨rfl,hent⟩;exact aJ<|tn<|aM hent<|sR<|am k k<|aT k2<|aG<|sp h ⟨mN [(8,.own 0 s1 n1)] [(0,⟨1,y9.map (ow eI)⟩)] 1 1,(bK (bH k2) (bS k<|aR) k4),k,⟨_,k,.inl k⟩,⟨k,aR⟩⟩
def hZ (a0:Int) (a1:Int):Option Int:=
 bif !decide (a0=0) then
 (bif decide (a1.tmod a0<0) then
 (some (wr ((a1.tmod a0)+a0)))
 else
 (some (a1.tmod a0)))
 else none
theorem mX (a0:Int) (a1:Int) (r:Int) (h:hZ a0 a1=some r):HasC Tryz.prog 141 [.int a0,.int a1] (.int r):=by
 exact hM [.tmp 4] Tryz.func141 Tryz.ntmps141 k<|sR<|aT k2<|sR<|am k k<|am k k<|cG h λq2 h=>ae (aEF k k q2) k<|aT k2<|sQ<|sR<|am k k<|cm k4<|an<|tn<|dJ k h (λ_ h=>rg<|am k k<|am k k<|ae (bC k k) k<|aT k2<|sR<|am k k<|aT k2<|aG<|yU h k2) λ_ h=>aD<|tn<|sR<|am k k<|aT k2<|aG<|yU h k2
def kN (a0:Int) (a1:Int) (x1:Int):Option (Int ⊕ (Unit ⊕ Int)):=
 bif decide (x1<a0) then
 ((jT a0).bind λv2=>
 bif v2 then
 ((hZ a0 a1).bind λv4=>
 (hZ a0 (wr (v4*x1))).bind λv5=>
 bif decide (v5=1) then
 (some (.inr (.inr (x1))))
 else
 (some (.inl (wr (x1+1)))))
 else
 (some (.inr (.inl ()))))
 else
 (some (.inr (.inl ())))
def oZ (a0:Int) (a1:Int):Option Int:=
 (Lp (kN a0 a1) 1).bind λy7=>
 Sum.elim (λy8=>
 some (0)
 )
 (λy9=>
 some y9
 )
 y7
theorem aCl (a0:Int) (a1:Int) (r:Int) (h:oZ a0 a1=some r):HasC Tryz.prog 157 [.int a0,.int a1] (.int r):=by
 refine hM [.tmp 4] Tryz.func157 Tryz.ntmps157 k<|sR<|aT k2<|sQ<|sR<|aT k2<|aC<|oB h λy7 hy7 h=>bW (body:=(kN a0 a1)) hy7 (λ(x1:Int)=>mN [(0,.int a0),(1,.int a1),(5,.int x1)] [] 0) (λr e t=>Sum.elim (λa=>(λr e t=>e= .exit 0∧Ent t (mN [] [] 0)) a e t) (λb=>(λr e t=>e= .ret∧rY TT [.tmp 4] (.int r) .ret t) b e t) r) (bK (bH k2) aR k4) ?_ ?_
 ·intro x1 o h;exact sQ<|sR<|am k k<|am k k<|cm k4<|am k k<|tQ h (λq1 h=>bA 9 k q1<|am k k<|oB h λv2 hv2 h=>ae (aY (pK a0 v2 hv2) k (dX k aV)) k<|pk k3<|an<|tn<|dJ k h (λ_ h=>aD<|tn<|sQ<|aC<|sR<|am k k<|am k k<|am k k<|oB h λv4 hv4 h=>ae (aY (mX a0 a1 v4 hv4) k (dX k (dX k aV))) k<|am k k<|ae (fG k k) k<|oB h λv5 hv5 h=>ae (aY (mX a0 (wr (v4*x1)) v5 hv5) k (dX k (dX k aV))) k<|cm k4<|an<|tn<|dJ k h (λ_ h=>sR<|am k k<|aT k2<|aG<|bG<|aE<|aE<|sp h ⟨_,k,k,bN k k k (qG k)⟩) λ_ h=>aD<|aS<|tn<|rg<|am k k<|ae (bC k k) k<|aT k2<|sp h ⟨_,k,(bK (bH k2) aR k4)⟩) λ_ h=>aX<|aA<|aA<|sp h ⟨_,k,k,(bK aR aR k4)⟩) λq1 h=>bA 9 k q1<|aK k4<|pk k3<|an<|tn<|lS k k<|aX<|aA<|aA<|sp h ⟨_,k,k,(bK aR aR k4)⟩
 ·intro e t hX;rcases y7 with y8|y9
  ·obtain ⟨rfl,hent⟩:=hX;exact aJ<|tn<|aM hent<|sR<|aT k2<|aG<|yU h k2
  ·obtain ⟨rfl,hent⟩:=hX;exact bG<|aE<|sp h hent
def mY (a0:Int) (a1:(List Int)) (x1:Int):Option (Int ⊕ (Unit ⊕ Bool)):=
 bif decide (x1<(a1.length:Int)) then
 ((cE a1 x1).bind λv5=>
 (jL v5 0 (wr (a0 - 1))).bind λv6=>
 bif !v6 then
 (some (.inr (.inr (false))))
 else
 (some (.inl (wr (x1+1)))))
 else
 (some (.inr (.inl ())))
def rA (a0:Int) (a1:(List Int)):Option Bool:=
 (jT a0).bind λv1=>
 bif !v1 then
 (some (false))
 else
 (bif decide (64<(a1.length:Int)) then
 (some (false))
 else
 ((Lp (mY a0 a1) 0).bind λy8=>
 Sum.elim (λy9=>
 some (true)
 )
 (λy10=>
 some y10
 )
 y8))
theorem aEa (a0:Int) (a1:(List Int)) (r:Bool) (h:rA a0 a1=some r):HasC Tryz.prog 118 [.int a0,.list 1 (a1.map eI)] (.bl r):=by
 refine hM [.tmp 4] Tryz.func118 Tryz.ntmps118 k<|sR<|aT k2<|sQ<|sR<|am k k<|oB h λv1 hv1 h=>ae (aY (pK a0 v1 hv1) k (dX k aV)) k<|ae (fM k) k<|am k k<|tQ h (λq2 h=>bA 9 k q2<|aK k4<|ak k k<|pk k3<|an<|tn<|gT k k<|sR<|aT k2<|aG<|aE<|kI h k2) λq2 h=>?_;refine bA 9 k q2<|am k k<|ln k4<|cm k4<|pk k3<|an<|tn<|dJ k h (λ_ h=>sR<|aT k2<|aG<|aE<|kI h k2) λ_ h=>?_;refine aD<|tn<|sQ<|sR<|aT k2<|aC<|oB h λy8 hy8 h=>bW (body:=(mY a0 a1)) hy8 (λ(x1:Int)=>mN [(0,.int a0),(1,.list 1 (a1.map eI)),(5,.int x1)] [] 0) (λr e t=>Sum.elim (λa=>(λr e t=>e= .exit 0∧Ent t (mN [] [] 0)) a e t) (λb=>(λr e t=>e= .ret∧rY TT [.tmp 4] (.bl r) .ret t) b e t) r) (bK (bH k2) aR k4) ?_ ?_
 ·intro x1 o h;exact sQ<|sR<|am k k<|am k k<|ln k4<|cm k4<|an<|tn<|dJ k h (λ_ h=>aD<|tn<|sQ<|aC<|sR<|am k k<|am k k<|oB h λv5 hv5 h=>ae (xl hv5 k) k<|lr k7<|am k k<|ae (hJ k k) k<|oB h λv6 hv6 h=>ae (aY (mM v5 0 (wr (a0 - 1)) v6 hv6) k (dX k (dX k (dX k aV)))) k<|ae (fM k) k<|an<|tn<|dJ k h (λ_ h=>sR<|aT k2<|aG<|bG<|aE<|aE<|sp h ⟨_,k,k,bN k k k (vB k)⟩) λ_ h=>aD<|aS<|tn<|rg<|am k k<|ae (bC k k) k<|aT k2<|sp h ⟨_,k,(bK (bH k2) aR k4)⟩) λ_ h=>aX<|aA<|aA<|sp h ⟨_,k,k,(bK aR aR k4)⟩
 ·intro e t hX;rcases y8 with y9|y10
  ·obtain ⟨rfl,hent⟩:=hX;exact aJ<|tn<|aM hent<|sR<|aT k2<|aG<|kI h k2
  ·obtain ⟨rfl,hent⟩:=hX;exact bG<|aE<|sp h hent
def rB (a0:Int) (a1:Mt):Option Bool:=
 (jL a1.rows 0 8).bind λv1=>
 bif v1 then
 ((jL a1.cols 0 8).bind λv3=>
 bif v3 then
 (bif decide ((a1.cells.length:Int)=wr (a1.rows*a1.cols)) then
 ((rA a0 a1.cells).bind λv6=>
 some (v6))
 else
 (some (false)))
 else
 (some (false)))
 else
 (some (false))
theorem aEb (a0:Int) (a1:Mt) (r:Bool) (h:rB a0 a1=some r):HasC Tryz.prog 86 [.int a0,.agg (eM a1)] (.bl r):=by
 exact hM [.tmp 4] Tryz.func86 Tryz.ntmps86 k<|sR<|ae (wb k) k<|aT k2<|sR<|fp k8<|lp k8<|oB h λv1 hv1 h=>ae (aY (mM a1.rows 0 8 v1 hv1) k (dX k (dX k (dX k aV)))) k<|am k k<|tQ h (λq2 h=>bA 8 k q2<|fp k8<|lp k8<|oB h λv3 hv3 h=>ae (aY (mM a1.cols 0 8 v3 hv3) k (dX k (dX k (dX k aV)))) k<|pk k3<|am k k<|tQ h (λq4 h=>bA 13 k q4<|fp k8<|lp k8<|ln k4<|fp k8<|lp k8<|fp k8<|lp k8<|ae (fG k k) k<|cm k4<|pk k3<|am k k<|tQ h (λq5 h=>bA 24 k q5<|am k k<|fp k8<|lp k8<|oB h λv6 hv6 h=>ae (aY (aEa a0 a1.cells v6 hv6) k (dX k (dX k aV))) k<|pk k3<|aT k2<|aG<|kI h k2) λq5 h=>bA 24 k q5<|aK k4<|aK k4<|pk k3<|aT k2<|aG<|kI h k2) λq4 h=>bA 13 k q4<|aK k4<|aK k4<|aK k4<|aK k4<|ak k k<|pk k3<|am k k<|aK k4<|aK k4<|pk k3<|aT k2<|aG<|kI h k2) λq2 h=>bA 8 k q2<|aK k4<|ak k k<|pk k3<|am k k<|aK k4<|aK k4<|aK k4<|aK k4<|ak k k<|pk k3<|am k k<|aK k4<|aK k4<|pk k3<|aT k2<|aG<|kI h k2
def yI (a0:Mt):Option Mt:=
 bif decide (([]:(List Int)).length +a0.cells.length≤4294967296) then
 (some ((⟨a0.rows,a0.cols,(([]:(List Int))++a0.cells)⟩:Mt)))
 else none
theorem aGv (a0:Mt) (r:Mt) (h:yI a0=some r):HasC Tryz.prog 156 [.agg (eM a0)] (.agg (eM r)):=by
 exact hM [.cell 2 80] Tryz.func156 Tryz.ntmps156 k<|sR<|ae (wb k) k<|ae (dB aH k k) k<|an<|tn<|sQ<|aN gV<|fp k8<|lp k8<|fp k8<|lp k8<|ae (wl k) k<|fp k8<|lp k8<|cG h λq1 h=>ae (vC aH (l:=([]:(List Int))) (m:=a0.cells) kL q1 k k k k k k k k k k k k) k<|ae (jC aH k k k k k k) k<|ae (ws k) k<|an<|sG (by kernel_rfl)<|tn<|aG<|sp h (bN k k k (sT (aU (k) (aU (k) (aU (gU dD k k) gX)))))
end
noncomputable section
set_option maxRecDepth 10000
set_option maxHeartbeats 4000000
def jV (v1:Mt) (x1:(Int×(List Int)×(List Int)×Int)) (x2:(Int×Int)):Option ((Int×Int) ⊕ Int):=
 bif decide (x1.2.2.2≤x2.2) then
 ((cE x1.2.1 (wr ((wr (x2.2*v1.cols))+x1.1))).bind λv5=>
 bif !decide (v5=0) then
 (some (.inl (x2.2,wr (x2.2 - 1))))
 else
 (some (.inl (x2.1,wr (x2.2 - 1)))))
 else
 (some (.inr x2.1))
def mZ (v1:Mt) (x1:(Int×(List Int)×(List Int)×Int)) (y7:Int) (x3:((List Int)×Int)):Option (((List Int)×Int) ⊕ (List Int)):=
 bif decide (x3.2<v1.cols) then
 ((cE x3.1 (wr ((wr (x1.2.2.2*v1.cols))+x3.2))).bind λv10=>
 (cE x3.1 (wr ((wr (y7*v1.cols))+x3.2))).bind λv11=>
 (cE x3.1 (wr ((wr (x1.2.2.2*v1.cols))+x3.2))).bind λv12=>
 (cE (x3.1.set ((wr ((wr (x1.2.2.2*v1.cols))+x3.2)).toNat) v11) (wr ((wr (y7*v1.cols))+x3.2))).bind λv13=>
 some (.inl (((x3.1.set ((wr ((wr (x1.2.2.2*v1.cols))+x3.2)).toNat) v11).set ((wr ((wr (y7*v1.cols))+x3.2)).toNat) v10),wr (x3.2+1))))
 else
 (some (.inr x3.1))
def nA (a0:Int) (v1:Mt) (v16:Int) (x1:(Int×(List Int)×(List Int)×Int)) (x4:((List Int)×Int)):Option (((List Int)×Int) ⊕ (List Int)):=
 bif decide (x4.2<v1.cols) then
 ((cE x4.1 (wr ((wr (x1.2.2.2*v1.cols))+x4.2))).bind λv18=>
 (hZ a0 (wr (v16*v18))).bind λv19=>
 (cE x4.1 (wr ((wr (x1.2.2.2*v1.cols))+x4.2))).bind λv20=>
 some (.inl ((x4.1.set ((wr ((wr (x1.2.2.2*v1.cols))+x4.2)).toNat) v19),wr (x4.2+1))))
 else
 (some (.inr x4.1))
def jW (a0:Int) (v1:Mt) (v23:Int) (x1:(Int×(List Int)×(List Int)×Int)) (x5:((List Int)×Int)) (x6:((List Int)×Int)):Option (((List Int)×Int) ⊕ (List Int)):=
 bif decide (x6.2<v1.cols) then
 (bif !decide (x5.2=x1.2.2.2) then
 ((cE x6.1 (wr ((wr (x5.2*v1.cols))+x6.2))).bind λv26=>
 (cE x6.1 (wr ((wr (x1.2.2.2*v1.cols))+x6.2))).bind λv27=>
 (hZ a0 (wr (v26 - (wr (v23*v27))))).bind λv28=>
 (cE x6.1 (wr ((wr (x5.2*v1.cols))+x6.2))).bind λv29=>
 some (.inl ((x6.1.set ((wr ((wr (x5.2*v1.cols))+x6.2)).toNat) v28),wr (x6.2+1))))
 else
 (some (.inr x6.1)))
 else
 (some (.inr x6.1))
def nB (a0:Int) (v1:Mt) (x1:(Int×(List Int)×(List Int)×Int)) (x5:((List Int)×Int)):Option (((List Int)×Int) ⊕ (List Int)):=
 bif decide (x5.2<v1.rows) then
 ((cE x5.1 (wr ((wr (x5.2*v1.cols))+x1.1))).bind λv23=>
 (Lp (jW a0 v1 v23 x1 x5) (x5.1,0)).bind λy30=>
 some (.inl (y30,wr (x5.2+1))))
 else
 (some (.inr x5.1))
def fX (a0:Int) (v1:Mt) (x1:(Int×(List Int)×(List Int)×Int)):Option ((Int×(List Int)×(List Int)×Int) ⊕ ((List Int)×(List Int))):=
 bif decide (x1.1<v1.cols) then
 (bif decide (x1.2.2.2<v1.rows) then
 ((Lp (jV v1 x1) ((-1),wr (v1.rows - 1))).bind λy7=>
 bif decide (y7<0) then
 (some (.inl (wr (x1.1+1),x1.2.1,x1.2.2.1,x1.2.2.2)))
 else
 ((Lp (mZ v1 x1 y7) (x1.2.1,0)).bind λy14=>
 (cE y14 (wr ((wr (x1.2.2.2*v1.cols))+x1.1))).bind λv15=>
 (oZ a0 v15).bind λv16=>
 (Lp (nA a0 v1 v16 x1) (y14,0)).bind λy21=>
 (Lp (nB a0 v1 x1) (y21,0)).bind λy31=>
 bif decide (x1.2.2.1.length+[x1.1].length ≤4294967296) then
 (some (.inl (wr (x1.1+1),y31,(x1.2.2.1++[x1.1]),wr (x1.2.2.2+1))))
 else none))
 else
 (some (.inr (x1.2.1,x1.2.2.1))))
 else
 (some (.inr (x1.2.1,x1.2.2.1)))
def rC (a0:Int) (a1:Mt):Option (Mt×(List Int)):=
 (yI a1).bind λv1=>
 (Lp (fX a0 v1) (0,v1.cells,([]:(List Int)),0)).bind λy33=>
 some (((⟨v1.rows,v1.cols,y33.1⟩:Mt),y33.2))
theorem aEc (a0:Int) (a1:Mt) (r:(Mt×(List Int))) (h:rC a0 a1=some r):HasC Tryz.prog 139 [.int a0,.agg (eM a1)] (.tuple [.agg (eM r.1),.list 1 (r.2.map eI)]):=by
 refine hM [.cell 4 80,.tmp 5] Tryz.func139 Tryz.ntmps139 k<|sR<|ae (wb k) k<|ae (dB aH k k) k<|aT k2<|sR<|lp k8<|oB h λv1 hv1 h=>ae (cM (aGv a1 v1 hv1) k3 (bB (qH k) aV)) k<|ae (dB aH k k) k<|ae (ws k) k<|an<|tn<|sR<|ae (wl k) k<|aT k2<|aM (t:=mN [(0,.int a0),(4,.ptr 1 0 0),(6,.ptr 3 0 0),(7,.own 4 0 (([]:(List Int)).length))] [(1,⟨3,[iJ]⟩),(2,⟨1,v1.cells.map (ow eI)⟩),(3,⟨3,[oMt v1 2]⟩),(4,⟨1,List.map (ow eI) ([]:(List Int))⟩)] 5) (bK (mA 3 k2 (jP ⟨_,k,⟨k,k,(by simp only [aL,lA,lT,lR,lC,lN]),k⟩⟩ aR)) (bP k<|bS k<|gA k<|bS k<|aR) k4)<|sR<|aT k2<|sQ<|sQ ?_;refine rg<|aT k2<|aC<|oB h λy33 hy33 h=>bW (body:=(fX a0 v1)) hy33 (λ(x1:(Int×(List Int)×(List Int)×Int))=>mN [(0,.int a0),(4,.ptr 0 0 0),(6,.ptr 1 0 0),(7,.own 3 0 x1.2.2.1.length),(8,.int x1.2.2.2),(9,.int x1.1)] [(0,⟨3,[iJ]⟩),(1,⟨3,[[.int v1.rows,.int v1.cols,.own 2 0 x1.2.1.length]]⟩),(2,⟨1,x1.2.1.map (ow eI)⟩),(3,⟨1,x1.2.2.1.map (ow eI)⟩)] 4) (λr e t=>e= .exit 0∧Ent t (mN [(4,.ptr 0 0 0),(6,.ptr 1 0 0),(7,.own 3 0 r.2.length)] [(0,⟨3,[iJ]⟩),(1,⟨3,[[.int v1.rows,.int v1.cols,.own 2 0 r.1.length]]⟩),(2,⟨1,r.1.map (ow eI)⟩),(3,⟨1,r.2.map (ow eI)⟩)] 4)) (sW [1,3,2,4] (bH k2) (bP k<|gA k<|bS k<|bS k<|aR) k4) ?_ ?_
 ·intro x1 o h;refine sQ<|sR<|am k k<|fp k8<|lp k8<|cm k4<|am k k<|tQ h (λq2 h=>?_) λq2 h=>bA 26 k q2<|aK k4<|aK k4<|pk k3<|an<|tn<|lS k k<|aX<|aA<|aA<|sp h ⟨_,k,k,(bK (bH k2) (bP k<|gA k<|bS k<|bS k<|aR) k4)⟩;refine bA 26 k q2<|am k k<|fp k8<|lp k8<|cm k4<|pk k3<|an<|tn<|dJ k h (λ_ h=>?_) λ_ h=>aX<|aA<|aA<|sp h ⟨_,k,k,(bK (bH k2) (bP k<|gA k<|bS k<|bS k<|aR) k4)⟩;refine aD<|tn<|sQ<|aC<|sR<|aT k2<|sQ<|sR<|fp k8<|lp k8<|ae (hJ k k) k<|aT k2<|aC<|oB h λy7 hy7 h=>bW (body:=(jV v1 x1)) hy7 (λ(x2:(Int×Int))=>mN [(0,.int a0),(4,.ptr 0 0 0),(6,.ptr 1 0 0),(7,.own 3 0 x1.2.2.1.length),(8,.int x1.2.2.2),(9,.int x1.1),(10,.int x2.1),(11,.int x2.2)] [(0,⟨3,[iJ]⟩),(1,⟨3,[[.int v1.rows,.int v1.cols,.own 2 0 x1.2.1.length]]⟩),(2,⟨1,x1.2.1.map (ow eI)⟩),(3,⟨1,x1.2.2.1.map (ow eI)⟩)] 4) (λr e t=>e= .exit 2∧Ent t (mN [(0,.int a0),(4,.ptr 0 0 0),(6,.ptr 1 0 0),(7,.own 3 0 x1.2.2.1.length),(8,.int x1.2.2.2),(9,.int x1.1),(10,.int r)] [(0,⟨3,[iJ]⟩),(1,⟨3,[[.int v1.rows,.int v1.cols,.own 2 0 x1.2.1.length]]⟩),(2,⟨1,x1.2.1.map (ow eI)⟩),(3,⟨1,x1.2.2.1.map (ow eI)⟩)] 4)) (bK (bH k2) (bP k<|gA k<|bS k<|bS k<|aR) k4) ?_ ?_
  ·intro x2 o h;exact sQ<|sR<|am k k<|am k k<|cm k4<|an<|tn<|dJ k h (λ_ h=>aD<|tn<|sQ<|aC<|sR<|fp k8<|lp k8<|am k k<|fp k8<|lp k8<|ae (fG k k) k<|am k k<|ae (bC k k) k<|oB h λv5 hv5 h=>ae (xo hv5 k) k<|ae (wp hv5 k) k<|cm k4<|an<|tn<|dJ k h (λ_ h=>rg<|am k k<|aa k k<|an<|aS<|tn<|rg<|am k k<|ae (hJ k k) k<|aT k2<|sp h ⟨_,k,(bK (bH k2) (bP k<|gA k<|bS k<|bS k<|aR) k4)⟩) λ_ h=>aD<|aS<|tn<|rg<|am k k<|ae (hJ k k) k<|aT k2<|sp h ⟨_,k,(bK (bH k2) (bP k<|gA k<|bS k<|bS k<|aR) k4)⟩) λ_ h=>aX<|aA<|aA<|sp h ⟨_,k,k,(bK (bH k2) (bP k<|gA k<|bS k<|bS k<|aR) k4)⟩
  ·rintro e t ⟨rfl,hent⟩;refine aJ<|tn<|aM hent<|sQ<|sR<|am k k<|cm k4<|an<|tn<|dJ k h (λ_ h=>aX<|aA<|aJ<|tn<|rg<|am k k<|ae (bC k k) k<|aT k2<|sp h ⟨_,k,(bK (bH k2) (bP k<|gA k<|bS k<|bS k<|aR) k4)⟩) λ_ h=>?_;refine aD<|tn<|sQ<|sR<|aT k2<|aC<|oB h λy14 hy14 h=>bW (body:=(mZ v1 x1 y7)) hy14 (λ(x3:((List Int)×Int))=>mN [(0,.int a0),(4,.ptr 0 0 0),(6,.ptr 1 0 0),(7,.own 3 0 x1.2.2.1.length),(8,.int x1.2.2.2),(9,.int x1.1),(10,.int y7),(12,.int x3.2)] [(0,⟨3,[iJ]⟩),(1,⟨3,[[.int v1.rows,.int v1.cols,.own 2 0 x3.1.length]]⟩),(2,⟨1,x3.1.map (ow eI)⟩),(3,⟨1,x1.2.2.1.map (ow eI)⟩)] 4) (λr e t=>e= .exit 4∧Ent t (mN [(0,.int a0),(4,.ptr 0 0 0),(6,.ptr 1 0 0),(7,.own 3 0 x1.2.2.1.length),(8,.int x1.2.2.2),(9,.int x1.1)] [(0,⟨3,[iJ]⟩),(1,⟨3,[[.int v1.rows,.int v1.cols,.own 2 0 r.length]]⟩),(2,⟨1,r.map (ow eI)⟩),(3,⟨1,x1.2.2.1.map (ow eI)⟩)] 4)) (bK (bH k2) (bP k<|gA k<|bS k<|bS k<|aR) k4) ?_ ?_
   ·intro x3 o h;refine sQ<|sR<|am k k<|fp k8<|lp k8<|cm k4<|an<|tn<|dJ k h (λ_ h=>?_) λ_ h=>aX<|aA<|aA<|sp h ⟨_,k,k,(bK (bH k2) (bP k<|gA k<|bS k<|bS k<|aR) k4)⟩;refine aD<|tn<|sQ<|aC<|sR<|fp k8<|lp k8<|am k k<|fp k8<|lp k8<|ae (fG k k) k<|am k k<|ae (bC k k) k<|oB h λv10 hv10 h=>ae (xo hv10 k) k<|ae (wp hv10 k) k<|aT k2<|sQ<|aN gV<|fp k8<|lp k8<|am k k<|fp k8<|lp k8<|ae (fG k k) k<|am k k<|ae (bC k k) k ?_;refine fp k8<|lp k8<|am k k<|fp k8<|lp k8<|ae (fG k k) k<|am k k<|ae (bC k k) k<|oB h λv11 hv11 h=>ae (xo hv11 k) k<|ae (wp hv11 k) k<|oB h λv12 hv12 h=>ae (xo hv12 k) k<|ae (eJ aH kL (u:=v11) (dC hv12) k k k k k k) k<|an<|sG (by kernel_rfl)<|tn<|aM (t:=mN [(0,.int a0),(4,.ptr 0 0 0),(6,.ptr 1 0 0),(7,.own 3 0 x1.2.2.1.length),(8,.int x1.2.2.2),(9,.int x1.1),(10,.int y7),(12,.int x3.2),(13,.int v10)] [(0,⟨3,[iJ]⟩),(1,⟨3,[[.int v1.rows,.int v1.cols,.own 2 0 ((x3.1.set ((wr ((wr (x1.2.2.2*v1.cols))+x3.2)).toNat) v11).length)]]⟩),(2,⟨1,List.map (ow eI) (x3.1.set ((wr ((wr (x1.2.2.2*v1.cols))+x3.2)).toNat) v11)⟩),(3,⟨1,x1.2.2.1.map (ow eI)⟩)] 4) (bK (bH k2) (bP k<|hX ⟨_,k,k,.inr ⟨_,_,k,⟨_,_,k,k,⟨_,_,k,k,⟨_,_,k,⟨k,k,(by simp only [aL,lA,lT,lR,lC,lN]),k⟩,k⟩⟩⟩,k⟩⟩ k<|bS k<|bS k<|aR) k4)<|rg<|fp k8<|lp k8<|am k k<|fp k8<|lp k8<|ae (fG k k) k<|am k k<|ae (bC k k) k<|am k k<|oB h λv13 hv13 h=>ae (xo hv13 k) k<|ae (eJ aH kL (u:=v10) (dC hv13) k k k k k k) k<|an<|aS ?_;exact tn<|rg<|am k k<|ae (bC k k) k<|aT k2<|sp h ⟨_,k,(bK (bH k2) (bP k<|hX ⟨_,k,k,.inr ⟨_,_,k,⟨_,_,k,k,⟨_,_,k,k,⟨_,_,k,⟨k,k,(by simp only [aL,lA,lT,lR,lC,lN]),k⟩,k⟩⟩⟩,k⟩⟩ k<|bS k<|bS k<|aR) k4)⟩
   ·rintro e t ⟨rfl,hent⟩;refine aJ<|tn<|aM hent<|sR<|am k k<|fp k8<|lp k8<|am k k<|fp k8<|lp k8<|ae (fG k k) k<|am k k<|ae (bC k k) k<|oB h λv15 hv15 h=>ae (xo hv15 k) k<|ae (wp hv15 k) k<|oB h λv16 hv16 h=>ae (aY (aCl a0 v15 v16 hv16) k (dX k (dX k aV))) k<|aT k2<|sQ<|sR<|aT k2<|aC<|oB h λy21 hy21 h=>bW (body:=(nA a0 v1 v16 x1)) hy21 (λ(x4:((List Int)×Int))=>mN [(0,.int a0),(4,.ptr 0 0 0),(6,.ptr 1 0 0),(7,.own 3 0 x1.2.2.1.length),(8,.int x1.2.2.2),(9,.int x1.1),(14,.int v16),(15,.int x4.2)] [(0,⟨3,[iJ]⟩),(1,⟨3,[[.int v1.rows,.int v1.cols,.own 2 0 x4.1.length]]⟩),(2,⟨1,x4.1.map (ow eI)⟩),(3,⟨1,x1.2.2.1.map (ow eI)⟩)] 4) (λr e t=>e= .exit 6∧Ent t (mN [(0,.int a0),(4,.ptr 0 0 0),(6,.ptr 1 0 0),(7,.own 3 0 x1.2.2.1.length),(8,.int x1.2.2.2),(9,.int x1.1)] [(0,⟨3,[iJ]⟩),(1,⟨3,[[.int v1.rows,.int v1.cols,.own 2 0 r.length]]⟩),(2,⟨1,r.map (ow eI)⟩),(3,⟨1,x1.2.2.1.map (ow eI)⟩)] 4)) (bK (bH k2) (bP k<|gA k<|bS k<|bS k<|aR) k4) ?_ ?_
    ·intro x4 o h;refine sQ<|sR<|am k k<|fp k8<|lp k8<|cm k4<|an<|tn<|dJ k h (λ_ h=>?_) λ_ h=>aX<|aA<|aA<|sp h ⟨_,k,k,(bK (bH k2) (bP k<|gA k<|bS k<|bS k<|aR) k4)⟩;refine aD<|tn<|sQ<|aC<|aN gV<|fp k8<|lp k8<|am k k<|fp k8<|lp k8<|ae (fG k k) k<|am k k<|ae (bC k k) k<|am k k<|am k k<|fp k8<|lp k8<|am k k<|fp k8<|lp k8<|ae (fG k k) k<|am k k<|ae (bC k k) k<|oB h λv18 hv18 h=>ae (xo hv18 k) k<|ae (wp hv18 k) k<|ae (fG k k) k<|oB h λv19 hv19 h=>ae (aY (mX a0 (wr (v16*v18)) v19 hv19) k (dX k (dX k aV))) k<|oB h λv20 hv20 h=>ae (xo hv20 k) k<|ae (eJ aH kL (u:=v19) (dC hv20) k k k k k k) k ?_;exact an<|sG (by kernel_rfl)<|aS<|tn<|aM (t:=mN [(0,.int a0),(4,.ptr 0 0 0),(6,.ptr 1 0 0),(7,.own 3 0 x1.2.2.1.length),(8,.int x1.2.2.2),(9,.int x1.1),(14,.int v16),(15,.int x4.2)] [(0,⟨3,[iJ]⟩),(1,⟨3,[[.int v1.rows,.int v1.cols,.own 2 0 ((x4.1.set ((wr ((wr (x1.2.2.2*v1.cols))+x4.2)).toNat) v19).length)]]⟩),(2,⟨1,List.map (ow eI) (x4.1.set ((wr ((wr (x1.2.2.2*v1.cols))+x4.2)).toNat) v19)⟩),(3,⟨1,x1.2.2.1.map (ow eI)⟩)] 4) (bK (bH k2) (bP k<|hX ⟨_,k,k,.inr ⟨_,_,k,⟨_,_,k,k,⟨_,_,k,k,⟨_,_,k,⟨k,k,(by simp only [aL,lA,lT,lR,lC,lN]),k⟩,k⟩⟩⟩,k⟩⟩ k<|bS k<|bS k<|aR) k4)<|rg<|am k k<|ae (bC k k) k<|aT k2<|sp h ⟨_,k,(bK (bH k2) (bP k<|gA k<|bS k<|bS k<|aR) k4)⟩
    ·rintro e t ⟨rfl,hent⟩;refine aJ<|tn<|aM hent<|sQ<|sR<|aT k2<|aC<|oB h λy31 hy31 h=>bW (body:=(nB a0 v1 x1)) hy31 (λ(x5:((List Int)×Int))=>mN [(0,.int a0),(4,.ptr 0 0 0),(6,.ptr 1 0 0),(7,.own 3 0 x1.2.2.1.length),(8,.int x1.2.2.2),(9,.int x1.1),(16,.int x5.2)] [(0,⟨3,[iJ]⟩),(1,⟨3,[[.int v1.rows,.int v1.cols,.own 2 0 x5.1.length]]⟩),(2,⟨1,x5.1.map (ow eI)⟩),(3,⟨1,x1.2.2.1.map (ow eI)⟩)] 4) (λr e t=>e= .exit 8∧Ent t (mN [(0,.int a0),(4,.ptr 0 0 0),(6,.ptr 1 0 0),(7,.own 3 0 x1.2.2.1.length),(8,.int x1.2.2.2),(9,.int x1.1)] [(0,⟨3,[iJ]⟩),(1,⟨3,[[.int v1.rows,.int v1.cols,.own 2 0 r.length]]⟩),(2,⟨1,r.map (ow eI)⟩),(3,⟨1,x1.2.2.1.map (ow eI)⟩)] 4)) (bK (bH k2) (bP k<|gA k<|bS k<|bS k<|aR) k4) ?_ ?_
     ·intro x5 o h;refine sQ<|sR<|am k k<|fp k8<|lp k8<|cm k4<|an<|tn<|dJ k h (λ_ h=>?_) λ_ h=>aX<|aA<|aA<|sp h ⟨_,k,k,(bK (bH k2) (bP k<|gA k<|bS k<|bS k<|aR) k4)⟩;refine aD<|tn<|sQ<|aC<|sR<|fp k8<|lp k8<|am k k<|fp k8<|lp k8<|ae (fG k k) k<|am k k<|ae (bC k k) k<|oB h λv23 hv23 h=>ae (xo hv23 k) k<|ae (wp hv23 k) k<|aT k2<|sR<|aT k2<|aC<|oB h λy30 hy30 h=>bW (body:=(jW a0 v1 v23 x1 x5)) hy30 (λ(x6:((List Int)×Int))=>mN [(0,.int a0),(4,.ptr 0 0 0),(6,.ptr 1 0 0),(7,.own 3 0 x1.2.2.1.length),(8,.int x1.2.2.2),(9,.int x1.1),(16,.int x5.2),(17,.int v23),(18,.int x6.2)] [(0,⟨3,[iJ]⟩),(1,⟨3,[[.int v1.rows,.int v1.cols,.own 2 0 x6.1.length]]⟩),(2,⟨1,x6.1.map (ow eI)⟩),(3,⟨1,x1.2.2.1.map (ow eI)⟩)] 4) (λr e t=>e= .exit 10∧Ent t (mN [(0,.int a0),(4,.ptr 0 0 0),(6,.ptr 1 0 0),(7,.own 3 0 x1.2.2.1.length),(8,.int x1.2.2.2),(9,.int x1.1),(16,.int x5.2)] [(0,⟨3,[iJ]⟩),(1,⟨3,[[.int v1.rows,.int v1.cols,.own 2 0 r.length]]⟩),(2,⟨1,r.map (ow eI)⟩),(3,⟨1,x1.2.2.1.map (ow eI)⟩)] 4)) (bK (bH k2) (bP k<|gA k<|bS k<|bS k<|aR) k4) ?_ ?_
      ·intro x6 o h;refine sQ<|sR<|am k k<|fp k8<|lp k8<|cm k4<|am k k<|tQ h (λq24 h=>?_) λq24 h=>bA 162 k q24<|aK k4<|ak k k<|pk k3<|an<|tn<|lS k k<|aX<|aA<|aA<|sp h ⟨_,k,k,(bK (bH k2) (bP k<|gA k<|bS k<|bS k<|aR) k4)⟩;refine bA 162 k q24<|am k k<|am k k<|cm k4<|pk k3<|an<|tn<|dJ k h (λ_ h=>?_) λ_ h=>aX<|aA<|aA<|sp h ⟨_,k,k,(bK (bH k2) (bP k<|gA k<|bS k<|bS k<|aR) k4)⟩;refine aD<|tn<|sQ<|aC<|aN gV<|fp k8<|lp k8<|am k k<|fp k8<|lp k8<|ae (fG k k) k<|am k k<|ae (bC k k) k<|am k k<|fp k8<|lp k8<|am k k<|fp k8<|lp k8<|ae (fG k k) k<|am k k<|ae (bC k k) k<|oB h λv26 hv26 h=>ae (xo hv26 k) k<|ae (wp hv26 k) k<|am k k<|fp k8<|lp k8<|am k k<|fp k8 ?_;exact lp k8<|ae (fG k k) k<|am k k<|ae (bC k k) k<|oB h λv27 hv27 h=>ae (xo hv27 k) k<|ae (wp hv27 k) k<|ae (fG k k) k<|ae (hJ k k) k<|oB h λv28 hv28 h=>ae (aY (mX a0 (wr (v26 - (wr (v23*v27)))) v28 hv28) k (dX k (dX k aV))) k<|oB h λv29 hv29 h=>ae (xo hv29 k) k<|ae (eJ aH kL (u:=v28) (dC hv29) k k k k k k) k<|an<|sG (by kernel_rfl)<|aS<|tn<|aM (t:=mN [(0,.int a0),(4,.ptr 0 0 0),(6,.ptr 1 0 0),(7,.own 3 0 x1.2.2.1.length),(8,.int x1.2.2.2),(9,.int x1.1),(16,.int x5.2),(17,.int v23),(18,.int x6.2)] [(0,⟨3,[iJ]⟩),(1,⟨3,[[.int v1.rows,.int v1.cols,.own 2 0 ((x6.1.set ((wr ((wr (x5.2*v1.cols))+x6.2)).toNat) v28).length)]]⟩),(2,⟨1,List.map (ow eI) (x6.1.set ((wr ((wr (x5.2*v1.cols))+x6.2)).toNat) v28)⟩),(3,⟨1,x1.2.2.1.map (ow eI)⟩)] 4) (bK (bH k2) (bP k<|hX ⟨_,k,k,.inr ⟨_,_,k,⟨_,_,k,k,⟨_,_,k,k,⟨_,_,k,⟨k,k,(by simp only [aL,lA,lT,lR,lC,lN]),k⟩,k⟩⟩⟩,k⟩⟩ k<|bS k<|bS k<|aR) k4)<|rg<|am k k<|ae (bC k k) k<|aT k2<|sp h ⟨_,k,(bK (bH k2) (bP k<|gA k<|bS k<|bS k<|aR) k4)⟩
      ·rintro e t ⟨rfl,hent⟩;exact aJ<|aS<|tn<|aM hent<|rg<|am k k<|ae (bC k k) k<|aT k2<|sp h ⟨_,k,(bK (bH k2) (bP k<|gA k<|bS k<|bS k<|aR) k4)⟩
     ·rintro e t ⟨rfl,hent⟩;exact aJ<|tn<|aM hent<|sR<|am k k<|am k k<|ae (wl k) k<|cG h λq32 h=>ae (vC aH (l:=x1.2.2.1) (m:=[x1.1]) kL q32 k k k k k k k k k k k k) k<|aT k2<|rg<|am k k<|ae (bC k k) k<|aa k k<|an<|aS<|tn<|rg<|am k k<|ae (bC k k) k<|aT k2<|sp h ⟨_,k,(sW [0,1,2,5] (bH k2) (bP k<|gA k<|bS k<|bS k<|aR) k4)⟩
 ·rintro e t ⟨rfl,hent⟩;exact aJ<|tn<|aM hent<|sR<|lp k8<|am k k<|ae (ws k) k<|aT k2<|aG<|sp h (bN k k k (fS k (cX (tX (aU (k) (aU (k) (aU (gU dD k k) gX)))) (cX (yF (gU dD k k)) kX))))
def pR (a0:Int) (a1:Int):Option Int:=
 (mD a0).bind λv1=>
 bif !v1 then
 (some (0))
 else
 (bif !decide (a0=0) then
 (bif !decide (a0=0) then
 (some ((wr ((a1.tmod a0)+a0)).tmod a0))
 else none)
 else none)
theorem aDe (a0:Int) (a1:Int) (r:Int) (h:pR a0 a1=some r):HasC Tryz.prog 162 [.int a0,.int a1] (.int r):=by
 exact hM [.tmp 4] Tryz.func162 Tryz.ntmps162 k<|sR<|aT k2<|sQ<|sR<|am k k<|oB h λv1 hv1 h=>ae (aY (sX a0 v1 hv1) k (dX k aV)) k<|ae (fM k) k<|an<|tn<|dJ k h (λ_ h=>sR<|aT k2<|aG<|aE<|yU h k2) λ_ h=>aD<|tn<|sR<|am k k<|am k k<|cG h λq4 h=>ae (aEF k k q4) k<|am k k<|ae (bC k k) k<|am k k<|cG h λq3 h=>ae (aEF k k q3) k<|aT k2<|aG<|yU h k2
def nC (a0:Int) (a1:Int) (a2:Int) (x1:(Int×Int)):Option ((Int×Int) ⊕ Int):=
 bif decide (x1.2<a2) then
 ((pR a0 a1).bind λv6=>
 bif !decide (a0=0) then
 (some (.inl ((wr (x1.1*v6)).tmod a0,wr (x1.2+1))))
 else none)
 else
 (some (.inr x1.1))
def rD (a0:Int) (a1:Int) (a2:Int):Option Int:=
 (mD a0).bind λv1=>
 bif !v1 then
 (some (0))
 else
 ((qN a2 0 1000).bind λv3=>
 bif !v3 then
 (some (0))
 else
 ((Lp (nC a0 a1 a2) (1,0)).bind λy8=>
 some (y8)))
theorem aEd (a0:Int) (a1:Int) (a2:Int) (r:Int) (h:rD a0 a1 a2=some r):HasC Tryz.prog 159 [.int a0,.int a1,.int a2] (.int r):=by
 refine hM [.tmp 6] Tryz.func159 Tryz.ntmps159 k<|sR<|aT k2<|sQ<|sR<|am k k<|oB h λv1 hv1 h=>ae (aY (sX a0 v1 hv1) k (dX k aV)) k<|ae (fM k) k<|am k k<|tQ h (λq2 h=>bA 11 k q2<|aK k4<|ak k k<|pk k3<|an<|tn<|gT k k<|sR<|aT k2<|aG<|aE<|yU h k2) λq2 h=>?_;refine bA 11 k q2<|am k k<|oB h λv3 hv3 h=>ae (aY (yG a2 0 1000 v3 hv3) k (dX k (dX k (dX k aV)))) k<|ae (fM k) k<|pk k3<|an<|tn<|dJ k h (λ_ h=>sR<|aT k2<|aG<|aE<|yU h k2) λ_ h=>?_;refine aD<|tn<|sR<|aT k2<|sQ<|sR<|am k k<|am k k<|an<|tn<|aC<|oB h λy8 hy8 h=>bW (body:=(nC a0 a1 a2)) hy8 (λ(x1:(Int×Int))=>mN [(0,.int a0),(1,.int a1),(7,.int x1.1),(16,.int a2),(17,.int x1.2)] [] 0) (λr e t=>e= .exit 0∧Ent t (mN [(7,.int r)] [] 0)) (bK (bH k2) aR k4) ?_ ?_
 ·intro x1 o h;exact sR<|cm k4<|an<|tn<|sQ<|dJ k h (λ_ h=>aD<|tn<|sQ<|aC<|rg<|am k k<|am k k<|am k k<|oB h λv6 hv6 h=>ae (aY (aDe a0 a1 v6 hv6) k (dX k (dX k aV))) k<|ae (fG k k) k<|am k k<|cG h λq7 h=>ae (aEF k k q7) k<|aa k k<|an<|aS<|tn<|rg<|ae (bC k k) k<|am k k<|an<|tn<|sp h ⟨_,k,(bK (bH k2) aR k4)⟩) λ_ h=>aX<|aA<|aA<|sp h ⟨_,k,k,(bK (bH k2) aR k4)⟩
 ·rintro e t ⟨rfl,hent⟩;exact aJ<|tn<|aM hent<|sR<|am k k<|aT k2<|aG<|yU h k2
def pA (a0:Int) (a1:Int):Option Int:=
 (mD a0).bind λv1=>
 bif !v1 then
 (some (0))
 else
 ((rD a0 a1 (max (wr (a0 - 2)) 1)).bind λv3=>
 some (v3))
theorem aCm (a0:Int) (a1:Int) (r:Int) (h:pA a0 a1=some r):HasC Tryz.prog 151 [.int a0,.int a1] (.int r):=by
 exact hM [.tmp 4] Tryz.func151 Tryz.ntmps151 k<|sR<|aT k2<|sQ<|sR<|am k k<|oB h λv1 hv1 h=>ae (aY (sX a0 v1 hv1) k (dX k aV)) k<|ae (fM k) k<|an<|tn<|dJ k h (λ_ h=>sR<|aT k2<|aG<|aE<|yU h k2) λ_ h=>aD<|tn<|sR<|am k k<|am k k<|am k k<|ae (hJ k k) k<|ae (aSN k k) k<|oB h λv3 hv3 h=>ae (aY (aEd a0 a1 (max (wr (a0 - 2)) 1) v3 hv3) k (dX k (dX k (dX k aV)))) k<|aT k2<|aG<|yU h k2
def iN (a1:(List Int)) (x1:(Int×Int)):Option ((Int×Int) ⊕ (Int ⊕ Bool)):=
 bif decide (x1.2<(a1.length:Int)) then
 ((cE a1 x1.2).bind λv5=>
 (jL v5 0 4).bind λv6=>
 bif !v6 then
 (some (.inr (.inr (false))))
 else
 ((cE a1 x1.2).bind λv8=>
 some (.inl (wr (x1.1+v8),wr (x1.2+1)))))
 else
 (some (.inr (.inl x1.1)))
def pL (a0:Qv) (a1:(List Int)):Option Bool:=
 (gP a0).bind λv1=>
 bif !v1 then
 (some (false))
 else
 (bif !decide ((a1.length:Int)=a0.n) then
 (some (false))
 else
 ((Lp (iN a1) (0,0)).bind λy9=>
 Sum.elim (λy10=>
 some (decide (y10≤8))
 )
 (λy11=>
 some y11
 )
 y9))
theorem aBD (a0:Qv) (a1:(List Int)) (r:Bool) (h:pL a0 a1=some r):HasC Tryz.prog 62 [.agg (eQ a0),.list 1 (a1.map eI)] (.bl r):=by
 refine hM [.tmp 4] Tryz.func62 Tryz.ntmps62 k<|sR<|ae (wb k) k<|aT k2<|sQ<|sR<|lp k8<|oB h λv1 hv1 h=>ae (aY (qZ a0 v1 hv1) k (bB (qH k) aV)) k<|ae (fM k) k<|am k k<|tQ h (λq2 h=>bA 10 k q2<|aK k4<|aK k4<|ak k k<|pk k3<|an<|tn<|gT k k<|sR<|aT k2<|aG<|aE<|kI h k2) λq2 h=>?_;refine bA 10 k q2<|am k k<|ln k4<|fp k8<|lp k8<|cm k4<|pk k3<|an<|tn<|dJ k h (λ_ h=>sR<|aT k2<|aG<|aE<|kI h k2) λ_ h=>?_;refine aD<|tn<|sR<|aT k2<|sQ<|sR<|aT k2<|aC<|oB h λy9 hy9 h=>bW (body:=(iN a1)) hy9 (λ(x1:(Int×Int))=>mN [(1,.list 1 (a1.map eI)),(5,.int x1.1),(6,.int x1.2)] [] 0) (λr e t=>Sum.elim (λa=>(λr e t=>e= .exit 0∧Ent t (mN [(5,.int r)] [] 0)) a e t) (λb=>(λr e t=>e= .ret∧rY TT [.tmp 4] (.bl r) .ret t) b e t) r) (bK (bH k2) aR k4) ?_ ?_
 ·intro x1 o h;exact sQ<|sR<|am k k<|am k k<|ln k4<|cm k4<|an<|tn<|dJ k h (λ_ h=>aD<|tn<|sQ<|aC<|sQ<|sR<|am k k<|am k k<|oB h λv5 hv5 h=>ae (xl hv5 k) k<|lr k7<|oB h λv6 hv6 h=>ae (aY (mM v5 0 4 v6 hv6) k (dX k (dX k (dX k aV)))) k<|ae (fM k) k<|an<|tn<|dJ k h (λ_ h=>sR<|aT k2<|aG<|aE<|bG<|aE<|aE<|sp h ⟨_,k,k,bN k k k (vB k)⟩) λ_ h=>aD<|tn<|rg<|am k k<|am k k<|am k k<|oB h λv8 hv8 h=>ae (xl hv8 k) k<|lr k7<|ae (bC k k) k<|aa k k<|an<|aS<|tn<|rg<|am k k<|ae (bC k k) k<|aT k2<|sp h ⟨_,k,(bK (bH k2) aR k4)⟩) λ_ h=>aX<|aA<|aA<|sp h ⟨_,k,k,(bK (bH k2) aR k4)⟩
 ·intro e t hX;rcases y9 with y10|y11
  ·obtain ⟨rfl,hent⟩:=hX;exact aJ<|tn<|aM hent<|sR<|am k k<|cm k4<|aT k2<|aG<|kI h k2
  ·obtain ⟨rfl,hent⟩:=hX;exact bG<|aE<|sp h hent
def rE (a0:Rp) (x1:Int):Option (Int ⊕ (Unit ⊕ Bool)):=
 bif decide (x1<(a0.maps.length:Int)) then
 ((cE a0.maps x1).bind λv7=>
 (rB a0.p v7).bind λv8=>
 bif !v8 then
 (some (.inr (.inr (false))))
 else
 ((cE a0.maps x1).bind λv10=>
 (cE a0.q.src x1).bind λv11=>
 (cE a0.dims v11).bind λv12=>
 bif !decide (v10.cols=v12) then
 (some (.inr (.inr (false))))
 else
 ((cE a0.maps x1).bind λv14=>
 (cE a0.q.tgt x1).bind λv15=>
 (cE a0.dims v15).bind λv16=>
 bif !decide (v14.rows=v16) then
 (some (.inr (.inr (false))))
 else
 (some (.inl (wr (x1+1)))))))
 else
 (some (.inr (.inl ())))
def sY (a0:Rp):Option Bool:=
 (jT a0.p).bind λv1=>
 bif !v1 then
 (some (false))
 else
 ((pL a0.q a0.dims).bind λv3=>
 bif !v3 then
 (some (false))
 else
 (bif !decide ((a0.maps.length:Int)=(a0.q.src.length:Int)) then
 (some (false))
 else
 ((Lp (rE a0) 0).bind λy18=>
 Sum.elim (λy19=>
 some (true)
 )
 (λy20=>
 some y20
 )
 y18)))
theorem aCn (a0:Rp) (r:Bool) (h:sY a0=some r):HasC Tryz.prog 45 [.agg (eR a0)] (.bl r):=by
 refine hM [.tmp 2] Tryz.func45 Tryz.ntmps45 k<|sR<|ae (wb k) k<|aT k2<|sQ<|sR<|fp k8<|lp k8<|oB h λv1 hv1 h=>ae (aY (pK a0.p v1 hv1) k (dX k aV)) k<|ae (fM k) k<|am k k<|tQ h (λq2 h=>bA 8 k q2<|aK k4<|aK k4<|aK k4<|pk k3<|am k k<|aK k4<|aK k4<|aK k4<|aK k4<|pk k3<|an<|tn<|aM (t:=mN [(1,.ptr 0 0 0),(25,.bl true)] [(0,⟨6,[eR a0]⟩)] 1) (bK (bH k2) (bP k<|aR) k4)<|gT k k<|sR<|aT k2<|aG<|aE<|kI h k2) λq2 h=>?_;refine bA 8 k q2<|fp k8<|lp k8<|fp k8<|lp k8<|oB h λv3 hv3 h=>ae (aY (aBD a0.q a0.dims v3 hv3) k (bB (qH k) (dX k aV))) k<|ae (fM k) k<|pk k3<|am k k<|tQ h (λq4 h=>bA 16 k q4<|aK k4<|aK k4<|aK k4<|aK k4<|pk k3<|an<|tn<|aM (t:=mN [(1,.ptr 0 0 0),(25,.bl true)] [(0,⟨6,[eR a0]⟩)] 1) (bK (bH k2) (bP k<|aR) k4)<|gT k k<|sR<|aT k2<|aG<|aE<|kI h k2) λq4 h=>?_;refine bA 16 k q4<|fp k8<|lp k8<|ln k4<|fp k8<|fp k8<|lp k8<|ln k4<|cm k4<|pk k3<|an<|tn<|aM (t:=mN [(1,.ptr 0 0 0),(25,.bl (!decide ((a0.maps.length:Int)=(a0.q.src.length:Int))))] [(0,⟨6,[eR a0]⟩)] 1) (bK (bH k2) (bP k<|aR) k4)<|dJ k h (λ_ h=>sR<|aT k2<|aG<|aE<|kI h k2) λ_ h=>?_;refine aD<|tn<|sQ<|sR<|aT k2<|aC<|oB h λy18 hy18 h=>bW (body:=(rE a0)) hy18 (λ(x1:Int)=>mN [(1,.ptr 0 0 0),(3,.int x1)] [(0,⟨6,[eR a0]⟩)] 1) (λr e t=>Sum.elim (λa=>(λr e t=>e= .exit 0∧Ent t (mN [] [] 0)) a e t) (λb=>(λr e t=>e= .ret∧rY TT [.tmp 2] (.bl r) .ret t) b e t) r) (bK (bH k2) (bP k<|aR) k4) ?_ ?_
 ·intro x1 o h;refine sQ<|sR<|am k k<|fp k8<|lp k8<|ln k4<|cm k4<|an<|tn<|dJ k h (λ_ h=>?_) λ_ h=>aX<|aA<|aA<|sp h ⟨_,k,k,(bK aR aR k4)⟩;refine aD<|tn<|sQ<|aC<|sQ<|aN gV<|fp k8<|lp k8<|fp k8<|lp k8<|am k k<|oB h λv7 hv7 h=>ae (xl hv7 k) k<|lr k7<|oB h λv8 hv8 h=>ae (aY (aEb a0.p v7 v8 hv8) k (dX k (bB (qH k) aV))) k<|ae (fM k) k<|am k k<|tQ h (λq9 h=>?_) λq9 h=>?_
  ·refine bA 42 k q9<|aK k4<|aK k4<|aK k4<|aK k4<|aK k4<|aK k4<|aK k4<|aK k4<|ak k k<|pk k3<|am k k<|aK k4<|aK k4<|aK k4<|aK k4<|aK k4 ?_;exact aK k4<|aK k4<|aK k4<|ak k k<|pk k3<|an<|sG (by kernel_rfl)<|tn<|aM (t:=mN [(1,.ptr 0 0 0),(3,.int x1),(79,.bl true)] [(0,⟨6,[eR a0]⟩)] 1) (bK (bH k2) (bP k<|aR) k4)<|gT k k<|sR<|aT k2<|aG<|bG<|aE<|aE<|sp h ⟨_,k,k,bN k k k (vB k)⟩
  ·refine bA 42 k q9<|fp k8<|lp k8<|am k k<|oB h λv10 hv10 h=>ae (xl hv10 k) k<|ae (eO aH k k k k k k) k<|lr k7<|fp k8<|lp k8<|fp k8<|fp k8<|lp k8<|am k k<|oB h λv11 hv11 h=>ae (xl hv11 k) k<|lr k7<|oB h λv12 hv12 h=>ae (xl hv12 k) k<|lr k7<|cm k4<|pk k3<|am k k<|tQ h (λq13 h=>?_) λq13 h=>bA 61 k q13<|fp k8<|lp k8<|am k k<|oB h λv14 hv14 h=>ae (xl hv14 k) k<|ae (eO aH k k k k k k) k<|lr k7<|fp k8<|lp k8<|fp k8<|fp k8<|lp k8<|am k k<|oB h λv15 hv15 h=>ae (xl hv15 k) k<|lr k7<|oB h λv16 hv16 h=>ae (xl hv16 k) k<|lr k7<|cm k4<|pk k3<|an<|sG (by kernel_rfl)<|tn<|aM (t:=mN [(1,.ptr 0 0 0),(3,.int x1),(79,.bl (!decide (v14.rows=v16)))] [(0,⟨6,[eR a0]⟩)] 1) (bK (bH k2) (bP k<|aR) k4)<|dJ k h (λ_ h=>sR<|aT k2<|aG<|bG<|aE<|aE<|sp h ⟨_,k,k,bN k k k (vB k)⟩) λ_ h=>aD<|aS<|tn<|rg<|am k k<|ae (bC k k) k<|aT k2<|sp h ⟨_,k,(bK (bH k2) (bP k<|aR) k4)⟩;refine bA 61 k q13<|aK k4<|aK k4<|aK k4<|aK k4<|aK k4<|aK k4<|aK k4<|aK k4<|ak k k<|pk k3<|an<|sG (by kernel_rfl)<|tn<|aM (t:=mN [(1,.ptr 0 0 0),(3,.int x1),(79,.bl true)] [(0,⟨6,[eR a0]⟩)] 1) (bK (bH k2) (bP k<|aR) k4)<|gT k k<|sR<|aT k2<|aG ?_;exact bG<|aE<|aE<|sp h ⟨_,k,k,bN k k k (vB k)⟩
 ·intro e t hX;rcases y18 with y19|y20
  ·obtain ⟨rfl,hent⟩:=hX;exact aJ<|tn<|aM hent<|sR<|aT k2<|aG<|kI h k2
  ·obtain ⟨rfl,hent⟩:=hX;exact bG<|aE<|sp h hent
def lG (a0:Qv) (a1:Qv):Option Bool:=
 bif decide (a0.n=a1.n) then
 ((qO a0.src a1.src).bind λv2=>
 bif v2 then
 ((qO a0.tgt a1.tgt).bind λv4=>
 some (v4))
 else
 (some (false)))
 else
 (some (false))
theorem aBi (a0:Qv) (a1:Qv) (r:Bool) (h:lG a0 a1=some r):HasC Tryz.prog 112 [.agg (eQ a0),.agg (eQ a1)] (.bl r):=by
 exact hM [.tmp 4] Tryz.func112 Tryz.ntmps112 k<|sR<|ae (wb k) k<|ae (wb k) k<|aT k2<|sR<|fp k8<|lp k8<|fp k8<|lp k8<|cm k4<|am k k<|tQ h (λq1 h=>bA 10 k q1<|fp k8<|lp k8<|fp k8<|lp k8<|oB h λv2 hv2 h=>ae (aY (yH a0.src a1.src v2 hv2) k (dX k (dX k aV))) k<|pk k3<|am k k<|tQ h (λq3 h=>bA 17 k q3<|fp k8<|lp k8<|fp k8<|lp k8<|oB h λv4 hv4 h=>ae (aY (yH a0.tgt a1.tgt v4 hv4) k (dX k (dX k aV))) k<|pk k3<|aT k2<|aG<|kI h k2) λq3 h=>bA 17 k q3<|aK k4<|aK k4<|ak k k<|pk k3<|aT k2<|aG<|kI h k2) λq1 h=>bA 10 k q1<|aK k4<|aK k4<|ak k k<|pk k3<|am k k<|aK k4<|aK k4<|ak k k<|pk k3<|aT k2<|aG<|kI h k2
def wI (a0:Rp) (a1:Rp):Option Bool:=
 (sY a0).bind λv1=>
 bif v1 then
 ((sY a1).bind λv3=>
 bif v3 then
 (bif decide (a0.p=a1.p) then
 ((lG a0.q a1.q).bind λv6=>
 some (v6))
 else
 (some (false)))
 else
 (some (false)))
 else
 (some (false))
theorem aIh (a0:Rp) (a1:Rp) (r:Bool) (h:wI a0 a1=some r):HasC Tryz.prog 77 [.agg (eR a0),.agg (eR a1)] (.bl r):=by
 exact hM [.tmp 4] Tryz.func77 Tryz.ntmps77 k<|sR<|ae (wb k) k<|ae (wb k) k<|aT k2<|sR<|lp k8<|oB h λv1 hv1 h=>ae (aY (aCn a0 v1 hv1) k (bB (qH k) aV)) k<|am k k<|tQ h (λq2 h=>bA 7 k q2<|lp k8<|oB h λv3 hv3 h=>ae (aY (aCn a1 v3 hv3) k (bB (qH k) aV)) k<|pk k3<|am k k<|tQ h (λq4 h=>bA 11 k q4<|fp k8<|lp k8<|fp k8<|lp k8<|cm k4<|pk k3<|am k k<|tQ h (λq5 h=>bA 18 k q5<|fp k8<|lp k8<|fp k8<|lp k8<|oB h λv6 hv6 h=>ae (aY (aBi a0.q a1.q v6 hv6) k (bB (qH k) (bB (qH k) aV))) k<|pk k3<|aT k2<|aG<|kI h k2) λq5 h=>bA 18 k q5<|aK k4<|aK k4<|ak k k<|pk k3<|aT k2<|aG<|kI h k2) λq4 h=>bA 11 k q4<|aK k4<|aK k4<|ak k k<|pk k3<|am k k<|aK k4<|aK k4<|ak k k<|pk k3<|aT k2<|aG<|kI h k2) λq2 h=>bA 7 k q2<|aK k4<|pk k3<|am k k<|aK k4<|aK k4<|ak k k<|pk k3<|am k k<|aK k4<|aK k4<|ak k k<|pk k3<|aT k2<|aG<|kI h k2
end
noncomputable section
set_option maxRecDepth 10000
set_option maxHeartbeats 4000000
def fH (a0:(List Int)) (a1:(Int→Option Bool)) (x1:Int):Option (Int ⊕ (Unit ⊕ Int)):=
 bif decide (x1<(a0.length:Int)) then
 ((cE a0 x1).bind λv2=>
 (a1 v2).bind λv3=>
 bif v3 then
 (some (.inr (.inr (x1))))
 else
 (some (.inl (wr (x1+1)))))
 else
 (some (.inr (.inl ())))
def gC (a0:(List Int)) (a1:(Int→Option Bool)):Option Int:=
 (Lp (fH a0 a1) 0).bind λy5=>
 Sum.elim (λy6=>
 some ((-1))
 )
 (λy7=>
 some y7
 )
 y5
theorem wJ (a0:(List Int)) (a1:(Int→Option Bool)) {f1:FuncId} {c1:List AV} (hc1:c1.all eC=true) (hf1: ∀ b0 r,a1 b0=some r→HasC Tryz.prog f1 ([.int b0]++c1) (.bl r)) (r:Int) (h:gC a0 a1=some r):HasC Tryz.prog 113 [.list 1 (a0.map eI),.fn f1 c1] (.int r):=by
 refine aAJ aH (rvs:=[.tmp 4]) (ns:=nmA) Tryz.func113 k k Tryz.ntmps113 k k (aBa k (aBa hc1 aLR))<|sR<|aT k2<|sQ<|sR<|am k k<|ln k4<|am k k<|an<|tn<|aC<|oB h λy5 hy5 h=>bW (body:=(fH a0 a1)) hy5 (λ(x1:Int)=>mN [(0,.list 1 (a0.map eI)),(1,.fn f1 c1),(7,.int (a0.length:Int)),(8,.int x1)] [] 0) (λr e t=>Sum.elim (λa=>(λr e t=>e= .exit 0∧Ent t (mN [] [] 0)) a e t) (λb=>(λr e t=>e= .ret∧rY TT [.tmp 4] (.int r) .ret t) b e t) r) (bK (mA 1 k2 (jP ⟨_,k,⟨k,aBW _ hc1⟩⟩ (bH k2))) aR k4) ?_ ?_
 ·intro x1 o h;exact sR<|cm k4<|an<|tn<|sQ<|dJ k h (λ_ h=>aD<|tn<|sQ<|aC<|sR<|am k k<|aT k2<|sR<|am k k<|am k k<|am k k<|oB h λv2 hv2 h=>ae (xl hv2 k) k<|lr k7<|oB h λv3 hv3 h=>ae (aIa hc1 (hf1 v2 v3 hv3) k k (dX k aV)) k<|an<|tn<|dJ k h (λ_ h=>sR<|am k k<|aT k2<|aG<|bG<|aE<|aE<|sp h ⟨_,k,k,bN k k k (qG k)⟩) λ_ h=>aD<|aS<|tn<|rg<|ae (bC k k) k<|am k k<|an<|tn<|sp h ⟨_,k,(bK (mA 1 k2 (jP ⟨_,k,⟨k,aBW _ hc1⟩⟩ (bH k2))) aR k4)⟩) λ_ h=>aX<|aA<|aA<|sp h ⟨_,k,k,(bK aR aR k4)⟩
 ·intro e t hX;rcases y5 with y6|y7
  ·obtain ⟨rfl,hent⟩:=hX;exact aJ<|tn<|aM hent<|sR<|aT k2<|aG<|yU h k2
  ·obtain ⟨rfl,hent⟩:=hX;exact bG<|aE<|sp h hent
def gY (a0:(List Int)) (a1:(Int→Option Bool)):Option Bool:=
 (gC a0 a1).bind λv1=>
 some (decide (0≤v1))
theorem uH (a0:(List Int)) (a1:(Int→Option Bool)) {f1:FuncId} {c1:List AV} (hc1:c1.all eC=true) (hf1: ∀ b0 r,a1 b0=some r→HasC Tryz.prog f1 ([.int b0]++c1) (.bl r)) (r:Bool) (h:gY a0 a1=some r):HasC Tryz.prog 79 [.list 1 (a0.map eI),.fn f1 c1] (.bl r):=by
 exact aAJ aH (rvs:=[.tmp 4]) (ns:=nmA) Tryz.func79 k k Tryz.ntmps79 k k (aBa k (aBa hc1 aLR))<|sR<|aT k2<|sR<|am k k<|am k k<|oB h λv1 hv1 h=>ae (aY (wJ a0 a1 hc1 hf1 v1 hv1) k (dX k (bB (aRQ hc1) aV))) k<|cm k4<|aT k2<|aG<|kI h k2
def eX (a0:(List (List Int))) (a1:((List Int)→Option Bool)) (x1:Int):Option (Int ⊕ (Unit ⊕ Int)):=
 bif decide (x1<(a0.length:Int)) then
 ((cE a0 x1).bind λv2=>
 (a1 v2).bind λv3=>
 bif v3 then
 (some (.inr (.inr (x1))))
 else
 (some (.inl (wr (x1+1)))))
 else
 (some (.inr (.inl ())))
def fN (a0:(List (List Int))) (a1:((List Int)→Option Bool)):Option Int:=
 (Lp (eX a0 a1) 0).bind λy5=>
 Sum.elim (λy6=>
 some ((-1))
 )
 (λy7=>
 some y7
 )
 y5
theorem vG (a0:(List (List Int))) (a1:((List Int)→Option Bool)) {f1:FuncId} {c1:List AV} (hc1:c1.all eC=true) (hf1: ∀ b0 r,a1 b0=some r→HasC Tryz.prog f1 ([.list 1 (b0.map eI)]++c1) (.bl r)) (r:Int) (h:fN a0 a1=some r):HasC Tryz.prog 128 [.list 1 (a0.map (cV 1 eI)),.fn f1 c1] (.int r):=by
 refine aAJ aH (rvs:=[.tmp 4]) (ns:=nmA) Tryz.func128 k k Tryz.ntmps128 k k (aBa k (aBa hc1 aLR))<|sR<|aT k2<|sQ<|sR<|am k k<|ln k4<|am k k<|an<|tn<|aC<|oB h λy5 hy5 h=>bW (body:=(eX a0 a1)) hy5 (λ(x1:Int)=>mN [(0,.list 1 (a0.map (cV 1 eI))),(1,.fn f1 c1),(7,.int (a0.length:Int)),(8,.int x1)] [] 0) (λr e t=>Sum.elim (λa=>(λr e t=>e= .exit 0∧Ent t (mN [] [] 0)) a e t) (λb=>(λr e t=>e= .ret∧rY TT [.tmp 4] (.int r) .ret t) b e t) r) (bK (mA 1 k2 (jP ⟨_,k,⟨k,aBW _ hc1⟩⟩ (bH k2))) aR k4) ?_ ?_
 ·intro x1 o h;exact sR<|cm k4<|an<|tn<|sQ<|dJ k h (λ_ h=>aD<|tn<|sQ<|aC<|sR<|am k k<|aT k2<|sR<|am k k<|am k k<|am k k<|oB h λv2 hv2 h=>ae (xl hv2 k) k<|lr k7<|oB h λv3 hv3 h=>ae (aIa hc1 (hf1 v2 v3 hv3) k k (dX k aV)) k<|an<|tn<|dJ k h (λ_ h=>sR<|am k k<|aT k2<|aG<|bG<|aE<|aE<|sp h ⟨_,k,k,bN k k k (qG k)⟩) λ_ h=>aD<|aS<|tn<|rg<|ae (bC k k) k<|am k k<|an<|tn<|sp h ⟨_,k,(bK (mA 1 k2 (jP ⟨_,k,⟨k,aBW _ hc1⟩⟩ (bH k2))) aR k4)⟩) λ_ h=>aX<|aA<|aA<|sp h ⟨_,k,k,(bK aR aR k4)⟩
 ·intro e t hX;rcases y5 with y6|y7
  ·obtain ⟨rfl,hent⟩:=hX;exact aJ<|tn<|aM hent<|sR<|aT k2<|aG<|yU h k2
  ·obtain ⟨rfl,hent⟩:=hX;exact bG<|aE<|sp h hent
def jX (a0:Int) (a1:Int) (a2:Int):Option Bool:=
 (qN a0 a1 a2).bind λv1=>
 some (!v1)
theorem aCG (a0:Int) (a1:Int) (a2:Int) (r:Bool) (h:jX a0 a1 a2=some r):HasC Tryz.prog 80 [.int a0,.ref (eI a1),.ref (eI a2)] (.bl r):=by
 exact hM [.tmp 4] Tryz.func80 Tryz.ntmps80 k<|sR<|aT k2<|sR<|am k k<|lr k7<|lr k7<|oB h λv1 hv1 h=>ae (aY (yG a0 a1 a2 v1 hv1) k (dX k (dX k (dX k aV)))) k<|ae (fM k) k<|aT k2<|aG<|kI h k2
def jO (a0:(List Int)) (a1:Int) (a2:Int):Option Bool:=
 (gY a0 (λb0=>jX b0 a1 a2)).bind λv1=>
 some (!v1)
theorem uI (a0:(List Int)) (a1:Int) (a2:Int) (r:Bool) (h:jO a0 a1 a2=some r):HasC Tryz.prog 39 [.list 1 (a0.map eI),.int a1,.int a2] (.bl r):=by
 exact hM [.tmp 6] Tryz.func39 Tryz.ntmps39 k<|sR<|ae (wb k) k<|ae (wb k) k<|aT k2<|sR<|am k k<|ae (aCS (vs:=[.ptr 0 0 0,.ptr 1 0 0]) k (by simp)) k<|oB h λv1 hv1 h=>ae (aY (uH a0 (λb0=>jX b0 a1 a2) k (λb0 r h=>aCG b0 a1 a2 r h) v1 hv1) k (dX k (bB (aQq (aIZ (aLK k k (mT (wG k) aDT)) (aIZ (aLK k k (mT (wG k) aDT)) aMJ))) aV))) k<|ae (fM k) k<|aT k2<|aG<|kI h k2
def nU (a0:Qv):Option Bool:=
 (qN a0.n 1 5).bind λv1=>
 bif v1 then
 (bif decide ((a0.src.length:Int)=(a0.tgt.length:Int)) then
 (bif decide ((a0.src.length:Int)≤6) then
 ((jO a0.src 0 (wr (a0.n - 1))).bind λv5=>
 bif v5 then
 ((jO a0.tgt 0 (wr (a0.n - 1))).bind λv7=>
 some (v7))
 else
 (some (false)))
 else
 (some (false)))
 else
 (some (false)))
 else
 (some (false))
theorem aAe (a0:Qv) (r:Bool) (h:nU a0=some r):HasC Tryz.prog 100 [.agg (eQ a0)] (.bl r):=by
 refine hM [.tmp 2] Tryz.func100 Tryz.ntmps100 k<|sR<|ae (wb k) k<|aT k2<|sR<|fp k8<|lp k8<|oB h λv1 hv1 h=>ae (aY (yG a0.n 1 5 v1 hv1) k (dX k (dX k (dX k aV)))) k<|am k k<|tQ h (λq2 h=>bA 6 k q2<|fp k8<|lp k8<|ln k4<|fp k8<|lp k8<|ln k4<|cm k4<|pk k3<|am k k<|tQ h (λq3 h=>bA 15 k q3<|fp k8<|lp k8<|ln k4<|cm k4<|pk k3<|am k k<|tQ h (λq4 h=>bA 21 k q4<|fp k8<|lp k8<|fp k8<|lp k8<|ae (hJ k k) k<|oB h λv5 hv5 h=>ae (aY (uI a0.src 0 (wr (a0.n - 1)) v5 hv5) k (dX k (dX k (dX k aV)))) k<|pk k3<|am k k<|tQ h (λq6 h=>bA 29 k q6<|fp k8<|lp k8<|fp k8<|lp k8<|ae (hJ k k) k<|oB h λv7 hv7 h=>ae (aY (uI a0.tgt 0 (wr (a0.n - 1)) v7 hv7) k (dX k (dX k (dX k aV)))) k<|pk k3<|aT k2<|aG<|kI h k2) λq6 h=>bA 29 k q6<|aK k4<|aK k4<|aK k4<|pk k3<|aT k2<|aG<|kI h k2) λq4 h=>bA 21 k q4<|aK k4<|aK k4<|aK k4<|pk k3<|am k k<|aK k4<|aK k4<|aK k4<|pk k3<|aT k2<|aG<|kI h k2) λq3 h=>bA 15 k q3<|aK k4<|aK k4<|pk k3<|am k k<|aK k4<|aK k4<|aK k4<|pk k3<|am k k<|aK k4<|aK k4<|aK k4<|pk k3<|aT k2<|aG<|kI h k2) λq2 h=>?_;refine bA 6 k q2<|aK k4<|aK k4<|aK k4<|ak k k<|pk k3<|am k k<|aK k4<|aK k4<|pk k3<|am k k<|aK k4<|aK k4<|aK k4<|pk k3<|am k k<|aK k4<|aK k4<|aK k4 ?_;exact pk k3<|aT k2<|aG<|kI h k2
def sZ (a0:Qv) (a1:(List Int)):Option Bool:=
 (nU a0).bind λv1=>
 bif v1 then
 (bif decide ((a1.length:Int)=a0.n) then
 ((jO a1 0 4).bind λv4=>
 bif v4 then
 ((pQ a1).bind λv6=>
 some (decide (v6≤8)))
 else
 (some (false)))
 else
 (some (false)))
 else
 (some (false))
theorem aFn (a0:Qv) (a1:(List Int)) (r:Bool) (h:sZ a0 a1=some r):HasC Tryz.prog 68 [.agg (eQ a0),.list 1 (a1.map eI)] (.bl r):=by
 exact hM [.tmp 4] Tryz.func68 Tryz.ntmps68 k<|sR<|ae (wb k) k<|aT k2<|sR<|lp k8<|oB h λv1 hv1 h=>ae (aY (aAe a0 v1 hv1) k (bB (qH k) aV)) k<|am k k<|tQ h (λq2 h=>bA 7 k q2<|am k k<|ln k4<|fp k8<|lp k8<|cm k4<|pk k3<|am k k<|tQ h (λq3 h=>bA 14 k q3<|am k k<|oB h λv4 hv4 h=>ae (aY (uI a1 0 4 v4 hv4) k (dX k (dX k (dX k aV)))) k<|pk k3<|am k k<|tQ h (λq5 h=>bA 18 k q5<|am k k<|oB h λv6 hv6 h=>ae (aY (aAP a1 v6 hv6) k (dX k aV)) k<|cm k4<|pk k3<|aT k2<|aG<|kI h k2) λq5 h=>bA 18 k q5<|aK k4<|ak k k<|pk k3<|aT k2<|aG<|kI h k2) λq3 h=>bA 14 k q3<|aK k4<|pk k3<|am k k<|aK k4<|ak k k<|pk k3<|aT k2<|aG<|kI h k2) λq2 h=>bA 7 k q2<|aK k4<|aK k4<|ak k k<|pk k3<|am k k<|aK k4<|pk k3<|am k k<|aK k4<|ak k k<|pk k3<|aT k2<|aG<|kI h k2
def iX (a0:Mt):Option Mt:=
 (pP a0.cells).bind λv1=>
 some ((⟨a0.rows,a0.cols,v1⟩:Mt))
theorem vZ (a0:Mt) (r:Mt) (h:iX a0=some r):HasC Tryz.prog 149 [.agg (eM a0)] (.agg (eM r)):=by
 exact hM [.cell 2 80] Tryz.func149 Tryz.ntmps149 k<|sR<|ae (wb k) k<|ae (dB aH k k) k<|an<|tn<|sR<|fp k8<|lp k8<|oB h λv1 hv1 h=>ae (cL dD (aBY a0.cells v1 hv1) k3 (dX k aV)) k<|fp k8<|ae (ws k) k<|an<|tn<|sR<|lp k8<|ae (ws k) k<|an<|tn<|aG<|sp h (bN k k k (sT (aU (k) (aU (k) (aU (gU dD k k) gX)))))
def rF (a0:Int) (a2:Mt) (v1:Mt) (v3:(List Int)) (x1:((List Int)×Int)) (x2:((List Int)×Int)):Option (((List Int)×Int) ⊕ (List Int)):=
 bif decide (x2.2<(v3.length:Int)) then
 ((cE v3 x2.2).bind λv5=>
 (eB (⟨v1.rows,v1.cols,x2.1⟩:Mt) x1.2).bind λv6=>
 (aFc a2 x2.2).bind λv7=>
 (jU a0 x2.1 (0+(wr (x1.2*v1.cols)).toNat) ((wr ((wr (x1.2+1))*v1.cols)).toNat - (wr (x1.2*v1.cols)).toNat) v5 v7).bind λv8=>
 bif decide (v8.length=x2.1.length) then
 (some (.inl (v8,wr (x2.2+1))))
 else none)
 else
 (some (.inr x2.1))
def rG (a0:Int) (a1:Mt) (a2:Mt) (v1:Mt) (x1:((List Int)×Int)):Option (((List Int)×Int) ⊕ (List Int)):=
 bif decide (x1.2<a1.rows) then
 ((aFc a1 x1.2).bind λv3=>
 (Lp (rF a0 a2 v1 v3 x1) (x1.1,0)).bind λy10=>
 some (.inl (y10,wr (x1.2+1))))
 else
 (some (.inr x1.1))
def tA (a0:Int) (a1:Mt) (a2:Mt):Option Mt:=
 (mO a1.rows a2.cols).bind λv1=>
 (Lp (rG a0 a1 a2 v1) (v1.cells,0)).bind λy11=>
 some ((⟨v1.rows,v1.cols,y11⟩:Mt))
theorem aCo (a0:Int) (a1:Mt) (a2:Mt) (r:Mt) (h:tA a0 a1 a2=some r):HasC Tryz.prog 147 [.int a0,.agg (eM a1),.agg (eM a2)] (.agg (eM r)):=by
 refine hM [.cell 6 80] Tryz.func147 Tryz.ntmps147 k<|sR<|ae (wb k) k<|ae (wb k) k<|ae (dB aH k k) k<|an<|tn<|sR<|fp k8<|lp k8<|fp k8<|lp k8<|oB h λv1 hv1 h=>ae (cM (vF a1.rows a2.cols v1 hv1) k3 (dX k (dX k aV))) k<|ae (dB aH k k) k<|ae (ws k) k<|an<|tn<|sQ<|sR<|fp k8<|lp k8<|am k k<|an<|tn<|aC<|oB h λy11 hy11 h=>bW (body:=(rG a0 a1 a2 v1)) hy11 (λ(x1:((List Int)×Int))=>mN [(0,.int a0),(4,.ptr 0 0 0),(5,.ptr 1 0 0),(6,.ptr 2 0 0),(7,.ptr 3 0 0),(17,.int a1.rows),(18,.int x1.2)] [(0,⟨3,[eM a1]⟩),(1,⟨3,[eM a2]⟩),(2,⟨3,[iJ]⟩),(3,⟨3,[[.int v1.rows,.int v1.cols,.own 4 0 x1.1.length]]⟩),(4,⟨1,x1.1.map (ow eI)⟩)] 5) (λr e t=>e= .exit 0∧Ent t (mN [(6,.ptr 0 0 0),(7,.ptr 1 0 0)] [(0,⟨3,[iJ]⟩),(1,⟨3,[[.int v1.rows,.int v1.cols,.own 2 0 r.length]]⟩),(2,⟨1,r.map (ow eI)⟩)] 3)) (sW [0,1,2,4,3] (bH k2) (bP k<|bP k<|bP k<|gA k<|bS k<|aR) k4) ?_ ?_
 ·intro x1 o h;refine sR<|cm k4<|an<|tn<|sQ<|dJ k h (λ_ h=>?_) λ_ h=>aX<|aA<|aA<|sp h ⟨_,k,k,(sW [2,3,4] (bH k2) (bP k<|gA k<|bS k<|aR) k4)⟩;refine aD<|tn<|sQ<|aC<|sR<|am k k<|aT k2<|sR<|lp k8<|am k k<|oB h λv3 hv3 h=>ae (aJv (aOU a1 x1.2 v3 hv3) k k k) k<|ln k4<|am k k<|an<|tn<|aC<|oB h λy10 hy10 h=>bW (body:=(rF a0 a2 v1 v3 x1)) hy10 (λ(x2:((List Int)×Int))=>mN [(0,.int a0),(4,.ptr 0 0 0),(5,.ptr 1 0 0),(6,.ptr 2 0 0),(7,.ptr 3 0 0),(8,.int x1.2),(17,.int a1.rows),(18,.int x1.2),(23,.list 1 (v3.map eI)),(24,.int (v3.length:Int)),(25,.int x2.2)] [(0,⟨3,[eM a1]⟩),(1,⟨3,[eM a2]⟩),(2,⟨3,[iJ]⟩),(3,⟨3,[[.int v1.rows,.int v1.cols,.own 4 0 x2.1.length]]⟩),(4,⟨1,x2.1.map (ow eI)⟩)] 5) (λr e t=>e= .exit 2∧Ent t (mN [(0,.int a0),(4,.ptr 0 0 0),(5,.ptr 1 0 0),(6,.ptr 2 0 0),(7,.ptr 3 0 0),(17,.int a1.rows),(18,.int x1.2)] [(0,⟨3,[eM a1]⟩),(1,⟨3,[eM a2]⟩),(2,⟨3,[iJ]⟩),(3,⟨3,[[.int v1.rows,.int v1.cols,.own 4 0 r.length]]⟩),(4,⟨1,r.map (ow eI)⟩)] 5)) (bK (bH k2) (bP k<|bP k<|bP k<|gA k<|bS k<|aR) k4) ?_ ?_
  ·intro x2 o h;refine sR<|cm k4<|an<|tn<|sQ<|dJ k h (λ_ h=>?_) λ_ h=>aX<|aA<|aA<|sp h ⟨_,k,k,(bK (bH k2) (bP k<|bP k<|bP k<|gA k<|bS k<|aR) k4)⟩;refine aD<|tn<|sQ<|aC<|sR<|am k k<|oB h λv5 hv5 h=>ae (xl hv5 k) k<|lr k7<|aa k k<|aT k2<|aN gV<|am k k<|lp k8<|am k k<|oB h λv6 hv6 h=>ae (AEff.pureE (iG (σ:=sg [(0,4)]) (σ':=sg [(4,0)]) (touch:=[4]) (news:=[]) (hl2:=[(4,⟨1,x2.1.map (ow eI)⟩)]) (n':=5) (r2:= .own 4 (0+(wr (x1.2*v1.cols)).toNat) ((wr ((wr (x1.2+1))*v1.cols)).toNat - (wr (x1.2*v1.cols)).toNat)) (gG (⟨v1.rows,v1.cols,x2.1⟩:Mt) x1.2 v6 hv6) k k ⟨_,_,k,⟨_,_,k,k,⟨_,_,k,k,⟨_,_,k,⟨k,k,k,k⟩,k⟩⟩⟩,⟨_,_,k,k,k⟩⟩ ⟨⟨_,k,k,.inl ⟨k,dD.plainO _⟩⟩,k,aR⟩ k k k ⟨⟨_,k,k,.inl ⟨k,dD.plainO _⟩⟩,k,aR⟩ k ⟨k,k,(by simp only [aL,lA,lT,lR,lC,lN]),k⟩ k ⟨k,dD.tame _ _,aR⟩ k k) ⟨k,k,aR⟩) k<|am k k<|lp k8<|am k k<|oB h λv7 hv7 h=>ae (aJv (aOU a2 x2.2 v7 hv7) k k k) k<|oB h λv8 hv8 h=>ae (iG (σ:=sg [(0,4)]) (σ':=sg [(4,0)]) (touch:=[4]) (news:=[]) (hl2:=[(4,⟨1,v8.map (ow eI)⟩)]) (n':=5) (r2:= .own 4 (0+(wr (x1.2*v1.cols)).toNat) ((wr ((wr (x1.2+1))*v1.cols)).toNat - (wr (x1.2*v1.cols)).toNat)) (wY a0 x2.1 (0+(wr (x1.2*v1.cols)).toNat) ((wr ((wr (x1.2+1))*v1.cols)).toNat - (wr (x1.2*v1.cols)).toNat) v5 v7 v8 hv8) k k ⟨_,_,k,k,⟨_,_,k,⟨k,k,k,k⟩,⟨_,_,k,k,⟨_,_,k,⟨k,k⟩,k⟩⟩⟩⟩ ⟨⟨_,k,k,.inl ⟨k,dD.plainO _⟩⟩,k,aR⟩ k k k ⟨⟨_,k,k,.inl ⟨k,dD.plainO _⟩⟩,k,aR⟩ k ⟨k,k,(by simp only [aL,lA,lT,lR,lC,lN]),k⟩ k ⟨k,dD.tame _ _,aR⟩ k k) k<|cG h λq9 h=>an<|sG (by kernel_rfl)<|aS<|tn<|rg<|ae (bC k k) k ?_;exact am k k<|an<|tn<|sp h ⟨_,k,(bK (bH k2) (bP k<|bP k<|bP k<|hX ⟨_,k,k,.inr ⟨_,_,k,⟨_,_,k,k,⟨_,_,k,k,⟨_,_,k,⟨k,k,(by simp only [aL,lA,lT,lR,lC,lN,of_decide_eq_true q9]),k⟩,k⟩⟩⟩,k⟩⟩ k<|bS k<|aR) k4)⟩
  ·rintro e t ⟨rfl,hent⟩;exact aJ<|aS<|tn<|aM hent<|rg<|ae (bC k k) k<|am k k<|an<|tn<|sp h ⟨_,k,(bK (bH k2) (bP k<|bP k<|bP k<|gA k<|bS k<|aR) k4)⟩
 ·rintro e t ⟨rfl,hent⟩;exact aJ<|tn<|aM hent<|sR<|lp k8<|ae (ws k) k<|an<|tn<|aG<|sp h (bN k k k (sT (aU (k) (aU (k) (aU (gU dD k k) gX)))))
def mF (v1:Mt) (x1:(Int×(List Int)×(List Int))) (x2:Int):Option (Int ⊕ Int):=
 bif decide (x2<v1.rows) then
 ((eB (⟨v1.rows,v1.cols,x1.2.1⟩:Mt) x2).bind λv4=>
 bif (decide (0≤x1.1)&&decide (x1.1<((((wr ((wr (x2+1))*v1.cols)).toNat - (wr (x2*v1.cols)).toNat):Nat):Int))) then
 ((x1.2.1[((0+(wr (x2*v1.cols)).toNat)+x1.1.toNat)]?).bind λv5=>
 bif decide (v5=0) then
 (some (.inl (wr (x2+1))))
 else
 (some (.inr x2))
 )
 else none)
 else
 (some (.inr x2))
def pS (v1:Mt) (x1:(Int×(List Int)×(List Int))) (y8:Int) (x3:((List Int)×Int)):Option (((List Int)×Int) ⊕ (List Int)):=
 bif decide (x3.2<v1.cols) then
 ((eB (⟨v1.rows,v1.cols,x3.1⟩:Mt) y8).bind λv12=>
 (eB (⟨v1.rows,v1.cols,x3.1⟩:Mt) y8).bind λv13=>
 bif (decide (0≤x3.2)&&decide (x3.2<((((wr ((wr (y8+1))*v1.cols)).toNat - (wr (y8*v1.cols)).toNat):Nat):Int))) then
 ((x3.1[((0+(wr (y8*v1.cols)).toNat)+x3.2.toNat)]?).bind λv14=>
 bif (decide (0≤x3.2)&&decide (x3.2<((((wr ((wr (((x1.2.2.length:Nat):Int)+1))*v1.cols)).toNat - (wr (((x1.2.2.length:Nat):Int)*v1.cols)).toNat):Nat):Int))) then
 ((x3.1[((0+(wr (((x1.2.2.length:Nat):Int)*v1.cols)).toNat)+x3.2.toNat)]?).bind λv16=>
 bif (decide (0≤x3.2)&&decide (x3.2<((((wr ((wr (((x1.2.2.length:Nat):Int)+1))*v1.cols)).toNat - (wr (((x1.2.2.length:Nat):Int)*v1.cols)).toNat):Nat):Int))) then
 ((x3.1[((0+(wr (((x1.2.2.length:Nat):Int)*v1.cols)).toNat)+x3.2.toNat)]?).bind λv18=>
 bif (decide (0≤x3.2)&&decide (x3.2<((((wr ((wr (y8+1))*v1.cols)).toNat - (wr (y8*v1.cols)).toNat):Nat):Int))) then
 (((x3.1.set ((0+(wr (((x1.2.2.length:Nat):Int)*v1.cols)).toNat)+x3.2.toNat) v14)[((0+(wr (y8*v1.cols)).toNat)+x3.2.toNat)]?).bind λv20=>
 some (.inl (((x3.1.set ((0+(wr (((x1.2.2.length:Nat):Int)*v1.cols)).toNat)+x3.2.toNat) v14).set ((0+(wr (y8*v1.cols)).toNat)+x3.2.toNat) v16),wr (x3.2+1)))
 )
 else none
 )
 else none
 )
 else none
 )
 else none)
 else
 (some (.inr x3.1))
def pT (a0:Int) (v1:Mt) (v25:Int) (x1:(Int×(List Int)×(List Int))) (x4:((List Int)×Int)):Option (((List Int)×Int) ⊕ (List Int)):=
 bif decide (x4.2<((((wr ((wr (((x1.2.2.length:Nat):Int)+1))*v1.cols)).toNat - (wr (((x1.2.2.length:Nat):Int)*v1.cols)).toNat):Nat):Int)) then
 (bif (decide (0≤x4.2)&&decide (x4.2<((((wr ((wr (((x1.2.2.length:Nat):Int)+1))*v1.cols)).toNat - (wr (((x1.2.2.length:Nat):Int)*v1.cols)).toNat):Nat):Int))) then
 ((x4.1[((0+(wr (((x1.2.2.length:Nat):Int)*v1.cols)).toNat)+x4.2.toNat)]?).bind λv27=>
 bif !decide (a0=0) then
 (bif (decide (0≤x4.2)&&decide (x4.2<((((wr ((wr (((x1.2.2.length:Nat):Int)+1))*v1.cols)).toNat - (wr (((x1.2.2.length:Nat):Int)*v1.cols)).toNat):Nat):Int))) then
 ((x4.1[((0+(wr (((x1.2.2.length:Nat):Int)*v1.cols)).toNat)+x4.2.toNat)]?).bind λv29=>
 some (.inl ((x4.1.set ((0+(wr (((x1.2.2.length:Nat):Int)*v1.cols)).toNat)+x4.2.toNat) ((wr (v27*v25)).tmod a0)),wr (x4.2+1)))
 )
 else none)
 else none
 )
 else none)
 else
 (some (.inr x4.1))
def pU (a0:Int) (v1:Mt) (x1:(Int×(List Int)×(List Int))) (x5:((List Int)×Int)):Option (((List Int)×Int) ⊕ (List Int)):=
 bif decide (x5.2<v1.rows) then
 (bif !decide (x5.2=((x1.2.2.length:Nat):Int)) then
 ((eB (⟨v1.rows,v1.cols,x5.1⟩:Mt) x5.2).bind λv35=>
 (eB (⟨v1.rows,v1.cols,x5.1⟩:Mt) x5.2).bind λv36=>
 bif (decide (0≤x1.1)&&decide (x1.1<((((wr ((wr (x5.2+1))*v1.cols)).toNat - (wr (x5.2*v1.cols)).toNat):Nat):Int))) then
 ((x5.1[((0+(wr (x5.2*v1.cols)).toNat)+x1.1.toNat)]?).bind λv37=>
 (iM a0 x5.1 (0+(wr (x5.2*v1.cols)).toNat) ((wr ((wr (x5.2+1))*v1.cols)).toNat - (wr (x5.2*v1.cols)).toNat) (wr (a0 - v37)) (0+(wr (((x1.2.2.length:Nat):Int)*v1.cols)).toNat) ((wr ((wr (((x1.2.2.length:Nat):Int)+1))*v1.cols)).toNat - (wr (((x1.2.2.length:Nat):Int)*v1.cols)).toNat)).bind λv39=>
 bif decide (v39.length=x5.1.length) then
 (some (.inl (v39,wr (x5.2+1))))
 else none
 )
 else none)
 else
 (some (.inl (x5.1,wr (x5.2+1)))))
 else
 (some (.inr x5.1))
def mG (a0:Int) (v1:Mt) (x1:(Int×(List Int)×(List Int))):Option ((Int×(List Int)×(List Int)) ⊕ ((List Int)×(List Int))):=
 bif decide (x1.1<v1.cols) then
 ((Lp (mF v1 x1) ((x1.2.2.length:Nat):Int)).bind λy8=>
 bif decide (y8=v1.rows) then
 (some (.inl (wr (x1.1+1),x1.2.1,x1.2.2)))
 else
 ((eB (⟨v1.rows,v1.cols,x1.2.1⟩:Mt) ((x1.2.2.length:Nat):Int)).bind λv10=>
 (Lp (pS v1 x1 y8) (x1.2.1,0)).bind λy22=>
 bif (decide (0≤x1.1)&&decide (x1.1<((((wr ((wr (((x1.2.2.length:Nat):Int)+1))*v1.cols)).toNat - (wr (((x1.2.2.length:Nat):Int)*v1.cols)).toNat):Nat):Int))) then
 ((y22[((0+(wr (((x1.2.2.length:Nat):Int)*v1.cols)).toNat)+x1.1.toNat)]?).bind λv23=>
 (pA a0 v23).bind λv25=>
 (Lp (pT a0 v1 v25 x1) (y22,0)).bind λy32=>
 (Lp (pU a0 v1 x1) (y32,0)).bind λy41=>
 bif decide (x1.2.2.length+[x1.1].length ≤4294967296) then
 (some (.inl (wr (x1.1+1),y41,(x1.2.2++[x1.1]))))
 else none
 )
 else none))
 else
 (some (.inr (x1.2.1,x1.2.2)))
def uT (a0:Int) (a1:Mt):Option (Mt×(List Int)):=
 (iX a1).bind λv1=>
 (Lp (mG a0 v1) (0,v1.cells,[])).bind λy43=>
 some (((⟨v1.rows,v1.cols,y43.1⟩:Mt),y43.2))
theorem aGw (a0:Int) (a1:Mt) (r:(Mt×(List Int))) (h:uT a0 a1=some r):HasC Tryz.prog 134 [.int a0,.agg (eM a1)] (.tuple [.agg (eM r.1),.list 1 (r.2.map eI)]):=by
 refine hM [.cell 4 80,.tmp 5] Tryz.func134 Tryz.ntmps134 k<|sR<|ae (wb k) k<|ae (dB aH k k) k<|aT k2<|sR<|lp k8<|oB h λv1 hv1 h=>ae (cM (vZ a1 v1 hv1) k3 (bB (qH k) aV)) k<|ae (ws k) k<|an<|tn<|sR<|aT k2<|sQ<|sR<|fp k8<|lp k8<|am k k<|an<|tn<|aC<|oB h λy43 hy43 h=>bW (body:=(mG a0 v1)) hy43 (λ(x1:(Int×(List Int)×(List Int)))=>mN [(0,.int a0),(3,.ptr 0 0 0),(4,.ptr 2 0 0),(6,.own 3 0 x1.2.2.length),(17,.int v1.cols),(18,.int x1.1)] [(0,⟨3,[[.int v1.rows,.int v1.cols,.own 1 0 x1.2.1.length]]⟩),(1,⟨1,x1.2.1.map (ow eI)⟩),(2,⟨3,[iJ]⟩),(3,⟨1,x1.2.2.map (ow eI)⟩)] 4) (λr e t=>e= .exit 0∧Ent t (mN [(3,.ptr 0 0 0),(4,.ptr 2 0 0),(6,.own 3 0 r.2.length)] [(0,⟨3,[[.int v1.rows,.int v1.cols,.own 1 0 r.1.length]]⟩),(1,⟨1,r.1.map (ow eI)⟩),(2,⟨3,[iJ]⟩),(3,⟨1,r.2.map (ow eI)⟩)] 4)) (eU (σ:=sg [(0,0),(1,2),(2,1)]) (mA 3 k2 (jP ⟨_,k,⟨k,k,k,k⟩⟩ (bH k2))) (gA k<|bS k<|bP k<|hX k k<|aR) k) ?_ ?_
 ·intro x1 o h;refine sR<|cm k4<|an<|tn<|sQ<|dJ k h (λ_ h=>?_) λ_ h=>aX<|aA<|aA<|sp h ⟨_,k,k,(bK (bH k2) (gA k<|bS k<|bP k<|bS k<|aR) k4)⟩;refine aD<|tn<|sQ<|aC<|sR<|am k k<|aT k2<|sR<|am k k<|ae (cW aH k k k k) k<|aT k2<|sQ<|aC<|oB h λy8 hy8 h=>bW (body:=(mF v1 x1)) hy8 (λ(x2:Int)=>mN [(0,.int a0),(3,.ptr 0 0 0),(4,.ptr 2 0 0),(6,.own 3 0 x1.2.2.length),(7,.int x1.1),(8,.int x2),(17,.int v1.cols),(18,.int x1.1)] [(0,⟨3,[[.int v1.rows,.int v1.cols,.own 1 0 x1.2.1.length]]⟩),(1,⟨1,x1.2.1.map (ow eI)⟩),(2,⟨3,[iJ]⟩),(3,⟨1,x1.2.2.map (ow eI)⟩)] 4) (λr e t=>e= .exit 2∧Ent t (mN [(0,.int a0),(3,.ptr 0 0 0),(4,.ptr 2 0 0),(6,.own 3 0 x1.2.2.length),(7,.int x1.1),(8,.int r),(17,.int v1.cols),(18,.int x1.1)] [(0,⟨3,[[.int v1.rows,.int v1.cols,.own 1 0 x1.2.1.length]]⟩),(1,⟨1,x1.2.1.map (ow eI)⟩),(2,⟨3,[iJ]⟩),(3,⟨1,x1.2.2.map (ow eI)⟩)] 4)) (bK (bH k2) (gA k<|bS k<|bP k<|bS k<|aR) k4) ?_ ?_
  ·intro x2 o h;exact sQ<|sR<|am k k<|fp k8<|lp k8<|cm k4<|am k k<|tQ h (λq3 h=>bA 27 k q3<|lp k8<|am k k<|oB h λv4 hv4 h=>ae (AEff.pureE (iG (σ:=sg [(0,1)]) (σ':=sg [(1,0)]) (touch:=[1]) (news:=[]) (hl2:=[(1,⟨1,x1.2.1.map (ow eI)⟩)]) (n':=4) (r2:= .own 1 (0+(wr (x2*v1.cols)).toNat) ((wr ((wr (x2+1))*v1.cols)).toNat - (wr (x2*v1.cols)).toNat)) (gG (⟨v1.rows,v1.cols,x1.2.1⟩:Mt) x2 v4 hv4) k k ⟨_,_,k,⟨_,_,k,k,⟨_,_,k,k,⟨_,_,k,⟨k,k,k,k⟩,k⟩⟩⟩,⟨_,_,k,k,k⟩⟩ ⟨⟨_,k,k,.inl ⟨k,dD.plainO _⟩⟩,k,aR⟩ k k k ⟨⟨_,k,k,.inl ⟨k,dD.plainO _⟩⟩,k,aR⟩ k ⟨k,k,(by simp only [aL,lA,lT,lR,lC,lN]),k⟩ k ⟨k,dD.tame _ _,aR⟩ k k) ⟨k,k,aR⟩) k<|am k k<|cG h λq6 h=>oB h λv5 hv5 h=>ae (iL aH q6 k k k k k k k) k<|ae (cK aH k k k k (wV (hv5)) k k) k<|cm k4<|pk k3<|an<|tn<|dJ k h (λ_ h=>aD<|tn<|aC<|rg<|am k k<|ae (bC k k) k<|aa k k<|an<|aS<|tn<|sp h ⟨_,k,(bK (bH k2) (gA k<|bS k<|bP k<|bS k<|aR) k4)⟩) λ_ h=>aX<|aA<|aA<|sp h ⟨_,k,k,(bK (bH k2) (gA k<|bS k<|bP k<|bS k<|aR) k4)⟩) λq3 h=>bA 27 k q3<|aK k4<|aK k4<|aK k4<|ak k k<|pk k3<|an<|tn<|lS k k<|aX<|aA<|aA<|sp h ⟨_,k,k,(bK (bH k2) (gA k<|bS k<|bP k<|bS k<|aR) k4)⟩
  ·rintro e t ⟨rfl,hent⟩;refine aJ<|tn<|aM hent<|sQ<|sR<|am k k<|fp k8<|lp k8<|cm k4<|an<|tn<|dJ k h (λ_ h=>aX<|aA<|aJ<|tn<|rg<|ae (bC k k) k<|am k k<|an<|tn<|sp h ⟨_,k,(bK (bH k2) (gA k<|bS k<|bP k<|bS k<|aR) k4)⟩) λ_ h=>?_;refine aD<|tn<|sR<|lp k8<|am k k<|ae (cW aH k k k k) k<|oB h λv10 hv10 h=>ae (AEff.pureE (iG (σ:=sg [(0,1)]) (σ':=sg [(1,0)]) (touch:=[1]) (news:=[]) (hl2:=[(1,⟨1,x1.2.1.map (ow eI)⟩)]) (n':=4) (r2:= .own 1 (0+(wr (((x1.2.2.length:Nat):Int)*v1.cols)).toNat) ((wr ((wr (((x1.2.2.length:Nat):Int)+1))*v1.cols)).toNat - (wr (((x1.2.2.length:Nat):Int)*v1.cols)).toNat)) (gG (⟨v1.rows,v1.cols,x1.2.1⟩:Mt) ((x1.2.2.length:Nat):Int) v10 hv10) k k ⟨_,_,k,⟨_,_,k,k,⟨_,_,k,k,⟨_,_,k,⟨k,k,k,k⟩,k⟩⟩⟩,⟨_,_,k,k,k⟩⟩ ⟨⟨_,k,k,.inl ⟨k,dD.plainO _⟩⟩,k,aR⟩ k k k ⟨⟨_,k,k,.inl ⟨k,dD.plainO _⟩⟩,k,aR⟩ k ⟨k,k,(by simp only [aL,lA,lT,lR,lC,lN]),k⟩ k ⟨k,dD.tame _ _,aR⟩ k k) ⟨k,k,aR⟩) k<|aT k2<|sQ<|sR<|fp k8<|lp k8<|am k k<|an<|tn<|aC<|oB h λy22 hy22 h=>bW (body:=(pS v1 x1 y8)) hy22 (λ(x3:((List Int)×Int))=>mN [(0,.int a0),(3,.ptr 0 0 0),(4,.ptr 2 0 0),(6,.own 3 0 x1.2.2.length),(7,.int x1.1),(8,.int y8),(9,.own 1 (0+(wr (((x1.2.2.length:Nat):Int)*v1.cols)).toNat) ((wr ((wr (((x1.2.2.length:Nat):Int)+1))*v1.cols)).toNat - (wr (((x1.2.2.length:Nat):Int)*v1.cols)).toNat)),(17,.int v1.cols),(18,.int x1.1),(47,.int v1.cols),(48,.int x3.2)] [(0,⟨3,[[.int v1.rows,.int v1.cols,.own 1 0 x3.1.length]]⟩),(1,⟨1,x3.1.map (ow eI)⟩),(2,⟨3,[iJ]⟩),(3,⟨1,x1.2.2.map (ow eI)⟩)] 4) (λr e t=>e= .exit 4∧Ent t (mN [(0,.int a0),(3,.ptr 0 0 0),(4,.ptr 2 0 0),(6,.own 3 0 x1.2.2.length),(7,.int x1.1),(9,.own 1 (0+(wr (((x1.2.2.length:Nat):Int)*v1.cols)).toNat) ((wr ((wr (((x1.2.2.length:Nat):Int)+1))*v1.cols)).toNat - (wr (((x1.2.2.length:Nat):Int)*v1.cols)).toNat)),(17,.int v1.cols),(18,.int x1.1)] [(0,⟨3,[[.int v1.rows,.int v1.cols,.own 1 0 r.length]]⟩),(1,⟨1,r.map (ow eI)⟩),(2,⟨3,[iJ]⟩),(3,⟨1,x1.2.2.map (ow eI)⟩)] 4)) (bK (bH k2) (gA k<|bS k<|bP k<|bS k<|aR) k4) ?_ ?_
   ·intro x3 o h;refine sR<|cm k4<|an<|tn<|sQ<|dJ k h (λ_ h=>?_) λ_ h=>aX<|aA<|aA<|sp h ⟨_,k,k,(bK (bH k2) (gA k<|bS k<|bP k<|bS k<|aR) k4)⟩;refine aD<|tn<|sQ<|aC<|sR<|am k k<|aT k2<|aN gV<|am k k<|am k k<|lp k8<|am k k<|oB h λv12 hv12 h=>ae (AEff.pureE (iG (σ:=sg [(0,1)]) (σ':=sg [(1,0)]) (touch:=[1]) (news:=[]) (hl2:=[(1,⟨1,x3.1.map (ow eI)⟩)]) (n':=4) (r2:= .own 1 (0+(wr (y8*v1.cols)).toNat) ((wr ((wr (y8+1))*v1.cols)).toNat - (wr (y8*v1.cols)).toNat)) (gG (⟨v1.rows,v1.cols,x3.1⟩:Mt) y8 v12 hv12) k k ⟨_,_,k,⟨_,_,k,k,⟨_,_,k,k,⟨_,_,k,⟨k,k,k,k⟩,k⟩⟩⟩,⟨_,_,k,k,k⟩⟩ ⟨⟨_,k,k,.inl ⟨k,dD.plainO _⟩⟩,k,aR⟩ k k k ⟨⟨_,k,k,.inl ⟨k,dD.plainO _⟩⟩,k,aR⟩ k ⟨k,k,(by simp only [aL,lA,lT,lR,lC,lN]),k⟩ k ⟨k,dD.tame _ _,aR⟩ k k) ⟨k,k,aR⟩) k<|am k k<|lp k8<|am k k<|oB h λv13 hv13 h=>ae (AEff.pureE (iG (σ:=sg [(0,1)]) (σ':=sg [(1,0)]) (touch:=[1]) (news:=[]) (hl2:=[(1,⟨1,x3.1.map (ow eI)⟩)]) (n':=4) (r2:= .own 1 (0+(wr (y8*v1.cols)).toNat) ((wr ((wr (y8+1))*v1.cols)).toNat - (wr (y8*v1.cols)).toNat)) (gG (⟨v1.rows,v1.cols,x3.1⟩:Mt) y8 v13 hv13) k k ⟨_,_,k,⟨_,_,k,k,⟨_,_,k,k,⟨_,_,k,⟨k,k,k,k⟩,k⟩⟩⟩,⟨_,_,k,k,k⟩⟩ ⟨⟨_,k,k,.inl ⟨k,dD.plainO _⟩⟩,k,aR⟩ k k k ⟨⟨_,k,k,.inl ⟨k,dD.plainO _⟩⟩,k,aR⟩ k ⟨k,k,(by simp only [aL,lA,lT,lR,lC,lN]),k⟩ k ⟨k,dD.tame _ _,aR⟩ k k) ⟨k,k,aR⟩) k<|am k k<|cG h λq15 h=>oB h λv14 hv14 h=>ae (iL aH q15 k k k k k k k) k<|ae (cK aH k k k k (wV (hv14)) k k) k<|am k k<|am k k<|cG h λq17 h=>oB h λv16 hv16 h=>ae (iL aH q17 k k k k k k k) k<|ae (cK aH k k k k (wV (hv16)) k k) k<|cG h λq19 h=>oB h λv18 hv18 h=>ae (iL aH q19 k k k k k k k) k<|ae (eJ aH kL (u:=v14) (hv18) k k k k k k) k ?_;exact cG h λq21 h=>oB h λv20 hv20 h=>ae (iL aH q21 k k k k k k k) k<|ae (eJ aH kL (u:=v16) (hv20) k k k k k k) k<|an<|sG (by kernel_rfl)<|aS<|tn<|rg<|ae (bC k k) k<|am k k<|an<|tn<|sp h ⟨_,k,(bK (bH k2) (hX ⟨_,k,k,.inr ⟨_,_,k,⟨_,_,k,k,⟨_,_,k,k,⟨_,_,k,⟨k,k,(by simp only [aL,lA,lT,lR,lC,lN]),k⟩,k⟩⟩⟩,k⟩⟩ k<|bS k<|bP k<|bS k<|aR) k4)⟩
   ·rintro e t ⟨rfl,hent⟩;refine aJ<|tn<|aM hent<|sR<|am k k<|am k k<|am k k<|cG h λq24 h=>oB h λv23 hv23 h=>ae (iL aH q24 k k k k k k k) k<|ae (cK aH k k k k (wV (hv23)) k k) k<|oB h λv25 hv25 h=>ae (aY (aCm a0 v23 v25 hv25) k (dX k (dX k aV))) k<|aT k2<|sQ<|sR<|am k k<|ae (cW aH k k k k) k<|am k k<|an<|tn<|aC<|oB h λy32 hy32 h=>bW (body:=(pT a0 v1 v25 x1)) hy32 (λ(x4:((List Int)×Int))=>mN [(0,.int a0),(3,.ptr 0 0 0),(4,.ptr 2 0 0),(6,.own 3 0 x1.2.2.length),(7,.int x1.1),(9,.own 1 (0+(wr (((x1.2.2.length:Nat):Int)*v1.cols)).toNat) ((wr ((wr (((x1.2.2.length:Nat):Int)+1))*v1.cols)).toNat - (wr (((x1.2.2.length:Nat):Int)*v1.cols)).toNat)),(11,.int v25),(17,.int v1.cols),(18,.int x1.1),(77,.int ((((wr ((wr (((x1.2.2.length:Nat):Int)+1))*v1.cols)).toNat - (wr (((x1.2.2.length:Nat):Int)*v1.cols)).toNat):Nat):Int)),(78,.int x4.2)] [(0,⟨3,[[.int v1.rows,.int v1.cols,.own 1 0 x4.1.length]]⟩),(1,⟨1,x4.1.map (ow eI)⟩),(2,⟨3,[iJ]⟩),(3,⟨1,x1.2.2.map (ow eI)⟩)] 4) (λr e t=>e= .exit 6∧Ent t (mN [(0,.int a0),(3,.ptr 0 0 0),(4,.ptr 2 0 0),(6,.own 3 0 x1.2.2.length),(7,.int x1.1),(9,.own 1 (0+(wr (((x1.2.2.length:Nat):Int)*v1.cols)).toNat) ((wr ((wr (((x1.2.2.length:Nat):Int)+1))*v1.cols)).toNat - (wr (((x1.2.2.length:Nat):Int)*v1.cols)).toNat)),(17,.int v1.cols),(18,.int x1.1)] [(0,⟨3,[[.int v1.rows,.int v1.cols,.own 1 0 r.length]]⟩),(1,⟨1,r.map (ow eI)⟩),(2,⟨3,[iJ]⟩),(3,⟨1,x1.2.2.map (ow eI)⟩)] 4)) (bK (bH k2) (gA k<|bS k<|bP k<|bS k<|aR) k4) ?_ ?_
    ·intro x4 o h;refine sR<|cm k4<|an<|tn<|sQ<|dJ k h (λ_ h=>?_) λ_ h=>aX<|aA<|aA<|sp h ⟨_,k,k,(bK (bH k2) (gA k<|bS k<|bP k<|bS k<|aR) k4)⟩;refine aD<|tn<|sQ<|aC<|sR<|am k k<|aT k2<|rg<|am k k<|am k k<|am k k<|am k k<|cG h λq28 h=>oB h λv27 hv27 h=>ae (iL aH q28 k k k k k k k) k<|ae (cK aH k k k k (wV (hv27)) k k) k<|am k k<|ae (fG k k) k<|am k k<|cG h λq31 h=>ae (aEF k k q31) k<|cG h λq30 h=>oB h λv29 hv29 h=>ae (iL aH q30 k k k k k k k) k<|ae (eJ aH kL (u:=(wr (v27*v25)).tmod a0) (hv29) k k k k k k) k<|an<|aS<|tn<|rg<|ae (bC k k) k<|am k k ?_;exact an<|tn<|sp h ⟨_,k,(bK (bH k2) (hX ⟨_,k,k,.inr ⟨_,_,k,⟨_,_,k,k,⟨_,_,k,k,⟨_,_,k,⟨k,k,(by simp only [aL,lA,lT,lR,lC,lN]),k⟩,k⟩⟩⟩,k⟩⟩ k<|bS k<|bP k<|bS k<|aR) k4)⟩
    ·rintro e t ⟨rfl,hent⟩;refine aJ<|tn<|aM hent<|sQ<|sR<|fp k8<|lp k8<|am k k<|an<|tn<|aC<|oB h λy41 hy41 h=>bW (body:=(pU a0 v1 x1)) hy41 (λ(x5:((List Int)×Int))=>mN [(0,.int a0),(3,.ptr 0 0 0),(4,.ptr 2 0 0),(6,.own 3 0 x1.2.2.length),(7,.int x1.1),(9,.own 1 (0+(wr (((x1.2.2.length:Nat):Int)*v1.cols)).toNat) ((wr ((wr (((x1.2.2.length:Nat):Int)+1))*v1.cols)).toNat - (wr (((x1.2.2.length:Nat):Int)*v1.cols)).toNat)),(17,.int v1.cols),(18,.int x1.1),(94,.int v1.rows),(95,.int x5.2)] [(0,⟨3,[[.int v1.rows,.int v1.cols,.own 1 0 x5.1.length]]⟩),(1,⟨1,x5.1.map (ow eI)⟩),(2,⟨3,[iJ]⟩),(3,⟨1,x1.2.2.map (ow eI)⟩)] 4) (λr e t=>e= .exit 8∧Ent t (mN [(0,.int a0),(3,.ptr 0 0 0),(4,.ptr 2 0 0),(6,.own 3 0 x1.2.2.length),(7,.int x1.1),(17,.int v1.cols),(18,.int x1.1)] [(0,⟨3,[[.int v1.rows,.int v1.cols,.own 1 0 r.length]]⟩),(1,⟨1,r.map (ow eI)⟩),(2,⟨3,[iJ]⟩),(3,⟨1,x1.2.2.map (ow eI)⟩)] 4)) (bK (bH k2) (gA k<|bS k<|bP k<|bS k<|aR) k4) ?_ ?_
     ·intro x5 o h;refine sR<|cm k4<|an<|tn<|sQ<|dJ k h (λ_ h=>?_) λ_ h=>aX<|aA<|aA<|sp h ⟨_,k,k,(bK (bH k2) (gA k<|bS k<|bP k<|bS k<|aR) k4)⟩;refine aD<|tn<|sQ<|aC<|sR<|am k k<|aT k2<|sR<|am k k<|am k k<|ae (cW aH k k k k) k<|cm k4<|an<|tn<|dJ k h (λ_ h=>?_) λ_ h=>aD<|aS<|tn<|rg<|ae (bC k k) k<|am k k<|an<|tn<|sp h ⟨_,k,(bK (bH k2) (gA k<|bS k<|bP k<|bS k<|aR) k4)⟩;exact aN gV<|am k k<|lp k8<|am k k<|oB h λv35 hv35 h=>ae (AEff.pureE (iG (σ:=sg [(0,1)]) (σ':=sg [(1,0)]) (touch:=[1]) (news:=[]) (hl2:=[(1,⟨1,x5.1.map (ow eI)⟩)]) (n':=4) (r2:= .own 1 (0+(wr (x5.2*v1.cols)).toNat) ((wr ((wr (x5.2+1))*v1.cols)).toNat - (wr (x5.2*v1.cols)).toNat)) (gG (⟨v1.rows,v1.cols,x5.1⟩:Mt) x5.2 v35 hv35) k k ⟨_,_,k,⟨_,_,k,k,⟨_,_,k,k,⟨_,_,k,⟨k,k,k,k⟩,k⟩⟩⟩,⟨_,_,k,k,k⟩⟩ ⟨⟨_,k,k,.inl ⟨k,dD.plainO _⟩⟩,k,aR⟩ k k k ⟨⟨_,k,k,.inl ⟨k,dD.plainO _⟩⟩,k,aR⟩ k ⟨k,k,(by simp only [aL,lA,lT,lR,lC,lN]),k⟩ k ⟨k,dD.tame _ _,aR⟩ k k) ⟨k,k,aR⟩) k<|am k k<|lp k8<|am k k<|oB h λv36 hv36 h=>ae (AEff.pureE (iG (σ:=sg [(0,1)]) (σ':=sg [(1,0)]) (touch:=[1]) (news:=[]) (hl2:=[(1,⟨1,x5.1.map (ow eI)⟩)]) (n':=4) (r2:= .own 1 (0+(wr (x5.2*v1.cols)).toNat) ((wr ((wr (x5.2+1))*v1.cols)).toNat - (wr (x5.2*v1.cols)).toNat)) (gG (⟨v1.rows,v1.cols,x5.1⟩:Mt) x5.2 v36 hv36) k k ⟨_,_,k,⟨_,_,k,k,⟨_,_,k,k,⟨_,_,k,⟨k,k,k,k⟩,k⟩⟩⟩,⟨_,_,k,k,k⟩⟩ ⟨⟨_,k,k,.inl ⟨k,dD.plainO _⟩⟩,k,aR⟩ k k k ⟨⟨_,k,k,.inl ⟨k,dD.plainO _⟩⟩,k,aR⟩ k ⟨k,k,(by simp only [aL,lA,lT,lR,lC,lN]),k⟩ k ⟨k,dD.tame _ _,aR⟩ k k) ⟨k,k,aR⟩) k<|am k k<|cG h λq38 h=>oB h λv37 hv37 h=>ae (iL aH q38 k k k k k k k) k<|ae (cK aH k k k k (wV (hv37)) k k) k<|ae (hJ k k) k<|am k k<|oB h λv39 hv39 h=>ae (iG (σ:=sg [(0,1)]) (σ':=sg [(1,0)]) (touch:=[1]) (news:=[]) (hl2:=[(1,⟨1,v39.map (ow eI)⟩)]) (n':=4) (r2:= .own 1 (0+(wr (x5.2*v1.cols)).toNat) ((wr ((wr (x5.2+1))*v1.cols)).toNat - (wr (x5.2*v1.cols)).toNat)) (zN a0 x5.1 (0+(wr (x5.2*v1.cols)).toNat) ((wr ((wr (x5.2+1))*v1.cols)).toNat - (wr (x5.2*v1.cols)).toNat) (wr (a0 - v37)) (0+(wr (((x1.2.2.length:Nat):Int)*v1.cols)).toNat) ((wr ((wr (((x1.2.2.length:Nat):Int)+1))*v1.cols)).toNat - (wr (((x1.2.2.length:Nat):Int)*v1.cols)).toNat) v39 hv39) k k ⟨_,_,k,k,⟨_,_,k,⟨k,k,k,k⟩,⟨_,_,k,k,⟨_,_,k,⟨k,k,k,k⟩,k⟩⟩⟩⟩ ⟨⟨_,k,k,.inl ⟨k,dD.plainO _⟩⟩,k,aR⟩ k k k ⟨⟨_,k,k,.inl ⟨k,dD.plainO _⟩⟩,k,aR⟩ k ⟨k,k,(by simp only [aL,lA,lT,lR,lC,lN]),k⟩ k ⟨k,dD.tame _ _,aR⟩ k k) k<|cG h λq40 h=>an<|sG (by kernel_rfl)<|aS<|tn<|rg<|ae (bC k k) k<|am k k<|an<|tn<|sp h ⟨_,k,(bK (bH k2) (hX ⟨_,k,k,.inr ⟨_,_,k,⟨_,_,k,k,⟨_,_,k,k,⟨_,_,k,⟨k,k,(by simp only [aL,lA,lT,lR,lC,lN,of_decide_eq_true q40]),k⟩,k⟩⟩⟩,k⟩⟩ k<|bS k<|bP k<|bS k<|aR) k4)⟩
     ·rintro e t ⟨rfl,hent⟩;exact aJ<|tn<|aM hent<|rg<|am k k<|am k k<|ae (wl k) k<|cG h λq42 h=>ae (vC aH (l:=x1.2.2) (m:=[x1.1]) kL q42 k k k k k k k k k k k k) k<|aa k k<|an<|aS<|tn<|rg<|ae (bC k k) k<|am k k<|an<|tn<|sp h ⟨_,k,(sW [0,1,2,5] (bH k2) (gA k<|bS k<|bP k<|bS k<|aR) k4)⟩
 ·rintro e t ⟨rfl,hent⟩;exact aJ<|tn<|aM hent<|sR<|lp k8<|am k k<|ae (ws k) k<|aT k2<|aG<|sp h (bN k k k (fS k (cX (tX (aU (k) (aU (k) (aU (gU dD k k) gX)))) (cX (yF (gU dD k k)) kX))))
def xT (a0:Int) (a1:Mt):Option Int:=
 (uT a0 a1).bind λv1=>
 some (((v1.2.length:Nat):Int))
theorem aKB (a0:Int) (a1:Mt) (r:Int) (h:xT a0 a1=some r):HasC Tryz.prog 111 [.int a0,.agg (eM a1)] (.int r):=by
 exact hM [.tmp 4] Tryz.func111 Tryz.ntmps111 k<|sR<|ae (wb k) k<|aT k2<|sR<|am k k<|lp k8<|oB h λv1 hv1 h=>ae (AEff.conv (sO (x:= .tuple [.agg [.int v1.1.rows,.int v1.1.cols,.own 1 0 (v1.1.cells.map eI).length],.own 2 0 (v1.2.map eI).length]) (nb:=[(1,⟨1,dM (v1.1.cells.map eI)⟩),(2,⟨1,dM (v1.2.map eI)⟩)]) (aGw a0 a1 v1 hv1) k (by rfl) k k (lF (dG aR (dG aR (dG (dD.good _) aAN))) (lF (dD.good _) aAw)) (dX k (bB (qH k) aV))) (v':= .tuple [.agg [.int v1.1.rows,.int v1.1.cols,.own 1 0 v1.1.cells.length],.own 2 0 v1.2.length]) (ed':=[(1,some ⟨1,v1.1.cells.map (ow eI)⟩),(2,some ⟨1,v1.2.map (ow eI)⟩)]) (by simp only [aL]) (aAc (nb':=[(1,⟨1,v1.1.cells.map (ow eI)⟩),(2,⟨1,v1.2.map (ow eI)⟩)]) (by simp only [gF]))) k<|am k k<|ae (cI k k (by intro _ h;cases h)) k<|ae (cI k k (by intro _ h;cases h)) k<|ae (dB aH k k) k<|ae (ws k) k<|aT k2<|sR<|am k k<|ae (cW aH k k k k) k<|aT k2<|aG<|yU h k2
def cP (a0:(List (List Int))) (x1:(Int×Int)):Option ((Int×Int) ⊕ Int):=
 bif decide (x1.2<(a0.length:Int)) then
 ((cE a0 x1.2).bind λv2=>
 bif decide (wr (x1.1+(v2.length:Int))<0) then
 (none)
 else
 (some (.inl (wr (x1.1+(v2.length:Int)),wr (x1.2+1)))))
 else
 (some (.inr x1.1))
def cS (a0:(List (List Int))) (x2:((List Int)×Int)):Option (((List Int)×Int) ⊕ (List Int)):=
 bif decide (x2.2<(a0.length:Int)) then
 ((cE a0 x2.2).bind λv7=>
 bif decide (x2.1.length+v7.length≤4294967296) then
 (some (.inl ((x2.1++v7),wr (x2.2+1))))
 else none)
 else
 (some (.inr x2.1))
def iA (a0:(List (List Int))):Option (List Int):=
 (Lp (cP a0) (0,0)).bind λy4=>
 (aLO y4).bind λv5=>
 (Lp (cS a0) (v5,0)).bind λy9=>
 some (y9)
theorem yJ (a0:(List (List Int))) (r:(List Int)) (h:iA a0=some r):HasC Tryz.prog 126 [.list 1 (a0.map (cV 1 eI))] (.list 1 (r.map eI)):=by
 refine hM [.tmp 2] Tryz.func126 Tryz.ntmps126 k<|sR<|aT k2<|sR<|aT k2<|sQ<|sR<|am k k<|ln k4<|am k k<|an<|tn<|aC<|oB h λy4 hy4 h=>bW (body:=(cP a0)) hy4 (λ(x1:(Int×Int))=>mN [(0,.list 1 (a0.map (cV 1 eI))),(3,.int x1.1),(9,.list 1 (a0.map (cV 1 eI))),(10,.int (a0.length:Int)),(11,.int x1.2)] [] 0) (λr e t=>e= .exit 0∧Ent t (mN [(0,.list 1 (a0.map (cV 1 eI))),(3,.int r)] [] 0)) (bK (bH k2) aR k4) ?_ ?_
 ·intro x1 o h;refine sR<|cm k4<|an<|tn<|sQ<|dJ k h (λ_ h=>?_) λ_ h=>aX<|aA<|aA<|sp h ⟨_,k,k,(bK (bH k2) aR k4)⟩;refine aD<|tn<|sQ<|aC<|sR<|oB h λv2 hv2 h=>ae (xl hv2 k) k<|lr k7<|aT k2<|sR<|am k k<|am k k<|ln k4<|ae (bC k k) k<|aT k2<|sR<|am k k<|cm k4<|an<|tn<|dJ k h (λ_ h=>?_) λ_ h=>aD<|aS<|tn<|rg<|ae (bC k k) k<|am k k<|an<|tn<|sp h ⟨_,k,(bK (bH k2) aR k4)⟩;refine rg ?_;cases h
 ·rintro e t ⟨rfl,hent⟩;refine aJ<|tn<|aM hent<|sR<|am k k<|oB h λv5 hv5 h=>ae (cL dD (aRT y4 v5 hv5) k3 (bB aQC (dX k aV))) k<|aT k2<|sQ<|sR<|am k k<|ln k4<|am k k<|an<|tn<|aC<|oB h λy9 hy9 h=>bW (body:=(cS a0)) hy9 (λ(x2:((List Int)×Int))=>mN [(6,.own 0 0 x2.1.length),(25,.list 1 (a0.map (cV 1 eI))),(26,.int (a0.length:Int)),(27,.int x2.2)] [(0,⟨1,x2.1.map (ow eI)⟩)] 1) (λr e t=>e= .exit 2∧Ent t (mN [(6,.own 0 0 r.length)] [(0,⟨1,r.map (ow eI)⟩)] 1)) (bK (bH k2) (bS k<|aR) k4) ?_ ?_
  ·intro x2 o h;exact sR<|cm k4<|an<|tn<|sQ<|dJ k h (λ_ h=>aD<|tn<|sQ<|aC<|sR<|oB h λv7 hv7 h=>ae (xl hv7 k) k<|lr k7<|aT k2<|rg<|am k k<|am k k<|cG h λq8 h=>ae (vC aH (l:=x2.1) (m:=v7) kL q8 k k k k k k k k k k k k) k<|aa k k<|an<|aS<|tn<|rg<|ae (bC k k) k<|am k k<|an<|tn<|sp h ⟨_,k,(sW [1] (bH k2) (bS k<|aR) k4)⟩) λ_ h=>aX<|aA<|aA<|sp h ⟨_,k,k,(bK (bH k2) (bS k<|aR) k4)⟩
  ·rintro e t ⟨rfl,hent⟩;exact aJ<|tn<|aM hent<|sR<|am k k<|aT k2<|aG<|sp h (bN k k k (mU (gU dD k k)))
end
noncomputable section
set_option maxRecDepth 10000
set_option maxHeartbeats 4000000
def qP (a0:(List Int)) (a1:Int):Option Int:=
 bif decide (wr (a1 - (a0.length:Int))<0) then
 (some ((-1)))
 else
 (some (wr (a1 - (a0.length:Int))))
theorem aBp (a0:(List Int)) (a1:Int) (r:Int) (h:qP a0 a1=some r):HasC Tryz.prog 28 [.list 1 (a0.map eI),.int a1] (.int r):=by
 exact hM [.tmp 4] Tryz.func28 Tryz.ntmps28 k<|sR<|aT k2<|sR<|am k k<|am k k<|ln k4<|ae (hJ k k) k<|aT k2<|sQ<|sR<|am k k<|cm k4<|an<|tn<|dJ k h (λ_ h=>sR<|aT k2<|aG<|aE<|yU h k2) λ_ h=>aD<|tn<|sR<|am k k<|aT k2<|aG<|yU h k2
def vQ (a0:Qv) (a1:Int):Option Int:=
 (qP a0.src a1).bind λv1=>
 bif decide (v1<0) then
 (some ((-1)))
 else
 ((qP a0.tgt v1).bind λv3=>
 bif decide (v3<0) then
 (some ((-1)))
 else
 (some (v3)))
theorem aEe (a0:Qv) (a1:Int) (r:Int) (h:vQ a0 a1=some r):HasC Tryz.prog 6 [.agg (eQ a0),.int a1] (.int r):=by
 exact hM [.tmp 4] Tryz.func6 Tryz.ntmps6 k<|sR<|ae (wb k) k<|aT k2<|sR<|fp k8<|lp k8<|am k k<|oB h λv1 hv1 h=>ae (aY (aBp a0.src a1 v1 hv1) k (dX k (dX k aV))) k<|aT k2<|sQ<|sR<|am k k<|cm k4<|an<|tn<|dJ k h (λ_ h=>sR<|aT k2<|aG<|aE<|yU h k2) λ_ h=>aD<|tn<|sR<|fp k8<|lp k8<|am k k<|oB h λv3 hv3 h=>ae (aY (aBp a0.tgt v1 v3 hv3) k (dX k (dX k aV))) k<|aT k2<|sQ<|sR<|am k k<|cm k4<|an<|tn<|dJ k h (λ_ h=>sR<|aT k2<|aG<|aE<|yU h k2) λ_ h=>aD<|tn<|sR<|am k k<|aT k2<|aG<|yU h k2
def pV (a0:(List Int)) (x1:((List Int)×Int)):Option (((List Int)×Int) ⊕ (List Int)):=
 bif decide (x1.2<(a0.length:Int)) then
 ((cE a0 x1.2).bind λv2=>
 (cE x1.1 x1.2).bind λv3=>
 some (.inl ((x1.1.set x1.2.toNat v2),wr (x1.2+1))))
 else
 (some (.inr x1.1))
def qQ (a0:(List Int)):Option (List Int):=
 bif (decide (0≤(a0.length:Int))&&decide ((a0.length:Int)≤1048576)) then
 ((Lp (pV a0) ((List.replicate ((a0.length:Int).toNat) (0:Int)),0)).bind λy4=>
 some (y4))
 else none
theorem aBq (a0:(List Int)) (r:(List Int)) (h:qQ a0=some r):HasC Tryz.prog 16 [.list 1 (a0.map eI)] (.list 1 (r.map eI)):=by
 refine hM [.tmp 2] Tryz.func16 Tryz.ntmps16 k<|sR<|aT k2<|sR<|am k k<|ln k4<|cG h λq5 h=>ae (tY aH q5 k k k k k k k k) k<|aT k2<|aM (t:=mN [(0,.list 1 (a0.map eI)),(3,.own 0 0 ((List.replicate ((a0.length:Int).toNat) (0:Int)).length))] [(0,⟨1,List.map (ow eI) (List.replicate ((a0.length:Int).toNat) (0:Int))⟩)] 1) (bK (mA 1 k2 (jP ⟨_,k,⟨k,k,(by simp only [aL,lA,lT,lR,lC,lN]),k⟩⟩ aR)) (hX ⟨_,k,k,.inl ⟨vP (e:=eI) (z:=0) _,dD.plainO _⟩⟩ k<|aR) k4)<|sQ<|sR<|aT k2<|aC<|oB h λy4 hy4 h=>bW (body:=(pV a0)) hy4 (λ(x1:((List Int)×Int))=>mN [(0,.list 1 (a0.map eI)),(3,.own 0 0 x1.1.length),(4,.int x1.2)] [(0,⟨1,x1.1.map (ow eI)⟩)] 1) (λr e t=>e= .exit 0∧Ent t (mN [(3,.own 0 0 r.length)] [(0,⟨1,r.map (ow eI)⟩)] 1)) (bK (bH k2) (bS k<|aR) k4) ?_ ?_
 ·intro x1 o h;exact sQ<|sR<|am k k<|am k k<|ln k4<|cm k4<|an<|tn<|dJ k h (λ_ h=>aD<|tn<|sQ<|aC<|rg<|am k k<|am k k<|am k k<|am k k<|oB h λv2 hv2 h=>ae (xl hv2 k) k<|lr k7<|oB h λv3 hv3 h=>ae (xo hv3 k) k<|ae (eJ aH kL (u:=v2) (dC hv3) k k k k k k) k<|an<|aS<|tn<|rg<|am k k<|ae (bC k k) k<|aT k2<|sp h ⟨_,k,(bK (mA 1 k2 (jP ⟨_,k,⟨k,k,(by simp only [aL,lA,lT,lR,lC,lN]),k⟩⟩ (bH k2))) (bS k<|aR) k4)⟩) λ_ h=>aX<|aA<|aA<|sp h ⟨_,k,k,(bK (bH k2) (bS k<|aR) k4)⟩
 ·rintro e t ⟨rfl,hent⟩;exact aJ<|tn<|aM hent<|sR<|am k k<|aT k2<|aG<|sp h (bN k k k (mU (gU dD k k)))
def iT (a0:Qv):Option Qv:=
 (qQ a0.src).bind λv1=>
 (qQ a0.tgt).bind λv2=>
 some ((⟨a0.n,v1,v2⟩:Qv))
theorem rH (a0:Qv) (r:Qv) (h:iT a0=some r):HasC Tryz.prog 8 [.agg (eQ a0)] (.agg (eQ r)):=by
 refine hM [.cell 2 29] Tryz.func8 Tryz.ntmps8 k<|sR<|ae (wb k) k<|ae (dB aH k k) k<|an<|tn<|sR<|ae (dB aH k k) k<|an<|tn<|sR<|fp k8<|lp k8<|fp k8<|ae (ws k) k<|an<|tn<|sR<|fp k8<|lp k8<|oB h λv1 hv1 h=>ae (cL dD (aBq a0.src v1 hv1) k3 (dX k aV)) k<|fp k8<|ae (ws k) k<|an<|tn<|sQ ?_;exact rg<|fp k8<|lp k8<|oB h λv2 hv2 h=>ae (cL dD (aBq a0.tgt v2 hv2) k3 (dX k aV)) k<|fp k8<|ae (ws k) k<|an<|tn<|sR<|lp k8<|ae (ws k) k<|an<|tn<|aG<|sp h (bN k k k (sT (aU (k) (aU (gU dD k k) (aU (gU dD k k) gX)))))
def uJ (a0:(List Int)) (a1:(List Int)) (x1:Int):Option (Int ⊕ (Unit ⊕ Bool)):=
 bif decide (x1<(a0.length:Int)) then
 ((cE a0 x1).bind λv3=>
 (cE a1 x1).bind λv4=>
 bif !decide (v3=v4) then
 (some (.inr (.inr (false))))
 else
 (some (.inl (wr (x1+1)))))
 else
 (some (.inr (.inl ())))
def oG (a0:(List Int)) (a1:(List Int)):Option Bool:=
 bif !decide ((a0.length:Int)=(a1.length:Int)) then
 (some (false))
 else
 ((Lp (uJ a0 a1) 0).bind λy6=>
 Sum.elim (λy7=>
 some (true)
 )
 (λy8=>
 some y8
 )
 y6)
theorem uU (a0:(List Int)) (a1:(List Int)) (r:Bool) (h:oG a0 a1=some r):HasC Tryz.prog 19 [.list 1 (a0.map eI),.list 1 (a1.map eI)] (.bl r):=by
 refine hM [.tmp 4] Tryz.func19 Tryz.ntmps19 k<|sR<|aT k2<|sQ<|sR<|am k k<|ln k4<|am k k<|ln k4<|cm k4<|an<|tn<|dJ k h (λ_ h=>sR<|aT k2<|aG<|aE<|kI h k2) λ_ h=>?_;refine aD<|tn<|sQ<|sR<|aT k2<|aC<|oB h λy6 hy6 h=>bW (body:=(uJ a0 a1)) hy6 (λ(x1:Int)=>mN [(0,.list 1 (a0.map eI)),(1,.list 1 (a1.map eI)),(5,.int x1)] [] 0) (λr e t=>Sum.elim (λa=>(λr e t=>e= .exit 0∧Ent t (mN [] [] 0)) a e t) (λb=>(λr e t=>e= .ret∧rY TT [.tmp 4] (.bl r) .ret t) b e t) r) (bK (bH k2) aR k4) ?_ ?_
 ·intro x1 o h;exact sQ<|sR<|am k k<|am k k<|ln k4<|cm k4<|an<|tn<|dJ k h (λ_ h=>aD<|tn<|sQ<|aC<|sQ<|aN gV<|am k k<|am k k<|oB h λv3 hv3 h=>ae (xl hv3 k) k<|lr k7<|am k k<|am k k<|oB h λv4 hv4 h=>ae (xl hv4 k) k<|lr k7<|cm k4<|an<|sG (by kernel_rfl)<|tn<|dJ k h (λ_ h=>sR<|aT k2<|aG<|bG<|aE<|aE<|sp h ⟨_,k,k,bN k k k (vB k)⟩) λ_ h=>aD<|aS<|tn<|rg<|am k k<|ae (bC k k) k<|aT k2<|sp h ⟨_,k,(bK (bH k2) aR k4)⟩) λ_ h=>aX<|aA<|aA<|sp h ⟨_,k,k,(bK aR aR k4)⟩
 ·intro e t hX;rcases y6 with y7|y8
  ·obtain ⟨rfl,hent⟩:=hX;exact aJ<|tn<|aM hent<|sR<|aT k2<|aG<|kI h k2
  ·obtain ⟨rfl,hent⟩:=hX;exact bG<|aE<|sp h hent
def nW (a0:Qv) (a1:Qv):Option Bool:=
 bif !decide (a0.n=a1.n) then
 (some (false))
 else
 ((oG a0.src a1.src).bind λv2=>
 bif !v2 then
 (some (false))
 else
 ((oG a0.tgt a1.tgt).bind λv4=>
 bif !v4 then
 (some (false))
 else
 (some (true))))
theorem aAf (a0:Qv) (a1:Qv) (r:Bool) (h:nW a0 a1=some r):HasC Tryz.prog 11 [.agg (eQ a0),.agg (eQ a1)] (.bl r):=by
 exact hM [.tmp 4] Tryz.func11 Tryz.ntmps11 k<|sR<|ae (wb k) k<|ae (wb k) k<|aT k2<|sQ<|sR<|fp k8<|lp k8<|fp k8<|lp k8<|cm k4<|an<|tn<|dJ k h (λ_ h=>sR<|aT k2<|aG<|aE<|kI h k2) λ_ h=>aD<|tn<|sQ<|sR<|fp k8<|lp k8<|fp k8<|lp k8<|oB h λv2 hv2 h=>ae (aY (uU a0.src a1.src v2 hv2) k (dX k (dX k aV))) k<|ae (fM k) k<|an<|tn<|dJ k h (λ_ h=>sR<|aT k2<|aG<|aE<|kI h k2) λ_ h=>aD<|tn<|sQ<|sR<|fp k8<|lp k8<|fp k8<|lp k8<|oB h λv4 hv4 h=>ae (aY (uU a0.tgt a1.tgt v4 hv4) k (dX k (dX k aV))) k<|ae (fM k) k<|an<|tn<|dJ k h (λ_ h=>sR<|aT k2<|aG<|aE<|kI h k2) λ_ h=>aD<|tn<|sR<|aT k2<|aG<|kI h k2
def rI (a0:Mt) (a1:Mt):Option Bool:=
 bif !decide (a0.rows=a1.rows) then
 (some (false))
 else
 (bif !decide (a0.cols=a1.cols) then
 (some (false))
 else
 ((oG a0.cells a1.cells).bind λv3=>
 bif !v3 then
 (some (false))
 else
 (some (true))))
theorem aEf (a0:Mt) (a1:Mt) (r:Bool) (h:rI a0 a1=some r):HasC Tryz.prog 84 [.agg (eM a0),.agg (eM a1)] (.bl r):=by
 exact hM [.tmp 4] Tryz.func84 Tryz.ntmps84 k<|sR<|ae (wb k) k<|ae (wb k) k<|aT k2<|sQ<|sR<|fp k8<|lp k8<|fp k8<|lp k8<|cm k4<|an<|tn<|dJ k h (λ_ h=>sR<|aT k2<|aG<|aE<|kI h k2) λ_ h=>aD<|tn<|sQ<|sR<|fp k8<|lp k8<|fp k8<|lp k8<|cm k4<|an<|tn<|dJ k h (λ_ h=>sR<|aT k2<|aG<|aE<|kI h k2) λ_ h=>aD<|tn<|sQ<|sR<|fp k8<|lp k8<|fp k8<|lp k8<|oB h λv3 hv3 h=>ae (aY (uU a0.cells a1.cells v3 hv3) k (dX k (dX k aV))) k<|ae (fM k) k<|an<|tn<|dJ k h (λ_ h=>sR<|aT k2<|aG<|aE<|kI h k2) λ_ h=>aD<|tn<|sR<|aT k2<|aG<|kI h k2
def lH (a0:(List Mt)) (a1:(List Mt)) (x1:Int):Option (Int ⊕ (Unit ⊕ Bool)):=
 bif decide (x1<(a0.length:Int)) then
 ((cE a0 x1).bind λv3=>
 (cE a1 x1).bind λv4=>
 (rI v3 v4).bind λv5=>
 bif !v5 then
 (some (.inr (.inr (false))))
 else
 (some (.inl (wr (x1+1)))))
 else
 (some (.inr (.inl ())))
def pW (a0:(List Mt)) (a1:(List Mt)):Option Bool:=
 bif !decide ((a0.length:Int)=(a1.length:Int)) then
 (some (false))
 else
 ((Lp (lH a0 a1) 0).bind λy7=>
 Sum.elim (λy8=>
 some (true)
 )
 (λy9=>
 some y9
 )
 y7)
theorem aDf (a0:(List Mt)) (a1:(List Mt)) (r:Bool) (h:pW a0 a1=some r):HasC Tryz.prog 42 [.list 3 (a0.map eM),.list 3 (a1.map eM)] (.bl r):=by
 refine hM [.tmp 4] Tryz.func42 Tryz.ntmps42 k<|sR<|aT k2<|sQ<|sR<|am k k<|ln k4<|am k k<|ln k4<|cm k4<|an<|tn<|dJ k h (λ_ h=>sR<|aT k2<|aG<|aE<|kI h k2) λ_ h=>?_;refine aD<|tn<|sQ<|sR<|aT k2<|aC<|oB h λy7 hy7 h=>bW (body:=(lH a0 a1)) hy7 (λ(x1:Int)=>mN [(0,.list 3 (a0.map eM)),(1,.list 3 (a1.map eM)),(5,.int x1)] [] 0) (λr e t=>Sum.elim (λa=>(λr e t=>e= .exit 0∧Ent t (mN [] [] 0)) a e t) (λb=>(λr e t=>e= .ret∧rY TT [.tmp 4] (.bl r) .ret t) b e t) r) (bK (bH k2) aR k4) ?_ ?_
 ·intro x1 o h;exact sQ<|sR<|am k k<|am k k<|ln k4<|cm k4<|an<|tn<|dJ k h (λ_ h=>aD<|tn<|sQ<|aC<|sQ<|aN gV<|am k k<|am k k<|oB h λv3 hv3 h=>ae (xl hv3 k) k<|lr k7<|am k k<|am k k<|oB h λv4 hv4 h=>ae (xl hv4 k) k<|lr k7<|oB h λv5 hv5 h=>ae (aY (aEf v3 v4 v5 hv5) k (bB (qH k) (bB (qH k) aV))) k<|ae (fM k) k<|an<|sG (by kernel_rfl)<|tn<|dJ k h (λ_ h=>sR<|aT k2<|aG<|bG<|aE<|aE<|sp h ⟨_,k,k,bN k k k (vB k)⟩) λ_ h=>aD<|aS<|tn<|rg<|am k k<|ae (bC k k) k<|aT k2<|sp h ⟨_,k,(bK (bH k2) aR k4)⟩) λ_ h=>aX<|aA<|aA<|sp h ⟨_,k,k,(bK aR aR k4)⟩
 ·intro e t hX;rcases y7 with y8|y9
  ·obtain ⟨rfl,hent⟩:=hX;exact aJ<|tn<|aM hent<|sR<|aT k2<|aG<|kI h k2
  ·obtain ⟨rfl,hent⟩:=hX;exact bG<|aE<|sp h hent
def wK (a0:Rp) (a1:Rp):Option Bool:=
 bif !decide (a0.p=a1.p) then
 (some (false))
 else
 ((nW a0.q a1.q).bind λv2=>
 bif !v2 then
 (some (false))
 else
 ((oG a0.dims a1.dims).bind λv4=>
 bif !v4 then
 (some (false))
 else
 ((pW a0.maps a1.maps).bind λv6=>
 bif !v6 then
 (some (false))
 else
 (some (true)))))
theorem aIi (a0:Rp) (a1:Rp) (r:Bool) (h:wK a0 a1=some r):HasC Tryz.prog 18 [.agg (eR a0),.agg (eR a1)] (.bl r):=by
 exact hM [.tmp 4] Tryz.func18 Tryz.ntmps18 k<|sR<|ae (wb k) k<|ae (wb k) k<|aT k2<|sQ<|sR<|fp k8<|lp k8<|fp k8<|lp k8<|cm k4<|an<|tn<|dJ k h (λ_ h=>sR<|aT k2<|aG<|aE<|kI h k2) λ_ h=>aD<|tn<|sQ<|sR<|fp k8<|lp k8<|fp k8<|lp k8<|oB h λv2 hv2 h=>ae (aY (aAf a0.q a1.q v2 hv2) k (bB (qH k) (bB (qH k) aV))) k<|ae (fM k) k<|an<|tn<|dJ k h (λ_ h=>sR<|aT k2<|aG<|aE<|kI h k2) λ_ h=>aD<|tn<|sQ<|sR<|fp k8<|lp k8<|fp k8<|lp k8<|oB h λv4 hv4 h=>ae (aY (uU a0.dims a1.dims v4 hv4) k (dX k (dX k aV))) k<|ae (fM k) k<|an<|tn<|dJ k h (λ_ h=>sR<|aT k2<|aG<|aE<|kI h k2) λ_ h=>aD<|tn<|sQ<|sR<|fp k8<|lp k8<|fp k8<|lp k8<|oB h λv6 hv6 h=>ae (aY (aDf a0.maps a1.maps v6 hv6) k (dX k (dX k aV))) k<|ae (fM k) k<|an<|tn<|aM (t:=mN [(27,.bl (!v6))] [] 2) (bK (bH k2) aR k4)<|dJ k h (λ_ h=>sR<|aT k2<|aG<|aE<|kI h k2) λ_ h=>aD<|tn<|sR<|aT k2<|aG<|kI h k2
def pX (a0:(List Rp)) (a1:(List Rp)) (x1:Int):Option (Int ⊕ (Unit ⊕ Bool)):=
 bif decide (x1<(a0.length:Int)) then
 ((cE a0 x1).bind λv3=>
 (cE a1 x1).bind λv4=>
 (wK v3 v4).bind λv5=>
 bif !v5 then
 (some (.inr (.inr (false))))
 else
 (some (.inl (wr (x1+1)))))
 else
 (some (.inr (.inl ())))
def oH (a0:(List Rp)) (a1:(List Rp)):Option Bool:=
 bif !decide ((a0.length:Int)=(a1.length:Int)) then
 (some (false))
 else
 ((Lp (pX a0 a1) 0).bind λy7=>
 Sum.elim (λy8=>
 some (true)
 )
 (λy9=>
 some y9
 )
 y7)
theorem yK (a0:(List Rp)) (a1:(List Rp)) (r:Bool) (h:oH a0 a1=some r):HasC Tryz.prog 10 [.list 6 (a0.map eR),.list 6 (a1.map eR)] (.bl r):=by
 refine hM [.tmp 4] Tryz.func10 Tryz.ntmps10 k<|sR<|aT k2<|sQ<|sR<|am k k<|ln k4<|am k k<|ln k4<|cm k4<|an<|tn<|dJ k h (λ_ h=>sR<|aT k2<|aG<|aE<|kI h k2) λ_ h=>?_;refine aD<|tn<|sQ<|sR<|aT k2<|aC<|oB h λy7 hy7 h=>bW (body:=(pX a0 a1)) hy7 (λ(x1:Int)=>mN [(0,.list 6 (a0.map eR)),(1,.list 6 (a1.map eR)),(5,.int x1)] [] 0) (λr e t=>Sum.elim (λa=>(λr e t=>e= .exit 0∧Ent t (mN [] [] 0)) a e t) (λb=>(λr e t=>e= .ret∧rY TT [.tmp 4] (.bl r) .ret t) b e t) r) (bK (bH k2) aR k4) ?_ ?_
 ·intro x1 o h;exact sQ<|sR<|am k k<|am k k<|ln k4<|cm k4<|an<|tn<|dJ k h (λ_ h=>aD<|tn<|sQ<|aC<|sQ<|aN gV<|am k k<|am k k<|oB h λv3 hv3 h=>ae (xl hv3 k) k<|lr k7<|am k k<|am k k<|oB h λv4 hv4 h=>ae (xl hv4 k) k<|lr k7<|oB h λv5 hv5 h=>ae (aY (aIi v3 v4 v5 hv5) k (bB (qH k) (bB (qH k) aV))) k<|ae (fM k) k<|an<|sG (by kernel_rfl)<|tn<|dJ k h (λ_ h=>sR<|aT k2<|aG<|bG<|aE<|aE<|sp h ⟨_,k,k,bN k k k (vB k)⟩) λ_ h=>aD<|aS<|tn<|rg<|am k k<|ae (bC k k) k<|aT k2<|sp h ⟨_,k,(bK (bH k2) aR k4)⟩) λ_ h=>aX<|aA<|aA<|sp h ⟨_,k,k,(bK aR aR k4)⟩
 ·intro e t hX;rcases y7 with y8|y9
  ·obtain ⟨rfl,hent⟩:=hX;exact aJ<|tn<|aM hent<|sR<|aT k2<|aG<|kI h k2
  ·obtain ⟨rfl,hent⟩:=hX;exact bG<|aE<|sp h hent
end
noncomputable section
def zI (n:Nat) (left:Int):Int:=if left - n<0 then -1 else left - n
def zC:List (Int→Int)→Int→Int
 | [],left=>left
 |f::fs,left=>if f left<0 then -1 else zC fs (f left)
def zQ (q:Qv):Int→Int:=zC [zI q.src.length,zI q.tgt.length]
def aFo (f:Int→Int) (b:Prop):Prop:= ∀ left,0≤left→left≤1048576→f left= -1∨(0≤f left∧f left≤left∧b)
theorem aEt (n:Nat):aFo (zI n) (n≤1048576):=by
 intro left h0 h1;unfold zI;by_cases h:left - n<0
 ·rw [aP h];exact .inl rfl
 ·rw [aO h];exact .inr ⟨by omega,by omega,by omega⟩
theorem aNG:aFo (zC []) True:=λleft h0 _=> .inr ⟨h0,Int.le_refl _,trivial⟩
theorem aFp {f:Int→Int} {fs:List (Int→Int)} {b bs:Prop} (h:aFo f b) (k:aFo (zC fs) bs):aFo (zC (f::fs)) (b∧bs):=by
 intro left h0 h1;unfold zC;rcases h left h0 h1 with e|⟨e1,e2,e3⟩
 ·rw [e,aP (by decide)];exact .inl rfl
 ·rw [aO (by omega)];rcases k (f left) e1 (by omega) with g|⟨g1,g2,g3⟩
  ·exact .inl g
  ·exact .inr ⟨g1,by omega,e3,g3⟩
def bI (l:List Int):Prop:=l.length≤1048576
def bQ (q:Qv):Prop:=bI q.src∧bI q.tgt∧True
def bM (m:Mt):Prop:=bI m.cells∧True
def bR (r:Rp):Prop:=bQ r.q∧bI r.dims∧(r.maps.length≤1048576∧ ∀ m∈r.maps,bM m)∧True
theorem aQG (q:Qv):aFo (zQ q) (bQ q):=aFp (aEt _) (aFp (aEt _) aNG)
def fI {α:Type} (l:List α):Prop:=l.length≤9223372036854775807
theorem aMP {o:Option Int} {z:Int→Int} {zs:List (Int→Int)} {b:Prop} {left:Int} {k:Int→Option Int} (ho:o=some (z left)) (hf:aFo z b) (h0:0≤left) (h1:left≤1048576) (hk: ∀ v,0≤v→v≤1048576→k v=some (zC zs v)):
  Option.bind o (λv=>bif decide (v<0) then some (-1) else k v)=some (zC (z::zs) left):=by
 rw [ho,aB];unfold zC;rcases hf left h0 h1 with e|⟨e1,e2,_⟩
 ·rw [e];rfl
 ·rw [aO (by omega),dQ (by omega: ¬ z left<0),aW];exact hk _ e1 (by omega)
theorem aSX {l:List Int} {left:Int} (hl:fI l) (h0:0≤left) (h1:left≤1048576):qP l left=some (zI l.length left):=by
 unfold fI at hl;unfold qP zI;rw [aHX (by omega)];by_cases h:left - l.length<0
 ·rw [bF h,aP h];rfl
 ·rw [dQ h,aO h];rfl
def fQ (q:Qv):Prop:=fI q.src∧fI q.tgt
theorem aTK {q:Qv} {left:Int} (hl:fQ q) (h0:0≤left) (h1:left≤1048576):vQ q left=some (zQ q left):=
 aMP (aSX hl.1 h0 h1) (aEt _) h0 h1 λv g0 g1=>aMP (aSX hl.2 g0 g1) (aEt _) g0 g1 λv _ _=>rfl
theorem aNH {α:Type} {body:List α×Int→Option ((List α×Int) ⊕ List α)} {l:List α} (z:α) (hl:l.length≤4611686018427387904)
  (hs: ∀ (k:Nat) (hk:k<l.length) (r:List α),r.length=l.length→body (r,k)=some (.inl (r.set k l[k],wr (k+1)))) (he: ∀ r,body (r,l.length)=some (.inr r)):Lp body (List.replicate ((l.length:Int).toNat) z,0)=some l:=by
 refine aOI (λk=>(l.take k++List.replicate (l.length - k) z,(k:Int))) l.length (by simp) (λk hk=>?_) ?_
 ·rw [hs k hk _ (by simp;omega),bT hk hl];congr 3;rw [show l.length - k=(l.length - (k+1))+1 by omega,List.replicate_succ,List.set_append_right _ _ (by simp;omega)];rw [aBo hk,List.length_take,Nat.min_eq_left (Nat.le_of_lt hk),Nat.sub_self,List.set_cons_zero,List.append_assoc];rfl
 ·rw [he];simp
theorem aSY {l:List Int} (h:bI l):qQ l=some l:=by
 unfold bI at h;unfold qQ;rw [bF (by omega),bF (by omega:(l.length:Int)≤1048576),Bool.and_self,aI];rw [aNH 0 (by omega) (λk hk r hr=>?_) (λr=>?_)];rfl
 ·unfold pV;simp only;rw [jN hk,aI,dY hk,aB,dY (hr▸hk),aB,cO]
 ·unfold pV;simp only;rw [kV (bJ _),aW]
theorem aTL {q:Qv} (h:bQ q):iT q=some q:=by
 unfold iT;rw [aSY h.1,aB,aSY h.2.1,aB]
theorem aFq {α:Type} [DecidableEq α] {body:Int→Option (Int ⊕ (Unit ⊕ Bool))} {a b:List α} (hl:a.length≤4611686018427387904) (hab:a.length=b.length)
  (hs: ∀ (k:Nat) (h1:k<a.length) (h2:k<b.length),body k=some (bif decide (a[k]=b[k]) then .inl (wr (k+1)) else .inr (.inr false))) (he:body a.length=some (.inr (.inl ()))):
  Option.bind (Lp body 0) (λy=>Sum.elim (λ_=>some true) (λy=>some y) y)=some (decide (a=b)):=by
 have key: ∀ (P:Nat→Bool),(∀ (k:Nat) (h1:k<a.length) (h2:k<b.length),P k=decide (a[k]=b[k]))→Lp body 0=some (bif (List.range a.length).all P then .inl () else .inr false)→Option.bind (Lp body 0) (λy=>Sum.elim (λ_=>some true) (λy=>some y) y)=some (decide (a=b)):=by
  intro P hP e;rw [e,aB]
  have:(List.range a.length).all P=decide (a=b):=by
   rw [Bool.eq_iff_iff,tU,iK];constructor
   ·intro h;refine List.ext_getElem hab λk h1 h2=>?_;have:=h k h1;rw [hP k h1 h2] at this;exact of_decide_eq_true this
   ·rintro rfl k hk;rw [hP k hk hk];simp
  rw [this];cases decide (a=b) <;> rfl
 refine key (λk=>if h:k<a.length then if h2:k<b.length then decide (a[k]=b[k]) else false else false) (λk h1 h2=>by rw [dif_pos h1,dif_pos h2]) (aDW _ _ hl (λk hk=>?_) (λ_=>he));rw [dif_pos hk,dif_pos (hab▸hk)];exact hs k hk (hab▸hk)
theorem aFr {α β:Type} {a:List α} {b:List β} :decide ((a.length:Int)=(b.length:Int))=decide (a.length=b.length):=by
 rw [Bool.eq_iff_iff,iK,iK];omega
theorem aIj {body:Int→Option (Int ⊕ (Unit ⊕ Bool))} {a b:List Int} (hl:a.length≤4611686018427387904)
  (hb:body=λx=>bif decide (x<(a.length:Int)) then (Option.bind (cE a x) λv3=>Option.bind (cE b x) λv4=>bif !decide (v3=v4) then (some (.inr (.inr (false)))) else (some (.inl (wr (x+1))))) else (some (.inr (.inl ())))):
  (bif !decide ((a.length:Int)=(b.length:Int)) then some false else Option.bind (Lp body 0) (λy=>Sum.elim (λ_=>some true) (λy=>some y) y))=some (decide (a=b)):=by
 rw [aFr];by_cases h:a.length=b.length
 ·rw [bF h,iC,aW];refine aFq hl h (λk h1 h2=>?_) ?_
  ·rw [hb];simp only;rw [jN h1,aI,dY h1,aB,dY h2,aB];cases decide (a[k]=b[k]) <;> rfl
  ·rw [hb];simp only;rw [kV (bJ _),aW]
 ·rw [dQ h,Bool.not_false,aI,dQ (by rintro rfl;exact h rfl)]
theorem nX {c d:Bool} {o:Option Bool} (h:c=true→o=some d):(bif !c then some false else o)=some (c&&d):=by cases c with|false=>rfl|true=>exact h rfl
theorem aQH {a b:List Int} (h:bI a):oG a b=some (decide (a=b)):=by
 unfold bI at h;exact aIj (body:=uJ a b) (by omega) rfl
theorem aIk {d:Bool} :(bif !d then some false else some true)=some d:=by cases d <;> rfl
theorem aSZ {a b:Qv} (h:bQ a):nW a b=some (decide (a=b)):=by
 unfold nW;rw [nX (d:=decide (a.src=b.src)&&decide (a.tgt=b.tgt)) (λ_=>?_)]
 ·cases a;cases b;simp [Bool.and_assoc]
 ·rw [aQH h.1,aB];refine nX λ_=>?_;rw [aQH h.2.1,aB,aIk]
theorem aTM {a b:Mt} (h:bM a):rI a b=some (decide (a=b)):=by
 unfold rI;rw [nX (d:=decide (a.cols=b.cols)&&decide (a.cells=b.cells)) (λ_=>?_)]
 ·cases a;cases b;simp [Bool.and_assoc]
 ·refine nX λ_=>?_;rw [aQH h.1,aB,aIk]
theorem aSa {a b:List Mt} (h:a.length≤1048576∧ ∀ m∈a,bM m):pW a b=some (decide (a=b)):=by
 obtain ⟨h,hb⟩:=h;unfold pW;rw [aFr];by_cases e:a.length=b.length
 ·rw [bF e,iC,aW];refine aFq (by omega) e (λk h1 h2=>?_) ?_
  ·unfold lH;rw [jN h1,aI,dY h1,aB,dY h2,aB,aTM (hb _ (List.getElem_mem h1)),aB];cases decide (a[k]=b[k]) <;> rfl
  ·unfold lH;rw [kV (bJ _),aW]
 ·rw [dQ e,Bool.not_false,aI,dQ (by rintro rfl;exact e rfl)]
theorem aTN {a b:Rp} (h:bR a):wK a b=some (decide (a=b)):=by
 unfold wK;rw [nX (d:=decide (a.q=b.q)&&(decide (a.dims=b.dims)&&decide (a.maps=b.maps))) (λ_=>?_)]
 ·cases a;cases b;simp [Bool.and_assoc]
 ·rw [aSZ h.1,aB];refine nX λ_=>?_;rw [aQH h.2.1,aB];refine nX λ_=>?_;rw [aSa h.2.2.1,aB,aIk]
theorem aSb {a b:List Rp} (h:a.length≤1048576∧ ∀ m∈a,bR m):oH a b=some (decide (a=b)):=by
 obtain ⟨h,hb⟩:=h;unfold oH;rw [aFr];by_cases e:a.length=b.length
 ·rw [bF e,iC,aW];refine aFq (by omega) e (λk h1 h2=>?_) ?_
  ·unfold pX;rw [jN h1,aI,dY h1,aB,dY h2,aB,aTN (hb _ (List.getElem_mem h1)),aB];cases decide (a[k]=b[k]) <;> rfl
  ·unfold pX;rw [kV (bJ _),aW]
 ·rw [dQ e,Bool.not_false,aI,dQ (by rintro rfl;exact e rfl)]
end
noncomputable section
open Go.ChangeShapes Go.WideShapes Go.ChangeAt Go.RowKit
theorem oI:aAd Tryz.prog 3 (aBB 1 eI):=aLM Tryz.underlying3
theorem oL:aAd Tryz.prog 22 (aBB 1 eL):=aIb Tryz.underlying22 (by decide) (by kernel_rfl) oI
theorem oQ:aAd Tryz.prog 24 (aBB 3 eQ):=by
 intro H enc w fuel cs d ps h hf;obtain ⟨x0,T0,u0⟩:=aDb Tryz.underlying24 h hf aOR (i:=0) (ft:=3) rfl (k:=1) (by kernel_rfl) oI;obtain ⟨x1,T1,u1⟩:=aDb Tryz.underlying24 h hf u0 (i:=1) (ft:=22) rfl (k:=1) (by kernel_rfl) oL;obtain ⟨x2,T2,u2⟩:=aDb Tryz.underlying24 h hf u1 (i:=2) (ft:=22) rfl (k:=1) (by kernel_rfl) oL;exact ⟨⟨x0,x1,x2⟩,_,aOS Tryz.underlying24 h hf u2 (by kernel_rfl) _ rfl⟩
end
noncomputable section
theorem aMQ {w:World} : ∀ {ds:List AV} {vs:List Value} {S:List Nat},RepVs w ds vs S→ ∀ d∈ds,∃ v S',RepD w d v S'
 | [],_,_,_,d,hd=>by cases hd
 |c::cs,vs,S,h,d,hd=>by
  simp only [RepVs] at h;obtain ⟨v,r,S1,S2,_,_,h3,h4⟩:=h;rcases dK.1 hd with rfl|h'
  ·exact ⟨v,S1,h3⟩
  ·exact aMQ h4 d h'
theorem aMR {w:World} {b:Nat} : ∀ {ds:List AV} {o:Nat} {S:List Nat},RepCs w b o ds S→ ∀ d∈ds,∃ v S',RepD w d v S'
 | [],_,_,_,d,hd=>by cases hd
 |c::cs,o,S,h,d,hd=>by
  simp only [RepCs] at h;obtain ⟨v,S1,S2,_,_,_,_,h3,h4⟩:=h;rcases dK.1 hd with rfl|h'
  ·exact ⟨v,S1,h3⟩
  ·exact aMR h4 d h'
theorem aMS {w:World} {k b:Nat} : ∀ {es:List (List AV)} {o:Nat} {S:List Nat},RepEs w k b o es S→ ∀ cs∈es,∀ d∈cs,∃ v S',RepD w d v S'
 | [],_,_,_,cs,hc=>by cases hc
 |c::es,o,S,h,cs,hc=>by
  simp only [RepEs] at h;obtain ⟨S1,S2,_,_,h3,h4⟩:=h;rcases dK.1 hc with rfl|h'
  ·exact aMR h3
  ·exact aMS h4 cs h'
theorem aQI {w:World} {k:Nat} {es:List (List AV)} {v:Value} {S:List Nat} (h:RepD w (.list k es) v S):es.length≤9223372036854775807∧ ∀ cs∈es,∀ d∈cs,∃ v S',RepD w d v S':=by
 unfold RepD at h;obtain ⟨a,c,_,h2,h3,h4⟩:=h;have hm:maxLen≤9223372036854775807:=by decide
 refine ⟨by omega,?_⟩;rcases h4 with ⟨rfl,_⟩|⟨b,o,T,_,_,_,h5⟩
 ·intro cs hcs;cases hcs
 ·exact aMS h5
theorem aSc {w:World} {l:List Int} {v:Value} {S:List Nat} (h:RepD w (aIW l) v S):fI l:=by
 have:=(aQI (k:=1) (es:=List.map eI l) h).1
 rwa [dE] at this
theorem aOf {w:World} {ds:List AV} (h: ∀ d∈ds,∃ v S',RepD w d v S') {l:List Int} (hl:aIW l∈ds):fI l:=by
 obtain ⟨v,S,h⟩:=h _ hl;exact aSc h
theorem aSd {w:World} {q:Qv} (h: ∀ d∈eQ q,∃ v S',RepD w d v S'):fQ q:=⟨aOf h (by simp [eQ]),aOf h (by simp [eQ])⟩
theorem aOg {w0 w:World} {v:Value} {S:List Nat} (h:aIT w (.bl true) v S):Ending.returned v= .returned (.bool true):=by rw [h.1]
end
noncomputable section
theorem nD {c d:Bool} {o:Option Bool} (h:c=true→o=some d):(bif c then o else some false)=some (c&&d):=by cases c with|false=>rfl|true=>exact h rfl
theorem aBE {c d:Bool} :(bif c then some d else some false)=some (c&&d):=by cases c <;> rfl
theorem aMT {x a b:Int} :(bif decide (a≤x) then some (decide (x≤b)) else some false)=some (yT x a b):=by
 rw [aBE];unfold yT;by_cases h1:a≤x <;> by_cases h2:x≤b <;> simp [h1,h2]
theorem aFs (x a b:Int):qN x a b=some (yT x a b):=aMT
theorem yL (x a b:Int):jL x a b=some (yT x a b):=aMT
theorem aKC (p:Int):(bif decide (p=2) then some true else bif decide (p=3) then some true else some (decide (p=5)))=some (xD p):=by
 unfold xD;by_cases h2:p=2 <;> by_cases h3:p=3 <;> by_cases h5:p=5 <;> simp [h2,h3,h5]
theorem aCp (p:Int):jT p=some (xD p):=aKC p
theorem aEu (p:Int):mD p=some (xD p):=aKC p
theorem aFt {a b:List Int} (h:bI a):qO a b=some (decide (a=b)):=by
 unfold bI at h;exact aIj (body:=uG a b) (by omega) rfl
theorem aNI {a b:List Int} (h:bI a):mB a b=some (decide (a=b)):=by
 unfold bI at h;exact aIj (body:=jS a b) (by omega) rfl
theorem aNJ {a b:Qv} (h:bQ a):lG a b=some (decide (a=b)):=by
 unfold lG;rw [nD (d:=decide (a.src=b.src)&&decide (a.tgt=b.tgt)) (λ_=>?_)]
 ·cases a;cases b;simp
 ·rw [aFt h.1,aB];refine nD λ_=>?_;rw [aFt h.2.1,aB]
theorem aNK (p:Int) {v:List Int} (h:bI v):rA p v=some (xD p&&decide (v.length≤64)&&v.all λx=>yT x 0 (wr (p - 1))):=by
 unfold bI at h;unfold rA;rw [aCp,aB];cases xD p with
 |false=>rfl
 |true=>
  rw [iC,aW,Bool.true_and];by_cases h64:v.length≤64
  ·rw [dQ (by omega),aW,bF h64,Bool.true_and];rw [aDW (λk=>yT (v[k]?.getD 0) 0 (wr (p - 1))) false (n:=v.length) (by omega) (λk hk=>?_) (λ_=>?_),zD 0 v (λx=>yT x 0 (wr (p - 1))),aB]
   ·cases v.all _ <;> rfl
   ·unfold mY;rw [jN hk,aI,sD 0 hk,aB,yL,aB];cases yT _ 0 _ <;> rfl
   ·unfold mY;rw [kV (bJ _),aW]
  ·rw [bF (by omega),aI,dQ h64,Bool.false_and]
theorem aKD {v:List Int} {f:Int→Option Bool} (P:Int→Bool) (hf: ∀ x,f x=some (P x)) (h:bI v): ∃ i:Int,gC v f=some i∧decide (0≤i)=v.any P:=by
 unfold bI at h;unfold gC;rw [aDV (s0:=0) (s:=0) (n:=v.length) (λk=>bif P (v[k]?.getD 0) then some (k:Int) else none) rfl (by omega) (Nat.zero_le _) (λk _ hk=>?_) (λ_=>?_)]
 ·rw [aB];cases e:(List.range' 0 (v.length - 0)).findSome? (λk:Nat=>bif P (v[k]?.getD 0) then some (k:Int) else none) with
  |none=>
   refine ⟨-1,rfl,?_⟩;rw [List.findSome?_eq_none_iff] at e
   have:v.any P=false:=by
    rw [List.any_eq_false];intro x hx;obtain ⟨k,hk,rfl⟩:=List.mem_iff_getElem.1 hx;have:=e k (by simp;omega);simp only [gS hk,oW] at this;cases hp:P v[k] with
    |false=>simp
    |true=>rw [hp] at this;cases this
   rw [this];rfl
  |some i=>
   refine ⟨i,rfl,?_⟩;obtain ⟨k,hk,he⟩:=List.exists_of_findSome?_eq_some e;simp at hk;have hkl:k<v.length:=by omega
   rw [gS hkl] at he;simp only [oW] at he;cases hp:P v[k] with
   |false=>rw [hp] at he;cases he
   |true=>
    rw [hp] at he;cases he;rw [bF (by omega),eq_comm,List.any_eq_true];exact ⟨_,List.getElem_mem hkl,hp⟩
 ·unfold fH;rw [jN hk,aI,sD 0 hk,aB,hf,aB];cases P _ <;> rfl
 ·unfold fH;rw [kV (bJ _),aW]
theorem aBF {v:List Int} (h:bI v) (a b:Int):jO v a b=some (v.all λx=>yT x a b):=by
 unfold jO gY;obtain ⟨i,h1,h2⟩:=aKD (f:=λb0=>jX b0 a b) (λx=> !yT x a b) (λx=>by simp only [jX];rw [aFs,aB]) h;rw [h1,aB,aB,h2,List.not_any_eq_all_not];simp
def aIl (p:Int) (m:Mt):Bool:=yT m.rows 0 8&&(yT m.cols 0 8&&(decide ((m.cells.length:Int)=wr (m.rows*m.cols))&&(xD p&&decide (m.cells.length≤64)&&m.cells.all λx=>yT x 0 (wr (p - 1)))))
theorem aNL (p:Int) {m:Mt} (h:bM m):rB p m=some (aIl p m):=by
 unfold rB aIl;rw [yL,aB];refine nD λ_=>?_;rw [yL,aB];refine nD λ_=>?_;refine nD λ_=>?_;rw [aNK p h.1,aB]
theorem aLS {p:Int} {m:Mt} (h:aIl p m=true):xD p=true∧ ∃ (r c:Nat) (F:Nat→Nat→Int),r≤8∧c≤8∧m=⟨r,c,bZ r c F⟩∧ ∀ i j,i<r→j<c→0≤F i j∧F i j<p:=by
 unfold aIl at h;simp only [cU,iK,List.all_eq_true] at h;obtain ⟨h1,h2,h3,⟨h4,h5⟩,h6⟩:=h;have h1:=sP h1;have h2:=sP h2;refine ⟨h4,m.rows.toNat,m.cols.toNat,λi j=>m.cells[i*m.cols.toNat+j]?.getD 0,by omega,by omega,?_,?_⟩
 ·obtain ⟨a,b,l⟩:=m;simp only at*;obtain ⟨r,rfl⟩:=Int.eq_ofNat_of_zero_le h1.1;obtain ⟨c,rfl⟩:=Int.eq_ofNat_of_zero_le h2.1;have hb:r*c≤64:=Nat.mul_le_mul (by omega:r≤8) (by omega:c≤8);rw [aGr (by omega)] at h3;simp only [cO];rw [←aPy (by omega)]
 ·intro i j hi hj;show 0≤m.cells[i*m.cols.toNat+j]?.getD 0∧m.cells[i*m.cols.toNat+j]?.getD 0<p;have hx:=aFX hi hj
  have e:((m.rows.toNat*m.cols.toNat:Nat):Int)=m.rows*m.cols:=by
   rw [Int.natCast_mul,Int.toNat_of_nonneg h1.1,Int.toNat_of_nonneg h2.1]
  have hb:m.rows.toNat*m.cols.toNat≤64:=Nat.mul_le_mul (by omega:m.rows.toNat≤8) (by omega:m.cols.toNat≤8);rw [cB (by omega)] at h3;have hl:i*m.cols.toNat+j<m.cells.length:=by omega
  have:=sP (h6 _ (List.getElem_mem hl));rw [gS hl,oW];have hp:=jD h4;rw [cB (by omega)] at this;omega
def xU (q:Qv):Bool:=yT q.n 1 5&&(decide ((q.src.length:Int)=(q.tgt.length:Int))&&(decide ((q.src.length:Int)≤6)&&((q.src.all λx=>yT x 0 (wr (q.n - 1)))&&(q.tgt.all λx=>yT x 0 (wr (q.n - 1))))))
theorem aIm {q:Qv} (h:bQ q):nU q=some (xU q):=by
 unfold nU xU;rw [aFs,aB];refine nD λ_=>nD λ_=>nD λ_=>?_;rw [aBF h.1,aB];refine nD λ_=>?_;rw [aBF h.2.1,aB]
theorem aCq {q:Qv} (h:bQ q):gP q=some (xU q):=by
 obtain ⟨h1,h2,_⟩:=h;unfold bI at h1 h2;unfold gP;rw [aDW (n:=min q.src.length q.tgt.length) (λk=>yT (q.src[k]?.getD 0) 0 (wr (q.n - 1))&&yT (q.tgt[k]?.getD 0) 0 (wr (q.n - 1))) false (by omega) (λk hk=>?_) (λ_=>?_)]
 ·rw [aB];unfold xU;by_cases e:q.src.length=q.tgt.length
  ·have e2:min q.src.length q.tgt.length=q.src.length:=by omega
   have hall:(List.range q.src.length).all (λk=>yT (q.src[k]?.getD 0) 0 (wr (q.n - 1))&&yT (q.tgt[k]?.getD 0) 0 (wr (q.n - 1)))=((q.src.all λx=>yT x 0 (wr (q.n - 1)))&&(q.tgt.all λx=>yT x 0 (wr (q.n - 1)))):=by
    rw [←zD 0 q.src,←zD 0 q.tgt,←e];rw [Bool.eq_iff_iff,cU,tU,tU,tU];simp only [cU];exact ⟨λh=>⟨λk hk=>(h k hk).1,λk hk=>(h k hk).2⟩,λh k hk=>⟨h.1 k hk,h.2 k hk⟩⟩
   rw [e2,hall,bF (by omega:(q.src.length:Int)=(q.tgt.length:Int))];cases (q.src.all λx=>yT x 0 (wr (q.n - 1)))&&(q.tgt.all λx=>yT x 0 (wr (q.n - 1))) with
   |false=>simp
   |true=>
    simp only [aI,Sum.elim_inl];rw [yL,aB,bF (by omega:(q.tgt.length:Int)=(q.src.length:Int)),aBE,aBE];simp
  ·rw [dQ (by omega: ¬ (q.src.length:Int)=(q.tgt.length:Int))];simp only [Bool.false_and,Bool.and_false];cases (List.range (min q.src.length q.tgt.length)).all _ with
   |false=>rfl
   |true=>
    simp only [aI,Sum.elim_inl];rw [yL,aB,dQ (by omega: ¬ (q.tgt.length:Int)=(q.src.length:Int)),aBE,aBE];simp
 ·unfold mW;rw [jN (by omega),aI,jN (by omega),aI,sD 0 (by omega),aB,yL,aB,sD 0 (by omega),aB,yL,aB];cases yT (q.src[k]?.getD 0) 0 (wr (q.n - 1)) <;> cases yT (q.tgt[k]?.getD 0) 0 (wr (q.n - 1)) <;> rfl
 ·unfold mW;by_cases e:q.src.length≤q.tgt.length
  ·rw [kV (by omega),aW]
  ·rw [jN (by omega),aI,kV (by omega),aW]
theorem xV {q:Qv} (h:xU q=true): ∃ n:Nat,q.n=n∧1≤n∧n≤5∧q.src.length=q.tgt.length∧q.src.length≤6∧(∀ x∈q.src,0≤x∧x<n)∧ ∀ x∈q.tgt,0≤x∧x<n:=by
 unfold xU at h;simp only [cU,iK,List.all_eq_true] at h;obtain ⟨h1,h2,h3,h4,h5⟩:=h;have h1:=sP h1;rw [cB (by omega)] at h4 h5;refine ⟨q.n.toNat,by omega,by omega,by omega,by omega,by omega,λx hx=>?_,λx hx=>?_⟩
 ·have:=sP (h4 x hx);omega
 ·have:=sP (h5 x hx);omega
def aBG (q:Qv) (d:List Int):Bool:=xU q&&(decide ((d.length:Int)=q.n)&&((d.all λx=>yT x 0 4)&&decide (d.sum≤8)))
theorem aLT {d:List Int} (h: ∀ x∈d,0≤x∧x≤4):0≤d.sum∧d.sum≤4*d.length:=by
 induction d with
 |nil=>simp
 |cons x d ih=>
  have h1:=h x (by simp);have h2:=ih λy hy=>h y (by simp [hy]);simp only [List.sum_cons,List.length_cons];omega
theorem aKE {d:List Int} {k:Nat} (hk:k<d.length):(d.take (k+1)).sum=(d.take k).sum +d[k]?.getD 0:=by
 rw [aBo hk,List.sum_append];simp [hk]
theorem aIn {d:List Int} (h: ∀ x∈d,0≤x∧x≤4) (hl:d.length≤1048576):pQ d=some d.sum:=by
 unfold pQ;rw [dR (r:=d.sum) (λk=>((d.take k).sum,(k:Int))) d.length (by simp) (λk hk=>?_) (λ_=>?_)];rfl
 ·unfold qX;simp only;rw [jN hk,aI,sD 0 hk,aB,bT hk (by omega)];have h1:=aLT (d:=d.take (k+1)) λx hx=>h x (List.mem_of_mem_take hx);rw [←aKE hk,cB (by simp at h1;omega)]
 ·unfold qX;simp only;rw [kV (bJ _),aW,List.take_length]
theorem aLU {q:Qv} {d:List Int} (hq:bQ q) (hd:bI d):sZ q d=some (aBG q d):=by
 unfold sZ aBG;rw [aIm hq,aB];refine nD λ_=>nD λ_=>?_;rw [aBF hd,aB];refine nD λh=>?_;rw [aIn (λx hx=>sP (List.all_eq_true.1 h x hx)) hd,aB]
theorem aFu {q:Qv} {d:List Int} (hq:bQ q) (hd:bI d):pL q d=some (aBG q d):=by
 unfold bI at hd;unfold pL aBG;rw [aCq hq,aB];refine nX λ_=>nX λ_=>?_;cases hall:d.all (λx=>yT x 0 4) with
 |true=>
  have hb: ∀ x∈d,0≤x∧x≤4:=λx hx=>sP (List.all_eq_true.1 hall x hx);rw [dR (r:= .inl d.sum) (λk=>((d.take k).sum,(k:Int))) d.length (by simp) (λk hk=>?_) (λ_=>?_)];rfl
  ·unfold iN;simp only;rw [jN hk,aI,sD 0 hk,aB,yL,aB];have hin:yT (d[k]?.getD 0) 0 4=true:=by rw [gS hk];exact List.all_eq_true.1 hall _ (List.getElem_mem hk)
   rw [hin,iC,aW,aB,bT hk (by omega)];have h1:=aLT (d:=d.take (k+1)) λx hx=>hb x (List.mem_of_mem_take hx);rw [←aKE hk,cB (by simp at h1;omega)]
  ·unfold iN;simp only;rw [kV (bJ _),aW,List.take_length]
 |false=>
  have key:=aCd (body:=iN d) (s:=(0,0)) (λs=> ∃ k:Nat,s.2=k∧k≤d.length∧ ∀ j,j<k→yT (d[j]?.getD 0) 0 4=true) (λs=>d.length - s.2.toNat) (λr=>r= .inr false)
   ⟨0,rfl,Nat.zero_le _,λj hj=>absurd hj (Nat.not_lt_zero _)⟩ (λs ⟨k,hs,hk,hj⟩=>?_)
  ·obtain ⟨r,h1,h2⟩:=key;rw [h1,h2];rfl
  ·obtain ⟨t,s2⟩:=s;simp only at hs;subst hs;rcases dI k d.length with hlt|hge
   ·unfold iN;simp only;rw [jN hlt,aI,sD 0 hlt,aB,yL,aB];cases hin:yT (d[k]?.getD 0) 0 4 with
    |false=>exact .inr ⟨_,rfl,rfl⟩
    |true=>
     rw [iC,aW,aB,bT hlt (by omega)];refine .inl ⟨_,rfl,⟨k+1,rfl,hlt,λj hj2=>?_⟩,by simp;omega⟩;by_cases e:j=k
     ·subst e;exact hin
     ·exact hj j (by omega)
   ·exfalso
    have:d.all (λx=>yT x 0 4)=true:=by
     rw [←zD 0 d,tU];exact λj hj'=>hj j (by omega)
    rw [hall] at this;cases this
theorem vH {q:Qv} {d:List Int} (h:aBG q d=true):xU q=true∧(d.length:Int)=q.n∧(∀ x∈d,0≤x∧x≤4)∧d.sum≤8:=by
 unfold aBG at h;simp only [cU,iK,List.all_eq_true] at h;exact ⟨h.1,h.2.1,λx hx=>sP (h.2.2.1 x hx),h.2.2.2⟩
def aAh (r:Rp):Bool:=xD r.p&&(aBG r.q r.dims&&(decide ((r.maps.length:Int)=(r.q.src.length:Int))&&(List.range r.maps.length).all λk=>
 aIl r.p (r.maps[k]?.getD ⟨0,0,[]⟩)&&(decide ((r.maps[k]?.getD ⟨0,0,[]⟩).cols=r.dims[(r.q.src[k]?.getD 0).toNat]?.getD 0)&&decide ((r.maps[k]?.getD ⟨0,0,[]⟩).rows=r.dims[(r.q.tgt[k]?.getD 0).toNat]?.getD 0))))
theorem tB {α:Type} {l:List α} {k:Nat} (d:α) (h:k<l.length):l[k]?.getD d∈l:=by rw [gS h];exact List.getElem_mem h
theorem aHl {r:Rp} (h:bR r):sY r=some (aAh r):=by
 obtain ⟨h1,h2,⟨h3,h4⟩,_⟩:=h;unfold sY aAh;rw [aCp,aB];refine nX λhF=>?_;rw [aFu h1 h2,aB];refine nX λhD=>?_;obtain ⟨hQ,hd1,hd2,_⟩:=vH hD;obtain ⟨n,hn,_,_,hq1,hq2,hq3,hq4⟩:=xV hQ;refine nX λhL=>?_;have hL:=of_decide_eq_true hL;rw [aDW (λk=>aIl r.p (r.maps[k]?.getD ⟨0,0,[]⟩)&&(decide ((r.maps[k]?.getD ⟨0,0,[]⟩).cols=r.dims[(r.q.src[k]?.getD 0).toNat]?.getD 0)&&decide ((r.maps[k]?.getD ⟨0,0,[]⟩).rows=r.dims[(r.q.tgt[k]?.getD 0).toNat]?.getD 0))) false (n:=r.maps.length) (by omega) (λk hk=>?_) (λ_=>?_),aB]
 ·cases (List.range r.maps.length).all _ <;> rfl
 ·have hs:=hq3 _ (tB 0 (show k<r.q.src.length by omega));have ht:=hq4 _ (tB 0 (show k<r.q.tgt.length by omega));unfold rE;rw [jN hk,aI,sD ⟨0,0,[]⟩ hk,aB,aNL _ (h4 _ (tB _ hk)),aB,aB,sD 0 (by omega),aB,atI 0 hs.1 (by omega),aB,aB,sD 0 (by omega),aB,atI 0 ht.1 (by omega),aB];cases aIl r.p _ <;> cases decide ((r.maps[k]?.getD _).cols=_) <;> cases decide ((r.maps[k]?.getD _).rows=_) <;> rfl
 ·unfold rE;rw [kV (bJ _),aW]
theorem aQJ {a b:Rp} (ha:bR a) (hb:bR b):wI a b=some (aAh a&&(aAh b&&(decide (a.p=b.p)&&decide (a.q=b.q)))):=by
 unfold wI;rw [aHl ha,aB];refine nD λ_=>?_;rw [aHl hb,aB];refine nD λ_=>nD λ_=>?_;rw [aNJ ha.1,aB]
end
noncomputable section
theorem aLV {a b:Int} (ha:0≤a∧a≤5) (hb:0≤b∧b≤5):0≤a*b∧a*b≤25:=by
 refine ⟨Int.mul_nonneg ha.1 hb.1,?_⟩;have:=Int.mul_le_mul ha.2 hb.2 hb.1 (by decide:(0:Int)≤5);omega
theorem xW {x p:Int} (hp:xD p=true):0≤x % p∧x % p<p:=by
 have:=jD hp;exact ⟨Int.emod_nonneg _ (by omega),Int.emod_lt_of_pos _ (by omega)⟩
theorem aAQ {p x:Int} (hp:xD p=true) (hx: -4611686018427387904≤x∧x≤4611686018427387904):hZ p x=some (x % p):=by
 have hb:=jD hp;have hr:=aFV x p (by omega);unfold hZ;rw [dQ (by omega),Bool.not_false,aI];rcases aFW x p (by omega) with ⟨h,e⟩|⟨h,e⟩
 ·rw [dQ (by omega),aW,e]
 ·rw [bF h,aI,cB (by omega),e];congr 1;omega
theorem aKF {p x:Int} (hp:xD p=true):pR p x=some (x % p):=by
 have hb:=jD hp;have hr:=aFV x p (by omega);unfold pR;rw [aEu,hp,aB,iC,aW,dQ (by omega),Bool.not_false,aI,aI,cB (by omega),aMy _ _ (by omega)]
theorem aLW {p x:Int} (hp:xD p=true) {k:Nat} (hk:k≤1000):rD p x k=some (aIY p (x % p) k):=by
 have hb:=jD hp;unfold rD;rw [aEu,hp,aB,iC,aW,aFs,aFU (by omega) (by omega),aB,iC,aW];rw [dR (r:=aIY p (x % p) k) (λt=>(aIY p (x % p) t,(t:Int))) k (by rfl) (λt ht=>?_) (λ_=>?_),aB]
 ·unfold nC;simp only;have h1:=aMI hp (xW (x:=x) hp) t;have h2:=xW (x:=x) hp;have h3:=aLV (a:=aIY p (x % p) t) (b:=x % p) (by omega) (by omega);rw [jN ht,aI,aKF hp,aB,dQ (by omega),Bool.not_false,aI,bT ht (by omega),cB (by omega),Int.tmod_eq_emod_of_nonneg h3.1];rfl
 ·unfold nC;simp only;rw [kV (bJ _),aW]
theorem aNM {p x:Int} (hp:xD p=true):pA p x=some (aBy p (x % p)):=by
 have hb:=jD hp;unfold pA aBy;rw [aEu,hp,aB,iC,aW,cB (by omega)];have e:max (p - 2) 1=(((max (p - 2) 1).toNat:Nat):Int):=by omega
 rw [e,aLW hp (by omega),aB,cO]
theorem aNN {p x:Int} (hp:xD p=true) (hx: -4611686018427387904≤x∧x≤4611686018427387904):oZ p x=some (aBy p (x % p)):=by
 have hb:=jD hp;have h2:=xW (x:=x) hp;obtain ⟨n,hn⟩: ∃ n:Nat,p=n:=⟨p.toNat,by omega⟩;unfold oZ;rw [aDV (s0:=1) (s:=1) (n:=n) (λk:Nat=>bif decide ((x % p*k) % p=1) then some (k:Int) else none) rfl (by omega) (by omega) (λk h1 hk=>?_) (λ_=>?_),aB]
 ·cases e:(List.range' 1 (n - 1)).findSome? (λk:Nat=>bif decide ((x % p*k) % p=1) then some (k:Int) else none) with
  |none=>
   rw [List.findSome?_eq_none_iff] at e;rw [aOJ hp h2 λy h3 h4 h5=>?_];rfl;have:=e y (by simp;omega);rw [bF h5] at this;cases this
  |some i=>
   obtain ⟨k,hk,he⟩:=List.exists_of_findSome?_eq_some e;simp at hk;cases hd:decide ((x % p*k) % p=1) with
   |false=>rw [hd] at he;cases he
   |true=>
    rw [hd] at he;cases he;rw [aPw hp h2 (y:=k) (by omega) (of_decide_eq_true hd)];rfl
 ·unfold kN;have h3:=aLV (a:=x % p) (b:=k) (by omega) (by omega);rw [bF (by omega),aI,aCp,hp,aB,aI,aAQ hp hx,aB,cB (by omega),aAQ hp (by omega),aB];cases decide (x % p*k % p=1) <;> rfl
 ·unfold kN;rw [dQ (by omega),aW]
theorem aMU {r c i:Nat} (hi:i<r):(i+1)*c≤r*c:=Nat.mul_le_mul_right c hi
theorem ixw {r c i j:Nat} (hN:r*c≤1048576) (hi:i<r) (hj:j<c):wr (wr ((i:Int)*(c:Int))+(j:Int))=((i*c+j:Nat):Int):=wix (by have:=aFX hi hj;omega)
theorem atT {r c i j:Nat} (hN:r*c≤1048576) (hi:i<r) (hj:j<c) (F:Nat→Nat→Int):cE (bZ r c F) (wr (wr ((i:Int)*(c:Int))+(j:Int)))=some (F i j):=by rw [ixw hN hi hj,aPx F hi hj]
theorem aOh {r c i j:Nat} (hN:r*c≤1048576) (hi:i<r) (hj:j<c) (F:Nat→Nat→Int) (v:Int):(bZ r c F).set (wr (wr ((i:Int)*(c:Int))+(j:Int))).toNat v=bZ r c (aEX F i j v):=by rw [ixw hN hi hj,cO,zE F v hi hj]
theorem vR {r c i:Nat} (hN:r*c≤1048576) (hi:i<r):wr ((i:Int)*(c:Int))=((i*c:Nat):Int):=aGr (by have:= @aMU r c i hi;rw [Nat.succ_mul] at this;omega)
theorem vS {r c i:Nat} (hN:r*c≤1048576) (hr:r≤1048576) (hi:i<r):wr (wr ((i:Int)+1)*(c:Int))=((i*c+c:Nat):Int):=by
 have:= @aMU r c i hi;rw [bT hi (by omega),aGr (by omega),Nat.succ_mul]
def aAi (c:Nat) (f:Nat→Int):List Int:=(List.range c).map f
theorem nY (c:Nat) (f:Nat→Int):(aAi c f).length=c:=by simp [aAi]
theorem aIo {c:Nat} (f:Nat→Int) {j:Nat} (h:j<c):cE (aAi c f) (j:Int)=some (f j):=by rw [dY (by rw [nY];exact h)];simp [aAi]
theorem aHm {r c i:Nat} (hN:r*c≤1048576) (hr:r≤1048576) (hi:i<r) (F:Nat→Nat→Int):eB ⟨r,c,bZ r c F⟩ i=some ():=by
 have:= @aMU r c i hi;rw [Nat.succ_mul] at this;unfold eB;simp only;rw [vR hN hi,vS hN hr hi,iE,bF (by omega),bF (by omega:((i*c:Nat):Int)≤((i*c+c:Nat):Int)),bF (by omega:((i*c+c:Nat):Int)≤((r*c:Nat):Int))];rfl
theorem aOi {r c i:Nat} (hN:r*c≤1048576) (hr:r≤1048576) (hi:i<r) (F:Nat→Nat→Int):aFc ⟨r,c,bZ r c F⟩ i=some (aAi c (F i)):=by
 have h:= @aMU r c i hi;rw [Nat.succ_mul] at h;unfold aFc vE aBC;simp only;rw [vR hN hi,vS hN hr hi,iE,bF (by omega),bF (by omega:((i*c:Nat):Int)≤((i*c+c:Nat):Int)),bF (by omega:((i*c+c:Nat):Int)≤((r*c:Nat):Int))];simp only [Bool.and_self,aI,cO];congr 1;refine List.ext_getElem (by simp [iE,nY];omega) λt h1 h2=>?_;rw [nY] at h2;rw [List.getElem_take,List.getElem_drop];simp [bZ,aAi,aAL h2,aAM h2]
def aGx (p:Int) (F:Nat→Nat→Int) (i:Nat) (k:Int) (g:Nat→Int):Nat→Nat→Int:=λa b=>if a=i then (F i b+k*g b) % p else F a b
theorem gd (x:Nat):(decide (0≤(x:Int))&&true)=true:=by rw [bF (by omega)];rfl
theorem aRW {p:Int} (hp:xD p=true):(!decide (p=0))=true:=by have:=jD hp;rw [dQ (by omega)];rfl
theorem aKG {p:Int} (hp:xD p=true) {r c i:Nat} (hc:c≤1048576) (hi:i<r) {F:Nat→Nat→Int} {g:Nat→Int} {k:Int} (hk:0≤k∧k≤5) (hF: ∀ b,b<c→0≤F i b∧F i b<p) (hg: ∀ b,b<c→0≤g b∧g b<p):
  jU p (bZ r c F) (i*c) c k (aAi c g)=some (bZ r c (aGx p F i k g)):=by
 have hb:=jD hp;unfold jU;rw [dR (r:=bZ r c (aGx p F i k g)) (λx=>(bZ r c (λa b=>if a=i∧b<x then (F i b+k*g b) % p else F a b),(x:Int))) c (by simp) (λx hx=>?_) (λ_=>?_)];rfl
 ·have h1:=hF x hx;have h2:=hg x hx;have h3:=aLV hk (show 0≤g x∧g x≤5 by omega);unfold kC;simp only;rw [nY,jN hx,aI,aIo _ hx,aB,gd x,aI,cO,lU _ hi hx,aB,aRW hp,aI,aI,aB,zE _ _ hi hx,bT hx (by omega)];rw [aO (by omega),cB (x:=k*g x) (by omega),cB (by omega),Int.tmod_eq_emod_of_nonneg (by omega)];congr 3;refine cY λa b ha hb=>?_;simp only [aEX];by_cases e1:a=i∧b=x
  ·obtain ⟨rfl,rfl⟩:=e1;rw [aP ⟨rfl,rfl⟩,aP ⟨rfl,by omega⟩]
  ·rw [aO e1];by_cases e2:a=i∧b<x
   ·rw [aP e2,aP ⟨e2.1,by omega⟩]
   ·rw [aO e2,aO (by omega)]
 ·unfold kC;simp only;rw [nY,kV (bJ _),aW];congr 2;refine cY λa b ha hb=>?_;simp only [aGx];by_cases e:a=i
  ·rw [aP ⟨e,hb⟩,aP e]
  ·rw [aO (by omega),aO e]
theorem aNP {p:Int} (hp:xD p=true) {r c i j:Nat} (hc:c≤1048576) (hi:i<r) (hj:j<r) (hij:i≠j) {F:Nat→Nat→Int} {k:Int} (hk:0≤k∧k≤5) (hF: ∀ b,b<c→0≤F i b∧F i b<p) (hg: ∀ b,b<c→0≤F j b∧F j b<p):
  iM p (bZ r c F) (i*c) c k (j*c) c=some (bZ r c (aGx p F i k (F j))):=by
 have hb:=jD hp;unfold iM;rw [dR (r:=bZ r c (aGx p F i k (F j))) (λx=>(bZ r c (λa b=>if a=i∧b<x then (F i b+k*F j b) % p else F a b),(x:Int))) c (by simp) (λx hx=>?_) (λ_=>?_)];rfl
 ·have h1:=hF x hx;have h2:=hg x hx;have h3:=aLV hk (show 0≤F j x∧F j x≤5 by omega);unfold gH;simp only;rw [jN hx,aI,gd x,aI,cO,lU _ hj hx,aB,aI,lU _ hi hx,aB,aRW hp,aI,aI,aB,zE _ _ hi hx,bT hx (by omega)];rw [aO (by omega),aO (by omega),cB (x:=k*F j x) (by omega),cB (by omega),Int.tmod_eq_emod_of_nonneg (by omega)];congr 3;refine cY λa b ha hb=>?_;simp only [aEX];by_cases e1:a=i∧b=x
  ·obtain ⟨rfl,rfl⟩:=e1;rw [aP ⟨rfl,rfl⟩,aP ⟨rfl,by omega⟩]
  ·rw [aO e1];by_cases e2:a=i∧b<x
   ·rw [aP e2,aP ⟨e2.1,by omega⟩]
   ·rw [aO e2,aO (by omega)]
 ·unfold gH;simp only;rw [kV (bJ _),aW];congr 2;refine cY λa b ha hb=>?_;simp only [aGx];by_cases e:a=i
  ·rw [aP ⟨e,hb⟩,aP e]
  ·rw [aO (by omega),aO e]
theorem aOj {r c:Nat} (hN:r*c≤1048576):(decide (0≤wr ((r:Int)*(c:Int)))&&decide (wr ((r:Int)*(c:Int))≤1048576))=true:=by
 rw [aGr (by omega),bF (by omega),bF (by omega)];rfl
theorem aFv {r c:Nat} (hN:r*c≤1048576):mO r c=some ⟨r,c,bZ r c λ_ _=>0⟩:=by
 unfold mO;rw [aOj hN,aI,aGr (by omega),cO,aHY]
theorem aOk {r c:Nat} (hN:r*c≤1048576):uS r c=some ⟨r,c,bZ r c λ_ _=>0⟩:=by
 unfold uS;rw [aOj hN,aI,aGr (by omega),cO,aHY]
def aLX (F G:Nat→Nat→Int) (i j:Nat):Nat→Int
 |0=>0
 |k+1=>aLX F G i j k+F i k*G k j
def aKH (p:Int) (F G:Nat→Nat→Int) (i j:Nat):Nat→Int
 |0=>0
 |k+1=>(aKH p F G i j k+F i k*G k j) % p
theorem aIp {p:Int} (hp:xD p=true) (F G:Nat→Nat→Int) (i j:Nat): ∀ k,aKH p F G i j k=aLX F G i j k % p
 |0=>by simp [aKH,aLX]
 |k+1=>by rw [aKH,aLX,aIp hp F G i j k];simp [Int.add_emod]
def aDg (p:Int) (n:Nat) (F G:Nat→Nat→Int):Nat→Nat→Int:=λi j=>aLX F G i j n % p
theorem aMV {p:Int} (hp:xD p=true) (n:Nat) (F G:Nat→Nat→Int) (m c:Nat):InP p m c (aDg p n F G):=λi j _ _=>xW hp
theorem aMW {p:Int} (hp:xD p=true) {r n c:Nat} (h1:r*n≤1048576) (h2:n*c≤1048576) (h3:r*c≤1048576) (hr:r≤1048576) (hn:n≤1048576) (hc:c≤1048576) {F G:Nat→Nat→Int} (hF:InP p r n F) (hG:InP p n c G):
  tA p ⟨r,n,bZ r n F⟩ ⟨n,c,bZ n c G⟩=some ⟨r,c,bZ r c (aDg p n F G)⟩:=by
 have hb:=jD hp;have hD: ∀ i j,aKH p F G i j n=aDg p n F G i j:=λi j=>aIp hp F G i j n;unfold tA;simp only;rw [aFv h3,aB];simp only;rw [dR (r:=bZ r c (aDg p n F G)) (λi=>(bZ r c (λa b=>if a<i then aDg p n F G a b else 0),(i:Int))) r (by simp) (λi hi=>?_) (λ_=>?_),aB]
 ·unfold rG;simp only;rw [jN hi,aI,aOi h1 hr hi,aB];rw [dR (r:=bZ r c (λa b=>if a<i+1 then aDg p n F G a b else 0)) (λk=>(bZ r c (λa b=>if a<i then aDg p n F G a b else if a=i then aKH p F G i b k else 0),(k:Int))) n ?_ (λk hk=>?_) (λ_=>?_),aB,bT hi (by omega)]
  ·congr 1
   exact cY λa b ha hb=>by
    by_cases e:a<i
    ·rw [aP e,aP e]
    ·rw [aO e,aO e];simp [aKH]
  ·unfold rF;simp only;have g1:=hF i k hi hk;rw [nY,jN hk,aI,aIo _ hk,aB,aHm h3 hr hi,aB,aOi h2 hn hk,aB,Nat.zero_add,vR h3 hi,vS h3 hr hi,cO,cO,show i*c+c - i*c=c by omega];rw [aKG hp hc hi (by omega) (λb hb=>?_) (λb hb=>hG k b hk hb),aB,iE,iE,bF rfl,aI,bT hk (by omega)]
   ·congr 3;refine cY λa b ha hb=>?_;simp only [aGx];by_cases e:a=i
    ·subst e;simp [aKH]
    ·rw [aO e,aO e,aO e]
   ·rw [aO (by omega),aP rfl,aIp hp];exact xW hp
  ·unfold rF;simp only;rw [nY,kV (bJ _),aW];congr 2;refine cY λa b ha hb=>?_;by_cases e:a<i
   ·rw [aP e,aP (by omega)]
   ·by_cases e2:a=i
    ·subst e2;rw [aO (by omega),aP rfl,aP (by omega),hD]
    ·rw [aO e,aO e2,aO (by omega)]
 ·unfold rG;simp only;rw [kV (bJ _),aW];congr 2;exact cY λa b ha hb=>by rw [aP ha]
end
noncomputable section
def nZ (L:List Nat):List Int:=L.map λt:Nat=>(t:Int)
theorem iO (L:List Nat):(nZ L).length=L.length:=by simp [nZ]
theorem aFw {p:Int} {m:Nat} {F:Nat→Nat→Int} {j:Nat} (h:(dZ p m F j).2.length=m): ∀ d,dZ p m F (j+d)=dZ p m F j
 |0=>rfl
 |d+1=>by
  show hO p m (dZ p m F (j+d)) (j+d)=_;rw [aFw h d];unfold hO;rw [aP];rw [h,Nat.sub_self];rfl
def aAR (F:Nat→Nat→Int) (a b x:Nat):Nat→Nat→Int:=λi y=>if y<x then vX F a b i y else F i y
def wL (p:Int) (F:Nat→Nat→Int) (a:Nat) (s:Int) (x:Nat):Nat→Nat→Int:=λi y=>if y<x then tW p F a s i y else F i y
def iU (p:Int) (F:Nat→Nat→Int) (a j x:Nat):Nat→Nat→Int:=λi c=>if i<x then xP p F a j i c else F i c
theorem aHn {r c a b x:Nat} (F:Nat→Nat→Int):bZ r c (aEX (aEX (aAR F a b x) a x (F b x)) b x (F a x))=bZ r c (aAR F a b (x+1)):=by
 refine cY λi y hi hy=>?_;simp only [aEX,aAR,vX];by_cases e:y=x
 ·subst e;simp only [and_true,Nat.lt_irrefl,if_false,Nat.lt_succ_self,if_true];by_cases e1:i=b
  ·rw [aP e1];by_cases e2:i=a
   ·rw [aP e2];subst e1;rw [e2]
   ·rw [aO e2,aP e1]
  ·rw [aO e1];by_cases e2:i=a
   ·rw [aP e2,aP e2]
   ·rw [aO e2,aO e2,aO e1]
 ·rw [aO (by omega),aO (by omega)];by_cases e1:y<x
  ·rw [aP e1,aP (show y<x+1 by omega)]
  ·rw [aO e1,aO (show ¬ y<x+1 by omega)]
theorem aBc {F:Nat→Nat→Int} {a b x i:Nat} :aAR F a b x i x=F i x:=by simp [aAR]
theorem aFx {p:Int} {F:Nat→Nat→Int} {a x i:Nat} {s:Int} :wL p F a s x i x=F i x:=by simp [wL]
theorem aFy {p:Int} {r c a x:Nat} {s:Int} (F:Nat→Nat→Int):bZ r c (aEX (wL p F a s x) a x ((F a x*s) % p))=bZ r c (wL p F a s (x+1)):=by
 refine cY λi y hi hy=>?_;simp only [aEX,wL,tW];by_cases e:y=x
 ·subst e;simp only [and_true,Nat.lt_irrefl,if_false,Nat.lt_succ_self,if_true]
 ·rw [aO (by omega)];by_cases e1:y<x
  ·rw [aP e1,aP (show y<x+1 by omega)]
  ·rw [aO e1,aO (show ¬ y<x+1 by omega)]
theorem aMX {p r:Int} (hp:xD p=true) (hr:0≤r∧r<p):0≤aBy p r∧aBy p r<p:=aMI hp hr _
theorem aKI {p:Int} {m n k r:Nat} {F:Nat→Nat→Int} (h:InP p m n F) (hk:k<m) (hr:r<m):InP p m n (vX F k r):=by
 intro i c hi hc;unfold vX;split
 ·exact h r c hr hc
 ·split
  ·exact h k c hk hc
  ·exact h i c hi hc
theorem aHo {p:Int} (hp:xD p=true) {m n k:Nat} {s:Int} {F:Nat→Nat→Int} (h:InP p m n F):InP p m n (tW p F k s):=by
 intro i c hi hc;unfold tW;split
 ·exact xW hp
 ·exact h i c hi hc
theorem aNQ {p:Int} (hp:xD p=true) {m n k j x:Nat} {F:Nat→Nat→Int} (h:InP p m n F):InP p m n (iU p F k j x):=by
 intro i c hi hc;unfold iU xP;split
 ·split
  ·rename_i h1 h2;subst h2;exact h _ c hi hc
  ·exact xW hp
 ·exact h i c hi hc
theorem aOl {p:Int} (hp:xD p=true) {m n k j x:Nat} {F:Nat→Nat→Int} (hx:x≠k):bZ m n (aGx p (iU p F k j x) x (p - F x j) (iU p F k j x k))=bZ m n (iU p F k j (x+1)):=by
 refine cY λi c hi hc=>?_;simp only [aGx,iU,xP];by_cases e:i=x
 ·subst e;rw [aP rfl,aO (Nat.lt_irrefl _),aP (Nat.lt_succ_self _),aO hx];simp only [if_true,ite_self];rw [show F i c+(p - F i j)*F k c=(F i c - F i j*F k c)+p*F k c by rw [Int.sub_mul];omega,Int.add_mul_emod_self_left]
 ·rw [aO e];by_cases e1:i<x
  ·rw [aP e1,aP (show i<x+1 by omega)]
  ·rw [aO e1,aO (show ¬ i<x+1 by omega)]
theorem aHp {p:Int} {m n k j:Nat} {F:Nat→Nat→Int} :bZ m n (iU p F k j k)=bZ m n (iU p F k j (k+1)):=by
 refine cY λi c hi hc=>?_;simp only [iU,xP];by_cases e:i<k
 ·rw [aP e,aP (show i<k+1 by omega)]
 ·rw [aO e];by_cases e1:i=k
  ·subst e1;simp
  ·rw [aO (show ¬ i<k+1 by omega)]
theorem aFz {p:Int} {F:Nat→Nat→Int} {k r j:Nat} :qV p F k r j=xP p (tW p (vX F k r) k (aBy p (F r j))) k j:=rfl
structure Tb (p:Int) (m n:Nat) (F:Nat→Nat→Int):Prop where
 hp:xD p=true
 hN:m*n≤1048576
 hm:m≤1048576
 hn:n≤1048576
 hi:InP p m n F
theorem aRX {p:Int} {m n:Nat} {F:Nat→Nat→Int} (T:Tb p m n F) {j:Nat} (hj:j<n) (L:List Nat) (hL:L.length≤m) (l:List Int):
  Lp (mF ⟨m,n,l⟩ ((j:Int),bZ m n F,nZ L)) (((nZ L).length:Nat):Int)=some ((lW F j (m - L.length) L.length:Nat):Int):=by
 obtain ⟨hp,hN,hm,hn,hi⟩:=T;have hle:= @zF F j (m - L.length) L.length;have hz:= @aCA F j (m - L.length) L.length;have hh:= @aDX F j (m - L.length) L.length;generalize lW F j (m - L.length) L.length=r at*;rw [iO];refine dR (λt=>((L.length+t:Nat):Int)) (r - L.length) (by simp) (λt ht=>?_) (λ_=>?_)
 ·unfold mF;simp only
  rw [jN (by omega),aI,aHm hN hm (by omega),aB,vR hN (by omega),vS hN hm (by omega),cO,cO,Nat.add_sub_cancel_left,jN hj,gd,aI,Nat.zero_add,cO,lU _ (by omega) hj,aB,
   hz _ (by omega) (by omega),bF rfl,aI,bT (n:=m) (by omega) (by omega),Nat.add_assoc]
 ·rw [show L.length+(r - L.length)=r by omega];unfold mF;simp only;rcases dI r m with h|h
  ·rw [jN h,aI,aHm hN hm h,aB,vR hN h,vS hN hm h,cO,cO,Nat.add_sub_cancel_left,jN hj,gd,aI,Nat.zero_add,cO,lU _ h hj,aB,
    dQ (hh (by omega)),aW]
  ·rw [kV h,aW]
theorem aQK {p:Int} {m n:Nat} {F:Nat→Nat→Int} (T:Tb p m n F) {j:Nat} (hj:j<n) (L:List Nat) (hL:L.length≤m) (l:List Int):
  mG p ⟨m,n,l⟩ ((j:Int),bZ m n F,nZ L)=some (.inl (((j+1:Nat):Int),bZ m n (hO p m (F,L) j).1,nZ (hO p m (F,L) j).2)):=by
 have hpv:=aRX T hj L hL l;obtain ⟨hp,hN,hm,hn,hi⟩:=T;have hb:=jD hp;have hle:= @zF F j (m - L.length) L.length;unfold mG hO;simp only;rw [jN hj,aI,hpv,aB,bT hj (by omega)];clear hpv;generalize lW F j (m - L.length) L.length=r at*;by_cases hr:r=m
 ·rw [bF (by omega),aI,aP hr]
 ·rw [dQ (by omega),aW,aO hr];have hk:L.length<m:=by omega
  have hrm:r<m:=by omega
  simp only [iO];rw [aHm hN hm hk,aB,vR hN hk,vS hN hm hk];simp only [cO,Nat.add_sub_cancel_left,Nat.zero_add];rw [dR (r:=bZ m n (vX F L.length r)) (λx=>(bZ m n (aAR F L.length r x),(x:Int))) n ?_ (λx hx=>?_) (λ_=>?_),aB,jN hj,gd,aI,lU _ hk hj,aB]
  ·have e1:vX F L.length r L.length j=F r j:=by simp [vX]
   have hrj:=hi r j hrm hj;rw [e1,aNM hp,aB,Int.emod_eq_of_lt hrj.1 hrj.2];have hs:=aMX hp hrj;rw [aFz];generalize aBy p (F r j)=s at*;have h1:=aKI hi hk hrm;generalize vX F L.length r=F1 at*;rw [dR (r:=bZ m n (tW p F1 L.length s)) (λx=>(bZ m n (wL p F1 L.length s x),(x:Int))) n ?_ (λx hx=>?_) (λ_=>?_),aB]
   ·have h2:=aHo hp (k:=L.length) (s:=s) h1;generalize tW p F1 L.length s=F2 at*;rw [dR (r:=bZ m n (xP p F2 L.length j)) (λx=>(bZ m n (iU p F2 L.length j x),(x:Int))) m ?_ (λx hx=>?_) (λ_=>?_),aB]
    ·rw [bF (by simp;omega),aI];simp [nZ]
    ·congr 1
    ·unfold pU;simp only [iO];rw [jN hx,aI];by_cases hxk:x=L.length
     ·rw [bF (by omega),iC,aW,bT hx (by omega),hxk,aHp]
     ·rw [dQ (by omega),Bool.not_false,aI,aHm hN hm hx,aB,aB,vR hN hx,vS hN hm hx,vR hN hk,vS hN hm hk];simp only [cO,Nat.add_sub_cancel_left,Nat.zero_add];rw [jN hj,gd,aI,lU _ hx hj,aB];have e2:iU p F2 L.length j x x j=F2 x j:=by simp [iU]
      have h3:=h2 x j hx hj;have h4:=aNQ hp (k:=L.length) (j:=j) (x:=x) h2;rw [e2,cB (by omega),aNP hp hn hx hk hxk (by omega) (λb hb=>h4 _ b hx hb) (λb hb=>h4 _ b hk hb),aB,iE,iE,bF rfl,aI,bT hx (by omega),aOl hp hxk]
    ·unfold pU;simp only;rw [kV (bJ _),aW];congr 2;exact cY λa b ha hb=>by simp only [iU];rw [aP ha]
   ·congr 1
   ·unfold pT;simp only [iO];rw [vR hN hk,vS hN hm hk];simp only [cO,Nat.add_sub_cancel_left,Nat.zero_add];have g1:=h1 _ x hk hx;have g2:=aLV (a:=F1 L.length x) (b:=s) (by omega) (by omega);rw [jN hx,aI,gd,aI,lU _ hk hx,aB,aRW hp,aI,aI,aB,aFx,cB (by omega),Int.tmod_eq_emod_of_nonneg g2.1,zE _ _ hk hx,bT hx (by omega),aFy]
   ·unfold pT;simp only [iO];rw [vR hN hk,vS hN hm hk];simp only [cO,Nat.add_sub_cancel_left,Nat.zero_add];rw [kV (bJ _),aW];congr 2;exact cY λa b ha hb=>by simp only [wL];rw [aP hb]
  ·congr 1
  ·unfold pS;simp only [iO];rw [jN hx,aI,aHm hN hm hrm,aB,aB,vR hN hk,vS hN hm hk,vR hN hrm,vS hN hm hrm];simp only [cO,Nat.add_sub_cancel_left,Nat.zero_add];rw [jN hx,gd,aI,lU _ hrm hx,aB,aI,lU _ hk hx,aB,aI,aB,aI,zE _ _ hk hx,lU _ hrm hx,aB,zE _ _ hrm hx,aBc,aBc,bT hx (by omega),aHn]
  ·unfold pS;simp only;rw [kV (bJ _),aW];congr 2;exact cY λa b ha hb=>by simp only [aAR];rw [aP hb]
theorem aIq {p:Int} {m n:Nat} {F:Nat→Nat→Int} (T:Tb p m n F):uT p ⟨m,n,bZ m n F⟩=some (⟨m,n,bZ m n (dZ p m F n).1⟩,nZ (dZ p m F n).2):=by
 have hN:=T.hN;have hn:=T.hn;unfold uT iX pP;simp only;rw [iE,bF hN,aI,aB,aB];simp only;rw [dR (r:=(bZ m n (dZ p m F n).1,nZ (dZ p m F n).2)) (λj=>((j:Int),bZ m n (dZ p m F j).1,nZ (dZ p m F j).2)) n (by simp [dZ,nZ]) (λj hj=>?_) (λ_=>?_),aB]
 ·show _=some (Sum.inl (((j+1:Nat):Int),bZ m n (hO p m (dZ p m F j) j).1,nZ (hO p m (dZ p m F j) j).2):(Int×List Int×List Int) ⊕ (List Int×List Int));exact aQK ⟨T.hp,T.hN,T.hm,T.hn,aAv (by have:=jD T.hp;omega) T.hi j⟩ hj _ (aBV j) _
 ·unfold mG;simp only;rw [kV (bJ _),aW]
theorem aLY {p:Int} {m n:Nat} {F:Nat→Nat→Int} (T:Tb p m n F):xT p ⟨m,n,bZ m n F⟩=some ((dZ p m F n).2.length:Int):=by
 unfold xT;rw [aIq T,aB,iO]
theorem aRY {p:Int} {m n:Nat} {F:Nat→Nat→Int} (T:Tb p m n F) {j:Nat} (hj:j<n) (L:List Nat) (hL:L.length<m) (l:List Int):
  Lp (jV ⟨m,n,l⟩ ((j:Int),bZ m n F,nZ L,(L.length:Int))) (-1,wr ((m:Int) - 1))=some (if lW F j (m - L.length) L.length=m then -1 else ((lW F j (m - L.length) L.length:Nat):Int)):=by
 obtain ⟨hp,hN,hm,hn,hi⟩:=T;refine dR (λt=>(if lW F j t (m - t)=m then -1 else ((lW F j t (m - t):Nat):Int),((m - t:Nat):Int) - 1)) (m - L.length) ?_ (λt ht=>?_) (λ_=>?_)
 ·simp only [lW,Nat.sub_zero,if_true];rw [cB (by omega)]
 ·unfold jV;simp only;have e:((m - t:Nat):Int) - 1=((m - (t+1):Nat):Int):=by omega
  have hi2:m - (t+1)<m:=by omega
  rw [e,bF (by omega),aI,atT hN hi2 hj,aB,cB (x:=((m - (t+1):Nat):Int) - 1) (by omega)]
  have ep:lW F j (t+1) (m - (t+1))=if F (m - (t+1)) j=0 then lW F j t (m - t) else m - (t+1):=by
   rw [lW,show m - (t+1)+1=m - t by omega]
  rw [ep];by_cases h:F (m - (t+1)) j=0
  ·rw [bF h,iC,aW,aP h]
  ·rw [dQ h,Bool.not_false,aI,aO h,aO (by omega)]
 ·rw [show m - (m - L.length)=L.length by omega];unfold jV;simp only;rw [dQ (by omega),aW]
theorem aQL {p:Int} {m n:Nat} {F:Nat→Nat→Int} (T:Tb p m n F) {j:Nat} (hj:j<n) (L:List Nat) (hL:L.length<m) (l:List Int):
  fX p ⟨m,n,l⟩ ((j:Int),bZ m n F,nZ L,(L.length:Int))=some (.inl (((j+1:Nat):Int),bZ m n (hO p m (F,L) j).1,nZ (hO p m (F,L) j).2,((hO p m (F,L) j).2.length:Int))):=by
 have hpv:=aRY T hj L hL l;obtain ⟨hp,hN,hm,hn,hi⟩:=T;have hb:=jD hp;have hle:= @zF F j (m - L.length) L.length;unfold fX hO;simp only;rw [jN hj,aI,jN hL,aI,hpv,aB,bT hj (by omega)];clear hpv;generalize lW F j (m - L.length) L.length=r at*;have hk:L.length<m:=hL;by_cases hr:r=m
 ·rw [aP hr,aP hr,bF (by omega),aI]
 ·rw [aO hr,aO hr,dQ (by omega),aW];have hrm:r<m:=by omega
  rw [dR (r:=bZ m n (vX F L.length r)) (λx=>(bZ m n (aAR F L.length r x),(x:Int))) n ?_ (λx hx=>?_) (λ_=>?_),aB,atT hN hk hj,aB]
  ·have e1:vX F L.length r L.length j=F r j:=by simp [vX]
   have hrj:=hi r j hrm hj;rw [e1,aNN hp (by omega),aB,Int.emod_eq_of_lt hrj.1 hrj.2];have hs:=aMX hp hrj;rw [aFz];generalize aBy p (F r j)=s at*;have h1:=aKI hi hk hrm;generalize vX F L.length r=F1 at*;rw [dR (r:=bZ m n (tW p F1 L.length s)) (λx=>(bZ m n (wL p F1 L.length s x),(x:Int))) n ?_ (λx hx=>?_) (λ_=>?_),aB]
   ·have h2:=aHo hp (k:=L.length) (s:=s) h1;generalize tW p F1 L.length s=F2 at*;rw [dR (r:=bZ m n (xP p F2 L.length j)) (λx=>(bZ m n (iU p F2 L.length j x),(x:Int))) m ?_ (λx hx=>?_) (λ_=>?_),aB]
    ·rw [iO,bF (by simp;omega),aI,bT hk (by omega)];simp [nZ]
    ·congr 1
    ·unfold nB;simp only;rw [jN hx,aI,atT hN hx hj,aB,bT hx (by omega)];have e2:iU p F2 L.length j x x j=F2 x j:=by simp [iU]
     rw [e2];by_cases hxk:x=L.length
     ·rw [eN (r:=bZ m n (iU p F2 L.length j x)) ?_,aB,hxk,aHp];unfold jW;simp only;rcases Nat.eq_zero_or_pos n with h0|h0
      ·omega
      ·rw [bF (by omega),aI,bF (by omega),iC,aW]
     ·rw [dR (r:=bZ m n (iU p F2 L.length j (x+1))) (λy=>(bZ m n (λa c=>if a=x∧c<y then xP p F2 L.length j x c else iU p F2 L.length j x a c),(y:Int))) n (by simp) (λy hy=>?_) (λ_=>?_),aB]
      ·unfold jW;simp only;rw [jN hy,aI,dQ (by omega),Bool.not_false,aI,atT hN hx hy,aB,atT hN hk hy,aB];have e3:iU p F2 L.length j x x y=F2 x y:=by simp [iU]
       have e4:iU p F2 L.length j x L.length y=F2 L.length y:=by simp [iU,xP]
       rw [aO (by omega),aO (by omega),e3,e4];have g1:=h2 x j hx hj;have g2:=h2 L.length y hk hy;have g3:=h2 x y hx hy;have g4:=aLV (a:=F2 x j) (b:=F2 L.length y) (by omega) (by omega);rw [cB (x:=F2 x j*F2 L.length y) (by omega),cB (x:=F2 x y - F2 x j*F2 L.length y) (by omega),aAQ hp (by omega),aB,aB,aOh hN hx hy,bT hy (by omega)];congr 3;refine cY λa c ha hc=>?_;simp only [aEX];by_cases e5:a=x∧c=y
       ·rw [aP e5,aP (by omega),e5.2];simp only [xP];rw [aO hxk]
       ·rw [aO e5];by_cases e6:a=x∧c<y
        ·rw [aP e6,aP (by omega)]
        ·rw [aO e6,aO (by omega)]
      ·unfold jW;simp only;rw [kV (bJ _),aW];congr 2;refine cY λa c ha hc=>?_;simp only [iU];by_cases e5:a=x
       ·rw [aP ⟨e5,hc⟩,aP (by omega),e5]
       ·rw [aO (by omega)];by_cases e6:a<x
        ·rw [aP e6,aP (by omega)]
        ·rw [aO e6,aO (by omega)]
    ·unfold nB;simp only;rw [kV (bJ _),aW];congr 2;exact cY λa b ha hb=>by simp only [iU];rw [aP ha]
   ·congr 1
   ·unfold nA;simp only;have g1:=h1 _ x hk hx;have g2:=aLV (a:=F1 L.length x) (b:=s) (by omega) (by omega);rw [jN hx,aI,atT hN hk hx,aB,aFx,Int.mul_comm,cB (by omega),aAQ hp (by omega),aB,aB,aOh hN hk hx,bT hx (by omega),aFy]
   ·unfold nA;simp only;rw [kV (bJ _),aW];congr 2;exact cY λa b ha hb=>by simp only [wL];rw [aP hb]
  ·congr 1
  ·unfold mZ;simp only;rw [jN hx,aI,atT hN hk hx,aB,atT hN hrm hx,aB,aB,aOh hN hk hx,atT hN hrm hx,aB,aOh hN hrm hx,aBc,aBc,bT hx (by omega),aHn]
  ·unfold mZ;simp only;rw [kV (bJ _),aW];congr 2;exact cY λa b ha hb=>by simp only [aAR];rw [aP hb]
theorem aIr {p:Int} {m n:Nat} {F:Nat→Nat→Int} (T:Tb p m n F):rC p ⟨m,n,bZ m n F⟩=some (⟨m,n,bZ m n (dZ p m F n).1⟩,nZ (dZ p m F n).2):=by
 have hN:=T.hN;have hn:=T.hn;unfold rC yI;simp only;rw [iE,bF (by simp;omega),aI,aB];simp only [List.nil_append]
 obtain ⟨r,h1,h2⟩: ∃ r,Lp (fX p ⟨m,n,bZ m n F⟩) (0,bZ m n F,[],0)=some r∧r=(bZ m n (dZ p m F n).1,nZ (dZ p m F n).2):=by
  refine aCd (λs=> ∃ j:Nat,j≤n∧s=((j:Int),bZ m n (dZ p m F j).1,nZ (dZ p m F j).2,((dZ p m F j).2.length:Int))) (λs=>n - s.1.toNat) _ ⟨0,Nat.zero_le _,by simp [dZ,nZ]⟩ ?_;rintro s ⟨j,hj,rfl⟩;rcases dI j n with hlt|hge
  ·have hlen:= @aBV p m F j;rcases dI (dZ p m F j).2.length m with hl|hl
   ·refine .inl ⟨_,aQL ⟨T.hp,T.hN,T.hm,T.hn,aAv (by have:=jD T.hp;omega) T.hi j⟩ hlt _ hl _,⟨j+1,hlt,rfl⟩,?_⟩;simp;omega
   ·refine .inr ⟨_,?_,rfl⟩;unfold fX;simp only;have e:=aFw (p:=p) (F:=F) (j:=j) (by omega:(dZ p m F j).2.length=m) (n - j);rw [show j+(n - j)=n by omega] at e;rw [jN hlt,aI,kV hl,aW,e]
  ·have e:j=n:=by omega
   subst e;refine .inr ⟨_,?_,rfl⟩;unfold fX;simp only;rw [kV (bJ _),aW]
 rw [h1,h2,aB]
end
end Go.Proofs.YtpppcfhgaehcjaaGreat

/-
  Several texts of the claim in one.
-/
import Derived.Lib.AppendZerosOnto
import Derived.Test.YtghechfdejhapaaGreatH6
set_option linter.unusedVariables false
set_option linter.unusedSimpArgs false
namespace Go.Proofs.YtghechfdejhapaaGreat
open Go.RowKit
noncomputable section
set_option maxRecDepth 10000
structure HasV (P:Program) (f:FuncId) (ds:List AV) (r:AV):Prop where
 enters:Enters P f
 calls: ∀ (w:World) (args:Array Value) (S:List Nat),RepVs w ds args.toList S→Calls P f args w λe w'=> ∃ v S',e= .returned v∧Below w.heap.size w w'∧RepD w' r v S'∧ ∀ x∈S',x∈S
theorem aGx {w:World} {h:Hp} {u:Us} {ν:Nu} {d:AV} {v:Value} (r:Rep1 w h u ν d v) (ok:fE d=true): ∃ S,RepD w d v S∧ ∀ x∈S,lD h ν x:=by
 cases d <;> simp only [fE,gZ] at ok <;> simp only [Rep1] at r
 ·exact ⟨[],by rw [r.1];exact aEB r.2,by simp⟩
 ·exact r
 ·exact r
theorem aIA {w:World} {h:Hp} {u:Us} {ν:Nu} : ∀ {ds:List AV} {vs:List Value},All2 (Rep1 w h u ν) ds vs→ds.all fE=true→ ∃ S,RepVs w ds vs S∧ ∀ x∈S,lD h ν x
 | [],vs,r,_=>by simp only [All2] at r;subst r;exact ⟨[],by simp [RepVs],by simp⟩
 |d::ds,vs,⟨v,q,e,r1,r2⟩,ok=>by
  subst e;simp only [List.all_cons,dA] at ok;obtain ⟨S1,a1,a2⟩:=aGx r1 ok.1;obtain ⟨S2,b1,b2⟩:=aIA r2 ok.2;refine ⟨S1++S2,by simp only [RepVs];exact ⟨v,q,S1,S2,rfl,rfl,a1,b1⟩,λx hx=>?_⟩;rcases fX.1 hx with h|h
  ·exact a2 x h
  ·exact b2 x h
theorem aUq {w:World} {h:Hp} {u:Us} {ν:Nu} {d:AV} {v:Value} (r:RepA w h u ν d v) (ok:yE d=true): ∃ S,RepD w d v S∧ ∀ x∈S,lD h ν x:=by
 cases d <;> simp only [yE,fE,gZ] at ok <;> simp only [RepA,RepB] at r
 ·exact aGx r rfl
 ·exact aGx r rfl
 ·exact aGx r rfl
 ·obtain ⟨vs,rfl,r⟩:=r;obtain ⟨S,a,b⟩:=aIA r ok;exact ⟨S,by simp only [RepD];exact ⟨vs,rfl,a⟩,b⟩
 ·obtain ⟨vs,rfl,r⟩:=r;obtain ⟨S,a,b⟩:=aIA r ok;exact ⟨S,by simp only [RepD];exact ⟨vs,rfl,a⟩,b⟩
theorem aIB {w:World} {h:Hp} {u:Us} {ν:Nu} : ∀ {ds:List AV} {vs:List Value},All2 (RepA w h u ν) ds vs→ds.all yE=true→ ∃ S,RepVs w ds vs S∧ ∀ x∈S,lD h ν x
 | [],vs,r,_=>by simp only [All2] at r;subst r;exact ⟨[],by simp [RepVs],by simp⟩
 |d::ds,vs,⟨v,q,e,r1,r2⟩,ok=>by
  subst e;simp only [List.all_cons,dA] at ok;obtain ⟨S1,a1,a2⟩:=aUq r1 ok.1;obtain ⟨S2,b1,b2⟩:=aIB r2 ok.2;refine ⟨S1++S2,by simp only [RepVs];exact ⟨v,q,S1,S2,rfl,rfl,a1,b1⟩,λx hx=>?_⟩;rcases fX.1 hx with h|h
  ·exact a2 x h
  ·exact b2 x h
section
variable {P:Program} {dst:Option Tmp} {ty:TypeId} {pos:String} {aft:Array Edge} {g:Option (Nat×Bool)} {ins:Operand→Option AV} {hp:Hp} {κ:Kp}
theorem aMf {fo:Operand} {xs:Array Operand} {ats:Array TypeId} {f:FuncId} {ds:List AV} {k:Nat} {es:List (List AV)} (hc:HasV P f ds (.list k es)) (hf:ins fo=some (.fn f [])) (hx:evs ins xs.toList=some ds) (hok:ds.all yE=true):
  AEff P ⟨dst,.call ⟨.value fo,xs,ats⟩,ty,pos,aft,g⟩ ins hp κ ⟨.list k es,[],[],[]⟩:=by
 refine ⟨λC s ν a w Q K {hκ} hi' ht hnw hd hs hK=>?_⟩;have h1:=hs.ev ((hi' fo (by simp [Op.operands,Call.operands])).trans hf);simp only [RepA,RepB] at h1;obtain ⟨cv,h1,h2⟩:=h1;simp only [All2] at h2;subst h2;have h3:=aEC hs (xs:=xs.toList) (λy hy=>hi' y (by simp [Op.operands,Call.operands];exact .inr (Array.mem_toList_iff.1 hy))) hx;obtain ⟨S,e1,e2⟩:=aIB h3 hok;have hcall:=hc.calls w (xs.map a.eval) S (by simpa using e1);unfold Oper.wp
 have hex:(execOp a.eval ⟨dst,.call ⟨.value fo,xs,ats⟩,ty,pos,aft,g⟩).run P w= .ok (.enter f (xs.map a.eval)) w:=by
  have:execOp a.eval ⟨dst,.call ⟨.value fo,xs,ats⟩,ty,pos,aft,g⟩=callFunc f (xs.map a.eval):=by
   simp [execOp,resolve,h1,Deferred.ofValue,invoke]
  rw [this];exact hc.enters _ _
 rw [hex];simp only [Oper.upon];refine hcall.mono λe w' ⟨v,S',he,hb,hr,hsub⟩=>?_;subst he;simp only;obtain ⟨φ,hh⟩:=hs.heap;have ext:Ext w s.heap s.used ν w' s.heap s.used ν:=⟨λ_ h=>h,λ_ blk _ h=>⟨blk,h,rfl,rfl,rfl⟩,λx hx h=>⟨hb.block x hx,h⟩,rfl⟩;refine hK ν _ _ (hs.step hd (s':=s.app dst _) ext (hb.mono hs.base) ⟨φ,λb blk hbl=>?_,hh.apart⟩ rfl ?_)
 ·obtain ⟨g1,g2,g3,g4⟩:=hh.blk b blk hbl;exact ⟨g1,g2.ext ext rfl (λy hy=>hb.block y (g2.lt y hy)),g3,g4⟩
 ·exact ⟨S',hr,λx hx=>e2 x (hsub x hx)⟩
theorem aSn {T:List (Nat×Ty)} (hT:TyOk P T) {s:AState} {x:Operand} {zl zh:Operand} {t e:Nat} {y ye:Ty} {ao:Option Addr} {n c:Nat} {kl kh:IntKind} {l h:Int} (q:0≤l∧l≤h∧h≤n∧n≤c) (hx:s.ev x=some (.sc (.slice ao n c))) (hlo:s.ev zl=some (.sc (.int kl l))) (hhi:s.ev zh=some (.sc (.int kh h))) (hy:dH T t=some y) (hd:y.desc= .slice e) (hye:dH T e=some ye):
  AEff P ⟨dst,.slice t x (some zl) (some zh) none,ty,pos,aft,g⟩ s.ev s.heap s.kp ⟨.sc (.slice (if c=l.toNat then ao else ao.map (·.add (l.toNat*ye.size))) (h.toNat - l.toNat) (c - l.toNat)),[],[],[]⟩:=by
 refine AEff.pure λC s' ν a w hi' ht hs=>?_;have h1:=hs.ev ((hi' x (by simp [Op.operands])).trans hx);have h2:=hs.ev ((hi' zl (by simp [Op.operands])).trans hlo);have h3:=hs.ev ((hi' zh (by simp [Op.operands])).trans hhi);simp only [RepA,RepB,Rep1] at h1 h2 h3;obtain ⟨i1,z1,d1,y1⟩:=hT.is hy;obtain ⟨i2,z2,d2,y2⟩:=hT.is hye;have hsb:=yS (P:=P) (len:=n) (cap:=c) (lo:=some (.int kl l)) (hi:=some (.int kh h)) w (.inr ⟨kl,rfl⟩) (.inr ⟨kh,rfl⟩) q.1 q.2.1 q.2.2.1 q.2.2.2;refine ⟨_,?_,yQ rfl⟩;simp only [execOp,Instr.sliceAt,Instr.slice,h1.1,h2.1,h3.1,Sem.run_bind,kU (y1.slice hd),Result.andThen_ok,kF y2.info,y2.size,Option.map_none,Option.map_some];rw [hsb];by_cases e:c=l.toNat <;> simp [e]
end
theorem aUr {w:World} {k n c:Nat} {es:List (List AV)} {ao:Option Addr} {S:List Nat} {l h:Int} (r:RepD w (.list k es) (.slice ao n c) S) (q:0≤l∧l≤h∧h≤n): ∃ S',RepD w (.list k ((es.drop l.toNat).take (h.toNat - l.toNat))) (.slice (if c=l.toNat then ao else ao.map (·.add (l.toNat*k))) (h.toNat - l.toNat) (c - l.toNat)) S'∧ ∀ x∈S',x∈S:=by
 simp only [RepD] at r ⊢;obtain ⟨ao',c',h3,h4,h5,h6⟩:=r;cases h3;have hlen:((es.drop l.toNat).take (h.toNat - l.toNat)).length=h.toNat - l.toNat:=by simp;omega
 rw [hlen];by_cases hz:h.toNat - l.toNat=0
 ·refine ⟨[],⟨_,_,rfl,by omega,by omega,.inl ⟨?_,rfl⟩⟩,by simp⟩;rw [hz];simp
 ·rcases h6 with ⟨h6,_⟩|⟨b,o,S',rfl,h8,rfl,h9⟩
  ·have:es.length=0:=by rw [h6];rfl
   omega
  ·rw [aX (by omega)];obtain ⟨U1,g1,g2⟩:=h9.dropT (m:=l.toNat);obtain ⟨U2,g3,g4⟩:=g1.takeT (m:=h.toNat - l.toNat);refine ⟨b::U2,⟨_,_,rfl,by omega,by omega,.inr ⟨b,o+l.toNat*k,U2,by simp [Addr.add_lit],h8,rfl,g3⟩⟩,?_⟩;intro y hy;rcases fU.1 hy with rfl|h'
   ·simp
   ·simp [g2 y (g4 y h')]
def aCV (m:Mt) (i:Int):Int:=wr (i*m.cols)
def aGL (m:Mt) (i:Int):Int:=wr (wr (i+1)*m.cols)
def aJy (m:Mt) (i:Int):Option (List Int):=bif (decide (0≤aCV m i)&&(decide (aCV m i≤aGL m i)&&decide (aGL m i≤(m.cells.length:Int)))) then some ((m.cells.drop (aCV m i).toNat).take ((aGL m i).toNat - (aCV m i).toNat)) else none
theorem aZJ (m:Mt) (i:Int) (ao:Option Addr) (n c:Nat) (q:0≤aCV m i∧aCV m i≤aGL m i∧aGL m i≤n∧n≤c):HasC Tryz.prog 190 [.agg [.int m.rows,.int m.cols,.sc (.slice ao n c)],.int i]
  (.sc (.slice (if c=(aCV m i).toNat then ao else ao.map (·.add ((aCV m i).toNat *1))) ((aGL m i).toNat - (aCV m i).toNat) (c - (aCV m i).toNat))):=by
 refine aCC aJ (rvs:=[.tmp 4]) (ns:=[0,1,2,3,4,5,6,7,8,9,10,11,12,13]) Tryz.func190 rfl rfl Tryz.ntmps190 rfl rfl rfl ?_;refine mF ?_;refine fP ?_;refine bD (aYn rfl rfl rfl rfl) rfl rfl rfl ?_;refine bD (gQ rfl) rfl rfl rfl ?_;refine gL ?_;refine uJ ?_;refine mF ?_;refine fP ?_;refine bD (aCS aJ rfl rfl rfl rfl rfl rfl rfl) rfl rfl rfl ?_;refine bD (eK aJ rfl rfl rfl rfl rfl rfl rfl) rfl rfl rfl ?_;refine bD (eH rfl) rfl rfl rfl ?_;refine bD (aCS aJ rfl rfl rfl rfl rfl rfl rfl) rfl rfl rfl ?_;refine bD (eK aJ rfl rfl rfl rfl rfl rfl rfl) rfl rfl rfl ?_;refine bD (fC rfl rfl) rfl rfl rfl ?_;refine bD (eH rfl) rfl rfl rfl ?_;refine bD (bB rfl rfl) rfl rfl rfl ?_;refine bD (aCS aJ rfl rfl rfl rfl rfl rfl rfl) rfl rfl rfl ?_;refine bD (eK aJ rfl rfl rfl rfl rfl rfl rfl) rfl rfl rfl ?_;refine bD (fC rfl rfl) rfl rfl rfl ?_;refine bD (aSn aJ (l:=aCV m i) (h:=aGL m i) q rfl rfl rfl rfl rfl rfl) rfl rfl rfl ?_;refine bD (gQ rfl) rfl rfl rfl ?_;refine gL ?_;refine uJ ?_;refine aD ?_;exact bK rfl rfl rfl (aZt rfl)
theorem aSo (m:Mt) (i:Int) (r:List Int) (h:aJy m i=some r):HasV Tryz.prog 190 [.agg (eM m),.int i] (.list 1 (List.map eI r)):=by
 obtain ⟨q,h⟩:=cg h;obtain rfl:=so h;simp only [dA,hZ] at q;refine ⟨Enters.mk Tryz.func190 (by kernel_rfl) (by kernel_rfl),λw args S hargs=>?_⟩;obtain ⟨args⟩:=args;simp only [RepVs] at hargs;obtain ⟨v,r,S1,S2,h1,rfl,h3,v2,r2,S3,S4,h4,rfl,h5,rfl,rfl⟩:=hargs;subst h4 h1;simp only [RepD,eM] at h3;obtain ⟨vs,rfl,h3⟩:=h3;simp only [RepVs] at h3;obtain ⟨u1,r1,T1,T2,rfl,rfl,g1,u2,r3,T3,T4,rfl,rfl,g2,u3,r4,T5,T6,rfl,rfl,g3,rfl,rfl⟩:=h3
 have hu3: ∃ ao n c,u3= .slice ao n c∧n=m.cells.length∧n≤c:=by
  simp only [RepD] at g3;obtain ⟨a,c,rfl,g4,_⟩:=g3;exact ⟨_,_,_,rfl,by simp [aWE],g4⟩
 obtain ⟨ao,n,c,rfl,hn,hnc⟩:=hu3
 have hcall:=(aZJ m i ao n c ⟨q.1,q.2.1,by omega,hnc⟩).calls w #[.agg #[u1,u2,.slice ao n c],v2] (T1++(T3++([]++[]))++(S3++[])) (by
  simp only [RepVs];refine ⟨_,_,_,_,rfl,rfl,?_,_,_,_,_,rfl,rfl,h5,rfl,rfl⟩;simp only [RepD];refine ⟨[u1,u2,.slice ao n c],rfl,?_⟩;simp only [RepVs]
  exact ⟨_,_,_,_,rfl,rfl,by simpa only [RepD] using g1,_,_,_,_,rfl,rfl,by simpa only [RepD] using g2,_,_,[],[],rfl,rfl,aEB rfl,rfl,rfl⟩)
 refine hcall.mono λe w' ⟨v,S',he,hb,hr,_⟩=>?_;simp only [aPf,aUf,aFG] at hr;obtain ⟨rfl,_,_⟩:=hr;obtain ⟨U,k1,k2⟩:=aUr (l:=aCV m i) (h:=aGL m i) g3 ⟨q.1,q.2.1,by omega⟩;refine ⟨_,U,he,hb,?_,?_⟩
 ·have hes:((aUi m.cells).drop (aCV m i).toNat).take ((aGL m i).toNat - (aCV m i).toNat)=List.map eI ((m.cells.drop (aCV m i).toNat).take ((aGL m i).toNat - (aCV m i).toNat)):=by
   show ((m.cells.map eI).drop _).take _=_;rw [List.map_take,List.map_drop]
  rw [←hes];exact k1.below hb
 ·intro x hx;have:=k2 x hx;simp [this]
def aWV (hp:Hp) (touch:List Nat):List (Nat×Option Blk)→Prop
 | []=>True
 |(b,x)::r=>hp b=x∧touch.contains b=true∧aWV hp touch r
theorem aKl {hp h:Hp} {touch:List Nat} (ht: ∀ b∈touch,h b=hp b): ∀ {ed:List (Nat×Option Blk)},aWV hp touch ed→bO ed h=h
 | [],_=>rfl
 |(b,x)::r,⟨h1,h2,h3⟩=>by
  funext c;simp only [bO];by_cases e:c=b
  ·subst e;rw [cN,aR,←h1,ht c (by simpa using h2)]
  ·rw [cU e,aZ,aKl ht h3]
theorem AEff.pureE {P:Program} {o:Oper} {ins:Operand→Option AV} {hp:Hp} {κ:Kp} {v:AV} {tc:List Nat} {ed:List (Nat×Option Blk)} (h:AEff P o ins hp κ ⟨v,tc,ed,[]⟩) (hs:aWV hp tc ed):AEff P o ins hp κ ⟨v,tc,[],[]⟩:=by
 refine ⟨λC s ν a w Q K {hκ} hi ht hn hd hsim hK=>h.out C s ν a w Q K (hκ:=hκ) hi ht hn hd hsim λν' a' w' hs'=>hK ν' a' w' ?_⟩
 have e:s.app o.dst ⟨v,tc,ed,[]⟩=s.app o.dst ⟨v,tc,[],[]⟩:=by
  unfold AState.app;rw [aKl ht hs];rfl
 rw [←e];exact hs'
theorem aPq {P:Program} {t tn e bytes:Nat} {size:Nat} (et:ElemTy P t e size bytes) (htn:P.underlying tn=some (.int .i64)) (hs:0<size) (w:World) (n:Nat) (h0:0<n) (hn:n≤1048576) (hb:n*bytes≤140737488355328) (ty:Nat):
  ∃ G cur,n≤G∧G≤maxLen∧cur.size=G*size∧(Builtin.append_ #[t,tn] ty #[.slice none 0 0,.int .i64 n]).run P w= .ok (.slice (some ⟨w.heap.size,0,none⟩) n G) (w.drew.alloc (.cells cur e)):=by
 obtain ⟨i,z,h1,h2,h3,h4,h5⟩:=et.hi;have hold:(Builtin.firstCells i.size 0 (.slice none 0 0)).run P w.drew= .ok ([]:List Value).toArray w.drew:=run_firstCells_none w.drew i.size 0 0 0;have h:=Lib.run_append_grow_zeros w t tn ty e i z .i64 .i64 et.ht htn h1 h2 none 0 0 [] hold n h0 (by rw [h3];exact hs) (by omega) (by omega) (by rw [h4];omega) (growslice_fits (by omega) (by rw [h4];simpa using hb));have hG:=grownCap_ge w (0+n) 0 e;have hM:=grownCap_le_maxLen w (0+n) 0 e (by unfold maxLen;omega);rw [Nat.zero_add] at h hG hM;refine ⟨grownCap w n 0 e,_,hG,hM,?_,h⟩;simp only [Array.size_append,List.size_toArray,List.length_nil,Nat.zero_add];unfold Builtin.zeroCells;simp only [Array.size_map,Array.size_range,h5];rw [←Nat.add_mul];congr 1;omega
set_option maxRecDepth 100000 in
set_option maxHeartbeats 1000000 in
theorem aYA (n:Nat) (w:World) (hn:n≤1048576):
  Calls Tryz.prog 275 #[.slice none 0 0,.int .i64 n] w (Ret w λv w'=> ∃ S,Own 3 aNu w' w.heap.size v [] S):=by
 by_cases h0:n=0
 ·subst h0;show Calls Tryz.prog 275 #[.slice none 0 0,.int .i64 0] w _
  go_enter Tryz.func275,Tryz.ntmps275
  go_wp2
  go_ret
  exact ⟨_,rfl,Below.refl _ _,[],Own.nil _ _ _ _⟩
 ·have h1: ¬ ((n:Int)<0):=by omega
  have h4:(n:Int)>0:=by omega
  have key: ∀ ty,∃ G cur,n≤G∧G≤maxLen∧cur.size=G*1∧(Builtin.append_ #[22,3] ty #[.slice none 0 0,.int .i64 n]).run Tryz.prog w= .ok (.slice (some ⟨w.heap.size,0,none⟩) n G) (w.drew.alloc (.cells cur 3)):=λty=>
   aPq aZz Tryz.underlying3 (by decide) w n (by omega) hn (by omega) ty
  obtain ⟨G,cur,hG,hM,hc,hr0⟩:=key 22;have hG63:G≤9223372036854775807:=by unfold maxLen at hM;omega
  have HE:Hid (Own 3 aNu (w.drew.alloc (.cells cur 3)) w.heap.size (.slice (some ⟨w.heap.size,0,none⟩) 0 G) [] [w.heap.size]∧Below w.heap.size w (w.drew.alloc (.cells cur 3))):=
   ⟨⟨[],[],World.ownsRow_made w.drew cur G (bN _) hM hc,⟨rfl,rfl⟩,rfl,⟨by simp,by simp⟩⟩,((aQb 1 (Below.refl _ _):Below w.heap.size w (w.drewN 1))).alloc (bN _) _⟩
  clear key hM hc
  go_enter Tryz.func275,Tryz.ntmps275
  go_wp2_with (at_builtin;refine Lib.wpList_append_run _ rfl _ _ _ _ rfl _ _ rfl rfl _ _ hr0 ?_)
  all_goals (go_ret;exact ⟨_,rfl,HE.out.2,_,HE.out.1⟩)
def aSp (n:Int):Option (List Int):=bif (decide (0≤n)&&decide (n≤1048576)) then some [] else none
theorem aYB {h:Hp} {k:Nat} :viewA h (.nil k) (.sc (.slice none 0 0)):=rfl
theorem aZK (n:Int) (r:List Int) (h:aSp n=some r):HasC Tryz.prog 275 [.sc (.slice none 0 0),.int n] (.list 1 (List.map eI r)):=by
 obtain ⟨q,h⟩:=cg h;obtain rfl:=so h;simp only [dA,hZ] at q;refine ⟨Enters.mk Tryz.func275 (by kernel_rfl) (by kernel_rfl),λw args S hargs=>?_⟩;obtain ⟨args⟩:=args;simp only [RepVs,RepD] at hargs;obtain ⟨v,r,S1,S2,h1,rfl,⟨rfl,_,rfl⟩,v2,r2,S3,S4,rfl,rfl,⟨rfl,_,rfl⟩,rfl,rfl⟩:=hargs;subst h1;have hc:=aYA n.toNat w (by omega);rw [show ((n.toNat:Nat):Int)=n by omega] at hc;refine hc.mono λe w' ⟨v,he,hb,S2,ho⟩=>?_;obtain ⟨g1,g2⟩:=aRD ho;exact ⟨v,S2,he,hb,g1,g2⟩
theorem aSq {σ:Nat→Option Nat} {n:Nat} {α:Type} {e:α→List AV} {z:α} {zc:List AV} (h:All2 (mV σ n) zc (ow e z)) (m:Nat):All2 (All2 (mV σ n)) (List.replicate m zc) ((List.replicate m z).map (ow e)):=by
 induction m with
 |zero=>rfl
 |succ m ih=>exact ⟨_,_,rfl,h,ih⟩
end
noncomputable section
structure SOps (P:Program) (ops:Array Oper) (nt:Nat) (l:List Oper) (s:AState) (K:AState→Prop):Prop where
 out: ∀ (C:Ctx),C.nt=nt→ ∀ (ν:Nu) (a:Act) (w:World),Sim C s ν a w→ ∀ (n:Nat) (Q:Exit→Act→World→Prop),(∀ s' ν' a' w',K s'→Sim C s' ν' a' w'→Q .normal a' w')→wpListIn (fw C.rd) n P ops Q l a w
section
variable {P:Program} {ops:Array Oper} {nt:Nat} {l:List Oper} {s:AState} {K:AState→Prop}
theorem aWW (h:K s):SOps P ops nt [] s K:=⟨λC hC ν a w hs n Q hQ=>hQ s ν a w h hs⟩
theorem yF {t:AState} (e:Ent s t) (h:SOps P ops nt l t K):SOps P ops nt l s K:=⟨λC hC ν a w hs n Q hQ=>by
 obtain ⟨ν',hs'⟩:=e C ν a w hs
 exact h.out C hC ν' a w hs' n Q hQ⟩
theorem aRE {d:Option Tmp} {op:Op} {ty:TypeId} {pos:String} {aft:Array Edge} {g:Option (Nat×Bool)} {e:Eff} (he:AEff P ⟨d,op,ty,pos,aft,g⟩ s.ev s.heap s.kp e) (hd:aKy ⟨d,op,ty,pos,aft,g⟩ nt=true) (hg:pI ops s.env ⟨d,op,ty,pos,aft,g⟩=some true) (hn:(e.news.all λb=> !s.used b)=true)
  (h:SOps P ops nt l (s.app d e) K):SOps P ops nt (⟨d,op,ty,pos,aft,g⟩::l) s K:=⟨λC hC ν a w hs n Q hQ=>by
 subst hC;refine wpListIn_step λK' hK'=>?_;have hst:aQg P ops C.nt ⟨d,op,ty,pos,aft,g⟩ s e:=⟨aPe hd,.inl ⟨hg,he,λb hb=>by have:=List.all_eq_true.1 hn b hb;simpa using this⟩⟩
 exact aHs hst hs λν' a' w' hs'=>hK' _ _ (h.out C rfl ν' a' w' hs' n Q hQ)⟩
theorem aSr {Q:Exit→AState→Prop} {id:Nat} (h:SOps P l.toArray nt l s (Q .normal)):AC P nt (.region id l.toArray false) s Q:=by
 refine ⟨λC hC ν a w hs n=>?_⟩;exact wpIn_region_lit (h.out C hC ν a w hs n _ λs' ν' a' w' hq hs'=>⟨s',ν',hq,hs'⟩)
end
def df1:AV→Bool
 | .sc _=>true
 | .nil _=>true
 | .dead=>true
 | .own _ _ _=>true
 | .ptr _ _ _=>true
 |_=>false
def dfC:AV→Bool
 | .abs _ _=>true
 |x=>df1 x
def dfB:AV→Bool
 | .agg cs=>cs.all df1
 |x=>df1 x
def dfA:AV→Bool
 | .tuple cs=>cs.all dfB
 |x=>dfB x
section
variable {w w':World} {h h':Hp} {u u':Us} {ν ν':Nu} (U: ∀ b,u b=true→u' b=true) (O: ∀ b blk',u b=true→h' b=some blk'→ ∃ blk,h b=some blk∧blk.k=blk'.k∧blk.es.length=blk'.es.length∧ν' b=ν b)
include U O
theorem aPr: ∀ {x:AV} {v:Value},Rep1 w h u ν x v→df1 x=true→Rep1 w' h' u' ν' x v:=by
 intro x v r t;cases x <;> simp only [df1,gZ] at t <;> simp only [Rep1] at r ⊢
 ·exact r
 ·exact r
 ·refine ⟨U _ r.1,λblk hb=>?_⟩;obtain ⟨blk0,e1,e2,e3,e4⟩:=O _ blk r.1 hb;have:=r.2 blk0 e1;rw [e4,←e3,←e2];exact this
 ·refine ⟨U _ r.1,λblk hb=>?_⟩;obtain ⟨blk0,e1,e2,e3,e4⟩:=O _ blk r.1 hb;have:=r.2 blk0 e1;rw [e4,←e2];exact this
end
section
variable {w w':World} {h h':Hp} {u u':Us} {ν ν':Nu} (U: ∀ b,u b=true→u' b=true) (O: ∀ b blk',u b=true→h' b=some blk'→ ∃ blk,h b=some blk∧blk.k=blk'.k∧blk.es.length=blk'.es.length∧ν' b=ν b)
include U O
theorem aRF: ∀ {xs:List AV} {vs:List Value},All2 (Rep1 w h u ν) xs vs→xs.all df1=true→All2 (Rep1 w' h' u' ν') xs vs
 | [],vs,r,_=>r
 |x::xs,vs,⟨v,q,e,r,k⟩,t=>by
  simp only [List.all_cons,dA] at t;exact ⟨v,q,e,aPr U O r t.1,aRF k t.2⟩
theorem aTu {x:AV} {v:Value} (r:RepB w h u ν x v) (t:dfB x=true):RepB w' h' u' ν' x v:=by
 cases x <;> simp only [RepB] at r ⊢ <;> first
  |exact aPr U O r t
  |(obtain ⟨vs,e,r⟩:=r;exact ⟨vs,e,aRF U O r t⟩)
  |(simp only [dfB,df1,gZ] at t)
theorem aYC {x:AV} {v:Value} (r:RepA w h u ν x v) (t:dfA x=true):RepA w' h' u' ν' x v:=by
 by_cases ht: ∃ cs,x= .tuple cs
 ·obtain ⟨cs,rfl⟩:=ht;obtain ⟨vs,e,r⟩:=r;refine ⟨vs,e,r.congrM λy hy d hd=>aTu U O hd ?_⟩;exact List.all_eq_true.1 t y hy
 ·have r':RepB w h u ν x v:=by cases x <;> first|exact r|exact absurd ⟨_,rfl⟩ ht
  have t':dfB x=true:=by cases x <;> first|exact t|exact absurd ⟨_,rfl⟩ ht
  have:=aTu (w':=w') U O r' t';cases x <;> first|exact this|exact absurd ⟨_,rfl⟩ ht
theorem aYD {x:AV} {v:Value} {S:List Nat} (hk: ∀ b∈S,w'.heap[b]? =w.heap[b]?) (r:CellRep w h u ν x v S) (t:dfC x=true):CellRep w' h' u' ν' x v S:=by
 cases x <;> simp only [CellRep] at r ⊢ <;> first
  |exact ⟨aPr U O r.1 t,r.2⟩
  |exact r.keep hk
  |exact r
theorem aIu: ∀ {xs:List AV} {vs:List Value} {S:List Nat},(∀ b∈S,w'.heap[b]? =w.heap[b]?)→CellsRep w h u ν xs vs S→(∀ c∈xs,dfC c=true)→CellsRep w' h' u' ν' xs vs S
 | [],_,_,_,r,_=>r
 |x::xs,vs,S,hk,⟨v,q,S1,S2,e1,e2,r,k⟩,t=>by
  subst e2;exact ⟨v,q,S1,S2,e1,rfl,aYD U O (λb hb=>hk b (by simp [hb])) r (t x (by simp)),aIu (λb hb=>hk b (by simp [hb])) k (λc hc=>t c (by simp [hc]))⟩
theorem aUs {b:Nat} {blk:Blk} {S:List Nat} (hν:ν' b=ν b) (hk: ∀ x∈S,w'.heap[x]? =w.heap[x]?) (r:BlkOk w h u ν b blk S) (t: ∀ cs∈blk.es,∀ c∈cs,dfC c=true):BlkOk w' h' u' ν' b blk S:=by
 refine ⟨r.1,?_⟩;rcases r.2 with ⟨q1,q2,q3⟩|⟨β,c,arr,ty,T,vs,q1,q2,q3,q4,q5,q6,q7,q8⟩
 ·exact .inl ⟨hν.trans q1,q2,q3⟩
 ·subst q6;refine .inr ⟨β,c,arr,ty,T,vs,hν.trans q1,(hk β (by simp)).trans q2,q3,q4,q5,rfl,q7,aIu U O (λx hx=>hk x (by simp [hx])) q8 λc hc=>?_⟩;obtain ⟨cs,hcs,hc⟩:=List.mem_flatten.1 hc;exact t cs hcs c hc
end
end
noncomputable section
theorem aRG {w:World} {h:Hp} {u:Us} {ν:Nu} : ∀ {cs:List AV} {vs:List Value} {S:List Nat},RepOV w cs vs S→CellsRep w h u ν (cs.map yD) vs S
 | [],vs,S,r=>by simp only [RepOV] at r;exact r
 |c::cs,vs,S,r=>by
  simp only [RepOV] at r;obtain ⟨v,q,S1,S2,e1,e2,_,h3,h4⟩:=r;refine ⟨v,q,S1,S2,e1,e2,?_,aRG h4⟩;cases c with
  |sc x=>simp only [RepO] at h3;exact ⟨⟨h3.1,h3.2.1⟩,h3.2.2⟩
  |list k es=>exact h3
  |_=>simp only [RepO] at h3
theorem aSs {k:Nat} {es:List (List AV)} (h: ∀ cs∈es,cs.length=k): ∀ cs∈cY es,cs.length=k:=by
 intro cs hcs;unfold cY at hcs;obtain ⟨d,hd,rfl⟩:=List.mem_map.1 hcs;rw [dU];exact h d hd
theorem aMg (es:List (List AV)):(cY es).flatten=es.flatten.map yD:=by
 unfold cY;rw [List.map_flatten]
theorem aWX {s:AState} {b c i j k':Nat} {blk:Blk} {cs:List AV} {es':List (List AV)} (hT:s.kp.T=true) (hb:s.heap b=some blk) (hi:blk.es[i]? =some cs) (hj:cs[j]? =some (.abs k' es')) (hc:s.used c=false) (hdf: ∀ t x,s.env t=some x→dfA x=true) (hdc: ∀ b blk,s.heap b=some blk→ ∀ cs∈blk.es,∀ c∈cs,dfC c=true):
  Ent s ⟨s.env,bO [(c,some ⟨k',cY es'⟩),(b,some ⟨blk.k,blk.es.set i (cs.take j++[.own c 0 es'.length]++cs.drop (j+1))⟩)] s.heap,iJ [c] s.used,s.ns,s.kp⟩:=by
 intro C ν a w hs;obtain ⟨φ,hh⟩:=hs.heap;obtain ⟨hub,⟨hk1,hx1⟩,hnd1,hB1⟩:=hh.blk b blk hb;have hne:b≠c:=by rintro rfl;rw [hub] at hc;cases hc
 have hcn:s.heap c=none:=hs.unused hc;have hcs:=hk1 cs (List.mem_of_getElem? hi)
 have hjl:j<cs.length:=by
  rcases dZ j cs.length with h'|h'
  ·exact h'
  ·rw [jV h'] at hj;cases hj
 rcases hx1 with ⟨q1,q2,_⟩|⟨β,cap,arr,ty,T,vs,q1,q2,q3,q4,q5,q6,q7,q8⟩
 ·rw [q2] at hi;simp at hi
 have hdrop:blk.es.flatten.drop (i*blk.k+j)= .abs k' es'::blk.es.flatten.drop (i*blk.k+j+1):=by
  obtain ⟨r,hr⟩:=aBj hk1 hi;have h1:blk.es.flatten.drop (i*blk.k+j)=(cs++r).drop j:=by rw [←hr,List.drop_drop]
  have h2:blk.es.flatten.drop (i*blk.k+j+1)=(cs++r).drop (j+1):=by rw [←hr,List.drop_drop,Nat.add_assoc]
  rw [h1,h2,List.drop_append_of_le_length (by omega),List.drop_append_of_le_length (by omega),List.drop_eq_getElem_cons hjl];have:cs[j]= .abs k' es':=by simpa [hjl] using hj
  rw [this];rfl
 have hfl:blk.es.flatten=blk.es.flatten.take (i*blk.k+j)++([.abs k' es']++blk.es.flatten.drop (i*blk.k+j+1)):=by
  rw [List.singleton_append,←hdrop,List.take_append_drop]
 rw [hfl] at q8;obtain ⟨v1,v2,S1,S2,e1,e2,e3,e4,e5⟩:=q8.append_inv;obtain ⟨v3,v4,S3,S4,f1,f2,f3,f4,f5⟩:=e5.append_inv;subst f1 f2;obtain ⟨v,r0,S5,S6,rfl,rfl,g1,⟨rfl,rfl⟩⟩:=f4;simp only [CellRep] at g1;rw [List.append_nil] at e2;have hφ:φ b=β::(S1++(S5++S4)):=by rw [q6,e2]
 obtain ⟨νc,hνc⟩: ∃ νc:Option (Nat×Nat),(∀ (h:Hp) (u:Us) (ν':Nu),ν' c=νc→BlkOk w h u ν' c ⟨k',cY es'⟩ S5)∧(νc=none→v= .slice none 0 0)∧(∀ β' cap',νc=some (β',cap')→ownV β' 0 k' es'.length cap' v∧β'∈S5):=by
  simp only [RepO] at g1;rcases g1 with ⟨rfl,rfl,rfl⟩|⟨β',cap',arr',ty',T',vs',p1,p2,p3,p4,p5,p6,rfl,p8,p9⟩
  ·exact ⟨none,λh u ν' hν=>⟨by simp [cY],.inl ⟨hν,rfl,rfl⟩⟩,λ_=>rfl,λ_ _ e=>by cases e⟩
  ·have hl:(cY es').length=es'.length:=by simp [cY]
   refine ⟨some (β',cap'),λh u ν' hν=>⟨aSs p6,.inr ⟨β',cap',arr',ty',T',vs',hν,p2,p3,by show (cY es').length ≤cap';omega,p5,rfl,by show arr'.toList.take ((cY es').length *k')=vs';rw [hl];exact p8,?_⟩⟩,λe=>by (cases e),λx y e=>?_⟩
   ·show CellsRep w h u ν' (cY es').flatten vs' T';rw [aMg];exact aRG (aFA.1 p9)
   ·cases e;rw [p1];exact ⟨aJk,by simp⟩
 obtain ⟨hB,hn0,hn1⟩:=hνc;let ν':Nu:=⟨λx=>if x=c then νc else ν x,ν.ok⟩;have hν1:ν' c=νc:=aV rfl;have hν2: ∀ x,x≠c→ν' x=ν x:=λx hx=>aX hx;have hl1:bO [(c,some ⟨k',cY es'⟩),(b,some ⟨blk.k,blk.es.set i (cs.take j++[.own c 0 es'.length]++cs.drop (j+1))⟩)] s.heap c=some ⟨k',cY es'⟩:=by simp [bO]
 have nP:bO [(c,some ⟨k',cY es'⟩),(b,some ⟨blk.k,blk.es.set i (cs.take j++[.own c 0 es'.length]++cs.drop (j+1))⟩)] s.heap b=some ⟨blk.k,blk.es.set i (cs.take j++[.own c 0 es'.length]++cs.drop (j+1))⟩:=by simp [bO,cU hne]
 have hl3: ∀ x,x≠c→x≠b→bO [(c,some ⟨k',cY es'⟩),(b,some ⟨blk.k,blk.es.set i (cs.take j++[.own c 0 es'.length]++cs.drop (j+1))⟩)] s.heap x=s.heap x:=λx h1 h2=>by simp [bO,cU h1,cU h2]
 generalize hH:bO [(c,some ⟨k',cY es'⟩),(b,some ⟨blk.k,blk.es.set i (cs.take j++[.own c 0 es'.length]++cs.drop (j+1))⟩)] s.heap=H at*;have U: ∀ x,s.used x=true→iJ [c] s.used x=true:=λx hx=>by rw [jJ,hx,Bool.or_true]
 have O: ∀ x blk',s.used x=true→H x=some blk'→ ∃ y,s.heap x=some y∧y.k=blk'.k∧y.es.length=blk'.es.length∧ν' x=ν x:=by
  intro x blk' hu hx;have hxc:x≠c:=by rintro rfl;rw [hu] at hc;cases hc
  by_cases e:x=b
  ·subst e;rw [nP] at hx;cases hx;exact ⟨blk,hb,rfl,by simp,hν2 _ hxc⟩
  ·rw [hl3 x hxc e] at hx;exact ⟨blk',hx,rfl,rfl,hν2 _ hxc⟩
 have hfl2: ∀ d∈blk.es.flatten,dfC d=true:=by
  intro d hd;obtain ⟨ds,h1,h2⟩:=List.mem_flatten.1 hd;exact hdc b blk hb ds h1 d h2
 refine ⟨ν',hs.below,hs.base,hs.fresh,hs.defers,hs.size,λt x hx=>by obtain ⟨v,h1,h2⟩:=hs.env t x hx;exact ⟨v,h1,aYC U O h2 (hdf t x hx)⟩,⟨λx=>if x=c then S5 else if x=b then β::(S1++S4) else φ x,?_,?_⟩,hs.kp,?_,hs.szE,hs.okM,hs.okF⟩
 ·intro x blk2 hx;replace hx:H x=some blk2:=hx;have hnd:=hnd1;rw [hφ] at hnd;have n1:=List.nodup_cons.1 hnd;have n2:=List.nodup_append.1 n1.2;have n3:=List.nodup_append.1 n2.2.1;by_cases e:x=c
  ·subst e;rw [hl1] at hx;cases hx;simp only [if_true];refine ⟨by rw [jJ];simp,hB _ _ _ hν1,n3.1,λy hy=>hB1 y (by rw [hφ];simp [hy])⟩
  ·by_cases e0:x=b
   ·subst e0;rw [nP] at hx;cases hx;simp only [aX e,if_true];refine ⟨U _ hub,⟨?_,.inr ⟨β,cap,arr,ty,S1++S4,vs,(hν2 _ e).trans q1,q2,q3,by simpa using q4,q5,rfl,by simpa using q7,?_⟩⟩,?_,?_⟩
    ·intro d hd;rcases List.mem_or_eq_of_mem_set hd with h|h
     ·exact hk1 d h
     ·rw [h];simp;omega
    ·rw [aCB (n:=1) hk1 hi rfl (by omega),e1]
     have m1:CellsRep w H (iJ [c] s.used) ν' [.own c 0 es'.length] [v] []:=by
      refine ⟨v,[],[],[],rfl,rfl,⟨⟨by rw [jJ];simp,λblk3 h3=>?_⟩,rfl⟩,rfl,rfl⟩;rw [hl1] at h3;cases h3;refine ⟨by simp [cY],λh4=>hn0 (hν1.symm.trans h4),λβ' c' h4=>(hn1 β' c' (hν1.symm.trans h4)).1⟩
     have m2:=(aIu (w':=w) (h':=H) (u':=iJ [c] s.used) (ν':=ν') U O (λ_ _=>rfl) e4 (λd hd=>hfl2 d (List.mem_of_mem_take hd))).append (m1.append (aIu (w':=w) (h':=H) (u':=iJ [c] s.used) (ν':=ν') U O (λ_ _=>rfl) f5 (λd hd=>hfl2 d (List.mem_of_mem_drop hd))));rw [List.append_assoc (List.take (i*blk.k+j) blk.es.flatten)];simpa using m2
    ·refine List.nodup_cons.2 ⟨λhm=>n1.1 ?_,List.nodup_append.2 ⟨n2.1,n3.2.1,λy hy z hz=>n2.2.2 y hy z (by simp [hz])⟩⟩;rcases fX.1 hm with h|h <;> simp [h]
    ·intro y hy;refine hB1 y ?_;rw [hφ];rcases fU.1 hy with rfl|h
     ·simp
     ·rcases fX.1 h with h|h <;> simp [h]
   ·rw [hl3 x e e0] at hx;simp only [aX e,aX e0];obtain ⟨p1,p2,p3,p4⟩:=hh.blk x blk2 hx;exact ⟨U _ p1,aUs U O (hν2 _ e) (λ_ _=>rfl) p2 (hdc x blk2 hx),p3,p4⟩
 ·have hnd:=hnd1;rw [hφ] at hnd;have n1:=List.nodup_cons.1 hnd;have n2:=List.nodup_append.1 n1.2;have n3:=List.nodup_append.1 n2.2.1;have hbn:s.heap b≠none:=by rw [hb];simp
  have hS5: ∀ y,y∈S5→y∈φ b:=λy hy=>by rw [hφ];simp [hy]
  have hSb: ∀ y,y∈β::(S1++S4)→y∈φ b:=λy hy=>by
   rw [hφ];rcases fU.1 hy with rfl|h
   ·simp
   ·rcases fX.1 h with h|h <;> simp [h]
  have hcb: ∀ y,y∈S5→y ∉ β::(S1++S4):=by
   intro y h5 hy;rcases fU.1 hy with rfl|h
   ·exact n1.1 (by simp [h5])
   ·rcases fX.1 h with h|h
    ·exact n2.2.2 y h y (by simp [h5]) rfl
    ·exact n3.2.2 y h5 y h rfl
  intro x1 x2 y hx1 hx2 hne2 hy1 hy2;replace hx1:H x1≠none:=hx1;replace hx2:H x2≠none:=hx2;replace hy1:y∈(if x1=c then S5 else if x1=b then β::(S1++S4) else φ x1):=hy1;replace hy2:y∈(if x2=c then S5 else if x2=b then β::(S1++S4) else φ x2):=hy2;by_cases a1:x1=c <;> by_cases a2:x2=c
  ·exact hne2 (a1.trans a2.symm)
  ·rw [aV a1] at hy1;rw [aX a2] at hy2;by_cases b2:x2=b
   ·rw [aV b2] at hy2;exact hcb y hy1 hy2
   ·rw [aX b2] at hy2;rw [hl3 x2 a2 b2] at hx2;exact hh.apart b x2 y hbn hx2 (Ne.symm b2) (hS5 y hy1) hy2
  ·rw [aX a1] at hy1;rw [aV a2] at hy2;by_cases b1:x1=b
   ·rw [aV b1] at hy1;exact hcb y hy2 hy1
   ·rw [aX b1] at hy1;rw [hl3 x1 a1 b1] at hx1;exact hh.apart b x1 y hbn hx1 (Ne.symm b1) (hS5 y hy2) hy1
  ·rw [aX a1] at hy1;rw [aX a2] at hy2;by_cases b1:x1=b <;> by_cases b2:x2=b
   ·exact hne2 (b1.trans b2.symm)
   ·rw [aV b1] at hy1;rw [aX b2] at hy2;rw [hl3 x2 a2 b2] at hx2;exact hh.apart b x2 y hbn hx2 (Ne.symm b2) (hSb y hy1) hy2
   ·rw [aX b1] at hy1;rw [aV b2] at hy2;rw [hl3 x1 a1 b1] at hx1;exact hh.apart b x1 y hbn hx1 (Ne.symm b1) (hSb y hy2) hy1
   ·rw [aX b1] at hy1;rw [aX b2] at hy2;rw [hl3 x1 a1 b1] at hx1;rw [hl3 x2 a2 b2] at hx2;exact hh.apart x1 x2 y hx1 hx2 hne2 hy1 hy2
 ·refine ⟨λx hx=>U x (hs.ext.used x hx),λx blk' hx hl'=>?_,λx hx hF=>?_,hs.ext.okE⟩
  ·obtain ⟨y,g1,g2,g3,g4⟩:=O x blk' (hs.ext.used x hx) hl';obtain ⟨z,k1,k2,k3,k4⟩:=hs.ext.old x y hx g1;exact ⟨z,k1,k2.trans g2,k3.trans g3,g4.trans k4⟩
  ·obtain ⟨g1,g2⟩:=hs.ext.free x hx hF;refine ⟨g1,λb2 blk2 β2 c2 hb2 h2 e=>?_⟩;replace hb2:H b2=some blk2:=hb2;by_cases a1:b2=c
   ·subst a1;rw [hν1] at h2;subst e;exact C.tm (by rw [←hs.kp];exact hT) β2 hx (hB1 β2 (by rw [hφ];simp [(hn1 _ _ h2).2])) hF
   ·rw [hν2 _ a1] at h2;by_cases a2:b2=b
    ·subst a2;exact g2 b2 blk β2 c2 hb h2 e
    ·rw [hl3 b2 a1 a2] at hb2;exact g2 b2 blk2 β2 c2 hb2 h2 e
end
noncomputable section
def Raw1 (κ:Kp) (x d:AV):Prop:= ∃ W G v S,κ.fx=some (W,G)∧x= .sc v∧RepD W d v S∧ ∀ b∈S,G b
def RawK (κ:Kp):AV→AV→Prop
 | .agg xs,.agg ds=>All2 (Raw1 κ) xs ds
 |x,d=>Raw1 κ x d
theorem Sim.stays {C:Ctx} {s:AState} {ν:Nu} {a:Act} {w:World} (hs:Sim C s ν a w) {κ:Kp} (hκ:s.kp=κ) {W:World} {G:Nat→Prop} (h:κ.fx=some (W,G)) {b:Nat} (hb:G b):w.heap[b]? =W.heap[b]? ∧lD s.heap ν b:=by
 obtain ⟨e1,e2⟩:=C.fxp (W,G) (by rw [←hs.kp,hκ];exact h);obtain ⟨e3,e4⟩:=e2 b hb;obtain ⟨e5,e6⟩:=hs.ext.free b e3 e4;rw [e1] at e5;exact ⟨e5,e6,hs.okF (W,G) (by rw [←hs.kp,hκ];exact h) b hb⟩
theorem Raw1.rep {C:Ctx} {s:AState} {ν ν':Nu} {a:Act} {w:World} {h:Hp} {u:Us} (hs:Sim C s ν a w) {κ:Kp} (hκ:s.kp=κ) {x d:AV} {v:Value} (r:Rep1 w h u ν' x v) (m:Raw1 κ x d): ∃ S',RepD w d v S':=by
 obtain ⟨W,G,y,S,h1,rfl,h2,h3⟩:=m;rw [r.1];exact ⟨S,h2.keep λb hm=>(hs.stays hκ h1 (h3 b hm)).1⟩
theorem RawK.rep {C:Ctx} {s:AState} {ν:Nu} {a:Act} {w:World} (hs:Sim C s ν a w) {κ:Kp} (hκ:s.kp=κ) {x d:AV} {v:Value} (r:RepA w s.heap s.used ν x v) (m:RawK κ x d): ∃ S',RepD w d v S':=by
 by_cases ho: ∃ xs ds,x= .agg xs∧d= .agg ds
 ·obtain ⟨xs,ds,rfl,rfl⟩:=ho;obtain ⟨vs,rfl,r⟩:=r;obtain ⟨S,h⟩:=aBk (V:=Raw1 κ) (λx d v hr hm=>hm.rep hs hκ hr) r m;exact ⟨S,by simp only [RepD];exact ⟨vs,rfl,h⟩⟩
 ·have m':Raw1 κ x d:=by
   cases x <;> first|exact m|(cases d <;> first|exact m|exact absurd ⟨_,_,rfl,rfl⟩ ho)
  obtain ⟨W,G,y,S,h1,rfl,h2,h3⟩:=m';exact Raw1.rep (h:=s.heap) (u:=s.used) (ν':=ν) (x:= .sc y) hs hκ (show Rep1 w s.heap s.used ν (.sc y) v from r) ⟨W,G,y,S,h1,rfl,h2,h3⟩
def rd1:AV→Bool
 | .sc _=>true
 | .list _ _=>true
 | .ref _=>true
 |_=>false
def rdA:AV→Bool
 | .agg ds=>ds.all rd1
 |d=>rd1 d
theorem Raw1.rep1 {C:Ctx} {s:AState} {ν:Nu} {a:Act} {w:World} (hs:Sim C s ν a w) {κ:Kp} (hκ:s.kp=κ) {x d:AV} {v:Value} (r:Rep1 w s.heap s.used ν x v) (m:Raw1 κ x d) (ok:rd1 d=true):Rep1 w s.heap s.used ν d v:=by
 obtain ⟨W,G,y,S,h1,rfl,h2,h3⟩:=m;rw [r.1];have h4:=h2.keep λb hm=>(hs.stays hκ h1 (h3 b hm)).1;cases d <;> simp only [rd1,gZ] at ok
 ·simp only [RepD] at h4;exact ⟨h4.1,h4.2.1⟩
 ·exact ⟨S,h4,λx hx=>(hs.stays hκ h1 (h3 x hx)).2⟩
 ·exact ⟨S,h4,λx hx=>(hs.stays hκ h1 (h3 x hx)).2⟩
theorem RawK.repA {C:Ctx} {s:AState} {ν:Nu} {a:Act} {w:World} (hs:Sim C s ν a w) {κ:Kp} (hκ:s.kp=κ) {x d:AV} {v:Value} (r:RepA w s.heap s.used ν x v) (m:RawK κ x d) (ok:rdA d=true):RepA w s.heap s.used ν d v:=by
 by_cases ho: ∃ xs ds,x= .agg xs∧d= .agg ds
 ·obtain ⟨xs,ds,rfl,rfl⟩:=ho;obtain ⟨vs,rfl,r⟩:=r;refine ⟨vs,rfl,?_⟩
  have key: ∀ {xs ds:List AV} {vs:List Value},All2 (Rep1 w s.heap s.used ν) xs vs→All2 (Raw1 κ) xs ds→ds.all rd1=true→All2 (Rep1 w s.heap s.used ν) ds vs:=by
   intro xs;induction xs with
   |nil=>intro ds vs h1 h2 _;simp only [All2] at h1 h2;subst h1 h2;rfl
   |cons x xs ih=>
    rintro ds vs ⟨v,q,rfl,g1,g2⟩ ⟨d,r,rfl,k1,k2⟩ o;simp only [List.all_cons,dA] at o;exact ⟨v,q,rfl,k1.rep1 hs hκ g1 o.1,ih g2 k2 o.2⟩
  exact key r m ok
 ·have m':Raw1 κ x d:=by
   cases x <;> first|exact m|(cases d <;> first|exact m|exact absurd ⟨_,_,rfl,rfl⟩ ho)
  have ok':rd1 d=true:=by
   cases d <;> first|exact ok|skip
   obtain ⟨W,G,y,S,h1,rfl,h2,h3⟩:=m';have e:RepA w s.heap s.used ν (.sc y) v:=r;exfalso;simp only [RepD] at h2;obtain ⟨vs,rfl,_⟩:=h2;exact absurd e.2 (by simp [Value.oneCell'])
  have r1:Rep1 w s.heap s.used ν x v:=by
   obtain ⟨W,G,y,S,h1,rfl,h2,h3⟩:=m';exact r
  have:=m'.rep1 hs hκ r1 ok';cases d <;> first|exact this|(simp only [rd1,gZ] at ok')
def bAm (σ:Nat→Option Nat) (n:Nat) (κ:Kp) (x d:AV):Prop:=rG σ n x d∨(RawK κ x d∧rdA d=true∧rG σ n d d)
section
variable {P:Program} {dst:Option Tmp} {ty:TypeId} {pos:String} {aft:Array Edge} {g:Option (Nat×Bool)} {ins:Operand→Option AV} {hp:Hp} {κ:Kp}
theorem aUt {fo:Operand} {xs:Array Operand} {ats:Array TypeId} {f:FuncId} {caps avs ds:List AV} {hl hl' nP:List (Nat×Blk)} {kp n':Nat} {r r2:AV} {σ σ':Nat→Option Nat} {touch news:List Nat} {ed:List (Nat×Option Blk)}
  (hc:HasE P f ds hl kp r hl') (hf:ins fo=some (.fn f caps)) (hx:evs ins xs.toList=some avs) (hav:All2 (bAm σ kp κ) (avs++caps) ds) (hh:tP σ kp hp hl) (hi:aFF σ hl=true) (hit:aCE σ touch hl=true) (hlive:(touch.all λb=>(hp b).isSome)=true)
  (hh':tP σ' n' (iT hl') nP) (hi':aFF σ' nP=true) (hr:rG σ' n' r r2) (hbk:aGJ σ σ' kp news nP=true) (htl:aMZ (touch++news) nP) (htr:aOj (touch++news) r2=true) (he:aBl (touch++news) nP=ed):
  AEff P ⟨dst,.call ⟨.value fo,xs,ats⟩,ty,pos,aft,g⟩ ins hp κ ⟨r2,touch,ed,news⟩:=by
 have key: ∃ av2,All2 (rG σ kp) av2 ds∧ ∀ (C:Ctx) (s:AState) (ν:Nu) (a:Act) (w:World) (vs:List Value),s.kp=κ→Sim C s ν a w→All2 (RepA w s.heap s.used ν) (avs++caps) vs→All2 (RepA w s.heap s.used ν) av2 vs:=by
  clear hx;revert hav;generalize avs++caps=xs;clear hc;intro hav;induction xs generalizing ds with
  |nil=>simp only [All2] at hav;subst hav;exact ⟨[],rfl,λ_ _ _ _ _ _ _ _ h=>h⟩
  |cons x xs ih=>
   obtain ⟨d,r,rfl,h1,h2⟩:=hav;obtain ⟨av2,g1,g2⟩:=ih h2;rcases h1 with h1|⟨k1,k2,k3⟩
   ·refine ⟨x::av2,⟨d,r,rfl,h1,g1⟩,λC s ν a w vs hκ hs hv=>?_⟩;obtain ⟨v,q,rfl,e1,e2⟩:=hv;exact ⟨v,q,rfl,e1,g2 C s ν a w q hκ hs e2⟩
   ·refine ⟨d::av2,⟨d,r,rfl,k3,g1⟩,λC s ν a w vs hκ hs hv=>?_⟩;obtain ⟨v,q,rfl,e1,e2⟩:=hv;exact ⟨v,q,rfl,k1.repA hs hκ e1 k2,g2 C s ν a w q hκ hs e2⟩
 obtain ⟨av2,g1,g2⟩:=key;exact aOm hc hf hx g2 g1 hh hi hit hlive hh' hi' hr hbk htl htr he
end
def fxW (W:World):Option (World×(Nat→Prop)):=some (W,λx=>x<W.heap.size)
theorem aES {κ:Kp} {W:World} {d:AV} {v:Value} {S:List Nat} (h:κ.fx=fxW W) (r:RepD W d v S):Raw1 κ (.sc v) d:=⟨W,_,v,S,h,rfl,r,r.lt⟩
theorem aGy {κ:Kp} {W:World} {u:Value} (h:κ.fx=fxW W) (o:u.oneCell'=true):Raw1 κ (.sc u) (.sc u):=aES h (aEB o)
theorem aYp {κ:Kp} {W:World} {k:Nat} {es:List (List AV)} {v:Value} {S:List Nat} (h:κ.fx=fxW W) (r:RepD W (.list k es) v S):RawK κ (.sc v) (.list k es):=aES h r
theorem aLm {κ:Kp} :RawK κ (.agg []) (.agg []):=rfl
theorem pK {κ:Kp} {x d:AV} {xs ds:List AV} (a:Raw1 κ x d) (b:RawK κ (.agg xs) (.agg ds)):RawK κ (.agg (x::xs)) (.agg (d::ds)):=⟨d,ds,rfl,a,b⟩
def aAs (κ:Kp) (h:Hp) (x d:AV):Prop:=viewA h x d∨RawK κ x d
theorem aIC {κ:Kp} {h:Hp} :All2 (aAs κ h) [] []:=rfl
theorem aAt {κ:Kp} {h:Hp} {x d:AV} {xs ds:List AV} (a:aAs κ h x d) (b:All2 (aAs κ h) xs ds):All2 (aAs κ h) (x::xs) (d::ds):=⟨d,ds,rfl,a,b⟩
theorem aMh {R:AV→Value→Prop} {V:AV→AV→Prop} {w:World} (hr: ∀ x d v,R x v→V x d→ ∃ S',RepD w d v S') {xs ds:List AV} {vs:List Value} (r:All2 R xs vs) (m:All2 V xs ds): ∃ S',RepVs w ds vs S':=aBk hr r m
section
variable {P:Program} {dst:Option Tmp} {ty:TypeId} {pos:String} {aft:Array Edge} {g:Option (Nat×Bool)} {ins:Operand→Option AV} {hp:Hp} {κ:Kp}
theorem aOr {fo:Operand} {xs:Array Operand} {ats:Array TypeId} {f:FuncId} {avs ds:List AV} {r x:AV} {nb:List (Nat×Blk)} {ns ns':List Nat} (hf:ins fo=some (.fn f [])) (hx:evs ins xs.toList=some avs) (hc:HasC P f ds r) (hv1:All2 (aAs κ hp) avs ds) (hg:aKh r)
  (hi:aSX ns r=(x,nb,ns')) (hfl:aQq x=true) (hn:ns.Nodup):
  AEff P ⟨dst,.call ⟨.value fo,xs,ats⟩,ty,pos,aft,g⟩ ins hp κ ⟨x,avs.flatMap (pB hp),rX nb,nb.map (·.1)⟩:=by
 refine ⟨λC s ν a w Q K {hκ} hi' ht hnw hd hs hK=>?_⟩;have h1:=hs.ev ((hi' fo (by simp [Op.operands,Call.operands])).trans hf);simp only [RepA,RepB] at h1;obtain ⟨cv,h1,h2⟩:=h1;simp only [All2] at h2;subst h2;obtain ⟨φ,hh⟩:=hs.heap;have h3:=aEC hs (xs:=xs.toList) (λy hy=>hi' y (by simp [Op.operands,Call.operands];exact .inr (Array.mem_toList_iff.1 hy))) hx;have hv1':All2 (aAs κ s.heap) avs ds:=hv1.congrM λy hy d hd=>hd.elim (λhd=> .inl (hd.congr λb hb=>ht b (List.mem_flatMap.2 ⟨y,hy,hb⟩))) .inr;obtain ⟨S1,e1⟩:=aMh (V:=aAs κ s.heap) (λx d v hr hv=>hv.elim (λhv=>viewA.rep hh hr hv) (λhv=>hv.rep hs hκ hr)) h3 hv1';have hcall:=hc.calls w (xs.map a.eval) S1 (by simpa using e1);unfold Oper.wp
 have hex:(execOp a.eval ⟨dst,.call ⟨.value fo,xs,ats⟩,ty,pos,aft,g⟩).run P w= .ok (.enter f (xs.map a.eval)) w:=by
  have:execOp a.eval ⟨dst,.call ⟨.value fo,xs,ats⟩,ty,pos,aft,g⟩=callFunc f (xs.map a.eval):=by
   simp [execOp,resolve,h1,Deferred.ofValue,invoke]
  rw [this];exact hc.enters _ _
 rw [hex];simp only [Oper.upon];refine hcall.mono λe w' ⟨v,S',he,hb,hr,hnew⟩=>?_;subst he;simp only;obtain ⟨g1,X,Sf,g2,g3⟩:=aTm (w:=w) hi hfl hr hg hnew.1 hn;have hnn:(nb.map (·.1)).Nodup:=by rw [g1] at hn;exact (List.nodup_append.1 hn).1
 obtain ⟨ν',hs'⟩:=hs.call hd hb g2 hnew hnn (λb hb=>hnw b hb) g3 (touch:=avs.flatMap (pB hp));exact hK ν' _ _ hs'
end
section
variable {P:Program} {dst:Option Tmp} {ty:TypeId} {pos:String} {aft:Array Edge} {g:Option (Nat×Bool)} {s:AState}
theorem aUu {f:FuncId} {xs:Array Operand} {ats:Array TypeId} {avs ds:List AV} {u:Value} (hc:HasC P f ds (.sc u)) (hx:evs s.ev xs.toList=some avs) (hv1:All2 (aAs s.kp s.heap) avs ds):
  AEff P ⟨dst,.call ⟨.value (.func f),xs,ats⟩,ty,pos,aft,g⟩ s.ev s.heap s.kp ⟨.sc u,avs.flatMap (pB s.heap),[],[]⟩:=
 aOr (ns:=[]) (nb:=[]) (r:= .sc u) (x:= .sc u) rfl hx hc hv1 trivial (aPh [] u) rfl (by simp)
theorem aMi {f:FuncId} {xs:Array Operand} {ats:Array TypeId} {avs ds:List AV} {r x:AV} {nb:List (Nat×Blk)} {ns':List Nat} (hc:HasC P f ds r) (hx:evs s.ev xs.toList=some avs) (hi:aSX s.ns r=(x,nb,ns')) (hfl:aQq x=true) (hn:xU s.ns=true) (hg:aKh r) (hv1:All2 (aAs s.kp s.heap) avs ds):
  AEff P ⟨dst,.call ⟨.value (.func f),xs,ats⟩,ty,pos,aft,g⟩ s.ev s.heap s.kp ⟨x,avs.flatMap (pB s.heap),rX nb,nb.map (·.1)⟩:=
 aOr rfl hx hc hv1 hg hi hfl (aEh hn)
end
def aIv (w:World):List AV→(List AV→Prop)→Prop
 | [],K=>K []
 | .sc u::cs,K=>aIv w cs (λxs=>K (.sc u::xs))
 |d::cs,K=> ∀ v S,RepD w d v S→aIv w cs (λxs=>K (.sc v::xs))
def aDf (w:World):List AV→(List AV→Prop)→Prop
 | [],K=>K []
 | .sc u::ds,K=>aDf w ds (λxs=>K (.sc u::xs))
 | .agg cs::ds,K=>aIv w cs (λxs=>aDf w ds (λys=>K (.agg xs::ys)))
 |d::ds,K=> ∀ v S,RepD w d v S→aDf w ds (λxs=>K (.sc v::xs))
theorem aAu {w:World} {K:List AV→Prop} (h:K []):aIv w [] K:=h
theorem aAv {w:World} {u:Value} {cs:List AV} {K:List AV→Prop} (h:aIv w cs (λxs=>K (.sc u::xs))):aIv w (.sc u::cs) K:=h
theorem uM {w:World} {k:Nat} {es:List (List AV)} {cs:List AV} {K:List AV→Prop} (h: ∀ v S,RepD w (.list k es) v S→aIv w cs (λxs=>K (.sc v::xs))):aIv w (.list k es::cs) K:=h
theorem aRH {w:World} {K:List AV→Prop} (h:K []):aDf w [] K:=h
theorem aMj {w:World} {xs cs:List AV} {K:List AV→Prop} (h:aIv w xs (λxs=>aDf w cs (λys=>K (.agg xs::ys)))):aDf w (.agg xs::cs) K:=h
theorem aSt {w:World} {k:Nat} {es:List (List AV)} {cs:List AV} {K:List AV→Prop} (h: ∀ v S,RepD w (.list k es) v S→aDf w cs (λxs=>K (.sc v::xs))):aDf w (.list k es::cs) K:=h
def aWY:AV→Bool
 | .sc u=>u.oneCell'
 | .agg cs=>cs.all mO
 | .list _ _=>true
 |_=>false
theorem aRI {w:World} {d:AV} {v:Value} {S:List Nat} (r:RepD w d v S) (ok:mO d=true):v.oneCell'=true:=by
 cases d <;> simp only [mO,gZ] at ok <;> simp only [RepD] at r
 ·rw [r.1];exact ok
 ·obtain ⟨a,c,rfl,_⟩:=r;rfl
theorem aPs {w:World} : ∀ {cs:List AV} {us:List Value} {S:List Nat} {K:List AV→Prop},RepVs w cs us S→cs.all mO=true→aIv w cs K→ ∃ xs,K xs∧ ∀ (w':World) (h:Hp) (u:Us) (ν:Nu),All2 (Rep1 w' h u ν) xs us
 | [],us,S,K,r,_,k=>by simp only [RepVs] at r;obtain ⟨rfl,_⟩:=r;exact ⟨[],k,λ_ _ _ _=>rfl⟩
 |c::cs,us,S,K,r,ok,k=>by
  simp only [RepVs] at r;obtain ⟨v,q,S1,S2,rfl,rfl,h3,h4⟩:=r;simp only [List.all_cons,dA] at ok
  have key: ∀ x,aIv w cs (λxs=>K (x::xs))→x= .sc v→ ∃ xs,K xs∧ ∀ (w':World) (h:Hp) (u:Us) (ν:Nu),All2 (Rep1 w' h u ν) xs (v::q):=by
   rintro x k1 rfl;obtain ⟨xs,g1,g2⟩:=aPs h4 ok.2 k1;exact ⟨.sc v::xs,g1,λw' h u ν=>⟨v,q,rfl,⟨rfl,aRI h3 ok.1⟩,g2 w' h u ν⟩⟩
  cases c <;> simp only [mO,gZ,false_and] at ok
  ·simp only [RepD] at h3;exact key _ k (by rw [h3.1])
  ·exact key _ (k v S1 h3) rfl
theorem aOs {w:World} : ∀ {ds:List AV} {vs:List Value} {S:List Nat} {K:List AV→Prop},RepVs w ds vs S→ds.all aWY=true→aDf w ds K→ ∃ xs,K xs∧xs.length=ds.length∧ ∀ (h:Hp) (u:Us) (ν:Nu),All2 (RepA w h u ν) xs vs
 | [],vs,S,K,r,_,k=>by simp only [RepVs] at r;obtain ⟨rfl,_⟩:=r;exact ⟨[],k,rfl,λ_ _ _=>rfl⟩
 |d::ds,vs,S,K,r,ok,k=>by
  simp only [RepVs] at r;obtain ⟨v,q,S1,S2,rfl,rfl,h3,h4⟩:=r;simp only [List.all_cons,dA] at ok
  have key: ∀ x,aDf w ds (λxs=>K (x::xs))→(∀ (h:Hp) (u:Us) (ν:Nu),RepA w h u ν x v)→ ∃ xs,K xs∧xs.length=(d::ds).length∧ ∀ (h:Hp) (u:Us) (ν:Nu),All2 (RepA w h u ν) xs (v::q):=by
   intro x k1 hx;obtain ⟨xs,g1,g2,g3⟩:=aOs h4 ok.2 k1;exact ⟨x::xs,g1,by simp [g2],λh u ν=>⟨v,q,rfl,hx h u ν,g3 h u ν⟩⟩
  cases d <;> simp only [aWY,gZ,false_and] at ok
  ·simp only [RepD] at h3;exact key _ k λh u ν=>by simp only [RepA,RepB,Rep1];exact ⟨h3.1,h3.2.1⟩
  ·exact key _ (k v S1 h3) λh u ν=>(show Rep1 w h u ν (.sc v) v from ⟨rfl,aRI h3 rfl⟩)
  ·have h3':=h3;simp only [RepD] at h3';obtain ⟨us,rfl,h5⟩:=h3';obtain ⟨xs,g1,g2⟩:=aPs h5 ok.1 k;exact key _ g1 λh u ν=>by simp only [RepA,RepB];exact ⟨us,rfl,g2 w h u ν⟩
theorem aRJ {P:Program} {T:List (Nat×Ty)} (hT:TyOk P T) {f:FuncId} {fn:Func} {c:Code} {nt:Nat} {ds:List AV} {r:AV} {rvs:List ResultVar} {ns:List Nat} (hf:P.funcs[f]? =some fn) (hb:fn.body=some c) (hname:(fn.name== "runtime.NumGoroutine")=false) (hnt:fn.ntmps=nt) (hres:fn.results.toList=rvs)
  (hlen:Nat.ble ds.length nt=true) (hok:ds.all aWY=true) (h: ∀ W:World,aDf W ds λxs=>AC P nt c ⟨aHw xs,iT [],ltb 0,ns,⟨0,true,fxW W,true⟩⟩ (qE T rvs r)):HasC P f ds r:=by
 refine ⟨Enters.mk hf (by rw [hb];rfl) hname,λw args S hargs=>?_⟩;refine (callsIn_wide (n:=0)).1 (callsIn_of_wp_marks (F:=fw none) hf hb trivial ?_);have hlen':=Nat.le_of_ble_eq_true hlen;have hal:args.size=ds.length:=by have:=hargs.len;simpa using this
 obtain ⟨xs,hac,hxl,hxr⟩:=aOs hargs hok (h w);let C:Ctx:=⟨w.heap.size,w,nt,λx=>w.heap.size≤x,λ_ h=>h,⟨0,true,fxW w,true⟩,w,iT [],Nu.none,λx=>x<w.heap.size,λ_ x hx hm=>absurd hx (Nat.not_lt.2 hm),(λp h=>by cases h;exact ⟨rfl,λx hx=>⟨hx,hx⟩⟩),none,λ_=>rfl⟩;have hfr: ∀ x,vT (iT []) Nu.none x:=λx b blk β c hb=>by cases hb
 have hsim:Sim C ⟨aHw xs,iT [],ltb 0,ns,⟨0,true,fxW w,true⟩⟩ Nu.none ⟨args++Array.replicate (fn.ntmps - args.size) undef,[]⟩ w:=by
  refine ⟨Below.refl _ _,bN _,λ_ hx=>hx,aBy,by show (args++Array.replicate (fn.ntmps - args.size) undef).size=nt;simp [hnt];omega,?_,⟨λ_=>[],λb blk hb=>(by cases hb),λb c x hb=>absurd rfl hb⟩,rfl,ExtF.refl λx _ _=>hfr x,bN _,λ_ _=>trivial,λ_ _ _ _=>trivial⟩;intro t x hx;have hx':xs[t]? =some x:=by rw [←aMY];exact hx
  obtain ⟨v,h1,h2⟩:=(hxr (iT []) (ltb 0) Nu.none).get hx';refine ⟨v,?_,h2⟩
  have hlt:t<args.size:=by
   rcases dZ t args.size with h'|h'
   ·exact h'
   ·rw [jV (by simpa using h')] at h1;cases h1
  show (args++Array.replicate (fn.ntmps - args.size) undef)[t]? =some v;rw [Array.getElem?_append_left hlt];simpa using h1
 refine wpIn_mono (hac.out C rfl _ _ w hsim 0) λe a' w0 ⟨s',ν',hq,hs0⟩=>?_;obtain ⟨Ds,d1,d2,d3⟩:=hs0.defers;obtain ⟨w',hs',hleave⟩:=hs0.leave (P:=P) (n:=0) d1 d2 d3;obtain ⟨he,avs,hv,hn,hfz⟩:=hq;obtain ⟨us,h1,h2⟩:=aED hT hs' hv;obtain ⟨φ,hh⟩:=hs'.heap;have hn':=aEh hn
 have hrun:(results fn a'.tmps).run P w'= .ok (if hh:us.toArray.size=1 then us.toArray[0] else .tuple us.toArray) w':=by
  unfold results;rw [Sem.run_bind,Array.mapM_eq_mapM_toList,Sem.run_map,hres];have h1':=h1;generalize hq:(List.mapM _ rvs:Sem (List Value))=m;rw [show Sem.run P m w'= .ok us w' by rw [←hq];exact h1'];simp
 have hres2: ∃ S',aPf w' r (if hh:us.toArray.size=1 then us.toArray[0] else .tuple us.toArray) S'∧New w.heap.size S':=by
  have hul:us.length=avs.length:=h2.len;unfold aNs at hfz;split at hfz
  ·rename_i v r';obtain ⟨u,q,rfl,g1,g2⟩:=h2;simp only [All2] at g2;subst g2;simp only [List.flatMap_cons,List.flatMap_nil,List.append_nil] at hn';obtain ⟨S',a1,a2,a3,a4⟩:=aML hh g1 hfz.1 hn';refine ⟨S',?_,a2,a3⟩;simp only [List.size_toArray,List.length_cons,List.length_nil,Nat.zero_add,dite_true];have hnt:=hfz.2;cases r <;> first|exact a1|exact absurd rfl (hnt _)
  ·rename_i vs rs _;obtain ⟨S',a1,a2,a3,a4⟩:=aJp hh h2 hfz.2 hn';refine ⟨S',?_,a2,a3⟩;rw [dif_neg (by simp;rw [hul];exact hfz.1)];exact ⟨us,rfl,a1⟩
  ·exact hfz.elim
 obtain ⟨S',hr1,hr2⟩:=hres2;have hend:=hleave fn (λe w'=> ∃ v S',e= .returned v∧Below w.heap.size w w'∧aPf w' r v S'∧New w.heap.size S') ⟨_,hrun,_,S',rfl,hs'.below,hr1,hr2⟩;cases e <;> simp only [aKi,gZ] at he <;> exact hend
def dfE:List (Nat×AV)→Prop
 | []=>True
 |(_,x)::r=>dfA x=true∧dfE r
theorem aMk: ∀ {l:List (Nat×AV)},dfE l→ ∀ t x,aFt l t=some x→dfA x=true
 | [],_,t,x,h=>by cases h
 |(k,v)::r,⟨h1,h2⟩,t,x,h=>by
  simp only [aFt] at h;cases hb:Nat.beq t k with
  |true=>rw [hb] at h;cases h;exact h1
  |false=>rw [hb] at h;exact aMk h2 t x h
def dfR (y:Blk):Prop:= ∀ cs∈y.es,∀ c∈cs,dfC c=true
def dfH (skip:List Nat):List (Nat×Blk)→Prop
 | []=>True
 |(b,y)::r=>(b∈skip∨dfR y)∧dfH skip r
theorem aMl {skip:List Nat} : ∀ {l:List (Nat×Blk)},dfH skip l→ ∀ b blk,iT l b=some blk→b ∉ skip→ ∀ cs∈blk.es,∀ c∈cs,dfC c=true
 | [],_,b,x,h=>by cases h
 |(k,v)::r,⟨h1,h2⟩,b,x,h=>by
  simp only [iT] at h;by_cases e:b=k
  ·subst e;rw [cN] at h;cases h;intro hn;exact h1.elim (λh=>absurd h hn) id
  ·rw [cU e] at h;exact aMl h2 b x h
theorem EOk.df {α:Type} {k:Nat} {e:α→List AV} (E:EOk k e) (k':Nat) (l:List α):dfR ⟨k',l.map (ow e)⟩:=by
 intro cs hcs c hc;obtain ⟨x,_,rfl⟩:=List.mem_map.1 hcs;obtain ⟨d,hd,rfl⟩:=List.mem_map.1 hc;have:=E.mem x d hd;cases d <;> simp only [mO,gZ] at this <;> rfl
theorem EOk.dfS {α:Type} {k:Nat} {e:α→List AV} (E:EOk k e) (k':Nat) (l:List α) (i:Nat) {c:List AV} (h:c.all dfC=true):dfR ⟨k',(l.map (ow e)).set i c⟩:=by
 intro cs hcs d hd;rcases List.mem_or_eq_of_mem_set hcs with h1|rfl
 ·exact E.df k' l cs h1 d hd
 ·exact List.all_eq_true.1 h d hd
theorem aAw {k:Nat} {es:List (List AV)} (h:(es.all λcs=>cs.all dfC)=true):dfR ⟨k,es⟩:=λcs hcs c hc=>List.all_eq_true.1 (List.all_eq_true.1 h cs hcs) c hc
theorem aIw {α:Type} {e:α→List AV} {l:List α} {i:Nat} {v:α} (h:l[i]? =some v):l.map (ow e)=(l.map (ow e)).set i (ow e v):=by
 rw [←List.map_set];congr 1;refine List.ext_getElem? λj=>?_;rw [List.getElem?_set];by_cases e:i=j
 ·subst e
  have:i<l.length:=by
   rcases dZ i l.length with h'|h'
   ·exact h'
   ·rw [jV h'] at h;cases h
  rw [aV rfl,aV this,h]
 ·rw [aX e]
theorem aGz {α:Type} {k:Nat} {e:α→List AV} (E:EOk k e) {l:List α} {i:Nat} {c:List AV} (h:c.all yC=true):aEA ((l.map (ow e)).set i c):=by
 intro cs hcs d hd;rcases List.mem_or_eq_of_mem_set hcs with h1|rfl
 ·exact E.plainO l cs h1 d hd
 ·exact List.all_eq_true.1 h d hd
theorem aHA {s:AState} {b c i j k k' n:Nat} {A es' fs:List (List AV)} {cs:List AV} (hi:i<A.length) (hT:s.kp.T=true) (hb:s.heap b=some ⟨k,A.set i cs⟩) (hj:cs[j]? =some (.abs k' es')) (hc:s.used c=false) (hn:es'.length=n) (hfs:cY es'=fs) (hdf: ∀ t x,s.env t=some x→dfA x=true) (hdc: ∀ b blk,s.heap b=some blk→b ∉ ([]:List Nat)→ ∀ cs∈blk.es,∀ c∈cs,dfC c=true):
  Ent s ⟨s.env,bO [(c,some ⟨k',fs⟩),(b,some ⟨k,A.set i (aER cs j [.own c 0 n])⟩)] s.heap,iJ [c] s.used,s.ns,s.kp⟩:=by
 subst hn hfs
 have hjl:j<cs.length:=by
  rcases dZ j cs.length with h'|h'
  ·exact h'
  ·rw [jV h'] at hj;cases hj
 have h:=aWX (c:=c) hT hb (i:=i) (cs:=cs) (by simp [hi]) hj hc hdf (λb blk hb=>hdc b blk hb (by simp));have e:=aGn (cs:=cs) (j:=j) (vs:=[.own c 0 es'.length]) (by simp;omega);simp only [List.length_singleton] at e;rw [e] at h;simp only [List.set_set] at h;exact h
theorem aWZ {α:Type} {k:Nat} {e:α→List AV} {hp:Hp} {b i n:Nat} {l:List α} (E:EOk k e) (hb:hp b=some ⟨k,l.map (ow e)⟩):aCh hp (.own b i n)=some (k,((l.drop i).take n).map e,[b]):=by
 simp only [aCh,hb,←List.map_drop,←List.map_take];rw [aWP E]
end
noncomputable section
theorem k {α:Sort _} {a:α} :a=a:=rfl
section
variable {P:Program} {ops:Array Oper} {nt:Nat} {r:List Oper} {s:AState} {tr:List Tr} {K:List Tr→AState→Prop} {K':AState→Prop}
def opB (ops:Array Oper) (nt:Nat) (s:AState) (o:Oper) (news:List Nat):Bool:=aKy o nt&&((match pI ops s.env o with|some true=>true|_=>false)&&news.all λb=> !s.used b)
theorem aJz {o:Oper} {news:List Nat} (h:opB ops nt s o news=true):aKy o nt=true∧pI ops s.env o=some true∧(news.all λb=> !s.used b)=true:=by
 simp only [opB,dA] at h;obtain ⟨h1,h2,h3⟩:=h;refine ⟨h1,?_,h3⟩;split at h2
 ·assumption
 ·cases h2
theorem ae {d:Option Tmp} {op:Op} {ty:TypeId} {pos:String} {aft:Array Edge} {g:Option (Nat×Bool)} {e:Eff} (he:AEff P ⟨d,op,ty,pos,aft,g⟩ s.ev s.heap s.kp e) (hb:opB ops nt s ⟨d,op,ty,pos,aft,g⟩ e.news=true) (h:AOps P ops nt r (s.app d e) (aEQ e::tr) K):AOps P ops nt (⟨d,op,ty,pos,aft,g⟩::r) s tr K:=
 bD he (aJz hb).1 (aJz hb).2.1 (aJz hb).2.2 h
theorem se {d:Option Tmp} {op:Op} {ty:TypeId} {pos:String} {aft:Array Edge} {g:Option (Nat×Bool)} {e:Eff} (he:AEff P ⟨d,op,ty,pos,aft,g⟩ s.ev s.heap s.kp e) (hb:opB ops nt s ⟨d,op,ty,pos,aft,g⟩ e.news=true) (h:SOps P ops nt r (s.app d e) K'):SOps P ops nt (⟨d,op,ty,pos,aft,g⟩::r) s K':=
 aRE he (aJz hb).1 (aJz hb).2.1 (aJz hb).2.2 h
theorem am {d:Option Tmp} {ty:TypeId} {pos:String} {aft:Array Edge} {g:Option (Nat×Bool)} {x:Operand} {v:AV} (hx:s.ev x=some v) (hb:opB ops nt s ⟨d,.move x,ty,pos,aft,g⟩ []=true) (h:AOps P ops nt r (s.app d ⟨v,[],[],[]⟩) (aEQ ⟨v,[],[],[]⟩::tr) K):AOps P ops nt (⟨d,.move x,ty,pos,aft,g⟩::r) s tr K:=ae (eH hx) hb h
theorem aa {d:Option Tmp} {ty:TypeId} {pos:String} {aft:Array Edge} {g:Option (Nat×Bool)} {x:Operand} {v:AV} (hx:s.ev x=some v) (hb:opB ops nt s ⟨d,.assign x,ty,pos,aft,g⟩ []=true) (h:AOps P ops nt r (s.app d ⟨v,[],[],[]⟩) (aEQ ⟨v,[],[],[]⟩::tr) K):AOps P ops nt (⟨d,.assign x,ty,pos,aft,g⟩::r) s tr K:=ae (gQ hx) hb h
theorem an (h:K tr s):AOps P ops nt [] s tr K:=gL h
theorem sn (h:K' s):SOps P ops nt [] s K':=aWW h
variable {Q:Exit→AState→Prop}
theorem sQ {x y:Code} (h:AC P nt x s (aDz (λs'=>AC P nt y s' Q) Q)):AC P nt (.seq x y) s Q:=mF h
theorem rg {id:Nat} {l:List Oper} (h:AOps P l.toArray nt l s [] (λ_ s'=>Q .normal s')):AC P nt (.region id l.toArray false) s Q:=fP h
theorem rgS {id:Nat} {l:List Oper} (h:SOps P l.toArray nt l s (Q .normal)):AC P nt (.region id l.toArray false) s Q:=aSr h
theorem tn (h:K' s):aDz K' Q .normal s:=h
end
theorem ak {P:Program} {ops:Array Oper} {nt:Nat} {r:List Oper} {s:AState} {tr:List Tr} {K:List Tr→AState→Prop} {d:Option Tmp} {op:Op} {ty:TypeId} {pos:String} {aft:Array Edge} {g:Option (Nat×Bool)} (hg:pI ops s.env ⟨d,op,ty,pos,aft,g⟩=some false) (hd:aKy ⟨d,op,ty,pos,aft,g⟩ nt=true) (h:AOps P ops nt r ⟨upd d (.tuple []) s.env,s.heap,s.used,s.ns,s.kp⟩ (⟨[],[]⟩::tr) K):AOps P ops nt (⟨d,op,ty,pos,aft,g⟩::r) s tr K:=aOV hg hd h
section
variable {σ:Nat→Option Nat} {n b b0 k:Nat} {h:Hp} {r:List (Nat×Blk)}
theorem hB {y:Blk} (hp:aEA y.es) (hs:σ b=some b0) (hb:h b0=some y) (hn:Nat.blt b n=true) (hr:tP σ n h r):tP σ n h ((b,y)::r):=by
 simp only [tP];rw [hs];exact ⟨⟨y,hb,rfl,.inl ⟨rfl,hp⟩⟩,hn,hr⟩
theorem hX {y:Blk} (hm:match σ b with|some b0=> ∃ x,h b0=some x∧aHt σ n x y|none=>y.es=[]) (hn:Nat.blt b n=true) (hr:tP σ n h r):tP σ n h ((b,y)::r):=⟨hm,hn,hr⟩
end
theorem bAn {P:Program} {T:List (Nat×Ty)} (hT:TyOk P T) {dst:Option Tmp} {pos:String} {aft:Array Edge} {g:Option (Nat×Bool)} {s:AState} {x:Operand} {t e k:Nat} {y:Ty} {dty:TypeId} {α:Type} {f:α→List AV} {l:List α} (hx:s.ev x=some (.list k (List.map f l))) (hy:dH T t=some y) (hd:y.desc= .slice e):
  AEff P ⟨dst,.call ⟨.builtin .len,#[x],#[t]⟩,dty,pos,aft,g⟩ s.ev s.heap s.kp ⟨.int l.length,[],[],[]⟩:=AEff.val (aFI hT hx hy hd) (by rw [dU])
theorem lA {α:Type} {a b:List α} :(a++b).length=a.length+b.length:=List.length_append
theorem lT {α:Type} {a:List α} {i:Nat} {x:α} :(a.set i x).length=a.length:=List.length_set
theorem lR {α:Type} {n:Nat} {x:α} :(List.replicate n x).length=n:=List.length_replicate
theorem lC {α:Type} {a:α} {b:List α} :(a::b).length=b.length+1:=List.length_cons
theorem lN {α:Type} :([]:List α).length=0:=List.length_nil
theorem aKA:([]:List AV).all yE=true:=rfl
theorem uX {d:AV} {ds:List AV} (h1:yE d=true) (h2:ds.all yE=true):(d::ds).all yE=true:=by
 rw [List.all_cons,h1,h2];rfl
end
noncomputable section
theorem k2 {αa:Sort _} {a:αa} {αb:Sort _} {b:αb} :a=a∧b=b:=⟨rfl,rfl⟩
theorem k3 {αa:Sort _} {a:αa} {αb:Sort _} {b:αb} {αc:Sort _} {c:αc} :a=a∧b=b∧c=c:=⟨rfl,rfl,rfl⟩
theorem k4 {αa:Sort _} {a:αa} {αb:Sort _} {b:αb} {αc:Sort _} {c:αc} {αd:Sort _} {d:αd} :a=a∧b=b∧c=c∧d=d:=⟨rfl,rfl,rfl,rfl⟩
theorem k7 {αa:Sort _} {a:αa} {αb:Sort _} {b:αb} {αc:Sort _} {c:αc} {αd:Sort _} {d:αd} {αe:Sort _} {e:αe} {αf:Sort _} {f:αf} {αg:Sort _} {g:αg} :a=a∧b=b∧c=c∧d=d∧e=e∧f=f∧g=g:=⟨rfl,rfl,rfl,rfl,rfl,rfl,rfl⟩
theorem k8 {αa:Sort _} {a:αa} {αb:Sort _} {b:αb} {αc:Sort _} {c:αc} {αd:Sort _} {d:αd} {αe:Sort _} {e:αe} {αf:Sort _} {f:αf} {αg:Sort _} {g:αg} {αh:Sort _} {h:αh} :a=a∧b=b∧c=c∧d=d∧e=e∧f=f∧g=g∧h=h:=⟨rfl,rfl,rfl,rfl,rfl,rfl,rfl,rfl⟩
section
variable {ops:Array Oper} {nt:Nat} {r:List Oper} {s:AState} {tr:List Tr} {K:List Tr→AState→Prop} {K':AState→Prop} {d:Option Tmp} {ty:TypeId} {pos:String} {aft:Array Edge} {g:Option (Nat×Bool)}
theorem lp {x:Operand} {t:Nat} {y:Ty} {b i j:Nat} {blk:Blk} {cs:List AV} {v:AV} (h:s.ev x=some (.ptr b i j)∧s.heap b=some blk∧dH TT t=some y∧(y.desc.isAgg||Nat.beq y.size 1)=true∧blk.es[i]? =some cs∧Nat.ble (j+y.size) cs.length=true∧aAn y.desc.isAgg (((cs.drop j).take y.size).map aEP)=v∧opB ops nt s ⟨d,.load t x,ty,pos,aft,g⟩ []=true) (g2:AOps Tryz.prog ops nt r (s.app d ⟨v,[b],[],[]⟩) (aEQ ⟨v,[b],[],[]⟩::tr) K):AOps Tryz.prog ops nt (⟨d,.load t x,ty,pos,aft,g⟩::r) s tr K:=by
 obtain ⟨h0,h1,h2,h3,h4,h5,h6,h7⟩:=h;exact ae (eK aJ h0 h1 h2 h3 h4 h5 h6) h7 g2
theorem fp {x:Operand} {st f off ft:Nat} {b i j:Nat} {blk:Blk} {y yf:Ty} {fs:List (Nat×Nat)} (h:s.ev x=some (.ptr b i j)∧s.heap b=some blk∧dH TT st=some y∧y.desc= .struct fs∧fs[f]? =some (off,ft)∧dH TT ft=some yf∧Nat.beq yf.size 0=false∧opB ops nt s ⟨d,.fieldAddr st x f,ty,pos,aft,g⟩ []=true) (g2:AOps Tryz.prog ops nt r (s.app d ⟨.ptr b i (j+off),[b],[],[]⟩) (aEQ ⟨.ptr b i (j+off),[b],[],[]⟩::tr) K):AOps Tryz.prog ops nt (⟨d,.fieldAddr st x f,ty,pos,aft,g⟩::r) s tr K:=by
 obtain ⟨h0,h1,h2,h3,h4,h5,h6,h7⟩:=h;exact ae (aCS aJ h0 h1 h2 h3 h4 h5 h6) h7 g2
theorem lr {x:Operand} {t:Nat} {y:Ty} {cs:List AV} {v:AV} (h:s.ev x=some (.ref cs)∧dH TT t=some y∧(y.desc.isAgg||Nat.beq y.size 1)=true∧Nat.ble y.size cs.length=true∧(cs.take y.size).all fE=true∧aAn y.desc.isAgg (cs.take y.size)=v∧opB ops nt s ⟨d,.load t x,ty,pos,aft,g⟩ []=true) (g2:AOps Tryz.prog ops nt r (s.app d ⟨v,[],[],[]⟩) (aEQ ⟨v,[],[],[]⟩::tr) K):AOps Tryz.prog ops nt (⟨d,.load t x,ty,pos,aft,g⟩::r) s tr K:=by
 obtain ⟨h0,h1,h2,h3,h4,h5,h6⟩:=h;exact ae (aMM aJ h0 h1 h2 h3 h4 h5) h6 g2
theorem cm {op:BinOp} {t t':TypeId} {x y:Operand} {q:IntKind} {a b:Int} {c:Bool} (h:s.ev x=some (.sc (.int q a))∧s.ev y=some (.sc (.int q b))∧aXq op a b=some c∧opB ops nt s ⟨d,.binOp op t x y t',ty,pos,aft,g⟩ []=true) (g2:AOps Tryz.prog ops nt r (s.app d ⟨.bl c,[],[],[]⟩) (aEQ ⟨.bl c,[],[],[]⟩::tr) K):AOps Tryz.prog ops nt (⟨d,.binOp op t x y t',ty,pos,aft,g⟩::r) s tr K:=by
 obtain ⟨h0,h1,h2,h3⟩:=h;exact ae (aFl h0 h1 h2) h3 g2
theorem pk {c x y:Operand} {t:Bool} {v:AV} (h:s.ev c=some (.sc (.bool t))∧s.ev (if t then x else y)=some v∧opB ops nt s ⟨d,.pick c x y,ty,pos,aft,g⟩ []=true) (g2:AOps Tryz.prog ops nt r (s.app d ⟨v,[],[],[]⟩) (aEQ ⟨v,[],[],[]⟩::tr) K):AOps Tryz.prog ops nt (⟨d,.pick c x y,ty,pos,aft,g⟩::r) s tr K:=by
 obtain ⟨h0,h1,h2⟩:=h;exact ae (aGA h0 h1) h2 g2
theorem ln {x:Operand} {t e q:Nat} {y:Ty} {α:Type} {f:α→List AV} {l:List α} (h:s.ev x=some (.list q (List.map f l))∧dH TT t=some y∧y.desc= .slice e∧opB ops nt s ⟨d,.call ⟨.builtin .len,#[x],#[t]⟩,ty,pos,aft,g⟩ []=true) (g2:AOps Tryz.prog ops nt r (s.app d ⟨.int l.length,[],[],[]⟩) (aEQ ⟨.int l.length,[],[],[]⟩::tr) K):AOps Tryz.prog ops nt (⟨d,.call ⟨.builtin .len,#[x],#[t]⟩,ty,pos,aft,g⟩::r) s tr K:=by
 obtain ⟨h0,h1,h2,h3⟩:=h;exact ae (bAn aJ h0 h1 h2) h3 g2
theorem lpS {x:Operand} {t:Nat} {y:Ty} {b i j:Nat} {blk:Blk} {cs:List AV} {v:AV} (h:s.ev x=some (.ptr b i j)∧s.heap b=some blk∧dH TT t=some y∧(y.desc.isAgg||Nat.beq y.size 1)=true∧blk.es[i]? =some cs∧Nat.ble (j+y.size) cs.length=true∧aAn y.desc.isAgg (((cs.drop j).take y.size).map aEP)=v∧opB ops nt s ⟨d,.load t x,ty,pos,aft,g⟩ []=true) (g2:SOps Tryz.prog ops nt r (s.app d ⟨v,[b],[],[]⟩) K'):SOps Tryz.prog ops nt (⟨d,.load t x,ty,pos,aft,g⟩::r) s K':=by
 obtain ⟨h0,h1,h2,h3,h4,h5,h6,h7⟩:=h;exact se (eK aJ h0 h1 h2 h3 h4 h5 h6) h7 g2
theorem fpS {x:Operand} {st f off ft:Nat} {b i j:Nat} {blk:Blk} {y yf:Ty} {fs:List (Nat×Nat)} (h:s.ev x=some (.ptr b i j)∧s.heap b=some blk∧dH TT st=some y∧y.desc= .struct fs∧fs[f]? =some (off,ft)∧dH TT ft=some yf∧Nat.beq yf.size 0=false∧opB ops nt s ⟨d,.fieldAddr st x f,ty,pos,aft,g⟩ []=true) (g2:SOps Tryz.prog ops nt r (s.app d ⟨.ptr b i (j+off),[b],[],[]⟩) K'):SOps Tryz.prog ops nt (⟨d,.fieldAddr st x f,ty,pos,aft,g⟩::r) s K':=by
 obtain ⟨h0,h1,h2,h3,h4,h5,h6,h7⟩:=h;exact se (aCS aJ h0 h1 h2 h3 h4 h5 h6) h7 g2
theorem cmS {op:BinOp} {t t':TypeId} {x y:Operand} {q:IntKind} {a b:Int} {c:Bool} (h:s.ev x=some (.sc (.int q a))∧s.ev y=some (.sc (.int q b))∧aXq op a b=some c∧opB ops nt s ⟨d,.binOp op t x y t',ty,pos,aft,g⟩ []=true) (g2:SOps Tryz.prog ops nt r (s.app d ⟨.bl c,[],[],[]⟩) K'):SOps Tryz.prog ops nt (⟨d,.binOp op t x y t',ty,pos,aft,g⟩::r) s K':=by
 obtain ⟨h0,h1,h2,h3⟩:=h;exact se (aFl h0 h1 h2) h3 g2
theorem saS {x:Operand} {v:AV} (h:s.ev x=some v∧opB ops nt s ⟨d,.assign x,ty,pos,aft,g⟩ []=true) (g2:SOps Tryz.prog ops nt r (s.app d ⟨v,[],[],[]⟩) K'):SOps Tryz.prog ops nt (⟨d,.assign x,ty,pos,aft,g⟩::r) s K':=by
 obtain ⟨h0,h1⟩:=h;exact se (gQ h0) h1 g2
theorem lS {x:Operand} {v:AV} (h:s.ev x=some v∧opB ops nt s ⟨d,.move x,ty,pos,aft,g⟩ []=true) (g2:SOps Tryz.prog ops nt r (s.app d ⟨v,[],[],[]⟩) K'):SOps Tryz.prog ops nt (⟨d,.move x,ty,pos,aft,g⟩::r) s K':=by
 obtain ⟨h0,h1⟩:=h;exact se (eH h0) h1 g2
theorem aS:True:=trivial
theorem aT {x:Operand} {v:AV} {Q:Exit→AState→Prop} {T:AState→Prop} (h:s.ev x=some v∧opB ops nt s ⟨d,.assign x,ty,pos,aft,g⟩ []=true) (g2:T (s.app d ⟨v,[],[],[]⟩)):AOps Tryz.prog ops nt [⟨d,.assign x,ty,pos,aft,g⟩] s tr (λ_ s'=>aDz T Q .normal s'):=aa h.1 h.2 (an (tn g2))
theorem aK {o1 o2:Oper} (h:(pI ops s.env o1=some false∧aKy o1 nt=true∧pI ops (upd o1.dst (.tuple []) s.env) o2=some false∧aKy o2 nt=true)) (g2:AOps Tryz.prog ops nt r ⟨upd o2.dst (.tuple []) (upd o1.dst (.tuple []) s.env),s.heap,s.used,s.ns,s.kp⟩ (⟨[],[]⟩::⟨[],[]⟩::tr) K):AOps Tryz.prog ops nt (o1::o2::r) s tr K:=ak h.1 h.2.1 (ak h.2.2.1 h.2.2.2 g2)
theorem sR {id:Nat} {l:List Oper} {y:Code} {Q:Exit→AState→Prop} (h:AOps Tryz.prog l.toArray nt l s [] (λ_ s'=>aDz (λs'=>AC Tryz.prog nt y s' Q) Q .normal s')):AC Tryz.prog nt (.seq (.region id l.toArray false) y) s Q:=sQ (rg h)
theorem sS {id:Nat} {l:List Oper} {y:Code} {Q:Exit→AState→Prop} (h:SOps Tryz.prog l.toArray nt l s (aDz (λs'=>AC Tryz.prog nt y s' Q) Q .normal)):AC Tryz.prog nt (.seq (.region id l.toArray false) y) s Q:=sQ (rgS h)
end
end
noncomputable section
theorem oB {α β:Type} {o:Option α} {k:α→Option β} {r:β} {p:Prop} (h:o.bind k=some r) (f: ∀ a,o=some a→k a=some r→p):p:=by
 obtain ⟨a,h1,h2⟩:=ob h;exact f a h1 h2
theorem dI {h:Hp} {cs:List AV} (hp:cs.all fE=true):viewA h (.agg cs) (.agg cs):=aLk (aQu hp)
theorem gJ {T:List (Nat×Ty)} {rvs:List ResultVar} {e:Exit} {s:AState} {u v:Bool} (h:some u=some v) (p:aDD T s rvs=some [.bl u]∧aKi e=true):qE T rvs (.bl v) e s:=by
 cases h;exact bK p.2 p.1 rfl (mM rfl)
theorem qD {T:List (Nat×Ty)} {rvs:List ResultVar} {e:Exit} {s:AState} {u v:Int} (h:some u=some v) (p:aDD T s rvs=some [.int u]∧aKi e=true):qE T rvs (.int v) e s:=by
 cases h;exact bK p.2 p.1 rfl (aAI rfl)
theorem cL {d:Option Tmp} {ty:TypeId} {pos:String} {aft:Array Edge} {g:Option (Nat×Bool)} {s:AState} {f:FuncId} {xs:Array Operand} {ats:Array TypeId} {avs ds:List AV} {ns':List Nat} {α:Type} {e:α→List AV} {q b:Nat} {l:List α} (ok:EOk q e) (hc:HasC Tryz.prog f ds (.list q (List.map e l))) (h:evs s.ev xs.toList=some avs∧s.ns=b::ns'∧xU s.ns=true) (hv:All2 (viewA s.heap) avs ds):AEff Tryz.prog ⟨d,.call ⟨.value (.func f),xs,ats⟩,ty,pos,aft,g⟩ s.ev s.heap s.kp ⟨.own b 0 l.length,avs.flatMap (pB s.heap)++[].flatMap (rW s.heap),[(b,some ⟨q,List.map (ow e) l⟩)],[b]⟩:=
 AEff.conv (jK (x:= .own b 0 (List.map e l).length) (nb:=[(b,⟨q,cY (List.map e l)⟩)]) hc h.1 (by rw [h.2.1];rfl) rfl h.2.2 (ok.good _) hv) (by simp only [aQ]) (uW (nb':=[(b,⟨q,List.map (ow e) l⟩)]) (by simp only [gU]))
theorem cLK {d:Option Tmp} {ty:TypeId} {pos:String} {aft:Array Edge} {g:Option (Nat×Bool)} {s:AState} {f:FuncId} {xs:Array Operand} {ats:Array TypeId} {avs ds:List AV} {ns':List Nat} {α:Type} {e:α→List AV} {q b:Nat} {l:List α} (ok:EOk q e) (hc:HasC Tryz.prog f ds (.list q (List.map e l))) (h:evs s.ev xs.toList=some avs∧s.ns=b::ns'∧xU s.ns=true) (hv:All2 (aAs s.kp s.heap) avs ds):AEff Tryz.prog ⟨d,.call ⟨.value (.func f),xs,ats⟩,ty,pos,aft,g⟩ s.ev s.heap s.kp ⟨.own b 0 l.length,avs.flatMap (pB s.heap),[(b,some ⟨q,List.map (ow e) l⟩)],[b]⟩:=
 AEff.conv (aMi (x:= .own b 0 (List.map e l).length) (nb:=[(b,⟨q,cY (List.map e l)⟩)]) hc h.1 (by rw [h.2.1];rfl) rfl h.2.2 (ok.good _) hv) (by simp only [aQ]) (uW (nb':=[(b,⟨q,List.map (ow e) l⟩)]) (by simp only [gU]))
theorem cM {d:Option Tmp} {ty:TypeId} {pos:String} {aft:Array Edge} {g:Option (Nat×Bool)} {s:AState} {f:FuncId} {xs:Array Operand} {ats:Array TypeId} {avs ds:List AV} {ns':List Nat} {b:Nat} {v:Mt} (hc:HasC Tryz.prog f ds (.agg (eM v))) (h:evs s.ev xs.toList=some avs∧s.ns=b::ns'∧xU s.ns=true) (hv:All2 (viewA s.heap) avs ds):AEff Tryz.prog ⟨d,.call ⟨.value (.func f),xs,ats⟩,ty,pos,aft,g⟩ s.ev s.heap s.kp ⟨.agg [.int v.rows,.int v.cols,.own b 0 v.cells.length],avs.flatMap (pB s.heap)++[].flatMap (rW s.heap),[(b,some ⟨1,List.map (ow eI) v.cells⟩)],[b]⟩:=
 AEff.conv (jK (x:= .agg [.int v.rows,.int v.cols,.own b 0 (List.map eI v.cells).length]) (nb:=[(b,⟨1,cY (List.map eI v.cells)⟩)]) hc h.1 (by rw [h.2.1];rfl) rfl h.2.2 (cB trivial (cB trivial (cB (cX.good _) qF))) hv) (by simp only [aQ]) (uW (nb':=[(b,⟨1,List.map (ow eI) v.cells⟩)]) (by simp only [gU]))
theorem cMK {d:Option Tmp} {ty:TypeId} {pos:String} {aft:Array Edge} {g:Option (Nat×Bool)} {s:AState} {f:FuncId} {xs:Array Operand} {ats:Array TypeId} {avs ds:List AV} {ns':List Nat} {b:Nat} {v:Mt} (hc:HasC Tryz.prog f ds (.agg (eM v))) (h:evs s.ev xs.toList=some avs∧s.ns=b::ns'∧xU s.ns=true) (hv:All2 (aAs s.kp s.heap) avs ds):AEff Tryz.prog ⟨d,.call ⟨.value (.func f),xs,ats⟩,ty,pos,aft,g⟩ s.ev s.heap s.kp ⟨.agg [.int v.rows,.int v.cols,.own b 0 v.cells.length],avs.flatMap (pB s.heap),[(b,some ⟨1,List.map (ow eI) v.cells⟩)],[b]⟩:=
 AEff.conv (aMi (x:= .agg [.int v.rows,.int v.cols,.own b 0 (List.map eI v.cells).length]) (nb:=[(b,⟨1,cY (List.map eI v.cells)⟩)]) hc h.1 (by rw [h.2.1];rfl) rfl h.2.2 (cB trivial (cB trivial (cB (cX.good _) qF))) hv) (by simp only [aQ]) (uW (nb':=[(b,⟨1,List.map (ow eI) v.cells⟩)]) (by simp only [gU]))
theorem cQ {d:Option Tmp} {ty:TypeId} {pos:String} {aft:Array Edge} {g:Option (Nat×Bool)} {s:AState} {f:FuncId} {xs:Array Operand} {ats:Array TypeId} {avs ds:List AV} {ns':List Nat} {b c:Nat} {v:Qv} (hc:HasC Tryz.prog f ds (.agg (eQ v))) (h:evs s.ev xs.toList=some avs∧s.ns=b::c::ns'∧xU s.ns=true) (hv:All2 (viewA s.heap) avs ds):AEff Tryz.prog ⟨d,.call ⟨.value (.func f),xs,ats⟩,ty,pos,aft,g⟩ s.ev s.heap s.kp ⟨.agg [.int v.n,.own b 0 v.src.length,.own c 0 v.tgt.length],avs.flatMap (pB s.heap)++[].flatMap (rW s.heap),[(b,some ⟨1,List.map (ow eI) v.src⟩),(c,some ⟨1,List.map (ow eI) v.tgt⟩)],[b,c]⟩:=
 AEff.conv (jK (x:= .agg [.int v.n,.own b 0 (List.map eI v.src).length,.own c 0 (List.map eI v.tgt).length]) (nb:=[(b,⟨1,cY (List.map eI v.src)⟩),(c,⟨1,cY (List.map eI v.tgt)⟩)]) hc h.1 (by rw [h.2.1];rfl) rfl h.2.2 (cB trivial (cB (cX.good _) (cB (cX.good _) qF))) hv) (by simp only [aQ]) (uW (nb':=[(b,⟨1,List.map (ow eI) v.src⟩),(c,⟨1,List.map (ow eI) v.tgt⟩)]) (by simp only [gU]))
theorem cR {d:Option Tmp} {ty:TypeId} {pos:String} {aft:Array Edge} {g:Option (Nat×Bool)} {s:AState} {f:FuncId} {xs:Array Operand} {ats:Array TypeId} {avs ds:List AV} {ns':List Nat} {b c b3 b4:Nat} {v:Rp} (hc:HasC Tryz.prog f ds (.agg (eR v))) (h:evs s.ev xs.toList=some avs∧s.ns=b::c::b3::b4::ns'∧xU s.ns=true) (hv:All2 (viewA s.heap) avs ds):AEff Tryz.prog ⟨d,.call ⟨.value (.func f),xs,ats⟩,ty,pos,aft,g⟩ s.ev s.heap s.kp ⟨.agg [.int v.p,.int v.q.n,.own b 0 v.q.src.length,.own c 0 v.q.tgt.length,.own b3 0 v.dims.length,.own b4 0 v.maps.length],avs.flatMap (pB s.heap)++[].flatMap (rW s.heap),[(b,some ⟨1,List.map (ow eI) v.q.src⟩),(c,some ⟨1,List.map (ow eI) v.q.tgt⟩),(b3,some ⟨1,List.map (ow eI) v.dims⟩),(b4,some ⟨3,List.map (ow eM) v.maps⟩)],[b,c,b3,b4]⟩:=
 AEff.conv (jK (x:= .agg [.int v.p,.int v.q.n,.own b 0 (List.map eI v.q.src).length,.own c 0 (List.map eI v.q.tgt).length,.own b3 0 (List.map eI v.dims).length,.own b4 0 (List.map eM v.maps).length]) (nb:=[(b,⟨1,cY (List.map eI v.q.src)⟩),(c,⟨1,cY (List.map eI v.q.tgt)⟩),(b3,⟨1,cY (List.map eI v.dims)⟩),(b4,⟨3,cY (List.map eM v.maps)⟩)]) hc h.1 (by rw [h.2.1];rfl) rfl h.2.2 (cB trivial (cB trivial (cB (cX.good _) (cB (cX.good _) (cB (cX.good _) (cB (bU.good _) qF)))))) hv) (by simp only [aQ]) (uW (nb':=[(b,⟨1,List.map (ow eI) v.q.src⟩),(c,⟨1,List.map (ow eI) v.q.tgt⟩),(b3,⟨1,List.map (ow eI) v.dims⟩),(b4,⟨3,List.map (ow eM) v.maps⟩)]) (by simp only [gU]))
theorem cRK {d:Option Tmp} {ty:TypeId} {pos:String} {aft:Array Edge} {g:Option (Nat×Bool)} {s:AState} {f:FuncId} {xs:Array Operand} {ats:Array TypeId} {avs ds:List AV} {ns':List Nat} {b c b3 b4:Nat} {v:Rp} (hc:HasC Tryz.prog f ds (.agg (eR v))) (h:evs s.ev xs.toList=some avs∧s.ns=b::c::b3::b4::ns'∧xU s.ns=true) (hv:All2 (aAs s.kp s.heap) avs ds):AEff Tryz.prog ⟨d,.call ⟨.value (.func f),xs,ats⟩,ty,pos,aft,g⟩ s.ev s.heap s.kp ⟨.agg [.int v.p,.int v.q.n,.own b 0 v.q.src.length,.own c 0 v.q.tgt.length,.own b3 0 v.dims.length,.own b4 0 v.maps.length],avs.flatMap (pB s.heap),[(b,some ⟨1,List.map (ow eI) v.q.src⟩),(c,some ⟨1,List.map (ow eI) v.q.tgt⟩),(b3,some ⟨1,List.map (ow eI) v.dims⟩),(b4,some ⟨3,List.map (ow eM) v.maps⟩)],[b,c,b3,b4]⟩:=
 AEff.conv (aMi (x:= .agg [.int v.p,.int v.q.n,.own b 0 (List.map eI v.q.src).length,.own c 0 (List.map eI v.q.tgt).length,.own b3 0 (List.map eI v.dims).length,.own b4 0 (List.map eM v.maps).length]) (nb:=[(b,⟨1,cY (List.map eI v.q.src)⟩),(c,⟨1,cY (List.map eI v.q.tgt)⟩),(b3,⟨1,cY (List.map eI v.dims)⟩),(b4,⟨3,cY (List.map eM v.maps)⟩)]) hc h.1 (by rw [h.2.1];rfl) rfl h.2.2 (cB trivial (cB trivial (cB (cX.good _) (cB (cX.good _) (cB (cX.good _) (cB (bU.good _) qF)))))) hv) (by simp only [aQ]) (uW (nb':=[(b,⟨1,List.map (ow eI) v.q.src⟩),(c,⟨1,List.map (ow eI) v.q.tgt⟩),(b3,⟨1,List.map (ow eI) v.dims⟩),(b4,⟨3,List.map (ow eM) v.maps⟩)]) (by simp only [gU]))
theorem cS {d:Option Tmp} {ty:TypeId} {pos:String} {aft:Array Edge} {g:Option (Nat×Bool)} {s:AState} {f:FuncId} {xs:Array Operand} {ats:Array TypeId} {avs ds:List AV} {ns':List Nat} {b:Nat} {v:Sc} (hc:HasC Tryz.prog f ds (.agg (eS v))) (h:evs s.ev xs.toList=some avs∧s.ns=b::ns'∧xU s.ns=true) (hv:All2 (viewA s.heap) avs ds):AEff Tryz.prog ⟨d,.call ⟨.value (.func f),xs,ats⟩,ty,pos,aft,g⟩ s.ev s.heap s.kp ⟨.agg [.int v.size,.own b 0 v.basis.length],avs.flatMap (pB s.heap)++[].flatMap (rW s.heap),[(b,some ⟨1,List.map (ow (dL 1 eI)) v.basis⟩)],[b]⟩:=
 AEff.conv (jK (x:= .agg [.int v.size,.own b 0 (List.map (dL 1 eI) v.basis).length]) (nb:=[(b,⟨1,cY (List.map (dL 1 eI) v.basis)⟩)]) hc h.1 (by rw [h.2.1];rfl) rfl h.2.2 (cB trivial (cB (bZ.good _) qF)) hv) (by simp only [aQ]) (uW (nb':=[(b,⟨1,List.map (ow (dL 1 eI)) v.basis⟩)]) (by simp only [gU]))
def re1 (σ:Nat→Option Nat):AV→AV
 | .own b i m=>match σ b with|some b0=> .own b0 i m|none=> .dead
 | .ptr b i j=>match σ b with|some b0=> .ptr b0 i j|none=> .dead
 |x=>x
def reA (σ:Nat→Option Nat):AV→AV
 | .agg cs=> .agg (cs.map (re1 σ))
 |x=>re1 σ x
def ok1 (σ:Nat→Option Nat) (n:Nat):AV→Bool
 | .own b _ _=>(σ b).isSome &&Nat.blt b n
 | .ptr b _ _=>(σ b).isSome &&Nat.blt b n
 | .sc _=>true
 | .nil _=>true
 | .list _ _=>true
 | .ref _=>true
 |_=>false
def okA (σ:Nat→Option Nat) (n:Nat):AV→Bool
 | .agg cs=>cs.all (ok1 σ n)
 |x=>ok1 σ n x
def aRK (e:Nat→Option AV):List (Nat×AV)→List (Option AV)
 | []=>[]
 |(t,_)::r=>e t::aRK e r
def aRL (σ:Nat→Option Nat):List (Nat×AV)→List (Option AV)
 | []=>[]
 |(_,y)::r=>some (reA σ y)::aRL σ r
theorem aEo {σ:Nat→Option Nat} {n:Nat} {y:AV} (h:ok1 σ n y=true):iB σ n (re1 σ y) y:=by
 cases y <;> simp only [ok1,gZ] at h
 ·rfl
 ·trivial
 ·exact ⟨rfl,rfl⟩
 ·rfl
 all_goals
  rename_i b i j
  simp only [dA] at h
  obtain ⟨b0,hb⟩:=Option.isSome_iff_exists.1 h.1
  simp only [re1,hb]
  exact ⟨hb,rfl,rfl,h.2⟩
theorem aYr {σ:Nat→Option Nat} {n:Nat} : ∀ {cs:List AV},cs.all (ok1 σ n)=true→All2 (iB σ n) (cs.map (re1 σ)) cs
 | [],_=>rfl
 |c::cs,h=>by
  simp only [List.all_cons,dA] at h;exact ⟨c,cs,rfl,aEo h.1,aYr h.2⟩
theorem bAC {σ:Nat→Option Nat} {n:Nat} {y:AV} (h:okA σ n y=true):rG σ n (reA σ y) y:=by
 cases y with
 |agg cs=>exact aYr h
 |fn f cs=>simp [okA,ok1] at h
 |tuple cs=>simp [okA,ok1] at h
 |dead=>simp [okA,ok1] at h
 |abs q es=>simp [okA,ok1] at h
 |sc u=>exact aEo (σ:=σ) (n:=n) (y:= .sc u) h
 |nil q=>exact aEo (σ:=σ) (n:=n) (y:= .nil q) h
 |list q es=>exact aEo (σ:=σ) (n:=n) (y:= .list q es) h
 |ref cs=>exact aEo (σ:=σ) (n:=n) (y:= .ref cs) h
 |own b i m=>
  have:=aEo (σ:=σ) (n:=n) (y:= .own b i m) h;simp only [reA];generalize re1 σ (.own b i m)=z at*;cases z <;> first|exact this|exact this.elim
 |ptr b i j=>
  have:=aEo (σ:=σ) (n:=n) (y:= .ptr b i j) h;simp only [reA];generalize re1 σ (.ptr b i j)=z at*;cases z <;> first|exact this|exact this.elim
theorem bAD {σ:Nat→Option Nat} {n:Nat} {e:Nat→Option AV} : ∀ {tl:List (Nat×AV)},aRK e tl=aRL σ tl→(tl.all λp=>okA σ n p.2)=true→aIk σ n e tl
 | [],_,_=>trivial
 |(t,y)::r,h,q=>by
  simp only [aRK,aRL,List.cons.injEq] at h;simp only [List.all_cons,dA] at q;exact ⟨⟨_,h.1,bAC q.1⟩,bAD h.2 q.2⟩
theorem bJ {σ:Nat→Option Nat} {n:Nat} {e:Nat→Option AV} {tl:List (Nat×AV)} (h:aRK e tl=aRL σ tl∧(tl.all λp=>okA σ n p.2)=true):aIk σ n e tl:=bAD h.1 h.2
end
noncomputable section
def nmA:List Nat:=[0,1,2,3,4,5,6,7,8,9,10,11,12,13,14,15,16,17,18,19]++[20,21,22,23,24,25,26,27,28,29,30,31,32,33,34,35,36,37,38,39]++([40,41,42,43,44,45,46,47,48,49,50,51,52,53,54,55,56,57,58,59]++([60,61,62,63,64,65,66,67,68,69,70,71,72,73,74,75,76,77,78,79]++[80,81,82,83,84,85,86,87,88,89,90,91,92,93,94,95,96,97,98,99]))
abbrev mN (e:List (Nat×AV)) (h:List (Nat×Blk)) (n:Nat) (kp:Kp:=0):AState:=mkS e h n (nmA.drop n) kp
def iSg:List (Nat×Blk)→Nat→Option Nat
 | [],_=>none
 |(q,_)::r,t=>bif Nat.beq t q then some t else iSg r t
def zSg:List (Nat×Blk)→List Nat→Nat→Option Nat
 |(q,_)::r,b::bs,t=>bif Nat.beq t q then some b else zSg r bs t
 |_,_,_=>none
theorem bT {s:AState} {n:Nat} {kp:Kp} {tl:List (Nat×AV)} {hl:List (Nat×Blk)} (he:aIk (iSg hl) n s.env tl) (hh:tP (iSg hl) n s.heap hl) (p:aFF (iSg hl) hl=true∧s.kp=kp∧aOW (iSg hl) kp.n hl=true∧Nat.ble kp.n n=true):Ent s (mN tl hl n kp):=eJ he hh p.1 p.2.1 p.2.2.1 p.2.2.2
theorem kC (bs:List Nat) {s:AState} {n:Nat} {kp:Kp} {tl:List (Nat×AV)} {hl:List (Nat×Blk)} (he:aIk (zSg hl bs) n s.env tl) (hh:tP (zSg hl bs) n s.heap hl) (p:aFF (zSg hl bs) hl=true∧s.kp=kp∧aOW (zSg hl bs) kp.n hl=true∧Nat.ble kp.n n=true):Ent s (mN tl hl n kp):=eJ he hh p.1 p.2.1 p.2.2.1 p.2.2.2
section
variable {σ:Nat→Option Nat} {n:Nat}
theorem aRM {e:Nat→Option AV} : ∀ {m:Nat} {tl:List (Nat×AV)},aIk σ n e (tl.take m)→aIk σ n e (tl.drop m)→aIk σ n e tl
 |0,_,_,h=>h
 |m+1,[],_,_=>trivial
 |m+1,(t,y)::r,h1,h2=>⟨h1.1,aRM h1.2 h2⟩
theorem iU (m:Nat) {e:Nat→Option AV} {tl:List (Nat×AV)} (h:aRK e (tl.take m)=aRL σ (tl.take m)∧((tl.take m).all λp=>okA σ n p.2)=true) (h2:aIk σ n e (tl.drop m)):aIk σ n e tl:=aRM (bJ h) h2
theorem gK {e:Nat→Option AV} {t:Nat} {y:AV} {r:List (Nat×AV)} (h: ∃ x,e t=some x∧rG σ n x y) (h2:aIk σ n e r):aIk σ n e ((t,y)::r):=⟨h,h2⟩
variable {b b0 q:Nat} {h:Hp} {r:List (Nat×Blk)}
theorem bG {l:List Int} (p:(σ b,h b0,Nat.blt b n)=(some b0,some ⟨1,List.map (ow eI) l⟩,true)) (hr:tP σ n h r):tP σ n h ((b,⟨1,List.map (ow eI) l⟩)::r):=by
 obtain ⟨p1,p⟩:=Prod.mk.inj p;obtain ⟨p2,p3⟩:=Prod.mk.inj p;exact hB (cX.plainO _) p1 p2 p3 hr
theorem bA {y:Blk} (p:(σ b,h b0,Nat.blt b n,y.es.all λcs=>cs.all yC)=(some b0,some y,true,true)) (hr:tP σ n h r):tP σ n h ((b,y)::r):=by
 obtain ⟨p1,p⟩:=Prod.mk.inj p;obtain ⟨p2,p⟩:=Prod.mk.inj p;obtain ⟨p3,p4⟩:=Prod.mk.inj p;exact hB (aWF p4) p1 p2 p3 hr
theorem cE {y:Blk} (hp:aEA y.es) (p:(σ b,h b0,Nat.blt b n)=(some b0,some y,true)) (hr:tP σ n h r):tP σ n h ((b,y)::r):=by
 obtain ⟨p1,p⟩:=Prod.mk.inj p;obtain ⟨p2,p3⟩:=Prod.mk.inj p;exact hB hp p1 p2 p3 hr
def reC (σ:Nat→Option Nat):AV→AV
 | .own b i m=>match σ b with|some b0=> .own b0 i m|none=> .dead
 | .ptr b i j=>match σ b with|some b0=> .ptr b0 i j|none=> .dead
 |x=>x
def okC (σ:Nat→Option Nat) (n:Nat):AV→Bool
 | .own b _ _=>(σ b).isSome &&Nat.blt b n
 | .ptr b _ _=>(σ b).isSome &&Nat.blt b n
 | .sc _=>true
 | .nil _=>true
 | .list _ _=>true
 | .abs _ _=>true
 | .ref _=>true
 |_=>false
theorem bAG {y:AV} (h:okC σ n y=true):mV σ n (reC σ y) y:=by
 cases y with
 |sc u=>exact aEo (σ:=σ) (n:=n) (y:= .sc u) h
 |nil q=>exact aEo (σ:=σ) (n:=n) (y:= .nil q) h
 |list q es=>exact aEo (σ:=σ) (n:=n) (y:= .list q es) h
 |ref cs=>exact aEo (σ:=σ) (n:=n) (y:= .ref cs) h
 |abs q es=>exact ⟨rfl,rfl⟩
 |own b i m=>
  have:=aEo (σ:=σ) (n:=n) (y:= .own b i m) h;show mV σ n (re1 σ (.own b i m)) _;generalize re1 σ (.own b i m)=z at*;cases z <;> first|exact this|exact this.elim
 |ptr b i j=>
  have:=aEo (σ:=σ) (n:=n) (y:= .ptr b i j) h;show mV σ n (re1 σ (.ptr b i j)) _;generalize re1 σ (.ptr b i j)=z at*;cases z <;> first|exact this|exact this.elim
 |agg cs=>simp [okC] at h
 |fn f cs=>simp [okC] at h
 |tuple cs=>simp [okC] at h
 |dead=>simp [okC] at h
theorem aWb: ∀ {cs:List AV},cs.all (okC σ n)=true→All2 (mV σ n) (cs.map (reC σ)) cs
 | [],_=>rfl
 |c::cs,h=>by
  simp only [List.all_cons,dA] at h;exact ⟨c,cs,rfl,bAG h.1,aWb h.2⟩
theorem aWc: ∀ {es:List (List AV)},(es.all λcs=>cs.all (okC σ n))=true→All2 (All2 (mV σ n)) (es.map (List.map (reC σ))) es
 | [],_=>rfl
 |c::cs,h=>by
  simp only [List.all_cons,dA] at h;exact ⟨c,cs,rfl,aWb h.1,aWc h.2⟩
theorem cP {es:List (List AV)} (p:(σ b,h b0,Nat.blt b n,es.all λcs=>cs.all (okC σ n))=(some b0,some ⟨q,es.map (List.map (reC σ))⟩,true,true)) (hr:tP σ n h r):tP σ n h ((b,⟨q,es⟩)::r):=by
 obtain ⟨p1,p⟩:=Prod.mk.inj p;obtain ⟨p2,p⟩:=Prod.mk.inj p;obtain ⟨p3,p4⟩:=Prod.mk.inj p;refine hX ?_ p3 hr;rw [p1];exact ⟨_,p2,rfl,.inr (aWc p4)⟩
end
theorem cG {α:Type} {c:Bool} {A:Option α} {r:α} {p:Prop} (h:cond c A none=some r) (f:c=true→A=some r→p):p:=f (cg h).1 (cg h).2
section
variable {h:Hp} {x:AV} {xs ds:List AV}
theorem cC (q:fE x=true) (b:All2 (viewA h) xs ds):All2 (viewA h) (x::xs) (x::ds):=aH (aGp q) b
theorem vcT {b m:Nat} {l:List Int} (hb:h b=some ⟨1,List.map (ow eI) l⟩) (hn:l.length=m) (q:All2 (viewA h) xs ds):All2 (viewA h) (.own b 0 m::xs) (.list 1 (List.map eI l)::ds):=aH (aCi cX hb hn) q
end
theorem cT {d:Option Tmp} {ty:TypeId} {pos:String} {aft:Array Edge} {g:Option (Nat×Bool)} {s:AState} {f:FuncId} {xs:Array Operand} {ats:Array TypeId} {avs ds:List AV} {ns':List Nat} {α:Type} {e:α→List AV} {q b:Nat} {l:List α} {z:Bool} {c0:Nat} (ok:EOk q e) (hc:HasC Tryz.prog f ds (.tuple [.list q (List.map e l),.bl z])) (h:evs s.ev xs.toList=some avs∧s.ns=b::c0::ns'∧xU s.ns=true) (hv:All2 (viewA s.heap) avs ds):AEff Tryz.prog ⟨d,.call ⟨.value (.func f),xs,ats⟩,ty,pos,aft,g⟩ s.ev s.heap s.kp ⟨.tuple [.own b 0 l.length,.bl z],avs.flatMap (pB s.heap)++[].flatMap (rW s.heap),[(b,some ⟨q,List.map (ow e) l⟩)],[b]⟩:=
 AEff.conv (jK (x:= .tuple [.own b 0 (List.map e l).length,.bl z]) (nb:=[(b,⟨q,cY (List.map e l)⟩)]) hc h.1 (by rw [h.2.1];rfl) rfl h.2.2 (dV (ok.good _) (dV trivial uL)) hv) (by simp only [aQ]) (uW (nb':=[(b,⟨q,List.map (ow e) l⟩)]) (by simp only [gU]))
section
variable {h:Hp} {κ:Kp}
theorem vaR {b1 b2 b3 b4 m1 m2 m3 m4:Nat} {v:Rp} (p:h b1=some ⟨1,List.map (ow eI) v.q.src⟩∧v.q.src.length=m1∧h b2=some ⟨1,List.map (ow eI) v.q.tgt⟩∧v.q.tgt.length=m2∧h b3=some ⟨1,List.map (ow eI) v.dims⟩∧v.dims.length=m3∧h b4=some ⟨3,List.map (ow eM) v.maps⟩∧v.maps.length=m4):viewA h (.agg [.int v.p,.int v.q.n,.own b1 0 m1,.own b2 0 m2,.own b3 0 m3,.own b4 0 m4]) (.agg (eR v)):=
 aLk (oJ (wO rfl) (oJ (wO rfl) (oJ (aPp cX p.1 p.2.1) (oJ (aPp cX p.2.2.1 p.2.2.2.1) (oJ (aPp cX p.2.2.2.2.1 p.2.2.2.2.2.1) (oJ (aPp bU p.2.2.2.2.2.2.1 p.2.2.2.2.2.2.2) aFJ))))))
theorem vaM {b m:Nat} {v:Mt} (p:h b=some ⟨1,List.map (ow eI) v.cells⟩∧v.cells.length=m):viewA h (.agg [.int v.rows,.int v.cols,.own b 0 m]) (.agg (eM v)):=aLk (oJ (wO rfl) (oJ (wO rfl) (oJ (aPp cX p.1 p.2) aFJ)))
theorem vaC {b m:Nat} {v:Sc} (p:h b=some ⟨1,List.map (ow (dL 1 eI)) v.basis⟩∧v.basis.length=m):viewA h (.agg [.int v.size,.own b 0 m]) (.agg (eS v)):=aLk (oJ (wO rfl) (oJ (aPp bZ p.1 p.2) aFJ))
theorem vrR {W:World} {a:Rp} {w2 w3 w4 w5:Value} {S2 S3 S4 S5:List Nat} (hf:κ.fx=fxW W) (r2:RepD W (.list 1 (List.map eI a.q.src)) w2 S2) (r3:RepD W (.list 1 (List.map eI a.q.tgt)) w3 S3) (r4:RepD W (.list 1 (List.map eI a.dims)) w4 S4) (r5:RepD W (.list 3 (List.map eM a.maps)) w5 S5):aAs κ h (.agg [.int a.p,.int a.q.n,.sc w2,.sc w3,.sc w4,.sc w5]) (.agg (eR a)):=
 .inr (pK (aGy hf rfl) (pK (aGy hf rfl) (pK (aES hf r2) (pK (aES hf r3) (pK (aES hf r4) (pK (aES hf r5) aLm))))))
variable {x:AV} {xs ds:List AV}
theorem wkS (q:fE x=true) (b:All2 (aAs κ h) xs ds):All2 (aAs κ h) (x::xs) (x::ds):=aAt (.inl (aGp q)) b
theorem wkT {b m:Nat} {l:List Int} (hb:h b=some ⟨1,List.map (ow eI) l⟩) (hn:l.length=m) (q:All2 (aAs κ h) xs ds):All2 (aAs κ h) (.own b 0 m::xs) (.list 1 (List.map eI l)::ds):=aAt (.inl (aCi cX hb hn)) q
theorem wkD {W:World} {k:Nat} {es:List (List AV)} {v:Value} {S:List Nat} (hf:κ.fx=fxW W) (r:RepD W (.list k es) v S) (q:All2 (aAs κ h) xs ds):All2 (aAs κ h) (.sc v::xs) (.list k es::ds):=aAt (.inr (aYp hf r)) q
end
section
variable {dst:Option Tmp} {ty:TypeId} {pos:String} {aft:Array Edge} {g:Option (Nat×Bool)} {s:AState}
theorem wl {t e:TypeId} {n:Nat} {parts:Array (Nat×Operand)} {y ye:Ty} {ps:List (Nat×List AV)} {cs:List AV} {b:Nat}
  (h:(s.ns.head?,dH TT t,y.desc,dH TT e,ye.zero.length,Nat.ble (n*ye.size) 16777216,Nat.ble n 16777216,aCA s.ev parts.toList,aEe (λi=>some (i*ye.size,ye.size)) (List.replicate n ye.zero).flatten ps,(ps.all λp=>p.2.all (okCell s.heap)),cs.all (okCell s.heap),(ps.flatMap (λp=>dJ p.2)++dJ cs).contains b)=(some b,some y,.slice e,some ye,ye.size,true,true,some ps,some cs,true,true,false)):
  AEff Tryz.prog ⟨dst,.buildSlice t n parts,ty,pos,aft,g⟩ s.ev s.heap s.kp ⟨.own b 0 n,ps.flatMap (λp=>dJ p.2)++dJ cs,[(b,some ⟨ye.size,aGB ye.size n cs⟩)],[b]⟩:=by
 simp only [Prod.mk.injEq] at h;obtain ⟨h1,h2,h3,h4,h5,h6,h7,h8,h9,h10,h11,h12⟩:=h;exact aZs aJ h1 h2 h3 h4 h5 h6 h7 h8 h9 h10 h11 h12
theorem ws {t:TypeId} {y:Ty} {x z:Operand} {val:AV} {b i j kk:Nat} {ees:List (List AV)} {cs:List AV}
  (h:(s.ev x,s.heap b,s.ev z,dH TT t,Nat.beq (dQ val).length y.size,(dQ val).all (okCell s.heap),ees[i]?,Nat.ble (j+y.size) cs.length)=(some (.ptr b i j),some ⟨kk,ees⟩,some val,some y,true,true,some cs,true)):
  AEff Tryz.prog ⟨dst,.store t x z,ty,pos,aft,g⟩ s.ev s.heap s.kp ⟨.dead,b::dJ (dQ val),[(b,some ⟨kk,ees.set i (aER cs j (dQ val))⟩)],[]⟩:=by
 simp only [Prod.mk.injEq] at h;obtain ⟨h1,h2,h3,h4,h5,h6,h7,h8⟩:=h;exact aGo aJ h1 h2 h3 h4 h5 h6 h7 h8
theorem wb {t:TypeId} {x:Operand} {v:AV} {b:Nat} (h:(s.ns.head?,s.ev x,(dQ v).all (okCell s.heap),(dJ (dQ v)).contains b)=(some b,some v,true,false)):
  AEff Tryz.prog ⟨dst,.box t x,ty,pos,aft,g⟩ s.ev s.heap s.kp ⟨.ptr b 0 0,dJ (dQ v),[(b,some ⟨(dQ v).length,[dQ v]⟩)],[b]⟩:=by
 simp only [Prod.mk.injEq] at h;obtain ⟨h1,h2,h3,h4⟩:=h;exact aYn h1 h2 h3 h4
theorem xl {α:Type} {k:Nat} {e:α→List AV} {x ix:Operand} {t et:Nat} {y ye:Ty} {l:List α} {kk:IntKind} {i:Int} {v:α} (hm:cJ l i=some v)
  (h:(s.ev x,s.ev ix,dH TT t,y.desc,dH TT et,ye.size)=(some (.list k (l.map e)),some (.sc (.int kk i)),some y,.slice et,some ye,k)):
  AEff Tryz.prog ⟨dst,.indexAddr t x ix,ty,pos,aft,g⟩ s.ev s.heap s.kp ⟨.ref (e v),[],[],[]⟩:=by
 simp only [Prod.mk.injEq] at h;obtain ⟨h1,h2,h3,h4,h5,h6⟩:=h;exact aUm aJ hm h1 h2 h3 h4 h5 h6
theorem xo {α:Type} {l:List α} {v:α} {x ix:Operand} {t et:Nat} {y ye:Ty} {b kz:Nat} {es:List (List AV)} {kk:IntKind} {i:Int} (hm:cJ l i=some v)
  (h:(s.ev x,s.heap b,s.ev ix,dH TT t,y.desc,dH TT et,ye.size)=(some (.own b 0 l.length),some ⟨kz,es⟩,some (.sc (.int kk i)),some y,.slice et,some ye,kz)):
  AEff Tryz.prog ⟨dst,.indexAddr t x ix,ty,pos,aft,g⟩ s.ev s.heap s.kp ⟨.ptr b i.toNat 0,[b],[],[]⟩:=by
 simp only [Prod.mk.injEq] at h;obtain ⟨h1,h2,h3,h4,h5,h6,h7⟩:=h;exact aEn aJ (aPj hm) (rH hm) h1 h2 h3 h4 h5 h6 h7
theorem wp {α:Type} {e:α→List AV} {l:List α} {u:α} {x:Operand} {t:Nat} {y:Ty} {b j k:Nat} {i:Int} {v:AV} (hm:cJ l i=some u)
  (h:(s.ev x,s.heap b,dH TT t,(y.desc.isAgg||Nat.beq y.size 1),Nat.ble (j+y.size) (e u).length,aAn y.desc.isAgg ((((e u).drop j).take y.size).map aEP))=(some (.ptr b i.toNat j),some ⟨k,l.map e⟩,some y,true,true,v)):
  AEff Tryz.prog ⟨dst,.load t x,ty,pos,aft,g⟩ s.ev s.heap s.kp ⟨v,[b],[],[]⟩:=by
 simp only [Prod.mk.injEq] at h;obtain ⟨h1,h2,h3,h4,h5,h6⟩:=h;exact eK aJ h1 h2 h3 h4 (aAJ (dB hm)) h5 h6
end
theorem hM {f:FuncId} {fn:Func} {c:Code} {nt:Nat} {ds:List AV} {r:AV} (rvs:List ResultVar) (hf:Tryz.prog.funcs[f]? =some fn) (hnt:fn.ntmps=nt) (h':(fn.body,(fn.name== "runtime.NumGoroutine"),fn.results.toList,Nat.ble ds.length nt,ds.all yE)=(some c,false,rvs,true,true)) (h:AC Tryz.prog nt c (s0 ds nmA) (qE TT rvs r)):HasC Tryz.prog f ds r:=by
 simp only [Prod.mk.injEq] at h';exact aCC aJ hf h'.1 h'.2.1 hnt h'.2.2.1 h'.2.2.2.1 h'.2.2.2.2 h
@[elab_as_elim] theorem sp {α:Type} {a:α} {P:α→Prop} {o:α} (h:some a=some o) (p:P a):P o:=so h▸p
theorem mG {α:Type} {t:Bool} {A B:Option α} {r:α} {G:Prop} (h:cond t A B=some r) (p:t=true→A=some r→G) (q:t=false→B=some r→G):G:=by
 rcases cb h with ⟨e,h⟩|⟨e,h⟩
 ·exact p e h
 ·exact q e h
theorem cV {P:Program} {nt:Nat} {Q:Exit→AState→Prop} {s:AState} {c:Operand} {x y:Code} {α:Type} {t:Bool} {A B:Option α} {r:α} (hc:s.ev c=some (.sc (.bool t))) (h:cond t A B=some r) (p:t=true→A=some r→AC P nt x s Q) (q:t=false→B=some r→AC P nt y s Q):AC P nt (.cond c x y) s Q:=mG h (λe h=>cW hc e (p e h)) λe h=>vV hc e (q e h)
theorem lB {p q:Prop} (a:p) (b:q):p∧q:=⟨a,b⟩
def oMt (v:Mt) (a:Nat):List AV:=[.int v.rows,.int v.cols,.own a 0 v.cells.length]
def oSc (v:Sc) (a:Nat):List AV:=[.int v.size,.own a 0 v.basis.length]
def oRp (v:Rp) (a b c d:Nat):List AV:=[.int v.p,.int v.q.n,.own a 0 v.q.src.length,.own b 0 v.q.tgt.length,.own c 0 v.dims.length,.own d 0 v.maps.length]
def fB:List AV:=[.int 0,.int 0,.nil 1]
def iR:List AV:=[.int 0,.int 0,.nil 1,.nil 1,.nil 1,.nil 3]
end
noncomputable section
set_option maxRecDepth 10000
set_option maxHeartbeats 4000000
def kV (a0:Int) (a1:Int) (a2:Int):Option Bool:=
 bif decide (a1≤a0) then
 (some (decide (a0≤a2)))
 else
 (some (false))
theorem qG (a0:Int) (a1:Int) (a2:Int) (r:Bool) (h:kV a0 a1 a2=some r):HasC Tryz.prog 92 [.int a0,.int a1,.int a2] (.bl r):=by
 exact hM [.tmp 6] Tryz.func92 Tryz.ntmps92 k<|sR<|aT k2<|sR<|am k k<|am k k<|cm k4<|am k k<|mG h (λq1 h=>aM 10 k q1<|am k k<|am k k<|cm k4<|pk k3<|aT k2<|aD<|gJ h k2) λq1 h=>aM 10 k q1<|aK k4<|ak k k<|pk k3<|aT k2<|aD<|gJ h k2
def fV (a0:Int) (a1:Int) (a2:Int):Option Bool:=
 bif decide (a1≤a0) then
 (some (decide (a0≤a2)))
 else
 (some (false))
theorem jW (a0:Int) (a1:Int) (a2:Int) (r:Bool) (h:fV a0 a1 a2=some r):HasC Tryz.prog 127 [.int a0,.int a1,.int a2] (.bl r):=by
 exact hM [.tmp 6] Tryz.func127 Tryz.ntmps127 k<|sR<|aT k2<|sR<|am k k<|am k k<|cm k4<|am k k<|mG h (λq1 h=>aM 10 k q1<|am k k<|am k k<|cm k4<|pk k3<|aT k2<|aD<|gJ h k2) λq1 h=>aM 10 k q1<|aK k4<|ak k k<|pk k3<|aT k2<|aD<|gJ h k2
def yT (a0:(List Int)) (x1:(Int×Int)):Option ((Int×Int) ⊕ Int):=
 bif decide (x1.2<(a0.length:Int)) then
 ((cJ a0 x1.2).bind λv2=>
 some (.inl (wr (x1.1+v2),wr (x1.2+1))))
 else
 (some (.inr x1.1))
def aAx (a0:(List Int)):Option Int:=
 (Lp (yT a0) (0,0)).bind λy3=>
 some (y3)
theorem aIx (a0:(List Int)) (r:Int) (h:aAx a0=some r):HasC Tryz.prog 86 [.list 1 (a0.map eI)] (.int r):=by
 refine hM [.tmp 2] Tryz.func86 Tryz.ntmps86 k<|sR<|aT k2<|sR<|aT k2<|sQ<|sR<|am k k<|ln k4<|am k k<|an<|tn<|aC<|oB h λy3 hy3 h=>bX (body:=(yT a0)) hy3 (λ(x1:(Int×Int))=>mN [(3,.int x1.1),(6,.list 1 (a0.map eI)),(7,.int (a0.length:Int)),(8,.int x1.2)] [] 0) (λr e t=>e= .exit 0∧Ent t (mN [(3,.int r)] [] 0)) (bT (bJ k2) aS k4) ?_ ?_
 ·intro x1 o h;exact sR<|cm k4<|an<|tn<|sQ<|cV k h (λ_ h=>aG<|tn<|sQ<|aC<|sR<|oB h λv2 hv2 h=>ae (xl hv2 k) k<|lr k7<|aT k2<|rg<|am k k<|am k k<|ae (bB k k) k<|aa k k<|an<|aU<|tn<|rg<|ae (bB k k) k<|am k k<|an<|tn<|sp h ⟨_,k,(bT (bJ k2) aS k4)⟩) λ_ h=>aW<|aA<|aA<|sp h ⟨_,k,k,(bT (bJ k2) aS k4)⟩
 ·rintro e t ⟨rfl,hent⟩;exact aN<|tn<|aL hent<|sR<|am k k<|aT k2<|aD<|qD h k2
def aBm (a0:(List Int)) (a1:(List Int)) (x1:Int):Option (Int ⊕ (Unit ⊕ Bool)):=
 bif decide (x1<(a0.length:Int)) then
 ((cJ a0 x1).bind λv3=>
 (cJ a1 x1).bind λv4=>
 bif !decide (v3=v4) then
 (some (.inr (.inr (false))))
 else
 (some (.inl (wr (x1+1)))))
 else
 (some (.inr (.inl ())))
def qH (a0:(List Int)) (a1:(List Int)):Option Bool:=
 bif !decide ((a0.length:Int)=(a1.length:Int)) then
 (some (false))
 else
 ((Lp (aBm a0 a1) 0).bind λy6=>
 Sum.elim (λy7=>
 some (true)
 )
 (λy8=>
 some y8
 )
 y6)
theorem yG (a0:(List Int)) (a1:(List Int)) (r:Bool) (h:qH a0 a1=some r):HasC Tryz.prog 90 [.list 1 (a0.map eI),.list 1 (a1.map eI)] (.bl r):=by
 refine hM [.tmp 4] Tryz.func90 Tryz.ntmps90 k<|sR<|aT k2<|sQ<|sR<|am k k<|ln k4<|am k k<|ln k4<|cm k4<|an<|tn<|cV k h (λ_ h=>sR<|aT k2<|aD<|aE<|gJ h k2) λ_ h=>?_;refine aG<|tn<|sQ<|sR<|aT k2<|aC<|oB h λy6 hy6 h=>bX (body:=(aBm a0 a1)) hy6 (λ(x1:Int)=>mN [(0,.list 1 (a0.map eI)),(1,.list 1 (a1.map eI)),(5,.int x1)] [] 0) (λr e t=>Sum.elim (λa=>(λr e t=>e= .exit 0∧Ent t (mN [] [] 0)) a e t) (λb=>(λr e t=>e= .ret∧qE TT [.tmp 4] (.bl r) .ret t) b e t) r) (bT (bJ k2) aS k4) ?_ ?_
 ·intro x1 o h;exact sQ<|sR<|am k k<|am k k<|ln k4<|cm k4<|an<|tn<|cV k h (λ_ h=>aG<|tn<|sQ<|aC<|sQ<|aP eG<|am k k<|am k k<|oB h λv3 hv3 h=>ae (xl hv3 k) k<|lr k7<|am k k<|am k k<|oB h λv4 hv4 h=>ae (xl hv4 k) k<|lr k7<|cm k4<|an<|lB (by kernel_rfl)<|tn<|cV k h (λ_ h=>sR<|aT k2<|aD<|bF<|aE<|aE<|sp h ⟨_,k,k,bK k k k (mM k)⟩) λ_ h=>aG<|aU<|tn<|rg<|am k k<|ae (bB k k) k<|aT k2<|sp h ⟨_,k,(bT (bJ k2) aS k4)⟩) λ_ h=>aW<|aA<|aA<|sp h ⟨_,k,k,(bT aS aS k4)⟩
 ·intro e t hX;rcases y6 with y7|y8
  ·obtain ⟨rfl,hent⟩:=hX;exact aN<|tn<|aL hent<|sR<|aT k2<|aD<|gJ h k2
  ·obtain ⟨rfl,hent⟩:=hX;exact bF<|aE<|sp h hent
def tR (a0:(List Int)) (a1:Int) (x1:Int):Option (Int ⊕ (Unit ⊕ Bool)):=
 bif decide (x1<(a0.length:Int)) then
 ((cJ a0 x1).bind λv2=>
 bif decide (v2=a1) then
 (some (.inr (.inr (true))))
 else
 (some (.inl (wr (x1+1)))))
 else
 (some (.inr (.inl ())))
def rY (a0:(List Int)) (a1:Int):Option Bool:=
 (Lp (tR a0 a1) 0).bind λy4=>
 Sum.elim (λy5=>
 some (false)
 )
 (λy6=>
 some y6
 )
 y4
theorem aIy (a0:(List Int)) (a1:Int) (r:Bool) (h:rY a0 a1=some r):HasC Tryz.prog 200 [.list 1 (a0.map eI),.int a1] (.bl r):=by
 refine hM [.tmp 4] Tryz.func200 Tryz.ntmps200 k<|sR<|aT k2<|sQ<|sR<|aT k2<|aC<|oB h λy4 hy4 h=>bX (body:=(tR a0 a1)) hy4 (λ(x1:Int)=>mN [(0,.list 1 (a0.map eI)),(1,.int a1),(5,.int x1)] [] 0) (λr e t=>Sum.elim (λa=>(λr e t=>e= .exit 0∧Ent t (mN [] [] 0)) a e t) (λb=>(λr e t=>e= .ret∧qE TT [.tmp 4] (.bl r) .ret t) b e t) r) (bT (bJ k2) aS k4) ?_ ?_
 ·intro x1 o h;exact sQ<|sR<|am k k<|am k k<|ln k4<|cm k4<|an<|tn<|cV k h (λ_ h=>aG<|tn<|sQ<|aC<|sR<|am k k<|am k k<|oB h λv2 hv2 h=>ae (xl hv2 k) k<|lr k7<|am k k<|cm k4<|an<|tn<|cV k h (λ_ h=>sR<|aT k2<|aD<|bF<|aE<|aE<|sp h ⟨_,k,k,bK k k k (mM k)⟩) λ_ h=>aG<|aU<|tn<|rg<|am k k<|ae (bB k k) k<|aT k2<|sp h ⟨_,k,(bT (bJ k2) aS k4)⟩) λ_ h=>aW<|aA<|aA<|sp h ⟨_,k,k,(bT aS aS k4)⟩
 ·intro e t hX;rcases y4 with y5|y6
  ·obtain ⟨rfl,hent⟩:=hX;exact aN<|tn<|aL hent<|sR<|aT k2<|aD<|gJ h k2
  ·obtain ⟨rfl,hent⟩:=hX;exact bF<|aE<|sp h hent
def nS (a0:(List Int)) (a1:(List Int)) (x1:Int):Option (Int ⊕ (Unit ⊕ Bool)):=
 bif decide (x1<(a0.length:Int)) then
 ((cJ a0 x1).bind λv3=>
 (cJ a1 x1).bind λv4=>
 bif !decide (v3=v4) then
 (some (.inr (.inr (false))))
 else
 (some (.inl (wr (x1+1)))))
 else
 (some (.inr (.inl ())))
def eZ (a0:(List Int)) (a1:(List Int)):Option Bool:=
 bif !decide ((a0.length:Int)=(a1.length:Int)) then
 (some (false))
 else
 ((Lp (nS a0 a1) 0).bind λy6=>
 Sum.elim (λy7=>
 some (true)
 )
 (λy8=>
 some y8
 )
 y6)
theorem hJ (a0:(List Int)) (a1:(List Int)) (r:Bool) (h:eZ a0 a1=some r):HasC Tryz.prog 118 [.list 1 (a0.map eI),.list 1 (a1.map eI)] (.bl r):=by
 refine hM [.tmp 4] Tryz.func118 Tryz.ntmps118 k<|sR<|aT k2<|sQ<|sR<|am k k<|ln k4<|am k k<|ln k4<|cm k4<|an<|tn<|cV k h (λ_ h=>sR<|aT k2<|aD<|aE<|gJ h k2) λ_ h=>?_;refine aG<|tn<|sQ<|sR<|am k k<|ln k4<|am k k<|an<|tn<|aC<|oB h λy6 hy6 h=>bX (body:=(nS a0 a1)) hy6 (λ(x1:Int)=>mN [(0,.list 1 (a0.map eI)),(1,.list 1 (a1.map eI)),(12,.int (a0.length:Int)),(13,.int x1)] [] 0) (λr e t=>Sum.elim (λa=>(λr e t=>e= .exit 0∧Ent t (mN [] [] 0)) a e t) (λb=>(λr e t=>e= .ret∧qE TT [.tmp 4] (.bl r) .ret t) b e t) r) (bT (bJ k2) aS k4) ?_ ?_
 ·intro x1 o h;exact sR<|cm k4<|an<|tn<|sQ<|cV k h (λ_ h=>aG<|tn<|sQ<|aC<|sR<|am k k<|aT k2<|sQ<|aP eG<|am k k<|am k k<|oB h λv3 hv3 h=>ae (xl hv3 k) k<|lr k7<|am k k<|am k k<|oB h λv4 hv4 h=>ae (xl hv4 k) k<|lr k7<|cm k4<|an<|lB (by kernel_rfl)<|tn<|cV k h (λ_ h=>sR<|aT k2<|aD<|bF<|aE<|aE<|sp h ⟨_,k,k,bK k k k (mM k)⟩) λ_ h=>aG<|aU<|tn<|rg<|ae (bB k k) k<|am k k<|an<|tn<|sp h ⟨_,k,(bT (bJ k2) aS k4)⟩) λ_ h=>aW<|aA<|aA<|sp h ⟨_,k,k,(bT aS aS k4)⟩
 ·intro e t hX;rcases y6 with y7|y8
  ·obtain ⟨rfl,hent⟩:=hX;exact aN<|tn<|aL hent<|sR<|aT k2<|aD<|gJ h k2
  ·obtain ⟨rfl,hent⟩:=hX;exact bF<|aE<|sp h hent
def gO (a0:Int):Option Bool:=
 bif decide (a0=2) then
 (some (true))
 else
 (bif decide (a0=3) then
 (some (true))
 else
 (some (decide (a0=5))))
theorem rK (a0:Int) (r:Bool) (h:gO a0=some r):HasC Tryz.prog 161 [.int a0] (.bl r):=by
 exact hM [.tmp 2] Tryz.func161 Tryz.ntmps161 k<|sR<|aT k2<|sR<|am k k<|cm k4<|am k k<|mG h (λq1 h=>aM 5 k q1<|aK k4<|pk k3<|am k k<|aK k4<|pk k3<|aT k2<|aD<|gJ h k2) λq1 h=>aM 5 k q1<|am k k<|cm k4<|pk k3<|am k k<|mG h (λq2 h=>aM 9 k q2<|aK k4<|pk k3<|aT k2<|aD<|gJ h k2) λq2 h=>aM 9 k q2<|am k k<|cm k4<|pk k3<|aT k2<|aD<|gJ h k2
def lH (a0:Int):Option Bool:=
 bif decide (a0=2) then
 (some (true))
 else
 (bif decide (a0=3) then
 (some (true))
 else
 (some (decide (a0=5))))
theorem rL (a0:Int) (r:Bool) (h:lH a0=some r):HasC Tryz.prog 146 [.int a0] (.bl r):=by
 exact hM [.tmp 2] Tryz.func146 Tryz.ntmps146 k<|sR<|aT k2<|sR<|am k k<|cm k4<|am k k<|mG h (λq1 h=>aM 5 k q1<|aK k4<|pk k3<|am k k<|aK k4<|pk k3<|aT k2<|aD<|gJ h k2) λq1 h=>aM 5 k q1<|am k k<|cm k4<|pk k3<|am k k<|mG h (λq2 h=>aM 9 k q2<|aK k4<|pk k3<|aT k2<|aD<|gJ h k2) λq2 h=>aM 9 k q2<|am k k<|cm k4<|pk k3<|aT k2<|aD<|gJ h k2
def rZ (a0:Qv) (x1:Int):Option (Int ⊕ (Unit ⊕ Bool)):=
 bif decide (x1<(a0.src.length:Int)) then
 (bif decide (x1<(a0.tgt.length:Int)) then
 ((cJ a0.src x1).bind λv3=>
 (fV v3 0 (wr (a0.n - 1))).bind λv4=>
 bif !v4 then
 (some (.inr (.inr (false))))
 else
 ((cJ a0.tgt x1).bind λv6=>
 (fV v6 0 (wr (a0.n - 1))).bind λv7=>
 bif !v7 then
 (some (.inr (.inr (false))))
 else
 (some (.inl (wr (x1+1))))))
 else
 (some (.inr (.inl ()))))
 else
 (some (.inr (.inl ())))
def yU (a0:Qv):Option Bool:=
 (Lp (rZ a0) 0).bind λy9=>
 Sum.elim (λy10=>
 (fV a0.n 1 5).bind λv11=>
 bif v11 then
 (bif decide ((a0.src.length:Int)≤6) then
 (some (decide ((a0.tgt.length:Int)=(a0.src.length:Int))))
 else
 (some (false)))
 else
 (some (false))
 )
 (λy14=>
 some y14
 )
 y9
theorem aLC (a0:Qv) (r:Bool) (h:yU a0=some r):HasC Tryz.prog 210 [.agg (eQ a0)] (.bl r):=by
 refine hM [.tmp 2] Tryz.func210 Tryz.ntmps210 k<|sR<|ae (wb k) k<|aT k2<|sQ<|sR<|aT k2<|aC<|oB h λy9 hy9 h=>bX (body:=(rZ a0)) hy9 (λ(x1:Int)=>mN [(1,.ptr 0 0 0),(3,.int x1)] [(0,⟨3,[eQ a0]⟩)] 1) (λr e t=>Sum.elim (λa=>(λr e t=>e= .exit 0∧Ent t (mN [(1,.ptr 0 0 0)] [(0,⟨3,[eQ a0]⟩)] 1)) a e t) (λb=>(λr e t=>e= .ret∧qE TT [.tmp 2] (.bl r) .ret t) b e t) r) (bT (bJ k2) (bA k<|aS) k4) ?_ ?_
 ·intro x1 o h;refine sQ<|sR<|am k k<|fp k8<|lp k8<|ln k4<|cm k4<|am k k<|mG h (λq1 h=>?_) λq1 h=>aM 9 k q1<|aK k4<|aK k4<|ak k k<|pk k3<|an<|tn<|vV k k<|aW<|aA<|aA<|sp h ⟨_,k,k,(bT (bJ k2) (bA k<|aS) k4)⟩;exact aM 9 k q1<|am k k<|fp k8<|lp k8<|ln k4<|cm k4<|pk k3<|an<|tn<|cV k h (λ_ h=>aG<|tn<|sQ<|aC<|sQ<|aP eG<|fp k8<|lp k8<|am k k<|oB h λv3 hv3 h=>ae (xl hv3 k) k<|lr k7<|fp k8<|lp k8<|ae (jL k k) k<|oB h λv4 hv4 h=>ae (aO (jW v3 0 (wr (a0.n - 1)) v4 hv4) k (cC k (cC k (cC k aI)))) k<|ae (dD k) k<|am k k<|mG h (λq5 h=>aM 28 k q5<|aK k4<|aK k4<|aK k4<|aK k4<|aK k4<|pk k3<|an<|lB (by kernel_rfl)<|tn<|aL (t:=mN [(1,.ptr 0 0 0),(3,.int x1),(39,.bl true)] [(0,⟨3,[eQ a0]⟩)] 1) (bT (bJ k2) (bA k<|aS) k4)<|cW k k<|sR<|aT k2<|aD<|bF<|aE<|aE<|sp h ⟨_,k,k,bK k k k (mM k)⟩) λq5 h=>aM 28 k q5<|fp k8<|lp k8<|am k k<|oB h λv6 hv6 h=>ae (xl hv6 k) k<|lr k7<|fp k8<|lp k8<|ae (jL k k) k<|oB h λv7 hv7 h=>ae (aO (jW v6 0 (wr (a0.n - 1)) v7 hv7) k (cC k (cC k (cC k aI)))) k<|ae (dD k) k<|pk k3<|an<|lB (by kernel_rfl)<|tn<|aL (t:=mN [(1,.ptr 0 0 0),(3,.int x1),(39,.bl (!v7))] [(0,⟨3,[eQ a0]⟩)] 1) (bT (bJ k2) (bA k<|aS) k4)<|cV k h (λ_ h=>sR<|aT k2<|aD<|bF<|aE<|aE<|sp h ⟨_,k,k,bK k k k (mM k)⟩) λ_ h=>aG<|aU<|tn<|rg<|am k k<|ae (bB k k) k<|aT k2<|sp h ⟨_,k,(bT (bJ k2) (bA k<|aS) k4)⟩) λ_ h=>aW<|aA<|aA<|sp h ⟨_,k,k,(bT (bJ k2) (bA k<|aS) k4)⟩
 ·intro e t hX;rcases y9 with y10|y14
  ·obtain ⟨rfl,hent⟩:=hX;exact aN<|tn<|aL hent<|sR<|fp k8<|lp k8<|oB h λv11 hv11 h=>ae (aO (jW a0.n 1 5 v11 hv11) k (cC k (cC k (cC k aI)))) k<|am k k<|mG h (λq12 h=>aM 43 k q12<|fp k8<|lp k8<|ln k4<|cm k4<|pk k3<|am k k<|mG h (λq13 h=>aM 49 k q13<|fp k8<|lp k8<|ln k4<|fp k8<|lp k8<|ln k4<|cm k4<|pk k3<|aT k2<|aD<|gJ h k2) λq13 h=>aM 49 k q13<|aK k4<|aK k4<|aK k4<|ak k k<|pk k3<|aT k2<|aD<|gJ h k2) λq12 h=>aM 43 k q12<|aK k4<|aK k4<|pk k3<|am k k<|aK k4<|aK k4<|aK k4<|ak k k<|pk k3<|aT k2<|aD<|gJ h k2
  ·obtain ⟨rfl,hent⟩:=hX;exact bF<|aE<|sp h hent
def iY (a0:Int) (a1:Int):Option Mt:=
 bif (decide (0≤wr (a0*a1))&&decide (wr (a0*a1)≤1048576)) then
 (some ((⟨a0,a1,(List.replicate ((wr (a0*a1)).toNat) (0:Int))⟩:Mt)))
 else none
theorem vX (a0:Int) (a1:Int) (r:Mt) (h:iY a0 a1=some r):HasC Tryz.prog 189 [.int a0,.int a1] (.agg (eM r)):=by
 exact hM [.cell 4 113] Tryz.func189 Tryz.ntmps189 k<|sR<|ae (bP aJ k k) k<|an<|tn<|sR<|am k k<|am k k<|am k k<|am k k<|ae (fC k k) k<|cG h λq1 h=>ae (aAL aJ q1 k k k k k k k k) k<|ae (hO aJ k k k k k k) k<|ae (ws k) k<|an<|tn<|aL (t:=mN [(4,.ptr 0 0 0)] [(0,⟨3,[[.int a0,.int a1,.own 1 0 ((List.replicate ((wr (a0*a1)).toNat) (0:Int)).length)]]⟩),(1,⟨1,List.map (ow eI) (List.replicate ((wr (a0*a1)).toNat) (0:Int))⟩)] 2) (bT (bJ k2) (hX ⟨_,k,k,.inr ⟨_,_,k,⟨_,_,k,k,⟨_,_,k,k,⟨_,_,k,⟨k,k,(by simp only [aQ,lA,lT,lR,lC,lN]),k⟩,k⟩⟩⟩,k⟩⟩ k<|hX ⟨_,k,k,.inl ⟨aAr (e:=eI) (z:=0) _,cX.plainO _⟩⟩ k<|aS) k4)<|aD<|sp h (bK k k k (lG (aY (k) (aY (k) (aY (dE cX k k) fA)))))
def aAM (a0:Int) (x1:((List Int)×Int)):Option (((List Int)×Int) ⊕ (List Int)):=
 bif decide (x1.2<a0) then
 ((cJ x1.1 (wr ((wr (x1.2*a0))+x1.2))).bind λv3=>
 some (.inl ((x1.1.set ((wr ((wr (x1.2*a0))+x1.2)).toNat) 1),wr (x1.2+1))))
 else
 (some (.inr x1.1))
def yV (a0:Int):Option Mt:=
 (iY a0 a0).bind λv1=>
 (Lp (aAM a0) (v1.cells,0)).bind λy4=>
 some ((⟨v1.rows,v1.cols,y4⟩:Mt))
theorem aLD (a0:Int) (r:Mt) (h:yV a0=some r):HasC Tryz.prog 205 [.int a0] (.agg (eM r)):=by
 refine hM [.cell 2 113] Tryz.func205 Tryz.ntmps205 k<|sR<|ae (bP aJ k k) k<|an<|tn<|sR<|am k k<|am k k<|oB h λv1 hv1 h=>ae (cM (vX a0 a0 v1 hv1) k3 (cC k (cC k aI))) k<|ae (bP aJ k k) k<|ae (ws k) k<|an<|tn<|sQ<|sR<|am k k<|am k k<|an<|tn<|aC<|oB h λy4 hy4 h=>bX (body:=(aAM a0)) hy4 (λ(x1:((List Int)×Int))=>mN [(0,.int a0),(2,.ptr 0 0 0),(3,.ptr 1 0 0),(8,.int a0),(9,.int x1.2)] [(0,⟨3,[fB]⟩),(1,⟨3,[[.int v1.rows,.int v1.cols,.own 2 0 x1.1.length]]⟩),(2,⟨1,x1.1.map (ow eI)⟩)] 3) (λr e t=>e= .exit 0∧Ent t (mN [(2,.ptr 0 0 0),(3,.ptr 1 0 0)] [(0,⟨3,[fB]⟩),(1,⟨3,[[.int v1.rows,.int v1.cols,.own 2 0 r.length]]⟩),(2,⟨1,r.map (ow eI)⟩)] 3)) (kC [0,2,1] (bJ k2) (bA k<|cP k<|bG k<|aS) k4) ?_ ?_
 ·intro x1 o h;exact sR<|cm k4<|an<|tn<|sQ<|cV k h (λ_ h=>aG<|tn<|sQ<|aC<|sR<|am k k<|aT k2<|rg<|fp k8<|lp k8<|am k k<|am k k<|ae (fC k k) k<|am k k<|ae (bB k k) k<|oB h λv3 hv3 h=>ae (xo hv3 k) k<|ae (fG aJ jG (u:=1) (dB hv3) k k k k k k) k<|an<|aU<|tn<|rg<|ae (bB k k) k<|am k k<|an<|tn<|sp h ⟨_,k,(bT (bJ k2) (bA k<|hX ⟨_,k,k,.inr ⟨_,_,k,⟨_,_,k,k,⟨_,_,k,k,⟨_,_,k,⟨k,k,(by simp only [aQ,lA,lT,lR,lC,lN]),k⟩,k⟩⟩⟩,k⟩⟩ k<|bG k<|aS) k4)⟩) λ_ h=>aW<|aA<|aA<|sp h ⟨_,k,k,(bT (bJ k2) (bA k<|cP k<|bG k<|aS) k4)⟩
 ·rintro e t ⟨rfl,hent⟩;exact aN<|tn<|aL hent<|sR<|lp k8<|ae (ws k) k<|an<|tn<|aD<|sp h (bK k k k (lG (aY (k) (aY (k) (aY (dE cX k k) fA)))))
def jI (a0:Int) (a1:Int):Option Mt:=
 bif (decide (0≤wr (a0*a1))&&decide (wr (a0*a1)≤1048576)) then
 (some ((⟨a0,a1,(List.replicate ((wr (a0*a1)).toNat) (0:Int))⟩:Mt)))
 else none
theorem yH (a0:Int) (a1:Int) (r:Mt) (h:jI a0 a1=some r):HasC Tryz.prog 201 [.int a0,.int a1] (.agg (eM r)):=by
 exact hM [.cell 4 113] Tryz.func201 Tryz.ntmps201 k<|sR<|ae (bP aJ k k) k<|an<|tn<|sR<|am k k<|am k k<|am k k<|am k k<|ae (fC k k) k<|cG h λq1 h=>ae (aAL aJ q1 k k k k k k k k) k<|ae (hO aJ k k k k k k) k<|ae (ws k) k<|an<|tn<|aL (t:=mN [(4,.ptr 0 0 0)] [(0,⟨3,[[.int a0,.int a1,.own 1 0 ((List.replicate ((wr (a0*a1)).toNat) (0:Int)).length)]]⟩),(1,⟨1,List.map (ow eI) (List.replicate ((wr (a0*a1)).toNat) (0:Int))⟩)] 2) (bT (bJ k2) (hX ⟨_,k,k,.inr ⟨_,_,k,⟨_,_,k,k,⟨_,_,k,k,⟨_,_,k,⟨k,k,(by simp only [aQ,lA,lT,lR,lC,lN]),k⟩,k⟩⟩⟩,k⟩⟩ k<|hX ⟨_,k,k,.inl ⟨aAr (e:=eI) (z:=0) _,cX.plainO _⟩⟩ k<|aS) k4)<|aD<|sp h (bK k k k (lG (aY (k) (aY (k) (aY (dE cX k k) fA)))))
def dK (a0:Mt) (a1:Int):Option Unit:=
 bif (decide (0≤wr (a1*a0.cols))&&(decide (wr (a1*a0.cols)≤wr ((wr (a1+1))*a0.cols))&&decide (wr ((wr (a1+1))*a0.cols)≤((a0.cells.length:Nat):Int)))) then
 (some ())
 else none
theorem fJ (a0:Mt) (a1:Int) (r:Unit) (h:dK a0 a1=some r):HasE Tryz.prog 190 [.agg [.int a0.rows,.int a0.cols,.own 0 0 a0.cells.length],.int a1] [(0,⟨1,a0.cells.map (ow eI)⟩)] 1 (.own 0 (0+(wr (a1*a0.cols)).toNat) ((wr ((wr (a1+1))*a0.cols)).toNat - (wr (a1*a0.cols)).toNat)) [(0,⟨1,a0.cells.map (ow eI)⟩)]:=by
 exact aCD aJ (rvs:=[.tmp 4]) (ns:=nmA.drop 1) Tryz.func190 k k Tryz.ntmps190 k k<|sR<|ae (wb k) k<|aT k2<|sR<|fp k8<|lp k8<|am k k<|fp k8<|lp k8<|ae (fC k k) k<|am k k<|ae (bB k k) k<|fp k8<|lp k8<|ae (fC k k) k<|cG h λq1 h=>ae (aEG aJ (l:=wr (a1*a0.cols)) (h:=wr ((wr (a1+1))*a0.cols)) q1 k k k k k k k k) k<|aT k2<|aD<|sp h ⟨mN [(4,.own 0 (0+(wr (a1*a0.cols)).toNat) ((wr ((wr (a1+1))*a0.cols)).toNat - (wr (a1*a0.cols)).toNat))] [(0,⟨1,a0.cells.map (ow eI)⟩)] 1 1,(bT (bJ k2) (bG k<|aS) k4),k,⟨_,k,.inl k⟩,⟨k,aS⟩⟩
def kG (a0:Int) (a2:Int) (a3:(List Int)) (n1:Nat) (s1:Nat) (x1:((List Int)×Int)):Option (((List Int)×Int) ⊕ (List Int)):=
 bif decide (x1.2<(a3.length:Int)) then
 ((cJ a3 x1.2).bind λv2=>
 bif (decide (0≤x1.2)&&decide (x1.2<((n1:Nat):Int))) then
 ((x1.1[(s1+x1.2.toNat)]?).bind λv3=>
 bif !decide (a0=0) then
 (bif (decide (0≤x1.2)&&decide (x1.2<((n1:Nat):Int))) then
 ((x1.1[(s1+x1.2.toNat)]?).bind λv5=>
 some (.inl ((x1.1.set (s1+x1.2.toNat) ((wr (v3+(wr (a2*v2)))).tmod a0)),wr (x1.2+1)))
 )
 else none)
 else none
 )
 else none)
 else
 (some (.inr x1.1))
def eO (a0:Int) (c0:(List Int)) (s1:Nat) (n1:Nat) (a2:Int) (a3:(List Int)):Option (List Int):=
 (Lp (kG a0 a2 a3 n1 s1) (c0,0)).bind λy8=>
 some y8
theorem sA (a0:Int) (c0:(List Int)) (s1:Nat) (n1:Nat) (a2:Int) (a3:(List Int)) (r:(List Int)) (h:eO a0 c0 s1 n1 a2 a3=some r):HasE Tryz.prog 207 [.int a0,.own 0 s1 n1,.int a2,.list 1 (a3.map eI)] [(0,⟨1,c0.map (ow eI)⟩)] 1 (.own 0 s1 n1) [(0,⟨1,r.map (ow eI)⟩)]:=by
 refine aCD aJ (rvs:=[.tmp 8]) (ns:=nmA.drop 1) Tryz.func207 k k Tryz.ntmps207 k k<|sR<|aT k2<|sQ<|sR<|am k k<|ln k4<|am k k<|an<|tn<|aC<|oB h λy8 hy8 h=>bX (body:=(kG a0 a2 a3 n1 s1)) hy8 (λ(x1:((List Int)×Int))=>mN [(0,.int a0),(1,.own 0 s1 n1),(2,.int a2),(11,.list 1 (a3.map eI)),(12,.int (a3.length:Int)),(13,.int x1.2)] [(0,⟨1,x1.1.map (ow eI)⟩)] 1 1) (λr e t=>e= .exit 0∧Ent t (mN [(1,.own 0 s1 n1)] [(0,⟨1,r.map (ow eI)⟩)] 1 1)) (bT (bJ k2) (bG k<|aS) k4) ?_ ?_
 ·intro x1 o h;refine sR<|cm k4<|an<|tn<|sQ<|cV k h (λ_ h=>?_) λ_ h=>aW<|aA<|aA<|sp h ⟨_,k,k,(bT (bJ k2) (bG k<|aS) k4)⟩;refine aG<|tn<|sQ<|aC<|sR<|am k k<|oB h λv2 hv2 h=>ae (xl hv2 k) k<|lr k7<|aa k k<|aT k2<|rg<|am k k<|am k k<|am k k<|am k k<|cG h λq4 h=>oB h λv3 hv3 h=>ae (iX aJ q4 k k k k k k k) k<|ae (eK aJ k k k k (aAJ (hv3)) k k) k<|am k k<|am k k<|ae (fC k k) k<|ae (bB k k) k<|am k k<|cG h λq7 h=>ae (aGI k k q7) k<|cG h λq6 h=>oB h λv5 hv5 h=>ae (iX aJ q6 k k k k k k k) k<|ae (fG aJ jG (u:=(wr (v3+(wr (a2*v2)))).tmod a0) (hv5) k k k k k k) k<|an ?_;exact aU<|tn<|rg<|ae (bB k k) k<|am k k<|an<|tn<|sp h ⟨_,k,(bT (bJ k2) (bG k<|aS) k4)⟩
 ·rintro e t ⟨rfl,hent⟩;exact aN<|tn<|aL hent<|sR<|am k k<|aT k2<|aD<|sp h ⟨mN [(8,.own 0 s1 n1)] [(0,⟨1,y8.map (ow eI)⟩)] 1 1,(bT (bJ k2) (bG k<|aS) k4),k,⟨_,k,.inl k⟩,⟨k,aS⟩⟩
def jN (a0:Int) (a2:Int) (n1:Nat) (n3:Nat) (s1:Nat) (s3:Nat) (x1:((List Int)×Int)):Option (((List Int)×Int) ⊕ (List Int)):=
 bif decide (x1.2<((n3:Nat):Int)) then
 (bif (decide (0≤x1.2)&&decide (x1.2<((n3:Nat):Int))) then
 ((x1.1[(s3+x1.2.toNat)]?).bind λv2=>
 bif (decide (0≤x1.2)&&decide (x1.2<((n1:Nat):Int))) then
 ((x1.1[(s1+x1.2.toNat)]?).bind λv4=>
 bif !decide (a0=0) then
 (bif (decide (0≤x1.2)&&decide (x1.2<((n1:Nat):Int))) then
 ((x1.1[(s1+x1.2.toNat)]?).bind λv6=>
 some (.inl ((x1.1.set (s1+x1.2.toNat) ((wr (v4+(wr (a2*v2)))).tmod a0)),wr (x1.2+1)))
 )
 else none)
 else none
 )
 else none
 )
 else none)
 else
 (some (.inr x1.1))
def lU (a0:Int) (c0:(List Int)) (s1:Nat) (n1:Nat) (a2:Int) (s3:Nat) (n3:Nat):Option (List Int):=
 (Lp (jN a0 a2 n1 n3 s1 s3) (c0,0)).bind λy9=>
 some y9
theorem aEp (a0:Int) (c0:(List Int)) (s1:Nat) (n1:Nat) (a2:Int) (s3:Nat) (n3:Nat) (r:(List Int)) (h:lU a0 c0 s1 n1 a2 s3 n3=some r):HasE Tryz.prog 207 [.int a0,.own 0 s1 n1,.int a2,.own 0 s3 n3] [(0,⟨1,c0.map (ow eI)⟩)] 1 (.own 0 s1 n1) [(0,⟨1,r.map (ow eI)⟩)]:=by
 refine aCD aJ (rvs:=[.tmp 8]) (ns:=nmA.drop 1) Tryz.func207 k k Tryz.ntmps207 k k<|sR<|aT k2<|sQ<|sR<|am k k<|ae (cF aJ k k k k) k<|am k k<|an<|tn<|aC<|oB h λy9 hy9 h=>bX (body:=(jN a0 a2 n1 n3 s1 s3)) hy9 (λ(x1:((List Int)×Int))=>mN [(0,.int a0),(1,.own 0 s1 n1),(2,.int a2),(11,.own 0 s3 n3),(12,.int ((n3:Nat):Int)),(13,.int x1.2)] [(0,⟨1,x1.1.map (ow eI)⟩)] 1 1) (λr e t=>e= .exit 0∧Ent t (mN [(1,.own 0 s1 n1)] [(0,⟨1,r.map (ow eI)⟩)] 1 1)) (bT (bJ k2) (bG k<|aS) k4) ?_ ?_
 ·intro x1 o h;refine sR<|cm k4<|an<|tn<|sQ<|cV k h (λ_ h=>?_) λ_ h=>aW<|aA<|aA<|sp h ⟨_,k,k,(bT (bJ k2) (bG k<|aS) k4)⟩;refine aG<|tn<|sQ<|aC<|sR<|am k k<|cG h λq3 h=>oB h λv2 hv2 h=>ae (iX aJ q3 k k k k k k k) k<|ae (eK aJ k k k k (aAJ (hv2)) k k) k<|aa k k<|aT k2<|rg<|am k k<|am k k<|am k k<|am k k<|cG h λq5 h=>oB h λv4 hv4 h=>ae (iX aJ q5 k k k k k k k) k<|ae (eK aJ k k k k (aAJ (hv4)) k k) k<|am k k<|am k k<|ae (fC k k) k<|ae (bB k k) k<|am k k<|cG h λq8 h=>ae (aGI k k q8) k<|cG h λq7 h=>oB h λv6 hv6 h=>ae (iX aJ q7 k k k k k k k) k<|ae (fG aJ jG (u:=(wr (v4+(wr (a2*v2)))).tmod a0) (hv6) k k k k k k) k<|an ?_;exact aU<|tn<|rg<|ae (bB k k) k<|am k k<|an<|tn<|sp h ⟨_,k,(bT (bJ k2) (bG k<|aS) k4)⟩
 ·rintro e t ⟨rfl,hent⟩;exact aN<|tn<|aL hent<|sR<|am k k<|aT k2<|aD<|sp h ⟨mN [(8,.own 0 s1 n1)] [(0,⟨1,y9.map (ow eI)⟩)] 1 1,(bT (bJ k2) (bG k<|aS) k4),k,⟨_,k,.inl k⟩,⟨k,aS⟩⟩
def iH (a0:Int) (a1:Int):Option Int:=
 bif !decide (a0=0) then
 (bif decide (a1.tmod a0<0) then
 (some (wr ((a1.tmod a0)+a0)))
 else
 (some (a1.tmod a0)))
 else none
theorem kW (a0:Int) (a1:Int) (r:Int) (h:iH a0 a1=some r):HasC Tryz.prog 202 [.int a0,.int a1] (.int r):=by
 exact hM [.tmp 4] Tryz.func202 Tryz.ntmps202 k<|sR<|aT k2<|sR<|am k k<|am k k<|cG h λq2 h=>ae (aGI k k q2) k<|aT k2<|sQ<|sR<|am k k<|cm k4<|an<|tn<|cV k h (λ_ h=>rg<|am k k<|am k k<|ae (bB k k) k<|aT k2<|sR<|am k k<|aT k2<|aD<|qD h k2) λ_ h=>aG<|tn<|sR<|am k k<|aT k2<|aD<|qD h k2
def pL (a1:Mt) (a2:Mt) (x1:((List Int)×Int)) (x2:((List Int)×Int)) (x3:(Int×Int)):Option ((Int×Int) ⊕ Int):=
 bif decide (x3.2<a1.cols) then
 ((cJ a1.cells (wr ((wr (x1.2*a1.cols))+x3.2))).bind λv5=>
 (cJ a2.cells (wr ((wr (x3.2*a2.cols))+x2.2))).bind λv6=>
 some (.inl (wr (x3.1+(wr (v5*v6))),wr (x3.2+1))))
 else
 (some (.inr x3.1))
def pM (a0:Int) (a1:Mt) (a2:Mt) (x1:((List Int)×Int)) (x2:((List Int)×Int)):Option (((List Int)×Int) ⊕ (List Int)):=
 bif decide (x2.2<a2.cols) then
 ((Lp (pL a1 a2 x1 x2) (0,0)).bind λy7=>
 (iH a0 y7).bind λv8=>
 (cJ x2.1 (wr ((wr (x1.2*a2.cols))+x2.2))).bind λv9=>
 some (.inl ((x2.1.set ((wr ((wr (x1.2*a2.cols))+x2.2)).toNat) v8),wr (x2.2+1))))
 else
 (some (.inr x2.1))
def pN (a0:Int) (a1:Mt) (a2:Mt) (x1:((List Int)×Int)):Option (((List Int)×Int) ⊕ (List Int)):=
 bif decide (x1.2<a1.rows) then
 ((Lp (pM a0 a1 a2 x1) (x1.1,0)).bind λy10=>
 some (.inl (y10,wr (x1.2+1))))
 else
 (some (.inr x1.1))
def gX (a0:Int) (a1:Mt) (a2:Mt):Option Mt:=
 (jI a1.rows a2.cols).bind λv1=>
 (Lp (pN a0 a1 a2) (v1.cells,0)).bind λy11=>
 some ((⟨v1.rows,v1.cols,y11⟩:Mt))
theorem lW (a0:Int) (a1:Mt) (a2:Mt) (r:Mt) (h:gX a0 a1 a2=some r):HasC Tryz.prog 145 [.int a0,.agg (eM a1),.agg (eM a2)] (.agg (eM r)):=by
 refine hM [.cell 6 113] Tryz.func145 Tryz.ntmps145 k<|sR<|ae (wb k) k<|ae (wb k) k<|ae (bP aJ k k) k<|an<|tn<|sR<|fp k8<|lp k8<|fp k8<|lp k8<|oB h λv1 hv1 h=>ae (cM (yH a1.rows a2.cols v1 hv1) k3 (cC k (cC k aI))) k<|ae (bP aJ k k) k<|ae (ws k) k<|an<|tn<|sQ<|sR<|aT k2<|aC<|oB h λy11 hy11 h=>bX (body:=(pN a0 a1 a2)) hy11 (λ(x1:((List Int)×Int))=>mN [(0,.int a0),(4,.ptr 0 0 0),(5,.ptr 1 0 0),(6,.ptr 2 0 0),(7,.ptr 3 0 0),(8,.int x1.2)] [(0,⟨3,[eM a1]⟩),(1,⟨3,[eM a2]⟩),(2,⟨3,[fB]⟩),(3,⟨3,[[.int v1.rows,.int v1.cols,.own 4 0 x1.1.length]]⟩),(4,⟨1,x1.1.map (ow eI)⟩)] 5) (λr e t=>e= .exit 0∧Ent t (mN [(6,.ptr 0 0 0),(7,.ptr 1 0 0)] [(0,⟨3,[fB]⟩),(1,⟨3,[[.int v1.rows,.int v1.cols,.own 2 0 r.length]]⟩),(2,⟨1,r.map (ow eI)⟩)] 3)) (kC [0,1,2,4,3] (bJ k2) (bA k<|bA k<|bA k<|cP k<|bG k<|aS) k4) ?_ ?_
 ·intro x1 o h;refine sQ<|sR<|am k k<|fp k8<|lp k8<|cm k4<|an<|tn<|cV k h (λ_ h=>?_) λ_ h=>aW<|aA<|aA<|sp h ⟨_,k,k,(kC [2,3,4] (bJ k2) (bA k<|cP k<|bG k<|aS) k4)⟩;refine aG<|tn<|sQ<|aC<|sR<|aT k2<|aC<|oB h λy10 hy10 h=>bX (body:=(pM a0 a1 a2 x1)) hy10 (λ(x2:((List Int)×Int))=>mN [(0,.int a0),(4,.ptr 0 0 0),(5,.ptr 1 0 0),(6,.ptr 2 0 0),(7,.ptr 3 0 0),(8,.int x1.2),(9,.int x2.2)] [(0,⟨3,[eM a1]⟩),(1,⟨3,[eM a2]⟩),(2,⟨3,[fB]⟩),(3,⟨3,[[.int v1.rows,.int v1.cols,.own 4 0 x2.1.length]]⟩),(4,⟨1,x2.1.map (ow eI)⟩)] 5) (λr e t=>e= .exit 2∧Ent t (mN [(0,.int a0),(4,.ptr 0 0 0),(5,.ptr 1 0 0),(6,.ptr 2 0 0),(7,.ptr 3 0 0),(8,.int x1.2)] [(0,⟨3,[eM a1]⟩),(1,⟨3,[eM a2]⟩),(2,⟨3,[fB]⟩),(3,⟨3,[[.int v1.rows,.int v1.cols,.own 4 0 r.length]]⟩),(4,⟨1,r.map (ow eI)⟩)] 5)) (bT (bJ k2) (bA k<|bA k<|bA k<|cP k<|bG k<|aS) k4) ?_ ?_
  ·intro x2 o h;refine sQ<|sR<|am k k<|fp k8<|lp k8<|cm k4<|an<|tn<|cV k h (λ_ h=>?_) λ_ h=>aW<|aA<|aA<|sp h ⟨_,k,k,(bT (bJ k2) (bA k<|bA k<|bA k<|cP k<|bG k<|aS) k4)⟩;refine aG<|tn<|sQ<|aC<|sR<|aT k2<|sQ<|sR<|aT k2<|aC<|oB h λy7 hy7 h=>bX (body:=(pL a1 a2 x1 x2)) hy7 (λ(x3:(Int×Int))=>mN [(0,.int a0),(4,.ptr 0 0 0),(5,.ptr 1 0 0),(6,.ptr 2 0 0),(7,.ptr 3 0 0),(8,.int x1.2),(9,.int x2.2),(10,.int x3.1),(11,.int x3.2)] [(0,⟨3,[eM a1]⟩),(1,⟨3,[eM a2]⟩),(2,⟨3,[fB]⟩),(3,⟨3,[[.int v1.rows,.int v1.cols,.own 4 0 x2.1.length]]⟩),(4,⟨1,x2.1.map (ow eI)⟩)] 5) (λr e t=>e= .exit 4∧Ent t (mN [(0,.int a0),(4,.ptr 0 0 0),(5,.ptr 1 0 0),(6,.ptr 2 0 0),(7,.ptr 3 0 0),(8,.int x1.2),(9,.int x2.2),(10,.int r)] [(0,⟨3,[eM a1]⟩),(1,⟨3,[eM a2]⟩),(2,⟨3,[fB]⟩),(3,⟨3,[[.int v1.rows,.int v1.cols,.own 4 0 x2.1.length]]⟩),(4,⟨1,x2.1.map (ow eI)⟩)] 5)) (bT (bJ k2) (bA k<|bA k<|bA k<|cP k<|bG k<|aS) k4) ?_ ?_
   ·intro x3 o h;refine sQ<|sR<|am k k<|fp k8<|lp k8<|cm k4<|an<|tn<|cV k h (λ_ h=>?_) λ_ h=>aW<|aA<|aA<|sp h ⟨_,k,k,(bT (bJ k2) (bA k<|bA k<|bA k<|cP k<|bG k<|aS) k4)⟩;refine aG<|tn<|sQ<|aC<|aP eG<|am k k<|fp k8<|lp k8<|am k k<|fp k8<|lp k8<|ae (fC k k) k<|am k k<|ae (bB k k) k<|oB h λv5 hv5 h=>ae (xl hv5 k) k<|lr k7<|fp k8<|lp k8<|am k k<|fp k8<|lp k8<|ae (fC k k) k<|am k k<|ae (bB k k) k<|oB h λv6 hv6 h=>ae (xl hv6 k) k<|lr k7<|ae (fC k k) k<|ae (bB k k) k<|aa k k ?_;exact an<|lB (by kernel_rfl)<|aU<|tn<|aL (t:=mN [(0,.int a0),(4,.ptr 0 0 0),(5,.ptr 1 0 0),(6,.ptr 2 0 0),(7,.ptr 3 0 0),(8,.int x1.2),(9,.int x2.2),(10,.int (wr (x3.1+(wr (v5*v6))))),(11,.int x3.2)] [(0,⟨3,[eM a1]⟩),(1,⟨3,[eM a2]⟩),(2,⟨3,[fB]⟩),(3,⟨3,[[.int v1.rows,.int v1.cols,.own 4 0 x2.1.length]]⟩),(4,⟨1,x2.1.map (ow eI)⟩)] 5) (bT (bJ k2) (bA k<|bA k<|bA k<|cP k<|bG k<|aS) k4)<|rg<|am k k<|ae (bB k k) k<|aT k2<|sp h ⟨_,k,(bT (bJ k2) (bA k<|bA k<|bA k<|cP k<|bG k<|aS) k4)⟩
   ·rintro e t ⟨rfl,hent⟩;exact aN<|tn<|aL hent<|aP eG<|fp k8<|lp k8<|am k k<|fp k8<|lp k8<|ae (fC k k) k<|am k k<|ae (bB k k) k<|am k k<|am k k<|oB h λv8 hv8 h=>ae (aO (kW a0 y7 v8 hv8) k (cC k (cC k aI))) k<|oB h λv9 hv9 h=>ae (xo hv9 k) k<|ae (fG aJ jG (u:=v8) (dB hv9) k k k k k k) k<|an<|lB (by kernel_rfl)<|aU<|tn<|rg<|am k k<|ae (bB k k) k<|aT k2<|sp h ⟨_,k,(bT (bJ k2) (bA k<|bA k<|bA k<|hX ⟨_,k,k,.inr ⟨_,_,k,⟨_,_,k,k,⟨_,_,k,k,⟨_,_,k,⟨k,k,(by simp only [aQ,lA,lT,lR,lC,lN]),k⟩,k⟩⟩⟩,k⟩⟩ k<|bG k<|aS) k4)⟩
  ·rintro e t ⟨rfl,hent⟩;exact aN<|aU<|tn<|aL hent<|rg<|am k k<|ae (bB k k) k<|aT k2<|sp h ⟨_,k,(bT (bJ k2) (bA k<|bA k<|bA k<|cP k<|bG k<|aS) k4)⟩
 ·rintro e t ⟨rfl,hent⟩;exact aN<|tn<|aL hent<|sR<|lp k8<|ae (ws k) k<|an<|tn<|aD<|sp h (bK k k k (lG (aY (k) (aY (k) (aY (dE cX k k) fA)))))
def lI (a0:Int) (a1:Int) (x1:Int):Option (Int ⊕ (Unit ⊕ Int)):=
 bif decide (x1<a0) then
 ((gO a0).bind λv2=>
 bif v2 then
 ((iH a0 a1).bind λv4=>
 (iH a0 (wr (v4*x1))).bind λv5=>
 bif decide (v5=1) then
 (some (.inr (.inr (x1))))
 else
 (some (.inl (wr (x1+1)))))
 else
 (some (.inr (.inl ()))))
 else
 (some (.inr (.inl ())))
def lX (a0:Int) (a1:Int):Option Int:=
 (Lp (lI a0 a1) 1).bind λy7=>
 Sum.elim (λy8=>
 some (0)
 )
 (λy9=>
 some y9
 )
 y7
theorem aIz (a0:Int) (a1:Int) (r:Int) (h:lX a0 a1=some r):HasC Tryz.prog 244 [.int a0,.int a1] (.int r):=by
 refine hM [.tmp 4] Tryz.func244 Tryz.ntmps244 k<|sR<|aT k2<|sQ<|sR<|aT k2<|aC<|oB h λy7 hy7 h=>bX (body:=(lI a0 a1)) hy7 (λ(x1:Int)=>mN [(0,.int a0),(1,.int a1),(5,.int x1)] [] 0) (λr e t=>Sum.elim (λa=>(λr e t=>e= .exit 0∧Ent t (mN [] [] 0)) a e t) (λb=>(λr e t=>e= .ret∧qE TT [.tmp 4] (.int r) .ret t) b e t) r) (bT (bJ k2) aS k4) ?_ ?_
 ·intro x1 o h;exact sQ<|sR<|am k k<|am k k<|cm k4<|am k k<|mG h (λq1 h=>aM 9 k q1<|am k k<|oB h λv2 hv2 h=>ae (aO (rK a0 v2 hv2) k (cC k aI)) k<|pk k3<|an<|tn<|cV k h (λ_ h=>aG<|tn<|sQ<|aC<|sR<|am k k<|am k k<|am k k<|oB h λv4 hv4 h=>ae (aO (kW a0 a1 v4 hv4) k (cC k (cC k aI))) k<|am k k<|ae (fC k k) k<|oB h λv5 hv5 h=>ae (aO (kW a0 (wr (v4*x1)) v5 hv5) k (cC k (cC k aI))) k<|cm k4<|an<|tn<|cV k h (λ_ h=>sR<|am k k<|aT k2<|aD<|bF<|aE<|aE<|sp h ⟨_,k,k,bK k k k (aAI k)⟩) λ_ h=>aG<|aU<|tn<|rg<|am k k<|ae (bB k k) k<|aT k2<|sp h ⟨_,k,(bT (bJ k2) aS k4)⟩) λ_ h=>aW<|aA<|aA<|sp h ⟨_,k,k,(bT aS aS k4)⟩) λq1 h=>aM 9 k q1<|aK k4<|pk k3<|an<|tn<|vV k k<|aW<|aA<|aA<|sp h ⟨_,k,k,(bT aS aS k4)⟩
 ·intro e t hX;rcases y7 with y8|y9
  ·obtain ⟨rfl,hent⟩:=hX;exact aN<|tn<|aL hent<|sR<|aT k2<|aD<|qD h k2
  ·obtain ⟨rfl,hent⟩:=hX;exact bF<|aE<|sp h hent
def nT (a0:Int) (a1:(List Int)) (x1:Int):Option (Int ⊕ (Unit ⊕ Bool)):=
 bif decide (x1<(a1.length:Int)) then
 ((cJ a1 x1).bind λv5=>
 (fV v5 0 (wr (a0 - 1))).bind λv6=>
 bif !v6 then
 (some (.inr (.inr (false))))
 else
 (some (.inl (wr (x1+1)))))
 else
 (some (.inr (.inl ())))
def jX (a0:Int) (a1:(List Int)):Option Bool:=
 (gO a0).bind λv1=>
 bif !v1 then
 (some (false))
 else
 (bif decide (64<(a1.length:Int)) then
 (some (false))
 else
 ((Lp (nT a0 a1) 0).bind λy8=>
 Sum.elim (λy9=>
 some (true)
 )
 (λy10=>
 some y10
 )
 y8))
theorem aCj (a0:Int) (a1:(List Int)) (r:Bool) (h:jX a0 a1=some r):HasC Tryz.prog 211 [.int a0,.list 1 (a1.map eI)] (.bl r):=by
 refine hM [.tmp 4] Tryz.func211 Tryz.ntmps211 k<|sR<|aT k2<|sQ<|sR<|am k k<|oB h λv1 hv1 h=>ae (aO (rK a0 v1 hv1) k (cC k aI)) k<|ae (dD k) k<|am k k<|mG h (λq2 h=>aM 9 k q2<|aK k4<|ak k k<|pk k3<|an<|tn<|cW k k<|sR<|aT k2<|aD<|aE<|gJ h k2) λq2 h=>?_;refine aM 9 k q2<|am k k<|ln k4<|cm k4<|pk k3<|an<|tn<|cV k h (λ_ h=>sR<|aT k2<|aD<|aE<|gJ h k2) λ_ h=>?_;refine aG<|tn<|sQ<|sR<|aT k2<|aC<|oB h λy8 hy8 h=>bX (body:=(nT a0 a1)) hy8 (λ(x1:Int)=>mN [(0,.int a0),(1,.list 1 (a1.map eI)),(5,.int x1)] [] 0) (λr e t=>Sum.elim (λa=>(λr e t=>e= .exit 0∧Ent t (mN [] [] 0)) a e t) (λb=>(λr e t=>e= .ret∧qE TT [.tmp 4] (.bl r) .ret t) b e t) r) (bT (bJ k2) aS k4) ?_ ?_
 ·intro x1 o h;exact sQ<|sR<|am k k<|am k k<|ln k4<|cm k4<|an<|tn<|cV k h (λ_ h=>aG<|tn<|sQ<|aC<|sR<|am k k<|am k k<|oB h λv5 hv5 h=>ae (xl hv5 k) k<|lr k7<|am k k<|ae (jL k k) k<|oB h λv6 hv6 h=>ae (aO (jW v5 0 (wr (a0 - 1)) v6 hv6) k (cC k (cC k (cC k aI)))) k<|ae (dD k) k<|an<|tn<|cV k h (λ_ h=>sR<|aT k2<|aD<|bF<|aE<|aE<|sp h ⟨_,k,k,bK k k k (mM k)⟩) λ_ h=>aG<|aU<|tn<|rg<|am k k<|ae (bB k k) k<|aT k2<|sp h ⟨_,k,(bT (bJ k2) aS k4)⟩) λ_ h=>aW<|aA<|aA<|sp h ⟨_,k,k,(bT aS aS k4)⟩
 ·intro e t hX;rcases y8 with y9|y10
  ·obtain ⟨rfl,hent⟩:=hX;exact aN<|tn<|aL hent<|sR<|aT k2<|aD<|gJ h k2
  ·obtain ⟨rfl,hent⟩:=hX;exact bF<|aE<|sp h hent
def jY (a0:Int) (a1:Mt):Option Bool:=
 (fV a1.rows 0 8).bind λv1=>
 bif v1 then
 ((fV a1.cols 0 8).bind λv3=>
 bif v3 then
 (bif decide ((a1.cells.length:Int)=wr (a1.rows*a1.cols)) then
 ((jX a0 a1.cells).bind λv6=>
 some (v6))
 else
 (some (false)))
 else
 (some (false)))
 else
 (some (false))
theorem tS (a0:Int) (a1:Mt) (r:Bool) (h:jY a0 a1=some r):HasC Tryz.prog 163 [.int a0,.agg (eM a1)] (.bl r):=by
 exact hM [.tmp 4] Tryz.func163 Tryz.ntmps163 k<|sR<|ae (wb k) k<|aT k2<|sR<|fp k8<|lp k8<|oB h λv1 hv1 h=>ae (aO (jW a1.rows 0 8 v1 hv1) k (cC k (cC k (cC k aI)))) k<|am k k<|mG h (λq2 h=>aM 8 k q2<|fp k8<|lp k8<|oB h λv3 hv3 h=>ae (aO (jW a1.cols 0 8 v3 hv3) k (cC k (cC k (cC k aI)))) k<|pk k3<|am k k<|mG h (λq4 h=>aM 13 k q4<|fp k8<|lp k8<|ln k4<|fp k8<|lp k8<|fp k8<|lp k8<|ae (fC k k) k<|cm k4<|pk k3<|am k k<|mG h (λq5 h=>aM 24 k q5<|am k k<|fp k8<|lp k8<|oB h λv6 hv6 h=>ae (aO (aCj a0 a1.cells v6 hv6) k (cC k (cC k aI))) k<|pk k3<|aT k2<|aD<|gJ h k2) λq5 h=>aM 24 k q5<|aK k4<|aK k4<|pk k3<|aT k2<|aD<|gJ h k2) λq4 h=>aM 13 k q4<|aK k4<|aK k4<|aK k4<|aK k4<|ak k k<|pk k3<|am k k<|aK k4<|aK k4<|pk k3<|aT k2<|aD<|gJ h k2) λq2 h=>aM 8 k q2<|aK k4<|ak k k<|pk k3<|am k k<|aK k4<|aK k4<|aK k4<|aK k4<|ak k k<|pk k3<|am k k<|aK k4<|aK k4<|pk k3<|aT k2<|aD<|gJ h k2
def aCF (a0:Mt):Option Mt:=
 bif decide (([]:(List Int)).length +a0.cells.length≤4294967296) then
 (some ((⟨a0.rows,a0.cols,(([]:(List Int))++a0.cells)⟩:Mt)))
 else none
theorem aNv (a0:Mt) (r:Mt) (h:aCF a0=some r):HasC Tryz.prog 114 [.agg (eM a0)] (.agg (eM r)):=by
 exact hM [.cell 2 113] Tryz.func114 Tryz.ntmps114 k<|sR<|ae (wb k) k<|ae (bP aJ k k) k<|an<|tn<|sQ<|aP eG<|fp k8<|lp k8<|fp k8<|lp k8<|ae (wl k) k<|fp k8<|lp k8<|cG h λq1 h=>ae (mP aJ (l:=([]:(List Int))) (m:=a0.cells) jG q1 k k k k k k k k k k k k) k<|ae (hO aJ k k k k k k) k<|ae (ws k) k<|an<|lB (by kernel_rfl)<|tn<|aD<|sp h (bK k k k (lG (aY (k) (aY (k) (aY (dE cX k k) fA)))))
end
noncomputable section
set_option maxRecDepth 10000
set_option maxHeartbeats 4000000
def kJ (v1:Mt) (x1:(Int×(List Int)×(List Int)×Int)) (x2:(Int×Int)):Option ((Int×Int) ⊕ Int):=
 bif decide (x1.2.2.2≤x2.2) then
 ((cJ x1.2.1 (wr ((wr (x2.2*v1.cols))+x1.1))).bind λv5=>
 bif !decide (v5=0) then
 (some (.inl (x2.2,wr (x2.2 - 1))))
 else
 (some (.inl (x2.1,wr (x2.2 - 1)))))
 else
 (some (.inr x2.1))
def nU (v1:Mt) (x1:(Int×(List Int)×(List Int)×Int)) (y7:Int) (x3:((List Int)×Int)):Option (((List Int)×Int) ⊕ (List Int)):=
 bif decide (x3.2<v1.cols) then
 ((cJ x3.1 (wr ((wr (x1.2.2.2*v1.cols))+x3.2))).bind λv10=>
 (cJ x3.1 (wr ((wr (y7*v1.cols))+x3.2))).bind λv11=>
 (cJ x3.1 (wr ((wr (x1.2.2.2*v1.cols))+x3.2))).bind λv12=>
 (cJ (x3.1.set ((wr ((wr (x1.2.2.2*v1.cols))+x3.2)).toNat) v11) (wr ((wr (y7*v1.cols))+x3.2))).bind λv13=>
 some (.inl (((x3.1.set ((wr ((wr (x1.2.2.2*v1.cols))+x3.2)).toNat) v11).set ((wr ((wr (y7*v1.cols))+x3.2)).toNat) v10),wr (x3.2+1))))
 else
 (some (.inr x3.1))
def nW (a0:Int) (v1:Mt) (v16:Int) (x1:(Int×(List Int)×(List Int)×Int)) (x4:((List Int)×Int)):Option (((List Int)×Int) ⊕ (List Int)):=
 bif decide (x4.2<v1.cols) then
 ((cJ x4.1 (wr ((wr (x1.2.2.2*v1.cols))+x4.2))).bind λv18=>
 (iH a0 (wr (v16*v18))).bind λv19=>
 (cJ x4.1 (wr ((wr (x1.2.2.2*v1.cols))+x4.2))).bind λv20=>
 some (.inl ((x4.1.set ((wr ((wr (x1.2.2.2*v1.cols))+x4.2)).toNat) v19),wr (x4.2+1))))
 else
 (some (.inr x4.1))
def kK (a0:Int) (v1:Mt) (v23:Int) (x1:(Int×(List Int)×(List Int)×Int)) (x5:((List Int)×Int)) (x6:((List Int)×Int)):Option (((List Int)×Int) ⊕ (List Int)):=
 bif decide (x6.2<v1.cols) then
 (bif !decide (x5.2=x1.2.2.2) then
 ((cJ x6.1 (wr ((wr (x5.2*v1.cols))+x6.2))).bind λv26=>
 (cJ x6.1 (wr ((wr (x1.2.2.2*v1.cols))+x6.2))).bind λv27=>
 (iH a0 (wr (v26 - (wr (v23*v27))))).bind λv28=>
 (cJ x6.1 (wr ((wr (x5.2*v1.cols))+x6.2))).bind λv29=>
 some (.inl ((x6.1.set ((wr ((wr (x5.2*v1.cols))+x6.2)).toNat) v28),wr (x6.2+1))))
 else
 (some (.inr x6.1)))
 else
 (some (.inr x6.1))
def kL (a0:Int) (v1:Mt) (x1:(Int×(List Int)×(List Int)×Int)) (x5:((List Int)×Int)):Option (((List Int)×Int) ⊕ (List Int)):=
 bif decide (x5.2<v1.rows) then
 ((cJ x5.1 (wr ((wr (x5.2*v1.cols))+x1.1))).bind λv23=>
 (Lp (kK a0 v1 v23 x1 x5) (x5.1,0)).bind λy30=>
 some (.inl (y30,wr (x5.2+1))))
 else
 (some (.inr x5.1))
def gE (a0:Int) (v1:Mt) (x1:(Int×(List Int)×(List Int)×Int)):Option ((Int×(List Int)×(List Int)×Int) ⊕ ((List Int)×(List Int))):=
 bif decide (x1.1<v1.cols) then
 (bif decide (x1.2.2.2<v1.rows) then
 ((Lp (kJ v1 x1) ((-1),wr (v1.rows - 1))).bind λy7=>
 bif decide (y7<0) then
 (some (.inl (wr (x1.1+1),x1.2.1,x1.2.2.1,x1.2.2.2)))
 else
 ((Lp (nU v1 x1 y7) (x1.2.1,0)).bind λy14=>
 (cJ y14 (wr ((wr (x1.2.2.2*v1.cols))+x1.1))).bind λv15=>
 (lX a0 v15).bind λv16=>
 (Lp (nW a0 v1 v16 x1) (y14,0)).bind λy21=>
 (Lp (kL a0 v1 x1) (y21,0)).bind λy31=>
 bif decide (x1.2.2.1.length+[x1.1].length ≤4294967296) then
 (some (.inl (wr (x1.1+1),y31,(x1.2.2.1++[x1.1]),wr (x1.2.2.2+1))))
 else none))
 else
 (some (.inr (x1.2.1,x1.2.2.1))))
 else
 (some (.inr (x1.2.1,x1.2.2.1)))
def jZ (a0:Int) (a1:Mt):Option (Mt×(List Int)):=
 (aCF a1).bind λv1=>
 (Lp (gE a0 v1) (0,v1.cells,([]:(List Int)),0)).bind λy33=>
 some (((⟨v1.rows,v1.cols,y33.1⟩:Mt),y33.2))
theorem aCk (a0:Int) (a1:Mt) (r:(Mt×(List Int))) (h:jZ a0 a1=some r):HasC Tryz.prog 226 [.int a0,.agg (eM a1)] (.tuple [.agg (eM r.1),.list 1 (r.2.map eI)]):=by
 refine hM [.cell 4 113,.tmp 5] Tryz.func226 Tryz.ntmps226 k<|sR<|ae (wb k) k<|ae (bP aJ k k) k<|aT k2<|sR<|lp k8<|oB h λv1 hv1 h=>ae (cM (aNv a1 v1 hv1) k3 (aH (dI k) aI)) k<|ae (bP aJ k k) k<|ae (ws k) k<|an<|tn<|sR<|ae (wl k) k<|aT k2<|aL (t:=mN [(0,.int a0),(4,.ptr 1 0 0),(6,.ptr 3 0 0),(7,.own 4 0 (([]:(List Int)).length))] [(1,⟨3,[fB]⟩),(2,⟨1,v1.cells.map (ow eI)⟩),(3,⟨3,[oMt v1 2]⟩),(4,⟨1,List.map (ow eI) ([]:(List Int))⟩)] 5) (bT (iU 3 k2 (gK ⟨_,k,⟨k,k,(by simp only [aQ,lA,lT,lR,lC,lN]),k⟩⟩ aS)) (bA k<|bG k<|cP k<|bG k<|aS) k4)<|sR<|aT k2<|sQ<|sQ ?_;refine rg<|aT k2<|aC<|oB h λy33 hy33 h=>bX (body:=(gE a0 v1)) hy33 (λ(x1:(Int×(List Int)×(List Int)×Int))=>mN [(0,.int a0),(4,.ptr 0 0 0),(6,.ptr 1 0 0),(7,.own 3 0 x1.2.2.1.length),(8,.int x1.2.2.2),(9,.int x1.1)] [(0,⟨3,[fB]⟩),(1,⟨3,[[.int v1.rows,.int v1.cols,.own 2 0 x1.2.1.length]]⟩),(2,⟨1,x1.2.1.map (ow eI)⟩),(3,⟨1,x1.2.2.1.map (ow eI)⟩)] 4) (λr e t=>e= .exit 0∧Ent t (mN [(4,.ptr 0 0 0),(6,.ptr 1 0 0),(7,.own 3 0 r.2.length)] [(0,⟨3,[fB]⟩),(1,⟨3,[[.int v1.rows,.int v1.cols,.own 2 0 r.1.length]]⟩),(2,⟨1,r.1.map (ow eI)⟩),(3,⟨1,r.2.map (ow eI)⟩)] 4)) (kC [1,3,2,4] (bJ k2) (bA k<|cP k<|bG k<|bG k<|aS) k4) ?_ ?_
 ·intro x1 o h;refine sQ<|sR<|am k k<|fp k8<|lp k8<|cm k4<|am k k<|mG h (λq2 h=>?_) λq2 h=>aM 26 k q2<|aK k4<|aK k4<|pk k3<|an<|tn<|vV k k<|aW<|aA<|aA<|sp h ⟨_,k,k,(bT (bJ k2) (bA k<|cP k<|bG k<|bG k<|aS) k4)⟩;refine aM 26 k q2<|am k k<|fp k8<|lp k8<|cm k4<|pk k3<|an<|tn<|cV k h (λ_ h=>?_) λ_ h=>aW<|aA<|aA<|sp h ⟨_,k,k,(bT (bJ k2) (bA k<|cP k<|bG k<|bG k<|aS) k4)⟩;refine aG<|tn<|sQ<|aC<|sR<|aT k2<|sQ<|sR<|fp k8<|lp k8<|ae (jL k k) k<|aT k2<|aC<|oB h λy7 hy7 h=>bX (body:=(kJ v1 x1)) hy7 (λ(x2:(Int×Int))=>mN [(0,.int a0),(4,.ptr 0 0 0),(6,.ptr 1 0 0),(7,.own 3 0 x1.2.2.1.length),(8,.int x1.2.2.2),(9,.int x1.1),(10,.int x2.1),(11,.int x2.2)] [(0,⟨3,[fB]⟩),(1,⟨3,[[.int v1.rows,.int v1.cols,.own 2 0 x1.2.1.length]]⟩),(2,⟨1,x1.2.1.map (ow eI)⟩),(3,⟨1,x1.2.2.1.map (ow eI)⟩)] 4) (λr e t=>e= .exit 2∧Ent t (mN [(0,.int a0),(4,.ptr 0 0 0),(6,.ptr 1 0 0),(7,.own 3 0 x1.2.2.1.length),(8,.int x1.2.2.2),(9,.int x1.1),(10,.int r)] [(0,⟨3,[fB]⟩),(1,⟨3,[[.int v1.rows,.int v1.cols,.own 2 0 x1.2.1.length]]⟩),(2,⟨1,x1.2.1.map (ow eI)⟩),(3,⟨1,x1.2.2.1.map (ow eI)⟩)] 4)) (bT (bJ k2) (bA k<|cP k<|bG k<|bG k<|aS) k4) ?_ ?_
  ·intro x2 o h;exact sQ<|sR<|am k k<|am k k<|cm k4<|an<|tn<|cV k h (λ_ h=>aG<|tn<|sQ<|aC<|sR<|fp k8<|lp k8<|am k k<|fp k8<|lp k8<|ae (fC k k) k<|am k k<|ae (bB k k) k<|oB h λv5 hv5 h=>ae (xo hv5 k) k<|ae (wp hv5 k) k<|cm k4<|an<|tn<|cV k h (λ_ h=>rg<|am k k<|aa k k<|an<|aU<|tn<|rg<|am k k<|ae (jL k k) k<|aT k2<|sp h ⟨_,k,(bT (bJ k2) (bA k<|cP k<|bG k<|bG k<|aS) k4)⟩) λ_ h=>aG<|aU<|tn<|rg<|am k k<|ae (jL k k) k<|aT k2<|sp h ⟨_,k,(bT (bJ k2) (bA k<|cP k<|bG k<|bG k<|aS) k4)⟩) λ_ h=>aW<|aA<|aA<|sp h ⟨_,k,k,(bT (bJ k2) (bA k<|cP k<|bG k<|bG k<|aS) k4)⟩
  ·rintro e t ⟨rfl,hent⟩;refine aN<|tn<|aL hent<|sQ<|sR<|am k k<|cm k4<|an<|tn<|cV k h (λ_ h=>aW<|aA<|aN<|tn<|rg<|am k k<|ae (bB k k) k<|aT k2<|sp h ⟨_,k,(bT (bJ k2) (bA k<|cP k<|bG k<|bG k<|aS) k4)⟩) λ_ h=>?_;refine aG<|tn<|sQ<|sR<|aT k2<|aC<|oB h λy14 hy14 h=>bX (body:=(nU v1 x1 y7)) hy14 (λ(x3:((List Int)×Int))=>mN [(0,.int a0),(4,.ptr 0 0 0),(6,.ptr 1 0 0),(7,.own 3 0 x1.2.2.1.length),(8,.int x1.2.2.2),(9,.int x1.1),(10,.int y7),(12,.int x3.2)] [(0,⟨3,[fB]⟩),(1,⟨3,[[.int v1.rows,.int v1.cols,.own 2 0 x3.1.length]]⟩),(2,⟨1,x3.1.map (ow eI)⟩),(3,⟨1,x1.2.2.1.map (ow eI)⟩)] 4) (λr e t=>e= .exit 4∧Ent t (mN [(0,.int a0),(4,.ptr 0 0 0),(6,.ptr 1 0 0),(7,.own 3 0 x1.2.2.1.length),(8,.int x1.2.2.2),(9,.int x1.1)] [(0,⟨3,[fB]⟩),(1,⟨3,[[.int v1.rows,.int v1.cols,.own 2 0 r.length]]⟩),(2,⟨1,r.map (ow eI)⟩),(3,⟨1,x1.2.2.1.map (ow eI)⟩)] 4)) (bT (bJ k2) (bA k<|cP k<|bG k<|bG k<|aS) k4) ?_ ?_
   ·intro x3 o h;refine sQ<|sR<|am k k<|fp k8<|lp k8<|cm k4<|an<|tn<|cV k h (λ_ h=>?_) λ_ h=>aW<|aA<|aA<|sp h ⟨_,k,k,(bT (bJ k2) (bA k<|cP k<|bG k<|bG k<|aS) k4)⟩;refine aG<|tn<|sQ<|aC<|sR<|fp k8<|lp k8<|am k k<|fp k8<|lp k8<|ae (fC k k) k<|am k k<|ae (bB k k) k<|oB h λv10 hv10 h=>ae (xo hv10 k) k<|ae (wp hv10 k) k<|aT k2<|sQ<|aP eG<|fp k8<|lp k8<|am k k<|fp k8<|lp k8<|ae (fC k k) k<|am k k<|ae (bB k k) k ?_;refine fp k8<|lp k8<|am k k<|fp k8<|lp k8<|ae (fC k k) k<|am k k<|ae (bB k k) k<|oB h λv11 hv11 h=>ae (xo hv11 k) k<|ae (wp hv11 k) k<|oB h λv12 hv12 h=>ae (xo hv12 k) k<|ae (fG aJ jG (u:=v11) (dB hv12) k k k k k k) k<|an<|lB (by kernel_rfl)<|tn<|aL (t:=mN [(0,.int a0),(4,.ptr 0 0 0),(6,.ptr 1 0 0),(7,.own 3 0 x1.2.2.1.length),(8,.int x1.2.2.2),(9,.int x1.1),(10,.int y7),(12,.int x3.2),(13,.int v10)] [(0,⟨3,[fB]⟩),(1,⟨3,[[.int v1.rows,.int v1.cols,.own 2 0 ((x3.1.set ((wr ((wr (x1.2.2.2*v1.cols))+x3.2)).toNat) v11).length)]]⟩),(2,⟨1,List.map (ow eI) (x3.1.set ((wr ((wr (x1.2.2.2*v1.cols))+x3.2)).toNat) v11)⟩),(3,⟨1,x1.2.2.1.map (ow eI)⟩)] 4) (bT (bJ k2) (bA k<|hX ⟨_,k,k,.inr ⟨_,_,k,⟨_,_,k,k,⟨_,_,k,k,⟨_,_,k,⟨k,k,(by simp only [aQ,lA,lT,lR,lC,lN]),k⟩,k⟩⟩⟩,k⟩⟩ k<|bG k<|bG k<|aS) k4)<|rg<|fp k8<|lp k8<|am k k<|fp k8<|lp k8<|ae (fC k k) k<|am k k<|ae (bB k k) k<|am k k<|oB h λv13 hv13 h=>ae (xo hv13 k) k<|ae (fG aJ jG (u:=v10) (dB hv13) k k k k k k) k<|an<|aU ?_;exact tn<|rg<|am k k<|ae (bB k k) k<|aT k2<|sp h ⟨_,k,(bT (bJ k2) (bA k<|hX ⟨_,k,k,.inr ⟨_,_,k,⟨_,_,k,k,⟨_,_,k,k,⟨_,_,k,⟨k,k,(by simp only [aQ,lA,lT,lR,lC,lN]),k⟩,k⟩⟩⟩,k⟩⟩ k<|bG k<|bG k<|aS) k4)⟩
   ·rintro e t ⟨rfl,hent⟩;refine aN<|tn<|aL hent<|sR<|am k k<|fp k8<|lp k8<|am k k<|fp k8<|lp k8<|ae (fC k k) k<|am k k<|ae (bB k k) k<|oB h λv15 hv15 h=>ae (xo hv15 k) k<|ae (wp hv15 k) k<|oB h λv16 hv16 h=>ae (aO (aIz a0 v15 v16 hv16) k (cC k (cC k aI))) k<|aT k2<|sQ<|sR<|aT k2<|aC<|oB h λy21 hy21 h=>bX (body:=(nW a0 v1 v16 x1)) hy21 (λ(x4:((List Int)×Int))=>mN [(0,.int a0),(4,.ptr 0 0 0),(6,.ptr 1 0 0),(7,.own 3 0 x1.2.2.1.length),(8,.int x1.2.2.2),(9,.int x1.1),(14,.int v16),(15,.int x4.2)] [(0,⟨3,[fB]⟩),(1,⟨3,[[.int v1.rows,.int v1.cols,.own 2 0 x4.1.length]]⟩),(2,⟨1,x4.1.map (ow eI)⟩),(3,⟨1,x1.2.2.1.map (ow eI)⟩)] 4) (λr e t=>e= .exit 6∧Ent t (mN [(0,.int a0),(4,.ptr 0 0 0),(6,.ptr 1 0 0),(7,.own 3 0 x1.2.2.1.length),(8,.int x1.2.2.2),(9,.int x1.1)] [(0,⟨3,[fB]⟩),(1,⟨3,[[.int v1.rows,.int v1.cols,.own 2 0 r.length]]⟩),(2,⟨1,r.map (ow eI)⟩),(3,⟨1,x1.2.2.1.map (ow eI)⟩)] 4)) (bT (bJ k2) (bA k<|cP k<|bG k<|bG k<|aS) k4) ?_ ?_
    ·intro x4 o h;refine sQ<|sR<|am k k<|fp k8<|lp k8<|cm k4<|an<|tn<|cV k h (λ_ h=>?_) λ_ h=>aW<|aA<|aA<|sp h ⟨_,k,k,(bT (bJ k2) (bA k<|cP k<|bG k<|bG k<|aS) k4)⟩;refine aG<|tn<|sQ<|aC<|aP eG<|fp k8<|lp k8<|am k k<|fp k8<|lp k8<|ae (fC k k) k<|am k k<|ae (bB k k) k<|am k k<|am k k<|fp k8<|lp k8<|am k k<|fp k8<|lp k8<|ae (fC k k) k<|am k k<|ae (bB k k) k<|oB h λv18 hv18 h=>ae (xo hv18 k) k<|ae (wp hv18 k) k<|ae (fC k k) k<|oB h λv19 hv19 h=>ae (aO (kW a0 (wr (v16*v18)) v19 hv19) k (cC k (cC k aI))) k<|oB h λv20 hv20 h=>ae (xo hv20 k) k<|ae (fG aJ jG (u:=v19) (dB hv20) k k k k k k) k ?_;exact an<|lB (by kernel_rfl)<|aU<|tn<|aL (t:=mN [(0,.int a0),(4,.ptr 0 0 0),(6,.ptr 1 0 0),(7,.own 3 0 x1.2.2.1.length),(8,.int x1.2.2.2),(9,.int x1.1),(14,.int v16),(15,.int x4.2)] [(0,⟨3,[fB]⟩),(1,⟨3,[[.int v1.rows,.int v1.cols,.own 2 0 ((x4.1.set ((wr ((wr (x1.2.2.2*v1.cols))+x4.2)).toNat) v19).length)]]⟩),(2,⟨1,List.map (ow eI) (x4.1.set ((wr ((wr (x1.2.2.2*v1.cols))+x4.2)).toNat) v19)⟩),(3,⟨1,x1.2.2.1.map (ow eI)⟩)] 4) (bT (bJ k2) (bA k<|hX ⟨_,k,k,.inr ⟨_,_,k,⟨_,_,k,k,⟨_,_,k,k,⟨_,_,k,⟨k,k,(by simp only [aQ,lA,lT,lR,lC,lN]),k⟩,k⟩⟩⟩,k⟩⟩ k<|bG k<|bG k<|aS) k4)<|rg<|am k k<|ae (bB k k) k<|aT k2<|sp h ⟨_,k,(bT (bJ k2) (bA k<|cP k<|bG k<|bG k<|aS) k4)⟩
    ·rintro e t ⟨rfl,hent⟩;refine aN<|tn<|aL hent<|sQ<|sR<|aT k2<|aC<|oB h λy31 hy31 h=>bX (body:=(kL a0 v1 x1)) hy31 (λ(x5:((List Int)×Int))=>mN [(0,.int a0),(4,.ptr 0 0 0),(6,.ptr 1 0 0),(7,.own 3 0 x1.2.2.1.length),(8,.int x1.2.2.2),(9,.int x1.1),(16,.int x5.2)] [(0,⟨3,[fB]⟩),(1,⟨3,[[.int v1.rows,.int v1.cols,.own 2 0 x5.1.length]]⟩),(2,⟨1,x5.1.map (ow eI)⟩),(3,⟨1,x1.2.2.1.map (ow eI)⟩)] 4) (λr e t=>e= .exit 8∧Ent t (mN [(0,.int a0),(4,.ptr 0 0 0),(6,.ptr 1 0 0),(7,.own 3 0 x1.2.2.1.length),(8,.int x1.2.2.2),(9,.int x1.1)] [(0,⟨3,[fB]⟩),(1,⟨3,[[.int v1.rows,.int v1.cols,.own 2 0 r.length]]⟩),(2,⟨1,r.map (ow eI)⟩),(3,⟨1,x1.2.2.1.map (ow eI)⟩)] 4)) (bT (bJ k2) (bA k<|cP k<|bG k<|bG k<|aS) k4) ?_ ?_
     ·intro x5 o h;refine sQ<|sR<|am k k<|fp k8<|lp k8<|cm k4<|an<|tn<|cV k h (λ_ h=>?_) λ_ h=>aW<|aA<|aA<|sp h ⟨_,k,k,(bT (bJ k2) (bA k<|cP k<|bG k<|bG k<|aS) k4)⟩;refine aG<|tn<|sQ<|aC<|sR<|fp k8<|lp k8<|am k k<|fp k8<|lp k8<|ae (fC k k) k<|am k k<|ae (bB k k) k<|oB h λv23 hv23 h=>ae (xo hv23 k) k<|ae (wp hv23 k) k<|aT k2<|sR<|aT k2<|aC<|oB h λy30 hy30 h=>bX (body:=(kK a0 v1 v23 x1 x5)) hy30 (λ(x6:((List Int)×Int))=>mN [(0,.int a0),(4,.ptr 0 0 0),(6,.ptr 1 0 0),(7,.own 3 0 x1.2.2.1.length),(8,.int x1.2.2.2),(9,.int x1.1),(16,.int x5.2),(17,.int v23),(18,.int x6.2)] [(0,⟨3,[fB]⟩),(1,⟨3,[[.int v1.rows,.int v1.cols,.own 2 0 x6.1.length]]⟩),(2,⟨1,x6.1.map (ow eI)⟩),(3,⟨1,x1.2.2.1.map (ow eI)⟩)] 4) (λr e t=>e= .exit 10∧Ent t (mN [(0,.int a0),(4,.ptr 0 0 0),(6,.ptr 1 0 0),(7,.own 3 0 x1.2.2.1.length),(8,.int x1.2.2.2),(9,.int x1.1),(16,.int x5.2)] [(0,⟨3,[fB]⟩),(1,⟨3,[[.int v1.rows,.int v1.cols,.own 2 0 r.length]]⟩),(2,⟨1,r.map (ow eI)⟩),(3,⟨1,x1.2.2.1.map (ow eI)⟩)] 4)) (bT (bJ k2) (bA k<|cP k<|bG k<|bG k<|aS) k4) ?_ ?_
      ·intro x6 o h;refine sQ<|sR<|am k k<|fp k8<|lp k8<|cm k4<|am k k<|mG h (λq24 h=>?_) λq24 h=>aM 162 k q24<|aK k4<|ak k k<|pk k3<|an<|tn<|vV k k<|aW<|aA<|aA<|sp h ⟨_,k,k,(bT (bJ k2) (bA k<|cP k<|bG k<|bG k<|aS) k4)⟩;refine aM 162 k q24<|am k k<|am k k<|cm k4<|pk k3<|an<|tn<|cV k h (λ_ h=>?_) λ_ h=>aW<|aA<|aA<|sp h ⟨_,k,k,(bT (bJ k2) (bA k<|cP k<|bG k<|bG k<|aS) k4)⟩;refine aG<|tn<|sQ<|aC<|aP eG<|fp k8<|lp k8<|am k k<|fp k8<|lp k8<|ae (fC k k) k<|am k k<|ae (bB k k) k<|am k k<|fp k8<|lp k8<|am k k<|fp k8<|lp k8<|ae (fC k k) k<|am k k<|ae (bB k k) k<|oB h λv26 hv26 h=>ae (xo hv26 k) k<|ae (wp hv26 k) k<|am k k<|fp k8<|lp k8<|am k k<|fp k8 ?_;exact lp k8<|ae (fC k k) k<|am k k<|ae (bB k k) k<|oB h λv27 hv27 h=>ae (xo hv27 k) k<|ae (wp hv27 k) k<|ae (fC k k) k<|ae (jL k k) k<|oB h λv28 hv28 h=>ae (aO (kW a0 (wr (v26 - (wr (v23*v27)))) v28 hv28) k (cC k (cC k aI))) k<|oB h λv29 hv29 h=>ae (xo hv29 k) k<|ae (fG aJ jG (u:=v28) (dB hv29) k k k k k k) k<|an<|lB (by kernel_rfl)<|aU<|tn<|aL (t:=mN [(0,.int a0),(4,.ptr 0 0 0),(6,.ptr 1 0 0),(7,.own 3 0 x1.2.2.1.length),(8,.int x1.2.2.2),(9,.int x1.1),(16,.int x5.2),(17,.int v23),(18,.int x6.2)] [(0,⟨3,[fB]⟩),(1,⟨3,[[.int v1.rows,.int v1.cols,.own 2 0 ((x6.1.set ((wr ((wr (x5.2*v1.cols))+x6.2)).toNat) v28).length)]]⟩),(2,⟨1,List.map (ow eI) (x6.1.set ((wr ((wr (x5.2*v1.cols))+x6.2)).toNat) v28)⟩),(3,⟨1,x1.2.2.1.map (ow eI)⟩)] 4) (bT (bJ k2) (bA k<|hX ⟨_,k,k,.inr ⟨_,_,k,⟨_,_,k,k,⟨_,_,k,k,⟨_,_,k,⟨k,k,(by simp only [aQ,lA,lT,lR,lC,lN]),k⟩,k⟩⟩⟩,k⟩⟩ k<|bG k<|bG k<|aS) k4)<|rg<|am k k<|ae (bB k k) k<|aT k2<|sp h ⟨_,k,(bT (bJ k2) (bA k<|cP k<|bG k<|bG k<|aS) k4)⟩
      ·rintro e t ⟨rfl,hent⟩;exact aN<|aU<|tn<|aL hent<|rg<|am k k<|ae (bB k k) k<|aT k2<|sp h ⟨_,k,(bT (bJ k2) (bA k<|cP k<|bG k<|bG k<|aS) k4)⟩
     ·rintro e t ⟨rfl,hent⟩;exact aN<|tn<|aL hent<|sR<|am k k<|am k k<|ae (wl k) k<|cG h λq32 h=>ae (mP aJ (l:=x1.2.2.1) (m:=[x1.1]) jG q32 k k k k k k k k k k k k) k<|aT k2<|rg<|am k k<|ae (bB k k) k<|aa k k<|an<|aU<|tn<|rg<|am k k<|ae (bB k k) k<|aT k2<|sp h ⟨_,k,(kC [0,1,2,5] (bJ k2) (bA k<|cP k<|bG k<|bG k<|aS) k4)⟩
 ·rintro e t ⟨rfl,hent⟩;exact aN<|tn<|aL hent<|sR<|lp k8<|am k k<|ae (ws k) k<|aT k2<|aD<|sp h (bK k k k (dG k (bY (rI (aY (k) (aY (k) (aY (dE cX k k) fA)))) (bY (jM (dE cX k k)) gN))))
def aBn (a0:Int) (a1:Mt):Option (Mt×(List Int)×Bool):=
 (jY a0 a1).bind λv1=>
 bif !v1 then
 (some (((⟨0,0,[]⟩:Mt),([]:(List Int)),false)))
 else
 ((jZ a0 a1).bind λv3=>
 some ((v3.1,v3.2,true)))
theorem aKB (a0:Int) (a1:Mt) (r:(Mt×(List Int)×Bool)) (h:aBn a0 a1=some r):HasC Tryz.prog 272 [.int a0,.agg (eM a1)] (.tuple [.agg (eM r.1),.list 1 (r.2.1.map eI),.bl r.2.2]):=by
 exact hM [.cell 4 113,.tmp 5,.tmp 6] Tryz.func272 Tryz.ntmps272 k<|sR<|ae (wb k) k<|ae (bP aJ k k) k<|aa k k<|aT k2<|sQ<|sR<|am k k<|lp k8<|oB h λv1 hv1 h=>ae (aO (tS a0 a1 v1 hv1) k (cC k (aH (dI k) aI))) k<|ae (dD k) k<|an<|tn<|cV k h (λ_ h=>sR<|ae (hO aJ k k k k k k) k<|ae (wl k) k<|ae (ws k) k<|aa k k<|aT k2<|aL (t:=mN [(4,.ptr 1 0 0),(5,.own 2 0 (([]:(List Int)).length)),(6,.bl false)] [(1,⟨3,[fB]⟩),(2,⟨1,List.map (ow eI) ([]:(List Int))⟩)] 3) (bT (iU 1 k2 (gK ⟨_,k,⟨k,k,(by simp only [aQ,lA,lT,lR,lC,lN]),k⟩⟩ (bJ k2))) (bA k<|bG k<|aS) k4)<|aD<|aE<|sp h (bK k k k (dG k (bY (rI (aY (k) (aY (k) (aY (k) fA)))) (bY (jM (dE cX k k)) (bY (k) gN)))))) λ_ h=>aG<|tn<|sR<|am k k<|lp k8<|oB h λv3 hv3 h=>ae (AEff.conv (jK (x:= .tuple [.agg [.int v3.1.rows,.int v3.1.cols,.own 2 0 (v3.1.cells.map eI).length],.own 3 0 (v3.2.map eI).length]) (nb:=[(2,⟨1,cY (v3.1.cells.map eI)⟩),(3,⟨1,cY (v3.2.map eI)⟩)]) (aCk a0 a1 v3 hv3) k (by rfl) k k (dV (cB aS (cB aS (cB (cX.good _) qF))) (dV (cX.good _) uL)) (cC k (aH (dI k) aI))) (v':= .tuple [.agg [.int v3.1.rows,.int v3.1.cols,.own 2 0 v3.1.cells.length],.own 3 0 v3.2.length]) (ed':=[(2,some ⟨1,v3.1.cells.map (ow eI)⟩),(3,some ⟨1,v3.2.map (ow eI)⟩)]) (by simp only [aQ]) (uW (nb':=[(2,⟨1,v3.1.cells.map (ow eI)⟩),(3,⟨1,v3.2.map (ow eI)⟩)]) (by simp only [gU]))) k<|am k k<|ae (bW k k (by intro _ h;cases h)) k<|ae (bW k k (by intro _ h;cases h)) k<|ae (bP aJ k k) k<|ae (ws k) k<|aT k2<|sR<|lp k8<|am k k<|ae (ws k) k<|aa k k<|aT k2<|aD<|sp h (bK k k k (dG k (bY (rI (aY (k) (aY (k) (aY (dE cX k k) fA)))) (bY (jM (dE cX k k)) (bY (k) gN)))))
def aCG (a0:Int) (a1:Mt):Option Int:=
 (aBn a0 a1).bind λv1=>
 bif !v1.2.2 then
 (some ((-1)))
 else
 (some (((v1.2.1.length:Nat):Int)))
theorem aNw (a0:Int) (a1:Mt) (r:Int) (h:aCG a0 a1=some r):HasC Tryz.prog 264 [.int a0,.agg (eM a1)] (.int r):=by
 exact hM [.tmp 4] Tryz.func264 Tryz.ntmps264 k<|sR<|ae (wb k) k<|aT k2<|sR<|am k k<|lp k8<|oB h λv1 hv1 h=>ae (AEff.conv (jK (x:= .tuple [.agg [.int v1.1.rows,.int v1.1.cols,.own 1 0 (v1.1.cells.map eI).length],.own 2 0 (v1.2.1.map eI).length,.bl v1.2.2]) (nb:=[(1,⟨1,cY (v1.1.cells.map eI)⟩),(2,⟨1,cY (v1.2.1.map eI)⟩)]) (aKB a0 a1 v1 hv1) k (by rfl) k k (dV (cB aS (cB aS (cB (cX.good _) qF))) (dV (cX.good _) (dV aS uL))) (cC k (aH (dI k) aI))) (v':= .tuple [.agg [.int v1.1.rows,.int v1.1.cols,.own 1 0 v1.1.cells.length],.own 2 0 v1.2.1.length,.bl v1.2.2]) (ed':=[(1,some ⟨1,v1.1.cells.map (ow eI)⟩),(2,some ⟨1,v1.2.1.map (ow eI)⟩)]) (by simp only [aQ]) (uW (nb':=[(1,⟨1,v1.1.cells.map (ow eI)⟩),(2,⟨1,v1.2.1.map (ow eI)⟩)]) (by simp only [gU]))) k<|am k k<|ae (bW k k (by intro _ h;cases h)) k<|ae (bW k k (by intro _ h;cases h)) k<|ae (bW k k (by intro _ h;cases h)) k<|ae (bP aJ k k) k<|ae (ws k) k<|aa k k<|aT k2<|sQ<|sR<|am k k<|ae (dD k) k<|an<|tn<|cV k h (λ_ h=>sR<|aT k2<|aD<|aE<|qD h k2) λ_ h=>aG<|tn<|sR<|am k k<|ae (cF aJ k k k k) k<|aT k2<|aD<|qD h k2
def wQ (a0:Int) (a1:Int):Option Int:=
 (lH a0).bind λv1=>
 bif !v1 then
 (some (0))
 else
 (bif !decide (a0=0) then
 (bif !decide (a0=0) then
 (some ((wr ((a1.tmod a0)+a0)).tmod a0))
 else none)
 else none)
theorem aKC (a0:Int) (a1:Int) (r:Int) (h:wQ a0 a1=some r):HasC Tryz.prog 273 [.int a0,.int a1] (.int r):=by
 exact hM [.tmp 4] Tryz.func273 Tryz.ntmps273 k<|sR<|aT k2<|sQ<|sR<|am k k<|oB h λv1 hv1 h=>ae (aO (rL a0 v1 hv1) k (cC k aI)) k<|ae (dD k) k<|an<|tn<|cV k h (λ_ h=>sR<|aT k2<|aD<|aE<|qD h k2) λ_ h=>aG<|tn<|sR<|am k k<|am k k<|cG h λq4 h=>ae (aGI k k q4) k<|am k k<|ae (bB k k) k<|am k k<|cG h λq3 h=>ae (aGI k k q3) k<|aT k2<|aD<|qD h k2
def sB (a0:Int) (a1:Int) (a2:Int) (x1:(Int×Int)):Option ((Int×Int) ⊕ Int):=
 bif decide (x1.2<a2) then
 ((wQ a0 a1).bind λv6=>
 bif !decide (a0=0) then
 (some (.inl ((wr (x1.1*v6)).tmod a0,wr (x1.2+1))))
 else none)
 else
 (some (.inr x1.1))
def yW (a0:Int) (a1:Int) (a2:Int):Option Int:=
 (lH a0).bind λv1=>
 bif !v1 then
 (some (0))
 else
 ((kV a2 0 1000).bind λv3=>
 bif !v3 then
 (some (0))
 else
 ((Lp (sB a0 a1 a2) (1,0)).bind λy8=>
 some (y8)))
theorem aLE (a0:Int) (a1:Int) (a2:Int) (r:Int) (h:yW a0 a1 a2=some r):HasC Tryz.prog 265 [.int a0,.int a1,.int a2] (.int r):=by
 refine hM [.tmp 6] Tryz.func265 Tryz.ntmps265 k<|sR<|aT k2<|sQ<|sR<|am k k<|oB h λv1 hv1 h=>ae (aO (rL a0 v1 hv1) k (cC k aI)) k<|ae (dD k) k<|am k k<|mG h (λq2 h=>aM 11 k q2<|aK k4<|ak k k<|pk k3<|an<|tn<|cW k k<|sR<|aT k2<|aD<|aE<|qD h k2) λq2 h=>?_;refine aM 11 k q2<|am k k<|oB h λv3 hv3 h=>ae (aO (qG a2 0 1000 v3 hv3) k (cC k (cC k (cC k aI)))) k<|ae (dD k) k<|pk k3<|an<|tn<|cV k h (λ_ h=>sR<|aT k2<|aD<|aE<|qD h k2) λ_ h=>?_;refine aG<|tn<|sR<|aT k2<|sQ<|sR<|am k k<|am k k<|an<|tn<|aC<|oB h λy8 hy8 h=>bX (body:=(sB a0 a1 a2)) hy8 (λ(x1:(Int×Int))=>mN [(0,.int a0),(1,.int a1),(7,.int x1.1),(16,.int a2),(17,.int x1.2)] [] 0) (λr e t=>e= .exit 0∧Ent t (mN [(7,.int r)] [] 0)) (bT (bJ k2) aS k4) ?_ ?_
 ·intro x1 o h;exact sR<|cm k4<|an<|tn<|sQ<|cV k h (λ_ h=>aG<|tn<|sQ<|aC<|rg<|am k k<|am k k<|am k k<|oB h λv6 hv6 h=>ae (aO (aKC a0 a1 v6 hv6) k (cC k (cC k aI))) k<|ae (fC k k) k<|am k k<|cG h λq7 h=>ae (aGI k k q7) k<|aa k k<|an<|aU<|tn<|rg<|ae (bB k k) k<|am k k<|an<|tn<|sp h ⟨_,k,(bT (bJ k2) aS k4)⟩) λ_ h=>aW<|aA<|aA<|sp h ⟨_,k,k,(bT (bJ k2) aS k4)⟩
 ·rintro e t ⟨rfl,hent⟩;exact aN<|tn<|aL hent<|sR<|am k k<|aT k2<|aD<|qD h k2
def uY (a0:Int) (a1:Int):Option Int:=
 (lH a0).bind λv1=>
 bif !v1 then
 (some (0))
 else
 ((yW a0 a1 (max (wr (a0 - 2)) 1)).bind λv3=>
 some (v3))
theorem aJA (a0:Int) (a1:Int) (r:Int) (h:uY a0 a1=some r):HasC Tryz.prog 243 [.int a0,.int a1] (.int r):=by
 exact hM [.tmp 4] Tryz.func243 Tryz.ntmps243 k<|sR<|aT k2<|sQ<|sR<|am k k<|oB h λv1 hv1 h=>ae (aO (rL a0 v1 hv1) k (cC k aI)) k<|ae (dD k) k<|an<|tn<|cV k h (λ_ h=>sR<|aT k2<|aD<|aE<|qD h k2) λ_ h=>aG<|tn<|sR<|am k k<|am k k<|am k k<|ae (jL k k) k<|ae (aZx k k) k<|oB h λv3 hv3 h=>ae (aO (aLE a0 a1 (max (wr (a0 - 2)) 1) v3 hv3) k (cC k (cC k (cC k aI)))) k<|aT k2<|aD<|qD h k2
def iC (a0:(List Int)) (a1:Int) (x1:Int):Option (Int ⊕ (Unit ⊕ Int)):=
 bif decide (x1<(a0.length:Int)) then
 ((cJ a0 x1).bind λv2=>
 bif decide (a1=v2) then
 (some (.inr (.inr (x1))))
 else
 (some (.inl (wr (x1+1)))))
 else
 (some (.inr (.inl ())))
def iZ (a0:(List Int)) (a1:Int):Option Int:=
 (Lp (iC a0 a1) 0).bind λy4=>
 Sum.elim (λy5=>
 some ((-1))
 )
 (λy6=>
 some y6
 )
 y4
theorem aEq (a0:(List Int)) (a1:Int) (r:Int) (h:iZ a0 a1=some r):HasC Tryz.prog 237 [.list 1 (a0.map eI),.int a1] (.int r):=by
 refine hM [.tmp 4] Tryz.func237 Tryz.ntmps237 k<|sR<|aT k2<|sQ<|sR<|am k k<|ln k4<|am k k<|an<|tn<|aC<|oB h λy4 hy4 h=>bX (body:=(iC a0 a1)) hy4 (λ(x1:Int)=>mN [(0,.list 1 (a0.map eI)),(1,.int a1),(7,.int (a0.length:Int)),(8,.int x1)] [] 0) (λr e t=>Sum.elim (λa=>(λr e t=>e= .exit 0∧Ent t (mN [] [] 0)) a e t) (λb=>(λr e t=>e= .ret∧qE TT [.tmp 4] (.int r) .ret t) b e t) r) (bT (bJ k2) aS k4) ?_ ?_
 ·intro x1 o h;exact sR<|cm k4<|an<|tn<|sQ<|cV k h (λ_ h=>aG<|tn<|sQ<|aC<|sR<|am k k<|aT k2<|sR<|am k k<|am k k<|am k k<|oB h λv2 hv2 h=>ae (xl hv2 k) k<|lr k7<|cm k4<|an<|tn<|cV k h (λ_ h=>sR<|am k k<|aT k2<|aD<|bF<|aE<|aE<|sp h ⟨_,k,k,bK k k k (aAI k)⟩) λ_ h=>aG<|aU<|tn<|rg<|ae (bB k k) k<|am k k<|an<|tn<|sp h ⟨_,k,(bT (bJ k2) aS k4)⟩) λ_ h=>aW<|aA<|aA<|sp h ⟨_,k,k,(bT aS aS k4)⟩
 ·intro e t hX;rcases y4 with y5|y6
  ·obtain ⟨rfl,hent⟩:=hX;exact aN<|tn<|aL hent<|sR<|aT k2<|aD<|qD h k2
  ·obtain ⟨rfl,hent⟩:=hX;exact bF<|aE<|sp h hent
def fY (a0:(List Int)) (a1:Int):Option Bool:=
 (iZ a0 a1).bind λv1=>
 some (decide (0≤v1))
theorem aDg (a0:(List Int)) (a1:Int) (r:Bool) (h:fY a0 a1=some r):HasC Tryz.prog 208 [.list 1 (a0.map eI),.int a1] (.bl r):=by
 exact hM [.tmp 4] Tryz.func208 Tryz.ntmps208 k<|sR<|aT k2<|sR<|am k k<|am k k<|oB h λv1 hv1 h=>ae (aO (aEq a0 a1 v1 hv1) k (cC k (cC k aI))) k<|cm k4<|aT k2<|aD<|gJ h k2
def iL (a0:Int) (a1:(List Int)) (x1:((List Int)×Int)):Option (((List Int)×Int) ⊕ (List Int)):=
 bif decide (x1.2<a0) then
 ((fY a1 x1.2).bind λv2=>
 bif !v2 then
 (bif decide (x1.1.length+[x1.2].length ≤4294967296) then
 (some (.inl ((x1.1++[x1.2]),wr (x1.2+1))))
 else none)
 else
 (some (.inl (x1.1,wr (x1.2+1)))))
 else
 (some (.inr x1.1))
def fN (a0:Int) (a1:(List Int)):Option (List Int):=
 (Lp (iL a0 a1) ([],0)).bind λy5=>
 some (y5)
theorem sC (a0:Int) (a1:(List Int)) (r:(List Int)) (h:fN a0 a1=some r):HasC Tryz.prog 152 [.int a0,.list 1 (a1.map eI)] (.list 1 (r.map eI)):=by
 refine hM [.tmp 4] Tryz.func152 Tryz.ntmps152 k<|sR<|aT k2<|sR<|aT k2<|sQ<|sR<|am k k<|am k k<|an<|tn<|aC<|oB h λy5 hy5 h=>bX (body:=(iL a0 a1)) hy5 (λ(x1:((List Int)×Int))=>mN [(1,.list 1 (a1.map eI)),(5,.own 0 0 x1.1.length),(7,.int a0),(8,.int x1.2)] [(0,⟨1,x1.1.map (ow eI)⟩)] 1) (λr e t=>e= .exit 0∧Ent t (mN [(5,.own 0 0 r.length)] [(0,⟨1,r.map (ow eI)⟩)] 1)) (eJ (σ:=sg []) (iU 1 k2 (gK ⟨_,k,⟨k,k,k,k⟩⟩ (bJ k2))) (hX k k<|aS) k) ?_ ?_
 ·intro x1 o h;exact sR<|cm k4<|an<|tn<|sQ<|cV k h (λ_ h=>aG<|tn<|sQ<|aC<|sR<|am k k<|aT k2<|sR<|am k k<|am k k<|oB h λv2 hv2 h=>ae (aO (aDg a1 x1.2 v2 hv2) k (cC k (cC k aI))) k<|ae (dD k) k<|an<|tn<|cV k h (λ_ h=>rg<|am k k<|am k k<|ae (wl k) k<|cG h λq4 h=>ae (mP aJ (l:=x1.1) (m:=[x1.2]) jG q4 k k k k k k k k k k k k) k<|aa k k<|an<|aU<|tn<|rg<|ae (bB k k) k<|am k k<|an<|tn<|sp h ⟨_,k,(kC [2] (bJ k2) (bG k<|aS) k4)⟩) λ_ h=>aG<|aU<|tn<|rg<|ae (bB k k) k<|am k k<|an<|tn<|sp h ⟨_,k,(bT (bJ k2) (bG k<|aS) k4)⟩) λ_ h=>aW<|aA<|aA<|sp h ⟨_,k,k,(bT (bJ k2) (bG k<|aS) k4)⟩
 ·rintro e t ⟨rfl,hent⟩;exact aN<|tn<|aL hent<|sR<|am k k<|aT k2<|aD<|sp h (bK k k k (fZ (dE cX k k)))
def lY (a1:(List Int)) (x1:(Int×Int)):Option ((Int×Int) ⊕ (Int ⊕ Bool)):=
 bif decide (x1.2<(a1.length:Int)) then
 ((cJ a1 x1.2).bind λv5=>
 (fV v5 0 4).bind λv6=>
 bif !v6 then
 (some (.inr (.inr (false))))
 else
 ((cJ a1 x1.2).bind λv8=>
 some (.inl (wr (x1.1+v8),wr (x1.2+1)))))
 else
 (some (.inr (.inl x1.1)))
def aAy (a0:Qv) (a1:(List Int)):Option Bool:=
 (yU a0).bind λv1=>
 bif !v1 then
 (some (false))
 else
 (bif !decide ((a1.length:Int)=a0.n) then
 (some (false))
 else
 ((Lp (lY a1) (0,0)).bind λy9=>
 Sum.elim (λy10=>
 some (decide (y10≤8))
 )
 (λy11=>
 some y11
 )
 y9))
theorem aMm (a0:Qv) (a1:(List Int)) (r:Bool) (h:aAy a0 a1=some r):HasC Tryz.prog 162 [.agg (eQ a0),.list 1 (a1.map eI)] (.bl r):=by
 refine hM [.tmp 4] Tryz.func162 Tryz.ntmps162 k<|sR<|ae (wb k) k<|aT k2<|sQ<|sR<|lp k8<|oB h λv1 hv1 h=>ae (aO (aLC a0 v1 hv1) k (aH (dI k) aI)) k<|ae (dD k) k<|am k k<|mG h (λq2 h=>aM 10 k q2<|aK k4<|aK k4<|ak k k<|pk k3<|an<|tn<|cW k k<|sR<|aT k2<|aD<|aE<|gJ h k2) λq2 h=>?_;refine aM 10 k q2<|am k k<|ln k4<|fp k8<|lp k8<|cm k4<|pk k3<|an<|tn<|cV k h (λ_ h=>sR<|aT k2<|aD<|aE<|gJ h k2) λ_ h=>?_;refine aG<|tn<|sR<|aT k2<|sQ<|sR<|aT k2<|aC<|oB h λy9 hy9 h=>bX (body:=(lY a1)) hy9 (λ(x1:(Int×Int))=>mN [(1,.list 1 (a1.map eI)),(5,.int x1.1),(6,.int x1.2)] [] 0) (λr e t=>Sum.elim (λa=>(λr e t=>e= .exit 0∧Ent t (mN [(5,.int r)] [] 0)) a e t) (λb=>(λr e t=>e= .ret∧qE TT [.tmp 4] (.bl r) .ret t) b e t) r) (bT (bJ k2) aS k4) ?_ ?_
 ·intro x1 o h;exact sQ<|sR<|am k k<|am k k<|ln k4<|cm k4<|an<|tn<|cV k h (λ_ h=>aG<|tn<|sQ<|aC<|sQ<|sR<|am k k<|am k k<|oB h λv5 hv5 h=>ae (xl hv5 k) k<|lr k7<|oB h λv6 hv6 h=>ae (aO (jW v5 0 4 v6 hv6) k (cC k (cC k (cC k aI)))) k<|ae (dD k) k<|an<|tn<|cV k h (λ_ h=>sR<|aT k2<|aD<|aE<|bF<|aE<|aE<|sp h ⟨_,k,k,bK k k k (mM k)⟩) λ_ h=>aG<|tn<|rg<|am k k<|am k k<|am k k<|oB h λv8 hv8 h=>ae (xl hv8 k) k<|lr k7<|ae (bB k k) k<|aa k k<|an<|aU<|tn<|rg<|am k k<|ae (bB k k) k<|aT k2<|sp h ⟨_,k,(bT (bJ k2) aS k4)⟩) λ_ h=>aW<|aA<|aA<|sp h ⟨_,k,k,(bT (bJ k2) aS k4)⟩
 ·intro e t hX;rcases y9 with y10|y11
  ·obtain ⟨rfl,hent⟩:=hX;exact aN<|tn<|aL hent<|sR<|am k k<|cm k4<|aT k2<|aD<|gJ h k2
  ·obtain ⟨rfl,hent⟩:=hX;exact bF<|aE<|sp h hent
def yX (a0:Rp) (x1:Int):Option (Int ⊕ (Unit ⊕ Bool)):=
 bif decide (x1<(a0.maps.length:Int)) then
 ((cJ a0.maps x1).bind λv7=>
 (jY a0.p v7).bind λv8=>
 bif !v8 then
 (some (.inr (.inr (false))))
 else
 ((cJ a0.maps x1).bind λv10=>
 (cJ a0.q.src x1).bind λv11=>
 (cJ a0.dims v11).bind λv12=>
 bif !decide (v10.cols=v12) then
 (some (.inr (.inr (false))))
 else
 ((cJ a0.maps x1).bind λv14=>
 (cJ a0.q.tgt x1).bind λv15=>
 (cJ a0.dims v15).bind λv16=>
 bif !decide (v14.rows=v16) then
 (some (.inr (.inr (false))))
 else
 (some (.inl (wr (x1+1)))))))
 else
 (some (.inr (.inl ())))
def sD (a0:Rp):Option Bool:=
 (gO a0.p).bind λv1=>
 bif !v1 then
 (some (false))
 else
 ((aAy a0.q a0.dims).bind λv3=>
 bif !v3 then
 (some (false))
 else
 (bif !decide ((a0.maps.length:Int)=(a0.q.src.length:Int)) then
 (some (false))
 else
 ((Lp (yX a0) 0).bind λy18=>
 Sum.elim (λy19=>
 some (true)
 )
 (λy20=>
 some y20
 )
 y18)))
theorem aDG (a0:Rp) (r:Bool) (h:sD a0=some r):HasC Tryz.prog 110 [.agg (eR a0)] (.bl r):=by
 refine hM [.tmp 2] Tryz.func110 Tryz.ntmps110 k<|sR<|ae (wb k) k<|aT k2<|sQ<|sR<|fp k8<|lp k8<|oB h λv1 hv1 h=>ae (aO (rK a0.p v1 hv1) k (cC k aI)) k<|ae (dD k) k<|am k k<|mG h (λq2 h=>aM 8 k q2<|aK k4<|aK k4<|aK k4<|pk k3<|am k k<|aK k4<|aK k4<|aK k4<|aK k4<|pk k3<|an<|tn<|aL (t:=mN [(1,.ptr 0 0 0),(25,.bl true)] [(0,⟨6,[eR a0]⟩)] 1) (bT (bJ k2) (bA k<|aS) k4)<|cW k k<|sR<|aT k2<|aD<|aE<|gJ h k2) λq2 h=>?_;refine aM 8 k q2<|fp k8<|lp k8<|fp k8<|lp k8<|oB h λv3 hv3 h=>ae (aO (aMm a0.q a0.dims v3 hv3) k (aH (dI k) (cC k aI))) k<|ae (dD k) k<|pk k3<|am k k<|mG h (λq4 h=>aM 16 k q4<|aK k4<|aK k4<|aK k4<|aK k4<|pk k3<|an<|tn<|aL (t:=mN [(1,.ptr 0 0 0),(25,.bl true)] [(0,⟨6,[eR a0]⟩)] 1) (bT (bJ k2) (bA k<|aS) k4)<|cW k k<|sR<|aT k2<|aD<|aE<|gJ h k2) λq4 h=>?_;refine aM 16 k q4<|fp k8<|lp k8<|ln k4<|fp k8<|fp k8<|lp k8<|ln k4<|cm k4<|pk k3<|an<|tn<|aL (t:=mN [(1,.ptr 0 0 0),(25,.bl (!decide ((a0.maps.length:Int)=(a0.q.src.length:Int))))] [(0,⟨6,[eR a0]⟩)] 1) (bT (bJ k2) (bA k<|aS) k4)<|cV k h (λ_ h=>sR<|aT k2<|aD<|aE<|gJ h k2) λ_ h=>?_;refine aG<|tn<|sQ<|sR<|aT k2<|aC<|oB h λy18 hy18 h=>bX (body:=(yX a0)) hy18 (λ(x1:Int)=>mN [(1,.ptr 0 0 0),(3,.int x1)] [(0,⟨6,[eR a0]⟩)] 1) (λr e t=>Sum.elim (λa=>(λr e t=>e= .exit 0∧Ent t (mN [] [] 0)) a e t) (λb=>(λr e t=>e= .ret∧qE TT [.tmp 2] (.bl r) .ret t) b e t) r) (bT (bJ k2) (bA k<|aS) k4) ?_ ?_
 ·intro x1 o h;refine sQ<|sR<|am k k<|fp k8<|lp k8<|ln k4<|cm k4<|an<|tn<|cV k h (λ_ h=>?_) λ_ h=>aW<|aA<|aA<|sp h ⟨_,k,k,(bT aS aS k4)⟩;refine aG<|tn<|sQ<|aC<|sQ<|aP eG<|fp k8<|lp k8<|fp k8<|lp k8<|am k k<|oB h λv7 hv7 h=>ae (xl hv7 k) k<|lr k7<|oB h λv8 hv8 h=>ae (aO (tS a0.p v7 v8 hv8) k (cC k (aH (dI k) aI))) k<|ae (dD k) k<|am k k<|mG h (λq9 h=>?_) λq9 h=>?_
  ·refine aM 42 k q9<|aK k4<|aK k4<|aK k4<|aK k4<|aK k4<|aK k4<|aK k4<|aK k4<|ak k k<|pk k3<|am k k<|aK k4<|aK k4<|aK k4<|aK k4<|aK k4 ?_;exact aK k4<|aK k4<|aK k4<|ak k k<|pk k3<|an<|lB (by kernel_rfl)<|tn<|aL (t:=mN [(1,.ptr 0 0 0),(3,.int x1),(79,.bl true)] [(0,⟨6,[eR a0]⟩)] 1) (bT (bJ k2) (bA k<|aS) k4)<|cW k k<|sR<|aT k2<|aD<|bF<|aE<|aE<|sp h ⟨_,k,k,bK k k k (mM k)⟩
  ·refine aM 42 k q9<|fp k8<|lp k8<|am k k<|oB h λv10 hv10 h=>ae (xl hv10 k) k<|ae (pJ aJ k k k k k k) k<|lr k7<|fp k8<|lp k8<|fp k8<|fp k8<|lp k8<|am k k<|oB h λv11 hv11 h=>ae (xl hv11 k) k<|lr k7<|oB h λv12 hv12 h=>ae (xl hv12 k) k<|lr k7<|cm k4<|pk k3<|am k k<|mG h (λq13 h=>?_) λq13 h=>aM 61 k q13<|fp k8<|lp k8<|am k k<|oB h λv14 hv14 h=>ae (xl hv14 k) k<|ae (pJ aJ k k k k k k) k<|lr k7<|fp k8<|lp k8<|fp k8<|fp k8<|lp k8<|am k k<|oB h λv15 hv15 h=>ae (xl hv15 k) k<|lr k7<|oB h λv16 hv16 h=>ae (xl hv16 k) k<|lr k7<|cm k4<|pk k3<|an<|lB (by kernel_rfl)<|tn<|aL (t:=mN [(1,.ptr 0 0 0),(3,.int x1),(79,.bl (!decide (v14.rows=v16)))] [(0,⟨6,[eR a0]⟩)] 1) (bT (bJ k2) (bA k<|aS) k4)<|cV k h (λ_ h=>sR<|aT k2<|aD<|bF<|aE<|aE<|sp h ⟨_,k,k,bK k k k (mM k)⟩) λ_ h=>aG<|aU<|tn<|rg<|am k k<|ae (bB k k) k<|aT k2<|sp h ⟨_,k,(bT (bJ k2) (bA k<|aS) k4)⟩;refine aM 61 k q13<|aK k4<|aK k4<|aK k4<|aK k4<|aK k4<|aK k4<|aK k4<|aK k4<|ak k k<|pk k3<|an<|lB (by kernel_rfl)<|tn<|aL (t:=mN [(1,.ptr 0 0 0),(3,.int x1),(79,.bl true)] [(0,⟨6,[eR a0]⟩)] 1) (bT (bJ k2) (bA k<|aS) k4)<|cW k k<|sR<|aT k2<|aD ?_;exact bF<|aE<|aE<|sp h ⟨_,k,k,bK k k k (mM k)⟩
 ·intro e t hX;rcases y18 with y19|y20
  ·obtain ⟨rfl,hent⟩:=hX;exact aN<|tn<|aL hent<|sR<|aT k2<|aD<|gJ h k2
  ·obtain ⟨rfl,hent⟩:=hX;exact bF<|aE<|sp h hent
def qR (a0:Qv) (a1:Qv):Option Bool:=
 bif decide (a0.n=a1.n) then
 ((qH a0.src a1.src).bind λv2=>
 bif v2 then
 ((qH a0.tgt a1.tgt).bind λv4=>
 some (v4))
 else
 (some (false)))
 else
 (some (false))
theorem aHO (a0:Qv) (a1:Qv) (r:Bool) (h:qR a0 a1=some r):HasC Tryz.prog 111 [.agg (eQ a0),.agg (eQ a1)] (.bl r):=by
 exact hM [.tmp 4] Tryz.func111 Tryz.ntmps111 k<|sR<|ae (wb k) k<|ae (wb k) k<|aT k2<|sR<|fp k8<|lp k8<|fp k8<|lp k8<|cm k4<|am k k<|mG h (λq1 h=>aM 10 k q1<|fp k8<|lp k8<|fp k8<|lp k8<|oB h λv2 hv2 h=>ae (aO (yG a0.src a1.src v2 hv2) k (cC k (cC k aI))) k<|pk k3<|am k k<|mG h (λq3 h=>aM 17 k q3<|fp k8<|lp k8<|fp k8<|lp k8<|oB h λv4 hv4 h=>ae (aO (yG a0.tgt a1.tgt v4 hv4) k (cC k (cC k aI))) k<|pk k3<|aT k2<|aD<|gJ h k2) λq3 h=>aM 17 k q3<|aK k4<|aK k4<|ak k k<|pk k3<|aT k2<|aD<|gJ h k2) λq1 h=>aM 10 k q1<|aK k4<|aK k4<|ak k k<|pk k3<|am k k<|aK k4<|aK k4<|ak k k<|pk k3<|aT k2<|aD<|gJ h k2
def qS (a0:Qv) (a1:Qv):Option Bool:=
 bif decide (a0.n=a1.n) then
 ((eZ a0.src a1.src).bind λv2=>
 bif v2 then
 ((eZ a0.tgt a1.tgt).bind λv4=>
 some (v4))
 else
 (some (false)))
 else
 (some (false))
theorem aHP (a0:Qv) (a1:Qv) (r:Bool) (h:qS a0 a1=some r):HasC Tryz.prog 117 [.agg (eQ a0),.agg (eQ a1)] (.bl r):=by
 exact hM [.tmp 4] Tryz.func117 Tryz.ntmps117 k<|sR<|ae (wb k) k<|ae (wb k) k<|aT k2<|sR<|fp k8<|lp k8<|fp k8<|lp k8<|cm k4<|am k k<|mG h (λq1 h=>aM 10 k q1<|fp k8<|lp k8<|fp k8<|lp k8<|oB h λv2 hv2 h=>ae (aO (hJ a0.src a1.src v2 hv2) k (cC k (cC k aI))) k<|pk k3<|am k k<|mG h (λq3 h=>aM 17 k q3<|fp k8<|lp k8<|fp k8<|lp k8<|oB h λv4 hv4 h=>ae (aO (hJ a0.tgt a1.tgt v4 hv4) k (cC k (cC k aI))) k<|pk k3<|aT k2<|aD<|gJ h k2) λq3 h=>aM 17 k q3<|aK k4<|aK k4<|ak k k<|pk k3<|aT k2<|aD<|gJ h k2) λq1 h=>aM 10 k q1<|aK k4<|aK k4<|ak k k<|pk k3<|am k k<|aK k4<|aK k4<|ak k k<|pk k3<|aT k2<|aD<|gJ h k2
def lZ (a0:Mt) (a1:Mt) (x1:Int):Option (Int ⊕ (Unit ⊕ Bool)):=
 bif decide (x1<(a0.cells.length:Int)) then
 ((cJ a0.cells x1).bind λv5=>
 (cJ a1.cells x1).bind λv6=>
 bif !decide (v5=v6) then
 (some (.inr (.inr (false))))
 else
 (some (.inl (wr (x1+1)))))
 else
 (some (.inr (.inl ())))
def pO (a0:Mt) (a1:Mt):Option Bool:=
 bif !decide (a0.rows=a1.rows) then
 (some (false))
 else
 (bif !decide (a0.cols=a1.cols) then
 (some (false))
 else
 (bif !decide ((a0.cells.length:Int)=(a1.cells.length:Int)) then
 (some (false))
 else
 ((Lp (lZ a0 a1) 0).bind λy8=>
 Sum.elim (λy9=>
 some (true)
 )
 (λy10=>
 some y10
 )
 y8)))
theorem aGM (a0:Mt) (a1:Mt) (r:Bool) (h:pO a0 a1=some r):HasC Tryz.prog 263 [.agg (eM a0),.agg (eM a1)] (.bl r):=by
 refine hM [.tmp 4] Tryz.func263 Tryz.ntmps263 k<|sR<|ae (wb k) k<|ae (wb k) k<|aT k2<|sQ<|sR<|fp k8<|lp k8<|fp k8<|lp k8<|cm k4<|am k k<|mG h (λq1 h=>aM 11 k q1<|aK k4<|aK k4<|ak k k<|pk k3<|am k k<|aK k4<|aK k4<|aK k4<|ak k k<|pk k3<|an<|tn<|aL (t:=mN [(2,.ptr 0 0 0),(3,.ptr 1 0 0),(26,.bl true)] [(0,⟨3,[eM a0]⟩),(1,⟨3,[eM a1]⟩)] 2) (bT (bJ k2) (bA k<|bA k<|aS) k4)<|cW k k<|sR<|aT k2<|aD<|aE<|gJ h k2) λq1 h=>?_;refine aM 11 k q1<|fp k8<|lp k8<|fp k8<|lp k8<|cm k4<|pk k3<|am k k<|mG h (λq2 h=>aM 18 k q2<|aK k4<|aK k4<|aK k4<|ak k k<|pk k3<|an<|tn<|aL (t:=mN [(2,.ptr 0 0 0),(3,.ptr 1 0 0),(26,.bl true)] [(0,⟨3,[eM a0]⟩),(1,⟨3,[eM a1]⟩)] 2) (bT (bJ k2) (bA k<|bA k<|aS) k4)<|cW k k<|sR<|aT k2<|aD<|aE<|gJ h k2) λq2 h=>?_;refine aM 18 k q2<|fp k8<|lp k8<|ln k4<|fp k8<|lp k8<|ln k4<|cm k4<|pk k3<|an<|tn<|aL (t:=mN [(2,.ptr 0 0 0),(3,.ptr 1 0 0),(26,.bl (!decide ((a0.cells.length:Int)=(a1.cells.length:Int))))] [(0,⟨3,[eM a0]⟩),(1,⟨3,[eM a1]⟩)] 2) (bT (bJ k2) (bA k<|bA k<|aS) k4)<|cV k h (λ_ h=>sR<|aT k2<|aD<|aE<|gJ h k2) λ_ h=>?_;refine aG<|tn<|sQ<|sR<|aT k2<|aC<|oB h λy8 hy8 h=>bX (body:=(lZ a0 a1)) hy8 (λ(x1:Int)=>mN [(2,.ptr 0 0 0),(3,.ptr 1 0 0),(5,.int x1)] [(0,⟨3,[eM a0]⟩),(1,⟨3,[eM a1]⟩)] 2) (λr e t=>Sum.elim (λa=>(λr e t=>e= .exit 0∧Ent t (mN [] [] 0)) a e t) (λb=>(λr e t=>e= .ret∧qE TT [.tmp 4] (.bl r) .ret t) b e t) r) (bT (bJ k2) (bA k<|bA k<|aS) k4) ?_ ?_
 ·intro x1 o h;exact sQ<|sR<|am k k<|fp k8<|lp k8<|ln k4<|cm k4<|an<|tn<|cV k h (λ_ h=>aG<|tn<|sQ<|aC<|sQ<|aP eG<|fp k8<|lp k8<|am k k<|oB h λv5 hv5 h=>ae (xl hv5 k) k<|lr k7<|fp k8<|lp k8<|am k k<|oB h λv6 hv6 h=>ae (xl hv6 k) k<|lr k7<|cm k4<|an<|lB (by kernel_rfl)<|tn<|cV k h (λ_ h=>sR<|aT k2<|aD<|bF<|aE<|aE<|sp h ⟨_,k,k,bK k k k (mM k)⟩) λ_ h=>aG<|aU<|tn<|rg<|am k k<|ae (bB k k) k<|aT k2<|sp h ⟨_,k,(bT (bJ k2) (bA k<|bA k<|aS) k4)⟩) λ_ h=>aW<|aA<|aA<|sp h ⟨_,k,k,(bT aS aS k4)⟩
 ·intro e t hX;rcases y8 with y9|y10
  ·obtain ⟨rfl,hent⟩:=hX;exact aN<|tn<|aL hent<|sR<|aT k2<|aD<|gJ h k2
  ·obtain ⟨rfl,hent⟩:=hX;exact bF<|aE<|sp h hent
def kX (a0:Rp) (a1:Rp):Option Bool:=
 (sD a0).bind λv1=>
 bif v1 then
 ((sD a1).bind λv3=>
 bif v3 then
 (bif decide (a0.p=a1.p) then
 ((qR a0.q a1.q).bind λv6=>
 some (v6))
 else
 (some (false)))
 else
 (some (false)))
 else
 (some (false))
theorem aAz (a0:Rp) (a1:Rp) (r:Bool) (h:kX a0 a1=some r):HasC Tryz.prog 55 [.agg (eR a0),.agg (eR a1)] (.bl r):=by
 exact hM [.tmp 4] Tryz.func55 Tryz.ntmps55 k<|sR<|ae (wb k) k<|ae (wb k) k<|aT k2<|sR<|lp k8<|oB h λv1 hv1 h=>ae (aO (aDG a0 v1 hv1) k (aH (dI k) aI)) k<|am k k<|mG h (λq2 h=>aM 7 k q2<|lp k8<|oB h λv3 hv3 h=>ae (aO (aDG a1 v3 hv3) k (aH (dI k) aI)) k<|pk k3<|am k k<|mG h (λq4 h=>aM 11 k q4<|fp k8<|lp k8<|fp k8<|lp k8<|cm k4<|pk k3<|am k k<|mG h (λq5 h=>aM 18 k q5<|fp k8<|lp k8<|fp k8<|lp k8<|oB h λv6 hv6 h=>ae (aO (aHO a0.q a1.q v6 hv6) k (aH (dI k) (aH (dI k) aI))) k<|pk k3<|aT k2<|aD<|gJ h k2) λq5 h=>aM 18 k q5<|aK k4<|aK k4<|ak k k<|pk k3<|aT k2<|aD<|gJ h k2) λq4 h=>aM 11 k q4<|aK k4<|aK k4<|ak k k<|pk k3<|am k k<|aK k4<|aK k4<|ak k k<|pk k3<|aT k2<|aD<|gJ h k2) λq2 h=>aM 7 k q2<|aK k4<|pk k3<|am k k<|aK k4<|aK k4<|ak k k<|pk k3<|am k k<|aK k4<|aK k4<|ak k k<|pk k3<|aT k2<|aD<|gJ h k2
end
noncomputable section
set_option maxRecDepth 10000
set_option maxHeartbeats 4000000
def cK (a0:(List Int)) (a1:(Int→Option Bool)) (x1:Int):Option (Int ⊕ (Unit ⊕ Int)):=
 bif decide (x1<(a0.length:Int)) then
 ((cJ a0 x1).bind λv2=>
 (a1 v2).bind λv3=>
 bif v3 then
 (some (.inr (.inr (x1))))
 else
 (some (.inl (wr (x1+1)))))
 else
 (some (.inr (.inl ())))
def dC (a0:(List Int)) (a1:(Int→Option Bool)):Option Int:=
 (Lp (cK a0 a1) 0).bind λy5=>
 Sum.elim (λy6=>
 some ((-1))
 )
 (λy7=>
 some y7
 )
 y5
theorem uZ (a0:(List Int)) (a1:(Int→Option Bool)) {f1:FuncId} {c1:List AV} (hc1:c1.all fE=true) (hf1: ∀ b0 r,a1 b0=some r→HasC Tryz.prog f1 ([.int b0]++c1) (.bl r)) (r:Int) (h:dC a0 a1=some r):HasC Tryz.prog 227 [.list 1 (a0.map eI),.fn f1 c1] (.int r):=by
 refine aCC aJ (rvs:=[.tmp 4]) (ns:=nmA) Tryz.func227 k k Tryz.ntmps227 k k (uX k (uX hc1 aKA))<|sR<|aT k2<|sQ<|sR<|am k k<|ln k4<|am k k<|an<|tn<|aC<|oB h λy5 hy5 h=>bX (body:=(cK a0 a1)) hy5 (λ(x1:Int)=>mN [(0,.list 1 (a0.map eI)),(1,.fn f1 c1),(7,.int (a0.length:Int)),(8,.int x1)] [] 0) (λr e t=>Sum.elim (λa=>(λr e t=>e= .exit 0∧Ent t (mN [] [] 0)) a e t) (λb=>(λr e t=>e= .ret∧qE TT [.tmp 4] (.int r) .ret t) b e t) r) (bT (iU 1 k2 (gK ⟨_,k,⟨k,aAk _ hc1⟩⟩ (bJ k2))) aS k4) ?_ ?_
 ·intro x1 o h;exact sR<|cm k4<|an<|tn<|sQ<|cV k h (λ_ h=>aG<|tn<|sQ<|aC<|sR<|am k k<|aT k2<|sR<|am k k<|am k k<|am k k<|oB h λv2 hv2 h=>ae (xl hv2 k) k<|lr k7<|oB h λv3 hv3 h=>ae (aIp hc1 (hf1 v2 v3 hv3) k k (cC k aI)) k<|an<|tn<|cV k h (λ_ h=>sR<|am k k<|aT k2<|aD<|bF<|aE<|aE<|sp h ⟨_,k,k,bK k k k (aAI k)⟩) λ_ h=>aG<|aU<|tn<|rg<|ae (bB k k) k<|am k k<|an<|tn<|sp h ⟨_,k,(bT (iU 1 k2 (gK ⟨_,k,⟨k,aAk _ hc1⟩⟩ (bJ k2))) aS k4)⟩) λ_ h=>aW<|aA<|aA<|sp h ⟨_,k,k,(bT aS aS k4)⟩
 ·intro e t hX;rcases y5 with y6|y7
  ·obtain ⟨rfl,hent⟩:=hX;exact aN<|tn<|aL hent<|sR<|aT k2<|aD<|qD h k2
  ·obtain ⟨rfl,hent⟩:=hX;exact bF<|aE<|sp h hent
def kM (a0:(List Int)) (a1:(Int→Option Bool)):Option Bool:=
 (dC a0 a1).bind λv1=>
 some (decide (0≤v1))
theorem aBo (a0:(List Int)) (a1:(Int→Option Bool)) {f1:FuncId} {c1:List AV} (hc1:c1.all fE=true) (hf1: ∀ b0 r,a1 b0=some r→HasC Tryz.prog f1 ([.int b0]++c1) (.bl r)) (r:Bool) (h:kM a0 a1=some r):HasC Tryz.prog 186 [.list 1 (a0.map eI),.fn f1 c1] (.bl r):=by
 exact aCC aJ (rvs:=[.tmp 4]) (ns:=nmA) Tryz.func186 k k Tryz.ntmps186 k k (uX k (uX hc1 aKA))<|sR<|aT k2<|sR<|am k k<|am k k<|oB h λv1 hv1 h=>ae (aO (uZ a0 a1 hc1 hf1 v1 hv1) k (cC k (aH (aWR hc1) aI))) k<|cm k4<|aT k2<|aD<|gJ h k2
def gY (a0:(List (List Int))) (a1:((List Int)→Option Bool)) (x1:Int):Option (Int ⊕ (Unit ⊕ Int)):=
 bif decide (x1<(a0.length:Int)) then
 ((cJ a0 x1).bind λv2=>
 (a1 v2).bind λv3=>
 bif v3 then
 (some (.inr (.inr (x1))))
 else
 (some (.inl (wr (x1+1)))))
 else
 (some (.inr (.inl ())))
def lJ (a0:(List (List Int))) (a1:((List Int)→Option Bool)):Option Int:=
 (Lp (gY a0 a1) 0).bind λy5=>
 Sum.elim (λy6=>
 some ((-1))
 )
 (λy7=>
 some y7
 )
 y5
theorem aCW (a0:(List (List Int))) (a1:((List Int)→Option Bool)) {f1:FuncId} {c1:List AV} (hc1:c1.all fE=true) (hf1: ∀ b0 r,a1 b0=some r→HasC Tryz.prog f1 ([.list 1 (b0.map eI)]++c1) (.bl r)) (r:Int) (h:lJ a0 a1=some r):HasC Tryz.prog 261 [.list 1 (a0.map (dL 1 eI)),.fn f1 c1] (.int r):=by
 refine aCC aJ (rvs:=[.tmp 4]) (ns:=nmA) Tryz.func261 k k Tryz.ntmps261 k k (uX k (uX hc1 aKA))<|sR<|aT k2<|sQ<|sR<|am k k<|ln k4<|am k k<|an<|tn<|aC<|oB h λy5 hy5 h=>bX (body:=(gY a0 a1)) hy5 (λ(x1:Int)=>mN [(0,.list 1 (a0.map (dL 1 eI))),(1,.fn f1 c1),(7,.int (a0.length:Int)),(8,.int x1)] [] 0) (λr e t=>Sum.elim (λa=>(λr e t=>e= .exit 0∧Ent t (mN [] [] 0)) a e t) (λb=>(λr e t=>e= .ret∧qE TT [.tmp 4] (.int r) .ret t) b e t) r) (bT (iU 1 k2 (gK ⟨_,k,⟨k,aAk _ hc1⟩⟩ (bJ k2))) aS k4) ?_ ?_
 ·intro x1 o h;exact sR<|cm k4<|an<|tn<|sQ<|cV k h (λ_ h=>aG<|tn<|sQ<|aC<|sR<|am k k<|aT k2<|sR<|am k k<|am k k<|am k k<|oB h λv2 hv2 h=>ae (xl hv2 k) k<|lr k7<|oB h λv3 hv3 h=>ae (aIp hc1 (hf1 v2 v3 hv3) k k (cC k aI)) k<|an<|tn<|cV k h (λ_ h=>sR<|am k k<|aT k2<|aD<|bF<|aE<|aE<|sp h ⟨_,k,k,bK k k k (aAI k)⟩) λ_ h=>aG<|aU<|tn<|rg<|ae (bB k k) k<|am k k<|an<|tn<|sp h ⟨_,k,(bT (iU 1 k2 (gK ⟨_,k,⟨k,aAk _ hc1⟩⟩ (bJ k2))) aS k4)⟩) λ_ h=>aW<|aA<|aA<|sp h ⟨_,k,k,(bT aS aS k4)⟩
 ·intro e t hX;rcases y5 with y6|y7
  ·obtain ⟨rfl,hent⟩:=hX;exact aN<|tn<|aL hent<|sR<|aT k2<|aD<|qD h k2
  ·obtain ⟨rfl,hent⟩:=hX;exact bF<|aE<|sp h hent
def fK (a0:(List (List Int))) (a1:((List Int)→Option Bool)):Option Bool:=
 (lJ a0 a1).bind λv1=>
 some (decide (0≤v1))
theorem pP (a0:(List (List Int))) (a1:((List Int)→Option Bool)) {f1:FuncId} {c1:List AV} (hc1:c1.all fE=true) (hf1: ∀ b0 r,a1 b0=some r→HasC Tryz.prog f1 ([.list 1 (b0.map eI)]++c1) (.bl r)) (r:Bool) (h:fK a0 a1=some r):HasC Tryz.prog 234 [.list 1 (a0.map (dL 1 eI)),.fn f1 c1] (.bl r):=by
 exact aCC aJ (rvs:=[.tmp 4]) (ns:=nmA) Tryz.func234 k k Tryz.ntmps234 k k (uX k (uX hc1 aKA))<|sR<|aT k2<|sR<|am k k<|am k k<|oB h λv1 hv1 h=>ae (aO (aCW a0 a1 hc1 hf1 v1 hv1) k (cC k (aH (aWR hc1) aI))) k<|cm k4<|aT k2<|aD<|gJ h k2
def nX (a0:Int) (a1:Int) (a2:Int):Option Bool:=
 (kV a0 a1 a2).bind λv1=>
 some (!v1)
theorem aID (a0:Int) (a1:Int) (a2:Int) (r:Bool) (h:nX a0 a1 a2=some r):HasC Tryz.prog 187 [.int a0,.ref (eI a1),.ref (eI a2)] (.bl r):=by
 exact hM [.tmp 4] Tryz.func187 Tryz.ntmps187 k<|sR<|aT k2<|sR<|am k k<|lr k7<|lr k7<|oB h λv1 hv1 h=>ae (aO (qG a0 a1 a2 v1 hv1) k (cC k (cC k (cC k aI)))) k<|ae (dD k) k<|aT k2<|aD<|gJ h k2
def jA (a0:(List Int)) (a1:Int) (a2:Int):Option Bool:=
 (kM a0 (λb0=>nX b0 a1 a2)).bind λv1=>
 some (!v1)
theorem rM (a0:(List Int)) (a1:Int) (a2:Int) (r:Bool) (h:jA a0 a1 a2=some r):HasC Tryz.prog 138 [.list 1 (a0.map eI),.int a1,.int a2] (.bl r):=by
 exact hM [.tmp 6] Tryz.func138 Tryz.ntmps138 k<|sR<|ae (wb k) k<|ae (wb k) k<|aT k2<|sR<|am k k<|ae (aFB (vs:=[.ptr 0 0 0,.ptr 1 0 0]) k (by simp)) k<|oB h λv1 hv1 h=>ae (aO (aBo a0 (λb0=>nX b0 a1 a2) k (λb0 r h=>aID b0 a1 a2 r h) v1 hv1) k (cC k (aH (aOf (aGt (aJv k k (oJ (wO k) aFJ)) (aGt (aJv k k (oJ (wO k) aFJ)) aGs))) aI))) k<|ae (dD k) k<|aT k2<|aD<|gJ h k2
def tT (a0:Int) (a1:(List Int)):Option Bool:=
 (lH a0).bind λv1=>
 bif v1 then
 (bif decide ((a1.length:Int)≤64) then
 ((jA a1 0 (wr (a0 - 1))).bind λv4=>
 some (v4))
 else
 (some (false)))
 else
 (some (false))
theorem aFm (a0:Int) (a1:(List Int)) (r:Bool) (h:tT a0 a1=some r):HasC Tryz.prog 204 [.int a0,.list 1 (a1.map eI)] (.bl r):=by
 exact hM [.tmp 4] Tryz.func204 Tryz.ntmps204 k<|sR<|aT k2<|sR<|am k k<|oB h λv1 hv1 h=>ae (aO (rL a0 v1 hv1) k (cC k aI)) k<|am k k<|mG h (λq2 h=>aM 7 k q2<|am k k<|ln k4<|cm k4<|pk k3<|am k k<|mG h (λq3 h=>aM 12 k q3<|am k k<|am k k<|ae (jL k k) k<|oB h λv4 hv4 h=>ae (aO (rM a1 0 (wr (a0 - 1)) v4 hv4) k (cC k (cC k (cC k aI)))) k<|pk k3<|aT k2<|aD<|gJ h k2) λq3 h=>aM 12 k q3<|aK k4<|aK k4<|pk k3<|aT k2<|aD<|gJ h k2) λq2 h=>aM 7 k q2<|aK k4<|ak k k<|pk k3<|am k k<|aK k4<|aK k4<|pk k3<|aT k2<|aD<|gJ h k2
def yY (a0:Int) (a1:Mt):Option Bool:=
 (kV a1.rows 0 8).bind λv1=>
 bif v1 then
 ((kV a1.cols 0 8).bind λv3=>
 bif v3 then
 (bif decide ((a1.cells.length:Int)=wr (a1.rows*a1.cols)) then
 ((tT a0 a1.cells).bind λv6=>
 some (v6))
 else
 (some (false)))
 else
 (some (false)))
 else
 (some (false))
theorem aLF (a0:Int) (a1:Mt) (r:Bool) (h:yY a0 a1=some r):HasC Tryz.prog 148 [.int a0,.agg (eM a1)] (.bl r):=by
 exact hM [.tmp 4] Tryz.func148 Tryz.ntmps148 k<|sR<|ae (wb k) k<|aT k2<|sR<|fp k8<|lp k8<|oB h λv1 hv1 h=>ae (aO (qG a1.rows 0 8 v1 hv1) k (cC k (cC k (cC k aI)))) k<|am k k<|mG h (λq2 h=>aM 8 k q2<|fp k8<|lp k8<|oB h λv3 hv3 h=>ae (aO (qG a1.cols 0 8 v3 hv3) k (cC k (cC k (cC k aI)))) k<|pk k3<|am k k<|mG h (λq4 h=>aM 13 k q4<|fp k8<|lp k8<|ln k4<|fp k8<|lp k8<|fp k8<|lp k8<|ae (fC k k) k<|cm k4<|pk k3<|am k k<|mG h (λq5 h=>aM 24 k q5<|am k k<|fp k8<|lp k8<|oB h λv6 hv6 h=>ae (aO (aFm a0 a1.cells v6 hv6) k (cC k (cC k aI))) k<|pk k3<|aT k2<|aD<|gJ h k2) λq5 h=>aM 24 k q5<|aK k4<|aK k4<|pk k3<|aT k2<|aD<|gJ h k2) λq4 h=>aM 13 k q4<|aK k4<|aK k4<|aK k4<|aK k4<|ak k k<|pk k3<|am k k<|aK k4<|aK k4<|pk k3<|aT k2<|aD<|gJ h k2) λq2 h=>aM 8 k q2<|aK k4<|ak k k<|pk k3<|am k k<|aK k4<|aK k4<|aK k4<|aK k4<|ak k k<|pk k3<|am k k<|aK k4<|aK k4<|pk k3<|aT k2<|aD<|gJ h k2
def yZ (a0:Qv):Option Bool:=
 (kV a0.n 1 5).bind λv1=>
 bif v1 then
 (bif decide ((a0.src.length:Int)=(a0.tgt.length:Int)) then
 (bif decide ((a0.src.length:Int)≤6) then
 ((jA a0.src 0 (wr (a0.n - 1))).bind λv5=>
 bif v5 then
 ((jA a0.tgt 0 (wr (a0.n - 1))).bind λv7=>
 some (v7))
 else
 (some (false)))
 else
 (some (false)))
 else
 (some (false)))
 else
 (some (false))
theorem aLG (a0:Qv) (r:Bool) (h:yZ a0=some r):HasC Tryz.prog 203 [.agg (eQ a0)] (.bl r):=by
 refine hM [.tmp 2] Tryz.func203 Tryz.ntmps203 k<|sR<|ae (wb k) k<|aT k2<|sR<|fp k8<|lp k8<|oB h λv1 hv1 h=>ae (aO (qG a0.n 1 5 v1 hv1) k (cC k (cC k (cC k aI)))) k<|am k k<|mG h (λq2 h=>aM 6 k q2<|fp k8<|lp k8<|ln k4<|fp k8<|lp k8<|ln k4<|cm k4<|pk k3<|am k k<|mG h (λq3 h=>aM 15 k q3<|fp k8<|lp k8<|ln k4<|cm k4<|pk k3<|am k k<|mG h (λq4 h=>aM 21 k q4<|fp k8<|lp k8<|fp k8<|lp k8<|ae (jL k k) k<|oB h λv5 hv5 h=>ae (aO (rM a0.src 0 (wr (a0.n - 1)) v5 hv5) k (cC k (cC k (cC k aI)))) k<|pk k3<|am k k<|mG h (λq6 h=>aM 29 k q6<|fp k8<|lp k8<|fp k8<|lp k8<|ae (jL k k) k<|oB h λv7 hv7 h=>ae (aO (rM a0.tgt 0 (wr (a0.n - 1)) v7 hv7) k (cC k (cC k (cC k aI)))) k<|pk k3<|aT k2<|aD<|gJ h k2) λq6 h=>aM 29 k q6<|aK k4<|aK k4<|aK k4<|pk k3<|aT k2<|aD<|gJ h k2) λq4 h=>aM 21 k q4<|aK k4<|aK k4<|aK k4<|pk k3<|am k k<|aK k4<|aK k4<|aK k4<|pk k3<|aT k2<|aD<|gJ h k2) λq3 h=>aM 15 k q3<|aK k4<|aK k4<|pk k3<|am k k<|aK k4<|aK k4<|aK k4<|pk k3<|am k k<|aK k4<|aK k4<|aK k4<|pk k3<|aT k2<|aD<|gJ h k2) λq2 h=>?_;refine aM 6 k q2<|aK k4<|aK k4<|aK k4<|ak k k<|pk k3<|am k k<|aK k4<|aK k4<|pk k3<|am k k<|aK k4<|aK k4<|aK k4<|pk k3<|am k k<|aK k4<|aK k4<|aK k4 ?_;exact pk k3<|aT k2<|aD<|gJ h k2
def aBA (a0:Qv) (a1:(List Int)):Option Bool:=
 (yZ a0).bind λv1=>
 bif v1 then
 (bif decide ((a1.length:Int)=a0.n) then
 ((jA a1 0 4).bind λv4=>
 bif v4 then
 ((aAx a1).bind λv6=>
 some (decide (v6≤8)))
 else
 (some (false)))
 else
 (some (false)))
 else
 (some (false))
theorem aMn (a0:Qv) (a1:(List Int)) (r:Bool) (h:aBA a0 a1=some r):HasC Tryz.prog 147 [.agg (eQ a0),.list 1 (a1.map eI)] (.bl r):=by
 exact hM [.tmp 4] Tryz.func147 Tryz.ntmps147 k<|sR<|ae (wb k) k<|aT k2<|sR<|lp k8<|oB h λv1 hv1 h=>ae (aO (aLG a0 v1 hv1) k (aH (dI k) aI)) k<|am k k<|mG h (λq2 h=>aM 7 k q2<|am k k<|ln k4<|fp k8<|lp k8<|cm k4<|pk k3<|am k k<|mG h (λq3 h=>aM 14 k q3<|am k k<|oB h λv4 hv4 h=>ae (aO (rM a1 0 4 v4 hv4) k (cC k (cC k (cC k aI)))) k<|pk k3<|am k k<|mG h (λq5 h=>aM 18 k q5<|am k k<|oB h λv6 hv6 h=>ae (aO (aIx a1 v6 hv6) k (cC k aI)) k<|cm k4<|pk k3<|aT k2<|aD<|gJ h k2) λq5 h=>aM 18 k q5<|aK k4<|ak k k<|pk k3<|aT k2<|aD<|gJ h k2) λq3 h=>aM 14 k q3<|aK k4<|pk k3<|am k k<|aK k4<|ak k k<|pk k3<|aT k2<|aD<|gJ h k2) λq2 h=>aM 7 k q2<|aK k4<|aK k4<|ak k k<|pk k3<|am k k<|aK k4<|pk k3<|am k k<|aK k4<|ak k k<|pk k3<|aT k2<|aD<|gJ h k2
def zA (a0:Rp) (x1:Int):Option (Int ⊕ (Unit ⊕ Bool)):=
 bif decide (x1<(a0.maps.length:Int)) then
 ((cJ a0.maps x1).bind λv7=>
 (yY a0.p v7).bind λv8=>
 bif !v8 then
 (some (.inr (.inr (false))))
 else
 ((cJ a0.q.src x1).bind λv10=>
 (cJ a0.dims v10).bind λv11=>
 bif !decide (v7.cols=v11) then
 (some (.inr (.inr (false))))
 else
 ((cJ a0.q.tgt x1).bind λv13=>
 (cJ a0.dims v13).bind λv14=>
 bif !decide (v7.rows=v14) then
 (some (.inr (.inr (false))))
 else
 (some (.inl (wr (x1+1)))))))
 else
 (some (.inr (.inl ())))
def sE (a0:Rp):Option Bool:=
 (lH a0.p).bind λv1=>
 bif !v1 then
 (some (false))
 else
 ((aBA a0.q a0.dims).bind λv3=>
 bif !v3 then
 (some (false))
 else
 (bif !decide ((a0.maps.length:Int)=(a0.q.src.length:Int)) then
 (some (false))
 else
 ((Lp (zA a0) 0).bind λy16=>
 Sum.elim (λy17=>
 some (true)
 )
 (λy18=>
 some y18
 )
 y16)))
theorem aDH (a0:Rp) (r:Bool) (h:sE a0=some r):HasC Tryz.prog 101 [.agg (eR a0)] (.bl r):=by
 refine hM [.tmp 2] Tryz.func101 Tryz.ntmps101 k<|sR<|ae (wb k) k<|aT k2<|sQ<|sR<|fp k8<|lp k8<|oB h λv1 hv1 h=>ae (aO (rL a0.p v1 hv1) k (cC k aI)) k<|ae (dD k) k<|am k k<|mG h (λq2 h=>aM 9 k q2<|aK k4<|aK k4<|aK k4<|pk k3<|am k k<|aK k4<|aK k4<|aK k4<|aK k4<|pk k3<|an<|tn<|aL (t:=mN [(1,.ptr 0 0 0),(26,.bl true)] [(0,⟨6,[eR a0]⟩)] 1) (bT (bJ k2) (bA k<|aS) k4)<|cW k k<|sR<|aT k2<|aD<|aE<|gJ h k2) λq2 h=>?_;refine aM 9 k q2<|fp k8<|lp k8<|fp k8<|lp k8<|oB h λv3 hv3 h=>ae (aO (aMn a0.q a0.dims v3 hv3) k (aH (dI k) (cC k aI))) k<|ae (dD k) k<|pk k3<|am k k<|mG h (λq4 h=>aM 17 k q4<|aK k4<|aK k4<|aK k4<|aK k4<|pk k3<|an<|tn<|aL (t:=mN [(1,.ptr 0 0 0),(26,.bl true)] [(0,⟨6,[eR a0]⟩)] 1) (bT (bJ k2) (bA k<|aS) k4)<|cW k k<|sR<|aT k2<|aD<|aE<|gJ h k2) λq4 h=>?_;refine aM 17 k q4<|fp k8<|lp k8<|ln k4<|fp k8<|fp k8<|lp k8<|ln k4<|cm k4<|pk k3<|an<|tn<|aL (t:=mN [(1,.ptr 0 0 0),(26,.bl (!decide ((a0.maps.length:Int)=(a0.q.src.length:Int))))] [(0,⟨6,[eR a0]⟩)] 1) (bT (bJ k2) (bA k<|aS) k4)<|cV k h (λ_ h=>sR<|aT k2<|aD<|aE<|gJ h k2) λ_ h=>?_;refine aG<|tn<|sQ<|sR<|fp k8<|lp k8<|ln k4<|am k k<|an<|tn<|aC<|oB h λy16 hy16 h=>bX (body:=(zA a0)) hy16 (λ(x1:Int)=>mN [(1,.ptr 0 0 0),(28,.list 3 (a0.maps.map eM)),(29,.int (a0.maps.length:Int)),(30,.int x1)] [(0,⟨6,[eR a0]⟩)] 1) (λr e t=>Sum.elim (λa=>(λr e t=>e= .exit 0∧Ent t (mN [] [] 0)) a e t) (λb=>(λr e t=>e= .ret∧qE TT [.tmp 2] (.bl r) .ret t) b e t) r) (bT (bJ k2) (bA k<|aS) k4) ?_ ?_
 ·intro x1 o h;refine sR<|cm k4<|an<|tn<|sQ<|cV k h (λ_ h=>?_) λ_ h=>aW<|aA<|aA<|sp h ⟨_,k,k,(bT aS aS k4)⟩;refine aG<|tn<|sQ<|aC<|sR<|am k k<|oB h λv7 hv7 h=>ae (xl hv7 k) k<|lr k7<|ae (bP aJ k k) k<|aa k k<|ae (ws k) k<|an<|tn<|sQ<|aP eG<|fp k8<|lp k8<|lp k8<|oB h λv8 hv8 h=>ae (aO (aLF a0.p v7 v8 hv8) k (cC k (aH (dI k) aI))) k<|ae (dD k) k<|am k k<|mG h (λq9 h=>?_) λq9 h=>?_
  ·refine aM 40 k q9<|aK k4<|aK k4<|aK k4<|aK k4<|aK k4<|aK k4<|ak k k<|pk k3<|am k k<|aK k4<|aK k4<|aK k4<|aK k4<|aK k4<|aK k4<|ak k k<|pk k3 ?_;exact an<|lB (by kernel_rfl)<|tn<|aL (t:=mN [(1,.ptr 0 0 0),(28,.list 3 (a0.maps.map eM)),(29,.int (a0.maps.length:Int)),(30,.int x1),(69,.bl true)] [(0,⟨6,[eR a0]⟩)] 2) (bT (bJ k2) (bA k<|aS) k4)<|cW k k<|sR<|aT k2<|aD<|bF<|aE<|aE<|sp h ⟨_,k,k,bK k k k (mM k)⟩
  ·exact aM 40 k q9<|fp k8<|lp k8<|fp k8<|lp k8<|fp k8<|fp k8<|lp k8<|am k k<|oB h λv10 hv10 h=>ae (xl hv10 k) k<|lr k7<|oB h λv11 hv11 h=>ae (xl hv11 k) k<|lr k7<|cm k4<|pk k3<|am k k<|mG h (λq12 h=>aM 55 k q12<|aK k4<|aK k4<|aK k4<|aK k4<|aK k4<|aK k4<|ak k k<|pk k3<|an<|lB (by kernel_rfl)<|tn<|aL (t:=mN [(1,.ptr 0 0 0),(28,.list 3 (a0.maps.map eM)),(29,.int (a0.maps.length:Int)),(30,.int x1),(69,.bl true)] [(0,⟨6,[eR a0]⟩)] 2) (bT (bJ k2) (bA k<|aS) k4)<|cW k k<|sR<|aT k2<|aD<|bF<|aE<|aE<|sp h ⟨_,k,k,bK k k k (mM k)⟩) λq12 h=>aM 55 k q12<|fp k8<|lp k8<|fp k8<|lp k8<|fp k8<|fp k8<|lp k8<|am k k<|oB h λv13 hv13 h=>ae (xl hv13 k) k<|lr k7<|oB h λv14 hv14 h=>ae (xl hv14 k) k<|lr k7<|cm k4<|pk k3<|an<|lB (by kernel_rfl)<|tn<|aL (t:=mN [(1,.ptr 0 0 0),(28,.list 3 (a0.maps.map eM)),(29,.int (a0.maps.length:Int)),(30,.int x1),(69,.bl (!decide (v7.rows=v14)))] [(0,⟨6,[eR a0]⟩)] 2) (bT (bJ k2) (bA k<|aS) k4)<|cV k h (λ_ h=>sR<|aT k2<|aD<|bF<|aE<|aE<|sp h ⟨_,k,k,bK k k k (mM k)⟩) λ_ h=>aG<|aU<|tn<|rg<|ae (bB k k) k<|am k k<|an<|tn<|sp h ⟨_,k,(bT (bJ k2) (bA k<|aS) k4)⟩
 ·intro e t hX;rcases y16 with y17|y18
  ·obtain ⟨rfl,hent⟩:=hX;exact aN<|tn<|aL hent<|sR<|aT k2<|aD<|gJ h k2
  ·obtain ⟨rfl,hent⟩:=hX;exact bF<|aE<|sp h hent
def mQ (a0:Mt):Option Mt:=
 (mW a0.cells).bind λv1=>
 some ((⟨a0.rows,a0.cols,v1⟩:Mt))
theorem aDB (a0:Mt) (r:Mt) (h:mQ a0=some r):HasC Tryz.prog 170 [.agg (eM a0)] (.agg (eM r)):=by
 exact hM [.cell 2 113] Tryz.func170 Tryz.ntmps170 k<|sR<|ae (wb k) k<|ae (bP aJ k k) k<|an<|tn<|sR<|fp k8<|lp k8<|oB h λv1 hv1 h=>ae (cL cX (aDF a0.cells v1 hv1) k3 (cC k aI)) k<|fp k8<|ae (ws k) k<|an<|tn<|sR<|lp k8<|ae (ws k) k<|an<|tn<|aD<|sp h (bK k k k (lG (aY (k) (aY (k) (aY (dE cX k k) fA)))))
def zB (a0:Int) (a2:Mt) (v1:Mt) (v3:(List Int)) (x1:((List Int)×Int)) (x2:((List Int)×Int)):Option (((List Int)×Int) ⊕ (List Int)):=
 bif decide (x2.2<(v3.length:Int)) then
 ((cJ v3 x2.2).bind λv5=>
 (dK (⟨v1.rows,v1.cols,x2.1⟩:Mt) x1.2).bind λv6=>
 (aJy a2 x2.2).bind λv7=>
 (eO a0 x2.1 (0+(wr (x1.2*v1.cols)).toNat) ((wr ((wr (x1.2+1))*v1.cols)).toNat - (wr (x1.2*v1.cols)).toNat) v5 v7).bind λv8=>
 bif decide (v8.length=x2.1.length) then
 (some (.inl (v8,wr (x2.2+1))))
 else none)
 else
 (some (.inr x2.1))
def zD (a0:Int) (a1:Mt) (a2:Mt) (v1:Mt) (x1:((List Int)×Int)):Option (((List Int)×Int) ⊕ (List Int)):=
 bif decide (x1.2<a1.rows) then
 ((aJy a1 x1.2).bind λv3=>
 (Lp (zB a0 a2 v1 v3 x1) (x1.1,0)).bind λy10=>
 some (.inl (y10,wr (x1.2+1))))
 else
 (some (.inr x1.1))
def sH (a0:Int) (a1:Mt) (a2:Mt):Option Mt:=
 (iY a1.rows a2.cols).bind λv1=>
 (Lp (zD a0 a1 a2 v1) (v1.cells,0)).bind λy11=>
 some ((⟨v1.rows,v1.cols,y11⟩:Mt))
theorem aDI (a0:Int) (a1:Mt) (a2:Mt) (r:Mt) (h:sH a0 a1 a2=some r):HasC Tryz.prog 151 [.int a0,.agg (eM a1),.agg (eM a2)] (.agg (eM r)):=by
 refine hM [.cell 6 113] Tryz.func151 Tryz.ntmps151 k<|sR<|ae (wb k) k<|ae (wb k) k<|ae (bP aJ k k) k<|an<|tn<|sR<|fp k8<|lp k8<|fp k8<|lp k8<|oB h λv1 hv1 h=>ae (cM (vX a1.rows a2.cols v1 hv1) k3 (cC k (cC k aI))) k<|ae (bP aJ k k) k<|ae (ws k) k<|an<|tn<|sQ<|sR<|fp k8<|lp k8<|am k k<|an<|tn<|aC<|oB h λy11 hy11 h=>bX (body:=(zD a0 a1 a2 v1)) hy11 (λ(x1:((List Int)×Int))=>mN [(0,.int a0),(4,.ptr 0 0 0),(5,.ptr 1 0 0),(6,.ptr 2 0 0),(7,.ptr 3 0 0),(17,.int a1.rows),(18,.int x1.2)] [(0,⟨3,[eM a1]⟩),(1,⟨3,[eM a2]⟩),(2,⟨3,[fB]⟩),(3,⟨3,[[.int v1.rows,.int v1.cols,.own 4 0 x1.1.length]]⟩),(4,⟨1,x1.1.map (ow eI)⟩)] 5) (λr e t=>e= .exit 0∧Ent t (mN [(6,.ptr 0 0 0),(7,.ptr 1 0 0)] [(0,⟨3,[fB]⟩),(1,⟨3,[[.int v1.rows,.int v1.cols,.own 2 0 r.length]]⟩),(2,⟨1,r.map (ow eI)⟩)] 3)) (kC [0,1,2,4,3] (bJ k2) (bA k<|bA k<|bA k<|cP k<|bG k<|aS) k4) ?_ ?_
 ·intro x1 o h;refine sR<|cm k4<|an<|tn<|sQ<|cV k h (λ_ h=>?_) λ_ h=>aW<|aA<|aA<|sp h ⟨_,k,k,(kC [2,3,4] (bJ k2) (bA k<|cP k<|bG k<|aS) k4)⟩;refine aG<|tn<|sQ<|aC<|sR<|am k k<|aT k2<|sR<|lp k8<|am k k<|oB h λv3 hv3 h=>ae (aMf (aSo a1 x1.2 v3 hv3) k k k) k<|ln k4<|am k k<|an<|tn<|aC<|oB h λy10 hy10 h=>bX (body:=(zB a0 a2 v1 v3 x1)) hy10 (λ(x2:((List Int)×Int))=>mN [(0,.int a0),(4,.ptr 0 0 0),(5,.ptr 1 0 0),(6,.ptr 2 0 0),(7,.ptr 3 0 0),(8,.int x1.2),(17,.int a1.rows),(18,.int x1.2),(23,.list 1 (v3.map eI)),(24,.int (v3.length:Int)),(25,.int x2.2)] [(0,⟨3,[eM a1]⟩),(1,⟨3,[eM a2]⟩),(2,⟨3,[fB]⟩),(3,⟨3,[[.int v1.rows,.int v1.cols,.own 4 0 x2.1.length]]⟩),(4,⟨1,x2.1.map (ow eI)⟩)] 5) (λr e t=>e= .exit 2∧Ent t (mN [(0,.int a0),(4,.ptr 0 0 0),(5,.ptr 1 0 0),(6,.ptr 2 0 0),(7,.ptr 3 0 0),(17,.int a1.rows),(18,.int x1.2)] [(0,⟨3,[eM a1]⟩),(1,⟨3,[eM a2]⟩),(2,⟨3,[fB]⟩),(3,⟨3,[[.int v1.rows,.int v1.cols,.own 4 0 r.length]]⟩),(4,⟨1,r.map (ow eI)⟩)] 5)) (bT (bJ k2) (bA k<|bA k<|bA k<|cP k<|bG k<|aS) k4) ?_ ?_
  ·intro x2 o h;refine sR<|cm k4<|an<|tn<|sQ<|cV k h (λ_ h=>?_) λ_ h=>aW<|aA<|aA<|sp h ⟨_,k,k,(bT (bJ k2) (bA k<|bA k<|bA k<|cP k<|bG k<|aS) k4)⟩;refine aG<|tn<|sQ<|aC<|sR<|am k k<|oB h λv5 hv5 h=>ae (xl hv5 k) k<|lr k7<|aa k k<|aT k2<|aP eG<|am k k<|lp k8<|am k k<|oB h λv6 hv6 h=>ae (AEff.pureE (nR (σ:=sg [(0,4)]) (σ':=sg [(4,0)]) (touch:=[4]) (news:=[]) (nP:=[(4,⟨1,x2.1.map (ow eI)⟩)]) (n':=5) (r2:= .own 4 (0+(wr (x1.2*v1.cols)).toNat) ((wr ((wr (x1.2+1))*v1.cols)).toNat - (wr (x1.2*v1.cols)).toNat)) (fJ (⟨v1.rows,v1.cols,x2.1⟩:Mt) x1.2 v6 hv6) k k ⟨_,_,k,⟨_,_,k,k,⟨_,_,k,k,⟨_,_,k,⟨k,k,k,k⟩,k⟩⟩⟩,⟨_,_,k,k,k⟩⟩ ⟨⟨_,k,k,.inl ⟨k,cX.plainO _⟩⟩,k,aS⟩ k k k ⟨⟨_,k,k,.inl ⟨k,cX.plainO _⟩⟩,k,aS⟩ k ⟨k,k,(by simp only [aQ,lA,lT,lR,lC,lN]),k⟩ k ⟨k,cX.tame _ _,aS⟩ k k) ⟨k,k,aS⟩) k<|am k k<|lp k8<|am k k<|oB h λv7 hv7 h=>ae (aMf (aSo a2 x2.2 v7 hv7) k k k) k<|oB h λv8 hv8 h=>ae (nR (σ:=sg [(0,4)]) (σ':=sg [(4,0)]) (touch:=[4]) (news:=[]) (nP:=[(4,⟨1,v8.map (ow eI)⟩)]) (n':=5) (r2:= .own 4 (0+(wr (x1.2*v1.cols)).toNat) ((wr ((wr (x1.2+1))*v1.cols)).toNat - (wr (x1.2*v1.cols)).toNat)) (sA a0 x2.1 (0+(wr (x1.2*v1.cols)).toNat) ((wr ((wr (x1.2+1))*v1.cols)).toNat - (wr (x1.2*v1.cols)).toNat) v5 v7 v8 hv8) k k ⟨_,_,k,k,⟨_,_,k,⟨k,k,k,k⟩,⟨_,_,k,k,⟨_,_,k,⟨k,k⟩,k⟩⟩⟩⟩ ⟨⟨_,k,k,.inl ⟨k,cX.plainO _⟩⟩,k,aS⟩ k k k ⟨⟨_,k,k,.inl ⟨k,cX.plainO _⟩⟩,k,aS⟩ k ⟨k,k,(by simp only [aQ,lA,lT,lR,lC,lN]),k⟩ k ⟨k,cX.tame _ _,aS⟩ k k) k<|cG h λq9 h=>an<|lB (by kernel_rfl)<|aU<|tn<|rg<|ae (bB k k) k ?_;exact am k k<|an<|tn<|sp h ⟨_,k,(bT (bJ k2) (bA k<|bA k<|bA k<|hX ⟨_,k,k,.inr ⟨_,_,k,⟨_,_,k,k,⟨_,_,k,k,⟨_,_,k,⟨k,k,(by simp only [aQ,lA,lT,lR,lC,lN,of_decide_eq_true q9]),k⟩,k⟩⟩⟩,k⟩⟩ k<|bG k<|aS) k4)⟩
  ·rintro e t ⟨rfl,hent⟩;exact aN<|aU<|tn<|aL hent<|rg<|ae (bB k k) k<|am k k<|an<|tn<|sp h ⟨_,k,(bT (bJ k2) (bA k<|bA k<|bA k<|cP k<|bG k<|aS) k4)⟩
 ·rintro e t ⟨rfl,hent⟩;exact aN<|tn<|aL hent<|sR<|lp k8<|ae (ws k) k<|an<|tn<|aD<|sp h (bK k k k (lG (aY (k) (aY (k) (aY (dE cX k k) fA)))))
def rN (v1:Mt) (x1:(Int×(List Int)×(List Int))) (x2:Int):Option (Int ⊕ Int):=
 bif decide (x2<v1.rows) then
 ((dK (⟨v1.rows,v1.cols,x1.2.1⟩:Mt) x2).bind λv4=>
 bif (decide (0≤x1.1)&&decide (x1.1<((((wr ((wr (x2+1))*v1.cols)).toNat - (wr (x2*v1.cols)).toNat):Nat):Int))) then
 ((x1.2.1[((0+(wr (x2*v1.cols)).toNat)+x1.1.toNat)]?).bind λv5=>
 bif decide (v5=0) then
 (some (.inl (wr (x2+1))))
 else
 (some (.inr x2))
 )
 else none)
 else
 (some (.inr x2))
def wR (v1:Mt) (x1:(Int×(List Int)×(List Int))) (y8:Int) (x3:((List Int)×Int)):Option (((List Int)×Int) ⊕ (List Int)):=
 bif decide (x3.2<v1.cols) then
 ((dK (⟨v1.rows,v1.cols,x3.1⟩:Mt) y8).bind λv12=>
 (dK (⟨v1.rows,v1.cols,x3.1⟩:Mt) y8).bind λv13=>
 bif (decide (0≤x3.2)&&decide (x3.2<((((wr ((wr (y8+1))*v1.cols)).toNat - (wr (y8*v1.cols)).toNat):Nat):Int))) then
 ((x3.1[((0+(wr (y8*v1.cols)).toNat)+x3.2.toNat)]?).bind λv14=>
 bif (decide (0≤x3.2)&&decide (x3.2<((((wr ((wr (((x1.2.2.length:Nat):Int)+1))*v1.cols)).toNat - (wr (((x1.2.2.length:Nat):Int)*v1.cols)).toNat):Nat):Int))) then
 ((x3.1[((0+(wr (((x1.2.2.length:Nat):Int)*v1.cols)).toNat)+x3.2.toNat)]?).bind λv16=>
 bif (decide (0≤x3.2)&&decide (x3.2<((((wr ((wr (((x1.2.2.length:Nat):Int)+1))*v1.cols)).toNat - (wr (((x1.2.2.length:Nat):Int)*v1.cols)).toNat):Nat):Int))) then
 ((x3.1[((0+(wr (((x1.2.2.length:Nat):Int)*v1.cols)).toNat)+x3.2.toNat)]?).bind λv18=>
 bif (decide (0≤x3.2)&&decide (x3.2<((((wr ((wr (y8+1))*v1.cols)).toNat - (wr (y8*v1.cols)).toNat):Nat):Int))) then
 (((x3.1.set ((0+(wr (((x1.2.2.length:Nat):Int)*v1.cols)).toNat)+x3.2.toNat) v14)[((0+(wr (y8*v1.cols)).toNat)+x3.2.toNat)]?).bind λv20=>
 some (.inl (((x3.1.set ((0+(wr (((x1.2.2.length:Nat):Int)*v1.cols)).toNat)+x3.2.toNat) v14).set ((0+(wr (y8*v1.cols)).toNat)+x3.2.toNat) v16),wr (x3.2+1)))
 )
 else none
 )
 else none
 )
 else none
 )
 else none)
 else
 (some (.inr x3.1))
def wS (a0:Int) (v1:Mt) (v25:Int) (x1:(Int×(List Int)×(List Int))) (x4:((List Int)×Int)):Option (((List Int)×Int) ⊕ (List Int)):=
 bif decide (x4.2<((((wr ((wr (((x1.2.2.length:Nat):Int)+1))*v1.cols)).toNat - (wr (((x1.2.2.length:Nat):Int)*v1.cols)).toNat):Nat):Int)) then
 (bif (decide (0≤x4.2)&&decide (x4.2<((((wr ((wr (((x1.2.2.length:Nat):Int)+1))*v1.cols)).toNat - (wr (((x1.2.2.length:Nat):Int)*v1.cols)).toNat):Nat):Int))) then
 ((x4.1[((0+(wr (((x1.2.2.length:Nat):Int)*v1.cols)).toNat)+x4.2.toNat)]?).bind λv27=>
 bif !decide (a0=0) then
 (bif (decide (0≤x4.2)&&decide (x4.2<((((wr ((wr (((x1.2.2.length:Nat):Int)+1))*v1.cols)).toNat - (wr (((x1.2.2.length:Nat):Int)*v1.cols)).toNat):Nat):Int))) then
 ((x4.1[((0+(wr (((x1.2.2.length:Nat):Int)*v1.cols)).toNat)+x4.2.toNat)]?).bind λv29=>
 some (.inl ((x4.1.set ((0+(wr (((x1.2.2.length:Nat):Int)*v1.cols)).toNat)+x4.2.toNat) ((wr (v27*v25)).tmod a0)),wr (x4.2+1)))
 )
 else none)
 else none
 )
 else none)
 else
 (some (.inr x4.1))
def wT (a0:Int) (v1:Mt) (x1:(Int×(List Int)×(List Int))) (x5:((List Int)×Int)):Option (((List Int)×Int) ⊕ (List Int)):=
 bif decide (x5.2<v1.rows) then
 (bif !decide (x5.2=((x1.2.2.length:Nat):Int)) then
 ((dK (⟨v1.rows,v1.cols,x5.1⟩:Mt) x5.2).bind λv35=>
 (dK (⟨v1.rows,v1.cols,x5.1⟩:Mt) x5.2).bind λv36=>
 bif (decide (0≤x1.1)&&decide (x1.1<((((wr ((wr (x5.2+1))*v1.cols)).toNat - (wr (x5.2*v1.cols)).toNat):Nat):Int))) then
 ((x5.1[((0+(wr (x5.2*v1.cols)).toNat)+x1.1.toNat)]?).bind λv37=>
 (lU a0 x5.1 (0+(wr (x5.2*v1.cols)).toNat) ((wr ((wr (x5.2+1))*v1.cols)).toNat - (wr (x5.2*v1.cols)).toNat) (wr (a0 - v37)) (0+(wr (((x1.2.2.length:Nat):Int)*v1.cols)).toNat) ((wr ((wr (((x1.2.2.length:Nat):Int)+1))*v1.cols)).toNat - (wr (((x1.2.2.length:Nat):Int)*v1.cols)).toNat)).bind λv39=>
 bif decide (v39.length=x5.1.length) then
 (some (.inl (v39,wr (x5.2+1))))
 else none
 )
 else none)
 else
 (some (.inl (x5.1,wr (x5.2+1)))))
 else
 (some (.inr x5.1))
def rO (a0:Int) (v1:Mt) (x1:(Int×(List Int)×(List Int))):Option ((Int×(List Int)×(List Int)) ⊕ ((List Int)×(List Int))):=
 bif decide (x1.1<v1.cols) then
 ((Lp (rN v1 x1) ((x1.2.2.length:Nat):Int)).bind λy8=>
 bif decide (y8=v1.rows) then
 (some (.inl (wr (x1.1+1),x1.2.1,x1.2.2)))
 else
 ((dK (⟨v1.rows,v1.cols,x1.2.1⟩:Mt) ((x1.2.2.length:Nat):Int)).bind λv10=>
 (Lp (wR v1 x1 y8) (x1.2.1,0)).bind λy22=>
 bif (decide (0≤x1.1)&&decide (x1.1<((((wr ((wr (((x1.2.2.length:Nat):Int)+1))*v1.cols)).toNat - (wr (((x1.2.2.length:Nat):Int)*v1.cols)).toNat):Nat):Int))) then
 ((y22[((0+(wr (((x1.2.2.length:Nat):Int)*v1.cols)).toNat)+x1.1.toNat)]?).bind λv23=>
 (uY a0 v23).bind λv25=>
 (Lp (wS a0 v1 v25 x1) (y22,0)).bind λy32=>
 (Lp (wT a0 v1 x1) (y32,0)).bind λy41=>
 bif decide (x1.2.2.length+[x1.1].length ≤4294967296) then
 (some (.inl (wr (x1.1+1),y41,(x1.2.2++[x1.1]))))
 else none
 )
 else none))
 else
 (some (.inr (x1.2.1,x1.2.2)))
def uC (a0:Int) (a1:Mt):Option (Mt×(List Int)):=
 (mQ a1).bind λv1=>
 (Lp (rO a0 v1) (0,v1.cells,[])).bind λy43=>
 some (((⟨v1.rows,v1.cols,y43.1⟩:Mt),y43.2))
theorem aET (a0:Int) (a1:Mt) (r:(Mt×(List Int))) (h:uC a0 a1=some r):HasC Tryz.prog 222 [.int a0,.agg (eM a1)] (.tuple [.agg (eM r.1),.list 1 (r.2.map eI)]):=by
 refine hM [.cell 4 113,.tmp 5] Tryz.func222 Tryz.ntmps222 k<|sR<|ae (wb k) k<|ae (bP aJ k k) k<|aT k2<|sR<|lp k8<|oB h λv1 hv1 h=>ae (cM (aDB a1 v1 hv1) k3 (aH (dI k) aI)) k<|ae (ws k) k<|an<|tn<|sR<|aT k2<|sQ<|sR<|fp k8<|lp k8<|am k k<|an<|tn<|aC<|oB h λy43 hy43 h=>bX (body:=(rO a0 v1)) hy43 (λ(x1:(Int×(List Int)×(List Int)))=>mN [(0,.int a0),(3,.ptr 0 0 0),(4,.ptr 2 0 0),(6,.own 3 0 x1.2.2.length),(17,.int v1.cols),(18,.int x1.1)] [(0,⟨3,[[.int v1.rows,.int v1.cols,.own 1 0 x1.2.1.length]]⟩),(1,⟨1,x1.2.1.map (ow eI)⟩),(2,⟨3,[fB]⟩),(3,⟨1,x1.2.2.map (ow eI)⟩)] 4) (λr e t=>e= .exit 0∧Ent t (mN [(3,.ptr 0 0 0),(4,.ptr 2 0 0),(6,.own 3 0 r.2.length)] [(0,⟨3,[[.int v1.rows,.int v1.cols,.own 1 0 r.1.length]]⟩),(1,⟨1,r.1.map (ow eI)⟩),(2,⟨3,[fB]⟩),(3,⟨1,r.2.map (ow eI)⟩)] 4)) (eJ (σ:=sg [(0,0),(1,2),(2,1)]) (iU 3 k2 (gK ⟨_,k,⟨k,k,k,k⟩⟩ (bJ k2))) (cP k<|bG k<|bA k<|hX k k<|aS) k) ?_ ?_
 ·intro x1 o h;refine sR<|cm k4<|an<|tn<|sQ<|cV k h (λ_ h=>?_) λ_ h=>aW<|aA<|aA<|sp h ⟨_,k,k,(bT (bJ k2) (cP k<|bG k<|bA k<|bG k<|aS) k4)⟩;refine aG<|tn<|sQ<|aC<|sR<|am k k<|aT k2<|sR<|am k k<|ae (cF aJ k k k k) k<|aT k2<|sQ<|aC<|oB h λy8 hy8 h=>bX (body:=(rN v1 x1)) hy8 (λ(x2:Int)=>mN [(0,.int a0),(3,.ptr 0 0 0),(4,.ptr 2 0 0),(6,.own 3 0 x1.2.2.length),(7,.int x1.1),(8,.int x2),(17,.int v1.cols),(18,.int x1.1)] [(0,⟨3,[[.int v1.rows,.int v1.cols,.own 1 0 x1.2.1.length]]⟩),(1,⟨1,x1.2.1.map (ow eI)⟩),(2,⟨3,[fB]⟩),(3,⟨1,x1.2.2.map (ow eI)⟩)] 4) (λr e t=>e= .exit 2∧Ent t (mN [(0,.int a0),(3,.ptr 0 0 0),(4,.ptr 2 0 0),(6,.own 3 0 x1.2.2.length),(7,.int x1.1),(8,.int r),(17,.int v1.cols),(18,.int x1.1)] [(0,⟨3,[[.int v1.rows,.int v1.cols,.own 1 0 x1.2.1.length]]⟩),(1,⟨1,x1.2.1.map (ow eI)⟩),(2,⟨3,[fB]⟩),(3,⟨1,x1.2.2.map (ow eI)⟩)] 4)) (bT (bJ k2) (cP k<|bG k<|bA k<|bG k<|aS) k4) ?_ ?_
  ·intro x2 o h;exact sQ<|sR<|am k k<|fp k8<|lp k8<|cm k4<|am k k<|mG h (λq3 h=>aM 27 k q3<|lp k8<|am k k<|oB h λv4 hv4 h=>ae (AEff.pureE (nR (σ:=sg [(0,1)]) (σ':=sg [(1,0)]) (touch:=[1]) (news:=[]) (nP:=[(1,⟨1,x1.2.1.map (ow eI)⟩)]) (n':=4) (r2:= .own 1 (0+(wr (x2*v1.cols)).toNat) ((wr ((wr (x2+1))*v1.cols)).toNat - (wr (x2*v1.cols)).toNat)) (fJ (⟨v1.rows,v1.cols,x1.2.1⟩:Mt) x2 v4 hv4) k k ⟨_,_,k,⟨_,_,k,k,⟨_,_,k,k,⟨_,_,k,⟨k,k,k,k⟩,k⟩⟩⟩,⟨_,_,k,k,k⟩⟩ ⟨⟨_,k,k,.inl ⟨k,cX.plainO _⟩⟩,k,aS⟩ k k k ⟨⟨_,k,k,.inl ⟨k,cX.plainO _⟩⟩,k,aS⟩ k ⟨k,k,(by simp only [aQ,lA,lT,lR,lC,lN]),k⟩ k ⟨k,cX.tame _ _,aS⟩ k k) ⟨k,k,aS⟩) k<|am k k<|cG h λq6 h=>oB h λv5 hv5 h=>ae (iX aJ q6 k k k k k k k) k<|ae (eK aJ k k k k (aAJ (hv5)) k k) k<|cm k4<|pk k3<|an<|tn<|cV k h (λ_ h=>aG<|tn<|aC<|rg<|am k k<|ae (bB k k) k<|aa k k<|an<|aU<|tn<|sp h ⟨_,k,(bT (bJ k2) (cP k<|bG k<|bA k<|bG k<|aS) k4)⟩) λ_ h=>aW<|aA<|aA<|sp h ⟨_,k,k,(bT (bJ k2) (cP k<|bG k<|bA k<|bG k<|aS) k4)⟩) λq3 h=>aM 27 k q3<|aK k4<|aK k4<|aK k4<|ak k k<|pk k3<|an<|tn<|vV k k<|aW<|aA<|aA<|sp h ⟨_,k,k,(bT (bJ k2) (cP k<|bG k<|bA k<|bG k<|aS) k4)⟩
  ·rintro e t ⟨rfl,hent⟩;refine aN<|tn<|aL hent<|sQ<|sR<|am k k<|fp k8<|lp k8<|cm k4<|an<|tn<|cV k h (λ_ h=>aW<|aA<|aN<|tn<|rg<|ae (bB k k) k<|am k k<|an<|tn<|sp h ⟨_,k,(bT (bJ k2) (cP k<|bG k<|bA k<|bG k<|aS) k4)⟩) λ_ h=>?_;refine aG<|tn<|sR<|lp k8<|am k k<|ae (cF aJ k k k k) k<|oB h λv10 hv10 h=>ae (AEff.pureE (nR (σ:=sg [(0,1)]) (σ':=sg [(1,0)]) (touch:=[1]) (news:=[]) (nP:=[(1,⟨1,x1.2.1.map (ow eI)⟩)]) (n':=4) (r2:= .own 1 (0+(wr (((x1.2.2.length:Nat):Int)*v1.cols)).toNat) ((wr ((wr (((x1.2.2.length:Nat):Int)+1))*v1.cols)).toNat - (wr (((x1.2.2.length:Nat):Int)*v1.cols)).toNat)) (fJ (⟨v1.rows,v1.cols,x1.2.1⟩:Mt) ((x1.2.2.length:Nat):Int) v10 hv10) k k ⟨_,_,k,⟨_,_,k,k,⟨_,_,k,k,⟨_,_,k,⟨k,k,k,k⟩,k⟩⟩⟩,⟨_,_,k,k,k⟩⟩ ⟨⟨_,k,k,.inl ⟨k,cX.plainO _⟩⟩,k,aS⟩ k k k ⟨⟨_,k,k,.inl ⟨k,cX.plainO _⟩⟩,k,aS⟩ k ⟨k,k,(by simp only [aQ,lA,lT,lR,lC,lN]),k⟩ k ⟨k,cX.tame _ _,aS⟩ k k) ⟨k,k,aS⟩) k<|aT k2<|sQ<|sR<|fp k8<|lp k8<|am k k<|an<|tn<|aC<|oB h λy22 hy22 h=>bX (body:=(wR v1 x1 y8)) hy22 (λ(x3:((List Int)×Int))=>mN [(0,.int a0),(3,.ptr 0 0 0),(4,.ptr 2 0 0),(6,.own 3 0 x1.2.2.length),(7,.int x1.1),(8,.int y8),(9,.own 1 (0+(wr (((x1.2.2.length:Nat):Int)*v1.cols)).toNat) ((wr ((wr (((x1.2.2.length:Nat):Int)+1))*v1.cols)).toNat - (wr (((x1.2.2.length:Nat):Int)*v1.cols)).toNat)),(17,.int v1.cols),(18,.int x1.1),(47,.int v1.cols),(48,.int x3.2)] [(0,⟨3,[[.int v1.rows,.int v1.cols,.own 1 0 x3.1.length]]⟩),(1,⟨1,x3.1.map (ow eI)⟩),(2,⟨3,[fB]⟩),(3,⟨1,x1.2.2.map (ow eI)⟩)] 4) (λr e t=>e= .exit 4∧Ent t (mN [(0,.int a0),(3,.ptr 0 0 0),(4,.ptr 2 0 0),(6,.own 3 0 x1.2.2.length),(7,.int x1.1),(9,.own 1 (0+(wr (((x1.2.2.length:Nat):Int)*v1.cols)).toNat) ((wr ((wr (((x1.2.2.length:Nat):Int)+1))*v1.cols)).toNat - (wr (((x1.2.2.length:Nat):Int)*v1.cols)).toNat)),(17,.int v1.cols),(18,.int x1.1)] [(0,⟨3,[[.int v1.rows,.int v1.cols,.own 1 0 r.length]]⟩),(1,⟨1,r.map (ow eI)⟩),(2,⟨3,[fB]⟩),(3,⟨1,x1.2.2.map (ow eI)⟩)] 4)) (bT (bJ k2) (cP k<|bG k<|bA k<|bG k<|aS) k4) ?_ ?_
   ·intro x3 o h;refine sR<|cm k4<|an<|tn<|sQ<|cV k h (λ_ h=>?_) λ_ h=>aW<|aA<|aA<|sp h ⟨_,k,k,(bT (bJ k2) (cP k<|bG k<|bA k<|bG k<|aS) k4)⟩;refine aG<|tn<|sQ<|aC<|sR<|am k k<|aT k2<|aP eG<|am k k<|am k k<|lp k8<|am k k<|oB h λv12 hv12 h=>ae (AEff.pureE (nR (σ:=sg [(0,1)]) (σ':=sg [(1,0)]) (touch:=[1]) (news:=[]) (nP:=[(1,⟨1,x3.1.map (ow eI)⟩)]) (n':=4) (r2:= .own 1 (0+(wr (y8*v1.cols)).toNat) ((wr ((wr (y8+1))*v1.cols)).toNat - (wr (y8*v1.cols)).toNat)) (fJ (⟨v1.rows,v1.cols,x3.1⟩:Mt) y8 v12 hv12) k k ⟨_,_,k,⟨_,_,k,k,⟨_,_,k,k,⟨_,_,k,⟨k,k,k,k⟩,k⟩⟩⟩,⟨_,_,k,k,k⟩⟩ ⟨⟨_,k,k,.inl ⟨k,cX.plainO _⟩⟩,k,aS⟩ k k k ⟨⟨_,k,k,.inl ⟨k,cX.plainO _⟩⟩,k,aS⟩ k ⟨k,k,(by simp only [aQ,lA,lT,lR,lC,lN]),k⟩ k ⟨k,cX.tame _ _,aS⟩ k k) ⟨k,k,aS⟩) k<|am k k<|lp k8<|am k k<|oB h λv13 hv13 h=>ae (AEff.pureE (nR (σ:=sg [(0,1)]) (σ':=sg [(1,0)]) (touch:=[1]) (news:=[]) (nP:=[(1,⟨1,x3.1.map (ow eI)⟩)]) (n':=4) (r2:= .own 1 (0+(wr (y8*v1.cols)).toNat) ((wr ((wr (y8+1))*v1.cols)).toNat - (wr (y8*v1.cols)).toNat)) (fJ (⟨v1.rows,v1.cols,x3.1⟩:Mt) y8 v13 hv13) k k ⟨_,_,k,⟨_,_,k,k,⟨_,_,k,k,⟨_,_,k,⟨k,k,k,k⟩,k⟩⟩⟩,⟨_,_,k,k,k⟩⟩ ⟨⟨_,k,k,.inl ⟨k,cX.plainO _⟩⟩,k,aS⟩ k k k ⟨⟨_,k,k,.inl ⟨k,cX.plainO _⟩⟩,k,aS⟩ k ⟨k,k,(by simp only [aQ,lA,lT,lR,lC,lN]),k⟩ k ⟨k,cX.tame _ _,aS⟩ k k) ⟨k,k,aS⟩) k<|am k k<|cG h λq15 h=>oB h λv14 hv14 h=>ae (iX aJ q15 k k k k k k k) k<|ae (eK aJ k k k k (aAJ (hv14)) k k) k<|am k k<|am k k<|cG h λq17 h=>oB h λv16 hv16 h=>ae (iX aJ q17 k k k k k k k) k<|ae (eK aJ k k k k (aAJ (hv16)) k k) k<|cG h λq19 h=>oB h λv18 hv18 h=>ae (iX aJ q19 k k k k k k k) k<|ae (fG aJ jG (u:=v14) (hv18) k k k k k k) k ?_;exact cG h λq21 h=>oB h λv20 hv20 h=>ae (iX aJ q21 k k k k k k k) k<|ae (fG aJ jG (u:=v16) (hv20) k k k k k k) k<|an<|lB (by kernel_rfl)<|aU<|tn<|rg<|ae (bB k k) k<|am k k<|an<|tn<|sp h ⟨_,k,(bT (bJ k2) (hX ⟨_,k,k,.inr ⟨_,_,k,⟨_,_,k,k,⟨_,_,k,k,⟨_,_,k,⟨k,k,(by simp only [aQ,lA,lT,lR,lC,lN]),k⟩,k⟩⟩⟩,k⟩⟩ k<|bG k<|bA k<|bG k<|aS) k4)⟩
   ·rintro e t ⟨rfl,hent⟩;refine aN<|tn<|aL hent<|sR<|am k k<|am k k<|am k k<|cG h λq24 h=>oB h λv23 hv23 h=>ae (iX aJ q24 k k k k k k k) k<|ae (eK aJ k k k k (aAJ (hv23)) k k) k<|oB h λv25 hv25 h=>ae (aO (aJA a0 v23 v25 hv25) k (cC k (cC k aI))) k<|aT k2<|sQ<|sR<|am k k<|ae (cF aJ k k k k) k<|am k k<|an<|tn<|aC<|oB h λy32 hy32 h=>bX (body:=(wS a0 v1 v25 x1)) hy32 (λ(x4:((List Int)×Int))=>mN [(0,.int a0),(3,.ptr 0 0 0),(4,.ptr 2 0 0),(6,.own 3 0 x1.2.2.length),(7,.int x1.1),(9,.own 1 (0+(wr (((x1.2.2.length:Nat):Int)*v1.cols)).toNat) ((wr ((wr (((x1.2.2.length:Nat):Int)+1))*v1.cols)).toNat - (wr (((x1.2.2.length:Nat):Int)*v1.cols)).toNat)),(11,.int v25),(17,.int v1.cols),(18,.int x1.1),(77,.int ((((wr ((wr (((x1.2.2.length:Nat):Int)+1))*v1.cols)).toNat - (wr (((x1.2.2.length:Nat):Int)*v1.cols)).toNat):Nat):Int)),(78,.int x4.2)] [(0,⟨3,[[.int v1.rows,.int v1.cols,.own 1 0 x4.1.length]]⟩),(1,⟨1,x4.1.map (ow eI)⟩),(2,⟨3,[fB]⟩),(3,⟨1,x1.2.2.map (ow eI)⟩)] 4) (λr e t=>e= .exit 6∧Ent t (mN [(0,.int a0),(3,.ptr 0 0 0),(4,.ptr 2 0 0),(6,.own 3 0 x1.2.2.length),(7,.int x1.1),(9,.own 1 (0+(wr (((x1.2.2.length:Nat):Int)*v1.cols)).toNat) ((wr ((wr (((x1.2.2.length:Nat):Int)+1))*v1.cols)).toNat - (wr (((x1.2.2.length:Nat):Int)*v1.cols)).toNat)),(17,.int v1.cols),(18,.int x1.1)] [(0,⟨3,[[.int v1.rows,.int v1.cols,.own 1 0 r.length]]⟩),(1,⟨1,r.map (ow eI)⟩),(2,⟨3,[fB]⟩),(3,⟨1,x1.2.2.map (ow eI)⟩)] 4)) (bT (bJ k2) (cP k<|bG k<|bA k<|bG k<|aS) k4) ?_ ?_
    ·intro x4 o h;refine sR<|cm k4<|an<|tn<|sQ<|cV k h (λ_ h=>?_) λ_ h=>aW<|aA<|aA<|sp h ⟨_,k,k,(bT (bJ k2) (cP k<|bG k<|bA k<|bG k<|aS) k4)⟩;refine aG<|tn<|sQ<|aC<|sR<|am k k<|aT k2<|rg<|am k k<|am k k<|am k k<|am k k<|cG h λq28 h=>oB h λv27 hv27 h=>ae (iX aJ q28 k k k k k k k) k<|ae (eK aJ k k k k (aAJ (hv27)) k k) k<|am k k<|ae (fC k k) k<|am k k<|cG h λq31 h=>ae (aGI k k q31) k<|cG h λq30 h=>oB h λv29 hv29 h=>ae (iX aJ q30 k k k k k k k) k<|ae (fG aJ jG (u:=(wr (v27*v25)).tmod a0) (hv29) k k k k k k) k<|an<|aU<|tn<|rg<|ae (bB k k) k<|am k k ?_;exact an<|tn<|sp h ⟨_,k,(bT (bJ k2) (hX ⟨_,k,k,.inr ⟨_,_,k,⟨_,_,k,k,⟨_,_,k,k,⟨_,_,k,⟨k,k,(by simp only [aQ,lA,lT,lR,lC,lN]),k⟩,k⟩⟩⟩,k⟩⟩ k<|bG k<|bA k<|bG k<|aS) k4)⟩
    ·rintro e t ⟨rfl,hent⟩;refine aN<|tn<|aL hent<|sQ<|sR<|fp k8<|lp k8<|am k k<|an<|tn<|aC<|oB h λy41 hy41 h=>bX (body:=(wT a0 v1 x1)) hy41 (λ(x5:((List Int)×Int))=>mN [(0,.int a0),(3,.ptr 0 0 0),(4,.ptr 2 0 0),(6,.own 3 0 x1.2.2.length),(7,.int x1.1),(9,.own 1 (0+(wr (((x1.2.2.length:Nat):Int)*v1.cols)).toNat) ((wr ((wr (((x1.2.2.length:Nat):Int)+1))*v1.cols)).toNat - (wr (((x1.2.2.length:Nat):Int)*v1.cols)).toNat)),(17,.int v1.cols),(18,.int x1.1),(94,.int v1.rows),(95,.int x5.2)] [(0,⟨3,[[.int v1.rows,.int v1.cols,.own 1 0 x5.1.length]]⟩),(1,⟨1,x5.1.map (ow eI)⟩),(2,⟨3,[fB]⟩),(3,⟨1,x1.2.2.map (ow eI)⟩)] 4) (λr e t=>e= .exit 8∧Ent t (mN [(0,.int a0),(3,.ptr 0 0 0),(4,.ptr 2 0 0),(6,.own 3 0 x1.2.2.length),(7,.int x1.1),(17,.int v1.cols),(18,.int x1.1)] [(0,⟨3,[[.int v1.rows,.int v1.cols,.own 1 0 r.length]]⟩),(1,⟨1,r.map (ow eI)⟩),(2,⟨3,[fB]⟩),(3,⟨1,x1.2.2.map (ow eI)⟩)] 4)) (bT (bJ k2) (cP k<|bG k<|bA k<|bG k<|aS) k4) ?_ ?_
     ·intro x5 o h;refine sR<|cm k4<|an<|tn<|sQ<|cV k h (λ_ h=>?_) λ_ h=>aW<|aA<|aA<|sp h ⟨_,k,k,(bT (bJ k2) (cP k<|bG k<|bA k<|bG k<|aS) k4)⟩;refine aG<|tn<|sQ<|aC<|sR<|am k k<|aT k2<|sR<|am k k<|am k k<|ae (cF aJ k k k k) k<|cm k4<|an<|tn<|cV k h (λ_ h=>?_) λ_ h=>aG<|aU<|tn<|rg<|ae (bB k k) k<|am k k<|an<|tn<|sp h ⟨_,k,(bT (bJ k2) (cP k<|bG k<|bA k<|bG k<|aS) k4)⟩;exact aP eG<|am k k<|lp k8<|am k k<|oB h λv35 hv35 h=>ae (AEff.pureE (nR (σ:=sg [(0,1)]) (σ':=sg [(1,0)]) (touch:=[1]) (news:=[]) (nP:=[(1,⟨1,x5.1.map (ow eI)⟩)]) (n':=4) (r2:= .own 1 (0+(wr (x5.2*v1.cols)).toNat) ((wr ((wr (x5.2+1))*v1.cols)).toNat - (wr (x5.2*v1.cols)).toNat)) (fJ (⟨v1.rows,v1.cols,x5.1⟩:Mt) x5.2 v35 hv35) k k ⟨_,_,k,⟨_,_,k,k,⟨_,_,k,k,⟨_,_,k,⟨k,k,k,k⟩,k⟩⟩⟩,⟨_,_,k,k,k⟩⟩ ⟨⟨_,k,k,.inl ⟨k,cX.plainO _⟩⟩,k,aS⟩ k k k ⟨⟨_,k,k,.inl ⟨k,cX.plainO _⟩⟩,k,aS⟩ k ⟨k,k,(by simp only [aQ,lA,lT,lR,lC,lN]),k⟩ k ⟨k,cX.tame _ _,aS⟩ k k) ⟨k,k,aS⟩) k<|am k k<|lp k8<|am k k<|oB h λv36 hv36 h=>ae (AEff.pureE (nR (σ:=sg [(0,1)]) (σ':=sg [(1,0)]) (touch:=[1]) (news:=[]) (nP:=[(1,⟨1,x5.1.map (ow eI)⟩)]) (n':=4) (r2:= .own 1 (0+(wr (x5.2*v1.cols)).toNat) ((wr ((wr (x5.2+1))*v1.cols)).toNat - (wr (x5.2*v1.cols)).toNat)) (fJ (⟨v1.rows,v1.cols,x5.1⟩:Mt) x5.2 v36 hv36) k k ⟨_,_,k,⟨_,_,k,k,⟨_,_,k,k,⟨_,_,k,⟨k,k,k,k⟩,k⟩⟩⟩,⟨_,_,k,k,k⟩⟩ ⟨⟨_,k,k,.inl ⟨k,cX.plainO _⟩⟩,k,aS⟩ k k k ⟨⟨_,k,k,.inl ⟨k,cX.plainO _⟩⟩,k,aS⟩ k ⟨k,k,(by simp only [aQ,lA,lT,lR,lC,lN]),k⟩ k ⟨k,cX.tame _ _,aS⟩ k k) ⟨k,k,aS⟩) k<|am k k<|cG h λq38 h=>oB h λv37 hv37 h=>ae (iX aJ q38 k k k k k k k) k<|ae (eK aJ k k k k (aAJ (hv37)) k k) k<|ae (jL k k) k<|am k k<|oB h λv39 hv39 h=>ae (nR (σ:=sg [(0,1)]) (σ':=sg [(1,0)]) (touch:=[1]) (news:=[]) (nP:=[(1,⟨1,v39.map (ow eI)⟩)]) (n':=4) (r2:= .own 1 (0+(wr (x5.2*v1.cols)).toNat) ((wr ((wr (x5.2+1))*v1.cols)).toNat - (wr (x5.2*v1.cols)).toNat)) (aEp a0 x5.1 (0+(wr (x5.2*v1.cols)).toNat) ((wr ((wr (x5.2+1))*v1.cols)).toNat - (wr (x5.2*v1.cols)).toNat) (wr (a0 - v37)) (0+(wr (((x1.2.2.length:Nat):Int)*v1.cols)).toNat) ((wr ((wr (((x1.2.2.length:Nat):Int)+1))*v1.cols)).toNat - (wr (((x1.2.2.length:Nat):Int)*v1.cols)).toNat) v39 hv39) k k ⟨_,_,k,k,⟨_,_,k,⟨k,k,k,k⟩,⟨_,_,k,k,⟨_,_,k,⟨k,k,k,k⟩,k⟩⟩⟩⟩ ⟨⟨_,k,k,.inl ⟨k,cX.plainO _⟩⟩,k,aS⟩ k k k ⟨⟨_,k,k,.inl ⟨k,cX.plainO _⟩⟩,k,aS⟩ k ⟨k,k,(by simp only [aQ,lA,lT,lR,lC,lN]),k⟩ k ⟨k,cX.tame _ _,aS⟩ k k) k<|cG h λq40 h=>an<|lB (by kernel_rfl)<|aU<|tn<|rg<|ae (bB k k) k<|am k k<|an<|tn<|sp h ⟨_,k,(bT (bJ k2) (hX ⟨_,k,k,.inr ⟨_,_,k,⟨_,_,k,k,⟨_,_,k,k,⟨_,_,k,⟨k,k,(by simp only [aQ,lA,lT,lR,lC,lN,of_decide_eq_true q40]),k⟩,k⟩⟩⟩,k⟩⟩ k<|bG k<|bA k<|bG k<|aS) k4)⟩
     ·rintro e t ⟨rfl,hent⟩;exact aN<|tn<|aL hent<|rg<|am k k<|am k k<|ae (wl k) k<|cG h λq42 h=>ae (mP aJ (l:=x1.2.2) (m:=[x1.1]) jG q42 k k k k k k k k k k k k) k<|aa k k<|an<|aU<|tn<|rg<|ae (bB k k) k<|am k k<|an<|tn<|sp h ⟨_,k,(kC [0,1,2,5] (bJ k2) (cP k<|bG k<|bA k<|bG k<|aS) k4)⟩
 ·rintro e t ⟨rfl,hent⟩;exact aN<|tn<|aL hent<|sR<|lp k8<|am k k<|ae (ws k) k<|aT k2<|aD<|sp h (bK k k k (dG k (bY (rI (aY (k) (aY (k) (aY (dE cX k k) fA)))) (bY (jM (dE cX k k)) gN))))
def aCX (a0:Int) (a1:Mt):Option Int:=
 (uC a0 a1).bind λv1=>
 some (((v1.2.length:Nat):Int))
theorem aKn (a0:Int) (a1:Mt) (r:Int) (h:aCX a0 a1=some r):HasC Tryz.prog 169 [.int a0,.agg (eM a1)] (.int r):=by
 exact hM [.tmp 4] Tryz.func169 Tryz.ntmps169 k<|sR<|ae (wb k) k<|aT k2<|sR<|am k k<|lp k8<|oB h λv1 hv1 h=>ae (AEff.conv (jK (x:= .tuple [.agg [.int v1.1.rows,.int v1.1.cols,.own 1 0 (v1.1.cells.map eI).length],.own 2 0 (v1.2.map eI).length]) (nb:=[(1,⟨1,cY (v1.1.cells.map eI)⟩),(2,⟨1,cY (v1.2.map eI)⟩)]) (aET a0 a1 v1 hv1) k (by rfl) k k (dV (cB aS (cB aS (cB (cX.good _) qF))) (dV (cX.good _) uL)) (cC k (aH (dI k) aI))) (v':= .tuple [.agg [.int v1.1.rows,.int v1.1.cols,.own 1 0 v1.1.cells.length],.own 2 0 v1.2.length]) (ed':=[(1,some ⟨1,v1.1.cells.map (ow eI)⟩),(2,some ⟨1,v1.2.map (ow eI)⟩)]) (by simp only [aQ]) (uW (nb':=[(1,⟨1,v1.1.cells.map (ow eI)⟩),(2,⟨1,v1.2.map (ow eI)⟩)]) (by simp only [gU]))) k<|am k k<|ae (bW k k (by intro _ h;cases h)) k<|ae (bW k k (by intro _ h;cases h)) k<|ae (bP aJ k k) k<|ae (ws k) k<|aT k2<|sR<|am k k<|ae (cF aJ k k k k) k<|aT k2<|aD<|qD h k2
def vY (a0:Rp) (a1:Rp):Option Bool:=
 (sE a0).bind λv1=>
 bif v1 then
 ((sE a1).bind λv3=>
 bif v3 then
 (bif decide (a0.p=a1.p) then
 ((qS a0.q a1.q).bind λv6=>
 some (v6))
 else
 (some (false)))
 else
 (some (false)))
 else
 (some (false))
theorem aIE (a0:Rp) (a1:Rp) (r:Bool) (h:vY a0 a1=some r):HasC Tryz.prog 61 [.agg (eR a0),.agg (eR a1)] (.bl r):=by
 exact hM [.tmp 4] Tryz.func61 Tryz.ntmps61 k<|sR<|ae (wb k) k<|ae (wb k) k<|aT k2<|sR<|lp k8<|oB h λv1 hv1 h=>ae (aO (aDH a0 v1 hv1) k (aH (dI k) aI)) k<|am k k<|mG h (λq2 h=>aM 7 k q2<|lp k8<|oB h λv3 hv3 h=>ae (aO (aDH a1 v3 hv3) k (aH (dI k) aI)) k<|pk k3<|am k k<|mG h (λq4 h=>aM 11 k q4<|fp k8<|lp k8<|fp k8<|lp k8<|cm k4<|pk k3<|am k k<|mG h (λq5 h=>aM 18 k q5<|fp k8<|lp k8<|fp k8<|lp k8<|oB h λv6 hv6 h=>ae (aO (aHP a0.q a1.q v6 hv6) k (aH (dI k) (aH (dI k) aI))) k<|pk k3<|aT k2<|aD<|gJ h k2) λq5 h=>aM 18 k q5<|aK k4<|aK k4<|ak k k<|pk k3<|aT k2<|aD<|gJ h k2) λq4 h=>aM 11 k q4<|aK k4<|aK k4<|ak k k<|pk k3<|am k k<|aK k4<|aK k4<|ak k k<|pk k3<|aT k2<|aD<|gJ h k2) λq2 h=>aM 7 k q2<|aK k4<|pk k3<|am k k<|aK k4<|aK k4<|ak k k<|pk k3<|am k k<|aK k4<|aK k4<|ak k k<|pk k3<|aT k2<|aD<|gJ h k2
def jE (a0:(List (List Int))) (x1:(Int×Int)):Option ((Int×Int) ⊕ Int):=
 bif decide (x1.2<(a0.length:Int)) then
 ((cJ a0 x1.2).bind λv2=>
 bif decide (wr (x1.1+(v2.length:Int))<0) then
 (none)
 else
 (some (.inl (wr (x1.1+(v2.length:Int)),wr (x1.2+1)))))
 else
 (some (.inr x1.1))
def jF (a0:(List (List Int))) (x2:((List Int)×Int)):Option (((List Int)×Int) ⊕ (List Int)):=
 bif decide (x2.2<(a0.length:Int)) then
 ((cJ a0 x2.2).bind λv7=>
 bif decide (x2.1.length+v7.length≤4294967296) then
 (some (.inl ((x2.1++v7),wr (x2.2+1))))
 else none)
 else
 (some (.inr x2.1))
def kY (a0:(List (List Int))):Option (List Int):=
 (Lp (jE a0) (0,0)).bind λy4=>
 (aSp y4).bind λv5=>
 (Lp (jF a0) (v5,0)).bind λy9=>
 some (y9)
theorem aEU (a0:(List (List Int))) (r:(List Int)) (h:kY a0=some r):HasC Tryz.prog 271 [.list 1 (a0.map (dL 1 eI))] (.list 1 (r.map eI)):=by
 refine hM [.tmp 2] Tryz.func271 Tryz.ntmps271 k<|sR<|aT k2<|sR<|aT k2<|sQ<|sR<|am k k<|ln k4<|am k k<|an<|tn<|aC<|oB h λy4 hy4 h=>bX (body:=(jE a0)) hy4 (λ(x1:(Int×Int))=>mN [(0,.list 1 (a0.map (dL 1 eI))),(3,.int x1.1),(9,.list 1 (a0.map (dL 1 eI))),(10,.int (a0.length:Int)),(11,.int x1.2)] [] 0) (λr e t=>e= .exit 0∧Ent t (mN [(0,.list 1 (a0.map (dL 1 eI))),(3,.int r)] [] 0)) (bT (bJ k2) aS k4) ?_ ?_
 ·intro x1 o h;refine sR<|cm k4<|an<|tn<|sQ<|cV k h (λ_ h=>?_) λ_ h=>aW<|aA<|aA<|sp h ⟨_,k,k,(bT (bJ k2) aS k4)⟩;refine aG<|tn<|sQ<|aC<|sR<|oB h λv2 hv2 h=>ae (xl hv2 k) k<|lr k7<|aT k2<|sR<|am k k<|am k k<|ln k4<|ae (bB k k) k<|aT k2<|sR<|am k k<|cm k4<|an<|tn<|cV k h (λ_ h=>?_) λ_ h=>aG<|aU<|tn<|rg<|ae (bB k k) k<|am k k<|an<|tn<|sp h ⟨_,k,(bT (bJ k2) aS k4)⟩;refine rg ?_;cases h
 ·rintro e t ⟨rfl,hent⟩;refine aN<|tn<|aL hent<|sR<|am k k<|oB h λv5 hv5 h=>ae (cL cX (aZK y4 v5 hv5) k3 (aH aYB (cC k aI))) k<|aT k2<|sQ<|sR<|am k k<|ln k4<|am k k<|an<|tn<|aC<|oB h λy9 hy9 h=>bX (body:=(jF a0)) hy9 (λ(x2:((List Int)×Int))=>mN [(6,.own 0 0 x2.1.length),(25,.list 1 (a0.map (dL 1 eI))),(26,.int (a0.length:Int)),(27,.int x2.2)] [(0,⟨1,x2.1.map (ow eI)⟩)] 1) (λr e t=>e= .exit 2∧Ent t (mN [(6,.own 0 0 r.length)] [(0,⟨1,r.map (ow eI)⟩)] 1)) (bT (bJ k2) (bG k<|aS) k4) ?_ ?_
  ·intro x2 o h;exact sR<|cm k4<|an<|tn<|sQ<|cV k h (λ_ h=>aG<|tn<|sQ<|aC<|sR<|oB h λv7 hv7 h=>ae (xl hv7 k) k<|lr k7<|aT k2<|rg<|am k k<|am k k<|cG h λq8 h=>ae (mP aJ (l:=x2.1) (m:=v7) jG q8 k k k k k k k k k k k k) k<|aa k k<|an<|aU<|tn<|rg<|ae (bB k k) k<|am k k<|an<|tn<|sp h ⟨_,k,(kC [1] (bJ k2) (bG k<|aS) k4)⟩) λ_ h=>aW<|aA<|aA<|sp h ⟨_,k,k,(bT (bJ k2) (bG k<|aS) k4)⟩
  ·rintro e t ⟨rfl,hent⟩;exact aN<|tn<|aL hent<|sR<|am k k<|aT k2<|aD<|sp h (bK k k k (fZ (dE cX k k)))
end
noncomputable section
set_option maxRecDepth 10000
set_option maxHeartbeats 4000000
def qI (a0:(List Int)) (a1:Int):Option Int:=
 bif decide (wr (a1 - (a0.length:Int))<0) then
 (some ((-1)))
 else
 (some (wr (a1 - (a0.length:Int))))
theorem aCH (a0:(List Int)) (a1:Int) (r:Int) (h:qI a0 a1=some r):HasC Tryz.prog 53 [.list 1 (a0.map eI),.int a1] (.int r):=by
 exact hM [.tmp 4] Tryz.func53 Tryz.ntmps53 k<|sR<|aT k2<|sR<|am k k<|am k k<|ln k4<|ae (jL k k) k<|aT k2<|sQ<|sR<|am k k<|cm k4<|an<|tn<|cV k h (λ_ h=>sR<|aT k2<|aD<|aE<|qD h k2) λ_ h=>aG<|tn<|sR<|am k k<|aT k2<|aD<|qD h k2
def aCl (a0:Qv) (a1:Int):Option Int:=
 (qI a0.src a1).bind λv1=>
 bif decide (v1<0) then
 (some ((-1)))
 else
 ((qI a0.tgt v1).bind λv3=>
 bif decide (v3<0) then
 (some ((-1)))
 else
 (some (v3)))
theorem aLH (a0:Qv) (a1:Int) (r:Int) (h:aCl a0 a1=some r):HasC Tryz.prog 52 [.agg (eQ a0),.int a1] (.int r):=by
 exact hM [.tmp 4] Tryz.func52 Tryz.ntmps52 k<|sR<|ae (wb k) k<|aT k2<|sR<|fp k8<|lp k8<|am k k<|oB h λv1 hv1 h=>ae (aO (aCH a0.src a1 v1 hv1) k (cC k (cC k aI))) k<|aT k2<|sQ<|sR<|am k k<|cm k4<|an<|tn<|cV k h (λ_ h=>sR<|aT k2<|aD<|aE<|qD h k2) λ_ h=>aG<|tn<|sR<|fp k8<|lp k8<|am k k<|oB h λv3 hv3 h=>ae (aO (aCH a0.tgt v1 v3 hv3) k (cC k (cC k aI))) k<|aT k2<|sQ<|sR<|am k k<|cm k4<|an<|tn<|cV k h (λ_ h=>sR<|aT k2<|aD<|aE<|qD h k2) λ_ h=>aG<|tn<|sR<|am k k<|aT k2<|aD<|qD h k2
def aCm (a0:Mt) (a1:Int):Option Int:=
 (qI a0.cells a1).bind λv1=>
 bif decide (v1<0) then
 (some ((-1)))
 else
 (some (v1))
theorem aLI (a0:Mt) (a1:Int) (r:Int) (h:aCm a0 a1=some r):HasC Tryz.prog 109 [.agg (eM a0),.int a1] (.int r):=by
 exact hM [.tmp 4] Tryz.func109 Tryz.ntmps109 k<|sR<|ae (wb k) k<|aT k2<|sR<|fp k8<|lp k8<|am k k<|oB h λv1 hv1 h=>ae (aO (aCH a0.cells a1 v1 hv1) k (cC k (cC k aI))) k<|aT k2<|sQ<|sR<|am k k<|cm k4<|an<|tn<|cV k h (λ_ h=>sR<|aT k2<|aD<|aE<|qD h k2) λ_ h=>aG<|tn<|sR<|am k k<|aT k2<|aD<|qD h k2
def qU (a0:(List Mt)) (x1:(Int×Int)):Option ((Int×Int) ⊕ (Int ⊕ Int)):=
 bif decide (x1.2<(a0.length:Int)) then
 ((cJ a0 x1.2).bind λv3=>
 (aCm v3 x1.1).bind λv4=>
 bif decide (v4<0) then
 (some (.inr (.inr ((-1)))))
 else
 (some (.inl (v4,wr (x1.2+1)))))
 else
 (some (.inr (.inl x1.1)))
def wU (a0:(List Mt)) (a1:Int):Option Int:=
 bif decide (wr (a1 - (a0.length:Int))<0) then
 (some ((-1)))
 else
 ((Lp (qU a0) (wr (a1 - (a0.length:Int)),0)).bind λy6=>
 Sum.elim (λy7=>
 some (y7)
 )
 (λy8=>
 some y8
 )
 y6)
theorem aKD (a0:(List Mt)) (a1:Int) (r:Int) (h:wU a0 a1=some r):HasC Tryz.prog 54 [.list 3 (a0.map eM),.int a1] (.int r):=by
 refine hM [.tmp 4] Tryz.func54 Tryz.ntmps54 k<|sR<|aT k2<|sR<|am k k<|am k k<|ln k4<|ae (jL k k) k<|aT k2<|sQ<|sR<|am k k<|cm k4<|an<|tn<|cV k h (λ_ h=>sR<|aT k2<|aD<|aE<|qD h k2) λ_ h=>?_;refine aG<|tn<|sQ<|sR<|aT k2<|aC<|oB h λy6 hy6 h=>bX (body:=(qU a0)) hy6 (λ(x1:(Int×Int))=>mN [(0,.list 3 (a0.map eM)),(1,.int x1.1),(5,.int x1.2)] [] 0) (λr e t=>Sum.elim (λa=>(λr e t=>e= .exit 0∧Ent t (mN [(1,.int r)] [] 0)) a e t) (λb=>(λr e t=>e= .ret∧qE TT [.tmp 4] (.int r) .ret t) b e t) r) (bT (bJ k2) aS k4) ?_ ?_
 ·intro x1 o h;exact sQ<|sR<|am k k<|am k k<|ln k4<|cm k4<|an<|tn<|cV k h (λ_ h=>aG<|tn<|sQ<|aC<|sR<|am k k<|am k k<|oB h λv3 hv3 h=>ae (xl hv3 k) k<|lr k7<|am k k<|oB h λv4 hv4 h=>ae (aO (aLI v3 x1.1 v4 hv4) k (aH (dI k) (cC k aI))) k<|aT k2<|sR<|am k k<|cm k4<|an<|tn<|cV k h (λ_ h=>sR<|aT k2<|aD<|bF<|aE<|aE<|sp h ⟨_,k,k,bK k k k (aAI k)⟩) λ_ h=>aG<|aU<|tn<|rg<|am k k<|ae (bB k k) k<|aT k2<|sp h ⟨_,k,(bT (bJ k2) aS k4)⟩) λ_ h=>aW<|aA<|aA<|sp h ⟨_,k,k,(bT (bJ k2) aS k4)⟩
 ·intro e t hX;rcases y6 with y7|y8
  ·obtain ⟨rfl,hent⟩:=hX;exact aN<|tn<|aL hent<|sR<|am k k<|aT k2<|aD<|qD h k2
  ·obtain ⟨rfl,hent⟩:=hX;exact bF<|aE<|sp h hent
def aBB (a0:Rp) (a1:Int):Option Int:=
 (aCl a0.q a1).bind λv1=>
 bif decide (v1<0) then
 (some ((-1)))
 else
 ((qI a0.dims v1).bind λv3=>
 bif decide (v3<0) then
 (some ((-1)))
 else
 ((wU a0.maps v3).bind λv5=>
 bif decide (v5<0) then
 (some ((-1)))
 else
 (some (v5))))
theorem aFO (a0:Rp) (a1:Int) (r:Int) (h:aBB a0 a1=some r):HasC Tryz.prog 13 [.agg (eR a0),.int a1] (.int r):=by
 exact hM [.tmp 4] Tryz.func13 Tryz.ntmps13 k<|sR<|ae (wb k) k<|aT k2<|sR<|fp k8<|lp k8<|am k k<|oB h λv1 hv1 h=>ae (aO (aLH a0.q a1 v1 hv1) k (aH (dI k) (cC k aI))) k<|aT k2<|sQ<|sR<|am k k<|cm k4<|an<|tn<|cV k h (λ_ h=>sR<|aT k2<|aD<|aE<|qD h k2) λ_ h=>aG<|tn<|sR<|fp k8<|lp k8<|am k k<|oB h λv3 hv3 h=>ae (aO (aCH a0.dims v1 v3 hv3) k (cC k (cC k aI))) k<|aT k2<|sQ<|sR<|am k k<|cm k4<|an<|tn<|cV k h (λ_ h=>sR<|aT k2<|aD<|aE<|qD h k2) λ_ h=>aG<|tn<|sR<|fp k8<|lp k8<|am k k<|oB h λv5 hv5 h=>ae (aO (aKD a0.maps v3 v5 hv5) k (cC k (cC k aI))) k<|aT k2<|sQ<|sR<|am k k<|cm k4<|an<|tn<|cV k h (λ_ h=>sR<|aT k2<|aL (t:=mN [(4,.int (-1))] [] 1) (bT (bJ k2) aS k4)<|aD<|aE<|qD h k2) λ_ h=>aG<|tn<|sR<|am k k<|aT k2<|aD<|qD h k2
def wV (a0:(List Int)) (x1:((List Int)×Int)):Option (((List Int)×Int) ⊕ (List Int)):=
 bif decide (x1.2<(a0.length:Int)) then
 ((cJ a0 x1.2).bind λv2=>
 (cJ x1.1 x1.2).bind λv3=>
 some (.inl ((x1.1.set x1.2.toNat v2),wr (x1.2+1))))
 else
 (some (.inr x1.1))
def qJ (a0:(List Int)):Option (List Int):=
 bif (decide (0≤(a0.length:Int))&&decide ((a0.length:Int)≤1048576)) then
 ((Lp (wV a0) ((List.replicate ((a0.length:Int).toNat) (0:Int)),0)).bind λy4=>
 some (y4))
 else none
theorem aCI (a0:(List Int)) (r:(List Int)) (h:qJ a0=some r):HasC Tryz.prog 23 [.list 1 (a0.map eI)] (.list 1 (r.map eI)):=by
 refine hM [.tmp 2] Tryz.func23 Tryz.ntmps23 k<|sR<|aT k2<|sR<|am k k<|ln k4<|cG h λq5 h=>ae (aAL aJ q5 k k k k k k k k) k<|aT k2<|aL (t:=mN [(0,.list 1 (a0.map eI)),(3,.own 0 0 ((List.replicate ((a0.length:Int).toNat) (0:Int)).length))] [(0,⟨1,List.map (ow eI) (List.replicate ((a0.length:Int).toNat) (0:Int))⟩)] 1) (bT (iU 1 k2 (gK ⟨_,k,⟨k,k,(by simp only [aQ,lA,lT,lR,lC,lN]),k⟩⟩ aS)) (hX ⟨_,k,k,.inl ⟨aAr (e:=eI) (z:=0) _,cX.plainO _⟩⟩ k<|aS) k4)<|sQ<|sR<|aT k2<|aC<|oB h λy4 hy4 h=>bX (body:=(wV a0)) hy4 (λ(x1:((List Int)×Int))=>mN [(0,.list 1 (a0.map eI)),(3,.own 0 0 x1.1.length),(4,.int x1.2)] [(0,⟨1,x1.1.map (ow eI)⟩)] 1) (λr e t=>e= .exit 0∧Ent t (mN [(3,.own 0 0 r.length)] [(0,⟨1,r.map (ow eI)⟩)] 1)) (bT (bJ k2) (bG k<|aS) k4) ?_ ?_
 ·intro x1 o h;exact sQ<|sR<|am k k<|am k k<|ln k4<|cm k4<|an<|tn<|cV k h (λ_ h=>aG<|tn<|sQ<|aC<|rg<|am k k<|am k k<|am k k<|am k k<|oB h λv2 hv2 h=>ae (xl hv2 k) k<|lr k7<|oB h λv3 hv3 h=>ae (xo hv3 k) k<|ae (fG aJ jG (u:=v2) (dB hv3) k k k k k k) k<|an<|aU<|tn<|rg<|am k k<|ae (bB k k) k<|aT k2<|sp h ⟨_,k,(bT (iU 1 k2 (gK ⟨_,k,⟨k,k,(by simp only [aQ,lA,lT,lR,lC,lN]),k⟩⟩ (bJ k2))) (bG k<|aS) k4)⟩) λ_ h=>aW<|aA<|aA<|sp h ⟨_,k,k,(bT (bJ k2) (bG k<|aS) k4)⟩
 ·rintro e t ⟨rfl,hent⟩;exact aN<|tn<|aL hent<|sR<|am k k<|aT k2<|aD<|sp h (bK k k k (fZ (dE cX k k)))
def zE (a0:Qv):Option Qv:=
 (qJ a0.src).bind λv1=>
 (qJ a0.tgt).bind λv2=>
 some ((⟨a0.n,v1,v2⟩:Qv))
theorem aLJ (a0:Qv) (r:Qv) (h:zE a0=some r):HasC Tryz.prog 59 [.agg (eQ a0)] (.agg (eQ r)):=by
 refine hM [.cell 2 29] Tryz.func59 Tryz.ntmps59 k<|sR<|ae (wb k) k<|ae (bP aJ k k) k<|an<|tn<|sR<|ae (bP aJ k k) k<|an<|tn<|sR<|fp k8<|lp k8<|fp k8<|ae (ws k) k<|an<|tn<|sR<|fp k8<|lp k8<|oB h λv1 hv1 h=>ae (cL cX (aCI a0.src v1 hv1) k3 (cC k aI)) k<|fp k8<|ae (ws k) k<|an<|tn<|sQ ?_;exact rg<|fp k8<|lp k8<|oB h λv2 hv2 h=>ae (cL cX (aCI a0.tgt v2 hv2) k3 (cC k aI)) k<|fp k8<|ae (ws k) k<|an<|tn<|sR<|lp k8<|ae (ws k) k<|an<|tn<|aD<|sp h (bK k k k (lG (aY (k) (aY (dE cX k k) (aY (dE cX k k) fA)))))
def zF (a0:Mt):Option Mt:=
 (qJ a0.cells).bind λv1=>
 some ((⟨a0.rows,a0.cols,v1⟩:Mt))
theorem aLK (a0:Mt) (r:Mt) (h:zF a0=some r):HasC Tryz.prog 116 [.agg (eM a0)] (.agg (eM r)):=by
 refine hM [.cell 2 113] Tryz.func116 Tryz.ntmps116 k<|sR<|ae (wb k) k<|ae (bP aJ k k) k<|an<|tn<|sR<|ae (bP aJ k k) k<|an<|tn<|sR<|fp k8<|lp k8<|fp k8<|ae (ws k) k<|an<|tn<|sR<|fp k8<|lp k8<|fp k8<|ae (ws k) k<|an<|tn<|sR ?_;exact fp k8<|lp k8<|oB h λv1 hv1 h=>ae (cL cX (aCI a0.cells v1 hv1) k3 (cC k aI)) k<|fp k8<|ae (ws k) k<|an<|tn<|sR<|lp k8<|ae (ws k) k<|an<|tn<|aD<|sp h (bK k k k (lG (aY (k) (aY (k) (aY (dE cX k k) fA)))))
def qV (a0:(List Mt)) (x1:((List Mt)×Int)):Option (((List Mt)×Int) ⊕ (List Mt)):=
 bif decide (x1.2<(a0.length:Int)) then
 ((cJ a0 x1.2).bind λv2=>
 (zF v2).bind λv3=>
 (cJ x1.1 x1.2).bind λv4=>
 some (.inl ((x1.1.set x1.2.toNat v3),wr (x1.2+1))))
 else
 (some (.inr x1.1))
def wW (a0:(List Mt)):Option (List Mt):=
 bif (decide (0≤(a0.length:Int))&&decide ((a0.length:Int)≤1048576)) then
 ((Lp (qV a0) ((List.replicate ((a0.length:Int).toNat) ((⟨0,0,[]⟩:Mt):Mt)),0)).bind λy5=>
 some (y5))
 else none
theorem aKE (a0:(List Mt)) (r:(List Mt)) (h:wW a0=some r):HasC Tryz.prog 60 [.list 3 (a0.map eM)] (.list 3 (r.map eM)):=by
 refine hM [.tmp 2] Tryz.func60 Tryz.ntmps60 k<|sR<|aT k2<|sR<|am k k<|ln k4<|cG h λq6 h=>ae (aAL aJ q6 k k k k k k k k) k<|aT k2<|aL (t:=mN [(0,.list 3 (a0.map eM)),(3,.own 0 0 ((List.replicate ((a0.length:Int).toNat) ((⟨0,0,[]⟩:Mt):Mt)).length))] [(0,⟨3,List.map (ow eM) (List.replicate ((a0.length:Int).toNat) ((⟨0,0,[]⟩:Mt):Mt))⟩)] 1) (bT (iU 1 k2 (gK ⟨_,k,⟨k,k,(by simp only [aQ,lA,lT,lR,lC,lN]),k⟩⟩ aS)) (hX ⟨_,k,k,.inr (aSq (e:=eM) (z:=(⟨0,0,[]⟩:Mt)) (zc:=[.int 0,.int 0,.nil 1]) ⟨_,_,k,k,⟨_,_,k,k,⟨_,_,k,k,k⟩⟩⟩ _)⟩ k<|aS) k4)<|sQ<|sR<|aT k2<|aC<|oB h λy5 hy5 h=>bX (body:=(qV a0)) hy5 (λ(x1:((List Mt)×Int))=>mN [(0,.list 3 (a0.map eM)),(3,.own 0 0 x1.1.length),(4,.int x1.2)] [(0,⟨3,x1.1.map (ow eM)⟩)] 1) (λr e t=>e= .exit 0∧Ent t (mN [(3,.own 0 0 r.length)] [(0,⟨3,r.map (ow eM)⟩)] 1)) (bT (bJ k2) (cE (bU.plainO _) k<|aS) k4) ?_ ?_
 ·intro x1 o h;exact sQ<|sR<|am k k<|am k k<|ln k4<|cm k4<|an<|tn<|cV k h (λ_ h=>aG<|tn<|sQ<|aC<|rg<|am k k<|am k k<|am k k<|am k k<|oB h λv2 hv2 h=>ae (xl hv2 k) k<|lr k7<|oB h λv3 hv3 h=>ae (cM (aLK v2 v3 hv3) k3 (aH (dI k) aI)) k<|oB h λv4 hv4 h=>ae (xo hv4 k) k<|ae (aGo aJ k k k k k k (aAJ (dB hv4)) k) k<|an<|aU<|tn<|rg<|am k k<|ae (bB k k) k<|aT k2<|sp h ⟨_,k,(Ent.trans (show Ent _ (mN [(0,.list 3 (a0.map eM)),(3,.own 0 0 ((x1.1.set x1.2.toNat v3).length)),(4,.int (wr (x1.2+1)))] [(0,⟨3,List.map (ow eM) (x1.1.set x1.2.toNat v3)⟩)] 2) from (Ent.trans (aCU (b:=0) (b':=1) (j:=2) (es':=v3.cells.map eI) (by rw [dU];exact rH hv4) k k k k (aQ _ _) (cX.frzs _)) (bT (iU 1 k2 (gK ⟨_,k,⟨k,k,(by simp only [aQ,lA,lT,lR,lC,lN]),k⟩⟩ (bJ k2))) (hX ⟨_,k,k,.inl ⟨aGK v3 k,bU.plainO _⟩⟩ k<|aS) k4))) (bT (bJ k2) (cE (bU.plainO _) k<|aS) k4))⟩) λ_ h=>aW<|aA<|aA<|sp h ⟨_,k,k,(bT (bJ k2) (cE (bU.plainO _) k<|aS) k4)⟩
 ·rintro e t ⟨rfl,hent⟩;exact aN<|tn<|aL hent<|sR<|am k k<|aT k2<|aD<|sp h (bK k k k (fZ (dE bU k k)))
def iS (a0:Rp):Option Rp:=
 (zE a0.q).bind λv1=>
 (qJ a0.dims).bind λv2=>
 (wW a0.maps).bind λv3=>
 some ((⟨a0.p,v1,v2,v3⟩:Rp))
theorem mX (a0:Rp) (r:Rp) (h:iS a0=some r):HasC Tryz.prog 15 [.agg (eR a0)] (.agg (eR r)):=by
 refine hM [.cell 2 32] Tryz.func15 Tryz.ntmps15 k<|sR<|ae (wb k) k<|ae (bP aJ k k) k<|an<|tn<|sR<|ae (bP aJ k k) k<|an<|tn<|sR<|fp k8<|lp k8<|fp k8<|ae (ws k) k<|an<|tn<|sR<|fp k8<|lp k8<|oB h λv1 hv1 h=>ae (cQ (aLJ a0.q v1 hv1) k3 (aH (dI k) aI)) k<|fp k8<|ae (ws k) k<|an<|tn<|sQ ?_;exact rg<|fp k8<|lp k8<|oB h λv2 hv2 h=>ae (cL cX (aCI a0.dims v2 hv2) k3 (cC k aI)) k<|fp k8<|ae (ws k) k<|an<|tn<|sR<|fp k8<|lp k8<|oB h λv3 hv3 h=>ae (cL bU (aKE a0.maps v3 hv3) k3 (cC k aI)) k<|fp k8<|ae (ws k) k<|an<|tn<|sR<|lp k8<|ae (ws k) k<|an<|tn<|aL (t:=mN [(2,.ptr 1 0 0)] [(1,⟨6,[[.int a0.p,.int v1.n,.own 3 0 v1.src.length,.own 4 0 v1.tgt.length,.own 5 0 v2.length,.own 6 0 v3.length]]⟩),(3,⟨1,v1.src.map (ow eI)⟩),(4,⟨1,v1.tgt.map (ow eI)⟩),(5,⟨1,v2.map (ow eI)⟩),(6,⟨3,v3.map (ow eM)⟩)] 7) (bT (bJ k2) (cP k<|bG k<|bG k<|bG k<|cE (bU.plainO _) k<|aS) k4)<|aD<|sp h (bK k k k (lG (aY (k) (aY (k) (aY (dE cX k k) (aY (dE cX k k) (aY (dE cX k k) (aY (dE bU k k) fA))))))))
def aBp (a0:(List Int)) (a1:(List Int)) (x1:Int):Option (Int ⊕ (Unit ⊕ Bool)):=
 bif decide (x1<(a0.length:Int)) then
 ((cJ a0 x1).bind λv3=>
 (cJ a1 x1).bind λv4=>
 bif !decide (v3=v4) then
 (some (.inr (.inr (false))))
 else
 (some (.inl (wr (x1+1)))))
 else
 (some (.inr (.inl ())))
def uD (a0:(List Int)) (a1:(List Int)):Option Bool:=
 bif !decide ((a0.length:Int)=(a1.length:Int)) then
 (some (false))
 else
 ((Lp (aBp a0 a1) 0).bind λy6=>
 Sum.elim (λy7=>
 some (true)
 )
 (λy8=>
 some y8
 )
 y6)
theorem aCJ (a0:(List Int)) (a1:(List Int)) (r:Bool) (h:uD a0 a1=some r):HasC Tryz.prog 25 [.list 1 (a0.map eI),.list 1 (a1.map eI)] (.bl r):=by
 refine hM [.tmp 4] Tryz.func25 Tryz.ntmps25 k<|sR<|aT k2<|sQ<|sR<|am k k<|ln k4<|am k k<|ln k4<|cm k4<|an<|tn<|cV k h (λ_ h=>sR<|aT k2<|aD<|aE<|gJ h k2) λ_ h=>?_;refine aG<|tn<|sQ<|sR<|aT k2<|aC<|oB h λy6 hy6 h=>bX (body:=(aBp a0 a1)) hy6 (λ(x1:Int)=>mN [(0,.list 1 (a0.map eI)),(1,.list 1 (a1.map eI)),(5,.int x1)] [] 0) (λr e t=>Sum.elim (λa=>(λr e t=>e= .exit 0∧Ent t (mN [] [] 0)) a e t) (λb=>(λr e t=>e= .ret∧qE TT [.tmp 4] (.bl r) .ret t) b e t) r) (bT (bJ k2) aS k4) ?_ ?_
 ·intro x1 o h;exact sQ<|sR<|am k k<|am k k<|ln k4<|cm k4<|an<|tn<|cV k h (λ_ h=>aG<|tn<|sQ<|aC<|sQ<|aP eG<|am k k<|am k k<|oB h λv3 hv3 h=>ae (xl hv3 k) k<|lr k7<|am k k<|am k k<|oB h λv4 hv4 h=>ae (xl hv4 k) k<|lr k7<|cm k4<|an<|lB (by kernel_rfl)<|tn<|cV k h (λ_ h=>sR<|aT k2<|aD<|bF<|aE<|aE<|sp h ⟨_,k,k,bK k k k (mM k)⟩) λ_ h=>aG<|aU<|tn<|rg<|am k k<|ae (bB k k) k<|aT k2<|sp h ⟨_,k,(bT (bJ k2) aS k4)⟩) λ_ h=>aW<|aA<|aA<|sp h ⟨_,k,k,(bT aS aS k4)⟩
 ·intro e t hX;rcases y6 with y7|y8
  ·obtain ⟨rfl,hent⟩:=hX;exact aN<|tn<|aL hent<|sR<|aT k2<|aD<|gJ h k2
  ·obtain ⟨rfl,hent⟩:=hX;exact bF<|aE<|sp h hent
def zG (a0:Qv) (a1:Qv):Option Bool:=
 bif !decide (a0.n=a1.n) then
 (some (false))
 else
 ((uD a0.src a1.src).bind λv2=>
 bif !v2 then
 (some (false))
 else
 ((uD a0.tgt a1.tgt).bind λv4=>
 bif !v4 then
 (some (false))
 else
 (some (true))))
theorem aLL (a0:Qv) (a1:Qv) (r:Bool) (h:zG a0 a1=some r):HasC Tryz.prog 68 [.agg (eQ a0),.agg (eQ a1)] (.bl r):=by
 exact hM [.tmp 4] Tryz.func68 Tryz.ntmps68 k<|sR<|ae (wb k) k<|ae (wb k) k<|aT k2<|sQ<|sR<|fp k8<|lp k8<|fp k8<|lp k8<|cm k4<|an<|tn<|cV k h (λ_ h=>sR<|aT k2<|aD<|aE<|gJ h k2) λ_ h=>aG<|tn<|sQ<|sR<|fp k8<|lp k8<|fp k8<|lp k8<|oB h λv2 hv2 h=>ae (aO (aCJ a0.src a1.src v2 hv2) k (cC k (cC k aI))) k<|ae (dD k) k<|an<|tn<|cV k h (λ_ h=>sR<|aT k2<|aD<|aE<|gJ h k2) λ_ h=>aG<|tn<|sQ<|sR<|fp k8<|lp k8<|fp k8<|lp k8<|oB h λv4 hv4 h=>ae (aO (aCJ a0.tgt a1.tgt v4 hv4) k (cC k (cC k aI))) k<|ae (dD k) k<|an<|tn<|cV k h (λ_ h=>sR<|aT k2<|aD<|aE<|gJ h k2) λ_ h=>aG<|tn<|sR<|aT k2<|aD<|gJ h k2
def zH (a0:Mt) (a1:Mt):Option Bool:=
 bif !decide (a0.rows=a1.rows) then
 (some (false))
 else
 (bif !decide (a0.cols=a1.cols) then
 (some (false))
 else
 ((uD a0.cells a1.cells).bind λv3=>
 bif !v3 then
 (some (false))
 else
 (some (true))))
theorem aLM (a0:Mt) (a1:Mt) (r:Bool) (h:zH a0 a1=some r):HasC Tryz.prog 124 [.agg (eM a0),.agg (eM a1)] (.bl r):=by
 exact hM [.tmp 4] Tryz.func124 Tryz.ntmps124 k<|sR<|ae (wb k) k<|ae (wb k) k<|aT k2<|sQ<|sR<|fp k8<|lp k8<|fp k8<|lp k8<|cm k4<|an<|tn<|cV k h (λ_ h=>sR<|aT k2<|aD<|aE<|gJ h k2) λ_ h=>aG<|tn<|sQ<|sR<|fp k8<|lp k8<|fp k8<|lp k8<|cm k4<|an<|tn<|cV k h (λ_ h=>sR<|aT k2<|aD<|aE<|gJ h k2) λ_ h=>aG<|tn<|sQ<|sR<|fp k8<|lp k8<|fp k8<|lp k8<|oB h λv3 hv3 h=>ae (aO (aCJ a0.cells a1.cells v3 hv3) k (cC k (cC k aI))) k<|ae (dD k) k<|an<|tn<|cV k h (λ_ h=>sR<|aT k2<|aD<|aE<|gJ h k2) λ_ h=>aG<|tn<|sR<|aT k2<|aD<|gJ h k2
def qW (a0:(List Mt)) (a1:(List Mt)) (x1:Int):Option (Int ⊕ (Unit ⊕ Bool)):=
 bif decide (x1<(a0.length:Int)) then
 ((cJ a0 x1).bind λv3=>
 (cJ a1 x1).bind λv4=>
 (zH v3 v4).bind λv5=>
 bif !v5 then
 (some (.inr (.inr (false))))
 else
 (some (.inl (wr (x1+1)))))
 else
 (some (.inr (.inl ())))
def wX (a0:(List Mt)) (a1:(List Mt)):Option Bool:=
 bif !decide ((a0.length:Int)=(a1.length:Int)) then
 (some (false))
 else
 ((Lp (qW a0 a1) 0).bind λy7=>
 Sum.elim (λy8=>
 some (true)
 )
 (λy9=>
 some y9
 )
 y7)
theorem aKF (a0:(List Mt)) (a1:(List Mt)) (r:Bool) (h:wX a0 a1=some r):HasC Tryz.prog 66 [.list 3 (a0.map eM),.list 3 (a1.map eM)] (.bl r):=by
 refine hM [.tmp 4] Tryz.func66 Tryz.ntmps66 k<|sR<|aT k2<|sQ<|sR<|am k k<|ln k4<|am k k<|ln k4<|cm k4<|an<|tn<|cV k h (λ_ h=>sR<|aT k2<|aD<|aE<|gJ h k2) λ_ h=>?_;refine aG<|tn<|sQ<|sR<|aT k2<|aC<|oB h λy7 hy7 h=>bX (body:=(qW a0 a1)) hy7 (λ(x1:Int)=>mN [(0,.list 3 (a0.map eM)),(1,.list 3 (a1.map eM)),(5,.int x1)] [] 0) (λr e t=>Sum.elim (λa=>(λr e t=>e= .exit 0∧Ent t (mN [] [] 0)) a e t) (λb=>(λr e t=>e= .ret∧qE TT [.tmp 4] (.bl r) .ret t) b e t) r) (bT (bJ k2) aS k4) ?_ ?_
 ·intro x1 o h;exact sQ<|sR<|am k k<|am k k<|ln k4<|cm k4<|an<|tn<|cV k h (λ_ h=>aG<|tn<|sQ<|aC<|sQ<|aP eG<|am k k<|am k k<|oB h λv3 hv3 h=>ae (xl hv3 k) k<|lr k7<|am k k<|am k k<|oB h λv4 hv4 h=>ae (xl hv4 k) k<|lr k7<|oB h λv5 hv5 h=>ae (aO (aLM v3 v4 v5 hv5) k (aH (dI k) (aH (dI k) aI))) k<|ae (dD k) k<|an<|lB (by kernel_rfl)<|tn<|cV k h (λ_ h=>sR<|aT k2<|aD<|bF<|aE<|aE<|sp h ⟨_,k,k,bK k k k (mM k)⟩) λ_ h=>aG<|aU<|tn<|rg<|am k k<|ae (bB k k) k<|aT k2<|sp h ⟨_,k,(bT (bJ k2) aS k4)⟩) λ_ h=>aW<|aA<|aA<|sp h ⟨_,k,k,(bT aS aS k4)⟩
 ·intro e t hX;rcases y7 with y8|y9
  ·obtain ⟨rfl,hent⟩:=hX;exact aN<|tn<|aL hent<|sR<|aT k2<|aD<|gJ h k2
  ·obtain ⟨rfl,hent⟩:=hX;exact bF<|aE<|sp h hent
def wY (a0:Rp) (a1:Rp):Option Bool:=
 bif !decide (a0.p=a1.p) then
 (some (false))
 else
 ((zG a0.q a1.q).bind λv2=>
 bif !v2 then
 (some (false))
 else
 ((uD a0.dims a1.dims).bind λv4=>
 bif !v4 then
 (some (false))
 else
 ((wX a0.maps a1.maps).bind λv6=>
 bif !v6 then
 (some (false))
 else
 (some (true)))))
theorem aFP (a0:Rp) (a1:Rp) (r:Bool) (h:wY a0 a1=some r):HasC Tryz.prog 18 [.agg (eR a0),.agg (eR a1)] (.bl r):=by
 exact hM [.tmp 4] Tryz.func18 Tryz.ntmps18 k<|sR<|ae (wb k) k<|ae (wb k) k<|aT k2<|sQ<|sR<|fp k8<|lp k8<|fp k8<|lp k8<|cm k4<|an<|tn<|cV k h (λ_ h=>sR<|aT k2<|aD<|aE<|gJ h k2) λ_ h=>aG<|tn<|sQ<|sR<|fp k8<|lp k8<|fp k8<|lp k8<|oB h λv2 hv2 h=>ae (aO (aLL a0.q a1.q v2 hv2) k (aH (dI k) (aH (dI k) aI))) k<|ae (dD k) k<|an<|tn<|cV k h (λ_ h=>sR<|aT k2<|aD<|aE<|gJ h k2) λ_ h=>aG<|tn<|sQ<|sR<|fp k8<|lp k8<|fp k8<|lp k8<|oB h λv4 hv4 h=>ae (aO (aCJ a0.dims a1.dims v4 hv4) k (cC k (cC k aI))) k<|ae (dD k) k<|an<|tn<|cV k h (λ_ h=>sR<|aT k2<|aD<|aE<|gJ h k2) λ_ h=>aG<|tn<|sQ<|sR<|fp k8<|lp k8<|fp k8<|lp k8<|oB h λv6 hv6 h=>ae (aO (aKF a0.maps a1.maps v6 hv6) k (cC k (cC k aI))) k<|ae (dD k) k<|an<|tn<|aL (t:=mN [(27,.bl (!v6))] [] 2) (bT (bJ k2) aS k4)<|cV k h (λ_ h=>sR<|aT k2<|aD<|aE<|gJ h k2) λ_ h=>aG<|tn<|sR<|aT k2<|aD<|gJ h k2
end
noncomputable section
def zI (n:Nat) (left:Int):Int:=if left - n<0 then -1 else left - n
def zC:List (Int→Int)→Int→Int
 | [],left=>left
 |f::fs,left=>if f left<0 then -1 else zC fs (f left)
def zS {α:Type} (f:α→Int→Int) (l:List α) (left:Int):Int:=if left - l.length<0 then -1 else zC (l.map f) (left - l.length)
def zQ (q:Qv):Int→Int:=zC [zI q.src.length,zI q.tgt.length]
def zM (m:Mt):Int→Int:=zC [zI m.cells.length]
def zR (r:Rp):Int→Int:=zC [zQ r.q,zI r.dims.length,zS zM r.maps]
def aEH (f:Int→Int) (b:Prop):Prop:= ∀ left,0≤left→left≤1048576→f left= -1∨(0≤f left∧f left≤left∧b)
theorem aEI (n:Nat):aEH (zI n) (n≤1048576):=by
 intro left h0 h1;unfold zI;by_cases h:left - n<0
 ·rw [aV h];exact .inl rfl
 ·rw [aX h];exact .inr ⟨by omega,by omega,by omega⟩
theorem aKG:aEH (zC []) True:=λleft h0 _=> .inr ⟨h0,Int.le_refl _,trivial⟩
theorem aAN {f:Int→Int} {fs:List (Int→Int)} {b bs:Prop} (h:aEH f b) (k:aEH (zC fs) bs):aEH (zC (f::fs)) (b∧bs):=by
 intro left h0 h1;unfold zC;rcases h left h0 h1 with e|⟨e1,e2,e3⟩
 ·rw [e,aV (by decide)];exact .inl rfl
 ·rw [aX (by omega)];rcases k (f left) e1 (by omega) with g|⟨g1,g2,g3⟩
  ·exact .inl g
  ·exact .inr ⟨g1,by omega,e3,g3⟩
theorem aOu {α:Type} {f:α→Int→Int} {b:α→Prop} (h: ∀ x,aEH (f x) (b x)): ∀ l:List α,aEH (zC (l.map f)) (∀ x∈l,b x)
 | []=>λleft h0 _=> .inr ⟨h0,Int.le_refl _,by simp⟩
 |x::l=>λleft h0 h1=>by
  rcases aAN (h x) (aOu h l) left h0 h1 with e|⟨e1,e2,e3,e4⟩
  ·exact .inl e
  ·exact .inr ⟨e1,e2,λy hy=>by rcases fU.1 hy with rfl|h';exact e3;exact e4 y h'⟩
theorem aTv {α:Type} {f:α→Int→Int} {b:α→Prop} (h: ∀ x,aEH (f x) (b x)) (l:List α):aEH (zS f l) (l.length≤1048576∧ ∀ x∈l,b x):=by
 intro left h0 h1;unfold zS;by_cases e:left - l.length<0
 ·rw [aV e];exact .inl rfl
 ·rw [aX e];rcases aOu h l (left - l.length) (by omega) (by omega) with g|⟨g1,g2,g3⟩
  ·exact .inl g
  ·exact .inr ⟨g1,by omega,by omega,g3⟩
def bI (l:List Int):Prop:=l.length≤1048576
def bQ (q:Qv):Prop:=bI q.src∧bI q.tgt∧True
def bM (m:Mt):Prop:=bI m.cells∧True
def bR (r:Rp):Prop:=bQ r.q∧bI r.dims∧(r.maps.length≤1048576∧ ∀ m∈r.maps,bM m)∧True
def bS (s:Sc):Prop:=(s.basis.length≤1048576∧ ∀ v∈s.basis,bI v)∧True
theorem aTw (q:Qv):aEH (zQ q) (bQ q):=aAN (aEI _) (aAN (aEI _) aKG)
theorem aPt (m:Mt):aEH (zM m) (bM m):=aAN (aEI _) aKG
theorem aPu (r:Rp):aEH (zR r) (bR r):=aAN (aTw _) (aAN (aEI _) (aAN (aTv aPt _) aKG))
def fI {α:Type} (l:List α):Prop:=l.length≤9223372036854775807
theorem aHB {o:Option Int} {z:Int→Int} {zs:List (Int→Int)} {b:Prop} {left:Int} {k:Int→Option Int} (ho:o=some (z left)) (hf:aEH z b) (h0:0≤left) (h1:left≤1048576) (hk: ∀ v,0≤v→v≤1048576→k v=some (zC zs v)):
  Option.bind o (λv=>bif decide (v<0) then some (-1) else k v)=some (zC (z::zs) left):=by
 rw [ho,aB];unfold zC;rcases hf left h0 h1 with e|⟨e1,e2,_⟩
 ·rw [e];rfl
 ·rw [aX (by omega),dF (by omega: ¬ z left<0),aZ];exact hk _ e1 (by omega)
theorem aYF {α:Type} {body:Int×Int→Option ((Int×Int) ⊕ (Int ⊕ Int))} {f:α→Int→Int} {b:α→Prop} {l:List α} (hf: ∀ x,aEH (f x) (b x)) (hl:l.length≤1048576)
  (hs: ∀ (v:Int) (k:Nat) (hk:k<l.length),0≤v→v≤1048576→body (v,k)=some (bif decide (f l[k] v<0) then .inr (.inr (-1)) else .inl (f l[k] v,wr (k+1)))) (he: ∀ v,body (v,l.length)=some (.inr (.inl v))) (v:Int) (h0:0≤v) (h1:v≤1048576):
  Option.bind (Lp body (v,0)) (λy=>Sum.elim (λy=>some y) (λy=>some y) y)=some (zC (l.map f) v):=by
 have key: ∀ d k:Nat,k+d=l.length→ ∀ v:Int,0≤v→v≤1048576→Option.bind (Lp body (v,(k:Int))) (λy=>Sum.elim (λy=>some y) (λy=>some y) y)=some (zC ((l.drop k).map f) v):=by
  intro d;induction d with
  |zero=>
   intro k hk v _ _;rw [Nat.add_zero] at hk;subst hk;rw [qQ (he v)];simp [zC]
  |succ d ih=>
   intro k hk v h0 h1;have h:=hs v k (by omega) h0 h1;rw [List.drop_eq_getElem_cons (by omega:k<l.length),List.map_cons];unfold zC;rcases hf l[k] v h0 h1 with e|⟨e1,e2,_⟩
   ·rw [e] at h ⊢;rw [qQ (r:= .inr (-1)) (by rw [h];rfl)];rfl
   ·rw [aX (by omega)];rw [dF (by omega: ¬ f l[k] v<0),aZ,cA (n:=l.length) (by omega) (by omega)] at h;rw [aDE h];exact ih (k+1) (by omega) _ e1 (by omega)
 have:=key l.length 0 (by omega) v h0 h1;simpa using this
theorem aYG {l:List Int} {left:Int} (hl:fI l) (h0:0≤left) (h1:left≤1048576):qI l left=some (zI l.length left):=by
 unfold fI at hl;unfold qI zI;rw [aMN (by omega)];by_cases h:left - l.length<0
 ·rw [bH h,aV h];rfl
 ·rw [dF h,aX h];rfl
def fQ (q:Qv):Prop:=fI q.src∧fI q.tgt
theorem bAs {q:Qv} {left:Int} (hl:fQ q) (h0:0≤left) (h1:left≤1048576):aCl q left=some (zQ q left):=
 aHB (aYG hl.1 h0 h1) (aEI _) h0 h1 λv g0 g1=>aHB (aYG hl.2 g0 g1) (aEI _) g0 g1 λv _ _=>rfl
def fM (m:Mt):Prop:=fI m.cells
theorem bAt {m:Mt} {left:Int} (hl:fM m) (h0:0≤left) (h1:left≤1048576):aCm m left=some (zM m left):=
 aHB (aYG hl h0 h1) (aEI _) h0 h1 λv _ _=>rfl
def fMs (l:List Mt):Prop:=fI l∧ ∀ m∈l,fM m
theorem bAH {l:List Mt} {left:Int} (hl:fMs l) (h0:0≤left) (h1:left≤1048576):wU l left=some (zS zM l left):=by
 obtain ⟨ha,hb⟩:=hl;unfold fI at ha;unfold wU zS;rw [aMN (by omega)];by_cases h:left - l.length<0
 ·rw [bH h,aV h];rfl
 ·rw [dF h,aX h,aZ];refine aYF (f:=zM) aPt (by omega) (λv k hk g0 g1=>?_) (λv=>?_) _ (by omega) (by omega)
  ·unfold qU;simp only;rw [iO hk,aR,dS hk,aB,bAt (hb _ (List.getElem_mem hk)) g0 g1,aB];cases decide (zM l[k] v<0) <;> rfl
  ·unfold qU;simp only;rw [jU (bN _),aZ]
def fR (r:Rp):Prop:=fQ r.q∧fI r.dims∧fMs r.maps
theorem aZN {r:Rp} {left:Int} (hl:fR r) (h0:0≤left) (h1:left≤1048576):aBB r left=some (zR r left):=
 aHB (bAs hl.1 h0 h1) (aTw _) h0 h1 λv g0 g1=>aHB (aYG hl.2.1 g0 g1) (aEI _) g0 g1 λv g2 g3=>aHB (bAH hl.2.2 g2 g3) (aTv aPt _) g2 g3 λv _ _=>rfl
theorem aOv {α:Type} {body:List α×Int→Option ((List α×Int) ⊕ List α)} {l:List α} (z:α) (hl:l.length≤4611686018427387904)
  (hs: ∀ (k:Nat) (hk:k<l.length) (r:List α),r.length=l.length→body (r,k)=some (.inl (r.set k l[k],wr (k+1)))) (he: ∀ r,body (r,l.length)=some (.inr r)):Lp body (List.replicate ((l.length:Int).toNat) z,0)=some l:=by
 refine aWG (λk=>(l.take k++List.replicate (l.length - k) z,(k:Int))) l.length (by simp) (λk hk=>?_) ?_
 ·rw [hs k hk _ (by simp;omega),cA hk hl];congr 3;rw [show l.length - k=(l.length - (k+1))+1 by omega,List.replicate_succ,List.set_append_right _ _ (by simp;omega)];rw [yB hk,List.length_take,Nat.min_eq_left (Nat.le_of_lt hk),Nat.sub_self,List.set_cons_zero,List.append_assoc];rfl
 ·rw [he];simp
theorem aYH {l:List Int} (h:bI l):qJ l=some l:=by
 unfold bI at h;unfold qJ;rw [bH (by omega),bH (by omega:(l.length:Int)≤1048576),Bool.and_self,aR];rw [aOv 0 (by omega) (λk hk r hr=>?_) (λr=>?_)];rfl
 ·unfold wV;simp only;rw [iO hk,aR,dS hk,aB,dS (hr▸hk),aB,eX]
 ·unfold wV;simp only;rw [jU (bN _),aZ]
theorem bAv {q:Qv} (h:bQ q):zE q=some q:=by
 unfold zE;rw [aYH h.1,aB,aYH h.2.1,aB]
theorem bAw {m:Mt} (h:bM m):zF m=some m:=by
 unfold zF;rw [aYH h.1,aB]
theorem bAI {l:List Mt} (h:l.length≤1048576∧ ∀ m∈l,bM m):wW l=some l:=by
 obtain ⟨h,hb⟩:=h;unfold wW;rw [bH (by omega),bH (by omega:(l.length:Int)≤1048576),Bool.and_self,aR];rw [aOv _ (by omega) (λk hk r hr=>?_) (λr=>?_)];rfl
 ·unfold qV;simp only;rw [iO hk,aR,dS hk,aB,bAw (hb _ (List.getElem_mem hk)),aB,dS (hr▸hk),aB,eX]
 ·unfold qV;simp only;rw [jU (bN _),aZ]
theorem aZO {r:Rp} (h:bR r):iS r=some r:=by
 unfold iS;rw [bAv h.1,aB,aYH h.2.1,aB,bAI h.2.2.1,aB]
theorem aJB {α:Type} [DecidableEq α] {body:Int→Option (Int ⊕ (Unit ⊕ Bool))} {a b:List α} (hl:a.length≤4611686018427387904) (hab:a.length=b.length)
  (hs: ∀ (k:Nat) (h1:k<a.length) (h2:k<b.length),body k=some (bif decide (a[k]=b[k]) then .inl (wr (k+1)) else .inr (.inr false))) (he:body a.length=some (.inr (.inl ()))):
  Option.bind (Lp body 0) (λy=>Sum.elim (λ_=>some true) (λy=>some y) y)=some (decide (a=b)):=by
 have key: ∀ (P:Nat→Bool),(∀ (k:Nat) (h1:k<a.length) (h2:k<b.length),P k=decide (a[k]=b[k]))→Lp body 0=some (bif (List.range a.length).all P then .inl () else .inr false)→Option.bind (Lp body 0) (λy=>Sum.elim (λ_=>some true) (λy=>some y) y)=some (decide (a=b)):=by
  intro P hP e;rw [e,aB]
  have:(List.range a.length).all P=decide (a=b):=by
   rw [Bool.eq_iff_iff,tZ,hZ];constructor
   ·intro h;refine List.ext_getElem hab λk h1 h2=>?_;have:=h k h1;rw [hP k h1 h2] at this;exact of_decide_eq_true this
   ·rintro rfl k hk;rw [hP k hk hk];simp
  rw [this];cases decide (a=b) <;> rfl
 refine key (λk=>if h:k<a.length then if h2:k<b.length then decide (a[k]=b[k]) else false else false) (λk h1 h2=>by rw [dif_pos h1,dif_pos h2]) (xW _ _ hl (λk hk=>?_) (λ_=>he));rw [dif_pos hk,dif_pos (hab▸hk)];exact hs k hk (hab▸hk)
theorem aGN {α β:Type} {a:List α} {b:List β} :decide ((a.length:Int)=(b.length:Int))=decide (a.length=b.length):=by
 rw [Bool.eq_iff_iff,hZ,hZ];omega
theorem aPv {body:Int→Option (Int ⊕ (Unit ⊕ Bool))} {a b:List Int} (hl:a.length≤4611686018427387904)
  (hb:body=λx=>bif decide (x<(a.length:Int)) then (Option.bind (cJ a x) λv3=>Option.bind (cJ b x) λv4=>bif !decide (v3=v4) then (some (.inr (.inr (false)))) else (some (.inl (wr (x+1))))) else (some (.inr (.inl ())))):
  (bif !decide ((a.length:Int)=(b.length:Int)) then some false else Option.bind (Lp body 0) (λy=>Sum.elim (λ_=>some true) (λy=>some y) y))=some (decide (a=b)):=by
 rw [aGN];by_cases h:a.length=b.length
 ·rw [bH h,eD,aZ];refine aJB hl h (λk h1 h2=>?_) ?_
  ·rw [hb];simp only;rw [iO h1,aR,dS h1,aB,dS h2,aB];cases decide (a[k]=b[k]) <;> rfl
  ·rw [hb];simp only;rw [jU (bN _),aZ]
 ·rw [dF h,Bool.not_false,aR,dF (by rintro rfl;exact h rfl)]
theorem jO {c d:Bool} {o:Option Bool} (h:c=true→o=some d):(bif !c then some false else o)=some (c&&d):=by cases c with|false=>rfl|true=>exact h rfl
theorem aYI {a b:List Int} (h:bI a):uD a b=some (decide (a=b)):=by
 unfold bI at h;exact aPv (body:=aBp a b) (by omega) rfl
theorem aPw {d:Bool} :(bif !d then some false else some true)=some d:=by cases d <;> rfl
theorem bAx {a b:Qv} (h:bQ a):zG a b=some (decide (a=b)):=by
 unfold zG;rw [jO (d:=decide (a.src=b.src)&&decide (a.tgt=b.tgt)) (λ_=>?_)]
 ·cases a;cases b;simp [Bool.and_assoc]
 ·rw [aYI h.1,aB];refine jO λ_=>?_;rw [aYI h.2.1,aB,aPw]
theorem bAy {a b:Mt} (h:bM a):zH a b=some (decide (a=b)):=by
 unfold zH;rw [jO (d:=decide (a.cols=b.cols)&&decide (a.cells=b.cells)) (λ_=>?_)]
 ·cases a;cases b;simp [Bool.and_assoc]
 ·refine jO λ_=>?_;rw [aYI h.1,aB,aPw]
theorem bAJ {a b:List Mt} (h:a.length≤1048576∧ ∀ m∈a,bM m):wX a b=some (decide (a=b)):=by
 obtain ⟨h,hb⟩:=h;unfold wX;rw [aGN];by_cases e:a.length=b.length
 ·rw [bH e,eD,aZ];refine aJB (by omega) e (λk h1 h2=>?_) ?_
  ·unfold qW;rw [iO h1,aR,dS h1,aB,dS h2,aB,bAy (hb _ (List.getElem_mem h1)),aB];cases decide (a[k]=b[k]) <;> rfl
  ·unfold qW;rw [jU (bN _),aZ]
 ·rw [dF e,Bool.not_false,aR,dF (by rintro rfl;exact e rfl)]
theorem aZP {a b:Rp} (h:bR a):wY a b=some (decide (a=b)):=by
 unfold wY;rw [jO (d:=decide (a.q=b.q)&&(decide (a.dims=b.dims)&&decide (a.maps=b.maps))) (λ_=>?_)]
 ·cases a;cases b;simp [Bool.and_assoc]
 ·rw [bAx h.1,aB];refine jO λ_=>?_;rw [aYI h.2.1,aB];refine jO λ_=>?_;rw [bAJ h.2.2.1,aB,aPw]
end
noncomputable section
theorem gF {c d:Bool} {o:Option Bool} (h:c=true→o=some d):(bif c then o else some false)=some (c&&d):=by cases c with|false=>rfl|true=>exact h rfl
theorem aDh {c d:Bool} :(bif c then some d else some false)=some (c&&d):=by cases c <;> rfl
theorem aTx {x a b:Int} :(bif decide (a≤x) then some (decide (x≤b)) else some false)=some (inR x a b):=by
 rw [aDh];unfold inR;by_cases h1:a≤x <;> by_cases h2:x≤b <;> simp [h1,h2]
theorem aCY (x a b:Int):kV x a b=some (inR x a b):=aTx
theorem aBq (x a b:Int):fV x a b=some (inR x a b):=aTx
theorem aRO (p:Int):(bif decide (p=2) then some true else bif decide (p=3) then some true else some (decide (p=5)))=some (mU p):=by
 unfold mU;by_cases h2:p=2 <;> by_cases h3:p=3 <;> by_cases h5:p=5 <;> simp [h2,h3,h5]
theorem aJC (p:Int):gO p=some (mU p):=aRO p
theorem aHC (p:Int):lH p=some (mU p):=aRO p
theorem aGO {a b:List Int} (h:bI a):qH a b=some (decide (a=b)):=by
 unfold bI at h;exact aPv (body:=aBm a b) (by omega) rfl
theorem aDT {a b:List Int} (h:bI a):eZ a b=some (decide (a=b)):=by
 unfold bI at h;exact aPv (body:=nS a b) (by omega) rfl
theorem aUv {a b:Qv} (h:bQ a):qR a b=some (decide (a=b)):=by
 unfold qR;rw [gF (d:=decide (a.src=b.src)&&decide (a.tgt=b.tgt)) (λ_=>?_)]
 ·cases a;cases b;simp
 ·rw [aGO h.1,aB];refine gF λ_=>?_;rw [aGO h.2.1,aB]
theorem aUw {a b:Qv} (h:bQ a):qS a b=some (decide (a=b)):=by
 unfold qS;rw [gF (d:=decide (a.src=b.src)&&decide (a.tgt=b.tgt)) (λ_=>?_)]
 ·cases a;cases b;simp
 ·rw [aDT h.1,aB];refine gF λ_=>?_;rw [aDT h.2.1,aB]
theorem aKH (p:Int) {v:List Int} (h:bI v):jX p v=some (mU p&&decide (v.length≤64)&&v.all λx=>inR x 0 (wr (p - 1))):=by
 unfold bI at h;unfold jX;rw [aJC,aB];cases mU p with
 |false=>rfl
 |true=>
  rw [eD,aZ,Bool.true_and];by_cases h64:v.length≤64
  ·rw [dF (by omega),aZ,bH h64,Bool.true_and];rw [xW (λk=>inR (v[k]?.getD 0) 0 (wr (p - 1))) false (n:=v.length) (by omega) (λk hk=>?_) (λ_=>?_),aDS 0 v (λx=>inR x 0 (wr (p - 1))),aB]
   ·cases v.all _ <;> rfl
   ·unfold nT;rw [iO hk,aR,iN 0 hk,aB,aBq,aB];cases inR _ 0 _ <;> rfl
   ·unfold nT;rw [jU (bN _),aZ]
  ·rw [bH (by omega),aR,dF h64,Bool.false_and]
theorem aRP {v:List Int} {f:Int→Option Bool} (P:Int→Bool) (hf: ∀ x,f x=some (P x)) (h:bI v): ∃ i:Int,dC v f=some i∧decide (0≤i)=v.any P:=by
 unfold bI at h;unfold dC;rw [aAi (s0:=0) (s:=0) (n:=v.length) (λk=>bif P (v[k]?.getD 0) then some (k:Int) else none) rfl (by omega) (Nat.zero_le _) (λk _ hk=>?_) (λ_=>?_)]
 ·rw [aB];cases e:(List.range' 0 (v.length - 0)).findSome? (λk:Nat=>bif P (v[k]?.getD 0) then some (k:Int) else none) with
  |none=>
   refine ⟨-1,rfl,?_⟩;rw [List.findSome?_eq_none_iff] at e
   have:v.any P=false:=by
    rw [List.any_eq_false];intro x hx;obtain ⟨k,hk,rfl⟩:=List.mem_iff_getElem.1 hx;have:=e k (by simp;omega);simp only [gI hk,iA] at this;cases hp:P v[k] with
    |false=>simp
    |true=>rw [hp] at this;cases this
   rw [this];rfl
  |some i=>
   refine ⟨i,rfl,?_⟩;obtain ⟨k,hk,he⟩:=List.exists_of_findSome?_eq_some e;simp at hk;have hkl:k<v.length:=by omega
   rw [gI hkl] at he;simp only [iA] at he;cases hp:P v[k] with
   |false=>rw [hp] at he;cases he
   |true=>
    rw [hp] at he;cases he;rw [bH (by omega),eq_comm,List.any_eq_true];exact ⟨_,List.getElem_mem hkl,hp⟩
 ·unfold cK;rw [iO hk,aR,iN 0 hk,aB,hf,aB];cases P _ <;> rfl
 ·unfold cK;rw [jU (bN _),aZ]
theorem aCZ {v:List Int} (h:bI v) (a b:Int):jA v a b=some (v.all λx=>inR x a b):=by
 unfold jA kM;obtain ⟨i,h1,h2⟩:=aRP (f:=λb0=>nX b0 a b) (λx=> !inR x a b) (λx=>by simp only [nX];rw [aCY,aB]) h;rw [h1,aB,aB,h2,List.not_any_eq_all_not];simp
theorem aOw (p:Int) {v:List Int} (h:bI v):tT p v=some (mU p&&decide (v.length≤64)&&v.all λx=>inR x 0 (wr (p - 1))):=by
 unfold tT;rw [aHC,aB,aCZ h,aB,aDh,aDh,Bool.and_assoc];congr 3;rw [Bool.eq_iff_iff,hZ,hZ];omega
def aCn (p:Int) (m:Mt):Bool:=inR m.rows 0 8&&(inR m.cols 0 8&&(decide ((m.cells.length:Int)=wr (m.rows*m.cols))&&(mU p&&decide (m.cells.length≤64)&&m.cells.all λx=>inR x 0 (wr (p - 1)))))
theorem aEr (p:Int) {m:Mt} (h:bM m):jY p m=some (aCn p m):=by
 unfold jY aCn;rw [aBq,aB];refine gF λ_=>?_;rw [aBq,aB];refine gF λ_=>?_;refine gF λ_=>?_;rw [aKH p h.1,aB]
theorem aUx (p:Int) {m:Mt} (h:bM m):yY p m=some (aCn p m):=by
 unfold yY aCn;rw [aCY,aB];refine gF λ_=>?_;rw [aCY,aB];refine gF λ_=>?_;refine gF λ_=>?_;rw [aOw p h.1,aB]
theorem aMo {p:Int} {m:Mt} (h:aCn p m=true):mU p=true∧ ∃ (r c:Nat) (F:Nat→Nat→Int),r≤8∧c≤8∧m=⟨r,c,cD r c F⟩∧ ∀ i j,i<r→j<c→0≤F i j∧F i j<p:=by
 unfold aCn at h;simp only [dA,hZ,List.all_eq_true] at h;obtain ⟨h1,h2,h3,⟨h4,h5⟩,h6⟩:=h;have h1:=lF h1;have h2:=lF h2;refine ⟨h4,m.rows.toNat,m.cols.toNat,λi j=>m.cells[i*m.cols.toNat+j]?.getD 0,by omega,by omega,?_,?_⟩
 ·obtain ⟨a,b,l⟩:=m;simp only at*;obtain ⟨r,rfl⟩:=Int.eq_ofNat_of_zero_le h1.1;obtain ⟨c,rfl⟩:=Int.eq_ofNat_of_zero_le h2.1;have hb:r*c≤64:=Nat.mul_le_mul (by omega:r≤8) (by omega:c≤8);rw [aLB (by omega)] at h3;simp only [eX];rw [←aXv (by omega)]
 ·intro i j hi hj;show 0≤m.cells[i*m.cols.toNat+j]?.getD 0∧m.cells[i*m.cols.toNat+j]?.getD 0<p;have hx:=aEF hi hj
  have e:((m.rows.toNat*m.cols.toNat:Nat):Int)=m.rows*m.cols:=by
   rw [Int.natCast_mul,Int.toNat_of_nonneg h1.1,Int.toNat_of_nonneg h2.1]
  have hb:m.rows.toNat*m.cols.toNat≤64:=Nat.mul_le_mul (by omega:m.rows.toNat≤8) (by omega:m.cols.toNat≤8);rw [eY (by omega)] at h3;have hl:i*m.cols.toNat+j<m.cells.length:=by omega
  have:=lF (h6 _ (List.getElem_mem hl));rw [gI hl,iA];have hp:=fF h4;rw [eY (by omega)] at this;omega
def aKo (q:Qv):Bool:=inR q.n 1 5&&(decide ((q.src.length:Int)=(q.tgt.length:Int))&&(decide ((q.src.length:Int)≤6)&&((q.src.all λx=>inR x 0 (wr (q.n - 1)))&&(q.tgt.all λx=>inR x 0 (wr (q.n - 1))))))
theorem aYJ {q:Qv} (h:bQ q):yZ q=some (aKo q):=by
 unfold yZ aKo;rw [aCY,aB];refine gF λ_=>gF λ_=>gF λ_=>?_;rw [aCZ h.1,aB];refine gF λ_=>?_;rw [aCZ h.2.1,aB]
theorem aYK {q:Qv} (h:bQ q):yU q=some (aKo q):=by
 obtain ⟨h1,h2,_⟩:=h;unfold bI at h1 h2;unfold yU;rw [xW (n:=min q.src.length q.tgt.length) (λk=>inR (q.src[k]?.getD 0) 0 (wr (q.n - 1))&&inR (q.tgt[k]?.getD 0) 0 (wr (q.n - 1))) false (by omega) (λk hk=>?_) (λ_=>?_)]
 ·rw [aB];unfold aKo;by_cases e:q.src.length=q.tgt.length
  ·have e2:min q.src.length q.tgt.length=q.src.length:=by omega
   have hall:(List.range q.src.length).all (λk=>inR (q.src[k]?.getD 0) 0 (wr (q.n - 1))&&inR (q.tgt[k]?.getD 0) 0 (wr (q.n - 1)))=((q.src.all λx=>inR x 0 (wr (q.n - 1)))&&(q.tgt.all λx=>inR x 0 (wr (q.n - 1)))):=by
    rw [←aDS 0 q.src,←aDS 0 q.tgt,←e];rw [Bool.eq_iff_iff,dA,tZ,tZ,tZ];simp only [dA];exact ⟨λh=>⟨λk hk=>(h k hk).1,λk hk=>(h k hk).2⟩,λh k hk=>⟨h.1 k hk,h.2 k hk⟩⟩
   rw [e2,hall,bH (by omega:(q.src.length:Int)=(q.tgt.length:Int))];cases (q.src.all λx=>inR x 0 (wr (q.n - 1)))&&(q.tgt.all λx=>inR x 0 (wr (q.n - 1))) with
   |false=>simp
   |true=>
    simp only [aR,Sum.elim_inl];rw [aBq,aB,bH (by omega:(q.tgt.length:Int)=(q.src.length:Int)),aDh,aDh];simp
  ·rw [dF (by omega: ¬ (q.src.length:Int)=(q.tgt.length:Int))];simp only [Bool.false_and,Bool.and_false];cases (List.range (min q.src.length q.tgt.length)).all _ with
   |false=>rfl
   |true=>
    simp only [aR,Sum.elim_inl];rw [aBq,aB,dF (by omega: ¬ (q.tgt.length:Int)=(q.src.length:Int)),aDh,aDh];simp
 ·unfold rZ;rw [iO (by omega),aR,iO (by omega),aR,iN 0 (by omega),aB,aBq,aB,iN 0 (by omega),aB,aBq,aB];cases inR (q.src[k]?.getD 0) 0 (wr (q.n - 1)) <;> cases inR (q.tgt[k]?.getD 0) 0 (wr (q.n - 1)) <;> rfl
 ·unfold rZ;by_cases e:q.src.length≤q.tgt.length
  ·rw [jU (by omega),aZ]
  ·rw [iO (by omega),aR,jU (by omega),aZ]
theorem aGP {q:Qv} (h:aKo q=true): ∃ n:Nat,q.n=n∧1≤n∧n≤5∧q.src.length=q.tgt.length∧q.src.length≤6∧(∀ x∈q.src,0≤x∧x<n)∧ ∀ x∈q.tgt,0≤x∧x<n:=by
 unfold aKo at h;simp only [dA,hZ,List.all_eq_true] at h;obtain ⟨h1,h2,h3,h4,h5⟩:=h;have h1:=lF h1;rw [eY (by omega)] at h4 h5;refine ⟨q.n.toNat,by omega,by omega,by omega,by omega,by omega,λx hx=>?_,λx hx=>?_⟩
 ·have:=lF (h4 x hx);omega
 ·have:=lF (h5 x hx);omega
def aHh (q:Qv) (d:List Int):Bool:=aKo q&&(decide ((d.length:Int)=q.n)&&((d.all λx=>inR x 0 4)&&decide (d.sum≤8)))
theorem aSv {d:List Int} (h: ∀ x∈d,0≤x∧x≤4):0≤d.sum∧d.sum≤4*d.length:=by
 induction d with
 |nil=>simp
 |cons x d ih=>
  have h1:=h x (by simp);have h2:=ih λy hy=>h y (by simp [hy]);simp only [List.sum_cons,List.length_cons];omega
theorem aGQ {d:List Int} {k:Nat} (hk:k<d.length):(d.take (k+1)).sum=(d.take k).sum +d[k]?.getD 0:=by
 rw [yB hk,List.sum_append];simp [hk]
theorem aTy {d:List Int} (h: ∀ x∈d,0≤x∧x≤4) (hl:d.length≤1048576):aAx d=some d.sum:=by
 unfold aAx;rw [cZ (r:=d.sum) (λk=>((d.take k).sum,(k:Int))) d.length (by simp) (λk hk=>?_) (λ_=>?_)];rfl
 ·unfold yT;simp only;rw [iO hk,aR,iN 0 hk,aB,cA hk (by omega)];have h1:=aSv (d:=d.take (k+1)) λx hx=>h x (List.mem_of_mem_take hx);rw [←aGQ hk,eY (by simp at h1;omega)]
 ·unfold yT;simp only;rw [jU (bN _),aZ,List.take_length]
theorem aSw {q:Qv} {d:List Int} (hq:bQ q) (hd:bI d):aBA q d=some (aHh q d):=by
 unfold aBA aHh;rw [aYJ hq,aB];refine gF λ_=>gF λ_=>?_;rw [aCZ hd,aB];refine gF λh=>?_;rw [aTy (λx hx=>lF (List.all_eq_true.1 h x hx)) hd,aB]
theorem aSx {q:Qv} {d:List Int} (hq:bQ q) (hd:bI d):aAy q d=some (aHh q d):=by
 unfold bI at hd;unfold aAy aHh;rw [aYK hq,aB];refine jO λ_=>jO λ_=>?_;cases hall:d.all (λx=>inR x 0 4) with
 |true=>
  have hb: ∀ x∈d,0≤x∧x≤4:=λx hx=>lF (List.all_eq_true.1 hall x hx);rw [cZ (r:= .inl d.sum) (λk=>((d.take k).sum,(k:Int))) d.length (by simp) (λk hk=>?_) (λ_=>?_)];rfl
  ·unfold lY;simp only;rw [iO hk,aR,iN 0 hk,aB,aBq,aB];have hin:inR (d[k]?.getD 0) 0 4=true:=by rw [gI hk];exact List.all_eq_true.1 hall _ (List.getElem_mem hk)
   rw [hin,eD,aZ,aB,cA hk (by omega)];have h1:=aSv (d:=d.take (k+1)) λx hx=>hb x (List.mem_of_mem_take hx);rw [←aGQ hk,eY (by simp at h1;omega)]
  ·unfold lY;simp only;rw [jU (bN _),aZ,List.take_length]
 |false=>
  have key:=aPk (body:=lY d) (s:=(0,0)) (λs=> ∃ k:Nat,s.2=k∧k≤d.length∧ ∀ j,j<k→inR (d[j]?.getD 0) 0 4=true) (λs=>d.length - s.2.toNat) (λr=>r= .inr false)
   ⟨0,rfl,Nat.zero_le _,λj hj=>absurd hj (Nat.not_lt_zero _)⟩ (λs ⟨k,hs,hk,hj⟩=>?_)
  ·obtain ⟨r,h1,h2⟩:=key;rw [h1,h2];rfl
  ·obtain ⟨t,s2⟩:=s;simp only at hs;subst hs;rcases dZ k d.length with hlt|hge
   ·unfold lY;simp only;rw [iO hlt,aR,iN 0 hlt,aB,aBq,aB];cases hin:inR (d[k]?.getD 0) 0 4 with
    |false=>exact .inr ⟨_,rfl,rfl⟩
    |true=>
     rw [eD,aZ,aB,cA hlt (by omega)];refine .inl ⟨_,rfl,⟨k+1,rfl,hlt,λj hj2=>?_⟩,by simp;omega⟩;by_cases e:j=k
     ·subst e;exact hin
     ·exact hj j (by omega)
   ·exfalso
    have:d.all (λx=>inR x 0 4)=true:=by
     rw [←aDS 0 d,tZ];exact λj hj'=>hj j (by omega)
    rw [hall] at this;cases this
theorem aAl {q:Qv} {d:List Int} (h:aHh q d=true):aKo q=true∧(d.length:Int)=q.n∧(∀ x∈d,0≤x∧x≤4)∧d.sum≤8:=by
 unfold aHh at h;simp only [dA,hZ,List.all_eq_true] at h;exact ⟨h.1,h.2.1,λx hx=>lF (h.2.2.1 x hx),h.2.2.2⟩
def aBC (r:Rp):Bool:=mU r.p&&(aHh r.q r.dims&&(decide ((r.maps.length:Int)=(r.q.src.length:Int))&&(List.range r.maps.length).all λk=>
 aCn r.p (r.maps[k]?.getD ⟨0,0,[]⟩)&&(decide ((r.maps[k]?.getD ⟨0,0,[]⟩).cols=r.dims[(r.q.src[k]?.getD 0).toNat]?.getD 0)&&decide ((r.maps[k]?.getD ⟨0,0,[]⟩).rows=r.dims[(r.q.tgt[k]?.getD 0).toNat]?.getD 0))))
theorem fL {α:Type} {l:List α} {k:Nat} (d:α) (h:k<l.length):l[k]?.getD d∈l:=by rw [gI h];exact List.getElem_mem h
theorem aHD {r:Rp} (h:bR r):sD r=some (aBC r):=by
 obtain ⟨h1,h2,⟨h3,h4⟩,_⟩:=h;unfold sD aBC;rw [aJC,aB];refine jO λhF=>?_;rw [aSx h1 h2,aB];refine jO λhD=>?_;obtain ⟨hQ,hd1,hd2,_⟩:=aAl hD;obtain ⟨n,hn,_,_,hq1,hq2,hq3,hq4⟩:=aGP hQ;refine jO λhL=>?_;have hL:=of_decide_eq_true hL;rw [xW (λk=>aCn r.p (r.maps[k]?.getD ⟨0,0,[]⟩)&&(decide ((r.maps[k]?.getD ⟨0,0,[]⟩).cols=r.dims[(r.q.src[k]?.getD 0).toNat]?.getD 0)&&decide ((r.maps[k]?.getD ⟨0,0,[]⟩).rows=r.dims[(r.q.tgt[k]?.getD 0).toNat]?.getD 0))) false (n:=r.maps.length) (by omega) (λk hk=>?_) (λ_=>?_),aB]
 ·cases (List.range r.maps.length).all _ <;> rfl
 ·have hs:=hq3 _ (fL 0 (show k<r.q.src.length by omega));have ht:=hq4 _ (fL 0 (show k<r.q.tgt.length by omega));unfold yX;rw [iO hk,aR,iN ⟨0,0,[]⟩ hk,aB,aEr _ (h4 _ (fL _ hk)),aB,aB,iN 0 (by omega),aB,atI 0 hs.1 (by omega),aB,aB,iN 0 (by omega),aB,atI 0 ht.1 (by omega),aB];cases aCn r.p _ <;> cases decide ((r.maps[k]?.getD _).cols=_) <;> cases decide ((r.maps[k]?.getD _).rows=_) <;> rfl
 ·unfold yX;rw [jU (bN _),aZ]
theorem aHE {r:Rp} (h:bR r):sE r=some (aBC r):=by
 obtain ⟨h1,h2,⟨h3,h4⟩,_⟩:=h;unfold sE aBC;rw [aHC,aB];refine jO λhF=>?_;rw [aSw h1 h2,aB];refine jO λhD=>?_;obtain ⟨hQ,hd1,hd2,_⟩:=aAl hD;obtain ⟨n,hn,_,_,hq1,hq2,hq3,hq4⟩:=aGP hQ;refine jO λhL=>?_;have hL:=of_decide_eq_true hL;rw [xW (λk=>aCn r.p (r.maps[k]?.getD ⟨0,0,[]⟩)&&(decide ((r.maps[k]?.getD ⟨0,0,[]⟩).cols=r.dims[(r.q.src[k]?.getD 0).toNat]?.getD 0)&&decide ((r.maps[k]?.getD ⟨0,0,[]⟩).rows=r.dims[(r.q.tgt[k]?.getD 0).toNat]?.getD 0))) false (n:=r.maps.length) (by omega) (λk hk=>?_) (λ_=>?_),aB]
 ·cases (List.range r.maps.length).all _ <;> rfl
 ·have hs:=hq3 _ (fL 0 (show k<r.q.src.length by omega));have ht:=hq4 _ (fL 0 (show k<r.q.tgt.length by omega));unfold zA;rw [iO hk,aR,iN ⟨0,0,[]⟩ hk,aB,aUx _ (h4 _ (fL _ hk)),aB,iN 0 (by omega),aB,atI 0 hs.1 (by omega),aB,iN 0 (by omega),aB,atI 0 ht.1 (by omega),aB];cases aCn r.p _ <;> cases decide ((r.maps[k]?.getD _).cols=_) <;> cases decide ((r.maps[k]?.getD _).rows=_) <;> rfl
 ·unfold zA;rw [jU (bN _),aZ]
theorem aHF {a b:Rp} (ha:bR a) (hb:bR b):kX a b=some (aBC a&&(aBC b&&(decide (a.p=b.p)&&decide (a.q=b.q)))):=by
 unfold kX;rw [aHD ha,aB];refine gF λ_=>?_;rw [aHD hb,aB];refine gF λ_=>gF λ_=>?_;rw [aUv ha.1,aB]
theorem aWd {a b:Rp} (ha:bR a) (hb:bR b):vY a b=some (aBC a&&(aBC b&&(decide (a.p=b.p)&&decide (a.q=b.q)))):=by
 unfold vY;rw [aHE ha,aB];refine gF λ_=>?_;rw [aHE hb,aB];refine gF λ_=>gF λ_=>?_;rw [aUw ha.1,aB]
end
noncomputable section
theorem aNx {a b:Int} (ha:0≤a∧a≤5) (hb:0≤b∧b≤5):0≤a*b∧a*b≤25:=by
 refine ⟨Int.mul_nonneg ha.1 hb.1,?_⟩;have:=Int.mul_le_mul ha.2 hb.2 hb.1 (by decide:(0:Int)≤5);omega
theorem wZ {x p:Int} (hp:mU p=true):0≤x % p∧x % p<p:=by
 have:=fF hp;exact ⟨Int.emod_nonneg _ (by omega),Int.emod_lt_of_pos _ (by omega)⟩
theorem aDJ {p x:Int} (hp:mU p=true) (hx: -4611686018427387904≤x∧x≤4611686018427387904):iH p x=some (x % p):=by
 have hb:=fF hp;have hr:=aMP x p (by omega);unfold iH;rw [dF (by omega),Bool.not_false,aR];rcases aMQ x p (by omega) with ⟨h,e⟩|⟨h,e⟩
 ·rw [dF (by omega),aZ,e]
 ·rw [bH h,aR,eY (by omega),e];congr 1;omega
theorem aRQ {p x:Int} (hp:mU p=true):wQ p x=some (x % p):=by
 have hb:=fF hp;have hr:=aMP x p (by omega);unfold wQ;rw [aHC,hp,aB,eD,aZ,dF (by omega),Bool.not_false,aR,aR,eY (by omega),aUk _ _ (by omega)]
theorem aSy {p x:Int} (hp:mU p=true) {k:Nat} (hk:k≤1000):yW p x k=some (aPl p (x % p) k):=by
 have hb:=fF hp;unfold yW;rw [aHC,hp,aB,eD,aZ,aCY,xV (by omega) (by omega),aB,eD,aZ];rw [cZ (r:=aPl p (x % p) k) (λt=>(aPl p (x % p) t,(t:Int))) k (by rfl) (λt ht=>?_) (λ_=>?_),aB]
 ·unfold sB;simp only;have h1:=aTo hp (wZ (x:=x) hp) t;have h2:=wZ (x:=x) hp;have h3:=aNx (a:=aPl p (x % p) t) (b:=x % p) (by omega) (by omega);rw [iO ht,aR,aRQ hp,aB,dF (by omega),Bool.not_false,aR,cA ht (by omega),eY (by omega),Int.tmod_eq_emod_of_nonneg h3.1];rfl
 ·unfold sB;simp only;rw [jU (bN _),aZ]
theorem aUy {p x:Int} (hp:mU p=true):uY p x=some (aEj p (x % p)):=by
 have hb:=fF hp;unfold uY aEj;rw [aHC,hp,aB,eD,aZ,eY (by omega)];have e:max (p - 2) 1=(((max (p - 2) 1).toNat:Nat):Int):=by omega
 rw [e,aSy hp (by omega),aB,eX]
theorem aUz {p x:Int} (hp:mU p=true) (hx: -4611686018427387904≤x∧x≤4611686018427387904):lX p x=some (aEj p (x % p)):=by
 have hb:=fF hp;have h2:=wZ (x:=x) hp;obtain ⟨n,hn⟩: ∃ n:Nat,p=n:=⟨p.toNat,by omega⟩;unfold lX;rw [aAi (s0:=1) (s:=1) (n:=n) (λk:Nat=>bif decide ((x % p*k) % p=1) then some (k:Int) else none) rfl (by omega) (by omega) (λk h1 hk=>?_) (λ_=>?_),aB]
 ·cases e:(List.range' 1 (n - 1)).findSome? (λk:Nat=>bif decide ((x % p*k) % p=1) then some (k:Int) else none) with
  |none=>
   rw [List.findSome?_eq_none_iff] at e;rw [aWI hp h2 λy h3 h4 h5=>?_];rfl;have:=e y (by simp;omega);rw [bH h5] at this;cases this
  |some i=>
   obtain ⟨k,hk,he⟩:=List.exists_of_findSome?_eq_some e;simp at hk;cases hd:decide ((x % p*k) % p=1) with
   |false=>rw [hd] at he;cases he
   |true=>
    rw [hd] at he;cases he;rw [aXt hp h2 (y:=k) (by omega) (of_decide_eq_true hd)];rfl
 ·unfold lI;have h3:=aNx (a:=x % p) (b:=k) (by omega) (by omega);rw [bH (by omega),aR,aJC,hp,aB,aR,aDJ hp hx,aB,eY (by omega),aDJ hp (by omega),aB];cases decide (x % p*k % p=1) <;> rfl
 ·unfold lI;rw [dF (by omega),aZ]
theorem aMp {r c i:Nat} (hi:i<r):(i+1)*c≤r*c:=Nat.mul_le_mul_right c hi
theorem ixw {r c i j:Nat} (hN:r*c≤1048576) (hi:i<r) (hj:j<c):wr (wr ((i:Int)*(c:Int))+(j:Int))=((i*c+j:Nat):Int):=wix (by have:=aEF hi hj;omega)
theorem atT {r c i j:Nat} (hN:r*c≤1048576) (hi:i<r) (hj:j<c) (F:Nat→Nat→Int):cJ (cD r c F) (wr (wr ((i:Int)*(c:Int))+(j:Int)))=some (F i j):=by rw [ixw hN hi hj,aXu F hi hj]
theorem aRR {r c i j:Nat} (hN:r*c≤1048576) (hi:i<r) (hj:j<c) (F:Nat→Nat→Int) (v:Int):(cD r c F).set (wr (wr ((i:Int)*(c:Int))+(j:Int))).toNat v=cD r c (aHx F i j v):=by rw [ixw hN hi hj,eX,aEk F v hi hj]
theorem xX {r c i:Nat} (hN:r*c≤1048576) (hi:i<r):wr ((i:Int)*(c:Int))=((i*c:Nat):Int):=aLB (by have:= @aMp r c i hi;rw [Nat.succ_mul] at this;omega)
theorem aBD {r c i:Nat} (hN:r*c≤1048576) (hr:r≤1048576) (hi:i<r):wr (wr ((i:Int)+1)*(c:Int))=((i*c+c:Nat):Int):=by
 have:= @aMp r c i hi;rw [cA hi (by omega),aLB (by omega),Nat.succ_mul]
def eP (c:Nat) (f:Nat→Int):List Int:=(List.range c).map f
theorem dM (c:Nat) (f:Nat→Int):(eP c f).length=c:=by simp [eP]
theorem aDK {c:Nat} (f:Nat→Int) {j:Nat} (h:j<c):cJ (eP c f) (j:Int)=some (f j):=by rw [dS (by rw [dM];exact h)];simp [eP]
theorem aKp {r c i:Nat} (hN:r*c≤1048576) (hr:r≤1048576) (hi:i<r) (F:Nat→Nat→Int):dK ⟨r,c,cD r c F⟩ i=some ():=by
 have:= @aMp r c i hi;rw [Nat.succ_mul] at this;unfold dK;simp only;rw [xX hN hi,aBD hN hr hi,eN,bH (by omega),bH (by omega:((i*c:Nat):Int)≤((i*c+c:Nat):Int)),bH (by omega:((i*c+c:Nat):Int)≤((r*c:Nat):Int))];rfl
theorem aWe {r c i:Nat} (hN:r*c≤1048576) (hr:r≤1048576) (hi:i<r) (F:Nat→Nat→Int):aJy ⟨r,c,cD r c F⟩ i=some (eP c (F i)):=by
 have h:= @aMp r c i hi;rw [Nat.succ_mul] at h;unfold aJy aCV aGL;simp only;rw [xX hN hi,aBD hN hr hi,eN,bH (by omega),bH (by omega:((i*c:Nat):Int)≤((i*c+c:Nat):Int)),bH (by omega:((i*c+c:Nat):Int)≤((r*c:Nat):Int))];simp only [Bool.and_self,aR,eX];congr 1;refine List.ext_getElem (by simp [eN,dM];omega) λt h1 h2=>?_;rw [dM] at h2;rw [List.getElem_take,List.getElem_drop];simp [cD,eP,aDZ h2,aDa h2]
def aLN (p:Int) (F:Nat→Nat→Int) (i:Nat) (k:Int) (g:Nat→Int):Nat→Nat→Int:=λa b=>if a=i then (F i b+k*g b) % p else F a b
theorem gd (x:Nat):(decide (0≤(x:Int))&&true)=true:=by rw [bH (by omega)];rfl
theorem aVA {p:Int} (hp:mU p=true):(!decide (p=0))=true:=by have:=fF hp;rw [dF (by omega)];rfl
theorem aJD {p:Int} (hp:mU p=true) {r c i:Nat} (hc:c≤1048576) (hi:i<r) {F:Nat→Nat→Int} {g:Nat→Int} {k:Int} (hk:0≤k∧k≤5) (hF: ∀ b,b<c→0≤F i b∧F i b<p) (hg: ∀ b,b<c→0≤g b∧g b<p):
  eO p (cD r c F) (i*c) c k (eP c g)=some (cD r c (aLN p F i k g)):=by
 have hb:=fF hp;unfold eO;rw [cZ (r:=cD r c (aLN p F i k g)) (λx=>(cD r c (λa b=>if a=i∧b<x then (F i b+k*g b) % p else F a b),(x:Int))) c (by simp) (λx hx=>?_) (λ_=>?_)];rfl
 ·have h1:=hF x hx;have h2:=hg x hx;have h3:=aNx hk (show 0≤g x∧g x≤5 by omega);unfold kG;simp only;rw [dM,iO hx,aR,aDK _ hx,aB,gd x,aR,eX,nQ _ hi hx,aB,aVA hp,aR,aR,aB,aEk _ _ hi hx,cA hx (by omega)];rw [aX (by omega),eY (x:=k*g x) (by omega),eY (by omega),Int.tmod_eq_emod_of_nonneg (by omega)];congr 3;refine cH λa b ha hb=>?_;simp only [aHx];by_cases e1:a=i∧b=x
  ·obtain ⟨rfl,rfl⟩:=e1;rw [aV ⟨rfl,rfl⟩,aV ⟨rfl,by omega⟩]
  ·rw [aX e1];by_cases e2:a=i∧b<x
   ·rw [aV e2,aV ⟨e2.1,by omega⟩]
   ·rw [aX e2,aX (by omega)]
 ·unfold kG;simp only;rw [dM,jU (bN _),aZ];congr 2;refine cH λa b ha hb=>?_;simp only [aLN];by_cases e:a=i
  ·rw [aV ⟨e,hb⟩,aV e]
  ·rw [aX (by omega),aX e]
theorem aVB {p:Int} (hp:mU p=true) {r c i j:Nat} (hc:c≤1048576) (hi:i<r) (hj:j<r) (hij:i≠j) {F:Nat→Nat→Int} {k:Int} (hk:0≤k∧k≤5) (hF: ∀ b,b<c→0≤F i b∧F i b<p) (hg: ∀ b,b<c→0≤F j b∧F j b<p):
  lU p (cD r c F) (i*c) c k (j*c) c=some (cD r c (aLN p F i k (F j))):=by
 have hb:=fF hp;unfold lU;rw [cZ (r:=cD r c (aLN p F i k (F j))) (λx=>(cD r c (λa b=>if a=i∧b<x then (F i b+k*F j b) % p else F a b),(x:Int))) c (by simp) (λx hx=>?_) (λ_=>?_)];rfl
 ·have h1:=hF x hx;have h2:=hg x hx;have h3:=aNx hk (show 0≤F j x∧F j x≤5 by omega);unfold jN;simp only;rw [iO hx,aR,gd x,aR,eX,nQ _ hj hx,aB,aR,nQ _ hi hx,aB,aVA hp,aR,aR,aB,aEk _ _ hi hx,cA hx (by omega)];rw [aX (by omega),aX (by omega),eY (x:=k*F j x) (by omega),eY (by omega),Int.tmod_eq_emod_of_nonneg (by omega)];congr 3;refine cH λa b ha hb=>?_;simp only [aHx];by_cases e1:a=i∧b=x
  ·obtain ⟨rfl,rfl⟩:=e1;rw [aV ⟨rfl,rfl⟩,aV ⟨rfl,by omega⟩]
  ·rw [aX e1];by_cases e2:a=i∧b<x
   ·rw [aV e2,aV ⟨e2.1,by omega⟩]
   ·rw [aX e2,aX (by omega)]
 ·unfold jN;simp only;rw [jU (bN _),aZ];congr 2;refine cH λa b ha hb=>?_;simp only [aLN];by_cases e:a=i
  ·rw [aV ⟨e,hb⟩,aV e]
  ·rw [aX (by omega),aX e]
theorem aWf {r c:Nat} (hN:r*c≤1048576):(decide (0≤wr ((r:Int)*(c:Int)))&&decide (wr ((r:Int)*(c:Int))≤1048576))=true:=by
 rw [aLB (by omega),bH (by omega),bH (by omega)];rfl
theorem aMq {r c:Nat} (hN:r*c≤1048576):iY r c=some ⟨r,c,cD r c λ_ _=>0⟩:=by
 unfold iY;rw [aWf hN,aR,aLB (by omega),eX,aOd]
theorem aMr {r c:Nat} (hN:r*c≤1048576):jI r c=some ⟨r,c,cD r c λ_ _=>0⟩:=by
 unfold jI;rw [aWf hN,aR,aLB (by omega),eX,aOd]
def aDi (F G:Nat→Nat→Int) (i j:Nat):Nat→Int
 |0=>0
 |k+1=>aDi F G i j k+F i k*G k j
def aRS (p:Int) (F G:Nat→Nat→Int) (i j:Nat):Nat→Int
 |0=>0
 |k+1=>(aRS p F G i j k+F i k*G k j) % p
theorem aPx {p:Int} (hp:mU p=true) (F G:Nat→Nat→Int) (i j:Nat): ∀ k,aRS p F G i j k=aDi F G i j k % p
 |0=>by simp [aRS,aDi]
 |k+1=>by rw [aRS,aDi,aPx hp F G i j k];simp [Int.add_emod]
theorem aPy {p:Int} (hp:mU p=true) {F G:Nat→Nat→Int} {i j:Nat} : ∀ {k:Nat},(∀ t,t<k→0≤F i t∧F i t<p)→(∀ t,t<k→0≤G t j∧G t j<p)→0≤aDi F G i j k∧aDi F G i j k≤25*k
 |0,_,_=>by simp [aDi]
 |k+1,hF,hG=>by
  have hb:=fF hp;have h:=aPy hp (k:=k) (λt ht=>hF t (by omega)) (λt ht=>hG t (by omega));have h1:=hF k (by omega);have h2:=hG k (by omega);have h3:=aNx (a:=F i k) (b:=G k j) (by omega) (by omega);rw [aDi];omega
def aBd (p:Int) (n:Nat) (F G:Nat→Nat→Int):Nat→Nat→Int:=λi j=>aDi F G i j n % p
theorem aLp {p:Int} (hp:mU p=true) (n:Nat) (F G:Nat→Nat→Int) (m c:Nat):InP p m c (aBd p n F G):=λi j _ _=>wZ hp
theorem xA {p:Int} (hp:mU p=true) {r n c:Nat} (h1:r*n≤1048576) (h2:n*c≤1048576) (h3:r*c≤1048576) (hr:r≤1048576) (hn:n≤1048576) (hc:c≤1048576) {F G:Nat→Nat→Int} (hF:InP p r n F) (hG:InP p n c G):
  gX p ⟨r,n,cD r n F⟩ ⟨n,c,cD n c G⟩=some ⟨r,c,cD r c (aBd p n F G)⟩:=by
 have hb:=fF hp;unfold gX;simp only;rw [aMr h3,aB];simp only;rw [cZ (r:=cD r c (aBd p n F G)) (λi=>(cD r c (λa b=>if a<i then aBd p n F G a b else 0),(i:Int))) r (by simp) (λi hi=>?_) (λ_=>?_),aB]
 ·unfold pN;simp only;rw [iO hi,aR];rw [cZ (r:=cD r c (λa b=>if a<i+1 then aBd p n F G a b else 0)) (λj=>(cD r c (λa b=>if a<i∨(a=i∧b<j) then aBd p n F G a b else 0),(j:Int))) c (by simp) (λj hj=>?_) (λ_=>?_),aB,cA hi (by omega)]
  ·unfold pM;simp only;rw [iO hj,aR];have hbd:=aPy hp (F:=F) (G:=G) (i:=i) (j:=j) (k:=n) (λt ht=>hF i t hi ht) (λt ht=>hG t j ht hj);rw [cZ (r:=aDi F G i j n) (λk=>(aDi F G i j k,(k:Int))) n (by simp [aDi]) (λk hk=>?_) (λ_=>?_),aB,aDJ hp (by omega),aB,atT h3 hi hj,aB,aRR h3 hi hj,cA hj (by omega)]
   ·congr 3;refine cH λa b ha hb=>?_;simp only [aHx];by_cases e:a=i∧b=j
    ·rw [aV e,aV (by omega),e.1,e.2];rfl
    ·rw [aX e];by_cases e2:a<i∨a=i∧b<j
     ·rw [aV e2,aV (by omega)]
     ·rw [aX e2,aX (by omega)]
   ·unfold pL;simp only;have g1:=hF i k hi hk;have g2:=hG k j hk hj;have g3:=aNx (a:=F i k) (b:=G k j) (by omega) (by omega);have g4:=aPy hp (F:=F) (G:=G) (i:=i) (j:=j) (k:=k) (λt ht=>hF i t hi (by omega)) (λt ht=>hG t j (by omega) hj);rw [iO hk,aR,atT h1 hi hk,aB,atT h2 hk hj,aB,cA hk (by omega),eY (x:=F i k*G k j) (by omega),eY (by omega)];rfl
   ·unfold pL;simp only;rw [jU (bN _),aZ]
  ·unfold pM;simp only;rw [jU (bN _),aZ];congr 2;refine cH λa b ha hb=>?_;by_cases e:a<i+1
   ·rw [aV e,aV (by omega)]
   ·rw [aX e,aX (by omega)]
 ·unfold pN;simp only;rw [jU (bN _),aZ];congr 2;exact cH λa b ha hb=>by rw [aV ha]
theorem aLq {p:Int} (hp:mU p=true) {r n c:Nat} (h1:r*n≤1048576) (h2:n*c≤1048576) (h3:r*c≤1048576) (hr:r≤1048576) (hn:n≤1048576) (hc:c≤1048576) {F G:Nat→Nat→Int} (hF:InP p r n F) (hG:InP p n c G):
  sH p ⟨r,n,cD r n F⟩ ⟨n,c,cD n c G⟩=some ⟨r,c,cD r c (aBd p n F G)⟩:=by
 have hb:=fF hp;have hD: ∀ i j,aRS p F G i j n=aBd p n F G i j:=λi j=>aPx hp F G i j n;unfold sH;simp only;rw [aMq h3,aB];simp only;rw [cZ (r:=cD r c (aBd p n F G)) (λi=>(cD r c (λa b=>if a<i then aBd p n F G a b else 0),(i:Int))) r (by simp) (λi hi=>?_) (λ_=>?_),aB]
 ·unfold zD;simp only;rw [iO hi,aR,aWe h1 hr hi,aB];rw [cZ (r:=cD r c (λa b=>if a<i+1 then aBd p n F G a b else 0)) (λk=>(cD r c (λa b=>if a<i then aBd p n F G a b else if a=i then aRS p F G i b k else 0),(k:Int))) n ?_ (λk hk=>?_) (λ_=>?_),aB,cA hi (by omega)]
  ·congr 1
   exact cH λa b ha hb=>by
    by_cases e:a<i
    ·rw [aV e,aV e]
    ·rw [aX e,aX e];simp [aRS]
  ·unfold zB;simp only;have g1:=hF i k hi hk;rw [dM,iO hk,aR,aDK _ hk,aB,aKp h3 hr hi,aB,aWe h2 hn hk,aB,Nat.zero_add,xX h3 hi,aBD h3 hr hi,eX,eX,show i*c+c - i*c=c by omega];rw [aJD hp hc hi (by omega) (λb hb=>?_) (λb hb=>hG k b hk hb),aB,eN,eN,bH rfl,aR,cA hk (by omega)]
   ·congr 3;refine cH λa b ha hb=>?_;simp only [aLN];by_cases e:a=i
    ·subst e;simp [aRS]
    ·rw [aX e,aX e,aX e]
   ·rw [aX (by omega),aV rfl,aPx hp];exact wZ hp
  ·unfold zB;simp only;rw [dM,jU (bN _),aZ];congr 2;refine cH λa b ha hb=>?_;by_cases e:a<i
   ·rw [aV e,aV (by omega)]
   ·by_cases e2:a=i
    ·subst e2;rw [aX (by omega),aV rfl,aV (by omega),hD]
    ·rw [aX e,aX e2,aX (by omega)]
 ·unfold zD;simp only;rw [jU (bN _),aZ];congr 2;exact cH λa b ha hb=>by rw [aV ha]
end
noncomputable section
def kB (L:List Nat):List Int:=L.map λt:Nat=>(t:Int)
theorem fD (L:List Nat):(kB L).length=L.length:=by simp [kB]
theorem aMs {p:Int} {m:Nat} {F:Nat→Nat→Int} {j:Nat} (h:(cI p m F j).2.length=m): ∀ d,cI p m F (j+d)=cI p m F j
 |0=>rfl
 |d+1=>by
  show jD p m (cI p m F (j+d)) (j+d)=_;rw [aMs h d];unfold jD;rw [aV];rw [h,Nat.sub_self];rfl
def aFQ (F:Nat→Nat→Int) (a b x:Nat):Nat→Nat→Int:=λi y=>if y<x then aAj F a b i y else F i y
def aDL (p:Int) (F:Nat→Nat→Int) (a:Nat) (s:Int) (x:Nat):Nat→Nat→Int:=λi y=>if y<x then vW p F a s i y else F i y
def mH (p:Int) (F:Nat→Nat→Int) (a j x:Nat):Nat→Nat→Int:=λi c=>if i<x then aBf p F a j i c else F i c
theorem aOx {r c a b x:Nat} (F:Nat→Nat→Int):cD r c (aHx (aHx (aFQ F a b x) a x (F b x)) b x (F a x))=cD r c (aFQ F a b (x+1)):=by
 refine cH λi y hi hy=>?_;simp only [aHx,aFQ,aAj];by_cases e:y=x
 ·subst e;simp only [and_true,Nat.lt_irrefl,if_false,Nat.lt_succ_self,if_true];by_cases e1:i=b
  ·rw [aV e1];by_cases e2:i=a
   ·rw [aV e2];subst e1;rw [e2]
   ·rw [aX e2,aV e1]
  ·rw [aX e1];by_cases e2:i=a
   ·rw [aV e2,aV e2]
   ·rw [aX e2,aX e2,aX e1]
 ·rw [aX (by omega),aX (by omega)];by_cases e1:y<x
  ·rw [aV e1,aV (show y<x+1 by omega)]
  ·rw [aX e1,aX (show ¬ y<x+1 by omega)]
theorem aHG {F:Nat→Nat→Int} {a b x i:Nat} :aFQ F a b x i x=F i x:=by simp [aFQ]
theorem aMt {p:Int} {F:Nat→Nat→Int} {a x i:Nat} {s:Int} :aDL p F a s x i x=F i x:=by simp [aDL]
theorem aMu {p:Int} {r c a x:Nat} {s:Int} (F:Nat→Nat→Int):cD r c (aHx (aDL p F a s x) a x ((F a x*s) % p))=cD r c (aDL p F a s (x+1)):=by
 refine cH λi y hi hy=>?_;simp only [aHx,aDL,vW];by_cases e:y=x
 ·subst e;simp only [and_true,Nat.lt_irrefl,if_false,Nat.lt_succ_self,if_true]
 ·rw [aX (by omega)];by_cases e1:y<x
  ·rw [aV e1,aV (show y<x+1 by omega)]
  ·rw [aX e1,aX (show ¬ y<x+1 by omega)]
theorem aTz {p r:Int} (hp:mU p=true) (hr:0≤r∧r<p):0≤aEj p r∧aEj p r<p:=aTo hp hr _
theorem aRT {p:Int} {m n k r:Nat} {F:Nat→Nat→Int} (h:InP p m n F) (hk:k<m) (hr:r<m):InP p m n (aAj F k r):=by
 intro i c hi hc;unfold aAj;split
 ·exact h r c hr hc
 ·split
  ·exact h k c hk hc
  ·exact h i c hi hc
theorem aOy {p:Int} (hp:mU p=true) {m n k:Nat} {s:Int} {F:Nat→Nat→Int} (h:InP p m n F):InP p m n (vW p F k s):=by
 intro i c hi hc;unfold vW;split
 ·exact wZ hp
 ·exact h i c hi hc
theorem aVC {p:Int} (hp:mU p=true) {m n k j x:Nat} {F:Nat→Nat→Int} (h:InP p m n F):InP p m n (mH p F k j x):=by
 intro i c hi hc;unfold mH aBf;split
 ·split
  ·rename_i h1 h2;subst h2;exact h _ c hi hc
  ·exact wZ hp
 ·exact h i c hi hc
theorem aWg {p:Int} (hp:mU p=true) {m n k j x:Nat} {F:Nat→Nat→Int} (hx:x≠k):cD m n (aLN p (mH p F k j x) x (p - F x j) (mH p F k j x k))=cD m n (mH p F k j (x+1)):=by
 refine cH λi c hi hc=>?_;simp only [aLN,mH,aBf];by_cases e:i=x
 ·subst e;rw [aV rfl,aX (Nat.lt_irrefl _),aV (Nat.lt_succ_self _),aX hx];simp only [if_true,ite_self];rw [show F i c+(p - F i j)*F k c=(F i c - F i j*F k c)+p*F k c by rw [Int.sub_mul];omega,Int.add_mul_emod_self_left]
 ·rw [aX e];by_cases e1:i<x
  ·rw [aV e1,aV (show i<x+1 by omega)]
  ·rw [aX e1,aX (show ¬ i<x+1 by omega)]
theorem aOz {p:Int} {m n k j:Nat} {F:Nat→Nat→Int} :cD m n (mH p F k j k)=cD m n (mH p F k j (k+1)):=by
 refine cH λi c hi hc=>?_;simp only [mH,aBf];by_cases e:i<k
 ·rw [aV e,aV (show i<k+1 by omega)]
 ·rw [aX e];by_cases e1:i=k
  ·subst e1;simp
  ·rw [aX (show ¬ i<k+1 by omega)]
theorem aMv {p:Int} {F:Nat→Nat→Int} {k r j:Nat} :gV p F k r j=aBf p (vW p (aAj F k r) k (aEj p (F r j))) k j:=rfl
structure Tb (p:Int) (m n:Nat) (F:Nat→Nat→Int):Prop where
 hp:mU p=true
 hN:m*n≤1048576
 hm:m≤1048576
 hn:n≤1048576
 hi:InP p m n F
theorem aZQ {p:Int} {m n:Nat} {F:Nat→Nat→Int} (T:Tb p m n F) {j:Nat} (hj:j<n) (L:List Nat) (hL:L.length≤m) (l:List Int):
  Lp (rN ⟨m,n,l⟩ ((j:Int),cD m n F,kB L)) (((kB L).length:Nat):Int)=some ((nH F j (m - L.length) L.length:Nat):Int):=by
 obtain ⟨hp,hN,hm,hn,hi⟩:=T;have hle:= @aDb F j (m - L.length) L.length;have hz:= @aHy F j (m - L.length) L.length;have hh:= @aGq F j (m - L.length) L.length;generalize nH F j (m - L.length) L.length=r at*;rw [fD];refine cZ (λt=>((L.length+t:Nat):Int)) (r - L.length) (by simp) (λt ht=>?_) (λ_=>?_)
 ·unfold rN;simp only
  rw [iO (by omega),aR,aKp hN hm (by omega),aB,xX hN (by omega),aBD hN hm (by omega),eX,eX,Nat.add_sub_cancel_left,iO hj,gd,aR,Nat.zero_add,eX,nQ _ (by omega) hj,aB,
   hz _ (by omega) (by omega),bH rfl,aR,cA (n:=m) (by omega) (by omega),Nat.add_assoc]
 ·rw [show L.length+(r - L.length)=r by omega];unfold rN;simp only;rcases dZ r m with h|h
  ·rw [iO h,aR,aKp hN hm h,aB,xX hN h,aBD hN hm h,eX,eX,Nat.add_sub_cancel_left,iO hj,gd,aR,Nat.zero_add,eX,nQ _ h hj,aB,
    dF (hh (by omega)),aZ]
  ·rw [jU h,aZ]
theorem aYL {p:Int} {m n:Nat} {F:Nat→Nat→Int} (T:Tb p m n F) {j:Nat} (hj:j<n) (L:List Nat) (hL:L.length≤m) (l:List Int):
  rO p ⟨m,n,l⟩ ((j:Int),cD m n F,kB L)=some (.inl (((j+1:Nat):Int),cD m n (jD p m (F,L) j).1,kB (jD p m (F,L) j).2)):=by
 have hpv:=aZQ T hj L hL l;obtain ⟨hp,hN,hm,hn,hi⟩:=T;have hb:=fF hp;have hle:= @aDb F j (m - L.length) L.length;unfold rO jD;simp only;rw [iO hj,aR,hpv,aB,cA hj (by omega)];clear hpv;generalize nH F j (m - L.length) L.length=r at*;by_cases hr:r=m
 ·rw [bH (by omega),aR,aV hr]
 ·rw [dF (by omega),aZ,aX hr];have hk:L.length<m:=by omega
  have hrm:r<m:=by omega
  simp only [fD];rw [aKp hN hm hk,aB,xX hN hk,aBD hN hm hk];simp only [eX,Nat.add_sub_cancel_left,Nat.zero_add];rw [cZ (r:=cD m n (aAj F L.length r)) (λx=>(cD m n (aFQ F L.length r x),(x:Int))) n ?_ (λx hx=>?_) (λ_=>?_),aB,iO hj,gd,aR,nQ _ hk hj,aB]
  ·have e1:aAj F L.length r L.length j=F r j:=by simp [aAj]
   have hrj:=hi r j hrm hj;rw [e1,aUy hp,aB,Int.emod_eq_of_lt hrj.1 hrj.2];have hs:=aTz hp hrj;rw [aMv];generalize aEj p (F r j)=s at*;have h1:=aRT hi hk hrm;generalize aAj F L.length r=F1 at*;rw [cZ (r:=cD m n (vW p F1 L.length s)) (λx=>(cD m n (aDL p F1 L.length s x),(x:Int))) n ?_ (λx hx=>?_) (λ_=>?_),aB]
   ·have h2:=aOy hp (k:=L.length) (s:=s) h1;generalize vW p F1 L.length s=F2 at*;rw [cZ (r:=cD m n (aBf p F2 L.length j)) (λx=>(cD m n (mH p F2 L.length j x),(x:Int))) m ?_ (λx hx=>?_) (λ_=>?_),aB]
    ·rw [bH (by simp;omega),aR];simp [kB]
    ·congr 1
    ·unfold wT;simp only [fD];rw [iO hx,aR];by_cases hxk:x=L.length
     ·rw [bH (by omega),eD,aZ,cA hx (by omega),hxk,aOz]
     ·rw [dF (by omega),Bool.not_false,aR,aKp hN hm hx,aB,aB,xX hN hx,aBD hN hm hx,xX hN hk,aBD hN hm hk];simp only [eX,Nat.add_sub_cancel_left,Nat.zero_add];rw [iO hj,gd,aR,nQ _ hx hj,aB];have e2:mH p F2 L.length j x x j=F2 x j:=by simp [mH]
      have h3:=h2 x j hx hj;have h4:=aVC hp (k:=L.length) (j:=j) (x:=x) h2;rw [e2,eY (by omega),aVB hp hn hx hk hxk (by omega) (λb hb=>h4 _ b hx hb) (λb hb=>h4 _ b hk hb),aB,eN,eN,bH rfl,aR,cA hx (by omega),aWg hp hxk]
    ·unfold wT;simp only;rw [jU (bN _),aZ];congr 2;exact cH λa b ha hb=>by simp only [mH];rw [aV ha]
   ·congr 1
   ·unfold wS;simp only [fD];rw [xX hN hk,aBD hN hm hk];simp only [eX,Nat.add_sub_cancel_left,Nat.zero_add];have g1:=h1 _ x hk hx;have g2:=aNx (a:=F1 L.length x) (b:=s) (by omega) (by omega);rw [iO hx,aR,gd,aR,nQ _ hk hx,aB,aVA hp,aR,aR,aB,aMt,eY (by omega),Int.tmod_eq_emod_of_nonneg g2.1,aEk _ _ hk hx,cA hx (by omega),aMu]
   ·unfold wS;simp only [fD];rw [xX hN hk,aBD hN hm hk];simp only [eX,Nat.add_sub_cancel_left,Nat.zero_add];rw [jU (bN _),aZ];congr 2;exact cH λa b ha hb=>by simp only [aDL];rw [aV hb]
  ·congr 1
  ·unfold wR;simp only [fD];rw [iO hx,aR,aKp hN hm hrm,aB,aB,xX hN hk,aBD hN hm hk,xX hN hrm,aBD hN hm hrm];simp only [eX,Nat.add_sub_cancel_left,Nat.zero_add];rw [iO hx,gd,aR,nQ _ hrm hx,aB,aR,nQ _ hk hx,aB,aR,aB,aR,aEk _ _ hk hx,nQ _ hrm hx,aB,aEk _ _ hrm hx,aHG,aHG,cA hx (by omega),aOx]
  ·unfold wR;simp only;rw [jU (bN _),aZ];congr 2;exact cH λa b ha hb=>by simp only [aFQ];rw [aV hb]
theorem aFR {p:Int} {m n:Nat} {F:Nat→Nat→Int} (T:Tb p m n F):uC p ⟨m,n,cD m n F⟩=some (⟨m,n,cD m n (cI p m F n).1⟩,kB (cI p m F n).2):=by
 have hN:=T.hN;have hn:=T.hn;unfold uC mQ mW;simp only;rw [eN,bH hN,aR,aB,aB];simp only;rw [cZ (r:=(cD m n (cI p m F n).1,kB (cI p m F n).2)) (λj=>((j:Int),cD m n (cI p m F j).1,kB (cI p m F j).2)) n (by simp [cI,kB]) (λj hj=>?_) (λ_=>?_),aB]
 ·show _=some (Sum.inl (((j+1:Nat):Int),cD m n (jD p m (cI p m F j) j).1,kB (jD p m (cI p m F j) j).2):(Int×List Int×List Int) ⊕ (List Int×List Int));exact aYL ⟨T.hp,T.hN,T.hm,T.hn,tQ (by have:=fF T.hp;omega) T.hi j⟩ hj _ (uA j) _
 ·unfold rO;simp only;rw [jU (bN _),aZ]
theorem aMw {p:Int} {m n:Nat} {F:Nat→Nat→Int} (T:Tb p m n F):aCX p ⟨m,n,cD m n F⟩=some ((cI p m F n).2.length:Int):=by
 unfold aCX;rw [aFR T,aB,fD]
theorem aZR {p:Int} {m n:Nat} {F:Nat→Nat→Int} (T:Tb p m n F) {j:Nat} (hj:j<n) (L:List Nat) (hL:L.length<m) (l:List Int):
  Lp (kJ ⟨m,n,l⟩ ((j:Int),cD m n F,kB L,(L.length:Int))) (-1,wr ((m:Int) - 1))=some (if nH F j (m - L.length) L.length=m then -1 else ((nH F j (m - L.length) L.length:Nat):Int)):=by
 obtain ⟨hp,hN,hm,hn,hi⟩:=T;refine cZ (λt=>(if nH F j t (m - t)=m then -1 else ((nH F j t (m - t):Nat):Int),((m - t:Nat):Int) - 1)) (m - L.length) ?_ (λt ht=>?_) (λ_=>?_)
 ·simp only [nH,Nat.sub_zero,if_true];rw [eY (by omega)]
 ·unfold kJ;simp only;have e:((m - t:Nat):Int) - 1=((m - (t+1):Nat):Int):=by omega
  have hi2:m - (t+1)<m:=by omega
  rw [e,bH (by omega),aR,atT hN hi2 hj,aB,eY (x:=((m - (t+1):Nat):Int) - 1) (by omega)]
  have ep:nH F j (t+1) (m - (t+1))=if F (m - (t+1)) j=0 then nH F j t (m - t) else m - (t+1):=by
   rw [nH,show m - (t+1)+1=m - t by omega]
  rw [ep];by_cases h:F (m - (t+1)) j=0
  ·rw [bH h,eD,aZ,aV h]
  ·rw [dF h,Bool.not_false,aR,aX h,aX (by omega)]
 ·rw [show m - (m - L.length)=L.length by omega];unfold kJ;simp only;rw [dF (by omega),aZ]
theorem aYM {p:Int} {m n:Nat} {F:Nat→Nat→Int} (T:Tb p m n F) {j:Nat} (hj:j<n) (L:List Nat) (hL:L.length<m) (l:List Int):
  gE p ⟨m,n,l⟩ ((j:Int),cD m n F,kB L,(L.length:Int))=some (.inl (((j+1:Nat):Int),cD m n (jD p m (F,L) j).1,kB (jD p m (F,L) j).2,((jD p m (F,L) j).2.length:Int))):=by
 have hpv:=aZR T hj L hL l;obtain ⟨hp,hN,hm,hn,hi⟩:=T;have hb:=fF hp;have hle:= @aDb F j (m - L.length) L.length;unfold gE jD;simp only;rw [iO hj,aR,iO hL,aR,hpv,aB,cA hj (by omega)];clear hpv;generalize nH F j (m - L.length) L.length=r at*;have hk:L.length<m:=hL;by_cases hr:r=m
 ·rw [aV hr,aV hr,bH (by omega),aR]
 ·rw [aX hr,aX hr,dF (by omega),aZ];have hrm:r<m:=by omega
  rw [cZ (r:=cD m n (aAj F L.length r)) (λx=>(cD m n (aFQ F L.length r x),(x:Int))) n ?_ (λx hx=>?_) (λ_=>?_),aB,atT hN hk hj,aB]
  ·have e1:aAj F L.length r L.length j=F r j:=by simp [aAj]
   have hrj:=hi r j hrm hj;rw [e1,aUz hp (by omega),aB,Int.emod_eq_of_lt hrj.1 hrj.2];have hs:=aTz hp hrj;rw [aMv];generalize aEj p (F r j)=s at*;have h1:=aRT hi hk hrm;generalize aAj F L.length r=F1 at*;rw [cZ (r:=cD m n (vW p F1 L.length s)) (λx=>(cD m n (aDL p F1 L.length s x),(x:Int))) n ?_ (λx hx=>?_) (λ_=>?_),aB]
   ·have h2:=aOy hp (k:=L.length) (s:=s) h1;generalize vW p F1 L.length s=F2 at*;rw [cZ (r:=cD m n (aBf p F2 L.length j)) (λx=>(cD m n (mH p F2 L.length j x),(x:Int))) m ?_ (λx hx=>?_) (λ_=>?_),aB]
    ·rw [fD,bH (by simp;omega),aR,cA hk (by omega)];simp [kB]
    ·congr 1
    ·unfold kL;simp only;rw [iO hx,aR,atT hN hx hj,aB,cA hx (by omega)];have e2:mH p F2 L.length j x x j=F2 x j:=by simp [mH]
     rw [e2];by_cases hxk:x=L.length
     ·rw [qQ (r:=cD m n (mH p F2 L.length j x)) ?_,aB,hxk,aOz];unfold kK;simp only;rcases Nat.eq_zero_or_pos n with h0|h0
      ·omega
      ·rw [bH (by omega),aR,bH (by omega),eD,aZ]
     ·rw [cZ (r:=cD m n (mH p F2 L.length j (x+1))) (λy=>(cD m n (λa c=>if a=x∧c<y then aBf p F2 L.length j x c else mH p F2 L.length j x a c),(y:Int))) n (by simp) (λy hy=>?_) (λ_=>?_),aB]
      ·unfold kK;simp only;rw [iO hy,aR,dF (by omega),Bool.not_false,aR,atT hN hx hy,aB,atT hN hk hy,aB];have e3:mH p F2 L.length j x x y=F2 x y:=by simp [mH]
       have e4:mH p F2 L.length j x L.length y=F2 L.length y:=by simp [mH,aBf]
       rw [aX (by omega),aX (by omega),e3,e4];have g1:=h2 x j hx hj;have g2:=h2 L.length y hk hy;have g3:=h2 x y hx hy;have g4:=aNx (a:=F2 x j) (b:=F2 L.length y) (by omega) (by omega);rw [eY (x:=F2 x j*F2 L.length y) (by omega),eY (x:=F2 x y - F2 x j*F2 L.length y) (by omega),aDJ hp (by omega),aB,aB,aRR hN hx hy,cA hy (by omega)];congr 3;refine cH λa c ha hc=>?_;simp only [aHx];by_cases e5:a=x∧c=y
       ·rw [aV e5,aV (by omega),e5.2];simp only [aBf];rw [aX hxk]
       ·rw [aX e5];by_cases e6:a=x∧c<y
        ·rw [aV e6,aV (by omega)]
        ·rw [aX e6,aX (by omega)]
      ·unfold kK;simp only;rw [jU (bN _),aZ];congr 2;refine cH λa c ha hc=>?_;simp only [mH];by_cases e5:a=x
       ·rw [aV ⟨e5,hc⟩,aV (by omega),e5]
       ·rw [aX (by omega)];by_cases e6:a<x
        ·rw [aV e6,aV (by omega)]
        ·rw [aX e6,aX (by omega)]
    ·unfold kL;simp only;rw [jU (bN _),aZ];congr 2;exact cH λa b ha hb=>by simp only [mH];rw [aV ha]
   ·congr 1
   ·unfold nW;simp only;have g1:=h1 _ x hk hx;have g2:=aNx (a:=F1 L.length x) (b:=s) (by omega) (by omega);rw [iO hx,aR,atT hN hk hx,aB,aMt,Int.mul_comm,eY (by omega),aDJ hp (by omega),aB,aB,aRR hN hk hx,cA hx (by omega),aMu]
   ·unfold nW;simp only;rw [jU (bN _),aZ];congr 2;exact cH λa b ha hb=>by simp only [aDL];rw [aV hb]
  ·congr 1
  ·unfold nU;simp only;rw [iO hx,aR,atT hN hk hx,aB,atT hN hrm hx,aB,aB,aRR hN hk hx,atT hN hrm hx,aB,aRR hN hrm hx,aHG,aHG,cA hx (by omega),aOx]
  ·unfold nU;simp only;rw [jU (bN _),aZ];congr 2;exact cH λa b ha hb=>by simp only [aFQ];rw [aV hb]
theorem aFS {p:Int} {m n:Nat} {F:Nat→Nat→Int} (T:Tb p m n F):jZ p ⟨m,n,cD m n F⟩=some (⟨m,n,cD m n (cI p m F n).1⟩,kB (cI p m F n).2):=by
 have hN:=T.hN;have hn:=T.hn;unfold jZ aCF;simp only;rw [eN,bH (by simp;omega),aR,aB];simp only [List.nil_append]
 obtain ⟨r,h1,h2⟩: ∃ r,Lp (gE p ⟨m,n,cD m n F⟩) (0,cD m n F,[],0)=some r∧r=(cD m n (cI p m F n).1,kB (cI p m F n).2):=by
  refine aPk (λs=> ∃ j:Nat,j≤n∧s=((j:Int),cD m n (cI p m F j).1,kB (cI p m F j).2,((cI p m F j).2.length:Int))) (λs=>n - s.1.toNat) _ ⟨0,Nat.zero_le _,by simp [cI,kB]⟩ ?_;rintro s ⟨j,hj,rfl⟩;rcases dZ j n with hlt|hge
  ·have hlen:= @uA p m F j;rcases dZ (cI p m F j).2.length m with hl|hl
   ·refine .inl ⟨_,aYM ⟨T.hp,T.hN,T.hm,T.hn,tQ (by have:=fF T.hp;omega) T.hi j⟩ hlt _ hl _,⟨j+1,hlt,rfl⟩,?_⟩;simp;omega
   ·refine .inr ⟨_,?_,rfl⟩;unfold gE;simp only;have e:=aMs (p:=p) (F:=F) (j:=j) (by omega:(cI p m F j).2.length=m) (n - j);rw [show j+(n - j)=n by omega] at e;rw [iO hlt,aR,jU hl,aZ,e]
  ·have e:j=n:=by omega
   subst e;refine .inr ⟨_,?_,rfl⟩;unfold gE;simp only;rw [jU (bN _),aZ]
 rw [h1,h2,aB]
end
end Go.Proofs.YtghechfdejhapaaGreat

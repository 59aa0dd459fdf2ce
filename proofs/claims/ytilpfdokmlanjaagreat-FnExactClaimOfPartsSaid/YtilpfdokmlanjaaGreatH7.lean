/-
  Several texts of the claim in one.
-/
import Derived.Lib.AppendZerosOnto
import Derived.Test.YtilpfdokmlanjaaGreatProg
import Derived.Test.YtilpfdokmlanjaaGreatH6
set_option linter.unusedVariables false
set_option linter.unusedSimpArgs false
namespace Go.Proofs.YtilpfdokmlanjaaGreat
open Go.RowKit
noncomputable section
set_option maxRecDepth 10000
structure HasV (P:Program) (f:FuncId) (ds:List AV) (r:AV):Prop where
 enters:Enters P f
 calls: ∀ (w:World) (args:Array Value) (S:List Nat),RepVs w ds args.toList S→Calls P f args w λe w'=> ∃ v S',e= .returned v∧Below w.heap.size w w'∧RepD w' r v S'∧ ∀ x∈S',x∈S
theorem aFH {w:World} {h:Hp} {u:Us} {ν:Nu} {d:AV} {v:Value} (r:Rep1 w h u ν d v) (ok:fG d=true): ∃ S,RepD w d v S∧ ∀ x∈S,jV h ν x:=by
 cases d <;> simp only [fG,fU] at ok <;> simp only [Rep1] at r
 ·exact ⟨[],by rw [r.1];exact aCe r.2,by simp⟩
 ·exact r
 ·exact r
theorem aGG {w:World} {h:Hp} {u:Us} {ν:Nu} : ∀ {ds:List AV} {vs:List Value},All2 (Rep1 w h u ν) ds vs→ds.all fG=true→ ∃ S,RepVs w ds vs S∧ ∀ x∈S,jV h ν x
 | [],vs,r,_=>by simp only [All2] at r;subst r;exact ⟨[],by simp [RepVs],by simp⟩
 |d::ds,vs,⟨v,q,e,r1,r2⟩,ok=>by
  subst e;simp only [List.all_cons,dD] at ok;obtain ⟨S1,a1,a2⟩:=aFH r1 ok.1;obtain ⟨S2,b1,b2⟩:=aGG r2 ok.2;refine ⟨S1++S2,by simp only [RepVs];exact ⟨v,q,S1,S2,rfl,rfl,a1,b1⟩,λx hx=>?_⟩;rcases eW.1 hx with h|h
  ·exact a2 x h
  ·exact b2 x h
theorem aSY {w:World} {h:Hp} {u:Us} {ν:Nu} {d:AV} {v:Value} (r:RepA w h u ν d v) (ok:aBE d=true): ∃ S,RepD w d v S∧ ∀ x∈S,jV h ν x:=by
 cases d <;> simp only [aBE,fG,fU] at ok <;> simp only [RepA,RepB] at r
 ·exact aFH r rfl
 ·exact aFH r rfl
 ·exact aFH r rfl
 ·obtain ⟨vs,rfl,r⟩:=r;obtain ⟨S,a,b⟩:=aGG r ok;exact ⟨S,by simp only [RepD];exact ⟨vs,rfl,a⟩,b⟩
 ·obtain ⟨vs,rfl,r⟩:=r;obtain ⟨S,a,b⟩:=aGG r ok;exact ⟨S,by simp only [RepD];exact ⟨vs,rfl,a⟩,b⟩
theorem aKO {w:World} {h:Hp} {u:Us} {ν:Nu} : ∀ {ds:List AV} {vs:List Value},All2 (RepA w h u ν) ds vs→ds.all aBE=true→ ∃ S,RepVs w ds vs S∧ ∀ x∈S,jV h ν x
 | [],vs,r,_=>by simp only [All2] at r;subst r;exact ⟨[],by simp [RepVs],by simp⟩
 |d::ds,vs,⟨v,q,e,r1,r2⟩,ok=>by
  subst e;simp only [List.all_cons,dD] at ok;obtain ⟨S1,a1,a2⟩:=aSY r1 ok.1;obtain ⟨S2,b1,b2⟩:=aKO r2 ok.2;refine ⟨S1++S2,by simp only [RepVs];exact ⟨v,q,S1,S2,rfl,rfl,a1,b1⟩,λx hx=>?_⟩;rcases eW.1 hx with h|h
  ·exact a2 x h
  ·exact b2 x h
section
variable {P:Program} {dst:Option Tmp} {ty:TypeId} {pos:String} {aft:Array Edge} {g:Option (Nat×Bool)} {ins:Operand→Option AV} {hp:Hp} {κ:Kp}
theorem aOj {fo:Operand} {xs:Array Operand} {ats:Array TypeId} {f:FuncId} {ds:List AV} {k:Nat} {es:List (List AV)} (hc:HasV P f ds (.list k es)) (hf:ins fo=some (.fn f [])) (hx:evs ins xs.toList=some ds) (hok:ds.all aBE=true):
  AEff P ⟨dst,.call ⟨.value fo,xs,ats⟩,ty,pos,aft,g⟩ ins hp κ ⟨.list k es,[],[],[]⟩:=by
 refine ⟨λC s ν a w Q K {hκ} hi' ht hnw hd hs hK=>?_⟩;have h1:=hs.ev ((hi' fo (by simp [Op.operands,Call.operands])).trans hf);simp only [RepA,RepB] at h1;obtain ⟨cv,h1,h2⟩:=h1;simp only [All2] at h2;subst h2;have h3:=aDo hs (xs:=xs.toList) (λy hy=>hi' y (by simp [Op.operands,Call.operands];exact .inr (Array.mem_toList_iff.1 hy))) hx;obtain ⟨S,e1,e2⟩:=aKO h3 hok;have hcall:=hc.calls w (xs.map a.eval) S (by simpa using e1);unfold Oper.wp
 have hex:(execOp a.eval ⟨dst,.call ⟨.value fo,xs,ats⟩,ty,pos,aft,g⟩).run P w= .ok (.enter f (xs.map a.eval)) w:=by
  have:execOp a.eval ⟨dst,.call ⟨.value fo,xs,ats⟩,ty,pos,aft,g⟩=callFunc f (xs.map a.eval):=by
   simp [execOp,resolve,h1,Deferred.ofValue,invoke]
  rw [this];exact hc.enters _ _
 rw [hex];simp only [Oper.upon];refine hcall.mono λe w' ⟨v,S',he,hb,hr,hsub⟩=>?_;subst he;simp only;obtain ⟨φ,hh⟩:=hs.heap;have ext:Ext w s.heap s.used ν w' s.heap s.used ν:=⟨λ_ h=>h,λ_ blk _ h=>⟨blk,h,rfl,rfl,rfl⟩,λx hx h=>⟨hb.block x hx,h⟩,rfl⟩;refine hK ν _ _ (hs.step hd (s':=s.app dst _) ext (hb.mono hs.base) ⟨φ,λb blk hbl=>?_,hh.apart⟩ rfl ?_)
 ·obtain ⟨g1,g2,g3,g4⟩:=hh.blk b blk hbl;exact ⟨g1,g2.ext ext rfl (λy hy=>hb.block y (g2.lt y hy)),g3,g4⟩
 ·exact ⟨S',hr,λx hx=>e2 x (hsub x hx)⟩
theorem aQT {T:List (Nat×Ty)} (hT:TyOk P T) {s:AState} {x:Operand} {zl zh:Operand} {t e:Nat} {y ye:Ty} {ao:Option Addr} {n c:Nat} {kl kh:IntKind} {l h:Int} (q:0≤l∧l≤h∧h≤n∧n≤c) (hx:s.ev x=some (.sc (.slice ao n c))) (hlo:s.ev zl=some (.sc (.int kl l))) (hhi:s.ev zh=some (.sc (.int kh h))) (hy:dT T t=some y) (hd:y.desc= .slice e) (hye:dT T e=some ye):
  AEff P ⟨dst,.slice t x (some zl) (some zh) none,ty,pos,aft,g⟩ s.ev s.heap s.kp ⟨.sc (.slice (if c=l.toNat then ao else ao.map (·.add (l.toNat*ye.size))) (h.toNat - l.toNat) (c - l.toNat)),[],[],[]⟩:=by
 refine AEff.pure λC s' ν a w hi' ht hs=>?_;have h1:=hs.ev ((hi' x (by simp [Op.operands])).trans hx);have h2:=hs.ev ((hi' zl (by simp [Op.operands])).trans hlo);have h3:=hs.ev ((hi' zh (by simp [Op.operands])).trans hhi);simp only [RepA,RepB,Rep1] at h1 h2 h3;obtain ⟨i1,z1,d1,y1⟩:=hT.is hy;obtain ⟨i2,z2,d2,y2⟩:=hT.is hye;have hsb:=xF (P:=P) (len:=n) (cap:=c) (lo:=some (.int kl l)) (hi:=some (.int kh h)) w (.inr ⟨kl,rfl⟩) (.inr ⟨kh,rfl⟩) q.1 q.2.1 q.2.2.1 q.2.2.2;refine ⟨_,?_,aCX rfl⟩;simp only [execOp,Instr.sliceAt,Instr.slice,h1.1,h2.1,h3.1,Sem.run_bind,kO (y1.slice hd),Result.andThen_ok,lO y2.info,y2.size,Option.map_none,Option.map_some];rw [hsb];by_cases e:c=l.toNat <;> simp [e]
end
theorem aSZ {w:World} {k n c:Nat} {es:List (List AV)} {ao:Option Addr} {S:List Nat} {l h:Int} (r:RepD w (.list k es) (.slice ao n c) S) (q:0≤l∧l≤h∧h≤n): ∃ S',RepD w (.list k ((es.drop l.toNat).take (h.toNat - l.toNat))) (.slice (if c=l.toNat then ao else ao.map (·.add (l.toNat*k))) (h.toNat - l.toNat) (c - l.toNat)) S'∧ ∀ x∈S',x∈S:=by
 simp only [RepD] at r ⊢;obtain ⟨ao',c',h3,h4,h5,h6⟩:=r;cases h3;have hlen:((es.drop l.toNat).take (h.toNat - l.toNat)).length=h.toNat - l.toNat:=by simp;omega
 rw [hlen];by_cases hz:h.toNat - l.toNat=0
 ·refine ⟨[],⟨_,_,rfl,by omega,by omega,.inl ⟨?_,rfl⟩⟩,by simp⟩;rw [hz];simp
 ·rcases h6 with ⟨h6,_⟩|⟨b,o,S',rfl,h8,rfl,h9⟩
  ·have:es.length=0:=by rw [h6];rfl
   omega
  ·rw [aZ (by omega)];obtain ⟨U1,g1,g2⟩:=h9.dropT (m:=l.toNat);obtain ⟨U2,g3,g4⟩:=g1.takeT (m:=h.toNat - l.toNat);refine ⟨b::U2,⟨_,_,rfl,by omega,by omega,.inr ⟨b,o+l.toNat*k,U2,by simp [Addr.add_lit],h8,rfl,g3⟩⟩,?_⟩;intro y hy;rcases fE.1 hy with rfl|h'
   ·simp
   ·simp [g2 y (g4 y h')]
def aBI (m:Mt) (i:Int):Int:=wr (i*m.cols)
def aEf (m:Mt) (i:Int):Int:=wr (wr (i+1)*m.cols)
def aKP (m:Mt) (i:Int):Option (List Int):=bif (decide (0≤aBI m i)&&(decide (aBI m i≤aEf m i)&&decide (aEf m i≤(m.cells.length:Int)))) then some ((m.cells.drop (aBI m i).toNat).take ((aEf m i).toNat - (aBI m i).toNat)) else none
theorem aWx (m:Mt) (i:Int) (ao:Option Addr) (n c:Nat) (q:0≤aBI m i∧aBI m i≤aEf m i∧aEf m i≤n∧n≤c):HasC Tryz.prog 225 [.agg [.int m.rows,.int m.cols,.sc (.slice ao n c)],.int i]
  (.sc (.slice (if c=(aBI m i).toNat then ao else ao.map (·.add ((aBI m i).toNat *1))) ((aEf m i).toNat - (aBI m i).toNat) (c - (aBI m i).toNat))):=by
 refine aJY aJ (rvs:=[.tmp 4]) (ns:=[0,1,2,3,4,5,6,7,8,9,10,11,12,13]) Tryz.func225 rfl rfl Tryz.ntmps225 rfl rfl rfl ?_;refine aQC ?_;refine aHc ?_;refine jW (aWY rfl rfl rfl rfl) rfl rfl rfl ?_;refine jW (aDh rfl) rfl rfl rfl ?_;refine aJx ?_;refine aTb ?_;refine aQC ?_;refine aHc ?_;refine jW (aBF aJ rfl rfl rfl rfl rfl rfl rfl) rfl rfl rfl ?_;refine jW (dK aJ rfl rfl rfl rfl rfl rfl rfl) rfl rfl rfl ?_;refine jW (aGY rfl) rfl rfl rfl ?_;refine jW (aBF aJ rfl rfl rfl rfl rfl rfl rfl) rfl rfl rfl ?_;refine jW (dK aJ rfl rfl rfl rfl rfl rfl rfl) rfl rfl rfl ?_;refine jW (fP rfl rfl) rfl rfl rfl ?_;refine jW (aGY rfl) rfl rfl rfl ?_;refine jW (bF rfl rfl) rfl rfl rfl ?_;refine jW (aBF aJ rfl rfl rfl rfl rfl rfl rfl) rfl rfl rfl ?_;refine jW (dK aJ rfl rfl rfl rfl rfl rfl rfl) rfl rfl rfl ?_;refine jW (fP rfl rfl) rfl rfl rfl ?_;refine jW (aQT aJ (l:=aBI m i) (h:=aEf m i) q rfl rfl rfl rfl rfl rfl) rfl rfl rfl ?_;refine jW (aDh rfl) rfl rfl rfl ?_;refine aJx ?_;refine aTb ?_;refine aE ?_;exact bD rfl rfl rfl (aXk rfl)
theorem aTu (m:Mt) (i:Int) (r:List Int) (h:aKP m i=some r):HasV Tryz.prog 225 [.agg (eM m),.int i] (.list 1 (List.map eI r)):=by
 obtain ⟨q,h⟩:=cg h;obtain rfl:=so h;simp only [dD,lD] at q;refine ⟨Enters.mk Tryz.func225 (by kernel_rfl) (by kernel_rfl),λw args S hargs=>?_⟩;obtain ⟨args⟩:=args;simp only [RepVs] at hargs;obtain ⟨v,r,S1,S2,h1,rfl,h3,v2,r2,S3,S4,h4,rfl,h5,rfl,rfl⟩:=hargs;subst h4 h1;simp only [RepD,eM] at h3;obtain ⟨vs,rfl,h3⟩:=h3;simp only [RepVs] at h3;obtain ⟨u1,r1,T1,T2,rfl,rfl,g1,u2,r3,T3,T4,rfl,rfl,g2,u3,r4,T5,T6,rfl,rfl,g3,rfl,rfl⟩:=h3
 have hu3: ∃ ao n c,u3= .slice ao n c∧n=m.cells.length∧n≤c:=by
  simp only [RepD] at g3;obtain ⟨a,c,rfl,g4,_⟩:=g3;exact ⟨_,_,_,rfl,by simp [aTc],g4⟩
 obtain ⟨ao,n,c,rfl,hn,hnc⟩:=hu3
 have hcall:=(aWx m i ao n c ⟨q.1,q.2.1,by omega,hnc⟩).calls w #[.agg #[u1,u2,.slice ao n c],v2] (T1++(T3++([]++[]))++(S3++[])) (by
  simp only [RepVs];refine ⟨_,_,_,_,rfl,rfl,?_,_,_,_,_,rfl,rfl,h5,rfl,rfl⟩;simp only [RepD];refine ⟨[u1,u2,.slice ao n c],rfl,?_⟩;simp only [RepVs]
  exact ⟨_,_,_,_,rfl,rfl,by simpa only [RepD] using g1,_,_,_,_,rfl,rfl,by simpa only [RepD] using g2,_,_,[],[],rfl,rfl,aCe rfl,rfl,rfl⟩)
 refine hcall.mono λe w' ⟨v,S',he,hb,hr,_⟩=>?_;simp only [aKC,aSN,aDn] at hr;obtain ⟨rfl,_,_⟩:=hr;obtain ⟨U,k1,k2⟩:=aSZ (l:=aBI m i) (h:=aEf m i) g3 ⟨q.1,q.2.1,by omega⟩;refine ⟨_,U,he,hb,?_,?_⟩
 ·have hes:((aVe m.cells).drop (aBI m i).toNat).take ((aEf m i).toNat - (aBI m i).toNat)=List.map eI ((m.cells.drop (aBI m i).toNat).take ((aEf m i).toNat - (aBI m i).toNat)):=by
   show ((m.cells.map eI).drop _).take _=_;rw [List.map_take,List.map_drop]
  rw [←hes];exact k1.below hb
 ·intro x hx;have:=k2 x hx;simp [this]
def aTv (hp:Hp) (touch:List Nat):List (Nat×Option Blk)→Prop
 | []=>True
 |(b,x)::r=>hp b=x∧touch.contains b=true∧aTv hp touch r
theorem aIk {hp h:Hp} {touch:List Nat} (ht: ∀ b∈touch,h b=hp b): ∀ {ed:List (Nat×Option Blk)},aTv hp touch ed→bK ed h=h
 | [],_=>rfl
 |(b,x)::r,⟨h1,h2,h3⟩=>by
  funext c;simp only [bK];by_cases e:c=b
  ·subst e;rw [cE,aM,←h1,ht c (by simpa using h2)]
  ·rw [cK e,aR,aIk ht h3]
theorem AEff.pureE {P:Program} {o:Oper} {ins:Operand→Option AV} {hp:Hp} {κ:Kp} {v:AV} {tc:List Nat} {ed:List (Nat×Option Blk)} (h:AEff P o ins hp κ ⟨v,tc,ed,[]⟩) (hs:aTv hp tc ed):AEff P o ins hp κ ⟨v,tc,[],[]⟩:=by
 refine ⟨λC s ν a w Q K {hκ} hi ht hn hd hsim hK=>h.out C s ν a w Q K (hκ:=hκ) hi ht hn hd hsim λν' a' w' hs'=>hK ν' a' w' ?_⟩
 have e:s.app o.dst ⟨v,tc,ed,[]⟩=s.app o.dst ⟨v,tc,[],[]⟩:=by
  unfold AState.app;rw [aIk ht hs];rfl
 rw [←e];exact hs'
theorem aNI {P:Program} {t tn e bytes:Nat} {size:Nat} (et:ElemTy P t e size bytes) (htn:P.underlying tn=some (.int .i64)) (hs:0<size) (w:World) (n:Nat) (h0:0<n) (hn:n≤1048576) (hb:n*bytes≤140737488355328) (ty:Nat):
  ∃ G cur,n≤G∧G≤maxLen∧cur.size=G*size∧(Builtin.append_ #[t,tn] ty #[.slice none 0 0,.int .i64 n]).run P w= .ok (.slice (some ⟨w.heap.size,0,none⟩) n G) (w.drew.alloc (.cells cur e)):=by
 obtain ⟨i,z,h1,h2,h3,h4,h5⟩:=et.hi;have hold:(Builtin.firstCells i.size 0 (.slice none 0 0)).run P w.drew= .ok ([]:List Value).toArray w.drew:=run_firstCells_none w.drew i.size 0 0 0;have h:=Lib.run_append_grow_zeros w t tn ty e i z .i64 .i64 et.ht htn h1 h2 none 0 0 [] hold n h0 (by rw [h3];exact hs) (by omega) (by omega) (by rw [h4];omega) (growslice_fits (by omega) (by rw [h4];simpa using hb));have hG:=grownCap_ge w (0+n) 0 e;have hM:=grownCap_le_maxLen w (0+n) 0 e (by unfold maxLen;omega);rw [Nat.zero_add] at h hG hM;refine ⟨grownCap w n 0 e,_,hG,hM,?_,h⟩;simp only [Array.size_append,List.size_toArray,List.length_nil,Nat.zero_add];unfold Builtin.zeroCells;simp only [Array.size_map,Array.size_range,h5];rw [←Nat.add_mul];congr 1;omega
set_option maxRecDepth 100000 in
set_option maxHeartbeats 1000000 in
theorem aVp (n:Nat) (w:World) (hn:n≤1048576):
  Calls Tryz.prog 210 #[.slice none 0 0,.int .i64 n] w (Ret w λv w'=> ∃ S,Own 3 aLX w' w.heap.size v [] S):=by
 by_cases h0:n=0
 ·subst h0;show Calls Tryz.prog 210 #[.slice none 0 0,.int .i64 0] w _
  go_enter Tryz.func210,Tryz.ntmps210
  go_wp2
  go_ret
  exact ⟨_,rfl,Below.refl _ _,[],Own.nil _ _ _ _⟩
 ·have h1: ¬ ((n:Int)<0):=by omega
  have h4:(n:Int)>0:=by omega
  have key: ∀ ty,∃ G cur,n≤G∧G≤maxLen∧cur.size=G*1∧(Builtin.append_ #[22,3] ty #[.slice none 0 0,.int .i64 n]).run Tryz.prog w= .ok (.slice (some ⟨w.heap.size,0,none⟩) n G) (w.drew.alloc (.cells cur 3)):=λty=>
   aNI aXq Tryz.underlying3 (by decide) w n (by omega) hn (by omega) ty
  obtain ⟨G,cur,hG,hM,hc,hr0⟩:=key 22;have hG63:G≤9223372036854775807:=by unfold maxLen at hM;omega
  have HE:Hid (Own 3 aLX (w.drew.alloc (.cells cur 3)) w.heap.size (.slice (some ⟨w.heap.size,0,none⟩) 0 G) [] [w.heap.size]∧Below w.heap.size w (w.drew.alloc (.cells cur 3))):=
   ⟨⟨[],[],World.ownsRow_made w.drew cur G (bJ _) hM hc,⟨rfl,rfl⟩,rfl,⟨by simp,by simp⟩⟩,((aOF 1 (Below.refl _ _):Below w.heap.size w (w.drewN 1))).alloc (bJ _) _⟩
  clear key hM hc
  go_enter Tryz.func210,Tryz.ntmps210
  go_wp2_with (at_builtin;refine Lib.wpList_append_run _ rfl _ _ _ _ rfl _ _ rfl rfl _ _ hr0 ?_)
  all_goals (go_ret;exact ⟨_,rfl,HE.out.2,_,HE.out.1⟩)
def aQU (n:Int):Option (List Int):=bif (decide (0≤n)&&decide (n≤1048576)) then some [] else none
theorem aVq {h:Hp} {k:Nat} :viewA h (.nil k) (.sc (.slice none 0 0)):=rfl
theorem aWy (n:Int) (r:List Int) (h:aQU n=some r):HasC Tryz.prog 210 [.sc (.slice none 0 0),.int n] (.list 1 (List.map eI r)):=by
 obtain ⟨q,h⟩:=cg h;obtain rfl:=so h;simp only [dD,lD] at q;refine ⟨Enters.mk Tryz.func210 (by kernel_rfl) (by kernel_rfl),λw args S hargs=>?_⟩;obtain ⟨args⟩:=args;simp only [RepVs,RepD] at hargs;obtain ⟨v,r,S1,S2,h1,rfl,⟨rfl,_,rfl⟩,v2,r2,S3,S4,rfl,rfl,⟨rfl,_,rfl⟩,rfl,rfl⟩:=hargs;subst h1;have hc:=aVp n.toNat w (by omega);rw [show ((n.toNat:Nat):Int)=n by omega] at hc;refine hc.mono λe w' ⟨v,he,hb,S2,ho⟩=>?_;obtain ⟨g1,g2⟩:=aOi ho;exact ⟨v,S2,he,hb,g1,g2⟩
theorem aQV {σ:Nat→Option Nat} {n:Nat} {α:Type} {e:α→List AV} {z:α} {zc:List AV} (h:All2 (kQ σ n) zc (ow e z)) (m:Nat):All2 (All2 (kQ σ n)) (List.replicate m zc) ((List.replicate m z).map (ow e)):=by
 induction m with
 |zero=>rfl
 |succ m ih=>exact ⟨_,_,rfl,h,ih⟩
end
noncomputable section
structure HasT (P:Program) (f:FuncId) (ds:List AV) (hl:List (Nat×Blk)) (kp:Nat) (r:AV) (hl':List (Nat×Blk)):Prop where
 enters:Enters P f
 calls: ∀ (B:Nat) (M:Nat→Prop) (w:World) (args:Array Value) (ν:Nu) (φ:Nat→List Nat),(∀ x,M x→B≤x)→B≤w.heap.size→(∀ x,w.heap.size≤x→M x)→(∀ x,M x→ν.ok x)→All2 (RepA w (jD hl) (ltb kp) ν) ds args.toList→HeapOk M w (jD hl) (ltb kp) ν φ→
  Calls P f args w λe w'=> ∃ v u' ν' φ',e= .returned v∧Below B w w'∧ExtF (λx=> ¬ M x) w (jD hl) (ltb kp) ν w' (jD hl') u' ν'∧HeapOk M w' (jD hl') u' ν' φ'∧RepA w' (jD hl') u' ν' r v
theorem aVr {M:Nat→Prop} {w:World} {h:Hp} {u:Us} {ν:Nu} {φ:Nat→List Nat} (hh:HeapOk M w h u ν φ) {x:Nat} (hx: ¬ M x):aBv h ν x:=by
 intro b blk β c hb hν e;subst e;obtain ⟨_,g2,_,g4⟩:=hh.blk b blk hb;exact hx (g4 _ (wT g2 hν))
theorem ExtF.shrink {F:Nat→Prop} {w w':World} {h h' g:Hp} {u u':Us} {ν ν':Nu} (e:ExtF F w h u ν w' h' u' ν') (hg: ∀ b blk,g b=some blk→h' b=some blk):ExtF F w h u ν w' g u' ν':=
 ⟨e.used,λb blk hb hgb=>e.old b blk hb (hg b blk hgb),λx hx hf=>⟨(e.free x hx hf).1,λb blk β c hb hν=>(e.free x hx hf).2 b blk β c (hg b blk hb) hν⟩,e.okE⟩
theorem aDw {P:Program} {T:List (Nat×Ty)} (hT:TyOk P T) {f:FuncId} {fn:Func} {c:Code} {nt kp:Nat} {ds:List AV} {hl hl':List (Nat×Blk)} {r:AV} {rvs:List ResultVar} {ns:List Nat} (hf:P.funcs[f]? =some fn) (hb:fn.body=some c) (hname:(fn.name== "runtime.NumGoroutine")=false) (hnt:fn.ntmps=nt) (hres:fn.results.toList=rvs)
  (hlen:Nat.ble ds.length nt=true) (h:AC P nt c ⟨aEY ds,jD hl,ltb kp,ns,⟨kp,true,none,true⟩⟩ (λe t=> ∃ t',Ent t t'∧aXn T rvs r hl' e t')):HasT P f ds hl kp r hl':=by
 refine ⟨Enters.mk hf (by rw [hb];rfl) hname,λB M w args ν φ hMB hB hM hMo hargs hheap=>?_⟩;refine (callsIn_wide (n:=0)).1 (callsIn_of_wp_marks (F:=fw none) hf hb trivial ?_);have hlen':=Nat.le_of_ble_eq_true hlen;have hal:args.size=ds.length:=by have:=hargs.len;simpa using this
 let C:Ctx:=⟨B,w,nt,M,hMB,⟨kp,true,none,true⟩,w,jD hl,ν,λx=> ¬ M x,(λ_ x _ hm hn=>hn hm),(λ_ h=>by cases h),none,λ_=>rfl⟩
 have hsim:Sim C ⟨aEY ds,jD hl,ltb kp,ns,⟨kp,true,none,true⟩⟩ ν ⟨args++Array.replicate (fn.ntmps - args.size) undef,[]⟩ w:=by
  refine ⟨Below.refl _ _,hB,hM,aCW,by show (args++Array.replicate (fn.ntmps - args.size) undef).size=nt;simp [hnt];omega,?_,⟨φ,hheap⟩,rfl,ExtF.refl λ_ _ h=>aVr hheap h,bJ _,hMo,λ_ h=>by cases h⟩;intro t x hx;have hx':ds[t]? =some x:=by rw [←aEe];exact hx
  obtain ⟨v,h1,h2⟩:=hargs.get hx';refine ⟨v,?_,h2⟩
  have hlt:t<args.size:=by
   rcases eO t args.size with h'|h'
   ·exact h'
   ·rw [iL (by simpa using h')] at h1;cases h1
  show (args++Array.replicate (fn.ntmps - args.size) undef)[t]? =some v;rw [Array.getElem?_append_left hlt];simpa using h1
 refine wpIn_mono (h.out C rfl _ _ w hsim 0) λe a' w0 ⟨s1,ν1,⟨s',hent,hq⟩,hs1⟩=>?_;obtain ⟨ν',hs0⟩:=hent C ν1 a' w0 hs1;obtain ⟨Ds,d1,d2,d3⟩:=hs0.defers;obtain ⟨w',hs',hleave⟩:=hs0.leave (P:=P) (n:=0) d1 d2 d3;obtain ⟨he,⟨avs,hv,hone⟩,hsame⟩:=hq;have hsub: ∀ b blk,jD hl' b=some blk→s'.heap b=some blk:=λb blk hb=>aHk hsame (nJ hb);obtain ⟨us,h1,h2⟩:=zF hT hs' hv;obtain ⟨φ',hh⟩:=hs'.heap
 have hrun:(results fn a'.tmps).run P w'= .ok (if hh:us.toArray.size=1 then us.toArray[0] else .tuple us.toArray) w':=by
  unfold results;rw [Sem.run_bind,Array.mapM_eq_mapM_toList,Sem.run_map,hres];have h1':=h1;generalize hq:(List.mapM _ rvs:Sem (List Value))=m;rw [show Sem.run P m w'= .ok us w' by rw [←hq];exact h1'];simp
 have shr:=(Ext.refl w' s'.heap s'.used ν').shrink hsub
 have hrep:RepA w' (jD hl') s'.used ν' r (if hh:us.toArray.size=1 then us.toArray[0] else .tuple us.toArray):=by
  rcases hone with rfl|⟨g1,g2,rfl⟩
  ·obtain ⟨u,q,rfl,k1,k2⟩:=h2;simp only [All2] at k2;subst k2;exact k1.ext shr
  ·have hul:us.length=avs.length:=h2.len;rw [dif_neg (by simp;rw [hul];exact g1)];refine ⟨us,rfl,h2.congrM λx hx v hr=>?_⟩;exact aTr (hr.ext shr) (List.all_eq_true.1 g2 x hx)
 have hend:=hleave fn (λe w'=> ∃ v u' ν' φ',e= .returned v∧Below B w w'∧ExtF (λx=> ¬ M x) w (jD hl) (ltb kp) ν w' (jD hl') u' ν'∧HeapOk M w' (jD hl') u' ν' φ'∧RepA w' (jD hl') u' ν' r v)
  ⟨_,hrun,_,s'.used,ν',φ',rfl,hs'.below,hs'.ext.shrink hsub,hh.shrink hsub (λ_ _ _ _ h=>h),hrep⟩
 cases e <;> simp only [aFg,fU] at he <;> exact hend
structure SOps (P:Program) (ops:Array Oper) (nt:Nat) (l:List Oper) (s:AState) (K:AState→Prop):Prop where
 out: ∀ (C:Ctx),C.nt=nt→ ∀ (ν:Nu) (a:Act) (w:World),Sim C s ν a w→ ∀ (n:Nat) (Q:Exit→Act→World→Prop),(∀ s' ν' a' w',K s'→Sim C s' ν' a' w'→Q .normal a' w')→wpListIn (fw C.rd) n P ops Q l a w
section
variable {P:Program} {ops:Array Oper} {nt:Nat} {l:List Oper} {s:AState} {K:AState→Prop}
theorem aTw (h:K s):SOps P ops nt [] s K:=⟨λC hC ν a w hs n Q hQ=>hQ s ν a w h hs⟩
theorem dS {t:AState} (e:Ent s t) (h:SOps P ops nt l t K):SOps P ops nt l s K:=⟨λC hC ν a w hs n Q hQ=>by
 obtain ⟨ν',hs'⟩:=e C ν a w hs
 exact h.out C hC ν' a w hs' n Q hQ⟩
theorem aOk {d:Option Tmp} {op:Op} {ty:TypeId} {pos:String} {aft:Array Edge} {g:Option (Nat×Bool)} {e:Eff} (he:AEff P ⟨d,op,ty,pos,aft,g⟩ s.ev s.heap s.kp e) (hd:aGe ⟨d,op,ty,pos,aft,g⟩ nt=true) (hg:mJ ops s.env ⟨d,op,ty,pos,aft,g⟩=some true) (hn:(e.news.all λb=> !s.used b)=true)
  (h:SOps P ops nt l (s.app d e) K):SOps P ops nt (⟨d,op,ty,pos,aft,g⟩::l) s K:=⟨λC hC ν a w hs n Q hQ=>by
 subst hC;refine wpListIn_step λK' hK'=>?_;have hst:aNB P ops C.nt ⟨d,op,ty,pos,aft,g⟩ s e:=⟨aGf hd,.inl ⟨hg,he,λb hb=>by have:=List.all_eq_true.1 hn b hb;simpa using this⟩⟩
 exact aDk hst hs λν' a' w' hs'=>hK' _ _ (h.out C rfl ν' a' w' hs' n Q hQ)⟩
theorem aQW {Q:Exit→AState→Prop} {id:Nat} (h:SOps P l.toArray nt l s (Q .normal)):AC P nt (.region id l.toArray false) s Q:=by
 refine ⟨λC hC ν a w hs n=>?_⟩;exact wpIn_region_lit (h.out C hC ν a w hs n _ λs' ν' a' w' hq hs'=>⟨s',ν',hq,hs'⟩)
end
def df1:AV→Bool
 | .sc _=>true
 | .nil _=>true
 | .dead=>true
 | .own _ _ _=>true
 | .ptr _ _ _=>true
 |_=>false
def dfC:AV→Bool
 | .abs _ _=>true
 | .fn _ cs=>cs.all df1
 |x=>df1 x
def dfB:AV→Bool
 | .agg cs=>cs.all df1
 |x=>df1 x
def dfA:AV→Bool
 | .tuple cs=>cs.all dfB
 |x=>dfB x
section
variable {w w':World} {h h':Hp} {u u':Us} {ν ν':Nu} (U: ∀ b,u b=true→u' b=true) (O: ∀ b blk',u b=true→h' b=some blk'→ ∃ blk,h b=some blk∧blk.k=blk'.k∧blk.es.length=blk'.es.length∧ν' b=ν b)
include U O
theorem aNJ: ∀ {x:AV} {v:Value},Rep1 w h u ν x v→df1 x=true→Rep1 w' h' u' ν' x v:=by
 intro x v r t;cases x <;> simp only [df1,fU] at t <;> simp only [Rep1] at r ⊢
 ·exact r
 ·exact r
 ·refine ⟨U _ r.1,λblk hb=>?_⟩;obtain ⟨blk0,e1,e2,e3,e4⟩:=O _ blk r.1 hb;have:=r.2 blk0 e1;rw [e4,←e3,←e2];exact this
 ·refine ⟨U _ r.1,λblk hb=>?_⟩;obtain ⟨blk0,e1,e2,e3,e4⟩:=O _ blk r.1 hb;have:=r.2 blk0 e1;rw [e4,←e2];exact this
end
section
variable {w w':World} {h h':Hp} {u u':Us} {ν ν':Nu} (U: ∀ b,u b=true→u' b=true) (O: ∀ b blk',u b=true→h' b=some blk'→ ∃ blk,h b=some blk∧blk.k=blk'.k∧blk.es.length=blk'.es.length∧ν' b=ν b)
include U O
theorem aKQ: ∀ {xs:List AV} {vs:List Value},All2 (Rep1 w h u ν) xs vs→xs.all df1=true→All2 (Rep1 w' h' u' ν') xs vs
 | [],vs,r,_=>r
 |x::xs,vs,⟨v,q,e,r,k⟩,t=>by
  simp only [List.all_cons,dD] at t;exact ⟨v,q,e,aNJ U O r t.1,aKQ k t.2⟩
theorem aRY {x:AV} {v:Value} (r:RepB w h u ν x v) (t:dfB x=true):RepB w' h' u' ν' x v:=by
 cases x <;> simp only [RepB] at r ⊢ <;> first
  |exact aNJ U O r t
  |(obtain ⟨vs,e,r⟩:=r;exact ⟨vs,e,aKQ U O r t⟩)
  |(simp only [dfB,df1,fU] at t)
theorem aRZ {x:AV} {v:Value} (r:RepA w h u ν x v) (t:dfA x=true):RepA w' h' u' ν' x v:=by
 by_cases ht: ∃ cs,x= .tuple cs
 ·obtain ⟨cs,rfl⟩:=ht;obtain ⟨vs,e,r⟩:=r;refine ⟨vs,e,r.congrM λy hy d hd=>aRY U O hd ?_⟩;exact List.all_eq_true.1 t y hy
 ·have r':RepB w h u ν x v:=by cases x <;> first|exact r|exact absurd ⟨_,rfl⟩ ht
  have t':dfB x=true:=by cases x <;> first|exact t|exact absurd ⟨_,rfl⟩ ht
  have:=aRY (w':=w') U O r' t';cases x <;> first|exact this|exact absurd ⟨_,rfl⟩ ht
theorem aVs {x:AV} {v:Value} {S:List Nat} (hk: ∀ b∈S,w'.heap[b]? =w.heap[b]?) (r:CellRep w h u ν x v S) (t:dfC x=true):CellRep w' h' u' ν' x v S:=by
 cases x <;> simp only [CellRep] at r ⊢ <;> first
  |exact ⟨aNJ U O r.1 t,r.2⟩
  |(obtain ⟨⟨vs,e,q⟩,q2⟩:=r;exact ⟨⟨vs,e,aKQ U O q t⟩,q2⟩)
  |exact r.keep hk
  |exact r
theorem aGp: ∀ {xs:List AV} {vs:List Value} {S:List Nat},(∀ b∈S,w'.heap[b]? =w.heap[b]?)→CellsRep w h u ν xs vs S→(∀ c∈xs,dfC c=true)→CellsRep w' h' u' ν' xs vs S
 | [],_,_,_,r,_=>r
 |x::xs,vs,S,hk,⟨v,q,S1,S2,e1,e2,r,k⟩,t=>by
  subst e2;exact ⟨v,q,S1,S2,e1,rfl,aVs U O (λb hb=>hk b (by simp [hb])) r (t x (by simp)),aGp (λb hb=>hk b (by simp [hb])) k (λc hc=>t c (by simp [hc]))⟩
theorem aML {b:Nat} {blk:Blk} {S:List Nat} (hν:ν' b=ν b) (hk: ∀ x∈S,w'.heap[x]? =w.heap[x]?) (r:BlkOk w h u ν b blk S) (t: ∀ cs∈blk.es,∀ c∈cs,dfC c=true):BlkOk w' h' u' ν' b blk S:=by
 refine ⟨r.1,?_⟩;rcases r.2 with ⟨q1,q2,q3⟩|⟨β,c,arr,ty,T,vs,q1,q2,q3,q4,q5,q6,q7,q8⟩
 ·exact .inl ⟨hν.trans q1,q2,q3⟩
 ·subst q6;refine .inr ⟨β,c,arr,ty,T,vs,hν.trans q1,(hk β (by simp)).trans q2,q3,q4,q5,rfl,q7,aGp U O (λx hx=>hk x (by simp [hx])) q8 λc hc=>?_⟩;obtain ⟨cs,hcs,hc⟩:=List.mem_flatten.1 hc;exact t cs hcs c hc
end
section
variable {P:Program} {ops:Array Oper} {nt:Nat} {l:List Oper} {s:AState} {K:AState→Prop} {dst:Option Tmp} {ty:TypeId} {pos:String} {aft:Array Edge}
theorem aCH {fo:Operand} {xs:Array Operand} {ats:Array TypeId} {f:FuncId} {caps avs ds:List AV} {hl hl' hl2:List (Nat×Blk)} {kp n':Nat} {r r2:AV} {σ σ':Nat→Option Nat} {touch news:List Nat} {ed:List (Nat×Option Blk)}
  (hc:HasT P f ds hl kp r hl') (hf:s.ev fo=some (.fn f caps)) (hx:evs s.ev xs.toList=some avs) (hav:All2 (mX σ kp) (avs++caps) ds) (hh:sY σ kp s.heap hl) (hi:aDm σ hl=true) (hit:aBg σ touch hl=true) (hlive:(touch.all λb=>(s.heap b).isSome)=true)
  (hh':sY σ' n' (jD hl') hl2) (hi':aDm σ' hl2=true) (hr:mX σ' n' r r2) (hbk:aGl σ σ' kp news hl2=true) (htl:aMD (touch++news) hl2) (htr:aOg (touch++news) r2=true) (he:aDt (touch++news) hl2=ed)
  (hd:aGe ⟨dst,.call ⟨.value fo,xs,ats⟩,ty,pos,aft,none⟩ nt=true) (hn:(news.all λb=> !s.used b)=true) (hT:s.kp.T=true) (hdf: ∀ t x,s.env t=some x→dfA x=true) (hdc: ∀ b blk,s.heap b=some blk→b ∉ touch++news→ ∀ cs∈blk.es,∀ c∈cs,dfC c=true)
  (h:SOps P ops nt l (s.app dst ⟨r2,touch,ed,news⟩) K):SOps P ops nt (⟨dst,.call ⟨.value fo,xs,ats⟩,ty,pos,aft,none⟩::l) s K:=⟨λC hC ν a w hs n0 Q hQ=>by
 subst hC;refine wpListIn_step λK' hK'=>?_;rw [aW (aHZ hs (ops:=ops) (t:=true) rfl)];refine aWW (λc h=>by cases h) ?_;have hnw: ∀ b∈news,s.used b=false:=λb hb=>by have:=List.all_eq_true.1 hn b hb;simpa using this
 have hfn:=hs.ev hf;simp only [RepA,RepB] at hfn;obtain ⟨cv,hfv,hcap⟩:=hfn;have hval:=aDo hs (xs:=xs.toList) (λy hy=>rfl) hx;obtain ⟨φ,hφ⟩:=hs.heap;let h3:Hp:=λb=>if b∈touch then s.heap b else none
 have sub: ∀ b blk,h3 b=some blk→s.heap b=some blk∧b∈touch:=by
  intro b blk hb;by_cases e:b∈touch
  ·simp only [h3,aW e] at hb;exact ⟨hb,e⟩
  ·simp only [h3,aZ e] at hb;cases hb
 let M2:Nat→Prop:=λx=>(∃ b,b∈touch∧s.heap b≠none∧x∈φ b)∨w.heap.size≤x
 have hM2: ∀ x,M2 x→C.M x:=by
  rintro x (⟨b,_,hb,hx⟩|hx)
  ·obtain ⟨blk,hb⟩:=Option.ne_none_iff_exists'.1 hb;exact (hφ.blk b blk hb).2.2.2 x hx
  ·exact hs.fresh x hx
 have hk3:HeapOk M2 w h3 s.used ν φ:=hφ.shrink (λb blk hb=>(sub b blk hb).1) (λb x hb hx _=>by
  obtain ⟨blk,hb⟩:=Option.ne_none_iff_exists'.1 hb;obtain ⟨e1,e2⟩:=sub b blk hb
  exact .inl ⟨b,e2,by rw [e1];simp,hx⟩)
 have hent:sY σ kp h3 hl:=aCE (h:=s.heap) (touch:=touch) (λb hb=>by simp only [h3,aW hb]) hit hh;have cv1:=aFF (w:=w) (u:=s.used) (ν:=ν) hent hi;have hk4:=cv1.heap hk3;have shr3:Ext w s.heap s.used ν w h3 s.used ν:=(Ext.refl _ _ _ _).shrink (λb blk hb=>(sub b blk hb).1)
 have hargs:All2 (RepA w (jD hl) (ltb kp) (mZ σ ν)) ds (xs.toList.map a.eval++cv):=
  aDM (R:=RepA w s.heap s.used ν) (Mt:=mX σ kp) (R':=RepA w (jD hl) (ltb kp) (mZ σ ν)) (λx y v hx hm=>cv1.rep (RepA.ext shr3 hx) hm) (hval.append (hcap.mono λx v h=>Rep1.repA h)) hav
 have hcall:=hc.calls C.B M2 w ((xs.map a.eval)++cv.toArray) (mZ σ ν) _ (λx hx=>C.low x (hM2 x hx)) hs.base (λx hx=> .inr hx) (λx hx=>hs.okM x (hM2 x hx)) (by simpa using hargs) hk4;unfold Oper.wp
 have hex:(execOp a.eval ⟨dst,.call ⟨.value fo,xs,ats⟩,ty,pos,aft,none⟩).run P w= .ok (.enter f ((xs.map a.eval)++cv.toArray)) w:=by
  have:execOp a.eval ⟨dst,.call ⟨.value fo,xs,ats⟩,ty,pos,aft,none⟩=callFunc f ((xs.map a.eval)++cv.toArray):=by
   simp [execOp,resolve,hfv,Deferred.ofValue,invoke]
  rw [this];exact hc.enters _ _
 rw [hex];simp only [Oper.upon];refine hcall.mono λe w' ⟨v,u1,ν1,φ1,hev,hbel,hext,hh1,hrep⟩=>?_;subst hev;simp only;have cv2:=aFF (w:=w') (u:=u1) (ν:=ν1) hh' hi';have hh2:=cv2.heap hh1;generalize hrl:touch++news=rl at*;let ν':Nu:=⟨λb=>if b∈rl then mZ σ' ν1 b else ν b,ν.ok⟩;have hν1: ∀ b,b∈rl→ν' b=mZ σ' ν1 b:=λb hb=>aW hb;have hν2: ∀ b,b ∉ rl→ν' b=ν b:=λb hb=>aZ hb;have hheq: ∀ b,bK ed s.heap b=if b∈rl then jD hl2 b else s.heap b:=λb=>by rw [←he];exact aGm
 have hhe1: ∀ b,b∈rl→bK ed s.heap b=jD hl2 b:=λb hb=>by rw [hheq,aW hb]
 have hhe2: ∀ b,b ∉ rl→bK ed s.heap b=s.heap b:=λb hb=>by rw [hheq,aZ hb]
 have hused: ∀ b,b∈rl→gB news s.used b=true:=by
  intro b hb;rw [←hrl] at hb;rw [iM];rcases eW.1 hb with h|h
  ·have h5:=List.all_eq_true.1 hlive b h;cases hq:s.heap b with
   |none=>rw [hq] at h5;cases h5
   |some blk=>rw [(hφ.blk b blk hq).1,Bool.or_true]
  ·have:news.contains b=true:=by simpa using h
   rw [this,Bool.true_or]
 have U: ∀ b,s.used b=true→gB news s.used b=true:=λb hb=>by rw [iM,hb,Bool.or_true]
 have O: ∀ b blk',s.used b=true→bK ed s.heap b=some blk'→ ∃ blk,s.heap b=some blk∧blk.k=blk'.k∧blk.es.length=blk'.es.length∧ν' b=ν b:=by
  intro b blk' hu hb;by_cases e:b∈rl
  ·rw [hhe1 b e] at hb;obtain ⟨i,e1,e2⟩:=aFG hbk (nJ hb);obtain ⟨x,f1,f2,f3⟩:=(cv2.look b blk' hb).1 i e1;rcases e2 with e2|⟨e2,e3⟩
   ·rw [hnw b e2] at hu;cases hu
   ·obtain ⟨blk0,g1,g2,g3,g4⟩:=hext.old i x e2 f1;obtain ⟨z,k1,k2,k3⟩:=(cv1.look i blk0 g1).1 b e3;refine ⟨z,(sub b z k1).1,k2.trans (g2.trans f2),k3.trans (g3.trans f3),?_⟩;rw [hν1 b e];simp only [mZ,e1];rw [g4];simp only [mZ,e3]
  ·rw [hhe2 b e] at hb;exact ⟨blk',hb,rfl,rfl,hν2 b e⟩
 have hout: ∀ b blk x,s.heap b=some blk→b ∉ rl→x∈φ b→w'.heap[x]? =w.heap[x]? :=by
  intro b blk x hb hbr hx;refine (hext.free x ((hφ.blk b blk hb).2.1.lt x hx) ?_).1;rintro (⟨b2,e1,e2,e3⟩|e1)
  ·have hne:b2≠b:=by rintro rfl;exact hbr (by rw [←hrl];exact List.mem_append_left _ e1)
   exact hφ.apart b2 b x e2 (by rw [hb];simp) hne e3 hx
  ·have:=(hφ.blk b blk hb).2.1.lt x hx;omega
 have hcross: ∀ b c x,jD hl2 b≠none→s.heap c≠none→c ∉ rl→x∈(match σ' b with|some b0=>φ1 b0|none=>[])→x ∉ φ c:=by
  intro b c x hb hc' hcr hx hx2;obtain ⟨y1,hy1⟩:=Option.ne_none_iff_exists'.1 hb;obtain ⟨y2,hy2⟩:=Option.ne_none_iff_exists'.1 hc';rcases (hh2.blk b y1 hy1).2.2.2 x hx with ⟨b2,e1,e2,e3⟩|e1
  ·have hne:b2≠c:=by rintro rfl;exact hcr (by rw [←hrl];exact List.mem_append_left _ e1)
   exact hφ.apart b2 c x e2 hc' hne e3 hx2
  ·have:=(hφ.blk c y2 hy2).2.1.lt x hx2;omega
 have hdef:OkD C w' a.defers:=by
  obtain ⟨Ds,q1,q2,q3⟩:=hs.defers;refine ⟨Ds,q1,q2,λD hD=>?_⟩;obtain ⟨p1,p2,p3⟩:=q3 D hD;refine ⟨p1,p2,(hext.free D (uK p3) ?_).1.trans p3⟩;rintro (⟨b,e1,e2,e3⟩|e1)
  ·obtain ⟨blk,hb⟩:=Option.ne_none_iff_exists'.1 e2;obtain ⟨o,o1,o2⟩:=(hφ.blk b blk hb).2.1.inC D e3;rw [p3] at o1;cases o1;cases o2
  ·have:=uK p3;omega
 have hfin:Sim C (s.app dst ⟨r2,touch,ed,news⟩) ν' (a.put dst v) w':=by
  refine ⟨hs.below.trans hbel,Nat.le_trans hs.base hbel.size,λx hx=>hs.fresh x (Nat.le_trans hbel.size hx),by rw [aJk];exact hdef,by rw [aOH];exact hs.size,?_,⟨λb=>if b∈rl then (match σ' b with|some b0=>φ1 b0|none=>[]) else φ b,?_,?_⟩,hs.kp,?_,Nat.le_trans hs.szE hbel.size,hs.okM,hs.okF⟩
  ·exact aRK hs.size (aGf hd).1 (λt x h=>by obtain ⟨v,h1,h2⟩:=hs.env t x h;exact ⟨v,h1,aRZ U O h2 (hdf t x h)⟩) (aMF (h1:=jD hl2) (u1:=ltb n') (ν1:=mZ σ' ν1) hhe1 hν1 hused (cv2.rep hrep hr) htr)
  ·intro b blk' hb;replace hb:bK ed s.heap b=some blk':=hb;by_cases e:b∈rl
   ·rw [hhe1 b e] at hb;simp only [aW e];obtain ⟨_,g2,g3,g4⟩:=hh2.blk b blk' hb;exact ⟨hused b e,aIi (h1:=jD hl2) (u1:=ltb n') (ν1:=mZ σ' ν1) hhe1 hν1 hused e g2 (aHl htl (nJ hb)).2,g3,λx hx=>hM2 x (g4 x hx)⟩
   ·rw [hhe2 b e] at hb;simp only [aZ e];obtain ⟨g1,g2,g3,g4⟩:=hφ.blk b blk' hb;exact ⟨U b g1,aML U O (hν2 b e) (λx hx=>hout b blk' x hb e hx) g2 (hdc b blk' hb e),g3,g4⟩
  ·intro b c x hb hc' hne hxb hxc;replace hb:bK ed s.heap b≠none:=hb;replace hc':bK ed s.heap c≠none:=hc';by_cases e1:b∈rl <;> by_cases e2:c∈rl
   ·simp only [aW e1] at hxb;simp only [aW e2] at hxc;rw [hhe1 b e1] at hb;rw [hhe1 c e2] at hc';exact hh2.apart b c x hb hc' hne hxb hxc
   ·simp only [aW e1] at hxb;simp only [aZ e2] at hxc;rw [hhe1 b e1] at hb;rw [hhe2 c e2] at hc';exact hcross b c x hb hc' e2 hxb hxc
   ·simp only [aZ e1] at hxb;simp only [aW e2] at hxc;rw [hhe2 b e1] at hb;rw [hhe1 c e2] at hc';exact hcross c b x hc' hb e1 hxc hxb
   ·simp only [aZ e1] at hxb;simp only [aZ e2] at hxc;rw [hhe2 b e1] at hb;rw [hhe2 c e2] at hc';exact hφ.apart b c x hb hc' hne hxb hxc
  ·refine ⟨λb hb=>U b (hs.ext.used b hb),λb blk' hb hl'=>?_,λx hx hF=>?_,hs.ext.okE⟩
   ·obtain ⟨y,g1,g2,g3,g4⟩:=O b blk' (hs.ext.used b hb) hl';obtain ⟨z,k1,k2,k3,k4⟩:=hs.ext.old b y hb g1;exact ⟨z,k1,k2.trans g2,k3.trans g3,g4.trans k4⟩
   ·obtain ⟨g1,g2⟩:=hs.ext.free x hx hF;have hm: ¬ M2 x:=λhm=>C.tm (by rw [←hs.kp];exact hT) x hx (hM2 x hm) hF;obtain ⟨p1,p2⟩:=hext.free x (aDe hx g1) hm;refine ⟨p1.trans g1,λb blk β c hb hν=>?_⟩;replace hb:bK ed s.heap b=some blk:=hb;by_cases e:b∈rl
    ·rw [hhe1 b e] at hb;rw [hν1 b e] at hν;exact cv2.free x p2 b blk β c hb hν
    ·rw [hhe2 b e] at hb;rw [hν2 b e] at hν;exact g2 b blk β c hb hν
 exact hK' _ _ (h.out C rfl _ _ _ hfin n0 Q hQ)⟩
end
end
noncomputable section
theorem aOl {w:World} {h:Hp} {u:Us} {ν:Nu} : ∀ {cs:List AV} {vs:List Value} {S:List Nat},RepOV w cs vs S→CellsRep w h u ν (cs.map wR) vs S
 | [],vs,S,r=>by simp only [RepOV] at r;exact r
 |c::cs,vs,S,r=>by
  simp only [RepOV] at r;obtain ⟨v,q,S1,S2,e1,e2,_,h3,h4⟩:=r;refine ⟨v,q,S1,S2,e1,e2,?_,aOl h4⟩;cases c with
  |sc x=>simp only [RepO] at h3;exact ⟨⟨h3.1,h3.2.1⟩,h3.2.2⟩
  |list k es=>exact h3
  |_=>simp only [RepO] at h3
theorem aQX {k:Nat} {es:List (List AV)} (h: ∀ cs∈es,cs.length=k): ∀ cs∈cF es,cs.length=k:=by
 intro cs hcs;unfold cF at hcs;obtain ⟨d,hd,rfl⟩:=List.mem_map.1 hcs;rw [dC];exact h d hd
theorem aKR (es:List (List AV)):(cF es).flatten=es.flatten.map wR:=by
 unfold cF;rw [List.map_flatten]
theorem aTy {s:AState} {b c i j k':Nat} {blk:Blk} {cs:List AV} {es':List (List AV)} (hT:s.kp.T=true) (hb:s.heap b=some blk) (hi:blk.es[i]? =some cs) (hj:cs[j]? =some (.abs k' es')) (hc:s.used c=false) (hdf: ∀ t x,s.env t=some x→dfA x=true) (hdc: ∀ b blk,s.heap b=some blk→ ∀ cs∈blk.es,∀ c∈cs,dfC c=true):
  Ent s ⟨s.env,bK [(c,some ⟨k',cF es'⟩),(b,some ⟨blk.k,blk.es.set i (cs.take j++[.own c 0 es'.length]++cs.drop (j+1))⟩)] s.heap,gB [c] s.used,s.ns,s.kp⟩:=by
 intro C ν a w hs;obtain ⟨φ,hh⟩:=hs.heap;obtain ⟨hub,⟨hk1,hx1⟩,hnd1,hB1⟩:=hh.blk b blk hb;have hne:b≠c:=by rintro rfl;rw [hub] at hc;cases hc
 have hcn:s.heap c=none:=hs.unused hc;have hcs:=hk1 cs (List.mem_of_getElem? hi)
 have hjl:j<cs.length:=by
  rcases eO j cs.length with h'|h'
  ·exact h'
  ·rw [iL h'] at hj;cases hj
 rcases hx1 with ⟨q1,q2,_⟩|⟨β,cap,arr,ty,T,vs,q1,q2,q3,q4,q5,q6,q7,q8⟩
 ·rw [q2] at hi;simp at hi
 have hdrop:blk.es.flatten.drop (i*blk.k+j)= .abs k' es'::blk.es.flatten.drop (i*blk.k+j+1):=by
  obtain ⟨r,hr⟩:=yR hk1 hi;have h1:blk.es.flatten.drop (i*blk.k+j)=(cs++r).drop j:=by rw [←hr,List.drop_drop]
  have h2:blk.es.flatten.drop (i*blk.k+j+1)=(cs++r).drop (j+1):=by rw [←hr,List.drop_drop,Nat.add_assoc]
  rw [h1,h2,List.drop_append_of_le_length (by omega),List.drop_append_of_le_length (by omega),List.drop_eq_getElem_cons hjl];have:cs[j]= .abs k' es':=by simpa [hjl] using hj
  rw [this];rfl
 have hfl:blk.es.flatten=blk.es.flatten.take (i*blk.k+j)++([.abs k' es']++blk.es.flatten.drop (i*blk.k+j+1)):=by
  rw [List.singleton_append,←hdrop,List.take_append_drop]
 rw [hfl] at q8;obtain ⟨v1,v2,S1,S2,e1,e2,e3,e4,e5⟩:=q8.append_inv;obtain ⟨v3,v4,S3,S4,f1,f2,f3,f4,f5⟩:=e5.append_inv;subst f1 f2;obtain ⟨v,r0,S5,S6,rfl,rfl,g1,⟨rfl,rfl⟩⟩:=f4;simp only [CellRep] at g1;rw [List.append_nil] at e2;have hφ:φ b=β::(S1++(S5++S4)):=by rw [q6,e2]
 obtain ⟨νc,hνc⟩: ∃ νc:Option (Nat×Nat),(∀ (h:Hp) (u:Us) (ν':Nu),ν' c=νc→BlkOk w h u ν' c ⟨k',cF es'⟩ S5)∧(νc=none→v= .slice none 0 0)∧(∀ β' cap',νc=some (β',cap')→ownV β' 0 k' es'.length cap' v∧β'∈S5):=by
  simp only [RepO] at g1;rcases g1 with ⟨rfl,rfl,rfl⟩|⟨β',cap',arr',ty',T',vs',p1,p2,p3,p4,p5,p6,rfl,p8,p9⟩
  ·exact ⟨none,λh u ν' hν=>⟨by simp [cF],.inl ⟨hν,rfl,rfl⟩⟩,λ_=>rfl,λ_ _ e=>by cases e⟩
  ·have hl:(cF es').length=es'.length:=by simp [cF]
   refine ⟨some (β',cap'),λh u ν' hν=>⟨aQX p6,.inr ⟨β',cap',arr',ty',T',vs',hν,p2,p3,by show (cF es').length ≤cap';omega,p5,rfl,by show arr'.toList.take ((cF es').length *k')=vs';rw [hl];exact p8,?_⟩⟩,λe=>by (cases e),λx y e=>?_⟩
   ·show CellsRep w h u ν' (cF es').flatten vs' T';rw [aKR];exact aOl (aDf.1 p9)
   ·cases e;rw [p1];exact ⟨aHW,by simp⟩
 obtain ⟨hB,hn0,hn1⟩:=hνc;let ν':Nu:=⟨λx=>if x=c then νc else ν x,ν.ok⟩;have hν1:ν' c=νc:=aW rfl;have hν2: ∀ x,x≠c→ν' x=ν x:=λx hx=>aZ hx;have hl1:bK [(c,some ⟨k',cF es'⟩),(b,some ⟨blk.k,blk.es.set i (cs.take j++[.own c 0 es'.length]++cs.drop (j+1))⟩)] s.heap c=some ⟨k',cF es'⟩:=by simp [bK]
 have hl2:bK [(c,some ⟨k',cF es'⟩),(b,some ⟨blk.k,blk.es.set i (cs.take j++[.own c 0 es'.length]++cs.drop (j+1))⟩)] s.heap b=some ⟨blk.k,blk.es.set i (cs.take j++[.own c 0 es'.length]++cs.drop (j+1))⟩:=by simp [bK,cK hne]
 have hl3: ∀ x,x≠c→x≠b→bK [(c,some ⟨k',cF es'⟩),(b,some ⟨blk.k,blk.es.set i (cs.take j++[.own c 0 es'.length]++cs.drop (j+1))⟩)] s.heap x=s.heap x:=λx h1 h2=>by simp [bK,cK h1,cK h2]
 generalize hH:bK [(c,some ⟨k',cF es'⟩),(b,some ⟨blk.k,blk.es.set i (cs.take j++[.own c 0 es'.length]++cs.drop (j+1))⟩)] s.heap=H at*;have U: ∀ x,s.used x=true→gB [c] s.used x=true:=λx hx=>by rw [iM,hx,Bool.or_true]
 have O: ∀ x blk',s.used x=true→H x=some blk'→ ∃ y,s.heap x=some y∧y.k=blk'.k∧y.es.length=blk'.es.length∧ν' x=ν x:=by
  intro x blk' hu hx;have hxc:x≠c:=by rintro rfl;rw [hu] at hc;cases hc
  by_cases e:x=b
  ·subst e;rw [hl2] at hx;cases hx;exact ⟨blk,hb,rfl,by simp,hν2 _ hxc⟩
  ·rw [hl3 x hxc e] at hx;exact ⟨blk',hx,rfl,rfl,hν2 _ hxc⟩
 have hfl2: ∀ d∈blk.es.flatten,dfC d=true:=by
  intro d hd;obtain ⟨ds,h1,h2⟩:=List.mem_flatten.1 hd;exact hdc b blk hb ds h1 d h2
 refine ⟨ν',hs.below,hs.base,hs.fresh,hs.defers,hs.size,λt x hx=>by obtain ⟨v,h1,h2⟩:=hs.env t x hx;exact ⟨v,h1,aRZ U O h2 (hdf t x hx)⟩,⟨λx=>if x=c then S5 else if x=b then β::(S1++S4) else φ x,?_,?_⟩,hs.kp,?_,hs.szE,hs.okM,hs.okF⟩
 ·intro x blk2 hx;replace hx:H x=some blk2:=hx;have hnd:=hnd1;rw [hφ] at hnd;have n1:=List.nodup_cons.1 hnd;have n2:=List.nodup_append.1 n1.2;have n3:=List.nodup_append.1 n2.2.1;by_cases e:x=c
  ·subst e;rw [hl1] at hx;cases hx;simp only [if_true];refine ⟨by rw [iM];simp,hB _ _ _ hν1,n3.1,λy hy=>hB1 y (by rw [hφ];simp [hy])⟩
  ·by_cases e0:x=b
   ·subst e0;rw [hl2] at hx;cases hx;simp only [aZ e,if_true];refine ⟨U _ hub,⟨?_,.inr ⟨β,cap,arr,ty,S1++S4,vs,(hν2 _ e).trans q1,q2,q3,by simpa using q4,q5,rfl,by simpa using q7,?_⟩⟩,?_,?_⟩
    ·intro d hd;rcases List.mem_or_eq_of_mem_set hd with h|h
     ·exact hk1 d h
     ·rw [h];simp;omega
    ·rw [wP (n:=1) hk1 hi rfl (by omega),e1]
     have m1:CellsRep w H (gB [c] s.used) ν' [.own c 0 es'.length] [v] []:=by
      refine ⟨v,[],[],[],rfl,rfl,⟨⟨by rw [iM];simp,λblk3 h3=>?_⟩,rfl⟩,rfl,rfl⟩;rw [hl1] at h3;cases h3;refine ⟨by simp [cF],λh4=>hn0 (hν1.symm.trans h4),λβ' c' h4=>(hn1 β' c' (hν1.symm.trans h4)).1⟩
     have m2:=(aGp (w':=w) (h':=H) (u':=gB [c] s.used) (ν':=ν') U O (λ_ _=>rfl) e4 (λd hd=>hfl2 d (List.mem_of_mem_take hd))).append (m1.append (aGp (w':=w) (h':=H) (u':=gB [c] s.used) (ν':=ν') U O (λ_ _=>rfl) f5 (λd hd=>hfl2 d (List.mem_of_mem_drop hd))));rw [List.append_assoc (List.take (i*blk.k+j) blk.es.flatten)];simpa using m2
    ·refine List.nodup_cons.2 ⟨λhm=>n1.1 ?_,List.nodup_append.2 ⟨n2.1,n3.2.1,λy hy z hz=>n2.2.2 y hy z (by simp [hz])⟩⟩;rcases eW.1 hm with h|h <;> simp [h]
    ·intro y hy;refine hB1 y ?_;rw [hφ];rcases fE.1 hy with rfl|h
     ·simp
     ·rcases eW.1 h with h|h <;> simp [h]
   ·rw [hl3 x e e0] at hx;simp only [aZ e,aZ e0];obtain ⟨p1,p2,p3,p4⟩:=hh.blk x blk2 hx;exact ⟨U _ p1,aML U O (hν2 _ e) (λ_ _=>rfl) p2 (hdc x blk2 hx),p3,p4⟩
 ·have hnd:=hnd1;rw [hφ] at hnd;have n1:=List.nodup_cons.1 hnd;have n2:=List.nodup_append.1 n1.2;have n3:=List.nodup_append.1 n2.2.1;have hbn:s.heap b≠none:=by rw [hb];simp
  have hS5: ∀ y,y∈S5→y∈φ b:=λy hy=>by rw [hφ];simp [hy]
  have hSb: ∀ y,y∈β::(S1++S4)→y∈φ b:=λy hy=>by
   rw [hφ];rcases fE.1 hy with rfl|h
   ·simp
   ·rcases eW.1 h with h|h <;> simp [h]
  have hcb: ∀ y,y∈S5→y ∉ β::(S1++S4):=by
   intro y h5 hy;rcases fE.1 hy with rfl|h
   ·exact n1.1 (by simp [h5])
   ·rcases eW.1 h with h|h
    ·exact n2.2.2 y h y (by simp [h5]) rfl
    ·exact n3.2.2 y h5 y h rfl
  intro x1 x2 y hx1 hx2 hne2 hy1 hy2;replace hx1:H x1≠none:=hx1;replace hx2:H x2≠none:=hx2;replace hy1:y∈(if x1=c then S5 else if x1=b then β::(S1++S4) else φ x1):=hy1;replace hy2:y∈(if x2=c then S5 else if x2=b then β::(S1++S4) else φ x2):=hy2;by_cases a1:x1=c <;> by_cases a2:x2=c
  ·exact hne2 (a1.trans a2.symm)
  ·rw [aW a1] at hy1;rw [aZ a2] at hy2;by_cases b2:x2=b
   ·rw [aW b2] at hy2;exact hcb y hy1 hy2
   ·rw [aZ b2] at hy2;rw [hl3 x2 a2 b2] at hx2;exact hh.apart b x2 y hbn hx2 (Ne.symm b2) (hS5 y hy1) hy2
  ·rw [aZ a1] at hy1;rw [aW a2] at hy2;by_cases b1:x1=b
   ·rw [aW b1] at hy1;exact hcb y hy2 hy1
   ·rw [aZ b1] at hy1;rw [hl3 x1 a1 b1] at hx1;exact hh.apart b x1 y hbn hx1 (Ne.symm b1) (hS5 y hy2) hy1
  ·rw [aZ a1] at hy1;rw [aZ a2] at hy2;by_cases b1:x1=b <;> by_cases b2:x2=b
   ·exact hne2 (b1.trans b2.symm)
   ·rw [aW b1] at hy1;rw [aZ b2] at hy2;rw [hl3 x2 a2 b2] at hx2;exact hh.apart b x2 y hbn hx2 (Ne.symm b2) (hSb y hy1) hy2
   ·rw [aZ b1] at hy1;rw [aW b2] at hy2;rw [hl3 x1 a1 b1] at hx1;exact hh.apart b x1 y hbn hx1 (Ne.symm b1) (hSb y hy2) hy1
   ·rw [aZ b1] at hy1;rw [aZ b2] at hy2;rw [hl3 x1 a1 b1] at hx1;rw [hl3 x2 a2 b2] at hx2;exact hh.apart x1 x2 y hx1 hx2 hne2 hy1 hy2
 ·refine ⟨λx hx=>U x (hs.ext.used x hx),λx blk' hx hl'=>?_,λx hx hF=>?_,hs.ext.okE⟩
  ·obtain ⟨y,g1,g2,g3,g4⟩:=O x blk' (hs.ext.used x hx) hl';obtain ⟨z,k1,k2,k3,k4⟩:=hs.ext.old x y hx g1;exact ⟨z,k1,k2.trans g2,k3.trans g3,g4.trans k4⟩
  ·obtain ⟨g1,g2⟩:=hs.ext.free x hx hF;refine ⟨g1,λb2 blk2 β2 c2 hb2 h2 e=>?_⟩;replace hb2:H b2=some blk2:=hb2;by_cases a1:b2=c
   ·subst a1;rw [hν1] at h2;subst e;exact C.tm (by rw [←hs.kp];exact hT) β2 hx (hB1 β2 (by rw [hφ];simp [(hn1 _ _ h2).2])) hF
   ·rw [hν2 _ a1] at h2;by_cases a2:b2=b
    ·subst a2;exact g2 b2 blk β2 c2 hb h2 e
    ·rw [hl3 b2 a1 a2] at hb2;exact g2 b2 blk2 β2 c2 hb2 h2 e
end
noncomputable section
def Raw1 (κ:Kp) (x d:AV):Prop:= ∃ W G v S,κ.fx=some (W,G)∧x= .sc v∧RepD W d v S∧ ∀ b∈S,G b
def RawK (κ:Kp):AV→AV→Prop
 | .agg xs,.agg ds=>All2 (Raw1 κ) xs ds
 |x,d=>Raw1 κ x d
theorem Sim.stays {C:Ctx} {s:AState} {ν:Nu} {a:Act} {w:World} (hs:Sim C s ν a w) {κ:Kp} (hκ:s.kp=κ) {W:World} {G:Nat→Prop} (h:κ.fx=some (W,G)) {b:Nat} (hb:G b):w.heap[b]? =W.heap[b]? ∧jV s.heap ν b:=by
 obtain ⟨e1,e2⟩:=C.fxp (W,G) (by rw [←hs.kp,hκ];exact h);obtain ⟨e3,e4⟩:=e2 b hb;obtain ⟨e5,e6⟩:=hs.ext.free b e3 e4;rw [e1] at e5;exact ⟨e5,e6,hs.okF (W,G) (by rw [←hs.kp,hκ];exact h) b hb⟩
theorem Raw1.rep {C:Ctx} {s:AState} {ν ν':Nu} {a:Act} {w:World} {h:Hp} {u:Us} (hs:Sim C s ν a w) {κ:Kp} (hκ:s.kp=κ) {x d:AV} {v:Value} (r:Rep1 w h u ν' x v) (m:Raw1 κ x d): ∃ S',RepD w d v S':=by
 obtain ⟨W,G,y,S,h1,rfl,h2,h3⟩:=m;rw [r.1];exact ⟨S,h2.keep λb hm=>(hs.stays hκ h1 (h3 b hm)).1⟩
theorem RawK.rep {C:Ctx} {s:AState} {ν:Nu} {a:Act} {w:World} (hs:Sim C s ν a w) {κ:Kp} (hκ:s.kp=κ) {x d:AV} {v:Value} (r:RepA w s.heap s.used ν x v) (m:RawK κ x d): ∃ S',RepD w d v S':=by
 by_cases ho: ∃ xs ds,x= .agg xs∧d= .agg ds
 ·obtain ⟨xs,ds,rfl,rfl⟩:=ho;obtain ⟨vs,rfl,r⟩:=r;obtain ⟨S,h⟩:=aAY (V:=Raw1 κ) (λx d v hr hm=>hm.rep hs hκ hr) r m;exact ⟨S,by simp only [RepD];exact ⟨vs,rfl,h⟩⟩
 ·have m':Raw1 κ x d:=by
   cases x <;> first|exact m|(cases d <;> first|exact m|exact absurd ⟨_,_,rfl,rfl⟩ ho)
  obtain ⟨W,G,y,S,h1,rfl,h2,h3⟩:=m';exact Raw1.rep (h:=s.heap) (u:=s.used) (ν':=ν) (x:= .sc y) hs hκ (show Rep1 w s.heap s.used ν (.sc y) v from r) ⟨W,G,y,S,h1,rfl,h2,h3⟩
def rd1:AV→Bool
 | .sc _=>true
 | .list _ _=>true
 | .ref _=>true
 |_=>false
def rdA:AV→Bool
 | .agg ds=>ds.all rd1
 |d=>rd1 d
theorem Raw1.rep1 {C:Ctx} {s:AState} {ν:Nu} {a:Act} {w:World} (hs:Sim C s ν a w) {κ:Kp} (hκ:s.kp=κ) {x d:AV} {v:Value} (r:Rep1 w s.heap s.used ν x v) (m:Raw1 κ x d) (ok:rd1 d=true):Rep1 w s.heap s.used ν d v:=by
 obtain ⟨W,G,y,S,h1,rfl,h2,h3⟩:=m;rw [r.1];have h4:=h2.keep λb hm=>(hs.stays hκ h1 (h3 b hm)).1;cases d <;> simp only [rd1,fU] at ok
 ·simp only [RepD] at h4;exact ⟨h4.1,h4.2.1⟩
 ·exact ⟨S,h4,λx hx=>(hs.stays hκ h1 (h3 x hx)).2⟩
 ·exact ⟨S,h4,λx hx=>(hs.stays hκ h1 (h3 x hx)).2⟩
theorem RawK.repA {C:Ctx} {s:AState} {ν:Nu} {a:Act} {w:World} (hs:Sim C s ν a w) {κ:Kp} (hκ:s.kp=κ) {x d:AV} {v:Value} (r:RepA w s.heap s.used ν x v) (m:RawK κ x d) (ok:rdA d=true):RepA w s.heap s.used ν d v:=by
 by_cases ho: ∃ xs ds,x= .agg xs∧d= .agg ds
 ·obtain ⟨xs,ds,rfl,rfl⟩:=ho;obtain ⟨vs,rfl,r⟩:=r;refine ⟨vs,rfl,?_⟩
  have key: ∀ {xs ds:List AV} {vs:List Value},All2 (Rep1 w s.heap s.used ν) xs vs→All2 (Raw1 κ) xs ds→ds.all rd1=true→All2 (Rep1 w s.heap s.used ν) ds vs:=by
   intro xs;induction xs with
   |nil=>intro ds vs h1 h2 _;simp only [All2] at h1 h2;subst h1 h2;rfl
   |cons x xs ih=>
    rintro ds vs ⟨v,q,rfl,g1,g2⟩ ⟨d,r,rfl,k1,k2⟩ o;simp only [List.all_cons,dD] at o;exact ⟨v,q,rfl,k1.rep1 hs hκ g1 o.1,ih g2 k2 o.2⟩
  exact key r m ok
 ·have m':Raw1 κ x d:=by
   cases x <;> first|exact m|(cases d <;> first|exact m|exact absurd ⟨_,_,rfl,rfl⟩ ho)
  have ok':rd1 d=true:=by
   cases d <;> first|exact ok|skip
   obtain ⟨W,G,y,S,h1,rfl,h2,h3⟩:=m';have e:RepA w s.heap s.used ν (.sc y) v:=r;exfalso;simp only [RepD] at h2;obtain ⟨vs,rfl,_⟩:=h2;exact absurd e.2 (by simp [Value.oneCell'])
  have r1:Rep1 w s.heap s.used ν x v:=by
   obtain ⟨W,G,y,S,h1,rfl,h2,h3⟩:=m';exact r
  have:=m'.rep1 hs hκ r1 ok';cases d <;> first|exact this|(simp only [rd1,fU] at ok')
def aYc (σ:Nat→Option Nat) (n:Nat) (κ:Kp) (x d:AV):Prop:=mX σ n x d∨(RawK κ x d∧rdA d=true∧mX σ n d d)
section
variable {P:Program} {dst:Option Tmp} {ty:TypeId} {pos:String} {aft:Array Edge} {g:Option (Nat×Bool)} {ins:Operand→Option AV} {hp:Hp} {κ:Kp}
theorem aSa {fo:Operand} {xs:Array Operand} {ats:Array TypeId} {f:FuncId} {caps avs ds:List AV} {hl hl' hl2:List (Nat×Blk)} {kp n':Nat} {r r2:AV} {σ σ':Nat→Option Nat} {touch news:List Nat} {ed:List (Nat×Option Blk)}
  (hc:HasE P f ds hl kp r hl') (hf:ins fo=some (.fn f caps)) (hx:evs ins xs.toList=some avs) (hav:All2 (aYc σ kp κ) (avs++caps) ds) (hh:sY σ kp hp hl) (hi:aDm σ hl=true) (hit:aBg σ touch hl=true) (hlive:(touch.all λb=>(hp b).isSome)=true)
  (hh':sY σ' n' (jD hl') hl2) (hi':aDm σ' hl2=true) (hr:mX σ' n' r r2) (hbk:aGl σ σ' kp news hl2=true) (htl:aMD (touch++news) hl2) (htr:aOg (touch++news) r2=true) (he:aDt (touch++news) hl2=ed):
  AEff P ⟨dst,.call ⟨.value fo,xs,ats⟩,ty,pos,aft,g⟩ ins hp κ ⟨r2,touch,ed,news⟩:=by
 have key: ∃ av2,All2 (mX σ kp) av2 ds∧ ∀ (C:Ctx) (s:AState) (ν:Nu) (a:Act) (w:World) (vs:List Value),s.kp=κ→Sim C s ν a w→All2 (RepA w s.heap s.used ν) (avs++caps) vs→All2 (RepA w s.heap s.used ν) av2 vs:=by
  clear hx;revert hav;generalize avs++caps=xs;clear hc;intro hav;induction xs generalizing ds with
  |nil=>simp only [All2] at hav;subst hav;exact ⟨[],rfl,λ_ _ _ _ _ _ _ _ h=>h⟩
  |cons x xs ih=>
   obtain ⟨d,r,rfl,h1,h2⟩:=hav;obtain ⟨av2,g1,g2⟩:=ih h2;rcases h1 with h1|⟨k1,k2,k3⟩
   ·refine ⟨x::av2,⟨d,r,rfl,h1,g1⟩,λC s ν a w vs hκ hs hv=>?_⟩;obtain ⟨v,q,rfl,e1,e2⟩:=hv;exact ⟨v,q,rfl,e1,g2 C s ν a w q hκ hs e2⟩
   ·refine ⟨d::av2,⟨d,r,rfl,k3,g1⟩,λC s ν a w vs hκ hs hv=>?_⟩;obtain ⟨v,q,rfl,e1,e2⟩:=hv;exact ⟨v,q,rfl,k1.repA hs hκ e1 k2,g2 C s ν a w q hκ hs e2⟩
 obtain ⟨av2,g1,g2⟩:=key;exact aMG hc hf hx g2 g1 hh hi hit hlive hh' hi' hr hbk htl htr he
end
def zU (W:World):Option (World×(Nat→Prop)):=some (W,λx=>x<W.heap.size)
theorem aCu {κ:Kp} {W:World} {d:AV} {v:Value} {S:List Nat} (h:κ.fx=zU W) (r:RepD W d v S):Raw1 κ (.sc v) d:=⟨W,_,v,S,h,rfl,r,r.lt⟩
theorem aFI {κ:Kp} {W:World} {u:Value} (h:κ.fx=zU W) (o:u.oneCell'=true):Raw1 κ (.sc u) (.sc u):=aCu h (aCe o)
theorem aWc {κ:Kp} {W:World} {k:Nat} {es:List (List AV)} {v:Value} {S:List Nat} (h:κ.fx=zU W) (r:RepD W (.list k es) v S):RawK κ (.sc v) (.list k es):=aCu h r
theorem aJa {κ:Kp} :RawK κ (.agg []) (.agg []):=rfl
theorem nK {κ:Kp} {x d:AV} {xs ds:List AV} (a:Raw1 κ x d) (b:RawK κ (.agg xs) (.agg ds)):RawK κ (.agg (x::xs)) (.agg (d::ds)):=⟨d,ds,rfl,a,b⟩
def zV (κ:Kp) (h:Hp) (x d:AV):Prop:=viewA h x d∨RawK κ x d
theorem nA {κ:Kp} {h:Hp} :All2 (zV κ h) [] []:=rfl
theorem fX {κ:Kp} {h:Hp} {x d:AV} {xs ds:List AV} (a:zV κ h x d) (b:All2 (zV κ h) xs ds):All2 (zV κ h) (x::xs) (d::ds):=⟨d,ds,rfl,a,b⟩
theorem aQY {R:AV→Value→Prop} {V:AV→AV→Prop} {w:World} (hr: ∀ x d v,R x v→V x d→ ∃ S',RepD w d v S') {xs ds:List AV} {vs:List Value} (r:All2 R xs vs) (m:All2 V xs ds): ∃ S',RepVs w ds vs S':=aAY hr r m
section
variable {P:Program} {dst:Option Tmp} {ty:TypeId} {pos:String} {aft:Array Edge} {g:Option (Nat×Bool)} {ins:Operand→Option AV} {hp:Hp} {κ:Kp}
theorem aMM {fo:Operand} {xs:Array Operand} {ats:Array TypeId} {f:FuncId} {avs ds:List AV} {r x:AV} {nb:List (Nat×Blk)} {ns ns':List Nat} (hf:ins fo=some (.fn f [])) (hx:evs ins xs.toList=some avs) (hc:HasC P f ds r) (hv1:All2 (zV κ hp) avs ds) (hg:aId r)
  (hi:aQD ns r=(x,nb,ns')) (hfl:aOS x=true) (hn:ns.Nodup):
  AEff P ⟨dst,.call ⟨.value fo,xs,ats⟩,ty,pos,aft,g⟩ ins hp κ ⟨x,avs.flatMap (qA hp),qX nb,nb.map (·.1)⟩:=by
 refine ⟨λC s ν a w Q K {hκ} hi' ht hnw hd hs hK=>?_⟩;have h1:=hs.ev ((hi' fo (by simp [Op.operands,Call.operands])).trans hf);simp only [RepA,RepB] at h1;obtain ⟨cv,h1,h2⟩:=h1;simp only [All2] at h2;subst h2;obtain ⟨φ,hh⟩:=hs.heap;have h3:=aDo hs (xs:=xs.toList) (λy hy=>hi' y (by simp [Op.operands,Call.operands];exact .inr (Array.mem_toList_iff.1 hy))) hx;have hv1':All2 (zV κ s.heap) avs ds:=hv1.congrM λy hy d hd=>hd.elim (λhd=> .inl (hd.congr λb hb=>ht b (List.mem_flatMap.2 ⟨y,hy,hb⟩))) .inr;obtain ⟨S1,e1⟩:=aQY (V:=zV κ s.heap) (λx d v hr hv=>hv.elim (λhv=>viewA.rep hh hr hv) (λhv=>hv.rep hs hκ hr)) h3 hv1';have hcall:=hc.calls w (xs.map a.eval) S1 (by simpa using e1);unfold Oper.wp
 have hex:(execOp a.eval ⟨dst,.call ⟨.value fo,xs,ats⟩,ty,pos,aft,g⟩).run P w= .ok (.enter f (xs.map a.eval)) w:=by
  have:execOp a.eval ⟨dst,.call ⟨.value fo,xs,ats⟩,ty,pos,aft,g⟩=callFunc f (xs.map a.eval):=by
   simp [execOp,resolve,h1,Deferred.ofValue,invoke]
  rw [this];exact hc.enters _ _
 rw [hex];simp only [Oper.upon];refine hcall.mono λe w' ⟨v,S',he,hb,hr,hnew⟩=>?_;subst he;simp only;obtain ⟨g1,X,Sf,g2,g3⟩:=aRS (w:=w) hi hfl hr hg hnew.1 hn;have hnn:(nb.map (·.1)).Nodup:=by rw [g1] at hn;exact (List.nodup_append.1 hn).1
 obtain ⟨ν',hs'⟩:=hs.call hd hb g2 hnew hnn (λb hb=>hnw b hb) g3 (touch:=avs.flatMap (qA hp));exact hK ν' _ _ hs'
end
section
variable {P:Program} {dst:Option Tmp} {ty:TypeId} {pos:String} {aft:Array Edge} {g:Option (Nat×Bool)} {s:AState}
theorem zH {f:FuncId} {xs:Array Operand} {ats:Array TypeId} {avs ds:List AV} {u:Value} (hc:HasC P f ds (.sc u)) (hx:evs s.ev xs.toList=some avs) (hv1:All2 (zV s.kp s.heap) avs ds):
  AEff P ⟨dst,.call ⟨.value (.func f),xs,ats⟩,ty,pos,aft,g⟩ s.ev s.heap s.kp ⟨.sc u,avs.flatMap (qA s.heap),[],[]⟩:=
 aMM (ns:=[]) (nb:=[]) (r:= .sc u) (x:= .sc u) rfl hx hc hv1 trivial (aNE [] u) rfl (by simp)
theorem aDO {f:FuncId} {xs:Array Operand} {ats:Array TypeId} {avs ds:List AV} {r x:AV} {nb:List (Nat×Blk)} {ns':List Nat} (hc:HasC P f ds r) (hx:evs s.ev xs.toList=some avs) (hi:aQD s.ns r=(x,nb,ns')) (hfl:aOS x=true) (hn:uL s.ns=true) (hg:aId r) (hv1:All2 (zV s.kp s.heap) avs ds):
  AEff P ⟨dst,.call ⟨.value (.func f),xs,ats⟩,ty,pos,aft,g⟩ s.ev s.heap s.kp ⟨x,avs.flatMap (qA s.heap),qX nb,nb.map (·.1)⟩:=
 aMM rfl hx hc hv1 hg hi hfl (aAZ hn)
end
def aGq (w:World):List AV→(List AV→Prop)→Prop
 | [],K=>K []
 | .sc u::cs,K=>aGq w cs (λxs=>K (.sc u::xs))
 |d::cs,K=> ∀ v S,RepD w d v S→aGq w cs (λxs=>K (.sc v::xs))
def rA (w:World):List AV→(List AV→Prop)→Prop
 | [],K=>K []
 | .sc u::ds,K=>rA w ds (λxs=>K (.sc u::xs))
 | .agg cs::ds,K=>aGq w cs (λxs=>rA w ds (λys=>K (.agg xs::ys)))
 |d::ds,K=> ∀ v S,RepD w d v S→rA w ds (λxs=>K (.sc v::xs))
theorem uO {w:World} {K:List AV→Prop} (h:K []):aGq w [] K:=h
theorem rB {w:World} {u:Value} {cs:List AV} {K:List AV→Prop} (h:aGq w cs (λxs=>K (.sc u::xs))):aGq w (.sc u::cs) K:=h
theorem jX {w:World} {k:Nat} {es:List (List AV)} {cs:List AV} {K:List AV→Prop} (h: ∀ v S,RepD w (.list k es) v S→aGq w cs (λxs=>K (.sc v::xs))):aGq w (.list k es::cs) K:=h
theorem aEg {w:World} {K:List AV→Prop} (h:K []):rA w [] K:=h
theorem aVt {w:World} {u:Value} {cs:List AV} {K:List AV→Prop} (h:rA w cs (λxs=>K (.sc u::xs))):rA w (.sc u::cs) K:=h
theorem aEh {w:World} {xs cs:List AV} {K:List AV→Prop} (h:aGq w xs (λxs=>rA w cs (λys=>K (.agg xs::ys)))):rA w (.agg xs::cs) K:=h
theorem aQZ {w:World} {k:Nat} {es:List (List AV)} {cs:List AV} {K:List AV→Prop} (h: ∀ v S,RepD w (.list k es) v S→rA w cs (λxs=>K (.sc v::xs))):rA w (.list k es::cs) K:=h
def aRa:AV→Bool
 | .sc u=>u.oneCell'
 | .agg cs=>cs.all jF
 | .list _ _=>true
 |_=>false
theorem aKS {w:World} {d:AV} {v:Value} {S:List Nat} (r:RepD w d v S) (ok:jF d=true):v.oneCell'=true:=by
 cases d <;> simp only [jF,fU] at ok <;> simp only [RepD] at r
 ·rw [r.1];exact ok
 ·obtain ⟨a,c,rfl,_⟩:=r;rfl
theorem aJb {w:World} : ∀ {cs:List AV} {us:List Value} {S:List Nat} {K:List AV→Prop},RepVs w cs us S→cs.all jF=true→aGq w cs K→ ∃ xs,K xs∧ ∀ (w':World) (h:Hp) (u:Us) (ν:Nu),All2 (Rep1 w' h u ν) xs us
 | [],us,S,K,r,_,k=>by simp only [RepVs] at r;obtain ⟨rfl,_⟩:=r;exact ⟨[],k,λ_ _ _ _=>rfl⟩
 |c::cs,us,S,K,r,ok,k=>by
  simp only [RepVs] at r;obtain ⟨v,q,S1,S2,rfl,rfl,h3,h4⟩:=r;simp only [List.all_cons,dD] at ok
  have key: ∀ x,aGq w cs (λxs=>K (x::xs))→x= .sc v→ ∃ xs,K xs∧ ∀ (w':World) (h:Hp) (u:Us) (ν:Nu),All2 (Rep1 w' h u ν) xs (v::q):=by
   rintro x k1 rfl;obtain ⟨xs,g1,g2⟩:=aJb h4 ok.2 k1;exact ⟨.sc v::xs,g1,λw' h u ν=>⟨v,q,rfl,⟨rfl,aKS h3 ok.1⟩,g2 w' h u ν⟩⟩
  cases c <;> simp only [jF,fU,false_and] at ok
  ·simp only [RepD] at h3;exact key _ k (by rw [h3.1])
  ·exact key _ (k v S1 h3) rfl
theorem aHn {w:World} : ∀ {ds:List AV} {vs:List Value} {S:List Nat} {K:List AV→Prop},RepVs w ds vs S→ds.all aRa=true→rA w ds K→ ∃ xs,K xs∧xs.length=ds.length∧ ∀ (h:Hp) (u:Us) (ν:Nu),All2 (RepA w h u ν) xs vs
 | [],vs,S,K,r,_,k=>by simp only [RepVs] at r;obtain ⟨rfl,_⟩:=r;exact ⟨[],k,rfl,λ_ _ _=>rfl⟩
 |d::ds,vs,S,K,r,ok,k=>by
  simp only [RepVs] at r;obtain ⟨v,q,S1,S2,rfl,rfl,h3,h4⟩:=r;simp only [List.all_cons,dD] at ok
  have key: ∀ x,rA w ds (λxs=>K (x::xs))→(∀ (h:Hp) (u:Us) (ν:Nu),RepA w h u ν x v)→ ∃ xs,K xs∧xs.length=(d::ds).length∧ ∀ (h:Hp) (u:Us) (ν:Nu),All2 (RepA w h u ν) xs (v::q):=by
   intro x k1 hx;obtain ⟨xs,g1,g2,g3⟩:=aHn h4 ok.2 k1;exact ⟨x::xs,g1,by simp [g2],λh u ν=>⟨v,q,rfl,hx h u ν,g3 h u ν⟩⟩
  cases d <;> simp only [aRa,fU,false_and] at ok
  ·simp only [RepD] at h3;exact key _ k λh u ν=>by simp only [RepA,RepB,Rep1];exact ⟨h3.1,h3.2.1⟩
  ·exact key _ (k v S1 h3) λh u ν=>(show Rep1 w h u ν (.sc v) v from ⟨rfl,aKS h3 rfl⟩)
  ·have h3':=h3;simp only [RepD] at h3';obtain ⟨us,rfl,h5⟩:=h3';obtain ⟨xs,g1,g2⟩:=aJb h5 ok.1 k;exact key _ g1 λh u ν=>by simp only [RepA,RepB];exact ⟨us,rfl,g2 w h u ν⟩
theorem aKT {P:Program} {T:List (Nat×Ty)} (hT:TyOk P T) {f:FuncId} {fn:Func} {c:Code} {nt:Nat} {ds:List AV} {r:AV} {rvs:List ResultVar} {ns:List Nat} (hf:P.funcs[f]? =some fn) (hb:fn.body=some c) (hname:(fn.name== "runtime.NumGoroutine")=false) (hnt:fn.ntmps=nt) (hres:fn.results.toList=rvs)
  (hlen:Nat.ble ds.length nt=true) (hok:ds.all aRa=true) (h: ∀ W:World,rA W ds λxs=>AC P nt c ⟨aEY xs,jD [],ltb 0,ns,⟨0,true,zU W,true⟩⟩ (mW T rvs r)):HasC P f ds r:=by
 refine ⟨Enters.mk hf (by rw [hb];rfl) hname,λw args S hargs=>?_⟩;refine (callsIn_wide (n:=0)).1 (callsIn_of_wp_marks (F:=fw none) hf hb trivial ?_);have hlen':=Nat.le_of_ble_eq_true hlen;have hal:args.size=ds.length:=by have:=hargs.len;simpa using this
 obtain ⟨xs,hac,hxl,hxr⟩:=aHn hargs hok (h w);let C:Ctx:=⟨w.heap.size,w,nt,λx=>w.heap.size≤x,λ_ h=>h,⟨0,true,zU w,true⟩,w,jD [],Nu.none,λx=>x<w.heap.size,λ_ x hx hm=>absurd hx (Nat.not_lt.2 hm),(λp h=>by cases h;exact ⟨rfl,λx hx=>⟨hx,hx⟩⟩),none,λ_=>rfl⟩;have hfr: ∀ x,aBv (jD []) Nu.none x:=λx b blk β c hb=>by cases hb
 have hsim:Sim C ⟨aEY xs,jD [],ltb 0,ns,⟨0,true,zU w,true⟩⟩ Nu.none ⟨args++Array.replicate (fn.ntmps - args.size) undef,[]⟩ w:=by
  refine ⟨Below.refl _ _,bJ _,λ_ hx=>hx,aCW,by show (args++Array.replicate (fn.ntmps - args.size) undef).size=nt;simp [hnt];omega,?_,⟨λ_=>[],λb blk hb=>(by cases hb),λb c x hb=>absurd rfl hb⟩,rfl,ExtF.refl λx _ _=>hfr x,bJ _,λ_ _=>trivial,λ_ _ _ _=>trivial⟩;intro t x hx;have hx':xs[t]? =some x:=by rw [←aEe];exact hx
  obtain ⟨v,h1,h2⟩:=(hxr (jD []) (ltb 0) Nu.none).get hx';refine ⟨v,?_,h2⟩
  have hlt:t<args.size:=by
   rcases eO t args.size with h'|h'
   ·exact h'
   ·rw [iL (by simpa using h')] at h1;cases h1
  show (args++Array.replicate (fn.ntmps - args.size) undef)[t]? =some v;rw [Array.getElem?_append_left hlt];simpa using h1
 refine wpIn_mono (hac.out C rfl _ _ w hsim 0) λe a' w0 ⟨s',ν',hq,hs0⟩=>?_;obtain ⟨Ds,d1,d2,d3⟩:=hs0.defers;obtain ⟨w',hs',hleave⟩:=hs0.leave (P:=P) (n:=0) d1 d2 d3;obtain ⟨he,avs,hv,hn,hfz⟩:=hq;obtain ⟨us,h1,h2⟩:=zF hT hs' hv;obtain ⟨φ,hh⟩:=hs'.heap;have hn':=aAZ hn
 have hrun:(results fn a'.tmps).run P w'= .ok (if hh:us.toArray.size=1 then us.toArray[0] else .tuple us.toArray) w':=by
  unfold results;rw [Sem.run_bind,Array.mapM_eq_mapM_toList,Sem.run_map,hres];have h1':=h1;generalize hq:(List.mapM _ rvs:Sem (List Value))=m;rw [show Sem.run P m w'= .ok us w' by rw [←hq];exact h1'];simp
 have hres2: ∃ S',aKC w' r (if hh:us.toArray.size=1 then us.toArray[0] else .tuple us.toArray) S'∧New w.heap.size S':=by
  have hul:us.length=avs.length:=h2.len;unfold aIu at hfz;split at hfz
  ·rename_i v r';obtain ⟨u,q,rfl,g1,g2⟩:=h2;simp only [All2] at g2;subst g2;simp only [List.flatMap_cons,List.flatMap_nil,List.append_nil] at hn';obtain ⟨S',a1,a2,a3,a4⟩:=aGj hh g1 hfz.1 hn';refine ⟨S',?_,a2,a3⟩;simp only [List.size_toArray,List.length_cons,List.length_nil,Nat.zero_add,dite_true];have hnt:=hfz.2;cases r <;> first|exact a1|exact absurd rfl (hnt _)
  ·rename_i vs rs _;obtain ⟨S',a1,a2,a3,a4⟩:=aFD hh h2 hfz.2 hn';refine ⟨S',?_,a2,a3⟩;rw [dif_neg (by simp;rw [hul];exact hfz.1)];exact ⟨us,rfl,a1⟩
  ·exact hfz.elim
 obtain ⟨S',hr1,hr2⟩:=hres2;have hend:=hleave fn (λe w'=> ∃ v S',e= .returned v∧Below w.heap.size w w'∧aKC w' r v S'∧New w.heap.size S') ⟨_,hrun,_,S',rfl,hs'.below,hr1,hr2⟩;cases e <;> simp only [aFg,fU] at he <;> exact hend
def dfE:List (Nat×AV)→Prop
 | []=>True
 |(_,x)::r=>dfA x=true∧dfE r
theorem lU: ∀ {l:List (Nat×AV)},dfE l→ ∀ t x,aFT l t=some x→dfA x=true
 | [],_,t,x,h=>by cases h
 |(k,v)::r,⟨h1,h2⟩,t,x,h=>by
  simp only [aFT] at h;cases hb:Nat.beq t k with
  |true=>rw [hb] at h;cases h;exact h1
  |false=>rw [hb] at h;exact lU h2 t x h
def dfR (y:Blk):Prop:= ∀ cs∈y.es,∀ c∈cs,dfC c=true
def dfH (skip:List Nat):List (Nat×Blk)→Prop
 | []=>True
 |(b,y)::r=>(b∈skip∨dfR y)∧dfH skip r
theorem lW {skip:List Nat} : ∀ {l:List (Nat×Blk)},dfH skip l→ ∀ b blk,jD l b=some blk→b ∉ skip→ ∀ cs∈blk.es,∀ c∈cs,dfC c=true
 | [],_,b,x,h=>by cases h
 |(k,v)::r,⟨h1,h2⟩,b,x,h=>by
  simp only [jD] at h;by_cases e:b=k
  ·subst e;rw [cE] at h;cases h;intro hn;exact h1.elim (λh=>absurd h hn) id
  ·rw [cK e] at h;exact lW h2 b x h
theorem EOk.df {α:Type} {k:Nat} {e:α→List AV} (E:EOk k e) (k':Nat) (l:List α):dfR ⟨k',l.map (ow e)⟩:=by
 intro cs hcs c hc;obtain ⟨x,_,rfl⟩:=List.mem_map.1 hcs;obtain ⟨d,hd,rfl⟩:=List.mem_map.1 hc;have:=E.mem x d hd;cases d <;> simp only [jF,fU] at this <;> rfl
theorem EOk.dfS {α:Type} {k:Nat} {e:α→List AV} (E:EOk k e) (k':Nat) (l:List α) (i:Nat) {c:List AV} (h:c.all dfC=true):dfR ⟨k',(l.map (ow e)).set i c⟩:=by
 intro cs hcs d hd;rcases List.mem_or_eq_of_mem_set hcs with h1|rfl
 ·exact E.df k' l cs h1 d hd
 ·exact List.all_eq_true.1 h d hd
theorem kR {k:Nat} {es:List (List AV)} (h:(es.all λcs=>cs.all dfC)=true):dfR ⟨k,es⟩:=λcs hcs c hc=>List.all_eq_true.1 (List.all_eq_true.1 h cs hcs) c hc
theorem zW {α:Type} {e:α→List AV} {l:List α} {i:Nat} {v:α} (h:l[i]? =some v):l.map (ow e)=(l.map (ow e)).set i (ow e v):=by
 rw [←List.map_set];congr 1;refine List.ext_getElem? λj=>?_;rw [List.getElem?_set];by_cases e:i=j
 ·subst e
  have:i<l.length:=by
   rcases eO i l.length with h'|h'
   ·exact h'
   ·rw [iL h'] at h;cases h
  rw [aW rfl,aW this,h]
 ·rw [aZ e]
theorem vB {α:Type} {k:Nat} {e:α→List AV} (E:EOk k e) {l:List α} {i:Nat} {c:List AV} (h:c.all wQ=true):aDl ((l.map (ow e)).set i c):=by
 intro cs hcs d hd;rcases List.mem_or_eq_of_mem_set hcs with h1|rfl
 ·exact E.plainO l cs h1 d hd
 ·exact List.all_eq_true.1 h d hd
theorem qE {s:AState} {b c i j k k' n:Nat} {A es' fs:List (List AV)} {cs:List AV} (hi:i<A.length) (hT:s.kp.T=true) (hb:s.heap b=some ⟨k,A.set i cs⟩) (hj:cs[j]? =some (.abs k' es')) (hc:s.used c=false) (hn:es'.length=n) (hfs:cF es'=fs) (hdf: ∀ t x,s.env t=some x→dfA x=true) (hdc: ∀ b blk,s.heap b=some blk→b ∉ ([]:List Nat)→ ∀ cs∈blk.es,∀ c∈cs,dfC c=true):
  Ent s ⟨s.env,bK [(c,some ⟨k',fs⟩),(b,some ⟨k,A.set i (aDE cs j [.own c 0 n])⟩)] s.heap,gB [c] s.used,s.ns,s.kp⟩:=by
 subst hn hfs
 have hjl:j<cs.length:=by
  rcases eO j cs.length with h'|h'
  ·exact h'
  ·rw [iL h'] at hj;cases hj
 have h:=aTy (c:=c) hT hb (i:=i) (cs:=cs) (by simp [hi]) hj hc hdf (λb blk hb=>hdc b blk hb (by simp));have e:=aDr (cs:=cs) (j:=j) (vs:=[.own c 0 es'.length]) (by simp;omega);simp only [List.length_singleton] at e;rw [e] at h;simp only [List.set_set] at h;exact h
theorem aBJ {P:Program} {T:List (Nat×Ty)} {dst:Option Tmp} {ty:TypeId} {pos:String} {aft:Array Edge} {g:Option (Nat×Bool)} {s:AState} (hT:TyOk P T) {t:TypeId} {y:Ty} {x z:Operand} {val:AV} {b i j kk:Nat} {A:List (List AV)} {cs:List AV} (hi:i<A.length) (hx:s.ev x=some (.ptr b i j)) (hb:s.heap b=some ⟨kk,A.set i cs⟩) (hz:s.ev z=some val) (hy:dT T t=some y) (hsz:Nat.beq (dB val).length y.size=true) (ok:(dB val).all (okCell s.heap)=true) (hn:Nat.ble (j+y.size) cs.length=true):
  AEff P ⟨dst,.store t x z,ty,pos,aft,g⟩ s.ev s.heap s.kp ⟨.dead,b::dM (dB val),[(b,some ⟨kk,A.set i (aDE cs j (dB val))⟩)],[]⟩:=by
 have h:=aGk (P:=P) hT (dst:=dst) (ty:=ty) (pos:=pos) (aft:=aft) (g:=g) hx hb hz hy hsz ok (i:=i) (cs:=cs) (by simp [hi]) hn;rw [List.set_set] at h;exact h
theorem aXA {α:Type} {k:Nat} {e:α→List AV} {hp:Hp} {b i n:Nat} {l:List α} (E:EOk k e) (hb:hp b=some ⟨k,l.map (ow e)⟩):aCo hp (.own b i n)=some (k,((l.drop i).take n).map e,[b]):=by
 simp only [aCo,hb,←List.map_drop,←List.map_take];rw [aTn E]
section
variable {P:Program} {ops:Array Oper} {nt:Nat} {l:List Oper} {s:AState} {K:AState→Prop}
theorem aBK {t u:Bool} (i:Nat) (hi:s.env i=some (.sc (.bool t))) (q:t=u) (h:SOps P ops nt l ⟨upd (some i) (.sc (.bool u)) s.env,s.heap,s.used,s.ns,s.kp⟩ K):SOps P ops nt l s K:=by
 subst q;rw [aOY hi] at h;exact h
theorem iZ {d:Option Tmp} {op:Op} {ty:TypeId} {pos:String} {aft:Array Edge} {g:Option (Nat×Bool)} (hg:mJ ops s.env ⟨d,op,ty,pos,aft,g⟩=some false) (hd:aGe ⟨d,op,ty,pos,aft,g⟩ nt=true) (h:SOps P ops nt l ⟨upd d (.tuple []) s.env,s.heap,s.used,s.ns,s.kp⟩ K):SOps P ops nt (⟨d,op,ty,pos,aft,g⟩::l) s K:=⟨λC hC ν a w hs n Q hQ=>by
 subst hC;refine wpListIn_step λK' hK'=>?_;have hst:aNB P ops C.nt ⟨d,op,ty,pos,aft,g⟩ s aCa:=⟨aGf hd,.inr ⟨hg,rfl⟩⟩
 exact aDk hst hs λν' a' w' hs'=>hK' _ _ (h.out C rfl ν' a' w' hs' n Q hQ)⟩
end
end
noncomputable section
theorem k {α:Sort _} {a:α} :a=a:=rfl
section
variable {P:Program} {ops:Array Oper} {nt:Nat} {r:List Oper} {s:AState} {tr:List Tr} {K:List Tr→AState→Prop} {K':AState→Prop}
def opB (ops:Array Oper) (nt:Nat) (s:AState) (o:Oper) (news:List Nat):Bool:=aGe o nt&&((match mJ ops s.env o with|some true=>true|_=>false)&&news.all λb=> !s.used b)
theorem aHo {o:Oper} {news:List Nat} (h:opB ops nt s o news=true):aGe o nt=true∧mJ ops s.env o=some true∧(news.all λb=> !s.used b)=true:=by
 simp only [opB,dD] at h;obtain ⟨h1,h2,h3⟩:=h;refine ⟨h1,?_,h3⟩;split at h2
 ·assumption
 ·cases h2
theorem ae {d:Option Tmp} {op:Op} {ty:TypeId} {pos:String} {aft:Array Edge} {g:Option (Nat×Bool)} {e:Eff} (he:AEff P ⟨d,op,ty,pos,aft,g⟩ s.ev s.heap s.kp e) (hb:opB ops nt s ⟨d,op,ty,pos,aft,g⟩ e.news=true) (h:AOps P ops nt r (s.app d e) (aCp e::tr) K):AOps P ops nt (⟨d,op,ty,pos,aft,g⟩::r) s tr K:=
 jW he (aHo hb).1 (aHo hb).2.1 (aHo hb).2.2 h
theorem se {d:Option Tmp} {op:Op} {ty:TypeId} {pos:String} {aft:Array Edge} {g:Option (Nat×Bool)} {e:Eff} (he:AEff P ⟨d,op,ty,pos,aft,g⟩ s.ev s.heap s.kp e) (hb:opB ops nt s ⟨d,op,ty,pos,aft,g⟩ e.news=true) (h:SOps P ops nt r (s.app d e) K'):SOps P ops nt (⟨d,op,ty,pos,aft,g⟩::r) s K':=
 aOk he (aHo hb).1 (aHo hb).2.1 (aHo hb).2.2 h
theorem am {d:Option Tmp} {ty:TypeId} {pos:String} {aft:Array Edge} {g:Option (Nat×Bool)} {x:Operand} {v:AV} (hx:s.ev x=some v) (hb:opB ops nt s ⟨d,.move x,ty,pos,aft,g⟩ []=true) (h:AOps P ops nt r (s.app d ⟨v,[],[],[]⟩) (aCp ⟨v,[],[],[]⟩::tr) K):AOps P ops nt (⟨d,.move x,ty,pos,aft,g⟩::r) s tr K:=ae (aGY hx) hb h
theorem aa {d:Option Tmp} {ty:TypeId} {pos:String} {aft:Array Edge} {g:Option (Nat×Bool)} {x:Operand} {v:AV} (hx:s.ev x=some v) (hb:opB ops nt s ⟨d,.assign x,ty,pos,aft,g⟩ []=true) (h:AOps P ops nt r (s.app d ⟨v,[],[],[]⟩) (aCp ⟨v,[],[],[]⟩::tr) K):AOps P ops nt (⟨d,.assign x,ty,pos,aft,g⟩::r) s tr K:=ae (aDh hx) hb h
theorem an (h:K tr s):AOps P ops nt [] s tr K:=aJx h
theorem sn (h:K' s):SOps P ops nt [] s K':=aTw h
variable {Q:Exit→AState→Prop}
theorem sQ {x y:Code} (h:AC P nt x s (aCd (λs'=>AC P nt y s' Q) Q)):AC P nt (.seq x y) s Q:=aQC h
theorem rg {id:Nat} {l:List Oper} (h:AOps P l.toArray nt l s [] (λ_ s'=>Q .normal s')):AC P nt (.region id l.toArray false) s Q:=aHc h
theorem rgS {id:Nat} {l:List Oper} (h:SOps P l.toArray nt l s (Q .normal)):AC P nt (.region id l.toArray false) s Q:=aQW h
theorem tn (h:K' s):aCd K' Q .normal s:=h
end
theorem ak {P:Program} {ops:Array Oper} {nt:Nat} {r:List Oper} {s:AState} {tr:List Tr} {K:List Tr→AState→Prop} {d:Option Tmp} {op:Op} {ty:TypeId} {pos:String} {aft:Array Edge} {g:Option (Nat×Bool)} (hg:mJ ops s.env ⟨d,op,ty,pos,aft,g⟩=some false) (hd:aGe ⟨d,op,ty,pos,aft,g⟩ nt=true) (h:AOps P ops nt r ⟨upd d (.tuple []) s.env,s.heap,s.used,s.ns,s.kp⟩ (⟨[],[]⟩::tr) K):AOps P ops nt (⟨d,op,ty,pos,aft,g⟩::r) s tr K:=aSM hg hd h
section
variable {σ:Nat→Option Nat} {n b b0 k:Nat} {h:Hp} {r:List (Nat×Blk)}
theorem hB {y:Blk} (hp:aDl y.es) (hs:σ b=some b0) (hb:h b0=some y) (hn:Nat.blt b n=true) (hr:sY σ n h r):sY σ n h ((b,y)::r):=by
 simp only [sY];rw [hs];exact ⟨⟨y,hb,rfl,.inl ⟨rfl,hp⟩⟩,hn,hr⟩
theorem hX {y:Blk} (hm:match σ b with|some b0=> ∃ x,h b0=some x∧aFz σ n x y|none=>y.es=[]) (hn:Nat.blt b n=true) (hr:sY σ n h r):sY σ n h ((b,y)::r):=⟨hm,hn,hr⟩
end
theorem aYd {P:Program} {T:List (Nat×Ty)} (hT:TyOk P T) {dst:Option Tmp} {pos:String} {aft:Array Edge} {g:Option (Nat×Bool)} {s:AState} {x:Operand} {t e k:Nat} {y:Ty} {dty:TypeId} {α:Type} {f:α→List AV} {l:List α} (hx:s.ev x=some (.list k (List.map f l))) (hy:dT T t=some y) (hd:y.desc= .slice e):
  AEff P ⟨dst,.call ⟨.builtin .len,#[x],#[t]⟩,dty,pos,aft,g⟩ s.ev s.heap s.kp ⟨.int l.length,[],[],[]⟩:=AEff.val (aQG hT hx hy hd) (by rw [dC])
theorem lA {α:Type} {a b:List α} :(a++b).length=a.length+b.length:=List.length_append
theorem lT {α:Type} {a:List α} {i:Nat} {x:α} :(a.set i x).length=a.length:=List.length_set
theorem lR {α:Type} {n:Nat} {x:α} :(List.replicate n x).length=n:=List.length_replicate
theorem lC {α:Type} {a:α} {b:List α} :(a::b).length=b.length+1:=List.length_cons
theorem lN {α:Type} :([]:List α).length=0:=List.length_nil
theorem aTz:([]:List AV).all aBE=true:=rfl
theorem aJc {d:AV} {ds:List AV} (h1:aBE d=true) (h2:ds.all aBE=true):(d::ds).all aBE=true:=by
 rw [List.all_cons,h1,h2];rfl
end
noncomputable section
theorem k2 {αa:Sort _} {a:αa} {αb:Sort _} {b:αb} :a=a∧b=b:=⟨rfl,rfl⟩
theorem k3 {αa:Sort _} {a:αa} {αb:Sort _} {b:αb} {αc:Sort _} {c:αc} :a=a∧b=b∧c=c:=⟨rfl,rfl,rfl⟩
theorem k4 {αa:Sort _} {a:αa} {αb:Sort _} {b:αb} {αc:Sort _} {c:αc} {αd:Sort _} {d:αd} :a=a∧b=b∧c=c∧d=d:=⟨rfl,rfl,rfl,rfl⟩
theorem k7 {αa:Sort _} {a:αa} {αb:Sort _} {b:αb} {αc:Sort _} {c:αc} {αd:Sort _} {d:αd} {αe:Sort _} {e:αe} {αf:Sort _} {f:αf} {αg:Sort _} {g:αg} :a=a∧b=b∧c=c∧d=d∧e=e∧f=f∧g=g:=⟨rfl,rfl,rfl,rfl,rfl,rfl,rfl⟩
theorem k8 {αa:Sort _} {a:αa} {αb:Sort _} {b:αb} {αc:Sort _} {c:αc} {αd:Sort _} {d:αd} {αe:Sort _} {e:αe} {αf:Sort _} {f:αf} {αg:Sort _} {g:αg} {αh:Sort _} {h:αh} :a=a∧b=b∧c=c∧d=d∧e=e∧f=f∧g=g∧h=h:=⟨rfl,rfl,rfl,rfl,rfl,rfl,rfl,rfl⟩
section
variable {ops:Array Oper} {nt:Nat} {r:List Oper} {s:AState} {tr:List Tr} {K:List Tr→AState→Prop} {K':AState→Prop} {d:Option Tmp} {ty:TypeId} {pos:String} {aft:Array Edge} {g:Option (Nat×Bool)}
theorem lp {x:Operand} {t:Nat} {y:Ty} {b i j:Nat} {blk:Blk} {cs:List AV} {v:AV} (h:s.ev x=some (.ptr b i j)∧s.heap b=some blk∧dT TT t=some y∧(y.desc.isAgg||Nat.beq y.size 1)=true∧blk.es[i]? =some cs∧Nat.ble (j+y.size) cs.length=true∧zN y.desc.isAgg (((cs.drop j).take y.size).map aDg)=v∧opB ops nt s ⟨d,.load t x,ty,pos,aft,g⟩ []=true) (g2:AOps Tryz.prog ops nt r (s.app d ⟨v,[b],[],[]⟩) (aCp ⟨v,[b],[],[]⟩::tr) K):AOps Tryz.prog ops nt (⟨d,.load t x,ty,pos,aft,g⟩::r) s tr K:=by
 obtain ⟨h0,h1,h2,h3,h4,h5,h6,h7⟩:=h;exact ae (dK aJ h0 h1 h2 h3 h4 h5 h6) h7 g2
theorem fp {x:Operand} {st f off ft:Nat} {b i j:Nat} {blk:Blk} {y yf:Ty} {fs:List (Nat×Nat)} (h:s.ev x=some (.ptr b i j)∧s.heap b=some blk∧dT TT st=some y∧y.desc= .struct fs∧fs[f]? =some (off,ft)∧dT TT ft=some yf∧Nat.beq yf.size 0=false∧opB ops nt s ⟨d,.fieldAddr st x f,ty,pos,aft,g⟩ []=true) (g2:AOps Tryz.prog ops nt r (s.app d ⟨.ptr b i (j+off),[b],[],[]⟩) (aCp ⟨.ptr b i (j+off),[b],[],[]⟩::tr) K):AOps Tryz.prog ops nt (⟨d,.fieldAddr st x f,ty,pos,aft,g⟩::r) s tr K:=by
 obtain ⟨h0,h1,h2,h3,h4,h5,h6,h7⟩:=h;exact ae (aBF aJ h0 h1 h2 h3 h4 h5 h6) h7 g2
theorem lr {x:Operand} {t:Nat} {y:Ty} {cs:List AV} {v:AV} (h:s.ev x=some (.ref cs)∧dT TT t=some y∧(y.desc.isAgg||Nat.beq y.size 1)=true∧Nat.ble y.size cs.length=true∧(cs.take y.size).all fG=true∧zN y.desc.isAgg (cs.take y.size)=v∧opB ops nt s ⟨d,.load t x,ty,pos,aft,g⟩ []=true) (g2:AOps Tryz.prog ops nt r (s.app d ⟨v,[],[],[]⟩) (aCp ⟨v,[],[],[]⟩::tr) K):AOps Tryz.prog ops nt (⟨d,.load t x,ty,pos,aft,g⟩::r) s tr K:=by
 obtain ⟨h0,h1,h2,h3,h4,h5,h6⟩:=h;exact ae (aQF aJ h0 h1 h2 h3 h4 h5) h6 g2
theorem cm {op:BinOp} {t t':TypeId} {x y:Operand} {q:IntKind} {a b:Int} {c:Bool} (h:s.ev x=some (.sc (.int q a))∧s.ev y=some (.sc (.int q b))∧aVd op a b=some c∧opB ops nt s ⟨d,.binOp op t x y t',ty,pos,aft,g⟩ []=true) (g2:AOps Tryz.prog ops nt r (s.app d ⟨.bl c,[],[],[]⟩) (aCp ⟨.bl c,[],[],[]⟩::tr) K):AOps Tryz.prog ops nt (⟨d,.binOp op t x y t',ty,pos,aft,g⟩::r) s tr K:=by
 obtain ⟨h0,h1,h2,h3⟩:=h;exact ae (aWX h0 h1 h2) h3 g2
theorem pk {c x y:Operand} {t:Bool} {v:AV} (h:s.ev c=some (.sc (.bool t))∧s.ev (if t then x else y)=some v∧opB ops nt s ⟨d,.pick c x y,ty,pos,aft,g⟩ []=true) (g2:AOps Tryz.prog ops nt r (s.app d ⟨v,[],[],[]⟩) (aCp ⟨v,[],[],[]⟩::tr) K):AOps Tryz.prog ops nt (⟨d,.pick c x y,ty,pos,aft,g⟩::r) s tr K:=by
 obtain ⟨h0,h1,h2⟩:=h;exact ae (aOI h0 h1) h2 g2
theorem ln {x:Operand} {t e q:Nat} {y:Ty} {α:Type} {f:α→List AV} {l:List α} (h:s.ev x=some (.list q (List.map f l))∧dT TT t=some y∧y.desc= .slice e∧opB ops nt s ⟨d,.call ⟨.builtin .len,#[x],#[t]⟩,ty,pos,aft,g⟩ []=true) (g2:AOps Tryz.prog ops nt r (s.app d ⟨.int l.length,[],[],[]⟩) (aCp ⟨.int l.length,[],[],[]⟩::tr) K):AOps Tryz.prog ops nt (⟨d,.call ⟨.builtin .len,#[x],#[t]⟩,ty,pos,aft,g⟩::r) s tr K:=by
 obtain ⟨h0,h1,h2,h3⟩:=h;exact ae (aYd aJ h0 h1 h2) h3 g2
theorem lpS {x:Operand} {t:Nat} {y:Ty} {b i j:Nat} {blk:Blk} {cs:List AV} {v:AV} (h:s.ev x=some (.ptr b i j)∧s.heap b=some blk∧dT TT t=some y∧(y.desc.isAgg||Nat.beq y.size 1)=true∧blk.es[i]? =some cs∧Nat.ble (j+y.size) cs.length=true∧zN y.desc.isAgg (((cs.drop j).take y.size).map aDg)=v∧opB ops nt s ⟨d,.load t x,ty,pos,aft,g⟩ []=true) (g2:SOps Tryz.prog ops nt r (s.app d ⟨v,[b],[],[]⟩) K'):SOps Tryz.prog ops nt (⟨d,.load t x,ty,pos,aft,g⟩::r) s K':=by
 obtain ⟨h0,h1,h2,h3,h4,h5,h6,h7⟩:=h;exact se (dK aJ h0 h1 h2 h3 h4 h5 h6) h7 g2
theorem fpS {x:Operand} {st f off ft:Nat} {b i j:Nat} {blk:Blk} {y yf:Ty} {fs:List (Nat×Nat)} (h:s.ev x=some (.ptr b i j)∧s.heap b=some blk∧dT TT st=some y∧y.desc= .struct fs∧fs[f]? =some (off,ft)∧dT TT ft=some yf∧Nat.beq yf.size 0=false∧opB ops nt s ⟨d,.fieldAddr st x f,ty,pos,aft,g⟩ []=true) (g2:SOps Tryz.prog ops nt r (s.app d ⟨.ptr b i (j+off),[b],[],[]⟩) K'):SOps Tryz.prog ops nt (⟨d,.fieldAddr st x f,ty,pos,aft,g⟩::r) s K':=by
 obtain ⟨h0,h1,h2,h3,h4,h5,h6,h7⟩:=h;exact se (aBF aJ h0 h1 h2 h3 h4 h5 h6) h7 g2
theorem cmS {op:BinOp} {t t':TypeId} {x y:Operand} {q:IntKind} {a b:Int} {c:Bool} (h:s.ev x=some (.sc (.int q a))∧s.ev y=some (.sc (.int q b))∧aVd op a b=some c∧opB ops nt s ⟨d,.binOp op t x y t',ty,pos,aft,g⟩ []=true) (g2:SOps Tryz.prog ops nt r (s.app d ⟨.bl c,[],[],[]⟩) K'):SOps Tryz.prog ops nt (⟨d,.binOp op t x y t',ty,pos,aft,g⟩::r) s K':=by
 obtain ⟨h0,h1,h2,h3⟩:=h;exact se (aWX h0 h1 h2) h3 g2
theorem pkS {c x y:Operand} {t:Bool} {v:AV} (h:s.ev c=some (.sc (.bool t))∧s.ev (if t then x else y)=some v∧opB ops nt s ⟨d,.pick c x y,ty,pos,aft,g⟩ []=true) (g2:SOps Tryz.prog ops nt r (s.app d ⟨v,[],[],[]⟩) K'):SOps Tryz.prog ops nt (⟨d,.pick c x y,ty,pos,aft,g⟩::r) s K':=by
 obtain ⟨h0,h1,h2⟩:=h;exact se (aOI h0 h1) h2 g2
theorem jY {x:Operand} {v:AV} (h:s.ev x=some v∧opB ops nt s ⟨d,.assign x,ty,pos,aft,g⟩ []=true) (g2:SOps Tryz.prog ops nt r (s.app d ⟨v,[],[],[]⟩) K'):SOps Tryz.prog ops nt (⟨d,.assign x,ty,pos,aft,g⟩::r) s K':=by
 obtain ⟨h0,h1⟩:=h;exact se (aDh h0) h1 g2
theorem gJ {x:Operand} {v:AV} (h:s.ev x=some v∧opB ops nt s ⟨d,.move x,ty,pos,aft,g⟩ []=true) (g2:SOps Tryz.prog ops nt r (s.app d ⟨v,[],[],[]⟩) K'):SOps Tryz.prog ops nt (⟨d,.move x,ty,pos,aft,g⟩::r) s K':=by
 obtain ⟨h0,h1⟩:=h;exact se (aGY h0) h1 g2
theorem aQ:True:=trivial
theorem aT {x:Operand} {v:AV} {Q:Exit→AState→Prop} {T:AState→Prop} (h:s.ev x=some v∧opB ops nt s ⟨d,.assign x,ty,pos,aft,g⟩ []=true) (g2:T (s.app d ⟨v,[],[],[]⟩)):AOps Tryz.prog ops nt [⟨d,.assign x,ty,pos,aft,g⟩] s tr (λ_ s'=>aCd T Q .normal s'):=aa h.1 h.2 (an (tn g2))
theorem aK {o1 o2:Oper} (h:(mJ ops s.env o1=some false∧aGe o1 nt=true∧mJ ops (upd o1.dst (.tuple []) s.env) o2=some false∧aGe o2 nt=true)) (g2:AOps Tryz.prog ops nt r ⟨upd o2.dst (.tuple []) (upd o1.dst (.tuple []) s.env),s.heap,s.used,s.ns,s.kp⟩ (⟨[],[]⟩::⟨[],[]⟩::tr) K):AOps Tryz.prog ops nt (o1::o2::r) s tr K:=ak h.1 h.2.1 (ak h.2.2.1 h.2.2.2 g2)
theorem sR {id:Nat} {l:List Oper} {y:Code} {Q:Exit→AState→Prop} (h:AOps Tryz.prog l.toArray nt l s [] (λ_ s'=>aCd (λs'=>AC Tryz.prog nt y s' Q) Q .normal s')):AC Tryz.prog nt (.seq (.region id l.toArray false) y) s Q:=sQ (rg h)
theorem sS {id:Nat} {l:List Oper} {y:Code} {Q:Exit→AState→Prop} (h:SOps Tryz.prog l.toArray nt l s (aCd (λs'=>AC Tryz.prog nt y s' Q) Q .normal)):AC Tryz.prog nt (.seq (.region id l.toArray false) y) s Q:=sQ (rgS h)
end
end
noncomputable section
theorem oB {α β:Type} {o:Option α} {k:α→Option β} {r:β} {p:Prop} (h:o.bind k=some r) (f: ∀ a,o=some a→k a=some r→p):p:=by
 obtain ⟨a,h1,h2⟩:=ob h;exact f a h1 h2
theorem eV {h:Hp} {cs:List AV} (hp:cs.all fG=true):viewA h (.agg cs) (.agg cs):=aBe (aOX hp)
theorem gK {T:List (Nat×Ty)} {rvs:List ResultVar} {e:Exit} {s:AState} {u v:Bool} (h:some u=some v) (p:zT T s rvs=some [.bl u]∧aFg e=true):mW T rvs (.bl v) e s:=by
 cases h;exact bD p.2 p.1 rfl (lF rfl)
theorem rtI {T:List (Nat×Ty)} {rvs:List ResultVar} {e:Exit} {s:AState} {u v:Int} (h:some u=some v) (p:zT T s rvs=some [.int u]∧aFg e=true):mW T rvs (.int v) e s:=by
 cases h;exact bD p.2 p.1 rfl (mY rfl)
theorem cL {d:Option Tmp} {ty:TypeId} {pos:String} {aft:Array Edge} {g:Option (Nat×Bool)} {s:AState} {f:FuncId} {xs:Array Operand} {ats:Array TypeId} {avs ds:List AV} {ns':List Nat} {α:Type} {e:α→List AV} {q b:Nat} {l:List α} (ok:EOk q e) (hc:HasC Tryz.prog f ds (.list q (List.map e l))) (h:evs s.ev xs.toList=some avs∧s.ns=b::ns'∧uL s.ns=true) (hv:All2 (viewA s.heap) avs ds):AEff Tryz.prog ⟨d,.call ⟨.value (.func f),xs,ats⟩,ty,pos,aft,g⟩ s.ev s.heap s.kp ⟨.own b 0 l.length,avs.flatMap (qA s.heap)++[].flatMap (sZ s.heap),[(b,some ⟨q,List.map (ow e) l⟩)],[b]⟩:=
 AEff.conv (jE (x:= .own b 0 (List.map e l).length) (nb:=[(b,⟨q,cF (List.map e l)⟩)]) hc h.1 (by rw [h.2.1];rfl) rfl h.2.2 (ok.good _) hv) (by simp only [aH]) (pE (nb':=[(b,⟨q,List.map (ow e) l⟩)]) (by simp only [dX]))
theorem cLK {d:Option Tmp} {ty:TypeId} {pos:String} {aft:Array Edge} {g:Option (Nat×Bool)} {s:AState} {f:FuncId} {xs:Array Operand} {ats:Array TypeId} {avs ds:List AV} {ns':List Nat} {α:Type} {e:α→List AV} {q b:Nat} {l:List α} (ok:EOk q e) (hc:HasC Tryz.prog f ds (.list q (List.map e l))) (h:evs s.ev xs.toList=some avs∧s.ns=b::ns'∧uL s.ns=true) (hv:All2 (zV s.kp s.heap) avs ds):AEff Tryz.prog ⟨d,.call ⟨.value (.func f),xs,ats⟩,ty,pos,aft,g⟩ s.ev s.heap s.kp ⟨.own b 0 l.length,avs.flatMap (qA s.heap),[(b,some ⟨q,List.map (ow e) l⟩)],[b]⟩:=
 AEff.conv (aDO (x:= .own b 0 (List.map e l).length) (nb:=[(b,⟨q,cF (List.map e l)⟩)]) hc h.1 (by rw [h.2.1];rfl) rfl h.2.2 (ok.good _) hv) (by simp only [aH]) (pE (nb':=[(b,⟨q,List.map (ow e) l⟩)]) (by simp only [dX]))
theorem cM {d:Option Tmp} {ty:TypeId} {pos:String} {aft:Array Edge} {g:Option (Nat×Bool)} {s:AState} {f:FuncId} {xs:Array Operand} {ats:Array TypeId} {avs ds:List AV} {ns':List Nat} {b:Nat} {v:Mt} (hc:HasC Tryz.prog f ds (.agg (eM v))) (h:evs s.ev xs.toList=some avs∧s.ns=b::ns'∧uL s.ns=true) (hv:All2 (viewA s.heap) avs ds):AEff Tryz.prog ⟨d,.call ⟨.value (.func f),xs,ats⟩,ty,pos,aft,g⟩ s.ev s.heap s.kp ⟨.agg [.int v.rows,.int v.cols,.own b 0 v.cells.length],avs.flatMap (qA s.heap)++[].flatMap (sZ s.heap),[(b,some ⟨1,List.map (ow eI) v.cells⟩)],[b]⟩:=
 AEff.conv (jE (x:= .agg [.int v.rows,.int v.cols,.own b 0 (List.map eI v.cells).length]) (nb:=[(b,⟨1,cF (List.map eI v.cells)⟩)]) hc h.1 (by rw [h.2.1];rfl) rfl h.2.2 (bU trivial (bU trivial (bU (cA.good _) tC))) hv) (by simp only [aH]) (pE (nb':=[(b,⟨1,List.map (ow eI) v.cells⟩)]) (by simp only [dX]))
theorem cMK {d:Option Tmp} {ty:TypeId} {pos:String} {aft:Array Edge} {g:Option (Nat×Bool)} {s:AState} {f:FuncId} {xs:Array Operand} {ats:Array TypeId} {avs ds:List AV} {ns':List Nat} {b:Nat} {v:Mt} (hc:HasC Tryz.prog f ds (.agg (eM v))) (h:evs s.ev xs.toList=some avs∧s.ns=b::ns'∧uL s.ns=true) (hv:All2 (zV s.kp s.heap) avs ds):AEff Tryz.prog ⟨d,.call ⟨.value (.func f),xs,ats⟩,ty,pos,aft,g⟩ s.ev s.heap s.kp ⟨.agg [.int v.rows,.int v.cols,.own b 0 v.cells.length],avs.flatMap (qA s.heap),[(b,some ⟨1,List.map (ow eI) v.cells⟩)],[b]⟩:=
 AEff.conv (aDO (x:= .agg [.int v.rows,.int v.cols,.own b 0 (List.map eI v.cells).length]) (nb:=[(b,⟨1,cF (List.map eI v.cells)⟩)]) hc h.1 (by rw [h.2.1];rfl) rfl h.2.2 (bU trivial (bU trivial (bU (cA.good _) tC))) hv) (by simp only [aH]) (pE (nb':=[(b,⟨1,List.map (ow eI) v.cells⟩)]) (by simp only [dX]))
theorem cQ {d:Option Tmp} {ty:TypeId} {pos:String} {aft:Array Edge} {g:Option (Nat×Bool)} {s:AState} {f:FuncId} {xs:Array Operand} {ats:Array TypeId} {avs ds:List AV} {ns':List Nat} {b c:Nat} {v:Qv} (hc:HasC Tryz.prog f ds (.agg (eQ v))) (h:evs s.ev xs.toList=some avs∧s.ns=b::c::ns'∧uL s.ns=true) (hv:All2 (viewA s.heap) avs ds):AEff Tryz.prog ⟨d,.call ⟨.value (.func f),xs,ats⟩,ty,pos,aft,g⟩ s.ev s.heap s.kp ⟨.agg [.int v.n,.own b 0 v.src.length,.own c 0 v.tgt.length],avs.flatMap (qA s.heap)++[].flatMap (sZ s.heap),[(b,some ⟨1,List.map (ow eI) v.src⟩),(c,some ⟨1,List.map (ow eI) v.tgt⟩)],[b,c]⟩:=
 AEff.conv (jE (x:= .agg [.int v.n,.own b 0 (List.map eI v.src).length,.own c 0 (List.map eI v.tgt).length]) (nb:=[(b,⟨1,cF (List.map eI v.src)⟩),(c,⟨1,cF (List.map eI v.tgt)⟩)]) hc h.1 (by rw [h.2.1];rfl) rfl h.2.2 (bU trivial (bU (cA.good _) (bU (cA.good _) tC))) hv) (by simp only [aH]) (pE (nb':=[(b,⟨1,List.map (ow eI) v.src⟩),(c,⟨1,List.map (ow eI) v.tgt⟩)]) (by simp only [dX]))
theorem cR {d:Option Tmp} {ty:TypeId} {pos:String} {aft:Array Edge} {g:Option (Nat×Bool)} {s:AState} {f:FuncId} {xs:Array Operand} {ats:Array TypeId} {avs ds:List AV} {ns':List Nat} {b c b3 b4:Nat} {v:Rp} (hc:HasC Tryz.prog f ds (.agg (eR v))) (h:evs s.ev xs.toList=some avs∧s.ns=b::c::b3::b4::ns'∧uL s.ns=true) (hv:All2 (viewA s.heap) avs ds):AEff Tryz.prog ⟨d,.call ⟨.value (.func f),xs,ats⟩,ty,pos,aft,g⟩ s.ev s.heap s.kp ⟨.agg [.int v.p,.int v.q.n,.own b 0 v.q.src.length,.own c 0 v.q.tgt.length,.own b3 0 v.dims.length,.own b4 0 v.maps.length],avs.flatMap (qA s.heap)++[].flatMap (sZ s.heap),[(b,some ⟨1,List.map (ow eI) v.q.src⟩),(c,some ⟨1,List.map (ow eI) v.q.tgt⟩),(b3,some ⟨1,List.map (ow eI) v.dims⟩),(b4,some ⟨3,List.map (ow eM) v.maps⟩)],[b,c,b3,b4]⟩:=
 AEff.conv (jE (x:= .agg [.int v.p,.int v.q.n,.own b 0 (List.map eI v.q.src).length,.own c 0 (List.map eI v.q.tgt).length,.own b3 0 (List.map eI v.dims).length,.own b4 0 (List.map eM v.maps).length]) (nb:=[(b,⟨1,cF (List.map eI v.q.src)⟩),(c,⟨1,cF (List.map eI v.q.tgt)⟩),(b3,⟨1,cF (List.map eI v.dims)⟩),(b4,⟨3,cF (List.map eM v.maps)⟩)]) hc h.1 (by rw [h.2.1];rfl) rfl h.2.2 (bU trivial (bU trivial (bU (cA.good _) (bU (cA.good _) (bU (cA.good _) (bU (aX.good _) tC)))))) hv) (by simp only [aH]) (pE (nb':=[(b,⟨1,List.map (ow eI) v.q.src⟩),(c,⟨1,List.map (ow eI) v.q.tgt⟩),(b3,⟨1,List.map (ow eI) v.dims⟩),(b4,⟨3,List.map (ow eM) v.maps⟩)]) (by simp only [dX]))
theorem cRK {d:Option Tmp} {ty:TypeId} {pos:String} {aft:Array Edge} {g:Option (Nat×Bool)} {s:AState} {f:FuncId} {xs:Array Operand} {ats:Array TypeId} {avs ds:List AV} {ns':List Nat} {b c b3 b4:Nat} {v:Rp} (hc:HasC Tryz.prog f ds (.agg (eR v))) (h:evs s.ev xs.toList=some avs∧s.ns=b::c::b3::b4::ns'∧uL s.ns=true) (hv:All2 (zV s.kp s.heap) avs ds):AEff Tryz.prog ⟨d,.call ⟨.value (.func f),xs,ats⟩,ty,pos,aft,g⟩ s.ev s.heap s.kp ⟨.agg [.int v.p,.int v.q.n,.own b 0 v.q.src.length,.own c 0 v.q.tgt.length,.own b3 0 v.dims.length,.own b4 0 v.maps.length],avs.flatMap (qA s.heap),[(b,some ⟨1,List.map (ow eI) v.q.src⟩),(c,some ⟨1,List.map (ow eI) v.q.tgt⟩),(b3,some ⟨1,List.map (ow eI) v.dims⟩),(b4,some ⟨3,List.map (ow eM) v.maps⟩)],[b,c,b3,b4]⟩:=
 AEff.conv (aDO (x:= .agg [.int v.p,.int v.q.n,.own b 0 (List.map eI v.q.src).length,.own c 0 (List.map eI v.q.tgt).length,.own b3 0 (List.map eI v.dims).length,.own b4 0 (List.map eM v.maps).length]) (nb:=[(b,⟨1,cF (List.map eI v.q.src)⟩),(c,⟨1,cF (List.map eI v.q.tgt)⟩),(b3,⟨1,cF (List.map eI v.dims)⟩),(b4,⟨3,cF (List.map eM v.maps)⟩)]) hc h.1 (by rw [h.2.1];rfl) rfl h.2.2 (bU trivial (bU trivial (bU (cA.good _) (bU (cA.good _) (bU (cA.good _) (bU (aX.good _) tC)))))) hv) (by simp only [aH]) (pE (nb':=[(b,⟨1,List.map (ow eI) v.q.src⟩),(c,⟨1,List.map (ow eI) v.q.tgt⟩),(b3,⟨1,List.map (ow eI) v.dims⟩),(b4,⟨3,List.map (ow eM) v.maps⟩)]) (by simp only [dX]))
theorem cS {d:Option Tmp} {ty:TypeId} {pos:String} {aft:Array Edge} {g:Option (Nat×Bool)} {s:AState} {f:FuncId} {xs:Array Operand} {ats:Array TypeId} {avs ds:List AV} {ns':List Nat} {b:Nat} {v:Sc} (hc:HasC Tryz.prog f ds (.agg (eS v))) (h:evs s.ev xs.toList=some avs∧s.ns=b::ns'∧uL s.ns=true) (hv:All2 (viewA s.heap) avs ds):AEff Tryz.prog ⟨d,.call ⟨.value (.func f),xs,ats⟩,ty,pos,aft,g⟩ s.ev s.heap s.kp ⟨.agg [.int v.size,.own b 0 v.basis.length],avs.flatMap (qA s.heap)++[].flatMap (sZ s.heap),[(b,some ⟨1,List.map (ow (dQ 1 eI)) v.basis⟩)],[b]⟩:=
 AEff.conv (jE (x:= .agg [.int v.size,.own b 0 (List.map (dQ 1 eI) v.basis).length]) (nb:=[(b,⟨1,cF (List.map (dQ 1 eI) v.basis)⟩)]) hc h.1 (by rw [h.2.1];rfl) rfl h.2.2 (bU trivial (bU (cB.good _) tC)) hv) (by simp only [aH]) (pE (nb':=[(b,⟨1,List.map (ow (dQ 1 eI)) v.basis⟩)]) (by simp only [dX]))
def re1 (σ:Nat→Option Nat):AV→AV
 | .own b i m=>match σ b with|some b0=> .own b0 i m|none=> .dead
 | .ptr b i j=>match σ b with|some b0=> .ptr b0 i j|none=> .dead
 |x=>x
def reA (σ:Nat→Option Nat):AV→AV
 | .agg cs=> .agg (cs.map (re1 σ))
 |x=>re1 σ x
def ok1 (σ:Nat→Option Nat) (n:Nat):AV→Bool
 | .own b _ _=>(σ b).isSome &&Nat.blt b n
 | .ptr b _ _=>(σ b).isSome &&Nat.blt b n
 | .sc _=>true
 | .nil _=>true
 | .list _ _=>true
 | .ref _=>true
 |_=>false
def okA (σ:Nat→Option Nat) (n:Nat):AV→Bool
 | .agg cs=>cs.all (ok1 σ n)
 |x=>ok1 σ n x
def aOo (e:Nat→Option AV):List (Nat×AV)→List (Option AV)
 | []=>[]
 |(t,_)::r=>e t::aOo e r
def aOp (σ:Nat→Option Nat):List (Nat×AV)→List (Option AV)
 | []=>[]
 |(_,y)::r=>some (reA σ y)::aOp σ r
theorem aDP {σ:Nat→Option Nat} {n:Nat} {y:AV} (h:ok1 σ n y=true):gG σ n (re1 σ y) y:=by
 cases y <;> simp only [ok1,fU] at h
 ·rfl
 ·trivial
 ·exact ⟨rfl,rfl⟩
 ·rfl
 all_goals
  rename_i b i j
  simp only [dD] at h
  obtain ⟨b0,hb⟩:=Option.isSome_iff_exists.1 h.1
  simp only [re1,hb]
  exact ⟨hb,rfl,rfl,h.2⟩
theorem aWe {σ:Nat→Option Nat} {n:Nat} : ∀ {cs:List AV},cs.all (ok1 σ n)=true→All2 (gG σ n) (cs.map (re1 σ)) cs
 | [],_=>rfl
 |c::cs,h=>by
  simp only [List.all_cons,dD] at h;exact ⟨c,cs,rfl,aDP h.1,aWe h.2⟩
theorem aXs {σ:Nat→Option Nat} {n:Nat} {y:AV} (h:okA σ n y=true):mX σ n (reA σ y) y:=by
 cases y with
 |agg cs=>exact aWe h
 |fn f cs=>simp [okA,ok1] at h
 |tuple cs=>simp [okA,ok1] at h
 |dead=>simp [okA,ok1] at h
 |abs q es=>simp [okA,ok1] at h
 |sc u=>exact aDP (σ:=σ) (n:=n) (y:= .sc u) h
 |nil q=>exact aDP (σ:=σ) (n:=n) (y:= .nil q) h
 |list q es=>exact aDP (σ:=σ) (n:=n) (y:= .list q es) h
 |ref cs=>exact aDP (σ:=σ) (n:=n) (y:= .ref cs) h
 |own b i m=>
  have:=aDP (σ:=σ) (n:=n) (y:= .own b i m) h;simp only [reA];generalize re1 σ (.own b i m)=z at*;cases z <;> first|exact this|exact this.elim
 |ptr b i j=>
  have:=aDP (σ:=σ) (n:=n) (y:= .ptr b i j) h;simp only [reA];generalize re1 σ (.ptr b i j)=z at*;cases z <;> first|exact this|exact this.elim
theorem aXt {σ:Nat→Option Nat} {n:Nat} {e:Nat→Option AV} : ∀ {tl:List (Nat×AV)},aOo e tl=aOp σ tl→(tl.all λp=>okA σ n p.2)=true→aGg σ n e tl
 | [],_,_=>trivial
 |(t,y)::r,h,q=>by
  simp only [aOo,aOp,List.cons.injEq] at h;simp only [List.all_cons,dD] at q;exact ⟨⟨_,h.1,aXs q.1⟩,aXt h.2 q.2⟩
theorem bG {σ:Nat→Option Nat} {n:Nat} {e:Nat→Option AV} {tl:List (Nat×AV)} (h:aOo e tl=aOp σ tl∧(tl.all λp=>okA σ n p.2)=true):aGg σ n e tl:=aXt h.1 h.2
end
noncomputable section
def nmA:List Nat:=[0,1,2,3,4,5,6,7,8,9,10,11,12,13,14,15,16,17,18,19]++[20,21,22,23,24,25,26,27,28,29,30,31,32,33,34,35,36,37,38,39]++([40,41,42,43,44,45,46,47,48,49,50,51,52,53,54,55,56,57,58,59]++([60,61,62,63,64,65,66,67,68,69,70,71,72,73,74,75,76,77,78,79]++[80,81,82,83,84,85,86,87,88,89,90,91,92,93,94,95,96,97,98,99]))
abbrev mN (e:List (Nat×AV)) (h:List (Nat×Blk)) (n:Nat) (kp:Kp:=0):AState:=mkS e h n (nmA.drop n) kp
def iSg:List (Nat×Blk)→Nat→Option Nat
 | [],_=>none
 |(q,_)::r,t=>bif Nat.beq t q then some t else iSg r t
def zSg:List (Nat×Blk)→List Nat→Nat→Option Nat
 |(q,_)::r,b::bs,t=>bif Nat.beq t q then some b else zSg r bs t
 |_,_,_=>none
theorem bP {s:AState} {n:Nat} {kp:Kp} {tl:List (Nat×AV)} {hl:List (Nat×Blk)} (he:aGg (iSg hl) n s.env tl) (hh:sY (iSg hl) n s.heap hl) (p:aDm (iSg hl) hl=true∧s.kp=kp∧aLr (iSg hl) kp.n hl=true∧Nat.ble kp.n n=true):Ent s (mN tl hl n kp):=eY he hh p.1 p.2.1 p.2.2.1 p.2.2.2
theorem gT (bs:List Nat) {s:AState} {n:Nat} {kp:Kp} {tl:List (Nat×AV)} {hl:List (Nat×Blk)} (he:aGg (zSg hl bs) n s.env tl) (hh:sY (zSg hl bs) n s.heap hl) (p:aDm (zSg hl bs) hl=true∧s.kp=kp∧aLr (zSg hl bs) kp.n hl=true∧Nat.ble kp.n n=true):Ent s (mN tl hl n kp):=eY he hh p.1 p.2.1 p.2.2.1 p.2.2.2
section
variable {σ:Nat→Option Nat} {n:Nat}
theorem aOq {e:Nat→Option AV} : ∀ {m:Nat} {tl:List (Nat×AV)},aGg σ n e (tl.take m)→aGg σ n e (tl.drop m)→aGg σ n e tl
 |0,_,_,h=>h
 |m+1,[],_,_=>trivial
 |m+1,(t,y)::r,h1,h2=>⟨h1.1,aOq h1.2 h2⟩
theorem kT (m:Nat) {e:Nat→Option AV} {tl:List (Nat×AV)} (h:aOo e (tl.take m)=aOp σ (tl.take m)∧((tl.take m).all λp=>okA σ n p.2)=true) (h2:aGg σ n e (tl.drop m)):aGg σ n e tl:=aOq (bG h) h2
theorem gH {e:Nat→Option AV} {t:Nat} {y:AV} {r:List (Nat×AV)} (h: ∃ x,e t=some x∧mX σ n x y) (h2:aGg σ n e r):aGg σ n e ((t,y)::r):=⟨h,h2⟩
variable {b b0 q:Nat} {h:Hp} {r:List (Nat×Blk)}
theorem bN {l:List Int} (p:(σ b,h b0,Nat.blt b n)=(some b0,some ⟨1,List.map (ow eI) l⟩,true)) (hr:sY σ n h r):sY σ n h ((b,⟨1,List.map (ow eI) l⟩)::r):=by
 obtain ⟨p1,p⟩:=Prod.mk.inj p;obtain ⟨p2,p3⟩:=Prod.mk.inj p;exact hB (cA.plainO _) p1 p2 p3 hr
theorem bO {y:Blk} (p:(σ b,h b0,Nat.blt b n,y.es.all λcs=>cs.all wQ)=(some b0,some y,true,true)) (hr:sY σ n h r):sY σ n h ((b,y)::r):=by
 obtain ⟨p1,p⟩:=Prod.mk.inj p;obtain ⟨p2,p⟩:=Prod.mk.inj p;obtain ⟨p3,p4⟩:=Prod.mk.inj p;exact hB (aTd p4) p1 p2 p3 hr
theorem bW {y:Blk} (hp:aDl y.es) (p:(σ b,h b0,Nat.blt b n)=(some b0,some y,true)) (hr:sY σ n h r):sY σ n h ((b,y)::r):=by
 obtain ⟨p1,p⟩:=Prod.mk.inj p;obtain ⟨p2,p3⟩:=Prod.mk.inj p;exact hB hp p1 p2 p3 hr
def reC (σ:Nat→Option Nat):AV→AV
 | .own b i m=>match σ b with|some b0=> .own b0 i m|none=> .dead
 | .ptr b i j=>match σ b with|some b0=> .ptr b0 i j|none=> .dead
 |x=>x
def okC (σ:Nat→Option Nat) (n:Nat):AV→Bool
 | .own b _ _=>(σ b).isSome &&Nat.blt b n
 | .ptr b _ _=>(σ b).isSome &&Nat.blt b n
 | .sc _=>true
 | .nil _=>true
 | .list _ _=>true
 | .abs _ _=>true
 | .ref _=>true
 |_=>false
theorem aXw {y:AV} (h:okC σ n y=true):kQ σ n (reC σ y) y:=by
 cases y with
 |sc u=>exact aDP (σ:=σ) (n:=n) (y:= .sc u) h
 |nil q=>exact aDP (σ:=σ) (n:=n) (y:= .nil q) h
 |list q es=>exact aDP (σ:=σ) (n:=n) (y:= .list q es) h
 |ref cs=>exact aDP (σ:=σ) (n:=n) (y:= .ref cs) h
 |abs q es=>exact ⟨rfl,rfl⟩
 |own b i m=>
  have:=aDP (σ:=σ) (n:=n) (y:= .own b i m) h;show kQ σ n (re1 σ (.own b i m)) _;generalize re1 σ (.own b i m)=z at*;cases z <;> first|exact this|exact this.elim
 |ptr b i j=>
  have:=aDP (σ:=σ) (n:=n) (y:= .ptr b i j) h;show kQ σ n (re1 σ (.ptr b i j)) _;generalize re1 σ (.ptr b i j)=z at*;cases z <;> first|exact this|exact this.elim
 |agg cs=>simp [okC] at h
 |fn f cs=>simp [okC] at h
 |tuple cs=>simp [okC] at h
 |dead=>simp [okC] at h
theorem aUB: ∀ {cs:List AV},cs.all (okC σ n)=true→All2 (kQ σ n) (cs.map (reC σ)) cs
 | [],_=>rfl
 |c::cs,h=>by
  simp only [List.all_cons,dD] at h;exact ⟨c,cs,rfl,aXw h.1,aUB h.2⟩
theorem aUC: ∀ {es:List (List AV)},(es.all λcs=>cs.all (okC σ n))=true→All2 (All2 (kQ σ n)) (es.map (List.map (reC σ))) es
 | [],_=>rfl
 |c::cs,h=>by
  simp only [List.all_cons,dD] at h;exact ⟨c,cs,rfl,aUB h.1,aUC h.2⟩
theorem eJ {es:List (List AV)} (p:(σ b,h b0,Nat.blt b n,es.all λcs=>cs.all (okC σ n))=(some b0,some ⟨q,es.map (List.map (reC σ))⟩,true,true)) (hr:sY σ n h r):sY σ n h ((b,⟨q,es⟩)::r):=by
 obtain ⟨p1,p⟩:=Prod.mk.inj p;obtain ⟨p2,p⟩:=Prod.mk.inj p;obtain ⟨p3,p4⟩:=Prod.mk.inj p;refine hX ?_ p3 hr;rw [p1];exact ⟨_,p2,rfl,.inr (aUC p4)⟩
end
theorem cG {α:Type} {c:Bool} {A:Option α} {r:α} {p:Prop} (h:cond c A none=some r) (f:c=true→A=some r→p):p:=f (cg h).1 (cg h).2
section
variable {h:Hp} {x:AV} {xs ds:List AV}
theorem cJ (q:fG x=true) (b:All2 (viewA h) xs ds):All2 (viewA h) (x::xs) (x::ds):=aL (aRU q) b
theorem vcT {b m:Nat} {l:List Int} (hb:h b=some ⟨1,List.map (ow eI) l⟩) (hn:l.length=m) (q:All2 (viewA h) xs ds):All2 (viewA h) (.own b 0 m::xs) (.list 1 (List.map eI l)::ds):=aL (tA cA hb hn) q
end
theorem cT {d:Option Tmp} {ty:TypeId} {pos:String} {aft:Array Edge} {g:Option (Nat×Bool)} {s:AState} {f:FuncId} {xs:Array Operand} {ats:Array TypeId} {avs ds:List AV} {ns':List Nat} {α:Type} {e:α→List AV} {q b:Nat} {l:List α} {z:Bool} {c0:Nat} (ok:EOk q e) (hc:HasC Tryz.prog f ds (.tuple [.list q (List.map e l),.bl z])) (h:evs s.ev xs.toList=some avs∧s.ns=b::c0::ns'∧uL s.ns=true) (hv:All2 (viewA s.heap) avs ds):AEff Tryz.prog ⟨d,.call ⟨.value (.func f),xs,ats⟩,ty,pos,aft,g⟩ s.ev s.heap s.kp ⟨.tuple [.own b 0 l.length,.bl z],avs.flatMap (qA s.heap)++[].flatMap (sZ s.heap),[(b,some ⟨q,List.map (ow e) l⟩)],[b]⟩:=
 AEff.conv (jE (x:= .tuple [.own b 0 (List.map e l).length,.bl z]) (nb:=[(b,⟨q,cF (List.map e l)⟩)]) hc h.1 (by rw [h.2.1];rfl) rfl h.2.2 (dE (ok.good _) (dE trivial qD)) hv) (by simp only [aH]) (pE (nb':=[(b,⟨q,List.map (ow e) l⟩)]) (by simp only [dX]))
section
variable {h:Hp} {κ:Kp}
theorem vaR {b1 b2 b3 b4 m1 m2 m3 m4:Nat} {v:Rp} (p:h b1=some ⟨1,List.map (ow eI) v.q.src⟩∧v.q.src.length=m1∧h b2=some ⟨1,List.map (ow eI) v.q.tgt⟩∧v.q.tgt.length=m2∧h b3=some ⟨1,List.map (ow eI) v.dims⟩∧v.dims.length=m3∧h b4=some ⟨3,List.map (ow eM) v.maps⟩∧v.maps.length=m4):viewA h (.agg [.int v.p,.int v.q.n,.own b1 0 m1,.own b2 0 m2,.own b3 0 m3,.own b4 0 m4]) (.agg (eR v)):=
 aBe (bT (eU rfl) (bT (eU rfl) (bT (eD cA p.1 p.2.1) (bT (eD cA p.2.2.1 p.2.2.2.1) (bT (eD cA p.2.2.2.2.1 p.2.2.2.2.2.1) (bT (eD aX p.2.2.2.2.2.2.1 p.2.2.2.2.2.2.2) aCq))))))
theorem vaM {b m:Nat} {v:Mt} (p:h b=some ⟨1,List.map (ow eI) v.cells⟩∧v.cells.length=m):viewA h (.agg [.int v.rows,.int v.cols,.own b 0 m]) (.agg (eM v)):=aBe (bT (eU rfl) (bT (eU rfl) (bT (eD cA p.1 p.2) aCq)))
theorem vaC {b m:Nat} {v:Sc} (p:h b=some ⟨1,List.map (ow (dQ 1 eI)) v.basis⟩∧v.basis.length=m):viewA h (.agg [.int v.size,.own b 0 m]) (.agg (eS v)):=aBe (bT (eU rfl) (bT (eD cB p.1 p.2) aCq))
theorem vrR {W:World} {a:Rp} {w2 w3 w4 w5:Value} {S2 S3 S4 S5:List Nat} (hf:κ.fx=zU W) (r2:RepD W (.list 1 (List.map eI a.q.src)) w2 S2) (r3:RepD W (.list 1 (List.map eI a.q.tgt)) w3 S3) (r4:RepD W (.list 1 (List.map eI a.dims)) w4 S4) (r5:RepD W (.list 3 (List.map eM a.maps)) w5 S5):zV κ h (.agg [.int a.p,.int a.q.n,.sc w2,.sc w3,.sc w4,.sc w5]) (.agg (eR a)):=
 .inr (nK (aFI hf rfl) (nK (aFI hf rfl) (nK (aCu hf r2) (nK (aCu hf r3) (nK (aCu hf r4) (nK (aCu hf r5) aJa))))))
variable {x:AV} {xs ds:List AV}
theorem wkS (q:fG x=true) (b:All2 (zV κ h) xs ds):All2 (zV κ h) (x::xs) (x::ds):=fX (.inl (aRU q)) b
theorem wkT {b m:Nat} {l:List Int} (hb:h b=some ⟨1,List.map (ow eI) l⟩) (hn:l.length=m) (q:All2 (zV κ h) xs ds):All2 (zV κ h) (.own b 0 m::xs) (.list 1 (List.map eI l)::ds):=fX (.inl (tA cA hb hn)) q
theorem wkD {W:World} {k:Nat} {es:List (List AV)} {v:Value} {S:List Nat} (hf:κ.fx=zU W) (r:RepD W (.list k es) v S) (q:All2 (zV κ h) xs ds):All2 (zV κ h) (.sc v::xs) (.list k es::ds):=fX (.inr (aWc hf r)) q
end
section
variable {dst:Option Tmp} {ty:TypeId} {pos:String} {aft:Array Edge} {g:Option (Nat×Bool)} {s:AState}
theorem wl {t e:TypeId} {n:Nat} {parts:Array (Nat×Operand)} {y ye:Ty} {ps:List (Nat×List AV)} {cs:List AV} {b:Nat}
  (h:(s.ns.head?,dT TT t,y.desc,dT TT e,ye.zero.length,Nat.ble (n*ye.size) 16777216,Nat.ble n 16777216,aBd s.ev parts.toList,aEJ (λi=>some (i*ye.size,ye.size)) (List.replicate n ye.zero).flatten ps,(ps.all λp=>p.2.all (okCell s.heap)),cs.all (okCell s.heap),(ps.flatMap (λp=>dM p.2)++dM cs).contains b)=(some b,some y,.slice e,some ye,ye.size,true,true,some ps,some cs,true,true,false)):
  AEff Tryz.prog ⟨dst,.buildSlice t n parts,ty,pos,aft,g⟩ s.ev s.heap s.kp ⟨.own b 0 n,ps.flatMap (λp=>dM p.2)++dM cs,[(b,some ⟨ye.size,aEX ye.size n cs⟩)],[b]⟩:=by
 simp only [Prod.mk.injEq] at h;obtain ⟨h1,h2,h3,h4,h5,h6,h7,h8,h9,h10,h11,h12⟩:=h;exact aXj aJ h1 h2 h3 h4 h5 h6 h7 h8 h9 h10 h11 h12
theorem ws {t:TypeId} {y:Ty} {x z:Operand} {val:AV} {b i j kk:Nat} {ees:List (List AV)} {cs:List AV}
  (h:(s.ev x,s.heap b,s.ev z,dT TT t,Nat.beq (dB val).length y.size,(dB val).all (okCell s.heap),ees[i]?,Nat.ble (j+y.size) cs.length)=(some (.ptr b i j),some ⟨kk,ees⟩,some val,some y,true,true,some cs,true)):
  AEff Tryz.prog ⟨dst,.store t x z,ty,pos,aft,g⟩ s.ev s.heap s.kp ⟨.dead,b::dM (dB val),[(b,some ⟨kk,ees.set i (aDE cs j (dB val))⟩)],[]⟩:=by
 simp only [Prod.mk.injEq] at h;obtain ⟨h1,h2,h3,h4,h5,h6,h7,h8⟩:=h;exact aGk aJ h1 h2 h3 h4 h5 h6 h7 h8
theorem wb {t:TypeId} {x:Operand} {v:AV} {b:Nat} (h:(s.ns.head?,s.ev x,(dB v).all (okCell s.heap),(dM (dB v)).contains b)=(some b,some v,true,false)):
  AEff Tryz.prog ⟨dst,.box t x,ty,pos,aft,g⟩ s.ev s.heap s.kp ⟨.ptr b 0 0,dM (dB v),[(b,some ⟨(dB v).length,[dB v]⟩)],[b]⟩:=by
 simp only [Prod.mk.injEq] at h;obtain ⟨h1,h2,h3,h4⟩:=h;exact aWY h1 h2 h3 h4
theorem xl {α:Type} {k:Nat} {e:α→List AV} {x ix:Operand} {t et:Nat} {y ye:Ty} {l:List α} {kk:IntKind} {i:Int} {v:α} (hm:cY l i=some v)
  (h:(s.ev x,s.ev ix,dT TT t,y.desc,dT TT et,ye.size)=(some (.list k (l.map e)),some (.sc (.int kk i)),some y,.slice et,some ye,k)):
  AEff Tryz.prog ⟨dst,.indexAddr t x ix,ty,pos,aft,g⟩ s.ev s.heap s.kp ⟨.ref (e v),[],[],[]⟩:=by
 simp only [Prod.mk.injEq] at h;obtain ⟨h1,h2,h3,h4,h5,h6⟩:=h;exact aSU aJ hm h1 h2 h3 h4 h5 h6
theorem xo {α:Type} {l:List α} {v:α} {x ix:Operand} {t et:Nat} {y ye:Ty} {b kz:Nat} {es:List (List AV)} {kk:IntKind} {i:Int} (hm:cY l i=some v)
  (h:(s.ev x,s.heap b,s.ev ix,dT TT t,y.desc,dT TT et,ye.size)=(some (.own b 0 l.length),some ⟨kz,es⟩,some (.sc (.int kk i)),some y,.slice et,some ye,kz)):
  AEff Tryz.prog ⟨dst,.indexAddr t x ix,ty,pos,aft,g⟩ s.ev s.heap s.kp ⟨.ptr b i.toNat 0,[b],[],[]⟩:=by
 simp only [Prod.mk.injEq] at h;obtain ⟨h1,h2,h3,h4,h5,h6,h7⟩:=h;exact aTm aJ (aQK hm) (eX hm) h1 h2 h3 h4 h5 h6 h7
theorem wp {α:Type} {e:α→List AV} {l:List α} {u:α} {x:Operand} {t:Nat} {y:Ty} {b j k:Nat} {i:Int} {v:AV} (hm:cY l i=some u)
  (h:(s.ev x,s.heap b,dT TT t,(y.desc.isAgg||Nat.beq y.size 1),Nat.ble (j+y.size) (e u).length,zN y.desc.isAgg ((((e u).drop j).take y.size).map aDg))=(some (.ptr b i.toNat j),some ⟨k,l.map e⟩,some y,true,true,v)):
  AEff Tryz.prog ⟨dst,.load t x,ty,pos,aft,g⟩ s.ev s.heap s.kp ⟨v,[b],[],[]⟩:=by
 simp only [Prod.mk.injEq] at h;obtain ⟨h1,h2,h3,h4,h5,h6⟩:=h;exact dK aJ h1 h2 h3 h4 (aAa (dF hm)) h5 h6
end
theorem hM {f:FuncId} {fn:Func} {c:Code} {nt:Nat} {ds:List AV} {r:AV} (rvs:List ResultVar) (hf:Tryz.prog.funcs[f]? =some fn) (hnt:fn.ntmps=nt) (h':(fn.body,(fn.name== "runtime.NumGoroutine"),fn.results.toList,Nat.ble ds.length nt,ds.all aBE)=(some c,false,rvs,true,true)) (h:AC Tryz.prog nt c (s0 ds nmA) (mW TT rvs r)):HasC Tryz.prog f ds r:=by
 simp only [Prod.mk.injEq] at h';exact aJY aJ hf h'.1 h'.2.1 hnt h'.2.2.1 h'.2.2.2.1 h'.2.2.2.2 h
@[elab_as_elim] theorem sp {α:Type} {a:α} {P:α→Prop} {o:α} (h:some a=some o) (p:P a):P o:=so h▸p
theorem sP {α:Type} {t:Bool} {A B:Option α} {r:α} {G:Prop} (h:cond t A B=some r) (p:t=true→A=some r→G) (q:t=false→B=some r→G):G:=by
 rcases cb h with ⟨e,h⟩|⟨e,h⟩
 ·exact p e h
 ·exact q e h
theorem cN {P:Program} {nt:Nat} {Q:Exit→AState→Prop} {s:AState} {c:Operand} {x y:Code} {α:Type} {t:Bool} {A B:Option α} {r:α} (hc:s.ev c=some (.sc (.bool t))) (h:cond t A B=some r) (p:t=true→A=some r→AC P nt x s Q) (q:t=false→B=some r→AC P nt y s Q):AC P nt (.cond c x y) s Q:=sP h (λe h=>dO hc e (p e h)) λe h=>aBG hc e (q e h)
theorem lL {p q:Prop} (a:p) (b:q):p∧q:=⟨a,b⟩
def oMt (v:Mt) (a:Nat):List AV:=[.int v.rows,.int v.cols,.own a 0 v.cells.length]
def oQv (v:Qv) (a b:Nat):List AV:=[.int v.n,.own a 0 v.src.length,.own b 0 v.tgt.length]
def oSc (v:Sc) (a:Nat):List AV:=[.int v.size,.own a 0 v.basis.length]
def oRp (v:Rp) (a b c d:Nat):List AV:=[.int v.p,.int v.q.n,.own a 0 v.q.src.length,.own b 0 v.q.tgt.length,.own c 0 v.dims.length,.own d 0 v.maps.length]
def gD:List AV:=[.int 0,.int 0,.nil 1]
def nB:List AV:=[.int 0,.int 0,.nil 1,.nil 1,.nil 1,.nil 3]
end
noncomputable section
set_option maxRecDepth 10000
set_option maxHeartbeats 4000000
def oY (a0:Int) (a1:Int) (a2:Int):Option Bool:=
 bif decide (a1≤a0) then
 (some (decide (a0≤a2)))
 else
 (some (false))
theorem wU (a0:Int) (a1:Int) (a2:Int) (r:Bool) (h:oY a0 a1 a2=some r):HasC Tryz.prog 81 [.int a0,.int a1,.int a2] (.bl r):=by
 exact hM [.tmp 6] Tryz.func81 Tryz.ntmps81 k<|sR<|aT k2<|sR<|am k k<|am k k<|cm k4<|am k k<|sP h (λq1 h=>aV 10 k q1<|am k k<|am k k<|cm k4<|pk k3<|aT k2<|aE<|gK h k2) λq1 h=>aV 10 k q1<|aK k4<|ak k k<|pk k3<|aT k2<|aE<|gK h k2
def lH (a0:Int) (a1:Int) (a2:Int):Option Bool:=
 bif decide (a1≤a0) then
 (some (decide (a0≤a2)))
 else
 (some (false))
theorem qW (a0:Int) (a1:Int) (a2:Int) (r:Bool) (h:lH a0 a1 a2=some r):HasC Tryz.prog 34 [.int a0,.int a1,.int a2] (.bl r):=by
 exact hM [.tmp 6] Tryz.func34 Tryz.ntmps34 k<|sR<|aT k2<|sR<|am k k<|am k k<|cm k4<|am k k<|sP h (λq1 h=>aV 10 k q1<|am k k<|am k k<|cm k4<|pk k3<|aT k2<|aE<|gK h k2) λq1 h=>aV 10 k q1<|aK k4<|ak k k<|pk k3<|aT k2<|aE<|gK h k2
def xG (a0:(List Int)) (x1:(Int×Int)):Option ((Int×Int) ⊕ Int):=
 bif decide (x1.2<(a0.length:Int)) then
 ((cY a0 x1.2).bind λv2=>
 some (.inl (wr (x1.1+v2),wr (x1.2+1))))
 else
 (some (.inr x1.1))
def nL (a0:(List Int)):Option Int:=
 (Lp (xG a0) (0,0)).bind λy3=>
 some (y3)
theorem aBh (a0:(List Int)) (r:Int) (h:nL a0=some r):HasC Tryz.prog 117 [.list 1 (a0.map eI)] (.int r):=by
 refine hM [.tmp 2] Tryz.func117 Tryz.ntmps117 k<|sR<|aT k2<|sR<|aT k2<|sQ<|sR<|am k k<|ln k4<|am k k<|an<|tn<|aD<|oB h λy3 hy3 h=>cC (body:=(xG a0)) hy3 (λ(x1:(Int×Int))=>mN [(3,.int x1.1),(6,.list 1 (a0.map eI)),(7,.int (a0.length:Int)),(8,.int x1.2)] [] 0) (λr e t=>e= .exit 0∧Ent t (mN [(3,.int r)] [] 0)) (bP (bG k2) aQ k4) ?_ ?_
 ·intro x1 o h;exact sR<|cm k4<|an<|tn<|sQ<|cN k h (λ_ h=>aG<|tn<|sQ<|aD<|sR<|oB h λv2 hv2 h=>ae (xl hv2 k) k<|lr k7<|aT k2<|rg<|am k k<|am k k<|ae (bF k k) k<|aa k k<|an<|bB<|tn<|rg<|ae (bF k k) k<|am k k<|an<|tn<|sp h ⟨_,k,(bP (bG k2) aQ k4)⟩) λ_ h=>aY<|aB<|aB<|sp h ⟨_,k,k,(bP (bG k2) aQ k4)⟩
 ·rintro e t ⟨rfl,hent⟩;exact aN<|tn<|aI hent<|sR<|am k k<|aT k2<|aE<|rtI h k2
def aAe (a0:(List Int)) (a1:(List Int)) (x1:Int):Option (Int ⊕ (Unit ⊕ Bool)):=
 bif decide (x1<(a0.length:Int)) then
 ((cY a0 x1).bind λv3=>
 (cY a1 x1).bind λv4=>
 bif !decide (v3=v4) then
 (some (.inr (.inr (false))))
 else
 (some (.inl (wr (x1+1)))))
 else
 (some (.inr (.inl ())))
def aAn (a0:(List Int)) (a1:(List Int)):Option Bool:=
 bif !decide ((a0.length:Int)=(a1.length:Int)) then
 (some (false))
 else
 ((Lp (aAe a0 a1) 0).bind λy6=>
 Sum.elim (λy7=>
 some (true)
 )
 (λy8=>
 some y8
 )
 y6)
theorem aFk (a0:(List Int)) (a1:(List Int)) (r:Bool) (h:aAn a0 a1=some r):HasC Tryz.prog 141 [.list 1 (a0.map eI),.list 1 (a1.map eI)] (.bl r):=by
 refine hM [.tmp 4] Tryz.func141 Tryz.ntmps141 k<|sR<|aT k2<|sQ<|sR<|am k k<|ln k4<|am k k<|ln k4<|cm k4<|an<|tn<|cN k h (λ_ h=>sR<|aT k2<|aE<|aC<|gK h k2) λ_ h=>?_;refine aG<|tn<|sQ<|sR<|aT k2<|aD<|oB h λy6 hy6 h=>cC (body:=(aAe a0 a1)) hy6 (λ(x1:Int)=>mN [(0,.list 1 (a0.map eI)),(1,.list 1 (a1.map eI)),(5,.int x1)] [] 0) (λr e t=>Sum.elim (λa=>(λr e t=>e= .exit 0∧Ent t (mN [] [] 0)) a e t) (λb=>(λr e t=>e= .ret∧mW TT [.tmp 4] (.bl r) .ret t) b e t) r) (bP (bG k2) aQ k4) ?_ ?_
 ·intro x1 o h;exact sQ<|sR<|am k k<|am k k<|ln k4<|cm k4<|an<|tn<|cN k h (λ_ h=>aG<|tn<|sQ<|aD<|sQ<|aP fB<|am k k<|am k k<|oB h λv3 hv3 h=>ae (xl hv3 k) k<|lr k7<|am k k<|am k k<|oB h λv4 hv4 h=>ae (xl hv4 k) k<|lr k7<|cm k4<|an<|lL (by kernel_rfl)<|tn<|cN k h (λ_ h=>sR<|aT k2<|aE<|bC<|aC<|aC<|sp h ⟨_,k,k,bD k k k (lF k)⟩) λ_ h=>aG<|bB<|tn<|rg<|am k k<|ae (bF k k) k<|aT k2<|sp h ⟨_,k,(bP (bG k2) aQ k4)⟩) λ_ h=>aY<|aB<|aB<|sp h ⟨_,k,k,(bP aQ aQ k4)⟩
 ·intro e t hX;rcases y6 with y7|y8
  ·obtain ⟨rfl,hent⟩:=hX;exact aN<|tn<|aI hent<|sR<|aT k2<|aE<|gK h k2
  ·obtain ⟨rfl,hent⟩:=hX;exact bC<|aC<|sp h hent
def xH (a0:(List Int)) (a1:Int) (x1:Int):Option (Int ⊕ (Unit ⊕ Bool)):=
 bif decide (x1<(a0.length:Int)) then
 ((cY a0 x1).bind λv2=>
 bif decide (v2=a1) then
 (some (.inr (.inr (true))))
 else
 (some (.inl (wr (x1+1)))))
 else
 (some (.inr (.inl ())))
def aBi (a0:(List Int)) (a1:Int):Option Bool:=
 (Lp (xH a0 a1) 0).bind λy4=>
 Sum.elim (λy5=>
 some (false)
 )
 (λy6=>
 some y6
 )
 y4
theorem aNL (a0:(List Int)) (a1:Int) (r:Bool) (h:aBi a0 a1=some r):HasC Tryz.prog 206 [.list 1 (a0.map eI),.int a1] (.bl r):=by
 refine hM [.tmp 4] Tryz.func206 Tryz.ntmps206 k<|sR<|aT k2<|sQ<|sR<|aT k2<|aD<|oB h λy4 hy4 h=>cC (body:=(xH a0 a1)) hy4 (λ(x1:Int)=>mN [(0,.list 1 (a0.map eI)),(1,.int a1),(5,.int x1)] [] 0) (λr e t=>Sum.elim (λa=>(λr e t=>e= .exit 0∧Ent t (mN [] [] 0)) a e t) (λb=>(λr e t=>e= .ret∧mW TT [.tmp 4] (.bl r) .ret t) b e t) r) (bP (bG k2) aQ k4) ?_ ?_
 ·intro x1 o h;exact sQ<|sR<|am k k<|am k k<|ln k4<|cm k4<|an<|tn<|cN k h (λ_ h=>aG<|tn<|sQ<|aD<|sR<|am k k<|am k k<|oB h λv2 hv2 h=>ae (xl hv2 k) k<|lr k7<|am k k<|cm k4<|an<|tn<|cN k h (λ_ h=>sR<|aT k2<|aE<|bC<|aC<|aC<|sp h ⟨_,k,k,bD k k k (lF k)⟩) λ_ h=>aG<|bB<|tn<|rg<|am k k<|ae (bF k k) k<|aT k2<|sp h ⟨_,k,(bP (bG k2) aQ k4)⟩) λ_ h=>aY<|aB<|aB<|sp h ⟨_,k,k,(bP aQ aQ k4)⟩
 ·intro e t hX;rcases y4 with y5|y6
  ·obtain ⟨rfl,hent⟩:=hX;exact aN<|tn<|aI hent<|sR<|aT k2<|aE<|gK h k2
  ·obtain ⟨rfl,hent⟩:=hX;exact bC<|aC<|sp h hent
def qF (a0:Int):Option Bool:=
 bif decide (a0=2) then
 (some (true))
 else
 (bif decide (a0=3) then
 (some (true))
 else
 (some (decide (a0=5))))
theorem zX (a0:Int) (r:Bool) (h:qF a0=some r):HasC Tryz.prog 57 [.int a0] (.bl r):=by
 exact hM [.tmp 2] Tryz.func57 Tryz.ntmps57 k<|sR<|aT k2<|sR<|am k k<|cm k4<|am k k<|sP h (λq1 h=>aV 5 k q1<|aK k4<|pk k3<|am k k<|aK k4<|pk k3<|aT k2<|aE<|gK h k2) λq1 h=>aV 5 k q1<|am k k<|cm k4<|pk k3<|am k k<|sP h (λq2 h=>aV 9 k q2<|aK k4<|pk k3<|aT k2<|aE<|gK h k2) λq2 h=>aV 9 k q2<|am k k<|cm k4<|pk k3<|aT k2<|aE<|gK h k2
def lX (a0:Int):Option Bool:=
 bif decide (a0=2) then
 (some (true))
 else
 (bif decide (a0=3) then
 (some (true))
 else
 (some (decide (a0=5))))
theorem uP (a0:Int) (r:Bool) (h:lX a0=some r):HasC Tryz.prog 100 [.int a0] (.bl r):=by
 exact hM [.tmp 2] Tryz.func100 Tryz.ntmps100 k<|sR<|aT k2<|sR<|am k k<|cm k4<|am k k<|sP h (λq1 h=>aV 5 k q1<|aK k4<|pk k3<|am k k<|aK k4<|pk k3<|aT k2<|aE<|gK h k2) λq1 h=>aV 5 k q1<|am k k<|cm k4<|pk k3<|am k k<|sP h (λq2 h=>aV 9 k q2<|aK k4<|pk k3<|aT k2<|aE<|gK h k2) λq2 h=>aV 9 k q2<|am k k<|cm k4<|pk k3<|aT k2<|aE<|gK h k2
def rC (a0:Qv) (x1:Int):Option (Int ⊕ (Unit ⊕ Bool)):=
 bif decide (x1<(a0.src.length:Int)) then
 (bif decide (x1<(a0.tgt.length:Int)) then
 ((cY a0.src x1).bind λv3=>
 (lH v3 0 (wr (a0.n - 1))).bind λv4=>
 bif !v4 then
 (some (.inr (.inr (false))))
 else
 ((cY a0.tgt x1).bind λv6=>
 (lH v6 0 (wr (a0.n - 1))).bind λv7=>
 bif !v7 then
 (some (.inr (.inr (false))))
 else
 (some (.inl (wr (x1+1))))))
 else
 (some (.inr (.inl ()))))
 else
 (some (.inr (.inl ())))
def xI (a0:Qv):Option Bool:=
 (Lp (rC a0) 0).bind λy9=>
 Sum.elim (λy10=>
 (lH a0.n 1 5).bind λv11=>
 bif v11 then
 (bif decide ((a0.src.length:Int)≤6) then
 (some (decide ((a0.tgt.length:Int)=(a0.src.length:Int))))
 else
 (some (false)))
 else
 (some (false))
 )
 (λy14=>
 some y14
 )
 y9
theorem aIv (a0:Qv) (r:Bool) (h:xI a0=some r):HasC Tryz.prog 137 [.agg (eQ a0)] (.bl r):=by
 refine hM [.tmp 2] Tryz.func137 Tryz.ntmps137 k<|sR<|ae (wb k) k<|aT k2<|sQ<|sR<|aT k2<|aD<|oB h λy9 hy9 h=>cC (body:=(rC a0)) hy9 (λ(x1:Int)=>mN [(1,.ptr 0 0 0),(3,.int x1)] [(0,⟨3,[eQ a0]⟩)] 1) (λr e t=>Sum.elim (λa=>(λr e t=>e= .exit 0∧Ent t (mN [(1,.ptr 0 0 0)] [(0,⟨3,[eQ a0]⟩)] 1)) a e t) (λb=>(λr e t=>e= .ret∧mW TT [.tmp 2] (.bl r) .ret t) b e t) r) (bP (bG k2) (bO k<|aQ) k4) ?_ ?_
 ·intro x1 o h;refine sQ<|sR<|am k k<|fp k8<|lp k8<|ln k4<|cm k4<|am k k<|sP h (λq1 h=>?_) λq1 h=>aV 9 k q1<|aK k4<|aK k4<|ak k k<|pk k3<|an<|tn<|aBG k k<|aY<|aB<|aB<|sp h ⟨_,k,k,(bP (bG k2) (bO k<|aQ) k4)⟩;exact aV 9 k q1<|am k k<|fp k8<|lp k8<|ln k4<|cm k4<|pk k3<|an<|tn<|cN k h (λ_ h=>aG<|tn<|sQ<|aD<|sQ<|aP fB<|fp k8<|lp k8<|am k k<|oB h λv3 hv3 h=>ae (xl hv3 k) k<|lr k7<|fp k8<|lp k8<|ae (wS k k) k<|oB h λv4 hv4 h=>ae (aS (qW v3 0 (wr (a0.n - 1)) v4 hv4) k (cJ k (cJ k (cJ k aO)))) k<|ae (dI k) k<|am k k<|sP h (λq5 h=>aV 28 k q5<|aK k4<|aK k4<|aK k4<|aK k4<|aK k4<|pk k3<|an<|lL (by kernel_rfl)<|tn<|aI (t:=mN [(1,.ptr 0 0 0),(3,.int x1),(39,.bl true)] [(0,⟨3,[eQ a0]⟩)] 1) (bP (bG k2) (bO k<|aQ) k4)<|dO k k<|sR<|aT k2<|aE<|bC<|aC<|aC<|sp h ⟨_,k,k,bD k k k (lF k)⟩) λq5 h=>aV 28 k q5<|fp k8<|lp k8<|am k k<|oB h λv6 hv6 h=>ae (xl hv6 k) k<|lr k7<|fp k8<|lp k8<|ae (wS k k) k<|oB h λv7 hv7 h=>ae (aS (qW v6 0 (wr (a0.n - 1)) v7 hv7) k (cJ k (cJ k (cJ k aO)))) k<|ae (dI k) k<|pk k3<|an<|lL (by kernel_rfl)<|tn<|aI (t:=mN [(1,.ptr 0 0 0),(3,.int x1),(39,.bl (!v7))] [(0,⟨3,[eQ a0]⟩)] 1) (bP (bG k2) (bO k<|aQ) k4)<|cN k h (λ_ h=>sR<|aT k2<|aE<|bC<|aC<|aC<|sp h ⟨_,k,k,bD k k k (lF k)⟩) λ_ h=>aG<|bB<|tn<|rg<|am k k<|ae (bF k k) k<|aT k2<|sp h ⟨_,k,(bP (bG k2) (bO k<|aQ) k4)⟩) λ_ h=>aY<|aB<|aB<|sp h ⟨_,k,k,(bP (bG k2) (bO k<|aQ) k4)⟩
 ·intro e t hX;rcases y9 with y10|y14
  ·obtain ⟨rfl,hent⟩:=hX;exact aN<|tn<|aI hent<|sR<|fp k8<|lp k8<|oB h λv11 hv11 h=>ae (aS (qW a0.n 1 5 v11 hv11) k (cJ k (cJ k (cJ k aO)))) k<|am k k<|sP h (λq12 h=>aV 43 k q12<|fp k8<|lp k8<|ln k4<|cm k4<|pk k3<|am k k<|sP h (λq13 h=>aV 49 k q13<|fp k8<|lp k8<|ln k4<|fp k8<|lp k8<|ln k4<|cm k4<|pk k3<|aT k2<|aE<|gK h k2) λq13 h=>aV 49 k q13<|aK k4<|aK k4<|aK k4<|ak k k<|pk k3<|aT k2<|aE<|gK h k2) λq12 h=>aV 43 k q12<|aK k4<|aK k4<|pk k3<|am k k<|aK k4<|aK k4<|aK k4<|ak k k<|pk k3<|aT k2<|aE<|gK h k2
  ·obtain ⟨rfl,hent⟩:=hX;exact bC<|aC<|sp h hent
def lI (a0:Int) (a1:Int):Option Mt:=
 bif (decide (0≤wr (a0*a1))&&decide (wr (a0*a1)≤1048576)) then
 (some ((⟨a0,a1,(List.replicate ((wr (a0*a1)).toNat) (0:Int))⟩:Mt)))
 else none
theorem uQ (a0:Int) (a1:Int) (r:Mt) (h:lI a0 a1=some r):HasC Tryz.prog 119 [.int a0,.int a1] (.agg (eM r)):=by
 exact hM [.cell 4 91] Tryz.func119 Tryz.ntmps119 k<|sR<|ae (bX aJ k k) k<|an<|tn<|sR<|am k k<|am k k<|am k k<|am k k<|ae (fP k k) k<|cG h λq1 h=>ae (aCD aJ q1 k k k k k k k k) k<|ae (fW aJ k k k k k k) k<|ae (ws k) k<|an<|tn<|aI (t:=mN [(4,.ptr 0 0 0)] [(0,⟨3,[[.int a0,.int a1,.own 1 0 ((List.replicate ((wr (a0*a1)).toNat) (0:Int)).length)]]⟩),(1,⟨1,List.map (ow eI) (List.replicate ((wr (a0*a1)).toNat) (0:Int))⟩)] 2) (bP (bG k2) (hX ⟨_,k,k,.inr ⟨_,_,k,⟨_,_,k,k,⟨_,_,k,k,⟨_,_,k,⟨k,k,(by simp only [aH,lA,lT,lR,lC,lN]),k⟩,k⟩⟩⟩,k⟩⟩ k<|hX ⟨_,k,k,.inl ⟨aCt (e:=eI) (z:=0) _,cA.plainO _⟩⟩ k<|aQ) k4)<|aE<|sp h (bD k k k (iJ (aU (k) (aU (k) (aU (cW cA k k) fA)))))
def rD (a0:Int) (x1:((List Int)×Int)):Option (((List Int)×Int) ⊕ (List Int)):=
 bif decide (x1.2<a0) then
 ((cY x1.1 (wr ((wr (x1.2*a0))+x1.2))).bind λv3=>
 some (.inl ((x1.1.set ((wr ((wr (x1.2*a0))+x1.2)).toNat) 1),wr (x1.2+1))))
 else
 (some (.inr x1.1))
def sH (a0:Int):Option Mt:=
 (lI a0 a0).bind λv1=>
 (Lp (rD a0) (v1.cells,0)).bind λy4=>
 some ((⟨v1.rows,v1.cols,y4⟩:Mt))
theorem aEM (a0:Int) (r:Mt) (h:sH a0=some r):HasC Tryz.prog 194 [.int a0] (.agg (eM r)):=by
 refine hM [.cell 2 91] Tryz.func194 Tryz.ntmps194 k<|sR<|ae (bX aJ k k) k<|an<|tn<|sR<|am k k<|am k k<|oB h λv1 hv1 h=>ae (cM (uQ a0 a0 v1 hv1) k3 (cJ k (cJ k aO))) k<|ae (bX aJ k k) k<|ae (ws k) k<|an<|tn<|sQ<|sR<|am k k<|am k k<|an<|tn<|aD<|oB h λy4 hy4 h=>cC (body:=(rD a0)) hy4 (λ(x1:((List Int)×Int))=>mN [(0,.int a0),(2,.ptr 0 0 0),(3,.ptr 1 0 0),(8,.int a0),(9,.int x1.2)] [(0,⟨3,[gD]⟩),(1,⟨3,[[.int v1.rows,.int v1.cols,.own 2 0 x1.1.length]]⟩),(2,⟨1,x1.1.map (ow eI)⟩)] 3) (λr e t=>e= .exit 0∧Ent t (mN [(2,.ptr 0 0 0),(3,.ptr 1 0 0)] [(0,⟨3,[gD]⟩),(1,⟨3,[[.int v1.rows,.int v1.cols,.own 2 0 r.length]]⟩),(2,⟨1,r.map (ow eI)⟩)] 3)) (gT [0,2,1] (bG k2) (bO k<|eJ k<|bN k<|aQ) k4) ?_ ?_
 ·intro x1 o h;exact sR<|cm k4<|an<|tn<|sQ<|cN k h (λ_ h=>aG<|tn<|sQ<|aD<|sR<|am k k<|aT k2<|rg<|fp k8<|lp k8<|am k k<|am k k<|ae (fP k k) k<|am k k<|ae (bF k k) k<|oB h λv3 hv3 h=>ae (xo hv3 k) k<|ae (gL aJ kH (u:=1) (dF hv3) k k k k k k) k<|an<|bB<|tn<|rg<|ae (bF k k) k<|am k k<|an<|tn<|sp h ⟨_,k,(bP (bG k2) (bO k<|hX ⟨_,k,k,.inr ⟨_,_,k,⟨_,_,k,k,⟨_,_,k,k,⟨_,_,k,⟨k,k,(by simp only [aH,lA,lT,lR,lC,lN]),k⟩,k⟩⟩⟩,k⟩⟩ k<|bN k<|aQ) k4)⟩) λ_ h=>aY<|aB<|aB<|sp h ⟨_,k,k,(bP (bG k2) (bO k<|eJ k<|bN k<|aQ) k4)⟩
 ·rintro e t ⟨rfl,hent⟩;exact aN<|tn<|aI hent<|sR<|lp k8<|ae (ws k) k<|an<|tn<|aE<|sp h (bD k k k (iJ (aU (k) (aU (k) (aU (cW cA k k) fA)))))
def lJ (a0:Int) (a1:Int):Option Mt:=
 bif (decide (0≤wr (a0*a1))&&decide (wr (a0*a1)≤1048576)) then
 (some ((⟨a0,a1,(List.replicate ((wr (a0*a1)).toNat) (0:Int))⟩:Mt)))
 else none
theorem wV (a0:Int) (a1:Int) (r:Mt) (h:lJ a0 a1=some r):HasC Tryz.prog 75 [.int a0,.int a1] (.agg (eM r)):=by
 exact hM [.cell 4 91] Tryz.func75 Tryz.ntmps75 k<|sR<|ae (bX aJ k k) k<|an<|tn<|sR<|am k k<|am k k<|am k k<|am k k<|ae (fP k k) k<|cG h λq1 h=>ae (aCD aJ q1 k k k k k k k k) k<|ae (fW aJ k k k k k k) k<|ae (ws k) k<|an<|tn<|aI (t:=mN [(4,.ptr 0 0 0)] [(0,⟨3,[[.int a0,.int a1,.own 1 0 ((List.replicate ((wr (a0*a1)).toNat) (0:Int)).length)]]⟩),(1,⟨1,List.map (ow eI) (List.replicate ((wr (a0*a1)).toNat) (0:Int))⟩)] 2) (bP (bG k2) (hX ⟨_,k,k,.inr ⟨_,_,k,⟨_,_,k,k,⟨_,_,k,k,⟨_,_,k,⟨k,k,(by simp only [aH,lA,lT,lR,lC,lN]),k⟩,k⟩⟩⟩,k⟩⟩ k<|hX ⟨_,k,k,.inl ⟨aCt (e:=eI) (z:=0) _,cA.plainO _⟩⟩ k<|aQ) k4)<|aE<|sp h (bD k k k (iJ (aU (k) (aU (k) (aU (cW cA k k) fA)))))
def nM (a0:Int) (x1:((List Int)×Int)):Option (((List Int)×Int) ⊕ (List Int)):=
 bif decide (x1.2<a0) then
 ((cY x1.1 (wr ((wr (x1.2*a0))+x1.2))).bind λv3=>
 some (.inl ((x1.1.set ((wr ((wr (x1.2*a0))+x1.2)).toNat) 1),wr (x1.2+1))))
 else
 (some (.inr x1.1))
def nN (a0:Int):Option Mt:=
 (lJ a0 a0).bind λv1=>
 (Lp (nM a0) (v1.cells,0)).bind λy4=>
 some ((⟨v1.rows,v1.cols,y4⟩:Mt))
theorem aCg (a0:Int) (r:Mt) (h:nN a0=some r):HasC Tryz.prog 184 [.int a0] (.agg (eM r)):=by
 refine hM [.cell 2 91] Tryz.func184 Tryz.ntmps184 k<|sR<|ae (bX aJ k k) k<|an<|tn<|sR<|am k k<|am k k<|oB h λv1 hv1 h=>ae (cM (wV a0 a0 v1 hv1) k3 (cJ k (cJ k aO))) k<|ae (bX aJ k k) k<|ae (ws k) k<|an<|tn<|sQ<|sR<|aT k2<|aD<|oB h λy4 hy4 h=>cC (body:=(nM a0)) hy4 (λ(x1:((List Int)×Int))=>mN [(0,.int a0),(2,.ptr 0 0 0),(3,.ptr 1 0 0),(4,.int x1.2)] [(0,⟨3,[gD]⟩),(1,⟨3,[[.int v1.rows,.int v1.cols,.own 2 0 x1.1.length]]⟩),(2,⟨1,x1.1.map (ow eI)⟩)] 3) (λr e t=>e= .exit 0∧Ent t (mN [(2,.ptr 0 0 0),(3,.ptr 1 0 0)] [(0,⟨3,[gD]⟩),(1,⟨3,[[.int v1.rows,.int v1.cols,.own 2 0 r.length]]⟩),(2,⟨1,r.map (ow eI)⟩)] 3)) (gT [0,2,1] (bG k2) (bO k<|eJ k<|bN k<|aQ) k4) ?_ ?_
 ·intro x1 o h;exact sQ<|sR<|am k k<|am k k<|cm k4<|an<|tn<|cN k h (λ_ h=>aG<|tn<|sQ<|aD<|rg<|fp k8<|lp k8<|am k k<|am k k<|ae (fP k k) k<|am k k<|ae (bF k k) k<|oB h λv3 hv3 h=>ae (xo hv3 k) k<|ae (gL aJ kH (u:=1) (dF hv3) k k k k k k) k<|an<|bB<|tn<|rg<|am k k<|ae (bF k k) k<|aT k2<|sp h ⟨_,k,(bP (bG k2) (bO k<|hX ⟨_,k,k,.inr ⟨_,_,k,⟨_,_,k,k,⟨_,_,k,k,⟨_,_,k,⟨k,k,(by simp only [aH,lA,lT,lR,lC,lN]),k⟩,k⟩⟩⟩,k⟩⟩ k<|bN k<|aQ) k4)⟩) λ_ h=>aY<|aB<|aB<|sp h ⟨_,k,k,(bP (bG k2) (bO k<|eJ k<|bN k<|aQ) k4)⟩
 ·rintro e t ⟨rfl,hent⟩;exact aN<|tn<|aI hent<|sR<|lp k8<|ae (ws k) k<|an<|tn<|aE<|sp h (bD k k k (iJ (aU (k) (aU (k) (aU (cW cA k k) fA)))))
def eK (a0:Mt) (a1:Int):Option Unit:=
 bif (decide (0≤wr (a1*a0.cols))&&(decide (wr (a1*a0.cols)≤wr ((wr (a1+1))*a0.cols))&&decide (wr ((wr (a1+1))*a0.cols)≤((a0.cells.length:Nat):Int)))) then
 (some ())
 else none
theorem gE (a0:Mt) (a1:Int) (r:Unit) (h:eK a0 a1=some r):HasE Tryz.prog 225 [.agg [.int a0.rows,.int a0.cols,.own 0 0 a0.cells.length],.int a1] [(0,⟨1,a0.cells.map (ow eI)⟩)] 1 (.own 0 (0+(wr (a1*a0.cols)).toNat) ((wr ((wr (a1+1))*a0.cols)).toNat - (wr (a1*a0.cols)).toNat)) [(0,⟨1,a0.cells.map (ow eI)⟩)]:=by
 exact aBf aJ (rvs:=[.tmp 4]) (ns:=nmA.drop 1) Tryz.func225 k k Tryz.ntmps225 k k<|sR<|ae (wb k) k<|aT k2<|sR<|fp k8<|lp k8<|am k k<|fp k8<|lp k8<|ae (fP k k) k<|am k k<|ae (bF k k) k<|fp k8<|lp k8<|ae (fP k k) k<|cG h λq1 h=>ae (aIj aJ (l:=wr (a1*a0.cols)) (h:=wr ((wr (a1+1))*a0.cols)) q1 k k k k k k k k) k<|aT k2<|aE<|sp h ⟨mN [(4,.own 0 (0+(wr (a1*a0.cols)).toNat) ((wr ((wr (a1+1))*a0.cols)).toNat - (wr (a1*a0.cols)).toNat))] [(0,⟨1,a0.cells.map (ow eI)⟩)] 1 1,(bP (bG k2) (bN k<|aQ) k4),k,⟨_,k,.inl k⟩,⟨k,aQ⟩⟩
def mK (a0:Int) (a2:Int) (a3:(List Int)) (n1:Nat) (s1:Nat) (x1:((List Int)×Int)):Option (((List Int)×Int) ⊕ (List Int)):=
 bif decide (x1.2<(a3.length:Int)) then
 ((cY a3 x1.2).bind λv2=>
 bif (decide (0≤x1.2)&&decide (x1.2<((n1:Nat):Int))) then
 ((x1.1[(s1+x1.2.toNat)]?).bind λv3=>
 bif !decide (a0=0) then
 (bif (decide (0≤x1.2)&&decide (x1.2<((n1:Nat):Int))) then
 ((x1.1[(s1+x1.2.toNat)]?).bind λv5=>
 some (.inl ((x1.1.set (s1+x1.2.toNat) ((wr (v3+(wr (a2*v2)))).tmod a0)),wr (x1.2+1)))
 )
 else none)
 else none
 )
 else none)
 else
 (some (.inr x1.1))
def hU (a0:Int) (c0:(List Int)) (s1:Nat) (n1:Nat) (a2:Int) (a3:(List Int)):Option (List Int):=
 (Lp (mK a0 a2 a3 n1 s1) (c0,0)).bind λy8=>
 some y8
theorem yV (a0:Int) (c0:(List Int)) (s1:Nat) (n1:Nat) (a2:Int) (a3:(List Int)) (r:(List Int)) (h:hU a0 c0 s1 n1 a2 a3=some r):HasE Tryz.prog 232 [.int a0,.own 0 s1 n1,.int a2,.list 1 (a3.map eI)] [(0,⟨1,c0.map (ow eI)⟩)] 1 (.own 0 s1 n1) [(0,⟨1,r.map (ow eI)⟩)]:=by
 refine aBf aJ (rvs:=[.tmp 8]) (ns:=nmA.drop 1) Tryz.func232 k k Tryz.ntmps232 k k<|sR<|aT k2<|sQ<|sR<|am k k<|ln k4<|am k k<|an<|tn<|aD<|oB h λy8 hy8 h=>cC (body:=(mK a0 a2 a3 n1 s1)) hy8 (λ(x1:((List Int)×Int))=>mN [(0,.int a0),(1,.own 0 s1 n1),(2,.int a2),(11,.list 1 (a3.map eI)),(12,.int (a3.length:Int)),(13,.int x1.2)] [(0,⟨1,x1.1.map (ow eI)⟩)] 1 1) (λr e t=>e= .exit 0∧Ent t (mN [(1,.own 0 s1 n1)] [(0,⟨1,r.map (ow eI)⟩)] 1 1)) (bP (bG k2) (bN k<|aQ) k4) ?_ ?_
 ·intro x1 o h;refine sR<|cm k4<|an<|tn<|sQ<|cN k h (λ_ h=>?_) λ_ h=>aY<|aB<|aB<|sp h ⟨_,k,k,(bP (bG k2) (bN k<|aQ) k4)⟩;refine aG<|tn<|sQ<|aD<|sR<|am k k<|oB h λv2 hv2 h=>ae (xl hv2 k) k<|lr k7<|aa k k<|aT k2<|rg<|am k k<|am k k<|am k k<|am k k<|cG h λq4 h=>oB h λv3 hv3 h=>ae (jH aJ q4 k k k k k k k) k<|ae (dK aJ k k k k (aAa (hv3)) k k) k<|am k k<|am k k<|ae (fP k k) k<|ae (bF k k) k<|am k k<|cG h λq7 h=>ae (aFh k k q7) k<|cG h λq6 h=>oB h λv5 hv5 h=>ae (jH aJ q6 k k k k k k k) k<|ae (gL aJ kH (u:=(wr (v3+(wr (a2*v2)))).tmod a0) (hv5) k k k k k k) k<|an ?_;exact bB<|tn<|rg<|ae (bF k k) k<|am k k<|an<|tn<|sp h ⟨_,k,(bP (bG k2) (bN k<|aQ) k4)⟩
 ·rintro e t ⟨rfl,hent⟩;exact aN<|tn<|aI hent<|sR<|am k k<|aT k2<|aE<|sp h ⟨mN [(8,.own 0 s1 n1)] [(0,⟨1,y8.map (ow eI)⟩)] 1 1,(bP (bG k2) (bN k<|aQ) k4),k,⟨_,k,.inl k⟩,⟨k,aQ⟩⟩
def iO (a0:Int) (a2:Int) (n1:Nat) (n3:Nat) (s1:Nat) (s3:Nat) (x1:((List Int)×Int)):Option (((List Int)×Int) ⊕ (List Int)):=
 bif decide (x1.2<((n3:Nat):Int)) then
 (bif (decide (0≤x1.2)&&decide (x1.2<((n3:Nat):Int))) then
 ((x1.1[(s3+x1.2.toNat)]?).bind λv2=>
 bif (decide (0≤x1.2)&&decide (x1.2<((n1:Nat):Int))) then
 ((x1.1[(s1+x1.2.toNat)]?).bind λv4=>
 bif !decide (a0=0) then
 (bif (decide (0≤x1.2)&&decide (x1.2<((n1:Nat):Int))) then
 ((x1.1[(s1+x1.2.toNat)]?).bind λv6=>
 some (.inl ((x1.1.set (s1+x1.2.toNat) ((wr (v4+(wr (a2*v2)))).tmod a0)),wr (x1.2+1)))
 )
 else none)
 else none
 )
 else none
 )
 else none)
 else
 (some (.inr x1.1))
def kA (a0:Int) (c0:(List Int)) (s1:Nat) (n1:Nat) (a2:Int) (s3:Nat) (n3:Nat):Option (List Int):=
 (Lp (iO a0 a2 n1 n3 s1 s3) (c0,0)).bind λy9=>
 some y9
theorem aDQ (a0:Int) (c0:(List Int)) (s1:Nat) (n1:Nat) (a2:Int) (s3:Nat) (n3:Nat) (r:(List Int)) (h:kA a0 c0 s1 n1 a2 s3 n3=some r):HasE Tryz.prog 232 [.int a0,.own 0 s1 n1,.int a2,.own 0 s3 n3] [(0,⟨1,c0.map (ow eI)⟩)] 1 (.own 0 s1 n1) [(0,⟨1,r.map (ow eI)⟩)]:=by
 refine aBf aJ (rvs:=[.tmp 8]) (ns:=nmA.drop 1) Tryz.func232 k k Tryz.ntmps232 k k<|sR<|aT k2<|sQ<|sR<|am k k<|ae (dR aJ k k k k) k<|am k k<|an<|tn<|aD<|oB h λy9 hy9 h=>cC (body:=(iO a0 a2 n1 n3 s1 s3)) hy9 (λ(x1:((List Int)×Int))=>mN [(0,.int a0),(1,.own 0 s1 n1),(2,.int a2),(11,.own 0 s3 n3),(12,.int ((n3:Nat):Int)),(13,.int x1.2)] [(0,⟨1,x1.1.map (ow eI)⟩)] 1 1) (λr e t=>e= .exit 0∧Ent t (mN [(1,.own 0 s1 n1)] [(0,⟨1,r.map (ow eI)⟩)] 1 1)) (bP (bG k2) (bN k<|aQ) k4) ?_ ?_
 ·intro x1 o h;refine sR<|cm k4<|an<|tn<|sQ<|cN k h (λ_ h=>?_) λ_ h=>aY<|aB<|aB<|sp h ⟨_,k,k,(bP (bG k2) (bN k<|aQ) k4)⟩;refine aG<|tn<|sQ<|aD<|sR<|am k k<|cG h λq3 h=>oB h λv2 hv2 h=>ae (jH aJ q3 k k k k k k k) k<|ae (dK aJ k k k k (aAa (hv2)) k k) k<|aa k k<|aT k2<|rg<|am k k<|am k k<|am k k<|am k k<|cG h λq5 h=>oB h λv4 hv4 h=>ae (jH aJ q5 k k k k k k k) k<|ae (dK aJ k k k k (aAa (hv4)) k k) k<|am k k<|am k k<|ae (fP k k) k<|ae (bF k k) k<|am k k<|cG h λq8 h=>ae (aFh k k q8) k<|cG h λq7 h=>oB h λv6 hv6 h=>ae (jH aJ q7 k k k k k k k) k<|ae (gL aJ kH (u:=(wr (v4+(wr (a2*v2)))).tmod a0) (hv6) k k k k k k) k<|an ?_;exact bB<|tn<|rg<|ae (bF k k) k<|am k k<|an<|tn<|sp h ⟨_,k,(bP (bG k2) (bN k<|aQ) k4)⟩
 ·rintro e t ⟨rfl,hent⟩;exact aN<|tn<|aI hent<|sR<|am k k<|aT k2<|aE<|sp h ⟨mN [(8,.own 0 s1 n1)] [(0,⟨1,y9.map (ow eI)⟩)] 1 1,(bP (bG k2) (bN k<|aQ) k4),k,⟨_,k,.inl k⟩,⟨k,aQ⟩⟩
def gX (a0:Int) (a1:Int):Option Int:=
 bif !decide (a0=0) then
 (bif decide (a1.tmod a0<0) then
 (some (wr ((a1.tmod a0)+a0)))
 else
 (some (a1.tmod a0)))
 else none
theorem kU (a0:Int) (a1:Int) (r:Int) (h:gX a0 a1=some r):HasC Tryz.prog 207 [.int a0,.int a1] (.int r):=by
 exact hM [.tmp 4] Tryz.func207 Tryz.ntmps207 k<|sR<|aT k2<|sR<|am k k<|am k k<|cG h λq2 h=>ae (aFh k k q2) k<|aT k2<|sQ<|sR<|am k k<|cm k4<|an<|tn<|cN k h (λ_ h=>rg<|am k k<|am k k<|ae (bF k k) k<|aT k2<|sR<|am k k<|aT k2<|aE<|rtI h k2) λ_ h=>aG<|tn<|sR<|am k k<|aT k2<|aE<|rtI h k2
def nO (a1:Mt) (a2:Mt) (x1:((List Int)×Int)) (x2:((List Int)×Int)) (x3:(Int×Int)):Option ((Int×Int) ⊕ Int):=
 bif decide (x3.2<a1.cols) then
 ((cY a1.cells (wr ((wr (x1.2*a1.cols))+x3.2))).bind λv5=>
 (cY a2.cells (wr ((wr (x3.2*a2.cols))+x2.2))).bind λv6=>
 some (.inl (wr (x3.1+(wr (v5*v6))),wr (x3.2+1))))
 else
 (some (.inr x3.1))
def nP (a0:Int) (a1:Mt) (a2:Mt) (x1:((List Int)×Int)) (x2:((List Int)×Int)):Option (((List Int)×Int) ⊕ (List Int)):=
 bif decide (x2.2<a2.cols) then
 ((Lp (nO a1 a2 x1 x2) (0,0)).bind λy7=>
 (gX a0 y7).bind λv8=>
 (cY x2.1 (wr ((wr (x1.2*a2.cols))+x2.2))).bind λv9=>
 some (.inl ((x2.1.set ((wr ((wr (x1.2*a2.cols))+x2.2)).toNat) v8),wr (x2.2+1))))
 else
 (some (.inr x2.1))
def nS (a0:Int) (a1:Mt) (a2:Mt) (x1:((List Int)×Int)):Option (((List Int)×Int) ⊕ (List Int)):=
 bif decide (x1.2<a1.rows) then
 ((Lp (nP a0 a1 a2 x1) (x1.1,0)).bind λy10=>
 some (.inl (y10,wr (x1.2+1))))
 else
 (some (.inr x1.1))
def gF (a0:Int) (a1:Mt) (a2:Mt):Option Mt:=
 (lJ a1.rows a2.cols).bind λv1=>
 (Lp (nS a0 a1 a2) (v1.cells,0)).bind λy11=>
 some ((⟨v1.rows,v1.cols,y11⟩:Mt))
theorem kB (a0:Int) (a1:Mt) (a2:Mt) (r:Mt) (h:gF a0 a1 a2=some r):HasC Tryz.prog 187 [.int a0,.agg (eM a1),.agg (eM a2)] (.agg (eM r)):=by
 refine hM [.cell 6 91] Tryz.func187 Tryz.ntmps187 k<|sR<|ae (wb k) k<|ae (wb k) k<|ae (bX aJ k k) k<|an<|tn<|sR<|fp k8<|lp k8<|fp k8<|lp k8<|oB h λv1 hv1 h=>ae (cM (wV a1.rows a2.cols v1 hv1) k3 (cJ k (cJ k aO))) k<|ae (bX aJ k k) k<|ae (ws k) k<|an<|tn<|sQ<|sR<|aT k2<|aD<|oB h λy11 hy11 h=>cC (body:=(nS a0 a1 a2)) hy11 (λ(x1:((List Int)×Int))=>mN [(0,.int a0),(4,.ptr 0 0 0),(5,.ptr 1 0 0),(6,.ptr 2 0 0),(7,.ptr 3 0 0),(8,.int x1.2)] [(0,⟨3,[eM a1]⟩),(1,⟨3,[eM a2]⟩),(2,⟨3,[gD]⟩),(3,⟨3,[[.int v1.rows,.int v1.cols,.own 4 0 x1.1.length]]⟩),(4,⟨1,x1.1.map (ow eI)⟩)] 5) (λr e t=>e= .exit 0∧Ent t (mN [(6,.ptr 0 0 0),(7,.ptr 1 0 0)] [(0,⟨3,[gD]⟩),(1,⟨3,[[.int v1.rows,.int v1.cols,.own 2 0 r.length]]⟩),(2,⟨1,r.map (ow eI)⟩)] 3)) (gT [0,1,2,4,3] (bG k2) (bO k<|bO k<|bO k<|eJ k<|bN k<|aQ) k4) ?_ ?_
 ·intro x1 o h;refine sQ<|sR<|am k k<|fp k8<|lp k8<|cm k4<|an<|tn<|cN k h (λ_ h=>?_) λ_ h=>aY<|aB<|aB<|sp h ⟨_,k,k,(gT [2,3,4] (bG k2) (bO k<|eJ k<|bN k<|aQ) k4)⟩;refine aG<|tn<|sQ<|aD<|sR<|aT k2<|aD<|oB h λy10 hy10 h=>cC (body:=(nP a0 a1 a2 x1)) hy10 (λ(x2:((List Int)×Int))=>mN [(0,.int a0),(4,.ptr 0 0 0),(5,.ptr 1 0 0),(6,.ptr 2 0 0),(7,.ptr 3 0 0),(8,.int x1.2),(9,.int x2.2)] [(0,⟨3,[eM a1]⟩),(1,⟨3,[eM a2]⟩),(2,⟨3,[gD]⟩),(3,⟨3,[[.int v1.rows,.int v1.cols,.own 4 0 x2.1.length]]⟩),(4,⟨1,x2.1.map (ow eI)⟩)] 5) (λr e t=>e= .exit 2∧Ent t (mN [(0,.int a0),(4,.ptr 0 0 0),(5,.ptr 1 0 0),(6,.ptr 2 0 0),(7,.ptr 3 0 0),(8,.int x1.2)] [(0,⟨3,[eM a1]⟩),(1,⟨3,[eM a2]⟩),(2,⟨3,[gD]⟩),(3,⟨3,[[.int v1.rows,.int v1.cols,.own 4 0 r.length]]⟩),(4,⟨1,r.map (ow eI)⟩)] 5)) (bP (bG k2) (bO k<|bO k<|bO k<|eJ k<|bN k<|aQ) k4) ?_ ?_
  ·intro x2 o h;refine sQ<|sR<|am k k<|fp k8<|lp k8<|cm k4<|an<|tn<|cN k h (λ_ h=>?_) λ_ h=>aY<|aB<|aB<|sp h ⟨_,k,k,(bP (bG k2) (bO k<|bO k<|bO k<|eJ k<|bN k<|aQ) k4)⟩;refine aG<|tn<|sQ<|aD<|sR<|aT k2<|sQ<|sR<|aT k2<|aD<|oB h λy7 hy7 h=>cC (body:=(nO a1 a2 x1 x2)) hy7 (λ(x3:(Int×Int))=>mN [(0,.int a0),(4,.ptr 0 0 0),(5,.ptr 1 0 0),(6,.ptr 2 0 0),(7,.ptr 3 0 0),(8,.int x1.2),(9,.int x2.2),(10,.int x3.1),(11,.int x3.2)] [(0,⟨3,[eM a1]⟩),(1,⟨3,[eM a2]⟩),(2,⟨3,[gD]⟩),(3,⟨3,[[.int v1.rows,.int v1.cols,.own 4 0 x2.1.length]]⟩),(4,⟨1,x2.1.map (ow eI)⟩)] 5) (λr e t=>e= .exit 4∧Ent t (mN [(0,.int a0),(4,.ptr 0 0 0),(5,.ptr 1 0 0),(6,.ptr 2 0 0),(7,.ptr 3 0 0),(8,.int x1.2),(9,.int x2.2),(10,.int r)] [(0,⟨3,[eM a1]⟩),(1,⟨3,[eM a2]⟩),(2,⟨3,[gD]⟩),(3,⟨3,[[.int v1.rows,.int v1.cols,.own 4 0 x2.1.length]]⟩),(4,⟨1,x2.1.map (ow eI)⟩)] 5)) (bP (bG k2) (bO k<|bO k<|bO k<|eJ k<|bN k<|aQ) k4) ?_ ?_
   ·intro x3 o h;refine sQ<|sR<|am k k<|fp k8<|lp k8<|cm k4<|an<|tn<|cN k h (λ_ h=>?_) λ_ h=>aY<|aB<|aB<|sp h ⟨_,k,k,(bP (bG k2) (bO k<|bO k<|bO k<|eJ k<|bN k<|aQ) k4)⟩;refine aG<|tn<|sQ<|aD<|aP fB<|am k k<|fp k8<|lp k8<|am k k<|fp k8<|lp k8<|ae (fP k k) k<|am k k<|ae (bF k k) k<|oB h λv5 hv5 h=>ae (xl hv5 k) k<|lr k7<|fp k8<|lp k8<|am k k<|fp k8<|lp k8<|ae (fP k k) k<|am k k<|ae (bF k k) k<|oB h λv6 hv6 h=>ae (xl hv6 k) k<|lr k7<|ae (fP k k) k<|ae (bF k k) k<|aa k k ?_;exact an<|lL (by kernel_rfl)<|bB<|tn<|aI (t:=mN [(0,.int a0),(4,.ptr 0 0 0),(5,.ptr 1 0 0),(6,.ptr 2 0 0),(7,.ptr 3 0 0),(8,.int x1.2),(9,.int x2.2),(10,.int (wr (x3.1+(wr (v5*v6))))),(11,.int x3.2)] [(0,⟨3,[eM a1]⟩),(1,⟨3,[eM a2]⟩),(2,⟨3,[gD]⟩),(3,⟨3,[[.int v1.rows,.int v1.cols,.own 4 0 x2.1.length]]⟩),(4,⟨1,x2.1.map (ow eI)⟩)] 5) (bP (bG k2) (bO k<|bO k<|bO k<|eJ k<|bN k<|aQ) k4)<|rg<|am k k<|ae (bF k k) k<|aT k2<|sp h ⟨_,k,(bP (bG k2) (bO k<|bO k<|bO k<|eJ k<|bN k<|aQ) k4)⟩
   ·rintro e t ⟨rfl,hent⟩;exact aN<|tn<|aI hent<|aP fB<|fp k8<|lp k8<|am k k<|fp k8<|lp k8<|ae (fP k k) k<|am k k<|ae (bF k k) k<|am k k<|am k k<|oB h λv8 hv8 h=>ae (aS (kU a0 y7 v8 hv8) k (cJ k (cJ k aO))) k<|oB h λv9 hv9 h=>ae (xo hv9 k) k<|ae (gL aJ kH (u:=v8) (dF hv9) k k k k k k) k<|an<|lL (by kernel_rfl)<|bB<|tn<|rg<|am k k<|ae (bF k k) k<|aT k2<|sp h ⟨_,k,(bP (bG k2) (bO k<|bO k<|bO k<|hX ⟨_,k,k,.inr ⟨_,_,k,⟨_,_,k,k,⟨_,_,k,k,⟨_,_,k,⟨k,k,(by simp only [aH,lA,lT,lR,lC,lN]),k⟩,k⟩⟩⟩,k⟩⟩ k<|bN k<|aQ) k4)⟩
  ·rintro e t ⟨rfl,hent⟩;exact aN<|bB<|tn<|aI hent<|rg<|am k k<|ae (bF k k) k<|aT k2<|sp h ⟨_,k,(bP (bG k2) (bO k<|bO k<|bO k<|eJ k<|bN k<|aQ) k4)⟩
 ·rintro e t ⟨rfl,hent⟩;exact aN<|tn<|aI hent<|sR<|lp k8<|ae (ws k) k<|an<|tn<|aE<|sp h (bD k k k (iJ (aU (k) (aU (k) (aU (cW cA k k) fA)))))
def nT (a0:Int) (a1:Int) (x1:Int):Option (Int ⊕ (Unit ⊕ Int)):=
 bif decide (x1<a0) then
 ((qF a0).bind λv2=>
 bif v2 then
 ((gX a0 a1).bind λv4=>
 (gX a0 (wr (v4*x1))).bind λv5=>
 bif decide (v5=1) then
 (some (.inr (.inr (x1))))
 else
 (some (.inl (wr (x1+1)))))
 else
 (some (.inr (.inl ()))))
 else
 (some (.inr (.inl ())))
def tG (a0:Int) (a1:Int):Option Int:=
 (Lp (nT a0 a1) 1).bind λy7=>
 Sum.elim (λy8=>
 some (0)
 )
 (λy9=>
 some y9
 )
 y7
theorem aGr (a0:Int) (a1:Int) (r:Int) (h:tG a0 a1=some r):HasC Tryz.prog 235 [.int a0,.int a1] (.int r):=by
 refine hM [.tmp 4] Tryz.func235 Tryz.ntmps235 k<|sR<|aT k2<|sQ<|sR<|aT k2<|aD<|oB h λy7 hy7 h=>cC (body:=(nT a0 a1)) hy7 (λ(x1:Int)=>mN [(0,.int a0),(1,.int a1),(5,.int x1)] [] 0) (λr e t=>Sum.elim (λa=>(λr e t=>e= .exit 0∧Ent t (mN [] [] 0)) a e t) (λb=>(λr e t=>e= .ret∧mW TT [.tmp 4] (.int r) .ret t) b e t) r) (bP (bG k2) aQ k4) ?_ ?_
 ·intro x1 o h;exact sQ<|sR<|am k k<|am k k<|cm k4<|am k k<|sP h (λq1 h=>aV 9 k q1<|am k k<|oB h λv2 hv2 h=>ae (aS (zX a0 v2 hv2) k (cJ k aO)) k<|pk k3<|an<|tn<|cN k h (λ_ h=>aG<|tn<|sQ<|aD<|sR<|am k k<|am k k<|am k k<|oB h λv4 hv4 h=>ae (aS (kU a0 a1 v4 hv4) k (cJ k (cJ k aO))) k<|am k k<|ae (fP k k) k<|oB h λv5 hv5 h=>ae (aS (kU a0 (wr (v4*x1)) v5 hv5) k (cJ k (cJ k aO))) k<|cm k4<|an<|tn<|cN k h (λ_ h=>sR<|am k k<|aT k2<|aE<|bC<|aC<|aC<|sp h ⟨_,k,k,bD k k k (mY k)⟩) λ_ h=>aG<|bB<|tn<|rg<|am k k<|ae (bF k k) k<|aT k2<|sp h ⟨_,k,(bP (bG k2) aQ k4)⟩) λ_ h=>aY<|aB<|aB<|sp h ⟨_,k,k,(bP aQ aQ k4)⟩) λq1 h=>aV 9 k q1<|aK k4<|pk k3<|an<|tn<|aBG k k<|aY<|aB<|aB<|sp h ⟨_,k,k,(bP aQ aQ k4)⟩
 ·intro e t hX;rcases y7 with y8|y9
  ·obtain ⟨rfl,hent⟩:=hX;exact aN<|tn<|aI hent<|sR<|aT k2<|aE<|rtI h k2
  ·obtain ⟨rfl,hent⟩:=hX;exact bC<|aC<|sp h hent
def rE (a0:Int) (a1:(List Int)) (x1:Int):Option (Int ⊕ (Unit ⊕ Bool)):=
 bif decide (x1<(a1.length:Int)) then
 ((cY a1 x1).bind λv5=>
 (lH v5 0 (wr (a0 - 1))).bind λv6=>
 bif !v6 then
 (some (.inr (.inr (false))))
 else
 (some (.inl (wr (x1+1)))))
 else
 (some (.inr (.inl ())))
def nD (a0:Int) (a1:(List Int)):Option Bool:=
 (qF a0).bind λv1=>
 bif !v1 then
 (some (false))
 else
 (bif decide (64<(a1.length:Int)) then
 (some (false))
 else
 ((Lp (rE a0 a1) 0).bind λy8=>
 Sum.elim (λy9=>
 some (true)
 )
 (λy10=>
 some y10
 )
 y8))
theorem aBS (a0:Int) (a1:(List Int)) (r:Bool) (h:nD a0 a1=some r):HasC Tryz.prog 138 [.int a0,.list 1 (a1.map eI)] (.bl r):=by
 refine hM [.tmp 4] Tryz.func138 Tryz.ntmps138 k<|sR<|aT k2<|sQ<|sR<|am k k<|oB h λv1 hv1 h=>ae (aS (zX a0 v1 hv1) k (cJ k aO)) k<|ae (dI k) k<|am k k<|sP h (λq2 h=>aV 9 k q2<|aK k4<|ak k k<|pk k3<|an<|tn<|dO k k<|sR<|aT k2<|aE<|aC<|gK h k2) λq2 h=>?_;refine aV 9 k q2<|am k k<|ln k4<|cm k4<|pk k3<|an<|tn<|cN k h (λ_ h=>sR<|aT k2<|aE<|aC<|gK h k2) λ_ h=>?_;refine aG<|tn<|sQ<|sR<|aT k2<|aD<|oB h λy8 hy8 h=>cC (body:=(rE a0 a1)) hy8 (λ(x1:Int)=>mN [(0,.int a0),(1,.list 1 (a1.map eI)),(5,.int x1)] [] 0) (λr e t=>Sum.elim (λa=>(λr e t=>e= .exit 0∧Ent t (mN [] [] 0)) a e t) (λb=>(λr e t=>e= .ret∧mW TT [.tmp 4] (.bl r) .ret t) b e t) r) (bP (bG k2) aQ k4) ?_ ?_
 ·intro x1 o h;exact sQ<|sR<|am k k<|am k k<|ln k4<|cm k4<|an<|tn<|cN k h (λ_ h=>aG<|tn<|sQ<|aD<|sR<|am k k<|am k k<|oB h λv5 hv5 h=>ae (xl hv5 k) k<|lr k7<|am k k<|ae (wS k k) k<|oB h λv6 hv6 h=>ae (aS (qW v5 0 (wr (a0 - 1)) v6 hv6) k (cJ k (cJ k (cJ k aO)))) k<|ae (dI k) k<|an<|tn<|cN k h (λ_ h=>sR<|aT k2<|aE<|bC<|aC<|aC<|sp h ⟨_,k,k,bD k k k (lF k)⟩) λ_ h=>aG<|bB<|tn<|rg<|am k k<|ae (bF k k) k<|aT k2<|sp h ⟨_,k,(bP (bG k2) aQ k4)⟩) λ_ h=>aY<|aB<|aB<|sp h ⟨_,k,k,(bP aQ aQ k4)⟩
 ·intro e t hX;rcases y8 with y9|y10
  ·obtain ⟨rfl,hent⟩:=hX;exact aN<|tn<|aI hent<|sR<|aT k2<|aE<|gK h k2
  ·obtain ⟨rfl,hent⟩:=hX;exact bC<|aC<|sp h hent
def kI (a0:Int) (a1:Mt):Option Bool:=
 (lH a1.rows 0 8).bind λv1=>
 bif v1 then
 ((lH a1.cols 0 8).bind λv3=>
 bif v3 then
 (bif decide ((a1.cells.length:Int)=wr (a1.rows*a1.cols)) then
 ((nD a0 a1.cells).bind λv6=>
 some (v6))
 else
 (some (false)))
 else
 (some (false)))
 else
 (some (false))
theorem xJ (a0:Int) (a1:Mt) (r:Bool) (h:kI a0 a1=some r):HasC Tryz.prog 88 [.int a0,.agg (eM a1)] (.bl r):=by
 exact hM [.tmp 4] Tryz.func88 Tryz.ntmps88 k<|sR<|ae (wb k) k<|aT k2<|sR<|fp k8<|lp k8<|oB h λv1 hv1 h=>ae (aS (qW a1.rows 0 8 v1 hv1) k (cJ k (cJ k (cJ k aO)))) k<|am k k<|sP h (λq2 h=>aV 8 k q2<|fp k8<|lp k8<|oB h λv3 hv3 h=>ae (aS (qW a1.cols 0 8 v3 hv3) k (cJ k (cJ k (cJ k aO)))) k<|pk k3<|am k k<|sP h (λq4 h=>aV 13 k q4<|fp k8<|lp k8<|ln k4<|fp k8<|lp k8<|fp k8<|lp k8<|ae (fP k k) k<|cm k4<|pk k3<|am k k<|sP h (λq5 h=>aV 24 k q5<|am k k<|fp k8<|lp k8<|oB h λv6 hv6 h=>ae (aS (aBS a0 a1.cells v6 hv6) k (cJ k (cJ k aO))) k<|pk k3<|aT k2<|aE<|gK h k2) λq5 h=>aV 24 k q5<|aK k4<|aK k4<|pk k3<|aT k2<|aE<|gK h k2) λq4 h=>aV 13 k q4<|aK k4<|aK k4<|aK k4<|aK k4<|ak k k<|pk k3<|am k k<|aK k4<|aK k4<|pk k3<|aT k2<|aE<|gK h k2) λq2 h=>aV 8 k q2<|aK k4<|ak k k<|pk k3<|am k k<|aK k4<|aK k4<|aK k4<|aK k4<|ak k k<|pk k3<|am k k<|aK k4<|aK k4<|pk k3<|aT k2<|aE<|gK h k2
def wW (a0:Mt):Option Mt:=
 bif decide (([]:(List Int)).length +a0.cells.length≤4294967296) then
 (some ((⟨a0.rows,a0.cols,(([]:(List Int))++a0.cells)⟩:Mt)))
 else none
theorem aFl (a0:Mt) (r:Mt) (h:wW a0=some r):HasC Tryz.prog 116 [.agg (eM a0)] (.agg (eM r)):=by
 exact hM [.cell 2 91] Tryz.func116 Tryz.ntmps116 k<|sR<|ae (wb k) k<|ae (bX aJ k k) k<|an<|tn<|sQ<|aP fB<|fp k8<|lp k8<|fp k8<|lp k8<|ae (wl k) k<|fp k8<|lp k8<|cG h λq1 h=>ae (qV aJ (l:=([]:(List Int))) (m:=a0.cells) kH q1 k k k k k k k k k k k k) k<|ae (fW aJ k k k k k k) k<|ae (ws k) k<|an<|lL (by kernel_rfl)<|tn<|aE<|sp h (bD k k k (iJ (aU (k) (aU (k) (aU (cW cA k k) fA)))))
end
noncomputable section
set_option maxRecDepth 10000
set_option maxHeartbeats 4000000
def lY (v1:Mt) (x1:(Int×(List Int)×(List Int)×Int)) (x2:(Int×Int)):Option ((Int×Int) ⊕ Int):=
 bif decide (x1.2.2.2≤x2.2) then
 ((cY x1.2.1 (wr ((wr (x2.2*v1.cols))+x1.1))).bind λv5=>
 bif !decide (v5=0) then
 (some (.inl (x2.2,wr (x2.2 - 1))))
 else
 (some (.inl (x2.1,wr (x2.2 - 1)))))
 else
 (some (.inr x2.1))
def rF (v1:Mt) (x1:(Int×(List Int)×(List Int)×Int)) (y7:Int) (x3:((List Int)×Int)):Option (((List Int)×Int) ⊕ (List Int)):=
 bif decide (x3.2<v1.cols) then
 ((cY x3.1 (wr ((wr (x1.2.2.2*v1.cols))+x3.2))).bind λv10=>
 (cY x3.1 (wr ((wr (y7*v1.cols))+x3.2))).bind λv11=>
 (cY x3.1 (wr ((wr (x1.2.2.2*v1.cols))+x3.2))).bind λv12=>
 (cY (x3.1.set ((wr ((wr (x1.2.2.2*v1.cols))+x3.2)).toNat) v11) (wr ((wr (y7*v1.cols))+x3.2))).bind λv13=>
 some (.inl (((x3.1.set ((wr ((wr (x1.2.2.2*v1.cols))+x3.2)).toNat) v11).set ((wr ((wr (y7*v1.cols))+x3.2)).toNat) v10),wr (x3.2+1))))
 else
 (some (.inr x3.1))
def rG (a0:Int) (v1:Mt) (v16:Int) (x1:(Int×(List Int)×(List Int)×Int)) (x4:((List Int)×Int)):Option (((List Int)×Int) ⊕ (List Int)):=
 bif decide (x4.2<v1.cols) then
 ((cY x4.1 (wr ((wr (x1.2.2.2*v1.cols))+x4.2))).bind λv18=>
 (gX a0 (wr (v16*v18))).bind λv19=>
 (cY x4.1 (wr ((wr (x1.2.2.2*v1.cols))+x4.2))).bind λv20=>
 some (.inl ((x4.1.set ((wr ((wr (x1.2.2.2*v1.cols))+x4.2)).toNat) v19),wr (x4.2+1))))
 else
 (some (.inr x4.1))
def lZ (a0:Int) (v1:Mt) (v23:Int) (x1:(Int×(List Int)×(List Int)×Int)) (x5:((List Int)×Int)) (x6:((List Int)×Int)):Option (((List Int)×Int) ⊕ (List Int)):=
 bif decide (x6.2<v1.cols) then
 (bif !decide (x5.2=x1.2.2.2) then
 ((cY x6.1 (wr ((wr (x5.2*v1.cols))+x6.2))).bind λv26=>
 (cY x6.1 (wr ((wr (x1.2.2.2*v1.cols))+x6.2))).bind λv27=>
 (gX a0 (wr (v26 - (wr (v23*v27))))).bind λv28=>
 (cY x6.1 (wr ((wr (x5.2*v1.cols))+x6.2))).bind λv29=>
 some (.inl ((x6.1.set ((wr ((wr (x5.2*v1.cols))+x6.2)).toNat) v28),wr (x6.2+1))))
 else
 (some (.inr x6.1)))
 else
 (some (.inr x6.1))
def rH (a0:Int) (v1:Mt) (x1:(Int×(List Int)×(List Int)×Int)) (x5:((List Int)×Int)):Option (((List Int)×Int) ⊕ (List Int)):=
 bif decide (x5.2<v1.rows) then
 ((cY x5.1 (wr ((wr (x5.2*v1.cols))+x1.1))).bind λv23=>
 (Lp (lZ a0 v1 v23 x1 x5) (x5.1,0)).bind λy30=>
 some (.inl (y30,wr (x5.2+1))))
 else
 (some (.inr x5.1))
def hY (a0:Int) (v1:Mt) (x1:(Int×(List Int)×(List Int)×Int)):Option ((Int×(List Int)×(List Int)×Int) ⊕ ((List Int)×(List Int))):=
 bif decide (x1.1<v1.cols) then
 (bif decide (x1.2.2.2<v1.rows) then
 ((Lp (lY v1 x1) ((-1),wr (v1.rows - 1))).bind λy7=>
 bif decide (y7<0) then
 (some (.inl (wr (x1.1+1),x1.2.1,x1.2.2.1,x1.2.2.2)))
 else
 ((Lp (rF v1 x1 y7) (x1.2.1,0)).bind λy14=>
 (cY y14 (wr ((wr (x1.2.2.2*v1.cols))+x1.1))).bind λv15=>
 (tG a0 v15).bind λv16=>
 (Lp (rG a0 v1 v16 x1) (y14,0)).bind λy21=>
 (Lp (rH a0 v1 x1) (y21,0)).bind λy31=>
 bif decide (x1.2.2.1.length+[x1.1].length ≤4294967296) then
 (some (.inl (wr (x1.1+1),y31,(x1.2.2.1++[x1.1]),wr (x1.2.2.2+1))))
 else none))
 else
 (some (.inr (x1.2.1,x1.2.2.1))))
 else
 (some (.inr (x1.2.1,x1.2.2.1)))
def nF (a0:Int) (a1:Mt):Option (Mt×(List Int)):=
 (wW a1).bind λv1=>
 (Lp (hY a0 v1) (0,v1.cells,([]:(List Int)),0)).bind λy33=>
 some (((⟨v1.rows,v1.cols,y33.1⟩:Mt),y33.2))
theorem aBT (a0:Int) (a1:Mt) (r:(Mt×(List Int))) (h:nF a0 a1=some r):HasC Tryz.prog 205 [.int a0,.agg (eM a1)] (.tuple [.agg (eM r.1),.list 1 (r.2.map eI)]):=by
 refine hM [.cell 4 91,.tmp 5] Tryz.func205 Tryz.ntmps205 k<|sR<|ae (wb k) k<|ae (bX aJ k k) k<|aT k2<|sR<|lp k8<|oB h λv1 hv1 h=>ae (cM (aFl a1 v1 hv1) k3 (aL (eV k) aO)) k<|ae (bX aJ k k) k<|ae (ws k) k<|an<|tn<|sR<|ae (wl k) k<|aT k2<|aI (t:=mN [(0,.int a0),(4,.ptr 1 0 0),(6,.ptr 3 0 0),(7,.own 4 0 (([]:(List Int)).length))] [(1,⟨3,[gD]⟩),(2,⟨1,v1.cells.map (ow eI)⟩),(3,⟨3,[oMt v1 2]⟩),(4,⟨1,List.map (ow eI) ([]:(List Int))⟩)] 5) (bP (kT 3 k2 (gH ⟨_,k,⟨k,k,(by simp only [aH,lA,lT,lR,lC,lN]),k⟩⟩ aQ)) (bO k<|bN k<|eJ k<|bN k<|aQ) k4)<|sR<|aT k2<|sQ<|sQ ?_;refine rg<|aT k2<|aD<|oB h λy33 hy33 h=>cC (body:=(hY a0 v1)) hy33 (λ(x1:(Int×(List Int)×(List Int)×Int))=>mN [(0,.int a0),(4,.ptr 0 0 0),(6,.ptr 1 0 0),(7,.own 3 0 x1.2.2.1.length),(8,.int x1.2.2.2),(9,.int x1.1)] [(0,⟨3,[gD]⟩),(1,⟨3,[[.int v1.rows,.int v1.cols,.own 2 0 x1.2.1.length]]⟩),(2,⟨1,x1.2.1.map (ow eI)⟩),(3,⟨1,x1.2.2.1.map (ow eI)⟩)] 4) (λr e t=>e= .exit 0∧Ent t (mN [(4,.ptr 0 0 0),(6,.ptr 1 0 0),(7,.own 3 0 r.2.length)] [(0,⟨3,[gD]⟩),(1,⟨3,[[.int v1.rows,.int v1.cols,.own 2 0 r.1.length]]⟩),(2,⟨1,r.1.map (ow eI)⟩),(3,⟨1,r.2.map (ow eI)⟩)] 4)) (gT [1,3,2,4] (bG k2) (bO k<|eJ k<|bN k<|bN k<|aQ) k4) ?_ ?_
 ·intro x1 o h;refine sQ<|sR<|am k k<|fp k8<|lp k8<|cm k4<|am k k<|sP h (λq2 h=>?_) λq2 h=>aV 26 k q2<|aK k4<|aK k4<|pk k3<|an<|tn<|aBG k k<|aY<|aB<|aB<|sp h ⟨_,k,k,(bP (bG k2) (bO k<|eJ k<|bN k<|bN k<|aQ) k4)⟩;refine aV 26 k q2<|am k k<|fp k8<|lp k8<|cm k4<|pk k3<|an<|tn<|cN k h (λ_ h=>?_) λ_ h=>aY<|aB<|aB<|sp h ⟨_,k,k,(bP (bG k2) (bO k<|eJ k<|bN k<|bN k<|aQ) k4)⟩;refine aG<|tn<|sQ<|aD<|sR<|aT k2<|sQ<|sR<|fp k8<|lp k8<|ae (wS k k) k<|aT k2<|aD<|oB h λy7 hy7 h=>cC (body:=(lY v1 x1)) hy7 (λ(x2:(Int×Int))=>mN [(0,.int a0),(4,.ptr 0 0 0),(6,.ptr 1 0 0),(7,.own 3 0 x1.2.2.1.length),(8,.int x1.2.2.2),(9,.int x1.1),(10,.int x2.1),(11,.int x2.2)] [(0,⟨3,[gD]⟩),(1,⟨3,[[.int v1.rows,.int v1.cols,.own 2 0 x1.2.1.length]]⟩),(2,⟨1,x1.2.1.map (ow eI)⟩),(3,⟨1,x1.2.2.1.map (ow eI)⟩)] 4) (λr e t=>e= .exit 2∧Ent t (mN [(0,.int a0),(4,.ptr 0 0 0),(6,.ptr 1 0 0),(7,.own 3 0 x1.2.2.1.length),(8,.int x1.2.2.2),(9,.int x1.1),(10,.int r)] [(0,⟨3,[gD]⟩),(1,⟨3,[[.int v1.rows,.int v1.cols,.own 2 0 x1.2.1.length]]⟩),(2,⟨1,x1.2.1.map (ow eI)⟩),(3,⟨1,x1.2.2.1.map (ow eI)⟩)] 4)) (bP (bG k2) (bO k<|eJ k<|bN k<|bN k<|aQ) k4) ?_ ?_
  ·intro x2 o h;exact sQ<|sR<|am k k<|am k k<|cm k4<|an<|tn<|cN k h (λ_ h=>aG<|tn<|sQ<|aD<|sR<|fp k8<|lp k8<|am k k<|fp k8<|lp k8<|ae (fP k k) k<|am k k<|ae (bF k k) k<|oB h λv5 hv5 h=>ae (xo hv5 k) k<|ae (wp hv5 k) k<|cm k4<|an<|tn<|cN k h (λ_ h=>rg<|am k k<|aa k k<|an<|bB<|tn<|rg<|am k k<|ae (wS k k) k<|aT k2<|sp h ⟨_,k,(bP (bG k2) (bO k<|eJ k<|bN k<|bN k<|aQ) k4)⟩) λ_ h=>aG<|bB<|tn<|rg<|am k k<|ae (wS k k) k<|aT k2<|sp h ⟨_,k,(bP (bG k2) (bO k<|eJ k<|bN k<|bN k<|aQ) k4)⟩) λ_ h=>aY<|aB<|aB<|sp h ⟨_,k,k,(bP (bG k2) (bO k<|eJ k<|bN k<|bN k<|aQ) k4)⟩
  ·rintro e t ⟨rfl,hent⟩;refine aN<|tn<|aI hent<|sQ<|sR<|am k k<|cm k4<|an<|tn<|cN k h (λ_ h=>aY<|aB<|aN<|tn<|rg<|am k k<|ae (bF k k) k<|aT k2<|sp h ⟨_,k,(bP (bG k2) (bO k<|eJ k<|bN k<|bN k<|aQ) k4)⟩) λ_ h=>?_;refine aG<|tn<|sQ<|sR<|aT k2<|aD<|oB h λy14 hy14 h=>cC (body:=(rF v1 x1 y7)) hy14 (λ(x3:((List Int)×Int))=>mN [(0,.int a0),(4,.ptr 0 0 0),(6,.ptr 1 0 0),(7,.own 3 0 x1.2.2.1.length),(8,.int x1.2.2.2),(9,.int x1.1),(10,.int y7),(12,.int x3.2)] [(0,⟨3,[gD]⟩),(1,⟨3,[[.int v1.rows,.int v1.cols,.own 2 0 x3.1.length]]⟩),(2,⟨1,x3.1.map (ow eI)⟩),(3,⟨1,x1.2.2.1.map (ow eI)⟩)] 4) (λr e t=>e= .exit 4∧Ent t (mN [(0,.int a0),(4,.ptr 0 0 0),(6,.ptr 1 0 0),(7,.own 3 0 x1.2.2.1.length),(8,.int x1.2.2.2),(9,.int x1.1)] [(0,⟨3,[gD]⟩),(1,⟨3,[[.int v1.rows,.int v1.cols,.own 2 0 r.length]]⟩),(2,⟨1,r.map (ow eI)⟩),(3,⟨1,x1.2.2.1.map (ow eI)⟩)] 4)) (bP (bG k2) (bO k<|eJ k<|bN k<|bN k<|aQ) k4) ?_ ?_
   ·intro x3 o h;refine sQ<|sR<|am k k<|fp k8<|lp k8<|cm k4<|an<|tn<|cN k h (λ_ h=>?_) λ_ h=>aY<|aB<|aB<|sp h ⟨_,k,k,(bP (bG k2) (bO k<|eJ k<|bN k<|bN k<|aQ) k4)⟩;refine aG<|tn<|sQ<|aD<|sR<|fp k8<|lp k8<|am k k<|fp k8<|lp k8<|ae (fP k k) k<|am k k<|ae (bF k k) k<|oB h λv10 hv10 h=>ae (xo hv10 k) k<|ae (wp hv10 k) k<|aT k2<|sQ<|aP fB<|fp k8<|lp k8<|am k k<|fp k8<|lp k8<|ae (fP k k) k<|am k k<|ae (bF k k) k ?_;refine fp k8<|lp k8<|am k k<|fp k8<|lp k8<|ae (fP k k) k<|am k k<|ae (bF k k) k<|oB h λv11 hv11 h=>ae (xo hv11 k) k<|ae (wp hv11 k) k<|oB h λv12 hv12 h=>ae (xo hv12 k) k<|ae (gL aJ kH (u:=v11) (dF hv12) k k k k k k) k<|an<|lL (by kernel_rfl)<|tn<|aI (t:=mN [(0,.int a0),(4,.ptr 0 0 0),(6,.ptr 1 0 0),(7,.own 3 0 x1.2.2.1.length),(8,.int x1.2.2.2),(9,.int x1.1),(10,.int y7),(12,.int x3.2),(13,.int v10)] [(0,⟨3,[gD]⟩),(1,⟨3,[[.int v1.rows,.int v1.cols,.own 2 0 ((x3.1.set ((wr ((wr (x1.2.2.2*v1.cols))+x3.2)).toNat) v11).length)]]⟩),(2,⟨1,List.map (ow eI) (x3.1.set ((wr ((wr (x1.2.2.2*v1.cols))+x3.2)).toNat) v11)⟩),(3,⟨1,x1.2.2.1.map (ow eI)⟩)] 4) (bP (bG k2) (bO k<|hX ⟨_,k,k,.inr ⟨_,_,k,⟨_,_,k,k,⟨_,_,k,k,⟨_,_,k,⟨k,k,(by simp only [aH,lA,lT,lR,lC,lN]),k⟩,k⟩⟩⟩,k⟩⟩ k<|bN k<|bN k<|aQ) k4)<|rg<|fp k8<|lp k8<|am k k<|fp k8<|lp k8<|ae (fP k k) k<|am k k<|ae (bF k k) k<|am k k<|oB h λv13 hv13 h=>ae (xo hv13 k) k<|ae (gL aJ kH (u:=v10) (dF hv13) k k k k k k) k<|an<|bB ?_;exact tn<|rg<|am k k<|ae (bF k k) k<|aT k2<|sp h ⟨_,k,(bP (bG k2) (bO k<|hX ⟨_,k,k,.inr ⟨_,_,k,⟨_,_,k,k,⟨_,_,k,k,⟨_,_,k,⟨k,k,(by simp only [aH,lA,lT,lR,lC,lN]),k⟩,k⟩⟩⟩,k⟩⟩ k<|bN k<|bN k<|aQ) k4)⟩
   ·rintro e t ⟨rfl,hent⟩;refine aN<|tn<|aI hent<|sR<|am k k<|fp k8<|lp k8<|am k k<|fp k8<|lp k8<|ae (fP k k) k<|am k k<|ae (bF k k) k<|oB h λv15 hv15 h=>ae (xo hv15 k) k<|ae (wp hv15 k) k<|oB h λv16 hv16 h=>ae (aS (aGr a0 v15 v16 hv16) k (cJ k (cJ k aO))) k<|aT k2<|sQ<|sR<|aT k2<|aD<|oB h λy21 hy21 h=>cC (body:=(rG a0 v1 v16 x1)) hy21 (λ(x4:((List Int)×Int))=>mN [(0,.int a0),(4,.ptr 0 0 0),(6,.ptr 1 0 0),(7,.own 3 0 x1.2.2.1.length),(8,.int x1.2.2.2),(9,.int x1.1),(14,.int v16),(15,.int x4.2)] [(0,⟨3,[gD]⟩),(1,⟨3,[[.int v1.rows,.int v1.cols,.own 2 0 x4.1.length]]⟩),(2,⟨1,x4.1.map (ow eI)⟩),(3,⟨1,x1.2.2.1.map (ow eI)⟩)] 4) (λr e t=>e= .exit 6∧Ent t (mN [(0,.int a0),(4,.ptr 0 0 0),(6,.ptr 1 0 0),(7,.own 3 0 x1.2.2.1.length),(8,.int x1.2.2.2),(9,.int x1.1)] [(0,⟨3,[gD]⟩),(1,⟨3,[[.int v1.rows,.int v1.cols,.own 2 0 r.length]]⟩),(2,⟨1,r.map (ow eI)⟩),(3,⟨1,x1.2.2.1.map (ow eI)⟩)] 4)) (bP (bG k2) (bO k<|eJ k<|bN k<|bN k<|aQ) k4) ?_ ?_
    ·intro x4 o h;refine sQ<|sR<|am k k<|fp k8<|lp k8<|cm k4<|an<|tn<|cN k h (λ_ h=>?_) λ_ h=>aY<|aB<|aB<|sp h ⟨_,k,k,(bP (bG k2) (bO k<|eJ k<|bN k<|bN k<|aQ) k4)⟩;refine aG<|tn<|sQ<|aD<|aP fB<|fp k8<|lp k8<|am k k<|fp k8<|lp k8<|ae (fP k k) k<|am k k<|ae (bF k k) k<|am k k<|am k k<|fp k8<|lp k8<|am k k<|fp k8<|lp k8<|ae (fP k k) k<|am k k<|ae (bF k k) k<|oB h λv18 hv18 h=>ae (xo hv18 k) k<|ae (wp hv18 k) k<|ae (fP k k) k<|oB h λv19 hv19 h=>ae (aS (kU a0 (wr (v16*v18)) v19 hv19) k (cJ k (cJ k aO))) k<|oB h λv20 hv20 h=>ae (xo hv20 k) k<|ae (gL aJ kH (u:=v19) (dF hv20) k k k k k k) k ?_;exact an<|lL (by kernel_rfl)<|bB<|tn<|aI (t:=mN [(0,.int a0),(4,.ptr 0 0 0),(6,.ptr 1 0 0),(7,.own 3 0 x1.2.2.1.length),(8,.int x1.2.2.2),(9,.int x1.1),(14,.int v16),(15,.int x4.2)] [(0,⟨3,[gD]⟩),(1,⟨3,[[.int v1.rows,.int v1.cols,.own 2 0 ((x4.1.set ((wr ((wr (x1.2.2.2*v1.cols))+x4.2)).toNat) v19).length)]]⟩),(2,⟨1,List.map (ow eI) (x4.1.set ((wr ((wr (x1.2.2.2*v1.cols))+x4.2)).toNat) v19)⟩),(3,⟨1,x1.2.2.1.map (ow eI)⟩)] 4) (bP (bG k2) (bO k<|hX ⟨_,k,k,.inr ⟨_,_,k,⟨_,_,k,k,⟨_,_,k,k,⟨_,_,k,⟨k,k,(by simp only [aH,lA,lT,lR,lC,lN]),k⟩,k⟩⟩⟩,k⟩⟩ k<|bN k<|bN k<|aQ) k4)<|rg<|am k k<|ae (bF k k) k<|aT k2<|sp h ⟨_,k,(bP (bG k2) (bO k<|eJ k<|bN k<|bN k<|aQ) k4)⟩
    ·rintro e t ⟨rfl,hent⟩;refine aN<|tn<|aI hent<|sQ<|sR<|aT k2<|aD<|oB h λy31 hy31 h=>cC (body:=(rH a0 v1 x1)) hy31 (λ(x5:((List Int)×Int))=>mN [(0,.int a0),(4,.ptr 0 0 0),(6,.ptr 1 0 0),(7,.own 3 0 x1.2.2.1.length),(8,.int x1.2.2.2),(9,.int x1.1),(16,.int x5.2)] [(0,⟨3,[gD]⟩),(1,⟨3,[[.int v1.rows,.int v1.cols,.own 2 0 x5.1.length]]⟩),(2,⟨1,x5.1.map (ow eI)⟩),(3,⟨1,x1.2.2.1.map (ow eI)⟩)] 4) (λr e t=>e= .exit 8∧Ent t (mN [(0,.int a0),(4,.ptr 0 0 0),(6,.ptr 1 0 0),(7,.own 3 0 x1.2.2.1.length),(8,.int x1.2.2.2),(9,.int x1.1)] [(0,⟨3,[gD]⟩),(1,⟨3,[[.int v1.rows,.int v1.cols,.own 2 0 r.length]]⟩),(2,⟨1,r.map (ow eI)⟩),(3,⟨1,x1.2.2.1.map (ow eI)⟩)] 4)) (bP (bG k2) (bO k<|eJ k<|bN k<|bN k<|aQ) k4) ?_ ?_
     ·intro x5 o h;refine sQ<|sR<|am k k<|fp k8<|lp k8<|cm k4<|an<|tn<|cN k h (λ_ h=>?_) λ_ h=>aY<|aB<|aB<|sp h ⟨_,k,k,(bP (bG k2) (bO k<|eJ k<|bN k<|bN k<|aQ) k4)⟩;refine aG<|tn<|sQ<|aD<|sR<|fp k8<|lp k8<|am k k<|fp k8<|lp k8<|ae (fP k k) k<|am k k<|ae (bF k k) k<|oB h λv23 hv23 h=>ae (xo hv23 k) k<|ae (wp hv23 k) k<|aT k2<|sR<|aT k2<|aD<|oB h λy30 hy30 h=>cC (body:=(lZ a0 v1 v23 x1 x5)) hy30 (λ(x6:((List Int)×Int))=>mN [(0,.int a0),(4,.ptr 0 0 0),(6,.ptr 1 0 0),(7,.own 3 0 x1.2.2.1.length),(8,.int x1.2.2.2),(9,.int x1.1),(16,.int x5.2),(17,.int v23),(18,.int x6.2)] [(0,⟨3,[gD]⟩),(1,⟨3,[[.int v1.rows,.int v1.cols,.own 2 0 x6.1.length]]⟩),(2,⟨1,x6.1.map (ow eI)⟩),(3,⟨1,x1.2.2.1.map (ow eI)⟩)] 4) (λr e t=>e= .exit 10∧Ent t (mN [(0,.int a0),(4,.ptr 0 0 0),(6,.ptr 1 0 0),(7,.own 3 0 x1.2.2.1.length),(8,.int x1.2.2.2),(9,.int x1.1),(16,.int x5.2)] [(0,⟨3,[gD]⟩),(1,⟨3,[[.int v1.rows,.int v1.cols,.own 2 0 r.length]]⟩),(2,⟨1,r.map (ow eI)⟩),(3,⟨1,x1.2.2.1.map (ow eI)⟩)] 4)) (bP (bG k2) (bO k<|eJ k<|bN k<|bN k<|aQ) k4) ?_ ?_
      ·intro x6 o h;refine sQ<|sR<|am k k<|fp k8<|lp k8<|cm k4<|am k k<|sP h (λq24 h=>?_) λq24 h=>aV 162 k q24<|aK k4<|ak k k<|pk k3<|an<|tn<|aBG k k<|aY<|aB<|aB<|sp h ⟨_,k,k,(bP (bG k2) (bO k<|eJ k<|bN k<|bN k<|aQ) k4)⟩;refine aV 162 k q24<|am k k<|am k k<|cm k4<|pk k3<|an<|tn<|cN k h (λ_ h=>?_) λ_ h=>aY<|aB<|aB<|sp h ⟨_,k,k,(bP (bG k2) (bO k<|eJ k<|bN k<|bN k<|aQ) k4)⟩;refine aG<|tn<|sQ<|aD<|aP fB<|fp k8<|lp k8<|am k k<|fp k8<|lp k8<|ae (fP k k) k<|am k k<|ae (bF k k) k<|am k k<|fp k8<|lp k8<|am k k<|fp k8<|lp k8<|ae (fP k k) k<|am k k<|ae (bF k k) k<|oB h λv26 hv26 h=>ae (xo hv26 k) k<|ae (wp hv26 k) k<|am k k<|fp k8<|lp k8<|am k k<|fp k8 ?_;exact lp k8<|ae (fP k k) k<|am k k<|ae (bF k k) k<|oB h λv27 hv27 h=>ae (xo hv27 k) k<|ae (wp hv27 k) k<|ae (fP k k) k<|ae (wS k k) k<|oB h λv28 hv28 h=>ae (aS (kU a0 (wr (v26 - (wr (v23*v27)))) v28 hv28) k (cJ k (cJ k aO))) k<|oB h λv29 hv29 h=>ae (xo hv29 k) k<|ae (gL aJ kH (u:=v28) (dF hv29) k k k k k k) k<|an<|lL (by kernel_rfl)<|bB<|tn<|aI (t:=mN [(0,.int a0),(4,.ptr 0 0 0),(6,.ptr 1 0 0),(7,.own 3 0 x1.2.2.1.length),(8,.int x1.2.2.2),(9,.int x1.1),(16,.int x5.2),(17,.int v23),(18,.int x6.2)] [(0,⟨3,[gD]⟩),(1,⟨3,[[.int v1.rows,.int v1.cols,.own 2 0 ((x6.1.set ((wr ((wr (x5.2*v1.cols))+x6.2)).toNat) v28).length)]]⟩),(2,⟨1,List.map (ow eI) (x6.1.set ((wr ((wr (x5.2*v1.cols))+x6.2)).toNat) v28)⟩),(3,⟨1,x1.2.2.1.map (ow eI)⟩)] 4) (bP (bG k2) (bO k<|hX ⟨_,k,k,.inr ⟨_,_,k,⟨_,_,k,k,⟨_,_,k,k,⟨_,_,k,⟨k,k,(by simp only [aH,lA,lT,lR,lC,lN]),k⟩,k⟩⟩⟩,k⟩⟩ k<|bN k<|bN k<|aQ) k4)<|rg<|am k k<|ae (bF k k) k<|aT k2<|sp h ⟨_,k,(bP (bG k2) (bO k<|eJ k<|bN k<|bN k<|aQ) k4)⟩
      ·rintro e t ⟨rfl,hent⟩;exact aN<|bB<|tn<|aI hent<|rg<|am k k<|ae (bF k k) k<|aT k2<|sp h ⟨_,k,(bP (bG k2) (bO k<|eJ k<|bN k<|bN k<|aQ) k4)⟩
     ·rintro e t ⟨rfl,hent⟩;exact aN<|tn<|aI hent<|sR<|am k k<|am k k<|ae (wl k) k<|cG h λq32 h=>ae (qV aJ (l:=x1.2.2.1) (m:=[x1.1]) kH q32 k k k k k k k k k k k k) k<|aT k2<|rg<|am k k<|ae (bF k k) k<|aa k k<|an<|bB<|tn<|rg<|am k k<|ae (bF k k) k<|aT k2<|sp h ⟨_,k,(gT [0,1,2,5] (bG k2) (bO k<|eJ k<|bN k<|bN k<|aQ) k4)⟩
 ·rintro e t ⟨rfl,hent⟩;exact aN<|tn<|aI hent<|sR<|lp k8<|am k k<|ae (ws k) k<|aT k2<|aE<|sp h (bD k k k (cU k (bL (yU (aU (k) (aU (k) (aU (cW cA k k) fA)))) (bL (dL (cW cA k k)) eG))))
def vC (a0:Int) (a1:Int):Option Int:=
 (lX a0).bind λv1=>
 bif !v1 then
 (some (0))
 else
 (bif !decide (a0=0) then
 (bif !decide (a0=0) then
 (some ((wr ((a1.tmod a0)+a0)).tmod a0))
 else none)
 else none)
theorem aHp (a0:Int) (a1:Int) (r:Int) (h:vC a0 a1=some r):HasC Tryz.prog 252 [.int a0,.int a1] (.int r):=by
 exact hM [.tmp 4] Tryz.func252 Tryz.ntmps252 k<|sR<|aT k2<|sQ<|sR<|am k k<|oB h λv1 hv1 h=>ae (aS (uP a0 v1 hv1) k (cJ k aO)) k<|ae (dI k) k<|an<|tn<|cN k h (λ_ h=>sR<|aT k2<|aE<|aC<|rtI h k2) λ_ h=>aG<|tn<|sR<|am k k<|am k k<|cG h λq4 h=>ae (aFh k k q4) k<|am k k<|ae (bF k k) k<|am k k<|cG h λq3 h=>ae (aFh k k q3) k<|aT k2<|aE<|rtI h k2
def rI (a0:Int) (a1:Int) (a2:Int) (x1:(Int×Int)):Option ((Int×Int) ⊕ Int):=
 bif decide (x1.2<a2) then
 ((vC a0 a1).bind λv6=>
 bif !decide (a0=0) then
 (some (.inl ((wr (x1.1*v6)).tmod a0,wr (x1.2+1))))
 else none)
 else
 (some (.inr x1.1))
def xK (a0:Int) (a1:Int) (a2:Int):Option Int:=
 (lX a0).bind λv1=>
 bif !v1 then
 (some (0))
 else
 ((oY a2 0 1000).bind λv3=>
 bif !v3 then
 (some (0))
 else
 ((Lp (rI a0 a1 a2) (1,0)).bind λy8=>
 some (y8)))
theorem aIw (a0:Int) (a1:Int) (a2:Int) (r:Int) (h:xK a0 a1 a2=some r):HasC Tryz.prog 249 [.int a0,.int a1,.int a2] (.int r):=by
 refine hM [.tmp 6] Tryz.func249 Tryz.ntmps249 k<|sR<|aT k2<|sQ<|sR<|am k k<|oB h λv1 hv1 h=>ae (aS (uP a0 v1 hv1) k (cJ k aO)) k<|ae (dI k) k<|am k k<|sP h (λq2 h=>aV 11 k q2<|aK k4<|ak k k<|pk k3<|an<|tn<|dO k k<|sR<|aT k2<|aE<|aC<|rtI h k2) λq2 h=>?_;refine aV 11 k q2<|am k k<|oB h λv3 hv3 h=>ae (aS (wU a2 0 1000 v3 hv3) k (cJ k (cJ k (cJ k aO)))) k<|ae (dI k) k<|pk k3<|an<|tn<|cN k h (λ_ h=>sR<|aT k2<|aE<|aC<|rtI h k2) λ_ h=>?_;refine aG<|tn<|sR<|aT k2<|sQ<|sR<|am k k<|am k k<|an<|tn<|aD<|oB h λy8 hy8 h=>cC (body:=(rI a0 a1 a2)) hy8 (λ(x1:(Int×Int))=>mN [(0,.int a0),(1,.int a1),(7,.int x1.1),(16,.int a2),(17,.int x1.2)] [] 0) (λr e t=>e= .exit 0∧Ent t (mN [(7,.int r)] [] 0)) (bP (bG k2) aQ k4) ?_ ?_
 ·intro x1 o h;exact sR<|cm k4<|an<|tn<|sQ<|cN k h (λ_ h=>aG<|tn<|sQ<|aD<|rg<|am k k<|am k k<|am k k<|oB h λv6 hv6 h=>ae (aS (aHp a0 a1 v6 hv6) k (cJ k (cJ k aO))) k<|ae (fP k k) k<|am k k<|cG h λq7 h=>ae (aFh k k q7) k<|aa k k<|an<|bB<|tn<|rg<|ae (bF k k) k<|am k k<|an<|tn<|sp h ⟨_,k,(bP (bG k2) aQ k4)⟩) λ_ h=>aY<|aB<|aB<|sp h ⟨_,k,k,(bP (bG k2) aQ k4)⟩
 ·rintro e t ⟨rfl,hent⟩;exact aN<|tn<|aI hent<|sR<|am k k<|aT k2<|aE<|rtI h k2
def tH (a0:Int) (a1:Int):Option Int:=
 (lX a0).bind λv1=>
 bif !v1 then
 (some (0))
 else
 ((xK a0 a1 (max (wr (a0 - 2)) 1)).bind λv3=>
 some (v3))
theorem aGs (a0:Int) (a1:Int) (r:Int) (h:tH a0 a1=some r):HasC Tryz.prog 234 [.int a0,.int a1] (.int r):=by
 exact hM [.tmp 4] Tryz.func234 Tryz.ntmps234 k<|sR<|aT k2<|sQ<|sR<|am k k<|oB h λv1 hv1 h=>ae (aS (uP a0 v1 hv1) k (cJ k aO)) k<|ae (dI k) k<|an<|tn<|cN k h (λ_ h=>sR<|aT k2<|aE<|aC<|rtI h k2) λ_ h=>aG<|tn<|sR<|am k k<|am k k<|am k k<|ae (wS k k) k<|ae (aXo k k) k<|oB h λv3 hv3 h=>ae (aS (aIw a0 a1 (max (wr (a0 - 2)) 1) v3 hv3) k (cJ k (cJ k (cJ k aO)))) k<|aT k2<|aE<|rtI h k2
def iP (a0:(List Int)) (a1:Int) (x1:Int):Option (Int ⊕ (Unit ⊕ Int)):=
 bif decide (x1<(a0.length:Int)) then
 ((cY a0 x1).bind λv2=>
 bif decide (a1=v2) then
 (some (.inr (.inr (x1))))
 else
 (some (.inl (wr (x1+1)))))
 else
 (some (.inr (.inl ())))
def qG (a0:(List Int)) (a1:Int):Option Int:=
 (Lp (iP a0 a1) 0).bind λy4=>
 Sum.elim (λy5=>
 some ((-1))
 )
 (λy6=>
 some y6
 )
 y4
theorem aDR (a0:(List Int)) (a1:Int) (r:Int) (h:qG a0 a1=some r):HasC Tryz.prog 251 [.list 1 (a0.map eI),.int a1] (.int r):=by
 refine hM [.tmp 4] Tryz.func251 Tryz.ntmps251 k<|sR<|aT k2<|sQ<|sR<|am k k<|ln k4<|am k k<|an<|tn<|aD<|oB h λy4 hy4 h=>cC (body:=(iP a0 a1)) hy4 (λ(x1:Int)=>mN [(0,.list 1 (a0.map eI)),(1,.int a1),(7,.int (a0.length:Int)),(8,.int x1)] [] 0) (λr e t=>Sum.elim (λa=>(λr e t=>e= .exit 0∧Ent t (mN [] [] 0)) a e t) (λb=>(λr e t=>e= .ret∧mW TT [.tmp 4] (.int r) .ret t) b e t) r) (bP (bG k2) aQ k4) ?_ ?_
 ·intro x1 o h;exact sR<|cm k4<|an<|tn<|sQ<|cN k h (λ_ h=>aG<|tn<|sQ<|aD<|sR<|am k k<|aT k2<|sR<|am k k<|am k k<|am k k<|oB h λv2 hv2 h=>ae (xl hv2 k) k<|lr k7<|cm k4<|an<|tn<|cN k h (λ_ h=>sR<|am k k<|aT k2<|aE<|bC<|aC<|aC<|sp h ⟨_,k,k,bD k k k (mY k)⟩) λ_ h=>aG<|bB<|tn<|rg<|ae (bF k k) k<|am k k<|an<|tn<|sp h ⟨_,k,(bP (bG k2) aQ k4)⟩) λ_ h=>aY<|aB<|aB<|sp h ⟨_,k,k,(bP aQ aQ k4)⟩
 ·intro e t hX;rcases y4 with y5|y6
  ·obtain ⟨rfl,hent⟩:=hX;exact aN<|tn<|aI hent<|sR<|aT k2<|aE<|rtI h k2
  ·obtain ⟨rfl,hent⟩:=hX;exact bC<|aC<|sp h hent
def iQ (a0:(List Int)) (a1:Int):Option Bool:=
 (qG a0 a1).bind λv1=>
 some (decide (0≤v1))
theorem aCI (a0:(List Int)) (a1:Int) (r:Bool) (h:iQ a0 a1=some r):HasC Tryz.prog 246 [.list 1 (a0.map eI),.int a1] (.bl r):=by
 exact hM [.tmp 4] Tryz.func246 Tryz.ntmps246 k<|sR<|aT k2<|sR<|am k k<|am k k<|oB h λv1 hv1 h=>ae (aS (aDR a0 a1 v1 hv1) k (cJ k (cJ k aO))) k<|cm k4<|aT k2<|aE<|gK h k2
def mM (a0:Int) (a1:(List Int)) (x1:((List Int)×Int)):Option (((List Int)×Int) ⊕ (List Int)):=
 bif decide (x1.2<a0) then
 ((iQ a1 x1.2).bind λv2=>
 bif !v2 then
 (bif decide (x1.1.length+[x1.2].length ≤4294967296) then
 (some (.inl ((x1.1++[x1.2]),wr (x1.2+1))))
 else none)
 else
 (some (.inl (x1.1,wr (x1.2+1)))))
 else
 (some (.inr x1.1))
def rJ (a0:Int) (a1:(List Int)):Option (List Int):=
 (Lp (mM a0 a1) ([],0)).bind λy5=>
 some (y5)
theorem aGH (a0:Int) (a1:(List Int)) (r:(List Int)) (h:rJ a0 a1=some r):HasC Tryz.prog 224 [.int a0,.list 1 (a1.map eI)] (.list 1 (r.map eI)):=by
 refine hM [.tmp 4] Tryz.func224 Tryz.ntmps224 k<|sR<|aT k2<|sR<|aT k2<|sQ<|sR<|am k k<|am k k<|an<|tn<|aD<|oB h λy5 hy5 h=>cC (body:=(mM a0 a1)) hy5 (λ(x1:((List Int)×Int))=>mN [(1,.list 1 (a1.map eI)),(5,.own 0 0 x1.1.length),(7,.int a0),(8,.int x1.2)] [(0,⟨1,x1.1.map (ow eI)⟩)] 1) (λr e t=>e= .exit 0∧Ent t (mN [(5,.own 0 0 r.length)] [(0,⟨1,r.map (ow eI)⟩)] 1)) (eY (σ:=sg []) (kT 1 k2 (gH ⟨_,k,⟨k,k,k,k⟩⟩ (bG k2))) (hX k k<|aQ) k) ?_ ?_
 ·intro x1 o h;exact sR<|cm k4<|an<|tn<|sQ<|cN k h (λ_ h=>aG<|tn<|sQ<|aD<|sR<|am k k<|aT k2<|sR<|am k k<|am k k<|oB h λv2 hv2 h=>ae (aS (aCI a1 x1.2 v2 hv2) k (cJ k (cJ k aO))) k<|ae (dI k) k<|an<|tn<|cN k h (λ_ h=>rg<|am k k<|am k k<|ae (wl k) k<|cG h λq4 h=>ae (qV aJ (l:=x1.1) (m:=[x1.2]) kH q4 k k k k k k k k k k k k) k<|aa k k<|an<|bB<|tn<|rg<|ae (bF k k) k<|am k k<|an<|tn<|sp h ⟨_,k,(gT [2] (bG k2) (bN k<|aQ) k4)⟩) λ_ h=>aG<|bB<|tn<|rg<|ae (bF k k) k<|am k k<|an<|tn<|sp h ⟨_,k,(bP (bG k2) (bN k<|aQ) k4)⟩) λ_ h=>aY<|aB<|aB<|sp h ⟨_,k,k,(bP (bG k2) (bN k<|aQ) k4)⟩
 ·rintro e t ⟨rfl,hent⟩;exact aN<|tn<|aI hent<|sR<|am k k<|aT k2<|aE<|sp h (bD k k k (fH (cW cA k k)))
def kC (a1:(List Int)) (x1:(Int×Int)):Option ((Int×Int) ⊕ (Int ⊕ Bool)):=
 bif decide (x1.2<(a1.length:Int)) then
 ((cY a1 x1.2).bind λv5=>
 (lH v5 0 4).bind λv6=>
 bif !v6 then
 (some (.inr (.inr (false))))
 else
 ((cY a1 x1.2).bind λv8=>
 some (.inl (wr (x1.1+v8),wr (x1.2+1)))))
 else
 (some (.inr (.inl x1.1)))
def zY (a0:Qv) (a1:(List Int)):Option Bool:=
 (xI a0).bind λv1=>
 bif !v1 then
 (some (false))
 else
 (bif !decide ((a1.length:Int)=a0.n) then
 (some (false))
 else
 ((Lp (kC a1) (0,0)).bind λy9=>
 Sum.elim (λy10=>
 some (decide (y10≤8))
 )
 (λy11=>
 some y11
 )
 y9))
theorem aKU (a0:Qv) (a1:(List Int)) (r:Bool) (h:zY a0 a1=some r):HasC Tryz.prog 87 [.agg (eQ a0),.list 1 (a1.map eI)] (.bl r):=by
 refine hM [.tmp 4] Tryz.func87 Tryz.ntmps87 k<|sR<|ae (wb k) k<|aT k2<|sQ<|sR<|lp k8<|oB h λv1 hv1 h=>ae (aS (aIv a0 v1 hv1) k (aL (eV k) aO)) k<|ae (dI k) k<|am k k<|sP h (λq2 h=>aV 10 k q2<|aK k4<|aK k4<|ak k k<|pk k3<|an<|tn<|dO k k<|sR<|aT k2<|aE<|aC<|gK h k2) λq2 h=>?_;refine aV 10 k q2<|am k k<|ln k4<|fp k8<|lp k8<|cm k4<|pk k3<|an<|tn<|cN k h (λ_ h=>sR<|aT k2<|aE<|aC<|gK h k2) λ_ h=>?_;refine aG<|tn<|sR<|aT k2<|sQ<|sR<|aT k2<|aD<|oB h λy9 hy9 h=>cC (body:=(kC a1)) hy9 (λ(x1:(Int×Int))=>mN [(1,.list 1 (a1.map eI)),(5,.int x1.1),(6,.int x1.2)] [] 0) (λr e t=>Sum.elim (λa=>(λr e t=>e= .exit 0∧Ent t (mN [(5,.int r)] [] 0)) a e t) (λb=>(λr e t=>e= .ret∧mW TT [.tmp 4] (.bl r) .ret t) b e t) r) (bP (bG k2) aQ k4) ?_ ?_
 ·intro x1 o h;exact sQ<|sR<|am k k<|am k k<|ln k4<|cm k4<|an<|tn<|cN k h (λ_ h=>aG<|tn<|sQ<|aD<|sQ<|sR<|am k k<|am k k<|oB h λv5 hv5 h=>ae (xl hv5 k) k<|lr k7<|oB h λv6 hv6 h=>ae (aS (qW v5 0 4 v6 hv6) k (cJ k (cJ k (cJ k aO)))) k<|ae (dI k) k<|an<|tn<|cN k h (λ_ h=>sR<|aT k2<|aE<|aC<|bC<|aC<|aC<|sp h ⟨_,k,k,bD k k k (lF k)⟩) λ_ h=>aG<|tn<|rg<|am k k<|am k k<|am k k<|oB h λv8 hv8 h=>ae (xl hv8 k) k<|lr k7<|ae (bF k k) k<|aa k k<|an<|bB<|tn<|rg<|am k k<|ae (bF k k) k<|aT k2<|sp h ⟨_,k,(bP (bG k2) aQ k4)⟩) λ_ h=>aY<|aB<|aB<|sp h ⟨_,k,k,(bP (bG k2) aQ k4)⟩
 ·intro e t hX;rcases y9 with y10|y11
  ·obtain ⟨rfl,hent⟩:=hX;exact aN<|tn<|aI hent<|sR<|am k k<|cm k4<|aT k2<|aE<|gK h k2
  ·obtain ⟨rfl,hent⟩:=hX;exact bC<|aC<|sp h hent
def xM (a0:Rp) (x1:Int):Option (Int ⊕ (Unit ⊕ Bool)):=
 bif decide (x1<(a0.maps.length:Int)) then
 ((cY a0.maps x1).bind λv7=>
 (kI a0.p v7).bind λv8=>
 bif !v8 then
 (some (.inr (.inr (false))))
 else
 ((cY a0.maps x1).bind λv10=>
 (cY a0.q.src x1).bind λv11=>
 (cY a0.dims v11).bind λv12=>
 bif !decide (v10.cols=v12) then
 (some (.inr (.inr (false))))
 else
 ((cY a0.maps x1).bind λv14=>
 (cY a0.q.tgt x1).bind λv15=>
 (cY a0.dims v15).bind λv16=>
 bif !decide (v14.rows=v16) then
 (some (.inr (.inr (false))))
 else
 (some (.inl (wr (x1+1)))))))
 else
 (some (.inr (.inl ())))
def jQ (a0:Rp):Option Bool:=
 (qF a0.p).bind λv1=>
 bif !v1 then
 (some (false))
 else
 ((zY a0.q a0.dims).bind λv3=>
 bif !v3 then
 (some (false))
 else
 (bif !decide ((a0.maps.length:Int)=(a0.q.src.length:Int)) then
 (some (false))
 else
 ((Lp (xM a0) 0).bind λy18=>
 Sum.elim (λy19=>
 some (true)
 )
 (λy20=>
 some y20
 )
 y18)))
theorem rK (a0:Rp) (r:Bool) (h:jQ a0=some r):HasC Tryz.prog 45 [.agg (eR a0)] (.bl r):=by
 refine hM [.tmp 2] Tryz.func45 Tryz.ntmps45 k<|sR<|ae (wb k) k<|aT k2<|sQ<|sR<|fp k8<|lp k8<|oB h λv1 hv1 h=>ae (aS (zX a0.p v1 hv1) k (cJ k aO)) k<|ae (dI k) k<|am k k<|sP h (λq2 h=>aV 8 k q2<|aK k4<|aK k4<|aK k4<|pk k3<|am k k<|aK k4<|aK k4<|aK k4<|aK k4<|pk k3<|an<|tn<|aI (t:=mN [(1,.ptr 0 0 0),(25,.bl true)] [(0,⟨6,[eR a0]⟩)] 1) (bP (bG k2) (bO k<|aQ) k4)<|dO k k<|sR<|aT k2<|aE<|aC<|gK h k2) λq2 h=>?_;refine aV 8 k q2<|fp k8<|lp k8<|fp k8<|lp k8<|oB h λv3 hv3 h=>ae (aS (aKU a0.q a0.dims v3 hv3) k (aL (eV k) (cJ k aO))) k<|ae (dI k) k<|pk k3<|am k k<|sP h (λq4 h=>aV 16 k q4<|aK k4<|aK k4<|aK k4<|aK k4<|pk k3<|an<|tn<|aI (t:=mN [(1,.ptr 0 0 0),(25,.bl true)] [(0,⟨6,[eR a0]⟩)] 1) (bP (bG k2) (bO k<|aQ) k4)<|dO k k<|sR<|aT k2<|aE<|aC<|gK h k2) λq4 h=>?_;refine aV 16 k q4<|fp k8<|lp k8<|ln k4<|fp k8<|fp k8<|lp k8<|ln k4<|cm k4<|pk k3<|an<|tn<|aI (t:=mN [(1,.ptr 0 0 0),(25,.bl (!decide ((a0.maps.length:Int)=(a0.q.src.length:Int))))] [(0,⟨6,[eR a0]⟩)] 1) (bP (bG k2) (bO k<|aQ) k4)<|cN k h (λ_ h=>sR<|aT k2<|aE<|aC<|gK h k2) λ_ h=>?_;refine aG<|tn<|sQ<|sR<|aT k2<|aD<|oB h λy18 hy18 h=>cC (body:=(xM a0)) hy18 (λ(x1:Int)=>mN [(1,.ptr 0 0 0),(3,.int x1)] [(0,⟨6,[eR a0]⟩)] 1) (λr e t=>Sum.elim (λa=>(λr e t=>e= .exit 0∧Ent t (mN [] [] 0)) a e t) (λb=>(λr e t=>e= .ret∧mW TT [.tmp 2] (.bl r) .ret t) b e t) r) (bP (bG k2) (bO k<|aQ) k4) ?_ ?_
 ·intro x1 o h;refine sQ<|sR<|am k k<|fp k8<|lp k8<|ln k4<|cm k4<|an<|tn<|cN k h (λ_ h=>?_) λ_ h=>aY<|aB<|aB<|sp h ⟨_,k,k,(bP aQ aQ k4)⟩;refine aG<|tn<|sQ<|aD<|sQ<|aP fB<|fp k8<|lp k8<|fp k8<|lp k8<|am k k<|oB h λv7 hv7 h=>ae (xl hv7 k) k<|lr k7<|oB h λv8 hv8 h=>ae (aS (xJ a0.p v7 v8 hv8) k (cJ k (aL (eV k) aO))) k<|ae (dI k) k<|am k k<|sP h (λq9 h=>?_) λq9 h=>?_
  ·refine aV 42 k q9<|aK k4<|aK k4<|aK k4<|aK k4<|aK k4<|aK k4<|aK k4<|aK k4<|ak k k<|pk k3<|am k k<|aK k4<|aK k4<|aK k4<|aK k4<|aK k4 ?_;exact aK k4<|aK k4<|aK k4<|ak k k<|pk k3<|an<|lL (by kernel_rfl)<|tn<|aI (t:=mN [(1,.ptr 0 0 0),(3,.int x1),(79,.bl true)] [(0,⟨6,[eR a0]⟩)] 1) (bP (bG k2) (bO k<|aQ) k4)<|dO k k<|sR<|aT k2<|aE<|bC<|aC<|aC<|sp h ⟨_,k,k,bD k k k (lF k)⟩
  ·refine aV 42 k q9<|fp k8<|lp k8<|am k k<|oB h λv10 hv10 h=>ae (xl hv10 k) k<|ae (dG aJ k k k k k k) k<|lr k7<|fp k8<|lp k8<|fp k8<|fp k8<|lp k8<|am k k<|oB h λv11 hv11 h=>ae (xl hv11 k) k<|lr k7<|oB h λv12 hv12 h=>ae (xl hv12 k) k<|lr k7<|cm k4<|pk k3<|am k k<|sP h (λq13 h=>?_) λq13 h=>aV 61 k q13<|fp k8<|lp k8<|am k k<|oB h λv14 hv14 h=>ae (xl hv14 k) k<|ae (dG aJ k k k k k k) k<|lr k7<|fp k8<|lp k8<|fp k8<|fp k8<|lp k8<|am k k<|oB h λv15 hv15 h=>ae (xl hv15 k) k<|lr k7<|oB h λv16 hv16 h=>ae (xl hv16 k) k<|lr k7<|cm k4<|pk k3<|an<|lL (by kernel_rfl)<|tn<|aI (t:=mN [(1,.ptr 0 0 0),(3,.int x1),(79,.bl (!decide (v14.rows=v16)))] [(0,⟨6,[eR a0]⟩)] 1) (bP (bG k2) (bO k<|aQ) k4)<|cN k h (λ_ h=>sR<|aT k2<|aE<|bC<|aC<|aC<|sp h ⟨_,k,k,bD k k k (lF k)⟩) λ_ h=>aG<|bB<|tn<|rg<|am k k<|ae (bF k k) k<|aT k2<|sp h ⟨_,k,(bP (bG k2) (bO k<|aQ) k4)⟩;refine aV 61 k q13<|aK k4<|aK k4<|aK k4<|aK k4<|aK k4<|aK k4<|aK k4<|aK k4<|ak k k<|pk k3<|an<|lL (by kernel_rfl)<|tn<|aI (t:=mN [(1,.ptr 0 0 0),(3,.int x1),(79,.bl true)] [(0,⟨6,[eR a0]⟩)] 1) (bP (bG k2) (bO k<|aQ) k4)<|dO k k<|sR<|aT k2<|aE ?_;exact bC<|aC<|aC<|sp h ⟨_,k,k,bD k k k (lF k)⟩
 ·intro e t hX;rcases y18 with y19|y20
  ·obtain ⟨rfl,hent⟩:=hX;exact aN<|tn<|aI hent<|sR<|aT k2<|aE<|gK h k2
  ·obtain ⟨rfl,hent⟩:=hX;exact bC<|aC<|sp h hent
def pH (a0:Qv) (a1:Qv):Option Bool:=
 bif decide (a0.n=a1.n) then
 ((aAn a0.src a1.src).bind λv2=>
 bif v2 then
 ((aAn a0.tgt a1.tgt).bind λv4=>
 some (v4))
 else
 (some (false)))
 else
 (some (false))
theorem aFX (a0:Qv) (a1:Qv) (r:Bool) (h:pH a0 a1=some r):HasC Tryz.prog 127 [.agg (eQ a0),.agg (eQ a1)] (.bl r):=by
 exact hM [.tmp 4] Tryz.func127 Tryz.ntmps127 k<|sR<|ae (wb k) k<|ae (wb k) k<|aT k2<|sR<|fp k8<|lp k8<|fp k8<|lp k8<|cm k4<|am k k<|sP h (λq1 h=>aV 10 k q1<|fp k8<|lp k8<|fp k8<|lp k8<|oB h λv2 hv2 h=>ae (aS (aFk a0.src a1.src v2 hv2) k (cJ k (cJ k aO))) k<|pk k3<|am k k<|sP h (λq3 h=>aV 17 k q3<|fp k8<|lp k8<|fp k8<|lp k8<|oB h λv4 hv4 h=>ae (aS (aFk a0.tgt a1.tgt v4 hv4) k (cJ k (cJ k aO))) k<|pk k3<|aT k2<|aE<|gK h k2) λq3 h=>aV 17 k q3<|aK k4<|aK k4<|ak k k<|pk k3<|aT k2<|aE<|gK h k2) λq1 h=>aV 10 k q1<|aK k4<|aK k4<|ak k k<|pk k3<|am k k<|aK k4<|aK k4<|ak k k<|pk k3<|aT k2<|aE<|gK h k2
def kD (a0:Mt) (a1:Mt) (x1:Int):Option (Int ⊕ (Unit ⊕ Bool)):=
 bif decide (x1<(a0.cells.length:Int)) then
 ((cY a0.cells x1).bind λv5=>
 (cY a1.cells x1).bind λv6=>
 bif !decide (v5=v6) then
 (some (.inr (.inr (false))))
 else
 (some (.inl (wr (x1+1)))))
 else
 (some (.inr (.inl ())))
def nU (a0:Mt) (a1:Mt):Option Bool:=
 bif !decide (a0.rows=a1.rows) then
 (some (false))
 else
 (bif !decide (a0.cols=a1.cols) then
 (some (false))
 else
 (bif !decide ((a0.cells.length:Int)=(a1.cells.length:Int)) then
 (some (false))
 else
 ((Lp (kD a0 a1) 0).bind λy8=>
 Sum.elim (λy9=>
 some (true)
 )
 (λy10=>
 some y10
 )
 y8)))
theorem aEi (a0:Mt) (a1:Mt) (r:Bool) (h:nU a0 a1=some r):HasC Tryz.prog 223 [.agg (eM a0),.agg (eM a1)] (.bl r):=by
 refine hM [.tmp 4] Tryz.func223 Tryz.ntmps223 k<|sR<|ae (wb k) k<|ae (wb k) k<|aT k2<|sQ<|sR<|fp k8<|lp k8<|fp k8<|lp k8<|cm k4<|am k k<|sP h (λq1 h=>aV 11 k q1<|aK k4<|aK k4<|ak k k<|pk k3<|am k k<|aK k4<|aK k4<|aK k4<|ak k k<|pk k3<|an<|tn<|aI (t:=mN [(2,.ptr 0 0 0),(3,.ptr 1 0 0),(26,.bl true)] [(0,⟨3,[eM a0]⟩),(1,⟨3,[eM a1]⟩)] 2) (bP (bG k2) (bO k<|bO k<|aQ) k4)<|dO k k<|sR<|aT k2<|aE<|aC<|gK h k2) λq1 h=>?_;refine aV 11 k q1<|fp k8<|lp k8<|fp k8<|lp k8<|cm k4<|pk k3<|am k k<|sP h (λq2 h=>aV 18 k q2<|aK k4<|aK k4<|aK k4<|ak k k<|pk k3<|an<|tn<|aI (t:=mN [(2,.ptr 0 0 0),(3,.ptr 1 0 0),(26,.bl true)] [(0,⟨3,[eM a0]⟩),(1,⟨3,[eM a1]⟩)] 2) (bP (bG k2) (bO k<|bO k<|aQ) k4)<|dO k k<|sR<|aT k2<|aE<|aC<|gK h k2) λq2 h=>?_;refine aV 18 k q2<|fp k8<|lp k8<|ln k4<|fp k8<|lp k8<|ln k4<|cm k4<|pk k3<|an<|tn<|aI (t:=mN [(2,.ptr 0 0 0),(3,.ptr 1 0 0),(26,.bl (!decide ((a0.cells.length:Int)=(a1.cells.length:Int))))] [(0,⟨3,[eM a0]⟩),(1,⟨3,[eM a1]⟩)] 2) (bP (bG k2) (bO k<|bO k<|aQ) k4)<|cN k h (λ_ h=>sR<|aT k2<|aE<|aC<|gK h k2) λ_ h=>?_;refine aG<|tn<|sQ<|sR<|aT k2<|aD<|oB h λy8 hy8 h=>cC (body:=(kD a0 a1)) hy8 (λ(x1:Int)=>mN [(2,.ptr 0 0 0),(3,.ptr 1 0 0),(5,.int x1)] [(0,⟨3,[eM a0]⟩),(1,⟨3,[eM a1]⟩)] 2) (λr e t=>Sum.elim (λa=>(λr e t=>e= .exit 0∧Ent t (mN [] [] 0)) a e t) (λb=>(λr e t=>e= .ret∧mW TT [.tmp 4] (.bl r) .ret t) b e t) r) (bP (bG k2) (bO k<|bO k<|aQ) k4) ?_ ?_
 ·intro x1 o h;exact sQ<|sR<|am k k<|fp k8<|lp k8<|ln k4<|cm k4<|an<|tn<|cN k h (λ_ h=>aG<|tn<|sQ<|aD<|sQ<|aP fB<|fp k8<|lp k8<|am k k<|oB h λv5 hv5 h=>ae (xl hv5 k) k<|lr k7<|fp k8<|lp k8<|am k k<|oB h λv6 hv6 h=>ae (xl hv6 k) k<|lr k7<|cm k4<|an<|lL (by kernel_rfl)<|tn<|cN k h (λ_ h=>sR<|aT k2<|aE<|bC<|aC<|aC<|sp h ⟨_,k,k,bD k k k (lF k)⟩) λ_ h=>aG<|bB<|tn<|rg<|am k k<|ae (bF k k) k<|aT k2<|sp h ⟨_,k,(bP (bG k2) (bO k<|bO k<|aQ) k4)⟩) λ_ h=>aY<|aB<|aB<|sp h ⟨_,k,k,(bP aQ aQ k4)⟩
 ·intro e t hX;rcases y8 with y9|y10
  ·obtain ⟨rfl,hent⟩:=hX;exact aN<|tn<|aI hent<|sR<|aT k2<|aE<|gK h k2
  ·obtain ⟨rfl,hent⟩:=hX;exact bC<|aC<|sp h hent
def zZ (a0:Rp) (a1:Rp):Option Bool:=
 (jQ a0).bind λv1=>
 bif v1 then
 ((jQ a1).bind λv3=>
 bif v3 then
 (bif decide (a0.p=a1.p) then
 ((pH a0.q a1.q).bind λv6=>
 some (v6))
 else
 (some (false)))
 else
 (some (false)))
 else
 (some (false))
theorem aGt (a0:Rp) (a1:Rp) (r:Bool) (h:zZ a0 a1=some r):HasC Tryz.prog 76 [.agg (eR a0),.agg (eR a1)] (.bl r):=by
 exact hM [.tmp 4] Tryz.func76 Tryz.ntmps76 k<|sR<|ae (wb k) k<|ae (wb k) k<|aT k2<|sR<|lp k8<|oB h λv1 hv1 h=>ae (aS (rK a0 v1 hv1) k (aL (eV k) aO)) k<|am k k<|sP h (λq2 h=>aV 7 k q2<|lp k8<|oB h λv3 hv3 h=>ae (aS (rK a1 v3 hv3) k (aL (eV k) aO)) k<|pk k3<|am k k<|sP h (λq4 h=>aV 11 k q4<|fp k8<|lp k8<|fp k8<|lp k8<|cm k4<|pk k3<|am k k<|sP h (λq5 h=>aV 18 k q5<|fp k8<|lp k8<|fp k8<|lp k8<|oB h λv6 hv6 h=>ae (aS (aFX a0.q a1.q v6 hv6) k (aL (eV k) (aL (eV k) aO))) k<|pk k3<|aT k2<|aE<|gK h k2) λq5 h=>aV 18 k q5<|aK k4<|aK k4<|ak k k<|pk k3<|aT k2<|aE<|gK h k2) λq4 h=>aV 11 k q4<|aK k4<|aK k4<|ak k k<|pk k3<|am k k<|aK k4<|aK k4<|ak k k<|pk k3<|aT k2<|aE<|gK h k2) λq2 h=>aV 7 k q2<|aK k4<|pk k3<|am k k<|aK k4<|aK k4<|ak k k<|pk k3<|am k k<|aK k4<|aK k4<|ak k k<|pk k3<|aT k2<|aE<|gK h k2
end
noncomputable section
set_option maxRecDepth 10000
set_option maxHeartbeats 4000000
def eH (a0:(List Int)) (a1:(Int→Option Bool)) (x1:Int):Option (Int ⊕ (Unit ⊕ Int)):=
 bif decide (x1<(a0.length:Int)) then
 ((cY a0 x1).bind λv2=>
 (a1 v2).bind λv3=>
 bif v3 then
 (some (.inr (.inr (x1))))
 else
 (some (.inl (wr (x1+1)))))
 else
 (some (.inr (.inl ())))
def fD (a0:(List Int)) (a1:(Int→Option Bool)):Option Int:=
 (Lp (eH a0 a1) 0).bind λy5=>
 Sum.elim (λy6=>
 some ((-1))
 )
 (λy7=>
 some y7
 )
 y5
theorem tI (a0:(List Int)) (a1:(Int→Option Bool)) {f1:FuncId} {c1:List AV} (hc1:c1.all fG=true) (hf1: ∀ b0 r,a1 b0=some r→HasC Tryz.prog f1 ([.int b0]++c1) (.bl r)) (r:Int) (h:fD a0 a1=some r):HasC Tryz.prog 133 [.list 1 (a0.map eI),.fn f1 c1] (.int r):=by
 refine aJY aJ (rvs:=[.tmp 4]) (ns:=nmA) Tryz.func133 k k Tryz.ntmps133 k k (aJc k (aJc hc1 aTz))<|sR<|aT k2<|sQ<|sR<|am k k<|ln k4<|am k k<|an<|tn<|aD<|oB h λy5 hy5 h=>cC (body:=(eH a0 a1)) hy5 (λ(x1:Int)=>mN [(0,.list 1 (a0.map eI)),(1,.fn f1 c1),(7,.int (a0.length:Int)),(8,.int x1)] [] 0) (λr e t=>Sum.elim (λa=>(λr e t=>e= .exit 0∧Ent t (mN [] [] 0)) a e t) (λb=>(λr e t=>e= .ret∧mW TT [.tmp 4] (.int r) .ret t) b e t) r) (bP (kT 1 k2 (gH ⟨_,k,⟨k,aMB _ hc1⟩⟩ (bG k2))) aQ k4) ?_ ?_
 ·intro x1 o h;exact sR<|cm k4<|an<|tn<|sQ<|cN k h (λ_ h=>aG<|tn<|sQ<|aD<|sR<|am k k<|aT k2<|sR<|am k k<|am k k<|am k k<|oB h λv2 hv2 h=>ae (xl hv2 k) k<|lr k7<|oB h λv3 hv3 h=>ae (aVl hc1 (hf1 v2 v3 hv3) k k (cJ k aO)) k<|an<|tn<|cN k h (λ_ h=>sR<|am k k<|aT k2<|aE<|bC<|aC<|aC<|sp h ⟨_,k,k,bD k k k (mY k)⟩) λ_ h=>aG<|bB<|tn<|rg<|ae (bF k k) k<|am k k<|an<|tn<|sp h ⟨_,k,(bP (kT 1 k2 (gH ⟨_,k,⟨k,aMB _ hc1⟩⟩ (bG k2))) aQ k4)⟩) λ_ h=>aY<|aB<|aB<|sp h ⟨_,k,k,(bP aQ aQ k4)⟩
 ·intro e t hX;rcases y5 with y6|y7
  ·obtain ⟨rfl,hent⟩:=hX;exact aN<|tn<|aI hent<|sR<|aT k2<|aE<|rtI h k2
  ·obtain ⟨rfl,hent⟩:=hX;exact bC<|aC<|sp h hent
def jI (a0:(List Int)) (a1:(Int→Option Bool)):Option Bool:=
 (fD a0 a1).bind λv1=>
 some (decide (0≤v1))
theorem aAf (a0:(List Int)) (a1:(Int→Option Bool)) {f1:FuncId} {c1:List AV} (hc1:c1.all fG=true) (hf1: ∀ b0 r,a1 b0=some r→HasC Tryz.prog f1 ([.int b0]++c1) (.bl r)) (r:Bool) (h:jI a0 a1=some r):HasC Tryz.prog 79 [.list 1 (a0.map eI),.fn f1 c1] (.bl r):=by
 exact aJY aJ (rvs:=[.tmp 4]) (ns:=nmA) Tryz.func79 k k Tryz.ntmps79 k k (aJc k (aJc hc1 aTz))<|sR<|aT k2<|sR<|am k k<|am k k<|oB h λv1 hv1 h=>ae (aS (tI a0 a1 hc1 hf1 v1 hv1) k (cJ k (aL (aWv hc1) aO))) k<|cm k4<|aT k2<|aE<|gK h k2
def mA (a0:Int) (a1:Int) (a2:Int):Option Bool:=
 (oY a0 a1 a2).bind λv1=>
 some (!v1)
theorem aGI (a0:Int) (a1:Int) (a2:Int) (r:Bool) (h:mA a0 a1 a2=some r):HasC Tryz.prog 80 [.int a0,.ref (eI a1),.ref (eI a2)] (.bl r):=by
 exact hM [.tmp 4] Tryz.func80 Tryz.ntmps80 k<|sR<|aT k2<|sR<|am k k<|lr k7<|lr k7<|oB h λv1 hv1 h=>ae (aS (wU a0 a1 a2 v1 hv1) k (cJ k (cJ k (cJ k aO)))) k<|ae (dI k) k<|aT k2<|aE<|gK h k2
def jJ (a0:(List Int)) (a1:Int) (a2:Int):Option Bool:=
 (jI a0 (λb0=>mA b0 a1 a2)).bind λv1=>
 some (!v1)
theorem vD (a0:(List Int)) (a1:Int) (a2:Int) (r:Bool) (h:jJ a0 a1 a2=some r):HasC Tryz.prog 37 [.list 1 (a0.map eI),.int a1,.int a2] (.bl r):=by
 exact hM [.tmp 6] Tryz.func37 Tryz.ntmps37 k<|sR<|ae (wb k) k<|ae (wb k) k<|aT k2<|sR<|am k k<|ae (aMw (vs:=[.ptr 0 0 0,.ptr 1 0 0]) k (by simp)) k<|oB h λv1 hv1 h=>ae (aS (aAf a0 (λb0=>mA b0 a1 a2) k (λb0 r h=>aGI b0 a1 a2 r h) v1 hv1) k (cJ k (aL (aWa (aRX (aTp k k (bT (eU k) aCq)) (aRX (aTp k k (bT (eU k) aCq)) aRW))) aO))) k<|ae (dI k) k<|aT k2<|aE<|gK h k2
def xN (a0:Int) (a1:(List Int)):Option Bool:=
 (lX a0).bind λv1=>
 bif v1 then
 (bif decide ((a1.length:Int)≤64) then
 ((jJ a1 0 (wr (a0 - 1))).bind λv4=>
 some (v4))
 else
 (some (false)))
 else
 (some (false))
theorem aIx (a0:Int) (a1:(List Int)) (r:Bool) (h:xN a0 a1=some r):HasC Tryz.prog 145 [.int a0,.list 1 (a1.map eI)] (.bl r):=by
 exact hM [.tmp 4] Tryz.func145 Tryz.ntmps145 k<|sR<|aT k2<|sR<|am k k<|oB h λv1 hv1 h=>ae (aS (uP a0 v1 hv1) k (cJ k aO)) k<|am k k<|sP h (λq2 h=>aV 7 k q2<|am k k<|ln k4<|cm k4<|pk k3<|am k k<|sP h (λq3 h=>aV 12 k q3<|am k k<|am k k<|ae (wS k k) k<|oB h λv4 hv4 h=>ae (aS (vD a1 0 (wr (a0 - 1)) v4 hv4) k (cJ k (cJ k (cJ k aO)))) k<|pk k3<|aT k2<|aE<|gK h k2) λq3 h=>aV 12 k q3<|aK k4<|aK k4<|pk k3<|aT k2<|aE<|gK h k2) λq2 h=>aV 7 k q2<|aK k4<|ak k k<|pk k3<|am k k<|aK k4<|aK k4<|pk k3<|aT k2<|aE<|gK h k2
def xO (a0:Int) (a1:Mt):Option Bool:=
 (oY a1.rows 0 8).bind λv1=>
 bif v1 then
 ((oY a1.cols 0 8).bind λv3=>
 bif v3 then
 (bif decide ((a1.cells.length:Int)=wr (a1.rows*a1.cols)) then
 ((xN a0 a1.cells).bind λv6=>
 some (v6))
 else
 (some (false)))
 else
 (some (false)))
 else
 (some (false))
theorem aIy (a0:Int) (a1:Mt) (r:Bool) (h:xO a0 a1=some r):HasC Tryz.prog 102 [.int a0,.agg (eM a1)] (.bl r):=by
 exact hM [.tmp 4] Tryz.func102 Tryz.ntmps102 k<|sR<|ae (wb k) k<|aT k2<|sR<|fp k8<|lp k8<|oB h λv1 hv1 h=>ae (aS (wU a1.rows 0 8 v1 hv1) k (cJ k (cJ k (cJ k aO)))) k<|am k k<|sP h (λq2 h=>aV 8 k q2<|fp k8<|lp k8<|oB h λv3 hv3 h=>ae (aS (wU a1.cols 0 8 v3 hv3) k (cJ k (cJ k (cJ k aO)))) k<|pk k3<|am k k<|sP h (λq4 h=>aV 13 k q4<|fp k8<|lp k8<|ln k4<|fp k8<|lp k8<|fp k8<|lp k8<|ae (fP k k) k<|cm k4<|pk k3<|am k k<|sP h (λq5 h=>aV 24 k q5<|am k k<|fp k8<|lp k8<|oB h λv6 hv6 h=>ae (aS (aIx a0 a1.cells v6 hv6) k (cJ k (cJ k aO))) k<|pk k3<|aT k2<|aE<|gK h k2) λq5 h=>aV 24 k q5<|aK k4<|aK k4<|pk k3<|aT k2<|aE<|gK h k2) λq4 h=>aV 13 k q4<|aK k4<|aK k4<|aK k4<|aK k4<|ak k k<|pk k3<|am k k<|aK k4<|aK k4<|pk k3<|aT k2<|aE<|gK h k2) λq2 h=>aV 8 k q2<|aK k4<|ak k k<|pk k3<|am k k<|aK k4<|aK k4<|aK k4<|aK k4<|ak k k<|pk k3<|am k k<|aK k4<|aK k4<|pk k3<|aT k2<|aE<|gK h k2
def xP (a0:Qv):Option Bool:=
 (oY a0.n 1 5).bind λv1=>
 bif v1 then
 (bif decide ((a0.src.length:Int)=(a0.tgt.length:Int)) then
 (bif decide ((a0.src.length:Int)≤6) then
 ((jJ a0.src 0 (wr (a0.n - 1))).bind λv5=>
 bif v5 then
 ((jJ a0.tgt 0 (wr (a0.n - 1))).bind λv7=>
 some (v7))
 else
 (some (false)))
 else
 (some (false)))
 else
 (some (false)))
 else
 (some (false))
theorem aIz (a0:Qv) (r:Bool) (h:xP a0=some r):HasC Tryz.prog 144 [.agg (eQ a0)] (.bl r):=by
 refine hM [.tmp 2] Tryz.func144 Tryz.ntmps144 k<|sR<|ae (wb k) k<|aT k2<|sR<|fp k8<|lp k8<|oB h λv1 hv1 h=>ae (aS (wU a0.n 1 5 v1 hv1) k (cJ k (cJ k (cJ k aO)))) k<|am k k<|sP h (λq2 h=>aV 6 k q2<|fp k8<|lp k8<|ln k4<|fp k8<|lp k8<|ln k4<|cm k4<|pk k3<|am k k<|sP h (λq3 h=>aV 15 k q3<|fp k8<|lp k8<|ln k4<|cm k4<|pk k3<|am k k<|sP h (λq4 h=>aV 21 k q4<|fp k8<|lp k8<|fp k8<|lp k8<|ae (wS k k) k<|oB h λv5 hv5 h=>ae (aS (vD a0.src 0 (wr (a0.n - 1)) v5 hv5) k (cJ k (cJ k (cJ k aO)))) k<|pk k3<|am k k<|sP h (λq6 h=>aV 29 k q6<|fp k8<|lp k8<|fp k8<|lp k8<|ae (wS k k) k<|oB h λv7 hv7 h=>ae (aS (vD a0.tgt 0 (wr (a0.n - 1)) v7 hv7) k (cJ k (cJ k (cJ k aO)))) k<|pk k3<|aT k2<|aE<|gK h k2) λq6 h=>aV 29 k q6<|aK k4<|aK k4<|aK k4<|pk k3<|aT k2<|aE<|gK h k2) λq4 h=>aV 21 k q4<|aK k4<|aK k4<|aK k4<|pk k3<|am k k<|aK k4<|aK k4<|aK k4<|pk k3<|aT k2<|aE<|gK h k2) λq3 h=>aV 15 k q3<|aK k4<|aK k4<|pk k3<|am k k<|aK k4<|aK k4<|aK k4<|pk k3<|am k k<|aK k4<|aK k4<|aK k4<|pk k3<|aT k2<|aE<|gK h k2) λq2 h=>?_;refine aV 6 k q2<|aK k4<|aK k4<|aK k4<|ak k k<|pk k3<|am k k<|aK k4<|aK k4<|pk k3<|am k k<|aK k4<|aK k4<|aK k4<|pk k3<|am k k<|aK k4<|aK k4<|aK k4 ?_;exact pk k3<|aT k2<|aE<|gK h k2
def aAA (a0:Qv) (a1:(List Int)):Option Bool:=
 (xP a0).bind λv1=>
 bif v1 then
 (bif decide ((a1.length:Int)=a0.n) then
 ((jJ a1 0 4).bind λv4=>
 bif v4 then
 ((nL a1).bind λv6=>
 some (decide (v6≤8)))
 else
 (some (false)))
 else
 (some (false)))
 else
 (some (false))
theorem aKV (a0:Qv) (a1:(List Int)) (r:Bool) (h:aAA a0 a1=some r):HasC Tryz.prog 101 [.agg (eQ a0),.list 1 (a1.map eI)] (.bl r):=by
 exact hM [.tmp 4] Tryz.func101 Tryz.ntmps101 k<|sR<|ae (wb k) k<|aT k2<|sR<|lp k8<|oB h λv1 hv1 h=>ae (aS (aIz a0 v1 hv1) k (aL (eV k) aO)) k<|am k k<|sP h (λq2 h=>aV 7 k q2<|am k k<|ln k4<|fp k8<|lp k8<|cm k4<|pk k3<|am k k<|sP h (λq3 h=>aV 14 k q3<|am k k<|oB h λv4 hv4 h=>ae (aS (vD a1 0 4 v4 hv4) k (cJ k (cJ k (cJ k aO)))) k<|pk k3<|am k k<|sP h (λq5 h=>aV 18 k q5<|am k k<|oB h λv6 hv6 h=>ae (aS (aBh a1 v6 hv6) k (cJ k aO)) k<|cm k4<|pk k3<|aT k2<|aE<|gK h k2) λq5 h=>aV 18 k q5<|aK k4<|ak k k<|pk k3<|aT k2<|aE<|gK h k2) λq3 h=>aV 14 k q3<|aK k4<|pk k3<|am k k<|aK k4<|ak k k<|pk k3<|aT k2<|aE<|gK h k2) λq2 h=>aV 7 k q2<|aK k4<|aK k4<|ak k k<|pk k3<|am k k<|aK k4<|pk k3<|am k k<|aK k4<|ak k k<|pk k3<|aT k2<|aE<|gK h k2
def xQ (a0:Rp) (x1:Int):Option (Int ⊕ (Unit ⊕ Bool)):=
 bif decide (x1<(a0.maps.length:Int)) then
 ((cY a0.maps x1).bind λv7=>
 (xO a0.p v7).bind λv8=>
 bif !v8 then
 (some (.inr (.inr (false))))
 else
 ((cY a0.q.src x1).bind λv10=>
 (cY a0.dims v10).bind λv11=>
 bif !decide (v7.cols=v11) then
 (some (.inr (.inr (false))))
 else
 ((cY a0.q.tgt x1).bind λv13=>
 (cY a0.dims v13).bind λv14=>
 bif !decide (v7.rows=v14) then
 (some (.inr (.inr (false))))
 else
 (some (.inl (wr (x1+1)))))))
 else
 (some (.inr (.inl ())))
def aBj (a0:Rp):Option Bool:=
 (lX a0.p).bind λv1=>
 bif !v1 then
 (some (false))
 else
 ((aAA a0.q a0.dims).bind λv3=>
 bif !v3 then
 (some (false))
 else
 (bif !decide ((a0.maps.length:Int)=(a0.q.src.length:Int)) then
 (some (false))
 else
 ((Lp (xQ a0) 0).bind λy16=>
 Sum.elim (λy17=>
 some (true)
 )
 (λy18=>
 some y18
 )
 y16)))
theorem aNM (a0:Rp) (r:Bool) (h:aBj a0=some r):HasC Tryz.prog 51 [.agg (eR a0)] (.bl r):=by
 refine hM [.tmp 2] Tryz.func51 Tryz.ntmps51 k<|sR<|ae (wb k) k<|aT k2<|sQ<|sR<|fp k8<|lp k8<|oB h λv1 hv1 h=>ae (aS (uP a0.p v1 hv1) k (cJ k aO)) k<|ae (dI k) k<|am k k<|sP h (λq2 h=>aV 9 k q2<|aK k4<|aK k4<|aK k4<|pk k3<|am k k<|aK k4<|aK k4<|aK k4<|aK k4<|pk k3<|an<|tn<|aI (t:=mN [(1,.ptr 0 0 0),(26,.bl true)] [(0,⟨6,[eR a0]⟩)] 1) (bP (bG k2) (bO k<|aQ) k4)<|dO k k<|sR<|aT k2<|aE<|aC<|gK h k2) λq2 h=>?_;refine aV 9 k q2<|fp k8<|lp k8<|fp k8<|lp k8<|oB h λv3 hv3 h=>ae (aS (aKV a0.q a0.dims v3 hv3) k (aL (eV k) (cJ k aO))) k<|ae (dI k) k<|pk k3<|am k k<|sP h (λq4 h=>aV 17 k q4<|aK k4<|aK k4<|aK k4<|aK k4<|pk k3<|an<|tn<|aI (t:=mN [(1,.ptr 0 0 0),(26,.bl true)] [(0,⟨6,[eR a0]⟩)] 1) (bP (bG k2) (bO k<|aQ) k4)<|dO k k<|sR<|aT k2<|aE<|aC<|gK h k2) λq4 h=>?_;refine aV 17 k q4<|fp k8<|lp k8<|ln k4<|fp k8<|fp k8<|lp k8<|ln k4<|cm k4<|pk k3<|an<|tn<|aI (t:=mN [(1,.ptr 0 0 0),(26,.bl (!decide ((a0.maps.length:Int)=(a0.q.src.length:Int))))] [(0,⟨6,[eR a0]⟩)] 1) (bP (bG k2) (bO k<|aQ) k4)<|cN k h (λ_ h=>sR<|aT k2<|aE<|aC<|gK h k2) λ_ h=>?_;refine aG<|tn<|sQ<|sR<|fp k8<|lp k8<|ln k4<|am k k<|an<|tn<|aD<|oB h λy16 hy16 h=>cC (body:=(xQ a0)) hy16 (λ(x1:Int)=>mN [(1,.ptr 0 0 0),(28,.list 3 (a0.maps.map eM)),(29,.int (a0.maps.length:Int)),(30,.int x1)] [(0,⟨6,[eR a0]⟩)] 1) (λr e t=>Sum.elim (λa=>(λr e t=>e= .exit 0∧Ent t (mN [] [] 0)) a e t) (λb=>(λr e t=>e= .ret∧mW TT [.tmp 2] (.bl r) .ret t) b e t) r) (bP (bG k2) (bO k<|aQ) k4) ?_ ?_
 ·intro x1 o h;refine sR<|cm k4<|an<|tn<|sQ<|cN k h (λ_ h=>?_) λ_ h=>aY<|aB<|aB<|sp h ⟨_,k,k,(bP aQ aQ k4)⟩;refine aG<|tn<|sQ<|aD<|sR<|am k k<|oB h λv7 hv7 h=>ae (xl hv7 k) k<|lr k7<|ae (bX aJ k k) k<|aa k k<|ae (ws k) k<|an<|tn<|sQ<|aP fB<|fp k8<|lp k8<|lp k8<|oB h λv8 hv8 h=>ae (aS (aIy a0.p v7 v8 hv8) k (cJ k (aL (eV k) aO))) k<|ae (dI k) k<|am k k<|sP h (λq9 h=>?_) λq9 h=>?_
  ·refine aV 40 k q9<|aK k4<|aK k4<|aK k4<|aK k4<|aK k4<|aK k4<|ak k k<|pk k3<|am k k<|aK k4<|aK k4<|aK k4<|aK k4<|aK k4<|aK k4<|ak k k<|pk k3 ?_;exact an<|lL (by kernel_rfl)<|tn<|aI (t:=mN [(1,.ptr 0 0 0),(28,.list 3 (a0.maps.map eM)),(29,.int (a0.maps.length:Int)),(30,.int x1),(69,.bl true)] [(0,⟨6,[eR a0]⟩)] 2) (bP (bG k2) (bO k<|aQ) k4)<|dO k k<|sR<|aT k2<|aE<|bC<|aC<|aC<|sp h ⟨_,k,k,bD k k k (lF k)⟩
  ·exact aV 40 k q9<|fp k8<|lp k8<|fp k8<|lp k8<|fp k8<|fp k8<|lp k8<|am k k<|oB h λv10 hv10 h=>ae (xl hv10 k) k<|lr k7<|oB h λv11 hv11 h=>ae (xl hv11 k) k<|lr k7<|cm k4<|pk k3<|am k k<|sP h (λq12 h=>aV 55 k q12<|aK k4<|aK k4<|aK k4<|aK k4<|aK k4<|aK k4<|ak k k<|pk k3<|an<|lL (by kernel_rfl)<|tn<|aI (t:=mN [(1,.ptr 0 0 0),(28,.list 3 (a0.maps.map eM)),(29,.int (a0.maps.length:Int)),(30,.int x1),(69,.bl true)] [(0,⟨6,[eR a0]⟩)] 2) (bP (bG k2) (bO k<|aQ) k4)<|dO k k<|sR<|aT k2<|aE<|bC<|aC<|aC<|sp h ⟨_,k,k,bD k k k (lF k)⟩) λq12 h=>aV 55 k q12<|fp k8<|lp k8<|fp k8<|lp k8<|fp k8<|fp k8<|lp k8<|am k k<|oB h λv13 hv13 h=>ae (xl hv13 k) k<|lr k7<|oB h λv14 hv14 h=>ae (xl hv14 k) k<|lr k7<|cm k4<|pk k3<|an<|lL (by kernel_rfl)<|tn<|aI (t:=mN [(1,.ptr 0 0 0),(28,.list 3 (a0.maps.map eM)),(29,.int (a0.maps.length:Int)),(30,.int x1),(69,.bl (!decide (v7.rows=v14)))] [(0,⟨6,[eR a0]⟩)] 2) (bP (bG k2) (bO k<|aQ) k4)<|cN k h (λ_ h=>sR<|aT k2<|aE<|bC<|aC<|aC<|sp h ⟨_,k,k,bD k k k (lF k)⟩) λ_ h=>aG<|bB<|tn<|rg<|ae (bF k k) k<|am k k<|an<|tn<|sp h ⟨_,k,(bP (bG k2) (bO k<|aQ) k4)⟩
 ·intro e t hX;rcases y16 with y17|y18
  ·obtain ⟨rfl,hent⟩:=hX;exact aN<|tn<|aI hent<|sR<|aT k2<|aE<|gK h k2
  ·obtain ⟨rfl,hent⟩:=hX;exact bC<|aC<|sp h hent
def gQ (a0:Mt):Option Mt:=
 (pG a0.cells).bind λv1=>
 some ((⟨a0.rows,a0.cols,v1⟩:Mt))
theorem wM (a0:Mt) (r:Mt) (h:gQ a0=some r):HasC Tryz.prog 167 [.agg (eM a0)] (.agg (eM r)):=by
 exact hM [.cell 2 91] Tryz.func167 Tryz.ntmps167 k<|sR<|ae (wb k) k<|ae (bX aJ k k) k<|an<|tn<|sR<|fp k8<|lp k8<|oB h λv1 hv1 h=>ae (cL cA (aDv a0.cells v1 hv1) k3 (cJ k aO)) k<|fp k8<|ae (ws k) k<|an<|tn<|sR<|lp k8<|ae (ws k) k<|an<|tn<|aE<|sp h (bD k k k (iJ (aU (k) (aU (k) (aU (cW cA k k) fA)))))
def xR (a0:Int) (a2:Mt) (v1:Mt) (v3:(List Int)) (x1:((List Int)×Int)) (x2:((List Int)×Int)):Option (((List Int)×Int) ⊕ (List Int)):=
 bif decide (x2.2<(v3.length:Int)) then
 ((cY v3 x2.2).bind λv5=>
 (eK (⟨v1.rows,v1.cols,x2.1⟩:Mt) x1.2).bind λv6=>
 (aKP a2 x2.2).bind λv7=>
 (hU a0 x2.1 (0+(wr (x1.2*v1.cols)).toNat) ((wr ((wr (x1.2+1))*v1.cols)).toNat - (wr (x1.2*v1.cols)).toNat) v5 v7).bind λv8=>
 bif decide (v8.length=x2.1.length) then
 (some (.inl (v8,wr (x2.2+1))))
 else none)
 else
 (some (.inr x2.1))
def xS (a0:Int) (a1:Mt) (a2:Mt) (v1:Mt) (x1:((List Int)×Int)):Option (((List Int)×Int) ⊕ (List Int)):=
 bif decide (x1.2<a1.rows) then
 ((aKP a1 x1.2).bind λv3=>
 (Lp (xR a0 a2 v1 v3 x1) (x1.1,0)).bind λy10=>
 some (.inl (y10,wr (x1.2+1))))
 else
 (some (.inr x1.1))
def nW (a0:Int) (a1:Mt) (a2:Mt):Option Mt:=
 (lI a1.rows a2.cols).bind λv1=>
 (Lp (xS a0 a1 a2 v1) (v1.cells,0)).bind λy11=>
 some ((⟨v1.rows,v1.cols,y11⟩:Mt))
theorem aAB (a0:Int) (a1:Mt) (a2:Mt) (r:Mt) (h:nW a0 a1 a2=some r):HasC Tryz.prog 198 [.int a0,.agg (eM a1),.agg (eM a2)] (.agg (eM r)):=by
 refine hM [.cell 6 91] Tryz.func198 Tryz.ntmps198 k<|sR<|ae (wb k) k<|ae (wb k) k<|ae (bX aJ k k) k<|an<|tn<|sR<|fp k8<|lp k8<|fp k8<|lp k8<|oB h λv1 hv1 h=>ae (cM (uQ a1.rows a2.cols v1 hv1) k3 (cJ k (cJ k aO))) k<|ae (bX aJ k k) k<|ae (ws k) k<|an<|tn<|sQ<|sR<|fp k8<|lp k8<|am k k<|an<|tn<|aD<|oB h λy11 hy11 h=>cC (body:=(xS a0 a1 a2 v1)) hy11 (λ(x1:((List Int)×Int))=>mN [(0,.int a0),(4,.ptr 0 0 0),(5,.ptr 1 0 0),(6,.ptr 2 0 0),(7,.ptr 3 0 0),(17,.int a1.rows),(18,.int x1.2)] [(0,⟨3,[eM a1]⟩),(1,⟨3,[eM a2]⟩),(2,⟨3,[gD]⟩),(3,⟨3,[[.int v1.rows,.int v1.cols,.own 4 0 x1.1.length]]⟩),(4,⟨1,x1.1.map (ow eI)⟩)] 5) (λr e t=>e= .exit 0∧Ent t (mN [(6,.ptr 0 0 0),(7,.ptr 1 0 0)] [(0,⟨3,[gD]⟩),(1,⟨3,[[.int v1.rows,.int v1.cols,.own 2 0 r.length]]⟩),(2,⟨1,r.map (ow eI)⟩)] 3)) (gT [0,1,2,4,3] (bG k2) (bO k<|bO k<|bO k<|eJ k<|bN k<|aQ) k4) ?_ ?_
 ·intro x1 o h;refine sR<|cm k4<|an<|tn<|sQ<|cN k h (λ_ h=>?_) λ_ h=>aY<|aB<|aB<|sp h ⟨_,k,k,(gT [2,3,4] (bG k2) (bO k<|eJ k<|bN k<|aQ) k4)⟩;refine aG<|tn<|sQ<|aD<|sR<|am k k<|aT k2<|sR<|lp k8<|am k k<|oB h λv3 hv3 h=>ae (aOj (aTu a1 x1.2 v3 hv3) k k k) k<|ln k4<|am k k<|an<|tn<|aD<|oB h λy10 hy10 h=>cC (body:=(xR a0 a2 v1 v3 x1)) hy10 (λ(x2:((List Int)×Int))=>mN [(0,.int a0),(4,.ptr 0 0 0),(5,.ptr 1 0 0),(6,.ptr 2 0 0),(7,.ptr 3 0 0),(8,.int x1.2),(17,.int a1.rows),(18,.int x1.2),(23,.list 1 (v3.map eI)),(24,.int (v3.length:Int)),(25,.int x2.2)] [(0,⟨3,[eM a1]⟩),(1,⟨3,[eM a2]⟩),(2,⟨3,[gD]⟩),(3,⟨3,[[.int v1.rows,.int v1.cols,.own 4 0 x2.1.length]]⟩),(4,⟨1,x2.1.map (ow eI)⟩)] 5) (λr e t=>e= .exit 2∧Ent t (mN [(0,.int a0),(4,.ptr 0 0 0),(5,.ptr 1 0 0),(6,.ptr 2 0 0),(7,.ptr 3 0 0),(17,.int a1.rows),(18,.int x1.2)] [(0,⟨3,[eM a1]⟩),(1,⟨3,[eM a2]⟩),(2,⟨3,[gD]⟩),(3,⟨3,[[.int v1.rows,.int v1.cols,.own 4 0 r.length]]⟩),(4,⟨1,r.map (ow eI)⟩)] 5)) (bP (bG k2) (bO k<|bO k<|bO k<|eJ k<|bN k<|aQ) k4) ?_ ?_
  ·intro x2 o h;refine sR<|cm k4<|an<|tn<|sQ<|cN k h (λ_ h=>?_) λ_ h=>aY<|aB<|aB<|sp h ⟨_,k,k,(bP (bG k2) (bO k<|bO k<|bO k<|eJ k<|bN k<|aQ) k4)⟩;refine aG<|tn<|sQ<|aD<|sR<|am k k<|oB h λv5 hv5 h=>ae (xl hv5 k) k<|lr k7<|aa k k<|aT k2<|aP fB<|am k k<|lp k8<|am k k<|oB h λv6 hv6 h=>ae (AEff.pureE (gP (σ:=sg [(0,4)]) (σ':=sg [(4,0)]) (touch:=[4]) (news:=[]) (hl2:=[(4,⟨1,x2.1.map (ow eI)⟩)]) (n':=5) (r2:= .own 4 (0+(wr (x1.2*v1.cols)).toNat) ((wr ((wr (x1.2+1))*v1.cols)).toNat - (wr (x1.2*v1.cols)).toNat)) (gE (⟨v1.rows,v1.cols,x2.1⟩:Mt) x1.2 v6 hv6) k k ⟨_,_,k,⟨_,_,k,k,⟨_,_,k,k,⟨_,_,k,⟨k,k,k,k⟩,k⟩⟩⟩,⟨_,_,k,k,k⟩⟩ ⟨⟨_,k,k,.inl ⟨k,cA.plainO _⟩⟩,k,aQ⟩ k k k ⟨⟨_,k,k,.inl ⟨k,cA.plainO _⟩⟩,k,aQ⟩ k ⟨k,k,(by simp only [aH,lA,lT,lR,lC,lN]),k⟩ k ⟨k,cA.tame _ _,aQ⟩ k k) ⟨k,k,aQ⟩) k<|am k k<|lp k8<|am k k<|oB h λv7 hv7 h=>ae (aOj (aTu a2 x2.2 v7 hv7) k k k) k<|oB h λv8 hv8 h=>ae (gP (σ:=sg [(0,4)]) (σ':=sg [(4,0)]) (touch:=[4]) (news:=[]) (hl2:=[(4,⟨1,v8.map (ow eI)⟩)]) (n':=5) (r2:= .own 4 (0+(wr (x1.2*v1.cols)).toNat) ((wr ((wr (x1.2+1))*v1.cols)).toNat - (wr (x1.2*v1.cols)).toNat)) (yV a0 x2.1 (0+(wr (x1.2*v1.cols)).toNat) ((wr ((wr (x1.2+1))*v1.cols)).toNat - (wr (x1.2*v1.cols)).toNat) v5 v7 v8 hv8) k k ⟨_,_,k,k,⟨_,_,k,⟨k,k,k,k⟩,⟨_,_,k,k,⟨_,_,k,⟨k,k⟩,k⟩⟩⟩⟩ ⟨⟨_,k,k,.inl ⟨k,cA.plainO _⟩⟩,k,aQ⟩ k k k ⟨⟨_,k,k,.inl ⟨k,cA.plainO _⟩⟩,k,aQ⟩ k ⟨k,k,(by simp only [aH,lA,lT,lR,lC,lN]),k⟩ k ⟨k,cA.tame _ _,aQ⟩ k k) k<|cG h λq9 h=>an<|lL (by kernel_rfl)<|bB<|tn<|rg<|ae (bF k k) k ?_;exact am k k<|an<|tn<|sp h ⟨_,k,(bP (bG k2) (bO k<|bO k<|bO k<|hX ⟨_,k,k,.inr ⟨_,_,k,⟨_,_,k,k,⟨_,_,k,k,⟨_,_,k,⟨k,k,(by simp only [aH,lA,lT,lR,lC,lN,of_decide_eq_true q9]),k⟩,k⟩⟩⟩,k⟩⟩ k<|bN k<|aQ) k4)⟩
  ·rintro e t ⟨rfl,hent⟩;exact aN<|bB<|tn<|aI hent<|rg<|ae (bF k k) k<|am k k<|an<|tn<|sp h ⟨_,k,(bP (bG k2) (bO k<|bO k<|bO k<|eJ k<|bN k<|aQ) k4)⟩
 ·rintro e t ⟨rfl,hent⟩;exact aN<|tn<|aI hent<|sR<|lp k8<|ae (ws k) k<|an<|tn<|aE<|sp h (bD k k k (iJ (aU (k) (aU (k) (aU (cW cA k k) fA)))))
def qH (v1:Mt) (x1:(Int×(List Int)×(List Int))) (x2:Int):Option (Int ⊕ Int):=
 bif decide (x2<v1.rows) then
 ((eK (⟨v1.rows,v1.cols,x1.2.1⟩:Mt) x2).bind λv4=>
 bif (decide (0≤x1.1)&&decide (x1.1<((((wr ((wr (x2+1))*v1.cols)).toNat - (wr (x2*v1.cols)).toNat):Nat):Int))) then
 ((x1.2.1[((0+(wr (x2*v1.cols)).toNat)+x1.1.toNat)]?).bind λv5=>
 bif decide (v5=0) then
 (some (.inl (wr (x2+1))))
 else
 (some (.inr x2))
 )
 else none)
 else
 (some (.inr x2))
def vE (v1:Mt) (x1:(Int×(List Int)×(List Int))) (y8:Int) (x3:((List Int)×Int)):Option (((List Int)×Int) ⊕ (List Int)):=
 bif decide (x3.2<v1.cols) then
 ((eK (⟨v1.rows,v1.cols,x3.1⟩:Mt) y8).bind λv12=>
 (eK (⟨v1.rows,v1.cols,x3.1⟩:Mt) y8).bind λv13=>
 bif (decide (0≤x3.2)&&decide (x3.2<((((wr ((wr (y8+1))*v1.cols)).toNat - (wr (y8*v1.cols)).toNat):Nat):Int))) then
 ((x3.1[((0+(wr (y8*v1.cols)).toNat)+x3.2.toNat)]?).bind λv14=>
 bif (decide (0≤x3.2)&&decide (x3.2<((((wr ((wr (((x1.2.2.length:Nat):Int)+1))*v1.cols)).toNat - (wr (((x1.2.2.length:Nat):Int)*v1.cols)).toNat):Nat):Int))) then
 ((x3.1[((0+(wr (((x1.2.2.length:Nat):Int)*v1.cols)).toNat)+x3.2.toNat)]?).bind λv16=>
 bif (decide (0≤x3.2)&&decide (x3.2<((((wr ((wr (((x1.2.2.length:Nat):Int)+1))*v1.cols)).toNat - (wr (((x1.2.2.length:Nat):Int)*v1.cols)).toNat):Nat):Int))) then
 ((x3.1[((0+(wr (((x1.2.2.length:Nat):Int)*v1.cols)).toNat)+x3.2.toNat)]?).bind λv18=>
 bif (decide (0≤x3.2)&&decide (x3.2<((((wr ((wr (y8+1))*v1.cols)).toNat - (wr (y8*v1.cols)).toNat):Nat):Int))) then
 (((x3.1.set ((0+(wr (((x1.2.2.length:Nat):Int)*v1.cols)).toNat)+x3.2.toNat) v14)[((0+(wr (y8*v1.cols)).toNat)+x3.2.toNat)]?).bind λv20=>
 some (.inl (((x3.1.set ((0+(wr (((x1.2.2.length:Nat):Int)*v1.cols)).toNat)+x3.2.toNat) v14).set ((0+(wr (y8*v1.cols)).toNat)+x3.2.toNat) v16),wr (x3.2+1)))
 )
 else none
 )
 else none
 )
 else none
 )
 else none)
 else
 (some (.inr x3.1))
def vF (a0:Int) (v1:Mt) (v25:Int) (x1:(Int×(List Int)×(List Int))) (x4:((List Int)×Int)):Option (((List Int)×Int) ⊕ (List Int)):=
 bif decide (x4.2<((((wr ((wr (((x1.2.2.length:Nat):Int)+1))*v1.cols)).toNat - (wr (((x1.2.2.length:Nat):Int)*v1.cols)).toNat):Nat):Int)) then
 (bif (decide (0≤x4.2)&&decide (x4.2<((((wr ((wr (((x1.2.2.length:Nat):Int)+1))*v1.cols)).toNat - (wr (((x1.2.2.length:Nat):Int)*v1.cols)).toNat):Nat):Int))) then
 ((x4.1[((0+(wr (((x1.2.2.length:Nat):Int)*v1.cols)).toNat)+x4.2.toNat)]?).bind λv27=>
 bif !decide (a0=0) then
 (bif (decide (0≤x4.2)&&decide (x4.2<((((wr ((wr (((x1.2.2.length:Nat):Int)+1))*v1.cols)).toNat - (wr (((x1.2.2.length:Nat):Int)*v1.cols)).toNat):Nat):Int))) then
 ((x4.1[((0+(wr (((x1.2.2.length:Nat):Int)*v1.cols)).toNat)+x4.2.toNat)]?).bind λv29=>
 some (.inl ((x4.1.set ((0+(wr (((x1.2.2.length:Nat):Int)*v1.cols)).toNat)+x4.2.toNat) ((wr (v27*v25)).tmod a0)),wr (x4.2+1)))
 )
 else none)
 else none
 )
 else none)
 else
 (some (.inr x4.1))
def vG (a0:Int) (v1:Mt) (x1:(Int×(List Int)×(List Int))) (x5:((List Int)×Int)):Option (((List Int)×Int) ⊕ (List Int)):=
 bif decide (x5.2<v1.rows) then
 (bif !decide (x5.2=((x1.2.2.length:Nat):Int)) then
 ((eK (⟨v1.rows,v1.cols,x5.1⟩:Mt) x5.2).bind λv35=>
 (eK (⟨v1.rows,v1.cols,x5.1⟩:Mt) x5.2).bind λv36=>
 bif (decide (0≤x1.1)&&decide (x1.1<((((wr ((wr (x5.2+1))*v1.cols)).toNat - (wr (x5.2*v1.cols)).toNat):Nat):Int))) then
 ((x5.1[((0+(wr (x5.2*v1.cols)).toNat)+x1.1.toNat)]?).bind λv37=>
 (kA a0 x5.1 (0+(wr (x5.2*v1.cols)).toNat) ((wr ((wr (x5.2+1))*v1.cols)).toNat - (wr (x5.2*v1.cols)).toNat) (wr (a0 - v37)) (0+(wr (((x1.2.2.length:Nat):Int)*v1.cols)).toNat) ((wr ((wr (((x1.2.2.length:Nat):Int)+1))*v1.cols)).toNat - (wr (((x1.2.2.length:Nat):Int)*v1.cols)).toNat)).bind λv39=>
 bif decide (v39.length=x5.1.length) then
 (some (.inl (v39,wr (x5.2+1))))
 else none
 )
 else none)
 else
 (some (.inl (x5.1,wr (x5.2+1)))))
 else
 (some (.inr x5.1))
def qI (a0:Int) (v1:Mt) (x1:(Int×(List Int)×(List Int))):Option ((Int×(List Int)×(List Int)) ⊕ ((List Int)×(List Int))):=
 bif decide (x1.1<v1.cols) then
 ((Lp (qH v1 x1) ((x1.2.2.length:Nat):Int)).bind λy8=>
 bif decide (y8=v1.rows) then
 (some (.inl (wr (x1.1+1),x1.2.1,x1.2.2)))
 else
 ((eK (⟨v1.rows,v1.cols,x1.2.1⟩:Mt) ((x1.2.2.length:Nat):Int)).bind λv10=>
 (Lp (vE v1 x1 y8) (x1.2.1,0)).bind λy22=>
 bif (decide (0≤x1.1)&&decide (x1.1<((((wr ((wr (((x1.2.2.length:Nat):Int)+1))*v1.cols)).toNat - (wr (((x1.2.2.length:Nat):Int)*v1.cols)).toNat):Nat):Int))) then
 ((y22[((0+(wr (((x1.2.2.length:Nat):Int)*v1.cols)).toNat)+x1.1.toNat)]?).bind λv23=>
 (tH a0 v23).bind λv25=>
 (Lp (vF a0 v1 v25 x1) (y22,0)).bind λy32=>
 (Lp (vG a0 v1 x1) (y32,0)).bind λy41=>
 bif decide (x1.2.2.length+[x1.1].length ≤4294967296) then
 (some (.inl (wr (x1.1+1),y41,(x1.2.2++[x1.1]))))
 else none
 )
 else none))
 else
 (some (.inr (x1.2.1,x1.2.2)))
def wX (a0:Int) (a1:Mt):Option (Mt×(List Int)):=
 (gQ a1).bind λv1=>
 (Lp (qI a0 v1) (0,v1.cells,[])).bind λy43=>
 some (((⟨v1.rows,v1.cols,y43.1⟩:Mt),y43.2))
theorem aFm (a0:Int) (a1:Mt) (r:(Mt×(List Int))) (h:wX a0 a1=some r):HasC Tryz.prog 202 [.int a0,.agg (eM a1)] (.tuple [.agg (eM r.1),.list 1 (r.2.map eI)]):=by
 refine hM [.cell 4 91,.tmp 5] Tryz.func202 Tryz.ntmps202 k<|sR<|ae (wb k) k<|ae (bX aJ k k) k<|aT k2<|sR<|lp k8<|oB h λv1 hv1 h=>ae (cM (wM a1 v1 hv1) k3 (aL (eV k) aO)) k<|ae (ws k) k<|an<|tn<|sR<|aT k2<|sQ<|sR<|fp k8<|lp k8<|am k k<|an<|tn<|aD<|oB h λy43 hy43 h=>cC (body:=(qI a0 v1)) hy43 (λ(x1:(Int×(List Int)×(List Int)))=>mN [(0,.int a0),(3,.ptr 0 0 0),(4,.ptr 2 0 0),(6,.own 3 0 x1.2.2.length),(17,.int v1.cols),(18,.int x1.1)] [(0,⟨3,[[.int v1.rows,.int v1.cols,.own 1 0 x1.2.1.length]]⟩),(1,⟨1,x1.2.1.map (ow eI)⟩),(2,⟨3,[gD]⟩),(3,⟨1,x1.2.2.map (ow eI)⟩)] 4) (λr e t=>e= .exit 0∧Ent t (mN [(3,.ptr 0 0 0),(4,.ptr 2 0 0),(6,.own 3 0 r.2.length)] [(0,⟨3,[[.int v1.rows,.int v1.cols,.own 1 0 r.1.length]]⟩),(1,⟨1,r.1.map (ow eI)⟩),(2,⟨3,[gD]⟩),(3,⟨1,r.2.map (ow eI)⟩)] 4)) (eY (σ:=sg [(0,0),(1,2),(2,1)]) (kT 3 k2 (gH ⟨_,k,⟨k,k,k,k⟩⟩ (bG k2))) (eJ k<|bN k<|bO k<|hX k k<|aQ) k) ?_ ?_
 ·intro x1 o h;refine sR<|cm k4<|an<|tn<|sQ<|cN k h (λ_ h=>?_) λ_ h=>aY<|aB<|aB<|sp h ⟨_,k,k,(bP (bG k2) (eJ k<|bN k<|bO k<|bN k<|aQ) k4)⟩;refine aG<|tn<|sQ<|aD<|sR<|am k k<|aT k2<|sR<|am k k<|ae (dR aJ k k k k) k<|aT k2<|sQ<|aD<|oB h λy8 hy8 h=>cC (body:=(qH v1 x1)) hy8 (λ(x2:Int)=>mN [(0,.int a0),(3,.ptr 0 0 0),(4,.ptr 2 0 0),(6,.own 3 0 x1.2.2.length),(7,.int x1.1),(8,.int x2),(17,.int v1.cols),(18,.int x1.1)] [(0,⟨3,[[.int v1.rows,.int v1.cols,.own 1 0 x1.2.1.length]]⟩),(1,⟨1,x1.2.1.map (ow eI)⟩),(2,⟨3,[gD]⟩),(3,⟨1,x1.2.2.map (ow eI)⟩)] 4) (λr e t=>e= .exit 2∧Ent t (mN [(0,.int a0),(3,.ptr 0 0 0),(4,.ptr 2 0 0),(6,.own 3 0 x1.2.2.length),(7,.int x1.1),(8,.int r),(17,.int v1.cols),(18,.int x1.1)] [(0,⟨3,[[.int v1.rows,.int v1.cols,.own 1 0 x1.2.1.length]]⟩),(1,⟨1,x1.2.1.map (ow eI)⟩),(2,⟨3,[gD]⟩),(3,⟨1,x1.2.2.map (ow eI)⟩)] 4)) (bP (bG k2) (eJ k<|bN k<|bO k<|bN k<|aQ) k4) ?_ ?_
  ·intro x2 o h;exact sQ<|sR<|am k k<|fp k8<|lp k8<|cm k4<|am k k<|sP h (λq3 h=>aV 27 k q3<|lp k8<|am k k<|oB h λv4 hv4 h=>ae (AEff.pureE (gP (σ:=sg [(0,1)]) (σ':=sg [(1,0)]) (touch:=[1]) (news:=[]) (hl2:=[(1,⟨1,x1.2.1.map (ow eI)⟩)]) (n':=4) (r2:= .own 1 (0+(wr (x2*v1.cols)).toNat) ((wr ((wr (x2+1))*v1.cols)).toNat - (wr (x2*v1.cols)).toNat)) (gE (⟨v1.rows,v1.cols,x1.2.1⟩:Mt) x2 v4 hv4) k k ⟨_,_,k,⟨_,_,k,k,⟨_,_,k,k,⟨_,_,k,⟨k,k,k,k⟩,k⟩⟩⟩,⟨_,_,k,k,k⟩⟩ ⟨⟨_,k,k,.inl ⟨k,cA.plainO _⟩⟩,k,aQ⟩ k k k ⟨⟨_,k,k,.inl ⟨k,cA.plainO _⟩⟩,k,aQ⟩ k ⟨k,k,(by simp only [aH,lA,lT,lR,lC,lN]),k⟩ k ⟨k,cA.tame _ _,aQ⟩ k k) ⟨k,k,aQ⟩) k<|am k k<|cG h λq6 h=>oB h λv5 hv5 h=>ae (jH aJ q6 k k k k k k k) k<|ae (dK aJ k k k k (aAa (hv5)) k k) k<|cm k4<|pk k3<|an<|tn<|cN k h (λ_ h=>aG<|tn<|aD<|rg<|am k k<|ae (bF k k) k<|aa k k<|an<|bB<|tn<|sp h ⟨_,k,(bP (bG k2) (eJ k<|bN k<|bO k<|bN k<|aQ) k4)⟩) λ_ h=>aY<|aB<|aB<|sp h ⟨_,k,k,(bP (bG k2) (eJ k<|bN k<|bO k<|bN k<|aQ) k4)⟩) λq3 h=>aV 27 k q3<|aK k4<|aK k4<|aK k4<|ak k k<|pk k3<|an<|tn<|aBG k k<|aY<|aB<|aB<|sp h ⟨_,k,k,(bP (bG k2) (eJ k<|bN k<|bO k<|bN k<|aQ) k4)⟩
  ·rintro e t ⟨rfl,hent⟩;refine aN<|tn<|aI hent<|sQ<|sR<|am k k<|fp k8<|lp k8<|cm k4<|an<|tn<|cN k h (λ_ h=>aY<|aB<|aN<|tn<|rg<|ae (bF k k) k<|am k k<|an<|tn<|sp h ⟨_,k,(bP (bG k2) (eJ k<|bN k<|bO k<|bN k<|aQ) k4)⟩) λ_ h=>?_;refine aG<|tn<|sR<|lp k8<|am k k<|ae (dR aJ k k k k) k<|oB h λv10 hv10 h=>ae (AEff.pureE (gP (σ:=sg [(0,1)]) (σ':=sg [(1,0)]) (touch:=[1]) (news:=[]) (hl2:=[(1,⟨1,x1.2.1.map (ow eI)⟩)]) (n':=4) (r2:= .own 1 (0+(wr (((x1.2.2.length:Nat):Int)*v1.cols)).toNat) ((wr ((wr (((x1.2.2.length:Nat):Int)+1))*v1.cols)).toNat - (wr (((x1.2.2.length:Nat):Int)*v1.cols)).toNat)) (gE (⟨v1.rows,v1.cols,x1.2.1⟩:Mt) ((x1.2.2.length:Nat):Int) v10 hv10) k k ⟨_,_,k,⟨_,_,k,k,⟨_,_,k,k,⟨_,_,k,⟨k,k,k,k⟩,k⟩⟩⟩,⟨_,_,k,k,k⟩⟩ ⟨⟨_,k,k,.inl ⟨k,cA.plainO _⟩⟩,k,aQ⟩ k k k ⟨⟨_,k,k,.inl ⟨k,cA.plainO _⟩⟩,k,aQ⟩ k ⟨k,k,(by simp only [aH,lA,lT,lR,lC,lN]),k⟩ k ⟨k,cA.tame _ _,aQ⟩ k k) ⟨k,k,aQ⟩) k<|aT k2<|sQ<|sR<|fp k8<|lp k8<|am k k<|an<|tn<|aD<|oB h λy22 hy22 h=>cC (body:=(vE v1 x1 y8)) hy22 (λ(x3:((List Int)×Int))=>mN [(0,.int a0),(3,.ptr 0 0 0),(4,.ptr 2 0 0),(6,.own 3 0 x1.2.2.length),(7,.int x1.1),(8,.int y8),(9,.own 1 (0+(wr (((x1.2.2.length:Nat):Int)*v1.cols)).toNat) ((wr ((wr (((x1.2.2.length:Nat):Int)+1))*v1.cols)).toNat - (wr (((x1.2.2.length:Nat):Int)*v1.cols)).toNat)),(17,.int v1.cols),(18,.int x1.1),(47,.int v1.cols),(48,.int x3.2)] [(0,⟨3,[[.int v1.rows,.int v1.cols,.own 1 0 x3.1.length]]⟩),(1,⟨1,x3.1.map (ow eI)⟩),(2,⟨3,[gD]⟩),(3,⟨1,x1.2.2.map (ow eI)⟩)] 4) (λr e t=>e= .exit 4∧Ent t (mN [(0,.int a0),(3,.ptr 0 0 0),(4,.ptr 2 0 0),(6,.own 3 0 x1.2.2.length),(7,.int x1.1),(9,.own 1 (0+(wr (((x1.2.2.length:Nat):Int)*v1.cols)).toNat) ((wr ((wr (((x1.2.2.length:Nat):Int)+1))*v1.cols)).toNat - (wr (((x1.2.2.length:Nat):Int)*v1.cols)).toNat)),(17,.int v1.cols),(18,.int x1.1)] [(0,⟨3,[[.int v1.rows,.int v1.cols,.own 1 0 r.length]]⟩),(1,⟨1,r.map (ow eI)⟩),(2,⟨3,[gD]⟩),(3,⟨1,x1.2.2.map (ow eI)⟩)] 4)) (bP (bG k2) (eJ k<|bN k<|bO k<|bN k<|aQ) k4) ?_ ?_
   ·intro x3 o h;refine sR<|cm k4<|an<|tn<|sQ<|cN k h (λ_ h=>?_) λ_ h=>aY<|aB<|aB<|sp h ⟨_,k,k,(bP (bG k2) (eJ k<|bN k<|bO k<|bN k<|aQ) k4)⟩;refine aG<|tn<|sQ<|aD<|sR<|am k k<|aT k2<|aP fB<|am k k<|am k k<|lp k8<|am k k<|oB h λv12 hv12 h=>ae (AEff.pureE (gP (σ:=sg [(0,1)]) (σ':=sg [(1,0)]) (touch:=[1]) (news:=[]) (hl2:=[(1,⟨1,x3.1.map (ow eI)⟩)]) (n':=4) (r2:= .own 1 (0+(wr (y8*v1.cols)).toNat) ((wr ((wr (y8+1))*v1.cols)).toNat - (wr (y8*v1.cols)).toNat)) (gE (⟨v1.rows,v1.cols,x3.1⟩:Mt) y8 v12 hv12) k k ⟨_,_,k,⟨_,_,k,k,⟨_,_,k,k,⟨_,_,k,⟨k,k,k,k⟩,k⟩⟩⟩,⟨_,_,k,k,k⟩⟩ ⟨⟨_,k,k,.inl ⟨k,cA.plainO _⟩⟩,k,aQ⟩ k k k ⟨⟨_,k,k,.inl ⟨k,cA.plainO _⟩⟩,k,aQ⟩ k ⟨k,k,(by simp only [aH,lA,lT,lR,lC,lN]),k⟩ k ⟨k,cA.tame _ _,aQ⟩ k k) ⟨k,k,aQ⟩) k<|am k k<|lp k8<|am k k<|oB h λv13 hv13 h=>ae (AEff.pureE (gP (σ:=sg [(0,1)]) (σ':=sg [(1,0)]) (touch:=[1]) (news:=[]) (hl2:=[(1,⟨1,x3.1.map (ow eI)⟩)]) (n':=4) (r2:= .own 1 (0+(wr (y8*v1.cols)).toNat) ((wr ((wr (y8+1))*v1.cols)).toNat - (wr (y8*v1.cols)).toNat)) (gE (⟨v1.rows,v1.cols,x3.1⟩:Mt) y8 v13 hv13) k k ⟨_,_,k,⟨_,_,k,k,⟨_,_,k,k,⟨_,_,k,⟨k,k,k,k⟩,k⟩⟩⟩,⟨_,_,k,k,k⟩⟩ ⟨⟨_,k,k,.inl ⟨k,cA.plainO _⟩⟩,k,aQ⟩ k k k ⟨⟨_,k,k,.inl ⟨k,cA.plainO _⟩⟩,k,aQ⟩ k ⟨k,k,(by simp only [aH,lA,lT,lR,lC,lN]),k⟩ k ⟨k,cA.tame _ _,aQ⟩ k k) ⟨k,k,aQ⟩) k<|am k k<|cG h λq15 h=>oB h λv14 hv14 h=>ae (jH aJ q15 k k k k k k k) k<|ae (dK aJ k k k k (aAa (hv14)) k k) k<|am k k<|am k k<|cG h λq17 h=>oB h λv16 hv16 h=>ae (jH aJ q17 k k k k k k k) k<|ae (dK aJ k k k k (aAa (hv16)) k k) k<|cG h λq19 h=>oB h λv18 hv18 h=>ae (jH aJ q19 k k k k k k k) k<|ae (gL aJ kH (u:=v14) (hv18) k k k k k k) k ?_;exact cG h λq21 h=>oB h λv20 hv20 h=>ae (jH aJ q21 k k k k k k k) k<|ae (gL aJ kH (u:=v16) (hv20) k k k k k k) k<|an<|lL (by kernel_rfl)<|bB<|tn<|rg<|ae (bF k k) k<|am k k<|an<|tn<|sp h ⟨_,k,(bP (bG k2) (hX ⟨_,k,k,.inr ⟨_,_,k,⟨_,_,k,k,⟨_,_,k,k,⟨_,_,k,⟨k,k,(by simp only [aH,lA,lT,lR,lC,lN]),k⟩,k⟩⟩⟩,k⟩⟩ k<|bN k<|bO k<|bN k<|aQ) k4)⟩
   ·rintro e t ⟨rfl,hent⟩;refine aN<|tn<|aI hent<|sR<|am k k<|am k k<|am k k<|cG h λq24 h=>oB h λv23 hv23 h=>ae (jH aJ q24 k k k k k k k) k<|ae (dK aJ k k k k (aAa (hv23)) k k) k<|oB h λv25 hv25 h=>ae (aS (aGs a0 v23 v25 hv25) k (cJ k (cJ k aO))) k<|aT k2<|sQ<|sR<|am k k<|ae (dR aJ k k k k) k<|am k k<|an<|tn<|aD<|oB h λy32 hy32 h=>cC (body:=(vF a0 v1 v25 x1)) hy32 (λ(x4:((List Int)×Int))=>mN [(0,.int a0),(3,.ptr 0 0 0),(4,.ptr 2 0 0),(6,.own 3 0 x1.2.2.length),(7,.int x1.1),(9,.own 1 (0+(wr (((x1.2.2.length:Nat):Int)*v1.cols)).toNat) ((wr ((wr (((x1.2.2.length:Nat):Int)+1))*v1.cols)).toNat - (wr (((x1.2.2.length:Nat):Int)*v1.cols)).toNat)),(11,.int v25),(17,.int v1.cols),(18,.int x1.1),(77,.int ((((wr ((wr (((x1.2.2.length:Nat):Int)+1))*v1.cols)).toNat - (wr (((x1.2.2.length:Nat):Int)*v1.cols)).toNat):Nat):Int)),(78,.int x4.2)] [(0,⟨3,[[.int v1.rows,.int v1.cols,.own 1 0 x4.1.length]]⟩),(1,⟨1,x4.1.map (ow eI)⟩),(2,⟨3,[gD]⟩),(3,⟨1,x1.2.2.map (ow eI)⟩)] 4) (λr e t=>e= .exit 6∧Ent t (mN [(0,.int a0),(3,.ptr 0 0 0),(4,.ptr 2 0 0),(6,.own 3 0 x1.2.2.length),(7,.int x1.1),(9,.own 1 (0+(wr (((x1.2.2.length:Nat):Int)*v1.cols)).toNat) ((wr ((wr (((x1.2.2.length:Nat):Int)+1))*v1.cols)).toNat - (wr (((x1.2.2.length:Nat):Int)*v1.cols)).toNat)),(17,.int v1.cols),(18,.int x1.1)] [(0,⟨3,[[.int v1.rows,.int v1.cols,.own 1 0 r.length]]⟩),(1,⟨1,r.map (ow eI)⟩),(2,⟨3,[gD]⟩),(3,⟨1,x1.2.2.map (ow eI)⟩)] 4)) (bP (bG k2) (eJ k<|bN k<|bO k<|bN k<|aQ) k4) ?_ ?_
    ·intro x4 o h;refine sR<|cm k4<|an<|tn<|sQ<|cN k h (λ_ h=>?_) λ_ h=>aY<|aB<|aB<|sp h ⟨_,k,k,(bP (bG k2) (eJ k<|bN k<|bO k<|bN k<|aQ) k4)⟩;refine aG<|tn<|sQ<|aD<|sR<|am k k<|aT k2<|rg<|am k k<|am k k<|am k k<|am k k<|cG h λq28 h=>oB h λv27 hv27 h=>ae (jH aJ q28 k k k k k k k) k<|ae (dK aJ k k k k (aAa (hv27)) k k) k<|am k k<|ae (fP k k) k<|am k k<|cG h λq31 h=>ae (aFh k k q31) k<|cG h λq30 h=>oB h λv29 hv29 h=>ae (jH aJ q30 k k k k k k k) k<|ae (gL aJ kH (u:=(wr (v27*v25)).tmod a0) (hv29) k k k k k k) k<|an<|bB<|tn<|rg<|ae (bF k k) k<|am k k ?_;exact an<|tn<|sp h ⟨_,k,(bP (bG k2) (hX ⟨_,k,k,.inr ⟨_,_,k,⟨_,_,k,k,⟨_,_,k,k,⟨_,_,k,⟨k,k,(by simp only [aH,lA,lT,lR,lC,lN]),k⟩,k⟩⟩⟩,k⟩⟩ k<|bN k<|bO k<|bN k<|aQ) k4)⟩
    ·rintro e t ⟨rfl,hent⟩;refine aN<|tn<|aI hent<|sQ<|sR<|fp k8<|lp k8<|am k k<|an<|tn<|aD<|oB h λy41 hy41 h=>cC (body:=(vG a0 v1 x1)) hy41 (λ(x5:((List Int)×Int))=>mN [(0,.int a0),(3,.ptr 0 0 0),(4,.ptr 2 0 0),(6,.own 3 0 x1.2.2.length),(7,.int x1.1),(9,.own 1 (0+(wr (((x1.2.2.length:Nat):Int)*v1.cols)).toNat) ((wr ((wr (((x1.2.2.length:Nat):Int)+1))*v1.cols)).toNat - (wr (((x1.2.2.length:Nat):Int)*v1.cols)).toNat)),(17,.int v1.cols),(18,.int x1.1),(94,.int v1.rows),(95,.int x5.2)] [(0,⟨3,[[.int v1.rows,.int v1.cols,.own 1 0 x5.1.length]]⟩),(1,⟨1,x5.1.map (ow eI)⟩),(2,⟨3,[gD]⟩),(3,⟨1,x1.2.2.map (ow eI)⟩)] 4) (λr e t=>e= .exit 8∧Ent t (mN [(0,.int a0),(3,.ptr 0 0 0),(4,.ptr 2 0 0),(6,.own 3 0 x1.2.2.length),(7,.int x1.1),(17,.int v1.cols),(18,.int x1.1)] [(0,⟨3,[[.int v1.rows,.int v1.cols,.own 1 0 r.length]]⟩),(1,⟨1,r.map (ow eI)⟩),(2,⟨3,[gD]⟩),(3,⟨1,x1.2.2.map (ow eI)⟩)] 4)) (bP (bG k2) (eJ k<|bN k<|bO k<|bN k<|aQ) k4) ?_ ?_
     ·intro x5 o h;refine sR<|cm k4<|an<|tn<|sQ<|cN k h (λ_ h=>?_) λ_ h=>aY<|aB<|aB<|sp h ⟨_,k,k,(bP (bG k2) (eJ k<|bN k<|bO k<|bN k<|aQ) k4)⟩;refine aG<|tn<|sQ<|aD<|sR<|am k k<|aT k2<|sR<|am k k<|am k k<|ae (dR aJ k k k k) k<|cm k4<|an<|tn<|cN k h (λ_ h=>?_) λ_ h=>aG<|bB<|tn<|rg<|ae (bF k k) k<|am k k<|an<|tn<|sp h ⟨_,k,(bP (bG k2) (eJ k<|bN k<|bO k<|bN k<|aQ) k4)⟩;exact aP fB<|am k k<|lp k8<|am k k<|oB h λv35 hv35 h=>ae (AEff.pureE (gP (σ:=sg [(0,1)]) (σ':=sg [(1,0)]) (touch:=[1]) (news:=[]) (hl2:=[(1,⟨1,x5.1.map (ow eI)⟩)]) (n':=4) (r2:= .own 1 (0+(wr (x5.2*v1.cols)).toNat) ((wr ((wr (x5.2+1))*v1.cols)).toNat - (wr (x5.2*v1.cols)).toNat)) (gE (⟨v1.rows,v1.cols,x5.1⟩:Mt) x5.2 v35 hv35) k k ⟨_,_,k,⟨_,_,k,k,⟨_,_,k,k,⟨_,_,k,⟨k,k,k,k⟩,k⟩⟩⟩,⟨_,_,k,k,k⟩⟩ ⟨⟨_,k,k,.inl ⟨k,cA.plainO _⟩⟩,k,aQ⟩ k k k ⟨⟨_,k,k,.inl ⟨k,cA.plainO _⟩⟩,k,aQ⟩ k ⟨k,k,(by simp only [aH,lA,lT,lR,lC,lN]),k⟩ k ⟨k,cA.tame _ _,aQ⟩ k k) ⟨k,k,aQ⟩) k<|am k k<|lp k8<|am k k<|oB h λv36 hv36 h=>ae (AEff.pureE (gP (σ:=sg [(0,1)]) (σ':=sg [(1,0)]) (touch:=[1]) (news:=[]) (hl2:=[(1,⟨1,x5.1.map (ow eI)⟩)]) (n':=4) (r2:= .own 1 (0+(wr (x5.2*v1.cols)).toNat) ((wr ((wr (x5.2+1))*v1.cols)).toNat - (wr (x5.2*v1.cols)).toNat)) (gE (⟨v1.rows,v1.cols,x5.1⟩:Mt) x5.2 v36 hv36) k k ⟨_,_,k,⟨_,_,k,k,⟨_,_,k,k,⟨_,_,k,⟨k,k,k,k⟩,k⟩⟩⟩,⟨_,_,k,k,k⟩⟩ ⟨⟨_,k,k,.inl ⟨k,cA.plainO _⟩⟩,k,aQ⟩ k k k ⟨⟨_,k,k,.inl ⟨k,cA.plainO _⟩⟩,k,aQ⟩ k ⟨k,k,(by simp only [aH,lA,lT,lR,lC,lN]),k⟩ k ⟨k,cA.tame _ _,aQ⟩ k k) ⟨k,k,aQ⟩) k<|am k k<|cG h λq38 h=>oB h λv37 hv37 h=>ae (jH aJ q38 k k k k k k k) k<|ae (dK aJ k k k k (aAa (hv37)) k k) k<|ae (wS k k) k<|am k k<|oB h λv39 hv39 h=>ae (gP (σ:=sg [(0,1)]) (σ':=sg [(1,0)]) (touch:=[1]) (news:=[]) (hl2:=[(1,⟨1,v39.map (ow eI)⟩)]) (n':=4) (r2:= .own 1 (0+(wr (x5.2*v1.cols)).toNat) ((wr ((wr (x5.2+1))*v1.cols)).toNat - (wr (x5.2*v1.cols)).toNat)) (aDQ a0 x5.1 (0+(wr (x5.2*v1.cols)).toNat) ((wr ((wr (x5.2+1))*v1.cols)).toNat - (wr (x5.2*v1.cols)).toNat) (wr (a0 - v37)) (0+(wr (((x1.2.2.length:Nat):Int)*v1.cols)).toNat) ((wr ((wr (((x1.2.2.length:Nat):Int)+1))*v1.cols)).toNat - (wr (((x1.2.2.length:Nat):Int)*v1.cols)).toNat) v39 hv39) k k ⟨_,_,k,k,⟨_,_,k,⟨k,k,k,k⟩,⟨_,_,k,k,⟨_,_,k,⟨k,k,k,k⟩,k⟩⟩⟩⟩ ⟨⟨_,k,k,.inl ⟨k,cA.plainO _⟩⟩,k,aQ⟩ k k k ⟨⟨_,k,k,.inl ⟨k,cA.plainO _⟩⟩,k,aQ⟩ k ⟨k,k,(by simp only [aH,lA,lT,lR,lC,lN]),k⟩ k ⟨k,cA.tame _ _,aQ⟩ k k) k<|cG h λq40 h=>an<|lL (by kernel_rfl)<|bB<|tn<|rg<|ae (bF k k) k<|am k k<|an<|tn<|sp h ⟨_,k,(bP (bG k2) (hX ⟨_,k,k,.inr ⟨_,_,k,⟨_,_,k,k,⟨_,_,k,k,⟨_,_,k,⟨k,k,(by simp only [aH,lA,lT,lR,lC,lN,of_decide_eq_true q40]),k⟩,k⟩⟩⟩,k⟩⟩ k<|bN k<|bO k<|bN k<|aQ) k4)⟩
     ·rintro e t ⟨rfl,hent⟩;exact aN<|tn<|aI hent<|rg<|am k k<|am k k<|ae (wl k) k<|cG h λq42 h=>ae (qV aJ (l:=x1.2.2) (m:=[x1.1]) kH q42 k k k k k k k k k k k k) k<|aa k k<|an<|bB<|tn<|rg<|ae (bF k k) k<|am k k<|an<|tn<|sp h ⟨_,k,(gT [0,1,2,5] (bG k2) (eJ k<|bN k<|bO k<|bN k<|aQ) k4)⟩
 ·rintro e t ⟨rfl,hent⟩;exact aN<|tn<|aI hent<|sR<|lp k8<|am k k<|ae (ws k) k<|aT k2<|aE<|sp h (bD k k k (cU k (bL (yU (aU (k) (aU (k) (aU (cW cA k k) fA)))) (bL (dL (cW cA k k)) eG))))
def iH (a0:(List (List Int))) (x1:(Int×Int)):Option ((Int×Int) ⊕ Int):=
 bif decide (x1.2<(a0.length:Int)) then
 ((cY a0 x1.2).bind λv2=>
 bif decide (wr (x1.1+(v2.length:Int))<0) then
 (none)
 else
 (some (.inl (wr (x1.1+(v2.length:Int)),wr (x1.2+1)))))
 else
 (some (.inr x1.1))
def iI (a0:(List (List Int))) (x2:((List Int)×Int)):Option (((List Int)×Int) ⊕ (List Int)):=
 bif decide (x2.2<(a0.length:Int)) then
 ((cY a0 x2.2).bind λv7=>
 bif decide (x2.1.length+v7.length≤4294967296) then
 (some (.inl ((x2.1++v7),wr (x2.2+1))))
 else none)
 else
 (some (.inr x2.1))
def jR (a0:(List (List Int))):Option (List Int):=
 (Lp (iH a0) (0,0)).bind λy4=>
 (aQU y4).bind λv5=>
 (Lp (iI a0) (v5,0)).bind λy9=>
 some (y9)
theorem aCv (a0:(List (List Int))) (r:(List Int)) (h:jR a0=some r):HasC Tryz.prog 179 [.list 1 (a0.map (dQ 1 eI))] (.list 1 (r.map eI)):=by
 refine hM [.tmp 2] Tryz.func179 Tryz.ntmps179 k<|sR<|aT k2<|sR<|aT k2<|sQ<|sR<|am k k<|ln k4<|am k k<|an<|tn<|aD<|oB h λy4 hy4 h=>cC (body:=(iH a0)) hy4 (λ(x1:(Int×Int))=>mN [(0,.list 1 (a0.map (dQ 1 eI))),(3,.int x1.1),(9,.list 1 (a0.map (dQ 1 eI))),(10,.int (a0.length:Int)),(11,.int x1.2)] [] 0) (λr e t=>e= .exit 0∧Ent t (mN [(0,.list 1 (a0.map (dQ 1 eI))),(3,.int r)] [] 0)) (bP (bG k2) aQ k4) ?_ ?_
 ·intro x1 o h;refine sR<|cm k4<|an<|tn<|sQ<|cN k h (λ_ h=>?_) λ_ h=>aY<|aB<|aB<|sp h ⟨_,k,k,(bP (bG k2) aQ k4)⟩;refine aG<|tn<|sQ<|aD<|sR<|oB h λv2 hv2 h=>ae (xl hv2 k) k<|lr k7<|aT k2<|sR<|am k k<|am k k<|ln k4<|ae (bF k k) k<|aT k2<|sR<|am k k<|cm k4<|an<|tn<|cN k h (λ_ h=>?_) λ_ h=>aG<|bB<|tn<|rg<|ae (bF k k) k<|am k k<|an<|tn<|sp h ⟨_,k,(bP (bG k2) aQ k4)⟩;refine rg ?_;cases h
 ·rintro e t ⟨rfl,hent⟩;refine aN<|tn<|aI hent<|sR<|am k k<|oB h λv5 hv5 h=>ae (cL cA (aWy y4 v5 hv5) k3 (aL aVq (cJ k aO))) k<|aT k2<|sQ<|sR<|am k k<|ln k4<|am k k<|an<|tn<|aD<|oB h λy9 hy9 h=>cC (body:=(iI a0)) hy9 (λ(x2:((List Int)×Int))=>mN [(6,.own 0 0 x2.1.length),(25,.list 1 (a0.map (dQ 1 eI))),(26,.int (a0.length:Int)),(27,.int x2.2)] [(0,⟨1,x2.1.map (ow eI)⟩)] 1) (λr e t=>e= .exit 2∧Ent t (mN [(6,.own 0 0 r.length)] [(0,⟨1,r.map (ow eI)⟩)] 1)) (bP (bG k2) (bN k<|aQ) k4) ?_ ?_
  ·intro x2 o h;exact sR<|cm k4<|an<|tn<|sQ<|cN k h (λ_ h=>aG<|tn<|sQ<|aD<|sR<|oB h λv7 hv7 h=>ae (xl hv7 k) k<|lr k7<|aT k2<|rg<|am k k<|am k k<|cG h λq8 h=>ae (qV aJ (l:=x2.1) (m:=v7) kH q8 k k k k k k k k k k k k) k<|aa k k<|an<|bB<|tn<|rg<|ae (bF k k) k<|am k k<|an<|tn<|sp h ⟨_,k,(gT [1] (bG k2) (bN k<|aQ) k4)⟩) λ_ h=>aY<|aB<|aB<|sp h ⟨_,k,k,(bP (bG k2) (bN k<|aQ) k4)⟩
  ·rintro e t ⟨rfl,hent⟩;exact aN<|tn<|aI hent<|sR<|am k k<|aT k2<|aE<|sp h (bD k k k (fH (cW cA k k)))
end
noncomputable section
set_option maxRecDepth 10000
set_option maxHeartbeats 4000000
def oZ (a0:(List Int)) (a1:Int):Option Int:=
 bif decide (wr (a1 - (a0.length:Int))<0) then
 (some ((-1)))
 else
 (some (wr (a1 - (a0.length:Int))))
theorem aAo (a0:(List Int)) (a1:Int) (r:Int) (h:oZ a0 a1=some r):HasC Tryz.prog 31 [.list 1 (a0.map eI),.int a1] (.int r):=by
 exact hM [.tmp 4] Tryz.func31 Tryz.ntmps31 k<|sR<|aT k2<|sR<|am k k<|am k k<|ln k4<|ae (wS k k) k<|aT k2<|sQ<|sR<|am k k<|cm k4<|an<|tn<|cN k h (λ_ h=>sR<|aT k2<|aE<|aC<|rtI h k2) λ_ h=>aG<|tn<|sR<|am k k<|aT k2<|aE<|rtI h k2
def aBU (a0:Qv) (a1:Int):Option Int:=
 (oZ a0.src a1).bind λv1=>
 bif decide (v1<0) then
 (some ((-1)))
 else
 ((oZ a0.tgt v1).bind λv3=>
 bif decide (v3<0) then
 (some ((-1)))
 else
 (some (v3)))
theorem aJA (a0:Qv) (a1:Int) (r:Int) (h:aBU a0 a1=some r):HasC Tryz.prog 7 [.agg (eQ a0),.int a1] (.int r):=by
 exact hM [.tmp 4] Tryz.func7 Tryz.ntmps7 k<|sR<|ae (wb k) k<|aT k2<|sR<|fp k8<|lp k8<|am k k<|oB h λv1 hv1 h=>ae (aS (aAo a0.src a1 v1 hv1) k (cJ k (cJ k aO))) k<|aT k2<|sQ<|sR<|am k k<|cm k4<|an<|tn<|cN k h (λ_ h=>sR<|aT k2<|aE<|aC<|rtI h k2) λ_ h=>aG<|tn<|sR<|fp k8<|lp k8<|am k k<|oB h λv3 hv3 h=>ae (aS (aAo a0.tgt v1 v3 hv3) k (cJ k (cJ k aO))) k<|aT k2<|sQ<|sR<|am k k<|cm k4<|an<|tn<|cN k h (λ_ h=>sR<|aT k2<|aE<|aC<|rtI h k2) λ_ h=>aG<|tn<|sR<|am k k<|aT k2<|aE<|rtI h k2
def aBV (a0:Mt) (a1:Int):Option Int:=
 (oZ a0.cells a1).bind λv1=>
 bif decide (v1<0) then
 (some ((-1)))
 else
 (some (v1))
theorem aJB (a0:Mt) (a1:Int) (r:Int) (h:aBV a0 a1=some r):HasC Tryz.prog 86 [.agg (eM a0),.int a1] (.int r):=by
 exact hM [.tmp 4] Tryz.func86 Tryz.ntmps86 k<|sR<|ae (wb k) k<|aT k2<|sR<|fp k8<|lp k8<|am k k<|oB h λv1 hv1 h=>ae (aS (aAo a0.cells a1 v1 hv1) k (cJ k (cJ k aO))) k<|aT k2<|sQ<|sR<|am k k<|cm k4<|an<|tn<|cN k h (λ_ h=>sR<|aT k2<|aE<|aC<|rtI h k2) λ_ h=>aG<|tn<|sR<|am k k<|aT k2<|aE<|rtI h k2
def pI (a0:(List Mt)) (x1:(Int×Int)):Option ((Int×Int) ⊕ (Int ⊕ Int)):=
 bif decide (x1.2<(a0.length:Int)) then
 ((cY a0 x1.2).bind λv3=>
 (aBV v3 x1.1).bind λv4=>
 bif decide (v4<0) then
 (some (.inr (.inr ((-1)))))
 else
 (some (.inl (v4,wr (x1.2+1)))))
 else
 (some (.inr (.inl x1.1)))
def vH (a0:(List Mt)) (a1:Int):Option Int:=
 bif decide (wr (a1 - (a0.length:Int))<0) then
 (some ((-1)))
 else
 ((Lp (pI a0) (wr (a1 - (a0.length:Int)),0)).bind λy6=>
 Sum.elim (λy7=>
 some (y7)
 )
 (λy8=>
 some y8
 )
 y6)
theorem aHq (a0:(List Mt)) (a1:Int) (r:Int) (h:vH a0 a1=some r):HasC Tryz.prog 44 [.list 3 (a0.map eM),.int a1] (.int r):=by
 refine hM [.tmp 4] Tryz.func44 Tryz.ntmps44 k<|sR<|aT k2<|sR<|am k k<|am k k<|ln k4<|ae (wS k k) k<|aT k2<|sQ<|sR<|am k k<|cm k4<|an<|tn<|cN k h (λ_ h=>sR<|aT k2<|aE<|aC<|rtI h k2) λ_ h=>?_;refine aG<|tn<|sQ<|sR<|aT k2<|aD<|oB h λy6 hy6 h=>cC (body:=(pI a0)) hy6 (λ(x1:(Int×Int))=>mN [(0,.list 3 (a0.map eM)),(1,.int x1.1),(5,.int x1.2)] [] 0) (λr e t=>Sum.elim (λa=>(λr e t=>e= .exit 0∧Ent t (mN [(1,.int r)] [] 0)) a e t) (λb=>(λr e t=>e= .ret∧mW TT [.tmp 4] (.int r) .ret t) b e t) r) (bP (bG k2) aQ k4) ?_ ?_
 ·intro x1 o h;exact sQ<|sR<|am k k<|am k k<|ln k4<|cm k4<|an<|tn<|cN k h (λ_ h=>aG<|tn<|sQ<|aD<|sR<|am k k<|am k k<|oB h λv3 hv3 h=>ae (xl hv3 k) k<|lr k7<|am k k<|oB h λv4 hv4 h=>ae (aS (aJB v3 x1.1 v4 hv4) k (aL (eV k) (cJ k aO))) k<|aT k2<|sR<|am k k<|cm k4<|an<|tn<|cN k h (λ_ h=>sR<|aT k2<|aE<|bC<|aC<|aC<|sp h ⟨_,k,k,bD k k k (mY k)⟩) λ_ h=>aG<|bB<|tn<|rg<|am k k<|ae (bF k k) k<|aT k2<|sp h ⟨_,k,(bP (bG k2) aQ k4)⟩) λ_ h=>aY<|aB<|aB<|sp h ⟨_,k,k,(bP (bG k2) aQ k4)⟩
 ·intro e t hX;rcases y6 with y7|y8
  ·obtain ⟨rfl,hent⟩:=hX;exact aN<|tn<|aI hent<|sR<|am k k<|aT k2<|aE<|rtI h k2
  ·obtain ⟨rfl,hent⟩:=hX;exact bC<|aC<|sp h hent
def aDx (a0:Rp) (a1:Int):Option Int:=
 (aBU a0.q a1).bind λv1=>
 bif decide (v1<0) then
 (some ((-1)))
 else
 ((oZ a0.dims v1).bind λv3=>
 bif decide (v3<0) then
 (some ((-1)))
 else
 ((vH a0.maps v3).bind λv5=>
 bif decide (v5<0) then
 (some ((-1)))
 else
 (some (v5))))
theorem aNN (a0:Rp) (a1:Int) (r:Int) (h:aDx a0 a1=some r):HasC Tryz.prog 19 [.agg (eR a0),.int a1] (.int r):=by
 exact hM [.tmp 4] Tryz.func19 Tryz.ntmps19 k<|sR<|ae (wb k) k<|aT k2<|sR<|fp k8<|lp k8<|am k k<|oB h λv1 hv1 h=>ae (aS (aJA a0.q a1 v1 hv1) k (aL (eV k) (cJ k aO))) k<|aT k2<|sQ<|sR<|am k k<|cm k4<|an<|tn<|cN k h (λ_ h=>sR<|aT k2<|aE<|aC<|rtI h k2) λ_ h=>aG<|tn<|sR<|fp k8<|lp k8<|am k k<|oB h λv3 hv3 h=>ae (aS (aAo a0.dims v1 v3 hv3) k (cJ k (cJ k aO))) k<|aT k2<|sQ<|sR<|am k k<|cm k4<|an<|tn<|cN k h (λ_ h=>sR<|aT k2<|aE<|aC<|rtI h k2) λ_ h=>aG<|tn<|sR<|fp k8<|lp k8<|am k k<|oB h λv5 hv5 h=>ae (aS (aHq a0.maps v3 v5 hv5) k (cJ k (cJ k aO))) k<|aT k2<|sQ<|sR<|am k k<|cm k4<|an<|tn<|cN k h (λ_ h=>sR<|aT k2<|aI (t:=mN [(4,.int (-1))] [] 1) (bP (bG k2) aQ k4)<|aE<|aC<|rtI h k2) λ_ h=>aG<|tn<|sR<|am k k<|aT k2<|aE<|rtI h k2
def vI (a0:(List Int)) (x1:((List Int)×Int)):Option (((List Int)×Int) ⊕ (List Int)):=
 bif decide (x1.2<(a0.length:Int)) then
 ((cY a0 x1.2).bind λv2=>
 (cY x1.1 x1.2).bind λv3=>
 some (.inl ((x1.1.set x1.2.toNat v2),wr (x1.2+1))))
 else
 (some (.inr x1.1))
def pA (a0:(List Int)):Option (List Int):=
 bif (decide (0≤(a0.length:Int))&&decide ((a0.length:Int)≤1048576)) then
 ((Lp (vI a0) ((List.replicate ((a0.length:Int).toNat) (0:Int)),0)).bind λy4=>
 some (y4))
 else none
theorem aAp (a0:(List Int)) (r:(List Int)) (h:pA a0=some r):HasC Tryz.prog 10 [.list 1 (a0.map eI)] (.list 1 (r.map eI)):=by
 refine hM [.tmp 2] Tryz.func10 Tryz.ntmps10 k<|sR<|aT k2<|sR<|am k k<|ln k4<|cG h λq5 h=>ae (aCD aJ q5 k k k k k k k k) k<|aT k2<|aI (t:=mN [(0,.list 1 (a0.map eI)),(3,.own 0 0 ((List.replicate ((a0.length:Int).toNat) (0:Int)).length))] [(0,⟨1,List.map (ow eI) (List.replicate ((a0.length:Int).toNat) (0:Int))⟩)] 1) (bP (kT 1 k2 (gH ⟨_,k,⟨k,k,(by simp only [aH,lA,lT,lR,lC,lN]),k⟩⟩ aQ)) (hX ⟨_,k,k,.inl ⟨aCt (e:=eI) (z:=0) _,cA.plainO _⟩⟩ k<|aQ) k4)<|sQ<|sR<|aT k2<|aD<|oB h λy4 hy4 h=>cC (body:=(vI a0)) hy4 (λ(x1:((List Int)×Int))=>mN [(0,.list 1 (a0.map eI)),(3,.own 0 0 x1.1.length),(4,.int x1.2)] [(0,⟨1,x1.1.map (ow eI)⟩)] 1) (λr e t=>e= .exit 0∧Ent t (mN [(3,.own 0 0 r.length)] [(0,⟨1,r.map (ow eI)⟩)] 1)) (bP (bG k2) (bN k<|aQ) k4) ?_ ?_
 ·intro x1 o h;exact sQ<|sR<|am k k<|am k k<|ln k4<|cm k4<|an<|tn<|cN k h (λ_ h=>aG<|tn<|sQ<|aD<|rg<|am k k<|am k k<|am k k<|am k k<|oB h λv2 hv2 h=>ae (xl hv2 k) k<|lr k7<|oB h λv3 hv3 h=>ae (xo hv3 k) k<|ae (gL aJ kH (u:=v2) (dF hv3) k k k k k k) k<|an<|bB<|tn<|rg<|am k k<|ae (bF k k) k<|aT k2<|sp h ⟨_,k,(bP (kT 1 k2 (gH ⟨_,k,⟨k,k,(by simp only [aH,lA,lT,lR,lC,lN]),k⟩⟩ (bG k2))) (bN k<|aQ) k4)⟩) λ_ h=>aY<|aB<|aB<|sp h ⟨_,k,k,(bP (bG k2) (bN k<|aQ) k4)⟩
 ·rintro e t ⟨rfl,hent⟩;exact aN<|tn<|aI hent<|sR<|am k k<|aT k2<|aE<|sp h (bD k k k (fH (cW cA k k)))
def xT (a0:Qv):Option Qv:=
 (pA a0.src).bind λv1=>
 (pA a0.tgt).bind λv2=>
 some ((⟨a0.n,v1,v2⟩:Qv))
theorem aJC (a0:Qv) (r:Qv) (h:xT a0=some r):HasC Tryz.prog 9 [.agg (eQ a0)] (.agg (eQ r)):=by
 refine hM [.cell 2 26] Tryz.func9 Tryz.ntmps9 k<|sR<|ae (wb k) k<|ae (bX aJ k k) k<|an<|tn<|sR<|ae (bX aJ k k) k<|an<|tn<|sR<|fp k8<|lp k8<|fp k8<|ae (ws k) k<|an<|tn<|sR<|fp k8<|lp k8<|oB h λv1 hv1 h=>ae (cL cA (aAp a0.src v1 hv1) k3 (cJ k aO)) k<|fp k8<|ae (ws k) k<|an<|tn<|sQ ?_;exact rg<|fp k8<|lp k8<|oB h λv2 hv2 h=>ae (cL cA (aAp a0.tgt v2 hv2) k3 (cJ k aO)) k<|fp k8<|ae (ws k) k<|an<|tn<|sR<|lp k8<|ae (ws k) k<|an<|tn<|aE<|sp h (bD k k k (iJ (aU (k) (aU (cW cA k k) (aU (cW cA k k) fA)))))
def xU (a0:Mt):Option Mt:=
 (pA a0.cells).bind λv1=>
 some ((⟨a0.rows,a0.cols,v1⟩:Mt))
theorem aJD (a0:Mt) (r:Mt) (h:xU a0=some r):HasC Tryz.prog 99 [.agg (eM a0)] (.agg (eM r)):=by
 refine hM [.cell 2 91] Tryz.func99 Tryz.ntmps99 k<|sR<|ae (wb k) k<|ae (bX aJ k k) k<|an<|tn<|sR<|ae (bX aJ k k) k<|an<|tn<|sR<|fp k8<|lp k8<|fp k8<|ae (ws k) k<|an<|tn<|sR<|fp k8<|lp k8<|fp k8<|ae (ws k) k<|an<|tn<|sR ?_;exact fp k8<|lp k8<|oB h λv1 hv1 h=>ae (cL cA (aAp a0.cells v1 hv1) k3 (cJ k aO)) k<|fp k8<|ae (ws k) k<|an<|tn<|sR<|lp k8<|ae (ws k) k<|an<|tn<|aE<|sp h (bD k k k (iJ (aU (k) (aU (k) (aU (cW cA k k) fA)))))
def pJ (a0:(List Mt)) (x1:((List Mt)×Int)):Option (((List Mt)×Int) ⊕ (List Mt)):=
 bif decide (x1.2<(a0.length:Int)) then
 ((cY a0 x1.2).bind λv2=>
 (xU v2).bind λv3=>
 (cY x1.1 x1.2).bind λv4=>
 some (.inl ((x1.1.set x1.2.toNat v3),wr (x1.2+1))))
 else
 (some (.inr x1.1))
def vJ (a0:(List Mt)):Option (List Mt):=
 bif (decide (0≤(a0.length:Int))&&decide ((a0.length:Int)≤1048576)) then
 ((Lp (pJ a0) ((List.replicate ((a0.length:Int).toNat) ((⟨0,0,[]⟩:Mt):Mt)),0)).bind λy5=>
 some (y5))
 else none
theorem aHr (a0:(List Mt)) (r:(List Mt)) (h:vJ a0=some r):HasC Tryz.prog 50 [.list 3 (a0.map eM)] (.list 3 (r.map eM)):=by
 refine hM [.tmp 2] Tryz.func50 Tryz.ntmps50 k<|sR<|aT k2<|sR<|am k k<|ln k4<|cG h λq6 h=>ae (aCD aJ q6 k k k k k k k k) k<|aT k2<|aI (t:=mN [(0,.list 3 (a0.map eM)),(3,.own 0 0 ((List.replicate ((a0.length:Int).toNat) ((⟨0,0,[]⟩:Mt):Mt)).length))] [(0,⟨3,List.map (ow eM) (List.replicate ((a0.length:Int).toNat) ((⟨0,0,[]⟩:Mt):Mt))⟩)] 1) (bP (kT 1 k2 (gH ⟨_,k,⟨k,k,(by simp only [aH,lA,lT,lR,lC,lN]),k⟩⟩ aQ)) (hX ⟨_,k,k,.inr (aQV (e:=eM) (z:=(⟨0,0,[]⟩:Mt)) (zc:=[.int 0,.int 0,.nil 1]) ⟨_,_,k,k,⟨_,_,k,k,⟨_,_,k,k,k⟩⟩⟩ _)⟩ k<|aQ) k4)<|sQ<|sR<|aT k2<|aD<|oB h λy5 hy5 h=>cC (body:=(pJ a0)) hy5 (λ(x1:((List Mt)×Int))=>mN [(0,.list 3 (a0.map eM)),(3,.own 0 0 x1.1.length),(4,.int x1.2)] [(0,⟨3,x1.1.map (ow eM)⟩)] 1) (λr e t=>e= .exit 0∧Ent t (mN [(3,.own 0 0 r.length)] [(0,⟨3,r.map (ow eM)⟩)] 1)) (bP (bG k2) (bW (aX.plainO _) k<|aQ) k4) ?_ ?_
 ·intro x1 o h;exact sQ<|sR<|am k k<|am k k<|ln k4<|cm k4<|an<|tn<|cN k h (λ_ h=>aG<|tn<|sQ<|aD<|rg<|am k k<|am k k<|am k k<|am k k<|oB h λv2 hv2 h=>ae (xl hv2 k) k<|lr k7<|oB h λv3 hv3 h=>ae (cM (aJD v2 v3 hv3) k3 (aL (eV k) aO)) k<|oB h λv4 hv4 h=>ae (xo hv4 k) k<|ae (aGk aJ k k k k k k (aAa (dF hv4)) k) k<|an<|bB<|tn<|rg<|am k k<|ae (bF k k) k<|aT k2<|sp h ⟨_,k,(Ent.trans (show Ent _ (mN [(0,.list 3 (a0.map eM)),(3,.own 0 0 ((x1.1.set x1.2.toNat v3).length)),(4,.int (wr (x1.2+1)))] [(0,⟨3,List.map (ow eM) (x1.1.set x1.2.toNat v3)⟩)] 2) from (Ent.trans (qC (b:=0) (b':=1) (j:=2) (es':=v3.cells.map eI) (by rw [dC];exact eX hv4) k k k k (aH _ _) (cA.frzs _)) (bP (kT 1 k2 (gH ⟨_,k,⟨k,k,(by simp only [aH,lA,lT,lR,lC,lN]),k⟩⟩ (bG k2))) (hX ⟨_,k,k,.inl ⟨aCF v3 k,aX.plainO _⟩⟩ k<|aQ) k4))) (bP (bG k2) (bW (aX.plainO _) k<|aQ) k4))⟩) λ_ h=>aY<|aB<|aB<|sp h ⟨_,k,k,(bP (bG k2) (bW (aX.plainO _) k<|aQ) k4)⟩
 ·rintro e t ⟨rfl,hent⟩;exact aN<|tn<|aI hent<|sR<|am k k<|aT k2<|aE<|sp h (bD k k k (fH (cW aX k k)))
def rL (a0:Rp):Option Rp:=
 (xT a0.q).bind λv1=>
 (pA a0.dims).bind λv2=>
 (vJ a0.maps).bind λv3=>
 some ((⟨a0.p,v1,v2,v3⟩:Rp))
theorem aBk (a0:Rp) (r:Rp) (h:rL a0=some r):HasC Tryz.prog 21 [.agg (eR a0)] (.agg (eR r)):=by
 refine hM [.cell 2 29] Tryz.func21 Tryz.ntmps21 k<|sR<|ae (wb k) k<|ae (bX aJ k k) k<|an<|tn<|sR<|ae (bX aJ k k) k<|an<|tn<|sR<|fp k8<|lp k8<|fp k8<|ae (ws k) k<|an<|tn<|sR<|fp k8<|lp k8<|oB h λv1 hv1 h=>ae (cQ (aJC a0.q v1 hv1) k3 (aL (eV k) aO)) k<|fp k8<|ae (ws k) k<|an<|tn<|sQ ?_;exact rg<|fp k8<|lp k8<|oB h λv2 hv2 h=>ae (cL cA (aAp a0.dims v2 hv2) k3 (cJ k aO)) k<|fp k8<|ae (ws k) k<|an<|tn<|sR<|fp k8<|lp k8<|oB h λv3 hv3 h=>ae (cL aX (aHr a0.maps v3 hv3) k3 (cJ k aO)) k<|fp k8<|ae (ws k) k<|an<|tn<|sR<|lp k8<|ae (ws k) k<|an<|tn<|aI (t:=mN [(2,.ptr 1 0 0)] [(1,⟨6,[[.int a0.p,.int v1.n,.own 3 0 v1.src.length,.own 4 0 v1.tgt.length,.own 5 0 v2.length,.own 6 0 v3.length]]⟩),(3,⟨1,v1.src.map (ow eI)⟩),(4,⟨1,v1.tgt.map (ow eI)⟩),(5,⟨1,v2.map (ow eI)⟩),(6,⟨3,v3.map (ow eM)⟩)] 7) (bP (bG k2) (eJ k<|bN k<|bN k<|bN k<|bW (aX.plainO _) k<|aQ) k4)<|aE<|sp h (bD k k k (iJ (aU (k) (aU (k) (aU (cW cA k k) (aU (cW cA k k) (aU (cW cA k k) (aU (cW aX k k) fA))))))))
def aAg (a0:(List Int)) (a1:(List Int)) (x1:Int):Option (Int ⊕ (Unit ⊕ Bool)):=
 bif decide (x1<(a0.length:Int)) then
 ((cY a0 x1).bind λv3=>
 (cY a1 x1).bind λv4=>
 bif !decide (v3=v4) then
 (some (.inr (.inr (false))))
 else
 (some (.inl (wr (x1+1)))))
 else
 (some (.inr (.inl ())))
def lK (a0:(List Int)) (a1:(List Int)):Option Bool:=
 bif !decide ((a0.length:Int)=(a1.length:Int)) then
 (some (false))
 else
 ((Lp (aAg a0 a1) 0).bind λy6=>
 Sum.elim (λy7=>
 some (true)
 )
 (λy8=>
 some y8
 )
 y6)
theorem sT (a0:(List Int)) (a1:(List Int)) (r:Bool) (h:lK a0 a1=some r):HasC Tryz.prog 14 [.list 1 (a0.map eI),.list 1 (a1.map eI)] (.bl r):=by
 refine hM [.tmp 4] Tryz.func14 Tryz.ntmps14 k<|sR<|aT k2<|sQ<|sR<|am k k<|ln k4<|am k k<|ln k4<|cm k4<|an<|tn<|cN k h (λ_ h=>sR<|aT k2<|aE<|aC<|gK h k2) λ_ h=>?_;refine aG<|tn<|sQ<|sR<|aT k2<|aD<|oB h λy6 hy6 h=>cC (body:=(aAg a0 a1)) hy6 (λ(x1:Int)=>mN [(0,.list 1 (a0.map eI)),(1,.list 1 (a1.map eI)),(5,.int x1)] [] 0) (λr e t=>Sum.elim (λa=>(λr e t=>e= .exit 0∧Ent t (mN [] [] 0)) a e t) (λb=>(λr e t=>e= .ret∧mW TT [.tmp 4] (.bl r) .ret t) b e t) r) (bP (bG k2) aQ k4) ?_ ?_
 ·intro x1 o h;exact sQ<|sR<|am k k<|am k k<|ln k4<|cm k4<|an<|tn<|cN k h (λ_ h=>aG<|tn<|sQ<|aD<|sQ<|aP fB<|am k k<|am k k<|oB h λv3 hv3 h=>ae (xl hv3 k) k<|lr k7<|am k k<|am k k<|oB h λv4 hv4 h=>ae (xl hv4 k) k<|lr k7<|cm k4<|an<|lL (by kernel_rfl)<|tn<|cN k h (λ_ h=>sR<|aT k2<|aE<|bC<|aC<|aC<|sp h ⟨_,k,k,bD k k k (lF k)⟩) λ_ h=>aG<|bB<|tn<|rg<|am k k<|ae (bF k k) k<|aT k2<|sp h ⟨_,k,(bP (bG k2) aQ k4)⟩) λ_ h=>aY<|aB<|aB<|sp h ⟨_,k,k,(bP aQ aQ k4)⟩
 ·intro e t hX;rcases y6 with y7|y8
  ·obtain ⟨rfl,hent⟩:=hX;exact aN<|tn<|aI hent<|sR<|aT k2<|aE<|gK h k2
  ·obtain ⟨rfl,hent⟩:=hX;exact bC<|aC<|sp h hent
def xV (a0:Qv) (a1:Qv):Option Bool:=
 bif !decide (a0.n=a1.n) then
 (some (false))
 else
 ((lK a0.src a1.src).bind λv2=>
 bif !v2 then
 (some (false))
 else
 ((lK a0.tgt a1.tgt).bind λv4=>
 bif !v4 then
 (some (false))
 else
 (some (true))))
theorem aJE (a0:Qv) (a1:Qv) (r:Bool) (h:xV a0 a1=some r):HasC Tryz.prog 13 [.agg (eQ a0),.agg (eQ a1)] (.bl r):=by
 exact hM [.tmp 4] Tryz.func13 Tryz.ntmps13 k<|sR<|ae (wb k) k<|ae (wb k) k<|aT k2<|sQ<|sR<|fp k8<|lp k8<|fp k8<|lp k8<|cm k4<|an<|tn<|cN k h (λ_ h=>sR<|aT k2<|aE<|aC<|gK h k2) λ_ h=>aG<|tn<|sQ<|sR<|fp k8<|lp k8<|fp k8<|lp k8<|oB h λv2 hv2 h=>ae (aS (sT a0.src a1.src v2 hv2) k (cJ k (cJ k aO))) k<|ae (dI k) k<|an<|tn<|cN k h (λ_ h=>sR<|aT k2<|aE<|aC<|gK h k2) λ_ h=>aG<|tn<|sQ<|sR<|fp k8<|lp k8<|fp k8<|lp k8<|oB h λv4 hv4 h=>ae (aS (sT a0.tgt a1.tgt v4 hv4) k (cJ k (cJ k aO))) k<|ae (dI k) k<|an<|tn<|cN k h (λ_ h=>sR<|aT k2<|aE<|aC<|gK h k2) λ_ h=>aG<|tn<|sR<|aT k2<|aE<|gK h k2
def xW (a0:Mt) (a1:Mt):Option Bool:=
 bif !decide (a0.rows=a1.rows) then
 (some (false))
 else
 (bif !decide (a0.cols=a1.cols) then
 (some (false))
 else
 ((lK a0.cells a1.cells).bind λv3=>
 bif !v3 then
 (some (false))
 else
 (some (true))))
theorem aJF (a0:Mt) (a1:Mt) (r:Bool) (h:xW a0 a1=some r):HasC Tryz.prog 85 [.agg (eM a0),.agg (eM a1)] (.bl r):=by
 exact hM [.tmp 4] Tryz.func85 Tryz.ntmps85 k<|sR<|ae (wb k) k<|ae (wb k) k<|aT k2<|sQ<|sR<|fp k8<|lp k8<|fp k8<|lp k8<|cm k4<|an<|tn<|cN k h (λ_ h=>sR<|aT k2<|aE<|aC<|gK h k2) λ_ h=>aG<|tn<|sQ<|sR<|fp k8<|lp k8<|fp k8<|lp k8<|cm k4<|an<|tn<|cN k h (λ_ h=>sR<|aT k2<|aE<|aC<|gK h k2) λ_ h=>aG<|tn<|sQ<|sR<|fp k8<|lp k8<|fp k8<|lp k8<|oB h λv3 hv3 h=>ae (aS (sT a0.cells a1.cells v3 hv3) k (cJ k (cJ k aO))) k<|ae (dI k) k<|an<|tn<|cN k h (λ_ h=>sR<|aT k2<|aE<|aC<|gK h k2) λ_ h=>aG<|tn<|sR<|aT k2<|aE<|gK h k2
def pK (a0:(List Mt)) (a1:(List Mt)) (x1:Int):Option (Int ⊕ (Unit ⊕ Bool)):=
 bif decide (x1<(a0.length:Int)) then
 ((cY a0 x1).bind λv3=>
 (cY a1 x1).bind λv4=>
 (xW v3 v4).bind λv5=>
 bif !v5 then
 (some (.inr (.inr (false))))
 else
 (some (.inl (wr (x1+1)))))
 else
 (some (.inr (.inl ())))
def qJ (a0:(List Mt)) (a1:(List Mt)):Option Bool:=
 bif !decide ((a0.length:Int)=(a1.length:Int)) then
 (some (false))
 else
 ((Lp (pK a0 a1) 0).bind λy7=>
 Sum.elim (λy8=>
 some (true)
 )
 (λy9=>
 some y9
 )
 y7)
theorem aDS (a0:(List Mt)) (a1:(List Mt)) (r:Bool) (h:qJ a0 a1=some r):HasC Tryz.prog 40 [.list 3 (a0.map eM),.list 3 (a1.map eM)] (.bl r):=by
 refine hM [.tmp 4] Tryz.func40 Tryz.ntmps40 k<|sR<|aT k2<|sQ<|sR<|am k k<|ln k4<|am k k<|ln k4<|cm k4<|an<|tn<|cN k h (λ_ h=>sR<|aT k2<|aE<|aC<|gK h k2) λ_ h=>?_;refine aG<|tn<|sQ<|sR<|aT k2<|aD<|oB h λy7 hy7 h=>cC (body:=(pK a0 a1)) hy7 (λ(x1:Int)=>mN [(0,.list 3 (a0.map eM)),(1,.list 3 (a1.map eM)),(5,.int x1)] [] 0) (λr e t=>Sum.elim (λa=>(λr e t=>e= .exit 0∧Ent t (mN [] [] 0)) a e t) (λb=>(λr e t=>e= .ret∧mW TT [.tmp 4] (.bl r) .ret t) b e t) r) (bP (bG k2) aQ k4) ?_ ?_
 ·intro x1 o h;exact sQ<|sR<|am k k<|am k k<|ln k4<|cm k4<|an<|tn<|cN k h (λ_ h=>aG<|tn<|sQ<|aD<|sQ<|aP fB<|am k k<|am k k<|oB h λv3 hv3 h=>ae (xl hv3 k) k<|lr k7<|am k k<|am k k<|oB h λv4 hv4 h=>ae (xl hv4 k) k<|lr k7<|oB h λv5 hv5 h=>ae (aS (aJF v3 v4 v5 hv5) k (aL (eV k) (aL (eV k) aO))) k<|ae (dI k) k<|an<|lL (by kernel_rfl)<|tn<|cN k h (λ_ h=>sR<|aT k2<|aE<|bC<|aC<|aC<|sp h ⟨_,k,k,bD k k k (lF k)⟩) λ_ h=>aG<|bB<|tn<|rg<|am k k<|ae (bF k k) k<|aT k2<|sp h ⟨_,k,(bP (bG k2) aQ k4)⟩) λ_ h=>aY<|aB<|aB<|sp h ⟨_,k,k,(bP aQ aQ k4)⟩
 ·intro e t hX;rcases y7 with y8|y9
  ·obtain ⟨rfl,hent⟩:=hX;exact aN<|tn<|aI hent<|sR<|aT k2<|aE<|gK h k2
  ·obtain ⟨rfl,hent⟩:=hX;exact bC<|aC<|sp h hent
def rM (a0:Rp) (a1:Rp):Option Bool:=
 bif !decide (a0.p=a1.p) then
 (some (false))
 else
 ((xV a0.q a1.q).bind λv2=>
 bif !v2 then
 (some (false))
 else
 ((lK a0.dims a1.dims).bind λv4=>
 bif !v4 then
 (some (false))
 else
 ((qJ a0.maps a1.maps).bind λv6=>
 bif !v6 then
 (some (false))
 else
 (some (true)))))
theorem aBl (a0:Rp) (a1:Rp) (r:Bool) (h:rM a0 a1=some r):HasC Tryz.prog 12 [.agg (eR a0),.agg (eR a1)] (.bl r):=by
 exact hM [.tmp 4] Tryz.func12 Tryz.ntmps12 k<|sR<|ae (wb k) k<|ae (wb k) k<|aT k2<|sQ<|sR<|fp k8<|lp k8<|fp k8<|lp k8<|cm k4<|an<|tn<|cN k h (λ_ h=>sR<|aT k2<|aE<|aC<|gK h k2) λ_ h=>aG<|tn<|sQ<|sR<|fp k8<|lp k8<|fp k8<|lp k8<|oB h λv2 hv2 h=>ae (aS (aJE a0.q a1.q v2 hv2) k (aL (eV k) (aL (eV k) aO))) k<|ae (dI k) k<|an<|tn<|cN k h (λ_ h=>sR<|aT k2<|aE<|aC<|gK h k2) λ_ h=>aG<|tn<|sQ<|sR<|fp k8<|lp k8<|fp k8<|lp k8<|oB h λv4 hv4 h=>ae (aS (sT a0.dims a1.dims v4 hv4) k (cJ k (cJ k aO))) k<|ae (dI k) k<|an<|tn<|cN k h (λ_ h=>sR<|aT k2<|aE<|aC<|gK h k2) λ_ h=>aG<|tn<|sQ<|sR<|fp k8<|lp k8<|fp k8<|lp k8<|oB h λv6 hv6 h=>ae (aS (aDS a0.maps a1.maps v6 hv6) k (cJ k (cJ k aO))) k<|ae (dI k) k<|an<|tn<|aI (t:=mN [(27,.bl (!v6))] [] 2) (bP (bG k2) aQ k4)<|cN k h (λ_ h=>sR<|aT k2<|aE<|aC<|gK h k2) λ_ h=>aG<|tn<|sR<|aT k2<|aE<|gK h k2
def vK (a0:(List Rp)) (a1:(List Rp)) (x1:Int):Option (Int ⊕ (Unit ⊕ Bool)):=
 bif decide (x1<(a0.length:Int)) then
 ((cY a0 x1).bind λv3=>
 (cY a1 x1).bind λv4=>
 (rM v3 v4).bind λv5=>
 bif !v5 then
 (some (.inr (.inr (false))))
 else
 (some (.inl (wr (x1+1)))))
 else
 (some (.inr (.inl ())))
def aAq (a0:(List Rp)) (a1:(List Rp)):Option Bool:=
 bif !decide ((a0.length:Int)=(a1.length:Int)) then
 (some (false))
 else
 ((Lp (vK a0 a1) 0).bind λy7=>
 Sum.elim (λy8=>
 some (true)
 )
 (λy9=>
 some y9
 )
 y7)
theorem aLY (a0:(List Rp)) (a1:(List Rp)) (r:Bool) (h:aAq a0 a1=some r):HasC Tryz.prog 64 [.list 6 (a0.map eR),.list 6 (a1.map eR)] (.bl r):=by
 refine hM [.tmp 4] Tryz.func64 Tryz.ntmps64 k<|sR<|aT k2<|sQ<|sR<|am k k<|ln k4<|am k k<|ln k4<|cm k4<|an<|tn<|cN k h (λ_ h=>sR<|aT k2<|aE<|aC<|gK h k2) λ_ h=>?_;refine aG<|tn<|sQ<|sR<|aT k2<|aD<|oB h λy7 hy7 h=>cC (body:=(vK a0 a1)) hy7 (λ(x1:Int)=>mN [(0,.list 6 (a0.map eR)),(1,.list 6 (a1.map eR)),(5,.int x1)] [] 0) (λr e t=>Sum.elim (λa=>(λr e t=>e= .exit 0∧Ent t (mN [] [] 0)) a e t) (λb=>(λr e t=>e= .ret∧mW TT [.tmp 4] (.bl r) .ret t) b e t) r) (bP (bG k2) aQ k4) ?_ ?_
 ·intro x1 o h;exact sQ<|sR<|am k k<|am k k<|ln k4<|cm k4<|an<|tn<|cN k h (λ_ h=>aG<|tn<|sQ<|aD<|sQ<|aP fB<|am k k<|am k k<|oB h λv3 hv3 h=>ae (xl hv3 k) k<|lr k7<|am k k<|am k k<|oB h λv4 hv4 h=>ae (xl hv4 k) k<|lr k7<|oB h λv5 hv5 h=>ae (aS (aBl v3 v4 v5 hv5) k (aL (eV k) (aL (eV k) aO))) k<|ae (dI k) k<|an<|lL (by kernel_rfl)<|tn<|cN k h (λ_ h=>sR<|aT k2<|aE<|bC<|aC<|aC<|sp h ⟨_,k,k,bD k k k (lF k)⟩) λ_ h=>aG<|bB<|tn<|rg<|am k k<|ae (bF k k) k<|aT k2<|sp h ⟨_,k,(bP (bG k2) aQ k4)⟩) λ_ h=>aY<|aB<|aB<|sp h ⟨_,k,k,(bP aQ aQ k4)⟩
 ·intro e t hX;rcases y7 with y8|y9
  ·obtain ⟨rfl,hent⟩:=hX;exact aN<|tn<|aI hent<|sR<|aT k2<|aE<|gK h k2
  ·obtain ⟨rfl,hent⟩:=hX;exact bC<|aC<|sp h hent
end
noncomputable section
def zI (n:Nat) (left:Int):Int:=if left - n<0 then -1 else left - n
def zC:List (Int→Int)→Int→Int
 | [],left=>left
 |f::fs,left=>if f left<0 then -1 else zC fs (f left)
def zS {α:Type} (f:α→Int→Int) (l:List α) (left:Int):Int:=if left - l.length<0 then -1 else zC (l.map f) (left - l.length)
def zQ (q:Qv):Int→Int:=zC [zI q.src.length,zI q.tgt.length]
def zM (m:Mt):Int→Int:=zC [zI m.cells.length]
def zR (r:Rp):Int→Int:=zC [zQ r.q,zI r.dims.length,zS zM r.maps]
def aCh (f:Int→Int) (b:Prop):Prop:= ∀ left,0≤left→left≤1048576→f left= -1∨(0≤f left∧f left≤left∧b)
theorem aCi (n:Nat):aCh (zI n) (n≤1048576):=by
 intro left h0 h1;unfold zI;by_cases h:left - n<0
 ·rw [aW h];exact .inl rfl
 ·rw [aZ h];exact .inr ⟨by omega,by omega,by omega⟩
theorem aHs:aCh (zC []) True:=λleft h0 _=> .inr ⟨h0,Int.le_refl _,trivial⟩
theorem yW {f:Int→Int} {fs:List (Int→Int)} {b bs:Prop} (h:aCh f b) (k:aCh (zC fs) bs):aCh (zC (f::fs)) (b∧bs):=by
 intro left h0 h1;unfold zC;rcases h left h0 h1 with e|⟨e1,e2,e3⟩
 ·rw [e,aW (by decide)];exact .inl rfl
 ·rw [aZ (by omega)];rcases k (f left) e1 (by omega) with g|⟨g1,g2,g3⟩
  ·exact .inl g
  ·exact .inr ⟨g1,by omega,e3,g3⟩
theorem aMN {α:Type} {f:α→Int→Int} {b:α→Prop} (h: ∀ x,aCh (f x) (b x)): ∀ l:List α,aCh (zC (l.map f)) (∀ x∈l,b x)
 | []=>λleft h0 _=> .inr ⟨h0,Int.le_refl _,by simp⟩
 |x::l=>λleft h0 h1=>by
  rcases yW (h x) (aMN h l) left h0 h1 with e|⟨e1,e2,e3,e4⟩
  ·exact .inl e
  ·exact .inr ⟨e1,e2,λy hy=>by rcases fE.1 hy with rfl|h';exact e3;exact e4 y h'⟩
theorem aRb {α:Type} {f:α→Int→Int} {b:α→Prop} (h: ∀ x,aCh (f x) (b x)) (l:List α):aCh (zS f l) (l.length≤1048576∧ ∀ x∈l,b x):=by
 intro left h0 h1;unfold zS;by_cases e:left - l.length<0
 ·rw [aW e];exact .inl rfl
 ·rw [aZ e];rcases aMN h l (left - l.length) (by omega) (by omega) with g|⟨g1,g2,g3⟩
  ·exact .inl g
  ·exact .inr ⟨g1,by omega,by omega,g3⟩
def bI (l:List Int):Prop:=l.length≤1048576
def bQ (q:Qv):Prop:=bI q.src∧bI q.tgt∧True
def bM (m:Mt):Prop:=bI m.cells∧True
def bR (r:Rp):Prop:=bQ r.q∧bI r.dims∧(r.maps.length≤1048576∧ ∀ m∈r.maps,bM m)∧True
def bS (s:Sc):Prop:=(s.basis.length≤1048576∧ ∀ v∈s.basis,bI v)∧True
theorem aRc (q:Qv):aCh (zQ q) (bQ q):=yW (aCi _) (yW (aCi _) aHs)
theorem aNO (m:Mt):aCh (zM m) (bM m):=yW (aCi _) aHs
theorem aVv (r:Rp):aCh (zR r) (bR r):=yW (aRc _) (yW (aCi _) (yW (aRb aNO _) aHs))
def fI {α:Type} (l:List α):Prop:=l.length≤9223372036854775807
theorem aFJ {o:Option Int} {z:Int→Int} {zs:List (Int→Int)} {b:Prop} {left:Int} {k:Int→Option Int} (ho:o=some (z left)) (hf:aCh z b) (h0:0≤left) (h1:left≤1048576) (hk: ∀ v,0≤v→v≤1048576→k v=some (zC zs v)):
  Option.bind o (λv=>bif decide (v<0) then some (-1) else k v)=some (zC (z::zs) left):=by
 rw [ho,aA];unfold zC;rcases hf left h0 h1 with e|⟨e1,e2,_⟩
 ·rw [e];rfl
 ·rw [aZ (by omega),dU (by omega: ¬ z left<0),aR];exact hk _ e1 (by omega)
theorem aVw {α:Type} {body:Int×Int→Option ((Int×Int) ⊕ (Int ⊕ Int))} {f:α→Int→Int} {b:α→Prop} {l:List α} (hf: ∀ x,aCh (f x) (b x)) (hl:l.length≤1048576)
  (hs: ∀ (v:Int) (k:Nat) (hk:k<l.length),0≤v→v≤1048576→body (v,k)=some (bif decide (f l[k] v<0) then .inr (.inr (-1)) else .inl (f l[k] v,wr (k+1)))) (he: ∀ v,body (v,l.length)=some (.inr (.inl v))) (v:Int) (h0:0≤v) (h1:v≤1048576):
  Option.bind (Lp body (v,0)) (λy=>Sum.elim (λy=>some y) (λy=>some y) y)=some (zC (l.map f) v):=by
 have key: ∀ d k:Nat,k+d=l.length→ ∀ v:Int,0≤v→v≤1048576→Option.bind (Lp body (v,(k:Int))) (λy=>Sum.elim (λy=>some y) (λy=>some y) y)=some (zC ((l.drop k).map f) v):=by
  intro d;induction d with
  |zero=>
   intro k hk v _ _;rw [Nat.add_zero] at hk;subst hk;rw [gS (he v)];simp [zC]
  |succ d ih=>
   intro k hk v h0 h1;have h:=hs v k (by omega) h0 h1;rw [List.drop_eq_getElem_cons (by omega:k<l.length),List.map_cons];unfold zC;rcases hf l[k] v h0 h1 with e|⟨e1,e2,_⟩
   ·rw [e] at h ⊢;rw [gS (r:= .inr (-1)) (by rw [h];rfl)];rfl
   ·rw [aZ (by omega)];rw [dU (by omega: ¬ f l[k] v<0),aR,bZ (n:=l.length) (by omega) (by omega)] at h;rw [qY h];exact ih (k+1) (by omega) _ e1 (by omega)
 have:=key l.length 0 (by omega) v h0 h1;simpa using this
theorem aVx {l:List Int} {left:Int} (hl:fI l) (h0:0≤left) (h1:left≤1048576):oZ l left=some (zI l.length left):=by
 unfold fI at hl;unfold oZ zI;rw [aTe (by omega)];by_cases h:left - l.length<0
 ·rw [bH h,aW h];rfl
 ·rw [dU h,aZ h];rfl
def fQ (q:Qv):Prop:=fI q.src∧fI q.tgt
theorem aYf {q:Qv} {left:Int} (hl:fQ q) (h0:0≤left) (h1:left≤1048576):aBU q left=some (zQ q left):=
 aFJ (aVx hl.1 h0 h1) (aCi _) h0 h1 λv g0 g1=>aFJ (aVx hl.2 g0 g1) (aCi _) g0 g1 λv _ _=>rfl
def fM (m:Mt):Prop:=fI m.cells
theorem aYg {m:Mt} {left:Int} (hl:fM m) (h0:0≤left) (h1:left≤1048576):aBV m left=some (zM m left):=
 aFJ (aVx hl h0 h1) (aCi _) h0 h1 λv _ _=>rfl
def fMs (l:List Mt):Prop:=fI l∧ ∀ m∈l,fM m
theorem aXx {l:List Mt} {left:Int} (hl:fMs l) (h0:0≤left) (h1:left≤1048576):vH l left=some (zS zM l left):=by
 obtain ⟨ha,hb⟩:=hl;unfold fI at ha;unfold vH zS;rw [aTe (by omega)];by_cases h:left - l.length<0
 ·rw [bH h,aW h];rfl
 ·rw [dU h,aZ h,aR];refine aVw (f:=zM) aNO (by omega) (λv k hk g0 g1=>?_) (λv=>?_) _ (by omega) (by omega)
  ·unfold pI;simp only;rw [gA hk,aM,cX hk,aA,aYg (hb _ (List.getElem_mem hk)) g0 g1,aA];cases decide (zM l[k] v<0) <;> rfl
  ·unfold pI;simp only;rw [gN (bJ _),aR]
def fR (r:Rp):Prop:=fQ r.q∧fI r.dims∧fMs r.maps
theorem aYi {r:Rp} {left:Int} (hl:fR r) (h0:0≤left) (h1:left≤1048576):aDx r left=some (zR r left):=
 aFJ (aYf hl.1 h0 h1) (aRc _) h0 h1 λv g0 g1=>aFJ (aVx hl.2.1 g0 g1) (aCi _) g0 g1 λv g2 g3=>aFJ (aXx hl.2.2 g2 g3) (aRb aNO _) g2 g3 λv _ _=>rfl
theorem aMO {α:Type} {body:List α×Int→Option ((List α×Int) ⊕ List α)} {l:List α} (z:α) (hl:l.length≤4611686018427387904)
  (hs: ∀ (k:Nat) (hk:k<l.length) (r:List α),r.length=l.length→body (r,k)=some (.inl (r.set k l[k],wr (k+1)))) (he: ∀ r,body (r,l.length)=some (.inr r)):Lp body (List.replicate ((l.length:Int).toNat) z,0)=some l:=by
 refine aTf (λk=>(l.take k++List.replicate (l.length - k) z,(k:Int))) l.length (by simp) (λk hk=>?_) ?_
 ·rw [hs k hk _ (by simp;omega),bZ hk hl];congr 3;rw [show l.length - k=(l.length - (k+1))+1 by omega,List.replicate_succ,List.set_append_right _ _ (by simp;omega)];rw [zL hk,List.length_take,Nat.min_eq_left (Nat.le_of_lt hk),Nat.sub_self,List.set_cons_zero,List.append_assoc];rfl
 ·rw [he];simp
theorem aVy {l:List Int} (h:bI l):pA l=some l:=by
 unfold bI at h;unfold pA;rw [bH (by omega),bH (by omega:(l.length:Int)≤1048576),Bool.and_self,aM];rw [aMO 0 (by omega) (λk hk r hr=>?_) (λr=>?_)];rfl
 ·unfold vI;simp only;rw [gA hk,aM,cX hk,aA,cX (hr▸hk),aA,eN]
 ·unfold vI;simp only;rw [gN (bJ _),aR]
theorem aYj {q:Qv} (h:bQ q):xT q=some q:=by
 unfold xT;rw [aVy h.1,aA,aVy h.2.1,aA]
theorem aYk {m:Mt} (h:bM m):xU m=some m:=by
 unfold xU;rw [aVy h.1,aA]
theorem aXy {l:List Mt} (h:l.length≤1048576∧ ∀ m∈l,bM m):vJ l=some l:=by
 obtain ⟨h,hb⟩:=h;unfold vJ;rw [bH (by omega),bH (by omega:(l.length:Int)≤1048576),Bool.and_self,aM];rw [aMO _ (by omega) (λk hk r hr=>?_) (λr=>?_)];rfl
 ·unfold pJ;simp only;rw [gA hk,aM,cX hk,aA,aYk (hb _ (List.getElem_mem hk)),aA,cX (hr▸hk),aA,eN]
 ·unfold pJ;simp only;rw [gN (bJ _),aR]
theorem aYl {r:Rp} (h:bR r):rL r=some r:=by
 unfold rL;rw [aYj h.1,aA,aVy h.2.1,aA,aXy h.2.2.1,aA]
theorem aDT {α:Type} [DecidableEq α] {body:Int→Option (Int ⊕ (Unit ⊕ Bool))} {a b:List α} (hl:a.length≤4611686018427387904) (hab:a.length=b.length)
  (hs: ∀ (k:Nat) (h1:k<a.length) (h2:k<b.length),body k=some (bif decide (a[k]=b[k]) then .inl (wr (k+1)) else .inr (.inr false))) (he:body a.length=some (.inr (.inl ()))):
  Option.bind (Lp body 0) (λy=>Sum.elim (λ_=>some true) (λy=>some y) y)=some (decide (a=b)):=by
 have key: ∀ (P:Nat→Bool),(∀ (k:Nat) (h1:k<a.length) (h2:k<b.length),P k=decide (a[k]=b[k]))→Lp body 0=some (bif (List.range a.length).all P then .inl () else .inr false)→Option.bind (Lp body 0) (λy=>Sum.elim (λ_=>some true) (λy=>some y) y)=some (decide (a=b)):=by
  intro P hP e;rw [e,aA]
  have:(List.range a.length).all P=decide (a=b):=by
   rw [Bool.eq_iff_iff,sK,lD];constructor
   ·intro h;refine List.ext_getElem hab λk h1 h2=>?_;have:=h k h1;rw [hP k h1 h2] at this;exact of_decide_eq_true this
   ·rintro rfl k hk;rw [hP k hk hk];simp
  rw [this];cases decide (a=b) <;> rfl
 refine key (λk=>if h:k<a.length then if h2:k<b.length then decide (a[k]=b[k]) else false else false) (λk h1 h2=>by rw [dif_pos h1,dif_pos h2]) (wL _ _ hl (λk hk=>?_) (λ_=>he));rw [dif_pos hk,dif_pos (hab▸hk)];exact hs k hk (hab▸hk)
theorem aCJ {α β:Type} {a:List α} {b:List β} :decide ((a.length:Int)=(b.length:Int))=decide (a.length=b.length):=by
 rw [Bool.eq_iff_iff,lD,lD];omega
theorem aRd {body:Int→Option (Int ⊕ (Unit ⊕ Bool))} {a b:List Int} (hl:a.length≤4611686018427387904)
  (hb:body=λx=>bif decide (x<(a.length:Int)) then (Option.bind (cY a x) λv3=>Option.bind (cY b x) λv4=>bif !decide (v3=v4) then (some (.inr (.inr (false)))) else (some (.inl (wr (x+1))))) else (some (.inr (.inl ())))):
  (bif !decide ((a.length:Int)=(b.length:Int)) then some false else Option.bind (Lp body 0) (λy=>Sum.elim (λ_=>some true) (λy=>some y) y))=some (decide (a=b)):=by
 rw [aCJ];by_cases h:a.length=b.length
 ·rw [bH h,dW,aR];refine aDT hl h (λk h1 h2=>?_) ?_
  ·rw [hb];simp only;rw [gA h1,aM,cX h1,aA,cX h2,aA];cases decide (a[k]=b[k]) <;> rfl
  ·rw [hb];simp only;rw [gN (bJ _),aR]
 ·rw [dU h,Bool.not_false,aM,dU (by rintro rfl;exact h rfl)]
theorem jG {c d:Bool} {o:Option Bool} (h:c=true→o=some d):(bif !c then some false else o)=some (c&&d):=by cases c with|false=>rfl|true=>exact h rfl
theorem aSc {a b:List Int} (h:bI a):lK a b=some (decide (a=b)):=by
 unfold bI at h;exact aRd (body:=aAg a b) (by omega) rfl
theorem aJe {d:Bool} :(bif !d then some false else some true)=some d:=by cases d <;> rfl
theorem aYm {a b:Qv} (h:bQ a):xV a b=some (decide (a=b)):=by
 unfold xV;rw [jG (d:=decide (a.src=b.src)&&decide (a.tgt=b.tgt)) (λ_=>?_)]
 ·cases a;cases b;simp [Bool.and_assoc]
 ·rw [aSc h.1,aA];refine jG λ_=>?_;rw [aSc h.2.1,aA,aJe]
theorem aYn {a b:Mt} (h:bM a):xW a b=some (decide (a=b)):=by
 unfold xW;rw [jG (d:=decide (a.cols=b.cols)&&decide (a.cells=b.cells)) (λ_=>?_)]
 ·cases a;cases b;simp [Bool.and_assoc]
 ·refine jG λ_=>?_;rw [aSc h.1,aA,aJe]
theorem aWg {a b:List Mt} (h:a.length≤1048576∧ ∀ m∈a,bM m):qJ a b=some (decide (a=b)):=by
 obtain ⟨h,hb⟩:=h;unfold qJ;rw [aCJ];by_cases e:a.length=b.length
 ·rw [bH e,dW,aR];refine aDT (by omega) e (λk h1 h2=>?_) ?_
  ·unfold pK;rw [gA h1,aM,cX h1,aA,cX h2,aA,aYn (hb _ (List.getElem_mem h1)),aA];cases decide (a[k]=b[k]) <;> rfl
  ·unfold pK;rw [gN (bJ _),aR]
 ·rw [dU e,Bool.not_false,aM,dU (by rintro rfl;exact e rfl)]
theorem aVz {a b:Rp} (h:bR a):rM a b=some (decide (a=b)):=by
 unfold rM;rw [jG (d:=decide (a.q=b.q)&&(decide (a.dims=b.dims)&&decide (a.maps=b.maps))) (λ_=>?_)]
 ·cases a;cases b;simp [Bool.and_assoc]
 ·rw [aYm h.1,aA];refine jG λ_=>?_;rw [aSc h.2.1,aA];refine jG λ_=>?_;rw [aWg h.2.2.1,aA,aJe]
theorem aXz {a b:List Rp} (h:a.length≤1048576∧ ∀ m∈a,bR m):aAq a b=some (decide (a=b)):=by
 obtain ⟨h,hb⟩:=h;unfold aAq;rw [aCJ];by_cases e:a.length=b.length
 ·rw [bH e,dW,aR];refine aDT (by omega) e (λk h1 h2=>?_) ?_
  ·unfold vK;rw [gA h1,aM,cX h1,aA,cX h2,aA,aVz (hb _ (List.getElem_mem h1)),aA];cases decide (a[k]=b[k]) <;> rfl
  ·unfold vK;rw [gN (bJ _),aR]
 ·rw [dU e,Bool.not_false,aM,dU (by rintro rfl;exact e rfl)]
end
noncomputable section
open Go.ChangeShapes Go.WideShapes Go.ChangeAt Go.RowKit
theorem oI:aCG Tryz.prog 3 (aDN 1 eI):=aQS Tryz.underlying3
theorem oL:aCG Tryz.prog 22 (aDN 1 eL):=aGo Tryz.underlying22 (by decide) (by kernel_rfl) oI
theorem oQ:aCG Tryz.prog 24 (aDN 3 eQ):=by
 intro H enc w fuel cs d ps h hf;obtain ⟨x0,T0,u0⟩:=sO Tryz.underlying24 h hf aKM (i:=0) (ft:=3) rfl (k:=1) (by kernel_rfl) oI;obtain ⟨x1,T1,u1⟩:=sO Tryz.underlying24 h hf u0 (i:=1) (ft:=22) rfl (k:=1) (by kernel_rfl) oL;obtain ⟨x2,T2,u2⟩:=sO Tryz.underlying24 h hf u1 (i:=2) (ft:=22) rfl (k:=1) (by kernel_rfl) oL;exact ⟨⟨x0,x1,x2⟩,_,aKN Tryz.underlying24 h hf u2 (by kernel_rfl) _ rfl⟩
theorem oM:aCG Tryz.prog 101 (aDN 3 eM):=by
 intro H enc w fuel cs d ps h hf;obtain ⟨x0,T0,u0⟩:=sO Tryz.underlying101 h hf aKM (i:=0) (ft:=3) rfl (k:=1) (by kernel_rfl) oI;obtain ⟨x1,T1,u1⟩:=sO Tryz.underlying101 h hf u0 (i:=1) (ft:=3) rfl (k:=1) (by kernel_rfl) oI;obtain ⟨x2,T2,u2⟩:=sO Tryz.underlying101 h hf u1 (i:=2) (ft:=22) rfl (k:=1) (by kernel_rfl) oL;exact ⟨⟨x0,x1,x2⟩,_,aKN Tryz.underlying101 h hf u2 (by kernel_rfl) _ rfl⟩
theorem oMs:aCG Tryz.prog 41 (aDN 1 (λl:List Mt=>[.list 3 (l.map eM)])):=aGo Tryz.underlying41 (by decide) (by kernel_rfl) oM
theorem oR:aCG Tryz.prog 43 (aDN 6 eR):=by
 intro H enc w fuel cs d ps h hf;obtain ⟨x0,T0,u0⟩:=sO Tryz.underlying43 h hf aKM (i:=0) (ft:=3) rfl (k:=1) (by kernel_rfl) oI;obtain ⟨x1,T1,u1⟩:=sO Tryz.underlying43 h hf u0 (i:=1) (ft:=24) rfl (k:=3) (by kernel_rfl) oQ;obtain ⟨x2,T2,u2⟩:=sO Tryz.underlying43 h hf u1 (i:=2) (ft:=22) rfl (k:=1) (by kernel_rfl) oL;obtain ⟨x3,T3,u3⟩:=sO Tryz.underlying43 h hf u2 (i:=3) (ft:=41) rfl (k:=1) (by kernel_rfl) oMs;exact ⟨⟨x0,x1,x2,x3⟩,_,aKN Tryz.underlying43 h hf u3 (by kernel_rfl) _ rfl⟩
end
noncomputable section
theorem aRe {w:World} : ∀ {ds:List AV} {vs:List Value} {S:List Nat},RepVs w ds vs S→ ∀ d∈ds,∃ v S',RepD w d v S'
 | [],_,_,_,d,hd=>by cases hd
 |c::cs,vs,S,h,d,hd=>by
  simp only [RepVs] at h;obtain ⟨v,r,S1,S2,_,_,h3,h4⟩:=h;rcases fE.1 hd with rfl|h'
  ·exact ⟨v,S1,h3⟩
  ·exact aRe h4 d h'
theorem aRf {w:World} {b:Nat} : ∀ {ds:List AV} {o:Nat} {S:List Nat},RepCs w b o ds S→ ∀ d∈ds,∃ v S',RepD w d v S'
 | [],_,_,_,d,hd=>by cases hd
 |c::cs,o,S,h,d,hd=>by
  simp only [RepCs] at h;obtain ⟨v,S1,S2,_,_,_,_,h3,h4⟩:=h;rcases fE.1 hd with rfl|h'
  ·exact ⟨v,S1,h3⟩
  ·exact aRf h4 d h'
theorem aRg {w:World} {k b:Nat} : ∀ {es:List (List AV)} {o:Nat} {S:List Nat},RepEs w k b o es S→ ∀ cs∈es,∀ d∈cs,∃ v S',RepD w d v S'
 | [],_,_,_,cs,hc=>by cases hc
 |c::es,o,S,h,cs,hc=>by
  simp only [RepEs] at h;obtain ⟨S1,S2,_,_,h3,h4⟩:=h;rcases fE.1 hc with rfl|h'
  ·exact aRf h3
  ·exact aRg h4 cs h'
theorem aRh {w:World} {k:Nat} {es:List (List AV)} {v:Value} {S:List Nat} (h:RepD w (.list k es) v S):es.length≤9223372036854775807∧ ∀ cs∈es,∀ d∈cs,∃ v S',RepD w d v S':=by
 unfold RepD at h;obtain ⟨a,c,_,h2,h3,h4⟩:=h;have hm:maxLen≤9223372036854775807:=by decide
 refine ⟨by omega,?_⟩;rcases h4 with ⟨rfl,_⟩|⟨b,o,T,_,_,_,h5⟩
 ·intro cs hcs;cases hcs
 ·exact aRg h5
theorem aYA {w:World} {l:List Int} {v:Value} {S:List Nat} (h:RepD w (aFW l) v S):fI l:=by
 have:=(aRh (k:=1) (es:=List.map eI l) h).1
 rwa [dC] at this
theorem aNP {w:World} {ds:List AV} (h: ∀ d∈ds,∃ v S',RepD w d v S') {l:List Int} (hl:aFW l∈ds):fI l:=by
 obtain ⟨v,S,h⟩:=h _ hl;exact aYA h
theorem aUD {w:World} {ds:List AV} (h: ∀ d∈ds,∃ v S',RepD w d v S') {α:Type} {k:Nat} {e:α→List AV} {l:List α} (hl:AV.list k (l.map e)∈ds):fI l∧ ∀ x∈l,∀ d∈e x,∃ v S',RepD w d v S':=by
 obtain ⟨v,S,h⟩:=h _ hl;have:=aRh h;rw [dC] at this;exact ⟨this.1,λx hx=>this.2 _ (List.mem_map.2 ⟨x,hx,rfl⟩)⟩
theorem aYB {w:World} {m:Mt} (h: ∀ d∈eM m,∃ v S',RepD w d v S'):fM m:=aNP h (by simp [eM])
theorem aXC {w:World} {l:List Mt} {ds:List AV} (h: ∀ d∈ds,∃ v S',RepD w d v S') (hl:AV.list 3 (l.map eM)∈ds):fMs l:=by
 obtain ⟨h1,h2⟩:=aUD h hl;exact ⟨h1,λm hm=>aYB (h2 m hm)⟩
theorem aYC {w:World} {r:Rp} (h: ∀ d∈eR r,∃ v S',RepD w d v S'):fR r:=⟨⟨aNP h (by simp [eR]),aNP h (by simp [eR])⟩,aNP h (by simp [eR]),aXC h (by simp [eR])⟩
theorem aUE {w0 w:World} {v:Value} {S:List Nat} (h:aKC w (.bl true) v S):Ending.returned v= .returned (.bool true):=by rw [h.1]
end
noncomputable section
theorem kE {c d:Bool} {o:Option Bool} (h:c=true→o=some d):(bif c then o else some false)=some (c&&d):=by cases c with|false=>rfl|true=>exact h rfl
theorem aCK {c d:Bool} :(bif c then some d else some false)=some (c&&d):=by cases c <;> rfl
theorem aRi {x a b:Int} :(bif decide (a≤x) then some (decide (x≤b)) else some false)=some (inR x a b):=by
 rw [aCK];unfold inR;by_cases h1:a≤x <;> by_cases h2:x≤b <;> simp [h1,h2]
theorem aEj (x a b:Int):oY x a b=some (inR x a b):=aRi
theorem aCw (x a b:Int):lH x a b=some (inR x a b):=aRi
theorem aOs (p:Int):(bif decide (p=2) then some true else bif decide (p=3) then some true else some (decide (p=5)))=some (lP p):=by
 unfold lP;by_cases h2:p=2 <;> by_cases h3:p=3 <;> by_cases h5:p=5 <;> simp [h2,h3,h5]
theorem aJf (p:Int):qF p=some (lP p):=aOs p
theorem aGu (p:Int):lX p=some (lP p):=aOs p
theorem aOt {a b:List Int} (h:bI a):aAn a b=some (decide (a=b)):=by
 unfold bI at h;exact aRd (body:=aAe a b) (by omega) rfl
theorem aSd {a b:Qv} (h:bQ a):pH a b=some (decide (a=b)):=by
 unfold pH;rw [kE (d:=decide (a.src=b.src)&&decide (a.tgt=b.tgt)) (λ_=>?_)]
 ·cases a;cases b;simp
 ·rw [aOt h.1,aA];refine kE λ_=>?_;rw [aOt h.2.1,aA]
theorem aHt (p:Int) {v:List Int} (h:bI v):nD p v=some (lP p&&decide (v.length≤64)&&v.all λx=>inR x 0 (wr (p - 1))):=by
 unfold bI at h;unfold nD;rw [aJf,aA];cases lP p with
 |false=>rfl
 |true=>
  rw [dW,aR,Bool.true_and];by_cases h64:v.length≤64
  ·rw [dU (by omega),aR,bH h64,Bool.true_and];rw [wL (λk=>inR (v[k]?.getD 0) 0 (wr (p - 1))) false (n:=v.length) (by omega) (λk hk=>?_) (λ_=>?_),aDI 0 v (λx=>inR x 0 (wr (p - 1))),aA]
   ·cases v.all _ <;> rfl
   ·unfold rE;rw [gA hk,aM,iN 0 hk,aA,aCw,aA];cases inR _ 0 _ <;> rfl
   ·unfold rE;rw [gN (bJ _),aR]
  ·rw [bH (by omega),aM,dU h64,Bool.false_and]
theorem aOu {v:List Int} {f:Int→Option Bool} (P:Int→Bool) (hf: ∀ x,f x=some (P x)) (h:bI v): ∃ i:Int,fD v f=some i∧decide (0≤i)=v.any P:=by
 unfold bI at h;unfold fD;rw [aAb (s0:=0) (s:=0) (n:=v.length) (λk=>bif P (v[k]?.getD 0) then some (k:Int) else none) rfl (by omega) (Nat.zero_le _) (λk _ hk=>?_) (λ_=>?_)]
 ·rw [aA];cases e:(List.range' 0 (v.length - 0)).findSome? (λk:Nat=>bif P (v[k]?.getD 0) then some (k:Int) else none) with
  |none=>
   refine ⟨-1,rfl,?_⟩;rw [List.findSome?_eq_none_iff] at e
   have:v.any P=false:=by
    rw [List.any_eq_false];intro x hx;obtain ⟨k,hk,rfl⟩:=List.mem_iff_getElem.1 hx;have:=e k (by simp;omega);simp only [iC hk,jP] at this;cases hp:P v[k] with
    |false=>simp
    |true=>rw [hp] at this;cases this
   rw [this];rfl
  |some i=>
   refine ⟨i,rfl,?_⟩;obtain ⟨k,hk,he⟩:=List.exists_of_findSome?_eq_some e;simp at hk;have hkl:k<v.length:=by omega
   rw [iC hkl] at he;simp only [jP] at he;cases hp:P v[k] with
   |false=>rw [hp] at he;cases he
   |true=>
    rw [hp] at he;cases he;rw [bH (by omega),eq_comm,List.any_eq_true];exact ⟨_,List.getElem_mem hkl,hp⟩
 ·unfold eH;rw [gA hk,aM,iN 0 hk,aA,hf,aA];cases P _ <;> rfl
 ·unfold eH;rw [gN (bJ _),aR]
theorem aCj {v:List Int} (h:bI v) (a b:Int):jJ v a b=some (v.all λx=>inR x a b):=by
 unfold jJ jI;obtain ⟨i,h1,h2⟩:=aOu (f:=λb0=>mA b0 a b) (λx=> !inR x a b) (λx=>by simp only [mA];rw [aEj,aA]) h;rw [h1,aA,aA,h2,List.not_any_eq_all_not];simp
theorem aSe (p:Int) {v:List Int} (h:bI v):xN p v=some (lP p&&decide (v.length≤64)&&v.all λx=>inR x 0 (wr (p - 1))):=by
 unfold xN;rw [aGu,aA,aCj h,aA,aCK,aCK,Bool.and_assoc];congr 3;rw [Bool.eq_iff_iff,lD,lD];omega
def aES (p:Int) (m:Mt):Bool:=inR m.rows 0 8&&(inR m.cols 0 8&&(decide ((m.cells.length:Int)=wr (m.rows*m.cols))&&(lP p&&decide (m.cells.length≤64)&&m.cells.all λx=>inR x 0 (wr (p - 1)))))
theorem aDU (p:Int) {m:Mt} (h:bM m):kI p m=some (aES p m):=by
 unfold kI aES;rw [aCw,aA];refine kE λ_=>?_;rw [aCw,aA];refine kE λ_=>?_;refine kE λ_=>?_;rw [aHt p h.1,aA]
theorem aSf (p:Int) {m:Mt} (h:bM m):xO p m=some (aES p m):=by
 unfold xO aES;rw [aEj,aA];refine kE λ_=>?_;rw [aEj,aA];refine kE λ_=>?_;refine kE λ_=>?_;rw [aSe p h.1,aA]
theorem aQa {p:Int} {m:Mt} (h:aES p m=true):lP p=true∧ ∃ (r c:Nat) (F:Nat→Nat→Int),r≤8∧c≤8∧m=⟨r,c,bY r c F⟩∧ ∀ i j,i<r→j<c→0≤F i j∧F i j<p:=by
 unfold aES at h;simp only [dD,lD,List.all_eq_true] at h;obtain ⟨h1,h2,h3,⟨h4,h5⟩,h6⟩:=h;have h1:=uM h1;have h2:=uM h2;refine ⟨h4,m.rows.toNat,m.cols.toNat,λi j=>m.cells[i*m.cols.toNat+j]?.getD 0,by omega,by omega,?_,?_⟩
 ·obtain ⟨a,b,l⟩:=m;simp only at*;obtain ⟨r,rfl⟩:=Int.eq_ofNat_of_zero_le h1.1;obtain ⟨c,rfl⟩:=Int.eq_ofNat_of_zero_le h2.1;have hb:r*c≤64:=Nat.mul_le_mul (by omega:r≤8) (by omega:c≤8);rw [aKI (by omega)] at h3;simp only [eN];rw [←aVj (by omega)]
 ·intro i j hi hj;show 0≤m.cells[i*m.cols.toNat+j]?.getD 0∧m.cells[i*m.cols.toNat+j]?.getD 0<p;have hx:=aCf hi hj
  have e:((m.rows.toNat*m.cols.toNat:Nat):Int)=m.rows*m.cols:=by
   rw [Int.natCast_mul,Int.toNat_of_nonneg h1.1,Int.toNat_of_nonneg h2.1]
  have hb:m.rows.toNat*m.cols.toNat≤64:=Nat.mul_le_mul (by omega:m.rows.toNat≤8) (by omega:m.cols.toNat≤8);rw [dV (by omega)] at h3;have hl:i*m.cols.toNat+j<m.cells.length:=by omega
  have:=uM (h6 _ (List.getElem_mem hl));rw [iC hl,jP];have hp:=eZ h4;rw [dV (by omega)] at this;omega
def aIl (q:Qv):Bool:=inR q.n 1 5&&(decide ((q.src.length:Int)=(q.tgt.length:Int))&&(decide ((q.src.length:Int)≤6)&&((q.src.all λx=>inR x 0 (wr (q.n - 1)))&&(q.tgt.all λx=>inR x 0 (wr (q.n - 1))))))
theorem aWA {q:Qv} (h:bQ q):xP q=some (aIl q):=by
 unfold xP aIl;rw [aEj,aA];refine kE λ_=>kE λ_=>kE λ_=>?_;rw [aCj h.1,aA];refine kE λ_=>?_;rw [aCj h.2.1,aA]
theorem aWB {q:Qv} (h:bQ q):xI q=some (aIl q):=by
 obtain ⟨h1,h2,_⟩:=h;unfold bI at h1 h2;unfold xI;rw [wL (n:=min q.src.length q.tgt.length) (λk=>inR (q.src[k]?.getD 0) 0 (wr (q.n - 1))&&inR (q.tgt[k]?.getD 0) 0 (wr (q.n - 1))) false (by omega) (λk hk=>?_) (λ_=>?_)]
 ·rw [aA];unfold aIl;by_cases e:q.src.length=q.tgt.length
  ·have e2:min q.src.length q.tgt.length=q.src.length:=by omega
   have hall:(List.range q.src.length).all (λk=>inR (q.src[k]?.getD 0) 0 (wr (q.n - 1))&&inR (q.tgt[k]?.getD 0) 0 (wr (q.n - 1)))=((q.src.all λx=>inR x 0 (wr (q.n - 1)))&&(q.tgt.all λx=>inR x 0 (wr (q.n - 1)))):=by
    rw [←aDI 0 q.src,←aDI 0 q.tgt,←e];rw [Bool.eq_iff_iff,dD,sK,sK,sK];simp only [dD];exact ⟨λh=>⟨λk hk=>(h k hk).1,λk hk=>(h k hk).2⟩,λh k hk=>⟨h.1 k hk,h.2 k hk⟩⟩
   rw [e2,hall,bH (by omega:(q.src.length:Int)=(q.tgt.length:Int))];cases (q.src.all λx=>inR x 0 (wr (q.n - 1)))&&(q.tgt.all λx=>inR x 0 (wr (q.n - 1))) with
   |false=>simp
   |true=>
    simp only [aM,Sum.elim_inl];rw [aCw,aA,bH (by omega:(q.tgt.length:Int)=(q.src.length:Int)),aCK,aCK];simp
  ·rw [dU (by omega: ¬ (q.src.length:Int)=(q.tgt.length:Int))];simp only [Bool.false_and,Bool.and_false];cases (List.range (min q.src.length q.tgt.length)).all _ with
   |false=>rfl
   |true=>
    simp only [aM,Sum.elim_inl];rw [aCw,aA,dU (by omega: ¬ (q.tgt.length:Int)=(q.src.length:Int)),aCK,aCK];simp
 ·unfold rC;rw [gA (by omega),aM,gA (by omega),aM,iN 0 (by omega),aA,aCw,aA,iN 0 (by omega),aA,aCw,aA];cases inR (q.src[k]?.getD 0) 0 (wr (q.n - 1)) <;> cases inR (q.tgt[k]?.getD 0) 0 (wr (q.n - 1)) <;> rfl
 ·unfold rC;by_cases e:q.src.length≤q.tgt.length
  ·rw [gN (by omega),aR]
  ·rw [gA (by omega),aM,gN (by omega),aR]
theorem aEk {q:Qv} (h:aIl q=true): ∃ n:Nat,q.n=n∧1≤n∧n≤5∧q.src.length=q.tgt.length∧q.src.length≤6∧(∀ x∈q.src,0≤x∧x<n)∧ ∀ x∈q.tgt,0≤x∧x<n:=by
 unfold aIl at h;simp only [dD,lD,List.all_eq_true] at h;obtain ⟨h1,h2,h3,h4,h5⟩:=h;have h1:=uM h1;rw [dV (by omega)] at h4 h5;refine ⟨q.n.toNat,by omega,by omega,by omega,by omega,by omega,λx hx=>?_,λx hx=>?_⟩
 ·have:=uM (h4 x hx);omega
 ·have:=uM (h5 x hx);omega
def aFn (q:Qv) (d:List Int):Bool:=aIl q&&(decide ((d.length:Int)=q.n)&&((d.all λx=>inR x 0 4)&&decide (d.sum≤8)))
theorem aNQ {d:List Int} (h: ∀ x∈d,0≤x∧x≤4):0≤d.sum∧d.sum≤4*d.length:=by
 induction d with
 |nil=>simp
 |cons x d ih=>
  have h1:=h x (by simp);have h2:=ih λy hy=>h y (by simp [hy]);simp only [List.sum_cons,List.length_cons];omega
theorem aKW {d:List Int} {k:Nat} (hk:k<d.length):(d.take (k+1)).sum=(d.take k).sum +d[k]?.getD 0:=by
 rw [zL hk,List.sum_append];simp [hk]
theorem aNR {d:List Int} (h: ∀ x∈d,0≤x∧x≤4) (hl:d.length≤1048576):nL d=some d.sum:=by
 unfold nL;rw [cO (r:=d.sum) (λk=>((d.take k).sum,(k:Int))) d.length (by simp) (λk hk=>?_) (λ_=>?_)];rfl
 ·unfold xG;simp only;rw [gA hk,aM,iN 0 hk,aA,bZ hk (by omega)];have h1:=aNQ (d:=d.take (k+1)) λx hx=>h x (List.mem_of_mem_take hx);rw [←aKW hk,dV (by simp at h1;omega)]
 ·unfold xG;simp only;rw [gN (bJ _),aR,List.take_length]
theorem aQb {q:Qv} {d:List Int} (hq:bQ q) (hd:bI d):aAA q d=some (aFn q d):=by
 unfold aAA aFn;rw [aWA hq,aA];refine kE λ_=>kE λ_=>?_;rw [aCj hd,aA];refine kE λh=>?_;rw [aNR (λx hx=>uM (List.all_eq_true.1 h x hx)) hd,aA]
theorem aQc {q:Qv} {d:List Int} (hq:bQ q) (hd:bI d):zY q d=some (aFn q d):=by
 unfold bI at hd;unfold zY aFn;rw [aWB hq,aA];refine jG λ_=>jG λ_=>?_;cases hall:d.all (λx=>inR x 0 4) with
 |true=>
  have hb: ∀ x∈d,0≤x∧x≤4:=λx hx=>uM (List.all_eq_true.1 hall x hx);rw [cO (r:= .inl d.sum) (λk=>((d.take k).sum,(k:Int))) d.length (by simp) (λk hk=>?_) (λ_=>?_)];rfl
  ·unfold kC;simp only;rw [gA hk,aM,iN 0 hk,aA,aCw,aA];have hin:inR (d[k]?.getD 0) 0 4=true:=by rw [iC hk];exact List.all_eq_true.1 hall _ (List.getElem_mem hk)
   rw [hin,dW,aR,aA,bZ hk (by omega)];have h1:=aNQ (d:=d.take (k+1)) λx hx=>hb x (List.mem_of_mem_take hx);rw [←aKW hk,dV (by simp at h1;omega)]
  ·unfold kC;simp only;rw [gN (bJ _),aR,List.take_length]
 |false=>
  have key:=aNF (body:=kC d) (s:=(0,0)) (λs=> ∃ k:Nat,s.2=k∧k≤d.length∧ ∀ j,j<k→inR (d[j]?.getD 0) 0 4=true) (λs=>d.length - s.2.toNat) (λr=>r= .inr false)
   ⟨0,rfl,Nat.zero_le _,λj hj=>absurd hj (Nat.not_lt_zero _)⟩ (λs ⟨k,hs,hk,hj⟩=>?_)
  ·obtain ⟨r,h1,h2⟩:=key;rw [h1,h2];rfl
  ·obtain ⟨t,s2⟩:=s;simp only at hs;subst hs;rcases eO k d.length with hlt|hge
   ·unfold kC;simp only;rw [gA hlt,aM,iN 0 hlt,aA,aCw,aA];cases hin:inR (d[k]?.getD 0) 0 4 with
    |false=>exact .inr ⟨_,rfl,rfl⟩
    |true=>
     rw [dW,aR,aA,bZ hlt (by omega)];refine .inl ⟨_,rfl,⟨k+1,rfl,hlt,λj hj2=>?_⟩,by simp;omega⟩;by_cases e:j=k
     ·subst e;exact hin
     ·exact hj j (by omega)
   ·exfalso
    have:d.all (λx=>inR x 0 4)=true:=by
     rw [←aDI 0 d,sK];exact λj hj'=>hj j (by omega)
    rw [hall] at this;cases this
theorem nX {q:Qv} {d:List Int} (h:aFn q d=true):aIl q=true∧(d.length:Int)=q.n∧(∀ x∈d,0≤x∧x≤4)∧d.sum≤8:=by
 unfold aFn at h;simp only [dD,lD,List.all_eq_true] at h;exact ⟨h.1,h.2.1,λx hx=>uM (h.2.2.1 x hx),h.2.2.2⟩
def wY (r:Rp):Bool:=lP r.p&&(aFn r.q r.dims&&(decide ((r.maps.length:Int)=(r.q.src.length:Int))&&(List.range r.maps.length).all λk=>
 aES r.p (r.maps[k]?.getD ⟨0,0,[]⟩)&&(decide ((r.maps[k]?.getD ⟨0,0,[]⟩).cols=r.dims[(r.q.src[k]?.getD 0).toNat]?.getD 0)&&decide ((r.maps[k]?.getD ⟨0,0,[]⟩).rows=r.dims[(r.q.tgt[k]?.getD 0).toNat]?.getD 0))))
theorem jS {α:Type} {l:List α} {k:Nat} (d:α) (h:k<l.length):l[k]?.getD d∈l:=by rw [iC h];exact List.getElem_mem h
theorem aAh {r:Rp} (h:bR r):jQ r=some (wY r):=by
 obtain ⟨h1,h2,⟨h3,h4⟩,_⟩:=h;unfold jQ wY;rw [aJf,aA];refine jG λhF=>?_;rw [aQc h1 h2,aA];refine jG λhD=>?_;obtain ⟨hQ,hd1,hd2,_⟩:=nX hD;obtain ⟨n,hn,_,_,hq1,hq2,hq3,hq4⟩:=aEk hQ;refine jG λhL=>?_;have hL:=of_decide_eq_true hL;rw [wL (λk=>aES r.p (r.maps[k]?.getD ⟨0,0,[]⟩)&&(decide ((r.maps[k]?.getD ⟨0,0,[]⟩).cols=r.dims[(r.q.src[k]?.getD 0).toNat]?.getD 0)&&decide ((r.maps[k]?.getD ⟨0,0,[]⟩).rows=r.dims[(r.q.tgt[k]?.getD 0).toNat]?.getD 0))) false (n:=r.maps.length) (by omega) (λk hk=>?_) (λ_=>?_),aA]
 ·cases (List.range r.maps.length).all _ <;> rfl
 ·have hs:=hq3 _ (jS 0 (show k<r.q.src.length by omega));have ht:=hq4 _ (jS 0 (show k<r.q.tgt.length by omega));unfold xM;rw [gA hk,aM,iN ⟨0,0,[]⟩ hk,aA,aDU _ (h4 _ (jS _ hk)),aA,aA,iN 0 (by omega),aA,atI 0 hs.1 (by omega),aA,aA,iN 0 (by omega),aA,atI 0 ht.1 (by omega),aA];cases aES r.p _ <;> cases decide ((r.maps[k]?.getD _).cols=_) <;> cases decide ((r.maps[k]?.getD _).rows=_) <;> rfl
 ·unfold xM;rw [gN (bJ _),aR]
theorem aSg {r:Rp} (h:bR r):aBj r=some (wY r):=by
 obtain ⟨h1,h2,⟨h3,h4⟩,_⟩:=h;unfold aBj wY;rw [aGu,aA];refine jG λhF=>?_;rw [aQb h1 h2,aA];refine jG λhD=>?_;obtain ⟨hQ,hd1,hd2,_⟩:=nX hD;obtain ⟨n,hn,_,_,hq1,hq2,hq3,hq4⟩:=aEk hQ;refine jG λhL=>?_;have hL:=of_decide_eq_true hL;rw [wL (λk=>aES r.p (r.maps[k]?.getD ⟨0,0,[]⟩)&&(decide ((r.maps[k]?.getD ⟨0,0,[]⟩).cols=r.dims[(r.q.src[k]?.getD 0).toNat]?.getD 0)&&decide ((r.maps[k]?.getD ⟨0,0,[]⟩).rows=r.dims[(r.q.tgt[k]?.getD 0).toNat]?.getD 0))) false (n:=r.maps.length) (by omega) (λk hk=>?_) (λ_=>?_),aA]
 ·cases (List.range r.maps.length).all _ <;> rfl
 ·have hs:=hq3 _ (jS 0 (show k<r.q.src.length by omega));have ht:=hq4 _ (jS 0 (show k<r.q.tgt.length by omega));unfold xQ;rw [gA hk,aM,iN ⟨0,0,[]⟩ hk,aA,aSf _ (h4 _ (jS _ hk)),aA,iN 0 (by omega),aA,atI 0 hs.1 (by omega),aA,iN 0 (by omega),aA,atI 0 ht.1 (by omega),aA];cases aES r.p _ <;> cases decide ((r.maps[k]?.getD _).cols=_) <;> cases decide ((r.maps[k]?.getD _).rows=_) <;> rfl
 ·unfold xQ;rw [gN (bJ _),aR]
theorem aJg {a b:Rp} (ha:bR a) (hb:bR b):zZ a b=some (wY a&&(wY b&&(decide (a.p=b.p)&&decide (a.q=b.q)))):=by
 unfold zZ;rw [aAh ha,aA];refine kE λ_=>?_;rw [aAh hb,aA];refine kE λ_=>kE λ_=>?_;rw [aSd ha.1,aA]
end
noncomputable section
theorem aLZ {a b:Int} (ha:0≤a∧a≤5) (hb:0≤b∧b≤5):0≤a*b∧a*b≤25:=by
 refine ⟨Int.mul_nonneg ha.1 hb.1,?_⟩;have:=Int.mul_le_mul ha.2 hb.2 hb.1 (by decide:(0:Int)≤5);omega
theorem xX {x p:Int} (hp:lP p=true):0≤x % p∧x % p<p:=by
 have:=eZ hp;exact ⟨Int.emod_nonneg _ (by omega),Int.emod_lt_of_pos _ (by omega)⟩
theorem aBm {p x:Int} (hp:lP p=true) (hx: -4611686018427387904≤x∧x≤4611686018427387904):gX p x=some (x % p):=by
 have hb:=eZ hp;have hr:=aKG x p (by omega);unfold gX;rw [dU (by omega),Bool.not_false,aM];rcases aKH x p (by omega) with ⟨h,e⟩|⟨h,e⟩
 ·rw [dU (by omega),aR,e]
 ·rw [bH h,aM,dV (by omega),e];congr 1;omega
theorem aOv {p x:Int} (hp:lP p=true):vC p x=some (x % p):=by
 have hb:=eZ hp;have hr:=aKG x p (by omega);unfold vC;rw [aGu,hp,aA,dW,aR,dU (by omega),Bool.not_false,aM,aM,dV (by omega),aST _ _ (by omega)]
theorem aQd {p x:Int} (hp:lP p=true) {k:Nat} (hk:k≤1000):xK p x k=some (aNG p (x % p) k):=by
 have hb:=eZ hp;unfold xK;rw [aGu,hp,aA,dW,aR,aEj,aCs (by omega) (by omega),aA,dW,aR];rw [cO (r:=aNG p (x % p) k) (λt=>(aNG p (x % p) t,(t:Int))) k (by rfl) (λt ht=>?_) (λ_=>?_),aA]
 ·unfold rI;simp only;have h1:=aRV hp (xX (x:=x) hp) t;have h2:=xX (x:=x) hp;have h3:=aLZ (a:=aNG p (x % p) t) (b:=x % p) (by omega) (by omega);rw [gA ht,aM,aOv hp,aA,dU (by omega),Bool.not_false,aM,bZ ht (by omega),dV (by omega),Int.tmod_eq_emod_of_nonneg h3.1];rfl
 ·unfold rI;simp only;rw [gN (bJ _),aR]
theorem aSh {p x:Int} (hp:lP p=true):tH p x=some (aDH p (x % p)):=by
 have hb:=eZ hp;unfold tH aDH;rw [aGu,hp,aA,dW,aR,dV (by omega)];have e:max (p - 2) 1=(((max (p - 2) 1).toNat:Nat):Int):=by omega
 rw [e,aQd hp (by omega),aA,eN]
theorem aSi {p x:Int} (hp:lP p=true) (hx: -4611686018427387904≤x∧x≤4611686018427387904):tG p x=some (aDH p (x % p)):=by
 have hb:=eZ hp;have h2:=xX (x:=x) hp;obtain ⟨n,hn⟩: ∃ n:Nat,p=n:=⟨p.toNat,by omega⟩;unfold tG;rw [aAb (s0:=1) (s:=1) (n:=n) (λk:Nat=>bif decide ((x % p*k) % p=1) then some (k:Int) else none) rfl (by omega) (by omega) (λk h1 hk=>?_) (λ_=>?_),aA]
 ·cases e:(List.range' 1 (n - 1)).findSome? (λk:Nat=>bif decide ((x % p*k) % p=1) then some (k:Int) else none) with
  |none=>
   rw [List.findSome?_eq_none_iff] at e;rw [aTg hp h2 λy h3 h4 h5=>?_];rfl;have:=e y (by simp;omega);rw [bH h5] at this;cases this
  |some i=>
   obtain ⟨k,hk,he⟩:=List.exists_of_findSome?_eq_some e;simp at hk;cases hd:decide ((x % p*k) % p=1) with
   |false=>rw [hd] at he;cases he
   |true=>
    rw [hd] at he;cases he;rw [aVh hp h2 (y:=k) (by omega) (of_decide_eq_true hd)];rfl
 ·unfold nT;have h3:=aLZ (a:=x % p) (b:=k) (by omega) (by omega);rw [bH (by omega),aM,aJf,hp,aA,aM,aBm hp hx,aA,dV (by omega),aBm hp (by omega),aA];cases decide (x % p*k % p=1) <;> rfl
 ·unfold nT;rw [dU (by omega),aR]
theorem aKX {r c i:Nat} (hi:i<r):(i+1)*c≤r*c:=Nat.mul_le_mul_right c hi
theorem ixw {r c i j:Nat} (hN:r*c≤1048576) (hi:i<r) (hj:j<c):wr (wr ((i:Int)*(c:Int))+(j:Int))=((i*c+j:Nat):Int):=wix (by have:=aCf hi hj;omega)
theorem atT {r c i j:Nat} (hN:r*c≤1048576) (hi:i<r) (hj:j<c) (F:Nat→Nat→Int):cY (bY r c F) (wr (wr ((i:Int)*(c:Int))+(j:Int)))=some (F i j):=by rw [ixw hN hi hj,aVi F hi hj]
theorem aLa {r c i j:Nat} (hN:r*c≤1048576) (hi:i<r) (hj:j<c) (F:Nat→Nat→Int) (v:Int):(bY r c F).set (wr (wr ((i:Int)*(c:Int))+(j:Int))).toNat v=bY r c (aEa F i j v):=by rw [ixw hN hi hj,eN,aDJ F v hi hj]
theorem wN {r c i:Nat} (hN:r*c≤1048576) (hi:i<r):wr ((i:Int)*(c:Int))=((i*c:Nat):Int):=aKI (by have:= @aKX r c i hi;rw [Nat.succ_mul] at this;omega)
theorem aAC {r c i:Nat} (hN:r*c≤1048576) (hr:r≤1048576) (hi:i<r):wr (wr ((i:Int)+1)*(c:Int))=((i*c+c:Nat):Int):=by
 have:= @aKX r c i hi;rw [bZ hi (by omega),aKI (by omega),Nat.succ_mul]
def fC (c:Nat) (f:Nat→Int):List Int:=(List.range c).map f
theorem dY (c:Nat) (f:Nat→Int):(fC c f).length=c:=by simp [fC]
theorem aCk {c:Nat} (f:Nat→Int) {j:Nat} (h:j<c):cY (fC c f) (j:Int)=some (f j):=by rw [cX (by rw [dY];exact h)];simp [fC]
theorem aIm {r c i:Nat} (hN:r*c≤1048576) (hr:r≤1048576) (hi:i<r) (F:Nat→Nat→Int):eK ⟨r,c,bY r c F⟩ i=some ():=by
 have:= @aKX r c i hi;rw [Nat.succ_mul] at this;unfold eK;simp only;rw [wN hN hi,aAC hN hr hi,dZ,bH (by omega),bH (by omega:((i*c:Nat):Int)≤((i*c+c:Nat):Int)),bH (by omega:((i*c+c:Nat):Int)≤((r*c:Nat):Int))];rfl
theorem aUF {r c i:Nat} (hN:r*c≤1048576) (hr:r≤1048576) (hi:i<r) (F:Nat→Nat→Int):aKP ⟨r,c,bY r c F⟩ i=some (fC c (F i)):=by
 have h:= @aKX r c i hi;rw [Nat.succ_mul] at h;unfold aKP aBI aEf;simp only;rw [wN hN hi,aAC hN hr hi,dZ,bH (by omega),bH (by omega:((i*c:Nat):Int)≤((i*c+c:Nat):Int)),bH (by omega:((i*c+c:Nat):Int)≤((r*c:Nat):Int))];simp only [Bool.and_self,aM,eN];congr 1;refine List.ext_getElem (by simp [dZ,dY];omega) λt h1 h2=>?_;rw [dY] at h2;rw [List.getElem_take,List.getElem_drop];simp [bY,fC,aBy h2,aBz h2]
def aKY (p:Int) (F:Nat→Nat→Int) (i:Nat) (k:Int) (g:Nat→Int):Nat→Nat→Int:=λa b=>if a=i then (F i b+k*g b) % p else F a b
theorem gd (x:Nat):(decide (0≤(x:Int))&&true)=true:=by rw [bH (by omega)];rfl
theorem aSj {p:Int} (hp:lP p=true):(!decide (p=0))=true:=by have:=eZ hp;rw [dU (by omega)];rfl
theorem aKZ {p:Int} (hp:lP p=true) {r c i:Nat} (hc:c≤1048576) (hi:i<r) {F:Nat→Nat→Int} {g:Nat→Int} {k:Int} (hk:0≤k∧k≤5) (hF: ∀ b,b<c→0≤F i b∧F i b<p) (hg: ∀ b,b<c→0≤g b∧g b<p):
  hU p (bY r c F) (i*c) c k (fC c g)=some (bY r c (aKY p F i k g)):=by
 have hb:=eZ hp;unfold hU;rw [cO (r:=bY r c (aKY p F i k g)) (λx=>(bY r c (λa b=>if a=i∧b<x then (F i b+k*g b) % p else F a b),(x:Int))) c (by simp) (λx hx=>?_) (λ_=>?_)];rfl
 ·have h1:=hF x hx;have h2:=hg x hx;have h3:=aLZ hk (show 0≤g x∧g x≤5 by omega);unfold mK;simp only;rw [dY,gA hx,aM,aCk _ hx,aA,gd x,aM,eN,lQ _ hi hx,aA,aSj hp,aM,aM,aA,aDJ _ _ hi hx,bZ hx (by omega)];rw [aZ (by omega),dV (x:=k*g x) (by omega),dV (by omega),Int.tmod_eq_emod_of_nonneg (by omega)];congr 3;refine cH λa b ha hb=>?_;simp only [aEa];by_cases e1:a=i∧b=x
  ·obtain ⟨rfl,rfl⟩:=e1;rw [aW ⟨rfl,rfl⟩,aW ⟨rfl,by omega⟩]
  ·rw [aZ e1];by_cases e2:a=i∧b<x
   ·rw [aW e2,aW ⟨e2.1,by omega⟩]
   ·rw [aZ e2,aZ (by omega)]
 ·unfold mK;simp only;rw [dY,gN (bJ _),aR];congr 2;refine cH λa b ha hb=>?_;simp only [aKY];by_cases e:a=i
  ·rw [aW ⟨e,hb⟩,aW e]
  ·rw [aZ (by omega),aZ e]
theorem aSk {p:Int} (hp:lP p=true) {r c i j:Nat} (hc:c≤1048576) (hi:i<r) (hj:j<r) (hij:i≠j) {F:Nat→Nat→Int} {k:Int} (hk:0≤k∧k≤5) (hF: ∀ b,b<c→0≤F i b∧F i b<p) (hg: ∀ b,b<c→0≤F j b∧F j b<p):
  kA p (bY r c F) (i*c) c k (j*c) c=some (bY r c (aKY p F i k (F j))):=by
 have hb:=eZ hp;unfold kA;rw [cO (r:=bY r c (aKY p F i k (F j))) (λx=>(bY r c (λa b=>if a=i∧b<x then (F i b+k*F j b) % p else F a b),(x:Int))) c (by simp) (λx hx=>?_) (λ_=>?_)];rfl
 ·have h1:=hF x hx;have h2:=hg x hx;have h3:=aLZ hk (show 0≤F j x∧F j x≤5 by omega);unfold iO;simp only;rw [gA hx,aM,gd x,aM,eN,lQ _ hj hx,aA,aM,lQ _ hi hx,aA,aSj hp,aM,aM,aA,aDJ _ _ hi hx,bZ hx (by omega)];rw [aZ (by omega),aZ (by omega),dV (x:=k*F j x) (by omega),dV (by omega),Int.tmod_eq_emod_of_nonneg (by omega)];congr 3;refine cH λa b ha hb=>?_;simp only [aEa];by_cases e1:a=i∧b=x
  ·obtain ⟨rfl,rfl⟩:=e1;rw [aW ⟨rfl,rfl⟩,aW ⟨rfl,by omega⟩]
  ·rw [aZ e1];by_cases e2:a=i∧b<x
   ·rw [aW e2,aW ⟨e2.1,by omega⟩]
   ·rw [aZ e2,aZ (by omega)]
 ·unfold iO;simp only;rw [gN (bJ _),aR];congr 2;refine cH λa b ha hb=>?_;simp only [aKY];by_cases e:a=i
  ·rw [aW ⟨e,hb⟩,aW e]
  ·rw [aZ (by omega),aZ e]
theorem aUG {r c:Nat} (hN:r*c≤1048576):(decide (0≤wr ((r:Int)*(c:Int)))&&decide (wr ((r:Int)*(c:Int))≤1048576))=true:=by
 rw [aKI (by omega),bH (by omega),bH (by omega)];rfl
theorem aGJ {r c:Nat} (hN:r*c≤1048576):lI r c=some ⟨r,c,bY r c λ_ _=>0⟩:=by
 unfold lI;rw [aUG hN,aM,aKI (by omega),eN,aLy]
theorem aEl {r c:Nat} (hN:r*c≤1048576):lJ r c=some ⟨r,c,bY r c λ_ _=>0⟩:=by
 unfold lJ;rw [aUG hN,aM,aKI (by omega),eN,aLy]
def pF:Nat→Nat→Int:=λa b=>if a=b then 1 else 0
theorem aMP {n k:Nat} (hk:k<n):bY n n (aEa (λa b=>if a=b∧a<k then 1 else 0) k k 1)=bY n n (λa b=>if a=b∧a<k+1 then 1 else 0):=by
 refine cH λa b ha hb=>?_;simp only [aEa];by_cases e:a=k∧b=k
 ·rw [aW e,aW (by omega)]
 ·rw [aZ e];by_cases e2:a=b∧a<k
  ·rw [aW e2,aW (by omega)]
  ·rw [aZ e2,aZ (by omega)]
theorem aKa {n:Nat} (hN:n*n≤1048576) (hn:n≤1048576):sH n=some ⟨n,n,bY n n pF⟩:=by
 unfold sH;rw [aGJ hN,aA];rw [cO (r:=bY n n pF) (λk=>(bY n n (λa b=>if a=b∧a<k then 1 else 0),(k:Int))) n (by simp) (λk hk=>?_) (λ_=>?_),aA]
 ·unfold rD;simp only;rw [gA hk,aM,atT hN hk hk,aA,aLa hN hk hk,bZ hk (by omega),aMP hk]
 ·unfold rD;simp only;rw [gN (bJ _),aR];congr 2;refine cH λa b ha hb=>?_;unfold pF;by_cases e:a=b
  ·rw [aW ⟨e,ha⟩,aW e]
  ·rw [aZ (by omega),aZ e]
theorem aGv {n:Nat} (hN:n*n≤1048576) (hn:n≤1048576):nN n=some ⟨n,n,bY n n pF⟩:=by
 unfold nN;rw [aEl hN,aA];rw [cO (r:=bY n n pF) (λk=>(bY n n (λa b=>if a=b∧a<k then 1 else 0),(k:Int))) n (by simp) (λk hk=>?_) (λ_=>?_),aA]
 ·unfold nM;simp only;rw [gA hk,aM,atT hN hk hk,aA,aLa hN hk hk,bZ hk (by omega),aMP hk]
 ·unfold nM;simp only;rw [gN (bJ _),aR];congr 2;refine cH λa b ha hb=>?_;unfold pF;by_cases e:a=b
  ·rw [aW ⟨e,ha⟩,aW e]
  ·rw [aZ (by omega),aZ e]
def aCx (F G:Nat→Nat→Int) (i j:Nat):Nat→Int
 |0=>0
 |k+1=>aCx F G i j k+F i k*G k j
def aOw (p:Int) (F G:Nat→Nat→Int) (i j:Nat):Nat→Int
 |0=>0
 |k+1=>(aOw p F G i j k+F i k*G k j) % p
theorem aNS {p:Int} (hp:lP p=true) (F G:Nat→Nat→Int) (i j:Nat): ∀ k,aOw p F G i j k=aCx F G i j k % p
 |0=>by simp [aOw,aCx]
 |k+1=>by rw [aOw,aCx,aNS hp F G i j k];simp [Int.add_emod]
theorem aNT {p:Int} (hp:lP p=true) {F G:Nat→Nat→Int} {i j:Nat} : ∀ {k:Nat},(∀ t,t<k→0≤F i t∧F i t<p)→(∀ t,t<k→0≤G t j∧G t j<p)→0≤aCx F G i j k∧aCx F G i j k≤25*k
 |0,_,_=>by simp [aCx]
 |k+1,hF,hG=>by
  have hb:=eZ hp;have h:=aNT hp (k:=k) (λt ht=>hF t (by omega)) (λt ht=>hG t (by omega));have h1:=hF k (by omega);have h2:=hG k (by omega);have h3:=aLZ (a:=F i k) (b:=G k j) (by omega) (by omega);rw [aCx];omega
def iK (p:Int) (n:Nat) (F G:Nat→Nat→Int):Nat→Nat→Int:=λi j=>aCx F G i j n % p
theorem aGw {p:Int} (hp:lP p=true) (n:Nat) (F G:Nat→Nat→Int) (m c:Nat):yT p m c (iK p n F G):=λi j _ _=>xX hp
theorem nY {p:Int} (hp:lP p=true) {r n c:Nat} (h1:r*n≤1048576) (h2:n*c≤1048576) (h3:r*c≤1048576) (hr:r≤1048576) (hn:n≤1048576) (hc:c≤1048576) {F G:Nat→Nat→Int} (hF:yT p r n F) (hG:yT p n c G):
  gF p ⟨r,n,bY r n F⟩ ⟨n,c,bY n c G⟩=some ⟨r,c,bY r c (iK p n F G)⟩:=by
 have hb:=eZ hp;unfold gF;simp only;rw [aEl h3,aA];simp only;rw [cO (r:=bY r c (iK p n F G)) (λi=>(bY r c (λa b=>if a<i then iK p n F G a b else 0),(i:Int))) r (by simp) (λi hi=>?_) (λ_=>?_),aA]
 ·unfold nS;simp only;rw [gA hi,aM];rw [cO (r:=bY r c (λa b=>if a<i+1 then iK p n F G a b else 0)) (λj=>(bY r c (λa b=>if a<i∨(a=i∧b<j) then iK p n F G a b else 0),(j:Int))) c (by simp) (λj hj=>?_) (λ_=>?_),aA,bZ hi (by omega)]
  ·unfold nP;simp only;rw [gA hj,aM];have hbd:=aNT hp (F:=F) (G:=G) (i:=i) (j:=j) (k:=n) (λt ht=>hF i t hi ht) (λt ht=>hG t j ht hj);rw [cO (r:=aCx F G i j n) (λk=>(aCx F G i j k,(k:Int))) n (by simp [aCx]) (λk hk=>?_) (λ_=>?_),aA,aBm hp (by omega),aA,atT h3 hi hj,aA,aLa h3 hi hj,bZ hj (by omega)]
   ·congr 3;refine cH λa b ha hb=>?_;simp only [aEa];by_cases e:a=i∧b=j
    ·rw [aW e,aW (by omega),e.1,e.2];rfl
    ·rw [aZ e];by_cases e2:a<i∨a=i∧b<j
     ·rw [aW e2,aW (by omega)]
     ·rw [aZ e2,aZ (by omega)]
   ·unfold nO;simp only;have g1:=hF i k hi hk;have g2:=hG k j hk hj;have g3:=aLZ (a:=F i k) (b:=G k j) (by omega) (by omega);have g4:=aNT hp (F:=F) (G:=G) (i:=i) (j:=j) (k:=k) (λt ht=>hF i t hi (by omega)) (λt ht=>hG t j (by omega) hj);rw [gA hk,aM,atT h1 hi hk,aA,atT h2 hk hj,aA,bZ hk (by omega),dV (x:=F i k*G k j) (by omega),dV (by omega)];rfl
   ·unfold nO;simp only;rw [gN (bJ _),aR]
  ·unfold nP;simp only;rw [gN (bJ _),aR];congr 2;refine cH λa b ha hb=>?_;by_cases e:a<i+1
   ·rw [aW e,aW (by omega)]
   ·rw [aZ e,aZ (by omega)]
 ·unfold nS;simp only;rw [gN (bJ _),aR];congr 2;exact cH λa b ha hb=>by rw [aW ha]
theorem aGx {p:Int} (hp:lP p=true) {r n c:Nat} (h1:r*n≤1048576) (h2:n*c≤1048576) (h3:r*c≤1048576) (hr:r≤1048576) (hn:n≤1048576) (hc:c≤1048576) {F G:Nat→Nat→Int} (hF:yT p r n F) (hG:yT p n c G):
  nW p ⟨r,n,bY r n F⟩ ⟨n,c,bY n c G⟩=some ⟨r,c,bY r c (iK p n F G)⟩:=by
 have hb:=eZ hp;have hD: ∀ i j,aOw p F G i j n=iK p n F G i j:=λi j=>aNS hp F G i j n;unfold nW;simp only;rw [aGJ h3,aA];simp only;rw [cO (r:=bY r c (iK p n F G)) (λi=>(bY r c (λa b=>if a<i then iK p n F G a b else 0),(i:Int))) r (by simp) (λi hi=>?_) (λ_=>?_),aA]
 ·unfold xS;simp only;rw [gA hi,aM,aUF h1 hr hi,aA];rw [cO (r:=bY r c (λa b=>if a<i+1 then iK p n F G a b else 0)) (λk=>(bY r c (λa b=>if a<i then iK p n F G a b else if a=i then aOw p F G i b k else 0),(k:Int))) n ?_ (λk hk=>?_) (λ_=>?_),aA,bZ hi (by omega)]
  ·congr 1
   exact cH λa b ha hb=>by
    by_cases e:a<i
    ·rw [aW e,aW e]
    ·rw [aZ e,aZ e];simp [aOw]
  ·unfold xR;simp only;have g1:=hF i k hi hk;rw [dY,gA hk,aM,aCk _ hk,aA,aIm h3 hr hi,aA,aUF h2 hn hk,aA,Nat.zero_add,wN h3 hi,aAC h3 hr hi,eN,eN,show i*c+c - i*c=c by omega];rw [aKZ hp hc hi (by omega) (λb hb=>?_) (λb hb=>hG k b hk hb),aA,dZ,dZ,bH rfl,aM,bZ hk (by omega)]
   ·congr 3;refine cH λa b ha hb=>?_;simp only [aKY];by_cases e:a=i
    ·subst e;simp [aOw]
    ·rw [aZ e,aZ e,aZ e]
   ·rw [aZ (by omega),aW rfl,aNS hp];exact xX hp
  ·unfold xR;simp only;rw [dY,gN (bJ _),aR];congr 2;refine cH λa b ha hb=>?_;by_cases e:a<i
   ·rw [aW e,aW (by omega)]
   ·by_cases e2:a=i
    ·subst e2;rw [aZ (by omega),aW rfl,aW (by omega),hD]
    ·rw [aZ e,aZ e2,aZ (by omega)]
 ·unfold xS;simp only;rw [gN (bJ _),aR];congr 2;exact cH λa b ha hb=>by rw [aW ha]
end
end Go.Proofs.YtilpfdokmlanjaaGreat

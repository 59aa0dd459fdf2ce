/-
  Several texts of the claim in one.
-/
import Derived.Lib.AppendZerosOnto
import Derived.Test.YtghechfdejhapaaGreatJ6
set_option linter.unusedVariables false
set_option linter.unusedSimpArgs false
namespace Go.Proofs.YtghechfdejhapaaGreat
open Go.RowKit
noncomputable section
set_option maxRecDepth 10000
structure HasV (P:Program) (f:FuncId) (ds:List AV) (r:AV):Prop where
 enters:Enters P f
 calls: ∀ (w:World) (args:Array Value) (S:List Nat),RepVs w ds args.toList S→Calls P f args w λe w'=> ∃ v S',e= .returned v∧Below w.heap.size w w'∧RepD w' r v S'∧ ∀ x∈S',x∈S
theorem aBC {w:World} {h:Hp} {u:Us} {ν:Nu} {d:AV} {v:Value} (r:Rep1 w h u ν d v) (ok:dS d=true): ∃ S,RepD w d v S∧ ∀ x∈S,vW h ν x:=by
 cases d <;> simp only [dS,fL] at ok <;> simp only [Rep1] at r
 ·exact ⟨[],by rw [r.1];exact aAv r.2,by simp⟩
 ·exact r
 ·exact r
theorem aBr {w:World} {h:Hp} {u:Us} {ν:Nu} : ∀ {ds:List AV} {vs:List Value},All2 (Rep1 w h u ν) ds vs→ds.all dS=true→ ∃ S,RepVs w ds vs S∧ ∀ x∈S,vW h ν x
 | [],vs,r,_=>by simp only [All2] at r;subst r;exact ⟨[],by simp [RepVs],by simp⟩
 |d::ds,vs,⟨v,q,e,r1,r2⟩,ok=>by
  subst e;simp only [List.all_cons,dA] at ok;obtain ⟨S1,a1,a2⟩:=aBC r1 ok.1;obtain ⟨S2,b1,b2⟩:=aBr r2 ok.2;refine ⟨S1++S2,by simp only [RepVs];exact ⟨v,q,S1,S2,rfl,rfl,a1,b1⟩,λx hx=>?_⟩;rcases dX.1 hx with h|h
  ·exact a2 x h
  ·exact b2 x h
theorem aLk {w:World} {h:Hp} {u:Us} {ν:Nu} {d:AV} {v:Value} (r:RepA w h u ν d v) (ok:yR d=true): ∃ S,RepD w d v S∧ ∀ x∈S,vW h ν x:=by
 cases d <;> simp only [yR,dS,fL] at ok <;> simp only [RepA,RepB] at r
 ·exact aBC r rfl
 ·exact aBC r rfl
 ·exact aBC r rfl
 ·obtain ⟨vs,rfl,r⟩:=r;obtain ⟨S,a,b⟩:=aBr r ok;exact ⟨S,by simp only [RepD];exact ⟨vs,rfl,a⟩,b⟩
 ·obtain ⟨vs,rfl,r⟩:=r;obtain ⟨S,a,b⟩:=aBr r ok;exact ⟨S,by simp only [RepD];exact ⟨vs,rfl,a⟩,b⟩
theorem aFa {w:World} {h:Hp} {u:Us} {ν:Nu} : ∀ {ds:List AV} {vs:List Value},All2 (RepA w h u ν) ds vs→ds.all yR=true→ ∃ S,RepVs w ds vs S∧ ∀ x∈S,vW h ν x
 | [],vs,r,_=>by simp only [All2] at r;subst r;exact ⟨[],by simp [RepVs],by simp⟩
 |d::ds,vs,⟨v,q,e,r1,r2⟩,ok=>by
  subst e;simp only [List.all_cons,dA] at ok;obtain ⟨S1,a1,a2⟩:=aLk r1 ok.1;obtain ⟨S2,b1,b2⟩:=aFa r2 ok.2;refine ⟨S1++S2,by simp only [RepVs];exact ⟨v,q,S1,S2,rfl,rfl,a1,b1⟩,λx hx=>?_⟩;rcases dX.1 hx with h|h
  ·exact a2 x h
  ·exact b2 x h
section
variable {P:Program} {dst:Option Tmp} {ty:TypeId} {pos:String} {aft:Array Edge} {g:Option (Nat×Bool)} {ins:Operand→Option AV} {hp:Hp} {κ:Kp}
theorem aIp {fo:Operand} {xs:Array Operand} {ats:Array TypeId} {f:FuncId} {ds:List AV} {k:Nat} {es:List (List AV)} (hc:HasV P f ds (.list k es)) (hf:ins fo=some (.fn f [])) (hx:evs ins xs.toList=some ds) (hok:ds.all yR=true):
  AEff P ⟨dst,.call ⟨.value fo,xs,ats⟩,ty,pos,aft,g⟩ ins hp κ ⟨.list k es,[],[],[]⟩:=by
 refine ⟨λC s ν a w Q K {hκ} hi' ht hnw hd hs hK=>?_⟩;have h1:=hs.ev ((hi' fo (by simp [Op.operands,Call.operands])).trans hf);simp only [RepA,RepB] at h1;obtain ⟨cv,h1,h2⟩:=h1;simp only [All2] at h2;subst h2;have h3:=aAx hs (xs:=xs.toList) (λy hy=>hi' y (by simp [Op.operands,Call.operands];exact .inr (Array.mem_toList_iff.1 hy))) hx;obtain ⟨S,e1,e2⟩:=aFa h3 hok;have hcall:=hc.calls w (xs.map a.eval) S (by simpa using e1);unfold Oper.wp
 have hex:(execOp a.eval ⟨dst,.call ⟨.value fo,xs,ats⟩,ty,pos,aft,g⟩).run P w= .ok (.enter f (xs.map a.eval)) w:=by
  have:execOp a.eval ⟨dst,.call ⟨.value fo,xs,ats⟩,ty,pos,aft,g⟩=callFunc f (xs.map a.eval):=by
   simp [execOp,resolve,h1,Deferred.ofValue,invoke]
  rw [this];exact hc.enters _ _
 rw [hex];simp only [Oper.upon];refine hcall.mono λe w' ⟨v,S',he,hb,hr,hsub⟩=>?_;subst he;simp only;obtain ⟨φ,hh⟩:=hs.heap;have ext:Ext w s.heap s.used ν w' s.heap s.used ν:=⟨λ_ h=>h,λ_ blk _ h=>⟨blk,h,rfl,rfl,rfl⟩,λx hx h=>⟨hb.block x hx,h⟩,rfl⟩;refine hK ν _ _ (hs.step hd (s':=s.app dst _) ext (hb.mono hs.base) ⟨φ,λb blk hbl=>?_,hh.apart⟩ rfl ?_)
 ·obtain ⟨g1,g2,g3,g4⟩:=hh.blk b blk hbl;exact ⟨g1,g2.ext ext rfl (λy hy=>hb.block y (g2.lt y hy)),g3,g4⟩
 ·exact ⟨S',hr,λx hx=>e2 x (hsub x hx)⟩
theorem aJy {T:List (Nat×Ty)} (hT:TyOk P T) {s:AState} {x:Operand} {zl zh:Operand} {t e:Nat} {y ye:Ty} {ao:Option Addr} {n c:Nat} {kl kh:IntKind} {l h:Int} (q:0≤l∧l≤h∧h≤n∧n≤c) (hx:s.ev x=some (.sc (.slice ao n c))) (hlo:s.ev zl=some (.sc (.int kl l))) (hhi:s.ev zh=some (.sc (.int kh h))) (hy:cX T t=some y) (hd:y.desc= .slice e) (hye:cX T e=some ye):
  AEff P ⟨dst,.slice t x (some zl) (some zh) none,ty,pos,aft,g⟩ s.ev s.heap s.kp ⟨.sc (.slice (if c=l.toNat then ao else ao.map (·.add (l.toNat*ye.size))) (h.toNat - l.toNat) (c - l.toNat)),[],[],[]⟩:=by
 refine AEff.pure λC s' ν a w hi' ht hs=>?_;have h1:=hs.ev ((hi' x (by simp [Op.operands])).trans hx);have h2:=hs.ev ((hi' zl (by simp [Op.operands])).trans hlo);have h3:=hs.ev ((hi' zh (by simp [Op.operands])).trans hhi);simp only [RepA,RepB,Rep1] at h1 h2 h3;obtain ⟨i1,z1,d1,y1⟩:=hT.is hy;obtain ⟨i2,z2,d2,y2⟩:=hT.is hye;have hsb:=qR (P:=P) (len:=n) (cap:=c) (lo:=some (.int kl l)) (hi:=some (.int kh h)) w (.inr ⟨kl,rfl⟩) (.inr ⟨kh,rfl⟩) q.1 q.2.1 q.2.2.1 q.2.2.2;refine ⟨_,?_,xI rfl⟩;simp only [execOp,Instr.sliceAt,Instr.slice,h1.1,h2.1,h3.1,Sem.run_bind,jI (y1.slice hd),Result.andThen_ok,jX y2.info,y2.size,Option.map_none,Option.map_some];rw [hsb];by_cases e:c=l.toNat <;> simp [e]
end
theorem aLl {w:World} {k n c:Nat} {es:List (List AV)} {ao:Option Addr} {S:List Nat} {l h:Int} (r:RepD w (.list k es) (.slice ao n c) S) (q:0≤l∧l≤h∧h≤n): ∃ S',RepD w (.list k ((es.drop l.toNat).take (h.toNat - l.toNat))) (.slice (if c=l.toNat then ao else ao.map (·.add (l.toNat*k))) (h.toNat - l.toNat) (c - l.toNat)) S'∧ ∀ x∈S',x∈S:=by
 simp only [RepD] at r ⊢;obtain ⟨ao',c',h3,h4,h5,h6⟩:=r;cases h3;have hlen:((es.drop l.toNat).take (h.toNat - l.toNat)).length=h.toNat - l.toNat:=by simp;omega
 rw [hlen];by_cases hz:h.toNat - l.toNat=0
 ·refine ⟨[],⟨_,_,rfl,by omega,by omega,.inl ⟨?_,rfl⟩⟩,by simp⟩;rw [hz];simp
 ·rcases h6 with ⟨h6,_⟩|⟨b,o,S',rfl,h8,rfl,h9⟩
  ·have:es.length=0:=by rw [h6];rfl
   omega
  ·rw [aZ (by omega)];obtain ⟨U1,g1,g2⟩:=h9.dropT (m:=l.toNat);obtain ⟨U2,g3,g4⟩:=g1.takeT (m:=h.toNat - l.toNat);refine ⟨b::U2,⟨_,_,rfl,by omega,by omega,.inr ⟨b,o+l.toNat*k,U2,by simp [Addr.add_lit],h8,rfl,g3⟩⟩,?_⟩;intro y hy;rcases eN.1 hy with rfl|h'
   ·simp
   ·simp [g2 y (g4 y h')]
def vE (m:Mt) (i:Int):Int:=wr (i*m.cols)
def aAi (m:Mt) (i:Int):Int:=wr (wr (i+1)*m.cols)
def aFb (m:Mt) (i:Int):Option (List Int):=bif (decide (0≤vE m i)&&(decide (vE m i≤aAi m i)&&decide (aAi m i≤(m.cells.length:Int)))) then some ((m.cells.drop (vE m i).toNat).take ((aAi m i).toNat - (vE m i).toNat)) else none
theorem aPH (m:Mt) (i:Int) (ao:Option Addr) (n c:Nat) (q:0≤vE m i∧vE m i≤aAi m i∧aAi m i≤n∧n≤c):HasC Tryz.prog 190 [.agg [.int m.rows,.int m.cols,.sc (.slice ao n c)],.int i]
  (.sc (.slice (if c=(vE m i).toNat then ao else ao.map (·.add ((vE m i).toNat *1))) ((aAi m i).toNat - (vE m i).toNat) (c - (vE m i).toNat))):=by
 refine aEk aO (rvs:=[.tmp 4]) (ns:=[0,1,2,3,4,5,6,7,8,9,10,11,12,13]) Tryz.func190 rfl rfl Tryz.ntmps190 rfl rfl rfl ?_;refine aJf ?_;refine aDL ?_;refine iG (aOi rfl rfl rfl rfl) rfl rfl rfl ?_;refine iG (zP rfl) rfl rfl rfl ?_;refine aFD ?_;refine aMe ?_;refine aJf ?_;refine aDL ?_;refine iG (vB aO rfl rfl rfl rfl rfl rfl rfl) rfl rfl rfl ?_;refine iG (cW aO rfl rfl rfl rfl rfl rfl rfl) rfl rfl rfl ?_;refine iG (aCE rfl) rfl rfl rfl ?_;refine iG (vB aO rfl rfl rfl rfl rfl rfl rfl) rfl rfl rfl ?_;refine iG (cW aO rfl rfl rfl rfl rfl rfl rfl) rfl rfl rfl ?_;refine iG (eZ rfl rfl) rfl rfl rfl ?_;refine iG (aCE rfl) rfl rfl rfl ?_;refine iG (bF rfl rfl) rfl rfl rfl ?_;refine iG (vB aO rfl rfl rfl rfl rfl rfl rfl) rfl rfl rfl ?_;refine iG (cW aO rfl rfl rfl rfl rfl rfl rfl) rfl rfl rfl ?_;refine iG (eZ rfl rfl) rfl rfl rfl ?_;refine iG (aJy aO (l:=vE m i) (h:=aAi m i) q rfl rfl rfl rfl rfl rfl) rfl rfl rfl ?_;refine iG (zP rfl) rfl rfl rfl ?_;refine aFD ?_;refine aMe ?_;refine aD ?_;exact bG rfl rfl rfl (aPf rfl)
theorem aMt (m:Mt) (i:Int) (r:List Int) (h:aFb m i=some r):HasV Tryz.prog 190 [.agg (eM m),.int i] (.list 1 (List.map eI r)):=by
 obtain ⟨q,h⟩:=cg h;obtain rfl:=so h;simp only [dA,sI] at q;refine ⟨Enters.mk Tryz.func190 (by kernel_rfl) (by kernel_rfl),λw args S hargs=>?_⟩;obtain ⟨args⟩:=args;simp only [RepVs] at hargs;obtain ⟨v,r,S1,S2,h1,rfl,h3,v2,r2,S3,S4,h4,rfl,h5,rfl,rfl⟩:=hargs;subst h4 h1;simp only [RepD,eM] at h3;obtain ⟨vs,rfl,h3⟩:=h3;simp only [RepVs] at h3;obtain ⟨u1,r1,T1,T2,rfl,rfl,g1,u2,r3,T3,T4,rfl,rfl,g2,u3,r4,T5,T6,rfl,rfl,g3,rfl,rfl⟩:=h3
 have hu3: ∃ ao n c,u3= .slice ao n c∧n=m.cells.length∧n≤c:=by
  simp only [RepD] at g3;obtain ⟨a,c,rfl,g4,_⟩:=g3;exact ⟨_,_,_,rfl,by simp [aMf],g4⟩
 obtain ⟨ao,n,c,rfl,hn,hnc⟩:=hu3
 have hcall:=(aPH m i ao n c ⟨q.1,q.2.1,by omega,hnc⟩).calls w #[.agg #[u1,u2,.slice ao n c],v2] (T1++(T3++([]++[]))++(S3++[])) (by
  simp only [RepVs];refine ⟨_,_,_,_,rfl,rfl,?_,_,_,_,_,rfl,rfl,h5,rfl,rfl⟩;simp only [RepD];refine ⟨[u1,u2,.slice ao n c],rfl,?_⟩;simp only [RepVs]
  exact ⟨_,_,_,_,rfl,rfl,by simpa only [RepD] using g1,_,_,_,_,rfl,rfl,by simpa only [RepD] using g2,_,_,[],[],rfl,rfl,aAv rfl,rfl,rfl⟩)
 refine hcall.mono λe w' ⟨v,S',he,hb,hr,_⟩=>?_;simp only [aHY,aLZ,zX] at hr;obtain ⟨rfl,_,_⟩:=hr;obtain ⟨U,k1,k2⟩:=aLl (l:=vE m i) (h:=aAi m i) g3 ⟨q.1,q.2.1,by omega⟩;refine ⟨_,U,he,hb,?_,?_⟩
 ·have hes:((aNx m.cells).drop (vE m i).toNat).take ((aAi m i).toNat - (vE m i).toNat)=List.map eI ((m.cells.drop (vE m i).toNat).take ((aAi m i).toNat - (vE m i).toNat)):=by
   show ((m.cells.map eI).drop _).take _=_;rw [List.map_take,List.map_drop]
  rw [←hes];exact k1.below hb
 ·intro x hx;have:=k2 x hx;simp [this]
def aMu (hp:Hp) (touch:List Nat):List (Nat×Option Blk)→Prop
 | []=>True
 |(b,x)::r=>hp b=x∧touch.contains b=true∧aMu hp touch r
theorem aDw {hp h:Hp} {touch:List Nat} (ht: ∀ b∈touch,h b=hp b): ∀ {ed:List (Nat×Option Blk)},aMu hp touch ed→bP ed h=h
 | [],_=>rfl
 |(b,x)::r,⟨h1,h2,h3⟩=>by
  funext c;simp only [bP];by_cases e:c=b
  ·subst e;rw [cD,aN,←h1,ht c (by simpa using h2)]
  ·rw [cK e,aY,aDw ht h3]
theorem AEff.pureE {P:Program} {o:Oper} {ins:Operand→Option AV} {hp:Hp} {κ:Kp} {v:AV} {tc:List Nat} {ed:List (Nat×Option Blk)} (h:AEff P o ins hp κ ⟨v,tc,ed,[]⟩) (hs:aMu hp tc ed):AEff P o ins hp κ ⟨v,tc,[],[]⟩:=by
 refine ⟨λC s ν a w Q K {hκ} hi ht hn hd hsim hK=>h.out C s ν a w Q K (hκ:=hκ) hi ht hn hd hsim λν' a' w' hs'=>hK ν' a' w' ?_⟩
 have e:s.app o.dst ⟨v,tc,ed,[]⟩=s.app o.dst ⟨v,tc,[],[]⟩:=by
  unfold AState.app;rw [aDw ht hs];rfl
 rw [←e];exact hs'
theorem aJz {σ:Nat→Option Nat} {n:Nat} {α:Type} {e:α→List AV} {z:α} {zc:List AV} (h:All2 (iI σ n) zc (ow e z)) (m:Nat):All2 (All2 (iI σ n)) (List.replicate m zc) ((List.replicate m z).map (ow e)):=by
 induction m with
 |zero=>rfl
 |succ m ih=>exact ⟨_,_,rfl,h,ih⟩
end
noncomputable section
structure HasT (P:Program) (f:FuncId) (ds:List AV) (hl:List (Nat×Blk)) (kp:Nat) (r:AV) (hl':List (Nat×Blk)):Prop where
 enters:Enters P f
 calls: ∀ (B:Nat) (M:Nat→Prop) (w:World) (args:Array Value) (ν:Nu) (φ:Nat→List Nat),(∀ x,M x→B≤x)→B≤w.heap.size→(∀ x,w.heap.size≤x→M x)→(∀ x,M x→ν.ok x)→All2 (RepA w (mK hl) (ltb kp) ν) ds args.toList→HeapOk M w (mK hl) (ltb kp) ν φ→
  Calls P f args w λe w'=> ∃ v u' ν' φ',e= .returned v∧Below B w w'∧ExtF (λx=> ¬ M x) w (mK hl) (ltb kp) ν w' (mK hl') u' ν'∧HeapOk M w' (mK hl') u' ν' φ'∧RepA w' (mK hl') u' ν' r v
theorem aOH {M:Nat→Prop} {w:World} {h:Hp} {u:Us} {ν:Nu} {φ:Nat→List Nat} (hh:HeapOk M w h u ν φ) {x:Nat} (hx: ¬ M x):aAc h ν x:=by
 intro b blk β c hb hν e;subst e;obtain ⟨_,g2,_,g4⟩:=hh.blk b blk hb;exact hx (g4 _ (aIl g2 hν))
theorem ExtF.shrink {F:Nat→Prop} {w w':World} {h h' g:Hp} {u u':Us} {ν ν':Nu} (e:ExtF F w h u ν w' h' u' ν') (hg: ∀ b blk,g b=some blk→h' b=some blk):ExtF F w h u ν w' g u' ν':=
 ⟨e.used,λb blk hb hgb=>e.old b blk hb (hg b blk hgb),λx hx hf=>⟨(e.free x hx hf).1,λb blk β c hb hν=>(e.free x hx hf).2 b blk β c (hg b blk hb) hν⟩,e.okE⟩
theorem aAH {P:Program} {T:List (Nat×Ty)} (hT:TyOk P T) {f:FuncId} {fn:Func} {c:Code} {nt kp:Nat} {ds:List AV} {hl hl':List (Nat×Blk)} {r:AV} {rvs:List ResultVar} {ns:List Nat} (hf:P.funcs[f]? =some fn) (hb:fn.body=some c) (hname:(fn.name== "runtime.NumGoroutine")=false) (hnt:fn.ntmps=nt) (hres:fn.results.toList=rvs)
  (hlen:Nat.ble ds.length nt=true) (h:AC P nt c ⟨aBj ds,mK hl,ltb kp,ns,⟨kp,true,none,true⟩⟩ (λe t=> ∃ t',Ent t t'∧aPk T rvs r hl' e t')):HasT P f ds hl kp r hl':=by
 refine ⟨Enters.mk hf (by rw [hb];rfl) hname,λB M w args ν φ hMB hB hM hMo hargs hheap=>?_⟩;refine (callsIn_wide (n:=0)).1 (callsIn_of_wp_marks (F:=fw none) hf hb trivial ?_);have hlen':=Nat.le_of_ble_eq_true hlen;have hal:args.size=ds.length:=by have:=hargs.len;simpa using this
 let C:Ctx:=⟨B,w,nt,M,hMB,⟨kp,true,none,true⟩,w,mK hl,ν,λx=> ¬ M x,(λ_ x _ hm hn=>hn hm),(λ_ h=>by cases h),none,λ_=>rfl⟩
 have hsim:Sim C ⟨aBj ds,mK hl,ltb kp,ns,⟨kp,true,none,true⟩⟩ ν ⟨args++Array.replicate (fn.ntmps - args.size) undef,[]⟩ w:=by
  refine ⟨Below.refl _ _,hB,hM,aCD,by show (args++Array.replicate (fn.ntmps - args.size) undef).size=nt;simp [hnt];omega,?_,⟨φ,hheap⟩,rfl,ExtF.refl λ_ _ h=>aOH hheap h,bN _,hMo,λ_ h=>by cases h⟩;intro t x hx;have hx':ds[t]? =some x:=by rw [←aCU];exact hx
  obtain ⟨v,h1,h2⟩:=hargs.get hx';refine ⟨v,?_,h2⟩
  have hlt:t<args.size:=by
   rcases eJ t args.size with h'|h'
   ·exact h'
   ·rw [jR (by simpa using h')] at h1;cases h1
  show (args++Array.replicate (fn.ntmps - args.size) undef)[t]? =some v;rw [Array.getElem?_append_left hlt];simpa using h1
 refine wpIn_mono (h.out C rfl _ _ w hsim 0) λe a' w0 ⟨s1,ν1,⟨s',hent,hq⟩,hs1⟩=>?_;obtain ⟨ν',hs0⟩:=hent C ν1 a' w0 hs1;obtain ⟨Ds,d1,d2,d3⟩:=hs0.defers;obtain ⟨w',hs',hleave⟩:=hs0.leave (P:=P) (n:=0) d1 d2 d3;obtain ⟨he,⟨avs,hv,hone⟩,hsame⟩:=hq;have hsub: ∀ b blk,mK hl' b=some blk→s'.heap b=some blk:=λb blk hb=>aDS hsame (nZ hb);obtain ⟨us,h1,h2⟩:=vA hT hs' hv;obtain ⟨φ',hh⟩:=hs'.heap
 have hrun:(results fn a'.tmps).run P w'= .ok (if hh:us.toArray.size=1 then us.toArray[0] else .tuple us.toArray) w':=by
  unfold results;rw [Sem.run_bind,Array.mapM_eq_mapM_toList,Sem.run_map,hres];have h1':=h1;generalize hq:(List.mapM _ rvs:Sem (List Value))=m;rw [show Sem.run P m w'= .ok us w' by rw [←hq];exact h1'];simp
 have shr:=(Ext.refl w' s'.heap s'.used ν').shrink hsub
 have hrep:RepA w' (mK hl') s'.used ν' r (if hh:us.toArray.size=1 then us.toArray[0] else .tuple us.toArray):=by
  rcases hone with rfl|⟨g1,g2,rfl⟩
  ·obtain ⟨u,q,rfl,k1,k2⟩:=h2;simp only [All2] at k2;subst k2;exact k1.ext shr
  ·have hul:us.length=avs.length:=h2.len;rw [dif_neg (by simp;rw [hul];exact g1)];refine ⟨us,rfl,h2.congrM λx hx v hr=>?_⟩;exact aMq (hr.ext shr) (List.all_eq_true.1 g2 x hx)
 have hend:=hleave fn (λe w'=> ∃ v u' ν' φ',e= .returned v∧Below B w w'∧ExtF (λx=> ¬ M x) w (mK hl) (ltb kp) ν w' (mK hl') u' ν'∧HeapOk M w' (mK hl') u' ν' φ'∧RepA w' (mK hl') u' ν' r v)
  ⟨_,hrun,_,s'.used,ν',φ',rfl,hs'.below,hs'.ext.shrink hsub,hh.shrink hsub (λ_ _ _ _ h=>h),hrep⟩
 cases e <;> simp only [aCQ,fL] at he <;> exact hend
structure SOps (P:Program) (ops:Array Oper) (nt:Nat) (l:List Oper) (s:AState) (K:AState→Prop):Prop where
 out: ∀ (C:Ctx),C.nt=nt→ ∀ (ν:Nu) (a:Act) (w:World),Sim C s ν a w→ ∀ (n:Nat) (Q:Exit→Act→World→Prop),(∀ s' ν' a' w',K s'→Sim C s' ν' a' w'→Q .normal a' w')→wpListIn (fw C.rd) n P ops Q l a w
section
variable {P:Program} {ops:Array Oper} {nt:Nat} {l:List Oper} {s:AState} {K:AState→Prop}
theorem aMv (h:K s):SOps P ops nt [] s K:=⟨λC hC ν a w hs n Q hQ=>hQ s ν a w h hs⟩
theorem cZ {t:AState} (e:Ent s t) (h:SOps P ops nt l t K):SOps P ops nt l s K:=⟨λC hC ν a w hs n Q hQ=>by
 obtain ⟨ν',hs'⟩:=e C ν a w hs
 exact h.out C hC ν' a w hs' n Q hQ⟩
theorem aIq {d:Option Tmp} {op:Op} {ty:TypeId} {pos:String} {aft:Array Edge} {g:Option (Nat×Bool)} {e:Eff} (he:AEff P ⟨d,op,ty,pos,aft,g⟩ s.ev s.heap s.kp e) (hd:aDM ⟨d,op,ty,pos,aft,g⟩ nt=true) (hg:jZ ops s.env ⟨d,op,ty,pos,aft,g⟩=some true) (hn:(e.news.all λb=> !s.used b)=true)
  (h:SOps P ops nt l (s.app d e) K):SOps P ops nt (⟨d,op,ty,pos,aft,g⟩::l) s K:=⟨λC hC ν a w hs n Q hQ=>by
 subst hC;refine wpListIn_step λK' hK'=>?_;have hst:aHW P ops C.nt ⟨d,op,ty,pos,aft,g⟩ s e:=⟨aCL hd,.inl ⟨hg,he,λb hb=>by have:=List.all_eq_true.1 hn b hb;simpa using this⟩⟩
 exact zW hst hs λν' a' w' hs'=>hK' _ _ (h.out C rfl ν' a' w' hs' n Q hQ)⟩
theorem aKA {Q:Exit→AState→Prop} {id:Nat} (h:SOps P l.toArray nt l s (Q .normal)):AC P nt (.region id l.toArray false) s Q:=by
 refine ⟨λC hC ν a w hs n=>?_⟩;exact wpIn_region_lit (h.out C hC ν a w hs n _ λs' ν' a' w' hq hs'=>⟨s',ν',hq,hs'⟩)
end
def df1:AV→Bool
 | .sc _=>true
 | .nil _=>true
 | .dead=>true
 | .own _ _ _=>true
 | .ptr _ _ _=>true
 |_=>false
def dfC:AV→Bool
 | .abs _ _=>true
 |x=>df1 x
def dfB:AV→Bool
 | .agg cs=>cs.all df1
 |x=>df1 x
def dfA:AV→Bool
 | .tuple cs=>cs.all dfB
 |x=>dfB x
section
variable {w w':World} {h h':Hp} {u u':Us} {ν ν':Nu} (U: ∀ b,u b=true→u' b=true) (O: ∀ b blk',u b=true→h' b=some blk'→ ∃ blk,h b=some blk∧blk.k=blk'.k∧blk.es.length=blk'.es.length∧ν' b=ν b)
include U O
theorem aHd: ∀ {x:AV} {v:Value},Rep1 w h u ν x v→df1 x=true→Rep1 w' h' u' ν' x v:=by
 intro x v r t;cases x <;> simp only [df1,fL] at t <;> simp only [Rep1] at r ⊢
 ·exact r
 ·exact r
 ·refine ⟨U _ r.1,λblk hb=>?_⟩;obtain ⟨blk0,e1,e2,e3,e4⟩:=O _ blk r.1 hb;have:=r.2 blk0 e1;rw [e4,←e3,←e2];exact this
 ·refine ⟨U _ r.1,λblk hb=>?_⟩;obtain ⟨blk0,e1,e2,e3,e4⟩:=O _ blk r.1 hb;have:=r.2 blk0 e1;rw [e4,←e2];exact this
end
section
variable {w w':World} {h h':Hp} {u u':Us} {ν ν':Nu} (U: ∀ b,u b=true→u' b=true) (O: ∀ b blk',u b=true→h' b=some blk'→ ∃ blk,h b=some blk∧blk.k=blk'.k∧blk.es.length=blk'.es.length∧ν' b=ν b)
include U O
theorem aIr: ∀ {xs:List AV} {vs:List Value},All2 (Rep1 w h u ν) xs vs→xs.all df1=true→All2 (Rep1 w' h' u' ν') xs vs
 | [],vs,r,_=>r
 |x::xs,vs,⟨v,q,e,r,k⟩,t=>by
  simp only [List.all_cons,dA] at t;exact ⟨v,q,e,aHd U O r t.1,aIr k t.2⟩
theorem aKn {x:AV} {v:Value} (r:RepB w h u ν x v) (t:dfB x=true):RepB w' h' u' ν' x v:=by
 cases x <;> simp only [RepB] at r ⊢ <;> first
  |exact aHd U O r t
  |(obtain ⟨vs,e,r⟩:=r;exact ⟨vs,e,aIr U O r t⟩)
  |(simp only [dfB,df1,fL] at t)
theorem aKo {x:AV} {v:Value} (r:RepA w h u ν x v) (t:dfA x=true):RepA w' h' u' ν' x v:=by
 by_cases ht: ∃ cs,x= .tuple cs
 ·obtain ⟨cs,rfl⟩:=ht;obtain ⟨vs,e,r⟩:=r;refine ⟨vs,e,r.congrM λy hy d hd=>aKn U O hd ?_⟩;exact List.all_eq_true.1 t y hy
 ·have r':RepB w h u ν x v:=by cases x <;> first|exact r|exact absurd ⟨_,rfl⟩ ht
  have t':dfB x=true:=by cases x <;> first|exact t|exact absurd ⟨_,rfl⟩ ht
  have:=aKn (w':=w') U O r' t';cases x <;> first|exact this|exact absurd ⟨_,rfl⟩ ht
theorem aOI {x:AV} {v:Value} {S:List Nat} (hk: ∀ b∈S,w'.heap[b]? =w.heap[b]?) (r:CellRep w h u ν x v S) (t:dfC x=true):CellRep w' h' u' ν' x v S:=by
 cases x <;> simp only [CellRep] at r ⊢ <;> first
  |exact ⟨aHd U O r.1 t,r.2⟩
  |exact r.keep hk
  |exact r
theorem aCZ: ∀ {xs:List AV} {vs:List Value} {S:List Nat},(∀ b∈S,w'.heap[b]? =w.heap[b]?)→CellsRep w h u ν xs vs S→(∀ c∈xs,dfC c=true)→CellsRep w' h' u' ν' xs vs S
 | [],_,_,_,r,_=>r
 |x::xs,vs,S,hk,⟨v,q,S1,S2,e1,e2,r,k⟩,t=>by
  subst e2;exact ⟨v,q,S1,S2,e1,rfl,aOI U O (λb hb=>hk b (by simp [hb])) r (t x (by simp)),aCZ (λb hb=>hk b (by simp [hb])) k (λc hc=>t c (by simp [hc]))⟩
theorem aGt {b:Nat} {blk:Blk} {S:List Nat} (hν:ν' b=ν b) (hk: ∀ x∈S,w'.heap[x]? =w.heap[x]?) (r:BlkOk w h u ν b blk S) (t: ∀ cs∈blk.es,∀ c∈cs,dfC c=true):BlkOk w' h' u' ν' b blk S:=by
 refine ⟨r.1,?_⟩;rcases r.2 with ⟨q1,q2,q3⟩|⟨β,c,arr,ty,T,vs,q1,q2,q3,q4,q5,q6,q7,q8⟩
 ·exact .inl ⟨hν.trans q1,q2,q3⟩
 ·subst q6;refine .inr ⟨β,c,arr,ty,T,vs,hν.trans q1,(hk β (by simp)).trans q2,q3,q4,q5,rfl,q7,aCZ U O (λx hx=>hk x (by simp [hx])) q8 λc hc=>?_⟩;obtain ⟨cs,hcs,hc⟩:=List.mem_flatten.1 hc;exact t cs hcs c hc
end
section
variable {P:Program} {ops:Array Oper} {nt:Nat} {l:List Oper} {s:AState} {K:AState→Prop} {dst:Option Tmp} {ty:TypeId} {pos:String} {aft:Array Edge}
theorem vR {fo:Operand} {xs:Array Operand} {ats:Array TypeId} {f:FuncId} {caps avs ds:List AV} {hl hl' hl2:List (Nat×Blk)} {kp n':Nat} {r r2:AV} {σ σ':Nat→Option Nat} {touch news:List Nat} {ed:List (Nat×Option Blk)}
  (hc:HasT P f ds hl kp r hl') (hf:s.ev fo=some (.fn f caps)) (hx:evs s.ev xs.toList=some avs) (hav:All2 (mO σ kp) (avs++caps) ds) (hh:rW σ kp s.heap hl) (hi:aBf σ hl=true) (hit:aAF σ touch hl=true) (hlive:(touch.all λb=>(s.heap b).isSome)=true)
  (hh':rW σ' n' (mK hl') hl2) (hi':aBf σ' hl2=true) (hr:mO σ' n' r r2) (hbk:aFU σ σ' kp news hl2=true) (htl:aGl (touch++news) hl2) (htr:aIk (touch++news) r2=true) (he:aBo (touch++news) hl2=ed)
  (hd:aDM ⟨dst,.call ⟨.value fo,xs,ats⟩,ty,pos,aft,none⟩ nt=true) (hn:(news.all λb=> !s.used b)=true) (hT:s.kp.T=true) (hdf: ∀ t x,s.env t=some x→dfA x=true) (hdc: ∀ b blk,s.heap b=some blk→b ∉ touch++news→ ∀ cs∈blk.es,∀ c∈cs,dfC c=true)
  (h:SOps P ops nt l (s.app dst ⟨r2,touch,ed,news⟩) K):SOps P ops nt (⟨dst,.call ⟨.value fo,xs,ats⟩,ty,pos,aft,none⟩::l) s K:=⟨λC hC ν a w hs n0 Q hQ=>by
 subst hC;refine wpListIn_step λK' hK'=>?_;rw [aX (aDI hs (ops:=ops) (t:=true) rfl)];refine aOg (λc h=>by cases h) ?_;have hnw: ∀ b∈news,s.used b=false:=λb hb=>by have:=List.all_eq_true.1 hn b hb;simpa using this
 have hfn:=hs.ev hf;simp only [RepA,RepB] at hfn;obtain ⟨cv,hfv,hcap⟩:=hfn;have hval:=aAx hs (xs:=xs.toList) (λy hy=>rfl) hx;obtain ⟨φ,hφ⟩:=hs.heap;let h3:Hp:=λb=>if b∈touch then s.heap b else none
 have sub: ∀ b blk,h3 b=some blk→s.heap b=some blk∧b∈touch:=by
  intro b blk hb;by_cases e:b∈touch
  ·simp only [h3,aX e] at hb;exact ⟨hb,e⟩
  ·simp only [h3,aZ e] at hb;cases hb
 let M2:Nat→Prop:=λx=>(∃ b,b∈touch∧s.heap b≠none∧x∈φ b)∨w.heap.size≤x
 have hM2: ∀ x,M2 x→C.M x:=by
  rintro x (⟨b,_,hb,hx⟩|hx)
  ·obtain ⟨blk,hb⟩:=Option.ne_none_iff_exists'.1 hb;exact (hφ.blk b blk hb).2.2.2 x hx
  ·exact hs.fresh x hx
 have hk3:HeapOk M2 w h3 s.used ν φ:=hφ.shrink (λb blk hb=>(sub b blk hb).1) (λb x hb hx _=>by
  obtain ⟨blk,hb⟩:=Option.ne_none_iff_exists'.1 hb;obtain ⟨e1,e2⟩:=sub b blk hb
  exact .inl ⟨b,e2,by rw [e1];simp,hx⟩)
 have hent:rW σ kp h3 hl:=aBn (h:=s.heap) (touch:=touch) (λb hb=>by simp only [h3,aX hb]) hit hh;have cv1:=aEn (w:=w) (u:=s.used) (ν:=ν) hent hi;have hk4:=cv1.heap hk3;have shr3:Ext w s.heap s.used ν w h3 s.used ν:=(Ext.refl _ _ _ _).shrink (λb blk hb=>(sub b blk hb).1)
 have hargs:All2 (RepA w (mK hl) (ltb kp) (wX σ ν)) ds (xs.toList.map a.eval++cv):=
  aDW (R:=RepA w s.heap s.used ν) (Mt:=mO σ kp) (R':=RepA w (mK hl) (ltb kp) (wX σ ν)) (λx y v hx hm=>cv1.rep (RepA.ext shr3 hx) hm) (hval.append (hcap.mono λx v h=>Rep1.repA h)) hav
 have hcall:=hc.calls C.B M2 w ((xs.map a.eval)++cv.toArray) (wX σ ν) _ (λx hx=>C.low x (hM2 x hx)) hs.base (λx hx=> .inr hx) (λx hx=>hs.okM x (hM2 x hx)) (by simpa using hargs) hk4;unfold Oper.wp
 have hex:(execOp a.eval ⟨dst,.call ⟨.value fo,xs,ats⟩,ty,pos,aft,none⟩).run P w= .ok (.enter f ((xs.map a.eval)++cv.toArray)) w:=by
  have:execOp a.eval ⟨dst,.call ⟨.value fo,xs,ats⟩,ty,pos,aft,none⟩=callFunc f ((xs.map a.eval)++cv.toArray):=by
   simp [execOp,resolve,hfv,Deferred.ofValue,invoke]
  rw [this];exact hc.enters _ _
 rw [hex];simp only [Oper.upon];refine hcall.mono λe w' ⟨v,u1,ν1,φ1,hev,hbel,hext,hh1,hrep⟩=>?_;subst hev;simp only;have cv2:=aEn (w:=w') (u:=u1) (ν:=ν1) hh' hi';have hh2:=cv2.heap hh1;generalize hrl:touch++news=rl at*;let ν':Nu:=⟨λb=>if b∈rl then wX σ' ν1 b else ν b,ν.ok⟩;have hν1: ∀ b,b∈rl→ν' b=wX σ' ν1 b:=λb hb=>aX hb;have hν2: ∀ b,b ∉ rl→ν' b=ν b:=λb hb=>aZ hb;have hheq: ∀ b,bP ed s.heap b=if b∈rl then mK hl2 b else s.heap b:=λb=>by rw [←he];exact aFV
 have hhe1: ∀ b,b∈rl→bP ed s.heap b=mK hl2 b:=λb hb=>by rw [hheq,aX hb]
 have hhe2: ∀ b,b ∉ rl→bP ed s.heap b=s.heap b:=λb hb=>by rw [hheq,aZ hb]
 have hused: ∀ b,b∈rl→gJ news s.used b=true:=by
  intro b hb;rw [←hrl] at hb;rw [iB];rcases dX.1 hb with h|h
  ·have h5:=List.all_eq_true.1 hlive b h;cases hq:s.heap b with
   |none=>rw [hq] at h5;cases h5
   |some blk=>rw [(hφ.blk b blk hq).1,Bool.or_true]
  ·have:news.contains b=true:=by simpa using h
   rw [this,Bool.true_or]
 have U: ∀ b,s.used b=true→gJ news s.used b=true:=λb hb=>by rw [iB,hb,Bool.or_true]
 have O: ∀ b blk',s.used b=true→bP ed s.heap b=some blk'→ ∃ blk,s.heap b=some blk∧blk.k=blk'.k∧blk.es.length=blk'.es.length∧ν' b=ν b:=by
  intro b blk' hu hb;by_cases e:b∈rl
  ·rw [hhe1 b e] at hb;obtain ⟨i,e1,e2⟩:=aDU hbk (nZ hb);obtain ⟨x,f1,f2,f3⟩:=(cv2.look b blk' hb).1 i e1;rcases e2 with e2|⟨e2,e3⟩
   ·rw [hnw b e2] at hu;cases hu
   ·obtain ⟨blk0,g1,g2,g3,g4⟩:=hext.old i x e2 f1;obtain ⟨z,k1,k2,k3⟩:=(cv1.look i blk0 g1).1 b e3;refine ⟨z,(sub b z k1).1,k2.trans (g2.trans f2),k3.trans (g3.trans f3),?_⟩;rw [hν1 b e];simp only [wX,e1];rw [g4];simp only [wX,e3]
  ·rw [hhe2 b e] at hb;exact ⟨blk',hb,rfl,rfl,hν2 b e⟩
 have hout: ∀ b blk x,s.heap b=some blk→b ∉ rl→x∈φ b→w'.heap[x]? =w.heap[x]? :=by
  intro b blk x hb hbr hx;refine (hext.free x ((hφ.blk b blk hb).2.1.lt x hx) ?_).1;rintro (⟨b2,e1,e2,e3⟩|e1)
  ·have hne:b2≠b:=by rintro rfl;exact hbr (by rw [←hrl];exact List.mem_append_left _ e1)
   exact hφ.apart b2 b x e2 (by rw [hb];simp) hne e3 hx
  ·have:=(hφ.blk b blk hb).2.1.lt x hx;omega
 have hcross: ∀ b c x,mK hl2 b≠none→s.heap c≠none→c ∉ rl→x∈(match σ' b with|some b0=>φ1 b0|none=>[])→x ∉ φ c:=by
  intro b c x hb hc' hcr hx hx2;obtain ⟨y1,hy1⟩:=Option.ne_none_iff_exists'.1 hb;obtain ⟨y2,hy2⟩:=Option.ne_none_iff_exists'.1 hc';rcases (hh2.blk b y1 hy1).2.2.2 x hx with ⟨b2,e1,e2,e3⟩|e1
  ·have hne:b2≠c:=by rintro rfl;exact hcr (by rw [←hrl];exact List.mem_append_left _ e1)
   exact hφ.apart b2 c x e2 hc' hne e3 hx2
  ·have:=(hφ.blk c y2 hy2).2.1.lt x hx2;omega
 have hdef:OkD C w' a.defers:=by
  obtain ⟨Ds,q1,q2,q3⟩:=hs.defers;refine ⟨Ds,q1,q2,λD hD=>?_⟩;obtain ⟨p1,p2,p3⟩:=q3 D hD;refine ⟨p1,p2,(hext.free D (uA p3) ?_).1.trans p3⟩;rintro (⟨b,e1,e2,e3⟩|e1)
  ·obtain ⟨blk,hb⟩:=Option.ne_none_iff_exists'.1 e2;obtain ⟨o,o1,o2⟩:=(hφ.blk b blk hb).2.1.inC D e3;rw [p3] at o1;cases o1;cases o2
  ·have:=uA p3;omega
 have hfin:Sim C (s.app dst ⟨r2,touch,ed,news⟩) ν' (a.put dst v) w':=by
  refine ⟨hs.below.trans hbel,Nat.le_trans hs.base hbel.size,λx hx=>hs.fresh x (Nat.le_trans hbel.size hx),by rw [aEs];exact hdef,by rw [aIK];exact hs.size,?_,⟨λb=>if b∈rl then (match σ' b with|some b0=>φ1 b0|none=>[]) else φ b,?_,?_⟩,hs.kp,?_,Nat.le_trans hs.szE hbel.size,hs.okM,hs.okF⟩
  ·exact aKW hs.size (aCL hd).1 (λt x h=>by obtain ⟨v,h1,h2⟩:=hs.env t x h;exact ⟨v,h1,aKo U O h2 (hdf t x h)⟩) (aGn (h1:=mK hl2) (u1:=ltb n') (ν1:=wX σ' ν1) hhe1 hν1 hused (cv2.rep hrep hr) htr)
  ·intro b blk' hb;replace hb:bP ed s.heap b=some blk':=hb;by_cases e:b∈rl
   ·rw [hhe1 b e] at hb;simp only [aX e];obtain ⟨_,g2,g3,g4⟩:=hh2.blk b blk' hb;exact ⟨hused b e,aDv (h1:=mK hl2) (u1:=ltb n') (ν1:=wX σ' ν1) hhe1 hν1 hused e g2 (aDT htl (nZ hb)).2,g3,λx hx=>hM2 x (g4 x hx)⟩
   ·rw [hhe2 b e] at hb;simp only [aZ e];obtain ⟨g1,g2,g3,g4⟩:=hφ.blk b blk' hb;exact ⟨U b g1,aGt U O (hν2 b e) (λx hx=>hout b blk' x hb e hx) g2 (hdc b blk' hb e),g3,g4⟩
  ·intro b c x hb hc' hne hxb hxc;replace hb:bP ed s.heap b≠none:=hb;replace hc':bP ed s.heap c≠none:=hc';by_cases e1:b∈rl <;> by_cases e2:c∈rl
   ·simp only [aX e1] at hxb;simp only [aX e2] at hxc;rw [hhe1 b e1] at hb;rw [hhe1 c e2] at hc';exact hh2.apart b c x hb hc' hne hxb hxc
   ·simp only [aX e1] at hxb;simp only [aZ e2] at hxc;rw [hhe1 b e1] at hb;rw [hhe2 c e2] at hc';exact hcross b c x hb hc' e2 hxb hxc
   ·simp only [aZ e1] at hxb;simp only [aX e2] at hxc;rw [hhe2 b e1] at hb;rw [hhe1 c e2] at hc';exact hcross c b x hc' hb e1 hxc hxb
   ·simp only [aZ e1] at hxb;simp only [aZ e2] at hxc;rw [hhe2 b e1] at hb;rw [hhe2 c e2] at hc';exact hφ.apart b c x hb hc' hne hxb hxc
  ·refine ⟨λb hb=>U b (hs.ext.used b hb),λb blk' hb hl'=>?_,λx hx hF=>?_,hs.ext.okE⟩
   ·obtain ⟨y,g1,g2,g3,g4⟩:=O b blk' (hs.ext.used b hb) hl';obtain ⟨z,k1,k2,k3,k4⟩:=hs.ext.old b y hb g1;exact ⟨z,k1,k2.trans g2,k3.trans g3,g4.trans k4⟩
   ·obtain ⟨g1,g2⟩:=hs.ext.free x hx hF;have hm: ¬ M2 x:=λhm=>C.tm (by rw [←hs.kp];exact hT) x hx (hM2 x hm) hF;obtain ⟨p1,p2⟩:=hext.free x (zN hx g1) hm;refine ⟨p1.trans g1,λb blk β c hb hν=>?_⟩;replace hb:bP ed s.heap b=some blk:=hb;by_cases e:b∈rl
    ·rw [hhe1 b e] at hb;rw [hν1 b e] at hν;exact cv2.free x p2 b blk β c hb hν
    ·rw [hhe2 b e] at hb;rw [hν2 b e] at hν;exact g2 b blk β c hb hν
 exact hK' _ _ (h.out C rfl _ _ _ hfin n0 Q hQ)⟩
end
end
noncomputable section
theorem aIs {w:World} {h:Hp} {u:Us} {ν:Nu} : ∀ {cs:List AV} {vs:List Value} {S:List Nat},RepOV w cs vs S→CellsRep w h u ν (cs.map sT) vs S
 | [],vs,S,r=>by simp only [RepOV] at r;exact r
 |c::cs,vs,S,r=>by
  simp only [RepOV] at r;obtain ⟨v,q,S1,S2,e1,e2,_,h3,h4⟩:=r;refine ⟨v,q,S1,S2,e1,e2,?_,aIs h4⟩;cases c with
  |sc x=>simp only [RepO] at h3;exact ⟨⟨h3.1,h3.2.1⟩,h3.2.2⟩
  |list k es=>exact h3
  |_=>simp only [RepO] at h3
theorem aKB {k:Nat} {es:List (List AV)} (h: ∀ cs∈es,cs.length=k): ∀ cs∈bX es,cs.length=k:=by
 intro cs hcs;unfold bX at hcs;obtain ⟨d,hd,rfl⟩:=List.mem_map.1 hcs;rw [dB];exact h d hd
theorem aKC (es:List (List AV)):(bX es).flatten=es.flatten.map sT:=by
 unfold bX;rw [List.map_flatten]
theorem aMx {s:AState} {b c i j k':Nat} {blk:Blk} {cs:List AV} {es':List (List AV)} (hT:s.kp.T=true) (hb:s.heap b=some blk) (hi:blk.es[i]? =some cs) (hj:cs[j]? =some (.abs k' es')) (hc:s.used c=false) (hdf: ∀ t x,s.env t=some x→dfA x=true) (hdc: ∀ b blk,s.heap b=some blk→ ∀ cs∈blk.es,∀ c∈cs,dfC c=true):
  Ent s ⟨s.env,bP [(c,some ⟨k',bX es'⟩),(b,some ⟨blk.k,blk.es.set i (cs.take j++[.own c 0 es'.length]++cs.drop (j+1))⟩)] s.heap,gJ [c] s.used,s.ns,s.kp⟩:=by
 intro C ν a w hs;obtain ⟨φ,hh⟩:=hs.heap;obtain ⟨hub,⟨hk1,hx1⟩,hnd1,hB1⟩:=hh.blk b blk hb;have hne:b≠c:=by rintro rfl;rw [hub] at hc;cases hc
 have hcn:s.heap c=none:=hs.unused hc;have hcs:=hk1 cs (List.mem_of_getElem? hi)
 have hjl:j<cs.length:=by
  rcases eJ j cs.length with h'|h'
  ·exact h'
  ·rw [jR h'] at hj;cases hj
 rcases hx1 with ⟨q1,q2,_⟩|⟨β,cap,arr,ty,T,vs,q1,q2,q3,q4,q5,q6,q7,q8⟩
 ·rw [q2] at hi;simp at hi
 have hdrop:blk.es.flatten.drop (i*blk.k+j)= .abs k' es'::blk.es.flatten.drop (i*blk.k+j+1):=by
  obtain ⟨r,hr⟩:=wT hk1 hi;have h1:blk.es.flatten.drop (i*blk.k+j)=(cs++r).drop j:=by rw [←hr,List.drop_drop]
  have h2:blk.es.flatten.drop (i*blk.k+j+1)=(cs++r).drop (j+1):=by rw [←hr,List.drop_drop,Nat.add_assoc]
  rw [h1,h2,List.drop_append_of_le_length (by omega),List.drop_append_of_le_length (by omega),List.drop_eq_getElem_cons hjl];have:cs[j]= .abs k' es':=by simpa [hjl] using hj
  rw [this];rfl
 have hfl:blk.es.flatten=blk.es.flatten.take (i*blk.k+j)++([.abs k' es']++blk.es.flatten.drop (i*blk.k+j+1)):=by
  rw [List.singleton_append,←hdrop,List.take_append_drop]
 rw [hfl] at q8;obtain ⟨v1,v2,S1,S2,e1,e2,e3,e4,e5⟩:=q8.append_inv;obtain ⟨v3,v4,S3,S4,f1,f2,f3,f4,f5⟩:=e5.append_inv;subst f1 f2;obtain ⟨v,r0,S5,S6,rfl,rfl,g1,⟨rfl,rfl⟩⟩:=f4;simp only [CellRep] at g1;rw [List.append_nil] at e2;have hφ:φ b=β::(S1++(S5++S4)):=by rw [q6,e2]
 obtain ⟨νc,hνc⟩: ∃ νc:Option (Nat×Nat),(∀ (h:Hp) (u:Us) (ν':Nu),ν' c=νc→BlkOk w h u ν' c ⟨k',bX es'⟩ S5)∧(νc=none→v= .slice none 0 0)∧(∀ β' cap',νc=some (β',cap')→ownV β' 0 k' es'.length cap' v∧β'∈S5):=by
  simp only [RepO] at g1;rcases g1 with ⟨rfl,rfl,rfl⟩|⟨β',cap',arr',ty',T',vs',p1,p2,p3,p4,p5,p6,rfl,p8,p9⟩
  ·exact ⟨none,λh u ν' hν=>⟨by simp [bX],.inl ⟨hν,rfl,rfl⟩⟩,λ_=>rfl,λ_ _ e=>by cases e⟩
  ·have hl:(bX es').length=es'.length:=by simp [bX]
   refine ⟨some (β',cap'),λh u ν' hν=>⟨aKB p6,.inr ⟨β',cap',arr',ty',T',vs',hν,p2,p3,by show (bX es').length ≤cap';omega,p5,rfl,by show arr'.toList.take ((bX es').length *k')=vs';rw [hl];exact p8,?_⟩⟩,λe=>by (cases e),λx y e=>?_⟩
   ·show CellsRep w h u ν' (bX es').flatten vs' T';rw [aKC];exact aIs (zO.1 p9)
   ·cases e;rw [p1];exact ⟨aDF,by simp⟩
 obtain ⟨hB,hn0,hn1⟩:=hνc;let ν':Nu:=⟨λx=>if x=c then νc else ν x,ν.ok⟩;have hν1:ν' c=νc:=aX rfl;have hν2: ∀ x,x≠c→ν' x=ν x:=λx hx=>aZ hx;have hl1:bP [(c,some ⟨k',bX es'⟩),(b,some ⟨blk.k,blk.es.set i (cs.take j++[.own c 0 es'.length]++cs.drop (j+1))⟩)] s.heap c=some ⟨k',bX es'⟩:=by simp [bP]
 have hl2:bP [(c,some ⟨k',bX es'⟩),(b,some ⟨blk.k,blk.es.set i (cs.take j++[.own c 0 es'.length]++cs.drop (j+1))⟩)] s.heap b=some ⟨blk.k,blk.es.set i (cs.take j++[.own c 0 es'.length]++cs.drop (j+1))⟩:=by simp [bP,cK hne]
 have hl3: ∀ x,x≠c→x≠b→bP [(c,some ⟨k',bX es'⟩),(b,some ⟨blk.k,blk.es.set i (cs.take j++[.own c 0 es'.length]++cs.drop (j+1))⟩)] s.heap x=s.heap x:=λx h1 h2=>by simp [bP,cK h1,cK h2]
 generalize hH:bP [(c,some ⟨k',bX es'⟩),(b,some ⟨blk.k,blk.es.set i (cs.take j++[.own c 0 es'.length]++cs.drop (j+1))⟩)] s.heap=H at*;have U: ∀ x,s.used x=true→gJ [c] s.used x=true:=λx hx=>by rw [iB,hx,Bool.or_true]
 have O: ∀ x blk',s.used x=true→H x=some blk'→ ∃ y,s.heap x=some y∧y.k=blk'.k∧y.es.length=blk'.es.length∧ν' x=ν x:=by
  intro x blk' hu hx;have hxc:x≠c:=by rintro rfl;rw [hu] at hc;cases hc
  by_cases e:x=b
  ·subst e;rw [hl2] at hx;cases hx;exact ⟨blk,hb,rfl,by simp,hν2 _ hxc⟩
  ·rw [hl3 x hxc e] at hx;exact ⟨blk',hx,rfl,rfl,hν2 _ hxc⟩
 have hfl2: ∀ d∈blk.es.flatten,dfC d=true:=by
  intro d hd;obtain ⟨ds,h1,h2⟩:=List.mem_flatten.1 hd;exact hdc b blk hb ds h1 d h2
 refine ⟨ν',hs.below,hs.base,hs.fresh,hs.defers,hs.size,λt x hx=>by obtain ⟨v,h1,h2⟩:=hs.env t x hx;exact ⟨v,h1,aKo U O h2 (hdf t x hx)⟩,⟨λx=>if x=c then S5 else if x=b then β::(S1++S4) else φ x,?_,?_⟩,hs.kp,?_,hs.szE,hs.okM,hs.okF⟩
 ·intro x blk2 hx;replace hx:H x=some blk2:=hx;have hnd:=hnd1;rw [hφ] at hnd;have n1:=List.nodup_cons.1 hnd;have n2:=List.nodup_append.1 n1.2;have n3:=List.nodup_append.1 n2.2.1;by_cases e:x=c
  ·subst e;rw [hl1] at hx;cases hx;simp only [if_true];refine ⟨by rw [iB];simp,hB _ _ _ hν1,n3.1,λy hy=>hB1 y (by rw [hφ];simp [hy])⟩
  ·by_cases e0:x=b
   ·subst e0;rw [hl2] at hx;cases hx;simp only [aZ e,if_true];refine ⟨U _ hub,⟨?_,.inr ⟨β,cap,arr,ty,S1++S4,vs,(hν2 _ e).trans q1,q2,q3,by simpa using q4,q5,rfl,by simpa using q7,?_⟩⟩,?_,?_⟩
    ·intro d hd;rcases List.mem_or_eq_of_mem_set hd with h|h
     ·exact hk1 d h
     ·rw [h];simp;omega
    ·rw [yD (n:=1) hk1 hi rfl (by omega),e1]
     have m1:CellsRep w H (gJ [c] s.used) ν' [.own c 0 es'.length] [v] []:=by
      refine ⟨v,[],[],[],rfl,rfl,⟨⟨by rw [iB];simp,λblk3 h3=>?_⟩,rfl⟩,rfl,rfl⟩;rw [hl1] at h3;cases h3;refine ⟨by simp [bX],λh4=>hn0 (hν1.symm.trans h4),λβ' c' h4=>(hn1 β' c' (hν1.symm.trans h4)).1⟩
     have m2:=(aCZ (w':=w) (h':=H) (u':=gJ [c] s.used) (ν':=ν') U O (λ_ _=>rfl) e4 (λd hd=>hfl2 d (List.mem_of_mem_take hd))).append (m1.append (aCZ (w':=w) (h':=H) (u':=gJ [c] s.used) (ν':=ν') U O (λ_ _=>rfl) f5 (λd hd=>hfl2 d (List.mem_of_mem_drop hd))));rw [List.append_assoc (List.take (i*blk.k+j) blk.es.flatten)];simpa using m2
    ·refine List.nodup_cons.2 ⟨λhm=>n1.1 ?_,List.nodup_append.2 ⟨n2.1,n3.2.1,λy hy z hz=>n2.2.2 y hy z (by simp [hz])⟩⟩;rcases dX.1 hm with h|h <;> simp [h]
    ·intro y hy;refine hB1 y ?_;rw [hφ];rcases eN.1 hy with rfl|h
     ·simp
     ·rcases dX.1 h with h|h <;> simp [h]
   ·rw [hl3 x e e0] at hx;simp only [aZ e,aZ e0];obtain ⟨p1,p2,p3,p4⟩:=hh.blk x blk2 hx;exact ⟨U _ p1,aGt U O (hν2 _ e) (λ_ _=>rfl) p2 (hdc x blk2 hx),p3,p4⟩
 ·have hnd:=hnd1;rw [hφ] at hnd;have n1:=List.nodup_cons.1 hnd;have n2:=List.nodup_append.1 n1.2;have n3:=List.nodup_append.1 n2.2.1;have hbn:s.heap b≠none:=by rw [hb];simp
  have hS5: ∀ y,y∈S5→y∈φ b:=λy hy=>by rw [hφ];simp [hy]
  have hSb: ∀ y,y∈β::(S1++S4)→y∈φ b:=λy hy=>by
   rw [hφ];rcases eN.1 hy with rfl|h
   ·simp
   ·rcases dX.1 h with h|h <;> simp [h]
  have hcb: ∀ y,y∈S5→y ∉ β::(S1++S4):=by
   intro y h5 hy;rcases eN.1 hy with rfl|h
   ·exact n1.1 (by simp [h5])
   ·rcases dX.1 h with h|h
    ·exact n2.2.2 y h y (by simp [h5]) rfl
    ·exact n3.2.2 y h5 y h rfl
  intro x1 x2 y hx1 hx2 hne2 hy1 hy2;replace hx1:H x1≠none:=hx1;replace hx2:H x2≠none:=hx2;replace hy1:y∈(if x1=c then S5 else if x1=b then β::(S1++S4) else φ x1):=hy1;replace hy2:y∈(if x2=c then S5 else if x2=b then β::(S1++S4) else φ x2):=hy2;by_cases a1:x1=c <;> by_cases a2:x2=c
  ·exact hne2 (a1.trans a2.symm)
  ·rw [aX a1] at hy1;rw [aZ a2] at hy2;by_cases b2:x2=b
   ·rw [aX b2] at hy2;exact hcb y hy1 hy2
   ·rw [aZ b2] at hy2;rw [hl3 x2 a2 b2] at hx2;exact hh.apart b x2 y hbn hx2 (Ne.symm b2) (hS5 y hy1) hy2
  ·rw [aZ a1] at hy1;rw [aX a2] at hy2;by_cases b1:x1=b
   ·rw [aX b1] at hy1;exact hcb y hy2 hy1
   ·rw [aZ b1] at hy1;rw [hl3 x1 a1 b1] at hx1;exact hh.apart b x1 y hbn hx1 (Ne.symm b1) (hS5 y hy2) hy1
  ·rw [aZ a1] at hy1;rw [aZ a2] at hy2;by_cases b1:x1=b <;> by_cases b2:x2=b
   ·exact hne2 (b1.trans b2.symm)
   ·rw [aX b1] at hy1;rw [aZ b2] at hy2;rw [hl3 x2 a2 b2] at hx2;exact hh.apart b x2 y hbn hx2 (Ne.symm b2) (hSb y hy1) hy2
   ·rw [aZ b1] at hy1;rw [aX b2] at hy2;rw [hl3 x1 a1 b1] at hx1;exact hh.apart b x1 y hbn hx1 (Ne.symm b1) (hSb y hy2) hy1
   ·rw [aZ b1] at hy1;rw [aZ b2] at hy2;rw [hl3 x1 a1 b1] at hx1;rw [hl3 x2 a2 b2] at hx2;exact hh.apart x1 x2 y hx1 hx2 hne2 hy1 hy2
 ·refine ⟨λx hx=>U x (hs.ext.used x hx),λx blk' hx hl'=>?_,λx hx hF=>?_,hs.ext.okE⟩
  ·obtain ⟨y,g1,g2,g3,g4⟩:=O x blk' (hs.ext.used x hx) hl';obtain ⟨z,k1,k2,k3,k4⟩:=hs.ext.old x y hx g1;exact ⟨z,k1,k2.trans g2,k3.trans g3,g4.trans k4⟩
  ·obtain ⟨g1,g2⟩:=hs.ext.free x hx hF;refine ⟨g1,λb2 blk2 β2 c2 hb2 h2 e=>?_⟩;replace hb2:H b2=some blk2:=hb2;by_cases a1:b2=c
   ·subst a1;rw [hν1] at h2;subst e;exact C.tm (by rw [←hs.kp];exact hT) β2 hx (hB1 β2 (by rw [hφ];simp [(hn1 _ _ h2).2])) hF
   ·rw [hν2 _ a1] at h2;by_cases a2:b2=b
    ·subst a2;exact g2 b2 blk β2 c2 hb h2 e
    ·rw [hl3 b2 a1 a2] at hb2;exact g2 b2 blk2 β2 c2 hb2 h2 e
end
noncomputable section
def Raw1 (κ:Kp) (x d:AV):Prop:= ∃ W G v S,κ.fx=some (W,G)∧x= .sc v∧RepD W d v S∧ ∀ b∈S,G b
def RawK (κ:Kp):AV→AV→Prop
 | .agg xs,.agg ds=>All2 (Raw1 κ) xs ds
 |x,d=>Raw1 κ x d
theorem Sim.stays {C:Ctx} {s:AState} {ν:Nu} {a:Act} {w:World} (hs:Sim C s ν a w) {κ:Kp} (hκ:s.kp=κ) {W:World} {G:Nat→Prop} (h:κ.fx=some (W,G)) {b:Nat} (hb:G b):w.heap[b]? =W.heap[b]? ∧vW s.heap ν b:=by
 obtain ⟨e1,e2⟩:=C.fxp (W,G) (by rw [←hs.kp,hκ];exact h);obtain ⟨e3,e4⟩:=e2 b hb;obtain ⟨e5,e6⟩:=hs.ext.free b e3 e4;rw [e1] at e5;exact ⟨e5,e6,hs.okF (W,G) (by rw [←hs.kp,hκ];exact h) b hb⟩
theorem Raw1.rep {C:Ctx} {s:AState} {ν ν':Nu} {a:Act} {w:World} {h:Hp} {u:Us} (hs:Sim C s ν a w) {κ:Kp} (hκ:s.kp=κ) {x d:AV} {v:Value} (r:Rep1 w h u ν' x v) (m:Raw1 κ x d): ∃ S',RepD w d v S':=by
 obtain ⟨W,G,y,S,h1,rfl,h2,h3⟩:=m;rw [r.1];exact ⟨S,h2.keep λb hm=>(hs.stays hκ h1 (h3 b hm)).1⟩
theorem RawK.rep {C:Ctx} {s:AState} {ν:Nu} {a:Act} {w:World} (hs:Sim C s ν a w) {κ:Kp} (hκ:s.kp=κ) {x d:AV} {v:Value} (r:RepA w s.heap s.used ν x v) (m:RawK κ x d): ∃ S',RepD w d v S':=by
 by_cases ho: ∃ xs ds,x= .agg xs∧d= .agg ds
 ·obtain ⟨xs,ds,rfl,rfl⟩:=ho;obtain ⟨vs,rfl,r⟩:=r;obtain ⟨S,h⟩:=uB (V:=Raw1 κ) (λx d v hr hm=>hm.rep hs hκ hr) r m;exact ⟨S,by simp only [RepD];exact ⟨vs,rfl,h⟩⟩
 ·have m':Raw1 κ x d:=by
   cases x <;> first|exact m|(cases d <;> first|exact m|exact absurd ⟨_,_,rfl,rfl⟩ ho)
  obtain ⟨W,G,y,S,h1,rfl,h2,h3⟩:=m';exact Raw1.rep (h:=s.heap) (u:=s.used) (ν':=ν) (x:= .sc y) hs hκ (show Rep1 w s.heap s.used ν (.sc y) v from r) ⟨W,G,y,S,h1,rfl,h2,h3⟩
def rd1:AV→Bool
 | .sc _=>true
 | .list _ _=>true
 | .ref _=>true
 |_=>false
def rdA:AV→Bool
 | .agg ds=>ds.all rd1
 |d=>rd1 d
theorem Raw1.rep1 {C:Ctx} {s:AState} {ν:Nu} {a:Act} {w:World} (hs:Sim C s ν a w) {κ:Kp} (hκ:s.kp=κ) {x d:AV} {v:Value} (r:Rep1 w s.heap s.used ν x v) (m:Raw1 κ x d) (ok:rd1 d=true):Rep1 w s.heap s.used ν d v:=by
 obtain ⟨W,G,y,S,h1,rfl,h2,h3⟩:=m;rw [r.1];have h4:=h2.keep λb hm=>(hs.stays hκ h1 (h3 b hm)).1;cases d <;> simp only [rd1,fL] at ok
 ·simp only [RepD] at h4;exact ⟨h4.1,h4.2.1⟩
 ·exact ⟨S,h4,λx hx=>(hs.stays hκ h1 (h3 x hx)).2⟩
 ·exact ⟨S,h4,λx hx=>(hs.stays hκ h1 (h3 x hx)).2⟩
theorem RawK.repA {C:Ctx} {s:AState} {ν:Nu} {a:Act} {w:World} (hs:Sim C s ν a w) {κ:Kp} (hκ:s.kp=κ) {x d:AV} {v:Value} (r:RepA w s.heap s.used ν x v) (m:RawK κ x d) (ok:rdA d=true):RepA w s.heap s.used ν d v:=by
 by_cases ho: ∃ xs ds,x= .agg xs∧d= .agg ds
 ·obtain ⟨xs,ds,rfl,rfl⟩:=ho;obtain ⟨vs,rfl,r⟩:=r;refine ⟨vs,rfl,?_⟩
  have key: ∀ {xs ds:List AV} {vs:List Value},All2 (Rep1 w s.heap s.used ν) xs vs→All2 (Raw1 κ) xs ds→ds.all rd1=true→All2 (Rep1 w s.heap s.used ν) ds vs:=by
   intro xs;induction xs with
   |nil=>intro ds vs h1 h2 _;simp only [All2] at h1 h2;subst h1 h2;rfl
   |cons x xs ih=>
    rintro ds vs ⟨v,q,rfl,g1,g2⟩ ⟨d,r,rfl,k1,k2⟩ o;simp only [List.all_cons,dA] at o;exact ⟨v,q,rfl,k1.rep1 hs hκ g1 o.1,ih g2 k2 o.2⟩
  exact key r m ok
 ·have m':Raw1 κ x d:=by
   cases x <;> first|exact m|(cases d <;> first|exact m|exact absurd ⟨_,_,rfl,rfl⟩ ho)
  have ok':rd1 d=true:=by
   cases d <;> first|exact ok|skip
   obtain ⟨W,G,y,S,h1,rfl,h2,h3⟩:=m';have e:RepA w s.heap s.used ν (.sc y) v:=r;exfalso;simp only [RepD] at h2;obtain ⟨vs,rfl,_⟩:=h2;exact absurd e.2 (by simp [Value.oneCell'])
  have r1:Rep1 w s.heap s.used ν x v:=by
   obtain ⟨W,G,y,S,h1,rfl,h2,h3⟩:=m';exact r
  have:=m'.rep1 hs hκ r1 ok';cases d <;> first|exact this|(simp only [rd1,fL] at ok')
def aQZ (σ:Nat→Option Nat) (n:Nat) (κ:Kp) (x d:AV):Prop:=mO σ n x d∨(RawK κ x d∧rdA d=true∧mO σ n d d)
section
variable {P:Program} {dst:Option Tmp} {ty:TypeId} {pos:String} {aft:Array Edge} {g:Option (Nat×Bool)} {ins:Operand→Option AV} {hp:Hp} {κ:Kp}
theorem aLm {fo:Operand} {xs:Array Operand} {ats:Array TypeId} {f:FuncId} {caps avs ds:List AV} {hl hl' hl2:List (Nat×Blk)} {kp n':Nat} {r r2:AV} {σ σ':Nat→Option Nat} {touch news:List Nat} {ed:List (Nat×Option Blk)}
  (hc:HasE P f ds hl kp r hl') (hf:ins fo=some (.fn f caps)) (hx:evs ins xs.toList=some avs) (hav:All2 (aQZ σ kp κ) (avs++caps) ds) (hh:rW σ kp hp hl) (hi:aBf σ hl=true) (hit:aAF σ touch hl=true) (hlive:(touch.all λb=>(hp b).isSome)=true)
  (hh':rW σ' n' (mK hl') hl2) (hi':aBf σ' hl2=true) (hr:mO σ' n' r r2) (hbk:aFU σ σ' kp news hl2=true) (htl:aGl (touch++news) hl2) (htr:aIk (touch++news) r2=true) (he:aBo (touch++news) hl2=ed):
  AEff P ⟨dst,.call ⟨.value fo,xs,ats⟩,ty,pos,aft,g⟩ ins hp κ ⟨r2,touch,ed,news⟩:=by
 have key: ∃ av2,All2 (mO σ kp) av2 ds∧ ∀ (C:Ctx) (s:AState) (ν:Nu) (a:Act) (w:World) (vs:List Value),s.kp=κ→Sim C s ν a w→All2 (RepA w s.heap s.used ν) (avs++caps) vs→All2 (RepA w s.heap s.used ν) av2 vs:=by
  clear hx;revert hav;generalize avs++caps=xs;clear hc;intro hav;induction xs generalizing ds with
  |nil=>simp only [All2] at hav;subst hav;exact ⟨[],rfl,λ_ _ _ _ _ _ _ _ h=>h⟩
  |cons x xs ih=>
   obtain ⟨d,r,rfl,h1,h2⟩:=hav;obtain ⟨av2,g1,g2⟩:=ih h2;rcases h1 with h1|⟨k1,k2,k3⟩
   ·refine ⟨x::av2,⟨d,r,rfl,h1,g1⟩,λC s ν a w vs hκ hs hv=>?_⟩;obtain ⟨v,q,rfl,e1,e2⟩:=hv;exact ⟨v,q,rfl,e1,g2 C s ν a w q hκ hs e2⟩
   ·refine ⟨d::av2,⟨d,r,rfl,k3,g1⟩,λC s ν a w vs hκ hs hv=>?_⟩;obtain ⟨v,q,rfl,e1,e2⟩:=hv;exact ⟨v,q,rfl,k1.repA hs hκ e1 k2,g2 C s ν a w q hκ hs e2⟩
 obtain ⟨av2,g1,g2⟩:=key;exact aGo hc hf hx g2 g1 hh hi hit hlive hh' hi' hr hbk htl htr he
end
def fxW (W:World):Option (World×(Nat→Prop)):=some (W,λx=>x<W.heap.size)
theorem aDX {κ:Kp} {W:World} {d:AV} {v:Value} {S:List Nat} (h:κ.fx=fxW W) (r:RepD W d v S):Raw1 κ (.sc v) d:=⟨W,_,v,S,h,rfl,r,r.lt⟩
theorem aKp {κ:Kp} {W:World} {u:Value} (h:κ.fx=fxW W) (o:u.oneCell'=true):Raw1 κ (.sc u) (.sc u):=aDX h (aAv o)
theorem aPo {κ:Kp} {W:World} {k:Nat} {es:List (List AV)} {v:Value} {S:List Nat} (h:κ.fx=fxW W) (r:RepD W (.list k es) v S):RawK κ (.sc v) (.list k es):=aDX h r
theorem aOJ {κ:Kp} :RawK κ (.agg []) (.agg []):=rfl
theorem yW {κ:Kp} {x d:AV} {xs ds:List AV} (a:Raw1 κ x d) (b:RawK κ (.agg xs) (.agg ds)):RawK κ (.agg (x::xs)) (.agg (d::ds)):=⟨d,ds,rfl,a,b⟩
def xR (κ:Kp) (h:Hp) (x d:AV):Prop:=viewA h x d∨RawK κ x d
theorem kU {κ:Kp} {h:Hp} :All2 (xR κ h) [] []:=rfl
theorem dQ {κ:Kp} {h:Hp} {x d:AV} {xs ds:List AV} (a:xR κ h x d) (b:All2 (xR κ h) xs ds):All2 (xR κ h) (x::xs) (d::ds):=⟨d,ds,rfl,a,b⟩
theorem aKD {R:AV→Value→Prop} {V:AV→AV→Prop} {w:World} (hr: ∀ x d v,R x v→V x d→ ∃ S',RepD w d v S') {xs ds:List AV} {vs:List Value} (r:All2 R xs vs) (m:All2 V xs ds): ∃ S',RepVs w ds vs S':=uB hr r m
section
variable {P:Program} {dst:Option Tmp} {ty:TypeId} {pos:String} {aft:Array Edge} {g:Option (Nat×Bool)} {ins:Operand→Option AV} {hp:Hp} {κ:Kp}
theorem aGu {fo:Operand} {xs:Array Operand} {ats:Array TypeId} {f:FuncId} {avs ds:List AV} {r x:AV} {nb:List (Nat×Blk)} {ns ns':List Nat} (hf:ins fo=some (.fn f [])) (hx:evs ins xs.toList=some avs) (hc:HasC P f ds r) (hv1:All2 (xR κ hp) avs ds) (hg:aDt r)
  (hi:aJg ns r=(x,nb,ns')) (hfl:aIX x=true) (hn:ns.Nodup):
  AEff P ⟨dst,.call ⟨.value fo,xs,ats⟩,ty,pos,aft,g⟩ ins hp κ ⟨x,avs.flatMap (nX hp),mP nb,nb.map (·.1)⟩:=by
 refine ⟨λC s ν a w Q K {hκ} hi' ht hnw hd hs hK=>?_⟩;have h1:=hs.ev ((hi' fo (by simp [Op.operands,Call.operands])).trans hf);simp only [RepA,RepB] at h1;obtain ⟨cv,h1,h2⟩:=h1;simp only [All2] at h2;subst h2;obtain ⟨φ,hh⟩:=hs.heap;have h3:=aAx hs (xs:=xs.toList) (λy hy=>hi' y (by simp [Op.operands,Call.operands];exact .inr (Array.mem_toList_iff.1 hy))) hx;have hv1':All2 (xR κ s.heap) avs ds:=hv1.congrM λy hy d hd=>hd.elim (λhd=> .inl (hd.congr λb hb=>ht b (List.mem_flatMap.2 ⟨y,hy,hb⟩))) .inr;obtain ⟨S1,e1⟩:=aKD (V:=xR κ s.heap) (λx d v hr hv=>hv.elim (λhv=>viewA.rep hh hr hv) (λhv=>hv.rep hs hκ hr)) h3 hv1';have hcall:=hc.calls w (xs.map a.eval) S1 (by simpa using e1);unfold Oper.wp
 have hex:(execOp a.eval ⟨dst,.call ⟨.value fo,xs,ats⟩,ty,pos,aft,g⟩).run P w= .ok (.enter f (xs.map a.eval)) w:=by
  have:execOp a.eval ⟨dst,.call ⟨.value fo,xs,ats⟩,ty,pos,aft,g⟩=callFunc f (xs.map a.eval):=by
   simp [execOp,resolve,h1,Deferred.ofValue,invoke]
  rw [this];exact hc.enters _ _
 rw [hex];simp only [Oper.upon];refine hcall.mono λe w' ⟨v,S',he,hb,hr,hnew⟩=>?_;subst he;simp only;obtain ⟨g1,X,Sf,g2,g3⟩:=aKe (w:=w) hi hfl hr hg hnew.1 hn;have hnn:(nb.map (·.1)).Nodup:=by rw [g1] at hn;exact (List.nodup_append.1 hn).1
 obtain ⟨ν',hs'⟩:=hs.call hd hb g2 hnew hnn (λb hb=>hnw b hb) g3 (touch:=avs.flatMap (nX hp));exact hK ν' _ _ hs'
end
section
variable {P:Program} {dst:Option Tmp} {ty:TypeId} {pos:String} {aft:Array Edge} {g:Option (Nat×Bool)} {s:AState}
theorem pN {f:FuncId} {xs:Array Operand} {ats:Array TypeId} {avs ds:List AV} {u:Value} (hc:HasC P f ds (.sc u)) (hx:evs s.ev xs.toList=some avs) (hv1:All2 (xR s.kp s.heap) avs ds):
  AEff P ⟨dst,.call ⟨.value (.func f),xs,ats⟩,ty,pos,aft,g⟩ s.ev s.heap s.kp ⟨.sc u,avs.flatMap (nX s.heap),[],[]⟩:=
 aGu (ns:=[]) (nb:=[]) (r:= .sc u) (x:= .sc u) rfl hx hc hv1 trivial (aHa [] u) rfl (by simp)
theorem aAj {f:FuncId} {xs:Array Operand} {ats:Array TypeId} {avs ds:List AV} {r x:AV} {nb:List (Nat×Blk)} {ns':List Nat} (hc:HasC P f ds r) (hx:evs s.ev xs.toList=some avs) (hi:aJg s.ns r=(x,nb,ns')) (hfl:aIX x=true) (hn:sU s.ns=true) (hg:aDt r) (hv1:All2 (xR s.kp s.heap) avs ds):
  AEff P ⟨dst,.call ⟨.value (.func f),xs,ats⟩,ty,pos,aft,g⟩ s.ev s.heap s.kp ⟨x,avs.flatMap (nX s.heap),mP nb,nb.map (·.1)⟩:=
 aGu rfl hx hc hv1 hg hi hfl (yQ hn)
end
def aDY (w:World):List AV→(List AV→Prop)→Prop
 | [],K=>K []
 | .sc u::cs,K=>aDY w cs (λxs=>K (.sc u::xs))
 |d::cs,K=> ∀ v S,RepD w d v S→aDY w cs (λxs=>K (.sc v::xs))
def wZ (w:World):List AV→(List AV→Prop)→Prop
 | [],K=>K []
 | .sc u::ds,K=>wZ w ds (λxs=>K (.sc u::xs))
 | .agg cs::ds,K=>aDY w cs (λxs=>wZ w ds (λys=>K (.agg xs::ys)))
 |d::ds,K=> ∀ v S,RepD w d v S→wZ w ds (λxs=>K (.sc v::xs))
theorem yX {w:World} {K:List AV→Prop} (h:K []):aDY w [] K:=h
theorem uN {w:World} {u:Value} {cs:List AV} {K:List AV→Prop} (h:aDY w cs (λxs=>K (.sc u::xs))):aDY w (.sc u::cs) K:=h
theorem nY {w:World} {k:Nat} {es:List (List AV)} {cs:List AV} {K:List AV→Prop} (h: ∀ v S,RepD w (.list k es) v S→aDY w cs (λxs=>K (.sc v::xs))):aDY w (.list k es::cs) K:=h
theorem aIt {w:World} {K:List AV→Prop} (h:K []):wZ w [] K:=h
theorem aCa {w:World} {xs cs:List AV} {K:List AV→Prop} (h:aDY w xs (λxs=>wZ w cs (λys=>K (.agg xs::ys)))):wZ w (.agg xs::cs) K:=h
theorem aMy {w:World} {k:Nat} {es:List (List AV)} {cs:List AV} {K:List AV→Prop} (h: ∀ v S,RepD w (.list k es) v S→wZ w cs (λxs=>K (.sc v::xs))):wZ w (.list k es::cs) K:=h
def aMz:AV→Bool
 | .sc u=>u.oneCell'
 | .agg cs=>cs.all lZ
 | .list _ _=>true
 |_=>false
theorem aIu {w:World} {d:AV} {v:Value} {S:List Nat} (r:RepD w d v S) (ok:lZ d=true):v.oneCell'=true:=by
 cases d <;> simp only [lZ,fL] at ok <;> simp only [RepD] at r
 ·rw [r.1];exact ok
 ·obtain ⟨a,c,rfl,_⟩:=r;rfl
theorem aHe {w:World} : ∀ {cs:List AV} {us:List Value} {S:List Nat} {K:List AV→Prop},RepVs w cs us S→cs.all lZ=true→aDY w cs K→ ∃ xs,K xs∧ ∀ (w':World) (h:Hp) (u:Us) (ν:Nu),All2 (Rep1 w' h u ν) xs us
 | [],us,S,K,r,_,k=>by simp only [RepVs] at r;obtain ⟨rfl,_⟩:=r;exact ⟨[],k,λ_ _ _ _=>rfl⟩
 |c::cs,us,S,K,r,ok,k=>by
  simp only [RepVs] at r;obtain ⟨v,q,S1,S2,rfl,rfl,h3,h4⟩:=r;simp only [List.all_cons,dA] at ok
  have key: ∀ x,aDY w cs (λxs=>K (x::xs))→x= .sc v→ ∃ xs,K xs∧ ∀ (w':World) (h:Hp) (u:Us) (ν:Nu),All2 (Rep1 w' h u ν) xs (v::q):=by
   rintro x k1 rfl;obtain ⟨xs,g1,g2⟩:=aHe h4 ok.2 k1;exact ⟨.sc v::xs,g1,λw' h u ν=>⟨v,q,rfl,⟨rfl,aIu h3 ok.1⟩,g2 w' h u ν⟩⟩
  cases c <;> simp only [lZ,fL,false_and] at ok
  ·simp only [RepD] at h3;exact key _ k (by rw [h3.1])
  ·exact key _ (k v S1 h3) rfl
theorem aGv {w:World} : ∀ {ds:List AV} {vs:List Value} {S:List Nat} {K:List AV→Prop},RepVs w ds vs S→ds.all aMz=true→wZ w ds K→ ∃ xs,K xs∧xs.length=ds.length∧ ∀ (h:Hp) (u:Us) (ν:Nu),All2 (RepA w h u ν) xs vs
 | [],vs,S,K,r,_,k=>by simp only [RepVs] at r;obtain ⟨rfl,_⟩:=r;exact ⟨[],k,rfl,λ_ _ _=>rfl⟩
 |d::ds,vs,S,K,r,ok,k=>by
  simp only [RepVs] at r;obtain ⟨v,q,S1,S2,rfl,rfl,h3,h4⟩:=r;simp only [List.all_cons,dA] at ok
  have key: ∀ x,wZ w ds (λxs=>K (x::xs))→(∀ (h:Hp) (u:Us) (ν:Nu),RepA w h u ν x v)→ ∃ xs,K xs∧xs.length=(d::ds).length∧ ∀ (h:Hp) (u:Us) (ν:Nu),All2 (RepA w h u ν) xs (v::q):=by
   intro x k1 hx;obtain ⟨xs,g1,g2,g3⟩:=aGv h4 ok.2 k1;exact ⟨x::xs,g1,by simp [g2],λh u ν=>⟨v,q,rfl,hx h u ν,g3 h u ν⟩⟩
  cases d <;> simp only [aMz,fL,false_and] at ok
  ·simp only [RepD] at h3;exact key _ k λh u ν=>by simp only [RepA,RepB,Rep1];exact ⟨h3.1,h3.2.1⟩
  ·exact key _ (k v S1 h3) λh u ν=>(show Rep1 w h u ν (.sc v) v from ⟨rfl,aIu h3 rfl⟩)
  ·have h3':=h3;simp only [RepD] at h3';obtain ⟨us,rfl,h5⟩:=h3';obtain ⟨xs,g1,g2⟩:=aHe h5 ok.1 k;exact key _ g1 λh u ν=>by simp only [RepA,RepB];exact ⟨us,rfl,g2 w h u ν⟩
theorem aIv {P:Program} {T:List (Nat×Ty)} (hT:TyOk P T) {f:FuncId} {fn:Func} {c:Code} {nt:Nat} {ds:List AV} {r:AV} {rvs:List ResultVar} {ns:List Nat} (hf:P.funcs[f]? =some fn) (hb:fn.body=some c) (hname:(fn.name== "runtime.NumGoroutine")=false) (hnt:fn.ntmps=nt) (hres:fn.results.toList=rvs)
  (hlen:Nat.ble ds.length nt=true) (hok:ds.all aMz=true) (h: ∀ W:World,wZ W ds λxs=>AC P nt c ⟨aBj xs,mK [],ltb 0,ns,⟨0,true,fxW W,true⟩⟩ (nL T rvs r)):HasC P f ds r:=by
 refine ⟨Enters.mk hf (by rw [hb];rfl) hname,λw args S hargs=>?_⟩;refine (callsIn_wide (n:=0)).1 (callsIn_of_wp_marks (F:=fw none) hf hb trivial ?_);have hlen':=Nat.le_of_ble_eq_true hlen;have hal:args.size=ds.length:=by have:=hargs.len;simpa using this
 obtain ⟨xs,hac,hxl,hxr⟩:=aGv hargs hok (h w);let C:Ctx:=⟨w.heap.size,w,nt,λx=>w.heap.size≤x,λ_ h=>h,⟨0,true,fxW w,true⟩,w,mK [],Nu.none,λx=>x<w.heap.size,λ_ x hx hm=>absurd hx (Nat.not_lt.2 hm),(λp h=>by cases h;exact ⟨rfl,λx hx=>⟨hx,hx⟩⟩),none,λ_=>rfl⟩;have hfr: ∀ x,aAc (mK []) Nu.none x:=λx b blk β c hb=>by cases hb
 have hsim:Sim C ⟨aBj xs,mK [],ltb 0,ns,⟨0,true,fxW w,true⟩⟩ Nu.none ⟨args++Array.replicate (fn.ntmps - args.size) undef,[]⟩ w:=by
  refine ⟨Below.refl _ _,bN _,λ_ hx=>hx,aCD,by show (args++Array.replicate (fn.ntmps - args.size) undef).size=nt;simp [hnt];omega,?_,⟨λ_=>[],λb blk hb=>(by cases hb),λb c x hb=>absurd rfl hb⟩,rfl,ExtF.refl λx _ _=>hfr x,bN _,λ_ _=>trivial,λ_ _ _ _=>trivial⟩;intro t x hx;have hx':xs[t]? =some x:=by rw [←aCU];exact hx
  obtain ⟨v,h1,h2⟩:=(hxr (mK []) (ltb 0) Nu.none).get hx';refine ⟨v,?_,h2⟩
  have hlt:t<args.size:=by
   rcases eJ t args.size with h'|h'
   ·exact h'
   ·rw [jR (by simpa using h')] at h1;cases h1
  show (args++Array.replicate (fn.ntmps - args.size) undef)[t]? =some v;rw [Array.getElem?_append_left hlt];simpa using h1
 refine wpIn_mono (hac.out C rfl _ _ w hsim 0) λe a' w0 ⟨s',ν',hq,hs0⟩=>?_;obtain ⟨Ds,d1,d2,d3⟩:=hs0.defers;obtain ⟨w',hs',hleave⟩:=hs0.leave (P:=P) (n:=0) d1 d2 d3;obtain ⟨he,avs,hv,hn,hfz⟩:=hq;obtain ⟨us,h1,h2⟩:=vA hT hs' hv;obtain ⟨φ,hh⟩:=hs'.heap;have hn':=yQ hn
 have hrun:(results fn a'.tmps).run P w'= .ok (if hh:us.toArray.size=1 then us.toArray[0] else .tuple us.toArray) w':=by
  unfold results;rw [Sem.run_bind,Array.mapM_eq_mapM_toList,Sem.run_map,hres];have h1':=h1;generalize hq:(List.mapM _ rvs:Sem (List Value))=m;rw [show Sem.run P m w'= .ok us w' by rw [←hq];exact h1'];simp
 have hres2: ∃ S',aHY w' r (if hh:us.toArray.size=1 then us.toArray[0] else .tuple us.toArray) S'∧New w.heap.size S':=by
  have hul:us.length=avs.length:=h2.len;unfold aGH at hfz;split at hfz
  ·rename_i v r';obtain ⟨u,q,rfl,g1,g2⟩:=h2;simp only [All2] at g2;subst g2;simp only [List.flatMap_cons,List.flatMap_nil,List.append_nil] at hn';obtain ⟨S',a1,a2,a3,a4⟩:=aFK hh g1 hfz.1 hn';refine ⟨S',?_,a2,a3⟩;simp only [List.size_toArray,List.length_cons,List.length_nil,Nat.zero_add,dite_true];have hnt:=hfz.2;cases r <;> first|exact a1|exact absurd rfl (hnt _)
  ·rename_i vs rs _;obtain ⟨S',a1,a2,a3,a4⟩:=aDO hh h2 hfz.2 hn';refine ⟨S',?_,a2,a3⟩;rw [dif_neg (by simp;rw [hul];exact hfz.1)];exact ⟨us,rfl,a1⟩
  ·exact hfz.elim
 obtain ⟨S',hr1,hr2⟩:=hres2;have hend:=hleave fn (λe w'=> ∃ v S',e= .returned v∧Below w.heap.size w w'∧aHY w' r v S'∧New w.heap.size S') ⟨_,hrun,_,S',rfl,hs'.below,hr1,hr2⟩;cases e <;> simp only [aCQ,fL] at he <;> exact hend
def dfE:List (Nat×AV)→Prop
 | []=>True
 |(_,x)::r=>dfA x=true∧dfE r
theorem kV: ∀ {l:List (Nat×AV)},dfE l→ ∀ t x,aLY l t=some x→dfA x=true
 | [],_,t,x,h=>by cases h
 |(k,v)::r,⟨h1,h2⟩,t,x,h=>by
  simp only [aLY] at h;cases hb:Nat.beq t k with
  |true=>rw [hb] at h;cases h;exact h1
  |false=>rw [hb] at h;exact kV h2 t x h
def dfR (y:Blk):Prop:= ∀ cs∈y.es,∀ c∈cs,dfC c=true
def dfH (skip:List Nat):List (Nat×Blk)→Prop
 | []=>True
 |(b,y)::r=>(b∈skip∨dfR y)∧dfH skip r
theorem kW {skip:List Nat} : ∀ {l:List (Nat×Blk)},dfH skip l→ ∀ b blk,mK l b=some blk→b ∉ skip→ ∀ cs∈blk.es,∀ c∈cs,dfC c=true
 | [],_,b,x,h=>by cases h
 |(k,v)::r,⟨h1,h2⟩,b,x,h=>by
  simp only [mK] at h;by_cases e:b=k
  ·subst e;rw [cD] at h;cases h;intro hn;exact h1.elim (λh=>absurd h hn) id
  ·rw [cK e] at h;exact kW h2 b x h
theorem EOk.df {α:Type} {k:Nat} {e:α→List AV} (E:EOk k e) (k':Nat) (l:List α):dfR ⟨k',l.map (ow e)⟩:=by
 intro cs hcs c hc;obtain ⟨x,_,rfl⟩:=List.mem_map.1 hcs;obtain ⟨d,hd,rfl⟩:=List.mem_map.1 hc;have:=E.mem x d hd;cases d <;> simp only [lZ,fL] at this <;> rfl
theorem EOk.dfS {α:Type} {k:Nat} {e:α→List AV} (E:EOk k e) (k':Nat) (l:List α) (i:Nat) {c:List AV} (h:c.all dfC=true):dfR ⟨k',(l.map (ow e)).set i c⟩:=by
 intro cs hcs d hd;rcases List.mem_or_eq_of_mem_set hcs with h1|rfl
 ·exact E.df k' l cs h1 d hd
 ·exact List.all_eq_true.1 h d hd
theorem gS {k:Nat} {es:List (List AV)} (h:(es.all λcs=>cs.all dfC)=true):dfR ⟨k,es⟩:=λcs hcs c hc=>List.all_eq_true.1 (List.all_eq_true.1 h cs hcs) c hc
theorem yY {α:Type} {e:α→List AV} {l:List α} {i:Nat} {v:α} (h:l[i]? =some v):l.map (ow e)=(l.map (ow e)).set i (ow e v):=by
 rw [←List.map_set];congr 1;refine List.ext_getElem? λj=>?_;rw [List.getElem?_set];by_cases e:i=j
 ·subst e
  have:i<l.length:=by
   rcases eJ i l.length with h'|h'
   ·exact h'
   ·rw [jR h'] at h;cases h
  rw [aX rfl,aX this,h]
 ·rw [aZ e]
theorem wO {α:Type} {k:Nat} {e:α→List AV} (E:EOk k e) {l:List α} {i:Nat} {c:List AV} (h:c.all qM=true):aAu ((l.map (ow e)).set i c):=by
 intro cs hcs d hd;rcases List.mem_or_eq_of_mem_set hcs with h1|rfl
 ·exact E.plainO l cs h1 d hd
 ·exact List.all_eq_true.1 h d hd
theorem sK {s:AState} {b c i j k k' n:Nat} {A es' fs:List (List AV)} {cs:List AV} (hi:i<A.length) (hT:s.kp.T=true) (hb:s.heap b=some ⟨k,A.set i cs⟩) (hj:cs[j]? =some (.abs k' es')) (hc:s.used c=false) (hn:es'.length=n) (hfs:bX es'=fs) (hdf: ∀ t x,s.env t=some x→dfA x=true) (hdc: ∀ b blk,s.heap b=some blk→b ∉ ([]:List Nat)→ ∀ cs∈blk.es,∀ c∈cs,dfC c=true):
  Ent s ⟨s.env,bP [(c,some ⟨k',fs⟩),(b,some ⟨k,A.set i (aAX cs j [.own c 0 n])⟩)] s.heap,gJ [c] s.used,s.ns,s.kp⟩:=by
 subst hn hfs
 have hjl:j<cs.length:=by
  rcases eJ j cs.length with h'|h'
  ·exact h'
  ·rw [jR h'] at hj;cases hj
 have h:=aMx (c:=c) hT hb (i:=i) (cs:=cs) (by simp [hi]) hj hc hdf (λb blk hb=>hdc b blk hb (by simp));have e:=aCR (cs:=cs) (j:=j) (vs:=[.own c 0 es'.length]) (by simp;omega);simp only [List.length_singleton] at e;rw [e] at h;simp only [List.set_set] at h;exact h
theorem vF {P:Program} {T:List (Nat×Ty)} {dst:Option Tmp} {ty:TypeId} {pos:String} {aft:Array Edge} {g:Option (Nat×Bool)} {s:AState} (hT:TyOk P T) {t:TypeId} {y:Ty} {x z:Operand} {val:AV} {b i j kk:Nat} {A:List (List AV)} {cs:List AV} (hi:i<A.length) (hx:s.ev x=some (.ptr b i j)) (hb:s.heap b=some ⟨kk,A.set i cs⟩) (hz:s.ev z=some val) (hy:cX T t=some y) (hsz:Nat.beq (cI val).length y.size=true) (ok:(cI val).all (okCell s.heap)=true) (hn:Nat.ble (j+y.size) cs.length=true):
  AEff P ⟨dst,.store t x z,ty,pos,aft,g⟩ s.ev s.heap s.kp ⟨.dead,b::cN (cI val),[(b,some ⟨kk,A.set i (aAX cs j (cI val))⟩)],[]⟩:=by
 have h:=aEl (P:=P) hT (dst:=dst) (ty:=ty) (pos:=pos) (aft:=aft) (g:=g) hx hb hz hy hsz ok (i:=i) (cs:=cs) (by simp [hi]) hn;rw [List.set_set] at h;exact h
section
variable {P:Program} {ops:Array Oper} {nt:Nat} {l:List Oper} {s:AState} {K:AState→Prop}
theorem vG {t u:Bool} (i:Nat) (hi:s.env i=some (.sc (.bool t))) (q:t=u) (h:SOps P ops nt l ⟨upd (some i) (.sc (.bool u)) s.env,s.heap,s.used,s.ns,s.kp⟩ K):SOps P ops nt l s K:=by
 subst q;rw [aId hi] at h;exact h
theorem gH {d:Option Tmp} {op:Op} {ty:TypeId} {pos:String} {aft:Array Edge} {g:Option (Nat×Bool)} (hg:jZ ops s.env ⟨d,op,ty,pos,aft,g⟩=some false) (hd:aDM ⟨d,op,ty,pos,aft,g⟩ nt=true) (h:SOps P ops nt l ⟨upd d (.tuple []) s.env,s.heap,s.used,s.ns,s.kp⟩ K):SOps P ops nt (⟨d,op,ty,pos,aft,g⟩::l) s K:=⟨λC hC ν a w hs n Q hQ=>by
 subst hC;refine wpListIn_step λK' hK'=>?_;have hst:aHW P ops C.nt ⟨d,op,ty,pos,aft,g⟩ s xM:=⟨aCL hd,.inr ⟨hg,rfl⟩⟩
 exact zW hst hs λν' a' w' hs'=>hK' _ _ (h.out C rfl ν' a' w' hs' n Q hQ)⟩
end
end
noncomputable section
theorem k {α:Sort _} {a:α} :a=a:=rfl
section
variable {P:Program} {ops:Array Oper} {nt:Nat} {r:List Oper} {s:AState} {tr:List Tr} {K:List Tr→AState→Prop} {K':AState→Prop}
def opB (ops:Array Oper) (nt:Nat) (s:AState) (o:Oper) (news:List Nat):Bool:=aDM o nt&&((match jZ ops s.env o with|some true=>true|_=>false)&&news.all λb=> !s.used b)
theorem aDZ {o:Oper} {news:List Nat} (h:opB ops nt s o news=true):aDM o nt=true∧jZ ops s.env o=some true∧(news.all λb=> !s.used b)=true:=by
 simp only [opB,dA] at h;obtain ⟨h1,h2,h3⟩:=h;refine ⟨h1,?_,h3⟩;split at h2
 ·assumption
 ·cases h2
theorem ae {d:Option Tmp} {op:Op} {ty:TypeId} {pos:String} {aft:Array Edge} {g:Option (Nat×Bool)} {e:Eff} (he:AEff P ⟨d,op,ty,pos,aft,g⟩ s.ev s.heap s.kp e) (hb:opB ops nt s ⟨d,op,ty,pos,aft,g⟩ e.news=true) (h:AOps P ops nt r (s.app d e) (yO e::tr) K):AOps P ops nt (⟨d,op,ty,pos,aft,g⟩::r) s tr K:=
 iG he (aDZ hb).1 (aDZ hb).2.1 (aDZ hb).2.2 h
theorem se {d:Option Tmp} {op:Op} {ty:TypeId} {pos:String} {aft:Array Edge} {g:Option (Nat×Bool)} {e:Eff} (he:AEff P ⟨d,op,ty,pos,aft,g⟩ s.ev s.heap s.kp e) (hb:opB ops nt s ⟨d,op,ty,pos,aft,g⟩ e.news=true) (h:SOps P ops nt r (s.app d e) K'):SOps P ops nt (⟨d,op,ty,pos,aft,g⟩::r) s K':=
 aIq he (aDZ hb).1 (aDZ hb).2.1 (aDZ hb).2.2 h
theorem am {d:Option Tmp} {ty:TypeId} {pos:String} {aft:Array Edge} {g:Option (Nat×Bool)} {x:Operand} {v:AV} (hx:s.ev x=some v) (hb:opB ops nt s ⟨d,.move x,ty,pos,aft,g⟩ []=true) (h:AOps P ops nt r (s.app d ⟨v,[],[],[]⟩) (yO ⟨v,[],[],[]⟩::tr) K):AOps P ops nt (⟨d,.move x,ty,pos,aft,g⟩::r) s tr K:=ae (aCE hx) hb h
theorem aa {d:Option Tmp} {ty:TypeId} {pos:String} {aft:Array Edge} {g:Option (Nat×Bool)} {x:Operand} {v:AV} (hx:s.ev x=some v) (hb:opB ops nt s ⟨d,.assign x,ty,pos,aft,g⟩ []=true) (h:AOps P ops nt r (s.app d ⟨v,[],[],[]⟩) (yO ⟨v,[],[],[]⟩::tr) K):AOps P ops nt (⟨d,.assign x,ty,pos,aft,g⟩::r) s tr K:=ae (zP hx) hb h
theorem an (h:K tr s):AOps P ops nt [] s tr K:=aFD h
theorem sn (h:K' s):SOps P ops nt [] s K':=aMv h
variable {Q:Exit→AState→Prop}
theorem sQ {x y:Code} (h:AC P nt x s (xP (λs'=>AC P nt y s' Q) Q)):AC P nt (.seq x y) s Q:=aJf h
theorem rg {id:Nat} {l:List Oper} (h:AOps P l.toArray nt l s [] (λ_ s'=>Q .normal s')):AC P nt (.region id l.toArray false) s Q:=aDL h
theorem rgS {id:Nat} {l:List Oper} (h:SOps P l.toArray nt l s (Q .normal)):AC P nt (.region id l.toArray false) s Q:=aKA h
theorem tn (h:K' s):xP K' Q .normal s:=h
end
theorem ak {P:Program} {ops:Array Oper} {nt:Nat} {r:List Oper} {s:AState} {tr:List Tr} {K:List Tr→AState→Prop} {d:Option Tmp} {op:Op} {ty:TypeId} {pos:String} {aft:Array Edge} {g:Option (Nat×Bool)} (hg:jZ ops s.env ⟨d,op,ty,pos,aft,g⟩=some false) (hd:aDM ⟨d,op,ty,pos,aft,g⟩ nt=true) (h:AOps P ops nt r ⟨upd d (.tuple []) s.env,s.heap,s.used,s.ns,s.kp⟩ (⟨[],[]⟩::tr) K):AOps P ops nt (⟨d,op,ty,pos,aft,g⟩::r) s tr K:=aLX hg hd h
section
variable {σ:Nat→Option Nat} {n b b0 k:Nat} {h:Hp} {r:List (Nat×Blk)}
theorem hB {y:Blk} (hp:aAu y.es) (hs:σ b=some b0) (hb:h b0=some y) (hn:Nat.blt b n=true) (hr:rW σ n h r):rW σ n h ((b,y)::r):=by
 simp only [rW];rw [hs];exact ⟨⟨y,hb,rfl,.inl ⟨rfl,hp⟩⟩,hn,hr⟩
theorem hX {y:Blk} (hm:match σ b with|some b0=> ∃ x,h b0=some x∧aBe σ n x y|none=>y.es=[]) (hn:Nat.blt b n=true) (hr:rW σ n h r):rW σ n h ((b,y)::r):=⟨hm,hn,hr⟩
end
theorem aQa {P:Program} {T:List (Nat×Ty)} (hT:TyOk P T) {dst:Option Tmp} {pos:String} {aft:Array Edge} {g:Option (Nat×Bool)} {s:AState} {x:Operand} {t e k:Nat} {y:Ty} {dty:TypeId} {α:Type} {f:α→List AV} {l:List α} (hx:s.ev x=some (.list k (List.map f l))) (hy:cX T t=some y) (hd:y.desc= .slice e):
  AEff P ⟨dst,.call ⟨.builtin .len,#[x],#[t]⟩,dty,pos,aft,g⟩ s.ev s.heap s.kp ⟨.int l.length,[],[],[]⟩:=AEff.val (aJk hT hx hy hd) (by rw [dB])
theorem lA {α:Type} {a b:List α} :(a++b).length=a.length+b.length:=List.length_append
theorem lT {α:Type} {a:List α} {i:Nat} {x:α} :(a.set i x).length=a.length:=List.length_set
theorem lR {α:Type} {n:Nat} {x:α} :(List.replicate n x).length=n:=List.length_replicate
theorem lC {α:Type} {a:α} {b:List α} :(a::b).length=b.length+1:=List.length_cons
theorem lN {α:Type} :([]:List α).length=0:=List.length_nil
theorem aNA:([]:List AV).all yR=true:=rfl
theorem aEo {d:AV} {ds:List AV} (h1:yR d=true) (h2:ds.all yR=true):(d::ds).all yR=true:=by
 rw [List.all_cons,h1,h2];rfl
end
noncomputable section
theorem k2 {αa:Sort _} {a:αa} {αb:Sort _} {b:αb} :a=a∧b=b:=⟨rfl,rfl⟩
theorem k3 {αa:Sort _} {a:αa} {αb:Sort _} {b:αb} {αc:Sort _} {c:αc} :a=a∧b=b∧c=c:=⟨rfl,rfl,rfl⟩
theorem k4 {αa:Sort _} {a:αa} {αb:Sort _} {b:αb} {αc:Sort _} {c:αc} {αd:Sort _} {d:αd} :a=a∧b=b∧c=c∧d=d:=⟨rfl,rfl,rfl,rfl⟩
theorem k7 {αa:Sort _} {a:αa} {αb:Sort _} {b:αb} {αc:Sort _} {c:αc} {αd:Sort _} {d:αd} {αe:Sort _} {e:αe} {αf:Sort _} {f:αf} {αg:Sort _} {g:αg} :a=a∧b=b∧c=c∧d=d∧e=e∧f=f∧g=g:=⟨rfl,rfl,rfl,rfl,rfl,rfl,rfl⟩
theorem k8 {αa:Sort _} {a:αa} {αb:Sort _} {b:αb} {αc:Sort _} {c:αc} {αd:Sort _} {d:αd} {αe:Sort _} {e:αe} {αf:Sort _} {f:αf} {αg:Sort _} {g:αg} {αh:Sort _} {h:αh} :a=a∧b=b∧c=c∧d=d∧e=e∧f=f∧g=g∧h=h:=⟨rfl,rfl,rfl,rfl,rfl,rfl,rfl,rfl⟩
section
variable {ops:Array Oper} {nt:Nat} {r:List Oper} {s:AState} {tr:List Tr} {K:List Tr→AState→Prop} {K':AState→Prop} {d:Option Tmp} {ty:TypeId} {pos:String} {aft:Array Edge} {g:Option (Nat×Bool)}
theorem lp {x:Operand} {t:Nat} {y:Ty} {b i j:Nat} {blk:Blk} {cs:List AV} {v:AV} (h:s.ev x=some (.ptr b i j)∧s.heap b=some blk∧cX TT t=some y∧(y.desc.isAgg||Nat.beq y.size 1)=true∧blk.es[i]? =some cs∧Nat.ble (j+y.size) cs.length=true∧vK y.desc.isAgg (((cs.drop j).take y.size).map yC)=v∧opB ops nt s ⟨d,.load t x,ty,pos,aft,g⟩ []=true) (g2:AOps Tryz.prog ops nt r (s.app d ⟨v,[b],[],[]⟩) (yO ⟨v,[b],[],[]⟩::tr) K):AOps Tryz.prog ops nt (⟨d,.load t x,ty,pos,aft,g⟩::r) s tr K:=by
 obtain ⟨h0,h1,h2,h3,h4,h5,h6,h7⟩:=h;exact ae (cW aO h0 h1 h2 h3 h4 h5 h6) h7 g2
theorem fp {x:Operand} {st f off ft:Nat} {b i j:Nat} {blk:Blk} {y yf:Ty} {fs:List (Nat×Nat)} (h:s.ev x=some (.ptr b i j)∧s.heap b=some blk∧cX TT st=some y∧y.desc= .struct fs∧fs[f]? =some (off,ft)∧cX TT ft=some yf∧Nat.beq yf.size 0=false∧opB ops nt s ⟨d,.fieldAddr st x f,ty,pos,aft,g⟩ []=true) (g2:AOps Tryz.prog ops nt r (s.app d ⟨.ptr b i (j+off),[b],[],[]⟩) (yO ⟨.ptr b i (j+off),[b],[],[]⟩::tr) K):AOps Tryz.prog ops nt (⟨d,.fieldAddr st x f,ty,pos,aft,g⟩::r) s tr K:=by
 obtain ⟨h0,h1,h2,h3,h4,h5,h6,h7⟩:=h;exact ae (vB aO h0 h1 h2 h3 h4 h5 h6) h7 g2
theorem lr {x:Operand} {t:Nat} {y:Ty} {cs:List AV} {v:AV} (h:s.ev x=some (.ref cs)∧cX TT t=some y∧(y.desc.isAgg||Nat.beq y.size 1)=true∧Nat.ble y.size cs.length=true∧(cs.take y.size).all dS=true∧vK y.desc.isAgg (cs.take y.size)=v∧opB ops nt s ⟨d,.load t x,ty,pos,aft,g⟩ []=true) (g2:AOps Tryz.prog ops nt r (s.app d ⟨v,[],[],[]⟩) (yO ⟨v,[],[],[]⟩::tr) K):AOps Tryz.prog ops nt (⟨d,.load t x,ty,pos,aft,g⟩::r) s tr K:=by
 obtain ⟨h0,h1,h2,h3,h4,h5,h6⟩:=h;exact ae (aJj aO h0 h1 h2 h3 h4 h5) h6 g2
theorem cm {op:BinOp} {t t':TypeId} {x y:Operand} {q:IntKind} {a b:Int} {c:Bool} (h:s.ev x=some (.sc (.int q a))∧s.ev y=some (.sc (.int q b))∧aNw op a b=some c∧opB ops nt s ⟨d,.binOp op t x y t',ty,pos,aft,g⟩ []=true) (g2:AOps Tryz.prog ops nt r (s.app d ⟨.bl c,[],[],[]⟩) (yO ⟨.bl c,[],[],[]⟩::tr) K):AOps Tryz.prog ops nt (⟨d,.binOp op t x y t',ty,pos,aft,g⟩::r) s tr K:=by
 obtain ⟨h0,h1,h2,h3⟩:=h;exact ae (aOh h0 h1 h2) h3 g2
theorem pk {c x y:Operand} {t:Bool} {v:AV} (h:s.ev c=some (.sc (.bool t))∧s.ev (if t then x else y)=some v∧opB ops nt s ⟨d,.pick c x y,ty,pos,aft,g⟩ []=true) (g2:AOps Tryz.prog ops nt r (s.app d ⟨v,[],[],[]⟩) (yO ⟨v,[],[],[]⟩::tr) K):AOps Tryz.prog ops nt (⟨d,.pick c x y,ty,pos,aft,g⟩::r) s tr K:=by
 obtain ⟨h0,h1,h2⟩:=h;exact ae (aIL h0 h1) h2 g2
theorem ln {x:Operand} {t e q:Nat} {y:Ty} {α:Type} {f:α→List AV} {l:List α} (h:s.ev x=some (.list q (List.map f l))∧cX TT t=some y∧y.desc= .slice e∧opB ops nt s ⟨d,.call ⟨.builtin .len,#[x],#[t]⟩,ty,pos,aft,g⟩ []=true) (g2:AOps Tryz.prog ops nt r (s.app d ⟨.int l.length,[],[],[]⟩) (yO ⟨.int l.length,[],[],[]⟩::tr) K):AOps Tryz.prog ops nt (⟨d,.call ⟨.builtin .len,#[x],#[t]⟩,ty,pos,aft,g⟩::r) s tr K:=by
 obtain ⟨h0,h1,h2,h3⟩:=h;exact ae (aQa aO h0 h1 h2) h3 g2
theorem lpS {x:Operand} {t:Nat} {y:Ty} {b i j:Nat} {blk:Blk} {cs:List AV} {v:AV} (h:s.ev x=some (.ptr b i j)∧s.heap b=some blk∧cX TT t=some y∧(y.desc.isAgg||Nat.beq y.size 1)=true∧blk.es[i]? =some cs∧Nat.ble (j+y.size) cs.length=true∧vK y.desc.isAgg (((cs.drop j).take y.size).map yC)=v∧opB ops nt s ⟨d,.load t x,ty,pos,aft,g⟩ []=true) (g2:SOps Tryz.prog ops nt r (s.app d ⟨v,[b],[],[]⟩) K'):SOps Tryz.prog ops nt (⟨d,.load t x,ty,pos,aft,g⟩::r) s K':=by
 obtain ⟨h0,h1,h2,h3,h4,h5,h6,h7⟩:=h;exact se (cW aO h0 h1 h2 h3 h4 h5 h6) h7 g2
theorem fpS {x:Operand} {st f off ft:Nat} {b i j:Nat} {blk:Blk} {y yf:Ty} {fs:List (Nat×Nat)} (h:s.ev x=some (.ptr b i j)∧s.heap b=some blk∧cX TT st=some y∧y.desc= .struct fs∧fs[f]? =some (off,ft)∧cX TT ft=some yf∧Nat.beq yf.size 0=false∧opB ops nt s ⟨d,.fieldAddr st x f,ty,pos,aft,g⟩ []=true) (g2:SOps Tryz.prog ops nt r (s.app d ⟨.ptr b i (j+off),[b],[],[]⟩) K'):SOps Tryz.prog ops nt (⟨d,.fieldAddr st x f,ty,pos,aft,g⟩::r) s K':=by
 obtain ⟨h0,h1,h2,h3,h4,h5,h6,h7⟩:=h;exact se (vB aO h0 h1 h2 h3 h4 h5 h6) h7 g2
theorem cmS {op:BinOp} {t t':TypeId} {x y:Operand} {q:IntKind} {a b:Int} {c:Bool} (h:s.ev x=some (.sc (.int q a))∧s.ev y=some (.sc (.int q b))∧aNw op a b=some c∧opB ops nt s ⟨d,.binOp op t x y t',ty,pos,aft,g⟩ []=true) (g2:SOps Tryz.prog ops nt r (s.app d ⟨.bl c,[],[],[]⟩) K'):SOps Tryz.prog ops nt (⟨d,.binOp op t x y t',ty,pos,aft,g⟩::r) s K':=by
 obtain ⟨h0,h1,h2,h3⟩:=h;exact se (aOh h0 h1 h2) h3 g2
theorem pkS {c x y:Operand} {t:Bool} {v:AV} (h:s.ev c=some (.sc (.bool t))∧s.ev (if t then x else y)=some v∧opB ops nt s ⟨d,.pick c x y,ty,pos,aft,g⟩ []=true) (g2:SOps Tryz.prog ops nt r (s.app d ⟨v,[],[],[]⟩) K'):SOps Tryz.prog ops nt (⟨d,.pick c x y,ty,pos,aft,g⟩::r) s K':=by
 obtain ⟨h0,h1,h2⟩:=h;exact se (aIL h0 h1) h2 g2
theorem lG {x:Operand} {v:AV} (h:s.ev x=some v∧opB ops nt s ⟨d,.assign x,ty,pos,aft,g⟩ []=true) (g2:SOps Tryz.prog ops nt r (s.app d ⟨v,[],[],[]⟩) K'):SOps Tryz.prog ops nt (⟨d,.assign x,ty,pos,aft,g⟩::r) s K':=by
 obtain ⟨h0,h1⟩:=h;exact se (zP h0) h1 g2
theorem fU {x:Operand} {v:AV} (h:s.ev x=some v∧opB ops nt s ⟨d,.move x,ty,pos,aft,g⟩ []=true) (g2:SOps Tryz.prog ops nt r (s.app d ⟨v,[],[],[]⟩) K'):SOps Tryz.prog ops nt (⟨d,.move x,ty,pos,aft,g⟩::r) s K':=by
 obtain ⟨h0,h1⟩:=h;exact se (aCE h0) h1 g2
theorem aV:True:=trivial
theorem aT {x:Operand} {v:AV} {Q:Exit→AState→Prop} {T:AState→Prop} (h:s.ev x=some v∧opB ops nt s ⟨d,.assign x,ty,pos,aft,g⟩ []=true) (g2:T (s.app d ⟨v,[],[],[]⟩)):AOps Tryz.prog ops nt [⟨d,.assign x,ty,pos,aft,g⟩] s tr (λ_ s'=>xP T Q .normal s'):=aa h.1 h.2 (an (tn g2))
theorem aK {o1 o2:Oper} (h:(jZ ops s.env o1=some false∧aDM o1 nt=true∧jZ ops (upd o1.dst (.tuple []) s.env) o2=some false∧aDM o2 nt=true)) (g2:AOps Tryz.prog ops nt r ⟨upd o2.dst (.tuple []) (upd o1.dst (.tuple []) s.env),s.heap,s.used,s.ns,s.kp⟩ (⟨[],[]⟩::⟨[],[]⟩::tr) K):AOps Tryz.prog ops nt (o1::o2::r) s tr K:=ak h.1 h.2.1 (ak h.2.2.1 h.2.2.2 g2)
theorem sR {id:Nat} {l:List Oper} {y:Code} {Q:Exit→AState→Prop} (h:AOps Tryz.prog l.toArray nt l s [] (λ_ s'=>xP (λs'=>AC Tryz.prog nt y s' Q) Q .normal s')):AC Tryz.prog nt (.seq (.region id l.toArray false) y) s Q:=sQ (rg h)
theorem sS {id:Nat} {l:List Oper} {y:Code} {Q:Exit→AState→Prop} (h:SOps Tryz.prog l.toArray nt l s (xP (λs'=>AC Tryz.prog nt y s' Q) Q .normal)):AC Tryz.prog nt (.seq (.region id l.toArray false) y) s Q:=sQ (rgS h)
end
end
noncomputable section
theorem oB {α β:Type} {o:Option α} {k:α→Option β} {r:β} {p:Prop} (h:o.bind k=some r) (f: ∀ a,o=some a→k a=some r→p):p:=by
 obtain ⟨a,h1,h2⟩:=ob h;exact f a h1 h2
theorem dH {h:Hp} {cs:List AV} (hp:cs.all dS=true):viewA h (.agg cs) (.agg cs):=sX (aIc hp)
theorem dY {T:List (Nat×Ty)} {rvs:List ResultVar} {e:Exit} {s:AState} {u v:Bool} (h:some u=some v) (p:wB T s rvs=some [.bl u]∧aCQ e=true):nL T rvs (.bl v) e s:=by
 cases h;exact bG p.2 p.1 rfl (nM rfl)
theorem tW {T:List (Nat×Ty)} {rvs:List ResultVar} {e:Exit} {s:AState} {u v:Int} (h:some u=some v) (p:wB T s rvs=some [.int u]∧aCQ e=true):nL T rvs (.int v) e s:=by
 cases h;exact bG p.2 p.1 rfl (jT rfl)
theorem cL {d:Option Tmp} {ty:TypeId} {pos:String} {aft:Array Edge} {g:Option (Nat×Bool)} {s:AState} {f:FuncId} {xs:Array Operand} {ats:Array TypeId} {avs ds:List AV} {ns':List Nat} {α:Type} {e:α→List AV} {q b:Nat} {l:List α} (ok:EOk q e) (hc:HasC Tryz.prog f ds (.list q (List.map e l))) (h:evs s.ev xs.toList=some avs∧s.ns=b::ns'∧sU s.ns=true) (hv:All2 (viewA s.heap) avs ds):AEff Tryz.prog ⟨d,.call ⟨.value (.func f),xs,ats⟩,ty,pos,aft,g⟩ s.ev s.heap s.kp ⟨.own b 0 l.length,avs.flatMap (nX s.heap)++[].flatMap (pC s.heap),[(b,some ⟨q,List.map (ow e) l⟩)],[b]⟩:=
 AEff.conv (sW (x:= .own b 0 (List.map e l).length) (nb:=[(b,⟨q,bX (List.map e l)⟩)]) hc h.1 (by rw [h.2.1];rfl) rfl h.2.2 (ok.good _) hv) (by simp only [aU]) (vY (nb':=[(b,⟨q,List.map (ow e) l⟩)]) (by simp only [fP]))
theorem cLK {d:Option Tmp} {ty:TypeId} {pos:String} {aft:Array Edge} {g:Option (Nat×Bool)} {s:AState} {f:FuncId} {xs:Array Operand} {ats:Array TypeId} {avs ds:List AV} {ns':List Nat} {α:Type} {e:α→List AV} {q b:Nat} {l:List α} (ok:EOk q e) (hc:HasC Tryz.prog f ds (.list q (List.map e l))) (h:evs s.ev xs.toList=some avs∧s.ns=b::ns'∧sU s.ns=true) (hv:All2 (xR s.kp s.heap) avs ds):AEff Tryz.prog ⟨d,.call ⟨.value (.func f),xs,ats⟩,ty,pos,aft,g⟩ s.ev s.heap s.kp ⟨.own b 0 l.length,avs.flatMap (nX s.heap),[(b,some ⟨q,List.map (ow e) l⟩)],[b]⟩:=
 AEff.conv (aAj (x:= .own b 0 (List.map e l).length) (nb:=[(b,⟨q,bX (List.map e l)⟩)]) hc h.1 (by rw [h.2.1];rfl) rfl h.2.2 (ok.good _) hv) (by simp only [aU]) (vY (nb':=[(b,⟨q,List.map (ow e) l⟩)]) (by simp only [fP]))
theorem cM {d:Option Tmp} {ty:TypeId} {pos:String} {aft:Array Edge} {g:Option (Nat×Bool)} {s:AState} {f:FuncId} {xs:Array Operand} {ats:Array TypeId} {avs ds:List AV} {ns':List Nat} {b:Nat} {v:Mt} (hc:HasC Tryz.prog f ds (.agg (eM v))) (h:evs s.ev xs.toList=some avs∧s.ns=b::ns'∧sU s.ns=true) (hv:All2 (viewA s.heap) avs ds):AEff Tryz.prog ⟨d,.call ⟨.value (.func f),xs,ats⟩,ty,pos,aft,g⟩ s.ev s.heap s.kp ⟨.agg [.int v.rows,.int v.cols,.own b 0 v.cells.length],avs.flatMap (nX s.heap)++[].flatMap (pC s.heap),[(b,some ⟨1,List.map (ow eI) v.cells⟩)],[b]⟩:=
 AEff.conv (sW (x:= .agg [.int v.rows,.int v.cols,.own b 0 (List.map eI v.cells).length]) (nb:=[(b,⟨1,bX (List.map eI v.cells)⟩)]) hc h.1 (by rw [h.2.1];rfl) rfl h.2.2 (bJ trivial (bJ trivial (bJ (bH.good _) vO))) hv) (by simp only [aU]) (vY (nb':=[(b,⟨1,List.map (ow eI) v.cells⟩)]) (by simp only [fP]))
theorem cQ {d:Option Tmp} {ty:TypeId} {pos:String} {aft:Array Edge} {g:Option (Nat×Bool)} {s:AState} {f:FuncId} {xs:Array Operand} {ats:Array TypeId} {avs ds:List AV} {ns':List Nat} {b c:Nat} {v:Qv} (hc:HasC Tryz.prog f ds (.agg (eQ v))) (h:evs s.ev xs.toList=some avs∧s.ns=b::c::ns'∧sU s.ns=true) (hv:All2 (viewA s.heap) avs ds):AEff Tryz.prog ⟨d,.call ⟨.value (.func f),xs,ats⟩,ty,pos,aft,g⟩ s.ev s.heap s.kp ⟨.agg [.int v.n,.own b 0 v.src.length,.own c 0 v.tgt.length],avs.flatMap (nX s.heap)++[].flatMap (pC s.heap),[(b,some ⟨1,List.map (ow eI) v.src⟩),(c,some ⟨1,List.map (ow eI) v.tgt⟩)],[b,c]⟩:=
 AEff.conv (sW (x:= .agg [.int v.n,.own b 0 (List.map eI v.src).length,.own c 0 (List.map eI v.tgt).length]) (nb:=[(b,⟨1,bX (List.map eI v.src)⟩),(c,⟨1,bX (List.map eI v.tgt)⟩)]) hc h.1 (by rw [h.2.1];rfl) rfl h.2.2 (bJ trivial (bJ (bH.good _) (bJ (bH.good _) vO))) hv) (by simp only [aU]) (vY (nb':=[(b,⟨1,List.map (ow eI) v.src⟩),(c,⟨1,List.map (ow eI) v.tgt⟩)]) (by simp only [fP]))
theorem cR {d:Option Tmp} {ty:TypeId} {pos:String} {aft:Array Edge} {g:Option (Nat×Bool)} {s:AState} {f:FuncId} {xs:Array Operand} {ats:Array TypeId} {avs ds:List AV} {ns':List Nat} {b c b3 b4:Nat} {v:Rp} (hc:HasC Tryz.prog f ds (.agg (eR v))) (h:evs s.ev xs.toList=some avs∧s.ns=b::c::b3::b4::ns'∧sU s.ns=true) (hv:All2 (viewA s.heap) avs ds):AEff Tryz.prog ⟨d,.call ⟨.value (.func f),xs,ats⟩,ty,pos,aft,g⟩ s.ev s.heap s.kp ⟨.agg [.int v.p,.int v.q.n,.own b 0 v.q.src.length,.own c 0 v.q.tgt.length,.own b3 0 v.dims.length,.own b4 0 v.maps.length],avs.flatMap (nX s.heap)++[].flatMap (pC s.heap),[(b,some ⟨1,List.map (ow eI) v.q.src⟩),(c,some ⟨1,List.map (ow eI) v.q.tgt⟩),(b3,some ⟨1,List.map (ow eI) v.dims⟩),(b4,some ⟨3,List.map (ow eM) v.maps⟩)],[b,c,b3,b4]⟩:=
 AEff.conv (sW (x:= .agg [.int v.p,.int v.q.n,.own b 0 (List.map eI v.q.src).length,.own c 0 (List.map eI v.q.tgt).length,.own b3 0 (List.map eI v.dims).length,.own b4 0 (List.map eM v.maps).length]) (nb:=[(b,⟨1,bX (List.map eI v.q.src)⟩),(c,⟨1,bX (List.map eI v.q.tgt)⟩),(b3,⟨1,bX (List.map eI v.dims)⟩),(b4,⟨3,bX (List.map eM v.maps)⟩)]) hc h.1 (by rw [h.2.1];rfl) rfl h.2.2 (bJ trivial (bJ trivial (bJ (bH.good _) (bJ (bH.good _) (bJ (bH.good _) (bJ (aW.good _) vO)))))) hv) (by simp only [aU]) (vY (nb':=[(b,⟨1,List.map (ow eI) v.q.src⟩),(c,⟨1,List.map (ow eI) v.q.tgt⟩),(b3,⟨1,List.map (ow eI) v.dims⟩),(b4,⟨3,List.map (ow eM) v.maps⟩)]) (by simp only [fP]))
theorem cRK {d:Option Tmp} {ty:TypeId} {pos:String} {aft:Array Edge} {g:Option (Nat×Bool)} {s:AState} {f:FuncId} {xs:Array Operand} {ats:Array TypeId} {avs ds:List AV} {ns':List Nat} {b c b3 b4:Nat} {v:Rp} (hc:HasC Tryz.prog f ds (.agg (eR v))) (h:evs s.ev xs.toList=some avs∧s.ns=b::c::b3::b4::ns'∧sU s.ns=true) (hv:All2 (xR s.kp s.heap) avs ds):AEff Tryz.prog ⟨d,.call ⟨.value (.func f),xs,ats⟩,ty,pos,aft,g⟩ s.ev s.heap s.kp ⟨.agg [.int v.p,.int v.q.n,.own b 0 v.q.src.length,.own c 0 v.q.tgt.length,.own b3 0 v.dims.length,.own b4 0 v.maps.length],avs.flatMap (nX s.heap),[(b,some ⟨1,List.map (ow eI) v.q.src⟩),(c,some ⟨1,List.map (ow eI) v.q.tgt⟩),(b3,some ⟨1,List.map (ow eI) v.dims⟩),(b4,some ⟨3,List.map (ow eM) v.maps⟩)],[b,c,b3,b4]⟩:=
 AEff.conv (aAj (x:= .agg [.int v.p,.int v.q.n,.own b 0 (List.map eI v.q.src).length,.own c 0 (List.map eI v.q.tgt).length,.own b3 0 (List.map eI v.dims).length,.own b4 0 (List.map eM v.maps).length]) (nb:=[(b,⟨1,bX (List.map eI v.q.src)⟩),(c,⟨1,bX (List.map eI v.q.tgt)⟩),(b3,⟨1,bX (List.map eI v.dims)⟩),(b4,⟨3,bX (List.map eM v.maps)⟩)]) hc h.1 (by rw [h.2.1];rfl) rfl h.2.2 (bJ trivial (bJ trivial (bJ (bH.good _) (bJ (bH.good _) (bJ (bH.good _) (bJ (aW.good _) vO)))))) hv) (by simp only [aU]) (vY (nb':=[(b,⟨1,List.map (ow eI) v.q.src⟩),(c,⟨1,List.map (ow eI) v.q.tgt⟩),(b3,⟨1,List.map (ow eI) v.dims⟩),(b4,⟨3,List.map (ow eM) v.maps⟩)]) (by simp only [fP]))
def re1 (σ:Nat→Option Nat):AV→AV
 | .own b i m=>match σ b with|some b0=> .own b0 i m|none=> .dead
 | .ptr b i j=>match σ b with|some b0=> .ptr b0 i j|none=> .dead
 |x=>x
def reA (σ:Nat→Option Nat):AV→AV
 | .agg cs=> .agg (cs.map (re1 σ))
 |x=>re1 σ x
def ok1 (σ:Nat→Option Nat) (n:Nat):AV→Bool
 | .own b _ _=>(σ b).isSome &&Nat.blt b n
 | .ptr b _ _=>(σ b).isSome &&Nat.blt b n
 | .sc _=>true
 | .nil _=>true
 | .list _ _=>true
 | .ref _=>true
 |_=>false
def okA (σ:Nat→Option Nat) (n:Nat):AV→Bool
 | .agg cs=>cs.all (ok1 σ n)
 |x=>ok1 σ n x
def aIw (e:Nat→Option AV):List (Nat×AV)→List (Option AV)
 | []=>[]
 |(t,_)::r=>e t::aIw e r
def aIx (σ:Nat→Option Nat):List (Nat×AV)→List (Option AV)
 | []=>[]
 |(_,y)::r=>some (reA σ y)::aIx σ r
theorem yZ {σ:Nat→Option Nat} {n:Nat} {y:AV} (h:ok1 σ n y=true):eW σ n (re1 σ y) y:=by
 cases y <;> simp only [ok1,fL] at h
 ·rfl
 ·trivial
 ·exact ⟨rfl,rfl⟩
 ·rfl
 all_goals
  rename_i b i j
  simp only [dA] at h
  obtain ⟨b0,hb⟩:=Option.isSome_iff_exists.1 h.1
  simp only [re1,hb]
  exact ⟨hb,rfl,rfl,h.2⟩
theorem aOm {σ:Nat→Option Nat} {n:Nat} : ∀ {cs:List AV},cs.all (ok1 σ n)=true→All2 (eW σ n) (cs.map (re1 σ)) cs
 | [],_=>rfl
 |c::cs,h=>by
  simp only [List.all_cons,dA] at h;exact ⟨c,cs,rfl,yZ h.1,aOm h.2⟩
theorem aPp {σ:Nat→Option Nat} {n:Nat} {y:AV} (h:okA σ n y=true):mO σ n (reA σ y) y:=by
 cases y with
 |agg cs=>exact aOm h
 |fn f cs=>simp [okA,ok1] at h
 |tuple cs=>simp [okA,ok1] at h
 |dead=>simp [okA,ok1] at h
 |abs q es=>simp [okA,ok1] at h
 |sc u=>exact yZ (σ:=σ) (n:=n) (y:= .sc u) h
 |nil q=>exact yZ (σ:=σ) (n:=n) (y:= .nil q) h
 |list q es=>exact yZ (σ:=σ) (n:=n) (y:= .list q es) h
 |ref cs=>exact yZ (σ:=σ) (n:=n) (y:= .ref cs) h
 |own b i m=>
  have:=yZ (σ:=σ) (n:=n) (y:= .own b i m) h;simp only [reA];generalize re1 σ (.own b i m)=z at*;cases z <;> first|exact this|exact this.elim
 |ptr b i j=>
  have:=yZ (σ:=σ) (n:=n) (y:= .ptr b i j) h;simp only [reA];generalize re1 σ (.ptr b i j)=z at*;cases z <;> first|exact this|exact this.elim
theorem aPq {σ:Nat→Option Nat} {n:Nat} {e:Nat→Option AV} : ∀ {tl:List (Nat×AV)},aIw e tl=aIx σ tl→(tl.all λp=>okA σ n p.2)=true→aCM σ n e tl
 | [],_,_=>trivial
 |(t,y)::r,h,q=>by
  simp only [aIw,aIx,List.cons.injEq] at h;simp only [List.all_cons,dA] at q;exact ⟨⟨_,h.1,aPp q.1⟩,aPq h.2 q.2⟩
theorem bL {σ:Nat→Option Nat} {n:Nat} {e:Nat→Option AV} {tl:List (Nat×AV)} (h:aIw e tl=aIx σ tl∧(tl.all λp=>okA σ n p.2)=true):aCM σ n e tl:=aPq h.1 h.2
end
noncomputable section
def nmA:List Nat:=[0,1,2,3,4,5,6,7,8,9,10,11,12,13,14,15,16,17,18,19]++[20,21,22,23,24,25,26,27,28,29,30,31,32,33,34,35,36,37,38,39]++([40,41,42,43,44,45,46,47,48,49,50,51,52,53,54,55,56,57,58,59]++([60,61,62,63,64,65,66,67,68,69,70,71,72,73,74,75,76,77,78,79]++[80,81,82,83,84,85,86,87,88,89,90,91,92,93,94,95,96,97,98,99]))
abbrev mN (e:List (Nat×AV)) (h:List (Nat×Blk)) (n:Nat) (kp:Kp:=0):AState:=mkS e h n (nmA.drop n) kp
def iSg:List (Nat×Blk)→Nat→Option Nat
 | [],_=>none
 |(q,_)::r,t=>bif Nat.beq t q then some t else iSg r t
def zSg:List (Nat×Blk)→List Nat→Nat→Option Nat
 |(q,_)::r,b::bs,t=>bif Nat.beq t q then some b else zSg r bs t
 |_,_,_=>none
theorem bO {s:AState} {n:Nat} {kp:Kp} {tl:List (Nat×AV)} {hl:List (Nat×Blk)} (he:aCM (iSg hl) n s.env tl) (hh:rW (iSg hl) n s.heap hl) (p:aBf (iSg hl) hl=true∧s.kp=kp∧aGa (iSg hl) kp.n hl=true∧Nat.ble kp.n n=true):Ent s (mN tl hl n kp):=iC he hh p.1 p.2.1 p.2.2.1 p.2.2.2
theorem xF (bs:List Nat) {s:AState} {n:Nat} {kp:Kp} {tl:List (Nat×AV)} {hl:List (Nat×Blk)} (he:aCM (zSg hl bs) n s.env tl) (hh:rW (zSg hl bs) n s.heap hl) (p:aBf (zSg hl bs) hl=true∧s.kp=kp∧aGa (zSg hl bs) kp.n hl=true∧Nat.ble kp.n n=true):Ent s (mN tl hl n kp):=iC he hh p.1 p.2.1 p.2.2.1 p.2.2.2
section
variable {σ:Nat→Option Nat} {n:Nat}
theorem aIy {e:Nat→Option AV} : ∀ {m:Nat} {tl:List (Nat×AV)},aCM σ n e (tl.take m)→aCM σ n e (tl.drop m)→aCM σ n e tl
 |0,_,_,h=>h
 |m+1,[],_,_=>trivial
 |m+1,(t,y)::r,h1,h2=>⟨h1.1,aIy h1.2 h2⟩
theorem wP (m:Nat) {e:Nat→Option AV} {tl:List (Nat×AV)} (h:aIw e (tl.take m)=aIx σ (tl.take m)∧((tl.take m).all λp=>okA σ n p.2)=true) (h2:aCM σ n e (tl.drop m)):aCM σ n e tl:=aIy (bL h) h2
theorem sO {e:Nat→Option AV} {t:Nat} {y:AV} {r:List (Nat×AV)} (h: ∃ x,e t=some x∧mO σ n x y) (h2:aCM σ n e r):aCM σ n e ((t,y)::r):=⟨h,h2⟩
variable {b b0 q:Nat} {h:Hp} {r:List (Nat×Blk)}
theorem bD {l:List Int} (p:(σ b,h b0,Nat.blt b n)=(some b0,some ⟨1,List.map (ow eI) l⟩,true)) (hr:rW σ n h r):rW σ n h ((b,⟨1,List.map (ow eI) l⟩)::r):=by
 obtain ⟨p1,p⟩:=Prod.mk.inj p;obtain ⟨p2,p3⟩:=Prod.mk.inj p;exact hB (bH.plainO _) p1 p2 p3 hr
theorem bT {y:Blk} (p:(σ b,h b0,Nat.blt b n,y.es.all λcs=>cs.all qM)=(some b0,some y,true,true)) (hr:rW σ n h r):rW σ n h ((b,y)::r):=by
 obtain ⟨p1,p⟩:=Prod.mk.inj p;obtain ⟨p2,p⟩:=Prod.mk.inj p;obtain ⟨p3,p4⟩:=Prod.mk.inj p;exact hB (aMg p4) p1 p2 p3 hr
theorem cF {y:Blk} (hp:aAu y.es) (p:(σ b,h b0,Nat.blt b n)=(some b0,some y,true)) (hr:rW σ n h r):rW σ n h ((b,y)::r):=by
 obtain ⟨p1,p⟩:=Prod.mk.inj p;obtain ⟨p2,p3⟩:=Prod.mk.inj p;exact hB hp p1 p2 p3 hr
def reC (σ:Nat→Option Nat):AV→AV
 | .own b i m=>match σ b with|some b0=> .own b0 i m|none=> .dead
 | .ptr b i j=>match σ b with|some b0=> .ptr b0 i j|none=> .dead
 |x=>x
def okC (σ:Nat→Option Nat) (n:Nat):AV→Bool
 | .own b _ _=>(σ b).isSome &&Nat.blt b n
 | .ptr b _ _=>(σ b).isSome &&Nat.blt b n
 | .sc _=>true
 | .nil _=>true
 | .list _ _=>true
 | .abs _ _=>true
 | .ref _=>true
 |_=>false
theorem aPt {y:AV} (h:okC σ n y=true):iI σ n (reC σ y) y:=by
 cases y with
 |sc u=>exact yZ (σ:=σ) (n:=n) (y:= .sc u) h
 |nil q=>exact yZ (σ:=σ) (n:=n) (y:= .nil q) h
 |list q es=>exact yZ (σ:=σ) (n:=n) (y:= .list q es) h
 |ref cs=>exact yZ (σ:=σ) (n:=n) (y:= .ref cs) h
 |abs q es=>exact ⟨rfl,rfl⟩
 |own b i m=>
  have:=yZ (σ:=σ) (n:=n) (y:= .own b i m) h;show iI σ n (re1 σ (.own b i m)) _;generalize re1 σ (.own b i m)=z at*;cases z <;> first|exact this|exact this.elim
 |ptr b i j=>
  have:=yZ (σ:=σ) (n:=n) (y:= .ptr b i j) h;show iI σ n (re1 σ (.ptr b i j)) _;generalize re1 σ (.ptr b i j)=z at*;cases z <;> first|exact this|exact this.elim
 |agg cs=>simp [okC] at h
 |fn f cs=>simp [okC] at h
 |tuple cs=>simp [okC] at h
 |dead=>simp [okC] at h
theorem aNC: ∀ {cs:List AV},cs.all (okC σ n)=true→All2 (iI σ n) (cs.map (reC σ)) cs
 | [],_=>rfl
 |c::cs,h=>by
  simp only [List.all_cons,dA] at h;exact ⟨c,cs,rfl,aPt h.1,aNC h.2⟩
theorem aND: ∀ {es:List (List AV)},(es.all λcs=>cs.all (okC σ n))=true→All2 (All2 (iI σ n)) (es.map (List.map (reC σ))) es
 | [],_=>rfl
 |c::cs,h=>by
  simp only [List.all_cons,dA] at h;exact ⟨c,cs,rfl,aNC h.1,aND h.2⟩
theorem fK {es:List (List AV)} (p:(σ b,h b0,Nat.blt b n,es.all λcs=>cs.all (okC σ n))=(some b0,some ⟨q,es.map (List.map (reC σ))⟩,true,true)) (hr:rW σ n h r):rW σ n h ((b,⟨q,es⟩)::r):=by
 obtain ⟨p1,p⟩:=Prod.mk.inj p;obtain ⟨p2,p⟩:=Prod.mk.inj p;obtain ⟨p3,p4⟩:=Prod.mk.inj p;refine hX ?_ p3 hr;rw [p1];exact ⟨_,p2,rfl,.inr (aND p4)⟩
end
theorem cG {α:Type} {c:Bool} {A:Option α} {r:α} {p:Prop} (h:cond c A none=some r) (f:c=true→A=some r→p):p:=f (cg h).1 (cg h).2
section
variable {h:Hp} {x:AV} {xs ds:List AV}
theorem cC (q:dS x=true) (b:All2 (viewA h) xs ds):All2 (viewA h) (x::xs) (x::ds):=aI (aKg q) b
theorem vcT {b m:Nat} {l:List Int} (hb:h b=some ⟨1,List.map (ow eI) l⟩) (hn:l.length=m) (q:All2 (viewA h) xs ds):All2 (viewA h) (.own b 0 m::xs) (.list 1 (List.map eI l)::ds):=aI (aAg bH hb hn) q
end
theorem cT {d:Option Tmp} {ty:TypeId} {pos:String} {aft:Array Edge} {g:Option (Nat×Bool)} {s:AState} {f:FuncId} {xs:Array Operand} {ats:Array TypeId} {avs ds:List AV} {ns':List Nat} {α:Type} {e:α→List AV} {q b:Nat} {l:List α} {z:Bool} {c0:Nat} (ok:EOk q e) (hc:HasC Tryz.prog f ds (.tuple [.list q (List.map e l),.bl z])) (h:evs s.ev xs.toList=some avs∧s.ns=b::c0::ns'∧sU s.ns=true) (hv:All2 (viewA s.heap) avs ds):AEff Tryz.prog ⟨d,.call ⟨.value (.func f),xs,ats⟩,ty,pos,aft,g⟩ s.ev s.heap s.kp ⟨.tuple [.own b 0 l.length,.bl z],avs.flatMap (nX s.heap)++[].flatMap (pC s.heap),[(b,some ⟨q,List.map (ow e) l⟩)],[b]⟩:=
 AEff.conv (sW (x:= .tuple [.own b 0 (List.map e l).length,.bl z]) (nb:=[(b,⟨q,bX (List.map e l)⟩)]) hc h.1 (by rw [h.2.1];rfl) rfl h.2.2 (gP (ok.good _) (gP trivial yG)) hv) (by simp only [aU]) (vY (nb':=[(b,⟨q,List.map (ow e) l⟩)]) (by simp only [fP]))
section
variable {h:Hp} {κ:Kp}
theorem vaR {b1 b2 b3 b4 m1 m2 m3 m4:Nat} {v:Rp} (p:h b1=some ⟨1,List.map (ow eI) v.q.src⟩∧v.q.src.length=m1∧h b2=some ⟨1,List.map (ow eI) v.q.tgt⟩∧v.q.tgt.length=m2∧h b3=some ⟨1,List.map (ow eI) v.dims⟩∧v.dims.length=m3∧h b4=some ⟨3,List.map (ow eM) v.maps⟩∧v.maps.length=m4):viewA h (.agg [.int v.p,.int v.q.n,.own b1 0 m1,.own b2 0 m2,.own b3 0 m3,.own b4 0 m4]) (.agg (eR v)):=
 sX (aQ (cH rfl) (aQ (cH rfl) (aQ (cS bH p.1 p.2.1) (aQ (cS bH p.2.2.1 p.2.2.2.1) (aQ (cS bH p.2.2.2.2.1 p.2.2.2.2.2.1) (aQ (cS aW p.2.2.2.2.2.2.1 p.2.2.2.2.2.2.2) vL))))))
theorem vaM {b m:Nat} {v:Mt} (p:h b=some ⟨1,List.map (ow eI) v.cells⟩∧v.cells.length=m):viewA h (.agg [.int v.rows,.int v.cols,.own b 0 m]) (.agg (eM v)):=sX (aQ (cH rfl) (aQ (cH rfl) (aQ (cS bH p.1 p.2) vL)))
theorem vrR {W:World} {a:Rp} {w2 w3 w4 w5:Value} {S2 S3 S4 S5:List Nat} (hf:κ.fx=fxW W) (r2:RepD W (.list 1 (List.map eI a.q.src)) w2 S2) (r3:RepD W (.list 1 (List.map eI a.q.tgt)) w3 S3) (r4:RepD W (.list 1 (List.map eI a.dims)) w4 S4) (r5:RepD W (.list 3 (List.map eM a.maps)) w5 S5):xR κ h (.agg [.int a.p,.int a.q.n,.sc w2,.sc w3,.sc w4,.sc w5]) (.agg (eR a)):=
 .inr (yW (aKp hf rfl) (yW (aKp hf rfl) (yW (aDX hf r2) (yW (aDX hf r3) (yW (aDX hf r4) (yW (aDX hf r5) aOJ))))))
variable {x:AV} {xs ds:List AV}
theorem wkS (q:dS x=true) (b:All2 (xR κ h) xs ds):All2 (xR κ h) (x::xs) (x::ds):=dQ (.inl (aKg q)) b
end
section
variable {dst:Option Tmp} {ty:TypeId} {pos:String} {aft:Array Edge} {g:Option (Nat×Bool)} {s:AState}
theorem wl {t e:TypeId} {n:Nat} {parts:Array (Nat×Operand)} {y ye:Ty} {ps:List (Nat×List AV)} {cs:List AV} {b:Nat}
  (h:(s.ns.head?,cX TT t,y.desc,cX TT e,ye.zero.length,Nat.ble (n*ye.size) 16777216,Nat.ble n 16777216,wA s.ev parts.toList,aAR (λi=>some (i*ye.size,ye.size)) (List.replicate n ye.zero).flatten ps,(ps.all λp=>p.2.all (okCell s.heap)),cs.all (okCell s.heap),(ps.flatMap (λp=>cN p.2)++cN cs).contains b)=(some b,some y,.slice e,some ye,ye.size,true,true,some ps,some cs,true,true,false)):
  AEff Tryz.prog ⟨dst,.buildSlice t n parts,ty,pos,aft,g⟩ s.ev s.heap s.kp ⟨.own b 0 n,ps.flatMap (λp=>cN p.2)++cN cs,[(b,some ⟨ye.size,aAd ye.size n cs⟩)],[b]⟩:=by
 simp only [Prod.mk.injEq] at h;obtain ⟨h1,h2,h3,h4,h5,h6,h7,h8,h9,h10,h11,h12⟩:=h;exact aPe aO h1 h2 h3 h4 h5 h6 h7 h8 h9 h10 h11 h12
theorem ws {t:TypeId} {y:Ty} {x z:Operand} {val:AV} {b i j kk:Nat} {ees:List (List AV)} {cs:List AV}
  (h:(s.ev x,s.heap b,s.ev z,cX TT t,Nat.beq (cI val).length y.size,(cI val).all (okCell s.heap),ees[i]?,Nat.ble (j+y.size) cs.length)=(some (.ptr b i j),some ⟨kk,ees⟩,some val,some y,true,true,some cs,true)):
  AEff Tryz.prog ⟨dst,.store t x z,ty,pos,aft,g⟩ s.ev s.heap s.kp ⟨.dead,b::cN (cI val),[(b,some ⟨kk,ees.set i (aAX cs j (cI val))⟩)],[]⟩:=by
 simp only [Prod.mk.injEq] at h;obtain ⟨h1,h2,h3,h4,h5,h6,h7,h8⟩:=h;exact aEl aO h1 h2 h3 h4 h5 h6 h7 h8
theorem wb {t:TypeId} {x:Operand} {v:AV} {b:Nat} (h:(s.ns.head?,s.ev x,(cI v).all (okCell s.heap),(cN (cI v)).contains b)=(some b,some v,true,false)):
  AEff Tryz.prog ⟨dst,.box t x,ty,pos,aft,g⟩ s.ev s.heap s.kp ⟨.ptr b 0 0,cN (cI v),[(b,some ⟨(cI v).length,[cI v]⟩)],[b]⟩:=by
 simp only [Prod.mk.injEq] at h;obtain ⟨h1,h2,h3,h4⟩:=h;exact aOi h1 h2 h3 h4
theorem xl {α:Type} {k:Nat} {e:α→List AV} {x ix:Operand} {t et:Nat} {y ye:Ty} {l:List α} {kk:IntKind} {i:Int} {v:α} (hm:dF l i=some v)
  (h:(s.ev x,s.ev ix,cX TT t,y.desc,cX TT et,ye.size)=(some (.list k (l.map e)),some (.sc (.int kk i)),some y,.slice et,some ye,k)):
  AEff Tryz.prog ⟨dst,.indexAddr t x ix,ty,pos,aft,g⟩ s.ev s.heap s.kp ⟨.ref (e v),[],[],[]⟩:=by
 simp only [Prod.mk.injEq] at h;obtain ⟨h1,h2,h3,h4,h5,h6⟩:=h;exact aLg aO hm h1 h2 h3 h4 h5 h6
theorem xo {α:Type} {l:List α} {v:α} {x ix:Operand} {t et:Nat} {y ye:Ty} {b kz:Nat} {es:List (List AV)} {kk:IntKind} {i:Int} (hm:dF l i=some v)
  (h:(s.ev x,s.heap b,s.ev ix,cX TT t,y.desc,cX TT et,ye.size)=(some (.own b 0 l.length),some ⟨kz,es⟩,some (.sc (.int kk i)),some y,.slice et,some ye,kz)):
  AEff Tryz.prog ⟨dst,.indexAddr t x ix,ty,pos,aft,g⟩ s.ev s.heap s.kp ⟨.ptr b i.toNat 0,[b],[],[]⟩:=by
 simp only [Prod.mk.injEq] at h;obtain ⟨h1,h2,h3,h4,h5,h6,h7⟩:=h;exact aMn aO (aJn hm) (eP hm) h1 h2 h3 h4 h5 h6 h7
theorem wp {α:Type} {e:α→List AV} {l:List α} {u:α} {x:Operand} {t:Nat} {y:Ty} {b j k:Nat} {i:Int} {v:AV} (hm:dF l i=some u)
  (h:(s.ev x,s.heap b,cX TT t,(y.desc.isAgg||Nat.beq y.size 1),Nat.ble (j+y.size) (e u).length,vK y.desc.isAgg ((((e u).drop j).take y.size).map yC))=(some (.ptr b i.toNat j),some ⟨k,l.map e⟩,some y,true,true,v)):
  AEff Tryz.prog ⟨dst,.load t x,ty,pos,aft,g⟩ s.ev s.heap s.kp ⟨v,[b],[],[]⟩:=by
 simp only [Prod.mk.injEq] at h;obtain ⟨h1,h2,h3,h4,h5,h6⟩:=h;exact cW aO h1 h2 h3 h4 (vM (dU hm)) h5 h6
end
theorem hM {f:FuncId} {fn:Func} {c:Code} {nt:Nat} {ds:List AV} {r:AV} (rvs:List ResultVar) (hf:Tryz.prog.funcs[f]? =some fn) (hnt:fn.ntmps=nt) (h':(fn.body,(fn.name== "runtime.NumGoroutine"),fn.results.toList,Nat.ble ds.length nt,ds.all yR)=(some c,false,rvs,true,true)) (h:AC Tryz.prog nt c (s0 ds nmA) (nL TT rvs r)):HasC Tryz.prog f ds r:=by
 simp only [Prod.mk.injEq] at h';exact aEk aO hf h'.1 h'.2.1 hnt h'.2.2.1 h'.2.2.2.1 h'.2.2.2.2 h
@[elab_as_elim] theorem sp {α:Type} {a:α} {P:α→Prop} {o:α} (h:some a=some o) (p:P a):P o:=so h▸p
theorem oC {α:Type} {t:Bool} {A B:Option α} {r:α} {G:Prop} (h:cond t A B=some r) (p:t=true→A=some r→G) (q:t=false→B=some r→G):G:=by
 rcases cb h with ⟨e,h⟩|⟨e,h⟩
 ·exact p e h
 ·exact q e h
theorem cJ {P:Program} {nt:Nat} {Q:Exit→AState→Prop} {s:AState} {c:Operand} {x y:Code} {α:Type} {t:Bool} {A B:Option α} {r:α} (hc:s.ev c=some (.sc (.bool t))) (h:cond t A B=some r) (p:t=true→A=some r→AC P nt x s Q) (q:t=false→B=some r→AC P nt y s Q):AC P nt (.cond c x y) s Q:=oC h (λe h=>dT hc e (p e h)) λe h=>vC hc e (q e h)
theorem pA {p q:Prop} (a:p) (b:q):p∧q:=⟨a,b⟩
def oMt (v:Mt) (a:Nat):List AV:=[.int v.rows,.int v.cols,.own a 0 v.cells.length]
def oQv (v:Qv) (a b:Nat):List AV:=[.int v.n,.own a 0 v.src.length,.own b 0 v.tgt.length]
def zL (v:Rp) (a b c d:Nat):List AV:=[.int v.p,.int v.q.n,.own a 0 v.q.src.length,.own b 0 v.q.tgt.length,.own c 0 v.dims.length,.own d 0 v.maps.length]
def fV:List AV:=[.int 0,.int 0,.nil 1]
def aOM:List AV:=[.int 0,.int 0,.nil 1,.nil 1,.nil 1,.nil 3]
end
noncomputable section
set_option maxRecDepth 10000
set_option maxHeartbeats 4000000
def kX (a0:Int) (a1:Int) (a2:Int):Option Bool:=
 bif decide (a1≤a0) then
 (some (decide (a0≤a2)))
 else
 (some (false))
theorem qN (a0:Int) (a1:Int) (a2:Int) (r:Bool) (h:kX a0 a1 a2=some r):HasC Tryz.prog 92 [.int a0,.int a1,.int a2] (.bl r):=by
 exact hM [.tmp 6] Tryz.func92 Tryz.ntmps92 k<|sR<|aT k2<|sR<|am k k<|am k k<|cm k4<|am k k<|oC h (λq1 h=>aM 10 k q1<|am k k<|am k k<|cm k4<|pk k3<|aT k2<|aD<|dY h k2) λq1 h=>aM 10 k q1<|aK k4<|ak k k<|pk k3<|aT k2<|aD<|dY h k2
def kB (a0:Int) (a1:Int) (a2:Int):Option Bool:=
 bif decide (a1≤a0) then
 (some (decide (a0≤a2)))
 else
 (some (false))
theorem pF (a0:Int) (a1:Int) (a2:Int) (r:Bool) (h:kB a0 a1 a2=some r):HasC Tryz.prog 127 [.int a0,.int a1,.int a2] (.bl r):=by
 exact hM [.tmp 6] Tryz.func127 Tryz.ntmps127 k<|sR<|aT k2<|sR<|am k k<|am k k<|cm k4<|am k k<|oC h (λq1 h=>aM 10 k q1<|am k k<|am k k<|cm k4<|pk k3<|aT k2<|aD<|dY h k2) λq1 h=>aM 10 k q1<|aK k4<|ak k k<|pk k3<|aT k2<|aD<|dY h k2
def qS (a0:(List Int)) (x1:(Int×Int)):Option ((Int×Int) ⊕ Int):=
 bif decide (x1.2<(a0.length:Int)) then
 ((dF a0 x1.2).bind λv2=>
 some (.inl (wr (x1.1+v2),wr (x1.2+1))))
 else
 (some (.inr x1.1))
def wC (a0:(List Int)):Option Int:=
 (Lp (qS a0) (0,0)).bind λy3=>
 some (y3)
theorem aHg (a0:(List Int)) (r:Int) (h:wC a0=some r):HasC Tryz.prog 86 [.list 1 (a0.map eI)] (.int r):=by
 refine hM [.tmp 2] Tryz.func86 Tryz.ntmps86 k<|sR<|aT k2<|sR<|aT k2<|sQ<|sR<|am k k<|ln k4<|am k k<|an<|tn<|aG<|oB h λy3 hy3 h=>bY (body:=(qS a0)) hy3 (λ(x1:(Int×Int))=>mN [(3,.int x1.1),(6,.list 1 (a0.map eI)),(7,.int (a0.length:Int)),(8,.int x1.2)] [] 0) (λr e t=>e= .exit 0∧Ent t (mN [(3,.int r)] [] 0)) (bO (bL k2) aV k4) ?_ ?_
 ·intro x1 o h;exact sR<|cm k4<|an<|tn<|sQ<|cJ k h (λ_ h=>aE<|tn<|sQ<|aG<|sR<|oB h λv2 hv2 h=>ae (xl hv2 k) k<|lr k7<|aT k2<|rg<|am k k<|am k k<|ae (bF k k) k<|aa k k<|an<|bC<|tn<|rg<|ae (bF k k) k<|am k k<|an<|tn<|sp h ⟨_,k,(bO (bL k2) aV k4)⟩) λ_ h=>bB<|aC<|aC<|sp h ⟨_,k,k,(bO (bL k2) aV k4)⟩
 ·rintro e t ⟨rfl,hent⟩;exact aP<|tn<|aR hent<|sR<|am k k<|aT k2<|aD<|tW h k2
def uD (a0:(List Int)) (a1:(List Int)) (x1:Int):Option (Int ⊕ (Unit ⊕ Bool)):=
 bif decide (x1<(a0.length:Int)) then
 ((dF a0 x1).bind λv3=>
 (dF a1 x1).bind λv4=>
 bif !decide (v3=v4) then
 (some (.inr (.inr (false))))
 else
 (some (.inl (wr (x1+1)))))
 else
 (some (.inr (.inl ())))
def iV (a0:(List Int)) (a1:(List Int)):Option Bool:=
 bif !decide ((a0.length:Int)=(a1.length:Int)) then
 (some (false))
 else
 ((Lp (uD a0 a1) 0).bind λy6=>
 Sum.elim (λy7=>
 some (true)
 )
 (λy8=>
 some y8
 )
 y6)
theorem nS (a0:(List Int)) (a1:(List Int)) (r:Bool) (h:iV a0 a1=some r):HasC Tryz.prog 90 [.list 1 (a0.map eI),.list 1 (a1.map eI)] (.bl r):=by
 refine hM [.tmp 4] Tryz.func90 Tryz.ntmps90 k<|sR<|aT k2<|sQ<|sR<|am k k<|ln k4<|am k k<|ln k4<|cm k4<|an<|tn<|cJ k h (λ_ h=>sR<|aT k2<|aD<|aB<|dY h k2) λ_ h=>?_;refine aE<|tn<|sQ<|sR<|aT k2<|aG<|oB h λy6 hy6 h=>bY (body:=(uD a0 a1)) hy6 (λ(x1:Int)=>mN [(0,.list 1 (a0.map eI)),(1,.list 1 (a1.map eI)),(5,.int x1)] [] 0) (λr e t=>Sum.elim (λa=>(λr e t=>e= .exit 0∧Ent t (mN [] [] 0)) a e t) (λb=>(λr e t=>e= .ret∧nL TT [.tmp 4] (.bl r) .ret t) b e t) r) (bO (bL k2) aV k4) ?_ ?_
 ·intro x1 o h;exact sQ<|sR<|am k k<|am k k<|ln k4<|cm k4<|an<|tn<|cJ k h (λ_ h=>aE<|tn<|sQ<|aG<|sQ<|aS fF<|am k k<|am k k<|oB h λv3 hv3 h=>ae (xl hv3 k) k<|lr k7<|am k k<|am k k<|oB h λv4 hv4 h=>ae (xl hv4 k) k<|lr k7<|cm k4<|an<|pA (by kernel_rfl)<|tn<|cJ k h (λ_ h=>sR<|aT k2<|aD<|bA<|aB<|aB<|sp h ⟨_,k,k,bG k k k (nM k)⟩) λ_ h=>aE<|bC<|tn<|rg<|am k k<|ae (bF k k) k<|aT k2<|sp h ⟨_,k,(bO (bL k2) aV k4)⟩) λ_ h=>bB<|aC<|aC<|sp h ⟨_,k,k,(bO aV aV k4)⟩
 ·intro e t hX;rcases y6 with y7|y8
  ·obtain ⟨rfl,hent⟩:=hX;exact aP<|tn<|aR hent<|sR<|aT k2<|aD<|dY h k2
  ·obtain ⟨rfl,hent⟩:=hX;exact bA<|aB<|sp h hent
def qT (a0:(List Int)) (a1:Int) (x1:Int):Option (Int ⊕ (Unit ⊕ Bool)):=
 bif decide (x1<(a0.length:Int)) then
 ((dF a0 x1).bind λv2=>
 bif decide (v2=a1) then
 (some (.inr (.inr (true))))
 else
 (some (.inl (wr (x1+1)))))
 else
 (some (.inr (.inl ())))
def wD (a0:(List Int)) (a1:Int):Option Bool:=
 (Lp (qT a0 a1) 0).bind λy4=>
 Sum.elim (λy5=>
 some (false)
 )
 (λy6=>
 some y6
 )
 y4
theorem aHh (a0:(List Int)) (a1:Int) (r:Bool) (h:wD a0 a1=some r):HasC Tryz.prog 200 [.list 1 (a0.map eI),.int a1] (.bl r):=by
 refine hM [.tmp 4] Tryz.func200 Tryz.ntmps200 k<|sR<|aT k2<|sQ<|sR<|aT k2<|aG<|oB h λy4 hy4 h=>bY (body:=(qT a0 a1)) hy4 (λ(x1:Int)=>mN [(0,.list 1 (a0.map eI)),(1,.int a1),(5,.int x1)] [] 0) (λr e t=>Sum.elim (λa=>(λr e t=>e= .exit 0∧Ent t (mN [] [] 0)) a e t) (λb=>(λr e t=>e= .ret∧nL TT [.tmp 4] (.bl r) .ret t) b e t) r) (bO (bL k2) aV k4) ?_ ?_
 ·intro x1 o h;exact sQ<|sR<|am k k<|am k k<|ln k4<|cm k4<|an<|tn<|cJ k h (λ_ h=>aE<|tn<|sQ<|aG<|sR<|am k k<|am k k<|oB h λv2 hv2 h=>ae (xl hv2 k) k<|lr k7<|am k k<|cm k4<|an<|tn<|cJ k h (λ_ h=>sR<|aT k2<|aD<|bA<|aB<|aB<|sp h ⟨_,k,k,bG k k k (nM k)⟩) λ_ h=>aE<|bC<|tn<|rg<|am k k<|ae (bF k k) k<|aT k2<|sp h ⟨_,k,(bO (bL k2) aV k4)⟩) λ_ h=>bB<|aC<|aC<|sp h ⟨_,k,k,(bO aV aV k4)⟩
 ·intro e t hX;rcases y4 with y5|y6
  ·obtain ⟨rfl,hent⟩:=hX;exact aP<|tn<|aR hent<|sR<|aT k2<|aD<|dY h k2
  ·obtain ⟨rfl,hent⟩:=hX;exact bA<|aB<|sp h hent
def iZ (a0:(List Int)) (a1:(List Int)) (x1:Int):Option (Int ⊕ (Unit ⊕ Bool)):=
 bif decide (x1<(a0.length:Int)) then
 ((dF a0 x1).bind λv3=>
 (dF a1 x1).bind λv4=>
 bif !decide (v3=v4) then
 (some (.inr (.inr (false))))
 else
 (some (.inl (wr (x1+1)))))
 else
 (some (.inr (.inl ())))
def dD (a0:(List Int)) (a1:(List Int)):Option Bool:=
 bif !decide ((a0.length:Int)=(a1.length:Int)) then
 (some (false))
 else
 ((Lp (iZ a0 a1) 0).bind λy6=>
 Sum.elim (λy7=>
 some (true)
 )
 (λy8=>
 some y8
 )
 y6)
theorem eK (a0:(List Int)) (a1:(List Int)) (r:Bool) (h:dD a0 a1=some r):HasC Tryz.prog 118 [.list 1 (a0.map eI),.list 1 (a1.map eI)] (.bl r):=by
 refine hM [.tmp 4] Tryz.func118 Tryz.ntmps118 k<|sR<|aT k2<|sQ<|sR<|am k k<|ln k4<|am k k<|ln k4<|cm k4<|an<|tn<|cJ k h (λ_ h=>sR<|aT k2<|aD<|aB<|dY h k2) λ_ h=>?_;refine aE<|tn<|sQ<|sR<|am k k<|ln k4<|am k k<|an<|tn<|aG<|oB h λy6 hy6 h=>bY (body:=(iZ a0 a1)) hy6 (λ(x1:Int)=>mN [(0,.list 1 (a0.map eI)),(1,.list 1 (a1.map eI)),(12,.int (a0.length:Int)),(13,.int x1)] [] 0) (λr e t=>Sum.elim (λa=>(λr e t=>e= .exit 0∧Ent t (mN [] [] 0)) a e t) (λb=>(λr e t=>e= .ret∧nL TT [.tmp 4] (.bl r) .ret t) b e t) r) (bO (bL k2) aV k4) ?_ ?_
 ·intro x1 o h;exact sR<|cm k4<|an<|tn<|sQ<|cJ k h (λ_ h=>aE<|tn<|sQ<|aG<|sR<|am k k<|aT k2<|sQ<|aS fF<|am k k<|am k k<|oB h λv3 hv3 h=>ae (xl hv3 k) k<|lr k7<|am k k<|am k k<|oB h λv4 hv4 h=>ae (xl hv4 k) k<|lr k7<|cm k4<|an<|pA (by kernel_rfl)<|tn<|cJ k h (λ_ h=>sR<|aT k2<|aD<|bA<|aB<|aB<|sp h ⟨_,k,k,bG k k k (nM k)⟩) λ_ h=>aE<|bC<|tn<|rg<|ae (bF k k) k<|am k k<|an<|tn<|sp h ⟨_,k,(bO (bL k2) aV k4)⟩) λ_ h=>bB<|aC<|aC<|sp h ⟨_,k,k,(bO aV aV k4)⟩
 ·intro e t hX;rcases y6 with y7|y8
  ·obtain ⟨rfl,hent⟩:=hX;exact aP<|tn<|aR hent<|sR<|aT k2<|aD<|dY h k2
  ·obtain ⟨rfl,hent⟩:=hX;exact bA<|aB<|sp h hent
def pG (a0:Int):Option Bool:=
 bif decide (a0=2) then
 (some (true))
 else
 (bif decide (a0=3) then
 (some (true))
 else
 (some (decide (a0=5))))
theorem xA (a0:Int) (r:Bool) (h:pG a0=some r):HasC Tryz.prog 161 [.int a0] (.bl r):=by
 exact hM [.tmp 2] Tryz.func161 Tryz.ntmps161 k<|sR<|aT k2<|sR<|am k k<|cm k4<|am k k<|oC h (λq1 h=>aM 5 k q1<|aK k4<|pk k3<|am k k<|aK k4<|pk k3<|aT k2<|aD<|dY h k2) λq1 h=>aM 5 k q1<|am k k<|cm k4<|pk k3<|am k k<|oC h (λq2 h=>aM 9 k q2<|aK k4<|pk k3<|aT k2<|aD<|dY h k2) λq2 h=>aM 9 k q2<|am k k<|cm k4<|pk k3<|aT k2<|aD<|dY h k2
def jA (a0:Int):Option Bool:=
 bif decide (a0=2) then
 (some (true))
 else
 (bif decide (a0=3) then
 (some (true))
 else
 (some (decide (a0=5))))
theorem pH (a0:Int) (r:Bool) (h:jA a0=some r):HasC Tryz.prog 146 [.int a0] (.bl r):=by
 exact hM [.tmp 2] Tryz.func146 Tryz.ntmps146 k<|sR<|aT k2<|sR<|am k k<|cm k4<|am k k<|oC h (λq1 h=>aM 5 k q1<|aK k4<|pk k3<|am k k<|aK k4<|pk k3<|aT k2<|aD<|dY h k2) λq1 h=>aM 5 k q1<|am k k<|cm k4<|pk k3<|am k k<|oC h (λq2 h=>aM 9 k q2<|aK k4<|pk k3<|aT k2<|aD<|dY h k2) λq2 h=>aM 9 k q2<|am k k<|cm k4<|pk k3<|aT k2<|aD<|dY h k2
def mQ (a0:Qv) (x1:Int):Option (Int ⊕ (Unit ⊕ Bool)):=
 bif decide (x1<(a0.src.length:Int)) then
 (bif decide (x1<(a0.tgt.length:Int)) then
 ((dF a0.src x1).bind λv3=>
 (kB v3 0 (wr (a0.n - 1))).bind λv4=>
 bif !v4 then
 (some (.inr (.inr (false))))
 else
 ((dF a0.tgt x1).bind λv6=>
 (kB v6 0 (wr (a0.n - 1))).bind λv7=>
 bif !v7 then
 (some (.inr (.inr (false))))
 else
 (some (.inl (wr (x1+1))))))
 else
 (some (.inr (.inl ()))))
 else
 (some (.inr (.inl ())))
def qU (a0:Qv):Option Bool:=
 (Lp (mQ a0) 0).bind λy9=>
 Sum.elim (λy10=>
 (kB a0.n 1 5).bind λv11=>
 bif v11 then
 (bif decide ((a0.src.length:Int)≤6) then
 (some (decide ((a0.tgt.length:Int)=(a0.src.length:Int))))
 else
 (some (false)))
 else
 (some (false))
 )
 (λy14=>
 some y14
 )
 y9
theorem aEF (a0:Qv) (r:Bool) (h:qU a0=some r):HasC Tryz.prog 210 [.agg (eQ a0)] (.bl r):=by
 refine hM [.tmp 2] Tryz.func210 Tryz.ntmps210 k<|sR<|ae (wb k) k<|aT k2<|sQ<|sR<|aT k2<|aG<|oB h λy9 hy9 h=>bY (body:=(mQ a0)) hy9 (λ(x1:Int)=>mN [(1,.ptr 0 0 0),(3,.int x1)] [(0,⟨3,[eQ a0]⟩)] 1) (λr e t=>Sum.elim (λa=>(λr e t=>e= .exit 0∧Ent t (mN [(1,.ptr 0 0 0)] [(0,⟨3,[eQ a0]⟩)] 1)) a e t) (λb=>(λr e t=>e= .ret∧nL TT [.tmp 2] (.bl r) .ret t) b e t) r) (bO (bL k2) (bT k<|aV) k4) ?_ ?_
 ·intro x1 o h;refine sQ<|sR<|am k k<|fp k8<|lp k8<|ln k4<|cm k4<|am k k<|oC h (λq1 h=>?_) λq1 h=>aM 9 k q1<|aK k4<|aK k4<|ak k k<|pk k3<|an<|tn<|vC k k<|bB<|aC<|aC<|sp h ⟨_,k,k,(bO (bL k2) (bT k<|aV) k4)⟩;exact aM 9 k q1<|am k k<|fp k8<|lp k8<|ln k4<|cm k4<|pk k3<|an<|tn<|cJ k h (λ_ h=>aE<|tn<|sQ<|aG<|sQ<|aS fF<|fp k8<|lp k8<|am k k<|oB h λv3 hv3 h=>ae (xl hv3 k) k<|lr k7<|fp k8<|lp k8<|ae (qI k k) k<|oB h λv4 hv4 h=>ae (aL (pF v3 0 (wr (a0.n - 1)) v4 hv4) k (cC k (cC k (cC k aJ)))) k<|ae (dE k) k<|am k k<|oC h (λq5 h=>aM 28 k q5<|aK k4<|aK k4<|aK k4<|aK k4<|aK k4<|pk k3<|an<|pA (by kernel_rfl)<|tn<|aR (t:=mN [(1,.ptr 0 0 0),(3,.int x1),(39,.bl true)] [(0,⟨3,[eQ a0]⟩)] 1) (bO (bL k2) (bT k<|aV) k4)<|dT k k<|sR<|aT k2<|aD<|bA<|aB<|aB<|sp h ⟨_,k,k,bG k k k (nM k)⟩) λq5 h=>aM 28 k q5<|fp k8<|lp k8<|am k k<|oB h λv6 hv6 h=>ae (xl hv6 k) k<|lr k7<|fp k8<|lp k8<|ae (qI k k) k<|oB h λv7 hv7 h=>ae (aL (pF v6 0 (wr (a0.n - 1)) v7 hv7) k (cC k (cC k (cC k aJ)))) k<|ae (dE k) k<|pk k3<|an<|pA (by kernel_rfl)<|tn<|aR (t:=mN [(1,.ptr 0 0 0),(3,.int x1),(39,.bl (!v7))] [(0,⟨3,[eQ a0]⟩)] 1) (bO (bL k2) (bT k<|aV) k4)<|cJ k h (λ_ h=>sR<|aT k2<|aD<|bA<|aB<|aB<|sp h ⟨_,k,k,bG k k k (nM k)⟩) λ_ h=>aE<|bC<|tn<|rg<|am k k<|ae (bF k k) k<|aT k2<|sp h ⟨_,k,(bO (bL k2) (bT k<|aV) k4)⟩) λ_ h=>bB<|aC<|aC<|sp h ⟨_,k,k,(bO (bL k2) (bT k<|aV) k4)⟩
 ·intro e t hX;rcases y9 with y10|y14
  ·obtain ⟨rfl,hent⟩:=hX;exact aP<|tn<|aR hent<|sR<|fp k8<|lp k8<|oB h λv11 hv11 h=>ae (aL (pF a0.n 1 5 v11 hv11) k (cC k (cC k (cC k aJ)))) k<|am k k<|oC h (λq12 h=>aM 43 k q12<|fp k8<|lp k8<|ln k4<|cm k4<|pk k3<|am k k<|oC h (λq13 h=>aM 49 k q13<|fp k8<|lp k8<|ln k4<|fp k8<|lp k8<|ln k4<|cm k4<|pk k3<|aT k2<|aD<|dY h k2) λq13 h=>aM 49 k q13<|aK k4<|aK k4<|aK k4<|ak k k<|pk k3<|aT k2<|aD<|dY h k2) λq12 h=>aM 43 k q12<|aK k4<|aK k4<|pk k3<|am k k<|aK k4<|aK k4<|aK k4<|ak k k<|pk k3<|aT k2<|aD<|dY h k2
  ·obtain ⟨rfl,hent⟩:=hX;exact bA<|aB<|sp h hent
def pI (a0:Int) (a1:Int):Option Mt:=
 bif (decide (0≤wr (a0*a1))&&decide (wr (a0*a1)≤1048576)) then
 (some ((⟨a0,a1,(List.replicate ((wr (a0*a1)).toNat) (0:Int))⟩:Mt)))
 else none
theorem xS (a0:Int) (a1:Int) (r:Mt) (h:pI a0 a1=some r):HasC Tryz.prog 189 [.int a0,.int a1] (.agg (eM r)):=by
 exact hM [.cell 4 113] Tryz.func189 Tryz.ntmps189 k<|sR<|ae (cA aO k k) k<|an<|tn<|sR<|am k k<|am k k<|am k k<|am k k<|ae (eZ k k) k<|cG h λq1 h=>ae (yH aO q1 k k k k k k k k) k<|ae (iJ aO k k k k k k) k<|ae (ws k) k<|an<|tn<|aR (t:=mN [(4,.ptr 0 0 0)] [(0,⟨3,[[.int a0,.int a1,.own 1 0 ((List.replicate ((wr (a0*a1)).toNat) (0:Int)).length)]]⟩),(1,⟨1,List.map (ow eI) (List.replicate ((wr (a0*a1)).toNat) (0:Int))⟩)] 2) (bO (bL k2) (hX ⟨_,k,k,.inr ⟨_,_,k,⟨_,_,k,k,⟨_,_,k,k,⟨_,_,k,⟨k,k,(by simp only [aU,lA,lT,lR,lC,lN]),k⟩,k⟩⟩⟩,k⟩⟩ k<|hX ⟨_,k,k,.inl ⟨aAE (e:=eI) (z:=0) _,bH.plainO _⟩⟩ k<|aV) k4)<|aD<|sp h (bG k k k (pD (aH (k) (aH (k) (aH (cU bH k k) fY)))))
def uO (a0:Int) (a1:Int):Option Mt:=
 bif (decide (0≤wr (a0*a1))&&decide (wr (a0*a1)≤1048576)) then
 (some ((⟨a0,a1,(List.replicate ((wr (a0*a1)).toNat) (0:Int))⟩:Mt)))
 else none
theorem aGI (a0:Int) (a1:Int) (r:Mt) (h:uO a0 a1=some r):HasC Tryz.prog 201 [.int a0,.int a1] (.agg (eM r)):=by
 exact hM [.cell 4 113] Tryz.func201 Tryz.ntmps201 k<|sR<|ae (cA aO k k) k<|an<|tn<|sR<|am k k<|am k k<|am k k<|am k k<|ae (eZ k k) k<|cG h λq1 h=>ae (yH aO q1 k k k k k k k k) k<|ae (iJ aO k k k k k k) k<|ae (ws k) k<|an<|tn<|aR (t:=mN [(4,.ptr 0 0 0)] [(0,⟨3,[[.int a0,.int a1,.own 1 0 ((List.replicate ((wr (a0*a1)).toNat) (0:Int)).length)]]⟩),(1,⟨1,List.map (ow eI) (List.replicate ((wr (a0*a1)).toNat) (0:Int))⟩)] 2) (bO (bL k2) (hX ⟨_,k,k,.inr ⟨_,_,k,⟨_,_,k,k,⟨_,_,k,k,⟨_,_,k,⟨k,k,(by simp only [aU,lA,lT,lR,lC,lN]),k⟩,k⟩⟩⟩,k⟩⟩ k<|hX ⟨_,k,k,.inl ⟨aAE (e:=eI) (z:=0) _,bH.plainO _⟩⟩ k<|aV) k4)<|aD<|sp h (bG k k k (pD (aH (k) (aH (k) (aH (cU bH k k) fY)))))
def dG (a0:Mt) (a1:Int):Option Unit:=
 bif (decide (0≤wr (a1*a0.cols))&&(decide (wr (a1*a0.cols)≤wr ((wr (a1+1))*a0.cols))&&decide (wr ((wr (a1+1))*a0.cols)≤((a0.cells.length:Nat):Int)))) then
 (some ())
 else none
theorem eY (a0:Mt) (a1:Int) (r:Unit) (h:dG a0 a1=some r):HasE Tryz.prog 190 [.agg [.int a0.rows,.int a0.cols,.own 0 0 a0.cells.length],.int a1] [(0,⟨1,a0.cells.map (ow eI)⟩)] 1 (.own 0 (0+(wr (a1*a0.cols)).toNat) ((wr ((wr (a1+1))*a0.cols)).toNat - (wr (a1*a0.cols)).toNat)) [(0,⟨1,a0.cells.map (ow eI)⟩)]:=by
 exact aCV aO (rvs:=[.tmp 4]) (ns:=nmA.drop 1) Tryz.func190 k k Tryz.ntmps190 k k<|sR<|ae (wb k) k<|aT k2<|sR<|fp k8<|lp k8<|am k k<|fp k8<|lp k8<|ae (eZ k k) k<|am k k<|ae (bF k k) k<|fp k8<|lp k8<|ae (eZ k k) k<|cG h λq1 h=>ae (aIm aO (l:=wr (a1*a0.cols)) (h:=wr ((wr (a1+1))*a0.cols)) q1 k k k k k k k k) k<|aT k2<|aD<|sp h ⟨mN [(4,.own 0 (0+(wr (a1*a0.cols)).toNat) ((wr ((wr (a1+1))*a0.cols)).toNat - (wr (a1*a0.cols)).toNat))] [(0,⟨1,a0.cells.map (ow eI)⟩)] 1 1,(bO (bL k2) (bD k<|aV) k4),k,⟨_,k,.inl k⟩,⟨k,aV⟩⟩
def jJ (a0:Int) (a2:Int) (a3:(List Int)) (n1:Nat) (s1:Nat) (x1:((List Int)×Int)):Option (((List Int)×Int) ⊕ (List Int)):=
 bif decide (x1.2<(a3.length:Int)) then
 ((dF a3 x1.2).bind λv2=>
 bif (decide (0≤x1.2)&&decide (x1.2<((n1:Nat):Int))) then
 ((x1.1[(s1+x1.2.toNat)]?).bind λv3=>
 bif !decide (a0=0) then
 (bif (decide (0≤x1.2)&&decide (x1.2<((n1:Nat):Int))) then
 ((x1.1[(s1+x1.2.toNat)]?).bind λv5=>
 some (.inl ((x1.1.set (s1+x1.2.toNat) ((wr (v3+(wr (a2*v2)))).tmod a0)),wr (x1.2+1)))
 )
 else none)
 else none
 )
 else none)
 else
 (some (.inr x1.1))
def fG (a0:Int) (c0:(List Int)) (s1:Nat) (n1:Nat) (a2:Int) (a3:(List Int)):Option (List Int):=
 (Lp (jJ a0 a2 a3 n1 s1) (c0,0)).bind λy8=>
 some y8
theorem rY (a0:Int) (c0:(List Int)) (s1:Nat) (n1:Nat) (a2:Int) (a3:(List Int)) (r:(List Int)) (h:fG a0 c0 s1 n1 a2 a3=some r):HasE Tryz.prog 207 [.int a0,.own 0 s1 n1,.int a2,.list 1 (a3.map eI)] [(0,⟨1,c0.map (ow eI)⟩)] 1 (.own 0 s1 n1) [(0,⟨1,r.map (ow eI)⟩)]:=by
 refine aCV aO (rvs:=[.tmp 8]) (ns:=nmA.drop 1) Tryz.func207 k k Tryz.ntmps207 k k<|sR<|aT k2<|sQ<|sR<|am k k<|ln k4<|am k k<|an<|tn<|aG<|oB h λy8 hy8 h=>bY (body:=(jJ a0 a2 a3 n1 s1)) hy8 (λ(x1:((List Int)×Int))=>mN [(0,.int a0),(1,.own 0 s1 n1),(2,.int a2),(11,.list 1 (a3.map eI)),(12,.int (a3.length:Int)),(13,.int x1.2)] [(0,⟨1,x1.1.map (ow eI)⟩)] 1 1) (λr e t=>e= .exit 0∧Ent t (mN [(1,.own 0 s1 n1)] [(0,⟨1,r.map (ow eI)⟩)] 1 1)) (bO (bL k2) (bD k<|aV) k4) ?_ ?_
 ·intro x1 o h;refine sR<|cm k4<|an<|tn<|sQ<|cJ k h (λ_ h=>?_) λ_ h=>bB<|aC<|aC<|sp h ⟨_,k,k,(bO (bL k2) (bD k<|aV) k4)⟩;refine aE<|tn<|sQ<|aG<|sR<|am k k<|oB h λv2 hv2 h=>ae (xl hv2 k) k<|lr k7<|aa k k<|aT k2<|rg<|am k k<|am k k<|am k k<|am k k<|cG h λq4 h=>oB h λv3 hv3 h=>ae (gR aO q4 k k k k k k k) k<|ae (cW aO k k k k (vM (hv3)) k k) k<|am k k<|am k k<|ae (eZ k k) k<|ae (bF k k) k<|am k k<|cG h λq7 h=>ae (aBY k k q7) k<|cG h λq6 h=>oB h λv5 hv5 h=>ae (gR aO q6 k k k k k k k) k<|ae (gO aO pE (u:=(wr (v3+(wr (a2*v2)))).tmod a0) (hv5) k k k k k k) k<|an ?_;exact bC<|tn<|rg<|ae (bF k k) k<|am k k<|an<|tn<|sp h ⟨_,k,(bO (bL k2) (bD k<|aV) k4)⟩
 ·rintro e t ⟨rfl,hent⟩;exact aP<|tn<|aR hent<|sR<|am k k<|aT k2<|aD<|sp h ⟨mN [(8,.own 0 s1 n1)] [(0,⟨1,y8.map (ow eI)⟩)] 1 1,(bO (bL k2) (bD k<|aV) k4),k,⟨_,k,.inl k⟩,⟨k,aV⟩⟩
def fZ (a0:Int) (a2:Int) (n1:Nat) (n3:Nat) (s1:Nat) (s3:Nat) (x1:((List Int)×Int)):Option (((List Int)×Int) ⊕ (List Int)):=
 bif decide (x1.2<((n3:Nat):Int)) then
 (bif (decide (0≤x1.2)&&decide (x1.2<((n3:Nat):Int))) then
 ((x1.1[(s3+x1.2.toNat)]?).bind λv2=>
 bif (decide (0≤x1.2)&&decide (x1.2<((n1:Nat):Int))) then
 ((x1.1[(s1+x1.2.toNat)]?).bind λv4=>
 bif !decide (a0=0) then
 (bif (decide (0≤x1.2)&&decide (x1.2<((n1:Nat):Int))) then
 ((x1.1[(s1+x1.2.toNat)]?).bind λv6=>
 some (.inl ((x1.1.set (s1+x1.2.toNat) ((wr (v4+(wr (a2*v2)))).tmod a0)),wr (x1.2+1)))
 )
 else none)
 else none
 )
 else none
 )
 else none)
 else
 (some (.inr x1.1))
def hU (a0:Int) (c0:(List Int)) (s1:Nat) (n1:Nat) (a2:Int) (s3:Nat) (n3:Nat):Option (List Int):=
 (Lp (fZ a0 a2 n1 n3 s1 s3) (c0,0)).bind λy9=>
 some y9
theorem zA (a0:Int) (c0:(List Int)) (s1:Nat) (n1:Nat) (a2:Int) (s3:Nat) (n3:Nat) (r:(List Int)) (h:hU a0 c0 s1 n1 a2 s3 n3=some r):HasE Tryz.prog 207 [.int a0,.own 0 s1 n1,.int a2,.own 0 s3 n3] [(0,⟨1,c0.map (ow eI)⟩)] 1 (.own 0 s1 n1) [(0,⟨1,r.map (ow eI)⟩)]:=by
 refine aCV aO (rvs:=[.tmp 8]) (ns:=nmA.drop 1) Tryz.func207 k k Tryz.ntmps207 k k<|sR<|aT k2<|sQ<|sR<|am k k<|ae (dO aO k k k k) k<|am k k<|an<|tn<|aG<|oB h λy9 hy9 h=>bY (body:=(fZ a0 a2 n1 n3 s1 s3)) hy9 (λ(x1:((List Int)×Int))=>mN [(0,.int a0),(1,.own 0 s1 n1),(2,.int a2),(11,.own 0 s3 n3),(12,.int ((n3:Nat):Int)),(13,.int x1.2)] [(0,⟨1,x1.1.map (ow eI)⟩)] 1 1) (λr e t=>e= .exit 0∧Ent t (mN [(1,.own 0 s1 n1)] [(0,⟨1,r.map (ow eI)⟩)] 1 1)) (bO (bL k2) (bD k<|aV) k4) ?_ ?_
 ·intro x1 o h;refine sR<|cm k4<|an<|tn<|sQ<|cJ k h (λ_ h=>?_) λ_ h=>bB<|aC<|aC<|sp h ⟨_,k,k,(bO (bL k2) (bD k<|aV) k4)⟩;refine aE<|tn<|sQ<|aG<|sR<|am k k<|cG h λq3 h=>oB h λv2 hv2 h=>ae (gR aO q3 k k k k k k k) k<|ae (cW aO k k k k (vM (hv2)) k k) k<|aa k k<|aT k2<|rg<|am k k<|am k k<|am k k<|am k k<|cG h λq5 h=>oB h λv4 hv4 h=>ae (gR aO q5 k k k k k k k) k<|ae (cW aO k k k k (vM (hv4)) k k) k<|am k k<|am k k<|ae (eZ k k) k<|ae (bF k k) k<|am k k<|cG h λq8 h=>ae (aBY k k q8) k<|cG h λq7 h=>oB h λv6 hv6 h=>ae (gR aO q7 k k k k k k k) k<|ae (gO aO pE (u:=(wr (v4+(wr (a2*v2)))).tmod a0) (hv6) k k k k k k) k<|an ?_;exact bC<|tn<|rg<|ae (bF k k) k<|am k k<|an<|tn<|sp h ⟨_,k,(bO (bL k2) (bD k<|aV) k4)⟩
 ·rintro e t ⟨rfl,hent⟩;exact aP<|tn<|aR hent<|sR<|am k k<|aT k2<|aD<|sp h ⟨mN [(8,.own 0 s1 n1)] [(0,⟨1,y9.map (ow eI)⟩)] 1 1,(bO (bL k2) (bD k<|aV) k4),k,⟨_,k,.inl k⟩,⟨k,aV⟩⟩
def fC (a0:Int) (a1:Int):Option Int:=
 bif !decide (a0=0) then
 (bif decide (a1.tmod a0<0) then
 (some (wr ((a1.tmod a0)+a0)))
 else
 (some (a1.tmod a0)))
 else none
theorem iL (a0:Int) (a1:Int) (r:Int) (h:fC a0 a1=some r):HasC Tryz.prog 202 [.int a0,.int a1] (.int r):=by
 exact hM [.tmp 4] Tryz.func202 Tryz.ntmps202 k<|sR<|aT k2<|sR<|am k k<|am k k<|cG h λq2 h=>ae (aBY k k q2) k<|aT k2<|sQ<|sR<|am k k<|cm k4<|an<|tn<|cJ k h (λ_ h=>rg<|am k k<|am k k<|ae (bF k k) k<|aT k2<|sR<|am k k<|aT k2<|aD<|tW h k2) λ_ h=>aE<|tn<|sR<|am k k<|aT k2<|aD<|tW h k2
def kD (a1:Mt) (a2:Mt) (x1:((List Int)×Int)) (x2:((List Int)×Int)) (x3:(Int×Int)):Option ((Int×Int) ⊕ Int):=
 bif decide (x3.2<a1.cols) then
 ((dF a1.cells (wr ((wr (x1.2*a1.cols))+x3.2))).bind λv5=>
 (dF a2.cells (wr ((wr (x3.2*a2.cols))+x2.2))).bind λv6=>
 some (.inl (wr (x3.1+(wr (v5*v6))),wr (x3.2+1))))
 else
 (some (.inr x3.1))
def kE (a0:Int) (a1:Mt) (a2:Mt) (x1:((List Int)×Int)) (x2:((List Int)×Int)):Option (((List Int)×Int) ⊕ (List Int)):=
 bif decide (x2.2<a2.cols) then
 ((Lp (kD a1 a2 x1 x2) (0,0)).bind λy7=>
 (fC a0 y7).bind λv8=>
 (dF x2.1 (wr ((wr (x1.2*a2.cols))+x2.2))).bind λv9=>
 some (.inl ((x2.1.set ((wr ((wr (x1.2*a2.cols))+x2.2)).toNat) v8),wr (x2.2+1))))
 else
 (some (.inr x2.1))
def kF (a0:Int) (a1:Mt) (a2:Mt) (x1:((List Int)×Int)):Option (((List Int)×Int) ⊕ (List Int)):=
 bif decide (x1.2<a1.rows) then
 ((Lp (kE a0 a1 a2 x1) (x1.1,0)).bind λy10=>
 some (.inl (y10,wr (x1.2+1))))
 else
 (some (.inr x1.1))
def kG (a0:Int) (a1:Mt) (a2:Mt):Option Mt:=
 (uO a1.rows a2.cols).bind λv1=>
 (Lp (kF a0 a1 a2) (v1.cells,0)).bind λy11=>
 some ((⟨v1.rows,v1.cols,y11⟩:Mt))
theorem xT (a0:Int) (a1:Mt) (a2:Mt) (r:Mt) (h:kG a0 a1 a2=some r):HasC Tryz.prog 145 [.int a0,.agg (eM a1),.agg (eM a2)] (.agg (eM r)):=by
 refine hM [.cell 6 113] Tryz.func145 Tryz.ntmps145 k<|sR<|ae (wb k) k<|ae (wb k) k<|ae (cA aO k k) k<|an<|tn<|sR<|fp k8<|lp k8<|fp k8<|lp k8<|oB h λv1 hv1 h=>ae (cM (aGI a1.rows a2.cols v1 hv1) k3 (cC k (cC k aJ))) k<|ae (cA aO k k) k<|ae (ws k) k<|an<|tn<|sQ<|sR<|aT k2<|aG<|oB h λy11 hy11 h=>bY (body:=(kF a0 a1 a2)) hy11 (λ(x1:((List Int)×Int))=>mN [(0,.int a0),(4,.ptr 0 0 0),(5,.ptr 1 0 0),(6,.ptr 2 0 0),(7,.ptr 3 0 0),(8,.int x1.2)] [(0,⟨3,[eM a1]⟩),(1,⟨3,[eM a2]⟩),(2,⟨3,[fV]⟩),(3,⟨3,[[.int v1.rows,.int v1.cols,.own 4 0 x1.1.length]]⟩),(4,⟨1,x1.1.map (ow eI)⟩)] 5) (λr e t=>e= .exit 0∧Ent t (mN [(6,.ptr 0 0 0),(7,.ptr 1 0 0)] [(0,⟨3,[fV]⟩),(1,⟨3,[[.int v1.rows,.int v1.cols,.own 2 0 r.length]]⟩),(2,⟨1,r.map (ow eI)⟩)] 3)) (xF [0,1,2,4,3] (bL k2) (bT k<|bT k<|bT k<|fK k<|bD k<|aV) k4) ?_ ?_
 ·intro x1 o h;refine sQ<|sR<|am k k<|fp k8<|lp k8<|cm k4<|an<|tn<|cJ k h (λ_ h=>?_) λ_ h=>bB<|aC<|aC<|sp h ⟨_,k,k,(xF [2,3,4] (bL k2) (bT k<|fK k<|bD k<|aV) k4)⟩;refine aE<|tn<|sQ<|aG<|sR<|aT k2<|aG<|oB h λy10 hy10 h=>bY (body:=(kE a0 a1 a2 x1)) hy10 (λ(x2:((List Int)×Int))=>mN [(0,.int a0),(4,.ptr 0 0 0),(5,.ptr 1 0 0),(6,.ptr 2 0 0),(7,.ptr 3 0 0),(8,.int x1.2),(9,.int x2.2)] [(0,⟨3,[eM a1]⟩),(1,⟨3,[eM a2]⟩),(2,⟨3,[fV]⟩),(3,⟨3,[[.int v1.rows,.int v1.cols,.own 4 0 x2.1.length]]⟩),(4,⟨1,x2.1.map (ow eI)⟩)] 5) (λr e t=>e= .exit 2∧Ent t (mN [(0,.int a0),(4,.ptr 0 0 0),(5,.ptr 1 0 0),(6,.ptr 2 0 0),(7,.ptr 3 0 0),(8,.int x1.2)] [(0,⟨3,[eM a1]⟩),(1,⟨3,[eM a2]⟩),(2,⟨3,[fV]⟩),(3,⟨3,[[.int v1.rows,.int v1.cols,.own 4 0 r.length]]⟩),(4,⟨1,r.map (ow eI)⟩)] 5)) (bO (bL k2) (bT k<|bT k<|bT k<|fK k<|bD k<|aV) k4) ?_ ?_
  ·intro x2 o h;refine sQ<|sR<|am k k<|fp k8<|lp k8<|cm k4<|an<|tn<|cJ k h (λ_ h=>?_) λ_ h=>bB<|aC<|aC<|sp h ⟨_,k,k,(bO (bL k2) (bT k<|bT k<|bT k<|fK k<|bD k<|aV) k4)⟩;refine aE<|tn<|sQ<|aG<|sR<|aT k2<|sQ<|sR<|aT k2<|aG<|oB h λy7 hy7 h=>bY (body:=(kD a1 a2 x1 x2)) hy7 (λ(x3:(Int×Int))=>mN [(0,.int a0),(4,.ptr 0 0 0),(5,.ptr 1 0 0),(6,.ptr 2 0 0),(7,.ptr 3 0 0),(8,.int x1.2),(9,.int x2.2),(10,.int x3.1),(11,.int x3.2)] [(0,⟨3,[eM a1]⟩),(1,⟨3,[eM a2]⟩),(2,⟨3,[fV]⟩),(3,⟨3,[[.int v1.rows,.int v1.cols,.own 4 0 x2.1.length]]⟩),(4,⟨1,x2.1.map (ow eI)⟩)] 5) (λr e t=>e= .exit 4∧Ent t (mN [(0,.int a0),(4,.ptr 0 0 0),(5,.ptr 1 0 0),(6,.ptr 2 0 0),(7,.ptr 3 0 0),(8,.int x1.2),(9,.int x2.2),(10,.int r)] [(0,⟨3,[eM a1]⟩),(1,⟨3,[eM a2]⟩),(2,⟨3,[fV]⟩),(3,⟨3,[[.int v1.rows,.int v1.cols,.own 4 0 x2.1.length]]⟩),(4,⟨1,x2.1.map (ow eI)⟩)] 5)) (bO (bL k2) (bT k<|bT k<|bT k<|fK k<|bD k<|aV) k4) ?_ ?_
   ·intro x3 o h;refine sQ<|sR<|am k k<|fp k8<|lp k8<|cm k4<|an<|tn<|cJ k h (λ_ h=>?_) λ_ h=>bB<|aC<|aC<|sp h ⟨_,k,k,(bO (bL k2) (bT k<|bT k<|bT k<|fK k<|bD k<|aV) k4)⟩;refine aE<|tn<|sQ<|aG<|aS fF<|am k k<|fp k8<|lp k8<|am k k<|fp k8<|lp k8<|ae (eZ k k) k<|am k k<|ae (bF k k) k<|oB h λv5 hv5 h=>ae (xl hv5 k) k<|lr k7<|fp k8<|lp k8<|am k k<|fp k8<|lp k8<|ae (eZ k k) k<|am k k<|ae (bF k k) k<|oB h λv6 hv6 h=>ae (xl hv6 k) k<|lr k7<|ae (eZ k k) k<|ae (bF k k) k<|aa k k ?_;exact an<|pA (by kernel_rfl)<|bC<|tn<|aR (t:=mN [(0,.int a0),(4,.ptr 0 0 0),(5,.ptr 1 0 0),(6,.ptr 2 0 0),(7,.ptr 3 0 0),(8,.int x1.2),(9,.int x2.2),(10,.int (wr (x3.1+(wr (v5*v6))))),(11,.int x3.2)] [(0,⟨3,[eM a1]⟩),(1,⟨3,[eM a2]⟩),(2,⟨3,[fV]⟩),(3,⟨3,[[.int v1.rows,.int v1.cols,.own 4 0 x2.1.length]]⟩),(4,⟨1,x2.1.map (ow eI)⟩)] 5) (bO (bL k2) (bT k<|bT k<|bT k<|fK k<|bD k<|aV) k4)<|rg<|am k k<|ae (bF k k) k<|aT k2<|sp h ⟨_,k,(bO (bL k2) (bT k<|bT k<|bT k<|fK k<|bD k<|aV) k4)⟩
   ·rintro e t ⟨rfl,hent⟩;exact aP<|tn<|aR hent<|aS fF<|fp k8<|lp k8<|am k k<|fp k8<|lp k8<|ae (eZ k k) k<|am k k<|ae (bF k k) k<|am k k<|am k k<|oB h λv8 hv8 h=>ae (aL (iL a0 y7 v8 hv8) k (cC k (cC k aJ))) k<|oB h λv9 hv9 h=>ae (xo hv9 k) k<|ae (gO aO pE (u:=v8) (dU hv9) k k k k k k) k<|an<|pA (by kernel_rfl)<|bC<|tn<|rg<|am k k<|ae (bF k k) k<|aT k2<|sp h ⟨_,k,(bO (bL k2) (bT k<|bT k<|bT k<|hX ⟨_,k,k,.inr ⟨_,_,k,⟨_,_,k,k,⟨_,_,k,k,⟨_,_,k,⟨k,k,(by simp only [aU,lA,lT,lR,lC,lN]),k⟩,k⟩⟩⟩,k⟩⟩ k<|bD k<|aV) k4)⟩
  ·rintro e t ⟨rfl,hent⟩;exact aP<|bC<|tn<|aR hent<|rg<|am k k<|ae (bF k k) k<|aT k2<|sp h ⟨_,k,(bO (bL k2) (bT k<|bT k<|bT k<|fK k<|bD k<|aV) k4)⟩
 ·rintro e t ⟨rfl,hent⟩;exact aP<|tn<|aR hent<|sR<|lp k8<|ae (ws k) k<|an<|tn<|aD<|sp h (bG k k k (pD (aH (k) (aH (k) (aH (cU bH k k) fY)))))
def kH (a0:Int) (a1:Int) (x1:Int):Option (Int ⊕ (Unit ⊕ Int)):=
 bif decide (x1<a0) then
 ((pG a0).bind λv2=>
 bif v2 then
 ((fC a0 a1).bind λv4=>
 (fC a0 (wr (v4*x1))).bind λv5=>
 bif decide (v5=1) then
 (some (.inr (.inr (x1))))
 else
 (some (.inl (wr (x1+1)))))
 else
 (some (.inr (.inl ()))))
 else
 (some (.inr (.inl ())))
def oD (a0:Int) (a1:Int):Option Int:=
 (Lp (kH a0 a1) 1).bind λy7=>
 Sum.elim (λy8=>
 some (0)
 )
 (λy9=>
 some y9
 )
 y7
theorem aCc (a0:Int) (a1:Int) (r:Int) (h:oD a0 a1=some r):HasC Tryz.prog 244 [.int a0,.int a1] (.int r):=by
 refine hM [.tmp 4] Tryz.func244 Tryz.ntmps244 k<|sR<|aT k2<|sQ<|sR<|aT k2<|aG<|oB h λy7 hy7 h=>bY (body:=(kH a0 a1)) hy7 (λ(x1:Int)=>mN [(0,.int a0),(1,.int a1),(5,.int x1)] [] 0) (λr e t=>Sum.elim (λa=>(λr e t=>e= .exit 0∧Ent t (mN [] [] 0)) a e t) (λb=>(λr e t=>e= .ret∧nL TT [.tmp 4] (.int r) .ret t) b e t) r) (bO (bL k2) aV k4) ?_ ?_
 ·intro x1 o h;exact sQ<|sR<|am k k<|am k k<|cm k4<|am k k<|oC h (λq1 h=>aM 9 k q1<|am k k<|oB h λv2 hv2 h=>ae (aL (xA a0 v2 hv2) k (cC k aJ)) k<|pk k3<|an<|tn<|cJ k h (λ_ h=>aE<|tn<|sQ<|aG<|sR<|am k k<|am k k<|am k k<|oB h λv4 hv4 h=>ae (aL (iL a0 a1 v4 hv4) k (cC k (cC k aJ))) k<|am k k<|ae (eZ k k) k<|oB h λv5 hv5 h=>ae (aL (iL a0 (wr (v4*x1)) v5 hv5) k (cC k (cC k aJ))) k<|cm k4<|an<|tn<|cJ k h (λ_ h=>sR<|am k k<|aT k2<|aD<|bA<|aB<|aB<|sp h ⟨_,k,k,bG k k k (jT k)⟩) λ_ h=>aE<|bC<|tn<|rg<|am k k<|ae (bF k k) k<|aT k2<|sp h ⟨_,k,(bO (bL k2) aV k4)⟩) λ_ h=>bB<|aC<|aC<|sp h ⟨_,k,k,(bO aV aV k4)⟩) λq1 h=>aM 9 k q1<|aK k4<|pk k3<|an<|tn<|vC k k<|bB<|aC<|aC<|sp h ⟨_,k,k,(bO aV aV k4)⟩
 ·intro e t hX;rcases y7 with y8|y9
  ·obtain ⟨rfl,hent⟩:=hX;exact aP<|tn<|aR hent<|sR<|aT k2<|aD<|tW h k2
  ·obtain ⟨rfl,hent⟩:=hX;exact bA<|aB<|sp h hent
def mR (a0:Int) (a1:(List Int)) (x1:Int):Option (Int ⊕ (Unit ⊕ Bool)):=
 bif decide (x1<(a1.length:Int)) then
 ((dF a1 x1).bind λv5=>
 (kB v5 0 (wr (a0 - 1))).bind λv6=>
 bif !v6 then
 (some (.inr (.inr (false))))
 else
 (some (.inl (wr (x1+1)))))
 else
 (some (.inr (.inl ())))
def qV (a0:Int) (a1:(List Int)):Option Bool:=
 (pG a0).bind λv1=>
 bif !v1 then
 (some (false))
 else
 (bif decide (64<(a1.length:Int)) then
 (some (false))
 else
 ((Lp (mR a0 a1) 0).bind λy8=>
 Sum.elim (λy9=>
 some (true)
 )
 (λy10=>
 some y10
 )
 y8))
theorem aEG (a0:Int) (a1:(List Int)) (r:Bool) (h:qV a0 a1=some r):HasC Tryz.prog 211 [.int a0,.list 1 (a1.map eI)] (.bl r):=by
 refine hM [.tmp 4] Tryz.func211 Tryz.ntmps211 k<|sR<|aT k2<|sQ<|sR<|am k k<|oB h λv1 hv1 h=>ae (aL (xA a0 v1 hv1) k (cC k aJ)) k<|ae (dE k) k<|am k k<|oC h (λq2 h=>aM 9 k q2<|aK k4<|ak k k<|pk k3<|an<|tn<|dT k k<|sR<|aT k2<|aD<|aB<|dY h k2) λq2 h=>?_;refine aM 9 k q2<|am k k<|ln k4<|cm k4<|pk k3<|an<|tn<|cJ k h (λ_ h=>sR<|aT k2<|aD<|aB<|dY h k2) λ_ h=>?_;refine aE<|tn<|sQ<|sR<|aT k2<|aG<|oB h λy8 hy8 h=>bY (body:=(mR a0 a1)) hy8 (λ(x1:Int)=>mN [(0,.int a0),(1,.list 1 (a1.map eI)),(5,.int x1)] [] 0) (λr e t=>Sum.elim (λa=>(λr e t=>e= .exit 0∧Ent t (mN [] [] 0)) a e t) (λb=>(λr e t=>e= .ret∧nL TT [.tmp 4] (.bl r) .ret t) b e t) r) (bO (bL k2) aV k4) ?_ ?_
 ·intro x1 o h;exact sQ<|sR<|am k k<|am k k<|ln k4<|cm k4<|an<|tn<|cJ k h (λ_ h=>aE<|tn<|sQ<|aG<|sR<|am k k<|am k k<|oB h λv5 hv5 h=>ae (xl hv5 k) k<|lr k7<|am k k<|ae (qI k k) k<|oB h λv6 hv6 h=>ae (aL (pF v5 0 (wr (a0 - 1)) v6 hv6) k (cC k (cC k (cC k aJ)))) k<|ae (dE k) k<|an<|tn<|cJ k h (λ_ h=>sR<|aT k2<|aD<|bA<|aB<|aB<|sp h ⟨_,k,k,bG k k k (nM k)⟩) λ_ h=>aE<|bC<|tn<|rg<|am k k<|ae (bF k k) k<|aT k2<|sp h ⟨_,k,(bO (bL k2) aV k4)⟩) λ_ h=>bB<|aC<|aC<|sp h ⟨_,k,k,(bO aV aV k4)⟩
 ·intro e t hX;rcases y8 with y9|y10
  ·obtain ⟨rfl,hent⟩:=hX;exact aP<|tn<|aR hent<|sR<|aT k2<|aD<|dY h k2
  ·obtain ⟨rfl,hent⟩:=hX;exact bA<|aB<|sp h hent
def jW (a0:Int) (a1:Mt):Option Bool:=
 (kB a1.rows 0 8).bind λv1=>
 bif v1 then
 ((kB a1.cols 0 8).bind λv3=>
 bif v3 then
 (bif decide ((a1.cells.length:Int)=wr (a1.rows*a1.cols)) then
 ((qV a0 a1.cells).bind λv6=>
 some (v6))
 else
 (some (false)))
 else
 (some (false)))
 else
 (some (false))
theorem vS (a0:Int) (a1:Mt) (r:Bool) (h:jW a0 a1=some r):HasC Tryz.prog 163 [.int a0,.agg (eM a1)] (.bl r):=by
 exact hM [.tmp 4] Tryz.func163 Tryz.ntmps163 k<|sR<|ae (wb k) k<|aT k2<|sR<|fp k8<|lp k8<|oB h λv1 hv1 h=>ae (aL (pF a1.rows 0 8 v1 hv1) k (cC k (cC k (cC k aJ)))) k<|am k k<|oC h (λq2 h=>aM 8 k q2<|fp k8<|lp k8<|oB h λv3 hv3 h=>ae (aL (pF a1.cols 0 8 v3 hv3) k (cC k (cC k (cC k aJ)))) k<|pk k3<|am k k<|oC h (λq4 h=>aM 13 k q4<|fp k8<|lp k8<|ln k4<|fp k8<|lp k8<|fp k8<|lp k8<|ae (eZ k k) k<|cm k4<|pk k3<|am k k<|oC h (λq5 h=>aM 24 k q5<|am k k<|fp k8<|lp k8<|oB h λv6 hv6 h=>ae (aL (aEG a0 a1.cells v6 hv6) k (cC k (cC k aJ))) k<|pk k3<|aT k2<|aD<|dY h k2) λq5 h=>aM 24 k q5<|aK k4<|aK k4<|pk k3<|aT k2<|aD<|dY h k2) λq4 h=>aM 13 k q4<|aK k4<|aK k4<|aK k4<|aK k4<|ak k k<|pk k3<|am k k<|aK k4<|aK k4<|pk k3<|aT k2<|aD<|dY h k2) λq2 h=>aM 8 k q2<|aK k4<|ak k k<|pk k3<|am k k<|aK k4<|aK k4<|aK k4<|aK k4<|ak k k<|pk k3<|am k k<|aK k4<|aK k4<|pk k3<|aT k2<|aD<|dY h k2
def qO (a0:Mt):Option Mt:=
 bif decide (([]:(List Int)).length +a0.cells.length≤4294967296) then
 (some ((⟨a0.rows,a0.cols,(([]:(List Int))++a0.cells)⟩:Mt)))
 else none
theorem aBZ (a0:Mt) (r:Mt) (h:qO a0=some r):HasC Tryz.prog 114 [.agg (eM a0)] (.agg (eM r)):=by
 exact hM [.cell 2 113] Tryz.func114 Tryz.ntmps114 k<|sR<|ae (wb k) k<|ae (cA aO k k) k<|an<|tn<|sQ<|aS fF<|fp k8<|lp k8<|fp k8<|lp k8<|ae (wl k) k<|fp k8<|lp k8<|cG h λq1 h=>ae (yV aO (l:=([]:(List Int))) (m:=a0.cells) pE q1 k k k k k k k k k k k k) k<|ae (iJ aO k k k k k k) k<|ae (ws k) k<|an<|pA (by kernel_rfl)<|tn<|aD<|sp h (bG k k k (pD (aH (k) (aH (k) (aH (cU bH k k) fY)))))
end
noncomputable section
set_option maxRecDepth 10000
set_option maxHeartbeats 4000000
def jB (v1:Mt) (x1:(Int×(List Int)×(List Int)×Int)) (x2:(Int×Int)):Option ((Int×Int) ⊕ Int):=
 bif decide (x1.2.2.2≤x2.2) then
 ((dF x1.2.1 (wr ((wr (x2.2*v1.cols))+x1.1))).bind λv5=>
 bif !decide (v5=0) then
 (some (.inl (x2.2,wr (x2.2 - 1))))
 else
 (some (.inl (x2.1,wr (x2.2 - 1)))))
 else
 (some (.inr x2.1))
def mS (v1:Mt) (x1:(Int×(List Int)×(List Int)×Int)) (y7:Int) (x3:((List Int)×Int)):Option (((List Int)×Int) ⊕ (List Int)):=
 bif decide (x3.2<v1.cols) then
 ((dF x3.1 (wr ((wr (x1.2.2.2*v1.cols))+x3.2))).bind λv10=>
 (dF x3.1 (wr ((wr (y7*v1.cols))+x3.2))).bind λv11=>
 (dF x3.1 (wr ((wr (x1.2.2.2*v1.cols))+x3.2))).bind λv12=>
 (dF (x3.1.set ((wr ((wr (x1.2.2.2*v1.cols))+x3.2)).toNat) v11) (wr ((wr (y7*v1.cols))+x3.2))).bind λv13=>
 some (.inl (((x3.1.set ((wr ((wr (x1.2.2.2*v1.cols))+x3.2)).toNat) v11).set ((wr ((wr (y7*v1.cols))+x3.2)).toNat) v10),wr (x3.2+1))))
 else
 (some (.inr x3.1))
def mT (a0:Int) (v1:Mt) (v16:Int) (x1:(Int×(List Int)×(List Int)×Int)) (x4:((List Int)×Int)):Option (((List Int)×Int) ⊕ (List Int)):=
 bif decide (x4.2<v1.cols) then
 ((dF x4.1 (wr ((wr (x1.2.2.2*v1.cols))+x4.2))).bind λv18=>
 (fC a0 (wr (v16*v18))).bind λv19=>
 (dF x4.1 (wr ((wr (x1.2.2.2*v1.cols))+x4.2))).bind λv20=>
 some (.inl ((x4.1.set ((wr ((wr (x1.2.2.2*v1.cols))+x4.2)).toNat) v19),wr (x4.2+1))))
 else
 (some (.inr x4.1))
def jC (a0:Int) (v1:Mt) (v23:Int) (x1:(Int×(List Int)×(List Int)×Int)) (x5:((List Int)×Int)) (x6:((List Int)×Int)):Option (((List Int)×Int) ⊕ (List Int)):=
 bif decide (x6.2<v1.cols) then
 (bif !decide (x5.2=x1.2.2.2) then
 ((dF x6.1 (wr ((wr (x5.2*v1.cols))+x6.2))).bind λv26=>
 (dF x6.1 (wr ((wr (x1.2.2.2*v1.cols))+x6.2))).bind λv27=>
 (fC a0 (wr (v26 - (wr (v23*v27))))).bind λv28=>
 (dF x6.1 (wr ((wr (x5.2*v1.cols))+x6.2))).bind λv29=>
 some (.inl ((x6.1.set ((wr ((wr (x5.2*v1.cols))+x6.2)).toNat) v28),wr (x6.2+1))))
 else
 (some (.inr x6.1)))
 else
 (some (.inr x6.1))
def mU (a0:Int) (v1:Mt) (x1:(Int×(List Int)×(List Int)×Int)) (x5:((List Int)×Int)):Option (((List Int)×Int) ⊕ (List Int)):=
 bif decide (x5.2<v1.rows) then
 ((dF x5.1 (wr ((wr (x5.2*v1.cols))+x1.1))).bind λv23=>
 (Lp (jC a0 v1 v23 x1 x5) (x5.1,0)).bind λy30=>
 some (.inl (y30,wr (x5.2+1))))
 else
 (some (.inr x5.1))
def fH (a0:Int) (v1:Mt) (x1:(Int×(List Int)×(List Int)×Int)):Option ((Int×(List Int)×(List Int)×Int) ⊕ ((List Int)×(List Int))):=
 bif decide (x1.1<v1.cols) then
 (bif decide (x1.2.2.2<v1.rows) then
 ((Lp (jB v1 x1) ((-1),wr (v1.rows - 1))).bind λy7=>
 bif decide (y7<0) then
 (some (.inl (wr (x1.1+1),x1.2.1,x1.2.2.1,x1.2.2.2)))
 else
 ((Lp (mS v1 x1 y7) (x1.2.1,0)).bind λy14=>
 (dF y14 (wr ((wr (x1.2.2.2*v1.cols))+x1.1))).bind λv15=>
 (oD a0 v15).bind λv16=>
 (Lp (mT a0 v1 v16 x1) (y14,0)).bind λy21=>
 (Lp (mU a0 v1 x1) (y21,0)).bind λy31=>
 bif decide (x1.2.2.1.length+[x1.1].length ≤4294967296) then
 (some (.inl (wr (x1.1+1),y31,(x1.2.2.1++[x1.1]),wr (x1.2.2.2+1))))
 else none))
 else
 (some (.inr (x1.2.1,x1.2.2.1))))
 else
 (some (.inr (x1.2.1,x1.2.2.1)))
def nO (a0:Int) (a1:Mt):Option (Mt×(List Int)):=
 (qO a1).bind λv1=>
 (Lp (fH a0 v1) (0,v1.cells,([]:(List Int)),0)).bind λy33=>
 some (((⟨v1.rows,v1.cols,y33.1⟩:Mt),y33.2))
theorem aAU (a0:Int) (a1:Mt) (r:(Mt×(List Int))) (h:nO a0 a1=some r):HasC Tryz.prog 226 [.int a0,.agg (eM a1)] (.tuple [.agg (eM r.1),.list 1 (r.2.map eI)]):=by
 refine hM [.cell 4 113,.tmp 5] Tryz.func226 Tryz.ntmps226 k<|sR<|ae (wb k) k<|ae (cA aO k k) k<|aT k2<|sR<|lp k8<|oB h λv1 hv1 h=>ae (cM (aBZ a1 v1 hv1) k3 (aI (dH k) aJ)) k<|ae (cA aO k k) k<|ae (ws k) k<|an<|tn<|sR<|ae (wl k) k<|aT k2<|aR (t:=mN [(0,.int a0),(4,.ptr 1 0 0),(6,.ptr 3 0 0),(7,.own 4 0 (([]:(List Int)).length))] [(1,⟨3,[fV]⟩),(2,⟨1,v1.cells.map (ow eI)⟩),(3,⟨3,[oMt v1 2]⟩),(4,⟨1,List.map (ow eI) ([]:(List Int))⟩)] 5) (bO (wP 3 k2 (sO ⟨_,k,⟨k,k,(by simp only [aU,lA,lT,lR,lC,lN]),k⟩⟩ aV)) (bT k<|bD k<|fK k<|bD k<|aV) k4)<|sR<|aT k2<|sQ<|sQ ?_;refine rg<|aT k2<|aG<|oB h λy33 hy33 h=>bY (body:=(fH a0 v1)) hy33 (λ(x1:(Int×(List Int)×(List Int)×Int))=>mN [(0,.int a0),(4,.ptr 0 0 0),(6,.ptr 1 0 0),(7,.own 3 0 x1.2.2.1.length),(8,.int x1.2.2.2),(9,.int x1.1)] [(0,⟨3,[fV]⟩),(1,⟨3,[[.int v1.rows,.int v1.cols,.own 2 0 x1.2.1.length]]⟩),(2,⟨1,x1.2.1.map (ow eI)⟩),(3,⟨1,x1.2.2.1.map (ow eI)⟩)] 4) (λr e t=>e= .exit 0∧Ent t (mN [(4,.ptr 0 0 0),(6,.ptr 1 0 0),(7,.own 3 0 r.2.length)] [(0,⟨3,[fV]⟩),(1,⟨3,[[.int v1.rows,.int v1.cols,.own 2 0 r.1.length]]⟩),(2,⟨1,r.1.map (ow eI)⟩),(3,⟨1,r.2.map (ow eI)⟩)] 4)) (xF [1,3,2,4] (bL k2) (bT k<|fK k<|bD k<|bD k<|aV) k4) ?_ ?_
 ·intro x1 o h;refine sQ<|sR<|am k k<|fp k8<|lp k8<|cm k4<|am k k<|oC h (λq2 h=>?_) λq2 h=>aM 26 k q2<|aK k4<|aK k4<|pk k3<|an<|tn<|vC k k<|bB<|aC<|aC<|sp h ⟨_,k,k,(bO (bL k2) (bT k<|fK k<|bD k<|bD k<|aV) k4)⟩;refine aM 26 k q2<|am k k<|fp k8<|lp k8<|cm k4<|pk k3<|an<|tn<|cJ k h (λ_ h=>?_) λ_ h=>bB<|aC<|aC<|sp h ⟨_,k,k,(bO (bL k2) (bT k<|fK k<|bD k<|bD k<|aV) k4)⟩;refine aE<|tn<|sQ<|aG<|sR<|aT k2<|sQ<|sR<|fp k8<|lp k8<|ae (qI k k) k<|aT k2<|aG<|oB h λy7 hy7 h=>bY (body:=(jB v1 x1)) hy7 (λ(x2:(Int×Int))=>mN [(0,.int a0),(4,.ptr 0 0 0),(6,.ptr 1 0 0),(7,.own 3 0 x1.2.2.1.length),(8,.int x1.2.2.2),(9,.int x1.1),(10,.int x2.1),(11,.int x2.2)] [(0,⟨3,[fV]⟩),(1,⟨3,[[.int v1.rows,.int v1.cols,.own 2 0 x1.2.1.length]]⟩),(2,⟨1,x1.2.1.map (ow eI)⟩),(3,⟨1,x1.2.2.1.map (ow eI)⟩)] 4) (λr e t=>e= .exit 2∧Ent t (mN [(0,.int a0),(4,.ptr 0 0 0),(6,.ptr 1 0 0),(7,.own 3 0 x1.2.2.1.length),(8,.int x1.2.2.2),(9,.int x1.1),(10,.int r)] [(0,⟨3,[fV]⟩),(1,⟨3,[[.int v1.rows,.int v1.cols,.own 2 0 x1.2.1.length]]⟩),(2,⟨1,x1.2.1.map (ow eI)⟩),(3,⟨1,x1.2.2.1.map (ow eI)⟩)] 4)) (bO (bL k2) (bT k<|fK k<|bD k<|bD k<|aV) k4) ?_ ?_
  ·intro x2 o h;exact sQ<|sR<|am k k<|am k k<|cm k4<|an<|tn<|cJ k h (λ_ h=>aE<|tn<|sQ<|aG<|sR<|fp k8<|lp k8<|am k k<|fp k8<|lp k8<|ae (eZ k k) k<|am k k<|ae (bF k k) k<|oB h λv5 hv5 h=>ae (xo hv5 k) k<|ae (wp hv5 k) k<|cm k4<|an<|tn<|cJ k h (λ_ h=>rg<|am k k<|aa k k<|an<|bC<|tn<|rg<|am k k<|ae (qI k k) k<|aT k2<|sp h ⟨_,k,(bO (bL k2) (bT k<|fK k<|bD k<|bD k<|aV) k4)⟩) λ_ h=>aE<|bC<|tn<|rg<|am k k<|ae (qI k k) k<|aT k2<|sp h ⟨_,k,(bO (bL k2) (bT k<|fK k<|bD k<|bD k<|aV) k4)⟩) λ_ h=>bB<|aC<|aC<|sp h ⟨_,k,k,(bO (bL k2) (bT k<|fK k<|bD k<|bD k<|aV) k4)⟩
  ·rintro e t ⟨rfl,hent⟩;refine aP<|tn<|aR hent<|sQ<|sR<|am k k<|cm k4<|an<|tn<|cJ k h (λ_ h=>bB<|aC<|aP<|tn<|rg<|am k k<|ae (bF k k) k<|aT k2<|sp h ⟨_,k,(bO (bL k2) (bT k<|fK k<|bD k<|bD k<|aV) k4)⟩) λ_ h=>?_;refine aE<|tn<|sQ<|sR<|aT k2<|aG<|oB h λy14 hy14 h=>bY (body:=(mS v1 x1 y7)) hy14 (λ(x3:((List Int)×Int))=>mN [(0,.int a0),(4,.ptr 0 0 0),(6,.ptr 1 0 0),(7,.own 3 0 x1.2.2.1.length),(8,.int x1.2.2.2),(9,.int x1.1),(10,.int y7),(12,.int x3.2)] [(0,⟨3,[fV]⟩),(1,⟨3,[[.int v1.rows,.int v1.cols,.own 2 0 x3.1.length]]⟩),(2,⟨1,x3.1.map (ow eI)⟩),(3,⟨1,x1.2.2.1.map (ow eI)⟩)] 4) (λr e t=>e= .exit 4∧Ent t (mN [(0,.int a0),(4,.ptr 0 0 0),(6,.ptr 1 0 0),(7,.own 3 0 x1.2.2.1.length),(8,.int x1.2.2.2),(9,.int x1.1)] [(0,⟨3,[fV]⟩),(1,⟨3,[[.int v1.rows,.int v1.cols,.own 2 0 r.length]]⟩),(2,⟨1,r.map (ow eI)⟩),(3,⟨1,x1.2.2.1.map (ow eI)⟩)] 4)) (bO (bL k2) (bT k<|fK k<|bD k<|bD k<|aV) k4) ?_ ?_
   ·intro x3 o h;refine sQ<|sR<|am k k<|fp k8<|lp k8<|cm k4<|an<|tn<|cJ k h (λ_ h=>?_) λ_ h=>bB<|aC<|aC<|sp h ⟨_,k,k,(bO (bL k2) (bT k<|fK k<|bD k<|bD k<|aV) k4)⟩;refine aE<|tn<|sQ<|aG<|sR<|fp k8<|lp k8<|am k k<|fp k8<|lp k8<|ae (eZ k k) k<|am k k<|ae (bF k k) k<|oB h λv10 hv10 h=>ae (xo hv10 k) k<|ae (wp hv10 k) k<|aT k2<|sQ<|aS fF<|fp k8<|lp k8<|am k k<|fp k8<|lp k8<|ae (eZ k k) k<|am k k<|ae (bF k k) k ?_;refine fp k8<|lp k8<|am k k<|fp k8<|lp k8<|ae (eZ k k) k<|am k k<|ae (bF k k) k<|oB h λv11 hv11 h=>ae (xo hv11 k) k<|ae (wp hv11 k) k<|oB h λv12 hv12 h=>ae (xo hv12 k) k<|ae (gO aO pE (u:=v11) (dU hv12) k k k k k k) k<|an<|pA (by kernel_rfl)<|tn<|aR (t:=mN [(0,.int a0),(4,.ptr 0 0 0),(6,.ptr 1 0 0),(7,.own 3 0 x1.2.2.1.length),(8,.int x1.2.2.2),(9,.int x1.1),(10,.int y7),(12,.int x3.2),(13,.int v10)] [(0,⟨3,[fV]⟩),(1,⟨3,[[.int v1.rows,.int v1.cols,.own 2 0 ((x3.1.set ((wr ((wr (x1.2.2.2*v1.cols))+x3.2)).toNat) v11).length)]]⟩),(2,⟨1,List.map (ow eI) (x3.1.set ((wr ((wr (x1.2.2.2*v1.cols))+x3.2)).toNat) v11)⟩),(3,⟨1,x1.2.2.1.map (ow eI)⟩)] 4) (bO (bL k2) (bT k<|hX ⟨_,k,k,.inr ⟨_,_,k,⟨_,_,k,k,⟨_,_,k,k,⟨_,_,k,⟨k,k,(by simp only [aU,lA,lT,lR,lC,lN]),k⟩,k⟩⟩⟩,k⟩⟩ k<|bD k<|bD k<|aV) k4)<|rg<|fp k8<|lp k8<|am k k<|fp k8<|lp k8<|ae (eZ k k) k<|am k k<|ae (bF k k) k<|am k k<|oB h λv13 hv13 h=>ae (xo hv13 k) k<|ae (gO aO pE (u:=v10) (dU hv13) k k k k k k) k<|an<|bC ?_;exact tn<|rg<|am k k<|ae (bF k k) k<|aT k2<|sp h ⟨_,k,(bO (bL k2) (bT k<|hX ⟨_,k,k,.inr ⟨_,_,k,⟨_,_,k,k,⟨_,_,k,k,⟨_,_,k,⟨k,k,(by simp only [aU,lA,lT,lR,lC,lN]),k⟩,k⟩⟩⟩,k⟩⟩ k<|bD k<|bD k<|aV) k4)⟩
   ·rintro e t ⟨rfl,hent⟩;refine aP<|tn<|aR hent<|sR<|am k k<|fp k8<|lp k8<|am k k<|fp k8<|lp k8<|ae (eZ k k) k<|am k k<|ae (bF k k) k<|oB h λv15 hv15 h=>ae (xo hv15 k) k<|ae (wp hv15 k) k<|oB h λv16 hv16 h=>ae (aL (aCc a0 v15 v16 hv16) k (cC k (cC k aJ))) k<|aT k2<|sQ<|sR<|aT k2<|aG<|oB h λy21 hy21 h=>bY (body:=(mT a0 v1 v16 x1)) hy21 (λ(x4:((List Int)×Int))=>mN [(0,.int a0),(4,.ptr 0 0 0),(6,.ptr 1 0 0),(7,.own 3 0 x1.2.2.1.length),(8,.int x1.2.2.2),(9,.int x1.1),(14,.int v16),(15,.int x4.2)] [(0,⟨3,[fV]⟩),(1,⟨3,[[.int v1.rows,.int v1.cols,.own 2 0 x4.1.length]]⟩),(2,⟨1,x4.1.map (ow eI)⟩),(3,⟨1,x1.2.2.1.map (ow eI)⟩)] 4) (λr e t=>e= .exit 6∧Ent t (mN [(0,.int a0),(4,.ptr 0 0 0),(6,.ptr 1 0 0),(7,.own 3 0 x1.2.2.1.length),(8,.int x1.2.2.2),(9,.int x1.1)] [(0,⟨3,[fV]⟩),(1,⟨3,[[.int v1.rows,.int v1.cols,.own 2 0 r.length]]⟩),(2,⟨1,r.map (ow eI)⟩),(3,⟨1,x1.2.2.1.map (ow eI)⟩)] 4)) (bO (bL k2) (bT k<|fK k<|bD k<|bD k<|aV) k4) ?_ ?_
    ·intro x4 o h;refine sQ<|sR<|am k k<|fp k8<|lp k8<|cm k4<|an<|tn<|cJ k h (λ_ h=>?_) λ_ h=>bB<|aC<|aC<|sp h ⟨_,k,k,(bO (bL k2) (bT k<|fK k<|bD k<|bD k<|aV) k4)⟩;refine aE<|tn<|sQ<|aG<|aS fF<|fp k8<|lp k8<|am k k<|fp k8<|lp k8<|ae (eZ k k) k<|am k k<|ae (bF k k) k<|am k k<|am k k<|fp k8<|lp k8<|am k k<|fp k8<|lp k8<|ae (eZ k k) k<|am k k<|ae (bF k k) k<|oB h λv18 hv18 h=>ae (xo hv18 k) k<|ae (wp hv18 k) k<|ae (eZ k k) k<|oB h λv19 hv19 h=>ae (aL (iL a0 (wr (v16*v18)) v19 hv19) k (cC k (cC k aJ))) k<|oB h λv20 hv20 h=>ae (xo hv20 k) k<|ae (gO aO pE (u:=v19) (dU hv20) k k k k k k) k ?_;exact an<|pA (by kernel_rfl)<|bC<|tn<|aR (t:=mN [(0,.int a0),(4,.ptr 0 0 0),(6,.ptr 1 0 0),(7,.own 3 0 x1.2.2.1.length),(8,.int x1.2.2.2),(9,.int x1.1),(14,.int v16),(15,.int x4.2)] [(0,⟨3,[fV]⟩),(1,⟨3,[[.int v1.rows,.int v1.cols,.own 2 0 ((x4.1.set ((wr ((wr (x1.2.2.2*v1.cols))+x4.2)).toNat) v19).length)]]⟩),(2,⟨1,List.map (ow eI) (x4.1.set ((wr ((wr (x1.2.2.2*v1.cols))+x4.2)).toNat) v19)⟩),(3,⟨1,x1.2.2.1.map (ow eI)⟩)] 4) (bO (bL k2) (bT k<|hX ⟨_,k,k,.inr ⟨_,_,k,⟨_,_,k,k,⟨_,_,k,k,⟨_,_,k,⟨k,k,(by simp only [aU,lA,lT,lR,lC,lN]),k⟩,k⟩⟩⟩,k⟩⟩ k<|bD k<|bD k<|aV) k4)<|rg<|am k k<|ae (bF k k) k<|aT k2<|sp h ⟨_,k,(bO (bL k2) (bT k<|fK k<|bD k<|bD k<|aV) k4)⟩
    ·rintro e t ⟨rfl,hent⟩;refine aP<|tn<|aR hent<|sQ<|sR<|aT k2<|aG<|oB h λy31 hy31 h=>bY (body:=(mU a0 v1 x1)) hy31 (λ(x5:((List Int)×Int))=>mN [(0,.int a0),(4,.ptr 0 0 0),(6,.ptr 1 0 0),(7,.own 3 0 x1.2.2.1.length),(8,.int x1.2.2.2),(9,.int x1.1),(16,.int x5.2)] [(0,⟨3,[fV]⟩),(1,⟨3,[[.int v1.rows,.int v1.cols,.own 2 0 x5.1.length]]⟩),(2,⟨1,x5.1.map (ow eI)⟩),(3,⟨1,x1.2.2.1.map (ow eI)⟩)] 4) (λr e t=>e= .exit 8∧Ent t (mN [(0,.int a0),(4,.ptr 0 0 0),(6,.ptr 1 0 0),(7,.own 3 0 x1.2.2.1.length),(8,.int x1.2.2.2),(9,.int x1.1)] [(0,⟨3,[fV]⟩),(1,⟨3,[[.int v1.rows,.int v1.cols,.own 2 0 r.length]]⟩),(2,⟨1,r.map (ow eI)⟩),(3,⟨1,x1.2.2.1.map (ow eI)⟩)] 4)) (bO (bL k2) (bT k<|fK k<|bD k<|bD k<|aV) k4) ?_ ?_
     ·intro x5 o h;refine sQ<|sR<|am k k<|fp k8<|lp k8<|cm k4<|an<|tn<|cJ k h (λ_ h=>?_) λ_ h=>bB<|aC<|aC<|sp h ⟨_,k,k,(bO (bL k2) (bT k<|fK k<|bD k<|bD k<|aV) k4)⟩;refine aE<|tn<|sQ<|aG<|sR<|fp k8<|lp k8<|am k k<|fp k8<|lp k8<|ae (eZ k k) k<|am k k<|ae (bF k k) k<|oB h λv23 hv23 h=>ae (xo hv23 k) k<|ae (wp hv23 k) k<|aT k2<|sR<|aT k2<|aG<|oB h λy30 hy30 h=>bY (body:=(jC a0 v1 v23 x1 x5)) hy30 (λ(x6:((List Int)×Int))=>mN [(0,.int a0),(4,.ptr 0 0 0),(6,.ptr 1 0 0),(7,.own 3 0 x1.2.2.1.length),(8,.int x1.2.2.2),(9,.int x1.1),(16,.int x5.2),(17,.int v23),(18,.int x6.2)] [(0,⟨3,[fV]⟩),(1,⟨3,[[.int v1.rows,.int v1.cols,.own 2 0 x6.1.length]]⟩),(2,⟨1,x6.1.map (ow eI)⟩),(3,⟨1,x1.2.2.1.map (ow eI)⟩)] 4) (λr e t=>e= .exit 10∧Ent t (mN [(0,.int a0),(4,.ptr 0 0 0),(6,.ptr 1 0 0),(7,.own 3 0 x1.2.2.1.length),(8,.int x1.2.2.2),(9,.int x1.1),(16,.int x5.2)] [(0,⟨3,[fV]⟩),(1,⟨3,[[.int v1.rows,.int v1.cols,.own 2 0 r.length]]⟩),(2,⟨1,r.map (ow eI)⟩),(3,⟨1,x1.2.2.1.map (ow eI)⟩)] 4)) (bO (bL k2) (bT k<|fK k<|bD k<|bD k<|aV) k4) ?_ ?_
      ·intro x6 o h;refine sQ<|sR<|am k k<|fp k8<|lp k8<|cm k4<|am k k<|oC h (λq24 h=>?_) λq24 h=>aM 162 k q24<|aK k4<|ak k k<|pk k3<|an<|tn<|vC k k<|bB<|aC<|aC<|sp h ⟨_,k,k,(bO (bL k2) (bT k<|fK k<|bD k<|bD k<|aV) k4)⟩;refine aM 162 k q24<|am k k<|am k k<|cm k4<|pk k3<|an<|tn<|cJ k h (λ_ h=>?_) λ_ h=>bB<|aC<|aC<|sp h ⟨_,k,k,(bO (bL k2) (bT k<|fK k<|bD k<|bD k<|aV) k4)⟩;refine aE<|tn<|sQ<|aG<|aS fF<|fp k8<|lp k8<|am k k<|fp k8<|lp k8<|ae (eZ k k) k<|am k k<|ae (bF k k) k<|am k k<|fp k8<|lp k8<|am k k<|fp k8<|lp k8<|ae (eZ k k) k<|am k k<|ae (bF k k) k<|oB h λv26 hv26 h=>ae (xo hv26 k) k<|ae (wp hv26 k) k<|am k k<|fp k8<|lp k8<|am k k<|fp k8 ?_;exact lp k8<|ae (eZ k k) k<|am k k<|ae (bF k k) k<|oB h λv27 hv27 h=>ae (xo hv27 k) k<|ae (wp hv27 k) k<|ae (eZ k k) k<|ae (qI k k) k<|oB h λv28 hv28 h=>ae (aL (iL a0 (wr (v26 - (wr (v23*v27)))) v28 hv28) k (cC k (cC k aJ))) k<|oB h λv29 hv29 h=>ae (xo hv29 k) k<|ae (gO aO pE (u:=v28) (dU hv29) k k k k k k) k<|an<|pA (by kernel_rfl)<|bC<|tn<|aR (t:=mN [(0,.int a0),(4,.ptr 0 0 0),(6,.ptr 1 0 0),(7,.own 3 0 x1.2.2.1.length),(8,.int x1.2.2.2),(9,.int x1.1),(16,.int x5.2),(17,.int v23),(18,.int x6.2)] [(0,⟨3,[fV]⟩),(1,⟨3,[[.int v1.rows,.int v1.cols,.own 2 0 ((x6.1.set ((wr ((wr (x5.2*v1.cols))+x6.2)).toNat) v28).length)]]⟩),(2,⟨1,List.map (ow eI) (x6.1.set ((wr ((wr (x5.2*v1.cols))+x6.2)).toNat) v28)⟩),(3,⟨1,x1.2.2.1.map (ow eI)⟩)] 4) (bO (bL k2) (bT k<|hX ⟨_,k,k,.inr ⟨_,_,k,⟨_,_,k,k,⟨_,_,k,k,⟨_,_,k,⟨k,k,(by simp only [aU,lA,lT,lR,lC,lN]),k⟩,k⟩⟩⟩,k⟩⟩ k<|bD k<|bD k<|aV) k4)<|rg<|am k k<|ae (bF k k) k<|aT k2<|sp h ⟨_,k,(bO (bL k2) (bT k<|fK k<|bD k<|bD k<|aV) k4)⟩
      ·rintro e t ⟨rfl,hent⟩;exact aP<|bC<|tn<|aR hent<|rg<|am k k<|ae (bF k k) k<|aT k2<|sp h ⟨_,k,(bO (bL k2) (bT k<|fK k<|bD k<|bD k<|aV) k4)⟩
     ·rintro e t ⟨rfl,hent⟩;exact aP<|tn<|aR hent<|sR<|am k k<|am k k<|ae (wl k) k<|cG h λq32 h=>ae (yV aO (l:=x1.2.2.1) (m:=[x1.1]) pE q32 k k k k k k k k k k k k) k<|aT k2<|rg<|am k k<|ae (bF k k) k<|aa k k<|an<|bC<|tn<|rg<|am k k<|ae (bF k k) k<|aT k2<|sp h ⟨_,k,(xF [0,1,2,5] (bL k2) (bT k<|fK k<|bD k<|bD k<|aV) k4)⟩
 ·rintro e t ⟨rfl,hent⟩;exact aP<|tn<|aR hent<|sR<|lp k8<|am k k<|ae (ws k) k<|aT k2<|aD<|sp h (bG k k k (dI k (bU (vN (aH (k) (aH (k) (aH (cU bH k k) fY)))) (bU (mB (cU bH k k)) gL))))
def uE (a0:Int) (a1:Mt):Option (Mt×(List Int)×Bool):=
 (jW a0 a1).bind λv1=>
 bif !v1 then
 (some (((⟨0,0,[]⟩:Mt),([]:(List Int)),false)))
 else
 ((nO a0 a1).bind λv3=>
 some ((v3.1,v3.2,true)))
theorem aDb (a0:Int) (a1:Mt) (r:(Mt×(List Int)×Bool)) (h:uE a0 a1=some r):HasC Tryz.prog 272 [.int a0,.agg (eM a1)] (.tuple [.agg (eM r.1),.list 1 (r.2.1.map eI),.bl r.2.2]):=by
 exact hM [.cell 4 113,.tmp 5,.tmp 6] Tryz.func272 Tryz.ntmps272 k<|sR<|ae (wb k) k<|ae (cA aO k k) k<|aa k k<|aT k2<|sQ<|sR<|am k k<|lp k8<|oB h λv1 hv1 h=>ae (aL (vS a0 a1 v1 hv1) k (cC k (aI (dH k) aJ))) k<|ae (dE k) k<|an<|tn<|cJ k h (λ_ h=>sR<|ae (iJ aO k k k k k k) k<|ae (wl k) k<|ae (ws k) k<|aa k k<|aT k2<|aR (t:=mN [(4,.ptr 1 0 0),(5,.own 2 0 (([]:(List Int)).length)),(6,.bl false)] [(1,⟨3,[fV]⟩),(2,⟨1,List.map (ow eI) ([]:(List Int))⟩)] 3) (bO (wP 1 k2 (sO ⟨_,k,⟨k,k,(by simp only [aU,lA,lT,lR,lC,lN]),k⟩⟩ (bL k2))) (bT k<|bD k<|aV) k4)<|aD<|aB<|sp h (bG k k k (dI k (bU (vN (aH (k) (aH (k) (aH (k) fY)))) (bU (mB (cU bH k k)) (bU (k) gL)))))) λ_ h=>aE<|tn<|sR<|am k k<|lp k8<|oB h λv3 hv3 h=>ae (AEff.conv (sW (x:= .tuple [.agg [.int v3.1.rows,.int v3.1.cols,.own 2 0 (v3.1.cells.map eI).length],.own 3 0 (v3.2.map eI).length]) (nb:=[(2,⟨1,bX (v3.1.cells.map eI)⟩),(3,⟨1,bX (v3.2.map eI)⟩)]) (aAU a0 a1 v3 hv3) k (by rfl) k k (gP (bJ aV (bJ aV (bJ (bH.good _) vO))) (gP (bH.good _) yG)) (cC k (aI (dH k) aJ))) (v':= .tuple [.agg [.int v3.1.rows,.int v3.1.cols,.own 2 0 v3.1.cells.length],.own 3 0 v3.2.length]) (ed':=[(2,some ⟨1,v3.1.cells.map (ow eI)⟩),(3,some ⟨1,v3.2.map (ow eI)⟩)]) (by simp only [aU]) (vY (nb':=[(2,⟨1,v3.1.cells.map (ow eI)⟩),(3,⟨1,v3.2.map (ow eI)⟩)]) (by simp only [fP]))) k<|am k k<|ae (bZ k k (by intro _ h;cases h)) k<|ae (bZ k k (by intro _ h;cases h)) k<|ae (cA aO k k) k<|ae (ws k) k<|aT k2<|sR<|lp k8<|am k k<|ae (ws k) k<|aa k k<|aT k2<|aD<|sp h (bG k k k (dI k (bU (vN (aH (k) (aH (k) (aH (cU bH k k) fY)))) (bU (mB (cU bH k k)) (bU (k) gL)))))
def uP (a0:Int) (a1:Mt):Option Int:=
 (uE a0 a1).bind λv1=>
 bif !v1.2.2 then
 (some ((-1)))
 else
 (some (((v1.2.1.length:Nat):Int)))
theorem aGJ (a0:Int) (a1:Mt) (r:Int) (h:uP a0 a1=some r):HasC Tryz.prog 264 [.int a0,.agg (eM a1)] (.int r):=by
 exact hM [.tmp 4] Tryz.func264 Tryz.ntmps264 k<|sR<|ae (wb k) k<|aT k2<|sR<|am k k<|lp k8<|oB h λv1 hv1 h=>ae (AEff.conv (sW (x:= .tuple [.agg [.int v1.1.rows,.int v1.1.cols,.own 1 0 (v1.1.cells.map eI).length],.own 2 0 (v1.2.1.map eI).length,.bl v1.2.2]) (nb:=[(1,⟨1,bX (v1.1.cells.map eI)⟩),(2,⟨1,bX (v1.2.1.map eI)⟩)]) (aDb a0 a1 v1 hv1) k (by rfl) k k (gP (bJ aV (bJ aV (bJ (bH.good _) vO))) (gP (bH.good _) (gP aV yG))) (cC k (aI (dH k) aJ))) (v':= .tuple [.agg [.int v1.1.rows,.int v1.1.cols,.own 1 0 v1.1.cells.length],.own 2 0 v1.2.1.length,.bl v1.2.2]) (ed':=[(1,some ⟨1,v1.1.cells.map (ow eI)⟩),(2,some ⟨1,v1.2.1.map (ow eI)⟩)]) (by simp only [aU]) (vY (nb':=[(1,⟨1,v1.1.cells.map (ow eI)⟩),(2,⟨1,v1.2.1.map (ow eI)⟩)]) (by simp only [fP]))) k<|am k k<|ae (bZ k k (by intro _ h;cases h)) k<|ae (bZ k k (by intro _ h;cases h)) k<|ae (bZ k k (by intro _ h;cases h)) k<|ae (cA aO k k) k<|ae (ws k) k<|aa k k<|aT k2<|sQ<|sR<|am k k<|ae (dE k) k<|an<|tn<|cJ k h (λ_ h=>sR<|aT k2<|aD<|aB<|tW h k2) λ_ h=>aE<|tn<|sR<|am k k<|ae (dO aO k k k k) k<|aT k2<|aD<|tW h k2
def pO (a0:Int) (a1:Int):Option Int:=
 (jA a0).bind λv1=>
 bif !v1 then
 (some (0))
 else
 (bif !decide (a0=0) then
 (bif !decide (a0=0) then
 (some ((wr ((a1.tmod a0)+a0)).tmod a0))
 else none)
 else none)
theorem aDc (a0:Int) (a1:Int) (r:Int) (h:pO a0 a1=some r):HasC Tryz.prog 273 [.int a0,.int a1] (.int r):=by
 exact hM [.tmp 4] Tryz.func273 Tryz.ntmps273 k<|sR<|aT k2<|sQ<|sR<|am k k<|oB h λv1 hv1 h=>ae (aL (pH a0 v1 hv1) k (cC k aJ)) k<|ae (dE k) k<|an<|tn<|cJ k h (λ_ h=>sR<|aT k2<|aD<|aB<|tW h k2) λ_ h=>aE<|tn<|sR<|am k k<|am k k<|cG h λq4 h=>ae (aBY k k q4) k<|am k k<|ae (bF k k) k<|am k k<|cG h λq3 h=>ae (aBY k k q3) k<|aT k2<|aD<|tW h k2
def mV (a0:Int) (a1:Int) (a2:Int) (x1:(Int×Int)):Option ((Int×Int) ⊕ Int):=
 bif decide (x1.2<a2) then
 ((pO a0 a1).bind λv6=>
 bif !decide (a0=0) then
 (some (.inl ((wr (x1.1*v6)).tmod a0,wr (x1.2+1))))
 else none)
 else
 (some (.inr x1.1))
def qW (a0:Int) (a1:Int) (a2:Int):Option Int:=
 (jA a0).bind λv1=>
 bif !v1 then
 (some (0))
 else
 ((kX a2 0 1000).bind λv3=>
 bif !v3 then
 (some (0))
 else
 ((Lp (mV a0 a1 a2) (1,0)).bind λy8=>
 some (y8)))
theorem aEH (a0:Int) (a1:Int) (a2:Int) (r:Int) (h:qW a0 a1 a2=some r):HasC Tryz.prog 265 [.int a0,.int a1,.int a2] (.int r):=by
 refine hM [.tmp 6] Tryz.func265 Tryz.ntmps265 k<|sR<|aT k2<|sQ<|sR<|am k k<|oB h λv1 hv1 h=>ae (aL (pH a0 v1 hv1) k (cC k aJ)) k<|ae (dE k) k<|am k k<|oC h (λq2 h=>aM 11 k q2<|aK k4<|ak k k<|pk k3<|an<|tn<|dT k k<|sR<|aT k2<|aD<|aB<|tW h k2) λq2 h=>?_;refine aM 11 k q2<|am k k<|oB h λv3 hv3 h=>ae (aL (qN a2 0 1000 v3 hv3) k (cC k (cC k (cC k aJ)))) k<|ae (dE k) k<|pk k3<|an<|tn<|cJ k h (λ_ h=>sR<|aT k2<|aD<|aB<|tW h k2) λ_ h=>?_;refine aE<|tn<|sR<|aT k2<|sQ<|sR<|am k k<|am k k<|an<|tn<|aG<|oB h λy8 hy8 h=>bY (body:=(mV a0 a1 a2)) hy8 (λ(x1:(Int×Int))=>mN [(0,.int a0),(1,.int a1),(7,.int x1.1),(16,.int a2),(17,.int x1.2)] [] 0) (λr e t=>e= .exit 0∧Ent t (mN [(7,.int r)] [] 0)) (bO (bL k2) aV k4) ?_ ?_
 ·intro x1 o h;exact sR<|cm k4<|an<|tn<|sQ<|cJ k h (λ_ h=>aE<|tn<|sQ<|aG<|rg<|am k k<|am k k<|am k k<|oB h λv6 hv6 h=>ae (aL (aDc a0 a1 v6 hv6) k (cC k (cC k aJ))) k<|ae (eZ k k) k<|am k k<|cG h λq7 h=>ae (aBY k k q7) k<|aa k k<|an<|bC<|tn<|rg<|ae (bF k k) k<|am k k<|an<|tn<|sp h ⟨_,k,(bO (bL k2) aV k4)⟩) λ_ h=>bB<|aC<|aC<|sp h ⟨_,k,k,(bO (bL k2) aV k4)⟩
 ·rintro e t ⟨rfl,hent⟩;exact aP<|tn<|aR hent<|sR<|am k k<|aT k2<|aD<|tW h k2
def oF (a0:Int) (a1:Int):Option Int:=
 (jA a0).bind λv1=>
 bif !v1 then
 (some (0))
 else
 ((qW a0 a1 (max (wr (a0 - 2)) 1)).bind λv3=>
 some (v3))
theorem aCd (a0:Int) (a1:Int) (r:Int) (h:oF a0 a1=some r):HasC Tryz.prog 243 [.int a0,.int a1] (.int r):=by
 exact hM [.tmp 4] Tryz.func243 Tryz.ntmps243 k<|sR<|aT k2<|sQ<|sR<|am k k<|oB h λv1 hv1 h=>ae (aL (pH a0 v1 hv1) k (cC k aJ)) k<|ae (dE k) k<|an<|tn<|cJ k h (λ_ h=>sR<|aT k2<|aD<|aB<|tW h k2) λ_ h=>aE<|tn<|sR<|am k k<|am k k<|am k k<|ae (qI k k) k<|ae (aPl k k) k<|oB h λv3 hv3 h=>ae (aL (aEH a0 a1 (max (wr (a0 - 2)) 1) v3 hv3) k (cC k (cC k (cC k aJ)))) k<|aT k2<|aD<|tW h k2
def gA (a0:(List Int)) (a1:Int) (x1:Int):Option (Int ⊕ (Unit ⊕ Int)):=
 bif decide (x1<(a0.length:Int)) then
 ((dF a0 x1).bind λv2=>
 bif decide (a1=v2) then
 (some (.inr (.inr (x1))))
 else
 (some (.inl (wr (x1+1)))))
 else
 (some (.inr (.inl ())))
def mD (a0:(List Int)) (a1:Int):Option Int:=
 (Lp (gA a0 a1) 0).bind λy4=>
 Sum.elim (λy5=>
 some ((-1))
 )
 (λy6=>
 some y6
 )
 y4
theorem zB (a0:(List Int)) (a1:Int) (r:Int) (h:mD a0 a1=some r):HasC Tryz.prog 237 [.list 1 (a0.map eI),.int a1] (.int r):=by
 refine hM [.tmp 4] Tryz.func237 Tryz.ntmps237 k<|sR<|aT k2<|sQ<|sR<|am k k<|ln k4<|am k k<|an<|tn<|aG<|oB h λy4 hy4 h=>bY (body:=(gA a0 a1)) hy4 (λ(x1:Int)=>mN [(0,.list 1 (a0.map eI)),(1,.int a1),(7,.int (a0.length:Int)),(8,.int x1)] [] 0) (λr e t=>Sum.elim (λa=>(λr e t=>e= .exit 0∧Ent t (mN [] [] 0)) a e t) (λb=>(λr e t=>e= .ret∧nL TT [.tmp 4] (.int r) .ret t) b e t) r) (bO (bL k2) aV k4) ?_ ?_
 ·intro x1 o h;exact sR<|cm k4<|an<|tn<|sQ<|cJ k h (λ_ h=>aE<|tn<|sQ<|aG<|sR<|am k k<|aT k2<|sR<|am k k<|am k k<|am k k<|oB h λv2 hv2 h=>ae (xl hv2 k) k<|lr k7<|cm k4<|an<|tn<|cJ k h (λ_ h=>sR<|am k k<|aT k2<|aD<|bA<|aB<|aB<|sp h ⟨_,k,k,bG k k k (jT k)⟩) λ_ h=>aE<|bC<|tn<|rg<|ae (bF k k) k<|am k k<|an<|tn<|sp h ⟨_,k,(bO (bL k2) aV k4)⟩) λ_ h=>bB<|aC<|aC<|sp h ⟨_,k,k,(bO aV aV k4)⟩
 ·intro e t hX;rcases y4 with y5|y6
  ·obtain ⟨rfl,hent⟩:=hX;exact aP<|tn<|aR hent<|sR<|aT k2<|aD<|tW h k2
  ·obtain ⟨rfl,hent⟩:=hX;exact bA<|aB<|sp h hent
def gB (a0:(List Int)) (a1:Int):Option Bool:=
 (mD a0 a1).bind λv1=>
 some (decide (0≤v1))
theorem xB (a0:(List Int)) (a1:Int) (r:Bool) (h:gB a0 a1=some r):HasC Tryz.prog 208 [.list 1 (a0.map eI),.int a1] (.bl r):=by
 exact hM [.tmp 4] Tryz.func208 Tryz.ntmps208 k<|sR<|aT k2<|sR<|am k k<|am k k<|oB h λv1 hv1 h=>ae (aL (zB a0 a1 v1 hv1) k (cC k (cC k aJ))) k<|cm k4<|aT k2<|aD<|dY h k2
def jK (a0:Int) (a1:(List Int)) (x1:((List Int)×Int)):Option (((List Int)×Int) ⊕ (List Int)):=
 bif decide (x1.2<a0) then
 ((gB a1 x1.2).bind λv2=>
 bif !v2 then
 (bif decide (x1.1.length+[x1.2].length ≤4294967296) then
 (some (.inl ((x1.1++[x1.2]),wr (x1.2+1))))
 else none)
 else
 (some (.inl (x1.1,wr (x1.2+1)))))
 else
 (some (.inr x1.1))
def mW (a0:Int) (a1:(List Int)):Option (List Int):=
 (Lp (jK a0 a1) ([],0)).bind λy5=>
 some (y5)
theorem aBs (a0:Int) (a1:(List Int)) (r:(List Int)) (h:mW a0 a1=some r):HasC Tryz.prog 152 [.int a0,.list 1 (a1.map eI)] (.list 1 (r.map eI)):=by
 refine hM [.tmp 4] Tryz.func152 Tryz.ntmps152 k<|sR<|aT k2<|sR<|aT k2<|sQ<|sR<|am k k<|am k k<|an<|tn<|aG<|oB h λy5 hy5 h=>bY (body:=(jK a0 a1)) hy5 (λ(x1:((List Int)×Int))=>mN [(1,.list 1 (a1.map eI)),(5,.own 0 0 x1.1.length),(7,.int a0),(8,.int x1.2)] [(0,⟨1,x1.1.map (ow eI)⟩)] 1) (λr e t=>e= .exit 0∧Ent t (mN [(5,.own 0 0 r.length)] [(0,⟨1,r.map (ow eI)⟩)] 1)) (iC (σ:=sg []) (wP 1 k2 (sO ⟨_,k,⟨k,k,k,k⟩⟩ (bL k2))) (hX k k<|aV) k) ?_ ?_
 ·intro x1 o h;exact sR<|cm k4<|an<|tn<|sQ<|cJ k h (λ_ h=>aE<|tn<|sQ<|aG<|sR<|am k k<|aT k2<|sR<|am k k<|am k k<|oB h λv2 hv2 h=>ae (aL (xB a1 x1.2 v2 hv2) k (cC k (cC k aJ))) k<|ae (dE k) k<|an<|tn<|cJ k h (λ_ h=>rg<|am k k<|am k k<|ae (wl k) k<|cG h λq4 h=>ae (yV aO (l:=x1.1) (m:=[x1.2]) pE q4 k k k k k k k k k k k k) k<|aa k k<|an<|bC<|tn<|rg<|ae (bF k k) k<|am k k<|an<|tn<|sp h ⟨_,k,(xF [2] (bL k2) (bD k<|aV) k4)⟩) λ_ h=>aE<|bC<|tn<|rg<|ae (bF k k) k<|am k k<|an<|tn<|sp h ⟨_,k,(bO (bL k2) (bD k<|aV) k4)⟩) λ_ h=>bB<|aC<|aC<|sp h ⟨_,k,k,(bO (bL k2) (bD k<|aV) k4)⟩
 ·rintro e t ⟨rfl,hent⟩;exact aP<|tn<|aR hent<|sR<|am k k<|aT k2<|aD<|sp h (bG k k k (hO (cU bH k k)))
def hY (a1:(List Int)) (x1:(Int×Int)):Option ((Int×Int) ⊕ (Int ⊕ Bool)):=
 bif decide (x1.2<(a1.length:Int)) then
 ((dF a1 x1.2).bind λv5=>
 (kB v5 0 4).bind λv6=>
 bif !v6 then
 (some (.inr (.inr (false))))
 else
 ((dF a1 x1.2).bind λv8=>
 some (.inl (wr (x1.1+v8),wr (x1.2+1)))))
 else
 (some (.inr (.inl x1.1)))
def tC (a0:Qv) (a1:(List Int)):Option Bool:=
 (qU a0).bind λv1=>
 bif !v1 then
 (some (false))
 else
 (bif !decide ((a1.length:Int)=a0.n) then
 (some (false))
 else
 ((Lp (hY a1) (0,0)).bind λy9=>
 Sum.elim (λy10=>
 some (decide (y10≤8))
 )
 (λy11=>
 some y11
 )
 y9))
theorem aFc (a0:Qv) (a1:(List Int)) (r:Bool) (h:tC a0 a1=some r):HasC Tryz.prog 162 [.agg (eQ a0),.list 1 (a1.map eI)] (.bl r):=by
 refine hM [.tmp 4] Tryz.func162 Tryz.ntmps162 k<|sR<|ae (wb k) k<|aT k2<|sQ<|sR<|lp k8<|oB h λv1 hv1 h=>ae (aL (aEF a0 v1 hv1) k (aI (dH k) aJ)) k<|ae (dE k) k<|am k k<|oC h (λq2 h=>aM 10 k q2<|aK k4<|aK k4<|ak k k<|pk k3<|an<|tn<|dT k k<|sR<|aT k2<|aD<|aB<|dY h k2) λq2 h=>?_;refine aM 10 k q2<|am k k<|ln k4<|fp k8<|lp k8<|cm k4<|pk k3<|an<|tn<|cJ k h (λ_ h=>sR<|aT k2<|aD<|aB<|dY h k2) λ_ h=>?_;refine aE<|tn<|sR<|aT k2<|sQ<|sR<|aT k2<|aG<|oB h λy9 hy9 h=>bY (body:=(hY a1)) hy9 (λ(x1:(Int×Int))=>mN [(1,.list 1 (a1.map eI)),(5,.int x1.1),(6,.int x1.2)] [] 0) (λr e t=>Sum.elim (λa=>(λr e t=>e= .exit 0∧Ent t (mN [(5,.int r)] [] 0)) a e t) (λb=>(λr e t=>e= .ret∧nL TT [.tmp 4] (.bl r) .ret t) b e t) r) (bO (bL k2) aV k4) ?_ ?_
 ·intro x1 o h;exact sQ<|sR<|am k k<|am k k<|ln k4<|cm k4<|an<|tn<|cJ k h (λ_ h=>aE<|tn<|sQ<|aG<|sQ<|sR<|am k k<|am k k<|oB h λv5 hv5 h=>ae (xl hv5 k) k<|lr k7<|oB h λv6 hv6 h=>ae (aL (pF v5 0 4 v6 hv6) k (cC k (cC k (cC k aJ)))) k<|ae (dE k) k<|an<|tn<|cJ k h (λ_ h=>sR<|aT k2<|aD<|aB<|bA<|aB<|aB<|sp h ⟨_,k,k,bG k k k (nM k)⟩) λ_ h=>aE<|tn<|rg<|am k k<|am k k<|am k k<|oB h λv8 hv8 h=>ae (xl hv8 k) k<|lr k7<|ae (bF k k) k<|aa k k<|an<|bC<|tn<|rg<|am k k<|ae (bF k k) k<|aT k2<|sp h ⟨_,k,(bO (bL k2) aV k4)⟩) λ_ h=>bB<|aC<|aC<|sp h ⟨_,k,k,(bO (bL k2) aV k4)⟩
 ·intro e t hX;rcases y9 with y10|y11
  ·obtain ⟨rfl,hent⟩:=hX;exact aP<|tn<|aR hent<|sR<|am k k<|cm k4<|aT k2<|aD<|dY h k2
  ·obtain ⟨rfl,hent⟩:=hX;exact bA<|aB<|sp h hent
def qX (a0:Rp) (x1:Int):Option (Int ⊕ (Unit ⊕ Bool)):=
 bif decide (x1<(a0.maps.length:Int)) then
 ((dF a0.maps x1).bind λv7=>
 (jW a0.p v7).bind λv8=>
 bif !v8 then
 (some (.inr (.inr (false))))
 else
 ((dF a0.maps x1).bind λv10=>
 (dF a0.q.src x1).bind λv11=>
 (dF a0.dims v11).bind λv12=>
 bif !decide (v10.cols=v12) then
 (some (.inr (.inr (false))))
 else
 ((dF a0.maps x1).bind λv14=>
 (dF a0.q.tgt x1).bind λv15=>
 (dF a0.dims v15).bind λv16=>
 bif !decide (v14.rows=v16) then
 (some (.inr (.inr (false))))
 else
 (some (.inl (wr (x1+1)))))))
 else
 (some (.inr (.inl ())))
def tD (a0:Rp):Option Bool:=
 (pG a0.p).bind λv1=>
 bif !v1 then
 (some (false))
 else
 ((tC a0.q a0.dims).bind λv3=>
 bif !v3 then
 (some (false))
 else
 (bif !decide ((a0.maps.length:Int)=(a0.q.src.length:Int)) then
 (some (false))
 else
 ((Lp (qX a0) 0).bind λy18=>
 Sum.elim (λy19=>
 some (true)
 )
 (λy20=>
 some y20
 )
 y18)))
theorem aCe (a0:Rp) (r:Bool) (h:tD a0=some r):HasC Tryz.prog 110 [.agg (eR a0)] (.bl r):=by
 refine hM [.tmp 2] Tryz.func110 Tryz.ntmps110 k<|sR<|ae (wb k) k<|aT k2<|sQ<|sR<|fp k8<|lp k8<|oB h λv1 hv1 h=>ae (aL (xA a0.p v1 hv1) k (cC k aJ)) k<|ae (dE k) k<|am k k<|oC h (λq2 h=>aM 8 k q2<|aK k4<|aK k4<|aK k4<|pk k3<|am k k<|aK k4<|aK k4<|aK k4<|aK k4<|pk k3<|an<|tn<|aR (t:=mN [(1,.ptr 0 0 0),(25,.bl true)] [(0,⟨6,[eR a0]⟩)] 1) (bO (bL k2) (bT k<|aV) k4)<|dT k k<|sR<|aT k2<|aD<|aB<|dY h k2) λq2 h=>?_;refine aM 8 k q2<|fp k8<|lp k8<|fp k8<|lp k8<|oB h λv3 hv3 h=>ae (aL (aFc a0.q a0.dims v3 hv3) k (aI (dH k) (cC k aJ))) k<|ae (dE k) k<|pk k3<|am k k<|oC h (λq4 h=>aM 16 k q4<|aK k4<|aK k4<|aK k4<|aK k4<|pk k3<|an<|tn<|aR (t:=mN [(1,.ptr 0 0 0),(25,.bl true)] [(0,⟨6,[eR a0]⟩)] 1) (bO (bL k2) (bT k<|aV) k4)<|dT k k<|sR<|aT k2<|aD<|aB<|dY h k2) λq4 h=>?_;refine aM 16 k q4<|fp k8<|lp k8<|ln k4<|fp k8<|fp k8<|lp k8<|ln k4<|cm k4<|pk k3<|an<|tn<|aR (t:=mN [(1,.ptr 0 0 0),(25,.bl (!decide ((a0.maps.length:Int)=(a0.q.src.length:Int))))] [(0,⟨6,[eR a0]⟩)] 1) (bO (bL k2) (bT k<|aV) k4)<|cJ k h (λ_ h=>sR<|aT k2<|aD<|aB<|dY h k2) λ_ h=>?_;refine aE<|tn<|sQ<|sR<|aT k2<|aG<|oB h λy18 hy18 h=>bY (body:=(qX a0)) hy18 (λ(x1:Int)=>mN [(1,.ptr 0 0 0),(3,.int x1)] [(0,⟨6,[eR a0]⟩)] 1) (λr e t=>Sum.elim (λa=>(λr e t=>e= .exit 0∧Ent t (mN [] [] 0)) a e t) (λb=>(λr e t=>e= .ret∧nL TT [.tmp 2] (.bl r) .ret t) b e t) r) (bO (bL k2) (bT k<|aV) k4) ?_ ?_
 ·intro x1 o h;refine sQ<|sR<|am k k<|fp k8<|lp k8<|ln k4<|cm k4<|an<|tn<|cJ k h (λ_ h=>?_) λ_ h=>bB<|aC<|aC<|sp h ⟨_,k,k,(bO aV aV k4)⟩;refine aE<|tn<|sQ<|aG<|sQ<|aS fF<|fp k8<|lp k8<|fp k8<|lp k8<|am k k<|oB h λv7 hv7 h=>ae (xl hv7 k) k<|lr k7<|oB h λv8 hv8 h=>ae (aL (vS a0.p v7 v8 hv8) k (cC k (aI (dH k) aJ))) k<|ae (dE k) k<|am k k<|oC h (λq9 h=>?_) λq9 h=>?_
  ·refine aM 42 k q9<|aK k4<|aK k4<|aK k4<|aK k4<|aK k4<|aK k4<|aK k4<|aK k4<|ak k k<|pk k3<|am k k<|aK k4<|aK k4<|aK k4<|aK k4<|aK k4 ?_;exact aK k4<|aK k4<|aK k4<|ak k k<|pk k3<|an<|pA (by kernel_rfl)<|tn<|aR (t:=mN [(1,.ptr 0 0 0),(3,.int x1),(79,.bl true)] [(0,⟨6,[eR a0]⟩)] 1) (bO (bL k2) (bT k<|aV) k4)<|dT k k<|sR<|aT k2<|aD<|bA<|aB<|aB<|sp h ⟨_,k,k,bG k k k (nM k)⟩
  ·refine aM 42 k q9<|fp k8<|lp k8<|am k k<|oB h λv10 hv10 h=>ae (xl hv10 k) k<|ae (cO aO k k k k k k) k<|lr k7<|fp k8<|lp k8<|fp k8<|fp k8<|lp k8<|am k k<|oB h λv11 hv11 h=>ae (xl hv11 k) k<|lr k7<|oB h λv12 hv12 h=>ae (xl hv12 k) k<|lr k7<|cm k4<|pk k3<|am k k<|oC h (λq13 h=>?_) λq13 h=>aM 61 k q13<|fp k8<|lp k8<|am k k<|oB h λv14 hv14 h=>ae (xl hv14 k) k<|ae (cO aO k k k k k k) k<|lr k7<|fp k8<|lp k8<|fp k8<|fp k8<|lp k8<|am k k<|oB h λv15 hv15 h=>ae (xl hv15 k) k<|lr k7<|oB h λv16 hv16 h=>ae (xl hv16 k) k<|lr k7<|cm k4<|pk k3<|an<|pA (by kernel_rfl)<|tn<|aR (t:=mN [(1,.ptr 0 0 0),(3,.int x1),(79,.bl (!decide (v14.rows=v16)))] [(0,⟨6,[eR a0]⟩)] 1) (bO (bL k2) (bT k<|aV) k4)<|cJ k h (λ_ h=>sR<|aT k2<|aD<|bA<|aB<|aB<|sp h ⟨_,k,k,bG k k k (nM k)⟩) λ_ h=>aE<|bC<|tn<|rg<|am k k<|ae (bF k k) k<|aT k2<|sp h ⟨_,k,(bO (bL k2) (bT k<|aV) k4)⟩;refine aM 61 k q13<|aK k4<|aK k4<|aK k4<|aK k4<|aK k4<|aK k4<|aK k4<|aK k4<|ak k k<|pk k3<|an<|pA (by kernel_rfl)<|tn<|aR (t:=mN [(1,.ptr 0 0 0),(3,.int x1),(79,.bl true)] [(0,⟨6,[eR a0]⟩)] 1) (bO (bL k2) (bT k<|aV) k4)<|dT k k<|sR<|aT k2<|aD ?_;exact bA<|aB<|aB<|sp h ⟨_,k,k,bG k k k (nM k)⟩
 ·intro e t hX;rcases y18 with y19|y20
  ·obtain ⟨rfl,hent⟩:=hX;exact aP<|tn<|aR hent<|sR<|aT k2<|aD<|dY h k2
  ·obtain ⟨rfl,hent⟩:=hX;exact bA<|aB<|sp h hent
def lH (a0:Qv) (a1:Qv):Option Bool:=
 bif decide (a0.n=a1.n) then
 ((iV a0.src a1.src).bind λv2=>
 bif v2 then
 ((iV a0.tgt a1.tgt).bind λv4=>
 some (v4))
 else
 (some (false)))
 else
 (some (false))
theorem aBP (a0:Qv) (a1:Qv) (r:Bool) (h:lH a0 a1=some r):HasC Tryz.prog 111 [.agg (eQ a0),.agg (eQ a1)] (.bl r):=by
 exact hM [.tmp 4] Tryz.func111 Tryz.ntmps111 k<|sR<|ae (wb k) k<|ae (wb k) k<|aT k2<|sR<|fp k8<|lp k8<|fp k8<|lp k8<|cm k4<|am k k<|oC h (λq1 h=>aM 10 k q1<|fp k8<|lp k8<|fp k8<|lp k8<|oB h λv2 hv2 h=>ae (aL (nS a0.src a1.src v2 hv2) k (cC k (cC k aJ))) k<|pk k3<|am k k<|oC h (λq3 h=>aM 17 k q3<|fp k8<|lp k8<|fp k8<|lp k8<|oB h λv4 hv4 h=>ae (aL (nS a0.tgt a1.tgt v4 hv4) k (cC k (cC k aJ))) k<|pk k3<|aT k2<|aD<|dY h k2) λq3 h=>aM 17 k q3<|aK k4<|aK k4<|ak k k<|pk k3<|aT k2<|aD<|dY h k2) λq1 h=>aM 10 k q1<|aK k4<|aK k4<|ak k k<|pk k3<|am k k<|aK k4<|aK k4<|ak k k<|pk k3<|aT k2<|aD<|dY h k2
def lI (a0:Qv) (a1:Qv):Option Bool:=
 bif decide (a0.n=a1.n) then
 ((dD a0.src a1.src).bind λv2=>
 bif v2 then
 ((dD a0.tgt a1.tgt).bind λv4=>
 some (v4))
 else
 (some (false)))
 else
 (some (false))
theorem aBQ (a0:Qv) (a1:Qv) (r:Bool) (h:lI a0 a1=some r):HasC Tryz.prog 117 [.agg (eQ a0),.agg (eQ a1)] (.bl r):=by
 exact hM [.tmp 4] Tryz.func117 Tryz.ntmps117 k<|sR<|ae (wb k) k<|ae (wb k) k<|aT k2<|sR<|fp k8<|lp k8<|fp k8<|lp k8<|cm k4<|am k k<|oC h (λq1 h=>aM 10 k q1<|fp k8<|lp k8<|fp k8<|lp k8<|oB h λv2 hv2 h=>ae (aL (eK a0.src a1.src v2 hv2) k (cC k (cC k aJ))) k<|pk k3<|am k k<|oC h (λq3 h=>aM 17 k q3<|fp k8<|lp k8<|fp k8<|lp k8<|oB h λv4 hv4 h=>ae (aL (eK a0.tgt a1.tgt v4 hv4) k (cC k (cC k aJ))) k<|pk k3<|aT k2<|aD<|dY h k2) λq3 h=>aM 17 k q3<|aK k4<|aK k4<|ak k k<|pk k3<|aT k2<|aD<|dY h k2) λq1 h=>aM 10 k q1<|aK k4<|aK k4<|ak k k<|pk k3<|am k k<|aK k4<|aK k4<|ak k k<|pk k3<|aT k2<|aD<|dY h k2
def hZ (a0:Mt) (a1:Mt) (x1:Int):Option (Int ⊕ (Unit ⊕ Bool)):=
 bif decide (x1<(a0.cells.length:Int)) then
 ((dF a0.cells x1).bind λv5=>
 (dF a1.cells x1).bind λv6=>
 bif !decide (v5=v6) then
 (some (.inr (.inr (false))))
 else
 (some (.inl (wr (x1+1)))))
 else
 (some (.inr (.inl ())))
def kI (a0:Mt) (a1:Mt):Option Bool:=
 bif !decide (a0.rows=a1.rows) then
 (some (false))
 else
 (bif !decide (a0.cols=a1.cols) then
 (some (false))
 else
 (bif !decide ((a0.cells.length:Int)=(a1.cells.length:Int)) then
 (some (false))
 else
 ((Lp (hZ a0 a1) 0).bind λy8=>
 Sum.elim (λy9=>
 some (true)
 )
 (λy10=>
 some y10
 )
 y8)))
theorem aAk (a0:Mt) (a1:Mt) (r:Bool) (h:kI a0 a1=some r):HasC Tryz.prog 263 [.agg (eM a0),.agg (eM a1)] (.bl r):=by
 refine hM [.tmp 4] Tryz.func263 Tryz.ntmps263 k<|sR<|ae (wb k) k<|ae (wb k) k<|aT k2<|sQ<|sR<|fp k8<|lp k8<|fp k8<|lp k8<|cm k4<|am k k<|oC h (λq1 h=>aM 11 k q1<|aK k4<|aK k4<|ak k k<|pk k3<|am k k<|aK k4<|aK k4<|aK k4<|ak k k<|pk k3<|an<|tn<|aR (t:=mN [(2,.ptr 0 0 0),(3,.ptr 1 0 0),(26,.bl true)] [(0,⟨3,[eM a0]⟩),(1,⟨3,[eM a1]⟩)] 2) (bO (bL k2) (bT k<|bT k<|aV) k4)<|dT k k<|sR<|aT k2<|aD<|aB<|dY h k2) λq1 h=>?_;refine aM 11 k q1<|fp k8<|lp k8<|fp k8<|lp k8<|cm k4<|pk k3<|am k k<|oC h (λq2 h=>aM 18 k q2<|aK k4<|aK k4<|aK k4<|ak k k<|pk k3<|an<|tn<|aR (t:=mN [(2,.ptr 0 0 0),(3,.ptr 1 0 0),(26,.bl true)] [(0,⟨3,[eM a0]⟩),(1,⟨3,[eM a1]⟩)] 2) (bO (bL k2) (bT k<|bT k<|aV) k4)<|dT k k<|sR<|aT k2<|aD<|aB<|dY h k2) λq2 h=>?_;refine aM 18 k q2<|fp k8<|lp k8<|ln k4<|fp k8<|lp k8<|ln k4<|cm k4<|pk k3<|an<|tn<|aR (t:=mN [(2,.ptr 0 0 0),(3,.ptr 1 0 0),(26,.bl (!decide ((a0.cells.length:Int)=(a1.cells.length:Int))))] [(0,⟨3,[eM a0]⟩),(1,⟨3,[eM a1]⟩)] 2) (bO (bL k2) (bT k<|bT k<|aV) k4)<|cJ k h (λ_ h=>sR<|aT k2<|aD<|aB<|dY h k2) λ_ h=>?_;refine aE<|tn<|sQ<|sR<|aT k2<|aG<|oB h λy8 hy8 h=>bY (body:=(hZ a0 a1)) hy8 (λ(x1:Int)=>mN [(2,.ptr 0 0 0),(3,.ptr 1 0 0),(5,.int x1)] [(0,⟨3,[eM a0]⟩),(1,⟨3,[eM a1]⟩)] 2) (λr e t=>Sum.elim (λa=>(λr e t=>e= .exit 0∧Ent t (mN [] [] 0)) a e t) (λb=>(λr e t=>e= .ret∧nL TT [.tmp 4] (.bl r) .ret t) b e t) r) (bO (bL k2) (bT k<|bT k<|aV) k4) ?_ ?_
 ·intro x1 o h;exact sQ<|sR<|am k k<|fp k8<|lp k8<|ln k4<|cm k4<|an<|tn<|cJ k h (λ_ h=>aE<|tn<|sQ<|aG<|sQ<|aS fF<|fp k8<|lp k8<|am k k<|oB h λv5 hv5 h=>ae (xl hv5 k) k<|lr k7<|fp k8<|lp k8<|am k k<|oB h λv6 hv6 h=>ae (xl hv6 k) k<|lr k7<|cm k4<|an<|pA (by kernel_rfl)<|tn<|cJ k h (λ_ h=>sR<|aT k2<|aD<|bA<|aB<|aB<|sp h ⟨_,k,k,bG k k k (nM k)⟩) λ_ h=>aE<|bC<|tn<|rg<|am k k<|ae (bF k k) k<|aT k2<|sp h ⟨_,k,(bO (bL k2) (bT k<|bT k<|aV) k4)⟩) λ_ h=>bB<|aC<|aC<|sp h ⟨_,k,k,(bO aV aV k4)⟩
 ·intro e t hX;rcases y8 with y9|y10
  ·obtain ⟨rfl,hent⟩:=hX;exact aP<|tn<|aR hent<|sR<|aT k2<|aD<|dY h k2
  ·obtain ⟨rfl,hent⟩:=hX;exact bA<|aB<|sp h hent
def iM (a0:Rp) (a1:Rp):Option Bool:=
 (tD a0).bind λv1=>
 bif v1 then
 ((tD a1).bind λv3=>
 bif v3 then
 (bif decide (a0.p=a1.p) then
 ((lH a0.q a1.q).bind λv6=>
 some (v6))
 else
 (some (false)))
 else
 (some (false)))
 else
 (some (false))
theorem wF (a0:Rp) (a1:Rp) (r:Bool) (h:iM a0 a1=some r):HasC Tryz.prog 55 [.agg (eR a0),.agg (eR a1)] (.bl r):=by
 exact hM [.tmp 4] Tryz.func55 Tryz.ntmps55 k<|sR<|ae (wb k) k<|ae (wb k) k<|aT k2<|sR<|lp k8<|oB h λv1 hv1 h=>ae (aL (aCe a0 v1 hv1) k (aI (dH k) aJ)) k<|am k k<|oC h (λq2 h=>aM 7 k q2<|lp k8<|oB h λv3 hv3 h=>ae (aL (aCe a1 v3 hv3) k (aI (dH k) aJ)) k<|pk k3<|am k k<|oC h (λq4 h=>aM 11 k q4<|fp k8<|lp k8<|fp k8<|lp k8<|cm k4<|pk k3<|am k k<|oC h (λq5 h=>aM 18 k q5<|fp k8<|lp k8<|fp k8<|lp k8<|oB h λv6 hv6 h=>ae (aL (aBP a0.q a1.q v6 hv6) k (aI (dH k) (aI (dH k) aJ))) k<|pk k3<|aT k2<|aD<|dY h k2) λq5 h=>aM 18 k q5<|aK k4<|aK k4<|ak k k<|pk k3<|aT k2<|aD<|dY h k2) λq4 h=>aM 11 k q4<|aK k4<|aK k4<|ak k k<|pk k3<|am k k<|aK k4<|aK k4<|ak k k<|pk k3<|aT k2<|aD<|dY h k2) λq2 h=>aM 7 k q2<|aK k4<|pk k3<|am k k<|aK k4<|aK k4<|ak k k<|pk k3<|am k k<|aK k4<|aK k4<|ak k k<|pk k3<|aT k2<|aD<|dY h k2
end
noncomputable section
set_option maxRecDepth 10000
set_option maxHeartbeats 4000000
def eU (a0:(List Int)) (a1:(Int→Option Bool)) (x1:Int):Option (Int ⊕ (Unit ⊕ Int)):=
 bif decide (x1<(a0.length:Int)) then
 ((dF a0 x1).bind λv2=>
 (a1 v2).bind λv3=>
 bif v3 then
 (some (.inr (.inr (x1))))
 else
 (some (.inl (wr (x1+1)))))
 else
 (some (.inr (.inl ())))
def fT (a0:(List Int)) (a1:(Int→Option Bool)):Option Int:=
 (Lp (eU a0 a1) 0).bind λy5=>
 Sum.elim (λy6=>
 some ((-1))
 )
 (λy7=>
 some y7
 )
 y5
theorem wG (a0:(List Int)) (a1:(Int→Option Bool)) {f1:FuncId} {c1:List AV} (hc1:c1.all dS=true) (hf1: ∀ b0 r,a1 b0=some r→HasC Tryz.prog f1 ([.int b0]++c1) (.bl r)) (r:Int) (h:fT a0 a1=some r):HasC Tryz.prog 227 [.list 1 (a0.map eI),.fn f1 c1] (.int r):=by
 refine aEk aO (rvs:=[.tmp 4]) (ns:=nmA) Tryz.func227 k k Tryz.ntmps227 k k (aEo k (aEo hc1 aNA))<|sR<|aT k2<|sQ<|sR<|am k k<|ln k4<|am k k<|an<|tn<|aG<|oB h λy5 hy5 h=>bY (body:=(eU a0 a1)) hy5 (λ(x1:Int)=>mN [(0,.list 1 (a0.map eI)),(1,.fn f1 c1),(7,.int (a0.length:Int)),(8,.int x1)] [] 0) (λr e t=>Sum.elim (λa=>(λr e t=>e= .exit 0∧Ent t (mN [] [] 0)) a e t) (λb=>(λr e t=>e= .ret∧nL TT [.tmp 4] (.int r) .ret t) b e t) r) (bO (wP 1 k2 (sO ⟨_,k,⟨k,aGj _ hc1⟩⟩ (bL k2))) aV k4) ?_ ?_
 ·intro x1 o h;exact sR<|cm k4<|an<|tn<|sQ<|cJ k h (λ_ h=>aE<|tn<|sQ<|aG<|sR<|am k k<|aT k2<|sR<|am k k<|am k k<|am k k<|oB h λv2 hv2 h=>ae (xl hv2 k) k<|lr k7<|oB h λv3 hv3 h=>ae (aOF hc1 (hf1 v2 v3 hv3) k k (cC k aJ)) k<|an<|tn<|cJ k h (λ_ h=>sR<|am k k<|aT k2<|aD<|bA<|aB<|aB<|sp h ⟨_,k,k,bG k k k (jT k)⟩) λ_ h=>aE<|bC<|tn<|rg<|ae (bF k k) k<|am k k<|an<|tn<|sp h ⟨_,k,(bO (wP 1 k2 (sO ⟨_,k,⟨k,aGj _ hc1⟩⟩ (bL k2))) aV k4)⟩) λ_ h=>bB<|aC<|aC<|sp h ⟨_,k,k,(bO aV aV k4)⟩
 ·intro e t hX;rcases y5 with y6|y7
  ·obtain ⟨rfl,hent⟩:=hX;exact aP<|tn<|aR hent<|sR<|aT k2<|aD<|tW h k2
  ·obtain ⟨rfl,hent⟩:=hX;exact bA<|aB<|sp h hent
def gT (a0:(List Int)) (a1:(Int→Option Bool)):Option Bool:=
 (fT a0 a1).bind λv1=>
 some (decide (0≤v1))
theorem uF (a0:(List Int)) (a1:(Int→Option Bool)) {f1:FuncId} {c1:List AV} (hc1:c1.all dS=true) (hf1: ∀ b0 r,a1 b0=some r→HasC Tryz.prog f1 ([.int b0]++c1) (.bl r)) (r:Bool) (h:gT a0 a1=some r):HasC Tryz.prog 186 [.list 1 (a0.map eI),.fn f1 c1] (.bl r):=by
 exact aEk aO (rvs:=[.tmp 4]) (ns:=nmA) Tryz.func186 k k Tryz.ntmps186 k k (aEo k (aEo hc1 aNA))<|sR<|aT k2<|sR<|am k k<|am k k<|oB h λv1 hv1 h=>ae (aL (wG a0 a1 hc1 hf1 v1 hv1) k (cC k (aI (aPF hc1) aJ))) k<|cm k4<|aT k2<|aD<|dY h k2
def jD (a0:Int) (a1:Int) (a2:Int):Option Bool:=
 (kX a0 a1 a2).bind λv1=>
 some (!v1)
theorem aBt (a0:Int) (a1:Int) (a2:Int) (r:Bool) (h:jD a0 a1 a2=some r):HasC Tryz.prog 187 [.int a0,.ref (eI a1),.ref (eI a2)] (.bl r):=by
 exact hM [.tmp 4] Tryz.func187 Tryz.ntmps187 k<|sR<|aT k2<|sR<|am k k<|lr k7<|lr k7<|oB h λv1 hv1 h=>ae (aL (qN a0 a1 a2 v1 hv1) k (cC k (cC k (cC k aJ)))) k<|ae (dE k) k<|aT k2<|aD<|dY h k2
def gU (a0:(List Int)) (a1:Int) (a2:Int):Option Bool:=
 (gT a0 (λb0=>jD b0 a1 a2)).bind λv1=>
 some (!v1)
theorem pP (a0:(List Int)) (a1:Int) (a2:Int) (r:Bool) (h:gU a0 a1 a2=some r):HasC Tryz.prog 138 [.list 1 (a0.map eI),.int a1,.int a2] (.bl r):=by
 exact hM [.tmp 6] Tryz.func138 Tryz.ntmps138 k<|sR<|ae (wb k) k<|ae (wb k) k<|aT k2<|sR<|am k k<|ae (aHR (vs:=[.ptr 0 0 0,.ptr 1 0 0]) k (by simp)) k<|oB h λv1 hv1 h=>ae (aL (uF a0 (λb0=>jD b0 a1 a2) k (λb0 r h=>aBt b0 a1 a2 r h) v1 hv1) k (cC k (aI (aPj (aKm (aMo k k (aQ (cH k) vL)) (aKm (aMo k k (aQ (cH k) vL)) aOD))) aJ))) k<|ae (dE k) k<|aT k2<|aD<|dY h k2
def qY (a0:Int) (a1:(List Int)):Option Bool:=
 (jA a0).bind λv1=>
 bif v1 then
 (bif decide ((a1.length:Int)≤64) then
 ((gU a1 0 (wr (a0 - 1))).bind λv4=>
 some (v4))
 else
 (some (false)))
 else
 (some (false))
theorem aEI (a0:Int) (a1:(List Int)) (r:Bool) (h:qY a0 a1=some r):HasC Tryz.prog 204 [.int a0,.list 1 (a1.map eI)] (.bl r):=by
 exact hM [.tmp 4] Tryz.func204 Tryz.ntmps204 k<|sR<|aT k2<|sR<|am k k<|oB h λv1 hv1 h=>ae (aL (pH a0 v1 hv1) k (cC k aJ)) k<|am k k<|oC h (λq2 h=>aM 7 k q2<|am k k<|ln k4<|cm k4<|pk k3<|am k k<|oC h (λq3 h=>aM 12 k q3<|am k k<|am k k<|ae (qI k k) k<|oB h λv4 hv4 h=>ae (aL (pP a1 0 (wr (a0 - 1)) v4 hv4) k (cC k (cC k (cC k aJ)))) k<|pk k3<|aT k2<|aD<|dY h k2) λq3 h=>aM 12 k q3<|aK k4<|aK k4<|pk k3<|aT k2<|aD<|dY h k2) λq2 h=>aM 7 k q2<|aK k4<|ak k k<|pk k3<|am k k<|aK k4<|aK k4<|pk k3<|aT k2<|aD<|dY h k2
def qZ (a0:Int) (a1:Mt):Option Bool:=
 (kX a1.rows 0 8).bind λv1=>
 bif v1 then
 ((kX a1.cols 0 8).bind λv3=>
 bif v3 then
 (bif decide ((a1.cells.length:Int)=wr (a1.rows*a1.cols)) then
 ((qY a0 a1.cells).bind λv6=>
 some (v6))
 else
 (some (false)))
 else
 (some (false)))
 else
 (some (false))
theorem aEJ (a0:Int) (a1:Mt) (r:Bool) (h:qZ a0 a1=some r):HasC Tryz.prog 148 [.int a0,.agg (eM a1)] (.bl r):=by
 exact hM [.tmp 4] Tryz.func148 Tryz.ntmps148 k<|sR<|ae (wb k) k<|aT k2<|sR<|fp k8<|lp k8<|oB h λv1 hv1 h=>ae (aL (qN a1.rows 0 8 v1 hv1) k (cC k (cC k (cC k aJ)))) k<|am k k<|oC h (λq2 h=>aM 8 k q2<|fp k8<|lp k8<|oB h λv3 hv3 h=>ae (aL (qN a1.cols 0 8 v3 hv3) k (cC k (cC k (cC k aJ)))) k<|pk k3<|am k k<|oC h (λq4 h=>aM 13 k q4<|fp k8<|lp k8<|ln k4<|fp k8<|lp k8<|fp k8<|lp k8<|ae (eZ k k) k<|cm k4<|pk k3<|am k k<|oC h (λq5 h=>aM 24 k q5<|am k k<|fp k8<|lp k8<|oB h λv6 hv6 h=>ae (aL (aEI a0 a1.cells v6 hv6) k (cC k (cC k aJ))) k<|pk k3<|aT k2<|aD<|dY h k2) λq5 h=>aM 24 k q5<|aK k4<|aK k4<|pk k3<|aT k2<|aD<|dY h k2) λq4 h=>aM 13 k q4<|aK k4<|aK k4<|aK k4<|aK k4<|ak k k<|pk k3<|am k k<|aK k4<|aK k4<|pk k3<|aT k2<|aD<|dY h k2) λq2 h=>aM 8 k q2<|aK k4<|ak k k<|pk k3<|am k k<|aK k4<|aK k4<|aK k4<|aK k4<|ak k k<|pk k3<|am k k<|aK k4<|aK k4<|pk k3<|aT k2<|aD<|dY h k2
def rA (a0:Qv):Option Bool:=
 (kX a0.n 1 5).bind λv1=>
 bif v1 then
 (bif decide ((a0.src.length:Int)=(a0.tgt.length:Int)) then
 (bif decide ((a0.src.length:Int)≤6) then
 ((gU a0.src 0 (wr (a0.n - 1))).bind λv5=>
 bif v5 then
 ((gU a0.tgt 0 (wr (a0.n - 1))).bind λv7=>
 some (v7))
 else
 (some (false)))
 else
 (some (false)))
 else
 (some (false)))
 else
 (some (false))
theorem aEK (a0:Qv) (r:Bool) (h:rA a0=some r):HasC Tryz.prog 203 [.agg (eQ a0)] (.bl r):=by
 refine hM [.tmp 2] Tryz.func203 Tryz.ntmps203 k<|sR<|ae (wb k) k<|aT k2<|sR<|fp k8<|lp k8<|oB h λv1 hv1 h=>ae (aL (qN a0.n 1 5 v1 hv1) k (cC k (cC k (cC k aJ)))) k<|am k k<|oC h (λq2 h=>aM 6 k q2<|fp k8<|lp k8<|ln k4<|fp k8<|lp k8<|ln k4<|cm k4<|pk k3<|am k k<|oC h (λq3 h=>aM 15 k q3<|fp k8<|lp k8<|ln k4<|cm k4<|pk k3<|am k k<|oC h (λq4 h=>aM 21 k q4<|fp k8<|lp k8<|fp k8<|lp k8<|ae (qI k k) k<|oB h λv5 hv5 h=>ae (aL (pP a0.src 0 (wr (a0.n - 1)) v5 hv5) k (cC k (cC k (cC k aJ)))) k<|pk k3<|am k k<|oC h (λq6 h=>aM 29 k q6<|fp k8<|lp k8<|fp k8<|lp k8<|ae (qI k k) k<|oB h λv7 hv7 h=>ae (aL (pP a0.tgt 0 (wr (a0.n - 1)) v7 hv7) k (cC k (cC k (cC k aJ)))) k<|pk k3<|aT k2<|aD<|dY h k2) λq6 h=>aM 29 k q6<|aK k4<|aK k4<|aK k4<|pk k3<|aT k2<|aD<|dY h k2) λq4 h=>aM 21 k q4<|aK k4<|aK k4<|aK k4<|pk k3<|am k k<|aK k4<|aK k4<|aK k4<|pk k3<|aT k2<|aD<|dY h k2) λq3 h=>aM 15 k q3<|aK k4<|aK k4<|pk k3<|am k k<|aK k4<|aK k4<|aK k4<|pk k3<|am k k<|aK k4<|aK k4<|aK k4<|pk k3<|aT k2<|aD<|dY h k2) λq2 h=>?_;refine aM 6 k q2<|aK k4<|aK k4<|aK k4<|ak k k<|pk k3<|am k k<|aK k4<|aK k4<|pk k3<|am k k<|aK k4<|aK k4<|aK k4<|pk k3<|am k k<|aK k4<|aK k4<|aK k4 ?_;exact pk k3<|aT k2<|aD<|dY h k2
def tE (a0:Qv) (a1:(List Int)):Option Bool:=
 (rA a0).bind λv1=>
 bif v1 then
 (bif decide ((a1.length:Int)=a0.n) then
 ((gU a1 0 4).bind λv4=>
 bif v4 then
 ((wC a1).bind λv6=>
 some (decide (v6≤8)))
 else
 (some (false)))
 else
 (some (false)))
 else
 (some (false))
theorem aFd (a0:Qv) (a1:(List Int)) (r:Bool) (h:tE a0 a1=some r):HasC Tryz.prog 147 [.agg (eQ a0),.list 1 (a1.map eI)] (.bl r):=by
 exact hM [.tmp 4] Tryz.func147 Tryz.ntmps147 k<|sR<|ae (wb k) k<|aT k2<|sR<|lp k8<|oB h λv1 hv1 h=>ae (aL (aEK a0 v1 hv1) k (aI (dH k) aJ)) k<|am k k<|oC h (λq2 h=>aM 7 k q2<|am k k<|ln k4<|fp k8<|lp k8<|cm k4<|pk k3<|am k k<|oC h (λq3 h=>aM 14 k q3<|am k k<|oB h λv4 hv4 h=>ae (aL (pP a1 0 4 v4 hv4) k (cC k (cC k (cC k aJ)))) k<|pk k3<|am k k<|oC h (λq5 h=>aM 18 k q5<|am k k<|oB h λv6 hv6 h=>ae (aL (aHg a1 v6 hv6) k (cC k aJ)) k<|cm k4<|pk k3<|aT k2<|aD<|dY h k2) λq5 h=>aM 18 k q5<|aK k4<|ak k k<|pk k3<|aT k2<|aD<|dY h k2) λq3 h=>aM 14 k q3<|aK k4<|pk k3<|am k k<|aK k4<|ak k k<|pk k3<|aT k2<|aD<|dY h k2) λq2 h=>aM 7 k q2<|aK k4<|aK k4<|ak k k<|pk k3<|am k k<|aK k4<|pk k3<|am k k<|aK k4<|ak k k<|pk k3<|aT k2<|aD<|dY h k2
def rB (a0:Rp) (x1:Int):Option (Int ⊕ (Unit ⊕ Bool)):=
 bif decide (x1<(a0.maps.length:Int)) then
 ((dF a0.maps x1).bind λv7=>
 (qZ a0.p v7).bind λv8=>
 bif !v8 then
 (some (.inr (.inr (false))))
 else
 ((dF a0.q.src x1).bind λv10=>
 (dF a0.dims v10).bind λv11=>
 bif !decide (v7.cols=v11) then
 (some (.inr (.inr (false))))
 else
 ((dF a0.q.tgt x1).bind λv13=>
 (dF a0.dims v13).bind λv14=>
 bif !decide (v7.rows=v14) then
 (some (.inr (.inr (false))))
 else
 (some (.inl (wr (x1+1)))))))
 else
 (some (.inr (.inl ())))
def tF (a0:Rp):Option Bool:=
 (jA a0.p).bind λv1=>
 bif !v1 then
 (some (false))
 else
 ((tE a0.q a0.dims).bind λv3=>
 bif !v3 then
 (some (false))
 else
 (bif !decide ((a0.maps.length:Int)=(a0.q.src.length:Int)) then
 (some (false))
 else
 ((Lp (rB a0) 0).bind λy16=>
 Sum.elim (λy17=>
 some (true)
 )
 (λy18=>
 some y18
 )
 y16)))
theorem aCf (a0:Rp) (r:Bool) (h:tF a0=some r):HasC Tryz.prog 101 [.agg (eR a0)] (.bl r):=by
 refine hM [.tmp 2] Tryz.func101 Tryz.ntmps101 k<|sR<|ae (wb k) k<|aT k2<|sQ<|sR<|fp k8<|lp k8<|oB h λv1 hv1 h=>ae (aL (pH a0.p v1 hv1) k (cC k aJ)) k<|ae (dE k) k<|am k k<|oC h (λq2 h=>aM 9 k q2<|aK k4<|aK k4<|aK k4<|pk k3<|am k k<|aK k4<|aK k4<|aK k4<|aK k4<|pk k3<|an<|tn<|aR (t:=mN [(1,.ptr 0 0 0),(26,.bl true)] [(0,⟨6,[eR a0]⟩)] 1) (bO (bL k2) (bT k<|aV) k4)<|dT k k<|sR<|aT k2<|aD<|aB<|dY h k2) λq2 h=>?_;refine aM 9 k q2<|fp k8<|lp k8<|fp k8<|lp k8<|oB h λv3 hv3 h=>ae (aL (aFd a0.q a0.dims v3 hv3) k (aI (dH k) (cC k aJ))) k<|ae (dE k) k<|pk k3<|am k k<|oC h (λq4 h=>aM 17 k q4<|aK k4<|aK k4<|aK k4<|aK k4<|pk k3<|an<|tn<|aR (t:=mN [(1,.ptr 0 0 0),(26,.bl true)] [(0,⟨6,[eR a0]⟩)] 1) (bO (bL k2) (bT k<|aV) k4)<|dT k k<|sR<|aT k2<|aD<|aB<|dY h k2) λq4 h=>?_;refine aM 17 k q4<|fp k8<|lp k8<|ln k4<|fp k8<|fp k8<|lp k8<|ln k4<|cm k4<|pk k3<|an<|tn<|aR (t:=mN [(1,.ptr 0 0 0),(26,.bl (!decide ((a0.maps.length:Int)=(a0.q.src.length:Int))))] [(0,⟨6,[eR a0]⟩)] 1) (bO (bL k2) (bT k<|aV) k4)<|cJ k h (λ_ h=>sR<|aT k2<|aD<|aB<|dY h k2) λ_ h=>?_;refine aE<|tn<|sQ<|sR<|fp k8<|lp k8<|ln k4<|am k k<|an<|tn<|aG<|oB h λy16 hy16 h=>bY (body:=(rB a0)) hy16 (λ(x1:Int)=>mN [(1,.ptr 0 0 0),(28,.list 3 (a0.maps.map eM)),(29,.int (a0.maps.length:Int)),(30,.int x1)] [(0,⟨6,[eR a0]⟩)] 1) (λr e t=>Sum.elim (λa=>(λr e t=>e= .exit 0∧Ent t (mN [] [] 0)) a e t) (λb=>(λr e t=>e= .ret∧nL TT [.tmp 2] (.bl r) .ret t) b e t) r) (bO (bL k2) (bT k<|aV) k4) ?_ ?_
 ·intro x1 o h;refine sR<|cm k4<|an<|tn<|sQ<|cJ k h (λ_ h=>?_) λ_ h=>bB<|aC<|aC<|sp h ⟨_,k,k,(bO aV aV k4)⟩;refine aE<|tn<|sQ<|aG<|sR<|am k k<|oB h λv7 hv7 h=>ae (xl hv7 k) k<|lr k7<|ae (cA aO k k) k<|aa k k<|ae (ws k) k<|an<|tn<|sQ<|aS fF<|fp k8<|lp k8<|lp k8<|oB h λv8 hv8 h=>ae (aL (aEJ a0.p v7 v8 hv8) k (cC k (aI (dH k) aJ))) k<|ae (dE k) k<|am k k<|oC h (λq9 h=>?_) λq9 h=>?_
  ·refine aM 40 k q9<|aK k4<|aK k4<|aK k4<|aK k4<|aK k4<|aK k4<|ak k k<|pk k3<|am k k<|aK k4<|aK k4<|aK k4<|aK k4<|aK k4<|aK k4<|ak k k<|pk k3 ?_;exact an<|pA (by kernel_rfl)<|tn<|aR (t:=mN [(1,.ptr 0 0 0),(28,.list 3 (a0.maps.map eM)),(29,.int (a0.maps.length:Int)),(30,.int x1),(69,.bl true)] [(0,⟨6,[eR a0]⟩)] 2) (bO (bL k2) (bT k<|aV) k4)<|dT k k<|sR<|aT k2<|aD<|bA<|aB<|aB<|sp h ⟨_,k,k,bG k k k (nM k)⟩
  ·exact aM 40 k q9<|fp k8<|lp k8<|fp k8<|lp k8<|fp k8<|fp k8<|lp k8<|am k k<|oB h λv10 hv10 h=>ae (xl hv10 k) k<|lr k7<|oB h λv11 hv11 h=>ae (xl hv11 k) k<|lr k7<|cm k4<|pk k3<|am k k<|oC h (λq12 h=>aM 55 k q12<|aK k4<|aK k4<|aK k4<|aK k4<|aK k4<|aK k4<|ak k k<|pk k3<|an<|pA (by kernel_rfl)<|tn<|aR (t:=mN [(1,.ptr 0 0 0),(28,.list 3 (a0.maps.map eM)),(29,.int (a0.maps.length:Int)),(30,.int x1),(69,.bl true)] [(0,⟨6,[eR a0]⟩)] 2) (bO (bL k2) (bT k<|aV) k4)<|dT k k<|sR<|aT k2<|aD<|bA<|aB<|aB<|sp h ⟨_,k,k,bG k k k (nM k)⟩) λq12 h=>aM 55 k q12<|fp k8<|lp k8<|fp k8<|lp k8<|fp k8<|fp k8<|lp k8<|am k k<|oB h λv13 hv13 h=>ae (xl hv13 k) k<|lr k7<|oB h λv14 hv14 h=>ae (xl hv14 k) k<|lr k7<|cm k4<|pk k3<|an<|pA (by kernel_rfl)<|tn<|aR (t:=mN [(1,.ptr 0 0 0),(28,.list 3 (a0.maps.map eM)),(29,.int (a0.maps.length:Int)),(30,.int x1),(69,.bl (!decide (v7.rows=v14)))] [(0,⟨6,[eR a0]⟩)] 2) (bO (bL k2) (bT k<|aV) k4)<|cJ k h (λ_ h=>sR<|aT k2<|aD<|bA<|aB<|aB<|sp h ⟨_,k,k,bG k k k (nM k)⟩) λ_ h=>aE<|bC<|tn<|rg<|ae (bF k k) k<|am k k<|an<|tn<|sp h ⟨_,k,(bO (bL k2) (bT k<|aV) k4)⟩
 ·intro e t hX;rcases y16 with y17|y18
  ·obtain ⟨rfl,hent⟩:=hX;exact aP<|tn<|aR hent<|sR<|aT k2<|aD<|dY h k2
  ·obtain ⟨rfl,hent⟩:=hX;exact bA<|aB<|sp h hent
def eX (a0:Mt):Option Mt:=
 (tB a0.cells).bind λv1=>
 some ((⟨a0.rows,a0.cols,v1⟩:Mt))
theorem qJ (a0:Mt) (r:Mt) (h:eX a0=some r):HasC Tryz.prog 170 [.agg (eM a0)] (.agg (eM r)):=by
 exact hM [.cell 2 113] Tryz.func170 Tryz.ntmps170 k<|sR<|ae (wb k) k<|ae (cA aO k k) k<|an<|tn<|sR<|fp k8<|lp k8<|oB h λv1 hv1 h=>ae (cL bH (aCY a0.cells v1 hv1) k3 (cC k aJ)) k<|fp k8<|ae (ws k) k<|an<|tn<|sR<|lp k8<|ae (ws k) k<|an<|tn<|aD<|sp h (bG k k k (pD (aH (k) (aH (k) (aH (cU bH k k) fY)))))
def rC (a0:Int) (a2:Mt) (v1:Mt) (v3:(List Int)) (x1:((List Int)×Int)) (x2:((List Int)×Int)):Option (((List Int)×Int) ⊕ (List Int)):=
 bif decide (x2.2<(v3.length:Int)) then
 ((dF v3 x2.2).bind λv5=>
 (dG (⟨v1.rows,v1.cols,x2.1⟩:Mt) x1.2).bind λv6=>
 (aFb a2 x2.2).bind λv7=>
 (fG a0 x2.1 (0+(wr (x1.2*v1.cols)).toNat) ((wr ((wr (x1.2+1))*v1.cols)).toNat - (wr (x1.2*v1.cols)).toNat) v5 v7).bind λv8=>
 bif decide (v8.length=x2.1.length) then
 (some (.inl (v8,wr (x2.2+1))))
 else none)
 else
 (some (.inr x2.1))
def rD (a0:Int) (a1:Mt) (a2:Mt) (v1:Mt) (x1:((List Int)×Int)):Option (((List Int)×Int) ⊕ (List Int)):=
 bif decide (x1.2<a1.rows) then
 ((aFb a1 x1.2).bind λv3=>
 (Lp (rC a0 a2 v1 v3 x1) (x1.1,0)).bind λy10=>
 some (.inl (y10,wr (x1.2+1))))
 else
 (some (.inr x1.1))
def tG (a0:Int) (a1:Mt) (a2:Mt):Option Mt:=
 (pI a1.rows a2.cols).bind λv1=>
 (Lp (rD a0 a1 a2 v1) (v1.cells,0)).bind λy11=>
 some ((⟨v1.rows,v1.cols,y11⟩:Mt))
theorem aCg (a0:Int) (a1:Mt) (a2:Mt) (r:Mt) (h:tG a0 a1 a2=some r):HasC Tryz.prog 151 [.int a0,.agg (eM a1),.agg (eM a2)] (.agg (eM r)):=by
 refine hM [.cell 6 113] Tryz.func151 Tryz.ntmps151 k<|sR<|ae (wb k) k<|ae (wb k) k<|ae (cA aO k k) k<|an<|tn<|sR<|fp k8<|lp k8<|fp k8<|lp k8<|oB h λv1 hv1 h=>ae (cM (xS a1.rows a2.cols v1 hv1) k3 (cC k (cC k aJ))) k<|ae (cA aO k k) k<|ae (ws k) k<|an<|tn<|sQ<|sR<|fp k8<|lp k8<|am k k<|an<|tn<|aG<|oB h λy11 hy11 h=>bY (body:=(rD a0 a1 a2 v1)) hy11 (λ(x1:((List Int)×Int))=>mN [(0,.int a0),(4,.ptr 0 0 0),(5,.ptr 1 0 0),(6,.ptr 2 0 0),(7,.ptr 3 0 0),(17,.int a1.rows),(18,.int x1.2)] [(0,⟨3,[eM a1]⟩),(1,⟨3,[eM a2]⟩),(2,⟨3,[fV]⟩),(3,⟨3,[[.int v1.rows,.int v1.cols,.own 4 0 x1.1.length]]⟩),(4,⟨1,x1.1.map (ow eI)⟩)] 5) (λr e t=>e= .exit 0∧Ent t (mN [(6,.ptr 0 0 0),(7,.ptr 1 0 0)] [(0,⟨3,[fV]⟩),(1,⟨3,[[.int v1.rows,.int v1.cols,.own 2 0 r.length]]⟩),(2,⟨1,r.map (ow eI)⟩)] 3)) (xF [0,1,2,4,3] (bL k2) (bT k<|bT k<|bT k<|fK k<|bD k<|aV) k4) ?_ ?_
 ·intro x1 o h;refine sR<|cm k4<|an<|tn<|sQ<|cJ k h (λ_ h=>?_) λ_ h=>bB<|aC<|aC<|sp h ⟨_,k,k,(xF [2,3,4] (bL k2) (bT k<|fK k<|bD k<|aV) k4)⟩;refine aE<|tn<|sQ<|aG<|sR<|am k k<|aT k2<|sR<|lp k8<|am k k<|oB h λv3 hv3 h=>ae (aIp (aMt a1 x1.2 v3 hv3) k k k) k<|ln k4<|am k k<|an<|tn<|aG<|oB h λy10 hy10 h=>bY (body:=(rC a0 a2 v1 v3 x1)) hy10 (λ(x2:((List Int)×Int))=>mN [(0,.int a0),(4,.ptr 0 0 0),(5,.ptr 1 0 0),(6,.ptr 2 0 0),(7,.ptr 3 0 0),(8,.int x1.2),(17,.int a1.rows),(18,.int x1.2),(23,.list 1 (v3.map eI)),(24,.int (v3.length:Int)),(25,.int x2.2)] [(0,⟨3,[eM a1]⟩),(1,⟨3,[eM a2]⟩),(2,⟨3,[fV]⟩),(3,⟨3,[[.int v1.rows,.int v1.cols,.own 4 0 x2.1.length]]⟩),(4,⟨1,x2.1.map (ow eI)⟩)] 5) (λr e t=>e= .exit 2∧Ent t (mN [(0,.int a0),(4,.ptr 0 0 0),(5,.ptr 1 0 0),(6,.ptr 2 0 0),(7,.ptr 3 0 0),(17,.int a1.rows),(18,.int x1.2)] [(0,⟨3,[eM a1]⟩),(1,⟨3,[eM a2]⟩),(2,⟨3,[fV]⟩),(3,⟨3,[[.int v1.rows,.int v1.cols,.own 4 0 r.length]]⟩),(4,⟨1,r.map (ow eI)⟩)] 5)) (bO (bL k2) (bT k<|bT k<|bT k<|fK k<|bD k<|aV) k4) ?_ ?_
  ·intro x2 o h;refine sR<|cm k4<|an<|tn<|sQ<|cJ k h (λ_ h=>?_) λ_ h=>bB<|aC<|aC<|sp h ⟨_,k,k,(bO (bL k2) (bT k<|bT k<|bT k<|fK k<|bD k<|aV) k4)⟩;refine aE<|tn<|sQ<|aG<|sR<|am k k<|oB h λv5 hv5 h=>ae (xl hv5 k) k<|lr k7<|aa k k<|aT k2<|aS fF<|am k k<|lp k8<|am k k<|oB h λv6 hv6 h=>ae (AEff.pureE (fA (σ:=sg [(0,4)]) (σ':=sg [(4,0)]) (touch:=[4]) (news:=[]) (hl2:=[(4,⟨1,x2.1.map (ow eI)⟩)]) (n':=5) (r2:= .own 4 (0+(wr (x1.2*v1.cols)).toNat) ((wr ((wr (x1.2+1))*v1.cols)).toNat - (wr (x1.2*v1.cols)).toNat)) (eY (⟨v1.rows,v1.cols,x2.1⟩:Mt) x1.2 v6 hv6) k k ⟨_,_,k,⟨_,_,k,k,⟨_,_,k,k,⟨_,_,k,⟨k,k,k,k⟩,k⟩⟩⟩,⟨_,_,k,k,k⟩⟩ ⟨⟨_,k,k,.inl ⟨k,bH.plainO _⟩⟩,k,aV⟩ k k k ⟨⟨_,k,k,.inl ⟨k,bH.plainO _⟩⟩,k,aV⟩ k ⟨k,k,(by simp only [aU,lA,lT,lR,lC,lN]),k⟩ k ⟨k,bH.tame _ _,aV⟩ k k) ⟨k,k,aV⟩) k<|am k k<|lp k8<|am k k<|oB h λv7 hv7 h=>ae (aIp (aMt a2 x2.2 v7 hv7) k k k) k<|oB h λv8 hv8 h=>ae (fA (σ:=sg [(0,4)]) (σ':=sg [(4,0)]) (touch:=[4]) (news:=[]) (hl2:=[(4,⟨1,v8.map (ow eI)⟩)]) (n':=5) (r2:= .own 4 (0+(wr (x1.2*v1.cols)).toNat) ((wr ((wr (x1.2+1))*v1.cols)).toNat - (wr (x1.2*v1.cols)).toNat)) (rY a0 x2.1 (0+(wr (x1.2*v1.cols)).toNat) ((wr ((wr (x1.2+1))*v1.cols)).toNat - (wr (x1.2*v1.cols)).toNat) v5 v7 v8 hv8) k k ⟨_,_,k,k,⟨_,_,k,⟨k,k,k,k⟩,⟨_,_,k,k,⟨_,_,k,⟨k,k⟩,k⟩⟩⟩⟩ ⟨⟨_,k,k,.inl ⟨k,bH.plainO _⟩⟩,k,aV⟩ k k k ⟨⟨_,k,k,.inl ⟨k,bH.plainO _⟩⟩,k,aV⟩ k ⟨k,k,(by simp only [aU,lA,lT,lR,lC,lN]),k⟩ k ⟨k,bH.tame _ _,aV⟩ k k) k<|cG h λq9 h=>an<|pA (by kernel_rfl)<|bC<|tn<|rg<|ae (bF k k) k ?_;exact am k k<|an<|tn<|sp h ⟨_,k,(bO (bL k2) (bT k<|bT k<|bT k<|hX ⟨_,k,k,.inr ⟨_,_,k,⟨_,_,k,k,⟨_,_,k,k,⟨_,_,k,⟨k,k,(by simp only [aU,lA,lT,lR,lC,lN,of_decide_eq_true q9]),k⟩,k⟩⟩⟩,k⟩⟩ k<|bD k<|aV) k4)⟩
  ·rintro e t ⟨rfl,hent⟩;exact aP<|bC<|tn<|aR hent<|rg<|ae (bF k k) k<|am k k<|an<|tn<|sp h ⟨_,k,(bO (bL k2) (bT k<|bT k<|bT k<|fK k<|bD k<|aV) k4)⟩
 ·rintro e t ⟨rfl,hent⟩;exact aP<|tn<|aR hent<|sR<|lp k8<|ae (ws k) k<|an<|tn<|aD<|sp h (bG k k k (pD (aH (k) (aH (k) (aH (cU bH k k) fY)))))
def mF (v1:Mt) (x1:(Int×(List Int)×(List Int))) (x2:Int):Option (Int ⊕ Int):=
 bif decide (x2<v1.rows) then
 ((dG (⟨v1.rows,v1.cols,x1.2.1⟩:Mt) x2).bind λv4=>
 bif (decide (0≤x1.1)&&decide (x1.1<((((wr ((wr (x2+1))*v1.cols)).toNat - (wr (x2*v1.cols)).toNat):Nat):Int))) then
 ((x1.2.1[((0+(wr (x2*v1.cols)).toNat)+x1.1.toNat)]?).bind λv5=>
 bif decide (v5=0) then
 (some (.inl (wr (x2+1))))
 else
 (some (.inr x2))
 )
 else none)
 else
 (some (.inr x2))
def pQ (v1:Mt) (x1:(Int×(List Int)×(List Int))) (y8:Int) (x3:((List Int)×Int)):Option (((List Int)×Int) ⊕ (List Int)):=
 bif decide (x3.2<v1.cols) then
 ((dG (⟨v1.rows,v1.cols,x3.1⟩:Mt) y8).bind λv12=>
 (dG (⟨v1.rows,v1.cols,x3.1⟩:Mt) y8).bind λv13=>
 bif (decide (0≤x3.2)&&decide (x3.2<((((wr ((wr (y8+1))*v1.cols)).toNat - (wr (y8*v1.cols)).toNat):Nat):Int))) then
 ((x3.1[((0+(wr (y8*v1.cols)).toNat)+x3.2.toNat)]?).bind λv14=>
 bif (decide (0≤x3.2)&&decide (x3.2<((((wr ((wr (((x1.2.2.length:Nat):Int)+1))*v1.cols)).toNat - (wr (((x1.2.2.length:Nat):Int)*v1.cols)).toNat):Nat):Int))) then
 ((x3.1[((0+(wr (((x1.2.2.length:Nat):Int)*v1.cols)).toNat)+x3.2.toNat)]?).bind λv16=>
 bif (decide (0≤x3.2)&&decide (x3.2<((((wr ((wr (((x1.2.2.length:Nat):Int)+1))*v1.cols)).toNat - (wr (((x1.2.2.length:Nat):Int)*v1.cols)).toNat):Nat):Int))) then
 ((x3.1[((0+(wr (((x1.2.2.length:Nat):Int)*v1.cols)).toNat)+x3.2.toNat)]?).bind λv18=>
 bif (decide (0≤x3.2)&&decide (x3.2<((((wr ((wr (y8+1))*v1.cols)).toNat - (wr (y8*v1.cols)).toNat):Nat):Int))) then
 (((x3.1.set ((0+(wr (((x1.2.2.length:Nat):Int)*v1.cols)).toNat)+x3.2.toNat) v14)[((0+(wr (y8*v1.cols)).toNat)+x3.2.toNat)]?).bind λv20=>
 some (.inl (((x3.1.set ((0+(wr (((x1.2.2.length:Nat):Int)*v1.cols)).toNat)+x3.2.toNat) v14).set ((0+(wr (y8*v1.cols)).toNat)+x3.2.toNat) v16),wr (x3.2+1)))
 )
 else none
 )
 else none
 )
 else none
 )
 else none)
 else
 (some (.inr x3.1))
def pR (a0:Int) (v1:Mt) (v25:Int) (x1:(Int×(List Int)×(List Int))) (x4:((List Int)×Int)):Option (((List Int)×Int) ⊕ (List Int)):=
 bif decide (x4.2<((((wr ((wr (((x1.2.2.length:Nat):Int)+1))*v1.cols)).toNat - (wr (((x1.2.2.length:Nat):Int)*v1.cols)).toNat):Nat):Int)) then
 (bif (decide (0≤x4.2)&&decide (x4.2<((((wr ((wr (((x1.2.2.length:Nat):Int)+1))*v1.cols)).toNat - (wr (((x1.2.2.length:Nat):Int)*v1.cols)).toNat):Nat):Int))) then
 ((x4.1[((0+(wr (((x1.2.2.length:Nat):Int)*v1.cols)).toNat)+x4.2.toNat)]?).bind λv27=>
 bif !decide (a0=0) then
 (bif (decide (0≤x4.2)&&decide (x4.2<((((wr ((wr (((x1.2.2.length:Nat):Int)+1))*v1.cols)).toNat - (wr (((x1.2.2.length:Nat):Int)*v1.cols)).toNat):Nat):Int))) then
 ((x4.1[((0+(wr (((x1.2.2.length:Nat):Int)*v1.cols)).toNat)+x4.2.toNat)]?).bind λv29=>
 some (.inl ((x4.1.set ((0+(wr (((x1.2.2.length:Nat):Int)*v1.cols)).toNat)+x4.2.toNat) ((wr (v27*v25)).tmod a0)),wr (x4.2+1)))
 )
 else none)
 else none
 )
 else none)
 else
 (some (.inr x4.1))
def pS (a0:Int) (v1:Mt) (x1:(Int×(List Int)×(List Int))) (x5:((List Int)×Int)):Option (((List Int)×Int) ⊕ (List Int)):=
 bif decide (x5.2<v1.rows) then
 (bif !decide (x5.2=((x1.2.2.length:Nat):Int)) then
 ((dG (⟨v1.rows,v1.cols,x5.1⟩:Mt) x5.2).bind λv35=>
 (dG (⟨v1.rows,v1.cols,x5.1⟩:Mt) x5.2).bind λv36=>
 bif (decide (0≤x1.1)&&decide (x1.1<((((wr ((wr (x5.2+1))*v1.cols)).toNat - (wr (x5.2*v1.cols)).toNat):Nat):Int))) then
 ((x5.1[((0+(wr (x5.2*v1.cols)).toNat)+x1.1.toNat)]?).bind λv37=>
 (hU a0 x5.1 (0+(wr (x5.2*v1.cols)).toNat) ((wr ((wr (x5.2+1))*v1.cols)).toNat - (wr (x5.2*v1.cols)).toNat) (wr (a0 - v37)) (0+(wr (((x1.2.2.length:Nat):Int)*v1.cols)).toNat) ((wr ((wr (((x1.2.2.length:Nat):Int)+1))*v1.cols)).toNat - (wr (((x1.2.2.length:Nat):Int)*v1.cols)).toNat)).bind λv39=>
 bif decide (v39.length=x5.1.length) then
 (some (.inl (v39,wr (x5.2+1))))
 else none
 )
 else none)
 else
 (some (.inl (x5.1,wr (x5.2+1)))))
 else
 (some (.inr x5.1))
def mG (a0:Int) (v1:Mt) (x1:(Int×(List Int)×(List Int))):Option ((Int×(List Int)×(List Int)) ⊕ ((List Int)×(List Int))):=
 bif decide (x1.1<v1.cols) then
 ((Lp (mF v1 x1) ((x1.2.2.length:Nat):Int)).bind λy8=>
 bif decide (y8=v1.rows) then
 (some (.inl (wr (x1.1+1),x1.2.1,x1.2.2)))
 else
 ((dG (⟨v1.rows,v1.cols,x1.2.1⟩:Mt) ((x1.2.2.length:Nat):Int)).bind λv10=>
 (Lp (pQ v1 x1 y8) (x1.2.1,0)).bind λy22=>
 bif (decide (0≤x1.1)&&decide (x1.1<((((wr ((wr (((x1.2.2.length:Nat):Int)+1))*v1.cols)).toNat - (wr (((x1.2.2.length:Nat):Int)*v1.cols)).toNat):Nat):Int))) then
 ((y22[((0+(wr (((x1.2.2.length:Nat):Int)*v1.cols)).toNat)+x1.1.toNat)]?).bind λv23=>
 (oF a0 v23).bind λv25=>
 (Lp (pR a0 v1 v25 x1) (y22,0)).bind λy32=>
 (Lp (pS a0 v1 x1) (y32,0)).bind λy41=>
 bif decide (x1.2.2.length+[x1.1].length ≤4294967296) then
 (some (.inl (wr (x1.1+1),y41,(x1.2.2++[x1.1]))))
 else none
 )
 else none))
 else
 (some (.inr (x1.2.1,x1.2.2)))
def qP (a0:Int) (a1:Mt):Option (Mt×(List Int)):=
 (eX a1).bind λv1=>
 (Lp (mG a0 v1) (0,v1.cells,[])).bind λy43=>
 some (((⟨v1.rows,v1.cols,y43.1⟩:Mt),y43.2))
theorem aBa (a0:Int) (a1:Mt) (r:(Mt×(List Int))) (h:qP a0 a1=some r):HasC Tryz.prog 222 [.int a0,.agg (eM a1)] (.tuple [.agg (eM r.1),.list 1 (r.2.map eI)]):=by
 refine hM [.cell 4 113,.tmp 5] Tryz.func222 Tryz.ntmps222 k<|sR<|ae (wb k) k<|ae (cA aO k k) k<|aT k2<|sR<|lp k8<|oB h λv1 hv1 h=>ae (cM (qJ a1 v1 hv1) k3 (aI (dH k) aJ)) k<|ae (ws k) k<|an<|tn<|sR<|aT k2<|sQ<|sR<|fp k8<|lp k8<|am k k<|an<|tn<|aG<|oB h λy43 hy43 h=>bY (body:=(mG a0 v1)) hy43 (λ(x1:(Int×(List Int)×(List Int)))=>mN [(0,.int a0),(3,.ptr 0 0 0),(4,.ptr 2 0 0),(6,.own 3 0 x1.2.2.length),(17,.int v1.cols),(18,.int x1.1)] [(0,⟨3,[[.int v1.rows,.int v1.cols,.own 1 0 x1.2.1.length]]⟩),(1,⟨1,x1.2.1.map (ow eI)⟩),(2,⟨3,[fV]⟩),(3,⟨1,x1.2.2.map (ow eI)⟩)] 4) (λr e t=>e= .exit 0∧Ent t (mN [(3,.ptr 0 0 0),(4,.ptr 2 0 0),(6,.own 3 0 r.2.length)] [(0,⟨3,[[.int v1.rows,.int v1.cols,.own 1 0 r.1.length]]⟩),(1,⟨1,r.1.map (ow eI)⟩),(2,⟨3,[fV]⟩),(3,⟨1,r.2.map (ow eI)⟩)] 4)) (iC (σ:=sg [(0,0),(1,2),(2,1)]) (wP 3 k2 (sO ⟨_,k,⟨k,k,k,k⟩⟩ (bL k2))) (fK k<|bD k<|bT k<|hX k k<|aV) k) ?_ ?_
 ·intro x1 o h;refine sR<|cm k4<|an<|tn<|sQ<|cJ k h (λ_ h=>?_) λ_ h=>bB<|aC<|aC<|sp h ⟨_,k,k,(bO (bL k2) (fK k<|bD k<|bT k<|bD k<|aV) k4)⟩;refine aE<|tn<|sQ<|aG<|sR<|am k k<|aT k2<|sR<|am k k<|ae (dO aO k k k k) k<|aT k2<|sQ<|aG<|oB h λy8 hy8 h=>bY (body:=(mF v1 x1)) hy8 (λ(x2:Int)=>mN [(0,.int a0),(3,.ptr 0 0 0),(4,.ptr 2 0 0),(6,.own 3 0 x1.2.2.length),(7,.int x1.1),(8,.int x2),(17,.int v1.cols),(18,.int x1.1)] [(0,⟨3,[[.int v1.rows,.int v1.cols,.own 1 0 x1.2.1.length]]⟩),(1,⟨1,x1.2.1.map (ow eI)⟩),(2,⟨3,[fV]⟩),(3,⟨1,x1.2.2.map (ow eI)⟩)] 4) (λr e t=>e= .exit 2∧Ent t (mN [(0,.int a0),(3,.ptr 0 0 0),(4,.ptr 2 0 0),(6,.own 3 0 x1.2.2.length),(7,.int x1.1),(8,.int r),(17,.int v1.cols),(18,.int x1.1)] [(0,⟨3,[[.int v1.rows,.int v1.cols,.own 1 0 x1.2.1.length]]⟩),(1,⟨1,x1.2.1.map (ow eI)⟩),(2,⟨3,[fV]⟩),(3,⟨1,x1.2.2.map (ow eI)⟩)] 4)) (bO (bL k2) (fK k<|bD k<|bT k<|bD k<|aV) k4) ?_ ?_
  ·intro x2 o h;exact sQ<|sR<|am k k<|fp k8<|lp k8<|cm k4<|am k k<|oC h (λq3 h=>aM 27 k q3<|lp k8<|am k k<|oB h λv4 hv4 h=>ae (AEff.pureE (fA (σ:=sg [(0,1)]) (σ':=sg [(1,0)]) (touch:=[1]) (news:=[]) (hl2:=[(1,⟨1,x1.2.1.map (ow eI)⟩)]) (n':=4) (r2:= .own 1 (0+(wr (x2*v1.cols)).toNat) ((wr ((wr (x2+1))*v1.cols)).toNat - (wr (x2*v1.cols)).toNat)) (eY (⟨v1.rows,v1.cols,x1.2.1⟩:Mt) x2 v4 hv4) k k ⟨_,_,k,⟨_,_,k,k,⟨_,_,k,k,⟨_,_,k,⟨k,k,k,k⟩,k⟩⟩⟩,⟨_,_,k,k,k⟩⟩ ⟨⟨_,k,k,.inl ⟨k,bH.plainO _⟩⟩,k,aV⟩ k k k ⟨⟨_,k,k,.inl ⟨k,bH.plainO _⟩⟩,k,aV⟩ k ⟨k,k,(by simp only [aU,lA,lT,lR,lC,lN]),k⟩ k ⟨k,bH.tame _ _,aV⟩ k k) ⟨k,k,aV⟩) k<|am k k<|cG h λq6 h=>oB h λv5 hv5 h=>ae (gR aO q6 k k k k k k k) k<|ae (cW aO k k k k (vM (hv5)) k k) k<|cm k4<|pk k3<|an<|tn<|cJ k h (λ_ h=>aE<|tn<|aG<|rg<|am k k<|ae (bF k k) k<|aa k k<|an<|bC<|tn<|sp h ⟨_,k,(bO (bL k2) (fK k<|bD k<|bT k<|bD k<|aV) k4)⟩) λ_ h=>bB<|aC<|aC<|sp h ⟨_,k,k,(bO (bL k2) (fK k<|bD k<|bT k<|bD k<|aV) k4)⟩) λq3 h=>aM 27 k q3<|aK k4<|aK k4<|aK k4<|ak k k<|pk k3<|an<|tn<|vC k k<|bB<|aC<|aC<|sp h ⟨_,k,k,(bO (bL k2) (fK k<|bD k<|bT k<|bD k<|aV) k4)⟩
  ·rintro e t ⟨rfl,hent⟩;refine aP<|tn<|aR hent<|sQ<|sR<|am k k<|fp k8<|lp k8<|cm k4<|an<|tn<|cJ k h (λ_ h=>bB<|aC<|aP<|tn<|rg<|ae (bF k k) k<|am k k<|an<|tn<|sp h ⟨_,k,(bO (bL k2) (fK k<|bD k<|bT k<|bD k<|aV) k4)⟩) λ_ h=>?_;refine aE<|tn<|sR<|lp k8<|am k k<|ae (dO aO k k k k) k<|oB h λv10 hv10 h=>ae (AEff.pureE (fA (σ:=sg [(0,1)]) (σ':=sg [(1,0)]) (touch:=[1]) (news:=[]) (hl2:=[(1,⟨1,x1.2.1.map (ow eI)⟩)]) (n':=4) (r2:= .own 1 (0+(wr (((x1.2.2.length:Nat):Int)*v1.cols)).toNat) ((wr ((wr (((x1.2.2.length:Nat):Int)+1))*v1.cols)).toNat - (wr (((x1.2.2.length:Nat):Int)*v1.cols)).toNat)) (eY (⟨v1.rows,v1.cols,x1.2.1⟩:Mt) ((x1.2.2.length:Nat):Int) v10 hv10) k k ⟨_,_,k,⟨_,_,k,k,⟨_,_,k,k,⟨_,_,k,⟨k,k,k,k⟩,k⟩⟩⟩,⟨_,_,k,k,k⟩⟩ ⟨⟨_,k,k,.inl ⟨k,bH.plainO _⟩⟩,k,aV⟩ k k k ⟨⟨_,k,k,.inl ⟨k,bH.plainO _⟩⟩,k,aV⟩ k ⟨k,k,(by simp only [aU,lA,lT,lR,lC,lN]),k⟩ k ⟨k,bH.tame _ _,aV⟩ k k) ⟨k,k,aV⟩) k<|aT k2<|sQ<|sR<|fp k8<|lp k8<|am k k<|an<|tn<|aG<|oB h λy22 hy22 h=>bY (body:=(pQ v1 x1 y8)) hy22 (λ(x3:((List Int)×Int))=>mN [(0,.int a0),(3,.ptr 0 0 0),(4,.ptr 2 0 0),(6,.own 3 0 x1.2.2.length),(7,.int x1.1),(8,.int y8),(9,.own 1 (0+(wr (((x1.2.2.length:Nat):Int)*v1.cols)).toNat) ((wr ((wr (((x1.2.2.length:Nat):Int)+1))*v1.cols)).toNat - (wr (((x1.2.2.length:Nat):Int)*v1.cols)).toNat)),(17,.int v1.cols),(18,.int x1.1),(47,.int v1.cols),(48,.int x3.2)] [(0,⟨3,[[.int v1.rows,.int v1.cols,.own 1 0 x3.1.length]]⟩),(1,⟨1,x3.1.map (ow eI)⟩),(2,⟨3,[fV]⟩),(3,⟨1,x1.2.2.map (ow eI)⟩)] 4) (λr e t=>e= .exit 4∧Ent t (mN [(0,.int a0),(3,.ptr 0 0 0),(4,.ptr 2 0 0),(6,.own 3 0 x1.2.2.length),(7,.int x1.1),(9,.own 1 (0+(wr (((x1.2.2.length:Nat):Int)*v1.cols)).toNat) ((wr ((wr (((x1.2.2.length:Nat):Int)+1))*v1.cols)).toNat - (wr (((x1.2.2.length:Nat):Int)*v1.cols)).toNat)),(17,.int v1.cols),(18,.int x1.1)] [(0,⟨3,[[.int v1.rows,.int v1.cols,.own 1 0 r.length]]⟩),(1,⟨1,r.map (ow eI)⟩),(2,⟨3,[fV]⟩),(3,⟨1,x1.2.2.map (ow eI)⟩)] 4)) (bO (bL k2) (fK k<|bD k<|bT k<|bD k<|aV) k4) ?_ ?_
   ·intro x3 o h;refine sR<|cm k4<|an<|tn<|sQ<|cJ k h (λ_ h=>?_) λ_ h=>bB<|aC<|aC<|sp h ⟨_,k,k,(bO (bL k2) (fK k<|bD k<|bT k<|bD k<|aV) k4)⟩;refine aE<|tn<|sQ<|aG<|sR<|am k k<|aT k2<|aS fF<|am k k<|am k k<|lp k8<|am k k<|oB h λv12 hv12 h=>ae (AEff.pureE (fA (σ:=sg [(0,1)]) (σ':=sg [(1,0)]) (touch:=[1]) (news:=[]) (hl2:=[(1,⟨1,x3.1.map (ow eI)⟩)]) (n':=4) (r2:= .own 1 (0+(wr (y8*v1.cols)).toNat) ((wr ((wr (y8+1))*v1.cols)).toNat - (wr (y8*v1.cols)).toNat)) (eY (⟨v1.rows,v1.cols,x3.1⟩:Mt) y8 v12 hv12) k k ⟨_,_,k,⟨_,_,k,k,⟨_,_,k,k,⟨_,_,k,⟨k,k,k,k⟩,k⟩⟩⟩,⟨_,_,k,k,k⟩⟩ ⟨⟨_,k,k,.inl ⟨k,bH.plainO _⟩⟩,k,aV⟩ k k k ⟨⟨_,k,k,.inl ⟨k,bH.plainO _⟩⟩,k,aV⟩ k ⟨k,k,(by simp only [aU,lA,lT,lR,lC,lN]),k⟩ k ⟨k,bH.tame _ _,aV⟩ k k) ⟨k,k,aV⟩) k<|am k k<|lp k8<|am k k<|oB h λv13 hv13 h=>ae (AEff.pureE (fA (σ:=sg [(0,1)]) (σ':=sg [(1,0)]) (touch:=[1]) (news:=[]) (hl2:=[(1,⟨1,x3.1.map (ow eI)⟩)]) (n':=4) (r2:= .own 1 (0+(wr (y8*v1.cols)).toNat) ((wr ((wr (y8+1))*v1.cols)).toNat - (wr (y8*v1.cols)).toNat)) (eY (⟨v1.rows,v1.cols,x3.1⟩:Mt) y8 v13 hv13) k k ⟨_,_,k,⟨_,_,k,k,⟨_,_,k,k,⟨_,_,k,⟨k,k,k,k⟩,k⟩⟩⟩,⟨_,_,k,k,k⟩⟩ ⟨⟨_,k,k,.inl ⟨k,bH.plainO _⟩⟩,k,aV⟩ k k k ⟨⟨_,k,k,.inl ⟨k,bH.plainO _⟩⟩,k,aV⟩ k ⟨k,k,(by simp only [aU,lA,lT,lR,lC,lN]),k⟩ k ⟨k,bH.tame _ _,aV⟩ k k) ⟨k,k,aV⟩) k<|am k k<|cG h λq15 h=>oB h λv14 hv14 h=>ae (gR aO q15 k k k k k k k) k<|ae (cW aO k k k k (vM (hv14)) k k) k<|am k k<|am k k<|cG h λq17 h=>oB h λv16 hv16 h=>ae (gR aO q17 k k k k k k k) k<|ae (cW aO k k k k (vM (hv16)) k k) k<|cG h λq19 h=>oB h λv18 hv18 h=>ae (gR aO q19 k k k k k k k) k<|ae (gO aO pE (u:=v14) (hv18) k k k k k k) k ?_;exact cG h λq21 h=>oB h λv20 hv20 h=>ae (gR aO q21 k k k k k k k) k<|ae (gO aO pE (u:=v16) (hv20) k k k k k k) k<|an<|pA (by kernel_rfl)<|bC<|tn<|rg<|ae (bF k k) k<|am k k<|an<|tn<|sp h ⟨_,k,(bO (bL k2) (hX ⟨_,k,k,.inr ⟨_,_,k,⟨_,_,k,k,⟨_,_,k,k,⟨_,_,k,⟨k,k,(by simp only [aU,lA,lT,lR,lC,lN]),k⟩,k⟩⟩⟩,k⟩⟩ k<|bD k<|bT k<|bD k<|aV) k4)⟩
   ·rintro e t ⟨rfl,hent⟩;refine aP<|tn<|aR hent<|sR<|am k k<|am k k<|am k k<|cG h λq24 h=>oB h λv23 hv23 h=>ae (gR aO q24 k k k k k k k) k<|ae (cW aO k k k k (vM (hv23)) k k) k<|oB h λv25 hv25 h=>ae (aL (aCd a0 v23 v25 hv25) k (cC k (cC k aJ))) k<|aT k2<|sQ<|sR<|am k k<|ae (dO aO k k k k) k<|am k k<|an<|tn<|aG<|oB h λy32 hy32 h=>bY (body:=(pR a0 v1 v25 x1)) hy32 (λ(x4:((List Int)×Int))=>mN [(0,.int a0),(3,.ptr 0 0 0),(4,.ptr 2 0 0),(6,.own 3 0 x1.2.2.length),(7,.int x1.1),(9,.own 1 (0+(wr (((x1.2.2.length:Nat):Int)*v1.cols)).toNat) ((wr ((wr (((x1.2.2.length:Nat):Int)+1))*v1.cols)).toNat - (wr (((x1.2.2.length:Nat):Int)*v1.cols)).toNat)),(11,.int v25),(17,.int v1.cols),(18,.int x1.1),(77,.int ((((wr ((wr (((x1.2.2.length:Nat):Int)+1))*v1.cols)).toNat - (wr (((x1.2.2.length:Nat):Int)*v1.cols)).toNat):Nat):Int)),(78,.int x4.2)] [(0,⟨3,[[.int v1.rows,.int v1.cols,.own 1 0 x4.1.length]]⟩),(1,⟨1,x4.1.map (ow eI)⟩),(2,⟨3,[fV]⟩),(3,⟨1,x1.2.2.map (ow eI)⟩)] 4) (λr e t=>e= .exit 6∧Ent t (mN [(0,.int a0),(3,.ptr 0 0 0),(4,.ptr 2 0 0),(6,.own 3 0 x1.2.2.length),(7,.int x1.1),(9,.own 1 (0+(wr (((x1.2.2.length:Nat):Int)*v1.cols)).toNat) ((wr ((wr (((x1.2.2.length:Nat):Int)+1))*v1.cols)).toNat - (wr (((x1.2.2.length:Nat):Int)*v1.cols)).toNat)),(17,.int v1.cols),(18,.int x1.1)] [(0,⟨3,[[.int v1.rows,.int v1.cols,.own 1 0 r.length]]⟩),(1,⟨1,r.map (ow eI)⟩),(2,⟨3,[fV]⟩),(3,⟨1,x1.2.2.map (ow eI)⟩)] 4)) (bO (bL k2) (fK k<|bD k<|bT k<|bD k<|aV) k4) ?_ ?_
    ·intro x4 o h;refine sR<|cm k4<|an<|tn<|sQ<|cJ k h (λ_ h=>?_) λ_ h=>bB<|aC<|aC<|sp h ⟨_,k,k,(bO (bL k2) (fK k<|bD k<|bT k<|bD k<|aV) k4)⟩;refine aE<|tn<|sQ<|aG<|sR<|am k k<|aT k2<|rg<|am k k<|am k k<|am k k<|am k k<|cG h λq28 h=>oB h λv27 hv27 h=>ae (gR aO q28 k k k k k k k) k<|ae (cW aO k k k k (vM (hv27)) k k) k<|am k k<|ae (eZ k k) k<|am k k<|cG h λq31 h=>ae (aBY k k q31) k<|cG h λq30 h=>oB h λv29 hv29 h=>ae (gR aO q30 k k k k k k k) k<|ae (gO aO pE (u:=(wr (v27*v25)).tmod a0) (hv29) k k k k k k) k<|an<|bC<|tn<|rg<|ae (bF k k) k<|am k k ?_;exact an<|tn<|sp h ⟨_,k,(bO (bL k2) (hX ⟨_,k,k,.inr ⟨_,_,k,⟨_,_,k,k,⟨_,_,k,k,⟨_,_,k,⟨k,k,(by simp only [aU,lA,lT,lR,lC,lN]),k⟩,k⟩⟩⟩,k⟩⟩ k<|bD k<|bT k<|bD k<|aV) k4)⟩
    ·rintro e t ⟨rfl,hent⟩;refine aP<|tn<|aR hent<|sQ<|sR<|fp k8<|lp k8<|am k k<|an<|tn<|aG<|oB h λy41 hy41 h=>bY (body:=(pS a0 v1 x1)) hy41 (λ(x5:((List Int)×Int))=>mN [(0,.int a0),(3,.ptr 0 0 0),(4,.ptr 2 0 0),(6,.own 3 0 x1.2.2.length),(7,.int x1.1),(9,.own 1 (0+(wr (((x1.2.2.length:Nat):Int)*v1.cols)).toNat) ((wr ((wr (((x1.2.2.length:Nat):Int)+1))*v1.cols)).toNat - (wr (((x1.2.2.length:Nat):Int)*v1.cols)).toNat)),(17,.int v1.cols),(18,.int x1.1),(94,.int v1.rows),(95,.int x5.2)] [(0,⟨3,[[.int v1.rows,.int v1.cols,.own 1 0 x5.1.length]]⟩),(1,⟨1,x5.1.map (ow eI)⟩),(2,⟨3,[fV]⟩),(3,⟨1,x1.2.2.map (ow eI)⟩)] 4) (λr e t=>e= .exit 8∧Ent t (mN [(0,.int a0),(3,.ptr 0 0 0),(4,.ptr 2 0 0),(6,.own 3 0 x1.2.2.length),(7,.int x1.1),(17,.int v1.cols),(18,.int x1.1)] [(0,⟨3,[[.int v1.rows,.int v1.cols,.own 1 0 r.length]]⟩),(1,⟨1,r.map (ow eI)⟩),(2,⟨3,[fV]⟩),(3,⟨1,x1.2.2.map (ow eI)⟩)] 4)) (bO (bL k2) (fK k<|bD k<|bT k<|bD k<|aV) k4) ?_ ?_
     ·intro x5 o h;refine sR<|cm k4<|an<|tn<|sQ<|cJ k h (λ_ h=>?_) λ_ h=>bB<|aC<|aC<|sp h ⟨_,k,k,(bO (bL k2) (fK k<|bD k<|bT k<|bD k<|aV) k4)⟩;refine aE<|tn<|sQ<|aG<|sR<|am k k<|aT k2<|sR<|am k k<|am k k<|ae (dO aO k k k k) k<|cm k4<|an<|tn<|cJ k h (λ_ h=>?_) λ_ h=>aE<|bC<|tn<|rg<|ae (bF k k) k<|am k k<|an<|tn<|sp h ⟨_,k,(bO (bL k2) (fK k<|bD k<|bT k<|bD k<|aV) k4)⟩;exact aS fF<|am k k<|lp k8<|am k k<|oB h λv35 hv35 h=>ae (AEff.pureE (fA (σ:=sg [(0,1)]) (σ':=sg [(1,0)]) (touch:=[1]) (news:=[]) (hl2:=[(1,⟨1,x5.1.map (ow eI)⟩)]) (n':=4) (r2:= .own 1 (0+(wr (x5.2*v1.cols)).toNat) ((wr ((wr (x5.2+1))*v1.cols)).toNat - (wr (x5.2*v1.cols)).toNat)) (eY (⟨v1.rows,v1.cols,x5.1⟩:Mt) x5.2 v35 hv35) k k ⟨_,_,k,⟨_,_,k,k,⟨_,_,k,k,⟨_,_,k,⟨k,k,k,k⟩,k⟩⟩⟩,⟨_,_,k,k,k⟩⟩ ⟨⟨_,k,k,.inl ⟨k,bH.plainO _⟩⟩,k,aV⟩ k k k ⟨⟨_,k,k,.inl ⟨k,bH.plainO _⟩⟩,k,aV⟩ k ⟨k,k,(by simp only [aU,lA,lT,lR,lC,lN]),k⟩ k ⟨k,bH.tame _ _,aV⟩ k k) ⟨k,k,aV⟩) k<|am k k<|lp k8<|am k k<|oB h λv36 hv36 h=>ae (AEff.pureE (fA (σ:=sg [(0,1)]) (σ':=sg [(1,0)]) (touch:=[1]) (news:=[]) (hl2:=[(1,⟨1,x5.1.map (ow eI)⟩)]) (n':=4) (r2:= .own 1 (0+(wr (x5.2*v1.cols)).toNat) ((wr ((wr (x5.2+1))*v1.cols)).toNat - (wr (x5.2*v1.cols)).toNat)) (eY (⟨v1.rows,v1.cols,x5.1⟩:Mt) x5.2 v36 hv36) k k ⟨_,_,k,⟨_,_,k,k,⟨_,_,k,k,⟨_,_,k,⟨k,k,k,k⟩,k⟩⟩⟩,⟨_,_,k,k,k⟩⟩ ⟨⟨_,k,k,.inl ⟨k,bH.plainO _⟩⟩,k,aV⟩ k k k ⟨⟨_,k,k,.inl ⟨k,bH.plainO _⟩⟩,k,aV⟩ k ⟨k,k,(by simp only [aU,lA,lT,lR,lC,lN]),k⟩ k ⟨k,bH.tame _ _,aV⟩ k k) ⟨k,k,aV⟩) k<|am k k<|cG h λq38 h=>oB h λv37 hv37 h=>ae (gR aO q38 k k k k k k k) k<|ae (cW aO k k k k (vM (hv37)) k k) k<|ae (qI k k) k<|am k k<|oB h λv39 hv39 h=>ae (fA (σ:=sg [(0,1)]) (σ':=sg [(1,0)]) (touch:=[1]) (news:=[]) (hl2:=[(1,⟨1,v39.map (ow eI)⟩)]) (n':=4) (r2:= .own 1 (0+(wr (x5.2*v1.cols)).toNat) ((wr ((wr (x5.2+1))*v1.cols)).toNat - (wr (x5.2*v1.cols)).toNat)) (zA a0 x5.1 (0+(wr (x5.2*v1.cols)).toNat) ((wr ((wr (x5.2+1))*v1.cols)).toNat - (wr (x5.2*v1.cols)).toNat) (wr (a0 - v37)) (0+(wr (((x1.2.2.length:Nat):Int)*v1.cols)).toNat) ((wr ((wr (((x1.2.2.length:Nat):Int)+1))*v1.cols)).toNat - (wr (((x1.2.2.length:Nat):Int)*v1.cols)).toNat) v39 hv39) k k ⟨_,_,k,k,⟨_,_,k,⟨k,k,k,k⟩,⟨_,_,k,k,⟨_,_,k,⟨k,k,k,k⟩,k⟩⟩⟩⟩ ⟨⟨_,k,k,.inl ⟨k,bH.plainO _⟩⟩,k,aV⟩ k k k ⟨⟨_,k,k,.inl ⟨k,bH.plainO _⟩⟩,k,aV⟩ k ⟨k,k,(by simp only [aU,lA,lT,lR,lC,lN]),k⟩ k ⟨k,bH.tame _ _,aV⟩ k k) k<|cG h λq40 h=>an<|pA (by kernel_rfl)<|bC<|tn<|rg<|ae (bF k k) k<|am k k<|an<|tn<|sp h ⟨_,k,(bO (bL k2) (hX ⟨_,k,k,.inr ⟨_,_,k,⟨_,_,k,k,⟨_,_,k,k,⟨_,_,k,⟨k,k,(by simp only [aU,lA,lT,lR,lC,lN,of_decide_eq_true q40]),k⟩,k⟩⟩⟩,k⟩⟩ k<|bD k<|bT k<|bD k<|aV) k4)⟩
     ·rintro e t ⟨rfl,hent⟩;exact aP<|tn<|aR hent<|rg<|am k k<|am k k<|ae (wl k) k<|cG h λq42 h=>ae (yV aO (l:=x1.2.2) (m:=[x1.1]) pE q42 k k k k k k k k k k k k) k<|aa k k<|an<|bC<|tn<|rg<|ae (bF k k) k<|am k k<|an<|tn<|sp h ⟨_,k,(xF [0,1,2,5] (bL k2) (fK k<|bD k<|bT k<|bD k<|aV) k4)⟩
 ·rintro e t ⟨rfl,hent⟩;exact aP<|tn<|aR hent<|sR<|lp k8<|am k k<|ae (ws k) k<|aT k2<|aD<|sp h (bG k k k (dI k (bU (vN (aH (k) (aH (k) (aH (cU bH k k) fY)))) (bU (mB (cU bH k k)) gL))))
def vH (a0:Int) (a1:Mt):Option Int:=
 (qP a0 a1).bind λv1=>
 some (((v1.2.length:Nat):Int))
theorem aDx (a0:Int) (a1:Mt) (r:Int) (h:vH a0 a1=some r):HasC Tryz.prog 169 [.int a0,.agg (eM a1)] (.int r):=by
 exact hM [.tmp 4] Tryz.func169 Tryz.ntmps169 k<|sR<|ae (wb k) k<|aT k2<|sR<|am k k<|lp k8<|oB h λv1 hv1 h=>ae (AEff.conv (sW (x:= .tuple [.agg [.int v1.1.rows,.int v1.1.cols,.own 1 0 (v1.1.cells.map eI).length],.own 2 0 (v1.2.map eI).length]) (nb:=[(1,⟨1,bX (v1.1.cells.map eI)⟩),(2,⟨1,bX (v1.2.map eI)⟩)]) (aBa a0 a1 v1 hv1) k (by rfl) k k (gP (bJ aV (bJ aV (bJ (bH.good _) vO))) (gP (bH.good _) yG)) (cC k (aI (dH k) aJ))) (v':= .tuple [.agg [.int v1.1.rows,.int v1.1.cols,.own 1 0 v1.1.cells.length],.own 2 0 v1.2.length]) (ed':=[(1,some ⟨1,v1.1.cells.map (ow eI)⟩),(2,some ⟨1,v1.2.map (ow eI)⟩)]) (by simp only [aU]) (vY (nb':=[(1,⟨1,v1.1.cells.map (ow eI)⟩),(2,⟨1,v1.2.map (ow eI)⟩)]) (by simp only [fP]))) k<|am k k<|ae (bZ k k (by intro _ h;cases h)) k<|ae (bZ k k (by intro _ h;cases h)) k<|ae (cA aO k k) k<|ae (ws k) k<|aT k2<|sR<|am k k<|ae (dO aO k k k k) k<|aT k2<|aD<|tW h k2
def rZ (a0:Rp) (a1:Rp):Option Bool:=
 (tF a0).bind λv1=>
 bif v1 then
 ((tF a1).bind λv3=>
 bif v3 then
 (bif decide (a0.p=a1.p) then
 ((lI a0.q a1.q).bind λv6=>
 some (v6))
 else
 (some (false)))
 else
 (some (false)))
 else
 (some (false))
theorem aFe (a0:Rp) (a1:Rp) (r:Bool) (h:rZ a0 a1=some r):HasC Tryz.prog 61 [.agg (eR a0),.agg (eR a1)] (.bl r):=by
 exact hM [.tmp 4] Tryz.func61 Tryz.ntmps61 k<|sR<|ae (wb k) k<|ae (wb k) k<|aT k2<|sR<|lp k8<|oB h λv1 hv1 h=>ae (aL (aCf a0 v1 hv1) k (aI (dH k) aJ)) k<|am k k<|oC h (λq2 h=>aM 7 k q2<|lp k8<|oB h λv3 hv3 h=>ae (aL (aCf a1 v3 hv3) k (aI (dH k) aJ)) k<|pk k3<|am k k<|oC h (λq4 h=>aM 11 k q4<|fp k8<|lp k8<|fp k8<|lp k8<|cm k4<|pk k3<|am k k<|oC h (λq5 h=>aM 18 k q5<|fp k8<|lp k8<|fp k8<|lp k8<|oB h λv6 hv6 h=>ae (aL (aBQ a0.q a1.q v6 hv6) k (aI (dH k) (aI (dH k) aJ))) k<|pk k3<|aT k2<|aD<|dY h k2) λq5 h=>aM 18 k q5<|aK k4<|aK k4<|ak k k<|pk k3<|aT k2<|aD<|dY h k2) λq4 h=>aM 11 k q4<|aK k4<|aK k4<|ak k k<|pk k3<|am k k<|aK k4<|aK k4<|ak k k<|pk k3<|aT k2<|aD<|dY h k2) λq2 h=>aM 7 k q2<|aK k4<|pk k3<|am k k<|aK k4<|aK k4<|ak k k<|pk k3<|am k k<|aK k4<|aK k4<|ak k k<|pk k3<|aT k2<|aD<|dY h k2
end
noncomputable section
set_option maxRecDepth 10000
set_option maxHeartbeats 4000000
def kY (a0:(List Int)) (a1:Int):Option Int:=
 bif decide (wr (a1 - (a0.length:Int))<0) then
 (some ((-1)))
 else
 (some (wr (a1 - (a0.length:Int))))
theorem uQ (a0:(List Int)) (a1:Int) (r:Int) (h:kY a0 a1=some r):HasC Tryz.prog 53 [.list 1 (a0.map eI),.int a1] (.int r):=by
 exact hM [.tmp 4] Tryz.func53 Tryz.ntmps53 k<|sR<|aT k2<|sR<|am k k<|am k k<|ln k4<|ae (qI k k) k<|aT k2<|sQ<|sR<|am k k<|cm k4<|an<|tn<|cJ k h (λ_ h=>sR<|aT k2<|aD<|aB<|tW h k2) λ_ h=>aE<|tn<|sR<|am k k<|aT k2<|aD<|tW h k2
def vT (a0:Qv) (a1:Int):Option Int:=
 (kY a0.src a1).bind λv1=>
 bif decide (v1<0) then
 (some ((-1)))
 else
 ((kY a0.tgt v1).bind λv3=>
 bif decide (v3<0) then
 (some ((-1)))
 else
 (some (v3)))
theorem aEL (a0:Qv) (a1:Int) (r:Int) (h:vT a0 a1=some r):HasC Tryz.prog 52 [.agg (eQ a0),.int a1] (.int r):=by
 exact hM [.tmp 4] Tryz.func52 Tryz.ntmps52 k<|sR<|ae (wb k) k<|aT k2<|sR<|fp k8<|lp k8<|am k k<|oB h λv1 hv1 h=>ae (aL (uQ a0.src a1 v1 hv1) k (cC k (cC k aJ))) k<|aT k2<|sQ<|sR<|am k k<|cm k4<|an<|tn<|cJ k h (λ_ h=>sR<|aT k2<|aD<|aB<|tW h k2) λ_ h=>aE<|tn<|sR<|fp k8<|lp k8<|am k k<|oB h λv3 hv3 h=>ae (aL (uQ a0.tgt v1 v3 hv3) k (cC k (cC k aJ))) k<|aT k2<|sQ<|sR<|am k k<|cm k4<|an<|tn<|cJ k h (λ_ h=>sR<|aT k2<|aD<|aB<|tW h k2) λ_ h=>aE<|tn<|sR<|am k k<|aT k2<|aD<|tW h k2
def vU (a0:Mt) (a1:Int):Option Int:=
 (kY a0.cells a1).bind λv1=>
 bif decide (v1<0) then
 (some ((-1)))
 else
 (some (v1))
theorem aEM (a0:Mt) (a1:Int) (r:Int) (h:vU a0 a1=some r):HasC Tryz.prog 109 [.agg (eM a0),.int a1] (.int r):=by
 exact hM [.tmp 4] Tryz.func109 Tryz.ntmps109 k<|sR<|ae (wb k) k<|aT k2<|sR<|fp k8<|lp k8<|am k k<|oB h λv1 hv1 h=>ae (aL (uQ a0.cells a1 v1 hv1) k (cC k (cC k aJ))) k<|aT k2<|sQ<|sR<|am k k<|cm k4<|an<|tn<|cJ k h (λ_ h=>sR<|aT k2<|aD<|aB<|tW h k2) λ_ h=>aE<|tn<|sR<|am k k<|aT k2<|aD<|tW h k2
def lJ (a0:(List Mt)) (x1:(Int×Int)):Option ((Int×Int) ⊕ (Int ⊕ Int)):=
 bif decide (x1.2<(a0.length:Int)) then
 ((dF a0 x1.2).bind λv3=>
 (vU v3 x1.1).bind λv4=>
 bif decide (v4<0) then
 (some (.inr (.inr ((-1)))))
 else
 (some (.inl (v4,wr (x1.2+1)))))
 else
 (some (.inr (.inl x1.1)))
def pT (a0:(List Mt)) (a1:Int):Option Int:=
 bif decide (wr (a1 - (a0.length:Int))<0) then
 (some ((-1)))
 else
 ((Lp (lJ a0) (wr (a1 - (a0.length:Int)),0)).bind λy6=>
 Sum.elim (λy7=>
 some (y7)
 )
 (λy8=>
 some y8
 )
 y6)
theorem aDd (a0:(List Mt)) (a1:Int) (r:Int) (h:pT a0 a1=some r):HasC Tryz.prog 54 [.list 3 (a0.map eM),.int a1] (.int r):=by
 refine hM [.tmp 4] Tryz.func54 Tryz.ntmps54 k<|sR<|aT k2<|sR<|am k k<|am k k<|ln k4<|ae (qI k k) k<|aT k2<|sQ<|sR<|am k k<|cm k4<|an<|tn<|cJ k h (λ_ h=>sR<|aT k2<|aD<|aB<|tW h k2) λ_ h=>?_;refine aE<|tn<|sQ<|sR<|aT k2<|aG<|oB h λy6 hy6 h=>bY (body:=(lJ a0)) hy6 (λ(x1:(Int×Int))=>mN [(0,.list 3 (a0.map eM)),(1,.int x1.1),(5,.int x1.2)] [] 0) (λr e t=>Sum.elim (λa=>(λr e t=>e= .exit 0∧Ent t (mN [(1,.int r)] [] 0)) a e t) (λb=>(λr e t=>e= .ret∧nL TT [.tmp 4] (.int r) .ret t) b e t) r) (bO (bL k2) aV k4) ?_ ?_
 ·intro x1 o h;exact sQ<|sR<|am k k<|am k k<|ln k4<|cm k4<|an<|tn<|cJ k h (λ_ h=>aE<|tn<|sQ<|aG<|sR<|am k k<|am k k<|oB h λv3 hv3 h=>ae (xl hv3 k) k<|lr k7<|am k k<|oB h λv4 hv4 h=>ae (aL (aEM v3 x1.1 v4 hv4) k (aI (dH k) (cC k aJ))) k<|aT k2<|sR<|am k k<|cm k4<|an<|tn<|cJ k h (λ_ h=>sR<|aT k2<|aD<|bA<|aB<|aB<|sp h ⟨_,k,k,bG k k k (jT k)⟩) λ_ h=>aE<|bC<|tn<|rg<|am k k<|ae (bF k k) k<|aT k2<|sp h ⟨_,k,(bO (bL k2) aV k4)⟩) λ_ h=>bB<|aC<|aC<|sp h ⟨_,k,k,(bO (bL k2) aV k4)⟩
 ·intro e t hX;rcases y6 with y7|y8
  ·obtain ⟨rfl,hent⟩:=hX;exact aP<|tn<|aR hent<|sR<|am k k<|aT k2<|aD<|tW h k2
  ·obtain ⟨rfl,hent⟩:=hX;exact bA<|aB<|sp h hent
def wH (a0:Rp) (a1:Int):Option Int:=
 (vT a0.q a1).bind λv1=>
 bif decide (v1<0) then
 (some ((-1)))
 else
 ((kY a0.dims v1).bind λv3=>
 bif decide (v3<0) then
 (some ((-1)))
 else
 ((pT a0.maps v3).bind λv5=>
 bif decide (v5<0) then
 (some ((-1)))
 else
 (some (v5))))
theorem aCh (a0:Rp) (a1:Int) (r:Int) (h:wH a0 a1=some r):HasC Tryz.prog 13 [.agg (eR a0),.int a1] (.int r):=by
 exact hM [.tmp 4] Tryz.func13 Tryz.ntmps13 k<|sR<|ae (wb k) k<|aT k2<|sR<|fp k8<|lp k8<|am k k<|oB h λv1 hv1 h=>ae (aL (aEL a0.q a1 v1 hv1) k (aI (dH k) (cC k aJ))) k<|aT k2<|sQ<|sR<|am k k<|cm k4<|an<|tn<|cJ k h (λ_ h=>sR<|aT k2<|aD<|aB<|tW h k2) λ_ h=>aE<|tn<|sR<|fp k8<|lp k8<|am k k<|oB h λv3 hv3 h=>ae (aL (uQ a0.dims v1 v3 hv3) k (cC k (cC k aJ))) k<|aT k2<|sQ<|sR<|am k k<|cm k4<|an<|tn<|cJ k h (λ_ h=>sR<|aT k2<|aD<|aB<|tW h k2) λ_ h=>aE<|tn<|sR<|fp k8<|lp k8<|am k k<|oB h λv5 hv5 h=>ae (aL (aDd a0.maps v3 v5 hv5) k (cC k (cC k aJ))) k<|aT k2<|sQ<|sR<|am k k<|cm k4<|an<|tn<|cJ k h (λ_ h=>sR<|aT k2<|aR (t:=mN [(4,.int (-1))] [] 1) (bO (bL k2) aV k4)<|aD<|aB<|tW h k2) λ_ h=>aE<|tn<|sR<|am k k<|aT k2<|aD<|tW h k2
def pU (a0:(List Int)) (x1:((List Int)×Int)):Option (((List Int)×Int) ⊕ (List Int)):=
 bif decide (x1.2<(a0.length:Int)) then
 ((dF a0 x1.2).bind λv2=>
 (dF x1.1 x1.2).bind λv3=>
 some (.inl ((x1.1.set x1.2.toNat v2),wr (x1.2+1))))
 else
 (some (.inr x1.1))
def kZ (a0:(List Int)):Option (List Int):=
 bif (decide (0≤(a0.length:Int))&&decide ((a0.length:Int)≤1048576)) then
 ((Lp (pU a0) ((List.replicate ((a0.length:Int).toNat) (0:Int)),0)).bind λy4=>
 some (y4))
 else none
theorem uR (a0:(List Int)) (r:(List Int)) (h:kZ a0=some r):HasC Tryz.prog 23 [.list 1 (a0.map eI)] (.list 1 (r.map eI)):=by
 refine hM [.tmp 2] Tryz.func23 Tryz.ntmps23 k<|sR<|aT k2<|sR<|am k k<|ln k4<|cG h λq5 h=>ae (yH aO q5 k k k k k k k k) k<|aT k2<|aR (t:=mN [(0,.list 1 (a0.map eI)),(3,.own 0 0 ((List.replicate ((a0.length:Int).toNat) (0:Int)).length))] [(0,⟨1,List.map (ow eI) (List.replicate ((a0.length:Int).toNat) (0:Int))⟩)] 1) (bO (wP 1 k2 (sO ⟨_,k,⟨k,k,(by simp only [aU,lA,lT,lR,lC,lN]),k⟩⟩ aV)) (hX ⟨_,k,k,.inl ⟨aAE (e:=eI) (z:=0) _,bH.plainO _⟩⟩ k<|aV) k4)<|sQ<|sR<|aT k2<|aG<|oB h λy4 hy4 h=>bY (body:=(pU a0)) hy4 (λ(x1:((List Int)×Int))=>mN [(0,.list 1 (a0.map eI)),(3,.own 0 0 x1.1.length),(4,.int x1.2)] [(0,⟨1,x1.1.map (ow eI)⟩)] 1) (λr e t=>e= .exit 0∧Ent t (mN [(3,.own 0 0 r.length)] [(0,⟨1,r.map (ow eI)⟩)] 1)) (bO (bL k2) (bD k<|aV) k4) ?_ ?_
 ·intro x1 o h;exact sQ<|sR<|am k k<|am k k<|ln k4<|cm k4<|an<|tn<|cJ k h (λ_ h=>aE<|tn<|sQ<|aG<|rg<|am k k<|am k k<|am k k<|am k k<|oB h λv2 hv2 h=>ae (xl hv2 k) k<|lr k7<|oB h λv3 hv3 h=>ae (xo hv3 k) k<|ae (gO aO pE (u:=v2) (dU hv3) k k k k k k) k<|an<|bC<|tn<|rg<|am k k<|ae (bF k k) k<|aT k2<|sp h ⟨_,k,(bO (wP 1 k2 (sO ⟨_,k,⟨k,k,(by simp only [aU,lA,lT,lR,lC,lN]),k⟩⟩ (bL k2))) (bD k<|aV) k4)⟩) λ_ h=>bB<|aC<|aC<|sp h ⟨_,k,k,(bO (bL k2) (bD k<|aV) k4)⟩
 ·rintro e t ⟨rfl,hent⟩;exact aP<|tn<|aR hent<|sR<|am k k<|aT k2<|aD<|sp h (bG k k k (hO (cU bH k k)))
def rE (a0:Qv):Option Qv:=
 (kZ a0.src).bind λv1=>
 (kZ a0.tgt).bind λv2=>
 some ((⟨a0.n,v1,v2⟩:Qv))
theorem aEN (a0:Qv) (r:Qv) (h:rE a0=some r):HasC Tryz.prog 59 [.agg (eQ a0)] (.agg (eQ r)):=by
 refine hM [.cell 2 29] Tryz.func59 Tryz.ntmps59 k<|sR<|ae (wb k) k<|ae (cA aO k k) k<|an<|tn<|sR<|ae (cA aO k k) k<|an<|tn<|sR<|fp k8<|lp k8<|fp k8<|ae (ws k) k<|an<|tn<|sR<|fp k8<|lp k8<|oB h λv1 hv1 h=>ae (cL bH (uR a0.src v1 hv1) k3 (cC k aJ)) k<|fp k8<|ae (ws k) k<|an<|tn<|sQ ?_;exact rg<|fp k8<|lp k8<|oB h λv2 hv2 h=>ae (cL bH (uR a0.tgt v2 hv2) k3 (cC k aJ)) k<|fp k8<|ae (ws k) k<|an<|tn<|sR<|lp k8<|ae (ws k) k<|an<|tn<|aD<|sp h (bG k k k (pD (aH (k) (aH (cU bH k k) (aH (cU bH k k) fY)))))
def rF (a0:Mt):Option Mt:=
 (kZ a0.cells).bind λv1=>
 some ((⟨a0.rows,a0.cols,v1⟩:Mt))
theorem aEO (a0:Mt) (r:Mt) (h:rF a0=some r):HasC Tryz.prog 116 [.agg (eM a0)] (.agg (eM r)):=by
 refine hM [.cell 2 113] Tryz.func116 Tryz.ntmps116 k<|sR<|ae (wb k) k<|ae (cA aO k k) k<|an<|tn<|sR<|ae (cA aO k k) k<|an<|tn<|sR<|fp k8<|lp k8<|fp k8<|ae (ws k) k<|an<|tn<|sR<|fp k8<|lp k8<|fp k8<|ae (ws k) k<|an<|tn<|sR ?_;exact fp k8<|lp k8<|oB h λv1 hv1 h=>ae (cL bH (uR a0.cells v1 hv1) k3 (cC k aJ)) k<|fp k8<|ae (ws k) k<|an<|tn<|sR<|lp k8<|ae (ws k) k<|an<|tn<|aD<|sp h (bG k k k (pD (aH (k) (aH (k) (aH (cU bH k k) fY)))))
def lK (a0:(List Mt)) (x1:((List Mt)×Int)):Option (((List Mt)×Int) ⊕ (List Mt)):=
 bif decide (x1.2<(a0.length:Int)) then
 ((dF a0 x1.2).bind λv2=>
 (rF v2).bind λv3=>
 (dF x1.1 x1.2).bind λv4=>
 some (.inl ((x1.1.set x1.2.toNat v3),wr (x1.2+1))))
 else
 (some (.inr x1.1))
def pV (a0:(List Mt)):Option (List Mt):=
 bif (decide (0≤(a0.length:Int))&&decide ((a0.length:Int)≤1048576)) then
 ((Lp (lK a0) ((List.replicate ((a0.length:Int).toNat) ((⟨0,0,[]⟩:Mt):Mt)),0)).bind λy5=>
 some (y5))
 else none
theorem aDe (a0:(List Mt)) (r:(List Mt)) (h:pV a0=some r):HasC Tryz.prog 60 [.list 3 (a0.map eM)] (.list 3 (r.map eM)):=by
 refine hM [.tmp 2] Tryz.func60 Tryz.ntmps60 k<|sR<|aT k2<|sR<|am k k<|ln k4<|cG h λq6 h=>ae (yH aO q6 k k k k k k k k) k<|aT k2<|aR (t:=mN [(0,.list 3 (a0.map eM)),(3,.own 0 0 ((List.replicate ((a0.length:Int).toNat) ((⟨0,0,[]⟩:Mt):Mt)).length))] [(0,⟨3,List.map (ow eM) (List.replicate ((a0.length:Int).toNat) ((⟨0,0,[]⟩:Mt):Mt))⟩)] 1) (bO (wP 1 k2 (sO ⟨_,k,⟨k,k,(by simp only [aU,lA,lT,lR,lC,lN]),k⟩⟩ aV)) (hX ⟨_,k,k,.inr (aJz (e:=eM) (z:=(⟨0,0,[]⟩:Mt)) (zc:=[.int 0,.int 0,.nil 1]) ⟨_,_,k,k,⟨_,_,k,k,⟨_,_,k,k,k⟩⟩⟩ _)⟩ k<|aV) k4)<|sQ<|sR<|aT k2<|aG<|oB h λy5 hy5 h=>bY (body:=(lK a0)) hy5 (λ(x1:((List Mt)×Int))=>mN [(0,.list 3 (a0.map eM)),(3,.own 0 0 x1.1.length),(4,.int x1.2)] [(0,⟨3,x1.1.map (ow eM)⟩)] 1) (λr e t=>e= .exit 0∧Ent t (mN [(3,.own 0 0 r.length)] [(0,⟨3,r.map (ow eM)⟩)] 1)) (bO (bL k2) (cF (aW.plainO _) k<|aV) k4) ?_ ?_
 ·intro x1 o h;exact sQ<|sR<|am k k<|am k k<|ln k4<|cm k4<|an<|tn<|cJ k h (λ_ h=>aE<|tn<|sQ<|aG<|rg<|am k k<|am k k<|am k k<|am k k<|oB h λv2 hv2 h=>ae (xl hv2 k) k<|lr k7<|oB h λv3 hv3 h=>ae (cM (aEO v2 v3 hv3) k3 (aI (dH k) aJ)) k<|oB h λv4 hv4 h=>ae (xo hv4 k) k<|ae (aEl aO k k k k k k (vM (dU hv4)) k) k<|an<|bC<|tn<|rg<|am k k<|ae (bF k k) k<|aT k2<|sp h ⟨_,k,(Ent.trans (show Ent _ (mN [(0,.list 3 (a0.map eM)),(3,.own 0 0 ((x1.1.set x1.2.toNat v3).length)),(4,.int (wr (x1.2+1)))] [(0,⟨3,List.map (ow eM) (x1.1.set x1.2.toNat v3)⟩)] 2) from (Ent.trans (sZ (b:=0) (b':=1) (j:=2) (es':=v3.cells.map eI) (by rw [dB];exact eP hv4) k k k k (aU _ _) (bH.frzs _)) (bO (wP 1 k2 (sO ⟨_,k,⟨k,k,(by simp only [aU,lA,lT,lR,lC,lN]),k⟩⟩ (bL k2))) (hX ⟨_,k,k,.inl ⟨aBp v3 k,aW.plainO _⟩⟩ k<|aV) k4))) (bO (bL k2) (cF (aW.plainO _) k<|aV) k4))⟩) λ_ h=>bB<|aC<|aC<|sp h ⟨_,k,k,(bO (bL k2) (cF (aW.plainO _) k<|aV) k4)⟩
 ·rintro e t ⟨rfl,hent⟩;exact aP<|tn<|aR hent<|sR<|am k k<|aT k2<|aD<|sp h (bG k k k (hO (cU aW k k)))
def gC (a0:Rp):Option Rp:=
 (rE a0.q).bind λv1=>
 (kZ a0.dims).bind λv2=>
 (pV a0.maps).bind λv3=>
 some ((⟨a0.p,v1,v2,v3⟩:Rp))
theorem kJ (a0:Rp) (r:Rp) (h:gC a0=some r):HasC Tryz.prog 15 [.agg (eR a0)] (.agg (eR r)):=by
 refine hM [.cell 2 32] Tryz.func15 Tryz.ntmps15 k<|sR<|ae (wb k) k<|ae (cA aO k k) k<|an<|tn<|sR<|ae (cA aO k k) k<|an<|tn<|sR<|fp k8<|lp k8<|fp k8<|ae (ws k) k<|an<|tn<|sR<|fp k8<|lp k8<|oB h λv1 hv1 h=>ae (cQ (aEN a0.q v1 hv1) k3 (aI (dH k) aJ)) k<|fp k8<|ae (ws k) k<|an<|tn<|sQ ?_;exact rg<|fp k8<|lp k8<|oB h λv2 hv2 h=>ae (cL bH (uR a0.dims v2 hv2) k3 (cC k aJ)) k<|fp k8<|ae (ws k) k<|an<|tn<|sR<|fp k8<|lp k8<|oB h λv3 hv3 h=>ae (cL aW (aDe a0.maps v3 hv3) k3 (cC k aJ)) k<|fp k8<|ae (ws k) k<|an<|tn<|sR<|lp k8<|ae (ws k) k<|an<|tn<|aR (t:=mN [(2,.ptr 1 0 0)] [(1,⟨6,[[.int a0.p,.int v1.n,.own 3 0 v1.src.length,.own 4 0 v1.tgt.length,.own 5 0 v2.length,.own 6 0 v3.length]]⟩),(3,⟨1,v1.src.map (ow eI)⟩),(4,⟨1,v1.tgt.map (ow eI)⟩),(5,⟨1,v2.map (ow eI)⟩),(6,⟨3,v3.map (ow eM)⟩)] 7) (bO (bL k2) (fK k<|bD k<|bD k<|bD k<|cF (aW.plainO _) k<|aV) k4)<|aD<|sp h (bG k k k (pD (aH (k) (aH (k) (aH (cU bH k k) (aH (cU bH k k) (aH (cU bH k k) (aH (cU aW k k) fY))))))))
def uG (a0:(List Int)) (a1:(List Int)) (x1:Int):Option (Int ⊕ (Unit ⊕ Bool)):=
 bif decide (x1<(a0.length:Int)) then
 ((dF a0 x1).bind λv3=>
 (dF a1 x1).bind λv4=>
 bif !decide (v3=v4) then
 (some (.inr (.inr (false))))
 else
 (some (.inl (wr (x1+1)))))
 else
 (some (.inr (.inl ())))
def iW (a0:(List Int)) (a1:(List Int)):Option Bool:=
 bif !decide ((a0.length:Int)=(a1.length:Int)) then
 (some (false))
 else
 ((Lp (uG a0 a1) 0).bind λy6=>
 Sum.elim (λy7=>
 some (true)
 )
 (λy8=>
 some y8
 )
 y6)
theorem nT (a0:(List Int)) (a1:(List Int)) (r:Bool) (h:iW a0 a1=some r):HasC Tryz.prog 25 [.list 1 (a0.map eI),.list 1 (a1.map eI)] (.bl r):=by
 refine hM [.tmp 4] Tryz.func25 Tryz.ntmps25 k<|sR<|aT k2<|sQ<|sR<|am k k<|ln k4<|am k k<|ln k4<|cm k4<|an<|tn<|cJ k h (λ_ h=>sR<|aT k2<|aD<|aB<|dY h k2) λ_ h=>?_;refine aE<|tn<|sQ<|sR<|aT k2<|aG<|oB h λy6 hy6 h=>bY (body:=(uG a0 a1)) hy6 (λ(x1:Int)=>mN [(0,.list 1 (a0.map eI)),(1,.list 1 (a1.map eI)),(5,.int x1)] [] 0) (λr e t=>Sum.elim (λa=>(λr e t=>e= .exit 0∧Ent t (mN [] [] 0)) a e t) (λb=>(λr e t=>e= .ret∧nL TT [.tmp 4] (.bl r) .ret t) b e t) r) (bO (bL k2) aV k4) ?_ ?_
 ·intro x1 o h;exact sQ<|sR<|am k k<|am k k<|ln k4<|cm k4<|an<|tn<|cJ k h (λ_ h=>aE<|tn<|sQ<|aG<|sQ<|aS fF<|am k k<|am k k<|oB h λv3 hv3 h=>ae (xl hv3 k) k<|lr k7<|am k k<|am k k<|oB h λv4 hv4 h=>ae (xl hv4 k) k<|lr k7<|cm k4<|an<|pA (by kernel_rfl)<|tn<|cJ k h (λ_ h=>sR<|aT k2<|aD<|bA<|aB<|aB<|sp h ⟨_,k,k,bG k k k (nM k)⟩) λ_ h=>aE<|bC<|tn<|rg<|am k k<|ae (bF k k) k<|aT k2<|sp h ⟨_,k,(bO (bL k2) aV k4)⟩) λ_ h=>bB<|aC<|aC<|sp h ⟨_,k,k,(bO aV aV k4)⟩
 ·intro e t hX;rcases y6 with y7|y8
  ·obtain ⟨rfl,hent⟩:=hX;exact aP<|tn<|aR hent<|sR<|aT k2<|aD<|dY h k2
  ·obtain ⟨rfl,hent⟩:=hX;exact bA<|aB<|sp h hent
def rG (a0:Qv) (a1:Qv):Option Bool:=
 bif !decide (a0.n=a1.n) then
 (some (false))
 else
 ((iW a0.src a1.src).bind λv2=>
 bif !v2 then
 (some (false))
 else
 ((iW a0.tgt a1.tgt).bind λv4=>
 bif !v4 then
 (some (false))
 else
 (some (true))))
theorem aEP (a0:Qv) (a1:Qv) (r:Bool) (h:rG a0 a1=some r):HasC Tryz.prog 68 [.agg (eQ a0),.agg (eQ a1)] (.bl r):=by
 exact hM [.tmp 4] Tryz.func68 Tryz.ntmps68 k<|sR<|ae (wb k) k<|ae (wb k) k<|aT k2<|sQ<|sR<|fp k8<|lp k8<|fp k8<|lp k8<|cm k4<|an<|tn<|cJ k h (λ_ h=>sR<|aT k2<|aD<|aB<|dY h k2) λ_ h=>aE<|tn<|sQ<|sR<|fp k8<|lp k8<|fp k8<|lp k8<|oB h λv2 hv2 h=>ae (aL (nT a0.src a1.src v2 hv2) k (cC k (cC k aJ))) k<|ae (dE k) k<|an<|tn<|cJ k h (λ_ h=>sR<|aT k2<|aD<|aB<|dY h k2) λ_ h=>aE<|tn<|sQ<|sR<|fp k8<|lp k8<|fp k8<|lp k8<|oB h λv4 hv4 h=>ae (aL (nT a0.tgt a1.tgt v4 hv4) k (cC k (cC k aJ))) k<|ae (dE k) k<|an<|tn<|cJ k h (λ_ h=>sR<|aT k2<|aD<|aB<|dY h k2) λ_ h=>aE<|tn<|sR<|aT k2<|aD<|dY h k2
def rH (a0:Mt) (a1:Mt):Option Bool:=
 bif !decide (a0.rows=a1.rows) then
 (some (false))
 else
 (bif !decide (a0.cols=a1.cols) then
 (some (false))
 else
 ((iW a0.cells a1.cells).bind λv3=>
 bif !v3 then
 (some (false))
 else
 (some (true))))
theorem aEQ (a0:Mt) (a1:Mt) (r:Bool) (h:rH a0 a1=some r):HasC Tryz.prog 124 [.agg (eM a0),.agg (eM a1)] (.bl r):=by
 exact hM [.tmp 4] Tryz.func124 Tryz.ntmps124 k<|sR<|ae (wb k) k<|ae (wb k) k<|aT k2<|sQ<|sR<|fp k8<|lp k8<|fp k8<|lp k8<|cm k4<|an<|tn<|cJ k h (λ_ h=>sR<|aT k2<|aD<|aB<|dY h k2) λ_ h=>aE<|tn<|sQ<|sR<|fp k8<|lp k8<|fp k8<|lp k8<|cm k4<|an<|tn<|cJ k h (λ_ h=>sR<|aT k2<|aD<|aB<|dY h k2) λ_ h=>aE<|tn<|sQ<|sR<|fp k8<|lp k8<|fp k8<|lp k8<|oB h λv3 hv3 h=>ae (aL (nT a0.cells a1.cells v3 hv3) k (cC k (cC k aJ))) k<|ae (dE k) k<|an<|tn<|cJ k h (λ_ h=>sR<|aT k2<|aD<|aB<|dY h k2) λ_ h=>aE<|tn<|sR<|aT k2<|aD<|dY h k2
def lL (a0:(List Mt)) (a1:(List Mt)) (x1:Int):Option (Int ⊕ (Unit ⊕ Bool)):=
 bif decide (x1<(a0.length:Int)) then
 ((dF a0 x1).bind λv3=>
 (dF a1 x1).bind λv4=>
 (rH v3 v4).bind λv5=>
 bif !v5 then
 (some (.inr (.inr (false))))
 else
 (some (.inl (wr (x1+1)))))
 else
 (some (.inr (.inl ())))
def mH (a0:(List Mt)) (a1:(List Mt)):Option Bool:=
 bif !decide ((a0.length:Int)=(a1.length:Int)) then
 (some (false))
 else
 ((Lp (lL a0 a1) 0).bind λy7=>
 Sum.elim (λy8=>
 some (true)
 )
 (λy9=>
 some y9
 )
 y7)
theorem zD (a0:(List Mt)) (a1:(List Mt)) (r:Bool) (h:mH a0 a1=some r):HasC Tryz.prog 66 [.list 3 (a0.map eM),.list 3 (a1.map eM)] (.bl r):=by
 refine hM [.tmp 4] Tryz.func66 Tryz.ntmps66 k<|sR<|aT k2<|sQ<|sR<|am k k<|ln k4<|am k k<|ln k4<|cm k4<|an<|tn<|cJ k h (λ_ h=>sR<|aT k2<|aD<|aB<|dY h k2) λ_ h=>?_;refine aE<|tn<|sQ<|sR<|aT k2<|aG<|oB h λy7 hy7 h=>bY (body:=(lL a0 a1)) hy7 (λ(x1:Int)=>mN [(0,.list 3 (a0.map eM)),(1,.list 3 (a1.map eM)),(5,.int x1)] [] 0) (λr e t=>Sum.elim (λa=>(λr e t=>e= .exit 0∧Ent t (mN [] [] 0)) a e t) (λb=>(λr e t=>e= .ret∧nL TT [.tmp 4] (.bl r) .ret t) b e t) r) (bO (bL k2) aV k4) ?_ ?_
 ·intro x1 o h;exact sQ<|sR<|am k k<|am k k<|ln k4<|cm k4<|an<|tn<|cJ k h (λ_ h=>aE<|tn<|sQ<|aG<|sQ<|aS fF<|am k k<|am k k<|oB h λv3 hv3 h=>ae (xl hv3 k) k<|lr k7<|am k k<|am k k<|oB h λv4 hv4 h=>ae (xl hv4 k) k<|lr k7<|oB h λv5 hv5 h=>ae (aL (aEQ v3 v4 v5 hv5) k (aI (dH k) (aI (dH k) aJ))) k<|ae (dE k) k<|an<|pA (by kernel_rfl)<|tn<|cJ k h (λ_ h=>sR<|aT k2<|aD<|bA<|aB<|aB<|sp h ⟨_,k,k,bG k k k (nM k)⟩) λ_ h=>aE<|bC<|tn<|rg<|am k k<|ae (bF k k) k<|aT k2<|sp h ⟨_,k,(bO (bL k2) aV k4)⟩) λ_ h=>bB<|aC<|aC<|sp h ⟨_,k,k,(bO aV aV k4)⟩
 ·intro e t hX;rcases y7 with y8|y9
  ·obtain ⟨rfl,hent⟩:=hX;exact aP<|tn<|aR hent<|sR<|aT k2<|aD<|dY h k2
  ·obtain ⟨rfl,hent⟩:=hX;exact bA<|aB<|sp h hent
def kK (a0:Rp) (a1:Rp):Option Bool:=
 bif !decide (a0.p=a1.p) then
 (some (false))
 else
 ((rG a0.q a1.q).bind λv2=>
 bif !v2 then
 (some (false))
 else
 ((iW a0.dims a1.dims).bind λv4=>
 bif !v4 then
 (some (false))
 else
 ((mH a0.maps a1.maps).bind λv6=>
 bif !v6 then
 (some (false))
 else
 (some (true)))))
theorem tH (a0:Rp) (a1:Rp) (r:Bool) (h:kK a0 a1=some r):HasC Tryz.prog 18 [.agg (eR a0),.agg (eR a1)] (.bl r):=by
 exact hM [.tmp 4] Tryz.func18 Tryz.ntmps18 k<|sR<|ae (wb k) k<|ae (wb k) k<|aT k2<|sQ<|sR<|fp k8<|lp k8<|fp k8<|lp k8<|cm k4<|an<|tn<|cJ k h (λ_ h=>sR<|aT k2<|aD<|aB<|dY h k2) λ_ h=>aE<|tn<|sQ<|sR<|fp k8<|lp k8<|fp k8<|lp k8<|oB h λv2 hv2 h=>ae (aL (aEP a0.q a1.q v2 hv2) k (aI (dH k) (aI (dH k) aJ))) k<|ae (dE k) k<|an<|tn<|cJ k h (λ_ h=>sR<|aT k2<|aD<|aB<|dY h k2) λ_ h=>aE<|tn<|sQ<|sR<|fp k8<|lp k8<|fp k8<|lp k8<|oB h λv4 hv4 h=>ae (aL (nT a0.dims a1.dims v4 hv4) k (cC k (cC k aJ))) k<|ae (dE k) k<|an<|tn<|cJ k h (λ_ h=>sR<|aT k2<|aD<|aB<|dY h k2) λ_ h=>aE<|tn<|sQ<|sR<|fp k8<|lp k8<|fp k8<|lp k8<|oB h λv6 hv6 h=>ae (aL (zD a0.maps a1.maps v6 hv6) k (cC k (cC k aJ))) k<|ae (dE k) k<|an<|tn<|aR (t:=mN [(27,.bl (!v6))] [] 2) (bO (bL k2) aV k4)<|cJ k h (λ_ h=>sR<|aT k2<|aD<|aB<|dY h k2) λ_ h=>aE<|tn<|sR<|aT k2<|aD<|dY h k2
def uH (a0:(List Rp)) (a1:(List Rp)) (x1:Int):Option (Int ⊕ (Unit ⊕ Bool)):=
 bif decide (x1<(a0.length:Int)) then
 ((dF a0 x1).bind λv3=>
 (dF a1 x1).bind λv4=>
 (kK v3 v4).bind λv5=>
 bif !v5 then
 (some (.inr (.inr (false))))
 else
 (some (.inl (wr (x1+1)))))
 else
 (some (.inr (.inl ())))
def uS (a0:(List Rp)) (a1:(List Rp)):Option Bool:=
 bif !decide ((a0.length:Int)=(a1.length:Int)) then
 (some (false))
 else
 ((Lp (uH a0 a1) 0).bind λy7=>
 Sum.elim (λy8=>
 some (true)
 )
 (λy9=>
 some y9
 )
 y7)
theorem aGK (a0:(List Rp)) (a1:(List Rp)) (r:Bool) (h:uS a0 a1=some r):HasC Tryz.prog 65 [.list 6 (a0.map eR),.list 6 (a1.map eR)] (.bl r):=by
 refine hM [.tmp 4] Tryz.func65 Tryz.ntmps65 k<|sR<|aT k2<|sQ<|sR<|am k k<|ln k4<|am k k<|ln k4<|cm k4<|an<|tn<|cJ k h (λ_ h=>sR<|aT k2<|aD<|aB<|dY h k2) λ_ h=>?_;refine aE<|tn<|sQ<|sR<|aT k2<|aG<|oB h λy7 hy7 h=>bY (body:=(uH a0 a1)) hy7 (λ(x1:Int)=>mN [(0,.list 6 (a0.map eR)),(1,.list 6 (a1.map eR)),(5,.int x1)] [] 0) (λr e t=>Sum.elim (λa=>(λr e t=>e= .exit 0∧Ent t (mN [] [] 0)) a e t) (λb=>(λr e t=>e= .ret∧nL TT [.tmp 4] (.bl r) .ret t) b e t) r) (bO (bL k2) aV k4) ?_ ?_
 ·intro x1 o h;exact sQ<|sR<|am k k<|am k k<|ln k4<|cm k4<|an<|tn<|cJ k h (λ_ h=>aE<|tn<|sQ<|aG<|sQ<|aS fF<|am k k<|am k k<|oB h λv3 hv3 h=>ae (xl hv3 k) k<|lr k7<|am k k<|am k k<|oB h λv4 hv4 h=>ae (xl hv4 k) k<|lr k7<|oB h λv5 hv5 h=>ae (aL (tH v3 v4 v5 hv5) k (aI (dH k) (aI (dH k) aJ))) k<|ae (dE k) k<|an<|pA (by kernel_rfl)<|tn<|cJ k h (λ_ h=>sR<|aT k2<|aD<|bA<|aB<|aB<|sp h ⟨_,k,k,bG k k k (nM k)⟩) λ_ h=>aE<|bC<|tn<|rg<|am k k<|ae (bF k k) k<|aT k2<|sp h ⟨_,k,(bO (bL k2) aV k4)⟩) λ_ h=>bB<|aC<|aC<|sp h ⟨_,k,k,(bO aV aV k4)⟩
 ·intro e t hX;rcases y7 with y8|y9
  ·obtain ⟨rfl,hent⟩:=hX;exact aP<|tn<|aR hent<|sR<|aT k2<|aD<|dY h k2
  ·obtain ⟨rfl,hent⟩:=hX;exact bA<|aB<|sp h hent
end
noncomputable section
def zI (n:Nat) (left:Int):Int:=if left - n<0 then -1 else left - n
def zC:List (Int→Int)→Int→Int
 | [],left=>left
 |f::fs,left=>if f left<0 then -1 else zC fs (f left)
def zS {α:Type} (f:α→Int→Int) (l:List α) (left:Int):Int:=if left - l.length<0 then -1 else zC (l.map f) (left - l.length)
def zQ (q:Qv):Int→Int:=zC [zI q.src.length,zI q.tgt.length]
def zM (m:Mt):Int→Int:=zC [zI m.cells.length]
def zR (r:Rp):Int→Int:=zC [zQ r.q,zI r.dims.length,zS zM r.maps]
def xU (f:Int→Int) (b:Prop):Prop:= ∀ left,0≤left→left≤1048576→f left= -1∨(0≤f left∧f left≤left∧b)
theorem xV (n:Nat):xU (zI n) (n≤1048576):=by
 intro left h0 h1;unfold zI;by_cases h:left - n<0
 ·rw [aX h];exact .inl rfl
 ·rw [aZ h];exact .inr ⟨by omega,by omega,by omega⟩
theorem aDf:xU (zC []) True:=λleft h0 _=> .inr ⟨h0,Int.le_refl _,trivial⟩
theorem sA {f:Int→Int} {fs:List (Int→Int)} {b bs:Prop} (h:xU f b) (k:xU (zC fs) bs):xU (zC (f::fs)) (b∧bs):=by
 intro left h0 h1;unfold zC;rcases h left h0 h1 with e|⟨e1,e2,e3⟩
 ·rw [e,aX (by decide)];exact .inl rfl
 ·rw [aZ (by omega)];rcases k (f left) e1 (by omega) with g|⟨g1,g2,g3⟩
  ·exact .inl g
  ·exact .inr ⟨g1,by omega,e3,g3⟩
theorem aGw {α:Type} {f:α→Int→Int} {b:α→Prop} (h: ∀ x,xU (f x) (b x)): ∀ l:List α,xU (zC (l.map f)) (∀ x∈l,b x)
 | []=>λleft h0 _=> .inr ⟨h0,Int.le_refl _,by simp⟩
 |x::l=>λleft h0 h1=>by
  rcases sA (h x) (aGw h l) left h0 h1 with e|⟨e1,e2,e3,e4⟩
  ·exact .inl e
  ·exact .inr ⟨e1,e2,λy hy=>by rcases eN.1 hy with rfl|h';exact e3;exact e4 y h'⟩
theorem aKs {α:Type} {f:α→Int→Int} {b:α→Prop} (h: ∀ x,xU (f x) (b x)) (l:List α):xU (zS f l) (l.length≤1048576∧ ∀ x∈l,b x):=by
 intro left h0 h1;unfold zS;by_cases e:left - l.length<0
 ·rw [aX e];exact .inl rfl
 ·rw [aZ e];rcases aGw h l (left - l.length) (by omega) (by omega) with g|⟨g1,g2,g3⟩
  ·exact .inl g
  ·exact .inr ⟨g1,by omega,by omega,g3⟩
def bI (l:List Int):Prop:=l.length≤1048576
def bQ (q:Qv):Prop:=bI q.src∧bI q.tgt∧True
def bM (m:Mt):Prop:=bI m.cells∧True
def bR (r:Rp):Prop:=bQ r.q∧bI r.dims∧(r.maps.length≤1048576∧ ∀ m∈r.maps,bM m)∧True
def bS (s:Sc):Prop:=(s.basis.length≤1048576∧ ∀ v∈s.basis,bI v)∧True
theorem aKt (q:Qv):xU (zQ q) (bQ q):=sA (xV _) (sA (xV _) aDf)
theorem aHi (m:Mt):xU (zM m) (bM m):=sA (xV _) aDf
theorem aKu (r:Rp):xU (zR r) (bR r):=sA (aKt _) (sA (xV _) (sA (aKs aHi _) aDf))
def fI {α:Type} (l:List α):Prop:=l.length≤9223372036854775807
theorem aBD {o:Option Int} {z:Int→Int} {zs:List (Int→Int)} {b:Prop} {left:Int} {k:Int→Option Int} (ho:o=some (z left)) (hf:xU z b) (h0:0≤left) (h1:left≤1048576) (hk: ∀ v,0≤v→v≤1048576→k v=some (zC zs v)):
  Option.bind o (λv=>bif decide (v<0) then some (-1) else k v)=some (zC (z::zs) left):=by
 rw [ho,aA];unfold zC;rcases hf left h0 h1 with e|⟨e1,e2,_⟩
 ·rw [e];rfl
 ·rw [aZ (by omega),cY (by omega: ¬ z left<0),aY];exact hk _ e1 (by omega)
theorem aON {α:Type} {body:Int×Int→Option ((Int×Int) ⊕ (Int ⊕ Int))} {f:α→Int→Int} {b:α→Prop} {l:List α} (hf: ∀ x,xU (f x) (b x)) (hl:l.length≤1048576)
  (hs: ∀ (v:Int) (k:Nat) (hk:k<l.length),0≤v→v≤1048576→body (v,k)=some (bif decide (f l[k] v<0) then .inr (.inr (-1)) else .inl (f l[k] v,wr (k+1)))) (he: ∀ v,body (v,l.length)=some (.inr (.inl v))) (v:Int) (h0:0≤v) (h1:v≤1048576):
  Option.bind (Lp body (v,0)) (λy=>Sum.elim (λy=>some y) (λy=>some y) y)=some (zC (l.map f) v):=by
 have key: ∀ d k:Nat,k+d=l.length→ ∀ v:Int,0≤v→v≤1048576→Option.bind (Lp body (v,(k:Int))) (λy=>Sum.elim (λy=>some y) (λy=>some y) y)=some (zC ((l.drop k).map f) v):=by
  intro d;induction d with
  |zero=>
   intro k hk v _ _;rw [Nat.add_zero] at hk;subst hk;rw [iK (he v)];simp [zC]
  |succ d ih=>
   intro k hk v h0 h1;have h:=hs v k (by omega) h0 h1;rw [List.drop_eq_getElem_cons (by omega:k<l.length),List.map_cons];unfold zC;rcases hf l[k] v h0 h1 with e|⟨e1,e2,_⟩
   ·rw [e] at h ⊢;rw [iK (r:= .inr (-1)) (by rw [h];rfl)];rfl
   ·rw [aZ (by omega)];rw [cY (by omega: ¬ f l[k] v<0),aY,cB (n:=l.length) (by omega) (by omega)] at h;rw [aAA h];exact ih (k+1) (by omega) _ e1 (by omega)
 have:=key l.length 0 (by omega) v h0 h1;simpa using this
theorem aOO {l:List Int} {left:Int} (hl:fI l) (h0:0≤left) (h1:left≤1048576):kY l left=some (zI l.length left):=by
 unfold fI at hl;unfold kY zI;rw [aMh (by omega)];by_cases h:left - l.length<0
 ·rw [bK h,aX h];rfl
 ·rw [cY h,aZ h];rfl
def fQ (q:Qv):Prop:=fI q.src∧fI q.tgt
theorem aQb {q:Qv} {left:Int} (hl:fQ q) (h0:0≤left) (h1:left≤1048576):vT q left=some (zQ q left):=
 aBD (aOO hl.1 h0 h1) (xV _) h0 h1 λv g0 g1=>aBD (aOO hl.2 g0 g1) (xV _) g0 g1 λv _ _=>rfl
def fM (m:Mt):Prop:=fI m.cells
theorem aQc {m:Mt} {left:Int} (hl:fM m) (h0:0≤left) (h1:left≤1048576):vU m left=some (zM m left):=
 aBD (aOO hl h0 h1) (xV _) h0 h1 λv _ _=>rfl
def fMs (l:List Mt):Prop:=fI l∧ ∀ m∈l,fM m
theorem aPu {l:List Mt} {left:Int} (hl:fMs l) (h0:0≤left) (h1:left≤1048576):pT l left=some (zS zM l left):=by
 obtain ⟨ha,hb⟩:=hl;unfold fI at ha;unfold pT zS;rw [aMh (by omega)];by_cases h:left - l.length<0
 ·rw [bK h,aX h];rfl
 ·rw [cY h,aZ h,aY];refine aON (f:=zM) aHi (by omega) (λv k hk g0 g1=>?_) (λv=>?_) _ (by omega) (by omega)
  ·unfold lJ;simp only;rw [jS hk,aN,cV hk,aA,aQc (hb _ (List.getElem_mem hk)) g0 g1,aA];cases decide (zM l[k] v<0) <;> rfl
  ·unfold lJ;simp only;rw [mM (bN _),aY]
def fR (r:Rp):Prop:=fQ r.q∧fI r.dims∧fMs r.maps
theorem aPv {r:Rp} {left:Int} (hl:fR r) (h0:0≤left) (h1:left≤1048576):wH r left=some (zR r left):=
 aBD (aQb hl.1 h0 h1) (aKt _) h0 h1 λv g0 g1=>aBD (aOO hl.2.1 g0 g1) (xV _) g0 g1 λv g2 g3=>aBD (aPu hl.2.2 g2 g3) (aKs aHi _) g2 g3 λv _ _=>rfl
theorem aGx {α:Type} {body:List α×Int→Option ((List α×Int) ⊕ List α)} {l:List α} (z:α) (hl:l.length≤4611686018427387904)
  (hs: ∀ (k:Nat) (hk:k<l.length) (r:List α),r.length=l.length→body (r,k)=some (.inl (r.set k l[k],wr (k+1)))) (he: ∀ r,body (r,l.length)=some (.inr r)):Lp body (List.replicate ((l.length:Int).toNat) z,0)=some l:=by
 refine aMi (λk=>(l.take k++List.replicate (l.length - k) z,(k:Int))) l.length (by simp) (λk hk=>?_) ?_
 ·rw [hs k hk _ (by simp;omega),cB hk hl];congr 3;rw [show l.length - k=(l.length - (k+1))+1 by omega,List.replicate_succ,List.set_append_right _ _ (by simp;omega)];rw [aCB hk,List.length_take,Nat.min_eq_left (Nat.le_of_lt hk),Nat.sub_self,List.set_cons_zero,List.append_assoc];rfl
 ·rw [he];simp
theorem aOP {l:List Int} (h:bI l):kZ l=some l:=by
 unfold bI at h;unfold kZ;rw [bK (by omega),bK (by omega:(l.length:Int)≤1048576),Bool.and_self,aN];rw [aGx 0 (by omega) (λk hk r hr=>?_) (λr=>?_)];rfl
 ·unfold pU;simp only;rw [jS hk,aN,cV hk,aA,cV (hr▸hk),aA,dZ]
 ·unfold pU;simp only;rw [mM (bN _),aY]
theorem aQe {q:Qv} (h:bQ q):rE q=some q:=by
 unfold rE;rw [aOP h.1,aA,aOP h.2.1,aA]
theorem aQf {m:Mt} (h:bM m):rF m=some m:=by
 unfold rF;rw [aOP h.1,aA]
theorem aPw {l:List Mt} (h:l.length≤1048576∧ ∀ m∈l,bM m):pV l=some l:=by
 obtain ⟨h,hb⟩:=h;unfold pV;rw [bK (by omega),bK (by omega:(l.length:Int)≤1048576),Bool.and_self,aN];rw [aGx _ (by omega) (λk hk r hr=>?_) (λr=>?_)];rfl
 ·unfold lK;simp only;rw [jS hk,aN,cV hk,aA,aQf (hb _ (List.getElem_mem hk)),aA,cV (hr▸hk),aA,dZ]
 ·unfold lK;simp only;rw [mM (bN _),aY]
theorem aPx {r:Rp} (h:bR r):gC r=some r:=by
 unfold gC;rw [aQe h.1,aA,aOP h.2.1,aA,aPw h.2.2.1,aA]
theorem aCi {α:Type} [DecidableEq α] {body:Int→Option (Int ⊕ (Unit ⊕ Bool))} {a b:List α} (hl:a.length≤4611686018427387904) (hab:a.length=b.length)
  (hs: ∀ (k:Nat) (h1:k<a.length) (h2:k<b.length),body k=some (bif decide (a[k]=b[k]) then .inl (wr (k+1)) else .inr (.inr false))) (he:body a.length=some (.inr (.inl ()))):
  Option.bind (Lp body 0) (λy=>Sum.elim (λ_=>some true) (λy=>some y) y)=some (decide (a=b)):=by
 have key: ∀ (P:Nat→Bool),(∀ (k:Nat) (h1:k<a.length) (h2:k<b.length),P k=decide (a[k]=b[k]))→Lp body 0=some (bif (List.range a.length).all P then .inl () else .inr false)→Option.bind (Lp body 0) (λy=>Sum.elim (λ_=>some true) (λy=>some y) y)=some (decide (a=b)):=by
  intro P hP e;rw [e,aA]
  have:(List.range a.length).all P=decide (a=b):=by
   rw [Bool.eq_iff_iff,wM,sI];constructor
   ·intro h;refine List.ext_getElem hab λk h1 h2=>?_;have:=h k h1;rw [hP k h1 h2] at this;exact of_decide_eq_true this
   ·rintro rfl k hk;rw [hP k hk hk];simp
  rw [this];cases decide (a=b) <;> rfl
 refine key (λk=>if h:k<a.length then if h2:k<b.length then decide (a[k]=b[k]) else false else false) (λk h1 h2=>by rw [dif_pos h1,dif_pos h2]) (aAB _ _ hl (λk hk=>?_) (λ_=>he));rw [dif_pos hk,dif_pos (hab▸hk)];exact hs k hk (hab▸hk)
theorem aCj {α β:Type} {a:List α} {b:List β} :decide ((a.length:Int)=(b.length:Int))=decide (a.length=b.length):=by
 rw [Bool.eq_iff_iff,sI,sI];omega
theorem aHj {body:Int→Option (Int ⊕ (Unit ⊕ Bool))} {a b:List Int} (hl:a.length≤4611686018427387904)
  (hb:body=λx=>bif decide (x<(a.length:Int)) then (Option.bind (dF a x) λv3=>Option.bind (dF b x) λv4=>bif !decide (v3=v4) then (some (.inr (.inr (false)))) else (some (.inl (wr (x+1))))) else (some (.inr (.inl ())))):
  (bif !decide ((a.length:Int)=(b.length:Int)) then some false else Option.bind (Lp body 0) (λy=>Sum.elim (λ_=>some true) (λy=>some y) y))=some (decide (a=b)):=by
 rw [aCj];by_cases h:a.length=b.length
 ·rw [bK h,eO,aY];refine aCi hl h (λk h1 h2=>?_) ?_
  ·rw [hb];simp only;rw [jS h1,aN,cV h1,aA,cV h2,aA];cases decide (a[k]=b[k]) <;> rfl
  ·rw [hb];simp only;rw [mM (bN _),aY]
 ·rw [cY h,Bool.not_false,aN,cY (by rintro rfl;exact h rfl)]
theorem iH {c d:Bool} {o:Option Bool} (h:c=true→o=some d):(bif !c then some false else o)=some (c&&d):=by cases c with|false=>rfl|true=>exact h rfl
theorem aLo {a b:List Int} (h:bI a):iW a b=some (decide (a=b)):=by
 unfold bI at h;exact aHj (body:=uG a b) (by omega) rfl
theorem aEp {d:Bool} :(bif !d then some false else some true)=some d:=by cases d <;> rfl
theorem aQg {a b:Qv} (h:bQ a):rG a b=some (decide (a=b)):=by
 unfold rG;rw [iH (d:=decide (a.src=b.src)&&decide (a.tgt=b.tgt)) (λ_=>?_)]
 ·cases a;cases b;simp [Bool.and_assoc]
 ·rw [aLo h.1,aA];refine iH λ_=>?_;rw [aLo h.2.1,aA,aEp]
theorem aQh {a b:Mt} (h:bM a):rH a b=some (decide (a=b)):=by
 unfold rH;rw [iH (d:=decide (a.cols=b.cols)&&decide (a.cells=b.cells)) (λ_=>?_)]
 ·cases a;cases b;simp [Bool.and_assoc]
 ·refine iH λ_=>?_;rw [aLo h.1,aA,aEp]
theorem aOo {a b:List Mt} (h:a.length≤1048576∧ ∀ m∈a,bM m):mH a b=some (decide (a=b)):=by
 obtain ⟨h,hb⟩:=h;unfold mH;rw [aCj];by_cases e:a.length=b.length
 ·rw [bK e,eO,aY];refine aCi (by omega) e (λk h1 h2=>?_) ?_
  ·unfold lL;rw [jS h1,aN,cV h1,aA,cV h2,aA,aQh (hb _ (List.getElem_mem h1)),aA];cases decide (a[k]=b[k]) <;> rfl
  ·unfold lL;rw [mM (bN _),aY]
 ·rw [cY e,Bool.not_false,aN,cY (by rintro rfl;exact e rfl)]
theorem aOQ {a b:Rp} (h:bR a):kK a b=some (decide (a=b)):=by
 unfold kK;rw [iH (d:=decide (a.q=b.q)&&(decide (a.dims=b.dims)&&decide (a.maps=b.maps))) (λ_=>?_)]
 ·cases a;cases b;simp [Bool.and_assoc]
 ·rw [aQg h.1,aA];refine iH λ_=>?_;rw [aLo h.2.1,aA];refine iH λ_=>?_;rw [aOo h.2.2.1,aA,aEp]
end
noncomputable section
theorem gD {c d:Bool} {o:Option Bool} (h:c=true→o=some d):(bif c then o else some false)=some (c&&d):=by cases c with|false=>rfl|true=>exact h rfl
theorem xC {c d:Bool} :(bif c then some d else some false)=some (c&&d):=by cases c <;> rfl
theorem aKv {x a b:Int} :(bif decide (a≤x) then some (decide (x≤b)) else some false)=some (inR x a b):=by
 rw [xC];unfold inR;by_cases h1:a≤x <;> by_cases h2:x≤b <;> simp [h1,h2]
theorem aAl (x a b:Int):kX x a b=some (inR x a b):=aKv
theorem aAI (x a b:Int):kB x a b=some (inR x a b):=aKv
theorem aIz (p:Int):(bif decide (p=2) then some true else bif decide (p=3) then some true else some (decide (p=5)))=some (tX p):=by
 unfold tX;by_cases h2:p=2 <;> by_cases h3:p=3 <;> by_cases h5:p=5 <;> simp [h2,h3,h5]
theorem aHk (p:Int):pG p=some (tX p):=aIz p
theorem aCk (p:Int):jA p=some (tX p):=aIz p
theorem zE {a b:List Int} (h:bI a):iV a b=some (decide (a=b)):=by
 unfold bI at h;exact aHj (body:=uD a b) (by omega) rfl
theorem wQ {a b:List Int} (h:bI a):dD a b=some (decide (a=b)):=by
 unfold bI at h;exact aHj (body:=iZ a b) (by omega) rfl
theorem aLp {a b:Qv} (h:bQ a):lH a b=some (decide (a=b)):=by
 unfold lH;rw [gD (d:=decide (a.src=b.src)&&decide (a.tgt=b.tgt)) (λ_=>?_)]
 ·cases a;cases b;simp
 ·rw [zE h.1,aA];refine gD λ_=>?_;rw [zE h.2.1,aA]
theorem aLq {a b:Qv} (h:bQ a):lI a b=some (decide (a=b)):=by
 unfold lI;rw [gD (d:=decide (a.src=b.src)&&decide (a.tgt=b.tgt)) (λ_=>?_)]
 ·cases a;cases b;simp
 ·rw [wQ h.1,aA];refine gD λ_=>?_;rw [wQ h.2.1,aA]
theorem aLr (p:Int) {v:List Int} (h:bI v):qV p v=some (tX p&&decide (v.length≤64)&&v.all λx=>inR x 0 (wr (p - 1))):=by
 unfold bI at h;unfold qV;rw [aHk,aA];cases tX p with
 |false=>rfl
 |true=>
  rw [eO,aY,Bool.true_and];by_cases h64:v.length≤64
  ·rw [cY (by omega),aY,bK h64,Bool.true_and];rw [aAB (λk=>inR (v[k]?.getD 0) 0 (wr (p - 1))) false (n:=v.length) (by omega) (λk hk=>?_) (λ_=>?_),aAz 0 v (λx=>inR x 0 (wr (p - 1))),aA]
   ·cases v.all _ <;> rfl
   ·unfold mR;rw [jS hk,aN,uM 0 hk,aA,aAI,aA];cases inR _ 0 _ <;> rfl
   ·unfold mR;rw [mM (bN _),aY]
  ·rw [bK (by omega),aN,cY h64,Bool.false_and]
theorem aJA {v:List Int} {f:Int→Option Bool} (P:Int→Bool) (hf: ∀ x,f x=some (P x)) (h:bI v): ∃ i:Int,fT v f=some i∧decide (0≤i)=v.any P:=by
 unfold bI at h;unfold fT;rw [uC (s0:=0) (s:=0) (n:=v.length) (λk=>bif P (v[k]?.getD 0) then some (k:Int) else none) rfl (by omega) (Nat.zero_le _) (λk _ hk=>?_) (λ_=>?_)]
 ·rw [aA];cases e:(List.range' 0 (v.length - 0)).findSome? (λk:Nat=>bif P (v[k]?.getD 0) then some (k:Int) else none) with
  |none=>
   refine ⟨-1,rfl,?_⟩;rw [List.findSome?_eq_none_iff] at e
   have:v.any P=false:=by
    rw [List.any_eq_false];intro x hx;obtain ⟨k,hk,rfl⟩:=List.mem_iff_getElem.1 hx;have:=e k (by simp;omega);simp only [lF hk,lY] at this;cases hp:P v[k] with
    |false=>simp
    |true=>rw [hp] at this;cases this
   rw [this];rfl
  |some i=>
   refine ⟨i,rfl,?_⟩;obtain ⟨k,hk,he⟩:=List.exists_of_findSome?_eq_some e;simp at hk;have hkl:k<v.length:=by omega
   rw [lF hkl] at he;simp only [lY] at he;cases hp:P v[k] with
   |false=>rw [hp] at he;cases he
   |true=>
    rw [hp] at he;cases he;rw [bK (by omega),eq_comm,List.any_eq_true];exact ⟨_,List.getElem_mem hkl,hp⟩
 ·unfold eU;rw [jS hk,aN,uM 0 hk,aA,hf,aA];cases P _ <;> rfl
 ·unfold eU;rw [mM (bN _),aY]
theorem xW {v:List Int} (h:bI v) (a b:Int):gU v a b=some (v.all λx=>inR x a b):=by
 unfold gU gT;obtain ⟨i,h1,h2⟩:=aJA (f:=λb0=>jD b0 a b) (λx=> !inR x a b) (λx=>by simp only [jD];rw [aAl,aA]) h;rw [h1,aA,aA,h2,List.not_any_eq_all_not];simp
theorem aLs (p:Int) {v:List Int} (h:bI v):qY p v=some (tX p&&decide (v.length≤64)&&v.all λx=>inR x 0 (wr (p - 1))):=by
 unfold qY;rw [aCk,aA,xW h,aA,xC,xC,Bool.and_assoc];congr 3;rw [Bool.eq_iff_iff,sI,sI];omega
def aBR (p:Int) (m:Mt):Bool:=inR m.rows 0 8&&(inR m.cols 0 8&&(decide ((m.cells.length:Int)=wr (m.rows*m.cols))&&(tX p&&decide (m.cells.length≤64)&&m.cells.all λx=>inR x 0 (wr (p - 1)))))
theorem aDg (p:Int) {m:Mt} (h:bM m):jW p m=some (aBR p m):=by
 unfold jW aBR;rw [aAI,aA];refine gD λ_=>?_;rw [aAI,aA];refine gD λ_=>?_;refine gD λ_=>?_;rw [aLr p h.1,aA]
theorem aLt (p:Int) {m:Mt} (h:bM m):qZ p m=some (aBR p m):=by
 unfold qZ aBR;rw [aAl,aA];refine gD λ_=>?_;rw [aAl,aA];refine gD λ_=>?_;refine gD λ_=>?_;rw [aLs p h.1,aA]
theorem aKE {p:Int} {m:Mt} (h:aBR p m=true):tX p=true∧ ∃ (r c:Nat) (F:Nat→Nat→Int),r≤8∧c≤8∧m=⟨r,c,bW r c F⟩∧ ∀ i j,i<r→j<c→0≤F i j∧F i j<p:=by
 unfold aBR at h;simp only [dA,sI,List.all_eq_true] at h;obtain ⟨h1,h2,h3,⟨h4,h5⟩,h6⟩:=h;have h1:=sY h1;have h2:=sY h2;refine ⟨h4,m.rows.toNat,m.cols.toNat,λi j=>m.cells[i*m.cols.toNat+j]?.getD 0,by omega,by omega,?_,?_⟩
 ·obtain ⟨a,b,l⟩:=m;simp only at*;obtain ⟨r,rfl⟩:=Int.eq_ofNat_of_zero_le h1.1;obtain ⟨c,rfl⟩:=Int.eq_ofNat_of_zero_le h2.1;have hb:r*c≤64:=Nat.mul_le_mul (by omega:r≤8) (by omega:c≤8);rw [aFN (by omega)] at h3;simp only [dZ];rw [←aOC (by omega)]
 ·intro i j hi hj;show 0≤m.cells[i*m.cols.toNat+j]?.getD 0∧m.cells[i*m.cols.toNat+j]?.getD 0<p;have hx:=xQ hi hj
  have e:((m.rows.toNat*m.cols.toNat:Nat):Int)=m.rows*m.cols:=by
   rw [Int.natCast_mul,Int.toNat_of_nonneg h1.1,Int.toNat_of_nonneg h2.1]
  have hb:m.rows.toNat*m.cols.toNat≤64:=Nat.mul_le_mul (by omega:m.rows.toNat≤8) (by omega:m.cols.toNat≤8);rw [dC (by omega)] at h3;have hl:i*m.cols.toNat+j<m.cells.length:=by omega
  have:=sY (h6 _ (List.getElem_mem hl));rw [lF hl,lY];have hp:=eG h4;rw [dC (by omega)] at this;omega
def aDy (q:Qv):Bool:=inR q.n 1 5&&(decide ((q.src.length:Int)=(q.tgt.length:Int))&&(decide ((q.src.length:Int)≤6)&&((q.src.all λx=>inR x 0 (wr (q.n - 1)))&&(q.tgt.all λx=>inR x 0 (wr (q.n - 1))))))
theorem aOR {q:Qv} (h:bQ q):rA q=some (aDy q):=by
 unfold rA aDy;rw [aAl,aA];refine gD λ_=>gD λ_=>gD λ_=>?_;rw [xW h.1,aA];refine gD λ_=>?_;rw [xW h.2.1,aA]
theorem aOS {q:Qv} (h:bQ q):qU q=some (aDy q):=by
 obtain ⟨h1,h2,_⟩:=h;unfold bI at h1 h2;unfold qU;rw [aAB (n:=min q.src.length q.tgt.length) (λk=>inR (q.src[k]?.getD 0) 0 (wr (q.n - 1))&&inR (q.tgt[k]?.getD 0) 0 (wr (q.n - 1))) false (by omega) (λk hk=>?_) (λ_=>?_)]
 ·rw [aA];unfold aDy;by_cases e:q.src.length=q.tgt.length
  ·have e2:min q.src.length q.tgt.length=q.src.length:=by omega
   have hall:(List.range q.src.length).all (λk=>inR (q.src[k]?.getD 0) 0 (wr (q.n - 1))&&inR (q.tgt[k]?.getD 0) 0 (wr (q.n - 1)))=((q.src.all λx=>inR x 0 (wr (q.n - 1)))&&(q.tgt.all λx=>inR x 0 (wr (q.n - 1)))):=by
    rw [←aAz 0 q.src,←aAz 0 q.tgt,←e];rw [Bool.eq_iff_iff,dA,wM,wM,wM];simp only [dA];exact ⟨λh=>⟨λk hk=>(h k hk).1,λk hk=>(h k hk).2⟩,λh k hk=>⟨h.1 k hk,h.2 k hk⟩⟩
   rw [e2,hall,bK (by omega:(q.src.length:Int)=(q.tgt.length:Int))];cases (q.src.all λx=>inR x 0 (wr (q.n - 1)))&&(q.tgt.all λx=>inR x 0 (wr (q.n - 1))) with
   |false=>simp
   |true=>
    simp only [aN,Sum.elim_inl];rw [aAI,aA,bK (by omega:(q.tgt.length:Int)=(q.src.length:Int)),xC,xC];simp
  ·rw [cY (by omega: ¬ (q.src.length:Int)=(q.tgt.length:Int))];simp only [Bool.false_and,Bool.and_false];cases (List.range (min q.src.length q.tgt.length)).all _ with
   |false=>rfl
   |true=>
    simp only [aN,Sum.elim_inl];rw [aAI,aA,cY (by omega: ¬ (q.tgt.length:Int)=(q.src.length:Int)),xC,xC];simp
 ·unfold mQ;rw [jS (by omega),aN,jS (by omega),aN,uM 0 (by omega),aA,aAI,aA,uM 0 (by omega),aA,aAI,aA];cases inR (q.src[k]?.getD 0) 0 (wr (q.n - 1)) <;> cases inR (q.tgt[k]?.getD 0) 0 (wr (q.n - 1)) <;> rfl
 ·unfold mQ;by_cases e:q.src.length≤q.tgt.length
  ·rw [mM (by omega),aY]
  ·rw [jS (by omega),aN,mM (by omega),aY]
theorem aAm {q:Qv} (h:aDy q=true): ∃ n:Nat,q.n=n∧1≤n∧n≤5∧q.src.length=q.tgt.length∧q.src.length≤6∧(∀ x∈q.src,0≤x∧x<n)∧ ∀ x∈q.tgt,0≤x∧x<n:=by
 unfold aDy at h;simp only [dA,sI,List.all_eq_true] at h;obtain ⟨h1,h2,h3,h4,h5⟩:=h;have h1:=sY h1;rw [dC (by omega)] at h4 h5;refine ⟨q.n.toNat,by omega,by omega,by omega,by omega,by omega,λx hx=>?_,λx hx=>?_⟩
 ·have:=sY (h4 x hx);omega
 ·have:=sY (h5 x hx);omega
def aDz (q:Qv) (d:List Int):Bool:=aDy q&&(decide ((d.length:Int)=q.n)&&((d.all λx=>inR x 0 4)&&decide (d.sum≤8)))
theorem aNE {d:List Int} (h: ∀ x∈d,0≤x∧x≤4):0≤d.sum∧d.sum≤4*d.length:=by
 induction d with
 |nil=>simp
 |cons x d ih=>
  have h1:=h x (by simp);have h2:=ih λy hy=>h y (by simp [hy]);simp only [List.sum_cons,List.length_cons];omega
theorem aJB {d:List Int} {k:Nat} (hk:k<d.length):(d.take (k+1)).sum=(d.take k).sum +d[k]?.getD 0:=by
 rw [aCB hk,List.sum_append];simp [hk]
theorem aOT {d:List Int} (h: ∀ x∈d,0≤x∧x≤4) (hl:d.length≤1048576):wC d=some d.sum:=by
 unfold wC;rw [dL (r:=d.sum) (λk=>((d.take k).sum,(k:Int))) d.length (by simp) (λk hk=>?_) (λ_=>?_)];rfl
 ·unfold qS;simp only;rw [jS hk,aN,uM 0 hk,aA,cB hk (by omega)];have h1:=aNE (d:=d.take (k+1)) λx hx=>h x (List.mem_of_mem_take hx);rw [←aJB hk,dC (by simp at h1;omega)]
 ·unfold qS;simp only;rw [mM (bN _),aY,List.take_length]
theorem aKF {q:Qv} {d:List Int} (hq:bQ q) (hd:bI d):tE q d=some (aDz q d):=by
 unfold tE aDz;rw [aOR hq,aA];refine gD λ_=>gD λ_=>?_;rw [xW hd,aA];refine gD λh=>?_;rw [aOT (λx hx=>sY (List.all_eq_true.1 h x hx)) hd,aA]
theorem aKG {q:Qv} {d:List Int} (hq:bQ q) (hd:bI d):tC q d=some (aDz q d):=by
 unfold bI at hd;unfold tC aDz;rw [aOS hq,aA];refine iH λ_=>iH λ_=>?_;cases hall:d.all (λx=>inR x 0 4) with
 |true=>
  have hb: ∀ x∈d,0≤x∧x≤4:=λx hx=>sY (List.all_eq_true.1 hall x hx);rw [dL (r:= .inl d.sum) (λk=>((d.take k).sum,(k:Int))) d.length (by simp) (λk hk=>?_) (λ_=>?_)];rfl
  ·unfold hY;simp only;rw [jS hk,aN,uM 0 hk,aA,aAI,aA];have hin:inR (d[k]?.getD 0) 0 4=true:=by rw [lF hk];exact List.all_eq_true.1 hall _ (List.getElem_mem hk)
   rw [hin,eO,aY,aA,cB hk (by omega)];have h1:=aNE (d:=d.take (k+1)) λx hx=>hb x (List.mem_of_mem_take hx);rw [←aJB hk,dC (by simp at h1;omega)]
  ·unfold hY;simp only;rw [mM (bN _),aY,List.take_length]
 |false=>
  have key:=aHb (body:=hY d) (s:=(0,0)) (λs=> ∃ k:Nat,s.2=k∧k≤d.length∧ ∀ j,j<k→inR (d[j]?.getD 0) 0 4=true) (λs=>d.length - s.2.toNat) (λr=>r= .inr false)
   ⟨0,rfl,Nat.zero_le _,λj hj=>absurd hj (Nat.not_lt_zero _)⟩ (λs ⟨k,hs,hk,hj⟩=>?_)
  ·obtain ⟨r,h1,h2⟩:=key;rw [h1,h2];rfl
  ·obtain ⟨t,s2⟩:=s;simp only at hs;subst hs;rcases eJ k d.length with hlt|hge
   ·unfold hY;simp only;rw [jS hlt,aN,uM 0 hlt,aA,aAI,aA];cases hin:inR (d[k]?.getD 0) 0 4 with
    |false=>exact .inr ⟨_,rfl,rfl⟩
    |true=>
     rw [eO,aY,aA,cB hlt (by omega)];refine .inl ⟨_,rfl,⟨k+1,rfl,hlt,λj hj2=>?_⟩,by simp;omega⟩;by_cases e:j=k
     ·subst e;exact hin
     ·exact hj j (by omega)
   ·exfalso
    have:d.all (λx=>inR x 0 4)=true:=by
     rw [←aAz 0 d,wM];exact λj hj'=>hj j (by omega)
    rw [hall] at this;cases this
theorem vI {q:Qv} {d:List Int} (h:aDz q d=true):aDy q=true∧(d.length:Int)=q.n∧(∀ x∈d,0≤x∧x≤4)∧d.sum≤8:=by
 unfold aDz at h;simp only [dA,sI,List.all_eq_true] at h;exact ⟨h.1,h.2.1,λx hx=>sY (h.2.2.1 x hx),h.2.2.2⟩
def aAn (r:Rp):Bool:=tX r.p&&(aDz r.q r.dims&&(decide ((r.maps.length:Int)=(r.q.src.length:Int))&&(List.range r.maps.length).all λk=>
 aBR r.p (r.maps[k]?.getD ⟨0,0,[]⟩)&&(decide ((r.maps[k]?.getD ⟨0,0,[]⟩).cols=r.dims[(r.q.src[k]?.getD 0).toNat]?.getD 0)&&decide ((r.maps[k]?.getD ⟨0,0,[]⟩).rows=r.dims[(r.q.tgt[k]?.getD 0).toNat]?.getD 0))))
theorem tI {α:Type} {l:List α} {k:Nat} (d:α) (h:k<l.length):l[k]?.getD d∈l:=by rw [lF h];exact List.getElem_mem h
theorem aGy {r:Rp} (h:bR r):tD r=some (aAn r):=by
 obtain ⟨h1,h2,⟨h3,h4⟩,_⟩:=h;unfold tD aAn;rw [aHk,aA];refine iH λhF=>?_;rw [aKG h1 h2,aA];refine iH λhD=>?_;obtain ⟨hQ,hd1,hd2,_⟩:=vI hD;obtain ⟨n,hn,_,_,hq1,hq2,hq3,hq4⟩:=aAm hQ;refine iH λhL=>?_;have hL:=of_decide_eq_true hL;rw [aAB (λk=>aBR r.p (r.maps[k]?.getD ⟨0,0,[]⟩)&&(decide ((r.maps[k]?.getD ⟨0,0,[]⟩).cols=r.dims[(r.q.src[k]?.getD 0).toNat]?.getD 0)&&decide ((r.maps[k]?.getD ⟨0,0,[]⟩).rows=r.dims[(r.q.tgt[k]?.getD 0).toNat]?.getD 0))) false (n:=r.maps.length) (by omega) (λk hk=>?_) (λ_=>?_),aA]
 ·cases (List.range r.maps.length).all _ <;> rfl
 ·have hs:=hq3 _ (tI 0 (show k<r.q.src.length by omega));have ht:=hq4 _ (tI 0 (show k<r.q.tgt.length by omega));unfold qX;rw [jS hk,aN,uM ⟨0,0,[]⟩ hk,aA,aDg _ (h4 _ (tI _ hk)),aA,aA,uM 0 (by omega),aA,atI 0 hs.1 (by omega),aA,aA,uM 0 (by omega),aA,atI 0 ht.1 (by omega),aA];cases aBR r.p _ <;> cases decide ((r.maps[k]?.getD _).cols=_) <;> cases decide ((r.maps[k]?.getD _).rows=_) <;> rfl
 ·unfold qX;rw [mM (bN _),aY]
theorem aGz {r:Rp} (h:bR r):tF r=some (aAn r):=by
 obtain ⟨h1,h2,⟨h3,h4⟩,_⟩:=h;unfold tF aAn;rw [aCk,aA];refine iH λhF=>?_;rw [aKF h1 h2,aA];refine iH λhD=>?_;obtain ⟨hQ,hd1,hd2,_⟩:=vI hD;obtain ⟨n,hn,_,_,hq1,hq2,hq3,hq4⟩:=aAm hQ;refine iH λhL=>?_;have hL:=of_decide_eq_true hL;rw [aAB (λk=>aBR r.p (r.maps[k]?.getD ⟨0,0,[]⟩)&&(decide ((r.maps[k]?.getD ⟨0,0,[]⟩).cols=r.dims[(r.q.src[k]?.getD 0).toNat]?.getD 0)&&decide ((r.maps[k]?.getD ⟨0,0,[]⟩).rows=r.dims[(r.q.tgt[k]?.getD 0).toNat]?.getD 0))) false (n:=r.maps.length) (by omega) (λk hk=>?_) (λ_=>?_),aA]
 ·cases (List.range r.maps.length).all _ <;> rfl
 ·have hs:=hq3 _ (tI 0 (show k<r.q.src.length by omega));have ht:=hq4 _ (tI 0 (show k<r.q.tgt.length by omega));unfold rB;rw [jS hk,aN,uM ⟨0,0,[]⟩ hk,aA,aLt _ (h4 _ (tI _ hk)),aA,uM 0 (by omega),aA,atI 0 hs.1 (by omega),aA,uM 0 (by omega),aA,atI 0 ht.1 (by omega),aA];cases aBR r.p _ <;> cases decide ((r.maps[k]?.getD _).cols=_) <;> cases decide ((r.maps[k]?.getD _).rows=_) <;> rfl
 ·unfold rB;rw [mM (bN _),aY]
theorem aCl {a b:Rp} (ha:bR a) (hb:bR b):iM a b=some (aAn a&&(aAn b&&(decide (a.p=b.p)&&decide (a.q=b.q)))):=by
 unfold iM;rw [aGy ha,aA];refine gD λ_=>?_;rw [aGy hb,aA];refine gD λ_=>gD λ_=>?_;rw [aLp ha.1,aA]
theorem aOp {a b:Rp} (ha:bR a) (hb:bR b):rZ a b=some (aAn a&&(aAn b&&(decide (a.p=b.p)&&decide (a.q=b.q)))):=by
 unfold rZ;rw [aGz ha,aA];refine gD λ_=>?_;rw [aGz hb,aA];refine gD λ_=>gD λ_=>?_;rw [aLq ha.1,aA]
end
noncomputable section
theorem aGL {a b:Int} (ha:0≤a∧a≤5) (hb:0≤b∧b≤5):0≤a*b∧a*b≤25:=by
 refine ⟨Int.mul_nonneg ha.1 hb.1,?_⟩;have:=Int.mul_le_mul ha.2 hb.2 hb.1 (by decide:(0:Int)≤5);omega
theorem tJ {x p:Int} (hp:tX p=true):0≤x % p∧x % p<p:=by
 have:=eG hp;exact ⟨Int.emod_nonneg _ (by omega),Int.emod_lt_of_pos _ (by omega)⟩
theorem wI {p x:Int} (hp:tX p=true) (hx: -4611686018427387904≤x∧x≤4611686018427387904):fC p x=some (x % p):=by
 have hb:=eG hp;have hr:=aFL x p (by omega);unfold fC;rw [cY (by omega),Bool.not_false,aN];rcases aFM x p (by omega) with ⟨h,e⟩|⟨h,e⟩
 ·rw [cY (by omega),aY,e]
 ·rw [bK h,aN,dC (by omega),e];congr 1;omega
theorem aJC {p x:Int} (hp:tX p=true):pO p x=some (x % p):=by
 have hb:=eG hp;have hr:=aFL x p (by omega);unfold pO;rw [aCk,hp,aA,eO,aY,cY (by omega),Bool.not_false,aN,aN,dC (by omega),aLf _ _ (by omega)]
theorem aKH {p x:Int} (hp:tX p=true) {k:Nat} (hk:k≤1000):qW p x k=some (aHc p (x % p) k):=by
 have hb:=eG hp;unfold qW;rw [aCk,hp,aA,eO,aY,aAl,aBk (by omega) (by omega),aA,eO,aY];rw [dL (r:=aHc p (x % p) k) (λt=>(aHc p (x % p) t,(t:Int))) k (by rfl) (λt ht=>?_) (λ_=>?_),aA]
 ·unfold mV;simp only;have h1:=aKh hp (tJ (x:=x) hp) t;have h2:=tJ (x:=x) hp;have h3:=aGL (a:=aHc p (x % p) t) (b:=x % p) (by omega) (by omega);rw [jS ht,aN,aJC hp,aA,cY (by omega),Bool.not_false,aN,cB ht (by omega),dC (by omega),Int.tmod_eq_emod_of_nonneg h3.1];rfl
 ·unfold mV;simp only;rw [mM (bN _),aY]
theorem aLu {p x:Int} (hp:tX p=true):oF p x=some (aBN p (x % p)):=by
 have hb:=eG hp;unfold oF aBN;rw [aCk,hp,aA,eO,aY,dC (by omega)];have e:max (p - 2) 1=(((max (p - 2) 1).toNat:Nat):Int):=by omega
 rw [e,aKH hp (by omega),aA,dZ]
theorem aLv {p x:Int} (hp:tX p=true) (hx: -4611686018427387904≤x∧x≤4611686018427387904):oD p x=some (aBN p (x % p)):=by
 have hb:=eG hp;have h2:=tJ (x:=x) hp;obtain ⟨n,hn⟩: ∃ n:Nat,p=n:=⟨p.toNat,by omega⟩;unfold oD;rw [uC (s0:=1) (s:=1) (n:=n) (λk:Nat=>bif decide ((x % p*k) % p=1) then some (k:Int) else none) rfl (by omega) (by omega) (λk h1 hk=>?_) (λ_=>?_),aA]
 ·cases e:(List.range' 1 (n - 1)).findSome? (λk:Nat=>bif decide ((x % p*k) % p=1) then some (k:Int) else none) with
  |none=>
   rw [List.findSome?_eq_none_iff] at e;rw [aMj hp h2 λy h3 h4 h5=>?_];rfl;have:=e y (by simp;omega);rw [bK h5] at this;cases this
  |some i=>
   obtain ⟨k,hk,he⟩:=List.exists_of_findSome?_eq_some e;simp at hk;cases hd:decide ((x % p*k) % p=1) with
   |false=>rw [hd] at he;cases he
   |true=>
    rw [hd] at he;cases he;rw [aOA hp h2 (y:=k) (by omega) (of_decide_eq_true hd)];rfl
 ·unfold kH;have h3:=aGL (a:=x % p) (b:=k) (by omega) (by omega);rw [bK (by omega),aN,aHk,hp,aA,aN,wI hp hx,aA,dC (by omega),wI hp (by omega),aA];cases decide (x % p*k % p=1) <;> rfl
 ·unfold kH;rw [cY (by omega),aY]
theorem aKw {r c i:Nat} (hi:i<r):(i+1)*c≤r*c:=Nat.mul_le_mul_right c hi
theorem ixw {r c i j:Nat} (hN:r*c≤1048576) (hi:i<r) (hj:j<c):wr (wr ((i:Int)*(c:Int))+(j:Int))=((i*c+j:Nat):Int):=wix (by have:=xQ hi hj;omega)
theorem atT {r c i j:Nat} (hN:r*c≤1048576) (hi:i<r) (hj:j<c) (F:Nat→Nat→Int):dF (bW r c F) (wr (wr ((i:Int)*(c:Int))+(j:Int)))=some (F i j):=by rw [ixw hN hi hj,aOB F hi hj]
theorem aLw {r c i j:Nat} (hN:r*c≤1048576) (hi:i<r) (hj:j<c) (F:Nat→Nat→Int) (v:Int):(bW r c F).set (wr (wr ((i:Int)*(c:Int))+(j:Int))).toNat v=bW r c (aDQ F i j v):=by rw [ixw hN hi hj,dZ,yS F v hi hj]
theorem uI {r c i:Nat} (hN:r*c≤1048576) (hi:i<r):wr ((i:Int)*(c:Int))=((i*c:Nat):Int):=aFN (by have:= @aKw r c i hi;rw [Nat.succ_mul] at this;omega)
theorem uJ {r c i:Nat} (hN:r*c≤1048576) (hr:r≤1048576) (hi:i<r):wr (wr ((i:Int)+1)*(c:Int))=((i*c+c:Nat):Int):=by
 have:= @aKw r c i hi;rw [cB hi (by omega),aFN (by omega),Nat.succ_mul]
def hJ (c:Nat) (f:Nat→Int):List Int:=(List.range c).map f
theorem eV (c:Nat) (f:Nat→Int):(hJ c f).length=c:=by simp [hJ]
theorem aAJ {c:Nat} (f:Nat→Int) {j:Nat} (h:j<c):dF (hJ c f) (j:Int)=some (f j):=by rw [cV (by rw [eV];exact h)];simp [hJ]
theorem aFf {r c i:Nat} (hN:r*c≤1048576) (hr:r≤1048576) (hi:i<r) (F:Nat→Nat→Int):dG ⟨r,c,bW r c F⟩ i=some ():=by
 have:= @aKw r c i hi;rw [Nat.succ_mul] at this;unfold dG;simp only;rw [uI hN hi,uJ hN hr hi,eD,bK (by omega),bK (by omega:((i*c:Nat):Int)≤((i*c+c:Nat):Int)),bK (by omega:((i*c+c:Nat):Int)≤((r*c:Nat):Int))];rfl
theorem aNF {r c i:Nat} (hN:r*c≤1048576) (hr:r≤1048576) (hi:i<r) (F:Nat→Nat→Int):aFb ⟨r,c,bW r c F⟩ i=some (hJ c (F i)):=by
 have h:= @aKw r c i hi;rw [Nat.succ_mul] at h;unfold aFb vE aAi;simp only;rw [uI hN hi,uJ hN hr hi,eD,bK (by omega),bK (by omega:((i*c:Nat):Int)≤((i*c+c:Nat):Int)),bK (by omega:((i*c+c:Nat):Int)≤((r*c:Nat):Int))];simp only [Bool.and_self,aN,dZ];congr 1;refine List.ext_getElem (by simp [eD,eV];omega) λt h1 h2=>?_;rw [eV] at h2;rw [List.getElem_take,List.getElem_drop];simp [bW,hJ,yE h2,yF h2]
def aFg (p:Int) (F:Nat→Nat→Int) (i:Nat) (k:Int) (g:Nat→Int):Nat→Nat→Int:=λa b=>if a=i then (F i b+k*g b) % p else F a b
theorem gd (x:Nat):(decide (0≤(x:Int))&&true)=true:=by rw [bK (by omega)];rfl
theorem aLx {p:Int} (hp:tX p=true):(!decide (p=0))=true:=by have:=eG hp;rw [cY (by omega)];rfl
theorem aFh {p:Int} (hp:tX p=true) {r c i:Nat} (hc:c≤1048576) (hi:i<r) {F:Nat→Nat→Int} {g:Nat→Int} {k:Int} (hk:0≤k∧k≤5) (hF: ∀ b,b<c→0≤F i b∧F i b<p) (hg: ∀ b,b<c→0≤g b∧g b<p):
  fG p (bW r c F) (i*c) c k (hJ c g)=some (bW r c (aFg p F i k g)):=by
 have hb:=eG hp;unfold fG;rw [dL (r:=bW r c (aFg p F i k g)) (λx=>(bW r c (λa b=>if a=i∧b<x then (F i b+k*g b) % p else F a b),(x:Int))) c (by simp) (λx hx=>?_) (λ_=>?_)];rfl
 ·have h1:=hF x hx;have h2:=hg x hx;have h3:=aGL hk (show 0≤g x∧g x≤5 by omega);unfold jJ;simp only;rw [eV,jS hx,aN,aAJ _ hx,aA,gd x,aN,dZ,kA _ hi hx,aA,aLx hp,aN,aN,aA,yS _ _ hi hx,cB hx (by omega)];rw [aZ (by omega),dC (x:=k*g x) (by omega),dC (by omega),Int.tmod_eq_emod_of_nonneg (by omega)];congr 3;refine cE λa b ha hb=>?_;simp only [aDQ];by_cases e1:a=i∧b=x
  ·obtain ⟨rfl,rfl⟩:=e1;rw [aX ⟨rfl,rfl⟩,aX ⟨rfl,by omega⟩]
  ·rw [aZ e1];by_cases e2:a=i∧b<x
   ·rw [aX e2,aX ⟨e2.1,by omega⟩]
   ·rw [aZ e2,aZ (by omega)]
 ·unfold jJ;simp only;rw [eV,mM (bN _),aY];congr 2;refine cE λa b ha hb=>?_;simp only [aFg];by_cases e:a=i
  ·rw [aX ⟨e,hb⟩,aX e]
  ·rw [aZ (by omega),aZ e]
theorem aLy {p:Int} (hp:tX p=true) {r c i j:Nat} (hc:c≤1048576) (hi:i<r) (hj:j<r) (hij:i≠j) {F:Nat→Nat→Int} {k:Int} (hk:0≤k∧k≤5) (hF: ∀ b,b<c→0≤F i b∧F i b<p) (hg: ∀ b,b<c→0≤F j b∧F j b<p):
  hU p (bW r c F) (i*c) c k (j*c) c=some (bW r c (aFg p F i k (F j))):=by
 have hb:=eG hp;unfold hU;rw [dL (r:=bW r c (aFg p F i k (F j))) (λx=>(bW r c (λa b=>if a=i∧b<x then (F i b+k*F j b) % p else F a b),(x:Int))) c (by simp) (λx hx=>?_) (λ_=>?_)];rfl
 ·have h1:=hF x hx;have h2:=hg x hx;have h3:=aGL hk (show 0≤F j x∧F j x≤5 by omega);unfold fZ;simp only;rw [jS hx,aN,gd x,aN,dZ,kA _ hj hx,aA,aN,kA _ hi hx,aA,aLx hp,aN,aN,aA,yS _ _ hi hx,cB hx (by omega)];rw [aZ (by omega),aZ (by omega),dC (x:=k*F j x) (by omega),dC (by omega),Int.tmod_eq_emod_of_nonneg (by omega)];congr 3;refine cE λa b ha hb=>?_;simp only [aDQ];by_cases e1:a=i∧b=x
  ·obtain ⟨rfl,rfl⟩:=e1;rw [aX ⟨rfl,rfl⟩,aX ⟨rfl,by omega⟩]
  ·rw [aZ e1];by_cases e2:a=i∧b<x
   ·rw [aX e2,aX ⟨e2.1,by omega⟩]
   ·rw [aZ e2,aZ (by omega)]
 ·unfold fZ;simp only;rw [mM (bN _),aY];congr 2;refine cE λa b ha hb=>?_;simp only [aFg];by_cases e:a=i
  ·rw [aX ⟨e,hb⟩,aX e]
  ·rw [aZ (by omega),aZ e]
theorem aNG {r c:Nat} (hN:r*c≤1048576):(decide (0≤wr ((r:Int)*(c:Int)))&&decide (wr ((r:Int)*(c:Int))≤1048576))=true:=by
 rw [aFN (by omega),bK (by omega),bK (by omega)];rfl
theorem aHl {r c:Nat} (hN:r*c≤1048576):pI r c=some ⟨r,c,bW r c λ_ _=>0⟩:=by
 unfold pI;rw [aNG hN,aN,aFN (by omega),dZ,aGh]
theorem aNH {r c:Nat} (hN:r*c≤1048576):uO r c=some ⟨r,c,bW r c λ_ _=>0⟩:=by
 unfold uO;rw [aNG hN,aN,aFN (by omega),dZ,aGh]
def aAZ (F G:Nat→Nat→Int) (i j:Nat):Nat→Int
 |0=>0
 |k+1=>aAZ F G i j k+F i k*G k j
def aJD (p:Int) (F G:Nat→Nat→Int) (i j:Nat):Nat→Int
 |0=>0
 |k+1=>(aJD p F G i j k+F i k*G k j) % p
theorem aHm {p:Int} (hp:tX p=true) (F G:Nat→Nat→Int) (i j:Nat): ∀ k,aJD p F G i j k=aAZ F G i j k % p
 |0=>by simp [aJD,aAZ]
 |k+1=>by rw [aJD,aAZ,aHm hp F G i j k];simp [Int.add_emod]
theorem aHn {p:Int} (hp:tX p=true) {F G:Nat→Nat→Int} {i j:Nat} : ∀ {k:Nat},(∀ t,t<k→0≤F i t∧F i t<p)→(∀ t,t<k→0≤G t j∧G t j<p)→0≤aAZ F G i j k∧aAZ F G i j k≤25*k
 |0,_,_=>by simp [aAZ]
 |k+1,hF,hG=>by
  have hb:=eG hp;have h:=aHn hp (k:=k) (λt ht=>hF t (by omega)) (λt ht=>hG t (by omega));have h1:=hF k (by omega);have h2:=hG k (by omega);have h3:=aGL (a:=F i k) (b:=G k j) (by omega) (by omega);rw [aAZ];omega
def wJ (p:Int) (n:Nat) (F G:Nat→Nat→Int):Nat→Nat→Int:=λi j=>aAZ F G i j n % p
theorem aKx {p:Int} (hp:tX p=true) (n:Nat) (F G:Nat→Nat→Int) (m c:Nat):InP p m c (wJ p n F G):=λi j _ _=>tJ hp
theorem aCm {p:Int} (hp:tX p=true) {r n c:Nat} (h1:r*n≤1048576) (h2:n*c≤1048576) (h3:r*c≤1048576) (hr:r≤1048576) (hn:n≤1048576) (hc:c≤1048576) {F G:Nat→Nat→Int} (hF:InP p r n F) (hG:InP p n c G):
  kG p ⟨r,n,bW r n F⟩ ⟨n,c,bW n c G⟩=some ⟨r,c,bW r c (wJ p n F G)⟩:=by
 have hb:=eG hp;unfold kG;simp only;rw [aNH h3,aA];simp only;rw [dL (r:=bW r c (wJ p n F G)) (λi=>(bW r c (λa b=>if a<i then wJ p n F G a b else 0),(i:Int))) r (by simp) (λi hi=>?_) (λ_=>?_),aA]
 ·unfold kF;simp only;rw [jS hi,aN];rw [dL (r:=bW r c (λa b=>if a<i+1 then wJ p n F G a b else 0)) (λj=>(bW r c (λa b=>if a<i∨(a=i∧b<j) then wJ p n F G a b else 0),(j:Int))) c (by simp) (λj hj=>?_) (λ_=>?_),aA,cB hi (by omega)]
  ·unfold kE;simp only;rw [jS hj,aN];have hbd:=aHn hp (F:=F) (G:=G) (i:=i) (j:=j) (k:=n) (λt ht=>hF i t hi ht) (λt ht=>hG t j ht hj);rw [dL (r:=aAZ F G i j n) (λk=>(aAZ F G i j k,(k:Int))) n (by simp [aAZ]) (λk hk=>?_) (λ_=>?_),aA,wI hp (by omega),aA,atT h3 hi hj,aA,aLw h3 hi hj,cB hj (by omega)]
   ·congr 3;refine cE λa b ha hb=>?_;simp only [aDQ];by_cases e:a=i∧b=j
    ·rw [aX e,aX (by omega),e.1,e.2];rfl
    ·rw [aZ e];by_cases e2:a<i∨a=i∧b<j
     ·rw [aX e2,aX (by omega)]
     ·rw [aZ e2,aZ (by omega)]
   ·unfold kD;simp only;have g1:=hF i k hi hk;have g2:=hG k j hk hj;have g3:=aGL (a:=F i k) (b:=G k j) (by omega) (by omega);have g4:=aHn hp (F:=F) (G:=G) (i:=i) (j:=j) (k:=k) (λt ht=>hF i t hi (by omega)) (λt ht=>hG t j (by omega) hj);rw [jS hk,aN,atT h1 hi hk,aA,atT h2 hk hj,aA,cB hk (by omega),dC (x:=F i k*G k j) (by omega),dC (by omega)];rfl
   ·unfold kD;simp only;rw [mM (bN _),aY]
  ·unfold kE;simp only;rw [mM (bN _),aY];congr 2;refine cE λa b ha hb=>?_;by_cases e:a<i+1
   ·rw [aX e,aX (by omega)]
   ·rw [aZ e,aZ (by omega)]
 ·unfold kF;simp only;rw [mM (bN _),aY];congr 2;exact cE λa b ha hb=>by rw [aX ha]
theorem aKy {p:Int} (hp:tX p=true) {r n c:Nat} (h1:r*n≤1048576) (h2:n*c≤1048576) (h3:r*c≤1048576) (hr:r≤1048576) (hn:n≤1048576) (hc:c≤1048576) {F G:Nat→Nat→Int} (hF:InP p r n F) (hG:InP p n c G):
  tG p ⟨r,n,bW r n F⟩ ⟨n,c,bW n c G⟩=some ⟨r,c,bW r c (wJ p n F G)⟩:=by
 have hb:=eG hp;have hD: ∀ i j,aJD p F G i j n=wJ p n F G i j:=λi j=>aHm hp F G i j n;unfold tG;simp only;rw [aHl h3,aA];simp only;rw [dL (r:=bW r c (wJ p n F G)) (λi=>(bW r c (λa b=>if a<i then wJ p n F G a b else 0),(i:Int))) r (by simp) (λi hi=>?_) (λ_=>?_),aA]
 ·unfold rD;simp only;rw [jS hi,aN,aNF h1 hr hi,aA];rw [dL (r:=bW r c (λa b=>if a<i+1 then wJ p n F G a b else 0)) (λk=>(bW r c (λa b=>if a<i then wJ p n F G a b else if a=i then aJD p F G i b k else 0),(k:Int))) n ?_ (λk hk=>?_) (λ_=>?_),aA,cB hi (by omega)]
  ·congr 1
   exact cE λa b ha hb=>by
    by_cases e:a<i
    ·rw [aX e,aX e]
    ·rw [aZ e,aZ e];simp [aJD]
  ·unfold rC;simp only;have g1:=hF i k hi hk;rw [eV,jS hk,aN,aAJ _ hk,aA,aFf h3 hr hi,aA,aNF h2 hn hk,aA,Nat.zero_add,uI h3 hi,uJ h3 hr hi,dZ,dZ,show i*c+c - i*c=c by omega];rw [aFh hp hc hi (by omega) (λb hb=>?_) (λb hb=>hG k b hk hb),aA,eD,eD,bK rfl,aN,cB hk (by omega)]
   ·congr 3;refine cE λa b ha hb=>?_;simp only [aFg];by_cases e:a=i
    ·subst e;simp [aJD]
    ·rw [aZ e,aZ e,aZ e]
   ·rw [aZ (by omega),aX rfl,aHm hp];exact tJ hp
  ·unfold rC;simp only;rw [eV,mM (bN _),aY];congr 2;refine cE λa b ha hb=>?_;by_cases e:a<i
   ·rw [aX e,aX (by omega)]
   ·by_cases e2:a=i
    ·subst e2;rw [aZ (by omega),aX rfl,aX (by omega),hD]
    ·rw [aZ e,aZ e2,aZ (by omega)]
 ·unfold rD;simp only;rw [mM (bN _),aY];congr 2;exact cE λa b ha hb=>by rw [aX ha]
end
end Go.Proofs.YtghechfdejhapaaGreat

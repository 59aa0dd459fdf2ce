/- Several texts. -/
import Derived.Lib.AppendZerosOnto
import Derived.Test.YtgkfbfiiaphgoaaGreatM6
set_option linter.unusedVariables false
set_option linter.unusedSimpArgs false
set_option maxRecDepth 10000
set_option maxHeartbeats 4000000
namespace Go.Proofs.YtgkfbfiiaphgoaaGreat
open Go.RowKit
section
structure HasV (P:Program) (f:FuncId) (ds:List AV) (r:AV):Prop where
 enters:Enters P f
 calls: ∀ (w:World) (args:Array Value) (S:List Nat),RepVs w ds args.toList S->Calls P f args w λe w'=> ∃ v S',e= .returned v/\Below w.heap.size w w'/\RepD w' r v S'/\ ∀ x∈S',x∈S
theorem aEU {w:World} {h:Hp} {u:Us} {ν:Nu} {d:AV} {v:Value} (r:Rep1 w h u ν d v) (ok:fI d=true): ∃ S,RepD w d v S/\ ∀ x∈S,kH h ν x:=by
 cases d <;> simp only [fI,gA] at ok <;> simp only [Rep1] at r
 ·exact ⟨[],by rw [r.1];exact aBX r.2,by simp⟩
 ·exact r
 ·exact r
theorem aFD {w:World} {h:Hp} {u:Us} {ν:Nu} : ∀ {ds:List AV} {vs:List Value},All2 (Rep1 w h u ν) ds vs->ds.all fI=true-> ∃ S,RepVs w ds vs S/\ ∀ x∈S,kH h ν x
 | [],vs,r,_=>by simp only [All2] at r;subst r;exact ⟨[],by simp [RepVs],by simp⟩
 |d::ds,vs,⟨v,q,e,r1,r2⟩,ok=>by
  subst e;simp only [List.all_cons,cY] at ok;obtain ⟨S1,a1,a2⟩:=aEU r1 ok.1;obtain ⟨S2,b1,b2⟩:=aFD r2 ok.2;refine ⟨S1++S2,by simp only [RepVs];exact ⟨v,q,S1,S2,rfl,rfl,a1,b1⟩,λx hx=>?_⟩;rcases eH.1 hx with h|h
  ·exact a2 x h
  ·exact b2 x h
theorem aSN {w:World} {h:Hp} {u:Us} {ν:Nu} {d:AV} {v:Value} (r:RepA w h u ν d v) (ok:vJ d=true): ∃ S,RepD w d v S/\ ∀ x∈S,kH h ν x:=by
 cases d <;> simp only [vJ,fI,gA] at ok <;> simp only [RepA,RepB] at r
 ·exact aEU r rfl
 ·exact aEU r rfl
 ·exact aEU r rfl
 ·obtain ⟨vs,rfl,r⟩:=r;obtain ⟨S,a,b⟩:=aFD r ok;exact ⟨S,by simp only [RepD];exact ⟨vs,rfl,a⟩,b⟩
 ·obtain ⟨vs,rfl,r⟩:=r;obtain ⟨S,a,b⟩:=aFD r ok;exact ⟨S,by simp only [RepD];exact ⟨vs,rfl,a⟩,b⟩
theorem aFE {w:World} {h:Hp} {u:Us} {ν:Nu} : ∀ {ds:List AV} {vs:List Value},All2 (RepA w h u ν) ds vs->ds.all vJ=true-> ∃ S,RepVs w ds vs S/\ ∀ x∈S,kH h ν x
 | [],vs,r,_=>by simp only [All2] at r;subst r;exact ⟨[],by simp [RepVs],by simp⟩
 |d::ds,vs,⟨v,q,e,r1,r2⟩,ok=>by
  subst e;simp only [List.all_cons,cY] at ok;obtain ⟨S1,a1,a2⟩:=aSN r1 ok.1;obtain ⟨S2,b1,b2⟩:=aFE r2 ok.2;refine ⟨S1++S2,by simp only [RepVs];exact ⟨v,q,S1,S2,rfl,rfl,a1,b1⟩,λx hx=>?_⟩;rcases eH.1 hx with h|h
  ·exact a2 x h
  ·exact b2 x h
section
variable {P:Program} {dst:Option Tmp} {ty:TypeId} {pos:String} {aft:Array Edge} {g:Option (Nat×Bool)} {ins:Operand->Option AV} {hp:Hp} {κ:Kp}
theorem aOI {fo:Operand} {xs:Array Operand} {ats:Array TypeId} {f:FuncId} {ds:List AV} {k:Nat} {es:List (List AV)} (hc:HasV P f ds (.list k es)) (hf:ins fo=some (.fn f [])) (hx:evs ins xs.toList=some ds) (hok:ds.all vJ=true):
  AEff P ⟨dst,.call ⟨.value fo,xs,ats⟩,ty,pos,aft,g⟩ ins hp κ ⟨.list k es,[],[],[]⟩:=by
 refine ⟨λC s ν a w Q K {hκ} hi' ht hnw hd hs hK=>?_⟩;have h1:=hs.ev ((hi' fo (by simp [Op.operands,Call.operands])).trans hf);simp only [RepA,RepB] at h1;obtain ⟨cv,h1,h2⟩:=h1;simp only [All2] at h2;subst h2;have h3:=aAY hs (xs:=xs.toList) (λy hy=>hi' y (by simp [Op.operands,Call.operands];exact .inr (Array.mem_toList_iff.1 hy))) hx;obtain ⟨S,e1,e2⟩:=aFE h3 hok;have hcall:=hc.calls w (xs.map a.eval) S (by simpa using e1);unfold Oper.wp
 have hex:(execOp a.eval ⟨dst,.call ⟨.value fo,xs,ats⟩,ty,pos,aft,g⟩).run P w= .ok (.enter f (xs.map a.eval)) w:=by
  have:execOp a.eval ⟨dst,.call ⟨.value fo,xs,ats⟩,ty,pos,aft,g⟩=callFunc f (xs.map a.eval):=by
   simp [execOp,resolve,h1,Deferred.ofValue,invoke]
  rw [this];exact hc.enters _ _
 rw [hex];simp only [Oper.upon];refine hcall.mono λe w' ⟨v,S',he,hb,hr,hsub⟩=>?_;subst he;simp only;obtain ⟨φ,hh⟩:=hs.heap;have ext:Ext w s.heap s.used ν w' s.heap s.used ν:=⟨λ_ h=>h,λ_ blk _ h=>⟨blk,h,rfl,rfl,rfl⟩,λx hx h=>⟨hb.block x hx,h⟩,rfl⟩;refine hK ν _ _ (hs.step hd (s':=s.app dst _) ext (hb.mono hs.base) ⟨φ,λb blk hbl=>?_,hh.apart⟩ rfl ?_)
 ·obtain ⟨g1,g2,g3,g4⟩:=hh.blk b blk hbl;exact ⟨g1,g2.ext ext rfl (λy hy=>hb.block y (g2.lt y hy)),g3,g4⟩
 ·exact ⟨S',hr,λx hx=>e2 x (hsub x hx)⟩
theorem aPu {T:List (Nat×Ty)} (hT:TyOk P T) {s:AState} {x:Operand} {zl zh:Operand} {t e:Nat} {y ye:Ty} {ao:Option Addr} {n c:Nat} {kl kh:IntKind} {l h:Int} (q:0<=l/\l<=h/\h<=n/\n<=c) (hx:s.ev x=some (.sc (.slice ao n c))) (hlo:s.ev zl=some (.sc (.int kl l))) (hhi:s.ev zh=some (.sc (.int kh h))) (hy:dY T t=some y) (hd:y.desc= .slice e) (hye:dY T e=some ye):
  AEff P ⟨dst,.slice t x (some zl) (some zh) none,ty,pos,aft,g⟩ s.ev s.heap s.kp ⟨.sc (.slice (if c=l.toNat then ao else ao.map (·.add (l.toNat*ye.size))) (h.toNat - l.toNat) (c - l.toNat)),[],[],[]⟩:=by
 refine AEff.pure λC s' ν a w hi' ht hs=>?_;have h1:=hs.ev ((hi' x (by simp [Op.operands])).trans hx);have h2:=hs.ev ((hi' zl (by simp [Op.operands])).trans hlo);have h3:=hs.ev ((hi' zh (by simp [Op.operands])).trans hhi);simp only [RepA,RepB,Rep1] at h1 h2 h3;obtain ⟨i1,z1,d1,y1⟩:=hT.is hy;obtain ⟨i2,z2,d2,y2⟩:=hT.is hye;have hsb:=vV (P:=P) (len:=n) (cap:=c) (lo:=some (.int kl l)) (hi:=some (.int kh h)) w (.inr ⟨kl,rfl⟩) (.inr ⟨kh,rfl⟩) q.1 q.2.1 q.2.2.1 q.2.2.2;refine ⟨_,?_,rP rfl⟩;simp only [execOp,Instr.sliceAt,Instr.slice,h1.1,h2.1,h3.1,Sem.run_bind,mP (y1.slice hd),Result.andThen_ok,nJ y2.info,y2.size,Option.map_none,Option.map_some];rw [hsb];by_cases e:c=l.toNat <;> simp [e]
end
theorem aSO {w:World} {k n c:Nat} {es:List (List AV)} {ao:Option Addr} {S:List Nat} {l h:Int} (r:RepD w (.list k es) (.slice ao n c) S) (q:0<=l/\l<=h/\h<=n): ∃ S',RepD w (.list k ((es.drop l.toNat).take (h.toNat - l.toNat))) (.slice (if c=l.toNat then ao else ao.map (·.add (l.toNat*k))) (h.toNat - l.toNat) (c - l.toNat)) S'/\ ∀ x∈S',x∈S:=by
 simp only [RepD] at r ⊢;obtain ⟨ao',c',h3,h4,h5,h6⟩:=r;cases h3;have hlen:((es.drop l.toNat).take (h.toNat - l.toNat)).length=h.toNat - l.toNat:=by simp;omega
 rw [hlen];by_cases hz:h.toNat - l.toNat=0
 ·refine ⟨[],⟨_,_,rfl,by omega,by omega,.inl ⟨?_,rfl⟩⟩,by simp⟩;rw [hz];simp
 ·rcases h6 with ⟨h6,_⟩|⟨b,o,S',rfl,h8,rfl,h9⟩
  ·have:es.length=0:=by rw [h6];rfl
   omega
  ·rw [bB (by omega)];obtain ⟨U1,g1,g2⟩:=h9.dropT (m:=l.toNat);obtain ⟨U2,g3,g4⟩:=g1.takeT (m:=h.toNat - l.toNat);refine ⟨b::U2,⟨_,_,rfl,by omega,by omega,.inr ⟨b,o+l.toNat*k,U2,by simp [Addr.add_lit],h8,rfl,g3⟩⟩,?_⟩;intro y hy;rcases dH.1 hy with rfl|h'
   ·simp
   ·simp [g2 y (g4 y h')]
def zQ (m:Mt) (i:Int):Int:=wr (i*m.cols)
def aDi (m:Mt) (i:Int):Int:=wr (wr (i+1)*m.cols)
def aJU (m:Mt) (i:Int):Option aA:=bif (decide (0<=zQ m i)&&(decide (zQ m i<=aDi m i)&&decide (aDi m i<=(m.cells.length:Int)))) then some ((m.cells.drop (zQ m i).toNat).take ((aDi m i).toNat - (zQ m i).toNat)) else none
theorem aXs (m:Mt) (i:Int) (ao:Option Addr) (n c:Nat) (q:0<=zQ m i/\zQ m i<=aDi m i/\aDi m i<=n/\n<=c):HasC Tryz.prog 237 [.agg [.int m.rows,.int m.cols,.sc (.slice ao n c)],.int i]
  (.sc (.slice (if c=(zQ m i).toNat then ao else ao.map (·.add ((zQ m i).toNat *1))) ((aDi m i).toNat - (zQ m i).toNat) (c - (zQ m i).toNat))):=by
 refine aBY aL (rvs:=[.tmp 4]) (ns:=[0,1,2,3,4,5,6,7,8,9,10,11,12,13]) Tryz.func237 rfl rfl Tryz.ntmps237 rfl rfl rfl ?_;refine mB ?_;refine fM ?_;refine bG (aXL rfl rfl rfl rfl) rfl rfl rfl ?_;refine bG (gH rfl) rfl rfl rfl ?_;refine gD ?_;refine tH ?_;refine mB ?_;refine fM ?_;refine bG (zM aL rfl rfl rfl rfl rfl rfl rfl) rfl rfl rfl ?_;refine bG (fG aL rfl rfl rfl rfl rfl rfl rfl) rfl rfl rfl ?_;refine bG (fF rfl) rfl rfl rfl ?_;refine bG (zM aL rfl rfl rfl rfl rfl rfl rfl) rfl rfl rfl ?_;refine bG (fG aL rfl rfl rfl rfl rfl rfl rfl) rfl rfl rfl ?_;refine bG (gC rfl rfl) rfl rfl rfl ?_;refine bG (fF rfl) rfl rfl rfl ?_;refine bG (bJ rfl rfl) rfl rfl rfl ?_;refine bG (zM aL rfl rfl rfl rfl rfl rfl rfl) rfl rfl rfl ?_;refine bG (fG aL rfl rfl rfl rfl rfl rfl rfl) rfl rfl rfl ?_;refine bG (gC rfl rfl) rfl rfl rfl ?_;refine bG (aPu aL (l:=zQ m i) (h:=aDi m i) q rfl rfl rfl rfl rfl rfl) rfl rfl rfl ?_;refine bG (gH rfl) rfl rfl rfl ?_;refine gD ?_;refine tH ?_;refine aG ?_;exact cA rfl rfl rfl (aLP rfl)
theorem aTz (m:Mt) (i:Int) (r:aA) (h:aJU m i=some r):HasV Tryz.prog 237 [.agg (eM m),.int i] (.list 1 (List.map eI r)):=by
 obtain ⟨q,h⟩:=cg h;obtain rfl:=so h;simp only [cY,gR] at q;refine ⟨Enters.mk Tryz.func237 (by kernel_rfl) (by kernel_rfl),λw args S hargs=>?_⟩;obtain ⟨args⟩:=args;simp only [RepVs] at hargs;obtain ⟨v,r,S1,S2,h1,rfl,h3,v2,r2,S3,S4,h4,rfl,h5,rfl,rfl⟩:=hargs;subst h4 h1;simp only [RepD,eM] at h3;obtain ⟨vs,rfl,h3⟩:=h3;simp only [RepVs] at h3;obtain ⟨u1,r1,T1,T2,rfl,rfl,g1,u2,r3,T3,T4,rfl,rfl,g2,u3,r4,T5,T6,rfl,rfl,g3,rfl,rfl⟩:=h3
 have hu3: ∃ ao n c,u3= .slice ao n c/\n=m.cells.length/\n<=c:=by
  simp only [RepD] at g3;obtain ⟨a,c,rfl,g4,_⟩:=g3;exact ⟨_,_,_,rfl,by simp [aJJ],g4⟩
 obtain ⟨ao,n,c,rfl,hn,hnc⟩:=hu3
 have hcall:=(aXs m i ao n c ⟨q.1,q.2.1,by omega,hnc⟩).calls w #[.agg #[u1,u2,.slice ao n c],v2] (T1++(T3++([]++[]))++(S3++[])) (by
  simp only [RepVs];refine ⟨_,_,_,_,rfl,rfl,?_,_,_,_,_,rfl,rfl,h5,rfl,rfl⟩;simp only [RepD];refine ⟨[u1,u2,.slice ao n c],rfl,?_⟩;simp only [RepVs]
  exact ⟨_,_,_,_,rfl,rfl,by simpa only [RepD] using g1,_,_,_,_,rfl,rfl,by simpa only [RepD] using g2,_,_,[],[],rfl,rfl,aBX rfl,rfl,rfl⟩)
 refine hcall.mono λe w' ⟨v,S',he,hb,hr,_⟩=>?_;simp only [aJD,aSA,aAX] at hr;obtain ⟨rfl,_,_⟩:=hr;obtain ⟨U,k1,k2⟩:=aSO (l:=zQ m i) (h:=aDi m i) g3 ⟨q.1,q.2.1,by omega⟩;refine ⟨_,U,he,hb,?_,?_⟩
 ·have hes:((aSD m.cells).drop (zQ m i).toNat).take ((aDi m i).toNat - (zQ m i).toNat)=List.map eI ((m.cells.drop (zQ m i).toNat).take ((aDi m i).toNat - (zQ m i).toNat)):=by
   show ((m.cells.map eI).drop _).take _=_;rw [List.map_take,List.map_drop]
  rw [←hes];exact k1.below hb
 ·intro x hx;have:=k2 x hx;simp [this]
def aUA (hp:Hp) (touch:List Nat):List (Nat×Option Blk)->Prop
 | []=>True
 |(b,x)::r=>hp b=x/\touch.contains b=true/\aUA hp touch r
theorem aHs {hp h:Hp} {touch:List Nat} (ht: ∀ b∈touch,h b=hp b): ∀ {ed:List (Nat×Option Blk)},aUA hp touch ed->bF ed h=h
 | [],_=>rfl
 |(b,x)::r,⟨h1,h2,h3⟩=>by
  funext c;simp only [bF];by_cases e:c=b
  ·subst e;rw [bZ,aJ,←h1,ht c (by simpa using h2)]
  ·rw [cE e,aY,aHs ht h3]
theorem AEff.pureE {P:Program} {o:Oper} {ins:Operand->Option AV} {hp:Hp} {κ:Kp} {v:AV} {tc:List Nat} {ed:List (Nat×Option Blk)} (h:AEff P o ins hp κ ⟨v,tc,ed,[]⟩) (hs:aUA hp tc ed):AEff P o ins hp κ ⟨v,tc,[],[]⟩:=by
 refine ⟨λC s ν a w Q K {hκ} hi ht hn hd hsim hK=>h.out C s ν a w Q K (hκ:=hκ) hi ht hn hd hsim λν' a' w' hs'=>hK ν' a' w' ?_⟩
 have e:s.app o.dst ⟨v,tc,ed,[]⟩=s.app o.dst ⟨v,tc,[],[]⟩:=by
  unfold AState.app;rw [aHs ht hs];rfl
 rw [←e];exact hs'
theorem aMY {P:Program} {t tn e bytes:Nat} {size:Nat} (et:ElemTy P t e size bytes) (htn:P.underlying tn=some (.int .i64)) (hs:0<size) (w:World) (n:Nat) (h0:0<n) (hn:n<=1048576) (hb:n*bytes<=140737488355328) (ty:Nat):
  ∃ G cur,n<=G/\G<=maxLen/\cur.size=G*size/\(Builtin.append_ #[t,tn] ty #[.slice none 0 0,.int .i64 n]).run P w= .ok (.slice (some ⟨w.heap.size,0,none⟩) n G) (w.drew.alloc (.cells cur e)):=by
 obtain ⟨i,z,h1,h2,h3,h4,h5⟩:=et.hi;have hold:(Builtin.firstCells i.size 0 (.slice none 0 0)).run P w.drew= .ok ([]:List Value).toArray w.drew:=run_firstCells_none w.drew i.size 0 0 0;have h:=Lib.run_append_grow_zeros w t tn ty e i z .i64 .i64 et.ht htn h1 h2 none 0 0 [] hold n h0 (by rw [h3];exact hs) (by omega) (by omega) (by rw [h4];omega) (growslice_fits (by omega) (by rw [h4];simpa using hb));have hG:=grownCap_ge w (0+n) 0 e;have hM:=grownCap_le_maxLen w (0+n) 0 e (by unfold maxLen;omega);rw [Nat.zero_add] at h hG hM;refine ⟨grownCap w n 0 e,_,hG,hM,?_,h⟩;simp only [Array.size_append,List.size_toArray,List.length_nil,Nat.zero_add];unfold Builtin.zeroCells;simp only [Array.size_map,Array.size_range,h5];rw [←Nat.add_mul];congr 1;omega
set_option maxRecDepth 100000 in
set_option maxHeartbeats 1000000 in
theorem aWH (n:Nat) (w:World) (hn:n<=1048576):
  Calls Tryz.prog 231 #[.slice none 0 0,.int .i64 n] w (Ret w λv w'=> ∃ S,Own 3 aKd w' w.heap.size v [] S):=by
 by_cases h0:n=0
 ·subst h0;show Calls Tryz.prog 231 #[.slice none 0 0,.int .i64 0] w _
  go_enter Tryz.func231,Tryz.ntmps231
  go_wp2
  go_ret
  exact ⟨_,rfl,Below.refl _ _,[],Own.nil _ _ _ _⟩
 ·have h1: ¬ ((n:Int)<0):=by omega
  have h4:(n:Int)>0:=by omega
  have key: ∀ ty,∃ G cur,n<=G/\G<=maxLen/\cur.size=G*1/\(Builtin.append_ #[24,3] ty #[.slice none 0 0,.int .i64 n]).run Tryz.prog w= .ok (.slice (some ⟨w.heap.size,0,none⟩) n G) (w.drew.alloc (.cells cur 3)):=λty=>
   aMY aZG Tryz.underlying3 (by decide) w n (by omega) hn (by omega) ty
  obtain ⟨G,cur,hG,hM,hc,hr0⟩:=key 24;have hG63:G<=9223372036854775807:=by unfold maxLen at hM;omega
  have HE:Hid (Own 3 aKd (w.drew.alloc (.cells cur 3)) w.heap.size (.slice (some ⟨w.heap.size,0,none⟩) 0 G) [] [w.heap.size]/\Below w.heap.size w (w.drew.alloc (.cells cur 3))):=
   ⟨⟨[],[],World.ownsRow_made w.drew cur G (bP _) hM hc,⟨rfl,rfl⟩,rfl,⟨by simp,by simp⟩⟩,((aNc 1 (Below.refl _ _):Below w.heap.size w (w.drewN 1))).alloc (bP _) _⟩
  clear key hM hc
  go_enter Tryz.func231,Tryz.ntmps231
  go_wp2_with (at_builtin;refine Lib.wpList_append_run _ rfl _ _ _ _ rfl _ _ rfl rfl _ _ hr0 ?_)
  all_goals (go_ret;exact ⟨_,rfl,HE.out.2,_,HE.out.1⟩)
def aPv (n:Int):Option aA:=bif (decide (0<=n)&&decide (n<=1048576)) then some [] else none
theorem aWI {h:Hp} {k:Nat} :viewA h (.nil k) (.sc (.slice none 0 0)):=rfl
theorem aXt (n:Int) (r:aA) (h:aPv n=some r):HasC Tryz.prog 231 [.sc (.slice none 0 0),.int n] (.list 1 (List.map eI r)):=by
 obtain ⟨q,h⟩:=cg h;obtain rfl:=so h;simp only [cY,gR] at q;refine ⟨Enters.mk Tryz.func231 (by kernel_rfl) (by kernel_rfl),λw args S hargs=>?_⟩;obtain ⟨args⟩:=args;simp only [RepVs,RepD] at hargs;obtain ⟨v,r,S1,S2,h1,rfl,⟨rfl,_,rfl⟩,v2,r2,S3,S4,rfl,rfl,⟨rfl,_,rfl⟩,rfl,rfl⟩:=hargs;subst h1;have hc:=aWH n.toNat w (by omega);rw [show ((n.toNat:Nat):Int)=n by omega] at hc;refine hc.mono λe w' ⟨v,he,hb,S2,ho⟩=>?_;obtain ⟨g1,g2⟩:=aOH ho;exact ⟨v,S2,he,hb,g1,g2⟩
structure SOps (P:Program) (ops:Array Oper) (nt:Nat) (l:List Oper) (s:AState) (K:AState->Prop):Prop where
 out: ∀ (C:Ctx),C.nt=nt-> ∀ (ν:Nu) (a:Act) (w:World),Sim C s ν a w-> ∀ (n:Nat) (Q:Exit->Act->World->Prop),(∀ s' ν' a' w',K s'->Sim C s' ν' a' w'->Q .normal a' w')->wpListIn (fw C.rd) n P ops Q l a w
section
variable {P:Program} {ops:Array Oper} {nt:Nat} {l:List Oper} {s:AState} {K:AState->Prop}
theorem aUB (h:K s):SOps P ops nt [] s K:=⟨λC hC ν a w hs n Q hQ=>hQ s ν a w h hs⟩
theorem nM {t:AState} (e:Ent s t) (h:SOps P ops nt l t K):SOps P ops nt l s K:=⟨λC hC ν a w hs n Q hQ=>by
 obtain ⟨ν',hs'⟩:=e C ν a w hs
 exact h.out C hC ν' a w hs' n Q hQ⟩
theorem aUC {d:Option Tmp} {op:Op} {ty:TypeId} {pos:String} {aft:Array Edge} {g:Option (Nat×Bool)} {e:Eff} (he:AEff P ⟨d,op,ty,pos,aft,g⟩ s.ev s.heap s.kp e) (hd:aIz ⟨d,op,ty,pos,aft,g⟩ nt=true) (hg:pR ops s.env ⟨d,op,ty,pos,aft,g⟩=some true) (hn:(e.news.all λb=> !s.used b)=true)
  (h:SOps P ops nt l (s.app d e) K):SOps P ops nt (⟨d,op,ty,pos,aft,g⟩::l) s K:=⟨λC hC ν a w hs n Q hQ=>by
 subst hC;refine wpListIn_step λK' hK'=>?_;have hst:aMR P ops C.nt ⟨d,op,ty,pos,aft,g⟩ s e:=⟨aIb hd,.inl ⟨hg,he,λb hb=>by have:=List.all_eq_true.1 hn b hb;simpa using this⟩⟩
 exact aCk hst hs λν' a' w' hs'=>hK' _ _ (h.out C rfl ν' a' w' hs' n Q hQ)⟩
theorem aPw {Q:Exit->AState->Prop} {id:Nat} (h:SOps P l.toArray nt l s (Q .normal)):AC P nt (.region id l.toArray false) s Q:=by
 refine ⟨λC hC ν a w hs n=>?_⟩;exact wpIn_region_lit (h.out C hC ν a w hs n _ λs' ν' a' w' hq hs'=>⟨s',ν',hq,hs'⟩)
end
def df1:AV->Bool
 | .sc _=>true
 | .nil _=>true
 | .dead=>true
 | .own _ _ _=>true
 | .ptr _ _ _=>true
 |_=>false
def dfC:AV->Bool
 | .abs _ _=>true
 | .fn _ cs=>cs.all df1
 |x=>df1 x
def dfB:AV->Bool
 | .agg cs=>cs.all df1
 |x=>df1 x
def dfA:AV->Bool
 | .tuple cs=>cs.all dfB
 |x=>dfB x
section
variable {w w':World} {h h':Hp} {u u':Us} {ν ν':Nu} (U: ∀ b,u b=true->u' b=true) (O: ∀ b blk',u b=true->h' b=some blk'-> ∃ blk,h b=some blk/\blk.k=blk'.k/\blk.es.length=blk'.es.length/\ν' b=ν b)
include U O
theorem aMZ: ∀ {x:AV} {v:Value},Rep1 w h u ν x v->df1 x=true->Rep1 w' h' u' ν' x v:=by
 intro x v r t;cases x <;> simp only [df1,gA] at t <;> simp only [Rep1] at r ⊢
 ·exact r
 ·exact r
 ·refine ⟨U _ r.1,λblk hb=>?_⟩;obtain ⟨blk0,e1,e2,e3,e4⟩:=O _ blk r.1 hb;have:=r.2 blk0 e1;rw [e4,←e3,←e2];exact this
 ·refine ⟨U _ r.1,λblk hb=>?_⟩;obtain ⟨blk0,e1,e2,e3,e4⟩:=O _ blk r.1 hb;have:=r.2 blk0 e1;rw [e4,←e2];exact this
end
section
variable {w w':World} {h h':Hp} {u u':Us} {ν ν':Nu} (U: ∀ b,u b=true->u' b=true) (O: ∀ b blk',u b=true->h' b=some blk'-> ∃ blk,h b=some blk/\blk.k=blk'.k/\blk.es.length=blk'.es.length/\ν' b=ν b)
include U O
theorem aJV: ∀ {xs:List AV} {vs:List Value},All2 (Rep1 w h u ν) xs vs->xs.all df1=true->All2 (Rep1 w' h' u' ν') xs vs
 | [],vs,r,_=>r
 |x::xs,vs,⟨v,q,e,r,k⟩,t=>by
  simp only [List.all_cons,cY] at t;exact ⟨v,q,e,aMZ U O r t.1,aJV k t.2⟩
theorem aQy {x:AV} {v:Value} (r:RepB w h u ν x v) (t:dfB x=true):RepB w' h' u' ν' x v:=by
 cases x <;> simp only [RepB] at r ⊢ <;> first
  |exact aMZ U O r t
  |(obtain ⟨vs,e,r⟩:=r;exact ⟨vs,e,aJV U O r t⟩)
  |(simp only [dfB,df1,gA] at t)
theorem aWJ {x:AV} {v:Value} (r:RepA w h u ν x v) (t:dfA x=true):RepA w' h' u' ν' x v:=by
 by_cases ht: ∃ cs,x= .tuple cs
 ·obtain ⟨cs,rfl⟩:=ht;obtain ⟨vs,e,r⟩:=r;refine ⟨vs,e,r.congrM λy hy d hd=>aQy U O hd ?_⟩;exact List.all_eq_true.1 t y hy
 ·have r':RepB w h u ν x v:=by cases x <;> first|exact r|exact absurd ⟨_,rfl⟩ ht
  have t':dfB x=true:=by cases x <;> first|exact t|exact absurd ⟨_,rfl⟩ ht
  have:=aQy (w':=w') U O r' t';cases x <;> first|exact this|exact absurd ⟨_,rfl⟩ ht
theorem aWK {x:AV} {v:Value} {S:List Nat} (hk: ∀ b∈S,w'.heap[b]? =w.heap[b]?) (r:CellRep w h u ν x v S) (t:dfC x=true):CellRep w' h' u' ν' x v S:=by
 cases x <;> simp only [CellRep] at r ⊢ <;> first
  |exact ⟨aMZ U O r.1 t,r.2⟩
  |(obtain ⟨⟨vs,e,q⟩,q2⟩:=r;exact ⟨⟨vs,e,aJV U O q t⟩,q2⟩)
  |exact r.keep hk
  |exact r
theorem aFo: ∀ {xs:List AV} {vs:List Value} {S:List Nat},(∀ b∈S,w'.heap[b]? =w.heap[b]?)->CellsRep w h u ν xs vs S->(∀ c∈xs,dfC c=true)->CellsRep w' h' u' ν' xs vs S
 | [],_,_,_,r,_=>r
 |x::xs,vs,S,hk,⟨v,q,S1,S2,e1,e2,r,k⟩,t=>by
  subst e2;exact ⟨v,q,S1,S2,e1,rfl,aWK U O (λb hb=>hk b (by simp [hb])) r (t x (by simp)),aFo (λb hb=>hk b (by simp [hb])) k (λc hc=>t c (by simp [hc]))⟩
theorem aSP {b:Nat} {blk:Blk} {S:List Nat} (hν:ν' b=ν b) (hk: ∀ x∈S,w'.heap[x]? =w.heap[x]?) (r:BlkOk w h u ν b blk S) (t: ∀ cs∈blk.es,∀ c∈cs,dfC c=true):BlkOk w' h' u' ν' b blk S:=by
 refine ⟨r.1,?_⟩;rcases r.2 with ⟨q1,q2,q3⟩|⟨β,c,arr,ty,T,vs,q1,q2,q3,q4,q5,q6,q7,q8⟩
 ·exact .inl ⟨hν.trans q1,q2,q3⟩
 ·subst q6;refine .inr ⟨β,c,arr,ty,T,vs,hν.trans q1,(hk β (by simp)).trans q2,q3,q4,q5,rfl,q7,aFo U O (λx hx=>hk x (by simp [hx])) q8 λc hc=>?_⟩;obtain ⟨cs,hcs,hc⟩:=List.mem_flatten.1 hc;exact t cs hcs c hc
end
theorem aOJ {w:World} {h:Hp} {u:Us} {ν:Nu} : ∀ {cs:List AV} {vs:List Value} {S:List Nat},RepOV w cs vs S->CellsRep w h u ν (cs.map vA) vs S
 | [],vs,S,r=>by simp only [RepOV] at r;exact r
 |c::cs,vs,S,r=>by
  simp only [RepOV] at r;obtain ⟨v,q,S1,S2,e1,e2,_,h3,h4⟩:=r;refine ⟨v,q,S1,S2,e1,e2,?_,aOJ h4⟩;cases c with
  |sc x=>simp only [RepO] at h3;exact ⟨⟨h3.1,h3.2.1⟩,h3.2.2⟩
  |list k es=>exact h3
  |_=>simp only [RepO] at h3
theorem aPx {k:Nat} {es:List (List AV)} (h: ∀ cs∈es,cs.length=k): ∀ cs∈cK es,cs.length=k:=by
 intro cs hcs;unfold cK at hcs;obtain ⟨d,hd,rfl⟩:=List.mem_map.1 hcs;rw [fE];exact h d hd
theorem aJW (es:List (List AV)):(cK es).flatten=es.flatten.map vA:=by
 unfold cK;rw [List.map_flatten]
theorem aUD {s:AState} {b c i j k':Nat} {blk:Blk} {cs:List AV} {es':List (List AV)} (hT:s.kp.T=true) (hb:s.heap b=some blk) (hi:blk.es[i]? =some cs) (hj:cs[j]? =some (.abs k' es')) (hc:s.used c=false) (hdf: ∀ t x,s.env t=some x->dfA x=true) (hdc: ∀ b blk,s.heap b=some blk-> ∀ cs∈blk.es,∀ c∈cs,dfC c=true):
  Ent s ⟨s.env,bF [(c,some ⟨k',cK es'⟩),(b,some ⟨blk.k,blk.es.set i (cs.take j++[.own c 0 es'.length]++cs.drop (j+1))⟩)] s.heap,gB [c] s.used,s.ns,s.kp⟩:=by
 intro C ν a w hs;obtain ⟨φ,hh⟩:=hs.heap;obtain ⟨hub,⟨hk1,hx1⟩,hnd1,hB1⟩:=hh.blk b blk hb;have hne:b≠c:=by rintro rfl;rw [hub] at hc;cases hc
 have hcn:s.heap c=none:=hs.unused hc;have hcs:=hk1 cs (List.mem_of_getElem? hi)
 have hjl:j<cs.length:=by
  rcases dV j cs.length with h'|h'
  ·exact h'
  ·rw [gS h'] at hj;cases hj
 rcases hx1 with ⟨q1,q2,_⟩|⟨β,cap,arr,ty,T,vs,q1,q2,q3,q4,q5,q6,q7,q8⟩
 ·rw [q2] at hi;simp at hi
 have hdrop:blk.es.flatten.drop (i*blk.k+j)= .abs k' es'::blk.es.flatten.drop (i*blk.k+j+1):=by
  obtain ⟨r,hr⟩:=wU hk1 hi;have h1:blk.es.flatten.drop (i*blk.k+j)=(cs++r).drop j:=by rw [←hr,List.drop_drop]
  have h2:blk.es.flatten.drop (i*blk.k+j+1)=(cs++r).drop (j+1):=by rw [←hr,List.drop_drop,Nat.add_assoc]
  rw [h1,h2,List.drop_append_of_le_length (by omega),List.drop_append_of_le_length (by omega),List.drop_eq_getElem_cons hjl];have:cs[j]= .abs k' es':=by simpa [hjl] using hj
  rw [this];rfl
 have hfl:blk.es.flatten=blk.es.flatten.take (i*blk.k+j)++([.abs k' es']++blk.es.flatten.drop (i*blk.k+j+1)):=by
  rw [List.singleton_append,←hdrop,List.take_append_drop]
 rw [hfl] at q8;obtain ⟨v1,v2,S1,S2,e1,e2,e3,e4,e5⟩:=q8.append_inv;obtain ⟨v3,v4,S3,S4,f1,f2,f3,f4,f5⟩:=e5.append_inv;subst f1 f2;obtain ⟨v,r0,S5,S6,rfl,rfl,g1,⟨rfl,rfl⟩⟩:=f4;simp only [CellRep] at g1;rw [List.append_nil] at e2;have hφ:φ b=β::(S1++(S5++S4)):=by rw [q6,e2]
 obtain ⟨νc,hνc⟩: ∃ νc:Option (Nat×Nat),(∀ (h:Hp) (u:Us) (ν':Nu),ν' c=νc->BlkOk w h u ν' c ⟨k',cK es'⟩ S5)/\(νc=none->v= .slice none 0 0)/\(∀ β' cap',νc=some (β',cap')->ownV β' 0 k' es'.length cap' v/\β'∈S5):=by
  simp only [RepO] at g1;rcases g1 with ⟨rfl,rfl,rfl⟩|⟨β',cap',arr',ty',T',vs',p1,p2,p3,p4,p5,p6,rfl,p8,p9⟩
  ·exact ⟨none,λh u ν' hν=>⟨by simp [cK],.inl ⟨hν,rfl,rfl⟩⟩,λ_=>rfl,λ_ _ e=>by cases e⟩
  ·have hl:(cK es').length=es'.length:=by simp [cK]
   refine ⟨some (β',cap'),λh u ν' hν=>⟨aPx p6,.inr ⟨β',cap',arr',ty',T',vs',hν,p2,p3,by show (cK es').length <=cap';omega,p5,rfl,by show arr'.toList.take ((cK es').length *k')=vs';rw [hl];exact p8,?_⟩⟩,λe=>by (cases e),λx y e=>?_⟩
   ·show CellsRep w h u ν' (cK es').flatten vs' T';rw [aJW];exact aOJ (aAq.1 p9)
   ·cases e;rw [p1];exact ⟨aGc,by simp⟩
 obtain ⟨hB,hn0,hn1⟩:=hνc;let ν':Nu:=⟨λx=>if x=c then νc else ν x,ν.ok⟩;have hν1:ν' c=νc:=bD rfl;have hν2: ∀ x,x≠c->ν' x=ν x:=λx hx=>bB hx;have hl1:bF [(c,some ⟨k',cK es'⟩),(b,some ⟨blk.k,blk.es.set i (cs.take j++[.own c 0 es'.length]++cs.drop (j+1))⟩)] s.heap c=some ⟨k',cK es'⟩:=by simp [bF]
 have hl2:bF [(c,some ⟨k',cK es'⟩),(b,some ⟨blk.k,blk.es.set i (cs.take j++[.own c 0 es'.length]++cs.drop (j+1))⟩)] s.heap b=some ⟨blk.k,blk.es.set i (cs.take j++[.own c 0 es'.length]++cs.drop (j+1))⟩:=by simp [bF,cE hne]
 have hl3: ∀ x,x≠c->x≠b->bF [(c,some ⟨k',cK es'⟩),(b,some ⟨blk.k,blk.es.set i (cs.take j++[.own c 0 es'.length]++cs.drop (j+1))⟩)] s.heap x=s.heap x:=λx h1 h2=>by simp [bF,cE h1,cE h2]
 generalize hH:bF [(c,some ⟨k',cK es'⟩),(b,some ⟨blk.k,blk.es.set i (cs.take j++[.own c 0 es'.length]++cs.drop (j+1))⟩)] s.heap=H at*;have U: ∀ x,s.used x=true->gB [c] s.used x=true:=λx hx=>by rw [jD,hx,Bool.or_true]
 have O: ∀ x blk',s.used x=true->H x=some blk'-> ∃ y,s.heap x=some y/\y.k=blk'.k/\y.es.length=blk'.es.length/\ν' x=ν x:=by
  intro x blk' hu hx;have hxc:x≠c:=by rintro rfl;rw [hu] at hc;cases hc
  by_cases e:x=b
  ·subst e;rw [hl2] at hx;cases hx;exact ⟨blk,hb,rfl,by simp,hν2 _ hxc⟩
  ·rw [hl3 x hxc e] at hx;exact ⟨blk',hx,rfl,rfl,hν2 _ hxc⟩
 have hfl2: ∀ d∈blk.es.flatten,dfC d=true:=by
  intro d hd;obtain ⟨ds,h1,h2⟩:=List.mem_flatten.1 hd;exact hdc b blk hb ds h1 d h2
 refine ⟨ν',hs.below,hs.base,hs.fresh,hs.defers,hs.size,λt x hx=>by obtain ⟨v,h1,h2⟩:=hs.env t x hx;exact ⟨v,h1,aWJ U O h2 (hdf t x hx)⟩,⟨λx=>if x=c then S5 else if x=b then β::(S1++S4) else φ x,?_,?_⟩,hs.kp,?_,hs.szE,hs.okM,hs.okF⟩
 ·intro x blk2 hx;replace hx:H x=some blk2:=hx;have hnd:=hnd1;rw [hφ] at hnd;have n1:=List.nodup_cons.1 hnd;have n2:=List.nodup_append.1 n1.2;have n3:=List.nodup_append.1 n2.2.1;by_cases e:x=c
  ·subst e;rw [hl1] at hx;cases hx;simp only [if_true];refine ⟨by rw [jD];simp,hB _ _ _ hν1,n3.1,λy hy=>hB1 y (by rw [hφ];simp [hy])⟩
  ·by_cases e0:x=b
   ·subst e0;rw [hl2] at hx;cases hx;simp only [bB e,if_true];refine ⟨U _ hub,⟨?_,.inr ⟨β,cap,arr,ty,S1++S4,vs,(hν2 _ e).trans q1,q2,q3,by simpa using q4,q5,rfl,by simpa using q7,?_⟩⟩,?_,?_⟩
    ·intro d hd;rcases List.mem_or_eq_of_mem_set hd with h|h
     ·exact hk1 d h
     ·rw [h];simp;omega
    ·rw [vH (n:=1) hk1 hi rfl (by omega),e1]
     have m1:CellsRep w H (gB [c] s.used) ν' [.own c 0 es'.length] [v] []:=by
      refine ⟨v,[],[],[],rfl,rfl,⟨⟨by rw [jD];simp,λblk3 h3=>?_⟩,rfl⟩,rfl,rfl⟩;rw [hl1] at h3;cases h3;refine ⟨by simp [cK],λh4=>hn0 (hν1.symm.trans h4),λβ' c' h4=>(hn1 β' c' (hν1.symm.trans h4)).1⟩
     have m2:=(aFo (w':=w) (h':=H) (u':=gB [c] s.used) (ν':=ν') U O (λ_ _=>rfl) e4 (λd hd=>hfl2 d (List.mem_of_mem_take hd))).append (m1.append (aFo (w':=w) (h':=H) (u':=gB [c] s.used) (ν':=ν') U O (λ_ _=>rfl) f5 (λd hd=>hfl2 d (List.mem_of_mem_drop hd))));rw [List.append_assoc (List.take (i*blk.k+j) blk.es.flatten)];simpa using m2
    ·refine List.nodup_cons.2 ⟨λhm=>n1.1 ?_,List.nodup_append.2 ⟨n2.1,n3.2.1,λy hy z hz=>n2.2.2 y hy z (by simp [hz])⟩⟩;rcases eH.1 hm with h|h <;> simp [h]
    ·intro y hy;refine hB1 y ?_;rw [hφ];rcases dH.1 hy with rfl|h
     ·simp
     ·rcases eH.1 h with h|h <;> simp [h]
   ·rw [hl3 x e e0] at hx;simp only [bB e,bB e0];obtain ⟨p1,p2,p3,p4⟩:=hh.blk x blk2 hx;exact ⟨U _ p1,aSP U O (hν2 _ e) (λ_ _=>rfl) p2 (hdc x blk2 hx),p3,p4⟩
 ·have hnd:=hnd1;rw [hφ] at hnd;have n1:=List.nodup_cons.1 hnd;have n2:=List.nodup_append.1 n1.2;have n3:=List.nodup_append.1 n2.2.1;have hbn:s.heap b≠none:=by rw [hb];simp
  have hS5: ∀ y,y∈S5->y∈φ b:=λy hy=>by rw [hφ];simp [hy]
  have hSb: ∀ y,y∈β::(S1++S4)->y∈φ b:=λy hy=>by
   rw [hφ];rcases dH.1 hy with rfl|h
   ·simp
   ·rcases eH.1 h with h|h <;> simp [h]
  have hcb: ∀ y,y∈S5->y ∉ β::(S1++S4):=by
   intro y h5 hy;rcases dH.1 hy with rfl|h
   ·exact n1.1 (by simp [h5])
   ·rcases eH.1 h with h|h
    ·exact n2.2.2 y h y (by simp [h5]) rfl
    ·exact n3.2.2 y h5 y h rfl
  intro x1 x2 y hx1 hx2 hne2 hy1 hy2;replace hx1:H x1≠none:=hx1;replace hx2:H x2≠none:=hx2;replace hy1:y∈(if x1=c then S5 else if x1=b then β::(S1++S4) else φ x1):=hy1;replace hy2:y∈(if x2=c then S5 else if x2=b then β::(S1++S4) else φ x2):=hy2;by_cases a1:x1=c <;> by_cases a2:x2=c
  ·exact hne2 (a1.trans a2.symm)
  ·rw [bD a1] at hy1;rw [bB a2] at hy2;by_cases b2:x2=b
   ·rw [bD b2] at hy2;exact hcb y hy1 hy2
   ·rw [bB b2] at hy2;rw [hl3 x2 a2 b2] at hx2;exact hh.apart b x2 y hbn hx2 (Ne.symm b2) (hS5 y hy1) hy2
  ·rw [bB a1] at hy1;rw [bD a2] at hy2;by_cases b1:x1=b
   ·rw [bD b1] at hy1;exact hcb y hy2 hy1
   ·rw [bB b1] at hy1;rw [hl3 x1 a1 b1] at hx1;exact hh.apart b x1 y hbn hx1 (Ne.symm b1) (hS5 y hy2) hy1
  ·rw [bB a1] at hy1;rw [bB a2] at hy2;by_cases b1:x1=b <;> by_cases b2:x2=b
   ·exact hne2 (b1.trans b2.symm)
   ·rw [bD b1] at hy1;rw [bB b2] at hy2;rw [hl3 x2 a2 b2] at hx2;exact hh.apart b x2 y hbn hx2 (Ne.symm b2) (hSb y hy1) hy2
   ·rw [bB b1] at hy1;rw [bD b2] at hy2;rw [hl3 x1 a1 b1] at hx1;exact hh.apart b x1 y hbn hx1 (Ne.symm b1) (hSb y hy2) hy1
   ·rw [bB b1] at hy1;rw [bB b2] at hy2;rw [hl3 x1 a1 b1] at hx1;rw [hl3 x2 a2 b2] at hx2;exact hh.apart x1 x2 y hx1 hx2 hne2 hy1 hy2
 ·refine ⟨λx hx=>U x (hs.ext.used x hx),λx blk' hx hl'=>?_,λx hx hF=>?_,hs.ext.okE⟩
  ·obtain ⟨y,g1,g2,g3,g4⟩:=O x blk' (hs.ext.used x hx) hl';obtain ⟨z,k1,k2,k3,k4⟩:=hs.ext.old x y hx g1;exact ⟨z,k1,k2.trans g2,k3.trans g3,g4.trans k4⟩
  ·obtain ⟨g1,g2⟩:=hs.ext.free x hx hF;refine ⟨g1,λb2 blk2 β2 c2 hb2 h2 e=>?_⟩;replace hb2:H b2=some blk2:=hb2;by_cases a1:b2=c
   ·subst a1;rw [hν1] at h2;subst e;exact C.tm (by rw [←hs.kp];exact hT) β2 hx (hB1 β2 (by rw [hφ];simp [(hn1 _ _ h2).2])) hF
   ·rw [hν2 _ a1] at h2;by_cases a2:b2=b
    ·subst a2;exact g2 b2 blk β2 c2 hb h2 e
    ·rw [hl3 b2 a1 a2] at hb2;exact g2 b2 blk2 β2 c2 hb2 h2 e
def Raw1 (κ:Kp) (x d:AV):Prop:= ∃ W G v S,κ.fx=some (W,G)/\x= .sc v/\RepD W d v S/\ ∀ b∈S,G b
def RawK (κ:Kp):AV->AV->Prop
 | .agg xs,.agg ds=>All2 (Raw1 κ) xs ds
 |x,d=>Raw1 κ x d
theorem Sim.stays {C:Ctx} {s:AState} {ν:Nu} {a:Act} {w:World} (hs:Sim C s ν a w) {κ:Kp} (hκ:s.kp=κ) {W:World} {G:Nat->Prop} (h:κ.fx=some (W,G)) {b:Nat} (hb:G b):w.heap[b]? =W.heap[b]? /\kH s.heap ν b:=by
 obtain ⟨e1,e2⟩:=C.fxp (W,G) (by rw [←hs.kp,hκ];exact h);obtain ⟨e3,e4⟩:=e2 b hb;obtain ⟨e5,e6⟩:=hs.ext.free b e3 e4;rw [e1] at e5;exact ⟨e5,e6,hs.okF (W,G) (by rw [←hs.kp,hκ];exact h) b hb⟩
theorem Raw1.rep {C:Ctx} {s:AState} {ν ν':Nu} {a:Act} {w:World} {h:Hp} {u:Us} (hs:Sim C s ν a w) {κ:Kp} (hκ:s.kp=κ) {x d:AV} {v:Value} (r:Rep1 w h u ν' x v) (m:Raw1 κ x d): ∃ S',RepD w d v S':=by
 obtain ⟨W,G,y,S,h1,rfl,h2,h3⟩:=m;rw [r.1];exact ⟨S,h2.keep λb hm=>(hs.stays hκ h1 (h3 b hm)).1⟩
theorem RawK.rep {C:Ctx} {s:AState} {ν:Nu} {a:Act} {w:World} (hs:Sim C s ν a w) {κ:Kp} (hκ:s.kp=κ) {x d:AV} {v:Value} (r:RepA w s.heap s.used ν x v) (m:RawK κ x d): ∃ S',RepD w d v S':=by
 by_cases ho: ∃ xs ds,x= .agg xs/\d= .agg ds
 ·obtain ⟨xs,ds,rfl,rfl⟩:=ho;obtain ⟨vs,rfl,r⟩:=r;obtain ⟨S,h⟩:=xH (V:=Raw1 κ) (λx d v hr hm=>hm.rep hs hκ hr) r m;exact ⟨S,by simp only [RepD];exact ⟨vs,rfl,h⟩⟩
 ·have m':Raw1 κ x d:=by
   cases x <;> first|exact m|(cases d <;> first|exact m|exact absurd ⟨_,_,rfl,rfl⟩ ho)
  obtain ⟨W,G,y,S,h1,rfl,h2,h3⟩:=m';exact Raw1.rep (h:=s.heap) (u:=s.used) (ν':=ν) (x:= .sc y) hs hκ (show Rep1 w s.heap s.used ν (.sc y) v from r) ⟨W,G,y,S,h1,rfl,h2,h3⟩
def rd1:AV->Bool
 | .sc _=>true
 | .list _ _=>true
 | .ref _=>true
 |_=>false
theorem Raw1.rep1 {C:Ctx} {s:AState} {ν:Nu} {a:Act} {w:World} (hs:Sim C s ν a w) {κ:Kp} (hκ:s.kp=κ) {x d:AV} {v:Value} (r:Rep1 w s.heap s.used ν x v) (m:Raw1 κ x d) (ok:rd1 d=true):Rep1 w s.heap s.used ν d v:=by
 obtain ⟨W,G,y,S,h1,rfl,h2,h3⟩:=m;rw [r.1];have h4:=h2.keep λb hm=>(hs.stays hκ h1 (h3 b hm)).1;cases d <;> simp only [rd1,gA] at ok
 ·simp only [RepD] at h4;exact ⟨h4.1,h4.2.1⟩
 ·exact ⟨S,h4,λx hx=>(hs.stays hκ h1 (h3 x hx)).2⟩
 ·exact ⟨S,h4,λx hx=>(hs.stays hκ h1 (h3 x hx)).2⟩
def xM (W:World):Option (World×(Nat->Prop)):=some (W,λx=>x<W.heap.size)
theorem aAE {κ:Kp} {W:World} {d:AV} {v:Value} {S:List Nat} (h:κ.fx=xM W) (r:RepD W d v S):Raw1 κ (.sc v) d:=⟨W,_,v,S,h,rfl,r,r.lt⟩
theorem aMa {κ:Kp} {W:World} {u:Value} (h:κ.fx=xM W) (o:u.oneCell'=true):Raw1 κ (.sc u) (.sc u):=aAE h (aBX o)
theorem aXQ {κ:Kp} {W:World} {k:Nat} {es:List (List AV)} {v:Value} {S:List Nat} (h:κ.fx=xM W) (r:RepD W (.list k es) v S):RawK κ (.sc v) (.list k es):=aAE h r
theorem aMb {κ:Kp} :RawK κ (.agg []) (.agg []):=rfl
theorem xP {κ:Kp} {x d:AV} {xs ds:List AV} (a:Raw1 κ x d) (b:RawK κ (.agg xs) (.agg ds)):RawK κ (.agg (x::xs)) (.agg (d::ds)):=⟨d,ds,rfl,a,b⟩
def aAQ (κ:Kp) (h:Hp) (x d:AV):Prop:=viewA h x d∨RawK κ x d
theorem aGr {κ:Kp} {h:Hp} :All2 (aAQ κ h) [] []:=rfl
theorem aBc {κ:Kp} {h:Hp} {x d:AV} {xs ds:List AV} (a:aAQ κ h x d) (b:All2 (aAQ κ h) xs ds):All2 (aAQ κ h) (x::xs) (d::ds):=⟨d,ds,rfl,a,b⟩
theorem aFF {R:AV->Value->Prop} {V:AV->AV->Prop} {w:World} (hr: ∀ x d v,R x v->V x d-> ∃ S',RepD w d v S') {xs ds:List AV} {vs:List Value} (r:All2 R xs vs) (m:All2 V xs ds): ∃ S',RepVs w ds vs S':=xH hr r m
section
variable {P:Program} {dst:Option Tmp} {ty:TypeId} {pos:String} {aft:Array Edge} {g:Option (Nat×Bool)} {ins:Operand->Option AV} {hp:Hp} {κ:Kp}
theorem aLd {fo:Operand} {xs:Array Operand} {ats:Array TypeId} {f:FuncId} {avs ds:List AV} {r x:AV} {nb:List (Nat×Blk)} {ns ns':List Nat} (hf:ins fo=some (.fn f [])) (hx:evs ins xs.toList=some avs) (hc:HasC P f ds r) (hv1:All2 (aAQ κ hp) avs ds) (hg:aHo r)
  (hi:aPk ns r=(x,nb,ns')) (hfl:aNp x=true) (hn:ns.Nodup):
  AEff P ⟨dst,.call ⟨.value fo,xs,ats⟩,ty,pos,aft,g⟩ ins hp κ ⟨x,avs.flatMap (oJ hp),rS nb,nb.map (·.1)⟩:=by
 refine ⟨λC s ν a w Q K {hκ} hi' ht hnw hd hs hK=>?_⟩;have h1:=hs.ev ((hi' fo (by simp [Op.operands,Call.operands])).trans hf);simp only [RepA,RepB] at h1;obtain ⟨cv,h1,h2⟩:=h1;simp only [All2] at h2;subst h2;obtain ⟨φ,hh⟩:=hs.heap;have h3:=aAY hs (xs:=xs.toList) (λy hy=>hi' y (by simp [Op.operands,Call.operands];exact .inr (Array.mem_toList_iff.1 hy))) hx;have hv1':All2 (aAQ κ s.heap) avs ds:=hv1.congrM λy hy d hd=>hd.elim (λhd=> .inl (hd.congr λb hb=>ht b (List.mem_flatMap.2 ⟨y,hy,hb⟩))) .inr;obtain ⟨S1,e1⟩:=aFF (V:=aAQ κ s.heap) (λx d v hr hv=>hv.elim (λhv=>viewA.rep hh hr hv) (λhv=>hv.rep hs hκ hr)) h3 hv1';have hcall:=hc.calls w (xs.map a.eval) S1 (by simpa using e1);unfold Oper.wp
 have hex:(execOp a.eval ⟨dst,.call ⟨.value fo,xs,ats⟩,ty,pos,aft,g⟩).run P w= .ok (.enter f (xs.map a.eval)) w:=by
  have:execOp a.eval ⟨dst,.call ⟨.value fo,xs,ats⟩,ty,pos,aft,g⟩=callFunc f (xs.map a.eval):=by
   simp [execOp,resolve,h1,Deferred.ofValue,invoke]
  rw [this];exact hc.enters _ _
 rw [hex];simp only [Oper.upon];refine hcall.mono λe w' ⟨v,S',he,hb,hr,hnew⟩=>?_;subst he;simp only;obtain ⟨g1,X,Sf,g2,g3⟩:=aMT (w:=w) hi hfl hr hg hnew.1 hn;have hnn:(nb.map (·.1)).Nodup:=by rw [g1] at hn;exact (List.nodup_append.1 hn).1
 obtain ⟨ν',hs'⟩:=hs.call hd hb g2 hnew hnn (λb hb=>hnw b hb) g3 (touch:=avs.flatMap (oJ hp));exact hK ν' _ _ hs'
end
section
variable {P:Program} {dst:Option Tmp} {ty:TypeId} {pos:String} {aft:Array Edge} {g:Option (Nat×Bool)} {s:AState}
theorem aEV {f:FuncId} {xs:Array Operand} {ats:Array TypeId} {avs ds:List AV} {u:Value} (hc:HasC P f ds (.sc u)) (hx:evs s.ev xs.toList=some avs) (hv1:All2 (aAQ s.kp s.heap) avs ds):
  AEff P ⟨dst,.call ⟨.value (.func f),xs,ats⟩,ty,pos,aft,g⟩ s.ev s.heap s.kp ⟨.sc u,avs.flatMap (oJ s.heap),[],[]⟩:=
 aLd (ns:=[]) (nb:=[]) (r:= .sc u) (x:= .sc u) rfl hx hc hv1 trivial (aIe [] u) rfl (by simp)
theorem aOK {f:FuncId} {xs:Array Operand} {ats:Array TypeId} {avs ds:List AV} {r x:AV} {nb:List (Nat×Blk)} {ns':List Nat} (hc:HasC P f ds r) (hx:evs s.ev xs.toList=some avs) (hi:aPk s.ns r=(x,nb,ns')) (hfl:aNp x=true) (hn:wV s.ns=true) (hg:aHo r) (hv1:All2 (aAQ s.kp s.heap) avs ds):
  AEff P ⟨dst,.call ⟨.value (.func f),xs,ats⟩,ty,pos,aft,g⟩ s.ev s.heap s.kp ⟨x,avs.flatMap (oJ s.heap),rS nb,nb.map (·.1)⟩:=
 aLd rfl hx hc hv1 hg hi hfl (yH hn)
end
def aJX (w:World):List AV->(List AV->Prop)->Prop
 | [],K=>K []
 | .sc u::cs,K=>aJX w cs (λxs=>K (.sc u::xs))
 |d::cs,K=> ∀ v S,RepD w d v S->aJX w cs (λxs=>K (.sc v::xs))
def qQ (w:World):List AV->(List AV->Prop)->Prop
 | [],K=>K []
 | .sc u::ds,K=>qQ w ds (λxs=>K (.sc u::xs))
 | .agg cs::ds,K=>aJX w cs (λxs=>qQ w ds (λys=>K (.agg xs::ys)))
 |d::ds,K=> ∀ v S,RepD w d v S->qQ w ds (λxs=>K (.sc v::xs))
theorem aJY {w:World} {K:List AV->Prop} (h:K []):aJX w [] K:=h
theorem aMc {w:World} {u:Value} {cs:List AV} {K:List AV->Prop} (h:aJX w cs (λxs=>K (.sc u::xs))):aJX w (.sc u::cs) K:=h
theorem aGs {w:World} {k:Nat} {es:List (List AV)} {cs:List AV} {K:List AV->Prop} (h: ∀ v S,RepD w (.list k es) v S->aJX w cs (λxs=>K (.sc v::xs))):aJX w (.list k es::cs) K:=h
theorem aFp {w:World} {K:List AV->Prop} (h:K []):qQ w [] K:=h
theorem aMd {w:World} {u:Value} {cs:List AV} {K:List AV->Prop} (h:qQ w cs (λxs=>K (.sc u::xs))):qQ w (.sc u::cs) K:=h
theorem aJZ {w:World} {xs cs:List AV} {K:List AV->Prop} (h:aJX w xs (λxs=>qQ w cs (λys=>K (.agg xs::ys)))):qQ w (.agg xs::cs) K:=h
theorem aUE {w:World} {k:Nat} {es:List (List AV)} {cs:List AV} {K:List AV->Prop} (h: ∀ v S,RepD w (.list k es) v S->qQ w cs (λxs=>K (.sc v::xs))):qQ w (.list k es::cs) K:=h
def aQz:AV->Bool
 | .sc u=>u.oneCell'
 | .agg cs=>cs.all kW
 | .list _ _=>true
 |_=>false
theorem aJa {w:World} {d:AV} {v:Value} {S:List Nat} (r:RepD w d v S) (ok:kW d=true):v.oneCell'=true:=by
 cases d <;> simp only [kW,gA] at ok <;> simp only [RepD] at r
 ·rw [r.1];exact ok
 ·obtain ⟨a,c,rfl,_⟩:=r;rfl
theorem aMe {w:World} : ∀ {cs:List AV} {us:List Value} {S:List Nat} {K:List AV->Prop},RepVs w cs us S->cs.all kW=true->aJX w cs K-> ∃ xs,K xs/\ ∀ (w':World) (h:Hp) (u:Us) (ν:Nu),All2 (Rep1 w' h u ν) xs us
 | [],us,S,K,r,_,k=>by simp only [RepVs] at r;obtain ⟨rfl,_⟩:=r;exact ⟨[],k,λ_ _ _ _=>rfl⟩
 |c::cs,us,S,K,r,ok,k=>by
  simp only [RepVs] at r;obtain ⟨v,q,S1,S2,rfl,rfl,h3,h4⟩:=r;simp only [List.all_cons,cY] at ok
  have key: ∀ x,aJX w cs (λxs=>K (x::xs))->x= .sc v-> ∃ xs,K xs/\ ∀ (w':World) (h:Hp) (u:Us) (ν:Nu),All2 (Rep1 w' h u ν) xs (v::q):=by
   rintro x k1 rfl;obtain ⟨xs,g1,g2⟩:=aMe h4 ok.2 k1;exact ⟨.sc v::xs,g1,λw' h u ν=>⟨v,q,rfl,⟨rfl,aJa h3 ok.1⟩,g2 w' h u ν⟩⟩
  cases c <;> simp only [kW,gA,false_and] at ok
  ·simp only [RepD] at h3;exact key _ k (by rw [h3.1])
  ·exact key _ (k v S1 h3) rfl
theorem aGt {w:World} : ∀ {ds:List AV} {vs:List Value} {S:List Nat} {K:List AV->Prop},RepVs w ds vs S->ds.all aQz=true->qQ w ds K-> ∃ xs,K xs/\xs.length=ds.length/\ ∀ (h:Hp) (u:Us) (ν:Nu),All2 (RepA w h u ν) xs vs
 | [],vs,S,K,r,_,k=>by simp only [RepVs] at r;obtain ⟨rfl,_⟩:=r;exact ⟨[],k,rfl,λ_ _ _=>rfl⟩
 |d::ds,vs,S,K,r,ok,k=>by
  simp only [RepVs] at r;obtain ⟨v,q,S1,S2,rfl,rfl,h3,h4⟩:=r;simp only [List.all_cons,cY] at ok
  have key: ∀ x,qQ w ds (λxs=>K (x::xs))->(∀ (h:Hp) (u:Us) (ν:Nu),RepA w h u ν x v)-> ∃ xs,K xs/\xs.length=(d::ds).length/\ ∀ (h:Hp) (u:Us) (ν:Nu),All2 (RepA w h u ν) xs (v::q):=by
   intro x k1 hx;obtain ⟨xs,g1,g2,g3⟩:=aGt h4 ok.2 k1;exact ⟨x::xs,g1,by simp [g2],λh u ν=>⟨v,q,rfl,hx h u ν,g3 h u ν⟩⟩
  cases d <;> simp only [aQz,gA,false_and] at ok
  ·simp only [RepD] at h3;exact key _ k λh u ν=>by simp only [RepA,RepB,Rep1];exact ⟨h3.1,h3.2.1⟩
  ·exact key _ (k v S1 h3) λh u ν=>(show Rep1 w h u ν (.sc v) v from ⟨rfl,aJa h3 rfl⟩)
  ·have h3':=h3;simp only [RepD] at h3';obtain ⟨us,rfl,h5⟩:=h3';obtain ⟨xs,g1,g2⟩:=aMe h5 ok.1 k;exact key _ g1 λh u ν=>by simp only [RepA,RepB];exact ⟨us,rfl,g2 w h u ν⟩
theorem aOL {P:Program} {T:List (Nat×Ty)} (hT:TyOk P T) {f:FuncId} {fn:Func} {c:Code} {nt:Nat} {ds:List AV} {r:AV} {rvs:List ResultVar} {ns:List Nat} (hf:P.funcs[f]? =some fn) (hb:fn.body=some c) (hname:(fn.name== "runtime.NumGoroutine")=false) (hnt:fn.ntmps=nt) (hres:fn.results.toList=rvs)
  (hlen:Nat.ble ds.length nt=true) (hok:ds.all aQz=true) (h: ∀ W:World,qQ W ds λxs=>AC P nt c ⟨aDc xs,hJ [],uF 0,ns,⟨0,true,xM W,true⟩⟩ (uI T rvs r)):HasC P f ds r:=by
 refine ⟨Enters.mk hf (by rw [hb];rfl) hname,λw args S hargs=>?_⟩;refine (callsIn_wide (n:=0)).1 (callsIn_of_wp_marks (F:=fw none) hf hb trivial ?_);have hlen':=Nat.le_of_ble_eq_true hlen;have hal:args.size=ds.length:=by have:=hargs.len;simpa using this
 obtain ⟨xs,hac,hxl,hxr⟩:=aGt hargs hok (h w);let C:Ctx:=⟨w.heap.size,w,nt,λx=>w.heap.size<=x,λ_ h=>h,⟨0,true,xM w,true⟩,w,hJ [],Nu.none,λx=>x<w.heap.size,λ_ x hx hm=>absurd hx (Nat.not_lt.2 hm),(λp h=>by cases h;exact ⟨rfl,λx hx=>⟨hx,hx⟩⟩),none,λ_=>rfl⟩;have hfr: ∀ x,tF (hJ []) Nu.none x:=λx b blk β c hb=>by cases hb
 have hsim:Sim C ⟨aDc xs,hJ [],uF 0,ns,⟨0,true,xM w,true⟩⟩ Nu.none ⟨args++Array.replicate (fn.ntmps - args.size) undef,[]⟩ w:=by
  refine ⟨Below.refl _ _,bP _,λ_ hx=>hx,uG,by show (args++Array.replicate (fn.ntmps - args.size) undef).size=nt;simp [hnt];omega,?_,⟨λ_=>[],λb blk hb=>(by cases hb),λb c x hb=>absurd rfl hb⟩,rfl,ExtF.refl λx _ _=>hfr x,bP _,λ_ _=>trivial,λ_ _ _ _=>trivial⟩;intro t x hx;have hx':xs[t]? =some x:=by rw [←aFl];exact hx
  obtain ⟨v,h1,h2⟩:=(hxr (hJ []) (uF 0) Nu.none).get hx';refine ⟨v,?_,h2⟩
  have hlt:t<args.size:=by
   rcases dV t args.size with h'|h'
   ·exact h'
   ·rw [gS (by simpa using h')] at h1;cases h1
  show (args++Array.replicate (fn.ntmps - args.size) undef)[t]? =some v;rw [Array.getElem?_append_left hlt];simpa using h1
 refine wpIn_mono (hac.out C rfl _ _ w hsim 0) λe a' w0 ⟨s',ν',hq,hs0⟩=>?_;obtain ⟨Ds,d1,d2,d3⟩:=hs0.defers;obtain ⟨w',hs',hleave⟩:=hs0.leave (P:=P) (n:=0) d1 d2 d3;obtain ⟨he,avs,hv,hn,hfz⟩:=hq;obtain ⟨us,h1,h2⟩:=zL hT hs' hv;obtain ⟨φ,hh⟩:=hs'.heap;have hn':=yH hn
 have hrun:(results fn a'.tmps).run P w'= .ok (if hh:us.toArray.size=1 then us.toArray[0] else .tuple us.toArray) w':=by
  unfold results;rw [Sem.run_bind,Array.mapM_eq_mapM_toList,Sem.run_map,hres];have h1':=h1;generalize hq:(List.mapM _ rvs:Sem (List Value))=m;rw [show Sem.run P m w'= .ok us w' by rw [←hq];exact h1'];simp
 have hres2: ∃ S',aJD w' r (if hh:us.toArray.size=1 then us.toArray[0] else .tuple us.toArray) S'/\New w.heap.size S':=by
  have hul:us.length=avs.length:=h2.len;unfold aJG at hfz;split at hfz
  ·rename_i v r';obtain ⟨u,q,rfl,g1,g2⟩:=h2;simp only [All2] at g2;subst g2;simp only [List.flatMap_cons,List.flatMap_nil,List.append_nil] at hn';obtain ⟨S',a1,a2,a3,a4⟩:=aFi hh g1 hfz.1 hn';refine ⟨S',?_,a2,a3⟩;simp only [List.size_toArray,List.length_cons,List.length_nil,Nat.zero_add,dite_true];have hnt:=hfz.2;cases r <;> first|exact a1|exact absurd rfl (hnt _)
  ·rename_i vs rs _;obtain ⟨S',a1,a2,a3,a4⟩:=aEM hh h2 hfz.2 hn';refine ⟨S',?_,a2,a3⟩;rw [dif_neg (by simp;rw [hul];exact hfz.1)];exact ⟨us,rfl,a1⟩
  ·exact hfz.elim
 obtain ⟨S',hr1,hr2⟩:=hres2;have hend:=hleave fn (λe w'=> ∃ v S',e= .returned v/\Below w.heap.size w w'/\aJD w' r v S'/\New w.heap.size S') ⟨_,hrun,_,S',rfl,hs'.below,hr1,hr2⟩;cases e <;> simp only [aDN,gA] at he <;> exact hend
def dfE:List (Nat×AV)->Prop
 | []=>True
 |(_,x)::r=>dfA x=true/\dfE r
theorem aGu: ∀ {l:List (Nat×AV)},dfE l-> ∀ t x,rH l t=some x->dfA x=true
 | [],_,t,x,h=>by cases h
 |(k,v)::r,⟨h1,h2⟩,t,x,h=>by
  simp only [rH] at h;cases hb:Nat.beq t k with
  |true=>rw [hb] at h;cases h;exact h1
  |false=>rw [hb] at h;exact aGu h2 t x h
def dfR (y:Blk):Prop:= ∀ cs∈y.es,∀ c∈cs,dfC c=true
def dfH (skip:List Nat):List (Nat×Blk)->Prop
 | []=>True
 |(b,y)::r=>(b∈skip∨dfR y)/\dfH skip r
theorem aGv {skip:List Nat} : ∀ {l:List (Nat×Blk)},dfH skip l-> ∀ b blk,hJ l b=some blk->b ∉ skip-> ∀ cs∈blk.es,∀ c∈cs,dfC c=true
 | [],_,b,x,h=>by cases h
 |(k,v)::r,⟨h1,h2⟩,b,x,h=>by
  simp only [hJ] at h;by_cases e:b=k
  ·subst e;rw [bZ] at h;cases h;intro hn;exact h1.elim (λh=>absurd h hn) id
  ·rw [cE e] at h;exact aGv h2 b x h
theorem EOk.df {α:Type} {k:Nat} {e:α->List AV} (E:EOk k e) (k':Nat) (l:List α):dfR ⟨k',l.map (ow e)⟩:=by
 intro cs hcs c hc;obtain ⟨x,_,rfl⟩:=List.mem_map.1 hcs;obtain ⟨d,hd,rfl⟩:=List.mem_map.1 hc;have:=E.mem x d hd;cases d <;> simp only [kW,gA] at this <;> rfl
theorem EOk.dfS {α:Type} {k:Nat} {e:α->List AV} (E:EOk k e) (k':Nat) (l:List α) (i:Nat) {c:List AV} (h:c.all dfC=true):dfR ⟨k',(l.map (ow e)).set i c⟩:=by
 intro cs hcs d hd;rcases List.mem_or_eq_of_mem_set hcs with h1|rfl
 ·exact E.df k' l cs h1 d hd
 ·exact List.all_eq_true.1 h d hd
theorem aDj {k:Nat} {es:List (List AV)} (h:(es.all λcs=>cs.all dfC)=true):dfR ⟨k,es⟩:=λcs hcs c hc=>List.all_eq_true.1 (List.all_eq_true.1 h cs hcs) c hc
theorem aDk {α:Type} {e:α->List AV} {l:List α} {i:Nat} {v:α} (h:l[i]? =some v):l.map (ow e)=(l.map (ow e)).set i (ow e v):=by
 rw [←List.map_set];congr 1;refine List.ext_getElem? λj=>?_;rw [List.getElem?_set];by_cases e:i=j
 ·subst e
  have:i<l.length:=by
   rcases dV i l.length with h'|h'
   ·exact h'
   ·rw [gS h'] at h;cases h
  rw [bD rfl,bD this,h]
 ·rw [bB e]
theorem aCO {α:Type} {k:Nat} {e:α->List AV} (E:EOk k e) {l:List α} {i:Nat} {c:List AV} (h:c.all vI=true):aBW ((l.map (ow e)).set i c):=by
 intro cs hcs d hd;rcases List.mem_or_eq_of_mem_set hcs with h1|rfl
 ·exact E.plainO l cs h1 d hd
 ·exact List.all_eq_true.1 h d hd
theorem aCP {s:AState} {b c i j k k' n:Nat} {A es' fs:List (List AV)} {cs:List AV} (hi:i<A.length) (hT:s.kp.T=true) (hb:s.heap b=some ⟨k,A.set i cs⟩) (hj:cs[j]? =some (.abs k' es')) (hc:s.used c=false) (hn:es'.length=n) (hfs:cK es'=fs) (hdf: ∀ t x,s.env t=some x->dfA x=true) (hdc: ∀ b blk,s.heap b=some blk->b ∉ ([]:List Nat)-> ∀ cs∈blk.es,∀ c∈cs,dfC c=true):
  Ent s ⟨s.env,bF [(c,some ⟨k',fs⟩),(b,some ⟨k,A.set i (aCm cs j [.own c 0 n])⟩)] s.heap,gB [c] s.used,s.ns,s.kp⟩:=by
 subst hn hfs
 have hjl:j<cs.length:=by
  rcases dV j cs.length with h'|h'
  ·exact h'
  ·rw [gS h'] at hj;cases hj
 have h:=aUD (c:=c) hT hb (i:=i) (cs:=cs) (by simp [hi]) hj hc hdf (λb blk hb=>hdc b blk hb (by simp));have e:=aCn (cs:=cs) (j:=j) (vs:=[.own c 0 es'.length]) (by simp;omega);simp only [List.length_singleton] at e;rw [e] at h;simp only [List.set_set] at h;exact h
theorem aXu {α:Type} {k:Nat} {e:α->List AV} {hp:Hp} {b i n:Nat} {l:List α} (E:EOk k e) (hb:hp b=some ⟨k,l.map (ow e)⟩):xN hp (.own b i n)=some (k,((l.drop i).take n).map e,[b]):=by
 simp only [xN,hb,←List.map_drop,←List.map_take];rw [aTr E]
section
variable {P:Program} {ops:Array Oper} {nt:Nat} {l:List Oper} {s:AState} {K:AState->Prop}
theorem sW {t u:Bool} (i:Nat) (hi:s.env i=some (.sc (.bool t))) (q:t=u) (h:SOps P ops nt l ⟨upd (some i) (.sc (.bool u)) s.env,s.heap,s.used,s.ns,s.kp⟩ K):SOps P ops nt l s K:=by
 subst q;rw [aNu hi] at h;exact h
theorem dS {d:Option Tmp} {op:Op} {ty:TypeId} {pos:String} {aft:Array Edge} {g:Option (Nat×Bool)} (hg:pR ops s.env ⟨d,op,ty,pos,aft,g⟩=some false) (hd:aIz ⟨d,op,ty,pos,aft,g⟩ nt=true) (h:SOps P ops nt l ⟨upd d (.tuple []) s.env,s.heap,s.used,s.ns,s.kp⟩ K):SOps P ops nt (⟨d,op,ty,pos,aft,g⟩::l) s K:=⟨λC hC ν a w hs n Q hQ=>by
 subst hC;refine wpListIn_step λK' hK'=>?_;have hst:aMR P ops C.nt ⟨d,op,ty,pos,aft,g⟩ s aBT:=⟨aIb hd,.inr ⟨hg,rfl⟩⟩
 exact aCk hst hs λν' a' w' hs'=>hK' _ _ (h.out C rfl ν' a' w' hs' n Q hQ)⟩
end
theorem k {α:Sort _} {a:α} :a=a:=rfl
section
variable {P:Program} {ops:Array Oper} {nt:Nat} {r:List Oper} {s:AState} {tr:List Tr} {K:List Tr->AState->Prop} {K':AState->Prop}
def opB (ops:Array Oper) (nt:Nat) (s:AState) (o:Oper) (news:List Nat):Bool:=aIz o nt&&((match pR ops s.env o with|some true=>true|_=>false)&&news.all λb=> !s.used b)
theorem aGw {o:Oper} {news:List Nat} (h:opB ops nt s o news=true):aIz o nt=true/\pR ops s.env o=some true/\(news.all λb=> !s.used b)=true:=by
 simp only [opB,cY] at h;obtain ⟨h1,h2,h3⟩:=h;refine ⟨h1,?_,h3⟩;split at h2
 ·assumption
 ·cases h2
theorem ae {d:Option Tmp} {op:Op} {ty:TypeId} {pos:String} {aft:Array Edge} {g:Option (Nat×Bool)} {e:Eff} (he:AEff P ⟨d,op,ty,pos,aft,g⟩ s.ev s.heap s.kp e) (hb:opB ops nt s ⟨d,op,ty,pos,aft,g⟩ e.news=true) (h:AOps P ops nt r (s.app d e) (aCD e::tr) K):AOps P ops nt (⟨d,op,ty,pos,aft,g⟩::r) s tr K:=
 bG he (aGw hb).1 (aGw hb).2.1 (aGw hb).2.2 h
theorem se {d:Option Tmp} {op:Op} {ty:TypeId} {pos:String} {aft:Array Edge} {g:Option (Nat×Bool)} {e:Eff} (he:AEff P ⟨d,op,ty,pos,aft,g⟩ s.ev s.heap s.kp e) (hb:opB ops nt s ⟨d,op,ty,pos,aft,g⟩ e.news=true) (h:SOps P ops nt r (s.app d e) K'):SOps P ops nt (⟨d,op,ty,pos,aft,g⟩::r) s K':=
 aUC he (aGw hb).1 (aGw hb).2.1 (aGw hb).2.2 h
theorem am {d:Option Tmp} {ty:TypeId} {pos:String} {aft:Array Edge} {g:Option (Nat×Bool)} {x:Operand} {v:AV} (hx:s.ev x=some v) (hb:opB ops nt s ⟨d,.move x,ty,pos,aft,g⟩ []=true) (h:AOps P ops nt r (s.app d ⟨v,[],[],[]⟩) (aCD ⟨v,[],[],[]⟩::tr) K):AOps P ops nt (⟨d,.move x,ty,pos,aft,g⟩::r) s tr K:=ae (fF hx) hb h
theorem aa {d:Option Tmp} {ty:TypeId} {pos:String} {aft:Array Edge} {g:Option (Nat×Bool)} {x:Operand} {v:AV} (hx:s.ev x=some v) (hb:opB ops nt s ⟨d,.assign x,ty,pos,aft,g⟩ []=true) (h:AOps P ops nt r (s.app d ⟨v,[],[],[]⟩) (aCD ⟨v,[],[],[]⟩::tr) K):AOps P ops nt (⟨d,.assign x,ty,pos,aft,g⟩::r) s tr K:=ae (gH hx) hb h
theorem an (h:K tr s):AOps P ops nt [] s tr K:=gD h
theorem sn (h:K' s):SOps P ops nt [] s K':=aUB h
variable {Q:Exit->AState->Prop}
theorem sQ {x y:Code} (h:AC P nt x s (yF (λs'=>AC P nt y s' Q) Q)):AC P nt (.seq x y) s Q:=mB h
theorem rg {id:Nat} {l:List Oper} (h:AOps P l.toArray nt l s [] (λ_ s'=>Q .normal s')):AC P nt (.region id l.toArray false) s Q:=fM h
theorem rgS {id:Nat} {l:List Oper} (h:SOps P l.toArray nt l s (Q .normal)):AC P nt (.region id l.toArray false) s Q:=aPw h
theorem tn (h:K' s):yF K' Q .normal s:=h
end
theorem e1 {e:Nat->Option AV} {σ:Nat->Option Nat} {n t:Nat} {x y:AV} (h:e t=some x) (m:tG σ n x y): ∃ x,e t=some x/\tG σ n x y:=⟨x,h,m⟩
theorem ak {P:Program} {ops:Array Oper} {nt:Nat} {r:List Oper} {s:AState} {tr:List Tr} {K:List Tr->AState->Prop} {d:Option Tmp} {op:Op} {ty:TypeId} {pos:String} {aft:Array Edge} {g:Option (Nat×Bool)} (hg:pR ops s.env ⟨d,op,ty,pos,aft,g⟩=some false) (hd:aIz ⟨d,op,ty,pos,aft,g⟩ nt=true) (h:AOps P ops nt r ⟨upd d (.tuple []) s.env,s.heap,s.used,s.ns,s.kp⟩ (⟨[],[]⟩::tr) K):AOps P ops nt (⟨d,op,ty,pos,aft,g⟩::r) s tr K:=aLH hg hd h
section
variable {σ:Nat->Option Nat} {n b b0 k:Nat} {h:Hp} {r:List (Nat×Blk)}
theorem hB {y:Blk} (hp:aBW y.es) (hs:σ b=some b0) (hb:h b0=some y) (hn:Nat.blt b n=true) (hr:tR σ n h r):tR σ n h ((b,y)::r):=by
 simp only [tR];rw [hs];exact ⟨⟨y,hb,rfl,.inl ⟨rfl,hp⟩⟩,hn,hr⟩
theorem hX {y:Blk} (hm:match σ b with|some b0=> ∃ x,h b0=some x/\aEw σ n x y|none=>y.es=[]) (hn:Nat.blt b n=true) (hr:tR σ n h r):tR σ n h ((b,y)::r):=⟨hm,hn,hr⟩
end
theorem bAU {P:Program} {T:List (Nat×Ty)} (hT:TyOk P T) {dst:Option Tmp} {pos:String} {aft:Array Edge} {g:Option (Nat×Bool)} {s:AState} {x:Operand} {t e k:Nat} {y:Ty} {dty:TypeId} {α:Type} {f:α->List AV} {l:List α} (hx:s.ev x=some (.list k (List.map f l))) (hy:dY T t=some y) (hd:y.desc= .slice e):
  AEff P ⟨dst,.call ⟨.builtin .len,#[x],#[t]⟩,dty,pos,aft,g⟩ s.ev s.heap s.kp ⟨.int l.length,[],[],[]⟩:=AEff.val (yI hT hx hy hd) (by rw [fE])
theorem lA {α:Type} {a b:List α} :(a++b).length=a.length+b.length:=List.length_append
theorem lT {α:Type} {a:List α} {i:Nat} {x:α} :(a.set i x).length=a.length:=List.length_set
theorem lR {α:Type} {n:Nat} {x:α} :(List.replicate n x).length=n:=List.length_replicate
theorem lC {α:Type} {a:α} {b:List α} :(a::b).length=b.length+1:=List.length_cons
theorem lN {α:Type} :([]:List α).length=0:=List.length_nil
theorem aMg:([]:List AV).all vJ=true:=rfl
theorem aBd {d:AV} {ds:List AV} (h1:vJ d=true) (h2:ds.all vJ=true):(d::ds).all vJ=true:=by
 rw [List.all_cons,h1,h2];rfl
theorem k2 {αa:Sort _} {a:αa} {αb:Sort _} {b:αb} :a=a/\b=b:=⟨rfl,rfl⟩
theorem k3 {αa:Sort _} {a:αa} {αb:Sort _} {b:αb} {αc:Sort _} {c:αc} :a=a/\b=b/\c=c:=⟨rfl,rfl,rfl⟩
theorem k4 {αa:Sort _} {a:αa} {αb:Sort _} {b:αb} {αc:Sort _} {c:αc} {αd:Sort _} {d:αd} :a=a/\b=b/\c=c/\d=d:=⟨rfl,rfl,rfl,rfl⟩
theorem k7 {αa:Sort _} {a:αa} {αb:Sort _} {b:αb} {αc:Sort _} {c:αc} {αd:Sort _} {d:αd} {αe:Sort _} {e:αe} {αf:Sort _} {f:αf} {αg:Sort _} {g:αg} :a=a/\b=b/\c=c/\d=d/\e=e/\f=f/\g=g:=⟨rfl,rfl,rfl,rfl,rfl,rfl,rfl⟩
theorem k8 {αa:Sort _} {a:αa} {αb:Sort _} {b:αb} {αc:Sort _} {c:αc} {αd:Sort _} {d:αd} {αe:Sort _} {e:αe} {αf:Sort _} {f:αf} {αg:Sort _} {g:αg} {αh:Sort _} {h:αh} :a=a/\b=b/\c=c/\d=d/\e=e/\f=f/\g=g/\h=h:=⟨rfl,rfl,rfl,rfl,rfl,rfl,rfl,rfl⟩
section
variable {ops:Array Oper} {nt:Nat} {r:List Oper} {s:AState} {tr:List Tr} {K:List Tr->AState->Prop} {K':AState->Prop} {d:Option Tmp} {ty:TypeId} {pos:String} {aft:Array Edge} {g:Option (Nat×Bool)}
theorem lp {x:Operand} {t:Nat} {y:Ty} {b i j:Nat} {blk:Blk} {cs:List AV} {v:AV} (h:s.ev x=some (.ptr b i j)/\s.heap b=some blk/\dY TT t=some y/\(y.desc.isAgg||Nat.beq y.size 1)=true/\blk.es[i]? =some cs/\Nat.ble (j+y.size) cs.length=true/\aBL y.desc.isAgg (((cs.drop j).take y.size).map aCB)=v/\opB ops nt s ⟨d,.load t x,ty,pos,aft,g⟩ []=true) (g2:AOps Tryz.prog ops nt r (s.app d ⟨v,[b],[],[]⟩) (aCD ⟨v,[b],[],[]⟩::tr) K):AOps Tryz.prog ops nt (⟨d,.load t x,ty,pos,aft,g⟩::r) s tr K:=by
 obtain ⟨h0,h1,h2,h3,h4,h5,h6,h7⟩:=h;exact ae (fG aL h0 h1 h2 h3 h4 h5 h6) h7 g2
theorem fp {x:Operand} {st f dG ft:Nat} {b i j:Nat} {blk:Blk} {y yf:Ty} {fs:List (Nat×Nat)} (h:s.ev x=some (.ptr b i j)/\s.heap b=some blk/\dY TT st=some y/\y.desc= .struct fs/\fs[f]? =some (dG,ft)/\dY TT ft=some yf/\Nat.beq yf.size 0=false/\opB ops nt s ⟨d,.fieldAddr st x f,ty,pos,aft,g⟩ []=true) (g2:AOps Tryz.prog ops nt r (s.app d ⟨.ptr b i (j+dG),[b],[],[]⟩) (aCD ⟨.ptr b i (j+dG),[b],[],[]⟩::tr) K):AOps Tryz.prog ops nt (⟨d,.fieldAddr st x f,ty,pos,aft,g⟩::r) s tr K:=by
 obtain ⟨h0,h1,h2,h3,h4,h5,h6,h7⟩:=h;exact ae (zM aL h0 h1 h2 h3 h4 h5 h6) h7 g2
theorem lr {x:Operand} {t:Nat} {y:Ty} {cs:List AV} {v:AV} (h:s.ev x=some (.ref cs)/\dY TT t=some y/\(y.desc.isAgg||Nat.beq y.size 1)=true/\Nat.ble y.size cs.length=true/\(cs.take y.size).all fI=true/\aBL y.desc.isAgg (cs.take y.size)=v/\opB ops nt s ⟨d,.load t x,ty,pos,aft,g⟩ []=true) (g2:AOps Tryz.prog ops nt r (s.app d ⟨v,[],[],[]⟩) (aCD ⟨v,[],[],[]⟩::tr) K):AOps Tryz.prog ops nt (⟨d,.load t x,ty,pos,aft,g⟩::r) s tr K:=by
 obtain ⟨h0,h1,h2,h3,h4,h5,h6⟩:=h;exact ae (aJI aL h0 h1 h2 h3 h4 h5) h6 g2
theorem cm {op:BinOp} {t t':TypeId} {x y:Operand} {q:IntKind} {a b:Int} {c:Bool} (h:s.ev x=some (.sc (.int q a))/\s.ev y=some (.sc (.int q b))/\aWA op a b=some c/\opB ops nt s ⟨d,.binOp op t x y t',ty,pos,aft,g⟩ []=true) (g2:AOps Tryz.prog ops nt r (s.app d ⟨.bl c,[],[],[]⟩) (aCD ⟨.bl c,[],[],[]⟩::tr) K):AOps Tryz.prog ops nt (⟨d,.binOp op t x y t',ty,pos,aft,g⟩::r) s tr K:=by
 obtain ⟨h0,h1,h2,h3⟩:=h;exact ae (aDO h0 h1 h2) h3 g2
theorem pk {c x y:Operand} {t:Bool} {v:AV} (h:s.ev c=some (.sc (.bool t))/\s.ev (if t then x else y)=some v/\opB ops nt s ⟨d,.pick c x y,ty,pos,aft,g⟩ []=true) (g2:AOps Tryz.prog ops nt r (s.app d ⟨v,[],[],[]⟩) (aCD ⟨v,[],[],[]⟩::tr) K):AOps Tryz.prog ops nt (⟨d,.pick c x y,ty,pos,aft,g⟩::r) s tr K:=by
 obtain ⟨h0,h1,h2⟩:=h;exact ae (aCC h0 h1) h2 g2
theorem ln {x:Operand} {t e q:Nat} {y:Ty} {α:Type} {f:α->List AV} {l:List α} (h:s.ev x=some (.list q (List.map f l))/\dY TT t=some y/\y.desc= .slice e/\opB ops nt s ⟨d,.call ⟨.builtin .len,#[x],#[t]⟩,ty,pos,aft,g⟩ []=true) (g2:AOps Tryz.prog ops nt r (s.app d ⟨.int l.length,[],[],[]⟩) (aCD ⟨.int l.length,[],[],[]⟩::tr) K):AOps Tryz.prog ops nt (⟨d,.call ⟨.builtin .len,#[x],#[t]⟩,ty,pos,aft,g⟩::r) s tr K:=by
 obtain ⟨h0,h1,h2,h3⟩:=h;exact ae (bAU aL h0 h1 h2) h3 g2
theorem lpS {x:Operand} {t:Nat} {y:Ty} {b i j:Nat} {blk:Blk} {cs:List AV} {v:AV} (h:s.ev x=some (.ptr b i j)/\s.heap b=some blk/\dY TT t=some y/\(y.desc.isAgg||Nat.beq y.size 1)=true/\blk.es[i]? =some cs/\Nat.ble (j+y.size) cs.length=true/\aBL y.desc.isAgg (((cs.drop j).take y.size).map aCB)=v/\opB ops nt s ⟨d,.load t x,ty,pos,aft,g⟩ []=true) (g2:SOps Tryz.prog ops nt r (s.app d ⟨v,[b],[],[]⟩) K'):SOps Tryz.prog ops nt (⟨d,.load t x,ty,pos,aft,g⟩::r) s K':=by
 obtain ⟨h0,h1,h2,h3,h4,h5,h6,h7⟩:=h;exact se (fG aL h0 h1 h2 h3 h4 h5 h6) h7 g2
theorem fpS {x:Operand} {st f dG ft:Nat} {b i j:Nat} {blk:Blk} {y yf:Ty} {fs:List (Nat×Nat)} (h:s.ev x=some (.ptr b i j)/\s.heap b=some blk/\dY TT st=some y/\y.desc= .struct fs/\fs[f]? =some (dG,ft)/\dY TT ft=some yf/\Nat.beq yf.size 0=false/\opB ops nt s ⟨d,.fieldAddr st x f,ty,pos,aft,g⟩ []=true) (g2:SOps Tryz.prog ops nt r (s.app d ⟨.ptr b i (j+dG),[b],[],[]⟩) K'):SOps Tryz.prog ops nt (⟨d,.fieldAddr st x f,ty,pos,aft,g⟩::r) s K':=by
 obtain ⟨h0,h1,h2,h3,h4,h5,h6,h7⟩:=h;exact se (zM aL h0 h1 h2 h3 h4 h5 h6) h7 g2
theorem cmS {op:BinOp} {t t':TypeId} {x y:Operand} {q:IntKind} {a b:Int} {c:Bool} (h:s.ev x=some (.sc (.int q a))/\s.ev y=some (.sc (.int q b))/\aWA op a b=some c/\opB ops nt s ⟨d,.binOp op t x y t',ty,pos,aft,g⟩ []=true) (g2:SOps Tryz.prog ops nt r (s.app d ⟨.bl c,[],[],[]⟩) K'):SOps Tryz.prog ops nt (⟨d,.binOp op t x y t',ty,pos,aft,g⟩::r) s K':=by
 obtain ⟨h0,h1,h2,h3⟩:=h;exact se (aDO h0 h1 h2) h3 g2
theorem pkS {c x y:Operand} {t:Bool} {v:AV} (h:s.ev c=some (.sc (.bool t))/\s.ev (if t then x else y)=some v/\opB ops nt s ⟨d,.pick c x y,ty,pos,aft,g⟩ []=true) (g2:SOps Tryz.prog ops nt r (s.app d ⟨v,[],[],[]⟩) K'):SOps Tryz.prog ops nt (⟨d,.pick c x y,ty,pos,aft,g⟩::r) s K':=by
 obtain ⟨h0,h1,h2⟩:=h;exact se (aCC h0 h1) h2 g2
theorem oL {x:Operand} {v:AV} (h:s.ev x=some v/\opB ops nt s ⟨d,.assign x,ty,pos,aft,g⟩ []=true) (g2:SOps Tryz.prog ops nt r (s.app d ⟨v,[],[],[]⟩) K'):SOps Tryz.prog ops nt (⟨d,.assign x,ty,pos,aft,g⟩::r) s K':=by
 obtain ⟨h0,h1⟩:=h;exact se (gH h0) h1 g2
theorem iE {x:Operand} {v:AV} (h:s.ev x=some v/\opB ops nt s ⟨d,.move x,ty,pos,aft,g⟩ []=true) (g2:SOps Tryz.prog ops nt r (s.app d ⟨v,[],[],[]⟩) K'):SOps Tryz.prog ops nt (⟨d,.move x,ty,pos,aft,g⟩::r) s K':=by
 obtain ⟨h0,h1⟩:=h;exact se (fF h0) h1 g2
theorem aR:True:=trivial
theorem aT {x:Operand} {v:AV} {Q:Exit->AState->Prop} {T:AState->Prop} (h:s.ev x=some v/\opB ops nt s ⟨d,.assign x,ty,pos,aft,g⟩ []=true) (g2:T (s.app d ⟨v,[],[],[]⟩)):AOps Tryz.prog ops nt [⟨d,.assign x,ty,pos,aft,g⟩] s tr (λ_ s'=>yF T Q .normal s'):=aa h.1 h.2 (an (tn g2))
theorem aK {o1 o2:Oper} (h:(pR ops s.env o1=some false/\aIz o1 nt=true/\pR ops (upd o1.dst (.tuple []) s.env) o2=some false/\aIz o2 nt=true)) (g2:AOps Tryz.prog ops nt r ⟨upd o2.dst (.tuple []) (upd o1.dst (.tuple []) s.env),s.heap,s.used,s.ns,s.kp⟩ (⟨[],[]⟩::⟨[],[]⟩::tr) K):AOps Tryz.prog ops nt (o1::o2::r) s tr K:=ak h.1 h.2.1 (ak h.2.2.1 h.2.2.2 g2)
theorem sR {id:Nat} {l:List Oper} {y:Code} {Q:Exit->AState->Prop} (h:AOps Tryz.prog l.toArray nt l s [] (λ_ s'=>yF (λs'=>AC Tryz.prog nt y s' Q) Q .normal s')):AC Tryz.prog nt (.seq (.region id l.toArray false) y) s Q:=sQ (rg h)
theorem sS {id:Nat} {l:List Oper} {y:Code} {Q:Exit->AState->Prop} (h:SOps Tryz.prog l.toArray nt l s (yF (λs'=>AC Tryz.prog nt y s' Q) Q .normal)):AC Tryz.prog nt (.seq (.region id l.toArray false) y) s Q:=sQ (rgS h)
end
theorem oB {α β:Type} {o:Option α} {k:α->Option β} {r:β} {p:Prop} (h:o.bind k=some r) (f: ∀ a,o=some a->k a=some r->p):p:=by
 obtain ⟨a,h1,h2⟩:=ob h;exact f a h1 h2
theorem iL {h:Hp} {cs:List AV} (hp:cs.all fI=true):viewA h (.agg cs) (.agg cs):=aIf (aNs hp)
theorem kD {T:List (Nat×Ty)} {rvs:List ResultVar} {e:Exit} {s:AState} {u v:Bool} (h:some u=some v) (p:zA T s rvs=some [.bl u]/\aDN e=true):uI T rvs (.bl v) e s:=by
 cases h;exact cA p.2 p.1 rfl (qM rfl)
theorem xQ {T:List (Nat×Ty)} {rvs:List ResultVar} {e:Exit} {s:AState} {u v:Int} (h:some u=some v) (p:zA T s rvs=some [.int u]/\aDN e=true):uI T rvs (.int v) e s:=by
 cases h;exact cA p.2 p.1 rfl (aGj rfl)
theorem cL {d:Option Tmp} {ty:TypeId} {pos:String} {aft:Array Edge} {g:Option (Nat×Bool)} {s:AState} {f:FuncId} {xs:Array Operand} {ats:Array TypeId} {avs ds:List AV} {ns':List Nat} {α:Type} {e:α->List AV} {q b:Nat} {l:List α} (ok:EOk q e) (hc:HasC Tryz.prog f ds (.list q (List.map e l))) (h:evs s.ev xs.toList=some avs/\s.ns=b::ns'/\wV s.ns=true) (hv:All2 (viewA s.heap) avs ds):AEff Tryz.prog ⟨d,.call ⟨.value (.func f),xs,ats⟩,ty,pos,aft,g⟩ s.ev s.heap s.kp ⟨.own b 0 l.length,avs.flatMap (oJ s.heap)++[].flatMap (rR s.heap),[(b,some ⟨q,List.map (ow e) l⟩)],[b]⟩:=
 AEff.conv (gJ (x:= .own b 0 (List.map e l).length) (nb:=[(b,⟨q,cK (List.map e l)⟩)]) hc h.1 (by rw [h.2.1];rfl) rfl h.2.2 (ok.good _) hv) (by simp only [aO]) (oV (nb':=[(b,⟨q,List.map (ow e) l⟩)]) (by simp only [fJ]))
theorem cM {d:Option Tmp} {ty:TypeId} {pos:String} {aft:Array Edge} {g:Option (Nat×Bool)} {s:AState} {f:FuncId} {xs:Array Operand} {ats:Array TypeId} {avs ds:List AV} {ns':List Nat} {b:Nat} {v:Mt} (hc:HasC Tryz.prog f ds (.agg (eM v))) (h:evs s.ev xs.toList=some avs/\s.ns=b::ns'/\wV s.ns=true) (hv:All2 (viewA s.heap) avs ds):AEff Tryz.prog ⟨d,.call ⟨.value (.func f),xs,ats⟩,ty,pos,aft,g⟩ s.ev s.heap s.kp ⟨.agg [.int v.rows,.int v.cols,.own b 0 v.cells.length],avs.flatMap (oJ s.heap)++[].flatMap (rR s.heap),[(b,some ⟨1,List.map (ow eI) v.cells⟩)],[b]⟩:=
 AEff.conv (gJ (x:= .agg [.int v.rows,.int v.cols,.own b 0 (List.map eI v.cells).length]) (nb:=[(b,⟨1,cK (List.map eI v.cells)⟩)]) hc h.1 (by rw [h.2.1];rfl) rfl h.2.2 (bY trivial (bY trivial (bY (cW.good _) kY))) hv) (by simp only [aO]) (oV (nb':=[(b,⟨1,List.map (ow eI) v.cells⟩)]) (by simp only [fJ]))
theorem cQ {d:Option Tmp} {ty:TypeId} {pos:String} {aft:Array Edge} {g:Option (Nat×Bool)} {s:AState} {f:FuncId} {xs:Array Operand} {ats:Array TypeId} {avs ds:List AV} {ns':List Nat} {b c:Nat} {v:Qv} (hc:HasC Tryz.prog f ds (.agg (eQ v))) (h:evs s.ev xs.toList=some avs/\s.ns=b::c::ns'/\wV s.ns=true) (hv:All2 (viewA s.heap) avs ds):AEff Tryz.prog ⟨d,.call ⟨.value (.func f),xs,ats⟩,ty,pos,aft,g⟩ s.ev s.heap s.kp ⟨.agg [.int v.n,.own b 0 v.src.length,.own c 0 v.tgt.length],avs.flatMap (oJ s.heap)++[].flatMap (rR s.heap),[(b,some ⟨1,List.map (ow eI) v.src⟩),(c,some ⟨1,List.map (ow eI) v.tgt⟩)],[b,c]⟩:=
 AEff.conv (gJ (x:= .agg [.int v.n,.own b 0 (List.map eI v.src).length,.own c 0 (List.map eI v.tgt).length]) (nb:=[(b,⟨1,cK (List.map eI v.src)⟩),(c,⟨1,cK (List.map eI v.tgt)⟩)]) hc h.1 (by rw [h.2.1];rfl) rfl h.2.2 (bY trivial (bY (cW.good _) (bY (cW.good _) kY))) hv) (by simp only [aO]) (oV (nb':=[(b,⟨1,List.map (ow eI) v.src⟩),(c,⟨1,List.map (ow eI) v.tgt⟩)]) (by simp only [fJ]))
theorem cRK {d:Option Tmp} {ty:TypeId} {pos:String} {aft:Array Edge} {g:Option (Nat×Bool)} {s:AState} {f:FuncId} {xs:Array Operand} {ats:Array TypeId} {avs ds:List AV} {ns':List Nat} {b c b3 b4:Nat} {v:Rp} (hc:HasC Tryz.prog f ds (.agg (eR v))) (h:evs s.ev xs.toList=some avs/\s.ns=b::c::b3::b4::ns'/\wV s.ns=true) (hv:All2 (aAQ s.kp s.heap) avs ds):AEff Tryz.prog ⟨d,.call ⟨.value (.func f),xs,ats⟩,ty,pos,aft,g⟩ s.ev s.heap s.kp ⟨.agg [.int v.p,.int v.q.n,.own b 0 v.q.src.length,.own c 0 v.q.tgt.length,.own b3 0 v.dims.length,.own b4 0 v.maps.length],avs.flatMap (oJ s.heap),[(b,some ⟨1,List.map (ow eI) v.q.src⟩),(c,some ⟨1,List.map (ow eI) v.q.tgt⟩),(b3,some ⟨1,List.map (ow eI) v.dims⟩),(b4,some ⟨3,List.map (ow eM) v.maps⟩)],[b,c,b3,b4]⟩:=
 AEff.conv (aOK (x:= .agg [.int v.p,.int v.q.n,.own b 0 (List.map eI v.q.src).length,.own c 0 (List.map eI v.q.tgt).length,.own b3 0 (List.map eI v.dims).length,.own b4 0 (List.map eM v.maps).length]) (nb:=[(b,⟨1,cK (List.map eI v.q.src)⟩),(c,⟨1,cK (List.map eI v.q.tgt)⟩),(b3,⟨1,cK (List.map eI v.dims)⟩),(b4,⟨3,cK (List.map eM v.maps)⟩)]) hc h.1 (by rw [h.2.1];rfl) rfl h.2.2 (bY trivial (bY trivial (bY (cW.good _) (bY (cW.good _) (bY (cW.good _) (bY (hO.good _) kY)))))) hv) (by simp only [aO]) (oV (nb':=[(b,⟨1,List.map (ow eI) v.q.src⟩),(c,⟨1,List.map (ow eI) v.q.tgt⟩),(b3,⟨1,List.map (ow eI) v.dims⟩),(b4,⟨3,List.map (ow eM) v.maps⟩)]) (by simp only [fJ]))
def re1 (σ:Nat->Option Nat):AV->AV
 | .own b i m=>match σ b with|some b0=> .own b0 i m|none=> .dead
 | .ptr b i j=>match σ b with|some b0=> .ptr b0 i j|none=> .dead
 |x=>x
def reA (σ:Nat->Option Nat):AV->AV
 | .agg cs=> .agg (cs.map (re1 σ))
 |x=>re1 σ x
def ok1 (σ:Nat->Option Nat) (n:Nat):AV->Bool
 | .own b _ _=>(σ b).isSome &&Nat.blt b n
 | .ptr b _ _=>(σ b).isSome &&Nat.blt b n
 | .sc _=>true
 | .nil _=>true
 | .list _ _=>true
 | .ref _=>true
 |_=>false
def okA (σ:Nat->Option Nat) (n:Nat):AV->Bool
 | .agg cs=>cs.all (ok1 σ n)
 |x=>ok1 σ n x
def aOM (e:Nat->Option AV):List (Nat×AV)->List (Option AV)
 | []=>[]
 |(t,_)::r=>e t::aOM e r
def aON (σ:Nat->Option Nat):List (Nat×AV)->List (Option AV)
 | []=>[]
 |(_,y)::r=>some (reA σ y)::aON σ r
theorem aCQ {σ:Nat->Option Nat} {n:Nat} {y:AV} (h:ok1 σ n y=true):gP σ n (re1 σ y) y:=by
 cases y <;> simp only [ok1,gA] at h
 ·rfl
 ·trivial
 ·exact ⟨rfl,rfl⟩
 ·rfl
 all_goals
  rename_i b i j
  simp only [cY] at h
  obtain ⟨b0,hb⟩:=Option.isSome_iff_exists.1 h.1
  simp only [re1,hb]
  exact ⟨hb,rfl,rfl,h.2⟩
theorem aXS {σ:Nat->Option Nat} {n:Nat} : ∀ {cs:List AV},cs.all (ok1 σ n)=true->All2 (gP σ n) (cs.map (re1 σ)) cs
 | [],_=>rfl
 |c::cs,h=>by
  simp only [List.all_cons,cY] at h;exact ⟨c,cs,rfl,aCQ h.1,aXS h.2⟩
theorem aZJ {σ:Nat->Option Nat} {n:Nat} {y:AV} (h:okA σ n y=true):tG σ n (reA σ y) y:=by
 cases y with
 |agg cs=>exact aXS h
 |fn f cs=>simp [okA,ok1] at h
 |tuple cs=>simp [okA,ok1] at h
 |dead=>simp [okA,ok1] at h
 |abs q es=>simp [okA,ok1] at h
 |sc u=>exact aCQ (σ:=σ) (n:=n) (y:= .sc u) h
 |nil q=>exact aCQ (σ:=σ) (n:=n) (y:= .nil q) h
 |list q es=>exact aCQ (σ:=σ) (n:=n) (y:= .list q es) h
 |ref cs=>exact aCQ (σ:=σ) (n:=n) (y:= .ref cs) h
 |own b i m=>
  have:=aCQ (σ:=σ) (n:=n) (y:= .own b i m) h;simp only [reA];generalize re1 σ (.own b i m)=z at*;cases z <;> first|exact this|exact this.elim
 |ptr b i j=>
  have:=aCQ (σ:=σ) (n:=n) (y:= .ptr b i j) h;simp only [reA];generalize re1 σ (.ptr b i j)=z at*;cases z <;> first|exact this|exact this.elim
theorem aZK {σ:Nat->Option Nat} {n:Nat} {e:Nat->Option AV} : ∀ {tl:List (Nat×AV)},aOM e tl=aON σ tl->(tl.all λp=>okA σ n p.2)=true->aFf σ n e tl
 | [],_,_=>trivial
 |(t,y)::r,h,q=>by
  simp only [aOM,aON,List.cons.injEq] at h;simp only [List.all_cons,cY] at q;exact ⟨⟨_,h.1,aZJ q.1⟩,aZK h.2 q.2⟩
theorem bN {σ:Nat->Option Nat} {n:Nat} {e:Nat->Option AV} {tl:List (Nat×AV)} (h:aOM e tl=aON σ tl/\(tl.all λp=>okA σ n p.2)=true):aFf σ n e tl:=aZK h.1 h.2
def nmA:List Nat:=[0,1,2,3,4,5,6,7,8,9,10,11,12,13,14,15,16,17,18,19]++[20,21,22,23,24,25,26,27,28,29,30,31,32,33,34,35,36,37,38,39]++([40,41,42,43,44,45,46,47,48,49,50,51,52,53,54,55,56,57,58,59]++([60,61,62,63,64,65,66,67,68,69,70,71,72,73,74,75,76,77,78,79]++[80,81,82,83,84,85,86,87,88,89,90,91,92,93,94,95,96,97,98,99]))
abbrev mN (e:List (Nat×AV)) (h:List (Nat×Blk)) (n:Nat) (kp:Kp:=0):AState:=mkS e h n (nmA.drop n) kp
def iSg:List (Nat×Blk)->Nat->Option Nat
 | [],_=>none
 |(q,_)::r,t=>bif Nat.beq t q then some t else iSg r t
def zSg:List (Nat×Blk)->List Nat->Nat->Option Nat
 |(q,_)::r,b::bs,t=>bif Nat.beq t q then some b else zSg r bs t
 |_,_,_=>none
theorem bO {s:AState} {n:Nat} {kp:Kp} {tl:List (Nat×AV)} {hl:List (Nat×Blk)} (he:aFf (iSg hl) n s.env tl) (hh:tR (iSg hl) n s.heap hl) (p:aDZ (iSg hl) hl=true/\s.kp=kp/\aLI (iSg hl) kp.n hl=true/\Nat.ble kp.n n=true):Ent s (mN tl hl n kp):=kB he hh p.1 p.2.1 p.2.2.1 p.2.2.2
theorem kE (bs:List Nat) {s:AState} {n:Nat} {kp:Kp} {tl:List (Nat×AV)} {hl:List (Nat×Blk)} (he:aFf (zSg hl bs) n s.env tl) (hh:tR (zSg hl bs) n s.heap hl) (p:aDZ (zSg hl bs) hl=true/\s.kp=kp/\aLI (zSg hl bs) kp.n hl=true/\Nat.ble kp.n n=true):Ent s (mN tl hl n kp):=kB he hh p.1 p.2.1 p.2.2.1 p.2.2.2
section
variable {σ:Nat->Option Nat} {n:Nat}
theorem aOO {e:Nat->Option AV} : ∀ {m:Nat} {tl:List (Nat×AV)},aFf σ n e (tl.take m)->aFf σ n e (tl.drop m)->aFf σ n e tl
 |0,_,_,h=>h
 |m+1,[],_,_=>trivial
 |m+1,(t,y)::r,h1,h2=>⟨h1.1,aOO h1.2 h2⟩
theorem pP (m:Nat) {e:Nat->Option AV} {tl:List (Nat×AV)} (h:aOM e (tl.take m)=aON σ (tl.take m)/\((tl.take m).all λp=>okA σ n p.2)=true) (h2:aFf σ n e (tl.drop m)):aFf σ n e tl:=aOO (bN h) h2
theorem mO {e:Nat->Option AV} {t:Nat} {y:AV} {r:List (Nat×AV)} (h: ∃ x,e t=some x/\tG σ n x y) (h2:aFf σ n e r):aFf σ n e ((t,y)::r):=⟨h,h2⟩
variable {b b0 q:Nat} {h:Hp} {r:List (Nat×Blk)}
theorem cD {l:aA} (p:(σ b,h b0,Nat.blt b n)=(some b0,some ⟨1,List.map (ow eI) l⟩,true)) (hr:tR σ n h r):tR σ n h ((b,⟨1,List.map (ow eI) l⟩)::r):=by
 obtain ⟨p1,p⟩:=Prod.mk.inj p;obtain ⟨p2,p3⟩:=Prod.mk.inj p;exact hB (cW.plainO _) p1 p2 p3 hr
theorem bS {y:Blk} (p:(σ b,h b0,Nat.blt b n,y.es.all λcs=>cs.all vI)=(some b0,some y,true,true)) (hr:tR σ n h r):tR σ n h ((b,y)::r):=by
 obtain ⟨p1,p⟩:=Prod.mk.inj p;obtain ⟨p2,p⟩:=Prod.mk.inj p;obtain ⟨p3,p4⟩:=Prod.mk.inj p;exact hB (aTl p4) p1 p2 p3 hr
theorem cF {y:Blk} (hp:aBW y.es) (p:(σ b,h b0,Nat.blt b n)=(some b0,some y,true)) (hr:tR σ n h r):tR σ n h ((b,y)::r):=by
 obtain ⟨p1,p⟩:=Prod.mk.inj p;obtain ⟨p2,p3⟩:=Prod.mk.inj p;exact hB hp p1 p2 p3 hr
def reC (σ:Nat->Option Nat):AV->AV
 | .own b i m=>match σ b with|some b0=> .own b0 i m|none=> .dead
 | .ptr b i j=>match σ b with|some b0=> .ptr b0 i j|none=> .dead
 |x=>x
def okC (σ:Nat->Option Nat) (n:Nat):AV->Bool
 | .own b _ _=>(σ b).isSome &&Nat.blt b n
 | .ptr b _ _=>(σ b).isSome &&Nat.blt b n
 | .sc _=>true
 | .nil _=>true
 | .list _ _=>true
 | .abs _ _=>true
 | .ref _=>true
 |_=>false
theorem aZN {y:AV} (h:okC σ n y=true):nK σ n (reC σ y) y:=by
 cases y with
 |sc u=>exact aCQ (σ:=σ) (n:=n) (y:= .sc u) h
 |nil q=>exact aCQ (σ:=σ) (n:=n) (y:= .nil q) h
 |list q es=>exact aCQ (σ:=σ) (n:=n) (y:= .list q es) h
 |ref cs=>exact aCQ (σ:=σ) (n:=n) (y:= .ref cs) h
 |abs q es=>exact ⟨rfl,rfl⟩
 |own b i m=>
  have:=aCQ (σ:=σ) (n:=n) (y:= .own b i m) h;show nK σ n (re1 σ (.own b i m)) _;generalize re1 σ (.own b i m)=z at*;cases z <;> first|exact this|exact this.elim
 |ptr b i j=>
  have:=aCQ (σ:=σ) (n:=n) (y:= .ptr b i j) h;show nK σ n (re1 σ (.ptr b i j)) _;generalize re1 σ (.ptr b i j)=z at*;cases z <;> first|exact this|exact this.elim
 |agg cs=>simp [okC] at h
 |fn f cs=>simp [okC] at h
 |tuple cs=>simp [okC] at h
 |dead=>simp [okC] at h
theorem aUG: ∀ {cs:List AV},cs.all (okC σ n)=true->All2 (nK σ n) (cs.map (reC σ)) cs
 | [],_=>rfl
 |c::cs,h=>by
  simp only [List.all_cons,cY] at h;exact ⟨c,cs,rfl,aZN h.1,aUG h.2⟩
theorem aUH: ∀ {es:List (List AV)},(es.all λcs=>cs.all (okC σ n))=true->All2 (All2 (nK σ n)) (es.map (List.map (reC σ))) es
 | [],_=>rfl
 |c::cs,h=>by
  simp only [List.all_cons,cY] at h;exact ⟨c,cs,rfl,aUG h.1,aUH h.2⟩
theorem fV {es:List (List AV)} (p:(σ b,h b0,Nat.blt b n,es.all λcs=>cs.all (okC σ n))=(some b0,some ⟨q,es.map (List.map (reC σ))⟩,true,true)) (hr:tR σ n h r):tR σ n h ((b,⟨q,es⟩)::r):=by
 obtain ⟨p1,p⟩:=Prod.mk.inj p;obtain ⟨p2,p⟩:=Prod.mk.inj p;obtain ⟨p3,p4⟩:=Prod.mk.inj p;refine hX ?_ p3 hr;rw [p1];exact ⟨_,p2,rfl,.inr (aUH p4)⟩
end
theorem cG {α:Type} {c:Bool} {A:Option α} {r:α} {p:Prop} (h:cond c A none=some r) (f:c=true->A=some r->p):p:=f (cg h).1 (cg h).2
section
variable {h:Hp} {x:AV} {xs ds:List AV}
theorem dF (q:fI x=true) (b:All2 (viewA h) xs ds):All2 (viewA h) (x::xs) (x::ds):=aX (aEN q) b
theorem vcT {b m:Nat} {l:aA} (hb:h b=some ⟨1,List.map (ow eI) l⟩) (hn:l.length=m) (q:All2 (viewA h) xs ds):All2 (viewA h) (.own b 0 m::xs) (.list 1 (List.map eI l)::ds):=aX (aCM cW hb hn) q
end
theorem cT {d:Option Tmp} {ty:TypeId} {pos:String} {aft:Array Edge} {g:Option (Nat×Bool)} {s:AState} {f:FuncId} {xs:Array Operand} {ats:Array TypeId} {avs ds:List AV} {ns':List Nat} {α:Type} {e:α->List AV} {q b:Nat} {l:List α} {z:Bool} {c0:Nat} (ok:EOk q e) (hc:HasC Tryz.prog f ds (.tuple [.list q (List.map e l),.bl z])) (h:evs s.ev xs.toList=some avs/\s.ns=b::c0::ns'/\wV s.ns=true) (hv:All2 (viewA s.heap) avs ds):AEff Tryz.prog ⟨d,.call ⟨.value (.func f),xs,ats⟩,ty,pos,aft,g⟩ s.ev s.heap s.kp ⟨.tuple [.own b 0 l.length,.bl z],avs.flatMap (oJ s.heap)++[].flatMap (rR s.heap),[(b,some ⟨q,List.map (ow e) l⟩)],[b]⟩:=
 AEff.conv (gJ (x:= .tuple [.own b 0 (List.map e l).length,.bl z]) (nb:=[(b,⟨q,cK (List.map e l)⟩)]) hc h.1 (by rw [h.2.1];rfl) rfl h.2.2 (cV (ok.good _) (cV trivial kM)) hv) (by simp only [aO]) (oV (nb':=[(b,⟨q,List.map (ow e) l⟩)]) (by simp only [fJ]))
theorem cTK {d:Option Tmp} {ty:TypeId} {pos:String} {aft:Array Edge} {g:Option (Nat×Bool)} {s:AState} {f:FuncId} {xs:Array Operand} {ats:Array TypeId} {avs ds:List AV} {ns':List Nat} {α:Type} {e:α->List AV} {q b:Nat} {l:List α} {z:Bool} {c0:Nat} (ok:EOk q e) (hc:HasC Tryz.prog f ds (.tuple [.list q (List.map e l),.bl z])) (h:evs s.ev xs.toList=some avs/\s.ns=b::c0::ns'/\wV s.ns=true) (hv:All2 (aAQ s.kp s.heap) avs ds):AEff Tryz.prog ⟨d,.call ⟨.value (.func f),xs,ats⟩,ty,pos,aft,g⟩ s.ev s.heap s.kp ⟨.tuple [.own b 0 l.length,.bl z],avs.flatMap (oJ s.heap),[(b,some ⟨q,List.map (ow e) l⟩)],[b]⟩:=
 AEff.conv (aOK (x:= .tuple [.own b 0 (List.map e l).length,.bl z]) (nb:=[(b,⟨q,cK (List.map e l)⟩)]) hc h.1 (by rw [h.2.1];rfl) rfl h.2.2 (cV (ok.good _) (cV trivial kM)) hv) (by simp only [aO]) (oV (nb':=[(b,⟨q,List.map (ow e) l⟩)]) (by simp only [fJ]))
section
variable {h:Hp} {κ:Kp}
theorem vaR {b1 b2 b3 b4 m1 m2 m3 m4:Nat} {v:Rp} (p:h b1=some ⟨1,List.map (ow eI) v.q.src⟩/\v.q.src.length=m1/\h b2=some ⟨1,List.map (ow eI) v.q.tgt⟩/\v.q.tgt.length=m2/\h b3=some ⟨1,List.map (ow eI) v.dims⟩/\v.dims.length=m3/\h b4=some ⟨3,List.map (ow eM) v.maps⟩/\v.maps.length=m4):viewA h (.agg [.int v.p,.int v.q.n,.own b1 0 m1,.own b2 0 m2,.own b3 0 m3,.own b4 0 m4]) (.agg (eR v)):=
 aIf (oA (vU rfl) (oA (vU rfl) (oA (aAx cW p.1 p.2.1) (oA (aAx cW p.2.2.1 p.2.2.2.1) (oA (aAx cW p.2.2.2.2.1 p.2.2.2.2.2.1) (oA (aAx hO p.2.2.2.2.2.2.1 p.2.2.2.2.2.2.2) aCo))))))
theorem vaM {b m:Nat} {v:Mt} (p:h b=some ⟨1,List.map (ow eI) v.cells⟩/\v.cells.length=m):viewA h (.agg [.int v.rows,.int v.cols,.own b 0 m]) (.agg (eM v)):=aIf (oA (vU rfl) (oA (vU rfl) (oA (aAx cW p.1 p.2) aCo)))
theorem vaQ {b1 b2 m1 m2:Nat} {v:Qv} (p:h b1=some ⟨1,List.map (ow eI) v.src⟩/\v.src.length=m1/\h b2=some ⟨1,List.map (ow eI) v.tgt⟩/\v.tgt.length=m2):viewA h (.agg [.int v.n,.own b1 0 m1,.own b2 0 m2]) (.agg (eQ v)):=aIf (oA (vU rfl) (oA (aAx cW p.1 p.2.1) (oA (aAx cW p.2.2.1 p.2.2.2) aCo)))
variable {x:AV} {xs ds:List AV}
theorem wkS (q:fI x=true) (b:All2 (aAQ κ h) xs ds):All2 (aAQ κ h) (x::xs) (x::ds):=aBc (.inl (aEN q)) b
theorem wkD {W:World} {k:Nat} {es:List (List AV)} {v:Value} {S:List Nat} (hf:κ.fx=xM W) (r:RepD W (.list k es) v S) (q:All2 (aAQ κ h) xs ds):All2 (aAQ κ h) (.sc v::xs) (.list k es::ds):=aBc (.inr (aXQ hf r)) q
end
section
variable {dst:Option Tmp} {ty:TypeId} {pos:String} {aft:Array Edge} {g:Option (Nat×Bool)} {s:AState}
theorem wl {t e:TypeId} {n:Nat} {parts:Array (Nat×Operand)} {y ye:Ty} {ps:List (Nat×List AV)} {cs:List AV} {b:Nat}
  (h:(s.ns.head?,dY TT t,y.desc,dY TT e,ye.zero.length,Nat.ble (n*ye.size) 16777216,Nat.ble n 16777216,aAV s.ev parts.toList,aDK (λi=>some (i*ye.size,ye.size)) (List.replicate n ye.zero).flatten ps,(ps.all λp=>p.2.all (okCell s.heap)),cs.all (okCell s.heap),(ps.flatMap (λp=>dP p.2)++dP cs).contains b)=(some b,some y,.slice e,some ye,ye.size,true,true,some ps,some cs,true,true,false)):
  AEff Tryz.prog ⟨dst,.buildSlice t n parts,ty,pos,aft,g⟩ s.ev s.heap s.kp ⟨.own b 0 n,ps.flatMap (λp=>dP p.2)++dP cs,[(b,some ⟨ye.size,aDY ye.size n cs⟩)],[b]⟩:=by
 simp only [Prod.mk.injEq] at h;obtain ⟨h1,h2,h3,h4,h5,h6,h7,h8,h9,h10,h11,h12⟩:=h;exact aZF aL h1 h2 h3 h4 h5 h6 h7 h8 h9 h10 h11 h12
theorem ws {t:TypeId} {y:Ty} {x z:Operand} {val:AV} {b i j kk:Nat} {ees:List (List AV)} {cs:List AV}
  (h:(s.ev x,s.heap b,s.ev z,dY TT t,Nat.beq (dK val).length y.size,(dK val).all (okCell s.heap),ees[i]?,Nat.ble (j+y.size) cs.length)=(some (.ptr b i j),some ⟨kk,ees⟩,some val,some y,true,true,some cs,true)):
  AEff Tryz.prog ⟨dst,.store t x z,ty,pos,aft,g⟩ s.ev s.heap s.kp ⟨.dead,b::dP (dK val),[(b,some ⟨kk,ees.set i (aCm cs j (dK val))⟩)],[]⟩:=by
 simp only [Prod.mk.injEq] at h;obtain ⟨h1,h2,h3,h4,h5,h6,h7,h8⟩:=h;exact aMV aL h1 h2 h3 h4 h5 h6 h7 h8
theorem wb {t:TypeId} {x:Operand} {v:AV} {b:Nat} (h:(s.ns.head?,s.ev x,(dK v).all (okCell s.heap),(dP (dK v)).contains b)=(some b,some v,true,false)):
  AEff Tryz.prog ⟨dst,.box t x,ty,pos,aft,g⟩ s.ev s.heap s.kp ⟨.ptr b 0 0,dP (dK v),[(b,some ⟨(dK v).length,[dK v]⟩)],[b]⟩:=by
 simp only [Prod.mk.injEq] at h;obtain ⟨h1,h2,h3,h4⟩:=h;exact aXL h1 h2 h3 h4
theorem xl {α:Type} {k:Nat} {e:α->List AV} {x ix:Operand} {t et:Nat} {y ye:Ty} {l:List α} {kk:IntKind} {i:Int} {v:α} (hm:cO l i=some v)
  (h:(s.ev x,s.ev ix,dY TT t,y.desc,dY TT et,ye.size)=(some (.list k (l.map e)),some (.sc (.int kk i)),some y,.slice et,some ye,k)):
  AEff Tryz.prog ⟨dst,.indexAddr t x ix,ty,pos,aft,g⟩ s.ev s.heap s.kp ⟨.ref (e v),[],[],[]⟩:=by
 simp only [Prod.mk.injEq] at h;obtain ⟨h1,h2,h3,h4,h5,h6⟩:=h;exact aSI aL hm h1 h2 h3 h4 h5 h6
theorem xo {α:Type} {l:List α} {v:α} {x ix:Operand} {t et:Nat} {y ye:Ty} {b kz:Nat} {es:List (List AV)} {kk:IntKind} {i:Int} (hm:cO l i=some v)
  (h:(s.ev x,s.heap b,s.ev ix,dY TT t,y.desc,dY TT et,ye.size)=(some (.own b 0 l.length),some ⟨kz,es⟩,some (.sc (.int kk i)),some y,.slice et,some ye,kz)):
  AEff Tryz.prog ⟨dst,.indexAddr t x ix,ty,pos,aft,g⟩ s.ev s.heap s.kp ⟨.ptr b i.toNat 0,[b],[],[]⟩:=by
 simp only [Prod.mk.injEq] at h;obtain ⟨h1,h2,h3,h4,h5,h6,h7⟩:=h;exact aCL aL (aJL hm) (oK hm) h1 h2 h3 h4 h5 h6 h7
theorem wp {α:Type} {e:α->List AV} {l:List α} {u:α} {x:Operand} {t:Nat} {y:Ty} {b j k:Nat} {i:Int} {v:AV} (hm:cO l i=some u)
  (h:(s.ev x,s.heap b,dY TT t,(y.desc.isAgg||Nat.beq y.size 1),Nat.ble (j+y.size) (e u).length,aBL y.desc.isAgg ((((e u).drop j).take y.size).map aCB))=(some (.ptr b i.toNat j),some ⟨k,l.map e⟩,some y,true,true,v)):
  AEff Tryz.prog ⟨dst,.load t x,ty,pos,aft,g⟩ s.ev s.heap s.kp ⟨v,[b],[],[]⟩:=by
 simp only [Prod.mk.injEq] at h;obtain ⟨h1,h2,h3,h4,h5,h6⟩:=h;exact fG aL h1 h2 h3 h4 (aAu (fC hm)) h5 h6
end
theorem hM {f:FuncId} {fn:Func} {c:Code} {nt:Nat} {ds:List AV} {r:AV} (rvs:List ResultVar) (hf:Tryz.prog.funcs[f]? =some fn) (hnt:fn.ntmps=nt) (h':(fn.body,(fn.name== "runtime.NumGoroutine"),fn.results.toList,Nat.ble ds.length nt,ds.all vJ)=(some c,false,rvs,true,true)) (h:AC Tryz.prog nt c (s0 ds nmA) (uI TT rvs r)):HasC Tryz.prog f ds r:=by
 simp only [Prod.mk.injEq] at h';exact aBY aL hf h'.1 h'.2.1 hnt h'.2.2.1 h'.2.2.2.1 h'.2.2.2.2 h
@[elab_as_elim] theorem sp {α:Type} {a:α} {P:α->Prop} {o:α} (h:some a=some o) (p:P a):P o:=so h▸p
theorem kI {α:Type} {t:Bool} {A B:Option α} {r:α} {G:Prop} (h:cond t A B=some r) (p:t=true->A=some r->G) (q:t=false->B=some r->G):G:=by
 rcases cb h with ⟨e,h⟩|⟨e,h⟩
 ·exact p e h
 ·exact q e h
theorem dC {P:Program} {nt:Nat} {Q:Exit->AState->Prop} {s:AState} {c:Operand} {x y:Code} {α:Type} {t:Bool} {A B:Option α} {r:α} (hc:s.ev c=some (.sc (.bool t))) (h:cond t A B=some r) (p:t=true->A=some r->AC P nt x s Q) (q:t=false->B=some r->AC P nt y s Q):AC P nt (.cond c x y) s Q:=kI h (λe h=>dO hc e (p e h)) λe h=>fK hc e (q e h)
theorem nH {p q:Prop} (a:p) (b:q):p/\q:=⟨a,b⟩
def oMt (v:Mt) (a:Nat):List AV:=[.int v.rows,.int v.cols,.own a 0 v.cells.length]
def oQv (v:Qv) (a b:Nat):List AV:=[.int v.n,.own a 0 v.src.length,.own b 0 v.tgt.length]
def oRp (v:Rp) (a b c d:Nat):List AV:=[.int v.p,.int v.q.n,.own a 0 v.q.src.length,.own b 0 v.q.tgt.length,.own c 0 v.dims.length,.own d 0 v.maps.length]
def lL:List AV:=[.int 0,.int 0,.nil 1]
def aBM:List AV:=[.int 0,.int 0,.nil 1,.nil 1,.nil 1,.nil 3]
end
noncomputable section
def pM (a0:Int) (a1:Int) (a2:Int):Option Bool:=
 bif decide (a1<=a0) then
 (some (decide (a0<=a2)))
 else
 (some (false))
theorem vK (a0:Int) (a1:Int) (a2:Int) (r:Bool) (h:pM a0 a1 a2=some r):HasC Tryz.prog 117 [.int a0,.int a1,.int a2] (.bl r):=by
 exact hM [.tmp 6] Tryz.func117 Tryz.ntmps117 k<|sR<|aT k2<|sR<|am k k<|am k k<|cm k4<|am k k<|kI h (λq1 h=>aH 10 k q1<|am k k<|am k k<|cm k4<|pk k3<|aT k2<|aG<|kD h k2) λq1 h=>aH 10 k q1<|aK k4<|ak k k<|pk k3<|aT k2<|aG<|kD h k2
def lB (a0:Int) (a1:Int) (a2:Int):Option Bool:=
 bif decide (a1<=a0) then
 (some (decide (a0<=a2)))
 else
 (some (false))
theorem rK (a0:Int) (a1:Int) (a2:Int) (r:Bool) (h:lB a0 a1 a2=some r):HasC Tryz.prog 111 [.int a0,.int a1,.int a2] (.bl r):=by
 exact hM [.tmp 6] Tryz.func111 Tryz.ntmps111 k<|sR<|aT k2<|sR<|am k k<|am k k<|cm k4<|am k k<|kI h (λq1 h=>aH 10 k q1<|am k k<|am k k<|cm k4<|pk k3<|aT k2<|aG<|kD h k2) λq1 h=>aH 10 k q1<|aK k4<|ak k k<|pk k3<|aT k2<|aG<|kD h k2
def vW (a0:aA) (x1:(Int×Int)):Option ((Int×Int) ⊕ Int):=
 bif decide (x1.2<(a0.length:Int)) then
 ((cO a0 x1.2).bind λv2=>
 some (.inl (wr (x1.1+v2),wr (x1.2+1))))
 else
 (some (.inr x1.1))
def rT (a0:aA):Option Int:=
 (Lp (vW a0) (0,0)).bind λy3=>
 some (y3)
theorem aAc (a0:aA) (r:Int) (h:rT a0=some r):HasC Tryz.prog 230 [.list 1 (a0.map eI)] (.int r):=by
 refine hM [.tmp 2] Tryz.func230 Tryz.ntmps230 k<|sR<|aT k2<|sR<|aT k2<|sQ<|sR<|am k k<|ln k4<|am k k<|an<|tn<|aE<|oB h λy3 hy3 h=>cH (body:=(vW a0)) hy3 (λ(x1:(Int×Int))=>mN [(3,.int x1.1),(6,.list 1 (a0.map eI)),(7,.int (a0.length:Int)),(8,.int x1.2)] [] 0) (λr e t=>e= .exit 0/\Ent t (mN [(3,.int r)] [] 0)) (bO (bN k2) aR k4) ?_ ?_
 ·intro x1 o h;exact sR<|cm k4<|an<|tn<|sQ<|dC k h (λ_ h=>aI<|tn<|sQ<|aE<|sR<|oB h λv2 hv2 h=>ae (xl hv2 k) k<|lr k7<|aT k2<|rg<|am k k<|am k k<|ae (bJ k k) k<|aa k k<|an<|aZ<|tn<|rg<|ae (bJ k k) k<|am k k<|an<|tn<|sp h ⟨_,k,(bO (bN k2) aR k4)⟩) λ_ h=>bA<|aB<|aB<|sp h ⟨_,k,k,(bO (bN k2) aR k4)⟩
 ·rintro e t ⟨rfl,hent⟩;exact aP<|tn<|aN hent<|sR<|am k k<|aT k2<|aG<|xQ h k2
def yQ (a0:aA) (a1:aA) (x1:Int):Option (Int ⊕ (Unit ⊕ Bool)):=
 bif decide (x1<(a0.length:Int)) then
 ((cO a0 x1).bind λv3=>
 (cO a1 x1).bind λv4=>
 bif !decide (v3=v4) then
 (some (.inr (.inr (false))))
 else
 (some (.inl (wr (x1+1)))))
 else
 (some (.inr (.inl ())))
def tB (a0:aA) (a1:aA):Option Bool:=
 bif !decide ((a0.length:Int)=(a1.length:Int)) then
 (some (false))
 else
 ((Lp (yQ a0 a1) 0).bind λy6=>
 Sum.elim (λy7=>
 some (true)
 )
 (λy8=>
 some y8
 )
 y6)
theorem zC (a0:aA) (a1:aA) (r:Bool) (h:tB a0 a1=some r):HasC Tryz.prog 114 [.list 1 (a0.map eI),.list 1 (a1.map eI)] (.bl r):=by
 refine hM [.tmp 4] Tryz.func114 Tryz.ntmps114 k<|sR<|aT k2<|sQ<|sR<|am k k<|ln k4<|am k k<|ln k4<|cm k4<|an<|tn<|dC k h (λ_ h=>sR<|aT k2<|aG<|aM<|kD h k2) λ_ h=>?_;refine aI<|tn<|sQ<|sR<|aT k2<|aE<|oB h λy6 hy6 h=>cH (body:=(yQ a0 a1)) hy6 (λ(x1:Int)=>mN [(0,.list 1 (a0.map eI)),(1,.list 1 (a1.map eI)),(5,.int x1)] [] 0) (λr e t=>Sum.elim (λa=>(λr e t=>e= .exit 0/\Ent t (mN [] [] 0)) a e t) (λb=>(λr e t=>e= .ret/\uI TT [.tmp 4] (.bl r) .ret t) b e t) r) (bO (bN k2) aR k4) ?_ ?_
 ·intro x1 o h;exact sQ<|sR<|am k k<|am k k<|ln k4<|cm k4<|an<|tn<|dC k h (λ_ h=>aI<|tn<|sQ<|aE<|sQ<|aQ fW<|am k k<|am k k<|oB h λv3 hv3 h=>ae (xl hv3 k) k<|lr k7<|am k k<|am k k<|oB h λv4 hv4 h=>ae (xl hv4 k) k<|lr k7<|cm k4<|an<|nH (by kernel_rfl)<|tn<|dC k h (λ_ h=>sR<|aT k2<|aG<|bX<|aM<|aM<|sp h ⟨_,k,k,cA k k k (qM k)⟩) λ_ h=>aI<|aZ<|tn<|rg<|am k k<|ae (bJ k k) k<|aT k2<|sp h ⟨_,k,(bO (bN k2) aR k4)⟩) λ_ h=>bA<|aB<|aB<|sp h ⟨_,k,k,(bO aR aR k4)⟩
 ·intro e t hX;rcases y6 with y7|y8
  ·obtain ⟨rfl,hent⟩:=hX;exact aP<|tn<|aN hent<|sR<|aT k2<|aG<|kD h k2
  ·obtain ⟨rfl,hent⟩:=hX;exact bX<|aM<|sp h hent
def vX (a0:aA) (a1:Int) (x1:Int):Option (Int ⊕ (Unit ⊕ Bool)):=
 bif decide (x1<(a0.length:Int)) then
 ((cO a0 x1).bind λv2=>
 bif decide (v2=a1) then
 (some (.inr (.inr (true))))
 else
 (some (.inl (wr (x1+1)))))
 else
 (some (.inr (.inl ())))
def aAd (a0:aA) (a1:Int):Option Bool:=
 (Lp (vX a0 a1) 0).bind λy4=>
 Sum.elim (λy5=>
 some (false)
 )
 (λy6=>
 some y6
 )
 y4
theorem aMi (a0:aA) (a1:Int) (r:Bool) (h:aAd a0 a1=some r):HasC Tryz.prog 242 [.list 1 (a0.map eI),.int a1] (.bl r):=by
 refine hM [.tmp 4] Tryz.func242 Tryz.ntmps242 k<|sR<|aT k2<|sQ<|sR<|aT k2<|aE<|oB h λy4 hy4 h=>cH (body:=(vX a0 a1)) hy4 (λ(x1:Int)=>mN [(0,.list 1 (a0.map eI)),(1,.int a1),(5,.int x1)] [] 0) (λr e t=>Sum.elim (λa=>(λr e t=>e= .exit 0/\Ent t (mN [] [] 0)) a e t) (λb=>(λr e t=>e= .ret/\uI TT [.tmp 4] (.bl r) .ret t) b e t) r) (bO (bN k2) aR k4) ?_ ?_
 ·intro x1 o h;exact sQ<|sR<|am k k<|am k k<|ln k4<|cm k4<|an<|tn<|dC k h (λ_ h=>aI<|tn<|sQ<|aE<|sR<|am k k<|am k k<|oB h λv2 hv2 h=>ae (xl hv2 k) k<|lr k7<|am k k<|cm k4<|an<|tn<|dC k h (λ_ h=>sR<|aT k2<|aG<|bX<|aM<|aM<|sp h ⟨_,k,k,cA k k k (qM k)⟩) λ_ h=>aI<|aZ<|tn<|rg<|am k k<|ae (bJ k k) k<|aT k2<|sp h ⟨_,k,(bO (bN k2) aR k4)⟩) λ_ h=>bA<|aB<|aB<|sp h ⟨_,k,k,(bO aR aR k4)⟩
 ·intro e t hX;rcases y4 with y5|y6
  ·obtain ⟨rfl,hent⟩:=hX;exact aP<|tn<|aN hent<|sR<|aT k2<|aG<|kD h k2
  ·obtain ⟨rfl,hent⟩:=hX;exact bX<|aM<|sp h hent
def nN (a0:aA) (a1:aA) (x1:Int):Option (Int ⊕ (Unit ⊕ Bool)):=
 bif decide (x1<(a0.length:Int)) then
 ((cO a0 x1).bind λv3=>
 (cO a1 x1).bind λv4=>
 bif !decide (v3=v4) then
 (some (.inr (.inr (false))))
 else
 (some (.inl (wr (x1+1)))))
 else
 (some (.inr (.inl ())))
def gT (a0:aA) (a1:aA):Option Bool:=
 bif !decide ((a0.length:Int)=(a1.length:Int)) then
 (some (false))
 else
 ((Lp (nN a0 a1) 0).bind λy6=>
 Sum.elim (λy7=>
 some (true)
 )
 (λy8=>
 some y8
 )
 y6)
theorem lS (a0:aA) (a1:aA) (r:Bool) (h:gT a0 a1=some r):HasC Tryz.prog 100 [.list 1 (a0.map eI),.list 1 (a1.map eI)] (.bl r):=by
 refine hM [.tmp 4] Tryz.func100 Tryz.ntmps100 k<|sR<|aT k2<|sQ<|sR<|am k k<|ln k4<|am k k<|ln k4<|cm k4<|an<|tn<|dC k h (λ_ h=>sR<|aT k2<|aG<|aM<|kD h k2) λ_ h=>?_;refine aI<|tn<|sQ<|sR<|am k k<|ln k4<|am k k<|an<|tn<|aE<|oB h λy6 hy6 h=>cH (body:=(nN a0 a1)) hy6 (λ(x1:Int)=>mN [(0,.list 1 (a0.map eI)),(1,.list 1 (a1.map eI)),(12,.int (a0.length:Int)),(13,.int x1)] [] 0) (λr e t=>Sum.elim (λa=>(λr e t=>e= .exit 0/\Ent t (mN [] [] 0)) a e t) (λb=>(λr e t=>e= .ret/\uI TT [.tmp 4] (.bl r) .ret t) b e t) r) (bO (bN k2) aR k4) ?_ ?_
 ·intro x1 o h;exact sR<|cm k4<|an<|tn<|sQ<|dC k h (λ_ h=>aI<|tn<|sQ<|aE<|sR<|am k k<|aT k2<|sQ<|aQ fW<|am k k<|am k k<|oB h λv3 hv3 h=>ae (xl hv3 k) k<|lr k7<|am k k<|am k k<|oB h λv4 hv4 h=>ae (xl hv4 k) k<|lr k7<|cm k4<|an<|nH (by kernel_rfl)<|tn<|dC k h (λ_ h=>sR<|aT k2<|aG<|bX<|aM<|aM<|sp h ⟨_,k,k,cA k k k (qM k)⟩) λ_ h=>aI<|aZ<|tn<|rg<|ae (bJ k k) k<|am k k<|an<|tn<|sp h ⟨_,k,(bO (bN k2) aR k4)⟩) λ_ h=>bA<|aB<|aB<|sp h ⟨_,k,k,(bO aR aR k4)⟩
 ·intro e t hX;rcases y6 with y7|y8
  ·obtain ⟨rfl,hent⟩:=hX;exact aP<|tn<|aN hent<|sR<|aT k2<|aG<|kD h k2
  ·obtain ⟨rfl,hent⟩:=hX;exact bX<|aM<|sp h hent
def qR (a0:Int):Option Bool:=
 bif decide (a0=2) then
 (some (true))
 else
 (bif decide (a0=3) then
 (some (true))
 else
 (some (decide (a0=5))))
theorem xR (a0:Int) (r:Bool) (h:qR a0=some r):HasC Tryz.prog 76 [.int a0] (.bl r):=by
 exact hM [.tmp 2] Tryz.func76 Tryz.ntmps76 k<|sR<|aT k2<|sR<|am k k<|cm k4<|am k k<|kI h (λq1 h=>aH 5 k q1<|aK k4<|pk k3<|am k k<|aK k4<|pk k3<|aT k2<|aG<|kD h k2) λq1 h=>aH 5 k q1<|am k k<|cm k4<|pk k3<|am k k<|kI h (λq2 h=>aH 9 k q2<|aK k4<|pk k3<|aT k2<|aG<|kD h k2) λq2 h=>aH 9 k q2<|am k k<|cm k4<|pk k3<|aT k2<|aG<|kD h k2
def nO (a0:Int):Option Bool:=
 bif decide (a0=2) then
 (some (true))
 else
 (bif decide (a0=3) then
 (some (true))
 else
 (some (decide (a0=5))))
theorem tX (a0:Int) (r:Bool) (h:nO a0=some r):HasC Tryz.prog 116 [.int a0] (.bl r):=by
 exact hM [.tmp 2] Tryz.func116 Tryz.ntmps116 k<|sR<|aT k2<|sR<|am k k<|cm k4<|am k k<|kI h (λq1 h=>aH 5 k q1<|aK k4<|pk k3<|am k k<|aK k4<|pk k3<|aT k2<|aG<|kD h k2) λq1 h=>aH 5 k q1<|am k k<|cm k4<|pk k3<|am k k<|kI h (λq2 h=>aH 9 k q2<|aK k4<|pk k3<|aT k2<|aG<|kD h k2) λq2 h=>aH 9 k q2<|am k k<|cm k4<|pk k3<|aT k2<|aG<|kD h k2
def nP (a0:Qv) (x1:Int):Option (Int ⊕ (Unit ⊕ Bool)):=
 bif decide (x1<(a0.src.length:Int)) then
 (bif decide (x1<(a0.tgt.length:Int)) then
 ((cO a0.src x1).bind λv3=>
 (lB v3 0 (wr (a0.n - 1))).bind λv4=>
 bif !v4 then
 (some (.inr (.inr (false))))
 else
 ((cO a0.tgt x1).bind λv6=>
 (lB v6 0 (wr (a0.n - 1))).bind λv7=>
 bif !v7 then
 (some (.inr (.inr (false))))
 else
 (some (.inl (wr (x1+1))))))
 else
 (some (.inr (.inl ()))))
 else
 (some (.inr (.inl ())))
def fS (a0:Qv):Option Bool:=
 (Lp (nP a0) 0).bind λy9=>
 Sum.elim (λy10=>
 (lB a0.n 1 5).bind λv11=>
 bif v11 then
 (bif decide ((a0.src.length:Int)<=6) then
 (some (decide ((a0.tgt.length:Int)=(a0.src.length:Int))))
 else
 (some (false)))
 else
 (some (false))
 )
 (λy14=>
 some y14
 )
 y9
theorem oM (a0:Qv) (r:Bool) (h:fS a0=some r):HasC Tryz.prog 108 [.agg (eQ a0)] (.bl r):=by
 refine hM [.tmp 2] Tryz.func108 Tryz.ntmps108 k<|sR<|ae (wb k) k<|aT k2<|sQ<|sR<|aT k2<|aE<|oB h λy9 hy9 h=>cH (body:=(nP a0)) hy9 (λ(x1:Int)=>mN [(1,.ptr 0 0 0),(3,.int x1)] [(0,⟨3,[eQ a0]⟩)] 1) (λr e t=>Sum.elim (λa=>(λr e t=>e= .exit 0/\Ent t (mN [(1,.ptr 0 0 0)] [(0,⟨3,[eQ a0]⟩)] 1)) a e t) (λb=>(λr e t=>e= .ret/\uI TT [.tmp 2] (.bl r) .ret t) b e t) r) (bO (bN k2) (bS k<|aR) k4) ?_ ?_
 ·intro x1 o h;refine sQ<|sR<|am k k<|fp k8<|lp k8<|ln k4<|cm k4<|am k k<|kI h (λq1 h=>?_) λq1 h=>aH 9 k q1<|aK k4<|aK k4<|ak k k<|pk k3<|an<|tn<|fK k k<|bA<|aB<|aB<|sp h ⟨_,k,k,(bO (bN k2) (bS k<|aR) k4)⟩;exact aH 9 k q1<|am k k<|fp k8<|lp k8<|ln k4<|cm k4<|pk k3<|an<|tn<|dC k h (λ_ h=>aI<|tn<|sQ<|aE<|sQ<|aQ fW<|fp k8<|lp k8<|am k k<|oB h λv3 hv3 h=>ae (xl hv3 k) k<|lr k7<|fp k8<|lp k8<|ae (gK k k) k<|oB h λv4 hv4 h=>ae (aS (rK v3 0 (wr (a0.n - 1)) v4 hv4) k (dF k (dF k (dF k aU)))) k<|ae (fB k) k<|am k k<|kI h (λq5 h=>aH 28 k q5<|aK k4<|aK k4<|aK k4<|aK k4<|aK k4<|pk k3<|an<|nH (by kernel_rfl)<|tn<|aN (t:=mN [(1,.ptr 0 0 0),(3,.int x1),(39,.bl true)] [(0,⟨3,[eQ a0]⟩)] 1) (bO (bN k2) (bS k<|aR) k4)<|dO k k<|sR<|aT k2<|aG<|bX<|aM<|aM<|sp h ⟨_,k,k,cA k k k (qM k)⟩) λq5 h=>aH 28 k q5<|fp k8<|lp k8<|am k k<|oB h λv6 hv6 h=>ae (xl hv6 k) k<|lr k7<|fp k8<|lp k8<|ae (gK k k) k<|oB h λv7 hv7 h=>ae (aS (rK v6 0 (wr (a0.n - 1)) v7 hv7) k (dF k (dF k (dF k aU)))) k<|ae (fB k) k<|pk k3<|an<|nH (by kernel_rfl)<|tn<|aN (t:=mN [(1,.ptr 0 0 0),(3,.int x1),(39,.bl (!v7))] [(0,⟨3,[eQ a0]⟩)] 1) (bO (bN k2) (bS k<|aR) k4)<|dC k h (λ_ h=>sR<|aT k2<|aG<|bX<|aM<|aM<|sp h ⟨_,k,k,cA k k k (qM k)⟩) λ_ h=>aI<|aZ<|tn<|rg<|am k k<|ae (bJ k k) k<|aT k2<|sp h ⟨_,k,(bO (bN k2) (bS k<|aR) k4)⟩) λ_ h=>bA<|aB<|aB<|sp h ⟨_,k,k,(bO (bN k2) (bS k<|aR) k4)⟩
 ·intro e t hX;rcases y9 with y10|y14
  ·obtain ⟨rfl,hent⟩:=hX;exact aP<|tn<|aN hent<|sR<|fp k8<|lp k8<|oB h λv11 hv11 h=>ae (aS (rK a0.n 1 5 v11 hv11) k (dF k (dF k (dF k aU)))) k<|am k k<|kI h (λq12 h=>aH 43 k q12<|fp k8<|lp k8<|ln k4<|cm k4<|pk k3<|am k k<|kI h (λq13 h=>aH 49 k q13<|fp k8<|lp k8<|ln k4<|fp k8<|lp k8<|ln k4<|cm k4<|pk k3<|aT k2<|aG<|kD h k2) λq13 h=>aH 49 k q13<|aK k4<|aK k4<|aK k4<|ak k k<|pk k3<|aT k2<|aG<|kD h k2) λq12 h=>aH 43 k q12<|aK k4<|aK k4<|pk k3<|am k k<|aK k4<|aK k4<|aK k4<|ak k k<|pk k3<|aT k2<|aG<|kD h k2
  ·obtain ⟨rfl,hent⟩:=hX;exact bX<|aM<|sp h hent
def tY (a0:Int) (a1:Int):Option Mt:=
 bif (decide (0<=wr (a0*a1))&&decide (wr (a0*a1)<=1048576)) then
 (some ((⟨a0,a1,(List.replicate ((wr (a0*a1)).toNat) (0:Int))⟩:Mt)))
 else none
theorem aBe (a0:Int) (a1:Int) (r:Mt) (h:tY a0 a1=some r):HasC Tryz.prog 182 [.int a0,.int a1] (.agg (eM r)):=by
 exact hM [.cell 4 81] Tryz.func182 Tryz.ntmps182 k<|sR<|ae (cB aL k k) k<|an<|tn<|sR<|am k k<|am k k<|am k k<|am k k<|ae (gC k k) k<|cG h λq1 h=>ae (aAD aL q1 k k k k k k k k) k<|ae (mQ aL k k k k k k) k<|ae (ws k) k<|an<|tn<|aN (t:=mN [(4,.ptr 0 0 0)] [(0,⟨3,[[.int a0,.int a1,.own 1 0 ((List.replicate ((wr (a0*a1)).toNat) (0:Int)).length)]]⟩),(1,⟨1,List.map (ow eI) (List.replicate ((wr (a0*a1)).toNat) (0:Int))⟩)] 2) (bO (bN k2) (hX ⟨_,k,k,.inr ⟨_,_,k,⟨_,_,k,k,⟨_,_,k,k,⟨_,_,k,⟨k,k,(by simp only [aO,lA,lT,lR,lC,lN]),k⟩,k⟩⟩⟩,k⟩⟩ k<|hX ⟨_,k,k,.inl ⟨aAy (e:=eI) (z:=0) _,cW.plainO _⟩⟩ k<|aR) k4)<|aG<|sp h (cA k k k (aAC (bH (k) (bH (k) (bH (gF cW k k) gI)))))
def zD (a0:Int) (a1:Int):Option Mt:=
 bif (decide (0<=wr (a0*a1))&&decide (wr (a0*a1)<=1048576)) then
 (some ((⟨a0,a1,(List.replicate ((wr (a0*a1)).toNat) (0:Int))⟩:Mt)))
 else none
theorem aKe (a0:Int) (a1:Int) (r:Mt) (h:zD a0 a1=some r):HasC Tryz.prog 165 [.int a0,.int a1] (.agg (eM r)):=by
 exact hM [.cell 4 81] Tryz.func165 Tryz.ntmps165 k<|sR<|ae (cB aL k k) k<|an<|tn<|sR<|am k k<|am k k<|am k k<|am k k<|ae (gC k k) k<|cG h λq1 h=>ae (aAD aL q1 k k k k k k k k) k<|ae (mQ aL k k k k k k) k<|ae (ws k) k<|an<|tn<|aN (t:=mN [(4,.ptr 0 0 0)] [(0,⟨3,[[.int a0,.int a1,.own 1 0 ((List.replicate ((wr (a0*a1)).toNat) (0:Int)).length)]]⟩),(1,⟨1,List.map (ow eI) (List.replicate ((wr (a0*a1)).toNat) (0:Int))⟩)] 2) (bO (bN k2) (hX ⟨_,k,k,.inr ⟨_,_,k,⟨_,_,k,k,⟨_,_,k,k,⟨_,_,k,⟨k,k,(by simp only [aO,lA,lT,lR,lC,lN]),k⟩,k⟩⟩⟩,k⟩⟩ k<|hX ⟨_,k,k,.inl ⟨aAy (e:=eI) (z:=0) _,cW.plainO _⟩⟩ k<|aR) k4)<|aG<|sp h (cA k k k (aAC (bH (k) (bH (k) (bH (gF cW k k) gI)))))
def fT (a0:Mt) (a1:Int):Option Unit:=
 bif (decide (0<=wr (a1*a0.cols))&&(decide (wr (a1*a0.cols)<=wr ((wr (a1+1))*a0.cols))&&decide (wr ((wr (a1+1))*a0.cols)<=((a0.cells.length:Nat):Int)))) then
 (some ())
 else none
theorem jF (a0:Mt) (a1:Int) (r:Unit) (h:fT a0 a1=some r):HasE Tryz.prog 237 [.agg [.int a0.rows,.int a0.cols,.own 0 0 a0.cells.length],.int a1] [(0,⟨1,a0.cells.map (ow eI)⟩)] 1 (.own 0 (0+(wr (a1*a0.cols)).toNat) ((wr ((wr (a1+1))*a0.cols)).toNat - (wr (a1*a0.cols)).toNat)) [(0,⟨1,a0.cells.map (ow eI)⟩)]:=by
 exact fZ aL (rvs:=[.tmp 4]) (ns:=nmA.drop 1) Tryz.func237 k k Tryz.ntmps237 k k<|sR<|ae (wb k) k<|aT k2<|sR<|fp k8<|lp k8<|am k k<|fp k8<|lp k8<|ae (gC k k) k<|am k k<|ae (bJ k k) k<|fp k8<|lp k8<|ae (gC k k) k<|cG h λq1 h=>ae (zP aL (l:=wr (a1*a0.cols)) (h:=wr ((wr (a1+1))*a0.cols)) q1 k k k k k k k k) k<|aT k2<|aG<|sp h ⟨mN [(4,.own 0 (0+(wr (a1*a0.cols)).toNat) ((wr ((wr (a1+1))*a0.cols)).toNat - (wr (a1*a0.cols)).toNat))] [(0,⟨1,a0.cells.map (ow eI)⟩)] 1 1,(bO (bN k2) (cD k<|aR) k4),k,⟨_,k,.inl k⟩,⟨k,aR⟩⟩
def oC (a0:Int) (a2:Int) (a3:aA) (n1:Nat) (s1:Nat) (x1:(aA×Int)):Option ((aA×Int) ⊕ aA):=
 bif decide (x1.2<(a3.length:Int)) then
 ((cO a3 x1.2).bind λv2=>
 bif (decide (0<=x1.2)&&decide (x1.2<((n1:Nat):Int))) then
 ((x1.1[(s1+x1.2.toNat)]?).bind λv3=>
 bif !decide (a0=0) then
 (bif (decide (0<=x1.2)&&decide (x1.2<((n1:Nat):Int))) then
 ((x1.1[(s1+x1.2.toNat)]?).bind λv5=>
 some (.inl ((x1.1.set (s1+x1.2.toNat) ((wr (v3+(wr (a2*v2)))).tmod a0)),wr (x1.2+1)))
 )
 else none)
 else none
 )
 else none)
 else
 (some (.inr x1.1))
def nQ (a0:Int) (c0:aA) (s1:Nat) (n1:Nat) (a2:Int) (a3:aA):Option aA:=
 (Lp (oC a0 a2 a3 n1 s1) (c0,0)).bind λy8=>
 some y8
theorem aBA (a0:Int) (c0:aA) (s1:Nat) (n1:Nat) (a2:Int) (a3:aA) (r:aA) (h:nQ a0 c0 s1 n1 a2 a3=some r):HasE Tryz.prog 190 [.int a0,.own 0 s1 n1,.int a2,.list 1 (a3.map eI)] [(0,⟨1,c0.map (ow eI)⟩)] 1 (.own 0 s1 n1) [(0,⟨1,r.map (ow eI)⟩)]:=by
 refine fZ aL (rvs:=[.tmp 8]) (ns:=nmA.drop 1) Tryz.func190 k k Tryz.ntmps190 k k<|sR<|aT k2<|sQ<|sR<|am k k<|ln k4<|am k k<|an<|tn<|aE<|oB h λy8 hy8 h=>cH (body:=(oC a0 a2 a3 n1 s1)) hy8 (λ(x1:(aA×Int))=>mN [(0,.int a0),(1,.own 0 s1 n1),(2,.int a2),(11,.list 1 (a3.map eI)),(12,.int (a3.length:Int)),(13,.int x1.2)] [(0,⟨1,x1.1.map (ow eI)⟩)] 1 1) (λr e t=>e= .exit 0/\Ent t (mN [(1,.own 0 s1 n1)] [(0,⟨1,r.map (ow eI)⟩)] 1 1)) (bO (bN k2) (cD k<|aR) k4) ?_ ?_
 ·intro x1 o h;refine sR<|cm k4<|an<|tn<|sQ<|dC k h (λ_ h=>?_) λ_ h=>bA<|aB<|aB<|sp h ⟨_,k,k,(bO (bN k2) (cD k<|aR) k4)⟩;refine aI<|tn<|sQ<|aE<|sR<|am k k<|oB h λv2 hv2 h=>ae (xl hv2 k) k<|lr k7<|aa k k<|aT k2<|rg<|am k k<|am k k<|am k k<|am k k<|cG h λq4 h=>oB h λv3 hv3 h=>ae (lP aL q4 k k k k k k k) k<|ae (fG aL k k k k (aAu (hv3)) k k) k<|am k k<|am k k<|ae (gC k k) k<|ae (bJ k k) k<|am k k<|cG h λq7 h=>ae (aDg k k q7) k<|cG h λq6 h=>oB h λv5 hv5 h=>ae (lP aL q6 k k k k k k k) k<|ae (gE aL jZ (u:=(wr (v3+(wr (a2*v2)))).tmod a0) (hv5) k k k k k k) k<|an ?_;exact aZ<|tn<|rg<|ae (bJ k k) k<|am k k<|an<|tn<|sp h ⟨_,k,(bO (bN k2) (cD k<|aR) k4)⟩
 ·rintro e t ⟨rfl,hent⟩;exact aP<|tn<|aN hent<|sR<|am k k<|aT k2<|aG<|sp h ⟨mN [(8,.own 0 s1 n1)] [(0,⟨1,y8.map (ow eI)⟩)] 1 1,(bO (bN k2) (cD k<|aR) k4),k,⟨_,k,.inl k⟩,⟨k,aR⟩⟩
def jG (a0:Int) (a2:Int) (n1:Nat) (n3:Nat) (s1:Nat) (s3:Nat) (x1:(aA×Int)):Option ((aA×Int) ⊕ aA):=
 bif decide (x1.2<((n3:Nat):Int)) then
 (bif (decide (0<=x1.2)&&decide (x1.2<((n3:Nat):Int))) then
 ((x1.1[(s3+x1.2.toNat)]?).bind λv2=>
 bif (decide (0<=x1.2)&&decide (x1.2<((n1:Nat):Int))) then
 ((x1.1[(s1+x1.2.toNat)]?).bind λv4=>
 bif !decide (a0=0) then
 (bif (decide (0<=x1.2)&&decide (x1.2<((n1:Nat):Int))) then
 ((x1.1[(s1+x1.2.toNat)]?).bind λv6=>
 some (.inl ((x1.1.set (s1+x1.2.toNat) ((wr (v4+(wr (a2*v2)))).tmod a0)),wr (x1.2+1)))
 )
 else none)
 else none
 )
 else none
 )
 else none)
 else
 (some (.inr x1.1))
def lU (a0:Int) (c0:aA) (s1:Nat) (n1:Nat) (a2:Int) (s3:Nat) (n3:Nat):Option aA:=
 (Lp (jG a0 a2 n1 n3 s1 s3) (c0,0)).bind λy9=>
 some y9
theorem aCR (a0:Int) (c0:aA) (s1:Nat) (n1:Nat) (a2:Int) (s3:Nat) (n3:Nat) (r:aA) (h:lU a0 c0 s1 n1 a2 s3 n3=some r):HasE Tryz.prog 190 [.int a0,.own 0 s1 n1,.int a2,.own 0 s3 n3] [(0,⟨1,c0.map (ow eI)⟩)] 1 (.own 0 s1 n1) [(0,⟨1,r.map (ow eI)⟩)]:=by
 refine fZ aL (rvs:=[.tmp 8]) (ns:=nmA.drop 1) Tryz.func190 k k Tryz.ntmps190 k k<|sR<|aT k2<|sQ<|sR<|am k k<|ae (cN aL k k k k) k<|am k k<|an<|tn<|aE<|oB h λy9 hy9 h=>cH (body:=(jG a0 a2 n1 n3 s1 s3)) hy9 (λ(x1:(aA×Int))=>mN [(0,.int a0),(1,.own 0 s1 n1),(2,.int a2),(11,.own 0 s3 n3),(12,.int ((n3:Nat):Int)),(13,.int x1.2)] [(0,⟨1,x1.1.map (ow eI)⟩)] 1 1) (λr e t=>e= .exit 0/\Ent t (mN [(1,.own 0 s1 n1)] [(0,⟨1,r.map (ow eI)⟩)] 1 1)) (bO (bN k2) (cD k<|aR) k4) ?_ ?_
 ·intro x1 o h;refine sR<|cm k4<|an<|tn<|sQ<|dC k h (λ_ h=>?_) λ_ h=>bA<|aB<|aB<|sp h ⟨_,k,k,(bO (bN k2) (cD k<|aR) k4)⟩;refine aI<|tn<|sQ<|aE<|sR<|am k k<|cG h λq3 h=>oB h λv2 hv2 h=>ae (lP aL q3 k k k k k k k) k<|ae (fG aL k k k k (aAu (hv2)) k k) k<|aa k k<|aT k2<|rg<|am k k<|am k k<|am k k<|am k k<|cG h λq5 h=>oB h λv4 hv4 h=>ae (lP aL q5 k k k k k k k) k<|ae (fG aL k k k k (aAu (hv4)) k k) k<|am k k<|am k k<|ae (gC k k) k<|ae (bJ k k) k<|am k k<|cG h λq8 h=>ae (aDg k k q8) k<|cG h λq7 h=>oB h λv6 hv6 h=>ae (lP aL q7 k k k k k k k) k<|ae (gE aL jZ (u:=(wr (v4+(wr (a2*v2)))).tmod a0) (hv6) k k k k k k) k<|an ?_;exact aZ<|tn<|rg<|ae (bJ k k) k<|am k k<|an<|tn<|sp h ⟨_,k,(bO (bN k2) (cD k<|aR) k4)⟩
 ·rintro e t ⟨rfl,hent⟩;exact aP<|tn<|aN hent<|sR<|am k k<|aT k2<|aG<|sp h ⟨mN [(8,.own 0 s1 n1)] [(0,⟨1,y9.map (ow eI)⟩)] 1 1,(bO (bN k2) (cD k<|aR) k4),k,⟨_,k,.inl k⟩,⟨k,aR⟩⟩
def kU (a0:Int) (a1:Int):Option Int:=
 bif !decide (a0=0) then
 (bif decide (a1.tmod a0<0) then
 (some (wr ((a1.tmod a0)+a0)))
 else
 (some (a1.tmod a0)))
 else none
theorem rU (a0:Int) (a1:Int) (r:Int) (h:kU a0 a1=some r):HasC Tryz.prog 192 [.int a0,.int a1] (.int r):=by
 exact hM [.tmp 4] Tryz.func192 Tryz.ntmps192 k<|sR<|aT k2<|sR<|am k k<|am k k<|cG h λq2 h=>ae (aDg k k q2) k<|aT k2<|sQ<|sR<|am k k<|cm k4<|an<|tn<|dC k h (λ_ h=>rg<|am k k<|am k k<|ae (bJ k k) k<|aT k2<|sR<|am k k<|aT k2<|aG<|xQ h k2) λ_ h=>aI<|tn<|sR<|am k k<|aT k2<|aG<|xQ h k2
def oX (a0:Int) (a1:Int) (x1:Int):Option (Int ⊕ (Unit ⊕ Int)):=
 bif decide (x1<a0) then
 ((qR a0).bind λv2=>
 bif v2 then
 ((kU a0 a1).bind λv4=>
 (kU a0 (wr (v4*x1))).bind λv5=>
 bif decide (v5=1) then
 (some (.inr (.inr (x1))))
 else
 (some (.inl (wr (x1+1)))))
 else
 (some (.inr (.inl ()))))
 else
 (some (.inr (.inl ())))
def tJ (a0:Int) (a1:Int):Option Int:=
 (Lp (oX a0 a1) 1).bind λy7=>
 Sum.elim (λy8=>
 some (0)
 )
 (λy9=>
 some y9
 )
 y7
theorem aFq (a0:Int) (a1:Int) (r:Int) (h:tJ a0 a1=some r):HasC Tryz.prog 245 [.int a0,.int a1] (.int r):=by
 refine hM [.tmp 4] Tryz.func245 Tryz.ntmps245 k<|sR<|aT k2<|sQ<|sR<|aT k2<|aE<|oB h λy7 hy7 h=>cH (body:=(oX a0 a1)) hy7 (λ(x1:Int)=>mN [(0,.int a0),(1,.int a1),(5,.int x1)] [] 0) (λr e t=>Sum.elim (λa=>(λr e t=>e= .exit 0/\Ent t (mN [] [] 0)) a e t) (λb=>(λr e t=>e= .ret/\uI TT [.tmp 4] (.int r) .ret t) b e t) r) (bO (bN k2) aR k4) ?_ ?_
 ·intro x1 o h;exact sQ<|sR<|am k k<|am k k<|cm k4<|am k k<|kI h (λq1 h=>aH 9 k q1<|am k k<|oB h λv2 hv2 h=>ae (aS (xR a0 v2 hv2) k (dF k aU)) k<|pk k3<|an<|tn<|dC k h (λ_ h=>aI<|tn<|sQ<|aE<|sR<|am k k<|am k k<|am k k<|oB h λv4 hv4 h=>ae (aS (rU a0 a1 v4 hv4) k (dF k (dF k aU))) k<|am k k<|ae (gC k k) k<|oB h λv5 hv5 h=>ae (aS (rU a0 (wr (v4*x1)) v5 hv5) k (dF k (dF k aU))) k<|cm k4<|an<|tn<|dC k h (λ_ h=>sR<|am k k<|aT k2<|aG<|bX<|aM<|aM<|sp h ⟨_,k,k,cA k k k (aGj k)⟩) λ_ h=>aI<|aZ<|tn<|rg<|am k k<|ae (bJ k k) k<|aT k2<|sp h ⟨_,k,(bO (bN k2) aR k4)⟩) λ_ h=>bA<|aB<|aB<|sp h ⟨_,k,k,(bO aR aR k4)⟩) λq1 h=>aH 9 k q1<|aK k4<|pk k3<|an<|tn<|fK k k<|bA<|aB<|aB<|sp h ⟨_,k,k,(bO aR aR k4)⟩
 ·intro e t hX;rcases y7 with y8|y9
  ·obtain ⟨rfl,hent⟩:=hX;exact aP<|tn<|aN hent<|sR<|aT k2<|aG<|xQ h k2
  ·obtain ⟨rfl,hent⟩:=hX;exact bX<|aM<|sp h hent
def rV (a0:Int) (a1:aA) (x1:Int):Option (Int ⊕ (Unit ⊕ Bool)):=
 bif decide (x1<(a1.length:Int)) then
 ((cO a1 x1).bind λv5=>
 (lB v5 0 (wr (a0 - 1))).bind λv6=>
 bif !v6 then
 (some (.inr (.inr (false))))
 else
 (some (.inl (wr (x1+1)))))
 else
 (some (.inr (.inl ())))
def vY (a0:Int) (a1:aA):Option Bool:=
 (qR a0).bind λv1=>
 bif !v1 then
 (some (false))
 else
 (bif decide (64<(a1.length:Int)) then
 (some (false))
 else
 ((Lp (rV a0 a1) 0).bind λy8=>
 Sum.elim (λy9=>
 some (true)
 )
 (λy10=>
 some y10
 )
 y8))
theorem aIK (a0:Int) (a1:aA) (r:Bool) (h:vY a0 a1=some r):HasC Tryz.prog 238 [.int a0,.list 1 (a1.map eI)] (.bl r):=by
 refine hM [.tmp 4] Tryz.func238 Tryz.ntmps238 k<|sR<|aT k2<|sQ<|sR<|am k k<|oB h λv1 hv1 h=>ae (aS (xR a0 v1 hv1) k (dF k aU)) k<|ae (fB k) k<|am k k<|kI h (λq2 h=>aH 9 k q2<|aK k4<|ak k k<|pk k3<|an<|tn<|dO k k<|sR<|aT k2<|aG<|aM<|kD h k2) λq2 h=>?_;refine aH 9 k q2<|am k k<|ln k4<|cm k4<|pk k3<|an<|tn<|dC k h (λ_ h=>sR<|aT k2<|aG<|aM<|kD h k2) λ_ h=>?_;refine aI<|tn<|sQ<|sR<|aT k2<|aE<|oB h λy8 hy8 h=>cH (body:=(rV a0 a1)) hy8 (λ(x1:Int)=>mN [(0,.int a0),(1,.list 1 (a1.map eI)),(5,.int x1)] [] 0) (λr e t=>Sum.elim (λa=>(λr e t=>e= .exit 0/\Ent t (mN [] [] 0)) a e t) (λb=>(λr e t=>e= .ret/\uI TT [.tmp 4] (.bl r) .ret t) b e t) r) (bO (bN k2) aR k4) ?_ ?_
 ·intro x1 o h;exact sQ<|sR<|am k k<|am k k<|ln k4<|cm k4<|an<|tn<|dC k h (λ_ h=>aI<|tn<|sQ<|aE<|sR<|am k k<|am k k<|oB h λv5 hv5 h=>ae (xl hv5 k) k<|lr k7<|am k k<|ae (gK k k) k<|oB h λv6 hv6 h=>ae (aS (rK v5 0 (wr (a0 - 1)) v6 hv6) k (dF k (dF k (dF k aU)))) k<|ae (fB k) k<|an<|tn<|dC k h (λ_ h=>sR<|aT k2<|aG<|bX<|aM<|aM<|sp h ⟨_,k,k,cA k k k (qM k)⟩) λ_ h=>aI<|aZ<|tn<|rg<|am k k<|ae (bJ k k) k<|aT k2<|sp h ⟨_,k,(bO (bN k2) aR k4)⟩) λ_ h=>bA<|aB<|aB<|sp h ⟨_,k,k,(bO aR aR k4)⟩
 ·intro e t hX;rcases y8 with y9|y10
  ·obtain ⟨rfl,hent⟩:=hX;exact aP<|tn<|aN hent<|sR<|aT k2<|aG<|kD h k2
  ·obtain ⟨rfl,hent⟩:=hX;exact bX<|aM<|sp h hent
def vZ (a0:Int) (a1:Mt):Option Bool:=
 (lB a1.rows 0 8).bind λv1=>
 bif v1 then
 ((lB a1.cols 0 8).bind λv3=>
 bif v3 then
 (bif decide ((a1.cells.length:Int)=wr (a1.rows*a1.cols)) then
 ((vY a0 a1.cells).bind λv6=>
 some (v6))
 else
 (some (false)))
 else
 (some (false)))
 else
 (some (false))
theorem aIL (a0:Int) (a1:Mt) (r:Bool) (h:vZ a0 a1=some r):HasC Tryz.prog 200 [.int a0,.agg (eM a1)] (.bl r):=by
 exact hM [.tmp 4] Tryz.func200 Tryz.ntmps200 k<|sR<|ae (wb k) k<|aT k2<|sR<|fp k8<|lp k8<|oB h λv1 hv1 h=>ae (aS (rK a1.rows 0 8 v1 hv1) k (dF k (dF k (dF k aU)))) k<|am k k<|kI h (λq2 h=>aH 8 k q2<|fp k8<|lp k8<|oB h λv3 hv3 h=>ae (aS (rK a1.cols 0 8 v3 hv3) k (dF k (dF k (dF k aU)))) k<|pk k3<|am k k<|kI h (λq4 h=>aH 13 k q4<|fp k8<|lp k8<|ln k4<|fp k8<|lp k8<|fp k8<|lp k8<|ae (gC k k) k<|cm k4<|pk k3<|am k k<|kI h (λq5 h=>aH 24 k q5<|am k k<|fp k8<|lp k8<|oB h λv6 hv6 h=>ae (aS (aIK a0 a1.cells v6 hv6) k (dF k (dF k aU))) k<|pk k3<|aT k2<|aG<|kD h k2) λq5 h=>aH 24 k q5<|aK k4<|aK k4<|pk k3<|aT k2<|aG<|kD h k2) λq4 h=>aH 13 k q4<|aK k4<|aK k4<|aK k4<|aK k4<|ak k k<|pk k3<|am k k<|aK k4<|aK k4<|pk k3<|aT k2<|aG<|kD h k2) λq2 h=>aH 8 k q2<|aK k4<|ak k k<|pk k3<|am k k<|aK k4<|aK k4<|aK k4<|aK k4<|ak k k<|pk k3<|am k k<|aK k4<|aK k4<|pk k3<|aT k2<|aG<|kD h k2
def aBs (a0:Mt):Option Mt:=
 bif decide (([]:aA).length +a0.cells.length<=4294967296) then
 (some ((⟨a0.rows,a0.cols,(([]:aA)++a0.cells)⟩:Mt)))
 else none
theorem aKf (a0:Mt) (r:Mt) (h:aBs a0=some r):HasC Tryz.prog 244 [.agg (eM a0)] (.agg (eM r)):=by
 exact hM [.cell 2 81] Tryz.func244 Tryz.ntmps244 k<|sR<|ae (wb k) k<|ae (cB aL k k) k<|an<|tn<|sQ<|aQ fW<|fp k8<|lp k8<|fp k8<|lp k8<|ae (wl k) k<|fp k8<|lp k8<|cG h λq1 h=>ae (lO aL (l:=([]:aA)) (m:=a0.cells) jZ q1 k k k k k k k k k k k k) k<|ae (mQ aL k k k k k k) k<|ae (ws k) k<|an<|nH (by kernel_rfl)<|tn<|aG<|sp h (cA k k k (aAC (bH (k) (bH (k) (bH (gF cW k k) gI)))))
def nR (v1:Mt) (x1:(Int×aA×aA×Int)) (x2:(Int×Int)):Option ((Int×Int) ⊕ Int):=
 bif decide (x1.2.2.2<=x2.2) then
 ((cO x1.2.1 (wr ((wr (x2.2*v1.cols))+x1.1))).bind λv5=>
 bif !decide (v5=0) then
 (some (.inl (x2.2,wr (x2.2 - 1))))
 else
 (some (.inl (x2.1,wr (x2.2 - 1)))))
 else
 (some (.inr x2.1))
def rW (v1:Mt) (x1:(Int×aA×aA×Int)) (y7:Int) (x3:(aA×Int)):Option ((aA×Int) ⊕ aA):=
 bif decide (x3.2<v1.cols) then
 ((cO x3.1 (wr ((wr (x1.2.2.2*v1.cols))+x3.2))).bind λv10=>
 (cO x3.1 (wr ((wr (y7*v1.cols))+x3.2))).bind λv11=>
 (cO x3.1 (wr ((wr (x1.2.2.2*v1.cols))+x3.2))).bind λv12=>
 (cO (x3.1.set ((wr ((wr (x1.2.2.2*v1.cols))+x3.2)).toNat) v11) (wr ((wr (y7*v1.cols))+x3.2))).bind λv13=>
 some (.inl (((x3.1.set ((wr ((wr (x1.2.2.2*v1.cols))+x3.2)).toNat) v11).set ((wr ((wr (y7*v1.cols))+x3.2)).toNat) v10),wr (x3.2+1))))
 else
 (some (.inr x3.1))
def rX (a0:Int) (v1:Mt) (v16:Int) (x1:(Int×aA×aA×Int)) (x4:(aA×Int)):Option ((aA×Int) ⊕ aA):=
 bif decide (x4.2<v1.cols) then
 ((cO x4.1 (wr ((wr (x1.2.2.2*v1.cols))+x4.2))).bind λv18=>
 (kU a0 (wr (v16*v18))).bind λv19=>
 (cO x4.1 (wr ((wr (x1.2.2.2*v1.cols))+x4.2))).bind λv20=>
 some (.inl ((x4.1.set ((wr ((wr (x1.2.2.2*v1.cols))+x4.2)).toNat) v19),wr (x4.2+1))))
 else
 (some (.inr x4.1))
def nS (a0:Int) (v1:Mt) (v23:Int) (x1:(Int×aA×aA×Int)) (x5:(aA×Int)) (x6:(aA×Int)):Option ((aA×Int) ⊕ aA):=
 bif decide (x6.2<v1.cols) then
 (bif !decide (x5.2=x1.2.2.2) then
 ((cO x6.1 (wr ((wr (x5.2*v1.cols))+x6.2))).bind λv26=>
 (cO x6.1 (wr ((wr (x1.2.2.2*v1.cols))+x6.2))).bind λv27=>
 (kU a0 (wr (v26 - (wr (v23*v27))))).bind λv28=>
 (cO x6.1 (wr ((wr (x5.2*v1.cols))+x6.2))).bind λv29=>
 some (.inl ((x6.1.set ((wr ((wr (x5.2*v1.cols))+x6.2)).toNat) v28),wr (x6.2+1))))
 else
 (some (.inr x6.1)))
 else
 (some (.inr x6.1))
def rY (a0:Int) (v1:Mt) (x1:(Int×aA×aA×Int)) (x5:(aA×Int)):Option ((aA×Int) ⊕ aA):=
 bif decide (x5.2<v1.rows) then
 ((cO x5.1 (wr ((wr (x5.2*v1.cols))+x1.1))).bind λv23=>
 (Lp (nS a0 v1 v23 x1 x5) (x5.1,0)).bind λy30=>
 some (.inl (y30,wr (x5.2+1))))
 else
 (some (.inr x5.1))
def iN (a0:Int) (v1:Mt) (x1:(Int×aA×aA×Int)):Option ((Int×aA×aA×Int) ⊕ (aA×aA)):=
 bif decide (x1.1<v1.cols) then
 (bif decide (x1.2.2.2<v1.rows) then
 ((Lp (nR v1 x1) ((-1),wr (v1.rows - 1))).bind λy7=>
 bif decide (y7<0) then
 (some (.inl (wr (x1.1+1),x1.2.1,x1.2.2.1,x1.2.2.2)))
 else
 ((Lp (rW v1 x1 y7) (x1.2.1,0)).bind λy14=>
 (cO y14 (wr ((wr (x1.2.2.2*v1.cols))+x1.1))).bind λv15=>
 (tJ a0 v15).bind λv16=>
 (Lp (rX a0 v1 v16 x1) (y14,0)).bind λy21=>
 (Lp (rY a0 v1 x1) (y21,0)).bind λy31=>
 bif decide (x1.2.2.1.length+[x1.1].length <=4294967296) then
 (some (.inl (wr (x1.1+1),y31,(x1.2.2.1++[x1.1]),wr (x1.2.2.2+1))))
 else none))
 else
 (some (.inr (x1.2.1,x1.2.2.1))))
 else
 (some (.inr (x1.2.1,x1.2.2.1)))
def wA (a0:Int) (a1:Mt):Option (Mt×aA):=
 (aBs a1).bind λv1=>
 (Lp (iN a0 v1) (0,v1.cells,([]:aA),0)).bind λy33=>
 some (((⟨v1.rows,v1.cols,y33.1⟩:Mt),y33.2))
theorem aIM (a0:Int) (a1:Mt) (r:(Mt×aA)) (h:wA a0 a1=some r):HasC Tryz.prog 201 [.int a0,.agg (eM a1)] (.tuple [.agg (eM r.1),.list 1 (r.2.map eI)]):=by
 refine hM [.cell 4 81,.tmp 5] Tryz.func201 Tryz.ntmps201 k<|sR<|ae (wb k) k<|ae (cB aL k k) k<|aT k2<|sR<|lp k8<|oB h λv1 hv1 h=>ae (cM (aKf a1 v1 hv1) k3 (aX (iL k) aU)) k<|ae (cB aL k k) k<|ae (ws k) k<|an<|tn<|sR<|ae (wl k) k<|aT k2<|aN (t:=mN [(0,.int a0),(4,.ptr 1 0 0),(6,.ptr 3 0 0),(7,.own 4 0 (([]:aA).length))] [(1,⟨3,[lL]⟩),(2,⟨1,v1.cells.map (ow eI)⟩),(3,⟨3,[oMt v1 2]⟩),(4,⟨1,List.map (ow eI) ([]:aA)⟩)] 5) (bO (pP 3 k2 (mO ⟨_,k,⟨k,k,(by simp only [aO,lA,lT,lR,lC,lN]),k⟩⟩ aR)) (bS k<|cD k<|fV k<|cD k<|aR) k4)<|sR<|aT k2<|sQ<|sQ ?_;refine rg<|aT k2<|aE<|oB h λy33 hy33 h=>cH (body:=(iN a0 v1)) hy33 (λ(x1:(Int×aA×aA×Int))=>mN [(0,.int a0),(4,.ptr 0 0 0),(6,.ptr 1 0 0),(7,.own 3 0 x1.2.2.1.length),(8,.int x1.2.2.2),(9,.int x1.1)] [(0,⟨3,[lL]⟩),(1,⟨3,[[.int v1.rows,.int v1.cols,.own 2 0 x1.2.1.length]]⟩),(2,⟨1,x1.2.1.map (ow eI)⟩),(3,⟨1,x1.2.2.1.map (ow eI)⟩)] 4) (λr e t=>e= .exit 0/\Ent t (mN [(4,.ptr 0 0 0),(6,.ptr 1 0 0),(7,.own 3 0 r.2.length)] [(0,⟨3,[lL]⟩),(1,⟨3,[[.int v1.rows,.int v1.cols,.own 2 0 r.1.length]]⟩),(2,⟨1,r.1.map (ow eI)⟩),(3,⟨1,r.2.map (ow eI)⟩)] 4)) (kE [1,3,2,4] (bN k2) (bS k<|fV k<|cD k<|cD k<|aR) k4) ?_ ?_
 ·intro x1 o h;refine sQ<|sR<|am k k<|fp k8<|lp k8<|cm k4<|am k k<|kI h (λq2 h=>?_) λq2 h=>aH 26 k q2<|aK k4<|aK k4<|pk k3<|an<|tn<|fK k k<|bA<|aB<|aB<|sp h ⟨_,k,k,(bO (bN k2) (bS k<|fV k<|cD k<|cD k<|aR) k4)⟩;refine aH 26 k q2<|am k k<|fp k8<|lp k8<|cm k4<|pk k3<|an<|tn<|dC k h (λ_ h=>?_) λ_ h=>bA<|aB<|aB<|sp h ⟨_,k,k,(bO (bN k2) (bS k<|fV k<|cD k<|cD k<|aR) k4)⟩;refine aI<|tn<|sQ<|aE<|sR<|aT k2<|sQ<|sR<|fp k8<|lp k8<|ae (gK k k) k<|aT k2<|aE<|oB h λy7 hy7 h=>cH (body:=(nR v1 x1)) hy7 (λ(x2:(Int×Int))=>mN [(0,.int a0),(4,.ptr 0 0 0),(6,.ptr 1 0 0),(7,.own 3 0 x1.2.2.1.length),(8,.int x1.2.2.2),(9,.int x1.1),(10,.int x2.1),(11,.int x2.2)] [(0,⟨3,[lL]⟩),(1,⟨3,[[.int v1.rows,.int v1.cols,.own 2 0 x1.2.1.length]]⟩),(2,⟨1,x1.2.1.map (ow eI)⟩),(3,⟨1,x1.2.2.1.map (ow eI)⟩)] 4) (λr e t=>e= .exit 2/\Ent t (mN [(0,.int a0),(4,.ptr 0 0 0),(6,.ptr 1 0 0),(7,.own 3 0 x1.2.2.1.length),(8,.int x1.2.2.2),(9,.int x1.1),(10,.int r)] [(0,⟨3,[lL]⟩),(1,⟨3,[[.int v1.rows,.int v1.cols,.own 2 0 x1.2.1.length]]⟩),(2,⟨1,x1.2.1.map (ow eI)⟩),(3,⟨1,x1.2.2.1.map (ow eI)⟩)] 4)) (bO (bN k2) (bS k<|fV k<|cD k<|cD k<|aR) k4) ?_ ?_
  ·intro x2 o h;exact sQ<|sR<|am k k<|am k k<|cm k4<|an<|tn<|dC k h (λ_ h=>aI<|tn<|sQ<|aE<|sR<|fp k8<|lp k8<|am k k<|fp k8<|lp k8<|ae (gC k k) k<|am k k<|ae (bJ k k) k<|oB h λv5 hv5 h=>ae (xo hv5 k) k<|ae (wp hv5 k) k<|cm k4<|an<|tn<|dC k h (λ_ h=>rg<|am k k<|aa k k<|an<|aZ<|tn<|rg<|am k k<|ae (gK k k) k<|aT k2<|sp h ⟨_,k,(bO (bN k2) (bS k<|fV k<|cD k<|cD k<|aR) k4)⟩) λ_ h=>aI<|aZ<|tn<|rg<|am k k<|ae (gK k k) k<|aT k2<|sp h ⟨_,k,(bO (bN k2) (bS k<|fV k<|cD k<|cD k<|aR) k4)⟩) λ_ h=>bA<|aB<|aB<|sp h ⟨_,k,k,(bO (bN k2) (bS k<|fV k<|cD k<|cD k<|aR) k4)⟩
  ·rintro e t ⟨rfl,hent⟩;refine aP<|tn<|aN hent<|sQ<|sR<|am k k<|cm k4<|an<|tn<|dC k h (λ_ h=>bA<|aB<|aP<|tn<|rg<|am k k<|ae (bJ k k) k<|aT k2<|sp h ⟨_,k,(bO (bN k2) (bS k<|fV k<|cD k<|cD k<|aR) k4)⟩) λ_ h=>?_;refine aI<|tn<|sQ<|sR<|aT k2<|aE<|oB h λy14 hy14 h=>cH (body:=(rW v1 x1 y7)) hy14 (λ(x3:(aA×Int))=>mN [(0,.int a0),(4,.ptr 0 0 0),(6,.ptr 1 0 0),(7,.own 3 0 x1.2.2.1.length),(8,.int x1.2.2.2),(9,.int x1.1),(10,.int y7),(12,.int x3.2)] [(0,⟨3,[lL]⟩),(1,⟨3,[[.int v1.rows,.int v1.cols,.own 2 0 x3.1.length]]⟩),(2,⟨1,x3.1.map (ow eI)⟩),(3,⟨1,x1.2.2.1.map (ow eI)⟩)] 4) (λr e t=>e= .exit 4/\Ent t (mN [(0,.int a0),(4,.ptr 0 0 0),(6,.ptr 1 0 0),(7,.own 3 0 x1.2.2.1.length),(8,.int x1.2.2.2),(9,.int x1.1)] [(0,⟨3,[lL]⟩),(1,⟨3,[[.int v1.rows,.int v1.cols,.own 2 0 r.length]]⟩),(2,⟨1,r.map (ow eI)⟩),(3,⟨1,x1.2.2.1.map (ow eI)⟩)] 4)) (bO (bN k2) (bS k<|fV k<|cD k<|cD k<|aR) k4) ?_ ?_
   ·intro x3 o h;refine sQ<|sR<|am k k<|fp k8<|lp k8<|cm k4<|an<|tn<|dC k h (λ_ h=>?_) λ_ h=>bA<|aB<|aB<|sp h ⟨_,k,k,(bO (bN k2) (bS k<|fV k<|cD k<|cD k<|aR) k4)⟩;refine aI<|tn<|sQ<|aE<|sR<|fp k8<|lp k8<|am k k<|fp k8<|lp k8<|ae (gC k k) k<|am k k<|ae (bJ k k) k<|oB h λv10 hv10 h=>ae (xo hv10 k) k<|ae (wp hv10 k) k<|aT k2<|sQ<|aQ fW<|fp k8<|lp k8<|am k k<|fp k8<|lp k8<|ae (gC k k) k<|am k k<|ae (bJ k k) k ?_;refine fp k8<|lp k8<|am k k<|fp k8<|lp k8<|ae (gC k k) k<|am k k<|ae (bJ k k) k<|oB h λv11 hv11 h=>ae (xo hv11 k) k<|ae (wp hv11 k) k<|oB h λv12 hv12 h=>ae (xo hv12 k) k<|ae (gE aL jZ (u:=v11) (fC hv12) k k k k k k) k<|an<|nH (by kernel_rfl)<|tn<|aN (t:=mN [(0,.int a0),(4,.ptr 0 0 0),(6,.ptr 1 0 0),(7,.own 3 0 x1.2.2.1.length),(8,.int x1.2.2.2),(9,.int x1.1),(10,.int y7),(12,.int x3.2),(13,.int v10)] [(0,⟨3,[lL]⟩),(1,⟨3,[[.int v1.rows,.int v1.cols,.own 2 0 ((x3.1.set ((wr ((wr (x1.2.2.2*v1.cols))+x3.2)).toNat) v11).length)]]⟩),(2,⟨1,List.map (ow eI) (x3.1.set ((wr ((wr (x1.2.2.2*v1.cols))+x3.2)).toNat) v11)⟩),(3,⟨1,x1.2.2.1.map (ow eI)⟩)] 4) (bO (bN k2) (bS k<|hX ⟨_,k,k,.inr ⟨_,_,k,⟨_,_,k,k,⟨_,_,k,k,⟨_,_,k,⟨k,k,(by simp only [aO,lA,lT,lR,lC,lN]),k⟩,k⟩⟩⟩,k⟩⟩ k<|cD k<|cD k<|aR) k4)<|rg<|fp k8<|lp k8<|am k k<|fp k8<|lp k8<|ae (gC k k) k<|am k k<|ae (bJ k k) k<|am k k<|oB h λv13 hv13 h=>ae (xo hv13 k) k<|ae (gE aL jZ (u:=v10) (fC hv13) k k k k k k) k<|an<|aZ ?_;exact tn<|rg<|am k k<|ae (bJ k k) k<|aT k2<|sp h ⟨_,k,(bO (bN k2) (bS k<|hX ⟨_,k,k,.inr ⟨_,_,k,⟨_,_,k,k,⟨_,_,k,k,⟨_,_,k,⟨k,k,(by simp only [aO,lA,lT,lR,lC,lN]),k⟩,k⟩⟩⟩,k⟩⟩ k<|cD k<|cD k<|aR) k4)⟩
   ·rintro e t ⟨rfl,hent⟩;refine aP<|tn<|aN hent<|sR<|am k k<|fp k8<|lp k8<|am k k<|fp k8<|lp k8<|ae (gC k k) k<|am k k<|ae (bJ k k) k<|oB h λv15 hv15 h=>ae (xo hv15 k) k<|ae (wp hv15 k) k<|oB h λv16 hv16 h=>ae (aS (aFq a0 v15 v16 hv16) k (dF k (dF k aU))) k<|aT k2<|sQ<|sR<|aT k2<|aE<|oB h λy21 hy21 h=>cH (body:=(rX a0 v1 v16 x1)) hy21 (λ(x4:(aA×Int))=>mN [(0,.int a0),(4,.ptr 0 0 0),(6,.ptr 1 0 0),(7,.own 3 0 x1.2.2.1.length),(8,.int x1.2.2.2),(9,.int x1.1),(14,.int v16),(15,.int x4.2)] [(0,⟨3,[lL]⟩),(1,⟨3,[[.int v1.rows,.int v1.cols,.own 2 0 x4.1.length]]⟩),(2,⟨1,x4.1.map (ow eI)⟩),(3,⟨1,x1.2.2.1.map (ow eI)⟩)] 4) (λr e t=>e= .exit 6/\Ent t (mN [(0,.int a0),(4,.ptr 0 0 0),(6,.ptr 1 0 0),(7,.own 3 0 x1.2.2.1.length),(8,.int x1.2.2.2),(9,.int x1.1)] [(0,⟨3,[lL]⟩),(1,⟨3,[[.int v1.rows,.int v1.cols,.own 2 0 r.length]]⟩),(2,⟨1,r.map (ow eI)⟩),(3,⟨1,x1.2.2.1.map (ow eI)⟩)] 4)) (bO (bN k2) (bS k<|fV k<|cD k<|cD k<|aR) k4) ?_ ?_
    ·intro x4 o h;refine sQ<|sR<|am k k<|fp k8<|lp k8<|cm k4<|an<|tn<|dC k h (λ_ h=>?_) λ_ h=>bA<|aB<|aB<|sp h ⟨_,k,k,(bO (bN k2) (bS k<|fV k<|cD k<|cD k<|aR) k4)⟩;refine aI<|tn<|sQ<|aE<|aQ fW<|fp k8<|lp k8<|am k k<|fp k8<|lp k8<|ae (gC k k) k<|am k k<|ae (bJ k k) k<|am k k<|am k k<|fp k8<|lp k8<|am k k<|fp k8<|lp k8<|ae (gC k k) k<|am k k<|ae (bJ k k) k<|oB h λv18 hv18 h=>ae (xo hv18 k) k<|ae (wp hv18 k) k<|ae (gC k k) k<|oB h λv19 hv19 h=>ae (aS (rU a0 (wr (v16*v18)) v19 hv19) k (dF k (dF k aU))) k<|oB h λv20 hv20 h=>ae (xo hv20 k) k<|ae (gE aL jZ (u:=v19) (fC hv20) k k k k k k) k ?_;exact an<|nH (by kernel_rfl)<|aZ<|tn<|aN (t:=mN [(0,.int a0),(4,.ptr 0 0 0),(6,.ptr 1 0 0),(7,.own 3 0 x1.2.2.1.length),(8,.int x1.2.2.2),(9,.int x1.1),(14,.int v16),(15,.int x4.2)] [(0,⟨3,[lL]⟩),(1,⟨3,[[.int v1.rows,.int v1.cols,.own 2 0 ((x4.1.set ((wr ((wr (x1.2.2.2*v1.cols))+x4.2)).toNat) v19).length)]]⟩),(2,⟨1,List.map (ow eI) (x4.1.set ((wr ((wr (x1.2.2.2*v1.cols))+x4.2)).toNat) v19)⟩),(3,⟨1,x1.2.2.1.map (ow eI)⟩)] 4) (bO (bN k2) (bS k<|hX ⟨_,k,k,.inr ⟨_,_,k,⟨_,_,k,k,⟨_,_,k,k,⟨_,_,k,⟨k,k,(by simp only [aO,lA,lT,lR,lC,lN]),k⟩,k⟩⟩⟩,k⟩⟩ k<|cD k<|cD k<|aR) k4)<|rg<|am k k<|ae (bJ k k) k<|aT k2<|sp h ⟨_,k,(bO (bN k2) (bS k<|fV k<|cD k<|cD k<|aR) k4)⟩
    ·rintro e t ⟨rfl,hent⟩;refine aP<|tn<|aN hent<|sQ<|sR<|aT k2<|aE<|oB h λy31 hy31 h=>cH (body:=(rY a0 v1 x1)) hy31 (λ(x5:(aA×Int))=>mN [(0,.int a0),(4,.ptr 0 0 0),(6,.ptr 1 0 0),(7,.own 3 0 x1.2.2.1.length),(8,.int x1.2.2.2),(9,.int x1.1),(16,.int x5.2)] [(0,⟨3,[lL]⟩),(1,⟨3,[[.int v1.rows,.int v1.cols,.own 2 0 x5.1.length]]⟩),(2,⟨1,x5.1.map (ow eI)⟩),(3,⟨1,x1.2.2.1.map (ow eI)⟩)] 4) (λr e t=>e= .exit 8/\Ent t (mN [(0,.int a0),(4,.ptr 0 0 0),(6,.ptr 1 0 0),(7,.own 3 0 x1.2.2.1.length),(8,.int x1.2.2.2),(9,.int x1.1)] [(0,⟨3,[lL]⟩),(1,⟨3,[[.int v1.rows,.int v1.cols,.own 2 0 r.length]]⟩),(2,⟨1,r.map (ow eI)⟩),(3,⟨1,x1.2.2.1.map (ow eI)⟩)] 4)) (bO (bN k2) (bS k<|fV k<|cD k<|cD k<|aR) k4) ?_ ?_
     ·intro x5 o h;refine sQ<|sR<|am k k<|fp k8<|lp k8<|cm k4<|an<|tn<|dC k h (λ_ h=>?_) λ_ h=>bA<|aB<|aB<|sp h ⟨_,k,k,(bO (bN k2) (bS k<|fV k<|cD k<|cD k<|aR) k4)⟩;refine aI<|tn<|sQ<|aE<|sR<|fp k8<|lp k8<|am k k<|fp k8<|lp k8<|ae (gC k k) k<|am k k<|ae (bJ k k) k<|oB h λv23 hv23 h=>ae (xo hv23 k) k<|ae (wp hv23 k) k<|aT k2<|sR<|aT k2<|aE<|oB h λy30 hy30 h=>cH (body:=(nS a0 v1 v23 x1 x5)) hy30 (λ(x6:(aA×Int))=>mN [(0,.int a0),(4,.ptr 0 0 0),(6,.ptr 1 0 0),(7,.own 3 0 x1.2.2.1.length),(8,.int x1.2.2.2),(9,.int x1.1),(16,.int x5.2),(17,.int v23),(18,.int x6.2)] [(0,⟨3,[lL]⟩),(1,⟨3,[[.int v1.rows,.int v1.cols,.own 2 0 x6.1.length]]⟩),(2,⟨1,x6.1.map (ow eI)⟩),(3,⟨1,x1.2.2.1.map (ow eI)⟩)] 4) (λr e t=>e= .exit 10/\Ent t (mN [(0,.int a0),(4,.ptr 0 0 0),(6,.ptr 1 0 0),(7,.own 3 0 x1.2.2.1.length),(8,.int x1.2.2.2),(9,.int x1.1),(16,.int x5.2)] [(0,⟨3,[lL]⟩),(1,⟨3,[[.int v1.rows,.int v1.cols,.own 2 0 r.length]]⟩),(2,⟨1,r.map (ow eI)⟩),(3,⟨1,x1.2.2.1.map (ow eI)⟩)] 4)) (bO (bN k2) (bS k<|fV k<|cD k<|cD k<|aR) k4) ?_ ?_
      ·intro x6 o h;refine sQ<|sR<|am k k<|fp k8<|lp k8<|cm k4<|am k k<|kI h (λq24 h=>?_) λq24 h=>aH 162 k q24<|aK k4<|ak k k<|pk k3<|an<|tn<|fK k k<|bA<|aB<|aB<|sp h ⟨_,k,k,(bO (bN k2) (bS k<|fV k<|cD k<|cD k<|aR) k4)⟩;refine aH 162 k q24<|am k k<|am k k<|cm k4<|pk k3<|an<|tn<|dC k h (λ_ h=>?_) λ_ h=>bA<|aB<|aB<|sp h ⟨_,k,k,(bO (bN k2) (bS k<|fV k<|cD k<|cD k<|aR) k4)⟩;refine aI<|tn<|sQ<|aE<|aQ fW<|fp k8<|lp k8<|am k k<|fp k8<|lp k8<|ae (gC k k) k<|am k k<|ae (bJ k k) k<|am k k<|fp k8<|lp k8<|am k k<|fp k8<|lp k8<|ae (gC k k) k<|am k k<|ae (bJ k k) k<|oB h λv26 hv26 h=>ae (xo hv26 k) k<|ae (wp hv26 k) k<|am k k<|fp k8<|lp k8<|am k k<|fp k8 ?_;exact lp k8<|ae (gC k k) k<|am k k<|ae (bJ k k) k<|oB h λv27 hv27 h=>ae (xo hv27 k) k<|ae (wp hv27 k) k<|ae (gC k k) k<|ae (gK k k) k<|oB h λv28 hv28 h=>ae (aS (rU a0 (wr (v26 - (wr (v23*v27)))) v28 hv28) k (dF k (dF k aU))) k<|oB h λv29 hv29 h=>ae (xo hv29 k) k<|ae (gE aL jZ (u:=v28) (fC hv29) k k k k k k) k<|an<|nH (by kernel_rfl)<|aZ<|tn<|aN (t:=mN [(0,.int a0),(4,.ptr 0 0 0),(6,.ptr 1 0 0),(7,.own 3 0 x1.2.2.1.length),(8,.int x1.2.2.2),(9,.int x1.1),(16,.int x5.2),(17,.int v23),(18,.int x6.2)] [(0,⟨3,[lL]⟩),(1,⟨3,[[.int v1.rows,.int v1.cols,.own 2 0 ((x6.1.set ((wr ((wr (x5.2*v1.cols))+x6.2)).toNat) v28).length)]]⟩),(2,⟨1,List.map (ow eI) (x6.1.set ((wr ((wr (x5.2*v1.cols))+x6.2)).toNat) v28)⟩),(3,⟨1,x1.2.2.1.map (ow eI)⟩)] 4) (bO (bN k2) (bS k<|hX ⟨_,k,k,.inr ⟨_,_,k,⟨_,_,k,k,⟨_,_,k,k,⟨_,_,k,⟨k,k,(by simp only [aO,lA,lT,lR,lC,lN]),k⟩,k⟩⟩⟩,k⟩⟩ k<|cD k<|cD k<|aR) k4)<|rg<|am k k<|ae (bJ k k) k<|aT k2<|sp h ⟨_,k,(bO (bN k2) (bS k<|fV k<|cD k<|cD k<|aR) k4)⟩
      ·rintro e t ⟨rfl,hent⟩;exact aP<|aZ<|tn<|aN hent<|rg<|am k k<|ae (bJ k k) k<|aT k2<|sp h ⟨_,k,(bO (bN k2) (bS k<|fV k<|cD k<|cD k<|aR) k4)⟩
     ·rintro e t ⟨rfl,hent⟩;exact aP<|tn<|aN hent<|sR<|am k k<|am k k<|ae (wl k) k<|cG h λq32 h=>ae (lO aL (l:=x1.2.2.1) (m:=[x1.1]) jZ q32 k k k k k k k k k k k k) k<|aT k2<|rg<|am k k<|ae (bJ k k) k<|aa k k<|an<|aZ<|tn<|rg<|am k k<|ae (bJ k k) k<|aT k2<|sp h ⟨_,k,(kE [0,1,2,5] (bN k2) (bS k<|fV k<|cD k<|cD k<|aR) k4)⟩
 ·rintro e t ⟨rfl,hent⟩;exact aP<|tn<|aN hent<|sR<|lp k8<|am k k<|ae (ws k) k<|aT k2<|aG<|sp h (cA k k k (dW k (cI (mD (bH (k) (bH (k) (bH (gF cW k k) gI)))) (cI (yO (gF cW k k)) gQ))))
def uJ (a0:Int) (a1:Int):Option Int:=
 (nO a0).bind λv1=>
 bif !v1 then
 (some (0))
 else
 (bif !decide (a0=0) then
 (bif !decide (a0=0) then
 (some ((wr ((a1.tmod a0)+a0)).tmod a0))
 else none)
 else none)
theorem aGx (a0:Int) (a1:Int) (r:Int) (h:uJ a0 a1=some r):HasC Tryz.prog 278 [.int a0,.int a1] (.int r):=by
 exact hM [.tmp 4] Tryz.func278 Tryz.ntmps278 k<|sR<|aT k2<|sQ<|sR<|am k k<|oB h λv1 hv1 h=>ae (aS (tX a0 v1 hv1) k (dF k aU)) k<|ae (fB k) k<|an<|tn<|dC k h (λ_ h=>sR<|aT k2<|aG<|aM<|xQ h k2) λ_ h=>aI<|tn<|sR<|am k k<|am k k<|cG h λq4 h=>ae (aDg k k q4) k<|am k k<|ae (bJ k k) k<|am k k<|cG h λq3 h=>ae (aDg k k q3) k<|aT k2<|aG<|xQ h k2
def rZ (a0:Int) (a1:Int) (a2:Int) (x1:(Int×Int)):Option ((Int×Int) ⊕ Int):=
 bif decide (x1.2<a2) then
 ((uJ a0 a1).bind λv6=>
 bif !decide (a0=0) then
 (some (.inl ((wr (x1.1*v6)).tmod a0,wr (x1.2+1))))
 else none)
 else
 (some (.inr x1.1))
def wB (a0:Int) (a1:Int) (a2:Int):Option Int:=
 (nO a0).bind λv1=>
 bif !v1 then
 (some (0))
 else
 ((pM a2 0 1000).bind λv3=>
 bif !v3 then
 (some (0))
 else
 ((Lp (rZ a0 a1 a2) (1,0)).bind λy8=>
 some (y8)))
theorem aIN (a0:Int) (a1:Int) (a2:Int) (r:Int) (h:wB a0 a1 a2=some r):HasC Tryz.prog 268 [.int a0,.int a1,.int a2] (.int r):=by
 refine hM [.tmp 6] Tryz.func268 Tryz.ntmps268 k<|sR<|aT k2<|sQ<|sR<|am k k<|oB h λv1 hv1 h=>ae (aS (tX a0 v1 hv1) k (dF k aU)) k<|ae (fB k) k<|am k k<|kI h (λq2 h=>aH 11 k q2<|aK k4<|ak k k<|pk k3<|an<|tn<|dO k k<|sR<|aT k2<|aG<|aM<|xQ h k2) λq2 h=>?_;refine aH 11 k q2<|am k k<|oB h λv3 hv3 h=>ae (aS (vK a2 0 1000 v3 hv3) k (dF k (dF k (dF k aU)))) k<|ae (fB k) k<|pk k3<|an<|tn<|dC k h (λ_ h=>sR<|aT k2<|aG<|aM<|xQ h k2) λ_ h=>?_;refine aI<|tn<|sR<|aT k2<|sQ<|sR<|am k k<|am k k<|an<|tn<|aE<|oB h λy8 hy8 h=>cH (body:=(rZ a0 a1 a2)) hy8 (λ(x1:(Int×Int))=>mN [(0,.int a0),(1,.int a1),(7,.int x1.1),(16,.int a2),(17,.int x1.2)] [] 0) (λr e t=>e= .exit 0/\Ent t (mN [(7,.int r)] [] 0)) (bO (bN k2) aR k4) ?_ ?_
 ·intro x1 o h;exact sR<|cm k4<|an<|tn<|sQ<|dC k h (λ_ h=>aI<|tn<|sQ<|aE<|rg<|am k k<|am k k<|am k k<|oB h λv6 hv6 h=>ae (aS (aGx a0 a1 v6 hv6) k (dF k (dF k aU))) k<|ae (gC k k) k<|am k k<|cG h λq7 h=>ae (aDg k k q7) k<|aa k k<|an<|aZ<|tn<|rg<|ae (bJ k k) k<|am k k<|an<|tn<|sp h ⟨_,k,(bO (bN k2) aR k4)⟩) λ_ h=>bA<|aB<|aB<|sp h ⟨_,k,k,(bO (bN k2) aR k4)⟩
 ·rintro e t ⟨rfl,hent⟩;exact aP<|tn<|aN hent<|sR<|am k k<|aT k2<|aG<|xQ h k2
def tK (a0:Int) (a1:Int):Option Int:=
 (nO a0).bind λv1=>
 bif !v1 then
 (some (0))
 else
 ((wB a0 a1 (max (wr (a0 - 2)) 1)).bind λv3=>
 some (v3))
theorem aFr (a0:Int) (a1:Int) (r:Int) (h:tK a0 a1=some r):HasC Tryz.prog 257 [.int a0,.int a1] (.int r):=by
 exact hM [.tmp 4] Tryz.func257 Tryz.ntmps257 k<|sR<|aT k2<|sQ<|sR<|am k k<|oB h λv1 hv1 h=>ae (aS (tX a0 v1 hv1) k (dF k aU)) k<|ae (fB k) k<|an<|tn<|dC k h (λ_ h=>sR<|aT k2<|aG<|aM<|xQ h k2) λ_ h=>aI<|tn<|sR<|am k k<|am k k<|am k k<|ae (gK k k) k<|ae (aOE k k) k<|oB h λv3 hv3 h=>ae (aS (aIN a0 a1 (max (wr (a0 - 2)) 1) v3 hv3) k (dF k (dF k (dF k aU)))) k<|aT k2<|aG<|xQ h k2
def lW (a1:aA) (x1:(Int×Int)):Option ((Int×Int) ⊕ (Int ⊕ Bool)):=
 bif decide (x1.2<(a1.length:Int)) then
 ((cO a1 x1.2).bind λv5=>
 (lB v5 0 4).bind λv6=>
 bif !v6 then
 (some (.inr (.inr (false))))
 else
 ((cO a1 x1.2).bind λv8=>
 some (.inl (wr (x1.1+v8),wr (x1.2+1)))))
 else
 (some (.inr (.inl x1.1)))
def lD (a0:Qv) (a1:aA):Option Bool:=
 (fS a0).bind λv1=>
 bif !v1 then
 (some (false))
 else
 (bif !decide ((a1.length:Int)=a0.n) then
 (some (false))
 else
 ((Lp (lW a1) (0,0)).bind λy9=>
 Sum.elim (λy10=>
 some (decide (y10<=8))
 )
 (λy11=>
 some y11
 )
 y9))
theorem xS (a0:Qv) (a1:aA) (r:Bool) (h:lD a0 a1=some r):HasC Tryz.prog 31 [.agg (eQ a0),.list 1 (a1.map eI)] (.bl r):=by
 refine hM [.tmp 4] Tryz.func31 Tryz.ntmps31 k<|sR<|ae (wb k) k<|aT k2<|sQ<|sR<|lp k8<|oB h λv1 hv1 h=>ae (aS (oM a0 v1 hv1) k (aX (iL k) aU)) k<|ae (fB k) k<|am k k<|kI h (λq2 h=>aH 10 k q2<|aK k4<|aK k4<|ak k k<|pk k3<|an<|tn<|dO k k<|sR<|aT k2<|aG<|aM<|kD h k2) λq2 h=>?_;refine aH 10 k q2<|am k k<|ln k4<|fp k8<|lp k8<|cm k4<|pk k3<|an<|tn<|dC k h (λ_ h=>sR<|aT k2<|aG<|aM<|kD h k2) λ_ h=>?_;refine aI<|tn<|sR<|aT k2<|sQ<|sR<|aT k2<|aE<|oB h λy9 hy9 h=>cH (body:=(lW a1)) hy9 (λ(x1:(Int×Int))=>mN [(1,.list 1 (a1.map eI)),(5,.int x1.1),(6,.int x1.2)] [] 0) (λr e t=>Sum.elim (λa=>(λr e t=>e= .exit 0/\Ent t (mN [(5,.int r)] [] 0)) a e t) (λb=>(λr e t=>e= .ret/\uI TT [.tmp 4] (.bl r) .ret t) b e t) r) (bO (bN k2) aR k4) ?_ ?_
 ·intro x1 o h;exact sQ<|sR<|am k k<|am k k<|ln k4<|cm k4<|an<|tn<|dC k h (λ_ h=>aI<|tn<|sQ<|aE<|sQ<|sR<|am k k<|am k k<|oB h λv5 hv5 h=>ae (xl hv5 k) k<|lr k7<|oB h λv6 hv6 h=>ae (aS (rK v5 0 4 v6 hv6) k (dF k (dF k (dF k aU)))) k<|ae (fB k) k<|an<|tn<|dC k h (λ_ h=>sR<|aT k2<|aG<|aM<|bX<|aM<|aM<|sp h ⟨_,k,k,cA k k k (qM k)⟩) λ_ h=>aI<|tn<|rg<|am k k<|am k k<|am k k<|oB h λv8 hv8 h=>ae (xl hv8 k) k<|lr k7<|ae (bJ k k) k<|aa k k<|an<|aZ<|tn<|rg<|am k k<|ae (bJ k k) k<|aT k2<|sp h ⟨_,k,(bO (bN k2) aR k4)⟩) λ_ h=>bA<|aB<|aB<|sp h ⟨_,k,k,(bO (bN k2) aR k4)⟩
 ·intro e t hX;rcases y9 with y10|y11
  ·obtain ⟨rfl,hent⟩:=hX;exact aP<|tn<|aN hent<|sR<|am k k<|cm k4<|aT k2<|aG<|kD h k2
  ·obtain ⟨rfl,hent⟩:=hX;exact bX<|aM<|sp h hent
def wC (a0:Rp) (x1:Int):Option (Int ⊕ (Unit ⊕ Bool)):=
 bif decide (x1<(a0.maps.length:Int)) then
 ((cO a0.maps x1).bind λv7=>
 (vZ a0.p v7).bind λv8=>
 bif !v8 then
 (some (.inr (.inr (false))))
 else
 ((cO a0.maps x1).bind λv10=>
 (cO a0.q.src x1).bind λv11=>
 (cO a0.dims v11).bind λv12=>
 bif !decide (v10.cols=v12) then
 (some (.inr (.inr (false))))
 else
 ((cO a0.maps x1).bind λv14=>
 (cO a0.q.tgt x1).bind λv15=>
 (cO a0.dims v15).bind λv16=>
 bif !decide (v14.rows=v16) then
 (some (.inr (.inr (false))))
 else
 (some (.inl (wr (x1+1)))))))
 else
 (some (.inr (.inl ())))
def xT (a0:Rp):Option Bool:=
 (qR a0.p).bind λv1=>
 bif !v1 then
 (some (false))
 else
 ((lD a0.q a0.dims).bind λv3=>
 bif !v3 then
 (some (false))
 else
 (bif !decide ((a0.maps.length:Int)=(a0.q.src.length:Int)) then
 (some (false))
 else
 ((Lp (wC a0) 0).bind λy18=>
 Sum.elim (λy19=>
 some (true)
 )
 (λy20=>
 some y20
 )
 y18)))
theorem aFs (a0:Rp) (r:Bool) (h:xT a0=some r):HasC Tryz.prog 139 [.agg (eR a0)] (.bl r):=by
 refine hM [.tmp 2] Tryz.func139 Tryz.ntmps139 k<|sR<|ae (wb k) k<|aT k2<|sQ<|sR<|fp k8<|lp k8<|oB h λv1 hv1 h=>ae (aS (xR a0.p v1 hv1) k (dF k aU)) k<|ae (fB k) k<|am k k<|kI h (λq2 h=>aH 8 k q2<|aK k4<|aK k4<|aK k4<|pk k3<|am k k<|aK k4<|aK k4<|aK k4<|aK k4<|pk k3<|an<|tn<|aN (t:=mN [(1,.ptr 0 0 0),(25,.bl true)] [(0,⟨6,[eR a0]⟩)] 1) (bO (bN k2) (bS k<|aR) k4)<|dO k k<|sR<|aT k2<|aG<|aM<|kD h k2) λq2 h=>?_;refine aH 8 k q2<|fp k8<|lp k8<|fp k8<|lp k8<|oB h λv3 hv3 h=>ae (aS (xS a0.q a0.dims v3 hv3) k (aX (iL k) (dF k aU))) k<|ae (fB k) k<|pk k3<|am k k<|kI h (λq4 h=>aH 16 k q4<|aK k4<|aK k4<|aK k4<|aK k4<|pk k3<|an<|tn<|aN (t:=mN [(1,.ptr 0 0 0),(25,.bl true)] [(0,⟨6,[eR a0]⟩)] 1) (bO (bN k2) (bS k<|aR) k4)<|dO k k<|sR<|aT k2<|aG<|aM<|kD h k2) λq4 h=>?_;refine aH 16 k q4<|fp k8<|lp k8<|ln k4<|fp k8<|fp k8<|lp k8<|ln k4<|cm k4<|pk k3<|an<|tn<|aN (t:=mN [(1,.ptr 0 0 0),(25,.bl (!decide ((a0.maps.length:Int)=(a0.q.src.length:Int))))] [(0,⟨6,[eR a0]⟩)] 1) (bO (bN k2) (bS k<|aR) k4)<|dC k h (λ_ h=>sR<|aT k2<|aG<|aM<|kD h k2) λ_ h=>?_;refine aI<|tn<|sQ<|sR<|aT k2<|aE<|oB h λy18 hy18 h=>cH (body:=(wC a0)) hy18 (λ(x1:Int)=>mN [(1,.ptr 0 0 0),(3,.int x1)] [(0,⟨6,[eR a0]⟩)] 1) (λr e t=>Sum.elim (λa=>(λr e t=>e= .exit 0/\Ent t (mN [] [] 0)) a e t) (λb=>(λr e t=>e= .ret/\uI TT [.tmp 2] (.bl r) .ret t) b e t) r) (bO (bN k2) (bS k<|aR) k4) ?_ ?_
 ·intro x1 o h;refine sQ<|sR<|am k k<|fp k8<|lp k8<|ln k4<|cm k4<|an<|tn<|dC k h (λ_ h=>?_) λ_ h=>bA<|aB<|aB<|sp h ⟨_,k,k,(bO aR aR k4)⟩;refine aI<|tn<|sQ<|aE<|sQ<|aQ fW<|fp k8<|lp k8<|fp k8<|lp k8<|am k k<|oB h λv7 hv7 h=>ae (xl hv7 k) k<|lr k7<|oB h λv8 hv8 h=>ae (aS (aIL a0.p v7 v8 hv8) k (dF k (aX (iL k) aU))) k<|ae (fB k) k<|am k k<|kI h (λq9 h=>?_) λq9 h=>?_
  ·refine aH 42 k q9<|aK k4<|aK k4<|aK k4<|aK k4<|aK k4<|aK k4<|aK k4<|aK k4<|ak k k<|pk k3<|am k k<|aK k4<|aK k4<|aK k4<|aK k4<|aK k4 ?_;exact aK k4<|aK k4<|aK k4<|ak k k<|pk k3<|an<|nH (by kernel_rfl)<|tn<|aN (t:=mN [(1,.ptr 0 0 0),(3,.int x1),(79,.bl true)] [(0,⟨6,[eR a0]⟩)] 1) (bO (bN k2) (bS k<|aR) k4)<|dO k k<|sR<|aT k2<|aG<|bX<|aM<|aM<|sp h ⟨_,k,k,cA k k k (qM k)⟩
  ·refine aH 42 k q9<|fp k8<|lp k8<|am k k<|oB h λv10 hv10 h=>ae (xl hv10 k) k<|ae (zN aL k k k k k k) k<|lr k7<|fp k8<|lp k8<|fp k8<|fp k8<|lp k8<|am k k<|oB h λv11 hv11 h=>ae (xl hv11 k) k<|lr k7<|oB h λv12 hv12 h=>ae (xl hv12 k) k<|lr k7<|cm k4<|pk k3<|am k k<|kI h (λq13 h=>?_) λq13 h=>aH 61 k q13<|fp k8<|lp k8<|am k k<|oB h λv14 hv14 h=>ae (xl hv14 k) k<|ae (zN aL k k k k k k) k<|lr k7<|fp k8<|lp k8<|fp k8<|fp k8<|lp k8<|am k k<|oB h λv15 hv15 h=>ae (xl hv15 k) k<|lr k7<|oB h λv16 hv16 h=>ae (xl hv16 k) k<|lr k7<|cm k4<|pk k3<|an<|nH (by kernel_rfl)<|tn<|aN (t:=mN [(1,.ptr 0 0 0),(3,.int x1),(79,.bl (!decide (v14.rows=v16)))] [(0,⟨6,[eR a0]⟩)] 1) (bO (bN k2) (bS k<|aR) k4)<|dC k h (λ_ h=>sR<|aT k2<|aG<|bX<|aM<|aM<|sp h ⟨_,k,k,cA k k k (qM k)⟩) λ_ h=>aI<|aZ<|tn<|rg<|am k k<|ae (bJ k k) k<|aT k2<|sp h ⟨_,k,(bO (bN k2) (bS k<|aR) k4)⟩;refine aH 61 k q13<|aK k4<|aK k4<|aK k4<|aK k4<|aK k4<|aK k4<|aK k4<|aK k4<|ak k k<|pk k3<|an<|nH (by kernel_rfl)<|tn<|aN (t:=mN [(1,.ptr 0 0 0),(3,.int x1),(79,.bl true)] [(0,⟨6,[eR a0]⟩)] 1) (bO (bN k2) (bS k<|aR) k4)<|dO k k<|sR<|aT k2<|aG ?_;exact bX<|aM<|aM<|sp h ⟨_,k,k,cA k k k (qM k)⟩
 ·intro e t hX;rcases y18 with y19|y20
  ·obtain ⟨rfl,hent⟩:=hX;exact aP<|tn<|aN hent<|sR<|aT k2<|aG<|kD h k2
  ·obtain ⟨rfl,hent⟩:=hX;exact bX<|aM<|sp h hent
def pT (a0:Qv) (a1:Qv):Option Bool:=
 bif decide (a0.n=a1.n) then
 ((tB a0.src a1.src).bind λv2=>
 bif v2 then
 ((tB a0.tgt a1.tgt).bind λv4=>
 some (v4))
 else
 (some (false)))
 else
 (some (false))
theorem aEh (a0:Qv) (a1:Qv) (r:Bool) (h:pT a0 a1=some r):HasC Tryz.prog 51 [.agg (eQ a0),.agg (eQ a1)] (.bl r):=by
 exact hM [.tmp 4] Tryz.func51 Tryz.ntmps51 k<|sR<|ae (wb k) k<|ae (wb k) k<|aT k2<|sR<|fp k8<|lp k8<|fp k8<|lp k8<|cm k4<|am k k<|kI h (λq1 h=>aH 10 k q1<|fp k8<|lp k8<|fp k8<|lp k8<|oB h λv2 hv2 h=>ae (aS (zC a0.src a1.src v2 hv2) k (dF k (dF k aU))) k<|pk k3<|am k k<|kI h (λq3 h=>aH 17 k q3<|fp k8<|lp k8<|fp k8<|lp k8<|oB h λv4 hv4 h=>ae (aS (zC a0.tgt a1.tgt v4 hv4) k (dF k (dF k aU))) k<|pk k3<|aT k2<|aG<|kD h k2) λq3 h=>aH 17 k q3<|aK k4<|aK k4<|ak k k<|pk k3<|aT k2<|aG<|kD h k2) λq1 h=>aH 10 k q1<|aK k4<|aK k4<|ak k k<|pk k3<|am k k<|aK k4<|aK k4<|ak k k<|pk k3<|aT k2<|aG<|kD h k2
def pU (a0:Qv) (a1:Qv):Option Bool:=
 bif decide (a0.n=a1.n) then
 ((gT a0.src a1.src).bind λv2=>
 bif v2 then
 ((gT a0.tgt a1.tgt).bind λv4=>
 some (v4))
 else
 (some (false)))
 else
 (some (false))
theorem aEi (a0:Qv) (a1:Qv) (r:Bool) (h:pU a0 a1=some r):HasC Tryz.prog 125 [.agg (eQ a0),.agg (eQ a1)] (.bl r):=by
 exact hM [.tmp 4] Tryz.func125 Tryz.ntmps125 k<|sR<|ae (wb k) k<|ae (wb k) k<|aT k2<|sR<|fp k8<|lp k8<|fp k8<|lp k8<|cm k4<|am k k<|kI h (λq1 h=>aH 10 k q1<|fp k8<|lp k8<|fp k8<|lp k8<|oB h λv2 hv2 h=>ae (aS (lS a0.src a1.src v2 hv2) k (dF k (dF k aU))) k<|pk k3<|am k k<|kI h (λq3 h=>aH 17 k q3<|fp k8<|lp k8<|fp k8<|lp k8<|oB h λv4 hv4 h=>ae (aS (lS a0.tgt a1.tgt v4 hv4) k (dF k (dF k aU))) k<|pk k3<|aT k2<|aG<|kD h k2) λq3 h=>aH 17 k q3<|aK k4<|aK k4<|ak k k<|pk k3<|aT k2<|aG<|kD h k2) λq1 h=>aH 10 k q1<|aK k4<|aK k4<|ak k k<|pk k3<|am k k<|aK k4<|aK k4<|ak k k<|pk k3<|aT k2<|aG<|kD h k2
def aAe (a0:Rp) (a1:Rp):Option Bool:=
 (xT a0).bind λv1=>
 bif v1 then
 ((xT a1).bind λv3=>
 bif v3 then
 (bif decide (a0.p=a1.p) then
 ((pT a0.q a1.q).bind λv6=>
 some (v6))
 else
 (some (false)))
 else
 (some (false)))
 else
 (some (false))
theorem aMj (a0:Rp) (a1:Rp) (r:Bool) (h:aAe a0 a1=some r):HasC Tryz.prog 217 [.agg (eR a0),.agg (eR a1)] (.bl r):=by
 exact hM [.tmp 4] Tryz.func217 Tryz.ntmps217 k<|sR<|ae (wb k) k<|ae (wb k) k<|aT k2<|sR<|lp k8<|oB h λv1 hv1 h=>ae (aS (aFs a0 v1 hv1) k (aX (iL k) aU)) k<|am k k<|kI h (λq2 h=>aH 7 k q2<|lp k8<|oB h λv3 hv3 h=>ae (aS (aFs a1 v3 hv3) k (aX (iL k) aU)) k<|pk k3<|am k k<|kI h (λq4 h=>aH 11 k q4<|fp k8<|lp k8<|fp k8<|lp k8<|cm k4<|pk k3<|am k k<|kI h (λq5 h=>aH 18 k q5<|fp k8<|lp k8<|fp k8<|lp k8<|oB h λv6 hv6 h=>ae (aS (aEh a0.q a1.q v6 hv6) k (aX (iL k) (aX (iL k) aU))) k<|pk k3<|aT k2<|aG<|kD h k2) λq5 h=>aH 18 k q5<|aK k4<|aK k4<|ak k k<|pk k3<|aT k2<|aG<|kD h k2) λq4 h=>aH 11 k q4<|aK k4<|aK k4<|ak k k<|pk k3<|am k k<|aK k4<|aK k4<|ak k k<|pk k3<|aT k2<|aG<|kD h k2) λq2 h=>aH 7 k q2<|aK k4<|pk k3<|am k k<|aK k4<|aK k4<|ak k k<|pk k3<|am k k<|aK k4<|aK k4<|ak k k<|pk k3<|aT k2<|aG<|kD h k2
def dD (a0:aA) (a1:(Int->Option Bool)) (x1:Int):Option (Int ⊕ (Unit ⊕ Int)):=
 bif decide (x1<(a0.length:Int)) then
 ((cO a0 x1).bind λv2=>
 (a1 v2).bind λv3=>
 bif v3 then
 (some (.inr (.inr (x1))))
 else
 (some (.inl (wr (x1+1)))))
 else
 (some (.inr (.inl ())))
def fN (a0:aA) (a1:(Int->Option Bool)):Option Int:=
 (Lp (dD a0 a1) 0).bind λy5=>
 Sum.elim (λy6=>
 some ((-1))
 )
 (λy7=>
 some y7
 )
 y5
theorem aAf (a0:aA) (a1:(Int->Option Bool)) {f1:FuncId} {c1:List AV} (hc1:c1.all fI=true) (hf1: ∀ b0 r,a1 b0=some r->HasC Tryz.prog f1 ([.int b0]++c1) (.bl r)) (r:Int) (h:fN a0 a1=some r):HasC Tryz.prog 170 [.list 1 (a0.map eI),.fn f1 c1] (.int r):=by
 refine aBY aL (rvs:=[.tmp 4]) (ns:=nmA) Tryz.func170 k k Tryz.ntmps170 k k (aBd k (aBd hc1 aMg))<|sR<|aT k2<|sQ<|sR<|am k k<|ln k4<|am k k<|an<|tn<|aE<|oB h λy5 hy5 h=>cH (body:=(dD a0 a1)) hy5 (λ(x1:Int)=>mN [(0,.list 1 (a0.map eI)),(1,.fn f1 c1),(7,.int (a0.length:Int)),(8,.int x1)] [] 0) (λr e t=>Sum.elim (λa=>(λr e t=>e= .exit 0/\Ent t (mN [] [] 0)) a e t) (λb=>(λr e t=>e= .ret/\uI TT [.tmp 4] (.int r) .ret t) b e t) r) (bO (pP 1 k2 (mO ⟨_,k,⟨k,aEP _ hc1⟩⟩ (bN k2))) aR k4) ?_ ?_
 ·intro x1 o h;exact sR<|cm k4<|an<|tn<|sQ<|dC k h (λ_ h=>aI<|tn<|sQ<|aE<|sR<|am k k<|aT k2<|sR<|am k k<|am k k<|am k k<|oB h λv2 hv2 h=>ae (xl hv2 k) k<|lr k7<|oB h λv3 hv3 h=>ae (aMX hc1 (hf1 v2 v3 hv3) k k (dF k aU)) k<|an<|tn<|dC k h (λ_ h=>sR<|am k k<|aT k2<|aG<|bX<|aM<|aM<|sp h ⟨_,k,k,cA k k k (aGj k)⟩) λ_ h=>aI<|aZ<|tn<|rg<|ae (bJ k k) k<|am k k<|an<|tn<|sp h ⟨_,k,(bO (pP 1 k2 (mO ⟨_,k,⟨k,aEP _ hc1⟩⟩ (bN k2))) aR k4)⟩) λ_ h=>bA<|aB<|aB<|sp h ⟨_,k,k,(bO aR aR k4)⟩
 ·intro e t hX;rcases y5 with y6|y7
  ·obtain ⟨rfl,hent⟩:=hX;exact aP<|tn<|aN hent<|sR<|aT k2<|aG<|xQ h k2
  ·obtain ⟨rfl,hent⟩:=hX;exact bX<|aM<|sp h hent
def cJ (a0:aA) (a1:(Int->Option Bool)):Option Bool:=
 (fN a0 a1).bind λv1=>
 some (decide (0<=v1))
theorem iB (a0:aA) (a1:(Int->Option Bool)) {f1:FuncId} {c1:List AV} (hc1:c1.all fI=true) (hf1: ∀ b0 r,a1 b0=some r->HasC Tryz.prog f1 ([.int b0]++c1) (.bl r)) (r:Bool) (h:cJ a0 a1=some r):HasC Tryz.prog 88 [.list 1 (a0.map eI),.fn f1 c1] (.bl r):=by
 exact aBY aL (rvs:=[.tmp 4]) (ns:=nmA) Tryz.func88 k k Tryz.ntmps88 k k (aBd k (aBd hc1 aMg))<|sR<|aT k2<|sR<|am k k<|am k k<|oB h λv1 hv1 h=>ae (aS (aAf a0 a1 hc1 hf1 v1 hv1) k (dF k (aX (aTv hc1) aU))) k<|cm k4<|aT k2<|aG<|kD h k2
def gL (a0:aD) (a1:(aA->Option Bool)) (x1:Int):Option (Int ⊕ (Unit ⊕ Int)):=
 bif decide (x1<(a0.length:Int)) then
 ((cO a0 x1).bind λv2=>
 (a1 v2).bind λv3=>
 bif v3 then
 (some (.inr (.inr (x1))))
 else
 (some (.inl (wr (x1+1)))))
 else
 (some (.inr (.inl ())))
def fX (a0:aD) (a1:(aA->Option Bool)):Option Int:=
 (Lp (gL a0 a1) 0).bind λy5=>
 Sum.elim (λy6=>
 some ((-1))
 )
 (λy7=>
 some y7
 )
 y5
theorem rL (a0:aD) (a1:(aA->Option Bool)) {f1:FuncId} {c1:List AV} (hc1:c1.all fI=true) (hf1: ∀ b0 r,a1 b0=some r->HasC Tryz.prog f1 ([.list 1 (b0.map eI)]++c1) (.bl r)) (r:Int) (h:fX a0 a1=some r):HasC Tryz.prog 144 [.list 1 (a0.map (bU 1 eI)),.fn f1 c1] (.int r):=by
 refine aBY aL (rvs:=[.tmp 4]) (ns:=nmA) Tryz.func144 k k Tryz.ntmps144 k k (aBd k (aBd hc1 aMg))<|sR<|aT k2<|sQ<|sR<|am k k<|ln k4<|am k k<|an<|tn<|aE<|oB h λy5 hy5 h=>cH (body:=(gL a0 a1)) hy5 (λ(x1:Int)=>mN [(0,.list 1 (a0.map (bU 1 eI))),(1,.fn f1 c1),(7,.int (a0.length:Int)),(8,.int x1)] [] 0) (λr e t=>Sum.elim (λa=>(λr e t=>e= .exit 0/\Ent t (mN [] [] 0)) a e t) (λb=>(λr e t=>e= .ret/\uI TT [.tmp 4] (.int r) .ret t) b e t) r) (bO (pP 1 k2 (mO ⟨_,k,⟨k,aEP _ hc1⟩⟩ (bN k2))) aR k4) ?_ ?_
 ·intro x1 o h;exact sR<|cm k4<|an<|tn<|sQ<|dC k h (λ_ h=>aI<|tn<|sQ<|aE<|sR<|am k k<|aT k2<|sR<|am k k<|am k k<|am k k<|oB h λv2 hv2 h=>ae (xl hv2 k) k<|lr k7<|oB h λv3 hv3 h=>ae (aMX hc1 (hf1 v2 v3 hv3) k k (dF k aU)) k<|an<|tn<|dC k h (λ_ h=>sR<|am k k<|aT k2<|aG<|bX<|aM<|aM<|sp h ⟨_,k,k,cA k k k (aGj k)⟩) λ_ h=>aI<|aZ<|tn<|rg<|ae (bJ k k) k<|am k k<|an<|tn<|sp h ⟨_,k,(bO (pP 1 k2 (mO ⟨_,k,⟨k,aEP _ hc1⟩⟩ (bN k2))) aR k4)⟩) λ_ h=>bA<|aB<|aB<|sp h ⟨_,k,k,(bO aR aR k4)⟩
 ·intro e t hX;rcases y5 with y6|y7
  ·obtain ⟨rfl,hent⟩:=hX;exact aP<|tn<|aN hent<|sR<|aT k2<|aG<|xQ h k2
  ·obtain ⟨rfl,hent⟩:=hX;exact bX<|aM<|sp h hent
def jH (a0:aD) (a1:(aA->Option Bool)):Option Bool:=
 (fX a0 a1).bind λv1=>
 some (decide (0<=v1))
theorem xU (a0:aD) (a1:(aA->Option Bool)) {f1:FuncId} {c1:List AV} (hc1:c1.all fI=true) (hf1: ∀ b0 r,a1 b0=some r->HasC Tryz.prog f1 ([.list 1 (b0.map eI)]++c1) (.bl r)) (r:Bool) (h:jH a0 a1=some r):HasC Tryz.prog 95 [.list 1 (a0.map (bU 1 eI)),.fn f1 c1] (.bl r):=by
 exact aBY aL (rvs:=[.tmp 4]) (ns:=nmA) Tryz.func95 k k Tryz.ntmps95 k k (aBd k (aBd hc1 aMg))<|sR<|aT k2<|sR<|am k k<|am k k<|oB h λv1 hv1 h=>ae (aS (rL a0 a1 hc1 hf1 v1 hv1) k (dF k (aX (aTv hc1) aU))) k<|cm k4<|aT k2<|aG<|kD h k2
def nT (a0:Int) (a1:Int) (a2:Int):Option Bool:=
 (pM a0 a1 a2).bind λv1=>
 some (!v1)
theorem aFG (a0:Int) (a1:Int) (a2:Int) (r:Bool) (h:nT a0 a1 a2=some r):HasC Tryz.prog 171 [.int a0,.ref (eI a1),.ref (eI a2)] (.bl r):=by
 exact hM [.tmp 4] Tryz.func171 Tryz.ntmps171 k<|sR<|aT k2<|sR<|am k k<|lr k7<|lr k7<|oB h λv1 hv1 h=>ae (aS (vK a0 a1 a2 v1 hv1) k (dF k (dF k (dF k aU)))) k<|ae (fB k) k<|aT k2<|aG<|kD h k2
def iT (a0:aA) (a1:Int) (a2:Int):Option Bool:=
 (cJ a0 (λb0=>nT b0 a1 a2)).bind λv1=>
 some (!v1)
theorem qS (a0:aA) (a1:Int) (a2:Int) (r:Bool) (h:iT a0 a1 a2=some r):HasC Tryz.prog 97 [.list 1 (a0.map eI),.int a1,.int a2] (.bl r):=by
 exact hM [.tmp 6] Tryz.func97 Tryz.ntmps97 k<|sR<|ae (wb k) k<|ae (wb k) k<|aT k2<|sR<|am k k<|ae (rQ (vs:=[.ptr 0 0 0,.ptr 1 0 0]) k (by simp)) k<|oB h λv1 hv1 h=>ae (aS (iB a0 (λb0=>nT b0 a1 a2) k (λb0 r h=>aFG b0 a1 a2 r h) v1 hv1) k (dF k (aX (aOB (zB (aGm k k (oA (vU k) aCo)) (zB (aGm k k (oA (vU k) aCo)) aFk))) aU))) k<|ae (fB k) k<|aT k2<|aG<|kD h k2
def wD (a0:Int) (a1:aA):Option Bool:=
 (nO a0).bind λv1=>
 bif v1 then
 (bif decide ((a1.length:Int)<=64) then
 ((iT a1 0 (wr (a0 - 1))).bind λv4=>
 some (v4))
 else
 (some (false)))
 else
 (some (false))
theorem aIO (a0:Int) (a1:aA) (r:Bool) (h:wD a0 a1=some r):HasC Tryz.prog 235 [.int a0,.list 1 (a1.map eI)] (.bl r):=by
 exact hM [.tmp 4] Tryz.func235 Tryz.ntmps235 k<|sR<|aT k2<|sR<|am k k<|oB h λv1 hv1 h=>ae (aS (tX a0 v1 hv1) k (dF k aU)) k<|am k k<|kI h (λq2 h=>aH 7 k q2<|am k k<|ln k4<|cm k4<|pk k3<|am k k<|kI h (λq3 h=>aH 12 k q3<|am k k<|am k k<|ae (gK k k) k<|oB h λv4 hv4 h=>ae (aS (qS a1 0 (wr (a0 - 1)) v4 hv4) k (dF k (dF k (dF k aU)))) k<|pk k3<|aT k2<|aG<|kD h k2) λq3 h=>aH 12 k q3<|aK k4<|aK k4<|pk k3<|aT k2<|aG<|kD h k2) λq2 h=>aH 7 k q2<|aK k4<|ak k k<|pk k3<|am k k<|aK k4<|aK k4<|pk k3<|aT k2<|aG<|kD h k2
def wF (a0:Int) (a1:Mt):Option Bool:=
 (pM a1.rows 0 8).bind λv1=>
 bif v1 then
 ((pM a1.cols 0 8).bind λv3=>
 bif v3 then
 (bif decide ((a1.cells.length:Int)=wr (a1.rows*a1.cols)) then
 ((wD a0 a1.cells).bind λv6=>
 some (v6))
 else
 (some (false)))
 else
 (some (false)))
 else
 (some (false))
theorem aIP (a0:Int) (a1:Mt) (r:Bool) (h:wF a0 a1=some r):HasC Tryz.prog 183 [.int a0,.agg (eM a1)] (.bl r):=by
 exact hM [.tmp 4] Tryz.func183 Tryz.ntmps183 k<|sR<|ae (wb k) k<|aT k2<|sR<|fp k8<|lp k8<|oB h λv1 hv1 h=>ae (aS (vK a1.rows 0 8 v1 hv1) k (dF k (dF k (dF k aU)))) k<|am k k<|kI h (λq2 h=>aH 8 k q2<|fp k8<|lp k8<|oB h λv3 hv3 h=>ae (aS (vK a1.cols 0 8 v3 hv3) k (dF k (dF k (dF k aU)))) k<|pk k3<|am k k<|kI h (λq4 h=>aH 13 k q4<|fp k8<|lp k8<|ln k4<|fp k8<|lp k8<|fp k8<|lp k8<|ae (gC k k) k<|cm k4<|pk k3<|am k k<|kI h (λq5 h=>aH 24 k q5<|am k k<|fp k8<|lp k8<|oB h λv6 hv6 h=>ae (aS (aIO a0 a1.cells v6 hv6) k (dF k (dF k aU))) k<|pk k3<|aT k2<|aG<|kD h k2) λq5 h=>aH 24 k q5<|aK k4<|aK k4<|pk k3<|aT k2<|aG<|kD h k2) λq4 h=>aH 13 k q4<|aK k4<|aK k4<|aK k4<|aK k4<|ak k k<|pk k3<|am k k<|aK k4<|aK k4<|pk k3<|aT k2<|aG<|kD h k2) λq2 h=>aH 8 k q2<|aK k4<|ak k k<|pk k3<|am k k<|aK k4<|aK k4<|aK k4<|aK k4<|ak k k<|pk k3<|am k k<|aK k4<|aK k4<|pk k3<|aT k2<|aG<|kD h k2
def oN (a0:Qv):Option Bool:=
 (pM a0.n 1 5).bind λv1=>
 bif v1 then
 (bif decide ((a0.src.length:Int)=(a0.tgt.length:Int)) then
 (bif decide ((a0.src.length:Int)<=6) then
 ((iT a0.src 0 (wr (a0.n - 1))).bind λv5=>
 bif v5 then
 ((iT a0.tgt 0 (wr (a0.n - 1))).bind λv7=>
 some (v7))
 else
 (some (false)))
 else
 (some (false)))
 else
 (some (false)))
 else
 (some (false))
theorem aAF (a0:Qv) (r:Bool) (h:oN a0=some r):HasC Tryz.prog 99 [.agg (eQ a0)] (.bl r):=by
 refine hM [.tmp 2] Tryz.func99 Tryz.ntmps99 k<|sR<|ae (wb k) k<|aT k2<|sR<|fp k8<|lp k8<|oB h λv1 hv1 h=>ae (aS (vK a0.n 1 5 v1 hv1) k (dF k (dF k (dF k aU)))) k<|am k k<|kI h (λq2 h=>aH 6 k q2<|fp k8<|lp k8<|ln k4<|fp k8<|lp k8<|ln k4<|cm k4<|pk k3<|am k k<|kI h (λq3 h=>aH 15 k q3<|fp k8<|lp k8<|ln k4<|cm k4<|pk k3<|am k k<|kI h (λq4 h=>aH 21 k q4<|fp k8<|lp k8<|fp k8<|lp k8<|ae (gK k k) k<|oB h λv5 hv5 h=>ae (aS (qS a0.src 0 (wr (a0.n - 1)) v5 hv5) k (dF k (dF k (dF k aU)))) k<|pk k3<|am k k<|kI h (λq6 h=>aH 29 k q6<|fp k8<|lp k8<|fp k8<|lp k8<|ae (gK k k) k<|oB h λv7 hv7 h=>ae (aS (qS a0.tgt 0 (wr (a0.n - 1)) v7 hv7) k (dF k (dF k (dF k aU)))) k<|pk k3<|aT k2<|aG<|kD h k2) λq6 h=>aH 29 k q6<|aK k4<|aK k4<|aK k4<|pk k3<|aT k2<|aG<|kD h k2) λq4 h=>aH 21 k q4<|aK k4<|aK k4<|aK k4<|pk k3<|am k k<|aK k4<|aK k4<|aK k4<|pk k3<|aT k2<|aG<|kD h k2) λq3 h=>aH 15 k q3<|aK k4<|aK k4<|pk k3<|am k k<|aK k4<|aK k4<|aK k4<|pk k3<|am k k<|aK k4<|aK k4<|aK k4<|pk k3<|aT k2<|aG<|kD h k2) λq2 h=>?_;refine aH 6 k q2<|aK k4<|aK k4<|aK k4<|ak k k<|pk k3<|am k k<|aK k4<|aK k4<|pk k3<|am k k<|aK k4<|aK k4<|aK k4<|pk k3<|am k k<|aK k4<|aK k4<|aK k4 ?_;exact pk k3<|aT k2<|aG<|kD h k2
def tZ (a0:Qv) (a1:aA):Option Bool:=
 (oN a0).bind λv1=>
 bif v1 then
 (bif decide ((a1.length:Int)=a0.n) then
 ((iT a1 0 4).bind λv4=>
 bif v4 then
 ((rT a1).bind λv6=>
 some (decide (v6<=8)))
 else
 (some (false)))
 else
 (some (false)))
 else
 (some (false))
theorem aDl (a0:Qv) (a1:aA) (r:Bool) (h:tZ a0 a1=some r):HasC Tryz.prog 174 [.agg (eQ a0),.list 1 (a1.map eI)] (.bl r):=by
 exact hM [.tmp 4] Tryz.func174 Tryz.ntmps174 k<|sR<|ae (wb k) k<|aT k2<|sR<|lp k8<|oB h λv1 hv1 h=>ae (aS (aAF a0 v1 hv1) k (aX (iL k) aU)) k<|am k k<|kI h (λq2 h=>aH 7 k q2<|am k k<|ln k4<|fp k8<|lp k8<|cm k4<|pk k3<|am k k<|kI h (λq3 h=>aH 14 k q3<|am k k<|oB h λv4 hv4 h=>ae (aS (qS a1 0 4 v4 hv4) k (dF k (dF k (dF k aU)))) k<|pk k3<|am k k<|kI h (λq5 h=>aH 18 k q5<|am k k<|oB h λv6 hv6 h=>ae (aS (aAc a1 v6 hv6) k (dF k aU)) k<|cm k4<|pk k3<|aT k2<|aG<|kD h k2) λq5 h=>aH 18 k q5<|aK k4<|ak k k<|pk k3<|aT k2<|aG<|kD h k2) λq3 h=>aH 14 k q3<|aK k4<|pk k3<|am k k<|aK k4<|ak k k<|pk k3<|aT k2<|aG<|kD h k2) λq2 h=>aH 7 k q2<|aK k4<|aK k4<|ak k k<|pk k3<|am k k<|aK k4<|pk k3<|am k k<|aK k4<|ak k k<|pk k3<|aT k2<|aG<|kD h k2
def wG (a0:Rp) (x1:Int):Option (Int ⊕ (Unit ⊕ Bool)):=
 bif decide (x1<(a0.maps.length:Int)) then
 ((cO a0.maps x1).bind λv7=>
 (wF a0.p v7).bind λv8=>
 bif !v8 then
 (some (.inr (.inr (false))))
 else
 ((cO a0.q.src x1).bind λv10=>
 (cO a0.dims v10).bind λv11=>
 bif !decide (v7.cols=v11) then
 (some (.inr (.inr (false))))
 else
 ((cO a0.q.tgt x1).bind λv13=>
 (cO a0.dims v13).bind λv14=>
 bif !decide (v7.rows=v14) then
 (some (.inr (.inr (false))))
 else
 (some (.inl (wr (x1+1)))))))
 else
 (some (.inr (.inl ())))
def xV (a0:Rp):Option Bool:=
 (nO a0.p).bind λv1=>
 bif !v1 then
 (some (false))
 else
 ((tZ a0.q a0.dims).bind λv3=>
 bif !v3 then
 (some (false))
 else
 (bif !decide ((a0.maps.length:Int)=(a0.q.src.length:Int)) then
 (some (false))
 else
 ((Lp (wG a0) 0).bind λy16=>
 Sum.elim (λy17=>
 some (true)
 )
 (λy18=>
 some y18
 )
 y16)))
theorem aFt (a0:Rp) (r:Bool) (h:xV a0=some r):HasC Tryz.prog 120 [.agg (eR a0)] (.bl r):=by
 refine hM [.tmp 2] Tryz.func120 Tryz.ntmps120 k<|sR<|ae (wb k) k<|aT k2<|sQ<|sR<|fp k8<|lp k8<|oB h λv1 hv1 h=>ae (aS (tX a0.p v1 hv1) k (dF k aU)) k<|ae (fB k) k<|am k k<|kI h (λq2 h=>aH 9 k q2<|aK k4<|aK k4<|aK k4<|pk k3<|am k k<|aK k4<|aK k4<|aK k4<|aK k4<|pk k3<|an<|tn<|aN (t:=mN [(1,.ptr 0 0 0),(26,.bl true)] [(0,⟨6,[eR a0]⟩)] 1) (bO (bN k2) (bS k<|aR) k4)<|dO k k<|sR<|aT k2<|aG<|aM<|kD h k2) λq2 h=>?_;refine aH 9 k q2<|fp k8<|lp k8<|fp k8<|lp k8<|oB h λv3 hv3 h=>ae (aS (aDl a0.q a0.dims v3 hv3) k (aX (iL k) (dF k aU))) k<|ae (fB k) k<|pk k3<|am k k<|kI h (λq4 h=>aH 17 k q4<|aK k4<|aK k4<|aK k4<|aK k4<|pk k3<|an<|tn<|aN (t:=mN [(1,.ptr 0 0 0),(26,.bl true)] [(0,⟨6,[eR a0]⟩)] 1) (bO (bN k2) (bS k<|aR) k4)<|dO k k<|sR<|aT k2<|aG<|aM<|kD h k2) λq4 h=>?_;refine aH 17 k q4<|fp k8<|lp k8<|ln k4<|fp k8<|fp k8<|lp k8<|ln k4<|cm k4<|pk k3<|an<|tn<|aN (t:=mN [(1,.ptr 0 0 0),(26,.bl (!decide ((a0.maps.length:Int)=(a0.q.src.length:Int))))] [(0,⟨6,[eR a0]⟩)] 1) (bO (bN k2) (bS k<|aR) k4)<|dC k h (λ_ h=>sR<|aT k2<|aG<|aM<|kD h k2) λ_ h=>?_;refine aI<|tn<|sQ<|sR<|fp k8<|lp k8<|ln k4<|am k k<|an<|tn<|aE<|oB h λy16 hy16 h=>cH (body:=(wG a0)) hy16 (λ(x1:Int)=>mN [(1,.ptr 0 0 0),(28,.list 3 (a0.maps.map eM)),(29,.int (a0.maps.length:Int)),(30,.int x1)] [(0,⟨6,[eR a0]⟩)] 1) (λr e t=>Sum.elim (λa=>(λr e t=>e= .exit 0/\Ent t (mN [] [] 0)) a e t) (λb=>(λr e t=>e= .ret/\uI TT [.tmp 2] (.bl r) .ret t) b e t) r) (bO (bN k2) (bS k<|aR) k4) ?_ ?_
 ·intro x1 o h;refine sR<|cm k4<|an<|tn<|sQ<|dC k h (λ_ h=>?_) λ_ h=>bA<|aB<|aB<|sp h ⟨_,k,k,(bO aR aR k4)⟩;refine aI<|tn<|sQ<|aE<|sR<|am k k<|oB h λv7 hv7 h=>ae (xl hv7 k) k<|lr k7<|ae (cB aL k k) k<|aa k k<|ae (ws k) k<|an<|tn<|sQ<|aQ fW<|fp k8<|lp k8<|lp k8<|oB h λv8 hv8 h=>ae (aS (aIP a0.p v7 v8 hv8) k (dF k (aX (iL k) aU))) k<|ae (fB k) k<|am k k<|kI h (λq9 h=>?_) λq9 h=>?_
  ·refine aH 40 k q9<|aK k4<|aK k4<|aK k4<|aK k4<|aK k4<|aK k4<|ak k k<|pk k3<|am k k<|aK k4<|aK k4<|aK k4<|aK k4<|aK k4<|aK k4<|ak k k<|pk k3 ?_;exact an<|nH (by kernel_rfl)<|tn<|aN (t:=mN [(1,.ptr 0 0 0),(28,.list 3 (a0.maps.map eM)),(29,.int (a0.maps.length:Int)),(30,.int x1),(69,.bl true)] [(0,⟨6,[eR a0]⟩)] 2) (bO (bN k2) (bS k<|aR) k4)<|dO k k<|sR<|aT k2<|aG<|bX<|aM<|aM<|sp h ⟨_,k,k,cA k k k (qM k)⟩
  ·exact aH 40 k q9<|fp k8<|lp k8<|fp k8<|lp k8<|fp k8<|fp k8<|lp k8<|am k k<|oB h λv10 hv10 h=>ae (xl hv10 k) k<|lr k7<|oB h λv11 hv11 h=>ae (xl hv11 k) k<|lr k7<|cm k4<|pk k3<|am k k<|kI h (λq12 h=>aH 55 k q12<|aK k4<|aK k4<|aK k4<|aK k4<|aK k4<|aK k4<|ak k k<|pk k3<|an<|nH (by kernel_rfl)<|tn<|aN (t:=mN [(1,.ptr 0 0 0),(28,.list 3 (a0.maps.map eM)),(29,.int (a0.maps.length:Int)),(30,.int x1),(69,.bl true)] [(0,⟨6,[eR a0]⟩)] 2) (bO (bN k2) (bS k<|aR) k4)<|dO k k<|sR<|aT k2<|aG<|bX<|aM<|aM<|sp h ⟨_,k,k,cA k k k (qM k)⟩) λq12 h=>aH 55 k q12<|fp k8<|lp k8<|fp k8<|lp k8<|fp k8<|fp k8<|lp k8<|am k k<|oB h λv13 hv13 h=>ae (xl hv13 k) k<|lr k7<|oB h λv14 hv14 h=>ae (xl hv14 k) k<|lr k7<|cm k4<|pk k3<|an<|nH (by kernel_rfl)<|tn<|aN (t:=mN [(1,.ptr 0 0 0),(28,.list 3 (a0.maps.map eM)),(29,.int (a0.maps.length:Int)),(30,.int x1),(69,.bl (!decide (v7.rows=v14)))] [(0,⟨6,[eR a0]⟩)] 2) (bO (bN k2) (bS k<|aR) k4)<|dC k h (λ_ h=>sR<|aT k2<|aG<|bX<|aM<|aM<|sp h ⟨_,k,k,cA k k k (qM k)⟩) λ_ h=>aI<|aZ<|tn<|rg<|ae (bJ k k) k<|am k k<|an<|tn<|sp h ⟨_,k,(bO (bN k2) (bS k<|aR) k4)⟩
 ·intro e t hX;rcases y16 with y17|y18
  ·obtain ⟨rfl,hent⟩:=hX;exact aP<|tn<|aN hent<|sR<|aT k2<|aG<|kD h k2
  ·obtain ⟨rfl,hent⟩:=hX;exact bX<|aM<|sp h hent
def mH (a0:Mt):Option Mt:=
 (lQ a0.cells).bind λv1=>
 some ((⟨a0.rows,a0.cols,v1⟩:Mt))
theorem aAR (a0:Mt) (r:Mt) (h:mH a0=some r):HasC Tryz.prog 256 [.agg (eM a0)] (.agg (eM r)):=by
 exact hM [.cell 2 81] Tryz.func256 Tryz.ntmps256 k<|sR<|ae (wb k) k<|ae (cB aL k k) k<|an<|tn<|sR<|fp k8<|lp k8<|oB h λv1 hv1 h=>ae (cL cW (aAb a0.cells v1 hv1) k3 (dF k aU)) k<|fp k8<|ae (ws k) k<|an<|tn<|sR<|lp k8<|ae (ws k) k<|an<|tn<|aG<|sp h (cA k k k (aAC (bH (k) (bH (k) (bH (gF cW k k) gI)))))
def wH (a0:Int) (a2:Mt) (v1:Mt) (v3:aA) (x1:(aA×Int)) (x2:(aA×Int)):Option ((aA×Int) ⊕ aA):=
 bif decide (x2.2<(v3.length:Int)) then
 ((cO v3 x2.2).bind λv5=>
 (fT (⟨v1.rows,v1.cols,x2.1⟩:Mt) x1.2).bind λv6=>
 (aJU a2 x2.2).bind λv7=>
 (nQ a0 x2.1 (0+(wr (x1.2*v1.cols)).toNat) ((wr ((wr (x1.2+1))*v1.cols)).toNat - (wr (x1.2*v1.cols)).toNat) v5 v7).bind λv8=>
 bif decide (v8.length=x2.1.length) then
 (some (.inl (v8,wr (x2.2+1))))
 else none)
 else
 (some (.inr x2.1))
def wI (a0:Int) (a1:Mt) (a2:Mt) (v1:Mt) (x1:(aA×Int)):Option ((aA×Int) ⊕ aA):=
 bif decide (x1.2<a1.rows) then
 ((aJU a1 x1.2).bind λv3=>
 (Lp (wH a0 a2 v1 v3 x1) (x1.1,0)).bind λy10=>
 some (.inl (y10,wr (x1.2+1))))
 else
 (some (.inr x1.1))
def xW (a0:Int) (a1:Mt) (a2:Mt):Option Mt:=
 (tY a1.rows a2.cols).bind λv1=>
 (Lp (wI a0 a1 a2 v1) (v1.cells,0)).bind λy11=>
 some ((⟨v1.rows,v1.cols,y11⟩:Mt))
theorem aFu (a0:Int) (a1:Mt) (a2:Mt) (r:Mt) (h:xW a0 a1 a2=some r):HasC Tryz.prog 254 [.int a0,.agg (eM a1),.agg (eM a2)] (.agg (eM r)):=by
 refine hM [.cell 6 81] Tryz.func254 Tryz.ntmps254 k<|sR<|ae (wb k) k<|ae (wb k) k<|ae (cB aL k k) k<|an<|tn<|sR<|fp k8<|lp k8<|fp k8<|lp k8<|oB h λv1 hv1 h=>ae (cM (aBe a1.rows a2.cols v1 hv1) k3 (dF k (dF k aU))) k<|ae (cB aL k k) k<|ae (ws k) k<|an<|tn<|sQ<|sR<|fp k8<|lp k8<|am k k<|an<|tn<|aE<|oB h λy11 hy11 h=>cH (body:=(wI a0 a1 a2 v1)) hy11 (λ(x1:(aA×Int))=>mN [(0,.int a0),(4,.ptr 0 0 0),(5,.ptr 1 0 0),(6,.ptr 2 0 0),(7,.ptr 3 0 0),(17,.int a1.rows),(18,.int x1.2)] [(0,⟨3,[eM a1]⟩),(1,⟨3,[eM a2]⟩),(2,⟨3,[lL]⟩),(3,⟨3,[[.int v1.rows,.int v1.cols,.own 4 0 x1.1.length]]⟩),(4,⟨1,x1.1.map (ow eI)⟩)] 5) (λr e t=>e= .exit 0/\Ent t (mN [(6,.ptr 0 0 0),(7,.ptr 1 0 0)] [(0,⟨3,[lL]⟩),(1,⟨3,[[.int v1.rows,.int v1.cols,.own 2 0 r.length]]⟩),(2,⟨1,r.map (ow eI)⟩)] 3)) (kE [0,1,2,4,3] (bN k2) (bS k<|bS k<|bS k<|fV k<|cD k<|aR) k4) ?_ ?_
 ·intro x1 o h;refine sR<|cm k4<|an<|tn<|sQ<|dC k h (λ_ h=>?_) λ_ h=>bA<|aB<|aB<|sp h ⟨_,k,k,(kE [2,3,4] (bN k2) (bS k<|fV k<|cD k<|aR) k4)⟩;refine aI<|tn<|sQ<|aE<|sR<|am k k<|aT k2<|sR<|lp k8<|am k k<|oB h λv3 hv3 h=>ae (aOI (aTz a1 x1.2 v3 hv3) k k k) k<|ln k4<|am k k<|an<|tn<|aE<|oB h λy10 hy10 h=>cH (body:=(wH a0 a2 v1 v3 x1)) hy10 (λ(x2:(aA×Int))=>mN [(0,.int a0),(4,.ptr 0 0 0),(5,.ptr 1 0 0),(6,.ptr 2 0 0),(7,.ptr 3 0 0),(8,.int x1.2),(17,.int a1.rows),(18,.int x1.2),(23,.list 1 (v3.map eI)),(24,.int (v3.length:Int)),(25,.int x2.2)] [(0,⟨3,[eM a1]⟩),(1,⟨3,[eM a2]⟩),(2,⟨3,[lL]⟩),(3,⟨3,[[.int v1.rows,.int v1.cols,.own 4 0 x2.1.length]]⟩),(4,⟨1,x2.1.map (ow eI)⟩)] 5) (λr e t=>e= .exit 2/\Ent t (mN [(0,.int a0),(4,.ptr 0 0 0),(5,.ptr 1 0 0),(6,.ptr 2 0 0),(7,.ptr 3 0 0),(17,.int a1.rows),(18,.int x1.2)] [(0,⟨3,[eM a1]⟩),(1,⟨3,[eM a2]⟩),(2,⟨3,[lL]⟩),(3,⟨3,[[.int v1.rows,.int v1.cols,.own 4 0 r.length]]⟩),(4,⟨1,r.map (ow eI)⟩)] 5)) (bO (bN k2) (bS k<|bS k<|bS k<|fV k<|cD k<|aR) k4) ?_ ?_
  ·intro x2 o h;refine sR<|cm k4<|an<|tn<|sQ<|dC k h (λ_ h=>?_) λ_ h=>bA<|aB<|aB<|sp h ⟨_,k,k,(bO (bN k2) (bS k<|bS k<|bS k<|fV k<|cD k<|aR) k4)⟩;refine aI<|tn<|sQ<|aE<|sR<|am k k<|oB h λv5 hv5 h=>ae (xl hv5 k) k<|lr k7<|aa k k<|aT k2<|aQ fW<|am k k<|lp k8<|am k k<|oB h λv6 hv6 h=>ae (AEff.pureE (sU (σ:=sg [(0,4)]) (σ':=sg [(4,0)]) (touch:=[4]) (news:=[]) (hl2:=[(4,⟨1,x2.1.map (ow eI)⟩)]) (n':=5) (r2:= .own 4 (0+(wr (x1.2*v1.cols)).toNat) ((wr ((wr (x1.2+1))*v1.cols)).toNat - (wr (x1.2*v1.cols)).toNat)) (jF (⟨v1.rows,v1.cols,x2.1⟩:Mt) x1.2 v6 hv6) k k ⟨_,_,k,⟨_,_,k,k,⟨_,_,k,k,⟨_,_,k,⟨k,k,k,k⟩,k⟩⟩⟩,⟨_,_,k,k,k⟩⟩ ⟨⟨_,k,k,.inl ⟨k,cW.plainO _⟩⟩,k,aR⟩ k k k ⟨⟨_,k,k,.inl ⟨k,cW.plainO _⟩⟩,k,aR⟩ k ⟨k,k,(by simp only [aO,lA,lT,lR,lC,lN]),k⟩ k ⟨k,cW.tame _ _,aR⟩ k k) ⟨k,k,aR⟩) k<|am k k<|lp k8<|am k k<|oB h λv7 hv7 h=>ae (aOI (aTz a2 x2.2 v7 hv7) k k k) k<|oB h λv8 hv8 h=>ae (sU (σ:=sg [(0,4)]) (σ':=sg [(4,0)]) (touch:=[4]) (news:=[]) (hl2:=[(4,⟨1,v8.map (ow eI)⟩)]) (n':=5) (r2:= .own 4 (0+(wr (x1.2*v1.cols)).toNat) ((wr ((wr (x1.2+1))*v1.cols)).toNat - (wr (x1.2*v1.cols)).toNat)) (aBA a0 x2.1 (0+(wr (x1.2*v1.cols)).toNat) ((wr ((wr (x1.2+1))*v1.cols)).toNat - (wr (x1.2*v1.cols)).toNat) v5 v7 v8 hv8) k k ⟨_,_,k,k,⟨_,_,k,⟨k,k,k,k⟩,⟨_,_,k,k,⟨_,_,k,⟨k,k⟩,k⟩⟩⟩⟩ ⟨⟨_,k,k,.inl ⟨k,cW.plainO _⟩⟩,k,aR⟩ k k k ⟨⟨_,k,k,.inl ⟨k,cW.plainO _⟩⟩,k,aR⟩ k ⟨k,k,(by simp only [aO,lA,lT,lR,lC,lN]),k⟩ k ⟨k,cW.tame _ _,aR⟩ k k) k<|cG h λq9 h=>an<|nH (by kernel_rfl)<|aZ<|tn<|rg<|ae (bJ k k) k ?_;exact am k k<|an<|tn<|sp h ⟨_,k,(bO (bN k2) (bS k<|bS k<|bS k<|hX ⟨_,k,k,.inr ⟨_,_,k,⟨_,_,k,k,⟨_,_,k,k,⟨_,_,k,⟨k,k,(by simp only [aO,lA,lT,lR,lC,lN,of_decide_eq_true q9]),k⟩,k⟩⟩⟩,k⟩⟩ k<|cD k<|aR) k4)⟩
  ·rintro e t ⟨rfl,hent⟩;exact aP<|aZ<|tn<|aN hent<|rg<|ae (bJ k k) k<|am k k<|an<|tn<|sp h ⟨_,k,(bO (bN k2) (bS k<|bS k<|bS k<|fV k<|cD k<|aR) k4)⟩
 ·rintro e t ⟨rfl,hent⟩;exact aP<|tn<|aN hent<|sR<|lp k8<|ae (ws k) k<|an<|tn<|aG<|sp h (cA k k k (aAC (bH (k) (bH (k) (bH (gF cW k k) gI)))))
def qT (v1:Mt) (x1:(Int×aA×aA)) (x2:Int):Option (Int ⊕ Int):=
 bif decide (x2<v1.rows) then
 ((fT (⟨v1.rows,v1.cols,x1.2.1⟩:Mt) x2).bind λv4=>
 bif (decide (0<=x1.1)&&decide (x1.1<((((wr ((wr (x2+1))*v1.cols)).toNat - (wr (x2*v1.cols)).toNat):Nat):Int))) then
 ((x1.2.1[((0+(wr (x2*v1.cols)).toNat)+x1.1.toNat)]?).bind λv5=>
 bif decide (v5=0) then
 (some (.inl (wr (x2+1))))
 else
 (some (.inr x2))
 )
 else none)
 else
 (some (.inr x2))
def uK (v1:Mt) (x1:(Int×aA×aA)) (y8:Int) (x3:(aA×Int)):Option ((aA×Int) ⊕ aA):=
 bif decide (x3.2<v1.cols) then
 ((fT (⟨v1.rows,v1.cols,x3.1⟩:Mt) y8).bind λv12=>
 (fT (⟨v1.rows,v1.cols,x3.1⟩:Mt) y8).bind λv13=>
 bif (decide (0<=x3.2)&&decide (x3.2<((((wr ((wr (y8+1))*v1.cols)).toNat - (wr (y8*v1.cols)).toNat):Nat):Int))) then
 ((x3.1[((0+(wr (y8*v1.cols)).toNat)+x3.2.toNat)]?).bind λv14=>
 bif (decide (0<=x3.2)&&decide (x3.2<((((wr ((wr (((x1.2.2.length:Nat):Int)+1))*v1.cols)).toNat - (wr (((x1.2.2.length:Nat):Int)*v1.cols)).toNat):Nat):Int))) then
 ((x3.1[((0+(wr (((x1.2.2.length:Nat):Int)*v1.cols)).toNat)+x3.2.toNat)]?).bind λv16=>
 bif (decide (0<=x3.2)&&decide (x3.2<((((wr ((wr (((x1.2.2.length:Nat):Int)+1))*v1.cols)).toNat - (wr (((x1.2.2.length:Nat):Int)*v1.cols)).toNat):Nat):Int))) then
 ((x3.1[((0+(wr (((x1.2.2.length:Nat):Int)*v1.cols)).toNat)+x3.2.toNat)]?).bind λv18=>
 bif (decide (0<=x3.2)&&decide (x3.2<((((wr ((wr (y8+1))*v1.cols)).toNat - (wr (y8*v1.cols)).toNat):Nat):Int))) then
 (((x3.1.set ((0+(wr (((x1.2.2.length:Nat):Int)*v1.cols)).toNat)+x3.2.toNat) v14)[((0+(wr (y8*v1.cols)).toNat)+x3.2.toNat)]?).bind λv20=>
 some (.inl (((x3.1.set ((0+(wr (((x1.2.2.length:Nat):Int)*v1.cols)).toNat)+x3.2.toNat) v14).set ((0+(wr (y8*v1.cols)).toNat)+x3.2.toNat) v16),wr (x3.2+1)))
 )
 else none
 )
 else none
 )
 else none
 )
 else none)
 else
 (some (.inr x3.1))
def uL (a0:Int) (v1:Mt) (v25:Int) (x1:(Int×aA×aA)) (x4:(aA×Int)):Option ((aA×Int) ⊕ aA):=
 bif decide (x4.2<((((wr ((wr (((x1.2.2.length:Nat):Int)+1))*v1.cols)).toNat - (wr (((x1.2.2.length:Nat):Int)*v1.cols)).toNat):Nat):Int)) then
 (bif (decide (0<=x4.2)&&decide (x4.2<((((wr ((wr (((x1.2.2.length:Nat):Int)+1))*v1.cols)).toNat - (wr (((x1.2.2.length:Nat):Int)*v1.cols)).toNat):Nat):Int))) then
 ((x4.1[((0+(wr (((x1.2.2.length:Nat):Int)*v1.cols)).toNat)+x4.2.toNat)]?).bind λv27=>
 bif !decide (a0=0) then
 (bif (decide (0<=x4.2)&&decide (x4.2<((((wr ((wr (((x1.2.2.length:Nat):Int)+1))*v1.cols)).toNat - (wr (((x1.2.2.length:Nat):Int)*v1.cols)).toNat):Nat):Int))) then
 ((x4.1[((0+(wr (((x1.2.2.length:Nat):Int)*v1.cols)).toNat)+x4.2.toNat)]?).bind λv29=>
 some (.inl ((x4.1.set ((0+(wr (((x1.2.2.length:Nat):Int)*v1.cols)).toNat)+x4.2.toNat) ((wr (v27*v25)).tmod a0)),wr (x4.2+1)))
 )
 else none)
 else none
 )
 else none)
 else
 (some (.inr x4.1))
def uM (a0:Int) (v1:Mt) (x1:(Int×aA×aA)) (x5:(aA×Int)):Option ((aA×Int) ⊕ aA):=
 bif decide (x5.2<v1.rows) then
 (bif !decide (x5.2=((x1.2.2.length:Nat):Int)) then
 ((fT (⟨v1.rows,v1.cols,x5.1⟩:Mt) x5.2).bind λv35=>
 (fT (⟨v1.rows,v1.cols,x5.1⟩:Mt) x5.2).bind λv36=>
 bif (decide (0<=x1.1)&&decide (x1.1<((((wr ((wr (x5.2+1))*v1.cols)).toNat - (wr (x5.2*v1.cols)).toNat):Nat):Int))) then
 ((x5.1[((0+(wr (x5.2*v1.cols)).toNat)+x1.1.toNat)]?).bind λv37=>
 (lU a0 x5.1 (0+(wr (x5.2*v1.cols)).toNat) ((wr ((wr (x5.2+1))*v1.cols)).toNat - (wr (x5.2*v1.cols)).toNat) (wr (a0 - v37)) (0+(wr (((x1.2.2.length:Nat):Int)*v1.cols)).toNat) ((wr ((wr (((x1.2.2.length:Nat):Int)+1))*v1.cols)).toNat - (wr (((x1.2.2.length:Nat):Int)*v1.cols)).toNat)).bind λv39=>
 bif decide (v39.length=x5.1.length) then
 (some (.inl (v39,wr (x5.2+1))))
 else none
 )
 else none)
 else
 (some (.inl (x5.1,wr (x5.2+1)))))
 else
 (some (.inr x5.1))
def qU (a0:Int) (v1:Mt) (x1:(Int×aA×aA)):Option ((Int×aA×aA) ⊕ (aA×aA)):=
 bif decide (x1.1<v1.cols) then
 ((Lp (qT v1 x1) ((x1.2.2.length:Nat):Int)).bind λy8=>
 bif decide (y8=v1.rows) then
 (some (.inl (wr (x1.1+1),x1.2.1,x1.2.2)))
 else
 ((fT (⟨v1.rows,v1.cols,x1.2.1⟩:Mt) ((x1.2.2.length:Nat):Int)).bind λv10=>
 (Lp (uK v1 x1 y8) (x1.2.1,0)).bind λy22=>
 bif (decide (0<=x1.1)&&decide (x1.1<((((wr ((wr (((x1.2.2.length:Nat):Int)+1))*v1.cols)).toNat - (wr (((x1.2.2.length:Nat):Int)*v1.cols)).toNat):Nat):Int))) then
 ((y22[((0+(wr (((x1.2.2.length:Nat):Int)*v1.cols)).toNat)+x1.1.toNat)]?).bind λv23=>
 (tK a0 v23).bind λv25=>
 (Lp (uL a0 v1 v25 x1) (y22,0)).bind λy32=>
 (Lp (uM a0 v1 x1) (y32,0)).bind λy41=>
 bif decide (x1.2.2.length+[x1.1].length <=4294967296) then
 (some (.inl (wr (x1.1+1),y41,(x1.2.2++[x1.1]))))
 else none
 )
 else none))
 else
 (some (.inr (x1.2.1,x1.2.2)))
def zE (a0:Int) (a1:Mt):Option (Mt×aA):=
 (mH a1).bind λv1=>
 (Lp (qU a0 v1) (0,v1.cells,[])).bind λy43=>
 some (((⟨v1.rows,v1.cols,y43.1⟩:Mt),y43.2))
theorem aKg (a0:Int) (a1:Mt) (r:(Mt×aA)) (h:zE a0 a1=some r):HasC Tryz.prog 225 [.int a0,.agg (eM a1)] (.tuple [.agg (eM r.1),.list 1 (r.2.map eI)]):=by
 refine hM [.cell 4 81,.tmp 5] Tryz.func225 Tryz.ntmps225 k<|sR<|ae (wb k) k<|ae (cB aL k k) k<|aT k2<|sR<|lp k8<|oB h λv1 hv1 h=>ae (cM (aAR a1 v1 hv1) k3 (aX (iL k) aU)) k<|ae (ws k) k<|an<|tn<|sR<|aT k2<|sQ<|sR<|fp k8<|lp k8<|am k k<|an<|tn<|aE<|oB h λy43 hy43 h=>cH (body:=(qU a0 v1)) hy43 (λ(x1:(Int×aA×aA))=>mN [(0,.int a0),(3,.ptr 0 0 0),(4,.ptr 2 0 0),(6,.own 3 0 x1.2.2.length),(17,.int v1.cols),(18,.int x1.1)] [(0,⟨3,[[.int v1.rows,.int v1.cols,.own 1 0 x1.2.1.length]]⟩),(1,⟨1,x1.2.1.map (ow eI)⟩),(2,⟨3,[lL]⟩),(3,⟨1,x1.2.2.map (ow eI)⟩)] 4) (λr e t=>e= .exit 0/\Ent t (mN [(3,.ptr 0 0 0),(4,.ptr 2 0 0),(6,.own 3 0 r.2.length)] [(0,⟨3,[[.int v1.rows,.int v1.cols,.own 1 0 r.1.length]]⟩),(1,⟨1,r.1.map (ow eI)⟩),(2,⟨3,[lL]⟩),(3,⟨1,r.2.map (ow eI)⟩)] 4)) (kB (σ:=sg [(0,0),(1,2),(2,1)]) (pP 3 k2 (mO ⟨_,k,⟨k,k,k,k⟩⟩ (bN k2))) (fV k<|cD k<|bS k<|hX k k<|aR) k) ?_ ?_
 ·intro x1 o h;refine sR<|cm k4<|an<|tn<|sQ<|dC k h (λ_ h=>?_) λ_ h=>bA<|aB<|aB<|sp h ⟨_,k,k,(bO (bN k2) (fV k<|cD k<|bS k<|cD k<|aR) k4)⟩;refine aI<|tn<|sQ<|aE<|sR<|am k k<|aT k2<|sR<|am k k<|ae (cN aL k k k k) k<|aT k2<|sQ<|aE<|oB h λy8 hy8 h=>cH (body:=(qT v1 x1)) hy8 (λ(x2:Int)=>mN [(0,.int a0),(3,.ptr 0 0 0),(4,.ptr 2 0 0),(6,.own 3 0 x1.2.2.length),(7,.int x1.1),(8,.int x2),(17,.int v1.cols),(18,.int x1.1)] [(0,⟨3,[[.int v1.rows,.int v1.cols,.own 1 0 x1.2.1.length]]⟩),(1,⟨1,x1.2.1.map (ow eI)⟩),(2,⟨3,[lL]⟩),(3,⟨1,x1.2.2.map (ow eI)⟩)] 4) (λr e t=>e= .exit 2/\Ent t (mN [(0,.int a0),(3,.ptr 0 0 0),(4,.ptr 2 0 0),(6,.own 3 0 x1.2.2.length),(7,.int x1.1),(8,.int r),(17,.int v1.cols),(18,.int x1.1)] [(0,⟨3,[[.int v1.rows,.int v1.cols,.own 1 0 x1.2.1.length]]⟩),(1,⟨1,x1.2.1.map (ow eI)⟩),(2,⟨3,[lL]⟩),(3,⟨1,x1.2.2.map (ow eI)⟩)] 4)) (bO (bN k2) (fV k<|cD k<|bS k<|cD k<|aR) k4) ?_ ?_
  ·intro x2 o h;exact sQ<|sR<|am k k<|fp k8<|lp k8<|cm k4<|am k k<|kI h (λq3 h=>aH 27 k q3<|lp k8<|am k k<|oB h λv4 hv4 h=>ae (AEff.pureE (sU (σ:=sg [(0,1)]) (σ':=sg [(1,0)]) (touch:=[1]) (news:=[]) (hl2:=[(1,⟨1,x1.2.1.map (ow eI)⟩)]) (n':=4) (r2:= .own 1 (0+(wr (x2*v1.cols)).toNat) ((wr ((wr (x2+1))*v1.cols)).toNat - (wr (x2*v1.cols)).toNat)) (jF (⟨v1.rows,v1.cols,x1.2.1⟩:Mt) x2 v4 hv4) k k ⟨_,_,k,⟨_,_,k,k,⟨_,_,k,k,⟨_,_,k,⟨k,k,k,k⟩,k⟩⟩⟩,⟨_,_,k,k,k⟩⟩ ⟨⟨_,k,k,.inl ⟨k,cW.plainO _⟩⟩,k,aR⟩ k k k ⟨⟨_,k,k,.inl ⟨k,cW.plainO _⟩⟩,k,aR⟩ k ⟨k,k,(by simp only [aO,lA,lT,lR,lC,lN]),k⟩ k ⟨k,cW.tame _ _,aR⟩ k k) ⟨k,k,aR⟩) k<|am k k<|cG h λq6 h=>oB h λv5 hv5 h=>ae (lP aL q6 k k k k k k k) k<|ae (fG aL k k k k (aAu (hv5)) k k) k<|cm k4<|pk k3<|an<|tn<|dC k h (λ_ h=>aI<|tn<|aE<|rg<|am k k<|ae (bJ k k) k<|aa k k<|an<|aZ<|tn<|sp h ⟨_,k,(bO (bN k2) (fV k<|cD k<|bS k<|cD k<|aR) k4)⟩) λ_ h=>bA<|aB<|aB<|sp h ⟨_,k,k,(bO (bN k2) (fV k<|cD k<|bS k<|cD k<|aR) k4)⟩) λq3 h=>aH 27 k q3<|aK k4<|aK k4<|aK k4<|ak k k<|pk k3<|an<|tn<|fK k k<|bA<|aB<|aB<|sp h ⟨_,k,k,(bO (bN k2) (fV k<|cD k<|bS k<|cD k<|aR) k4)⟩
  ·rintro e t ⟨rfl,hent⟩;refine aP<|tn<|aN hent<|sQ<|sR<|am k k<|fp k8<|lp k8<|cm k4<|an<|tn<|dC k h (λ_ h=>bA<|aB<|aP<|tn<|rg<|ae (bJ k k) k<|am k k<|an<|tn<|sp h ⟨_,k,(bO (bN k2) (fV k<|cD k<|bS k<|cD k<|aR) k4)⟩) λ_ h=>?_;refine aI<|tn<|sR<|lp k8<|am k k<|ae (cN aL k k k k) k<|oB h λv10 hv10 h=>ae (AEff.pureE (sU (σ:=sg [(0,1)]) (σ':=sg [(1,0)]) (touch:=[1]) (news:=[]) (hl2:=[(1,⟨1,x1.2.1.map (ow eI)⟩)]) (n':=4) (r2:= .own 1 (0+(wr (((x1.2.2.length:Nat):Int)*v1.cols)).toNat) ((wr ((wr (((x1.2.2.length:Nat):Int)+1))*v1.cols)).toNat - (wr (((x1.2.2.length:Nat):Int)*v1.cols)).toNat)) (jF (⟨v1.rows,v1.cols,x1.2.1⟩:Mt) ((x1.2.2.length:Nat):Int) v10 hv10) k k ⟨_,_,k,⟨_,_,k,k,⟨_,_,k,k,⟨_,_,k,⟨k,k,k,k⟩,k⟩⟩⟩,⟨_,_,k,k,k⟩⟩ ⟨⟨_,k,k,.inl ⟨k,cW.plainO _⟩⟩,k,aR⟩ k k k ⟨⟨_,k,k,.inl ⟨k,cW.plainO _⟩⟩,k,aR⟩ k ⟨k,k,(by simp only [aO,lA,lT,lR,lC,lN]),k⟩ k ⟨k,cW.tame _ _,aR⟩ k k) ⟨k,k,aR⟩) k<|aT k2<|sQ<|sR<|fp k8<|lp k8<|am k k<|an<|tn<|aE<|oB h λy22 hy22 h=>cH (body:=(uK v1 x1 y8)) hy22 (λ(x3:(aA×Int))=>mN [(0,.int a0),(3,.ptr 0 0 0),(4,.ptr 2 0 0),(6,.own 3 0 x1.2.2.length),(7,.int x1.1),(8,.int y8),(9,.own 1 (0+(wr (((x1.2.2.length:Nat):Int)*v1.cols)).toNat) ((wr ((wr (((x1.2.2.length:Nat):Int)+1))*v1.cols)).toNat - (wr (((x1.2.2.length:Nat):Int)*v1.cols)).toNat)),(17,.int v1.cols),(18,.int x1.1),(47,.int v1.cols),(48,.int x3.2)] [(0,⟨3,[[.int v1.rows,.int v1.cols,.own 1 0 x3.1.length]]⟩),(1,⟨1,x3.1.map (ow eI)⟩),(2,⟨3,[lL]⟩),(3,⟨1,x1.2.2.map (ow eI)⟩)] 4) (λr e t=>e= .exit 4/\Ent t (mN [(0,.int a0),(3,.ptr 0 0 0),(4,.ptr 2 0 0),(6,.own 3 0 x1.2.2.length),(7,.int x1.1),(9,.own 1 (0+(wr (((x1.2.2.length:Nat):Int)*v1.cols)).toNat) ((wr ((wr (((x1.2.2.length:Nat):Int)+1))*v1.cols)).toNat - (wr (((x1.2.2.length:Nat):Int)*v1.cols)).toNat)),(17,.int v1.cols),(18,.int x1.1)] [(0,⟨3,[[.int v1.rows,.int v1.cols,.own 1 0 r.length]]⟩),(1,⟨1,r.map (ow eI)⟩),(2,⟨3,[lL]⟩),(3,⟨1,x1.2.2.map (ow eI)⟩)] 4)) (bO (bN k2) (fV k<|cD k<|bS k<|cD k<|aR) k4) ?_ ?_
   ·intro x3 o h;refine sR<|cm k4<|an<|tn<|sQ<|dC k h (λ_ h=>?_) λ_ h=>bA<|aB<|aB<|sp h ⟨_,k,k,(bO (bN k2) (fV k<|cD k<|bS k<|cD k<|aR) k4)⟩;refine aI<|tn<|sQ<|aE<|sR<|am k k<|aT k2<|aQ fW<|am k k<|am k k<|lp k8<|am k k<|oB h λv12 hv12 h=>ae (AEff.pureE (sU (σ:=sg [(0,1)]) (σ':=sg [(1,0)]) (touch:=[1]) (news:=[]) (hl2:=[(1,⟨1,x3.1.map (ow eI)⟩)]) (n':=4) (r2:= .own 1 (0+(wr (y8*v1.cols)).toNat) ((wr ((wr (y8+1))*v1.cols)).toNat - (wr (y8*v1.cols)).toNat)) (jF (⟨v1.rows,v1.cols,x3.1⟩:Mt) y8 v12 hv12) k k ⟨_,_,k,⟨_,_,k,k,⟨_,_,k,k,⟨_,_,k,⟨k,k,k,k⟩,k⟩⟩⟩,⟨_,_,k,k,k⟩⟩ ⟨⟨_,k,k,.inl ⟨k,cW.plainO _⟩⟩,k,aR⟩ k k k ⟨⟨_,k,k,.inl ⟨k,cW.plainO _⟩⟩,k,aR⟩ k ⟨k,k,(by simp only [aO,lA,lT,lR,lC,lN]),k⟩ k ⟨k,cW.tame _ _,aR⟩ k k) ⟨k,k,aR⟩) k<|am k k<|lp k8<|am k k<|oB h λv13 hv13 h=>ae (AEff.pureE (sU (σ:=sg [(0,1)]) (σ':=sg [(1,0)]) (touch:=[1]) (news:=[]) (hl2:=[(1,⟨1,x3.1.map (ow eI)⟩)]) (n':=4) (r2:= .own 1 (0+(wr (y8*v1.cols)).toNat) ((wr ((wr (y8+1))*v1.cols)).toNat - (wr (y8*v1.cols)).toNat)) (jF (⟨v1.rows,v1.cols,x3.1⟩:Mt) y8 v13 hv13) k k ⟨_,_,k,⟨_,_,k,k,⟨_,_,k,k,⟨_,_,k,⟨k,k,k,k⟩,k⟩⟩⟩,⟨_,_,k,k,k⟩⟩ ⟨⟨_,k,k,.inl ⟨k,cW.plainO _⟩⟩,k,aR⟩ k k k ⟨⟨_,k,k,.inl ⟨k,cW.plainO _⟩⟩,k,aR⟩ k ⟨k,k,(by simp only [aO,lA,lT,lR,lC,lN]),k⟩ k ⟨k,cW.tame _ _,aR⟩ k k) ⟨k,k,aR⟩) k<|am k k<|cG h λq15 h=>oB h λv14 hv14 h=>ae (lP aL q15 k k k k k k k) k<|ae (fG aL k k k k (aAu (hv14)) k k) k<|am k k<|am k k<|cG h λq17 h=>oB h λv16 hv16 h=>ae (lP aL q17 k k k k k k k) k<|ae (fG aL k k k k (aAu (hv16)) k k) k<|cG h λq19 h=>oB h λv18 hv18 h=>ae (lP aL q19 k k k k k k k) k<|ae (gE aL jZ (u:=v14) (hv18) k k k k k k) k ?_;exact cG h λq21 h=>oB h λv20 hv20 h=>ae (lP aL q21 k k k k k k k) k<|ae (gE aL jZ (u:=v16) (hv20) k k k k k k) k<|an<|nH (by kernel_rfl)<|aZ<|tn<|rg<|ae (bJ k k) k<|am k k<|an<|tn<|sp h ⟨_,k,(bO (bN k2) (hX ⟨_,k,k,.inr ⟨_,_,k,⟨_,_,k,k,⟨_,_,k,k,⟨_,_,k,⟨k,k,(by simp only [aO,lA,lT,lR,lC,lN]),k⟩,k⟩⟩⟩,k⟩⟩ k<|cD k<|bS k<|cD k<|aR) k4)⟩
   ·rintro e t ⟨rfl,hent⟩;refine aP<|tn<|aN hent<|sR<|am k k<|am k k<|am k k<|cG h λq24 h=>oB h λv23 hv23 h=>ae (lP aL q24 k k k k k k k) k<|ae (fG aL k k k k (aAu (hv23)) k k) k<|oB h λv25 hv25 h=>ae (aS (aFr a0 v23 v25 hv25) k (dF k (dF k aU))) k<|aT k2<|sQ<|sR<|am k k<|ae (cN aL k k k k) k<|am k k<|an<|tn<|aE<|oB h λy32 hy32 h=>cH (body:=(uL a0 v1 v25 x1)) hy32 (λ(x4:(aA×Int))=>mN [(0,.int a0),(3,.ptr 0 0 0),(4,.ptr 2 0 0),(6,.own 3 0 x1.2.2.length),(7,.int x1.1),(9,.own 1 (0+(wr (((x1.2.2.length:Nat):Int)*v1.cols)).toNat) ((wr ((wr (((x1.2.2.length:Nat):Int)+1))*v1.cols)).toNat - (wr (((x1.2.2.length:Nat):Int)*v1.cols)).toNat)),(11,.int v25),(17,.int v1.cols),(18,.int x1.1),(77,.int ((((wr ((wr (((x1.2.2.length:Nat):Int)+1))*v1.cols)).toNat - (wr (((x1.2.2.length:Nat):Int)*v1.cols)).toNat):Nat):Int)),(78,.int x4.2)] [(0,⟨3,[[.int v1.rows,.int v1.cols,.own 1 0 x4.1.length]]⟩),(1,⟨1,x4.1.map (ow eI)⟩),(2,⟨3,[lL]⟩),(3,⟨1,x1.2.2.map (ow eI)⟩)] 4) (λr e t=>e= .exit 6/\Ent t (mN [(0,.int a0),(3,.ptr 0 0 0),(4,.ptr 2 0 0),(6,.own 3 0 x1.2.2.length),(7,.int x1.1),(9,.own 1 (0+(wr (((x1.2.2.length:Nat):Int)*v1.cols)).toNat) ((wr ((wr (((x1.2.2.length:Nat):Int)+1))*v1.cols)).toNat - (wr (((x1.2.2.length:Nat):Int)*v1.cols)).toNat)),(17,.int v1.cols),(18,.int x1.1)] [(0,⟨3,[[.int v1.rows,.int v1.cols,.own 1 0 r.length]]⟩),(1,⟨1,r.map (ow eI)⟩),(2,⟨3,[lL]⟩),(3,⟨1,x1.2.2.map (ow eI)⟩)] 4)) (bO (bN k2) (fV k<|cD k<|bS k<|cD k<|aR) k4) ?_ ?_
    ·intro x4 o h;refine sR<|cm k4<|an<|tn<|sQ<|dC k h (λ_ h=>?_) λ_ h=>bA<|aB<|aB<|sp h ⟨_,k,k,(bO (bN k2) (fV k<|cD k<|bS k<|cD k<|aR) k4)⟩;refine aI<|tn<|sQ<|aE<|sR<|am k k<|aT k2<|rg<|am k k<|am k k<|am k k<|am k k<|cG h λq28 h=>oB h λv27 hv27 h=>ae (lP aL q28 k k k k k k k) k<|ae (fG aL k k k k (aAu (hv27)) k k) k<|am k k<|ae (gC k k) k<|am k k<|cG h λq31 h=>ae (aDg k k q31) k<|cG h λq30 h=>oB h λv29 hv29 h=>ae (lP aL q30 k k k k k k k) k<|ae (gE aL jZ (u:=(wr (v27*v25)).tmod a0) (hv29) k k k k k k) k<|an<|aZ<|tn<|rg<|ae (bJ k k) k<|am k k ?_;exact an<|tn<|sp h ⟨_,k,(bO (bN k2) (hX ⟨_,k,k,.inr ⟨_,_,k,⟨_,_,k,k,⟨_,_,k,k,⟨_,_,k,⟨k,k,(by simp only [aO,lA,lT,lR,lC,lN]),k⟩,k⟩⟩⟩,k⟩⟩ k<|cD k<|bS k<|cD k<|aR) k4)⟩
    ·rintro e t ⟨rfl,hent⟩;refine aP<|tn<|aN hent<|sQ<|sR<|fp k8<|lp k8<|am k k<|an<|tn<|aE<|oB h λy41 hy41 h=>cH (body:=(uM a0 v1 x1)) hy41 (λ(x5:(aA×Int))=>mN [(0,.int a0),(3,.ptr 0 0 0),(4,.ptr 2 0 0),(6,.own 3 0 x1.2.2.length),(7,.int x1.1),(9,.own 1 (0+(wr (((x1.2.2.length:Nat):Int)*v1.cols)).toNat) ((wr ((wr (((x1.2.2.length:Nat):Int)+1))*v1.cols)).toNat - (wr (((x1.2.2.length:Nat):Int)*v1.cols)).toNat)),(17,.int v1.cols),(18,.int x1.1),(94,.int v1.rows),(95,.int x5.2)] [(0,⟨3,[[.int v1.rows,.int v1.cols,.own 1 0 x5.1.length]]⟩),(1,⟨1,x5.1.map (ow eI)⟩),(2,⟨3,[lL]⟩),(3,⟨1,x1.2.2.map (ow eI)⟩)] 4) (λr e t=>e= .exit 8/\Ent t (mN [(0,.int a0),(3,.ptr 0 0 0),(4,.ptr 2 0 0),(6,.own 3 0 x1.2.2.length),(7,.int x1.1),(17,.int v1.cols),(18,.int x1.1)] [(0,⟨3,[[.int v1.rows,.int v1.cols,.own 1 0 r.length]]⟩),(1,⟨1,r.map (ow eI)⟩),(2,⟨3,[lL]⟩),(3,⟨1,x1.2.2.map (ow eI)⟩)] 4)) (bO (bN k2) (fV k<|cD k<|bS k<|cD k<|aR) k4) ?_ ?_
     ·intro x5 o h;refine sR<|cm k4<|an<|tn<|sQ<|dC k h (λ_ h=>?_) λ_ h=>bA<|aB<|aB<|sp h ⟨_,k,k,(bO (bN k2) (fV k<|cD k<|bS k<|cD k<|aR) k4)⟩;refine aI<|tn<|sQ<|aE<|sR<|am k k<|aT k2<|sR<|am k k<|am k k<|ae (cN aL k k k k) k<|cm k4<|an<|tn<|dC k h (λ_ h=>?_) λ_ h=>aI<|aZ<|tn<|rg<|ae (bJ k k) k<|am k k<|an<|tn<|sp h ⟨_,k,(bO (bN k2) (fV k<|cD k<|bS k<|cD k<|aR) k4)⟩;exact aQ fW<|am k k<|lp k8<|am k k<|oB h λv35 hv35 h=>ae (AEff.pureE (sU (σ:=sg [(0,1)]) (σ':=sg [(1,0)]) (touch:=[1]) (news:=[]) (hl2:=[(1,⟨1,x5.1.map (ow eI)⟩)]) (n':=4) (r2:= .own 1 (0+(wr (x5.2*v1.cols)).toNat) ((wr ((wr (x5.2+1))*v1.cols)).toNat - (wr (x5.2*v1.cols)).toNat)) (jF (⟨v1.rows,v1.cols,x5.1⟩:Mt) x5.2 v35 hv35) k k ⟨_,_,k,⟨_,_,k,k,⟨_,_,k,k,⟨_,_,k,⟨k,k,k,k⟩,k⟩⟩⟩,⟨_,_,k,k,k⟩⟩ ⟨⟨_,k,k,.inl ⟨k,cW.plainO _⟩⟩,k,aR⟩ k k k ⟨⟨_,k,k,.inl ⟨k,cW.plainO _⟩⟩,k,aR⟩ k ⟨k,k,(by simp only [aO,lA,lT,lR,lC,lN]),k⟩ k ⟨k,cW.tame _ _,aR⟩ k k) ⟨k,k,aR⟩) k<|am k k<|lp k8<|am k k<|oB h λv36 hv36 h=>ae (AEff.pureE (sU (σ:=sg [(0,1)]) (σ':=sg [(1,0)]) (touch:=[1]) (news:=[]) (hl2:=[(1,⟨1,x5.1.map (ow eI)⟩)]) (n':=4) (r2:= .own 1 (0+(wr (x5.2*v1.cols)).toNat) ((wr ((wr (x5.2+1))*v1.cols)).toNat - (wr (x5.2*v1.cols)).toNat)) (jF (⟨v1.rows,v1.cols,x5.1⟩:Mt) x5.2 v36 hv36) k k ⟨_,_,k,⟨_,_,k,k,⟨_,_,k,k,⟨_,_,k,⟨k,k,k,k⟩,k⟩⟩⟩,⟨_,_,k,k,k⟩⟩ ⟨⟨_,k,k,.inl ⟨k,cW.plainO _⟩⟩,k,aR⟩ k k k ⟨⟨_,k,k,.inl ⟨k,cW.plainO _⟩⟩,k,aR⟩ k ⟨k,k,(by simp only [aO,lA,lT,lR,lC,lN]),k⟩ k ⟨k,cW.tame _ _,aR⟩ k k) ⟨k,k,aR⟩) k<|am k k<|cG h λq38 h=>oB h λv37 hv37 h=>ae (lP aL q38 k k k k k k k) k<|ae (fG aL k k k k (aAu (hv37)) k k) k<|ae (gK k k) k<|am k k<|oB h λv39 hv39 h=>ae (sU (σ:=sg [(0,1)]) (σ':=sg [(1,0)]) (touch:=[1]) (news:=[]) (hl2:=[(1,⟨1,v39.map (ow eI)⟩)]) (n':=4) (r2:= .own 1 (0+(wr (x5.2*v1.cols)).toNat) ((wr ((wr (x5.2+1))*v1.cols)).toNat - (wr (x5.2*v1.cols)).toNat)) (aCR a0 x5.1 (0+(wr (x5.2*v1.cols)).toNat) ((wr ((wr (x5.2+1))*v1.cols)).toNat - (wr (x5.2*v1.cols)).toNat) (wr (a0 - v37)) (0+(wr (((x1.2.2.length:Nat):Int)*v1.cols)).toNat) ((wr ((wr (((x1.2.2.length:Nat):Int)+1))*v1.cols)).toNat - (wr (((x1.2.2.length:Nat):Int)*v1.cols)).toNat) v39 hv39) k k ⟨_,_,k,k,⟨_,_,k,⟨k,k,k,k⟩,⟨_,_,k,k,⟨_,_,k,⟨k,k,k,k⟩,k⟩⟩⟩⟩ ⟨⟨_,k,k,.inl ⟨k,cW.plainO _⟩⟩,k,aR⟩ k k k ⟨⟨_,k,k,.inl ⟨k,cW.plainO _⟩⟩,k,aR⟩ k ⟨k,k,(by simp only [aO,lA,lT,lR,lC,lN]),k⟩ k ⟨k,cW.tame _ _,aR⟩ k k) k<|cG h λq40 h=>an<|nH (by kernel_rfl)<|aZ<|tn<|rg<|ae (bJ k k) k<|am k k<|an<|tn<|sp h ⟨_,k,(bO (bN k2) (hX ⟨_,k,k,.inr ⟨_,_,k,⟨_,_,k,k,⟨_,_,k,k,⟨_,_,k,⟨k,k,(by simp only [aO,lA,lT,lR,lC,lN,of_decide_eq_true q40]),k⟩,k⟩⟩⟩,k⟩⟩ k<|cD k<|bS k<|cD k<|aR) k4)⟩
     ·rintro e t ⟨rfl,hent⟩;exact aP<|tn<|aN hent<|rg<|am k k<|am k k<|ae (wl k) k<|cG h λq42 h=>ae (lO aL (l:=x1.2.2) (m:=[x1.1]) jZ q42 k k k k k k k k k k k k) k<|aa k k<|an<|aZ<|tn<|rg<|ae (bJ k k) k<|am k k<|an<|tn<|sp h ⟨_,k,(kE [0,1,2,5] (bN k2) (fV k<|cD k<|bS k<|cD k<|aR) k4)⟩
 ·rintro e t ⟨rfl,hent⟩;exact aP<|tn<|aN hent<|sR<|lp k8<|am k k<|ae (ws k) k<|aT k2<|aG<|sp h (cA k k k (dW k (cI (mD (bH (k) (bH (k) (bH (gF cW k k) gI)))) (cI (yO (gF cW k k)) gQ))))
def zR (a0:Int) (a1:Mt):Option Int:=
 (zE a0 a1).bind λv1=>
 some (((v1.2.length:Nat):Int))
theorem aHt (a0:Int) (a1:Mt) (r:Int) (h:zR a0 a1=some r):HasC Tryz.prog 168 [.int a0,.agg (eM a1)] (.int r):=by
 exact hM [.tmp 4] Tryz.func168 Tryz.ntmps168 k<|sR<|ae (wb k) k<|aT k2<|sR<|am k k<|lp k8<|oB h λv1 hv1 h=>ae (AEff.conv (gJ (x:= .tuple [.agg [.int v1.1.rows,.int v1.1.cols,.own 1 0 (v1.1.cells.map eI).length],.own 2 0 (v1.2.map eI).length]) (nb:=[(1,⟨1,cK (v1.1.cells.map eI)⟩),(2,⟨1,cK (v1.2.map eI)⟩)]) (aKg a0 a1 v1 hv1) k (by rfl) k k (cV (bY aR (bY aR (bY (cW.good _) kY))) (cV (cW.good _) kM)) (dF k (aX (iL k) aU))) (v':= .tuple [.agg [.int v1.1.rows,.int v1.1.cols,.own 1 0 v1.1.cells.length],.own 2 0 v1.2.length]) (ed':=[(1,some ⟨1,v1.1.cells.map (ow eI)⟩),(2,some ⟨1,v1.2.map (ow eI)⟩)]) (by simp only [aO]) (oV (nb':=[(1,⟨1,v1.1.cells.map (ow eI)⟩),(2,⟨1,v1.2.map (ow eI)⟩)]) (by simp only [fJ]))) k<|am k k<|ae (aW k k (by intro _ h;cases h)) k<|ae (aW k k (by intro _ h;cases h)) k<|ae (cB aL k k) k<|ae (ws k) k<|aT k2<|sR<|am k k<|ae (cN aL k k k k) k<|aT k2<|aG<|xQ h k2
def yR (a0:Rp) (a1:Rp):Option Bool:=
 (xV a0).bind λv1=>
 bif v1 then
 ((xV a1).bind λv3=>
 bif v3 then
 (bif decide (a0.p=a1.p) then
 ((pU a0.q a1.q).bind λv6=>
 some (v6))
 else
 (some (false)))
 else
 (some (false)))
 else
 (some (false))
theorem aJb (a0:Rp) (a1:Rp) (r:Bool) (h:yR a0 a1=some r):HasC Tryz.prog 79 [.agg (eR a0),.agg (eR a1)] (.bl r):=by
 exact hM [.tmp 4] Tryz.func79 Tryz.ntmps79 k<|sR<|ae (wb k) k<|ae (wb k) k<|aT k2<|sR<|lp k8<|oB h λv1 hv1 h=>ae (aS (aFt a0 v1 hv1) k (aX (iL k) aU)) k<|am k k<|kI h (λq2 h=>aH 7 k q2<|lp k8<|oB h λv3 hv3 h=>ae (aS (aFt a1 v3 hv3) k (aX (iL k) aU)) k<|pk k3<|am k k<|kI h (λq4 h=>aH 11 k q4<|fp k8<|lp k8<|fp k8<|lp k8<|cm k4<|pk k3<|am k k<|kI h (λq5 h=>aH 18 k q5<|fp k8<|lp k8<|fp k8<|lp k8<|oB h λv6 hv6 h=>ae (aS (aEi a0.q a1.q v6 hv6) k (aX (iL k) (aX (iL k) aU))) k<|pk k3<|aT k2<|aG<|kD h k2) λq5 h=>aH 18 k q5<|aK k4<|aK k4<|ak k k<|pk k3<|aT k2<|aG<|kD h k2) λq4 h=>aH 11 k q4<|aK k4<|aK k4<|ak k k<|pk k3<|am k k<|aK k4<|aK k4<|ak k k<|pk k3<|aT k2<|aG<|kD h k2) λq2 h=>aH 7 k q2<|aK k4<|pk k3<|am k k<|aK k4<|aK k4<|ak k k<|pk k3<|am k k<|aK k4<|aK k4<|ak k k<|pk k3<|aT k2<|aG<|kD h k2
def dQ (a0:aD) (x1:(Int×Int)):Option ((Int×Int) ⊕ Int):=
 bif decide (x1.2<(a0.length:Int)) then
 ((cO a0 x1.2).bind λv2=>
 bif decide (wr (x1.1+(v2.length:Int))<0) then
 (none)
 else
 (some (.inl (wr (x1.1+(v2.length:Int)),wr (x1.2+1)))))
 else
 (some (.inr x1.1))
def dR (a0:aD) (x2:(aA×Int)):Option ((aA×Int) ⊕ aA):=
 bif decide (x2.2<(a0.length:Int)) then
 ((cO a0 x2.2).bind λv7=>
 bif decide (x2.1.length+v7.length<=4294967296) then
 (some (.inl ((x2.1++v7),wr (x2.2+1))))
 else none)
 else
 (some (.inr x2.1))
def kV (a0:aD):Option aA:=
 (Lp (dQ a0) (0,0)).bind λy4=>
 (aPv y4).bind λv5=>
 (Lp (dR a0) (v5,0)).bind λy9=>
 some (y9)
theorem aBt (a0:aD) (r:aA) (h:kV a0=some r):HasC Tryz.prog 172 [.list 1 (a0.map (bU 1 eI))] (.list 1 (r.map eI)):=by
 refine hM [.tmp 2] Tryz.func172 Tryz.ntmps172 k<|sR<|aT k2<|sR<|aT k2<|sQ<|sR<|am k k<|ln k4<|am k k<|an<|tn<|aE<|oB h λy4 hy4 h=>cH (body:=(dQ a0)) hy4 (λ(x1:(Int×Int))=>mN [(0,.list 1 (a0.map (bU 1 eI))),(3,.int x1.1),(9,.list 1 (a0.map (bU 1 eI))),(10,.int (a0.length:Int)),(11,.int x1.2)] [] 0) (λr e t=>e= .exit 0/\Ent t (mN [(0,.list 1 (a0.map (bU 1 eI))),(3,.int r)] [] 0)) (bO (bN k2) aR k4) ?_ ?_
 ·intro x1 o h;refine sR<|cm k4<|an<|tn<|sQ<|dC k h (λ_ h=>?_) λ_ h=>bA<|aB<|aB<|sp h ⟨_,k,k,(bO (bN k2) aR k4)⟩;refine aI<|tn<|sQ<|aE<|sR<|oB h λv2 hv2 h=>ae (xl hv2 k) k<|lr k7<|aT k2<|sR<|am k k<|am k k<|ln k4<|ae (bJ k k) k<|aT k2<|sR<|am k k<|cm k4<|an<|tn<|dC k h (λ_ h=>?_) λ_ h=>aI<|aZ<|tn<|rg<|ae (bJ k k) k<|am k k<|an<|tn<|sp h ⟨_,k,(bO (bN k2) aR k4)⟩;refine rg ?_;cases h
 ·rintro e t ⟨rfl,hent⟩;refine aP<|tn<|aN hent<|sR<|am k k<|oB h λv5 hv5 h=>ae (cL cW (aXt y4 v5 hv5) k3 (aX aWI (dF k aU))) k<|aT k2<|sQ<|sR<|am k k<|ln k4<|am k k<|an<|tn<|aE<|oB h λy9 hy9 h=>cH (body:=(dR a0)) hy9 (λ(x2:(aA×Int))=>mN [(6,.own 0 0 x2.1.length),(25,.list 1 (a0.map (bU 1 eI))),(26,.int (a0.length:Int)),(27,.int x2.2)] [(0,⟨1,x2.1.map (ow eI)⟩)] 1) (λr e t=>e= .exit 2/\Ent t (mN [(6,.own 0 0 r.length)] [(0,⟨1,r.map (ow eI)⟩)] 1)) (bO (bN k2) (cD k<|aR) k4) ?_ ?_
  ·intro x2 o h;exact sR<|cm k4<|an<|tn<|sQ<|dC k h (λ_ h=>aI<|tn<|sQ<|aE<|sR<|oB h λv7 hv7 h=>ae (xl hv7 k) k<|lr k7<|aT k2<|rg<|am k k<|am k k<|cG h λq8 h=>ae (lO aL (l:=x2.1) (m:=v7) jZ q8 k k k k k k k k k k k k) k<|aa k k<|an<|aZ<|tn<|rg<|ae (bJ k k) k<|am k k<|an<|tn<|sp h ⟨_,k,(kE [1] (bN k2) (cD k<|aR) k4)⟩) λ_ h=>bA<|aB<|aB<|sp h ⟨_,k,k,(bO (bN k2) (cD k<|aR) k4)⟩
  ·rintro e t ⟨rfl,hent⟩;exact aP<|tn<|aN hent<|sR<|am k k<|aT k2<|aG<|sp h (cA k k k (pS (gF cW k k)))
end
section
def bI (l:aA):Prop:=l.length<=1048576
def bQ (q:Qv):Prop:=bI q.src/\bI q.tgt/\True
def bM (m:Mt):Prop:=bI m.cells/\True
def bR (r:Rp):Prop:=bQ r.q/\bI r.dims/\(r.maps.length<=1048576/\ ∀ m∈r.maps,bM m)/\True
theorem aUI {α:Type} [DecidableEq α] {body:Int->Option (Int ⊕ (Unit ⊕ Bool))} {a b:List α} (hl:a.length<=4611686018427387904) (hab:a.length=b.length)
  (hs: ∀ (k:Nat) (h1:k<a.length) (h2:k<b.length),body k=some (bif decide (a[k]=b[k]) then .inl (wr (k+1)) else .inr (.inr false))) (he:body a.length=some (.inr (.inl ()))):
  Option.bind (Lp body 0) (λy=>Sum.elim (λ_=>some true) (λy=>some y) y)=some (decide (a=b)):=by
 have key: ∀ (P:Nat->Bool),(∀ (k:Nat) (h1:k<a.length) (h2:k<b.length),P k=decide (a[k]=b[k]))->Lp body 0=some (bif (List.range a.length).all P then .inl () else .inr false)->Option.bind (Lp body 0) (λy=>Sum.elim (λ_=>some true) (λy=>some y) y)=some (decide (a=b)):=by
  intro P hP e;rw [e,aC]
  have:(List.range a.length).all P=decide (a=b):=by
   rw [Bool.eq_iff_iff,yL,gR];constructor
   ·intro h;refine List.ext_getElem hab λk h1 h2=>?_;have:=h k h1;rw [hP k h1 h2] at this;exact of_decide_eq_true this
   ·rintro rfl k hk;rw [hP k hk hk];simp
  rw [this];cases decide (a=b) <;> rfl
 refine key (λk=>if h:k<a.length then if h2:k<b.length then decide (a[k]=b[k]) else false else false) (λk h1 h2=>by rw [dif_pos h1,dif_pos h2]) (yK _ _ hl (λk hk=>?_) (λ_=>he));rw [dif_pos hk,dif_pos (hab▸hk)];exact hs k hk (hab▸hk)
theorem aUJ {α β:Type} {a:List α} {b:List β} :decide ((a.length:Int)=(b.length:Int))=decide (a.length=b.length):=by
 rw [Bool.eq_iff_iff,gR,gR];omega
theorem aMk {body:Int->Option (Int ⊕ (Unit ⊕ Bool))} {a b:aA} (hl:a.length<=4611686018427387904)
  (hb:body=λx=>bif decide (x<(a.length:Int)) then (Option.bind (cO a x) λv3=>Option.bind (cO b x) λv4=>bif !decide (v3=v4) then (some (.inr (.inr (false)))) else (some (.inl (wr (x+1))))) else (some (.inr (.inl ())))):
  (bif !decide ((a.length:Int)=(b.length:Int)) then some false else Option.bind (Lp body 0) (λy=>Sum.elim (λ_=>some true) (λy=>some y) y))=some (decide (a=b)):=by
 rw [aUJ];by_cases h:a.length=b.length
 ·rw [bK h,eP,aY];refine aUI hl h (λk h1 h2=>?_) ?_
  ·rw [hb];simp only;rw [kC h1,aJ,hZ h1,aC,hZ h2,aC];cases decide (a[k]=b[k]) <;> rfl
  ·rw [hb];simp only;rw [lM (bP _),aY]
 ·rw [cR h,Bool.not_false,aJ,cR (by rintro rfl;exact h rfl)]
theorem zS {c d:Bool} {o:Option Bool} (h:c=true->o=some d):(bif !c then some false else o)=some (c&&d):=by cases c with|false=>rfl|true=>exact h rfl
theorem jI {c d:Bool} {o:Option Bool} (h:c=true->o=some d):(bif c then o else some false)=some (c&&d):=by cases c with|false=>rfl|true=>exact h rfl
theorem aBB {c d:Bool} :(bif c then some d else some false)=some (c&&d):=by cases c <;> rfl
theorem aRB {x a b:Int} :(bif decide (a<=x) then some (decide (x<=b)) else some false)=some (inR x a b):=by
 rw [aBB];unfold inR;by_cases h1:a<=x <;> by_cases h2:x<=b <;> simp [h1,h2]
theorem aDm (x a b:Int):pM x a b=some (inR x a b):=aRB
theorem aBu (x a b:Int):lB x a b=some (inR x a b):=aRB
theorem aOP (p:Int):(bif decide (p=2) then some true else bif decide (p=3) then some true else some (decide (p=5)))=some (yJ p):=by
 unfold yJ;by_cases h2:p=2 <;> by_cases h3:p=3 <;> by_cases h5:p=5 <;> simp [h2,h3,h5]
theorem aFv (p:Int):qR p=some (yJ p):=aOP p
theorem aFw (p:Int):nO p=some (yJ p):=aOP p
theorem aFx {a b:aA} (h:bI a):tB a b=some (decide (a=b)):=by
 unfold bI at h;exact aMk (body:=yQ a b) (by omega) rfl
theorem aEW {a b:aA} (h:bI a):gT a b=some (decide (a=b)):=by
 unfold bI at h;exact aMk (body:=nN a b) (by omega) rfl
theorem aSR {a b:Qv} (h:bQ a):pT a b=some (decide (a=b)):=by
 unfold pT;rw [jI (d:=decide (a.src=b.src)&&decide (a.tgt=b.tgt)) (λ_=>?_)]
 ·cases a;cases b;simp
 ·rw [aFx h.1,aC];refine jI λ_=>?_;rw [aFx h.2.1,aC]
theorem aSS {a b:Qv} (h:bQ a):pU a b=some (decide (a=b)):=by
 unfold pU;rw [jI (d:=decide (a.src=b.src)&&decide (a.tgt=b.tgt)) (λ_=>?_)]
 ·cases a;cases b;simp
 ·rw [aEW h.1,aC];refine jI λ_=>?_;rw [aEW h.2.1,aC]
theorem aST (p:Int) {v:aA} (h:bI v):vY p v=some (yJ p&&decide (v.length<=64)&&v.all λx=>inR x 0 (wr (p - 1))):=by
 unfold bI at h;unfold vY;rw [aFv,aC];cases yJ p with
 |false=>rfl
 |true=>
  rw [eP,aY,Bool.true_and];by_cases h64:v.length<=64
  ·rw [cR (by omega),aY,bK h64,Bool.true_and];rw [yK (λk=>inR (v[k]?.getD 0) 0 (wr (p - 1))) false (n:=v.length) (by omega) (λk hk=>?_) (λ_=>?_),aCH 0 v (λx=>inR x 0 (wr (p - 1))),aC]
   ·cases v.all _ <;> rfl
   ·unfold rV;rw [kC hk,aJ,tS 0 hk,aC,aBu,aC];cases inR _ 0 _ <;> rfl
   ·unfold rV;rw [lM (bP _),aY]
  ·rw [bK (by omega),aJ,cR h64,Bool.false_and]
theorem aOQ {v:aA} {f:Int->Option Bool} (P:Int->Bool) (hf: ∀ x,f x=some (P x)) (h:bI v): ∃ i:Int,fN v f=some i/\decide (0<=i)=v.any P:=by
 unfold bI at h;unfold fN;rw [xI (s0:=0) (s:=0) (n:=v.length) (λk=>bif P (v[k]?.getD 0) then some (k:Int) else none) rfl (by omega) (Nat.zero_le _) (λk _ hk=>?_) (λ_=>?_)]
 ·rw [aC];cases e:(List.range' 0 (v.length - 0)).findSome? (λk:Nat=>bif P (v[k]?.getD 0) then some (k:Int) else none) with
  |none=>
   refine ⟨-1,rfl,?_⟩;rw [List.findSome?_eq_none_iff] at e
   have:v.any P=false:=by
    rw [List.any_eq_false];intro x hx;obtain ⟨k,hk,rfl⟩:=List.mem_iff_getElem.1 hx;have:=e k (by simp;omega);simp only [fP hk,kS] at this;cases hp:P v[k] with
    |false=>simp
    |true=>rw [hp] at this;cases this
   rw [this];rfl
  |some i=>
   refine ⟨i,rfl,?_⟩;obtain ⟨k,hk,he⟩:=List.exists_of_findSome?_eq_some e;simp at hk;have hkl:k<v.length:=by omega
   rw [fP hkl] at he;simp only [kS] at he;cases hp:P v[k] with
   |false=>rw [hp] at he;cases he
   |true=>
    rw [hp] at he;cases he;rw [bK (by omega),eq_comm,List.any_eq_true];exact ⟨_,List.getElem_mem hkl,hp⟩
 ·unfold dD;rw [kC hk,aJ,tS 0 hk,aC,hf,aC];cases P _ <;> rfl
 ·unfold dD;rw [lM (bP _),aY]
theorem zT {v:aA} (h:bI v) (a b:Int):iT v a b=some (v.all λx=>inR x a b):=by
 unfold iT cJ;obtain ⟨i,h1,h2⟩:=aOQ (f:=λb0=>nT b0 a b) (λx=> !inR x a b) (λx=>by simp only [nT];rw [aDm,aC]) h;rw [h1,aC,aC,h2,List.not_any_eq_all_not];simp
theorem aSU (p:Int) {v:aA} (h:bI v):wD p v=some (yJ p&&decide (v.length<=64)&&v.all λx=>inR x 0 (wr (p - 1))):=by
 unfold wD;rw [aFw,aC,zT h,aC,aBB,aBB,Bool.and_assoc];congr 3;rw [Bool.eq_iff_iff,gR,gR];omega
def aGy (p:Int) (m:Mt):Bool:=inR m.rows 0 8&&(inR m.cols 0 8&&(decide ((m.cells.length:Int)=wr (m.rows*m.cols))&&(yJ p&&decide (m.cells.length<=64)&&m.cells.all λx=>inR x 0 (wr (p - 1)))))
theorem aSV (p:Int) {m:Mt} (h:bM m):vZ p m=some (aGy p m):=by
 unfold vZ aGy;rw [aBu,aC];refine jI λ_=>?_;rw [aBu,aC];refine jI λ_=>?_;refine jI λ_=>?_;rw [aST p h.1,aC]
theorem aSW (p:Int) {m:Mt} (h:bM m):wF p m=some (aGy p m):=by
 unfold wF aGy;rw [aDm,aC];refine jI λ_=>?_;rw [aDm,aC];refine jI λ_=>?_;refine jI λ_=>?_;rw [aSU p h.1,aC]
theorem aPy {p:Int} {m:Mt} (h:aGy p m=true):yJ p=true/\ ∃ (r c:Nat) (F:Nat->Nat->Int),r<=8/\c<=8/\m=⟨r,c,dA r c F⟩/\ ∀ i j,i<r->j<c->0<=F i j/\F i j<p:=by
 unfold aGy at h;simp only [cY,gR,List.all_eq_true] at h;obtain ⟨h1,h2,h3,⟨h4,h5⟩,h6⟩:=h;have h1:=tW h1;have h2:=tW h2;refine ⟨h4,m.rows.toNat,m.cols.toNat,λi j=>m.cells[i*m.cols.toNat+j]?.getD 0,by omega,by omega,?_,?_⟩
 ·obtain ⟨a,b,l⟩:=m;simp only at*;obtain ⟨r,rfl⟩:=Int.eq_ofNat_of_zero_le h1.1;obtain ⟨c,rfl⟩:=Int.eq_ofNat_of_zero_le h2.1;have hb:r*c<=64:=Nat.mul_le_mul (by omega:r<=8) (by omega:c<=8);rw [aKc (by omega)] at h3;simp only [dX];rw [←aWF (by omega)]
 ·intro i j hi hj;show 0<=m.cells[i*m.cols.toNat+j]?.getD 0/\m.cells[i*m.cols.toNat+j]?.getD 0<p;have hx:=aJP hi hj
  have e:((m.rows.toNat*m.cols.toNat:Nat):Int)=m.rows*m.cols:=by
   rw [Int.natCast_mul,Int.toNat_of_nonneg h1.1,Int.toNat_of_nonneg h2.1]
  have hb:m.rows.toNat*m.cols.toNat<=64:=Nat.mul_le_mul (by omega:m.rows.toNat<=8) (by omega:m.cols.toNat<=8);rw [cU (by omega)] at h3;have hl:i*m.cols.toNat+j<m.cells.length:=by omega
  have:=tW (h6 _ (List.getElem_mem hl));rw [fP hl,kS];have hp:=jA h4;rw [cU (by omega)] at this;omega
def xJ (q:Qv):Bool:=inR q.n 1 5&&(decide ((q.src.length:Int)=(q.tgt.length:Int))&&(decide ((q.src.length:Int)<=6)&&((q.src.all λx=>inR x 0 (wr (q.n - 1)))&&(q.tgt.all λx=>inR x 0 (wr (q.n - 1))))))
theorem aIh {q:Qv} (h:bQ q):oN q=some (xJ q):=by
 unfold oN xJ;rw [aDm,aC];refine jI λ_=>jI λ_=>jI λ_=>?_;rw [zT h.1,aC];refine jI λ_=>?_;rw [zT h.2.1,aC]
theorem aEX {q:Qv} (h:bQ q):fS q=some (xJ q):=by
 obtain ⟨h1,h2,_⟩:=h;unfold bI at h1 h2;unfold fS;rw [yK (n:=min q.src.length q.tgt.length) (λk=>inR (q.src[k]?.getD 0) 0 (wr (q.n - 1))&&inR (q.tgt[k]?.getD 0) 0 (wr (q.n - 1))) false (by omega) (λk hk=>?_) (λ_=>?_)]
 ·rw [aC];unfold xJ;by_cases e:q.src.length=q.tgt.length
  ·have e2:min q.src.length q.tgt.length=q.src.length:=by omega
   have hall:(List.range q.src.length).all (λk=>inR (q.src[k]?.getD 0) 0 (wr (q.n - 1))&&inR (q.tgt[k]?.getD 0) 0 (wr (q.n - 1)))=((q.src.all λx=>inR x 0 (wr (q.n - 1)))&&(q.tgt.all λx=>inR x 0 (wr (q.n - 1)))):=by
    rw [←aCH 0 q.src,←aCH 0 q.tgt,←e];rw [Bool.eq_iff_iff,cY,yL,yL,yL];simp only [cY];exact ⟨λh=>⟨λk hk=>(h k hk).1,λk hk=>(h k hk).2⟩,λh k hk=>⟨h.1 k hk,h.2 k hk⟩⟩
   rw [e2,hall,bK (by omega:(q.src.length:Int)=(q.tgt.length:Int))];cases (q.src.all λx=>inR x 0 (wr (q.n - 1)))&&(q.tgt.all λx=>inR x 0 (wr (q.n - 1))) with
   |false=>simp
   |true=>
    simp only [aJ,Sum.elim_inl];rw [aBu,aC,bK (by omega:(q.tgt.length:Int)=(q.src.length:Int)),aBB,aBB];simp
  ·rw [cR (by omega: ¬ (q.src.length:Int)=(q.tgt.length:Int))];simp only [Bool.false_and,Bool.and_false];cases (List.range (min q.src.length q.tgt.length)).all _ with
   |false=>rfl
   |true=>
    simp only [aJ,Sum.elim_inl];rw [aBu,aC,cR (by omega: ¬ (q.tgt.length:Int)=(q.src.length:Int)),aBB,aBB];simp
 ·unfold nP;rw [kC (by omega),aJ,kC (by omega),aJ,tS 0 (by omega),aC,aBu,aC,tS 0 (by omega),aC,aBu,aC];cases inR (q.src[k]?.getD 0) 0 (wr (q.n - 1)) <;> cases inR (q.tgt[k]?.getD 0) 0 (wr (q.n - 1)) <;> rfl
 ·unfold nP;by_cases e:q.src.length<=q.tgt.length
  ·rw [lM (by omega),aY]
  ·rw [kC (by omega),aJ,lM (by omega),aY]
theorem zU {q:Qv} (h:xJ q=true): ∃ n:Nat,q.n=n/\1<=n/\n<=5/\q.src.length=q.tgt.length/\q.src.length<=6/\(∀ x∈q.src,0<=x/\x<n)/\ ∀ x∈q.tgt,0<=x/\x<n:=by
 unfold xJ at h;simp only [cY,gR,List.all_eq_true] at h;obtain ⟨h1,h2,h3,h4,h5⟩:=h;have h1:=tW h1;rw [cU (by omega)] at h4 h5;refine ⟨q.n.toNat,by omega,by omega,by omega,by omega,by omega,λx hx=>?_,λx hx=>?_⟩
 ·have:=tW (h4 x hx);omega
 ·have:=tW (h5 x hx);omega
def rM (q:Qv) (d:aA):Bool:=xJ q&&(decide ((d.length:Int)=q.n)&&((d.all λx=>inR x 0 4)&&decide (d.sum<=8)))
theorem aJc {d:aA} (h: ∀ x∈d,0<=x/\x<=4):0<=d.sum/\d.sum<=4*d.length:=by
 induction d with
 |nil=>simp
 |cons x d ih=>
  have h1:=h x (by simp);have h2:=ih λy hy=>h y (by simp [hy]);simp only [List.sum_cons,List.length_cons];omega
theorem aOR {d:aA} {k:Nat} (hk:k<d.length):(d.take (k+1)).sum=(d.take k).sum +d[k]?.getD 0:=by
 rw [aIm hk,List.sum_append];simp [hk]
theorem aIi {d:aA} (h: ∀ x∈d,0<=x/\x<=4) (hl:d.length<=1048576):rT d=some d.sum:=by
 unfold rT;rw [eX (r:=d.sum) (λk=>((d.take k).sum,(k:Int))) d.length (by simp) (λk hk=>?_) (λ_=>?_)];rfl
 ·unfold vW;simp only;rw [kC hk,aJ,tS 0 hk,aC,cC hk (by omega)];have h1:=aJc (d:=d.take (k+1)) λx hx=>h x (List.mem_of_mem_take hx);rw [←aOR hk,cU (by simp at h1;omega)]
 ·unfold vW;simp only;rw [lM (bP _),aY,List.take_length]
theorem aFH {q:Qv} {d:aA} (hq:bQ q) (hd:bI d):tZ q d=some (rM q d):=by
 unfold tZ rM;rw [aIh hq,aC];refine jI λ_=>jI λ_=>?_;rw [zT hd,aC];refine jI λh=>?_;rw [aIi (λx hx=>tW (List.all_eq_true.1 h x hx)) hd,aC]
theorem wX {q:Qv} {d:aA} (hq:bQ q) (hd:bI d):lD q d=some (rM q d):=by
 unfold bI at hd;unfold lD rM;rw [aEX hq,aC];refine zS λ_=>zS λ_=>?_;cases hall:d.all (λx=>inR x 0 4) with
 |true=>
  have hb: ∀ x∈d,0<=x/\x<=4:=λx hx=>tW (List.all_eq_true.1 hall x hx);rw [eX (r:= .inl d.sum) (λk=>((d.take k).sum,(k:Int))) d.length (by simp) (λk hk=>?_) (λ_=>?_)];rfl
  ·unfold lW;simp only;rw [kC hk,aJ,tS 0 hk,aC,aBu,aC];have hin:inR (d[k]?.getD 0) 0 4=true:=by rw [fP hk];exact List.all_eq_true.1 hall _ (List.getElem_mem hk)
   rw [hin,eP,aY,aC,cC hk (by omega)];have h1:=aJc (d:=d.take (k+1)) λx hx=>hb x (List.mem_of_mem_take hx);rw [←aOR hk,cU (by simp at h1;omega)]
  ·unfold lW;simp only;rw [lM (bP _),aY,List.take_length]
 |false=>
  have key:=aAZ (body:=lW d) (s:=(0,0)) (λs=> ∃ k:Nat,s.2=k/\k<=d.length/\ ∀ j,j<k->inR (d[j]?.getD 0) 0 4=true) (λs=>d.length - s.2.toNat) (λr=>r= .inr false)
   ⟨0,rfl,Nat.zero_le _,λj hj=>absurd hj (Nat.not_lt_zero _)⟩ (λs ⟨k,hs,hk,hj⟩=>?_)
  ·obtain ⟨r,h1,h2⟩:=key;rw [h1,h2];rfl
  ·obtain ⟨t,s2⟩:=s;simp only at hs;subst hs;rcases dV k d.length with hlt|hge
   ·unfold lW;simp only;rw [kC hlt,aJ,tS 0 hlt,aC,aBu,aC];cases hin:inR (d[k]?.getD 0) 0 4 with
    |false=>exact .inr ⟨_,rfl,rfl⟩
    |true=>
     rw [eP,aY,aC,cC hlt (by omega)];refine .inl ⟨_,rfl,⟨k+1,rfl,hlt,λj hj2=>?_⟩,by simp;omega⟩;by_cases e:j=k
     ·subst e;exact hin
     ·exact hj j (by omega)
   ·exfalso
    have:d.all (λx=>inR x 0 4)=true:=by
     rw [←aCH 0 d,yL];exact λj hj'=>hj j (by omega)
    rw [hall] at this;cases this
theorem xK {q:Qv} {d:aA} (h:rM q d=true):xJ q=true/\(d.length:Int)=q.n/\(∀ x∈d,0<=x/\x<=4)/\d.sum<=8:=by
 unfold rM at h;simp only [cY,gR,List.all_eq_true] at h;exact ⟨h.1,h.2.1,λx hx=>tW (h.2.2.1 x hx),h.2.2.2⟩
def aAg (r:Rp):Bool:=yJ r.p&&(rM r.q r.dims&&(decide ((r.maps.length:Int)=(r.q.src.length:Int))&&(List.range r.maps.length).all λk=>
 aGy r.p (r.maps[k]?.getD ⟨0,0,[]⟩)&&(decide ((r.maps[k]?.getD ⟨0,0,[]⟩).cols=r.dims[(r.q.src[k]?.getD 0).toNat]?.getD 0)&&decide ((r.maps[k]?.getD ⟨0,0,[]⟩).rows=r.dims[(r.q.tgt[k]?.getD 0).toNat]?.getD 0))))
theorem iH {α:Type} {l:List α} {k:Nat} (d:α) (h:k<l.length):l[k]?.getD d∈l:=by rw [fP h];exact List.getElem_mem h
theorem aLe {r:Rp} (h:bR r):xT r=some (aAg r):=by
 obtain ⟨h1,h2,⟨h3,h4⟩,_⟩:=h;unfold xT aAg;rw [aFv,aC];refine zS λhF=>?_;rw [wX h1 h2,aC];refine zS λhD=>?_;obtain ⟨hQ,hd1,hd2,_⟩:=xK hD;obtain ⟨n,hn,_,_,hq1,hq2,hq3,hq4⟩:=zU hQ;refine zS λhL=>?_;have hL:=of_decide_eq_true hL;rw [yK (λk=>aGy r.p (r.maps[k]?.getD ⟨0,0,[]⟩)&&(decide ((r.maps[k]?.getD ⟨0,0,[]⟩).cols=r.dims[(r.q.src[k]?.getD 0).toNat]?.getD 0)&&decide ((r.maps[k]?.getD ⟨0,0,[]⟩).rows=r.dims[(r.q.tgt[k]?.getD 0).toNat]?.getD 0))) false (n:=r.maps.length) (by omega) (λk hk=>?_) (λ_=>?_),aC]
 ·cases (List.range r.maps.length).all _ <;> rfl
 ·have hs:=hq3 _ (iH 0 (show k<r.q.src.length by omega));have ht:=hq4 _ (iH 0 (show k<r.q.tgt.length by omega));unfold wC;rw [kC hk,aJ,tS ⟨0,0,[]⟩ hk,aC,aSV _ (h4 _ (iH _ hk)),aC,aC,tS 0 (by omega),aC,atI 0 hs.1 (by omega),aC,aC,tS 0 (by omega),aC,atI 0 ht.1 (by omega),aC];cases aGy r.p _ <;> cases decide ((r.maps[k]?.getD _).cols=_) <;> cases decide ((r.maps[k]?.getD _).rows=_) <;> rfl
 ·unfold wC;rw [lM (bP _),aY]
theorem aLf {r:Rp} (h:bR r):xV r=some (aAg r):=by
 obtain ⟨h1,h2,⟨h3,h4⟩,_⟩:=h;unfold xV aAg;rw [aFw,aC];refine zS λhF=>?_;rw [aFH h1 h2,aC];refine zS λhD=>?_;obtain ⟨hQ,hd1,hd2,_⟩:=xK hD;obtain ⟨n,hn,_,_,hq1,hq2,hq3,hq4⟩:=zU hQ;refine zS λhL=>?_;have hL:=of_decide_eq_true hL;rw [yK (λk=>aGy r.p (r.maps[k]?.getD ⟨0,0,[]⟩)&&(decide ((r.maps[k]?.getD ⟨0,0,[]⟩).cols=r.dims[(r.q.src[k]?.getD 0).toNat]?.getD 0)&&decide ((r.maps[k]?.getD ⟨0,0,[]⟩).rows=r.dims[(r.q.tgt[k]?.getD 0).toNat]?.getD 0))) false (n:=r.maps.length) (by omega) (λk hk=>?_) (λ_=>?_),aC]
 ·cases (List.range r.maps.length).all _ <;> rfl
 ·have hs:=hq3 _ (iH 0 (show k<r.q.src.length by omega));have ht:=hq4 _ (iH 0 (show k<r.q.tgt.length by omega));unfold wG;rw [kC hk,aJ,tS ⟨0,0,[]⟩ hk,aC,aSW _ (h4 _ (iH _ hk)),aC,tS 0 (by omega),aC,atI 0 hs.1 (by omega),aC,tS 0 (by omega),aC,atI 0 ht.1 (by omega),aC];cases aGy r.p _ <;> cases decide ((r.maps[k]?.getD _).cols=_) <;> cases decide ((r.maps[k]?.getD _).rows=_) <;> rfl
 ·unfold wG;rw [lM (bP _),aY]
theorem aWL {a b:Rp} (ha:bR a) (hb:bR b):aAe a b=some (aAg a&&(aAg b&&(decide (a.p=b.p)&&decide (a.q=b.q)))):=by
 unfold aAe;rw [aLe ha,aC];refine jI λ_=>?_;rw [aLe hb,aC];refine jI λ_=>jI λ_=>?_;rw [aSR ha.1,aC]
theorem aXV {a b:Rp} (ha:bR a) (hb:bR b):yR a b=some (aAg a&&(aAg b&&(decide (a.p=b.p)&&decide (a.q=b.q)))):=by
 unfold yR;rw [aLf ha,aC];refine jI λ_=>?_;rw [aLf hb,aC];refine jI λ_=>jI λ_=>?_;rw [aSS ha.1,aC]
theorem aPz {a b:Int} (ha:0<=a/\a<=5) (hb:0<=b/\b<=5):0<=a*b/\a*b<=25:=by
 refine ⟨Int.mul_nonneg ha.1 hb.1,?_⟩;have:=Int.mul_le_mul ha.2 hb.2 hb.1 (by decide:(0:Int)<=5);omega
theorem aBf {x p:Int} (hp:yJ p=true):0<=x % p/\x % p<p:=by
 have:=jA hp;exact ⟨Int.emod_nonneg _ (by omega),Int.emod_lt_of_pos _ (by omega)⟩
theorem aCu {p x:Int} (hp:yJ p=true) (hx: -4611686018427387904<=x/\x<=4611686018427387904):kU p x=some (x % p):=by
 have hb:=jA hp;have hr:=aJN x p (by omega);unfold kU;rw [cR (by omega),Bool.not_false,aJ];rcases aJO x p (by omega) with ⟨h,e⟩|⟨h,e⟩
 ·rw [cR (by omega),aY,e]
 ·rw [bK h,aJ,cU (by omega),e];congr 1;omega
theorem aOS {p x:Int} (hp:yJ p=true):uJ p x=some (x % p):=by
 have hb:=jA hp;have hr:=aJN x p (by omega);unfold uJ;rw [aFw,hp,aC,eP,aY,cR (by omega),Bool.not_false,aJ,aJ,cU (by omega),aSG _ _ (by omega)]
theorem aQA {p x:Int} (hp:yJ p=true) {k:Nat} (hk:k<=1000):wB p x k=some (aMW p (x % p) k):=by
 have hb:=jA hp;unfold wB;rw [aFw,hp,aC,eP,aY,aDm,aEz (by omega) (by omega),aC,eP,aY];rw [eX (r:=aMW p (x % p) k) (λt=>(aMW p (x % p) t,(t:Int))) k (by rfl) (λt ht=>?_) (λ_=>?_),aC]
 ·unfold rZ;simp only;have h1:=aQw hp (aBf (x:=x) hp) t;have h2:=aBf (x:=x) hp;have h3:=aPz (a:=aMW p (x % p) t) (b:=x % p) (by omega) (by omega);rw [kC ht,aJ,aOS hp,aC,cR (by omega),Bool.not_false,aJ,cC ht (by omega),cU (by omega),Int.tmod_eq_emod_of_nonneg h3.1];rfl
 ·unfold rZ;simp only;rw [lM (bP _),aY]
theorem aSX {p x:Int} (hp:yJ p=true):tK p x=some (aEg p (x % p)):=by
 have hb:=jA hp;unfold tK aEg;rw [aFw,hp,aC,eP,aY,cU (by omega)];have e:max (p - 2) 1=(((max (p - 2) 1).toNat:Nat):Int):=by omega
 rw [e,aQA hp (by omega),aC,dX]
theorem aSY {p x:Int} (hp:yJ p=true) (hx: -4611686018427387904<=x/\x<=4611686018427387904):tJ p x=some (aEg p (x % p)):=by
 have hb:=jA hp;have h2:=aBf (x:=x) hp;obtain ⟨n,hn⟩: ∃ n:Nat,p=n:=⟨p.toNat,by omega⟩;unfold tJ;rw [xI (s0:=1) (s:=1) (n:=n) (λk:Nat=>bif decide ((x % p*k) % p=1) then some (k:Int) else none) rfl (by omega) (by omega) (λk h1 hk=>?_) (λ_=>?_),aC]
 ·cases e:(List.range' 1 (n - 1)).findSome? (λk:Nat=>bif decide ((x % p*k) % p=1) then some (k:Int) else none) with
  |none=>
   rw [List.findSome?_eq_none_iff] at e;rw [aTm hp h2 λy h3 h4 h5=>?_];rfl;have:=e y (by simp;omega);rw [bK h5] at this;cases this
  |some i=>
   obtain ⟨k,hk,he⟩:=List.exists_of_findSome?_eq_some e;simp at hk;cases hd:decide ((x % p*k) % p=1) with
   |false=>rw [hd] at he;cases he
   |true=>
    rw [hd] at he;cases he;rw [aWD hp h2 (y:=k) (by omega) (of_decide_eq_true hd)];rfl
 ·unfold oX;have h3:=aPz (a:=x % p) (b:=k) (by omega) (by omega);rw [bK (by omega),aJ,aFv,hp,aC,aJ,aCu hp hx,aC,cU (by omega),aCu hp (by omega),aC];cases decide (x % p*k % p=1) <;> rfl
 ·unfold oX;rw [cR (by omega),aY]
theorem aRC {r c i:Nat} (hi:i<r):(i+1)*c<=r*c:=Nat.mul_le_mul_right c hi
theorem ixw {r c i j:Nat} (hN:r*c<=1048576) (hi:i<r) (hj:j<c):wr (wr ((i:Int)*(c:Int))+(j:Int))=((i*c+j:Nat):Int):=wix (by have:=aJP hi hj;omega)
theorem atT {r c i j:Nat} (hN:r*c<=1048576) (hi:i<r) (hj:j<c) (F:Nat->Nat->Int):cO (dA r c F) (wr (wr ((i:Int)*(c:Int))+(j:Int)))=some (F i j):=by rw [ixw hN hi hj,aWE F hi hj]
theorem aUK {r c i j:Nat} (hN:r*c<=1048576) (hi:i<r) (hj:j<c) (F:Nat->Nat->Int) (v:Int):(dA r c F).set (wr (wr ((i:Int)*(c:Int))+(j:Int))).toNat v=dA r c (aII F i j v):=by rw [ixw hN hi hj,dX,aCI F v hi hj]
theorem aAG {r c i:Nat} (hN:r*c<=1048576) (hi:i<r):wr ((i:Int)*(c:Int))=((i*c:Nat):Int):=aKc (by have:= @aRC r c i hi;rw [Nat.succ_mul] at this;omega)
theorem aAH {r c i:Nat} (hN:r*c<=1048576) (hr:r<=1048576) (hi:i<r):wr (wr ((i:Int)+1)*(c:Int))=((i*c+c:Nat):Int):=by
 have:= @aRC r c i hi;rw [cC hi (by omega),aKc (by omega),Nat.succ_mul]
def aAI (c:Nat) (f:Nat->Int):aA:=(List.range c).map f
theorem sX (c:Nat) (f:Nat->Int):(aAI c f).length=c:=by simp [aAI]
theorem aMl {c:Nat} (f:Nat->Int) {j:Nat} (h:j<c):cO (aAI c f) (j:Int)=some (f j):=by rw [hZ (by rw [sX];exact h)];simp [aAI]
theorem aLg {r c i:Nat} (hN:r*c<=1048576) (hr:r<=1048576) (hi:i<r) (F:Nat->Nat->Int):fT ⟨r,c,dA r c F⟩ i=some ():=by
 have:= @aRC r c i hi;rw [Nat.succ_mul] at this;unfold fT;simp only;rw [aAG hN hi,aAH hN hr hi,kX,bK (by omega),bK (by omega:((i*c:Nat):Int)<=((i*c+c:Nat):Int)),bK (by omega:((i*c+c:Nat):Int)<=((r*c:Nat):Int))];rfl
theorem aUL {r c i:Nat} (hN:r*c<=1048576) (hr:r<=1048576) (hi:i<r) (F:Nat->Nat->Int):aJU ⟨r,c,dA r c F⟩ i=some (aAI c (F i)):=by
 have h:= @aRC r c i hi;rw [Nat.succ_mul] at h;unfold aJU zQ aDi;simp only;rw [aAG hN hi,aAH hN hr hi,kX,bK (by omega),bK (by omega:((i*c:Nat):Int)<=((i*c+c:Nat):Int)),bK (by omega:((i*c+c:Nat):Int)<=((r*c:Nat):Int))];simp only [Bool.and_self,aJ,dX];congr 1;refine List.ext_getElem (by simp [kX,sX];omega) λt h1 h2=>?_;rw [sX] at h2;rw [List.getElem_take,List.getElem_drop];simp [dA,aAI,aCp h2,aCq h2]
def aKh (p:Int) (F:Nat->Nat->Int) (i:Nat) (k:Int) (g:Nat->Int):Nat->Nat->Int:=λa b=>if a=i then (F i b+k*g b) % p else F a b
theorem gd (x:Nat):(decide (0<=(x:Int))&&true)=true:=by rw [bK (by omega)];rfl
theorem aXv {p:Int} (hp:yJ p=true):(!decide (p=0))=true:=by have:=jA hp;rw [cR (by omega)];rfl
theorem aOT {p:Int} (hp:yJ p=true) {r c i:Nat} (hc:c<=1048576) (hi:i<r) {F:Nat->Nat->Int} {g:Nat->Int} {k:Int} (hk:0<=k/\k<=5) (hF: ∀ b,b<c->0<=F i b/\F i b<p) (hg: ∀ b,b<c->0<=g b/\g b<p):
  nQ p (dA r c F) (i*c) c k (aAI c g)=some (dA r c (aKh p F i k g)):=by
 have hb:=jA hp;unfold nQ;rw [eX (r:=dA r c (aKh p F i k g)) (λx=>(dA r c (λa b=>if a=i/\b<x then (F i b+k*g b) % p else F a b),(x:Int))) c (by simp) (λx hx=>?_) (λ_=>?_)];rfl
 ·have h1:=hF x hx;have h2:=hg x hx;have h3:=aPz hk (show 0<=g x/\g x<=5 by omega);unfold oC;simp only;rw [sX,kC hx,aJ,aMl _ hx,aC,gd x,aJ,dX,qN _ hi hx,aC,aXv hp,aJ,aJ,aC,aCI _ _ hi hx,cC hx (by omega)];rw [bB (by omega),cU (x:=k*g x) (by omega),cU (by omega),Int.tmod_eq_emod_of_nonneg (by omega)];congr 3;refine eD λa b ha hb=>?_;simp only [aII];by_cases e1:a=i/\b=x
  ·obtain ⟨rfl,rfl⟩:=e1;rw [bD ⟨rfl,rfl⟩,bD ⟨rfl,by omega⟩]
  ·rw [bB e1];by_cases e2:a=i/\b<x
   ·rw [bD e2,bD ⟨e2.1,by omega⟩]
   ·rw [bB e2,bB (by omega)]
 ·unfold oC;simp only;rw [sX,lM (bP _),aY];congr 2;refine eD λa b ha hb=>?_;simp only [aKh];by_cases e:a=i
  ·rw [bD ⟨e,hb⟩,bD e]
  ·rw [bB (by omega),bB e]
theorem aSa {p:Int} (hp:yJ p=true) {r c i j:Nat} (hc:c<=1048576) (hi:i<r) (hj:j<r) (hij:i≠j) {F:Nat->Nat->Int} {k:Int} (hk:0<=k/\k<=5) (hF: ∀ b,b<c->0<=F i b/\F i b<p) (hg: ∀ b,b<c->0<=F j b/\F j b<p):
  lU p (dA r c F) (i*c) c k (j*c) c=some (dA r c (aKh p F i k (F j))):=by
 have hb:=jA hp;unfold lU;rw [eX (r:=dA r c (aKh p F i k (F j))) (λx=>(dA r c (λa b=>if a=i/\b<x then (F i b+k*F j b) % p else F a b),(x:Int))) c (by simp) (λx hx=>?_) (λ_=>?_)];rfl
 ·have h1:=hF x hx;have h2:=hg x hx;have h3:=aPz hk (show 0<=F j x/\F j x<=5 by omega);unfold jG;simp only;rw [kC hx,aJ,gd x,aJ,dX,qN _ hj hx,aC,aJ,qN _ hi hx,aC,aXv hp,aJ,aJ,aC,aCI _ _ hi hx,cC hx (by omega)];rw [bB (by omega),bB (by omega),cU (x:=k*F j x) (by omega),cU (by omega),Int.tmod_eq_emod_of_nonneg (by omega)];congr 3;refine eD λa b ha hb=>?_;simp only [aII];by_cases e1:a=i/\b=x
  ·obtain ⟨rfl,rfl⟩:=e1;rw [bD ⟨rfl,rfl⟩,bD ⟨rfl,by omega⟩]
  ·rw [bB e1];by_cases e2:a=i/\b<x
   ·rw [bD e2,bD ⟨e2.1,by omega⟩]
   ·rw [bB e2,bB (by omega)]
 ·unfold jG;simp only;rw [lM (bP _),aY];congr 2;refine eD λa b ha hb=>?_;simp only [aKh];by_cases e:a=i
  ·rw [bD ⟨e,hb⟩,bD e]
  ·rw [bB (by omega),bB e]
theorem aUM {r c:Nat} (hN:r*c<=1048576):(decide (0<=wr ((r:Int)*(c:Int)))&&decide (wr ((r:Int)*(c:Int))<=1048576))=true:=by
 rw [aKc (by omega),bK (by omega),bK (by omega)];rfl
theorem aMm {r c:Nat} (hN:r*c<=1048576):tY r c=some ⟨r,c,dA r c λ_ _=>0⟩:=by
 unfold tY;rw [aUM hN,aJ,aKc (by omega),dX,aLQ]
theorem aUN {r c:Nat} (hN:r*c<=1048576):zD r c=some ⟨r,c,dA r c λ_ _=>0⟩:=by
 unfold zD;rw [aUM hN,aJ,aKc (by omega),dX,aLQ]
def aQB (F G:Nat->Nat->Int) (i j:Nat):Nat->Int
 |0=>0
 |k+1=>aQB F G i j k+F i k*G k j
def aOU (p:Int) (F G:Nat->Nat->Int) (i j:Nat):Nat->Int
 |0=>0
 |k+1=>(aOU p F G i j k+F i k*G k j) % p
theorem aMn {p:Int} (hp:yJ p=true) (F G:Nat->Nat->Int) (i j:Nat): ∀ k,aOU p F G i j k=aQB F G i j k % p
 |0=>by simp [aOU,aQB]
 |k+1=>by rw [aOU,aQB,aMn hp F G i j k];simp [Int.add_emod]
def aGz (p:Int) (n:Nat) (F G:Nat->Nat->Int):Nat->Nat->Int:=λi j=>aQB F G i j n % p
theorem aRD {p:Int} (hp:yJ p=true) (n:Nat) (F G:Nat->Nat->Int) (m c:Nat):InP p m c (aGz p n F G):=λi j _ _=>aBf hp
theorem aRE {p:Int} (hp:yJ p=true) {r n c:Nat} (h1:r*n<=1048576) (h2:n*c<=1048576) (h3:r*c<=1048576) (hr:r<=1048576) (hn:n<=1048576) (hc:c<=1048576) {F G:Nat->Nat->Int} (hF:InP p r n F) (hG:InP p n c G):
  xW p ⟨r,n,dA r n F⟩ ⟨n,c,dA n c G⟩=some ⟨r,c,dA r c (aGz p n F G)⟩:=by
 have hb:=jA hp;have hD: ∀ i j,aOU p F G i j n=aGz p n F G i j:=λi j=>aMn hp F G i j n;unfold xW;simp only;rw [aMm h3,aC];simp only;rw [eX (r:=dA r c (aGz p n F G)) (λi=>(dA r c (λa b=>if a<i then aGz p n F G a b else 0),(i:Int))) r (by simp) (λi hi=>?_) (λ_=>?_),aC]
 ·unfold wI;simp only;rw [kC hi,aJ,aUL h1 hr hi,aC];rw [eX (r:=dA r c (λa b=>if a<i+1 then aGz p n F G a b else 0)) (λk=>(dA r c (λa b=>if a<i then aGz p n F G a b else if a=i then aOU p F G i b k else 0),(k:Int))) n ?_ (λk hk=>?_) (λ_=>?_),aC,cC hi (by omega)]
  ·congr 1
   exact eD λa b ha hb=>by
    by_cases e:a<i
    ·rw [bD e,bD e]
    ·rw [bB e,bB e];simp [aOU]
  ·unfold wH;simp only;have g1:=hF i k hi hk;rw [sX,kC hk,aJ,aMl _ hk,aC,aLg h3 hr hi,aC,aUL h2 hn hk,aC,Nat.zero_add,aAG h3 hi,aAH h3 hr hi,dX,dX,show i*c+c - i*c=c by omega];rw [aOT hp hc hi (by omega) (λb hb=>?_) (λb hb=>hG k b hk hb),aC,kX,kX,bK rfl,aJ,cC hk (by omega)]
   ·congr 3;refine eD λa b ha hb=>?_;simp only [aKh];by_cases e:a=i
    ·subst e;simp [aOU]
    ·rw [bB e,bB e,bB e]
   ·rw [bB (by omega),bD rfl,aMn hp];exact aBf hp
  ·unfold wH;simp only;rw [sX,lM (bP _),aY];congr 2;refine eD λa b ha hb=>?_;by_cases e:a<i
   ·rw [bD e,bD (by omega)]
   ·by_cases e2:a=i
    ·subst e2;rw [bB (by omega),bD rfl,bD (by omega),hD]
    ·rw [bB e,bB e2,bB (by omega)]
 ·unfold wI;simp only;rw [lM (bP _),aY];congr 2;exact eD λa b ha hb=>by rw [bD ha]
def sY (L:List Nat):aA:=L.map λt:Nat=>(t:Int)
theorem lX (L:List Nat):(sY L).length=L.length:=by simp [sY]
theorem aJd {p:Int} {m:Nat} {F:Nat->Nat->Int} {j:Nat} (h:(cP p m F j).2.length=m): ∀ d,cP p m F (j+d)=cP p m F j
 |0=>rfl
 |d+1=>by
  show jE p m (cP p m F (j+d)) (j+d)=_;rw [aJd h d];unfold jE;rw [bD];rw [h,Nat.sub_self];rfl
def aCv (F:Nat->Nat->Int) (a b x:Nat):Nat->Nat->Int:=λi y=>if y<x then yG F a b i y else F i y
def aAh (p:Int) (F:Nat->Nat->Int) (a:Nat) (s:Int) (x:Nat):Nat->Nat->Int:=λi y=>if y<x then wW p F a s i y else F i y
def mF (p:Int) (F:Nat->Nat->Int) (a j x:Nat):Nat->Nat->Int:=λi c=>if i<x then aAP p F a j i c else F i c
theorem aLh {r c a b x:Nat} (F:Nat->Nat->Int):dA r c (aII (aII (aCv F a b x) a x (F b x)) b x (F a x))=dA r c (aCv F a b (x+1)):=by
 refine eD λi y hi hy=>?_;simp only [aII,aCv,yG];by_cases e:y=x
 ·subst e;simp only [and_true,Nat.lt_irrefl,if_false,Nat.lt_succ_self,if_true];by_cases e1:i=b
  ·rw [bD e1];by_cases e2:i=a
   ·rw [bD e2];subst e1;rw [e2]
   ·rw [bB e2,bD e1]
  ·rw [bB e1];by_cases e2:i=a
   ·rw [bD e2,bD e2]
   ·rw [bB e2,bB e2,bB e1]
 ·rw [bB (by omega),bB (by omega)];by_cases e1:y<x
  ·rw [bD e1,bD (show y<x+1 by omega)]
  ·rw [bB e1,bB (show ¬ y<x+1 by omega)]
theorem aEY {F:Nat->Nat->Int} {a b x i:Nat} :aCv F a b x i x=F i x:=by simp [aCv]
theorem aJe {p:Int} {F:Nat->Nat->Int} {a x i:Nat} {s:Int} :aAh p F a s x i x=F i x:=by simp [aAh]
theorem aJf {p:Int} {r c a x:Nat} {s:Int} (F:Nat->Nat->Int):dA r c (aII (aAh p F a s x) a x ((F a x*s) % p))=dA r c (aAh p F a s (x+1)):=by
 refine eD λi y hi hy=>?_;simp only [aII,aAh,wW];by_cases e:y=x
 ·subst e;simp only [and_true,Nat.lt_irrefl,if_false,Nat.lt_succ_self,if_true]
 ·rw [bB (by omega)];by_cases e1:y<x
  ·rw [bD e1,bD (show y<x+1 by omega)]
  ·rw [bB e1,bB (show ¬ y<x+1 by omega)]
theorem aRF {p r:Int} (hp:yJ p=true) (hr:0<=r/\r<p):0<=aEg p r/\aEg p r<p:=aQw hp hr _
theorem aOV {p:Int} {m n k r:Nat} {F:Nat->Nat->Int} (h:InP p m n F) (hk:k<m) (hr:r<m):InP p m n (yG F k r):=by
 intro i c hi hc;unfold yG;split
 ·exact h r c hr hc
 ·split
  ·exact h k c hk hc
  ·exact h i c hi hc
theorem aLi {p:Int} (hp:yJ p=true) {m n k:Nat} {s:Int} {F:Nat->Nat->Int} (h:InP p m n F):InP p m n (wW p F k s):=by
 intro i c hi hc;unfold wW;split
 ·exact aBf hp
 ·exact h i c hi hc
theorem aSb {p:Int} (hp:yJ p=true) {m n k j x:Nat} {F:Nat->Nat->Int} (h:InP p m n F):InP p m n (mF p F k j x):=by
 intro i c hi hc;unfold mF aAP;split
 ·split
  ·rename_i h1 h2;subst h2;exact h _ c hi hc
  ·exact aBf hp
 ·exact h i c hi hc
theorem aUO {p:Int} (hp:yJ p=true) {m n k j x:Nat} {F:Nat->Nat->Int} (hx:x≠k):dA m n (aKh p (mF p F k j x) x (p - F x j) (mF p F k j x k))=dA m n (mF p F k j (x+1)):=by
 refine eD λi c hi hc=>?_;simp only [aKh,mF,aAP];by_cases e:i=x
 ·subst e;rw [bD rfl,bB (Nat.lt_irrefl _),bD (Nat.lt_succ_self _),bB hx];simp only [if_true,ite_self];rw [show F i c+(p - F i j)*F k c=(F i c - F i j*F k c)+p*F k c by rw [Int.sub_mul];omega,Int.add_mul_emod_self_left]
 ·rw [bB e];by_cases e1:i<x
  ·rw [bD e1,bD (show i<x+1 by omega)]
  ·rw [bB e1,bB (show ¬ i<x+1 by omega)]
theorem aLj {p:Int} {m n k j:Nat} {F:Nat->Nat->Int} :dA m n (mF p F k j k)=dA m n (mF p F k j (k+1)):=by
 refine eD λi c hi hc=>?_;simp only [mF,aAP];by_cases e:i<k
 ·rw [bD e,bD (show i<k+1 by omega)]
 ·rw [bB e];by_cases e1:i=k
  ·subst e1;simp
  ·rw [bB (show ¬ i<k+1 by omega)]
theorem aJg {p:Int} {F:Nat->Nat->Int} {k r j:Nat} :iY p F k r j=aAP p (wW p (yG F k r) k (aEg p (F r j))) k j:=rfl
structure Tb (p:Int) (m n:Nat) (F:Nat->Nat->Int):Prop where
 hp:yJ p=true
 hN:m*n<=1048576
 hm:m<=1048576
 hn:n<=1048576
 hi:InP p m n F
theorem aXw {p:Int} {m n:Nat} {F:Nat->Nat->Int} (T:Tb p m n F) {j:Nat} (hj:j<n) (L:List Nat) (hL:L.length<=m) (l:aA):
  Lp (qT ⟨m,n,l⟩ ((j:Int),dA m n F,sY L)) (((sY L).length:Nat):Int)=some ((qO F j (m - L.length) L.length:Nat):Int):=by
 obtain ⟨hp,hN,hm,hn,hi⟩:=T;have hle:= @aAv F j (m - L.length) L.length;have hz:= @aFA F j (m - L.length) L.length;have hh:= @aEO F j (m - L.length) L.length;generalize qO F j (m - L.length) L.length=r at*;rw [lX];refine eX (λt=>((L.length+t:Nat):Int)) (r - L.length) (by simp) (λt ht=>?_) (λ_=>?_)
 ·unfold qT;simp only
  rw [kC (by omega),aJ,aLg hN hm (by omega),aC,aAG hN (by omega),aAH hN hm (by omega),dX,dX,Nat.add_sub_cancel_left,kC hj,gd,aJ,Nat.zero_add,dX,qN _ (by omega) hj,aC,
   hz _ (by omega) (by omega),bK rfl,aJ,cC (n:=m) (by omega) (by omega),Nat.add_assoc]
 ·rw [show L.length+(r - L.length)=r by omega];unfold qT;simp only;rcases dV r m with h|h
  ·rw [kC h,aJ,aLg hN hm h,aC,aAG hN h,aAH hN hm h,dX,dX,Nat.add_sub_cancel_left,kC hj,gd,aJ,Nat.zero_add,dX,qN _ h hj,aC,
    cR (hh (by omega)),aY]
  ·rw [lM h,aY]
theorem aWM {p:Int} {m n:Nat} {F:Nat->Nat->Int} (T:Tb p m n F) {j:Nat} (hj:j<n) (L:List Nat) (hL:L.length<=m) (l:aA):
  qU p ⟨m,n,l⟩ ((j:Int),dA m n F,sY L)=some (.inl (((j+1:Nat):Int),dA m n (jE p m (F,L) j).1,sY (jE p m (F,L) j).2)):=by
 have hpv:=aXw T hj L hL l;obtain ⟨hp,hN,hm,hn,hi⟩:=T;have hb:=jA hp;have hle:= @aAv F j (m - L.length) L.length;unfold qU jE;simp only;rw [kC hj,aJ,hpv,aC,cC hj (by omega)];clear hpv;generalize qO F j (m - L.length) L.length=r at*;by_cases hr:r=m
 ·rw [bK (by omega),aJ,bD hr]
 ·rw [cR (by omega),aY,bB hr];have hk:L.length<m:=by omega
  have hrm:r<m:=by omega
  simp only [lX];rw [aLg hN hm hk,aC,aAG hN hk,aAH hN hm hk];simp only [dX,Nat.add_sub_cancel_left,Nat.zero_add];rw [eX (r:=dA m n (yG F L.length r)) (λx=>(dA m n (aCv F L.length r x),(x:Int))) n ?_ (λx hx=>?_) (λ_=>?_),aC,kC hj,gd,aJ,qN _ hk hj,aC]
  ·have e1:yG F L.length r L.length j=F r j:=by simp [yG]
   have hrj:=hi r j hrm hj;rw [e1,aSX hp,aC,Int.emod_eq_of_lt hrj.1 hrj.2];have hs:=aRF hp hrj;rw [aJg];generalize aEg p (F r j)=s at*;have h1:=aOV hi hk hrm;generalize yG F L.length r=F1 at*;rw [eX (r:=dA m n (wW p F1 L.length s)) (λx=>(dA m n (aAh p F1 L.length s x),(x:Int))) n ?_ (λx hx=>?_) (λ_=>?_),aC]
   ·have h2:=aLi hp (k:=L.length) (s:=s) h1;generalize wW p F1 L.length s=F2 at*;rw [eX (r:=dA m n (aAP p F2 L.length j)) (λx=>(dA m n (mF p F2 L.length j x),(x:Int))) m ?_ (λx hx=>?_) (λ_=>?_),aC]
    ·rw [bK (by simp;omega),aJ];simp [sY]
    ·congr 1
    ·unfold uM;simp only [lX];rw [kC hx,aJ];by_cases hxk:x=L.length
     ·rw [bK (by omega),eP,aY,cC hx (by omega),hxk,aLj]
     ·rw [cR (by omega),Bool.not_false,aJ,aLg hN hm hx,aC,aC,aAG hN hx,aAH hN hm hx,aAG hN hk,aAH hN hm hk];simp only [dX,Nat.add_sub_cancel_left,Nat.zero_add];rw [kC hj,gd,aJ,qN _ hx hj,aC];have e2:mF p F2 L.length j x x j=F2 x j:=by simp [mF]
      have h3:=h2 x j hx hj;have h4:=aSb hp (k:=L.length) (j:=j) (x:=x) h2;rw [e2,cU (by omega),aSa hp hn hx hk hxk (by omega) (λb hb=>h4 _ b hx hb) (λb hb=>h4 _ b hk hb),aC,kX,kX,bK rfl,aJ,cC hx (by omega),aUO hp hxk]
    ·unfold uM;simp only;rw [lM (bP _),aY];congr 2;exact eD λa b ha hb=>by simp only [mF];rw [bD ha]
   ·congr 1
   ·unfold uL;simp only [lX];rw [aAG hN hk,aAH hN hm hk];simp only [dX,Nat.add_sub_cancel_left,Nat.zero_add];have g1:=h1 _ x hk hx;have g2:=aPz (a:=F1 L.length x) (b:=s) (by omega) (by omega);rw [kC hx,aJ,gd,aJ,qN _ hk hx,aC,aXv hp,aJ,aJ,aC,aJe,cU (by omega),Int.tmod_eq_emod_of_nonneg g2.1,aCI _ _ hk hx,cC hx (by omega),aJf]
   ·unfold uL;simp only [lX];rw [aAG hN hk,aAH hN hm hk];simp only [dX,Nat.add_sub_cancel_left,Nat.zero_add];rw [lM (bP _),aY];congr 2;exact eD λa b ha hb=>by simp only [aAh];rw [bD hb]
  ·congr 1
  ·unfold uK;simp only [lX];rw [kC hx,aJ,aLg hN hm hrm,aC,aC,aAG hN hk,aAH hN hm hk,aAG hN hrm,aAH hN hm hrm];simp only [dX,Nat.add_sub_cancel_left,Nat.zero_add];rw [kC hx,gd,aJ,qN _ hrm hx,aC,aJ,qN _ hk hx,aC,aJ,aC,aJ,aCI _ _ hk hx,qN _ hrm hx,aC,aCI _ _ hrm hx,aEY,aEY,cC hx (by omega),aLh]
  ·unfold uK;simp only;rw [lM (bP _),aY];congr 2;exact eD λa b ha hb=>by simp only [aCv];rw [bD hb]
theorem aMo {p:Int} {m n:Nat} {F:Nat->Nat->Int} (T:Tb p m n F):zE p ⟨m,n,dA m n F⟩=some (⟨m,n,dA m n (cP p m F n).1⟩,sY (cP p m F n).2):=by
 have hN:=T.hN;have hn:=T.hn;unfold zE mH lQ;simp only;rw [kX,bK hN,aJ,aC,aC];simp only;rw [eX (r:=(dA m n (cP p m F n).1,sY (cP p m F n).2)) (λj=>((j:Int),dA m n (cP p m F j).1,sY (cP p m F j).2)) n (by simp [cP,sY]) (λj hj=>?_) (λ_=>?_),aC]
 ·show _=some (Sum.inl (((j+1:Nat):Int),dA m n (jE p m (cP p m F j) j).1,sY (jE p m (cP p m F j) j).2):(Int×aA×aA) ⊕ (aA×aA));exact aWM ⟨T.hp,T.hN,T.hm,T.hn,zO (by have:=jA T.hp;omega) T.hi j⟩ hj _ (yN j) _
 ·unfold qU;simp only;rw [lM (bP _),aY]
theorem aJh {p:Int} {m n:Nat} {F:Nat->Nat->Int} (T:Tb p m n F):zR p ⟨m,n,dA m n F⟩=some ((cP p m F n).2.length:Int):=by
 unfold zR;rw [aMo T,aC,lX]
theorem aXx {p:Int} {m n:Nat} {F:Nat->Nat->Int} (T:Tb p m n F) {j:Nat} (hj:j<n) (L:List Nat) (hL:L.length<m) (l:aA):
  Lp (nR ⟨m,n,l⟩ ((j:Int),dA m n F,sY L,(L.length:Int))) (-1,wr ((m:Int) - 1))=some (if qO F j (m - L.length) L.length=m then -1 else ((qO F j (m - L.length) L.length:Nat):Int)):=by
 obtain ⟨hp,hN,hm,hn,hi⟩:=T;refine eX (λt=>(if qO F j t (m - t)=m then -1 else ((qO F j t (m - t):Nat):Int),((m - t:Nat):Int) - 1)) (m - L.length) ?_ (λt ht=>?_) (λ_=>?_)
 ·simp only [qO,Nat.sub_zero,if_true];rw [cU (by omega)]
 ·unfold nR;simp only;have e:((m - t:Nat):Int) - 1=((m - (t+1):Nat):Int):=by omega
  have hi2:m - (t+1)<m:=by omega
  rw [e,bK (by omega),aJ,atT hN hi2 hj,aC,cU (x:=((m - (t+1):Nat):Int) - 1) (by omega)]
  have ep:qO F j (t+1) (m - (t+1))=if F (m - (t+1)) j=0 then qO F j t (m - t) else m - (t+1):=by
   rw [qO,show m - (t+1)+1=m - t by omega]
  rw [ep];by_cases h:F (m - (t+1)) j=0
  ·rw [bK h,eP,aY,bD h]
  ·rw [cR h,Bool.not_false,aJ,bB h,bB (by omega)]
 ·rw [show m - (m - L.length)=L.length by omega];unfold nR;simp only;rw [cR (by omega),aY]
theorem aWN {p:Int} {m n:Nat} {F:Nat->Nat->Int} (T:Tb p m n F) {j:Nat} (hj:j<n) (L:List Nat) (hL:L.length<m) (l:aA):
  iN p ⟨m,n,l⟩ ((j:Int),dA m n F,sY L,(L.length:Int))=some (.inl (((j+1:Nat):Int),dA m n (jE p m (F,L) j).1,sY (jE p m (F,L) j).2,((jE p m (F,L) j).2.length:Int))):=by
 have hpv:=aXx T hj L hL l;obtain ⟨hp,hN,hm,hn,hi⟩:=T;have hb:=jA hp;have hle:= @aAv F j (m - L.length) L.length;unfold iN jE;simp only;rw [kC hj,aJ,kC hL,aJ,hpv,aC,cC hj (by omega)];clear hpv;generalize qO F j (m - L.length) L.length=r at*;have hk:L.length<m:=hL;by_cases hr:r=m
 ·rw [bD hr,bD hr,bK (by omega),aJ]
 ·rw [bB hr,bB hr,cR (by omega),aY];have hrm:r<m:=by omega
  rw [eX (r:=dA m n (yG F L.length r)) (λx=>(dA m n (aCv F L.length r x),(x:Int))) n ?_ (λx hx=>?_) (λ_=>?_),aC,atT hN hk hj,aC]
  ·have e1:yG F L.length r L.length j=F r j:=by simp [yG]
   have hrj:=hi r j hrm hj;rw [e1,aSY hp (by omega),aC,Int.emod_eq_of_lt hrj.1 hrj.2];have hs:=aRF hp hrj;rw [aJg];generalize aEg p (F r j)=s at*;have h1:=aOV hi hk hrm;generalize yG F L.length r=F1 at*;rw [eX (r:=dA m n (wW p F1 L.length s)) (λx=>(dA m n (aAh p F1 L.length s x),(x:Int))) n ?_ (λx hx=>?_) (λ_=>?_),aC]
   ·have h2:=aLi hp (k:=L.length) (s:=s) h1;generalize wW p F1 L.length s=F2 at*;rw [eX (r:=dA m n (aAP p F2 L.length j)) (λx=>(dA m n (mF p F2 L.length j x),(x:Int))) m ?_ (λx hx=>?_) (λ_=>?_),aC]
    ·rw [lX,bK (by simp;omega),aJ,cC hk (by omega)];simp [sY]
    ·congr 1
    ·unfold rY;simp only;rw [kC hx,aJ,atT hN hx hj,aC,cC hx (by omega)];have e2:mF p F2 L.length j x x j=F2 x j:=by simp [mF]
     rw [e2];by_cases hxk:x=L.length
     ·rw [eC (r:=dA m n (mF p F2 L.length j x)) ?_,aC,hxk,aLj];unfold nS;simp only;rcases Nat.eq_zero_or_pos n with h0|h0
      ·omega
      ·rw [bK (by omega),aJ,bK (by omega),eP,aY]
     ·rw [eX (r:=dA m n (mF p F2 L.length j (x+1))) (λy=>(dA m n (λa c=>if a=x/\c<y then aAP p F2 L.length j x c else mF p F2 L.length j x a c),(y:Int))) n (by simp) (λy hy=>?_) (λ_=>?_),aC]
      ·unfold nS;simp only;rw [kC hy,aJ,cR (by omega),Bool.not_false,aJ,atT hN hx hy,aC,atT hN hk hy,aC];have e3:mF p F2 L.length j x x y=F2 x y:=by simp [mF]
       have e4:mF p F2 L.length j x L.length y=F2 L.length y:=by simp [mF,aAP]
       rw [bB (by omega),bB (by omega),e3,e4];have g1:=h2 x j hx hj;have g2:=h2 L.length y hk hy;have g3:=h2 x y hx hy;have g4:=aPz (a:=F2 x j) (b:=F2 L.length y) (by omega) (by omega);rw [cU (x:=F2 x j*F2 L.length y) (by omega),cU (x:=F2 x y - F2 x j*F2 L.length y) (by omega),aCu hp (by omega),aC,aC,aUK hN hx hy,cC hy (by omega)];congr 3;refine eD λa c ha hc=>?_;simp only [aII];by_cases e5:a=x/\c=y
       ·rw [bD e5,bD (by omega),e5.2];simp only [aAP];rw [bB hxk]
       ·rw [bB e5];by_cases e6:a=x/\c<y
        ·rw [bD e6,bD (by omega)]
        ·rw [bB e6,bB (by omega)]
      ·unfold nS;simp only;rw [lM (bP _),aY];congr 2;refine eD λa c ha hc=>?_;simp only [mF];by_cases e5:a=x
       ·rw [bD ⟨e5,hc⟩,bD (by omega),e5]
       ·rw [bB (by omega)];by_cases e6:a<x
        ·rw [bD e6,bD (by omega)]
        ·rw [bB e6,bB (by omega)]
    ·unfold rY;simp only;rw [lM (bP _),aY];congr 2;exact eD λa b ha hb=>by simp only [mF];rw [bD ha]
   ·congr 1
   ·unfold rX;simp only;have g1:=h1 _ x hk hx;have g2:=aPz (a:=F1 L.length x) (b:=s) (by omega) (by omega);rw [kC hx,aJ,atT hN hk hx,aC,aJe,Int.mul_comm,cU (by omega),aCu hp (by omega),aC,aC,aUK hN hk hx,cC hx (by omega),aJf]
   ·unfold rX;simp only;rw [lM (bP _),aY];congr 2;exact eD λa b ha hb=>by simp only [aAh];rw [bD hb]
  ·congr 1
  ·unfold rW;simp only;rw [kC hx,aJ,atT hN hk hx,aC,atT hN hrm hx,aC,aC,aUK hN hk hx,atT hN hrm hx,aC,aUK hN hrm hx,aEY,aEY,cC hx (by omega),aLh]
  ·unfold rW;simp only;rw [lM (bP _),aY];congr 2;exact eD λa b ha hb=>by simp only [aCv];rw [bD hb]
theorem aMp {p:Int} {m n:Nat} {F:Nat->Nat->Int} (T:Tb p m n F):wA p ⟨m,n,dA m n F⟩=some (⟨m,n,dA m n (cP p m F n).1⟩,sY (cP p m F n).2):=by
 have hN:=T.hN;have hn:=T.hn;unfold wA aBs;simp only;rw [kX,bK (by simp;omega),aJ,aC];simp only [List.nil_append]
 obtain ⟨r,h1,h2⟩: ∃ r,Lp (iN p ⟨m,n,dA m n F⟩) (0,dA m n F,[],0)=some r/\r=(dA m n (cP p m F n).1,sY (cP p m F n).2):=by
  refine aAZ (λs=> ∃ j:Nat,j<=n/\s=((j:Int),dA m n (cP p m F j).1,sY (cP p m F j).2,((cP p m F j).2.length:Int))) (λs=>n - s.1.toNat) _ ⟨0,Nat.zero_le _,by simp [cP,sY]⟩ ?_;rintro s ⟨j,hj,rfl⟩;rcases dV j n with hlt|hge
  ·have hlen:= @yN p m F j;rcases dV (cP p m F j).2.length m with hl|hl
   ·refine .inl ⟨_,aWN ⟨T.hp,T.hN,T.hm,T.hn,zO (by have:=jA T.hp;omega) T.hi j⟩ hlt _ hl _,⟨j+1,hlt,rfl⟩,?_⟩;simp;omega
   ·refine .inr ⟨_,?_,rfl⟩;unfold iN;simp only;have e:=aJd (p:=p) (F:=F) (j:=j) (by omega:(cP p m F j).2.length=m) (n - j);rw [show j+(n - j)=n by omega] at e;rw [kC hlt,aJ,lM hl,aY,e]
  ·have e:j=n:=by omega
   subst e;refine .inr ⟨_,?_,rfl⟩;unfold iN;simp only;rw [lM (bP _),aY]
 rw [h1,h2,aC]
end
noncomputable section
def wJ (a0:Rp) (a1:Rp) (x1:((List Mt)×Int)):Option (((List Mt)×Int) ⊕ (List Mt)):=
 bif decide (x1.2<(a0.dims.length:Int)) then
 ((cO a0.dims x1.2).bind λv2=>
 (cO a1.dims x1.2).bind λv3=>
 (tY v3 v2).bind λv4=>
 bif decide (x1.1.length+1<=4294967296) then
 (some (.inl ((x1.1++[v4]),wr (x1.2+1))))
 else none)
 else
 (some (.inr x1.1))
def aAi (a0:Rp) (a1:Rp):Option (List Mt):=
 (Lp (wJ a0 a1) ([],0)).bind λy6=>
 some (y6)
theorem aMq (a0:Rp) (a1:Rp) (r:(List Mt)) (h:aAi a0 a1=some r):HasC Tryz.prog 220 [.agg (eR a0),.agg (eR a1)] (.list 3 (r.map eM)):=by
 refine hM [.tmp 4] Tryz.func220 Tryz.ntmps220 k<|sR<|ae (wb k) k<|ae (wb k) k<|aT k2<|sR<|aT k2<|sQ<|sR<|fp k8<|lp k8<|ln k4<|am k k<|an<|tn<|aE<|oB h λy6 hy6 h=>cH (body:=(wJ a0 a1)) hy6 (λ(x1:((List Mt)×Int))=>mN [(3,.ptr 0 0 0),(5,.own 1 0 x1.1.length),(9,.list 1 (a0.dims.map eI)),(10,.int (a0.dims.length:Int)),(11,.int x1.2)] [(0,⟨6,[eR a1]⟩),(1,⟨3,x1.1.map (ow eM)⟩)] 2) (λr e t=>e= .exit 0/\Ent t (mN [(5,.own 0 0 r.length)] [(0,⟨3,r.map (ow eM)⟩)] 1)) (kB (σ:=sg [(0,1)]) (pP 1 k2 (mO ⟨_,k,⟨k,k,k,k⟩⟩ (bN k2))) (bS k<|hX k k<|aR) k) ?_ ?_
 ·intro x1 o h;refine sR<|cm k4<|an<|tn<|sQ<|dC k h (λ_ h=>?_) λ_ h=>bA<|aB<|aB<|sp h ⟨_,k,k,(kE [1] (bN k2) (cF (hO.plainO _) k<|aR) k4)⟩;refine aI<|tn<|sQ<|aE<|sR<|am k k<|oB h λv2 hv2 h=>ae (xl hv2 k) k<|lr k7<|aa k k<|aT k2<|rg<|am k k<|fp k8<|lp k8<|am k k<|oB h λv3 hv3 h=>ae (xl hv3 k) k<|lr k7<|am k k<|oB h λv4 hv4 h=>ae (cM (aBe v3 v2 v4 hv4) k3 (dF k (dF k aU))) k<|ae (wl k) k<|cG h λq5 h=>ae (kZ aL (l:=x1.1) (c:=[.int v4.rows,.int v4.cols,.own 2 0 v4.cells.length]) q5 k k k k k k k k k k k k k k) k<|aa k k<|an<|aZ<|tn<|aN (t:=mN [(3,.ptr 0 0 0),(5,.own 4 0 ((x1.1++[v4]).length)),(9,.list 1 (a0.dims.map eI)),(10,.int (a0.dims.length:Int)),(11,.int x1.2)] [(0,⟨6,[eR a1]⟩),(4,⟨3,List.map (ow eM) (x1.1++[v4])⟩)] 5) (Ent.trans (iS (b:=4) (b':=2) (j:=2) (es':=v4.cells.map eI) k k k k (aO _ _) (cW.frzs _)) (bO (pP 1 k2 (mO ⟨_,k,⟨k,k,(by simp only [aO,lA,lT,lR,lC,lN]),k⟩⟩ (bN k2))) (bS k<|hX ⟨_,k,k,.inl ⟨qP v4 k,hO.plainO _⟩⟩ k<|aR) k4)) ?_;exact rg<|ae (bJ k k) k<|am k k<|an<|tn<|sp h ⟨_,k,(kE [0,4] (bN k2) (bS k<|cF (hO.plainO _) k<|aR) k4)⟩
 ·rintro e t ⟨rfl,hent⟩;exact aP<|tn<|aN hent<|sR<|am k k<|aT k2<|aG<|sp h (cA k k k (pS (gF hO k k)))
def xX (a0:(List Mt)) (x1:(aA×Int)):Option ((aA×Int) ⊕ aA):=
 bif decide (x1.2<(a0.length:Int)) then
 ((cO a0 x1.2).bind λv2=>
 bif decide (x1.1.length+v2.cells.length<=4294967296) then
 (some (.inl ((x1.1++v2.cells),wr (x1.2+1))))
 else none)
 else
 (some (.inr x1.1))
def oY (a0:(List Mt)):Option aA:=
 (Lp (xX a0) ([],0)).bind λy4=>
 some (y4)
theorem aDn (a0:(List Mt)) (r:aA) (h:oY a0=some r):HasC Tryz.prog 221 [.list 3 (a0.map eM)] (.list 1 (r.map eI)):=by
 refine hM [.tmp 2] Tryz.func221 Tryz.ntmps221 k<|sR<|aT k2<|sR<|aT k2<|sQ<|sR<|am k k<|ln k4<|am k k<|an<|tn<|aE<|oB h λy4 hy4 h=>cH (body:=(xX a0)) hy4 (λ(x1:(aA×Int))=>mN [(3,.own 0 0 x1.1.length),(6,.list 3 (a0.map eM)),(7,.int (a0.length:Int)),(8,.int x1.2)] [(0,⟨1,x1.1.map (ow eI)⟩)] 1) (λr e t=>e= .exit 0/\Ent t (mN [(3,.own 0 0 r.length)] [(0,⟨1,r.map (ow eI)⟩)] 1)) (kB (σ:=sg []) (mO ⟨_,k,⟨k,k,k,k⟩⟩ (bN k2)) (hX k k<|aR) k) ?_ ?_
 ·intro x1 o h;exact sR<|cm k4<|an<|tn<|sQ<|dC k h (λ_ h=>aI<|tn<|sQ<|aE<|sR<|oB h λv2 hv2 h=>ae (xl hv2 k) k<|lr k7<|ae (cB aL k k) k<|ae (ws k) k<|an<|tn<|rg<|am k k<|fp k8<|lp k8<|cG h λq3 h=>ae (lO aL (l:=x1.1) (m:=v2.cells) jZ q3 k k k k k k k k k k k k) k<|aa k k<|an<|aZ<|tn<|rg<|ae (bJ k k) k<|am k k<|an<|tn<|sp h ⟨_,k,(kE [2] (bN k2) (cD k<|aR) k4)⟩) λ_ h=>bA<|aB<|aB<|sp h ⟨_,k,k,(bO (bN k2) (cD k<|aR) k4)⟩
 ·rintro e t ⟨rfl,hent⟩;exact aP<|tn<|aN hent<|sR<|am k k<|aT k2<|aG<|sp h (cA k k k (pS (gF cW k k)))
def uN (a0:(List Mt)) (x1:(aA×(List Mt)×Int)):Option ((aA×(List Mt)×Int) ⊕ (List Mt)):=
 bif decide (x1.2.2<(a0.length:Int)) then
 ((cO a0 x1.2.2).bind λv2=>
 bif (decide (0<=0)&&(decide (0<=(v2.cells.length:Int))&&decide ((v2.cells.length:Int)<=(x1.1.length:Int)))) then
 ((lQ ((x1.1.drop (0:Int).toNat).take ((v2.cells.length:Int).toNat - (0:Int).toNat))).bind λv4=>
 bif decide (x1.2.1.length+1<=4294967296) then
 (bif (decide (0<=(v2.cells.length:Int))&&(decide ((v2.cells.length:Int)<=(x1.1.length:Int))&&decide ((x1.1.length:Int)<=(x1.1.length:Int)))) then
 (some (.inl (((x1.1.drop (v2.cells.length:Int).toNat).take ((x1.1.length:Int).toNat - (v2.cells.length:Int).toNat)),(x1.2.1++[(⟨v2.rows,v2.cols,v4⟩:Mt)]),wr (x1.2.2+1))))
 else none)
 else none)
 else none)
 else
 (some (.inr x1.2.1))
def zF (a0:(List Mt)) (a1:aA):Option (List Mt):=
 (Lp (uN a0) (a1,[],0)).bind λy7=>
 some (y7)
theorem aKi (a0:(List Mt)) (a1:aA) (r:(List Mt)) (h:zF a0 a1=some r):HasC Tryz.prog 223 [.list 3 (a0.map eM),.list 1 (a1.map eI)] (.list 3 (r.map eM)):=by
 refine hM [.tmp 4] Tryz.func223 Tryz.ntmps223 k<|sR<|aT k2<|sR<|aT k2<|sQ<|sR<|am k k<|ln k4<|am k k<|an<|tn<|aE<|oB h λy7 hy7 h=>cH (body:=(uN a0)) hy7 (λ(x1:(aA×(List Mt)×Int))=>mN [(1,.list 1 (x1.1.map eI)),(5,.own 0 0 x1.2.1.length),(9,.list 3 (a0.map eM)),(10,.int (a0.length:Int)),(11,.int x1.2.2)] [(0,⟨3,x1.2.1.map (ow eM)⟩)] 1) (λr e t=>e= .exit 0/\Ent t (mN [(5,.own 0 0 r.length)] [(0,⟨3,r.map (ow eM)⟩)] 1)) (kB (σ:=sg []) (pP 1 k2 (mO ⟨_,k,⟨k,k,k,k⟩⟩ (bN k2))) (hX k k<|aR) k) ?_ ?_
 ·intro x1 o h;refine sR<|cm k4<|an<|tn<|sQ<|dC k h (λ_ h=>?_) λ_ h=>bA<|aB<|aB<|sp h ⟨_,k,k,(bO (bN k2) (cF (hO.plainO _) k<|aR) k4)⟩;refine aI<|tn<|sQ<|aE<|sR<|oB h λv2 hv2 h=>ae (xl hv2 k) k<|lr k7<|ae (cB aL k k) k<|ae (ws k) k<|an<|tn<|sR<|fp k8<|lp k8<|ln k4<|aT k2<|sQ<|aQ fW<|am k k<|fp k8<|lp k8<|fp k8<|lp k8<|am k k<|am k k ?_;exact cG h λq3 h=>ae (mR aL (l0:=x1.1) (l:=0) (h:=(v2.cells.length:Int)) q3 k k k k k k k) k<|oB h λv4 hv4 h=>ae (cL cW (aAb ((x1.1.drop (0:Int).toNat).take ((v2.cells.length:Int).toNat - (0:Int).toNat)) v4 hv4) k3 (dF k aU)) k<|ae (mQ aL k k k k k k) k<|ae (wl k) k<|cG h λq5 h=>ae (kZ aL (l:=x1.2.1) (c:=[.int v2.rows,.int v2.cols,.own 2 0 v4.length]) q5 k k k k k k k k k k k k k k) k<|aa k k<|an<|nH (by kernel_rfl)<|tn<|aN (t:=mN [(1,.list 1 (x1.1.map eI)),(5,.own 4 0 ((x1.2.1++[(⟨v2.rows,v2.cols,v4⟩:Mt)]).length)),(8,.int (v2.cells.length:Int)),(9,.list 3 (a0.map eM)),(10,.int (a0.length:Int)),(11,.int x1.2.2)] [(4,⟨3,List.map (ow eM) (x1.2.1++[(⟨v2.rows,v2.cols,v4⟩:Mt)])⟩)] 5) (Ent.trans (iS (b:=4) (b':=2) (j:=2) (es':=v4.map eI) k k k k (aO _ _) (cW.frzs _)) (bO (pP 1 k2 (mO ⟨_,k,⟨k,k,(by simp only [aO,lA,lT,lR,lC,lN]),k⟩⟩ (bN k2))) (hX ⟨_,k,k,.inl ⟨qP (⟨v2.rows,v2.cols,v4⟩:Mt) k,hO.plainO _⟩⟩ k<|aR) k4))<|rg<|am k k<|am k k<|cG h λq6 h=>ae (mR aL (l0:=x1.1) (l:=(v2.cells.length:Int)) (h:=(x1.1.length:Int)) q6 k k k k k k k) k<|aa k k<|an<|aZ<|tn<|rg<|ae (bJ k k) k<|am k k<|an<|tn<|sp h ⟨_,k,(kE [4] (bN k2) (cF (hO.plainO _) k<|aR) k4)⟩
 ·rintro e t ⟨rfl,hent⟩;exact aP<|tn<|aN hent<|sR<|am k k<|aT k2<|aG<|sp h (cA k k k (pS (gF hO k k)))
def aBg (a0:Int) (a1:Mt) (a2:Int) (a3:Mt):Option Mt:=
 (mH a1).bind λv1=>
 (nQ a0 v1.cells 0 v1.cells.length a2 a3.cells).bind λv2=>
 bif decide (v2.length=v1.cells.length) then
 (some ((⟨v1.rows,v1.cols,v2⟩:Mt)))
 else none
theorem aOW (a0:Int) (a1:Mt) (a2:Int) (a3:Mt) (r:Mt) (h:aBg a0 a1 a2 a3=some r):HasC Tryz.prog 255 [.int a0,.agg (eM a1),.int a2,.agg (eM a3)] (.agg (eM r)):=by
 refine hM [.cell 8 81] Tryz.func255 Tryz.ntmps255 k<|sR<|ae (wb k) k<|ae (wb k) k<|ae (cB aL k k) k<|an<|tn<|sR<|lp k8<|oB h λv1 hv1 h=>ae (cM (aAR a1 v1 hv1) k3 (aX (iL k) aU)) k<|ae (cB aL k k) k<|ae (ws k) k<|an<|tn<|sR<|am k k<|fp k8<|lp k8<|am k k<|fp k8<|lp k8<|oB h λv2 hv2 h=>ae (sU (σ:=sg [(0,3)]) (σ':=sg [(3,0)]) (touch:=[3]) (news:=[]) (hl2:=[(3,⟨1,v2.map (ow eI)⟩)]) (n':=5) (r2:= .own 3 0 v1.cells.length) (aBA a0 v1.cells 0 v1.cells.length a2 a3.cells v2 hv2) k k ⟨_,_,k,k,⟨_,_,k,⟨k,k,k,k⟩,⟨_,_,k,k,⟨_,_,k,⟨k,k⟩,k⟩⟩⟩⟩ ⟨⟨_,k,k,.inl ⟨k,cW.plainO _⟩⟩,k,aR⟩ k k k ⟨⟨_,k,k,.inl ⟨k,cW.plainO _⟩⟩,k,aR⟩ k ⟨k,k,(by simp only [aO,lA,lT,lR,lC,lN]),k⟩ k ⟨k,cW.tame _ _,aR⟩ k k) k<|cG h λq3 h=>an<|tn<|sR<|lp k8 ?_;exact ae (ws k) k<|an<|tn<|aG<|sp h (cA k k k (aAC (bH (k) (bH (k) (bH (gF cW k (by first|rfl|simp only [List.length_set,of_decide_eq_true q3])) gI)))))
def oZ (a0:Rp) (a1:Rp) (a2:(List Mt)) (x1:((List Mt)×Int)):Option (((List Mt)×Int) ⊕ (List Mt)):=
 bif decide (x1.2<(a0.q.src.length:Int)) then
 ((cO a0.q.src x1.2).bind λv2=>
 (cO a1.maps x1.2).bind λv3=>
 (cO a2 v2).bind λv4=>
 (xW a0.p v3 v4).bind λv5=>
 (cO a0.q.tgt x1.2).bind λv6=>
 (cO a2 v6).bind λv7=>
 (cO a0.maps x1.2).bind λv8=>
 (xW a0.p v7 v8).bind λv9=>
 (aBg a0.p v5 (wr (a0.p - 1)) v9).bind λv10=>
 bif decide (x1.1.length+1<=4294967296) then
 (some (.inl ((x1.1++[v10]),wr (x1.2+1))))
 else none)
 else
 (some (.inr x1.1))
def tM (a0:Rp) (a1:Rp) (a2:(List Mt)):Option (List Mt):=
 (Lp (oZ a0 a1 a2) ([],0)).bind λy12=>
 some (y12)
theorem aFy (a0:Rp) (a1:Rp) (a2:(List Mt)) (r:(List Mt)) (h:tM a0 a1 a2=some r):HasC Tryz.prog 222 [.agg (eR a0),.agg (eR a1),.list 3 (a2.map eM)] (.list 3 (r.map eM)):=by
 refine hM [.tmp 6] Tryz.func222 Tryz.ntmps222 k<|sR<|ae (wb k) k<|ae (wb k) k<|aT k2<|sR<|aT k2<|sQ<|sR<|fp k8<|fp k8<|lp k8<|ln k4<|am k k<|an<|tn<|aE<|oB h λy12 hy12 h=>cH (body:=(oZ a0 a1 a2)) hy12 (λ(x1:((List Mt)×Int))=>mN [(2,.list 3 (a2.map eM)),(3,.ptr 0 0 0),(4,.ptr 1 0 0),(7,.own 2 0 x1.1.length),(13,.list 1 (a0.q.src.map eI)),(14,.int (a0.q.src.length:Int)),(15,.int x1.2)] [(0,⟨6,[eR a0]⟩),(1,⟨6,[eR a1]⟩),(2,⟨3,x1.1.map (ow eM)⟩)] 3) (λr e t=>e= .exit 0/\Ent t (mN [(7,.own 0 0 r.length)] [(0,⟨3,r.map (ow eM)⟩)] 1)) (kB (σ:=sg [(0,0),(1,1)]) (pP 3 k2 (mO ⟨_,k,⟨k,k,k,k⟩⟩ (bN k2))) (bS k<|bS k<|hX k k<|aR) k) ?_ ?_
 ·intro x1 o h;refine sR<|cm k4<|an<|tn<|sQ<|dC k h (λ_ h=>?_) λ_ h=>bA<|aB<|aB<|sp h ⟨_,k,k,(kE [2] (bN k2) (cF (hO.plainO _) k<|aR) k4)⟩;refine aI<|tn<|sQ<|aE<|sR<|am k k<|oB h λv2 hv2 h=>ae (xl hv2 k) k<|lr k7<|aa k k<|aT k2<|sQ<|aQ fW<|fp k8<|lp k8<|fp k8<|lp k8<|am k k<|oB h λv3 hv3 h=>ae (xl hv3 k) k<|lr k7<|am k k<|am k k<|oB h λv4 hv4 h=>ae (xl hv4 k) k<|lr k7<|oB h λv5 hv5 h=>ae (cM (aFu a0.p v3 v4 v5 hv5) k3 (dF k (aX (iL k) (aX (iL k) aU)))) k<|ae (cB aL k k) k<|ae (ws k) k ?_;refine an<|nH (by kernel_rfl)<|tn<|aQ fW<|am k k<|fp k8<|lp k8<|lp k8<|fp k8<|lp k8<|ae (gK k k) k<|fp k8<|lp k8<|am k k<|fp k8<|fp k8<|lp k8<|am k k<|oB h λv6 hv6 h=>ae (xl hv6 k) k<|lr k7<|oB h λv7 hv7 h=>ae (xl hv7 k) k<|lr k7<|fp k8<|lp k8<|am k k<|oB h λv8 hv8 h=>ae (xl hv8 k) k<|lr k7<|oB h λv9 hv9 h=>ae (cM (aFu a0.p v7 v8 v9 hv9) k3 (dF k (aX (iL k) (aX (iL k) aU)))) k<|oB h λv10 hv10 h=>ae (cM (aOW a0.p v5 (wr (a0.p - 1)) v9 v10 hv10) k3 (dF k (aX (vaM k2) (dF k (aX (vaM k2) aU))))) k<|ae (wl k) k ?_;exact cG h λq11 h=>ae (kZ aL (l:=x1.1) (c:=[.int v10.rows,.int v10.cols,.own 6 0 v10.cells.length]) q11 k k k k k k k k k k k k k k) k<|aa k k<|an<|nH (by kernel_rfl)<|aZ<|tn<|aN (t:=mN [(2,.list 3 (a2.map eM)),(3,.ptr 0 0 0),(4,.ptr 1 0 0),(7,.own 8 0 ((x1.1++[v10]).length)),(13,.list 1 (a0.q.src.map eI)),(14,.int (a0.q.src.length:Int)),(15,.int x1.2)] [(0,⟨6,[eR a0]⟩),(1,⟨6,[eR a1]⟩),(8,⟨3,List.map (ow eM) (x1.1++[v10])⟩)] 9) (Ent.trans (iS (b:=8) (b':=6) (j:=2) (es':=v10.cells.map eI) k k k k (aO _ _) (cW.frzs _)) (bO (pP 3 k2 (mO ⟨_,k,⟨k,k,(by simp only [aO,lA,lT,lR,lC,lN]),k⟩⟩ (bN k2))) (bS k<|bS k<|hX ⟨_,k,k,.inl ⟨qP v10 k,hO.plainO _⟩⟩ k<|aR) k4))<|rg<|ae (bJ k k) k<|am k k<|an<|tn<|sp h ⟨_,k,(kE [0,1,8] (bN k2) (bS k<|bS k<|cF (hO.plainO _) k<|aR) k4)⟩
 ·rintro e t ⟨rfl,hent⟩;exact aP<|tn<|aN hent<|sR<|am k k<|aT k2<|aG<|sp h (cA k k k (pS (gF hO k k)))
def mS (a0:Rp) (a1:Rp) (x1:((List Mt)×Int)):Option (((List Mt)×Int) ⊕ (List Mt)):=
 bif decide (x1.2<(a0.q.src.length:Int)) then
 ((cO a0.q.src x1.2).bind λv2=>
 (cO a0.q.tgt x1.2).bind λv3=>
 (cO a1.dims v3).bind λv4=>
 (cO a0.dims v2).bind λv5=>
 (tY v4 v5).bind λv6=>
 bif decide (x1.1.length+1<=4294967296) then
 (some (.inl ((x1.1++[v6]),wr (x1.2+1))))
 else none)
 else
 (some (.inr x1.1))
def pV (a0:Rp) (a1:Rp):Option (List Mt):=
 (Lp (mS a0 a1) ([],0)).bind λy8=>
 some (y8)
theorem aEj (a0:Rp) (a1:Rp) (r:(List Mt)) (h:pV a0 a1=some r):HasC Tryz.prog 224 [.agg (eR a0),.agg (eR a1)] (.list 3 (r.map eM)):=by
 refine hM [.tmp 4] Tryz.func224 Tryz.ntmps224 k<|sR<|ae (wb k) k<|ae (wb k) k<|aT k2<|sR<|aT k2<|sQ<|sR<|fp k8<|fp k8<|lp k8<|ln k4<|am k k<|an<|tn<|aE<|oB h λy8 hy8 h=>cH (body:=(mS a0 a1)) hy8 (λ(x1:((List Mt)×Int))=>mN [(2,.ptr 0 0 0),(3,.ptr 1 0 0),(5,.own 2 0 x1.1.length),(10,.list 1 (a0.q.src.map eI)),(11,.int (a0.q.src.length:Int)),(12,.int x1.2)] [(0,⟨6,[eR a0]⟩),(1,⟨6,[eR a1]⟩),(2,⟨3,x1.1.map (ow eM)⟩)] 3) (λr e t=>e= .exit 0/\Ent t (mN [(5,.own 0 0 r.length)] [(0,⟨3,r.map (ow eM)⟩)] 1)) (kB (σ:=sg [(0,0),(1,1)]) (pP 2 k2 (mO ⟨_,k,⟨k,k,k,k⟩⟩ (bN k2))) (bS k<|bS k<|hX k k<|aR) k) ?_ ?_
 ·intro x1 o h;refine sR<|cm k4<|an<|tn<|sQ<|dC k h (λ_ h=>?_) λ_ h=>bA<|aB<|aB<|sp h ⟨_,k,k,(kE [2] (bN k2) (cF (hO.plainO _) k<|aR) k4)⟩;refine aI<|tn<|sQ<|aE<|sR<|am k k<|oB h λv2 hv2 h=>ae (xl hv2 k) k<|lr k7<|aa k k<|aT k2<|aQ fW<|am k k<|fp k8<|lp k8<|fp k8<|fp k8<|lp k8<|am k k<|oB h λv3 hv3 h=>ae (xl hv3 k) k<|lr k7<|oB h λv4 hv4 h=>ae (xl hv4 k) k<|lr k7<|fp k8<|lp k8<|am k k<|oB h λv5 hv5 h=>ae (xl hv5 k) k ?_;exact lr k7<|oB h λv6 hv6 h=>ae (cM (aBe v4 v5 v6 hv6) k3 (dF k (dF k aU))) k<|ae (wl k) k<|cG h λq7 h=>ae (kZ aL (l:=x1.1) (c:=[.int v6.rows,.int v6.cols,.own 3 0 v6.cells.length]) q7 k k k k k k k k k k k k k k) k<|aa k k<|an<|nH (by kernel_rfl)<|aZ<|tn<|aN (t:=mN [(2,.ptr 0 0 0),(3,.ptr 1 0 0),(5,.own 5 0 ((x1.1++[v6]).length)),(10,.list 1 (a0.q.src.map eI)),(11,.int (a0.q.src.length:Int)),(12,.int x1.2)] [(0,⟨6,[eR a0]⟩),(1,⟨6,[eR a1]⟩),(5,⟨3,List.map (ow eM) (x1.1++[v6])⟩)] 6) (Ent.trans (iS (b:=5) (b':=3) (j:=2) (es':=v6.cells.map eI) k k k k (aO _ _) (cW.frzs _)) (bO (pP 2 k2 (mO ⟨_,k,⟨k,k,(by simp only [aO,lA,lT,lR,lC,lN]),k⟩⟩ (bN k2))) (bS k<|bS k<|hX ⟨_,k,k,.inl ⟨qP v6 k,hO.plainO _⟩⟩ k<|aR) k4))<|rg<|ae (bJ k k) k<|am k k<|an<|tn<|sp h ⟨_,k,(kE [0,1,5] (bN k2) (bS k<|bS k<|cF (hO.plainO _) k<|aR) k4)⟩
 ·rintro e t ⟨rfl,hent⟩;exact aP<|tn<|aN hent<|sR<|am k k<|aT k2<|aG<|sp h (cA k k k (pS (gF hO k k)))
def oD (v1:Mt) (v3:aA) (x1:(aA×Int)) (x2:(aA×Int)):Option ((aA×Int) ⊕ aA):=
 bif decide (x2.2<(v3.length:Int)) then
 ((cO v3 x2.2).bind λv5=>
 (cO x2.1 (wr ((wr (x2.2*v1.cols))+x1.2))).bind λv6=>
 some (.inl ((x2.1.set ((wr ((wr (x2.2*v1.cols))+x1.2)).toNat) v5),wr (x2.2+1))))
 else
 (some (.inr x2.1))
def oF (a1:aD) (v1:Mt) (x1:(aA×Int)):Option ((aA×Int) ⊕ aA):=
 bif decide (x1.2<(a1.length:Int)) then
 ((cO a1 x1.2).bind λv3=>
 (Lp (oD v1 v3 x1) (x1.1,0)).bind λy7=>
 some (.inl (y7,wr (x1.2+1))))
 else
 (some (.inr x1.1))
def sA (a0:Int) (a1:aD):Option Mt:=
 (tY a0 (a1.length:Int)).bind λv1=>
 (Lp (oF a1 v1) (v1.cells,0)).bind λy8=>
 some ((⟨v1.rows,v1.cols,y8⟩:Mt))
theorem aFI (a0:Int) (a1:aD) (r:Mt) (h:sA a0 a1=some r):HasC Tryz.prog 119 [.int a0,.list 1 (a1.map (bU 1 eI))] (.agg (eM r)):=by
 refine hM [.cell 4 81] Tryz.func119 Tryz.ntmps119 k<|sR<|ae (cB aL k k) k<|an<|tn<|sR<|am k k<|am k k<|ln k4<|oB h λv1 hv1 h=>ae (cM (aBe a0 (a1.length:Int) v1 hv1) k3 (dF k (dF k aU))) k<|ae (cB aL k k) k<|ae (ws k) k<|an<|tn<|sQ<|sR<|am k k<|ln k4<|am k k<|an<|tn<|aE<|oB h λy8 hy8 h=>cH (body:=(oF a1 v1)) hy8 (λ(x1:(aA×Int))=>mN [(4,.ptr 0 0 0),(5,.ptr 1 0 0),(14,.list 1 (a1.map (bU 1 eI))),(15,.int (a1.length:Int)),(16,.int x1.2)] [(0,⟨3,[lL]⟩),(1,⟨3,[[.int v1.rows,.int v1.cols,.own 2 0 x1.1.length]]⟩),(2,⟨1,x1.1.map (ow eI)⟩)] 3) (λr e t=>e= .exit 0/\Ent t (mN [(4,.ptr 0 0 0),(5,.ptr 1 0 0)] [(0,⟨3,[lL]⟩),(1,⟨3,[[.int v1.rows,.int v1.cols,.own 2 0 r.length]]⟩),(2,⟨1,r.map (ow eI)⟩)] 3)) (kE [0,2,1] (bN k2) (bS k<|fV k<|cD k<|aR) k4) ?_ ?_
 ·intro x1 o h;refine sR<|cm k4<|an<|tn<|sQ<|dC k h (λ_ h=>?_) λ_ h=>bA<|aB<|aB<|sp h ⟨_,k,k,(bO (bN k2) (bS k<|fV k<|cD k<|aR) k4)⟩;refine aI<|tn<|sQ<|aE<|sR<|am k k<|oB h λv3 hv3 h=>ae (xl hv3 k) k<|lr k7<|aa k k<|aT k2<|sR<|am k k<|ln k4<|am k k<|an<|tn<|aE<|oB h λy7 hy7 h=>cH (body:=(oD v1 v3 x1)) hy7 (λ(x2:(aA×Int))=>mN [(4,.ptr 0 0 0),(5,.ptr 1 0 0),(6,.int x1.2),(14,.list 1 (a1.map (bU 1 eI))),(15,.int (a1.length:Int)),(16,.int x1.2),(21,.list 1 (v3.map eI)),(22,.int (v3.length:Int)),(23,.int x2.2)] [(0,⟨3,[lL]⟩),(1,⟨3,[[.int v1.rows,.int v1.cols,.own 2 0 x2.1.length]]⟩),(2,⟨1,x2.1.map (ow eI)⟩)] 3) (λr e t=>e= .exit 2/\Ent t (mN [(4,.ptr 0 0 0),(5,.ptr 1 0 0),(14,.list 1 (a1.map (bU 1 eI))),(15,.int (a1.length:Int)),(16,.int x1.2)] [(0,⟨3,[lL]⟩),(1,⟨3,[[.int v1.rows,.int v1.cols,.own 2 0 r.length]]⟩),(2,⟨1,r.map (ow eI)⟩)] 3)) (bO (bN k2) (bS k<|fV k<|cD k<|aR) k4) ?_ ?_
  ·intro x2 o h;refine sR<|cm k4<|an<|tn<|sQ<|dC k h (λ_ h=>?_) λ_ h=>bA<|aB<|aB<|sp h ⟨_,k,k,(bO (bN k2) (bS k<|fV k<|cD k<|aR) k4)⟩;refine aI<|tn<|sQ<|aE<|sR<|am k k<|oB h λv5 hv5 h=>ae (xl hv5 k) k<|lr k7<|aa k k<|aT k2<|rg<|fp k8<|lp k8<|am k k<|fp k8<|lp k8<|ae (gC k k) k<|am k k<|ae (bJ k k) k<|am k k<|oB h λv6 hv6 h=>ae (xo hv6 k) k<|ae (gE aL jZ (u:=v5) (fC hv6) k k k k k k) k<|an<|aZ<|tn<|rg ?_;exact ae (bJ k k) k<|am k k<|an<|tn<|sp h ⟨_,k,(bO (bN k2) (bS k<|hX ⟨_,k,k,.inr ⟨_,_,k,⟨_,_,k,k,⟨_,_,k,k,⟨_,_,k,⟨k,k,(by simp only [aO,lA,lT,lR,lC,lN]),k⟩,k⟩⟩⟩,k⟩⟩ k<|cD k<|aR) k4)⟩
  ·rintro e t ⟨rfl,hent⟩;exact aP<|aZ<|tn<|aN hent<|rg<|ae (bJ k k) k<|am k k<|an<|tn<|sp h ⟨_,k,(bO (bN k2) (bS k<|fV k<|cD k<|aR) k4)⟩
 ·rintro e t ⟨rfl,hent⟩;exact aP<|tn<|aN hent<|sR<|lp k8<|ae (ws k) k<|an<|tn<|aG<|sp h (cA k k k (aAC (bH (k) (bH (k) (bH (gF cW k k) gI)))))
def pA (a0:Rp) (a1:Rp) (v1:(List Mt)) (v2:aA) (x1:(aD×Int)):Option ((aD×Int) ⊕ aD):=
 bif decide (x1.2<((v2.length:Nat):Int)) then
 (bif (decide (0<=((v2.length:Nat):Int))&&decide (((v2.length:Nat):Int)<=1048576)) then
 ((cO (List.replicate (((v2.length:Nat):Int).toNat) (0:Int)) x1.2).bind λv4=>
 (zF v1 ((List.replicate (((v2.length:Nat):Int).toNat) (0:Int)).set x1.2.toNat 1)).bind λv5=>
 (tM a0 a1 v5).bind λv6=>
 (oY v6).bind λv7=>
 bif decide (x1.1.length+1<=4294967296) then
 (some (.inl ((x1.1++[v7]),wr (x1.2+1))))
 else none)
 else none)
 else
 (some (.inr x1.1))
def pB (a0:Rp) (a1:Rp):Option Mt:=
 (aAi a0 a1).bind λv1=>
 (oY v1).bind λv2=>
 (Lp (pA a0 a1 v1 v2) ([],0)).bind λy10=>
 (pV a0 a1).bind λv11=>
 (oY v11).bind λv12=>
 (sA ((v12.length:Nat):Int) y10).bind λv13=>
 some (v13)
theorem aBh (a0:Rp) (a1:Rp) (r:Mt) (h:pB a0 a1=some r):HasC Tryz.prog 167 [.agg (eR a0),.agg (eR a1)] (.agg (eM r)):=by
 refine hM [.cell 4 81] Tryz.func167 Tryz.ntmps167 k<|sR<|ae (wb k) k<|ae (wb k) k<|ae (cB aL k k) k<|an<|tn<|sR<|lp k8<|lp k8<|oB h λv1 hv1 h=>ae (cL hO (aMq a0 a1 v1 hv1) k3 (aX (iL k) (aX (iL k) aU))) k<|aT k2<|sR<|am k k<|oB h λv2 hv2 h=>ae (cL cW (aDn v1 v2 hv2) k3 (aX (aCM hO k k) aU)) k<|ae (cN aL k k k k) k<|aT k2<|sR<|aT k2<|sQ ?_;refine sR<|am k k<|am k k<|an<|tn<|aE<|oB h λy10 hy10 h=>cH (body:=(pA a0 a1 v1 v2)) hy10 (λ(x1:(aD×Int))=>mN [(2,.ptr 0 0 0),(3,.ptr 1 0 0),(4,.ptr 2 0 0),(5,.own 3 0 v1.length),(6,.int ((v2.length:Nat):Int)),(7,.own 4 0 x1.1.length),(16,.int ((v2.length:Nat):Int)),(17,.int x1.2)] [(0,⟨6,[eR a0]⟩),(1,⟨6,[eR a1]⟩),(2,⟨3,[lL]⟩),(3,⟨3,v1.map (ow eM)⟩),(4,⟨1,x1.1.map (ow (bU 1 eI))⟩)] 5) (λr e t=>e= .exit 0/\Ent t (mN [(2,.ptr 0 0 0),(3,.ptr 1 0 0),(4,.ptr 2 0 0),(7,.own 3 0 r.length)] [(0,⟨6,[eR a0]⟩),(1,⟨6,[eR a1]⟩),(2,⟨3,[lL]⟩),(3,⟨1,r.map (ow (bU 1 eI))⟩)] 4)) (kB (σ:=sg [(0,0),(1,1),(2,2),(3,3)]) (pP 5 k2 (mO ⟨_,k,⟨k,k,k,k⟩⟩ (bN k2))) (bS k<|bS k<|bS k<|cF (hO.plainO _) k<|hX k k<|aR) k) ?_ ?_
 ·intro x1 o h;refine sR<|cm k4<|an<|tn<|sQ<|dC k h (λ_ h=>?_) λ_ h=>bA<|aB<|aB<|sp h ⟨_,k,k,(kE [0,1,2,4] (bN k2) (bS k<|bS k<|bS k<|cF (aV.plainO _) k<|aR) k4)⟩;refine aI<|tn<|sQ<|aE<|sR<|am k k<|aT k2<|sR<|am k k<|cG h λq9 h=>ae (aAD aL q9 k k k k k k k k) k<|aT k2<|aN (t:=mN [(2,.ptr 0 0 0),(3,.ptr 1 0 0),(4,.ptr 2 0 0),(5,.own 3 0 v1.length),(6,.int ((v2.length:Nat):Int)),(7,.own 4 0 x1.1.length),(8,.int x1.2),(9,.own 5 0 ((List.replicate (((v2.length:Nat):Int).toNat) (0:Int)).length)),(16,.int ((v2.length:Nat):Int)),(17,.int x1.2)] [(0,⟨6,[eR a0]⟩),(1,⟨6,[eR a1]⟩),(2,⟨3,[lL]⟩),(3,⟨3,v1.map (ow eM)⟩),(4,⟨1,x1.1.map (ow (bU 1 eI))⟩),(5,⟨1,List.map (ow eI) (List.replicate (((v2.length:Nat):Int).toNat) (0:Int))⟩)] 6) (bO (pP 7 k2 (mO ⟨_,k,⟨k,k,(by simp only [aO,lA,lT,lR,lC,lN]),k⟩⟩ (bN k2))) (bS k<|bS k<|bS k<|cF (hO.plainO _) k<|cF (aV.plainO _) k<|hX ⟨_,k,k,.inl ⟨aAy (e:=eI) (z:=0) _,cW.plainO _⟩⟩ k<|aR) k4)<|sR<|am k k<|am k k<|oB h λv4 hv4 h=>ae (xo hv4 k) k<|ae (gE aL jZ (u:=1) (fC hv4) k k k k k k) k<|an<|tn<|aQ fW<|am k k<|lp k8 ?_;exact lp k8<|am k k<|am k k<|oB h λv5 hv5 h=>ae (cL hO (aKi v1 ((List.replicate (((v2.length:Nat):Int).toNat) (0:Int)).set x1.2.toNat 1) v5 hv5) k3 (aX (aCM hO k k) (aX (aCM cW k (by first|rfl|simp only [List.length_set])) aU))) k<|oB h λv6 hv6 h=>ae (cL hO (aFy a0 a1 v5 v6 hv6) k3 (aX (iL k) (aX (iL k) (aX (aCM hO k k) aU)))) k<|oB h λv7 hv7 h=>ae (cL cW (aDn v6 v7 hv7) k3 (aX (aCM hO k k) aU)) k<|ae (wl k) k<|cG h λq8 h=>ae (kZ aL (l:=x1.1) (c:=[.own 8 0 v7.length]) q8 k k k k k k k k k k k k k k) k<|aa k k<|an<|nH (by kernel_rfl)<|aZ<|tn<|aN (t:=mN [(2,.ptr 0 0 0),(3,.ptr 1 0 0),(4,.ptr 2 0 0),(5,.own 3 0 v1.length),(6,.int ((v2.length:Nat):Int)),(7,.own 10 0 ((x1.1++[v7]).length)),(16,.int ((v2.length:Nat):Int)),(17,.int x1.2)] [(0,⟨6,[eR a0]⟩),(1,⟨6,[eR a1]⟩),(2,⟨3,[lL]⟩),(3,⟨3,v1.map (ow eM)⟩),(10,⟨1,List.map (ow (bU 1 eI)) (x1.1++[v7])⟩)] 11) (Ent.trans (iS (b:=10) (b':=8) (j:=0) (es':=v7.map eI) k k k k (aO _ _) (cW.frzs _)) (bO (pP 5 k2 (mO ⟨_,k,⟨k,k,(by simp only [aO,lA,lT,lR,lC,lN]),k⟩⟩ (bN k2))) (bS k<|bS k<|bS k<|cF (hO.plainO _) k<|hX ⟨_,k,k,.inl ⟨qP v7 k,aV.plainO _⟩⟩ k<|aR) k4))<|rg<|ae (bJ k k) k<|am k k<|an<|tn<|sp h ⟨_,k,(kE [0,1,2,3,10] (bN k2) (bS k<|bS k<|bS k<|cF (hO.plainO _) k<|cF (aV.plainO _) k<|aR) k4)⟩
 ·rintro e t ⟨rfl,hent⟩;exact aP<|tn<|aN hent<|sR<|lp k8<|lp k8<|oB h λv11 hv11 h=>ae (cL hO (aEj a0 a1 v11 hv11) k3 (aX (iL k) (aX (iL k) aU))) k<|oB h λv12 hv12 h=>ae (cL cW (aDn v11 v12 hv12) k3 (aX (aCM hO k k) aU)) k<|ae (cN aL k k k k) k<|am k k<|oB h λv13 hv13 h=>ae (cM (aFI ((v12.length:Nat):Int) y10 v13 hv13) k3 (dF k (aX (aCM aV k k) aU))) k<|ae (ws k) k<|an<|tn<|aG<|sp h (cA k k k (aAC (bH (k) (bH (k) (bH (gF cW k k) gI)))))
def zG (a0:Rp) (a1:Rp):Option Int:=
 (pB a0 a1).bind λv1=>
 (zR a0.p v1).bind λv2=>
 some (wr (v1.cols - v2))
theorem aKj (a0:Rp) (a1:Rp) (r:Int) (h:zG a0 a1=some r):HasC Tryz.prog 80 [.agg (eR a0),.agg (eR a1)] (.int r):=by
 refine hM [.tmp 4] Tryz.func80 Tryz.ntmps80 k<|sR<|ae (wb k) k<|ae (wb k) k<|aT k2<|sR<|lp k8<|lp k8<|oB h λv1 hv1 h=>ae (cM (aBh a0 a1 v1 hv1) k3 (aX (iL k) (aX (iL k) aU))) k<|ae (cB aL k k) k<|ae (ws k) k<|an<|tn<|sQ<|aQ fW<|fp k8<|lp k8<|fp k8<|lp k8<|lp k8<|oB h λv2 hv2 h=>ae (aS (aHt a0.p v1 v2 hv2) k (dF k (aX (vaM k2) aU))) k<|ae (gK k k) k<|aa k k<|an<|nH (by kernel_rfl)<|tn ?_;exact aG<|xQ h k2
def vL (a0:Rp) (a1:Rp):Option Int:=
 (yR a0 a1).bind λv1=>
 bif !v1 then
 (some ((-1)))
 else
 ((zG a0 a1).bind λv3=>
 some (v3))
theorem aKk (a0:Rp) (a1:Rp) (r:Int) (h:vL a0 a1=some r):HasC Tryz.prog 15 [.agg (eR a0),.agg (eR a1)] (.int r):=by
 exact hM [.tmp 4] Tryz.func15 Tryz.ntmps15 k<|sR<|ae (wb k) k<|ae (wb k) k<|aT k2<|sQ<|sR<|lp k8<|lp k8<|oB h λv1 hv1 h=>ae (aS (aJb a0 a1 v1 hv1) k (aX (iL k) (aX (iL k) aU))) k<|ae (fB k) k<|an<|tn<|dC k h (λ_ h=>sR<|aT k2<|aG<|aM<|xQ h k2) λ_ h=>aI<|tn<|sR<|lp k8<|lp k8<|oB h λv3 hv3 h=>ae (aS (aKj a0 a1 v3 hv3) k (aX (iL k) (aX (iL k) aU))) k<|aT k2<|aG<|xQ h k2
def sB (a0:Int) (v1:(Mt×aA)) (x1:(Int×aD)) (x2:(aA×Int)):Option ((aA×Int) ⊕ aA):=
 bif decide (x2.2<((v1.2.length:Nat):Int)) then
 ((cO v1.2 x2.2).bind λv7=>
 (cO v1.1.cells (wr ((wr (x2.2*v1.1.cols))+x1.1))).bind λv8=>
 (kU a0 (wr (-v8))).bind λv9=>
 (cO x2.1 v7).bind λv10=>
 some (.inl ((x2.1.set v7.toNat v9),wr (x2.2+1))))
 else
 (some (.inr x2.1))
def sC (a0:Int) (v1:(Mt×aA)) (x1:(Int×aD)):Option ((Int×aD) ⊕ aD):=
 bif decide (x1.1<v1.1.cols) then
 ((aAd v1.2 x1.1).bind λv3=>
 bif v3 then
 (some (.inl (wr (x1.1+1),x1.2)))
 else
 (bif (decide (0<=v1.1.cols)&&decide (v1.1.cols<=1048576)) then
 ((cO (List.replicate v1.1.cols.toNat (0:Int)) x1.1).bind λv5=>
 (Lp (sB a0 v1 x1) (((List.replicate v1.1.cols.toNat (0:Int)).set x1.1.toNat 1),0)).bind λy11=>
 bif decide (x1.2.length+1<=4294967296) then
 (some (.inl (wr (x1.1+1),(x1.2++[y11]))))
 else none)
 else none))
 else
 (some (.inr x1.2))
def wK (a0:Int) (a1:Mt):Option aD:=
 (wA a0 a1).bind λv1=>
 (Lp (sC a0 v1) (0,([]:aD))).bind λy14=>
 some (y14)
theorem aIQ (a0:Int) (a1:Mt) (r:aD) (h:wK a0 a1=some r):HasC Tryz.prog 191 [.int a0,.agg (eM a1)] (.list 1 (r.map (bU 1 eI))):=by
 refine hM [.tmp 4] Tryz.func191 Tryz.ntmps191 k<|sR<|ae (wb k) k<|aT k2<|sR<|am k k<|lp k8<|oB h λv1 hv1 h=>ae (AEff.conv (gJ (x:= .tuple [.agg [.int v1.1.rows,.int v1.1.cols,.own 1 0 (v1.1.cells.map eI).length],.own 2 0 (v1.2.map eI).length]) (nb:=[(1,⟨1,cK (v1.1.cells.map eI)⟩),(2,⟨1,cK (v1.2.map eI)⟩)]) (aIM a0 a1 v1 hv1) k (by rfl) k k (cV (bY aR (bY aR (bY (cW.good _) kY))) (cV (cW.good _) kM)) (dF k (aX (iL k) aU))) (v':= .tuple [.agg [.int v1.1.rows,.int v1.1.cols,.own 1 0 v1.1.cells.length],.own 2 0 v1.2.length]) (ed':=[(1,some ⟨1,v1.1.cells.map (ow eI)⟩),(2,some ⟨1,v1.2.map (ow eI)⟩)]) (by simp only [aO]) (oV (nb':=[(1,⟨1,v1.1.cells.map (ow eI)⟩),(2,⟨1,v1.2.map (ow eI)⟩)]) (by simp only [fJ]))) k<|am k k<|ae (aW k k (by intro _ h;cases h)) k<|ae (aW k k (by intro _ h;cases h)) k<|ae (cB aL k k) k<|ae (ws k) k<|aT k2<|sR<|ae (wl k) k<|aT k2<|aN (t:=mN [(0,.int a0),(5,.ptr 3 0 0),(6,.own 2 0 v1.2.length),(7,.own 4 0 (([]:aD).length))] [(1,⟨1,v1.1.cells.map (ow eI)⟩),(2,⟨1,v1.2.map (ow eI)⟩),(3,⟨3,[oMt v1.1 1]⟩),(4,⟨1,List.map (ow (bU 1 eI)) ([]:aD)⟩)] 5) (bO (pP 3 k2 (mO ⟨_,k,⟨k,k,(by simp only [aO,lA,lT,lR,lC,lN]),k⟩⟩ aR)) (cD k<|cD k<|fV k<|cF (aV.plainO _) k<|aR) k4)<|sQ<|sR ?_;refine aT k2<|aE<|oB h λy14 hy14 h=>cH (body:=(sC a0 v1)) hy14 (λ(x1:(Int×aD))=>mN [(0,.int a0),(5,.ptr 0 0 0),(6,.own 2 0 v1.2.length),(7,.own 3 0 x1.2.length),(8,.int x1.1)] [(0,⟨3,[oMt v1.1 1]⟩),(1,⟨1,v1.1.cells.map (ow eI)⟩),(2,⟨1,v1.2.map (ow eI)⟩),(3,⟨1,x1.2.map (ow (bU 1 eI))⟩)] 4) (λr e t=>e= .exit 0/\Ent t (mN [(7,.own 0 0 r.length)] [(0,⟨1,r.map (ow (bU 1 eI))⟩)] 1)) (kE [3,1,2,4] (bN k2) (fV k<|cD k<|cD k<|cF (aV.plainO _) k<|aR) k4) ?_ ?_
 ·intro x1 o h;refine sQ<|sR<|am k k<|fp k8<|lp k8<|cm k4<|an<|tn<|dC k h (λ_ h=>?_) λ_ h=>bA<|aB<|aB<|sp h ⟨_,k,k,(kE [3] (bN k2) (cF (aV.plainO _) k<|aR) k4)⟩;refine aI<|tn<|sQ<|aE<|sQ<|sR<|am k k<|am k k<|oB h λv3 hv3 h=>ae (aS (aMi v1.2 x1.1 v3 hv3) k (vcT k k (dF k aU))) k<|an<|tn<|dC k h (λ_ h=>bA<|aB<|aP<|tn<|rg<|am k k<|ae (bJ k k) k<|aT k2<|sp h ⟨_,k,(bO (bN k2) (fV k<|cD k<|cD k<|cF (aV.plainO _) k<|aR) k4)⟩) λ_ h=>?_;refine aI<|tn<|sR<|fp k8<|lp k8<|cG h λq13 h=>ae (aAD aL q13 k k k k k k k k) k<|aT k2<|aN (t:=mN [(0,.int a0),(5,.ptr 0 0 0),(6,.own 2 0 v1.2.length),(7,.own 3 0 x1.2.length),(8,.int x1.1),(9,.own 4 0 ((List.replicate v1.1.cols.toNat (0:Int)).length))] [(0,⟨3,[oMt v1.1 1]⟩),(1,⟨1,v1.1.cells.map (ow eI)⟩),(2,⟨1,v1.2.map (ow eI)⟩),(3,⟨1,x1.2.map (ow (bU 1 eI))⟩),(4,⟨1,List.map (ow eI) (List.replicate v1.1.cols.toNat (0:Int))⟩)] 5) (bO (pP 5 k2 (mO ⟨_,k,⟨k,k,(by simp only [aO,lA,lT,lR,lC,lN]),k⟩⟩ aR)) (fV k<|cD k<|cD k<|cF (aV.plainO _) k<|hX ⟨_,k,k,.inl ⟨aAy (e:=eI) (z:=0) _,cW.plainO _⟩⟩ k<|aR) k4)<|sR<|am k k<|am k k<|oB h λv5 hv5 h=>ae (xo hv5 k) k<|ae (gE aL jZ (u:=1) (fC hv5) k k k k k k) k<|an<|tn<|sQ<|sR<|aT k2<|aE<|oB h λy11 hy11 h=>cH (body:=(sB a0 v1 x1)) hy11 (λ(x2:(aA×Int))=>mN [(0,.int a0),(5,.ptr 0 0 0),(6,.own 2 0 v1.2.length),(7,.own 3 0 x1.2.length),(8,.int x1.1),(9,.own 4 0 x2.1.length),(10,.int x2.2)] [(0,⟨3,[oMt v1.1 1]⟩),(1,⟨1,v1.1.cells.map (ow eI)⟩),(2,⟨1,v1.2.map (ow eI)⟩),(3,⟨1,x1.2.map (ow (bU 1 eI))⟩),(4,⟨1,x2.1.map (ow eI)⟩)] 5) (λr e t=>e= .exit 2/\Ent t (mN [(0,.int a0),(5,.ptr 0 0 0),(6,.own 2 0 v1.2.length),(7,.own 3 0 x1.2.length),(8,.int x1.1),(9,.own 4 0 r.length)] [(0,⟨3,[oMt v1.1 1]⟩),(1,⟨1,v1.1.cells.map (ow eI)⟩),(2,⟨1,v1.2.map (ow eI)⟩),(3,⟨1,x1.2.map (ow (bU 1 eI))⟩),(4,⟨1,r.map (ow eI)⟩)] 5)) (bO (pP 5 k2 (mO ⟨_,k,⟨k,k,(by simp only [aO,lA,lT,lR,lC,lN]),k⟩⟩ (bN k2))) (fV k<|cD k<|cD k<|cF (aV.plainO _) k<|cD k<|aR) k4) ?_ ?_
  ·intro x2 o h;refine sQ<|sR<|am k k<|am k k<|ae (cN aL k k k k) k<|cm k4<|an<|tn<|dC k h (λ_ h=>?_) λ_ h=>bA<|aB<|aB<|sp h ⟨_,k,k,(bO (bN k2) (fV k<|cD k<|cD k<|cF (aV.plainO _) k<|cD k<|aR) k4)⟩;refine aI<|tn<|sQ<|aE<|aQ fW<|am k k<|am k k<|am k k<|oB h λv7 hv7 h=>ae (xo hv7 k) k<|ae (wp hv7 k) k<|am k k<|fp k8<|lp k8<|am k k<|fp k8<|lp k8<|ae (gC k k) k<|am k k<|ae (bJ k k) k<|oB h λv8 hv8 h=>ae (xo hv8 k) k<|ae (wp hv8 k) k<|ae (aLR k) k<|oB h λv9 hv9 h=>ae (aS (rU a0 (wr (-v8)) v9 hv9) k (dF k (dF k aU))) k<|oB h λv10 hv10 h=>ae (xo hv10 k) k<|ae (gE aL jZ (u:=v9) (fC hv10) k k k k k k) k<|an<|nH (by kernel_rfl)<|aZ<|tn ?_;exact aN (t:=mN [(0,.int a0),(5,.ptr 0 0 0),(6,.own 2 0 v1.2.length),(7,.own 3 0 x1.2.length),(8,.int x1.1),(9,.own 4 0 ((x2.1.set v7.toNat v9).length)),(10,.int x2.2)] [(0,⟨3,[oMt v1.1 1]⟩),(1,⟨1,v1.1.cells.map (ow eI)⟩),(2,⟨1,v1.2.map (ow eI)⟩),(3,⟨1,x1.2.map (ow (bU 1 eI))⟩),(4,⟨1,List.map (ow eI) (x2.1.set v7.toNat v9)⟩)] 5) (bO (pP 5 k2 (mO ⟨_,k,⟨k,k,(by simp only [aO,lA,lT,lR,lC,lN]),k⟩⟩ (bN k2))) (fV k<|cD k<|cD k<|cF (aV.plainO _) k<|cD k<|aR) k4)<|rg<|am k k<|ae (bJ k k) k<|aT k2<|sp h ⟨_,k,(bO (bN k2) (fV k<|cD k<|cD k<|cF (aV.plainO _) k<|cD k<|aR) k4)⟩
  ·rintro e t ⟨rfl,hent⟩;exact aP<|tn<|aN hent<|rg<|am k k<|am k k<|ae (wl k) k<|cG h λq12 h=>ae (kZ aL (l:=x1.2) (c:=[.own 4 0 y11.length]) q12 k k k k k k k k k k k k k k) k<|aa k k<|an<|aZ<|tn<|aN (t:=mN [(0,.int a0),(5,.ptr 0 0 0),(6,.own 2 0 v1.2.length),(7,.own 6 0 ((x1.2++[y11]).length)),(8,.int x1.1)] [(0,⟨3,[oMt v1.1 1]⟩),(1,⟨1,v1.1.cells.map (ow eI)⟩),(2,⟨1,v1.2.map (ow eI)⟩),(6,⟨1,List.map (ow (bU 1 eI)) (x1.2++[y11])⟩)] 7) (Ent.trans (iS (b:=6) (b':=4) (j:=0) (es':=y11.map eI) k k k k (aO _ _) (cW.frzs _)) (bO (pP 3 k2 (mO ⟨_,k,⟨k,k,(by simp only [aO,lA,lT,lR,lC,lN]),k⟩⟩ (bN k2))) (fV k<|cD k<|cD k<|hX ⟨_,k,k,.inl ⟨qP y11 k,aV.plainO _⟩⟩ k<|aR) k4))<|rg<|am k k<|ae (bJ k k) k<|aT k2<|sp h ⟨_,k,(kE [0,1,2,6] (bN k2) (fV k<|cD k<|cD k<|cF (aV.plainO _) k<|aR) k4)⟩
 ·rintro e t ⟨rfl,hent⟩;exact aP<|tn<|aN hent<|sR<|am k k<|aT k2<|aG<|sp h (cA k k k (pS (gF aV k k)))
def wL (a0:Rp) (a1:Rp) (a2:Int) (x1:(Int×Int)):Option ((Int×Int) ⊕ Int):=
 bif decide (x1.2<a2) then
 ((cO a0.dims x1.2).bind λv2=>
 (cO a1.dims x1.2).bind λv3=>
 some (.inl (wr (x1.1+(wr (v2*v3))),wr (x1.2+1))))
 else
 (some (.inr x1.1))
def xY (a0:Rp) (a1:Rp) (a2:Int):Option Int:=
 (Lp (wL a0 a1 a2) (0,0)).bind λy4=>
 some (y4)
theorem aFz (a0:Rp) (a1:Rp) (a2:Int) (r:Int) (h:xY a0 a1 a2=some r):HasC Tryz.prog 253 [.agg (eR a0),.agg (eR a1),.int a2] (.int r):=by
 refine hM [.tmp 6] Tryz.func253 Tryz.ntmps253 k<|sR<|ae (wb k) k<|ae (wb k) k<|aT k2<|sR<|aT k2<|sQ<|sR<|aT k2<|aE<|oB h λy4 hy4 h=>cH (body:=(wL a0 a1 a2)) hy4 (λ(x1:(Int×Int))=>mN [(2,.int a2),(3,.ptr 0 0 0),(4,.ptr 1 0 0),(7,.int x1.1),(8,.int x1.2)] [(0,⟨6,[eR a0]⟩),(1,⟨6,[eR a1]⟩)] 2) (λr e t=>e= .exit 0/\Ent t (mN [(7,.int r)] [] 0)) (bO (bN k2) (bS k<|bS k<|aR) k4) ?_ ?_
 ·intro x1 o h;exact sQ<|sR<|am k k<|am k k<|cm k4<|an<|tn<|dC k h (λ_ h=>aI<|tn<|sQ<|aE<|aQ fW<|am k k<|fp k8<|lp k8<|am k k<|oB h λv2 hv2 h=>ae (xl hv2 k) k<|lr k7<|fp k8<|lp k8<|am k k<|oB h λv3 hv3 h=>ae (xl hv3 k) k<|lr k7<|ae (gC k k) k<|ae (bJ k k) k<|aa k k<|an<|nH (by kernel_rfl)<|aZ<|tn<|rg<|am k k<|ae (bJ k k) k<|aT k2<|sp h ⟨_,k,(bO (bN k2) (bS k<|bS k<|aR) k4)⟩) λ_ h=>bA<|aB<|aB<|sp h ⟨_,k,k,(bO (bN k2) aR k4)⟩
 ·rintro e t ⟨rfl,hent⟩;exact aP<|tn<|aN hent<|sR<|am k k<|aT k2<|aG<|xQ h k2
def tN (a0:Rp) (a1:Rp) (x1:(Int×Int)):Option ((Int×Int) ⊕ Int):=
 bif decide (x1.2<(a0.dims.length:Int)) then
 ((cO a0.dims x1.2).bind λv2=>
 (cO a1.dims x1.2).bind λv3=>
 some (.inl (wr (x1.1+(wr (v2*v3))),wr (x1.2+1))))
 else
 (some (.inr x1.1))
def xZ (a0:Rp) (a1:Rp):Option Int:=
 (Lp (tN a0 a1) (0,0)).bind λy4=>
 some (y4)
theorem aJi (a0:Rp) (a1:Rp) (r:Int) (h:xZ a0 a1=some r):HasC Tryz.prog 252 [.agg (eR a0),.agg (eR a1)] (.int r):=by
 refine hM [.tmp 4] Tryz.func252 Tryz.ntmps252 k<|sR<|ae (wb k) k<|ae (wb k) k<|aT k2<|sR<|aT k2<|sQ<|sR<|aT k2<|aE<|oB h λy4 hy4 h=>cH (body:=(tN a0 a1)) hy4 (λ(x1:(Int×Int))=>mN [(2,.ptr 0 0 0),(3,.ptr 1 0 0),(5,.int x1.1),(6,.int x1.2)] [(0,⟨6,[eR a0]⟩),(1,⟨6,[eR a1]⟩)] 2) (λr e t=>e= .exit 0/\Ent t (mN [(5,.int r)] [] 0)) (bO (bN k2) (bS k<|bS k<|aR) k4) ?_ ?_
 ·intro x1 o h;exact sQ<|sR<|am k k<|fp k8<|lp k8<|ln k4<|cm k4<|an<|tn<|dC k h (λ_ h=>aI<|tn<|sQ<|aE<|aQ fW<|am k k<|fp k8<|lp k8<|am k k<|oB h λv2 hv2 h=>ae (xl hv2 k) k<|lr k7<|fp k8<|lp k8<|am k k<|oB h λv3 hv3 h=>ae (xl hv3 k) k<|lr k7<|ae (gC k k) k<|ae (bJ k k) k<|aa k k<|an<|nH (by kernel_rfl)<|aZ<|tn<|rg<|am k k<|ae (bJ k k) k<|aT k2<|sp h ⟨_,k,(bO (bN k2) (bS k<|bS k<|aR) k4)⟩) λ_ h=>bA<|aB<|aB<|sp h ⟨_,k,k,(bO (bN k2) aR k4)⟩
 ·rintro e t ⟨rfl,hent⟩;exact aP<|tn<|aN hent<|sR<|am k k<|aT k2<|aG<|xQ h k2
def jJ (a0:Rp) (a1:Rp) (v3:Int) (x1:(Int×aA×Int)) (x2:(Int×aA×Int)) (x3:(Int×aA×Int)) (x4:(aA×Int)):Option ((aA×Int) ⊕ aA):=
 (cO a1.dims v3).bind λv9=>
 bif decide (x4.2<v9) then
 ((xY a0 a1 v3).bind λv11=>
 (cO a0.dims v3).bind λv12=>
 (cO x4.1 (wr ((wr (v11+(wr (x4.2*v12))))+x3.2.2))).bind λv13=>
 (cO a1.maps x1.2.2).bind λv14=>
 (cO a1.dims v3).bind λv15=>
 (cO v14.cells (wr ((wr (x2.2.2*v15))+x4.2))).bind λv16=>
 (kU a0.p (wr (v13+v16))).bind λv17=>
 (cO x4.1 (wr ((wr (v11+(wr (x4.2*v12))))+x3.2.2))).bind λv18=>
 some (.inl ((x4.1.set ((wr ((wr (v11+(wr (x4.2*v12))))+x3.2.2)).toNat) v17),wr (x4.2+1))))
 else
 (some (.inr x4.1))
def jK (a0:Rp) (a1:Rp) (v3:Int) (v4:Int) (x1:(Int×aA×Int)) (x2:(Int×aA×Int)) (x3:(Int×aA×Int)) (x5:(aA×Int)):Option ((aA×Int) ⊕ aA):=
 (cO a0.dims v4).bind λv20=>
 bif decide (x5.2<v20) then
 ((xY a0 a1 v4).bind λv22=>
 (cO a0.dims v4).bind λv23=>
 (cO x5.1 (wr ((wr (v22+(wr (x2.2.2*v23))))+x5.2))).bind λv24=>
 (cO a0.maps x1.2.2).bind λv25=>
 (cO a0.dims v3).bind λv26=>
 (cO v25.cells (wr ((wr (x5.2*v26))+x3.2.2))).bind λv27=>
 (kU a0.p (wr (v24 - v27))).bind λv28=>
 (cO x5.1 (wr ((wr (v22+(wr (x2.2.2*v23))))+x5.2))).bind λv29=>
 some (.inl ((x5.1.set ((wr ((wr (v22+(wr (x2.2.2*v23))))+x5.2)).toNat) v28),wr (x5.2+1))))
 else
 (some (.inr x5.1))
def mT (a0:Rp) (a1:Rp) (v1:Int) (v3:Int) (v4:Int) (x1:(Int×aA×Int)) (x2:(Int×aA×Int)) (x3:(Int×aA×Int)):Option ((Int×aA×Int) ⊕ (Int×aA)):=
 (cO a0.dims v3).bind λv7=>
 bif decide (x3.2.2<v7) then
 (bif (decide (0<=v1)&&decide (v1<=1048576)) then
 ((Lp (jJ a0 a1 v3 x1 x2 x3) ((List.replicate v1.toNat (0:Int)),0)).bind λy19=>
 (Lp (jK a0 a1 v3 v4 x1 x2 x3) (y19,0)).bind λy30=>
 bif decide (x3.2.1.length+y30.length<=4294967296) then
 (some (.inl (wr (x3.1+1),(x3.2.1++y30),wr (x3.2.2+1))))
 else none)
 else none)
 else
 (some (.inr (x3.1,x3.2.1)))
def mU (a0:Rp) (a1:Rp) (v1:Int) (v3:Int) (v4:Int) (x1:(Int×aA×Int)) (x2:(Int×aA×Int)):Option ((Int×aA×Int) ⊕ (Int×aA)):=
 (cO a1.dims v4).bind λv5=>
 bif decide (x2.2.2<v5) then
 ((Lp (mT a0 a1 v1 v3 v4 x1 x2) (x2.1,x2.2.1,0)).bind λy33=>
 some (.inl (y33.1,y33.2,wr (x2.2.2+1))))
 else
 (some (.inr (x2.1,x2.2.1)))
def mV (a0:Rp) (a1:Rp) (v1:Int) (x1:(Int×aA×Int)):Option ((Int×aA×Int) ⊕ (Int×aA)):=
 bif decide (x1.2.2<(a0.maps.length:Int)) then
 ((cO a0.q.src x1.2.2).bind λv3=>
 (cO a0.q.tgt x1.2.2).bind λv4=>
 (Lp (mU a0 a1 v1 v3 v4 x1) (x1.1,x1.2.1,0)).bind λy34=>
 some (.inl (y34.1,y34.2,wr (x1.2.2+1))))
 else
 (some (.inr (x1.1,x1.2.1)))
def pW (a0:Rp) (a1:Rp):Option Mt:=
 (xZ a0 a1).bind λv1=>
 (Lp (mV a0 a1 v1) (0,([]:aA),0)).bind λy35=>
 some ((⟨y35.1,v1,y35.2⟩:Mt))
theorem aEk (a0:Rp) (a1:Rp) (r:Mt) (h:pW a0 a1=some r):HasC Tryz.prog 218 [.agg (eR a0),.agg (eR a1)] (.agg (eM r)):=by
 refine hM [.cell 4 81] Tryz.func218 Tryz.ntmps218 k<|sR<|ae (wb k) k<|ae (wb k) k<|ae (cB aL k k) k<|an<|tn<|sR<|lp k8<|lp k8<|oB h λv1 hv1 h=>ae (aS (aJi a0 a1 v1 hv1) k (aX (iL k) (aX (iL k) aU))) k<|aT k2<|sR<|am k k<|ae (wl k) k<|ae (mQ aL k k k k k k) k<|ae (cB aL k k) k<|ae (ws k) k<|an<|tn<|aN (t:=mN [(2,.ptr 0 0 0),(3,.ptr 1 0 0),(4,.ptr 2 0 0),(5,.int v1),(6,.ptr 4 0 0)] [(0,⟨6,[eR a0]⟩),(1,⟨6,[eR a1]⟩),(2,⟨3,[lL]⟩),(3,⟨1,List.map (ow eI) ([]:aA)⟩),(4,⟨3,[[.int 0,.int v1,.own 3 0 (([]:aA).length)]]⟩)] 5) (bO (bN k2) (bS k<|bS k<|bS k<|cD k<|hX ⟨_,k,k,.inr ⟨_,_,k,⟨_,_,k,k,⟨_,_,k,k,⟨_,_,k,⟨k,k,(by simp only [aO,lA,lT,lR,lC,lN]),k⟩,k⟩⟩⟩,k⟩⟩ k<|aR) k4)<|sQ<|sR<|aa k k ?_;refine an<|tn<|aE<|oB h λy35 hy35 h=>cH (body:=(mV a0 a1 v1)) hy35 (λ(x1:(Int×aA×Int))=>mN [(2,.ptr 0 0 0),(3,.ptr 1 0 0),(4,.ptr 2 0 0),(5,.int v1),(6,.ptr 3 0 0),(7,.int x1.2.2)] [(0,⟨6,[eR a0]⟩),(1,⟨6,[eR a1]⟩),(2,⟨3,[lL]⟩),(3,⟨3,[[.int x1.1,.int v1,.own 4 0 x1.2.1.length]]⟩),(4,⟨1,x1.2.1.map (ow eI)⟩)] 5) (λr e t=>e= .exit 0/\Ent t (mN [(4,.ptr 0 0 0),(6,.ptr 1 0 0)] [(0,⟨3,[lL]⟩),(1,⟨3,[[.int r.1,.int v1,.own 2 0 r.2.length]]⟩),(2,⟨1,r.2.map (ow eI)⟩)] 3)) (kE [0,1,2,4,3] (bN k2) (bS k<|bS k<|bS k<|fV k<|cD k<|aR) k4) ?_ ?_
 ·intro x1 o h;refine sQ<|sR<|am k k<|fp k8<|lp k8<|ln k4<|cm k4<|an<|tn<|dC k h (λ_ h=>?_) λ_ h=>bA<|aB<|aB<|sp h ⟨_,k,k,(kE [2,3,4] (bN k2) (bS k<|fV k<|cD k<|aR) k4)⟩;refine aI<|tn<|sQ<|aE<|sR<|fp k8<|fp k8<|lp k8<|am k k<|oB h λv3 hv3 h=>ae (xl hv3 k) k<|lr k7<|aT k2<|sR<|fp k8<|fp k8<|lp k8<|am k k<|oB h λv4 hv4 h=>ae (xl hv4 k) k<|lr k7<|aT k2<|sR<|aa k k ?_;refine an<|tn<|aE<|oB h λy34 hy34 h=>cH (body:=(mU a0 a1 v1 v3 v4 x1)) hy34 (λ(x2:(Int×aA×Int))=>mN [(2,.ptr 0 0 0),(3,.ptr 1 0 0),(4,.ptr 2 0 0),(5,.int v1),(6,.ptr 3 0 0),(7,.int x1.2.2),(8,.int v3),(9,.int v4),(10,.int x2.2.2)] [(0,⟨6,[eR a0]⟩),(1,⟨6,[eR a1]⟩),(2,⟨3,[lL]⟩),(3,⟨3,[[.int x2.1,.int v1,.own 4 0 x2.2.1.length]]⟩),(4,⟨1,x2.2.1.map (ow eI)⟩)] 5) (λr e t=>e= .exit 2/\Ent t (mN [(2,.ptr 0 0 0),(3,.ptr 1 0 0),(4,.ptr 2 0 0),(5,.int v1),(6,.ptr 3 0 0),(7,.int x1.2.2)] [(0,⟨6,[eR a0]⟩),(1,⟨6,[eR a1]⟩),(2,⟨3,[lL]⟩),(3,⟨3,[[.int r.1,.int v1,.own 4 0 r.2.length]]⟩),(4,⟨1,r.2.map (ow eI)⟩)] 5)) (bO (bN k2) (bS k<|bS k<|bS k<|fV k<|cD k<|aR) k4) ?_ ?_
  ·intro x2 o h;refine sQ<|sR<|am k k<|fp k8<|lp k8<|am k k<|oB h λv5 hv5 h=>ae (xl hv5 k) k<|lr k7<|cm k4<|an<|tn<|dC k h (λ_ h=>?_) λ_ h=>bA<|aB<|aB<|sp h ⟨_,k,k,(bO (bN k2) (bS k<|bS k<|bS k<|fV k<|cD k<|aR) k4)⟩;refine aI<|tn<|sQ<|aE<|sR<|aT k2<|aE<|oB h λy33 hy33 h=>cH (body:=(mT a0 a1 v1 v3 v4 x1 x2)) hy33 (λ(x3:(Int×aA×Int))=>mN [(2,.ptr 0 0 0),(3,.ptr 1 0 0),(4,.ptr 2 0 0),(5,.int v1),(6,.ptr 3 0 0),(7,.int x1.2.2),(8,.int v3),(9,.int v4),(10,.int x2.2.2),(11,.int x3.2.2)] [(0,⟨6,[eR a0]⟩),(1,⟨6,[eR a1]⟩),(2,⟨3,[lL]⟩),(3,⟨3,[[.int x3.1,.int v1,.own 4 0 x3.2.1.length]]⟩),(4,⟨1,x3.2.1.map (ow eI)⟩)] 5) (λr e t=>e= .exit 4/\Ent t (mN [(2,.ptr 0 0 0),(3,.ptr 1 0 0),(4,.ptr 2 0 0),(5,.int v1),(6,.ptr 3 0 0),(7,.int x1.2.2),(8,.int v3),(9,.int v4),(10,.int x2.2.2)] [(0,⟨6,[eR a0]⟩),(1,⟨6,[eR a1]⟩),(2,⟨3,[lL]⟩),(3,⟨3,[[.int r.1,.int v1,.own 4 0 r.2.length]]⟩),(4,⟨1,r.2.map (ow eI)⟩)] 5)) (bO (bN k2) (bS k<|bS k<|bS k<|fV k<|cD k<|aR) k4) ?_ ?_
   ·intro x3 o h;refine sQ<|sR<|am k k<|fp k8<|lp k8<|am k k<|oB h λv7 hv7 h=>ae (xl hv7 k) k<|lr k7<|cm k4<|an<|tn<|dC k h (λ_ h=>?_) λ_ h=>bA<|aB<|aB<|sp h ⟨_,k,k,(bO (bN k2) (bS k<|bS k<|bS k<|fV k<|cD k<|aR) k4)⟩;refine aI<|tn<|sQ<|aE<|sR<|am k k<|cG h λq32 h=>ae (aAD aL q32 k k k k k k k k) k<|aT k2<|aN (t:=mN [(2,.ptr 0 0 0),(3,.ptr 1 0 0),(4,.ptr 2 0 0),(5,.int v1),(6,.ptr 3 0 0),(7,.int x1.2.2),(8,.int v3),(9,.int v4),(10,.int x2.2.2),(11,.int x3.2.2),(12,.own 5 0 ((List.replicate v1.toNat (0:Int)).length))] [(0,⟨6,[eR a0]⟩),(1,⟨6,[eR a1]⟩),(2,⟨3,[lL]⟩),(3,⟨3,[[.int x3.1,.int v1,.own 4 0 x3.2.1.length]]⟩),(4,⟨1,x3.2.1.map (ow eI)⟩),(5,⟨1,List.map (ow eI) (List.replicate v1.toNat (0:Int))⟩)] 6) (bO (pP 10 k2 (mO ⟨_,k,⟨k,k,(by simp only [aO,lA,lT,lR,lC,lN]),k⟩⟩ aR)) (bS k<|bS k<|bS k<|fV k<|cD k<|hX ⟨_,k,k,.inl ⟨aAy (e:=eI) (z:=0) _,cW.plainO _⟩⟩ k<|aR) k4)<|sQ<|sR<|aT k2<|aE<|oB h λy19 hy19 h=>cH (body:=(jJ a0 a1 v3 x1 x2 x3)) hy19 (λ(x4:(aA×Int))=>mN [(2,.ptr 0 0 0),(3,.ptr 1 0 0),(4,.ptr 2 0 0),(5,.int v1),(6,.ptr 3 0 0),(7,.int x1.2.2),(8,.int v3),(9,.int v4),(10,.int x2.2.2),(11,.int x3.2.2),(12,.own 5 0 x4.1.length),(13,.int x4.2)] [(0,⟨6,[eR a0]⟩),(1,⟨6,[eR a1]⟩),(2,⟨3,[lL]⟩),(3,⟨3,[[.int x3.1,.int v1,.own 4 0 x3.2.1.length]]⟩),(4,⟨1,x3.2.1.map (ow eI)⟩),(5,⟨1,x4.1.map (ow eI)⟩)] 6) (λr e t=>e= .exit 6/\Ent t (mN [(2,.ptr 0 0 0),(3,.ptr 1 0 0),(4,.ptr 2 0 0),(5,.int v1),(6,.ptr 3 0 0),(7,.int x1.2.2),(8,.int v3),(9,.int v4),(10,.int x2.2.2),(11,.int x3.2.2),(12,.own 5 0 r.length)] [(0,⟨6,[eR a0]⟩),(1,⟨6,[eR a1]⟩),(2,⟨3,[lL]⟩),(3,⟨3,[[.int x3.1,.int v1,.own 4 0 x3.2.1.length]]⟩),(4,⟨1,x3.2.1.map (ow eI)⟩),(5,⟨1,r.map (ow eI)⟩)] 6)) (bO (bN k2) (bS k<|bS k<|bS k<|fV k<|cD k<|cD k<|aR) k4) ?_ ?_
    ·intro x4 o h;refine sQ<|sR<|am k k<|fp k8<|lp k8<|am k k<|oB h λv9 hv9 h=>ae (xl hv9 k) k<|lr k7<|cm k4<|an<|tn<|dC k h (λ_ h=>?_) λ_ h=>bA<|aB<|aB<|sp h ⟨_,k,k,(bO (bN k2) (bS k<|bS k<|bS k<|fV k<|cD k<|cD k<|aR) k4)⟩;refine aI<|tn<|sQ<|aE<|sQ<|aQ fW<|lp k8<|lp k8<|am k k<|oB h λv11 hv11 h=>ae (aS (aFz a0 a1 v3 v11 hv11) k (aX (iL k) (aX (iL k) (dF k aU)))) k<|am k k<|fp k8<|lp k8<|am k k<|oB h λv12 hv12 h=>ae (xl hv12 k) k<|lr k7<|ae (gC k k) k<|ae (bJ k k) k<|am k k<|ae (bJ k k) k<|aa k k<|an<|nH (by kernel_rfl)<|tn<|aQ fW<|am k k<|am k k<|fp k8<|lp k8 ?_;refine am k k<|am k k<|oB h λv13 hv13 h=>ae (xo hv13 k) k<|ae (wp hv13 k) k<|fp k8<|lp k8<|am k k<|oB h λv14 hv14 h=>ae (xl hv14 k) k<|ae (zN aL k k k k k k) k<|lr k7<|am k k<|fp k8<|lp k8<|am k k<|oB h λv15 hv15 h=>ae (xl hv15 k) k<|lr k7<|ae (gC k k) k<|am k k<|ae (bJ k k) k<|oB h λv16 hv16 h=>ae (xl hv16 k) k<|lr k7<|ae (bJ k k) k<|oB h λv17 hv17 h=>ae (aS (rU a0.p (wr (v13+v16)) v17 hv17) k (dF k (dF k aU))) k<|oB h λv18 hv18 h=>ae (xo hv18 k) k<|ae (gE aL jZ (u:=v17) (fC hv18) k k k k k k) k<|an<|nH (by kernel_rfl)<|aZ<|tn<|aN (t:=mN [(2,.ptr 0 0 0),(3,.ptr 1 0 0),(4,.ptr 2 0 0),(5,.int v1),(6,.ptr 3 0 0),(7,.int x1.2.2),(8,.int v3),(9,.int v4),(10,.int x2.2.2),(11,.int x3.2.2),(12,.own 5 0 ((x4.1.set ((wr ((wr (v11+(wr (x4.2*v12))))+x3.2.2)).toNat) v17).length)),(13,.int x4.2)] [(0,⟨6,[eR a0]⟩),(1,⟨6,[eR a1]⟩),(2,⟨3,[lL]⟩),(3,⟨3,[[.int x3.1,.int v1,.own 4 0 x3.2.1.length]]⟩),(4,⟨1,x3.2.1.map (ow eI)⟩),(5,⟨1,List.map (ow eI) (x4.1.set ((wr ((wr (v11+(wr (x4.2*v12))))+x3.2.2)).toNat) v17)⟩)] 6) (bO (pP 10 k2 (mO ⟨_,k,⟨k,k,(by simp only [aO,lA,lT,lR,lC,lN]),k⟩⟩ (bN k2))) (bS k<|bS k<|bS k<|fV k<|cD k<|cD k<|aR) k4) ?_;exact rg<|am k k<|ae (bJ k k) k<|aT k2<|sp h ⟨_,k,(bO (bN k2) (bS k<|bS k<|bS k<|fV k<|cD k<|cD k<|aR) k4)⟩
    ·rintro e t ⟨rfl,hent⟩;refine aP<|tn<|aN hent<|sQ<|sR<|aT k2<|aE<|oB h λy30 hy30 h=>cH (body:=(jK a0 a1 v3 v4 x1 x2 x3)) hy30 (λ(x5:(aA×Int))=>mN [(2,.ptr 0 0 0),(3,.ptr 1 0 0),(4,.ptr 2 0 0),(5,.int v1),(6,.ptr 3 0 0),(7,.int x1.2.2),(8,.int v3),(9,.int v4),(10,.int x2.2.2),(11,.int x3.2.2),(12,.own 5 0 x5.1.length),(15,.int x5.2)] [(0,⟨6,[eR a0]⟩),(1,⟨6,[eR a1]⟩),(2,⟨3,[lL]⟩),(3,⟨3,[[.int x3.1,.int v1,.own 4 0 x3.2.1.length]]⟩),(4,⟨1,x3.2.1.map (ow eI)⟩),(5,⟨1,x5.1.map (ow eI)⟩)] 6) (λr e t=>e= .exit 8/\Ent t (mN [(2,.ptr 0 0 0),(3,.ptr 1 0 0),(4,.ptr 2 0 0),(5,.int v1),(6,.ptr 3 0 0),(7,.int x1.2.2),(8,.int v3),(9,.int v4),(10,.int x2.2.2),(11,.int x3.2.2),(12,.own 5 0 r.length)] [(0,⟨6,[eR a0]⟩),(1,⟨6,[eR a1]⟩),(2,⟨3,[lL]⟩),(3,⟨3,[[.int x3.1,.int v1,.own 4 0 x3.2.1.length]]⟩),(4,⟨1,x3.2.1.map (ow eI)⟩),(5,⟨1,r.map (ow eI)⟩)] 6)) (bO (bN k2) (bS k<|bS k<|bS k<|fV k<|cD k<|cD k<|aR) k4) ?_ ?_
     ·intro x5 o h;refine sQ<|sR<|am k k<|fp k8<|lp k8<|am k k<|oB h λv20 hv20 h=>ae (xl hv20 k) k<|lr k7<|cm k4<|an<|tn<|dC k h (λ_ h=>?_) λ_ h=>bA<|aB<|aB<|sp h ⟨_,k,k,(bO (bN k2) (bS k<|bS k<|bS k<|fV k<|cD k<|cD k<|aR) k4)⟩;refine aI<|tn<|sQ<|aE<|sQ<|aQ fW<|lp k8<|lp k8<|am k k<|oB h λv22 hv22 h=>ae (aS (aFz a0 a1 v4 v22 hv22) k (aX (iL k) (aX (iL k) (dF k aU)))) k<|am k k<|fp k8<|lp k8<|am k k<|oB h λv23 hv23 h=>ae (xl hv23 k) k<|lr k7<|ae (gC k k) k<|ae (bJ k k) k<|am k k<|ae (bJ k k) k<|aa k k<|an<|nH (by kernel_rfl)<|tn<|aQ fW<|am k k<|am k k<|fp k8<|lp k8 ?_;refine am k k<|am k k<|oB h λv24 hv24 h=>ae (xo hv24 k) k<|ae (wp hv24 k) k<|fp k8<|lp k8<|am k k<|oB h λv25 hv25 h=>ae (xl hv25 k) k<|ae (zN aL k k k k k k) k<|lr k7<|am k k<|fp k8<|lp k8<|am k k<|oB h λv26 hv26 h=>ae (xl hv26 k) k<|lr k7<|ae (gC k k) k<|am k k<|ae (bJ k k) k<|oB h λv27 hv27 h=>ae (xl hv27 k) k<|lr k7<|ae (gK k k) k<|oB h λv28 hv28 h=>ae (aS (rU a0.p (wr (v24 - v27)) v28 hv28) k (dF k (dF k aU))) k<|oB h λv29 hv29 h=>ae (xo hv29 k) k<|ae (gE aL jZ (u:=v28) (fC hv29) k k k k k k) k<|an<|nH (by kernel_rfl)<|aZ<|tn<|aN (t:=mN [(2,.ptr 0 0 0),(3,.ptr 1 0 0),(4,.ptr 2 0 0),(5,.int v1),(6,.ptr 3 0 0),(7,.int x1.2.2),(8,.int v3),(9,.int v4),(10,.int x2.2.2),(11,.int x3.2.2),(12,.own 5 0 ((x5.1.set ((wr ((wr (v22+(wr (x2.2.2*v23))))+x5.2)).toNat) v28).length)),(15,.int x5.2)] [(0,⟨6,[eR a0]⟩),(1,⟨6,[eR a1]⟩),(2,⟨3,[lL]⟩),(3,⟨3,[[.int x3.1,.int v1,.own 4 0 x3.2.1.length]]⟩),(4,⟨1,x3.2.1.map (ow eI)⟩),(5,⟨1,List.map (ow eI) (x5.1.set ((wr ((wr (v22+(wr (x2.2.2*v23))))+x5.2)).toNat) v28)⟩)] 6) (bO (pP 10 k2 (mO ⟨_,k,⟨k,k,(by simp only [aO,lA,lT,lR,lC,lN]),k⟩⟩ (bN k2))) (bS k<|bS k<|bS k<|fV k<|cD k<|cD k<|aR) k4) ?_;exact rg<|am k k<|ae (bJ k k) k<|aT k2<|sp h ⟨_,k,(bO (bN k2) (bS k<|bS k<|bS k<|fV k<|cD k<|cD k<|aR) k4)⟩
     ·rintro e t ⟨rfl,hent⟩;exact aP<|tn<|aN hent<|sR<|fp k8<|lp k8<|ae (bJ k k) k<|fp k8<|ae (ws k) k<|an<|tn<|rg<|fp k8<|lp k8<|am k k<|cG h λq31 h=>ae (lO aL (l:=x3.2.1) (m:=y30) jZ q31 k k k k k (aTs cW k k) k k k k k k) k<|fp k8<|ae (ws k) k<|an<|aZ<|tn<|rg<|am k k<|ae (bJ k k) k<|aT k2<|sp h ⟨_,k,(kE [0,1,2,3,6] (bN k2) (bS k<|bS k<|bS k<|fV k<|cD k<|aR) k4)⟩
   ·rintro e t ⟨rfl,hent⟩;exact aP<|aZ<|tn<|aN hent<|rg<|am k k<|ae (bJ k k) k<|aT k2<|sp h ⟨_,k,(bO (bN k2) (bS k<|bS k<|bS k<|fV k<|cD k<|aR) k4)⟩
  ·rintro e t ⟨rfl,hent⟩;exact aP<|aZ<|tn<|aN hent<|rg<|am k k<|ae (bJ k k) k<|aT k2<|sp h ⟨_,k,(bO (bN k2) (bS k<|bS k<|bS k<|fV k<|cD k<|aR) k4)⟩
 ·rintro e t ⟨rfl,hent⟩;exact aP<|tn<|aN hent<|sR<|lp k8<|ae (ws k) k<|an<|tn<|aG<|sp h (cA k k k (aAC (bH (k) (bH (k) (bH (gF cW k k) gI)))))
def sD (a0:Rp) (a1:Rp) (a2:aA) (x1:((List Mt)×Int×Int)):Option (((List Mt)×Int×Int) ⊕ (List Mt)):=
 bif decide (x1.2.2<(a0.dims.length:Int)) then
 ((cO a0.dims x1.2.2).bind λv2=>
 (cO a1.dims x1.2.2).bind λv3=>
 (cO a1.dims x1.2.2).bind λv4=>
 (cO a0.dims x1.2.2).bind λv5=>
 bif (decide (0<=x1.2.1)&&(decide (x1.2.1<=wr (x1.2.1+(wr (v2*v3))))&&decide (wr (x1.2.1+(wr (v2*v3)))<=(a2.length:Int)))) then
 (bif decide (([]:aA).length +((a2.drop x1.2.1.toNat).take ((wr (x1.2.1+(wr (v2*v3)))).toNat - x1.2.1.toNat)).length <=4294967296) then
 (bif decide (x1.1.length+1<=4294967296) then
 (some (.inl ((x1.1++[(⟨v4,v5,(([]:aA)++((a2.drop x1.2.1.toNat).take ((wr (x1.2.1+(wr (v2*v3)))).toNat - x1.2.1.toNat)))⟩:Mt)]),wr (x1.2.1+(wr (v2*v3))),wr (x1.2.2+1))))
 else none)
 else none)
 else none)
 else
 (some (.inr x1.1))
def wM (a0:Rp) (a1:Rp) (a2:aA):Option (List Mt):=
 (Lp (sD a0 a1 a2) (([]:(List Mt)),0,0)).bind λy9=>
 some (y9)
theorem aIR (a0:Rp) (a1:Rp) (a2:aA) (r:(List Mt)) (h:wM a0 a1 a2=some r):HasC Tryz.prog 219 [.agg (eR a0),.agg (eR a1),.list 1 (a2.map eI)] (.list 3 (r.map eM)):=by
 refine hM [.tmp 6] Tryz.func219 Tryz.ntmps219 k<|sR<|ae (wb k) k<|ae (wb k) k<|aT k2<|sR<|ae (wl k) k<|aT k2<|aN (t:=mN [(2,.list 1 (a2.map eI)),(3,.ptr 0 0 0),(4,.ptr 1 0 0),(7,.own 2 0 (([]:(List Mt)).length))] [(0,⟨6,[eR a0]⟩),(1,⟨6,[eR a1]⟩),(2,⟨3,List.map (ow eM) ([]:(List Mt))⟩)] 3) (bO (pP 3 k2 (mO ⟨_,k,⟨k,k,(by simp only [aO,lA,lT,lR,lC,lN]),k⟩⟩ aR)) (bS k<|bS k<|cF (hO.plainO _) k<|aR) k4)<|sR<|aT k2<|sQ<|sR<|aT k2<|aE<|oB h λy9 hy9 h=>cH (body:=(sD a0 a1 a2)) hy9 (λ(x1:((List Mt)×Int×Int))=>mN [(2,.list 1 (a2.map eI)),(3,.ptr 0 0 0),(4,.ptr 1 0 0),(7,.own 2 0 x1.1.length),(8,.int x1.2.1),(9,.int x1.2.2)] [(0,⟨6,[eR a0]⟩),(1,⟨6,[eR a1]⟩),(2,⟨3,x1.1.map (ow eM)⟩)] 3) (λr e t=>e= .exit 0/\Ent t (mN [(7,.own 0 0 r.length)] [(0,⟨3,r.map (ow eM)⟩)] 1)) (bO (bN k2) (bS k<|bS k<|cF (hO.plainO _) k<|aR) k4) ?_ ?_
 ·intro x1 o h;refine sQ<|sR<|am k k<|fp k8<|lp k8<|ln k4<|cm k4<|an<|tn<|dC k h (λ_ h=>?_) λ_ h=>bA<|aB<|aB<|sp h ⟨_,k,k,(kE [2] (bN k2) (cF (hO.plainO _) k<|aR) k4)⟩;refine aI<|tn<|sQ<|aE<|sQ<|aQ fW<|fp k8<|lp k8<|am k k<|oB h λv2 hv2 h=>ae (xl hv2 k) k<|lr k7<|fp k8<|lp k8<|am k k<|oB h λv3 hv3 h=>ae (xl hv3 k) k<|lr k7<|ae (gC k k) k<|aa k k<|an<|nH (by kernel_rfl)<|tn<|sQ<|aQ fW<|am k k<|fp k8<|lp k8<|am k k<|oB h λv4 hv4 h=>ae (xl hv4 k) k<|lr k7 ?_;refine fp k8<|lp k8<|am k k<|oB h λv5 hv5 h=>ae (xl hv5 k) k<|lr k7<|ae (wl k) k<|am k k<|am k k<|am k k<|am k k<|ae (bJ k k) k<|cG h λq6 h=>ae (mR aL (l0:=a2) (l:=x1.2.1) (h:=wr (x1.2.1+(wr (v2*v3)))) q6 k k k k k k k) k<|cG h λq7 h=>ae (lO aL (l:=([]:aA)) (m:=((a2.drop x1.2.1.toNat).take ((wr (x1.2.1+(wr (v2*v3)))).toNat - x1.2.1.toNat))) jZ q7 k k k k k k k k k k k k) k<|ae (mQ aL k k k k k k) k<|ae (wl k) k<|cG h λq8 h=>ae (kZ aL (l:=x1.1) (c:=[.int v4,.int v5,.own 4 0 ((([]:aA)++((a2.drop x1.2.1.toNat).take ((wr (x1.2.1+(wr (v2*v3)))).toNat - x1.2.1.toNat))).length)]) q8 k k k k k k k k k k k k k k) k<|aa k k<|an<|nH (by kernel_rfl)<|tn<|aN (t:=mN [(2,.list 1 (a2.map eI)),(3,.ptr 0 0 0),(4,.ptr 1 0 0),(7,.own 6 0 ((x1.1++[(⟨v4,v5,(([]:aA)++((a2.drop x1.2.1.toNat).take ((wr (x1.2.1+(wr (v2*v3)))).toNat - x1.2.1.toNat)))⟩:Mt)]).length)),(8,.int x1.2.1),(9,.int x1.2.2),(10,.int (wr (v2*v3)))] [(0,⟨6,[eR a0]⟩),(1,⟨6,[eR a1]⟩),(6,⟨3,List.map (ow eM) (x1.1++[(⟨v4,v5,(([]:aA)++((a2.drop x1.2.1.toNat).take ((wr (x1.2.1+(wr (v2*v3)))).toNat - x1.2.1.toNat)))⟩:Mt)])⟩)] 7) (Ent.trans (iS (b:=6) (b':=4) (j:=2) (es':=List.map eI (([]:aA)++((a2.drop x1.2.1.toNat).take ((wr (x1.2.1+(wr (v2*v3)))).toNat - x1.2.1.toNat)))) k k k k (aO _ _) (cW.frzs _)) (bO (pP 3 k2 (mO ⟨_,k,⟨k,k,(by simp only [aO,lA,lT,lR,lC,lN]),k⟩⟩ (bN k2))) (bS k<|bS k<|hX ⟨_,k,k,.inl ⟨qP (⟨v4,v5,(([]:aA)++((a2.drop x1.2.1.toNat).take ((wr (x1.2.1+(wr (v2*v3)))).toNat - x1.2.1.toNat)))⟩:Mt) k,hO.plainO _⟩⟩ k<|aR) k4))<|rg<|am k k<|am k k<|ae (bJ k k) k<|aa k k<|an<|aZ<|tn<|rg ?_;exact am k k<|ae (bJ k k) k<|aT k2<|sp h ⟨_,k,(kE [0,1,6] (bN k2) (bS k<|bS k<|cF (hO.plainO _) k<|aR) k4)⟩
 ·rintro e t ⟨rfl,hent⟩;exact aP<|tn<|aN hent<|sR<|am k k<|aT k2<|aG<|sp h (cA k k k (pS (gF hO k k)))
def sE (a0:Rp) (a1:Rp) (v4:aD) (x1:((List (List Mt))×Int)):Option (((List (List Mt))×Int) ⊕ (List (List Mt))):=
 bif decide (x1.2<((v4.length:Nat):Int)) then
 ((cO v4 x1.2).bind λv6=>
 (wM a0 a1 v6).bind λv7=>
 bif decide (x1.1.length+1<=4294967296) then
 (some (.inl ((x1.1++[v7]),wr (x1.2+1))))
 else none)
 else
 (some (.inr x1.1))
def wN (a0:Rp) (a1:Rp):Option ((List (List Mt))×Bool):=
 (aAe a0 a1).bind λv1=>
 bif !v1 then
 (some ((([]:(List (List Mt))),false)))
 else
 ((pW a0 a1).bind λv3=>
 (wK a0.p v3).bind λv4=>
 (Lp (sE a0 a1 v4) (([]:(List (List Mt))),0)).bind λy9=>
 some ((y9,true)))
theorem aIS (a0:Rp) (a1:Rp) (r:((List (List Mt))×Bool)) (h:wN a0 a1=some r):HasC Tryz.prog 166 [.agg (eR a0),.agg (eR a1)] (.tuple [.list 1 (r.1.map (bU 3 eM)),.bl r.2]):=by
 refine hM [.tmp 4,.tmp 5] Tryz.func166 Tryz.ntmps166 k<|sR<|ae (wb k) k<|ae (wb k) k<|aa k k<|aT k2<|sR<|ae (wl k) k<|aT k2<|aN (t:=mN [(2,.ptr 0 0 0),(3,.ptr 1 0 0),(6,.own 2 0 (([]:(List (List Mt))).length))] [(0,⟨6,[eR a0]⟩),(1,⟨6,[eR a1]⟩),(2,⟨1,List.map (ow (bU 3 eM)) ([]:(List (List Mt)))⟩)] 3) (bO (pP 2 k2 (mO ⟨_,k,⟨k,k,(by simp only [aO,lA,lT,lR,lC,lN]),k⟩⟩ aR)) (bS k<|bS k<|cF (aV.plainO _) k<|aR) k4)<|sQ<|sR<|lp k8<|lp k8<|oB h λv1 hv1 h=>ae (aS (aMj a0 a1 v1 hv1) k (aX (iL k) (aX (iL k) aU))) k<|ae (fB k) k<|an<|tn<|dC k h (λ_ h=>sR<|am k k<|aa k k<|aT k2<|aG<|aM<|sp h (cA k k k (dW k (cI (yO (gF aV k k)) (cI (k) gQ))))) λ_ h=>?_;refine aI<|tn<|sQ<|aQ fW<|fp k8<|lp k8<|lp k8<|lp k8<|oB h λv3 hv3 h=>ae (cM (aEk a0 a1 v3 hv3) k3 (aX (iL k) (aX (iL k) aU))) k<|oB h λv4 hv4 h=>ae (cL aV (aIQ a0.p v3 v4 hv4) k3 (dF k (aX (vaM k2) aU))) k<|aa k k<|an<|nH (by kernel_rfl)<|tn<|sQ<|sR<|aT k2<|aE<|oB h λy9 hy9 h=>cH (body:=(sE a0 a1 v4)) hy9 (λ(x1:((List (List Mt))×Int))=>mN [(2,.ptr 0 0 0),(3,.ptr 1 0 0),(6,.own 2 0 x1.1.length),(7,.own 3 0 v4.length),(8,.int x1.2)] [(0,⟨6,[eR a0]⟩),(1,⟨6,[eR a1]⟩),(2,⟨1,x1.1.map (ow (bU 3 eM))⟩),(3,⟨1,v4.map (ow (bU 1 eI))⟩)] 4) (λr e t=>e= .exit 0/\Ent t (mN [(6,.own 0 0 r.length)] [(0,⟨1,r.map (ow (bU 3 eM))⟩)] 1)) (kE [0,1,2,4] (bN k2) (bS k<|bS k<|cF (aV.plainO _) k<|cF (aV.plainO _) k<|aR) k4) ?_ ?_
 ·intro x1 o h;exact sQ<|sR<|am k k<|am k k<|ae (cN aL k k k k) k<|cm k4<|an<|tn<|dC k h (λ_ h=>aI<|tn<|sQ<|aE<|aQ fW<|am k k<|lp k8<|lp k8<|am k k<|am k k<|oB h λv6 hv6 h=>ae (xo hv6 k) k<|ae (wp hv6 k) k<|oB h λv7 hv7 h=>ae (cL hO (aIR a0 a1 v6 v7 hv7) k3 (aX (iL k) (aX (iL k) (dF k aU)))) k<|ae (wl k) k<|cG h λq8 h=>ae (kZ aL (l:=x1.1) (c:=[.own 4 0 v7.length]) q8 k k k k k k k k k k k k k k) k<|aa k k<|an<|nH (by kernel_rfl)<|aZ<|tn<|aN (t:=mN [(2,.ptr 0 0 0),(3,.ptr 1 0 0),(6,.own 6 0 ((x1.1++[v7]).length)),(7,.own 3 0 v4.length),(8,.int x1.2)] [(0,⟨6,[eR a0]⟩),(1,⟨6,[eR a1]⟩),(3,⟨1,v4.map (ow (bU 1 eI))⟩),(6,⟨1,List.map (ow (bU 3 eM)) (x1.1++[v7])⟩)] 7) (Ent.trans (iS (b:=6) (b':=4) (j:=0) (es':=v7.map eM) k k k k (aO _ _) (hO.frzs _)) (bO (pP 2 k2 (mO ⟨_,k,⟨k,k,(by simp only [aO,lA,lT,lR,lC,lN]),k⟩⟩ (bN k2))) (bS k<|bS k<|cF (aV.plainO _) k<|hX ⟨_,k,k,.inl ⟨qP v7 k,aV.plainO _⟩⟩ k<|aR) k4))<|rg<|am k k<|ae (bJ k k) k<|aT k2<|sp h ⟨_,k,(kE [0,1,6,3] (bN k2) (bS k<|bS k<|cF (aV.plainO _) k<|cF (aV.plainO _) k<|aR) k4)⟩) λ_ h=>bA<|aB<|aB<|sp h ⟨_,k,k,(kE [2] (bN k2) (cF (aV.plainO _) k<|aR) k4)⟩
 ·rintro e t ⟨rfl,hent⟩;exact aP<|tn<|aN hent<|sR<|am k k<|aa k k<|aT k2<|aG<|sp h (cA k k k (dW k (cI (yO (gF aV k k)) (cI (k) gQ))))
def vN (a0:Rp) (a1:Rp):Option Int:=
 (wN a0 a1).bind λv1=>
 bif !v1.2 then
 (some ((-1)))
 else
 (some (((v1.1.length:Nat):Int)))
theorem aKl (a0:Rp) (a1:Rp) (r:Int) (h:vN a0 a1=some r):HasC Tryz.prog 78 [.agg (eR a0),.agg (eR a1)] (.int r):=by
 exact hM [.tmp 4] Tryz.func78 Tryz.ntmps78 k<|sR<|ae (wb k) k<|ae (wb k) k<|aT k2<|sR<|lp k8<|lp k8<|oB h λv1 hv1 h=>ae (cT aV (aIS a0 a1 v1 hv1) k3 (aX (iL k) (aX (iL k) aU))) k<|am k k<|ae (aW k k (by intro _ h;cases h)) k<|ae (aW k k (by intro _ h;cases h)) k<|aa k k<|aT k2<|sQ<|sR<|am k k<|ae (fB k) k<|an<|tn<|dC k h (λ_ h=>sR<|aT k2<|aG<|aM<|xQ h k2) λ_ h=>aI<|tn<|sR<|am k k<|ae (cN aL k k k k) k<|aT k2<|aG<|xQ h k2
end
section
def rkF (p:Int) (m n:Nat) (F:Nat->Nat->Int):Nat:=(cP p m F n).2.length
def dN (r:Rp) (k:Nat):Nat:=(r.dims[k]?.getD 0).toNat
theorem aJj {r:Rp} (h:aAg r=true):yJ r.p=true/\rM r.q r.dims=true/\r.maps.length=r.q.src.length/\ ∀ k,k<r.maps.length->aGy r.p (r.maps[k]?.getD ⟨0,0,[]⟩)=true/\(r.maps[k]?.getD ⟨0,0,[]⟩).cols=r.dims[(r.q.src[k]?.getD 0).toNat]?.getD 0/\(r.maps[k]?.getD ⟨0,0,[]⟩).rows=r.dims[(r.q.tgt[k]?.getD 0).toNat]?.getD 0:=by
 unfold aAg at h;simp only [cY,gR,yL] at h;exact ⟨h.1,h.2.1,by omega,h.2.2.2⟩
theorem sq {a b:Nat} (ha:a<=4) (hb:b<=4):a*b<=1048576:=by have:=Nat.mul_le_mul ha hb;omega
theorem aJk (c:Nat) (f:Nat->Nat->Int): ∀ n,((List.range n).map λi=>aAI c (f i)).flatten=dA n c f
 |0=>by simp [dA]
 |n+1=>by
  rw [List.range_succ,List.map_append,List.flatten_append,aJk c f n];unfold dA;rw [Nat.succ_mul,List.range_add,List.map_append];congr 1;simp only [List.map_cons,List.map_nil,List.flatten_cons,List.flatten_nil,List.append_nil,List.map_map,aAI];refine sT λj hj=>?_;have hj:=List.mem_range.1 hj;simp only [Function.comp];rw [aCp hj,aCq hj]
end
end Go.Proofs.YtgkfbfiiaphgoaaGreat

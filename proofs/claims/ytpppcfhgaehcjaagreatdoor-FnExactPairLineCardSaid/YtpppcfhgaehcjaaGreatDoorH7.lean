/-
  Several texts of the claim in one.
-/
import Derived.Lib.AppendZerosOnto
import Derived.Test.YtpppcfhgaehcjaaGreatDoorProg
import Derived.Test.YtpppcfhgaehcjaaGreatDoorH6
set_option linter.unusedVariables false
set_option linter.unusedSimpArgs false
namespace Go.Proofs.YtpppcfhgaehcjaaGreatDoor
open Go.RowKit
noncomputable section
set_option maxRecDepth 10000
structure HasV (P:Program) (f:FuncId) (ds:List AV) (r:AV):Prop where
 enters:Enters P f
 calls: ∀ (w:World) (args:Array Value) (S:List Nat),RepVs w ds args.toList S→Calls P f args w λe w'=> ∃ v S',e= .returned v∧Below w.heap.size w w'∧RepD w' r v S'∧ ∀ x∈S',x∈S
theorem zX {w:World} {h:Hp} {u:Us} {ν:Nu} {d:AV} {v:Value} (r:Rep1 w h u ν d v) (ok:cY d=true): ∃ S,RepD w d v S∧ ∀ x∈S,tH h ν x:=by
 cases d <;> simp only [cY,eD] at ok <;> simp only [Rep1] at r
 ·exact ⟨[],by rw [r.1];exact zJ r.2,by simp⟩
 ·exact r
 ·exact r
theorem aAc {w:World} {h:Hp} {u:Us} {ν:Nu} : ∀ {ds:List AV} {vs:List Value},All2 (Rep1 w h u ν) ds vs→ds.all cY=true→ ∃ S,RepVs w ds vs S∧ ∀ x∈S,tH h ν x
 | [],vs,r,_=>by simp only [All2] at r;subst r;exact ⟨[],by simp [RepVs],by simp⟩
 |d::ds,vs,⟨v,q,e,r1,r2⟩,ok=>by
  subst e;simp only [List.all_cons,cD] at ok;obtain ⟨S1,a1,a2⟩:=zX r1 ok.1;obtain ⟨S2,b1,b2⟩:=aAc r2 ok.2;refine ⟨S1++S2,by simp only [RepVs];exact ⟨v,q,S1,S2,rfl,rfl,a1,b1⟩,λx hx=>?_⟩;rcases dD.1 hx with h|h
  ·exact a2 x h
  ·exact b2 x h
theorem aKa {w:World} {h:Hp} {u:Us} {ν:Nu} {d:AV} {v:Value} (r:RepA w h u ν d v) (ok:vW d=true): ∃ S,RepD w d v S∧ ∀ x∈S,tH h ν x:=by
 cases d <;> simp only [vW,cY,eD] at ok <;> simp only [RepA,RepB] at r
 ·exact zX r rfl
 ·exact zX r rfl
 ·exact zX r rfl
 ·obtain ⟨vs,rfl,r⟩:=r;obtain ⟨S,a,b⟩:=aAc r ok;exact ⟨S,by simp only [RepD];exact ⟨vs,rfl,a⟩,b⟩
 ·obtain ⟨vs,rfl,r⟩:=r;obtain ⟨S,a,b⟩:=aAc r ok;exact ⟨S,by simp only [RepD];exact ⟨vs,rfl,a⟩,b⟩
theorem aDZ {w:World} {h:Hp} {u:Us} {ν:Nu} : ∀ {ds:List AV} {vs:List Value},All2 (RepA w h u ν) ds vs→ds.all vW=true→ ∃ S,RepVs w ds vs S∧ ∀ x∈S,tH h ν x
 | [],vs,r,_=>by simp only [All2] at r;subst r;exact ⟨[],by simp [RepVs],by simp⟩
 |d::ds,vs,⟨v,q,e,r1,r2⟩,ok=>by
  subst e;simp only [List.all_cons,cD] at ok;obtain ⟨S1,a1,a2⟩:=aKa r1 ok.1;obtain ⟨S2,b1,b2⟩:=aDZ r2 ok.2;refine ⟨S1++S2,by simp only [RepVs];exact ⟨v,q,S1,S2,rfl,rfl,a1,b1⟩,λx hx=>?_⟩;rcases dD.1 hx with h|h
  ·exact a2 x h
  ·exact b2 x h
section
variable {P:Program} {dst:Option Tmp} {ty:TypeId} {pos:String} {aft:Array Edge} {g:Option (Nat×Bool)} {ins:Operand→Option AV} {hp:Hp} {κ:Kp}
theorem aHV {fo:Operand} {xs:Array Operand} {ats:Array TypeId} {f:FuncId} {ds:List AV} {k:Nat} {es:List (List AV)} (hc:HasV P f ds (.list k es)) (hf:ins fo=some (.fn f [])) (hx:evs ins xs.toList=some ds) (hok:ds.all vW=true):
  AEff P ⟨dst,.call ⟨.value fo,xs,ats⟩,ty,pos,aft,g⟩ ins hp κ ⟨.list k es,[],[],[]⟩:=by
 refine ⟨λC s ν a w Q K {hκ} hi' ht hnw hd hs hK=>?_⟩;have h1:=hs.ev ((hi' fo (by simp [Op.operands,Call.operands])).trans hf);simp only [RepA,RepB] at h1;obtain ⟨cv,h1,h2⟩:=h1;simp only [All2] at h2;subst h2;have h3:=zL hs (xs:=xs.toList) (λy hy=>hi' y (by simp [Op.operands,Call.operands];exact .inr (Array.mem_toList_iff.1 hy))) hx;obtain ⟨S,e1,e2⟩:=aDZ h3 hok;have hcall:=hc.calls w (xs.map a.eval) S (by simpa using e1);unfold Oper.wp
 have hex:(execOp a.eval ⟨dst,.call ⟨.value fo,xs,ats⟩,ty,pos,aft,g⟩).run P w= .ok (.enter f (xs.map a.eval)) w:=by
  have:execOp a.eval ⟨dst,.call ⟨.value fo,xs,ats⟩,ty,pos,aft,g⟩=callFunc f (xs.map a.eval):=by
   simp [execOp,resolve,h1,Deferred.ofValue,invoke]
  rw [this];exact hc.enters _ _
 rw [hex];simp only [Oper.upon];refine hcall.mono λe w' ⟨v,S',he,hb,hr,hsub⟩=>?_;subst he;simp only;obtain ⟨φ,hh⟩:=hs.heap;have ext:Ext w s.heap s.used ν w' s.heap s.used ν:=⟨λ_ h=>h,λ_ blk _ h=>⟨blk,h,rfl,rfl,rfl⟩,λx hx h=>⟨hb.block x hx,h⟩,rfl⟩;refine hK ν _ _ (hs.step hd (s':=s.app dst _) ext (hb.mono hs.base) ⟨φ,λb blk hbl=>?_,hh.apart⟩ rfl ?_)
 ·obtain ⟨g1,g2,g3,g4⟩:=hh.blk b blk hbl;exact ⟨g1,g2.ext ext rfl (λy hy=>hb.block y (g2.lt y hy)),g3,g4⟩
 ·exact ⟨S',hr,λx hx=>e2 x (hsub x hx)⟩
theorem aIg {T:List (Nat×Ty)} (hT:TyOk P T) {s:AState} {x:Operand} {zl zh:Operand} {t e:Nat} {y ye:Ty} {ao:Option Addr} {n c:Nat} {kl kh:IntKind} {l h:Int} (q:0≤l∧l≤h∧h≤n∧n≤c) (hx:s.ev x=some (.sc (.slice ao n c))) (hlo:s.ev zl=some (.sc (.int kl l))) (hhi:s.ev zh=some (.sc (.int kh h))) (hy:cE T t=some y) (hd:y.desc= .slice e) (hye:cE T e=some ye):
  AEff P ⟨dst,.slice t x (some zl) (some zh) none,ty,pos,aft,g⟩ s.ev s.heap s.kp ⟨.sc (.slice (if c=l.toNat then ao else ao.map (·.add (l.toNat*ye.size))) (h.toNat - l.toNat) (c - l.toNat)),[],[],[]⟩:=by
 refine AEff.pure λC s' ν a w hi' ht hs=>?_;have h1:=hs.ev ((hi' x (by simp [Op.operands])).trans hx);have h2:=hs.ev ((hi' zl (by simp [Op.operands])).trans hlo);have h3:=hs.ev ((hi' zh (by simp [Op.operands])).trans hhi);simp only [RepA,RepB,Rep1] at h1 h2 h3;obtain ⟨i1,z1,d1,y1⟩:=hT.is hy;obtain ⟨i2,z2,d2,y2⟩:=hT.is hye;have hsb:=oU (P:=P) (len:=n) (cap:=c) (lo:=some (.int kl l)) (hi:=some (.int kh h)) w (.inr ⟨kl,rfl⟩) (.inr ⟨kh,rfl⟩) q.1 q.2.1 q.2.2.1 q.2.2.2;refine ⟨_,?_,sB rfl⟩;simp only [execOp,Instr.sliceAt,Instr.slice,h1.1,h2.1,h3.1,Sem.run_bind,iS (y1.slice hd),Result.andThen_ok,iT y2.info,y2.size,Option.map_none,Option.map_some];rw [hsb];by_cases e:c=l.toNat <;> simp [e]
end
theorem aKb {w:World} {k n c:Nat} {es:List (List AV)} {ao:Option Addr} {S:List Nat} {l h:Int} (r:RepD w (.list k es) (.slice ao n c) S) (q:0≤l∧l≤h∧h≤n): ∃ S',RepD w (.list k ((es.drop l.toNat).take (h.toNat - l.toNat))) (.slice (if c=l.toNat then ao else ao.map (·.add (l.toNat*k))) (h.toNat - l.toNat) (c - l.toNat)) S'∧ ∀ x∈S',x∈S:=by
 simp only [RepD] at r ⊢;obtain ⟨ao',c',h3,h4,h5,h6⟩:=r;cases h3;have hlen:((es.drop l.toNat).take (h.toNat - l.toNat)).length=h.toNat - l.toNat:=by simp;omega
 rw [hlen];by_cases hz:h.toNat - l.toNat=0
 ·refine ⟨[],⟨_,_,rfl,by omega,by omega,.inl ⟨?_,rfl⟩⟩,by simp⟩;rw [hz];simp
 ·rcases h6 with ⟨h6,_⟩|⟨b,o,S',rfl,h8,rfl,h9⟩
  ·have:es.length=0:=by rw [h6];rfl
   omega
  ·rw [aR (by omega)];obtain ⟨U1,g1,g2⟩:=h9.dropT (m:=l.toNat);obtain ⟨U2,g3,g4⟩:=g1.takeT (m:=h.toNat - l.toNat);refine ⟨b::U2,⟨_,_,rfl,by omega,by omega,.inr ⟨b,o+l.toNat*k,U2,by simp [Addr.add_lit],h8,rfl,g3⟩⟩,?_⟩;intro y hy;rcases dH.1 hy with rfl|h'
   ·simp
   ·simp [g2 y (g4 y h')]
def sT (m:Mt) (i:Int):Int:=wr (i*m.cols)
def yO (m:Mt) (i:Int):Int:=wr (wr (i+1)*m.cols)
def aDa (m:Mt) (i:Int):Option (List Int):=bif (decide (0≤sT m i)&&(decide (sT m i≤yO m i)&&decide (yO m i≤(m.cells.length:Int)))) then some ((m.cells.drop (sT m i).toNat).take ((yO m i).toNat - (sT m i).toNat)) else none
theorem aNv (m:Mt) (i:Int) (ao:Option Addr) (n c:Nat) (q:0≤sT m i∧sT m i≤yO m i∧yO m i≤n∧n≤c):HasC Tryz.prog 129 [.agg [.int m.rows,.int m.cols,.sc (.slice ao n c)],.int i]
  (.sc (.slice (if c=(sT m i).toNat then ao else ao.map (·.add ((sT m i).toNat *1))) ((yO m i).toNat - (sT m i).toNat) (c - (sT m i).toNat))):=by
 refine aCq aS (rvs:=[.tmp 4]) (ns:=[0,1,2,3,4,5,6,7,8,9,10,11,12,13]) Tryz.func129 rfl rfl Tryz.ntmps129 rfl rfl rfl ?_;refine aIQ ?_;refine aBf ?_;refine gN (aNX rfl rfl rfl rfl) rfl rfl rfl ?_;refine gN (wQ rfl) rfl rfl rfl ?_;refine aDH ?_;refine aLU ?_;refine aIQ ?_;refine aBf ?_;refine gN (uT aS rfl rfl rfl rfl rfl rfl rfl) rfl rfl rfl ?_;refine gN (dI aS rfl rfl rfl rfl rfl rfl rfl) rfl rfl rfl ?_;refine gN (aAn rfl) rfl rfl rfl ?_;refine gN (uT aS rfl rfl rfl rfl rfl rfl rfl) rfl rfl rfl ?_;refine gN (dI aS rfl rfl rfl rfl rfl rfl rfl) rfl rfl rfl ?_;refine gN (dJ rfl rfl) rfl rfl rfl ?_;refine gN (aAn rfl) rfl rfl rfl ?_;refine gN (bB rfl rfl) rfl rfl rfl ?_;refine gN (uT aS rfl rfl rfl rfl rfl rfl rfl) rfl rfl rfl ?_;refine gN (dI aS rfl rfl rfl rfl rfl rfl rfl) rfl rfl rfl ?_;refine gN (dJ rfl rfl) rfl rfl rfl ?_;refine gN (aIg aS (l:=sT m i) (h:=yO m i) q rfl rfl rfl rfl rfl rfl) rfl rfl rfl ?_;refine gN (wQ rfl) rfl rfl rfl ?_;refine aDH ?_;refine aLU ?_;refine aC ?_;exact bD rfl rfl rfl (xW rfl)
theorem aLn (m:Mt) (i:Int) (r:List Int) (h:aDa m i=some r):HasV Tryz.prog 129 [.agg (eM m),.int i] (.list 1 (List.map eI r)):=by
 obtain ⟨q,h⟩:=cg h;obtain rfl:=so h;simp only [cD,mS] at q;refine ⟨Enters.mk Tryz.func129 (by kernel_rfl) (by kernel_rfl),λw args S hargs=>?_⟩;obtain ⟨args⟩:=args;simp only [RepVs] at hargs;obtain ⟨v,r,S1,S2,h1,rfl,h3,v2,r2,S3,S4,h4,rfl,h5,rfl,rfl⟩:=hargs;subst h4 h1;simp only [RepD,eM] at h3;obtain ⟨vs,rfl,h3⟩:=h3;simp only [RepVs] at h3;obtain ⟨u1,r1,T1,T2,rfl,rfl,g1,u2,r3,T3,T4,rfl,rfl,g2,u3,r4,T5,T6,rfl,rfl,g3,rfl,rfl⟩:=h3
 have hu3: ∃ ao n c,u3= .slice ao n c∧n=m.cells.length∧n≤c:=by
  simp only [RepD] at g3;obtain ⟨a,c,rfl,g4,_⟩:=g3;exact ⟨_,_,_,rfl,by simp [aLV],g4⟩
 obtain ⟨ao,n,c,rfl,hn,hnc⟩:=hu3
 have hcall:=(aNv m i ao n c ⟨q.1,q.2.1,by omega,hnc⟩).calls w #[.agg #[u1,u2,.slice ao n c],v2] (T1++(T3++([]++[]))++(S3++[])) (by
  simp only [RepVs];refine ⟨_,_,_,_,rfl,rfl,?_,_,_,_,_,rfl,rfl,h5,rfl,rfl⟩;simp only [RepD];refine ⟨[u1,u2,.slice ao n c],rfl,?_⟩;simp only [RepVs]
  exact ⟨_,_,_,_,rfl,rfl,by simpa only [RepD] using g1,_,_,_,_,rfl,rfl,by simpa only [RepD] using g2,_,_,[],[],rfl,rfl,zJ rfl,rfl,rfl⟩)
 refine hcall.mono λe w' ⟨v,S',he,hb,hr,_⟩=>?_;simp only [aCP,aKM,wU] at hr;obtain ⟨rfl,_,_⟩:=hr;obtain ⟨U,k1,k2⟩:=aKb (l:=sT m i) (h:=yO m i) g3 ⟨q.1,q.2.1,by omega⟩;refine ⟨_,U,he,hb,?_,?_⟩
 ·have hes:((aMp m.cells).drop (sT m i).toNat).take ((yO m i).toNat - (sT m i).toNat)=List.map eI ((m.cells.drop (sT m i).toNat).take ((yO m i).toNat - (sT m i).toNat)):=by
   show ((m.cells.map eI).drop _).take _=_;rw [List.map_take,List.map_drop]
  rw [←hes];exact k1.below hb
 ·intro x hx;have:=k2 x hx;simp [this]
def aLo (hp:Hp) (touch:List Nat):List (Nat×Option Blk)→Prop
 | []=>True
 |(b,x)::r=>hp b=x∧touch.contains b=true∧aLo hp touch r
theorem aCL {hp h:Hp} {touch:List Nat} (ht: ∀ b∈touch,h b=hp b): ∀ {ed:List (Nat×Option Blk)},aLo hp touch ed→bG ed h=h
 | [],_=>rfl
 |(b,x)::r,⟨h1,h2,h3⟩=>by
  funext c;simp only [bG];by_cases e:c=b
  ·subst e;rw [bO,aM,←h1,ht c (by simpa using h2)]
  ·rw [bU e,aU,aCL ht h3]
theorem AEff.pureE {P:Program} {o:Oper} {ins:Operand→Option AV} {hp:Hp} {κ:Kp} {v:AV} {tc:List Nat} {ed:List (Nat×Option Blk)} (h:AEff P o ins hp κ ⟨v,tc,ed,[]⟩) (hs:aLo hp tc ed):AEff P o ins hp κ ⟨v,tc,[],[]⟩:=by
 refine ⟨λC s ν a w Q K {hκ} hi ht hn hd hsim hK=>h.out C s ν a w Q K (hκ:=hκ) hi ht hn hd hsim λν' a' w' hs'=>hK ν' a' w' ?_⟩
 have e:s.app o.dst ⟨v,tc,ed,[]⟩=s.app o.dst ⟨v,tc,[],[]⟩:=by
  unfold AState.app;rw [aCL ht hs];rfl
 rw [←e];exact hs'
theorem aIh {σ:Nat→Option Nat} {n:Nat} {α:Type} {e:α→List AV} {z:α} {zc:List AV} (h:All2 (gQ σ n) zc (ow e z)) (m:Nat):All2 (All2 (gQ σ n)) (List.replicate m zc) ((List.replicate m z).map (ow e)):=by
 induction m with
 |zero=>rfl
 |succ m ih=>exact ⟨_,_,rfl,h,ih⟩
end
noncomputable section
structure SOps (P:Program) (ops:Array Oper) (nt:Nat) (l:List Oper) (s:AState) (K:AState→Prop):Prop where
 out: ∀ (C:Ctx),C.nt=nt→ ∀ (ν:Nu) (a:Act) (w:World),Sim C s ν a w→ ∀ (n:Nat) (Q:Exit→Act→World→Prop),(∀ s' ν' a' w',K s'→Sim C s' ν' a' w'→Q .normal a' w')→wpListIn (fw C.rd) n P ops Q l a w
section
variable {P:Program} {ops:Array Oper} {nt:Nat} {l:List Oper} {s:AState} {K:AState→Prop}
theorem aLp (h:K s):SOps P ops nt [] s K:=⟨λC hC ν a w hs n Q hQ=>hQ s ν a w h hs⟩
theorem aHW {d:Option Tmp} {op:Op} {ty:TypeId} {pos:String} {aft:Array Edge} {g:Option (Nat×Bool)} {e:Eff} (he:AEff P ⟨d,op,ty,pos,aft,g⟩ s.ev s.heap s.kp e) (hd:aDI ⟨d,op,ty,pos,aft,g⟩ nt=true) (hg:jU ops s.env ⟨d,op,ty,pos,aft,g⟩=some true) (hn:(e.news.all λb=> !s.used b)=true)
  (h:SOps P ops nt l (s.app d e) K):SOps P ops nt (⟨d,op,ty,pos,aft,g⟩::l) s K:=⟨λC hC ν a w hs n Q hQ=>by
 subst hC;refine wpListIn_step λK' hK'=>?_;have hst:aGt P ops C.nt ⟨d,op,ty,pos,aft,g⟩ s e:=⟨aFp hd,.inl ⟨hg,he,λb hb=>by have:=List.all_eq_true.1 hn b hb;simpa using this⟩⟩
 exact aAU hst hs λν' a' w' hs'=>hK' _ _ (h.out C rfl ν' a' w' hs' n Q hQ)⟩
theorem aIi {Q:Exit→AState→Prop} {id:Nat} (h:SOps P l.toArray nt l s (Q .normal)):AC P nt (.region id l.toArray false) s Q:=by
 refine ⟨λC hC ν a w hs n=>?_⟩;exact wpIn_region_lit (h.out C hC ν a w hs n _ λs' ν' a' w' hq hs'=>⟨s',ν',hq,hs'⟩)
end
def df1:AV→Bool
 | .sc _=>true
 | .nil _=>true
 | .dead=>true
 | .own _ _ _=>true
 | .ptr _ _ _=>true
 |_=>false
def dfC:AV→Bool
 | .abs _ _=>true
 |x=>df1 x
def dfB:AV→Bool
 | .agg cs=>cs.all df1
 |x=>df1 x
def dfA:AV→Bool
 | .tuple cs=>cs.all dfB
 |x=>dfB x
section
variable {w w':World} {h h':Hp} {u u':Us} {ν ν':Nu} (U: ∀ b,u b=true→u' b=true) (O: ∀ b blk',u b=true→h' b=some blk'→ ∃ blk,h b=some blk∧blk.k=blk'.k∧blk.es.length=blk'.es.length∧ν' b=ν b)
include U O
theorem aGA: ∀ {x:AV} {v:Value},Rep1 w h u ν x v→df1 x=true→Rep1 w' h' u' ν' x v:=by
 intro x v r t;cases x <;> simp only [df1,eD] at t <;> simp only [Rep1] at r ⊢
 ·exact r
 ·exact r
 ·refine ⟨U _ r.1,λblk hb=>?_⟩;obtain ⟨blk0,e1,e2,e3,e4⟩:=O _ blk r.1 hb;have:=r.2 blk0 e1;rw [e4,←e3,←e2];exact this
 ·refine ⟨U _ r.1,λblk hb=>?_⟩;obtain ⟨blk0,e1,e2,e3,e4⟩:=O _ blk r.1 hb;have:=r.2 blk0 e1;rw [e4,←e2];exact this
end
section
variable {w w':World} {h h':Hp} {u u':Us} {ν ν':Nu} (U: ∀ b,u b=true→u' b=true) (O: ∀ b blk',u b=true→h' b=some blk'→ ∃ blk,h b=some blk∧blk.k=blk'.k∧blk.es.length=blk'.es.length∧ν' b=ν b)
include U O
theorem aHX: ∀ {xs:List AV} {vs:List Value},All2 (Rep1 w h u ν) xs vs→xs.all df1=true→All2 (Rep1 w' h' u' ν') xs vs
 | [],vs,r,_=>r
 |x::xs,vs,⟨v,q,e,r,k⟩,t=>by
  simp only [List.all_cons,cD] at t;exact ⟨v,q,e,aGA U O r t.1,aHX k t.2⟩
theorem aJZ {x:AV} {v:Value} (r:RepB w h u ν x v) (t:dfB x=true):RepB w' h' u' ν' x v:=by
 cases x <;> simp only [RepB] at r ⊢ <;> first
  |exact aGA U O r t
  |(obtain ⟨vs,e,r⟩:=r;exact ⟨vs,e,aHX U O r t⟩)
  |(simp only [dfB,df1,eD] at t)
theorem aMz {x:AV} {v:Value} (r:RepA w h u ν x v) (t:dfA x=true):RepA w' h' u' ν' x v:=by
 by_cases ht: ∃ cs,x= .tuple cs
 ·obtain ⟨cs,rfl⟩:=ht;obtain ⟨vs,e,r⟩:=r;refine ⟨vs,e,r.congrM λy hy d hd=>aJZ U O hd ?_⟩;exact List.all_eq_true.1 t y hy
 ·have r':RepB w h u ν x v:=by cases x <;> first|exact r|exact absurd ⟨_,rfl⟩ ht
  have t':dfB x=true:=by cases x <;> first|exact t|exact absurd ⟨_,rfl⟩ ht
  have:=aJZ (w':=w') U O r' t';cases x <;> first|exact this|exact absurd ⟨_,rfl⟩ ht
theorem aNA {x:AV} {v:Value} {S:List Nat} (hk: ∀ b∈S,w'.heap[b]? =w.heap[b]?) (r:CellRep w h u ν x v S) (t:dfC x=true):CellRep w' h' u' ν' x v S:=by
 cases x <;> simp only [CellRep] at r ⊢ <;> first
  |exact ⟨aGA U O r.1 t,r.2⟩
  |exact r.keep hk
  |exact r
theorem aBH: ∀ {xs:List AV} {vs:List Value} {S:List Nat},(∀ b∈S,w'.heap[b]? =w.heap[b]?)→CellsRep w h u ν xs vs S→(∀ c∈xs,dfC c=true)→CellsRep w' h' u' ν' xs vs S
 | [],_,_,_,r,_=>r
 |x::xs,vs,S,hk,⟨v,q,S1,S2,e1,e2,r,k⟩,t=>by
  subst e2;exact ⟨v,q,S1,S2,e1,rfl,aNA U O (λb hb=>hk b (by simp [hb])) r (t x (by simp)),aBH (λb hb=>hk b (by simp [hb])) k (λc hc=>t c (by simp [hc]))⟩
theorem aKc {b:Nat} {blk:Blk} {S:List Nat} (hν:ν' b=ν b) (hk: ∀ x∈S,w'.heap[x]? =w.heap[x]?) (r:BlkOk w h u ν b blk S) (t: ∀ cs∈blk.es,∀ c∈cs,dfC c=true):BlkOk w' h' u' ν' b blk S:=by
 refine ⟨r.1,?_⟩;rcases r.2 with ⟨q1,q2,q3⟩|⟨β,c,arr,ty,T,vs,q1,q2,q3,q4,q5,q6,q7,q8⟩
 ·exact .inl ⟨hν.trans q1,q2,q3⟩
 ·subst q6;refine .inr ⟨β,c,arr,ty,T,vs,hν.trans q1,(hk β (by simp)).trans q2,q3,q4,q5,rfl,q7,aBH U O (λx hx=>hk x (by simp [hx])) q8 λc hc=>?_⟩;obtain ⟨cs,hcs,hc⟩:=List.mem_flatten.1 hc;exact t cs hcs c hc
end
end
noncomputable section
theorem aHY {w:World} {h:Hp} {u:Us} {ν:Nu} : ∀ {cs:List AV} {vs:List Value} {S:List Nat},RepOV w cs vs S→CellsRep w h u ν (cs.map qI) vs S
 | [],vs,S,r=>by simp only [RepOV] at r;exact r
 |c::cs,vs,S,r=>by
  simp only [RepOV] at r;obtain ⟨v,q,S1,S2,e1,e2,_,h3,h4⟩:=r;refine ⟨v,q,S1,S2,e1,e2,?_,aHY h4⟩;cases c with
  |sc x=>simp only [RepO] at h3;exact ⟨⟨h3.1,h3.2.1⟩,h3.2.2⟩
  |list k es=>exact h3
  |_=>simp only [RepO] at h3
theorem aIj {k:Nat} {es:List (List AV)} (h: ∀ cs∈es,cs.length=k): ∀ cs∈cK es,cs.length=k:=by
 intro cs hcs;unfold cK at hcs;obtain ⟨d,hd,rfl⟩:=List.mem_map.1 hcs;rw [dM];exact h d hd
theorem aIk (es:List (List AV)):(cK es).flatten=es.flatten.map qI:=by
 unfold cK;rw [List.map_flatten]
theorem aLq {s:AState} {b c i j k':Nat} {blk:Blk} {cs:List AV} {es':List (List AV)} (hT:s.kp.T=true) (hb:s.heap b=some blk) (hi:blk.es[i]? =some cs) (hj:cs[j]? =some (.abs k' es')) (hc:s.used c=false) (hdf: ∀ t x,s.env t=some x→dfA x=true) (hdc: ∀ b blk,s.heap b=some blk→ ∀ cs∈blk.es,∀ c∈cs,dfC c=true):
  Ent s ⟨s.env,bG [(c,some ⟨k',cK es'⟩),(b,some ⟨blk.k,blk.es.set i (cs.take j++[.own c 0 es'.length]++cs.drop (j+1))⟩)] s.heap,fX [c] s.used,s.ns,s.kp⟩:=by
 intro C ν a w hs;obtain ⟨φ,hh⟩:=hs.heap;obtain ⟨hub,⟨hk1,hx1⟩,hnd1,hB1⟩:=hh.blk b blk hb;have hne:b≠c:=by rintro rfl;rw [hub] at hc;cases hc
 have hcn:s.heap c=none:=hs.unused hc;have hcs:=hk1 cs (List.mem_of_getElem? hi)
 have hjl:j<cs.length:=by
  rcases cX j cs.length with h'|h'
  ·exact h'
  ·rw [iM h'] at hj;cases hj
 rcases hx1 with ⟨q1,q2,_⟩|⟨β,cap,arr,ty,T,vs,q1,q2,q3,q4,q5,q6,q7,q8⟩
 ·rw [q2] at hi;simp at hi
 have hdrop:blk.es.flatten.drop (i*blk.k+j)= .abs k' es'::blk.es.flatten.drop (i*blk.k+j+1):=by
  obtain ⟨r,hr⟩:=uB hk1 hi;have h1:blk.es.flatten.drop (i*blk.k+j)=(cs++r).drop j:=by rw [←hr,List.drop_drop]
  have h2:blk.es.flatten.drop (i*blk.k+j+1)=(cs++r).drop (j+1):=by rw [←hr,List.drop_drop,Nat.add_assoc]
  rw [h1,h2,List.drop_append_of_le_length (by omega),List.drop_append_of_le_length (by omega),List.drop_eq_getElem_cons hjl];have:cs[j]= .abs k' es':=by simpa [hjl] using hj
  rw [this];rfl
 have hfl:blk.es.flatten=blk.es.flatten.take (i*blk.k+j)++([.abs k' es']++blk.es.flatten.drop (i*blk.k+j+1)):=by
  rw [List.singleton_append,←hdrop,List.take_append_drop]
 rw [hfl] at q8;obtain ⟨v1,v2,S1,S2,e1,e2,e3,e4,e5⟩:=q8.append_inv;obtain ⟨v3,v4,S3,S4,f1,f2,f3,f4,f5⟩:=e5.append_inv;subst f1 f2;obtain ⟨v,r0,S5,S6,rfl,rfl,g1,⟨rfl,rfl⟩⟩:=f4;simp only [CellRep] at g1;rw [List.append_nil] at e2;have hφ:φ b=β::(S1++(S5++S4)):=by rw [q6,e2]
 obtain ⟨νc,hνc⟩: ∃ νc:Option (Nat×Nat),(∀ (h:Hp) (u:Us) (ν':Nu),ν' c=νc→BlkOk w h u ν' c ⟨k',cK es'⟩ S5)∧(νc=none→v= .slice none 0 0)∧(∀ β' cap',νc=some (β',cap')→ownV β' 0 k' es'.length cap' v∧β'∈S5):=by
  simp only [RepO] at g1;rcases g1 with ⟨rfl,rfl,rfl⟩|⟨β',cap',arr',ty',T',vs',p1,p2,p3,p4,p5,p6,rfl,p8,p9⟩
  ·exact ⟨none,λh u ν' hν=>⟨by simp [cK],.inl ⟨hν,rfl,rfl⟩⟩,λ_=>rfl,λ_ _ e=>by cases e⟩
  ·have hl:(cK es').length=es'.length:=by simp [cK]
   refine ⟨some (β',cap'),λh u ν' hν=>⟨aIj p6,.inr ⟨β',cap',arr',ty',T',vs',hν,p2,p3,by show (cK es').length ≤cap';omega,p5,rfl,by show arr'.toList.take ((cK es').length *k')=vs';rw [hl];exact p8,?_⟩⟩,λe=>by (cases e),λx y e=>?_⟩
   ·show CellsRep w h u ν' (cK es').flatten vs' T';rw [aIk];exact aHY (wO.1 p9)
   ·cases e;rw [p1];exact ⟨aBa,by simp⟩
 obtain ⟨hB,hn0,hn1⟩:=hνc;let ν':Nu:=⟨λx=>if x=c then νc else ν x,ν.ok⟩;have hν1:ν' c=νc:=aQ rfl;have hν2: ∀ x,x≠c→ν' x=ν x:=λx hx=>aR hx;have hl1:bG [(c,some ⟨k',cK es'⟩),(b,some ⟨blk.k,blk.es.set i (cs.take j++[.own c 0 es'.length]++cs.drop (j+1))⟩)] s.heap c=some ⟨k',cK es'⟩:=by simp [bG]
 have hl2:bG [(c,some ⟨k',cK es'⟩),(b,some ⟨blk.k,blk.es.set i (cs.take j++[.own c 0 es'.length]++cs.drop (j+1))⟩)] s.heap b=some ⟨blk.k,blk.es.set i (cs.take j++[.own c 0 es'.length]++cs.drop (j+1))⟩:=by simp [bG,bU hne]
 have hl3: ∀ x,x≠c→x≠b→bG [(c,some ⟨k',cK es'⟩),(b,some ⟨blk.k,blk.es.set i (cs.take j++[.own c 0 es'.length]++cs.drop (j+1))⟩)] s.heap x=s.heap x:=λx h1 h2=>by simp [bG,bU h1,bU h2]
 generalize hH:bG [(c,some ⟨k',cK es'⟩),(b,some ⟨blk.k,blk.es.set i (cs.take j++[.own c 0 es'.length]++cs.drop (j+1))⟩)] s.heap=H at*;have U: ∀ x,s.used x=true→fX [c] s.used x=true:=λx hx=>by rw [jM,hx,Bool.or_true]
 have O: ∀ x blk',s.used x=true→H x=some blk'→ ∃ y,s.heap x=some y∧y.k=blk'.k∧y.es.length=blk'.es.length∧ν' x=ν x:=by
  intro x blk' hu hx;have hxc:x≠c:=by rintro rfl;rw [hu] at hc;cases hc
  by_cases e:x=b
  ·subst e;rw [hl2] at hx;cases hx;exact ⟨blk,hb,rfl,by simp,hν2 _ hxc⟩
  ·rw [hl3 x hxc e] at hx;exact ⟨blk',hx,rfl,rfl,hν2 _ hxc⟩
 have hfl2: ∀ d∈blk.es.flatten,dfC d=true:=by
  intro d hd;obtain ⟨ds,h1,h2⟩:=List.mem_flatten.1 hd;exact hdc b blk hb ds h1 d h2
 refine ⟨ν',hs.below,hs.base,hs.fresh,hs.defers,hs.size,λt x hx=>by obtain ⟨v,h1,h2⟩:=hs.env t x hx;exact ⟨v,h1,aMz U O h2 (hdf t x hx)⟩,⟨λx=>if x=c then S5 else if x=b then β::(S1++S4) else φ x,?_,?_⟩,hs.kp,?_,hs.szE,hs.okM,hs.okF⟩
 ·intro x blk2 hx;replace hx:H x=some blk2:=hx;have hnd:=hnd1;rw [hφ] at hnd;have n1:=List.nodup_cons.1 hnd;have n2:=List.nodup_append.1 n1.2;have n3:=List.nodup_append.1 n2.2.1;by_cases e:x=c
  ·subst e;rw [hl1] at hx;cases hx;simp only [if_true];refine ⟨by rw [jM];simp,hB _ _ _ hν1,n3.1,λy hy=>hB1 y (by rw [hφ];simp [hy])⟩
  ·by_cases e0:x=b
   ·subst e0;rw [hl2] at hx;cases hx;simp only [aR e,if_true];refine ⟨U _ hub,⟨?_,.inr ⟨β,cap,arr,ty,S1++S4,vs,(hν2 _ e).trans q1,q2,q3,by simpa using q4,q5,rfl,by simpa using q7,?_⟩⟩,?_,?_⟩
    ·intro d hd;rcases List.mem_or_eq_of_mem_set hd with h|h
     ·exact hk1 d h
     ·rw [h];simp;omega
    ·rw [vF (n:=1) hk1 hi rfl (by omega),e1]
     have m1:CellsRep w H (fX [c] s.used) ν' [.own c 0 es'.length] [v] []:=by
      refine ⟨v,[],[],[],rfl,rfl,⟨⟨by rw [jM];simp,λblk3 h3=>?_⟩,rfl⟩,rfl,rfl⟩;rw [hl1] at h3;cases h3;refine ⟨by simp [cK],λh4=>hn0 (hν1.symm.trans h4),λβ' c' h4=>(hn1 β' c' (hν1.symm.trans h4)).1⟩
     have m2:=(aBH (w':=w) (h':=H) (u':=fX [c] s.used) (ν':=ν') U O (λ_ _=>rfl) e4 (λd hd=>hfl2 d (List.mem_of_mem_take hd))).append (m1.append (aBH (w':=w) (h':=H) (u':=fX [c] s.used) (ν':=ν') U O (λ_ _=>rfl) f5 (λd hd=>hfl2 d (List.mem_of_mem_drop hd))));rw [List.append_assoc (List.take (i*blk.k+j) blk.es.flatten)];simpa using m2
    ·refine List.nodup_cons.2 ⟨λhm=>n1.1 ?_,List.nodup_append.2 ⟨n2.1,n3.2.1,λy hy z hz=>n2.2.2 y hy z (by simp [hz])⟩⟩;rcases dD.1 hm with h|h <;> simp [h]
    ·intro y hy;refine hB1 y ?_;rw [hφ];rcases dH.1 hy with rfl|h
     ·simp
     ·rcases dD.1 h with h|h <;> simp [h]
   ·rw [hl3 x e e0] at hx;simp only [aR e,aR e0];obtain ⟨p1,p2,p3,p4⟩:=hh.blk x blk2 hx;exact ⟨U _ p1,aKc U O (hν2 _ e) (λ_ _=>rfl) p2 (hdc x blk2 hx),p3,p4⟩
 ·have hnd:=hnd1;rw [hφ] at hnd;have n1:=List.nodup_cons.1 hnd;have n2:=List.nodup_append.1 n1.2;have n3:=List.nodup_append.1 n2.2.1;have hbn:s.heap b≠none:=by rw [hb];simp
  have hS5: ∀ y,y∈S5→y∈φ b:=λy hy=>by rw [hφ];simp [hy]
  have hSb: ∀ y,y∈β::(S1++S4)→y∈φ b:=λy hy=>by
   rw [hφ];rcases dH.1 hy with rfl|h
   ·simp
   ·rcases dD.1 h with h|h <;> simp [h]
  have hcb: ∀ y,y∈S5→y ∉ β::(S1++S4):=by
   intro y h5 hy;rcases dH.1 hy with rfl|h
   ·exact n1.1 (by simp [h5])
   ·rcases dD.1 h with h|h
    ·exact n2.2.2 y h y (by simp [h5]) rfl
    ·exact n3.2.2 y h5 y h rfl
  intro x1 x2 y hx1 hx2 hne2 hy1 hy2;replace hx1:H x1≠none:=hx1;replace hx2:H x2≠none:=hx2;replace hy1:y∈(if x1=c then S5 else if x1=b then β::(S1++S4) else φ x1):=hy1;replace hy2:y∈(if x2=c then S5 else if x2=b then β::(S1++S4) else φ x2):=hy2;by_cases a1:x1=c <;> by_cases a2:x2=c
  ·exact hne2 (a1.trans a2.symm)
  ·rw [aQ a1] at hy1;rw [aR a2] at hy2;by_cases b2:x2=b
   ·rw [aQ b2] at hy2;exact hcb y hy1 hy2
   ·rw [aR b2] at hy2;rw [hl3 x2 a2 b2] at hx2;exact hh.apart b x2 y hbn hx2 (Ne.symm b2) (hS5 y hy1) hy2
  ·rw [aR a1] at hy1;rw [aQ a2] at hy2;by_cases b1:x1=b
   ·rw [aQ b1] at hy1;exact hcb y hy2 hy1
   ·rw [aR b1] at hy1;rw [hl3 x1 a1 b1] at hx1;exact hh.apart b x1 y hbn hx1 (Ne.symm b1) (hS5 y hy2) hy1
  ·rw [aR a1] at hy1;rw [aR a2] at hy2;by_cases b1:x1=b <;> by_cases b2:x2=b
   ·exact hne2 (b1.trans b2.symm)
   ·rw [aQ b1] at hy1;rw [aR b2] at hy2;rw [hl3 x2 a2 b2] at hx2;exact hh.apart b x2 y hbn hx2 (Ne.symm b2) (hSb y hy1) hy2
   ·rw [aR b1] at hy1;rw [aQ b2] at hy2;rw [hl3 x1 a1 b1] at hx1;exact hh.apart b x1 y hbn hx1 (Ne.symm b1) (hSb y hy2) hy1
   ·rw [aR b1] at hy1;rw [aR b2] at hy2;rw [hl3 x1 a1 b1] at hx1;rw [hl3 x2 a2 b2] at hx2;exact hh.apart x1 x2 y hx1 hx2 hne2 hy1 hy2
 ·refine ⟨λx hx=>U x (hs.ext.used x hx),λx blk' hx hl'=>?_,λx hx hF=>?_,hs.ext.okE⟩
  ·obtain ⟨y,g1,g2,g3,g4⟩:=O x blk' (hs.ext.used x hx) hl';obtain ⟨z,k1,k2,k3,k4⟩:=hs.ext.old x y hx g1;exact ⟨z,k1,k2.trans g2,k3.trans g3,g4.trans k4⟩
  ·obtain ⟨g1,g2⟩:=hs.ext.free x hx hF;refine ⟨g1,λb2 blk2 β2 c2 hb2 h2 e=>?_⟩;replace hb2:H b2=some blk2:=hb2;by_cases a1:b2=c
   ·subst a1;rw [hν1] at h2;subst e;exact C.tm (by rw [←hs.kp];exact hT) β2 hx (hB1 β2 (by rw [hφ];simp [(hn1 _ _ h2).2])) hF
   ·rw [hν2 _ a1] at h2;by_cases a2:b2=b
    ·subst a2;exact g2 b2 blk β2 c2 hb h2 e
    ·rw [hl3 b2 a1 a2] at hb2;exact g2 b2 blk2 β2 c2 hb2 h2 e
end
noncomputable section
def Raw1 (κ:Kp) (x d:AV):Prop:= ∃ W G v S,κ.fx=some (W,G)∧x= .sc v∧RepD W d v S∧ ∀ b∈S,G b
def RawK (κ:Kp):AV→AV→Prop
 | .agg xs,.agg ds=>All2 (Raw1 κ) xs ds
 |x,d=>Raw1 κ x d
theorem Sim.stays {C:Ctx} {s:AState} {ν:Nu} {a:Act} {w:World} (hs:Sim C s ν a w) {κ:Kp} (hκ:s.kp=κ) {W:World} {G:Nat→Prop} (h:κ.fx=some (W,G)) {b:Nat} (hb:G b):w.heap[b]? =W.heap[b]? ∧tH s.heap ν b:=by
 obtain ⟨e1,e2⟩:=C.fxp (W,G) (by rw [←hs.kp,hκ];exact h);obtain ⟨e3,e4⟩:=e2 b hb;obtain ⟨e5,e6⟩:=hs.ext.free b e3 e4;rw [e1] at e5;exact ⟨e5,e6,hs.okF (W,G) (by rw [←hs.kp,hκ];exact h) b hb⟩
theorem Raw1.rep {C:Ctx} {s:AState} {ν ν':Nu} {a:Act} {w:World} {h:Hp} {u:Us} (hs:Sim C s ν a w) {κ:Kp} (hκ:s.kp=κ) {x d:AV} {v:Value} (r:Rep1 w h u ν' x v) (m:Raw1 κ x d): ∃ S',RepD w d v S':=by
 obtain ⟨W,G,y,S,h1,rfl,h2,h3⟩:=m;rw [r.1];exact ⟨S,h2.keep λb hm=>(hs.stays hκ h1 (h3 b hm)).1⟩
theorem RawK.rep {C:Ctx} {s:AState} {ν:Nu} {a:Act} {w:World} (hs:Sim C s ν a w) {κ:Kp} (hκ:s.kp=κ) {x d:AV} {v:Value} (r:RepA w s.heap s.used ν x v) (m:RawK κ x d): ∃ S',RepD w d v S':=by
 by_cases ho: ∃ xs ds,x= .agg xs∧d= .agg ds
 ·obtain ⟨xs,ds,rfl,rfl⟩:=ho;obtain ⟨vs,rfl,r⟩:=r;obtain ⟨S,h⟩:=rN (V:=Raw1 κ) (λx d v hr hm=>hm.rep hs hκ hr) r m;exact ⟨S,by simp only [RepD];exact ⟨vs,rfl,h⟩⟩
 ·have m':Raw1 κ x d:=by
   cases x <;> first|exact m|(cases d <;> first|exact m|exact absurd ⟨_,_,rfl,rfl⟩ ho)
  obtain ⟨W,G,y,S,h1,rfl,h2,h3⟩:=m';exact Raw1.rep (h:=s.heap) (u:=s.used) (ν':=ν) (x:= .sc y) hs hκ (show Rep1 w s.heap s.used ν (.sc y) v from r) ⟨W,G,y,S,h1,rfl,h2,h3⟩
def rd1:AV→Bool
 | .sc _=>true
 | .list _ _=>true
 | .ref _=>true
 |_=>false
def rdA:AV→Bool
 | .agg ds=>ds.all rd1
 |d=>rd1 d
theorem Raw1.rep1 {C:Ctx} {s:AState} {ν:Nu} {a:Act} {w:World} (hs:Sim C s ν a w) {κ:Kp} (hκ:s.kp=κ) {x d:AV} {v:Value} (r:Rep1 w s.heap s.used ν x v) (m:Raw1 κ x d) (ok:rd1 d=true):Rep1 w s.heap s.used ν d v:=by
 obtain ⟨W,G,y,S,h1,rfl,h2,h3⟩:=m;rw [r.1];have h4:=h2.keep λb hm=>(hs.stays hκ h1 (h3 b hm)).1;cases d <;> simp only [rd1,eD] at ok
 ·simp only [RepD] at h4;exact ⟨h4.1,h4.2.1⟩
 ·exact ⟨S,h4,λx hx=>(hs.stays hκ h1 (h3 x hx)).2⟩
 ·exact ⟨S,h4,λx hx=>(hs.stays hκ h1 (h3 x hx)).2⟩
theorem RawK.repA {C:Ctx} {s:AState} {ν:Nu} {a:Act} {w:World} (hs:Sim C s ν a w) {κ:Kp} (hκ:s.kp=κ) {x d:AV} {v:Value} (r:RepA w s.heap s.used ν x v) (m:RawK κ x d) (ok:rdA d=true):RepA w s.heap s.used ν d v:=by
 by_cases ho: ∃ xs ds,x= .agg xs∧d= .agg ds
 ·obtain ⟨xs,ds,rfl,rfl⟩:=ho;obtain ⟨vs,rfl,r⟩:=r;refine ⟨vs,rfl,?_⟩
  have key: ∀ {xs ds:List AV} {vs:List Value},All2 (Rep1 w s.heap s.used ν) xs vs→All2 (Raw1 κ) xs ds→ds.all rd1=true→All2 (Rep1 w s.heap s.used ν) ds vs:=by
   intro xs;induction xs with
   |nil=>intro ds vs h1 h2 _;simp only [All2] at h1 h2;subst h1 h2;rfl
   |cons x xs ih=>
    rintro ds vs ⟨v,q,rfl,g1,g2⟩ ⟨d,r,rfl,k1,k2⟩ o;simp only [List.all_cons,cD] at o;exact ⟨v,q,rfl,k1.rep1 hs hκ g1 o.1,ih g2 k2 o.2⟩
  exact key r m ok
 ·have m':Raw1 κ x d:=by
   cases x <;> first|exact m|(cases d <;> first|exact m|exact absurd ⟨_,_,rfl,rfl⟩ ho)
  have ok':rd1 d=true:=by
   cases d <;> first|exact ok|skip
   obtain ⟨W,G,y,S,h1,rfl,h2,h3⟩:=m';have e:RepA w s.heap s.used ν (.sc y) v:=r;exfalso;simp only [RepD] at h2;obtain ⟨vs,rfl,_⟩:=h2;exact absurd e.2 (by simp [Value.oneCell'])
  have r1:Rep1 w s.heap s.used ν x v:=by
   obtain ⟨W,G,y,S,h1,rfl,h2,h3⟩:=m';exact r
  have:=m'.rep1 hs hκ r1 ok';cases d <;> first|exact this|(simp only [rd1,eD] at ok')
def aPF (σ:Nat→Option Nat) (n:Nat) (κ:Kp) (x d:AV):Prop:=nY σ n x d∨(RawK κ x d∧rdA d=true∧nY σ n d d)
section
variable {P:Program} {dst:Option Tmp} {ty:TypeId} {pos:String} {aft:Array Edge} {g:Option (Nat×Bool)} {ins:Operand→Option AV} {hp:Hp} {κ:Kp}
theorem aKd {fo:Operand} {xs:Array Operand} {ats:Array TypeId} {f:FuncId} {caps avs ds:List AV} {hl hl' hl2:List (Nat×Blk)} {kp n':Nat} {r r2:AV} {σ σ':Nat→Option Nat} {touch news:List Nat} {ed:List (Nat×Option Blk)}
  (hc:HasE P f ds hl kp r hl') (hf:ins fo=some (.fn f caps)) (hx:evs ins xs.toList=some avs) (hav:All2 (aPF σ kp κ) (avs++caps) ds) (hh:rI σ kp hp hl) (hi:aBg σ hl=true) (hit:zV σ touch hl=true) (hlive:(touch.all λb=>(hp b).isSome)=true)
  (hh':rI σ' n' (oP hl') hl2) (hi':aBg σ' hl2=true) (hr:nY σ' n' r r2) (hbk:aEy σ σ' kp news hl2=true) (htl:aHP (touch++news) hl2) (htr:aJX (touch++news) r2=true) (he:aBn (touch++news) hl2=ed):
  AEff P ⟨dst,.call ⟨.value fo,xs,ats⟩,ty,pos,aft,g⟩ ins hp κ ⟨r2,touch,ed,news⟩:=by
 have key: ∃ av2,All2 (nY σ kp) av2 ds∧ ∀ (C:Ctx) (s:AState) (ν:Nu) (a:Act) (w:World) (vs:List Value),s.kp=κ→Sim C s ν a w→All2 (RepA w s.heap s.used ν) (avs++caps) vs→All2 (RepA w s.heap s.used ν) av2 vs:=by
  clear hx;revert hav;generalize avs++caps=xs;clear hc;intro hav;induction xs generalizing ds with
  |nil=>simp only [All2] at hav;subst hav;exact ⟨[],rfl,λ_ _ _ _ _ _ _ _ h=>h⟩
  |cons x xs ih=>
   obtain ⟨d,r,rfl,h1,h2⟩:=hav;obtain ⟨av2,g1,g2⟩:=ih h2;rcases h1 with h1|⟨k1,k2,k3⟩
   ·refine ⟨x::av2,⟨d,r,rfl,h1,g1⟩,λC s ν a w vs hκ hs hv=>?_⟩;obtain ⟨v,q,rfl,e1,e2⟩:=hv;exact ⟨v,q,rfl,e1,g2 C s ν a w q hκ hs e2⟩
   ·refine ⟨d::av2,⟨d,r,rfl,k3,g1⟩,λC s ν a w vs hκ hs hv=>?_⟩;obtain ⟨v,q,rfl,e1,e2⟩:=hv;exact ⟨v,q,rfl,k1.repA hs hκ e1 k2,g2 C s ν a w q hκ hs e2⟩
 obtain ⟨av2,g1,g2⟩:=key;exact aFC hc hf hx g2 g1 hh hi hit hlive hh' hi' hr hbk htl htr he
end
def fxW (W:World):Option (World×(Nat→Prop)):=some (W,λx=>x<W.heap.size)
theorem yP {κ:Kp} {W:World} {d:AV} {v:Value} {S:List Nat} (h:κ.fx=fxW W) (r:RepD W d v S):Raw1 κ (.sc v) d:=⟨W,_,v,S,h,rfl,r,r.lt⟩
theorem aGB {κ:Kp} {W:World} {u:Value} (h:κ.fx=fxW W) (o:u.oneCell'=true):Raw1 κ (.sc u) (.sc u):=yP h (zJ o)
theorem aNZ {κ:Kp} {W:World} {k:Nat} {es:List (List AV)} {v:Value} {S:List Nat} (h:κ.fx=fxW W) (r:RepD W (.list k es) v S):RawK κ (.sc v) (.list k es):=yP h r
theorem aJa {κ:Kp} :RawK κ (.agg []) (.agg []):=rfl
theorem qP {κ:Kp} {x d:AV} {xs ds:List AV} (a:Raw1 κ x d) (b:RawK κ (.agg xs) (.agg ds)):RawK κ (.agg (x::xs)) (.agg (d::ds)):=⟨d,ds,rfl,a,b⟩
def qQ (κ:Kp) (h:Hp) (x d:AV):Prop:=viewA h x d∨RawK κ x d
theorem fS {κ:Kp} {h:Hp} :All2 (qQ κ h) [] []:=rfl
theorem cH {κ:Kp} {h:Hp} {x d:AV} {xs ds:List AV} (a:qQ κ h x d) (b:All2 (qQ κ h) xs ds):All2 (qQ κ h) (x::xs) (d::ds):=⟨d,ds,rfl,a,b⟩
theorem aDb {R:AV→Value→Prop} {V:AV→AV→Prop} {w:World} (hr: ∀ x d v,R x v→V x d→ ∃ S',RepD w d v S') {xs ds:List AV} {vs:List Value} (r:All2 R xs vs) (m:All2 V xs ds): ∃ S',RepVs w ds vs S':=rN hr r m
section
variable {P:Program} {dst:Option Tmp} {ty:TypeId} {pos:String} {aft:Array Edge} {g:Option (Nat×Bool)} {ins:Operand→Option AV} {hp:Hp} {κ:Kp}
theorem aFH {fo:Operand} {xs:Array Operand} {ats:Array TypeId} {f:FuncId} {avs ds:List AV} {r x:AV} {nb:List (Nat×Blk)} {ns ns':List Nat} (hf:ins fo=some (.fn f [])) (hx:evs ins xs.toList=some avs) (hc:HasC P f ds r) (hv1:All2 (qQ κ hp) avs ds) (hg:aCJ r)
  (hi:aIR ns r=(x,nb,ns')) (hfl:aHD x=true) (hn:ns.Nodup):
  AEff P ⟨dst,.call ⟨.value fo,xs,ats⟩,ty,pos,aft,g⟩ ins hp κ ⟨x,avs.flatMap (kU hp),kV nb,nb.map (·.1)⟩:=by
 refine ⟨λC s ν a w Q K {hκ} hi' ht hnw hd hs hK=>?_⟩;have h1:=hs.ev ((hi' fo (by simp [Op.operands,Call.operands])).trans hf);simp only [RepA,RepB] at h1;obtain ⟨cv,h1,h2⟩:=h1;simp only [All2] at h2;subst h2;obtain ⟨φ,hh⟩:=hs.heap;have h3:=zL hs (xs:=xs.toList) (λy hy=>hi' y (by simp [Op.operands,Call.operands];exact .inr (Array.mem_toList_iff.1 hy))) hx;have hv1':All2 (qQ κ s.heap) avs ds:=hv1.congrM λy hy d hd=>hd.elim (λhd=> .inl (hd.congr λb hb=>ht b (List.mem_flatMap.2 ⟨y,hy,hb⟩))) .inr;obtain ⟨S1,e1⟩:=aDb (V:=qQ κ s.heap) (λx d v hr hv=>hv.elim (λhv=>viewA.rep hh hr hv) (λhv=>hv.rep hs hκ hr)) h3 hv1';have hcall:=hc.calls w (xs.map a.eval) S1 (by simpa using e1);unfold Oper.wp
 have hex:(execOp a.eval ⟨dst,.call ⟨.value fo,xs,ats⟩,ty,pos,aft,g⟩).run P w= .ok (.enter f (xs.map a.eval)) w:=by
  have:execOp a.eval ⟨dst,.call ⟨.value fo,xs,ats⟩,ty,pos,aft,g⟩=callFunc f (xs.map a.eval):=by
   simp [execOp,resolve,h1,Deferred.ofValue,invoke]
  rw [this];exact hc.enters _ _
 rw [hex];simp only [Oper.upon];refine hcall.mono λe w' ⟨v,S',he,hb,hr,hnew⟩=>?_;subst he;simp only;obtain ⟨g1,X,Sf,g2,g3⟩:=aFr (w:=w) hi hfl hr hg hnew.1 hn;have hnn:(nb.map (·.1)).Nodup:=by rw [g1] at hn;exact (List.nodup_append.1 hn).1
 obtain ⟨ν',hs'⟩:=hs.call hd hb g2 hnew hnn (λb hb=>hnw b hb) g3 (touch:=avs.flatMap (kU hp));exact hK ν' _ _ hs'
end
section
variable {P:Program} {dst:Option Tmp} {ty:TypeId} {pos:String} {aft:Array Edge} {g:Option (Nat×Bool)} {s:AState}
theorem gD {f:FuncId} {xs:Array Operand} {ats:Array TypeId} {avs ds:List AV} {u:Value} (hc:HasC P f ds (.sc u)) (hx:evs s.ev xs.toList=some avs) (hv1:All2 (qQ s.kp s.heap) avs ds):
  AEff P ⟨dst,.call ⟨.value (.func f),xs,ats⟩,ty,pos,aft,g⟩ s.ev s.heap s.kp ⟨.sc u,avs.flatMap (kU s.heap),[],[]⟩:=
 aFH (ns:=[]) (nb:=[]) (r:= .sc u) (x:= .sc u) rfl hx hc hv1 trivial (aCr [] u) rfl (by simp)
theorem aHZ {f:FuncId} {xs:Array Operand} {ats:Array TypeId} {avs ds:List AV} {r x:AV} {nb:List (Nat×Blk)} {ns':List Nat} (hc:HasC P f ds r) (hx:evs s.ev xs.toList=some avs) (hi:aIR s.ns r=(x,nb,ns')) (hfl:aHD x=true) (hn:rO s.ns=true) (hg:aCJ r) (hv1:All2 (qQ s.kp s.heap) avs ds):
  AEff P ⟨dst,.call ⟨.value (.func f),xs,ats⟩,ty,pos,aft,g⟩ s.ev s.heap s.kp ⟨x,avs.flatMap (kU s.heap),kV nb,nb.map (·.1)⟩:=
 aFH rfl hx hc hv1 hg hi hfl (tZ hn)
end
def aBp (w:World):List AV→(List AV→Prop)→Prop
 | [],K=>K []
 | .sc u::cs,K=>aBp w cs (λxs=>K (.sc u::xs))
 |d::cs,K=> ∀ v S,RepD w d v S→aBp w cs (λxs=>K (.sc v::xs))
def qR (w:World):List AV→(List AV→Prop)→Prop
 | [],K=>K []
 | .sc u::ds,K=>qR w ds (λxs=>K (.sc u::xs))
 | .agg cs::ds,K=>aBp w cs (λxs=>qR w ds (λys=>K (.agg xs::ys)))
 |d::ds,K=> ∀ v S,RepD w d v S→qR w ds (λxs=>K (.sc v::xs))
theorem sU {w:World} {K:List AV→Prop} (h:K []):aBp w [] K:=h
theorem mF {w:World} {u:Value} {cs:List AV} {K:List AV→Prop} (h:aBp w cs (λxs=>K (.sc u::xs))):aBp w (.sc u::cs) K:=h
theorem gA {w:World} {k:Nat} {es:List (List AV)} {cs:List AV} {K:List AV→Prop} (h: ∀ v S,RepD w (.list k es) v S→aBp w cs (λxs=>K (.sc v::xs))):aBp w (.list k es::cs) K:=h
theorem aBI {w:World} {K:List AV→Prop} (h:K []):qR w [] K:=h
theorem aNB {w:World} {u:Value} {cs:List AV} {K:List AV→Prop} (h:qR w cs (λxs=>K (.sc u::xs))):qR w (.sc u::cs) K:=h
theorem wC {w:World} {xs cs:List AV} {K:List AV→Prop} (h:aBp w xs (λxs=>qR w cs (λys=>K (.agg xs::ys)))):qR w (.agg xs::cs) K:=h
theorem aLr {w:World} {k:Nat} {es:List (List AV)} {cs:List AV} {K:List AV→Prop} (h: ∀ v S,RepD w (.list k es) v S→qR w cs (λxs=>K (.sc v::xs))):qR w (.list k es::cs) K:=h
def aJb:AV→Bool
 | .sc u=>u.oneCell'
 | .agg cs=>cs.all kH
 | .list _ _=>true
 |_=>false
theorem aHa {w:World} {d:AV} {v:Value} {S:List Nat} (r:RepD w d v S) (ok:kH d=true):v.oneCell'=true:=by
 cases d <;> simp only [kH,eD] at ok <;> simp only [RepD] at r
 ·rw [r.1];exact ok
 ·obtain ⟨a,c,rfl,_⟩:=r;rfl
theorem aGC {w:World} : ∀ {cs:List AV} {us:List Value} {S:List Nat} {K:List AV→Prop},RepVs w cs us S→cs.all kH=true→aBp w cs K→ ∃ xs,K xs∧ ∀ (w':World) (h:Hp) (u:Us) (ν:Nu),All2 (Rep1 w' h u ν) xs us
 | [],us,S,K,r,_,k=>by simp only [RepVs] at r;obtain ⟨rfl,_⟩:=r;exact ⟨[],k,λ_ _ _ _=>rfl⟩
 |c::cs,us,S,K,r,ok,k=>by
  simp only [RepVs] at r;obtain ⟨v,q,S1,S2,rfl,rfl,h3,h4⟩:=r;simp only [List.all_cons,cD] at ok
  have key: ∀ x,aBp w cs (λxs=>K (x::xs))→x= .sc v→ ∃ xs,K xs∧ ∀ (w':World) (h:Hp) (u:Us) (ν:Nu),All2 (Rep1 w' h u ν) xs (v::q):=by
   rintro x k1 rfl;obtain ⟨xs,g1,g2⟩:=aGC h4 ok.2 k1;exact ⟨.sc v::xs,g1,λw' h u ν=>⟨v,q,rfl,⟨rfl,aHa h3 ok.1⟩,g2 w' h u ν⟩⟩
  cases c <;> simp only [kH,eD,false_and] at ok
  ·simp only [RepD] at h3;exact key _ k (by rw [h3.1])
  ·exact key _ (k v S1 h3) rfl
theorem aBq {w:World} : ∀ {ds:List AV} {vs:List Value} {S:List Nat} {K:List AV→Prop},RepVs w ds vs S→ds.all aJb=true→qR w ds K→ ∃ xs,K xs∧xs.length=ds.length∧ ∀ (h:Hp) (u:Us) (ν:Nu),All2 (RepA w h u ν) xs vs
 | [],vs,S,K,r,_,k=>by simp only [RepVs] at r;obtain ⟨rfl,_⟩:=r;exact ⟨[],k,rfl,λ_ _ _=>rfl⟩
 |d::ds,vs,S,K,r,ok,k=>by
  simp only [RepVs] at r;obtain ⟨v,q,S1,S2,rfl,rfl,h3,h4⟩:=r;simp only [List.all_cons,cD] at ok
  have key: ∀ x,qR w ds (λxs=>K (x::xs))→(∀ (h:Hp) (u:Us) (ν:Nu),RepA w h u ν x v)→ ∃ xs,K xs∧xs.length=(d::ds).length∧ ∀ (h:Hp) (u:Us) (ν:Nu),All2 (RepA w h u ν) xs (v::q):=by
   intro x k1 hx;obtain ⟨xs,g1,g2,g3⟩:=aBq h4 ok.2 k1;exact ⟨x::xs,g1,by simp [g2],λh u ν=>⟨v,q,rfl,hx h u ν,g3 h u ν⟩⟩
  cases d <;> simp only [aJb,eD,false_and] at ok
  ·simp only [RepD] at h3;exact key _ k λh u ν=>by simp only [RepA,RepB,Rep1];exact ⟨h3.1,h3.2.1⟩
  ·exact key _ (k v S1 h3) λh u ν=>(show Rep1 w h u ν (.sc v) v from ⟨rfl,aHa h3 rfl⟩)
  ·have h3':=h3;simp only [RepD] at h3';obtain ⟨us,rfl,h5⟩:=h3';obtain ⟨xs,g1,g2⟩:=aGC h5 ok.1 k;exact key _ g1 λh u ν=>by simp only [RepA,RepB];exact ⟨us,rfl,g2 w h u ν⟩
theorem aLs {P:Program} {T:List (Nat×Ty)} (hT:TyOk P T) {f:FuncId} {fn:Func} {c:Code} {nt:Nat} {ds:List AV} {r:AV} {rvs:List ResultVar} {ns:List Nat} (hf:P.funcs[f]? =some fn) (hb:fn.body=some c) (hname:(fn.name== "runtime.NumGoroutine")=false) (hnt:fn.ntmps=nt) (hres:fn.results.toList=rvs)
  (hlen:Nat.ble ds.length nt=true) (hok:ds.all aJb=true) (h: ∀ W:World,qR W ds λxs=>AC P nt c ⟨aAZ xs,oP [],ltb 0,ns,⟨0,true,fxW W,true⟩⟩ (qE T rvs r)):HasC P f ds r:=by
 refine ⟨Enters.mk hf (by rw [hb];rfl) hname,λw args S hargs=>?_⟩;refine (callsIn_wide (n:=0)).1 (callsIn_of_wp_marks (F:=fw none) hf hb trivial ?_);have hlen':=Nat.le_of_ble_eq_true hlen;have hal:args.size=ds.length:=by have:=hargs.len;simpa using this
 obtain ⟨xs,hac,hxl,hxr⟩:=aBq hargs hok (h w);let C:Ctx:=⟨w.heap.size,w,nt,λx=>w.heap.size≤x,λ_ h=>h,⟨0,true,fxW w,true⟩,w,oP [],Nu.none,λx=>x<w.heap.size,λ_ x hx hm=>absurd hx (Nat.not_lt.2 hm),(λp h=>by cases h;exact ⟨rfl,λx hx=>⟨hx,hx⟩⟩),none,λ_=>rfl⟩;have hfr: ∀ x,yE (oP []) Nu.none x:=λx b blk β c hb=>by cases hb
 have hsim:Sim C ⟨aAZ xs,oP [],ltb 0,ns,⟨0,true,fxW w,true⟩⟩ Nu.none ⟨args++Array.replicate (fn.ntmps - args.size) undef,[]⟩ w:=by
  refine ⟨Below.refl _ _,bC _,λ_ hx=>hx,aAm,by show (args++Array.replicate (fn.ntmps - args.size) undef).size=nt;simp [hnt];omega,?_,⟨λ_=>[],λb blk hb=>(by cases hb),λb c x hb=>absurd rfl hb⟩,rfl,ExtF.refl λx _ _=>hfr x,bC _,λ_ _=>trivial,λ_ _ _ _=>trivial⟩;intro t x hx;have hx':xs[t]? =some x:=by rw [←aBE];exact hx
  obtain ⟨v,h1,h2⟩:=(hxr (oP []) (ltb 0) Nu.none).get hx';refine ⟨v,?_,h2⟩
  have hlt:t<args.size:=by
   rcases cX t args.size with h'|h'
   ·exact h'
   ·rw [iM (by simpa using h')] at h1;cases h1
  show (args++Array.replicate (fn.ntmps - args.size) undef)[t]? =some v;rw [Array.getElem?_append_left hlt];simpa using h1
 refine wpIn_mono (hac.out C rfl _ _ w hsim 0) λe a' w0 ⟨s',ν',hq,hs0⟩=>?_;obtain ⟨Ds,d1,d2,d3⟩:=hs0.defers;obtain ⟨w',hs',hleave⟩:=hs0.leave (P:=P) (n:=0) d1 d2 d3;obtain ⟨he,avs,hv,hn,hfz⟩:=hq;obtain ⟨us,h1,h2⟩:=sJ hT hs' hv;obtain ⟨φ,hh⟩:=hs'.heap;have hn':=tZ hn
 have hrun:(results fn a'.tmps).run P w'= .ok (if hh:us.toArray.size=1 then us.toArray[0] else .tuple us.toArray) w':=by
  unfold results;rw [Sem.run_bind,Array.mapM_eq_mapM_toList,Sem.run_map,hres];have h1':=h1;generalize hq:(List.mapM _ rvs:Sem (List Value))=m;rw [show Sem.run P m w'= .ok us w' by rw [←hq];exact h1'];simp
 have hres2: ∃ S',aCP w' r (if hh:us.toArray.size=1 then us.toArray[0] else .tuple us.toArray) S'∧New w.heap.size S':=by
  have hul:us.length=avs.length:=h2.len;unfold aDO at hfz;split at hfz
  ·rename_i v r';obtain ⟨u,q,rfl,g1,g2⟩:=h2;simp only [All2] at g2;subst g2;simp only [List.flatMap_cons,List.flatMap_nil,List.append_nil] at hn';obtain ⟨S',a1,a2,a3,a4⟩:=aAy hh g1 hfz.1 hn';refine ⟨S',?_,a2,a3⟩;simp only [List.size_toArray,List.length_cons,List.length_nil,Nat.zero_add,dite_true];have hnt:=hfz.2;cases r <;> first|exact a1|exact absurd rfl (hnt _)
  ·rename_i vs rs _;obtain ⟨S',a1,a2,a3,a4⟩:=zO hh h2 hfz.2 hn';refine ⟨S',?_,a2,a3⟩;rw [dif_neg (by simp;rw [hul];exact hfz.1)];exact ⟨us,rfl,a1⟩
  ·exact hfz.elim
 obtain ⟨S',hr1,hr2⟩:=hres2;have hend:=hleave fn (λe w'=> ∃ v S',e= .returned v∧Below w.heap.size w w'∧aCP w' r v S'∧New w.heap.size S') ⟨_,hrun,_,S',rfl,hs'.below,hr1,hr2⟩;cases e <;> simp only [aAz,eD] at he <;> exact hend
def dfE:List (Nat×AV)→Prop
 | []=>True
 |(_,x)::r=>dfA x=true∧dfE r
theorem aLt: ∀ {l:List (Nat×AV)},dfE l→ ∀ t x,aKL l t=some x→dfA x=true
 | [],_,t,x,h=>by cases h
 |(k,v)::r,⟨h1,h2⟩,t,x,h=>by
  simp only [aKL] at h;cases hb:Nat.beq t k with
  |true=>rw [hb] at h;cases h;exact h1
  |false=>rw [hb] at h;exact aLt h2 t x h
def dfR (y:Blk):Prop:= ∀ cs∈y.es,∀ c∈cs,dfC c=true
def dfH (skip:List Nat):List (Nat×Blk)→Prop
 | []=>True
 |(b,y)::r=>(b∈skip∨dfR y)∧dfH skip r
theorem aLu {skip:List Nat} : ∀ {l:List (Nat×Blk)},dfH skip l→ ∀ b blk,oP l b=some blk→b ∉ skip→ ∀ cs∈blk.es,∀ c∈cs,dfC c=true
 | [],_,b,x,h=>by cases h
 |(k,v)::r,⟨h1,h2⟩,b,x,h=>by
  simp only [oP] at h;by_cases e:b=k
  ·subst e;rw [bO] at h;cases h;intro hn;exact h1.elim (λh=>absurd h hn) id
  ·rw [bU e] at h;exact aLu h2 b x h
theorem EOk.df {α:Type} {k:Nat} {e:α→List AV} (E:EOk k e) (k':Nat) (l:List α):dfR ⟨k',l.map (ow e)⟩:=by
 intro cs hcs c hc;obtain ⟨x,_,rfl⟩:=List.mem_map.1 hcs;obtain ⟨d,hd,rfl⟩:=List.mem_map.1 hc;have:=E.mem x d hd;cases d <;> simp only [kH,eD] at this <;> rfl
theorem EOk.dfS {α:Type} {k:Nat} {e:α→List AV} (E:EOk k e) (k':Nat) (l:List α) (i:Nat) {c:List AV} (h:c.all dfC=true):dfR ⟨k',(l.map (ow e)).set i c⟩:=by
 intro cs hcs d hd;rcases List.mem_or_eq_of_mem_set hcs with h1|rfl
 ·exact E.df k' l cs h1 d hd
 ·exact List.all_eq_true.1 h d hd
theorem aLv {k:Nat} {es:List (List AV)} (h:(es.all λcs=>cs.all dfC)=true):dfR ⟨k,es⟩:=λcs hcs c hc=>List.all_eq_true.1 (List.all_eq_true.1 h cs hcs) c hc
theorem aLw {α:Type} {e:α→List AV} {l:List α} {i:Nat} {v:α} (h:l[i]? =some v):l.map (ow e)=(l.map (ow e)).set i (ow e v):=by
 rw [←List.map_set];congr 1;refine List.ext_getElem? λj=>?_;rw [List.getElem?_set];by_cases e:i=j
 ·subst e
  have:i<l.length:=by
   rcases cX i l.length with h'|h'
   ·exact h'
   ·rw [iM h'] at h;cases h
  rw [aQ rfl,aQ this,h]
 ·rw [aR e]
theorem aKe {α:Type} {k:Nat} {e:α→List AV} (E:EOk k e) {l:List α} {i:Nat} {c:List AV} (h:c.all oC=true):zH ((l.map (ow e)).set i c):=by
 intro cs hcs d hd;rcases List.mem_or_eq_of_mem_set hcs with h1|rfl
 ·exact E.plainO l cs h1 d hd
 ·exact List.all_eq_true.1 h d hd
theorem aKf {s:AState} {b c i j k k' n:Nat} {A es' fs:List (List AV)} {cs:List AV} (hi:i<A.length) (hT:s.kp.T=true) (hb:s.heap b=some ⟨k,A.set i cs⟩) (hj:cs[j]? =some (.abs k' es')) (hc:s.used c=false) (hn:es'.length=n) (hfs:cK es'=fs) (hdf: ∀ t x,s.env t=some x→dfA x=true) (hdc: ∀ b blk,s.heap b=some blk→b ∉ ([]:List Nat)→ ∀ cs∈blk.es,∀ c∈cs,dfC c=true):
  Ent s ⟨s.env,bG [(c,some ⟨k',fs⟩),(b,some ⟨k,A.set i (yI cs j [.own c 0 n])⟩)] s.heap,fX [c] s.used,s.ns,s.kp⟩:=by
 subst hn hfs
 have hjl:j<cs.length:=by
  rcases cX j cs.length with h'|h'
  ·exact h'
  ·rw [iM h'] at hj;cases hj
 have h:=aLq (c:=c) hT hb (i:=i) (cs:=cs) (by simp [hi]) hj hc hdf (λb blk hb=>hdc b blk hb (by simp));have e:=aBA (cs:=cs) (j:=j) (vs:=[.own c 0 es'.length]) (by simp;omega);simp only [List.length_singleton] at e;rw [e] at h;simp only [List.set_set] at h;exact h
end
noncomputable section
theorem k {α:Sort _} {a:α} :a=a:=rfl
section
variable {P:Program} {ops:Array Oper} {nt:Nat} {r:List Oper} {s:AState} {tr:List Tr} {K:List Tr→AState→Prop} {K':AState→Prop}
def opB (ops:Array Oper) (nt:Nat) (s:AState) (o:Oper) (news:List Nat):Bool:=aDI o nt&&((match jU ops s.env o with|some true=>true|_=>false)&&news.all λb=> !s.used b)
theorem aBr {o:Oper} {news:List Nat} (h:opB ops nt s o news=true):aDI o nt=true∧jU ops s.env o=some true∧(news.all λb=> !s.used b)=true:=by
 simp only [opB,cD] at h;obtain ⟨h1,h2,h3⟩:=h;refine ⟨h1,?_,h3⟩;split at h2
 ·assumption
 ·cases h2
theorem ae {d:Option Tmp} {op:Op} {ty:TypeId} {pos:String} {aft:Array Edge} {g:Option (Nat×Bool)} {e:Eff} (he:AEff P ⟨d,op,ty,pos,aft,g⟩ s.ev s.heap s.kp e) (hb:opB ops nt s ⟨d,op,ty,pos,aft,g⟩ e.news=true) (h:AOps P ops nt r (s.app d e) (vU e::tr) K):AOps P ops nt (⟨d,op,ty,pos,aft,g⟩::r) s tr K:=
 gN he (aBr hb).1 (aBr hb).2.1 (aBr hb).2.2 h
theorem se {d:Option Tmp} {op:Op} {ty:TypeId} {pos:String} {aft:Array Edge} {g:Option (Nat×Bool)} {e:Eff} (he:AEff P ⟨d,op,ty,pos,aft,g⟩ s.ev s.heap s.kp e) (hb:opB ops nt s ⟨d,op,ty,pos,aft,g⟩ e.news=true) (h:SOps P ops nt r (s.app d e) K'):SOps P ops nt (⟨d,op,ty,pos,aft,g⟩::r) s K':=
 aHW he (aBr hb).1 (aBr hb).2.1 (aBr hb).2.2 h
theorem am {d:Option Tmp} {ty:TypeId} {pos:String} {aft:Array Edge} {g:Option (Nat×Bool)} {x:Operand} {v:AV} (hx:s.ev x=some v) (hb:opB ops nt s ⟨d,.move x,ty,pos,aft,g⟩ []=true) (h:AOps P ops nt r (s.app d ⟨v,[],[],[]⟩) (vU ⟨v,[],[],[]⟩::tr) K):AOps P ops nt (⟨d,.move x,ty,pos,aft,g⟩::r) s tr K:=ae (aAn hx) hb h
theorem aa {d:Option Tmp} {ty:TypeId} {pos:String} {aft:Array Edge} {g:Option (Nat×Bool)} {x:Operand} {v:AV} (hx:s.ev x=some v) (hb:opB ops nt s ⟨d,.assign x,ty,pos,aft,g⟩ []=true) (h:AOps P ops nt r (s.app d ⟨v,[],[],[]⟩) (vU ⟨v,[],[],[]⟩::tr) K):AOps P ops nt (⟨d,.assign x,ty,pos,aft,g⟩::r) s tr K:=ae (wQ hx) hb h
theorem an (h:K tr s):AOps P ops nt [] s tr K:=aDH h
theorem sn (h:K' s):SOps P ops nt [] s K':=aLp h
variable {Q:Exit→AState→Prop}
theorem sQ {x y:Code} (h:AC P nt x s (uS (λs'=>AC P nt y s' Q) Q)):AC P nt (.seq x y) s Q:=aIQ h
theorem rg {id:Nat} {l:List Oper} (h:AOps P l.toArray nt l s [] (λ_ s'=>Q .normal s')):AC P nt (.region id l.toArray false) s Q:=aBf h
theorem rgS {id:Nat} {l:List Oper} (h:SOps P l.toArray nt l s (Q .normal)):AC P nt (.region id l.toArray false) s Q:=aIi h
theorem tn (h:K' s):uS K' Q .normal s:=h
end
theorem ak {P:Program} {ops:Array Oper} {nt:Nat} {r:List Oper} {s:AState} {tr:List Tr} {K:List Tr→AState→Prop} {d:Option Tmp} {op:Op} {ty:TypeId} {pos:String} {aft:Array Edge} {g:Option (Nat×Bool)} (hg:jU ops s.env ⟨d,op,ty,pos,aft,g⟩=some false) (hd:aDI ⟨d,op,ty,pos,aft,g⟩ nt=true) (h:AOps P ops nt r ⟨upd d (.tuple []) s.env,s.heap,s.used,s.ns,s.kp⟩ (⟨[],[]⟩::tr) K):AOps P ops nt (⟨d,op,ty,pos,aft,g⟩::r) s tr K:=aKK hg hd h
section
variable {σ:Nat→Option Nat} {n b b0 k:Nat} {h:Hp} {r:List (Nat×Blk)}
theorem hB {y:Blk} (hp:zH y.es) (hs:σ b=some b0) (hb:h b0=some y) (hn:Nat.blt b n=true) (hr:rI σ n h r):rI σ n h ((b,y)::r):=by
 simp only [rI];rw [hs];exact ⟨⟨y,hb,rfl,.inl ⟨rfl,hp⟩⟩,hn,hr⟩
theorem hX {y:Blk} (hm:match σ b with|some b0=> ∃ x,h b0=some x∧aAW σ n x y|none=>y.es=[]) (hn:Nat.blt b n=true) (hr:rI σ n h r):rI σ n h ((b,y)::r):=⟨hm,hn,hr⟩
end
theorem aPG {P:Program} {T:List (Nat×Ty)} (hT:TyOk P T) {dst:Option Tmp} {pos:String} {aft:Array Edge} {g:Option (Nat×Bool)} {s:AState} {x:Operand} {t e k:Nat} {y:Ty} {dty:TypeId} {α:Type} {f:α→List AV} {l:List α} (hx:s.ev x=some (.list k (List.map f l))) (hy:cE T t=some y) (hd:y.desc= .slice e):
  AEff P ⟨dst,.call ⟨.builtin .len,#[x],#[t]⟩,dty,pos,aft,g⟩ s.ev s.heap s.kp ⟨.int l.length,[],[],[]⟩:=AEff.val (aIV hT hx hy hd) (by rw [dM])
theorem lA {α:Type} {a b:List α} :(a++b).length=a.length+b.length:=List.length_append
theorem lT {α:Type} {a:List α} {i:Nat} {x:α} :(a.set i x).length=a.length:=List.length_set
theorem lR {α:Type} {n:Nat} {x:α} :(List.replicate n x).length=n:=List.length_replicate
theorem lC {α:Type} {a:α} {b:List α} :(a::b).length=b.length+1:=List.length_cons
theorem lN {α:Type} :([]:List α).length=0:=List.length_nil
theorem aLx:([]:List AV).all vW=true:=rfl
theorem aCu {d:AV} {ds:List AV} (h1:vW d=true) (h2:ds.all vW=true):(d::ds).all vW=true:=by
 rw [List.all_cons,h1,h2];rfl
end
noncomputable section
theorem k2 {αa:Sort _} {a:αa} {αb:Sort _} {b:αb} :a=a∧b=b:=⟨rfl,rfl⟩
theorem k3 {αa:Sort _} {a:αa} {αb:Sort _} {b:αb} {αc:Sort _} {c:αc} :a=a∧b=b∧c=c:=⟨rfl,rfl,rfl⟩
theorem k4 {αa:Sort _} {a:αa} {αb:Sort _} {b:αb} {αc:Sort _} {c:αc} {αd:Sort _} {d:αd} :a=a∧b=b∧c=c∧d=d:=⟨rfl,rfl,rfl,rfl⟩
theorem k7 {αa:Sort _} {a:αa} {αb:Sort _} {b:αb} {αc:Sort _} {c:αc} {αd:Sort _} {d:αd} {αe:Sort _} {e:αe} {αf:Sort _} {f:αf} {αg:Sort _} {g:αg} :a=a∧b=b∧c=c∧d=d∧e=e∧f=f∧g=g:=⟨rfl,rfl,rfl,rfl,rfl,rfl,rfl⟩
theorem k8 {αa:Sort _} {a:αa} {αb:Sort _} {b:αb} {αc:Sort _} {c:αc} {αd:Sort _} {d:αd} {αe:Sort _} {e:αe} {αf:Sort _} {f:αf} {αg:Sort _} {g:αg} {αh:Sort _} {h:αh} :a=a∧b=b∧c=c∧d=d∧e=e∧f=f∧g=g∧h=h:=⟨rfl,rfl,rfl,rfl,rfl,rfl,rfl,rfl⟩
section
variable {ops:Array Oper} {nt:Nat} {r:List Oper} {s:AState} {tr:List Tr} {K:List Tr→AState→Prop} {K':AState→Prop} {d:Option Tmp} {ty:TypeId} {pos:String} {aft:Array Edge} {g:Option (Nat×Bool)}
theorem lp {x:Operand} {t:Nat} {y:Ty} {b i j:Nat} {blk:Blk} {cs:List AV} {v:AV} (h:s.ev x=some (.ptr b i j)∧s.heap b=some blk∧cE TT t=some y∧(y.desc.isAgg||Nat.beq y.size 1)=true∧blk.es[i]? =some cs∧Nat.ble (j+y.size) cs.length=true∧sZ y.desc.isAgg (((cs.drop j).take y.size).map vE)=v∧opB ops nt s ⟨d,.load t x,ty,pos,aft,g⟩ []=true) (g2:AOps Tryz.prog ops nt r (s.app d ⟨v,[b],[],[]⟩) (vU ⟨v,[b],[],[]⟩::tr) K):AOps Tryz.prog ops nt (⟨d,.load t x,ty,pos,aft,g⟩::r) s tr K:=by
 obtain ⟨h0,h1,h2,h3,h4,h5,h6,h7⟩:=h;exact ae (dI aS h0 h1 h2 h3 h4 h5 h6) h7 g2
theorem fp {x:Operand} {st f off ft:Nat} {b i j:Nat} {blk:Blk} {y yf:Ty} {fs:List (Nat×Nat)} (h:s.ev x=some (.ptr b i j)∧s.heap b=some blk∧cE TT st=some y∧y.desc= .struct fs∧fs[f]? =some (off,ft)∧cE TT ft=some yf∧Nat.beq yf.size 0=false∧opB ops nt s ⟨d,.fieldAddr st x f,ty,pos,aft,g⟩ []=true) (g2:AOps Tryz.prog ops nt r (s.app d ⟨.ptr b i (j+off),[b],[],[]⟩) (vU ⟨.ptr b i (j+off),[b],[],[]⟩::tr) K):AOps Tryz.prog ops nt (⟨d,.fieldAddr st x f,ty,pos,aft,g⟩::r) s tr K:=by
 obtain ⟨h0,h1,h2,h3,h4,h5,h6,h7⟩:=h;exact ae (uT aS h0 h1 h2 h3 h4 h5 h6) h7 g2
theorem lr {x:Operand} {t:Nat} {y:Ty} {cs:List AV} {v:AV} (h:s.ev x=some (.ref cs)∧cE TT t=some y∧(y.desc.isAgg||Nat.beq y.size 1)=true∧Nat.ble y.size cs.length=true∧(cs.take y.size).all cY=true∧sZ y.desc.isAgg (cs.take y.size)=v∧opB ops nt s ⟨d,.load t x,ty,pos,aft,g⟩ []=true) (g2:AOps Tryz.prog ops nt r (s.app d ⟨v,[],[],[]⟩) (vU ⟨v,[],[],[]⟩::tr) K):AOps Tryz.prog ops nt (⟨d,.load t x,ty,pos,aft,g⟩::r) s tr K:=by
 obtain ⟨h0,h1,h2,h3,h4,h5,h6⟩:=h;exact ae (aIU aS h0 h1 h2 h3 h4 h5) h6 g2
theorem cm {op:BinOp} {t t':TypeId} {x y:Operand} {q:IntKind} {a b:Int} {c:Bool} (h:s.ev x=some (.sc (.int q a))∧s.ev y=some (.sc (.int q b))∧aMo op a b=some c∧opB ops nt s ⟨d,.binOp op t x y t',ty,pos,aft,g⟩ []=true) (g2:AOps Tryz.prog ops nt r (s.app d ⟨.bl c,[],[],[]⟩) (vU ⟨.bl c,[],[],[]⟩::tr) K):AOps Tryz.prog ops nt (⟨d,.binOp op t x y t',ty,pos,aft,g⟩::r) s tr K:=by
 obtain ⟨h0,h1,h2,h3⟩:=h;exact ae (aNW h0 h1 h2) h3 g2
theorem pk {c x y:Operand} {t:Bool} {v:AV} (h:s.ev c=some (.sc (.bool t))∧s.ev (if t then x else y)=some v∧opB ops nt s ⟨d,.pick c x y,ty,pos,aft,g⟩ []=true) (g2:AOps Tryz.prog ops nt r (s.app d ⟨v,[],[],[]⟩) (vU ⟨v,[],[],[]⟩::tr) K):AOps Tryz.prog ops nt (⟨d,.pick c x y,ty,pos,aft,g⟩::r) s tr K:=by
 obtain ⟨h0,h1,h2⟩:=h;exact ae (aLI h0 h1) h2 g2
theorem ln {x:Operand} {t e q:Nat} {y:Ty} {α:Type} {f:α→List AV} {l:List α} (h:s.ev x=some (.list q (List.map f l))∧cE TT t=some y∧y.desc= .slice e∧opB ops nt s ⟨d,.call ⟨.builtin .len,#[x],#[t]⟩,ty,pos,aft,g⟩ []=true) (g2:AOps Tryz.prog ops nt r (s.app d ⟨.int l.length,[],[],[]⟩) (vU ⟨.int l.length,[],[],[]⟩::tr) K):AOps Tryz.prog ops nt (⟨d,.call ⟨.builtin .len,#[x],#[t]⟩,ty,pos,aft,g⟩::r) s tr K:=by
 obtain ⟨h0,h1,h2,h3⟩:=h;exact ae (aPG aS h0 h1 h2) h3 g2
theorem lpS {x:Operand} {t:Nat} {y:Ty} {b i j:Nat} {blk:Blk} {cs:List AV} {v:AV} (h:s.ev x=some (.ptr b i j)∧s.heap b=some blk∧cE TT t=some y∧(y.desc.isAgg||Nat.beq y.size 1)=true∧blk.es[i]? =some cs∧Nat.ble (j+y.size) cs.length=true∧sZ y.desc.isAgg (((cs.drop j).take y.size).map vE)=v∧opB ops nt s ⟨d,.load t x,ty,pos,aft,g⟩ []=true) (g2:SOps Tryz.prog ops nt r (s.app d ⟨v,[b],[],[]⟩) K'):SOps Tryz.prog ops nt (⟨d,.load t x,ty,pos,aft,g⟩::r) s K':=by
 obtain ⟨h0,h1,h2,h3,h4,h5,h6,h7⟩:=h;exact se (dI aS h0 h1 h2 h3 h4 h5 h6) h7 g2
theorem cmS {op:BinOp} {t t':TypeId} {x y:Operand} {q:IntKind} {a b:Int} {c:Bool} (h:s.ev x=some (.sc (.int q a))∧s.ev y=some (.sc (.int q b))∧aMo op a b=some c∧opB ops nt s ⟨d,.binOp op t x y t',ty,pos,aft,g⟩ []=true) (g2:SOps Tryz.prog ops nt r (s.app d ⟨.bl c,[],[],[]⟩) K'):SOps Tryz.prog ops nt (⟨d,.binOp op t x y t',ty,pos,aft,g⟩::r) s K':=by
 obtain ⟨h0,h1,h2,h3⟩:=h;exact se (aNW h0 h1 h2) h3 g2
theorem saS {x:Operand} {v:AV} (h:s.ev x=some v∧opB ops nt s ⟨d,.assign x,ty,pos,aft,g⟩ []=true) (g2:SOps Tryz.prog ops nt r (s.app d ⟨v,[],[],[]⟩) K'):SOps Tryz.prog ops nt (⟨d,.assign x,ty,pos,aft,g⟩::r) s K':=by
 obtain ⟨h0,h1⟩:=h;exact se (wQ h0) h1 g2
theorem smS {x:Operand} {v:AV} (h:s.ev x=some v∧opB ops nt s ⟨d,.move x,ty,pos,aft,g⟩ []=true) (g2:SOps Tryz.prog ops nt r (s.app d ⟨v,[],[],[]⟩) K'):SOps Tryz.prog ops nt (⟨d,.move x,ty,pos,aft,g⟩::r) s K':=by
 obtain ⟨h0,h1⟩:=h;exact se (aAn h0) h1 g2
theorem aY:True:=trivial
theorem aT {x:Operand} {v:AV} {Q:Exit→AState→Prop} {T:AState→Prop} (h:s.ev x=some v∧opB ops nt s ⟨d,.assign x,ty,pos,aft,g⟩ []=true) (g2:T (s.app d ⟨v,[],[],[]⟩)):AOps Tryz.prog ops nt [⟨d,.assign x,ty,pos,aft,g⟩] s tr (λ_ s'=>uS T Q .normal s'):=aa h.1 h.2 (an (tn g2))
theorem aK {o1 o2:Oper} (h:(jU ops s.env o1=some false∧aDI o1 nt=true∧jU ops (upd o1.dst (.tuple []) s.env) o2=some false∧aDI o2 nt=true)) (g2:AOps Tryz.prog ops nt r ⟨upd o2.dst (.tuple []) (upd o1.dst (.tuple []) s.env),s.heap,s.used,s.ns,s.kp⟩ (⟨[],[]⟩::⟨[],[]⟩::tr) K):AOps Tryz.prog ops nt (o1::o2::r) s tr K:=ak h.1 h.2.1 (ak h.2.2.1 h.2.2.2 g2)
theorem sR {id:Nat} {l:List Oper} {y:Code} {Q:Exit→AState→Prop} (h:AOps Tryz.prog l.toArray nt l s [] (λ_ s'=>uS (λs'=>AC Tryz.prog nt y s' Q) Q .normal s')):AC Tryz.prog nt (.seq (.region id l.toArray false) y) s Q:=sQ (rg h)
theorem sS {id:Nat} {l:List Oper} {y:Code} {Q:Exit→AState→Prop} (h:SOps Tryz.prog l.toArray nt l s (uS (λs'=>AC Tryz.prog nt y s' Q) Q .normal)):AC Tryz.prog nt (.seq (.region id l.toArray false) y) s Q:=sQ (rgS h)
end
end
noncomputable section
theorem oB {α β:Type} {o:Option α} {k:α→Option β} {r:β} {p:Prop} (h:o.bind k=some r) (f: ∀ a,o=some a→k a=some r→p):p:=by
 obtain ⟨a,h1,h2⟩:=ob h;exact f a h1 h2
theorem cN {h:Hp} {cs:List AV} (hp:cs.all cY=true):viewA h (.agg cs) (.agg cs):=aFu (aHH hp)
theorem fB {T:List (Nat×Ty)} {rvs:List ResultVar} {e:Exit} {s:AState} {u v:Bool} (h:some u=some v) (p:tM T s rvs=some [.bl u]∧aAz e=true):qE T rvs (.bl v) e s:=by
 cases h;exact bD p.2 p.1 rfl (nX rfl)
theorem oV {T:List (Nat×Ty)} {rvs:List ResultVar} {e:Exit} {s:AState} {u v:Int} (h:some u=some v) (p:tM T s rvs=some [.int u]∧aAz e=true):qE T rvs (.int v) e s:=by
 cases h;exact bD p.2 p.1 rfl (aBi rfl)
theorem cL {d:Option Tmp} {ty:TypeId} {pos:String} {aft:Array Edge} {g:Option (Nat×Bool)} {s:AState} {f:FuncId} {xs:Array Operand} {ats:Array TypeId} {avs ds:List AV} {ns':List Nat} {α:Type} {e:α→List AV} {q b:Nat} {l:List α} (ok:EOk q e) (hc:HasC Tryz.prog f ds (.list q (List.map e l))) (h:evs s.ev xs.toList=some avs∧s.ns=b::ns'∧rO s.ns=true) (hv:All2 (viewA s.heap) avs ds):AEff Tryz.prog ⟨d,.call ⟨.value (.func f),xs,ats⟩,ty,pos,aft,g⟩ s.ev s.heap s.kp ⟨.own b 0 l.length,avs.flatMap (kU s.heap)++[].flatMap (nZ s.heap),[(b,some ⟨q,List.map (ow e) l⟩)],[b]⟩:=
 AEff.conv (qJ (x:= .own b 0 (List.map e l).length) (nb:=[(b,⟨q,cK (List.map e l)⟩)]) hc h.1 (by rw [h.2.1];rfl) rfl h.2.2 (ok.good _) hv) (by simp only [aW]) (wB (nb':=[(b,⟨q,List.map (ow e) l⟩)]) (by simp only [mB]))
theorem cLK {d:Option Tmp} {ty:TypeId} {pos:String} {aft:Array Edge} {g:Option (Nat×Bool)} {s:AState} {f:FuncId} {xs:Array Operand} {ats:Array TypeId} {avs ds:List AV} {ns':List Nat} {α:Type} {e:α→List AV} {q b:Nat} {l:List α} (ok:EOk q e) (hc:HasC Tryz.prog f ds (.list q (List.map e l))) (h:evs s.ev xs.toList=some avs∧s.ns=b::ns'∧rO s.ns=true) (hv:All2 (qQ s.kp s.heap) avs ds):AEff Tryz.prog ⟨d,.call ⟨.value (.func f),xs,ats⟩,ty,pos,aft,g⟩ s.ev s.heap s.kp ⟨.own b 0 l.length,avs.flatMap (kU s.heap),[(b,some ⟨q,List.map (ow e) l⟩)],[b]⟩:=
 AEff.conv (aHZ (x:= .own b 0 (List.map e l).length) (nb:=[(b,⟨q,cK (List.map e l)⟩)]) hc h.1 (by rw [h.2.1];rfl) rfl h.2.2 (ok.good _) hv) (by simp only [aW]) (wB (nb':=[(b,⟨q,List.map (ow e) l⟩)]) (by simp only [mB]))
theorem cM {d:Option Tmp} {ty:TypeId} {pos:String} {aft:Array Edge} {g:Option (Nat×Bool)} {s:AState} {f:FuncId} {xs:Array Operand} {ats:Array TypeId} {avs ds:List AV} {ns':List Nat} {b:Nat} {v:Mt} (hc:HasC Tryz.prog f ds (.agg (eM v))) (h:evs s.ev xs.toList=some avs∧s.ns=b::ns'∧rO s.ns=true) (hv:All2 (viewA s.heap) avs ds):AEff Tryz.prog ⟨d,.call ⟨.value (.func f),xs,ats⟩,ty,pos,aft,g⟩ s.ev s.heap s.kp ⟨.agg [.int v.rows,.int v.cols,.own b 0 v.cells.length],avs.flatMap (kU s.heap)++[].flatMap (nZ s.heap),[(b,some ⟨1,List.map (ow eI) v.cells⟩)],[b]⟩:=
 AEff.conv (qJ (x:= .agg [.int v.rows,.int v.cols,.own b 0 (List.map eI v.cells).length]) (nb:=[(b,⟨1,cK (List.map eI v.cells)⟩)]) hc h.1 (by rw [h.2.1];rfl) rfl h.2.2 (cZ trivial (cZ trivial (cZ (dY.good _) xC))) hv) (by simp only [aW]) (wB (nb':=[(b,⟨1,List.map (ow eI) v.cells⟩)]) (by simp only [mB]))
theorem cQ {d:Option Tmp} {ty:TypeId} {pos:String} {aft:Array Edge} {g:Option (Nat×Bool)} {s:AState} {f:FuncId} {xs:Array Operand} {ats:Array TypeId} {avs ds:List AV} {ns':List Nat} {b c:Nat} {v:Qv} (hc:HasC Tryz.prog f ds (.agg (eQ v))) (h:evs s.ev xs.toList=some avs∧s.ns=b::c::ns'∧rO s.ns=true) (hv:All2 (viewA s.heap) avs ds):AEff Tryz.prog ⟨d,.call ⟨.value (.func f),xs,ats⟩,ty,pos,aft,g⟩ s.ev s.heap s.kp ⟨.agg [.int v.n,.own b 0 v.src.length,.own c 0 v.tgt.length],avs.flatMap (kU s.heap)++[].flatMap (nZ s.heap),[(b,some ⟨1,List.map (ow eI) v.src⟩),(c,some ⟨1,List.map (ow eI) v.tgt⟩)],[b,c]⟩:=
 AEff.conv (qJ (x:= .agg [.int v.n,.own b 0 (List.map eI v.src).length,.own c 0 (List.map eI v.tgt).length]) (nb:=[(b,⟨1,cK (List.map eI v.src)⟩),(c,⟨1,cK (List.map eI v.tgt)⟩)]) hc h.1 (by rw [h.2.1];rfl) rfl h.2.2 (cZ trivial (cZ (dY.good _) (cZ (dY.good _) xC))) hv) (by simp only [aW]) (wB (nb':=[(b,⟨1,List.map (ow eI) v.src⟩),(c,⟨1,List.map (ow eI) v.tgt⟩)]) (by simp only [mB]))
theorem cRK {d:Option Tmp} {ty:TypeId} {pos:String} {aft:Array Edge} {g:Option (Nat×Bool)} {s:AState} {f:FuncId} {xs:Array Operand} {ats:Array TypeId} {avs ds:List AV} {ns':List Nat} {b c b3 b4:Nat} {v:Rp} (hc:HasC Tryz.prog f ds (.agg (eR v))) (h:evs s.ev xs.toList=some avs∧s.ns=b::c::b3::b4::ns'∧rO s.ns=true) (hv:All2 (qQ s.kp s.heap) avs ds):AEff Tryz.prog ⟨d,.call ⟨.value (.func f),xs,ats⟩,ty,pos,aft,g⟩ s.ev s.heap s.kp ⟨.agg [.int v.p,.int v.q.n,.own b 0 v.q.src.length,.own c 0 v.q.tgt.length,.own b3 0 v.dims.length,.own b4 0 v.maps.length],avs.flatMap (kU s.heap),[(b,some ⟨1,List.map (ow eI) v.q.src⟩),(c,some ⟨1,List.map (ow eI) v.q.tgt⟩),(b3,some ⟨1,List.map (ow eI) v.dims⟩),(b4,some ⟨3,List.map (ow eM) v.maps⟩)],[b,c,b3,b4]⟩:=
 AEff.conv (aHZ (x:= .agg [.int v.p,.int v.q.n,.own b 0 (List.map eI v.q.src).length,.own c 0 (List.map eI v.q.tgt).length,.own b3 0 (List.map eI v.dims).length,.own b4 0 (List.map eM v.maps).length]) (nb:=[(b,⟨1,cK (List.map eI v.q.src)⟩),(c,⟨1,cK (List.map eI v.q.tgt)⟩),(b3,⟨1,cK (List.map eI v.dims)⟩),(b4,⟨3,cK (List.map eM v.maps)⟩)]) hc h.1 (by rw [h.2.1];rfl) rfl h.2.2 (cZ trivial (cZ trivial (cZ (dY.good _) (cZ (dY.good _) (cZ (dY.good _) (cZ (cJ.good _) xC)))))) hv) (by simp only [aW]) (wB (nb':=[(b,⟨1,List.map (ow eI) v.q.src⟩),(c,⟨1,List.map (ow eI) v.q.tgt⟩),(b3,⟨1,List.map (ow eI) v.dims⟩),(b4,⟨3,List.map (ow eM) v.maps⟩)]) (by simp only [mB]))
def re1 (σ:Nat→Option Nat):AV→AV
 | .own b i m=>match σ b with|some b0=> .own b0 i m|none=> .dead
 | .ptr b i j=>match σ b with|some b0=> .ptr b0 i j|none=> .dead
 |x=>x
def reA (σ:Nat→Option Nat):AV→AV
 | .agg cs=> .agg (cs.map (re1 σ))
 |x=>re1 σ x
def ok1 (σ:Nat→Option Nat) (n:Nat):AV→Bool
 | .own b _ _=>(σ b).isSome &&Nat.blt b n
 | .ptr b _ _=>(σ b).isSome &&Nat.blt b n
 | .sc _=>true
 | .nil _=>true
 | .list _ _=>true
 | .ref _=>true
 |_=>false
def okA (σ:Nat→Option Nat) (n:Nat):AV→Bool
 | .agg cs=>cs.all (ok1 σ n)
 |x=>ok1 σ n x
def aHc (e:Nat→Option AV):List (Nat×AV)→List (Option AV)
 | []=>[]
 |(t,_)::r=>e t::aHc e r
def aHd (σ:Nat→Option Nat):List (Nat×AV)→List (Option AV)
 | []=>[]
 |(_,y)::r=>some (reA σ y)::aHd σ r
theorem wD {σ:Nat→Option Nat} {n:Nat} {y:AV} (h:ok1 σ n y=true):dQ σ n (re1 σ y) y:=by
 cases y <;> simp only [ok1,eD] at h
 ·rfl
 ·trivial
 ·exact ⟨rfl,rfl⟩
 ·rfl
 all_goals
  rename_i b i j
  simp only [cD] at h
  obtain ⟨b0,hb⟩:=Option.isSome_iff_exists.1 h.1
  simp only [re1,hb]
  exact ⟨hb,rfl,rfl,h.2⟩
theorem aNb {σ:Nat→Option Nat} {n:Nat} : ∀ {cs:List AV},cs.all (ok1 σ n)=true→All2 (dQ σ n) (cs.map (re1 σ)) cs
 | [],_=>rfl
 |c::cs,h=>by
  simp only [List.all_cons,cD] at h;exact ⟨c,cs,rfl,wD h.1,aNb h.2⟩
theorem aOb {σ:Nat→Option Nat} {n:Nat} {y:AV} (h:okA σ n y=true):nY σ n (reA σ y) y:=by
 cases y with
 |agg cs=>exact aNb h
 |fn f cs=>simp [okA,ok1] at h
 |tuple cs=>simp [okA,ok1] at h
 |dead=>simp [okA,ok1] at h
 |abs q es=>simp [okA,ok1] at h
 |sc u=>exact wD (σ:=σ) (n:=n) (y:= .sc u) h
 |nil q=>exact wD (σ:=σ) (n:=n) (y:= .nil q) h
 |list q es=>exact wD (σ:=σ) (n:=n) (y:= .list q es) h
 |ref cs=>exact wD (σ:=σ) (n:=n) (y:= .ref cs) h
 |own b i m=>
  have:=wD (σ:=σ) (n:=n) (y:= .own b i m) h;simp only [reA];generalize re1 σ (.own b i m)=z at*;cases z <;> first|exact this|exact this.elim
 |ptr b i j=>
  have:=wD (σ:=σ) (n:=n) (y:= .ptr b i j) h;simp only [reA];generalize re1 σ (.ptr b i j)=z at*;cases z <;> first|exact this|exact this.elim
theorem aOc {σ:Nat→Option Nat} {n:Nat} {e:Nat→Option AV} : ∀ {tl:List (Nat×AV)},aHc e tl=aHd σ tl→(tl.all λp=>okA σ n p.2)=true→aAu σ n e tl
 | [],_,_=>trivial
 |(t,y)::r,h,q=>by
  simp only [aHc,aHd,List.cons.injEq] at h;simp only [List.all_cons,cD] at q;exact ⟨⟨_,h.1,aOb q.1⟩,aOc h.2 q.2⟩
theorem bH {σ:Nat→Option Nat} {n:Nat} {e:Nat→Option AV} {tl:List (Nat×AV)} (h:aHc e tl=aHd σ tl∧(tl.all λp=>okA σ n p.2)=true):aAu σ n e tl:=aOc h.1 h.2
end
noncomputable section
def nmA:List Nat:=[0,1,2,3,4,5,6,7,8,9,10,11,12,13,14,15,16,17,18,19]++[20,21,22,23,24,25,26,27,28,29,30,31,32,33,34,35,36,37,38,39]++([40,41,42,43,44,45,46,47,48,49,50,51,52,53,54,55,56,57,58,59]++([60,61,62,63,64,65,66,67,68,69,70,71,72,73,74,75,76,77,78,79]++[80,81,82,83,84,85,86,87,88,89,90,91,92,93,94,95,96,97,98,99]))
abbrev mN (e:List (Nat×AV)) (h:List (Nat×Blk)) (n:Nat) (kp:Kp:=0):AState:=mkS e h n (nmA.drop n) kp
def iSg:List (Nat×Blk)→Nat→Option Nat
 | [],_=>none
 |(q,_)::r,t=>bif Nat.beq t q then some t else iSg r t
def zSg:List (Nat×Blk)→List Nat→Nat→Option Nat
 |(q,_)::r,b::bs,t=>bif Nat.beq t q then some b else zSg r bs t
 |_,_,_=>none
theorem bK {s:AState} {n:Nat} {kp:Kp} {tl:List (Nat×AV)} {hl:List (Nat×Blk)} (he:aAu (iSg hl) n s.env tl) (hh:rI (iSg hl) n s.heap hl) (p:aBg (iSg hl) hl=true∧s.kp=kp∧aEm (iSg hl) kp.n hl=true∧Nat.ble kp.n n=true):Ent s (mN tl hl n kp):=qH he hh p.1 p.2.1 p.2.2.1 p.2.2.2
theorem vS (bs:List Nat) {s:AState} {n:Nat} {kp:Kp} {tl:List (Nat×AV)} {hl:List (Nat×Blk)} (he:aAu (zSg hl bs) n s.env tl) (hh:rI (zSg hl bs) n s.heap hl) (p:aBg (zSg hl bs) hl=true∧s.kp=kp∧aEm (zSg hl bs) kp.n hl=true∧Nat.ble kp.n n=true):Ent s (mN tl hl n kp):=qH he hh p.1 p.2.1 p.2.2.1 p.2.2.2
section
variable {σ:Nat→Option Nat} {n:Nat}
theorem aHe {e:Nat→Option AV} : ∀ {m:Nat} {tl:List (Nat×AV)},aAu σ n e (tl.take m)→aAu σ n e (tl.drop m)→aAu σ n e tl
 |0,_,_,h=>h
 |m+1,[],_,_=>trivial
 |m+1,(t,y)::r,h1,h2=>⟨h1.1,aHe h1.2 h2⟩
theorem tN (m:Nat) {e:Nat→Option AV} {tl:List (Nat×AV)} (h:aHc e (tl.take m)=aHd σ (tl.take m)∧((tl.take m).all λp=>okA σ n p.2)=true) (h2:aAu σ n e (tl.drop m)):aAu σ n e tl:=aHe (bH h) h2
theorem sW {e:Nat→Option AV} {t:Nat} {y:AV} {r:List (Nat×AV)} (h: ∃ x,e t=some x∧nY σ n x y) (h2:aAu σ n e r):aAu σ n e ((t,y)::r):=⟨h,h2⟩
variable {b b0 q:Nat} {h:Hp} {r:List (Nat×Blk)}
theorem bT {l:List Int} (p:(σ b,h b0,Nat.blt b n)=(some b0,some ⟨1,List.map (ow eI) l⟩,true)) (hr:rI σ n h r):rI σ n h ((b,⟨1,List.map (ow eI) l⟩)::r):=by
 obtain ⟨p1,p⟩:=Prod.mk.inj p;obtain ⟨p2,p3⟩:=Prod.mk.inj p;exact hB (dY.plainO _) p1 p2 p3 hr
theorem bF {y:Blk} (p:(σ b,h b0,Nat.blt b n,y.es.all λcs=>cs.all oC)=(some b0,some y,true,true)) (hr:rI σ n h r):rI σ n h ((b,y)::r):=by
 obtain ⟨p1,p⟩:=Prod.mk.inj p;obtain ⟨p2,p⟩:=Prod.mk.inj p;obtain ⟨p3,p4⟩:=Prod.mk.inj p;exact hB (aLX p4) p1 p2 p3 hr
theorem mW {y:Blk} (hp:zH y.es) (p:(σ b,h b0,Nat.blt b n)=(some b0,some y,true)) (hr:rI σ n h r):rI σ n h ((b,y)::r):=by
 obtain ⟨p1,p⟩:=Prod.mk.inj p;obtain ⟨p2,p3⟩:=Prod.mk.inj p;exact hB hp p1 p2 p3 hr
def reC (σ:Nat→Option Nat):AV→AV
 | .own b i m=>match σ b with|some b0=> .own b0 i m|none=> .dead
 | .ptr b i j=>match σ b with|some b0=> .ptr b0 i j|none=> .dead
 |x=>x
def okC (σ:Nat→Option Nat) (n:Nat):AV→Bool
 | .own b _ _=>(σ b).isSome &&Nat.blt b n
 | .ptr b _ _=>(σ b).isSome &&Nat.blt b n
 | .sc _=>true
 | .nil _=>true
 | .list _ _=>true
 | .abs _ _=>true
 | .ref _=>true
 |_=>false
theorem aOf {y:AV} (h:okC σ n y=true):gQ σ n (reC σ y) y:=by
 cases y with
 |sc u=>exact wD (σ:=σ) (n:=n) (y:= .sc u) h
 |nil q=>exact wD (σ:=σ) (n:=n) (y:= .nil q) h
 |list q es=>exact wD (σ:=σ) (n:=n) (y:= .list q es) h
 |ref cs=>exact wD (σ:=σ) (n:=n) (y:= .ref cs) h
 |abs q es=>exact ⟨rfl,rfl⟩
 |own b i m=>
  have:=wD (σ:=σ) (n:=n) (y:= .own b i m) h;show gQ σ n (re1 σ (.own b i m)) _;generalize re1 σ (.own b i m)=z at*;cases z <;> first|exact this|exact this.elim
 |ptr b i j=>
  have:=wD (σ:=σ) (n:=n) (y:= .ptr b i j) h;show gQ σ n (re1 σ (.ptr b i j)) _;generalize re1 σ (.ptr b i j)=z at*;cases z <;> first|exact this|exact this.elim
 |agg cs=>simp [okC] at h
 |fn f cs=>simp [okC] at h
 |tuple cs=>simp [okC] at h
 |dead=>simp [okC] at h
theorem aMA: ∀ {cs:List AV},cs.all (okC σ n)=true→All2 (gQ σ n) (cs.map (reC σ)) cs
 | [],_=>rfl
 |c::cs,h=>by
  simp only [List.all_cons,cD] at h;exact ⟨c,cs,rfl,aOf h.1,aMA h.2⟩
theorem aMB: ∀ {es:List (List AV)},(es.all λcs=>cs.all (okC σ n))=true→All2 (All2 (gQ σ n)) (es.map (List.map (reC σ))) es
 | [],_=>rfl
 |c::cs,h=>by
  simp only [List.all_cons,cD] at h;exact ⟨c,cs,rfl,aMA h.1,aMB h.2⟩
theorem iF {es:List (List AV)} (p:(σ b,h b0,Nat.blt b n,es.all λcs=>cs.all (okC σ n))=(some b0,some ⟨q,es.map (List.map (reC σ))⟩,true,true)) (hr:rI σ n h r):rI σ n h ((b,⟨q,es⟩)::r):=by
 obtain ⟨p1,p⟩:=Prod.mk.inj p;obtain ⟨p2,p⟩:=Prod.mk.inj p;obtain ⟨p3,p4⟩:=Prod.mk.inj p;refine hX ?_ p3 hr;rw [p1];exact ⟨_,p2,rfl,.inr (aMB p4)⟩
end
theorem cG {α:Type} {c:Bool} {A:Option α} {r:α} {p:Prop} (h:cond c A none=some r) (f:c=true→A=some r→p):p:=f (cg h).1 (cg h).2
section
variable {h:Hp} {x:AV} {xs ds:List AV}
theorem bX (q:cY x=true) (b:All2 (viewA h) xs ds):All2 (viewA h) (x::xs) (x::ds):=aD (aJR q) b
theorem vcT {b m:Nat} {l:List Int} (hb:h b=some ⟨1,List.map (ow eI) l⟩) (hn:l.length=m) (q:All2 (viewA h) xs ds):All2 (viewA h) (.own b 0 m::xs) (.list 1 (List.map eI l)::ds):=aD (xA dY hb hn) q
end
theorem cT {d:Option Tmp} {ty:TypeId} {pos:String} {aft:Array Edge} {g:Option (Nat×Bool)} {s:AState} {f:FuncId} {xs:Array Operand} {ats:Array TypeId} {avs ds:List AV} {ns':List Nat} {α:Type} {e:α→List AV} {q b:Nat} {l:List α} {z:Bool} {c0:Nat} (ok:EOk q e) (hc:HasC Tryz.prog f ds (.tuple [.list q (List.map e l),.bl z])) (h:evs s.ev xs.toList=some avs∧s.ns=b::c0::ns'∧rO s.ns=true) (hv:All2 (viewA s.heap) avs ds):AEff Tryz.prog ⟨d,.call ⟨.value (.func f),xs,ats⟩,ty,pos,aft,g⟩ s.ev s.heap s.kp ⟨.tuple [.own b 0 l.length,.bl z],avs.flatMap (kU s.heap)++[].flatMap (nZ s.heap),[(b,some ⟨q,List.map (ow e) l⟩)],[b]⟩:=
 AEff.conv (qJ (x:= .tuple [.own b 0 (List.map e l).length,.bl z]) (nb:=[(b,⟨q,cK (List.map e l)⟩)]) hc h.1 (by rw [h.2.1];rfl) rfl h.2.2 (iE (ok.good _) (iE trivial yN)) hv) (by simp only [aW]) (wB (nb':=[(b,⟨q,List.map (ow e) l⟩)]) (by simp only [mB]))
section
variable {h:Hp} {κ:Kp}
theorem vaR {b1 b2 b3 b4 m1 m2 m3 m4:Nat} {v:Rp} (p:h b1=some ⟨1,List.map (ow eI) v.q.src⟩∧v.q.src.length=m1∧h b2=some ⟨1,List.map (ow eI) v.q.tgt⟩∧v.q.tgt.length=m2∧h b3=some ⟨1,List.map (ow eI) v.dims⟩∧v.dims.length=m3∧h b4=some ⟨3,List.map (ow eM) v.maps⟩∧v.maps.length=m4):viewA h (.agg [.int v.p,.int v.q.n,.own b1 0 m1,.own b2 0 m2,.own b3 0 m3,.own b4 0 m4]) (.agg (eR v)):=
 aFu (qK (wX rfl) (qK (wX rfl) (qK (aKU dY p.1 p.2.1) (qK (aKU dY p.2.2.1 p.2.2.2.1) (qK (aKU dY p.2.2.2.2.1 p.2.2.2.2.2.1) (qK (aKU cJ p.2.2.2.2.2.2.1 p.2.2.2.2.2.2.2) aFv))))))
theorem vaM {b m:Nat} {v:Mt} (p:h b=some ⟨1,List.map (ow eI) v.cells⟩∧v.cells.length=m):viewA h (.agg [.int v.rows,.int v.cols,.own b 0 m]) (.agg (eM v)):=aFu (qK (wX rfl) (qK (wX rfl) (qK (aKU dY p.1 p.2) aFv)))
theorem vrR {W:World} {a:Rp} {w2 w3 w4 w5:Value} {S2 S3 S4 S5:List Nat} (hf:κ.fx=fxW W) (r2:RepD W (.list 1 (List.map eI a.q.src)) w2 S2) (r3:RepD W (.list 1 (List.map eI a.q.tgt)) w3 S3) (r4:RepD W (.list 1 (List.map eI a.dims)) w4 S4) (r5:RepD W (.list 3 (List.map eM a.maps)) w5 S5):qQ κ h (.agg [.int a.p,.int a.q.n,.sc w2,.sc w3,.sc w4,.sc w5]) (.agg (eR a)):=
 .inr (qP (aGB hf rfl) (qP (aGB hf rfl) (qP (yP hf r2) (qP (yP hf r3) (qP (yP hf r4) (qP (yP hf r5) aJa))))))
variable {x:AV} {xs ds:List AV}
theorem wkS (q:cY x=true) (b:All2 (qQ κ h) xs ds):All2 (qQ κ h) (x::xs) (x::ds):=cH (.inl (aJR q)) b
theorem wkD {W:World} {k:Nat} {es:List (List AV)} {v:Value} {S:List Nat} (hf:κ.fx=fxW W) (r:RepD W (.list k es) v S) (q:All2 (qQ κ h) xs ds):All2 (qQ κ h) (.sc v::xs) (.list k es::ds):=cH (.inr (aNZ hf r)) q
end
section
variable {dst:Option Tmp} {ty:TypeId} {pos:String} {aft:Array Edge} {g:Option (Nat×Bool)} {s:AState}
theorem wl {t e:TypeId} {n:Nat} {parts:Array (Nat×Operand)} {y ye:Ty} {ps:List (Nat×List AV)} {cs:List AV} {b:Nat}
  (h:(s.ns.head?,cE TT t,y.desc,cE TT e,ye.zero.length,Nat.ble (n*ye.size) 16777216,Nat.ble n 16777216,tL s.ev parts.toList,xU (λi=>some (i*ye.size,ye.size)) (List.replicate n ye.zero).flatten ps,(ps.all λp=>p.2.all (okCell s.heap)),cs.all (okCell s.heap),(ps.flatMap (λp=>bZ p.2)++bZ cs).contains b)=(some b,some y,.slice e,some ye,ye.size,true,true,some ps,some cs,true,true,false)):
  AEff Tryz.prog ⟨dst,.buildSlice t n parts,ty,pos,aft,g⟩ s.ev s.heap s.kp ⟨.own b 0 n,ps.flatMap (λp=>bZ p.2)++bZ cs,[(b,some ⟨ye.size,yF ye.size n cs⟩)],[b]⟩:=by
 simp only [Prod.mk.injEq] at h;obtain ⟨h1,h2,h3,h4,h5,h6,h7,h8,h9,h10,h11,h12⟩:=h;exact aOT aS h1 h2 h3 h4 h5 h6 h7 h8 h9 h10 h11 h12
theorem ws {t:TypeId} {y:Ty} {x z:Operand} {val:AV} {b i j kk:Nat} {ees:List (List AV)} {cs:List AV}
  (h:(s.ev x,s.heap b,s.ev z,cE TT t,Nat.beq (cA val).length y.size,(cA val).all (okCell s.heap),ees[i]?,Nat.ble (j+y.size) cs.length)=(some (.ptr b i j),some ⟨kk,ees⟩,some val,some y,true,true,some cs,true)):
  AEff Tryz.prog ⟨dst,.store t x z,ty,pos,aft,g⟩ s.ev s.heap s.kp ⟨.dead,b::bZ (cA val),[(b,some ⟨kk,ees.set i (yI cs j (cA val))⟩)],[]⟩:=by
 simp only [Prod.mk.injEq] at h;obtain ⟨h1,h2,h3,h4,h5,h6,h7,h8⟩:=h;exact aFs aS h1 h2 h3 h4 h5 h6 h7 h8
theorem wb {t:TypeId} {x:Operand} {v:AV} {b:Nat} (h:(s.ns.head?,s.ev x,(cA v).all (okCell s.heap),(bZ (cA v)).contains b)=(some b,some v,true,false)):
  AEff Tryz.prog ⟨dst,.box t x,ty,pos,aft,g⟩ s.ev s.heap s.kp ⟨.ptr b 0 0,bZ (cA v),[(b,some ⟨(cA v).length,[cA v]⟩)],[b]⟩:=by
 simp only [Prod.mk.injEq] at h;obtain ⟨h1,h2,h3,h4⟩:=h;exact aNX h1 h2 h3 h4
theorem xl {α:Type} {k:Nat} {e:α→List AV} {x ix:Operand} {t et:Nat} {y ye:Ty} {l:List α} {kk:IntKind} {i:Int} {v:α} (hm:cP l i=some v)
  (h:(s.ev x,s.ev ix,cE TT t,y.desc,cE TT et,ye.size)=(some (.list k (l.map e)),some (.sc (.int kk i)),some y,.slice et,some ye,k)):
  AEff Tryz.prog ⟨dst,.indexAddr t x ix,ty,pos,aft,g⟩ s.ev s.heap s.kp ⟨.ref (e v),[],[],[]⟩:=by
 simp only [Prod.mk.injEq] at h;obtain ⟨h1,h2,h3,h4,h5,h6⟩:=h;exact aKT aS hm h1 h2 h3 h4 h5 h6
theorem xo {α:Type} {l:List α} {v:α} {x ix:Operand} {t et:Nat} {y ye:Ty} {b kz:Nat} {es:List (List AV)} {kk:IntKind} {i:Int} (hm:cP l i=some v)
  (h:(s.ev x,s.heap b,s.ev ix,cE TT t,y.desc,cE TT et,ye.size)=(some (.own b 0 l.length),some ⟨kz,es⟩,some (.sc (.int kk i)),some y,.slice et,some ye,kz)):
  AEff Tryz.prog ⟨dst,.indexAddr t x ix,ty,pos,aft,g⟩ s.ev s.heap s.kp ⟨.ptr b i.toNat 0,[b],[],[]⟩:=by
 simp only [Prod.mk.injEq] at h;obtain ⟨h1,h2,h3,h4,h5,h6,h7⟩:=h;exact aLe aS (aIX hm) (aBj hm) h1 h2 h3 h4 h5 h6 h7
theorem wp {α:Type} {e:α→List AV} {l:List α} {u:α} {x:Operand} {t:Nat} {y:Ty} {b j k:Nat} {i:Int} {v:AV} (hm:cP l i=some u)
  (h:(s.ev x,s.heap b,cE TT t,(y.desc.isAgg||Nat.beq y.size 1),Nat.ble (j+y.size) (e u).length,sZ y.desc.isAgg ((((e u).drop j).take y.size).map vE))=(some (.ptr b i.toNat j),some ⟨k,l.map e⟩,some y,true,true,v)):
  AEff Tryz.prog ⟨dst,.load t x,ty,pos,aft,g⟩ s.ev s.heap s.kp ⟨v,[b],[],[]⟩:=by
 simp only [Prod.mk.injEq] at h;obtain ⟨h1,h2,h3,h4,h5,h6⟩:=h;exact dI aS h1 h2 h3 h4 (tA (eO hm)) h5 h6
end
theorem hM {f:FuncId} {fn:Func} {c:Code} {nt:Nat} {ds:List AV} {r:AV} (rvs:List ResultVar) (hf:Tryz.prog.funcs[f]? =some fn) (hnt:fn.ntmps=nt) (h':(fn.body,(fn.name== "runtime.NumGoroutine"),fn.results.toList,Nat.ble ds.length nt,ds.all vW)=(some c,false,rvs,true,true)) (h:AC Tryz.prog nt c (s0 ds nmA) (qE TT rvs r)):HasC Tryz.prog f ds r:=by
 simp only [Prod.mk.injEq] at h';exact aCq aS hf h'.1 h'.2.1 hnt h'.2.2.1 h'.2.2.2.1 h'.2.2.2.2 h
@[elab_as_elim] theorem sp {α:Type} {a:α} {P:α→Prop} {o:α} (h:some a=some o) (p:P a):P o:=so h▸p
theorem mR {α:Type} {t:Bool} {A B:Option α} {r:α} {G:Prop} (h:cond t A B=some r) (p:t=true→A=some r→G) (q:t=false→B=some r→G):G:=by
 rcases cb h with ⟨e,h⟩|⟨e,h⟩
 ·exact p e h
 ·exact q e h
theorem cO {P:Program} {nt:Nat} {Q:Exit→AState→Prop} {s:AState} {c:Operand} {x y:Code} {α:Type} {t:Bool} {A B:Option α} {r:α} (hc:s.ev c=some (.sc (.bool t))) (h:cond t A B=some r) (p:t=true→A=some r→AC P nt x s Q) (q:t=false→B=some r→AC P nt y s Q):AC P nt (.cond c x y) s Q:=mR h (λe h=>dE hc e (p e h)) λe h=>sK hc e (q e h)
theorem oW {p q:Prop} (a:p) (b:q):p∧q:=⟨a,b⟩
def oMt (v:Mt) (a:Nat):List AV:=[.int v.rows,.int v.cols,.own a 0 v.cells.length]
def oRp (v:Rp) (a b c d:Nat):List AV:=[.int v.p,.int v.q.n,.own a 0 v.q.src.length,.own b 0 v.q.tgt.length,.own c 0 v.dims.length,.own d 0 v.maps.length]
def eY:List AV:=[.int 0,.int 0,.nil 1]
end
noncomputable section
set_option maxRecDepth 10000
set_option maxHeartbeats 4000000
def jN (a0:Int) (a1:Int) (a2:Int):Option Bool:=
 bif decide (a1≤a0) then
 (some (decide (a0≤a2)))
 else
 (some (false))
theorem oF (a0:Int) (a1:Int) (a2:Int) (r:Bool) (h:jN a0 a1 a2=some r):HasC Tryz.prog 110 [.int a0,.int a1,.int a2] (.bl r):=by
 exact hM [.tmp 6] Tryz.func110 Tryz.ntmps110 k<|sR<|aT k2<|sR<|am k k<|am k k<|cm k4<|am k k<|mR h (λq1 h=>aJ 10 k q1<|am k k<|am k k<|cm k4<|pk k3<|aT k2<|aC<|fB h k2) λq1 h=>aJ 10 k q1<|aK k4<|ak k k<|pk k3<|aT k2<|aC<|fB h k2
def gZ (a0:Int) (a1:Int) (a2:Int):Option Bool:=
 bif decide (a1≤a0) then
 (some (decide (a0≤a2)))
 else
 (some (false))
theorem kT (a0:Int) (a1:Int) (a2:Int) (r:Bool) (h:gZ a0 a1 a2=some r):HasC Tryz.prog 115 [.int a0,.int a1,.int a2] (.bl r):=by
 exact hM [.tmp 6] Tryz.func115 Tryz.ntmps115 k<|sR<|aT k2<|sR<|am k k<|am k k<|cm k4<|am k k<|mR h (λq1 h=>aJ 10 k q1<|am k k<|am k k<|cm k4<|pk k3<|aT k2<|aC<|fB h k2) λq1 h=>aJ 10 k q1<|aK k4<|ak k k<|pk k3<|aT k2<|aC<|fB h k2
def oX (a0:(List Int)) (x1:(Int×Int)):Option ((Int×Int) ⊕ Int):=
 bif decide (x1.2<(a0.length:Int)) then
 ((cP a0 x1.2).bind λv2=>
 some (.inl (wr (x1.1+v2),wr (x1.2+1))))
 else
 (some (.inr x1.1))
def tP (a0:(List Int)):Option Int:=
 (Lp (oX a0) (0,0)).bind λy3=>
 some (y3)
theorem aGE (a0:(List Int)) (r:Int) (h:tP a0=some r):HasC Tryz.prog 124 [.list 1 (a0.map eI)] (.int r):=by
 refine hM [.tmp 2] Tryz.func124 Tryz.ntmps124 k<|sR<|aT k2<|sR<|aT k2<|sQ<|sR<|am k k<|ln k4<|am k k<|an<|tn<|aE<|oB h λy3 hy3 h=>bP (body:=(oX a0)) hy3 (λ(x1:(Int×Int))=>mN [(3,.int x1.1),(6,.list 1 (a0.map eI)),(7,.int (a0.length:Int)),(8,.int x1.2)] [] 0) (λr e t=>e= .exit 0∧Ent t (mN [(3,.int r)] [] 0)) (bK (bH k2) aY k4) ?_ ?_
 ·intro x1 o h;exact sR<|cm k4<|an<|tn<|sQ<|cO k h (λ_ h=>aI<|tn<|sQ<|aE<|sR<|oB h λv2 hv2 h=>ae (xl hv2 k) k<|lr k7<|aT k2<|rg<|am k k<|am k k<|ae (bB k k) k<|aa k k<|an<|aX<|tn<|rg<|ae (bB k k) k<|am k k<|an<|tn<|sp h ⟨_,k,(bK (bH k2) aY k4)⟩) λ_ h=>aV<|aB<|aB<|sp h ⟨_,k,k,(bK (bH k2) aY k4)⟩
 ·rintro e t ⟨rfl,hent⟩;exact aN<|tn<|aP hent<|sR<|am k k<|aT k2<|aC<|oV h k2
def rS (a0:(List Int)) (a1:(List Int)) (x1:Int):Option (Int ⊕ (Unit ⊕ Bool)):=
 bif decide (x1<(a0.length:Int)) then
 ((cP a0 x1).bind λv3=>
 (cP a1 x1).bind λv4=>
 bif !decide (v3=v4) then
 (some (.inr (.inr (false))))
 else
 (some (.inl (wr (x1+1)))))
 else
 (some (.inr (.inl ())))
def jO (a0:(List Int)) (a1:(List Int)):Option Bool:=
 bif !decide ((a0.length:Int)=(a1.length:Int)) then
 (some (false))
 else
 ((Lp (rS a0 a1) 0).bind λy6=>
 Sum.elim (λy7=>
 some (true)
 )
 (λy8=>
 some y8
 )
 y6)
theorem oG (a0:(List Int)) (a1:(List Int)) (r:Bool) (h:jO a0 a1=some r):HasC Tryz.prog 66 [.list 1 (a0.map eI),.list 1 (a1.map eI)] (.bl r):=by
 refine hM [.tmp 4] Tryz.func66 Tryz.ntmps66 k<|sR<|aT k2<|sQ<|sR<|am k k<|ln k4<|am k k<|ln k4<|cm k4<|an<|tn<|cO k h (λ_ h=>sR<|aT k2<|aC<|aG<|fB h k2) λ_ h=>?_;refine aI<|tn<|sQ<|sR<|aT k2<|aE<|oB h λy6 hy6 h=>bP (body:=(rS a0 a1)) hy6 (λ(x1:Int)=>mN [(0,.list 1 (a0.map eI)),(1,.list 1 (a1.map eI)),(5,.int x1)] [] 0) (λr e t=>Sum.elim (λa=>(λr e t=>e= .exit 0∧Ent t (mN [] [] 0)) a e t) (λb=>(λr e t=>e= .ret∧qE TT [.tmp 4] (.bl r) .ret t) b e t) r) (bK (bH k2) aY k4) ?_ ?_
 ·intro x1 o h;exact sQ<|sR<|am k k<|am k k<|ln k4<|cm k4<|an<|tn<|cO k h (λ_ h=>aI<|tn<|sQ<|aE<|sQ<|aO fZ<|am k k<|am k k<|oB h λv3 hv3 h=>ae (xl hv3 k) k<|lr k7<|am k k<|am k k<|oB h λv4 hv4 h=>ae (xl hv4 k) k<|lr k7<|cm k4<|an<|oW (by kernel_rfl)<|tn<|cO k h (λ_ h=>sR<|aT k2<|aC<|bA<|aG<|aG<|sp h ⟨_,k,k,bD k k k (nX k)⟩) λ_ h=>aI<|aX<|tn<|rg<|am k k<|ae (bB k k) k<|aT k2<|sp h ⟨_,k,(bK (bH k2) aY k4)⟩) λ_ h=>aV<|aB<|aB<|sp h ⟨_,k,k,(bK aY aY k4)⟩
 ·intro e t hX;rcases y6 with y7|y8
  ·obtain ⟨rfl,hent⟩:=hX;exact aN<|tn<|aP hent<|sR<|aT k2<|aC<|fB h k2
  ·obtain ⟨rfl,hent⟩:=hX;exact bA<|aG<|sp h hent
def oY (a0:(List Int)) (a1:Int) (x1:Int):Option (Int ⊕ (Unit ⊕ Bool)):=
 bif decide (x1<(a0.length:Int)) then
 ((cP a0 x1).bind λv2=>
 bif decide (v2=a1) then
 (some (.inr (.inr (true))))
 else
 (some (.inl (wr (x1+1)))))
 else
 (some (.inr (.inl ())))
def tQ (a0:(List Int)) (a1:Int):Option Bool:=
 (Lp (oY a0 a1) 0).bind λy4=>
 Sum.elim (λy5=>
 some (false)
 )
 (λy6=>
 some y6
 )
 y4
theorem aGF (a0:(List Int)) (a1:Int) (r:Bool) (h:tQ a0 a1=some r):HasC Tryz.prog 177 [.list 1 (a0.map eI),.int a1] (.bl r):=by
 refine hM [.tmp 4] Tryz.func177 Tryz.ntmps177 k<|sR<|aT k2<|sQ<|sR<|aT k2<|aE<|oB h λy4 hy4 h=>bP (body:=(oY a0 a1)) hy4 (λ(x1:Int)=>mN [(0,.list 1 (a0.map eI)),(1,.int a1),(5,.int x1)] [] 0) (λr e t=>Sum.elim (λa=>(λr e t=>e= .exit 0∧Ent t (mN [] [] 0)) a e t) (λb=>(λr e t=>e= .ret∧qE TT [.tmp 4] (.bl r) .ret t) b e t) r) (bK (bH k2) aY k4) ?_ ?_
 ·intro x1 o h;exact sQ<|sR<|am k k<|am k k<|ln k4<|cm k4<|an<|tn<|cO k h (λ_ h=>aI<|tn<|sQ<|aE<|sR<|am k k<|am k k<|oB h λv2 hv2 h=>ae (xl hv2 k) k<|lr k7<|am k k<|cm k4<|an<|tn<|cO k h (λ_ h=>sR<|aT k2<|aC<|bA<|aG<|aG<|sp h ⟨_,k,k,bD k k k (nX k)⟩) λ_ h=>aI<|aX<|tn<|rg<|am k k<|ae (bB k k) k<|aT k2<|sp h ⟨_,k,(bK (bH k2) aY k4)⟩) λ_ h=>aV<|aB<|aB<|sp h ⟨_,k,k,(bK aY aY k4)⟩
 ·intro e t hX;rcases y4 with y5|y6
  ·obtain ⟨rfl,hent⟩:=hX;exact aN<|tn<|aP hent<|sR<|aT k2<|aC<|fB h k2
  ·obtain ⟨rfl,hent⟩:=hX;exact bA<|aG<|sp h hent
def hU (a0:(List Int)) (a1:(List Int)) (x1:Int):Option (Int ⊕ (Unit ⊕ Bool)):=
 bif decide (x1<(a0.length:Int)) then
 ((cP a0 x1).bind λv3=>
 (cP a1 x1).bind λv4=>
 bif !decide (v3=v4) then
 (some (.inr (.inr (false))))
 else
 (some (.inl (wr (x1+1)))))
 else
 (some (.inr (.inl ())))
def cV (a0:(List Int)) (a1:(List Int)):Option Bool:=
 bif !decide ((a0.length:Int)=(a1.length:Int)) then
 (some (false))
 else
 ((Lp (hU a0 a1) 0).bind λy6=>
 Sum.elim (λy7=>
 some (true)
 )
 (λy8=>
 some y8
 )
 y6)
theorem eG (a0:(List Int)) (a1:(List Int)) (r:Bool) (h:cV a0 a1=some r):HasC Tryz.prog 77 [.list 1 (a0.map eI),.list 1 (a1.map eI)] (.bl r):=by
 refine hM [.tmp 4] Tryz.func77 Tryz.ntmps77 k<|sR<|aT k2<|sQ<|sR<|am k k<|ln k4<|am k k<|ln k4<|cm k4<|an<|tn<|cO k h (λ_ h=>sR<|aT k2<|aC<|aG<|fB h k2) λ_ h=>?_;refine aI<|tn<|sQ<|sR<|am k k<|ln k4<|am k k<|an<|tn<|aE<|oB h λy6 hy6 h=>bP (body:=(hU a0 a1)) hy6 (λ(x1:Int)=>mN [(0,.list 1 (a0.map eI)),(1,.list 1 (a1.map eI)),(12,.int (a0.length:Int)),(13,.int x1)] [] 0) (λr e t=>Sum.elim (λa=>(λr e t=>e= .exit 0∧Ent t (mN [] [] 0)) a e t) (λb=>(λr e t=>e= .ret∧qE TT [.tmp 4] (.bl r) .ret t) b e t) r) (bK (bH k2) aY k4) ?_ ?_
 ·intro x1 o h;exact sR<|cm k4<|an<|tn<|sQ<|cO k h (λ_ h=>aI<|tn<|sQ<|aE<|sR<|am k k<|aT k2<|sQ<|aO fZ<|am k k<|am k k<|oB h λv3 hv3 h=>ae (xl hv3 k) k<|lr k7<|am k k<|am k k<|oB h λv4 hv4 h=>ae (xl hv4 k) k<|lr k7<|cm k4<|an<|oW (by kernel_rfl)<|tn<|cO k h (λ_ h=>sR<|aT k2<|aC<|bA<|aG<|aG<|sp h ⟨_,k,k,bD k k k (nX k)⟩) λ_ h=>aI<|aX<|tn<|rg<|ae (bB k k) k<|am k k<|an<|tn<|sp h ⟨_,k,(bK (bH k2) aY k4)⟩) λ_ h=>aV<|aB<|aB<|sp h ⟨_,k,k,(bK aY aY k4)⟩
 ·intro e t hX;rcases y6 with y7|y8
  ·obtain ⟨rfl,hent⟩:=hX;exact aN<|tn<|aP hent<|sR<|aT k2<|aC<|fB h k2
  ·obtain ⟨rfl,hent⟩:=hX;exact bA<|aG<|sp h hent
def mX (a0:Int):Option Bool:=
 bif decide (a0=2) then
 (some (true))
 else
 (bif decide (a0=3) then
 (some (true))
 else
 (some (decide (a0=5))))
theorem uG (a0:Int) (r:Bool) (h:mX a0=some r):HasC Tryz.prog 133 [.int a0] (.bl r):=by
 exact hM [.tmp 2] Tryz.func133 Tryz.ntmps133 k<|sR<|aT k2<|sR<|am k k<|cm k4<|am k k<|mR h (λq1 h=>aJ 5 k q1<|aK k4<|pk k3<|am k k<|aK k4<|pk k3<|aT k2<|aC<|fB h k2) λq1 h=>aJ 5 k q1<|am k k<|cm k4<|pk k3<|am k k<|mR h (λq2 h=>aJ 9 k q2<|aK k4<|pk k3<|aT k2<|aC<|fB h k2) λq2 h=>aJ 9 k q2<|am k k<|cm k4<|pk k3<|aT k2<|aC<|fB h k2
def hY (a0:Int):Option Bool:=
 bif decide (a0=2) then
 (some (true))
 else
 (bif decide (a0=3) then
 (some (true))
 else
 (some (decide (a0=5))))
theorem mY (a0:Int) (r:Bool) (h:hY a0=some r):HasC Tryz.prog 146 [.int a0] (.bl r):=by
 exact hM [.tmp 2] Tryz.func146 Tryz.ntmps146 k<|sR<|aT k2<|sR<|am k k<|cm k4<|am k k<|mR h (λq1 h=>aJ 5 k q1<|aK k4<|pk k3<|am k k<|aK k4<|pk k3<|aT k2<|aC<|fB h k2) λq1 h=>aJ 5 k q1<|am k k<|cm k4<|pk k3<|am k k<|mR h (λq2 h=>aJ 9 k q2<|aK k4<|pk k3<|aT k2<|aC<|fB h k2) λq2 h=>aJ 9 k q2<|am k k<|cm k4<|pk k3<|aT k2<|aC<|fB h k2
def kW (a0:Qv) (x1:Int):Option (Int ⊕ (Unit ⊕ Bool)):=
 bif decide (x1<(a0.src.length:Int)) then
 (bif decide (x1<(a0.tgt.length:Int)) then
 ((cP a0.src x1).bind λv3=>
 (gZ v3 0 (wr (a0.n - 1))).bind λv4=>
 bif !v4 then
 (some (.inr (.inr (false))))
 else
 ((cP a0.tgt x1).bind λv6=>
 (gZ v6 0 (wr (a0.n - 1))).bind λv7=>
 bif !v7 then
 (some (.inr (.inr (false))))
 else
 (some (.inl (wr (x1+1))))))
 else
 (some (.inr (.inl ()))))
 else
 (some (.inr (.inl ())))
def iP (a0:Qv):Option Bool:=
 (Lp (kW a0) 0).bind λy9=>
 Sum.elim (λy10=>
 (gZ a0.n 1 5).bind λv11=>
 bif v11 then
 (bif decide ((a0.src.length:Int)≤6) then
 (some (decide ((a0.tgt.length:Int)=(a0.src.length:Int))))
 else
 (some (false)))
 else
 (some (false))
 )
 (λy14=>
 some y14
 )
 y9
theorem xX (a0:Qv) (r:Bool) (h:iP a0=some r):HasC Tryz.prog 111 [.agg (eQ a0)] (.bl r):=by
 refine hM [.tmp 2] Tryz.func111 Tryz.ntmps111 k<|sR<|ae (wb k) k<|aT k2<|sQ<|sR<|aT k2<|aE<|oB h λy9 hy9 h=>bP (body:=(kW a0)) hy9 (λ(x1:Int)=>mN [(1,.ptr 0 0 0),(3,.int x1)] [(0,⟨3,[eQ a0]⟩)] 1) (λr e t=>Sum.elim (λa=>(λr e t=>e= .exit 0∧Ent t (mN [(1,.ptr 0 0 0)] [(0,⟨3,[eQ a0]⟩)] 1)) a e t) (λb=>(λr e t=>e= .ret∧qE TT [.tmp 2] (.bl r) .ret t) b e t) r) (bK (bH k2) (bF k<|aY) k4) ?_ ?_
 ·intro x1 o h;refine sQ<|sR<|am k k<|fp k8<|lp k8<|ln k4<|cm k4<|am k k<|mR h (λq1 h=>?_) λq1 h=>aJ 9 k q1<|aK k4<|aK k4<|ak k k<|pk k3<|an<|tn<|sK k k<|aV<|aB<|aB<|sp h ⟨_,k,k,(bK (bH k2) (bF k<|aY) k4)⟩;exact aJ 9 k q1<|am k k<|fp k8<|lp k8<|ln k4<|cm k4<|pk k3<|an<|tn<|cO k h (λ_ h=>aI<|tn<|sQ<|aE<|sQ<|aO fZ<|fp k8<|lp k8<|am k k<|oB h λv3 hv3 h=>ae (xl hv3 k) k<|lr k7<|fp k8<|lp k8<|ae (kS k k) k<|oB h λv4 hv4 h=>ae (aH (kT v3 0 (wr (a0.n - 1)) v4 hv4) k (bX k (bX k (bX k aL)))) k<|ae (dC k) k<|am k k<|mR h (λq5 h=>aJ 28 k q5<|aK k4<|aK k4<|aK k4<|aK k4<|aK k4<|pk k3<|an<|oW (by kernel_rfl)<|tn<|aP (t:=mN [(1,.ptr 0 0 0),(3,.int x1),(39,.bl true)] [(0,⟨3,[eQ a0]⟩)] 1) (bK (bH k2) (bF k<|aY) k4)<|dE k k<|sR<|aT k2<|aC<|bA<|aG<|aG<|sp h ⟨_,k,k,bD k k k (nX k)⟩) λq5 h=>aJ 28 k q5<|fp k8<|lp k8<|am k k<|oB h λv6 hv6 h=>ae (xl hv6 k) k<|lr k7<|fp k8<|lp k8<|ae (kS k k) k<|oB h λv7 hv7 h=>ae (aH (kT v6 0 (wr (a0.n - 1)) v7 hv7) k (bX k (bX k (bX k aL)))) k<|ae (dC k) k<|pk k3<|an<|oW (by kernel_rfl)<|tn<|aP (t:=mN [(1,.ptr 0 0 0),(3,.int x1),(39,.bl (!v7))] [(0,⟨3,[eQ a0]⟩)] 1) (bK (bH k2) (bF k<|aY) k4)<|cO k h (λ_ h=>sR<|aT k2<|aC<|bA<|aG<|aG<|sp h ⟨_,k,k,bD k k k (nX k)⟩) λ_ h=>aI<|aX<|tn<|rg<|am k k<|ae (bB k k) k<|aT k2<|sp h ⟨_,k,(bK (bH k2) (bF k<|aY) k4)⟩) λ_ h=>aV<|aB<|aB<|sp h ⟨_,k,k,(bK (bH k2) (bF k<|aY) k4)⟩
 ·intro e t hX;rcases y9 with y10|y14
  ·obtain ⟨rfl,hent⟩:=hX;exact aN<|tn<|aP hent<|sR<|fp k8<|lp k8<|oB h λv11 hv11 h=>ae (aH (kT a0.n 1 5 v11 hv11) k (bX k (bX k (bX k aL)))) k<|am k k<|mR h (λq12 h=>aJ 43 k q12<|fp k8<|lp k8<|ln k4<|cm k4<|pk k3<|am k k<|mR h (λq13 h=>aJ 49 k q13<|fp k8<|lp k8<|ln k4<|fp k8<|lp k8<|ln k4<|cm k4<|pk k3<|aT k2<|aC<|fB h k2) λq13 h=>aJ 49 k q13<|aK k4<|aK k4<|aK k4<|ak k k<|pk k3<|aT k2<|aC<|fB h k2) λq12 h=>aJ 43 k q12<|aK k4<|aK k4<|pk k3<|am k k<|aK k4<|aK k4<|aK k4<|ak k k<|pk k3<|aT k2<|aC<|fB h k2
  ·obtain ⟨rfl,hent⟩:=hX;exact bA<|aG<|sp h hent
def mZ (a0:Int) (a1:Int):Option Mt:=
 bif (decide (0≤wr (a0*a1))&&decide (wr (a0*a1)≤1048576)) then
 (some ((⟨a0,a1,(List.replicate ((wr (a0*a1)).toNat) (0:Int))⟩:Mt)))
 else none
theorem uW (a0:Int) (a1:Int) (r:Mt) (h:mZ a0 a1=some r):HasC Tryz.prog 128 [.int a0,.int a1] (.agg (eM r)):=by
 exact hM [.cell 4 93] Tryz.func128 Tryz.ntmps128 k<|sR<|ae (bY aS k k) k<|an<|tn<|sR<|am k k<|am k k<|am k k<|am k k<|ae (dJ k k) k<|cG h λq1 h=>ae (vK aS q1 k k k k k k k k) k<|ae (wW aS k k k k k k) k<|ae (ws k) k<|an<|tn<|aP (t:=mN [(4,.ptr 0 0 0)] [(0,⟨3,[[.int a0,.int a1,.own 1 0 ((List.replicate ((wr (a0*a1)).toNat) (0:Int)).length)]]⟩),(1,⟨1,List.map (ow eI) (List.replicate ((wr (a0*a1)).toNat) (0:Int))⟩)] 2) (bK (bH k2) (hX ⟨_,k,k,.inr ⟨_,_,k,⟨_,_,k,k,⟨_,_,k,k,⟨_,_,k,⟨k,k,(by simp only [aW,lA,lT,lR,lC,lN]),k⟩,k⟩⟩⟩,k⟩⟩ k<|hX ⟨_,k,k,.inl ⟨xB (e:=eI) (z:=0) _,dY.plainO _⟩⟩ k<|aY) k4)<|aC<|sp h (bD k k k (rR (bL (k) (bL (k) (bL (gC dY k k) mU)))))
def sC (a0:Int) (a1:Int):Option Mt:=
 bif (decide (0≤wr (a0*a1))&&decide (wr (a0*a1)≤1048576)) then
 (some ((⟨a0,a1,(List.replicate ((wr (a0*a1)).toNat) (0:Int))⟩:Mt)))
 else none
theorem aEQ (a0:Int) (a1:Int) (r:Mt) (h:sC a0 a1=some r):HasC Tryz.prog 253 [.int a0,.int a1] (.agg (eM r)):=by
 exact hM [.cell 4 93] Tryz.func253 Tryz.ntmps253 k<|sR<|ae (bY aS k k) k<|an<|tn<|sR<|am k k<|am k k<|am k k<|am k k<|ae (dJ k k) k<|cG h λq1 h=>ae (vK aS q1 k k k k k k k k) k<|ae (wW aS k k k k k k) k<|ae (ws k) k<|an<|tn<|aP (t:=mN [(4,.ptr 0 0 0)] [(0,⟨3,[[.int a0,.int a1,.own 1 0 ((List.replicate ((wr (a0*a1)).toNat) (0:Int)).length)]]⟩),(1,⟨1,List.map (ow eI) (List.replicate ((wr (a0*a1)).toNat) (0:Int))⟩)] 2) (bK (bH k2) (hX ⟨_,k,k,.inr ⟨_,_,k,⟨_,_,k,k,⟨_,_,k,k,⟨_,_,k,⟨k,k,(by simp only [aW,lA,lT,lR,lC,lN]),k⟩,k⟩⟩⟩,k⟩⟩ k<|hX ⟨_,k,k,.inl ⟨xB (e:=eI) (z:=0) _,dY.plainO _⟩⟩ k<|aY) k4)<|aC<|sp h (bD k k k (rR (bL (k) (bL (k) (bL (gC dY k k) mU)))))
def cI (a0:Mt) (a1:Int):Option Unit:=
 bif (decide (0≤wr (a1*a0.cols))&&(decide (wr (a1*a0.cols)≤wr ((wr (a1+1))*a0.cols))&&decide (wr ((wr (a1+1))*a0.cols)≤((a0.cells.length:Nat):Int)))) then
 (some ())
 else none
theorem dT (a0:Mt) (a1:Int) (r:Unit) (h:cI a0 a1=some r):HasE Tryz.prog 129 [.agg [.int a0.rows,.int a0.cols,.own 0 0 a0.cells.length],.int a1] [(0,⟨1,a0.cells.map (ow eI)⟩)] 1 (.own 0 (0+(wr (a1*a0.cols)).toNat) ((wr ((wr (a1+1))*a0.cols)).toNat - (wr (a1*a0.cols)).toNat)) [(0,⟨1,a0.cells.map (ow eI)⟩)]:=by
 exact aFz aS (rvs:=[.tmp 4]) (ns:=nmA.drop 1) Tryz.func129 k k Tryz.ntmps129 k k<|sR<|ae (wb k) k<|aT k2<|sR<|fp k8<|lp k8<|am k k<|fp k8<|lp k8<|ae (dJ k k) k<|am k k<|ae (bB k k) k<|fp k8<|lp k8<|ae (dJ k k) k<|cG h λq1 h=>ae (aHS aS (l:=wr (a1*a0.cols)) (h:=wr ((wr (a1+1))*a0.cols)) q1 k k k k k k k k) k<|aT k2<|aC<|sp h ⟨mN [(4,.own 0 (0+(wr (a1*a0.cols)).toNat) ((wr ((wr (a1+1))*a0.cols)).toNat - (wr (a1*a0.cols)).toNat))] [(0,⟨1,a0.cells.map (ow eI)⟩)] 1 1,(bK (bH k2) (bT k<|aY) k4),k,⟨_,k,.inl k⟩,⟨k,aY⟩⟩
def iG (a0:Int) (a2:Int) (a3:(List Int)) (n1:Nat) (s1:Nat) (x1:((List Int)×Int)):Option (((List Int)×Int) ⊕ (List Int)):=
 bif decide (x1.2<(a3.length:Int)) then
 ((cP a3 x1.2).bind λv2=>
 bif (decide (0≤x1.2)&&decide (x1.2<((n1:Nat):Int))) then
 ((x1.1[(s1+x1.2.toNat)]?).bind λv3=>
 bif !decide (a0=0) then
 (bif (decide (0≤x1.2)&&decide (x1.2<((n1:Nat):Int))) then
 ((x1.1[(s1+x1.2.toNat)]?).bind λv5=>
 some (.inl ((x1.1.set (s1+x1.2.toNat) ((wr (v3+(wr (a2*v2)))).tmod a0)),wr (x1.2+1)))
 )
 else none)
 else none
 )
 else none)
 else
 (some (.inr x1.1))
def dZ (a0:Int) (c0:(List Int)) (s1:Nat) (n1:Nat) (a2:Int) (a3:(List Int)):Option (List Int):=
 (Lp (iG a0 a2 a3 n1 s1) (c0,0)).bind λy8=>
 some y8
theorem pY (a0:Int) (c0:(List Int)) (s1:Nat) (n1:Nat) (a2:Int) (a3:(List Int)) (r:(List Int)) (h:dZ a0 c0 s1 n1 a2 a3=some r):HasE Tryz.prog 219 [.int a0,.own 0 s1 n1,.int a2,.list 1 (a3.map eI)] [(0,⟨1,c0.map (ow eI)⟩)] 1 (.own 0 s1 n1) [(0,⟨1,r.map (ow eI)⟩)]:=by
 refine aFz aS (rvs:=[.tmp 8]) (ns:=nmA.drop 1) Tryz.func219 k k Tryz.ntmps219 k k<|sR<|aT k2<|sQ<|sR<|am k k<|ln k4<|am k k<|an<|tn<|aE<|oB h λy8 hy8 h=>bP (body:=(iG a0 a2 a3 n1 s1)) hy8 (λ(x1:((List Int)×Int))=>mN [(0,.int a0),(1,.own 0 s1 n1),(2,.int a2),(11,.list 1 (a3.map eI)),(12,.int (a3.length:Int)),(13,.int x1.2)] [(0,⟨1,x1.1.map (ow eI)⟩)] 1 1) (λr e t=>e= .exit 0∧Ent t (mN [(1,.own 0 s1 n1)] [(0,⟨1,r.map (ow eI)⟩)] 1 1)) (bK (bH k2) (bT k<|aY) k4) ?_ ?_
 ·intro x1 o h;refine sR<|cm k4<|an<|tn<|sQ<|cO k h (λ_ h=>?_) λ_ h=>aV<|aB<|aB<|sp h ⟨_,k,k,(bK (bH k2) (bT k<|aY) k4)⟩;refine aI<|tn<|sQ<|aE<|sR<|am k k<|oB h λv2 hv2 h=>ae (xl hv2 k) k<|lr k7<|aa k k<|aT k2<|rg<|am k k<|am k k<|am k k<|am k k<|cG h λq4 h=>oB h λv3 hv3 h=>ae (fU aS q4 k k k k k k k) k<|ae (dI aS k k k k (tA (hv3)) k k) k<|am k k<|am k k<|ae (dJ k k) k<|ae (bB k k) k<|am k k<|cG h λq7 h=>ae (yK k k q7) k<|cG h λq6 h=>oB h λv5 hv5 h=>ae (fU aS q6 k k k k k k k) k<|ae (fY aS pX (u:=(wr (v3+(wr (a2*v2)))).tmod a0) (hv5) k k k k k k) k<|an ?_;exact aX<|tn<|rg<|ae (bB k k) k<|am k k<|an<|tn<|sp h ⟨_,k,(bK (bH k2) (bT k<|aY) k4)⟩
 ·rintro e t ⟨rfl,hent⟩;exact aN<|tn<|aP hent<|sR<|am k k<|aT k2<|aC<|sp h ⟨mN [(8,.own 0 s1 n1)] [(0,⟨1,y8.map (ow eI)⟩)] 1 1,(bK (bH k2) (bT k<|aY) k4),k,⟨_,k,.inl k⟩,⟨k,aY⟩⟩
def fC (a0:Int) (a2:Int) (n1:Nat) (n3:Nat) (s1:Nat) (s3:Nat) (x1:((List Int)×Int)):Option (((List Int)×Int) ⊕ (List Int)):=
 bif decide (x1.2<((n3:Nat):Int)) then
 (bif (decide (0≤x1.2)&&decide (x1.2<((n3:Nat):Int))) then
 ((x1.1[(s3+x1.2.toNat)]?).bind λv2=>
 bif (decide (0≤x1.2)&&decide (x1.2<((n1:Nat):Int))) then
 ((x1.1[(s1+x1.2.toNat)]?).bind λv4=>
 bif !decide (a0=0) then
 (bif (decide (0≤x1.2)&&decide (x1.2<((n1:Nat):Int))) then
 ((x1.1[(s1+x1.2.toNat)]?).bind λv6=>
 some (.inl ((x1.1.set (s1+x1.2.toNat) ((wr (v4+(wr (a2*v2)))).tmod a0)),wr (x1.2+1)))
 )
 else none)
 else none
 )
 else none
 )
 else none)
 else
 (some (.inr x1.1))
def gE (a0:Int) (c0:(List Int)) (s1:Nat) (n1:Nat) (a2:Int) (s3:Nat) (n3:Nat):Option (List Int):=
 (Lp (fC a0 a2 n1 n3 s1 s3) (c0,0)).bind λy9=>
 some y9
theorem wF (a0:Int) (c0:(List Int)) (s1:Nat) (n1:Nat) (a2:Int) (s3:Nat) (n3:Nat) (r:(List Int)) (h:gE a0 c0 s1 n1 a2 s3 n3=some r):HasE Tryz.prog 219 [.int a0,.own 0 s1 n1,.int a2,.own 0 s3 n3] [(0,⟨1,c0.map (ow eI)⟩)] 1 (.own 0 s1 n1) [(0,⟨1,r.map (ow eI)⟩)]:=by
 refine aFz aS (rvs:=[.tmp 8]) (ns:=nmA.drop 1) Tryz.func219 k k Tryz.ntmps219 k k<|sR<|aT k2<|sQ<|sR<|am k k<|ae (dU aS k k k k) k<|am k k<|an<|tn<|aE<|oB h λy9 hy9 h=>bP (body:=(fC a0 a2 n1 n3 s1 s3)) hy9 (λ(x1:((List Int)×Int))=>mN [(0,.int a0),(1,.own 0 s1 n1),(2,.int a2),(11,.own 0 s3 n3),(12,.int ((n3:Nat):Int)),(13,.int x1.2)] [(0,⟨1,x1.1.map (ow eI)⟩)] 1 1) (λr e t=>e= .exit 0∧Ent t (mN [(1,.own 0 s1 n1)] [(0,⟨1,r.map (ow eI)⟩)] 1 1)) (bK (bH k2) (bT k<|aY) k4) ?_ ?_
 ·intro x1 o h;refine sR<|cm k4<|an<|tn<|sQ<|cO k h (λ_ h=>?_) λ_ h=>aV<|aB<|aB<|sp h ⟨_,k,k,(bK (bH k2) (bT k<|aY) k4)⟩;refine aI<|tn<|sQ<|aE<|sR<|am k k<|cG h λq3 h=>oB h λv2 hv2 h=>ae (fU aS q3 k k k k k k k) k<|ae (dI aS k k k k (tA (hv2)) k k) k<|aa k k<|aT k2<|rg<|am k k<|am k k<|am k k<|am k k<|cG h λq5 h=>oB h λv4 hv4 h=>ae (fU aS q5 k k k k k k k) k<|ae (dI aS k k k k (tA (hv4)) k k) k<|am k k<|am k k<|ae (dJ k k) k<|ae (bB k k) k<|am k k<|cG h λq8 h=>ae (yK k k q8) k<|cG h λq7 h=>oB h λv6 hv6 h=>ae (fU aS q7 k k k k k k k) k<|ae (fY aS pX (u:=(wr (v4+(wr (a2*v2)))).tmod a0) (hv6) k k k k k k) k<|an ?_;exact aX<|tn<|rg<|ae (bB k k) k<|am k k<|an<|tn<|sp h ⟨_,k,(bK (bH k2) (bT k<|aY) k4)⟩
 ·rintro e t ⟨rfl,hent⟩;exact aN<|tn<|aP hent<|sR<|am k k<|aT k2<|aC<|sp h ⟨mN [(8,.own 0 s1 n1)] [(0,⟨1,y9.map (ow eI)⟩)] 1 1,(bK (bH k2) (bT k<|aY) k4),k,⟨_,k,.inl k⟩,⟨k,aY⟩⟩
def dW (a0:Int) (a1:Int):Option Int:=
 bif !decide (a0=0) then
 (bif decide (a1.tmod a0<0) then
 (some (wr ((a1.tmod a0)+a0)))
 else
 (some (a1.tmod a0)))
 else none
theorem gS (a0:Int) (a1:Int) (r:Int) (h:dW a0 a1=some r):HasC Tryz.prog 140 [.int a0,.int a1] (.int r):=by
 exact hM [.tmp 4] Tryz.func140 Tryz.ntmps140 k<|sR<|aT k2<|sR<|am k k<|am k k<|cG h λq2 h=>ae (yK k k q2) k<|aT k2<|sQ<|sR<|am k k<|cm k4<|an<|tn<|cO k h (λ_ h=>rg<|am k k<|am k k<|ae (bB k k) k<|aT k2<|sR<|am k k<|aT k2<|aC<|oV h k2) λ_ h=>aI<|tn<|sR<|am k k<|aT k2<|aC<|oV h k2
def iY (a1:Mt) (a2:Mt) (x1:((List Int)×Int)) (x2:((List Int)×Int)) (x3:(Int×Int)):Option ((Int×Int) ⊕ Int):=
 bif decide (x3.2<a1.cols) then
 ((cP a1.cells (wr ((wr (x1.2*a1.cols))+x3.2))).bind λv5=>
 (cP a2.cells (wr ((wr (x3.2*a2.cols))+x2.2))).bind λv6=>
 some (.inl (wr (x3.1+(wr (v5*v6))),wr (x3.2+1))))
 else
 (some (.inr x3.1))
def iZ (a0:Int) (a1:Mt) (a2:Mt) (x1:((List Int)×Int)) (x2:((List Int)×Int)):Option (((List Int)×Int) ⊕ (List Int)):=
 bif decide (x2.2<a2.cols) then
 ((Lp (iY a1 a2 x1 x2) (0,0)).bind λy7=>
 (dW a0 y7).bind λv8=>
 (cP x2.1 (wr ((wr (x1.2*a2.cols))+x2.2))).bind λv9=>
 some (.inl ((x2.1.set ((wr ((wr (x1.2*a2.cols))+x2.2)).toNat) v8),wr (x2.2+1))))
 else
 (some (.inr x2.1))
def jA (a0:Int) (a1:Mt) (a2:Mt) (x1:((List Int)×Int)):Option (((List Int)×Int) ⊕ (List Int)):=
 bif decide (x1.2<a1.rows) then
 ((Lp (iZ a0 a1 a2 x1) (x1.1,0)).bind λy10=>
 some (.inl (y10,wr (x1.2+1))))
 else
 (some (.inr x1.1))
def jB (a0:Int) (a1:Mt) (a2:Mt):Option Mt:=
 (sC a1.rows a2.cols).bind λv1=>
 (Lp (jA a0 a1 a2) (v1.cells,0)).bind λy11=>
 some ((⟨v1.rows,v1.cols,y11⟩:Mt))
theorem uX (a0:Int) (a1:Mt) (a2:Mt) (r:Mt) (h:jB a0 a1 a2=some r):HasC Tryz.prog 240 [.int a0,.agg (eM a1),.agg (eM a2)] (.agg (eM r)):=by
 refine hM [.cell 6 93] Tryz.func240 Tryz.ntmps240 k<|sR<|ae (wb k) k<|ae (wb k) k<|ae (bY aS k k) k<|an<|tn<|sR<|fp k8<|lp k8<|fp k8<|lp k8<|oB h λv1 hv1 h=>ae (cM (aEQ a1.rows a2.cols v1 hv1) k3 (bX k (bX k aL))) k<|ae (bY aS k k) k<|ae (ws k) k<|an<|tn<|sQ<|sR<|aT k2<|aE<|oB h λy11 hy11 h=>bP (body:=(jA a0 a1 a2)) hy11 (λ(x1:((List Int)×Int))=>mN [(0,.int a0),(4,.ptr 0 0 0),(5,.ptr 1 0 0),(6,.ptr 2 0 0),(7,.ptr 3 0 0),(8,.int x1.2)] [(0,⟨3,[eM a1]⟩),(1,⟨3,[eM a2]⟩),(2,⟨3,[eY]⟩),(3,⟨3,[[.int v1.rows,.int v1.cols,.own 4 0 x1.1.length]]⟩),(4,⟨1,x1.1.map (ow eI)⟩)] 5) (λr e t=>e= .exit 0∧Ent t (mN [(6,.ptr 0 0 0),(7,.ptr 1 0 0)] [(0,⟨3,[eY]⟩),(1,⟨3,[[.int v1.rows,.int v1.cols,.own 2 0 r.length]]⟩),(2,⟨1,r.map (ow eI)⟩)] 3)) (vS [0,1,2,4,3] (bH k2) (bF k<|bF k<|bF k<|iF k<|bT k<|aY) k4) ?_ ?_
 ·intro x1 o h;refine sQ<|sR<|am k k<|fp k8<|lp k8<|cm k4<|an<|tn<|cO k h (λ_ h=>?_) λ_ h=>aV<|aB<|aB<|sp h ⟨_,k,k,(vS [2,3,4] (bH k2) (bF k<|iF k<|bT k<|aY) k4)⟩;refine aI<|tn<|sQ<|aE<|sR<|aT k2<|aE<|oB h λy10 hy10 h=>bP (body:=(iZ a0 a1 a2 x1)) hy10 (λ(x2:((List Int)×Int))=>mN [(0,.int a0),(4,.ptr 0 0 0),(5,.ptr 1 0 0),(6,.ptr 2 0 0),(7,.ptr 3 0 0),(8,.int x1.2),(9,.int x2.2)] [(0,⟨3,[eM a1]⟩),(1,⟨3,[eM a2]⟩),(2,⟨3,[eY]⟩),(3,⟨3,[[.int v1.rows,.int v1.cols,.own 4 0 x2.1.length]]⟩),(4,⟨1,x2.1.map (ow eI)⟩)] 5) (λr e t=>e= .exit 2∧Ent t (mN [(0,.int a0),(4,.ptr 0 0 0),(5,.ptr 1 0 0),(6,.ptr 2 0 0),(7,.ptr 3 0 0),(8,.int x1.2)] [(0,⟨3,[eM a1]⟩),(1,⟨3,[eM a2]⟩),(2,⟨3,[eY]⟩),(3,⟨3,[[.int v1.rows,.int v1.cols,.own 4 0 r.length]]⟩),(4,⟨1,r.map (ow eI)⟩)] 5)) (bK (bH k2) (bF k<|bF k<|bF k<|iF k<|bT k<|aY) k4) ?_ ?_
  ·intro x2 o h;refine sQ<|sR<|am k k<|fp k8<|lp k8<|cm k4<|an<|tn<|cO k h (λ_ h=>?_) λ_ h=>aV<|aB<|aB<|sp h ⟨_,k,k,(bK (bH k2) (bF k<|bF k<|bF k<|iF k<|bT k<|aY) k4)⟩;refine aI<|tn<|sQ<|aE<|sR<|aT k2<|sQ<|sR<|aT k2<|aE<|oB h λy7 hy7 h=>bP (body:=(iY a1 a2 x1 x2)) hy7 (λ(x3:(Int×Int))=>mN [(0,.int a0),(4,.ptr 0 0 0),(5,.ptr 1 0 0),(6,.ptr 2 0 0),(7,.ptr 3 0 0),(8,.int x1.2),(9,.int x2.2),(10,.int x3.1),(11,.int x3.2)] [(0,⟨3,[eM a1]⟩),(1,⟨3,[eM a2]⟩),(2,⟨3,[eY]⟩),(3,⟨3,[[.int v1.rows,.int v1.cols,.own 4 0 x2.1.length]]⟩),(4,⟨1,x2.1.map (ow eI)⟩)] 5) (λr e t=>e= .exit 4∧Ent t (mN [(0,.int a0),(4,.ptr 0 0 0),(5,.ptr 1 0 0),(6,.ptr 2 0 0),(7,.ptr 3 0 0),(8,.int x1.2),(9,.int x2.2),(10,.int r)] [(0,⟨3,[eM a1]⟩),(1,⟨3,[eM a2]⟩),(2,⟨3,[eY]⟩),(3,⟨3,[[.int v1.rows,.int v1.cols,.own 4 0 x2.1.length]]⟩),(4,⟨1,x2.1.map (ow eI)⟩)] 5)) (bK (bH k2) (bF k<|bF k<|bF k<|iF k<|bT k<|aY) k4) ?_ ?_
   ·intro x3 o h;refine sQ<|sR<|am k k<|fp k8<|lp k8<|cm k4<|an<|tn<|cO k h (λ_ h=>?_) λ_ h=>aV<|aB<|aB<|sp h ⟨_,k,k,(bK (bH k2) (bF k<|bF k<|bF k<|iF k<|bT k<|aY) k4)⟩;refine aI<|tn<|sQ<|aE<|aO fZ<|am k k<|fp k8<|lp k8<|am k k<|fp k8<|lp k8<|ae (dJ k k) k<|am k k<|ae (bB k k) k<|oB h λv5 hv5 h=>ae (xl hv5 k) k<|lr k7<|fp k8<|lp k8<|am k k<|fp k8<|lp k8<|ae (dJ k k) k<|am k k<|ae (bB k k) k<|oB h λv6 hv6 h=>ae (xl hv6 k) k<|lr k7<|ae (dJ k k) k<|ae (bB k k) k<|aa k k ?_;exact an<|oW (by kernel_rfl)<|aX<|tn<|aP (t:=mN [(0,.int a0),(4,.ptr 0 0 0),(5,.ptr 1 0 0),(6,.ptr 2 0 0),(7,.ptr 3 0 0),(8,.int x1.2),(9,.int x2.2),(10,.int (wr (x3.1+(wr (v5*v6))))),(11,.int x3.2)] [(0,⟨3,[eM a1]⟩),(1,⟨3,[eM a2]⟩),(2,⟨3,[eY]⟩),(3,⟨3,[[.int v1.rows,.int v1.cols,.own 4 0 x2.1.length]]⟩),(4,⟨1,x2.1.map (ow eI)⟩)] 5) (bK (bH k2) (bF k<|bF k<|bF k<|iF k<|bT k<|aY) k4)<|rg<|am k k<|ae (bB k k) k<|aT k2<|sp h ⟨_,k,(bK (bH k2) (bF k<|bF k<|bF k<|iF k<|bT k<|aY) k4)⟩
   ·rintro e t ⟨rfl,hent⟩;exact aN<|tn<|aP hent<|aO fZ<|fp k8<|lp k8<|am k k<|fp k8<|lp k8<|ae (dJ k k) k<|am k k<|ae (bB k k) k<|am k k<|am k k<|oB h λv8 hv8 h=>ae (aH (gS a0 y7 v8 hv8) k (bX k (bX k aL))) k<|oB h λv9 hv9 h=>ae (xo hv9 k) k<|ae (fY aS pX (u:=v8) (eO hv9) k k k k k k) k<|an<|oW (by kernel_rfl)<|aX<|tn<|rg<|am k k<|ae (bB k k) k<|aT k2<|sp h ⟨_,k,(bK (bH k2) (bF k<|bF k<|bF k<|hX ⟨_,k,k,.inr ⟨_,_,k,⟨_,_,k,k,⟨_,_,k,k,⟨_,_,k,⟨k,k,(by simp only [aW,lA,lT,lR,lC,lN]),k⟩,k⟩⟩⟩,k⟩⟩ k<|bT k<|aY) k4)⟩
  ·rintro e t ⟨rfl,hent⟩;exact aN<|aX<|tn<|aP hent<|rg<|am k k<|ae (bB k k) k<|aT k2<|sp h ⟨_,k,(bK (bH k2) (bF k<|bF k<|bF k<|iF k<|bT k<|aY) k4)⟩
 ·rintro e t ⟨rfl,hent⟩;exact aN<|tn<|aP hent<|sR<|lp k8<|ae (ws k) k<|an<|tn<|aC<|sp h (bD k k k (rR (bL (k) (bL (k) (bL (gC dY k k) mU)))))
def jC (a0:Int) (a1:Int) (x1:Int):Option (Int ⊕ (Unit ⊕ Int)):=
 bif decide (x1<a0) then
 ((mX a0).bind λv2=>
 bif v2 then
 ((dW a0 a1).bind λv4=>
 (dW a0 (wr (v4*x1))).bind λv5=>
 bif decide (v5=1) then
 (some (.inr (.inr (x1))))
 else
 (some (.inl (wr (x1+1)))))
 else
 (some (.inr (.inl ()))))
 else
 (some (.inr (.inl ())))
def mG (a0:Int) (a1:Int):Option Int:=
 (Lp (jC a0 a1) 1).bind λy7=>
 Sum.elim (λy8=>
 some (0)
 )
 (λy9=>
 some y9
 )
 y7
theorem aBJ (a0:Int) (a1:Int) (r:Int) (h:mG a0 a1=some r):HasC Tryz.prog 142 [.int a0,.int a1] (.int r):=by
 refine hM [.tmp 4] Tryz.func142 Tryz.ntmps142 k<|sR<|aT k2<|sQ<|sR<|aT k2<|aE<|oB h λy7 hy7 h=>bP (body:=(jC a0 a1)) hy7 (λ(x1:Int)=>mN [(0,.int a0),(1,.int a1),(5,.int x1)] [] 0) (λr e t=>Sum.elim (λa=>(λr e t=>e= .exit 0∧Ent t (mN [] [] 0)) a e t) (λb=>(λr e t=>e= .ret∧qE TT [.tmp 4] (.int r) .ret t) b e t) r) (bK (bH k2) aY k4) ?_ ?_
 ·intro x1 o h;exact sQ<|sR<|am k k<|am k k<|cm k4<|am k k<|mR h (λq1 h=>aJ 9 k q1<|am k k<|oB h λv2 hv2 h=>ae (aH (uG a0 v2 hv2) k (bX k aL)) k<|pk k3<|an<|tn<|cO k h (λ_ h=>aI<|tn<|sQ<|aE<|sR<|am k k<|am k k<|am k k<|oB h λv4 hv4 h=>ae (aH (gS a0 a1 v4 hv4) k (bX k (bX k aL))) k<|am k k<|ae (dJ k k) k<|oB h λv5 hv5 h=>ae (aH (gS a0 (wr (v4*x1)) v5 hv5) k (bX k (bX k aL))) k<|cm k4<|an<|tn<|cO k h (λ_ h=>sR<|am k k<|aT k2<|aC<|bA<|aG<|aG<|sp h ⟨_,k,k,bD k k k (aBi k)⟩) λ_ h=>aI<|aX<|tn<|rg<|am k k<|ae (bB k k) k<|aT k2<|sp h ⟨_,k,(bK (bH k2) aY k4)⟩) λ_ h=>aV<|aB<|aB<|sp h ⟨_,k,k,(bK aY aY k4)⟩) λq1 h=>aJ 9 k q1<|aK k4<|pk k3<|an<|tn<|sK k k<|aV<|aB<|aB<|sp h ⟨_,k,k,(bK aY aY k4)⟩
 ·intro e t hX;rcases y7 with y8|y9
  ·obtain ⟨rfl,hent⟩:=hX;exact aN<|tn<|aP hent<|sR<|aT k2<|aC<|oV h k2
  ·obtain ⟨rfl,hent⟩:=hX;exact bA<|aG<|sp h hent
def kX (a0:Int) (a1:(List Int)) (x1:Int):Option (Int ⊕ (Unit ⊕ Bool)):=
 bif decide (x1<(a1.length:Int)) then
 ((cP a1 x1).bind λv5=>
 (gZ v5 0 (wr (a0 - 1))).bind λv6=>
 bif !v6 then
 (some (.inr (.inr (false))))
 else
 (some (.inl (wr (x1+1)))))
 else
 (some (.inr (.inl ())))
def oZ (a0:Int) (a1:(List Int)):Option Bool:=
 (mX a0).bind λv1=>
 bif !v1 then
 (some (false))
 else
 (bif decide (64<(a1.length:Int)) then
 (some (false))
 else
 ((Lp (kX a0 a1) 0).bind λy8=>
 Sum.elim (λy9=>
 some (true)
 )
 (λy10=>
 some y10
 )
 y8))
theorem aCS (a0:Int) (a1:(List Int)) (r:Bool) (h:oZ a0 a1=some r):HasC Tryz.prog 176 [.int a0,.list 1 (a1.map eI)] (.bl r):=by
 refine hM [.tmp 4] Tryz.func176 Tryz.ntmps176 k<|sR<|aT k2<|sQ<|sR<|am k k<|oB h λv1 hv1 h=>ae (aH (uG a0 v1 hv1) k (bX k aL)) k<|ae (dC k) k<|am k k<|mR h (λq2 h=>aJ 9 k q2<|aK k4<|ak k k<|pk k3<|an<|tn<|dE k k<|sR<|aT k2<|aC<|aG<|fB h k2) λq2 h=>?_;refine aJ 9 k q2<|am k k<|ln k4<|cm k4<|pk k3<|an<|tn<|cO k h (λ_ h=>sR<|aT k2<|aC<|aG<|fB h k2) λ_ h=>?_;refine aI<|tn<|sQ<|sR<|aT k2<|aE<|oB h λy8 hy8 h=>bP (body:=(kX a0 a1)) hy8 (λ(x1:Int)=>mN [(0,.int a0),(1,.list 1 (a1.map eI)),(5,.int x1)] [] 0) (λr e t=>Sum.elim (λa=>(λr e t=>e= .exit 0∧Ent t (mN [] [] 0)) a e t) (λb=>(λr e t=>e= .ret∧qE TT [.tmp 4] (.bl r) .ret t) b e t) r) (bK (bH k2) aY k4) ?_ ?_
 ·intro x1 o h;exact sQ<|sR<|am k k<|am k k<|ln k4<|cm k4<|an<|tn<|cO k h (λ_ h=>aI<|tn<|sQ<|aE<|sR<|am k k<|am k k<|oB h λv5 hv5 h=>ae (xl hv5 k) k<|lr k7<|am k k<|ae (kS k k) k<|oB h λv6 hv6 h=>ae (aH (kT v5 0 (wr (a0 - 1)) v6 hv6) k (bX k (bX k (bX k aL)))) k<|ae (dC k) k<|an<|tn<|cO k h (λ_ h=>sR<|aT k2<|aC<|bA<|aG<|aG<|sp h ⟨_,k,k,bD k k k (nX k)⟩) λ_ h=>aI<|aX<|tn<|rg<|am k k<|ae (bB k k) k<|aT k2<|sp h ⟨_,k,(bK (bH k2) aY k4)⟩) λ_ h=>aV<|aB<|aB<|sp h ⟨_,k,k,(bK aY aY k4)⟩
 ·intro e t hX;rcases y8 with y9|y10
  ·obtain ⟨rfl,hent⟩:=hX;exact aN<|tn<|aP hent<|sR<|aT k2<|aC<|fB h k2
  ·obtain ⟨rfl,hent⟩:=hX;exact bA<|aG<|sp h hent
def iQ (a0:Int) (a1:Mt):Option Bool:=
 (gZ a1.rows 0 8).bind λv1=>
 bif v1 then
 ((gZ a1.cols 0 8).bind λv3=>
 bif v3 then
 (bif decide ((a1.cells.length:Int)=wr (a1.rows*a1.cols)) then
 ((oZ a0 a1.cells).bind λv6=>
 some (v6))
 else
 (some (false)))
 else
 (some (false)))
 else
 (some (false))
theorem tB (a0:Int) (a1:Mt) (r:Bool) (h:iQ a0 a1=some r):HasC Tryz.prog 135 [.int a0,.agg (eM a1)] (.bl r):=by
 exact hM [.tmp 4] Tryz.func135 Tryz.ntmps135 k<|sR<|ae (wb k) k<|aT k2<|sR<|fp k8<|lp k8<|oB h λv1 hv1 h=>ae (aH (kT a1.rows 0 8 v1 hv1) k (bX k (bX k (bX k aL)))) k<|am k k<|mR h (λq2 h=>aJ 8 k q2<|fp k8<|lp k8<|oB h λv3 hv3 h=>ae (aH (kT a1.cols 0 8 v3 hv3) k (bX k (bX k (bX k aL)))) k<|pk k3<|am k k<|mR h (λq4 h=>aJ 13 k q4<|fp k8<|lp k8<|ln k4<|fp k8<|lp k8<|fp k8<|lp k8<|ae (dJ k k) k<|cm k4<|pk k3<|am k k<|mR h (λq5 h=>aJ 24 k q5<|am k k<|fp k8<|lp k8<|oB h λv6 hv6 h=>ae (aH (aCS a0 a1.cells v6 hv6) k (bX k (bX k aL))) k<|pk k3<|aT k2<|aC<|fB h k2) λq5 h=>aJ 24 k q5<|aK k4<|aK k4<|pk k3<|aT k2<|aC<|fB h k2) λq4 h=>aJ 13 k q4<|aK k4<|aK k4<|aK k4<|aK k4<|ak k k<|pk k3<|am k k<|aK k4<|aK k4<|pk k3<|aT k2<|aC<|fB h k2) λq2 h=>aJ 8 k q2<|aK k4<|ak k k<|pk k3<|am k k<|aK k4<|aK k4<|aK k4<|aK k4<|ak k k<|pk k3<|am k k<|aK k4<|aK k4<|pk k3<|aT k2<|aC<|fB h k2
def vO (a0:Mt):Option Mt:=
 bif decide (([]:(List Int)).length +a0.cells.length≤4294967296) then
 (some ((⟨a0.rows,a0.cols,(([]:(List Int))++a0.cells)⟩:Mt)))
 else none
theorem aER (a0:Mt) (r:Mt) (h:vO a0=some r):HasC Tryz.prog 141 [.agg (eM a0)] (.agg (eM r)):=by
 exact hM [.cell 2 93] Tryz.func141 Tryz.ntmps141 k<|sR<|ae (wb k) k<|ae (bY aS k k) k<|an<|tn<|sQ<|aO fZ<|fp k8<|lp k8<|fp k8<|lp k8<|ae (wl k) k<|fp k8<|lp k8<|cG h λq1 h=>ae (yL aS (l:=([]:(List Int))) (m:=a0.cells) pX q1 k k k k k k k k k k k k) k<|ae (wW aS k k k k k k) k<|ae (ws k) k<|an<|oW (by kernel_rfl)<|tn<|aC<|sp h (bD k k k (rR (bL (k) (bL (k) (bL (gC dY k k) mU)))))
end
noncomputable section
set_option maxRecDepth 10000
set_option maxHeartbeats 4000000
def hZ (v1:Mt) (x1:(Int×(List Int)×(List Int)×Int)) (x2:(Int×Int)):Option ((Int×Int) ⊕ Int):=
 bif decide (x1.2.2.2≤x2.2) then
 ((cP x1.2.1 (wr ((wr (x2.2*v1.cols))+x1.1))).bind λv5=>
 bif !decide (v5=0) then
 (some (.inl (x2.2,wr (x2.2 - 1))))
 else
 (some (.inl (x2.1,wr (x2.2 - 1)))))
 else
 (some (.inr x2.1))
def kY (v1:Mt) (x1:(Int×(List Int)×(List Int)×Int)) (y7:Int) (x3:((List Int)×Int)):Option (((List Int)×Int) ⊕ (List Int)):=
 bif decide (x3.2<v1.cols) then
 ((cP x3.1 (wr ((wr (x1.2.2.2*v1.cols))+x3.2))).bind λv10=>
 (cP x3.1 (wr ((wr (y7*v1.cols))+x3.2))).bind λv11=>
 (cP x3.1 (wr ((wr (x1.2.2.2*v1.cols))+x3.2))).bind λv12=>
 (cP (x3.1.set ((wr ((wr (x1.2.2.2*v1.cols))+x3.2)).toNat) v11) (wr ((wr (y7*v1.cols))+x3.2))).bind λv13=>
 some (.inl (((x3.1.set ((wr ((wr (x1.2.2.2*v1.cols))+x3.2)).toNat) v11).set ((wr ((wr (y7*v1.cols))+x3.2)).toNat) v10),wr (x3.2+1))))
 else
 (some (.inr x3.1))
def kZ (a0:Int) (v1:Mt) (v16:Int) (x1:(Int×(List Int)×(List Int)×Int)) (x4:((List Int)×Int)):Option (((List Int)×Int) ⊕ (List Int)):=
 bif decide (x4.2<v1.cols) then
 ((cP x4.1 (wr ((wr (x1.2.2.2*v1.cols))+x4.2))).bind λv18=>
 (dW a0 (wr (v16*v18))).bind λv19=>
 (cP x4.1 (wr ((wr (x1.2.2.2*v1.cols))+x4.2))).bind λv20=>
 some (.inl ((x4.1.set ((wr ((wr (x1.2.2.2*v1.cols))+x4.2)).toNat) v19),wr (x4.2+1))))
 else
 (some (.inr x4.1))
def iA (a0:Int) (v1:Mt) (v23:Int) (x1:(Int×(List Int)×(List Int)×Int)) (x5:((List Int)×Int)) (x6:((List Int)×Int)):Option (((List Int)×Int) ⊕ (List Int)):=
 bif decide (x6.2<v1.cols) then
 (bif !decide (x5.2=x1.2.2.2) then
 ((cP x6.1 (wr ((wr (x5.2*v1.cols))+x6.2))).bind λv26=>
 (cP x6.1 (wr ((wr (x1.2.2.2*v1.cols))+x6.2))).bind λv27=>
 (dW a0 (wr (v26 - (wr (v23*v27))))).bind λv28=>
 (cP x6.1 (wr ((wr (x5.2*v1.cols))+x6.2))).bind λv29=>
 some (.inl ((x6.1.set ((wr ((wr (x5.2*v1.cols))+x6.2)).toNat) v28),wr (x6.2+1))))
 else
 (some (.inr x6.1)))
 else
 (some (.inr x6.1))
def lD (a0:Int) (v1:Mt) (x1:(Int×(List Int)×(List Int)×Int)) (x5:((List Int)×Int)):Option (((List Int)×Int) ⊕ (List Int)):=
 bif decide (x5.2<v1.rows) then
 ((cP x5.1 (wr ((wr (x5.2*v1.cols))+x1.1))).bind λv23=>
 (Lp (iA a0 v1 v23 x1 x5) (x5.1,0)).bind λy30=>
 some (.inl (y30,wr (x5.2+1))))
 else
 (some (.inr x5.1))
def eB (a0:Int) (v1:Mt) (x1:(Int×(List Int)×(List Int)×Int)):Option ((Int×(List Int)×(List Int)×Int) ⊕ ((List Int)×(List Int))):=
 bif decide (x1.1<v1.cols) then
 (bif decide (x1.2.2.2<v1.rows) then
 ((Lp (hZ v1 x1) ((-1),wr (v1.rows - 1))).bind λy7=>
 bif decide (y7<0) then
 (some (.inl (wr (x1.1+1),x1.2.1,x1.2.2.1,x1.2.2.2)))
 else
 ((Lp (kY v1 x1 y7) (x1.2.1,0)).bind λy14=>
 (cP y14 (wr ((wr (x1.2.2.2*v1.cols))+x1.1))).bind λv15=>
 (mG a0 v15).bind λv16=>
 (Lp (kZ a0 v1 v16 x1) (y14,0)).bind λy21=>
 (Lp (lD a0 v1 x1) (y21,0)).bind λy31=>
 bif decide (x1.2.2.1.length+[x1.1].length ≤4294967296) then
 (some (.inl (wr (x1.1+1),y31,(x1.2.2.1++[x1.1]),wr (x1.2.2.2+1))))
 else none))
 else
 (some (.inr (x1.2.1,x1.2.2.1))))
 else
 (some (.inr (x1.2.1,x1.2.2.1)))
def iR (a0:Int) (a1:Mt):Option (Mt×(List Int)):=
 (vO a1).bind λv1=>
 (Lp (eB a0 v1) (0,v1.cells,([]:(List Int)),0)).bind λy33=>
 some (((⟨v1.rows,v1.cols,y33.1⟩:Mt),y33.2))
theorem tC (a0:Int) (a1:Mt) (r:(Mt×(List Int))) (h:iR a0 a1=some r):HasC Tryz.prog 84 [.int a0,.agg (eM a1)] (.tuple [.agg (eM r.1),.list 1 (r.2.map eI)]):=by
 refine hM [.cell 4 93,.tmp 5] Tryz.func84 Tryz.ntmps84 k<|sR<|ae (wb k) k<|ae (bY aS k k) k<|aT k2<|sR<|lp k8<|oB h λv1 hv1 h=>ae (cM (aER a1 v1 hv1) k3 (aD (cN k) aL)) k<|ae (bY aS k k) k<|ae (ws k) k<|an<|tn<|sR<|ae (wl k) k<|aT k2<|aP (t:=mN [(0,.int a0),(4,.ptr 1 0 0),(6,.ptr 3 0 0),(7,.own 4 0 (([]:(List Int)).length))] [(1,⟨3,[eY]⟩),(2,⟨1,v1.cells.map (ow eI)⟩),(3,⟨3,[oMt v1 2]⟩),(4,⟨1,List.map (ow eI) ([]:(List Int))⟩)] 5) (bK (tN 3 k2 (sW ⟨_,k,⟨k,k,(by simp only [aW,lA,lT,lR,lC,lN]),k⟩⟩ aY)) (bF k<|bT k<|iF k<|bT k<|aY) k4)<|sR<|aT k2<|sQ<|sQ ?_;refine rg<|aT k2<|aE<|oB h λy33 hy33 h=>bP (body:=(eB a0 v1)) hy33 (λ(x1:(Int×(List Int)×(List Int)×Int))=>mN [(0,.int a0),(4,.ptr 0 0 0),(6,.ptr 1 0 0),(7,.own 3 0 x1.2.2.1.length),(8,.int x1.2.2.2),(9,.int x1.1)] [(0,⟨3,[eY]⟩),(1,⟨3,[[.int v1.rows,.int v1.cols,.own 2 0 x1.2.1.length]]⟩),(2,⟨1,x1.2.1.map (ow eI)⟩),(3,⟨1,x1.2.2.1.map (ow eI)⟩)] 4) (λr e t=>e= .exit 0∧Ent t (mN [(4,.ptr 0 0 0),(6,.ptr 1 0 0),(7,.own 3 0 r.2.length)] [(0,⟨3,[eY]⟩),(1,⟨3,[[.int v1.rows,.int v1.cols,.own 2 0 r.1.length]]⟩),(2,⟨1,r.1.map (ow eI)⟩),(3,⟨1,r.2.map (ow eI)⟩)] 4)) (vS [1,3,2,4] (bH k2) (bF k<|iF k<|bT k<|bT k<|aY) k4) ?_ ?_
 ·intro x1 o h;refine sQ<|sR<|am k k<|fp k8<|lp k8<|cm k4<|am k k<|mR h (λq2 h=>?_) λq2 h=>aJ 26 k q2<|aK k4<|aK k4<|pk k3<|an<|tn<|sK k k<|aV<|aB<|aB<|sp h ⟨_,k,k,(bK (bH k2) (bF k<|iF k<|bT k<|bT k<|aY) k4)⟩;refine aJ 26 k q2<|am k k<|fp k8<|lp k8<|cm k4<|pk k3<|an<|tn<|cO k h (λ_ h=>?_) λ_ h=>aV<|aB<|aB<|sp h ⟨_,k,k,(bK (bH k2) (bF k<|iF k<|bT k<|bT k<|aY) k4)⟩;refine aI<|tn<|sQ<|aE<|sR<|aT k2<|sQ<|sR<|fp k8<|lp k8<|ae (kS k k) k<|aT k2<|aE<|oB h λy7 hy7 h=>bP (body:=(hZ v1 x1)) hy7 (λ(x2:(Int×Int))=>mN [(0,.int a0),(4,.ptr 0 0 0),(6,.ptr 1 0 0),(7,.own 3 0 x1.2.2.1.length),(8,.int x1.2.2.2),(9,.int x1.1),(10,.int x2.1),(11,.int x2.2)] [(0,⟨3,[eY]⟩),(1,⟨3,[[.int v1.rows,.int v1.cols,.own 2 0 x1.2.1.length]]⟩),(2,⟨1,x1.2.1.map (ow eI)⟩),(3,⟨1,x1.2.2.1.map (ow eI)⟩)] 4) (λr e t=>e= .exit 2∧Ent t (mN [(0,.int a0),(4,.ptr 0 0 0),(6,.ptr 1 0 0),(7,.own 3 0 x1.2.2.1.length),(8,.int x1.2.2.2),(9,.int x1.1),(10,.int r)] [(0,⟨3,[eY]⟩),(1,⟨3,[[.int v1.rows,.int v1.cols,.own 2 0 x1.2.1.length]]⟩),(2,⟨1,x1.2.1.map (ow eI)⟩),(3,⟨1,x1.2.2.1.map (ow eI)⟩)] 4)) (bK (bH k2) (bF k<|iF k<|bT k<|bT k<|aY) k4) ?_ ?_
  ·intro x2 o h;exact sQ<|sR<|am k k<|am k k<|cm k4<|an<|tn<|cO k h (λ_ h=>aI<|tn<|sQ<|aE<|sR<|fp k8<|lp k8<|am k k<|fp k8<|lp k8<|ae (dJ k k) k<|am k k<|ae (bB k k) k<|oB h λv5 hv5 h=>ae (xo hv5 k) k<|ae (wp hv5 k) k<|cm k4<|an<|tn<|cO k h (λ_ h=>rg<|am k k<|aa k k<|an<|aX<|tn<|rg<|am k k<|ae (kS k k) k<|aT k2<|sp h ⟨_,k,(bK (bH k2) (bF k<|iF k<|bT k<|bT k<|aY) k4)⟩) λ_ h=>aI<|aX<|tn<|rg<|am k k<|ae (kS k k) k<|aT k2<|sp h ⟨_,k,(bK (bH k2) (bF k<|iF k<|bT k<|bT k<|aY) k4)⟩) λ_ h=>aV<|aB<|aB<|sp h ⟨_,k,k,(bK (bH k2) (bF k<|iF k<|bT k<|bT k<|aY) k4)⟩
  ·rintro e t ⟨rfl,hent⟩;refine aN<|tn<|aP hent<|sQ<|sR<|am k k<|cm k4<|an<|tn<|cO k h (λ_ h=>aV<|aB<|aN<|tn<|rg<|am k k<|ae (bB k k) k<|aT k2<|sp h ⟨_,k,(bK (bH k2) (bF k<|iF k<|bT k<|bT k<|aY) k4)⟩) λ_ h=>?_;refine aI<|tn<|sQ<|sR<|aT k2<|aE<|oB h λy14 hy14 h=>bP (body:=(kY v1 x1 y7)) hy14 (λ(x3:((List Int)×Int))=>mN [(0,.int a0),(4,.ptr 0 0 0),(6,.ptr 1 0 0),(7,.own 3 0 x1.2.2.1.length),(8,.int x1.2.2.2),(9,.int x1.1),(10,.int y7),(12,.int x3.2)] [(0,⟨3,[eY]⟩),(1,⟨3,[[.int v1.rows,.int v1.cols,.own 2 0 x3.1.length]]⟩),(2,⟨1,x3.1.map (ow eI)⟩),(3,⟨1,x1.2.2.1.map (ow eI)⟩)] 4) (λr e t=>e= .exit 4∧Ent t (mN [(0,.int a0),(4,.ptr 0 0 0),(6,.ptr 1 0 0),(7,.own 3 0 x1.2.2.1.length),(8,.int x1.2.2.2),(9,.int x1.1)] [(0,⟨3,[eY]⟩),(1,⟨3,[[.int v1.rows,.int v1.cols,.own 2 0 r.length]]⟩),(2,⟨1,r.map (ow eI)⟩),(3,⟨1,x1.2.2.1.map (ow eI)⟩)] 4)) (bK (bH k2) (bF k<|iF k<|bT k<|bT k<|aY) k4) ?_ ?_
   ·intro x3 o h;refine sQ<|sR<|am k k<|fp k8<|lp k8<|cm k4<|an<|tn<|cO k h (λ_ h=>?_) λ_ h=>aV<|aB<|aB<|sp h ⟨_,k,k,(bK (bH k2) (bF k<|iF k<|bT k<|bT k<|aY) k4)⟩;refine aI<|tn<|sQ<|aE<|sR<|fp k8<|lp k8<|am k k<|fp k8<|lp k8<|ae (dJ k k) k<|am k k<|ae (bB k k) k<|oB h λv10 hv10 h=>ae (xo hv10 k) k<|ae (wp hv10 k) k<|aT k2<|sQ<|aO fZ<|fp k8<|lp k8<|am k k<|fp k8<|lp k8<|ae (dJ k k) k<|am k k<|ae (bB k k) k ?_;refine fp k8<|lp k8<|am k k<|fp k8<|lp k8<|ae (dJ k k) k<|am k k<|ae (bB k k) k<|oB h λv11 hv11 h=>ae (xo hv11 k) k<|ae (wp hv11 k) k<|oB h λv12 hv12 h=>ae (xo hv12 k) k<|ae (fY aS pX (u:=v11) (eO hv12) k k k k k k) k<|an<|oW (by kernel_rfl)<|tn<|aP (t:=mN [(0,.int a0),(4,.ptr 0 0 0),(6,.ptr 1 0 0),(7,.own 3 0 x1.2.2.1.length),(8,.int x1.2.2.2),(9,.int x1.1),(10,.int y7),(12,.int x3.2),(13,.int v10)] [(0,⟨3,[eY]⟩),(1,⟨3,[[.int v1.rows,.int v1.cols,.own 2 0 ((x3.1.set ((wr ((wr (x1.2.2.2*v1.cols))+x3.2)).toNat) v11).length)]]⟩),(2,⟨1,List.map (ow eI) (x3.1.set ((wr ((wr (x1.2.2.2*v1.cols))+x3.2)).toNat) v11)⟩),(3,⟨1,x1.2.2.1.map (ow eI)⟩)] 4) (bK (bH k2) (bF k<|hX ⟨_,k,k,.inr ⟨_,_,k,⟨_,_,k,k,⟨_,_,k,k,⟨_,_,k,⟨k,k,(by simp only [aW,lA,lT,lR,lC,lN]),k⟩,k⟩⟩⟩,k⟩⟩ k<|bT k<|bT k<|aY) k4)<|rg<|fp k8<|lp k8<|am k k<|fp k8<|lp k8<|ae (dJ k k) k<|am k k<|ae (bB k k) k<|am k k<|oB h λv13 hv13 h=>ae (xo hv13 k) k<|ae (fY aS pX (u:=v10) (eO hv13) k k k k k k) k<|an<|aX ?_;exact tn<|rg<|am k k<|ae (bB k k) k<|aT k2<|sp h ⟨_,k,(bK (bH k2) (bF k<|hX ⟨_,k,k,.inr ⟨_,_,k,⟨_,_,k,k,⟨_,_,k,k,⟨_,_,k,⟨k,k,(by simp only [aW,lA,lT,lR,lC,lN]),k⟩,k⟩⟩⟩,k⟩⟩ k<|bT k<|bT k<|aY) k4)⟩
   ·rintro e t ⟨rfl,hent⟩;refine aN<|tn<|aP hent<|sR<|am k k<|fp k8<|lp k8<|am k k<|fp k8<|lp k8<|ae (dJ k k) k<|am k k<|ae (bB k k) k<|oB h λv15 hv15 h=>ae (xo hv15 k) k<|ae (wp hv15 k) k<|oB h λv16 hv16 h=>ae (aH (aBJ a0 v15 v16 hv16) k (bX k (bX k aL))) k<|aT k2<|sQ<|sR<|aT k2<|aE<|oB h λy21 hy21 h=>bP (body:=(kZ a0 v1 v16 x1)) hy21 (λ(x4:((List Int)×Int))=>mN [(0,.int a0),(4,.ptr 0 0 0),(6,.ptr 1 0 0),(7,.own 3 0 x1.2.2.1.length),(8,.int x1.2.2.2),(9,.int x1.1),(14,.int v16),(15,.int x4.2)] [(0,⟨3,[eY]⟩),(1,⟨3,[[.int v1.rows,.int v1.cols,.own 2 0 x4.1.length]]⟩),(2,⟨1,x4.1.map (ow eI)⟩),(3,⟨1,x1.2.2.1.map (ow eI)⟩)] 4) (λr e t=>e= .exit 6∧Ent t (mN [(0,.int a0),(4,.ptr 0 0 0),(6,.ptr 1 0 0),(7,.own 3 0 x1.2.2.1.length),(8,.int x1.2.2.2),(9,.int x1.1)] [(0,⟨3,[eY]⟩),(1,⟨3,[[.int v1.rows,.int v1.cols,.own 2 0 r.length]]⟩),(2,⟨1,r.map (ow eI)⟩),(3,⟨1,x1.2.2.1.map (ow eI)⟩)] 4)) (bK (bH k2) (bF k<|iF k<|bT k<|bT k<|aY) k4) ?_ ?_
    ·intro x4 o h;refine sQ<|sR<|am k k<|fp k8<|lp k8<|cm k4<|an<|tn<|cO k h (λ_ h=>?_) λ_ h=>aV<|aB<|aB<|sp h ⟨_,k,k,(bK (bH k2) (bF k<|iF k<|bT k<|bT k<|aY) k4)⟩;refine aI<|tn<|sQ<|aE<|aO fZ<|fp k8<|lp k8<|am k k<|fp k8<|lp k8<|ae (dJ k k) k<|am k k<|ae (bB k k) k<|am k k<|am k k<|fp k8<|lp k8<|am k k<|fp k8<|lp k8<|ae (dJ k k) k<|am k k<|ae (bB k k) k<|oB h λv18 hv18 h=>ae (xo hv18 k) k<|ae (wp hv18 k) k<|ae (dJ k k) k<|oB h λv19 hv19 h=>ae (aH (gS a0 (wr (v16*v18)) v19 hv19) k (bX k (bX k aL))) k<|oB h λv20 hv20 h=>ae (xo hv20 k) k<|ae (fY aS pX (u:=v19) (eO hv20) k k k k k k) k ?_;exact an<|oW (by kernel_rfl)<|aX<|tn<|aP (t:=mN [(0,.int a0),(4,.ptr 0 0 0),(6,.ptr 1 0 0),(7,.own 3 0 x1.2.2.1.length),(8,.int x1.2.2.2),(9,.int x1.1),(14,.int v16),(15,.int x4.2)] [(0,⟨3,[eY]⟩),(1,⟨3,[[.int v1.rows,.int v1.cols,.own 2 0 ((x4.1.set ((wr ((wr (x1.2.2.2*v1.cols))+x4.2)).toNat) v19).length)]]⟩),(2,⟨1,List.map (ow eI) (x4.1.set ((wr ((wr (x1.2.2.2*v1.cols))+x4.2)).toNat) v19)⟩),(3,⟨1,x1.2.2.1.map (ow eI)⟩)] 4) (bK (bH k2) (bF k<|hX ⟨_,k,k,.inr ⟨_,_,k,⟨_,_,k,k,⟨_,_,k,k,⟨_,_,k,⟨k,k,(by simp only [aW,lA,lT,lR,lC,lN]),k⟩,k⟩⟩⟩,k⟩⟩ k<|bT k<|bT k<|aY) k4)<|rg<|am k k<|ae (bB k k) k<|aT k2<|sp h ⟨_,k,(bK (bH k2) (bF k<|iF k<|bT k<|bT k<|aY) k4)⟩
    ·rintro e t ⟨rfl,hent⟩;refine aN<|tn<|aP hent<|sQ<|sR<|aT k2<|aE<|oB h λy31 hy31 h=>bP (body:=(lD a0 v1 x1)) hy31 (λ(x5:((List Int)×Int))=>mN [(0,.int a0),(4,.ptr 0 0 0),(6,.ptr 1 0 0),(7,.own 3 0 x1.2.2.1.length),(8,.int x1.2.2.2),(9,.int x1.1),(16,.int x5.2)] [(0,⟨3,[eY]⟩),(1,⟨3,[[.int v1.rows,.int v1.cols,.own 2 0 x5.1.length]]⟩),(2,⟨1,x5.1.map (ow eI)⟩),(3,⟨1,x1.2.2.1.map (ow eI)⟩)] 4) (λr e t=>e= .exit 8∧Ent t (mN [(0,.int a0),(4,.ptr 0 0 0),(6,.ptr 1 0 0),(7,.own 3 0 x1.2.2.1.length),(8,.int x1.2.2.2),(9,.int x1.1)] [(0,⟨3,[eY]⟩),(1,⟨3,[[.int v1.rows,.int v1.cols,.own 2 0 r.length]]⟩),(2,⟨1,r.map (ow eI)⟩),(3,⟨1,x1.2.2.1.map (ow eI)⟩)] 4)) (bK (bH k2) (bF k<|iF k<|bT k<|bT k<|aY) k4) ?_ ?_
     ·intro x5 o h;refine sQ<|sR<|am k k<|fp k8<|lp k8<|cm k4<|an<|tn<|cO k h (λ_ h=>?_) λ_ h=>aV<|aB<|aB<|sp h ⟨_,k,k,(bK (bH k2) (bF k<|iF k<|bT k<|bT k<|aY) k4)⟩;refine aI<|tn<|sQ<|aE<|sR<|fp k8<|lp k8<|am k k<|fp k8<|lp k8<|ae (dJ k k) k<|am k k<|ae (bB k k) k<|oB h λv23 hv23 h=>ae (xo hv23 k) k<|ae (wp hv23 k) k<|aT k2<|sR<|aT k2<|aE<|oB h λy30 hy30 h=>bP (body:=(iA a0 v1 v23 x1 x5)) hy30 (λ(x6:((List Int)×Int))=>mN [(0,.int a0),(4,.ptr 0 0 0),(6,.ptr 1 0 0),(7,.own 3 0 x1.2.2.1.length),(8,.int x1.2.2.2),(9,.int x1.1),(16,.int x5.2),(17,.int v23),(18,.int x6.2)] [(0,⟨3,[eY]⟩),(1,⟨3,[[.int v1.rows,.int v1.cols,.own 2 0 x6.1.length]]⟩),(2,⟨1,x6.1.map (ow eI)⟩),(3,⟨1,x1.2.2.1.map (ow eI)⟩)] 4) (λr e t=>e= .exit 10∧Ent t (mN [(0,.int a0),(4,.ptr 0 0 0),(6,.ptr 1 0 0),(7,.own 3 0 x1.2.2.1.length),(8,.int x1.2.2.2),(9,.int x1.1),(16,.int x5.2)] [(0,⟨3,[eY]⟩),(1,⟨3,[[.int v1.rows,.int v1.cols,.own 2 0 r.length]]⟩),(2,⟨1,r.map (ow eI)⟩),(3,⟨1,x1.2.2.1.map (ow eI)⟩)] 4)) (bK (bH k2) (bF k<|iF k<|bT k<|bT k<|aY) k4) ?_ ?_
      ·intro x6 o h;refine sQ<|sR<|am k k<|fp k8<|lp k8<|cm k4<|am k k<|mR h (λq24 h=>?_) λq24 h=>aJ 162 k q24<|aK k4<|ak k k<|pk k3<|an<|tn<|sK k k<|aV<|aB<|aB<|sp h ⟨_,k,k,(bK (bH k2) (bF k<|iF k<|bT k<|bT k<|aY) k4)⟩;refine aJ 162 k q24<|am k k<|am k k<|cm k4<|pk k3<|an<|tn<|cO k h (λ_ h=>?_) λ_ h=>aV<|aB<|aB<|sp h ⟨_,k,k,(bK (bH k2) (bF k<|iF k<|bT k<|bT k<|aY) k4)⟩;refine aI<|tn<|sQ<|aE<|aO fZ<|fp k8<|lp k8<|am k k<|fp k8<|lp k8<|ae (dJ k k) k<|am k k<|ae (bB k k) k<|am k k<|fp k8<|lp k8<|am k k<|fp k8<|lp k8<|ae (dJ k k) k<|am k k<|ae (bB k k) k<|oB h λv26 hv26 h=>ae (xo hv26 k) k<|ae (wp hv26 k) k<|am k k<|fp k8<|lp k8<|am k k<|fp k8 ?_;exact lp k8<|ae (dJ k k) k<|am k k<|ae (bB k k) k<|oB h λv27 hv27 h=>ae (xo hv27 k) k<|ae (wp hv27 k) k<|ae (dJ k k) k<|ae (kS k k) k<|oB h λv28 hv28 h=>ae (aH (gS a0 (wr (v26 - (wr (v23*v27)))) v28 hv28) k (bX k (bX k aL))) k<|oB h λv29 hv29 h=>ae (xo hv29 k) k<|ae (fY aS pX (u:=v28) (eO hv29) k k k k k k) k<|an<|oW (by kernel_rfl)<|aX<|tn<|aP (t:=mN [(0,.int a0),(4,.ptr 0 0 0),(6,.ptr 1 0 0),(7,.own 3 0 x1.2.2.1.length),(8,.int x1.2.2.2),(9,.int x1.1),(16,.int x5.2),(17,.int v23),(18,.int x6.2)] [(0,⟨3,[eY]⟩),(1,⟨3,[[.int v1.rows,.int v1.cols,.own 2 0 ((x6.1.set ((wr ((wr (x5.2*v1.cols))+x6.2)).toNat) v28).length)]]⟩),(2,⟨1,List.map (ow eI) (x6.1.set ((wr ((wr (x5.2*v1.cols))+x6.2)).toNat) v28)⟩),(3,⟨1,x1.2.2.1.map (ow eI)⟩)] 4) (bK (bH k2) (bF k<|hX ⟨_,k,k,.inr ⟨_,_,k,⟨_,_,k,k,⟨_,_,k,k,⟨_,_,k,⟨k,k,(by simp only [aW,lA,lT,lR,lC,lN]),k⟩,k⟩⟩⟩,k⟩⟩ k<|bT k<|bT k<|aY) k4)<|rg<|am k k<|ae (bB k k) k<|aT k2<|sp h ⟨_,k,(bK (bH k2) (bF k<|iF k<|bT k<|bT k<|aY) k4)⟩
      ·rintro e t ⟨rfl,hent⟩;exact aN<|aX<|tn<|aP hent<|rg<|am k k<|ae (bB k k) k<|aT k2<|sp h ⟨_,k,(bK (bH k2) (bF k<|iF k<|bT k<|bT k<|aY) k4)⟩
     ·rintro e t ⟨rfl,hent⟩;exact aN<|tn<|aP hent<|sR<|am k k<|am k k<|ae (wl k) k<|cG h λq32 h=>ae (yL aS (l:=x1.2.2.1) (m:=[x1.1]) pX q32 k k k k k k k k k k k k) k<|aT k2<|rg<|am k k<|ae (bB k k) k<|aa k k<|an<|aX<|tn<|rg<|am k k<|ae (bB k k) k<|aT k2<|sp h ⟨_,k,(vS [0,1,2,5] (bH k2) (bF k<|iF k<|bT k<|bT k<|aY) k4)⟩
 ·rintro e t ⟨rfl,hent⟩;exact aN<|tn<|aP hent<|sR<|lp k8<|am k k<|ae (ws k) k<|aT k2<|aC<|sp h (bD k k k (iX k (cF (aFy (bL (k) (bL (k) (bL (gC dY k k) mU)))) (cF (qN (gC dY k k)) qO))))
def rT (a0:Int) (a1:Mt):Option (Mt×(List Int)×Bool):=
 (iQ a0 a1).bind λv1=>
 bif !v1 then
 (some (((⟨0,0,[]⟩:Mt),([]:(List Int)),false)))
 else
 ((iR a0 a1).bind λv3=>
 some ((v3.1,v3.2,true)))
theorem aBs (a0:Int) (a1:Mt) (r:(Mt×(List Int)×Bool)) (h:rT a0 a1=some r):HasC Tryz.prog 254 [.int a0,.agg (eM a1)] (.tuple [.agg (eM r.1),.list 1 (r.2.1.map eI),.bl r.2.2]):=by
 exact hM [.cell 4 93,.tmp 5,.tmp 6] Tryz.func254 Tryz.ntmps254 k<|sR<|ae (wb k) k<|ae (bY aS k k) k<|aa k k<|aT k2<|sQ<|sR<|am k k<|lp k8<|oB h λv1 hv1 h=>ae (aH (tB a0 a1 v1 hv1) k (bX k (aD (cN k) aL))) k<|ae (dC k) k<|an<|tn<|cO k h (λ_ h=>sR<|ae (wW aS k k k k k k) k<|ae (wl k) k<|ae (ws k) k<|aa k k<|aT k2<|aP (t:=mN [(4,.ptr 1 0 0),(5,.own 2 0 (([]:(List Int)).length)),(6,.bl false)] [(1,⟨3,[eY]⟩),(2,⟨1,List.map (ow eI) ([]:(List Int))⟩)] 3) (bK (tN 1 k2 (sW ⟨_,k,⟨k,k,(by simp only [aW,lA,lT,lR,lC,lN]),k⟩⟩ (bH k2))) (bF k<|bT k<|aY) k4)<|aC<|aG<|sp h (bD k k k (iX k (cF (aFy (bL (k) (bL (k) (bL (k) mU)))) (cF (qN (gC dY k k)) (cF (k) qO)))))) λ_ h=>aI<|tn<|sR<|am k k<|lp k8<|oB h λv3 hv3 h=>ae (AEff.conv (qJ (x:= .tuple [.agg [.int v3.1.rows,.int v3.1.cols,.own 2 0 (v3.1.cells.map eI).length],.own 3 0 (v3.2.map eI).length]) (nb:=[(2,⟨1,cK (v3.1.cells.map eI)⟩),(3,⟨1,cK (v3.2.map eI)⟩)]) (tC a0 a1 v3 hv3) k (by rfl) k k (iE (cZ aY (cZ aY (cZ (dY.good _) xC))) (iE (dY.good _) yN)) (bX k (aD (cN k) aL))) (v':= .tuple [.agg [.int v3.1.rows,.int v3.1.cols,.own 2 0 v3.1.cells.length],.own 3 0 v3.2.length]) (ed':=[(2,some ⟨1,v3.1.cells.map (ow eI)⟩),(3,some ⟨1,v3.2.map (ow eI)⟩)]) (by simp only [aW]) (wB (nb':=[(2,⟨1,v3.1.cells.map (ow eI)⟩),(3,⟨1,v3.2.map (ow eI)⟩)]) (by simp only [mB]))) k<|am k k<|ae (cB k k (by intro _ h;cases h)) k<|ae (cB k k (by intro _ h;cases h)) k<|ae (bY aS k k) k<|ae (ws k) k<|aT k2<|sR<|lp k8<|am k k<|ae (ws k) k<|aa k k<|aT k2<|aC<|sp h (bD k k k (iX k (cF (aFy (bL (k) (bL (k) (bL (gC dY k k) mU)))) (cF (qN (gC dY k k)) (cF (k) qO)))))
def sD (a0:Int) (a1:Mt):Option Int:=
 (rT a0 a1).bind λv1=>
 bif !v1.2.2 then
 (some ((-1)))
 else
 (some (((v1.2.1.length:Nat):Int)))
theorem aES (a0:Int) (a1:Mt) (r:Int) (h:sD a0 a1=some r):HasC Tryz.prog 242 [.int a0,.agg (eM a1)] (.int r):=by
 exact hM [.tmp 4] Tryz.func242 Tryz.ntmps242 k<|sR<|ae (wb k) k<|aT k2<|sR<|am k k<|lp k8<|oB h λv1 hv1 h=>ae (AEff.conv (qJ (x:= .tuple [.agg [.int v1.1.rows,.int v1.1.cols,.own 1 0 (v1.1.cells.map eI).length],.own 2 0 (v1.2.1.map eI).length,.bl v1.2.2]) (nb:=[(1,⟨1,cK (v1.1.cells.map eI)⟩),(2,⟨1,cK (v1.2.1.map eI)⟩)]) (aBs a0 a1 v1 hv1) k (by rfl) k k (iE (cZ aY (cZ aY (cZ (dY.good _) xC))) (iE (dY.good _) (iE aY yN))) (bX k (aD (cN k) aL))) (v':= .tuple [.agg [.int v1.1.rows,.int v1.1.cols,.own 1 0 v1.1.cells.length],.own 2 0 v1.2.1.length,.bl v1.2.2]) (ed':=[(1,some ⟨1,v1.1.cells.map (ow eI)⟩),(2,some ⟨1,v1.2.1.map (ow eI)⟩)]) (by simp only [aW]) (wB (nb':=[(1,⟨1,v1.1.cells.map (ow eI)⟩),(2,⟨1,v1.2.1.map (ow eI)⟩)]) (by simp only [mB]))) k<|am k k<|ae (cB k k (by intro _ h;cases h)) k<|ae (cB k k (by intro _ h;cases h)) k<|ae (cB k k (by intro _ h;cases h)) k<|ae (bY aS k k) k<|ae (ws k) k<|aa k k<|aT k2<|sQ<|sR<|am k k<|ae (dC k) k<|an<|tn<|cO k h (λ_ h=>sR<|aT k2<|aC<|aG<|oV h k2) λ_ h=>aI<|tn<|sR<|am k k<|ae (dU aS k k k k) k<|aT k2<|aC<|oV h k2
def nG (a0:Int) (a1:Int):Option Int:=
 (hY a0).bind λv1=>
 bif !v1 then
 (some (0))
 else
 (bif !decide (a0=0) then
 (bif !decide (a0=0) then
 (some ((wr ((a1.tmod a0)+a0)).tmod a0))
 else none)
 else none)
theorem aBt (a0:Int) (a1:Int) (r:Int) (h:nG a0 a1=some r):HasC Tryz.prog 255 [.int a0,.int a1] (.int r):=by
 exact hM [.tmp 4] Tryz.func255 Tryz.ntmps255 k<|sR<|aT k2<|sQ<|sR<|am k k<|oB h λv1 hv1 h=>ae (aH (mY a0 v1 hv1) k (bX k aL)) k<|ae (dC k) k<|an<|tn<|cO k h (λ_ h=>sR<|aT k2<|aC<|aG<|oV h k2) λ_ h=>aI<|tn<|sR<|am k k<|am k k<|cG h λq4 h=>ae (yK k k q4) k<|am k k<|ae (bB k k) k<|am k k<|cG h λq3 h=>ae (yK k k q3) k<|aT k2<|aC<|oV h k2
def lF (a0:Int) (a1:Int) (a2:Int) (x1:(Int×Int)):Option ((Int×Int) ⊕ Int):=
 bif decide (x1.2<a2) then
 ((nG a0 a1).bind λv6=>
 bif !decide (a0=0) then
 (some (.inl ((wr (x1.1*v6)).tmod a0,wr (x1.2+1))))
 else none)
 else
 (some (.inr x1.1))
def pA (a0:Int) (a1:Int) (a2:Int):Option Int:=
 (hY a0).bind λv1=>
 bif !v1 then
 (some (0))
 else
 ((jN a2 0 1000).bind λv3=>
 bif !v3 then
 (some (0))
 else
 ((Lp (lF a0 a1 a2) (1,0)).bind λy8=>
 some (y8)))
theorem aCT (a0:Int) (a1:Int) (a2:Int) (r:Int) (h:pA a0 a1 a2=some r):HasC Tryz.prog 243 [.int a0,.int a1,.int a2] (.int r):=by
 refine hM [.tmp 6] Tryz.func243 Tryz.ntmps243 k<|sR<|aT k2<|sQ<|sR<|am k k<|oB h λv1 hv1 h=>ae (aH (mY a0 v1 hv1) k (bX k aL)) k<|ae (dC k) k<|am k k<|mR h (λq2 h=>aJ 11 k q2<|aK k4<|ak k k<|pk k3<|an<|tn<|dE k k<|sR<|aT k2<|aC<|aG<|oV h k2) λq2 h=>?_;refine aJ 11 k q2<|am k k<|oB h λv3 hv3 h=>ae (aH (oF a2 0 1000 v3 hv3) k (bX k (bX k (bX k aL)))) k<|ae (dC k) k<|pk k3<|an<|tn<|cO k h (λ_ h=>sR<|aT k2<|aC<|aG<|oV h k2) λ_ h=>?_;refine aI<|tn<|sR<|aT k2<|sQ<|sR<|am k k<|am k k<|an<|tn<|aE<|oB h λy8 hy8 h=>bP (body:=(lF a0 a1 a2)) hy8 (λ(x1:(Int×Int))=>mN [(0,.int a0),(1,.int a1),(7,.int x1.1),(16,.int a2),(17,.int x1.2)] [] 0) (λr e t=>e= .exit 0∧Ent t (mN [(7,.int r)] [] 0)) (bK (bH k2) aY k4) ?_ ?_
 ·intro x1 o h;exact sR<|cm k4<|an<|tn<|sQ<|cO k h (λ_ h=>aI<|tn<|sQ<|aE<|rg<|am k k<|am k k<|am k k<|oB h λv6 hv6 h=>ae (aH (aBt a0 a1 v6 hv6) k (bX k (bX k aL))) k<|ae (dJ k k) k<|am k k<|cG h λq7 h=>ae (yK k k q7) k<|aa k k<|an<|aX<|tn<|rg<|ae (bB k k) k<|am k k<|an<|tn<|sp h ⟨_,k,(bK (bH k2) aY k4)⟩) λ_ h=>aV<|aB<|aB<|sp h ⟨_,k,k,(bK (bH k2) aY k4)⟩
 ·rintro e t ⟨rfl,hent⟩;exact aN<|tn<|aP hent<|sR<|am k k<|aT k2<|aC<|oV h k2
def mH (a0:Int) (a1:Int):Option Int:=
 (hY a0).bind λv1=>
 bif !v1 then
 (some (0))
 else
 ((pA a0 a1 (max (wr (a0 - 2)) 1)).bind λv3=>
 some (v3))
theorem aBK (a0:Int) (a1:Int) (r:Int) (h:mH a0 a1=some r):HasC Tryz.prog 218 [.int a0,.int a1] (.int r):=by
 exact hM [.tmp 4] Tryz.func218 Tryz.ntmps218 k<|sR<|aT k2<|sQ<|sR<|am k k<|oB h λv1 hv1 h=>ae (aH (mY a0 v1 hv1) k (bX k aL)) k<|ae (dC k) k<|an<|tn<|cO k h (λ_ h=>sR<|aT k2<|aC<|aG<|oV h k2) λ_ h=>aI<|tn<|sR<|am k k<|am k k<|am k k<|ae (kS k k) k<|ae (aOW k k) k<|oB h λv3 hv3 h=>ae (aH (aCT a0 a1 (max (wr (a0 - 2)) 1) v3 hv3) k (bX k (bX k (bX k aL)))) k<|aT k2<|aC<|oV h k2
def fD (a0:(List Int)) (a1:Int) (x1:Int):Option (Int ⊕ (Unit ⊕ Int)):=
 bif decide (x1<(a0.length:Int)) then
 ((cP a0 x1).bind λv2=>
 bif decide (a1=v2) then
 (some (.inr (.inr (x1))))
 else
 (some (.inl (wr (x1+1)))))
 else
 (some (.inr (.inl ())))
def kJ (a0:(List Int)) (a1:Int):Option Int:=
 (Lp (fD a0 a1) 0).bind λy4=>
 Sum.elim (λy5=>
 some ((-1))
 )
 (λy6=>
 some y6
 )
 y4
theorem wG (a0:(List Int)) (a1:Int) (r:Int) (h:kJ a0 a1=some r):HasC Tryz.prog 238 [.list 1 (a0.map eI),.int a1] (.int r):=by
 refine hM [.tmp 4] Tryz.func238 Tryz.ntmps238 k<|sR<|aT k2<|sQ<|sR<|am k k<|ln k4<|am k k<|an<|tn<|aE<|oB h λy4 hy4 h=>bP (body:=(fD a0 a1)) hy4 (λ(x1:Int)=>mN [(0,.list 1 (a0.map eI)),(1,.int a1),(7,.int (a0.length:Int)),(8,.int x1)] [] 0) (λr e t=>Sum.elim (λa=>(λr e t=>e= .exit 0∧Ent t (mN [] [] 0)) a e t) (λb=>(λr e t=>e= .ret∧qE TT [.tmp 4] (.int r) .ret t) b e t) r) (bK (bH k2) aY k4) ?_ ?_
 ·intro x1 o h;exact sR<|cm k4<|an<|tn<|sQ<|cO k h (λ_ h=>aI<|tn<|sQ<|aE<|sR<|am k k<|aT k2<|sR<|am k k<|am k k<|am k k<|oB h λv2 hv2 h=>ae (xl hv2 k) k<|lr k7<|cm k4<|an<|tn<|cO k h (λ_ h=>sR<|am k k<|aT k2<|aC<|bA<|aG<|aG<|sp h ⟨_,k,k,bD k k k (aBi k)⟩) λ_ h=>aI<|aX<|tn<|rg<|ae (bB k k) k<|am k k<|an<|tn<|sp h ⟨_,k,(bK (bH k2) aY k4)⟩) λ_ h=>aV<|aB<|aB<|sp h ⟨_,k,k,(bK aY aY k4)⟩
 ·intro e t hX;rcases y4 with y5|y6
  ·obtain ⟨rfl,hent⟩:=hX;exact aN<|tn<|aP hent<|sR<|aT k2<|aC<|oV h k2
  ·obtain ⟨rfl,hent⟩:=hX;exact bA<|aG<|sp h hent
def fE (a0:(List Int)) (a1:Int):Option Bool:=
 (kJ a0 a1).bind λv1=>
 some (decide (0≤v1))
theorem uH (a0:(List Int)) (a1:Int) (r:Bool) (h:fE a0 a1=some r):HasC Tryz.prog 210 [.list 1 (a0.map eI),.int a1] (.bl r):=by
 exact hM [.tmp 4] Tryz.func210 Tryz.ntmps210 k<|sR<|aT k2<|sR<|am k k<|am k k<|oB h λv1 hv1 h=>ae (aH (wG a0 a1 v1 hv1) k (bX k (bX k aL))) k<|cm k4<|aT k2<|aC<|fB h k2
def iH (a0:Int) (a1:(List Int)) (x1:((List Int)×Int)):Option (((List Int)×Int) ⊕ (List Int)):=
 bif decide (x1.2<a0) then
 ((fE a1 x1.2).bind λv2=>
 bif !v2 then
 (bif decide (x1.1.length+[x1.2].length ≤4294967296) then
 (some (.inl ((x1.1++[x1.2]),wr (x1.2+1))))
 else none)
 else
 (some (.inl (x1.1,wr (x1.2+1)))))
 else
 (some (.inr x1.1))
def lG (a0:Int) (a1:(List Int)):Option (List Int):=
 (Lp (iH a0 a1) ([],0)).bind λy5=>
 some (y5)
theorem aAd (a0:Int) (a1:(List Int)) (r:(List Int)) (h:lG a0 a1=some r):HasC Tryz.prog 189 [.int a0,.list 1 (a1.map eI)] (.list 1 (r.map eI)):=by
 refine hM [.tmp 4] Tryz.func189 Tryz.ntmps189 k<|sR<|aT k2<|sR<|aT k2<|sQ<|sR<|am k k<|am k k<|an<|tn<|aE<|oB h λy5 hy5 h=>bP (body:=(iH a0 a1)) hy5 (λ(x1:((List Int)×Int))=>mN [(1,.list 1 (a1.map eI)),(5,.own 0 0 x1.1.length),(7,.int a0),(8,.int x1.2)] [(0,⟨1,x1.1.map (ow eI)⟩)] 1) (λr e t=>e= .exit 0∧Ent t (mN [(5,.own 0 0 r.length)] [(0,⟨1,r.map (ow eI)⟩)] 1)) (qH (σ:=sg []) (tN 1 k2 (sW ⟨_,k,⟨k,k,k,k⟩⟩ (bH k2))) (hX k k<|aY) k) ?_ ?_
 ·intro x1 o h;exact sR<|cm k4<|an<|tn<|sQ<|cO k h (λ_ h=>aI<|tn<|sQ<|aE<|sR<|am k k<|aT k2<|sR<|am k k<|am k k<|oB h λv2 hv2 h=>ae (aH (uH a1 x1.2 v2 hv2) k (bX k (bX k aL))) k<|ae (dC k) k<|an<|tn<|cO k h (λ_ h=>rg<|am k k<|am k k<|ae (wl k) k<|cG h λq4 h=>ae (yL aS (l:=x1.1) (m:=[x1.2]) pX q4 k k k k k k k k k k k k) k<|aa k k<|an<|aX<|tn<|rg<|ae (bB k k) k<|am k k<|an<|tn<|sp h ⟨_,k,(vS [2] (bH k2) (bT k<|aY) k4)⟩) λ_ h=>aI<|aX<|tn<|rg<|ae (bB k k) k<|am k k<|an<|tn<|sp h ⟨_,k,(bK (bH k2) (bT k<|aY) k4)⟩) λ_ h=>aV<|aB<|aB<|sp h ⟨_,k,k,(bK (bH k2) (bT k<|aY) k4)⟩
 ·rintro e t ⟨rfl,hent⟩;exact aN<|tn<|aP hent<|sR<|am k k<|aT k2<|aC<|sp h (bD k k k (gR (gC dY k k)))
def gF (a1:(List Int)) (x1:(Int×Int)):Option ((Int×Int) ⊕ (Int ⊕ Bool)):=
 bif decide (x1.2<(a1.length:Int)) then
 ((cP a1 x1.2).bind λv5=>
 (gZ v5 0 4).bind λv6=>
 bif !v6 then
 (some (.inr (.inr (false))))
 else
 ((cP a1 x1.2).bind λv8=>
 some (.inl (wr (x1.1+v8),wr (x1.2+1)))))
 else
 (some (.inr (.inl x1.1)))
def qS (a0:Qv) (a1:(List Int)):Option Bool:=
 (iP a0).bind λv1=>
 bif !v1 then
 (some (false))
 else
 (bif !decide ((a1.length:Int)=a0.n) then
 (some (false))
 else
 ((Lp (gF a1) (0,0)).bind λy9=>
 Sum.elim (λy10=>
 some (decide (y10≤8))
 )
 (λy11=>
 some y11
 )
 y9))
theorem aDc (a0:Qv) (a1:(List Int)) (r:Bool) (h:qS a0 a1=some r):HasC Tryz.prog 134 [.agg (eQ a0),.list 1 (a1.map eI)] (.bl r):=by
 refine hM [.tmp 4] Tryz.func134 Tryz.ntmps134 k<|sR<|ae (wb k) k<|aT k2<|sQ<|sR<|lp k8<|oB h λv1 hv1 h=>ae (aH (xX a0 v1 hv1) k (aD (cN k) aL)) k<|ae (dC k) k<|am k k<|mR h (λq2 h=>aJ 10 k q2<|aK k4<|aK k4<|ak k k<|pk k3<|an<|tn<|dE k k<|sR<|aT k2<|aC<|aG<|fB h k2) λq2 h=>?_;refine aJ 10 k q2<|am k k<|ln k4<|fp k8<|lp k8<|cm k4<|pk k3<|an<|tn<|cO k h (λ_ h=>sR<|aT k2<|aC<|aG<|fB h k2) λ_ h=>?_;refine aI<|tn<|sR<|aT k2<|sQ<|sR<|aT k2<|aE<|oB h λy9 hy9 h=>bP (body:=(gF a1)) hy9 (λ(x1:(Int×Int))=>mN [(1,.list 1 (a1.map eI)),(5,.int x1.1),(6,.int x1.2)] [] 0) (λr e t=>Sum.elim (λa=>(λr e t=>e= .exit 0∧Ent t (mN [(5,.int r)] [] 0)) a e t) (λb=>(λr e t=>e= .ret∧qE TT [.tmp 4] (.bl r) .ret t) b e t) r) (bK (bH k2) aY k4) ?_ ?_
 ·intro x1 o h;exact sQ<|sR<|am k k<|am k k<|ln k4<|cm k4<|an<|tn<|cO k h (λ_ h=>aI<|tn<|sQ<|aE<|sQ<|sR<|am k k<|am k k<|oB h λv5 hv5 h=>ae (xl hv5 k) k<|lr k7<|oB h λv6 hv6 h=>ae (aH (kT v5 0 4 v6 hv6) k (bX k (bX k (bX k aL)))) k<|ae (dC k) k<|an<|tn<|cO k h (λ_ h=>sR<|aT k2<|aC<|aG<|bA<|aG<|aG<|sp h ⟨_,k,k,bD k k k (nX k)⟩) λ_ h=>aI<|tn<|rg<|am k k<|am k k<|am k k<|oB h λv8 hv8 h=>ae (xl hv8 k) k<|lr k7<|ae (bB k k) k<|aa k k<|an<|aX<|tn<|rg<|am k k<|ae (bB k k) k<|aT k2<|sp h ⟨_,k,(bK (bH k2) aY k4)⟩) λ_ h=>aV<|aB<|aB<|sp h ⟨_,k,k,(bK (bH k2) aY k4)⟩
 ·intro e t hX;rcases y9 with y10|y11
  ·obtain ⟨rfl,hent⟩:=hX;exact aN<|tn<|aP hent<|sR<|am k k<|cm k4<|aT k2<|aC<|fB h k2
  ·obtain ⟨rfl,hent⟩:=hX;exact bA<|aG<|sp h hent
def pB (a0:Rp) (x1:Int):Option (Int ⊕ (Unit ⊕ Bool)):=
 bif decide (x1<(a0.maps.length:Int)) then
 ((cP a0.maps x1).bind λv7=>
 (iQ a0.p v7).bind λv8=>
 bif !v8 then
 (some (.inr (.inr (false))))
 else
 ((cP a0.maps x1).bind λv10=>
 (cP a0.q.src x1).bind λv11=>
 (cP a0.dims v11).bind λv12=>
 bif !decide (v10.cols=v12) then
 (some (.inr (.inr (false))))
 else
 ((cP a0.maps x1).bind λv14=>
 (cP a0.q.tgt x1).bind λv15=>
 (cP a0.dims v15).bind λv16=>
 bif !decide (v14.rows=v16) then
 (some (.inr (.inr (false))))
 else
 (some (.inl (wr (x1+1)))))))
 else
 (some (.inr (.inl ())))
def qT (a0:Rp):Option Bool:=
 (mX a0.p).bind λv1=>
 bif !v1 then
 (some (false))
 else
 ((qS a0.q a0.dims).bind λv3=>
 bif !v3 then
 (some (false))
 else
 (bif !decide ((a0.maps.length:Int)=(a0.q.src.length:Int)) then
 (some (false))
 else
 ((Lp (pB a0) 0).bind λy18=>
 Sum.elim (λy19=>
 some (true)
 )
 (λy20=>
 some y20
 )
 y18)))
theorem aBL (a0:Rp) (r:Bool) (h:qT a0=some r):HasC Tryz.prog 80 [.agg (eR a0)] (.bl r):=by
 refine hM [.tmp 2] Tryz.func80 Tryz.ntmps80 k<|sR<|ae (wb k) k<|aT k2<|sQ<|sR<|fp k8<|lp k8<|oB h λv1 hv1 h=>ae (aH (uG a0.p v1 hv1) k (bX k aL)) k<|ae (dC k) k<|am k k<|mR h (λq2 h=>aJ 8 k q2<|aK k4<|aK k4<|aK k4<|pk k3<|am k k<|aK k4<|aK k4<|aK k4<|aK k4<|pk k3<|an<|tn<|aP (t:=mN [(1,.ptr 0 0 0),(25,.bl true)] [(0,⟨6,[eR a0]⟩)] 1) (bK (bH k2) (bF k<|aY) k4)<|dE k k<|sR<|aT k2<|aC<|aG<|fB h k2) λq2 h=>?_;refine aJ 8 k q2<|fp k8<|lp k8<|fp k8<|lp k8<|oB h λv3 hv3 h=>ae (aH (aDc a0.q a0.dims v3 hv3) k (aD (cN k) (bX k aL))) k<|ae (dC k) k<|pk k3<|am k k<|mR h (λq4 h=>aJ 16 k q4<|aK k4<|aK k4<|aK k4<|aK k4<|pk k3<|an<|tn<|aP (t:=mN [(1,.ptr 0 0 0),(25,.bl true)] [(0,⟨6,[eR a0]⟩)] 1) (bK (bH k2) (bF k<|aY) k4)<|dE k k<|sR<|aT k2<|aC<|aG<|fB h k2) λq4 h=>?_;refine aJ 16 k q4<|fp k8<|lp k8<|ln k4<|fp k8<|fp k8<|lp k8<|ln k4<|cm k4<|pk k3<|an<|tn<|aP (t:=mN [(1,.ptr 0 0 0),(25,.bl (!decide ((a0.maps.length:Int)=(a0.q.src.length:Int))))] [(0,⟨6,[eR a0]⟩)] 1) (bK (bH k2) (bF k<|aY) k4)<|cO k h (λ_ h=>sR<|aT k2<|aC<|aG<|fB h k2) λ_ h=>?_;refine aI<|tn<|sQ<|sR<|aT k2<|aE<|oB h λy18 hy18 h=>bP (body:=(pB a0)) hy18 (λ(x1:Int)=>mN [(1,.ptr 0 0 0),(3,.int x1)] [(0,⟨6,[eR a0]⟩)] 1) (λr e t=>Sum.elim (λa=>(λr e t=>e= .exit 0∧Ent t (mN [] [] 0)) a e t) (λb=>(λr e t=>e= .ret∧qE TT [.tmp 2] (.bl r) .ret t) b e t) r) (bK (bH k2) (bF k<|aY) k4) ?_ ?_
 ·intro x1 o h;refine sQ<|sR<|am k k<|fp k8<|lp k8<|ln k4<|cm k4<|an<|tn<|cO k h (λ_ h=>?_) λ_ h=>aV<|aB<|aB<|sp h ⟨_,k,k,(bK aY aY k4)⟩;refine aI<|tn<|sQ<|aE<|sQ<|aO fZ<|fp k8<|lp k8<|fp k8<|lp k8<|am k k<|oB h λv7 hv7 h=>ae (xl hv7 k) k<|lr k7<|oB h λv8 hv8 h=>ae (aH (tB a0.p v7 v8 hv8) k (bX k (aD (cN k) aL))) k<|ae (dC k) k<|am k k<|mR h (λq9 h=>?_) λq9 h=>?_
  ·refine aJ 42 k q9<|aK k4<|aK k4<|aK k4<|aK k4<|aK k4<|aK k4<|aK k4<|aK k4<|ak k k<|pk k3<|am k k<|aK k4<|aK k4<|aK k4<|aK k4<|aK k4 ?_;exact aK k4<|aK k4<|aK k4<|ak k k<|pk k3<|an<|oW (by kernel_rfl)<|tn<|aP (t:=mN [(1,.ptr 0 0 0),(3,.int x1),(79,.bl true)] [(0,⟨6,[eR a0]⟩)] 1) (bK (bH k2) (bF k<|aY) k4)<|dE k k<|sR<|aT k2<|aC<|bA<|aG<|aG<|sp h ⟨_,k,k,bD k k k (nX k)⟩
  ·refine aJ 42 k q9<|fp k8<|lp k8<|am k k<|oB h λv10 hv10 h=>ae (xl hv10 k) k<|ae (mT aS k k k k k k) k<|lr k7<|fp k8<|lp k8<|fp k8<|fp k8<|lp k8<|am k k<|oB h λv11 hv11 h=>ae (xl hv11 k) k<|lr k7<|oB h λv12 hv12 h=>ae (xl hv12 k) k<|lr k7<|cm k4<|pk k3<|am k k<|mR h (λq13 h=>?_) λq13 h=>aJ 61 k q13<|fp k8<|lp k8<|am k k<|oB h λv14 hv14 h=>ae (xl hv14 k) k<|ae (mT aS k k k k k k) k<|lr k7<|fp k8<|lp k8<|fp k8<|fp k8<|lp k8<|am k k<|oB h λv15 hv15 h=>ae (xl hv15 k) k<|lr k7<|oB h λv16 hv16 h=>ae (xl hv16 k) k<|lr k7<|cm k4<|pk k3<|an<|oW (by kernel_rfl)<|tn<|aP (t:=mN [(1,.ptr 0 0 0),(3,.int x1),(79,.bl (!decide (v14.rows=v16)))] [(0,⟨6,[eR a0]⟩)] 1) (bK (bH k2) (bF k<|aY) k4)<|cO k h (λ_ h=>sR<|aT k2<|aC<|bA<|aG<|aG<|sp h ⟨_,k,k,bD k k k (nX k)⟩) λ_ h=>aI<|aX<|tn<|rg<|am k k<|ae (bB k k) k<|aT k2<|sp h ⟨_,k,(bK (bH k2) (bF k<|aY) k4)⟩;refine aJ 61 k q13<|aK k4<|aK k4<|aK k4<|aK k4<|aK k4<|aK k4<|aK k4<|aK k4<|ak k k<|pk k3<|an<|oW (by kernel_rfl)<|tn<|aP (t:=mN [(1,.ptr 0 0 0),(3,.int x1),(79,.bl true)] [(0,⟨6,[eR a0]⟩)] 1) (bK (bH k2) (bF k<|aY) k4)<|dE k k<|sR<|aT k2<|aC ?_;exact bA<|aG<|aG<|sp h ⟨_,k,k,bD k k k (nX k)⟩
 ·intro e t hX;rcases y18 with y19|y20
  ·obtain ⟨rfl,hent⟩:=hX;exact aN<|tn<|aP hent<|sR<|aT k2<|aC<|fB h k2
  ·obtain ⟨rfl,hent⟩:=hX;exact bA<|aG<|sp h hent
def jV (a0:Qv) (a1:Qv):Option Bool:=
 bif decide (a0.n=a1.n) then
 ((jO a0.src a1.src).bind λv2=>
 bif v2 then
 ((jO a0.tgt a1.tgt).bind λv4=>
 some (v4))
 else
 (some (false)))
 else
 (some (false))
theorem aAF (a0:Qv) (a1:Qv) (r:Bool) (h:jV a0 a1=some r):HasC Tryz.prog 81 [.agg (eQ a0),.agg (eQ a1)] (.bl r):=by
 exact hM [.tmp 4] Tryz.func81 Tryz.ntmps81 k<|sR<|ae (wb k) k<|ae (wb k) k<|aT k2<|sR<|fp k8<|lp k8<|fp k8<|lp k8<|cm k4<|am k k<|mR h (λq1 h=>aJ 10 k q1<|fp k8<|lp k8<|fp k8<|lp k8<|oB h λv2 hv2 h=>ae (aH (oG a0.src a1.src v2 hv2) k (bX k (bX k aL))) k<|pk k3<|am k k<|mR h (λq3 h=>aJ 17 k q3<|fp k8<|lp k8<|fp k8<|lp k8<|oB h λv4 hv4 h=>ae (aH (oG a0.tgt a1.tgt v4 hv4) k (bX k (bX k aL))) k<|pk k3<|aT k2<|aC<|fB h k2) λq3 h=>aJ 17 k q3<|aK k4<|aK k4<|ak k k<|pk k3<|aT k2<|aC<|fB h k2) λq1 h=>aJ 10 k q1<|aK k4<|aK k4<|ak k k<|pk k3<|am k k<|aK k4<|aK k4<|ak k k<|pk k3<|aT k2<|aC<|fB h k2
def jW (a0:Qv) (a1:Qv):Option Bool:=
 bif decide (a0.n=a1.n) then
 ((cV a0.src a1.src).bind λv2=>
 bif v2 then
 ((cV a0.tgt a1.tgt).bind λv4=>
 some (v4))
 else
 (some (false)))
 else
 (some (false))
theorem aAG (a0:Qv) (a1:Qv) (r:Bool) (h:jW a0 a1=some r):HasC Tryz.prog 89 [.agg (eQ a0),.agg (eQ a1)] (.bl r):=by
 exact hM [.tmp 4] Tryz.func89 Tryz.ntmps89 k<|sR<|ae (wb k) k<|ae (wb k) k<|aT k2<|sR<|fp k8<|lp k8<|fp k8<|lp k8<|cm k4<|am k k<|mR h (λq1 h=>aJ 10 k q1<|fp k8<|lp k8<|fp k8<|lp k8<|oB h λv2 hv2 h=>ae (aH (eG a0.src a1.src v2 hv2) k (bX k (bX k aL))) k<|pk k3<|am k k<|mR h (λq3 h=>aJ 17 k q3<|fp k8<|lp k8<|fp k8<|lp k8<|oB h λv4 hv4 h=>ae (aH (eG a0.tgt a1.tgt v4 hv4) k (bX k (bX k aL))) k<|pk k3<|aT k2<|aC<|fB h k2) λq3 h=>aJ 17 k q3<|aK k4<|aK k4<|ak k k<|pk k3<|aT k2<|aC<|fB h k2) λq1 h=>aJ 10 k q1<|aK k4<|aK k4<|ak k k<|pk k3<|am k k<|aK k4<|aK k4<|ak k k<|pk k3<|aT k2<|aC<|fB h k2
def gG (a0:Mt) (a1:Mt) (x1:Int):Option (Int ⊕ (Unit ⊕ Bool)):=
 bif decide (x1<(a0.cells.length:Int)) then
 ((cP a0.cells x1).bind λv5=>
 (cP a1.cells x1).bind λv6=>
 bif !decide (v5=v6) then
 (some (.inr (.inr (false))))
 else
 (some (.inl (wr (x1+1)))))
 else
 (some (.inr (.inl ())))
def jD (a0:Mt) (a1:Mt):Option Bool:=
 bif !decide (a0.rows=a1.rows) then
 (some (false))
 else
 (bif !decide (a0.cols=a1.cols) then
 (some (false))
 else
 (bif !decide ((a0.cells.length:Int)=(a1.cells.length:Int)) then
 (some (false))
 else
 ((Lp (gG a0 a1) 0).bind λy8=>
 Sum.elim (λy9=>
 some (true)
 )
 (λy10=>
 some y10
 )
 y8)))
theorem yQ (a0:Mt) (a1:Mt) (r:Bool) (h:jD a0 a1=some r):HasC Tryz.prog 241 [.agg (eM a0),.agg (eM a1)] (.bl r):=by
 refine hM [.tmp 4] Tryz.func241 Tryz.ntmps241 k<|sR<|ae (wb k) k<|ae (wb k) k<|aT k2<|sQ<|sR<|fp k8<|lp k8<|fp k8<|lp k8<|cm k4<|am k k<|mR h (λq1 h=>aJ 11 k q1<|aK k4<|aK k4<|ak k k<|pk k3<|am k k<|aK k4<|aK k4<|aK k4<|ak k k<|pk k3<|an<|tn<|aP (t:=mN [(2,.ptr 0 0 0),(3,.ptr 1 0 0),(26,.bl true)] [(0,⟨3,[eM a0]⟩),(1,⟨3,[eM a1]⟩)] 2) (bK (bH k2) (bF k<|bF k<|aY) k4)<|dE k k<|sR<|aT k2<|aC<|aG<|fB h k2) λq1 h=>?_;refine aJ 11 k q1<|fp k8<|lp k8<|fp k8<|lp k8<|cm k4<|pk k3<|am k k<|mR h (λq2 h=>aJ 18 k q2<|aK k4<|aK k4<|aK k4<|ak k k<|pk k3<|an<|tn<|aP (t:=mN [(2,.ptr 0 0 0),(3,.ptr 1 0 0),(26,.bl true)] [(0,⟨3,[eM a0]⟩),(1,⟨3,[eM a1]⟩)] 2) (bK (bH k2) (bF k<|bF k<|aY) k4)<|dE k k<|sR<|aT k2<|aC<|aG<|fB h k2) λq2 h=>?_;refine aJ 18 k q2<|fp k8<|lp k8<|ln k4<|fp k8<|lp k8<|ln k4<|cm k4<|pk k3<|an<|tn<|aP (t:=mN [(2,.ptr 0 0 0),(3,.ptr 1 0 0),(26,.bl (!decide ((a0.cells.length:Int)=(a1.cells.length:Int))))] [(0,⟨3,[eM a0]⟩),(1,⟨3,[eM a1]⟩)] 2) (bK (bH k2) (bF k<|bF k<|aY) k4)<|cO k h (λ_ h=>sR<|aT k2<|aC<|aG<|fB h k2) λ_ h=>?_;refine aI<|tn<|sQ<|sR<|aT k2<|aE<|oB h λy8 hy8 h=>bP (body:=(gG a0 a1)) hy8 (λ(x1:Int)=>mN [(2,.ptr 0 0 0),(3,.ptr 1 0 0),(5,.int x1)] [(0,⟨3,[eM a0]⟩),(1,⟨3,[eM a1]⟩)] 2) (λr e t=>Sum.elim (λa=>(λr e t=>e= .exit 0∧Ent t (mN [] [] 0)) a e t) (λb=>(λr e t=>e= .ret∧qE TT [.tmp 4] (.bl r) .ret t) b e t) r) (bK (bH k2) (bF k<|bF k<|aY) k4) ?_ ?_
 ·intro x1 o h;exact sQ<|sR<|am k k<|fp k8<|lp k8<|ln k4<|cm k4<|an<|tn<|cO k h (λ_ h=>aI<|tn<|sQ<|aE<|sQ<|aO fZ<|fp k8<|lp k8<|am k k<|oB h λv5 hv5 h=>ae (xl hv5 k) k<|lr k7<|fp k8<|lp k8<|am k k<|oB h λv6 hv6 h=>ae (xl hv6 k) k<|lr k7<|cm k4<|an<|oW (by kernel_rfl)<|tn<|cO k h (λ_ h=>sR<|aT k2<|aC<|bA<|aG<|aG<|sp h ⟨_,k,k,bD k k k (nX k)⟩) λ_ h=>aI<|aX<|tn<|rg<|am k k<|ae (bB k k) k<|aT k2<|sp h ⟨_,k,(bK (bH k2) (bF k<|bF k<|aY) k4)⟩) λ_ h=>aV<|aB<|aB<|sp h ⟨_,k,k,(bK aY aY k4)⟩
 ·intro e t hX;rcases y8 with y9|y10
  ·obtain ⟨rfl,hent⟩:=hX;exact aN<|tn<|aP hent<|sR<|aT k2<|aC<|fB h k2
  ·obtain ⟨rfl,hent⟩:=hX;exact bA<|aG<|sp h hent
def fF (a0:Rp) (a1:Rp):Option Bool:=
 (qT a0).bind λv1=>
 bif v1 then
 ((qT a1).bind λv3=>
 bif v3 then
 (bif decide (a0.p=a1.p) then
 ((jV a0.q a1.q).bind λv6=>
 some (v6))
 else
 (some (false)))
 else
 (some (false)))
 else
 (some (false))
theorem qU (a0:Rp) (a1:Rp) (r:Bool) (h:fF a0 a1=some r):HasC Tryz.prog 34 [.agg (eR a0),.agg (eR a1)] (.bl r):=by
 exact hM [.tmp 4] Tryz.func34 Tryz.ntmps34 k<|sR<|ae (wb k) k<|ae (wb k) k<|aT k2<|sR<|lp k8<|oB h λv1 hv1 h=>ae (aH (aBL a0 v1 hv1) k (aD (cN k) aL)) k<|am k k<|mR h (λq2 h=>aJ 7 k q2<|lp k8<|oB h λv3 hv3 h=>ae (aH (aBL a1 v3 hv3) k (aD (cN k) aL)) k<|pk k3<|am k k<|mR h (λq4 h=>aJ 11 k q4<|fp k8<|lp k8<|fp k8<|lp k8<|cm k4<|pk k3<|am k k<|mR h (λq5 h=>aJ 18 k q5<|fp k8<|lp k8<|fp k8<|lp k8<|oB h λv6 hv6 h=>ae (aH (aAF a0.q a1.q v6 hv6) k (aD (cN k) (aD (cN k) aL))) k<|pk k3<|aT k2<|aC<|fB h k2) λq5 h=>aJ 18 k q5<|aK k4<|aK k4<|ak k k<|pk k3<|aT k2<|aC<|fB h k2) λq4 h=>aJ 11 k q4<|aK k4<|aK k4<|ak k k<|pk k3<|am k k<|aK k4<|aK k4<|ak k k<|pk k3<|aT k2<|aC<|fB h k2) λq2 h=>aJ 7 k q2<|aK k4<|pk k3<|am k k<|aK k4<|aK k4<|ak k k<|pk k3<|am k k<|aK k4<|aK k4<|ak k k<|pk k3<|aT k2<|aC<|fB h k2
end
noncomputable section
set_option maxRecDepth 10000
set_option maxHeartbeats 4000000
def dL (a0:(List Int)) (a1:(Int→Option Bool)) (x1:Int):Option (Int ⊕ (Unit ⊕ Int)):=
 bif decide (x1<(a0.length:Int)) then
 ((cP a0 x1).bind λv2=>
 (a1 v2).bind λv3=>
 bif v3 then
 (some (.inr (.inr (x1))))
 else
 (some (.inl (wr (x1+1)))))
 else
 (some (.inr (.inl ())))
def eV (a0:(List Int)) (a1:(Int→Option Bool)):Option Int:=
 (Lp (dL a0 a1) 0).bind λy5=>
 Sum.elim (λy6=>
 some ((-1))
 )
 (λy7=>
 some y7
 )
 y5
theorem tR (a0:(List Int)) (a1:(Int→Option Bool)) {f1:FuncId} {c1:List AV} (hc1:c1.all cY=true) (hf1: ∀ b0 r,a1 b0=some r→HasC Tryz.prog f1 ([.int b0]++c1) (.bl r)) (r:Int) (h:eV a0 a1=some r):HasC Tryz.prog 201 [.list 1 (a0.map eI),.fn f1 c1] (.int r):=by
 refine aCq aS (rvs:=[.tmp 4]) (ns:=nmA) Tryz.func201 k k Tryz.ntmps201 k k (aCu k (aCu hc1 aLx))<|sR<|aT k2<|sQ<|sR<|am k k<|ln k4<|am k k<|an<|tn<|aE<|oB h λy5 hy5 h=>bP (body:=(dL a0 a1)) hy5 (λ(x1:Int)=>mN [(0,.list 1 (a0.map eI)),(1,.fn f1 c1),(7,.int (a0.length:Int)),(8,.int x1)] [] 0) (λr e t=>Sum.elim (λa=>(λr e t=>e= .exit 0∧Ent t (mN [] [] 0)) a e t) (λb=>(λr e t=>e= .ret∧qE TT [.tmp 4] (.int r) .ret t) b e t) r) (bK (tN 1 k2 (sW ⟨_,k,⟨k,aEu _ hc1⟩⟩ (bH k2))) aY k4) ?_ ?_
 ·intro x1 o h;exact sR<|cm k4<|an<|tn<|sQ<|cO k h (λ_ h=>aI<|tn<|sQ<|aE<|sR<|am k k<|aT k2<|sR<|am k k<|am k k<|am k k<|oB h λv2 hv2 h=>ae (xl hv2 k) k<|lr k7<|oB h λv3 hv3 h=>ae (aMw hc1 (hf1 v2 v3 hv3) k k (bX k aL)) k<|an<|tn<|cO k h (λ_ h=>sR<|am k k<|aT k2<|aC<|bA<|aG<|aG<|sp h ⟨_,k,k,bD k k k (aBi k)⟩) λ_ h=>aI<|aX<|tn<|rg<|ae (bB k k) k<|am k k<|an<|tn<|sp h ⟨_,k,(bK (tN 1 k2 (sW ⟨_,k,⟨k,aEu _ hc1⟩⟩ (bH k2))) aY k4)⟩) λ_ h=>aV<|aB<|aB<|sp h ⟨_,k,k,(bK aY aY k4)⟩
 ·intro e t hX;rcases y5 with y6|y7
  ·obtain ⟨rfl,hent⟩:=hX;exact aN<|tn<|aP hent<|sR<|aT k2<|aC<|oV h k2
  ·obtain ⟨rfl,hent⟩:=hX;exact bA<|aG<|sp h hent
def fV (a0:(List Int)) (a1:(Int→Option Bool)):Option Bool:=
 (eV a0 a1).bind λv1=>
 some (decide (0≤v1))
theorem rU (a0:(List Int)) (a1:(Int→Option Bool)) {f1:FuncId} {c1:List AV} (hc1:c1.all cY=true) (hf1: ∀ b0 r,a1 b0=some r→HasC Tryz.prog f1 ([.int b0]++c1) (.bl r)) (r:Bool) (h:fV a0 a1=some r):HasC Tryz.prog 187 [.list 1 (a0.map eI),.fn f1 c1] (.bl r):=by
 exact aCq aS (rvs:=[.tmp 4]) (ns:=nmA) Tryz.func187 k k Tryz.ntmps187 k k (aCu k (aCu hc1 aLx))<|sR<|aT k2<|sR<|am k k<|am k k<|oB h λv1 hv1 h=>ae (aH (tR a0 a1 hc1 hf1 v1 hv1) k (bX k (aD (aNr hc1) aL))) k<|cm k4<|aT k2<|aC<|fB h k2
def iB (a0:Int) (a1:Int) (a2:Int):Option Bool:=
 (jN a0 a1 a2).bind λv1=>
 some (!v1)
theorem aAe (a0:Int) (a1:Int) (a2:Int) (r:Bool) (h:iB a0 a1 a2=some r):HasC Tryz.prog 188 [.int a0,.ref (eI a1),.ref (eI a2)] (.bl r):=by
 exact hM [.tmp 4] Tryz.func188 Tryz.ntmps188 k<|sR<|aT k2<|sR<|am k k<|lr k7<|lr k7<|oB h λv1 hv1 h=>ae (aH (oF a0 a1 a2 v1 hv1) k (bX k (bX k (bX k aL)))) k<|ae (dC k) k<|aT k2<|aC<|fB h k2
def eH (a0:(List Int)) (a1:Int) (a2:Int):Option Bool:=
 (fV a0 (λb0=>iB b0 a1 a2)).bind λv1=>
 some (!v1)
theorem kK (a0:(List Int)) (a1:Int) (a2:Int) (r:Bool) (h:eH a0 a1 a2=some r):HasC Tryz.prog 151 [.list 1 (a0.map eI),.int a1,.int a2] (.bl r):=by
 exact hM [.tmp 6] Tryz.func151 Tryz.ntmps151 k<|sR<|ae (wb k) k<|ae (wb k) k<|aT k2<|sR<|am k k<|ae (aFj (vs:=[.ptr 0 0 0,.ptr 1 0 0]) k (by simp)) k<|oB h λv1 hv1 h=>ae (aH (rU a0 (λb0=>iB b0 a1 a2) k (λb0 r h=>aAe b0 a1 a2 r h) v1 hv1) k (bX k (aD (aOV (aJV (aLh k k (qK (wX k) aFv)) (aJV (aLh k k (qK (wX k) aFv)) aMu))) aL))) k<|ae (dC k) k<|aT k2<|aC<|fB h k2
def pC (a0:Int) (a1:(List Int)):Option Bool:=
 (hY a0).bind λv1=>
 bif v1 then
 (bif decide ((a1.length:Int)≤64) then
 ((eH a1 0 (wr (a0 - 1))).bind λv4=>
 some (v4))
 else
 (some (false)))
 else
 (some (false))
theorem aCU (a0:Int) (a1:(List Int)) (r:Bool) (h:pC a0 a1=some r):HasC Tryz.prog 181 [.int a0,.list 1 (a1.map eI)] (.bl r):=by
 exact hM [.tmp 4] Tryz.func181 Tryz.ntmps181 k<|sR<|aT k2<|sR<|am k k<|oB h λv1 hv1 h=>ae (aH (mY a0 v1 hv1) k (bX k aL)) k<|am k k<|mR h (λq2 h=>aJ 7 k q2<|am k k<|ln k4<|cm k4<|pk k3<|am k k<|mR h (λq3 h=>aJ 12 k q3<|am k k<|am k k<|ae (kS k k) k<|oB h λv4 hv4 h=>ae (aH (kK a1 0 (wr (a0 - 1)) v4 hv4) k (bX k (bX k (bX k aL)))) k<|pk k3<|aT k2<|aC<|fB h k2) λq3 h=>aJ 12 k q3<|aK k4<|aK k4<|pk k3<|aT k2<|aC<|fB h k2) λq2 h=>aJ 7 k q2<|aK k4<|ak k k<|pk k3<|am k k<|aK k4<|aK k4<|pk k3<|aT k2<|aC<|fB h k2
def pD (a0:Int) (a1:Mt):Option Bool:=
 (jN a1.rows 0 8).bind λv1=>
 bif v1 then
 ((jN a1.cols 0 8).bind λv3=>
 bif v3 then
 (bif decide ((a1.cells.length:Int)=wr (a1.rows*a1.cols)) then
 ((pC a0 a1.cells).bind λv6=>
 some (v6))
 else
 (some (false)))
 else
 (some (false)))
 else
 (some (false))
theorem aCV (a0:Int) (a1:Mt) (r:Bool) (h:pD a0 a1=some r):HasC Tryz.prog 148 [.int a0,.agg (eM a1)] (.bl r):=by
 exact hM [.tmp 4] Tryz.func148 Tryz.ntmps148 k<|sR<|ae (wb k) k<|aT k2<|sR<|fp k8<|lp k8<|oB h λv1 hv1 h=>ae (aH (oF a1.rows 0 8 v1 hv1) k (bX k (bX k (bX k aL)))) k<|am k k<|mR h (λq2 h=>aJ 8 k q2<|fp k8<|lp k8<|oB h λv3 hv3 h=>ae (aH (oF a1.cols 0 8 v3 hv3) k (bX k (bX k (bX k aL)))) k<|pk k3<|am k k<|mR h (λq4 h=>aJ 13 k q4<|fp k8<|lp k8<|ln k4<|fp k8<|lp k8<|fp k8<|lp k8<|ae (dJ k k) k<|cm k4<|pk k3<|am k k<|mR h (λq5 h=>aJ 24 k q5<|am k k<|fp k8<|lp k8<|oB h λv6 hv6 h=>ae (aH (aCU a0 a1.cells v6 hv6) k (bX k (bX k aL))) k<|pk k3<|aT k2<|aC<|fB h k2) λq5 h=>aJ 24 k q5<|aK k4<|aK k4<|pk k3<|aT k2<|aC<|fB h k2) λq4 h=>aJ 13 k q4<|aK k4<|aK k4<|aK k4<|aK k4<|ak k k<|pk k3<|am k k<|aK k4<|aK k4<|pk k3<|aT k2<|aC<|fB h k2) λq2 h=>aJ 8 k q2<|aK k4<|ak k k<|pk k3<|am k k<|aK k4<|aK k4<|aK k4<|aK k4<|ak k k<|pk k3<|am k k<|aK k4<|aK k4<|pk k3<|aT k2<|aC<|fB h k2
def lS (a0:Qv):Option Bool:=
 (jN a0.n 1 5).bind λv1=>
 bif v1 then
 (bif decide ((a0.src.length:Int)=(a0.tgt.length:Int)) then
 (bif decide ((a0.src.length:Int)≤6) then
 ((eH a0.src 0 (wr (a0.n - 1))).bind λv5=>
 bif v5 then
 ((eH a0.tgt 0 (wr (a0.n - 1))).bind λv7=>
 some (v7))
 else
 (some (false)))
 else
 (some (false)))
 else
 (some (false)))
 else
 (some (false))
theorem xY (a0:Qv) (r:Bool) (h:lS a0=some r):HasC Tryz.prog 117 [.agg (eQ a0)] (.bl r):=by
 refine hM [.tmp 2] Tryz.func117 Tryz.ntmps117 k<|sR<|ae (wb k) k<|aT k2<|sR<|fp k8<|lp k8<|oB h λv1 hv1 h=>ae (aH (oF a0.n 1 5 v1 hv1) k (bX k (bX k (bX k aL)))) k<|am k k<|mR h (λq2 h=>aJ 6 k q2<|fp k8<|lp k8<|ln k4<|fp k8<|lp k8<|ln k4<|cm k4<|pk k3<|am k k<|mR h (λq3 h=>aJ 15 k q3<|fp k8<|lp k8<|ln k4<|cm k4<|pk k3<|am k k<|mR h (λq4 h=>aJ 21 k q4<|fp k8<|lp k8<|fp k8<|lp k8<|ae (kS k k) k<|oB h λv5 hv5 h=>ae (aH (kK a0.src 0 (wr (a0.n - 1)) v5 hv5) k (bX k (bX k (bX k aL)))) k<|pk k3<|am k k<|mR h (λq6 h=>aJ 29 k q6<|fp k8<|lp k8<|fp k8<|lp k8<|ae (kS k k) k<|oB h λv7 hv7 h=>ae (aH (kK a0.tgt 0 (wr (a0.n - 1)) v7 hv7) k (bX k (bX k (bX k aL)))) k<|pk k3<|aT k2<|aC<|fB h k2) λq6 h=>aJ 29 k q6<|aK k4<|aK k4<|aK k4<|pk k3<|aT k2<|aC<|fB h k2) λq4 h=>aJ 21 k q4<|aK k4<|aK k4<|aK k4<|pk k3<|am k k<|aK k4<|aK k4<|aK k4<|pk k3<|aT k2<|aC<|fB h k2) λq3 h=>aJ 15 k q3<|aK k4<|aK k4<|pk k3<|am k k<|aK k4<|aK k4<|aK k4<|pk k3<|am k k<|aK k4<|aK k4<|aK k4<|pk k3<|aT k2<|aC<|fB h k2) λq2 h=>?_;refine aJ 6 k q2<|aK k4<|aK k4<|aK k4<|ak k k<|pk k3<|am k k<|aK k4<|aK k4<|pk k3<|am k k<|aK k4<|aK k4<|aK k4<|pk k3<|am k k<|aK k4<|aK k4<|aK k4 ?_;exact pk k3<|aT k2<|aC<|fB h k2
def qV (a0:Qv) (a1:(List Int)):Option Bool:=
 (lS a0).bind λv1=>
 bif v1 then
 (bif decide ((a1.length:Int)=a0.n) then
 ((eH a1 0 4).bind λv4=>
 bif v4 then
 ((tP a1).bind λv6=>
 some (decide (v6≤8)))
 else
 (some (false)))
 else
 (some (false)))
 else
 (some (false))
theorem aDd (a0:Qv) (a1:(List Int)) (r:Bool) (h:qV a0 a1=some r):HasC Tryz.prog 147 [.agg (eQ a0),.list 1 (a1.map eI)] (.bl r):=by
 exact hM [.tmp 4] Tryz.func147 Tryz.ntmps147 k<|sR<|ae (wb k) k<|aT k2<|sR<|lp k8<|oB h λv1 hv1 h=>ae (aH (xY a0 v1 hv1) k (aD (cN k) aL)) k<|am k k<|mR h (λq2 h=>aJ 7 k q2<|am k k<|ln k4<|fp k8<|lp k8<|cm k4<|pk k3<|am k k<|mR h (λq3 h=>aJ 14 k q3<|am k k<|oB h λv4 hv4 h=>ae (aH (kK a1 0 4 v4 hv4) k (bX k (bX k (bX k aL)))) k<|pk k3<|am k k<|mR h (λq5 h=>aJ 18 k q5<|am k k<|oB h λv6 hv6 h=>ae (aH (aGE a1 v6 hv6) k (bX k aL)) k<|cm k4<|pk k3<|aT k2<|aC<|fB h k2) λq5 h=>aJ 18 k q5<|aK k4<|ak k k<|pk k3<|aT k2<|aC<|fB h k2) λq3 h=>aJ 14 k q3<|aK k4<|pk k3<|am k k<|aK k4<|ak k k<|pk k3<|aT k2<|aC<|fB h k2) λq2 h=>aJ 7 k q2<|aK k4<|aK k4<|ak k k<|pk k3<|am k k<|aK k4<|pk k3<|am k k<|aK k4<|ak k k<|pk k3<|aT k2<|aC<|fB h k2
def pE (a0:Rp) (x1:Int):Option (Int ⊕ (Unit ⊕ Bool)):=
 bif decide (x1<(a0.maps.length:Int)) then
 ((cP a0.maps x1).bind λv7=>
 (pD a0.p v7).bind λv8=>
 bif !v8 then
 (some (.inr (.inr (false))))
 else
 ((cP a0.q.src x1).bind λv10=>
 (cP a0.dims v10).bind λv11=>
 bif !decide (v7.cols=v11) then
 (some (.inr (.inr (false))))
 else
 ((cP a0.q.tgt x1).bind λv13=>
 (cP a0.dims v13).bind λv14=>
 bif !decide (v7.rows=v14) then
 (some (.inr (.inr (false))))
 else
 (some (.inl (wr (x1+1)))))))
 else
 (some (.inr (.inl ())))
def qW (a0:Rp):Option Bool:=
 (hY a0.p).bind λv1=>
 bif !v1 then
 (some (false))
 else
 ((qV a0.q a0.dims).bind λv3=>
 bif !v3 then
 (some (false))
 else
 (bif !decide ((a0.maps.length:Int)=(a0.q.src.length:Int)) then
 (some (false))
 else
 ((Lp (pE a0) 0).bind λy16=>
 Sum.elim (λy17=>
 some (true)
 )
 (λy18=>
 some y18
 )
 y16)))
theorem aBM (a0:Rp) (r:Bool) (h:qW a0=some r):HasC Tryz.prog 88 [.agg (eR a0)] (.bl r):=by
 refine hM [.tmp 2] Tryz.func88 Tryz.ntmps88 k<|sR<|ae (wb k) k<|aT k2<|sQ<|sR<|fp k8<|lp k8<|oB h λv1 hv1 h=>ae (aH (mY a0.p v1 hv1) k (bX k aL)) k<|ae (dC k) k<|am k k<|mR h (λq2 h=>aJ 9 k q2<|aK k4<|aK k4<|aK k4<|pk k3<|am k k<|aK k4<|aK k4<|aK k4<|aK k4<|pk k3<|an<|tn<|aP (t:=mN [(1,.ptr 0 0 0),(26,.bl true)] [(0,⟨6,[eR a0]⟩)] 1) (bK (bH k2) (bF k<|aY) k4)<|dE k k<|sR<|aT k2<|aC<|aG<|fB h k2) λq2 h=>?_;refine aJ 9 k q2<|fp k8<|lp k8<|fp k8<|lp k8<|oB h λv3 hv3 h=>ae (aH (aDd a0.q a0.dims v3 hv3) k (aD (cN k) (bX k aL))) k<|ae (dC k) k<|pk k3<|am k k<|mR h (λq4 h=>aJ 17 k q4<|aK k4<|aK k4<|aK k4<|aK k4<|pk k3<|an<|tn<|aP (t:=mN [(1,.ptr 0 0 0),(26,.bl true)] [(0,⟨6,[eR a0]⟩)] 1) (bK (bH k2) (bF k<|aY) k4)<|dE k k<|sR<|aT k2<|aC<|aG<|fB h k2) λq4 h=>?_;refine aJ 17 k q4<|fp k8<|lp k8<|ln k4<|fp k8<|fp k8<|lp k8<|ln k4<|cm k4<|pk k3<|an<|tn<|aP (t:=mN [(1,.ptr 0 0 0),(26,.bl (!decide ((a0.maps.length:Int)=(a0.q.src.length:Int))))] [(0,⟨6,[eR a0]⟩)] 1) (bK (bH k2) (bF k<|aY) k4)<|cO k h (λ_ h=>sR<|aT k2<|aC<|aG<|fB h k2) λ_ h=>?_;refine aI<|tn<|sQ<|sR<|fp k8<|lp k8<|ln k4<|am k k<|an<|tn<|aE<|oB h λy16 hy16 h=>bP (body:=(pE a0)) hy16 (λ(x1:Int)=>mN [(1,.ptr 0 0 0),(28,.list 3 (a0.maps.map eM)),(29,.int (a0.maps.length:Int)),(30,.int x1)] [(0,⟨6,[eR a0]⟩)] 1) (λr e t=>Sum.elim (λa=>(λr e t=>e= .exit 0∧Ent t (mN [] [] 0)) a e t) (λb=>(λr e t=>e= .ret∧qE TT [.tmp 2] (.bl r) .ret t) b e t) r) (bK (bH k2) (bF k<|aY) k4) ?_ ?_
 ·intro x1 o h;refine sR<|cm k4<|an<|tn<|sQ<|cO k h (λ_ h=>?_) λ_ h=>aV<|aB<|aB<|sp h ⟨_,k,k,(bK aY aY k4)⟩;refine aI<|tn<|sQ<|aE<|sR<|am k k<|oB h λv7 hv7 h=>ae (xl hv7 k) k<|lr k7<|ae (bY aS k k) k<|aa k k<|ae (ws k) k<|an<|tn<|sQ<|aO fZ<|fp k8<|lp k8<|lp k8<|oB h λv8 hv8 h=>ae (aH (aCV a0.p v7 v8 hv8) k (bX k (aD (cN k) aL))) k<|ae (dC k) k<|am k k<|mR h (λq9 h=>?_) λq9 h=>?_
  ·refine aJ 40 k q9<|aK k4<|aK k4<|aK k4<|aK k4<|aK k4<|aK k4<|ak k k<|pk k3<|am k k<|aK k4<|aK k4<|aK k4<|aK k4<|aK k4<|aK k4<|ak k k<|pk k3 ?_;exact an<|oW (by kernel_rfl)<|tn<|aP (t:=mN [(1,.ptr 0 0 0),(28,.list 3 (a0.maps.map eM)),(29,.int (a0.maps.length:Int)),(30,.int x1),(69,.bl true)] [(0,⟨6,[eR a0]⟩)] 2) (bK (bH k2) (bF k<|aY) k4)<|dE k k<|sR<|aT k2<|aC<|bA<|aG<|aG<|sp h ⟨_,k,k,bD k k k (nX k)⟩
  ·exact aJ 40 k q9<|fp k8<|lp k8<|fp k8<|lp k8<|fp k8<|fp k8<|lp k8<|am k k<|oB h λv10 hv10 h=>ae (xl hv10 k) k<|lr k7<|oB h λv11 hv11 h=>ae (xl hv11 k) k<|lr k7<|cm k4<|pk k3<|am k k<|mR h (λq12 h=>aJ 55 k q12<|aK k4<|aK k4<|aK k4<|aK k4<|aK k4<|aK k4<|ak k k<|pk k3<|an<|oW (by kernel_rfl)<|tn<|aP (t:=mN [(1,.ptr 0 0 0),(28,.list 3 (a0.maps.map eM)),(29,.int (a0.maps.length:Int)),(30,.int x1),(69,.bl true)] [(0,⟨6,[eR a0]⟩)] 2) (bK (bH k2) (bF k<|aY) k4)<|dE k k<|sR<|aT k2<|aC<|bA<|aG<|aG<|sp h ⟨_,k,k,bD k k k (nX k)⟩) λq12 h=>aJ 55 k q12<|fp k8<|lp k8<|fp k8<|lp k8<|fp k8<|fp k8<|lp k8<|am k k<|oB h λv13 hv13 h=>ae (xl hv13 k) k<|lr k7<|oB h λv14 hv14 h=>ae (xl hv14 k) k<|lr k7<|cm k4<|pk k3<|an<|oW (by kernel_rfl)<|tn<|aP (t:=mN [(1,.ptr 0 0 0),(28,.list 3 (a0.maps.map eM)),(29,.int (a0.maps.length:Int)),(30,.int x1),(69,.bl (!decide (v7.rows=v14)))] [(0,⟨6,[eR a0]⟩)] 2) (bK (bH k2) (bF k<|aY) k4)<|cO k h (λ_ h=>sR<|aT k2<|aC<|bA<|aG<|aG<|sp h ⟨_,k,k,bD k k k (nX k)⟩) λ_ h=>aI<|aX<|tn<|rg<|ae (bB k k) k<|am k k<|an<|tn<|sp h ⟨_,k,(bK (bH k2) (bF k<|aY) k4)⟩
 ·intro e t hX;rcases y16 with y17|y18
  ·obtain ⟨rfl,hent⟩:=hX;exact aN<|tn<|aP hent<|sR<|aT k2<|aC<|fB h k2
  ·obtain ⟨rfl,hent⟩:=hX;exact bA<|aG<|sp h hent
def gO (a0:Mt):Option Mt:=
 (zW a0.cells).bind λv1=>
 some ((⟨a0.rows,a0.cols,v1⟩:Mt))
theorem tJ (a0:Mt) (r:Mt) (h:gO a0=some r):HasC Tryz.prog 217 [.agg (eM a0)] (.agg (eM r)):=by
 exact hM [.cell 2 93] Tryz.func217 Tryz.ntmps217 k<|sR<|ae (wb k) k<|ae (bY aS k k) k<|an<|tn<|sR<|fp k8<|lp k8<|oB h λv1 hv1 h=>ae (cL dY (aJY a0.cells v1 hv1) k3 (bX k aL)) k<|fp k8<|ae (ws k) k<|an<|tn<|sR<|lp k8<|ae (ws k) k<|an<|tn<|aC<|sp h (bD k k k (rR (bL (k) (bL (k) (bL (gC dY k k) mU)))))
def pF (a0:Int) (a2:Mt) (v1:Mt) (v3:(List Int)) (x1:((List Int)×Int)) (x2:((List Int)×Int)):Option (((List Int)×Int) ⊕ (List Int)):=
 bif decide (x2.2<(v3.length:Int)) then
 ((cP v3 x2.2).bind λv5=>
 (cI (⟨v1.rows,v1.cols,x2.1⟩:Mt) x1.2).bind λv6=>
 (aDa a2 x2.2).bind λv7=>
 (dZ a0 x2.1 (0+(wr (x1.2*v1.cols)).toNat) ((wr ((wr (x1.2+1))*v1.cols)).toNat - (wr (x1.2*v1.cols)).toNat) v5 v7).bind λv8=>
 bif decide (v8.length=x2.1.length) then
 (some (.inl (v8,wr (x2.2+1))))
 else none)
 else
 (some (.inr x2.1))
def pG (a0:Int) (a1:Mt) (a2:Mt) (v1:Mt) (x1:((List Int)×Int)):Option (((List Int)×Int) ⊕ (List Int)):=
 bif decide (x1.2<a1.rows) then
 ((aDa a1 x1.2).bind λv3=>
 (Lp (pF a0 a2 v1 v3 x1) (x1.1,0)).bind λy10=>
 some (.inl (y10,wr (x1.2+1))))
 else
 (some (.inr x1.1))
def qX (a0:Int) (a1:Mt) (a2:Mt):Option Mt:=
 (mZ a1.rows a2.cols).bind λv1=>
 (Lp (pG a0 a1 a2 v1) (v1.cells,0)).bind λy11=>
 some ((⟨v1.rows,v1.cols,y11⟩:Mt))
theorem aBN (a0:Int) (a1:Mt) (a2:Mt) (r:Mt) (h:qX a0 a1 a2=some r):HasC Tryz.prog 215 [.int a0,.agg (eM a1),.agg (eM a2)] (.agg (eM r)):=by
 refine hM [.cell 6 93] Tryz.func215 Tryz.ntmps215 k<|sR<|ae (wb k) k<|ae (wb k) k<|ae (bY aS k k) k<|an<|tn<|sR<|fp k8<|lp k8<|fp k8<|lp k8<|oB h λv1 hv1 h=>ae (cM (uW a1.rows a2.cols v1 hv1) k3 (bX k (bX k aL))) k<|ae (bY aS k k) k<|ae (ws k) k<|an<|tn<|sQ<|sR<|fp k8<|lp k8<|am k k<|an<|tn<|aE<|oB h λy11 hy11 h=>bP (body:=(pG a0 a1 a2 v1)) hy11 (λ(x1:((List Int)×Int))=>mN [(0,.int a0),(4,.ptr 0 0 0),(5,.ptr 1 0 0),(6,.ptr 2 0 0),(7,.ptr 3 0 0),(17,.int a1.rows),(18,.int x1.2)] [(0,⟨3,[eM a1]⟩),(1,⟨3,[eM a2]⟩),(2,⟨3,[eY]⟩),(3,⟨3,[[.int v1.rows,.int v1.cols,.own 4 0 x1.1.length]]⟩),(4,⟨1,x1.1.map (ow eI)⟩)] 5) (λr e t=>e= .exit 0∧Ent t (mN [(6,.ptr 0 0 0),(7,.ptr 1 0 0)] [(0,⟨3,[eY]⟩),(1,⟨3,[[.int v1.rows,.int v1.cols,.own 2 0 r.length]]⟩),(2,⟨1,r.map (ow eI)⟩)] 3)) (vS [0,1,2,4,3] (bH k2) (bF k<|bF k<|bF k<|iF k<|bT k<|aY) k4) ?_ ?_
 ·intro x1 o h;refine sR<|cm k4<|an<|tn<|sQ<|cO k h (λ_ h=>?_) λ_ h=>aV<|aB<|aB<|sp h ⟨_,k,k,(vS [2,3,4] (bH k2) (bF k<|iF k<|bT k<|aY) k4)⟩;refine aI<|tn<|sQ<|aE<|sR<|am k k<|aT k2<|sR<|lp k8<|am k k<|oB h λv3 hv3 h=>ae (aHV (aLn a1 x1.2 v3 hv3) k k k) k<|ln k4<|am k k<|an<|tn<|aE<|oB h λy10 hy10 h=>bP (body:=(pF a0 a2 v1 v3 x1)) hy10 (λ(x2:((List Int)×Int))=>mN [(0,.int a0),(4,.ptr 0 0 0),(5,.ptr 1 0 0),(6,.ptr 2 0 0),(7,.ptr 3 0 0),(8,.int x1.2),(17,.int a1.rows),(18,.int x1.2),(23,.list 1 (v3.map eI)),(24,.int (v3.length:Int)),(25,.int x2.2)] [(0,⟨3,[eM a1]⟩),(1,⟨3,[eM a2]⟩),(2,⟨3,[eY]⟩),(3,⟨3,[[.int v1.rows,.int v1.cols,.own 4 0 x2.1.length]]⟩),(4,⟨1,x2.1.map (ow eI)⟩)] 5) (λr e t=>e= .exit 2∧Ent t (mN [(0,.int a0),(4,.ptr 0 0 0),(5,.ptr 1 0 0),(6,.ptr 2 0 0),(7,.ptr 3 0 0),(17,.int a1.rows),(18,.int x1.2)] [(0,⟨3,[eM a1]⟩),(1,⟨3,[eM a2]⟩),(2,⟨3,[eY]⟩),(3,⟨3,[[.int v1.rows,.int v1.cols,.own 4 0 r.length]]⟩),(4,⟨1,r.map (ow eI)⟩)] 5)) (bK (bH k2) (bF k<|bF k<|bF k<|iF k<|bT k<|aY) k4) ?_ ?_
  ·intro x2 o h;refine sR<|cm k4<|an<|tn<|sQ<|cO k h (λ_ h=>?_) λ_ h=>aV<|aB<|aB<|sp h ⟨_,k,k,(bK (bH k2) (bF k<|bF k<|bF k<|iF k<|bT k<|aY) k4)⟩;refine aI<|tn<|sQ<|aE<|sR<|am k k<|oB h λv5 hv5 h=>ae (xl hv5 k) k<|lr k7<|aa k k<|aT k2<|aO fZ<|am k k<|lp k8<|am k k<|oB h λv6 hv6 h=>ae (AEff.pureE (mV (σ:=sg [(0,4)]) (σ':=sg [(4,0)]) (touch:=[4]) (news:=[]) (hl2:=[(4,⟨1,x2.1.map (ow eI)⟩)]) (n':=5) (r2:= .own 4 (0+(wr (x1.2*v1.cols)).toNat) ((wr ((wr (x1.2+1))*v1.cols)).toNat - (wr (x1.2*v1.cols)).toNat)) (dT (⟨v1.rows,v1.cols,x2.1⟩:Mt) x1.2 v6 hv6) k k ⟨_,_,k,⟨_,_,k,k,⟨_,_,k,k,⟨_,_,k,⟨k,k,k,k⟩,k⟩⟩⟩,⟨_,_,k,k,k⟩⟩ ⟨⟨_,k,k,.inl ⟨k,dY.plainO _⟩⟩,k,aY⟩ k k k ⟨⟨_,k,k,.inl ⟨k,dY.plainO _⟩⟩,k,aY⟩ k ⟨k,k,(by simp only [aW,lA,lT,lR,lC,lN]),k⟩ k ⟨k,dY.tame _ _,aY⟩ k k) ⟨k,k,aY⟩) k<|am k k<|lp k8<|am k k<|oB h λv7 hv7 h=>ae (aHV (aLn a2 x2.2 v7 hv7) k k k) k<|oB h λv8 hv8 h=>ae (mV (σ:=sg [(0,4)]) (σ':=sg [(4,0)]) (touch:=[4]) (news:=[]) (hl2:=[(4,⟨1,v8.map (ow eI)⟩)]) (n':=5) (r2:= .own 4 (0+(wr (x1.2*v1.cols)).toNat) ((wr ((wr (x1.2+1))*v1.cols)).toNat - (wr (x1.2*v1.cols)).toNat)) (pY a0 x2.1 (0+(wr (x1.2*v1.cols)).toNat) ((wr ((wr (x1.2+1))*v1.cols)).toNat - (wr (x1.2*v1.cols)).toNat) v5 v7 v8 hv8) k k ⟨_,_,k,k,⟨_,_,k,⟨k,k,k,k⟩,⟨_,_,k,k,⟨_,_,k,⟨k,k⟩,k⟩⟩⟩⟩ ⟨⟨_,k,k,.inl ⟨k,dY.plainO _⟩⟩,k,aY⟩ k k k ⟨⟨_,k,k,.inl ⟨k,dY.plainO _⟩⟩,k,aY⟩ k ⟨k,k,(by simp only [aW,lA,lT,lR,lC,lN]),k⟩ k ⟨k,dY.tame _ _,aY⟩ k k) k<|cG h λq9 h=>an<|oW (by kernel_rfl)<|aX<|tn<|rg<|ae (bB k k) k ?_;exact am k k<|an<|tn<|sp h ⟨_,k,(bK (bH k2) (bF k<|bF k<|bF k<|hX ⟨_,k,k,.inr ⟨_,_,k,⟨_,_,k,k,⟨_,_,k,k,⟨_,_,k,⟨k,k,(by simp only [aW,lA,lT,lR,lC,lN,of_decide_eq_true q9]),k⟩,k⟩⟩⟩,k⟩⟩ k<|bT k<|aY) k4)⟩
  ·rintro e t ⟨rfl,hent⟩;exact aN<|aX<|tn<|aP hent<|rg<|ae (bB k k) k<|am k k<|an<|tn<|sp h ⟨_,k,(bK (bH k2) (bF k<|bF k<|bF k<|iF k<|bT k<|aY) k4)⟩
 ·rintro e t ⟨rfl,hent⟩;exact aN<|tn<|aP hent<|sR<|lp k8<|ae (ws k) k<|an<|tn<|aC<|sp h (bD k k k (rR (bL (k) (bL (k) (bL (gC dY k k) mU)))))
def kL (v1:Mt) (x1:(Int×(List Int)×(List Int))) (x2:Int):Option (Int ⊕ Int):=
 bif decide (x2<v1.rows) then
 ((cI (⟨v1.rows,v1.cols,x1.2.1⟩:Mt) x2).bind λv4=>
 bif (decide (0≤x1.1)&&decide (x1.1<((((wr ((wr (x2+1))*v1.cols)).toNat - (wr (x2*v1.cols)).toNat):Nat):Int))) then
 ((x1.2.1[((0+(wr (x2*v1.cols)).toNat)+x1.1.toNat)]?).bind λv5=>
 bif decide (v5=0) then
 (some (.inl (wr (x2+1))))
 else
 (some (.inr x2))
 )
 else none)
 else
 (some (.inr x2))
def nH (v1:Mt) (x1:(Int×(List Int)×(List Int))) (y8:Int) (x3:((List Int)×Int)):Option (((List Int)×Int) ⊕ (List Int)):=
 bif decide (x3.2<v1.cols) then
 ((cI (⟨v1.rows,v1.cols,x3.1⟩:Mt) y8).bind λv12=>
 (cI (⟨v1.rows,v1.cols,x3.1⟩:Mt) y8).bind λv13=>
 bif (decide (0≤x3.2)&&decide (x3.2<((((wr ((wr (y8+1))*v1.cols)).toNat - (wr (y8*v1.cols)).toNat):Nat):Int))) then
 ((x3.1[((0+(wr (y8*v1.cols)).toNat)+x3.2.toNat)]?).bind λv14=>
 bif (decide (0≤x3.2)&&decide (x3.2<((((wr ((wr (((x1.2.2.length:Nat):Int)+1))*v1.cols)).toNat - (wr (((x1.2.2.length:Nat):Int)*v1.cols)).toNat):Nat):Int))) then
 ((x3.1[((0+(wr (((x1.2.2.length:Nat):Int)*v1.cols)).toNat)+x3.2.toNat)]?).bind λv16=>
 bif (decide (0≤x3.2)&&decide (x3.2<((((wr ((wr (((x1.2.2.length:Nat):Int)+1))*v1.cols)).toNat - (wr (((x1.2.2.length:Nat):Int)*v1.cols)).toNat):Nat):Int))) then
 ((x3.1[((0+(wr (((x1.2.2.length:Nat):Int)*v1.cols)).toNat)+x3.2.toNat)]?).bind λv18=>
 bif (decide (0≤x3.2)&&decide (x3.2<((((wr ((wr (y8+1))*v1.cols)).toNat - (wr (y8*v1.cols)).toNat):Nat):Int))) then
 (((x3.1.set ((0+(wr (((x1.2.2.length:Nat):Int)*v1.cols)).toNat)+x3.2.toNat) v14)[((0+(wr (y8*v1.cols)).toNat)+x3.2.toNat)]?).bind λv20=>
 some (.inl (((x3.1.set ((0+(wr (((x1.2.2.length:Nat):Int)*v1.cols)).toNat)+x3.2.toNat) v14).set ((0+(wr (y8*v1.cols)).toNat)+x3.2.toNat) v16),wr (x3.2+1)))
 )
 else none
 )
 else none
 )
 else none
 )
 else none)
 else
 (some (.inr x3.1))
def nI (a0:Int) (v1:Mt) (v25:Int) (x1:(Int×(List Int)×(List Int))) (x4:((List Int)×Int)):Option (((List Int)×Int) ⊕ (List Int)):=
 bif decide (x4.2<((((wr ((wr (((x1.2.2.length:Nat):Int)+1))*v1.cols)).toNat - (wr (((x1.2.2.length:Nat):Int)*v1.cols)).toNat):Nat):Int)) then
 (bif (decide (0≤x4.2)&&decide (x4.2<((((wr ((wr (((x1.2.2.length:Nat):Int)+1))*v1.cols)).toNat - (wr (((x1.2.2.length:Nat):Int)*v1.cols)).toNat):Nat):Int))) then
 ((x4.1[((0+(wr (((x1.2.2.length:Nat):Int)*v1.cols)).toNat)+x4.2.toNat)]?).bind λv27=>
 bif !decide (a0=0) then
 (bif (decide (0≤x4.2)&&decide (x4.2<((((wr ((wr (((x1.2.2.length:Nat):Int)+1))*v1.cols)).toNat - (wr (((x1.2.2.length:Nat):Int)*v1.cols)).toNat):Nat):Int))) then
 ((x4.1[((0+(wr (((x1.2.2.length:Nat):Int)*v1.cols)).toNat)+x4.2.toNat)]?).bind λv29=>
 some (.inl ((x4.1.set ((0+(wr (((x1.2.2.length:Nat):Int)*v1.cols)).toNat)+x4.2.toNat) ((wr (v27*v25)).tmod a0)),wr (x4.2+1)))
 )
 else none)
 else none
 )
 else none)
 else
 (some (.inr x4.1))
def nJ (a0:Int) (v1:Mt) (x1:(Int×(List Int)×(List Int))) (x5:((List Int)×Int)):Option (((List Int)×Int) ⊕ (List Int)):=
 bif decide (x5.2<v1.rows) then
 (bif !decide (x5.2=((x1.2.2.length:Nat):Int)) then
 ((cI (⟨v1.rows,v1.cols,x5.1⟩:Mt) x5.2).bind λv35=>
 (cI (⟨v1.rows,v1.cols,x5.1⟩:Mt) x5.2).bind λv36=>
 bif (decide (0≤x1.1)&&decide (x1.1<((((wr ((wr (x5.2+1))*v1.cols)).toNat - (wr (x5.2*v1.cols)).toNat):Nat):Int))) then
 ((x5.1[((0+(wr (x5.2*v1.cols)).toNat)+x1.1.toNat)]?).bind λv37=>
 (gE a0 x5.1 (0+(wr (x5.2*v1.cols)).toNat) ((wr ((wr (x5.2+1))*v1.cols)).toNat - (wr (x5.2*v1.cols)).toNat) (wr (a0 - v37)) (0+(wr (((x1.2.2.length:Nat):Int)*v1.cols)).toNat) ((wr ((wr (((x1.2.2.length:Nat):Int)+1))*v1.cols)).toNat - (wr (((x1.2.2.length:Nat):Int)*v1.cols)).toNat)).bind λv39=>
 bif decide (v39.length=x5.1.length) then
 (some (.inl (v39,wr (x5.2+1))))
 else none
 )
 else none)
 else
 (some (.inl (x5.1,wr (x5.2+1)))))
 else
 (some (.inr x5.1))
def kM (a0:Int) (v1:Mt) (x1:(Int×(List Int)×(List Int))):Option ((Int×(List Int)×(List Int)) ⊕ ((List Int)×(List Int))):=
 bif decide (x1.1<v1.cols) then
 ((Lp (kL v1 x1) ((x1.2.2.length:Nat):Int)).bind λy8=>
 bif decide (y8=v1.rows) then
 (some (.inl (wr (x1.1+1),x1.2.1,x1.2.2)))
 else
 ((cI (⟨v1.rows,v1.cols,x1.2.1⟩:Mt) ((x1.2.2.length:Nat):Int)).bind λv10=>
 (Lp (nH v1 x1 y8) (x1.2.1,0)).bind λy22=>
 bif (decide (0≤x1.1)&&decide (x1.1<((((wr ((wr (((x1.2.2.length:Nat):Int)+1))*v1.cols)).toNat - (wr (((x1.2.2.length:Nat):Int)*v1.cols)).toNat):Nat):Int))) then
 ((y22[((0+(wr (((x1.2.2.length:Nat):Int)*v1.cols)).toNat)+x1.1.toNat)]?).bind λv23=>
 (mH a0 v23).bind λv25=>
 (Lp (nI a0 v1 v25 x1) (y22,0)).bind λy32=>
 (Lp (nJ a0 v1 x1) (y32,0)).bind λy41=>
 bif decide (x1.2.2.length+[x1.1].length ≤4294967296) then
 (some (.inl (wr (x1.1+1),y41,(x1.2.2++[x1.1]))))
 else none
 )
 else none))
 else
 (some (.inr (x1.2.1,x1.2.2)))
def oH (a0:Int) (a1:Mt):Option (Mt×(List Int)):=
 (gO a1).bind λv1=>
 (Lp (kM a0 v1) (0,v1.cells,[])).bind λy43=>
 some (((⟨v1.rows,v1.cols,y43.1⟩:Mt),y43.2))
theorem aAL (a0:Int) (a1:Mt) (r:(Mt×(List Int))) (h:oH a0 a1=some r):HasC Tryz.prog 186 [.int a0,.agg (eM a1)] (.tuple [.agg (eM r.1),.list 1 (r.2.map eI)]):=by
 refine hM [.cell 4 93,.tmp 5] Tryz.func186 Tryz.ntmps186 k<|sR<|ae (wb k) k<|ae (bY aS k k) k<|aT k2<|sR<|lp k8<|oB h λv1 hv1 h=>ae (cM (tJ a1 v1 hv1) k3 (aD (cN k) aL)) k<|ae (ws k) k<|an<|tn<|sR<|aT k2<|sQ<|sR<|fp k8<|lp k8<|am k k<|an<|tn<|aE<|oB h λy43 hy43 h=>bP (body:=(kM a0 v1)) hy43 (λ(x1:(Int×(List Int)×(List Int)))=>mN [(0,.int a0),(3,.ptr 0 0 0),(4,.ptr 2 0 0),(6,.own 3 0 x1.2.2.length),(17,.int v1.cols),(18,.int x1.1)] [(0,⟨3,[[.int v1.rows,.int v1.cols,.own 1 0 x1.2.1.length]]⟩),(1,⟨1,x1.2.1.map (ow eI)⟩),(2,⟨3,[eY]⟩),(3,⟨1,x1.2.2.map (ow eI)⟩)] 4) (λr e t=>e= .exit 0∧Ent t (mN [(3,.ptr 0 0 0),(4,.ptr 2 0 0),(6,.own 3 0 r.2.length)] [(0,⟨3,[[.int v1.rows,.int v1.cols,.own 1 0 r.1.length]]⟩),(1,⟨1,r.1.map (ow eI)⟩),(2,⟨3,[eY]⟩),(3,⟨1,r.2.map (ow eI)⟩)] 4)) (qH (σ:=sg [(0,0),(1,2),(2,1)]) (tN 3 k2 (sW ⟨_,k,⟨k,k,k,k⟩⟩ (bH k2))) (iF k<|bT k<|bF k<|hX k k<|aY) k) ?_ ?_
 ·intro x1 o h;refine sR<|cm k4<|an<|tn<|sQ<|cO k h (λ_ h=>?_) λ_ h=>aV<|aB<|aB<|sp h ⟨_,k,k,(bK (bH k2) (iF k<|bT k<|bF k<|bT k<|aY) k4)⟩;refine aI<|tn<|sQ<|aE<|sR<|am k k<|aT k2<|sR<|am k k<|ae (dU aS k k k k) k<|aT k2<|sQ<|aE<|oB h λy8 hy8 h=>bP (body:=(kL v1 x1)) hy8 (λ(x2:Int)=>mN [(0,.int a0),(3,.ptr 0 0 0),(4,.ptr 2 0 0),(6,.own 3 0 x1.2.2.length),(7,.int x1.1),(8,.int x2),(17,.int v1.cols),(18,.int x1.1)] [(0,⟨3,[[.int v1.rows,.int v1.cols,.own 1 0 x1.2.1.length]]⟩),(1,⟨1,x1.2.1.map (ow eI)⟩),(2,⟨3,[eY]⟩),(3,⟨1,x1.2.2.map (ow eI)⟩)] 4) (λr e t=>e= .exit 2∧Ent t (mN [(0,.int a0),(3,.ptr 0 0 0),(4,.ptr 2 0 0),(6,.own 3 0 x1.2.2.length),(7,.int x1.1),(8,.int r),(17,.int v1.cols),(18,.int x1.1)] [(0,⟨3,[[.int v1.rows,.int v1.cols,.own 1 0 x1.2.1.length]]⟩),(1,⟨1,x1.2.1.map (ow eI)⟩),(2,⟨3,[eY]⟩),(3,⟨1,x1.2.2.map (ow eI)⟩)] 4)) (bK (bH k2) (iF k<|bT k<|bF k<|bT k<|aY) k4) ?_ ?_
  ·intro x2 o h;exact sQ<|sR<|am k k<|fp k8<|lp k8<|cm k4<|am k k<|mR h (λq3 h=>aJ 27 k q3<|lp k8<|am k k<|oB h λv4 hv4 h=>ae (AEff.pureE (mV (σ:=sg [(0,1)]) (σ':=sg [(1,0)]) (touch:=[1]) (news:=[]) (hl2:=[(1,⟨1,x1.2.1.map (ow eI)⟩)]) (n':=4) (r2:= .own 1 (0+(wr (x2*v1.cols)).toNat) ((wr ((wr (x2+1))*v1.cols)).toNat - (wr (x2*v1.cols)).toNat)) (dT (⟨v1.rows,v1.cols,x1.2.1⟩:Mt) x2 v4 hv4) k k ⟨_,_,k,⟨_,_,k,k,⟨_,_,k,k,⟨_,_,k,⟨k,k,k,k⟩,k⟩⟩⟩,⟨_,_,k,k,k⟩⟩ ⟨⟨_,k,k,.inl ⟨k,dY.plainO _⟩⟩,k,aY⟩ k k k ⟨⟨_,k,k,.inl ⟨k,dY.plainO _⟩⟩,k,aY⟩ k ⟨k,k,(by simp only [aW,lA,lT,lR,lC,lN]),k⟩ k ⟨k,dY.tame _ _,aY⟩ k k) ⟨k,k,aY⟩) k<|am k k<|cG h λq6 h=>oB h λv5 hv5 h=>ae (fU aS q6 k k k k k k k) k<|ae (dI aS k k k k (tA (hv5)) k k) k<|cm k4<|pk k3<|an<|tn<|cO k h (λ_ h=>aI<|tn<|aE<|rg<|am k k<|ae (bB k k) k<|aa k k<|an<|aX<|tn<|sp h ⟨_,k,(bK (bH k2) (iF k<|bT k<|bF k<|bT k<|aY) k4)⟩) λ_ h=>aV<|aB<|aB<|sp h ⟨_,k,k,(bK (bH k2) (iF k<|bT k<|bF k<|bT k<|aY) k4)⟩) λq3 h=>aJ 27 k q3<|aK k4<|aK k4<|aK k4<|ak k k<|pk k3<|an<|tn<|sK k k<|aV<|aB<|aB<|sp h ⟨_,k,k,(bK (bH k2) (iF k<|bT k<|bF k<|bT k<|aY) k4)⟩
  ·rintro e t ⟨rfl,hent⟩;refine aN<|tn<|aP hent<|sQ<|sR<|am k k<|fp k8<|lp k8<|cm k4<|an<|tn<|cO k h (λ_ h=>aV<|aB<|aN<|tn<|rg<|ae (bB k k) k<|am k k<|an<|tn<|sp h ⟨_,k,(bK (bH k2) (iF k<|bT k<|bF k<|bT k<|aY) k4)⟩) λ_ h=>?_;refine aI<|tn<|sR<|lp k8<|am k k<|ae (dU aS k k k k) k<|oB h λv10 hv10 h=>ae (AEff.pureE (mV (σ:=sg [(0,1)]) (σ':=sg [(1,0)]) (touch:=[1]) (news:=[]) (hl2:=[(1,⟨1,x1.2.1.map (ow eI)⟩)]) (n':=4) (r2:= .own 1 (0+(wr (((x1.2.2.length:Nat):Int)*v1.cols)).toNat) ((wr ((wr (((x1.2.2.length:Nat):Int)+1))*v1.cols)).toNat - (wr (((x1.2.2.length:Nat):Int)*v1.cols)).toNat)) (dT (⟨v1.rows,v1.cols,x1.2.1⟩:Mt) ((x1.2.2.length:Nat):Int) v10 hv10) k k ⟨_,_,k,⟨_,_,k,k,⟨_,_,k,k,⟨_,_,k,⟨k,k,k,k⟩,k⟩⟩⟩,⟨_,_,k,k,k⟩⟩ ⟨⟨_,k,k,.inl ⟨k,dY.plainO _⟩⟩,k,aY⟩ k k k ⟨⟨_,k,k,.inl ⟨k,dY.plainO _⟩⟩,k,aY⟩ k ⟨k,k,(by simp only [aW,lA,lT,lR,lC,lN]),k⟩ k ⟨k,dY.tame _ _,aY⟩ k k) ⟨k,k,aY⟩) k<|aT k2<|sQ<|sR<|fp k8<|lp k8<|am k k<|an<|tn<|aE<|oB h λy22 hy22 h=>bP (body:=(nH v1 x1 y8)) hy22 (λ(x3:((List Int)×Int))=>mN [(0,.int a0),(3,.ptr 0 0 0),(4,.ptr 2 0 0),(6,.own 3 0 x1.2.2.length),(7,.int x1.1),(8,.int y8),(9,.own 1 (0+(wr (((x1.2.2.length:Nat):Int)*v1.cols)).toNat) ((wr ((wr (((x1.2.2.length:Nat):Int)+1))*v1.cols)).toNat - (wr (((x1.2.2.length:Nat):Int)*v1.cols)).toNat)),(17,.int v1.cols),(18,.int x1.1),(47,.int v1.cols),(48,.int x3.2)] [(0,⟨3,[[.int v1.rows,.int v1.cols,.own 1 0 x3.1.length]]⟩),(1,⟨1,x3.1.map (ow eI)⟩),(2,⟨3,[eY]⟩),(3,⟨1,x1.2.2.map (ow eI)⟩)] 4) (λr e t=>e= .exit 4∧Ent t (mN [(0,.int a0),(3,.ptr 0 0 0),(4,.ptr 2 0 0),(6,.own 3 0 x1.2.2.length),(7,.int x1.1),(9,.own 1 (0+(wr (((x1.2.2.length:Nat):Int)*v1.cols)).toNat) ((wr ((wr (((x1.2.2.length:Nat):Int)+1))*v1.cols)).toNat - (wr (((x1.2.2.length:Nat):Int)*v1.cols)).toNat)),(17,.int v1.cols),(18,.int x1.1)] [(0,⟨3,[[.int v1.rows,.int v1.cols,.own 1 0 r.length]]⟩),(1,⟨1,r.map (ow eI)⟩),(2,⟨3,[eY]⟩),(3,⟨1,x1.2.2.map (ow eI)⟩)] 4)) (bK (bH k2) (iF k<|bT k<|bF k<|bT k<|aY) k4) ?_ ?_
   ·intro x3 o h;refine sR<|cm k4<|an<|tn<|sQ<|cO k h (λ_ h=>?_) λ_ h=>aV<|aB<|aB<|sp h ⟨_,k,k,(bK (bH k2) (iF k<|bT k<|bF k<|bT k<|aY) k4)⟩;refine aI<|tn<|sQ<|aE<|sR<|am k k<|aT k2<|aO fZ<|am k k<|am k k<|lp k8<|am k k<|oB h λv12 hv12 h=>ae (AEff.pureE (mV (σ:=sg [(0,1)]) (σ':=sg [(1,0)]) (touch:=[1]) (news:=[]) (hl2:=[(1,⟨1,x3.1.map (ow eI)⟩)]) (n':=4) (r2:= .own 1 (0+(wr (y8*v1.cols)).toNat) ((wr ((wr (y8+1))*v1.cols)).toNat - (wr (y8*v1.cols)).toNat)) (dT (⟨v1.rows,v1.cols,x3.1⟩:Mt) y8 v12 hv12) k k ⟨_,_,k,⟨_,_,k,k,⟨_,_,k,k,⟨_,_,k,⟨k,k,k,k⟩,k⟩⟩⟩,⟨_,_,k,k,k⟩⟩ ⟨⟨_,k,k,.inl ⟨k,dY.plainO _⟩⟩,k,aY⟩ k k k ⟨⟨_,k,k,.inl ⟨k,dY.plainO _⟩⟩,k,aY⟩ k ⟨k,k,(by simp only [aW,lA,lT,lR,lC,lN]),k⟩ k ⟨k,dY.tame _ _,aY⟩ k k) ⟨k,k,aY⟩) k<|am k k<|lp k8<|am k k<|oB h λv13 hv13 h=>ae (AEff.pureE (mV (σ:=sg [(0,1)]) (σ':=sg [(1,0)]) (touch:=[1]) (news:=[]) (hl2:=[(1,⟨1,x3.1.map (ow eI)⟩)]) (n':=4) (r2:= .own 1 (0+(wr (y8*v1.cols)).toNat) ((wr ((wr (y8+1))*v1.cols)).toNat - (wr (y8*v1.cols)).toNat)) (dT (⟨v1.rows,v1.cols,x3.1⟩:Mt) y8 v13 hv13) k k ⟨_,_,k,⟨_,_,k,k,⟨_,_,k,k,⟨_,_,k,⟨k,k,k,k⟩,k⟩⟩⟩,⟨_,_,k,k,k⟩⟩ ⟨⟨_,k,k,.inl ⟨k,dY.plainO _⟩⟩,k,aY⟩ k k k ⟨⟨_,k,k,.inl ⟨k,dY.plainO _⟩⟩,k,aY⟩ k ⟨k,k,(by simp only [aW,lA,lT,lR,lC,lN]),k⟩ k ⟨k,dY.tame _ _,aY⟩ k k) ⟨k,k,aY⟩) k<|am k k<|cG h λq15 h=>oB h λv14 hv14 h=>ae (fU aS q15 k k k k k k k) k<|ae (dI aS k k k k (tA (hv14)) k k) k<|am k k<|am k k<|cG h λq17 h=>oB h λv16 hv16 h=>ae (fU aS q17 k k k k k k k) k<|ae (dI aS k k k k (tA (hv16)) k k) k<|cG h λq19 h=>oB h λv18 hv18 h=>ae (fU aS q19 k k k k k k k) k<|ae (fY aS pX (u:=v14) (hv18) k k k k k k) k ?_;exact cG h λq21 h=>oB h λv20 hv20 h=>ae (fU aS q21 k k k k k k k) k<|ae (fY aS pX (u:=v16) (hv20) k k k k k k) k<|an<|oW (by kernel_rfl)<|aX<|tn<|rg<|ae (bB k k) k<|am k k<|an<|tn<|sp h ⟨_,k,(bK (bH k2) (hX ⟨_,k,k,.inr ⟨_,_,k,⟨_,_,k,k,⟨_,_,k,k,⟨_,_,k,⟨k,k,(by simp only [aW,lA,lT,lR,lC,lN]),k⟩,k⟩⟩⟩,k⟩⟩ k<|bT k<|bF k<|bT k<|aY) k4)⟩
   ·rintro e t ⟨rfl,hent⟩;refine aN<|tn<|aP hent<|sR<|am k k<|am k k<|am k k<|cG h λq24 h=>oB h λv23 hv23 h=>ae (fU aS q24 k k k k k k k) k<|ae (dI aS k k k k (tA (hv23)) k k) k<|oB h λv25 hv25 h=>ae (aH (aBK a0 v23 v25 hv25) k (bX k (bX k aL))) k<|aT k2<|sQ<|sR<|am k k<|ae (dU aS k k k k) k<|am k k<|an<|tn<|aE<|oB h λy32 hy32 h=>bP (body:=(nI a0 v1 v25 x1)) hy32 (λ(x4:((List Int)×Int))=>mN [(0,.int a0),(3,.ptr 0 0 0),(4,.ptr 2 0 0),(6,.own 3 0 x1.2.2.length),(7,.int x1.1),(9,.own 1 (0+(wr (((x1.2.2.length:Nat):Int)*v1.cols)).toNat) ((wr ((wr (((x1.2.2.length:Nat):Int)+1))*v1.cols)).toNat - (wr (((x1.2.2.length:Nat):Int)*v1.cols)).toNat)),(11,.int v25),(17,.int v1.cols),(18,.int x1.1),(77,.int ((((wr ((wr (((x1.2.2.length:Nat):Int)+1))*v1.cols)).toNat - (wr (((x1.2.2.length:Nat):Int)*v1.cols)).toNat):Nat):Int)),(78,.int x4.2)] [(0,⟨3,[[.int v1.rows,.int v1.cols,.own 1 0 x4.1.length]]⟩),(1,⟨1,x4.1.map (ow eI)⟩),(2,⟨3,[eY]⟩),(3,⟨1,x1.2.2.map (ow eI)⟩)] 4) (λr e t=>e= .exit 6∧Ent t (mN [(0,.int a0),(3,.ptr 0 0 0),(4,.ptr 2 0 0),(6,.own 3 0 x1.2.2.length),(7,.int x1.1),(9,.own 1 (0+(wr (((x1.2.2.length:Nat):Int)*v1.cols)).toNat) ((wr ((wr (((x1.2.2.length:Nat):Int)+1))*v1.cols)).toNat - (wr (((x1.2.2.length:Nat):Int)*v1.cols)).toNat)),(17,.int v1.cols),(18,.int x1.1)] [(0,⟨3,[[.int v1.rows,.int v1.cols,.own 1 0 r.length]]⟩),(1,⟨1,r.map (ow eI)⟩),(2,⟨3,[eY]⟩),(3,⟨1,x1.2.2.map (ow eI)⟩)] 4)) (bK (bH k2) (iF k<|bT k<|bF k<|bT k<|aY) k4) ?_ ?_
    ·intro x4 o h;refine sR<|cm k4<|an<|tn<|sQ<|cO k h (λ_ h=>?_) λ_ h=>aV<|aB<|aB<|sp h ⟨_,k,k,(bK (bH k2) (iF k<|bT k<|bF k<|bT k<|aY) k4)⟩;refine aI<|tn<|sQ<|aE<|sR<|am k k<|aT k2<|rg<|am k k<|am k k<|am k k<|am k k<|cG h λq28 h=>oB h λv27 hv27 h=>ae (fU aS q28 k k k k k k k) k<|ae (dI aS k k k k (tA (hv27)) k k) k<|am k k<|ae (dJ k k) k<|am k k<|cG h λq31 h=>ae (yK k k q31) k<|cG h λq30 h=>oB h λv29 hv29 h=>ae (fU aS q30 k k k k k k k) k<|ae (fY aS pX (u:=(wr (v27*v25)).tmod a0) (hv29) k k k k k k) k<|an<|aX<|tn<|rg<|ae (bB k k) k<|am k k ?_;exact an<|tn<|sp h ⟨_,k,(bK (bH k2) (hX ⟨_,k,k,.inr ⟨_,_,k,⟨_,_,k,k,⟨_,_,k,k,⟨_,_,k,⟨k,k,(by simp only [aW,lA,lT,lR,lC,lN]),k⟩,k⟩⟩⟩,k⟩⟩ k<|bT k<|bF k<|bT k<|aY) k4)⟩
    ·rintro e t ⟨rfl,hent⟩;refine aN<|tn<|aP hent<|sQ<|sR<|fp k8<|lp k8<|am k k<|an<|tn<|aE<|oB h λy41 hy41 h=>bP (body:=(nJ a0 v1 x1)) hy41 (λ(x5:((List Int)×Int))=>mN [(0,.int a0),(3,.ptr 0 0 0),(4,.ptr 2 0 0),(6,.own 3 0 x1.2.2.length),(7,.int x1.1),(9,.own 1 (0+(wr (((x1.2.2.length:Nat):Int)*v1.cols)).toNat) ((wr ((wr (((x1.2.2.length:Nat):Int)+1))*v1.cols)).toNat - (wr (((x1.2.2.length:Nat):Int)*v1.cols)).toNat)),(17,.int v1.cols),(18,.int x1.1),(94,.int v1.rows),(95,.int x5.2)] [(0,⟨3,[[.int v1.rows,.int v1.cols,.own 1 0 x5.1.length]]⟩),(1,⟨1,x5.1.map (ow eI)⟩),(2,⟨3,[eY]⟩),(3,⟨1,x1.2.2.map (ow eI)⟩)] 4) (λr e t=>e= .exit 8∧Ent t (mN [(0,.int a0),(3,.ptr 0 0 0),(4,.ptr 2 0 0),(6,.own 3 0 x1.2.2.length),(7,.int x1.1),(17,.int v1.cols),(18,.int x1.1)] [(0,⟨3,[[.int v1.rows,.int v1.cols,.own 1 0 r.length]]⟩),(1,⟨1,r.map (ow eI)⟩),(2,⟨3,[eY]⟩),(3,⟨1,x1.2.2.map (ow eI)⟩)] 4)) (bK (bH k2) (iF k<|bT k<|bF k<|bT k<|aY) k4) ?_ ?_
     ·intro x5 o h;refine sR<|cm k4<|an<|tn<|sQ<|cO k h (λ_ h=>?_) λ_ h=>aV<|aB<|aB<|sp h ⟨_,k,k,(bK (bH k2) (iF k<|bT k<|bF k<|bT k<|aY) k4)⟩;refine aI<|tn<|sQ<|aE<|sR<|am k k<|aT k2<|sR<|am k k<|am k k<|ae (dU aS k k k k) k<|cm k4<|an<|tn<|cO k h (λ_ h=>?_) λ_ h=>aI<|aX<|tn<|rg<|ae (bB k k) k<|am k k<|an<|tn<|sp h ⟨_,k,(bK (bH k2) (iF k<|bT k<|bF k<|bT k<|aY) k4)⟩;exact aO fZ<|am k k<|lp k8<|am k k<|oB h λv35 hv35 h=>ae (AEff.pureE (mV (σ:=sg [(0,1)]) (σ':=sg [(1,0)]) (touch:=[1]) (news:=[]) (hl2:=[(1,⟨1,x5.1.map (ow eI)⟩)]) (n':=4) (r2:= .own 1 (0+(wr (x5.2*v1.cols)).toNat) ((wr ((wr (x5.2+1))*v1.cols)).toNat - (wr (x5.2*v1.cols)).toNat)) (dT (⟨v1.rows,v1.cols,x5.1⟩:Mt) x5.2 v35 hv35) k k ⟨_,_,k,⟨_,_,k,k,⟨_,_,k,k,⟨_,_,k,⟨k,k,k,k⟩,k⟩⟩⟩,⟨_,_,k,k,k⟩⟩ ⟨⟨_,k,k,.inl ⟨k,dY.plainO _⟩⟩,k,aY⟩ k k k ⟨⟨_,k,k,.inl ⟨k,dY.plainO _⟩⟩,k,aY⟩ k ⟨k,k,(by simp only [aW,lA,lT,lR,lC,lN]),k⟩ k ⟨k,dY.tame _ _,aY⟩ k k) ⟨k,k,aY⟩) k<|am k k<|lp k8<|am k k<|oB h λv36 hv36 h=>ae (AEff.pureE (mV (σ:=sg [(0,1)]) (σ':=sg [(1,0)]) (touch:=[1]) (news:=[]) (hl2:=[(1,⟨1,x5.1.map (ow eI)⟩)]) (n':=4) (r2:= .own 1 (0+(wr (x5.2*v1.cols)).toNat) ((wr ((wr (x5.2+1))*v1.cols)).toNat - (wr (x5.2*v1.cols)).toNat)) (dT (⟨v1.rows,v1.cols,x5.1⟩:Mt) x5.2 v36 hv36) k k ⟨_,_,k,⟨_,_,k,k,⟨_,_,k,k,⟨_,_,k,⟨k,k,k,k⟩,k⟩⟩⟩,⟨_,_,k,k,k⟩⟩ ⟨⟨_,k,k,.inl ⟨k,dY.plainO _⟩⟩,k,aY⟩ k k k ⟨⟨_,k,k,.inl ⟨k,dY.plainO _⟩⟩,k,aY⟩ k ⟨k,k,(by simp only [aW,lA,lT,lR,lC,lN]),k⟩ k ⟨k,dY.tame _ _,aY⟩ k k) ⟨k,k,aY⟩) k<|am k k<|cG h λq38 h=>oB h λv37 hv37 h=>ae (fU aS q38 k k k k k k k) k<|ae (dI aS k k k k (tA (hv37)) k k) k<|ae (kS k k) k<|am k k<|oB h λv39 hv39 h=>ae (mV (σ:=sg [(0,1)]) (σ':=sg [(1,0)]) (touch:=[1]) (news:=[]) (hl2:=[(1,⟨1,v39.map (ow eI)⟩)]) (n':=4) (r2:= .own 1 (0+(wr (x5.2*v1.cols)).toNat) ((wr ((wr (x5.2+1))*v1.cols)).toNat - (wr (x5.2*v1.cols)).toNat)) (wF a0 x5.1 (0+(wr (x5.2*v1.cols)).toNat) ((wr ((wr (x5.2+1))*v1.cols)).toNat - (wr (x5.2*v1.cols)).toNat) (wr (a0 - v37)) (0+(wr (((x1.2.2.length:Nat):Int)*v1.cols)).toNat) ((wr ((wr (((x1.2.2.length:Nat):Int)+1))*v1.cols)).toNat - (wr (((x1.2.2.length:Nat):Int)*v1.cols)).toNat) v39 hv39) k k ⟨_,_,k,k,⟨_,_,k,⟨k,k,k,k⟩,⟨_,_,k,k,⟨_,_,k,⟨k,k,k,k⟩,k⟩⟩⟩⟩ ⟨⟨_,k,k,.inl ⟨k,dY.plainO _⟩⟩,k,aY⟩ k k k ⟨⟨_,k,k,.inl ⟨k,dY.plainO _⟩⟩,k,aY⟩ k ⟨k,k,(by simp only [aW,lA,lT,lR,lC,lN]),k⟩ k ⟨k,dY.tame _ _,aY⟩ k k) k<|cG h λq40 h=>an<|oW (by kernel_rfl)<|aX<|tn<|rg<|ae (bB k k) k<|am k k<|an<|tn<|sp h ⟨_,k,(bK (bH k2) (hX ⟨_,k,k,.inr ⟨_,_,k,⟨_,_,k,k,⟨_,_,k,k,⟨_,_,k,⟨k,k,(by simp only [aW,lA,lT,lR,lC,lN,of_decide_eq_true q40]),k⟩,k⟩⟩⟩,k⟩⟩ k<|bT k<|bF k<|bT k<|aY) k4)⟩
     ·rintro e t ⟨rfl,hent⟩;exact aN<|tn<|aP hent<|rg<|am k k<|am k k<|ae (wl k) k<|cG h λq42 h=>ae (yL aS (l:=x1.2.2) (m:=[x1.1]) pX q42 k k k k k k k k k k k k) k<|aa k k<|an<|aX<|tn<|rg<|ae (bB k k) k<|am k k<|an<|tn<|sp h ⟨_,k,(vS [0,1,2,5] (bH k2) (iF k<|bT k<|bF k<|bT k<|aY) k4)⟩
 ·rintro e t ⟨rfl,hent⟩;exact aN<|tn<|aP hent<|sR<|lp k8<|am k k<|ae (ws k) k<|aT k2<|aC<|sp h (bD k k k (iX k (cF (aFy (bL (k) (bL (k) (bL (gC dY k k) mU)))) (cF (qN (gC dY k k)) qO))))
def qC (a0:Int) (a1:Mt):Option Int:=
 (oH a0 a1).bind λv1=>
 some (((v1.2.length:Nat):Int))
theorem yR (a0:Int) (a1:Mt) (r:Int) (h:qC a0 a1=some r):HasC Tryz.prog 150 [.int a0,.agg (eM a1)] (.int r):=by
 exact hM [.tmp 4] Tryz.func150 Tryz.ntmps150 k<|sR<|ae (wb k) k<|aT k2<|sR<|am k k<|lp k8<|oB h λv1 hv1 h=>ae (AEff.conv (qJ (x:= .tuple [.agg [.int v1.1.rows,.int v1.1.cols,.own 1 0 (v1.1.cells.map eI).length],.own 2 0 (v1.2.map eI).length]) (nb:=[(1,⟨1,cK (v1.1.cells.map eI)⟩),(2,⟨1,cK (v1.2.map eI)⟩)]) (aAL a0 a1 v1 hv1) k (by rfl) k k (iE (cZ aY (cZ aY (cZ (dY.good _) xC))) (iE (dY.good _) yN)) (bX k (aD (cN k) aL))) (v':= .tuple [.agg [.int v1.1.rows,.int v1.1.cols,.own 1 0 v1.1.cells.length],.own 2 0 v1.2.length]) (ed':=[(1,some ⟨1,v1.1.cells.map (ow eI)⟩),(2,some ⟨1,v1.2.map (ow eI)⟩)]) (by simp only [aW]) (wB (nb':=[(1,⟨1,v1.1.cells.map (ow eI)⟩),(2,⟨1,v1.2.map (ow eI)⟩)]) (by simp only [mB]))) k<|am k k<|ae (cB k k (by intro _ h;cases h)) k<|ae (cB k k (by intro _ h;cases h)) k<|ae (bY aS k k) k<|ae (ws k) k<|aT k2<|sR<|am k k<|ae (dU aS k k k k) k<|aT k2<|aC<|oV h k2
def jP (a0:Rp) (a1:Rp):Option Bool:=
 (qW a0).bind λv1=>
 bif v1 then
 ((qW a1).bind λv3=>
 bif v3 then
 (bif decide (a0.p=a1.p) then
 ((jW a0.q a1.q).bind λv6=>
 some (v6))
 else
 (some (false)))
 else
 (some (false)))
 else
 (some (false))
theorem xE (a0:Rp) (a1:Rp) (r:Bool) (h:jP a0 a1=some r):HasC Tryz.prog 41 [.agg (eR a0),.agg (eR a1)] (.bl r):=by
 exact hM [.tmp 4] Tryz.func41 Tryz.ntmps41 k<|sR<|ae (wb k) k<|ae (wb k) k<|aT k2<|sR<|lp k8<|oB h λv1 hv1 h=>ae (aH (aBM a0 v1 hv1) k (aD (cN k) aL)) k<|am k k<|mR h (λq2 h=>aJ 7 k q2<|lp k8<|oB h λv3 hv3 h=>ae (aH (aBM a1 v3 hv3) k (aD (cN k) aL)) k<|pk k3<|am k k<|mR h (λq4 h=>aJ 11 k q4<|fp k8<|lp k8<|fp k8<|lp k8<|cm k4<|pk k3<|am k k<|mR h (λq5 h=>aJ 18 k q5<|fp k8<|lp k8<|fp k8<|lp k8<|oB h λv6 hv6 h=>ae (aH (aAG a0.q a1.q v6 hv6) k (aD (cN k) (aD (cN k) aL))) k<|pk k3<|aT k2<|aC<|fB h k2) λq5 h=>aJ 18 k q5<|aK k4<|aK k4<|ak k k<|pk k3<|aT k2<|aC<|fB h k2) λq4 h=>aJ 11 k q4<|aK k4<|aK k4<|ak k k<|pk k3<|am k k<|aK k4<|aK k4<|ak k k<|pk k3<|aT k2<|aC<|fB h k2) λq2 h=>aJ 7 k q2<|aK k4<|pk k3<|am k k<|aK k4<|aK k4<|ak k k<|pk k3<|am k k<|aK k4<|aK k4<|ak k k<|pk k3<|aT k2<|aC<|fB h k2
end
noncomputable section
set_option maxRecDepth 10000
set_option maxHeartbeats 4000000
def jQ (a0:(List Int)) (a1:Int):Option Int:=
 bif decide (wr (a1 - (a0.length:Int))<0) then
 (some ((-1)))
 else
 (some (wr (a1 - (a0.length:Int))))
theorem sE (a0:(List Int)) (a1:Int) (r:Int) (h:jQ a0 a1=some r):HasC Tryz.prog 21 [.list 1 (a0.map eI),.int a1] (.int r):=by
 exact hM [.tmp 4] Tryz.func21 Tryz.ntmps21 k<|sR<|aT k2<|sR<|am k k<|am k k<|ln k4<|ae (kS k k) k<|aT k2<|sQ<|sR<|am k k<|cm k4<|an<|tn<|cO k h (λ_ h=>sR<|aT k2<|aC<|aG<|oV h k2) λ_ h=>aI<|tn<|sR<|am k k<|aT k2<|aC<|oV h k2
def tD (a0:Qv) (a1:Int):Option Int:=
 (jQ a0.src a1).bind λv1=>
 bif decide (v1<0) then
 (some ((-1)))
 else
 ((jQ a0.tgt v1).bind λv3=>
 bif decide (v3<0) then
 (some ((-1)))
 else
 (some (v3)))
theorem aCW (a0:Qv) (a1:Int) (r:Int) (h:tD a0 a1=some r):HasC Tryz.prog 6 [.agg (eQ a0),.int a1] (.int r):=by
 exact hM [.tmp 4] Tryz.func6 Tryz.ntmps6 k<|sR<|ae (wb k) k<|aT k2<|sR<|fp k8<|lp k8<|am k k<|oB h λv1 hv1 h=>ae (aH (sE a0.src a1 v1 hv1) k (bX k (bX k aL))) k<|aT k2<|sQ<|sR<|am k k<|cm k4<|an<|tn<|cO k h (λ_ h=>sR<|aT k2<|aC<|aG<|oV h k2) λ_ h=>aI<|tn<|sR<|fp k8<|lp k8<|am k k<|oB h λv3 hv3 h=>ae (aH (sE a0.tgt v1 v3 hv3) k (bX k (bX k aL))) k<|aT k2<|sQ<|sR<|am k k<|cm k4<|an<|tn<|cO k h (λ_ h=>sR<|aT k2<|aC<|aG<|oV h k2) λ_ h=>aI<|tn<|sR<|am k k<|aT k2<|aC<|oV h k2
def tE (a0:Mt) (a1:Int):Option Int:=
 (jQ a0.cells a1).bind λv1=>
 bif decide (v1<0) then
 (some ((-1)))
 else
 (some (v1))
theorem aCX (a0:Mt) (a1:Int) (r:Int) (h:tE a0 a1=some r):HasC Tryz.prog 79 [.agg (eM a0),.int a1] (.int r):=by
 exact hM [.tmp 4] Tryz.func79 Tryz.ntmps79 k<|sR<|ae (wb k) k<|aT k2<|sR<|fp k8<|lp k8<|am k k<|oB h λv1 hv1 h=>ae (aH (sE a0.cells a1 v1 hv1) k (bX k (bX k aL))) k<|aT k2<|sQ<|sR<|am k k<|cm k4<|an<|tn<|cO k h (λ_ h=>sR<|aT k2<|aC<|aG<|oV h k2) λ_ h=>aI<|tn<|sR<|am k k<|aT k2<|aC<|oV h k2
def jX (a0:(List Mt)) (x1:(Int×Int)):Option ((Int×Int) ⊕ (Int ⊕ Int)):=
 bif decide (x1.2<(a0.length:Int)) then
 ((cP a0 x1.2).bind λv3=>
 (tE v3 x1.1).bind λv4=>
 bif decide (v4<0) then
 (some (.inr (.inr ((-1)))))
 else
 (some (.inl (v4,wr (x1.2+1)))))
 else
 (some (.inr (.inl x1.1)))
def nK (a0:(List Mt)) (a1:Int):Option Int:=
 bif decide (wr (a1 - (a0.length:Int))<0) then
 (some ((-1)))
 else
 ((Lp (jX a0) (wr (a1 - (a0.length:Int)),0)).bind λy6=>
 Sum.elim (λy7=>
 some (y7)
 )
 (λy8=>
 some y8
 )
 y6)
theorem aBu (a0:(List Mt)) (a1:Int) (r:Int) (h:nK a0 a1=some r):HasC Tryz.prog 33 [.list 3 (a0.map eM),.int a1] (.int r):=by
 refine hM [.tmp 4] Tryz.func33 Tryz.ntmps33 k<|sR<|aT k2<|sR<|am k k<|am k k<|ln k4<|ae (kS k k) k<|aT k2<|sQ<|sR<|am k k<|cm k4<|an<|tn<|cO k h (λ_ h=>sR<|aT k2<|aC<|aG<|oV h k2) λ_ h=>?_;refine aI<|tn<|sQ<|sR<|aT k2<|aE<|oB h λy6 hy6 h=>bP (body:=(jX a0)) hy6 (λ(x1:(Int×Int))=>mN [(0,.list 3 (a0.map eM)),(1,.int x1.1),(5,.int x1.2)] [] 0) (λr e t=>Sum.elim (λa=>(λr e t=>e= .exit 0∧Ent t (mN [(1,.int r)] [] 0)) a e t) (λb=>(λr e t=>e= .ret∧qE TT [.tmp 4] (.int r) .ret t) b e t) r) (bK (bH k2) aY k4) ?_ ?_
 ·intro x1 o h;exact sQ<|sR<|am k k<|am k k<|ln k4<|cm k4<|an<|tn<|cO k h (λ_ h=>aI<|tn<|sQ<|aE<|sR<|am k k<|am k k<|oB h λv3 hv3 h=>ae (xl hv3 k) k<|lr k7<|am k k<|oB h λv4 hv4 h=>ae (aH (aCX v3 x1.1 v4 hv4) k (aD (cN k) (bX k aL))) k<|aT k2<|sR<|am k k<|cm k4<|an<|tn<|cO k h (λ_ h=>sR<|aT k2<|aC<|bA<|aG<|aG<|sp h ⟨_,k,k,bD k k k (aBi k)⟩) λ_ h=>aI<|aX<|tn<|rg<|am k k<|ae (bB k k) k<|aT k2<|sp h ⟨_,k,(bK (bH k2) aY k4)⟩) λ_ h=>aV<|aB<|aB<|sp h ⟨_,k,k,(bK (bH k2) aY k4)⟩
 ·intro e t hX;rcases y6 with y7|y8
  ·obtain ⟨rfl,hent⟩:=hX;exact aN<|tn<|aP hent<|sR<|am k k<|aT k2<|aC<|oV h k2
  ·obtain ⟨rfl,hent⟩:=hX;exact bA<|aG<|sp h hent
def tS (a0:Rp) (a1:Int):Option Int:=
 (tD a0.q a1).bind λv1=>
 bif decide (v1<0) then
 (some ((-1)))
 else
 ((jQ a0.dims v1).bind λv3=>
 bif decide (v3<0) then
 (some ((-1)))
 else
 ((nK a0.maps v3).bind λv5=>
 bif decide (v5<0) then
 (some ((-1)))
 else
 (some (v5))))
theorem aBO (a0:Rp) (a1:Int) (r:Int) (h:tS a0 a1=some r):HasC Tryz.prog 11 [.agg (eR a0),.int a1] (.int r):=by
 exact hM [.tmp 4] Tryz.func11 Tryz.ntmps11 k<|sR<|ae (wb k) k<|aT k2<|sR<|fp k8<|lp k8<|am k k<|oB h λv1 hv1 h=>ae (aH (aCW a0.q a1 v1 hv1) k (aD (cN k) (bX k aL))) k<|aT k2<|sQ<|sR<|am k k<|cm k4<|an<|tn<|cO k h (λ_ h=>sR<|aT k2<|aC<|aG<|oV h k2) λ_ h=>aI<|tn<|sR<|fp k8<|lp k8<|am k k<|oB h λv3 hv3 h=>ae (aH (sE a0.dims v1 v3 hv3) k (bX k (bX k aL))) k<|aT k2<|sQ<|sR<|am k k<|cm k4<|an<|tn<|cO k h (λ_ h=>sR<|aT k2<|aC<|aG<|oV h k2) λ_ h=>aI<|tn<|sR<|fp k8<|lp k8<|am k k<|oB h λv5 hv5 h=>ae (aH (aBu a0.maps v3 v5 hv5) k (bX k (bX k aL))) k<|aT k2<|sQ<|sR<|am k k<|cm k4<|an<|tn<|cO k h (λ_ h=>sR<|aT k2<|aP (t:=mN [(4,.int (-1))] [] 1) (bK (bH k2) aY k4)<|aC<|aG<|oV h k2) λ_ h=>aI<|tn<|sR<|am k k<|aT k2<|aC<|oV h k2
def nL (a0:(List Int)) (x1:((List Int)×Int)):Option (((List Int)×Int) ⊕ (List Int)):=
 bif decide (x1.2<(a0.length:Int)) then
 ((cP a0 x1.2).bind λv2=>
 (cP x1.1 x1.2).bind λv3=>
 some (.inl ((x1.1.set x1.2.toNat v2),wr (x1.2+1))))
 else
 (some (.inr x1.1))
def jR (a0:(List Int)):Option (List Int):=
 bif (decide (0≤(a0.length:Int))&&decide ((a0.length:Int)≤1048576)) then
 ((Lp (nL a0) ((List.replicate ((a0.length:Int).toNat) (0:Int)),0)).bind λy4=>
 some (y4))
 else none
theorem sF (a0:(List Int)) (r:(List Int)) (h:jR a0=some r):HasC Tryz.prog 26 [.list 1 (a0.map eI)] (.list 1 (r.map eI)):=by
 refine hM [.tmp 2] Tryz.func26 Tryz.ntmps26 k<|sR<|aT k2<|sR<|am k k<|ln k4<|cG h λq5 h=>ae (vK aS q5 k k k k k k k k) k<|aT k2<|aP (t:=mN [(0,.list 1 (a0.map eI)),(3,.own 0 0 ((List.replicate ((a0.length:Int).toNat) (0:Int)).length))] [(0,⟨1,List.map (ow eI) (List.replicate ((a0.length:Int).toNat) (0:Int))⟩)] 1) (bK (tN 1 k2 (sW ⟨_,k,⟨k,k,(by simp only [aW,lA,lT,lR,lC,lN]),k⟩⟩ aY)) (hX ⟨_,k,k,.inl ⟨xB (e:=eI) (z:=0) _,dY.plainO _⟩⟩ k<|aY) k4)<|sQ<|sR<|aT k2<|aE<|oB h λy4 hy4 h=>bP (body:=(nL a0)) hy4 (λ(x1:((List Int)×Int))=>mN [(0,.list 1 (a0.map eI)),(3,.own 0 0 x1.1.length),(4,.int x1.2)] [(0,⟨1,x1.1.map (ow eI)⟩)] 1) (λr e t=>e= .exit 0∧Ent t (mN [(3,.own 0 0 r.length)] [(0,⟨1,r.map (ow eI)⟩)] 1)) (bK (bH k2) (bT k<|aY) k4) ?_ ?_
 ·intro x1 o h;exact sQ<|sR<|am k k<|am k k<|ln k4<|cm k4<|an<|tn<|cO k h (λ_ h=>aI<|tn<|sQ<|aE<|rg<|am k k<|am k k<|am k k<|am k k<|oB h λv2 hv2 h=>ae (xl hv2 k) k<|lr k7<|oB h λv3 hv3 h=>ae (xo hv3 k) k<|ae (fY aS pX (u:=v2) (eO hv3) k k k k k k) k<|an<|aX<|tn<|rg<|am k k<|ae (bB k k) k<|aT k2<|sp h ⟨_,k,(bK (tN 1 k2 (sW ⟨_,k,⟨k,k,(by simp only [aW,lA,lT,lR,lC,lN]),k⟩⟩ (bH k2))) (bT k<|aY) k4)⟩) λ_ h=>aV<|aB<|aB<|sp h ⟨_,k,k,(bK (bH k2) (bT k<|aY) k4)⟩
 ·rintro e t ⟨rfl,hent⟩;exact aN<|tn<|aP hent<|sR<|am k k<|aT k2<|aC<|sp h (bD k k k (gR (gC dY k k)))
def pH (a0:Qv):Option Qv:=
 (jR a0.src).bind λv1=>
 (jR a0.tgt).bind λv2=>
 some ((⟨a0.n,v1,v2⟩:Qv))
theorem aCY (a0:Qv) (r:Qv) (h:pH a0=some r):HasC Tryz.prog 8 [.agg (eQ a0)] (.agg (eQ r)):=by
 refine hM [.cell 2 27] Tryz.func8 Tryz.ntmps8 k<|sR<|ae (wb k) k<|ae (bY aS k k) k<|an<|tn<|sR<|ae (bY aS k k) k<|an<|tn<|sR<|fp k8<|lp k8<|fp k8<|ae (ws k) k<|an<|tn<|sR<|fp k8<|lp k8<|oB h λv1 hv1 h=>ae (cL dY (sF a0.src v1 hv1) k3 (bX k aL)) k<|fp k8<|ae (ws k) k<|an<|tn<|sQ ?_;exact rg<|fp k8<|lp k8<|oB h λv2 hv2 h=>ae (cL dY (sF a0.tgt v2 hv2) k3 (bX k aL)) k<|fp k8<|ae (ws k) k<|an<|tn<|sR<|lp k8<|ae (ws k) k<|an<|tn<|aC<|sp h (bD k k k (rR (bL (k) (bL (gC dY k k) (bL (gC dY k k) mU)))))
def pI (a0:Mt):Option Mt:=
 (jR a0.cells).bind λv1=>
 some ((⟨a0.rows,a0.cols,v1⟩:Mt))
theorem aCZ (a0:Mt) (r:Mt) (h:pI a0=some r):HasC Tryz.prog 87 [.agg (eM a0)] (.agg (eM r)):=by
 refine hM [.cell 2 93] Tryz.func87 Tryz.ntmps87 k<|sR<|ae (wb k) k<|ae (bY aS k k) k<|an<|tn<|sR<|ae (bY aS k k) k<|an<|tn<|sR<|fp k8<|lp k8<|fp k8<|ae (ws k) k<|an<|tn<|sR<|fp k8<|lp k8<|fp k8<|ae (ws k) k<|an<|tn<|sR ?_;exact fp k8<|lp k8<|oB h λv1 hv1 h=>ae (cL dY (sF a0.cells v1 hv1) k3 (bX k aL)) k<|fp k8<|ae (ws k) k<|an<|tn<|sR<|lp k8<|ae (ws k) k<|an<|tn<|aC<|sp h (bD k k k (rR (bL (k) (bL (k) (bL (gC dY k k) mU)))))
def jY (a0:(List Mt)) (x1:((List Mt)×Int)):Option (((List Mt)×Int) ⊕ (List Mt)):=
 bif decide (x1.2<(a0.length:Int)) then
 ((cP a0 x1.2).bind λv2=>
 (pI v2).bind λv3=>
 (cP x1.1 x1.2).bind λv4=>
 some (.inl ((x1.1.set x1.2.toNat v3),wr (x1.2+1))))
 else
 (some (.inr x1.1))
def nM (a0:(List Mt)):Option (List Mt):=
 bif (decide (0≤(a0.length:Int))&&decide ((a0.length:Int)≤1048576)) then
 ((Lp (jY a0) ((List.replicate ((a0.length:Int).toNat) ((⟨0,0,[]⟩:Mt):Mt)),0)).bind λy5=>
 some (y5))
 else none
theorem aBv (a0:(List Mt)) (r:(List Mt)) (h:nM a0=some r):HasC Tryz.prog 40 [.list 3 (a0.map eM)] (.list 3 (r.map eM)):=by
 refine hM [.tmp 2] Tryz.func40 Tryz.ntmps40 k<|sR<|aT k2<|sR<|am k k<|ln k4<|cG h λq6 h=>ae (vK aS q6 k k k k k k k k) k<|aT k2<|aP (t:=mN [(0,.list 3 (a0.map eM)),(3,.own 0 0 ((List.replicate ((a0.length:Int).toNat) ((⟨0,0,[]⟩:Mt):Mt)).length))] [(0,⟨3,List.map (ow eM) (List.replicate ((a0.length:Int).toNat) ((⟨0,0,[]⟩:Mt):Mt))⟩)] 1) (bK (tN 1 k2 (sW ⟨_,k,⟨k,k,(by simp only [aW,lA,lT,lR,lC,lN]),k⟩⟩ aY)) (hX ⟨_,k,k,.inr (aIh (e:=eM) (z:=(⟨0,0,[]⟩:Mt)) (zc:=[.int 0,.int 0,.nil 1]) ⟨_,_,k,k,⟨_,_,k,k,⟨_,_,k,k,k⟩⟩⟩ _)⟩ k<|aY) k4)<|sQ<|sR<|aT k2<|aE<|oB h λy5 hy5 h=>bP (body:=(jY a0)) hy5 (λ(x1:((List Mt)×Int))=>mN [(0,.list 3 (a0.map eM)),(3,.own 0 0 x1.1.length),(4,.int x1.2)] [(0,⟨3,x1.1.map (ow eM)⟩)] 1) (λr e t=>e= .exit 0∧Ent t (mN [(3,.own 0 0 r.length)] [(0,⟨3,r.map (ow eM)⟩)] 1)) (bK (bH k2) (mW (cJ.plainO _) k<|aY) k4) ?_ ?_
 ·intro x1 o h;exact sQ<|sR<|am k k<|am k k<|ln k4<|cm k4<|an<|tn<|cO k h (λ_ h=>aI<|tn<|sQ<|aE<|rg<|am k k<|am k k<|am k k<|am k k<|oB h λv2 hv2 h=>ae (xl hv2 k) k<|lr k7<|oB h λv3 hv3 h=>ae (cM (aCZ v2 v3 hv3) k3 (aD (cN k) aL)) k<|oB h λv4 hv4 h=>ae (xo hv4 k) k<|ae (aFs aS k k k k k k (tA (eO hv4)) k) k<|an<|aX<|tn<|rg<|am k k<|ae (bB k k) k<|aT k2<|sp h ⟨_,k,(Ent.trans (show Ent _ (mN [(0,.list 3 (a0.map eM)),(3,.own 0 0 ((x1.1.set x1.2.toNat v3).length)),(4,.int (wr (x1.2+1)))] [(0,⟨3,List.map (ow eM) (x1.1.set x1.2.toNat v3)⟩)] 2) from (Ent.trans (aHM (b:=0) (b':=1) (j:=2) (es':=v3.cells.map eI) (by rw [dM];exact aBj hv4) k k k k (aW _ _) (dY.frzs _)) (bK (tN 1 k2 (sW ⟨_,k,⟨k,k,(by simp only [aW,lA,lT,lR,lC,lN]),k⟩⟩ (bH k2))) (hX ⟨_,k,k,.inl ⟨aLk v3 k,cJ.plainO _⟩⟩ k<|aY) k4))) (bK (bH k2) (mW (cJ.plainO _) k<|aY) k4))⟩) λ_ h=>aV<|aB<|aB<|sp h ⟨_,k,k,(bK (bH k2) (mW (cJ.plainO _) k<|aY) k4)⟩
 ·rintro e t ⟨rfl,hent⟩;exact aN<|tn<|aP hent<|sR<|am k k<|aT k2<|aC<|sp h (bD k k k (gR (gC cJ k k)))
def gT (a0:Rp):Option Rp:=
 (pH a0.q).bind λv1=>
 (jR a0.dims).bind λv2=>
 (nM a0.maps).bind λv3=>
 some ((⟨a0.p,v1,v2,v3⟩:Rp))
theorem nN (a0:Rp) (r:Rp) (h:gT a0=some r):HasC Tryz.prog 13 [.agg (eR a0)] (.agg (eR r)):=by
 refine hM [.cell 2 38] Tryz.func13 Tryz.ntmps13 k<|sR<|ae (wb k) k<|ae (bY aS k k) k<|an<|tn<|sR<|ae (bY aS k k) k<|an<|tn<|sR<|fp k8<|lp k8<|fp k8<|ae (ws k) k<|an<|tn<|sR<|fp k8<|lp k8<|oB h λv1 hv1 h=>ae (cQ (aCY a0.q v1 hv1) k3 (aD (cN k) aL)) k<|fp k8<|ae (ws k) k<|an<|tn<|sQ ?_;exact rg<|fp k8<|lp k8<|oB h λv2 hv2 h=>ae (cL dY (sF a0.dims v2 hv2) k3 (bX k aL)) k<|fp k8<|ae (ws k) k<|an<|tn<|sR<|fp k8<|lp k8<|oB h λv3 hv3 h=>ae (cL cJ (aBv a0.maps v3 hv3) k3 (bX k aL)) k<|fp k8<|ae (ws k) k<|an<|tn<|sR<|lp k8<|ae (ws k) k<|an<|tn<|aP (t:=mN [(2,.ptr 1 0 0)] [(1,⟨6,[[.int a0.p,.int v1.n,.own 3 0 v1.src.length,.own 4 0 v1.tgt.length,.own 5 0 v2.length,.own 6 0 v3.length]]⟩),(3,⟨1,v1.src.map (ow eI)⟩),(4,⟨1,v1.tgt.map (ow eI)⟩),(5,⟨1,v2.map (ow eI)⟩),(6,⟨3,v3.map (ow eM)⟩)] 7) (bK (bH k2) (iF k<|bT k<|bT k<|bT k<|mW (cJ.plainO _) k<|aY) k4)<|aC<|sp h (bD k k k (rR (bL (k) (bL (k) (bL (gC dY k k) (bL (gC dY k k) (bL (gC dY k k) (bL (gC cJ k k) mU))))))))
def rV (a0:(List Int)) (a1:(List Int)) (x1:Int):Option (Int ⊕ (Unit ⊕ Bool)):=
 bif decide (x1<(a0.length:Int)) then
 ((cP a0 x1).bind λv3=>
 (cP a1 x1).bind λv4=>
 bif !decide (v3=v4) then
 (some (.inr (.inr (false))))
 else
 (some (.inl (wr (x1+1)))))
 else
 (some (.inr (.inl ())))
def lY (a0:(List Int)) (a1:(List Int)):Option Bool:=
 bif !decide ((a0.length:Int)=(a1.length:Int)) then
 (some (false))
 else
 ((Lp (rV a0 a1) 0).bind λy6=>
 Sum.elim (λy7=>
 some (true)
 )
 (λy8=>
 some y8
 )
 y6)
theorem sG (a0:(List Int)) (a1:(List Int)) (r:Bool) (h:lY a0 a1=some r):HasC Tryz.prog 32 [.list 1 (a0.map eI),.list 1 (a1.map eI)] (.bl r):=by
 refine hM [.tmp 4] Tryz.func32 Tryz.ntmps32 k<|sR<|aT k2<|sQ<|sR<|am k k<|ln k4<|am k k<|ln k4<|cm k4<|an<|tn<|cO k h (λ_ h=>sR<|aT k2<|aC<|aG<|fB h k2) λ_ h=>?_;refine aI<|tn<|sQ<|sR<|aT k2<|aE<|oB h λy6 hy6 h=>bP (body:=(rV a0 a1)) hy6 (λ(x1:Int)=>mN [(0,.list 1 (a0.map eI)),(1,.list 1 (a1.map eI)),(5,.int x1)] [] 0) (λr e t=>Sum.elim (λa=>(λr e t=>e= .exit 0∧Ent t (mN [] [] 0)) a e t) (λb=>(λr e t=>e= .ret∧qE TT [.tmp 4] (.bl r) .ret t) b e t) r) (bK (bH k2) aY k4) ?_ ?_
 ·intro x1 o h;exact sQ<|sR<|am k k<|am k k<|ln k4<|cm k4<|an<|tn<|cO k h (λ_ h=>aI<|tn<|sQ<|aE<|sQ<|aO fZ<|am k k<|am k k<|oB h λv3 hv3 h=>ae (xl hv3 k) k<|lr k7<|am k k<|am k k<|oB h λv4 hv4 h=>ae (xl hv4 k) k<|lr k7<|cm k4<|an<|oW (by kernel_rfl)<|tn<|cO k h (λ_ h=>sR<|aT k2<|aC<|bA<|aG<|aG<|sp h ⟨_,k,k,bD k k k (nX k)⟩) λ_ h=>aI<|aX<|tn<|rg<|am k k<|ae (bB k k) k<|aT k2<|sp h ⟨_,k,(bK (bH k2) aY k4)⟩) λ_ h=>aV<|aB<|aB<|sp h ⟨_,k,k,(bK aY aY k4)⟩
 ·intro e t hX;rcases y6 with y7|y8
  ·obtain ⟨rfl,hent⟩:=hX;exact aN<|tn<|aP hent<|sR<|aT k2<|aC<|fB h k2
  ·obtain ⟨rfl,hent⟩:=hX;exact bA<|aG<|sp h hent
def pJ (a0:Qv) (a1:Qv):Option Bool:=
 bif !decide (a0.n=a1.n) then
 (some (false))
 else
 ((lY a0.src a1.src).bind λv2=>
 bif !v2 then
 (some (false))
 else
 ((lY a0.tgt a1.tgt).bind λv4=>
 bif !v4 then
 (some (false))
 else
 (some (true))))
theorem aCa (a0:Qv) (a1:Qv) (r:Bool) (h:pJ a0 a1=some r):HasC Tryz.prog 10 [.agg (eQ a0),.agg (eQ a1)] (.bl r):=by
 exact hM [.tmp 4] Tryz.func10 Tryz.ntmps10 k<|sR<|ae (wb k) k<|ae (wb k) k<|aT k2<|sQ<|sR<|fp k8<|lp k8<|fp k8<|lp k8<|cm k4<|an<|tn<|cO k h (λ_ h=>sR<|aT k2<|aC<|aG<|fB h k2) λ_ h=>aI<|tn<|sQ<|sR<|fp k8<|lp k8<|fp k8<|lp k8<|oB h λv2 hv2 h=>ae (aH (sG a0.src a1.src v2 hv2) k (bX k (bX k aL))) k<|ae (dC k) k<|an<|tn<|cO k h (λ_ h=>sR<|aT k2<|aC<|aG<|fB h k2) λ_ h=>aI<|tn<|sQ<|sR<|fp k8<|lp k8<|fp k8<|lp k8<|oB h λv4 hv4 h=>ae (aH (sG a0.tgt a1.tgt v4 hv4) k (bX k (bX k aL))) k<|ae (dC k) k<|an<|tn<|cO k h (λ_ h=>sR<|aT k2<|aC<|aG<|fB h k2) λ_ h=>aI<|tn<|sR<|aT k2<|aC<|fB h k2
def pK (a0:Mt) (a1:Mt):Option Bool:=
 bif !decide (a0.rows=a1.rows) then
 (some (false))
 else
 (bif !decide (a0.cols=a1.cols) then
 (some (false))
 else
 ((lY a0.cells a1.cells).bind λv3=>
 bif !v3 then
 (some (false))
 else
 (some (true))))
theorem aCb (a0:Mt) (a1:Mt) (r:Bool) (h:pK a0 a1=some r):HasC Tryz.prog 98 [.agg (eM a0),.agg (eM a1)] (.bl r):=by
 exact hM [.tmp 4] Tryz.func98 Tryz.ntmps98 k<|sR<|ae (wb k) k<|ae (wb k) k<|aT k2<|sQ<|sR<|fp k8<|lp k8<|fp k8<|lp k8<|cm k4<|an<|tn<|cO k h (λ_ h=>sR<|aT k2<|aC<|aG<|fB h k2) λ_ h=>aI<|tn<|sQ<|sR<|fp k8<|lp k8<|fp k8<|lp k8<|cm k4<|an<|tn<|cO k h (λ_ h=>sR<|aT k2<|aC<|aG<|fB h k2) λ_ h=>aI<|tn<|sQ<|sR<|fp k8<|lp k8<|fp k8<|lp k8<|oB h λv3 hv3 h=>ae (aH (sG a0.cells a1.cells v3 hv3) k (bX k (bX k aL))) k<|ae (dC k) k<|an<|tn<|cO k h (λ_ h=>sR<|aT k2<|aC<|aG<|fB h k2) λ_ h=>aI<|tn<|sR<|aT k2<|aC<|fB h k2
def jZ (a0:(List Mt)) (a1:(List Mt)) (x1:Int):Option (Int ⊕ (Unit ⊕ Bool)):=
 bif decide (x1<(a0.length:Int)) then
 ((cP a0 x1).bind λv3=>
 (cP a1 x1).bind λv4=>
 (pK v3 v4).bind λv5=>
 bif !v5 then
 (some (.inr (.inr (false))))
 else
 (some (.inl (wr (x1+1)))))
 else
 (some (.inr (.inl ())))
def nO (a0:(List Mt)) (a1:(List Mt)):Option Bool:=
 bif !decide ((a0.length:Int)=(a1.length:Int)) then
 (some (false))
 else
 ((Lp (jZ a0 a1) 0).bind λy7=>
 Sum.elim (λy8=>
 some (true)
 )
 (λy9=>
 some y9
 )
 y7)
theorem aBw (a0:(List Mt)) (a1:(List Mt)) (r:Bool) (h:nO a0 a1=some r):HasC Tryz.prog 46 [.list 3 (a0.map eM),.list 3 (a1.map eM)] (.bl r):=by
 refine hM [.tmp 4] Tryz.func46 Tryz.ntmps46 k<|sR<|aT k2<|sQ<|sR<|am k k<|ln k4<|am k k<|ln k4<|cm k4<|an<|tn<|cO k h (λ_ h=>sR<|aT k2<|aC<|aG<|fB h k2) λ_ h=>?_;refine aI<|tn<|sQ<|sR<|aT k2<|aE<|oB h λy7 hy7 h=>bP (body:=(jZ a0 a1)) hy7 (λ(x1:Int)=>mN [(0,.list 3 (a0.map eM)),(1,.list 3 (a1.map eM)),(5,.int x1)] [] 0) (λr e t=>Sum.elim (λa=>(λr e t=>e= .exit 0∧Ent t (mN [] [] 0)) a e t) (λb=>(λr e t=>e= .ret∧qE TT [.tmp 4] (.bl r) .ret t) b e t) r) (bK (bH k2) aY k4) ?_ ?_
 ·intro x1 o h;exact sQ<|sR<|am k k<|am k k<|ln k4<|cm k4<|an<|tn<|cO k h (λ_ h=>aI<|tn<|sQ<|aE<|sQ<|aO fZ<|am k k<|am k k<|oB h λv3 hv3 h=>ae (xl hv3 k) k<|lr k7<|am k k<|am k k<|oB h λv4 hv4 h=>ae (xl hv4 k) k<|lr k7<|oB h λv5 hv5 h=>ae (aH (aCb v3 v4 v5 hv5) k (aD (cN k) (aD (cN k) aL))) k<|ae (dC k) k<|an<|oW (by kernel_rfl)<|tn<|cO k h (λ_ h=>sR<|aT k2<|aC<|bA<|aG<|aG<|sp h ⟨_,k,k,bD k k k (nX k)⟩) λ_ h=>aI<|aX<|tn<|rg<|am k k<|ae (bB k k) k<|aT k2<|sp h ⟨_,k,(bK (bH k2) aY k4)⟩) λ_ h=>aV<|aB<|aB<|sp h ⟨_,k,k,(bK aY aY k4)⟩
 ·intro e t hX;rcases y7 with y8|y9
  ·obtain ⟨rfl,hent⟩:=hX;exact aN<|tn<|aP hent<|sR<|aT k2<|aC<|fB h k2
  ·obtain ⟨rfl,hent⟩:=hX;exact bA<|aG<|sp h hent
def qY (a0:Rp) (a1:Rp):Option Bool:=
 bif !decide (a0.p=a1.p) then
 (some (false))
 else
 ((pJ a0.q a1.q).bind λv2=>
 bif !v2 then
 (some (false))
 else
 ((lY a0.dims a1.dims).bind λv4=>
 bif !v4 then
 (some (false))
 else
 ((nO a0.maps a1.maps).bind λv6=>
 bif !v6 then
 (some (false))
 else
 (some (true)))))
theorem aBP (a0:Rp) (a1:Rp) (r:Bool) (h:qY a0 a1=some r):HasC Tryz.prog 15 [.agg (eR a0),.agg (eR a1)] (.bl r):=by
 exact hM [.tmp 4] Tryz.func15 Tryz.ntmps15 k<|sR<|ae (wb k) k<|ae (wb k) k<|aT k2<|sQ<|sR<|fp k8<|lp k8<|fp k8<|lp k8<|cm k4<|an<|tn<|cO k h (λ_ h=>sR<|aT k2<|aC<|aG<|fB h k2) λ_ h=>aI<|tn<|sQ<|sR<|fp k8<|lp k8<|fp k8<|lp k8<|oB h λv2 hv2 h=>ae (aH (aCa a0.q a1.q v2 hv2) k (aD (cN k) (aD (cN k) aL))) k<|ae (dC k) k<|an<|tn<|cO k h (λ_ h=>sR<|aT k2<|aC<|aG<|fB h k2) λ_ h=>aI<|tn<|sQ<|sR<|fp k8<|lp k8<|fp k8<|lp k8<|oB h λv4 hv4 h=>ae (aH (sG a0.dims a1.dims v4 hv4) k (bX k (bX k aL))) k<|ae (dC k) k<|an<|tn<|cO k h (λ_ h=>sR<|aT k2<|aC<|aG<|fB h k2) λ_ h=>aI<|tn<|sQ<|sR<|fp k8<|lp k8<|fp k8<|lp k8<|oB h λv6 hv6 h=>ae (aH (aBw a0.maps a1.maps v6 hv6) k (bX k (bX k aL))) k<|ae (dC k) k<|an<|tn<|aP (t:=mN [(27,.bl (!v6))] [] 2) (bK (bH k2) aY k4)<|cO k h (λ_ h=>sR<|aT k2<|aC<|aG<|fB h k2) λ_ h=>aI<|tn<|sR<|aT k2<|aC<|fB h k2
end
noncomputable section
def zI (n:Nat) (left:Int):Int:=if left - n<0 then -1 else left - n
def zC:List (Int→Int)→Int→Int
 | [],left=>left
 |f::fs,left=>if f left<0 then -1 else zC fs (f left)
def zS {α:Type} (f:α→Int→Int) (l:List α) (left:Int):Int:=if left - l.length<0 then -1 else zC (l.map f) (left - l.length)
def zQ (q:Qv):Int→Int:=zC [zI q.src.length,zI q.tgt.length]
def zM (m:Mt):Int→Int:=zC [zI m.cells.length]
def zR (r:Rp):Int→Int:=zC [zQ r.q,zI r.dims.length,zS zM r.maps]
def uY (f:Int→Int) (b:Prop):Prop:= ∀ left,0≤left→left≤1048576→f left= -1∨(0≤f left∧f left≤left∧b)
theorem uZ (n:Nat):uY (zI n) (n≤1048576):=by
 intro left h0 h1;unfold zI;by_cases h:left - n<0
 ·rw [aQ h];exact .inl rfl
 ·rw [aR h];exact .inr ⟨by omega,by omega,by omega⟩
theorem aBx:uY (zC []) True:=λleft h0 _=> .inr ⟨h0,Int.le_refl _,trivial⟩
theorem pZ {f:Int→Int} {fs:List (Int→Int)} {b bs:Prop} (h:uY f b) (k:uY (zC fs) bs):uY (zC (f::fs)) (b∧bs):=by
 intro left h0 h1;unfold zC;rcases h left h0 h1 with e|⟨e1,e2,e3⟩
 ·rw [e,aQ (by decide)];exact .inl rfl
 ·rw [aR (by omega)];rcases k (f left) e1 (by omega) with g|⟨g1,g2,g3⟩
  ·exact .inl g
  ·exact .inr ⟨g1,by omega,e3,g3⟩
theorem aFI {α:Type} {f:α→Int→Int} {b:α→Prop} (h: ∀ x,uY (f x) (b x)): ∀ l:List α,uY (zC (l.map f)) (∀ x∈l,b x)
 | []=>λleft h0 _=> .inr ⟨h0,Int.le_refl _,by simp⟩
 |x::l=>λleft h0 h1=>by
  rcases pZ (h x) (aFI h l) left h0 h1 with e|⟨e1,e2,e3,e4⟩
  ·exact .inl e
  ·exact .inr ⟨e1,e2,λy hy=>by rcases dH.1 hy with rfl|h';exact e3;exact e4 y h'⟩
theorem aJd {α:Type} {f:α→Int→Int} {b:α→Prop} (h: ∀ x,uY (f x) (b x)) (l:List α):uY (zS f l) (l.length≤1048576∧ ∀ x∈l,b x):=by
 intro left h0 h1;unfold zS;by_cases e:left - l.length<0
 ·rw [aQ e];exact .inl rfl
 ·rw [aR e];rcases aFI h l (left - l.length) (by omega) (by omega) with g|⟨g1,g2,g3⟩
  ·exact .inl g
  ·exact .inr ⟨g1,by omega,by omega,g3⟩
def bI (l:List Int):Prop:=l.length≤1048576
def bQ (q:Qv):Prop:=bI q.src∧bI q.tgt∧True
def bM (m:Mt):Prop:=bI m.cells∧True
def bR (r:Rp):Prop:=bQ r.q∧bI r.dims∧(r.maps.length≤1048576∧ ∀ m∈r.maps,bM m)∧True
theorem aJe (q:Qv):uY (zQ q) (bQ q):=pZ (uZ _) (pZ (uZ _) aBx)
theorem aGG (m:Mt):uY (zM m) (bM m):=pZ (uZ _) aBx
theorem aJf (r:Rp):uY (zR r) (bR r):=pZ (aJe _) (pZ (uZ _) (pZ (aJd aGG _) aBx))
def fI {α:Type} (l:List α):Prop:=l.length≤9223372036854775807
theorem zY {o:Option Int} {z:Int→Int} {zs:List (Int→Int)} {b:Prop} {left:Int} {k:Int→Option Int} (ho:o=some (z left)) (hf:uY z b) (h0:0≤left) (h1:left≤1048576) (hk: ∀ v,0≤v→v≤1048576→k v=some (zC zs v)):
  Option.bind o (λv=>bif decide (v<0) then some (-1) else k v)=some (zC (z::zs) left):=by
 rw [ho,aA];unfold zC;rcases hf left h0 h1 with e|⟨e1,e2,_⟩
 ·rw [e];rfl
 ·rw [aR (by omega),cS (by omega: ¬ z left<0),aU];exact hk _ e1 (by omega)
theorem aNE {α:Type} {body:Int×Int→Option ((Int×Int) ⊕ (Int ⊕ Int))} {f:α→Int→Int} {b:α→Prop} {l:List α} (hf: ∀ x,uY (f x) (b x)) (hl:l.length≤1048576)
  (hs: ∀ (v:Int) (k:Nat) (hk:k<l.length),0≤v→v≤1048576→body (v,k)=some (bif decide (f l[k] v<0) then .inr (.inr (-1)) else .inl (f l[k] v,wr (k+1)))) (he: ∀ v,body (v,l.length)=some (.inr (.inl v))) (v:Int) (h0:0≤v) (h1:v≤1048576):
  Option.bind (Lp body (v,0)) (λy=>Sum.elim (λy=>some y) (λy=>some y) y)=some (zC (l.map f) v):=by
 have key: ∀ d k:Nat,k+d=l.length→ ∀ v:Int,0≤v→v≤1048576→Option.bind (Lp body (v,(k:Int))) (λy=>Sum.elim (λy=>some y) (λy=>some y) y)=some (zC ((l.drop k).map f) v):=by
  intro d;induction d with
  |zero=>
   intro k hk v _ _;rw [Nat.add_zero] at hk;subst hk;rw [iV (he v)];simp [zC]
  |succ d ih=>
   intro k hk v h0 h1;have h:=hs v k (by omega) h0 h1;rw [List.drop_eq_getElem_cons (by omega:k<l.length),List.map_cons];unfold zC;rcases hf l[k] v h0 h1 with e|⟨e1,e2,_⟩
   ·rw [e] at h ⊢;rw [iV (r:= .inr (-1)) (by rw [h];rfl)];rfl
   ·rw [aR (by omega)];rw [cS (by omega: ¬ f l[k] v<0),aU,bN (n:=l.length) (by omega) (by omega)] at h;rw [nF h];exact ih (k+1) (by omega) _ e1 (by omega)
 have:=key l.length 0 (by omega) v h0 h1;simpa using this
theorem aNF {l:List Int} {left:Int} (hl:fI l) (h0:0≤left) (h1:left≤1048576):jQ l left=some (zI l.length left):=by
 unfold fI at hl;unfold jQ zI;rw [aLY (by omega)];by_cases h:left - l.length<0
 ·rw [aZ h,aQ h];rfl
 ·rw [cS h,aR h];rfl
def fQ (q:Qv):Prop:=fI q.src∧fI q.tgt
theorem aPH {q:Qv} {left:Int} (hl:fQ q) (h0:0≤left) (h1:left≤1048576):tD q left=some (zQ q left):=
 zY (aNF hl.1 h0 h1) (uZ _) h0 h1 λv g0 g1=>zY (aNF hl.2 g0 g1) (uZ _) g0 g1 λv _ _=>rfl
def fM (m:Mt):Prop:=fI m.cells
theorem aPI {m:Mt} {left:Int} (hl:fM m) (h0:0≤left) (h1:left≤1048576):tE m left=some (zM m left):=
 zY (aNF hl h0 h1) (uZ _) h0 h1 λv _ _=>rfl
def fMs (l:List Mt):Prop:=fI l∧ ∀ m∈l,fM m
theorem aOg {l:List Mt} {left:Int} (hl:fMs l) (h0:0≤left) (h1:left≤1048576):nK l left=some (zS zM l left):=by
 obtain ⟨ha,hb⟩:=hl;unfold fI at ha;unfold nK zS;rw [aLY (by omega)];by_cases h:left - l.length<0
 ·rw [aZ h,aQ h];rfl
 ·rw [cS h,aR h,aU];refine aNE (f:=zM) aGG (by omega) (λv k hk g0 g1=>?_) (λv=>?_) _ (by omega) (by omega)
  ·unfold jX;simp only;rw [jT hk,aM,dS hk,aA,aPI (hb _ (List.getElem_mem hk)) g0 g1,aA];cases decide (zM l[k] v<0) <;> rfl
  ·unfold jX;simp only;rw [mD (bC _),aU]
def fR (r:Rp):Prop:=fQ r.q∧fI r.dims∧fMs r.maps
theorem aOh {r:Rp} {left:Int} (hl:fR r) (h0:0≤left) (h1:left≤1048576):tS r left=some (zR r left):=
 zY (aPH hl.1 h0 h1) (aJe _) h0 h1 λv g0 g1=>zY (aNF hl.2.1 g0 g1) (uZ _) g0 g1 λv g2 g3=>zY (aOg hl.2.2 g2 g3) (aJd aGG _) g2 g3 λv _ _=>rfl
theorem aFJ {α:Type} {body:List α×Int→Option ((List α×Int) ⊕ List α)} {l:List α} (z:α) (hl:l.length≤4611686018427387904)
  (hs: ∀ (k:Nat) (hk:k<l.length) (r:List α),r.length=l.length→body (r,k)=some (.inl (r.set k l[k],wr (k+1)))) (he: ∀ r,body (r,l.length)=some (.inr r)):Lp body (List.replicate ((l.length:Int).toNat) z,0)=some l:=by
 refine aLZ (λk=>(l.take k++List.replicate (l.length - k) z,(k:Int))) l.length (by simp) (λk hk=>?_) ?_
 ·rw [hs k hk _ (by simp;omega),bN hk hl];congr 3;rw [show l.length - k=(l.length - (k+1))+1 by omega,List.replicate_succ,List.set_append_right _ _ (by simp;omega)];rw [aGo hk,List.length_take,Nat.min_eq_left (Nat.le_of_lt hk),Nat.sub_self,List.set_cons_zero,List.append_assoc];rfl
 ·rw [he];simp
theorem aNG {l:List Int} (h:bI l):jR l=some l:=by
 unfold bI at h;unfold jR;rw [aZ (by omega),aZ (by omega:(l.length:Int)≤1048576),Bool.and_self,aM];rw [aFJ 0 (by omega) (λk hk r hr=>?_) (λr=>?_)];rfl
 ·unfold nL;simp only;rw [jT hk,aM,dS hk,aA,dS (hr▸hk),aA,dK]
 ·unfold nL;simp only;rw [mD (bC _),aU]
theorem aPK {q:Qv} (h:bQ q):pH q=some q:=by
 unfold pH;rw [aNG h.1,aA,aNG h.2.1,aA]
theorem aPL {m:Mt} (h:bM m):pI m=some m:=by
 unfold pI;rw [aNG h.1,aA]
theorem aOi {l:List Mt} (h:l.length≤1048576∧ ∀ m∈l,bM m):nM l=some l:=by
 obtain ⟨h,hb⟩:=h;unfold nM;rw [aZ (by omega),aZ (by omega:(l.length:Int)≤1048576),Bool.and_self,aM];rw [aFJ _ (by omega) (λk hk r hr=>?_) (λr=>?_)];rfl
 ·unfold jY;simp only;rw [jT hk,aM,dS hk,aA,aPL (hb _ (List.getElem_mem hk)),aA,dS (hr▸hk),aA,dK]
 ·unfold jY;simp only;rw [mD (bC _),aU]
theorem aOj {r:Rp} (h:bR r):gT r=some r:=by
 unfold gT;rw [aPK h.1,aA,aNG h.2.1,aA,aOi h.2.2.1,aA]
theorem aHf {α:Type} [DecidableEq α] {body:Int→Option (Int ⊕ (Unit ⊕ Bool))} {a b:List α} (hl:a.length≤4611686018427387904) (hab:a.length=b.length)
  (hs: ∀ (k:Nat) (h1:k<a.length) (h2:k<b.length),body k=some (bif decide (a[k]=b[k]) then .inl (wr (k+1)) else .inr (.inr false))) (he:body a.length=some (.inr (.inl ()))):
  Option.bind (Lp body 0) (λy=>Sum.elim (λ_=>some true) (λy=>some y) y)=some (decide (a=b)):=by
 have key: ∀ (P:Nat→Bool),(∀ (k:Nat) (h1:k<a.length) (h2:k<b.length),P k=decide (a[k]=b[k]))→Lp body 0=some (bif (List.range a.length).all P then .inl () else .inr false)→Option.bind (Lp body 0) (λy=>Sum.elim (λ_=>some true) (λy=>some y) y)=some (decide (a=b)):=by
  intro P hP e;rw [e,aA]
  have:(List.range a.length).all P=decide (a=b):=by
   rw [Bool.eq_iff_iff,uA,mS];constructor
   ·intro h;refine List.ext_getElem hab λk h1 h2=>?_;have:=h k h1;rw [hP k h1 h2] at this;exact of_decide_eq_true this
   ·rintro rfl k hk;rw [hP k hk hk];simp
  rw [this];cases decide (a=b) <;> rfl
 refine key (λk=>if h:k<a.length then if h2:k<b.length then decide (a[k]=b[k]) else false else false) (λk h1 h2=>by rw [dif_pos h1,dif_pos h2]) (vH _ _ hl (λk hk=>?_) (λ_=>he));rw [dif_pos hk,dif_pos (hab▸hk)];exact hs k hk (hab▸hk)
theorem aHg {α β:Type} {a:List α} {b:List β} :decide ((a.length:Int)=(b.length:Int))=decide (a.length=b.length):=by
 rw [Bool.eq_iff_iff,mS,mS];omega
theorem aGH {body:Int→Option (Int ⊕ (Unit ⊕ Bool))} {a b:List Int} (hl:a.length≤4611686018427387904)
  (hb:body=λx=>bif decide (x<(a.length:Int)) then (Option.bind (cP a x) λv3=>Option.bind (cP b x) λv4=>bif !decide (v3=v4) then (some (.inr (.inr (false)))) else (some (.inl (wr (x+1))))) else (some (.inr (.inl ())))):
  (bif !decide ((a.length:Int)=(b.length:Int)) then some false else Option.bind (Lp body 0) (λy=>Sum.elim (λ_=>some true) (λy=>some y) y))=some (decide (a=b)):=by
 rw [aHg];by_cases h:a.length=b.length
 ·rw [aZ h,dX,aU];refine aHf hl h (λk h1 h2=>?_) ?_
  ·rw [hb];simp only;rw [jT h1,aM,dS h1,aA,dS h2,aA];cases decide (a[k]=b[k]) <;> rfl
  ·rw [hb];simp only;rw [mD (bC _),aU]
 ·rw [cS h,Bool.not_false,aM,cS (by rintro rfl;exact h rfl)]
theorem iC {c d:Bool} {o:Option Bool} (h:c=true→o=some d):(bif !c then some false else o)=some (c&&d):=by cases c with|false=>rfl|true=>exact h rfl
theorem aNH {a b:List Int} (h:bI a):lY a b=some (decide (a=b)):=by
 unfold bI at h;exact aGH (body:=rV a b) (by omega) rfl
theorem aGI {d:Bool} :(bif !d then some false else some true)=some d:=by cases d <;> rfl
theorem aPM {a b:Qv} (h:bQ a):pJ a b=some (decide (a=b)):=by
 unfold pJ;rw [iC (d:=decide (a.src=b.src)&&decide (a.tgt=b.tgt)) (λ_=>?_)]
 ·cases a;cases b;simp [Bool.and_assoc]
 ·rw [aNH h.1,aA];refine iC λ_=>?_;rw [aNH h.2.1,aA,aGI]
theorem aPN {a b:Mt} (h:bM a):pK a b=some (decide (a=b)):=by
 unfold pK;rw [iC (d:=decide (a.cols=b.cols)&&decide (a.cells=b.cells)) (λ_=>?_)]
 ·cases a;cases b;simp [Bool.and_assoc]
 ·refine iC λ_=>?_;rw [aNH h.1,aA,aGI]
theorem aOk {a b:List Mt} (h:a.length≤1048576∧ ∀ m∈a,bM m):nO a b=some (decide (a=b)):=by
 obtain ⟨h,hb⟩:=h;unfold nO;rw [aHg];by_cases e:a.length=b.length
 ·rw [aZ e,dX,aU];refine aHf (by omega) e (λk h1 h2=>?_) ?_
  ·unfold jZ;rw [jT h1,aM,dS h1,aA,dS h2,aA,aPN (hb _ (List.getElem_mem h1)),aA];cases decide (a[k]=b[k]) <;> rfl
  ·unfold jZ;rw [mD (bC _),aU]
 ·rw [cS e,Bool.not_false,aM,cS (by rintro rfl;exact e rfl)]
theorem aOl {a b:Rp} (h:bR a):qY a b=some (decide (a=b)):=by
 unfold qY;rw [iC (d:=decide (a.q=b.q)&&(decide (a.dims=b.dims)&&decide (a.maps=b.maps))) (λ_=>?_)]
 ·cases a;cases b;simp [Bool.and_assoc]
 ·rw [aPM h.1,aA];refine iC λ_=>?_;rw [aNH h.2.1,aA];refine iC λ_=>?_;rw [aOk h.2.2.1,aA,aGI]
end
noncomputable section
open Go.ChangeShapes Go.WideShapes Go.ChangeAt Go.RowKit
theorem oI:uF Tryz.prog 3 (vN 1 eI):=aIf Tryz.underlying3
theorem oL:uF Tryz.prog 22 (vN 1 eL):=aBG Tryz.underlying22 (by decide) (by kernel_rfl) oI
theorem oQ:uF Tryz.prog 24 (vN 3 eQ):=by
 intro H enc w fuel cs d ps h hf;obtain ⟨x0,T0,u0⟩:=lX Tryz.underlying24 h hf aDX (i:=0) (ft:=3) rfl (k:=1) (by kernel_rfl) oI;obtain ⟨x1,T1,u1⟩:=lX Tryz.underlying24 h hf u0 (i:=1) (ft:=22) rfl (k:=1) (by kernel_rfl) oL;obtain ⟨x2,T2,u2⟩:=lX Tryz.underlying24 h hf u1 (i:=2) (ft:=22) rfl (k:=1) (by kernel_rfl) oL;exact ⟨⟨x0,x1,x2⟩,_,aDY Tryz.underlying24 h hf u2 (by kernel_rfl) _ rfl⟩
theorem oM:uF Tryz.prog 97 (vN 3 eM):=by
 intro H enc w fuel cs d ps h hf;obtain ⟨x0,T0,u0⟩:=lX Tryz.underlying97 h hf aDX (i:=0) (ft:=3) rfl (k:=1) (by kernel_rfl) oI;obtain ⟨x1,T1,u1⟩:=lX Tryz.underlying97 h hf u0 (i:=1) (ft:=3) rfl (k:=1) (by kernel_rfl) oI;obtain ⟨x2,T2,u2⟩:=lX Tryz.underlying97 h hf u1 (i:=2) (ft:=22) rfl (k:=1) (by kernel_rfl) oL;exact ⟨⟨x0,x1,x2⟩,_,aDY Tryz.underlying97 h hf u2 (by kernel_rfl) _ rfl⟩
theorem oMs:uF Tryz.prog 31 (vN 1 (λl:List Mt=>[.list 3 (l.map eM)])):=aBG Tryz.underlying31 (by decide) (by kernel_rfl) oM
theorem oR:uF Tryz.prog 33 (vN 6 eR):=by
 intro H enc w fuel cs d ps h hf;obtain ⟨x0,T0,u0⟩:=lX Tryz.underlying33 h hf aDX (i:=0) (ft:=3) rfl (k:=1) (by kernel_rfl) oI;obtain ⟨x1,T1,u1⟩:=lX Tryz.underlying33 h hf u0 (i:=1) (ft:=24) rfl (k:=3) (by kernel_rfl) oQ;obtain ⟨x2,T2,u2⟩:=lX Tryz.underlying33 h hf u1 (i:=2) (ft:=22) rfl (k:=1) (by kernel_rfl) oL;obtain ⟨x3,T3,u3⟩:=lX Tryz.underlying33 h hf u2 (i:=3) (ft:=31) rfl (k:=1) (by kernel_rfl) oMs;exact ⟨⟨x0,x1,x2,x3⟩,_,aDY Tryz.underlying33 h hf u3 (by kernel_rfl) _ rfl⟩
end
noncomputable section
theorem aGJ {w:World} : ∀ {ds:List AV} {vs:List Value} {S:List Nat},RepVs w ds vs S→ ∀ d∈ds,∃ v S',RepD w d v S'
 | [],_,_,_,d,hd=>by cases hd
 |c::cs,vs,S,h,d,hd=>by
  simp only [RepVs] at h;obtain ⟨v,r,S1,S2,_,_,h3,h4⟩:=h;rcases dH.1 hd with rfl|h'
  ·exact ⟨v,S1,h3⟩
  ·exact aGJ h4 d h'
theorem aJg {w:World} {b:Nat} : ∀ {ds:List AV} {o:Nat} {S:List Nat},RepCs w b o ds S→ ∀ d∈ds,∃ v S',RepD w d v S'
 | [],_,_,_,d,hd=>by cases hd
 |c::cs,o,S,h,d,hd=>by
  simp only [RepCs] at h;obtain ⟨v,S1,S2,_,_,_,_,h3,h4⟩:=h;rcases dH.1 hd with rfl|h'
  ·exact ⟨v,S1,h3⟩
  ·exact aJg h4 d h'
theorem aJh {w:World} {k b:Nat} : ∀ {es:List (List AV)} {o:Nat} {S:List Nat},RepEs w k b o es S→ ∀ cs∈es,∀ d∈cs,∃ v S',RepD w d v S'
 | [],_,_,_,cs,hc=>by cases hc
 |c::es,o,S,h,cs,hc=>by
  simp only [RepEs] at h;obtain ⟨S1,S2,_,_,h3,h4⟩:=h;rcases dH.1 hc with rfl|h'
  ·exact aJg h3
  ·exact aJh h4 cs h'
theorem aJi {w:World} {k:Nat} {es:List (List AV)} {v:Value} {S:List Nat} (h:RepD w (.list k es) v S):es.length≤9223372036854775807∧ ∀ cs∈es,∀ d∈cs,∃ v S',RepD w d v S':=by
 unfold RepD at h;obtain ⟨a,c,_,h2,h3,h4⟩:=h;have hm:maxLen≤9223372036854775807:=by decide
 refine ⟨by omega,?_⟩;rcases h4 with ⟨rfl,_⟩|⟨b,o,T,_,_,_,h5⟩
 ·intro cs hcs;cases hcs
 ·exact aJh h5
theorem aOm {w:World} {l:List Int} {v:Value} {S:List Nat} (h:RepD w (aFt l) v S):fI l:=by
 have:=(aJi (k:=1) (es:=List.map eI l) h).1
 rwa [dM] at this
theorem aGK {w:World} {ds:List AV} (h: ∀ d∈ds,∃ v S',RepD w d v S') {l:List Int} (hl:aFt l∈ds):fI l:=by
 obtain ⟨v,S,h⟩:=h _ hl;exact aOm h
theorem aMC {w:World} {ds:List AV} (h: ∀ d∈ds,∃ v S',RepD w d v S') {α:Type} {k:Nat} {e:α→List AV} {l:List α} (hl:AV.list k (l.map e)∈ds):fI l∧ ∀ x∈l,∀ d∈e x,∃ v S',RepD w d v S':=by
 obtain ⟨v,S,h⟩:=h _ hl;have:=aJi h;rw [dM] at this;exact ⟨this.1,λx hx=>this.2 _ (List.mem_map.2 ⟨x,hx,rfl⟩)⟩
theorem aOn {w:World} {m:Mt} (h: ∀ d∈eM m,∃ v S',RepD w d v S'):fM m:=aGK h (by simp [eM])
theorem aNz {w:World} {l:List Mt} {ds:List AV} (h: ∀ d∈ds,∃ v S',RepD w d v S') (hl:AV.list 3 (l.map eM)∈ds):fMs l:=by
 obtain ⟨h1,h2⟩:=aMC h hl;exact ⟨h1,λm hm=>aOn (h2 m hm)⟩
theorem aNe {w:World} {r:Rp} (h: ∀ d∈eR r,∃ v S',RepD w d v S'):fR r:=⟨⟨aGK h (by simp [eR]),aGK h (by simp [eR])⟩,aGK h (by simp [eR]),aNz h (by simp [eR])⟩
theorem aMD {w0 w:World} {v:Value} {S:List Nat} (h:aCP w (.bl true) v S):Ending.returned v= .returned (.bool true):=by rw [h.1]
end
noncomputable section
theorem fG {c d:Bool} {o:Option Bool} (h:c=true→o=some d):(bif c then o else some false)=some (c&&d):=by cases c with|false=>rfl|true=>exact h rfl
theorem uI {c d:Bool} :(bif c then some d else some false)=some (c&&d):=by cases c <;> rfl
theorem aJj {x a b:Int} :(bif decide (a≤x) then some (decide (x≤b)) else some false)=some (vG x a b):=by
 rw [uI];unfold vG;by_cases h1:a≤x <;> by_cases h2:x≤b <;> simp [h1,h2]
theorem yS (x a b:Int):jN x a b=some (vG x a b):=aJj
theorem vP (x a b:Int):gZ x a b=some (vG x a b):=aJj
theorem aHh (p:Int):(bif decide (p=2) then some true else bif decide (p=3) then some true else some (decide (p=5)))=some (rJ p):=by
 unfold rJ;by_cases h2:p=2 <;> by_cases h3:p=3 <;> by_cases h5:p=5 <;> simp [h2,h3,h5]
theorem aGL (p:Int):mX p=some (rJ p):=aHh p
theorem aBQ (p:Int):hY p=some (rJ p):=aHh p
theorem yT {a b:List Int} (h:bI a):jO a b=some (decide (a=b)):=by
 unfold bI at h;exact aGH (body:=rS a b) (by omega) rfl
theorem wH {a b:List Int} (h:bI a):cV a b=some (decide (a=b)):=by
 unfold bI at h;exact aGH (body:=hU a b) (by omega) rfl
theorem aKg {a b:Qv} (h:bQ a):jV a b=some (decide (a=b)):=by
 unfold jV;rw [fG (d:=decide (a.src=b.src)&&decide (a.tgt=b.tgt)) (λ_=>?_)]
 ·cases a;cases b;simp
 ·rw [yT h.1,aA];refine fG λ_=>?_;rw [yT h.2.1,aA]
theorem aKh {a b:Qv} (h:bQ a):jW a b=some (decide (a=b)):=by
 unfold jW;rw [fG (d:=decide (a.src=b.src)&&decide (a.tgt=b.tgt)) (λ_=>?_)]
 ·cases a;cases b;simp
 ·rw [wH h.1,aA];refine fG λ_=>?_;rw [wH h.2.1,aA]
theorem aKi (p:Int) {v:List Int} (h:bI v):oZ p v=some (rJ p&&decide (v.length≤64)&&v.all λx=>vG x 0 (wr (p - 1))):=by
 unfold bI at h;unfold oZ;rw [aGL,aA];cases rJ p with
 |false=>rfl
 |true=>
  rw [dX,aU,Bool.true_and];by_cases h64:v.length≤64
  ·rw [cS (by omega),aU,aZ h64,Bool.true_and];rw [vH (λk=>vG (v[k]?.getD 0) 0 (wr (p - 1))) false (n:=v.length) (by omega) (λk hk=>?_) (λ_=>?_),vX 0 v (λx=>vG x 0 (wr (p - 1))),aA]
   ·cases v.all _ <;> rfl
   ·unfold kX;rw [jT hk,aM,qM 0 hk,aA,vP,aA];cases vG _ 0 _ <;> rfl
   ·unfold kX;rw [mD (bC _),aU]
  ·rw [aZ (by omega),aM,cS h64,Bool.false_and]
theorem aHi {v:List Int} {f:Int→Option Bool} (P:Int→Bool) (hf: ∀ x,f x=some (P x)) (h:bI v): ∃ i:Int,eV v f=some i∧decide (0≤i)=v.any P:=by
 unfold bI at h;unfold eV;rw [rP (s0:=0) (s:=0) (n:=v.length) (λk=>bif P (v[k]?.getD 0) then some (k:Int) else none) rfl (by omega) (Nat.zero_le _) (λk _ hk=>?_) (λ_=>?_)]
 ·rw [aA];cases e:(List.range' 0 (v.length - 0)).findSome? (λk:Nat=>bif P (v[k]?.getD 0) then some (k:Int) else none) with
  |none=>
   refine ⟨-1,rfl,?_⟩;rw [List.findSome?_eq_none_iff] at e
   have:v.any P=false:=by
    rw [List.any_eq_false];intro x hx;obtain ⟨k,hk,rfl⟩:=List.mem_iff_getElem.1 hx;have:=e k (by simp;omega);simp only [kR hk,kG] at this;cases hp:P v[k] with
    |false=>simp
    |true=>rw [hp] at this;cases this
   rw [this];rfl
  |some i=>
   refine ⟨i,rfl,?_⟩;obtain ⟨k,hk,he⟩:=List.exists_of_findSome?_eq_some e;simp at hk;have hkl:k<v.length:=by omega
   rw [kR hkl] at he;simp only [kG] at he;cases hp:P v[k] with
   |false=>rw [hp] at he;cases he
   |true=>
    rw [hp] at he;cases he;rw [aZ (by omega),eq_comm,List.any_eq_true];exact ⟨_,List.getElem_mem hkl,hp⟩
 ·unfold dL;rw [jT hk,aM,qM 0 hk,aA,hf,aA];cases P _ <;> rfl
 ·unfold dL;rw [mD (bC _),aU]
theorem qD {v:List Int} (h:bI v) (a b:Int):eH v a b=some (v.all λx=>vG x a b):=by
 unfold eH fV;obtain ⟨i,h1,h2⟩:=aHi (f:=λb0=>iB b0 a b) (λx=> !vG x a b) (λx=>by simp only [iB];rw [yS,aA]) h;rw [h1,aA,aA,h2,List.not_any_eq_all_not];simp
theorem aKj (p:Int) {v:List Int} (h:bI v):pC p v=some (rJ p&&decide (v.length≤64)&&v.all λx=>vG x 0 (wr (p - 1))):=by
 unfold pC;rw [aBQ,aA,qD h,aA,uI,uI,Bool.and_assoc];congr 3;rw [Bool.eq_iff_iff,mS,mS];omega
def aAH (p:Int) (m:Mt):Bool:=vG m.rows 0 8&&(vG m.cols 0 8&&(decide ((m.cells.length:Int)=wr (m.rows*m.cols))&&(rJ p&&decide (m.cells.length≤64)&&m.cells.all λx=>vG x 0 (wr (p - 1)))))
theorem aBy (p:Int) {m:Mt} (h:bM m):iQ p m=some (aAH p m):=by
 unfold iQ aAH;rw [vP,aA];refine fG λ_=>?_;rw [vP,aA];refine fG λ_=>?_;refine fG λ_=>?_;rw [aKi p h.1,aA]
theorem aKk (p:Int) {m:Mt} (h:bM m):pD p m=some (aAH p m):=by
 unfold pD aAH;rw [yS,aA];refine fG λ_=>?_;rw [yS,aA];refine fG λ_=>?_;refine fG λ_=>?_;rw [aKj p h.1,aA]
theorem aIl {p:Int} {m:Mt} (h:aAH p m=true):rJ p=true∧ ∃ (r c:Nat) (F:Nat→Nat→Int),r≤8∧c≤8∧m=⟨r,c,bJ r c F⟩∧ ∀ i j,i<r→j<c→0≤F i j∧F i j<p:=by
 unfold aAH at h;simp only [cD,mS,List.all_eq_true] at h;obtain ⟨h1,h2,h3,⟨h4,h5⟩,h6⟩:=h;have h1:=qL h1;have h2:=qL h2;refine ⟨h4,m.rows.toNat,m.cols.toNat,λi j=>m.cells[i*m.cols.toNat+j]?.getD 0,by omega,by omega,?_,?_⟩
 ·obtain ⟨a,b,l⟩:=m;simp only at*;obtain ⟨r,rfl⟩:=Int.eq_ofNat_of_zero_le h1.1;obtain ⟨c,rfl⟩:=Int.eq_ofNat_of_zero_le h2.1;have hb:r*c≤64:=Nat.mul_le_mul (by omega:r≤8) (by omega:c≤8);rw [aDR (by omega)] at h3;simp only [dK];rw [←aMt (by omega)]
 ·intro i j hi hj;show 0≤m.cells[i*m.cols.toNat+j]?.getD 0∧m.cells[i*m.cols.toNat+j]?.getD 0<p;have hx:=uV hi hj
  have e:((m.rows.toNat*m.cols.toNat:Nat):Int)=m.rows*m.cols:=by
   rw [Int.natCast_mul,Int.toNat_of_nonneg h1.1,Int.toNat_of_nonneg h2.1]
  have hb:m.rows.toNat*m.cols.toNat≤64:=Nat.mul_le_mul (by omega:m.rows.toNat≤8) (by omega:m.cols.toNat≤8);rw [cC (by omega)] at h3;have hl:i*m.cols.toNat+j<m.cells.length:=by omega
  have:=qL (h6 _ (List.getElem_mem hl));rw [kR hl,kG];have hp:=dG h4;rw [cC (by omega)] at this;omega
def aAM (q:Qv):Bool:=vG q.n 1 5&&(decide ((q.src.length:Int)=(q.tgt.length:Int))&&(decide ((q.src.length:Int)≤6)&&((q.src.all λx=>vG x 0 (wr (q.n - 1)))&&(q.tgt.all λx=>vG x 0 (wr (q.n - 1))))))
theorem aGM {q:Qv} (h:bQ q):lS q=some (aAM q):=by
 unfold lS aAM;rw [yS,aA];refine fG λ_=>fG λ_=>fG λ_=>?_;rw [qD h.1,aA];refine fG λ_=>?_;rw [qD h.2.1,aA]
theorem aJk {q:Qv} (h:bQ q):iP q=some (aAM q):=by
 obtain ⟨h1,h2,_⟩:=h;unfold bI at h1 h2;unfold iP;rw [vH (n:=min q.src.length q.tgt.length) (λk=>vG (q.src[k]?.getD 0) 0 (wr (q.n - 1))&&vG (q.tgt[k]?.getD 0) 0 (wr (q.n - 1))) false (by omega) (λk hk=>?_) (λ_=>?_)]
 ·rw [aA];unfold aAM;by_cases e:q.src.length=q.tgt.length
  ·have e2:min q.src.length q.tgt.length=q.src.length:=by omega
   have hall:(List.range q.src.length).all (λk=>vG (q.src[k]?.getD 0) 0 (wr (q.n - 1))&&vG (q.tgt[k]?.getD 0) 0 (wr (q.n - 1)))=((q.src.all λx=>vG x 0 (wr (q.n - 1)))&&(q.tgt.all λx=>vG x 0 (wr (q.n - 1)))):=by
    rw [←vX 0 q.src,←vX 0 q.tgt,←e];rw [Bool.eq_iff_iff,cD,uA,uA,uA];simp only [cD];exact ⟨λh=>⟨λk hk=>(h k hk).1,λk hk=>(h k hk).2⟩,λh k hk=>⟨h.1 k hk,h.2 k hk⟩⟩
   rw [e2,hall,aZ (by omega:(q.src.length:Int)=(q.tgt.length:Int))];cases (q.src.all λx=>vG x 0 (wr (q.n - 1)))&&(q.tgt.all λx=>vG x 0 (wr (q.n - 1))) with
   |false=>simp
   |true=>
    simp only [aM,Sum.elim_inl];rw [vP,aA,aZ (by omega:(q.tgt.length:Int)=(q.src.length:Int)),uI,uI];simp
  ·rw [cS (by omega: ¬ (q.src.length:Int)=(q.tgt.length:Int))];simp only [Bool.false_and,Bool.and_false];cases (List.range (min q.src.length q.tgt.length)).all _ with
   |false=>rfl
   |true=>
    simp only [aM,Sum.elim_inl];rw [vP,aA,cS (by omega: ¬ (q.tgt.length:Int)=(q.src.length:Int)),uI,uI];simp
 ·unfold kW;rw [jT (by omega),aM,jT (by omega),aM,qM 0 (by omega),aA,vP,aA,qM 0 (by omega),aA,vP,aA];cases vG (q.src[k]?.getD 0) 0 (wr (q.n - 1)) <;> cases vG (q.tgt[k]?.getD 0) 0 (wr (q.n - 1)) <;> rfl
 ·unfold kW;by_cases e:q.src.length≤q.tgt.length
  ·rw [mD (by omega),aU]
  ·rw [jT (by omega),aM,mD (by omega),aU]
theorem yU {q:Qv} (h:aAM q=true): ∃ n:Nat,q.n=n∧1≤n∧n≤5∧q.src.length=q.tgt.length∧q.src.length≤6∧(∀ x∈q.src,0≤x∧x<n)∧ ∀ x∈q.tgt,0≤x∧x<n:=by
 unfold aAM at h;simp only [cD,mS,List.all_eq_true] at h;obtain ⟨h1,h2,h3,h4,h5⟩:=h;have h1:=qL h1;rw [cC (by omega)] at h4 h5;refine ⟨q.n.toNat,by omega,by omega,by omega,by omega,by omega,λx hx=>?_,λx hx=>?_⟩
 ·have:=qL (h4 x hx);omega
 ·have:=qL (h5 x hx);omega
def aCM (q:Qv) (d:List Int):Bool:=aAM q&&(decide ((d.length:Int)=q.n)&&((d.all λx=>vG x 0 4)&&decide (d.sum≤8)))
theorem aME {d:List Int} (h: ∀ x∈d,0≤x∧x≤4):0≤d.sum∧d.sum≤4*d.length:=by
 induction d with
 |nil=>simp
 |cons x d ih=>
  have h1:=h x (by simp);have h2:=ih λy hy=>h y (by simp [hy]);simp only [List.sum_cons,List.length_cons];omega
theorem aHj {d:List Int} {k:Nat} (hk:k<d.length):(d.take (k+1)).sum=(d.take k).sum +d[k]?.getD 0:=by
 rw [aGo hk,List.sum_append];simp [hk]
theorem aNI {d:List Int} (h: ∀ x∈d,0≤x∧x≤4) (hl:d.length≤1048576):tP d=some d.sum:=by
 unfold tP;rw [cU (r:=d.sum) (λk=>((d.take k).sum,(k:Int))) d.length (by simp) (λk hk=>?_) (λ_=>?_)];rfl
 ·unfold oX;simp only;rw [jT hk,aM,qM 0 hk,aA,bN hk (by omega)];have h1:=aME (d:=d.take (k+1)) λx hx=>h x (List.mem_of_mem_take hx);rw [←aHj hk,cC (by simp at h1;omega)]
 ·unfold oX;simp only;rw [mD (bC _),aU,List.take_length]
theorem aIm {q:Qv} {d:List Int} (hq:bQ q) (hd:bI d):qV q d=some (aCM q d):=by
 unfold qV aCM;rw [aGM hq,aA];refine fG λ_=>fG λ_=>?_;rw [qD hd,aA];refine fG λh=>?_;rw [aNI (λx hx=>qL (List.all_eq_true.1 h x hx)) hd,aA]
theorem aIn {q:Qv} {d:List Int} (hq:bQ q) (hd:bI d):qS q d=some (aCM q d):=by
 unfold bI at hd;unfold qS aCM;rw [aJk hq,aA];refine iC λ_=>iC λ_=>?_;cases hall:d.all (λx=>vG x 0 4) with
 |true=>
  have hb: ∀ x∈d,0≤x∧x≤4:=λx hx=>qL (List.all_eq_true.1 hall x hx);rw [cU (r:= .inl d.sum) (λk=>((d.take k).sum,(k:Int))) d.length (by simp) (λk hk=>?_) (λ_=>?_)];rfl
  ·unfold gF;simp only;rw [jT hk,aM,qM 0 hk,aA,vP,aA];have hin:vG (d[k]?.getD 0) 0 4=true:=by rw [kR hk];exact List.all_eq_true.1 hall _ (List.getElem_mem hk)
   rw [hin,dX,aU,aA,bN hk (by omega)];have h1:=aME (d:=d.take (k+1)) λx hx=>hb x (List.mem_of_mem_take hx);rw [←aHj hk,cC (by simp at h1;omega)]
  ·unfold gF;simp only;rw [mD (bC _),aU,List.take_length]
 |false=>
  have key:=aFw (body:=gF d) (s:=(0,0)) (λs=> ∃ k:Nat,s.2=k∧k≤d.length∧ ∀ j,j<k→vG (d[j]?.getD 0) 0 4=true) (λs=>d.length - s.2.toNat) (λr=>r= .inr false)
   ⟨0,rfl,Nat.zero_le _,λj hj=>absurd hj (Nat.not_lt_zero _)⟩ (λs ⟨k,hs,hk,hj⟩=>?_)
  ·obtain ⟨r,h1,h2⟩:=key;rw [h1,h2];rfl
  ·obtain ⟨t,s2⟩:=s;simp only at hs;subst hs;rcases cX k d.length with hlt|hge
   ·unfold gF;simp only;rw [jT hlt,aM,qM 0 hlt,aA,vP,aA];cases hin:vG (d[k]?.getD 0) 0 4 with
    |false=>exact .inr ⟨_,rfl,rfl⟩
    |true=>
     rw [dX,aU,aA,bN hlt (by omega)];refine .inl ⟨_,rfl,⟨k+1,rfl,hlt,λj hj2=>?_⟩,by simp;omega⟩;by_cases e:j=k
     ·subst e;exact hin
     ·exact hj j (by omega)
   ·exfalso
    have:d.all (λx=>vG x 0 4)=true:=by
     rw [←vX 0 d,uA];exact λj hj'=>hj j (by omega)
    rw [hall] at this;cases this
theorem nA {q:Qv} {d:List Int} (h:aCM q d=true):aAM q=true∧(d.length:Int)=q.n∧(∀ x∈d,0≤x∧x≤4)∧d.sum≤8:=by
 unfold aCM at h;simp only [cD,mS,List.all_eq_true] at h;exact ⟨h.1,h.2.1,λx hx=>qL (h.2.2.1 x hx),h.2.2.2⟩
def rW (r:Rp):Bool:=rJ r.p&&(aCM r.q r.dims&&(decide ((r.maps.length:Int)=(r.q.src.length:Int))&&(List.range r.maps.length).all λk=>
 aAH r.p (r.maps[k]?.getD ⟨0,0,[]⟩)&&(decide ((r.maps[k]?.getD ⟨0,0,[]⟩).cols=r.dims[(r.q.src[k]?.getD 0).toNat]?.getD 0)&&decide ((r.maps[k]?.getD ⟨0,0,[]⟩).rows=r.dims[(r.q.tgt[k]?.getD 0).toNat]?.getD 0))))
theorem qZ {α:Type} {l:List α} {k:Nat} (d:α) (h:k<l.length):l[k]?.getD d∈l:=by rw [kR h];exact List.getElem_mem h
theorem aFK {r:Rp} (h:bR r):qT r=some (rW r):=by
 obtain ⟨h1,h2,⟨h3,h4⟩,_⟩:=h;unfold qT rW;rw [aGL,aA];refine iC λhF=>?_;rw [aIn h1 h2,aA];refine iC λhD=>?_;obtain ⟨hQ,hd1,hd2,_⟩:=nA hD;obtain ⟨n,hn,_,_,hq1,hq2,hq3,hq4⟩:=yU hQ;refine iC λhL=>?_;have hL:=of_decide_eq_true hL;rw [vH (λk=>aAH r.p (r.maps[k]?.getD ⟨0,0,[]⟩)&&(decide ((r.maps[k]?.getD ⟨0,0,[]⟩).cols=r.dims[(r.q.src[k]?.getD 0).toNat]?.getD 0)&&decide ((r.maps[k]?.getD ⟨0,0,[]⟩).rows=r.dims[(r.q.tgt[k]?.getD 0).toNat]?.getD 0))) false (n:=r.maps.length) (by omega) (λk hk=>?_) (λ_=>?_),aA]
 ·cases (List.range r.maps.length).all _ <;> rfl
 ·have hs:=hq3 _ (qZ 0 (show k<r.q.src.length by omega));have ht:=hq4 _ (qZ 0 (show k<r.q.tgt.length by omega));unfold pB;rw [jT hk,aM,qM ⟨0,0,[]⟩ hk,aA,aBy _ (h4 _ (qZ _ hk)),aA,aA,qM 0 (by omega),aA,atI 0 hs.1 (by omega),aA,aA,qM 0 (by omega),aA,atI 0 ht.1 (by omega),aA];cases aAH r.p _ <;> cases decide ((r.maps[k]?.getD _).cols=_) <;> cases decide ((r.maps[k]?.getD _).rows=_) <;> rfl
 ·unfold pB;rw [mD (bC _),aU]
theorem aFL {r:Rp} (h:bR r):qW r=some (rW r):=by
 obtain ⟨h1,h2,⟨h3,h4⟩,_⟩:=h;unfold qW rW;rw [aBQ,aA];refine iC λhF=>?_;rw [aIm h1 h2,aA];refine iC λhD=>?_;obtain ⟨hQ,hd1,hd2,_⟩:=nA hD;obtain ⟨n,hn,_,_,hq1,hq2,hq3,hq4⟩:=yU hQ;refine iC λhL=>?_;have hL:=of_decide_eq_true hL;rw [vH (λk=>aAH r.p (r.maps[k]?.getD ⟨0,0,[]⟩)&&(decide ((r.maps[k]?.getD ⟨0,0,[]⟩).cols=r.dims[(r.q.src[k]?.getD 0).toNat]?.getD 0)&&decide ((r.maps[k]?.getD ⟨0,0,[]⟩).rows=r.dims[(r.q.tgt[k]?.getD 0).toNat]?.getD 0))) false (n:=r.maps.length) (by omega) (λk hk=>?_) (λ_=>?_),aA]
 ·cases (List.range r.maps.length).all _ <;> rfl
 ·have hs:=hq3 _ (qZ 0 (show k<r.q.src.length by omega));have ht:=hq4 _ (qZ 0 (show k<r.q.tgt.length by omega));unfold pE;rw [jT hk,aM,qM ⟨0,0,[]⟩ hk,aA,aKk _ (h4 _ (qZ _ hk)),aA,qM 0 (by omega),aA,atI 0 hs.1 (by omega),aA,qM 0 (by omega),aA,atI 0 ht.1 (by omega),aA];cases aAH r.p _ <;> cases decide ((r.maps[k]?.getD _).cols=_) <;> cases decide ((r.maps[k]?.getD _).rows=_) <;> rfl
 ·unfold pE;rw [mD (bC _),aU]
theorem xF {a b:Rp} (ha:bR a) (hb:bR b):fF a b=some (rW a&&(rW b&&(decide (a.p=b.p)&&decide (a.q=b.q)))):=by
 unfold fF;rw [aFK ha,aA];refine fG λ_=>?_;rw [aFK hb,aA];refine fG λ_=>fG λ_=>?_;rw [aKg ha.1,aA]
theorem aHk {a b:Rp} (ha:bR a) (hb:bR b):jP a b=some (rW a&&(rW b&&(decide (a.p=b.p)&&decide (a.q=b.q)))):=by
 unfold jP;rw [aFL ha,aA];refine fG λ_=>?_;rw [aFL hb,aA];refine fG λ_=>fG λ_=>?_;rw [aKh ha.1,aA]
end
noncomputable section
theorem aET {a b:Int} (ha:0≤a∧a≤5) (hb:0≤b∧b≤5):0≤a*b∧a*b≤25:=by
 refine ⟨Int.mul_nonneg ha.1 hb.1,?_⟩;have:=Int.mul_le_mul ha.2 hb.2 hb.1 (by decide:(0:Int)≤5);omega
theorem rA {x p:Int} (hp:rJ p=true):0≤x % p∧x % p<p:=by
 have:=dG hp;exact ⟨Int.emod_nonneg _ (by omega),Int.emod_lt_of_pos _ (by omega)⟩
theorem tT {p x:Int} (hp:rJ p=true) (hx: -4611686018427387904≤x∧x≤4611686018427387904):dW p x=some (x % p):=by
 have hb:=dG hp;have hr:=aDP x p (by omega);unfold dW;rw [cS (by omega),Bool.not_false,aM];rcases aDQ x p (by omega) with ⟨h,e⟩|⟨h,e⟩
 ·rw [cS (by omega),aU,e]
 ·rw [aZ h,aM,cC (by omega),e];congr 1;omega
theorem aHl {p x:Int} (hp:rJ p=true):nG p x=some (x % p):=by
 have hb:=dG hp;have hr:=aDP x p (by omega);unfold nG;rw [aBQ,hp,aA,dX,aU,cS (by omega),Bool.not_false,aM,aM,cC (by omega),aKS _ _ (by omega)]
theorem aIo {p x:Int} (hp:rJ p=true) {k:Nat} (hk:k≤1000):pA p x k=some (aFx p (x % p) k):=by
 have hb:=dG hp;unfold pA;rw [aBQ,hp,aA,dX,aU,yS,wY (by omega) (by omega),aA,dX,aU];rw [cU (r:=aFx p (x % p) k) (λt=>(aFx p (x % p) t,(t:Int))) k (by rfl) (λt ht=>?_) (λ_=>?_),aA]
 ·unfold lF;simp only;have h1:=aJS hp (rA (x:=x) hp) t;have h2:=rA (x:=x) hp;have h3:=aET (a:=aFx p (x % p) t) (b:=x % p) (by omega) (by omega);rw [jT ht,aM,aHl hp,aA,cS (by omega),Bool.not_false,aM,bN ht (by omega),cC (by omega),Int.tmod_eq_emod_of_nonneg h3.1];rfl
 ·unfold lF;simp only;rw [mD (bC _),aU]
theorem aKl {p x:Int} (hp:rJ p=true):mH p x=some (aAD p (x % p)):=by
 have hb:=dG hp;unfold mH aAD;rw [aBQ,hp,aA,dX,aU,cC (by omega)];have e:max (p - 2) 1=(((max (p - 2) 1).toNat:Nat):Int):=by omega
 rw [e,aIo hp (by omega),aA,dK]
theorem aKm {p x:Int} (hp:rJ p=true) (hx: -4611686018427387904≤x∧x≤4611686018427387904):mG p x=some (aAD p (x % p)):=by
 have hb:=dG hp;have h2:=rA (x:=x) hp;obtain ⟨n,hn⟩: ∃ n:Nat,p=n:=⟨p.toNat,by omega⟩;unfold mG;rw [rP (s0:=1) (s:=1) (n:=n) (λk:Nat=>bif decide ((x % p*k) % p=1) then some (k:Int) else none) rfl (by omega) (by omega) (λk h1 hk=>?_) (λ_=>?_),aA]
 ·cases e:(List.range' 1 (n - 1)).findSome? (λk:Nat=>bif decide ((x % p*k) % p=1) then some (k:Int) else none) with
  |none=>
   rw [List.findSome?_eq_none_iff] at e;rw [aLb hp h2 λy h3 h4 h5=>?_];rfl;have:=e y (by simp;omega);rw [aZ h5] at this;cases this
  |some i=>
   obtain ⟨k,hk,he⟩:=List.exists_of_findSome?_eq_some e;simp at hk;cases hd:decide ((x % p*k) % p=1) with
   |false=>rw [hd] at he;cases he
   |true=>
    rw [hd] at he;cases he;rw [aMr hp h2 (y:=k) (by omega) (of_decide_eq_true hd)];rfl
 ·unfold jC;have h3:=aET (a:=x % p) (b:=k) (by omega) (by omega);rw [aZ (by omega),aM,aGL,hp,aA,aM,tT hp hx,aA,cC (by omega),tT hp (by omega),aA];cases decide (x % p*k % p=1) <;> rfl
 ·unfold jC;rw [cS (by omega),aU]
theorem aJl {r c i:Nat} (hi:i<r):(i+1)*c≤r*c:=Nat.mul_le_mul_right c hi
theorem ixw {r c i j:Nat} (hN:r*c≤1048576) (hi:i<r) (hj:j<c):wr (wr ((i:Int)*(c:Int))+(j:Int))=((i*c+j:Nat):Int):=wix (by have:=uV hi hj;omega)
theorem atT {r c i j:Nat} (hN:r*c≤1048576) (hi:i<r) (hj:j<c) (F:Nat→Nat→Int):cP (bJ r c F) (wr (wr ((i:Int)*(c:Int))+(j:Int)))=some (F i j):=by rw [ixw hN hi hj,aMs F hi hj]
theorem aKn {r c i j:Nat} (hN:r*c≤1048576) (hi:i<r) (hj:j<c) (F:Nat→Nat→Int) (v:Int):(bJ r c F).set (wr (wr ((i:Int)*(c:Int))+(j:Int))).toNat v=bJ r c (aBl F i j v):=by rw [ixw hN hi hj,dK,vY F v hi hj]
theorem rX {r c i:Nat} (hN:r*c≤1048576) (hi:i<r):wr ((i:Int)*(c:Int))=((i*c:Nat):Int):=aDR (by have:= @aJl r c i hi;rw [Nat.succ_mul] at this;omega)
theorem rY {r c i:Nat} (hN:r*c≤1048576) (hr:r≤1048576) (hi:i<r):wr (wr ((i:Int)+1)*(c:Int))=((i*c+c:Nat):Int):=by
 have:= @aJl r c i hi;rw [bN hi (by omega),aDR (by omega),Nat.succ_mul]
def gB (c:Nat) (f:Nat→Int):List Int:=(List.range c).map f
theorem dV (c:Nat) (f:Nat→Int):(gB c f).length=c:=by simp [gB]
theorem xG {c:Nat} (f:Nat→Int) {j:Nat} (h:j<c):cP (gB c f) (j:Int)=some (f j):=by rw [dS (by rw [dV];exact h)];simp [gB]
theorem aDe {r c i:Nat} (hN:r*c≤1048576) (hr:r≤1048576) (hi:i<r) (F:Nat→Nat→Int):cI ⟨r,c,bJ r c F⟩ i=some ():=by
 have:= @aJl r c i hi;rw [Nat.succ_mul] at this;unfold cI;simp only;rw [rX hN hi,rY hN hr hi,dF,aZ (by omega),aZ (by omega:((i*c:Nat):Int)≤((i*c+c:Nat):Int)),aZ (by omega:((i*c+c:Nat):Int)≤((r*c:Nat):Int))];rfl
theorem aMF {r c i:Nat} (hN:r*c≤1048576) (hr:r≤1048576) (hi:i<r) (F:Nat→Nat→Int):aDa ⟨r,c,bJ r c F⟩ i=some (gB c (F i)):=by
 have h:= @aJl r c i hi;rw [Nat.succ_mul] at h;unfold aDa sT yO;simp only;rw [rX hN hi,rY hN hr hi,dF,aZ (by omega),aZ (by omega:((i*c:Nat):Int)≤((i*c+c:Nat):Int)),aZ (by omega:((i*c+c:Nat):Int)≤((r*c:Nat):Int))];simp only [Bool.and_self,aM,dK];congr 1;refine List.ext_getElem (by simp [dF,dV];omega) λt h1 h2=>?_;rw [dV] at h2;rw [List.getElem_take,List.getElem_drop];simp [bJ,gB,vI h2,vJ h2]
def aDf (p:Int) (F:Nat→Nat→Int) (i:Nat) (k:Int) (g:Nat→Int):Nat→Nat→Int:=λa b=>if a=i then (F i b+k*g b) % p else F a b
theorem gd (x:Nat):(decide (0≤(x:Int))&&true)=true:=by rw [aZ (by omega)];rfl
theorem aKo {p:Int} (hp:rJ p=true):(!decide (p=0))=true:=by have:=dG hp;rw [cS (by omega)];rfl
theorem aDg {p:Int} (hp:rJ p=true) {r c i:Nat} (hc:c≤1048576) (hi:i<r) {F:Nat→Nat→Int} {g:Nat→Int} {k:Int} (hk:0≤k∧k≤5) (hF: ∀ b,b<c→0≤F i b∧F i b<p) (hg: ∀ b,b<c→0≤g b∧g b<p):
  dZ p (bJ r c F) (i*c) c k (gB c g)=some (bJ r c (aDf p F i k g)):=by
 have hb:=dG hp;unfold dZ;rw [cU (r:=bJ r c (aDf p F i k g)) (λx=>(bJ r c (λa b=>if a=i∧b<x then (F i b+k*g b) % p else F a b),(x:Int))) c (by simp) (λx hx=>?_) (λ_=>?_)];rfl
 ·have h1:=hF x hx;have h2:=hg x hx;have h3:=aET hk (show 0≤g x∧g x≤5 by omega);unfold iG;simp only;rw [dV,jT hx,aM,xG _ hx,aA,gd x,aM,dK,iW _ hi hx,aA,aKo hp,aM,aM,aA,vY _ _ hi hx,bN hx (by omega)];rw [aR (by omega),cC (x:=k*g x) (by omega),cC (by omega),Int.tmod_eq_emod_of_nonneg (by omega)];congr 3;refine bS λa b ha hb=>?_;simp only [aBl];by_cases e1:a=i∧b=x
  ·obtain ⟨rfl,rfl⟩:=e1;rw [aQ ⟨rfl,rfl⟩,aQ ⟨rfl,by omega⟩]
  ·rw [aR e1];by_cases e2:a=i∧b<x
   ·rw [aQ e2,aQ ⟨e2.1,by omega⟩]
   ·rw [aR e2,aR (by omega)]
 ·unfold iG;simp only;rw [dV,mD (bC _),aU];congr 2;refine bS λa b ha hb=>?_;simp only [aDf];by_cases e:a=i
  ·rw [aQ ⟨e,hb⟩,aQ e]
  ·rw [aR (by omega),aR e]
theorem aKp {p:Int} (hp:rJ p=true) {r c i j:Nat} (hc:c≤1048576) (hi:i<r) (hj:j<r) (hij:i≠j) {F:Nat→Nat→Int} {k:Int} (hk:0≤k∧k≤5) (hF: ∀ b,b<c→0≤F i b∧F i b<p) (hg: ∀ b,b<c→0≤F j b∧F j b<p):
  gE p (bJ r c F) (i*c) c k (j*c) c=some (bJ r c (aDf p F i k (F j))):=by
 have hb:=dG hp;unfold gE;rw [cU (r:=bJ r c (aDf p F i k (F j))) (λx=>(bJ r c (λa b=>if a=i∧b<x then (F i b+k*F j b) % p else F a b),(x:Int))) c (by simp) (λx hx=>?_) (λ_=>?_)];rfl
 ·have h1:=hF x hx;have h2:=hg x hx;have h3:=aET hk (show 0≤F j x∧F j x≤5 by omega);unfold fC;simp only;rw [jT hx,aM,gd x,aM,dK,iW _ hj hx,aA,aM,iW _ hi hx,aA,aKo hp,aM,aM,aA,vY _ _ hi hx,bN hx (by omega)];rw [aR (by omega),aR (by omega),cC (x:=k*F j x) (by omega),cC (by omega),Int.tmod_eq_emod_of_nonneg (by omega)];congr 3;refine bS λa b ha hb=>?_;simp only [aBl];by_cases e1:a=i∧b=x
  ·obtain ⟨rfl,rfl⟩:=e1;rw [aQ ⟨rfl,rfl⟩,aQ ⟨rfl,by omega⟩]
  ·rw [aR e1];by_cases e2:a=i∧b<x
   ·rw [aQ e2,aQ ⟨e2.1,by omega⟩]
   ·rw [aR e2,aR (by omega)]
 ·unfold fC;simp only;rw [mD (bC _),aU];congr 2;refine bS λa b ha hb=>?_;simp only [aDf];by_cases e:a=i
  ·rw [aQ ⟨e,hb⟩,aQ e]
  ·rw [aR (by omega),aR e]
theorem aMG {r c:Nat} (hN:r*c≤1048576):(decide (0≤wr ((r:Int)*(c:Int)))&&decide (wr ((r:Int)*(c:Int))≤1048576))=true:=by
 rw [aDR (by omega),aZ (by omega),aZ (by omega)];rfl
theorem aGN {r c:Nat} (hN:r*c≤1048576):mZ r c=some ⟨r,c,bJ r c λ_ _=>0⟩:=by
 unfold mZ;rw [aMG hN,aM,aDR (by omega),dK,aEt]
theorem aMH {r c:Nat} (hN:r*c≤1048576):sC r c=some ⟨r,c,bJ r c λ_ _=>0⟩:=by
 unfold sC;rw [aMG hN,aM,aDR (by omega),dK,aEt]
def yB (F G:Nat→Nat→Int) (i j:Nat):Nat→Int
 |0=>0
 |k+1=>yB F G i j k+F i k*G k j
def aHm (p:Int) (F G:Nat→Nat→Int) (i j:Nat):Nat→Int
 |0=>0
 |k+1=>(aHm p F G i j k+F i k*G k j) % p
theorem aGO {p:Int} (hp:rJ p=true) (F G:Nat→Nat→Int) (i j:Nat): ∀ k,aHm p F G i j k=yB F G i j k % p
 |0=>by simp [aHm,yB]
 |k+1=>by rw [aHm,yB,aGO hp F G i j k];simp [Int.add_emod]
theorem aGP {p:Int} (hp:rJ p=true) {F G:Nat→Nat→Int} {i j:Nat} : ∀ {k:Nat},(∀ t,t<k→0≤F i t∧F i t<p)→(∀ t,t<k→0≤G t j∧G t j<p)→0≤yB F G i j k∧yB F G i j k≤25*k
 |0,_,_=>by simp [yB]
 |k+1,hF,hG=>by
  have hb:=dG hp;have h:=aGP hp (k:=k) (λt ht=>hF t (by omega)) (λt ht=>hG t (by omega));have h1:=hF k (by omega);have h2:=hG k (by omega);have h3:=aET (a:=F i k) (b:=G k j) (by omega) (by omega);rw [yB];omega
def tU (p:Int) (n:Nat) (F G:Nat→Nat→Int):Nat→Nat→Int:=λi j=>yB F G i j n % p
theorem aJm {p:Int} (hp:rJ p=true) (n:Nat) (F G:Nat→Nat→Int) (m c:Nat):zT p m c (tU p n F G):=λi j _ _=>rA hp
theorem aBR {p:Int} (hp:rJ p=true) {r n c:Nat} (h1:r*n≤1048576) (h2:n*c≤1048576) (h3:r*c≤1048576) (hr:r≤1048576) (hn:n≤1048576) (hc:c≤1048576) {F G:Nat→Nat→Int} (hF:zT p r n F) (hG:zT p n c G):
  jB p ⟨r,n,bJ r n F⟩ ⟨n,c,bJ n c G⟩=some ⟨r,c,bJ r c (tU p n F G)⟩:=by
 have hb:=dG hp;unfold jB;simp only;rw [aMH h3,aA];simp only;rw [cU (r:=bJ r c (tU p n F G)) (λi=>(bJ r c (λa b=>if a<i then tU p n F G a b else 0),(i:Int))) r (by simp) (λi hi=>?_) (λ_=>?_),aA]
 ·unfold jA;simp only;rw [jT hi,aM];rw [cU (r:=bJ r c (λa b=>if a<i+1 then tU p n F G a b else 0)) (λj=>(bJ r c (λa b=>if a<i∨(a=i∧b<j) then tU p n F G a b else 0),(j:Int))) c (by simp) (λj hj=>?_) (λ_=>?_),aA,bN hi (by omega)]
  ·unfold iZ;simp only;rw [jT hj,aM];have hbd:=aGP hp (F:=F) (G:=G) (i:=i) (j:=j) (k:=n) (λt ht=>hF i t hi ht) (λt ht=>hG t j ht hj);rw [cU (r:=yB F G i j n) (λk=>(yB F G i j k,(k:Int))) n (by simp [yB]) (λk hk=>?_) (λ_=>?_),aA,tT hp (by omega),aA,atT h3 hi hj,aA,aKn h3 hi hj,bN hj (by omega)]
   ·congr 3;refine bS λa b ha hb=>?_;simp only [aBl];by_cases e:a=i∧b=j
    ·rw [aQ e,aQ (by omega),e.1,e.2];rfl
    ·rw [aR e];by_cases e2:a<i∨a=i∧b<j
     ·rw [aQ e2,aQ (by omega)]
     ·rw [aR e2,aR (by omega)]
   ·unfold iY;simp only;have g1:=hF i k hi hk;have g2:=hG k j hk hj;have g3:=aET (a:=F i k) (b:=G k j) (by omega) (by omega);have g4:=aGP hp (F:=F) (G:=G) (i:=i) (j:=j) (k:=k) (λt ht=>hF i t hi (by omega)) (λt ht=>hG t j (by omega) hj);rw [jT hk,aM,atT h1 hi hk,aA,atT h2 hk hj,aA,bN hk (by omega),cC (x:=F i k*G k j) (by omega),cC (by omega)];rfl
   ·unfold iY;simp only;rw [mD (bC _),aU]
  ·unfold iZ;simp only;rw [mD (bC _),aU];congr 2;refine bS λa b ha hb=>?_;by_cases e:a<i+1
   ·rw [aQ e,aQ (by omega)]
   ·rw [aR e,aR (by omega)]
 ·unfold jA;simp only;rw [mD (bC _),aU];congr 2;exact bS λa b ha hb=>by rw [aQ ha]
theorem aJn {p:Int} (hp:rJ p=true) {r n c:Nat} (h1:r*n≤1048576) (h2:n*c≤1048576) (h3:r*c≤1048576) (hr:r≤1048576) (hn:n≤1048576) (hc:c≤1048576) {F G:Nat→Nat→Int} (hF:zT p r n F) (hG:zT p n c G):
  qX p ⟨r,n,bJ r n F⟩ ⟨n,c,bJ n c G⟩=some ⟨r,c,bJ r c (tU p n F G)⟩:=by
 have hb:=dG hp;have hD: ∀ i j,aHm p F G i j n=tU p n F G i j:=λi j=>aGO hp F G i j n;unfold qX;simp only;rw [aGN h3,aA];simp only;rw [cU (r:=bJ r c (tU p n F G)) (λi=>(bJ r c (λa b=>if a<i then tU p n F G a b else 0),(i:Int))) r (by simp) (λi hi=>?_) (λ_=>?_),aA]
 ·unfold pG;simp only;rw [jT hi,aM,aMF h1 hr hi,aA];rw [cU (r:=bJ r c (λa b=>if a<i+1 then tU p n F G a b else 0)) (λk=>(bJ r c (λa b=>if a<i then tU p n F G a b else if a=i then aHm p F G i b k else 0),(k:Int))) n ?_ (λk hk=>?_) (λ_=>?_),aA,bN hi (by omega)]
  ·congr 1
   exact bS λa b ha hb=>by
    by_cases e:a<i
    ·rw [aQ e,aQ e]
    ·rw [aR e,aR e];simp [aHm]
  ·unfold pF;simp only;have g1:=hF i k hi hk;rw [dV,jT hk,aM,xG _ hk,aA,aDe h3 hr hi,aA,aMF h2 hn hk,aA,Nat.zero_add,rX h3 hi,rY h3 hr hi,dK,dK,show i*c+c - i*c=c by omega];rw [aDg hp hc hi (by omega) (λb hb=>?_) (λb hb=>hG k b hk hb),aA,dF,dF,aZ rfl,aM,bN hk (by omega)]
   ·congr 3;refine bS λa b ha hb=>?_;simp only [aDf];by_cases e:a=i
    ·subst e;simp [aHm]
    ·rw [aR e,aR e,aR e]
   ·rw [aR (by omega),aQ rfl,aGO hp];exact rA hp
  ·unfold pF;simp only;rw [dV,mD (bC _),aU];congr 2;refine bS λa b ha hb=>?_;by_cases e:a<i
   ·rw [aQ e,aQ (by omega)]
   ·by_cases e2:a=i
    ·subst e2;rw [aR (by omega),aQ rfl,aQ (by omega),hD]
    ·rw [aR e,aR e2,aR (by omega)]
 ·unfold pG;simp only;rw [mD (bC _),aU];congr 2;exact bS λa b ha hb=>by rw [aQ ha]
end
noncomputable section
def eW (L:List Nat):List Int:=L.map λt:Nat=>(t:Int)
theorem dA (L:List Nat):(eW L).length=L.length:=by simp [eW]
theorem aDh {p:Int} {m:Nat} {F:Nat→Nat→Int} {j:Nat} (h:(bW p m F j).2.length=m): ∀ d,bW p m F (j+d)=bW p m F j
 |0=>rfl
 |d+1=>by
  show fA p m (bW p m F (j+d)) (j+d)=_;rw [aDh h d];unfold fA;rw [aQ];rw [h,Nat.sub_self];rfl
def xH (F:Nat→Nat→Int) (a b x:Nat):Nat→Nat→Int:=λi y=>if y<x then rK F a b i y else F i y
def tW (p:Int) (F:Nat→Nat→Int) (a:Nat) (s:Int) (x:Nat):Nat→Nat→Int:=λi y=>if y<x then pW p F a s i y else F i y
def gJ (p:Int) (F:Nat→Nat→Int) (a j x:Nat):Nat→Nat→Int:=λi c=>if i<x then tI p F a j i c else F i c
theorem aFM {r c a b x:Nat} (F:Nat→Nat→Int):bJ r c (aBl (aBl (xH F a b x) a x (F b x)) b x (F a x))=bJ r c (xH F a b (x+1)):=by
 refine bS λi y hi hy=>?_;simp only [aBl,xH,rK];by_cases e:y=x
 ·subst e;simp only [and_true,Nat.lt_irrefl,if_false,Nat.lt_succ_self,if_true];by_cases e1:i=b
  ·rw [aQ e1];by_cases e2:i=a
   ·rw [aQ e2];subst e1;rw [e2]
   ·rw [aR e2,aQ e1]
  ·rw [aR e1];by_cases e2:i=a
   ·rw [aQ e2,aQ e2]
   ·rw [aR e2,aR e2,aR e1]
 ·rw [aR (by omega),aR (by omega)];by_cases e1:y<x
  ·rw [aQ e1,aQ (show y<x+1 by omega)]
  ·rw [aR e1,aR (show ¬ y<x+1 by omega)]
theorem zZ {F:Nat→Nat→Int} {a b x i:Nat} :xH F a b x i x=F i x:=by simp [xH]
theorem aDi {p:Int} {F:Nat→Nat→Int} {a x i:Nat} {s:Int} :tW p F a s x i x=F i x:=by simp [tW]
theorem aDj {p:Int} {r c a x:Nat} {s:Int} (F:Nat→Nat→Int):bJ r c (aBl (tW p F a s x) a x ((F a x*s) % p))=bJ r c (tW p F a s (x+1)):=by
 refine bS λi y hi hy=>?_;simp only [aBl,tW,pW];by_cases e:y=x
 ·subst e;simp only [and_true,Nat.lt_irrefl,if_false,Nat.lt_succ_self,if_true]
 ·rw [aR (by omega)];by_cases e1:y<x
  ·rw [aQ e1,aQ (show y<x+1 by omega)]
  ·rw [aR e1,aR (show ¬ y<x+1 by omega)]
theorem aJo {p r:Int} (hp:rJ p=true) (hr:0≤r∧r<p):0≤aAD p r∧aAD p r<p:=aJS hp hr _
theorem aHn {p:Int} {m n k r:Nat} {F:Nat→Nat→Int} (h:zT p m n F) (hk:k<m) (hr:r<m):zT p m n (rK F k r):=by
 intro i c hi hc;unfold rK;split
 ·exact h r c hr hc
 ·split
  ·exact h k c hk hc
  ·exact h i c hi hc
theorem aFN {p:Int} (hp:rJ p=true) {m n k:Nat} {s:Int} {F:Nat→Nat→Int} (h:zT p m n F):zT p m n (pW p F k s):=by
 intro i c hi hc;unfold pW;split
 ·exact rA hp
 ·exact h i c hi hc
theorem aKq {p:Int} (hp:rJ p=true) {m n k j x:Nat} {F:Nat→Nat→Int} (h:zT p m n F):zT p m n (gJ p F k j x):=by
 intro i c hi hc;unfold gJ tI;split
 ·split
  ·rename_i h1 h2;subst h2;exact h _ c hi hc
  ·exact rA hp
 ·exact h i c hi hc
theorem aMI {p:Int} (hp:rJ p=true) {m n k j x:Nat} {F:Nat→Nat→Int} (hx:x≠k):bJ m n (aDf p (gJ p F k j x) x (p - F x j) (gJ p F k j x k))=bJ m n (gJ p F k j (x+1)):=by
 refine bS λi c hi hc=>?_;simp only [aDf,gJ,tI];by_cases e:i=x
 ·subst e;rw [aQ rfl,aR (Nat.lt_irrefl _),aQ (Nat.lt_succ_self _),aR hx];simp only [if_true,ite_self];rw [show F i c+(p - F i j)*F k c=(F i c - F i j*F k c)+p*F k c by rw [Int.sub_mul];omega,Int.add_mul_emod_self_left]
 ·rw [aR e];by_cases e1:i<x
  ·rw [aQ e1,aQ (show i<x+1 by omega)]
  ·rw [aR e1,aR (show ¬ i<x+1 by omega)]
theorem aFO {p:Int} {m n k j:Nat} {F:Nat→Nat→Int} :bJ m n (gJ p F k j k)=bJ m n (gJ p F k j (k+1)):=by
 refine bS λi c hi hc=>?_;simp only [gJ,tI];by_cases e:i<k
 ·rw [aQ e,aQ (show i<k+1 by omega)]
 ·rw [aR e];by_cases e1:i=k
  ·subst e1;simp
  ·rw [aR (show ¬ i<k+1 by omega)]
theorem aDk {p:Int} {F:Nat→Nat→Int} {k r j:Nat} :eP p F k r j=tI p (pW p (rK F k r) k (aAD p (F r j))) k j:=rfl
structure Tb (p:Int) (m n:Nat) (F:Nat→Nat→Int):Prop where
 hp:rJ p=true
 hN:m*n≤1048576
 hm:m≤1048576
 hn:n≤1048576
 hi:zT p m n F
theorem aOA {p:Int} {m n:Nat} {F:Nat→Nat→Int} (T:Tb p m n F) {j:Nat} (hj:j<n) (L:List Nat) (hL:L.length≤m) (l:List Int):
  Lp (kL ⟨m,n,l⟩ ((j:Int),bJ m n F,eW L)) (((eW L).length:Nat):Int)=some ((kI F j (m - L.length) L.length:Nat):Int):=by
 obtain ⟨hp,hN,hm,hn,hi⟩:=T;have hle:= @uD F j (m - L.length) L.length;have hz:= @aAa F j (m - L.length) L.length;have hh:= @zU F j (m - L.length) L.length;generalize kI F j (m - L.length) L.length=r at*;rw [dA];refine cU (λt=>((L.length+t:Nat):Int)) (r - L.length) (by simp) (λt ht=>?_) (λ_=>?_)
 ·unfold kL;simp only
  rw [jT (by omega),aM,aDe hN hm (by omega),aA,rX hN (by omega),rY hN hm (by omega),dK,dK,Nat.add_sub_cancel_left,jT hj,gd,aM,Nat.zero_add,dK,iW _ (by omega) hj,aA,
   hz _ (by omega) (by omega),aZ rfl,aM,bN (n:=m) (by omega) (by omega),Nat.add_assoc]
 ·rw [show L.length+(r - L.length)=r by omega];unfold kL;simp only;rcases cX r m with h|h
  ·rw [jT h,aM,aDe hN hm h,aA,rX hN h,rY hN hm h,dK,dK,Nat.add_sub_cancel_left,jT hj,gd,aM,Nat.zero_add,dK,iW _ h hj,aA,
    cS (hh (by omega)),aU]
  ·rw [mD h,aU]
theorem aNJ {p:Int} {m n:Nat} {F:Nat→Nat→Int} (T:Tb p m n F) {j:Nat} (hj:j<n) (L:List Nat) (hL:L.length≤m) (l:List Int):
  kM p ⟨m,n,l⟩ ((j:Int),bJ m n F,eW L)=some (.inl (((j+1:Nat):Int),bJ m n (fA p m (F,L) j).1,eW (fA p m (F,L) j).2)):=by
 have hpv:=aOA T hj L hL l;obtain ⟨hp,hN,hm,hn,hi⟩:=T;have hb:=dG hp;have hle:= @uD F j (m - L.length) L.length;unfold kM fA;simp only;rw [jT hj,aM,hpv,aA,bN hj (by omega)];clear hpv;generalize kI F j (m - L.length) L.length=r at*;by_cases hr:r=m
 ·rw [aZ (by omega),aM,aQ hr]
 ·rw [cS (by omega),aU,aR hr];have hk:L.length<m:=by omega
  have hrm:r<m:=by omega
  simp only [dA];rw [aDe hN hm hk,aA,rX hN hk,rY hN hm hk];simp only [dK,Nat.add_sub_cancel_left,Nat.zero_add];rw [cU (r:=bJ m n (rK F L.length r)) (λx=>(bJ m n (xH F L.length r x),(x:Int))) n ?_ (λx hx=>?_) (λ_=>?_),aA,jT hj,gd,aM,iW _ hk hj,aA]
  ·have e1:rK F L.length r L.length j=F r j:=by simp [rK]
   have hrj:=hi r j hrm hj;rw [e1,aKl hp,aA,Int.emod_eq_of_lt hrj.1 hrj.2];have hs:=aJo hp hrj;rw [aDk];generalize aAD p (F r j)=s at*;have h1:=aHn hi hk hrm;generalize rK F L.length r=F1 at*;rw [cU (r:=bJ m n (pW p F1 L.length s)) (λx=>(bJ m n (tW p F1 L.length s x),(x:Int))) n ?_ (λx hx=>?_) (λ_=>?_),aA]
   ·have h2:=aFN hp (k:=L.length) (s:=s) h1;generalize pW p F1 L.length s=F2 at*;rw [cU (r:=bJ m n (tI p F2 L.length j)) (λx=>(bJ m n (gJ p F2 L.length j x),(x:Int))) m ?_ (λx hx=>?_) (λ_=>?_),aA]
    ·rw [aZ (by simp;omega),aM];simp [eW]
    ·congr 1
    ·unfold nJ;simp only [dA];rw [jT hx,aM];by_cases hxk:x=L.length
     ·rw [aZ (by omega),dX,aU,bN hx (by omega),hxk,aFO]
     ·rw [cS (by omega),Bool.not_false,aM,aDe hN hm hx,aA,aA,rX hN hx,rY hN hm hx,rX hN hk,rY hN hm hk];simp only [dK,Nat.add_sub_cancel_left,Nat.zero_add];rw [jT hj,gd,aM,iW _ hx hj,aA];have e2:gJ p F2 L.length j x x j=F2 x j:=by simp [gJ]
      have h3:=h2 x j hx hj;have h4:=aKq hp (k:=L.length) (j:=j) (x:=x) h2;rw [e2,cC (by omega),aKp hp hn hx hk hxk (by omega) (λb hb=>h4 _ b hx hb) (λb hb=>h4 _ b hk hb),aA,dF,dF,aZ rfl,aM,bN hx (by omega),aMI hp hxk]
    ·unfold nJ;simp only;rw [mD (bC _),aU];congr 2;exact bS λa b ha hb=>by simp only [gJ];rw [aQ ha]
   ·congr 1
   ·unfold nI;simp only [dA];rw [rX hN hk,rY hN hm hk];simp only [dK,Nat.add_sub_cancel_left,Nat.zero_add];have g1:=h1 _ x hk hx;have g2:=aET (a:=F1 L.length x) (b:=s) (by omega) (by omega);rw [jT hx,aM,gd,aM,iW _ hk hx,aA,aKo hp,aM,aM,aA,aDi,cC (by omega),Int.tmod_eq_emod_of_nonneg g2.1,vY _ _ hk hx,bN hx (by omega),aDj]
   ·unfold nI;simp only [dA];rw [rX hN hk,rY hN hm hk];simp only [dK,Nat.add_sub_cancel_left,Nat.zero_add];rw [mD (bC _),aU];congr 2;exact bS λa b ha hb=>by simp only [tW];rw [aQ hb]
  ·congr 1
  ·unfold nH;simp only [dA];rw [jT hx,aM,aDe hN hm hrm,aA,aA,rX hN hk,rY hN hm hk,rX hN hrm,rY hN hm hrm];simp only [dK,Nat.add_sub_cancel_left,Nat.zero_add];rw [jT hx,gd,aM,iW _ hrm hx,aA,aM,iW _ hk hx,aA,aM,aA,aM,vY _ _ hk hx,iW _ hrm hx,aA,vY _ _ hrm hx,zZ,zZ,bN hx (by omega),aFM]
  ·unfold nH;simp only;rw [mD (bC _),aU];congr 2;exact bS λa b ha hb=>by simp only [xH];rw [aQ hb]
theorem aBS {p:Int} {m n:Nat} {F:Nat→Nat→Int} (T:Tb p m n F):oH p ⟨m,n,bJ m n F⟩=some (⟨m,n,bJ m n (bW p m F n).1⟩,eW (bW p m F n).2):=by
 have hN:=T.hN;have hn:=T.hn;unfold oH gO zW;simp only;rw [dF,aZ hN,aM,aA,aA];simp only;rw [cU (r:=(bJ m n (bW p m F n).1,eW (bW p m F n).2)) (λj=>((j:Int),bJ m n (bW p m F j).1,eW (bW p m F j).2)) n (by simp [bW,eW]) (λj hj=>?_) (λ_=>?_),aA]
 ·show _=some (Sum.inl (((j+1:Nat):Int),bJ m n (fA p m (bW p m F j) j).1,eW (fA p m (bW p m F j) j).2):(Int×List Int×List Int) ⊕ (List Int×List Int));exact aNJ ⟨T.hp,T.hN,T.hm,T.hn,uE (by have:=dG T.hp;omega) T.hi j⟩ hj _ (rQ j) _
 ·unfold kM;simp only;rw [mD (bC _),aU]
theorem aAf {p:Int} {m n:Nat} {F:Nat→Nat→Int} (T:Tb p m n F):qC p ⟨m,n,bJ m n F⟩=some ((bW p m F n).2.length:Int):=by
 unfold qC;rw [aBS T,aA,dA]
theorem aOB {p:Int} {m n:Nat} {F:Nat→Nat→Int} (T:Tb p m n F) {j:Nat} (hj:j<n) (L:List Nat) (hL:L.length<m) (l:List Int):
  Lp (hZ ⟨m,n,l⟩ ((j:Int),bJ m n F,eW L,(L.length:Int))) (-1,wr ((m:Int) - 1))=some (if kI F j (m - L.length) L.length=m then -1 else ((kI F j (m - L.length) L.length:Nat):Int)):=by
 obtain ⟨hp,hN,hm,hn,hi⟩:=T;refine cU (λt=>(if kI F j t (m - t)=m then -1 else ((kI F j t (m - t):Nat):Int),((m - t:Nat):Int) - 1)) (m - L.length) ?_ (λt ht=>?_) (λ_=>?_)
 ·simp only [kI,Nat.sub_zero,if_true];rw [cC (by omega)]
 ·unfold hZ;simp only;have e:((m - t:Nat):Int) - 1=((m - (t+1):Nat):Int):=by omega
  have hi2:m - (t+1)<m:=by omega
  rw [e,aZ (by omega),aM,atT hN hi2 hj,aA,cC (x:=((m - (t+1):Nat):Int) - 1) (by omega)]
  have ep:kI F j (t+1) (m - (t+1))=if F (m - (t+1)) j=0 then kI F j t (m - t) else m - (t+1):=by
   rw [kI,show m - (t+1)+1=m - t by omega]
  rw [ep];by_cases h:F (m - (t+1)) j=0
  ·rw [aZ h,dX,aU,aQ h]
  ·rw [cS h,Bool.not_false,aM,aR h,aR (by omega)]
 ·rw [show m - (m - L.length)=L.length by omega];unfold hZ;simp only;rw [cS (by omega),aU]
theorem aNK {p:Int} {m n:Nat} {F:Nat→Nat→Int} (T:Tb p m n F) {j:Nat} (hj:j<n) (L:List Nat) (hL:L.length<m) (l:List Int):
  eB p ⟨m,n,l⟩ ((j:Int),bJ m n F,eW L,(L.length:Int))=some (.inl (((j+1:Nat):Int),bJ m n (fA p m (F,L) j).1,eW (fA p m (F,L) j).2,((fA p m (F,L) j).2.length:Int))):=by
 have hpv:=aOB T hj L hL l;obtain ⟨hp,hN,hm,hn,hi⟩:=T;have hb:=dG hp;have hle:= @uD F j (m - L.length) L.length;unfold eB fA;simp only;rw [jT hj,aM,jT hL,aM,hpv,aA,bN hj (by omega)];clear hpv;generalize kI F j (m - L.length) L.length=r at*;have hk:L.length<m:=hL;by_cases hr:r=m
 ·rw [aQ hr,aQ hr,aZ (by omega),aM]
 ·rw [aR hr,aR hr,cS (by omega),aU];have hrm:r<m:=by omega
  rw [cU (r:=bJ m n (rK F L.length r)) (λx=>(bJ m n (xH F L.length r x),(x:Int))) n ?_ (λx hx=>?_) (λ_=>?_),aA,atT hN hk hj,aA]
  ·have e1:rK F L.length r L.length j=F r j:=by simp [rK]
   have hrj:=hi r j hrm hj;rw [e1,aKm hp (by omega),aA,Int.emod_eq_of_lt hrj.1 hrj.2];have hs:=aJo hp hrj;rw [aDk];generalize aAD p (F r j)=s at*;have h1:=aHn hi hk hrm;generalize rK F L.length r=F1 at*;rw [cU (r:=bJ m n (pW p F1 L.length s)) (λx=>(bJ m n (tW p F1 L.length s x),(x:Int))) n ?_ (λx hx=>?_) (λ_=>?_),aA]
   ·have h2:=aFN hp (k:=L.length) (s:=s) h1;generalize pW p F1 L.length s=F2 at*;rw [cU (r:=bJ m n (tI p F2 L.length j)) (λx=>(bJ m n (gJ p F2 L.length j x),(x:Int))) m ?_ (λx hx=>?_) (λ_=>?_),aA]
    ·rw [dA,aZ (by simp;omega),aM,bN hk (by omega)];simp [eW]
    ·congr 1
    ·unfold lD;simp only;rw [jT hx,aM,atT hN hx hj,aA,bN hx (by omega)];have e2:gJ p F2 L.length j x x j=F2 x j:=by simp [gJ]
     rw [e2];by_cases hxk:x=L.length
     ·rw [iV (r:=bJ m n (gJ p F2 L.length j x)) ?_,aA,hxk,aFO];unfold iA;simp only;rcases Nat.eq_zero_or_pos n with h0|h0
      ·omega
      ·rw [aZ (by omega),aM,aZ (by omega),dX,aU]
     ·rw [cU (r:=bJ m n (gJ p F2 L.length j (x+1))) (λy=>(bJ m n (λa c=>if a=x∧c<y then tI p F2 L.length j x c else gJ p F2 L.length j x a c),(y:Int))) n (by simp) (λy hy=>?_) (λ_=>?_),aA]
      ·unfold iA;simp only;rw [jT hy,aM,cS (by omega),Bool.not_false,aM,atT hN hx hy,aA,atT hN hk hy,aA];have e3:gJ p F2 L.length j x x y=F2 x y:=by simp [gJ]
       have e4:gJ p F2 L.length j x L.length y=F2 L.length y:=by simp [gJ,tI]
       rw [aR (by omega),aR (by omega),e3,e4];have g1:=h2 x j hx hj;have g2:=h2 L.length y hk hy;have g3:=h2 x y hx hy;have g4:=aET (a:=F2 x j) (b:=F2 L.length y) (by omega) (by omega);rw [cC (x:=F2 x j*F2 L.length y) (by omega),cC (x:=F2 x y - F2 x j*F2 L.length y) (by omega),tT hp (by omega),aA,aA,aKn hN hx hy,bN hy (by omega)];congr 3;refine bS λa c ha hc=>?_;simp only [aBl];by_cases e5:a=x∧c=y
       ·rw [aQ e5,aQ (by omega),e5.2];simp only [tI];rw [aR hxk]
       ·rw [aR e5];by_cases e6:a=x∧c<y
        ·rw [aQ e6,aQ (by omega)]
        ·rw [aR e6,aR (by omega)]
      ·unfold iA;simp only;rw [mD (bC _),aU];congr 2;refine bS λa c ha hc=>?_;simp only [gJ];by_cases e5:a=x
       ·rw [aQ ⟨e5,hc⟩,aQ (by omega),e5]
       ·rw [aR (by omega)];by_cases e6:a<x
        ·rw [aQ e6,aQ (by omega)]
        ·rw [aR e6,aR (by omega)]
    ·unfold lD;simp only;rw [mD (bC _),aU];congr 2;exact bS λa b ha hb=>by simp only [gJ];rw [aQ ha]
   ·congr 1
   ·unfold kZ;simp only;have g1:=h1 _ x hk hx;have g2:=aET (a:=F1 L.length x) (b:=s) (by omega) (by omega);rw [jT hx,aM,atT hN hk hx,aA,aDi,Int.mul_comm,cC (by omega),tT hp (by omega),aA,aA,aKn hN hk hx,bN hx (by omega),aDj]
   ·unfold kZ;simp only;rw [mD (bC _),aU];congr 2;exact bS λa b ha hb=>by simp only [tW];rw [aQ hb]
  ·congr 1
  ·unfold kY;simp only;rw [jT hx,aM,atT hN hk hx,aA,atT hN hrm hx,aA,aA,aKn hN hk hx,atT hN hrm hx,aA,aKn hN hrm hx,zZ,zZ,bN hx (by omega),aFM]
  ·unfold kY;simp only;rw [mD (bC _),aU];congr 2;exact bS λa b ha hb=>by simp only [xH];rw [aQ hb]
theorem xI {p:Int} {m n:Nat} {F:Nat→Nat→Int} (T:Tb p m n F):iR p ⟨m,n,bJ m n F⟩=some (⟨m,n,bJ m n (bW p m F n).1⟩,eW (bW p m F n).2):=by
 have hN:=T.hN;have hn:=T.hn;unfold iR vO;simp only;rw [dF,aZ (by simp;omega),aM,aA];simp only [List.nil_append]
 obtain ⟨r,h1,h2⟩: ∃ r,Lp (eB p ⟨m,n,bJ m n F⟩) (0,bJ m n F,[],0)=some r∧r=(bJ m n (bW p m F n).1,eW (bW p m F n).2):=by
  refine aFw (λs=> ∃ j:Nat,j≤n∧s=((j:Int),bJ m n (bW p m F j).1,eW (bW p m F j).2,((bW p m F j).2.length:Int))) (λs=>n - s.1.toNat) _ ⟨0,Nat.zero_le _,by simp [bW,eW]⟩ ?_;rintro s ⟨j,hj,rfl⟩;rcases cX j n with hlt|hge
  ·have hlen:= @rQ p m F j;rcases cX (bW p m F j).2.length m with hl|hl
   ·refine .inl ⟨_,aNK ⟨T.hp,T.hN,T.hm,T.hn,uE (by have:=dG T.hp;omega) T.hi j⟩ hlt _ hl _,⟨j+1,hlt,rfl⟩,?_⟩;simp;omega
   ·refine .inr ⟨_,?_,rfl⟩;unfold eB;simp only;have e:=aDh (p:=p) (F:=F) (j:=j) (by omega:(bW p m F j).2.length=m) (n - j);rw [show j+(n - j)=n by omega] at e;rw [jT hlt,aM,mD hl,aU,e]
  ·have e:j=n:=by omega
   subst e;refine .inr ⟨_,?_,rfl⟩;unfold eB;simp only;rw [mD (bC _),aU]
 rw [h1,h2,aA]
end
end Go.Proofs.YtpppcfhgaehcjaaGreatDoor

/-
  Several texts of the claim in one.
-/
import Derived.Lib.AppendZerosOnto
import Derived.Test.YtpppcfhgaehcjaaH6
set_option linter.unusedVariables false
set_option linter.unusedSimpArgs false
namespace Go.Proofs.Ytpppcfhgaehcjaa
open Go.RowKit
noncomputable section
set_option maxRecDepth 10000
theorem sO {w:World} {h:Hp} {u:Us} {ν:Nu} {d:AV} {v:Value} (r:Rep1 w h u ν d v) (ok:cN d=true): ∃ S,RepD w d v S∧ ∀ x∈S,eJ h ν x:=by
 cases d <;> simp only [cN,dK] at ok <;> simp only [Rep1] at r
 ·exact ⟨[],by rw [r.1];exact qH r.2,by simp⟩
 ·exact r
 ·exact r
theorem tL {w:World} {h:Hp} {u:Us} {ν:Nu} : ∀ {ds:List AV} {vs:List Value},All2 (Rep1 w h u ν) ds vs→ds.all cN=true→ ∃ S,RepVs w ds vs S∧ ∀ x∈S,eJ h ν x
 | [],vs,r,_=>by simp only [All2] at r;subst r;exact ⟨[],by simp [RepVs],by simp⟩
 |d::ds,vs,⟨v,q,e,r1,r2⟩,ok=>by
  subst e;simp only [List.all_cons,bZ] at ok;obtain ⟨S1,a1,a2⟩:=sO r1 ok.1;obtain ⟨S2,b1,b2⟩:=tL r2 ok.2;refine ⟨S1++S2,by simp only [RepVs];exact ⟨v,q,S1,S2,rfl,rfl,a1,b1⟩,λx hx=>?_⟩;rcases cF.1 hx with h|h
  ·exact a2 x h
  ·exact b2 x h
theorem aFu {w:World} {h:Hp} {u:Us} {ν:Nu} {d:AV} {v:Value} (r:RepA w h u ν d v) (ok:kV d=true): ∃ S,RepD w d v S∧ ∀ x∈S,eJ h ν x:=by
 cases d <;> simp only [kV,cN,dK] at ok <;> simp only [RepA,RepB] at r
 ·exact sO r rfl
 ·exact sO r rfl
 ·exact sO r rfl
 ·obtain ⟨vs,rfl,r⟩:=r;obtain ⟨S,a,b⟩:=tL r ok;exact ⟨S,by simp only [RepD];exact ⟨vs,rfl,a⟩,b⟩
 ·obtain ⟨vs,rfl,r⟩:=r;obtain ⟨S,a,b⟩:=tL r ok;exact ⟨S,by simp only [RepD];exact ⟨vs,rfl,a⟩,b⟩
theorem zP {w:World} {h:Hp} {u:Us} {ν:Nu} : ∀ {ds:List AV} {vs:List Value},All2 (RepA w h u ν) ds vs→ds.all kV=true→ ∃ S,RepVs w ds vs S∧ ∀ x∈S,eJ h ν x
 | [],vs,r,_=>by simp only [All2] at r;subst r;exact ⟨[],by simp [RepVs],by simp⟩
 |d::ds,vs,⟨v,q,e,r1,r2⟩,ok=>by
  subst e;simp only [List.all_cons,bZ] at ok;obtain ⟨S1,a1,a2⟩:=aFu r1 ok.1;obtain ⟨S2,b1,b2⟩:=zP r2 ok.2;refine ⟨S1++S2,by simp only [RepVs];exact ⟨v,q,S1,S2,rfl,rfl,a1,b1⟩,λx hx=>?_⟩;rcases cF.1 hx with h|h
  ·exact a2 x h
  ·exact b2 x h
theorem aCL {P:Program} {t tn e bytes:Nat} {size:Nat} (et:ElemTy P t e size bytes) (htn:P.underlying tn=some (.int .i64)) (hs:0<size) (w:World) (n:Nat) (h0:0<n) (hn:n≤1048576) (hb:n*bytes≤140737488355328) (ty:Nat):
  ∃ G cur,n≤G∧G≤maxLen∧cur.size=G*size∧(Builtin.append_ #[t,tn] ty #[.slice none 0 0,.int .i64 n]).run P w= .ok (.slice (some ⟨w.heap.size,0,none⟩) n G) (w.drew.alloc (.cells cur e)):=by
 obtain ⟨i,z,h1,h2,h3,h4,h5⟩:=et.hi;have hold:(Builtin.firstCells i.size 0 (.slice none 0 0)).run P w.drew= .ok ([]:List Value).toArray w.drew:=run_firstCells_none w.drew i.size 0 0 0;have h:=Lib.run_append_grow_zeros w t tn ty e i z .i64 .i64 et.ht htn h1 h2 none 0 0 [] hold n h0 (by rw [h3];exact hs) (by omega) (by omega) (by rw [h4];omega) (growslice_fits (by omega) (by rw [h4];simpa using hb));have hG:=grownCap_ge w (0+n) 0 e;have hM:=grownCap_le_maxLen w (0+n) 0 e (by unfold maxLen;omega);rw [Nat.zero_add] at h hG hM;refine ⟨grownCap w n 0 e,_,hG,hM,?_,h⟩;simp only [Array.size_append,List.size_toArray,List.length_nil,Nat.zero_add];unfold Builtin.zeroCells;simp only [Array.size_map,Array.size_range,h5];rw [←Nat.add_mul];congr 1;omega
set_option maxRecDepth 100000 in
set_option maxHeartbeats 1000000 in
theorem aIH (n:Nat) (w:World) (hn:n≤1048576):
  Calls Try.prog 75 #[.slice none 0 0,.int .i64 n] w (Ret w λv w'=> ∃ S,Own 3 aAe w' w.heap.size v [] S):=by
 by_cases h0:n=0
 ·subst h0;show Calls Try.prog 75 #[.slice none 0 0,.int .i64 0] w _
  go_enter Try.func75,Try.ntmps75
  go_wp2
  go_ret
  exact ⟨_,rfl,Below.refl _ _,[],Own.nil _ _ _ _⟩
 ·have h1: ¬ ((n:Int)<0):=by omega
  have h4:(n:Int)>0:=by omega
  have key: ∀ ty,∃ G cur,n≤G∧G≤maxLen∧cur.size=G*1∧(Builtin.append_ #[22,3] ty #[.slice none 0 0,.int .i64 n]).run Try.prog w= .ok (.slice (some ⟨w.heap.size,0,none⟩) n G) (w.drew.alloc (.cells cur 3)):=λty=>
   aCL aKB Try.underlying3 (by decide) w n (by omega) hn (by omega) ty
  obtain ⟨G,cur,hG,hM,hc,hr0⟩:=key 22;have hG63:G≤9223372036854775807:=by unfold maxLen at hM;omega
  have HE:Hid (Own 3 aAe (w.drew.alloc (.cells cur 3)) w.heap.size (.slice (some ⟨w.heap.size,0,none⟩) 0 G) [] [w.heap.size]∧Below w.heap.size w (w.drew.alloc (.cells cur 3))):=
   ⟨⟨[],[],World.ownsRow_made w.drew cur G (bN _) hM hc,⟨rfl,rfl⟩,rfl,⟨by simp,by simp⟩⟩,((aCd 1 (Below.refl _ _):Below w.heap.size w (w.drewN 1))).alloc (bN _) _⟩
  clear key hM hc
  go_enter Try.func75,Try.ntmps75
  go_wp2_with (at_builtin;refine Lib.wpList_append_run _ rfl _ _ _ _ rfl _ _ rfl rfl _ _ hr0 ?_)
  all_goals (go_ret;exact ⟨_,rfl,HE.out.2,_,HE.out.1⟩)
def aEU (n:Int):Option (List Int):=bif (decide (0≤n)&&decide (n≤1048576)) then some [] else none
theorem aII {h:Hp} {k:Nat} :viewA h (.nil k) (.sc (.slice none 0 0)):=rfl
theorem aJN (n:Int) (r:List Int) (h:aEU n=some r):HasC Try.prog 75 [.sc (.slice none 0 0),.int n] (.list 1 (List.map eI r)):=by
 obtain ⟨q,h⟩:=cg h;obtain rfl:=so h;simp only [bZ,jE] at q;refine ⟨Enters.mk Try.func75 (by kernel_rfl) (by kernel_rfl),λw args S hargs=>?_⟩;obtain ⟨args⟩:=args;simp only [RepVs,RepD] at hargs;obtain ⟨v,r,S1,S2,h1,rfl,⟨rfl,_,rfl⟩,v2,r2,S3,S4,rfl,rfl,⟨rfl,_,rfl⟩,rfl,rfl⟩:=hargs;subst h1;have hc:=aIH n.toNat w (by omega);rw [show ((n.toNat:Nat):Int)=n by omega] at hc;refine hc.mono λe w' ⟨v,he,hb,S2,ho⟩=>?_;obtain ⟨g1,g2⟩:=aDH ho;exact ⟨v,S2,he,hb,g1,g2⟩
end
noncomputable section
structure HasT (P:Program) (f:FuncId) (ds:List AV) (hl:List (Nat×Blk)) (kp:Nat) (r:AV) (hl':List (Nat×Blk)):Prop where
 enters:Enters P f
 calls: ∀ (B:Nat) (M:Nat→Prop) (w:World) (args:Array Value) (ν:Nu) (φ:Nat→List Nat),(∀ x,M x→B≤x)→B≤w.heap.size→(∀ x,w.heap.size≤x→M x)→(∀ x,M x→ν.ok x)→All2 (RepA w (cV hl) (jF kp) ν) ds args.toList→HeapOk M w (cV hl) (jF kp) ν φ→
  Calls P f args w λe w'=> ∃ v u' ν' φ',e= .returned v∧Below B w w'∧ExtF (λx=> ¬ M x) w (cV hl) (jF kp) ν w' (cV hl') u' ν'∧HeapOk M w' (cV hl') u' ν' φ'∧RepA w' (cV hl') u' ν' r v
theorem aIJ {M:Nat→Prop} {w:World} {h:Hp} {u:Us} {ν:Nu} {φ:Nat→List Nat} (hh:HeapOk M w h u ν φ) {x:Nat} (hx: ¬ M x):iQ h ν x:=by
 intro b blk β c hb hν e;subst e;obtain ⟨_,g2,_,g4⟩:=hh.blk b blk hb;exact hx (g4 _ (fY g2 hν))
theorem ExtF.shrink {F:Nat→Prop} {w w':World} {h h' g:Hp} {u u':Us} {ν ν':Nu} (e:ExtF F w h u ν w' h' u' ν') (hg: ∀ b blk,g b=some blk→h' b=some blk):ExtF F w h u ν w' g u' ν':=
 ⟨e.used,λb blk hb hgb=>e.old b blk hb (hg b blk hgb),λx hx hf=>⟨(e.free x hx hf).1,λb blk β c hb hν=>(e.free x hx hf).2 b blk β c (hg b blk hb) hν⟩,e.okE⟩
theorem aIK {P:Program} {T:List (Nat×Ty)} (hT:TyOk P T) {f:FuncId} {fn:Func} {c:Code} {nt kp:Nat} {ds:List AV} {hl hl':List (Nat×Blk)} {r:AV} {rvs:List ResultVar} {ns:List Nat} (hf:P.funcs[f]? =some fn) (hb:fn.body=some c) (hname:(fn.name== "runtime.NumGoroutine")=false) (hnt:fn.ntmps=nt) (hres:fn.results.toList=rvs)
  (hlen:Nat.ble ds.length nt=true) (h:AC P nt c ⟨rI ds,cV hl,jF kp,ns,⟨kp,true,none,true⟩⟩ (λe t=> ∃ t',Ent t t'∧aKA T rvs r hl' e t')):HasT P f ds hl kp r hl':=by
 refine ⟨Enters.mk hf (by rw [hb];rfl) hname,λB M w args ν φ hMB hB hM hMo hargs hheap=>?_⟩;refine (callsIn_wide (n:=0)).1 (callsIn_of_wp_marks (F:=fw none) hf hb trivial ?_);have hlen':=Nat.le_of_ble_eq_true hlen;have hal:args.size=ds.length:=by have:=hargs.len;simpa using this
 let C:Ctx:=⟨B,w,nt,M,hMB,⟨kp,true,none,true⟩,w,cV hl,ν,λx=> ¬ M x,(λ_ x _ hm hn=>hn hm),(λ_ h=>by cases h),none,λ_=>rfl⟩
 have hsim:Sim C ⟨rI ds,cV hl,jF kp,ns,⟨kp,true,none,true⟩⟩ ν ⟨args++Array.replicate (fn.ntmps - args.size) undef,[]⟩ w:=by
  refine ⟨Below.refl _ _,hB,hM,kR,by show (args++Array.replicate (fn.ntmps - args.size) undef).size=nt;simp [hnt];omega,?_,⟨φ,hheap⟩,rfl,ExtF.refl λ_ _ h=>aIJ hheap h,bN _,hMo,λ_ h=>by cases h⟩;intro t x hx;have hx':ds[t]? =some x:=by rw [←uQ];exact hx
  obtain ⟨v,h1,h2⟩:=hargs.get hx';refine ⟨v,?_,h2⟩
  have hlt:t<args.size:=by
   rcases cM t args.size with h'|h'
   ·exact h'
   ·rw [dM (by simpa using h')] at h1;cases h1
  show (args++Array.replicate (fn.ntmps - args.size) undef)[t]? =some v;rw [Array.getElem?_append_left hlt];simpa using h1
 refine wpIn_mono (h.out C rfl _ _ w hsim 0) λe a' w0 ⟨s1,ν1,⟨s',hent,hq⟩,hs1⟩=>?_;obtain ⟨ν',hs0⟩:=hent C ν1 a' w0 hs1;obtain ⟨Ds,d1,d2,d3⟩:=hs0.defers;obtain ⟨w',hs',hleave⟩:=hs0.leave (P:=P) (n:=0) d1 d2 d3;obtain ⟨he,⟨avs,hv,hone⟩,hsame⟩:=hq;have hsub: ∀ b blk,cV hl' b=some blk→s'.heap b=some blk:=λb blk hb=>wA hsame (fB hb);obtain ⟨us,h1,h2⟩:=mD hT hs' hv;obtain ⟨φ',hh⟩:=hs'.heap
 have hrun:(results fn a'.tmps).run P w'= .ok (if hh:us.toArray.size=1 then us.toArray[0] else .tuple us.toArray) w':=by
  unfold results;rw [Sem.run_bind,Array.mapM_eq_mapM_toList,Sem.run_map,hres];have h1':=h1;generalize hq:(List.mapM _ rvs:Sem (List Value))=m;rw [show Sem.run P m w'= .ok us w' by rw [←hq];exact h1'];simp
 have shr:=(Ext.refl w' s'.heap s'.used ν').shrink hsub
 have hrep:RepA w' (cV hl') s'.used ν' r (if hh:us.toArray.size=1 then us.toArray[0] else .tuple us.toArray):=by
  rcases hone with rfl|⟨g1,g2,rfl⟩
  ·obtain ⟨u,q,rfl,k1,k2⟩:=h2;simp only [All2] at k2;subst k2;exact k1.ext shr
  ·have hul:us.length=avs.length:=h2.len;rw [dif_neg (by simp;rw [hul];exact g1)];refine ⟨us,rfl,h2.congrM λx hx v hr=>?_⟩;exact aGr (hr.ext shr) (List.all_eq_true.1 g2 x hx)
 have hend:=hleave fn (λe w'=> ∃ v u' ν' φ',e= .returned v∧Below B w w'∧ExtF (λx=> ¬ M x) w (cV hl) (jF kp) ν w' (cV hl') u' ν'∧HeapOk M w' (cV hl') u' ν' φ'∧RepA w' (cV hl') u' ν' r v)
  ⟨_,hrun,_,s'.used,ν',φ',rfl,hs'.below,hs'.ext.shrink hsub,hh.shrink hsub (λ_ _ _ _ h=>h),hrep⟩
 cases e <;> simp only [uJ,dK] at he <;> exact hend
structure SOps (P:Program) (ops:Array Oper) (nt:Nat) (l:List Oper) (s:AState) (K:AState→Prop):Prop where
 out: ∀ (C:Ctx),C.nt=nt→ ∀ (ν:Nu) (a:Act) (w:World),Sim C s ν a w→ ∀ (n:Nat) (Q:Exit→Act→World→Prop),(∀ s' ν' a' w',K s'→Sim C s' ν' a' w'→Q .normal a' w')→wpListIn (fw C.rd) n P ops Q l a w
section
variable {P:Program} {ops:Array Oper} {nt:Nat} {l:List Oper} {s:AState} {K:AState→Prop}
theorem aGv (h:K s):SOps P ops nt [] s K:=⟨λC hC ν a w hs n Q hQ=>hQ s ν a w h hs⟩
theorem jO {t:AState} (e:Ent s t) (h:SOps P ops nt l t K):SOps P ops nt l s K:=⟨λC hC ν a w hs n Q hQ=>by
 obtain ⟨ν',hs'⟩:=e C ν a w hs
 exact h.out C hC ν' a w hs' n Q hQ⟩
theorem aGw {d:Option Tmp} {op:Op} {ty:TypeId} {pos:String} {aft:Array Edge} {g:Option (Nat×Bool)} {e:Eff} (he:AEff P ⟨d,op,ty,pos,aft,g⟩ s.ev s.heap s.kp e) (hd:xS ⟨d,op,ty,pos,aft,g⟩ nt=true) (hg:gE ops s.env ⟨d,op,ty,pos,aft,g⟩=some true) (hn:(e.news.all λb=> !s.used b)=true)
  (h:SOps P ops nt l (s.app d e) K):SOps P ops nt (⟨d,op,ty,pos,aft,g⟩::l) s K:=⟨λC hC ν a w hs n Q hQ=>by
 subst hC;refine wpListIn_step λK' hK'=>?_;have hst:aBu P ops C.nt ⟨d,op,ty,pos,aft,g⟩ s e:=⟨uE hd,.inl ⟨hg,he,λb hb=>by have:=List.all_eq_true.1 hn b hb;simpa using this⟩⟩
 exact qF hst hs λν' a' w' hs'=>hK' _ _ (h.out C rfl ν' a' w' hs' n Q hQ)⟩
theorem aEV {Q:Exit→AState→Prop} {id:Nat} (h:SOps P l.toArray nt l s (Q .normal)):AC P nt (.region id l.toArray false) s Q:=by
 refine ⟨λC hC ν a w hs n=>?_⟩;exact wpIn_region_lit (h.out C hC ν a w hs n _ λs' ν' a' w' hq hs'=>⟨s',ν',hq,hs'⟩)
end
def df1:AV→Bool
 | .sc _=>true
 | .nil _=>true
 | .dead=>true
 | .own _ _ _=>true
 | .ptr _ _ _=>true
 |_=>false
def dfC:AV→Bool
 | .abs _ _=>true
 | .fn _ cs=>cs.all df1
 |x=>df1 x
def dfB:AV→Bool
 | .agg cs=>cs.all df1
 |x=>df1 x
def dfA:AV→Bool
 | .tuple cs=>cs.all dfB
 |x=>dfB x
section
variable {w w':World} {h h':Hp} {u u':Us} {ν ν':Nu} (U: ∀ b,u b=true→u' b=true) (O: ∀ b blk',u b=true→h' b=some blk'→ ∃ blk,h b=some blk∧blk.k=blk'.k∧blk.es.length=blk'.es.length∧ν' b=ν b)
include U O
theorem aCM: ∀ {x:AV} {v:Value},Rep1 w h u ν x v→df1 x=true→Rep1 w' h' u' ν' x v:=by
 intro x v r t;cases x <;> simp only [df1,dK] at t <;> simp only [Rep1] at r ⊢
 ·exact r
 ·exact r
 ·refine ⟨U _ r.1,λblk hb=>?_⟩;obtain ⟨blk0,e1,e2,e3,e4⟩:=O _ blk r.1 hb;have:=r.2 blk0 e1;rw [e4,←e3,←e2];exact this
 ·refine ⟨U _ r.1,λblk hb=>?_⟩;obtain ⟨blk0,e1,e2,e3,e4⟩:=O _ blk r.1 hb;have:=r.2 blk0 e1;rw [e4,←e2];exact this
end
section
variable {w w':World} {h h':Hp} {u u':Us} {ν ν':Nu} (U: ∀ b,u b=true→u' b=true) (O: ∀ b blk',u b=true→h' b=some blk'→ ∃ blk,h b=some blk∧blk.k=blk'.k∧blk.es.length=blk'.es.length∧ν' b=ν b)
include U O
theorem zR: ∀ {xs:List AV} {vs:List Value},All2 (Rep1 w h u ν) xs vs→xs.all df1=true→All2 (Rep1 w' h' u' ν') xs vs
 | [],vs,r,_=>r
 |x::xs,vs,⟨v,q,e,r,k⟩,t=>by
  simp only [List.all_cons,bZ] at t;exact ⟨v,q,e,aCM U O r t.1,zR k t.2⟩
theorem aFD {x:AV} {v:Value} (r:RepB w h u ν x v) (t:dfB x=true):RepB w' h' u' ν' x v:=by
 cases x <;> simp only [RepB] at r ⊢ <;> first
  |exact aCM U O r t
  |(obtain ⟨vs,e,r⟩:=r;exact ⟨vs,e,zR U O r t⟩)
  |(simp only [dfB,df1,dK] at t)
theorem aFE {x:AV} {v:Value} (r:RepA w h u ν x v) (t:dfA x=true):RepA w' h' u' ν' x v:=by
 by_cases ht: ∃ cs,x= .tuple cs
 ·obtain ⟨cs,rfl⟩:=ht;obtain ⟨vs,e,r⟩:=r;refine ⟨vs,e,r.congrM λy hy d hd=>aFD U O hd ?_⟩;exact List.all_eq_true.1 t y hy
 ·have r':RepB w h u ν x v:=by cases x <;> first|exact r|exact absurd ⟨_,rfl⟩ ht
  have t':dfB x=true:=by cases x <;> first|exact t|exact absurd ⟨_,rfl⟩ ht
  have:=aFD (w':=w') U O r' t';cases x <;> first|exact this|exact absurd ⟨_,rfl⟩ ht
theorem aIL {x:AV} {v:Value} {S:List Nat} (hk: ∀ b∈S,w'.heap[b]? =w.heap[b]?) (r:CellRep w h u ν x v S) (t:dfC x=true):CellRep w' h' u' ν' x v S:=by
 cases x <;> simp only [CellRep] at r ⊢ <;> first
  |exact ⟨aCM U O r.1 t,r.2⟩
  |(obtain ⟨⟨vs,e,q⟩,q2⟩:=r;exact ⟨⟨vs,e,zR U O q t⟩,q2⟩)
  |exact r.keep hk
  |exact r
theorem uT: ∀ {xs:List AV} {vs:List Value} {S:List Nat},(∀ b∈S,w'.heap[b]? =w.heap[b]?)→CellsRep w h u ν xs vs S→(∀ c∈xs,dfC c=true)→CellsRep w' h' u' ν' xs vs S
 | [],_,_,_,r,_=>r
 |x::xs,vs,S,hk,⟨v,q,S1,S2,e1,e2,r,k⟩,t=>by
  subst e2;exact ⟨v,q,S1,S2,e1,rfl,aIL U O (λb hb=>hk b (by simp [hb])) r (t x (by simp)),uT (λb hb=>hk b (by simp [hb])) k (λc hc=>t c (by simp [hc]))⟩
theorem aBL {b:Nat} {blk:Blk} {S:List Nat} (hν:ν' b=ν b) (hk: ∀ x∈S,w'.heap[x]? =w.heap[x]?) (r:BlkOk w h u ν b blk S) (t: ∀ cs∈blk.es,∀ c∈cs,dfC c=true):BlkOk w' h' u' ν' b blk S:=by
 refine ⟨r.1,?_⟩;rcases r.2 with ⟨q1,q2,q3⟩|⟨β,c,arr,ty,T,vs,q1,q2,q3,q4,q5,q6,q7,q8⟩
 ·exact .inl ⟨hν.trans q1,q2,q3⟩
 ·subst q6;refine .inr ⟨β,c,arr,ty,T,vs,hν.trans q1,(hk β (by simp)).trans q2,q3,q4,q5,rfl,q7,uT U O (λx hx=>hk x (by simp [hx])) q8 λc hc=>?_⟩;obtain ⟨cs,hcs,hc⟩:=List.mem_flatten.1 hc;exact t cs hcs c hc
end
section
variable {P:Program} {ops:Array Oper} {nt:Nat} {l:List Oper} {s:AState} {K:AState→Prop} {dst:Option Tmp} {ty:TypeId} {pos:String} {aft:Array Edge}
theorem aJO {fo:Operand} {xs:Array Operand} {ats:Array TypeId} {f:FuncId} {caps avs ds:List AV} {hl hl' hl2:List (Nat×Blk)} {kp n':Nat} {r r2:AV} {σ σ':Nat→Option Nat} {touch news:List Nat} {ed:List (Nat×Option Blk)}
  (hc:HasT P f ds hl kp r hl') (hf:s.ev fo=some (.fn f caps)) (hx:evs s.ev xs.toList=some avs) (hav:All2 (gY σ kp) (avs++caps) ds) (hh:gZ σ kp s.heap hl) (hi:qG σ hl=true) (yM:lY σ touch hl=true) (hlive:(touch.all λb=>(s.heap b).isSome)=true)
  (hh':gZ σ' n' (cV hl') hl2) (hi':qG σ' hl2=true) (hr:gY σ' n' r r2) (hbk:rN σ σ' kp news hl2=true) (htl:zN (touch++news) hl2) (htr:aBF (touch++news) r2=true) (he:lM (touch++news) hl2=ed)
  (hd:xS ⟨dst,.call ⟨.value fo,xs,ats⟩,ty,pos,aft,none⟩ nt=true) (hn:(news.all λb=> !s.used b)=true) (hT:s.kp.T=true) (hdf: ∀ t x,s.env t=some x→dfA x=true) (hdc: ∀ b blk,s.heap b=some blk→b ∉ touch++news→ ∀ cs∈blk.es,∀ c∈cs,dfC c=true)
  (h:SOps P ops nt l (s.app dst ⟨r2,touch,ed,news⟩) K):SOps P ops nt (⟨dst,.call ⟨.value fo,xs,ats⟩,ty,pos,aft,none⟩::l) s K:=⟨λC hC ν a w hs n0 Q hQ=>by
 subst hC;refine wpListIn_step λK' hK'=>?_;rw [aV (vQ hs (ops:=ops) (t:=true) rfl)];refine aIk (λc h=>by cases h) ?_;have hnw: ∀ b∈news,s.used b=false:=λb hb=>by have:=List.all_eq_true.1 hn b hb;simpa using this
 have hfn:=hs.ev hf;simp only [RepA,RepB] at hfn;obtain ⟨cv,hfv,hcap⟩:=hfn;have hval:=oJ hs (xs:=xs.toList) (λy hy=>rfl) hx;obtain ⟨φ,hφ⟩:=hs.heap;let h3:Hp:=λb=>if b∈touch then s.heap b else none
 have sub: ∀ b blk,h3 b=some blk→s.heap b=some blk∧b∈touch:=by
  intro b blk hb;by_cases e:b∈touch
  ·simp only [h3,aV e] at hb;exact ⟨hb,e⟩
  ·simp only [h3,aR e] at hb;cases hb
 let M2:Nat→Prop:=λx=>(∃ b,b∈touch∧s.heap b≠none∧x∈φ b)∨w.heap.size≤x
 have hM2: ∀ x,M2 x→C.M x:=by
  rintro x (⟨b,_,hb,hx⟩|hx)
  ·obtain ⟨blk,hb⟩:=Option.ne_none_iff_exists'.1 hb;exact (hφ.blk b blk hb).2.2.2 x hx
  ·exact hs.fresh x hx
 have hk3:HeapOk M2 w h3 s.used ν φ:=hφ.shrink (λb blk hb=>(sub b blk hb).1) (λb x hb hx _=>by
  obtain ⟨blk,hb⟩:=Option.ne_none_iff_exists'.1 hb;obtain ⟨e1,e2⟩:=sub b blk hb
  exact .inl ⟨b,e2,by rw [e1];simp,hx⟩)
 have hent:gZ σ kp h3 hl:=lL (h:=s.heap) (touch:=touch) (λb hb=>by simp only [h3,aV hb]) yM hh;have cv1:=oN (w:=w) (u:=s.used) (ν:=ν) hent hi;have hk4:=cv1.heap hk3;have shr3:Ext w s.heap s.used ν w h3 s.used ν:=(Ext.refl _ _ _ _).shrink (λb blk hb=>(sub b blk hb).1)
 have hargs:All2 (RepA w (cV hl) (jF kp) (eH σ ν)) ds (xs.toList.map a.eval++cv):=
  pP (R:=RepA w s.heap s.used ν) (Mt:=gY σ kp) (R':=RepA w (cV hl) (jF kp) (eH σ ν)) (λx y v hx hm=>cv1.rep (RepA.ext shr3 hx) hm) (hval.append (hcap.mono λx v h=>Rep1.repA h)) hav
 have hcall:=hc.calls C.B M2 w ((xs.map a.eval)++cv.toArray) (eH σ ν) _ (λx hx=>C.low x (hM2 x hx)) hs.base (λx hx=> .inr hx) (λx hx=>hs.okM x (hM2 x hx)) (by simpa using hargs) hk4;unfold Oper.wp
 have hex:(execOp a.eval ⟨dst,.call ⟨.value fo,xs,ats⟩,ty,pos,aft,none⟩).run P w= .ok (.enter f ((xs.map a.eval)++cv.toArray)) w:=by
  have:execOp a.eval ⟨dst,.call ⟨.value fo,xs,ats⟩,ty,pos,aft,none⟩=callFunc f ((xs.map a.eval)++cv.toArray):=by
   simp [execOp,resolve,hfv,Deferred.ofValue,invoke]
  rw [this];exact hc.enters _ _
 rw [hex];simp only [Oper.upon];refine hcall.mono λe w' ⟨v,u1,ν1,φ1,hev,hbel,hext,hh1,hrep⟩=>?_;subst hev;simp only;have cv2:=oN (w:=w') (u:=u1) (ν:=ν1) hh' hi';have hh2:=cv2.heap hh1;generalize hrl:touch++news=rl at*;let ν':Nu:=⟨λb=>if b∈rl then eH σ' ν1 b else ν b,ν.ok⟩;have hν1: ∀ b,b∈rl→ν' b=eH σ' ν1 b:=λb hb=>aV hb;have hν2: ∀ b,b ∉ rl→ν' b=ν b:=λb hb=>aR hb;have hheq: ∀ b,aC ed s.heap b=if b∈rl then cV hl2 b else s.heap b:=λb=>by rw [←he];exact rO
 have hhe1: ∀ b,b∈rl→aC ed s.heap b=cV hl2 b:=λb hb=>by rw [hheq,aV hb]
 have hhe2: ∀ b,b ∉ rl→aC ed s.heap b=s.heap b:=λb hb=>by rw [hheq,aR hb]
 have hused: ∀ b,b∈rl→cO news s.used b=true:=by
  intro b hb;rw [←hrl] at hb;rw [dI];rcases cF.1 hb with h|h
  ·have h5:=List.all_eq_true.1 hlive b h;cases hq:s.heap b with
   |none=>rw [hq] at h5;cases h5
   |some blk=>rw [(hφ.blk b blk hq).1,Bool.or_true]
  ·have:news.contains b=true:=by simpa using h
   rw [this,Bool.true_or]
 have U: ∀ b,s.used b=true→cO news s.used b=true:=λb hb=>by rw [dI,hb,Bool.or_true]
 have O: ∀ b blk',s.used b=true→aC ed s.heap b=some blk'→ ∃ blk,s.heap b=some blk∧blk.k=blk'.k∧blk.es.length=blk'.es.length∧ν' b=ν b:=by
  intro b blk' hu hb;by_cases e:b∈rl
  ·rw [hhe1 b e] at hb;obtain ⟨i,e1,e2⟩:=pO hbk (fB hb);obtain ⟨x,f1,f2,f3⟩:=(cv2.look b blk' hb).1 i e1;rcases e2 with e2|⟨e2,e3⟩
   ·rw [hnw b e2] at hu;cases hu
   ·obtain ⟨blk0,g1,g2,g3,g4⟩:=hext.old i x e2 f1;obtain ⟨z,k1,k2,k3⟩:=(cv1.look i blk0 g1).1 b e3;refine ⟨z,(sub b z k1).1,k2.trans (g2.trans f2),k3.trans (g3.trans f3),?_⟩;rw [hν1 b e];simp only [eH,e1];rw [g4];simp only [eH,e3]
  ·rw [hhe2 b e] at hb;exact ⟨blk',hb,rfl,rfl,hν2 b e⟩
 have hout: ∀ b blk x,s.heap b=some blk→b ∉ rl→x∈φ b→w'.heap[x]? =w.heap[x]? :=by
  intro b blk x hb hbr hx;refine (hext.free x ((hφ.blk b blk hb).2.1.lt x hx) ?_).1;rintro (⟨b2,e1,e2,e3⟩|e1)
  ·have hne:b2≠b:=by rintro rfl;exact hbr (by rw [←hrl];exact List.mem_append_left _ e1)
   exact hφ.apart b2 b x e2 (by rw [hb];simp) hne e3 hx
  ·have:=(hφ.blk b blk hb).2.1.lt x hx;omega
 have hcross: ∀ b c x,cV hl2 b≠none→s.heap c≠none→c ∉ rl→x∈(match σ' b with|some b0=>φ1 b0|none=>[])→x ∉ φ c:=by
  intro b c x hb hc' hcr hx hx2;obtain ⟨y1,hy1⟩:=Option.ne_none_iff_exists'.1 hb;obtain ⟨y2,hy2⟩:=Option.ne_none_iff_exists'.1 hc';rcases (hh2.blk b y1 hy1).2.2.2 x hx with ⟨b2,e1,e2,e3⟩|e1
  ·have hne:b2≠c:=by rintro rfl;exact hcr (by rw [←hrl];exact List.mem_append_left _ e1)
   exact hφ.apart b2 c x e2 hc' hne e3 hx2
  ·have:=(hφ.blk c y2 hy2).2.1.lt x hx2;omega
 have hdef:OkD C w' a.defers:=by
  obtain ⟨Ds,q1,q2,q3⟩:=hs.defers;refine ⟨Ds,q1,q2,λD hD=>?_⟩;obtain ⟨p1,p2,p3⟩:=q3 D hD;refine ⟨p1,p2,(hext.free D (dN p3) ?_).1.trans p3⟩;rintro (⟨b,e1,e2,e3⟩|e1)
  ·obtain ⟨blk,hb⟩:=Option.ne_none_iff_exists'.1 e2;obtain ⟨o,o1,o2⟩:=(hφ.blk b blk hb).2.1.inC D e3;rw [p3] at o1;cases o1;cases o2
  ·have:=dN p3;omega
 have hfin:Sim C (s.app dst ⟨r2,touch,ed,news⟩) ν' (a.put dst v) w':=by
  refine ⟨hs.below.trans hbel,Nat.le_trans hs.base hbel.size,λx hx=>hs.fresh x (Nat.le_trans hbel.size hx),by rw [yP];exact hdef,by rw [aCf];exact hs.size,?_,⟨λb=>if b∈rl then (match σ' b with|some b0=>φ1 b0|none=>[]) else φ b,?_,?_⟩,hs.kp,?_,Nat.le_trans hs.szE hbel.size,hs.okM,hs.okF⟩
  ·exact aEq hs.size (uE hd).1 (λt x h=>by obtain ⟨v,h1,h2⟩:=hs.env t x h;exact ⟨v,h1,aFE U O h2 (hdf t x h)⟩) (wC (h1:=cV hl2) (u1:=jF n') (ν1:=eH σ' ν1) hhe1 hν1 hused (cv2.rep hrep hr) htr)
  ·intro b blk' hb;replace hb:aC ed s.heap b=some blk':=hb;by_cases e:b∈rl
   ·rw [hhe1 b e] at hb;simp only [aV e];obtain ⟨_,g2,g3,g4⟩:=hh2.blk b blk' hb;exact ⟨hused b e,rP (h1:=cV hl2) (u1:=jF n') (ν1:=eH σ' ν1) hhe1 hν1 hused e g2 (sN htl (fB hb)).2,g3,λx hx=>hM2 x (g4 x hx)⟩
   ·rw [hhe2 b e] at hb;simp only [aR e];obtain ⟨g1,g2,g3,g4⟩:=hφ.blk b blk' hb;exact ⟨U b g1,aBL U O (hν2 b e) (λx hx=>hout b blk' x hb e hx) g2 (hdc b blk' hb e),g3,g4⟩
  ·intro b c x hb hc' hne hxb hxc;replace hb:aC ed s.heap b≠none:=hb;replace hc':aC ed s.heap c≠none:=hc';by_cases e1:b∈rl <;> by_cases e2:c∈rl
   ·simp only [aV e1] at hxb;simp only [aV e2] at hxc;rw [hhe1 b e1] at hb;rw [hhe1 c e2] at hc';exact hh2.apart b c x hb hc' hne hxb hxc
   ·simp only [aV e1] at hxb;simp only [aR e2] at hxc;rw [hhe1 b e1] at hb;rw [hhe2 c e2] at hc';exact hcross b c x hb hc' e2 hxb hxc
   ·simp only [aR e1] at hxb;simp only [aV e2] at hxc;rw [hhe2 b e1] at hb;rw [hhe1 c e2] at hc';exact hcross c b x hc' hb e1 hxc hxb
   ·simp only [aR e1] at hxb;simp only [aR e2] at hxc;rw [hhe2 b e1] at hb;rw [hhe2 c e2] at hc';exact hφ.apart b c x hb hc' hne hxb hxc
  ·refine ⟨λb hb=>U b (hs.ext.used b hb),λb blk' hb hl'=>?_,λx hx hF=>?_,hs.ext.okE⟩
   ·obtain ⟨y,g1,g2,g3,g4⟩:=O b blk' (hs.ext.used b hb) hl';obtain ⟨z,k1,k2,k3,k4⟩:=hs.ext.old b y hb g1;exact ⟨z,k1,k2.trans g2,k3.trans g3,g4.trans k4⟩
   ·obtain ⟨g1,g2⟩:=hs.ext.free x hx hF;have hm: ¬ M2 x:=λhm=>C.tm (by rw [←hs.kp];exact hT) x hx (hM2 x hm) hF;obtain ⟨p1,p2⟩:=hext.free x (lI hx g1) hm;refine ⟨p1.trans g1,λb blk β c hb hν=>?_⟩;replace hb:aC ed s.heap b=some blk:=hb;by_cases e:b∈rl
    ·rw [hhe1 b e] at hb;rw [hν1 b e] at hν;exact cv2.free x p2 b blk β c hb hν
    ·rw [hhe2 b e] at hb;rw [hν2 b e] at hν;exact g2 b blk β c hb hν
 exact hK' _ _ (h.out C rfl _ _ _ hfin n0 Q hQ)⟩
end
end
noncomputable section
theorem aDI {w:World} {h:Hp} {u:Us} {ν:Nu} : ∀ {cs:List AV} {vs:List Value} {S:List Nat},RepOV w cs vs S→CellsRep w h u ν (cs.map jN) vs S
 | [],vs,S,r=>by simp only [RepOV] at r;exact r
 |c::cs,vs,S,r=>by
  simp only [RepOV] at r;obtain ⟨v,q,S1,S2,e1,e2,_,h3,h4⟩:=r;refine ⟨v,q,S1,S2,e1,e2,?_,aDI h4⟩;cases c with
  |sc x=>simp only [RepO] at h3;exact ⟨⟨h3.1,h3.2.1⟩,h3.2.2⟩
  |list k es=>exact h3
  |_=>simp only [RepO] at h3
theorem aEW {k:Nat} {es:List (List AV)} (h: ∀ cs∈es,cs.length=k): ∀ cs∈dV es,cs.length=k:=by
 intro cs hcs;unfold dV at hcs;obtain ⟨d,hd,rfl⟩:=List.mem_map.1 hcs;rw [eY];exact h d hd
theorem zS (es:List (List AV)):(dV es).flatten=es.flatten.map jN:=by
 unfold dV;rw [List.map_flatten]
theorem aGy {s:AState} {b c i j k':Nat} {blk:Blk} {cs:List AV} {es':List (List AV)} (hT:s.kp.T=true) (hb:s.heap b=some blk) (hi:blk.es[i]? =some cs) (hj:cs[j]? =some (.abs k' es')) (hc:s.used c=false) (hdf: ∀ t x,s.env t=some x→dfA x=true) (hdc: ∀ b blk,s.heap b=some blk→ ∀ cs∈blk.es,∀ c∈cs,dfC c=true):
  Ent s ⟨s.env,aC [(c,some ⟨k',dV es'⟩),(b,some ⟨blk.k,blk.es.set i (cs.take j++[.own c 0 es'.length]++cs.drop (j+1))⟩)] s.heap,cO [c] s.used,s.ns,s.kp⟩:=by
 intro C ν a w hs;obtain ⟨φ,hh⟩:=hs.heap;obtain ⟨hub,⟨hk1,hx1⟩,hnd1,hB1⟩:=hh.blk b blk hb;have hne:b≠c:=by rintro rfl;rw [hub] at hc;cases hc
 have hcn:s.heap c=none:=hs.unused hc;have hcs:=hk1 cs (List.mem_of_getElem? hi)
 have hjl:j<cs.length:=by
  rcases cM j cs.length with h'|h'
  ·exact h'
  ·rw [dM h'] at hj;cases hj
 rcases hx1 with ⟨q1,q2,_⟩|⟨β,cap,arr,ty,T,vs,q1,q2,q3,q4,q5,q6,q7,q8⟩
 ·rw [q2] at hi;simp at hi
 have hdrop:blk.es.flatten.drop (i*blk.k+j)= .abs k' es'::blk.es.flatten.drop (i*blk.k+j+1):=by
  obtain ⟨r,hr⟩:=lJ hk1 hi;have h1:blk.es.flatten.drop (i*blk.k+j)=(cs++r).drop j:=by rw [←hr,List.drop_drop]
  have h2:blk.es.flatten.drop (i*blk.k+j+1)=(cs++r).drop (j+1):=by rw [←hr,List.drop_drop,Nat.add_assoc]
  rw [h1,h2,List.drop_append_of_le_length (by omega),List.drop_append_of_le_length (by omega),List.drop_eq_getElem_cons hjl];have:cs[j]= .abs k' es':=by simpa [hjl] using hj
  rw [this];rfl
 have hfl:blk.es.flatten=blk.es.flatten.take (i*blk.k+j)++([.abs k' es']++blk.es.flatten.drop (i*blk.k+j+1)):=by
  rw [List.singleton_append,←hdrop,List.take_append_drop]
 rw [hfl] at q8;obtain ⟨v1,v2,S1,S2,e1,e2,e3,e4,e5⟩:=q8.append_inv;obtain ⟨v3,v4,S3,S4,f1,f2,f3,f4,f5⟩:=e5.append_inv;subst f1 f2;obtain ⟨v,r0,S5,S6,rfl,rfl,g1,⟨rfl,rfl⟩⟩:=f4;simp only [CellRep] at g1;rw [List.append_nil] at e2;have hφ:φ b=β::(S1++(S5++S4)):=by rw [q6,e2]
 obtain ⟨νc,hνc⟩: ∃ νc:Option (Nat×Nat),(∀ (h:Hp) (u:Us) (ν':Nu),ν' c=νc→BlkOk w h u ν' c ⟨k',dV es'⟩ S5)∧(νc=none→v= .slice none 0 0)∧(∀ β' cap',νc=some (β',cap')→ownV β' 0 k' es'.length cap' v∧β'∈S5):=by
  simp only [RepO] at g1;rcases g1 with ⟨rfl,rfl,rfl⟩|⟨β',cap',arr',ty',T',vs',p1,p2,p3,p4,p5,p6,rfl,p8,p9⟩
  ·exact ⟨none,λh u ν' hν=>⟨by simp [dV],.inl ⟨hν,rfl,rfl⟩⟩,λ_=>rfl,λ_ _ e=>by cases e⟩
  ·have hl:(dV es').length=es'.length:=by simp [dV]
   refine ⟨some (β',cap'),λh u ν' hν=>⟨aEW p6,.inr ⟨β',cap',arr',ty',T',vs',hν,p2,p3,by show (dV es').length ≤cap';omega,p5,rfl,by show arr'.toList.take ((dV es').length *k')=vs';rw [hl];exact p8,?_⟩⟩,λe=>by (cases e),λx y e=>?_⟩
   ·show CellsRep w h u ν' (dV es').flatten vs' T';rw [zS];exact aDI (qC.1 p9)
   ·cases e;rw [p1];exact ⟨vO,by simp⟩
 obtain ⟨hB,hn0,hn1⟩:=hνc;let ν':Nu:=⟨λx=>if x=c then νc else ν x,ν.ok⟩;have hν1:ν' c=νc:=aV rfl;have hν2: ∀ x,x≠c→ν' x=ν x:=λx hx=>aR hx;have hl1:aC [(c,some ⟨k',dV es'⟩),(b,some ⟨blk.k,blk.es.set i (cs.take j++[.own c 0 es'.length]++cs.drop (j+1))⟩)] s.heap c=some ⟨k',dV es'⟩:=by simp [aC]
 have hl2:aC [(c,some ⟨k',dV es'⟩),(b,some ⟨blk.k,blk.es.set i (cs.take j++[.own c 0 es'.length]++cs.drop (j+1))⟩)] s.heap b=some ⟨blk.k,blk.es.set i (cs.take j++[.own c 0 es'.length]++cs.drop (j+1))⟩:=by simp [aC,aY hne]
 have hl3: ∀ x,x≠c→x≠b→aC [(c,some ⟨k',dV es'⟩),(b,some ⟨blk.k,blk.es.set i (cs.take j++[.own c 0 es'.length]++cs.drop (j+1))⟩)] s.heap x=s.heap x:=λx h1 h2=>by simp [aC,aY h1,aY h2]
 generalize hH:aC [(c,some ⟨k',dV es'⟩),(b,some ⟨blk.k,blk.es.set i (cs.take j++[.own c 0 es'.length]++cs.drop (j+1))⟩)] s.heap=H at*;have U: ∀ x,s.used x=true→cO [c] s.used x=true:=λx hx=>by rw [dI,hx,Bool.or_true]
 have O: ∀ x blk',s.used x=true→H x=some blk'→ ∃ y,s.heap x=some y∧y.k=blk'.k∧y.es.length=blk'.es.length∧ν' x=ν x:=by
  intro x blk' hu hx;have hxc:x≠c:=by rintro rfl;rw [hu] at hc;cases hc
  by_cases e:x=b
  ·subst e;rw [hl2] at hx;cases hx;exact ⟨blk,hb,rfl,by simp,hν2 _ hxc⟩
  ·rw [hl3 x hxc e] at hx;exact ⟨blk',hx,rfl,rfl,hν2 _ hxc⟩
 have hfl2: ∀ d∈blk.es.flatten,dfC d=true:=by
  intro d hd;obtain ⟨ds,h1,h2⟩:=List.mem_flatten.1 hd;exact hdc b blk hb ds h1 d h2
 refine ⟨ν',hs.below,hs.base,hs.fresh,hs.defers,hs.size,λt x hx=>by obtain ⟨v,h1,h2⟩:=hs.env t x hx;exact ⟨v,h1,aFE U O h2 (hdf t x hx)⟩,⟨λx=>if x=c then S5 else if x=b then β::(S1++S4) else φ x,?_,?_⟩,hs.kp,?_,hs.szE,hs.okM,hs.okF⟩
 ·intro x blk2 hx;replace hx:H x=some blk2:=hx;have hnd:=hnd1;rw [hφ] at hnd;have n1:=List.nodup_cons.1 hnd;have n2:=List.nodup_append.1 n1.2;have n3:=List.nodup_append.1 n2.2.1;by_cases e:x=c
  ·subst e;rw [hl1] at hx;cases hx;simp only [if_true];refine ⟨by rw [dI];simp,hB _ _ _ hν1,n3.1,λy hy=>hB1 y (by rw [hφ];simp [hy])⟩
  ·by_cases e0:x=b
   ·subst e0;rw [hl2] at hx;cases hx;simp only [aR e,if_true];refine ⟨U _ hub,⟨?_,.inr ⟨β,cap,arr,ty,S1++S4,vs,(hν2 _ e).trans q1,q2,q3,by simpa using q4,q5,rfl,by simpa using q7,?_⟩⟩,?_,?_⟩
    ·intro d hd;rcases List.mem_or_eq_of_mem_set hd with h|h
     ·exact hk1 d h
     ·rw [h];simp;omega
    ·rw [lV (n:=1) hk1 hi rfl (by omega),e1]
     have m1:CellsRep w H (cO [c] s.used) ν' [.own c 0 es'.length] [v] []:=by
      refine ⟨v,[],[],[],rfl,rfl,⟨⟨by rw [dI];simp,λblk3 h3=>?_⟩,rfl⟩,rfl,rfl⟩;rw [hl1] at h3;cases h3;refine ⟨by simp [dV],λh4=>hn0 (hν1.symm.trans h4),λβ' c' h4=>(hn1 β' c' (hν1.symm.trans h4)).1⟩
     have m2:=(uT (w':=w) (h':=H) (u':=cO [c] s.used) (ν':=ν') U O (λ_ _=>rfl) e4 (λd hd=>hfl2 d (List.mem_of_mem_take hd))).append (m1.append (uT (w':=w) (h':=H) (u':=cO [c] s.used) (ν':=ν') U O (λ_ _=>rfl) f5 (λd hd=>hfl2 d (List.mem_of_mem_drop hd))));rw [List.append_assoc (List.take (i*blk.k+j) blk.es.flatten)];simpa using m2
    ·refine List.nodup_cons.2 ⟨λhm=>n1.1 ?_,List.nodup_append.2 ⟨n2.1,n3.2.1,λy hy z hz=>n2.2.2 y hy z (by simp [hz])⟩⟩;rcases cF.1 hm with h|h <;> simp [h]
    ·intro y hy;refine hB1 y ?_;rw [hφ];rcases bW.1 hy with rfl|h
     ·simp
     ·rcases cF.1 h with h|h <;> simp [h]
   ·rw [hl3 x e e0] at hx;simp only [aR e,aR e0];obtain ⟨p1,p2,p3,p4⟩:=hh.blk x blk2 hx;exact ⟨U _ p1,aBL U O (hν2 _ e) (λ_ _=>rfl) p2 (hdc x blk2 hx),p3,p4⟩
 ·have hnd:=hnd1;rw [hφ] at hnd;have n1:=List.nodup_cons.1 hnd;have n2:=List.nodup_append.1 n1.2;have n3:=List.nodup_append.1 n2.2.1;have hbn:s.heap b≠none:=by rw [hb];simp
  have hS5: ∀ y,y∈S5→y∈φ b:=λy hy=>by rw [hφ];simp [hy]
  have hSb: ∀ y,y∈β::(S1++S4)→y∈φ b:=λy hy=>by
   rw [hφ];rcases bW.1 hy with rfl|h
   ·simp
   ·rcases cF.1 h with h|h <;> simp [h]
  have hcb: ∀ y,y∈S5→y ∉ β::(S1++S4):=by
   intro y h5 hy;rcases bW.1 hy with rfl|h
   ·exact n1.1 (by simp [h5])
   ·rcases cF.1 h with h|h
    ·exact n2.2.2 y h y (by simp [h5]) rfl
    ·exact n3.2.2 y h5 y h rfl
  intro x1 x2 y hx1 hx2 hne2 hy1 hy2;replace hx1:H x1≠none:=hx1;replace hx2:H x2≠none:=hx2;replace hy1:y∈(if x1=c then S5 else if x1=b then β::(S1++S4) else φ x1):=hy1;replace hy2:y∈(if x2=c then S5 else if x2=b then β::(S1++S4) else φ x2):=hy2;by_cases a1:x1=c <;> by_cases a2:x2=c
  ·exact hne2 (a1.trans a2.symm)
  ·rw [aV a1] at hy1;rw [aR a2] at hy2;by_cases b2:x2=b
   ·rw [aV b2] at hy2;exact hcb y hy1 hy2
   ·rw [aR b2] at hy2;rw [hl3 x2 a2 b2] at hx2;exact hh.apart b x2 y hbn hx2 (Ne.symm b2) (hS5 y hy1) hy2
  ·rw [aR a1] at hy1;rw [aV a2] at hy2;by_cases b1:x1=b
   ·rw [aV b1] at hy1;exact hcb y hy2 hy1
   ·rw [aR b1] at hy1;rw [hl3 x1 a1 b1] at hx1;exact hh.apart b x1 y hbn hx1 (Ne.symm b1) (hS5 y hy2) hy1
  ·rw [aR a1] at hy1;rw [aR a2] at hy2;by_cases b1:x1=b <;> by_cases b2:x2=b
   ·exact hne2 (b1.trans b2.symm)
   ·rw [aV b1] at hy1;rw [aR b2] at hy2;rw [hl3 x2 a2 b2] at hx2;exact hh.apart b x2 y hbn hx2 (Ne.symm b2) (hSb y hy1) hy2
   ·rw [aR b1] at hy1;rw [aV b2] at hy2;rw [hl3 x1 a1 b1] at hx1;exact hh.apart b x1 y hbn hx1 (Ne.symm b1) (hSb y hy2) hy1
   ·rw [aR b1] at hy1;rw [aR b2] at hy2;rw [hl3 x1 a1 b1] at hx1;rw [hl3 x2 a2 b2] at hx2;exact hh.apart x1 x2 y hx1 hx2 hne2 hy1 hy2
 ·refine ⟨λx hx=>U x (hs.ext.used x hx),λx blk' hx hl'=>?_,λx hx hF=>?_,hs.ext.okE⟩
  ·obtain ⟨y,g1,g2,g3,g4⟩:=O x blk' (hs.ext.used x hx) hl';obtain ⟨z,k1,k2,k3,k4⟩:=hs.ext.old x y hx g1;exact ⟨z,k1,k2.trans g2,k3.trans g3,g4.trans k4⟩
  ·obtain ⟨g1,g2⟩:=hs.ext.free x hx hF;refine ⟨g1,λb2 blk2 β2 c2 hb2 h2 e=>?_⟩;replace hb2:H b2=some blk2:=hb2;by_cases a1:b2=c
   ·subst a1;rw [hν1] at h2;subst e;exact C.tm (by rw [←hs.kp];exact hT) β2 hx (hB1 β2 (by rw [hφ];simp [(hn1 _ _ h2).2])) hF
   ·rw [hν2 _ a1] at h2;by_cases a2:b2=b
    ·subst a2;exact g2 b2 blk β2 c2 hb h2 e
    ·rw [hl3 b2 a1 a2] at hb2;exact g2 b2 blk2 β2 c2 hb2 h2 e
end
noncomputable section
def Raw1 (κ:Kp) (x d:AV):Prop:= ∃ W G v S,κ.fx=some (W,G)∧x= .sc v∧RepD W d v S∧ ∀ b∈S,G b
def RawK (κ:Kp):AV→AV→Prop
 | .agg xs,.agg ds=>All2 (Raw1 κ) xs ds
 |x,d=>Raw1 κ x d
theorem Sim.stays {C:Ctx} {s:AState} {ν:Nu} {a:Act} {w:World} (hs:Sim C s ν a w) {κ:Kp} (hκ:s.kp=κ) {W:World} {G:Nat→Prop} (h:κ.fx=some (W,G)) {b:Nat} (hb:G b):w.heap[b]? =W.heap[b]? ∧eJ s.heap ν b:=by
 obtain ⟨e1,e2⟩:=C.fxp (W,G) (by rw [←hs.kp,hκ];exact h);obtain ⟨e3,e4⟩:=e2 b hb;obtain ⟨e5,e6⟩:=hs.ext.free b e3 e4;rw [e1] at e5;exact ⟨e5,e6,hs.okF (W,G) (by rw [←hs.kp,hκ];exact h) b hb⟩
theorem Raw1.rep {C:Ctx} {s:AState} {ν ν':Nu} {a:Act} {w:World} {h:Hp} {u:Us} (hs:Sim C s ν a w) {κ:Kp} (hκ:s.kp=κ) {x d:AV} {v:Value} (r:Rep1 w h u ν' x v) (m:Raw1 κ x d): ∃ S',RepD w d v S':=by
 obtain ⟨W,G,y,S,h1,rfl,h2,h3⟩:=m;rw [r.1];exact ⟨S,h2.keep λb hm=>(hs.stays hκ h1 (h3 b hm)).1⟩
theorem RawK.rep {C:Ctx} {s:AState} {ν:Nu} {a:Act} {w:World} (hs:Sim C s ν a w) {κ:Kp} (hκ:s.kp=κ) {x d:AV} {v:Value} (r:RepA w s.heap s.used ν x v) (m:RawK κ x d): ∃ S',RepD w d v S':=by
 by_cases ho: ∃ xs ds,x= .agg xs∧d= .agg ds
 ·obtain ⟨xs,ds,rfl,rfl⟩:=ho;obtain ⟨vs,rfl,r⟩:=r;obtain ⟨S,h⟩:=lK (V:=Raw1 κ) (λx d v hr hm=>hm.rep hs hκ hr) r m;exact ⟨S,by simp only [RepD];exact ⟨vs,rfl,h⟩⟩
 ·have m':Raw1 κ x d:=by
   cases x <;> first|exact m|(cases d <;> first|exact m|exact absurd ⟨_,_,rfl,rfl⟩ ho)
  obtain ⟨W,G,y,S,h1,rfl,h2,h3⟩:=m';exact Raw1.rep (h:=s.heap) (u:=s.used) (ν':=ν) (x:= .sc y) hs hκ (show Rep1 w s.heap s.used ν (.sc y) v from r) ⟨W,G,y,S,h1,rfl,h2,h3⟩
def xF (W:World):Option (World×(Nat→Prop)):=some (W,λx=>x<W.heap.size)
theorem nO {κ:Kp} {W:World} {d:AV} {v:Value} {S:List Nat} (h:κ.fx=xF W) (r:RepD W d v S):Raw1 κ (.sc v) d:=⟨W,_,v,S,h,rfl,r,r.lt⟩
theorem uU {κ:Kp} {W:World} {u:Value} (h:κ.fx=xF W) (o:u.oneCell'=true):Raw1 κ (.sc u) (.sc u):=nO h (qH o)
theorem uV {κ:Kp} :RawK κ (.agg []) (.agg []):=rfl
theorem fM {κ:Kp} {x d:AV} {xs ds:List AV} (a:Raw1 κ x d) (b:RawK κ (.agg xs) (.agg ds)):RawK κ (.agg (x::xs)) (.agg (d::ds)):=⟨d,ds,rfl,a,b⟩
def pR (κ:Kp) (h:Hp) (x d:AV):Prop:=viewA h x d∨RawK κ x d
theorem kZ {κ:Kp} {h:Hp} :All2 (pR κ h) [] []:=rfl
theorem fC {κ:Kp} {h:Hp} {x d:AV} {xs ds:List AV} (a:pR κ h x d) (b:All2 (pR κ h) xs ds):All2 (pR κ h) (x::xs) (d::ds):=⟨d,ds,rfl,a,b⟩
theorem zT {R:AV→Value→Prop} {V:AV→AV→Prop} {w:World} (hr: ∀ x d v,R x v→V x d→ ∃ S',RepD w d v S') {xs ds:List AV} {vs:List Value} (r:All2 R xs vs) (m:All2 V xs ds): ∃ S',RepVs w ds vs S':=lK hr r m
section
variable {P:Program} {dst:Option Tmp} {ty:TypeId} {pos:String} {aft:Array Edge} {g:Option (Nat×Bool)} {ins:Operand→Option AV} {hp:Hp} {κ:Kp}
theorem aBM {fo:Operand} {xs:Array Operand} {ats:Array TypeId} {f:FuncId} {avs ds:List AV} {r x:AV} {nb:List (Nat×Blk)} {ns ns':List Nat} (hf:ins fo=some (.fn f [])) (hx:evs ins xs.toList=some avs) (hc:HasC P f ds r) (hv1:All2 (pR κ hp) avs ds) (hg:xD r)
  (hi:aEG ns r=(x,nb,ns')) (hfl:aCv x=true) (hn:ns.Nodup):
  AEff P ⟨dst,.call ⟨.value fo,xs,ats⟩,ty,pos,aft,g⟩ ins hp κ ⟨x,avs.flatMap (jH hp),hN nb,nb.map (·.1)⟩:=by
 refine ⟨λC s ν a w Q K {hκ} hi' ht hnw hd hs hK=>?_⟩;have h1:=hs.ev ((hi' fo (by simp [Op.operands,Call.operands])).trans hf);simp only [RepA,RepB] at h1;obtain ⟨cv,h1,h2⟩:=h1;simp only [All2] at h2;subst h2;obtain ⟨φ,hh⟩:=hs.heap;have h3:=oJ hs (xs:=xs.toList) (λy hy=>hi' y (by simp [Op.operands,Call.operands];exact .inr (Array.mem_toList_iff.1 hy))) hx;have hv1':All2 (pR κ s.heap) avs ds:=hv1.congrM λy hy d hd=>hd.elim (λhd=> .inl (hd.congr λb hb=>ht b (List.mem_flatMap.2 ⟨y,hy,hb⟩))) .inr;obtain ⟨S1,e1⟩:=zT (V:=pR κ s.heap) (λx d v hr hv=>hv.elim (λhv=>viewA.rep hh hr hv) (λhv=>hv.rep hs hκ hr)) h3 hv1';have hcall:=hc.calls w (xs.map a.eval) S1 (by simpa using e1);unfold Oper.wp
 have hex:(execOp a.eval ⟨dst,.call ⟨.value fo,xs,ats⟩,ty,pos,aft,g⟩).run P w= .ok (.enter f (xs.map a.eval)) w:=by
  have:execOp a.eval ⟨dst,.call ⟨.value fo,xs,ats⟩,ty,pos,aft,g⟩=callFunc f (xs.map a.eval):=by
   simp [execOp,resolve,h1,Deferred.ofValue,invoke]
  rw [this];exact hc.enters _ _
 rw [hex];simp only [Oper.upon];refine hcall.mono λe w' ⟨v,S',he,hb,hr,hnew⟩=>?_;subst he;simp only;obtain ⟨g1,X,Sf,g2,g3⟩:=aEx (w:=w) hi hfl hr hg hnew.1 hn;have hnn:(nb.map (·.1)).Nodup:=by rw [g1] at hn;exact (List.nodup_append.1 hn).1
 obtain ⟨ν',hs'⟩:=hs.call hd hb g2 hnew hnn (λb hb=>hnw b hb) g3 (touch:=avs.flatMap (jH hp));exact hK ν' _ _ hs'
end
section
variable {P:Program} {dst:Option Tmp} {ty:TypeId} {pos:String} {aft:Array Edge} {g:Option (Nat×Bool)} {s:AState}
theorem lO {f:FuncId} {xs:Array Operand} {ats:Array TypeId} {avs ds:List AV} {u:Value} (hc:HasC P f ds (.sc u)) (hx:evs s.ev xs.toList=some avs) (hv1:All2 (pR s.kp s.heap) avs ds):
  AEff P ⟨dst,.call ⟨.value (.func f),xs,ats⟩,ty,pos,aft,g⟩ s.ev s.heap s.kp ⟨.sc u,avs.flatMap (jH s.heap),[],[]⟩:=
 aBM (ns:=[]) (nb:=[]) (r:= .sc u) (x:= .sc u) rfl hx hc hv1 trivial (aBz [] u) rfl (by simp)
theorem aDJ {f:FuncId} {xs:Array Operand} {ats:Array TypeId} {avs ds:List AV} {r x:AV} {nb:List (Nat×Blk)} {ns':List Nat} (hc:HasC P f ds r) (hx:evs s.ev xs.toList=some avs) (hi:aEG s.ns r=(x,nb,ns')) (hfl:aCv x=true) (hn:oW s.ns=true) (hg:xD r) (hv1:All2 (pR s.kp s.heap) avs ds):
  AEff P ⟨dst,.call ⟨.value (.func f),xs,ats⟩,ty,pos,aft,g⟩ s.ev s.heap s.kp ⟨x,avs.flatMap (jH s.heap),hN nb,nb.map (·.1)⟩:=
 aBM rfl hx hc hv1 hg hi hfl (pI hn)
end
def zU (w:World):List AV→(List AV→Prop)→Prop
 | [],K=>K []
 | .sc u::cs,K=>zU w cs (λxs=>K (.sc u::xs))
 |d::cs,K=> ∀ v S,RepD w d v S→zU w cs (λxs=>K (.sc v::xs))
def qO (w:World):List AV→(List AV→Prop)→Prop
 | [],K=>K []
 | .sc u::ds,K=>qO w ds (λxs=>K (.sc u::xs))
 | .agg cs::ds,K=>zU w cs (λxs=>qO w ds (λys=>K (.agg xs::ys)))
 |d::ds,K=> ∀ v S,RepD w d v S→qO w ds (λxs=>K (.sc v::xs))
theorem aDK {w:World} {K:List AV→Prop} (h:K []):zU w [] K:=h
theorem aFF {w:World} {u:Value} {cs:List AV} {K:List AV→Prop} (h:zU w cs (λxs=>K (.sc u::xs))):zU w (.sc u::cs) K:=h
theorem aCN {w:World} {k:Nat} {es:List (List AV)} {cs:List AV} {K:List AV→Prop} (h: ∀ v S,RepD w (.list k es) v S→zU w cs (λxs=>K (.sc v::xs))):zU w (.list k es::cs) K:=h
theorem aDL {w:World} {K:List AV→Prop} (h:K []):qO w [] K:=h
theorem aDM {w:World} {xs cs:List AV} {K:List AV→Prop} (h:zU w xs (λxs=>qO w cs (λys=>K (.agg xs::ys)))):qO w (.agg xs::cs) K:=h
def aGz:AV→Bool
 | .sc u=>u.oneCell'
 | .agg cs=>cs.all fH
 | .list _ _=>true
 |_=>false
theorem aDN {w:World} {d:AV} {v:Value} {S:List Nat} (r:RepD w d v S) (ok:fH d=true):v.oneCell'=true:=by
 cases d <;> simp only [fH,dK] at ok <;> simp only [RepD] at r
 ·rw [r.1];exact ok
 ·obtain ⟨a,c,rfl,_⟩:=r;rfl
theorem aFG {w:World} : ∀ {cs:List AV} {us:List Value} {S:List Nat} {K:List AV→Prop},RepVs w cs us S→cs.all fH=true→zU w cs K→ ∃ xs,K xs∧ ∀ (w':World) (h:Hp) (u:Us) (ν:Nu),All2 (Rep1 w' h u ν) xs us
 | [],us,S,K,r,_,k=>by simp only [RepVs] at r;obtain ⟨rfl,_⟩:=r;exact ⟨[],k,λ_ _ _ _=>rfl⟩
 |c::cs,us,S,K,r,ok,k=>by
  simp only [RepVs] at r;obtain ⟨v,q,S1,S2,rfl,rfl,h3,h4⟩:=r;simp only [List.all_cons,bZ] at ok
  have key: ∀ x,zU w cs (λxs=>K (x::xs))→x= .sc v→ ∃ xs,K xs∧ ∀ (w':World) (h:Hp) (u:Us) (ν:Nu),All2 (Rep1 w' h u ν) xs (v::q):=by
   rintro x k1 rfl;obtain ⟨xs,g1,g2⟩:=aFG h4 ok.2 k1;exact ⟨.sc v::xs,g1,λw' h u ν=>⟨v,q,rfl,⟨rfl,aDN h3 ok.1⟩,g2 w' h u ν⟩⟩
  cases c <;> simp only [fH,dK,false_and] at ok
  ·simp only [RepD] at h3;exact key _ k (by rw [h3.1])
  ·exact key _ (k v S1 h3) rfl
theorem aBN {w:World} : ∀ {ds:List AV} {vs:List Value} {S:List Nat} {K:List AV→Prop},RepVs w ds vs S→ds.all aGz=true→qO w ds K→ ∃ xs,K xs∧xs.length=ds.length∧ ∀ (h:Hp) (u:Us) (ν:Nu),All2 (RepA w h u ν) xs vs
 | [],vs,S,K,r,_,k=>by simp only [RepVs] at r;obtain ⟨rfl,_⟩:=r;exact ⟨[],k,rfl,λ_ _ _=>rfl⟩
 |d::ds,vs,S,K,r,ok,k=>by
  simp only [RepVs] at r;obtain ⟨v,q,S1,S2,rfl,rfl,h3,h4⟩:=r;simp only [List.all_cons,bZ] at ok
  have key: ∀ x,qO w ds (λxs=>K (x::xs))→(∀ (h:Hp) (u:Us) (ν:Nu),RepA w h u ν x v)→ ∃ xs,K xs∧xs.length=(d::ds).length∧ ∀ (h:Hp) (u:Us) (ν:Nu),All2 (RepA w h u ν) xs (v::q):=by
   intro x k1 hx;obtain ⟨xs,g1,g2,g3⟩:=aBN h4 ok.2 k1;exact ⟨x::xs,g1,by simp [g2],λh u ν=>⟨v,q,rfl,hx h u ν,g3 h u ν⟩⟩
  cases d <;> simp only [aGz,dK,false_and] at ok
  ·simp only [RepD] at h3;exact key _ k λh u ν=>by simp only [RepA,RepB,Rep1];exact ⟨h3.1,h3.2.1⟩
  ·exact key _ (k v S1 h3) λh u ν=>(show Rep1 w h u ν (.sc v) v from ⟨rfl,aDN h3 rfl⟩)
  ·have h3':=h3;simp only [RepD] at h3';obtain ⟨us,rfl,h5⟩:=h3';obtain ⟨xs,g1,g2⟩:=aFG h5 ok.1 k;exact key _ g1 λh u ν=>by simp only [RepA,RepB];exact ⟨us,rfl,g2 w h u ν⟩
theorem aDO {P:Program} {T:List (Nat×Ty)} (hT:TyOk P T) {f:FuncId} {fn:Func} {c:Code} {nt:Nat} {ds:List AV} {r:AV} {rvs:List ResultVar} {ns:List Nat} (hf:P.funcs[f]? =some fn) (hb:fn.body=some c) (hname:(fn.name== "runtime.NumGoroutine")=false) (hnt:fn.ntmps=nt) (hres:fn.results.toList=rvs)
  (hlen:Nat.ble ds.length nt=true) (hok:ds.all aGz=true) (h: ∀ W:World,qO W ds λxs=>AC P nt c ⟨rI xs,cV [],jF 0,ns,⟨0,true,xF W,true⟩⟩ (rE T rvs r)):HasC P f ds r:=by
 refine ⟨Enters.mk hf (by rw [hb];rfl) hname,λw args S hargs=>?_⟩;refine (callsIn_wide (n:=0)).1 (callsIn_of_wp_marks (F:=fw none) hf hb trivial ?_);have hlen':=Nat.le_of_ble_eq_true hlen;have hal:args.size=ds.length:=by have:=hargs.len;simpa using this
 obtain ⟨xs,hac,hxl,hxr⟩:=aBN hargs hok (h w);let C:Ctx:=⟨w.heap.size,w,nt,λx=>w.heap.size≤x,λ_ h=>h,⟨0,true,xF w,true⟩,w,cV [],Nu.none,λx=>x<w.heap.size,λ_ x hx hm=>absurd hx (Nat.not_lt.2 hm),(λp h=>by cases h;exact ⟨rfl,λx hx=>⟨hx,hx⟩⟩),none,λ_=>rfl⟩;have hfr: ∀ x,iQ (cV []) Nu.none x:=λx b blk β c hb=>by cases hb
 have hsim:Sim C ⟨rI xs,cV [],jF 0,ns,⟨0,true,xF w,true⟩⟩ Nu.none ⟨args++Array.replicate (fn.ntmps - args.size) undef,[]⟩ w:=by
  refine ⟨Below.refl _ _,bN _,λ_ hx=>hx,kR,by show (args++Array.replicate (fn.ntmps - args.size) undef).size=nt;simp [hnt];omega,?_,⟨λ_=>[],λb blk hb=>(by cases hb),λb c x hb=>absurd rfl hb⟩,rfl,ExtF.refl λx _ _=>hfr x,bN _,λ_ _=>trivial,λ_ _ _ _=>trivial⟩;intro t x hx;have hx':xs[t]? =some x:=by rw [←uQ];exact hx
  obtain ⟨v,h1,h2⟩:=(hxr (cV []) (jF 0) Nu.none).get hx';refine ⟨v,?_,h2⟩
  have hlt:t<args.size:=by
   rcases cM t args.size with h'|h'
   ·exact h'
   ·rw [dM (by simpa using h')] at h1;cases h1
  show (args++Array.replicate (fn.ntmps - args.size) undef)[t]? =some v;rw [Array.getElem?_append_left hlt];simpa using h1
 refine wpIn_mono (hac.out C rfl _ _ w hsim 0) λe a' w0 ⟨s',ν',hq,hs0⟩=>?_;obtain ⟨Ds,d1,d2,d3⟩:=hs0.defers;obtain ⟨w',hs',hleave⟩:=hs0.leave (P:=P) (n:=0) d1 d2 d3;obtain ⟨he,avs,hv,hn,hfz⟩:=hq;obtain ⟨us,h1,h2⟩:=mD hT hs' hv;obtain ⟨φ,hh⟩:=hs'.heap;have hn':=pI hn
 have hrun:(results fn a'.tmps).run P w'= .ok (if hh:us.toArray.size=1 then us.toArray[0] else .tuple us.toArray) w':=by
  unfold results;rw [Sem.run_bind,Array.mapM_eq_mapM_toList,Sem.run_map,hres];have h1':=h1;generalize hq:(List.mapM _ rvs:Sem (List Value))=m;rw [show Sem.run P m w'= .ok us w' by rw [←hq];exact h1'];simp
 have hres2: ∃ S',aCr w' r (if hh:us.toArray.size=1 then us.toArray[0] else .tuple us.toArray) S'∧New w.heap.size S':=by
  have hul:us.length=avs.length:=h2.len;unfold aBx at hfz;split at hfz
  ·rename_i v r';obtain ⟨u,q,rfl,g1,g2⟩:=h2;simp only [All2] at g2;subst g2;simp only [List.flatMap_cons,List.flatMap_nil,List.append_nil] at hn';obtain ⟨S',a1,a2,a3,a4⟩:=zJ hh g1 hfz.1 hn';refine ⟨S',?_,a2,a3⟩;simp only [List.size_toArray,List.length_cons,List.length_nil,Nat.zero_add,dite_true];have hnt:=hfz.2;cases r <;> first|exact a1|exact absurd rfl (hnt _)
  ·rename_i vs rs _;obtain ⟨S',a1,a2,a3,a4⟩:=vU hh h2 hfz.2 hn';refine ⟨S',?_,a2,a3⟩;rw [dif_neg (by simp;rw [hul];exact hfz.1)];exact ⟨us,rfl,a1⟩
  ·exact hfz.elim
 obtain ⟨S',hr1,hr2⟩:=hres2;have hend:=hleave fn (λe w'=> ∃ v S',e= .returned v∧Below w.heap.size w w'∧aCr w' r v S'∧New w.heap.size S') ⟨_,hrun,_,S',rfl,hs'.below,hr1,hr2⟩;cases e <;> simp only [uJ,dK] at he <;> exact hend
def dfE:List (Nat×AV)→Prop
 | []=>True
 |(_,x)::r=>dfA x=true∧dfE r
theorem zV: ∀ {l:List (Nat×AV)},dfE l→ ∀ t x,rD l t=some x→dfA x=true
 | [],_,t,x,h=>by cases h
 |(k,v)::r,⟨h1,h2⟩,t,x,h=>by
  simp only [rD] at h;cases hb:Nat.beq t k with
  |true=>rw [hb] at h;cases h;exact h1
  |false=>rw [hb] at h;exact zV h2 t x h
def dfR (y:Blk):Prop:= ∀ cs∈y.es,∀ c∈cs,dfC c=true
def dfH (skip:List Nat):List (Nat×Blk)→Prop
 | []=>True
 |(b,y)::r=>(b∈skip∨dfR y)∧dfH skip r
theorem zW {skip:List Nat} : ∀ {l:List (Nat×Blk)},dfH skip l→ ∀ b blk,cV l b=some blk→b ∉ skip→ ∀ cs∈blk.es,∀ c∈cs,dfC c=true
 | [],_,b,x,h=>by cases h
 |(k,v)::r,⟨h1,h2⟩,b,x,h=>by
  simp only [cV] at h;by_cases e:b=k
  ·subst e;rw [aX] at h;cases h;intro hn;exact h1.elim (λh=>absurd h hn) id
  ·rw [aY e] at h;exact zW h2 b x h
theorem EOk.df {α:Type} {k:Nat} {e:α→List AV} (E:EOk k e) (k':Nat) (l:List α):dfR ⟨k',l.map (ow e)⟩:=by
 intro cs hcs c hc;obtain ⟨x,_,rfl⟩:=List.mem_map.1 hcs;obtain ⟨d,hd,rfl⟩:=List.mem_map.1 hc;have:=E.mem x d hd;cases d <;> simp only [fH,dK] at this <;> rfl
theorem EOk.dfS {α:Type} {k:Nat} {e:α→List AV} (E:EOk k e) (k':Nat) (l:List α) (i:Nat) {c:List AV} (h:c.all dfC=true):dfR ⟨k',(l.map (ow e)).set i c⟩:=by
 intro cs hcs d hd;rcases List.mem_or_eq_of_mem_set hcs with h1|rfl
 ·exact E.df k' l cs h1 d hd
 ·exact List.all_eq_true.1 h d hd
theorem aEX {k:Nat} {es:List (List AV)} (h:(es.all λcs=>cs.all dfC)=true):dfR ⟨k,es⟩:=λcs hcs c hc=>List.all_eq_true.1 (List.all_eq_true.1 h cs hcs) c hc
theorem zX {α:Type} {e:α→List AV} {l:List α} {i:Nat} {v:α} (h:l[i]? =some v):l.map (ow e)=(l.map (ow e)).set i (ow e v):=by
 rw [←List.map_set];congr 1;refine List.ext_getElem? λj=>?_;rw [List.getElem?_set];by_cases e:i=j
 ·subst e
  have:i<l.length:=by
   rcases cM i l.length with h'|h'
   ·exact h'
   ·rw [dM h'] at h;cases h
  rw [aV rfl,aV this,h]
 ·rw [aR e]
theorem wF {α:Type} {k:Nat} {e:α→List AV} (E:EOk k e) {l:List α} {i:Nat} {c:List AV} (h:c.all jM=true):oH ((l.map (ow e)).set i c):=by
 intro cs hcs d hd;rcases List.mem_or_eq_of_mem_set hcs with h1|rfl
 ·exact E.plainO l cs h1 d hd
 ·exact List.all_eq_true.1 h d hd
theorem wG {s:AState} {b c i j k k' n:Nat} {A es' fs:List (List AV)} {cs:List AV} (hi:i<A.length) (hT:s.kp.T=true) (hb:s.heap b=some ⟨k,A.set i cs⟩) (hj:cs[j]? =some (.abs k' es')) (hc:s.used c=false) (hn:es'.length=n) (hfs:dV es'=fs) (hdf: ∀ t x,s.env t=some x→dfA x=true) (hdc: ∀ b blk,s.heap b=some blk→b ∉ ([]:List Nat)→ ∀ cs∈blk.es,∀ c∈cs,dfC c=true):
  Ent s ⟨s.env,aC [(c,some ⟨k',fs⟩),(b,some ⟨k,A.set i (rF cs j [.own c 0 n])⟩)] s.heap,cO [c] s.used,s.ns,s.kp⟩:=by
 subst hn hfs
 have hjl:j<cs.length:=by
  rcases cM j cs.length with h'|h'
  ·exact h'
  ·rw [dM h'] at hj;cases hj
 have h:=aGy (c:=c) hT hb (i:=i) (cs:=cs) (by simp [hi]) hj hc hdf (λb blk hb=>hdc b blk hb (by simp));have e:=sI (cs:=cs) (j:=j) (vs:=[.own c 0 es'.length]) (by simp;omega);simp only [List.length_singleton] at e;rw [e] at h;simp only [List.set_set] at h;exact h
theorem aJP {α:Type} {k:Nat} {e:α→List AV} {hp:Hp} {b i n:Nat} {l:List α} (E:EOk k e) (hb:hp b=some ⟨k,l.map (ow e)⟩):kS hp (.own b i n)=some (k,((l.drop i).take n).map e,[b]):=by
 simp only [kS,hb,←List.map_drop,←List.map_take];rw [aGn E]
section
variable {P:Program} {ops:Array Oper} {nt:Nat} {l:List Oper} {s:AState} {K:AState→Prop}
theorem iH {t u:Bool} (i:Nat) (hi:s.env i=some (.sc (.bool t))) (q:t=u) (h:SOps P ops nt l ⟨yO (some i) (.sc (.bool u)) s.env,s.heap,s.used,s.ns,s.kp⟩ K):SOps P ops nt l s K:=by
 subst q;rw [aDB hi] at h;exact h
theorem cA {d:Option Tmp} {op:Op} {ty:TypeId} {pos:String} {aft:Array Edge} {g:Option (Nat×Bool)} (hg:gE ops s.env ⟨d,op,ty,pos,aft,g⟩=some false) (hd:xS ⟨d,op,ty,pos,aft,g⟩ nt=true) (h:SOps P ops nt l ⟨yO d (.tuple []) s.env,s.heap,s.used,s.ns,s.kp⟩ K):SOps P ops nt (⟨d,op,ty,pos,aft,g⟩::l) s K:=⟨λC hC ν a w hs n Q hQ=>by
 subst hC;refine wpListIn_step λK' hK'=>?_;have hst:aBu P ops C.nt ⟨d,op,ty,pos,aft,g⟩ s oD:=⟨uE hd,.inr ⟨hg,rfl⟩⟩
 exact qF hst hs λν' a' w' hs'=>hK' _ _ (h.out C rfl ν' a' w' hs' n Q hQ)⟩
end
end
noncomputable section
theorem k {α:Sort _} {a:α} :a=a:=rfl
section
variable {P:Program} {ops:Array Oper} {nt:Nat} {r:List Oper} {s:AState} {tr:List Tr} {K:List Tr→AState→Prop} {K':AState→Prop}
def opB (ops:Array Oper) (nt:Nat) (s:AState) (o:Oper) (news:List Nat):Bool:=xS o nt&&((match gE ops s.env o with|some true=>true|_=>false)&&news.all λb=> !s.used b)
theorem wH {o:Oper} {news:List Nat} (h:opB ops nt s o news=true):xS o nt=true∧gE ops s.env o=some true∧(news.all λb=> !s.used b)=true:=by
 simp only [opB,bZ] at h;obtain ⟨h1,h2,h3⟩:=h;refine ⟨h1,?_,h3⟩;split at h2
 ·assumption
 ·cases h2
theorem ae {d:Option Tmp} {op:Op} {ty:TypeId} {pos:String} {aft:Array Edge} {g:Option (Nat×Bool)} {e:Eff} (he:AEff P ⟨d,op,ty,pos,aft,g⟩ s.ev s.heap s.kp e) (hb:opB ops nt s ⟨d,op,ty,pos,aft,g⟩ e.news=true) (h:AOps P ops nt r (s.app d e) (pF e::tr) K):AOps P ops nt (⟨d,op,ty,pos,aft,g⟩::r) s tr K:=
 aH he (wH hb).1 (wH hb).2.1 (wH hb).2.2 h
theorem se {d:Option Tmp} {op:Op} {ty:TypeId} {pos:String} {aft:Array Edge} {g:Option (Nat×Bool)} {e:Eff} (he:AEff P ⟨d,op,ty,pos,aft,g⟩ s.ev s.heap s.kp e) (hb:opB ops nt s ⟨d,op,ty,pos,aft,g⟩ e.news=true) (h:SOps P ops nt r (s.app d e) K'):SOps P ops nt (⟨d,op,ty,pos,aft,g⟩::r) s K':=
 aGw he (wH hb).1 (wH hb).2.1 (wH hb).2.2 h
theorem am {d:Option Tmp} {ty:TypeId} {pos:String} {aft:Array Edge} {g:Option (Nat×Bool)} {x:Operand} {v:AV} (hx:s.ev x=some v) (hb:opB ops nt s ⟨d,.move x,ty,pos,aft,g⟩ []=true) (h:AOps P ops nt r (s.app d ⟨v,[],[],[]⟩) (pF ⟨v,[],[],[]⟩::tr) K):AOps P ops nt (⟨d,.move x,ty,pos,aft,g⟩::r) s tr K:=ae (cK hx) hb h
theorem aa {d:Option Tmp} {ty:TypeId} {pos:String} {aft:Array Edge} {g:Option (Nat×Bool)} {x:Operand} {v:AV} (hx:s.ev x=some v) (hb:opB ops nt s ⟨d,.assign x,ty,pos,aft,g⟩ []=true) (h:AOps P ops nt r (s.app d ⟨v,[],[],[]⟩) (pF ⟨v,[],[],[]⟩::tr) K):AOps P ops nt (⟨d,.assign x,ty,pos,aft,g⟩::r) s tr K:=ae (dH hx) hb h
theorem an (h:K tr s):AOps P ops nt [] s tr K:=dE h
theorem sn (h:K' s):SOps P ops nt [] s K':=aGv h
variable {Q:Exit→AState→Prop}
theorem sQ {x y:Code} (h:AC P nt x s (oG (λs'=>AC P nt y s' Q) Q)):AC P nt (.seq x y) s Q:=fK h
theorem rg {id:Nat} {l:List Oper} (h:AOps P l.toArray nt l s [] (λ_ s'=>Q .normal s')):AC P nt (.region id l.toArray false) s Q:=cQ h
theorem zY {id:Nat} {l:List Oper} (h:SOps P l.toArray nt l s (Q .normal)):AC P nt (.region id l.toArray false) s Q:=aEV h
theorem tn (h:K' s):oG K' Q .normal s:=h
end
theorem ak {P:Program} {ops:Array Oper} {nt:Nat} {r:List Oper} {s:AState} {tr:List Tr} {K:List Tr→AState→Prop} {d:Option Tmp} {op:Op} {ty:TypeId} {pos:String} {aft:Array Edge} {g:Option (Nat×Bool)} (hg:gE ops s.env ⟨d,op,ty,pos,aft,g⟩=some false) (hd:xS ⟨d,op,ty,pos,aft,g⟩ nt=true) (h:AOps P ops nt r ⟨yO d (.tuple []) s.env,s.heap,s.used,s.ns,s.kp⟩ (⟨[],[]⟩::tr) K):AOps P ops nt (⟨d,op,ty,pos,aft,g⟩::r) s tr K:=aAs hg hd h
section
variable {σ:Nat→Option Nat} {n b b0 k:Nat} {h:Hp} {r:List (Nat×Blk)}
theorem hB {y:Blk} (hp:oH y.es) (hs:σ b=some b0) (hb:h b0=some y) (hn:Nat.blt b n=true) (hr:gZ σ n h r):gZ σ n h ((b,y)::r):=by
 simp only [gZ];rw [hs];exact ⟨⟨y,hb,rfl,.inl ⟨rfl,hp⟩⟩,hn,hr⟩
theorem hX {y:Blk} (hm:match σ b with|some b0=> ∃ x,h b0=some x∧tG σ n x y|none=>y.es=[]) (hn:Nat.blt b n=true) (hr:gZ σ n h r):gZ σ n h ((b,y)::r):=⟨hm,hn,hr⟩
end
theorem aKm {P:Program} {T:List (Nat×Ty)} (hT:TyOk P T) {dst:Option Tmp} {pos:String} {aft:Array Edge} {g:Option (Nat×Bool)} {s:AState} {x:Operand} {t e k:Nat} {y:Ty} {dty:TypeId} {α:Type} {f:α→List AV} {l:List α} (hx:s.ev x=some (.list k (List.map f l))) (hy:cI T t=some y) (hd:y.desc= .slice e):
  AEff P ⟨dst,.call ⟨.builtin .len,#[x],#[t]⟩,dty,pos,aft,g⟩ s.ev s.heap s.kp ⟨.int l.length,[],[],[]⟩:=AEff.val (nM hT hx hy hd) (by rw [eY])
theorem lA {α:Type} {a b:List α} :(a++b).length=a.length+b.length:=List.length_append
theorem lT {α:Type} {a:List α} {i:Nat} {x:α} :(a.set i x).length=a.length:=List.length_set
theorem lR {α:Type} {n:Nat} {x:α} :(List.replicate n x).length=n:=List.length_replicate
theorem lC {α:Type} {a:α} {b:List α} :(a::b).length=b.length+1:=List.length_cons
theorem lN {α:Type} :([]:List α).length=0:=List.length_nil
theorem aHA:([]:List AV).all kV=true:=rfl
theorem yH {d:AV} {ds:List AV} (h1:kV d=true) (h2:ds.all kV=true):(d::ds).all kV=true:=by
 rw [List.all_cons,h1,h2];rfl
end
end Go.Proofs.Ytpppcfhgaehcjaa

/-
  Several texts of the claim in one.
-/
import Derived.Laws.BytesString
import Derived.Test.YtilpfdokmlanjaaGreatG13
set_option linter.unusedVariables false
set_option linter.unusedSimpArgs false
namespace Go.Proofs.YtilpfdokmlanjaaGreat
open Go.RowKit
noncomputable section
theorem aRr {s:AState} {b b' i j n k':Nat} {blk:Blk} {cs:List AV} {es':List (List AV)} (hb:s.heap b=some blk) (hi:blk.es[i]? =some cs) (hj:cs[j]? =some (.own b' 0 n)) (hne:Nat.beq b b'=false) (hv:view1 s.heap (.own b' 0 n) (.list k' es')):
  Ent s ⟨s.env,bB [(b',none),(b,some ⟨blk.k,blk.es.set i (cs.take j++[.list k' es']++cs.drop (j+1))⟩)] s.heap,s.used,s.ns,s.kp⟩:=by
 have hjl:j<cs.length:=by
  rcases eD j cs.length with h'|h'
  ·exact h'
  ·rw [gB h'] at hj;cases hj
 intro C ν a w hs;have hne':b≠b':=by rintro rfl;simp at hne
 obtain ⟨φ,hh⟩:=hs.heap;obtain ⟨hub,⟨hk1,hx1⟩,hnd1,hB1⟩:=hh.blk b blk hb;have hcs:=hk1 cs (List.mem_of_getElem? hi);rcases hx1 with ⟨q1,q2,_⟩|⟨β,c,arr,ty,T,vs,q1,q2,q3,q4,q5,q6,q7,q8⟩
 ·rw [q2] at hi;simp at hi
 ·have hext:Ext w s.heap s.used ν w (bB [(b',none),(b,some ⟨blk.k,blk.es.set i (cs.take j++[.list k' es']++cs.drop (j+1))⟩)] s.heap) s.used ν:=by
   refine ⟨λ_ h=>h,λb2 blk2 _ hb2=>?_,λx hx hfr=>⟨rfl,λb2 blk2 β2 c2 hb2 hν2=>?_⟩,rfl⟩
   ·simp only [bB] at hb2;by_cases e:b2=b'
    ·subst e;rw [bY] at hb2;cases hb2
    ·rw [cB e] at hb2;by_cases e2:b2=b
     ·subst e2;simp only [aX,bY,aM,Option.some.injEq] at hb2;subst hb2;exact ⟨blk,hb,rfl,by simp,rfl⟩
     ·rw [cB e2] at hb2;exact ⟨blk2,hb2,rfl,rfl,rfl⟩
   ·simp only [bB] at hb2;by_cases e:b2=b'
    ·subst e;rw [bY] at hb2;cases hb2
    ·rw [cB e] at hb2;by_cases e2:b2=b
     ·subst e2;exact hfr b2 blk β2 c2 hb hν2
     ·rw [cB e2] at hb2;exact hfr b2 blk2 β2 c2 hb2 hν2
  have hdrop:blk.es.flatten.drop (i*blk.k+j)= .own b' 0 n::blk.es.flatten.drop (i*blk.k+j+1):=by
   obtain ⟨r,hr⟩:=xF hk1 hi;have h1:blk.es.flatten.drop (i*blk.k+j)=(cs++r).drop j:=by rw [←hr,List.drop_drop]
   have h2:blk.es.flatten.drop (i*blk.k+j+1)=(cs++r).drop (j+1):=by rw [←hr,List.drop_drop,Nat.add_assoc]
   rw [h1,h2,List.drop_append_of_le_length (by omega),List.drop_append_of_le_length (by omega),List.drop_eq_getElem_cons hjl];have:cs[j]= .own b' 0 n:=by simpa [hjl] using hj
   rw [this];rfl
  have hfl:blk.es.flatten=blk.es.flatten.take (i*blk.k+j)++([.own b' 0 n]++blk.es.flatten.drop (i*blk.k+j+1)):=by
   rw [List.singleton_append,←hdrop,List.take_append_drop]
  rw [hfl] at q8;obtain ⟨v1,v2,S1,S2,e1,e2,e3,e4,e5⟩:=q8.append_inv;obtain ⟨v3,v4,S3,S4,f1,f2,f3,f4,f5⟩:=e5.append_inv;subst f1 f2;obtain ⟨v,r0,S5,S6,rfl,rfl,g1,⟨rfl,rfl⟩⟩:=f4;simp only [CellRep] at g1;obtain ⟨g2,rfl⟩:=g1;obtain ⟨⟨S',d1,d2⟩,_⟩:=view1.repF hh g2 hv
  have hfree: ∀ y∈S',jR (bB [(b',none),(b,some ⟨blk.k,blk.es.set i (cs.take j++[.list k' es']++cs.drop (j+1))⟩)] s.heap) ν y:=by
   intro y hy;rcases d2 y hy with ⟨b0,b1,b2,b3⟩|hf
   ·simp only [xG,List.mem_singleton] at b1;subst b1;refine ⟨λc2 blk2 β2 c3 hc hν e=>?_,?_⟩
    ·subst e;simp only [bB] at hc;by_cases e:c2=b0
     ·subst e;rw [bY] at hc;cases hc
     ·rw [cB e] at hc;simp only [aX] at hc;by_cases e2:c2=b
      ·subst e2;exact hh.apart c2 b0 β2 (by rw [hb];simp) b2 e (by rw [q1] at hν;cases hν;rw [q6];simp) b3
      ·rw [cB e2] at hc;simp only [aX] at hc;exact hh.apart c2 b0 β2 (by rw [hc];simp) b2 e (mZ (hh.blk c2 blk2 hc).2.1 hν) b3
    ·obtain ⟨blk3,hbl⟩:=Option.ne_none_iff_exists'.1 b2;exact hs.okM y ((hh.blk b0 blk3 hbl).2.2.2 y b3)
   ·exact ⟨(hext.free y (d1.lt y hy) hf.1).2,hf.2⟩
  have hφ:φ b=β::(S1++S4):=by rw [q6,e2];simp
  refine ⟨ν,hs.below,hs.base,hs.fresh,hs.defers,hs.size,λt x hx=>by obtain ⟨v,h1,h2⟩:=hs.env t x hx;exact ⟨v,h1,h2.ext hext⟩,⟨φ,?_,?_⟩,hs.kp,hs.ext.trans hext,hs.szE,hs.okM,hs.okF⟩
  ·intro x blk2 hx;simp only [bB] at hx;by_cases e:x=b'
   ·subst e;rw [bY] at hx;cases hx
   ·rw [cB e] at hx;by_cases e0:x=b
    ·subst e0;simp only [aX,bY,aM,Option.some.injEq] at hx;subst hx;refine ⟨hub,⟨?_,.inr ⟨β,c,arr,ty,S1++S4,vs,q1,q2,q3,by simpa using q4,q5,hφ,by simpa using q7,?_⟩⟩,hnd1,hB1⟩
     ·intro d hd;rcases List.mem_or_eq_of_mem_set hd with h|h
      ·exact hk1 d h
      ·rw [h];simp;omega
     ·rw [vM (n:=1) hk1 hi rfl (by omega),e1];have m1:CellsRep w (bB [(b',none),(x,some ⟨blk.k,blk.es.set i (cs.take j++[.list k' es']++cs.drop (j+1))⟩)] s.heap) s.used ν [.list k' es'] [v] []:=⟨v,[],[],[],rfl,rfl,⟨⟨S',d1,hfree⟩,rfl⟩,rfl,rfl⟩;have m2:=(e4.ext hext (λ_ _=>rfl)).append (m1.append (f5.ext hext (λ_ _=>rfl)));rw [List.append_assoc (List.take (i*blk.k+j) blk.es.flatten)];simpa using m2
    ·rw [cB e0] at hx;obtain ⟨p1,p2,p3,p4⟩:=hh.blk x blk2 hx;exact ⟨p1,p2.ext hext rfl (λ_ _=>rfl),p3,p4⟩
  ·have hsub: ∀ x,bB [(b',none),(b,some ⟨blk.k,blk.es.set i (cs.take j++[.list k' es']++cs.drop (j+1))⟩)] s.heap x≠none→s.heap x≠none:=by
    intro x hx;have hxb':x≠b':=by rintro rfl;simp [bB] at hx
    simp only [bB,cB hxb',aX] at hx;by_cases e0:x=b
    ·subst e0;rw [hb];simp
    ·rw [cB e0] at hx;exact hx
   intro x1 x2 y hx1 hx2 hne2 hy1 hy2;exact hh.apart x1 x2 y (hsub x1 hx1) (hsub x2 hx2) hne2 hy1 hy2
theorem aJS {s:AState} {b b' i j n k':Nat} {blk:Blk} {cs:List AV} {es':List (List AV)} (hb:s.heap b=some blk) (hi:blk.es[i]? =some cs) (hj:cs[j]? =some (.own b' 0 n)) (hne:Nat.beq b b'=false) (hv:view1 s.heap (.own b' 0 n) (.list k' es')):
  Ent s ⟨s.env,bB [(b',none),(b,some ⟨blk.k,blk.es.set i (aCC cs j [.list k' es'])⟩)] s.heap,s.used,s.ns,s.kp⟩:=by
 have hjl:j<cs.length:=by
  rcases eD j cs.length with h'|h'
  ·exact h'
  ·rw [gB h'] at hj;cases hj
 rw [←aCh (by simp;omega)];exact aRr hb hi hj hne hv
end
noncomputable section
theorem aTf {P:Program} {T:List (Nat×Ty)} (hT:TyOk P T) {f:FuncId} {fn:Func} {c:Code} {nt:Nat} {ds:List AV} {r:AV} {rvs:List ResultVar} {ns:List Nat} (hf:P.funcs[f]? =some fn) (hb:fn.body=some c) (hname:(fn.name== "runtime.NumGoroutine")=false) (hnt:fn.ntmps=nt) (hres:fn.results.toList=rvs)
  (hlen:Nat.ble ds.length nt=true) (hok:ds.all aQS=true) (h: ∀ W:World,qL W ds λxs=>AC P nt c ⟨aCf xs,fR [],rE 0,ns,⟨0,true,rB W,false⟩⟩ (tW T rvs r)):HasC P f ds r:=by
 refine ⟨Enters.mk hf (by rw [hb];rfl) hname,λw args S hargs=>?_⟩;refine (callsIn_wide (n:=0)).1 (callsIn_of_wp_marks (F:=fw none) hf hb trivial ?_);have hlen':=Nat.le_of_ble_eq_true hlen;have hal:args.size=ds.length:=by have:=hargs.len;simpa using this
 obtain ⟨xs,hac,hxl,hxr⟩:=aGd hargs hok (h w);let C:Ctx:=⟨w.heap.size,w,nt,λx=>w.heap.size≤x,λ_ h=>h,⟨0,true,rB w,false⟩,w,fR [],Nu.none,λx=>x<w.heap.size,λ_ x hx hm=>absurd hx (Nat.not_lt.2 hm),(λp h=>by cases h;exact ⟨rfl,λx hx=>⟨hx,hx⟩⟩),none,λ_=>rfl⟩;have hfr: ∀ x,sD (fR []) Nu.none x:=λx b blk β c hb=>by cases hb
 have hsim:Sim C ⟨aCf xs,fR [],rE 0,ns,⟨0,true,rB w,false⟩⟩ Nu.none ⟨args++Array.replicate (fn.ntmps - args.size) undef,[]⟩ w:=by
  refine ⟨Below.refl _ _,bO _,λ_ hx=>hx,tB,by show (args++Array.replicate (fn.ntmps - args.size) undef).size=nt;simp [hnt];omega,?_,⟨λ_=>[],λb blk hb=>(by cases hb),λb c x hb=>absurd rfl hb⟩,rfl,ExtF.refl λx _ _=>hfr x,bO _,λ_ _=>trivial,λ_ _ _ _=>trivial⟩;intro t x hx;have hx':xs[t]? =some x:=by rw [←aDP];exact hx
  obtain ⟨v,h1,h2⟩:=(hxr (fR []) (rE 0) Nu.none).get hx';refine ⟨v,?_,h2⟩
  have hlt:t<args.size:=by
   rcases eD t args.size with h'|h'
   ·exact h'
   ·rw [gB (by simpa using h')] at h1;cases h1
  show (args++Array.replicate (fn.ntmps - args.size) undef)[t]? =some v;rw [Array.getElem?_append_left hlt];simpa using h1
 refine wpIn_mono (hac.out C rfl _ _ w hsim 0) λe a' w0 ⟨s',ν',hq,hs0⟩=>?_;obtain ⟨Ds,d1,d2,d3⟩:=hs0.defers;obtain ⟨w',hs',hleave⟩:=hs0.leave (P:=P) (n:=0) d1 d2 d3;obtain ⟨he,avs,hv,hn,hfz⟩:=hq;obtain ⟨us,h1,h2⟩:=xN hT hs' hv;obtain ⟨φ,hh⟩:=hs'.heap;have hn':=yU hn
 have hrun:(results fn a'.tmps).run P w'= .ok (if hh:us.toArray.size=1 then us.toArray[0] else .tuple us.toArray) w':=by
  unfold results;rw [Sem.run_bind,Array.mapM_eq_mapM_toList,Sem.run_map,hres];have h1':=h1;generalize hq:(List.mapM _ rvs:Sem (List Value))=m;rw [show Sem.run P m w'= .ok us w' by rw [←hq];exact h1'];simp
 have hres2: ∃ S',aIe w' r (if hh:us.toArray.size=1 then us.toArray[0] else .tuple us.toArray) S'∧New w.heap.size S':=by
  have hul:us.length=avs.length:=h2.len;unfold aIh at hfz;split at hfz
  ·rename_i v r';obtain ⟨u,q,rfl,g1,g2⟩:=h2;simp only [All2] at g2;subst g2;simp only [List.flatMap_cons,List.flatMap_nil,List.append_nil] at hn';obtain ⟨S',a1,a2,a3,a4⟩:=aFV hh g1 hfz.1 hn';refine ⟨S',?_,a2,a3⟩;simp only [List.size_toArray,List.length_cons,List.length_nil,Nat.zero_add,dite_true];have hnt:=hfz.2;cases r <;> first|exact a1|exact absurd rfl (hnt _)
  ·rename_i vs rs _;obtain ⟨S',a1,a2,a3,a4⟩:=aDr hh h2 hfz.2 hn';refine ⟨S',?_,a2,a3⟩;rw [dif_neg (by simp;rw [hul];exact hfz.1)];exact ⟨us,rfl,a1⟩
  ·exact hfz.elim
 obtain ⟨S',hr1,hr2⟩:=hres2;have hend:=hleave fn (λe w'=> ∃ v S',e= .returned v∧Below w.heap.size w w'∧aIe w' r v S'∧New w.heap.size S') ⟨_,hrun,_,S',rfl,hs'.below,hr1,hr2⟩;cases e <;> simp only [aCB,fJ] at he <;> exact hend
theorem aQm {w:World} {h:Hp} {u:Us} {ν:Nu} {a:Act} : ∀ {ts:List Nat} {ds:List AV},ts.length=ds.length→ts.Nodup→(∀ t x,qG (List.zip ts ds) t=some x→ ∃ v,a.tmps[t]? =some v∧RepA w h u ν x v)→
  ∃ vs,All2 (RepA w h u ν) ds vs∧All2 (λt v=>a.tmps[t]? =some v) ts vs
 | [],[],_,_,_=>⟨[],rfl,rfl⟩
 | [],d::ds,hl,_,_=>by simp at hl
 |k::ts,[],hl,_,_=>by simp at hl
 |k::ts,d::ds,hl,hn,h0=>by
  obtain ⟨n1,n2⟩:=List.nodup_cons.1 hn;obtain ⟨v,h1,h2⟩:=h0 k d (by simp only [List.zip_cons_cons,qG,bY,aM])
  obtain ⟨vs,h3,h4⟩:=aQm (w:=w) (h:=h) (u:=u) (ν:=ν) (a:=a) (ts:=ts) (ds:=ds) (by simpa using hl) n2 λt x hx=>by
   have hne:t≠k:=by
    rintro rfl;have:=aDJ hx;exact n1 (List.of_mem_zip this).1
   refine h0 t x ?_;simp only [List.zip_cons_cons,qG,cB hne,aX];exact hx
  exact ⟨v::vs,⟨v,vs,rfl,h2,h3⟩,⟨v,vs,rfl,h1,h4⟩⟩
theorem aQn {R:AV→Value→Prop} {a:Act} : ∀ {ts:List Nat} {xs:List AV} {vs:List Value},All2 R xs vs→All2 (λt v=>a.tmps[t]? =some v) ts vs→ ∀ t x,qG (List.zip ts xs) t=some x→ ∃ v,a.tmps[t]? =some v∧R x v
 | [],xs,vs,_,_,t,x,h=>by cases h
 |k::ts,[],vs,_,_,t,x,h=>by cases h
 |k::ts,y::xs,vs,h1,h2,t,x,h=>by
  simp only [All2] at h1 h2;obtain ⟨v,r,rfl,g1,g2⟩:=h1;obtain ⟨v',r',e,g3,g4⟩:=h2;cases e;simp only [List.zip_cons_cons,qG] at h;by_cases e:t=k
  ·subst e;rw [bY] at h;simp only [aM,Option.some.injEq] at h;subst h;exact ⟨v,g3,g1⟩
  ·rw [cB e] at h;exact aQn g2 g4 t x h
def aFB:AV→Bool
 | .sc _=>true
 | .agg cs=>cs.all jI
 | .list _ _=>true
 | .ref _=>true
 |_=>false
theorem aNw {w:World} {bs cs:List AV} {K:List AV→Prop} (h: ∀ v S,RepD w (.ref bs) v S→qL w cs (λxs=>K (.sc v::xs))):qL w (.ref bs::cs) K:=h
theorem aRs {w:World} {d:AV} {v:Value} {S:List Nat} (r:RepD w d v S) (ok: ∃ cs,d= .ref cs):v.oneCell'=true:=by
 obtain ⟨cs,rfl⟩:=ok;simp only [RepD] at r;obtain ⟨b,o,T,rfl,_⟩:=r;rfl
theorem aJT {w:World} : ∀ {ds:List AV} {vs:List Value} {S:List Nat} {K:List AV→Prop},RepVs w ds vs S→ds.all aFB=true→qL w ds K→ ∃ xs,K xs∧xs.length=ds.length∧ ∀ (h:Hp) (u:Us) (ν:Nu),All2 (RepA w h u ν) xs vs
 | [],vs,S,K,r,_,k=>by simp only [RepVs] at r;obtain ⟨rfl,_⟩:=r;exact ⟨[],k,rfl,λ_ _ _=>rfl⟩
 |d::ds,vs,S,K,r,ok,k=>by
  simp only [RepVs] at r;obtain ⟨v,q,S1,S2,rfl,rfl,h3,h4⟩:=r;simp only [List.all_cons,dF] at ok
  have key: ∀ x,qL w ds (λxs=>K (x::xs))→(∀ (h:Hp) (u:Us) (ν:Nu),RepA w h u ν x v)→ ∃ xs,K xs∧xs.length=(d::ds).length∧ ∀ (h:Hp) (u:Us) (ν:Nu),All2 (RepA w h u ν) xs (v::q):=by
   intro x k1 hx;obtain ⟨xs,g1,g2,g3⟩:=aJT h4 ok.2 k1;exact ⟨x::xs,g1,by simp [g2],λh u ν=>⟨v,q,rfl,hx h u ν,g3 h u ν⟩⟩
  cases d <;> simp only [aFB,fJ,false_and] at ok
  ·simp only [RepD] at h3;exact key _ k λh u ν=>by simp only [RepA,RepB,Rep1];exact ⟨h3.1,h3.2.1⟩
  ·exact key _ (k v S1 h3) λh u ν=>(show Rep1 w h u ν (.sc v) v from ⟨rfl,aIy h3 rfl⟩)
  ·exact key _ (k v S1 h3) λh u ν=>(show Rep1 w h u ν (.sc v) v from ⟨rfl,aRs h3 ⟨_,rfl⟩⟩)
  ·have h3':=h3;simp only [RepD] at h3';obtain ⟨us,rfl,h5⟩:=h3';obtain ⟨xs,g1,g2⟩:=aIF h5 ok.1 k;exact key _ g1 λh u ν=>by simp only [RepA,RepB];exact ⟨us,rfl,g2 w h u ν⟩
theorem aWX {w:World} {h:Hp} {u:Us} {ν:Nu} {d:AV} {v:Value} (r:RepA w h u ν d v) (ok:aFB d=true): ∃ S,RepD w d v S:=by
 cases d <;> simp only [aFB,fJ] at ok <;> simp only [RepA,RepB,Rep1] at r
 ·exact ⟨[],by simp only [RepD];exact ⟨r.1,r.2,trivial⟩⟩
 ·obtain ⟨S,r,_⟩:=r;exact ⟨S,r⟩
 ·obtain ⟨S,r,_⟩:=r;exact ⟨S,r⟩
 ·obtain ⟨vs,rfl,r⟩:=r;rename_i cs
  have key: ∀ {cs:List AV} {vs:List Value},All2 (Rep1 w h u ν) cs vs→cs.all jI=true→ ∃ S,RepVs w cs vs S:=by
   intro cs;induction cs with
   |nil=>intro vs r _;simp only [All2] at r;subst r;exact ⟨[],by simp [RepVs]⟩
   |cons c cs ih=>
    intro vs r ok;obtain ⟨v,q,rfl,r1,r2⟩:=r;simp only [List.all_cons,dF] at ok;obtain ⟨S2,h2⟩:=ih r2 ok.2
    have: ∃ S1,RepD w c v S1:=by
     have ok1:=ok.1;cases c <;> simp only [jI,fJ] at ok1 <;> simp only [Rep1] at r1
     ·exact ⟨[],by simp only [RepD];exact ⟨r1.1,r1.2,trivial⟩⟩
     ·obtain ⟨S,r,_⟩:=r1;exact ⟨S,r⟩
    obtain ⟨S1,h1⟩:=this;exact ⟨S1++S2,by simp only [RepVs];exact ⟨v,q,S1,S2,rfl,rfl,h1,h2⟩⟩
  obtain ⟨S,hS⟩:=key r ok;exact ⟨S,by simp only [RepD];exact ⟨vs,rfl,hS⟩⟩
theorem aQo {w:World} {h:Hp} {u:Us} {ν:Nu} : ∀ {ds:List AV} {vs:List Value},All2 (RepA w h u ν) ds vs→ds.all aFB=true→ ∃ S,RepVs w ds vs S
 | [],vs,r,_=>by simp only [All2] at r;subst r;exact ⟨[],by simp [RepVs]⟩
 |d::ds,vs,r,ok=>by
  obtain ⟨v,q,rfl,r1,r2⟩:=r;simp only [List.all_cons,dF] at ok;obtain ⟨S1,h1⟩:=aWX r1 ok.1;obtain ⟨S2,h2⟩:=aQo r2 ok.2;exact ⟨S1++S2,by simp only [RepVs];exact ⟨v,q,S1,S2,rfl,rfl,h1,h2⟩⟩
end
noncomputable section
theorem aNx: ∀ {cs:List AV},(∀ c∈cs,fE c=true∧ ∀ ds,c≠ .ref ds)→All2 aDK (cs.map vD) cs
 | [],_=>rfl
 |c::cs,h=>by
  refine ⟨c,cs,rfl,?_,aNx λc hc=>h c (by simp [hc])⟩;obtain ⟨h1,h2⟩:=h c (by simp);cases c <;> simp only [fE,fJ] at h1
  ·rfl
  ·exact ⟨rfl,rfl⟩
  ·exact absurd rfl (h2 _)
theorem aFC: ∀ {es:List (List AV)},aGT es→All2 (All2 aDK) (cN es) es
 | [],_=>rfl
 |cs::es,h=>⟨cs,es,rfl,aNx (h cs (by simp)),aFC λcs hcs=>h cs (by simp [hcs])⟩
theorem aXf {w:World} {k:Nat} {es:List (List AV)} {v:Value} {S:List Nat} :aAc w (.list k es) v S↔RepO w (.list k es) v S:=by simp only [aAc,RepO,aAs]
end
noncomputable section
def aFy (W:World) (lv:Value) (i:Int):Value:=if i<0 then .slice none 0 0 else match aAH lv 1 i.toNat with
 | .pointer (some a)=>(W.cell? a).getD (.slice none 0 0)
 |_=> .slice none 0 0
def aRt {α:Type} (l:List (List α)) (i:Int):Option (List α):=bif decide (i<0) then some [] else cO l i
theorem aQp {α:Type} {w:World} {k m:Nat} {enc:α→List AV} : ∀ {l:List (List α)} {i:Nat} {s:List α} {vs:List Value} {T:List Nat},RepOE w (l.map λs=>[AV.list k (s.map enc)]) vs T→l[i]? =some s→ ∃ v S,vs[i]? =some v∧v.oneCell'=true∧RepO w (.list k (s.map enc)) v S∧S.Sublist T
 | [],i,s,vs,T,r,h=>by simp at h
 |x::l,0,s,vs,T,r,h=>by
  simp only [List.getElem?_cons_zero,Option.some.injEq] at h;subst h;simp only [List.map_cons,RepOE,RepOV] at r;obtain ⟨v1,v2,S1,S2,rfl,rfl,⟨v,q,T1,T2,rfl,rfl,h3,h4,rfl,rfl⟩,h6⟩:=r;exact ⟨v,T1,rfl,h3,h4,by rw [List.append_nil];exact List.sublist_append_left _ _⟩
 |x::l,i+1,s,vs,T,r,h=>by
  simp only [List.map_cons,RepOE,RepOV] at r;obtain ⟨v1,v2,S1,S2,rfl,rfl,⟨v,q,T1,T2,rfl,rfl,h3,h4,rfl,rfl⟩,h6⟩:=r;obtain ⟨v',S,g1,g2,g3,g4⟩:=aQp (m:=m) (i:=i) h6 (by simpa using h);exact ⟨v',S,by simpa using g1,g2,g3,g4.trans (List.sublist_append_right _ _)⟩
section
variable {α:Type} {W:World} {k:Nat} {enc:α→List AV} {l:List (List α)} {lv:Value} {S:List Nat} {i:Int} {s:List α}
theorem aMS (r:RepO W (.list 1 (l.map λs=>[AV.list k (s.map enc)])) lv S) (h:cO l i=some s):
  ∃ a,aAH lv 1 i.toNat= .pointer (some ⟨a,i.toNat,none⟩)∧W.cell? ⟨a,i.toNat,none⟩=some (aFy W lv i)∧W.frozen? ⟨a,i.toNat,none⟩=false∧a<W.heap.size∧(aFy W lv i).oneCell'=true∧ ∃ S',RepO W (.list k (s.map enc)) (aFy W lv i) S'∧S'.Sublist S:=by
 have h0:=aIj h;have hlt:=iR h
 have hg:l[i.toNat]? =some s:=by
  have:=dB h;exact this
 simp only [RepO] at r;rcases r with ⟨h6,_,_⟩|⟨β,c,arr,ty,T,vs,rfl,h2,h3,h4,h5,h6,rfl,h8,h9⟩
 ·have:l=[]:=by simpa using h6
  rw [this] at hg;simp at hg
 ·obtain ⟨v,S',g1,g2,g3,g4⟩:=aQp (m:=0) h9 hg
  have hb:β<W.heap.size:=by
   rcases eD β W.heap.size with h'|h'
   ·exact h'
   ·rw [Array.getElem?_eq_none h'] at h2;cases h2
  have e1:aAH (.slice (some ⟨β,0,none⟩) (l.map λs=>[AV.list k (s.map enc)]).length c) 1 i.toNat= .pointer (some ⟨β,i.toNat,none⟩):=by
   simp [aAH]
  have e2:W.cell? ⟨β,i.toNat,none⟩=some v:=by
   simp only [World.cell?,h2];rw [←h8] at g1
   have hj:i.toNat<(l.map λs=>[AV.list k (s.map enc)]).length *1:=by
    rcases eD i.toNat ((l.map λs=>[AV.list k (s.map enc)]).length *1) with h'|h'
    ·exact h'
    ·rw [gB (by simp at h' ⊢;omega)] at g1;cases g1
   rw [List.getElem?_take_of_lt hj] at g1;simpa using g1
  have e3:aFy W (.slice (some ⟨β,0,none⟩) (l.map λs=>[AV.list k (s.map enc)]).length c) i=v:=by
   unfold aFy;rw [aW (by omega),e1];simp only [e2,rD]
  exact ⟨β,e1,by rw [e3];exact e2,by simp [World.frozen?,h2],hb,by rw [e3];exact g2,S',by rw [e3];exact g3,List.Sublist.cons _ g4⟩
theorem aVF (r:RepO W (.list 1 (l.map λs=>[AV.list k (s.map enc)])) lv S) (h:cO l i=some s): ∃ S',RepD W (.list k (s.map enc)) (aFy W lv i) S':=by
 obtain ⟨_,_,_,_,_,_,S',r',_⟩:=aMS r h;exact ⟨S',r'.repD⟩
theorem aVG {s:List α} (r:RepO W (.list 1 (l.map λs=>[AV.list k (s.map enc)])) lv S) (hn:S.Nodup) (h:aRt l i=some s): ∃ S',RepO W (.list k (s.map enc)) (aFy W lv i) S'∧(∀ x∈S',x∈S)∧S'.Nodup:=by
 unfold aRt at h;by_cases h0:i<0
 ·rw [bG h0] at h;cases h;refine ⟨[],?_,by simp,by simp⟩;unfold aFy;rw [aY h0];unfold RepO;exact .inl ⟨rfl,rfl,rfl⟩
 ·rw [eB h0] at h;obtain ⟨_,_,_,_,_,_,S',r',h2⟩:=aMS r h;exact ⟨S',r',λx hx=>h2.subset hx,h2.nodup hn⟩
end
section
variable {P:Program} {T:List (Nat×Ty)} (hT:TyOk P T) {dst:Option Tmp} {ty:TypeId} {pos:String} {aft:Array Edge} {g:Option (Nat×Bool)} {s:AState} {α:Type} {k:Nat} {enc:α→List AV}
include hT
theorem aPg {x:Operand} {t:Nat} {y:Ty} {l:List (List α)} {i:Int} {u:List α} {W:World} {lv:Value} {S:List Nat} (r:RepO W (.list 1 (l.map λs=>[AV.list k (s.map enc)])) lv S) (hm:cO l i=some u) (hfx:s.kp.fx=rB W) (hx:s.ev x=some (.sc (aAH lv 1 i.toNat))) (hy:dY T t=some y) (h1:(y.desc.isAgg||Nat.beq y.size 1)=true) (hn:Nat.ble y.size 1=true) (hpl:(([AV.sc (aFy W lv i)]).take y.size).all fE=true) (hv:xQ y.desc.isAgg (([AV.sc (aFy W lv i)]).take y.size)= .sc (aFy W lv i)):
  AEff P ⟨dst,.load t x,ty,pos,aft,g⟩ s.ev s.heap s.kp ⟨.sc (aFy W lv i),[],[],[]⟩:=by
 obtain ⟨a,e1,e2,e3,e4,e5,_⟩:=aMS r hm
 have hr:RepD W (.ref [.sc (aFy W lv i)]) (aAH lv 1 i.toNat) (a::[]):=by
  simp only [RepD,RepCs];exact ⟨a,i.toNat,[],e1,e4,rfl,_,[],[],e2,e3,e5,rfl,⟨rfl,e5,rfl⟩,rfl⟩
 exact hv▸aAk hT hfx hr hr.lt hx hy h1 (Nat.le_of_ble_eq_true hn) hpl
end
theorem aXg {α:Type} {e:α→List AV} {l:List α} (g:aGT (l.map e)):All2 (All2 aDK) (l.map (ow e)) (l.map e):=by rw [←gA];exact aFC g
end
noncomputable section
theorem aRu {s:AState} {b i j k':Nat} {blk:Blk} {cs:List AV} {es':List (List AV)} {W:World} {u:Value} {SR:List Nat} (r:RepD W (.list k' es') u SR) (hfx:s.kp.fx=rB W) (hb:s.heap b=some blk) (hi:blk.es[i]? =some cs) (hj:cs[j]? =some (.sc u)):
  Ent s ⟨s.env,bB [(b,some ⟨blk.k,blk.es.set i (cs.take j++[.list k' es']++cs.drop (j+1))⟩)] s.heap,s.used,s.ns,s.kp⟩:=by
 have hjl:j<cs.length:=by
  rcases eD j cs.length with h'|h'
  ·exact h'
  ·rw [gB h'] at hj;cases hj
 intro C ν a w hs;obtain ⟨φ,hh⟩:=hs.heap;obtain ⟨hub,⟨hk1,hx1⟩,hnd1,hB1⟩:=hh.blk b blk hb;have hcs:=hk1 cs (List.mem_of_getElem? hi);rcases hx1 with ⟨q1,q2,_⟩|⟨β,c,arr,ty,T,vs,q1,q2,q3,q4,q5,q6,q7,q8⟩
 ·rw [q2] at hi;simp at hi
 ·have hext:Ext w s.heap s.used ν w (bB [(b,some ⟨blk.k,blk.es.set i (cs.take j++[.list k' es']++cs.drop (j+1))⟩)] s.heap) s.used ν:=by
   refine ⟨λ_ h=>h,λb2 blk2 _ hb2=>?_,λx hx hfr=>⟨rfl,λb2 blk2 β2 c2 hb2 hν2=>?_⟩,rfl⟩
   ·simp only [bB] at hb2;by_cases e2:b2=b
    ·subst e2;simp only [bY,aM,Option.some.injEq] at hb2;subst hb2;exact ⟨blk,hb,rfl,by simp,rfl⟩
    ·rw [cB e2] at hb2;exact ⟨blk2,hb2,rfl,rfl,rfl⟩
   ·simp only [bB] at hb2;by_cases e2:b2=b
    ·subst e2;exact hfr b2 blk β2 c2 hb hν2
    ·rw [cB e2] at hb2;exact hfr b2 blk2 β2 c2 hb2 hν2
  have hdrop:blk.es.flatten.drop (i*blk.k+j)= .sc u::blk.es.flatten.drop (i*blk.k+j+1):=by
   obtain ⟨rr,hr⟩:=xF hk1 hi;have h1:blk.es.flatten.drop (i*blk.k+j)=(cs++rr).drop j:=by rw [←hr,List.drop_drop]
   have h2:blk.es.flatten.drop (i*blk.k+j+1)=(cs++rr).drop (j+1):=by rw [←hr,List.drop_drop,Nat.add_assoc]
   rw [h1,h2,List.drop_append_of_le_length (by omega),List.drop_append_of_le_length (by omega),List.drop_eq_getElem_cons hjl];have:cs[j]= .sc u:=by simpa [hjl] using hj
   rw [this];rfl
  have hfl:blk.es.flatten=blk.es.flatten.take (i*blk.k+j)++([.sc u]++blk.es.flatten.drop (i*blk.k+j+1)):=by
   rw [List.singleton_append,←hdrop,List.take_append_drop]
  rw [hfl] at q8;obtain ⟨v1,v2,S1,S2,e1,e2,e3,e4,e5⟩:=q8.append_inv;obtain ⟨v3,v4,S3,S4,f1,f2,f3,f4,f5⟩:=e5.append_inv;subst f1 f2;obtain ⟨v,r0,S5,S6,rfl,rfl,g1,⟨rfl,rfl⟩⟩:=f4;simp only [CellRep] at g1;obtain ⟨g2,rfl⟩:=g1;have d1:Rep1 w s.heap s.used ν (.list k' es') v:=Raw1.rep1 hs rfl g2 (jN hfx r) rfl;have hφ:φ b=β::(S1++S4):=by rw [q6,e2];simp
  refine ⟨ν,hs.below,hs.base,hs.fresh,hs.defers,hs.size,λt x hx=>by obtain ⟨v,h1,h2⟩:=hs.env t x hx;exact ⟨v,h1,h2.ext hext⟩,⟨φ,?_,?_⟩,hs.kp,hs.ext.trans hext,hs.szE,hs.okM,hs.okF⟩
  ·intro x blk2 hx;simp only [bB] at hx;by_cases e0:x=b
   ·subst e0;simp only [bY,aM,Option.some.injEq] at hx;subst hx;refine ⟨hub,⟨?_,.inr ⟨β,c,arr,ty,S1++S4,vs,q1,q2,q3,by simpa using q4,q5,hφ,by simpa using q7,?_⟩⟩,hnd1,hB1⟩
    ·intro d hd;rcases List.mem_or_eq_of_mem_set hd with h|h
     ·exact hk1 d h
     ·rw [h];simp;omega
    ·rw [vM (n:=1) hk1 hi rfl (by omega),e1];have m1:CellsRep w (bB [(x,some ⟨blk.k,blk.es.set i (cs.take j++[.list k' es']++cs.drop (j+1))⟩)] s.heap) s.used ν [.list k' es'] [v] []:=⟨v,[],[],[],rfl,rfl,⟨d1.ext hext,rfl⟩,rfl,rfl⟩;have m2:=(e4.ext hext (λ_ _=>rfl)).append (m1.append (f5.ext hext (λ_ _=>rfl)));rw [List.append_assoc (List.take (i*blk.k+j) blk.es.flatten)];simpa using m2
   ·rw [cB e0] at hx;obtain ⟨p1,p2,p3,p4⟩:=hh.blk x blk2 hx;exact ⟨p1,p2.ext hext rfl (λ_ _=>rfl),p3,p4⟩
  ·have hsub: ∀ x,bB [(b,some ⟨blk.k,blk.es.set i (cs.take j++[.list k' es']++cs.drop (j+1))⟩)] s.heap x≠none→s.heap x≠none:=by
    intro x hx;simp only [bB] at hx;by_cases e0:x=b
    ·subst e0;rw [hb];simp
    ·rw [cB e0] at hx;exact hx
   intro x1 x2 y hx1 hx2 hne2 hy1 hy2;exact hh.apart x1 x2 y (hsub x1 hx1) (hsub x2 hx2) hne2 hy1 hy2
theorem aNy {s:AState} {b i j k':Nat} {blk:Blk} {cs:List AV} {es':List (List AV)} {W:World} {u:Value} {SR:List Nat} (r:RepD W (.list k' es') u SR) (hfx:s.kp.fx=rB W) (hb:s.heap b=some blk) (hi:blk.es[i]? =some cs) (hj:cs[j]? =some (.sc u)):
  Ent s ⟨s.env,bB [(b,some ⟨blk.k,blk.es.set i (aCC cs j [.list k' es'])⟩)] s.heap,s.used,s.ns,s.kp⟩:=by
 have hjl:j<cs.length:=by
  rcases eD j cs.length with h'|h'
  ·exact h'
  ·rw [gB h'] at hj;cases hj
 rw [←aCh (by simp;omega)];exact aRu r hfx hb hi hj
theorem aLA {tl:List (Nat×AV)} {hl:List (Nat×Blk)} {n t:Nat} {ns:List Nat} {kp:Kp} {W:World} {d:AV} {v:Value} {S:List Nat} (r:RepD W d v S) (hfx:kp.fx=rB W) (h:qG tl t=some (.sc v)) (hd:(match d with| .list _ _=>true| .ref _=>true|_=>false)=true):Ent (mkS tl hl n ns kp) (mkS ((t,d)::tl) hl n ns kp):=by
 refine λC ν a w hs=>⟨ν,hs.below,hs.base,hs.fresh,hs.defers,hs.size,λt' x hx=>?_,hs.heap,hs.kp,hs.ext,hs.szE,hs.okM,hs.okF⟩;have hx':qG ((t,d)::tl) t'=some x:=hx;simp only [qG] at hx';by_cases e:t'=t
 ·subst e;rw [bY] at hx';simp only [aM,Option.some.injEq] at hx';subst hx';obtain ⟨u,g1,g2⟩:=hs.env t' (.sc v) h;refine ⟨u,g1,?_⟩;have g3:Rep1 w (fR hl) (rE n) ν (.sc v) u:=g2;cases d <;> simp only [fJ] at hd
  ·exact Raw1.rep1 hs rfl g3 (jN hfx r) rfl
  ·exact Raw1.rep1 hs rfl g3 (jN hfx r) rfl
 ·rw [cB e] at hx';exact hs.env t' x hx'
def viewX (κ:Kp) (h:Hp) (x d:AV):Prop:=viewP h x d∨ ∃ b c ds k,x= .ptr b 0 0∧d= .ref ds∧h b=some ⟨k,[c]⟩∧All2 (Raw1 κ) c ds
def viewR (κ:Kp) (h:Hp) (x d:AV):Prop:=vF κ h x d∨ ∃ f xs ds,x= .fn f xs∧d= .fn f ds∧All2 (viewX κ h) xs ds
theorem viewX.congr {κ:Kp} {h h':Hp} {x d:AV} (v:viewX κ h x d) (e: ∀ b∈qH h x,h' b=h b):viewX κ h' x d:=by
 rcases v with v|⟨b,c,ds,k,rfl,rfl,h1,h2⟩
 ·exact .inl (v.congr e)
 ·exact .inr ⟨b,c,ds,k,rfl,rfl,by rw [e b (by simp [qH]),h1],h2⟩
theorem viewR.congr {κ:Kp} {h h':Hp} {x d:AV} (v:viewR κ h x d) (e: ∀ b∈kM h x,h' b=h b):viewR κ h' x d:=by
 rcases v with v|⟨f,xs,ds,rfl,rfl,h1⟩
 ·exact .inl (v.elim (λv=> .inl (v.congr e)) .inr)
 ·exact .inr ⟨f,xs,ds,rfl,rfl,h1.congrM λx hx d hd=>hd.congr λb hb=>e b (List.mem_flatMap.2 ⟨x,hx,hb⟩)⟩
theorem aNz {C:Ctx} {s:AState} {ν:Nu} {a:Act} {w:World} (hs:Sim C s ν a w) {β:Nat} : ∀ {cs ds:List AV} {vs:List Value} {S:List Nat} {o:Nat},CellsRep w s.heap s.used ν cs vs S→All2 (Raw1 s.kp) cs ds→(∀ j y,vs[j]? =some y→w.cell? ⟨β,o+j,none⟩=some y∧w.frozen? ⟨β,o+j,none⟩=false)→ ∃ S',RepCs w β o ds S'
 | [],ds,vs,S,o,_,m,_=>by simp only [All2] at m;subst m;exact ⟨[],by simp [RepCs]⟩
 |c::cs,ds,vs,S,o,⟨v,r,S1,S2,h1,h2,h3,h4⟩,⟨d,q,hq,m1,m2⟩,hc=>by
  subst h1;subst hq;have m1':=m1;obtain ⟨W,G,y,SR,k1,rfl,k2,k3⟩:=m1;simp only [CellRep] at h3;obtain ⟨S3,e1⟩:=Raw1.rep hs rfl h3.1 m1';obtain ⟨S4,e3⟩:=aNz hs (o:=o+1) h4 m2 (λj y hy=>by have:=hc (j+1) y (by simpa using hy);rw [show o+(j+1)=o+1+j by omega] at this;exact this);have h0:=hc 0 v rfl;rw [Nat.add_zero] at h0;exact ⟨S3++S4,by simp only [RepCs];exact ⟨v,S3,S4,h0.1,h0.2,by rw [h3.1.1];exact h3.1.2,rfl,e1,e3⟩⟩
theorem viewX.rep {C:Ctx} {s:AState} {ν:Nu} {a:Act} {w:World} (hs:Sim C s ν a w) {φ:Nat→List Nat} (hh:HeapOk C.M w s.heap s.used ν φ) {x d:AV} {v:Value} (r:Rep1 w s.heap s.used ν x v) (m:viewX s.kp s.heap x d): ∃ S',RepD w d v S':=by
 rcases m with m|⟨b,c,ds,k,rfl,rfl,h1,h2⟩
 ·exact (viewP.rep hh r m).1
 ·simp only [Rep1] at r;obtain ⟨β,cc,q1,q2⟩:=r.2 _ h1;obtain ⟨_,⟨hk,hx⟩,_,_⟩:=hh.blk b _ h1;rcases hx with ⟨p1,_⟩|⟨β',c',arr,ty,T,vs,p1,p2,p3,p4,p5,p6,p7,p8⟩
  ·rw [q1] at p1;cases p1
  ·rw [q1] at p1;cases p1;have hlt:=gV p2;simp only [List.flatten_cons,List.flatten_nil,List.append_nil] at p8;simp only [List.length_cons,List.length_nil,Nat.zero_add,Nat.one_mul] at p7
   obtain ⟨S',g⟩:=aNz hs (β:=β) (o:=0) p8 h2 λj y hy=>by
    rw [←p7] at hy;rw [Nat.zero_add]
    have hj:j<k:=by
     rcases eD j k with h'|h'
     ·exact h'
     ·rw [gB (by rw [List.length_take];omega)] at hy;cases hy
    rw [List.getElem?_take_of_lt hj] at hy;exact ⟨by simp only [World.cell?,p2];simpa using hy,by simp [World.frozen?,p2]⟩
   refine ⟨β::S',?_⟩;simp only [RepD];exact ⟨β,0,S',by rw [q2];simp,hlt,rfl,g⟩
theorem viewR.rep {C:Ctx} {s:AState} {ν:Nu} {a:Act} {w:World} (hs:Sim C s ν a w) {φ:Nat→List Nat} (hh:HeapOk C.M w s.heap s.used ν φ) {x d:AV} {v:Value} (r:RepA w s.heap s.used ν x v) (m:viewR s.kp s.heap x d): ∃ S',RepD w d v S':=by
 rcases m with m|⟨f,xs,ds,rfl,rfl,h1⟩
 ·exact m.elim (λm=>viewA.rep hh r m) (λm=>m.rep hs rfl r)
 ·simp only [RepA,RepB] at r;obtain ⟨vs,rfl,r⟩:=r;obtain ⟨S,h⟩:=xM (V:=viewX s.kp s.heap) (λx d v hr hm=>hm.rep hs hh hr) r h1;exact ⟨S,by simp only [RepD];exact ⟨vs,rfl,h⟩⟩
theorem aWY {κ:Kp} {h:Hp} :All2 (viewR κ h) [] []:=rfl
theorem aQq {κ:Kp} {h:Hp} {x d:AV} {xs ds:List AV} (a:viewR κ h x d) (b:All2 (viewR κ h) xs ds):All2 (viewR κ h) (x::xs) (d::ds):=⟨d,ds,rfl,a,b⟩
theorem aWZ {κ:Kp} {h:Hp} :All2 (viewX κ h) [] []:=rfl
theorem aMT {κ:Kp} {h:Hp} {x d:AV} {xs ds:List AV} (a:viewX κ h x d) (b:All2 (viewX κ h) xs ds):All2 (viewX κ h) (x::xs) (d::ds):=⟨d,ds,rfl,a,b⟩
theorem aXh {κ:Kp} {h:Hp} {f:FuncId} {xs ds:List AV} (a:All2 (viewX κ h) xs ds):viewR κ h (.fn f xs) (.fn f ds):= .inr ⟨f,xs,ds,rfl,rfl,a⟩
theorem aWa {κ:Kp} {h:Hp} {b k:Nat} {v:Value} {d:AV} (hb:h b=some ⟨k,[[.sc v]]⟩) (r:Raw1 κ (.sc v) d):viewX κ h (.ptr b 0 0) (.ref [d]):= .inr ⟨b,_,_,k,rfl,rfl,hb,⟨d,[],rfl,r,rfl⟩⟩
section
variable {P:Program} {dst:Option Tmp} {ty:TypeId} {pos:String} {aft:Array Edge} {g:Option (Nat×Bool)} {s:AState}
theorem aRv {f:FuncId} {xs:Array Operand} {ats:Array TypeId} {avs ds:List AV} {u:Value} (hc:HasC P f ds (.sc u)) (hx:evs s.ev xs.toList=some avs) (hv1:All2 (viewR s.kp s.heap) avs ds):
  AEff P ⟨dst,.call ⟨.value (.func f),xs,ats⟩,ty,pos,aft,g⟩ s.ev s.heap s.kp ⟨.sc u,avs.flatMap (kM s.heap),[],[]⟩:=by
 refine ⟨λC s' ν a w Q K {hκ} hi' ht hnw hd hs hK=>?_⟩;obtain ⟨φ,hh⟩:=hs.heap;have h3:=zO hs (xs:=xs.toList) (λy hy=>hi' y (by simp [Op.operands,Call.operands];exact .inr (Array.mem_toList_iff.1 hy))) hx;have hv1':All2 (viewR s'.kp s'.heap) avs ds:=hκ▸hv1.congrM λy hy d hd=>hd.congr λb hb=>ht b (List.mem_flatMap.2 ⟨y,hy,hb⟩);obtain ⟨S1,e1⟩:=aEu (V:=viewR s'.kp s'.heap) (λx d v hr hv=>hv.rep hs hh hr) h3 hv1';have hcall:=hc.calls w (xs.map a.eval) S1 (by simpa using e1);unfold Oper.wp
 have hex:(execOp a.eval ⟨dst,.call ⟨.value (.func f),xs,ats⟩,ty,pos,aft,g⟩).run P w= .ok (.enter f (xs.map a.eval)) w:=by
  have:execOp a.eval ⟨dst,.call ⟨.value (.func f),xs,ats⟩,ty,pos,aft,g⟩=callFunc f (xs.map a.eval):=by
   simp [execOp,resolve,Act.eval,Deferred.ofValue,invoke]
  rw [this];exact hc.enters _ _
 rw [hex];simp only [Oper.upon];refine hcall.mono λe w' ⟨v,S',he,hb,hr,hnew⟩=>?_;subst he;simp only;obtain ⟨g1,X,Sf,g2,g3⟩:=aLj (w:=w) (aIC [] u) rfl hr trivial hnew.1 (by simp);obtain ⟨ν',hs'⟩:=hs.call hd hb g2 hnew (by simp) (λb hb=>hnw b hb) g3 (touch:=avs.flatMap (kM s.heap));exact hK ν' _ _ hs'
end
def aLB (k kb:Nat) (bb:Bool) (Φ:Value→Prop) (e:Exit) (s:AState):Prop:=aCB e=true∧ ∃ u,(s.env k=some (.sc u)∨((∃ kk,s.env k=some (.nil kk))∧u= .slice none 0 0))∧s.env kb=some (.sc (.bool bb))∧Φ u
theorem aRw {T:List (Nat×Ty)} {nt:Nat} {W:World} {tL kk:Nat} {es es':List (List AV)} {ts:List Nat} {ds:List AV} {n:Nat} {ns:List Nat} {k kb k2 m:Nat} {bb:Bool} {res:List (List AV)} {K:World→Value→List Nat→List AV→Prop}
  (hm:es.length=m) (hl:ts.length=ds.length) (hn:rI (tL::ts)=true) (ok:ds.all aFB=true) (hz:All2 (All2 aDK) es es') (hg:aGT res) (hkb:Nat.beq kb k=false)
  (h: ∀ (W2:World) (lv:Value) (S:List Nat),(∀ b,b<W.heap.size→W2.heap[b]? =W.heap[b]?)→RepO W2 (.list kk es') lv S→S.Nodup→qL W2 ds (K W2 lv S))
  {C:Ctx} (hC:C.nt=nt) {ν:Nu} {a:Act} {w:World} (hs:Sim C (mkS ((tL,.own 0 0 m)::List.zip ts ds) [(0,⟨kk,es⟩)] n ns ⟨0,true,rB W,false⟩) ν a w):
  ∃ lv S xs C' ν2,K w lv S xs∧C'.nt=nt∧C'.rd=C.rd∧Sim C' ⟨qG ((tL,.sc lv)::List.zip ts xs),fR [],rE n,ns,⟨0,true,rB w,false⟩⟩ ν2 a w∧
   ∀ e a' w' s' ν',aLB k kb bb (λu=> ∃ S',RepO w (.list k2 res) u S'∧(∀ x∈S',x∈S)∧S'.Nodup) e s'→Sim C' s' ν' a' w'→ ∃ s'' ν'',tW T [.tmp k,.tmp kb] (.tuple [.list k2 res,.sc (.bool bb)]) e s''∧Sim C s'' ν'' a' w':=by
 subst hm;have hkp:C.kp=⟨0,true,rB W,false⟩:=hs.kp.symm;obtain ⟨hW,hF⟩:=C.fxp (W,λx=>x<W.heap.size) (by rw [hkp];rfl)
 have hold: ∀ b,b<W.heap.size→w.heap[b]? =W.heap[b]? :=λb hb=>by
  obtain ⟨g1,g2⟩:=hF b hb;have:=(hs.ext.free b g1 g2).1
  rwa [hW] at this
 obtain ⟨hn1,hn2⟩:=List.nodup_cons.1 (yU hn);obtain ⟨φ,hh⟩:=hs.heap;obtain ⟨lv,l1,l2⟩:=hs.env tL (.own 0 0 es.length) (by show qG _ _=_;simp only [qG,bY,aM]);obtain ⟨S,r1,r2,r3,r4⟩:=aIi hh (x:= .own 0 0 es.length) (d:= .list kk es') l2 ⟨rfl,⟨kk,es⟩,rfl,rfl,rfl,hz⟩;have r1':RepO w (.list kk es') lv S:=aXf.1 r1
 have hone:lv.oneCell'=true:=by
  simp only [RepO] at r1';rcases r1' with ⟨_,rfl,_⟩|⟨β,c,arr,ty,T,vs,rfl,_⟩ <;> rfl
 have henv: ∀ t x,qG (List.zip ts ds) t=some x→ ∃ v,a.tmps[t]? =some v∧RepA w (fR [(0,⟨kk,es⟩)]) (rE n) ν x v:=λt x hx=>by
  have hne:t≠tL:=by
   rintro rfl;exact hn1 (List.of_mem_zip (aDJ hx)).1
  refine hs.env t x ?_;show qG _ _=_;simp only [qG,cB hne,aX];exact hx
 obtain ⟨vs,e1,e2⟩:=aQm hl hn2 henv;obtain ⟨SV,hSV⟩:=aQo e1 ok;obtain ⟨xs,hK,hxl,hxr⟩:=aJT hSV ok (h w lv S hold r1' r2)
 have hdef:a.defers=[]:=by
  obtain ⟨Ds,d1,d2,_⟩:=hs.defers;rw [d1,d2.2 (by rw [hkp])];rfl
 let C':Ctx:=⟨w.heap.size,w,nt,λx=>w.heap.size≤x,λ_ h=>h,⟨0,true,rB w,false⟩,w,fR [],⟨λ_=>none,λ_=>True⟩,λx=>x<w.heap.size,λ_ x hx hm=>absurd hx (Nat.not_lt.2 hm),(λp h=>by cases h;exact ⟨rfl,λx hx=>⟨hx,hx⟩⟩),C.rd,λh=>by cases h⟩;have hfr: ∀ (ν:Nu) x,sD (fR []) ν x:=λν x b blk β c hb=>by cases hb
 have hsim:Sim C' ⟨qG ((tL,.sc lv)::List.zip ts xs),fR [],rE n,ns,⟨0,true,rB w,false⟩⟩ ⟨λ_=>none,λ_=>True⟩ a w:=by
  refine ⟨Below.refl _ _,bO _,λ_ hx=>hx,?_,hs.size.trans hC,?_,⟨λ_=>[],λb blk hb=>(by cases hb),λb c x hb=>absurd rfl hb⟩,rfl,⟨λb hb=>absurd hb (by simp [C']),λb blk' hb=>absurd hb (by simp [C']),λx _ _=>⟨rfl,hfr _ x⟩,rfl⟩,bO _,λ_ _=>trivial,λ_ _ _ _=>trivial⟩
  ·rw [hdef];exact tB
  ·intro t x hx;have hx':qG ((tL,.sc lv)::List.zip ts xs) t=some x:=hx;simp only [qG] at hx';by_cases e:t=tL
   ·subst e;rw [bY] at hx';simp only [aM,Option.some.injEq] at hx';subst hx';exact ⟨lv,l1,(show Rep1 w (fR []) (rE n) ⟨λ_=>none,λ_=>True⟩ (.sc lv) lv from ⟨rfl,hone⟩)⟩
   ·rw [cB e] at hx';exact aQn (hxr (fR []) (rE n) ⟨λ_=>none,λ_=>True⟩) e2 t x hx'
 refine ⟨lv,S,xs,C',_,hK,rfl,rfl,hsim,λe a' w' s' ν' hq hs'=>?_⟩;obtain ⟨he,u,hu,hb2,S',ro,hsub,hnd⟩:=hq;obtain ⟨vb,gb1,gb2⟩:=hs'.env kb _ hb2
 obtain ⟨v,g1,hvu⟩: ∃ v,a'.tmps[k]? =some v∧v=u:=by
  rcases hu with hu|⟨hu,hu2⟩
  ·obtain ⟨v,g1,g2⟩:=hs'.env k _ hu;exact ⟨v,g1,by simp only [RepA,RepB,Rep1] at g2;exact g2.1⟩
  ·obtain ⟨kk0,hu⟩:=hu;obtain ⟨v,g1,g2⟩:=hs'.env k _ hu;exact ⟨v,g1,by simp only [RepA,RepB,Rep1] at g2;rw [g2,hu2]⟩
 subst hvu;have hstill: ∀ y,y<w.heap.size→w'.heap[y]? =w.heap[y]? :=λy hy=>(hs'.ext.free y hy hy).1;have ro':RepO w' (.list k2 res) v S':=ro.keep λb hb=>hstill b (ro.lt b hb);obtain ⟨_,X,Sf,nb,iv⟩:=aIA (w:=w) (w':=w') (ns:=[0]) (x:= .list k2 res) rfl rfl (aXf.2 ro') hg hnd
 have hdef':a'.defers=[]:=by
  obtain ⟨Ds,d1,d2,_⟩:=hs'.defers;rw [d1,d2.2 rfl];rfl
 have hm0:(0,(⟨k2,cN res⟩:Blk))∈[(0,(⟨k2,cN res⟩:Blk))]:=by simp
 have hp0: ∀ {b:Nat} {blk:Blk},fR [(0,(⟨k2,cN res⟩:Blk))] b=some blk→b=0∧blk=⟨k2,cN res⟩:=λ{b blk} hb=>by
  have:=lF hb;simpa using this
 have hle:(cN res).length=res.length:=by simp [cN]
 have hM: ∀ x∈Sf 0,C.M x:=λx hx=>r3 x (hsub x (nb.sub 0 _ hm0 x hx));refine ⟨⟨qG [(k,.own 0 0 res.length),(kb,.sc (.bool bb))],fR [(0,⟨k2,cN res⟩)],rE 1,[],C.kp⟩,⟨X,ν.ok⟩,⟨he,[.own 0 0 res.length,.sc (.bool bb)],?_,rfl,⟨by simp,⟨_,_,rfl,⟨rfl,⟨k2,cN res⟩,rfl,hle,rfl,aFC hg⟩,⟨_,_,rfl,rfl,rfl⟩⟩⟩⟩,?_⟩
 ·simp [zP,aLk,qG,hkb]
 ·have hb':Below C.B C.w0 w':=hs.below.trans (hs'.below.mono hs.base);refine ⟨hb',Nat.le_trans hs.base hs'.szE,λy hy=>hs.fresh y (Nat.le_trans hs'.szE hy),by rw [hdef'];exact tB,hs'.size.trans hC.symm,?_,⟨Sf,λb blk hb=>?_,λb c x hb hc hne=>?_⟩,rfl,⟨λb hb=>?_,λb blk' hb=>?_,λy hy hF=>⟨?_,λb blk β c hb hβ hβy=>?_⟩,hs.ext.okE⟩,Nat.le_trans hs.szE hs'.szE,hs.okM,hs.okF⟩
  ·intro t y hy;have hy':qG [(k,.own 0 0 res.length),(kb,.sc (.bool bb))] t=some y:=hy;simp only [qG] at hy';by_cases e:t=k
   ·subst e;rw [bY] at hy';simp only [aM,Option.some.injEq] at hy';subst hy';refine ⟨v,g1,(show Rep1 w' (fR [(0,⟨k2,cN res⟩)]) (rE 1) ⟨X,ν.ok⟩ (.own 0 0 res.length) v from ⟨rfl,λblk hb=>?_⟩)⟩;obtain ⟨_,rfl⟩:=hp0 hb;obtain ⟨_,blk',hb',i2,i3,i4⟩:=iv;refine ⟨by rw [hle];omega,i3,λβ c hX=>⟨0,?_,.inl (by simp)⟩⟩;rw [i4 β c hX];rfl
   ·rw [cB e] at hy';simp only [aX] at hy';by_cases e3:t=kb
    ·subst e3;rw [bY] at hy';simp only [aM,Option.some.injEq] at hy';subst hy';exact ⟨vb,gb1,gb2⟩
    ·rw [cB e3] at hy';cases hy'
  ·obtain ⟨rfl,rfl⟩:=hp0 hb;exact ⟨rfl,nb.ok 0 _ hm0 _ _ _ rfl,nb.nd 0 _ hm0,hM⟩
  ·have h1:b=0:=by
    cases hb1:fR [(0,(⟨k2,cN res⟩:Blk))] b with
    |none=>exact absurd hb1 hb
    |some blk=>exact (hp0 hb1).1
   have h2:c=0:=by
    cases hb1:fR [(0,(⟨k2,cN res⟩:Blk))] c with
    |none=>exact absurd hb1 hc
    |some blk=>exact (hp0 hb1).1
   exact absurd (h1.trans h2.symm) hne
  ·rw [hkp] at hb;simp at hb
  ·rw [hkp] at hb;simp at hb
  ·have q1:=(hs.ext.free y hy hF).1;exact (hstill y (Nat.lt_of_lt_of_le hy hs.szE)).trans q1
  ·obtain ⟨rfl,rfl⟩:=hp0 hb;subst hβy;exact C.tm (by rw [hkp]) _ hy (hM _ (nb.inS 0 _ hm0 _ _ hβ)) hF
theorem aOA {P:Program} {T:List (Nat×Ty)} {nt:Nat} {x y d:Code} {s:AState} {W:World} {tL kk:Nat} {es es':List (List AV)} {ts:List Nat} {ds:List AV} {n:Nat} {ns:List Nat} {k kb k2 m:Nat} {bb:Bool} {res:List (List AV)}
  (hx:AC P nt x s (yP (λs1=>Ent s1 (mkS ((tL,.own 0 0 m)::List.zip ts ds) [(0,⟨kk,es⟩)] n ns ⟨0,true,rB W,false⟩)) λ_ _=>False))
  (hm:es.length=m) (hl:ts.length=ds.length) (hn:rI (tL::ts)=true) (ok:ds.all aFB=true) (hz:All2 (All2 aDK) es es') (hg:aGT res) (hkb:Nat.beq kb k=false)
  (h: ∀ (W2:World) (lv:Value) (S:List Nat),(∀ b,b<W.heap.size→W2.heap[b]? =W.heap[b]?)→RepO W2 (.list kk es') lv S→S.Nodup→qL W2 ds λxs=>
   AC P nt y ⟨qG ((tL,.sc lv)::List.zip ts xs),fR [],rE n,ns,⟨0,true,rB W2,false⟩⟩ (yP (λs'=>AC P nt d s' (aLB k kb bb λu=> ∃ S',RepO W2 (.list k2 res) u S'∧(∀ x∈S',x∈S)∧S'.Nodup)) (aLB k kb bb λu=> ∃ S',RepO W2 (.list k2 res) u S'∧(∀ x∈S',x∈S)∧S'.Nodup))):
  AC P nt (.seq (.seq x y) d) s (tW T [.tmp k,.tmp kb] (.tuple [.list k2 res,.sc (.bool bb)])):=by
 refine ⟨λC hC ν a w hs n0=>wpIn_seq (wpIn_seq (wpIn_mono (hx.out C hC ν a w hs n0) λe a1 w1 ⟨s1,ν1,hq,hs1⟩=>?_))⟩;cases e <;> simp only [yP,Exit.then] at hq ⊢;obtain ⟨ν2,hs2⟩:=hq C ν1 a1 w1 hs1;obtain ⟨lv,S,xs,C',ν3,hK,hC',hrd,hs3,back⟩:=aRw (T:=T) (k:=k) (kb:=kb) (bb:=bb) (k2:=k2) (res:=res) hm hl hn ok hz hg hkb h hC hs2;rw [←hrd];refine wpIn_mono (hK.out C' hC' ν3 a1 w1 hs3 n0) λe a2 w2 ⟨s2,ν4,hq2,hs4⟩=>?_;cases e <;> simp only [yP,Exit.then] at hq2 ⊢
 ·refine wpIn_mono (hq2.out C' hC' ν4 a2 w2 hs4 n0) λe a3 w3 ⟨s5,ν5,hq5,hs5⟩=>back e a3 w3 s5 ν5 hq5 hs5
 all_goals exact back _ _ _ _ _ hq2 hs4
theorem aRx {α:Type} {k:Nat} {enc:α→List AV} {l:List (List α)} {q qb:Nat} {i:Int} {u:List α} {bb:Bool} {W:World} {lv:Value} {S:List Nat} {e:Exit} {s:AState} (r:RepO W (.list 1 (l.map λs=>[AV.list k (s.map enc)])) lv S) (hn:S.Nodup) (hm:aRt l i=some u) (he:aCB e=true) (hq:s.env q=some (.sc (aFy W lv i))) (hb:s.env qb=some (.sc (.bool bb))):
  aLB q qb bb (λv=> ∃ S',RepO W (.list k (u.map enc)) v S'∧(∀ x∈S',x∈S)∧S'.Nodup) e s:=⟨he,_,.inl hq,hb,aVG r hn hm⟩
theorem aRy {α:Type} {k kk:Nat} {enc:α→List AV} {q qb:Nat} {bb:Bool} {W:World} {S:List Nat} {e:Exit} {s:AState} (he:aCB e=true) (hq:s.env q=some (.nil kk)) (hb:s.env qb=some (.sc (.bool bb))):
  aLB q qb bb (λv=> ∃ S',RepO W (.list k (([]:List α).map enc)) v S'∧(∀ x∈S',x∈S)∧S'.Nodup) e s:=⟨he,_,.inr ⟨⟨kk,hq⟩,rfl⟩,hb,[],aDH,by simp,by simp⟩
end
noncomputable section
set_option maxRecDepth 10000
set_option maxHeartbeats 4000000
def mB (a0:Qv):Option Qv:=
 (hO a0.src).bind λv1=>
 (hO a0.tgt).bind λv2=>
 some ((⟨a0.n,v1,v2⟩:Qv))
theorem aAW (a0:Qv) (r:Qv) (h:mB a0=some r):HasC Tryz.prog 121 [.agg (eQ a0)] (.agg (eQ r)):=by
 exact hM [.cell 2 26] Tryz.func121 Tryz.ntmps121 k<|sR<|ae (wb k) k<|ae (bX aD k k) k<|an<|tn<|sQ<|aN gD<|fp k8<|lp k8<|fp k8<|lp k8<|oB h λv1 hv1 h=>ae (cL cP (wB a0.src v1 hv1) k3 (dW k aS)) k<|fp k8<|lp k8<|oB h λv2 hv2 h=>ae (cL cP (wB a0.tgt v2 hv2) k3 (dW k aS)) k<|ae (dE aD k k k k k k) k<|ae (ws k) k<|an<|rC (by kernel_rfl)<|tn<|aJ<|sp h (bT k k k (pH (aH (k) (aH (eX cP k k) (aH (eX cP k k) eH)))))
def tN (a1:Qv) (a2:(List Int)) (x1:((List Mt)×Int)):Option (((List Mt)×Int) ⊕ (List Mt)):=
 bif decide (x1.2<(a1.src.length:Int)) then
 ((cO a1.src x1.2).bind λv4=>
 (cO a1.tgt x1.2).bind λv5=>
 (cO a2 v5).bind λv6=>
 (cO a2 v4).bind λv7=>
 (mT v6 v7).bind λv8=>
 bif decide (x1.1.length+1≤4294967296) then
 (some (.inl ((x1.1++[v8]),wr (x1.2+1))))
 else none)
 else
 (some (.inr x1.1))
def uE (a0:Int) (a1:Qv) (a2:(List Int)):Option Rp:=
 (mB a1).bind λv1=>
 (hO a2).bind λv2=>
 (Lp (tN a1 a2) ([],0)).bind λy10=>
 some ((⟨a0,v1,v2,y10⟩:Rp))
theorem aDd (a0:Int) (a1:Qv) (a2:(List Int)) (r:Rp) (h:uE a0 a1 a2=some r):HasC Tryz.prog 83 [.int a0,.agg (eQ a1),.list 1 (a2.map eI)] (.agg (eR r)):=by
 refine hM [.cell 6 29] Tryz.func83 Tryz.ntmps83 k<|sR<|ae (wb k) k<|ae (bX aD k k) k<|an<|tn<|sR<|am k k<|lp k8<|oB h λv1 hv1 h=>ae (cQ (aAW a1 v1 hv1) k3 (aZ (lQ k) aS)) k<|am k k<|oB h λv2 hv2 h=>ae (cL cP (wB a2 v2 hv2) k3 (dW k aS)) k<|ae (dE aD k k k k k k) k<|ae (bX aD k k) k<|ae (ws k) k<|an<|tn<|sQ<|sR<|fp k8<|lp k8<|ln k4<|am k k<|an<|tn<|aE<|oB h λy10 hy10 h=>cC (body:=(tN a1 a2)) hy10 (λ(x1:((List Mt)×Int))=>mN [(2,.list 1 (a2.map eI)),(4,.ptr 0 0 0),(6,.ptr 1 0 0),(7,.ptr 2 0 0),(17,.list 1 (a1.src.map eI)),(18,.int (a1.src.length:Int)),(19,.int x1.2)] [(0,⟨3,[eQ a1]⟩),(1,⟨6,[iS]⟩),(2,⟨6,[[.int a0,.int v1.n,.own 3 0 v1.src.length,.own 4 0 v1.tgt.length,.own 5 0 v2.length,.own 6 0 x1.1.length]]⟩),(3,⟨1,v1.src.map (ow eI)⟩),(4,⟨1,v1.tgt.map (ow eI)⟩),(5,⟨1,v2.map (ow eI)⟩),(6,⟨3,x1.1.map (ow eM)⟩)] 7) (λr e t=>e= .exit 0∧Ent t (mN [(6,.ptr 0 0 0),(7,.ptr 1 0 0)] [(0,⟨6,[iS]⟩),(1,⟨6,[[.int a0,.int v1.n,.own 2 0 v1.src.length,.own 3 0 v1.tgt.length,.own 4 0 v2.length,.own 5 0 r.length]]⟩),(2,⟨1,v1.src.map (ow eI)⟩),(3,⟨1,v1.tgt.map (ow eI)⟩),(4,⟨1,v2.map (ow eI)⟩),(5,⟨3,r.map (ow eM)⟩)] 6)) (fX (σ:=sg [(0,0),(1,1),(2,5),(3,2),(4,3),(5,4)]) (bK k2) (bN k<|bN k<|hX ⟨_,k,k,.inr ⟨_,_,k,⟨_,_,k,k,⟨_,_,k,k,⟨_,_,k,⟨k,k,k,k⟩,⟨_,_,k,⟨k,k,k,k⟩,⟨_,_,k,⟨k,k,k,k⟩,⟨_,_,k,⟨k,k,k,k⟩,k⟩⟩⟩⟩⟩⟩,k⟩⟩ k<|bP k<|bP k<|bP k<|hX k k<|aR) k) ?_ ?_
 ·intro x1 o h;refine sR<|cm k4<|an<|tn<|sQ<|dR k h (λ_ h=>?_) λ_ h=>aU<|aB<|aB<|sp h ⟨_,k,k,(mX [1,2,3,4,5,6] (bK k2) (bN k<|fF k<|bP k<|bP k<|bP k<|cD (cE.plainO _) k<|aR) k4)⟩;refine aG<|tn<|sQ<|aE<|sR<|am k k<|oB h λv4 hv4 h=>ae (xl hv4 k) k<|lr k7<|aa k k<|aT k2<|aN gD<|fp k8<|lp k8<|am k k<|fp k8<|lp k8<|am k k<|oB h λv5 hv5 h=>ae (xl hv5 k) k<|lr k7<|oB h λv6 hv6 h=>ae (xl hv6 k) k<|lr k7<|am k k<|am k k<|oB h λv7 hv7 h=>ae (xl hv7 k) k<|lr k7<|oB h λv8 hv8 h=>ae (cM (uB v6 v7 v8 hv8) k3 (dW k (dW k aS))) k ?_;exact ae (wl k) k<|cG h λq9 h=>ae (jY aD (l:=x1.1) (c:=[.int v8.rows,.int v8.cols,.own 7 0 v8.cells.length]) q9 k k k k k k k k k k k k k k) k<|fp k8<|ae (ws k) k<|an<|rC (by kernel_rfl)<|aV<|tn<|aP (t:=mN [(2,.list 1 (a2.map eI)),(4,.ptr 0 0 0),(6,.ptr 1 0 0),(7,.ptr 2 0 0),(17,.list 1 (a1.src.map eI)),(18,.int (a1.src.length:Int)),(19,.int x1.2)] [(0,⟨3,[eQ a1]⟩),(1,⟨6,[iS]⟩),(2,⟨6,[[.int a0,.int v1.n,.own 3 0 v1.src.length,.own 4 0 v1.tgt.length,.own 5 0 v2.length,.own 9 0 ((x1.1++[v8]).length)]]⟩),(3,⟨1,v1.src.map (ow eI)⟩),(4,⟨1,v1.tgt.map (ow eI)⟩),(5,⟨1,v2.map (ow eI)⟩),(9,⟨3,List.map (ow eM) (x1.1++[v8])⟩)] 10) (Ent.trans (eY (b:=9) (b':=7) (j:=2) (es':=v8.cells.map eI) k k k k (aO _ _) (cP.frzs _)) (bS (bK k2) (bN k<|bN k<|hX ⟨_,k,k,.inr ⟨_,_,k,⟨_,_,k,k,⟨_,_,k,k,⟨_,_,k,⟨k,k,k,k⟩,⟨_,_,k,⟨k,k,k,k⟩,⟨_,_,k,⟨k,k,k,k⟩,⟨_,_,k,⟨k,k,(by simp only [aO,lA,lT,lR,lC,lN]),k⟩,k⟩⟩⟩⟩⟩⟩,k⟩⟩ k<|bP k<|bP k<|bP k<|hX ⟨_,k,k,.inl ⟨kP v8 k,cE.plainO _⟩⟩ k<|aR) k4))<|rg<|ae (bF k k) k<|am k k<|an<|tn<|sp h ⟨_,k,(mX [0,1,2,3,4,5,9] (bK k2) (bN k<|bN k<|fF k<|bP k<|bP k<|bP k<|cD (cE.plainO _) k<|aR) k4)⟩
 ·rintro e t ⟨rfl,hent⟩;exact aL<|tn<|aP hent<|sR<|lp k8<|ae (ws k) k<|an<|tn<|aJ<|sp h (bT k k k (pH (aH (k) (aH (k) (aH (eX cP k k) (aH (eX cP k k) (aH (eX cP k k) (aH (eX cE k k) eH))))))))
def pK (a0:Qv):Option Qv:=
 bif decide (([]:(List Int)).length +a0.src.length≤4294967296) then
 (bif decide (([]:(List Int)).length +a0.tgt.length≤4294967296) then
 (some ((⟨a0.n,(([]:(List Int))++a0.src),(([]:(List Int))++a0.tgt)⟩:Qv)))
 else none)
 else none
theorem aEd (a0:Qv) (r:Qv) (h:pK a0=some r):HasC Tryz.prog 74 [.agg (eQ a0)] (.agg (eQ r)):=by
 exact hM [.cell 2 26] Tryz.func74 Tryz.ntmps74 k<|sR<|ae (wb k) k<|ae (bX aD k k) k<|an<|tn<|sQ<|aN gD<|fp k8<|lp k8<|ae (wl k) k<|fp k8<|lp k8<|cG h λq1 h=>ae (vE aD (l:=([]:(List Int))) (m:=a0.src) jX q1 k k k k k k k k k k k k) k<|ae (wl k) k<|fp k8<|lp k8<|cG h λq2 h=>ae (vE aD (l:=([]:(List Int))) (m:=a0.tgt) jX q2 k k k k k k k k k k k k) k<|ae (dE aD k k k k k k) k<|ae (ws k) k<|an<|rC (by kernel_rfl)<|tn<|aJ<|sp h (bT k k k (pH (aH (k) (aH (eX cP k k) (aH (eX cP k k) eH)))))
def uZ (a1:Qv) (a2:(List Int)) (x1:((List Mt)×Int)):Option (((List Mt)×Int) ⊕ (List Mt)):=
 bif decide (x1.2<(a1.src.length:Int)) then
 ((cO a1.tgt x1.2).bind λv4=>
 (cO a2 v4).bind λv5=>
 (cO a1.src x1.2).bind λv6=>
 (cO a2 v6).bind λv7=>
 (vR v5 v7).bind λv8=>
 bif decide (x1.1.length+1≤4294967296) then
 (some (.inl ((x1.1++[v8]),wr (x1.2+1))))
 else none)
 else
 (some (.inr x1.1))
def vX (a0:Int) (a1:Qv) (a2:(List Int)):Option Rp:=
 (pK a1).bind λv1=>
 bif decide (([]:(List Int)).length +a2.length≤4294967296) then
 ((Lp (uZ a1 a2) (([]:(List Mt)),0)).bind λy10=>
 some ((⟨a0,v1,(([]:(List Int))++a2),y10⟩:Rp)))
 else none
theorem aEe (a0:Int) (a1:Qv) (a2:(List Int)) (r:Rp) (h:vX a0 a1 a2=some r):HasC Tryz.prog 33 [.int a0,.agg (eQ a1),.list 1 (a2.map eI)] (.agg (eR r)):=by
 refine hM [.cell 6 29] Tryz.func33 Tryz.ntmps33 k<|sR<|ae (wb k) k<|ae (bX aD k k) k<|an<|tn<|sR<|am k k<|lp k8<|oB h λv1 hv1 h=>ae (cQ (aEd a1 v1 hv1) k3 (aZ (lQ k) aS)) k<|ae (wl k) k<|am k k<|cG h λq2 h=>ae (vE aD (l:=([]:(List Int))) (m:=a2) jX q2 k k k k k k k k k k k k) k<|ae (wl k) k<|ae (dE aD k k k k k k) k<|ae (bX aD k k) k<|ae (ws k) k<|an<|tn<|aP (t:=mN [(2,.list 1 (a2.map eI)),(4,.ptr 0 0 0),(6,.ptr 1 0 0),(7,.ptr 7 0 0)] [(0,⟨3,[eQ a1]⟩),(1,⟨6,[iS]⟩),(2,⟨1,v1.src.map (ow eI)⟩),(3,⟨1,v1.tgt.map (ow eI)⟩),(5,⟨1,List.map (ow eI) (([]:(List Int))++a2)⟩),(6,⟨3,List.map (ow eM) ([]:(List Mt))⟩),(7,⟨6,[[.int a0,.int v1.n,.own 2 0 v1.src.length,.own 3 0 v1.tgt.length,.own 5 0 ((([]:(List Int))++a2).length),.own 6 0 (([]:(List Mt)).length)]]⟩)] 8) (bS (bK k2) (bN k<|bN k<|bP k<|bP k<|bP k<|cD (cE.plainO _) k<|hX ⟨_,k,k,.inr ⟨_,_,k,⟨_,_,k,k,⟨_,_,k,k,⟨_,_,k,⟨k,k,k,k⟩,⟨_,_,k,⟨k,k,k,k⟩,⟨_,_,k,⟨k,k,k,k⟩,⟨_,_,k,⟨k,k,(by simp only [aO,lA,lT,lR,lC,lN]),k⟩,k⟩⟩⟩⟩⟩⟩,k⟩⟩ k<|aR) k4)<|sQ<|sR<|aT k2<|aE<|oB h λy10 hy10 h=>cC (body:=(uZ a1 a2)) hy10 (λ(x1:((List Mt)×Int))=>mN [(2,.list 1 (a2.map eI)),(4,.ptr 0 0 0),(6,.ptr 1 0 0),(7,.ptr 2 0 0),(8,.int x1.2)] [(0,⟨3,[eQ a1]⟩),(1,⟨6,[iS]⟩),(2,⟨6,[[.int a0,.int v1.n,.own 3 0 v1.src.length,.own 4 0 v1.tgt.length,.own 5 0 ((([]:(List Int))++a2).length),.own 6 0 x1.1.length]]⟩),(3,⟨1,v1.src.map (ow eI)⟩),(4,⟨1,v1.tgt.map (ow eI)⟩),(5,⟨1,List.map (ow eI) (([]:(List Int))++a2)⟩),(6,⟨3,x1.1.map (ow eM)⟩)] 7) (λr e t=>e= .exit 0∧Ent t (mN [(6,.ptr 0 0 0),(7,.ptr 1 0 0)] [(0,⟨6,[iS]⟩),(1,⟨6,[[.int a0,.int v1.n,.own 2 0 v1.src.length,.own 3 0 v1.tgt.length,.own 4 0 ((([]:(List Int))++a2).length),.own 5 0 r.length]]⟩),(2,⟨1,v1.src.map (ow eI)⟩),(3,⟨1,v1.tgt.map (ow eI)⟩),(4,⟨1,List.map (ow eI) (([]:(List Int))++a2)⟩),(5,⟨3,r.map (ow eM)⟩)] 6)) (mX [0,1,7,2,3,5,6] (bK k2) (bN k<|bN k<|fF k<|bP k<|bP k<|bP k<|cD (cE.plainO _) k<|aR) k4) ?_ ?_
 ·intro x1 o h;refine sQ<|sR<|am k k<|fp k8<|lp k8<|ln k4<|cm k4<|an<|tn<|dR k h (λ_ h=>?_) λ_ h=>aU<|aB<|aB<|sp h ⟨_,k,k,(mX [1,2,3,4,5,6] (bK k2) (bN k<|fF k<|bP k<|bP k<|bP k<|cD (cE.plainO _) k<|aR) k4)⟩;refine aG<|tn<|sQ<|aE<|aN gD<|fp k8<|lp k8<|am k k<|fp k8<|lp k8<|am k k<|oB h λv4 hv4 h=>ae (xl hv4 k) k<|lr k7<|oB h λv5 hv5 h=>ae (xl hv5 k) k<|lr k7<|am k k<|fp k8<|lp k8<|am k k<|oB h λv6 hv6 h=>ae (xl hv6 k) k<|lr k7<|oB h λv7 hv7 h=>ae (xl hv7 k) k<|lr k7<|oB h λv8 hv8 h=>ae (cM (aEX v5 v7 v8 hv8) k3 (dW k (dW k aS))) k<|ae (wl k) k<|cG h λq9 h=>ae (jY aD (l:=x1.1) (c:=[.int v8.rows,.int v8.cols,.own 7 0 v8.cells.length]) q9 k k k k k k k k k k k k k k) k<|fp k8<|ae (ws k) k<|an ?_;exact rC (by kernel_rfl)<|aV<|tn<|aP (t:=mN [(2,.list 1 (a2.map eI)),(4,.ptr 0 0 0),(6,.ptr 1 0 0),(7,.ptr 2 0 0),(8,.int x1.2)] [(0,⟨3,[eQ a1]⟩),(1,⟨6,[iS]⟩),(2,⟨6,[[.int a0,.int v1.n,.own 3 0 v1.src.length,.own 4 0 v1.tgt.length,.own 5 0 ((([]:(List Int))++a2).length),.own 9 0 ((x1.1++[v8]).length)]]⟩),(3,⟨1,v1.src.map (ow eI)⟩),(4,⟨1,v1.tgt.map (ow eI)⟩),(5,⟨1,List.map (ow eI) (([]:(List Int))++a2)⟩),(9,⟨3,List.map (ow eM) (x1.1++[v8])⟩)] 10) (Ent.trans (eY (b:=9) (b':=7) (j:=2) (es':=v8.cells.map eI) k k k k (aO _ _) (cP.frzs _)) (bS (bK k2) (bN k<|bN k<|hX ⟨_,k,k,.inr ⟨_,_,k,⟨_,_,k,k,⟨_,_,k,k,⟨_,_,k,⟨k,k,k,k⟩,⟨_,_,k,⟨k,k,k,k⟩,⟨_,_,k,⟨k,k,k,k⟩,⟨_,_,k,⟨k,k,(by simp only [aO,lA,lT,lR,lC,lN]),k⟩,k⟩⟩⟩⟩⟩⟩,k⟩⟩ k<|bP k<|bP k<|bP k<|hX ⟨_,k,k,.inl ⟨kP v8 k,cE.plainO _⟩⟩ k<|aR) k4))<|rg<|am k k<|ae (bF k k) k<|aT k2<|sp h ⟨_,k,(mX [0,1,2,3,4,5,9] (bK k2) (bN k<|bN k<|fF k<|bP k<|bP k<|bP k<|cD (cE.plainO _) k<|aR) k4)⟩
 ·rintro e t ⟨rfl,hent⟩;exact aL<|tn<|aP hent<|sR<|lp k8<|ae (ws k) k<|an<|tn<|aJ<|sp h (bT k k k (pH (aH (k) (aH (k) (aH (eX cP k k) (aH (eX cP k k) (aH (eX cP k k) (aH (eX cE k k) eH))))))))
def lM (v7:Rp) (v11:List Int) (x1:(List Mt)):Option ((List Mt) ⊕ (Rp×Bool)):=
 (sW v7.maps v11).bind λv12=>
 (vV (⟨v7.p,v7.q,v7.dims,v12⟩:Rp) (⟨v7.p,v7.q,v7.dims,v12⟩:Rp)).bind λv13=>
 bif decide (v13=1) then
 (some (.inr (((⟨v7.p,v7.q,v7.dims,v12⟩:Rp),true))))
 else
 (some (.inl v12))
def yG (a0:Int) (a1:Qv) (a2:(List Int)):Option (Rp×Bool):=
 (kS a0).bind λv1=>
 bif !v1 then
 (some (((⟨0,(⟨0,[],[]⟩:Qv),[],[]⟩:Rp),false)))
 else
 ((zU a1 a2).bind λv3=>
 bif !v3 then
 (some (((⟨0,(⟨0,[],[]⟩:Qv),[],[]⟩:Rp),false)))
 else
 ((qR a1 a2).bind λv5=>
 bif !v5 then
 (some (((⟨0,(⟨0,[],[]⟩:Qv),[],[]⟩:Rp),false)))
 else
 ((uE a0 a1 a2).bind λv7=>
 (kT v7.maps).bind λv8=>
 bif decide (10<((v8.length:Nat):Int)) then
 (some (((⟨0,(⟨0,[],[]⟩:Qv),[],[]⟩:Rp),false)))
 else
 (bif (decide (0≤((v8.length:Nat):Int))&&decide (((v8.length:Nat):Int)≤1048576)) then
 (bif aJQ (List.replicate ((v8.length:Nat):Int).toNat 1) then
 ((Fl (lM v7) (dX (List.replicate ((v8.length:Nat):Int).toNat 1)) v7.maps).bind λy15=>
 Sum.elim (λy15=>
 some (((⟨0,(⟨0,[],[]⟩:Qv),[],[]⟩:Rp),false))
 ) (λy17=>
 some y17
 ) y15)
 else none)
 else none))))
theorem aJU (a0:Int) (a1:Qv) (a2:(List Int)) (r:(Rp×Bool)) (h:yG a0 a1 a2=some r):HasC Tryz.prog 78 [.int a0,.agg (eQ a1),.list 1 (a2.map eI)] (.tuple [.agg (eR r.1),.bl r.2]):=by
 refine hM [.cell 6 29,.cell 7 4] Tryz.func78 Tryz.ntmps78 k<|sR<|ae (wb k) k<|ae (bX aD k k) k<|ae (bX aD k k) k<|an<|tn<|sQ<|sR<|am k k<|oB h λv1 hv1 h=>ae (bC (qO a0 v1 hv1) k (dW k aS)) k<|ae (dL k) k<|am k k<|rA h (λq2 h=>aQ 15 k q2<|aK k4<|aK k4<|pk k3<|am k k<|aK k4<|aK k4<|pk k3<|an<|tn<|fG k k<|sR<|ae (dE aD k k k k k k) k<|ae (ws k) k<|ae (ws k) k<|an<|tn<|aJ<|aI<|sp h (bT k k k (dC k (bW (gX (aH (k) (aH (k) (aH (k) (aH (k) (aH (k) (aH (k) eH))))))) (bW (k) fH))))) λq2 h=>?_;refine aQ 15 k q2<|lp k8<|am k k<|oB h λv3 hv3 h=>ae (bC (aKJ a1 a2 v3 hv3) k (aZ (lQ k) (dW k aS))) k<|ae (dL k) k<|pk k3<|am k k<|rA h (λq4 h=>aQ 21 k q4<|aK k4<|aK k4<|pk k3<|an<|tn<|fG k k<|sR<|ae (dE aD k k k k k k) k<|ae (ws k) k<|ae (ws k) k<|an<|tn<|aJ<|aI<|sp h (bT k k k (dC k (bW (gX (aH (k) (aH (k) (aH (k) (aH (k) (aH (k) (aH (k) eH))))))) (bW (k) fH))))) λq4 h=>?_;refine aQ 21 k q4<|lp k8<|am k k<|oB h λv5 hv5 h=>ae (bC (aAz a1 a2 v5 hv5) k (aZ (lQ k) (dW k aS))) k<|ae (dL k) k<|pk k3<|an<|tn<|dR k h (λ_ h=>sR<|ae (dE aD k k k k k k) k<|ae (ws k) k<|ae (ws k) k<|an<|tn<|aJ<|aI<|sp h (bT k k k (dC k (bW (gX (aH (k) (aH (k) (aH (k) (aH (k) (aH (k) (aH (k) eH))))))) (bW (k) fH))))) λ_ h=>?_;refine aG<|tn<|sR<|am k k<|lp k8<|am k k<|oB h λv7 hv7 h=>ae (cR (aDd a0 a1 a2 v7 hv7) k3 (dW k (aZ (lQ k) (dW k aS)))) k<|ae (bX aD k k) k<|ae (ws k) k<|an<|tn<|aP (t:=mN [(6,.ptr 1 0 0),(7,.ptr 2 0 0),(8,.ptr 7 0 0)] [(1,⟨6,[iS]⟩),(2,⟨1,[[.bl false]]⟩),(3,⟨1,v7.q.src.map (ow eI)⟩),(4,⟨1,v7.q.tgt.map (ow eI)⟩),(5,⟨1,v7.dims.map (ow eI)⟩),(6,⟨3,v7.maps.map (ow eM)⟩),(7,⟨6,[oRp v7 3 4 5 6]⟩)] 8) (bS (bK k2) (bN k<|bN k<|bP k<|bP k<|bP k<|cD (cE.plainO _) k<|fF k<|aR) k4)<|sR<|fp k8<|lp k8<|oB h λv8 hv8 h=>ae (cL cP (aBa v7.maps v8 hv8) k3 (aZ (aAv cE k k) aS)) k<|ae (cA aD k k k k) k<|aT k2<|sQ<|sR<|am k k<|cm k4<|an<|tn<|dR k h (λ_ h=>sR<|ae (dE aD k k k k k k) k<|ae (ws k) k<|ae (ws k) k<|an<|tn<|aJ<|aI<|sp h (bT k k k (dC k (bW (gX (aH (k) (aH (k) (aH (k) (aH (k) (aH (k) (aH (k) eH))))))) (bW (k) fH))))) λ_ h=>?_;refine aG<|tn<|sQ<|aP (aJS (b:=7) (b':=6) (i:=0) (j:=5) (es':=v7.maps.map eM) k k k k (aAu cE k k))<|rg<|fp k8<|lp k8<|ae (bX aD k k) k<|ae (ws k) k<|an<|tn<|sQ<|sR<|ae (wl k) k<|am k k<|cG h λq10 h=>ae (aKt (aKz 1 ((v8.length:Nat):Int) q10) k k (aZ (aPF k k ⟨_,_,k,⟨_,_,k,k,k⟩,k⟩) (dW k aS))) k<|ae (aNq (aQi (List.replicate ((v8.length:Nat):Int).toNat 1)) k k k k) k<|an<|tn<|aE<|cG h λq16 h=>oB h λy15 hy15 h=>aNo (f:=(lM v7)) (σ:=(List Mt)) (ρ:=(Rp×Bool)) y15 v7.maps [(6,.ptr 0 0 0),(7,.ptr 1 0 0),(8,.ptr 2 0 0),(10,.ptr 6 0 0),(44,.fn 169 [.ref [.list 1 (List.map eI (List.replicate ((v8.length:Nat):Int).toNat 1))]])] [(0,⟨6,[[.int 0,.int 0,.nil 1,.nil 1,.nil 1,.nil 3]]⟩),(1,⟨1,[[.bl false]]⟩),(2,⟨6,[[.int v7.p,.int v7.q.n,.own 3 0 v7.q.src.length,.own 4 0 v7.q.tgt.length,.own 5 0 v7.dims.length,.list 3 (v7.maps.map eM)]]⟩),(3,⟨1,v7.q.src.map (ow eI)⟩),(4,⟨1,v7.q.tgt.map (ow eI)⟩),(5,⟨1,v7.dims.map (ow eI)⟩),(6,⟨1,[[.list 3 (v7.maps.map eM)]]⟩)] 7 (nmA.drop 7) (λx1=>[(0,⟨6,[[.int 0,.int 0,.nil 1,.nil 1,.nil 1,.nil 3]]⟩),(1,⟨1,[[.bl false]]⟩),(2,⟨6,[[.int v7.p,.int v7.q.n,.own 3 0 v7.q.src.length,.own 4 0 v7.q.tgt.length,.own 5 0 v7.dims.length,.list 3 (x1.map eM)]]⟩),(3,⟨1,v7.q.src.map (ow eI)⟩),(4,⟨1,v7.q.tgt.map (ow eI)⟩),(5,⟨1,v7.dims.map (ow eI)⟩),(6,⟨1,[[.list 3 (v7.maps.map eM)]]⟩)]) 8 (nmA.drop 8) (λr e t=>e= .ret∧tW TT [.cell 6 29,.cell 7 4] (.tuple [.agg (eR r.1),.bl r.2]) .ret ⟨qG [(6,.ptr 0 0 0),(7,.ptr 1 0 0),(8,.ptr 2 0 0),(10,.ptr 6 0 0),(44,.fn 169 [.ref [.list 1 (List.map eI (List.replicate ((v8.length:Nat):Int).toNat 1))]])],t.heap,t.used,t.ns,0⟩) (aVu q16) hy15 k k k (λ_=>k) (mX [1,2,7,3,4,5,9] (mG 4 k2 (jJ ⟨_,k,⟨k,⟨_,_,k,k,k⟩⟩⟩ aR)) (bN k<|bN k<|fF k<|bP k<|bP k<|bP k<|bN k<|aR) k4) k (bS (mG 5 k2 (jJ ⟨_,k,⟨k,⟨_,_,k,k,k⟩⟩⟩ aR)) (bP k<|bN k<|bN k<|fF k<|bP k<|bP k<|bP k<|bN k<|aR) k4) ?_ ?_
 ·intro x1 v11 o hxv11 h;have hlv11:=bG (zJ hxv11);change AC Tryz.prog _ _ (mN [(45,.own 7 0 ((List.replicate ((v8.length:Nat):Int).toNat 1).length)),(6,.ptr 0 0 0),(7,.ptr 1 0 0),(8,.ptr 2 0 0),(10,.ptr 6 0 0),(44,.fn 169 [.ref [.list 1 (List.map eI (List.replicate ((v8.length:Nat):Int).toNat 1))]])] [(7,⟨1,v11.map (ow eI)⟩),(0,⟨6,[iS]⟩),(1,⟨1,[[.bl false]]⟩),(2,⟨6,[[.int v7.p,.int v7.q.n,.own 3 0 v7.q.src.length,.own 4 0 v7.q.tgt.length,.own 5 0 v7.dims.length,.list 3 (x1.map eM)]]⟩),(3,⟨1,v7.q.src.map (ow eI)⟩),(4,⟨1,v7.q.tgt.map (ow eI)⟩),(5,⟨1,v7.dims.map (ow eI)⟩),(6,⟨1,[[.list 3 (v7.maps.map eM)]]⟩)] 8 ⟨8,false,none,false⟩) _;refine rg<|aa k k<|an ?_;refine ⟨k,?_⟩;exact aE<|sR<|lp k8<|am k k<|oB h λv12 hv12 h=>ae (cL cE (aEZ v7.maps v11 v12 hv12) k3 (dW k (aZ (aAv cP k (by first|rfl|simp only [List.length_set,of_decide_eq_true hlv11])) aS))) k<|fp k8<|ae (ws k) k<|an<|tn<|sR<|lp k8<|lp k8<|oB h λv13 hv13 h=>ae (bC (aKH (⟨v7.p,v7.q,v7.dims,v12⟩:Rp) (⟨v7.p,v7.q,v7.dims,v12⟩:Rp) v13 hv13) k (aZ (vaR k8) (aZ (vaR k8) aS))) k<|cm k4<|an<|tn<|dR k h (λ_ h=>sR<|lp k8<|ae (ws k) k<|ae (ws k) k<|an<|tn<|aJ<|bH<|sp h ⟨k,k,bT k k k (dC k (bW (gX (aH (k) (aH (k) (aH (eX cP k k) (aH (eX cP k k) (aH (eX cP k k) (aH (eX cE k k) eH))))))) (bW (k) fH)))⟩) λ_ h=>aG<|aV<|sp h ⟨k,(Ent.trans (aJS (b:=2) (b':=8) (i:=0) (j:=5) (es':=v12.map eM) k k k k (aAu cE k k)) (bS (mG 5 k2 (jJ ⟨_,k,⟨k,⟨_,_,k,k,k⟩⟩⟩ aR)) (bP k<|bN k<|bN k<|fF k<|bP k<|bP k<|bP k<|bN k<|aR) k4))⟩
 ·rcases y15 with y15|y17
  ·dsimp only;exact aV<|tn<|sR<|ae (dE aD k k k k k k) k<|ae (ws k) k<|ae (ws k) k<|an<|tn<|aJ<|sp h (bT k k k (dC k (bW (gX (aH (k) (aH (k) (aH (k) (aH (k) (aH (k) (aH (k) eH))))))) (bW (k) fH))))
  ·rintro e t ⟨rfl,hent⟩;exact bH<|aI<|sp h hent
def lO (x1:((List Mt)×Int×Int)):Option (((List Mt)×Int×Int) ⊕ ((List Mt)×Int)):=
 bif decide (x1.2.2<((x1.1.length:Nat):Int)) then
 ((cO x1.1 x1.2.2).bind λv9=>
 some (.inl ((x1.1.set x1.2.2.toNat v9),wr (x1.2.1+((v9.cells.length:Nat):Int)),wr (x1.2.2+1))))
 else
 (some (.inr (x1.1,x1.2.1)))
def pA (x3:((List Mt)×Int×Int)) (x4:((List Mt)×Int×Int)):Option (((List Mt)×Int×Int) ⊕ ((List Mt)×Int)):=
 bif decide (0≤x4.2.2) then
 ((cO x4.1 x3.2.2).bind λv16=>
 (cO v16.cells x4.2.2).bind λv17=>
 some (.inl ((x4.1.set x3.2.2.toNat (⟨v16.rows,v16.cols,(v16.cells.set x4.2.2.toNat (x4.2.1.tmod 2))⟩:Mt)),wr (x4.2.1.tdiv 2),wr (x4.2.2 - 1))))
 else
 (some (.inr (x4.1,x4.2.1)))
def pB (x3:((List Mt)×Int×Int)):Option (((List Mt)×Int×Int) ⊕ (List Mt)):=
 bif decide (0≤x3.2.2) then
 ((cO x3.1 x3.2.2).bind λv14=>
 (Lp (pA x3) ((x3.1.set x3.2.2.toNat v14),x3.2.1,wr (((v14.cells.length:Nat):Int) - 1))).bind λy18=>
 some (.inl (y18.1,y18.2,wr (x3.2.2 - 1))))
 else
 (some (.inr x3.1))
def iB (v7:Rp) (y10:((List Mt)×Int)) (x2:((List Mt)×Int)):Option (((List Mt)×Int) ⊕ (Unit ⊕ (Rp×Bool))):=
 bif decide (y10.2≤10) then
 (bif !decide (y10.2<0) then
 (bif decide (x2.2<aPY 1 y10.2) then
 ((Lp pB (x2.1,x2.2,wr (((x2.1.length:Nat):Int) - 1))).bind λy19=>
 (vW (⟨v7.p,v7.q,v7.dims,y19⟩:Rp) (⟨v7.p,v7.q,v7.dims,y19⟩:Rp)).bind λv20=>
 bif decide (v20=1) then
 (some (.inr (.inr (((⟨v7.p,v7.q,v7.dims,y19⟩:Rp),true)))))
 else
 (some (.inl (y19,wr (x2.2+1)))))
 else
 (some (.inr (.inl ()))))
 else none)
 else
 (some (.inr (.inl ())))
def yH (a0:Int) (a1:Qv) (a2:(List Int)):Option (Rp×Bool):=
 (kR a0).bind λv1=>
 bif !v1 then
 (some (((⟨0,(⟨0,[],[]⟩:Qv),[],[]⟩:Rp),false)))
 else
 ((mU a1 a2).bind λv3=>
 bif !v3 then
 (some (((⟨0,(⟨0,[],[]⟩:Qv),[],[]⟩:Rp),false)))
 else
 ((qP a1 a2).bind λv5=>
 bif !v5 then
 (some (((⟨0,(⟨0,[],[]⟩:Qv),[],[]⟩:Rp),false)))
 else
 ((vX a0 a1 a2).bind λv7=>
 (Lp lO (v7.maps,0,0)).bind λy10=>
 (Lp (iB v7 y10) (y10.1,0)).bind λy23=>
 Sum.elim (λy24=>
 some (((⟨0,(⟨0,[],[]⟩:Qv),[],[]⟩:Rp),false))
 )
 (λy25=>
 some y25
 )
 y23)))
theorem aJV (a0:Int) (a1:Qv) (a2:(List Int)) (r:(Rp×Bool)) (h:yH a0 a1 a2=some r):HasC Tryz.prog 73 [.int a0,.agg (eQ a1),.list 1 (a2.map eI)] (.tuple [.agg (eR r.1),.bl r.2]):=by
 refine aFd aD (rvs:=[.cell 6 29,.tmp 7]) (ns:=nmA) Tryz.func73 k k Tryz.ntmps73 k k k (λW=>?_);refine aIE<|aCM<|wC<|sZ (λw1_1 S1_1 r1_1=>?_);refine sZ (λw1_2 S1_2 r1_2=>?_);refine aAC<|aPM (λw2_0 S2_0 r2_0=>?_);refine aCL<|sS<|se (wb k) k<|se (bX aD k k) k<|gT k2<|sn<|tn<|sQ<|sS<|eV k2<|oB h λv1 hv1 h=>se (oD (qN a0 v1 hv1) k (wkS k jO)) k<|se (dL k) k<|eV k2<|rA h (λq2 h=>iK 18 k q2<|cF k k<|cF k k<|cF k k<|cF k k<|pkS k3<|eV k2<|cF k k<|cF k k<|cF k k<|cF k k<|pkS k3<|sn<|tn<|fG k k<|sS<|se (dE aD k k k k k k) k<|se (ws k) k<|gT k2<|sn<|tn<|aJ<|aI<|sp h (bT k k k (dC k (bW (gX (aH (k) (aH (k) (aH (k) (aH (k) (aH (k) (aH (k) eH))))))) (bW (k) fH))))) λq2 h=>?_;refine iK 18 k q2<|zD k8<|eV k2<|oB h λv3 hv3 h=>se (oD (aBr a1 a2 v3 hv3) k (fY (.inr (eG (tD k k) (eG (jN k r1_1) (eG (jN k r1_2) xU)))) (wkD k r2_0 jO))) k<|se (dL k) k<|pkS k3<|eV k2<|rA h (λq4 h=>iK 24 k q4<|cF k k<|cF k k<|cF k k<|cF k k<|pkS k3<|sn<|tn<|fG k k<|sS<|se (dE aD k k k k k k) k<|se (ws k) k<|gT k2<|sn<|tn<|aJ<|aI<|sp h (bT k k k (dC k (bW (gX (aH (k) (aH (k) (aH (k) (aH (k) (aH (k) (aH (k) eH))))))) (bW (k) fH))))) λq4 h=>?_;refine iK 24 k q4<|zD k8<|eV k2<|oB h λv5 hv5 h=>se (oD (aAy a1 a2 v5 hv5) k (fY (.inr (eG (tD k k) (eG (jN k r1_1) (eG (jN k r1_2) xU)))) (wkD k r2_0 jO))) k<|se (dL k) k<|pkS k3<|sn<|tn<|dR k h (λ_ h=>sS<|se (dE aD k k k k k k) k<|se (ws k) k<|gT k2<|sn<|tn<|aJ<|aI<|sp h (bT k k k (dC k (bW (gX (aH (k) (aH (k) (aH (k) (aH (k) (aH (k) (aH (k) eH))))))) (bW (k) fH))))) λ_ h=>?_;refine aG<|tn<|sS<|eV k2<|zD k8<|eV k2<|oB h λv7 hv7 h=>se (cRK (aEe a0 a1 a2 v7 hv7) k3 (wkS k (fY (.inr (eG (tD k k) (eG (jN k r1_1) (eG (jN k r1_2) xU)))) (wkD k r2_0 jO)))) k<|se (bX aD k k) k<|se (ws k) k<|sn<|tn<|aP (t:=mN [(6,.ptr 1 0 0),(8,.ptr 6 0 0)] [(1,⟨6,[iS]⟩),(2,⟨1,v7.q.src.map (ow eI)⟩),(3,⟨1,v7.q.tgt.map (ow eI)⟩),(4,⟨1,v7.dims.map (ow eI)⟩),(5,⟨3,v7.maps.map (ow eM)⟩),(6,⟨6,[oRp v7 2 3 4 5]⟩)] 7 ⟨0,true,rB W,true⟩) (bS (bK k2) (bN k<|bP k<|bP k<|bP k<|cD (cE.plainO _) k<|fF k<|aR) k4)<|sS<|gT k2<|sn<|tn<|sQ<|sS<|gT k2<|sn<|tn<|aE<|oB h λy10 hy10 h=>cC (body:=lO) hy10 (λ(x1:((List Mt)×Int×Int))=>mN [(6,.ptr 0 0 0),(8,.ptr 1 0 0),(9,.int x1.2.1),(10,.int x1.2.2)] [(0,⟨6,[iS]⟩),(1,⟨6,[[.int v7.p,.int v7.q.n,.own 2 0 v7.q.src.length,.own 3 0 v7.q.tgt.length,.own 4 0 v7.dims.length,.own 5 0 x1.1.length]]⟩),(2,⟨1,v7.q.src.map (ow eI)⟩),(3,⟨1,v7.q.tgt.map (ow eI)⟩),(4,⟨1,v7.dims.map (ow eI)⟩),(5,⟨3,x1.1.map (ow eM)⟩)] 6 ⟨0,true,rB W,true⟩) (λr e t=>e= .exit 0∧Ent t (mN [(6,.ptr 0 0 0),(8,.ptr 1 0 0),(9,.int r.2)] [(0,⟨6,[iS]⟩),(1,⟨6,[[.int v7.p,.int v7.q.n,.own 2 0 v7.q.src.length,.own 3 0 v7.q.tgt.length,.own 4 0 v7.dims.length,.own 5 0 r.1.length]]⟩),(2,⟨1,v7.q.src.map (ow eI)⟩),(3,⟨1,v7.q.tgt.map (ow eI)⟩),(4,⟨1,v7.dims.map (ow eI)⟩),(5,⟨3,r.1.map (ow eM)⟩)] 6 ⟨0,true,rB W,true⟩)) (mX [1,6,2,3,4,5] (bK k2) (bN k<|fF k<|bP k<|bP k<|bP k<|cD (cE.plainO _) k<|aR) k4) ?_ ?_
 ·intro x1 o h;refine sQ<|sS<|eV k2<|fpS k8<|zD k8<|se (cA aD k k k k) k<|cmS k4<|sn<|tn<|dR k h (λ_ h=>?_) λ_ h=>aU<|aB<|aB<|sp h ⟨_,k,k,(bS (bK k2) (bN k<|fF k<|bP k<|bP k<|bP k<|cD (cE.plainO _) k<|aR) k4)⟩;exact aG<|tn<|sQ<|aE<|rgS<|eV k2<|fpS k8<|zD k8<|eV k2<|oB h λv9 hv9 h=>iJ (t:=mN [(6,.ptr 0 0 0),(8,.ptr 1 0 0),(9,.int x1.2.1),(10,.int x1.2.2),(35,.int x1.2.2),(36,.ptr 1 0 5),(37,.own 5 0 x1.1.length),(38,.int ((x1.1.length:Nat):Int)),(39,.bl (decide (x1.2.2<((x1.1.length:Nat):Int)))),(42,.int x1.2.1),(43,.ptr 1 0 5),(44,.own 5 0 x1.1.length),(45,.int x1.2.2)] [(0,⟨6,[iS]⟩),(1,⟨6,[[.int v7.p,.int v7.q.n,.own 2 0 v7.q.src.length,.own 3 0 v7.q.tgt.length,.own 4 0 v7.dims.length,.own 5 0 x1.1.length]]⟩),(2,⟨1,v7.q.src.map (ow eI)⟩),(3,⟨1,v7.q.tgt.map (ow eI)⟩),(4,⟨1,v7.dims.map (ow eI)⟩),(5,⟨3,(x1.1.map (ow eM)).set x1.2.2.toNat [.int v9.rows,.int v9.cols,.abs 1 (v9.cells.map eI)]⟩)] 6 ⟨0,true,rB W,true⟩) (bS (bK k2) (bN k<|fF k<|bP k<|bP k<|bP k<|hX ⟨_,k,k,.inl ⟨aAw (dB hv9),zA cE k⟩⟩ k<|aR) k4)<|iJ (zB (b:=5) (c:=6) (i:=x1.2.2.toNat) (j:=2) (n:=v9.cells.length) (A:=x1.1.map (ow eM)) (fs:=v9.cells.map (ow eI)) (by rw [fD];exact iR hv9) k k k k (aO _ _) (gA _ _) (aBm ⟨k,k,k,k,k,k,k,k,k,k,k,k,k,aR⟩) (aBn (skip:=[]) ⟨.inr (vI k),.inr (vI k),.inr (cP.df _ _),.inr (cP.df _ _),.inr (cP.df _ _),.inr (cE.dfS _ _ _ k),aR⟩))<|iJ (t:=mN [(6,.ptr 0 0 0),(8,.ptr 1 0 0),(9,.int x1.2.1),(10,.int x1.2.2),(35,.int x1.2.2),(36,.ptr 1 0 5),(37,.own 5 0 x1.1.length),(38,.int ((x1.1.length:Nat):Int)),(39,.bl (decide (x1.2.2<((x1.1.length:Nat):Int)))),(42,.int x1.2.1),(43,.ptr 1 0 5),(44,.own 5 0 x1.1.length),(45,.int x1.2.2)] [(0,⟨6,[iS]⟩),(1,⟨6,[[.int v7.p,.int v7.q.n,.own 2 0 v7.q.src.length,.own 3 0 v7.q.tgt.length,.own 4 0 v7.dims.length,.own 5 0 x1.1.length]]⟩),(2,⟨1,v7.q.src.map (ow eI)⟩),(3,⟨1,v7.q.tgt.map (ow eI)⟩),(4,⟨1,v7.dims.map (ow eI)⟩),(5,⟨3,(x1.1.map (ow eM)).set x1.2.2.toNat [.int v9.rows,.int v9.cols,.own 6 0 v9.cells.length]⟩),(6,⟨1,v9.cells.map (ow eI)⟩)] 7 ⟨0,true,rB W,true⟩) (fX (σ:=sg [(0,0),(1,1),(2,2),(3,3),(4,4),(5,5),(6,6)]) (bK k2) (bN k<|fF k<|bP k<|bP k<|bP k<|hX ⟨_,k,k,.inr (aBX (σ:=sg [(0,0),(1,1),(2,2),(3,3),(4,4),(5,5),(6,6)]) (m:=7) (e:=eM) (l:=x1.1) (i:=x1.2.2.toNat) (c:=[.int v9.rows,.int v9.cols,.own 6 0 v9.cells.length]) (d:=[.int v9.rows,.int v9.cols,.own 6 0 v9.cells.length]) cE ⟨_,_,k,k,⟨_,_,k,k,⟨_,_,k,⟨k,k,k,k⟩,k⟩⟩⟩)⟩ k<|bP k<|aR) k)<|se (xo hv9 k) k<|fpS k8<|se (cI aD k k k k (aEq (iR hv9)) k k) k<|se (cA aD k k k k) k<|se (bF k k) k<|gT k2<|sn<|aV<|tn<|aP (t:=mN [(6,.ptr 0 0 0),(8,.ptr 1 0 0),(9,.int (wr (x1.2.1+((v9.cells.length:Nat):Int)))),(10,.int x1.2.2)] [(0,⟨6,[iS]⟩),(1,⟨6,[[.int v7.p,.int v7.q.n,.own 2 0 v7.q.src.length,.own 3 0 v7.q.tgt.length,.own 4 0 v7.dims.length,.own 5 0 ((x1.1.set x1.2.2.toNat v9).length)]]⟩),(2,⟨1,v7.q.src.map (ow eI)⟩),(3,⟨1,v7.q.tgt.map (ow eI)⟩),(4,⟨1,v7.dims.map (ow eI)⟩),(5,⟨3,List.map (ow eM) (x1.1.set x1.2.2.toNat v9)⟩)] 7 ⟨0,true,rB W,true⟩) (Ent.trans (zZ (b:=5) (b':=6) (j:=2) (es':=v9.cells.map eI) (by rw [fD];exact iR hv9) k k k k (aO _ _) (cP.frzs _)) (bS (bK k2) (bN k<|hX ⟨_,k,k,.inr ⟨_,_,k,⟨_,_,k,k,⟨_,_,k,k,⟨_,_,k,⟨k,k,k,k⟩,⟨_,_,k,⟨k,k,k,k⟩,⟨_,_,k,⟨k,k,k,k⟩,⟨_,_,k,⟨k,k,(by simp only [aO,lA,lT,lR,lC,lN]),k⟩,k⟩⟩⟩⟩⟩⟩,k⟩⟩ k<|bP k<|bP k<|bP k<|hX ⟨_,k,k,.inl ⟨aDT v9 k,cE.plainO _⟩⟩ k<|aR) k4))<|rgS<|eV k2<|se (bF k k) k<|gT k2<|sn<|tn<|sp h ⟨_,k,(bS (bK k2) (bN k<|fF k<|bP k<|bP k<|bP k<|cD (cE.plainO _) k<|aR) k4)⟩
 ·rintro e t ⟨rfl,hent⟩;refine aL<|tn<|aP hent<|sQ<|sS<|gT k2<|sn<|tn<|aE<|oB h λy23 hy23 h=>cC (body:=(iB v7 y10)) hy23 (λ(x2:((List Mt)×Int))=>mN [(6,.ptr 0 0 0),(8,.ptr 1 0 0),(9,.int y10.2),(11,.int x2.2)] [(0,⟨6,[iS]⟩),(1,⟨6,[[.int v7.p,.int v7.q.n,.own 2 0 v7.q.src.length,.own 3 0 v7.q.tgt.length,.own 4 0 v7.dims.length,.own 5 0 x2.1.length]]⟩),(2,⟨1,v7.q.src.map (ow eI)⟩),(3,⟨1,v7.q.tgt.map (ow eI)⟩),(4,⟨1,v7.dims.map (ow eI)⟩),(5,⟨3,x2.1.map (ow eM)⟩)] 6 ⟨0,true,rB W,true⟩) (λr e t=>Sum.elim (λa=>(λr e t=>e= .exit 2∧Ent t (mN [(6,.ptr 0 0 0)] [(0,⟨6,[iS]⟩)] 1 ⟨0,true,rB W,true⟩)) a e t) (λb=>(λr e t=>e= .ret∧tW TT [.cell 6 29,.tmp 7] (.tuple [.agg (eR r.1),.bl r.2]) .ret t) b e t) r) (bS (bK k2) (bN k<|fF k<|bP k<|bP k<|bP k<|cD (cE.plainO _) k<|aR) k4) ?_ ?_
  ·intro x2 o h;refine sQ<|sS<|eV k2<|cmS k4<|eV k2<|rA h (λq11 h=>?_) λq11 h=>iK 53 k q11<|cF k k<|cF k k<|cF k k<|cF k k<|pkS k3<|sn<|tn<|jS k k<|aU<|aB<|aB<|sp h ⟨_,k,k,(bS (bK k2) (bN k<|aR) k4)⟩;refine iK 53 k q11<|eV k2<|eV k2<|cG h λq22 h=>se (aTU k k q22) k<|cmS k4<|pkS k3<|sn<|tn<|dR k h (λ_ h=>?_) λ_ h=>aU<|aB<|aB<|sp h ⟨_,k,k,(bS (bK k2) (bN k<|aR) k4)⟩;refine aG<|tn<|sQ<|aE<|sS<|eV k2<|gT k2<|sn<|tn<|sQ<|sS<|fpS k8<|zD k8<|se (cA aD k k k k) k<|se (iV k k) k<|gT k2<|sn<|tn<|aE<|oB h λy19 hy19 h=>cC (body:=pB) hy19 (λ(x3:((List Mt)×Int×Int))=>mN [(6,.ptr 0 0 0),(8,.ptr 1 0 0),(9,.int y10.2),(11,.int x2.2),(12,.int x3.2.1),(13,.int x3.2.2)] [(0,⟨6,[iS]⟩),(1,⟨6,[[.int v7.p,.int v7.q.n,.own 2 0 v7.q.src.length,.own 3 0 v7.q.tgt.length,.own 4 0 v7.dims.length,.own 5 0 x3.1.length]]⟩),(2,⟨1,v7.q.src.map (ow eI)⟩),(3,⟨1,v7.q.tgt.map (ow eI)⟩),(4,⟨1,v7.dims.map (ow eI)⟩),(5,⟨3,x3.1.map (ow eM)⟩)] 6 ⟨0,true,rB W,true⟩) (λr e t=>e= .exit 4∧Ent t (mN [(6,.ptr 0 0 0),(8,.ptr 1 0 0),(9,.int y10.2),(11,.int x2.2)] [(0,⟨6,[iS]⟩),(1,⟨6,[[.int v7.p,.int v7.q.n,.own 2 0 v7.q.src.length,.own 3 0 v7.q.tgt.length,.own 4 0 v7.dims.length,.own 5 0 r.length]]⟩),(2,⟨1,v7.q.src.map (ow eI)⟩),(3,⟨1,v7.q.tgt.map (ow eI)⟩),(4,⟨1,v7.dims.map (ow eI)⟩),(5,⟨3,r.map (ow eM)⟩)] 6 ⟨0,true,rB W,true⟩)) (bS (bK k2) (bN k<|fF k<|bP k<|bP k<|bP k<|cD (cE.plainO _) k<|aR) k4) ?_ ?_
   ·intro x3 o h;refine sQ<|sS<|eV k2<|cmS k4<|sn<|tn<|dR k h (λ_ h=>?_) λ_ h=>aU<|aB<|aB<|sp h ⟨_,k,k,(bS (bK k2) (bN k<|fF k<|bP k<|bP k<|bP k<|cD (cE.plainO _) k<|aR) k4)⟩;refine aG<|tn<|sQ<|aE<|sS<|fpS k8<|zD k8<|eV k2<|oB h λv14 hv14 h=>iJ (t:=mN [(6,.ptr 0 0 0),(8,.ptr 1 0 0),(9,.int y10.2),(11,.int x2.2),(12,.int x3.2.1),(13,.int x3.2.2),(66,.int x3.2.2),(67,.bl (decide (0≤x3.2.2))),(70,.ptr 1 0 5),(71,.own 5 0 x3.1.length),(72,.int x3.2.2)] [(0,⟨6,[iS]⟩),(1,⟨6,[[.int v7.p,.int v7.q.n,.own 2 0 v7.q.src.length,.own 3 0 v7.q.tgt.length,.own 4 0 v7.dims.length,.own 5 0 x3.1.length]]⟩),(2,⟨1,v7.q.src.map (ow eI)⟩),(3,⟨1,v7.q.tgt.map (ow eI)⟩),(4,⟨1,v7.dims.map (ow eI)⟩),(5,⟨3,(x3.1.map (ow eM)).set x3.2.2.toNat [.int v14.rows,.int v14.cols,.abs 1 (v14.cells.map eI)]⟩)] 6 ⟨0,true,rB W,true⟩) (bS (bK k2) (bN k<|fF k<|bP k<|bP k<|bP k<|hX ⟨_,k,k,.inl ⟨aAw (dB hv14),zA cE k⟩⟩ k<|aR) k4)<|iJ (zB (b:=5) (c:=6) (i:=x3.2.2.toNat) (j:=2) (n:=v14.cells.length) (A:=x3.1.map (ow eM)) (fs:=v14.cells.map (ow eI)) (by rw [fD];exact iR hv14) k k k k (aO _ _) (gA _ _) (aBm ⟨k,k,k,k,k,k,k,k,k,k,k,aR⟩) (aBn (skip:=[]) ⟨.inr (vI k),.inr (vI k),.inr (cP.df _ _),.inr (cP.df _ _),.inr (cP.df _ _),.inr (cE.dfS _ _ _ k),aR⟩))<|iJ (t:=mN [(6,.ptr 0 0 0),(8,.ptr 1 0 0),(9,.int y10.2),(11,.int x2.2),(12,.int x3.2.1),(13,.int x3.2.2),(66,.int x3.2.2),(67,.bl (decide (0≤x3.2.2))),(70,.ptr 1 0 5),(71,.own 5 0 x3.1.length),(72,.int x3.2.2)] [(0,⟨6,[iS]⟩),(1,⟨6,[[.int v7.p,.int v7.q.n,.own 2 0 v7.q.src.length,.own 3 0 v7.q.tgt.length,.own 4 0 v7.dims.length,.own 5 0 x3.1.length]]⟩),(2,⟨1,v7.q.src.map (ow eI)⟩),(3,⟨1,v7.q.tgt.map (ow eI)⟩),(4,⟨1,v7.dims.map (ow eI)⟩),(5,⟨3,(x3.1.map (ow eM)).set x3.2.2.toNat [.int v14.rows,.int v14.cols,.own 6 0 v14.cells.length]⟩),(6,⟨1,v14.cells.map (ow eI)⟩)] 7 ⟨0,true,rB W,true⟩) (fX (σ:=sg [(0,0),(1,1),(2,2),(3,3),(4,4),(5,5),(6,6)]) (bK k2) (bN k<|fF k<|bP k<|bP k<|bP k<|hX ⟨_,k,k,.inr (aBX (σ:=sg [(0,0),(1,1),(2,2),(3,3),(4,4),(5,5),(6,6)]) (m:=7) (e:=eM) (l:=x3.1) (i:=x3.2.2.toNat) (c:=[.int v14.rows,.int v14.cols,.own 6 0 v14.cells.length]) (d:=[.int v14.rows,.int v14.cols,.own 6 0 v14.cells.length]) cE ⟨_,_,k,k,⟨_,_,k,k,⟨_,_,k,⟨k,k,k,k⟩,k⟩⟩⟩)⟩ k<|bP k<|aR) k)<|se (xo hv14 k) k<|fpS k8<|se (cI aD k k k k (aEq (iR hv14)) k k) k<|se (cA aD k k k k) k<|se (iV k k) k<|gT k2<|sn<|tn<|aP (t:=mN [(6,.ptr 0 0 0),(8,.ptr 1 0 0),(9,.int y10.2),(11,.int x2.2),(12,.int x3.2.1),(13,.int x3.2.2),(14,.int (wr (((v14.cells.length:Nat):Int) - 1)))] [(0,⟨6,[iS]⟩),(1,⟨6,[[.int v7.p,.int v7.q.n,.own 2 0 v7.q.src.length,.own 3 0 v7.q.tgt.length,.own 4 0 v7.dims.length,.own 5 0 ((x3.1.set x3.2.2.toNat v14).length)]]⟩),(2,⟨1,v7.q.src.map (ow eI)⟩),(3,⟨1,v7.q.tgt.map (ow eI)⟩),(4,⟨1,v7.dims.map (ow eI)⟩),(5,⟨3,List.map (ow eM) (x3.1.set x3.2.2.toNat v14)⟩)] 7 ⟨0,true,rB W,true⟩) (Ent.trans (zZ (b:=5) (b':=6) (j:=2) (es':=v14.cells.map eI) (by rw [fD];exact iR hv14) k k k k (aO _ _) (cP.frzs _)) (bS (bK k2) (bN k<|hX ⟨_,k,k,.inr ⟨_,_,k,⟨_,_,k,k,⟨_,_,k,k,⟨_,_,k,⟨k,k,k,k⟩,⟨_,_,k,⟨k,k,k,k⟩,⟨_,_,k,⟨k,k,k,k⟩,⟨_,_,k,⟨k,k,(by simp only [aO,lA,lT,lR,lC,lN]),k⟩,k⟩⟩⟩⟩⟩⟩,k⟩⟩ k<|bP k<|bP k<|bP k<|hX ⟨_,k,k,.inl ⟨aDT v14 k,cE.plainO _⟩⟩ k<|aR) k4))<|aE<|oB h λy18 hy18 h=>cC (body:=(pA x3)) hy18 (λ(x4:((List Mt)×Int×Int))=>mN [(6,.ptr 0 0 0),(8,.ptr 1 0 0),(9,.int y10.2),(11,.int x2.2),(12,.int x4.2.1),(13,.int x3.2.2),(14,.int x4.2.2)] [(0,⟨6,[iS]⟩),(1,⟨6,[[.int v7.p,.int v7.q.n,.own 2 0 v7.q.src.length,.own 3 0 v7.q.tgt.length,.own 4 0 v7.dims.length,.own 5 0 x4.1.length]]⟩),(2,⟨1,v7.q.src.map (ow eI)⟩),(3,⟨1,v7.q.tgt.map (ow eI)⟩),(4,⟨1,v7.dims.map (ow eI)⟩),(5,⟨3,x4.1.map (ow eM)⟩)] 6 ⟨0,true,rB W,true⟩) (λr e t=>e= .exit 6∧Ent t (mN [(6,.ptr 0 0 0),(8,.ptr 1 0 0),(9,.int y10.2),(11,.int x2.2),(12,.int r.2),(13,.int x3.2.2)] [(0,⟨6,[iS]⟩),(1,⟨6,[[.int v7.p,.int v7.q.n,.own 2 0 v7.q.src.length,.own 3 0 v7.q.tgt.length,.own 4 0 v7.dims.length,.own 5 0 r.1.length]]⟩),(2,⟨1,v7.q.src.map (ow eI)⟩),(3,⟨1,v7.q.tgt.map (ow eI)⟩),(4,⟨1,v7.dims.map (ow eI)⟩),(5,⟨3,r.1.map (ow eM)⟩)] 6 ⟨0,true,rB W,true⟩)) (bS (bK k2) (bN k<|fF k<|bP k<|bP k<|bP k<|cD (cE.plainO _) k<|aR) k4) ?_ ?_
    ·intro x4 o h;refine sQ<|sS<|eV k2<|cmS k4<|sn<|tn<|dR k h (λ_ h=>?_) λ_ h=>aU<|aB<|aB<|sp h ⟨_,k,k,(bS (bK k2) (bN k<|fF k<|bP k<|bP k<|bP k<|cD (cE.plainO _) k<|aR) k4)⟩;refine aG<|tn<|sQ<|aE<|sS<|fpS k8<|zD k8<|eV k2<|oB h λv16 hv16 h=>iJ (t:=mN [(6,.ptr 0 0 0),(8,.ptr 1 0 0),(9,.int y10.2),(11,.int x2.2),(12,.int x4.2.1),(13,.int x3.2.2),(14,.int x4.2.2),(78,.int x4.2.2),(79,.bl (decide (0≤x4.2.2))),(82,.ptr 1 0 5),(83,.own 5 0 x4.1.length),(84,.int x3.2.2)] [(0,⟨6,[iS]⟩),(1,⟨6,[[.int v7.p,.int v7.q.n,.own 2 0 v7.q.src.length,.own 3 0 v7.q.tgt.length,.own 4 0 v7.dims.length,.own 5 0 x4.1.length]]⟩),(2,⟨1,v7.q.src.map (ow eI)⟩),(3,⟨1,v7.q.tgt.map (ow eI)⟩),(4,⟨1,v7.dims.map (ow eI)⟩),(5,⟨3,(x4.1.map (ow eM)).set x3.2.2.toNat [.int v16.rows,.int v16.cols,.abs 1 (v16.cells.map eI)]⟩)] 6 ⟨0,true,rB W,true⟩) (bS (bK k2) (bN k<|fF k<|bP k<|bP k<|bP k<|hX ⟨_,k,k,.inl ⟨aAw (dB hv16),zA cE k⟩⟩ k<|aR) k4)<|iJ (zB (b:=5) (c:=6) (i:=x3.2.2.toNat) (j:=2) (n:=v16.cells.length) (A:=x4.1.map (ow eM)) (fs:=v16.cells.map (ow eI)) (by rw [fD];exact iR hv16) k k k k (aO _ _) (gA _ _) (aBm ⟨k,k,k,k,k,k,k,k,k,k,k,k,aR⟩) (aBn (skip:=[]) ⟨.inr (vI k),.inr (vI k),.inr (cP.df _ _),.inr (cP.df _ _),.inr (cP.df _ _),.inr (cE.dfS _ _ _ k),aR⟩))<|iJ (t:=mN [(6,.ptr 0 0 0),(8,.ptr 1 0 0),(9,.int y10.2),(11,.int x2.2),(12,.int x4.2.1),(13,.int x3.2.2),(14,.int x4.2.2),(78,.int x4.2.2),(79,.bl (decide (0≤x4.2.2))),(82,.ptr 1 0 5),(83,.own 5 0 x4.1.length),(84,.int x3.2.2)] [(0,⟨6,[iS]⟩),(1,⟨6,[[.int v7.p,.int v7.q.n,.own 2 0 v7.q.src.length,.own 3 0 v7.q.tgt.length,.own 4 0 v7.dims.length,.own 5 0 x4.1.length]]⟩),(2,⟨1,v7.q.src.map (ow eI)⟩),(3,⟨1,v7.q.tgt.map (ow eI)⟩),(4,⟨1,v7.dims.map (ow eI)⟩),(5,⟨3,(x4.1.map (ow eM)).set x3.2.2.toNat [.int v16.rows,.int v16.cols,.own 6 0 v16.cells.length]⟩),(6,⟨1,v16.cells.map (ow eI)⟩)] 7 ⟨0,true,rB W,true⟩) (fX (σ:=sg [(0,0),(1,1),(2,2),(3,3),(4,4),(5,5),(6,6)]) (bK k2) (bN k<|fF k<|bP k<|bP k<|bP k<|hX ⟨_,k,k,.inr (aBX (σ:=sg [(0,0),(1,1),(2,2),(3,3),(4,4),(5,5),(6,6)]) (m:=7) (e:=eM) (l:=x4.1) (i:=x3.2.2.toNat) (c:=[.int v16.rows,.int v16.cols,.own 6 0 v16.cells.length]) (d:=[.int v16.rows,.int v16.cols,.own 6 0 v16.cells.length]) cE ⟨_,_,k,k,⟨_,_,k,k,⟨_,_,k,⟨k,k,k,k⟩,k⟩⟩⟩)⟩ k<|bP k<|aR) k)<|se (xo hv16 k) k<|fpS k8<|se (cI aD k k k k (aEq (iR hv16)) k k) k<|eV k2<|eV k2<|se (aHP k k (by decide)) k<|oB h λv17 hv17 h=>se (xo hv17 k) k<|se (fA aD jX (u:=x4.2.1.tmod 2) (dB hv17) k k k k k k) k<|sn<|tn<|aP (t:=mN [(6,.ptr 0 0 0),(8,.ptr 1 0 0),(9,.int y10.2),(11,.int x2.2),(12,.int x4.2.1),(13,.int x3.2.2),(14,.int x4.2.2)] [(0,⟨6,[iS]⟩),(1,⟨6,[[.int v7.p,.int v7.q.n,.own 2 0 v7.q.src.length,.own 3 0 v7.q.tgt.length,.own 4 0 v7.dims.length,.own 5 0 ((x4.1.set x3.2.2.toNat (⟨v16.rows,v16.cols,(v16.cells.set x4.2.2.toNat (x4.2.1.tmod 2))⟩:Mt)).length)]]⟩),(2,⟨1,v7.q.src.map (ow eI)⟩),(3,⟨1,v7.q.tgt.map (ow eI)⟩),(4,⟨1,v7.dims.map (ow eI)⟩),(5,⟨3,List.map (ow eM) (x4.1.set x3.2.2.toNat (⟨v16.rows,v16.cols,(v16.cells.set x4.2.2.toNat (x4.2.1.tmod 2))⟩:Mt))⟩)] 7 ⟨0,true,rB W,true⟩) (Ent.trans (zZ (b:=5) (b':=6) (j:=2) (es':=List.map eI (v16.cells.set x4.2.2.toNat (x4.2.1.tmod 2))) (by rw [fD];exact iR hv16) k k k k (by simp only [aO,lA,lT,lR,lC,lN]) (cP.frzs _)) (bS (bK k2) (bN k<|hX ⟨_,k,k,.inr ⟨_,_,k,⟨_,_,k,k,⟨_,_,k,k,⟨_,_,k,⟨k,k,k,k⟩,⟨_,_,k,⟨k,k,k,k⟩,⟨_,_,k,⟨k,k,k,k⟩,⟨_,_,k,⟨k,k,(by simp only [aO,lA,lT,lR,lC,lN]),k⟩,k⟩⟩⟩⟩⟩⟩,k⟩⟩ k<|bP k<|bP k<|bP k<|hX ⟨_,k,k,.inl ⟨aDT (⟨v16.rows,v16.cols,(v16.cells.set x4.2.2.toNat (x4.2.1.tmod 2))⟩:Mt) k,cE.plainO _⟩⟩ k<|aR) k4))<|rgS<|eV k2<|se (aXJ k k (by decide)) k<|gT k2<|sn<|aV ?_;exact tn<|rgS<|eV k2<|se (iV k k) k<|gT k2<|sn<|tn<|sp h ⟨_,k,(bS (bK k2) (bN k<|fF k<|bP k<|bP k<|bP k<|cD (cE.plainO _) k<|aR) k4)⟩
    ·rintro e t ⟨rfl,hent⟩;exact aL<|aV<|tn<|aP hent<|rgS<|eV k2<|se (iV k k) k<|gT k2<|sn<|tn<|sp h ⟨_,k,(bS (bK k2) (bN k<|fF k<|bP k<|bP k<|bP k<|cD (cE.plainO _) k<|aR) k4)⟩
   ·rintro e t ⟨rfl,hent⟩;exact aL<|tn<|aP hent<|sS<|zD k8<|zD k8<|oB h λv20 hv20 h=>se (oD (aKI (⟨v7.p,v7.q,v7.dims,y19⟩:Rp) (⟨v7.p,v7.q,v7.dims,y19⟩:Rp) v20 hv20) k (fY (.inl (vaR k8)) (fY (.inl (vaR k8)) jO))) k<|cmS k4<|sn<|tn<|dR k h (λ_ h=>sS<|zD k8<|se (ws k) k<|gT k2<|sn<|tn<|aJ<|bH<|aI<|aI<|sp h ⟨_,k,k,bT k k k (dC k (bW (gX (aH (k) (aH (k) (aH (eX cP k k) (aH (eX cP k k) (aH (eX cP k k) (aH (eX cE k k) eH))))))) (bW (k) fH)))⟩) λ_ h=>aG<|aV<|tn<|rgS<|eV k2<|se (bF k k) k<|gT k2<|sn<|tn<|sp h ⟨_,k,(bS (bK k2) (bN k<|fF k<|bP k<|bP k<|bP k<|cD (cE.plainO _) k<|aR) k4)⟩
  ·intro e t hX;rcases y23 with y24|y25
   ·obtain ⟨rfl,hent⟩:=hX;exact aL<|tn<|aP hent<|sS<|se (dE aD k k k k k k) k<|se (ws k) k<|gT k2<|sn<|tn<|aJ<|sp h (bT k k k (dC k (bW (gX (aH (k) (aH (k) (aH (k) (aH (k) (aH (k) (aH (k) eH))))))) (bW (k) fH))))
   ·obtain ⟨rfl,hent⟩:=hX;exact bH<|aI<|sp h hent
def fM (a0:Int) (a1:Qv) (v1:((List (List Int))×Bool)) (x1:((List Rp)×Int)):Option (((List Rp)×Int) ⊕ ((List Rp) ⊕ ((List Rp)×Bool))):=
 bif decide (x1.2<((v1.1.length:Nat):Int)) then
 ((cO v1.1 x1.2).bind λv4=>
 (yG a0 a1 v4).bind λv5=>
 bif !v5.2 then
 (some (.inr (.inr (([],false)))))
 else
 (bif decide (x1.1.length+1≤4294967296) then
 (some (.inl ((x1.1++[v5.1]),wr (x1.2+1))))
 else none))
 else
 (some (.inr (.inl x1.1)))
def kH (a0:Int) (a1:Qv):Option ((List Rp)×Bool):=
 (dP a1).bind λv1=>
 bif !v1.2 then
 (some (([],false)))
 else
 ((Lp (fM a0 a1 v1) ([],0)).bind λy8=>
 Sum.elim (λy9=>
 some ((y9,true))
 )
 (λy10=>
 some y10
 )
 y8)
theorem aBs (a0:Int) (a1:Qv) (r:((List Rp)×Bool)) (h:kH a0 a1=some r):HasC Tryz.prog 36 [.int a0,.agg (eQ a1)] (.tuple [.list 6 (r.1.map eR),.bl r.2]):=by
 refine hM [.tmp 4,.tmp 5] Tryz.func36 Tryz.ntmps36 k<|sR<|ae (wb k) k<|aa k k<|aT k2<|sR<|lp k8<|oB h λv1 hv1 h=>ae (gU (σ:=sg []) (σ':=sg [(1,0)]) (touch:=[]) (news:=[1]) (hl2:=[(1,⟨1,v1.1.map (cH 1 eI)⟩)]) (n':=2) (r2:= .tuple [.own 1 0 v1.1.length,.bl v1.2]) (kW a1 v1 hv1) k k ⟨_,_,k,(.inl ⟨_,_,k,k,⟨_,_,k,⟨k,k⟩,⟨_,_,k,⟨k,k⟩,k⟩⟩⟩),k⟩ aR k k k ⟨⟨_,k,k,.inl ⟨k,bA.plainE _⟩⟩,k,aR⟩ k (.inr ⟨_,_,k,k,⟨_,_,k,⟨k,k,(by simp only [aO,lA,lT,lR,lC,lN]),k⟩,⟨_,_,k,k,k⟩⟩⟩) k ⟨k,bA.tamdE _ _,aR⟩ k k) k<|am k k<|ae (bD k k (by intro _ h;cases h)) k<|ae (bD k k (by intro _ h;cases h)) k<|aa k k<|aT k2<|sQ<|sR<|am k k<|ae (dL k) k<|an<|tn<|dR k h (λ_ h=>sR<|aa k k<|aT k2<|aJ<|aI<|sp h (bT k k k (dC k (bW (yX (k)) (bW (k) fH))))) λ_ h=>?_;refine aG<|tn<|sR<|aT k2<|sQ<|sR<|am k k<|ae (cA aD k k k k) k<|am k k<|an<|tn<|aE<|oB h λy8 hy8 h=>cC (body:=(fM a0 a1 v1)) hy8 (λ(x1:((List Rp)×Int))=>mN [(0,.int a0),(3,.ptr 0 0 0),(8,.own 1 0 x1.1.length),(20,.own 2 0 v1.1.length),(21,.int ((v1.1.length:Nat):Int)),(22,.int x1.2)] [(0,⟨3,[eQ a1]⟩),(1,⟨6,x1.1.map (ow eR)⟩),(2,⟨1,v1.1.map (cH 1 eI)⟩)] 3) (λr e t=>Sum.elim (λa=>(λr e t=>e= .exit 0∧Ent t (mN [(8,.own 0 0 r.length)] [(0,⟨6,r.map (ow eR)⟩)] 1)) a e t) (λb=>(λr e t=>e= .ret∧tW TT [.tmp 4,.tmp 5] (.tuple [.list 6 (r.1.map eR),.bl r.2]) .ret t) b e t) r) (fX (σ:=sg [(0,0),(2,1)]) (mG 2 k2 (jJ ⟨_,k,⟨k,k,k,k⟩⟩ (bK k2))) (bN k<|hX k k<|cD (bA.plainE _) k<|aR) k) ?_ ?_
 ·intro x1 o h;refine sR<|cm k4<|an<|tn<|sQ<|dR k h (λ_ h=>?_) λ_ h=>aU<|aB<|aB<|sp h ⟨_,k,k,(mX [1] (bK k2) (cD (uK.plainO _) k<|aR) k4)⟩;refine aG<|tn<|sQ<|aE<|sR<|oB h λv4 hv4 h=>ae (xo hv4 k) k<|ae (wp hv4 k) k<|aT k2<|sR<|am k k<|lp k8<|am k k<|oB h λv5 hv5 h=>ae (AEff.conv (pO (x:= .tuple [.agg [.int v5.1.p,.int v5.1.q.n,.own 3 0 (v5.1.q.src.map eI).length,.own 4 0 (v5.1.q.tgt.map eI).length,.own 5 0 (v5.1.dims.map eI).length,.own 6 0 (v5.1.maps.map eM).length],.bl v5.2]) (nb:=[(3,⟨1,cN (v5.1.q.src.map eI)⟩),(4,⟨1,cN (v5.1.q.tgt.map eI)⟩),(5,⟨1,cN (v5.1.dims.map eI)⟩),(6,⟨3,cN (v5.1.maps.map eM)⟩)]) (aJU a0 a1 v4 v5 hv5) k (by rfl) k k (fV (bZ aR (bZ aR (bZ (cP.good _) (bZ (cP.good _) (bZ (cP.good _) (bZ (cE.good _) tZ)))))) (fV aR vH)) (dW k (aZ (lQ k) (dW k aS)))) (v':= .tuple [.agg [.int v5.1.p,.int v5.1.q.n,.own 3 0 v5.1.q.src.length,.own 4 0 v5.1.q.tgt.length,.own 5 0 v5.1.dims.length,.own 6 0 v5.1.maps.length],.bl v5.2]) (ed':=[(3,some ⟨1,v5.1.q.src.map (ow eI)⟩),(4,some ⟨1,v5.1.q.tgt.map (ow eI)⟩),(5,some ⟨1,v5.1.dims.map (ow eI)⟩),(6,some ⟨3,v5.1.maps.map (ow eM)⟩)]) (by simp only [aO]) (vO (nb':=[(3,⟨1,v5.1.q.src.map (ow eI)⟩),(4,⟨1,v5.1.q.tgt.map (ow eI)⟩),(5,⟨1,v5.1.dims.map (ow eI)⟩),(6,⟨3,v5.1.maps.map (ow eM)⟩)]) (by simp only [gA]))) k<|am k k<|ae (bD k k (by intro _ h;cases h)) k<|ae (bD k k (by intro _ h;cases h)) k<|ae (bX aD k k) k<|ae (ws k) k<|aT k2<|sQ<|sR<|am k k ?_;exact ae (dL k) k<|an<|tn<|dR k h (λ_ h=>sR<|aa k k<|aT k2<|aJ<|aI<|bH<|aI<|aI<|sp h ⟨_,k,k,bT k k k (dC k (bW (yX (k)) (bW (k) fH)))⟩) λ_ h=>aG<|tn<|rg<|am k k<|lp k8<|ae (wl k) k<|cG h λq7 h=>ae (jY aD (l:=x1.1) (c:=[.int v5.1.p,.int v5.1.q.n,.own 3 0 v5.1.q.src.length,.own 4 0 v5.1.q.tgt.length,.own 5 0 v5.1.dims.length,.own 6 0 v5.1.maps.length]) q7 k k k k k k k k k k k k k k) k<|aa k k<|an<|aV<|tn<|aP (t:=mN [(0,.int a0),(3,.ptr 0 0 0),(8,.own 9 0 ((x1.1++[v5.1]).length)),(20,.own 2 0 v1.1.length),(21,.int ((v1.1.length:Nat):Int)),(22,.int x1.2)] [(0,⟨3,[eQ a1]⟩),(2,⟨1,v1.1.map (cH 1 eI)⟩),(9,⟨6,List.map (ow eR) (x1.1++[v5.1])⟩)] 10) (Ent.trans (eY (b:=9) (b':=3) (j:=2) (es':=v5.1.q.src.map eI) k k k k (aO _ _) (cP.frzs _)) (Ent.trans (eY (b:=9) (b':=4) (j:=3) (es':=v5.1.q.tgt.map eI) k k k k (aO _ _) (cP.frzs _)) (Ent.trans (eY (b:=9) (b':=5) (j:=4) (es':=v5.1.dims.map eI) k k k k (aO _ _) (cP.frzs _)) (Ent.trans (eY (b:=9) (b':=6) (j:=5) (es':=v5.1.maps.map eM) k k k k (aO _ _) (cE.frzs _)) (bS (mG 2 k2 (jJ ⟨_,k,⟨k,k,(by simp only [aO,lA,lT,lR,lC,lN]),k⟩⟩ (bK k2))) (bN k<|cD (bA.plainE _) k<|hX ⟨_,k,k,.inl ⟨kP v5.1 k,uK.plainO _⟩⟩ k<|aR) k4)))))<|rg<|ae (bF k k) k<|am k k<|an<|tn<|sp h ⟨_,k,(mX [0,9,2] (bK k2) (bN k<|cD (uK.plainO _) k<|cD (bA.plainE _) k<|aR) k4)⟩
 ·intro e t hX;rcases y8 with y9|y10
  ·obtain ⟨rfl,hent⟩:=hX;exact aL<|tn<|aP hent<|sR<|am k k<|aa k k<|aT k2<|aJ<|sp h (bT k k k (dC k (bW (yX (eX uK k k)) (bW (k) fH))))
  ·obtain ⟨rfl,hent⟩:=hX;exact bH<|aI<|sp h hent
def fN (a0:Int) (a1:Qv) (v1:((List (List Int))×Bool)) (x1:((List Rp)×Int)):Option (((List Rp)×Int) ⊕ ((List Rp) ⊕ ((List Rp)×Bool))):=
 bif decide (x1.2<((v1.1.length:Nat):Int)) then
 (bif v1.2 then
 ((cO v1.1 x1.2).bind λv4=>
 (yH a0 a1 v4).bind λv5=>
 bif !v5.2 then
 (some (.inr (.inr ((([]:(List Rp)),false)))))
 else
 (bif decide (x1.1.length+1≤4294967296) then
 (some (.inl ((x1.1++[v5.1]),wr (x1.2+1))))
 else none))
 else
 (some (.inr (.inl x1.1))))
 else
 (some (.inr (.inl x1.1)))
def kI (a0:Int) (a1:Qv):Option ((List Rp)×Bool):=
 (cU a1).bind λv1=>
 (Lp (fN a0 a1 v1) (([]:(List Rp)),0)).bind λy8=>
 Sum.elim (λy9=>
 bif v1.2 then
 ((kR a0).bind λv11=>
 some ((y9,v11)))
 else
 (some ((y9,false)))
 )
 (λy12=>
 some y12
 )
 y8
theorem aBt (a0:Int) (a1:Qv) (r:((List Rp)×Bool)) (h:kI a0 a1=some r):HasC Tryz.prog 32 [.int a0,.agg (eQ a1)] (.tuple [.list 6 (r.1.map eR),.bl r.2]):=by
 refine hM [.tmp 4,.tmp 5] Tryz.func32 Tryz.ntmps32 k<|sR<|ae (wb k) k<|aa k k<|aT k2<|sR<|lp k8<|oB h λv1 hv1 h=>ae (gU (σ:=sg []) (σ':=sg [(1,0)]) (touch:=[]) (news:=[1]) (hl2:=[(1,⟨1,v1.1.map (cH 1 eI)⟩)]) (n':=2) (r2:= .tuple [.own 1 0 v1.1.length,.bl v1.2]) (kV a1 v1 hv1) k k ⟨_,_,k,(.inl ⟨_,_,k,k,⟨_,_,k,⟨k,k⟩,⟨_,_,k,⟨k,k⟩,k⟩⟩⟩),k⟩ aR k k k ⟨⟨_,k,k,.inl ⟨k,bA.plainE _⟩⟩,k,aR⟩ k (.inr ⟨_,_,k,k,⟨_,_,k,⟨k,k,(by simp only [aO,lA,lT,lR,lC,lN]),k⟩,⟨_,_,k,k,k⟩⟩⟩) k ⟨k,bA.tamdE _ _,aR⟩ k k) k<|am k k<|ae (bD k k (by intro _ h;cases h)) k<|ae (bD k k (by intro _ h;cases h)) k<|aa k k<|aT k2<|sR<|ae (wl k) k<|aT k2<|aP (t:=mN [(0,.int a0),(3,.ptr 0 0 0),(6,.own 1 0 v1.1.length),(7,.bl v1.2),(8,.own 2 0 (([]:(List Rp)).length))] [(0,⟨3,[eQ a1]⟩),(1,⟨1,v1.1.map (cH 1 eI)⟩),(2,⟨6,List.map (ow eR) ([]:(List Rp))⟩)] 3) (bS (mG 4 k2 (jJ ⟨_,k,⟨k,k,(by simp only [aO,lA,lT,lR,lC,lN]),k⟩⟩ aR)) (bN k<|cD (bA.plainE _) k<|cD (uK.plainO _) k<|aR) k4)<|sQ<|sR<|aa k k ?_;refine an<|tn<|aE<|oB h λy8 hy8 h=>cC (body:=(fN a0 a1 v1)) hy8 (λ(x1:((List Rp)×Int))=>mN [(0,.int a0),(3,.ptr 0 0 0),(6,.own 1 0 v1.1.length),(7,.bl v1.2),(8,.own 2 0 x1.1.length),(9,.int x1.2)] [(0,⟨3,[eQ a1]⟩),(1,⟨1,v1.1.map (cH 1 eI)⟩),(2,⟨6,x1.1.map (ow eR)⟩)] 3) (λr e t=>Sum.elim (λa=>(λr e t=>e= .exit 0∧Ent t (mN [(0,.int a0),(7,.bl v1.2),(8,.own 0 0 r.length)] [(0,⟨6,r.map (ow eR)⟩)] 1)) a e t) (λb=>(λr e t=>e= .ret∧tW TT [.tmp 4,.tmp 5] (.tuple [.list 6 (r.1.map eR),.bl r.2]) .ret t) b e t) r) (bS (bK k2) (bN k<|cD (bA.plainE _) k<|cD (uK.plainO _) k<|aR) k4) ?_ ?_
 ·intro x1 o h;refine sQ<|sR<|am k k<|am k k<|ae (cA aD k k k k) k<|cm k4<|am k k<|rA h (λq2 h=>?_) λq2 h=>aQ 22 k q2<|ak k k<|pk k3<|an<|tn<|jS k k<|aU<|aB<|aB<|sp h ⟨_,k,k,(mX [2] (bK k2) (cD (uK.plainO _) k<|aR) k4)⟩;refine aQ 22 k q2<|am k k<|pk k3<|an<|tn<|dR k h (λ_ h=>?_) λ_ h=>aU<|aB<|aB<|sp h ⟨_,k,k,(mX [2] (bK k2) (cD (uK.plainO _) k<|aR) k4)⟩;exact aG<|tn<|sQ<|aE<|sQ<|aN gD<|am k k<|lp k8<|am k k<|am k k<|oB h λv4 hv4 h=>ae (xo hv4 k) k<|ae (wp hv4 k) k<|oB h λv5 hv5 h=>ae (AEff.conv (pO (x:= .tuple [.agg [.int v5.1.p,.int v5.1.q.n,.own 3 0 (v5.1.q.src.map eI).length,.own 4 0 (v5.1.q.tgt.map eI).length,.own 5 0 (v5.1.dims.map eI).length,.own 6 0 (v5.1.maps.map eM).length],.bl v5.2]) (nb:=[(3,⟨1,cN (v5.1.q.src.map eI)⟩),(4,⟨1,cN (v5.1.q.tgt.map eI)⟩),(5,⟨1,cN (v5.1.dims.map eI)⟩),(6,⟨3,cN (v5.1.maps.map eM)⟩)]) (aJV a0 a1 v4 v5 hv5) k (by rfl) k k (fV (bZ aR (bZ aR (bZ (cP.good _) (bZ (cP.good _) (bZ (cP.good _) (bZ (cE.good _) tZ)))))) (fV aR vH)) (dW k (aZ (lQ k) (dW k aS)))) (v':= .tuple [.agg [.int v5.1.p,.int v5.1.q.n,.own 3 0 v5.1.q.src.length,.own 4 0 v5.1.q.tgt.length,.own 5 0 v5.1.dims.length,.own 6 0 v5.1.maps.length],.bl v5.2]) (ed':=[(3,some ⟨1,v5.1.q.src.map (ow eI)⟩),(4,some ⟨1,v5.1.q.tgt.map (ow eI)⟩),(5,some ⟨1,v5.1.dims.map (ow eI)⟩),(6,some ⟨3,v5.1.maps.map (ow eM)⟩)]) (by simp only [aO]) (vO (nb':=[(3,⟨1,v5.1.q.src.map (ow eI)⟩),(4,⟨1,v5.1.q.tgt.map (ow eI)⟩),(5,⟨1,v5.1.dims.map (ow eI)⟩),(6,⟨3,v5.1.maps.map (ow eM)⟩)]) (by simp only [gA]))) k<|am k k<|ae (bD k k (by intro _ h;cases h)) k<|ae (bD k k (by intro _ h;cases h)) k<|ae (bX aD k k) k<|ae (ws k) k<|aa k k<|an<|rC (by kernel_rfl)<|tn<|sQ<|sR<|am k k<|ae (dL k) k<|an<|tn<|dR k h (λ_ h=>sR<|ae (wl k) k<|aa k k<|aT k2<|aP (t:=mN [(4,.own 8 0 (([]:(List Rp)).length)),(5,.bl false)] [(8,⟨6,List.map (ow eR) ([]:(List Rp))⟩)] 9) (bS (jJ ⟨_,k,⟨k,k,(by simp only [aO,lA,lT,lR,lC,lN]),k⟩⟩ (bK k2)) (cD (uK.plainO _) k<|aR) k4)<|aJ<|aI<|bH<|aI<|aI<|sp h ⟨_,k,k,bT k k k (dC k (bW (yX (eX uK k k)) (bW (k) fH)))⟩) λ_ h=>aG<|tn<|rg<|am k k<|lp k8<|ae (wl k) k<|cG h λq7 h=>ae (jY aD (l:=x1.1) (c:=[.int v5.1.p,.int v5.1.q.n,.own 3 0 v5.1.q.src.length,.own 4 0 v5.1.q.tgt.length,.own 5 0 v5.1.dims.length,.own 6 0 v5.1.maps.length]) q7 k k k k k k k k k k k k k k) k<|aa k k<|an<|aV<|tn<|aP (t:=mN [(0,.int a0),(3,.ptr 0 0 0),(6,.own 1 0 v1.1.length),(7,.bl v1.2),(8,.own 9 0 ((x1.1++[v5.1]).length)),(9,.int x1.2)] [(0,⟨3,[eQ a1]⟩),(1,⟨1,v1.1.map (cH 1 eI)⟩),(9,⟨6,List.map (ow eR) (x1.1++[v5.1])⟩)] 10) (Ent.trans (eY (b:=9) (b':=3) (j:=2) (es':=v5.1.q.src.map eI) k k k k (aO _ _) (cP.frzs _)) (Ent.trans (eY (b:=9) (b':=4) (j:=3) (es':=v5.1.q.tgt.map eI) k k k k (aO _ _) (cP.frzs _)) (Ent.trans (eY (b:=9) (b':=5) (j:=4) (es':=v5.1.dims.map eI) k k k k (aO _ _) (cP.frzs _)) (Ent.trans (eY (b:=9) (b':=6) (j:=5) (es':=v5.1.maps.map eM) k k k k (aO _ _) (cE.frzs _)) (bS (mG 4 k2 (jJ ⟨_,k,⟨k,k,(by simp only [aO,lA,lT,lR,lC,lN]),k⟩⟩ (bK k2))) (bN k<|cD (bA.plainE _) k<|hX ⟨_,k,k,.inl ⟨kP v5.1 k,uK.plainO _⟩⟩ k<|aR) k4)))))<|rg<|am k k<|ae (bF k k) k<|aT k2<|sp h ⟨_,k,(mX [0,1,9] (bK k2) (bN k<|cD (bA.plainE _) k<|cD (uK.plainO _) k<|aR) k4)⟩
 ·intro e t hX;rcases y8 with y9|y12
  ·obtain ⟨rfl,hent⟩:=hX;exact aL<|tn<|aP hent<|sR<|am k k<|am k k<|am k k<|rA h (λq10 h=>aQ 46 k q10<|am k k<|oB h λv11 hv11 h=>ae (bC (qN a0 v11 hv11) k (dW k aS)) k<|pk k3<|aa k k<|aT k2<|aJ<|sp h (bT k k k (dC k (bW (yX (eX uK k k)) (bW (k) fH))))) λq10 h=>aQ 46 k q10<|aK k4<|pk k3<|aa k k<|aT k2<|aJ<|sp h (bT k k k (dC k (bW (yX (eX uK k k)) (bW (k) fH))))
  ·obtain ⟨rfl,hent⟩:=hX;exact bH<|aI<|sp h hent
end
noncomputable section
def dg (N c t:Nat):Int:=((c / 2 ^ (N - 1 - t) % 2:Nat):Int)
def aJW (N c:Nat):List Int:=(List.range N).map (dg N c)
theorem aJX (N c:Nat):aJW (N+1) c=((c / 2 ^ N % 2:Nat):Int)::(List.range N).map λt=>dg (N+1) c (t+1):=by
 unfold aJW;rw [List.range_succ_eq_map,List.map_cons,List.map_map];rfl
theorem aTg {N c t:Nat} :dg (N+1) c (t+1)=dg N c t:=by
 unfold dg;rw [show N+1 - 1 - (t+1)=N - 1 - t by omega]
theorem aVH {N c t:Nat} (h:t<N):dg (N+1) (2 ^ N+c) (t+1)=dg N c t:=by
 rw [aTg];unfold dg;congr 1;have e:2 ^ N=2 ^ (N - 1 - t)*(2 ^ t*2):=by rw [←Nat.pow_succ,←Nat.pow_add];congr 1;omega
 rw [e,Nat.mul_add_div (Nat.two_pow_pos _)];generalize 2 ^ t=a;omega
theorem aJY: ∀ N,dX (List.replicate N 1)=(List.range (2 ^ N)).map (aJW N)
 |0=>rfl
 |N+1=>by
  have hp:0<2 ^ N:=Nat.two_pow_pos N
  have e1:dX (List.replicate (N+1) 1)=(dX (List.replicate N 1)).map ((0:Int):: ·)++(dX (List.replicate N 1)).map ((1:Int):: ·):=by
   rw [List.replicate_succ];show (List.range 2).flatMap (λ(i:Nat)=>(dX (List.replicate N 1)).map λx=>(i:Int)::x)=_;rw [show List.range 2=[0,1] from rfl];simp
  rw [e1,aJY N,show 2 ^ (N+1)=2 ^ N+2 ^ N by rw [Nat.pow_succ];omega,List.range_add,List.map_append,List.map_map,List.map_map,List.map_map];congr 1
  ·refine kC λc hc=>?_;have hc:=List.mem_range.1 hc;simp only [Function.comp];rw [aJX,Nat.div_eq_of_lt hc];congr 1;exact kC λt ht=>aTg.symm
  ·refine kC λc hc=>?_;have hc:=List.mem_range.1 hc;simp only [Function.comp];rw [aJX,Nat.add_div_left _ hp,Nat.div_eq_of_lt hc];congr 1;exact kC λt ht=>(aVH (List.mem_range.1 ht)).symm
theorem aOB (l:Nat→Nat) (g:Nat→Int): ∀ k,cat l (λv y=>g (off l v+y)) k=(List.range (off l k)).map g
 |0=>rfl
 |k+1=>by
  rw [cat,aOB l g k,off,List.range_add,List.map_append,List.map_map];rfl
def mkM (k:Nat) (r c:Nat→Int) (l:Nat→Nat) (F:Nat→Nat→Int):List Mt:=(List.range k).map λv=>⟨r v,c v,(List.range (l v)).map (F v)⟩
def aMU (l:Nat→Nat) (N code T:Nat) (F:Nat→Nat→Int):Nat→Nat→Int:=λv y=>if T≤off l v+y then dg N code (off l v+y) else F v y
def dgM (l:Nat→Nat) (N code:Nat):Nat→Nat→Int:=λv y=>dg N code (off l v+y)
theorem aCV {α:Type} (n k:Nat) (f:Nat→α) (v:α):((List.range n).map f).set k v=(List.range n).map λi=>if i=k then v else f i:=by
 refine List.ext_getElem (by simp) λt h1 h2=>?_;rw [List.getElem_set,List.getElem_map,List.getElem_map,List.getElem_range];by_cases e:k=t
 ·rw [aY e,aY e.symm]
 ·rw [aW e,aW λh=>e h.symm]
section
variable {k:Nat} {r c:Nat→Int} {l:Nat→Nat}
theorem aQr {F G:Nat→Nat→Int} (h: ∀ v,v<k→ ∀ y,y<l v→F v y=G v y):mkM k r c l F=mkM k r c l G:=by
 refine kC λv hv=>?_;congr 1;exact kC λy hy=>h v (List.mem_range.1 hv) y (List.mem_range.1 hy)
theorem aPh {F:Nat→Nat→Int} {v:Nat} (hv:v<k):cO (mkM k r c l F) (v:Int)=some ⟨r v,c v,(List.range (l v)).map (F v)⟩:=zT hv
theorem aEH {F:Nat→Nat→Int} :(mkM k r c l F).length=k:=by unfold mkM;simp
theorem aVI {F:Nat→Nat→Int} {i y:Nat} {z:Int} (hi:i<k):(mkM k r c l F).set i ⟨r i,c i,((List.range (l i)).map (F i)).set y z⟩=mkM k r c l (λv x=>if v=i∧x=y then z else F v x):=by
 unfold mkM;rw [aCV];refine kC λv hv=>?_;by_cases e:v=i
 ·subst e;rw [aY rfl,aCV];congr 1;refine kC λx hx=>?_;by_cases e2:x=y
  ·simp [e2]
  ·simp [e2]
 ·rw [aW e];congr 1;exact kC λx hx=>by simp only;rw [aW λh=>e h.1]
theorem aOC {F:Nat→Nat→Int} {i:Nat} (hi:i<k):(mkM k r c l F).set i ⟨r i,c i,(List.range (l i)).map (F i)⟩=mkM k r c l F:=by
 unfold mkM;rw [aCV];refine kC λv hv=>?_;by_cases e:v=i
 ·subst e;rw [aY rfl]
 ·rw [aW e]
theorem aTh {F:Nat→Nat→Int} {N code i y:Nat} (hi:i<k) (hy:y<l i):mkM k r c l (λv x=>if v=i∧x=y then dg N code (off l i+y) else aMU l N code (off l i+y+1) F v x)=mkM k r c l (aMU l N code (off l i+y) F):=by
 refine aQr λv hv x hx=>?_;unfold aMU;by_cases e:v=i∧x=y
 ·obtain ⟨rfl,rfl⟩:=e;rw [aY ⟨rfl,rfl⟩,aY (bO _)]
 ·rw [aW e];have hne:off l v+x≠off l i+y:=λh=>e (aQe hx hy h);by_cases h:off l i+y≤off l v+x
  ·rw [aY (by omega),aY h]
  ·rw [aW (by omega),aW h]
theorem aWb {F:Nat→Nat→Int} {N code i:Nat} (hk:k≤1000) (hN:off l k=N) (hN1:N≤1000) (hc:code≤1048576) (hi:i<k) (X:List Mt) (c0:Int):
  Lp (pA (X,c0,(i:Int))) (mkM k r c l (aMU l N code (off l (i+1)) F),((code / 2 ^ (N - off l (i+1)):Nat):Int),(l i:Int) - 1)=some (mkM k r c l (aMU l N code (off l i) F),((code / 2 ^ (N - off l i):Nat):Int)):=by
 have e0:off l (i+1)=off l i+l i:=rfl;have h1:off l (i+1)≤N:=by rw [←hN];exact aBq hi
 refine dQ (λm=>(mkM k r c l (aMU l N code (off l (i+1) - m) F),((code / 2 ^ (N - (off l (i+1) - m)):Nat):Int),(l i:Int) - 1 - m)) (l i) (by simp) (λm hm=>?_) (λ_=>?_)
 ·obtain ⟨y,hy⟩: ∃ y,y=l i - 1 - m:=⟨_,rfl⟩;have hyl:y<l i:=by omega
  have ei:(l i:Int) - 1 - m=(y:Int):=by omega
  have eT:off l (i+1) - m=off l i+y+1:=by omega
  have eT':off l (i+1) - (m+1)=off l i+y:=by omega
  have hle:code / 2 ^ (N - (off l i+y+1))≤code:=Nat.div_le_self _ _;unfold pA;simp only;rw [ei,eT,eT',bG (by omega),aM,aPh hi,aC];simp only;rw [zT hyl,aC,dH,dH,aVI hi]
  rw [show ((code / 2 ^ (N - (off l i+y+1)):Nat):Int).tmod 2=dg N code (off l i+y) by
   unfold dg;rw [show N - 1 - (off l i+y)=N - (off l i+y+1) by omega]
   rfl]
  rw [aTh hi hyl,show ((code / 2 ^ (N - (off l i+y+1)):Nat):Int).tdiv 2=((code / 2 ^ (N - (off l i+y+1)) / 2:Nat):Int) from rfl]
  have e3:code / 2 ^ (N - (off l i+y))=code / 2 ^ (N - (off l i+y+1)) / 2:=by
   rw [Nat.div_div_eq_div_mul,←Nat.pow_succ,Nat.succ_eq_add_one,show N - (off l i+y+1)+1=N - (off l i+y) by omega]
  rw [e3];generalize code / 2 ^ (N - (off l i+y+1))=Q at*;rw [cY (by omega),cY (by omega),show (l i:Int) - 1 - ((m+1:Nat):Int)=(y:Int) - 1 by omega]
 ·unfold pA;simp only;rw [eB (by omega),aX,show off l (i+1) - l i=off l i by omega]
theorem aWc {F:Nat→Nat→Int} {N code:Nat} (hk:k≤1000) (hN:off l k=N) (hN1:N≤1000) (hc:code≤1048576):
  Lp pB (mkM k r c l F,(code:Int),(k:Int) - 1)=some (mkM k r c l (dgM l N code)):=by
 refine dQ (λm=>(mkM k r c l (aMU l N code (off l (k - m)) F),((code / 2 ^ (N - off l (k - m)):Nat):Int),(k:Int) - 1 - m)) k ?_ (λm hm=>?_) (λ_=>?_)
 ·have e:mkM k r c l F=mkM k r c l (aMU l N code (off l (k - 0)) F):=aQr λv hv y hy=>by
   have:=yA (l:=l) hv hy;unfold aMU;rw [aW (by rw [Nat.sub_zero];omega)]
  rw [←e,Nat.sub_zero,hN,Nat.sub_self,Nat.pow_zero,Nat.div_one];simp
 ·obtain ⟨i,hi⟩: ∃ i,i=k - 1 - m:=⟨_,rfl⟩;have hik:i<k:=by omega
  have ei:(k:Int) - 1 - m=(i:Int):=by omega
  have e0:off l (i+1)=off l i+l i:=rfl;have hli:l i≤1000:=by have:=aBq (l:=l) (show i+1≤k from hik);omega
  unfold pB;simp only;rw [ei,show k - m=i+1 by omega,show k - (m+1)=i by omega,bG (by omega),aM,aPh hik,aC,dH,aOC hik];simp only [fD,List.length_range];rw [show wr ((l i:Int) - 1)=(l i:Int) - 1 from cY (by omega),aWb hk hN hN1 hc hik,aC];simp only;rw [cY (by omega)];congr 4;omega
 ·unfold pB;simp only;rw [eB (by omega),aX,Nat.sub_self];congr 2
theorem aWd {F:Nat→Nat→Int} {N:Nat} (hk:k≤1000) (hN:off l k=N) (hN1:N≤1000):Lp lO (mkM k r c l F,0,0)=some (mkM k r c l F,(N:Int)):=by
 refine dQ (λm=>(mkM k r c l F,(off l m:Int),(m:Int))) k rfl (λm hm=>?_) (λ_=>?_)
 ·have e0:off l (m+1)=off l m+l m:=rfl;have:=aBq (l:=l) (show m+1≤k from hm);unfold lO;simp only;rw [aEH,iE hm,aM,aPh hm,aC,dH,aOC hm];simp only [fD,List.length_range];rw [bU hm (by omega),cY (by omega),e0];congr 4
 ·unfold lO;simp only;rw [aEH,iT (bO _),aX,hN]
theorem aQs: ∀ N:Nat,N≤10→aPY 1 (N:Int)=((2 ^ N:Nat):Int):=by decide
def aJa (p:Int) (q:Qv) (d:List Int) (k:Nat) (r c:Nat→Int) (l:Nat→Nat) (N:Nat) (P:Nat→Bool) (s n:Nat):Unit ⊕ (Rp×Bool):=
 match (List.range' s n).find? P with
 |none=> .inl ()
 |some code=> .inr (⟨p,q,d,mkM k r c l (dgM l N code)⟩,true)
theorem aWe {p:Int} {q:Qv} {d:List Int} {N:Nat} {P:Nat→Bool} {X:List Mt} {z:List Mt} (hk:k≤1000) (hN:off l k=N) (hN1:N≤10)
  (hP: ∀ code,code<2 ^ N→ ∃ h:Int,vW ⟨p,q,d,mkM k r c l (dgM l N code)⟩ ⟨p,q,d,mkM k r c l (dgM l N code)⟩=some h∧decide (h=1)=P code):
  ∀ (n s:Nat) (F:Nat→Nat→Int),s+n=2 ^ N→Lp (iB ⟨p,q,d,z⟩ (X,(N:Int))) (mkM k r c l F,(s:Int))=some (aJa p q d k r c l N P s n):=by
 have h2:2 ^ N≤1024:=Nat.le_trans (Nat.pow_le_pow_right (by omega) hN1) (by decide);intro n;induction n with
 |zero=>
  intro s F hs;refine dS ?_;unfold iB;simp only;rw [bG (by omega),aM,eB (by omega),Bool.not_false,aM,aQs N hN1,iT (by omega),aX];rfl
 |succ n ih=>
  intro s F hs;have hlt:s<2 ^ N:=by omega
  obtain ⟨h,hh1,hh2⟩:=hP s hlt
  have hb:iB ⟨p,q,d,z⟩ (X,(N:Int)) (mkM k r c l F,(s:Int))=some (bif P s then .inr (.inr (⟨p,q,d,mkM k r c l (dgM l N s)⟩,true)) else .inl (mkM k r c l (dgM l N s),((s+1:Nat):Int))):=by
   unfold iB;simp only;rw [bG (by omega),aM,eB (by omega),Bool.not_false,aM,aQs N hN1,iE hlt,aM,aEH,show wr ((k:Int) - 1)=(k:Int) - 1 from cY (by omega),aWc hk hN (by omega) (by omega),aC,hh1,aC,hh2];cases P s with
   |true=>rfl
   |false=>rw [aX,aX,bU hlt (by omega)]
  unfold aJa;rw [List.range'_succ,List.find?_cons];cases hp:P s with
  |true=>
   rw [hp] at hb;exact dS hb
  |false=>
   rw [hp] at hb;rw [iU hb,ih (s+1) _ (by omega)];rfl
theorem aXi {p:Int} {q:Qv} {d:List Int} {N:Nat} {P:Nat→Bool} {G:Nat→Nat→Int} (hk:k≤1000) (hN:off l k=N) (hN1:N≤10)
  (hP: ∀ code,code<2 ^ N→ ∃ h:Int,vV ⟨p,q,d,mkM k r c l (dgM l N code)⟩ ⟨p,q,d,mkM k r c l (dgM l N code)⟩=some h∧decide (h=1)=P code):
  ∀ (n s:Nat) (X:List Mt),s+n=2 ^ N→ ∃ Y,Fl (lM ⟨p,q,d,mkM k r c l G⟩) ((List.range' s n).map (aJW N)) X=some ((aJa p q d k r c l N P s n).elim (λ_=> .inl Y) .inr):=by
 intro n;induction n with
 |zero=>intro s X hs;exact ⟨X,rfl⟩
 |succ n ih=>
  intro s X hs;have hlt:s<2 ^ N:=by omega
  obtain ⟨h,hh1,hh2⟩:=hP s hlt
  have hsh:sW (mkM k r c l G) (aJW N s)=some (mkM k r c l (dgM l N s)):=by
   unfold aJW;rw [←hN,←aOB l (dg (off l k) s) k];exact aNl (by omega) (by omega) λv hv=>by simp
  have hb:lM ⟨p,q,d,mkM k r c l G⟩ (aJW N s) X=some (bif P s then .inr (⟨p,q,d,mkM k r c l (dgM l N s)⟩,true) else .inl (mkM k r c l (dgM l N s))):=by
   unfold lM;simp only;rw [hsh,aC,hh1,aC,hh2];cases P s <;> rfl
  unfold aJa;rw [List.range'_succ,List.find?_cons,List.map_cons];simp only [Fl,hb];cases hp:P s with
  |true=>exact ⟨X,rfl⟩
  |false=>
   obtain ⟨Y,hY⟩:=ih (s+1) (mkM k r c l (dgM l N s)) (by omega);exact ⟨Y,hY⟩
end
end
noncomputable section
set_option maxRecDepth 100000
def fB:Nat→(Nat→Int)→Int
 |0,_=>0
 |n+1,f=>fB n f+f n
def aMV (k:Nat) (row:List Int):List Int:=row.take k++row.drop (k+1)
def sgK (k:Nat):Int:=if Nat.beq (k % 2) 0 then 1 else -1
def aKK (det:List (List Int)→Int) (r0:List Int) (rest:List (List Int)):Nat→Int
 |0=>0
 |k+1=>wr (aKK det r0 rest k+wr (wr (sgK k*r0[k]?.getD 0)*det (rest.map (aMV k))))
def aAJ:Nat→List (List Int)→Int
 |0,_=>0
 |_+1,[]=>1
 |d+1,r0::rest=>aKK (aAJ d) r0 rest r0.length
def aCt (s v:Nat):Bool:=Nat.beq (s / 2 ^ v % 2) 1
def rF (n s:Nat):List Nat:=(List.range n).filter (aCt s)
def mR (n:Nat) (T:List (List Int)) (s:Nat):List (List Int):=(rF n s).map λv=>(rF n s).map λw=>kN T v w
def pdF:Nat→(Nat→Nat→Int)→Bool
 |0,_=>true
 |n+1,m=>decide (0<m 0 0)&&pdF n (λi j=>m 0 0*m (i+1) (j+1) - m (i+1) 0*m 0 (j+1))
def mvT (n:Nat) (T:List (List Int)) (x:List Int) (v:Nat):Int:=fB n λw=>kN T v w*x[w]?.getD 0
def aVJ (x:List Int) (v:Nat):List Int:=x.set v (x[v]?.getD 0+1)
def yI (n v:Nat):List Int:=(List.replicate n (0:Int)).set v 1
def aMW (x:List Int) (l:List (List Int)):List (List Int):=if x∈l then l else x::l
def aHX (n:Nat) (T:List (List Int)) (l:List (List Int)):List (List Int):=(l.flatMap λx=>((List.range n).filter λv=>decide (mvT n T x v= -1)).map (aVJ x)).foldr aMW []
def aPi (n:Nat) (T:List (List Int)):Nat→List (List Int)→List (List Int)→List (List Int)×Bool
 |0,cur,acc=>(acc++cur,cur.isEmpty)
 |k+1,cur,acc=>aPi n T k (aHX n T cur) (acc++cur)
def aFD (n:Nat) (T:List (List Int)):List (List Int)×Bool:=aPi n T 8 ((List.range n).map (yI n)) []
def aLC (n:Nat) (T:List (List Int)):Bool:=pdF n (kN T)&&(match aFD n T with|(l,e)=>e&&decide (l.length≤20)&&l.all λx=>x.all λa=>decide (a≤4))
def aBF (n:Nat) (T:List (List Int)):Bool:=aLC n T||[7,11,13,14,19,21,22,25,26,28,15,23,27,29,30,31].any λs=>Nat.blt s (2 ^ n)&&decide (aAJ 8 (mR n T s)≤0)
def bi (b:Bool):Int:=if b then -1 else 0
theorem aYR:aBF 1 [[2]]=true:=by decide+kernel
theorem aYS: ∀ a:Bool,aBF 2 [[2,bi a],[bi a,2]]=true:=by decide+kernel
theorem aYT: ∀ a b c:Bool,aBF 3 [[2,bi a,bi b],[bi a,2,bi c],[bi b,bi c,2]]=true:=by decide+kernel
theorem aYU: ∀ a b c d e f:Bool,aBF 4 [[2,bi a,bi b,bi c],[bi a,2,bi d,bi e],[bi b,bi d,2,bi f],[bi c,bi e,bi f,2]]=true:=by decide+kernel
theorem aWf: ∀ e f g h i j:Bool,aBF 5 [[2,bi false,bi false,bi false,bi false],[bi false,2,bi e,bi f,bi g],[bi false,bi e,2,bi h,bi i],[bi false,bi f,bi h,2,bi j],[bi false,bi g,bi i,bi j,2]]=true:=by decide+kernel
theorem aWg: ∀ e f g h i j:Bool,aBF 5 [[2,bi true,bi false,bi false,bi false],[bi true,2,bi e,bi f,bi g],[bi false,bi e,2,bi h,bi i],[bi false,bi f,bi h,2,bi j],[bi false,bi g,bi i,bi j,2]]=true:=by decide+kernel
theorem aWh: ∀ e f g h i j:Bool,aBF 5 [[2,bi false,bi true,bi false,bi false],[bi false,2,bi e,bi f,bi g],[bi true,bi e,2,bi h,bi i],[bi false,bi f,bi h,2,bi j],[bi false,bi g,bi i,bi j,2]]=true:=by decide+kernel
theorem aWi: ∀ e f g h i j:Bool,aBF 5 [[2,bi true,bi true,bi false,bi false],[bi true,2,bi e,bi f,bi g],[bi true,bi e,2,bi h,bi i],[bi false,bi f,bi h,2,bi j],[bi false,bi g,bi i,bi j,2]]=true:=by decide+kernel
theorem aWj: ∀ e f g h i j:Bool,aBF 5 [[2,bi false,bi false,bi true,bi false],[bi false,2,bi e,bi f,bi g],[bi false,bi e,2,bi h,bi i],[bi true,bi f,bi h,2,bi j],[bi false,bi g,bi i,bi j,2]]=true:=by decide+kernel
theorem aWk: ∀ e f g h i j:Bool,aBF 5 [[2,bi true,bi false,bi true,bi false],[bi true,2,bi e,bi f,bi g],[bi false,bi e,2,bi h,bi i],[bi true,bi f,bi h,2,bi j],[bi false,bi g,bi i,bi j,2]]=true:=by decide+kernel
theorem aWl: ∀ e f g h i j:Bool,aBF 5 [[2,bi false,bi true,bi true,bi false],[bi false,2,bi e,bi f,bi g],[bi true,bi e,2,bi h,bi i],[bi true,bi f,bi h,2,bi j],[bi false,bi g,bi i,bi j,2]]=true:=by decide+kernel
theorem aWm: ∀ e f g h i j:Bool,aBF 5 [[2,bi true,bi true,bi true,bi false],[bi true,2,bi e,bi f,bi g],[bi true,bi e,2,bi h,bi i],[bi true,bi f,bi h,2,bi j],[bi false,bi g,bi i,bi j,2]]=true:=by decide+kernel
theorem aWn: ∀ e f g h i j:Bool,aBF 5 [[2,bi false,bi false,bi false,bi true],[bi false,2,bi e,bi f,bi g],[bi false,bi e,2,bi h,bi i],[bi false,bi f,bi h,2,bi j],[bi true,bi g,bi i,bi j,2]]=true:=by decide+kernel
theorem aWo: ∀ e f g h i j:Bool,aBF 5 [[2,bi true,bi false,bi false,bi true],[bi true,2,bi e,bi f,bi g],[bi false,bi e,2,bi h,bi i],[bi false,bi f,bi h,2,bi j],[bi true,bi g,bi i,bi j,2]]=true:=by decide+kernel
theorem aVK: ∀ e f g h i j:Bool,aBF 5 [[2,bi false,bi true,bi false,bi true],[bi false,2,bi e,bi f,bi g],[bi true,bi e,2,bi h,bi i],[bi false,bi f,bi h,2,bi j],[bi true,bi g,bi i,bi j,2]]=true:=by decide+kernel
theorem aVL: ∀ e f g h i j:Bool,aBF 5 [[2,bi true,bi true,bi false,bi true],[bi true,2,bi e,bi f,bi g],[bi true,bi e,2,bi h,bi i],[bi false,bi f,bi h,2,bi j],[bi true,bi g,bi i,bi j,2]]=true:=by decide+kernel
theorem aVM: ∀ e f g h i j:Bool,aBF 5 [[2,bi false,bi false,bi true,bi true],[bi false,2,bi e,bi f,bi g],[bi false,bi e,2,bi h,bi i],[bi true,bi f,bi h,2,bi j],[bi true,bi g,bi i,bi j,2]]=true:=by decide+kernel
theorem aVN: ∀ e f g h i j:Bool,aBF 5 [[2,bi true,bi false,bi true,bi true],[bi true,2,bi e,bi f,bi g],[bi false,bi e,2,bi h,bi i],[bi true,bi f,bi h,2,bi j],[bi true,bi g,bi i,bi j,2]]=true:=by decide+kernel
theorem aVO: ∀ e f g h i j:Bool,aBF 5 [[2,bi false,bi true,bi true,bi true],[bi false,2,bi e,bi f,bi g],[bi true,bi e,2,bi h,bi i],[bi true,bi f,bi h,2,bi j],[bi true,bi g,bi i,bi j,2]]=true:=by decide+kernel
theorem aVP: ∀ e f g h i j:Bool,aBF 5 [[2,bi true,bi true,bi true,bi true],[bi true,2,bi e,bi f,bi g],[bi true,bi e,2,bi h,bi i],[bi true,bi f,bi h,2,bi j],[bi true,bi g,bi i,bi j,2]]=true:=by decide+kernel
theorem aYV (a b c d e f g h i j:Bool):aBF 5 [[2,bi a,bi b,bi c,bi d],[bi a,2,bi e,bi f,bi g],[bi b,bi e,2,bi h,bi i],[bi c,bi f,bi h,2,bi j],[bi d,bi g,bi i,bi j,2]]=true:=by
 cases a <;> cases b <;> cases c <;> cases d
 ·exact aWf e f g h i j
 ·exact aWn e f g h i j
 ·exact aWj e f g h i j
 ·exact aVM e f g h i j
 ·exact aWh e f g h i j
 ·exact aVK e f g h i j
 ·exact aWl e f g h i j
 ·exact aVO e f g h i j
 ·exact aWg e f g h i j
 ·exact aWo e f g h i j
 ·exact aWk e f g h i j
 ·exact aVN e f g h i j
 ·exact aWi e f g h i j
 ·exact aVL e f g h i j
 ·exact aWm e f g h i j
 ·exact aVP e f g h i j
end
noncomputable section
theorem eU {f g:Nat→Int} : ∀ {n:Nat},(∀ i,i<n→f i=g i)→fB n f=fB n g
 |0,_=>rfl
 |n+1,h=>by simp only [fB];rw [eU (n:=n) λi hi=>h i (by omega),h n (by omega)]
theorem aBG (f:Nat→Int): ∀ n,fB (n+1) f=f 0+fB n λi=>f (i+1)
 |0=>by simp [fB]
 |n+1=>by rw [fB,aBG f n];simp only [fB];omega
theorem qX (f g:Nat→Int): ∀ n,(fB n λi=>f i+g i)=fB n f+fB n g
 |0=>by simp [fB]
 |n+1=>by simp only [fB];rw [qX f g n];omega
theorem nM (c:Int) (f:Nat→Int): ∀ n,(fB n λi=>c*f i)=c*fB n f
 |0=>by simp [fB]
 |n+1=>by simp only [fB];rw [nM c f n,Int.mul_add]
theorem zL: ∀ n,(fB n λ_=>(0:Int))=0
 |0=>rfl
 |n+1=>by simp only [fB];rw [zL n];rfl
theorem aHY {f:Nat→Int} : ∀ {n:Nat},(∀ i,i<n→0≤f i)→0≤fB n f
 |0,_=>Int.le_refl 0
 |n+1,h=>by simp only [fB];have:=aHY (n:=n) λi hi=>h i (by omega);have:=h n (by omega);omega
theorem aDe {f:Nat→Int} : ∀ {n:Nat},0<fB n f→ ∃ i,i<n∧0<f i
 |0,h=>absurd h (by simp [fB])
 |n+1,h=>by
  simp only [fB] at h;by_cases h1:0<f n
  ·exact ⟨n,by omega,h1⟩
  ·obtain ⟨i,h2,h3⟩:=aDe (f:=f) (n:=n) (by omega);exact ⟨i,by omega,h3⟩
theorem aYG {f:Nat→Int} {n i:Nat} (h: ∀ i,i<n→0≤f i) (hi:i<n):f i≤fB n f:=by
 induction n with
 |zero=>omega
 |succ n ih=>
  simp only [fB];have h1:=aHY (f:=f) (n:=n) λi hi=>h i (by omega);by_cases e:i=n
  ·subst e;omega
  ·have:=ih (λi hi=>h i (by omega)) (by omega);have:=h n (by omega);omega
theorem aCW {n v:Nat} (f:Nat→Int) (hv:v<n):(fB n λi=>if i=v then f i else 0)=f v:=by
 induction n with
 |zero=>omega
 |succ n ih=>
  simp only [fB];by_cases e:v=n
  ·subst e;rw [aY rfl,eU (g:=λ_=>0) (λi hi=>aW (by omega)),zL];omega
  ·rw [ih (by omega),aW (λh=>e h.symm)];omega
def qf (n:Nat) (m:Nat→Nat→Int) (x:Nat→Int):Int:=fB n λi=>fB n λj=>m i j*(x i*x j)
def mv (n:Nat) (m:Nat→Nat→Int) (x:Nat→Int) (v:Nat):Int:=fB n λw=>m v w*x w
theorem aOD (n:Nat) (m:Nat→Nat→Int) (x:Nat→Int):qf n m x=fB n λi=>x i*mv n m x i:=by
 unfold qf mv;refine eU λi _=>?_;rw [←nM];exact eU λj _=>by grind
theorem aVQ (n:Nat) (m:Nat→Nat→Int) (x:Nat→Int) (hs: ∀ i,i<n→m (i+1) 0=m 0 (i+1)):
  m 0 0*qf (n+1) m x=(m 0 0*x 0+fB n λj=>m 0 (j+1)*x (j+1))*(m 0 0*x 0+fB n λj=>m 0 (j+1)*x (j+1))+qf n (λi j=>m 0 0*m (i+1) (j+1) - m (i+1) 0*m 0 (j+1)) (λi=>x (i+1)):=by
 have e1:qf (n+1) m x=(m 0 0*(x 0*x 0)+x 0*fB n λj=>m 0 (j+1)*x (j+1))+(x 0*(fB n λj=>m 0 (j+1)*x (j+1))+fB n λi=>fB n λj=>m (i+1) (j+1)*(x (i+1)*x (j+1))):=by
  unfold qf;rw [aBG];congr 1
  ·rw [aBG,←nM];congr 1;exact eU λj _=>by grind
  ·rw [←nM,←qX];refine eU λi hi=>?_;rw [aBG,hs i hi];congr 1
   grind
 have e2:qf n (λi j=>m 0 0*m (i+1) (j+1) - m (i+1) 0*m 0 (j+1)) (λi=>x (i+1))=m 0 0*(fB n λi=>fB n λj=>m (i+1) (j+1)*(x (i+1)*x (j+1)))+(-(fB n λj=>m 0 (j+1)*x (j+1)))*fB n λj=>m 0 (j+1)*x (j+1):=by
  unfold qf;rw [←nM,←nM,←qX];refine eU λi hi=>?_;rw [←nM,show -(fB n λj=>m 0 (j+1)*x (j+1))*(m 0 (i+1)*x (i+1))=(-(m 0 (i+1)*x (i+1)))*fB n λj=>m 0 (j+1)*x (j+1) by grind,←nM,←qX];refine eU λj hj=>?_;dsimp only;rw [hs i hi]
  grind
 rw [e1,e2];generalize (fB n λj=>m 0 (j+1)*x (j+1))=L;generalize (fB n λi=>fB n λj=>m (i+1) (j+1)*(x (i+1)*x (j+1)))=R
 grind
theorem aRz (a:Int):0≤a*a:=by
 rcases Int.le_total 0 a with h|h
 ·exact Int.mul_nonneg h h
 ·have:=Int.mul_nonneg (Int.neg_nonneg_of_nonpos h) (Int.neg_nonneg_of_nonpos h);rwa [Int.neg_mul_neg] at this
theorem aWp {a:Int} (h:a≠0):0<a*a:=by
 rcases Int.lt_or_gt_of_ne h with h|h
 ·have:=Int.mul_pos (Int.neg_pos_of_neg h) (Int.neg_pos_of_neg h);rwa [Int.neg_mul_neg] at this
 ·exact Int.mul_pos h h
theorem aTi: ∀ (n:Nat) (m:Nat→Nat→Int),pdF n m=true→(∀ i j,i<n→j<n→m i j=m j i)→ ∀ x:Nat→Int,0≤qf n m x∧((∃ i,i<n∧x i≠0)→0<qf n m x)
 |0,m,_,_,x=>⟨by simp [qf,fB],λ⟨i,h,_⟩=>by omega⟩
 |n+1,m,hp,hs,x=>by
  simp only [pdF,dF,iD] at hp;obtain ⟨ha,hp⟩:=hp;have ih:=aTi n _ hp (λi j hi hj=>by rw [hs (i+1) (j+1) (by omega) (by omega),hs (i+1) 0 (by omega) (by omega),hs 0 (j+1) (by omega) (by omega)];grind) (λi=>x (i+1));have id:=aVQ n m x (λi hi=>hs _ _ (by omega) (by omega));generalize hL:(fB n λj=>m 0 (j+1)*x (j+1))=L at id;have hsq:=aRz (m 0 0*x 0+L);refine ⟨?_,?_⟩
  ·rcases Int.lt_or_le (qf (n+1) m x) 0 with h|h
   ·have:=Int.mul_neg_of_pos_of_neg ha h;omega
   ·exact h
  ·rintro ⟨i,hi,hx⟩
   have hpos:0<m 0 0*qf (n+1) m x:=by
    by_cases hex: ∃ i,i<n∧x (i+1)≠0
    ·have:=ih.2 hex;omega
    ·have hz: ∀ i,i<n→x (i+1)=0:=λi hi=>Classical.byContradiction λh=>hex ⟨i,hi,h⟩
     have hL0:L=0:=by
      rw [←hL,eU (g:=λ_=>0) (λj hj=>by rw [hz j hj,Int.mul_zero]),zL]
     have hx0:x 0≠0:=by
      cases i with
      |zero=>exact hx
      |succ i=>exact absurd (hz i (by omega)) hx
     have:m 0 0*x 0+L≠0:=by
      rw [hL0,Int.add_zero];exact Int.mul_ne_zero (by omega) hx0
     have:=aWp this;have:=ih.1;omega
   rcases Int.lt_or_le 0 (qf (n+1) m x) with h|h
   ·exact h
   ·have:=Int.mul_nonpos_of_nonneg_of_nonpos (Int.le_of_lt ha) h;omega
theorem aPj {n v:Nat} (m:Nat→Nat→Int) (x:Nat→Int) (d:Int) (w:Nat) (hv:v<n):mv n m (λi=>x i+if i=v then d else 0) w=mv n m x w+d*m w v:=by
 unfold mv;rw [←aCW (n:=n) (v:=v) (λi=>d*m w i) hv,←qX];refine eU λi _=>?_;by_cases e:i=v
 ·simp only [aY e];grind
 ·simp only [aW e];grind
theorem aPk {n v:Nat} (m:Nat→Nat→Int) (x:Nat→Int) (d:Int) (hv:v<n) (hs: ∀ i j,i<n→j<n→m i j=m j i):qf n m (λi=>x i+if i=v then d else 0)=qf n m x+2*d*mv n m x v+d*d*m v v:=by
 rw [aOD,aOD]
 have e1:(fB n λi=>(x i+if i=v then d else 0)*mv n m (λi=>x i+if i=v then d else 0) i)=fB n λi=>(x i*mv n m x i+d*(m v i*x i))+if i=v then d*(mv n m x i+d*m i v) else 0:=by
  refine eU λi hi=>?_;rw [aPj m x d i hv,hs i v hi hv];by_cases e:i=v
  ·simp only [aY e];grind
  ·simp only [aW e];grind
 rw [e1,qX,qX,nM,aCW (λi=>d*(mv n m x i+d*m i v)) hv];change _+d*mv n m x v+_=_
 grind
def gx (x:List Int) (i:Nat):Int:=x[i]?.getD 0
theorem aDf {x:List Int} {v:Nat} (a:Int) (hv:v<x.length) (i:Nat):gx (x.set v a) i=if i=v then a else gx x i:=by
 unfold gx;rw [List.getElem?_set];by_cases e:v=i
 ·subst e;simp [hv]
 ·rw [aW e,aW (λh=>e h.symm)]
theorem aGr {x:List Int} {v:Nat} (d:Int) (hv:v<x.length):gx (x.set v (gx x v+d))=λi=>gx x i+if i=v then d else 0:=by
 funext i;rw [aDf _ hv];by_cases e:i=v
 ·subst e;simp
 ·simp [e]
theorem aTj {x y:List Int} (hl:x.length=y.length) (h: ∀ i,i<x.length→gx x i=gx y i):x=y:=by
 refine List.ext_getElem hl λi h1 h2=>?_;have:=h i h1;simpa [gx,h1,h2] using this
theorem yJ: ∀ x:List Int,x.sum=fB x.length (gx x)
 | []=>rfl
 |a::x=>by
  rw [List.length_cons,aBG,List.sum_cons,yJ x];rfl
theorem aMX {x:List Int} {v:Nat} (d:Int) (hv:v<x.length):(x.set v (gx x v+d)).sum=x.sum+d:=by
 rw [yJ,yJ,List.length_set,aGr d hv,qX,aCW (λ_=>d) hv]
theorem aGs {x:List Int} (h: ∀ a∈x,0≤a):0≤x.sum:=by
 induction x with
 |nil=>simp
 |cons a x ih=>rw [List.sum_cons];have:=h a (by simp);have:=ih λb hb=>h b (by simp [hb]);omega
theorem aJb: ∀ {x:List Int},(∀ a∈x,0≤a)→x.sum=0→x=List.replicate x.length 0
 | [],_,_=>rfl
 |a::x,h,hs=>by
  rw [List.sum_cons] at hs;have h1:=h a (by simp);have h2:=aGs (x:=x) λb hb=>h b (by simp [hb]);have h3:=aJb (x:=x) (λb hb=>h b (by simp [hb])) (by omega);have h4:a=0:=by omega
  rw [h4,List.length_cons,List.replicate_succ,←h3]
theorem aJc: ∀ {x:List Int},(∀ a∈x,0≤a)→x.sum=1→ ∃ v,v<x.length∧x=yI x.length v
 | [],_,hs=>by simp at hs
 |a::x,h,hs=>by
  rw [List.sum_cons] at hs;have h1:=h a (by simp);have h2:=aGs (x:=x) λb hb=>h b (by simp [hb]);by_cases e:a=0
  ·obtain ⟨v,g1,g2⟩:=aJc (x:=x) (λb hb=>h b (by simp [hb])) (by omega);refine ⟨v+1,by simpa using g1,?_⟩;rw [e,List.length_cons];show _=0::yI x.length v;rw [←g2]
  ·have h3:=aJb (x:=x) (λb hb=>h b (by simp [hb])) (by omega);refine ⟨0,by simp,?_⟩;have h4:a=1:=by omega
   rw [h4,List.length_cons];show _=1::List.replicate x.length 0;rw [←h3]
theorem rX {x:List Int} {i:Nat} (h:i<x.length):gx x i∈x:=by
 unfold gx;rw [hJ h];exact List.getElem_mem h
theorem aBu {x:List Int} {v:Nat} {a b:Int} (h:b∈x.set v a):b=a∨b∈x:=by
 rcases List.mem_or_eq_of_mem_set h with h|h
 ·exact .inr h
 ·exact .inl h
structure GForm (n:Nat) (T:List (List Int)):Prop where
 sym: ∀ i j,i<n→j<n→kN T i j=kN T j i
 diag: ∀ i,i<n→kN T i i=2
 pd:pdF n (kN T)=true
structure Rt0 (n:Nat) (T:List (List Int)) (x:List Int):Prop where
 len:x.length=n
 nn: ∀ a∈x,0≤a
 two:qf n (kN T) (gx x)=2
theorem aWq (n:Nat) (T:List (List Int)) (x:List Int) (v:Nat):mvT n T x v=mv n (kN T) (gx x) v:=rfl
theorem Rt0.pos {n:Nat} {T:List (List Int)} {x:List Int} (F:GForm n T) (r:Rt0 n T x):1≤x.sum:=by
 have h:=aGs r.nn;rcases Int.lt_or_le x.sum 1 with h1|h1
 ·have h2:=aJb r.nn (by omega);have h3:=r.two;rw [aOD,eU (g:=λ_=>0) (λi hi=>?_),zL] at h3
  ·omega
  ·rw [h2];unfold gx;rw [List.getElem?_replicate];split <;> simp
 ·exact h1
theorem Rt0.down {n:Nat} {T:List (List Int)} {x:List Int} (F:GForm n T) (r:Rt0 n T x) (h:2≤x.sum): ∃ v,v<n∧mv n (kN T) (gx x) v=1∧Rt0 n T (x.set v (gx x v+ -1)):=by
 have h1:=r.two;rw [aOD] at h1;obtain ⟨v,hv,h2⟩:=aDe (n:=n) (f:=λi=>gx x i*mv n (kN T) (gx x) i) (by omega);have hvl:v<x.length:=by rw [r.len];exact hv
 have h3:=r.nn _ (rX hvl)
 have h4:0<gx x v:=by
  rcases Int.lt_or_le 0 (gx x v) with h|h
  ·exact h
  ·have:gx x v=0:=by omega
   rw [this] at h2;simp at h2
 have h5:0<mv n (kN T) (gx x) v:=by
  rcases Int.lt_or_le 0 (mv n (kN T) (gx x) v) with h|h
  ·exact h
  ·have:=Int.mul_nonpos_of_nonneg_of_nonpos h3 h;omega
 have hnn: ∀ a∈x.set v (gx x v+ -1),0≤a:=λa ha=>by
  rcases aBu ha with rfl|ha
  ·omega
  ·exact r.nn a ha
 have hq:qf n (kN T) (gx (x.set v (gx x v+ -1)))=4 - 2*mv n (kN T) (gx x) v:=by
  rw [aGr _ hvl,aPk _ _ _ hv F.sym,r.two,F.diag v hv];omega
 have hs:=aMX (-1) hvl
 have hpos:0<qf n (kN T) (gx (x.set v (gx x v+ -1))):=by
  refine (aTi n _ F.pd F.sym _).2 ?_;rw [yJ,List.length_set,r.len] at hs;obtain ⟨i,hi,h6⟩:=aDe (n:=n) (f:=gx (x.set v (gx x v+ -1))) (by omega);exact ⟨i,hi,by omega⟩
 have h7:mv n (kN T) (gx x) v=1:=by omega
 exact ⟨v,hv,h7,by rw [List.length_set];exact r.len,hnn,by omega⟩
def lvl (n:Nat) (T:List (List Int)):Nat→List (List Int)
 |0=>(List.range n).map (yI n)
 |k+1=>aHX n T (lvl n T k)
theorem aPl {x y:List Int} {l:List (List Int)} :y∈aMW x l↔y=x∨y∈l:=by
 unfold aMW;split
 ·rename_i h;exact ⟨.inr,λh'=>h'.elim (λe=>e▸h) id⟩
 ·simp
theorem aLD {y:List Int} : ∀ {l:List (List Int)},y∈l.foldr aMW []↔y∈l
 | []=>by simp
 |x::l=>by rw [List.foldr_cons,aPl,aLD (l:=l),eC]
theorem aSA {n:Nat} {T:List (List Int)} {l:List (List Int)} {x:List Int} {v:Nat} (hx:x∈l) (hv:v<n) (h:mvT n T x v= -1):aVJ x v∈aHX n T l:=by
 unfold aHX;rw [aLD,List.mem_flatMap];exact ⟨x,hx,List.mem_map.2 ⟨v,List.mem_filter.2 ⟨List.mem_range.2 hv,bG h⟩,rfl⟩⟩
theorem Rt0.lvl {n:Nat} {T:List (List Int)} (F:GForm n T): ∀ (h:Nat) {x:List Int},Rt0 n T x→x.sum=h+1→x∈lvl n T h
 |0,x,r,hs=>by
  obtain ⟨v,hv,e⟩:=aJc r.nn (by omega);rw [r.len] at e hv;exact List.mem_map.2 ⟨v,List.mem_range.2 hv,e.symm⟩
 |h+1,x,r,hs=>by
  obtain ⟨v,hv,h1,h2⟩:=r.down F (by omega);have hvl:v<x.length:=by rw [r.len];exact hv
  have ih:=Rt0.lvl F h h2 (by rw [aMX _ hvl];omega)
  have h3:mvT n T (x.set v (gx x v+ -1)) v= -1:=by
   rw [aWq,aGr _ hvl,aPj _ _ _ _ hv,h1,F.diag v hv];rfl
  have h4:=aSA ih hv h3
  have h5:aVJ (x.set v (gx x v+ -1)) v=x:=by
   unfold aVJ;change (x.set v (gx x v+ -1)).set v (gx (x.set v (gx x v+ -1)) v+1)=x;rw [aDf _ hvl,aY rfl,List.set_set];refine aTj (by simp) λi _=>?_;rw [aDf _ hvl];by_cases e:i=v
   ·subst e;rw [aY rfl];omega
   ·rw [aW e]
  rw [h5] at h4;exact h4
def itL (n:Nat) (T:List (List Int)) (l:List (List Int)):Nat→List (List Int)
 |0=>l
 |k+1=>itL n T (aHX n T l) k
theorem aJd (n:Nat) (T:List (List Int)): ∀ (k:Nat) (l:List (List Int)),itL n T l (k+1)=aHX n T (itL n T l k)
 |0,l=>rfl
 |k+1,l=>aJd n T k (aHX n T l)
theorem aTl (n:Nat) (T:List (List Int)): ∀ k,lvl n T k=itL n T ((List.range n).map (yI n)) k
 |0=>rfl
 |k+1=>by rw [aJd,←aTl n T k];rfl
theorem aLE (n:Nat) (T:List (List Int)): ∀ (k:Nat) (cur acc:List (List Int)),(∀ x∈acc,x∈(aPi n T k cur acc).1)∧(∀ j x,j≤k→x∈itL n T cur j→x∈(aPi n T k cur acc).1)∧(aPi n T k cur acc).2=(itL n T cur k).isEmpty
 |0,cur,acc=>⟨λx h=>by simp [aPi,h],λj x hj hx=>by
   have:j=0:=by omega
   subst this;simp only [aPi,itL] at hx ⊢;simp [hx],rfl⟩
 |k+1,cur,acc=>by
  obtain ⟨h1,h2,h3⟩:=aLE n T k (aHX n T cur) (acc++cur);refine ⟨λx h=>h1 x (by simp [h]),λj x hj hx=>?_,h3⟩;cases j with
  |zero=>exact h1 x (by simp only [itL] at hx;simp [hx])
  |succ j=>exact h2 j x (by omega) hx
theorem aOE (n:Nat) (T:List (List Int)): ∀ (d k:Nat) (l:List (List Int)),itL n T l k=[]→itL n T l (k+d)=[]
 |0,k,l,h=>h
 |d+1,k,l,h=>by
  rw [←Nat.add_assoc,aJd,aOE n T d k l h];rfl
theorem Rt0.mem {n:Nat} {T:List (List Int)} (F:GForm n T) (he:(aFD n T).2=true) {x:List Int} (r:Rt0 n T x):x∈(aFD n T).1:=by
 have h1:=r.pos F;obtain ⟨h,hh⟩: ∃ h:Nat,x.sum=h+1:=⟨(x.sum - 1).toNat,by omega⟩;have h2:=Rt0.lvl F h r hh;rw [aTl] at h2;obtain ⟨g1,g2,g3⟩:=aLE n T 8 ((List.range n).map (yI n)) [];unfold aFD at he ⊢;rw [he] at g3;have h8:itL n T ((List.range n).map (yI n)) 8=[]:=by simpa using g3.symm
 rcases eD 8 h with h3|h3
 ·have:=aOE n T (h - 8) 8 _ h8;rw [show 8+(h - 8)=h by omega] at this;rw [this] at h2;cases h2
 ·exact g2 h x h3 h2
theorem aLF {α:Type} [DecidableEq α]: ∀ {l m:List α},l.Nodup→(∀ x∈l,x∈m)→l.length≤m.length
 | [],m,_,_=>Nat.zero_le _
 |a::l,m,hn,hs=>by
  have h1:=hs a (by simp);have hn':=List.nodup_cons.1 hn;have h2:=aLF (l:=l) (m:=m.erase a) hn'.2 λx hx=>(List.mem_erase_of_ne (by rintro rfl;exact hn'.1 hx)).2 (hs x (by simp [hx]));have h3:=List.length_erase_of_mem h1;have h4:=List.length_pos_of_mem h1;simp only [List.length_cons];omega
theorem aBd {n:Nat} {T:List (List Int)} (h:aLC n T=true):pdF n (kN T)=true∧(aFD n T).2=true∧(aFD n T).1.length ≤20∧ ∀ x∈(aFD n T).1,∀ a∈x,a≤4:=by
 simp only [aLC,dF] at h;obtain ⟨h1,⟨h2,h3⟩,h4⟩:=h;refine ⟨h1,h2,of_decide_eq_true h3,λx hx a ha=>?_⟩;exact of_decide_eq_true (List.all_eq_true.1 (List.all_eq_true.1 h4 x hx) a ha)
theorem xP {x:List Int} {i:Nat} (h:i<x.length):cO x (i:Int)=some (gx x i):=by rw [vG 0 h];rfl
end
noncomputable section
def qY {α:Type} (n:Nat) (f:Nat→α):List α:=(List.range n).map f
theorem kZ {α:Type} (n:Nat) (f:Nat→α):(qY n f).length=n:=by simp [qY]
theorem aFz {α:Type} {n:Nat} {f:Nat→α} {w:Nat} (h:w<n):(qY n f)[w]? =some (f w):=by simp [qY,h]
theorem pZ {α:Type} {n:Nat} {f:Nat→α} {w:Nat} (h:w<n):cO (qY n f) (w:Int)=some (f w):=by simp [cO,aFz h]
theorem iI {α:Type} {n:Nat} {f g:Nat→α} (h: ∀ i,i<n→f i=g i):qY n f=qY n g:=kC λi hi=>h i (List.mem_range.1 hi)
theorem uF {α:Type} {n:Nat} (f:Nat→α) (a:Nat) (y:α):(qY n f).set a y=qY n λw=>if w=a then y else f w:=by
 refine List.ext_getElem (by simp [qY]) λi h1 h2=>?_;simp only [qY,List.getElem_set,List.getElem_map,List.getElem_range];by_cases e:a=i
 ·simp [e]
 ·simp [e,show ¬ i=a from λh=>e h.symm]
theorem aCX {α:Type} (n:Nat) (z:α):List.replicate n z=qY n λ_=>z:=by
 refine List.ext_getElem (by simp [qY]) λi h1 h2=>by simp [qY]
theorem aGA {n:Nat} {f:Nat→Int} {w:Nat} (h:w<n):gx (qY n f) w=f w:=by simp [gx,aFz h]
def vK (n:Nat) (F:Nat→Nat→Int):List (List Int):=qY n λv=>qY n (F v)
theorem lW {n:Nat} {F:Nat→Nat→Int} {v w:Nat} (hv:v<n) (hw:w<n):kN (vK n F) v w=F v w:=by
 unfold kN vK;rw [aFz hv,rD,aFz hw,rD]
theorem aPm {n:Nat} {F G:Nat→Nat→Int} (h: ∀ v w,v<n→w<n→F v w=G v w):vK n F=vK n G:=iI λv hv=>iI λw hw=>h v w hv hw
def hit (q:Qv) (i v w:Nat):Int:=if gx q.src i=(v:Int)∧gx q.tgt i=(w:Int) then 1 else 0
def aHu (q:Qv) (k v w:Nat):Int:=fB k λi=>hit q i v w
def mtF (q:Qv) (k v w:Nat):Int:=(if v=w then 2 else 0) - aHu q k v w - aHu q k w v
theorem aGt (q:Qv): ∀ k v w,0≤aHu q k v w∧aHu q k v w≤k
 |0,v,w=>by simp [aHu,fB]
 |k+1,v,w=>by
  have:=aGt q k v w;unfold aHu at this ⊢;simp only [fB];have:0≤hit q k v w∧hit q k v w≤1:=by unfold hit;split <;> omega
  omega
theorem aTm (q:Qv) {k:Nat} (hk:k≤6) (v w:Nat): -12≤mtF q k v w∧mtF q k v w≤2:=by
 have h1:=aGt q k v w;have h2:=aGt q k w v;unfold mtF;split <;> omega
theorem aBf (q:Qv) (k v w:Nat):mtF q (k+1) v w=mtF q k v w - hit q k v w - hit q k w v:=by
 unfold mtF aHu;simp only [fB];omega
theorem aWr (q:Qv) (k v w:Nat):mtF q k v w=mtF q k w v:=by
 unfold mtF;by_cases e:v=w
 ·subst e;rfl
 ·rw [aW e,aW (λh=>e h.symm)];omega
def tA (q:Qv) (n:Nat):List (List Int):=vK n (mtF q q.src.length)
structure QOk (q:Qv) (n:Nat):Prop where
 bq:bQ q
 qv:aBB q=true
 n0:q.n=n
 n1:1≤n
 n5:n≤5
 eq:q.src.length=q.tgt.length
 m6:q.src.length≤6
 src: ∀ x∈q.src,0≤x∧x<n
 tgt: ∀ x∈q.tgt,0≤x∧x<n
theorem qok {q:Qv} (hb:bQ q) (h:aBB q=true): ∃ n,QOk q n:=by
 obtain ⟨n,h1,h2,h3,h4,h5,h6,h7⟩:=xO h;exact ⟨n,hb,h,h1,h2,h3,h4,h5,h6,h7⟩
theorem QOk.arrow {q:Qv} {n:Nat} (Q:QOk q n) {i:Nat} (hi:i<q.src.length): ∃ s t:Nat,s<n∧t<n∧gx q.src i=s∧gx q.tgt i=t∧cO q.src (i:Int)=some (s:Int)∧cO q.tgt (i:Int)=some (t:Int):=by
 have hi2:i<q.tgt.length:=by rw [←Q.eq];exact hi
 have h1:=Q.src _ (rX hi);have h2:=Q.tgt _ (rX hi2);refine ⟨(gx q.src i).toNat,(gx q.tgt i).toNat,by omega,by omega,by omega,by omega,?_,?_⟩
 ·rw [vG 0 hi];show some (gx q.src i)=_;rw [Int.toNat_of_nonneg h1.1]
 ·rw [vG 0 hi2];show some (gx q.tgt i)=_;rw [Int.toNat_of_nonneg h2.1]
theorem vL {q:Qv} {i s t:Nat} (hs:gx q.src i=s) (ht:gx q.tgt i=t) (v w:Nat):hit q i v w=if v=s∧w=t then 1 else 0:=by
 unfold hit;rw [hs,ht];by_cases e:v=s∧w=t
 ·rw [aY e,aY (by omega)]
 ·rw [aW e,aW (by omega)]
theorem aTn {q:Qv} {n:Nat} (Q:QOk q n) {x1:List (List Int)×Int} {v:Nat} (hx:x1.2=(v:Int)):Lp (iN q x1) (qY n (mtF q 0 v),0)=some (qY n (mtF q q.src.length v)):=by
 have m6:=Q.m6;refine dQ (λk=>(qY n (mtF q k v),(k:Int))) q.src.length rfl (λk hk=>?_) (λ_=>?_)
 ·unfold iN;simp only;obtain ⟨s,t,hs,ht,e1,e2,e3,e4⟩:=Q.arrow hk;have bs:=λw=>aTm q (k:=k) (by omega) v w;rw [iE hk,aM,e3,aC,hx,bU hk (by omega)];by_cases c1:s=v
  ·subst c1;rw [bG (by rfl),aM];simp only [e4,e3,aC,pZ ht,dH];rw [uF,cY (by have:=bs t;omega)];by_cases c2:t=s
   ·subst c2;rw [bG (by rfl),aM];simp only [pZ hs,aY rfl,aC];rw [uF,cY (by have:=bs t;omega)];congr 3;refine iI λw hw=>?_;rw [aBf,vL e1 e2,vL e1 e2];by_cases c:w=t
    ·subst c;simp <;> omega
    ·simp [c]
   ·rw [eB (by omega),aX];congr 3;refine iI λw hw=>?_;rw [aBf,vL e1 e2,vL e1 e2];by_cases c:w=t
    ·subst c;simp [c2,show ¬ s=w from λh=>c2 h.symm]
    ·simp [c,show ¬ s=t from λh=>c2 h.symm]
  ·rw [eB (by omega),aX];simp only [e4,e3,aC];by_cases c2:t=v
   ·subst c2;rw [bG (by rfl),aM];simp only [pZ hs,aC,dH];rw [uF,cY (by have:=bs s;omega)];congr 3;refine iI λw hw=>?_;rw [aBf,vL e1 e2,vL e1 e2];by_cases c:w=s
    ·subst c;simp [c1,show ¬ t=w from λh=>c1 h.symm]
    ·simp [c,show ¬ t=s from λh=>c1 h.symm]
   ·rw [eB (by omega),aX];congr 3;refine iI λw hw=>?_;rw [aBf,vL e1 e2,vL e1 e2];simp [show ¬ v=s from λh=>c1 h.symm,show ¬ v=t from λh=>c2 h.symm]
 ·unfold iN;simp only;rw [iT (bO _),aX]
theorem aXj (q:Qv) {n v:Nat} (hv:v<n):(List.replicate n (0:Int)).set v 2=qY n (mtF q 0 v):=by
 rw [aCX,uF];refine iI λw _=>?_;unfold mtF aHu;simp only [fB];by_cases e:w=v
 ·subst e;simp
 ·simp [e,show ¬ v=w from λh=>e h.symm]
theorem aLG {q:Qv} {n:Nat} (Q:QOk q n):kU q=some (tA q n):=by
 have n5:=Q.n5;unfold kU;rw [dQ (s:=(([]:List (List Int)),(0:Int))) (r:=tA q n) (λk=>((List.range k).map λv=>qY n (mtF q q.src.length v),(k:Int))) n rfl (λk hk=>?_) (λ_=>?_),aC]
 ·unfold lL;simp only;rw [Q.n0,iE hk,aM,aFi Q.bq,Q.qv,aC,aM,bG (by omega),bG (by omega),Bool.and_self,aM,dH];rw [aCX,pZ hk,aC,dH,←aCX,aXj q hk,aTn Q rfl,aC,bG (by simp;omega),aM,bU hk (by omega),List.range_succ,List.map_append];rfl
 ·unfold lL;simp only;rw [Q.n0,iT (bO _),aX];rfl
theorem aSB {q:Qv} {n:Nat} (Q:QOk q n):uX q=some (tA q n):=by
 have n5:=Q.n5;have m6:=Q.m6;unfold uX;rw [Q.n0,bG (by omega),bG (by omega),Bool.and_self,aM,dH];rw [dQ (r:=vK n (mtF q 0)) (λk=>(qY n λv=>if v<k then qY n (mtF q 0 v) else [],(k:Int))) n (by rw [aCX];rfl) (λk hk=>?_) (λ_=>?_),aC]
 ·rw [dQ (s:=(vK n (mtF q 0),(0:Int))) (r:=tA q n) (λk=>(vK n (mtF q k),(k:Int))) q.src.length rfl (λk hk=>?_) (λ_=>?_),aC]
  ·unfold pY;simp only;obtain ⟨s,t,hs,ht,e1,e2,e3,e4⟩:=Q.arrow hk;have bs:=λv w=>aTm q (k:=k) (by omega) v w;rw [iE hk,aM,e3,aC,e4];simp only [aC,dH];unfold vK;rw [pZ hs,aC,pZ ht];simp only [aC];rw [uF,pZ ht];simp only [aC]
   have e5:(if t=s then (qY n (mtF q k s)).set t (wr (mtF q k s t - 1)) else qY n (mtF q k t))=qY n λw=>mtF q k t w - if t=s∧w=t then 1 else 0:=by
    by_cases c:t=s
    ·subst c;rw [aY rfl,uF,cY (by have:=bs t t;omega)];refine iI λw _=>?_;by_cases c2:w=t
     ·subst c2;simp
     ·simp [c2]
    ·rw [aW c];exact iI λw _=>by simp [c]
   rw [e5,pZ hs];simp only [aC];rw [bU hk (by omega),uF,uF];congr 3;refine iI λv hv=>?_;have b1:=bs t s;have b2:=bs s t;by_cases c:v=t
   ·subst c;rw [aY rfl,cY (by split <;> omega)]
    try rw [uF]
    refine iI λw hw=>?_;rw [aBf,vL e1 e2,vL e1 e2];by_cases c1:w=s
    ·subst c1;by_cases c2:v=w
     ·subst c2;simp <;> omega
     ·simp [c2,show ¬ w=v from λh=>c2 h.symm]
    ·rw [aW c1];by_cases c2:v=s∧w=v
     ·omega
     ·simp [c2,c1]
   ·rw [aW c];by_cases c1:v=s
    ·subst c1;rw [aY rfl,cY (by omega)]
     try rw [uF]
     refine iI λw hw=>?_;rw [aBf,vL e1 e2,vL e1 e2];by_cases c2:w=t
     ·subst c2;simp [c]
     ·simp [c2,c]
    ·rw [aW c1];refine iI λw hw=>?_;rw [aBf,vL e1 e2,vL e1 e2];simp [c,c1]
  ·unfold pY;simp only;rw [iT (bO _),aX];rfl
 ·unfold pX;simp only;rw [List.length_replicate,Q.n0,dH,iE hk,aM,bG (by omega),bG (by omega),Bool.and_self,aM,pZ hk,aC];rw [aCX n (0:Int),pZ hk,aC,dH,←aCX,aXj q hk,uF,bU hk (by omega)];congr 3;refine iI λv _=>?_;by_cases c:v=k
  ·subst c;simp
  ·rw [aW c];by_cases c2:v<k
   ·rw [aY c2,aY (by omega)]
   ·rw [aW c2,aW (by omega)]
 ·unfold pX;simp only;rw [List.length_replicate,Q.n0,dH,iT (bO _),aX];congr 2;exact iI λv hv=>by rw [aY hv]
end
noncomputable section
theorem aMY: ∀ s:Nat,s<32→ ∀ v:Nat,v<5→aPa (aPZ (s:Int) (v:Int)) 1=(if aCt s v then 1 else 0):=by decide+kernel
theorem aGu (s k:Nat):(List.range (k+1)).filter (aCt s)=(List.range k).filter (aCt s)++if aCt s k then [k] else []:=by
 rw [List.range_succ,List.filter_append];congr 1;cases h:aCt s k <;> simp [h]
theorem aIL {n s v:Nat} (h:v∈rF n s):v<n:=List.mem_range.1 (List.mem_filter.1 h).1
theorem aDg (n s:Nat):(rF n s).length ≤n:=by
 have:=List.length_filter_le (aCt s) (List.range n);simpa [rF] using this
theorem aOF {body:List Int×Int→Option ((List Int×Int) ⊕ List Int)} {n s:Nat} {f:Nat→Int} (hn:n≤5)
  (hb: ∀ k l,k<n→l.length≤5→body (l,(k:Int))=some (.inl (if aCt s k then l++[f k] else l,((k+1:Nat):Int)))) (hr: ∀ l,body (l,(n:Int))=some (.inr l)):Lp body ([],0)=some ((rF n s).map f):=by
 refine dQ (λk=>(((List.range k).filter (aCt s)).map f,(k:Int))) n rfl (λk hk=>?_) (λ_=>hr _);have hl:=aDg k s;unfold rF at hl;rw [hb k _ hk (by rw [fD];omega),aGu];cases h:aCt s k <;> simp
theorem aOG {n s:Nat} {F:Nat→Nat→Int} (hn:n≤5) (hs:s<32) {x1:Int×Int} (hx:x1.2=(s:Int)):Lp (jD (vK n F) x1) (0,[])=some (mR n (vK n F) s):=by
 have e0:mR n (vK n F) s=(rF n s).map λv=>(rF n s).map (F v):=by
  unfold mR;refine kC λv hv=>kC λw hw=>lW (aIL hv) (aIL hw)
 rw [e0];refine dQ (λk=>((k:Int),((List.range k).filter (aCt s)).map λv=>(rF n s).map (F v))) n rfl (λk hk=>?_) (λ_=>?_)
 ·have hl:=aDg k s;unfold rF at hl;unfold jD;simp only;rw [show (vK n F).length=n from kZ _ _,iE hk,aM,show cO (vK n F) (k:Int)=some (qY n (F k)) from pZ hk,aC,eB (by omega),Bool.not_false,aM,hx,aMY s hs k (by omega),bU hk (by omega)]
  have hrow:Lp (jC (qY n (F k)) x1) ([],0)=some ((rF n s).map (F k)):=by
   refine aOF hn (λj l hj hl2=>?_) (λl=>?_)
   ·unfold jC;simp only;rw [kZ,iE hj,aM,pZ hj,aC,eB (by omega),Bool.not_false,aM,hx,aMY s hs j (by omega),bU hj (by omega)];cases h:aCt s j
    ·simp
    ·simp [show l.length<4294967296 by omega,show l.length≤4294967295 by omega,show l.length+1≤4294967296 by omega]
   ·unfold jC;simp only;rw [kZ,iT (bO _),aX]
  rw [hrow,aC,aGu];generalize List.filter (aCt s) (List.range k)=lk at*;cases h:aCt s k
  ·simp
  ·simp [show lk.length<4294967296 by omega,show lk.length≤4294967295 by omega,show lk.length+1≤4294967296 by omega]
 ·unfold jD;simp only;rw [show (vK n F).length=n from kZ _ _,iT (bO _),aX];rfl
theorem aOH {n s:Nat} {F:Nat→Nat→Int} (hn:n≤5) (hs:s<32):xB (vK n F) (s:Int)=some (mR n (vK n F) s):=by
 have e0:mR n (vK n F) s=(rF n s).map λv=>(rF n s).map (F v):=by
  unfold mR;refine kC λv hv=>kC λw hw=>lW (aIL hv) (aIL hw)
 rw [e0];unfold xB;rw [dQ (s:=((0:Int),([]:List (List Int)))) (r:=(rF n s).map λv=>(rF n s).map (F v)) (λk=>((k:Int),((List.range k).filter (aCt s)).map λv=>(rF n s).map (F v))) n rfl (λk hk=>?_) (λ_=>?_),aC]
 ·have hl:=aDg k s;unfold rF at hl;unfold rW;simp only;rw [show (vK n F).length=n from kZ _ _,iE hk,aM,eB (by omega),Bool.not_false,aM,aMY s hs k (by omega),bU hk (by omega)]
  have hrow:Lp (nJ (vK n F) (s:Int) ((k:Int),((List.range k).filter (aCt s)).map λv=>(rF n s).map (F v))) ([],0)=some ((rF n s).map (F k)):=by
   refine aOF hn (λj l hj hl2=>?_) (λl=>?_)
   ·unfold nJ;simp only;rw [show (vK n F).length=n from kZ _ _,iE hj,aM,eB (by omega),Bool.not_false,aM,aMY s hs j (by omega),bU hj (by omega),show cO (vK n F) (k:Int)=some (qY n (F k)) from pZ hk,aC,pZ hj,aC];cases h:aCt s j
    ·simp
    ·simp [show l.length<4294967296 by omega,show l.length≤4294967295 by omega,show l.length+1≤4294967296 by omega]
   ·unfold nJ;simp only;rw [show (vK n F).length=n from kZ _ _,iT (bO _),aX]
  rw [hrow,aC,aGu];generalize List.filter (aCt s) (List.range k)=lk at*;cases h:aCt s k
  ·simp
  ·simp [show lk.length<4294967296 by omega,show lk.length≤4294967295 by omega,show lk.length+1≤4294967296 by omega]
 ·unfold rW;simp only;rw [show (vK n F).length=n from kZ _ _,iT (bO _),aX];rfl
theorem aSC {a b:List Int} (h:a.length+b.length≤1000):fL [a,b]=some (a++b):=by
 have s1:cZ [a,b] (0,0)=some (.inl ((a.length:Int),1)):=by
  unfold cZ;simp [cO];rw [cY (by omega),eB (by omega),aX,cY (by omega)]
 have s2:cZ [a,b] ((a.length:Int),1)=some (.inl ((a.length:Int)+b.length,2)):=by
  unfold cZ;simp [cO];rw [cY (by omega),eB (by omega),aX,cY (by omega)]
 have s3:cZ [a,b] ((a.length:Int)+b.length,2)=some (.inr ((a.length:Int)+b.length)):=by
  unfold cZ;simp
 have t1:dA [a,b] ([],0)=some (.inl (a,1)):=by
  unfold dA;simp [cO];rw [bG (by omega),aM,cY (by omega)]
 have t2:dA [a,b] (a,1)=some (.inl (a++b,2)):=by
  unfold dA;simp [cO];rw [bG (by omega),aM,cY (by omega)]
 have t3:dA [a,b] (a++b,2)=some (.inr (a++b)):=by
  unfold dA;simp
 unfold fL;rw [iU s1,iU s2,dS s3,aC];unfold aLt;rw [bG (by omega),bG (by omega),Bool.and_self,aM,aC,iU t1,iU t2,dS t3,aC]
theorem aOI {k:Nat} {row:List Int} (h:k<row.length):(aMV k row).length=row.length - 1:=by simp [aMV];omega
theorem aOJ (k:Nat):wr (-sgK k)=sgK (k+1):=by
 unfold sgK;rcases Nat.mod_two_eq_zero_or_one k with h|h
 ·rw [h,show (k+1) % 2=1 by omega];decide
 ·rw [h,show (k+1) % 2=0 by omega];decide
theorem aLH: ∀ (d k:Nat) (M:List (List Int)),k<d→k≤16→M.length=k→(∀ r∈M,r.length=k)→kB d M=some (aAJ d M)
 |0,k,M,h,_,_,_=>absurd h (by omega)
 |d+1,k,M,hd,h16,hl,hr=>by
  show oV (kB d) M=_;unfold oV;cases M with
  |nil=>rfl
  |cons r0 rest=>
   have hr0:=hr r0 (by simp);simp only [List.length_cons] at hl;rw [eB (by simp only [List.length_cons];omega),aX,show cO (r0::rest) 0=some r0 from rfl,aC];rw [dQ (s:=((0:Int),(1:Int),(0:Int))) (r:=aAJ (d+1) (r0::rest)) (λj=>(aKK (aAJ d) r0 rest j,sgK j,(j:Int))) k rfl (λj hj=>?_) (λ_=>?_),aC]
   ·unfold nW;simp only;rw [hr0,iE hj,aM,vG 0 (by omega),aC,bG (by omega),bG (by simp only [List.length_cons];omega),bG (by omega),Bool.and_self,Bool.and_self,aM]
    have hmin:Lp (jU (r0::rest) (aKK (aAJ d) r0 rest j,sgK j,(j:Int))) ([],0)=some (rest.map (aMV j)):=by
     have e0:((r0::rest).drop (1:Int).toNat).take (((r0::rest).length:Int).toNat - (1:Int).toNat)=rest:=by simp
     refine dQ (λi=>((rest.take i).map (aMV j),(i:Int))) rest.length rfl (λi hi=>?_) (λ_=>?_)
     ·unfold jU;simp only;rw [e0,iE hi,aM,vG [] hi,aC];have hrow:(rest[i]?.getD []).length=k:=by rw [hJ hi];exact hr _ (by simp)
      rw [bU (n:=17) (by omega) (by omega),bG (by omega),bG (by omega),bG (by omega),bG (by omega),bG (by omega),bG (by omega)];simp only [Bool.and_self,aM];have e1:((rest[i]?.getD []).drop (0:Int).toNat).take ((j:Int).toNat - (0:Int).toNat)=(rest[i]?.getD []).take j:=by simp
      have e2:((rest[i]?.getD []).drop (((j+1:Nat):Int)).toNat).take (((rest[i]?.getD []).length:Int).toNat - (((j+1:Nat):Int)).toNat)=(rest[i]?.getD []).drop (j+1):=by
       rw [dH,dH,List.take_of_length_le (by simp)]
      rw [e1,e2,aSC (by simp;omega),aC,bG (by simp;omega),aM,bU hi (by omega)];congr 3;rw [aBy hi,List.map_append,hJ hi];rfl
     ·unfold jU;simp only;rw [e0,iT (bO _),aX,List.take_length]
    rw [hmin,aC,aLH d (k - 1) (rest.map (aMV j)) (by omega) (by omega) (by simp;omega) (λr h=>by
     obtain ⟨r',h1,rfl⟩:=List.mem_map.1 h;have:=hr r' (by simp [h1])
     rw [aOI (by omega)];omega),aC,aOJ,bU hj (by omega)]
    rfl
   ·unfold nW;simp only;rw [hr0,iT (bO _),aX];show some (Sum.inr (aKK (aAJ d) r0 rest k))=some (Sum.inr (aKK (aAJ d) r0 rest r0.length));rw [hr0]
theorem aLI: ∀ (d k:Nat) (M:List (List Int)),k<d→k≤16→M.length=k→(∀ r∈M,r.length=k)→sY d M=some (aAJ d M)
 |0,k,M,h,_,_,_=>absurd h (by omega)
 |d+1,k,M,hd,h16,hl,hr=>by
  show xA (sY d) M=_;unfold xA;cases M with
  |nil=>rfl
  |cons r0 rest=>
   have hr0:=hr r0 (by simp);simp only [List.length_cons] at hl;rw [eB (by simp only [List.length_cons];omega),aX];rw [dQ (s:=((0:Int),(1:Int),(0:Int))) (r:=aAJ (d+1) (r0::rest)) (λj=>(aKK (aAJ d) r0 rest j,sgK j,(j:Int))) k rfl (λj hj=>?_) (λ_=>?_),aC]
   ·unfold uW;simp only;rw [show (r0::rest).length=k by simp only [List.length_cons];omega,iE hj,aM]
    have hmin:Lp (qV (r0::rest) (aKK (aAJ d) r0 rest j,sgK j,(j:Int))) (([]:List (List Int)),1)=some (rest.map (aMV j)):=by
     refine dQ (λi=>((rest.take i).map (aMV j),((i+1:Nat):Int))) rest.length rfl (λi hi=>?_) (λ_=>?_)
     ·unfold qV;simp only
      have hat:cO (r0::rest) ((i+1:Nat):Int)=some (rest[i]?.getD []):=by
       rw [vG [] (by simp;omega)];rfl
      rw [List.length_cons,iE (by omega),aM,hat,aC];have hrow:(rest[i]?.getD []).length=k:=by rw [hJ hi];exact hr _ (by simp)
      rw [bU (k:=j) (n:=17) (by omega) (by omega),bG (by omega),bG (by omega),bG (by omega)];simp only [Bool.and_self,aM];have e1:((rest[i]?.getD []).drop (0:Int).toNat).take ((j:Int).toNat - (0:Int).toNat)=(rest[i]?.getD []).take j:=by simp
      have e2:((rest[i]?.getD []).drop (((j+1:Nat):Int)).toNat).take (((rest[i]?.getD []).length:Int).toNat - (((j+1:Nat):Int)).toNat)=(rest[i]?.getD []).drop (j+1):=by
       rw [dH,dH,List.take_of_length_le (by simp)]
      rw [e1,bG (by simp;omega),aM];simp only [aC];rw [bG (by omega),bG (by omega),bG (by omega)];simp only [Bool.and_self,aM];rw [e2,bG (by simp;omega),aM,bG (by simp;omega),aM,bU (k:=i+1) (n:=18) (by omega) (by omega)];congr 3;rw [aBy hi,List.map_append,hJ hi];rfl
     ·unfold qV;simp only;rw [List.length_cons,iT (bO _),aX,List.take_length]
    rw [hmin,aC,show cO (r0::rest) 0=some r0 from rfl,aC,vG 0 (by omega),aC,aLI d (k - 1) (rest.map (aMV j)) (by omega) (by omega) (by simp;omega) (λr h=>by
     obtain ⟨r',h1,rfl⟩:=List.mem_map.1 h;have:=hr r' (by simp [h1])
     rw [aOI (by omega)];omega),aC,aOJ,bU hj (by omega)]
    rfl
   ·unfold uW;simp only;rw [show (r0::rest).length=k by simp only [List.length_cons];omega,iT (bO _),aX];show some (Sum.inr (aKK (aAJ d) r0 rest k))=some (Sum.inr (aKK (aAJ d) r0 rest r0.length));rw [hr0]
end
noncomputable section
def aDh (n:Nat) (T:List (List Int)):Nat→Int→Nat→Int
 |0,kind,_=>kind
 |f+1,kind,s=>if aAJ 8 (mR n T s)<0 then 3 else aDh n T f (if aAJ 8 (mR n T s)=0 then 2 else kind) (s+1)
theorem aEI {n s:Nat} {T:List (List Int)} :(mR n T s).length=(rF n s).length∧ ∀ r∈mR n T s,r.length=(rF n s).length:=by
 refine ⟨by simp [mR],λr hr=>?_⟩;obtain ⟨v,_,rfl⟩:=List.mem_map.1 hr;simp
theorem aMZ: ∀ n:Nat,n<6→aPY 1 (n:Int)=((2 ^ n:Nat):Int):=by decide+kernel
theorem aTo: ∀ n:Nat,n<6→2 ^ n≤32:=by decide
theorem aGv {body:Int×Int→Option ((Int×Int) ⊕ (Int ⊕ Int))} {n:Nat} {T:List (List Int)} (hn:n<6)
  (hs: ∀ (kind:Int) (s:Nat),1≤s→s<2 ^ n→body (kind,(s:Int))=some (if aAJ 8 (mR n T s)<0 then .inr (.inr 3) else .inl (if aAJ 8 (mR n T s)=0 then 2 else kind,((s+1:Nat):Int))))
  (he: ∀ kind:Int,body (kind,((2 ^ n:Nat):Int))=some (.inr (.inl kind))): ∀ (f:Nat) (kind:Int) (s:Nat),1≤s→s+f=2 ^ n→(Option.bind (Lp body (kind,(s:Int))) λy=>Sum.elim (λa=>some a) (λb=>some b) y)=some (aDh n T f kind s)
 |0,kind,s,h1,h=>by
  have h':s=2 ^ n:=by omega
  subst h';rw [dS (he kind)];rfl
 |f+1,kind,s,h1,h=>by
  have hb:=hs kind s h1 (by omega);simp only [aDh];by_cases c:aAJ 8 (mR n T s)<0
  ·rw [aY c] at hb ⊢;rw [dS hb];rfl
  ·rw [aW c] at hb ⊢;rw [iU hb];exact aGv hn hs he f _ (s+1) (by omega) (by omega)
theorem aJe {q:Qv} {n:Nat} (Q:QOk q n):mA q=some (aDh n (tA q n) (2 ^ n - 1) 1 1):=by
 have n5:=Q.n5;have hp:=aTo n (by omega);have hp1:1≤2 ^ n:=Nat.one_le_two_pow;unfold mA;rw [aMB Q.bq,Q.qv,aC,gO,aX,aSB Q,aC];refine aGv (by omega) (λkind s h1 h2=>?_) (λkind=>?_) _ _ 1 (bO _) (by omega)
 ·unfold mQ;simp only;rw [Q.n0,eB (by omega),Bool.not_false,aM,aMZ n (by omega),iE h2,aM];unfold tA;rw [aOG n5 (by omega) (x1:=(kind,(s:Int))) rfl,aC];have hl:=aDg n s;rw [aLH 8 (rF n s).length _ (by omega) (by omega) aEI.1 aEI.2,aC,bU h2 (by omega)];generalize aAJ 8 (mR n (vK n (mtF q q.src.length)) s)=d;by_cases c:d<0
  ·simp [c]
  ·by_cases c2:d=0
   ·simp [c2]
   ·simp [c,c2]
 ·unfold mQ;simp only;rw [Q.n0,eB (by omega),Bool.not_false,aM,aMZ n (by omega),iT (bO _),aX]
theorem aJf {q:Qv} {n:Nat} (Q:QOk q n):lZ q=some (aDh n (tA q n) (2 ^ n - 1) 1 1):=by
 have n5:=Q.n5;have hp:=aTo n (by omega);have hp1:1≤2 ^ n:=Nat.one_le_two_pow;unfold lZ;rw [aFi Q.bq,Q.qv,aC,gO,aX,aLG Q,aC];refine aGv (by omega) (λkind s h1 h2=>?_) (λkind=>?_) _ _ 1 (bO _) (by omega)
 ·unfold mP;simp only;rw [Q.n0,eB (by omega),Bool.not_false,aM,aMZ n (by omega),iE h2,aM];unfold tA;rw [aOH n5 (by omega),aC];have hl:=aDg n s;rw [aLI 8 (rF n s).length _ (by omega) (by omega) aEI.1 aEI.2,aC,bU h2 (by omega)];generalize aAJ 8 (mR n (vK n (mtF q q.src.length)) s)=d;by_cases c:d<0
  ·simp [c]
  ·by_cases c2:d=0
   ·simp [c2]
   ·simp [c,c2]
 ·unfold mP;simp only;rw [Q.n0,eB (by omega),Bool.not_false,aM,aMZ n (by omega),iT (bO _),aX]
theorem aLJ {n:Nat} {T:List (List Int)} : ∀ f s,aDh n T f 2 s≠1
 |0,s=>by simp [aDh]
 |f+1,s=>by
  simp only [aDh];split
  ·decide
  ·rw [ite_self];exact aLJ f (s+1)
theorem aLK {n:Nat} {T:List (List Int)} : ∀ {f:Nat} {kind:Int} {s:Nat},aDh n T f kind s=1→ ∀ t,s≤t→t<s+f→0<aAJ 8 (mR n T t)
 |0,kind,s,h,t,h1,h2=>by omega
 |f+1,kind,s,h,t,h1,h2=>by
  simp only [aDh] at h;split at h
  ·cases h
  ·rename_i c;by_cases c2:aAJ 8 (mR n T s)=0
   ·rw [aY c2] at h;exact absurd h (aLJ f (s+1))
   ·rw [aW c2] at h;by_cases e:t=s
    ·subst e;omega
    ·exact aLK h t (by omega) (by omega)
theorem aTp: ∀ n,n<6→ ∀ v,v<n→rF n (2 ^ v)=[v]:=by decide+kernel
theorem aTq: ∀ n,n<6→ ∀ v,v<n→ ∀ w,w<n→v<w→rF n (2 ^ v+2 ^ w)=[v,w]:=by decide+kernel
theorem aQt: ∀ n,n<6→ ∀ v,v<n→1≤2 ^ v∧2 ^ v<2 ^ n:=by decide
theorem aQu: ∀ n,n<6→ ∀ v,v<n→ ∀ w,w<n→v<w→1≤2 ^ v+2 ^ w∧2 ^ v+2 ^ w<2 ^ n:=by decide
theorem aVR: ∀ c:Nat,c<7→0<aAJ 8 [[2 - 2*(c:Int)]]→c=0:=by decide+kernel
theorem aVS: ∀ c:Nat,c<13→0<aAJ 8 [[2, -(c:Int)],[-(c:Int),2]]→c≤1:=by decide+kernel
theorem aTr {q:Qv} {n:Nat} (Q:QOk q n) (h: ∀ t,1≤t→t<2 ^ n→0<aAJ 8 (mR n (tA q n) t)):GForm n (tA q n)∧aLC n (tA q n)=true:=by
 have n5:=Q.n5;have m6:=Q.m6;generalize hF:mtF q q.src.length=F;have hT:tA q n=vK n F:=by rw [←hF];rfl
 rw [hT] at h ⊢;have hsym: ∀ v w,F v w=F w v:=λv w=>by rw [←hF];exact aWr q _ v w
 have hd: ∀ v,v<n→F v v=2:=by
  intro v hv;have h1:=h (2 ^ v) (aQt n (by omega) v hv).1 (aQt n (by omega) v hv).2
  have e:mR n (vK n F) (2 ^ v)=[[F v v]]:=by
   unfold mR;rw [aTp n (by omega) v hv];simp [lW hv hv]
  have hc:=aGt q q.src.length v v
  have e2:F v v=2 - 2*(((aHu q q.src.length v v).toNat:Nat):Int):=by
   rw [←hF];unfold mtF;rw [aY rfl];omega
  rw [e,e2] at h1;have:=aVR _ (by omega) h1;omega
 have ho: ∀ v w,v<n→w<n→v<w→F v w=0∨F v w= -1:=by
  intro v w hv hw hvw;have h1:=h (2 ^ v+2 ^ w) (aQu n (by omega) v hv w hw hvw).1 (aQu n (by omega) v hv w hw hvw).2;have hc:=aGt q q.src.length v w;have hc2:=aGt q q.src.length w v
  have e2:F v w= -((((aHu q q.src.length v w+aHu q q.src.length w v).toNat:Nat)):Int):=by
   rw [←hF];unfold mtF;rw [aW (by omega)];omega
  have e:mR n (vK n F) (2 ^ v+2 ^ w)=[[2,F v w],[F v w,2]]:=by
   unfold mR;rw [aTq n (by omega) v hv w hw hvw];simp [lW hv hv,lW hv hw,lW hw hv,lW hw hw,hd v hv,hd w hw,hsym w v]
  rw [e,e2] at h1;have:=aVS _ (by omega) h1;omega
 have hT2:vK n F=vK n λv w=>if v=w then 2 else bi (decide (F (min v w) (max v w)= -1)):=by
  refine aPm λv w hv hw=>?_;by_cases e:v=w
  ·subst e;rw [aY rfl];exact hd v hv
  ·rw [aW e];rcases Nat.lt_or_gt_of_ne e with c|c
   ·rw [Nat.min_eq_left (by omega),Nat.max_eq_right (by omega)];rcases ho v w hv hw c with h|h <;> rw [h] <;> rfl
   ·rw [Nat.min_eq_right (by omega),Nat.max_eq_left (by omega),hsym v w];rcases ho w v hw hv c with h|h <;> rw [h] <;> rfl
 have hchk:aBF n (vK n F)=true:=by
  rw [hT2];have hn1:=Q.n1;have hcase:n=1∨n=2∨n=3∨n=4∨n=5:=by omega
  rcases hcase with rfl|rfl|rfl|rfl|rfl
  ·exact aYR
  ·exact aYS (decide (F 0 1= -1))
  ·exact aYT (decide (F 0 1= -1)) (decide (F 0 2= -1)) (decide (F 1 2= -1))
  ·exact aYU (decide (F 0 1= -1)) (decide (F 0 2= -1)) (decide (F 0 3= -1)) (decide (F 1 2= -1)) (decide (F 1 3= -1)) (decide (F 2 3= -1))
  ·exact aYV (decide (F 0 1= -1)) (decide (F 0 2= -1)) (decide (F 0 3= -1)) (decide (F 0 4= -1)) (decide (F 1 2= -1)) (decide (F 1 3= -1)) (decide (F 1 4= -1)) (decide (F 2 3= -1)) (decide (F 2 4= -1)) (decide (F 3 4= -1))
 have hgood:aLC n (vK n F)=true:=by
  unfold aBF at hchk;rcases Bool.or_eq_true_iff.1 hchk with h1|h1
  ·exact h1
  ·rw [List.any_eq_true] at h1;obtain ⟨s,hs,h2⟩:=h1;simp only [dF,iD,Nat.blt_eq] at h2;have hs1:1≤s:=by simp only [eC,List.not_mem_nil,or_false] at hs;omega
   have:=h s hs1 h2.1;omega
 refine ⟨⟨λi j hi hj=>by rw [lW hi hj,lW hj hi];exact hsym i j,λi hi=>by rw [lW hi hi];exact hd i hi,(aBd hgood).1⟩,hgood⟩
end
noncomputable section
def eul (q:Qv) (n:Nat) (x y:List Int):Int:=(fB n λv=>gx x v*gx y v) - fB q.src.length λi=>gx x (gx q.src i).toNat *gx y (gx q.tgt i).toNat
theorem aBg {f:Nat→Int} {B:Int} : ∀ {n:Nat},(∀ i,i<n→ -B≤f i∧f i≤B)→ -(B*n)≤fB n f∧fB n f≤B*n
 |0,_=>by simp [fB]
 |n+1,h=>by
  have h1:=aBg (n:=n) λi hi=>h i (by omega);have h2:=h n (by omega);simp only [fB,Int.natCast_add,Int.mul_add];omega
theorem aGw {a b:Int} (ha: -100≤a∧a≤100) (hb: -100≤b∧b≤100): -10000≤a*b∧a*b≤10000:=by
 have h1:=Int.mul_nonneg (a:=100 - a) (b:=100+b) (by omega) (by omega);have h2:=Int.mul_nonneg (a:=100+a) (b:=100 - b) (by omega) (by omega);have h3:=Int.mul_nonneg (a:=100 - a) (b:=100 - b) (by omega) (by omega);have h4:=Int.mul_nonneg (a:=100+a) (b:=100+b) (by omega) (by omega)
 grind
def Sm (x:List Int):Prop:= ∀ a∈x, -100≤a∧a≤100
theorem Sm.gx {x:List Int} (h:Sm x) (i:Nat): -100≤gx x i∧gx x i≤100:=by
 rcases eD i x.length with h'|h'
 ·exact h _ (rX h')
 ·unfold Go.Proofs.YtilpfdokmlanjaaGreat.gx;rw [gB h'];simp
theorem aTs {n:Nat} {x y:List Int} (hx:x.length=n) (hy:y.length=n) (n5:n≤5) (sx:Sm x) (sy:Sm y) {body:Int×Int→Option ((Int×Int) ⊕ Int)}
  (hb: ∀ (s:Int) (k:Nat),k<n→body (s,(k:Int))=some (.inl (wr (s+wr (gx x k*gx y k)),wr ((k:Int)+1)))) (he: ∀ s:Int,body (s,(n:Int))=some (.inr s)):Lp body (0,0)=some (fB n λv=>gx x v*gx y v):=by
 refine dQ (λk=>(fB k λv=>gx x v*gx y v,(k:Int))) n rfl (λk hk=>?_) (λ_=>he _);have h1:=aGw (sx.gx k) (sy.gx k);have h2:=aBg (n:=k) (f:=λv=>gx x v*gx y v) (B:=10000) λi _=>aGw (sx.gx i) (sy.gx i);rw [hb _ k hk,cY (x:=gx x k*gx y k) (by omega),cY (by omega),bU hk (by omega)];rfl
theorem aTt {q:Qv} {n:Nat} (Q:QOk q n) {x y:List Int} (hx:x.length=n) (hy:y.length=n) (sx:Sm x) (sy:Sm y) {s0:Int} (hs0: -50000≤s0∧s0≤50000) {body:Int×Int→Option ((Int×Int) ⊕ Int)}
  (hb: ∀ (s:Int) (k:Nat),k<q.src.length→body (s,(k:Int))=some (.inl (wr (s - wr (gx x (gx q.src k).toNat *gx y (gx q.tgt k).toNat)),wr ((k:Int)+1)))) (he: ∀ s:Int,body (s,(q.src.length:Int))=some (.inr s)):
  Lp body (s0,0)=some (s0 - fB q.src.length λi=>gx x (gx q.src i).toNat *gx y (gx q.tgt i).toNat):=by
 have m6:=Q.m6;refine dQ (λk=>(s0 - fB k λi=>gx x (gx q.src i).toNat *gx y (gx q.tgt i).toNat,(k:Int))) q.src.length (by simp [fB]) (λk hk=>?_) (λ_=>he _);have h1:=aGw (sx.gx (gx q.src k).toNat) (sy.gx (gx q.tgt k).toNat);have h2:=aBg (n:=k) (f:=λi=>gx x (gx q.src i).toNat *gx y (gx q.tgt i).toNat) (B:=10000) λi _=>aGw (sx.gx _) (sy.gx _);rw [hb _ k hk,cY (x:=gx x (gx q.src k).toNat *gx y (gx q.tgt k).toNat) (by omega),cY (by omega),bU hk (by omega)];simp only [fB];congr 3;omega
theorem aMa {n:Nat} {x y:List Int} (n5:n≤5) (sx:Sm x) (sy:Sm y): -50000≤(fB n λv=>gx x v*gx y v)∧(fB n λv=>gx x v*gx y v)≤50000:=by
 have:=aBg (n:=n) (f:=λv=>gx x v*gx y v) (B:=10000) λi _=>aGw (sx.gx i) (sy.gx i);omega
theorem aWs {q:Qv} {n:Nat} (Q:QOk q n) {x y:List Int} (sx:Sm x) (sy:Sm y): -200000≤eul q n x y∧eul q n x y≤200000:=by
 have h1:=aMa (x:=x) (y:=y) Q.n5 sx sy;have h2:=aBg (n:=q.src.length) (f:=λi=>gx x (gx q.src i).toNat *gx y (gx q.tgt i).toNat) (B:=10000) λi _=>aGw (sx.gx _) (sy.gx _);have:=Q.m6;unfold eul;omega
theorem aLL {q:Qv} {n:Nat} (Q:QOk q n) {x y:List Int} (hx:x.length=n) (hy:y.length=n) (sx:Sm x) (sy:Sm y):yC q x y=some (eul q n x y):=by
 have n5:=Q.n5;unfold yC;rw [aTs hx hy n5 sx sy (λs k hk=>?_) (λs=>?_),aC,aTt Q hx hy sx sy (aMa n5 sx sy) (λs k hk=>?_) (λs=>?_),aC]
 ·rfl
 ·unfold wZ;simp only;obtain ⟨s',t,hs,ht,e1,e2,e3,e4⟩:=Q.arrow hk;rw [iE hk,aM,e3,aC,xP (by omega),aC,e4,aC,xP (by omega),aC,e1,e2,dH,dH]
 ·unfold wZ;simp only;rw [iT (bO _),aX]
 ·unfold wY;simp only;rw [hx,iE hk,aM,xP (by omega),aC,xP (by omega),aC]
 ·unfold wY;simp only;rw [hx,iT (bO _),aX]
theorem aOK {q:Qv} (hq:bQ q) {x:List Int} (hx:x.length≤1048576):qU q x=some ((x.all λa=>inR a (-100) 100)&&(aBB q&&decide ((x.length:Int)=q.n))):=by
 unfold qU;rw [aEm (λk=>inR (x[k]?.getD 0) (-100) 100) false (n:=x.length) (by omega) (λk hk=>?_) (λ_=>?_),aCE 0 x (λa=>inR a (-100) 100),aC]
 ·cases x.all λa=>inR a (-100) 100
  ·rfl
  ·rw [aM,Bool.true_and];show (Option.bind (jK q) λv7=>bif v7 then some (decide ((x.length:Int)=q.n)) else some false)=_;rw [aFi hq,aC];cases aBB q <;> rfl
 ·unfold pU;rw [iE hk,aM,vG 0 hk,aC,aAN,aC];cases inR _ (-100) 100 <;> rfl
 ·unfold pU;rw [iT (bO _),aX]
theorem Sm.all {x:List Int} (h:Sm x):(x.all λa=>inR a (-100) 100)=true:=by
 rw [List.all_eq_true];intro a ha;exact aIm (h a ha).1 (h a ha).2
theorem aLM {q:Qv} {n:Nat} (Q:QOk q n) {x y:List Int} (hx:x.length=n) (hy:y.length=n) (sx:Sm x) (sy:Sm y):mW q x y=some (eul q n x y):=by
 have n5:=Q.n5;unfold mW;rw [aOK Q.bq (by omega),sx.all,Q.qv,hx,Q.n0,bG rfl,aOK Q.bq (by omega),sy.all,Q.qv,hy,Q.n0,bG rfl];simp only [Bool.and_self,aC,gO,aX];rw [aTs hx hy n5 sx sy (λs k hk=>?_) (λs=>?_),aC,aTt Q hx hy sx sy (aMa n5 sx sy) (λs k hk=>?_) (λs=>?_),aC]
 ·rfl
 ·unfold pW;simp only;obtain ⟨s',t,hs,ht,e1,e2,e3,e4⟩:=Q.arrow hk;rw [iE hk,aM,e3,aC,xP (by omega),aC,e4,aC,xP (by omega),aC,e1,e2,dH,dH]
 ·unfold pW;simp only;rw [iT (bO _),aX]
 ·unfold pV;simp only;rw [Q.n0,iE hk,aM,xP (by omega),aC,xP (by omega),aC]
 ·unfold pV;simp only;rw [Q.n0,iT (bO _),aX]
theorem aXk {n s t:Nat} (x:Nat→Int) (hs:s<n) (ht:t<n):(fB n λv=>fB n λw=>(if v=s∧w=t then 1 else 0)*(x v*x w))=x s*x t:=by
 rw [eU (g:=λv=>if v=s then (λv=>x v*x t) v else 0) (λv hv=>?_),aCW (λv=>x v*x t) hs];by_cases c:v=s
 ·rw [aY c];refine (eU λw _=>?_).trans (aCW (λw=>x v*x w) ht);by_cases c2:w=t
  ·simp [c,c2]
  ·simp [c2]
 ·rw [aW c,eU (g:=λ_=>0) (λw _=>by simp [c]),zL]
theorem aVw {q:Qv} {n:Nat} (Q:QOk q n) (x:Nat→Int): ∀ k,k≤q.src.length→qf n (mtF q k) x=2*(fB n λv=>x v*x v) - 2*fB k λi=>x (gx q.src i).toNat *x (gx q.tgt i).toNat
 |0,_=>by
  unfold qf;simp only [fB];rw [eU (g:=λv=>2*(x v*x v)) (λv hv=>?_),nM]
  ·omega
  ·rw [←aCW (λw=>2*(x v*x w)) hv];refine eU λw _=>?_;unfold mtF aHu;simp only [fB];by_cases c:v=w
   ·subst c;simp
   ·simp [c,show ¬ w=v from λh=>c h.symm]
 |k+1,hk=>by
  have ih:=aVw Q x k (by omega);obtain ⟨s,t,hs,ht,e1,e2,e3,e4⟩:=Q.arrow (i:=k) (by omega)
  have e:qf n (mtF q (k+1)) x=qf n (mtF q k) x+((-1)*(fB n λv=>fB n λw=>(if v=s∧w=t then 1 else 0)*(x v*x w))+(-1)*(fB n λv=>fB n λw=>(if v=t∧w=s then 1 else 0)*(x v*x w))):=by
   unfold qf;rw [←nM,←nM,←qX,←qX];refine eU λv _=>?_;rw [←nM,←nM,←qX,←qX];refine eU λw _=>?_;rw [aBf,vL e1 e2,vL e1 e2]
   have c:(if w=s∧v=t then (1:Int) else 0)=if v=t∧w=s then 1 else 0:=by
    by_cases h:v=t∧w=s
    ·rw [aY h,aY ⟨h.2,h.1⟩]
    ·rw [aW h,aW λh'=>h ⟨h'.2,h'.1⟩]
   rw [c]
   grind
  rw [e,aXk x hs ht,aXk x ht hs,ih];simp only [fB];rw [e1,e2,dH,dH]
  grind
theorem aTu {n:Nat} {m m':Nat→Nat→Int} (x:Nat→Int) (h: ∀ i j,i<n→j<n→m i j=m' i j):qf n m x=qf n m' x:=
 eU λi hi=>eU λj hj=>by rw [h i j hi hj]
theorem aTv {q:Qv} {n:Nat} (Q:QOk q n) (x:List Int):qf n (kN (tA q n)) (gx x)=2*eul q n x x:=by
 have e:qf n (kN (tA q n)) (gx x)=qf n (mtF q q.src.length) (gx x):=aTu _ λi j hi hj=>lW hi hj;rw [e,aVw Q _ _ (bO _)];unfold eul;omega
theorem aGx: ∀ {ms x:List Int},x∈dX ms↔x.length=ms.length∧ ∀ i,i<ms.length→0≤gx x i∧(gx x i).toNat ≤(gx ms i).toNat
 | [],x=>by
  simp only [dX,List.mem_singleton,List.length_nil];constructor
  ·rintro rfl;exact ⟨rfl,λi h=>by omega⟩
  ·rintro ⟨h,_⟩;exact List.eq_nil_of_length_eq_zero h
 |m::ms,x=>by
  simp only [dX,List.mem_flatMap,List.mem_range,List.mem_map];constructor
  ·rintro ⟨i,hi,y,hy,rfl⟩;obtain ⟨h1,h2⟩:=aGx.1 hy;refine ⟨by simp [h1],λj hj=>?_⟩;cases j with
   |zero=>show 0≤(i:Int)∧(i:Int).toNat ≤m.toNat;omega
   |succ j=>exact h2 j (by simpa using hj)
  ·rintro ⟨h1,h2⟩;cases x with
   |nil=>simp at h1
   |cons a x=>
    have h3:=h2 0 (by simp);have h4:0≤a∧a.toNat≤m.toNat:=h3;refine ⟨a.toNat,by omega,x,aGx.2 ⟨by simpa using h1,λj hj=>h2 (j+1) (by simpa using hj)⟩,?_⟩;rw [Int.toNat_of_nonneg h4.1]
def aBM:List Int→List Int→Bool
 |a::x,b::y=>decide (a<b)||(decide (a=b)&&aBM x y)
 |_,_=>false
theorem aGy: ∀ ms:List Int,(dX ms).Pairwise λx y=>aBM x y=true
 | []=>by simp [dX]
 |m::ms=>by
  simp only [dX];rw [List.pairwise_flatMap];refine ⟨λi _=>?_,?_⟩
  ·rw [List.pairwise_map];exact (aGy ms).imp λh=>by simp [aBM,h]
  ·refine List.pairwise_lt_range.imp λh=>?_;intro x hx y hy;obtain ⟨x',_,rfl⟩:=List.mem_map.1 hx;obtain ⟨y',_,rfl⟩:=List.mem_map.1 hy;simp only [aBM,Bool.or_eq_true,iD];exact .inl (by omega)
theorem aJg: ∀ x:List Int,aBM x x=false
 | []=>rfl
 |a::x=>by simp [aBM,aJg x]
theorem aHZ (ms:List Int):(dX ms).Nodup:=(aGy ms).imp λ{x y} h e=>by rw [e,aJg] at h;cases h
theorem aSD: ∀ n,n<6→(dX (List.replicate n 4)).length ≤3125:=by decide+kernel
theorem aWt: ∀ n,n<6→aJQ (List.replicate n 4)=true:=by decide
end
noncomputable section
def aCu {α:Type} (lt:α→α→Bool) (x:α):List α→List α→List α
 | [],acc=>x::acc
 |p::ps,acc=>if lt x p=true then aCu lt x ps (p::acc) else (p::ps).reverse++x::acc
def aGz {α:Type} (lt:α→α→Bool) (x:α) (P:List α):List α:=aCu lt x P.reverse []
def mV {α:Type} (lt:α→α→Bool) (A:List α):List α:=A.foldl (λS x=>aGz lt x S) []
theorem aOL {α:Type} (lt:α→α→Bool) (x:α): ∀ ps acc,(aCu lt x ps acc).length=ps.length+acc.length+1
 | [],acc=>by simp [aCu]
 |p::ps,acc=>by
  simp only [aCu];split
  ·rw [aOL lt x ps (p::acc)];simp;omega
  ·simp;omega
theorem aOM {α:Type} (lt:α→α→Bool) (x y:α): ∀ ps acc,y∈aCu lt x ps acc↔y=x∨y∈ps∨y∈acc
 | [],acc=>by simp [aCu]
 |p::ps,acc=>by
  simp only [aCu];split
  ·rw [aOM lt x y ps (p::acc)];simp only [eC];grind
  ·simp only [eP,List.mem_reverse,eC];grind
theorem aTw {α:Type} (lt:α→α→Bool) (x:α) (P:List α):(aGz lt x P).length=P.length+1:=by unfold aGz;rw [aOL];simp
theorem aTx {α:Type} {lt:α→α→Bool} {x y:α} {P:List α} :y∈aGz lt x P↔y=x∨y∈P:=by unfold aGz;rw [aOM];simp
theorem aFE {α:Type} (lt:α→α→Bool) (A:List α) (x:α):mV lt (A++[x])=aGz lt x (mV lt A):=by simp [mV]
theorem uG {α:Type} (lt:α→α→Bool): ∀ A:List α,(mV lt A).length=A.length∧ ∀ y,y∈mV lt A↔y∈A:=by
 have key: ∀ A S:List α,(A.foldl (λS x=>aGz lt x S) S).length=S.length+A.length∧ ∀ y,y∈A.foldl (λS x=>aGz lt x S) S↔y∈S∨y∈A:=by
  intro A;induction A with
  |nil=>intro S;simp
  |cons a A ih=>
   intro S;obtain ⟨h1,h2⟩:=ih (aGz lt a S);refine ⟨by rw [List.foldl_cons,h1,aTw];simp;omega,λy=>?_⟩;rw [List.foldl_cons,h2 y,aTx];simp only [eC];grind
 intro A;obtain ⟨h1,h2⟩:=key A [];exact ⟨by unfold mV;rw [h1];simp,λy=>by unfold mV;rw [h2];simp⟩
theorem aHa {α:Type} {lt:α→α→Bool} {R:α→α→Prop} (hT: ∀ a b c,R a b→R b c→R a c) {x:α} : ∀ {ps acc:List α},(ps.reverse++acc).Pairwise R→(∀ a∈acc,R x a)→(∀ p∈ps,lt x p=true→R x p)→(∀ p∈ps,lt x p=false→R p x)→(aCu lt x ps acc).Pairwise R
 | [],acc,hs,ha,h1,h0=>by simp only [aCu];exact List.pairwise_cons.2 ⟨ha,by simpa using hs⟩
 |p::ps,acc,hs,ha,h1,h0=>by
  simp only [aCu];by_cases c:lt x p=true
  ·rw [aY c];have e:(p::ps).reverse++acc=ps.reverse++(p::acc):=by simp
   rw [e] at hs;refine aHa hT hs (λa h=>?_) (λq hq=>h1 q (by simp [hq])) (λq hq=>h0 q (by simp [hq]));rcases eC.1 h with rfl|h
   ·exact h1 _ (by simp) c
   ·exact ha a h
  ·rw [aW c];have hp:=h0 p (by simp) (by simpa using c);rw [List.pairwise_append] at hs ⊢;obtain ⟨g1,g2,g3⟩:=hs;refine ⟨g1,List.pairwise_cons.2 ⟨ha,g2⟩,λa h1' b hb=>?_⟩;rcases eC.1 hb with rfl|hb
   ·rcases List.mem_reverse.1 h1' |> eC.1 with rfl|h
    ·exact hp
    ·refine hT _ p _ ?_ hp;rw [List.reverse_cons,List.pairwise_append] at g1;exact g1.2.2 a (by simpa using h) p (by simp)
   ·exact g3 a h1' b hb
theorem aON {α:Type} {lt:α→α→Bool} {R:α→α→Prop} (hT: ∀ a b c,R a b→R b c→R a c) {x:α} {P:List α} (hP:P.Pairwise R) (h1: ∀ p∈P,lt x p=true→R x p) (h0: ∀ p∈P,lt x p=false→R p x):(aGz lt x P).Pairwise R:=
 aHa hT (by simpa using hP) (by simp) (λp hp=>h1 p (by simpa using hp)) (λp hp=>h0 p (by simpa using hp))
theorem aJh {α:Type} {R:α→α→Prop} (hI: ∀ a,¬ R a a) (hT: ∀ a b c,R a b→R b c→R a c): ∀ {l m:List α},l.Pairwise R→m.Pairwise R→(∀ x,x∈l↔x∈m)→l=m
 | [],m,_,_,h=>by
  cases m with
  |nil=>rfl
  |cons b m=>exact absurd ((h b).2 (by simp)) (by simp)
 |a::l,m,hl,hm,h=>by
  cases m with
  |nil=>exact absurd ((h a).1 (by simp)) (by simp)
  |cons b m=>
   have hl':=List.pairwise_cons.1 hl;have hm':=List.pairwise_cons.1 hm
   have hab:a=b:=by
    rcases eC.1 ((h a).1 (by simp)) with e|e
    ·exact e
    ·rcases eC.1 ((h b).2 (by simp)) with e2|e2
     ·exact e2.symm
     ·exact absurd (hT _ _ _ (hl'.1 b e2) (hm'.1 a e)) (hI a)
   subst hab;congr 1;refine aJh hI hT hl'.2 hm'.2 λx=>?_;have hx:=h x;simp only [eC] at hx;constructor
   ·intro h1;rcases hx.1 (.inr h1) with rfl|h2
    ·exact absurd (hl'.1 _ h1) (hI _)
    ·exact h2
   ·intro h1;rcases hx.2 (.inr h1) with rfl|h2
    ·exact absurd (hm'.1 _ h1) (hI _)
    ·exact h2
def Vec5 (x:List Int):Prop:=x.length≤5∧ ∀ a∈x,0≤a∧a≤4
theorem Vec5.sum {x:List Int} (h:Vec5 x):0≤x.sum∧x.sum≤20:=by have:=aMC h.2;have:=h.1;omega
def sK (x y:List Int):Bool:=decide (x.sum<y.sum)
theorem aXl {x y:List Int} (hx:Vec5 x) (hy:Vec5 y):yF x y=some (x.sum - y.sum):=by
 have h1:=hx.sum;have h2:=hy.sum;unfold yF;rw [aIH hx.2 (by have:=hx.1;omega),aC,aIH hy.2 (by have:=hy.1;omega),aC,cY (by omega)]
theorem aMb {α:Type} {u T:List α} {p:α} :cO (u++p::T) (u.length:Int)=some p:=by simp [cO]
theorem aVT {α:Type} {u T:List α} {p x:α} :cO (u++p::x::T) ((u.length+1:Nat):Int)=some x:=by
 have:=aMb (u:=u++[p]) (p:=x) (T:=T);simpa using this
theorem aVU {α:Type} {u T:List α} {p q:α} :(u++p::T).set u.length q=u++q::T:=by simp
theorem aTy {α:Type} {u T:List α} {p x q:α} :(u++p::x::T).set (u.length+1) q=u++p::q::T:=by simp
theorem aJi {x:List Int} (hx:Vec5 x) (R:List (List Int)): ∀ ps acc:List (List Int),(∀ p∈ps,Vec5 p)→ps.length≤1000→Lp (dU 0) (ps.reverse++x::(acc++R),(ps.length:Int))=some (aCu sK x ps acc++R)
 | [],acc,_,_=>by
  refine dS ?_;unfold dU;simp [aCu]
 |p::ps,acc,hp,hl=>by
  have hpv:=hp p (by simp);have hl':ps.length+1≤1000:=by simpa using hl
  have e1:(p::ps).reverse++x::(acc++R)=ps.reverse++p::x::(acc++R):=by simp
  have hlen:ps.reverse.length=ps.length:=by simp
  have a1:cO (ps.reverse++p::x::(acc++R)) ((ps.length+1:Nat):Int)=some x:=by rw [←hlen];exact aVT
  have a2:cO (ps.reverse++p::x::(acc++R)) (ps.length:Int)=some p:=by rw [←hlen];exact aMb
  have hwr:wr (((ps.length+1:Nat):Int) - 1)=(ps.length:Int):=by rw [cY (by omega)];omega
  have hbody:dU 0 ((p::ps).reverse++x::(acc++R),((p::ps).length:Int))=some (if sK x p=true then .inl (ps.reverse++x::((p::acc)++R),(ps.length:Int)) else .inr ((p::ps).reverse++x::(acc++R))):=by
   unfold dU;simp only;rw [List.length_cons,e1,bG (by omega),aM,a1,aC,hwr,a2,aC,aXl hx hpv,aC];simp only [aC];by_cases c:x.sum<p.sum
   ·rw [bG (by omega),aM,aY (by simp [sK,c])];have s1:(ps.reverse++p::x::(acc++R)).set ((ps.length+1:Nat):Int).toNat p=ps.reverse++p::p::(acc++R):=by rw [dH,←hlen];exact aTy
    rw [s1];have a3:cO (ps.reverse++p::p::(acc++R)) (ps.length:Int)=some p:=by rw [←hlen];exact aMb
    rw [a3,aC];have s2:(ps.reverse++p::p::(acc++R)).set ((ps.length:Nat):Int).toNat x=ps.reverse++x::p::(acc++R):=by rw [dH,←hlen];exact aVU
    rw [s2];rfl
   ·rw [eB (by omega),aX,aW (by simp [sK,c])]
  by_cases c:sK x p=true
  ·rw [aY c] at hbody;rw [iU hbody,aJi hx R ps (p::acc) (λq hq=>hp q (by simp [hq])) (by omega)];simp only [aCu,aY c]
  ·rw [aW c] at hbody;rw [dS hbody];simp only [aCu,aW c];simp
theorem aLN {A:List (List Int)} (hA: ∀ x∈A,Vec5 x) (hl:A.length≤1000):cV A 0 (A.length:Int)=some (mV sK A):=by
 unfold cV;cases A with
 |nil=>
  rw [dS (r:=([]:List (List Int)))]
  ·rfl
  ·unfold dV;rw [cY (by omega)];rfl
 |cons a A=>
  have h1:wr (0+1)=((0+1:Nat):Int):=by rw [cY (by omega)];rfl
  simp only [List.length_cons] at hl;rw [dQ (s:=(a::A,wr (0+1))) (r:=mV sK (a::A)) (λk=>(mV sK ((a::A).take (k+1))++(a::A).drop (k+1),((k+1:Nat):Int))) A.length (by rw [h1];rfl) (λk hk=>?_) (λ_=>?_),aC]
  ·unfold dV;simp only;have hk1:k+1<(a::A).length:=by simp;omega
   obtain ⟨hsl,hsm⟩:=uG sK ((a::A).take (k+1));have hSl:(mV sK ((a::A).take (k+1))).length=k+1:=by rw [hsl];simp;omega
   generalize hS:mV sK ((a::A).take (k+1))=S at*;rw [List.drop_eq_getElem_cons hk1];generalize hx:(a::A)[k+1]=x;have hxA:x∈a::A:=by rw [←hx];exact List.getElem_mem hk1
   have hin:=aJi (hA x hxA) ((a::A).drop (k+1+1)) S.reverse [] (λp hp=>hA p (List.mem_of_mem_take ((hsm p).1 (by simpa using hp)))) (by simp;omega);rw [List.reverse_reverse,List.length_reverse,hSl,List.nil_append] at hin;rw [iE hk1,aM,hin,aC,bU hk1 (by simp;omega)]
   have e:mV sK ((a::A).take (k+1+1))=aGz sK x S:=by
    rw [aBy hk1,aFE,hS,hx]
   rw [e];rfl
  ·unfold dV;simp only;rw [List.length_cons,iT (bO _),aX,List.take_of_length_le (by simp),List.drop_of_length_le (by simp),List.append_nil]
theorem aSE (l:List (List Int)):cV l 20 20=some l:=by
 unfold cV;rw [dS (r:=l)]
 ·rfl
 ·unfold dV;simp only;rw [cY (by omega)];rfl
theorem aMc {A:List (List Int)} (hA: ∀ x∈A,Vec5 x) (hl:A.length≤20):fC A=some (mV sK A):=by
 have hS:=(uG sK A).1
 have hst:iQ A (A.length:Int)=some (mV sK A):=by
  unfold iQ
  have hL2:Lp (gQ (A.length:Int)) 20=some ():=by
   refine dS ?_;unfold gQ;rw [eB (by omega),aX]
  by_cases c:A.length=20
  ·have b1:dO (A.length:Int) (A,0,20)=some (.inl (mV sK A,20,40)):=by
    unfold dO;simp only;have:=aLN hA (by omega);rw [c] at this;rw [bG (by omega),aM];rw [show cV A 0 20=some (mV sK A) from this,aC,bG hS,aM,cY (by omega)];rfl
   have b2:dO (A.length:Int) (mV sK A,20,40)=some (.inr (mV sK A,20)):=by
    unfold dO;simp only;rw [eB (by omega),aX]
   rw [iU b1,dS b2,aC];simp only;rw [show ((A.length:Nat):Int)=20 by omega,aSE,aC,bG rfl,aM];rw [show ((A.length:Nat):Int)=20 by omega] at hL2;rw [hL2,aC]
  ·have b1:dO (A.length:Int) (A,0,20)=some (.inr (A,0)):=by
    unfold dO;simp only;rw [eB (by omega),aX]
   rw [dS b1,aC];simp only;rw [aLN hA (by omega),aC,bG hS,aM,hL2,aC]
 unfold fC;rw [hst,aC,bG hS,aM]
def aAK (x y:List Int):Bool:=decide (x.sum<y.sum)||(decide (x.sum=y.sum)&&aBM x y)
theorem aVx {x y:List Int} (h:x.length=y.length) (hl:x.length≤1000): ∀ d s:Nat,s+d=x.length→(Option.bind (Lp (jB x y) (s:Int)) λz=>Sum.elim (λ_=>some false) (λb=>some b) z)=some (aBM (x.drop s) (y.drop s))
 |0,s,hs=>by
  have:jB x y (s:Int)=some (.inr (.inl ())):=by
   unfold jB;rw [iT (by omega),aX]
  rw [dS this,List.drop_of_length_le (by omega)];simp [aBM]
 |d+1,s,hs=>by
  have hx:s<x.length:=by omega
  have hy:s<y.length:=by omega
  have hb:jB x y (s:Int)=some (if x[s]=y[s] then .inl ((s+1:Nat):Int) else .inr (.inr (decide (x[s]<y[s])))):=by
   unfold jB;rw [iE hx,aM,dJ hx,aC,dJ hy,aC];by_cases c:x[s]=y[s]
   ·rw [bG c,gO,aX,aY c,bU hx (by omega)]
   ·rw [eB c,Bool.not_false,aM,aW c];simp only [aC]
  rw [List.drop_eq_getElem_cons hx,List.drop_eq_getElem_cons hy];by_cases c:x[s]=y[s]
  ·rw [aY c] at hb;rw [iU hb,aVx h hl d (s+1) (by omega)];simp [aBM,c]
  ·rw [aW c] at hb;rw [dS hb];simp [aBM,c]
theorem uH (x:List Int) {k:Nat} (h:k<x.length):gx x k=x[k]:=by simp [gx,h]
theorem aWu {x y:List Int} (hx:Vec5 x) (hy:Vec5 y) (h:x.length=y.length):yD x y=some (aAK x y):=by
 have l5:=hx.1;unfold yD
 have hbd: ∀ z:List Int,Vec5 z→ ∀ k:Nat, -(4*(k:Int))≤fB k (gx z)∧fB k (gx z)≤4*k:=λz hz k=>aBg λi _=>by
  rcases eD i z.length with h'|h'
  ·have:=hz.2 _ (rX h');omega
  ·unfold gx;rw [gB h'];simp
 have hg: ∀ z:List Int,Vec5 z→ ∀ k:Nat,0≤gx z k∧gx z k≤4:=λz hz k=>by
  rcases eD k z.length with h'|h'
  ·exact hz.2 _ (rX h')
  ·unfold gx;rw [gB h'];simp
 rw [dQ (s:=((0:Int),(0:Int),(0:Int))) (r:=(x.sum,y.sum)) (λk=>(fB k (gx x),fB k (gx y),(k:Int))) x.length rfl (λk hk=>?_) (λ_=>?_),aC]
 ·simp only;by_cases c:x.sum=y.sum
  ·rw [bG c,gO,aX];refine (aVx h (by omega) x.length 0 (by omega)).trans ?_;simp [aAK,c]
  ·rw [eB c,Bool.not_false,aM];simp [aAK,c]
 ·unfold tK;simp only;have h1:=hbd x hx k;have h2:=hbd y hy k;have h3:=hg x hx k;have h4:=hg y hy k;rw [iE hk,aM,xP hk,aC,xP (by omega),aC,cY (by omega),cY (by omega),bU hk (by omega)];rfl
 ·unfold tK;simp only;rw [iT (bO _),aX,yJ,yJ,h]
theorem aLO {C:List (List Int)} {n:Nat} {i:Nat} {x:List Int} (hx:Vec5 x) (hxn:x.length=n) (hi:cO C (i:Int)=some x) {out:List (List Int)} (ho: ∀ p∈out,Vec5 p∧p.length=n) (hl:out.length≤1000): ∀ ps acc:List (List Int),ps.reverse++acc=out→
  ∃ k:Nat,Lp (gL (out,(i:Int)) C) (ps.length:Int)=some (k:Int)∧k≤out.length∧out.take k++x::out.drop k=aCu aAK x ps acc
 | [],acc,e=>by
  refine ⟨0,dS ?_,Nat.zero_le _,by simp only [aCu];rw [←e];simp⟩;unfold gL;simp
 |p::ps,acc,e=>by
  have e':ps.reverse++(p::acc)=out:=by rw [←e];simp
  have hlen:out.length=ps.length+acc.length+1:=by rw [←e'];simp;omega
  have hp:=ho p (by rw [←e'];simp);have hwr:wr (((p::ps).length:Int) - 1)=(ps.length:Int):=by rw [List.length_cons,cY (by omega)];omega
  have hat:cO out (ps.length:Int)=some p:=by rw [←e',←List.length_reverse];exact aMb
  have hb:gL (out,(i:Int)) C ((p::ps).length:Int)=some (if aAK x p=true then .inl (ps.length:Int) else .inr ((p::ps).length:Int)):=by
   unfold gL;simp only;rw [bG (by rw [List.length_cons];omega),aM,hi,aC,hwr,hat,aC,aWu hx hp.1 (by rw [hxn,hp.2]),aC];cases aAK x p <;> rfl
  by_cases c:aAK x p=true
  ·rw [aY c] at hb;obtain ⟨k,h1,h2,h3⟩:=aLO hx hxn hi ho hl ps (p::acc) e';exact ⟨k,by rw [iU hb];exact h1,h2,by rw [h3];simp only [aCu,aY c]⟩
  ·rw [aW c] at hb;refine ⟨(p::ps).length,dS hb,by rw [List.length_cons];omega,?_⟩;simp only [aCu,aW c];rw [←e];rw [List.take_left' (by simp),List.drop_left' (by simp)]
theorem aPn {C:List (List Int)} {n:Nat} (hC: ∀ x∈C,Vec5 x∧x.length=n) (hl:C.length≤1000):Lp (gM C) (([]:List (List Int)),0)=some (mV aAK C):=by
 refine dQ (λk=>(mV aAK (C.take k),(k:Int))) C.length rfl (λk hk=>?_) (λ_=>?_)
 ·unfold gM;simp only;obtain ⟨hsl,hsm⟩:=uG aAK (C.take k);have hSl:(mV aAK (C.take k)).length=k:=by rw [hsl];simp;omega
  have e:mV aAK (C.take (k+1))=aGz aAK C[k] (mV aAK (C.take k)):=by rw [aBy hk,aFE]
  rw [e];generalize hS:mV aAK (C.take k)=S at*;have hx:=hC C[k] (List.getElem_mem hk);obtain ⟨j,h1,h2,h3⟩:=aLO (C:=C) (i:=k) hx.1 hx.2 (dJ hk) (out:=S) (λp hp=>hC p (List.mem_of_mem_take ((hsm p).1 hp))) (by omega) S.reverse [] (by simp);rw [List.length_reverse] at h1;rw [iE hk,aM,h1,aC,dJ hk];simp only [aC];have f1:List.take ((j:Int).toNat - (0:Int).toNat) (List.drop (0+(0:Int).toNat) S)=S.take j:=by simp
  have f2:List.take (((S.length:Nat):Int).toNat - (j:Int).toNat) (List.drop (0+(j:Int).toNat) S)=S.drop j:=by
   rw [dH,dH,Nat.zero_add,List.take_of_length_le (by simp)]
  rw [f1,f2];have g1:(S.take j).length ≤1000:=by simp;omega
  have g2:(S.drop j).length ≤1000:=by simp;omega
  rw [show (decide ((0:Nat)≤0)&&(decide (0≤(j:Int))&&decide ((j:Int)≤((S.length:Nat):Int))))=true by simp [h2],aM,bG (by simp;omega),aM,bG (by simp;omega),aM];rw [show (decide (0≤(j:Int))&&(decide ((j:Int)≤((S.length:Nat):Int))&&decide (((S.length:Nat):Int)≤((S.length:Nat):Int))))=true by simp [h2],aM,bG (by simp;omega),aM,bU hk (by omega)];congr 3;unfold aGz;rw [←h3];simp
 ·unfold gM;simp only;rw [iT (bO _),aX,List.take_length]
end
noncomputable section
theorem aJj: ∀ {x y z:List Int},aBM x y=true→aBM y z=true→aBM x z=true
 | [],y,z,h,_=>by simp [aBM] at h
 |a::x,[],z,h,_=>by simp [aBM] at h
 |a::x,b::y,[],_,h=>by simp [aBM] at h
 |a::x,b::y,c::z,h,k=>by
  simp only [aBM,Bool.or_eq_true,dF,iD] at h k ⊢;rcases h with h|⟨h,h'⟩ <;> rcases k with k|⟨k,k'⟩
  ·exact .inl (by omega)
  ·exact .inl (by omega)
  ·exact .inl (by omega)
  ·exact .inr ⟨by omega,aJj h' k'⟩
theorem aJk: ∀ {x y:List Int},x.length=y.length→x≠y→aBM x y=true∨aBM y x=true
 | [],[],_,h=>absurd rfl h
 | [],_::_,h,_=>by simp at h
 |_::_,[],h,_=>by simp at h
 |a::x,b::y,h,hne=>by
  simp only [aBM,Bool.or_eq_true,dF,iD];by_cases e:a=b
  ·subst e;rcases aJk (x:=x) (y:=y) (by simpa using h) (λe=>hne (by rw [e])) with h1|h1
   ·exact .inl (.inr ⟨rfl,h1⟩)
   ·exact .inr (.inr ⟨rfl,h1⟩)
  ·rcases Int.lt_or_gt_of_ne e with h1|h1
   ·exact .inl (.inl h1)
   ·exact .inr (.inl h1)
def aGB (x y:List Int):Prop:=aAK x y=true
theorem aCY {x y:List Int} :aGB x y↔x.sum<y.sum∨(x.sum=y.sum∧aBM x y=true):=by simp [aGB,aAK]
theorem aSF (x:List Int): ¬ aGB x x:=by rw [aCY,aJg];simp
theorem aDi (x y z:List Int) (h:aGB x y) (k:aGB y z):aGB x z:=by
 rw [aCY] at*;rcases h with h|⟨h,h'⟩ <;> rcases k with k|⟨k,k'⟩
 ·exact .inl (by omega)
 ·exact .inl (by omega)
 ·exact .inl (by omega)
 ·exact .inr ⟨by omega,aJj h' k'⟩
theorem aGC {α:Type} {lt:α→α→Bool} {R:α→α→Prop} (hT: ∀ a b c,R a b→R b c→R a c) {A:List α} (hA:A.Pairwise λp x=>(lt x p=true→R x p)∧(lt x p=false→R p x)):(mV lt A).Pairwise R:=by
 have key: ∀ k,k≤A.length→(mV lt (A.take k)).Pairwise R:=by
  intro k;induction k with
  |zero=>intro _;simp [mV]
  |succ k ih=>
   intro hk;have hk':k<A.length:=by omega
   rw [aBy hk',aFE]
   have hpr: ∀ p∈mV lt (A.take k),(lt A[k] p=true→R A[k] p)∧(lt A[k] p=false→R p A[k]):=by
    intro p hp;have h1:=((uG lt (A.take k)).2 p).1 hp;obtain ⟨j,hj,rfl⟩:=List.mem_iff_getElem.1 h1;have hjk:j<k:=by simp at hj;omega
    have:=List.pairwise_iff_getElem.1 hA j k (by omega) hk' hjk;simpa using this
   exact aON hT (ih (by omega)) (λp hp=>(hpr p hp).1) (λp hp=>(hpr p hp).2)
 have:=key A.length (bO _)
 rwa [List.take_length] at this
structure Fin1 (q:Qv) (n:Nat):Prop where
 Q:QOk q n
 F:GForm n (tA q n)
 G:aLC n (tA q n)=true
def RtQ (q:Qv) (n:Nat) (x:List Int):Prop:=Rt0 n (tA q n) x
theorem Fin1.vec {q:Qv} {n:Nat} (H:Fin1 q n) {x:List Int} (r:RtQ q n x):Vec5 x∧x.length=n:=by
 have h:=(aBd H.G).2;have h1:=r.mem H.F h.1;exact ⟨⟨by rw [r.len];exact H.Q.n5,λa ha=>⟨r.nn a ha,h.2.2 x h1 a ha⟩⟩,r.len⟩
theorem Fin1.num {q:Qv} {n:Nat} (H:Fin1 q n) {l:List (List Int)} (hn:l.Nodup) (h: ∀ x∈l,RtQ q n x):l.length≤20:=
 Nat.le_trans (aLF hn λx hx=>(h x hx).mem H.F (aBd H.G).2.1) (aBd H.G).2.2.1
theorem Vec5.sm {x:List Int} (h:Vec5 x):Sm x:=λa ha=>by have:=h.2 a ha;omega
theorem aMd {q:Qv} {n:Nat} (Q:QOk q n) (x:List Int):RtQ q n x↔x.length=n∧(∀ a∈x,0≤a)∧eul q n x x=1:=by
 constructor
 ·intro r;have:=r.two;rw [aTv Q] at this;exact ⟨r.len,r.nn,by omega⟩
 ·rintro ⟨h1,h2,h3⟩;exact ⟨h1,h2,by rw [aTv Q];omega⟩
def aGD (q:Qv) (n:Nat):List (List Int):=(dX (List.replicate n 4)).filter λx=>decide (eul q n x x=1)
theorem aPo {n i:Nat} (h:i<n) (z:Int):gx (List.replicate n z) i=z:=by simp [gx,h]
theorem aQw {n:Nat} {x:List Int} :x∈dX (List.replicate n 4)↔x.length=n∧ ∀ a∈x,0≤a∧a≤4:=by
 rw [aGx,List.length_replicate];constructor
 ·rintro ⟨h1,h2⟩;refine ⟨h1,λa ha=>?_⟩;obtain ⟨i,hi,rfl⟩:=List.mem_iff_getElem.1 ha;have:=h2 i (by omega);rw [aPo (by omega),uH x hi] at this;have h4:(4:Int).toNat=4:=rfl;omega
 ·rintro ⟨h1,h2⟩;refine ⟨h1,λi hi=>?_⟩;have:=h2 _ (rX (x:=x) (i:=i) (by omega));rw [aPo hi];have h4:(4:Int).toNat=4:=rfl;omega
theorem aEJ {q:Qv} {n:Nat} (H:Fin1 q n) (x:List Int):x∈aGD q n↔RtQ q n x:=by
 unfold aGD;rw [List.mem_filter,aQw,iD,aMd H.Q];constructor
 ·rintro ⟨⟨h1,h2⟩,h3⟩;exact ⟨h1,λa ha=>(h2 a ha).1,h3⟩
 ·rintro ⟨h1,h2,h3⟩;have hv:=H.vec ((aMd H.Q x).2 ⟨h1,h2,h3⟩);exact ⟨⟨h1,hv.1.2⟩,h3⟩
theorem aLQ {f:List Int→List (List Int)→Option (List (List Int) ⊕ Unit)} (p:List Int→Bool): ∀ (l acc:List (List Int)),(∀ x∈l,∀ acc:List (List Int),acc.length≤4000→f x acc=some (.inl (if p x=true then acc++[x] else acc)))→acc.length+l.length≤4000→Fl f l acc=some (.inl (acc++l.filter p))
 | [],acc,_,_=>by simp [Fl]
 |x::l,acc,h,hl=>by
  simp only [List.length_cons] at hl;simp only [Fl];rw [h x (by simp) acc (by omega)];simp only;rw [aLQ p l (if p x=true then acc++[x] else acc) (λy hy=>h y (by simp [hy])) (by split <;> (try simp) <;> omega)];by_cases c:p x=true
  ·simp [c]
  ·simp [c]
theorem aOO {q:Qv} {n:Nat} (H:Fin1 q n):aAo q=some (mV sK (aGD q n)):=by
 have Q:=H.Q;have n5:=Q.n5;have n1:=Q.n1;unfold aAo;have hn:=aSD n (by omega);rw [Q.n0,bG (by omega),bG (by omega),Bool.and_self,aM,dH,aWt n (by omega),aM];rw [aLQ (λx=>decide (eul q n x x=1)) (dX (List.replicate n 4)) [] (λx hx acc ha=>?_) (by simp;omega),aC]
 ·have hA: ∀ x∈aGD q n,Vec5 x:=λx hx=>(H.vec ((aEJ H x).1 hx)).1;have hnd:(aGD q n).Nodup:=(aHZ _).filter _;have hlen:=H.num hnd λx hx=>(aEJ H x).1 hx;show (Option.bind (fC (aGD q n)) λv9=>bif decide (v9.length=(aGD q n).length) then some v9 else none)=_;rw [aMc hA hlen,aC,bG (uG sK _).1,aM]
 ·obtain ⟨h1,h2⟩:=aQw.1 hx;have hv:Vec5 x:=⟨by omega,h2⟩;unfold aAS;rw [aLL Q h1 h1 hv.sm hv.sm,aC];by_cases c:eul q n x x=1
  ·rw [bG c,aM,aY rfl];unfold hO;rw [bG (by omega),aM,aC,bG (by omega),aM]
  ·rw [eB c,aX,aW (by simp)]
theorem aHA {q:Qv} {n:Nat} :(mV sK (aGD q n)).Pairwise aGB:=by
 refine aGC aDi ?_;refine (List.Pairwise.filter _ (aGy _)).imp λ{p x} h=>?_;rw [aCY,aCY];simp only [sK,iD,decide_eq_false_iff_not];refine ⟨λh1=> .inl h1,λh1=>?_⟩;by_cases e:p.sum=x.sum
 ·exact .inr ⟨e,h⟩
 ·exact .inl (by omega)
theorem aSG {q:Qv} {n:Nat} (Q:QOk q n) {x:List Int} (hx:Vec5 x) (hxn:x.length=n) {v:Nat} (hv:v<n):tM (tA q n) x (v:Int)=some (x.set v (gx x v+ -(mv n (kN (tA q n)) (gx x) v))):=by
 have n5:=Q.n5;have m6:=Q.m6
 have hbd: ∀ i, -48≤mtF q q.src.length v i*gx x i∧mtF q q.src.length v i*gx x i≤48:=by
  intro i;have h1:=aTm q m6 v i
  have h2:0≤gx x i∧gx x i≤4:=by
   rcases eD i x.length with h'|h'
   ·exact hx.2 _ (rX h')
   ·unfold gx;rw [gB h'];simp
  have h3:gx x i=0∨gx x i=1∨gx x i=2∨gx x i=3∨gx x i=4:=by omega
  rcases h3 with h3|h3|h3|h3|h3 <;> rw [h3] <;> omega
 have hmv:mv n (kN (tA q n)) (gx x) v=fB n λi=>mtF q q.src.length v i*gx x i:=eU λi hi=>by rw [show kN (tA q n) v i=mtF q q.src.length v i from lW hv hi]
 have hs:=aBg (n:=n) (f:=λi=>mtF q q.src.length v i*gx x i) (B:=48) λi _=>hbd i;unfold tM;rw [bG (by simp;omega),aM,dQ (s:=((0:Int),(0:Int))) (r:=fB n λi=>mtF q q.src.length v i*gx x i) (λk=>(fB k λi=>mtF q q.src.length v i*gx x i,(k:Int))) n rfl (λk hk=>?_) (λ_=>?_),aC]
 ·have hvl:v<x.length:=by omega
  rw [List.nil_append,xP hvl];simp only [aC];have h2:=hx.2 _ (rX hvl);rw [hmv,cY (by omega),dH];rfl
 ·unfold oU;simp only;have h2:=aBg (n:=k) (f:=λi=>mtF q q.src.length v i*gx x i) (B:=48) λi _=>hbd i;have h3:=hbd k;rw [hxn,iE hk,aM,show cO (tA q n) (v:Int)=some (qY n (mtF q q.src.length v)) from pZ hv,aC,pZ hk,aC,xP (by omega),aC,cY (x:=mtF q q.src.length v k*gx x k) (by omega),cY (by omega),bU hk (by omega)];rfl
 ·unfold oU;simp only;rw [hxn,iT (bO _),aX]
def aAX (q:Qv) (n:Nat) (x:List Int) (v:Nat):List Int:=x.set v (gx x v+ -(mv n (kN (tA q n)) (gx x) v))
theorem aLR {q:Qv} {n:Nat} (H:Fin1 q n) {x:List Int} (r:RtQ q n x) {v:Nat} (hv:v<n) (h:0≤gx x v+ -(mv n (kN (tA q n)) (gx x) v)):RtQ q n (aAX q n x v):=by
 have hvl:v<x.length:=by rw [r.len];exact hv
 refine ⟨by unfold aAX;rw [List.length_set];exact r.len,λa ha=>?_,?_⟩
 ·rcases aBu ha with rfl|ha
  ·exact h
  ·exact r.nn a ha
 ·unfold aAX;rw [aGr _ hvl,aPk _ _ _ hv H.F.sym,r.two,H.F.diag v hv];generalize mv n (kN (tA q n)) (gx x) v=s
  grind
def aTz (q:Qv) (n:Nat) (all:List (List Int)) (x:List Int) (v:Nat):Prop:=0≤gx x v+ -(mv n (kN (tA q n)) (gx x) v)→aAX q n x v∈all
def aJl (q:Qv) (n:Nat) (all:List (List Int)):Prop:=all.Nodup∧ ∀ x∈all,RtQ q n x
theorem aJm {l:List (List Int)} {x:List Int} (hl: ∀ r∈l,bI r) (hn:l.length≤1000):sX l x=some (decide (x∈l)):=by
 unfold sX;rw [aSn (λk=>decide (l[k]?.getD []=x)) true (n:=l.length) (by omega) (λk hk=>?_) (λ_=>?_),aC]
 ·have e:((List.range l.length).any λk=>decide (l[k]?.getD []=x))=decide (x∈l):=by
   rw [Bool.eq_iff_iff,List.any_eq_true,iD];constructor
   ·rintro ⟨k,hk,h⟩;have hk':=List.mem_range.1 hk;rw [iD,hJ hk',rD] at h;rw [←h];exact List.getElem_mem hk'
   ·intro h;obtain ⟨k,hk,rfl⟩:=List.mem_iff_getElem.1 h;exact ⟨k,List.mem_range.2 hk,by simp [hk]⟩
  rw [e];cases decide (x∈l) <;> rfl
 ·unfold uV;rw [iE hk,aM,vG [] hk,aC,aJD (hl _ (by rw [hJ hk];exact List.getElem_mem hk)),aC];cases decide (l[k]?.getD []=x) <;> rfl
 ·unfold uV;rw [iT (bO _),aX]
theorem aOP {q:Qv} {n:Nat} (H:Fin1 q n) {all0:List (List Int)} {i:Nat} {x:List Int} (hi:cO all0 (i:Int)=some x) (h0:aJl q n all0):
  ∃ r,Lp (gJ q (tA q n) (all0,(i:Int))) (all0,0)=some r∧(all0<+:r∧aJl q n r∧ ∀ u,u<n→aTz q n r x u):=by
 have Q:=H.Q;have n5:=Q.n5;have hxr:RtQ q n x:=h0.2 x (List.mem_of_getElem? (dB hi));have hxv:=H.vec hxr;refine aDt (λs=> ∃ w:Nat,s.2=(w:Int)∧w≤n∧all0<+:s.1∧aJl q n s.1∧ ∀ u,u<w→aTz q n s.1 x u) (λs=>n - s.2.toNat) _ ⟨0,rfl,Nat.zero_le _,List.prefix_refl _,h0,λu hu=>by omega⟩ ?_;rintro ⟨all,sv⟩ ⟨w,hw,hwn,hpre,hall,hcl⟩;simp only at hw hpre hall hcl;subst hw;have hlen:=H.num hall.1 hall.2;by_cases hlt:w<n
 ·left
  have hat:cO all (i:Int)=some x:=by
   have h1:=dB hi;obtain ⟨t,rfl⟩:=hpre;have h2:=iR hi;rw [dH] at h1 h2;simp only [cO];rw [bG (by omega),aM,dH,List.getElem?_append_left h2];exact h1
  have hrl:(aAX q n x w).length=n:=by unfold aAX;rw [List.length_set];exact hxv.2
  have hgy:gx (aAX q n x w) w=gx x w+ -(mv n (kN (tA q n)) (gx x) w):=by unfold aAX;rw [aDf _ (by omega),aY rfl]
  have hb:gJ q (tA q n) (all0,(i:Int)) (all,(w:Int))=some (.inl (if 0≤gx x w+ -(mv n (kN (tA q n)) (gx x) w)∧ ¬ aAX q n x w∈all then all++[aAX q n x w] else all,((w+1:Nat):Int))):=by
   unfold gJ;simp only;rw [Q.n0,iE hlt,aM,hat,aC,aSG Q hxv.1 hxv.2 hlt,aC];change (Option.bind (cO (aAX q n x w) (w:Int)) λv13=>_)=_;rw [xP (by omega),aC,hgy,bU hlt (by omega)];by_cases c:0≤gx x w+ -(mv n (kN (tA q n)) (gx x) w)
   ·have hy:=aLR H hxr hlt c;have hyv:=H.vec hy;rw [bG c,aM];change (Option.bind (sX all (aAX q n x w)) λv15=>_)=_;rw [aJm (λr hr=>by have:=(H.vec (hall.2 r hr)).1.1;unfold bI;omega) (by omega),aC];by_cases c2:aAX q n x w∈all
    ·rw [bG c2,gO,aX,aW (by simp [c2])]
    ·rw [eB c2,Bool.not_false,aM,aY ⟨c,c2⟩];unfold aAQ;change (Option.bind (Option.bind (mW q (aAX q n x w) (aAX q n x w)) λv1=>some v1) λv17=>_)=_;rw [aLM Q hrl hrl hyv.1.sm hyv.1.sm,aC,aC,((aMd Q _).1 hy).2.2,bG rfl,aM,bG (by omega),aM];rfl
   ·rw [eB c,aX,aW (by simp [c])]
  refine ⟨_,hb,⟨w+1,rfl,by omega,?_,?_,?_⟩,by show n - ((w+1:Nat):Int).toNat <n - (w:Int).toNat;omega⟩
  ·simp only;split
   ·exact hpre.trans (List.prefix_append _ _)
   ·exact hpre
  ·simp only;split
   ·rename_i c;refine ⟨?_,λy hy=>?_⟩
    ·rw [List.nodup_append];refine ⟨hall.1,by simp,λa ha b hb=>?_⟩;rw [List.mem_singleton] at hb;subst hb;rintro rfl;exact c.2 ha
    ·rcases eP.1 hy with hy|hy
     ·exact hall.2 y hy
     ·rw [List.mem_singleton] at hy;subst hy;exact aLR H hxr hlt c.1
   ·exact hall
  ·intro u hu h;simp only;by_cases e:u=w
   ·subst e;split
    ·simp
    ·rename_i c;exact Classical.byContradiction λh2=>c ⟨h,h2⟩
   ·have:=hcl u (by omega) h;split
    ·simp [this]
    ·exact this
 ·right;have:w=n:=by omega
  subst this;refine ⟨all,?_,hpre,hall,hcl⟩;unfold gJ;simp only;rw [Q.n0,iT (bO _),aX]
theorem aOQ {q:Qv} {n:Nat} (H:Fin1 q n) {all0:List (List Int)} (h0:aJl q n all0):
  ∃ r,Lp (gK q (tA q n)) (all0,0)=some r∧(all0<+:r∧aJl q n r∧ ∀ x∈r,∀ u,u<n→aTz q n r x u):=by
 refine aDt (λs=> ∃ k:Nat,s.2=(k:Int)∧k≤s.1.length∧all0<+:s.1∧aJl q n s.1∧ ∀ j (hj:j<s.1.length),j<k→ ∀ u,u<n→aTz q n s.1 s.1[j] u) (λs=>21 - s.2.toNat) _ ⟨0,rfl,Nat.zero_le _,List.prefix_refl _,h0,λj _ hj=>by omega⟩ ?_;rintro ⟨all,sv⟩ ⟨k,hk,hkl,hpre,hall,hcl⟩;simp only at hk hkl hpre hall hcl;subst hk;have hlen:=H.num hall.1 hall.2;by_cases hlt:k<all.length
 ·left;obtain ⟨r,g1,g2,g3,g4⟩:=aOP H (dJ hlt) hall;have hrl:=g2.length_le;refine ⟨(r,((k+1:Nat):Int)),?_,⟨k+1,rfl,by show k+1≤r.length;omega,hpre.trans g2,g3,?_⟩,by show 21 - ((k+1:Nat):Int).toNat <21 - (k:Int).toNat;omega⟩
  ·unfold gK;simp only;rw [iE hlt,aM,g1,aC,bU hlt (by omega)]
  ·intro j hj hjk u hu h;simp only at hj h ⊢;obtain ⟨t,rfl⟩:=g2;have hja:j<all.length:=by omega
   have e:(all++t)[j]=all[j]:=List.getElem_append_left hja;rw [e] at h ⊢;by_cases c:j=k
   ·subst c;exact g4 u hu h
   ·have:=hcl j hja (by omega) u hu h;simp [this]
 ·right;refine ⟨all,?_,hpre,hall,λx hx u hu=>?_⟩
  ·unfold gK;simp only;rw [iT (by omega),aX]
  ·obtain ⟨j,hj,rfl⟩:=List.mem_iff_getElem.1 hx;exact hcl j hj (by omega) u hu
theorem aOR {q:Qv} {n:Nat} (H:Fin1 q n) {C:List (List Int)} (hu: ∀ v,v<n→yI n v∈C) (hc: ∀ x∈C,∀ u,u<n→aTz q n C x u): ∀ (h:Nat) {x:List Int},RtQ q n x→x.sum=h+1→x∈C
 |0,x,r,hs=>by
  obtain ⟨v,hv,e⟩:=aJc r.nn (by omega);rw [r.len] at e hv;rw [e];exact hu v hv
 |h+1,x,r,hs=>by
  obtain ⟨v,hv,h1,h2⟩:=r.down H.F (by omega);have hvl:v<x.length:=by rw [r.len];exact hv
  have ih:=aOR H hu hc h h2 (by rw [aMX _ hvl];omega)
  have h3:mv n (kN (tA q n)) (gx (x.set v (gx x v+ -1))) v= -1:=by
   rw [aGr _ hvl,aPj _ _ _ _ hv,h1,H.F.diag v hv];rfl
  have h4:gx (x.set v (gx x v+ -1)) v=gx x v+ -1:=by rw [aDf _ hvl,aY rfl]
  have h5:=r.nn _ (rX hvl);have h6:=hc _ ih v hv (by rw [h3,h4];omega);unfold aAX at h6;rw [h3,h4,List.set_set] at h6
  have e:x.set v (gx x v+ -1+ - -1)=x:=by
   refine aTj (by simp) λi _=>?_;rw [aDf _ hvl];by_cases e:i=v
   ·subst e;rw [aY rfl];omega
   ·rw [aW e]
  rwa [e] at h6
theorem aHB {q:Qv} {n:Nat} (H:Fin1 q n) {v:Nat} (hv:v<n):RtQ q n (yI n v):=by
 have hz:gx (List.replicate n (0:Int))=λ_=>0:=by
  funext i;unfold gx;rw [List.getElem?_replicate];split <;> simp
 have hvl:v<(List.replicate n (0:Int)).length:=by simpa using hv
 have e:yI n v=(List.replicate n (0:Int)).set v (gx (List.replicate n (0:Int)) v+1):=by rw [hz];rfl
 refine ⟨by simp [yI],λa ha=>?_,?_⟩
 ·rcases aBu ha with rfl|ha
  ·omega
  ·rw [List.eq_of_mem_replicate ha];omega
 ·rw [e,aGr _ hvl,aPk _ _ _ hv H.F.sym,H.F.diag v hv,hz]
  have h1:mv n (kN (tA q n)) (λ_=>0) v=0:=by
   unfold mv;rw [eU (g:=λ_=>0) (λi _=>by rw [Int.mul_zero]),zL]
  have h2:qf n (kN (tA q n)) (λ_=>0)=0:=by
   rw [aOD,eU (g:=λ_=>0) (λi _=>by rw [Int.zero_mul]),zL]
  rw [h1,h2];rfl
theorem aOS (n:Nat):((List.range n).map (yI n)).Nodup:=by
 rw [List.nodup_iff_pairwise_ne,List.pairwise_map];refine List.Pairwise.imp_of_mem (λ{a b} ha hb h e=>?_) (List.nodup_iff_pairwise_ne.1 List.nodup_range);have h1:gx (yI n a) a=1:=by unfold yI;rw [aDf _ (by simpa using List.mem_range.1 ha),aY rfl]
 have h2:gx (yI n b) a=0:=by unfold yI;rw [aDf _ (by simpa using List.mem_range.1 hb),aW h,aPo (List.mem_range.1 ha)]
 rw [e,h2] at h1;cases h1
theorem aOT {q:Qv} {n:Nat} (Q:QOk q n):Lp (gI q) (([]:List (List Int)),0)=some ((List.range n).map (yI n)):=by
 have n5:=Q.n5;refine dQ (λk=>((List.range k).map (yI n),(k:Int))) n rfl (λk hk=>?_) (λ_=>?_)
 ·unfold gI;simp only;rw [Q.n0,iE hk,aM,bG (by omega),bG (by omega),Bool.and_self,aM,dH,vG 0 (by simpa using hk),aC,bG (by simp;omega),aM,bU hk (by omega),List.range_succ,List.map_append,dH];rfl
 ·unfold gI;simp only;rw [Q.n0,iT (bO _),aX]
def cJ (q:Qv) (n:Nat):List (List Int):=mV sK (aGD q n)
theorem lX {q:Qv} {n:Nat} (H:Fin1 q n) (x:List Int):x∈cJ q n↔RtQ q n x:=by unfold cJ;rw [(uG _ _).2,aEJ H]
theorem aBH {q:Qv} {n:Nat} (H:Fin1 q n):(cJ q n).length ≤20:=by
 unfold cJ;rw [(uG _ _).1];exact H.num ((aHZ _).filter _) λx hx=>(aEJ H x).1 hx
theorem aOU {q:Qv} {n:Nat} (H:Fin1 q n):(Option.bind (Lp (gI q) (([]:List (List Int)),0)) λy8=>Option.bind (Lp (gK q (tA q n)) (y8,0)) λy21=>Option.bind (Lp (gM y21) (([]:List (List Int)),0)) λy35=>some (y35,true))=some (cJ q n,true):=by
 have hU:aJl q n ((List.range n).map (yI n)):=⟨aOS n,λx hx=>by
  obtain ⟨v,hv,rfl⟩:=List.mem_map.1 hx
  exact aHB H (List.mem_range.1 hv)⟩
 obtain ⟨C,h1,h2,h3,h4⟩:=aOQ H hU;have hC: ∀ x∈C,Vec5 x∧x.length=n:=λx hx=>H.vec (h3.2 x hx);have hlen:=H.num h3.1 h3.2;rw [aOT H.Q,aC,h1,aC,aPn hC (by omega),aC];congr 2;refine aJh aSF aDi ?_ aHA λx=>?_
 ·refine aGC aDi ?_;refine List.Pairwise.imp_of_mem (λ{p x} hp hx h=>?_) (List.nodup_iff_pairwise_ne.1 h3.1);refine ⟨λh=>h,λh'=>?_⟩;have h5: ¬ aGB x p:=by unfold aGB;rw [h'];simp
  rw [aCY] at h5 ⊢;rcases aJk (x:=p) (y:=x) (by rw [(hC p hp).2,(hC x hx).2]) h with h6|h6
  ·by_cases e:p.sum=x.sum
   ·exact .inr ⟨e,h6⟩
   ·refine .inl ?_;have: ¬ x.sum<p.sum:=λh=>h5 (.inl h);omega
  ·refine .inl ?_;have h7: ¬ x.sum<p.sum:=λh=>h5 (.inl h);have h8: ¬ x.sum=p.sum:=λh=>h5 (.inr ⟨h,h6⟩);omega
 ·rw [(uG _ _).2,lX H];constructor
  ·exact h3.2 x
  ·intro r;have:=r.pos H.F
   exact aOR H (λv hv=>by
    obtain ⟨t,rfl⟩:=h2;simp only [eP]
    exact .inl (List.mem_map.2 ⟨v,List.mem_range.2 hv,rfl⟩)) h4 (x.sum - 1).toNat r (by omega)
end
noncomputable section
set_option maxRecDepth 10000
set_option maxHeartbeats 4000000
end
noncomputable section
theorem aLS {q:Qv} (hb:bQ q): ∃ L b,dP q=some (L,b)∧cU q=some (L,b)∧((b=false∧L=[])∨(b=true∧ ∃ n,Fin1 q n∧L=cJ q n)):=by
 by_cases hv:aBB q=true
 ·obtain ⟨n,Q⟩:=qok hb hv;by_cases hk:aDh n (tA q n) (2 ^ n - 1) 1 1=1
  ·obtain ⟨F,G⟩:=aTr Q λt h1 h2=>aLK hk t h1 (by omega);have H:Fin1 q n:=⟨Q,F,G⟩;refine ⟨cJ q n,true,?_,?_,.inr ⟨rfl,n,H,rfl⟩⟩
   ·unfold dP;rw [aJe Q,aC,hk,bG rfl,gO,aX,aOO H,aC];rfl
   ·unfold cU;rw [aJf Q,aC,hk,bG rfl,gO,aX,aLG Q,aC];exact aOU H
  ·refine ⟨[],false,?_,?_,.inl ⟨rfl,rfl⟩⟩
   ·unfold dP;rw [aJe Q,aC,eB hk,Bool.not_false,aM]
   ·unfold cU;rw [aJf Q,aC,eB hk,Bool.not_false,aM]
 ·have hv':aBB q=false:=by simpa using hv
  refine ⟨[],false,?_,?_,.inl ⟨rfl,rfl⟩⟩
  ·unfold dP mA;rw [aMB hb,hv',aC];rfl
  ·unfold cU lZ;rw [aFi hb,hv',aC];rfl
theorem aMe {v:List (List Int)} {f:List Int→Option Bool} (P:List Int→Bool) (hf: ∀ x∈v,f x=some (P x)) (h:v.length≤1048576): ∃ i:Int,iA v f=some i∧decide (0≤i)=v.any P:=by
 unfold iA;rw [aAq (s0:=0) (s:=0) (n:=v.length) (λk=>bif P (v[k]?.getD []) then some (k:Int) else none) rfl (by omega) (Nat.zero_le _) (λk _ hk=>?_) (λ_=>?_)]
 ·rw [aC];cases e:(List.range' 0 (v.length - 0)).findSome? (λk:Nat=>bif P (v[k]?.getD []) then some (k:Int) else none) with
  |none=>
   refine ⟨-1,rfl,?_⟩;rw [List.findSome?_eq_none_iff] at e
   have:v.any P=false:=by
    rw [List.any_eq_false];intro x hx;obtain ⟨k,hk,rfl⟩:=List.mem_iff_getElem.1 hx;have:=e k (by simp;omega);simp only [hJ hk,rD] at this;cases hp:P v[k] with
    |false=>simp
    |true=>rw [hp] at this;cases this
   rw [this];rfl
  |some i=>
   refine ⟨i,rfl,?_⟩;obtain ⟨k,hk,he⟩:=List.exists_of_findSome?_eq_some e;simp at hk;have hkl:k<v.length:=by omega
   rw [hJ hkl] at he;simp only [rD] at he;cases hp:P v[k] with
   |false=>rw [hp] at he;cases he
   |true=>
    rw [hp] at he;cases he;rw [bG (by omega),eq_comm,List.any_eq_true];exact ⟨_,List.getElem_mem hkl,hp⟩
 ·unfold gF;rw [iE hk,aM,vG [] hk,aC,hf _ (by rw [hJ hk];exact List.getElem_mem hk),aC];cases P _ <;> rfl
 ·unfold gF;rw [iT (bO _),aX]
theorem aUA {q:Qv} (hb:bQ q) (x:List Int): ∃ b,zU q x=some b∧mU q x=some b∧(b=true→ ∃ n,Fin1 q n∧RtQ q n x):=by
 obtain ⟨L,b,h1,h2,h3⟩:=aLS hb
 have hL:(∀ r∈L,bI r)∧L.length≤1000:=by
  rcases h3 with ⟨_,rfl⟩|⟨_,n,H,rfl⟩
  ·exact ⟨λr hr=>(by cases hr),by simp⟩
  ·refine ⟨λr hr=>?_,by have:=aBH H;omega⟩;have:=(H.vec ((lX H r).1 hr)).1.1;unfold bI;omega
 obtain ⟨i,g1,g2⟩:=aMe (f:=λb0=>nL b0 x) (λr=>decide (r=x)) (λr hr=>by simp only [nL];rw [aRa (hL.1 r hr),aC]) (by omega:L.length≤1048576)
 have hany:(L.any λr=>decide (r=x))=decide (x∈L):=by
  rw [Bool.eq_iff_iff,List.any_eq_true,iD];exact ⟨λ⟨r,hr,h⟩=>by rw [iD] at h;exact h▸hr,λh=>⟨x,h,by simp⟩⟩
 refine ⟨decide (x∈L),?_,?_,λh=>?_⟩
 ·unfold zU zK;rw [h1,aC];simp only;rw [g1,aC,aC,g2,hany]
 ·unfold mU;rw [h2,aC];simp only;rcases h3 with ⟨rfl,rfl⟩|⟨rfl,_⟩
  ·simp
  ·rw [aM,aJm hL.1 hL.2,aC]
 ·rw [iD] at h;rcases h3 with ⟨_,rfl⟩|⟨_,n,H,rfl⟩
  ·cases h
  ·exact ⟨n,H,(lX H x).1 h⟩
end
noncomputable section
theorem aVV {L:List Nat} (hL:L.length≤1048576) (k:Nat):aAf (sJ L) k=some (L.contains k):=by
 unfold aAf;rw [aSn (n:=L.length) (λi=>decide (L[i]?.getD 0=k)) true (by omega) (λi hi=>?_) (λ_=>?_),aC]
 ·have e:(List.range L.length).any (λi=>decide (L[i]?.getD 0=k))=L.contains k:=by
   rw [Bool.eq_iff_iff,List.any_eq_true,List.contains_iff_mem];constructor
   ·rintro ⟨i,hi,he⟩;have hi:=List.mem_range.1 hi;have he:=of_decide_eq_true he;rw [hJ hi,rD] at he;subst he;exact List.getElem_mem hi
   ·intro h;obtain ⟨i,hi,rfl⟩:=List.mem_iff_getElem.1 h;exact ⟨i,List.mem_range.2 hi,by simp [hi]⟩
  rw [e];cases L.contains k <;> rfl
 ·unfold wF;rw [lK,iE hi,aM,vG 0 (by rw [lK];exact hi),aC]
  have e:decide ((sJ L)[i]?.getD 0=(k:Int))=decide (L[i]?.getD 0=k):=by
   rw [Bool.eq_iff_iff,iD,iD];simp [sJ,hi];omega
  rw [e];cases decide (L[i]?.getD 0=k) <;> rfl
 ·unfold wF;rw [lK,iT (bO _),aX]
theorem aUB {L:List Nat} {i:Nat} (h:i<L.length):cO (sJ L) (i:Int)=some ((L[i]?.getD 0:Nat):Int):=by
 rw [dJ (by rw [lK];exact h)];simp [sJ,h]
theorem aSH {p:Int} {m:Nat} {F:Nat→Nat→Int} {t i:Nat} (h:i<(fU p m F t).2.length):(fU p m F t).2[i]?.getD 0<t:=aFX t _ (tG 0 h)
theorem aPp {p:Int} {m n:Nat} {F:Nat→Nat→Int} (T:Tb p m n F):wU p ⟨m,n,cK m n F⟩=some (aPD p n (fU p m F n).1 (fU p m F n).2):=by
 have hn:=T.hn;have hN:=T.hN;have hin:=aDO (by have:=mH T.hp;omega:0<p) T.hi n;have hlen:= @aDu p m F n;have hlen2:= @aEn p m F n;have hget:= @aSH p m F n;unfold wU;rw [aMF T,aC];generalize (fU p m F n).1=R at*;generalize (fU p m F n).2=L at*;rw [dQ (r:=aPD p n R L) (λk=>((k:Int),((List.range k).filter λk=> !L.contains k).map λk=>aNP p n R L k L.length)) n (by simp) (λk hk=>?_) (λ_=>?_),aC]
 ·unfold rT;simp only;have hfl:((List.range k).filter λk=> !L.contains k).length ≤k:=by have:=List.length_filter_le (λk=> !L.contains k) (List.range k);simpa using this
  rw [iE hk,aM,aVV (by omega),aC,List.range_succ,List.filter_append,List.map_append];cases hc:L.contains k with
  |true=>
   rw [aM,bU hk (by omega),show [k].filter (λk=> !L.contains k)=[] by simp only [List.filter_cons,List.filter_nil,hc,gO,fJ,if_false],List.map_nil,List.append_nil]
  |false=>
   rw [aX,bG (by omega),bG (by omega:(n:Int)≤1048576),Bool.and_self,aM,dH,dH,dJ (by simp;exact hk),aC];rw [dQ (r:=aNP p n R L k L.length) (λi=>(aNP p n R L k i,(i:Int))) L.length (by rfl) (λi hi=>?_) (λ_=>?_),aC]
   ·rw [bG (by simp only [fD];omega),aM,bU hk (by omega),show [k].filter (λk=> !L.contains k)=[k] by simp only [List.filter_cons,List.filter_nil,hc,Bool.not_false,if_true]];rfl
   ·unfold rS;simp only;have b1:=hin i k (by omega) hk;have hp:=mH T.hp;have hv:=hget hi;rw [lK,iE hi,aM,aUB hi,aC,atT hN (by omega) hk,aC,cY (by omega),aCp T.hp (by omega),aC,dJ (by rw [aIr];exact hv),aC,dH,bU hi (by omega)];rfl
   ·unfold rS;simp only;rw [lK,iT (bO _),aX]
 ·unfold rT;simp only;rw [iT (bO _),aX];rfl
theorem aUC {p:Int} (hp:isF p=true) {m n:Nat} {F:Nat→Nat→Int} (hi:InP p m n F):(aPD p n (fU p m F n).1 (fU p m F n).2).length=n - rkF p m n F:=by
 have h:=aSp hp hi n (bO _);have:=aTQ h.inc (aFX n);unfold aPD rkF;rw [fD];omega
theorem Fit.lA {a b:Rp} (h:Fit a b) {v:Nat} (hv:v<a.dims.length):wr ((dN a v:Int)*(dN b v:Int))=((Proofs.YtilpfdokmlanjaaGreat.lV a b v:Nat):Int):=by
 have:=h.lV hv;unfold Proofs.YtilpfdokmlanjaaGreat.lV at*;rw [Nat.mul_comm] at this ⊢;exact aIq (by omega)
theorem aQx {a b:Rp} (h:Fit a b) {v:Nat} (hv:v≤a.dims.length):xY a b v=some ((off (lV a b) v:Nat):Int):=by
 have n5:=h.ra.n5;unfold xY;rw [dQ (r:=((off (lV a b) v:Nat):Int)) (λk=>(((off (lV a b) k:Nat):Int),(k:Int))) v (by rfl) (λk hk=>?_) (λ_=>?_),aC]
 ·have hka:k<a.dims.length:=by omega
  have hkb:k<b.dims.length:=by rw [h.ne];exact hka
  have ho:=h.offV (v:=k+1) (by omega);have e:off (lV a b) (k+1)=off (lV a b) k+lV a b k:=rfl;unfold wV;simp only;rw [iE hk,aM,vG 0 hka,aC,vG 0 hkb,aC,(h.ra.d k hka).1,(h.rb.d k hkb).1,h.lA hka,bU hk (by omega),cY (by omega),e];simp
 ·unfold wV;simp only;rw [iT (bO _),aX]
theorem aSI {a b:Rp} (h:Fit a b):xZ a b=some (nV a b:Int):=by
 have n5:=h.ra.n5;unfold xZ;rw [dQ (r:=(nV a b:Int)) (λk=>(((off (lV a b) k:Nat):Int),(k:Int))) a.dims.length (by rfl) (λk hk=>?_) (λ_=>?_),aC]
 ·have hkb:k<b.dims.length:=by rw [h.ne];exact hk
  have ho:=h.offV (v:=k+1) (by omega);have e:off (lV a b) (k+1)=off (lV a b) k+lV a b k:=rfl;unfold tJ;simp only;rw [iE hk,aM,vG 0 hk,aC,vG 0 hkb,aC,(h.ra.d k hk).1,(h.rb.d k hkb).1,h.lA hk,bU hk (by omega),cY (by omega),e];simp
 ·unfold tJ;simp only;rw [iT (bO _),aX];rfl
def aDj (a b:Rp) (i r k j:Nat):Nat→Nat→Int:=λv z=>if v=sV a i∧z % dN a v=k∧z / dN a v<j then aF b i r (z / dN a v) else 0
def aOV (a b:Rp) (i r k j:Nat):Nat→Nat→Int:=λv z=>if v=tV a i∧z / dN a v=r∧z % dN a v<j then (aDj a b i r k (dN b (sV a i)) v z - aF a i (z % dN a v) k) % a.p else aDj a b i r k (dN b (sV a i)) v z
theorem aSJ (r c:Nat) (F:Nat→Nat→Int):cK r c F++tX c (F r)=cK (r+1) c F:=by
 rw [←aFm c F r,←aFm c F (r+1),List.range_succ,List.map_append,List.flatten_append];simp
theorem aVW {a b:Rp} (h:Fit a b) {i r k:Nat} (hi:i<a.q.src.length) (hr:r<dN b (tV a i)) (hk:k<dN a (sV a i)) (x1 x2 x3:Int×List Int×Int) (e1:x1.2.2=i) (e2':x2.2.2=r) (e3:x3.2.2=k):
  ∃ y,Lp (iY a b (sV a i) x1 x2 x3) (List.replicate (nV a b) 0,0)=some y∧Lp (iZ a b (sV a i) (tV a i) x1 x2 x3) (y,0)=some (cat (lV a b) (e2 a b i (r*dN a (sV a i)+k)) a.dims.length):=by
 have hb:=mH h.ra.hp;have n5:=h.ra.n5;obtain ⟨s1,s2⟩:=h.ra.s i hi;obtain ⟨t1,t2⟩:=h.ra.t i hi;have s3:sV a i<b.dims.length:=by rw [h.ne];exact s2
 have t3:tV a i<b.dims.length:=by rw [h.ne];exact t2
 have hib:i<b.q.src.length:=by rw [h.qe];exact hi
 obtain ⟨m1,m2⟩:=h.ra.m i hi;obtain ⟨g1,g2⟩:=h.rb.m i hib;rw [h.sV,h.tV] at g1 g2;rw [h.pe] at g2;have da:=h.ra.d _ s2;have da2:=h.ra.d _ t2;have db:=h.rb.d _ s3;have db2:=h.rb.d _ t3;have oS:=h.offV (v:=sV a i+1) s2;have oT:=h.offV (v:=tV a i+1) t2;have eS:off (lV a b) (sV a i+1)=off (lV a b) (sV a i)+lV a b (sV a i):=rfl;have eT:off (lV a b) (tV a i+1)=off (lV a b) (tV a i)+lV a b (tV a i):=rfl;refine ⟨cat (lV a b) (aDj a b i r k (dN b (sV a i))) a.dims.length,?_,?_⟩
 ·refine dQ (λj=>(cat (lV a b) (aDj a b i r k j) a.dims.length,(j:Int))) (dN b (sV a i)) ?_ (λj hj=>?_) (λ_=>?_)
  ·unfold nV;rw [aNk];congr 1;exact aCQ λv z _ _=>by unfold aDj;rw [aW λq=>absurd q.2.2 (Nat.not_lt_zero _)]
  ·have hz:j*dN a (sV a i)+k<lV a b (sV a i):=aIp hj hk
   have hpos:wr (wr (((off (lV a b) (sV a i):Nat):Int)+wr ((j:Int)*(dN a (sV a i):Int)))+(k:Int))=((off (lV a b) (sV a i)+(j*dN a (sV a i)+k):Nat):Int):=by
    rw [aIq (by omega),cY (x:=((off (lV a b) (sV a i):Nat):Int)+((j*dN a (sV a i):Nat):Int)) (by omega),cY (by omega)];omega
   have hw:=g2 r j hr hj;unfold iY;simp only [e1,e2',e3];rw [vG 0 s3,aC,db.1,iE hj,aM,aQx h (by omega),aC,vG 0 s2,aC,da.1,hpos,dJ (by rw [jA];exact yA s2 hz)];rw [aC,vG ⟨0,0,[]⟩ (by rw [h.rb.ml];exact hib),aC,aC,g1];simp only;rw [atT (sq db2.2 db.2) hr hj,aC]
   have hv0:(cat (lV a b) (aDj a b i r k j) a.dims.length)[off (lV a b) (sV a i)+(j*dN a (sV a i)+k)]'(by rw [jA];exact yA s2 hz)=0:=by
    have:=uU (aDj a b i r k j) s2 hz;rw [hJ (by rw [jA];exact yA s2 hz)] at this;rw [Option.some.inj this];unfold aDj;rw [aW];rw [aCj hk];omega
   rw [hv0,Int.zero_add,cY (by omega),aCp h.ra.hp (by omega),aC,aC,dH,aMH s2 hz,bU hj (by omega),Int.emod_eq_of_lt hw.1 hw.2];congr 3;refine aCQ λv z hv hz2=>?_;by_cases e:v=sV a i∧z=j*dN a (sV a i)+k
   ·obtain ⟨rfl,rfl⟩:=e;rw [aY ⟨rfl,rfl⟩];unfold aDj;rw [aCj hk,aCk hk,aY ⟨rfl,rfl,Nat.lt_succ_self _⟩]
   ·rw [aW e];unfold aDj;by_cases e4:v=sV a i∧z % dN a v=k∧z / dN a v<j
    ·rw [aY e4,aY ⟨e4.1,e4.2.1,by omega⟩]
    ·rw [aW e4,aW];rintro ⟨q1,q2,q3⟩
     have q4:z / dN a v=j:=by
      rcases eD (z / dN a v) j with h'|h'
      ·exact absurd ⟨q1,q2,h'⟩ e4
      ·omega
     refine e ⟨q1,?_⟩;rw [←@aBc (dN a v) z,q4,q2,q1]
  ·unfold iY;simp only [e1,e2',e3];rw [vG 0 s3,aC,db.1,iT (bO _),aX]
 ·refine dQ (λj=>(cat (lV a b) (aOV a b i r k j) a.dims.length,(j:Int))) (dN a (tV a i)) ?_ (λj hj=>?_) (λ_=>?_)
  ·congr 1;exact aCQ λv z _ _=>by unfold aOV;rw [aW λq=>absurd q.2.2 (Nat.not_lt_zero _)]
  ·have hz:r*dN a (tV a i)+j<lV a b (tV a i):=aIp hr hj
   have hpos:wr (wr (((off (lV a b) (tV a i):Nat):Int)+wr ((r:Int)*(dN a (tV a i):Int)))+(j:Int))=((off (lV a b) (tV a i)+(r*dN a (tV a i)+j):Nat):Int):=by
    rw [aIq (by omega),cY (x:=((off (lV a b) (tV a i):Nat):Int)+((r*dN a (tV a i):Nat):Int)) (by omega),cY (by omega)];omega
   have hw:=m2 j k hj hk;unfold iZ;simp only [e1,e2',e3];rw [vG 0 t2,aC,da2.1,iE hj,aM,aQx h (by omega),aC,aC,hpos,dJ (by rw [jA];exact yA t2 hz)];rw [aC,vG ⟨0,0,[]⟩ (by rw [h.ra.ml];exact hi),aC,vG 0 s2,aC,m1,da.1];simp only;rw [atT (sq da2.2 da.2) hj hk,aC]
   have hv0:(cat (lV a b) (aOV a b i r k j) a.dims.length)[off (lV a b) (tV a i)+(r*dN a (tV a i)+j)]'(by rw [jA];exact yA t2 hz)=aDj a b i r k (dN b (sV a i)) (tV a i) (r*dN a (tV a i)+j):=by
    have:=uU (aOV a b i r k j) t2 hz;rw [hJ (by rw [jA];exact yA t2 hz)] at this;rw [Option.some.inj this];unfold aOV;rw [aW];rw [aCk hj];omega
   have hbA:0≤aDj a b i r k (dN b (sV a i)) (tV a i) (r*dN a (tV a i)+j)∧aDj a b i r k (dN b (sV a i)) (tV a i) (r*dN a (tV a i)+j)≤5:=by
    unfold aDj;split
    ·rename_i q;have:=g2 r ((r*dN a (tV a i)+j) / dN a (tV a i)) hr q.2.2;omega
    ·omega
   rw [hv0];generalize hA:aDj a b i r k (dN b (sV a i)) (tV a i) (r*dN a (tV a i)+j)=A at*;rw [cY (x:=A - aF a i j k) (by omega),aCp h.ra.hp (by omega),aC,aC,dH,aMH t2 hz,bU hj (by omega)];congr 3;refine aCQ λv z hv hz2=>?_;by_cases e:v=tV a i∧z=r*dN a (tV a i)+j
   ·obtain ⟨rfl,rfl⟩:=e;rw [aY ⟨rfl,rfl⟩];unfold aOV;rw [aCj hj,aCk hj,aY ⟨rfl,rfl,Nat.lt_succ_self _⟩,hA]
   ·rw [aW e];unfold aOV;by_cases e4:v=tV a i∧z / dN a v=r∧z % dN a v<j
    ·rw [aY e4,aY ⟨e4.1,e4.2.1,by omega⟩]
    ·rw [aW e4,aW];rintro ⟨q1,q2,q3⟩
     have q4:z % dN a v=j:=by
      rcases eD (z % dN a v) j with h'|h'
      ·exact absurd ⟨q1,q2,h'⟩ e4
      ·omega
     refine e ⟨q1,?_⟩;rw [←@aBc (dN a v) z,q4,q2,q1]
  ·unfold iZ;simp only [e1,e2',e3];rw [vG 0 t2,aC,da2.1,iT (bO _),aX];congr 2;refine aCQ λv z hv hz2=>?_;have hzb:z<dN b v*dN a v:=hz2;obtain ⟨q1,q2⟩:=aEx hzb
   have eA:aDj a b i r k (dN b (sV a i)) v z=if sV a i=v∧k=z % dN a v then aF b i r (z / dN a v) else 0:=by
    unfold aDj;by_cases e:sV a i=v∧k=z % dN a v
    ·rw [aY e,aY ⟨e.1.symm,e.2.symm,by rw [e.1];exact q1⟩]
    ·rw [aW e,aW λq=>e ⟨q.1.symm,q.2.1.symm⟩]
   unfold aOV e2 eF;rw [eA,aCj hk,aCk hk];by_cases e:tV a i=v∧r=z / dN a v
   ·rw [aY ⟨e.1.symm,e.2.symm,by rw [e.1];exact q2⟩,aY e]
   ·rw [aW λq=>e ⟨q.1.symm,q.2.1.symm⟩,aW e,Int.sub_zero];split
    ·rename_i q;have hw:=g2 r (z / dN a v) hr (by rw [q.1];exact q1);exact (Int.emod_eq_of_lt hw.1 hw.2).symm
    ·simp
theorem aWv {a b:Rp} {i y:Nat} (hi:i<a.q.src.length) (hy:y<lE a b i):cat (lV a b) (e2 a b i y) a.dims.length=tX (nV a b) (mE a b (off (lE a b) i+y)):=by
 symm;refine aFp (by rw [oN];rfl) λv z hv hz=>?_;have hk:off (lV a b) v+z<nV a b:=yA hv hz;unfold tX;rw [List.getElem?_map,List.getElem?_range hk,Option.map_some];congr 1;unfold mE;rw [uU _ hi hy,rD,uU _ hv hz,rD]
theorem aJn {a b:Rp} (h:Fit a b):pT a b=some ⟨nE a b,nV a b,cK (nE a b) (nV a b) (mE a b)⟩:=by
 have n5:=h.ra.n5;have e6:=h.ra.e6;have bV:=h.offV (bO _);have bE:=h.offE (bO _);have tl:=h.ra.tl;have ml:=h.ra.ml;have hV:nV a b≤80:=bV;unfold pT;rw [aSI h,aC];rw [dQ (r:=((nE a b:Int),cK (nE a b) (nV a b) (mE a b))) (λi=>(((off (lE a b) i:Nat):Int),cK (off (lE a b) i) (nV a b) (mE a b),(i:Int))) a.q.src.length (by simp [off,cK]) (λi hi=>?_) (λ_=>?_),aC]
 ·obtain ⟨s1,s2⟩:=h.ra.s i hi;obtain ⟨t1,t2⟩:=h.ra.t i hi;have t3:tV a i<b.dims.length:=by rw [h.ne];exact t2
  have da:=h.ra.d _ s2;have db2:=h.rb.d _ t3;have oE:=h.offE (i:=i+1) hi;have eE:off (lE a b) (i+1)=off (lE a b) i+dN b (tV a i)*dN a (sV a i):=rfl;unfold mO;simp only;rw [ml,iE hi,aM,vG 0 hi,aC,s1,vG 0 (by omega),aC,t1];rw [dQ (r:=(((off (lE a b) (i+1):Nat):Int),cK (off (lE a b) (i+1)) (nV a b) (mE a b))) (λr=>(((off (lE a b) i+r*dN a (sV a i):Nat):Int),cK (off (lE a b) i+r*dN a (sV a i)) (nV a b) (mE a b),(r:Int))) (dN b (tV a i)) (by simp) (λr hr=>?_) (λ_=>?_),aC,bU hi (by omega)]
  ·unfold mM;simp only;rw [vG 0 t3,aC,db2.1,iE hr,aM];rw [dQ (r:=(((off (lE a b) i+(r+1)*dN a (sV a i):Nat):Int),cK (off (lE a b) i+(r+1)*dN a (sV a i)) (nV a b) (mE a b))) (λk=>(((off (lE a b) i+r*dN a (sV a i)+k:Nat):Int),cK (off (lE a b) i+r*dN a (sV a i)+k) (nV a b) (mE a b),(k:Int))) (dN a (sV a i)) (by simp) (λk hk=>?_) (λ_=>?_),aC,bU hr (by omega)]
   ·unfold mK;simp only;have hy:r*dN a (sV a i)+k<lE a b i:=aIp hr hk;have hx:off (lE a b) i+(r*dN a (sV a i)+k)<nE a b:=yA hi hy;have hx2:nE a b≤96:=bE;have hsz:(off (lE a b) i+r*dN a (sV a i)+k)*nV a b≤96*80:=Nat.mul_le_mul (by omega) hV;rw [vG 0 s2,aC,da.1,iE hk,aM,bG (by omega),bG (by omega:(nV a b:Int)≤1048576),Bool.and_self,aM,dH];obtain ⟨y,y1,y2⟩:=aVW h hi hr hk (((off (lE a b) i:Nat):Int),cK (off (lE a b) i) (nV a b) (mE a b),(i:Int)) (((off (lE a b) i+r*dN a (sV a i):Nat):Int),cK (off (lE a b) i+r*dN a (sV a i)) (nV a b) (mE a b),(r:Int)) (((off (lE a b) i+r*dN a (sV a i)+k:Nat):Int),cK (off (lE a b) i+r*dN a (sV a i)+k) (nV a b) (mE a b),(k:Int)) rfl rfl rfl;rw [y1,aC,y2,aC,aWv hi hy,jT,oN,bG (by omega),aM,bU hk (by omega),cY (by omega),←Nat.add_assoc,aSJ];congr 2
   ·unfold mK;simp only;rw [vG 0 s2,aC,da.1,iT (bO _),aX,Nat.succ_mul,Nat.add_assoc]
  ·unfold mM;simp only;rw [vG 0 t3,aC,db2.1,iT (bO _),aX,eE]
 ·unfold mO;simp only;rw [ml,iT (bO _),aX];rfl
theorem aPq {a b:Rp} (h:Fit a b) {x:List Int} (hx:x.length=nV a b): ∃ r,wW a b x=some r:=by
 have n5:=h.ra.n5;have bV:=h.offV (bO _);have hV:nV a b≤80:=bV;refine ⟨(List.range a.dims.length).map λv=>(⟨dN b v,dN a v,(x.drop (off (lV a b) v)).take (lV a b v)⟩:Mt),?_⟩;unfold wW;rw [dQ (r:=(List.range a.dims.length).map λv=>(⟨dN b v,dN a v,(x.drop (off (lV a b) v)).take (lV a b v)⟩:Mt)) (λk=>((List.range k).map (λv=>(⟨dN b v,dN a v,(x.drop (off (lV a b) v)).take (lV a b v)⟩:Mt)),((off (lV a b) k:Nat):Int),(k:Int))) a.dims.length (by simp [off]) (λk hk=>?_) (λ_=>?_),aC]
 ·have hkb:k<b.dims.length:=by rw [h.ne];exact hk
  have ho:= @aBq (lV a b) (k+1) a.dims.length hk;have e:off (lV a b) (k+1)=off (lV a b) k+lV a b k:=rfl;unfold rU;simp only
  rw [iE hk,aM,vG 0 hk,aC,vG 0 hkb,aC,aC,aC,(h.ra.d k hk).1,(h.rb.d k hkb).1,h.lA hk,cY (x:=((off (lV a b) k:Nat):Int)+((lV a b k:Nat):Int)) (by omega),hx,
   bG (by omega),bG (by omega:((off (lV a b) k:Nat):Int)≤((off (lV a b) k:Nat):Int)+((lV a b k:Nat):Int)),bG (by unfold nV;omega:((off (lV a b) k:Nat):Int)+((lV a b k:Nat):Int)≤((nV a b:Nat):Int)),Bool.and_self,Bool.and_self,aM,
   show (((off (lV a b) k:Nat):Int)+((lV a b k:Nat):Int)).toNat - ((off (lV a b) k:Nat):Int).toNat=lV a b k by omega,dH]
  have q2:decide (((List.range k).map λv=>(⟨dN b v,dN a v,(x.drop (off (lV a b) v)).take (lV a b v)⟩:Mt)).length +1≤4294967296)=true:=bG (by simp only [fD,List.length_range];omega);have q1:decide (([]:List Int).length +((x.drop (off (lV a b) k)).take (lV a b k)).length ≤4294967296)=true:=bG (by simp only [List.length_nil,List.length_take,List.length_drop];omega);rw [q1,aM,q2,aM,List.nil_append,bU hk (by omega),yB (f:=λv=>(⟨dN b v,dN a v,(x.drop (off (lV a b) v)).take (lV a b v)⟩:Mt)),e];simp
 ·unfold rU;simp only;rw [iT (bO _),aX]
end
noncomputable section
def aJo (a b:Rp):Bool:=sI a&&(sI b&&(decide (a.p=b.p)&&decide (a.q=b.q)))
theorem aUD {a b:Rp} (h:aJo a b=true):Fit a b:=by
 unfold aJo at h;simp only [dF,iD] at h;exact aPW h.1 h.2.1 h.2.2.1 h.2.2.2
theorem aUE {a:Rp} (h:sI a=true):Fit a a:=aPW h h rfl rfl
def hdI (a b:Rp):Int:=if aJo a b=true then (aTS a b:Int) else -1
theorem aPr {a b:Rp} (ha:bR a) (hb:bR b): ∃ l,wX a b=some (l,aJo a b)∧(aJo a b=true→l.length=aTS a b):=by
 unfold wX;rw [aQZ ha hb,aC];cases hf:sI a&&(sI b&&(decide (a.p=b.p)&&decide (a.q=b.q))) with
 |false=>
  refine ⟨[],?_,λh=>by unfold aJo at h;rw [hf] at h;cases h⟩;unfold aJo;rw [hf];rfl
 |true=>
  have h:=aUD hf;have bV:=h.offV (bO _);have hV:nV a b≤80:=bV;have hl:=aUC h.ra.hp (aVq h)
  have hkl: ∀ v∈aPD a.p (nV a b) (fU a.p (nE a b) (mE a b) (nV a b)).1 (fU a.p (nE a b) (mE a b) (nV a b)).2,v.length=nV a b:=by
   intro v hv;unfold aPD at hv;obtain ⟨k,_,rfl⟩:=List.mem_map.1 hv;exact aIr _ _ _ _ _ _
  rw [gO,aX,aJn h,aC,aPp (aVr h),aC];generalize aPD a.p (nV a b) (fU a.p (nE a b) (mE a b) (nV a b)).1 (fU a.p (nE a b) (mE a b) (nV a b)).2=K at*;have key:=aDt (body:=rV a b K) (s:=(([]:List (List Mt)),0)) (λs=>s.2=(s.1.length:Int)∧s.1.length≤K.length) (λs=>K.length - s.1.length) (λr=>r.length=K.length) ⟨rfl,Nat.zero_le _⟩ (λs ⟨h1,h2⟩=>?_)
  ·obtain ⟨r,h1,h2⟩:=key;rw [h1,aC];exact ⟨r,by unfold aJo;rw [hf],λ_=>by rw [h2,hl];rfl⟩
  ·obtain ⟨l,j⟩:=s;simp only at h1 h2;subst h1;unfold rV;simp only;rcases eD l.length K.length with hlt|hge
   ·obtain ⟨r,hr⟩:=aPq h (hkl _ (List.getElem_mem hlt));rw [iE hlt,aM,dJ hlt,aC,hr,aC,bG (by omega),aM,bU hlt (by omega)];exact .inl ⟨_,rfl,⟨by simp,by simp;omega⟩,by simp;omega⟩
   ·rw [iT hge,aX];exact .inr ⟨_,rfl,by omega⟩
theorem aSK {a b:Rp} (ha:bR a) (hb:bR b):vW a b=some (hdI a b):=by
 obtain ⟨l,h1,h2⟩:=aPr ha hb;unfold vW hdI;rw [h1,aC];cases hf:aJo a b with
 |false=>rfl
 |true=>rw [aY rfl,←h2 hf];rfl
end
noncomputable section
def fXd (x:List Int) (v:Nat):Nat:=(x[v]?.getD 0).toNat
def sXq (q:Qv) (i:Nat):Nat:=(q.src[i]?.getD 0).toNat
def tXq (q:Qv) (i:Nat):Nat:=(q.tgt[i]?.getD 0).toNat
def rXq (q:Qv) (x:List Int) (i:Nat):Int:=(fXd x (tXq q i):Int)
def cXq (q:Qv) (x:List Int) (i:Nat):Int:=(fXd x (sXq q i):Int)
def lXq (q:Qv) (x:List Int) (i:Nat):Nat:=fXd x (tXq q i)*fXd x (sXq q i)
def yO (p:Int) (q:Qv) (x:List Int) (F:Nat→Nat→Int):Rp:=⟨p,q,x,mkM q.src.length (rXq q x) (cXq q x) (lXq q x) F⟩
structure RX (q:Qv) (x:List Int):Prop where
 n5:x.length≤5
 eq:q.tgt.length=q.src.length
 m6:q.src.length≤6
 d: ∀ v,v<x.length→x[v]?.getD 0=(fXd x v:Int)
 d4: ∀ v,fXd x v≤4
 s: ∀ i,i<q.src.length→q.src[i]?.getD 0=(sXq q i:Int)∧sXq q i<x.length
 t: ∀ i,i<q.src.length→q.tgt[i]?.getD 0=(tXq q i:Int)∧tXq q i<x.length
theorem aUH {q:Qv} {x:List Int} (h:aBC q x=true):RX q x:=by
 obtain ⟨hQ,hd1,hd2,_⟩:=uC h;obtain ⟨n,hn,hn1,hn5,hq1,hq2,hq3,hq4⟩:=xO hQ;refine ⟨by omega,by omega,hq2,λv hv=>?_,λv=>?_,λi hi=>?_,λi hi=>?_⟩
 ·have:=hd2 _ (tG 0 hv);unfold fXd;omega
 ·unfold fXd;by_cases hv:v<x.length
  ·have:=hd2 _ (tG 0 hv);omega
  ·rw [gB (by omega)];exact Nat.zero_le _
 ·have:=hq3 _ (tG 0 hi);unfold sXq;omega
 ·have:=hq4 _ (tG 0 (show i<q.tgt.length by omega));unfold tXq;omega
theorem RX.l16 {q:Qv} {x:List Int} (X:RX q x) (i:Nat):lXq q x i≤16:=Nat.mul_le_mul (X.d4 _) (X.d4 _)
theorem RX.off {q:Qv} {x:List Int} (X:RX q x): ∀ k,off (lXq q x) k≤16*k
 |0=>bO _
 |k+1=>by
  have h1:=X.off k;have h2:=X.l16 k;have e:Proofs.YtilpfdokmlanjaaGreat.off (lXq q x) (k+1)=Proofs.YtilpfdokmlanjaaGreat.off (lXq q x) k+lXq q x k:=rfl;omega
theorem aOW {p:Int} {q:Qv} {x:List Int} (hp:isF p=true) (hD:aBC q x=true) {F:Nat→Nat→Int} (hF: ∀ v y,0≤F v y∧F v y≤1):sI (yO p q x F)=true:=by
 have X:=aUH hD;unfold sI;simp only [dF,iD,yV];refine ⟨hp,hD,by simp [yO,mkM],λi hi=>?_⟩;have hi':i<q.src.length:=by simpa [yO,mkM] using hi
 have e:(yO p q x F).maps[i]?.getD ⟨0,0,[]⟩=⟨rXq q x i,cXq q x i,(List.range (lXq q x i)).map (F i)⟩:=by
  unfold yO mkM;simp [hi']
 have h1:=X.d4 (tXq q i);have h2:=X.d4 (sXq q i);have hl:=X.l16 i;rw [e];refine ⟨?_,?_,?_⟩
 ·unfold aGh;simp only [dF,iD,List.all_eq_true];have hb:=mH hp;refine ⟨aIm (by unfold rXq;omega) (by unfold rXq;omega),aIm (by unfold cXq;omega) (by unfold cXq;omega),?_,⟨hp,by simp;omega⟩,λz hz=>?_⟩
  ·show (((List.range (lXq q x i)).map (F i)).length:Int)=wr ((fXd x (tXq q i):Int)*(fXd x (sXq q i):Int));unfold lXq at hl;rw [aIq (by omega),fD,List.length_range];rfl
  ·obtain ⟨y,_,rfl⟩:=List.mem_map.1 hz;have:=hF i y;refine aIm this.1 ?_;show F i y≤wr (p - 1);rw [cY (by omega)];omega
 ·exact (X.d _ (X.s i hi').2).symm
 ·exact (X.d _ (X.t i hi').2).symm
theorem aMf {p:Int} {q:Qv} {x:List Int} (hb:bQ q) (X:RX q x) {F:Nat→Nat→Int} :bR (yO p q x F):=by
 refine ⟨hb,?_,⟨?_,λm hm=>?_⟩,trivial⟩
 ·show x.length≤1048576;have:=X.n5;omega
 ·show (mkM q.src.length (rXq q x) (cXq q x) (lXq q x) F).length ≤1048576;rw [aEH];have:=X.m6;omega
 ·obtain ⟨v,_,rfl⟩:=List.mem_map.1 hm;refine ⟨?_,trivial⟩;show ((List.range (lXq q x v)).map (F v)).length ≤1048576;have:=X.l16 v;rw [fD,List.length_range];omega
theorem aVy {α:Type} (k:Nat) (f:Nat→α):(List.range k).map f++[f k]=(List.range (k+1)).map f:=by rw [List.range_succ,List.map_append];rfl
theorem aQy (p:Int) {q:Qv} {x:List Int} (hb:bQ q) (X:RX q x):uE p q x=some (yO p q x λ_ _=>0):=by
 have h1:q.src.length≤1048576:=hb.1;have h2:q.tgt.length≤1048576:=hb.2.1;have h5:=X.n5;have h6:=X.m6;have hc: ∀ {l:List Int},l.length≤1048576→hO l=some l:=λh=>by unfold hO;rw [bG h,aM]
 unfold uE mB;simp only [hc h1,hc h2,hc (show x.length≤1048576 by omega),aC];rw [dQ (r:=mkM q.src.length (rXq q x) (cXq q x) (lXq q x) λ_ _=>0) (λk=>(mkM k (rXq q x) (cXq q x) (lXq q x) λ_ _=>0,(k:Int))) q.src.length (by rfl) (λi hi=>?_) (λ_=>?_),aC]
 ·rfl
 ·have s1:=X.s i hi;have t1:=X.t i hi;have hl:=X.l16 i;unfold lXq at hl;unfold tN;simp only;rw [iE hi,aM,vG 0 hi,aC,vG 0 (by rw [X.eq];exact hi),aC,t1.1,vG 0 t1.2,aC,s1.1,vG 0 s1.2,aC,X.d _ s1.2,X.d _ t1.2,aEw (by omega),aC,aEH,bG (by omega),aM,bU hi (by omega)];unfold mkM;rw [←aVy];rfl
 ·unfold tN;simp only;rw [iT (bO _),aX]
theorem aLT (p:Int) {q:Qv} {x:List Int} (hb:bQ q) (X:RX q x):vX p q x=some (yO p q x λ_ _=>0):=by
 have h1:q.src.length≤1048576:=hb.1;have h2:q.tgt.length≤1048576:=hb.2.1;have h5:=X.n5;have h6:=X.m6
 have hq:pK q=some q:=by
  unfold pK;rw [bG (by simp;omega),aM,bG (by simp;omega),aM];simp
 unfold vX;rw [hq,aC,bG (by simp;omega),aM,List.nil_append];rw [dQ (r:=mkM q.src.length (rXq q x) (cXq q x) (lXq q x) λ_ _=>0) (λk=>(mkM k (rXq q x) (cXq q x) (lXq q x) λ_ _=>0,(k:Int))) q.src.length (by rfl) (λi hi=>?_) (λ_=>?_),aC]
 ·rfl
 ·have s1:=X.s i hi;have t1:=X.t i hi;have hl:=X.l16 i;unfold lXq at hl;unfold uZ;simp only;rw [iE hi,aM,vG 0 (by rw [X.eq];exact hi),aC,t1.1,vG 0 t1.2,aC,vG 0 hi,aC,s1.1,vG 0 s1.2,aC,X.d _ s1.2,X.d _ t1.2,aNg (by omega),aC,aEH,bG (by omega),aM,bU hi (by omega)];unfold mkM;rw [←aVy];rfl
 ·unfold uZ;simp only;rw [iT (bO _),aX]
theorem aWw (l:Nat→Nat) (N code:Nat): ∀ v y,0≤dgM l N code v y∧dgM l N code v y≤1:=λv y=>by
 unfold dgM dg;omega
theorem aSL {N:Nat} (h:N≤1048576):aJQ (List.replicate N 1)=true:=by
 unfold aJQ;simp only [dF,List.all_eq_true,iD,List.length_replicate];refine ⟨λm hm=>?_,h⟩;rw [List.eq_of_mem_replicate hm];decide
def emR:Rp:=⟨0,⟨0,[],[]⟩,[],[]⟩
theorem aSM (p:Int) {q:Qv} (hb:bQ q) {x:List Int} (hx:bI x): ∃ r b,yG p q x=some (r,b)∧yH p q x=some (r,b)∧((b=false∧r=emR)∨(b=true∧sI r=true∧bR r∧isF p=true∧r.dims=x∧r.p=p∧r.q=q)):=by
 obtain ⟨c,c1,c2,_⟩:=aUA hb x;unfold yG yH;rw [aEB,aEA,c1,c2,aCn hb hx,aCo hb hx];simp only [aC];cases hp:isF p with
 |false=>exact ⟨emR,false,rfl,rfl,.inl ⟨rfl,rfl⟩⟩
 |true=>
  cases c with
  |false=>exact ⟨emR,false,rfl,rfl,.inl ⟨rfl,rfl⟩⟩
  |true=>
   cases hD:aBC q x with
   |false=>exact ⟨emR,false,rfl,rfl,.inl ⟨rfl,rfl⟩⟩
   |true=>
    have X:=aUH hD;have h6:=X.m6;simp only [gO,aX];rw [aQy p hb X,aLT p hb X];simp only [aC];obtain ⟨N,hN⟩: ∃ N,N=off (lXq q x) q.src.length:=⟨_,rfl⟩;have hN96:N≤96:=by have:=X.off q.src.length;omega
    have hfl:kT (yO p q x λ_ _=>0).maps=some (cat (lXq q x) (λ_ _=>0) q.src.length):=aMI (by omega) (by omega);have hL1:Lp lO ((yO p q x λ_ _=>0).maps,0,0)=some ((yO p q x λ_ _=>0).maps,(N:Int)):=aWd (by omega) hN.symm (by omega);rw [hfl,hL1];simp only [aC,jA,←hN];by_cases h10:N≤10
    ·obtain ⟨P,hP⟩: ∃ P:Nat→Bool,P=λcode=>decide ((aTS (yO p q x (dgM (lXq q x) N code)) (yO p q x (dgM (lXq q x) N code)):Int)=1):=⟨_,rfl⟩;have hr: ∀ code,sI (yO p q x (dgM (lXq q x) N code))=true:=λcode=>aOW hp hD (aWw _ _ _);obtain ⟨Y,hY⟩:=aXi (p:=p) (q:=q) (d:=x) (r:=rXq q x) (c:=cXq q x) (P:=P) (G:=λ_ _=>0) (show q.src.length≤1000 by omega) hN.symm h10 (λcode _=>⟨_,aTT (aUE (hr code)),by rw [hP];rfl⟩) (2 ^ N) 0 (yO p q x λ_ _=>0).maps (Nat.zero_add _)
     have hS:=aWe (p:=p) (q:=q) (d:=x) (r:=rXq q x) (c:=cXq q x) (P:=P) (X:=(yO p q x λ_ _=>0).maps) (z:=(yO p q x λ_ _=>0).maps) (show q.src.length≤1000 by omega) hN.symm h10 (λcode _=>⟨_,aSK (aMf hb X) (aMf hb X),by
      have hf:aJo (yO p q x (dgM (lXq q x) N code)) (yO p q x (dgM (lXq q x) N code))=true:=by unfold aJo;simp [hr code]
      rw [hP];show decide (hdI (yO p q x (dgM (lXq q x) N code)) (yO p q x (dgM (lXq q x) N code))=1)=_;unfold hdI
      rw [aY hf]⟩) (2 ^ N) 0 (λ_ _=>0) (Nat.zero_add _)
     rw [←List.range_eq_range',←aJY] at hY;rw [eB (by omega),bG (by omega),bG (by omega),dH,aSL (by omega)];simp only [Bool.and_self,aM,aX];have e1:Fl (lM (yO p q x λ_ _=>0)) (dX (List.replicate N 1)) (yO p q x λ_ _=>0).maps=_:=hY;have e2:Lp (iB (yO p q x λ_ _=>0) ((yO p q x λ_ _=>0).maps,(N:Int))) ((yO p q x λ_ _=>0).maps,0)=_:=hS;rw [e1,e2];simp only [aC];unfold aJa;cases (List.range' 0 (2 ^ N)).find? P with
     |none=>exact ⟨emR,false,rfl,rfl,.inl ⟨rfl,rfl⟩⟩
     |some code=>exact ⟨yO p q x (dgM (lXq q x) N code),true,rfl,rfl,.inr ⟨rfl,hr code,aMf hb X,trivial,rfl,rfl,rfl⟩⟩
    ·refine ⟨emR,false,?_,?_,.inl ⟨rfl,rfl⟩⟩
     ·rw [bG (by omega)];rfl
     ·rw [dS (r:= .inl ()) (by unfold iB;simp only;rw [eB (by omega),aX])];rfl
end
noncomputable section
set_option maxRecDepth 10000
set_option maxHeartbeats 4000000
def rY (x1:((List Int)×Int×Int)):Option (((List Int)×Int×Int) ⊕ ((List Int)×Int)):=
 bif decide (x1.2.2<((x1.1.length:Nat):Int)) then
 ((cO x1.1 x1.2.2).bind λv2=>
 some (.inl ((x1.1.set x1.2.2.toNat x1.2.1),wr (x1.2.1+1),wr (x1.2.2+1))))
 else
 (some (.inr (x1.1,x1.2.1)))
def jL (a0:(List Int)) (a1:Int):Option ((List Int)×Int):=
 (Lp rY (a0,a1,0)).bind λy3=>
 some (y3.1,y3.2)
theorem sO (a0:(List Int)) (a1:Int) (r:((List Int)×Int)) (h:jL a0 a1=some r):HasE Tryz.prog 16 [.own 0 0 a0.length,.int a1] [(0,⟨1,a0.map (ow eI)⟩)] 1 (.int r.2) [(0,⟨1,r.1.map (ow eI)⟩)]:=by
 refine pP aD (rvs:=[.tmp 4]) (ns:=nmA.drop 1) Tryz.func16 k k Tryz.ntmps16 k k<|sR<|aT k2<|sQ<|sR<|aT k2<|aE<|oB h λy3 hy3 h=>cC (body:=rY) hy3 (λ(x1:((List Int)×Int×Int))=>mN [(0,.own 0 0 x1.1.length),(1,.int x1.2.1),(5,.int x1.2.2)] [(0,⟨1,x1.1.map (ow eI)⟩)] 1 1) (λr e t=>e= .exit 0∧Ent t (mN [(1,.int r.2)] [(0,⟨1,r.1.map (ow eI)⟩)] 1 1)) (bS (bK k2) (bP k<|aR) k4) ?_ ?_
 ·intro x1 o h;exact sQ<|sR<|am k k<|am k k<|ae (cA aD k k k k) k<|cm k4<|an<|tn<|dR k h (λ_ h=>aG<|tn<|sQ<|aE<|sR<|am k k<|am k k<|am k k<|oB h λv2 hv2 h=>ae (xo hv2 k) k<|ae (fA aD jX (u:=x1.2.1) (dB hv2) k k k k k k) k<|an<|tn<|rg<|am k k<|ae (bF k k) k<|aa k k<|an<|aV<|tn<|rg<|am k k<|ae (bF k k) k<|aT k2<|sp h ⟨_,k,(bS (jJ ⟨_,k,⟨k,k,(by simp only [aO,lA,lT,lR,lC,lN]),k⟩⟩ (bK k2)) (bP k<|aR) k4)⟩) λ_ h=>aU<|aB<|aB<|sp h ⟨_,k,k,(bS (bK k2) (bP k<|aR) k4)⟩
 ·rintro e t ⟨rfl,hent⟩;exact aL<|tn<|aP hent<|sR<|am k k<|aT k2<|aJ<|sp h ⟨mN [(4,.int y3.2)] [(0,⟨1,y3.1.map (ow eI)⟩)] 1 1,(bS (bK k2) (bP k<|aR) k4),k,⟨_,k,.inl k⟩,⟨k,aR⟩⟩
def pC (a0:Qv) (a1:Int):Option ((List Int)×(List Int)×Int):=
 (jL a0.src a1).bind λv1=>
 bif decide (v1.1.length=a0.src.length) then
 ((jL a0.tgt v1.2).bind λv3=>
 bif decide (v3.1.length=a0.tgt.length) then
 (some (v1.1,v3.1,v3.2))
 else none)
 else none
theorem aBh (a0:Qv) (a1:Int) (r:((List Int)×(List Int)×Int)) (h:pC a0 a1=some r):HasE Tryz.prog 15 [.agg [.int a0.n,.own 0 0 a0.src.length,.own 1 0 a0.tgt.length],.int a1] [(0,⟨1,a0.src.map (ow eI)⟩),(1,⟨1,a0.tgt.map (ow eI)⟩)] 2 (.int r.2.2) [(0,⟨1,r.1.map (ow eI)⟩),(1,⟨1,r.2.1.map (ow eI)⟩)]:=by
 refine pP aD (rvs:=[.tmp 4]) (ns:=nmA.drop 2) Tryz.func15 k k Tryz.ntmps15 k k<|sR<|ae (wb k) k<|aT k2<|sR<|fp k8<|lp k8<|am k k<|oB h λv1 hv1 h=>ae (kO (σ:=sg [(0,0)]) (σ':=sg [(0,0)]) (touch:=[0]) (news:=[]) (hl2:=[(0,⟨1,v1.1.map (ow eI)⟩)]) (n':=3) (r2:= .int v1.2) (sO a0.src a1 v1 hv1) k k ⟨_,_,k,⟨k,k,k,k⟩,⟨_,_,k,k,k⟩⟩ ⟨⟨_,k,k,.inl ⟨k,cP.plainO _⟩⟩,k,aR⟩ k k k ⟨⟨_,k,k,.inl ⟨k,cP.plainO _⟩⟩,k,aR⟩ k k k ⟨k,cP.tame _ _,aR⟩ k k) k<|cG h λq2 h=>aT k2<|sR<|fp k8<|lp k8<|am k k<|oB h λv3 hv3 h=>ae (kO (σ:=sg [(0,1)]) (σ':=sg [(1,0)]) (touch:=[1]) (news:=[]) (hl2:=[(1,⟨1,v3.1.map (ow eI)⟩)]) (n':=3) (r2:= .int v3.2) (sO a0.tgt v1.2 v3 hv3) k k ⟨_,_,k,⟨k,k,k,k⟩,⟨_,_,k,k,k⟩⟩ ⟨⟨_,k,k,.inl ⟨k,cP.plainO _⟩⟩,k,aR⟩ k k k ⟨⟨_,k,k,.inl ⟨k,cP.plainO _⟩⟩,k,aR⟩ k k k ⟨k,cP.tame _ _,aR⟩ k k) k<|cG h λq4 h=>aT k2<|sR<|am k k<|aa k k<|an ?_;exact tn<|aJ<|sp h ⟨mN [(4,.int v3.2)] [(0,⟨1,v1.1.map (ow eI)⟩),(1,⟨1,v3.1.map (ow eI)⟩)] 2 2,(bS (bK k2) (bP k<|bP k<|aR) k4),k,⟨_,k,.inl k⟩,⟨k,k,aR⟩⟩
def nX (x1:((List Mt)×Int×Int)):Option (((List Mt)×Int×Int) ⊕ ((List Mt)×Int)):=
 bif decide (x1.2.2<((x1.1.length:Nat):Int)) then
 ((cO x1.1 x1.2.2).bind λv2=>
 (jL v2.cells (wr ((wr (x1.2.1+1))+1))).bind λv3=>
 bif decide (v3.1.length=v2.cells.length) then
 (some (.inl ((x1.1.set x1.2.2.toNat (⟨x1.2.1,wr (x1.2.1+1),v3.1⟩:Mt)),v3.2,wr (x1.2.2+1))))
 else none)
 else
 (some (.inr (x1.1,x1.2.1)))
def rZ (a0:(List Mt)) (a1:Int):Option ((List Mt)×Int):=
 (Lp nX (a0,a1,0)).bind λy5=>
 some (y5.1,y5.2)
theorem aFF (a0:(List Mt)) (a1:Int) (r:((List Mt)×Int)) (h:rZ a0 a1=some r):HasT Tryz.prog 41 [.own 0 0 a0.length,.int a1] [(0,⟨3,a0.map (ow eM)⟩)] 1 (.int r.2) [(0,⟨3,r.1.map (ow eM)⟩)]:=by
 refine aQP aD (rvs:=[.tmp 4]) (ns:=nmA.drop 1) Tryz.func41 k k Tryz.ntmps41 k k<|sS<|gT k2<|sn<|tn<|sQ<|sS<|gT k2<|sn<|tn<|aE<|oB h λy5 hy5 h=>cC (body:=nX) hy5 (λ(x1:((List Mt)×Int×Int))=>mN [(0,.own 0 0 x1.1.length),(1,.int x1.2.1),(5,.int x1.2.2)] [(0,⟨3,x1.1.map (ow eM)⟩)] 1 ⟨1,true,none,true⟩) (λr e t=>e= .exit 0∧Ent t (mN [(1,.int r.2)] [(0,⟨3,r.1.map (ow eM)⟩)] 1 ⟨1,true,none,true⟩)) (bS (bK k2) (cD (cE.plainO _) k<|aR) k4) ?_ ?_
 ·intro x1 o h;refine sQ<|sS<|eV k2<|eV k2<|se (cA aD k k k k) k<|cmS k4<|sn<|tn<|dR k h (λ_ h=>?_) λ_ h=>aU<|aB<|aB<|sp h ⟨_,k,k,(bS (bK k2) (cD (cE.plainO _) k<|aR) k4)⟩;refine aG<|tn<|sQ<|aE<|sS<|eV k2<|eV k2<|eV k2<|oB h λv2 hv2 h=>iJ (t:=mN [(0,.own 0 0 x1.1.length),(1,.int x1.2.1),(5,.int x1.2.2),(6,.int x1.2.2),(7,.own 0 0 x1.1.length),(8,.int ((x1.1.length:Nat):Int)),(9,.bl (decide (x1.2.2<((x1.1.length:Nat):Int)))),(12,.own 0 0 x1.1.length),(13,.int x1.2.2),(14,.int x1.2.1)] [(0,⟨3,(x1.1.map (ow eM)).set x1.2.2.toNat [.int v2.rows,.int v2.cols,.abs 1 (v2.cells.map eI)]⟩)] 1 ⟨1,true,none,true⟩) (bS (bK k2) (hX ⟨_,k,k,.inl ⟨aAw (dB hv2),zA cE k⟩⟩ k<|aR) k4)<|iJ (zB (b:=0) (c:=1) (i:=x1.2.2.toNat) (j:=2) (n:=v2.cells.length) (A:=x1.1.map (ow eM)) (fs:=v2.cells.map (ow eI)) (by rw [fD];exact iR hv2) k k k k (aO _ _) (gA _ _) (aBm ⟨k,k,k,k,k,k,k,k,k,k,aR⟩) (aBn (skip:=[]) ⟨.inr (cE.dfS _ _ _ k),aR⟩))<|iJ (t:=mN [(0,.own 0 0 x1.1.length),(1,.int x1.2.1),(5,.int x1.2.2),(6,.int x1.2.2),(7,.own 0 0 x1.1.length),(8,.int ((x1.1.length:Nat):Int)),(9,.bl (decide (x1.2.2<((x1.1.length:Nat):Int)))),(12,.own 0 0 x1.1.length),(13,.int x1.2.2),(14,.int x1.2.1)] [(0,⟨3,(x1.1.map (ow eM)).set x1.2.2.toNat [.int v2.rows,.int v2.cols,.own 1 0 v2.cells.length]⟩),(1,⟨1,v2.cells.map (ow eI)⟩)] 2 ⟨1,true,none,true⟩) (fX (σ:=sg [(0,0),(1,1)]) (bK k2) (hX ⟨_,k,k,.inr (aBX (σ:=sg [(0,0),(1,1)]) (m:=2) (e:=eM) (l:=x1.1) (i:=x1.2.2.toNat) (c:=[.int v2.rows,.int v2.cols,.own 1 0 v2.cells.length]) (d:=[.int v2.rows,.int v2.cols,.own 1 0 v2.cells.length]) cE ⟨_,_,k,k,⟨_,_,k,k,⟨_,_,k,⟨k,k,k,k⟩,k⟩⟩⟩)⟩ k<|bP k<|aR) k)<|se (xo hv2 k) k<|fpS k8<|se (aIz aD (A:=x1.1.map (ow eM)) (by rw [fD];exact iR hv2) k k k k k k k) k<|sn<|tn<|sS<|eV k2<|se (bF k k) k<|gT k2<|sn<|tn<|sS<|eV k2<|eV k2<|eV k2 ?_;exact se (xo hv2 k) k<|fpS k8<|se (aIz aD (A:=x1.1.map (ow eM)) (by rw [fD];exact iR hv2) k k k k k k k) k<|sn<|tn<|sS<|eV k2<|se (bF k k) k<|gT k2<|sn<|tn<|rgS<|eV k2<|eV k2<|se (xo hv2 k) k<|fpS k8<|se (cI aD k k k k (aEq (iR hv2)) k k) k<|eV k2<|oB h λv3 hv3 h=>se (kO (σ:=sg [(0,1)]) (σ':=sg [(1,0)]) (touch:=[1]) (news:=[]) (hl2:=[(1,⟨1,v3.1.map (ow eI)⟩)]) (n':=2) (r2:= .int v3.2) (sO v2.cells (wr ((wr (x1.2.1+1))+1)) v3 hv3) k k ⟨_,_,k,⟨k,k,k,k⟩,⟨_,_,k,k,k⟩⟩ ⟨⟨_,k,k,.inl ⟨k,cP.plainO _⟩⟩,k,aR⟩ k k k ⟨⟨_,k,k,.inl ⟨k,cP.plainO _⟩⟩,k,aR⟩ k k k ⟨k,cP.tame _ _,aR⟩ k k) k<|cG h λq4 h=>gT k2<|sn<|aV<|tn<|rgS<|eV k2<|se (bF k k) k<|gT k2<|sn<|tn<|sp h ⟨_,k,(Ent.trans (show Ent _ (mN [(0,.own 0 0 ((x1.1.set x1.2.2.toNat (⟨x1.2.1,wr (x1.2.1+1),v3.1⟩:Mt)).length)),(1,.int v3.2),(5,.int (wr (x1.2.2+1)))] [(0,⟨3,List.map (ow eM) (x1.1.set x1.2.2.toNat (⟨x1.2.1,wr (x1.2.1+1),v3.1⟩:Mt))⟩)] 2 ⟨1,true,none,true⟩) from (Ent.trans (zZ (b:=0) (b':=1) (j:=2) (es':=v3.1.map eI) (by rw [fD];exact iR hv2) k k k k (by simp only [aO,lA,lT,lR,lC,lN,of_decide_eq_true q4]) (cP.frzs _)) (bS (jJ ⟨_,k,⟨k,k,(by simp only [aO,lA,lT,lR,lC,lN,of_decide_eq_true q4]),k⟩⟩ (bK k2)) (hX ⟨_,k,k,.inl ⟨aDT (⟨x1.2.1,wr (x1.2.1+1),v3.1⟩:Mt) k,cE.plainO _⟩⟩ k<|aR) k4))) (bS (bK k2) (cD (cE.plainO _) k<|aR) k4))⟩
 ·rintro e t ⟨rfl,hent⟩;exact aL<|tn<|aP hent<|sS<|eV k2<|gT k2<|sn<|tn<|aJ<|sp h ⟨mN [(4,.int y5.2)] [(0,⟨3,y5.1.map (ow eM)⟩)] 1 ⟨1,true,none,true⟩,(bS (bK k2) (cD (cE.plainO _) k<|aR) k4),k,⟨_,k,.inl k⟩,⟨k,aR⟩⟩
def yK (a0:Rp) (a1:Int):Option ((List Int)×(List Int)×(List Int)×(List Mt)×Int):=
 (pC a0.q a1).bind λv1=>
 bif decide (v1.1.length=a0.q.src.length) then
 (bif decide (v1.2.1.length=a0.q.tgt.length) then
 ((jL a0.dims v1.2.2).bind λv4=>
 bif decide (v4.1.length=a0.dims.length) then
 ((rZ a0.maps v4.2).bind λv6=>
 bif decide (v6.1.length=a0.maps.length) then
 (some (v1.1,v1.2.1,v4.1,v6.1,v6.2))
 else none)
 else none)
 else none)
 else none
theorem aJp (a0:Rp) (a1:Int) (r:((List Int)×(List Int)×(List Int)×(List Mt)×Int)) (h:yK a0 a1=some r):HasT Tryz.prog 17 [.agg [.int a0.p,.int a0.q.n,.own 0 0 a0.q.src.length,.own 1 0 a0.q.tgt.length,.own 2 0 a0.dims.length,.own 3 0 a0.maps.length],.int a1] [(0,⟨1,a0.q.src.map (ow eI)⟩),(1,⟨1,a0.q.tgt.map (ow eI)⟩),(2,⟨1,a0.dims.map (ow eI)⟩),(3,⟨3,a0.maps.map (ow eM)⟩)] 4 (.int r.2.2.2.2) [(0,⟨1,r.1.map (ow eI)⟩),(1,⟨1,r.2.1.map (ow eI)⟩),(2,⟨1,r.2.2.1.map (ow eI)⟩),(3,⟨3,r.2.2.2.1.map (ow eM)⟩)]:=by
 refine aQP aD (rvs:=[.tmp 4]) (ns:=nmA.drop 4) Tryz.func17 k k Tryz.ntmps17 k k<|sS<|se (wb k) k<|gT k2<|sn<|tn<|sS<|fpS k8<|zD k8<|eV k2<|oB h λv1 hv1 h=>se (kO (σ:=sg [(0,0),(1,1)]) (σ':=sg [(0,0),(1,1)]) (touch:=[0,1]) (news:=[]) (hl2:=[(0,⟨1,v1.1.map (ow eI)⟩),(1,⟨1,v1.2.1.map (ow eI)⟩)]) (n':=5) (r2:= .int v1.2.2) (aBh a0.q a1 v1 hv1) k k ⟨_,_,k,⟨_,_,k,k,⟨_,_,k,⟨k,k,k,k⟩,⟨_,_,k,⟨k,k,k,k⟩,k⟩⟩⟩,⟨_,_,k,k,k⟩⟩ ⟨⟨_,k,k,.inl ⟨k,cP.plainO _⟩⟩,k,⟨_,k,k,.inl ⟨k,cP.plainO _⟩⟩,k,aR⟩ k k k ⟨⟨_,k,k,.inl ⟨k,cP.plainO _⟩⟩,k,⟨_,k,k,.inl ⟨k,cP.plainO _⟩⟩,k,aR⟩ k k k ⟨k,cP.tame _ _,⟨k,cP.tame _ _,aR⟩⟩ k k) k<|cG h λq2 h=>cG h λq3 h=>gT k2<|sn<|tn<|sS<|fpS k8<|zD k8<|eV k2<|oB h λv4 hv4 h=>se (kO (σ:=sg [(0,2)]) (σ':=sg [(2,0)]) (touch:=[2]) (news:=[]) (hl2:=[(2,⟨1,v4.1.map (ow eI)⟩)]) (n':=5) (r2:= .int v4.2) (sO a0.dims v1.2.2 v4 hv4) k k ⟨_,_,k,⟨k,k,k,k⟩,⟨_,_,k,k,k⟩⟩ ⟨⟨_,k,k,.inl ⟨k,cP.plainO _⟩⟩,k,aR⟩ k k k ⟨⟨_,k,k,.inl ⟨k,cP.plainO _⟩⟩,k,aR⟩ k k k ⟨k,cP.tame _ _,aR⟩ k k) k<|cG h λq5 h=>gT k2<|sn<|tn<|sS<|fpS k8<|zD k8<|eV k2 ?_;exact oB h λv6 hv6 h=>iJ (t:=mN [(0,.agg (oRp a0 0 1 2 3)),(1,.int v4.2),(2,.ptr 4 0 0),(4,.int 0),(5,.ptr 4 0 1),(6,.agg (oQv a0.q 0 1)),(7,.int a1),(8,.int v1.2.2),(9,.ptr 4 0 4),(10,.own 2 0 a0.dims.length),(11,.int v1.2.2),(12,.int v4.2),(13,.ptr 4 0 5),(14,.own 3 0 a0.maps.length),(15,.int v4.2)] [(0,⟨1,v1.1.map (ow eI)⟩),(1,⟨1,v1.2.1.map (ow eI)⟩),(2,⟨1,v4.1.map (ow eI)⟩),(3,⟨3,a0.maps.map (ow eM)⟩),(4,⟨6,[oRp a0 0 1 2 3]⟩)] 5 ⟨4,true,none,true⟩) (bS (bK k2) (bP k<|bP k<|bP k<|cD (cE.plainO _) k<|fF k<|aR) k4)<|aTD (σ:=sg [(0,3)]) (σ':=sg [(3,0)]) (touch:=[3]) (news:=[]) (hl2:=[(3,⟨3,v6.1.map (ow eM)⟩)]) (n':=5) (r2:= .int v6.2) (aFF a0.maps v4.2 v6 hv6) k k ⟨_,_,k,⟨k,k,k,k⟩,⟨_,_,k,k,k⟩⟩ ⟨⟨_,k,k,.inl ⟨k,cE.plainO _⟩⟩,k,aR⟩ k k k ⟨⟨_,k,k,.inl ⟨k,cE.plainO _⟩⟩,k,aR⟩ k k k ⟨k,cE.tame _ _,aR⟩ k k k k k (aBm ⟨k,k,k,k,k,k,k,k,k,k,k,k,k,k,k,aR⟩) (aBn (skip:=[3]) ⟨.inr (cP.df _ _),.inr (cP.df _ _),.inr (cP.df _ _),.inl (by decide),.inr (vI k),aR⟩)<|cG h λq7 h=>gT k2<|sn<|tn<|sS<|eV k2<|gT k2<|sn<|tn<|aJ<|sp h ⟨mN [(4,.int v6.2)] [(0,⟨1,v1.1.map (ow eI)⟩),(1,⟨1,v1.2.1.map (ow eI)⟩),(2,⟨1,v4.1.map (ow eI)⟩),(3,⟨3,v6.1.map (ow eM)⟩)] 4 ⟨4,true,none,true⟩,(bS (bK k2) (bP k<|bP k<|bP k<|cD (cE.plainO _) k<|aR) k4),k,⟨_,k,.inl k⟩,⟨k,k,k,k,aR⟩⟩
def sA (a0:(List Int)) (x1:(Int×Int)):Option ((Int×Int) ⊕ (Int ⊕ Int)):=
 bif decide (x1.2<(a0.length:Int)) then
 ((cO a0 x1.2).bind λv2=>
 bif !decide (v2=x1.1) then
 (some (.inr (.inr ((-1)))))
 else
 (some (.inl (wr (x1.1+1),wr (x1.2+1)))))
 else
 (some (.inr (.inl x1.1)))
def lY (a0:(List Int)) (a1:Int):Option Int:=
 (Lp (sA a0) (a1,0)).bind λy4=>
 Sum.elim (λy5=>
 some (y5)
 )
 (λy6=>
 some y6
 )
 y4
theorem xC (a0:(List Int)) (a1:Int) (r:Int) (h:lY a0 a1=some r):HasC Tryz.prog 23 [.list 1 (a0.map eI),.int a1] (.int r):=by
 refine hM [.tmp 4] Tryz.func23 Tryz.ntmps23 k<|sR<|aT k2<|sQ<|sR<|aT k2<|aE<|oB h λy4 hy4 h=>cC (body:=(sA a0)) hy4 (λ(x1:(Int×Int))=>mN [(0,.list 1 (a0.map eI)),(1,.int x1.1),(5,.int x1.2)] [] 0) (λr e t=>Sum.elim (λa=>(λr e t=>e= .exit 0∧Ent t (mN [(1,.int r)] [] 0)) a e t) (λb=>(λr e t=>e= .ret∧tW TT [.tmp 4] (.int r) .ret t) b e t) r) (bS (bK k2) aR k4) ?_ ?_
 ·intro x1 o h;exact sQ<|sR<|am k k<|am k k<|ln k4<|cm k4<|an<|tn<|dR k h (λ_ h=>aG<|tn<|sQ<|aE<|sQ<|sR<|am k k<|am k k<|oB h λv2 hv2 h=>ae (xl hv2 k) k<|lr k7<|am k k<|cm k4<|an<|tn<|dR k h (λ_ h=>sR<|aT k2<|aJ<|aI<|bH<|aI<|aI<|sp h ⟨_,k,k,bT k k k (aBl k)⟩) λ_ h=>aG<|tn<|rg<|am k k<|ae (bF k k) k<|aa k k<|an<|aV<|tn<|rg<|am k k<|ae (bF k k) k<|aT k2<|sp h ⟨_,k,(bS (bK k2) aR k4)⟩) λ_ h=>aU<|aB<|aB<|sp h ⟨_,k,k,(bS (bK k2) aR k4)⟩
 ·intro e t hX;rcases y4 with y5|y6
  ·obtain ⟨rfl,hent⟩:=hX;exact aL<|tn<|aP hent<|sR<|am k k<|aT k2<|aJ<|rtI h k2
  ·obtain ⟨rfl,hent⟩:=hX;exact bH<|aI<|sp h hent
def tP (a0:Qv) (a1:Int):Option Int:=
 (lY a0.src a1).bind λv1=>
 bif decide (v1<0) then
 (some ((-1)))
 else
 ((lY a0.tgt v1).bind λv3=>
 bif decide (v3<0) then
 (some ((-1)))
 else
 (some (v3)))
theorem aGE (a0:Qv) (a1:Int) (r:Int) (h:tP a0 a1=some r):HasC Tryz.prog 42 [.agg (eQ a0),.int a1] (.int r):=by
 exact hM [.tmp 4] Tryz.func42 Tryz.ntmps42 k<|sR<|ae (wb k) k<|aT k2<|sR<|fp k8<|lp k8<|am k k<|oB h λv1 hv1 h=>ae (bC (xC a0.src a1 v1 hv1) k (dW k (dW k aS))) k<|aT k2<|sQ<|sR<|am k k<|cm k4<|an<|tn<|dR k h (λ_ h=>sR<|aT k2<|aJ<|aI<|rtI h k2) λ_ h=>aG<|tn<|sR<|fp k8<|lp k8<|am k k<|oB h λv3 hv3 h=>ae (bC (xC a0.tgt v1 v3 hv3) k (dW k (dW k aS))) k<|aT k2<|sQ<|sR<|am k k<|cm k4<|an<|tn<|dR k h (λ_ h=>sR<|aT k2<|aJ<|aI<|rtI h k2) λ_ h=>aG<|tn<|sR<|am k k<|aT k2<|aJ<|rtI h k2
def nY (a0:(List Mt)) (x1:(Int×Int)):Option ((Int×Int) ⊕ (Int ⊕ Int)):=
 bif decide (x1.2<(a0.length:Int)) then
 ((cO a0 x1.2).bind λv2=>
 bif !decide (v2.rows=x1.1) then
 (some (.inr (.inr ((-1)))))
 else
 ((cO a0 x1.2).bind λv4=>
 bif !decide (v4.cols=wr (x1.1+1)) then
 (some (.inr (.inr ((-1)))))
 else
 ((cO a0 x1.2).bind λv6=>
 (lY v6.cells (wr ((wr (x1.1+1))+1))).bind λv7=>
 bif decide (v7<0) then
 (some (.inr (.inr ((-1)))))
 else
 (some (.inl (v7,wr (x1.2+1)))))))
 else
 (some (.inr (.inl x1.1)))
def sB (a0:(List Mt)) (a1:Int):Option Int:=
 (Lp (nY a0) (a1,0)).bind λy9=>
 Sum.elim (λy10=>
 some (y10)
 )
 (λy11=>
 some y11
 )
 y9
theorem aFG (a0:(List Mt)) (a1:Int) (r:Int) (h:sB a0 a1=some r):HasC Tryz.prog 43 [.list 3 (a0.map eM),.int a1] (.int r):=by
 refine hM [.tmp 4] Tryz.func43 Tryz.ntmps43 k<|sR<|aT k2<|sQ<|sR<|aT k2<|aE<|oB h λy9 hy9 h=>cC (body:=(nY a0)) hy9 (λ(x1:(Int×Int))=>mN [(0,.list 3 (a0.map eM)),(1,.int x1.1),(5,.int x1.2)] [] 0) (λr e t=>Sum.elim (λa=>(λr e t=>e= .exit 0∧Ent t (mN [(1,.int r)] [] 0)) a e t) (λb=>(λr e t=>e= .ret∧tW TT [.tmp 4] (.int r) .ret t) b e t) r) (bS (bK k2) aR k4) ?_ ?_
 ·intro x1 o h;refine sQ<|sR<|am k k<|am k k<|ln k4<|cm k4<|an<|tn<|dR k h (λ_ h=>?_) λ_ h=>aU<|aB<|aB<|sp h ⟨_,k,k,(bS (bK k2) aR k4)⟩;exact aG<|tn<|sQ<|aE<|sQ<|sR<|am k k<|am k k<|oB h λv2 hv2 h=>ae (xl hv2 k) k<|ae (eJ aD k k k k k k) k<|lr k7<|am k k<|cm k4<|an<|tn<|dR k h (λ_ h=>sR<|aT k2<|aJ<|aI<|bH<|aI<|aI<|sp h ⟨_,k,k,bT k k k (aBl k)⟩) λ_ h=>aG<|tn<|sR<|am k k<|ae (bF k k) k<|aT k2<|sQ<|sR<|am k k<|am k k<|oB h λv4 hv4 h=>ae (xl hv4 k) k<|ae (eJ aD k k k k k k) k<|lr k7<|am k k<|cm k4<|an<|tn<|dR k h (λ_ h=>sR<|aT k2<|aJ<|aI<|bH<|aI<|aI<|sp h ⟨_,k,k,bT k k k (aBl k)⟩) λ_ h=>aG<|tn<|sR<|am k k<|ae (bF k k) k<|aT k2<|aP (t:=mN [(0,.list 3 (a0.map eM)),(1,.int (wr ((wr (x1.1+1))+1))),(5,.int x1.2)] [] 0) (bS (bK k2) aR k4)<|sR<|am k k<|am k k<|oB h λv6 hv6 h=>ae (xl hv6 k) k<|ae (eJ aD k k k k k k) k<|lr k7<|am k k<|oB h λv7 hv7 h=>ae (bC (xC v6.cells (wr ((wr (x1.1+1))+1)) v7 hv7) k (dW k (dW k aS))) k<|aT k2<|sR<|am k k<|cm k4<|an<|tn<|dR k h (λ_ h=>sR<|aT k2<|aJ<|bH<|aI<|aI<|sp h ⟨_,k,k,bT k k k (aBl k)⟩) λ_ h=>aG<|aV<|tn<|rg<|am k k<|ae (bF k k) k<|aT k2<|sp h ⟨_,k,(bS (bK k2) aR k4)⟩
 ·intro e t hX;rcases y9 with y10|y11
  ·obtain ⟨rfl,hent⟩:=hX;exact aL<|tn<|aP hent<|sR<|am k k<|aT k2<|aJ<|rtI h k2
  ·obtain ⟨rfl,hent⟩:=hX;exact bH<|aI<|sp h hent
def qZ (a0:Rp) (a1:Int):Option Int:=
 (tP a0.q a1).bind λv1=>
 bif decide (v1<0) then
 (some ((-1)))
 else
 ((lY a0.dims v1).bind λv3=>
 bif decide (v3<0) then
 (some ((-1)))
 else
 ((sB a0.maps v3).bind λv5=>
 bif decide (v5<0) then
 (some ((-1)))
 else
 (some (v5))))
theorem aDk (a0:Rp) (a1:Int) (r:Int) (h:qZ a0 a1=some r):HasC Tryz.prog 18 [.agg (eR a0),.int a1] (.int r):=by
 exact hM [.tmp 4] Tryz.func18 Tryz.ntmps18 k<|sR<|ae (wb k) k<|aT k2<|sR<|fp k8<|lp k8<|am k k<|oB h λv1 hv1 h=>ae (bC (aGE a0.q a1 v1 hv1) k (aZ (lQ k) (dW k aS))) k<|aT k2<|sQ<|sR<|am k k<|cm k4<|an<|tn<|dR k h (λ_ h=>sR<|aT k2<|aJ<|aI<|rtI h k2) λ_ h=>aG<|tn<|sR<|fp k8<|lp k8<|am k k<|oB h λv3 hv3 h=>ae (bC (xC a0.dims v1 v3 hv3) k (dW k (dW k aS))) k<|aT k2<|sQ<|sR<|am k k<|cm k4<|an<|tn<|dR k h (λ_ h=>sR<|aT k2<|aJ<|aI<|rtI h k2) λ_ h=>aG<|tn<|sR<|fp k8<|lp k8<|am k k<|oB h λv5 hv5 h=>ae (bC (aFG a0.maps v3 v5 hv5) k (dW k (dW k aS))) k<|aT k2<|sQ<|sR<|am k k<|cm k4<|an<|tn<|dR k h (λ_ h=>sR<|aT k2<|aP (t:=mN [(4,.int (-1))] [] 1) (bS (bK k2) aR k4)<|aJ<|aI<|rtI h k2) λ_ h=>aG<|tn<|sR<|am k k<|aT k2<|aJ<|rtI h k2
end
noncomputable section
def nvS {α:Type} (nv:α→Nat):List α→Nat
 | []=>0
 |x::l=>nv x+nvS nv l
def mvS {α:Type} (mv:Int→α→α) (nv:α→Nat):Int→List α→List α
 |_,[]=>[]
 |k,x::l=>mv k x::mvS mv nv (k+nv x) l
section
variable {α:Type} {mv:Int→α→α} {nv:α→Nat}
theorem zV: ∀ (l:List α) (k:Int),(mvS mv nv k l).length=l.length
 | [],_=>rfl
 |x::l,k=>by simp [mvS,zV l]
theorem aMg: ∀ (l m:List α),nvS nv (l++m)=nvS nv l+nvS nv m
 | [],m=>by simp [nvS]
 |x::l,m=>by simp [nvS,aMg l m];omega
theorem aMh: ∀ (l m:List α) (k:Int),mvS mv nv k (l++m)=mvS mv nv k l++mvS mv nv (k+nvS nv l) m
 | [],m,k=>by simp [mvS,nvS]
 |x::l,m,k=>by
  simp only [List.cons_append,mvS,nvS,aMh l m];rw [show k+((nv x+nvS nv l:Nat):Int)=k+(nv x:Int)+(nvS nv l:Int) by omega]
theorem aGF {l:List α} {i:Nat} (hi:i<l.length):nvS nv (l.take (i+1))=nvS nv (l.take i)+nv l[i]:=by
 rw [aBy hi,aMg];simp [nvS]
theorem aHb (l:List α) (i:Nat):nvS nv (l.take i)≤nvS nv l:=by
 have h:nvS nv (l.take i++l.drop i)=nvS nv l:=by rw [List.take_append_drop]
 rw [aMg] at h;omega
theorem aUI {c:Nat} : ∀ {l:List α},(∀ x∈l,nv x≤c)→nvS nv l≤c*l.length
 | [],_=>by simp [nvS]
 |x::l,h=>by
  have h1:=h x (by simp);have h2:=aUI (l:=l) λy hy=>h y (by simp [hy]);simp only [nvS,List.length_cons,Nat.mul_add,Nat.mul_one];omega
theorem aQz {l:List α} {k:Int} {i:Nat} (hi:i<l.length):(mvS mv nv k l)[i]? =some (mv (k+nvS nv (l.take i)) l[i]):=by
 have e:l=l.take i++l[i]::l.drop (i+1):=by rw [←List.drop_eq_getElem_cons hi,List.take_append_drop]
 have e2:mvS mv nv k l=mvS mv nv k (l.take i)++mvS mv nv (k+nvS nv (l.take i)) (l[i]::l.drop (i+1)):=by rw [←aMh,←e]
 rw [e2,List.getElem?_append_right (by rw [zV];simp;omega),zV];simp [mvS,Nat.min_eq_left (Nat.le_of_lt hi)]
theorem aLU {l:List α} {k0:Int} {body:List α×Int×Int→Option ((List α×Int×Int) ⊕ (List α×Int))} (h0:0≤k0) (hk:k0+nvS nv l≤4611686018427387904) (hl:l.length≤4611686018427387904)
  (hs: ∀ (r:List α) (i:Nat) (k:Int) (hi:i<r.length),r[i]∈l→0≤k→k+nv r[i]≤4611686018427387904→body (r,k,i)=some (.inl (r.set i (mv k r[i]),k+nv r[i],wr (i+1)))) (he: ∀ r k,body (r,k,(r.length:Int))=some (.inr (r,k))):
  Lp body (l,k0,0)=some (mvS mv nv k0 l,k0+nvS nv l):=by
 rw [dQ (r:=(mvS mv nv k0 l,k0+nvS nv l)) (λi=>(mvS mv nv k0 (l.take i)++l.drop i,k0+nvS nv (l.take i),(i:Int))) l.length (by simp [mvS,nvS]) (λi hi=>?_) (λ_=>?_)]
 ·have hm:(mvS mv nv k0 (l.take i)).length=i:=by rw [zV];simp;omega
  have hg:(mvS mv nv k0 (l.take i)++l.drop i)[i]'(by simp [zV];omega)=l[i]:=by
   rw [List.getElem_append_right (by omega)];simp [hm]
  have hb:=aHb (nv:=nv) l (i+1);rw [aGF hi] at hb;rw [hs _ i _ (by simp [zV];omega) (by rw [hg];exact List.getElem_mem hi) (by omega) (by rw [hg];omega),hg,bU hi hl];congr 2;refine Prod.ext ?_ (Prod.ext ?_ rfl)
  ·simp only;rw [List.set_append_right _ _ (by omega),hm,Nat.sub_self,List.drop_eq_getElem_cons hi,List.set_cons_zero,aBy hi,aMh];simp [mvS]
  ·simp only;rw [aGF hi];omega
 ·have:=he (mvS mv nv k0 (l.take l.length)++l.drop l.length) (k0+nvS nv (l.take l.length));simp only [List.take_length,List.drop_length,List.append_nil,zV] at this ⊢;exact this
theorem aLV {l:List α} {k0:Int} {body:Int×Int→Option ((Int×Int) ⊕ (Int ⊕ Int))} (h0:0≤k0) (hk:k0+nvS nv l≤4611686018427387904) (hl:l.length≤4611686018427387904)
  (hs: ∀ (i:Nat) (hi:i<l.length) (k:Int),k=k0+nvS nv (l.take i)→0≤k→k+nv l[i]≤4611686018427387904→body (k,i)=some (.inl (k+nv l[i],wr (i+1)))) (he: ∀ k,body (k,(l.length:Int))=some (.inr (.inl k))):
  Lp body (k0,0)=some (.inl (k0+nvS nv l)):=by
 rw [dQ (r:=Sum.inl (k0+nvS nv l)) (λi=>(k0+nvS nv (l.take i),(i:Int))) l.length (by simp [nvS]) (λi hi=>?_) (λ_=>?_)]
 ·have hb:=aHb (nv:=nv) l (i+1);rw [aGF hi] at hb;rw [hs i hi _ rfl (by omega) (by omega),bU hi hl,aGF hi];congr 3;omega
 ·rw [he];simp
end
def nI (l:List Int):Nat:=nvS (λ_=>1) l
def mvI:Int→List Int→List Int:=mvS (λk _=>k) (λ_=>1)
theorem aBv: ∀ l:List Int,nI l=l.length
 | []=>rfl
 |x::l=>by have:=aBv l;simp only [nI] at this;simp only [nI,nvS,List.length_cons];omega
theorem yL (k:Int) (l:List Int):(mvI k l).length=l.length:=zV l k
theorem aPs {k:Int} {n:Nat} (h:0≤k):decide (k+(n:Int)<0)=false:=eB (by omega)
theorem aUJ {l:List Int} {k:Int} (h0:0≤k) (hk:k+nI l≤4611686018427387904):jL l k=some (mvI k l,k+nI l):=by
 have hl:=aBv l;unfold jL;rw [aLU (mv:=λk _=>k) (nv:=λ_=>1) h0 hk (by omega) (λr i k hi _ g0 g1=>?_) (λr k=>?_),aC]
 ·rfl
 ·unfold rY;simp only;rw [iE hi,aM,dJ hi,aC,dH,cY (x:=k+1) (by omega)];simp
 ·unfold rY;simp only;rw [iT (bO _),aX]
theorem aVX {l:List Int} {k:Int} (h0:0≤k) (hk:k+nI l≤4611686018427387904):lY (mvI k l) k=some (k+nI l):=by
 have hl:=aBv l;have hm:=yL k l;unfold lY;rw [aLV (l:=l) (nv:=λ_=>1) h0 hk (by omega) (λi hi k' e g0 g1=>?_) (λk'=>?_),aC]
 ·rfl
 ·unfold sA;simp only;have hg:(mvI k l)[i]? =some k':=by unfold mvI;rw [aQz hi,e]
  rw [hm,iE hi,aM,dJ (by omega),aC];have hg':(mvI k l)[i]'(by omega)=k':=by rw [hJ (by omega)] at hg;exact Option.some.inj hg
  rw [hg',bG rfl,gO,aX,cY (x:=k'+1) (by omega)];simp
 ·unfold sA;simp only;rw [hm,iT (bO _),aX]
theorem aWx {α:Type} {l:List α} {i:Nat} {v:α} (h:l[i]? =some v) (hi:i<l.length):l[i]=v:=by rw [hJ hi] at h;exact Option.some.inj h
def nQ (q:Qv):Nat:=nI q.src+nI q.tgt
def mvQ (k:Int) (q:Qv):Qv:=⟨q.n,mvI k q.src,mvI (k+nI q.src) q.tgt⟩
theorem aXm {q:Qv} {k:Int} (h0:0≤k) (hk:k+nQ q≤4611686018427387904):pC q k=some ((mvQ k q).src,(mvQ k q).tgt,k+nQ q):=by
 unfold nQ at hk;unfold pC;rw [aUJ h0 (by omega),aC,yL,bG rfl,aM,aUJ (by omega) (by omega),aC,yL,bG rfl,aM];unfold mvQ nQ;congr 3;omega
theorem aYX {q:Qv} {k:Int} (h0:0≤k) (hk:k+nQ q≤4611686018427387904):tP (mvQ k q) k=some (k+nQ q):=by
 unfold nQ at hk;unfold tP mvQ;simp only;rw [aVX h0 (by omega),aC,aPs h0,aX,aVX (by omega) (by omega),aC,aPs (by omega),aX];unfold nQ;congr 1;omega
def nMe (m:Mt):Nat:=2+nI m.cells
def aUL (k:Int) (m:Mt):Mt:=⟨k,k+1,mvI (k+2) m.cells⟩
def nMs:List Mt→Nat:=nvS nMe
def aSN:Int→List Mt→List Mt:=mvS aUL nMe
theorem aOX (k:Int) (l:List Mt):(aSN k l).length=l.length:=zV l k
theorem aXn {l:List Mt} {k:Int} (h0:0≤k) (hk:k+nMs l≤4611686018427387904) (hl:l.length≤4611686018427387904):rZ l k=some (aSN k l,k+nMs l):=by
 unfold rZ;rw [aLU (mv:=aUL) (nv:=nMe) h0 hk hl (λr i k hi hm g0 g1=>?_) (λr k=>?_),aC]
 ·rfl
 ·unfold nMe at g1;unfold nX;simp only;rw [iE hi,aM,dJ hi,aC,cY (x:=k+1) (by omega),cY (x:=k+1+1) (by omega),show k+1+1=k+2 by omega,aUJ (by omega) (by omega),aC,yL,bG rfl,aM,dH];unfold aUL nMe;congr 4;omega
 ·unfold nX;simp only;rw [iT (bO _),aX]
theorem aXo {l:List Mt} {k:Int} (h0:0≤k) (hk:k+nMs l≤4611686018427387904) (hl:l.length≤4611686018427387904):sB (aSN k l) k=some (k+nMs l):=by
 have hm:(aSN k l).length=l.length:=zV l k;unfold sB;rw [aLV (l:=l) (nv:=nMe) h0 hk hl (λi hi k' e g0 g1=>?_) (λk'=>?_),aC]
 ·rfl
 ·unfold nMe at g1;unfold nY;simp only;rw [hm,iE hi,aM,dJ (by omega),aC,aWx (v:=aUL k' l[i]) (by unfold aSN;rw [aQz hi,e]) (by omega)];unfold aUL;simp only [decide_true,gO,aX,aC,cY (x:=k'+1) (by omega)];rw [cY (x:=k'+1+1) (by omega),show k'+1+1=k'+2 by omega,aVX (by omega) (by omega),aC,aPs (by omega),aX];unfold nMe;congr 3;omega
 ·unfold nY;simp only;rw [hm,iT (bO _),aX]
def nR (r:Rp):Nat:=nQ r.q+nI r.dims+nMs r.maps
def mvR (k:Int) (r:Rp):Rp:=⟨r.p,mvQ k r.q,mvI (k+nQ r.q) r.dims,aSN (k+nQ r.q+nI r.dims) r.maps⟩
theorem aYY {r:Rp} {k:Int} (h0:0≤k) (hk:k+nR r≤4611686018427387904) (hl:r.maps.length≤4611686018427387904):yK r k=some ((mvR k r).q.src,(mvR k r).q.tgt,(mvR k r).dims,(mvR k r).maps,k+nR r):=by
 unfold nR at hk;unfold yK;rw [aXm h0 (by omega),aC];simp only [mvQ,yL,decide_true,aM];rw [aUJ (by omega) (by omega),aC];simp only [yL,decide_true,aM];rw [aXn (by omega) (by omega) hl,aC];simp only [aOX,decide_true,aM];unfold mvR nR;congr 5;omega
theorem aYZ {r:Rp} {k:Int} (h0:0≤k) (hk:k+nR r≤4611686018427387904) (hl:r.maps.length≤4611686018427387904):qZ (mvR k r) k=some (k+nR r):=by
 unfold nR at hk;unfold qZ mvR;simp only;rw [aYX h0 (by omega),aC,aPs h0,aX,aVX (by omega) (by omega),aC,aPs (by omega),aX,aXo (by omega) (by omega) hl,aC,aPs (by omega),aX];unfold nR;congr 1;omega
theorem aVY (k:Int) (r:Rp):(mvR k r).q.src.length=r.q.src.length∧(mvR k r).q.tgt.length=r.q.tgt.length∧(mvR k r).dims.length=r.dims.length∧(mvR k r).maps.length=r.maps.length:=⟨yL _ _,yL _ _,yL _ _,aOX _ _⟩
theorem aWz {l:List Mt} (h:l.length≤1048576∧ ∀ m∈l,bM m):nMs l≤2097152*1048576:=by
 have:=aUI (nv:=nMe) (c:=2097152) (l:=l) λm hm=>by have:=(h.2 m hm).1;unfold bI at this;unfold nMe;rw [aBv];omega
 unfold nMs
 calc nvS nMe l≤2097152*l.length:=this
  _≤2097152*1048576:=Nat.mul_le_mul_left _ h.1
theorem aXp {r:Rp} (h:bR r):nR r≤4398046511104:=by
 obtain ⟨⟨h1,h2,_⟩,h3,h4,_⟩:=h;have:=aWz h4;unfold bI at h1 h2 h3;unfold nR nQ;rw [aBv,aBv,aBv];omega
end
noncomputable section
theorem aVZ (p:Int) {q:Qv} (hb:bQ q): ∃ L b,kH p q=some (L,b)∧kI p q=some (L,b)∧L.length≤20∧(∀ r∈L,bR r)∧(b=true→ ∃ R,dP q=some (R,true)∧L.length=R.length∧(∀ (i:Nat) (h:i<L.length),R[i]? =some L[i].dims)∧ ∀ r∈L,sI r=true∧r.p=p∧r.q=q):=by
 obtain ⟨R,b,h1,h2,h3⟩:=aLS hb;unfold kH kI;rw [h1,h2];simp only [aC];rcases h3 with ⟨rfl,rfl⟩|⟨rfl,n,H,rfl⟩
 ·refine ⟨[],false,rfl,?_,by simp,by simp,λh=>by cases h⟩;rw [dS (r:= .inl []) rfl];rfl
 ·have hl:=aBH H
  have hrow: ∀ x∈cJ q n,bI x:=λx hx=>by
   have:=(H.vec ((lX H x).1 hx)).1.1;show x.length≤1048576;omega
  have key: ∀ (d i:Nat) (acc:List Rp),i+d=(cJ q n).length→acc.length=i→(∀ r∈acc,bR r∧sI r=true∧r.p=p∧r.q=q)→(∀ (j:Nat) (h:j<acc.length),(cJ q n)[j]? =some acc[j].dims)→(i=0∨isF p=true)→
    ∃ (L:List Rp) (b:Bool),Lp (fM p q (cJ q n,true)) (acc,(i:Int))=some (bif b then .inl L else .inr ([],false))∧Lp (fN p q (cJ q n,true)) (acc,(i:Int))=some (bif b then .inl L else .inr ([],false))∧(b=true→L.length=(cJ q n).length∧(∀ r∈L,bR r∧sI r=true∧r.p=p∧r.q=q)∧((cJ q n).length=0∨isF p=true)∧ ∀ (j:Nat) (h:j<L.length),(cJ q n)[j]? =some L[j].dims):=by
   intro d;induction d with
   |zero=>
    intro i acc hi ha hr hd hF;refine ⟨acc,true,dS ?_,dS ?_,λ_=>⟨by omega,hr,?_,hd⟩⟩
    ·unfold fM;simp only;rw [iT (by omega),aX];rfl
    ·unfold fN;simp only;rw [iT (by omega),aX];rfl
    ·rcases hF with hF|hF
     ·exact .inl (by omega)
     ·exact .inr hF
   |succ d ih=>
    intro i acc hi ha hr hd hF;have hil:i<(cJ q n).length:=by omega
    obtain ⟨r,b,e1,e2,e3⟩:=aSM p hb (hrow _ (List.getElem_mem hil))
    have b1:fM p q (cJ q n,true) (acc,(i:Int))=some (bif b then .inl (acc++[r],((i+1:Nat):Int)) else .inr (.inr ([],false))):=by
     unfold fM;simp only;rw [iE hil,aM,dJ hil,aC,e1,aC];cases b with
     |false=>rfl
     |true=>rw [gO,aX,bG (by omega),aM,bU hil (by omega)];rfl
    have b2:fN p q (cJ q n,true) (acc,(i:Int))=some (bif b then .inl (acc++[r],((i+1:Nat):Int)) else .inr (.inr ([],false))):=by
     unfold fN;simp only;rw [iE hil,aM,aM,dJ hil,aC,e2,aC];cases b with
     |false=>rfl
     |true=>rw [gO,aX,bG (by omega),aM,bU hil (by omega)];rfl
    rcases e3 with ⟨rfl,rfl⟩|⟨rfl,hvr,hbr,hF2,hdm,hpp,hqq⟩
    ·exact ⟨[],false,dS b1,dS b2,λh=>by cases h⟩
    ·obtain ⟨L,c,g1,g2,g3⟩:=ih (i+1) (acc++[r]) (by omega) (by simp;omega) (λy hy=>by
      rcases eP.1 hy with hy|hy
      ·exact hr y hy
      ·rcases List.mem_singleton.1 hy with rfl;exact ⟨hbr,hvr,hpp,hqq⟩) (λj hj=>by
      rcases eD j acc.length with h'|h'
      ·rw [List.getElem_append_left h'];exact hd j h'
      ·have:j=i:=by simp at hj;omega
       subst this;rw [List.getElem_append_right h',hJ hil]
       simp [hdm]) (.inr hF2)
     exact ⟨L,c,(iU b1).trans g1,(iU b2).trans g2,g3⟩
  obtain ⟨L,c,g1,g2,g3⟩:=key (cJ q n).length 0 [] (Nat.zero_add _) rfl (λr hr=>by cases hr) (λj hj=>by cases hj) (.inl rfl);rw [show ((0:Nat):Int)=0 from rfl] at g1 g2;rw [g1,g2];simp only [aC,gO,aX,aM];cases c with
  |false=>exact ⟨[],false,rfl,rfl,by simp,by simp,λh=>by cases h⟩
  |true=>
   obtain ⟨k1,k2,k3,k4⟩:=g3 rfl
   have hne:(cJ q n).length ≠0:=by
    have:=(lX H _).2 (aHB H (v:=0) H.Q.n1);intro h0;rw [List.length_eq_zero_iff.1 h0] at this;cases this
   have hF:isF p=true:=k3.resolve_left hne;refine ⟨L,true,rfl,?_,by omega,λr hr=>(k2 r hr).1,λ_=>⟨cJ q n,rfl,k1,k4,λr hr=>(k2 r hr).2⟩⟩;simp only [aM,Sum.elim_inl];rw [aEA,hF];rfl
end
end Go.Proofs.YtilpfdokmlanjaaGreat

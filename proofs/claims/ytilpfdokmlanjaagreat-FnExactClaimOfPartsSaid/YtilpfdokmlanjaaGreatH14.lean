/-
  Several texts of the claim in one.
-/
import Derived.Laws.BytesString
import Derived.Test.YtilpfdokmlanjaaGreatH13
set_option linter.unusedVariables false
set_option linter.unusedSimpArgs false
namespace Go.Proofs.YtilpfdokmlanjaaGreat
open Go.RowKit
noncomputable section
theorem aSq {s:AState} {b b' i j n k':Nat} {blk:Blk} {cs:List AV} {es':List (List AV)} (hb:s.heap b=some blk) (hi:blk.es[i]? =some cs) (hj:cs[j]? =some (.own b' 0 n)) (hne:Nat.beq b b'=false) (hv:view1 s.heap (.own b' 0 n) (.list k' es')):
  Ent s ⟨s.env,bK [(b',none),(b,some ⟨blk.k,blk.es.set i (cs.take j++[.list k' es']++cs.drop (j+1))⟩)] s.heap,s.used,s.ns,s.kp⟩:=by
 have hjl:j<cs.length:=by
  rcases eO j cs.length with h'|h'
  ·exact h'
  ·rw [iL h'] at hj;cases hj
 intro C ν a w hs;have hne':b≠b':=by rintro rfl;simp at hne
 obtain ⟨φ,hh⟩:=hs.heap;obtain ⟨hub,⟨hk1,hx1⟩,hnd1,hB1⟩:=hh.blk b blk hb;have hcs:=hk1 cs (List.mem_of_getElem? hi);rcases hx1 with ⟨q1,q2,_⟩|⟨β,c,arr,ty,T,vs,q1,q2,q3,q4,q5,q6,q7,q8⟩
 ·rw [q2] at hi;simp at hi
 ·have hext:Ext w s.heap s.used ν w (bK [(b',none),(b,some ⟨blk.k,blk.es.set i (cs.take j++[.list k' es']++cs.drop (j+1))⟩)] s.heap) s.used ν:=by
   refine ⟨λ_ h=>h,λb2 blk2 _ hb2=>?_,λx hx hfr=>⟨rfl,λb2 blk2 β2 c2 hb2 hν2=>?_⟩,rfl⟩
   ·simp only [bK] at hb2;by_cases e:b2=b'
    ·subst e;rw [cE] at hb2;cases hb2
    ·rw [cK e] at hb2;by_cases e2:b2=b
     ·subst e2;simp only [aR,cE,aM,Option.some.injEq] at hb2;subst hb2;exact ⟨blk,hb,rfl,by simp,rfl⟩
     ·rw [cK e2] at hb2;exact ⟨blk2,hb2,rfl,rfl,rfl⟩
   ·simp only [bK] at hb2;by_cases e:b2=b'
    ·subst e;rw [cE] at hb2;cases hb2
    ·rw [cK e] at hb2;by_cases e2:b2=b
     ·subst e2;exact hfr b2 blk β2 c2 hb hν2
     ·rw [cK e2] at hb2;exact hfr b2 blk2 β2 c2 hb2 hν2
  have hdrop:blk.es.flatten.drop (i*blk.k+j)= .own b' 0 n::blk.es.flatten.drop (i*blk.k+j+1):=by
   obtain ⟨r,hr⟩:=yR hk1 hi;have h1:blk.es.flatten.drop (i*blk.k+j)=(cs++r).drop j:=by rw [←hr,List.drop_drop]
   have h2:blk.es.flatten.drop (i*blk.k+j+1)=(cs++r).drop (j+1):=by rw [←hr,List.drop_drop,Nat.add_assoc]
   rw [h1,h2,List.drop_append_of_le_length (by omega),List.drop_append_of_le_length (by omega),List.drop_eq_getElem_cons hjl];have:cs[j]= .own b' 0 n:=by simpa [hjl] using hj
   rw [this];rfl
  have hfl:blk.es.flatten=blk.es.flatten.take (i*blk.k+j)++([.own b' 0 n]++blk.es.flatten.drop (i*blk.k+j+1)):=by
   rw [List.singleton_append,←hdrop,List.take_append_drop]
  rw [hfl] at q8;obtain ⟨v1,v2,S1,S2,e1,e2,e3,e4,e5⟩:=q8.append_inv;obtain ⟨v3,v4,S3,S4,f1,f2,f3,f4,f5⟩:=e5.append_inv;subst f1 f2;obtain ⟨v,r0,S5,S6,rfl,rfl,g1,⟨rfl,rfl⟩⟩:=f4;simp only [CellRep] at g1;obtain ⟨g2,rfl⟩:=g1;obtain ⟨⟨S',d1,d2⟩,_⟩:=view1.repF hh g2 hv
  have hfree: ∀ y∈S',jV (bK [(b',none),(b,some ⟨blk.k,blk.es.set i (cs.take j++[.list k' es']++cs.drop (j+1))⟩)] s.heap) ν y:=by
   intro y hy;rcases d2 y hy with ⟨b0,b1,b2,b3⟩|hf
   ·simp only [yS,List.mem_singleton] at b1;subst b1;refine ⟨λc2 blk2 β2 c3 hc hν e=>?_,?_⟩
    ·subst e;simp only [bK] at hc;by_cases e:c2=b0
     ·subst e;rw [cE] at hc;cases hc
     ·rw [cK e] at hc;simp only [aR] at hc;by_cases e2:c2=b
      ·subst e2;exact hh.apart c2 b0 β2 (by rw [hb];simp) b2 e (by rw [q1] at hν;cases hν;rw [q6];simp) b3
      ·rw [cK e2] at hc;simp only [aR] at hc;exact hh.apart c2 b0 β2 (by rw [hc];simp) b2 e (wT (hh.blk c2 blk2 hc).2.1 hν) b3
    ·obtain ⟨blk3,hbl⟩:=Option.ne_none_iff_exists'.1 b2;exact hs.okM y ((hh.blk b0 blk3 hbl).2.2.2 y b3)
   ·exact ⟨(hext.free y (d1.lt y hy) hf.1).2,hf.2⟩
  have hφ:φ b=β::(S1++S4):=by rw [q6,e2];simp
  refine ⟨ν,hs.below,hs.base,hs.fresh,hs.defers,hs.size,λt x hx=>by obtain ⟨v,h1,h2⟩:=hs.env t x hx;exact ⟨v,h1,h2.ext hext⟩,⟨φ,?_,?_⟩,hs.kp,hs.ext.trans hext,hs.szE,hs.okM,hs.okF⟩
  ·intro x blk2 hx;simp only [bK] at hx;by_cases e:x=b'
   ·subst e;rw [cE] at hx;cases hx
   ·rw [cK e] at hx;by_cases e0:x=b
    ·subst e0;simp only [aR,cE,aM,Option.some.injEq] at hx;subst hx;refine ⟨hub,⟨?_,.inr ⟨β,c,arr,ty,S1++S4,vs,q1,q2,q3,by simpa using q4,q5,hφ,by simpa using q7,?_⟩⟩,hnd1,hB1⟩
     ·intro d hd;rcases List.mem_or_eq_of_mem_set hd with h|h
      ·exact hk1 d h
      ·rw [h];simp;omega
     ·rw [wP (n:=1) hk1 hi rfl (by omega),e1];have m1:CellsRep w (bK [(b',none),(x,some ⟨blk.k,blk.es.set i (cs.take j++[.list k' es']++cs.drop (j+1))⟩)] s.heap) s.used ν [.list k' es'] [v] []:=⟨v,[],[],[],rfl,rfl,⟨⟨S',d1,hfree⟩,rfl⟩,rfl,rfl⟩;have m2:=(e4.ext hext (λ_ _=>rfl)).append (m1.append (f5.ext hext (λ_ _=>rfl)));rw [List.append_assoc (List.take (i*blk.k+j) blk.es.flatten)];simpa using m2
    ·rw [cK e0] at hx;obtain ⟨p1,p2,p3,p4⟩:=hh.blk x blk2 hx;exact ⟨p1,p2.ext hext rfl (λ_ _=>rfl),p3,p4⟩
  ·have hsub: ∀ x,bK [(b',none),(b,some ⟨blk.k,blk.es.set i (cs.take j++[.list k' es']++cs.drop (j+1))⟩)] s.heap x≠none→s.heap x≠none:=by
    intro x hx;have hxb':x≠b':=by rintro rfl;simp [bK] at hx
    simp only [bK,cK hxb',aR] at hx;by_cases e0:x=b
    ·subst e0;rw [hb];simp
    ·rw [cK e0] at hx;exact hx
   intro x1 x2 y hx1 hx2 hne2 hy1 hy2;exact hh.apart x1 x2 y (hsub x1 hx1) (hsub x2 hx2) hne2 hy1 hy2
theorem oG {s:AState} {b b' i j n k':Nat} {blk:Blk} {cs:List AV} {es':List (List AV)} (hb:s.heap b=some blk) (hi:blk.es[i]? =some cs) (hj:cs[j]? =some (.own b' 0 n)) (hne:Nat.beq b b'=false) (hv:view1 s.heap (.own b' 0 n) (.list k' es')):
  Ent s ⟨s.env,bK [(b',none),(b,some ⟨blk.k,blk.es.set i (aDE cs j [.list k' es'])⟩)] s.heap,s.used,s.ns,s.kp⟩:=by
 have hjl:j<cs.length:=by
  rcases eO j cs.length with h'|h'
  ·exact h'
  ·rw [iL h'] at hj;cases hj
 rw [←aDr (by simp;omega)];exact aSq hb hi hj hne hv
end
noncomputable section
section
variable {P:Program} {T:List (Nat×Ty)} {dst:Option Tmp} {ty:TypeId} {pos:String} {aft:Array Edge} {g:Option (Nat×Bool)} {s:AState}
theorem aNc {t i o tf:Nat} {y:Ty} {fs:List (Nat×Nat)} {inf:TypeInfo} {z:Value} {d:TypeDesc} (y1:TyIs P t y inf z d) (hd:y.desc= .struct fs) (hf:fs[i]? =some (o,tf)): ∃ fields f,P.underlying t=some (.struct fields)∧fields[i]? =some f∧f.offset=o∧f.type=tf:=by
 have hdd:=y1.desc;rw [hd] at hdd;have hu:=y1.und;cases d <;> simp only [aJl,fU,beq_iff_eq] at hdd;rename_i fields;rw [←hdd,List.getElem?_map] at hf;cases hg:fields.toList[i]? with
 |none=>rw [hg] at hf;cases hf
 |some f=>
  rw [hg] at hf;simp only [Option.map_some,Option.some.injEq,Prod.mk.injEq] at hf;exact ⟨fields,f,hu,by rw [←hg,Array.getElem?_toList],hf.1,hf.2⟩
theorem aJi (hT:TyOk P T) {t:TypeId} {x:Operand} {i o tf:Nat} {y yf:Ty} {fs:List (Nat×Nat)} {cs:List AV} {c:AV} (hx:s.ev x=some (.agg cs)) (hy:dT T t=some y) (hd:y.desc= .struct fs) (hf:fs[i]? =some (o,tf)) (hyf:dT T tf=some yf) (hag:yf.desc.isAgg=false) (hc:cs[o]? =some c):
  AEff P ⟨dst,.field t x i,ty,pos,aft,g⟩ s.ev s.heap s.kp ⟨c,[],[],[]⟩:=
 AEff.pure λC s' ν a w hi _ hs=>by
  have h1:=hs.ev ((hi x (by simp [Op.operands])).trans hx);simp only [RepA,RepB] at h1;obtain ⟨vs,h2,h3⟩:=h1;obtain ⟨i1,z1,d1,y1⟩:=hT.is hy;obtain ⟨i2,z2,d2,y2⟩:=hT.is hyf;obtain ⟨fields,f,e1,e2,e3,e4⟩:=aNc y1 hd hf;obtain ⟨v,g1,g2⟩:=h3.get hc;refine ⟨v,?_,g2.repA⟩;simp only [execOp,Instr.field,h2,Sem.run_bind,run_underlying e1,Result.andThen_ok,e2,asAgg,Sem.run_pure,part,e3,e4,aLl y2,hag];simp [g1]
end
end
noncomputable section
set_option maxRecDepth 10000
set_option maxHeartbeats 4000000
def qL (a0:Int):Option Bool:=
 some (!decide (a0=0))
theorem aIA (a0:Int) (r:Bool) (h:qL a0=some r):HasC Tryz.prog 248 [.int a0] (.bl r):=by
 exact hM [.tmp 2] Tryz.func248 Tryz.ntmps248 k<|sR<|aT k2<|sR<|am k k<|cm k4<|aT k2<|aE<|gK h k2
def aAI (a0:(List Int)):Option Int:=
 (fD a0 (λb0=>qL b0)).bind λv1=>
 some (v1)
theorem aKt (a0:(List Int)) (r:Int) (h:aAI a0=some r):HasC Tryz.prog 231 [.list 1 (a0.map eI)] (.int r):=by
 exact hM [.tmp 2] Tryz.func231 Tryz.ntmps231 k<|sR<|aT k2<|sR<|am k k<|oB h λv1 hv1 h=>ae (aS (tI a0 (λb0=>qL b0) k (λb0 r h=>aIA b0 r h) v1 hv1) k (cJ k (aL (aWa aRW) aO))) k<|aT k2<|aE<|rtI h k2
def aBq (a0:Int) (a1:Mt) (a2:(List Int)):Option (List Int):=
 (fT a1.cols [a2]).bind λv1=>
 (nW a0 a1 v1).bind λv2=>
 some (v2.cells)
theorem aNd (a0:Int) (a1:Mt) (a2:(List Int)) (r:(List Int)) (h:aBq a0 a1 a2=some r):HasC Tryz.prog 196 [.int a0,.agg (eM a1),.list 1 (a2.map eI)] (.list 1 (r.map eI)):=by
 exact hM [.tmp 6] Tryz.func196 Tryz.ntmps196 k<|sR<|ae (wb k) k<|aT k2<|sQ<|aP fB<|am k k<|lp k8<|fp k8<|lp k8<|am k k<|ae (wl k) k<|oB h λv1 hv1 h=>ae (cM (mB a1.cols [a2] v1 hv1) k3 (cJ k (aL (aWu k k ⟨_,_,k,⟨_,_,k,⟨k,k⟩,k⟩,k⟩) aO))) k<|oB h λv2 hv2 h=>ae (cM (aAB a0 a1 v1 v2 hv2) k3 (cJ k (aL (eV k) (aL (vaM k2) aO)))) k<|ae (aJi aJ k k k k k k k) k<|aa k k<|an<|lL (by kernel_rfl)<|tn<|aE<|sp h (bD k k k (fH (cW cA k k)))
end
noncomputable section
set_option maxRecDepth 10000
set_option maxHeartbeats 4000000
def rS (a0:Int) (a1:Mt) (a2:(List Int)):Option ((List Int)×Bool):=
 (kI a0 a1).bind λv1=>
 bif !v1 then
 (some ((([]:(List Int)),false)))
 else
 ((nD a0 a2).bind λv3=>
 bif !v3 then
 (some ((([]:(List Int)),false)))
 else
 (bif !decide ((a2.length:Int)=a1.cols) then
 (some ((([]:(List Int)),false)))
 else
 (bif decide (([]:(List Int)).length +a2.length≤4294967296) then
 ((gF a0 a1 (⟨(a2.length:Int),1,(([]:(List Int))++a2)⟩:Mt)).bind λv7=>
 some ((v7.cells,true)))
 else none)))
theorem aGO (a0:Int) (a1:Mt) (a2:(List Int)) (r:((List Int)×Bool)) (h:rS a0 a1 a2=some r):HasC Tryz.prog 244 [.int a0,.agg (eM a1),.list 1 (a2.map eI)] (.tuple [.list 1 (r.1.map eI),.bl r.2]):=by
 refine hM [.tmp 6,.tmp 7] Tryz.func244 Tryz.ntmps244 k<|sR<|ae (wb k) k<|aa k k<|aT k2<|sQ<|sR<|am k k<|lp k8<|oB h λv1 hv1 h=>ae (aS (xJ a0 a1 v1 hv1) k (cJ k (aL (eV k) aO))) k<|ae (dI k) k<|am k k<|sP h (λq2 h=>aV 12 k q2<|aK k4<|aK k4<|pk k3<|am k k<|aK k4<|aK k4<|ak k k<|pk k3<|an<|tn<|dO k k<|sR<|ae (wl k) k<|aa k k<|aT k2<|aI (t:=mN [(6,.own 1 0 (([]:(List Int)).length)),(7,.bl false)] [(1,⟨1,List.map (ow eI) ([]:(List Int))⟩)] 2) (bP (gH ⟨_,k,⟨k,k,(by simp only [aH,lA,lT,lR,lC,lN]),k⟩⟩ (bG k2)) (bN k<|aQ) k4)<|aE<|aC<|sp h (bD k k k (cU k (bL (dL (cW cA k k)) (bL (k) eG))))) λq2 h=>?_;exact aV 12 k q2<|am k k<|am k k<|oB h λv3 hv3 h=>ae (aS (aBS a0 a2 v3 hv3) k (cJ k (cJ k aO))) k<|ae (dI k) k<|pk k3<|am k k<|sP h (λq4 h=>aV 18 k q4<|aK k4<|aK k4<|ak k k<|pk k3<|an<|tn<|dO k k<|sR<|ae (wl k) k<|aa k k<|aT k2<|aI (t:=mN [(6,.own 1 0 (([]:(List Int)).length)),(7,.bl false)] [(1,⟨1,List.map (ow eI) ([]:(List Int))⟩)] 2) (bP (gH ⟨_,k,⟨k,k,(by simp only [aH,lA,lT,lR,lC,lN]),k⟩⟩ (bG k2)) (bN k<|aQ) k4)<|aE<|aC<|sp h (bD k k k (cU k (bL (dL (cW cA k k)) (bL (k) eG))))) λq4 h=>aV 18 k q4<|am k k<|ln k4<|fp k8<|lp k8<|cm k4<|pk k3<|an<|tn<|cN k h (λ_ h=>sR<|ae (wl k) k<|aa k k<|aT k2<|aI (t:=mN [(6,.own 1 0 (([]:(List Int)).length)),(7,.bl false)] [(1,⟨1,List.map (ow eI) ([]:(List Int))⟩)] 2) (bP (gH ⟨_,k,⟨k,k,(by simp only [aH,lA,lT,lR,lC,lN]),k⟩⟩ (bG k2)) (bN k<|aQ) k4)<|aE<|aC<|sp h (bD k k k (cU k (bL (dL (cW cA k k)) (bL (k) eG))))) λ_ h=>aG<|tn<|sQ<|aP fB<|am k k<|lp k8<|am k k<|ln k4<|ae (wl k) k<|am k k<|cG h λq6 h=>ae (qV aJ (l:=([]:(List Int))) (m:=a2) kH q6 k k k k k k k k k k k k) k<|ae (fW aJ k k k k k k) k<|oB h λv7 hv7 h=>ae (cM (kB a0 a1 (⟨(a2.length:Int),1,(([]:(List Int))++a2)⟩:Mt) v7 hv7) k3 (cJ k (aL (eV k) (aL (vaM k2) aO)))) k<|ae (aJi aJ k k k k k k k) k<|aa k k<|aa k k<|an<|lL (by kernel_rfl)<|tn<|aI (t:=mN [(6,.own 3 0 v7.cells.length),(7,.bl true)] [(3,⟨1,v7.cells.map (ow eI)⟩)] 4) (bP (bG k2) (bN k<|aQ) k4)<|aE<|sp h (bD k k k (cU k (bL (dL (cW cA k k)) (bL (k) eG))))
def kZ (a0:Int) (a1:Mt) (a2:Sc) (x1:((List (List Int))×Int)):Option (((List (List Int))×Int) ⊕ (List (List Int))):=
 bif decide (x1.2<(a2.basis.length:Int)) then
 ((cY a2.basis x1.2).bind λv7=>
 (rS a0 a1 v7).bind λv8=>
 bif decide (x1.1.length+1≤4294967296) then
 (some (.inl ((x1.1++[v8.1]),wr (x1.2+1))))
 else none)
 else
 (some (.inr x1.1))
def pN (a0:Int) (a1:Mt) (a2:Sc):Option (Sc×Bool):=
 (kI a0 a1).bind λv1=>
 bif !v1 then
 (some (((⟨0,[]⟩:Sc),false)))
 else
 ((mD a0 a2).bind λv3=>
 bif !v3 then
 (some (((⟨0,[]⟩:Sc),false)))
 else
 (bif !decide (a1.cols=a2.size) then
 (some (((⟨0,[]⟩:Sc),false)))
 else
 ((Lp (kZ a0 a1 a2) (([]:(List (List Int))),0)).bind λy10=>
 (pB a0 a1.rows y10).bind λv11=>
 some ((v11,true)))))
theorem aFb (a0:Int) (a1:Mt) (a2:Sc) (r:(Sc×Bool)) (h:pN a0 a1 a2=some r):HasC Tryz.prog 220 [.int a0,.agg (eM a1),.agg (eS a2)] (.tuple [.agg (eS r.1),.bl r.2]):=by
 refine hM [.cell 6 128,.tmp 7] Tryz.func220 Tryz.ntmps220 k<|sR<|ae (wb k) k<|ae (wb k) k<|ae (bX aJ k k) k<|aT k2<|sQ<|sR<|am k k<|lp k8<|oB h λv1 hv1 h=>ae (aS (xJ a0 a1 v1 hv1) k (cJ k (aL (eV k) aO))) k<|ae (dI k) k<|am k k<|sP h (λq2 h=>aV 16 k q2<|aK k4<|aK k4<|pk k3<|am k k<|aK k4<|aK k4<|ak k k<|pk k3<|an<|tn<|dO k k<|sR<|ae (fW aJ k k k k k k) k<|ae (ws k) k<|aT k2<|aI (t:=mN [(6,.ptr 2 0 0),(7,.bl false)] [(2,⟨2,[[.int 0,.nil 1]]⟩)] 3) (bP (bG k2) (bO k<|aQ) k4)<|aE<|aC<|sp h (bD k k k (cU k (bL (yU (aU (k) (aU (k) fA))) (bL (k) eG))))) λq2 h=>?_;refine aV 16 k q2<|am k k<|lp k8<|oB h λv3 hv3 h=>ae (aS (aAH a0 a2 v3 hv3) k (cJ k (aL (eV k) aO))) k<|ae (dI k) k<|pk k3<|am k k<|sP h (λq4 h=>aV 22 k q4<|aK k4<|aK k4<|ak k k<|pk k3<|an<|tn<|dO k k<|sR<|ae (fW aJ k k k k k k) k<|ae (ws k) k<|aT k2<|aI (t:=mN [(6,.ptr 2 0 0),(7,.bl false)] [(2,⟨2,[[.int 0,.nil 1]]⟩)] 3) (bP (bG k2) (bO k<|aQ) k4)<|aE<|aC<|sp h (bD k k k (cU k (bL (yU (aU (k) (aU (k) fA))) (bL (k) eG))))) λq4 h=>?_;refine aV 22 k q4<|fp k8<|lp k8<|fp k8<|lp k8<|cm k4<|pk k3<|an<|tn<|cN k h (λ_ h=>sR<|ae (fW aJ k k k k k k) k<|ae (ws k) k<|aT k2<|aI (t:=mN [(6,.ptr 2 0 0),(7,.bl false)] [(2,⟨2,[[.int 0,.nil 1]]⟩)] 3) (bP (bG k2) (bO k<|aQ) k4)<|aE<|aC<|sp h (bD k k k (cU k (bL (yU (aU (k) (aU (k) fA))) (bL (k) eG))))) λ_ h=>?_;refine aG<|tn<|sR<|ae (wl k) k<|aT k2<|aI (t:=mN [(0,.int a0),(4,.ptr 0 0 0),(5,.ptr 1 0 0),(6,.ptr 2 0 0),(8,.own 3 0 (([]:(List (List Int))).length))] [(0,⟨3,[eM a1]⟩),(1,⟨2,[eS a2]⟩),(2,⟨2,[[.int 0,.nil 1]]⟩),(3,⟨1,List.map (ow (dQ 1 eI)) ([]:(List (List Int)))⟩)] 4) (bP (kT 4 k2 (gH ⟨_,k,⟨k,k,(by simp only [aH,lA,lT,lR,lC,lN]),k⟩⟩ aQ)) (bO k<|bO k<|bO k<|bW (cB.plainO _) k<|aQ) k4)<|sQ<|sR<|aT k2<|aD<|oB h λy10 hy10 h=>cC (body:=(kZ a0 a1 a2)) hy10 (λ(x1:((List (List Int))×Int))=>mN [(0,.int a0),(4,.ptr 0 0 0),(5,.ptr 1 0 0),(6,.ptr 2 0 0),(8,.own 3 0 x1.1.length),(9,.int x1.2)] [(0,⟨3,[eM a1]⟩),(1,⟨2,[eS a2]⟩),(2,⟨2,[[.int 0,.nil 1]]⟩),(3,⟨1,x1.1.map (ow (dQ 1 eI))⟩)] 4) (λr e t=>e= .exit 0∧Ent t (mN [(0,.int a0),(4,.ptr 0 0 0),(6,.ptr 1 0 0),(8,.own 2 0 r.length)] [(0,⟨3,[eM a1]⟩),(1,⟨2,[[.int 0,.nil 1]]⟩),(2,⟨1,r.map (ow (dQ 1 eI))⟩)] 3)) (bP (bG k2) (bO k<|bO k<|bO k<|bW (cB.plainO _) k<|aQ) k4) ?_ ?_
 ·intro x1 o h;refine sQ<|sR<|am k k<|fp k8<|lp k8<|ln k4<|cm k4<|an<|tn<|cN k h (λ_ h=>?_) λ_ h=>aY<|aB<|aB<|sp h ⟨_,k,k,(gT [0,2,3] (bG k2) (bO k<|bO k<|bW (cB.plainO _) k<|aQ) k4)⟩;refine aG<|tn<|sQ<|aD<|sQ<|aP fB<|am k k<|lp k8<|fp k8<|lp k8<|am k k<|oB h λv7 hv7 h=>ae (xl hv7 k) k<|lr k7<|oB h λv8 hv8 h=>ae (cT cA (aGO a0 a1 v7 v8 hv8) k3 (cJ k (aL (eV k) (cJ k aO)))) k<|am k k<|ae (bA k k (by intro _ h;cases h)) k<|ae (bA k k (by intro _ h;cases h)) k<|aa k k<|aa k k<|an<|lL (by kernel_rfl)<|tn<|rg<|am k k<|am k k<|ae (wl k) k<|cG h λq9 h=>ae (fN aJ (l:=x1.1) (c:=[.own 4 0 v8.1.length]) q9 k k k k k k k k k k k k k k) k<|aa k k<|an ?_;exact bB<|tn<|aI (t:=mN [(0,.int a0),(4,.ptr 0 0 0),(5,.ptr 1 0 0),(6,.ptr 2 0 0),(8,.own 6 0 ((x1.1++[v8.1]).length)),(9,.int x1.2)] [(0,⟨3,[eM a1]⟩),(1,⟨2,[eS a2]⟩),(2,⟨2,[[.int 0,.nil 1]]⟩),(6,⟨1,List.map (ow (dQ 1 eI)) (x1.1++[v8.1])⟩)] 7) (Ent.trans (dJ (b:=6) (b':=4) (j:=0) (es':=v8.1.map eI) k k k k (aH _ _) (cA.frzs _)) (bP (kT 4 k2 (gH ⟨_,k,⟨k,k,(by simp only [aH,lA,lT,lR,lC,lN]),k⟩⟩ (bG k2))) (bO k<|bO k<|bO k<|hX ⟨_,k,k,.inl ⟨fV v8.1 k,cB.plainO _⟩⟩ k<|aQ) k4))<|rg<|am k k<|ae (bF k k) k<|aT k2<|sp h ⟨_,k,(gT [0,1,2,6] (bG k2) (bO k<|bO k<|bO k<|bW (cB.plainO _) k<|aQ) k4)⟩
 ·rintro e t ⟨rfl,hent⟩;exact aN<|tn<|aI hent<|sR<|am k k<|fp k8<|lp k8<|am k k<|oB h λv11 hv11 h=>ae (cS (aAu a0 a1.rows y10 v11 hv11) k3 (cJ k (cJ k (aL (tA cB k k) aO)))) k<|ae (ws k) k<|aT k2<|aE<|sp h (bD k k k (cU k (bL (yU (aU (k) (aU (cW cB k k) fA))) (bL (k) eG))))
def aAi (a0:Int) (a1:Sc) (a2:Sc):Option (Sc×Bool):=
 (mD a0 a1).bind λv1=>
 bif !v1 then
 (some (((⟨0,[]⟩:Sc),false)))
 else
 ((mD a0 a2).bind λv3=>
 bif !v3 then
 (some (((⟨0,[]⟩:Sc),false)))
 else
 (bif !decide (a1.size=a2.size) then
 (some (((⟨0,[]⟩:Sc),false)))
 else
 (bif decide (([]:(List (List Int))).length +a1.basis.length≤4294967296) then
 (bif decide ((([]:(List (List Int)))++a1.basis).length +a2.basis.length≤4294967296) then
 ((pB a0 a1.size ((([]:(List (List Int)))++a1.basis)++a2.basis)).bind λv8=>
 some ((v8,true)))
 else none)
 else none)))
theorem aIB (a0:Int) (a1:Sc) (a2:Sc) (r:(Sc×Bool)) (h:aAi a0 a1 a2=some r):HasC Tryz.prog 245 [.int a0,.agg (eS a1),.agg (eS a2)] (.tuple [.agg (eS r.1),.bl r.2]):=by
 refine hM [.cell 6 128,.tmp 7] Tryz.func245 Tryz.ntmps245 k<|sR<|ae (wb k) k<|ae (wb k) k<|ae (bX aJ k k) k<|aT k2<|sQ<|sR<|am k k<|lp k8<|oB h λv1 hv1 h=>ae (aS (aAH a0 a1 v1 hv1) k (cJ k (aL (eV k) aO))) k<|ae (dI k) k<|am k k<|sP h (λq2 h=>aV 12 k q2<|aK k4<|aK k4<|pk k3<|am k k<|aK k4<|aK k4<|ak k k<|pk k3<|an<|tn<|dO k k<|sR<|ae (fW aJ k k k k k k) k<|ae (ws k) k<|aT k2<|aI (t:=mN [(6,.ptr 2 0 0),(7,.bl false)] [(2,⟨2,[[.int 0,.nil 1]]⟩)] 3) (bP (bG k2) (bO k<|aQ) k4)<|aE<|aC<|sp h (bD k k k (cU k (bL (yU (aU (k) (aU (k) fA))) (bL (k) eG))))) λq2 h=>?_;exact aV 12 k q2<|am k k<|lp k8<|oB h λv3 hv3 h=>ae (aS (aAH a0 a2 v3 hv3) k (cJ k (aL (eV k) aO))) k<|ae (dI k) k<|pk k3<|am k k<|sP h (λq4 h=>aV 18 k q4<|aK k4<|aK k4<|ak k k<|pk k3<|an<|tn<|dO k k<|sR<|ae (fW aJ k k k k k k) k<|ae (ws k) k<|aT k2<|aI (t:=mN [(6,.ptr 2 0 0),(7,.bl false)] [(2,⟨2,[[.int 0,.nil 1]]⟩)] 3) (bP (bG k2) (bO k<|aQ) k4)<|aE<|aC<|sp h (bD k k k (cU k (bL (yU (aU (k) (aU (k) fA))) (bL (k) eG))))) λq4 h=>aV 18 k q4<|fp k8<|lp k8<|fp k8<|lp k8<|cm k4<|pk k3<|an<|tn<|cN k h (λ_ h=>sR<|ae (fW aJ k k k k k k) k<|ae (ws k) k<|aT k2<|aI (t:=mN [(6,.ptr 2 0 0),(7,.bl false)] [(2,⟨2,[[.int 0,.nil 1]]⟩)] 3) (bP (bG k2) (bO k<|aQ) k4)<|aE<|aC<|sp h (bD k k k (cU k (bL (yU (aU (k) (aU (k) fA))) (bL (k) eG))))) λ_ h=>aG<|tn<|sQ<|aP fB<|am k k<|fp k8<|lp k8<|ae (wl k) k<|fp k8<|lp k8<|cG h λq6 h=>ae (qV aJ (l:=([]:(List (List Int)))) (m:=a1.basis) cB q6 k k k k k k k k k k k k) k<|fp k8<|lp k8<|cG h λq7 h=>ae (qV aJ (l:=(([]:(List (List Int)))++a1.basis)) (m:=a2.basis) cB q7 k k k k k k k k k k k k) k<|oB h λv8 hv8 h=>ae (cS (aAu a0 a1.size ((([]:(List (List Int)))++a1.basis)++a2.basis) v8 hv8) k3 (cJ k (cJ k (aL (aXm cB k k) aO)))) k<|ae (ws k) k<|aa k k<|an<|lL (by kernel_rfl)<|tn<|aI (t:=mN [(6,.ptr 2 0 0),(7,.bl true)] [(2,⟨2,[oSc v8 6]⟩),(6,⟨1,v8.basis.map (ow (dQ 1 eI))⟩)] 7) (bP (bG k2) (eJ k<|bW (cB.plainO _) k<|aQ) k4)<|aE<|sp h (bD k k k (cU k (bL (yU (aU (k) (aU (cW cB k k) fA))) (bL (k) eG))))
def yC (a0:Int) (a1:Sc) (a2:Sc):Option Bool:=
 (aAi a0 a1 a2).bind λv1=>
 bif v1.2 then
 (some (decide (((v1.1.basis.length:Nat):Int)=(a2.basis.length:Int))))
 else
 (some (false))
theorem aJI (a0:Int) (a1:Sc) (a2:Sc) (r:Bool) (h:yC a0 a1 a2=some r):HasC Tryz.prog 221 [.int a0,.agg (eS a1),.agg (eS a2)] (.bl r):=by
 exact hM [.tmp 6] Tryz.func221 Tryz.ntmps221 k<|sR<|ae (wb k) k<|ae (wb k) k<|aT k2<|sR<|am k k<|lp k8<|lp k8<|oB h λv1 hv1 h=>ae (AEff.conv (jE (x:= .tuple [.agg [.int v1.1.size,.own 2 0 (v1.1.basis.map (dQ 1 eI)).length],.bl v1.2]) (nb:=[(2,⟨1,cF (v1.1.basis.map (dQ 1 eI))⟩)]) (aIB a0 a1 a2 v1 hv1) k (by rfl) k k (dE (bU aQ (bU (cB.good _) tC)) (dE aQ qD)) (cJ k (aL (eV k) (aL (eV k) aO)))) (v':= .tuple [.agg [.int v1.1.size,.own 2 0 v1.1.basis.length],.bl v1.2]) (ed':=[(2,some ⟨1,v1.1.basis.map (ow (dQ 1 eI))⟩)]) (by simp only [aH]) (pE (nb':=[(2,⟨1,v1.1.basis.map (ow (dQ 1 eI))⟩)]) (by simp only [dX]))) k<|am k k<|ae (bA k k (by intro _ h;cases h)) k<|ae (bA k k (by intro _ h;cases h)) k<|ae (bX aJ k k) k<|ae (ws k) k<|aT k2<|sR<|am k k<|am k k<|sP h (λq2 h=>aV 17 k q2<|fp k8<|lp k8<|ae (dR aJ k k k k) k<|fp k8<|lp k8<|ln k4<|cm k4<|pk k3<|aT k2<|aE<|gK h k2) λq2 h=>aV 17 k q2<|aK k4<|aK k4<|aK k4<|ak k k<|pk k3<|aT k2<|aE<|gK h k2
def yD (a0:Rp) (a1:(List Sc)) (x1:Int):Option (Int ⊕ (Unit ⊕ Bool)):=
 bif decide (x1<(a1.length:Int)) then
 ((cY a1 x1).bind λv5=>
 (mD a0.p v5).bind λv6=>
 bif !v6 then
 (some (.inr (.inr (false))))
 else
 ((cY a1 x1).bind λv8=>
 (cY a0.dims x1).bind λv9=>
 bif !decide (v8.size=v9) then
 (some (.inr (.inr (false))))
 else
 (some (.inl (wr (x1+1))))))
 else
 (some (.inr (.inl ())))
def yE (a0:Rp) (a1:(List Sc)) (x2:Int):Option (Int ⊕ (Unit ⊕ Bool)):=
 bif decide (x2<(a0.maps.length:Int)) then
 ((cY a0.maps x2).bind λv14=>
 (cY a0.q.src x2).bind λv15=>
 (cY a1 v15).bind λv16=>
 (pN a0.p v14 v16).bind λv17=>
 (cY a0.q.tgt x2).bind λv18=>
 (cY a1 v18).bind λv19=>
 (yC a0.p v17.1 v19).bind λv20=>
 bif !v20 then
 (some (.inr (.inr (false))))
 else
 (some (.inl (wr (x2+1)))))
 else
 (some (.inr (.inl ())))
def aBr (a0:Rp) (a1:(List Sc)):Option Bool:=
 (jQ a0).bind λv1=>
 bif !v1 then
 (some (false))
 else
 (bif !decide ((a1.length:Int)=(a0.dims.length:Int)) then
 (some (false))
 else
 ((Lp (yD a0 a1) 0).bind λy11=>
 Sum.elim (λy12=>
 (Lp (yE a0 a1) 0).bind λy22=>
 Sum.elim (λy23=>
 some (true)
 )
 (λy24=>
 some y24
 )
 y22
 )
 (λy25=>
 some y25
 )
 y11))
theorem aNe (a0:Rp) (a1:(List Sc)) (r:Bool) (h:aBr a0 a1=some r):HasC Tryz.prog 185 [.agg (eR a0),.list 2 (a1.map eS)] (.bl r):=by
 refine hM [.tmp 4] Tryz.func185 Tryz.ntmps185 k<|sR<|ae (wb k) k<|aT k2<|sQ<|sR<|lp k8<|oB h λv1 hv1 h=>ae (aS (rK a0 v1 hv1) k (aL (eV k) aO)) k<|ae (dI k) k<|am k k<|sP h (λq2 h=>aV 12 k q2<|aK k4<|aK k4<|aK k4<|pk k3<|an<|tn<|dO k k<|sR<|aT k2<|aE<|aC<|gK h k2) λq2 h=>?_;refine aV 12 k q2<|am k k<|ln k4<|fp k8<|lp k8<|ln k4<|cm k4<|pk k3<|an<|tn<|cN k h (λ_ h=>sR<|aT k2<|aE<|aC<|gK h k2) λ_ h=>?_;refine aG<|tn<|sQ<|sR<|aT k2<|aD<|oB h λy11 hy11 h=>cC (body:=(yD a0 a1)) hy11 (λ(x1:Int)=>mN [(1,.list 2 (a1.map eS)),(2,.ptr 0 0 0),(5,.int x1)] [(0,⟨6,[eR a0]⟩)] 1) (λr e t=>Sum.elim (λa=>(λr e t=>e= .exit 0∧Ent t (mN [(1,.list 2 (a1.map eS)),(2,.ptr 0 0 0)] [(0,⟨6,[eR a0]⟩)] 1)) a e t) (λb=>(λr e t=>e= .ret∧mW TT [.tmp 4] (.bl r) .ret t) b e t) r) (bP (bG k2) (bO k<|aQ) k4) ?_ ?_
 ·intro x1 o h;exact sQ<|sR<|am k k<|am k k<|ln k4<|cm k4<|an<|tn<|cN k h (λ_ h=>aG<|tn<|sQ<|aD<|sQ<|aP fB<|fp k8<|lp k8<|am k k<|am k k<|oB h λv5 hv5 h=>ae (xl hv5 k) k<|lr k7<|oB h λv6 hv6 h=>ae (aS (aAH a0.p v5 v6 hv6) k (cJ k (aL (eV k) aO))) k<|ae (dI k) k<|am k k<|sP h (λq7 h=>aV 34 k q7<|aK k4<|aK k4<|aK k4<|aK k4<|aK k4<|ak k k<|pk k3<|an<|lL (by kernel_rfl)<|tn<|aI (t:=mN [(1,.list 2 (a1.map eS)),(2,.ptr 0 0 0),(5,.int x1),(46,.bl true)] [(0,⟨6,[eR a0]⟩)] 1) (bP (bG k2) (bO k<|aQ) k4)<|dO k k<|sR<|aT k2<|aE<|bC<|aC<|aC<|sp h ⟨_,k,k,bD k k k (lF k)⟩) λq7 h=>aV 34 k q7<|am k k<|am k k<|oB h λv8 hv8 h=>ae (xl hv8 k) k<|ae (dG aJ k k k k k k) k<|lr k7<|fp k8<|lp k8<|am k k<|oB h λv9 hv9 h=>ae (xl hv9 k) k<|lr k7<|cm k4<|pk k3<|an<|lL (by kernel_rfl)<|tn<|aI (t:=mN [(1,.list 2 (a1.map eS)),(2,.ptr 0 0 0),(5,.int x1),(46,.bl (!decide (v8.size=v9)))] [(0,⟨6,[eR a0]⟩)] 1) (bP (bG k2) (bO k<|aQ) k4)<|cN k h (λ_ h=>sR<|aT k2<|aE<|bC<|aC<|aC<|sp h ⟨_,k,k,bD k k k (lF k)⟩) λ_ h=>aG<|bB<|tn<|rg<|am k k<|ae (bF k k) k<|aT k2<|sp h ⟨_,k,(bP (bG k2) (bO k<|aQ) k4)⟩) λ_ h=>aY<|aB<|aB<|sp h ⟨_,k,k,(bP (bG k2) (bO k<|aQ) k4)⟩
 ·intro e t hX;rcases y11 with y12|y25
  ·obtain ⟨rfl,hent⟩:=hX;refine aN<|tn<|aI hent<|sQ<|sR<|aT k2<|aD<|oB h λy22 hy22 h=>cC (body:=(yE a0 a1)) hy22 (λ(x2:Int)=>mN [(1,.list 2 (a1.map eS)),(2,.ptr 0 0 0),(6,.int x2)] [(0,⟨6,[eR a0]⟩)] 1) (λr e t=>Sum.elim (λa=>(λr e t=>e= .exit 2∧Ent t (mN [] [] 0)) a e t) (λb=>(λr e t=>e= .ret∧mW TT [.tmp 4] (.bl r) .ret t) b e t) r) (bP (bG k2) (bO k<|aQ) k4) ?_ ?_
   ·intro x2 o h;refine sQ<|sR<|am k k<|fp k8<|lp k8<|ln k4<|cm k4<|an<|tn<|cN k h (λ_ h=>?_) λ_ h=>aY<|aB<|aB<|sp h ⟨_,k,k,(bP aQ aQ k4)⟩;refine aG<|tn<|sQ<|aD<|sQ<|aP fB<|fp k8<|lp k8<|fp k8<|lp k8<|am k k<|oB h λv14 hv14 h=>ae (xl hv14 k) k<|lr k7<|am k k<|fp k8<|fp k8<|lp k8<|am k k<|oB h λv15 hv15 h=>ae (xl hv15 k) k<|lr k7<|oB h λv16 hv16 h=>ae (xl hv16 k) k<|lr k7<|oB h λv17 hv17 h=>ae (AEff.conv (jE (x:= .tuple [.agg [.int v17.1.size,.own 1 0 (v17.1.basis.map (dQ 1 eI)).length],.bl v17.2]) (nb:=[(1,⟨1,cF (v17.1.basis.map (dQ 1 eI))⟩)]) (aFb a0.p v14 v16 v17 hv17) k (by rfl) k k (dE (bU aQ (bU (cB.good _) tC)) (dE aQ qD)) (cJ k (aL (eV k) (aL (eV k) aO)))) (v':= .tuple [.agg [.int v17.1.size,.own 1 0 v17.1.basis.length],.bl v17.2]) (ed':=[(1,some ⟨1,v17.1.basis.map (ow (dQ 1 eI))⟩)]) (by simp only [aH]) (pE (nb':=[(1,⟨1,v17.1.basis.map (ow (dQ 1 eI))⟩)]) (by simp only [dX]))) k<|am k k<|ae (bA k k (by intro _ h;cases h)) k<|ae (bA k k (by intro _ h;cases h)) k<|ae (bX aJ k k) k<|ae (ws k) k<|aa k k ?_;exact an<|lL (by kernel_rfl)<|tn<|aI (t:=mN [(1,.list 2 (a1.map eS)),(2,.ptr 0 0 0),(6,.int x2),(7,.ptr 2 0 0)] [(0,⟨6,[eR a0]⟩),(1,⟨1,v17.1.basis.map (ow (dQ 1 eI))⟩),(2,⟨2,[oSc v17.1 1]⟩)] 3) (bP (bG k2) (bO k<|bW (cB.plainO _) k<|eJ k<|aQ) k4)<|sQ<|aP fB<|fp k8<|lp k8<|lp k8<|am k k<|fp k8<|fp k8<|lp k8<|am k k<|oB h λv18 hv18 h=>ae (xl hv18 k) k<|lr k7<|oB h λv19 hv19 h=>ae (xl hv19 k) k<|lr k7<|oB h λv20 hv20 h=>ae (aS (aJI a0.p v17.1 v19 v20 hv20) k (cJ k (aL (vaC k2) (aL (eV k) aO)))) k<|ae (dI k) k<|an<|lL (by kernel_rfl)<|tn<|cN k h (λ_ h=>sR<|aT k2<|aE<|bC<|aC<|aC<|sp h ⟨_,k,k,bD k k k (lF k)⟩) λ_ h=>aG<|bB<|tn<|rg<|am k k<|ae (bF k k) k<|aT k2<|sp h ⟨_,k,(bP (bG k2) (bO k<|aQ) k4)⟩
   ·intro e t hX;rcases y22 with y23|y24
    ·obtain ⟨rfl,hent⟩:=hX;exact aN<|tn<|aI hent<|sR<|aT k2<|aE<|gK h k2
    ·obtain ⟨rfl,hent⟩:=hX;exact bC<|aC<|sp h hent
  ·obtain ⟨rfl,hent⟩:=hX;exact bC<|aC<|sp h hent
def tQ (a0:Rp) (x1:(Int×Int)):Option ((Int×Int) ⊕ Int):=
 bif decide (x1.2<(a0.dims.length:Int)) then
 ((cY a0.dims x1.2).bind λv4=>
 some (.inl (wr (x1.1+v4),wr (x1.2+1))))
 else
 (some (.inr x1.1))
def uV (a0:Rp):Option Int:=
 (jQ a0).bind λv1=>
 bif !v1 then
 (some ((-1)))
 else
 ((Lp (tQ a0) (0,0)).bind λy5=>
 some (y5))
theorem aEt (a0:Rp) (r:Int) (h:uV a0=some r):HasC Tryz.prog 113 [.agg (eR a0)] (.int r):=by
 refine hM [.tmp 2] Tryz.func113 Tryz.ntmps113 k<|sR<|ae (wb k) k<|aT k2<|sQ<|sR<|lp k8<|oB h λv1 hv1 h=>ae (aS (rK a0 v1 hv1) k (aL (eV k) aO)) k<|ae (dI k) k<|an<|tn<|cN k h (λ_ h=>sR<|aT k2<|aE<|aC<|rtI h k2) λ_ h=>?_;refine aG<|tn<|sR<|aT k2<|sQ<|sR<|aT k2<|aD<|oB h λy5 hy5 h=>cC (body:=(tQ a0)) hy5 (λ(x1:(Int×Int))=>mN [(1,.ptr 0 0 0),(3,.int x1.1),(4,.int x1.2)] [(0,⟨6,[eR a0]⟩)] 1) (λr e t=>e= .exit 0∧Ent t (mN [(3,.int r)] [] 0)) (bP (bG k2) (bO k<|aQ) k4) ?_ ?_
 ·intro x1 o h;exact sQ<|sR<|am k k<|fp k8<|lp k8<|ln k4<|cm k4<|an<|tn<|cN k h (λ_ h=>aG<|tn<|sQ<|aD<|rg<|am k k<|fp k8<|lp k8<|am k k<|oB h λv4 hv4 h=>ae (xl hv4 k) k<|lr k7<|ae (bF k k) k<|aa k k<|an<|bB<|tn<|rg<|am k k<|ae (bF k k) k<|aT k2<|sp h ⟨_,k,(bP (bG k2) (bO k<|aQ) k4)⟩) λ_ h=>aY<|aB<|aB<|sp h ⟨_,k,k,(bP (bG k2) aQ k4)⟩
 ·rintro e t ⟨rfl,hent⟩;exact aN<|tn<|aI hent<|sR<|am k k<|aT k2<|aE<|rtI h k2
end
noncomputable section
set_option maxRecDepth 10000
set_option maxHeartbeats 4000000
def tR (a0:(List Sc)) (x1:((List Int)×Int)):Option (((List Int)×Int) ⊕ (List Int)):=
 bif decide (x1.2<(a0.length:Int)) then
 ((cY a0 x1.2).bind λv2=>
 bif decide (x1.1.length+[(v2.basis.length:Int)].length ≤4294967296) then
 (some (.inl ((x1.1++[(v2.basis.length:Int)]),wr (x1.2+1))))
 else none)
 else
 (some (.inr x1.1))
def qM (a0:(List Sc)):Option (List Int):=
 (Lp (tR a0) ([],0)).bind λy4=>
 some (y4)
theorem aCO (a0:(List Sc)) (r:(List Int)) (h:qM a0=some r):HasC Tryz.prog 195 [.list 2 (a0.map eS)] (.list 1 (r.map eI)):=by
 refine hM [.tmp 2] Tryz.func195 Tryz.ntmps195 k<|sR<|aT k2<|sR<|aT k2<|sQ<|sR<|am k k<|ln k4<|am k k<|an<|tn<|aD<|oB h λy4 hy4 h=>cC (body:=(tR a0)) hy4 (λ(x1:((List Int)×Int))=>mN [(3,.own 0 0 x1.1.length),(6,.list 2 (a0.map eS)),(7,.int (a0.length:Int)),(8,.int x1.2)] [(0,⟨1,x1.1.map (ow eI)⟩)] 1) (λr e t=>e= .exit 0∧Ent t (mN [(3,.own 0 0 r.length)] [(0,⟨1,r.map (ow eI)⟩)] 1)) (eY (σ:=sg []) (gH ⟨_,k,⟨k,k,k,k⟩⟩ (bG k2)) (hX k k<|aQ) k) ?_ ?_
 ·intro x1 o h;exact sR<|cm k4<|an<|tn<|sQ<|cN k h (λ_ h=>aG<|tn<|sQ<|aD<|sR<|oB h λv2 hv2 h=>ae (xl hv2 k) k<|lr k7<|ae (bX aJ k k) k<|ae (ws k) k<|an<|tn<|rg<|am k k<|fp k8<|lp k8<|ln k4<|ae (wl k) k<|cG h λq3 h=>ae (qV aJ (l:=x1.1) (m:=[(v2.basis.length:Int)]) kH q3 k k k k k k k k k k k k) k<|aa k k<|an<|bB<|tn<|rg<|ae (bF k k) k<|am k k<|an<|tn<|sp h ⟨_,k,(gT [3] (bG k2) (bN k<|aQ) k4)⟩) λ_ h=>aY<|aB<|aB<|sp h ⟨_,k,k,(bP (bG k2) (bN k<|aQ) k4)⟩
 ·rintro e t ⟨rfl,hent⟩;exact aN<|tn<|aI hent<|sR<|am k k<|aT k2<|aE<|sp h (bD k k k (fH (cW cA k k)))
end
noncomputable section
set_option maxRecDepth 10000
set_option maxHeartbeats 4000000
def tS (a0:(List (List Int))) (a1:(List (List Int))) (x1:Int):Option (Int ⊕ (Unit ⊕ Bool)):=
 bif decide (x1<(a0.length:Int)) then
 ((cY a0 x1).bind λv3=>
 (cY a1 x1).bind λv4=>
 (lK v3 v4).bind λv5=>
 bif !v5 then
 (some (.inr (.inr (false))))
 else
 (some (.inl (wr (x1+1)))))
 else
 (some (.inr (.inl ())))
def aAJ (a0:(List (List Int))) (a1:(List (List Int))):Option Bool:=
 bif !decide ((a0.length:Int)=(a1.length:Int)) then
 (some (false))
 else
 ((Lp (tS a0 a1) 0).bind λy7=>
 Sum.elim (λy8=>
 some (true)
 )
 (λy9=>
 some y9
 )
 y7)
theorem aKu (a0:(List (List Int))) (a1:(List (List Int))) (r:Bool) (h:aAJ a0 a1=some r):HasC Tryz.prog 168 [.list 1 (a0.map (dQ 1 eI)),.list 1 (a1.map (dQ 1 eI))] (.bl r):=by
 refine hM [.tmp 4] Tryz.func168 Tryz.ntmps168 k<|sR<|aT k2<|sQ<|sR<|am k k<|ln k4<|am k k<|ln k4<|cm k4<|an<|tn<|cN k h (λ_ h=>sR<|aT k2<|aE<|aC<|gK h k2) λ_ h=>?_;refine aG<|tn<|sQ<|sR<|aT k2<|aD<|oB h λy7 hy7 h=>cC (body:=(tS a0 a1)) hy7 (λ(x1:Int)=>mN [(0,.list 1 (a0.map (dQ 1 eI))),(1,.list 1 (a1.map (dQ 1 eI))),(5,.int x1)] [] 0) (λr e t=>Sum.elim (λa=>(λr e t=>e= .exit 0∧Ent t (mN [] [] 0)) a e t) (λb=>(λr e t=>e= .ret∧mW TT [.tmp 4] (.bl r) .ret t) b e t) r) (bP (bG k2) aQ k4) ?_ ?_
 ·intro x1 o h;exact sQ<|sR<|am k k<|am k k<|ln k4<|cm k4<|an<|tn<|cN k h (λ_ h=>aG<|tn<|sQ<|aD<|sQ<|aP fB<|am k k<|am k k<|oB h λv3 hv3 h=>ae (xl hv3 k) k<|lr k7<|am k k<|am k k<|oB h λv4 hv4 h=>ae (xl hv4 k) k<|lr k7<|oB h λv5 hv5 h=>ae (aS (sT v3 v4 v5 hv5) k (cJ k (cJ k aO))) k<|ae (dI k) k<|an<|lL (by kernel_rfl)<|tn<|cN k h (λ_ h=>sR<|aT k2<|aE<|bC<|aC<|aC<|sp h ⟨_,k,k,bD k k k (lF k)⟩) λ_ h=>aG<|bB<|tn<|rg<|am k k<|ae (bF k k) k<|aT k2<|sp h ⟨_,k,(bP (bG k2) aQ k4)⟩) λ_ h=>aY<|aB<|aB<|sp h ⟨_,k,k,(bP aQ aQ k4)⟩
 ·intro e t hX;rcases y7 with y8|y9
  ·obtain ⟨rfl,hent⟩:=hX;exact aN<|tn<|aI hent<|sR<|aT k2<|aE<|gK h k2
  ·obtain ⟨rfl,hent⟩:=hX;exact bC<|aC<|sp h hent
def aAK (a0:Sc) (a1:Sc):Option Bool:=
 bif !decide (a0.size=a1.size) then
 (some (false))
 else
 ((aAJ a0.basis a1.basis).bind λv2=>
 bif !v2 then
 (some (false))
 else
 (some (true)))
theorem aKv (a0:Sc) (a1:Sc) (r:Bool) (h:aAK a0 a1=some r):HasC Tryz.prog 124 [.agg (eS a0),.agg (eS a1)] (.bl r):=by
 exact hM [.tmp 4] Tryz.func124 Tryz.ntmps124 k<|sR<|ae (wb k) k<|ae (wb k) k<|aT k2<|sQ<|sR<|fp k8<|lp k8<|fp k8<|lp k8<|cm k4<|an<|tn<|cN k h (λ_ h=>sR<|aT k2<|aE<|aC<|gK h k2) λ_ h=>aG<|tn<|sQ<|sR<|fp k8<|lp k8<|fp k8<|lp k8<|oB h λv2 hv2 h=>ae (aS (aKu a0.basis a1.basis v2 hv2) k (cJ k (cJ k aO))) k<|ae (dI k) k<|an<|tn<|cN k h (λ_ h=>sR<|aT k2<|aE<|aC<|gK h k2) λ_ h=>aG<|tn<|sR<|aT k2<|aE<|gK h k2
def rT (a0:(List Sc)) (a1:(List Sc)) (x1:Int):Option (Int ⊕ (Unit ⊕ Bool)):=
 bif decide (x1<(a0.length:Int)) then
 ((cY a0 x1).bind λv3=>
 (cY a1 x1).bind λv4=>
 (aAK v3 v4).bind λv5=>
 bif !v5 then
 (some (.inr (.inr (false))))
 else
 (some (.inl (wr (x1+1)))))
 else
 (some (.inr (.inl ())))
def yF (a0:(List Sc)) (a1:(List Sc)):Option Bool:=
 bif !decide ((a0.length:Int)=(a1.length:Int)) then
 (some (false))
 else
 ((Lp (rT a0 a1) 0).bind λy7=>
 Sum.elim (λy8=>
 some (true)
 )
 (λy9=>
 some y9
 )
 y7)
theorem aJJ (a0:(List Sc)) (a1:(List Sc)) (r:Bool) (h:yF a0 a1=some r):HasC Tryz.prog 66 [.list 2 (a0.map eS),.list 2 (a1.map eS)] (.bl r):=by
 refine hM [.tmp 4] Tryz.func66 Tryz.ntmps66 k<|sR<|aT k2<|sQ<|sR<|am k k<|ln k4<|am k k<|ln k4<|cm k4<|an<|tn<|cN k h (λ_ h=>sR<|aT k2<|aE<|aC<|gK h k2) λ_ h=>?_;refine aG<|tn<|sQ<|sR<|aT k2<|aD<|oB h λy7 hy7 h=>cC (body:=(rT a0 a1)) hy7 (λ(x1:Int)=>mN [(0,.list 2 (a0.map eS)),(1,.list 2 (a1.map eS)),(5,.int x1)] [] 0) (λr e t=>Sum.elim (λa=>(λr e t=>e= .exit 0∧Ent t (mN [] [] 0)) a e t) (λb=>(λr e t=>e= .ret∧mW TT [.tmp 4] (.bl r) .ret t) b e t) r) (bP (bG k2) aQ k4) ?_ ?_
 ·intro x1 o h;exact sQ<|sR<|am k k<|am k k<|ln k4<|cm k4<|an<|tn<|cN k h (λ_ h=>aG<|tn<|sQ<|aD<|sQ<|aP fB<|am k k<|am k k<|oB h λv3 hv3 h=>ae (xl hv3 k) k<|lr k7<|am k k<|am k k<|oB h λv4 hv4 h=>ae (xl hv4 k) k<|lr k7<|oB h λv5 hv5 h=>ae (aS (aKv v3 v4 v5 hv5) k (aL (eV k) (aL (eV k) aO))) k<|ae (dI k) k<|an<|lL (by kernel_rfl)<|tn<|cN k h (λ_ h=>sR<|aT k2<|aE<|bC<|aC<|aC<|sp h ⟨_,k,k,bD k k k (lF k)⟩) λ_ h=>aG<|bB<|tn<|rg<|am k k<|ae (bF k k) k<|aT k2<|sp h ⟨_,k,(bP (bG k2) aQ k4)⟩) λ_ h=>aY<|aB<|aB<|sp h ⟨_,k,k,(bP aQ aQ k4)⟩
 ·intro e t hX;rcases y7 with y8|y9
  ·obtain ⟨rfl,hent⟩:=hX;exact aN<|tn<|aI hent<|sR<|aT k2<|aE<|gK h k2
  ·obtain ⟨rfl,hent⟩:=hX;exact bC<|aC<|sp h hent
end
noncomputable section
set_option maxRecDepth 10000
set_option maxHeartbeats 4000000
def rU (x1:((List Int)×Int×Int)):Option (((List Int)×Int×Int) ⊕ ((List Int)×Int)):=
 bif decide (x1.2.2<((x1.1.length:Nat):Int)) then
 ((cY x1.1 x1.2.2).bind λv2=>
 some (.inl ((x1.1.set x1.2.2.toNat x1.2.1),wr (x1.2.1+1),wr (x1.2.2+1))))
 else
 (some (.inr (x1.1,x1.2.1)))
def fJ (a0:(List Int)) (a1:Int):Option ((List Int)×Int):=
 (Lp rU (a0,a1,0)).bind λy3=>
 some (y3.1,y3.2)
theorem gY (a0:(List Int)) (a1:Int) (r:((List Int)×Int)) (h:fJ a0 a1=some r):HasE Tryz.prog 16 [.own 0 0 a0.length,.int a1] [(0,⟨1,a0.map (ow eI)⟩)] 1 (.int r.2) [(0,⟨1,r.1.map (ow eI)⟩)]:=by
 refine aBf aJ (rvs:=[.tmp 4]) (ns:=nmA.drop 1) Tryz.func16 k k Tryz.ntmps16 k k<|sR<|aT k2<|sQ<|sR<|aT k2<|aD<|oB h λy3 hy3 h=>cC (body:=rU) hy3 (λ(x1:((List Int)×Int×Int))=>mN [(0,.own 0 0 x1.1.length),(1,.int x1.2.1),(5,.int x1.2.2)] [(0,⟨1,x1.1.map (ow eI)⟩)] 1 1) (λr e t=>e= .exit 0∧Ent t (mN [(1,.int r.2)] [(0,⟨1,r.1.map (ow eI)⟩)] 1 1)) (bP (bG k2) (bN k<|aQ) k4) ?_ ?_
 ·intro x1 o h;exact sQ<|sR<|am k k<|am k k<|ae (dR aJ k k k k) k<|cm k4<|an<|tn<|cN k h (λ_ h=>aG<|tn<|sQ<|aD<|sR<|am k k<|am k k<|am k k<|oB h λv2 hv2 h=>ae (xo hv2 k) k<|ae (gL aJ kH (u:=x1.2.1) (dF hv2) k k k k k k) k<|an<|tn<|rg<|am k k<|ae (bF k k) k<|aa k k<|an<|bB<|tn<|rg<|am k k<|ae (bF k k) k<|aT k2<|sp h ⟨_,k,(bP (gH ⟨_,k,⟨k,k,(by simp only [aH,lA,lT,lR,lC,lN]),k⟩⟩ (bG k2)) (bN k<|aQ) k4)⟩) λ_ h=>aY<|aB<|aB<|sp h ⟨_,k,k,(bP (bG k2) (bN k<|aQ) k4)⟩
 ·rintro e t ⟨rfl,hent⟩;exact aN<|tn<|aI hent<|sR<|am k k<|aT k2<|aE<|sp h ⟨mN [(4,.int y3.2)] [(0,⟨1,y3.1.map (ow eI)⟩)] 1 1,(bP (bG k2) (bN k<|aQ) k4),k,⟨_,k,.inl k⟩,⟨k,aQ⟩⟩
def pO (x1:((List (List Int))×Int×Int)):Option (((List (List Int))×Int×Int) ⊕ ((List (List Int))×Int)):=
 bif decide (x1.2.2<((x1.1.length:Nat):Int)) then
 ((cY x1.1 x1.2.2).bind λv2=>
 (fJ v2 x1.2.1).bind λv3=>
 bif decide (v3.1.length=v2.length) then
 (some (.inl ((x1.1.set x1.2.2.toNat v3.1),v3.2,wr (x1.2.2+1))))
 else none)
 else
 (some (.inr (x1.1,x1.2.1)))
def vR (a0:(List (List Int))) (a1:Int):Option ((List (List Int))×Int):=
 (Lp pO (a0,a1,0)).bind λy5=>
 some (y5.1,y5.2)
theorem aIC (a0:(List (List Int))) (a1:Int) (r:((List (List Int))×Int)) (h:vR a0 a1=some r):HasT Tryz.prog 125 [.own 0 0 a0.length,.int a1] [(0,⟨1,a0.map (ow (dQ 1 eI))⟩)] 1 (.int r.2) [(0,⟨1,r.1.map (ow (dQ 1 eI))⟩)]:=by
 refine aDw aJ (rvs:=[.tmp 4]) (ns:=nmA.drop 1) Tryz.func125 k k Tryz.ntmps125 k k<|sS<|jY k2<|sn<|tn<|sQ<|sS<|jY k2<|sn<|tn<|aD<|oB h λy5 hy5 h=>cC (body:=pO) hy5 (λ(x1:((List (List Int))×Int×Int))=>mN [(0,.own 0 0 x1.1.length),(1,.int x1.2.1),(5,.int x1.2.2)] [(0,⟨1,x1.1.map (ow (dQ 1 eI))⟩)] 1 ⟨1,true,none,true⟩) (λr e t=>e= .exit 0∧Ent t (mN [(1,.int r.2)] [(0,⟨1,r.1.map (ow (dQ 1 eI))⟩)] 1 ⟨1,true,none,true⟩)) (bP (bG k2) (bW (cB.plainO _) k<|aQ) k4) ?_ ?_
 ·intro x1 o h;refine sQ<|sS<|gJ k2<|gJ k2<|se (dR aJ k k k k) k<|cmS k4<|sn<|tn<|cN k h (λ_ h=>?_) λ_ h=>aY<|aB<|aB<|sp h ⟨_,k,k,(bP (bG k2) (bW (cB.plainO _) k<|aQ) k4)⟩;exact aG<|tn<|sQ<|aD<|rgS<|gJ k2<|gJ k2<|oB h λv2 hv2 h=>dS (t:=mN [(0,.own 0 0 x1.1.length),(1,.int x1.2.1),(5,.int x1.2.2),(6,.int x1.2.2),(7,.own 0 0 x1.1.length),(8,.int ((x1.1.length:Nat):Int)),(9,.bl (decide (x1.2.2<((x1.1.length:Nat):Int)))),(12,.own 0 0 x1.1.length),(13,.int x1.2.2)] [(0,⟨1,(x1.1.map (ow (dQ 1 eI))).set x1.2.2.toNat [.abs 1 (v2.map eI)]⟩)] 1 ⟨1,true,none,true⟩) (bP (bG k2) (hX ⟨_,k,k,.inl ⟨zW (dF hv2),vB cB k⟩⟩ k<|aQ) k4)<|dS (qE (b:=0) (c:=1) (i:=x1.2.2.toNat) (j:=0) (n:=v2.length) (A:=x1.1.map (ow (dQ 1 eI))) (fs:=v2.map (ow eI)) (by rw [dC];exact eX hv2) k k k k (aH _ _) (dX _ _) (lU ⟨k,k,k,k,k,k,k,k,k,aQ⟩) (lW (skip:=[]) ⟨.inr (cB.dfS _ _ _ k),aQ⟩))<|dS (t:=mN [(0,.own 0 0 x1.1.length),(1,.int x1.2.1),(5,.int x1.2.2),(6,.int x1.2.2),(7,.own 0 0 x1.1.length),(8,.int ((x1.1.length:Nat):Int)),(9,.bl (decide (x1.2.2<((x1.1.length:Nat):Int)))),(12,.own 0 0 x1.1.length),(13,.int x1.2.2)] [(0,⟨1,(x1.1.map (ow (dQ 1 eI))).set x1.2.2.toNat [.own 1 0 v2.length]⟩),(1,⟨1,v2.map (ow eI)⟩)] 2 ⟨1,true,none,true⟩) (eY (σ:=sg [(0,0),(1,1)]) (bG k2) (hX ⟨_,k,k,.inr (tF (σ:=sg [(0,0),(1,1)]) (m:=2) (e:=(dQ 1 eI)) (l:=x1.1) (i:=x1.2.2.toNat) (c:=[.own 1 0 v2.length]) (d:=[.own 1 0 v2.length]) cB ⟨_,_,k,⟨k,k,k,k⟩,k⟩)⟩ k<|bN k<|aQ) k)<|se (xo hv2 k) k<|se (dK aJ k k k k (aBR (eX hv2)) k k) k<|gJ k2<|oB h λv3 hv3 h=>se (gP (σ:=sg [(0,1)]) (σ':=sg [(1,0)]) (touch:=[1]) (news:=[]) (hl2:=[(1,⟨1,v3.1.map (ow eI)⟩)]) (n':=2) (r2:= .int v3.2) (gY v2 x1.2.1 v3 hv3) k k ⟨_,_,k,⟨k,k,k,k⟩,⟨_,_,k,k,k⟩⟩ ⟨⟨_,k,k,.inl ⟨k,cA.plainO _⟩⟩,k,aQ⟩ k k k ⟨⟨_,k,k,.inl ⟨k,cA.plainO _⟩⟩,k,aQ⟩ k k k ⟨k,cA.tame _ _,aQ⟩ k k) k<|cG h λq4 h=>jY k2<|sn<|bB<|tn<|rgS<|gJ k2<|se (bF k k) k<|jY k2<|sn<|tn<|sp h ⟨_,k,(Ent.trans (show Ent _ (mN [(0,.own 0 0 ((x1.1.set x1.2.2.toNat v3.1).length)),(1,.int v3.2),(5,.int (wr (x1.2.2+1)))] [(0,⟨1,List.map (ow (dQ 1 eI)) (x1.1.set x1.2.2.toNat v3.1)⟩)] 2 ⟨1,true,none,true⟩) from (Ent.trans (qC (b:=0) (b':=1) (j:=0) (es':=v3.1.map eI) (by rw [dC];exact eX hv2) k k k k (by simp only [aH,lA,lT,lR,lC,lN,of_decide_eq_true q4]) (cA.frzs _)) (bP (gH ⟨_,k,⟨k,k,(by simp only [aH,lA,lT,lR,lC,lN,of_decide_eq_true q4]),k⟩⟩ (bG k2)) (hX ⟨_,k,k,.inl ⟨aCF v3.1 k,cB.plainO _⟩⟩ k<|aQ) k4))) (bP (bG k2) (bW (cB.plainO _) k<|aQ) k4))⟩
 ·rintro e t ⟨rfl,hent⟩;exact aN<|tn<|aI hent<|sS<|gJ k2<|jY k2<|sn<|tn<|aE<|sp h ⟨mN [(4,.int y5.2)] [(0,⟨1,y5.1.map (ow (dQ 1 eI))⟩)] 1 ⟨1,true,none,true⟩,(bP (bG k2) (bW (cB.plainO _) k<|aQ) k4),k,⟨_,k,.inl k⟩,⟨k,aQ⟩⟩
def oH (x1:((List Sc)×Int×Int)):Option (((List Sc)×Int×Int) ⊕ ((List Sc)×Int)):=
 bif decide (x1.2.2<((x1.1.length:Nat):Int)) then
 ((cY x1.1 x1.2.2).bind λv2=>
 (vR v2.basis (wr (x1.2.1+1))).bind λv3=>
 bif decide (v3.1.length=v2.basis.length) then
 (some (.inl ((x1.1.set x1.2.2.toNat (⟨x1.2.1,v3.1⟩:Sc)),v3.2,wr (x1.2.2+1))))
 else none)
 else
 (some (.inr (x1.1,x1.2.1)))
def tT (a0:(List Sc)) (a1:Int):Option ((List Sc)×Int):=
 (Lp oH (a0,a1,0)).bind λy5=>
 some (y5.1,y5.2)
theorem aHD (a0:(List Sc)) (a1:Int) (r:((List Sc)×Int)) (h:tT a0 a1=some r):HasT Tryz.prog 69 [.own 0 0 a0.length,.int a1] [(0,⟨2,a0.map (ow eS)⟩)] 1 (.int r.2) [(0,⟨2,r.1.map (ow eS)⟩)]:=by
 refine aDw aJ (rvs:=[.tmp 4]) (ns:=nmA.drop 1) Tryz.func69 k k Tryz.ntmps69 k k<|sS<|jY k2<|sn<|tn<|sQ<|sS<|jY k2<|sn<|tn<|aD<|oB h λy5 hy5 h=>cC (body:=oH) hy5 (λ(x1:((List Sc)×Int×Int))=>mN [(0,.own 0 0 x1.1.length),(1,.int x1.2.1),(5,.int x1.2.2)] [(0,⟨2,x1.1.map (ow eS)⟩)] 1 ⟨1,true,none,true⟩) (λr e t=>e= .exit 0∧Ent t (mN [(1,.int r.2)] [(0,⟨2,r.1.map (ow eS)⟩)] 1 ⟨1,true,none,true⟩)) (bP (bG k2) (bW (cV.plainO _) k<|aQ) k4) ?_ ?_
 ·intro x1 o h;refine sQ<|sS<|gJ k2<|gJ k2<|se (dR aJ k k k k) k<|cmS k4<|sn<|tn<|cN k h (λ_ h=>?_) λ_ h=>aY<|aB<|aB<|sp h ⟨_,k,k,(bP (bG k2) (bW (cV.plainO _) k<|aQ) k4)⟩;refine aG<|tn<|sQ<|aD<|sS<|gJ k2<|gJ k2<|gJ k2<|oB h λv2 hv2 h=>dS (t:=mN [(0,.own 0 0 x1.1.length),(1,.int x1.2.1),(5,.int x1.2.2),(6,.int x1.2.2),(7,.own 0 0 x1.1.length),(8,.int ((x1.1.length:Nat):Int)),(9,.bl (decide (x1.2.2<((x1.1.length:Nat):Int)))),(12,.own 0 0 x1.1.length),(13,.int x1.2.2),(14,.int x1.2.1)] [(0,⟨2,(x1.1.map (ow eS)).set x1.2.2.toNat [.int v2.size,.abs 1 (v2.basis.map (dQ 1 eI))]⟩)] 1 ⟨1,true,none,true⟩) (bP (bG k2) (hX ⟨_,k,k,.inl ⟨zW (dF hv2),vB cV k⟩⟩ k<|aQ) k4)<|dS (qE (b:=0) (c:=1) (i:=x1.2.2.toNat) (j:=1) (n:=v2.basis.length) (A:=x1.1.map (ow eS)) (fs:=v2.basis.map (ow (dQ 1 eI))) (by rw [dC];exact eX hv2) k k k k (aH _ _) (dX _ _) (lU ⟨k,k,k,k,k,k,k,k,k,k,aQ⟩) (lW (skip:=[]) ⟨.inr (cV.dfS _ _ _ k),aQ⟩))<|dS (t:=mN [(0,.own 0 0 x1.1.length),(1,.int x1.2.1),(5,.int x1.2.2),(6,.int x1.2.2),(7,.own 0 0 x1.1.length),(8,.int ((x1.1.length:Nat):Int)),(9,.bl (decide (x1.2.2<((x1.1.length:Nat):Int)))),(12,.own 0 0 x1.1.length),(13,.int x1.2.2),(14,.int x1.2.1)] [(0,⟨2,(x1.1.map (ow eS)).set x1.2.2.toNat [.int v2.size,.own 1 0 v2.basis.length]⟩),(1,⟨1,v2.basis.map (ow (dQ 1 eI))⟩)] 2 ⟨1,true,none,true⟩) (eY (σ:=sg [(0,0),(1,1)]) (bG k2) (hX ⟨_,k,k,.inr (tF (σ:=sg [(0,0),(1,1)]) (m:=2) (e:=eS) (l:=x1.1) (i:=x1.2.2.toNat) (c:=[.int v2.size,.own 1 0 v2.basis.length]) (d:=[.int v2.size,.own 1 0 v2.basis.length]) cV ⟨_,_,k,k,⟨_,_,k,⟨k,k,k,k⟩,k⟩⟩)⟩ k<|bW (cB.plainO _) k<|aQ) k)<|se (xo hv2 k) k<|fpS k8<|se (aBJ aJ (A:=x1.1.map (ow eS)) (by rw [dC];exact eX hv2) k k k k k k k) k<|sn<|tn<|sS<|gJ k2<|se (bF k k) k<|jY k2<|sn<|tn<|rgS<|gJ k2<|gJ k2<|se (xo hv2 k) k<|fpS k8 ?_;exact se (dK aJ k k k k (aBR (eX hv2)) k k) k<|gJ k2<|oB h λv3 hv3 h=>dS (t:=mN [(0,.own 0 0 x1.1.length),(1,.int (wr (x1.2.1+1))),(5,.int x1.2.2),(6,.int x1.2.2),(7,.own 0 0 x1.1.length),(8,.int ((x1.1.length:Nat):Int)),(9,.bl (decide (x1.2.2<((x1.1.length:Nat):Int)))),(12,.own 0 0 x1.1.length),(13,.int x1.2.2),(14,.int x1.2.1),(15,.ptr 0 x1.2.2.toNat 0),(16,.ptr 0 x1.2.2.toNat 0),(17,.int x1.2.1),(18,.int (wr (x1.2.1+1))),(19,.own 0 0 x1.1.length),(20,.int x1.2.2),(21,.ptr 0 x1.2.2.toNat 0),(22,.ptr 0 x1.2.2.toNat 1),(23,.own 1 0 v2.basis.length),(24,.int (wr (x1.2.1+1)))] [(0,⟨2,(x1.1.map (ow eS)).set x1.2.2.toNat [.int x1.2.1,.own 1 0 v2.basis.length]⟩),(1,⟨1,v2.basis.map (ow (dQ 1 eI))⟩)] 2 ⟨1,true,none,true⟩) (eY (σ:=sg [(0,0),(1,1)]) (bG k2) (hX ⟨_,k,k,.inr (tF (σ:=sg [(0,0),(1,1)]) (m:=2) (e:=eS) (l:=x1.1) (i:=x1.2.2.toNat) (c:=[.int x1.2.1,.own 1 0 v2.basis.length]) (d:=[.int x1.2.1,.own 1 0 v2.basis.length]) cV ⟨_,_,k,k,⟨_,_,k,⟨k,k,k,k⟩,k⟩⟩)⟩ k<|bW (cB.plainO _) k<|aQ) k)<|aCH (σ:=sg [(0,1)]) (σ':=sg [(1,0)]) (touch:=[1]) (news:=[]) (hl2:=[(1,⟨1,v3.1.map (ow (dQ 1 eI))⟩)]) (n':=2) (r2:= .int v3.2) (aIC v2.basis (wr (x1.2.1+1)) v3 hv3) k k ⟨_,_,k,⟨k,k,k,k⟩,⟨_,_,k,k,k⟩⟩ ⟨⟨_,k,k,.inl ⟨k,cB.plainO _⟩⟩,k,aQ⟩ k k k ⟨⟨_,k,k,.inl ⟨k,cB.plainO _⟩⟩,k,aQ⟩ k k k ⟨k,cB.tame _ _,aQ⟩ k k k k k (lU ⟨k,k,k,k,k,k,k,k,k,k,k,k,k,k,k,k,k,k,k,k,aQ⟩) (lW (skip:=[1]) ⟨.inr (cV.dfS _ _ _ k),.inl (by decide),aQ⟩)<|cG h λq4 h=>jY k2<|sn<|bB<|tn<|rgS<|gJ k2<|se (bF k k) k<|jY k2<|sn<|tn<|sp h ⟨_,k,(Ent.trans (show Ent _ (mN [(0,.own 0 0 ((x1.1.set x1.2.2.toNat (⟨x1.2.1,v3.1⟩:Sc)).length)),(1,.int v3.2),(5,.int (wr (x1.2.2+1)))] [(0,⟨2,List.map (ow eS) (x1.1.set x1.2.2.toNat (⟨x1.2.1,v3.1⟩:Sc))⟩)] 2 ⟨1,true,none,true⟩) from (Ent.trans (qC (b:=0) (b':=1) (j:=1) (es':=v3.1.map (dQ 1 eI)) (by rw [dC];exact eX hv2) k k k k (by simp only [aH,lA,lT,lR,lC,lN,of_decide_eq_true q4]) (cB.frzs _)) (bP (gH ⟨_,k,⟨k,k,(by simp only [aH,lA,lT,lR,lC,lN,of_decide_eq_true q4]),k⟩⟩ (bG k2)) (hX ⟨_,k,k,.inl ⟨aCF (⟨x1.2.1,v3.1⟩:Sc) k,cV.plainO _⟩⟩ k<|aQ) k4))) (bP (bG k2) (bW (cV.plainO _) k<|aQ) k4))⟩
 ·rintro e t ⟨rfl,hent⟩;exact aN<|tn<|aI hent<|sS<|gJ k2<|jY k2<|sn<|tn<|aE<|sp h ⟨mN [(4,.int y5.2)] [(0,⟨2,y5.1.map (ow eS)⟩)] 1 ⟨1,true,none,true⟩,(bP (bG k2) (bW (cV.plainO _) k<|aQ) k4),k,⟨_,k,.inl k⟩,⟨k,aQ⟩⟩
def tU (a0:Qv) (a1:Int):Option ((List Int)×(List Int)×Int):=
 (fJ a0.src a1).bind λv1=>
 bif decide (v1.1.length=a0.src.length) then
 ((fJ a0.tgt v1.2).bind λv3=>
 bif decide (v3.1.length=a0.tgt.length) then
 (some (v1.1,v3.1,v3.2))
 else none)
 else none
theorem aHE (a0:Qv) (a1:Int) (r:((List Int)×(List Int)×Int)) (h:tU a0 a1=some r):HasE Tryz.prog 15 [.agg [.int a0.n,.own 0 0 a0.src.length,.own 1 0 a0.tgt.length],.int a1] [(0,⟨1,a0.src.map (ow eI)⟩),(1,⟨1,a0.tgt.map (ow eI)⟩)] 2 (.int r.2.2) [(0,⟨1,r.1.map (ow eI)⟩),(1,⟨1,r.2.1.map (ow eI)⟩)]:=by
 refine aBf aJ (rvs:=[.tmp 4]) (ns:=nmA.drop 2) Tryz.func15 k k Tryz.ntmps15 k k<|sR<|ae (wb k) k<|aT k2<|sR<|fp k8<|lp k8<|am k k<|oB h λv1 hv1 h=>ae (gP (σ:=sg [(0,0)]) (σ':=sg [(0,0)]) (touch:=[0]) (news:=[]) (hl2:=[(0,⟨1,v1.1.map (ow eI)⟩)]) (n':=3) (r2:= .int v1.2) (gY a0.src a1 v1 hv1) k k ⟨_,_,k,⟨k,k,k,k⟩,⟨_,_,k,k,k⟩⟩ ⟨⟨_,k,k,.inl ⟨k,cA.plainO _⟩⟩,k,aQ⟩ k k k ⟨⟨_,k,k,.inl ⟨k,cA.plainO _⟩⟩,k,aQ⟩ k k k ⟨k,cA.tame _ _,aQ⟩ k k) k<|cG h λq2 h=>aT k2<|sR<|fp k8<|lp k8<|am k k<|oB h λv3 hv3 h=>ae (gP (σ:=sg [(0,1)]) (σ':=sg [(1,0)]) (touch:=[1]) (news:=[]) (hl2:=[(1,⟨1,v3.1.map (ow eI)⟩)]) (n':=3) (r2:= .int v3.2) (gY a0.tgt v1.2 v3 hv3) k k ⟨_,_,k,⟨k,k,k,k⟩,⟨_,_,k,k,k⟩⟩ ⟨⟨_,k,k,.inl ⟨k,cA.plainO _⟩⟩,k,aQ⟩ k k k ⟨⟨_,k,k,.inl ⟨k,cA.plainO _⟩⟩,k,aQ⟩ k k k ⟨k,cA.tame _ _,aQ⟩ k k) k<|cG h λq4 h=>aT k2<|sR<|am k k<|aa k k<|an ?_;exact tn<|aE<|sp h ⟨mN [(4,.int v3.2)] [(0,⟨1,v1.1.map (ow eI)⟩),(1,⟨1,v3.1.map (ow eI)⟩)] 2 2,(bP (bG k2) (bN k<|bN k<|aQ) k4),k,⟨_,k,.inl k⟩,⟨k,k,aQ⟩⟩
def mS (x1:((List Mt)×Int×Int)):Option (((List Mt)×Int×Int) ⊕ ((List Mt)×Int)):=
 bif decide (x1.2.2<((x1.1.length:Nat):Int)) then
 ((cY x1.1 x1.2.2).bind λv2=>
 (fJ v2.cells (wr ((wr (x1.2.1+1))+1))).bind λv3=>
 bif decide (v3.1.length=v2.cells.length) then
 (some (.inl ((x1.1.set x1.2.2.toNat (⟨x1.2.1,wr (x1.2.1+1),v3.1⟩:Mt)),v3.2,wr (x1.2.2+1))))
 else none)
 else
 (some (.inr (x1.1,x1.2.1)))
def jM (a0:(List Mt)) (a1:Int):Option ((List Mt)×Int):=
 (Lp mS (a0,a1,0)).bind λy5=>
 some (y5.1,y5.2)
theorem yX (a0:(List Mt)) (a1:Int) (r:((List Mt)×Int)) (h:jM a0 a1=some r):HasT Tryz.prog 41 [.own 0 0 a0.length,.int a1] [(0,⟨3,a0.map (ow eM)⟩)] 1 (.int r.2) [(0,⟨3,r.1.map (ow eM)⟩)]:=by
 refine aDw aJ (rvs:=[.tmp 4]) (ns:=nmA.drop 1) Tryz.func41 k k Tryz.ntmps41 k k<|sS<|jY k2<|sn<|tn<|sQ<|sS<|jY k2<|sn<|tn<|aD<|oB h λy5 hy5 h=>cC (body:=mS) hy5 (λ(x1:((List Mt)×Int×Int))=>mN [(0,.own 0 0 x1.1.length),(1,.int x1.2.1),(5,.int x1.2.2)] [(0,⟨3,x1.1.map (ow eM)⟩)] 1 ⟨1,true,none,true⟩) (λr e t=>e= .exit 0∧Ent t (mN [(1,.int r.2)] [(0,⟨3,r.1.map (ow eM)⟩)] 1 ⟨1,true,none,true⟩)) (bP (bG k2) (bW (aX.plainO _) k<|aQ) k4) ?_ ?_
 ·intro x1 o h;refine sQ<|sS<|gJ k2<|gJ k2<|se (dR aJ k k k k) k<|cmS k4<|sn<|tn<|cN k h (λ_ h=>?_) λ_ h=>aY<|aB<|aB<|sp h ⟨_,k,k,(bP (bG k2) (bW (aX.plainO _) k<|aQ) k4)⟩;refine aG<|tn<|sQ<|aD<|sS<|gJ k2<|gJ k2<|gJ k2<|oB h λv2 hv2 h=>dS (t:=mN [(0,.own 0 0 x1.1.length),(1,.int x1.2.1),(5,.int x1.2.2),(6,.int x1.2.2),(7,.own 0 0 x1.1.length),(8,.int ((x1.1.length:Nat):Int)),(9,.bl (decide (x1.2.2<((x1.1.length:Nat):Int)))),(12,.own 0 0 x1.1.length),(13,.int x1.2.2),(14,.int x1.2.1)] [(0,⟨3,(x1.1.map (ow eM)).set x1.2.2.toNat [.int v2.rows,.int v2.cols,.abs 1 (v2.cells.map eI)]⟩)] 1 ⟨1,true,none,true⟩) (bP (bG k2) (hX ⟨_,k,k,.inl ⟨zW (dF hv2),vB aX k⟩⟩ k<|aQ) k4)<|dS (qE (b:=0) (c:=1) (i:=x1.2.2.toNat) (j:=2) (n:=v2.cells.length) (A:=x1.1.map (ow eM)) (fs:=v2.cells.map (ow eI)) (by rw [dC];exact eX hv2) k k k k (aH _ _) (dX _ _) (lU ⟨k,k,k,k,k,k,k,k,k,k,aQ⟩) (lW (skip:=[]) ⟨.inr (aX.dfS _ _ _ k),aQ⟩))<|dS (t:=mN [(0,.own 0 0 x1.1.length),(1,.int x1.2.1),(5,.int x1.2.2),(6,.int x1.2.2),(7,.own 0 0 x1.1.length),(8,.int ((x1.1.length:Nat):Int)),(9,.bl (decide (x1.2.2<((x1.1.length:Nat):Int)))),(12,.own 0 0 x1.1.length),(13,.int x1.2.2),(14,.int x1.2.1)] [(0,⟨3,(x1.1.map (ow eM)).set x1.2.2.toNat [.int v2.rows,.int v2.cols,.own 1 0 v2.cells.length]⟩),(1,⟨1,v2.cells.map (ow eI)⟩)] 2 ⟨1,true,none,true⟩) (eY (σ:=sg [(0,0),(1,1)]) (bG k2) (hX ⟨_,k,k,.inr (tF (σ:=sg [(0,0),(1,1)]) (m:=2) (e:=eM) (l:=x1.1) (i:=x1.2.2.toNat) (c:=[.int v2.rows,.int v2.cols,.own 1 0 v2.cells.length]) (d:=[.int v2.rows,.int v2.cols,.own 1 0 v2.cells.length]) aX ⟨_,_,k,k,⟨_,_,k,k,⟨_,_,k,⟨k,k,k,k⟩,k⟩⟩⟩)⟩ k<|bN k<|aQ) k)<|se (xo hv2 k) k<|fpS k8<|se (aBJ aJ (A:=x1.1.map (ow eM)) (by rw [dC];exact eX hv2) k k k k k k k) k<|sn<|tn<|sS<|gJ k2<|se (bF k k) k<|jY k2<|sn<|tn<|sS<|gJ k2<|gJ k2<|gJ k2 ?_;exact se (xo hv2 k) k<|fpS k8<|se (aBJ aJ (A:=x1.1.map (ow eM)) (by rw [dC];exact eX hv2) k k k k k k k) k<|sn<|tn<|sS<|gJ k2<|se (bF k k) k<|jY k2<|sn<|tn<|rgS<|gJ k2<|gJ k2<|se (xo hv2 k) k<|fpS k8<|se (dK aJ k k k k (aBR (eX hv2)) k k) k<|gJ k2<|oB h λv3 hv3 h=>se (gP (σ:=sg [(0,1)]) (σ':=sg [(1,0)]) (touch:=[1]) (news:=[]) (hl2:=[(1,⟨1,v3.1.map (ow eI)⟩)]) (n':=2) (r2:= .int v3.2) (gY v2.cells (wr ((wr (x1.2.1+1))+1)) v3 hv3) k k ⟨_,_,k,⟨k,k,k,k⟩,⟨_,_,k,k,k⟩⟩ ⟨⟨_,k,k,.inl ⟨k,cA.plainO _⟩⟩,k,aQ⟩ k k k ⟨⟨_,k,k,.inl ⟨k,cA.plainO _⟩⟩,k,aQ⟩ k k k ⟨k,cA.tame _ _,aQ⟩ k k) k<|cG h λq4 h=>jY k2<|sn<|bB<|tn<|rgS<|gJ k2<|se (bF k k) k<|jY k2<|sn<|tn<|sp h ⟨_,k,(Ent.trans (show Ent _ (mN [(0,.own 0 0 ((x1.1.set x1.2.2.toNat (⟨x1.2.1,wr (x1.2.1+1),v3.1⟩:Mt)).length)),(1,.int v3.2),(5,.int (wr (x1.2.2+1)))] [(0,⟨3,List.map (ow eM) (x1.1.set x1.2.2.toNat (⟨x1.2.1,wr (x1.2.1+1),v3.1⟩:Mt))⟩)] 2 ⟨1,true,none,true⟩) from (Ent.trans (qC (b:=0) (b':=1) (j:=2) (es':=v3.1.map eI) (by rw [dC];exact eX hv2) k k k k (by simp only [aH,lA,lT,lR,lC,lN,of_decide_eq_true q4]) (cA.frzs _)) (bP (gH ⟨_,k,⟨k,k,(by simp only [aH,lA,lT,lR,lC,lN,of_decide_eq_true q4]),k⟩⟩ (bG k2)) (hX ⟨_,k,k,.inl ⟨aCF (⟨x1.2.1,wr (x1.2.1+1),v3.1⟩:Mt) k,aX.plainO _⟩⟩ k<|aQ) k4))) (bP (bG k2) (bW (aX.plainO _) k<|aQ) k4))⟩
 ·rintro e t ⟨rfl,hent⟩;exact aN<|tn<|aI hent<|sS<|gJ k2<|jY k2<|sn<|tn<|aE<|sp h ⟨mN [(4,.int y5.2)] [(0,⟨3,y5.1.map (ow eM)⟩)] 1 ⟨1,true,none,true⟩,(bP (bG k2) (bW (aX.plainO _) k<|aQ) k4),k,⟨_,k,.inl k⟩,⟨k,aQ⟩⟩
def qN (a0:Rp) (a1:Int):Option ((List Int)×(List Int)×(List Int)×(List Mt)×Int):=
 (tU a0.q a1).bind λv1=>
 bif decide (v1.1.length=a0.q.src.length) then
 (bif decide (v1.2.1.length=a0.q.tgt.length) then
 ((fJ a0.dims v1.2.2).bind λv4=>
 bif decide (v4.1.length=a0.dims.length) then
 ((jM a0.maps v4.2).bind λv6=>
 bif decide (v6.1.length=a0.maps.length) then
 (some (v1.1,v1.2.1,v4.1,v6.1,v6.2))
 else none)
 else none)
 else none)
 else none
theorem aCP (a0:Rp) (a1:Int) (r:((List Int)×(List Int)×(List Int)×(List Mt)×Int)) (h:qN a0 a1=some r):HasT Tryz.prog 17 [.agg [.int a0.p,.int a0.q.n,.own 0 0 a0.q.src.length,.own 1 0 a0.q.tgt.length,.own 2 0 a0.dims.length,.own 3 0 a0.maps.length],.int a1] [(0,⟨1,a0.q.src.map (ow eI)⟩),(1,⟨1,a0.q.tgt.map (ow eI)⟩),(2,⟨1,a0.dims.map (ow eI)⟩),(3,⟨3,a0.maps.map (ow eM)⟩)] 4 (.int r.2.2.2.2) [(0,⟨1,r.1.map (ow eI)⟩),(1,⟨1,r.2.1.map (ow eI)⟩),(2,⟨1,r.2.2.1.map (ow eI)⟩),(3,⟨3,r.2.2.2.1.map (ow eM)⟩)]:=by
 refine aDw aJ (rvs:=[.tmp 4]) (ns:=nmA.drop 4) Tryz.func17 k k Tryz.ntmps17 k k<|sS<|se (wb k) k<|jY k2<|sn<|tn<|sS<|fpS k8<|lpS k8<|gJ k2<|oB h λv1 hv1 h=>se (gP (σ:=sg [(0,0),(1,1)]) (σ':=sg [(0,0),(1,1)]) (touch:=[0,1]) (news:=[]) (hl2:=[(0,⟨1,v1.1.map (ow eI)⟩),(1,⟨1,v1.2.1.map (ow eI)⟩)]) (n':=5) (r2:= .int v1.2.2) (aHE a0.q a1 v1 hv1) k k ⟨_,_,k,⟨_,_,k,k,⟨_,_,k,⟨k,k,k,k⟩,⟨_,_,k,⟨k,k,k,k⟩,k⟩⟩⟩,⟨_,_,k,k,k⟩⟩ ⟨⟨_,k,k,.inl ⟨k,cA.plainO _⟩⟩,k,⟨_,k,k,.inl ⟨k,cA.plainO _⟩⟩,k,aQ⟩ k k k ⟨⟨_,k,k,.inl ⟨k,cA.plainO _⟩⟩,k,⟨_,k,k,.inl ⟨k,cA.plainO _⟩⟩,k,aQ⟩ k k k ⟨k,cA.tame _ _,⟨k,cA.tame _ _,aQ⟩⟩ k k) k<|cG h λq2 h=>cG h λq3 h=>jY k2<|sn<|tn<|sS<|fpS k8<|lpS k8<|gJ k2<|oB h λv4 hv4 h=>se (gP (σ:=sg [(0,2)]) (σ':=sg [(2,0)]) (touch:=[2]) (news:=[]) (hl2:=[(2,⟨1,v4.1.map (ow eI)⟩)]) (n':=5) (r2:= .int v4.2) (gY a0.dims v1.2.2 v4 hv4) k k ⟨_,_,k,⟨k,k,k,k⟩,⟨_,_,k,k,k⟩⟩ ⟨⟨_,k,k,.inl ⟨k,cA.plainO _⟩⟩,k,aQ⟩ k k k ⟨⟨_,k,k,.inl ⟨k,cA.plainO _⟩⟩,k,aQ⟩ k k k ⟨k,cA.tame _ _,aQ⟩ k k) k<|cG h λq5 h=>jY k2<|sn<|tn<|sS<|fpS k8<|lpS k8<|gJ k2 ?_;exact oB h λv6 hv6 h=>dS (t:=mN [(0,.agg (oRp a0 0 1 2 3)),(1,.int v4.2),(2,.ptr 4 0 0),(4,.int 0),(5,.ptr 4 0 1),(6,.agg (oQv a0.q 0 1)),(7,.int a1),(8,.int v1.2.2),(9,.ptr 4 0 4),(10,.own 2 0 a0.dims.length),(11,.int v1.2.2),(12,.int v4.2),(13,.ptr 4 0 5),(14,.own 3 0 a0.maps.length),(15,.int v4.2)] [(0,⟨1,v1.1.map (ow eI)⟩),(1,⟨1,v1.2.1.map (ow eI)⟩),(2,⟨1,v4.1.map (ow eI)⟩),(3,⟨3,a0.maps.map (ow eM)⟩),(4,⟨6,[oRp a0 0 1 2 3]⟩)] 5 ⟨4,true,none,true⟩) (bP (bG k2) (bN k<|bN k<|bN k<|bW (aX.plainO _) k<|eJ k<|aQ) k4)<|aCH (σ:=sg [(0,3)]) (σ':=sg [(3,0)]) (touch:=[3]) (news:=[]) (hl2:=[(3,⟨3,v6.1.map (ow eM)⟩)]) (n':=5) (r2:= .int v6.2) (yX a0.maps v4.2 v6 hv6) k k ⟨_,_,k,⟨k,k,k,k⟩,⟨_,_,k,k,k⟩⟩ ⟨⟨_,k,k,.inl ⟨k,aX.plainO _⟩⟩,k,aQ⟩ k k k ⟨⟨_,k,k,.inl ⟨k,aX.plainO _⟩⟩,k,aQ⟩ k k k ⟨k,aX.tame _ _,aQ⟩ k k k k k (lU ⟨k,k,k,k,k,k,k,k,k,k,k,k,k,k,k,aQ⟩) (lW (skip:=[3]) ⟨.inr (cA.df _ _),.inr (cA.df _ _),.inr (cA.df _ _),.inl (by decide),.inr (kR k),aQ⟩)<|cG h λq7 h=>jY k2<|sn<|tn<|sS<|gJ k2<|jY k2<|sn<|tn<|aE<|sp h ⟨mN [(4,.int v6.2)] [(0,⟨1,v1.1.map (ow eI)⟩),(1,⟨1,v1.2.1.map (ow eI)⟩),(2,⟨1,v4.1.map (ow eI)⟩),(3,⟨3,v6.1.map (ow eM)⟩)] 4 ⟨4,true,none,true⟩,(bP (bG k2) (bN k<|bN k<|bN k<|bW (aX.plainO _) k<|aQ) k4),k,⟨_,k,.inl k⟩,⟨k,k,k,k,aQ⟩⟩
def rV (x1:((List Rp)×Int×Int)):Option (((List Rp)×Int×Int) ⊕ ((List Rp)×Int)):=
 bif decide (x1.2.2<((x1.1.length:Nat):Int)) then
 ((cY x1.1 x1.2.2).bind λv2=>
 (fJ v2.q.src (wr ((wr (x1.2.1+1))+1))).bind λv3=>
 bif decide (v3.1.length=v2.q.src.length) then
 ((fJ v2.q.tgt v3.2).bind λv5=>
 bif decide (v5.1.length=v2.q.tgt.length) then
 ((fJ v2.dims v5.2).bind λv7=>
 bif decide (v7.1.length=v2.dims.length) then
 ((jM v2.maps v7.2).bind λv9=>
 bif decide (v9.1.length=v2.maps.length) then
 (some (.inl ((x1.1.set x1.2.2.toNat (⟨x1.2.1,(⟨wr (x1.2.1+1),v3.1,v5.1⟩:Qv),v7.1,v9.1⟩:Rp)),v9.2,wr (x1.2.2+1))))
 else none)
 else none)
 else none)
 else none)
 else
 (some (.inr (x1.1,x1.2.1)))
def yG (a0:(List Rp)) (a1:Int):Option ((List Rp)×Int):=
 (Lp rV (a0,a1,0)).bind λy11=>
 some (y11.1,y11.2)
theorem aJK (a0:(List Rp)) (a1:Int) (r:((List Rp)×Int)) (h:yG a0 a1=some r):HasT Tryz.prog 67 [.own 0 0 a0.length,.int a1] [(0,⟨6,a0.map (ow eR)⟩)] 1 (.int r.2) [(0,⟨6,r.1.map (ow eR)⟩)]:=by
 refine aDw aJ (rvs:=[.tmp 4]) (ns:=nmA.drop 1) Tryz.func67 k k Tryz.ntmps67 k k<|sS<|jY k2<|sn<|tn<|sQ<|sS<|jY k2<|sn<|tn<|aD<|oB h λy11 hy11 h=>cC (body:=rV) hy11 (λ(x1:((List Rp)×Int×Int))=>mN [(0,.own 0 0 x1.1.length),(1,.int x1.2.1),(5,.int x1.2.2)] [(0,⟨6,x1.1.map (ow eR)⟩)] 1 ⟨1,true,none,true⟩) (λr e t=>e= .exit 0∧Ent t (mN [(1,.int r.2)] [(0,⟨6,r.1.map (ow eR)⟩)] 1 ⟨1,true,none,true⟩)) (bP (bG k2) (bW (cZ.plainO _) k<|aQ) k4) ?_ ?_
 ·intro x1 o h;refine sQ<|sS<|gJ k2<|gJ k2<|se (dR aJ k k k k) k<|cmS k4<|sn<|tn<|cN k h (λ_ h=>?_) λ_ h=>aY<|aB<|aB<|sp h ⟨_,k,k,(bP (bG k2) (bW (cZ.plainO _) k<|aQ) k4)⟩;refine aG<|tn<|sQ<|aD<|sS<|gJ k2<|gJ k2<|gJ k2<|oB h λv2 hv2 h=>dS (t:=mN [(0,.own 0 0 x1.1.length),(1,.int x1.2.1),(5,.int x1.2.2),(6,.int x1.2.2),(7,.own 0 0 x1.1.length),(8,.int ((x1.1.length:Nat):Int)),(9,.bl (decide (x1.2.2<((x1.1.length:Nat):Int)))),(12,.own 0 0 x1.1.length),(13,.int x1.2.2),(14,.int x1.2.1)] [(0,⟨6,(x1.1.map (ow eR)).set x1.2.2.toNat [.int v2.p,.int v2.q.n,.abs 1 (v2.q.src.map eI),.abs 1 (v2.q.tgt.map eI),.abs 1 (v2.dims.map eI),.abs 3 (v2.maps.map eM)]⟩)] 1 ⟨1,true,none,true⟩) (bP (bG k2) (hX ⟨_,k,k,.inl ⟨zW (dF hv2),vB cZ k⟩⟩ k<|aQ) k4)<|dS (qE (b:=0) (c:=1) (i:=x1.2.2.toNat) (j:=2) (n:=v2.q.src.length) (A:=x1.1.map (ow eR)) (fs:=v2.q.src.map (ow eI)) (by rw [dC];exact eX hv2) k k k k (aH _ _) (dX _ _) (lU ⟨k,k,k,k,k,k,k,k,k,k,aQ⟩) (lW (skip:=[]) ⟨.inr (cZ.dfS _ _ _ k),aQ⟩))<|dS (t:=mN [(0,.own 0 0 x1.1.length),(1,.int x1.2.1),(5,.int x1.2.2),(6,.int x1.2.2),(7,.own 0 0 x1.1.length),(8,.int ((x1.1.length:Nat):Int)),(9,.bl (decide (x1.2.2<((x1.1.length:Nat):Int)))),(12,.own 0 0 x1.1.length),(13,.int x1.2.2),(14,.int x1.2.1)] [(0,⟨6,(x1.1.map (ow eR)).set x1.2.2.toNat [.int v2.p,.int v2.q.n,.own 1 0 v2.q.src.length,.abs 1 (v2.q.tgt.map eI),.abs 1 (v2.dims.map eI),.abs 3 (v2.maps.map eM)]⟩),(1,⟨1,v2.q.src.map (ow eI)⟩)] 2 ⟨1,true,none,true⟩) (eY (σ:=sg [(0,0),(1,1)]) (bG k2) (hX ⟨_,k,k,.inr (tF (σ:=sg [(0,0),(1,1)]) (m:=2) (e:=eR) (l:=x1.1) (i:=x1.2.2.toNat) (c:=[.int v2.p,.int v2.q.n,.own 1 0 v2.q.src.length,.abs 1 (v2.q.tgt.map eI),.abs 1 (v2.dims.map eI),.abs 3 (v2.maps.map eM)]) (d:=[.int v2.p,.int v2.q.n,.own 1 0 v2.q.src.length,.abs 1 (v2.q.tgt.map eI),.abs 1 (v2.dims.map eI),.abs 3 (v2.maps.map eM)]) cZ ⟨_,_,k,k,⟨_,_,k,k,⟨_,_,k,⟨k,k,k,k⟩,⟨_,_,k,⟨k,k⟩,⟨_,_,k,⟨k,k⟩,⟨_,_,k,⟨k,k⟩,k⟩⟩⟩⟩⟩⟩)⟩ k<|bN k<|aQ) k)<|dS (qE (b:=0) (c:=2) (i:=x1.2.2.toNat) (j:=3) (n:=v2.q.tgt.length) (A:=x1.1.map (ow eR)) (fs:=v2.q.tgt.map (ow eI)) (by rw [dC];exact eX hv2) k k k k (aH _ _) (dX _ _) (lU ⟨k,k,k,k,k,k,k,k,k,k,aQ⟩) (lW (skip:=[]) ⟨.inr (cZ.dfS _ _ _ k),.inr (cA.df _ _),aQ⟩))<|dS (t:=mN [(0,.own 0 0 x1.1.length),(1,.int x1.2.1),(5,.int x1.2.2),(6,.int x1.2.2),(7,.own 0 0 x1.1.length),(8,.int ((x1.1.length:Nat):Int)),(9,.bl (decide (x1.2.2<((x1.1.length:Nat):Int)))),(12,.own 0 0 x1.1.length),(13,.int x1.2.2),(14,.int x1.2.1)] [(0,⟨6,(x1.1.map (ow eR)).set x1.2.2.toNat [.int v2.p,.int v2.q.n,.own 1 0 v2.q.src.length,.own 2 0 v2.q.tgt.length,.abs 1 (v2.dims.map eI),.abs 3 (v2.maps.map eM)]⟩),(1,⟨1,v2.q.src.map (ow eI)⟩),(2,⟨1,v2.q.tgt.map (ow eI)⟩)] 3 ⟨1,true,none,true⟩) (eY (σ:=sg [(0,0),(1,1),(2,2)]) (bG k2) (hX ⟨_,k,k,.inr (tF (σ:=sg [(0,0),(1,1),(2,2)]) (m:=3) (e:=eR) (l:=x1.1) (i:=x1.2.2.toNat) (c:=[.int v2.p,.int v2.q.n,.own 1 0 v2.q.src.length,.own 2 0 v2.q.tgt.length,.abs 1 (v2.dims.map eI),.abs 3 (v2.maps.map eM)]) (d:=[.int v2.p,.int v2.q.n,.own 1 0 v2.q.src.length,.own 2 0 v2.q.tgt.length,.abs 1 (v2.dims.map eI),.abs 3 (v2.maps.map eM)]) cZ ⟨_,_,k,k,⟨_,_,k,k,⟨_,_,k,⟨k,k,k,k⟩,⟨_,_,k,⟨k,k,k,k⟩,⟨_,_,k,⟨k,k⟩,⟨_,_,k,⟨k,k⟩,k⟩⟩⟩⟩⟩⟩)⟩ k<|bN k<|bN k<|aQ) k)<|dS (qE (b:=0) (c:=3) (i:=x1.2.2.toNat) (j:=4) (n:=v2.dims.length) (A:=x1.1.map (ow eR)) (fs:=v2.dims.map (ow eI)) (by rw [dC];exact eX hv2) k k k k (aH _ _) (dX _ _) (lU ⟨k,k,k,k,k,k,k,k,k,k,aQ⟩) (lW (skip:=[]) ⟨.inr (cZ.dfS _ _ _ k),.inr (cA.df _ _),.inr (cA.df _ _),aQ⟩))<|dS (t:=mN [(0,.own 0 0 x1.1.length),(1,.int x1.2.1),(5,.int x1.2.2),(6,.int x1.2.2),(7,.own 0 0 x1.1.length),(8,.int ((x1.1.length:Nat):Int)),(9,.bl (decide (x1.2.2<((x1.1.length:Nat):Int)))),(12,.own 0 0 x1.1.length),(13,.int x1.2.2),(14,.int x1.2.1)] [(0,⟨6,(x1.1.map (ow eR)).set x1.2.2.toNat [.int v2.p,.int v2.q.n,.own 1 0 v2.q.src.length,.own 2 0 v2.q.tgt.length,.own 3 0 v2.dims.length,.abs 3 (v2.maps.map eM)]⟩),(1,⟨1,v2.q.src.map (ow eI)⟩),(2,⟨1,v2.q.tgt.map (ow eI)⟩),(3,⟨1,v2.dims.map (ow eI)⟩)] 4 ⟨1,true,none,true⟩) (eY (σ:=sg [(0,0),(1,1),(2,2),(3,3)]) (bG k2) (hX ⟨_,k,k,.inr (tF (σ:=sg [(0,0),(1,1),(2,2),(3,3)]) (m:=4) (e:=eR) (l:=x1.1) (i:=x1.2.2.toNat) (c:=[.int v2.p,.int v2.q.n,.own 1 0 v2.q.src.length,.own 2 0 v2.q.tgt.length,.own 3 0 v2.dims.length,.abs 3 (v2.maps.map eM)]) (d:=[.int v2.p,.int v2.q.n,.own 1 0 v2.q.src.length,.own 2 0 v2.q.tgt.length,.own 3 0 v2.dims.length,.abs 3 (v2.maps.map eM)]) cZ ⟨_,_,k,k,⟨_,_,k,k,⟨_,_,k,⟨k,k,k,k⟩,⟨_,_,k,⟨k,k,k,k⟩,⟨_,_,k,⟨k,k,k,k⟩,⟨_,_,k,⟨k,k⟩,k⟩⟩⟩⟩⟩⟩)⟩ k<|bN k<|bN k<|bN k<|aQ) k)<|dS (qE (b:=0) (c:=4) (i:=x1.2.2.toNat) (j:=5) (n:=v2.maps.length) (A:=x1.1.map (ow eR)) (fs:=v2.maps.map (ow eM)) (by rw [dC];exact eX hv2) k k k k (aH _ _) (dX _ _) (lU ⟨k,k,k,k,k,k,k,k,k,k,aQ⟩) (lW (skip:=[]) ⟨.inr (cZ.dfS _ _ _ k),.inr (cA.df _ _),.inr (cA.df _ _),.inr (cA.df _ _),aQ⟩))<|dS (t:=mN [(0,.own 0 0 x1.1.length),(1,.int x1.2.1),(5,.int x1.2.2),(6,.int x1.2.2),(7,.own 0 0 x1.1.length),(8,.int ((x1.1.length:Nat):Int)),(9,.bl (decide (x1.2.2<((x1.1.length:Nat):Int)))),(12,.own 0 0 x1.1.length),(13,.int x1.2.2),(14,.int x1.2.1)] [(0,⟨6,(x1.1.map (ow eR)).set x1.2.2.toNat [.int v2.p,.int v2.q.n,.own 1 0 v2.q.src.length,.own 2 0 v2.q.tgt.length,.own 3 0 v2.dims.length,.own 4 0 v2.maps.length]⟩),(1,⟨1,v2.q.src.map (ow eI)⟩),(2,⟨1,v2.q.tgt.map (ow eI)⟩),(3,⟨1,v2.dims.map (ow eI)⟩),(4,⟨3,v2.maps.map (ow eM)⟩)] 5 ⟨1,true,none,true⟩) (eY (σ:=sg [(0,0),(1,1),(2,2),(3,3),(4,4)]) (bG k2) (hX ⟨_,k,k,.inr (tF (σ:=sg [(0,0),(1,1),(2,2),(3,3),(4,4)]) (m:=5) (e:=eR) (l:=x1.1) (i:=x1.2.2.toNat) (c:=[.int v2.p,.int v2.q.n,.own 1 0 v2.q.src.length,.own 2 0 v2.q.tgt.length,.own 3 0 v2.dims.length,.own 4 0 v2.maps.length]) (d:=[.int v2.p,.int v2.q.n,.own 1 0 v2.q.src.length,.own 2 0 v2.q.tgt.length,.own 3 0 v2.dims.length,.own 4 0 v2.maps.length]) cZ ⟨_,_,k,k,⟨_,_,k,k,⟨_,_,k,⟨k,k,k,k⟩,⟨_,_,k,⟨k,k,k,k⟩,⟨_,_,k,⟨k,k,k,k⟩,⟨_,_,k,⟨k,k,k,k⟩,k⟩⟩⟩⟩⟩⟩)⟩ k<|bN k<|bN k<|bN k<|bW (aX.plainO _) k<|aQ) k) ?_;refine se (xo hv2 k) k<|fpS k8<|se (aBJ aJ (A:=x1.1.map (ow eR)) (by rw [dC];exact eX hv2) k k k k k k k) k<|sn<|tn<|sS<|gJ k2<|se (bF k k) k<|jY k2<|sn<|tn<|sS<|gJ k2<|gJ k2<|gJ k2<|se (xo hv2 k) k<|fpS k8<|fpS k8<|se (aBJ aJ (A:=x1.1.map (ow eR)) (by rw [dC];exact eX hv2) k k k k k k k) k<|sn<|tn<|sS<|gJ k2<|se (bF k k) k<|jY k2<|sn<|tn ?_;refine sS<|gJ k2<|gJ k2<|se (xo hv2 k) k<|fpS k8<|fpS k8<|se (dK aJ k k k k (aBR (eX hv2)) k k) k<|gJ k2<|oB h λv3 hv3 h=>se (gP (σ:=sg [(0,1)]) (σ':=sg [(1,0)]) (touch:=[1]) (news:=[]) (hl2:=[(1,⟨1,v3.1.map (ow eI)⟩)]) (n':=5) (r2:= .int v3.2) (gY v2.q.src (wr ((wr (x1.2.1+1))+1)) v3 hv3) k k ⟨_,_,k,⟨k,k,k,k⟩,⟨_,_,k,k,k⟩⟩ ⟨⟨_,k,k,.inl ⟨k,cA.plainO _⟩⟩,k,aQ⟩ k k k ⟨⟨_,k,k,.inl ⟨k,cA.plainO _⟩⟩,k,aQ⟩ k k k ⟨k,cA.tame _ _,aQ⟩ k k) k<|cG h λq4 h=>jY k2<|sn<|tn<|aI (t:=mN [(0,.own 0 0 x1.1.length),(1,.int v3.2),(5,.int x1.2.2)] [(0,⟨6,(x1.1.map (ow eR)).set x1.2.2.toNat [.int x1.2.1,.int (wr (x1.2.1+1)),.own 1 0 v3.1.length,.own 2 0 v2.q.tgt.length,.own 3 0 v2.dims.length,.own 4 0 v2.maps.length]⟩),(1,⟨1,v3.1.map (ow eI)⟩),(2,⟨1,v2.q.tgt.map (ow eI)⟩),(3,⟨1,v2.dims.map (ow eI)⟩),(4,⟨3,v2.maps.map (ow eM)⟩)] 5 ⟨1,true,none,true⟩) (eY (σ:=sg [(0,0),(1,1),(2,2),(3,3),(4,4)]) (bG k2) (hX ⟨_,k,k,.inr (tF (σ:=sg [(0,0),(1,1),(2,2),(3,3),(4,4)]) (m:=5) (e:=eR) (l:=x1.1) (i:=x1.2.2.toNat) (c:=[.int x1.2.1,.int (wr (x1.2.1+1)),.own 1 0 v2.q.src.length,.own 2 0 v2.q.tgt.length,.own 3 0 v2.dims.length,.own 4 0 v2.maps.length]) (d:=[.int x1.2.1,.int (wr (x1.2.1+1)),.own 1 0 v3.1.length,.own 2 0 v2.q.tgt.length,.own 3 0 v2.dims.length,.own 4 0 v2.maps.length]) cZ ⟨_,_,k,k,⟨_,_,k,k,⟨_,_,k,⟨k,k,(by simp only [aH,lA,lT,lR,lC,lN,of_decide_eq_true q4]),k⟩,⟨_,_,k,⟨k,k,k,k⟩,⟨_,_,k,⟨k,k,k,k⟩,⟨_,_,k,⟨k,k,k,k⟩,k⟩⟩⟩⟩⟩⟩)⟩ k<|bN k<|bN k<|bN k<|bW (aX.plainO _) k<|aQ) k)<|sS<|gJ k2<|gJ k2<|se (xo hv2 k) k<|fpS k8<|fpS k8<|se (dK aJ k k k k (aBR (eX hv2)) k k) k<|gJ k2<|oB h λv5 hv5 h=>se (gP (σ:=sg [(0,2)]) (σ':=sg [(2,0)]) (touch:=[2]) (news:=[]) (hl2:=[(2,⟨1,v5.1.map (ow eI)⟩)]) (n':=5) (r2:= .int v5.2) (gY v2.q.tgt v3.2 v5 hv5) k k ⟨_,_,k,⟨k,k,k,k⟩,⟨_,_,k,k,k⟩⟩ ⟨⟨_,k,k,.inl ⟨k,cA.plainO _⟩⟩,k,aQ⟩ k k k ⟨⟨_,k,k,.inl ⟨k,cA.plainO _⟩⟩,k,aQ⟩ k k k ⟨k,cA.tame _ _,aQ⟩ k k) k<|cG h λq6 h=>jY k2<|sn<|tn<|sS<|gJ k2 ?_;exact gJ k2<|se (xo hv2 k) k<|fpS k8<|se (dK aJ k k k k (aBR (eX hv2)) k k) k<|gJ k2<|oB h λv7 hv7 h=>se (gP (σ:=sg [(0,3)]) (σ':=sg [(3,0)]) (touch:=[3]) (news:=[]) (hl2:=[(3,⟨1,v7.1.map (ow eI)⟩)]) (n':=5) (r2:= .int v7.2) (gY v2.dims v5.2 v7 hv7) k k ⟨_,_,k,⟨k,k,k,k⟩,⟨_,_,k,k,k⟩⟩ ⟨⟨_,k,k,.inl ⟨k,cA.plainO _⟩⟩,k,aQ⟩ k k k ⟨⟨_,k,k,.inl ⟨k,cA.plainO _⟩⟩,k,aQ⟩ k k k ⟨k,cA.tame _ _,aQ⟩ k k) k<|cG h λq8 h=>jY k2<|sn<|tn<|rgS<|gJ k2<|gJ k2<|se (xo hv2 k) k<|fpS k8<|se (dK aJ k k k k (aBR (eX hv2)) k k) k<|gJ k2<|oB h λv9 hv9 h=>dS (t:=mN [(0,.own 0 0 x1.1.length),(1,.int v7.2),(5,.int x1.2.2),(35,.own 0 0 x1.1.length),(36,.int x1.2.2),(37,.ptr 0 x1.2.2.toNat 0),(38,.ptr 0 x1.2.2.toNat 1),(39,.ptr 0 x1.2.2.toNat 3),(40,.own 2 0 v2.q.tgt.length),(41,.int v3.2),(42,.int v5.2),(43,.own 0 0 x1.1.length),(44,.int x1.2.2),(45,.ptr 0 x1.2.2.toNat 0),(46,.ptr 0 x1.2.2.toNat 4),(47,.own 3 0 v2.dims.length),(48,.int v5.2),(49,.int v7.2),(50,.own 0 0 x1.1.length),(51,.int x1.2.2),(52,.ptr 0 x1.2.2.toNat 0),(53,.ptr 0 x1.2.2.toNat 5),(54,.own 4 0 v2.maps.length),(55,.int v7.2)] [(0,⟨6,(x1.1.map (ow eR)).set x1.2.2.toNat [.int x1.2.1,.int (wr (x1.2.1+1)),.own 1 0 v3.1.length,.own 2 0 v2.q.tgt.length,.own 3 0 v2.dims.length,.own 4 0 v2.maps.length]⟩),(1,⟨1,v3.1.map (ow eI)⟩),(2,⟨1,v5.1.map (ow eI)⟩),(3,⟨1,v7.1.map (ow eI)⟩),(4,⟨3,v2.maps.map (ow eM)⟩)] 5 ⟨1,true,none,true⟩) (eY (σ:=sg [(0,0),(1,1),(2,2),(3,3),(4,4)]) (bG k2) (hX ⟨_,k,k,.inr (tF (σ:=sg [(0,0),(1,1),(2,2),(3,3),(4,4)]) (m:=5) (e:=eR) (l:=x1.1) (i:=x1.2.2.toNat) (c:=[.int x1.2.1,.int (wr (x1.2.1+1)),.own 1 0 v3.1.length,.own 2 0 v2.q.tgt.length,.own 3 0 v2.dims.length,.own 4 0 v2.maps.length]) (d:=[.int x1.2.1,.int (wr (x1.2.1+1)),.own 1 0 v3.1.length,.own 2 0 v2.q.tgt.length,.own 3 0 v2.dims.length,.own 4 0 v2.maps.length]) cZ ⟨_,_,k,k,⟨_,_,k,k,⟨_,_,k,⟨k,k,k,k⟩,⟨_,_,k,⟨k,k,k,k⟩,⟨_,_,k,⟨k,k,k,k⟩,⟨_,_,k,⟨k,k,k,k⟩,k⟩⟩⟩⟩⟩⟩)⟩ k<|bN k<|bN k<|bN k<|bW (aX.plainO _) k<|aQ) k)<|aCH (σ:=sg [(0,4)]) (σ':=sg [(4,0)]) (touch:=[4]) (news:=[]) (hl2:=[(4,⟨3,v9.1.map (ow eM)⟩)]) (n':=5) (r2:= .int v9.2) (yX v2.maps v7.2 v9 hv9) k k ⟨_,_,k,⟨k,k,k,k⟩,⟨_,_,k,k,k⟩⟩ ⟨⟨_,k,k,.inl ⟨k,aX.plainO _⟩⟩,k,aQ⟩ k k k ⟨⟨_,k,k,.inl ⟨k,aX.plainO _⟩⟩,k,aQ⟩ k k k ⟨k,aX.tame _ _,aQ⟩ k k k k k (lU ⟨k,k,k,k,k,k,k,k,k,k,k,k,k,k,k,k,k,k,k,k,k,k,k,k,aQ⟩) (lW (skip:=[4]) ⟨.inr (cZ.dfS _ _ _ k),.inr (cA.df _ _),.inr (cA.df _ _),.inr (cA.df _ _),.inl (by decide),aQ⟩)<|cG h λq10 h=>jY k2<|sn<|bB<|tn<|rgS<|gJ k2<|se (bF k k) k<|jY k2<|sn<|tn<|sp h ⟨_,k,(Ent.trans (show Ent _ (mN [(0,.own 0 0 ((x1.1.set x1.2.2.toNat (⟨x1.2.1,(⟨wr (x1.2.1+1),v3.1,v5.1⟩:Qv),v7.1,v9.1⟩:Rp)).length)),(1,.int v9.2),(5,.int (wr (x1.2.2+1)))] [(0,⟨6,List.map (ow eR) (x1.1.set x1.2.2.toNat (⟨x1.2.1,(⟨wr (x1.2.1+1),v3.1,v5.1⟩:Qv),v7.1,v9.1⟩:Rp))⟩)] 5 ⟨1,true,none,true⟩) from (Ent.trans (qC (b:=0) (b':=1) (j:=2) (es':=v3.1.map eI) (by rw [dC];exact eX hv2) k k k k (aH _ _) (cA.frzs _)) (Ent.trans (qC (b:=0) (b':=2) (j:=3) (es':=v5.1.map eI) (by rw [dC];exact eX hv2) k k k k (by simp only [aH,lA,lT,lR,lC,lN,of_decide_eq_true q6]) (cA.frzs _)) (Ent.trans (qC (b:=0) (b':=3) (j:=4) (es':=v7.1.map eI) (by rw [dC];exact eX hv2) k k k k (by simp only [aH,lA,lT,lR,lC,lN,of_decide_eq_true q8]) (cA.frzs _)) (Ent.trans (qC (b:=0) (b':=4) (j:=5) (es':=v9.1.map eM) (by rw [dC];exact eX hv2) k k k k (by simp only [aH,lA,lT,lR,lC,lN,of_decide_eq_true q10]) (aX.frzs _)) (bP (gH ⟨_,k,⟨k,k,(by simp only [aH,lA,lT,lR,lC,lN,of_decide_eq_true q4,of_decide_eq_true q6,of_decide_eq_true q8,of_decide_eq_true q10]),k⟩⟩ (bG k2)) (hX ⟨_,k,k,.inl ⟨aCF (⟨x1.2.1,(⟨wr (x1.2.1+1),v3.1,v5.1⟩:Qv),v7.1,v9.1⟩:Rp) k,cZ.plainO _⟩⟩ k<|aQ) k4)))))) (bP (bG k2) (bW (cZ.plainO _) k<|aQ) k4))⟩
 ·rintro e t ⟨rfl,hent⟩;exact aN<|tn<|aI hent<|sS<|gJ k2<|jY k2<|sn<|tn<|aE<|sp h ⟨mN [(4,.int y11.2)] [(0,⟨6,y11.1.map (ow eR)⟩)] 1 ⟨1,true,none,true⟩,(bP (bG k2) (bW (cZ.plainO _) k<|aQ) k4),k,⟨_,k,.inl k⟩,⟨k,aQ⟩⟩
def yY (x1:((List Br)×Int×Int)):Option (((List Br)×Int×Int) ⊕ ((List Br)×Int)):=
 bif decide (x1.2.2<((x1.1.length:Nat):Int)) then
 ((cY x1.1 x1.2.2).bind λv2=>
 some (.inl ((x1.1.set x1.2.2.toNat (⟨x1.2.1,wr (x1.2.1+1),wr ((wr (x1.2.1+1))+1)⟩:Br)),wr ((wr ((wr (x1.2.1+1))+1))+1),wr (x1.2.2+1))))
 else
 (some (.inr (x1.1,x1.2.1)))
def yH (a0:(List Br)) (a1:Int):Option ((List Br)×Int):=
 (Lp yY (a0,a1,0)).bind λy3=>
 some (y3.1,y3.2)
theorem aJL (a0:(List Br)) (a1:Int) (r:((List Br)×Int)) (h:yH a0 a1=some r):HasT Tryz.prog 68 [.own 0 0 a0.length,.int a1] [(0,⟨3,a0.map (ow eB)⟩)] 1 (.int r.2) [(0,⟨3,r.1.map (ow eB)⟩)]:=by
 refine aDw aJ (rvs:=[.tmp 4]) (ns:=nmA.drop 1) Tryz.func68 k k Tryz.ntmps68 k k<|sS<|jY k2<|sn<|tn<|sQ<|sS<|jY k2<|sn<|tn<|aD<|oB h λy3 hy3 h=>cC (body:=yY) hy3 (λ(x1:((List Br)×Int×Int))=>mN [(0,.own 0 0 x1.1.length),(1,.int x1.2.1),(5,.int x1.2.2)] [(0,⟨3,x1.1.map (ow eB)⟩)] 1 ⟨1,true,none,true⟩) (λr e t=>e= .exit 0∧Ent t (mN [(1,.int r.2)] [(0,⟨3,r.1.map (ow eB)⟩)] 1 ⟨1,true,none,true⟩)) (bP (bG k2) (bW (tB.plainO _) k<|aQ) k4) ?_ ?_
 ·intro x1 o h;refine sQ<|sS<|gJ k2<|gJ k2<|se (dR aJ k k k k) k<|cmS k4<|sn<|tn<|cN k h (λ_ h=>?_) λ_ h=>aY<|aB<|aB<|sp h ⟨_,k,k,(bP (bG k2) (bW (tB.plainO _) k<|aQ) k4)⟩;refine aG<|tn<|sQ<|aD<|sS<|gJ k2<|gJ k2<|gJ k2<|oB h λv2 hv2 h=>dS (t:=mN [(0,.own 0 0 x1.1.length),(1,.int x1.2.1),(5,.int x1.2.2),(6,.int x1.2.2),(7,.own 0 0 x1.1.length),(8,.int ((x1.1.length:Nat):Int)),(9,.bl (decide (x1.2.2<((x1.1.length:Nat):Int)))),(12,.own 0 0 x1.1.length),(13,.int x1.2.2),(14,.int x1.2.1)] [(0,⟨3,(x1.1.map (ow eB)).set x1.2.2.toNat [.int v2.first,.int v2.last,.int v2.count]⟩)] 1 ⟨1,true,none,true⟩) (bP (bG k2) (hX ⟨_,k,k,.inl ⟨zW (dF hv2),vB tB k⟩⟩ k<|aQ) k4)<|se (xo hv2 k) k<|fpS k8<|se (aBJ aJ (A:=x1.1.map (ow eB)) (by rw [dC];exact eX hv2) k k k k k k k) k<|sn<|tn<|sS<|gJ k2<|se (bF k k) k<|jY k2<|sn<|tn<|sS<|gJ k2<|gJ k2<|gJ k2<|se (xo hv2 k) k<|fpS k8 ?_;refine se (aBJ aJ (A:=x1.1.map (ow eB)) (by rw [dC];exact eX hv2) k k k k k k k) k<|sn<|tn<|sS<|gJ k2<|se (bF k k) k<|jY k2<|sn<|tn<|sS<|gJ k2<|gJ k2<|gJ k2<|se (xo hv2 k) k<|fpS k8<|se (aBJ aJ (A:=x1.1.map (ow eB)) (by rw [dC];exact eX hv2) k k k k k k k) k<|sn<|tn<|rgS<|gJ k2<|se (bF k k) k<|jY k2<|sn<|bB<|tn<|rgS<|gJ k2<|se (bF k k) k ?_;exact jY k2<|sn<|tn<|sp h ⟨_,k,(Ent.trans (show Ent _ (mN [(0,.own 0 0 ((x1.1.set x1.2.2.toNat (⟨x1.2.1,wr (x1.2.1+1),wr ((wr (x1.2.1+1))+1)⟩:Br)).length)),(1,.int (wr ((wr ((wr (x1.2.1+1))+1))+1))),(5,.int (wr (x1.2.2+1)))] [(0,⟨3,List.map (ow eB) (x1.1.set x1.2.2.toNat (⟨x1.2.1,wr (x1.2.1+1),wr ((wr (x1.2.1+1))+1)⟩:Br))⟩)] 1 ⟨1,true,none,true⟩) from (bP (gH ⟨_,k,⟨k,k,(by simp only [aH,lA,lT,lR,lC,lN]),k⟩⟩ (bG k2)) (hX ⟨_,k,k,.inl ⟨aCF (⟨x1.2.1,wr (x1.2.1+1),wr ((wr (x1.2.1+1))+1)⟩:Br) k,tB.plainO _⟩⟩ k<|aQ) k4)) (bP (bG k2) (bW (tB.plainO _) k<|aQ) k4))⟩
 ·rintro e t ⟨rfl,hent⟩;exact aN<|tn<|aI hent<|sS<|gJ k2<|jY k2<|sn<|tn<|aE<|sp h ⟨mN [(4,.int y3.2)] [(0,⟨3,y3.1.map (ow eB)⟩)] 1 ⟨1,true,none,true⟩,(bP (bG k2) (bW (tB.plainO _) k<|aQ) k4),k,⟨_,k,.inl k⟩,⟨k,aQ⟩⟩
def vS (a0:Cl) (a1:Int):Option ((List Int)×(List Int)×(List Int)×(List Mt)×(List Int)×(List Int)×(List Int)×(List Mt)×(List Rp)×(List Mt)×(List Br)×(List Int)×(List Sc)×Int):=
 (qN a0.rep a1).bind λv1=>
 bif decide (v1.1.length=a0.rep.q.src.length) then
 (bif decide (v1.2.1.length=a0.rep.q.tgt.length) then
 (bif decide (v1.2.2.1.length=a0.rep.dims.length) then
 (bif decide (v1.2.2.2.1.length=a0.rep.maps.length) then
 ((qN a0.other v1.2.2.2.2).bind λv6=>
 bif decide (v6.1.length=a0.other.q.src.length) then
 (bif decide (v6.2.1.length=a0.other.q.tgt.length) then
 (bif decide (v6.2.2.1.length=a0.other.dims.length) then
 (bif decide (v6.2.2.2.1.length=a0.other.maps.length) then
 ((yG a0.parts v6.2.2.2.2).bind λv11=>
 bif decide (v11.1.length=a0.parts.length) then
 ((jM a0.maps v11.2).bind λv13=>
 bif decide (v13.1.length=a0.maps.length) then
 ((yH a0.bars v13.2).bind λv15=>
 bif decide (v15.1.length=a0.bars.length) then
 ((fJ a0.theta v15.2).bind λv17=>
 bif decide (v17.1.length=a0.theta.length) then
 ((tT a0.subs v17.2).bind λv19=>
 bif decide (v19.1.length=a0.subs.length) then
 (some (v1.1,v1.2.1,v1.2.2.1,v1.2.2.2.1,v6.1,v6.2.1,v6.2.2.1,v6.2.2.2.1,v11.1,v13.1,v15.1,v17.1,v19.1,v19.2))
 else none)
 else none)
 else none)
 else none)
 else none)
 else none)
 else none)
 else none)
 else none)
 else none)
 else none)
 else none)
 else none
theorem aID (a0:Cl) (a1:Int) (r:((List Int)×(List Int)×(List Int)×(List Mt)×(List Int)×(List Int)×(List Int)×(List Mt)×(List Rp)×(List Mt)×(List Br)×(List Int)×(List Sc)×Int)) (h:vS a0 a1=some r):HasT Tryz.prog 29 [.agg [.int a0.kind,.int a0.rep.p,.int a0.rep.q.n,.own 0 0 a0.rep.q.src.length,.own 1 0 a0.rep.q.tgt.length,.own 2 0 a0.rep.dims.length,.own 3 0 a0.rep.maps.length,.int a0.other.p,.int a0.other.q.n,.own 4 0 a0.other.q.src.length,.own 5 0 a0.other.q.tgt.length,.own 6 0 a0.other.dims.length,.own 7 0 a0.other.maps.length,.own 8 0 a0.parts.length,.own 9 0 a0.maps.length,.own 10 0 a0.bars.length,.own 11 0 a0.theta.length,.own 12 0 a0.subs.length],.int a1] [(0,⟨1,a0.rep.q.src.map (ow eI)⟩),(1,⟨1,a0.rep.q.tgt.map (ow eI)⟩),(2,⟨1,a0.rep.dims.map (ow eI)⟩),(3,⟨3,a0.rep.maps.map (ow eM)⟩),(4,⟨1,a0.other.q.src.map (ow eI)⟩),(5,⟨1,a0.other.q.tgt.map (ow eI)⟩),(6,⟨1,a0.other.dims.map (ow eI)⟩),(7,⟨3,a0.other.maps.map (ow eM)⟩),(8,⟨6,a0.parts.map (ow eR)⟩),(9,⟨3,a0.maps.map (ow eM)⟩),(10,⟨3,a0.bars.map (ow eB)⟩),(11,⟨1,a0.theta.map (ow eI)⟩),(12,⟨2,a0.subs.map (ow eS)⟩)] 13 (.int r.2.2.2.2.2.2.2.2.2.2.2.2.2) [(0,⟨1,r.1.map (ow eI)⟩),(1,⟨1,r.2.1.map (ow eI)⟩),(2,⟨1,r.2.2.1.map (ow eI)⟩),(3,⟨3,r.2.2.2.1.map (ow eM)⟩),(4,⟨1,r.2.2.2.2.1.map (ow eI)⟩),(5,⟨1,r.2.2.2.2.2.1.map (ow eI)⟩),(6,⟨1,r.2.2.2.2.2.2.1.map (ow eI)⟩),(7,⟨3,r.2.2.2.2.2.2.2.1.map (ow eM)⟩),(8,⟨6,r.2.2.2.2.2.2.2.2.1.map (ow eR)⟩),(9,⟨3,r.2.2.2.2.2.2.2.2.2.1.map (ow eM)⟩),(10,⟨3,r.2.2.2.2.2.2.2.2.2.2.1.map (ow eB)⟩),(11,⟨1,r.2.2.2.2.2.2.2.2.2.2.2.1.map (ow eI)⟩),(12,⟨2,r.2.2.2.2.2.2.2.2.2.2.2.2.1.map (ow eS)⟩)]:=by
 refine aDw aJ (rvs:=[.tmp 4]) (ns:=nmA.drop 13) Tryz.func29 k k Tryz.ntmps29 k k<|sS<|se (wb k) k<|jY k2<|sn<|tn<|sS<|fpS k8<|lpS k8<|gJ k2<|oB h λv1 hv1 h=>dS (t:=mN [(0,.agg [.int a0.kind,.int a0.rep.p,.int a0.rep.q.n,.own 0 0 a0.rep.q.src.length,.own 1 0 a0.rep.q.tgt.length,.own 2 0 a0.rep.dims.length,.own 3 0 a0.rep.maps.length,.int a0.other.p,.int a0.other.q.n,.own 4 0 a0.other.q.src.length,.own 5 0 a0.other.q.tgt.length,.own 6 0 a0.other.dims.length,.own 7 0 a0.other.maps.length,.own 8 0 a0.parts.length,.own 9 0 a0.maps.length,.own 10 0 a0.bars.length,.own 11 0 a0.theta.length,.own 12 0 a0.subs.length]),(1,.int a1),(2,.ptr 13 0 0),(4,.int 0),(5,.ptr 13 0 1),(6,.agg (oRp a0.rep 0 1 2 3)),(7,.int a1)] [(0,⟨1,a0.rep.q.src.map (ow eI)⟩),(1,⟨1,a0.rep.q.tgt.map (ow eI)⟩),(2,⟨1,a0.rep.dims.map (ow eI)⟩),(3,⟨3,a0.rep.maps.map (ow eM)⟩),(4,⟨1,a0.other.q.src.map (ow eI)⟩),(5,⟨1,a0.other.q.tgt.map (ow eI)⟩),(6,⟨1,a0.other.dims.map (ow eI)⟩),(7,⟨3,a0.other.maps.map (ow eM)⟩),(8,⟨6,a0.parts.map (ow eR)⟩),(9,⟨3,a0.maps.map (ow eM)⟩),(10,⟨3,a0.bars.map (ow eB)⟩),(11,⟨1,a0.theta.map (ow eI)⟩),(12,⟨2,a0.subs.map (ow eS)⟩),(13,⟨18,[[.int a0.kind,.int a0.rep.p,.int a0.rep.q.n,.own 0 0 a0.rep.q.src.length,.own 1 0 a0.rep.q.tgt.length,.own 2 0 a0.rep.dims.length,.own 3 0 a0.rep.maps.length,.int a0.other.p,.int a0.other.q.n,.own 4 0 a0.other.q.src.length,.own 5 0 a0.other.q.tgt.length,.own 6 0 a0.other.dims.length,.own 7 0 a0.other.maps.length,.own 8 0 a0.parts.length,.own 9 0 a0.maps.length,.own 10 0 a0.bars.length,.own 11 0 a0.theta.length,.own 12 0 a0.subs.length]]⟩)] 14 ⟨13,true,none,true⟩) (bP (bG k2) (bN k<|bN k<|bN k<|bW (aX.plainO _) k<|bN k<|bN k<|bN k<|bW (aX.plainO _) k<|bW (cZ.plainO _) k<|bW (aX.plainO _) k<|bW (tB.plainO _) k<|bN k<|bW (cV.plainO _) k<|eJ k<|aQ) k4)<|aCH (σ:=sg [(0,0),(1,1),(2,2),(3,3)]) (σ':=sg [(0,0),(1,1),(2,2),(3,3)]) (touch:=[0,1,2,3]) (news:=[]) (hl2:=[(0,⟨1,v1.1.map (ow eI)⟩),(1,⟨1,v1.2.1.map (ow eI)⟩),(2,⟨1,v1.2.2.1.map (ow eI)⟩),(3,⟨3,v1.2.2.2.1.map (ow eM)⟩)]) (n':=14) (r2:= .int v1.2.2.2.2) (aCP a0.rep a1 v1 hv1) k k ⟨_,_,k,⟨_,_,k,k,⟨_,_,k,k,⟨_,_,k,⟨k,k,k,k⟩,⟨_,_,k,⟨k,k,k,k⟩,⟨_,_,k,⟨k,k,k,k⟩,⟨_,_,k,⟨k,k,k,k⟩,k⟩⟩⟩⟩⟩⟩,⟨_,_,k,k,k⟩⟩ ⟨⟨_,k,k,.inl ⟨k,cA.plainO _⟩⟩,k,⟨_,k,k,.inl ⟨k,cA.plainO _⟩⟩,k,⟨_,k,k,.inl ⟨k,cA.plainO _⟩⟩,k,⟨_,k,k,.inl ⟨k,aX.plainO _⟩⟩,k,aQ⟩ k k k ⟨⟨_,k,k,.inl ⟨k,cA.plainO _⟩⟩,k,⟨_,k,k,.inl ⟨k,cA.plainO _⟩⟩,k,⟨_,k,k,.inl ⟨k,cA.plainO _⟩⟩,k,⟨_,k,k,.inl ⟨k,aX.plainO _⟩⟩,k,aQ⟩ k k k ⟨k,cA.tame _ _,⟨k,cA.tame _ _,⟨k,cA.tame _ _,⟨k,aX.tame _ _,aQ⟩⟩⟩⟩ k k k k k (lU ⟨k,k,k,k,k,k,k,aQ⟩) (lW (skip:=[0,1,2,3]) ⟨.inl (by decide),.inl (by decide),.inl (by decide),.inl (by decide),.inr (cA.df _ _),.inr (cA.df _ _),.inr (cA.df _ _),.inr (aX.df _ _),.inr (cZ.df _ _),.inr (aX.df _ _),.inr (tB.df _ _),.inr (cA.df _ _),.inr (cV.df _ _),.inr (kR k),aQ⟩)<|cG h λq2 h=>cG h λq3 h=>cG h λq4 h=>cG h λq5 h=>jY k2<|sn<|tn<|sS<|fpS k8<|lpS k8<|gJ k2<|oB h λv6 hv6 h=>dS (t:=mN [(0,.agg [.int a0.kind,.int a0.rep.p,.int a0.rep.q.n,.own 0 0 a0.rep.q.src.length,.own 1 0 a0.rep.q.tgt.length,.own 2 0 a0.rep.dims.length,.own 3 0 a0.rep.maps.length,.int a0.other.p,.int a0.other.q.n,.own 4 0 a0.other.q.src.length,.own 5 0 a0.other.q.tgt.length,.own 6 0 a0.other.dims.length,.own 7 0 a0.other.maps.length,.own 8 0 a0.parts.length,.own 9 0 a0.maps.length,.own 10 0 a0.bars.length,.own 11 0 a0.theta.length,.own 12 0 a0.subs.length]),(1,.int v1.2.2.2.2),(2,.ptr 13 0 0),(4,.int 0),(5,.ptr 13 0 1),(6,.agg (oRp a0.rep 0 1 2 3)),(7,.int a1),(8,.int v1.2.2.2.2),(9,.ptr 13 0 7),(10,.agg (oRp a0.other 4 5 6 7)),(11,.int v1.2.2.2.2)] [(0,⟨1,v1.1.map (ow eI)⟩),(1,⟨1,v1.2.1.map (ow eI)⟩),(2,⟨1,v1.2.2.1.map (ow eI)⟩),(3,⟨3,v1.2.2.2.1.map (ow eM)⟩),(4,⟨1,a0.other.q.src.map (ow eI)⟩),(5,⟨1,a0.other.q.tgt.map (ow eI)⟩),(6,⟨1,a0.other.dims.map (ow eI)⟩),(7,⟨3,a0.other.maps.map (ow eM)⟩),(8,⟨6,a0.parts.map (ow eR)⟩),(9,⟨3,a0.maps.map (ow eM)⟩),(10,⟨3,a0.bars.map (ow eB)⟩),(11,⟨1,a0.theta.map (ow eI)⟩),(12,⟨2,a0.subs.map (ow eS)⟩),(13,⟨18,[[.int a0.kind,.int a0.rep.p,.int a0.rep.q.n,.own 0 0 a0.rep.q.src.length,.own 1 0 a0.rep.q.tgt.length,.own 2 0 a0.rep.dims.length,.own 3 0 a0.rep.maps.length,.int a0.other.p,.int a0.other.q.n,.own 4 0 a0.other.q.src.length,.own 5 0 a0.other.q.tgt.length,.own 6 0 a0.other.dims.length,.own 7 0 a0.other.maps.length,.own 8 0 a0.parts.length,.own 9 0 a0.maps.length,.own 10 0 a0.bars.length,.own 11 0 a0.theta.length,.own 12 0 a0.subs.length]]⟩)] 14 ⟨13,true,none,true⟩) (bP (bG k2) (bN k<|bN k<|bN k<|bW (aX.plainO _) k<|bN k<|bN k<|bN k<|bW (aX.plainO _) k<|bW (cZ.plainO _) k<|bW (aX.plainO _) k<|bW (tB.plainO _) k<|bN k<|bW (cV.plainO _) k<|eJ k<|aQ) k4)<|aCH (σ:=sg [(0,4),(1,5),(2,6),(3,7)]) (σ':=sg [(4,0),(5,1),(6,2),(7,3)]) (touch:=[4,5,6,7]) (news:=[]) (hl2:=[(4,⟨1,v6.1.map (ow eI)⟩),(5,⟨1,v6.2.1.map (ow eI)⟩),(6,⟨1,v6.2.2.1.map (ow eI)⟩),(7,⟨3,v6.2.2.2.1.map (ow eM)⟩)]) (n':=14) (r2:= .int v6.2.2.2.2) (aCP a0.other v1.2.2.2.2 v6 hv6) k k ⟨_,_,k,⟨_,_,k,k,⟨_,_,k,k,⟨_,_,k,⟨k,k,k,k⟩,⟨_,_,k,⟨k,k,k,k⟩,⟨_,_,k,⟨k,k,k,k⟩,⟨_,_,k,⟨k,k,k,k⟩,k⟩⟩⟩⟩⟩⟩,⟨_,_,k,k,k⟩⟩ ⟨⟨_,k,k,.inl ⟨k,cA.plainO _⟩⟩,k,⟨_,k,k,.inl ⟨k,cA.plainO _⟩⟩,k,⟨_,k,k,.inl ⟨k,cA.plainO _⟩⟩,k,⟨_,k,k,.inl ⟨k,aX.plainO _⟩⟩,k,aQ⟩ k k k ⟨⟨_,k,k,.inl ⟨k,cA.plainO _⟩⟩,k,⟨_,k,k,.inl ⟨k,cA.plainO _⟩⟩,k,⟨_,k,k,.inl ⟨k,cA.plainO _⟩⟩,k,⟨_,k,k,.inl ⟨k,aX.plainO _⟩⟩,k,aQ⟩ k k k ⟨k,cA.tame _ _,⟨k,cA.tame _ _,⟨k,cA.tame _ _,⟨k,aX.tame _ _,aQ⟩⟩⟩⟩ k k k k k (lU ⟨k,k,k,k,k,k,k,k,k,k,k,aQ⟩) (lW (skip:=[4,5,6,7]) ⟨.inr (cA.df _ _),.inr (cA.df _ _),.inr (cA.df _ _),.inr (aX.df _ _),.inl (by decide),.inl (by decide),.inl (by decide),.inl (by decide),.inr (cZ.df _ _),.inr (aX.df _ _),.inr (tB.df _ _),.inr (cA.df _ _),.inr (cV.df _ _),.inr (kR k),aQ⟩) ?_;refine cG h λq7 h=>cG h λq8 h=>cG h λq9 h=>cG h λq10 h=>jY k2<|sn<|tn<|sS<|fpS k8<|lpS k8<|gJ k2<|oB h λv11 hv11 h=>dS (t:=mN [(0,.agg [.int a0.kind,.int a0.rep.p,.int a0.rep.q.n,.own 0 0 a0.rep.q.src.length,.own 1 0 a0.rep.q.tgt.length,.own 2 0 a0.rep.dims.length,.own 3 0 a0.rep.maps.length,.int a0.other.p,.int a0.other.q.n,.own 4 0 a0.other.q.src.length,.own 5 0 a0.other.q.tgt.length,.own 6 0 a0.other.dims.length,.own 7 0 a0.other.maps.length,.own 8 0 a0.parts.length,.own 9 0 a0.maps.length,.own 10 0 a0.bars.length,.own 11 0 a0.theta.length,.own 12 0 a0.subs.length]),(1,.int v6.2.2.2.2),(2,.ptr 13 0 0),(4,.int 0),(5,.ptr 13 0 1),(6,.agg (oRp a0.rep 0 1 2 3)),(7,.int a1),(8,.int v1.2.2.2.2),(9,.ptr 13 0 7),(10,.agg (oRp a0.other 4 5 6 7)),(11,.int v1.2.2.2.2),(12,.int v6.2.2.2.2),(13,.ptr 13 0 13),(14,.own 8 0 a0.parts.length),(15,.int v6.2.2.2.2)] [(0,⟨1,v1.1.map (ow eI)⟩),(1,⟨1,v1.2.1.map (ow eI)⟩),(2,⟨1,v1.2.2.1.map (ow eI)⟩),(3,⟨3,v1.2.2.2.1.map (ow eM)⟩),(4,⟨1,v6.1.map (ow eI)⟩),(5,⟨1,v6.2.1.map (ow eI)⟩),(6,⟨1,v6.2.2.1.map (ow eI)⟩),(7,⟨3,v6.2.2.2.1.map (ow eM)⟩),(8,⟨6,a0.parts.map (ow eR)⟩),(9,⟨3,a0.maps.map (ow eM)⟩),(10,⟨3,a0.bars.map (ow eB)⟩),(11,⟨1,a0.theta.map (ow eI)⟩),(12,⟨2,a0.subs.map (ow eS)⟩),(13,⟨18,[[.int a0.kind,.int a0.rep.p,.int a0.rep.q.n,.own 0 0 a0.rep.q.src.length,.own 1 0 a0.rep.q.tgt.length,.own 2 0 a0.rep.dims.length,.own 3 0 a0.rep.maps.length,.int a0.other.p,.int a0.other.q.n,.own 4 0 a0.other.q.src.length,.own 5 0 a0.other.q.tgt.length,.own 6 0 a0.other.dims.length,.own 7 0 a0.other.maps.length,.own 8 0 a0.parts.length,.own 9 0 a0.maps.length,.own 10 0 a0.bars.length,.own 11 0 a0.theta.length,.own 12 0 a0.subs.length]]⟩)] 14 ⟨13,true,none,true⟩) (bP (bG k2) (bN k<|bN k<|bN k<|bW (aX.plainO _) k<|bN k<|bN k<|bN k<|bW (aX.plainO _) k<|bW (cZ.plainO _) k<|bW (aX.plainO _) k<|bW (tB.plainO _) k<|bN k<|bW (cV.plainO _) k<|eJ k<|aQ) k4)<|aCH (σ:=sg [(0,8)]) (σ':=sg [(8,0)]) (touch:=[8]) (news:=[]) (hl2:=[(8,⟨6,v11.1.map (ow eR)⟩)]) (n':=14) (r2:= .int v11.2) (aJK a0.parts v6.2.2.2.2 v11 hv11) k k ⟨_,_,k,⟨k,k,k,k⟩,⟨_,_,k,k,k⟩⟩ ⟨⟨_,k,k,.inl ⟨k,cZ.plainO _⟩⟩,k,aQ⟩ k k k ⟨⟨_,k,k,.inl ⟨k,cZ.plainO _⟩⟩,k,aQ⟩ k k k ⟨k,cZ.tame _ _,aQ⟩ k k k k k (lU ⟨k,k,k,k,k,k,k,k,k,k,k,k,k,k,k,aQ⟩) (lW (skip:=[8]) ⟨.inr (cA.df _ _),.inr (cA.df _ _),.inr (cA.df _ _),.inr (aX.df _ _),.inr (cA.df _ _),.inr (cA.df _ _),.inr (cA.df _ _),.inr (aX.df _ _),.inl (by decide),.inr (aX.df _ _),.inr (tB.df _ _),.inr (cA.df _ _),.inr (cV.df _ _),.inr (kR k),aQ⟩)<|cG h λq12 h=>jY k2<|sn<|tn<|sS<|fpS k8<|lpS k8<|gJ k2<|oB h λv13 hv13 h=>dS (t:=mN [(0,.agg [.int a0.kind,.int a0.rep.p,.int a0.rep.q.n,.own 0 0 a0.rep.q.src.length,.own 1 0 a0.rep.q.tgt.length,.own 2 0 a0.rep.dims.length,.own 3 0 a0.rep.maps.length,.int a0.other.p,.int a0.other.q.n,.own 4 0 a0.other.q.src.length,.own 5 0 a0.other.q.tgt.length,.own 6 0 a0.other.dims.length,.own 7 0 a0.other.maps.length,.own 8 0 a0.parts.length,.own 9 0 a0.maps.length,.own 10 0 a0.bars.length,.own 11 0 a0.theta.length,.own 12 0 a0.subs.length]),(1,.int v11.2),(2,.ptr 13 0 0),(4,.int 0),(5,.ptr 13 0 1),(6,.agg (oRp a0.rep 0 1 2 3)),(7,.int a1),(8,.int v1.2.2.2.2),(9,.ptr 13 0 7),(10,.agg (oRp a0.other 4 5 6 7)),(11,.int v1.2.2.2.2),(12,.int v6.2.2.2.2),(13,.ptr 13 0 13),(14,.own 8 0 a0.parts.length),(15,.int v6.2.2.2.2),(16,.int v11.2),(17,.ptr 13 0 14),(18,.own 9 0 a0.maps.length),(19,.int v11.2)] [(0,⟨1,v1.1.map (ow eI)⟩),(1,⟨1,v1.2.1.map (ow eI)⟩),(2,⟨1,v1.2.2.1.map (ow eI)⟩),(3,⟨3,v1.2.2.2.1.map (ow eM)⟩),(4,⟨1,v6.1.map (ow eI)⟩),(5,⟨1,v6.2.1.map (ow eI)⟩),(6,⟨1,v6.2.2.1.map (ow eI)⟩),(7,⟨3,v6.2.2.2.1.map (ow eM)⟩),(8,⟨6,v11.1.map (ow eR)⟩),(9,⟨3,a0.maps.map (ow eM)⟩),(10,⟨3,a0.bars.map (ow eB)⟩),(11,⟨1,a0.theta.map (ow eI)⟩),(12,⟨2,a0.subs.map (ow eS)⟩),(13,⟨18,[[.int a0.kind,.int a0.rep.p,.int a0.rep.q.n,.own 0 0 a0.rep.q.src.length,.own 1 0 a0.rep.q.tgt.length,.own 2 0 a0.rep.dims.length,.own 3 0 a0.rep.maps.length,.int a0.other.p,.int a0.other.q.n,.own 4 0 a0.other.q.src.length,.own 5 0 a0.other.q.tgt.length,.own 6 0 a0.other.dims.length,.own 7 0 a0.other.maps.length,.own 8 0 a0.parts.length,.own 9 0 a0.maps.length,.own 10 0 a0.bars.length,.own 11 0 a0.theta.length,.own 12 0 a0.subs.length]]⟩)] 14 ⟨13,true,none,true⟩) (bP (bG k2) (bN k<|bN k<|bN k<|bW (aX.plainO _) k<|bN k<|bN k<|bN k<|bW (aX.plainO _) k<|bW (cZ.plainO _) k<|bW (aX.plainO _) k<|bW (tB.plainO _) k<|bN k<|bW (cV.plainO _) k<|eJ k<|aQ) k4)<|aCH (σ:=sg [(0,9)]) (σ':=sg [(9,0)]) (touch:=[9]) (news:=[]) (hl2:=[(9,⟨3,v13.1.map (ow eM)⟩)]) (n':=14) (r2:= .int v13.2) (yX a0.maps v11.2 v13 hv13) k k ⟨_,_,k,⟨k,k,k,k⟩,⟨_,_,k,k,k⟩⟩ ⟨⟨_,k,k,.inl ⟨k,aX.plainO _⟩⟩,k,aQ⟩ k k k ⟨⟨_,k,k,.inl ⟨k,aX.plainO _⟩⟩,k,aQ⟩ k k k ⟨k,aX.tame _ _,aQ⟩ k k k k k (lU ⟨k,k,k,k,k,k,k,k,k,k,k,k,k,k,k,k,k,k,k,aQ⟩) (lW (skip:=[9]) ⟨.inr (cA.df _ _),.inr (cA.df _ _),.inr (cA.df _ _),.inr (aX.df _ _),.inr (cA.df _ _),.inr (cA.df _ _),.inr (cA.df _ _),.inr (aX.df _ _),.inr (cZ.df _ _),.inl (by decide),.inr (tB.df _ _),.inr (cA.df _ _),.inr (cV.df _ _),.inr (kR k),aQ⟩) ?_;refine cG h λq14 h=>jY k2<|sn<|tn<|sS<|fpS k8<|lpS k8<|gJ k2<|oB h λv15 hv15 h=>dS (t:=mN [(0,.agg [.int a0.kind,.int a0.rep.p,.int a0.rep.q.n,.own 0 0 a0.rep.q.src.length,.own 1 0 a0.rep.q.tgt.length,.own 2 0 a0.rep.dims.length,.own 3 0 a0.rep.maps.length,.int a0.other.p,.int a0.other.q.n,.own 4 0 a0.other.q.src.length,.own 5 0 a0.other.q.tgt.length,.own 6 0 a0.other.dims.length,.own 7 0 a0.other.maps.length,.own 8 0 a0.parts.length,.own 9 0 a0.maps.length,.own 10 0 a0.bars.length,.own 11 0 a0.theta.length,.own 12 0 a0.subs.length]),(1,.int v13.2),(2,.ptr 13 0 0),(4,.int 0),(5,.ptr 13 0 1),(6,.agg (oRp a0.rep 0 1 2 3)),(7,.int a1),(8,.int v1.2.2.2.2),(9,.ptr 13 0 7),(10,.agg (oRp a0.other 4 5 6 7)),(11,.int v1.2.2.2.2),(12,.int v6.2.2.2.2),(13,.ptr 13 0 13),(14,.own 8 0 a0.parts.length),(15,.int v6.2.2.2.2),(16,.int v11.2),(17,.ptr 13 0 14),(18,.own 9 0 a0.maps.length),(19,.int v11.2),(20,.int v13.2),(21,.ptr 13 0 15),(22,.own 10 0 a0.bars.length),(23,.int v13.2)] [(0,⟨1,v1.1.map (ow eI)⟩),(1,⟨1,v1.2.1.map (ow eI)⟩),(2,⟨1,v1.2.2.1.map (ow eI)⟩),(3,⟨3,v1.2.2.2.1.map (ow eM)⟩),(4,⟨1,v6.1.map (ow eI)⟩),(5,⟨1,v6.2.1.map (ow eI)⟩),(6,⟨1,v6.2.2.1.map (ow eI)⟩),(7,⟨3,v6.2.2.2.1.map (ow eM)⟩),(8,⟨6,v11.1.map (ow eR)⟩),(9,⟨3,v13.1.map (ow eM)⟩),(10,⟨3,a0.bars.map (ow eB)⟩),(11,⟨1,a0.theta.map (ow eI)⟩),(12,⟨2,a0.subs.map (ow eS)⟩),(13,⟨18,[[.int a0.kind,.int a0.rep.p,.int a0.rep.q.n,.own 0 0 a0.rep.q.src.length,.own 1 0 a0.rep.q.tgt.length,.own 2 0 a0.rep.dims.length,.own 3 0 a0.rep.maps.length,.int a0.other.p,.int a0.other.q.n,.own 4 0 a0.other.q.src.length,.own 5 0 a0.other.q.tgt.length,.own 6 0 a0.other.dims.length,.own 7 0 a0.other.maps.length,.own 8 0 a0.parts.length,.own 9 0 a0.maps.length,.own 10 0 a0.bars.length,.own 11 0 a0.theta.length,.own 12 0 a0.subs.length]]⟩)] 14 ⟨13,true,none,true⟩) (bP (bG k2) (bN k<|bN k<|bN k<|bW (aX.plainO _) k<|bN k<|bN k<|bN k<|bW (aX.plainO _) k<|bW (cZ.plainO _) k<|bW (aX.plainO _) k<|bW (tB.plainO _) k<|bN k<|bW (cV.plainO _) k<|eJ k<|aQ) k4)<|aCH (σ:=sg [(0,10)]) (σ':=sg [(10,0)]) (touch:=[10]) (news:=[]) (hl2:=[(10,⟨3,v15.1.map (ow eB)⟩)]) (n':=14) (r2:= .int v15.2) (aJL a0.bars v13.2 v15 hv15) k k ⟨_,_,k,⟨k,k,k,k⟩,⟨_,_,k,k,k⟩⟩ ⟨⟨_,k,k,.inl ⟨k,tB.plainO _⟩⟩,k,aQ⟩ k k k ⟨⟨_,k,k,.inl ⟨k,tB.plainO _⟩⟩,k,aQ⟩ k k k ⟨k,tB.tame _ _,aQ⟩ k k k k k (lU ⟨k,k,k,k,k,k,k,k,k,k,k,k,k,k,k,k,k,k,k,k,k,k,k,aQ⟩) (lW (skip:=[10]) ⟨.inr (cA.df _ _),.inr (cA.df _ _),.inr (cA.df _ _),.inr (aX.df _ _),.inr (cA.df _ _),.inr (cA.df _ _),.inr (cA.df _ _),.inr (aX.df _ _),.inr (cZ.df _ _),.inr (aX.df _ _),.inl (by decide),.inr (cA.df _ _),.inr (cV.df _ _),.inr (kR k),aQ⟩)<|cG h λq16 h=>jY k2<|sn<|tn<|sS<|fpS k8<|lpS k8<|gJ k2<|oB h λv17 hv17 h=>se (gP (σ:=sg [(0,11)]) (σ':=sg [(11,0)]) (touch:=[11]) (news:=[]) (hl2:=[(11,⟨1,v17.1.map (ow eI)⟩)]) (n':=14) (r2:= .int v17.2) (gY a0.theta v15.2 v17 hv17) k k ⟨_,_,k,⟨k,k,k,k⟩,⟨_,_,k,k,k⟩⟩ ⟨⟨_,k,k,.inl ⟨k,cA.plainO _⟩⟩,k,aQ⟩ k k k ⟨⟨_,k,k,.inl ⟨k,cA.plainO _⟩⟩,k,aQ⟩ k k k ⟨k,cA.tame _ _,aQ⟩ k k) k<|cG h λq18 h=>jY k2<|sn<|tn<|sS<|fpS k8<|lpS k8<|gJ k2<|oB h λv19 hv19 h=>dS (t:=mN ((0,.agg [.int a0.kind,.int a0.rep.p,.int a0.rep.q.n,.own 0 0 a0.rep.q.src.length,.own 1 0 a0.rep.q.tgt.length,.own 2 0 a0.rep.dims.length,.own 3 0 a0.rep.maps.length,.int a0.other.p,.int a0.other.q.n,.own 4 0 a0.other.q.src.length,.own 5 0 a0.other.q.tgt.length,.own 6 0 a0.other.dims.length,.own 7 0 a0.other.maps.length,.own 8 0 a0.parts.length,.own 9 0 a0.maps.length,.own 10 0 a0.bars.length,.own 11 0 a0.theta.length,.own 12 0 a0.subs.length])::(1,.int v17.2)::(2,.ptr 13 0 0)::(4,.int 0)::(5,.ptr 13 0 1)::(6,.agg (oRp a0.rep 0 1 2 3))::(7,.int a1)::(8,.int v1.2.2.2.2)::(9,.ptr 13 0 7)::(10,.agg (oRp a0.other 4 5 6 7))::(11,.int v1.2.2.2.2)::(12,.int v6.2.2.2.2)::(13,.ptr 13 0 13)::(14,.own 8 0 a0.parts.length)::(15,.int v6.2.2.2.2)::(16,.int v11.2)::(17,.ptr 13 0 14)::(18,.own 9 0 a0.maps.length)::(19,.int v11.2)::(20,.int v13.2)::(21,.ptr 13 0 15)::(22,.own 10 0 a0.bars.length)::(23,.int v13.2)::(24,.int v15.2)::(25,.ptr 13 0 16)::(26,.own 11 0 a0.theta.length)::(27,.int v15.2)::(28,.int v17.2)::(29,.ptr 13 0 17)::(30,.own 12 0 a0.subs.length)::(31,.int v17.2)::[]) [(0,⟨1,v1.1.map (ow eI)⟩),(1,⟨1,v1.2.1.map (ow eI)⟩),(2,⟨1,v1.2.2.1.map (ow eI)⟩),(3,⟨3,v1.2.2.2.1.map (ow eM)⟩),(4,⟨1,v6.1.map (ow eI)⟩),(5,⟨1,v6.2.1.map (ow eI)⟩),(6,⟨1,v6.2.2.1.map (ow eI)⟩),(7,⟨3,v6.2.2.2.1.map (ow eM)⟩),(8,⟨6,v11.1.map (ow eR)⟩),(9,⟨3,v13.1.map (ow eM)⟩),(10,⟨3,v15.1.map (ow eB)⟩),(11,⟨1,v17.1.map (ow eI)⟩),(12,⟨2,a0.subs.map (ow eS)⟩),(13,⟨18,[[.int a0.kind,.int a0.rep.p,.int a0.rep.q.n,.own 0 0 a0.rep.q.src.length,.own 1 0 a0.rep.q.tgt.length,.own 2 0 a0.rep.dims.length,.own 3 0 a0.rep.maps.length,.int a0.other.p,.int a0.other.q.n,.own 4 0 a0.other.q.src.length,.own 5 0 a0.other.q.tgt.length,.own 6 0 a0.other.dims.length,.own 7 0 a0.other.maps.length,.own 8 0 a0.parts.length,.own 9 0 a0.maps.length,.own 10 0 a0.bars.length,.own 11 0 a0.theta.length,.own 12 0 a0.subs.length]]⟩)] 14 ⟨13,true,none,true⟩) (bP (bG k2) (bN k<|bN k<|bN k<|bW (aX.plainO _) k<|bN k<|bN k<|bN k<|bW (aX.plainO _) k<|bW (cZ.plainO _) k<|bW (aX.plainO _) k<|bW (tB.plainO _) k<|bN k<|bW (cV.plainO _) k<|eJ k<|aQ) k4) ?_;exact aCH (σ:=sg [(0,12)]) (σ':=sg [(12,0)]) (touch:=[12]) (news:=[]) (hl2:=[(12,⟨2,v19.1.map (ow eS)⟩)]) (n':=14) (r2:= .int v19.2) (aHD a0.subs v17.2 v19 hv19) k k ⟨_,_,k,⟨k,k,k,k⟩,⟨_,_,k,k,k⟩⟩ ⟨⟨_,k,k,.inl ⟨k,cV.plainO _⟩⟩,k,aQ⟩ k k k ⟨⟨_,k,k,.inl ⟨k,cV.plainO _⟩⟩,k,aQ⟩ k k k ⟨k,cV.tame _ _,aQ⟩ k k k k k (lU ⟨k,k,k,k,k,k,k,k,k,k,k,k,k,k,k,k,k,k,k,k,k,k,k,k,k,k,k,k,k,k,k,aQ⟩) (lW (skip:=[12]) ⟨.inr (cA.df _ _),.inr (cA.df _ _),.inr (cA.df _ _),.inr (aX.df _ _),.inr (cA.df _ _),.inr (cA.df _ _),.inr (cA.df _ _),.inr (aX.df _ _),.inr (cZ.df _ _),.inr (aX.df _ _),.inr (tB.df _ _),.inr (cA.df _ _),.inl (by decide),.inr (kR k),aQ⟩)<|cG h λq20 h=>jY k2<|sn<|tn<|sS<|gJ k2<|jY k2<|sn<|tn<|aE<|sp h ⟨mN [(4,.int v19.2)] [(0,⟨1,v1.1.map (ow eI)⟩),(1,⟨1,v1.2.1.map (ow eI)⟩),(2,⟨1,v1.2.2.1.map (ow eI)⟩),(3,⟨3,v1.2.2.2.1.map (ow eM)⟩),(4,⟨1,v6.1.map (ow eI)⟩),(5,⟨1,v6.2.1.map (ow eI)⟩),(6,⟨1,v6.2.2.1.map (ow eI)⟩),(7,⟨3,v6.2.2.2.1.map (ow eM)⟩),(8,⟨6,v11.1.map (ow eR)⟩),(9,⟨3,v13.1.map (ow eM)⟩),(10,⟨3,v15.1.map (ow eB)⟩),(11,⟨1,v17.1.map (ow eI)⟩),(12,⟨2,v19.1.map (ow eS)⟩)] 13 ⟨13,true,none,true⟩,(bP (bG k2) (bN k<|bN k<|bN k<|bW (aX.plainO _) k<|bN k<|bN k<|bN k<|bW (aX.plainO _) k<|bW (cZ.plainO _) k<|bW (aX.plainO _) k<|bW (tB.plainO _) k<|bN k<|bW (cV.plainO _) k<|aQ) k4),k,⟨_,k,.inl k⟩,⟨k,k,k,k,k,k,k,k,k,k,k,k,k,aQ⟩⟩
def rW (a0:(List Int)) (x1:(Int×Int)):Option ((Int×Int) ⊕ (Int ⊕ Int)):=
 bif decide (x1.2<(a0.length:Int)) then
 ((cY a0 x1.2).bind λv2=>
 bif !decide (v2=x1.1) then
 (some (.inr (.inr ((-1)))))
 else
 (some (.inl (wr (x1.1+1),wr (x1.2+1)))))
 else
 (some (.inr (.inl x1.1)))
def fK (a0:(List Int)) (a1:Int):Option Int:=
 (Lp (rW a0) (a1,0)).bind λy4=>
 Sum.elim (λy5=>
 some (y5)
 )
 (λy6=>
 some y6
 )
 y4
theorem gZ (a0:(List Int)) (a1:Int) (r:Int) (h:fK a0 a1=some r):HasC Tryz.prog 23 [.list 1 (a0.map eI),.int a1] (.int r):=by
 refine hM [.tmp 4] Tryz.func23 Tryz.ntmps23 k<|sR<|aT k2<|sQ<|sR<|aT k2<|aD<|oB h λy4 hy4 h=>cC (body:=(rW a0)) hy4 (λ(x1:(Int×Int))=>mN [(0,.list 1 (a0.map eI)),(1,.int x1.1),(5,.int x1.2)] [] 0) (λr e t=>Sum.elim (λa=>(λr e t=>e= .exit 0∧Ent t (mN [(1,.int r)] [] 0)) a e t) (λb=>(λr e t=>e= .ret∧mW TT [.tmp 4] (.int r) .ret t) b e t) r) (bP (bG k2) aQ k4) ?_ ?_
 ·intro x1 o h;exact sQ<|sR<|am k k<|am k k<|ln k4<|cm k4<|an<|tn<|cN k h (λ_ h=>aG<|tn<|sQ<|aD<|sQ<|sR<|am k k<|am k k<|oB h λv2 hv2 h=>ae (xl hv2 k) k<|lr k7<|am k k<|cm k4<|an<|tn<|cN k h (λ_ h=>sR<|aT k2<|aE<|aC<|bC<|aC<|aC<|sp h ⟨_,k,k,bD k k k (mY k)⟩) λ_ h=>aG<|tn<|rg<|am k k<|ae (bF k k) k<|aa k k<|an<|bB<|tn<|rg<|am k k<|ae (bF k k) k<|aT k2<|sp h ⟨_,k,(bP (bG k2) aQ k4)⟩) λ_ h=>aY<|aB<|aB<|sp h ⟨_,k,k,(bP (bG k2) aQ k4)⟩
 ·intro e t hX;rcases y4 with y5|y6
  ·obtain ⟨rfl,hent⟩:=hX;exact aN<|tn<|aI hent<|sR<|am k k<|aT k2<|aE<|rtI h k2
  ·obtain ⟨rfl,hent⟩:=hX;exact bC<|aC<|sp h hent
def pP (a0:(List (List Int))) (x1:(Int×Int)):Option ((Int×Int) ⊕ (Int ⊕ Int)):=
 bif decide (x1.2<(a0.length:Int)) then
 ((cY a0 x1.2).bind λv2=>
 (fK v2 x1.1).bind λv3=>
 bif decide (v3<0) then
 (some (.inr (.inr ((-1)))))
 else
 (some (.inl (v3,wr (x1.2+1)))))
 else
 (some (.inr (.inl x1.1)))
def vT (a0:(List (List Int))) (a1:Int):Option Int:=
 (Lp (pP a0) (a1,0)).bind λy5=>
 Sum.elim (λy6=>
 some (y6)
 )
 (λy7=>
 some y7
 )
 y5
theorem aIE (a0:(List (List Int))) (a1:Int) (r:Int) (h:vT a0 a1=some r):HasC Tryz.prog 126 [.list 1 (a0.map (dQ 1 eI)),.int a1] (.int r):=by
 refine hM [.tmp 4] Tryz.func126 Tryz.ntmps126 k<|sR<|aT k2<|sQ<|sR<|aT k2<|aD<|oB h λy5 hy5 h=>cC (body:=(pP a0)) hy5 (λ(x1:(Int×Int))=>mN [(0,.list 1 (a0.map (dQ 1 eI))),(1,.int x1.1),(5,.int x1.2)] [] 0) (λr e t=>Sum.elim (λa=>(λr e t=>e= .exit 0∧Ent t (mN [(1,.int r)] [] 0)) a e t) (λb=>(λr e t=>e= .ret∧mW TT [.tmp 4] (.int r) .ret t) b e t) r) (bP (bG k2) aQ k4) ?_ ?_
 ·intro x1 o h;exact sQ<|sR<|am k k<|am k k<|ln k4<|cm k4<|an<|tn<|cN k h (λ_ h=>aG<|tn<|sQ<|aD<|sR<|am k k<|am k k<|oB h λv2 hv2 h=>ae (xl hv2 k) k<|lr k7<|am k k<|oB h λv3 hv3 h=>ae (aS (gZ v2 x1.1 v3 hv3) k (cJ k (cJ k aO))) k<|aT k2<|sR<|am k k<|cm k4<|an<|tn<|cN k h (λ_ h=>sR<|aT k2<|aE<|bC<|aC<|aC<|sp h ⟨_,k,k,bD k k k (mY k)⟩) λ_ h=>aG<|bB<|tn<|rg<|am k k<|ae (bF k k) k<|aT k2<|sp h ⟨_,k,(bP (bG k2) aQ k4)⟩) λ_ h=>aY<|aB<|aB<|sp h ⟨_,k,k,(bP (bG k2) aQ k4)⟩
 ·intro e t hX;rcases y5 with y6|y7
  ·obtain ⟨rfl,hent⟩:=hX;exact aN<|tn<|aI hent<|sR<|am k k<|aT k2<|aE<|rtI h k2
  ·obtain ⟨rfl,hent⟩:=hX;exact bC<|aC<|sp h hent
def oJ (a0:(List Sc)) (x1:(Int×Int)):Option ((Int×Int) ⊕ (Int ⊕ Int)):=
 bif decide (x1.2<(a0.length:Int)) then
 ((cY a0 x1.2).bind λv2=>
 bif !decide (v2.size=x1.1) then
 (some (.inr (.inr ((-1)))))
 else
 ((cY a0 x1.2).bind λv4=>
 (vT v4.basis (wr (x1.1+1))).bind λv5=>
 bif decide (v5<0) then
 (some (.inr (.inr ((-1)))))
 else
 (some (.inl (v5,wr (x1.2+1))))))
 else
 (some (.inr (.inl x1.1)))
def tW (a0:(List Sc)) (a1:Int):Option Int:=
 (Lp (oJ a0) (a1,0)).bind λy7=>
 Sum.elim (λy8=>
 some (y8)
 )
 (λy9=>
 some y9
 )
 y7
theorem aHF (a0:(List Sc)) (a1:Int) (r:Int) (h:tW a0 a1=some r):HasC Tryz.prog 72 [.list 2 (a0.map eS),.int a1] (.int r):=by
 refine hM [.tmp 4] Tryz.func72 Tryz.ntmps72 k<|sR<|aT k2<|sQ<|sR<|aT k2<|aD<|oB h λy7 hy7 h=>cC (body:=(oJ a0)) hy7 (λ(x1:(Int×Int))=>mN [(0,.list 2 (a0.map eS)),(1,.int x1.1),(5,.int x1.2)] [] 0) (λr e t=>Sum.elim (λa=>(λr e t=>e= .exit 0∧Ent t (mN [(1,.int r)] [] 0)) a e t) (λb=>(λr e t=>e= .ret∧mW TT [.tmp 4] (.int r) .ret t) b e t) r) (bP (bG k2) aQ k4) ?_ ?_
 ·intro x1 o h;exact sQ<|sR<|am k k<|am k k<|ln k4<|cm k4<|an<|tn<|cN k h (λ_ h=>aG<|tn<|sQ<|aD<|sQ<|sR<|am k k<|am k k<|oB h λv2 hv2 h=>ae (xl hv2 k) k<|ae (dG aJ k k k k k k) k<|lr k7<|am k k<|cm k4<|an<|tn<|cN k h (λ_ h=>sR<|aT k2<|aE<|aC<|bC<|aC<|aC<|sp h ⟨_,k,k,bD k k k (mY k)⟩) λ_ h=>aG<|tn<|sR<|am k k<|ae (bF k k) k<|aT k2<|sR<|am k k<|am k k<|oB h λv4 hv4 h=>ae (xl hv4 k) k<|ae (dG aJ k k k k k k) k<|lr k7<|am k k<|oB h λv5 hv5 h=>ae (aS (aIE v4.basis (wr (x1.1+1)) v5 hv5) k (cJ k (cJ k aO))) k<|aT k2<|sR<|am k k<|cm k4<|an<|tn<|aI (t:=mN [(0,.list 2 (a0.map eS)),(1,.int v5),(5,.int x1.2),(29,.bl (decide (v5<0)))] [] 0) (bP (bG k2) aQ k4)<|cN k h (λ_ h=>sR<|aT k2<|aE<|bC<|aC<|aC<|sp h ⟨_,k,k,bD k k k (mY k)⟩) λ_ h=>aG<|bB<|tn<|rg<|am k k<|ae (bF k k) k<|aT k2<|sp h ⟨_,k,(bP (bG k2) aQ k4)⟩) λ_ h=>aY<|aB<|aB<|sp h ⟨_,k,k,(bP (bG k2) aQ k4)⟩
 ·intro e t hX;rcases y7 with y8|y9
  ·obtain ⟨rfl,hent⟩:=hX;exact aN<|tn<|aI hent<|sR<|am k k<|aT k2<|aE<|rtI h k2
  ·obtain ⟨rfl,hent⟩:=hX;exact bC<|aC<|sp h hent
def tX (a0:Qv) (a1:Int):Option Int:=
 (fK a0.src a1).bind λv1=>
 bif decide (v1<0) then
 (some ((-1)))
 else
 ((fK a0.tgt v1).bind λv3=>
 bif decide (v3<0) then
 (some ((-1)))
 else
 (some (v3)))
theorem aHG (a0:Qv) (a1:Int) (r:Int) (h:tX a0 a1=some r):HasC Tryz.prog 42 [.agg (eQ a0),.int a1] (.int r):=by
 exact hM [.tmp 4] Tryz.func42 Tryz.ntmps42 k<|sR<|ae (wb k) k<|aT k2<|sR<|fp k8<|lp k8<|am k k<|oB h λv1 hv1 h=>ae (aS (gZ a0.src a1 v1 hv1) k (cJ k (cJ k aO))) k<|aT k2<|sQ<|sR<|am k k<|cm k4<|an<|tn<|cN k h (λ_ h=>sR<|aT k2<|aE<|aC<|rtI h k2) λ_ h=>aG<|tn<|sR<|fp k8<|lp k8<|am k k<|oB h λv3 hv3 h=>ae (aS (gZ a0.tgt v1 v3 hv3) k (cJ k (cJ k aO))) k<|aT k2<|sQ<|sR<|am k k<|cm k4<|an<|tn<|cN k h (λ_ h=>sR<|aT k2<|aE<|aC<|rtI h k2) λ_ h=>aG<|tn<|sR<|am k k<|aT k2<|aE<|rtI h k2
def mT (a0:(List Mt)) (x1:(Int×Int)):Option ((Int×Int) ⊕ (Int ⊕ Int)):=
 bif decide (x1.2<(a0.length:Int)) then
 ((cY a0 x1.2).bind λv2=>
 bif !decide (v2.rows=x1.1) then
 (some (.inr (.inr ((-1)))))
 else
 ((cY a0 x1.2).bind λv4=>
 bif !decide (v4.cols=wr (x1.1+1)) then
 (some (.inr (.inr ((-1)))))
 else
 ((cY a0 x1.2).bind λv6=>
 (fK v6.cells (wr ((wr (x1.1+1))+1))).bind λv7=>
 bif decide (v7<0) then
 (some (.inr (.inr ((-1)))))
 else
 (some (.inl (v7,wr (x1.2+1)))))))
 else
 (some (.inr (.inl x1.1)))
def jN (a0:(List Mt)) (a1:Int):Option Int:=
 (Lp (mT a0) (a1,0)).bind λy9=>
 Sum.elim (λy10=>
 some (y10)
 )
 (λy11=>
 some y11
 )
 y9
theorem yZ (a0:(List Mt)) (a1:Int) (r:Int) (h:jN a0 a1=some r):HasC Tryz.prog 43 [.list 3 (a0.map eM),.int a1] (.int r):=by
 refine hM [.tmp 4] Tryz.func43 Tryz.ntmps43 k<|sR<|aT k2<|sQ<|sR<|aT k2<|aD<|oB h λy9 hy9 h=>cC (body:=(mT a0)) hy9 (λ(x1:(Int×Int))=>mN [(0,.list 3 (a0.map eM)),(1,.int x1.1),(5,.int x1.2)] [] 0) (λr e t=>Sum.elim (λa=>(λr e t=>e= .exit 0∧Ent t (mN [(1,.int r)] [] 0)) a e t) (λb=>(λr e t=>e= .ret∧mW TT [.tmp 4] (.int r) .ret t) b e t) r) (bP (bG k2) aQ k4) ?_ ?_
 ·intro x1 o h;refine sQ<|sR<|am k k<|am k k<|ln k4<|cm k4<|an<|tn<|cN k h (λ_ h=>?_) λ_ h=>aY<|aB<|aB<|sp h ⟨_,k,k,(bP (bG k2) aQ k4)⟩;exact aG<|tn<|sQ<|aD<|sQ<|sR<|am k k<|am k k<|oB h λv2 hv2 h=>ae (xl hv2 k) k<|ae (dG aJ k k k k k k) k<|lr k7<|am k k<|cm k4<|an<|tn<|cN k h (λ_ h=>sR<|aT k2<|aE<|aC<|bC<|aC<|aC<|sp h ⟨_,k,k,bD k k k (mY k)⟩) λ_ h=>aG<|tn<|sR<|am k k<|ae (bF k k) k<|aT k2<|sQ<|sR<|am k k<|am k k<|oB h λv4 hv4 h=>ae (xl hv4 k) k<|ae (dG aJ k k k k k k) k<|lr k7<|am k k<|cm k4<|an<|tn<|cN k h (λ_ h=>sR<|aT k2<|aE<|aC<|bC<|aC<|aC<|sp h ⟨_,k,k,bD k k k (mY k)⟩) λ_ h=>aG<|tn<|sR<|am k k<|ae (bF k k) k<|aT k2<|aI (t:=mN [(0,.list 3 (a0.map eM)),(1,.int (wr ((wr (x1.1+1))+1))),(5,.int x1.2)] [] 0) (bP (bG k2) aQ k4)<|sR<|am k k<|am k k<|oB h λv6 hv6 h=>ae (xl hv6 k) k<|ae (dG aJ k k k k k k) k<|lr k7<|am k k<|oB h λv7 hv7 h=>ae (aS (gZ v6.cells (wr ((wr (x1.1+1))+1)) v7 hv7) k (cJ k (cJ k aO))) k<|aT k2<|sR<|am k k<|cm k4<|an<|tn<|cN k h (λ_ h=>sR<|aT k2<|aE<|bC<|aC<|aC<|sp h ⟨_,k,k,bD k k k (mY k)⟩) λ_ h=>aG<|bB<|tn<|rg<|am k k<|ae (bF k k) k<|aT k2<|sp h ⟨_,k,(bP (bG k2) aQ k4)⟩
 ·intro e t hX;rcases y9 with y10|y11
  ·obtain ⟨rfl,hent⟩:=hX;exact aN<|tn<|aI hent<|sR<|am k k<|aT k2<|aE<|rtI h k2
  ·obtain ⟨rfl,hent⟩:=hX;exact bC<|aC<|sp h hent
def uW (a0:Rp) (a1:Int):Option Int:=
 (tX a0.q a1).bind λv1=>
 bif decide (v1<0) then
 (some ((-1)))
 else
 ((fK a0.dims v1).bind λv3=>
 bif decide (v3<0) then
 (some ((-1)))
 else
 ((jN a0.maps v3).bind λv5=>
 bif decide (v5<0) then
 (some ((-1)))
 else
 (some (v5))))
theorem aEu (a0:Rp) (a1:Int) (r:Int) (h:uW a0 a1=some r):HasC Tryz.prog 18 [.agg (eR a0),.int a1] (.int r):=by
 exact hM [.tmp 4] Tryz.func18 Tryz.ntmps18 k<|sR<|ae (wb k) k<|aT k2<|sR<|fp k8<|lp k8<|am k k<|oB h λv1 hv1 h=>ae (aS (aHG a0.q a1 v1 hv1) k (aL (eV k) (cJ k aO))) k<|aT k2<|sQ<|sR<|am k k<|cm k4<|an<|tn<|cN k h (λ_ h=>sR<|aT k2<|aE<|aC<|rtI h k2) λ_ h=>aG<|tn<|sR<|fp k8<|lp k8<|am k k<|oB h λv3 hv3 h=>ae (aS (gZ a0.dims v1 v3 hv3) k (cJ k (cJ k aO))) k<|aT k2<|sQ<|sR<|am k k<|cm k4<|an<|tn<|cN k h (λ_ h=>sR<|aT k2<|aE<|aC<|rtI h k2) λ_ h=>aG<|tn<|sR<|fp k8<|lp k8<|am k k<|oB h λv5 hv5 h=>ae (aS (yZ a0.maps v3 v5 hv5) k (cJ k (cJ k aO))) k<|aT k2<|sQ<|sR<|am k k<|cm k4<|an<|tn<|cN k h (λ_ h=>sR<|aT k2<|aI (t:=mN [(4,.int (-1))] [] 1) (bP (bG k2) aQ k4)<|aE<|aC<|rtI h k2) λ_ h=>aG<|tn<|sR<|am k k<|aT k2<|aE<|rtI h k2
def rX (a0:(List Rp)) (x1:(Int×Int)):Option ((Int×Int) ⊕ (Int ⊕ Int)):=
 bif decide (x1.2<(a0.length:Int)) then
 ((cY a0 x1.2).bind λv2=>
 bif !decide (v2.p=x1.1) then
 (some (.inr (.inr ((-1)))))
 else
 ((cY a0 x1.2).bind λv4=>
 bif !decide (v4.q.n=wr (x1.1+1)) then
 (some (.inr (.inr ((-1)))))
 else
 ((cY a0 x1.2).bind λv6=>
 (fK v6.q.src (wr ((wr (x1.1+1))+1))).bind λv7=>
 bif decide (v7<0) then
 (some (.inr (.inr ((-1)))))
 else
 ((cY a0 x1.2).bind λv9=>
 (fK v9.q.tgt v7).bind λv10=>
 bif decide (v10<0) then
 (some (.inr (.inr ((-1)))))
 else
 ((cY a0 x1.2).bind λv12=>
 (fK v12.dims v10).bind λv13=>
 bif decide (v13<0) then
 (some (.inr (.inr ((-1)))))
 else
 ((cY a0 x1.2).bind λv15=>
 (jN v15.maps v13).bind λv16=>
 bif decide (v16<0) then
 (some (.inr (.inr ((-1)))))
 else
 (some (.inl (v16,wr (x1.2+1))))))))))
 else
 (some (.inr (.inl x1.1)))
def yI (a0:(List Rp)) (a1:Int):Option Int:=
 (Lp (rX a0) (a1,0)).bind λy18=>
 Sum.elim (λy19=>
 some (y19)
 )
 (λy20=>
 some y20
 )
 y18
theorem aJM (a0:(List Rp)) (a1:Int) (r:Int) (h:yI a0 a1=some r):HasC Tryz.prog 70 [.list 6 (a0.map eR),.int a1] (.int r):=by
 refine hM [.tmp 4] Tryz.func70 Tryz.ntmps70 k<|sR<|aT k2<|sQ<|sR<|aT k2<|aD<|oB h λy18 hy18 h=>cC (body:=(rX a0)) hy18 (λ(x1:(Int×Int))=>mN [(0,.list 6 (a0.map eR)),(1,.int x1.1),(5,.int x1.2)] [] 0) (λr e t=>Sum.elim (λa=>(λr e t=>e= .exit 0∧Ent t (mN [(1,.int r)] [] 0)) a e t) (λb=>(λr e t=>e= .ret∧mW TT [.tmp 4] (.int r) .ret t) b e t) r) (bP (bG k2) aQ k4) ?_ ?_
 ·intro x1 o h;refine sQ<|sR<|am k k<|am k k<|ln k4<|cm k4<|an<|tn<|cN k h (λ_ h=>?_) λ_ h=>aY<|aB<|aB<|sp h ⟨_,k,k,(bP (bG k2) aQ k4)⟩;refine aG<|tn<|sQ<|aD<|sQ<|sR<|am k k<|am k k<|oB h λv2 hv2 h=>ae (xl hv2 k) k<|ae (dG aJ k k k k k k) k<|lr k7<|am k k<|cm k4<|an<|tn<|cN k h (λ_ h=>sR<|aT k2<|aE<|aC<|bC<|aC<|aC<|sp h ⟨_,k,k,bD k k k (mY k)⟩) λ_ h=>?_;refine aG<|tn<|sR<|am k k<|ae (bF k k) k<|aT k2<|sQ<|sR<|am k k<|am k k<|oB h λv4 hv4 h=>ae (xl hv4 k) k<|ae (dG aJ k k k k k k) k<|ae (dG aJ k k k k k k) k<|lr k7<|am k k<|cm k4<|an<|tn<|cN k h (λ_ h=>sR<|aT k2<|aE<|aC<|bC<|aC<|aC<|sp h ⟨_,k,k,bD k k k (mY k)⟩) λ_ h=>?_;refine aG<|tn<|sR<|am k k<|ae (bF k k) k<|aT k2<|aI (t:=mN [(0,.list 6 (a0.map eR)),(1,.int (wr ((wr (x1.1+1))+1))),(5,.int x1.2)] [] 0) (bP (bG k2) aQ k4)<|sR<|am k k<|am k k<|oB h λv6 hv6 h=>ae (xl hv6 k) k<|ae (dG aJ k k k k k k) k<|ae (dG aJ k k k k k k) k<|lr k7<|am k k<|oB h λv7 hv7 h=>ae (aS (gZ v6.q.src (wr ((wr (x1.1+1))+1)) v7 hv7) k (cJ k (cJ k aO))) k<|aT k2<|sQ<|sR<|am k k<|cm k4<|an ?_;refine tn<|cN k h (λ_ h=>sR<|aT k2<|aE<|aC<|bC<|aC<|aC<|sp h ⟨_,k,k,bD k k k (mY k)⟩) λ_ h=>?_;exact aG<|tn<|sR<|am k k<|am k k<|oB h λv9 hv9 h=>ae (xl hv9 k) k<|ae (dG aJ k k k k k k) k<|ae (dG aJ k k k k k k) k<|lr k7<|am k k<|oB h λv10 hv10 h=>ae (aS (gZ v9.q.tgt v7 v10 hv10) k (cJ k (cJ k aO))) k<|aT k2<|sQ<|sR<|am k k<|cm k4<|an<|tn<|cN k h (λ_ h=>sR<|aT k2<|aE<|aC<|bC<|aC<|aC<|sp h ⟨_,k,k,bD k k k (mY k)⟩) λ_ h=>aG<|tn<|sR<|am k k<|am k k<|oB h λv12 hv12 h=>ae (xl hv12 k) k<|ae (dG aJ k k k k k k) k<|lr k7<|am k k<|oB h λv13 hv13 h=>ae (aS (gZ v12.dims v10 v13 hv13) k (cJ k (cJ k aO))) k<|aT k2<|aI (t:=mN [(0,.list 6 (a0.map eR)),(1,.int v13),(5,.int x1.2)] [] 0) (bP (bG k2) aQ k4)<|sQ<|sR<|am k k<|cm k4<|an<|tn<|cN k h (λ_ h=>sR<|aT k2<|aE<|aC<|bC<|aC<|aC<|sp h ⟨_,k,k,bD k k k (mY k)⟩) λ_ h=>aG<|tn<|sR<|am k k<|am k k<|oB h λv15 hv15 h=>ae (xl hv15 k) k<|ae (dG aJ k k k k k k) k<|lr k7<|am k k<|oB h λv16 hv16 h=>ae (aS (yZ v15.maps v13 v16 hv16) k (cJ k (cJ k aO))) k<|aT k2<|sR<|am k k<|cm k4<|an<|tn<|cN k h (λ_ h=>sR<|aT k2<|aE<|bC<|aC<|aC<|sp h ⟨_,k,k,bD k k k (mY k)⟩) λ_ h=>aG<|bB<|tn<|rg<|am k k<|ae (bF k k) k<|aT k2<|sp h ⟨_,k,(bP (bG k2) aQ k4)⟩
 ·intro e t hX;rcases y18 with y19|y20
  ·obtain ⟨rfl,hent⟩:=hX;exact aN<|tn<|aI hent<|sR<|am k k<|aT k2<|aE<|rtI h k2
  ·obtain ⟨rfl,hent⟩:=hX;exact bC<|aC<|sp h hent
def zA (a0:(List Br)) (x1:(Int×Int)):Option ((Int×Int) ⊕ (Int ⊕ Int)):=
 bif decide (x1.2<(a0.length:Int)) then
 ((cY a0 x1.2).bind λv2=>
 bif !decide (v2.first=x1.1) then
 (some (.inr (.inr ((-1)))))
 else
 ((cY a0 x1.2).bind λv4=>
 bif !decide (v4.last=wr (x1.1+1)) then
 (some (.inr (.inr ((-1)))))
 else
 ((cY a0 x1.2).bind λv6=>
 bif !decide (v6.count=wr ((wr (x1.1+1))+1)) then
 (some (.inr (.inr ((-1)))))
 else
 (some (.inl (wr ((wr ((wr (x1.1+1))+1))+1),wr (x1.2+1)))))))
 else
 (some (.inr (.inl x1.1)))
def yJ (a0:(List Br)) (a1:Int):Option Int:=
 (Lp (zA a0) (a1,0)).bind λy8=>
 Sum.elim (λy9=>
 some (y9)
 )
 (λy10=>
 some y10
 )
 y8
theorem aJN (a0:(List Br)) (a1:Int) (r:Int) (h:yJ a0 a1=some r):HasC Tryz.prog 71 [.list 3 (a0.map eB),.int a1] (.int r):=by
 refine hM [.tmp 4] Tryz.func71 Tryz.ntmps71 k<|sR<|aT k2<|sQ<|sR<|aT k2<|aD<|oB h λy8 hy8 h=>cC (body:=(zA a0)) hy8 (λ(x1:(Int×Int))=>mN [(0,.list 3 (a0.map eB)),(1,.int x1.1),(5,.int x1.2)] [] 0) (λr e t=>Sum.elim (λa=>(λr e t=>e= .exit 0∧Ent t (mN [(1,.int r)] [] 0)) a e t) (λb=>(λr e t=>e= .ret∧mW TT [.tmp 4] (.int r) .ret t) b e t) r) (bP (bG k2) aQ k4) ?_ ?_
 ·intro x1 o h;exact sQ<|sR<|am k k<|am k k<|ln k4<|cm k4<|an<|tn<|cN k h (λ_ h=>aG<|tn<|sQ<|aD<|sQ<|sR<|am k k<|am k k<|oB h λv2 hv2 h=>ae (xl hv2 k) k<|ae (dG aJ k k k k k k) k<|lr k7<|am k k<|cm k4<|an<|tn<|cN k h (λ_ h=>sR<|aT k2<|aE<|aC<|bC<|aC<|aC<|sp h ⟨_,k,k,bD k k k (mY k)⟩) λ_ h=>aG<|tn<|sR<|am k k<|ae (bF k k) k<|aT k2<|sQ<|sR<|am k k<|am k k<|oB h λv4 hv4 h=>ae (xl hv4 k) k<|ae (dG aJ k k k k k k) k<|lr k7<|am k k<|cm k4<|an<|tn<|cN k h (λ_ h=>sR<|aT k2<|aE<|aC<|bC<|aC<|aC<|sp h ⟨_,k,k,bD k k k (mY k)⟩) λ_ h=>aG<|tn<|sR<|am k k<|ae (bF k k) k<|aT k2<|aI (t:=mN [(0,.list 3 (a0.map eB)),(1,.int (wr ((wr (x1.1+1))+1))),(5,.int x1.2)] [] 0) (bP (bG k2) aQ k4)<|sQ<|sR<|am k k<|am k k<|oB h λv6 hv6 h=>ae (xl hv6 k) k<|ae (dG aJ k k k k k k) k<|lr k7<|am k k<|cm k4<|an<|tn<|cN k h (λ_ h=>sR<|aT k2<|aE<|aC<|bC<|aC<|aC<|sp h ⟨_,k,k,bD k k k (mY k)⟩) λ_ h=>aG<|tn<|rg<|am k k<|ae (bF k k) k<|aa k k<|an<|bB<|tn<|rg<|am k k<|ae (bF k k) k<|aT k2<|sp h ⟨_,k,(bP (bG k2) aQ k4)⟩) λ_ h=>aY<|aB<|aB<|sp h ⟨_,k,k,(bP (bG k2) aQ k4)⟩
 ·intro e t hX;rcases y8 with y9|y10
  ·obtain ⟨rfl,hent⟩:=hX;exact aN<|tn<|aI hent<|sR<|am k k<|aT k2<|aE<|rtI h k2
  ·obtain ⟨rfl,hent⟩:=hX;exact bC<|aC<|sp h hent
def qO (a0:Cl) (a1:Int):Option Int:=
 (uW a0.rep a1).bind λv1=>
 bif decide (v1<0) then
 (some ((-1)))
 else
 ((uW a0.other v1).bind λv3=>
 bif decide (v3<0) then
 (some ((-1)))
 else
 ((yI a0.parts v3).bind λv5=>
 bif decide (v5<0) then
 (some ((-1)))
 else
 ((jN a0.maps v5).bind λv7=>
 bif decide (v7<0) then
 (some ((-1)))
 else
 ((yJ a0.bars v7).bind λv9=>
 bif decide (v9<0) then
 (some ((-1)))
 else
 ((fK a0.theta v9).bind λv11=>
 bif decide (v11<0) then
 (some ((-1)))
 else
 ((tW a0.subs v11).bind λv13=>
 bif decide (v13<0) then
 (some ((-1)))
 else
 (some (v13))))))))
theorem aDX (a0:Cl) (a1:Int) (r:Int) (h:qO a0 a1=some r):HasC Tryz.prog 30 [.agg (eC a0),.int a1] (.int r):=by
 refine hM [.tmp 4] Tryz.func30 Tryz.ntmps30 k<|sR<|ae (wb k) k<|aT k2<|sR<|fp k8<|lp k8<|am k k<|oB h λv1 hv1 h=>ae (aS (aEu a0.rep a1 v1 hv1) k (aL (eV k) (cJ k aO))) k<|aT k2<|sQ<|sR<|am k k<|cm k4<|an<|tn<|cN k h (λ_ h=>sR<|aT k2<|aE<|aC<|rtI h k2) λ_ h=>?_;refine aG<|tn<|sR<|fp k8<|lp k8<|am k k<|oB h λv3 hv3 h=>ae (aS (aEu a0.other v1 v3 hv3) k (aL (eV k) (cJ k aO))) k<|aT k2<|sQ<|sR<|am k k<|cm k4<|an<|tn<|cN k h (λ_ h=>sR<|aT k2<|aE<|aC<|rtI h k2) λ_ h=>?_;exact aG<|tn<|sR<|fp k8<|lp k8<|am k k<|oB h λv5 hv5 h=>ae (aS (aJM a0.parts v3 v5 hv5) k (cJ k (cJ k aO))) k<|aT k2<|sQ<|sR<|am k k<|cm k4<|an<|tn<|cN k h (λ_ h=>sR<|aT k2<|aI (t:=mN [(4,.int (-1))] [] 1) (bP (bG k2) aQ k4)<|aE<|aC<|rtI h k2) λ_ h=>aG<|tn<|sR<|fp k8<|lp k8<|am k k<|oB h λv7 hv7 h=>ae (aS (yZ a0.maps v5 v7 hv7) k (cJ k (cJ k aO))) k<|aT k2<|aI (t:=mN [(1,.int v7),(2,.ptr 0 0 0)] [(0,⟨18,[eC a0]⟩)] 1) (bP (bG k2) (bO k<|aQ) k4)<|sQ<|sR<|am k k<|cm k4<|an<|tn<|cN k h (λ_ h=>sR<|aT k2<|aE<|aC<|rtI h k2) λ_ h=>aG<|tn<|sR<|fp k8<|lp k8<|am k k<|oB h λv9 hv9 h=>ae (aS (aJN a0.bars v7 v9 hv9) k (cJ k (cJ k aO))) k<|aT k2<|sQ<|sR<|am k k<|cm k4<|an<|tn<|cN k h (λ_ h=>sR<|aT k2<|aE<|aC<|rtI h k2) λ_ h=>aG<|tn<|sR<|fp k8<|lp k8<|am k k<|oB h λv11 hv11 h=>ae (aS (gZ a0.theta v9 v11 hv11) k (cJ k (cJ k aO))) k<|aT k2<|sQ<|sR<|am k k<|cm k4<|an<|tn<|cN k h (λ_ h=>sR<|aT k2<|aE<|aC<|rtI h k2) λ_ h=>aG<|tn<|sR<|fp k8<|lp k8<|am k k<|oB h λv13 hv13 h=>ae (aS (aHF a0.subs v11 v13 hv13) k (cJ k (cJ k aO))) k<|aT k2<|sQ<|sR<|am k k<|cm k4<|an<|tn<|cN k h (λ_ h=>sR<|aT k2<|aI (t:=mN [(4,.int (-1))] [] 1) (bP (bG k2) aQ k4)<|aE<|aC<|rtI h k2) λ_ h=>aG<|tn<|sR<|am k k<|aT k2<|aE<|rtI h k2
end
noncomputable section
theorem aUS {P:Program} {T:List (Nat×Ty)} (hT:TyOk P T) {f:FuncId} {fn:Func} {c:Code} {nt:Nat} {ds:List AV} {r:AV} {rvs:List ResultVar} {ns:List Nat} (hf:P.funcs[f]? =some fn) (hb:fn.body=some c) (hname:(fn.name== "runtime.NumGoroutine")=false) (hnt:fn.ntmps=nt) (hres:fn.results.toList=rvs)
  (hlen:Nat.ble ds.length nt=true) (hok:ds.all aRa=true) (h: ∀ W:World,rA W ds λxs=>AC P nt c ⟨aEY xs,jD [],ltb 0,ns,⟨0,true,zU W,false⟩⟩ (mW T rvs r)):HasC P f ds r:=by
 refine ⟨Enters.mk hf (by rw [hb];rfl) hname,λw args S hargs=>?_⟩;refine (callsIn_wide (n:=0)).1 (callsIn_of_wp_marks (F:=fw none) hf hb trivial ?_);have hlen':=Nat.le_of_ble_eq_true hlen;have hal:args.size=ds.length:=by have:=hargs.len;simpa using this
 obtain ⟨xs,hac,hxl,hxr⟩:=aHn hargs hok (h w);let C:Ctx:=⟨w.heap.size,w,nt,λx=>w.heap.size≤x,λ_ h=>h,⟨0,true,zU w,false⟩,w,jD [],Nu.none,λx=>x<w.heap.size,λ_ x hx hm=>absurd hx (Nat.not_lt.2 hm),(λp h=>by cases h;exact ⟨rfl,λx hx=>⟨hx,hx⟩⟩),none,λ_=>rfl⟩;have hfr: ∀ x,aBv (jD []) Nu.none x:=λx b blk β c hb=>by cases hb
 have hsim:Sim C ⟨aEY xs,jD [],ltb 0,ns,⟨0,true,zU w,false⟩⟩ Nu.none ⟨args++Array.replicate (fn.ntmps - args.size) undef,[]⟩ w:=by
  refine ⟨Below.refl _ _,bJ _,λ_ hx=>hx,aCW,by show (args++Array.replicate (fn.ntmps - args.size) undef).size=nt;simp [hnt];omega,?_,⟨λ_=>[],λb blk hb=>(by cases hb),λb c x hb=>absurd rfl hb⟩,rfl,ExtF.refl λx _ _=>hfr x,bJ _,λ_ _=>trivial,λ_ _ _ _=>trivial⟩;intro t x hx;have hx':xs[t]? =some x:=by rw [←aEe];exact hx
  obtain ⟨v,h1,h2⟩:=(hxr (jD []) (ltb 0) Nu.none).get hx';refine ⟨v,?_,h2⟩
  have hlt:t<args.size:=by
   rcases eO t args.size with h'|h'
   ·exact h'
   ·rw [iL (by simpa using h')] at h1;cases h1
  show (args++Array.replicate (fn.ntmps - args.size) undef)[t]? =some v;rw [Array.getElem?_append_left hlt];simpa using h1
 refine wpIn_mono (hac.out C rfl _ _ w hsim 0) λe a' w0 ⟨s',ν',hq,hs0⟩=>?_;obtain ⟨Ds,d1,d2,d3⟩:=hs0.defers;obtain ⟨w',hs',hleave⟩:=hs0.leave (P:=P) (n:=0) d1 d2 d3;obtain ⟨he,avs,hv,hn,hfz⟩:=hq;obtain ⟨us,h1,h2⟩:=zF hT hs' hv;obtain ⟨φ,hh⟩:=hs'.heap;have hn':=aAZ hn
 have hrun:(results fn a'.tmps).run P w'= .ok (if hh:us.toArray.size=1 then us.toArray[0] else .tuple us.toArray) w':=by
  unfold results;rw [Sem.run_bind,Array.mapM_eq_mapM_toList,Sem.run_map,hres];have h1':=h1;generalize hq:(List.mapM _ rvs:Sem (List Value))=m;rw [show Sem.run P m w'= .ok us w' by rw [←hq];exact h1'];simp
 have hres2: ∃ S',aKC w' r (if hh:us.toArray.size=1 then us.toArray[0] else .tuple us.toArray) S'∧New w.heap.size S':=by
  have hul:us.length=avs.length:=h2.len;unfold aIu at hfz;split at hfz
  ·rename_i v r';obtain ⟨u,q,rfl,g1,g2⟩:=h2;simp only [All2] at g2;subst g2;simp only [List.flatMap_cons,List.flatMap_nil,List.append_nil] at hn';obtain ⟨S',a1,a2,a3,a4⟩:=aGj hh g1 hfz.1 hn';refine ⟨S',?_,a2,a3⟩;simp only [List.size_toArray,List.length_cons,List.length_nil,Nat.zero_add,dite_true];have hnt:=hfz.2;cases r <;> first|exact a1|exact absurd rfl (hnt _)
  ·rename_i vs rs _;obtain ⟨S',a1,a2,a3,a4⟩:=aFD hh h2 hfz.2 hn';refine ⟨S',?_,a2,a3⟩;rw [dif_neg (by simp;rw [hul];exact hfz.1)];exact ⟨us,rfl,a1⟩
  ·exact hfz.elim
 obtain ⟨S',hr1,hr2⟩:=hres2;have hend:=hleave fn (λe w'=> ∃ v S',e= .returned v∧Below w.heap.size w w'∧aKC w' r v S'∧New w.heap.size S') ⟨_,hrun,_,S',rfl,hs'.below,hr1,hr2⟩;cases e <;> simp only [aFg,fU] at he <;> exact hend
theorem aRq {w:World} {h:Hp} {u:Us} {ν:Nu} {a:Act} : ∀ {ts:List Nat} {ds:List AV},ts.length=ds.length→ts.Nodup→(∀ t x,aFT (List.zip ts ds) t=some x→ ∃ v,a.tmps[t]? =some v∧RepA w h u ν x v)→
  ∃ vs,All2 (RepA w h u ν) ds vs∧All2 (λt v=>a.tmps[t]? =some v) ts vs
 | [],[],_,_,_=>⟨[],rfl,rfl⟩
 | [],d::ds,hl,_,_=>by simp at hl
 |k::ts,[],hl,_,_=>by simp at hl
 |k::ts,d::ds,hl,hn,h0=>by
  obtain ⟨n1,n2⟩:=List.nodup_cons.1 hn;obtain ⟨v,h1,h2⟩:=h0 k d (by simp only [List.zip_cons_cons,aFT,cE,aM])
  obtain ⟨vs,h3,h4⟩:=aRq (w:=w) (h:=h) (u:=u) (ν:=ν) (a:=a) (ts:=ts) (ds:=ds) (by simpa using hl) n2 λt x hx=>by
   have hne:t≠k:=by
    rintro rfl;have:=aJy hx;exact n1 (List.of_mem_zip this).1
   refine h0 t x ?_;simp only [List.zip_cons_cons,aFT,cK hne,aR];exact hx
  exact ⟨v::vs,⟨v,vs,rfl,h2,h3⟩,⟨v,vs,rfl,h1,h4⟩⟩
theorem aRr {R:AV→Value→Prop} {a:Act} : ∀ {ts:List Nat} {xs:List AV} {vs:List Value},All2 R xs vs→All2 (λt v=>a.tmps[t]? =some v) ts vs→ ∀ t x,aFT (List.zip ts xs) t=some x→ ∃ v,a.tmps[t]? =some v∧R x v
 | [],xs,vs,_,_,t,x,h=>by cases h
 |k::ts,[],vs,_,_,t,x,h=>by cases h
 |k::ts,y::xs,vs,h1,h2,t,x,h=>by
  simp only [All2] at h1 h2;obtain ⟨v,r,rfl,g1,g2⟩:=h1;obtain ⟨v',r',e,g3,g4⟩:=h2;cases e;simp only [List.zip_cons_cons,aFT] at h;by_cases e:t=k
  ·subst e;rw [cE] at h;simp only [aM,Option.some.injEq] at h;subst h;exact ⟨v,g3,g1⟩
  ·rw [cK e] at h;exact aRr g2 g4 t x h
def aIF:AV→Bool
 | .sc _=>true
 | .agg cs=>cs.all jF
 | .list _ _=>true
 | .ref _=>true
 |_=>false
theorem aPL {w:World} {bs cs:List AV} {K:List AV→Prop} (h: ∀ v S,RepD w (.ref bs) v S→rA w cs (λxs=>K (.sc v::xs))):rA w (.ref bs::cs) K:=h
theorem aSr {w:World} {d:AV} {v:Value} {S:List Nat} (r:RepD w d v S) (ok: ∃ cs,d= .ref cs):v.oneCell'=true:=by
 obtain ⟨cs,rfl⟩:=ok;simp only [RepD] at r;obtain ⟨b,o,T,rfl,_⟩:=r;rfl
theorem aKw {w:World} : ∀ {ds:List AV} {vs:List Value} {S:List Nat} {K:List AV→Prop},RepVs w ds vs S→ds.all aIF=true→rA w ds K→ ∃ xs,K xs∧xs.length=ds.length∧ ∀ (h:Hp) (u:Us) (ν:Nu),All2 (RepA w h u ν) xs vs
 | [],vs,S,K,r,_,k=>by simp only [RepVs] at r;obtain ⟨rfl,_⟩:=r;exact ⟨[],k,rfl,λ_ _ _=>rfl⟩
 |d::ds,vs,S,K,r,ok,k=>by
  simp only [RepVs] at r;obtain ⟨v,q,S1,S2,rfl,rfl,h3,h4⟩:=r;simp only [List.all_cons,dD] at ok
  have key: ∀ x,rA w ds (λxs=>K (x::xs))→(∀ (h:Hp) (u:Us) (ν:Nu),RepA w h u ν x v)→ ∃ xs,K xs∧xs.length=(d::ds).length∧ ∀ (h:Hp) (u:Us) (ν:Nu),All2 (RepA w h u ν) xs (v::q):=by
   intro x k1 hx;obtain ⟨xs,g1,g2,g3⟩:=aKw h4 ok.2 k1;exact ⟨x::xs,g1,by simp [g2],λh u ν=>⟨v,q,rfl,hx h u ν,g3 h u ν⟩⟩
  cases d <;> simp only [aIF,fU,false_and] at ok
  ·simp only [RepD] at h3;exact key _ k λh u ν=>by simp only [RepA,RepB,Rep1];exact ⟨h3.1,h3.2.1⟩
  ·exact key _ (k v S1 h3) λh u ν=>(show Rep1 w h u ν (.sc v) v from ⟨rfl,aKS h3 rfl⟩)
  ·exact key _ (k v S1 h3) λh u ν=>(show Rep1 w h u ν (.sc v) v from ⟨rfl,aSr h3 ⟨_,rfl⟩⟩)
  ·have h3':=h3;simp only [RepD] at h3';obtain ⟨us,rfl,h5⟩:=h3';obtain ⟨xs,g1,g2⟩:=aJb h5 ok.1 k;exact key _ g1 λh u ν=>by simp only [RepA,RepB];exact ⟨us,rfl,g2 w h u ν⟩
theorem zJ {P:Program} {T:List (Nat×Ty)} (hT:TyOk P T) {dst:Option Tmp} {ty:TypeId} {pos:String} {aft:Array Edge} {g:Option (Nat×Bool)} {s:AState} {x:Operand} {t:Nat} {y:Ty} {cs:List AV} {av:AV} {W:World} {v:Value} {S:List Nat} (r:RepD W (.ref cs) v S) (hfx:s.kp.fx=zU W) (hx:s.ev x=some (.sc v)) (hy:dT T t=some y) (h1:(y.desc.isAgg||Nat.beq y.size 1)=true) (hn:Nat.ble y.size cs.length=true) (hpl:(cs.take y.size).all fG=true) (hv:zN y.desc.isAgg (cs.take y.size)=av):
  AEff P ⟨dst,.load t x,ty,pos,aft,g⟩ s.ev s.heap s.kp ⟨av,[],[],[]⟩:=hv▸aEF hT hfx r r.lt hx hy h1 (Nat.le_of_ble_eq_true hn) hpl
theorem aXK {w:World} {h:Hp} {u:Us} {ν:Nu} {d:AV} {v:Value} (r:RepA w h u ν d v) (ok:aIF d=true): ∃ S,RepD w d v S:=by
 cases d <;> simp only [aIF,fU] at ok <;> simp only [RepA,RepB,Rep1] at r
 ·exact ⟨[],by simp only [RepD];exact ⟨r.1,r.2,trivial⟩⟩
 ·obtain ⟨S,r,_⟩:=r;exact ⟨S,r⟩
 ·obtain ⟨S,r,_⟩:=r;exact ⟨S,r⟩
 ·obtain ⟨vs,rfl,r⟩:=r;rename_i cs
  have key: ∀ {cs:List AV} {vs:List Value},All2 (Rep1 w h u ν) cs vs→cs.all jF=true→ ∃ S,RepVs w cs vs S:=by
   intro cs;induction cs with
   |nil=>intro vs r _;simp only [All2] at r;subst r;exact ⟨[],by simp [RepVs]⟩
   |cons c cs ih=>
    intro vs r ok;obtain ⟨v,q,rfl,r1,r2⟩:=r;simp only [List.all_cons,dD] at ok;obtain ⟨S2,h2⟩:=ih r2 ok.2
    have: ∃ S1,RepD w c v S1:=by
     have ok1:=ok.1;cases c <;> simp only [jF,fU] at ok1 <;> simp only [Rep1] at r1
     ·exact ⟨[],by simp only [RepD];exact ⟨r1.1,r1.2,trivial⟩⟩
     ·obtain ⟨S,r,_⟩:=r1;exact ⟨S,r⟩
    obtain ⟨S1,h1⟩:=this;exact ⟨S1++S2,by simp only [RepVs];exact ⟨v,q,S1,S2,rfl,rfl,h1,h2⟩⟩
  obtain ⟨S,hS⟩:=key r ok;exact ⟨S,by simp only [RepD];exact ⟨vs,rfl,hS⟩⟩
theorem aRs {w:World} {h:Hp} {u:Us} {ν:Nu} : ∀ {ds:List AV} {vs:List Value},All2 (RepA w h u ν) ds vs→ds.all aIF=true→ ∃ S,RepVs w ds vs S
 | [],vs,r,_=>by simp only [All2] at r;subst r;exact ⟨[],by simp [RepVs]⟩
 |d::ds,vs,r,ok=>by
  obtain ⟨v,q,rfl,r1,r2⟩:=r;simp only [List.all_cons,dD] at ok;obtain ⟨S1,h1⟩:=aXK r1 ok.1;obtain ⟨S2,h2⟩:=aRs r2 ok.2;exact ⟨S1++S2,by simp only [RepVs];exact ⟨v,q,S1,S2,rfl,rfl,h1,h2⟩⟩
theorem aSs {P:Program} {T:List (Nat×Ty)} {nt:Nat} {c:Code} {W:World} {ts:List Nat} {ds:List AV} {n:Nat} {ns:List Nat} {k:Nat} {u:Value} (hl:ts.length=ds.length) (hn:uL ts=true) (ok:ds.all aIF=true)
  (h: ∀ W2:World,(∀ b,b<W.heap.size→W2.heap[b]? =W.heap[b]?)→rA W2 ds λxs=>AC P nt c ⟨aFT (List.zip ts xs),jD [],ltb n,ns,⟨0,true,zU W2,false⟩⟩ (mW T [.tmp k] (.sc u))):
  AC P nt c (mkS (List.zip ts ds) [] n ns ⟨0,true,zU W,false⟩) (mW T [.tmp k] (.sc u)):=by
 refine ⟨λC hC ν a w hs n0=>?_⟩;have hkp:C.kp=⟨0,true,zU W,false⟩:=hs.kp.symm;obtain ⟨hW,hF⟩:=C.fxp (W,λx=>x<W.heap.size) (by rw [hkp];rfl)
 have hold: ∀ b,b<W.heap.size→w.heap[b]? =W.heap[b]? :=λb hb=>by
  obtain ⟨g1,g2⟩:=hF b hb;have:=(hs.ext.free b g1 g2).1
  rwa [hW] at this
 obtain ⟨vs,e1,e2⟩:=aRq (w:=w) (h:=jD []) (u:=ltb n) (ν:=ν) (a:=a) hl (aAZ hn) λt x hx=>hs.env t x hx;obtain ⟨S,hS⟩:=aRs e1 ok;obtain ⟨xs,hac,hxl,hxr⟩:=aKw hS ok (h w hold)
 have hdef:a.defers=[]:=by
  obtain ⟨Ds,d1,d2,_⟩:=hs.defers;rw [d1,d2.2 (by rw [hkp])];rfl
 let C':Ctx:=⟨w.heap.size,w,nt,λx=>w.heap.size≤x,λ_ h=>h,⟨0,true,zU w,false⟩,w,jD [],⟨λ_=>none,λ_=>True⟩,λx=>x<w.heap.size,λ_ x hx hm=>absurd hx (Nat.not_lt.2 hm),(λp h=>by cases h;exact ⟨rfl,λx hx=>⟨hx,hx⟩⟩),C.rd,λh=>by cases h⟩;have hfr: ∀ (ν:Nu) x,aBv (jD []) ν x:=λν x b blk β c hb=>by cases hb
 have hsim:Sim C' ⟨aFT (List.zip ts xs),jD [],ltb n,ns,⟨0,true,zU w,false⟩⟩ ⟨λ_=>none,λ_=>True⟩ a w:=by
  refine ⟨Below.refl _ _,bJ _,λ_ hx=>hx,?_,hs.size.trans hC,?_,⟨λ_=>[],λb blk hb=>(by cases hb),λb c x hb=>absurd rfl hb⟩,rfl,⟨λb hb=>absurd hb (by simp [C']),λb blk' hb=>absurd hb (by simp [C']),λx _ _=>⟨rfl,hfr _ x⟩,rfl⟩,bJ _,λ_ _=>trivial,λ_ _ _ _=>trivial⟩
  ·rw [hdef];exact aCW
  ·exact aRr (hxr (jD []) (ltb n) ⟨λ_=>none,λ_=>True⟩) e2
 have hwp:=hac.out C' rfl _ a w hsim n0;refine wpIn_mono hwp λe a' w' ⟨s',ν',hq,hs'⟩=>?_;obtain ⟨he,avs,hv,hnn,hfz⟩:=hq
 have hv1: ∃ x,avs=[x]∧s'.env k=some x:=by
  simp only [zT] at hv;cases hx:s'.env k with
  |none=>simp [aHd,hx] at hv
  |some x=>exact ⟨x,by simpa [aHd,hx] using hv.symm,rfl⟩
 obtain ⟨x,rfl,hx⟩:=hv1
 have hxu:x= .sc u:=by
  simp only [aIu] at hfz;have:=hfz.1;cases x <;> simp_all [aHf,aFV,aHe]
 subst hxu;obtain ⟨v,g1,g2⟩:=hs'.env k _ hx
 have hdef':a'.defers=[]:=by
  obtain ⟨Ds,d1,d2,_⟩:=hs'.defers;rw [d1,d2.2 rfl];rfl
 refine ⟨⟨aFT [(k,.sc u)],jD [],ltb 0,[],C.kp⟩,ν,⟨he,[.sc u],?_,rfl,?_⟩,?_⟩
 ·simp [zT,aHd,aFT]
 ·exact hfz
 ·have hb':Below C.B C.w0 w':=hs.below.trans (hs'.below.mono hs.base);refine ⟨hb',Nat.le_trans hs.base hs'.szE,λy hy=>hs.fresh y (Nat.le_trans hs'.szE hy),by rw [hdef'];exact aCW,hs'.size.trans hC.symm,?_,⟨λ_=>[],λb blk hb=>(by cases hb),λb c x hb=>absurd rfl hb⟩,rfl,⟨λb hb=>?_,λb blk' hb=>?_,λy hy hF=>⟨?_,hfr _ _⟩,hs.ext.okE⟩,Nat.le_trans hs.szE hs'.szE,hs.okM,hs.okF⟩
  ·intro t y hy;simp only [aFT] at hy;by_cases e:t=k
   ·subst e;rw [cE] at hy;simp only [aM,Option.some.injEq] at hy;subst hy;exact ⟨v,g1,g2⟩
   ·rw [cK e] at hy;cases hy
  ·rw [hkp] at hb;simp at hb
  ·rw [hkp] at hb;simp at hb
  ·have q1:=(hs.ext.free y hy hF).1;have hlt:y<w.heap.size:=Nat.lt_of_lt_of_le hy hs.szE;exact ((hs'.ext.free y hlt hlt).1).trans q1
end
noncomputable section
set_option maxRecDepth 10000
set_option maxHeartbeats 4000000
end
noncomputable section
set_option maxRecDepth 10000
set_option maxHeartbeats 4000000
end
noncomputable section
set_option maxRecDepth 10000
set_option maxHeartbeats 4000000
def lB (a0:(List Mt)) (x1:((List Mt)×Int)):Option (((List Mt)×Int) ⊕ (List Mt)):=
 bif decide (x1.2<(a0.length:Int)) then
 ((cY a0 x1.2).bind λv2=>
 (gQ v2).bind λv3=>
 bif decide (x1.1.length+1≤4294967296) then
 (some (.inl ((x1.1++[v3]),wr (x1.2+1))))
 else none)
 else
 (some (.inr x1.1))
def pQ (a0:(List Mt)):Option (List Mt):=
 (Lp (lB a0) ([],0)).bind λy5=>
 some (y5)
theorem aFc (a0:(List Mt)) (r:(List Mt)) (h:pQ a0=some r):HasC Tryz.prog 122 [.list 3 (a0.map eM)] (.list 3 (r.map eM)):=by
 refine hM [.tmp 2] Tryz.func122 Tryz.ntmps122 k<|sR<|aT k2<|sR<|aT k2<|sQ<|sR<|am k k<|ln k4<|am k k<|an<|tn<|aD<|oB h λy5 hy5 h=>cC (body:=(lB a0)) hy5 (λ(x1:((List Mt)×Int))=>mN [(3,.own 0 0 x1.1.length),(6,.list 3 (a0.map eM)),(7,.int (a0.length:Int)),(8,.int x1.2)] [(0,⟨3,x1.1.map (ow eM)⟩)] 1) (λr e t=>e= .exit 0∧Ent t (mN [(3,.own 0 0 r.length)] [(0,⟨3,r.map (ow eM)⟩)] 1)) (eY (σ:=sg []) (gH ⟨_,k,⟨k,k,k,k⟩⟩ (bG k2)) (hX k k<|aQ) k) ?_ ?_
 ·intro x1 o h;exact sR<|cm k4<|an<|tn<|sQ<|cN k h (λ_ h=>aG<|tn<|sQ<|aD<|sR<|oB h λv2 hv2 h=>ae (xl hv2 k) k<|lr k7<|ae (bX aJ k k) k<|ae (ws k) k<|an<|tn<|rg<|am k k<|lp k8<|oB h λv3 hv3 h=>ae (cM (wM v2 v3 hv3) k3 (aL (eV k) aO)) k<|ae (wl k) k<|cG h λq4 h=>ae (fN aJ (l:=x1.1) (c:=[.int v3.rows,.int v3.cols,.own 2 0 v3.cells.length]) q4 k k k k k k k k k k k k k k) k<|aa k k<|an<|bB<|tn<|aI (t:=mN [(3,.own 4 0 ((x1.1++[v3]).length)),(6,.list 3 (a0.map eM)),(7,.int (a0.length:Int)),(8,.int x1.2)] [(4,⟨3,List.map (ow eM) (x1.1++[v3])⟩)] 5) (Ent.trans (dJ (b:=4) (b':=2) (j:=2) (es':=v3.cells.map eI) k k k k (aH _ _) (cA.frzs _)) (bP (gH ⟨_,k,⟨k,k,(by simp only [aH,lA,lT,lR,lC,lN]),k⟩⟩ (bG k2)) (hX ⟨_,k,k,.inl ⟨fV v3 k,aX.plainO _⟩⟩ k<|aQ) k4))<|rg<|ae (bF k k) k<|am k k<|an<|tn<|sp h ⟨_,k,(gT [4] (bG k2) (bW (aX.plainO _) k<|aQ) k4)⟩) λ_ h=>aY<|aB<|aB<|sp h ⟨_,k,k,(bP (bG k2) (bW (aX.plainO _) k<|aQ) k4)⟩
 ·rintro e t ⟨rfl,hent⟩;exact aN<|tn<|aI hent<|sR<|am k k<|aT k2<|aE<|sp h (bD k k k (fH (cW aX k k)))
def jA (a0:Qv):Option Qv:=
 (pG a0.src).bind λv1=>
 (pG a0.tgt).bind λv2=>
 some ((⟨a0.n,v1,v2⟩:Qv))
theorem aBb (a0:Qv) (r:Qv) (h:jA a0=some r):HasC Tryz.prog 121 [.agg (eQ a0)] (.agg (eQ r)):=by
 exact hM [.cell 2 26] Tryz.func121 Tryz.ntmps121 k<|sR<|ae (wb k) k<|ae (bX aJ k k) k<|an<|tn<|sQ<|aP fB<|fp k8<|lp k8<|fp k8<|lp k8<|oB h λv1 hv1 h=>ae (cL cA (aDv a0.src v1 hv1) k3 (cJ k aO)) k<|fp k8<|lp k8<|oB h λv2 hv2 h=>ae (cL cA (aDv a0.tgt v2 hv2) k3 (cJ k aO)) k<|ae (fW aJ k k k k k k) k<|ae (ws k) k<|an<|lL (by kernel_rfl)<|tn<|aE<|sp h (bD k k k (iJ (aU (k) (aU (cW cA k k) (aU (cW cA k k) fA)))))
def qP (a0:Rp):Option Rp:=
 (jA a0.q).bind λv1=>
 (pG a0.dims).bind λv2=>
 (pQ a0.maps).bind λv3=>
 some ((⟨a0.p,v1,v2,v3⟩:Rp))
theorem aDY (a0:Rp) (r:Rp) (h:qP a0=some r):HasC Tryz.prog 63 [.agg (eR a0)] (.agg (eR r)):=by
 exact hM [.cell 2 29] Tryz.func63 Tryz.ntmps63 k<|sR<|ae (wb k) k<|ae (bX aJ k k) k<|an<|tn<|sQ<|aP fB<|fp k8<|lp k8<|fp k8<|lp k8<|oB h λv1 hv1 h=>ae (cQ (aBb a0.q v1 hv1) k3 (aL (eV k) aO)) k<|fp k8<|lp k8<|oB h λv2 hv2 h=>ae (cL cA (aDv a0.dims v2 hv2) k3 (cJ k aO)) k<|fp k8<|lp k8<|oB h λv3 hv3 h=>ae (cL aX (aFc a0.maps v3 hv3) k3 (cJ k aO)) k<|ae (fW aJ k k k k k k) k<|ae (ws k) k<|an<|lL (by kernel_rfl)<|tn<|aE<|sp h (bD k k k (iJ (aU (k) (aU (k) (aU (cW cA k k) (aU (cW cA k k) (aU (cW cA k k) (aU (cW aX k k) fA))))))))
def vU (a0:Rp) (x1:((List Mt)×Int)):Option (((List Mt)×Int) ⊕ (List Mt)):=
 bif decide (x1.2<(a0.maps.length:Int)) then
 ((cY a0.maps x1.2).bind λv4=>
 (wW v4).bind λv5=>
 bif decide (x1.1.length+1≤4294967296) then
 (some (.inl ((x1.1++[v5]),wr (x1.2+1))))
 else none)
 else
 (some (.inr x1.1))
def xC (a0:Rp):Option Rp:=
 (xA a0.q).bind λv1=>
 bif decide (([]:(List Int)).length +a0.dims.length≤4294967296) then
 ((Lp (vU a0) (([]:(List Mt)),0)).bind λy7=>
 some ((⟨a0.p,v1,(([]:(List Int))++a0.dims),y7⟩:Rp)))
 else none
theorem aFr (a0:Rp) (r:Rp) (h:xC a0=some r):HasC Tryz.prog 61 [.agg (eR a0)] (.agg (eR r)):=by
 refine hM [.cell 2 29] Tryz.func61 Tryz.ntmps61 k<|sR<|ae (wb k) k<|ae (bX aJ k k) k<|an<|tn<|sQ<|aP fB<|fp k8<|lp k8<|fp k8<|lp k8<|oB h λv1 hv1 h=>ae (cQ (aFq a0.q v1 hv1) k3 (aL (eV k) aO)) k<|ae (wl k) k<|fp k8<|lp k8<|cG h λq2 h=>ae (qV aJ (l:=([]:(List Int))) (m:=a0.dims) kH q2 k k k k k k k k k k k k) k<|ae (wl k) k<|ae (fW aJ k k k k k k) k<|ae (bX aJ k k) k<|ae (ws k) k<|an<|lL (by kernel_rfl)<|tn<|aI (t:=mN [(1,.ptr 0 0 0),(2,.ptr 1 0 0),(3,.ptr 7 0 0)] [(0,⟨6,[eR a0]⟩),(1,⟨6,[nB]⟩),(2,⟨1,v1.src.map (ow eI)⟩),(3,⟨1,v1.tgt.map (ow eI)⟩),(5,⟨1,List.map (ow eI) (([]:(List Int))++a0.dims)⟩),(6,⟨3,List.map (ow eM) ([]:(List Mt))⟩),(7,⟨6,[[.int a0.p,.int v1.n,.own 2 0 v1.src.length,.own 3 0 v1.tgt.length,.own 5 0 ((([]:(List Int))++a0.dims).length),.own 6 0 (([]:(List Mt)).length)]]⟩)] 8) (bP (bG k2) (bO k<|bO k<|bN k<|bN k<|bN k<|bW (aX.plainO _) k<|hX ⟨_,k,k,.inr ⟨_,_,k,⟨_,_,k,k,⟨_,_,k,k,⟨_,_,k,⟨k,k,k,k⟩,⟨_,_,k,⟨k,k,k,k⟩,⟨_,_,k,⟨k,k,k,k⟩,⟨_,_,k,⟨k,k,(by simp only [aH,lA,lT,lR,lC,lN]),k⟩,k⟩⟩⟩⟩⟩⟩,k⟩⟩ k<|aQ) k4)<|sQ<|sR<|aa k k ?_;refine an<|tn<|aD<|oB h λy7 hy7 h=>cC (body:=(vU a0)) hy7 (λ(x1:((List Mt)×Int))=>mN [(1,.ptr 0 0 0),(2,.ptr 1 0 0),(3,.ptr 2 0 0),(4,.int x1.2)] [(0,⟨6,[eR a0]⟩),(1,⟨6,[nB]⟩),(2,⟨6,[[.int a0.p,.int v1.n,.own 3 0 v1.src.length,.own 4 0 v1.tgt.length,.own 5 0 ((([]:(List Int))++a0.dims).length),.own 6 0 x1.1.length]]⟩),(3,⟨1,v1.src.map (ow eI)⟩),(4,⟨1,v1.tgt.map (ow eI)⟩),(5,⟨1,List.map (ow eI) (([]:(List Int))++a0.dims)⟩),(6,⟨3,x1.1.map (ow eM)⟩)] 7) (λr e t=>e= .exit 0∧Ent t (mN [(2,.ptr 0 0 0),(3,.ptr 1 0 0)] [(0,⟨6,[nB]⟩),(1,⟨6,[[.int a0.p,.int v1.n,.own 2 0 v1.src.length,.own 3 0 v1.tgt.length,.own 4 0 ((([]:(List Int))++a0.dims).length),.own 5 0 r.length]]⟩),(2,⟨1,v1.src.map (ow eI)⟩),(3,⟨1,v1.tgt.map (ow eI)⟩),(4,⟨1,List.map (ow eI) (([]:(List Int))++a0.dims)⟩),(5,⟨3,r.map (ow eM)⟩)] 6)) (gT [0,1,7,2,3,5,6] (bG k2) (bO k<|bO k<|eJ k<|bN k<|bN k<|bN k<|bW (aX.plainO _) k<|aQ) k4) ?_ ?_
 ·intro x1 o h;refine sQ<|sR<|am k k<|fp k8<|lp k8<|ln k4<|cm k4<|an<|tn<|cN k h (λ_ h=>?_) λ_ h=>aY<|aB<|aB<|sp h ⟨_,k,k,(gT [1,2,3,4,5,6] (bG k2) (bO k<|eJ k<|bN k<|bN k<|bN k<|bW (aX.plainO _) k<|aQ) k4)⟩;exact aG<|tn<|sQ<|aD<|aP fB<|fp k8<|lp k8<|fp k8<|lp k8<|am k k<|oB h λv4 hv4 h=>ae (xl hv4 k) k<|lr k7<|oB h λv5 hv5 h=>ae (cM (aFl v4 v5 hv5) k3 (aL (eV k) aO)) k<|ae (wl k) k<|cG h λq6 h=>ae (fN aJ (l:=x1.1) (c:=[.int v5.rows,.int v5.cols,.own 7 0 v5.cells.length]) q6 k k k k k k k k k k k k k k) k<|fp k8<|ae (ws k) k<|an<|lL (by kernel_rfl)<|bB<|tn<|aI (t:=mN [(1,.ptr 0 0 0),(2,.ptr 1 0 0),(3,.ptr 2 0 0),(4,.int x1.2)] [(0,⟨6,[eR a0]⟩),(1,⟨6,[nB]⟩),(2,⟨6,[[.int a0.p,.int v1.n,.own 3 0 v1.src.length,.own 4 0 v1.tgt.length,.own 5 0 ((([]:(List Int))++a0.dims).length),.own 9 0 ((x1.1++[v5]).length)]]⟩),(3,⟨1,v1.src.map (ow eI)⟩),(4,⟨1,v1.tgt.map (ow eI)⟩),(5,⟨1,List.map (ow eI) (([]:(List Int))++a0.dims)⟩),(9,⟨3,List.map (ow eM) (x1.1++[v5])⟩)] 10) (Ent.trans (dJ (b:=9) (b':=7) (j:=2) (es':=v5.cells.map eI) k k k k (aH _ _) (cA.frzs _)) (bP (bG k2) (bO k<|bO k<|hX ⟨_,k,k,.inr ⟨_,_,k,⟨_,_,k,k,⟨_,_,k,k,⟨_,_,k,⟨k,k,k,k⟩,⟨_,_,k,⟨k,k,k,k⟩,⟨_,_,k,⟨k,k,k,k⟩,⟨_,_,k,⟨k,k,(by simp only [aH,lA,lT,lR,lC,lN]),k⟩,k⟩⟩⟩⟩⟩⟩,k⟩⟩ k<|bN k<|bN k<|bN k<|hX ⟨_,k,k,.inl ⟨fV v5 k,aX.plainO _⟩⟩ k<|aQ) k4))<|rg<|am k k<|ae (bF k k) k<|aT k2<|sp h ⟨_,k,(gT [0,1,2,3,4,5,9] (bG k2) (bO k<|bO k<|eJ k<|bN k<|bN k<|bN k<|bW (aX.plainO _) k<|aQ) k4)⟩
 ·rintro e t ⟨rfl,hent⟩;exact aN<|tn<|aI hent<|sR<|lp k8<|ae (ws k) k<|an<|tn<|aE<|sp h (bD k k k (iJ (aU (k) (aU (k) (aU (cW cA k k) (aU (cW cA k k) (aU (cW cA k k) (aU (cW aX k k) fA))))))))
def aHH (a0:Br) (a1:Br):Option Bool:=
 bif !decide (a0.first=a1.first) then
 (some (false))
 else
 (bif !decide (a0.last=a1.last) then
 (some (false))
 else
 (bif !decide (a0.count=a1.count) then
 (some (false))
 else
 (some (true))))
theorem aNf (a0:Br) (a1:Br) (r:Bool) (h:aHH a0 a1=some r):HasC Tryz.prog 123 [.agg (eB a0),.agg (eB a1)] (.bl r):=by
 exact hM [.tmp 4] Tryz.func123 Tryz.ntmps123 k<|sR<|ae (wb k) k<|ae (wb k) k<|aT k2<|sQ<|sR<|fp k8<|lp k8<|fp k8<|lp k8<|cm k4<|an<|tn<|cN k h (λ_ h=>sR<|aT k2<|aE<|aC<|gK h k2) λ_ h=>aG<|tn<|sQ<|sR<|fp k8<|lp k8<|fp k8<|lp k8<|cm k4<|an<|tn<|cN k h (λ_ h=>sR<|aT k2<|aE<|aC<|gK h k2) λ_ h=>aG<|tn<|sQ<|sR<|fp k8<|lp k8<|fp k8<|lp k8<|cm k4<|an<|tn<|cN k h (λ_ h=>sR<|aT k2<|aE<|aC<|gK h k2) λ_ h=>aG<|tn<|sR<|aT k2<|aE<|gK h k2
def aAj (a0:(List Br)) (a1:(List Br)) (x1:Int):Option (Int ⊕ (Unit ⊕ Bool)):=
 bif decide (x1<(a0.length:Int)) then
 ((cY a0 x1).bind λv3=>
 (cY a1 x1).bind λv4=>
 (aHH v3 v4).bind λv5=>
 bif !v5 then
 (some (.inr (.inr (false))))
 else
 (some (.inl (wr (x1+1)))))
 else
 (some (.inr (.inl ())))
def aAx (a0:(List Br)) (a1:(List Br)):Option Bool:=
 bif !decide ((a0.length:Int)=(a1.length:Int)) then
 (some (false))
 else
 ((Lp (aAj a0 a1) 0).bind λy7=>
 Sum.elim (λy8=>
 some (true)
 )
 (λy9=>
 some y9
 )
 y7)
theorem aLe (a0:(List Br)) (a1:(List Br)) (r:Bool) (h:aAx a0 a1=some r):HasC Tryz.prog 65 [.list 3 (a0.map eB),.list 3 (a1.map eB)] (.bl r):=by
 refine hM [.tmp 4] Tryz.func65 Tryz.ntmps65 k<|sR<|aT k2<|sQ<|sR<|am k k<|ln k4<|am k k<|ln k4<|cm k4<|an<|tn<|cN k h (λ_ h=>sR<|aT k2<|aE<|aC<|gK h k2) λ_ h=>?_;refine aG<|tn<|sQ<|sR<|aT k2<|aD<|oB h λy7 hy7 h=>cC (body:=(aAj a0 a1)) hy7 (λ(x1:Int)=>mN [(0,.list 3 (a0.map eB)),(1,.list 3 (a1.map eB)),(5,.int x1)] [] 0) (λr e t=>Sum.elim (λa=>(λr e t=>e= .exit 0∧Ent t (mN [] [] 0)) a e t) (λb=>(λr e t=>e= .ret∧mW TT [.tmp 4] (.bl r) .ret t) b e t) r) (bP (bG k2) aQ k4) ?_ ?_
 ·intro x1 o h;exact sQ<|sR<|am k k<|am k k<|ln k4<|cm k4<|an<|tn<|cN k h (λ_ h=>aG<|tn<|sQ<|aD<|sQ<|aP fB<|am k k<|am k k<|oB h λv3 hv3 h=>ae (xl hv3 k) k<|lr k7<|am k k<|am k k<|oB h λv4 hv4 h=>ae (xl hv4 k) k<|lr k7<|oB h λv5 hv5 h=>ae (aS (aNf v3 v4 v5 hv5) k (aL (eV k) (aL (eV k) aO))) k<|ae (dI k) k<|an<|lL (by kernel_rfl)<|tn<|cN k h (λ_ h=>sR<|aT k2<|aE<|bC<|aC<|aC<|sp h ⟨_,k,k,bD k k k (lF k)⟩) λ_ h=>aG<|bB<|tn<|rg<|am k k<|ae (bF k k) k<|aT k2<|sp h ⟨_,k,(bP (bG k2) aQ k4)⟩) λ_ h=>aY<|aB<|aB<|sp h ⟨_,k,k,(bP aQ aQ k4)⟩
 ·intro e t hX;rcases y7 with y8|y9
  ·obtain ⟨rfl,hent⟩:=hX;exact aN<|tn<|aI hent<|sR<|aT k2<|aE<|gK h k2
  ·obtain ⟨rfl,hent⟩:=hX;exact bC<|aC<|sp h hent
def qQ (a0:Cl) (a1:Cl):Option Bool:=
 bif !decide (a0.kind=a1.kind) then
 (some (false))
 else
 ((rM a0.rep a1.rep).bind λv2=>
 bif !v2 then
 (some (false))
 else
 ((rM a0.other a1.other).bind λv4=>
 bif !v4 then
 (some (false))
 else
 ((aAq a0.parts a1.parts).bind λv6=>
 bif !v6 then
 (some (false))
 else
 ((qJ a0.maps a1.maps).bind λv8=>
 bif !v8 then
 (some (false))
 else
 ((aAx a0.bars a1.bars).bind λv10=>
 bif !v10 then
 (some (false))
 else
 ((lK a0.theta a1.theta).bind λv12=>
 bif !v12 then
 (some (false))
 else
 ((yF a0.subs a1.subs).bind λv14=>
 bif !v14 then
 (some (false))
 else
 (some (true)))))))))
theorem aCQ (a0:Cl) (a1:Cl) (r:Bool) (h:qQ a0 a1=some r):HasC Tryz.prog 28 [.agg (eC a0),.agg (eC a1)] (.bl r):=by
 refine hM [.tmp 4] Tryz.func28 Tryz.ntmps28 k<|sR<|ae (wb k) k<|ae (wb k) k<|aT k2<|sQ<|sR<|fp k8<|lp k8<|fp k8<|lp k8<|cm k4<|an<|tn<|cN k h (λ_ h=>sR<|aT k2<|aE<|aC<|gK h k2) λ_ h=>?_;refine aG<|tn<|sQ<|sR<|fp k8<|lp k8<|fp k8<|lp k8<|oB h λv2 hv2 h=>ae (aS (aBl a0.rep a1.rep v2 hv2) k (aL (eV k) (aL (eV k) aO))) k<|ae (dI k) k<|an<|tn<|cN k h (λ_ h=>sR<|aT k2<|aE<|aC<|gK h k2) λ_ h=>?_;refine aG<|tn<|sQ<|sR<|fp k8<|lp k8<|fp k8<|lp k8<|oB h λv4 hv4 h=>ae (aS (aBl a0.other a1.other v4 hv4) k (aL (eV k) (aL (eV k) aO))) k<|ae (dI k) k<|an<|tn<|cN k h (λ_ h=>sR<|aT k2<|aE<|aC<|gK h k2) λ_ h=>?_;exact aG<|tn<|sQ<|sR<|fp k8<|lp k8<|fp k8<|lp k8<|oB h λv6 hv6 h=>ae (aS (aLY a0.parts a1.parts v6 hv6) k (cJ k (cJ k aO))) k<|ae (dI k) k<|an<|tn<|aI (t:=mN [(2,.ptr 0 0 0),(3,.ptr 1 0 0),(27,.bl (!v6))] [(0,⟨18,[eC a0]⟩),(1,⟨18,[eC a1]⟩)] 2) (bP (bG k2) (bO k<|bO k<|aQ) k4)<|cN k h (λ_ h=>sR<|aT k2<|aE<|aC<|gK h k2) λ_ h=>aG<|tn<|sQ<|sR<|fp k8<|lp k8<|fp k8<|lp k8<|oB h λv8 hv8 h=>ae (aS (aDS a0.maps a1.maps v8 hv8) k (cJ k (cJ k aO))) k<|ae (dI k) k<|an<|tn<|cN k h (λ_ h=>sR<|aT k2<|aE<|aC<|gK h k2) λ_ h=>aG<|tn<|sQ<|sR<|fp k8<|lp k8<|fp k8<|lp k8<|oB h λv10 hv10 h=>ae (aS (aLe a0.bars a1.bars v10 hv10) k (cJ k (cJ k aO))) k<|ae (dI k) k<|an<|tn<|cN k h (λ_ h=>sR<|aT k2<|aE<|aC<|gK h k2) λ_ h=>aG<|tn<|sQ<|sR<|fp k8<|lp k8<|fp k8<|lp k8<|oB h λv12 hv12 h=>ae (aS (sT a0.theta a1.theta v12 hv12) k (cJ k (cJ k aO))) k<|ae (dI k) k<|an<|tn<|cN k h (λ_ h=>sR<|aT k2<|aE<|aC<|gK h k2) λ_ h=>aG<|tn<|sQ<|sR<|fp k8<|lp k8<|fp k8<|lp k8<|oB h λv14 hv14 h=>ae (aS (aJJ a0.subs a1.subs v14 hv14) k (cJ k (cJ k aO))) k<|ae (dI k) k<|an<|tn<|aI (t:=mN [(51,.bl (!v14))] [] 2) (bP (bG k2) aQ k4)<|cN k h (λ_ h=>sR<|aT k2<|aE<|aC<|gK h k2) λ_ h=>aG<|tn<|sR<|aT k2<|aE<|gK h k2
end
noncomputable section
set_option maxRecDepth 10000
set_option maxHeartbeats 4000000
def tY (a1:Qv) (a2:(List Int)) (x1:((List Mt)×Int)):Option (((List Mt)×Int) ⊕ (List Mt)):=
 bif decide (x1.2<(a1.src.length:Int)) then
 ((cY a1.src x1.2).bind λv4=>
 (cY a1.tgt x1.2).bind λv5=>
 (cY a2 v5).bind λv6=>
 (cY a2 v4).bind λv7=>
 (lI v6 v7).bind λv8=>
 bif decide (x1.1.length+1≤4294967296) then
 (some (.inl ((x1.1++[v8]),wr (x1.2+1))))
 else none)
 else
 (some (.inr x1.1))
def aAL (a0:Int) (a1:Qv) (a2:(List Int)):Option Rp:=
 (jA a1).bind λv1=>
 (pG a2).bind λv2=>
 (Lp (tY a1 a2) ([],0)).bind λy10=>
 some ((⟨a0,v1,v2,y10⟩:Rp))
theorem aKx (a0:Int) (a1:Qv) (a2:(List Int)) (r:Rp) (h:aAL a0 a1 a2=some r):HasC Tryz.prog 83 [.int a0,.agg (eQ a1),.list 1 (a2.map eI)] (.agg (eR r)):=by
 refine hM [.cell 6 29] Tryz.func83 Tryz.ntmps83 k<|sR<|ae (wb k) k<|ae (bX aJ k k) k<|an<|tn<|sR<|am k k<|lp k8<|oB h λv1 hv1 h=>ae (cQ (aBb a1 v1 hv1) k3 (aL (eV k) aO)) k<|am k k<|oB h λv2 hv2 h=>ae (cL cA (aDv a2 v2 hv2) k3 (cJ k aO)) k<|ae (fW aJ k k k k k k) k<|ae (bX aJ k k) k<|ae (ws k) k<|an<|tn<|sQ<|sR<|fp k8<|lp k8<|ln k4<|am k k<|an<|tn<|aD<|oB h λy10 hy10 h=>cC (body:=(tY a1 a2)) hy10 (λ(x1:((List Mt)×Int))=>mN [(2,.list 1 (a2.map eI)),(4,.ptr 0 0 0),(6,.ptr 1 0 0),(7,.ptr 2 0 0),(17,.list 1 (a1.src.map eI)),(18,.int (a1.src.length:Int)),(19,.int x1.2)] [(0,⟨3,[eQ a1]⟩),(1,⟨6,[nB]⟩),(2,⟨6,[[.int a0,.int v1.n,.own 3 0 v1.src.length,.own 4 0 v1.tgt.length,.own 5 0 v2.length,.own 6 0 x1.1.length]]⟩),(3,⟨1,v1.src.map (ow eI)⟩),(4,⟨1,v1.tgt.map (ow eI)⟩),(5,⟨1,v2.map (ow eI)⟩),(6,⟨3,x1.1.map (ow eM)⟩)] 7) (λr e t=>e= .exit 0∧Ent t (mN [(6,.ptr 0 0 0),(7,.ptr 1 0 0)] [(0,⟨6,[nB]⟩),(1,⟨6,[[.int a0,.int v1.n,.own 2 0 v1.src.length,.own 3 0 v1.tgt.length,.own 4 0 v2.length,.own 5 0 r.length]]⟩),(2,⟨1,v1.src.map (ow eI)⟩),(3,⟨1,v1.tgt.map (ow eI)⟩),(4,⟨1,v2.map (ow eI)⟩),(5,⟨3,r.map (ow eM)⟩)] 6)) (eY (σ:=sg [(0,0),(1,1),(2,5),(3,2),(4,3),(5,4)]) (bG k2) (bO k<|bO k<|hX ⟨_,k,k,.inr ⟨_,_,k,⟨_,_,k,k,⟨_,_,k,k,⟨_,_,k,⟨k,k,k,k⟩,⟨_,_,k,⟨k,k,k,k⟩,⟨_,_,k,⟨k,k,k,k⟩,⟨_,_,k,⟨k,k,k,k⟩,k⟩⟩⟩⟩⟩⟩,k⟩⟩ k<|bN k<|bN k<|bN k<|hX k k<|aQ) k) ?_ ?_
 ·intro x1 o h;refine sR<|cm k4<|an<|tn<|sQ<|cN k h (λ_ h=>?_) λ_ h=>aY<|aB<|aB<|sp h ⟨_,k,k,(gT [1,2,3,4,5,6] (bG k2) (bO k<|eJ k<|bN k<|bN k<|bN k<|bW (aX.plainO _) k<|aQ) k4)⟩;refine aG<|tn<|sQ<|aD<|sR<|am k k<|oB h λv4 hv4 h=>ae (xl hv4 k) k<|lr k7<|aa k k<|aT k2<|aP fB<|fp k8<|lp k8<|am k k<|fp k8<|lp k8<|am k k<|oB h λv5 hv5 h=>ae (xl hv5 k) k<|lr k7<|oB h λv6 hv6 h=>ae (xl hv6 k) k<|lr k7<|am k k<|am k k<|oB h λv7 hv7 h=>ae (xl hv7 k) k<|lr k7<|oB h λv8 hv8 h=>ae (cM (uQ v6 v7 v8 hv8) k3 (cJ k (cJ k aO))) k ?_;exact ae (wl k) k<|cG h λq9 h=>ae (fN aJ (l:=x1.1) (c:=[.int v8.rows,.int v8.cols,.own 7 0 v8.cells.length]) q9 k k k k k k k k k k k k k k) k<|fp k8<|ae (ws k) k<|an<|lL (by kernel_rfl)<|bB<|tn<|aI (t:=mN [(2,.list 1 (a2.map eI)),(4,.ptr 0 0 0),(6,.ptr 1 0 0),(7,.ptr 2 0 0),(17,.list 1 (a1.src.map eI)),(18,.int (a1.src.length:Int)),(19,.int x1.2)] [(0,⟨3,[eQ a1]⟩),(1,⟨6,[nB]⟩),(2,⟨6,[[.int a0,.int v1.n,.own 3 0 v1.src.length,.own 4 0 v1.tgt.length,.own 5 0 v2.length,.own 9 0 ((x1.1++[v8]).length)]]⟩),(3,⟨1,v1.src.map (ow eI)⟩),(4,⟨1,v1.tgt.map (ow eI)⟩),(5,⟨1,v2.map (ow eI)⟩),(9,⟨3,List.map (ow eM) (x1.1++[v8])⟩)] 10) (Ent.trans (dJ (b:=9) (b':=7) (j:=2) (es':=v8.cells.map eI) k k k k (aH _ _) (cA.frzs _)) (bP (bG k2) (bO k<|bO k<|hX ⟨_,k,k,.inr ⟨_,_,k,⟨_,_,k,k,⟨_,_,k,k,⟨_,_,k,⟨k,k,k,k⟩,⟨_,_,k,⟨k,k,k,k⟩,⟨_,_,k,⟨k,k,k,k⟩,⟨_,_,k,⟨k,k,(by simp only [aH,lA,lT,lR,lC,lN]),k⟩,k⟩⟩⟩⟩⟩⟩,k⟩⟩ k<|bN k<|bN k<|bN k<|hX ⟨_,k,k,.inl ⟨fV v8 k,aX.plainO _⟩⟩ k<|aQ) k4))<|rg<|ae (bF k k) k<|am k k<|an<|tn<|sp h ⟨_,k,(gT [0,1,2,3,4,5,9] (bG k2) (bO k<|bO k<|eJ k<|bN k<|bN k<|bN k<|bW (aX.plainO _) k<|aQ) k4)⟩
 ·rintro e t ⟨rfl,hent⟩;exact aN<|tn<|aI hent<|sR<|lp k8<|ae (ws k) k<|an<|tn<|aE<|sp h (bD k k k (iJ (aU (k) (aU (k) (aU (cW cA k k) (aU (cW cA k k) (aU (cW cA k k) (aU (cW aX k k) fA))))))))
def jU (a0:Sc) (x1:((List Int)×Int)):Option (((List Int)×Int) ⊕ (List Int)):=
 bif decide (x1.2<(a0.basis.length:Int)) then
 ((cY a0.basis x1.2).bind λv2=>
 (aAI v2).bind λv3=>
 bif decide (x1.1.length+[v3].length ≤4294967296) then
 (some (.inl ((x1.1++[v3]),wr (x1.2+1))))
 else none)
 else
 (some (.inr x1.1))
def mU (a0:Sc):Option (List Int):=
 (Lp (jU a0) ([],0)).bind λy5=>
 some (y5)
theorem aET (a0:Sc) (r:(List Int)) (h:mU a0=some r):HasC Tryz.prog 197 [.agg (eS a0)] (.list 1 (r.map eI)):=by
 refine hM [.tmp 2] Tryz.func197 Tryz.ntmps197 k<|sR<|ae (wb k) k<|aT k2<|sR<|aT k2<|sQ<|sR<|fp k8<|lp k8<|ln k4<|am k k<|an<|tn<|aD<|oB h λy5 hy5 h=>cC (body:=(jU a0)) hy5 (λ(x1:((List Int)×Int))=>mN [(3,.own 0 0 x1.1.length),(7,.list 1 (a0.basis.map (dQ 1 eI))),(8,.int (a0.basis.length:Int)),(9,.int x1.2)] [(0,⟨1,x1.1.map (ow eI)⟩)] 1) (λr e t=>e= .exit 0∧Ent t (mN [(3,.own 0 0 r.length)] [(0,⟨1,r.map (ow eI)⟩)] 1)) (eY (σ:=sg []) (gH ⟨_,k,⟨k,k,k,k⟩⟩ (bG k2)) (hX k k<|aQ) k) ?_ ?_
 ·intro x1 o h;exact sR<|cm k4<|an<|tn<|sQ<|cN k h (λ_ h=>aG<|tn<|sQ<|aD<|sR<|oB h λv2 hv2 h=>ae (xl hv2 k) k<|lr k7<|aT k2<|rg<|am k k<|am k k<|oB h λv3 hv3 h=>ae (aS (aKt v2 v3 hv3) k (cJ k aO)) k<|ae (wl k) k<|cG h λq4 h=>ae (qV aJ (l:=x1.1) (m:=[v3]) kH q4 k k k k k k k k k k k k) k<|aa k k<|an<|bB<|tn<|rg<|ae (bF k k) k<|am k k<|an<|tn<|sp h ⟨_,k,(gT [2] (bG k2) (bN k<|aQ) k4)⟩) λ_ h=>aY<|aB<|aB<|sp h ⟨_,k,k,(bP (bG k2) (bN k<|aQ) k4)⟩
 ·rintro e t ⟨rfl,hent⟩;exact aN<|tn<|aI hent<|sR<|am k k<|aT k2<|aE<|sp h (bD k k k (fH (cW cA k k)))
def tZ (a0:Sc) (x1:((List Int)×Int)) (x2:Int):Option (Int ⊕ Int):=
 (cY a0.basis x1.2).bind λv2=>
 (cY v2 x2).bind λv3=>
 bif decide (v3=0) then
 (some (.inl (wr (x2+1))))
 else
 (some (.inr x2))
def uA (a0:Sc) (x1:((List Int)×Int)):Option (((List Int)×Int) ⊕ (List Int)):=
 bif decide (x1.2<(a0.basis.length:Int)) then
 ((Lp (tZ a0 x1) 0).bind λy5=>
 bif decide (x1.1.length+[y5].length ≤4294967296) then
 (some (.inl ((x1.1++[y5]),wr (x1.2+1))))
 else none)
 else
 (some (.inr x1.1))
def aAM (a0:Sc):Option (List Int):=
 (Lp (uA a0) (([]:(List Int)),0)).bind λy7=>
 some (y7)
theorem aKy (a0:Sc) (r:(List Int)) (h:aAM a0=some r):HasC Tryz.prog 188 [.agg (eS a0)] (.list 1 (r.map eI)):=by
 refine hM [.tmp 2] Tryz.func188 Tryz.ntmps188 k<|sR<|ae (wb k) k<|aT k2<|sR<|ae (wl k) k<|aT k2<|aI (t:=mN [(1,.ptr 0 0 0),(3,.own 1 0 (([]:(List Int)).length))] [(0,⟨2,[eS a0]⟩),(1,⟨1,List.map (ow eI) ([]:(List Int))⟩)] 2) (bP (kT 1 k2 (gH ⟨_,k,⟨k,k,(by simp only [aH,lA,lT,lR,lC,lN]),k⟩⟩ aQ)) (bO k<|bN k<|aQ) k4)<|sQ<|sR<|aT k2<|aD<|oB h λy7 hy7 h=>cC (body:=(uA a0)) hy7 (λ(x1:((List Int)×Int))=>mN [(1,.ptr 0 0 0),(3,.own 1 0 x1.1.length),(4,.int x1.2)] [(0,⟨2,[eS a0]⟩),(1,⟨1,x1.1.map (ow eI)⟩)] 2) (λr e t=>e= .exit 0∧Ent t (mN [(3,.own 0 0 r.length)] [(0,⟨1,r.map (ow eI)⟩)] 1)) (bP (bG k2) (bO k<|bN k<|aQ) k4) ?_ ?_
 ·intro x1 o h;refine sQ<|sR<|am k k<|fp k8<|lp k8<|ln k4<|cm k4<|an<|tn<|cN k h (λ_ h=>?_) λ_ h=>aY<|aB<|aB<|sp h ⟨_,k,k,(gT [1] (bG k2) (bN k<|aQ) k4)⟩;refine aG<|tn<|sQ<|aD<|sR<|aT k2<|sQ<|aD<|oB h λy5 hy5 h=>cC (body:=(tZ a0 x1)) hy5 (λ(x2:Int)=>mN [(1,.ptr 0 0 0),(3,.own 1 0 x1.1.length),(4,.int x1.2),(5,.int x2)] [(0,⟨2,[eS a0]⟩),(1,⟨1,x1.1.map (ow eI)⟩)] 2) (λr e t=>e= .exit 2∧Ent t (mN [(1,.ptr 0 0 0),(3,.own 1 0 x1.1.length),(4,.int x1.2),(5,.int r)] [(0,⟨2,[eS a0]⟩),(1,⟨1,x1.1.map (ow eI)⟩)] 2)) (bP (bG k2) (bO k<|bN k<|aQ) k4) ?_ ?_
  ·intro x2 o h;exact sQ<|sR<|fp k8<|lp k8<|am k k<|oB h λv2 hv2 h=>ae (xl hv2 k) k<|lr k7<|am k k<|oB h λv3 hv3 h=>ae (xl hv3 k) k<|lr k7<|cm k4<|an<|tn<|cN k h (λ_ h=>aG<|tn<|aD<|rg<|am k k<|ae (bF k k) k<|aa k k<|an<|bB<|tn<|sp h ⟨_,k,(bP (bG k2) (bO k<|bN k<|aQ) k4)⟩) λ_ h=>aY<|aB<|aB<|sp h ⟨_,k,k,(bP (bG k2) (bO k<|bN k<|aQ) k4)⟩
  ·rintro e t ⟨rfl,hent⟩;exact aN<|tn<|aI hent<|rg<|am k k<|am k k<|ae (wl k) k<|cG h λq6 h=>ae (qV aJ (l:=x1.1) (m:=[y5]) kH q6 k k k k k k k k k k k k) k<|aa k k<|an<|bB<|tn<|rg<|am k k<|ae (bF k k) k<|aT k2<|sp h ⟨_,k,(gT [0,3] (bG k2) (bO k<|bN k<|aQ) k4)⟩
 ·rintro e t ⟨rfl,hent⟩;exact aN<|tn<|aI hent<|sR<|am k k<|aT k2<|aE<|sp h (bD k k k (fH (cW cA k k)))
end
noncomputable section
theorem aSt {s:AState} {b i j k0 k':Nat} {blk:Blk} {cs:List AV} (hb:s.heap b=some blk) (hi:blk.es[i]? =some cs) (hj:cs[j]? =some (.nil k0)):
  Ent s ⟨s.env,bK [(b,some ⟨blk.k,blk.es.set i (cs.take j++[.list k' []]++cs.drop (j+1))⟩)] s.heap,s.used,s.ns,s.kp⟩:=by
 have hjl:j<cs.length:=by
  rcases eO j cs.length with h'|h'
  ·exact h'
  ·rw [iL h'] at hj;cases hj
 intro C ν a w hs;obtain ⟨φ,hh⟩:=hs.heap;obtain ⟨hub,⟨hk1,hx1⟩,hnd1,hB1⟩:=hh.blk b blk hb;have hcs:=hk1 cs (List.mem_of_getElem? hi);rcases hx1 with ⟨q1,q2,_⟩|⟨β,c,arr,ty,T,vs,q1,q2,q3,q4,q5,q6,q7,q8⟩
 ·rw [q2] at hi;simp at hi
 ·have hext:Ext w s.heap s.used ν w (bK [(b,some ⟨blk.k,blk.es.set i (cs.take j++[.list k' []]++cs.drop (j+1))⟩)] s.heap) s.used ν:=by
   refine ⟨λ_ h=>h,λb2 blk2 _ hb2=>?_,λx hx hfr=>⟨rfl,λb2 blk2 β2 c2 hb2 hν2=>?_⟩,rfl⟩
   ·simp only [bK] at hb2;by_cases e2:b2=b
    ·subst e2;simp only [cE,aM,Option.some.injEq] at hb2;subst hb2;exact ⟨blk,hb,rfl,by simp,rfl⟩
    ·rw [cK e2] at hb2;exact ⟨blk2,hb2,rfl,rfl,rfl⟩
   ·simp only [bK] at hb2;by_cases e2:b2=b
    ·subst e2;exact hfr b2 blk β2 c2 hb hν2
    ·rw [cK e2] at hb2;exact hfr b2 blk2 β2 c2 hb2 hν2
  have hdrop:blk.es.flatten.drop (i*blk.k+j)= .nil k0::blk.es.flatten.drop (i*blk.k+j+1):=by
   obtain ⟨r,hr⟩:=yR hk1 hi;have h1:blk.es.flatten.drop (i*blk.k+j)=(cs++r).drop j:=by rw [←hr,List.drop_drop]
   have h2:blk.es.flatten.drop (i*blk.k+j+1)=(cs++r).drop (j+1):=by rw [←hr,List.drop_drop,Nat.add_assoc]
   rw [h1,h2,List.drop_append_of_le_length (by omega),List.drop_append_of_le_length (by omega),List.drop_eq_getElem_cons hjl];have:cs[j]= .nil k0:=by simpa [hjl] using hj
   rw [this];rfl
  have hfl:blk.es.flatten=blk.es.flatten.take (i*blk.k+j)++([.nil k0]++blk.es.flatten.drop (i*blk.k+j+1)):=by
   rw [List.singleton_append,←hdrop,List.take_append_drop]
  rw [hfl] at q8;obtain ⟨v1,v2,S1,S2,e1,e2,e3,e4,e5⟩:=q8.append_inv;obtain ⟨v3,v4,S3,S4,f1,f2,f3,f4,f5⟩:=e5.append_inv;subst f1 f2;obtain ⟨v,r0,S5,S6,rfl,rfl,g1,⟨rfl,rfl⟩⟩:=f4;simp only [CellRep,Rep1] at g1;obtain ⟨g2,rfl⟩:=g1
  have d1:RepD w (.list k' []) v []:=by
   unfold RepD;exact ⟨none,0,by rw [g2];rfl,by simp,by unfold maxLen;omega,.inl ⟨rfl,rfl⟩⟩
  have hφ:φ b=β::(S1++S4):=by rw [q6,e2];simp
  refine ⟨ν,hs.below,hs.base,hs.fresh,hs.defers,hs.size,λt x hx=>by obtain ⟨v,h1,h2⟩:=hs.env t x hx;exact ⟨v,h1,h2.ext hext⟩,⟨φ,?_,?_⟩,hs.kp,hs.ext.trans hext,hs.szE,hs.okM,hs.okF⟩
  ·intro x blk2 hx;simp only [bK] at hx;by_cases e0:x=b
   ·subst e0;simp only [cE,aM,Option.some.injEq] at hx;subst hx;refine ⟨hub,⟨?_,.inr ⟨β,c,arr,ty,S1++S4,vs,q1,q2,q3,by simpa using q4,q5,hφ,by simpa using q7,?_⟩⟩,hnd1,hB1⟩
    ·intro d hd;rcases List.mem_or_eq_of_mem_set hd with h|h
     ·exact hk1 d h
     ·rw [h];simp;omega
    ·rw [wP (n:=1) hk1 hi rfl (by omega),e1];have m1:CellsRep w (bK [(x,some ⟨blk.k,blk.es.set i (cs.take j++[.list k' []]++cs.drop (j+1))⟩)] s.heap) s.used ν [.list k' []] [v] []:=⟨v,[],[],[],rfl,rfl,⟨⟨[],d1,by simp⟩,rfl⟩,rfl,rfl⟩;have m2:=(e4.ext hext (λ_ _=>rfl)).append (m1.append (f5.ext hext (λ_ _=>rfl)));rw [List.append_assoc (List.take (i*blk.k+j) blk.es.flatten)];simpa using m2
   ·rw [cK e0] at hx;obtain ⟨p1,p2,p3,p4⟩:=hh.blk x blk2 hx;exact ⟨p1,p2.ext hext rfl (λ_ _=>rfl),p3,p4⟩
  ·have hsub: ∀ x,bK [(b,some ⟨blk.k,blk.es.set i (cs.take j++[.list k' []]++cs.drop (j+1))⟩)] s.heap x≠none→s.heap x≠none:=by
    intro x hx;simp only [bK] at hx;by_cases e0:x=b
    ·subst e0;rw [hb];simp
    ·rw [cK e0] at hx;exact hx
   intro x1 x2 y hx1 hx2 hne2 hy1 hy2;exact hh.apart x1 x2 y (hsub x1 hx1) (hsub x2 hx2) hne2 hy1 hy2
theorem aCR {s:AState} {b i j k0 k':Nat} {blk:Blk} {cs:List AV} (hb:s.heap b=some blk) (hi:blk.es[i]? =some cs) (hj:cs[j]? =some (.nil k0)):
  Ent s ⟨s.env,bK [(b,some ⟨blk.k,blk.es.set i (aDE cs j [.list k' []])⟩)] s.heap,s.used,s.ns,s.kp⟩:=by
 have hjl:j<cs.length:=by
  rcases eO j cs.length with h'|h'
  ·exact h'
  ·rw [iL h'] at hj;cases hj
 rw [←aDr (by simp;omega)];exact aSt hb hi hj
end
noncomputable section
section
variable {P:Program} {T:List (Nat×Ty)} {dst:Option Tmp} {ty:TypeId} {pos:String} {aft:Array Edge} {g:Option (Nat×Bool)}
theorem aFs (hT:TyOk P T) {ins:Operand→Option AV} {hp:Hp} {κ:Kp} {x:Operand} {t:Nat} {y:Ty} {cs:List AV} {W:World} {vb:Value} {S:List Nat} {K:List AV→Prop}
  (hfx:κ.fx=zU W) (hrep:RepD W (.ref cs) vb S) (hx:ins x=some (.sc vb)) (hy:dT T t=some y) (h1:(y.desc.isAgg||Nat.beq y.size 1)=true) (hn:y.size≤cs.length) (ok:(cs.take y.size).all jF=true) (h:aGq W (cs.take y.size) K):
  ∃ xs,K xs∧AEff P ⟨dst,.load t x,ty,pos,aft,g⟩ ins hp κ ⟨zN y.desc.isAgg xs,[],[],[]⟩:=by
 have hlt:=hrep.lt;simp only [RepD] at hrep;obtain ⟨b,o,S',rfl,h4,rfl,h5⟩:=hrep;obtain ⟨us,g1,g2,g3,g4⟩:=h5.vals;obtain ⟨S2,g5,g6⟩:=g1.take y.size;obtain ⟨xs,hk,hxs⟩:=aJb g5 ok h;refine ⟨xs,hk,⟨λC s ν a w Q K {hκ} hi' ht hnw hd hs hK=>?_⟩⟩;have hp1:=hs.ev ((hi' x (by simp [Op.operands])).trans hx);simp only [RepA,RepB,Rep1] at hp1;have hst:=(hs.stays hκ hfx (b:=b) (hlt b (by simp))).1
 have hrun: ∃ v,(execOp a.eval ⟨dst,.load t x,ty,pos,aft,g⟩).run P w= .ok (.value v) w∧RepA w s.heap s.used ν (zN y.desc.isAgg xs) v:=by
  obtain ⟨ii,z,d,hy'⟩:=hT.is hy;have hl:(us.take y.size).length=y.size:=by simp;omega
  have hr:=nH (P:=P) hy' (w:=w) (b:=b) (o:=o) (vs:=us.take y.size) hl (λhg=>by rw [hg] at h1;simpa using Nat.eq_of_beq_eq_true h1) (λm u hu=>by
   have hm:m<y.size:=by
    rcases eO m y.size with h'|h'
    ·exact h'
    ·rw [iL (by omega)] at hu;cases hu
   rw [List.getElem?_take_of_lt hm] at hu
   exact (aMu hst).trans (g4 m u hu).1)
  refine ⟨_,by simp only [execOp,Instr.loadAt,hp1.1,Instr.sureAddr,Sem.run_bind,Sem.run_pure,Result.andThen_ok];rw [hr];rfl,?_⟩;have e3:=hxs w s.heap s.used ν;cases hg:y.desc.isAgg with
  |true=>
   simp only [zN,aM,if_true,RepA,RepB];exact ⟨_,rfl,e3⟩
  |false=>
   rw [hg] at h1;have hs1:y.size=1:=Nat.eq_of_beq_eq_true (by simpa using h1);simp only [zN,aR];revert e3 hl;generalize us.take y.size=vs;intro hl e3
   match xs,vs,e3 with
   | [],vs,e3=>simp only [All2] at e3;subst e3;simp [hs1] at hl
   |d::ds,vs,e3=>
    obtain ⟨v,r,rfl,e6,e7⟩:=e3;simp only [List.headD_cons,List.getElem?_cons_zero,jP,fU,if_false];exact e6.repA
 obtain ⟨v,h1,h2⟩:=hrun;unfold Oper.wp;rw [h1];simp only [Oper.upon];exact hK ν _ w (hs.step hd (Ext.refl _ _ _ _) (Below.refl _ _) hs.heap rfl h2)
end
section
variable {P:Program} {T:List (Nat×Ty)} {ops:Array Oper} {nt:Nat} {dst:Option Tmp} {ty:TypeId} {pos:String} {aft:Array Edge} {g:Option (Nat×Bool)} {rest:List Oper} {s:AState} {α:Type} {k:Nat} {e:α→List AV}
def aGP (W:World) (cs:List AV) (v:Value):Prop:= ∃ S,RepD W (.ref cs) v S
theorem sX {l:List α} {i:Nat} {u:α} {W:World} {v:Value} {S:List Nat} (r:RepD W (.list k (l.map e)) v S) (hm:l[i]? =some u):aGP W (e u) (aKs v k i):=aMd (i:=i) (cs:=e u) r (by rw [List.getElem?_map,hm];rfl)
def aQm (v:Value) (j:Nat):Value:=match v with
 | .pointer (some a)=> .pointer (some ⟨a.block,a.off+j,none⟩)
 |v=>v
theorem aGQ {W:World} {cs:List AV} {v:Value} (r:aGP W cs v) (j:Nat):aGP W (cs.drop j) (aQm v j):=by
 obtain ⟨S,r⟩:=r;simp only [RepD] at r;obtain ⟨b,o,S',rfl,h4,rfl,h5⟩:=r;obtain ⟨S2,h6,h7⟩:=h5.drop j;exact ⟨b::S2,by simp only [RepD];exact ⟨b,o+j,S2,rfl,h4,rfl,h6⟩⟩
theorem aEv (hT:TyOk P T) {x:Operand} {st f off ft:Nat} {cs:List AV} {y yf:Ty} {fs:List (Nat×Nat)} {W:World} {v:Value} (r:aGP W cs v) (hx:s.ev x=some (.sc v)) (hy:dT T st=some y) (hd:y.desc= .struct fs) (hf:fs[f]? =some (off,ft)) (hft:dT T ft=some yf) (hsz:Nat.beq yf.size 0=false):
  AEff P ⟨dst,.fieldAddr st x f,ty,pos,aft,g⟩ s.ev s.heap s.kp ⟨.sc (aQm v off),[],[],[]⟩:=
 AEff.pure λC s ν a w hi ht hs=>by
  have h1:=hs.ev ((hi x (by simp [Op.operands])).trans hx);simp only [RepA,RepB,Rep1] at h1;obtain ⟨S,r⟩:=r;simp only [RepD] at r;obtain ⟨b,o,S',rfl,h4,rfl,h5⟩:=r;obtain ⟨ii,z,d,hy'⟩:=hT.is hy;obtain ⟨if',zf,df,hyf⟩:=hT.is hft;obtain ⟨fields,hu,fd,hf1,hf2,hf3⟩:=hy'.field hd hf;have hs0:yf.size≠0:=λh=>by rw [h] at hsz;cases hsz
  refine ⟨.pointer (some ⟨b,o+off,none⟩),?_,by simp only [RepA,RepB,Rep1,aQm];exact ⟨trivial,rfl⟩⟩;simp only [execOp,Instr.fieldAt,Sem.run_bind,kO hu,Result.andThen_ok,hf1,h1.1,Instr.sureAddr,fieldPlace,Sem.run_pure,hf3,lO hyf.info,hyf.size,hs0,if_false,hf2];rw [Addr.add_lit]
theorem aPM (hT:TyOk P T) {x:Operand} {t:Nat} {y:Ty} {cs:List AV} {av:AV} {W:World} {v:Value} (r:aGP W cs v) (hfx:s.kp.fx=zU W) (hx:s.ev x=some (.sc v)) (hy:dT T t=some y) (h1:(y.desc.isAgg||Nat.beq y.size 1)=true) (hn:Nat.ble y.size cs.length=true) (hpl:(cs.take y.size).all fG=true) (hv:zN y.desc.isAgg (cs.take y.size)=av):
  AEff P ⟨dst,.load t x,ty,pos,aft,g⟩ s.ev s.heap s.kp ⟨av,[],[],[]⟩:=by
 obtain ⟨S,hr⟩:=r;exact hv▸aEF hT hfx hr hr.lt hx hy h1 (Nat.le_of_ble_eq_true hn) hpl
theorem aFM (hT:TyOk P T) {K:AState→Prop} {x:Operand} {t:Nat} {y:Ty} {W:World} {v:Value} {c0:List AV} (cs:List AV) (r:aGP W c0 v) (hfx:s.kp.fx=zU W) (hx:s.ev x=some (.sc v)) (hy:dT T t=some y) (h1:(y.desc.isAgg||Nat.beq y.size 1)=true) (hn:Nat.ble y.size c0.length=true) (hc:c0.take y.size=cs) (ok:cs.all jF=true)
  (hd:aGe ⟨dst,.load t x,ty,pos,aft,g⟩ nt=true) (hg:mJ ops s.env ⟨dst,.load t x,ty,pos,aft,g⟩=some true)
  (h:aGq W cs λxs=>SOps P ops nt rest (s.app dst ⟨zN y.desc.isAgg xs,[],[],[]⟩) K):SOps P ops nt (⟨dst,.load t x,ty,pos,aft,g⟩::rest) s K:=by
 subst hc;obtain ⟨S',hr⟩:=r;obtain ⟨xs,hk,he⟩:=aFs (dst:=dst) (ty:=ty) (pos:=pos) (aft:=aft) (g:=g) hT (hp:=s.heap) hfx hr hx hy h1 (Nat.le_of_ble_eq_true hn) ok h;exact aOk he hd hg rfl hk
theorem aMe (hT:TyOk P T) {tr:List Tr} {K:List Tr→AState→Prop} {x:Operand} {t:Nat} {y:Ty} {W:World} {v:Value} {c0:List AV} (cs:List AV) (r:aGP W c0 v) (hfx:s.kp.fx=zU W) (hx:s.ev x=some (.sc v)) (hy:dT T t=some y) (h1:(y.desc.isAgg||Nat.beq y.size 1)=true) (hn:Nat.ble y.size c0.length=true) (hc:c0.take y.size=cs) (ok:cs.all jF=true)
  (hd:aGe ⟨dst,.load t x,ty,pos,aft,g⟩ nt=true) (hg:mJ ops s.env ⟨dst,.load t x,ty,pos,aft,g⟩=some true)
  (h:aGq W cs λxs=>AOps P ops nt rest (s.app dst ⟨zN y.desc.isAgg xs,[],[],[]⟩) (aCp ⟨zN y.desc.isAgg xs,[],[],[]⟩::tr) K):AOps P ops nt (⟨dst,.load t x,ty,pos,aft,g⟩::rest) s tr K:=by
 subst hc;obtain ⟨S',hr⟩:=r;obtain ⟨xs,hk,he⟩:=aFs (dst:=dst) (ty:=ty) (pos:=pos) (aft:=aft) (g:=g) hT (hp:=s.heap) hfx hr hx hy h1 (Nat.le_of_ble_eq_true hn) ok h;exact jW he hd hg rfl hk
end
end
noncomputable section
set_option maxRecDepth 10000
set_option maxHeartbeats 4000000
def vV (a0:Int) (v1:(Mt×(List Int))) (v4:Int) (x2:((List Int)×Int)):Option (((List Int)×Int) ⊕ (List Int)):=
 bif decide (x2.2<((v1.2.length:Nat):Int)) then
 ((cY v1.2 x2.2).bind λv7=>
 (eK v1.1 x2.2).bind λv8=>
 bif (decide (0≤v4)&&decide (v4<((((wr ((wr (x2.2+1))*v1.1.cols)).toNat - (wr (x2.2*v1.1.cols)).toNat):Nat):Int))) then
 ((v1.1.cells[((0+(wr (x2.2*v1.1.cols)).toNat)+v4.toNat)]?).bind λv9=>
 bif !decide (a0=0) then
 ((cY x2.1 v7).bind λv11=>
 some (.inl ((x2.1.set v7.toNat ((wr (a0 - v9)).tmod a0)),wr (x2.2+1))))
 else none
 )
 else none)
 else
 (some (.inr x2.1))
def vW (a0:Int) (a1:Mt) (v1:(Mt×(List Int))) (v2:(List Int)) (x1:((List (List Int))×Int)):Option (((List (List Int))×Int) ⊕ (List (List Int))):=
 bif decide (x1.2<((v2.length:Nat):Int)) then
 ((cY v2 x1.2).bind λv4=>
 bif (decide (0≤a1.cols)&&decide (a1.cols≤1048576)) then
 ((cY (List.replicate a1.cols.toNat (0:Int)) v4).bind λv5=>
 (Lp (vV a0 v1 v4) (((List.replicate a1.cols.toNat (0:Int)).set v4.toNat 1),0)).bind λy13=>
 bif decide (x1.1.length+1≤4294967296) then
 (some (.inl ((x1.1++[y13]),wr (x1.2+1))))
 else none)
 else none)
 else
 (some (.inr x1.1))
def xD (a0:Int) (a1:Mt):Option (List (List Int)):=
 (wX a0 a1).bind λv1=>
 (rJ a1.cols v1.2).bind λv2=>
 (Lp (vW a0 a1 v1 v2) ([],0)).bind λy16=>
 some (y16)
theorem aFt (a0:Int) (a1:Mt) (r:(List (List Int))) (h:xD a0 a1=some r):HasC Tryz.prog 190 [.int a0,.agg (eM a1)] (.list 1 (r.map (dQ 1 eI))):=by
 refine hM [.tmp 4] Tryz.func190 Tryz.ntmps190 k<|sR<|ae (wb k) k<|aT k2<|sR<|am k k<|lp k8<|oB h λv1 hv1 h=>ae (AEff.conv (jE (x:= .tuple [.agg [.int v1.1.rows,.int v1.1.cols,.own 1 0 (v1.1.cells.map eI).length],.own 2 0 (v1.2.map eI).length]) (nb:=[(1,⟨1,cF (v1.1.cells.map eI)⟩),(2,⟨1,cF (v1.2.map eI)⟩)]) (aFm a0 a1 v1 hv1) k (by rfl) k k (dE (bU aQ (bU aQ (bU (cA.good _) tC))) (dE (cA.good _) qD)) (cJ k (aL (eV k) aO))) (v':= .tuple [.agg [.int v1.1.rows,.int v1.1.cols,.own 1 0 v1.1.cells.length],.own 2 0 v1.2.length]) (ed':=[(1,some ⟨1,v1.1.cells.map (ow eI)⟩),(2,some ⟨1,v1.2.map (ow eI)⟩)]) (by simp only [aH]) (pE (nb':=[(1,⟨1,v1.1.cells.map (ow eI)⟩),(2,⟨1,v1.2.map (ow eI)⟩)]) (by simp only [dX]))) k<|am k k<|ae (bA k k (by intro _ h;cases h)) k<|ae (bA k k (by intro _ h;cases h)) k<|ae (bX aJ k k) k<|ae (ws k) k<|aT k2<|sR<|aT k2<|sQ<|sR<|fp k8<|lp k8 ?_;refine am k k<|oB h λv2 hv2 h=>ae (cL cA (aGH a1.cols v1.2 v2 hv2) k3 (cJ k (vcT k k aO))) k<|ae (dR aJ k k k k) k<|am k k<|an<|tn<|aD<|oB h λy16 hy16 h=>cC (body:=(vW a0 a1 v1 v2)) hy16 (λ(x1:((List (List Int))×Int))=>mN [(0,.int a0),(3,.ptr 0 0 0),(5,.ptr 1 0 0),(6,.own 3 0 v1.2.length),(7,.own 4 0 x1.1.length),(22,.own 5 0 v2.length),(23,.int ((v2.length:Nat):Int)),(24,.int x1.2)] [(0,⟨3,[eM a1]⟩),(1,⟨3,[oMt v1.1 2]⟩),(2,⟨1,v1.1.cells.map (ow eI)⟩),(3,⟨1,v1.2.map (ow eI)⟩),(4,⟨1,x1.1.map (ow (dQ 1 eI))⟩),(5,⟨1,v2.map (ow eI)⟩)] 6) (λr e t=>e= .exit 0∧Ent t (mN [(7,.own 0 0 r.length)] [(0,⟨1,r.map (ow (dQ 1 eI))⟩)] 1)) (eY (σ:=sg [(0,0),(1,3),(2,1),(3,2),(5,4)]) (kT 4 k2 (gH ⟨_,k,⟨k,k,k,k⟩⟩ (bG k2))) (bO k<|eJ k<|bN k<|bN k<|hX k k<|bN k<|aQ) k) ?_ ?_
 ·intro x1 o h;refine sR<|cm k4<|an<|tn<|sQ<|cN k h (λ_ h=>?_) λ_ h=>aY<|aB<|aB<|sp h ⟨_,k,k,(gT [4] (bG k2) (bW (cB.plainO _) k<|aQ) k4)⟩;refine aG<|tn<|sQ<|aD<|sR<|oB h λv4 hv4 h=>ae (xo hv4 k) k<|ae (wp hv4 k) k<|aT k2<|sR<|fp k8<|lp k8<|cG h λq15 h=>ae (aCD aJ q15 k k k k k k k k) k<|aT k2<|aI (t:=mN [(0,.int a0),(3,.ptr 0 0 0),(5,.ptr 1 0 0),(6,.own 3 0 v1.2.length),(7,.own 4 0 x1.1.length),(9,.int v4),(10,.own 6 0 ((List.replicate a1.cols.toNat (0:Int)).length)),(22,.own 5 0 v2.length),(23,.int ((v2.length:Nat):Int)),(24,.int x1.2)] [(0,⟨3,[eM a1]⟩),(1,⟨3,[oMt v1.1 2]⟩),(2,⟨1,v1.1.cells.map (ow eI)⟩),(3,⟨1,v1.2.map (ow eI)⟩),(4,⟨1,x1.1.map (ow (dQ 1 eI))⟩),(5,⟨1,v2.map (ow eI)⟩),(6,⟨1,List.map (ow eI) (List.replicate a1.cols.toNat (0:Int))⟩)] 7) (bP (kT 6 k2 (gH ⟨_,k,⟨k,k,(by simp only [aH,lA,lT,lR,lC,lN]),k⟩⟩ (bG k2))) (bO k<|eJ k<|bN k<|bN k<|bW (cB.plainO _) k<|bN k<|hX ⟨_,k,k,.inl ⟨aCt (e:=eI) (z:=0) _,cA.plainO _⟩⟩ k<|aQ) k4)<|sR<|am k k<|am k k<|oB h λv5 hv5 h=>ae (xo hv5 k) k<|ae (gL aJ kH (u:=1) (dF hv5) k k k k k k) k<|an<|tn<|sQ ?_;refine sR<|am k k<|ae (dR aJ k k k k) k<|am k k<|an<|tn<|aD<|oB h λy13 hy13 h=>cC (body:=(vV a0 v1 v4)) hy13 (λ(x2:((List Int)×Int))=>mN [(0,.int a0),(3,.ptr 0 0 0),(5,.ptr 1 0 0),(6,.own 3 0 v1.2.length),(7,.own 4 0 x1.1.length),(9,.int v4),(10,.own 5 0 x2.1.length),(22,.own 6 0 v2.length),(23,.int ((v2.length:Nat):Int)),(24,.int x1.2),(34,.own 3 0 v1.2.length),(35,.int ((v1.2.length:Nat):Int)),(36,.int x2.2)] [(0,⟨3,[eM a1]⟩),(1,⟨3,[oMt v1.1 2]⟩),(2,⟨1,v1.1.cells.map (ow eI)⟩),(3,⟨1,v1.2.map (ow eI)⟩),(4,⟨1,x1.1.map (ow (dQ 1 eI))⟩),(5,⟨1,x2.1.map (ow eI)⟩),(6,⟨1,v2.map (ow eI)⟩)] 7) (λr e t=>e= .exit 2∧Ent t (mN [(0,.int a0),(3,.ptr 0 0 0),(5,.ptr 1 0 0),(6,.own 3 0 v1.2.length),(7,.own 4 0 x1.1.length),(10,.own 5 0 r.length),(22,.own 6 0 v2.length),(23,.int ((v2.length:Nat):Int)),(24,.int x1.2)] [(0,⟨3,[eM a1]⟩),(1,⟨3,[oMt v1.1 2]⟩),(2,⟨1,v1.1.cells.map (ow eI)⟩),(3,⟨1,v1.2.map (ow eI)⟩),(4,⟨1,x1.1.map (ow (dQ 1 eI))⟩),(5,⟨1,r.map (ow eI)⟩),(6,⟨1,v2.map (ow eI)⟩)] 7)) (gT [0,1,2,3,4,6,5] (kT 6 k2 (gH ⟨_,k,⟨k,k,(by simp only [aH,lA,lT,lR,lC,lN]),k⟩⟩ (bG k2))) (bO k<|eJ k<|bN k<|bN k<|bW (cB.plainO _) k<|bN k<|bN k<|aQ) k4) ?_ ?_
  ·intro x2 o h;refine sR<|cm k4<|an<|tn<|sQ<|cN k h (λ_ h=>?_) λ_ h=>aY<|aB<|aB<|sp h ⟨_,k,k,(bP (bG k2) (bO k<|eJ k<|bN k<|bN k<|bW (cB.plainO _) k<|bN k<|bN k<|aQ) k4)⟩;refine aG<|tn<|sQ<|aD<|sR<|am k k<|oB h λv7 hv7 h=>ae (xo hv7 k) k<|ae (wp hv7 k) k<|aa k k<|aT k2<|rg<|am k k<|am k k<|am k k<|lp k8<|am k k<|oB h λv8 hv8 h=>ae (AEff.pureE (gP (σ:=sg [(0,2)]) (σ':=sg [(2,0)]) (touch:=[2]) (news:=[]) (hl2:=[(2,⟨1,v1.1.cells.map (ow eI)⟩)]) (n':=7) (r2:= .own 2 (0+(wr (x2.2*v1.1.cols)).toNat) ((wr ((wr (x2.2+1))*v1.1.cols)).toNat - (wr (x2.2*v1.1.cols)).toNat)) (gE v1.1 x2.2 v8 hv8) k k ⟨_,_,k,⟨_,_,k,k,⟨_,_,k,k,⟨_,_,k,⟨k,k,k,k⟩,k⟩⟩⟩,⟨_,_,k,k,k⟩⟩ ⟨⟨_,k,k,.inl ⟨k,cA.plainO _⟩⟩,k,aQ⟩ k k k ⟨⟨_,k,k,.inl ⟨k,cA.plainO _⟩⟩,k,aQ⟩ k ⟨k,k,(by simp only [aH,lA,lT,lR,lC,lN]),k⟩ k ⟨k,cA.tame _ _,aQ⟩ k k) ⟨k,k,aQ⟩) k<|am k k<|cG h λq10 h=>oB h λv9 hv9 h=>ae (jH aJ q10 k k k k k k k) k<|ae (dK aJ k k k k (aAa (hv9)) k k) k<|ae (wS k k) k<|am k k<|cG h λq12 h=>ae (aFh k k q12) k<|oB h λv11 hv11 h=>ae (xo hv11 k) k<|ae (gL aJ kH (u:=(wr (a0 - v9)).tmod a0) (dF hv11) k k k k k k) k<|an ?_;exact bB<|tn<|rg<|ae (bF k k) k<|am k k<|an<|tn<|sp h ⟨_,k,(bP (kT 6 k2 (gH ⟨_,k,⟨k,k,(by simp only [aH,lA,lT,lR,lC,lN]),k⟩⟩ (bG k2))) (bO k<|eJ k<|bN k<|bN k<|bW (cB.plainO _) k<|bN k<|bN k<|aQ) k4)⟩
  ·rintro e t ⟨rfl,hent⟩;exact aN<|tn<|aI hent<|rg<|am k k<|am k k<|ae (wl k) k<|cG h λq14 h=>ae (fN aJ (l:=x1.1) (c:=[.own 5 0 y13.length]) q14 k k k k k k k k k k k k k k) k<|aa k k<|an<|bB<|tn<|aI (t:=mN [(0,.int a0),(3,.ptr 0 0 0),(5,.ptr 1 0 0),(6,.own 3 0 v1.2.length),(7,.own 8 0 ((x1.1++[y13]).length)),(22,.own 6 0 v2.length),(23,.int ((v2.length:Nat):Int)),(24,.int x1.2)] [(0,⟨3,[eM a1]⟩),(1,⟨3,[oMt v1.1 2]⟩),(2,⟨1,v1.1.cells.map (ow eI)⟩),(3,⟨1,v1.2.map (ow eI)⟩),(6,⟨1,v2.map (ow eI)⟩),(8,⟨1,List.map (ow (dQ 1 eI)) (x1.1++[y13])⟩)] 9) (Ent.trans (dJ (b:=8) (b':=5) (j:=0) (es':=y13.map eI) k k k k (aH _ _) (cA.frzs _)) (bP (kT 4 k2 (gH ⟨_,k,⟨k,k,(by simp only [aH,lA,lT,lR,lC,lN]),k⟩⟩ (bG k2))) (bO k<|eJ k<|bN k<|bN k<|bN k<|hX ⟨_,k,k,.inl ⟨fV y13 k,cB.plainO _⟩⟩ k<|aQ) k4))<|rg<|ae (bF k k) k<|am k k<|an<|tn<|sp h ⟨_,k,(gT [0,1,2,3,8,6] (bG k2) (bO k<|eJ k<|bN k<|bN k<|bW (cB.plainO _) k<|bN k<|aQ) k4)⟩
 ·rintro e t ⟨rfl,hent⟩;exact aN<|tn<|aI hent<|sR<|am k k<|aT k2<|aE<|sp h (bD k k k (fH (cW cB k k)))
def mF (a0:Rp) (a1:Rp) (v2:(List (List Int))) (x1:((List (List Mt))×Int)):Option (((List (List Mt))×Int) ⊕ (List (List Mt))):=
 bif decide (x1.2<((v2.length:Nat):Int)) then
 ((cY v2 x1.2).bind λv4=>
 (vL a0 a1).bind λv5=>
 (sU v5 v4).bind λv6=>
 bif decide (x1.1.length+1≤4294967296) then
 (some (.inl ((x1.1++[v6]),wr (x1.2+1))))
 else none)
 else
 (some (.inr x1.1))
def yK (a0:Rp) (a1:Rp):Option (List (List Mt)):=
 (tK a0 a1).bind λv1=>
 (xD a0.p v1).bind λv2=>
 (Lp (mF a0 a1 v2) ([],0)).bind λy8=>
 some (y8)
theorem aJO (a0:Rp) (a1:Rp) (r:(List (List Mt))) (h:yK a0 a1=some r):HasC Tryz.prog 159 [.agg (eR a0),.agg (eR a1)] (.list 1 (r.map (dQ 3 eM))):=by
 refine hM [.tmp 4] Tryz.func159 Tryz.ntmps159 k<|sR<|ae (wb k) k<|ae (wb k) k<|aT k2<|sR<|aT k2<|sQ<|sQ<|aP fB<|fp k8<|lp k8<|lp k8<|lp k8<|oB h λv1 hv1 h=>ae (cM (aHA a0 a1 v1 hv1) k3 (aL (eV k) (aL (eV k) aO))) k<|oB h λv2 hv2 h=>ae (cL cB (aFt a0.p v1 v2 hv2) k3 (cJ k (aL (vaM k2) aO))) k<|ae (dR aJ k k k k) k<|am k k<|an<|lL (by kernel_rfl)<|tn<|aD<|oB h λy8 hy8 h=>cC (body:=(mF a0 a1 v2)) hy8 (λ(x1:((List (List Mt))×Int))=>mN [(2,.ptr 0 0 0),(3,.ptr 1 0 0),(5,.own 2 0 x1.1.length),(13,.own 3 0 v2.length),(14,.int ((v2.length:Nat):Int)),(15,.int x1.2)] [(0,⟨6,[eR a0]⟩),(1,⟨6,[eR a1]⟩),(2,⟨1,x1.1.map (ow (dQ 3 eM))⟩),(3,⟨1,v2.map (ow (dQ 1 eI))⟩)] 4) (λr e t=>e= .exit 0∧Ent t (mN [(5,.own 0 0 r.length)] [(0,⟨1,r.map (ow (dQ 3 eM))⟩)] 1)) (eY (σ:=sg [(0,0),(1,1),(3,3)]) (kT 2 k2 (gH ⟨_,k,⟨k,k,k,k⟩⟩ (bG k2))) (bO k<|bO k<|hX k k<|bW (cB.plainO _) k<|aQ) k) ?_ ?_
 ·intro x1 o h;refine sR<|cm k4<|an<|tn<|sQ<|cN k h (λ_ h=>?_) λ_ h=>aY<|aB<|aB<|sp h ⟨_,k,k,(gT [2] (bG k2) (bW (cB.plainO _) k<|aQ) k4)⟩;refine aG<|tn<|sQ<|aD<|sR<|oB h λv4 hv4 h=>ae (xo hv4 k) k<|ae (wp hv4 k) k<|aT k2<|rg<|am k k<|lp k8<|lp k8<|oB h λv5 hv5 h=>ae (cL aX (aEA a0 a1 v5 hv5) k3 (aL (eV k) (aL (eV k) aO))) k<|am k k<|oB h λv6 hv6 h=>ae (cL aX (aFo v5 v4 v6 hv6) k3 (aL (tA aX k k) (cJ k aO))) k<|ae (wl k) k<|cG h λq7 h=>ae (fN aJ (l:=x1.1) (c:=[.own 5 0 v6.length]) q7 k k k k k k k k k k k k k k) k<|aa k k<|an<|bB<|tn<|aI (t:=mN [(2,.ptr 0 0 0),(3,.ptr 1 0 0),(5,.own 7 0 ((x1.1++[v6]).length)),(13,.own 3 0 v2.length),(14,.int ((v2.length:Nat):Int)),(15,.int x1.2)] [(0,⟨6,[eR a0]⟩),(1,⟨6,[eR a1]⟩),(3,⟨1,v2.map (ow (dQ 1 eI))⟩),(7,⟨1,List.map (ow (dQ 3 eM)) (x1.1++[v6])⟩)] 8) (Ent.trans (dJ (b:=7) (b':=5) (j:=0) (es':=v6.map eM) k k k k (aH _ _) (aX.frzs _)) (bP (kT 2 k2 (gH ⟨_,k,⟨k,k,(by simp only [aH,lA,lT,lR,lC,lN]),k⟩⟩ (bG k2))) (bO k<|bO k<|bW (cB.plainO _) k<|hX ⟨_,k,k,.inl ⟨fV v6 k,cB.plainO _⟩⟩ k<|aQ) k4))<|rg<|ae (bF k k) k<|am k k<|an ?_;exact tn<|sp h ⟨_,k,(gT [0,1,7,3] (bG k2) (bO k<|bO k<|bW (cB.plainO _) k<|bW (cB.plainO _) k<|aQ) k4)⟩
 ·rintro e t ⟨rfl,hent⟩;exact aN<|tn<|aI hent<|sR<|am k k<|aT k2<|aE<|sp h (bD k k k (fH (cW cB k k)))
def rY (a0:Int) (x1:(Int×(List Int)×Int)):Option ((Int×(List Int)×Int) ⊕ (List Int)):=
 bif decide (0≤x1.2.2) then
 (bif !decide (a0=0) then
 ((cY x1.2.1 x1.2.2).bind λv2=>
 bif !decide (a0=0) then
 (some (.inl (wr (x1.1.tdiv a0),(x1.2.1.set x1.2.2.toNat (x1.1.tmod a0)),wr (x1.2.2 - 1))))
 else none)
 else none)
 else
 (some (.inr x1.2.1))
def yL (a0:Int) (a1:Int) (a2:Int):Option (List Int):=
 bif (decide (0≤a1)&&decide (a1≤1048576)) then
 ((Lp (rY a0) (a2,(List.replicate a1.toNat (0:Int)),wr (a1 - 1))).bind λy5=>
 some (y5))
 else none
theorem aJP (a0:Int) (a1:Int) (a2:Int) (r:(List Int)) (h:yL a0 a1 a2=some r):HasC Tryz.prog 230 [.int a0,.int a1,.int a2] (.list 1 (r.map eI)):=by
 refine hM [.tmp 6] Tryz.func230 Tryz.ntmps230 k<|sR<|aT k2<|sR<|am k k<|cG h λq6 h=>ae (aCD aJ q6 k k k k k k k k) k<|aT k2<|aI (t:=mN [(0,.int a0),(1,.int a1),(2,.int a2),(7,.own 0 0 ((List.replicate a1.toNat (0:Int)).length))] [(0,⟨1,List.map (ow eI) (List.replicate a1.toNat (0:Int))⟩)] 1) (bP (kT 3 k2 (gH ⟨_,k,⟨k,k,(by simp only [aH,lA,lT,lR,lC,lN]),k⟩⟩ aQ)) (hX ⟨_,k,k,.inl ⟨aCt (e:=eI) (z:=0) _,cA.plainO _⟩⟩ k<|aQ) k4)<|sQ<|sR<|am k k<|ae (wS k k) k<|aT k2<|aD<|oB h λy5 hy5 h=>cC (body:=(rY a0)) hy5 (λ(x1:(Int×(List Int)×Int))=>mN [(0,.int a0),(2,.int x1.1),(7,.own 0 0 x1.2.1.length),(8,.int x1.2.2)] [(0,⟨1,x1.2.1.map (ow eI)⟩)] 1) (λr e t=>e= .exit 0∧Ent t (mN [(7,.own 0 0 r.length)] [(0,⟨1,r.map (ow eI)⟩)] 1)) (bP (bG k2) (bN k<|aQ) k4) ?_ ?_
 ·intro x1 o h;exact sQ<|sR<|am k k<|cm k4<|an<|tn<|cN k h (λ_ h=>aG<|tn<|sQ<|aD<|sR<|am k k<|am k k<|am k k<|am k k<|cG h λq4 h=>ae (aFh k k q4) k<|oB h λv2 hv2 h=>ae (xo hv2 k) k<|ae (gL aJ kH (u:=x1.1.tmod a0) (dF hv2) k k k k k k) k<|an<|tn<|rg<|am k k<|am k k<|cG h λq3 h=>ae (aWZ k k q3) k<|aa k k<|an<|bB<|tn<|rg<|am k k<|ae (wS k k) k<|aT k2<|sp h ⟨_,k,(bP (kT 2 k2 (gH ⟨_,k,⟨k,k,(by simp only [aH,lA,lT,lR,lC,lN]),k⟩⟩ (bG k2))) (bN k<|aQ) k4)⟩) λ_ h=>aY<|aB<|aB<|sp h ⟨_,k,k,(bP (bG k2) (bN k<|aQ) k4)⟩
 ·rintro e t ⟨rfl,hent⟩;exact aN<|tn<|aI hent<|sR<|am k k<|aT k2<|aE<|sp h (bD k k k (fH (cW cA k k)))
def rZ (a0:Rp) (a3:(List Int)) (v3:(List Mt)) (x1:((List Mt)×Int)) (x2:((List Mt)×Int)):Option (((List Mt)×Int) ⊕ (List Mt)):=
 bif decide (x2.2<(v3.length:Int)) then
 ((cY v3 x2.2).bind λv5=>
 (cY x2.1 x2.2).bind λv6=>
 (cY a3 x1.2).bind λv7=>
 (hU a0.p v6.cells 0 v6.cells.length v7 v5.cells).bind λv8=>
 bif decide (v8.length=v6.cells.length) then
 (some (.inl ((x2.1.set x2.2.toNat (⟨v6.rows,v6.cols,v8⟩:Mt)),wr (x2.2+1))))
 else none)
 else
 (some (.inr x2.1))
def sA (a0:Rp) (a2:(List (List Mt))) (a3:(List Int)) (x1:((List Mt)×Int)):Option (((List Mt)×Int) ⊕ (List Mt)):=
 bif decide (x1.2<(a2.length:Int)) then
 ((cY a2 x1.2).bind λv3=>
 (Lp (rZ a0 a3 v3 x1) (x1.1,0)).bind λy10=>
 some (.inl (y10,wr (x1.2+1))))
 else
 (some (.inr x1.1))
def aBY (a0:Rp) (a1:Rp) (a2:(List (List Mt))) (a3:(List Int)):Option (List Mt):=
 (vL a0 a1).bind λv1=>
 (Lp (sA a0 a2 a3) (v1,0)).bind λy11=>
 some (y11)
theorem aJQ (a0:Rp) (a1:Rp) (a2:(List (List Mt))) (a3:(List Int)) (r:(List Mt)) (h:aBY a0 a1 a2 a3=some r):HasC Tryz.prog 229 [.agg (eR a0),.agg (eR a1),.list 1 (a2.map (dQ 3 eM)),.list 1 (a3.map eI)] (.list 3 (r.map eM)):=by
 refine aKT aJ (rvs:=[.tmp 8]) (ns:=nmA) Tryz.func229 k k Tryz.ntmps229 k k k (λW=>?_);refine aEh<|rB<|rB<|jX (λw0_2 S0_2 r0_2=>?_);refine jX (λw0_3 S0_3 r0_3=>?_);refine jX (λw0_4 S0_4 r0_4=>?_);refine jX (λw0_5 S0_5 r0_5=>?_);refine uO<|aEh<|rB<|rB<|jX (λw1_2 S1_2 r1_2=>?_);refine jX (λw1_3 S1_3 r1_3=>?_);refine jX (λw1_4 S1_4 r1_4=>?_);refine jX (λw1_5 S1_5 r1_5=>?_);refine uO<|aQZ (λw2_0 S2_0 r2_0=>?_);refine aQZ (λw3_0 S3_0 r3_0=>?_);refine aEg<|sS<|se (wb k) k<|se (wb k) k<|jY k2<|sn<|tn<|sS<|lpS k8<|lpS k8<|oB h λv1 hv1 h=>se (cLK aX (aEA a0 a1 v1 hv1) k3 (fX (vrR k r0_2 r0_3 r0_4 r0_5) (fX (vrR k r1_2 r1_3 r1_4 r1_5) nA))) k<|jY k2<|sn<|tn<|sQ<|sS<|gJ k2<|se (aDW aJ r2_0 k k k) k<|gJ k2<|sn<|tn<|aD<|oB h λy11 hy11 h=>cC (body:=(sA a0 a2 a3)) hy11 (λ(x1:((List Mt)×Int))=>mN [(3,.sc w3_0),(4,.ptr 0 0 0),(9,.own 1 0 x1.1.length),(17,.sc w2_0),(18,.int (a2.length:Int)),(19,.int x1.2)] [(0,⟨6,[[.int a0.p,.int a0.q.n,.sc w0_2,.sc w0_3,.sc w0_4,.sc w0_5]]⟩),(1,⟨3,x1.1.map (ow eM)⟩)] 2 ⟨0,true,zU W,true⟩) (λr e t=>e= .exit 0∧Ent t (mN [(9,.own 0 0 r.length)] [(0,⟨3,r.map (ow eM)⟩)] 1 ⟨0,true,zU W,true⟩)) (gT [0,2] (bG k2) (bO k<|bW (aX.plainO _) k<|aQ) k4) ?_ ?_
 ·intro x1 o h;refine sS<|cmS k4<|sn<|tn<|sQ<|cN k h (λ_ h=>?_) λ_ h=>aY<|aB<|aB<|sp h ⟨_,k,k,(gT [1] (bG k2) (bW (aX.plainO _) k<|aQ) k4)⟩;refine aG<|tn<|sQ<|aD<|sS<|gJ k2<|oB h λv3 hv3 h=>se (xB aJ r2_0 hv3 k k k k k k) k<|aFM aJ [.list 3 (v3.map eM)] (sX r2_0 (dF hv3)) k k k k k k k k k<|jX (λwn9 Sn9 rn9=>?_);refine uO<|jY k2<|jY k2<|sn<|tn<|sS<|gJ k2<|se (aDW aJ rn9 k k k) k<|gJ k2<|sn<|tn<|aD<|oB h λy10 hy10 h=>cC (body:=(rZ a0 a3 v3 x1)) hy10 (λ(x2:((List Mt)×Int))=>mN [(3,.sc w3_0),(4,.ptr 0 0 0),(9,.own 1 0 x2.1.length),(10,.int x1.2),(17,.sc w2_0),(18,.int (a2.length:Int)),(19,.int x1.2),(24,.sc wn9),(25,.int (v3.length:Int)),(26,.int x2.2)] [(0,⟨6,[[.int a0.p,.int a0.q.n,.sc w0_2,.sc w0_3,.sc w0_4,.sc w0_5]]⟩),(1,⟨3,x2.1.map (ow eM)⟩)] 2 ⟨0,true,zU W,true⟩) (λr e t=>e= .exit 2∧Ent t (mN [(3,.sc w3_0),(4,.ptr 0 0 0),(9,.own 1 0 r.length),(17,.sc w2_0),(18,.int (a2.length:Int)),(19,.int x1.2)] [(0,⟨6,[[.int a0.p,.int a0.q.n,.sc w0_2,.sc w0_3,.sc w0_4,.sc w0_5]]⟩),(1,⟨3,r.map (ow eM)⟩)] 2 ⟨0,true,zU W,true⟩)) (bP (bG k2) (bO k<|bW (aX.plainO _) k<|aQ) k4) ?_ ?_
  ·intro x2 o h;refine sS<|cmS k4<|sn<|tn<|sQ<|cN k h (λ_ h=>?_) λ_ h=>aY<|aB<|aB<|sp h ⟨_,k,k,(bP (bG k2) (bO k<|bW (aX.plainO _) k<|aQ) k4)⟩;refine aG<|tn<|sQ<|aD<|sS<|gJ k2<|oB h λv5 hv5 h=>se (xB aJ rn9 hv5 k k k k k k) k<|aFM aJ [.int v5.rows,.int v5.cols,.list 1 (v5.cells.map eI)] (sX rn9 (dF hv5)) k k k k k k k k k<|rB<|rB<|jX (λwn12 Sn12 rn12=>?_);refine uO<|se (bX aJ k k) k<|jY k2<|se (ws k) k<|sn<|tn<|oB h λv6 hv6 h=>aI (t:=mN [(3,.sc w3_0),(4,.ptr 0 0 0),(9,.own 1 0 x2.1.length),(10,.int x1.2),(12,.int x2.2),(13,.ptr 2 0 0),(17,.sc w2_0),(18,.int (a2.length:Int)),(19,.int x1.2),(24,.sc wn9),(25,.int (v3.length:Int)),(26,.int x2.2),(27,.bl (decide (x2.2<(v3.length:Int)))),(28,.int x2.2),(29,.sc (aKs wn9 3 x2.2.toNat)),(30,.agg [.int v5.rows,.int v5.cols,.sc wn12])] [(0,⟨6,[[.int a0.p,.int a0.q.n,.sc w0_2,.sc w0_3,.sc w0_4,.sc w0_5]]⟩),(1,⟨3,(x2.1.map (ow eM)).set x2.2.toNat [.int v6.rows,.int v6.cols,.abs 1 (v6.cells.map eI)]⟩),(2,⟨3,[[.int v5.rows,.int v5.cols,.sc wn12]]⟩)] 3 ⟨0,true,zU W,true⟩) (bP (bG k2) (bO k<|hX ⟨_,k,k,.inl ⟨zW (dF hv6),vB aX k⟩⟩ k<|bO k<|aQ) k4)<|aI (qE (b:=1) (c:=3) (i:=x2.2.toNat) (j:=2) (n:=v6.cells.length) (A:=x2.1.map (ow eM)) (fs:=v6.cells.map (ow eI)) (by rw [dC];exact eX hv6) k k k k (aH _ _) (dX _ _) (lU ⟨k,k,k,k,k,k,k,k,k,k,k,k,k,k,k,k,aQ⟩) (lW (skip:=[]) ⟨.inr (kR k),.inr (aX.dfS _ _ _ k),.inr (kR k),aQ⟩))<|aI (t:=mN [(3,.sc w3_0),(4,.ptr 0 0 0),(9,.own 1 0 x2.1.length),(10,.int x1.2),(12,.int x2.2),(13,.ptr 2 0 0),(17,.sc w2_0),(18,.int (a2.length:Int)),(19,.int x1.2),(24,.sc wn9),(25,.int (v3.length:Int)),(26,.int x2.2),(27,.bl (decide (x2.2<(v3.length:Int)))),(28,.int x2.2),(29,.sc (aKs wn9 3 x2.2.toNat)),(30,.agg [.int v5.rows,.int v5.cols,.sc wn12])] [(0,⟨6,[[.int a0.p,.int a0.q.n,.sc w0_2,.sc w0_3,.sc w0_4,.sc w0_5]]⟩),(1,⟨3,(x2.1.map (ow eM)).set x2.2.toNat [.int v6.rows,.int v6.cols,.own 3 0 v6.cells.length]⟩),(2,⟨3,[[.int v5.rows,.int v5.cols,.sc wn12]]⟩),(3,⟨1,v6.cells.map (ow eI)⟩)] 4 ⟨0,true,zU W,true⟩) (eY (σ:=sg [(0,0),(1,1),(2,2),(3,3)]) (bG k2) (bO k<|hX ⟨_,k,k,.inr (tF (σ:=sg [(0,0),(1,1),(2,2),(3,3)]) (m:=4) (e:=eM) (l:=x2.1) (i:=x2.2.toNat) (c:=[.int v6.rows,.int v6.cols,.own 3 0 v6.cells.length]) (d:=[.int v6.rows,.int v6.cols,.own 3 0 v6.cells.length]) aX ⟨_,_,k,k,⟨_,_,k,k,⟨_,_,k,⟨k,k,k,k⟩,k⟩⟩⟩)⟩ k<|bO k<|bN k<|aQ) k)<|aP fB<|fp k8<|lp k8<|am k k<|am k k<|ae (xo hv6 k) k<|fp k8<|ae (dK aJ k k k k (aBR (eX hv6)) k k) k<|am k k<|am k k<|oB h λv7 hv7 h=>ae (xB aJ r3_0 hv7 k k k k k k) k<|ae (aGN aJ r3_0 (dF hv7) k k k k k k k) k<|fp k8<|lp k8<|oB h λv8 hv8 h=>ae (aSa (σ:=sg [(0,3)]) (σ':=sg [(3,0)]) (touch:=[3]) (news:=[]) (hl2:=[(3,⟨1,v8.map (ow eI)⟩)]) (n':=4) (r2:= .own 3 0 v6.cells.length) (yV a0.p v6.cells 0 v6.cells.length v7 v5.cells v8 hv8) k k ⟨_,_,k,(.inl k),⟨_,_,k,(.inl ⟨k,k,k,k⟩),⟨_,_,k,(.inl k),⟨_,_,k,(.inr ⟨aWc k rn12,k,⟨k,k⟩⟩),k⟩⟩⟩⟩ ⟨⟨_,k,k,.inl ⟨k,cA.plainO _⟩⟩,k,aQ⟩ k k k ⟨⟨_,k,k,.inl ⟨k,cA.plainO _⟩⟩,k,aQ⟩ k ⟨k,k,(by simp only [aH,lA,lT,lR,lC,lN]),k⟩ k ⟨k,cA.tame _ _,aQ⟩ k k) k<|cG h λq9 h=>an<|lL (by kernel_rfl)<|bB<|tn<|aI (t:=mN [(3,.sc w3_0),(4,.ptr 0 0 0),(9,.own 1 0 ((x2.1.set x2.2.toNat (⟨v6.rows,v6.cols,v8⟩:Mt)).length)),(10,.int x1.2),(17,.sc w2_0),(18,.int (a2.length:Int)),(19,.int x1.2),(24,.sc wn9),(25,.int (v3.length:Int)),(26,.int x2.2)] [(0,⟨6,[[.int a0.p,.int a0.q.n,.sc w0_2,.sc w0_3,.sc w0_4,.sc w0_5]]⟩),(1,⟨3,List.map (ow eM) (x2.1.set x2.2.toNat (⟨v6.rows,v6.cols,v8⟩:Mt))⟩)] 4 ⟨0,true,zU W,true⟩) (Ent.trans (qC (b:=1) (b':=3) (j:=2) (es':=v8.map eI) (by rw [dC];exact eX hv6) k k k k (by simp only [aH,lA,lT,lR,lC,lN,of_decide_eq_true q9]) (cA.frzs _)) (bP (kT 2 k2 (gH ⟨_,k,⟨k,k,(by simp only [aH,lA,lT,lR,lC,lN,of_decide_eq_true q9]),k⟩⟩ (bG k2))) (bO k<|hX ⟨_,k,k,.inl ⟨aCF (⟨v6.rows,v6.cols,v8⟩:Mt) k,aX.plainO _⟩⟩ k<|aQ) k4))<|rgS ?_;exact se (bF k k) k<|gJ k2<|sn<|tn<|sp h ⟨_,k,(bP (bG k2) (bO k<|bW (aX.plainO _) k<|aQ) k4)⟩
  ·rintro e t ⟨rfl,hent⟩;exact aN<|bB<|tn<|aI hent<|rgS<|se (bF k k) k<|gJ k2<|sn<|tn<|sp h ⟨_,k,(bP (bG k2) (bO k<|bW (aX.plainO _) k<|aQ) k4)⟩
 ·rintro e t ⟨rfl,hent⟩;exact aN<|tn<|aI hent<|sS<|gJ k2<|jY k2<|sn<|tn<|aE<|sp h (bD k k k (fH (cW aX k k)))
def yN (a0:Rp) (a1:Rp) (a2:(List (List Mt))) (a3:Int):Option (List Mt):=
 (yL a0.p (a2.length:Int) a3).bind λv1=>
 (aBY a0 a1 a2 v1).bind λv2=>
 some (v2)
theorem aJR (a0:Rp) (a1:Rp) (a2:(List (List Mt))) (a3:Int) (r:(List Mt)) (h:yN a0 a1 a2 a3=some r):HasC Tryz.prog 193 [.agg (eR a0),.agg (eR a1),.list 1 (a2.map (dQ 3 eM)),.int a3] (.list 3 (r.map eM)):=by
 exact hM [.tmp 8] Tryz.func193 Tryz.ntmps193 k<|sR<|ae (wb k) k<|ae (wb k) k<|aT k2<|sQ<|aP fB<|lp k8<|lp k8<|am k k<|fp k8<|lp k8<|am k k<|ln k4<|am k k<|oB h λv1 hv1 h=>ae (cL cA (aJP a0.p (a2.length:Int) a3 v1 hv1) k3 (cJ k (cJ k (cJ k aO)))) k<|oB h λv2 hv2 h=>ae (cL aX (aJQ a0 a1 a2 v1 v2 hv2) k3 (aL (eV k) (aL (eV k) (cJ k (vcT k k aO))))) k<|aa k k<|an<|lL (by kernel_rfl)<|tn<|aE<|sp h (bD k k k (fH (cW aX k k)))
def jB (a0:Int) (a1:Int) (x1:(Int×Int)):Option ((Int×Int) ⊕ Int):=
 bif decide (x1.2<a1) then
 (bif decide (x1.1≤100000) then
 (some (.inl (wr (x1.1*a0),wr (x1.2+1))))
 else
 (some (.inr x1.1)))
 else
 (some (.inr x1.1))
def qR (a0:Int) (a1:Int):Option Int:=
 (Lp (jB a0 a1) (1,0)).bind λy3=>
 some (y3)
theorem aDZ (a0:Int) (a1:Int) (r:Int) (h:qR a0 a1=some r):HasC Tryz.prog 162 [.int a0,.int a1] (.int r):=by
 refine hM [.tmp 4] Tryz.func162 Tryz.ntmps162 k<|sR<|aT k2<|sR<|aT k2<|sQ<|sR<|aT k2<|aD<|oB h λy3 hy3 h=>cC (body:=(jB a0 a1)) hy3 (λ(x1:(Int×Int))=>mN [(0,.int a0),(1,.int a1),(5,.int x1.1),(6,.int x1.2)] [] 0) (λr e t=>e= .exit 0∧Ent t (mN [(5,.int r)] [] 0)) (bP (bG k2) aQ k4) ?_ ?_
 ·intro x1 o h;exact sQ<|sR<|am k k<|am k k<|cm k4<|am k k<|sP h (λq1 h=>aV 10 k q1<|am k k<|cm k4<|pk k3<|an<|tn<|cN k h (λ_ h=>aG<|tn<|sQ<|aD<|rg<|am k k<|am k k<|ae (fP k k) k<|aa k k<|an<|bB<|tn<|rg<|am k k<|ae (bF k k) k<|aT k2<|sp h ⟨_,k,(bP (bG k2) aQ k4)⟩) λ_ h=>aY<|aB<|aB<|sp h ⟨_,k,k,(bP (bG k2) aQ k4)⟩) λq1 h=>aV 10 k q1<|aK k4<|pk k3<|an<|tn<|aBG k k<|aY<|aB<|aB<|sp h ⟨_,k,k,(bP (bG k2) aQ k4)⟩
 ·rintro e t ⟨rfl,hent⟩;exact aN<|tn<|aI hent<|sR<|am k k<|aT k2<|aE<|rtI h k2
def vX (v11:(List Int)) (v12:(List Int)) (x3:((List Int)×Int)):Option (((List Int)×Int) ⊕ (List Int)):=
 bif decide (x3.2<((v12.length:Nat):Int)) then
 ((cY v12 x3.2).bind λv14=>
 (cY v11 v14).bind λv15=>
 bif decide (x3.1.length+[v15].length ≤4294967296) then
 (some (.inl ((x3.1++[v15]),wr (x3.2+1))))
 else none)
 else
 (some (.inr x3.1))
def vY (a0:Rp) (v4:Mt) (v6:Sc) (v8:Sc) (x2:((List (List Int))×Int)):Option (((List (List Int))×Int) ⊕ (List (List Int))):=
 bif decide (x2.2<(v8.basis.length:Int)) then
 ((cY v8.basis x2.2).bind λv10=>
 (aBq a0.p v4 v10).bind λv11=>
 (mU v6).bind λv12=>
 (Lp (vX v11 v12) ([],0)).bind λy17=>
 bif decide (x2.1.length+1≤4294967296) then
 (some (.inl ((x2.1++[y17]),wr (x2.2+1))))
 else none)
 else
 (some (.inr x2.1))
def vZ (a0:Rp) (a1:(List Sc)) (x1:((List Mt)×Int)):Option (((List Mt)×Int) ⊕ (List Mt)):=
 bif decide (x1.2<(a0.maps.length:Int)) then
 ((cY a0.maps x1.2).bind λv4=>
 (cY a0.q.tgt x1.2).bind λv5=>
 (cY a1 v5).bind λv6=>
 (cY a0.q.src x1.2).bind λv7=>
 (cY a1 v7).bind λv8=>
 (Lp (vY a0 v4 v6 v8) ([],0)).bind λy19=>
 (fT (v6.basis.length:Int) y19).bind λv20=>
 (cY x1.1 x1.2).bind λv21=>
 some (.inl ((x1.1.set x1.2.toNat v20),wr (x1.2+1))))
 else
 (some (.inr x1.1))
def wA (a1:(List Sc)) (x4:((List Mt)×Int)):Option (((List Mt)×Int) ⊕ (List Mt)):=
 bif decide (x4.2<(a1.length:Int)) then
 ((cY a1 x4.2).bind λv24=>
 (fT v24.size v24.basis).bind λv25=>
 bif decide (x4.1.length+1≤4294967296) then
 (some (.inl ((x4.1++[v25]),wr (x4.2+1))))
 else none)
 else
 (some (.inr x4.1))
def aAy (a0:Rp) (a1:(List Sc)):Option (Rp×(List Mt)):=
 (qM a1).bind λv1=>
 (aAL a0.p a0.q v1).bind λv2=>
 (Lp (vZ a0 a1) (v2.maps,0)).bind λy22=>
 (Lp (wA a1) ([],0)).bind λy27=>
 some (((⟨v2.p,v2.q,v2.dims,y22⟩:Rp),y27))
theorem aLf (a0:Rp) (a1:(List Sc)) (r:(Rp×(List Mt))) (h:aAy a0 a1=some r):HasC Tryz.prog 163 [.agg (eR a0),.list 2 (a1.map eS)] (.tuple [.agg (eR r.1),.list 3 (r.2.map eM)]):=by
 refine hM [.cell 4 29,.tmp 5] Tryz.func163 Tryz.ntmps163 k<|sR<|ae (wb k) k<|ae (bX aJ k k) k<|aT k2<|sQ<|aP fB<|fp k8<|lp k8<|fp k8<|lp k8<|am k k<|oB h λv1 hv1 h=>ae (cL cA (aCO a1 v1 hv1) k3 (cJ k aO)) k<|oB h λv2 hv2 h=>ae (cR (aKx a0.p a0.q v1 v2 hv2) k3 (cJ k (aL (eV k) (vcT k k aO)))) k<|ae (bX aJ k k) k<|ae (ws k) k<|an<|lL (by kernel_rfl)<|tn<|sQ<|sR<|fp k8<|lp k8<|ln k4<|am k k<|an ?_;refine tn<|aD<|oB h λy22 hy22 h=>cC (body:=(vZ a0 a1)) hy22 (λ(x1:((List Mt)×Int))=>mN [(1,.list 2 (a1.map eS)),(2,.ptr 0 0 0),(4,.ptr 1 0 0),(6,.ptr 2 0 0),(28,.list 3 (a0.maps.map eM)),(29,.int (a0.maps.length:Int)),(30,.int x1.2)] [(0,⟨6,[eR a0]⟩),(1,⟨6,[nB]⟩),(2,⟨6,[[.int v2.p,.int v2.q.n,.own 3 0 v2.q.src.length,.own 4 0 v2.q.tgt.length,.own 5 0 v2.dims.length,.own 6 0 x1.1.length]]⟩),(3,⟨1,v2.q.src.map (ow eI)⟩),(4,⟨1,v2.q.tgt.map (ow eI)⟩),(5,⟨1,v2.dims.map (ow eI)⟩),(6,⟨3,x1.1.map (ow eM)⟩)] 7) (λr e t=>e= .exit 0∧Ent t (mN [(1,.list 2 (a1.map eS)),(4,.ptr 0 0 0),(6,.ptr 1 0 0)] [(0,⟨6,[nB]⟩),(1,⟨6,[[.int v2.p,.int v2.q.n,.own 2 0 v2.q.src.length,.own 3 0 v2.q.tgt.length,.own 4 0 v2.dims.length,.own 5 0 r.length]]⟩),(2,⟨1,v2.q.src.map (ow eI)⟩),(3,⟨1,v2.q.tgt.map (ow eI)⟩),(4,⟨1,v2.dims.map (ow eI)⟩),(5,⟨3,r.map (ow eM)⟩)] 6)) (gT [0,1,7,3,4,5,6] (bG k2) (bO k<|bO k<|eJ k<|bN k<|bN k<|bN k<|bW (aX.plainO _) k<|aQ) k4) ?_ ?_
 ·intro x1 o h;refine sR<|cm k4<|an<|tn<|sQ<|cN k h (λ_ h=>?_) λ_ h=>aY<|aB<|aB<|sp h ⟨_,k,k,(gT [1,2,3,4,5,6] (bG k2) (bO k<|eJ k<|bN k<|bN k<|bN k<|bW (aX.plainO _) k<|aQ) k4)⟩;refine aG<|tn<|sQ<|aD<|sR<|am k k<|oB h λv4 hv4 h=>ae (xl hv4 k) k<|lr k7<|ae (bX aJ k k) k<|aa k k<|ae (ws k) k<|an<|tn<|sR<|am k k<|fp k8<|fp k8<|lp k8<|am k k<|oB h λv5 hv5 h=>ae (xl hv5 k) k<|lr k7<|oB h λv6 hv6 h=>ae (xl hv6 k) k<|lr k7<|ae (bX aJ k k) k<|ae (ws k) k<|an<|tn ?_;refine sR<|aT k2<|sQ<|sR<|am k k<|fp k8<|fp k8<|lp k8<|am k k<|oB h λv7 hv7 h=>ae (xl hv7 k) k<|lr k7<|oB h λv8 hv8 h=>ae (xl hv8 k) k<|ae (dG aJ k k k k k k) k<|lr k7<|ln k4<|am k k<|an<|tn<|aI (t:=mN [(1,.list 2 (a1.map eS)),(2,.ptr 0 0 0),(4,.ptr 1 0 0),(6,.ptr 2 0 0),(7,.int x1.2),(8,.ptr 7 0 0),(9,.ptr 8 0 0),(10,.nil 0),(28,.list 3 (a0.maps.map eM)),(29,.int (a0.maps.length:Int)),(30,.int x1.2),(53,.list 1 (v8.basis.map (dQ 1 eI))),(54,.int (v8.basis.length:Int)),(55,.int 0)] [(0,⟨6,[eR a0]⟩),(1,⟨6,[nB]⟩),(2,⟨6,[[.int v2.p,.int v2.q.n,.own 3 0 v2.q.src.length,.own 4 0 v2.q.tgt.length,.own 5 0 v2.dims.length,.own 6 0 x1.1.length]]⟩),(3,⟨1,v2.q.src.map (ow eI)⟩),(4,⟨1,v2.q.tgt.map (ow eI)⟩),(5,⟨1,v2.dims.map (ow eI)⟩),(6,⟨3,x1.1.map (ow eM)⟩),(7,⟨3,[eM v4]⟩),(8,⟨2,[eS v6]⟩)] 9) (bP (bG k2) (bO k<|bO k<|eJ k<|bN k<|bN k<|bN k<|bW (aX.plainO _) k<|bO k<|bO k<|aQ) k4)<|aD<|oB h λy19 hy19 h=>cC (body:=(vY a0 v4 v6 v8)) hy19 (λ(x2:((List (List Int))×Int))=>mN [(1,.list 2 (a1.map eS)),(2,.ptr 0 0 0),(4,.ptr 1 0 0),(6,.ptr 2 0 0),(7,.int x1.2),(8,.ptr 7 0 0),(9,.ptr 8 0 0),(10,.own 9 0 x2.1.length),(28,.list 3 (a0.maps.map eM)),(29,.int (a0.maps.length:Int)),(30,.int x1.2),(53,.list 1 (v8.basis.map (dQ 1 eI))),(54,.int (v8.basis.length:Int)),(55,.int x2.2)] [(0,⟨6,[eR a0]⟩),(1,⟨6,[nB]⟩),(2,⟨6,[[.int v2.p,.int v2.q.n,.own 3 0 v2.q.src.length,.own 4 0 v2.q.tgt.length,.own 5 0 v2.dims.length,.own 6 0 x1.1.length]]⟩),(3,⟨1,v2.q.src.map (ow eI)⟩),(4,⟨1,v2.q.tgt.map (ow eI)⟩),(5,⟨1,v2.dims.map (ow eI)⟩),(6,⟨3,x1.1.map (ow eM)⟩),(7,⟨3,[eM v4]⟩),(8,⟨2,[eS v6]⟩),(9,⟨1,x2.1.map (ow (dQ 1 eI))⟩)] 10) (λr e t=>e= .exit 2∧Ent t (mN [(1,.list 2 (a1.map eS)),(2,.ptr 0 0 0),(4,.ptr 1 0 0),(6,.ptr 2 0 0),(7,.int x1.2),(9,.ptr 7 0 0),(10,.own 8 0 r.length),(28,.list 3 (a0.maps.map eM)),(29,.int (a0.maps.length:Int)),(30,.int x1.2)] [(0,⟨6,[eR a0]⟩),(1,⟨6,[nB]⟩),(2,⟨6,[[.int v2.p,.int v2.q.n,.own 3 0 v2.q.src.length,.own 4 0 v2.q.tgt.length,.own 5 0 v2.dims.length,.own 6 0 x1.1.length]]⟩),(3,⟨1,v2.q.src.map (ow eI)⟩),(4,⟨1,v2.q.tgt.map (ow eI)⟩),(5,⟨1,v2.dims.map (ow eI)⟩),(6,⟨3,x1.1.map (ow eM)⟩),(7,⟨2,[eS v6]⟩),(8,⟨1,r.map (ow (dQ 1 eI))⟩)] 9)) (eY (σ:=sg [(0,0),(1,1),(2,2),(3,3),(4,4),(5,5),(6,6),(7,7),(8,8)]) (kT 7 k2 (gH ⟨_,k,⟨k,k,k,k⟩⟩ (bG k2))) (bO k<|bO k<|eJ k<|bN k<|bN k<|bN k<|bW (aX.plainO _) k<|bO k<|bO k<|hX k k<|aQ) k) ?_ ?_
  ·intro x2 o h;refine sR<|cm k4<|an<|tn<|sQ<|cN k h (λ_ h=>?_) λ_ h=>aY<|aB<|aB<|sp h ⟨_,k,k,(gT [0,1,2,3,4,5,6,8,9] (bG k2) (bO k<|bO k<|eJ k<|bN k<|bN k<|bN k<|bW (aX.plainO _) k<|bO k<|bW (cB.plainO _) k<|aQ) k4)⟩;refine aG<|tn<|sQ<|aD<|sR<|oB h λv10 hv10 h=>ae (xl hv10 k) k<|lr k7<|aT k2<|sR<|fp k8<|lp k8<|lp k8<|am k k<|oB h λv11 hv11 h=>ae (cL cA (aNd a0.p v4 v10 v11 hv11) k3 (cJ k (aL (eV k) (cJ k aO)))) k<|aT k2<|sR<|aT k2<|sQ<|sR ?_;refine lp k8<|oB h λv12 hv12 h=>ae (cL cA (aET v6 v12 hv12) k3 (aL (eV k) aO)) k<|ae (dR aJ k k k k) k<|am k k<|an<|tn<|aD<|oB h λy17 hy17 h=>cC (body:=(vX v11 v12)) hy17 (λ(x3:((List Int)×Int))=>mN [(1,.list 2 (a1.map eS)),(2,.ptr 0 0 0),(4,.ptr 1 0 0),(6,.ptr 2 0 0),(7,.int x1.2),(8,.ptr 7 0 0),(9,.ptr 8 0 0),(10,.own 9 0 x2.1.length),(13,.own 10 0 v11.length),(14,.own 11 0 x3.1.length),(28,.list 3 (a0.maps.map eM)),(29,.int (a0.maps.length:Int)),(30,.int x1.2),(53,.list 1 (v8.basis.map (dQ 1 eI))),(54,.int (v8.basis.length:Int)),(55,.int x2.2),(65,.own 12 0 v12.length),(66,.int ((v12.length:Nat):Int)),(67,.int x3.2)] [(0,⟨6,[eR a0]⟩),(1,⟨6,[nB]⟩),(2,⟨6,[[.int v2.p,.int v2.q.n,.own 3 0 v2.q.src.length,.own 4 0 v2.q.tgt.length,.own 5 0 v2.dims.length,.own 6 0 x1.1.length]]⟩),(3,⟨1,v2.q.src.map (ow eI)⟩),(4,⟨1,v2.q.tgt.map (ow eI)⟩),(5,⟨1,v2.dims.map (ow eI)⟩),(6,⟨3,x1.1.map (ow eM)⟩),(7,⟨3,[eM v4]⟩),(8,⟨2,[eS v6]⟩),(9,⟨1,x2.1.map (ow (dQ 1 eI))⟩),(10,⟨1,v11.map (ow eI)⟩),(11,⟨1,x3.1.map (ow eI)⟩),(12,⟨1,v12.map (ow eI)⟩)] 13) (λr e t=>e= .exit 4∧Ent t (mN [(1,.list 2 (a1.map eS)),(2,.ptr 0 0 0),(4,.ptr 1 0 0),(6,.ptr 2 0 0),(7,.int x1.2),(8,.ptr 7 0 0),(9,.ptr 8 0 0),(10,.own 9 0 x2.1.length),(14,.own 10 0 r.length),(28,.list 3 (a0.maps.map eM)),(29,.int (a0.maps.length:Int)),(30,.int x1.2),(53,.list 1 (v8.basis.map (dQ 1 eI))),(54,.int (v8.basis.length:Int)),(55,.int x2.2)] [(0,⟨6,[eR a0]⟩),(1,⟨6,[nB]⟩),(2,⟨6,[[.int v2.p,.int v2.q.n,.own 3 0 v2.q.src.length,.own 4 0 v2.q.tgt.length,.own 5 0 v2.dims.length,.own 6 0 x1.1.length]]⟩),(3,⟨1,v2.q.src.map (ow eI)⟩),(4,⟨1,v2.q.tgt.map (ow eI)⟩),(5,⟨1,v2.dims.map (ow eI)⟩),(6,⟨3,x1.1.map (ow eM)⟩),(7,⟨3,[eM v4]⟩),(8,⟨2,[eS v6]⟩),(9,⟨1,x2.1.map (ow (dQ 1 eI))⟩),(10,⟨1,r.map (ow eI)⟩)] 11)) (eY (σ:=sg [(0,0),(1,1),(2,2),(3,3),(4,4),(5,5),(6,6),(7,7),(8,8),(9,9),(10,10),(12,11)]) (kT 9 k2 (gH ⟨_,k,⟨k,k,k,k⟩⟩ (bG k2))) (bO k<|bO k<|eJ k<|bN k<|bN k<|bN k<|bW (aX.plainO _) k<|bO k<|bO k<|bW (cB.plainO _) k<|bN k<|hX k k<|bN k<|aQ) k) ?_ ?_
   ·intro x3 o h;exact sR<|cm k4<|an<|tn<|sQ<|cN k h (λ_ h=>aG<|tn<|sQ<|aD<|sR<|oB h λv14 hv14 h=>ae (xo hv14 k) k<|ae (wp hv14 k) k<|aT k2<|rg<|am k k<|am k k<|am k k<|oB h λv15 hv15 h=>ae (xo hv15 k) k<|ae (wp hv15 k) k<|ae (wl k) k<|cG h λq16 h=>ae (qV aJ (l:=x3.1) (m:=[v15]) kH q16 k k k k k k k k k k k k) k<|aa k k<|an<|bB<|tn<|rg<|ae (bF k k) k<|am k k<|an<|tn<|sp h ⟨_,k,(gT [0,1,2,3,4,5,6,7,8,9,10,14,12] (bG k2) (bO k<|bO k<|eJ k<|bN k<|bN k<|bN k<|bW (aX.plainO _) k<|bO k<|bO k<|bW (cB.plainO _) k<|bN k<|bN k<|bN k<|aQ) k4)⟩) λ_ h=>aY<|aB<|aB<|sp h ⟨_,k,k,(gT [0,1,2,3,4,5,6,7,8,9,11] (bG k2) (bO k<|bO k<|eJ k<|bN k<|bN k<|bN k<|bW (aX.plainO _) k<|bO k<|bO k<|bW (cB.plainO _) k<|bN k<|aQ) k4)⟩
   ·rintro e t ⟨rfl,hent⟩;exact aN<|tn<|aI hent<|rg<|am k k<|am k k<|ae (wl k) k<|cG h λq18 h=>ae (fN aJ (l:=x2.1) (c:=[.own 10 0 y17.length]) q18 k k k k k k k k k k k k k k) k<|aa k k<|an<|bB<|tn<|aI (t:=mN [(1,.list 2 (a1.map eS)),(2,.ptr 0 0 0),(4,.ptr 1 0 0),(6,.ptr 2 0 0),(7,.int x1.2),(8,.ptr 7 0 0),(9,.ptr 8 0 0),(10,.own 12 0 ((x2.1++[y17]).length)),(28,.list 3 (a0.maps.map eM)),(29,.int (a0.maps.length:Int)),(30,.int x1.2),(53,.list 1 (v8.basis.map (dQ 1 eI))),(54,.int (v8.basis.length:Int)),(55,.int x2.2)] [(0,⟨6,[eR a0]⟩),(1,⟨6,[nB]⟩),(2,⟨6,[[.int v2.p,.int v2.q.n,.own 3 0 v2.q.src.length,.own 4 0 v2.q.tgt.length,.own 5 0 v2.dims.length,.own 6 0 x1.1.length]]⟩),(3,⟨1,v2.q.src.map (ow eI)⟩),(4,⟨1,v2.q.tgt.map (ow eI)⟩),(5,⟨1,v2.dims.map (ow eI)⟩),(6,⟨3,x1.1.map (ow eM)⟩),(7,⟨3,[eM v4]⟩),(8,⟨2,[eS v6]⟩),(12,⟨1,List.map (ow (dQ 1 eI)) (x2.1++[y17])⟩)] 13) (Ent.trans (dJ (b:=12) (b':=10) (j:=0) (es':=y17.map eI) k k k k (aH _ _) (cA.frzs _)) (bP (kT 7 k2 (gH ⟨_,k,⟨k,k,(by simp only [aH,lA,lT,lR,lC,lN]),k⟩⟩ (bG k2))) (bO k<|bO k<|eJ k<|bN k<|bN k<|bN k<|bW (aX.plainO _) k<|bO k<|bO k<|hX ⟨_,k,k,.inl ⟨fV y17 k,cB.plainO _⟩⟩ k<|aQ) k4))<|rg<|ae (bF k k) k<|am k k<|an<|tn<|sp h ⟨_,k,(gT [0,1,2,3,4,5,6,7,8,12] (bG k2) (bO k<|bO k<|eJ k<|bN k<|bN k<|bN k<|bW (aX.plainO _) k<|bO k<|bO k<|bW (cB.plainO _) k<|aQ) k4)⟩
  ·rintro e t ⟨rfl,hent⟩;exact aN<|tn<|aI hent<|aP fB<|fp k8<|lp k8<|am k k<|fp k8<|lp k8<|ln k4<|am k k<|oB h λv20 hv20 h=>ae (cM (mB (v6.basis.length:Int) y19 v20 hv20) k3 (cJ k (aL (tA cB k k) aO))) k<|oB h λv21 hv21 h=>ae (xo hv21 k) k<|ae (aGk aJ k k k k k k (aAa (dF hv21)) k) k<|an<|lL (by kernel_rfl)<|bB<|tn<|rg<|ae (bF k k) k<|am k k<|an<|tn<|sp h ⟨_,k,(Ent.trans (show Ent _ (mN [(1,.list 2 (a1.map eS)),(2,.ptr 0 0 0),(4,.ptr 1 0 0),(6,.ptr 2 0 0),(28,.list 3 (a0.maps.map eM)),(29,.int (a0.maps.length:Int)),(30,.int (wr (x1.2+1)))] [(0,⟨6,[eR a0]⟩),(1,⟨6,[nB]⟩),(2,⟨6,[[.int v2.p,.int v2.q.n,.own 3 0 v2.q.src.length,.own 4 0 v2.q.tgt.length,.own 5 0 v2.dims.length,.own 6 0 ((x1.1.set x1.2.toNat v20).length)]]⟩),(3,⟨1,v2.q.src.map (ow eI)⟩),(4,⟨1,v2.q.tgt.map (ow eI)⟩),(5,⟨1,v2.dims.map (ow eI)⟩),(6,⟨3,List.map (ow eM) (x1.1.set x1.2.toNat v20)⟩)] 10) from (Ent.trans (qC (b:=6) (b':=9) (j:=2) (es':=v20.cells.map eI) (by rw [dC];exact eX hv21) k k k k (aH _ _) (cA.frzs _)) (bP (bG k2) (bO k<|bO k<|hX ⟨_,k,k,.inr ⟨_,_,k,⟨_,_,k,k,⟨_,_,k,k,⟨_,_,k,⟨k,k,k,k⟩,⟨_,_,k,⟨k,k,k,k⟩,⟨_,_,k,⟨k,k,k,k⟩,⟨_,_,k,⟨k,k,(by simp only [aH,lA,lT,lR,lC,lN]),k⟩,k⟩⟩⟩⟩⟩⟩,k⟩⟩ k<|bN k<|bN k<|bN k<|hX ⟨_,k,k,.inl ⟨aCF v20 k,aX.plainO _⟩⟩ k<|aQ) k4))) (bP (bG k2) (bO k<|bO k<|eJ k<|bN k<|bN k<|bN k<|bW (aX.plainO _) k<|aQ) k4))⟩
 ·rintro e t ⟨rfl,hent⟩;refine aN<|tn<|aI hent<|sR<|aT k2<|sQ<|sR<|am k k<|ln k4<|am k k<|an<|tn<|aD<|oB h λy27 hy27 h=>cC (body:=(wA a1)) hy27 (λ(x4:((List Mt)×Int))=>mN [(4,.ptr 0 0 0),(6,.ptr 1 0 0),(17,.own 6 0 x4.1.length),(94,.list 2 (a1.map eS)),(95,.int (a1.length:Int)),(96,.int x4.2)] [(0,⟨6,[nB]⟩),(1,⟨6,[[.int v2.p,.int v2.q.n,.own 2 0 v2.q.src.length,.own 3 0 v2.q.tgt.length,.own 4 0 v2.dims.length,.own 5 0 y22.length]]⟩),(2,⟨1,v2.q.src.map (ow eI)⟩),(3,⟨1,v2.q.tgt.map (ow eI)⟩),(4,⟨1,v2.dims.map (ow eI)⟩),(5,⟨3,y22.map (ow eM)⟩),(6,⟨3,x4.1.map (ow eM)⟩)] 7) (λr e t=>e= .exit 6∧Ent t (mN [(4,.ptr 0 0 0),(6,.ptr 1 0 0),(17,.own 6 0 r.length)] [(0,⟨6,[nB]⟩),(1,⟨6,[[.int v2.p,.int v2.q.n,.own 2 0 v2.q.src.length,.own 3 0 v2.q.tgt.length,.own 4 0 v2.dims.length,.own 5 0 y22.length]]⟩),(2,⟨1,v2.q.src.map (ow eI)⟩),(3,⟨1,v2.q.tgt.map (ow eI)⟩),(4,⟨1,v2.dims.map (ow eI)⟩),(5,⟨3,y22.map (ow eM)⟩),(6,⟨3,r.map (ow eM)⟩)] 7)) (eY (σ:=sg [(0,0),(1,1),(2,2),(3,3),(4,4),(5,5)]) (kT 2 k2 (gH ⟨_,k,⟨k,k,k,k⟩⟩ (bG k2))) (bO k<|eJ k<|bN k<|bN k<|bN k<|bW (aX.plainO _) k<|hX k k<|aQ) k) ?_ ?_
  ·intro x4 o h;refine sR<|cm k4<|an<|tn<|sQ<|cN k h (λ_ h=>?_) λ_ h=>aY<|aB<|aB<|sp h ⟨_,k,k,(bP (bG k2) (bO k<|eJ k<|bN k<|bN k<|bN k<|bW (aX.plainO _) k<|bW (aX.plainO _) k<|aQ) k4)⟩;refine aG<|tn<|sQ<|aD<|sR<|oB h λv24 hv24 h=>ae (xl hv24 k) k<|lr k7<|ae (bX aJ k k) k<|ae (ws k) k<|an<|tn<|rg<|am k k<|fp k8<|lp k8<|fp k8<|lp k8<|oB h λv25 hv25 h=>ae (cM (mB v24.size v24.basis v25 hv25) k3 (cJ k (cJ k aO))) k<|ae (wl k) k<|cG h λq26 h=>ae (fN aJ (l:=x4.1) (c:=[.int v25.rows,.int v25.cols,.own 8 0 v25.cells.length]) q26 k k k k k k k k k k k k k k) k<|aa k k<|an<|bB<|tn<|aI (t:=mN [(4,.ptr 0 0 0),(6,.ptr 1 0 0),(17,.own 10 0 ((x4.1++[v25]).length)),(94,.list 2 (a1.map eS)),(95,.int (a1.length:Int)),(96,.int x4.2)] [(0,⟨6,[nB]⟩),(1,⟨6,[[.int v2.p,.int v2.q.n,.own 2 0 v2.q.src.length,.own 3 0 v2.q.tgt.length,.own 4 0 v2.dims.length,.own 5 0 y22.length]]⟩),(2,⟨1,v2.q.src.map (ow eI)⟩),(3,⟨1,v2.q.tgt.map (ow eI)⟩),(4,⟨1,v2.dims.map (ow eI)⟩),(5,⟨3,y22.map (ow eM)⟩),(10,⟨3,List.map (ow eM) (x4.1++[v25])⟩)] 11) (Ent.trans (dJ (b:=10) (b':=8) (j:=2) (es':=v25.cells.map eI) k k k k (aH _ _) (cA.frzs _)) (bP (kT 2 k2 (gH ⟨_,k,⟨k,k,(by simp only [aH,lA,lT,lR,lC,lN]),k⟩⟩ (bG k2))) (bO k<|eJ k<|bN k<|bN k<|bN k<|bW (aX.plainO _) k<|hX ⟨_,k,k,.inl ⟨fV v25 k,aX.plainO _⟩⟩ k<|aQ) k4))<|rg<|ae (bF k k) k<|am k k ?_;exact an<|tn<|sp h ⟨_,k,(gT [0,1,2,3,4,5,10] (bG k2) (bO k<|eJ k<|bN k<|bN k<|bN k<|bW (aX.plainO _) k<|bW (aX.plainO _) k<|aQ) k4)⟩
  ·rintro e t ⟨rfl,hent⟩;exact aN<|tn<|aI hent<|sR<|lp k8<|am k k<|ae (ws k) k<|aT k2<|aE<|sp h (bD k k k (cU k (bL (yU (aU (k) (aU (k) (aU (cW cA k k) (aU (cW cA k k) (aU (cW cA k k) (aU (cW aX k k) fA))))))) (bL (dL (cW aX k k)) eG))))
def uB (a0:(List Mt)) (x1:((List Int)×Int)):Option (((List Int)×Int) ⊕ (List Int)):=
 bif decide (x1.2<(a0.length:Int)) then
 ((cY a0 x1.2).bind λv2=>
 bif decide (x1.1.length+v2.cells.length≤4294967296) then
 (some (.inl ((x1.1++v2.cells),wr (x1.2+1))))
 else none)
 else
 (some (.inr x1.1))
def aAN (a0:(List Mt)):Option (List Int):=
 (Lp (uB a0) (([]:(List Int)),0)).bind λy4=>
 some (y4)
theorem aKz (a0:(List Mt)) (r:(List Int)) (h:aAN a0=some r):HasC Tryz.prog 218 [.list 3 (a0.map eM)] (.list 1 (r.map eI)):=by
 refine hM [.tmp 2] Tryz.func218 Tryz.ntmps218 k<|sR<|aT k2<|sR<|ae (wl k) k<|aT k2<|aI (t:=mN [(0,.list 3 (a0.map eM)),(3,.own 0 0 (([]:(List Int)).length))] [(0,⟨1,List.map (ow eI) ([]:(List Int))⟩)] 1) (bP (kT 1 k2 (gH ⟨_,k,⟨k,k,(by simp only [aH,lA,lT,lR,lC,lN]),k⟩⟩ aQ)) (bN k<|aQ) k4)<|sQ<|sR<|aT k2<|aD<|oB h λy4 hy4 h=>cC (body:=(uB a0)) hy4 (λ(x1:((List Int)×Int))=>mN [(0,.list 3 (a0.map eM)),(3,.own 0 0 x1.1.length),(4,.int x1.2)] [(0,⟨1,x1.1.map (ow eI)⟩)] 1) (λr e t=>e= .exit 0∧Ent t (mN [(3,.own 0 0 r.length)] [(0,⟨1,r.map (ow eI)⟩)] 1)) (bP (bG k2) (bN k<|aQ) k4) ?_ ?_
 ·intro x1 o h;exact sQ<|sR<|am k k<|am k k<|ln k4<|cm k4<|an<|tn<|cN k h (λ_ h=>aG<|tn<|sQ<|aD<|rg<|am k k<|am k k<|am k k<|oB h λv2 hv2 h=>ae (xl hv2 k) k<|ae (dG aJ k k k k k k) k<|lr k7<|cG h λq3 h=>ae (qV aJ (l:=x1.1) (m:=v2.cells) kH q3 k k k k k k k k k k k k) k<|aa k k<|an<|bB<|tn<|rg<|am k k<|ae (bF k k) k<|aT k2<|sp h ⟨_,k,(gT [1] (bG k2) (bN k<|aQ) k4)⟩) λ_ h=>aY<|aB<|aB<|sp h ⟨_,k,k,(bP (bG k2) (bN k<|aQ) k4)⟩
 ·rintro e t ⟨rfl,hent⟩;exact aN<|tn<|aI hent<|sR<|am k k<|aT k2<|aE<|sp h (bD k k k (fH (cW cA k k)))
def pR (a0:Rp) (v4:(List Int)) (x1:(Int×(List Int)×Int)) (x2:((List Int)×Int)):Option (((List Int)×Int) ⊕ (List Int)):=
 bif decide (x2.2<((v4.length:Nat):Int)) then
 ((cY x2.1 x2.2).bind λv6=>
 (cY v4 x2.2).bind λv7=>
 (gX a0.p (wr (v6+(wr ((x1.1.tmod a0.p)*v7))))).bind λv8=>
 (cY x2.1 x2.2).bind λv9=>
 some (.inl ((x2.1.set x2.2.toNat v8),wr (x2.2+1))))
 else
 (some (.inr x2.1))
def pS (a0:Rp) (a2:(List (List Mt))) (x1:(Int×(List Int)×Int)):Option ((Int×(List Int)×Int) ⊕ (List Int)):=
 bif decide (0≤x1.2.2) then
 (bif !decide (a0.p=0) then
 (bif !decide (a0.p=0) then
 ((cY a2 x1.2.2).bind λv3=>
 (aAN v3).bind λv4=>
 (Lp (pR a0 v4 x1) (x1.2.1,0)).bind λy10=>
 some (.inl (wr (x1.1.tdiv a0.p),y10,wr (x1.2.2 - 1))))
 else none)
 else none)
 else
 (some (.inr x1.2.1))
def lM (a0:Rp) (a1:Rp) (a2:(List (List Mt))) (a3:Int):Option (List Mt):=
 (uR a0 a1).bind λv1=>
 bif (decide (0≤v1)&&decide (v1≤1048576)) then
 ((Lp (pS a0 a2) (a3,(List.replicate v1.toNat (0:Int)),wr ((a2.length:Int) - 1))).bind λy13=>
 (kK a0 a1 y13).bind λv14=>
 some (v14))
 else none
theorem aAk (a0:Rp) (a1:Rp) (a2:(List (List Mt))) (a3:Int) (r:(List Mt)) (h:lM a0 a1 a2 a3=some r):HasC Tryz.prog 183 [.agg (eR a0),.agg (eR a1),.list 1 (a2.map (dQ 3 eM)),.int a3] (.list 3 (r.map eM)):=by
 refine hM [.tmp 8] Tryz.func183 Tryz.ntmps183 k<|sR<|ae (wb k) k<|ae (wb k) k<|aT k2<|sR<|lp k8<|lp k8<|oB h λv1 hv1 h=>ae (aS (aEn a0 a1 v1 hv1) k (aL (eV k) (aL (eV k) aO))) k<|cG h λq15 h=>ae (aCD aJ q15 k k k k k k k k) k<|aT k2<|aI (t:=mN [(2,.list 1 (a2.map (dQ 3 eM))),(3,.int a3),(4,.ptr 0 0 0),(5,.ptr 1 0 0),(9,.own 2 0 ((List.replicate v1.toNat (0:Int)).length))] [(0,⟨6,[eR a0]⟩),(1,⟨6,[eR a1]⟩),(2,⟨1,List.map (ow eI) (List.replicate v1.toNat (0:Int))⟩)] 3) (bP (kT 4 k2 (gH ⟨_,k,⟨k,k,(by simp only [aH,lA,lT,lR,lC,lN]),k⟩⟩ aQ)) (bO k<|bO k<|hX ⟨_,k,k,.inl ⟨aCt (e:=eI) (z:=0) _,cA.plainO _⟩⟩ k<|aQ) k4)<|sQ<|sR<|am k k<|ln k4<|ae (wS k k) k<|aT k2<|aD<|oB h λy13 hy13 h=>cC (body:=(pS a0 a2)) hy13 (λ(x1:(Int×(List Int)×Int))=>mN [(2,.list 1 (a2.map (dQ 3 eM))),(3,.int x1.1),(4,.ptr 0 0 0),(5,.ptr 1 0 0),(9,.own 2 0 x1.2.1.length),(10,.int x1.2.2)] [(0,⟨6,[eR a0]⟩),(1,⟨6,[eR a1]⟩),(2,⟨1,x1.2.1.map (ow eI)⟩)] 3) (λr e t=>e= .exit 0∧Ent t (mN [(4,.ptr 0 0 0),(5,.ptr 1 0 0),(9,.own 2 0 r.length)] [(0,⟨6,[eR a0]⟩),(1,⟨6,[eR a1]⟩),(2,⟨1,r.map (ow eI)⟩)] 3)) (bP (bG k2) (bO k<|bO k<|bN k<|aQ) k4) ?_ ?_
 ·intro x1 o h;refine sQ<|sR<|am k k<|cm k4<|an<|tn<|cN k h (λ_ h=>?_) λ_ h=>aY<|aB<|aB<|sp h ⟨_,k,k,(bP (bG k2) (bO k<|bO k<|bN k<|aQ) k4)⟩;refine aG<|tn<|sQ<|aD<|sR<|am k k<|fp k8<|lp k8<|cG h λq12 h=>ae (aFh k k q12) k<|aT k2<|sR<|am k k<|fp k8<|lp k8<|cG h λq11 h=>ae (aWZ k k q11) k<|aT k2<|sR<|am k k<|am k k<|oB h λv3 hv3 h=>ae (xl hv3 k) k<|lr k7<|oB h λv4 hv4 h=>ae (cL cA (aKz v3 v4 hv4) k3 (cJ k aO)) k ?_;refine aT k2<|sR<|aT k2<|aD<|oB h λy10 hy10 h=>cC (body:=(pR a0 v4 x1)) hy10 (λ(x2:((List Int)×Int))=>mN [(2,.list 1 (a2.map (dQ 3 eM))),(3,.int (wr (x1.1.tdiv a0.p))),(4,.ptr 0 0 0),(5,.ptr 1 0 0),(9,.own 2 0 x2.1.length),(10,.int x1.2.2),(11,.int (x1.1.tmod a0.p)),(12,.own 3 0 v4.length),(13,.int x2.2)] [(0,⟨6,[eR a0]⟩),(1,⟨6,[eR a1]⟩),(2,⟨1,x2.1.map (ow eI)⟩),(3,⟨1,v4.map (ow eI)⟩)] 4) (λr e t=>e= .exit 2∧Ent t (mN [(2,.list 1 (a2.map (dQ 3 eM))),(3,.int (wr (x1.1.tdiv a0.p))),(4,.ptr 0 0 0),(5,.ptr 1 0 0),(9,.own 2 0 r.length),(10,.int x1.2.2)] [(0,⟨6,[eR a0]⟩),(1,⟨6,[eR a1]⟩),(2,⟨1,r.map (ow eI)⟩)] 3)) (bP (bG k2) (bO k<|bO k<|bN k<|bN k<|aQ) k4) ?_ ?_
  ·intro x2 o h;refine sQ<|sR<|am k k<|am k k<|ae (dR aJ k k k k) k<|cm k4<|an<|tn<|cN k h (λ_ h=>?_) λ_ h=>aY<|aB<|aB<|sp h ⟨_,k,k,(bP (bG k2) (bO k<|bO k<|bN k<|aQ) k4)⟩;refine aG<|tn<|sQ<|aD<|aP fB<|am k k<|am k k<|fp k8<|lp k8<|am k k<|am k k<|oB h λv6 hv6 h=>ae (xo hv6 k) k<|ae (wp hv6 k) k<|am k k<|am k k<|am k k<|oB h λv7 hv7 h=>ae (xo hv7 k) k<|ae (wp hv7 k) k<|ae (fP k k) k<|ae (bF k k) k<|oB h λv8 hv8 h=>ae (aS (kU a0.p (wr (v6+(wr ((x1.1.tmod a0.p)*v7)))) v8 hv8) k (cJ k (cJ k aO))) k<|oB h λv9 hv9 h=>ae (xo hv9 k) k<|ae (gL aJ kH (u:=v8) (dF hv9) k k k k k k) k<|an<|lL (by kernel_rfl)<|bB<|tn<|rg<|am k k ?_;exact ae (bF k k) k<|aT k2<|sp h ⟨_,k,(bP (kT 4 k2 (gH ⟨_,k,⟨k,k,(by simp only [aH,lA,lT,lR,lC,lN]),k⟩⟩ (bG k2))) (bO k<|bO k<|bN k<|bN k<|aQ) k4)⟩
  ·rintro e t ⟨rfl,hent⟩;exact aN<|bB<|tn<|aI hent<|rg<|am k k<|ae (wS k k) k<|aT k2<|sp h ⟨_,k,(bP (bG k2) (bO k<|bO k<|bN k<|aQ) k4)⟩
 ·rintro e t ⟨rfl,hent⟩;exact aN<|tn<|aI hent<|sR<|lp k8<|lp k8<|am k k<|oB h λv14 hv14 h=>ae (cL aX (aEO a0 a1 y13 v14 hv14) k3 (aL (eV k) (aL (eV k) (vcT k k aO)))) k<|aT k2<|aE<|sp h (bD k k k (fH (cW aX k k)))
def gV (a0:Rp) (a1:Rp) (a2:(List Mt)) (x1:Int):Option (Int ⊕ (Unit ⊕ Bool)):=
 bif decide (x1<(a2.length:Int)) then
 ((cY a2 x1).bind λv5=>
 (kI a0.p v5).bind λv6=>
 bif !v6 then
 (some (.inr (.inr (false))))
 else
 ((cY a2 x1).bind λv8=>
 (cY a0.dims x1).bind λv9=>
 bif !decide (v8.cols=v9) then
 (some (.inr (.inr (false))))
 else
 ((cY a2 x1).bind λv11=>
 (cY a1.dims x1).bind λv12=>
 bif !decide (v11.rows=v12) then
 (some (.inr (.inr (false))))
 else
 (some (.inl (wr (x1+1)))))))
 else
 (some (.inr (.inl ())))
def jO (a0:Rp) (a1:Rp) (a2:(List Mt)):Option Bool:=
 (zZ a0 a1).bind λv1=>
 bif !v1 then
 (some (false))
 else
 (bif !decide ((a2.length:Int)=(a0.dims.length:Int)) then
 (some (false))
 else
 ((Lp (gV a0 a1 a2) 0).bind λy14=>
 Sum.elim (λy15=>
 some (true)
 )
 (λy16=>
 some y16
 )
 y14))
theorem aGR (a0:Rp) (a1:Rp) (a2:(List Mt)) (r:Bool) (h:jO a0 a1 a2=some r):HasC Tryz.prog 222 [.agg (eR a0),.agg (eR a1),.list 3 (a2.map eM)] (.bl r):=by
 refine hM [.tmp 6] Tryz.func222 Tryz.ntmps222 k<|sR<|ae (wb k) k<|ae (wb k) k<|aT k2<|sQ<|sR<|lp k8<|lp k8<|oB h λv1 hv1 h=>ae (aS (aGt a0 a1 v1 hv1) k (aL (eV k) (aL (eV k) aO))) k<|ae (dI k) k<|am k k<|sP h (λq2 h=>aV 12 k q2<|aK k4<|aK k4<|aK k4<|pk k3<|an<|tn<|dO k k<|sR<|aT k2<|aE<|aC<|gK h k2) λq2 h=>?_;refine aV 12 k q2<|am k k<|ln k4<|fp k8<|lp k8<|ln k4<|cm k4<|pk k3<|an<|tn<|cN k h (λ_ h=>sR<|aT k2<|aE<|aC<|gK h k2) λ_ h=>?_;refine aG<|tn<|sQ<|sR<|aT k2<|aD<|oB h λy14 hy14 h=>cC (body:=(gV a0 a1 a2)) hy14 (λ(x1:Int)=>mN [(2,.list 3 (a2.map eM)),(3,.ptr 0 0 0),(4,.ptr 1 0 0),(7,.int x1)] [(0,⟨6,[eR a0]⟩),(1,⟨6,[eR a1]⟩)] 2) (λr e t=>Sum.elim (λa=>(λr e t=>e= .exit 0∧Ent t (mN [] [] 0)) a e t) (λb=>(λr e t=>e= .ret∧mW TT [.tmp 6] (.bl r) .ret t) b e t) r) (bP (bG k2) (bO k<|bO k<|aQ) k4) ?_ ?_
 ·intro x1 o h;refine sQ<|sR<|am k k<|am k k<|ln k4<|cm k4<|an<|tn<|cN k h (λ_ h=>?_) λ_ h=>aY<|aB<|aB<|sp h ⟨_,k,k,(bP aQ aQ k4)⟩;refine aG<|tn<|sQ<|aD<|sQ<|aP fB<|fp k8<|lp k8<|am k k<|am k k<|oB h λv5 hv5 h=>ae (xl hv5 k) k<|lr k7<|oB h λv6 hv6 h=>ae (aS (xJ a0.p v5 v6 hv6) k (cJ k (aL (eV k) aO))) k<|ae (dI k) k<|am k k<|sP h (λq7 h=>?_) λq7 h=>?_
  ·refine aV 34 k q7<|aK k4<|aK k4<|aK k4<|aK k4<|aK k4<|ak k k<|pk k3<|am k k<|aK k4<|aK k4<|aK k4<|aK k4<|aK k4<|ak k k<|pk k3<|an<|lL (by kernel_rfl)<|tn<|aI (t:=mN [(2,.list 3 (a2.map eM)),(3,.ptr 0 0 0),(4,.ptr 1 0 0),(7,.int x1),(59,.bl true)] [(0,⟨6,[eR a0]⟩),(1,⟨6,[eR a1]⟩)] 2) (bP (bG k2) (bO k<|bO k<|aQ) k4) ?_;exact dO k k<|sR<|aT k2<|aE<|bC<|aC<|aC<|sp h ⟨_,k,k,bD k k k (lF k)⟩
  ·exact aV 34 k q7<|am k k<|am k k<|oB h λv8 hv8 h=>ae (xl hv8 k) k<|ae (dG aJ k k k k k k) k<|lr k7<|fp k8<|lp k8<|am k k<|oB h λv9 hv9 h=>ae (xl hv9 k) k<|lr k7<|cm k4<|pk k3<|am k k<|sP h (λq10 h=>aV 47 k q10<|aK k4<|aK k4<|aK k4<|aK k4<|aK k4<|ak k k<|pk k3<|an<|lL (by kernel_rfl)<|tn<|aI (t:=mN [(2,.list 3 (a2.map eM)),(3,.ptr 0 0 0),(4,.ptr 1 0 0),(7,.int x1),(59,.bl true)] [(0,⟨6,[eR a0]⟩),(1,⟨6,[eR a1]⟩)] 2) (bP (bG k2) (bO k<|bO k<|aQ) k4)<|dO k k<|sR<|aT k2<|aE<|bC<|aC<|aC<|sp h ⟨_,k,k,bD k k k (lF k)⟩) λq10 h=>aV 47 k q10<|am k k<|am k k<|oB h λv11 hv11 h=>ae (xl hv11 k) k<|ae (dG aJ k k k k k k) k<|lr k7<|fp k8<|lp k8<|am k k<|oB h λv12 hv12 h=>ae (xl hv12 k) k<|lr k7<|cm k4<|pk k3<|an<|lL (by kernel_rfl)<|tn<|aI (t:=mN [(2,.list 3 (a2.map eM)),(3,.ptr 0 0 0),(4,.ptr 1 0 0),(7,.int x1),(59,.bl (!decide (v11.rows=v12)))] [(0,⟨6,[eR a0]⟩),(1,⟨6,[eR a1]⟩)] 2) (bP (bG k2) (bO k<|bO k<|aQ) k4)<|cN k h (λ_ h=>sR<|aT k2<|aE<|bC<|aC<|aC<|sp h ⟨_,k,k,bD k k k (lF k)⟩) λ_ h=>aG<|bB<|tn<|rg<|am k k<|ae (bF k k) k<|aT k2<|sp h ⟨_,k,(bP (bG k2) (bO k<|bO k<|aQ) k4)⟩
 ·intro e t hX;rcases y14 with y15|y16
  ·obtain ⟨rfl,hent⟩:=hX;exact aN<|tn<|aI hent<|sR<|aT k2<|aE<|gK h k2
  ·obtain ⟨rfl,hent⟩:=hX;exact bC<|aC<|sp h hent
def iD (a0:Rp) (a1:Rp) (a2:(List Mt)) (x1:Int):Option (Int ⊕ (Unit ⊕ Bool)):=
 bif decide (x1<(a0.maps.length:Int)) then
 ((cY a1.maps x1).bind λv4=>
 (cY a0.q.src x1).bind λv5=>
 (cY a2 v5).bind λv6=>
 (gF a0.p v4 v6).bind λv7=>
 (cY a0.q.tgt x1).bind λv8=>
 (cY a2 v8).bind λv9=>
 (cY a0.maps x1).bind λv10=>
 (gF a0.p v9 v10).bind λv11=>
 (nU v7 v11).bind λv12=>
 bif !v12 then
 (some (.inr (.inr (false))))
 else
 (some (.inl (wr (x1+1)))))
 else
 (some (.inr (.inl ())))
def fL (a0:Rp) (a1:Rp) (a2:(List Mt)):Option Bool:=
 (jO a0 a1 a2).bind λv1=>
 bif !v1 then
 (some (false))
 else
 ((Lp (iD a0 a1 a2) 0).bind λy14=>
 Sum.elim (λy15=>
 some (true)
 )
 (λy16=>
 some y16
 )
 y14)
theorem oK (a0:Rp) (a1:Rp) (a2:(List Mt)) (r:Bool) (h:fL a0 a1 a2=some r):HasC Tryz.prog 189 [.agg (eR a0),.agg (eR a1),.list 3 (a2.map eM)] (.bl r):=by
 refine hM [.tmp 6] Tryz.func189 Tryz.ntmps189 k<|sR<|ae (wb k) k<|ae (wb k) k<|aT k2<|sQ<|sR<|lp k8<|lp k8<|am k k<|oB h λv1 hv1 h=>ae (aS (aGR a0 a1 a2 v1 hv1) k (aL (eV k) (aL (eV k) (cJ k aO)))) k<|ae (dI k) k<|an<|tn<|cN k h (λ_ h=>sR<|aT k2<|aE<|aC<|gK h k2) λ_ h=>?_;refine aG<|tn<|sQ<|sR<|aT k2<|aD<|oB h λy14 hy14 h=>cC (body:=(iD a0 a1 a2)) hy14 (λ(x1:Int)=>mN [(2,.list 3 (a2.map eM)),(3,.ptr 0 0 0),(4,.ptr 1 0 0),(7,.int x1)] [(0,⟨6,[eR a0]⟩),(1,⟨6,[eR a1]⟩)] 2) (λr e t=>Sum.elim (λa=>(λr e t=>e= .exit 0∧Ent t (mN [] [] 0)) a e t) (λb=>(λr e t=>e= .ret∧mW TT [.tmp 6] (.bl r) .ret t) b e t) r) (bP (bG k2) (bO k<|bO k<|aQ) k4) ?_ ?_
 ·intro x1 o h;refine sQ<|sR<|am k k<|fp k8<|lp k8<|ln k4<|cm k4<|an<|tn<|cN k h (λ_ h=>?_) λ_ h=>aY<|aB<|aB<|sp h ⟨_,k,k,(bP aQ aQ k4)⟩;refine aG<|tn<|sQ<|aD<|sQ<|aP fB<|fp k8<|lp k8<|fp k8<|lp k8<|am k k<|oB h λv4 hv4 h=>ae (xl hv4 k) k<|lr k7<|am k k<|fp k8<|fp k8<|lp k8<|am k k<|oB h λv5 hv5 h=>ae (xl hv5 k) k<|lr k7<|oB h λv6 hv6 h=>ae (xl hv6 k) k<|lr k7<|oB h λv7 hv7 h=>ae (cM (kB a0.p v4 v6 v7 hv7) k3 (cJ k (aL (eV k) (aL (eV k) aO)))) k<|ae (bX aJ k k) k<|ae (ws k) k<|an<|lL (by kernel_rfl)<|tn<|aI (t:=mN [(2,.list 3 (a2.map eM)),(3,.ptr 0 0 0),(4,.ptr 1 0 0),(7,.int x1),(8,.ptr 3 0 0)] [(0,⟨6,[eR a0]⟩),(1,⟨6,[eR a1]⟩),(2,⟨1,v7.cells.map (ow eI)⟩),(3,⟨3,[oMt v7 2]⟩)] 4) (bP (bG k2) (bO k<|bO k<|bN k<|eJ k<|aQ) k4) ?_;refine sQ<|aP fB<|fp k8<|lp k8<|am k k<|fp k8<|fp k8<|lp k8<|am k k<|oB h λv8 hv8 h=>ae (xl hv8 k) k<|lr k7<|oB h λv9 hv9 h=>ae (xl hv9 k) k<|lr k7<|fp k8<|lp k8<|am k k<|oB h λv10 hv10 h=>ae (xl hv10 k) k<|lr k7<|oB h λv11 hv11 h=>ae (cM (kB a0.p v9 v10 v11 hv11) k3 (cJ k (aL (eV k) (aL (eV k) aO)))) k<|ae (bX aJ k k) k<|ae (ws k) k<|an<|lL (by kernel_rfl)<|tn<|sR<|lp k8<|lp k8<|oB h λv12 hv12 h=>ae (aS (aEi v7 v11 v12 hv12) k (aL (vaM k2) (aL (vaM k2) aO))) k<|ae (dI k) k ?_;exact an<|tn<|cN k h (λ_ h=>sR<|aT k2<|aI (t:=mN [(6,.bl false)] [] 6) (bP (bG k2) aQ k4)<|aE<|bC<|aC<|aC<|sp h ⟨_,k,k,bD k k k (lF k)⟩) λ_ h=>aG<|bB<|tn<|rg<|am k k<|ae (bF k k) k<|aT k2<|sp h ⟨_,k,(bP (bG k2) (bO k<|bO k<|aQ) k4)⟩
 ·intro e t hX;rcases y14 with y15|y16
  ·obtain ⟨rfl,hent⟩:=hX;exact aN<|tn<|aI hent<|sR<|aT k2<|aE<|gK h k2
  ·obtain ⟨rfl,hent⟩:=hX;exact bC<|aC<|sp h hent
def fY (a0:Rp) (v1:Int) (x1:(Int×Int)):Option ((Int×Int) ⊕ (Int ⊕ Int)):=
 bif decide (x1.2<v1) then
 (bif decide (100000<wr (x1.1*a0.p)) then
 (some (.inr (.inr ((-2)))))
 else
 (some (.inl (wr (x1.1*a0.p),wr (x1.2+1)))))
 else
 (some (.inr (.inl x1.1)))
def mV (a0:Rp) (a1:Rp):Option Int:=
 (aAr a0 a1).bind λv1=>
 bif decide (v1<0) then
 (some ((-1)))
 else
 ((Lp (fY a0 v1) (1,0)).bind λy5=>
 Sum.elim (λy6=>
 some (y6)
 )
 (λy7=>
 some y7
 )
 y5)
theorem aEU (a0:Rp) (a1:Rp) (r:Int) (h:mV a0 a1=some r):HasC Tryz.prog 181 [.agg (eR a0),.agg (eR a1)] (.int r):=by
 refine hM [.tmp 4] Tryz.func181 Tryz.ntmps181 k<|sR<|ae (wb k) k<|ae (wb k) k<|aT k2<|sR<|lp k8<|lp k8<|oB h λv1 hv1 h=>ae (aS (aLb a0 a1 v1 hv1) k (aL (eV k) (aL (eV k) aO))) k<|aT k2<|sQ<|sR<|am k k<|cm k4<|an<|tn<|cN k h (λ_ h=>sR<|aT k2<|aE<|aC<|rtI h k2) λ_ h=>?_;refine aG<|tn<|sR<|aT k2<|sQ<|sR<|aT k2<|aD<|oB h λy5 hy5 h=>cC (body:=(fY a0 v1)) hy5 (λ(x1:(Int×Int))=>mN [(2,.ptr 0 0 0),(5,.int v1),(6,.int x1.1),(7,.int x1.2)] [(0,⟨6,[eR a0]⟩)] 1) (λr e t=>Sum.elim (λa=>(λr e t=>e= .exit 0∧Ent t (mN [(6,.int r)] [] 0)) a e t) (λb=>(λr e t=>e= .ret∧mW TT [.tmp 4] (.int r) .ret t) b e t) r) (bP (bG k2) (bO k<|aQ) k4) ?_ ?_
 ·intro x1 o h;exact sQ<|sR<|am k k<|am k k<|cm k4<|an<|tn<|cN k h (λ_ h=>aG<|tn<|sQ<|aD<|sR<|am k k<|fp k8<|lp k8<|ae (fP k k) k<|aT k2<|sR<|am k k<|cm k4<|an<|tn<|cN k h (λ_ h=>sR<|aT k2<|aE<|bC<|aC<|aC<|sp h ⟨_,k,k,bD k k k (mY k)⟩) λ_ h=>aG<|bB<|tn<|rg<|am k k<|ae (bF k k) k<|aT k2<|sp h ⟨_,k,(bP (bG k2) (bO k<|aQ) k4)⟩) λ_ h=>aY<|aB<|aB<|sp h ⟨_,k,k,(bP (bG k2) aQ k4)⟩
 ·intro e t hX;rcases y5 with y6|y7
  ·obtain ⟨rfl,hent⟩:=hX;exact aN<|tn<|aI hent<|sR<|am k k<|aT k2<|aE<|rtI h k2
  ·obtain ⟨rfl,hent⟩:=hX;exact bC<|aC<|sp h hent
def wB (a1:(List Sc)) (x1:((List Int)×(List Mt)×Int)):Option (((List Int)×(List Mt)×Int) ⊕ ((List Int)×(List Mt))):=
 bif decide (x1.2.2<(a1.length:Int)) then
 ((cY a1 x1.2.2).bind λv4=>
 bif decide (x1.1.length+[(v4.basis.length:Int)].length ≤4294967296) then
 ((cY a1 x1.2.2).bind λv6=>
 (cY a1 x1.2.2).bind λv7=>
 (sW v6.size v7.basis).bind λv8=>
 (iA v8).bind λv9=>
 bif decide (x1.2.1.length+1≤4294967296) then
 (some (.inl ((x1.1++[(v4.basis.length:Int)]),(x1.2.1++[v9]),wr (x1.2.2+1))))
 else none)
 else none)
 else
 (some (.inr (x1.1,x1.2.1)))
def wC (v17:Mt) (v20:(List Int)) (x2:((List Mt)×Int)) (x3:((List Mt)×Int)) (x4:((List Mt)×Int)):Option (((List Mt)×Int) ⊕ (List Mt)):=
 (cY x4.1 x2.2).bind λv23=>
 bif decide (x4.2<v23.cols) then
 ((cY (x4.1.set x2.2.toNat v23) x2.2).bind λv25=>
 (cY v20 x3.2).bind λv26=>
 (cY v17.cells (wr ((wr (v26*v17.cols))+x4.2))).bind λv27=>
 (cY v25.cells (wr ((wr (x3.2*v25.cols))+x4.2))).bind λv28=>
 some (.inl (((x4.1.set x2.2.toNat v23).set x2.2.toNat (⟨v25.rows,v25.cols,(v25.cells.set ((wr ((wr (x3.2*v25.cols))+x4.2)).toNat) v27)⟩:Mt)),wr (x4.2+1))))
 else
 (some (.inr (x4.1.set x2.2.toNat v23)))
def wD (v17:Mt) (v20:(List Int)) (x2:((List Mt)×Int)) (x3:((List Mt)×Int)):Option (((List Mt)×Int) ⊕ (List Mt)):=
 (cY x3.1 x2.2).bind λv21=>
 bif decide (x3.2<v21.rows) then
 ((Lp (wC v17 v20 x2 x3) ((x3.1.set x2.2.toNat v21),0)).bind λy29=>
 some (.inl (y29,wr (x3.2+1))))
 else
 (some (.inr (x3.1.set x2.2.toNat v21)))
def wF (a0:Rp) (a1:(List Sc)) (y11:((List Int)×(List Mt))) (x2:((List Mt)×Int)):Option (((List Mt)×Int) ⊕ (List Mt)):=
 bif decide (x2.2<(a0.maps.length:Int)) then
 ((cY a0.maps x2.2).bind λv14=>
 (cY a0.q.src x2.2).bind λv15=>
 (cY y11.2 v15).bind λv16=>
 (gF a0.p v14 v16).bind λv17=>
 (cY a0.q.tgt x2.2).bind λv18=>
 (cY a1 v18).bind λv19=>
 (aAM v19).bind λv20=>
 (Lp (wD v17 v20 x2) (x2.1,0)).bind λy30=>
 some (.inl (y30,wr (x2.2+1))))
 else
 (some (.inr x2.1))
def xE (a0:Rp) (a1:(List Sc)):Option (Rp×(List Mt)×Bool):=
 (aBr a0 a1).bind λv1=>
 bif !v1 then
 (some (((⟨0,(⟨0,[],[]⟩:Qv),[],[]⟩:Rp),([]:(List Mt)),false)))
 else
 ((Lp (wB a1) (([]:(List Int)),([]:(List Mt)),0)).bind λy11=>
 (aAw a0.p a0.q y11.1).bind λv12=>
 (Lp (wF a0 a1 y11) (v12.maps,0)).bind λy31=>
 some (((⟨v12.p,v12.q,v12.dims,y31⟩:Rp),y11.2,true)))
theorem aFu (a0:Rp) (a1:(List Sc)) (r:(Rp×(List Mt)×Bool)) (h:xE a0 a1=some r):HasC Tryz.prog 156 [.agg (eR a0),.list 2 (a1.map eS)] (.tuple [.agg (eR r.1),.list 3 (r.2.1.map eM),.bl r.2.2]):=by
 refine aKT aJ (rvs:=[.cell 4 29,.tmp 5,.tmp 6]) (ns:=nmA) Tryz.func156 k k Tryz.ntmps156 k k k (λW=>?_);refine aEh<|rB<|rB<|jX (λw0_2 S0_2 r0_2=>?_);refine jX (λw0_3 S0_3 r0_3=>?_);refine jX (λw0_4 S0_4 r0_4=>?_);refine jX (λw0_5 S0_5 r0_5=>?_);refine uO<|aQZ (λw1_0 S1_0 r1_0=>?_);refine aEg<|sS<|se (wb k) k<|se (bX aJ k k) k<|jY k2<|jY k2<|sn<|tn<|sQ<|sS<|lpS k8<|gJ k2<|oB h λv1 hv1 h=>se (zH (aNe a0 a1 v1 hv1) k (fX (vrR k r0_2 r0_3 r0_4 r0_5) (wkD k r1_0 nA))) k<|se (dI k) k<|sn<|tn<|cN k h (λ_ h=>sS<|se (fW aJ k k k k k k) k<|se (wl k) k<|se (ws k) k<|jY k2<|jY k2<|sn<|tn<|aI (t:=mN [(4,.ptr 1 0 0),(5,.own 2 0 (([]:(List Mt)).length)),(6,.bl false)] [(1,⟨6,[nB]⟩),(2,⟨3,List.map (ow eM) ([]:(List Mt))⟩)] 3 ⟨0,true,zU W,true⟩) (bP (kT 1 k2 (gH ⟨_,k,⟨k,k,(by simp only [aH,lA,lT,lR,lC,lN]),k⟩⟩ (bG k2))) (bO k<|bW (aX.plainO _) k<|aQ) k4)<|aE<|aC<|sp h (bD k k k (cU k (bL (yU (aU (k) (aU (k) (aU (k) (aU (k) (aU (k) (aU (k) fA))))))) (bL (dL (cW aX k k)) (bL (k) eG)))))) λ_ h=>?_;refine aG<|tn<|sS<|se (wl k) k<|jY k2<|sn<|tn<|aI (t:=mN [(1,.sc w1_0),(2,.ptr 0 0 0),(4,.ptr 1 0 0),(7,.own 2 0 (([]:(List Int)).length))] [(0,⟨6,[[.int a0.p,.int a0.q.n,.sc w0_2,.sc w0_3,.sc w0_4,.sc w0_5]]⟩),(1,⟨6,[nB]⟩),(2,⟨1,List.map (ow eI) ([]:(List Int))⟩)] 3 ⟨0,true,zU W,true⟩) (bP (kT 3 k2 (gH ⟨_,k,⟨k,k,(by simp only [aH,lA,lT,lR,lC,lN]),k⟩⟩ aQ)) (bO k<|bO k<|bN k<|aQ) k4)<|sS<|se (wl k) k<|jY k2<|sn<|tn<|aI (t:=mN [(1,.sc w1_0),(2,.ptr 0 0 0),(4,.ptr 1 0 0),(7,.own 2 0 (([]:(List Int)).length)),(8,.own 3 0 (([]:(List Mt)).length))] [(0,⟨6,[[.int a0.p,.int a0.q.n,.sc w0_2,.sc w0_3,.sc w0_4,.sc w0_5]]⟩),(1,⟨6,[nB]⟩),(2,⟨1,List.map (ow eI) ([]:(List Int))⟩),(3,⟨3,List.map (ow eM) ([]:(List Mt))⟩)] 4 ⟨0,true,zU W,true⟩) (bP (kT 4 k2 (gH ⟨_,k,⟨k,k,(by simp only [aH,lA,lT,lR,lC,lN]),k⟩⟩ aQ)) (bO k<|bO k<|bN k<|bW (aX.plainO _) k<|aQ) k4)<|sQ<|sS<|jY k2<|sn<|tn<|aD<|oB h λy11 hy11 h=>cC (body:=(wB a1)) hy11 (λ(x1:((List Int)×(List Mt)×Int))=>mN [(1,.sc w1_0),(2,.ptr 0 0 0),(4,.ptr 1 0 0),(7,.own 2 0 x1.1.length),(8,.own 3 0 x1.2.1.length),(9,.int x1.2.2)] [(0,⟨6,[[.int a0.p,.int a0.q.n,.sc w0_2,.sc w0_3,.sc w0_4,.sc w0_5]]⟩),(1,⟨6,[nB]⟩),(2,⟨1,x1.1.map (ow eI)⟩),(3,⟨3,x1.2.1.map (ow eM)⟩)] 4 ⟨0,true,zU W,true⟩) (λr e t=>e= .exit 0∧Ent t (mN [(1,.sc w1_0),(2,.ptr 0 0 0),(4,.ptr 1 0 0),(7,.own 2 0 r.1.length),(8,.own 3 0 r.2.length)] [(0,⟨6,[[.int a0.p,.int a0.q.n,.sc w0_2,.sc w0_3,.sc w0_4,.sc w0_5]]⟩),(1,⟨6,[nB]⟩),(2,⟨1,r.1.map (ow eI)⟩),(3,⟨3,r.2.map (ow eM)⟩)] 4 ⟨0,true,zU W,true⟩)) (bP (bG k2) (bO k<|bO k<|bN k<|bW (aX.plainO _) k<|aQ) k4) ?_ ?_
 ·intro x1 o h;refine sQ<|sS<|gJ k2<|gJ k2<|se (aDW aJ r1_0 k k k) k<|cmS k4<|sn<|tn<|cN k h (λ_ h=>?_) λ_ h=>aY<|aB<|aB<|sp h ⟨_,k,k,(bP (bG k2) (bO k<|bO k<|bN k<|bW (aX.plainO _) k<|aQ) k4)⟩;refine aG<|tn<|sQ<|aD<|sS<|gJ k2<|gJ k2<|gJ k2<|oB h λv4 hv4 h=>se (xB aJ r1_0 hv4 k k k k k k) k<|se (aEv aJ (sX r1_0 (dF hv4)) k k k k k k) k<|aFM aJ [.list 1 (v4.basis.map (dQ 1 eI))] (aGQ (sX r1_0 (dF hv4)) 1) k k k k k k k k k<|jX (λwn5 Sn5 rn5=>?_);refine uO<|se (aDW aJ rn5 k k k) k<|se (wl k) k<|cG h λq5 h=>se (qV aJ (l:=x1.1) (m:=[(v4.basis.length:Int)]) kH q5 k k k k k k k k k k k k) k<|jY k2<|sn<|tn<|aP fB<|am k k<|am k k<|am k k<|oB h λv6 hv6 h=>ae (xB aJ r1_0 hv6 k k k k k k) k<|ae (aEv aJ (sX r1_0 (dF hv6)) k k k k k k) k<|ae (aPM aJ (aGQ (sX r1_0 (dF hv6)) 0) k k k k k k k) k<|am k k<|am k k<|oB h λv7 hv7 h=>ae (xB aJ r1_0 hv7 k k k k k k) k<|ae (aEv aJ (sX r1_0 (dF hv7)) k k k k k k) k<|aMe aJ [.list 1 (v7.basis.map (dQ 1 eI))] (aGQ (sX r1_0 (dF hv7)) 1) k k k k k k k k k<|jX (λwn6 Sn6 rn6=>?_);exact uO<|oB h λv8 hv8 h=>ae (cMK (aCz v6.size v7.basis v8 hv8) k3 (wkS k (wkD k rn6 nA))) k<|oB h λv9 hv9 h=>ae (cMK (rR v8 v9 hv9) k3 (fX (.inl (vaM k2)) nA)) k<|ae (wl k) k<|cG h λq10 h=>ae (fN aJ (l:=x1.2.1) (c:=[.int v9.rows,.int v9.cols,.own 7 0 v9.cells.length]) q10 k k k k k k k k k k k k k k) k<|aa k k<|an<|lL (by kernel_rfl)<|bB<|tn<|aI (t:=mN [(1,.sc w1_0),(2,.ptr 0 0 0),(4,.ptr 1 0 0),(7,.own 5 0 ((x1.1++[(v4.basis.length:Int)]).length)),(8,.own 9 0 ((x1.2.1++[v9]).length)),(9,.int x1.2.2)] [(0,⟨6,[[.int a0.p,.int a0.q.n,.sc w0_2,.sc w0_3,.sc w0_4,.sc w0_5]]⟩),(1,⟨6,[nB]⟩),(5,⟨1,List.map (ow eI) (x1.1++[(v4.basis.length:Int)])⟩),(9,⟨3,List.map (ow eM) (x1.2.1++[v9])⟩)] 10 ⟨0,true,zU W,true⟩) (Ent.trans (dJ (b:=9) (b':=7) (j:=2) (es':=v9.cells.map eI) k k k k (aH _ _) (cA.frzs _)) (bP (kT 4 k2 (gH ⟨_,k,⟨k,k,(by simp only [aH,lA,lT,lR,lC,lN]),k⟩⟩ (bG k2))) (bO k<|bO k<|bN k<|hX ⟨_,k,k,.inl ⟨fV v9 k,aX.plainO _⟩⟩ k<|aQ) k4))<|rgS<|gJ k2<|se (bF k k) k<|jY k2<|sn<|tn<|sp h ⟨_,k,(gT [0,1,5,9] (bG k2) (bO k<|bO k<|bN k<|bW (aX.plainO _) k<|aQ) k4)⟩
 ·rintro e t ⟨rfl,hent⟩;refine aN<|tn<|aI hent<|sS<|fpS k8<|lpS k8<|fpS k8<|lpS k8<|gJ k2<|oB h λv12 hv12 h=>se (cRK (aLd a0.p a0.q y11.1 v12 hv12) k3 (wkS k (fX (.inr (nK (aFI k k) (nK (aCu k r0_2) (nK (aCu k r0_3) aJa)))) (wkT k k nA)))) k<|se (bX aJ k k) k<|se (ws k) k<|sn<|tn<|sQ<|sS<|jY k2<|sn<|tn<|aD<|oB h λy31 hy31 h=>cC (body:=(wF a0 a1 y11)) hy31 (λ(x2:((List Mt)×Int))=>mN [(1,.sc w1_0),(2,.ptr 0 0 0),(4,.ptr 1 0 0),(8,.own 2 0 y11.2.length),(10,.ptr 3 0 0),(11,.int x2.2)] [(0,⟨6,[[.int a0.p,.int a0.q.n,.sc w0_2,.sc w0_3,.sc w0_4,.sc w0_5]]⟩),(1,⟨6,[nB]⟩),(2,⟨3,y11.2.map (ow eM)⟩),(3,⟨6,[[.int v12.p,.int v12.q.n,.own 4 0 v12.q.src.length,.own 5 0 v12.q.tgt.length,.own 6 0 v12.dims.length,.own 7 0 x2.1.length]]⟩),(4,⟨1,v12.q.src.map (ow eI)⟩),(5,⟨1,v12.q.tgt.map (ow eI)⟩),(6,⟨1,v12.dims.map (ow eI)⟩),(7,⟨3,x2.1.map (ow eM)⟩)] 8 ⟨0,true,zU W,true⟩) (λr e t=>e= .exit 2∧Ent t (mN [(4,.ptr 0 0 0),(8,.own 1 0 y11.2.length),(10,.ptr 2 0 0)] [(0,⟨6,[nB]⟩),(1,⟨3,y11.2.map (ow eM)⟩),(2,⟨6,[[.int v12.p,.int v12.q.n,.own 3 0 v12.q.src.length,.own 4 0 v12.q.tgt.length,.own 5 0 v12.dims.length,.own 6 0 r.length]]⟩),(3,⟨1,v12.q.src.map (ow eI)⟩),(4,⟨1,v12.q.tgt.map (ow eI)⟩),(5,⟨1,v12.dims.map (ow eI)⟩),(6,⟨3,r.map (ow eM)⟩)] 7 ⟨0,true,zU W,true⟩)) (gT [0,1,3,8,4,5,6,7] (bG k2) (bO k<|bO k<|bW (aX.plainO _) k<|eJ k<|bN k<|bN k<|bN k<|bW (aX.plainO _) k<|aQ) k4) ?_ ?_
  ·intro x2 o h;refine sQ<|sS<|gJ k2<|fpS k8<|lpS k8<|se (aDW aJ r0_5 k k k) k<|cmS k4<|sn<|tn<|cN k h (λ_ h=>?_) λ_ h=>aY<|aB<|aB<|sp h ⟨_,k,k,(gT [1,2,3,4,5,6,7] (bG k2) (bO k<|bW (aX.plainO _) k<|eJ k<|bN k<|bN k<|bN k<|bW (aX.plainO _) k<|aQ) k4)⟩;refine aG<|tn<|sQ<|aD<|sQ<|aP fB<|fp k8<|lp k8<|fp k8<|lp k8<|am k k<|oB h λv14 hv14 h=>ae (xB aJ r0_5 hv14 k k k k k k) k<|aMe aJ [.int v14.rows,.int v14.cols,.list 1 (v14.cells.map eI)] (sX r0_5 (dF hv14)) k k k k k k k k k<|rB<|rB<|jX (λwn11 Sn11 rn11=>?_);refine uO<|am k k<|fp k8<|fp k8<|lp k8<|am k k<|oB h λv15 hv15 h=>ae (xB aJ r0_2 hv15 k k k k k k) k<|ae (aGN aJ r0_2 (dF hv15) k k k k k k k) k<|oB h λv16 hv16 h=>ae (xo hv16 k) k<|ae (wp hv16 k) k<|oB h λv17 hv17 h=>ae (cMK (kB a0.p v14 v16 v17 hv17) k3 (wkS k (fX (.inr (nK (aFI k k) (nK (aFI k k) (nK (aCu k rn11) aJa)))) (fX (.inl (eV k)) nA)))) k<|ae (bX aJ k k) k<|ae (ws k) k<|an<|lL (by kernel_rfl)<|tn<|aI (t:=mN [(1,.sc w1_0),(2,.ptr 0 0 0),(4,.ptr 1 0 0),(8,.own 2 0 y11.2.length),(10,.ptr 3 0 0),(11,.int x2.2),(12,.ptr 9 0 0)] [(0,⟨6,[[.int a0.p,.int a0.q.n,.sc w0_2,.sc w0_3,.sc w0_4,.sc w0_5]]⟩),(1,⟨6,[nB]⟩),(2,⟨3,y11.2.map (ow eM)⟩),(3,⟨6,[[.int v12.p,.int v12.q.n,.own 4 0 v12.q.src.length,.own 5 0 v12.q.tgt.length,.own 6 0 v12.dims.length,.own 7 0 x2.1.length]]⟩),(4,⟨1,v12.q.src.map (ow eI)⟩),(5,⟨1,v12.q.tgt.map (ow eI)⟩),(6,⟨1,v12.dims.map (ow eI)⟩),(7,⟨3,x2.1.map (ow eM)⟩),(8,⟨1,v17.cells.map (ow eI)⟩),(9,⟨3,[oMt v17 8]⟩)] 10 ⟨0,true,zU W,true⟩) (bP (bG k2) (bO k<|bO k<|bW (aX.plainO _) k<|eJ k<|bN k<|bN k<|bN k<|bW (aX.plainO _) k<|bN k<|eJ k<|aQ) k4)<|sS<|gJ k2<|fpS k8<|fpS k8<|lpS k8<|gJ k2<|oB h λv18 hv18 h=>se (xB aJ r0_3 hv18 k k k k k k) k<|se (aGN aJ r0_3 (dF hv18) k k k k k k k) k<|oB h λv19 hv19 h=>se (xB aJ r1_0 hv19 k k k k k k) k<|aFM aJ [.int v19.size,.list 1 (v19.basis.map (dQ 1 eI))] (sX r1_0 (dF hv19)) k k k k k k k k k<|rB<|jX (λwn12 Sn12 rn12=>?_);refine uO<|oB h λv20 hv20 h=>se (cLK cA (aKy v19 v20 hv20) k3 (fX (.inr (nK (aFI k k) (nK (aCu k rn12) aJa))) nA)) k<|jY k2<|sn<|tn<|sS<|jY k2<|sn<|tn<|aD<|oB h λy30 hy30 h=>cC (body:=(wD v17 v20 x2)) hy30 (λ(x3:((List Mt)×Int))=>mN [(1,.sc w1_0),(2,.ptr 0 0 0),(4,.ptr 1 0 0),(8,.own 2 0 y11.2.length),(10,.ptr 3 0 0),(11,.int x2.2),(12,.ptr 8 0 0),(13,.own 10 0 v20.length),(14,.int x3.2)] [(0,⟨6,[[.int a0.p,.int a0.q.n,.sc w0_2,.sc w0_3,.sc w0_4,.sc w0_5]]⟩),(1,⟨6,[nB]⟩),(2,⟨3,y11.2.map (ow eM)⟩),(3,⟨6,[[.int v12.p,.int v12.q.n,.own 4 0 v12.q.src.length,.own 5 0 v12.q.tgt.length,.own 6 0 v12.dims.length,.own 7 0 x3.1.length]]⟩),(4,⟨1,v12.q.src.map (ow eI)⟩),(5,⟨1,v12.q.tgt.map (ow eI)⟩),(6,⟨1,v12.dims.map (ow eI)⟩),(7,⟨3,x3.1.map (ow eM)⟩),(8,⟨3,[oMt v17 9]⟩),(9,⟨1,v17.cells.map (ow eI)⟩),(10,⟨1,v20.map (ow eI)⟩)] 11 ⟨0,true,zU W,true⟩) (λr e t=>e= .exit 4∧Ent t (mN [(1,.sc w1_0),(2,.ptr 0 0 0),(4,.ptr 1 0 0),(8,.own 2 0 y11.2.length),(10,.ptr 3 0 0),(11,.int x2.2)] [(0,⟨6,[[.int a0.p,.int a0.q.n,.sc w0_2,.sc w0_3,.sc w0_4,.sc w0_5]]⟩),(1,⟨6,[nB]⟩),(2,⟨3,y11.2.map (ow eM)⟩),(3,⟨6,[[.int v12.p,.int v12.q.n,.own 4 0 v12.q.src.length,.own 5 0 v12.q.tgt.length,.own 6 0 v12.dims.length,.own 7 0 r.length]]⟩),(4,⟨1,v12.q.src.map (ow eI)⟩),(5,⟨1,v12.q.tgt.map (ow eI)⟩),(6,⟨1,v12.dims.map (ow eI)⟩),(7,⟨3,r.map (ow eM)⟩)] 8 ⟨0,true,zU W,true⟩)) (gT [0,1,2,3,4,5,6,7,9,8,10] (bG k2) (bO k<|bO k<|bW (aX.plainO _) k<|eJ k<|bN k<|bN k<|bN k<|bW (aX.plainO _) k<|eJ k<|bN k<|bN k<|aQ) k4) ?_ ?_
   ·intro x3 o h;refine sQ<|sS<|gJ k2<|fpS k8<|lpS k8<|gJ k2<|oB h λv21 hv21 h=>dS (t:=mN [(1,.sc w1_0),(2,.ptr 0 0 0),(4,.ptr 1 0 0),(8,.own 2 0 y11.2.length),(10,.ptr 3 0 0),(11,.int x2.2),(12,.ptr 8 0 0),(13,.own 10 0 v20.length),(14,.int x3.2),(94,.int x3.2),(95,.ptr 3 0 5),(96,.own 7 0 x3.1.length),(97,.int x2.2)] [(0,⟨6,[[.int a0.p,.int a0.q.n,.sc w0_2,.sc w0_3,.sc w0_4,.sc w0_5]]⟩),(1,⟨6,[nB]⟩),(2,⟨3,y11.2.map (ow eM)⟩),(3,⟨6,[[.int v12.p,.int v12.q.n,.own 4 0 v12.q.src.length,.own 5 0 v12.q.tgt.length,.own 6 0 v12.dims.length,.own 7 0 x3.1.length]]⟩),(4,⟨1,v12.q.src.map (ow eI)⟩),(5,⟨1,v12.q.tgt.map (ow eI)⟩),(6,⟨1,v12.dims.map (ow eI)⟩),(7,⟨3,(x3.1.map (ow eM)).set x2.2.toNat [.int v21.rows,.int v21.cols,.abs 1 (v21.cells.map eI)]⟩),(8,⟨3,[oMt v17 9]⟩),(9,⟨1,v17.cells.map (ow eI)⟩),(10,⟨1,v20.map (ow eI)⟩)] 11 ⟨0,true,zU W,true⟩) (bP (bG k2) (bO k<|bO k<|bW (aX.plainO _) k<|eJ k<|bN k<|bN k<|bN k<|hX ⟨_,k,k,.inl ⟨zW (dF hv21),vB aX k⟩⟩ k<|eJ k<|bN k<|bN k<|aQ) k4)<|dS (qE (b:=7) (c:=11) (i:=x2.2.toNat) (j:=2) (n:=v21.cells.length) (A:=x3.1.map (ow eM)) (fs:=v21.cells.map (ow eI)) (by rw [dC];exact eX hv21) k k k k (aH _ _) (dX _ _) (lU ⟨k,k,k,k,k,k,k,k,k,k,k,k,k,aQ⟩) (lW (skip:=[]) ⟨.inr (kR k),.inr (kR k),.inr (aX.df _ _),.inr (kR k),.inr (cA.df _ _),.inr (cA.df _ _),.inr (cA.df _ _),.inr (aX.dfS _ _ _ k),.inr (kR k),.inr (cA.df _ _),.inr (cA.df _ _),aQ⟩))<|dS (t:=mN [(1,.sc w1_0),(2,.ptr 0 0 0),(4,.ptr 1 0 0),(8,.own 2 0 y11.2.length),(10,.ptr 3 0 0),(11,.int x2.2),(12,.ptr 8 0 0),(13,.own 10 0 v20.length),(14,.int x3.2),(94,.int x3.2),(95,.ptr 3 0 5),(96,.own 7 0 x3.1.length),(97,.int x2.2)] [(0,⟨6,[[.int a0.p,.int a0.q.n,.sc w0_2,.sc w0_3,.sc w0_4,.sc w0_5]]⟩),(1,⟨6,[nB]⟩),(2,⟨3,y11.2.map (ow eM)⟩),(3,⟨6,[[.int v12.p,.int v12.q.n,.own 4 0 v12.q.src.length,.own 5 0 v12.q.tgt.length,.own 6 0 v12.dims.length,.own 7 0 x3.1.length]]⟩),(4,⟨1,v12.q.src.map (ow eI)⟩),(5,⟨1,v12.q.tgt.map (ow eI)⟩),(6,⟨1,v12.dims.map (ow eI)⟩),(7,⟨3,(x3.1.map (ow eM)).set x2.2.toNat [.int v21.rows,.int v21.cols,.own 11 0 v21.cells.length]⟩),(8,⟨3,[oMt v17 9]⟩),(9,⟨1,v17.cells.map (ow eI)⟩),(10,⟨1,v20.map (ow eI)⟩),(11,⟨1,v21.cells.map (ow eI)⟩)] 12 ⟨0,true,zU W,true⟩) (eY (σ:=sg [(0,0),(1,1),(2,2),(3,3),(4,4),(5,5),(6,6),(7,7),(8,8),(9,9),(10,10),(11,11)]) (bG k2) (bO k<|bO k<|bW (aX.plainO _) k<|eJ k<|bN k<|bN k<|bN k<|hX ⟨_,k,k,.inr (tF (σ:=sg [(0,0),(1,1),(2,2),(3,3),(4,4),(5,5),(6,6),(7,7),(8,8),(9,9),(10,10),(11,11)]) (m:=12) (e:=eM) (l:=x3.1) (i:=x2.2.toNat) (c:=[.int v21.rows,.int v21.cols,.own 11 0 v21.cells.length]) (d:=[.int v21.rows,.int v21.cols,.own 11 0 v21.cells.length]) aX ⟨_,_,k,k,⟨_,_,k,k,⟨_,_,k,⟨k,k,k,k⟩,k⟩⟩⟩)⟩ k<|eJ k<|bN k<|bN k<|bN k<|aQ) k)<|se (xo hv21 k) k<|fpS k8<|se (dK aJ k k k k (aBR (eX hv21)) k k) k<|cmS k4<|sn<|tn<|aI (t:=mN [(1,.sc w1_0),(2,.ptr 0 0 0),(4,.ptr 1 0 0),(8,.own 2 0 y11.2.length),(10,.ptr 3 0 0),(11,.int x2.2),(12,.ptr 8 0 0),(13,.own 10 0 v20.length),(14,.int x3.2),(101,.bl (decide (x3.2<v21.rows)))] [(0,⟨6,[[.int a0.p,.int a0.q.n,.sc w0_2,.sc w0_3,.sc w0_4,.sc w0_5]]⟩),(1,⟨6,[nB]⟩),(2,⟨3,y11.2.map (ow eM)⟩),(3,⟨6,[[.int v12.p,.int v12.q.n,.own 4 0 v12.q.src.length,.own 5 0 v12.q.tgt.length,.own 6 0 v12.dims.length,.own 7 0 ((x3.1.set x2.2.toNat v21).length)]]⟩),(4,⟨1,v12.q.src.map (ow eI)⟩),(5,⟨1,v12.q.tgt.map (ow eI)⟩),(6,⟨1,v12.dims.map (ow eI)⟩),(7,⟨3,List.map (ow eM) (x3.1.set x2.2.toNat v21)⟩),(8,⟨3,[oMt v17 9]⟩),(9,⟨1,v17.cells.map (ow eI)⟩),(10,⟨1,v20.map (ow eI)⟩)] 12 ⟨0,true,zU W,true⟩) (Ent.trans (qC (b:=7) (b':=11) (j:=2) (es':=v21.cells.map eI) (by rw [dC];exact eX hv21) k k k k (aH _ _) (cA.frzs _)) (bP (bG k2) (bO k<|bO k<|bW (aX.plainO _) k<|hX ⟨_,k,k,.inr ⟨_,_,k,⟨_,_,k,k,⟨_,_,k,k,⟨_,_,k,⟨k,k,k,k⟩,⟨_,_,k,⟨k,k,k,k⟩,⟨_,_,k,⟨k,k,k,k⟩,⟨_,_,k,⟨k,k,(by simp only [aH,lA,lT,lR,lC,lN]),k⟩,k⟩⟩⟩⟩⟩⟩,k⟩⟩ k<|bN k<|bN k<|bN k<|hX ⟨_,k,k,.inl ⟨aCF v21 k,aX.plainO _⟩⟩ k<|eJ k<|bN k<|bN k<|aQ) k4))<|cN k h (λ_ h=>?_) λ_ h=>aY<|aB<|aB<|sp h ⟨_,k,k,(bP (bG k2) (bO k<|bO k<|bW (aX.plainO _) k<|eJ k<|bN k<|bN k<|bN k<|bW (aX.plainO _) k<|aQ) k4)⟩;refine aG<|tn<|sQ<|aD<|sS<|jY k2<|sn<|tn<|aD<|oB h λy29 hy29 h=>cC (body:=(wC v17 v20 x2 x3)) hy29 (λ(x4:((List Mt)×Int))=>mN [(1,.sc w1_0),(2,.ptr 0 0 0),(4,.ptr 1 0 0),(8,.own 2 0 y11.2.length),(10,.ptr 3 0 0),(11,.int x2.2),(12,.ptr 8 0 0),(13,.own 10 0 v20.length),(14,.int x3.2),(15,.int x4.2)] [(0,⟨6,[[.int a0.p,.int a0.q.n,.sc w0_2,.sc w0_3,.sc w0_4,.sc w0_5]]⟩),(1,⟨6,[nB]⟩),(2,⟨3,y11.2.map (ow eM)⟩),(3,⟨6,[[.int v12.p,.int v12.q.n,.own 4 0 v12.q.src.length,.own 5 0 v12.q.tgt.length,.own 6 0 v12.dims.length,.own 7 0 x4.1.length]]⟩),(4,⟨1,v12.q.src.map (ow eI)⟩),(5,⟨1,v12.q.tgt.map (ow eI)⟩),(6,⟨1,v12.dims.map (ow eI)⟩),(7,⟨3,x4.1.map (ow eM)⟩),(8,⟨3,[oMt v17 9]⟩),(9,⟨1,v17.cells.map (ow eI)⟩),(10,⟨1,v20.map (ow eI)⟩)] 11 ⟨0,true,zU W,true⟩) (λr e t=>e= .exit 6∧Ent t (mN [(1,.sc w1_0),(2,.ptr 0 0 0),(4,.ptr 1 0 0),(8,.own 2 0 y11.2.length),(10,.ptr 3 0 0),(11,.int x2.2),(12,.ptr 8 0 0),(13,.own 10 0 v20.length),(14,.int x3.2)] [(0,⟨6,[[.int a0.p,.int a0.q.n,.sc w0_2,.sc w0_3,.sc w0_4,.sc w0_5]]⟩),(1,⟨6,[nB]⟩),(2,⟨3,y11.2.map (ow eM)⟩),(3,⟨6,[[.int v12.p,.int v12.q.n,.own 4 0 v12.q.src.length,.own 5 0 v12.q.tgt.length,.own 6 0 v12.dims.length,.own 7 0 r.length]]⟩),(4,⟨1,v12.q.src.map (ow eI)⟩),(5,⟨1,v12.q.tgt.map (ow eI)⟩),(6,⟨1,v12.dims.map (ow eI)⟩),(7,⟨3,r.map (ow eM)⟩),(8,⟨3,[oMt v17 9]⟩),(9,⟨1,v17.cells.map (ow eI)⟩),(10,⟨1,v20.map (ow eI)⟩)] 11 ⟨0,true,zU W,true⟩)) (bP (bG k2) (bO k<|bO k<|bW (aX.plainO _) k<|eJ k<|bN k<|bN k<|bN k<|bW (aX.plainO _) k<|eJ k<|bN k<|bN k<|aQ) k4) ?_ ?_
    ·intro x4 o h;refine sQ<|sS<|gJ k2<|fpS k8<|lpS k8<|gJ k2<|oB h λv23 hv23 h=>dS (t:=mN [(1,.sc w1_0),(2,.ptr 0 0 0),(4,.ptr 1 0 0),(8,.own 2 0 y11.2.length),(10,.ptr 3 0 0),(11,.int x2.2),(12,.ptr 8 0 0),(13,.own 10 0 v20.length),(14,.int x3.2),(15,.int x4.2),(104,.int x4.2),(105,.ptr 3 0 5),(106,.own 7 0 x4.1.length),(107,.int x2.2)] [(0,⟨6,[[.int a0.p,.int a0.q.n,.sc w0_2,.sc w0_3,.sc w0_4,.sc w0_5]]⟩),(1,⟨6,[nB]⟩),(2,⟨3,y11.2.map (ow eM)⟩),(3,⟨6,[[.int v12.p,.int v12.q.n,.own 4 0 v12.q.src.length,.own 5 0 v12.q.tgt.length,.own 6 0 v12.dims.length,.own 7 0 x4.1.length]]⟩),(4,⟨1,v12.q.src.map (ow eI)⟩),(5,⟨1,v12.q.tgt.map (ow eI)⟩),(6,⟨1,v12.dims.map (ow eI)⟩),(7,⟨3,(x4.1.map (ow eM)).set x2.2.toNat [.int v23.rows,.int v23.cols,.abs 1 (v23.cells.map eI)]⟩),(8,⟨3,[oMt v17 9]⟩),(9,⟨1,v17.cells.map (ow eI)⟩),(10,⟨1,v20.map (ow eI)⟩)] 11 ⟨0,true,zU W,true⟩) (bP (bG k2) (bO k<|bO k<|bW (aX.plainO _) k<|eJ k<|bN k<|bN k<|bN k<|hX ⟨_,k,k,.inl ⟨zW (dF hv23),vB aX k⟩⟩ k<|eJ k<|bN k<|bN k<|aQ) k4)<|dS (qE (b:=7) (c:=11) (i:=x2.2.toNat) (j:=2) (n:=v23.cells.length) (A:=x4.1.map (ow eM)) (fs:=v23.cells.map (ow eI)) (by rw [dC];exact eX hv23) k k k k (aH _ _) (dX _ _) (lU ⟨k,k,k,k,k,k,k,k,k,k,k,k,k,k,aQ⟩) (lW (skip:=[]) ⟨.inr (kR k),.inr (kR k),.inr (aX.df _ _),.inr (kR k),.inr (cA.df _ _),.inr (cA.df _ _),.inr (cA.df _ _),.inr (aX.dfS _ _ _ k),.inr (kR k),.inr (cA.df _ _),.inr (cA.df _ _),aQ⟩))<|dS (t:=mN [(1,.sc w1_0),(2,.ptr 0 0 0),(4,.ptr 1 0 0),(8,.own 2 0 y11.2.length),(10,.ptr 3 0 0),(11,.int x2.2),(12,.ptr 8 0 0),(13,.own 10 0 v20.length),(14,.int x3.2),(15,.int x4.2),(104,.int x4.2),(105,.ptr 3 0 5),(106,.own 7 0 x4.1.length),(107,.int x2.2)] [(0,⟨6,[[.int a0.p,.int a0.q.n,.sc w0_2,.sc w0_3,.sc w0_4,.sc w0_5]]⟩),(1,⟨6,[nB]⟩),(2,⟨3,y11.2.map (ow eM)⟩),(3,⟨6,[[.int v12.p,.int v12.q.n,.own 4 0 v12.q.src.length,.own 5 0 v12.q.tgt.length,.own 6 0 v12.dims.length,.own 7 0 x4.1.length]]⟩),(4,⟨1,v12.q.src.map (ow eI)⟩),(5,⟨1,v12.q.tgt.map (ow eI)⟩),(6,⟨1,v12.dims.map (ow eI)⟩),(7,⟨3,(x4.1.map (ow eM)).set x2.2.toNat [.int v23.rows,.int v23.cols,.own 11 0 v23.cells.length]⟩),(8,⟨3,[oMt v17 9]⟩),(9,⟨1,v17.cells.map (ow eI)⟩),(10,⟨1,v20.map (ow eI)⟩),(11,⟨1,v23.cells.map (ow eI)⟩)] 12 ⟨0,true,zU W,true⟩) (eY (σ:=sg [(0,0),(1,1),(2,2),(3,3),(4,4),(5,5),(6,6),(7,7),(8,8),(9,9),(10,10),(11,11)]) (bG k2) (bO k<|bO k<|bW (aX.plainO _) k<|eJ k<|bN k<|bN k<|bN k<|hX ⟨_,k,k,.inr (tF (σ:=sg [(0,0),(1,1),(2,2),(3,3),(4,4),(5,5),(6,6),(7,7),(8,8),(9,9),(10,10),(11,11)]) (m:=12) (e:=eM) (l:=x4.1) (i:=x2.2.toNat) (c:=[.int v23.rows,.int v23.cols,.own 11 0 v23.cells.length]) (d:=[.int v23.rows,.int v23.cols,.own 11 0 v23.cells.length]) aX ⟨_,_,k,k,⟨_,_,k,k,⟨_,_,k,⟨k,k,k,k⟩,k⟩⟩⟩)⟩ k<|eJ k<|bN k<|bN k<|bN k<|aQ) k)<|se (xo hv23 k) k<|fpS k8<|se (dK aJ k k k k (aBR (eX hv23)) k k) k<|cmS k4<|sn<|tn<|aI (t:=mN [(1,.sc w1_0),(2,.ptr 0 0 0),(4,.ptr 1 0 0),(8,.own 2 0 y11.2.length),(10,.ptr 3 0 0),(11,.int x2.2),(12,.ptr 8 0 0),(13,.own 10 0 v20.length),(14,.int x3.2),(15,.int x4.2),(111,.bl (decide (x4.2<v23.cols)))] [(0,⟨6,[[.int a0.p,.int a0.q.n,.sc w0_2,.sc w0_3,.sc w0_4,.sc w0_5]]⟩),(1,⟨6,[nB]⟩),(2,⟨3,y11.2.map (ow eM)⟩),(3,⟨6,[[.int v12.p,.int v12.q.n,.own 4 0 v12.q.src.length,.own 5 0 v12.q.tgt.length,.own 6 0 v12.dims.length,.own 7 0 ((x4.1.set x2.2.toNat v23).length)]]⟩),(4,⟨1,v12.q.src.map (ow eI)⟩),(5,⟨1,v12.q.tgt.map (ow eI)⟩),(6,⟨1,v12.dims.map (ow eI)⟩),(7,⟨3,List.map (ow eM) (x4.1.set x2.2.toNat v23)⟩),(8,⟨3,[oMt v17 9]⟩),(9,⟨1,v17.cells.map (ow eI)⟩),(10,⟨1,v20.map (ow eI)⟩)] 12 ⟨0,true,zU W,true⟩) (Ent.trans (qC (b:=7) (b':=11) (j:=2) (es':=v23.cells.map eI) (by rw [dC];exact eX hv23) k k k k (aH _ _) (cA.frzs _)) (bP (bG k2) (bO k<|bO k<|bW (aX.plainO _) k<|hX ⟨_,k,k,.inr ⟨_,_,k,⟨_,_,k,k,⟨_,_,k,k,⟨_,_,k,⟨k,k,k,k⟩,⟨_,_,k,⟨k,k,k,k⟩,⟨_,_,k,⟨k,k,k,k⟩,⟨_,_,k,⟨k,k,(by simp only [aH,lA,lT,lR,lC,lN]),k⟩,k⟩⟩⟩⟩⟩⟩,k⟩⟩ k<|bN k<|bN k<|bN k<|hX ⟨_,k,k,.inl ⟨aCF v23 k,aX.plainO _⟩⟩ k<|eJ k<|bN k<|bN k<|aQ) k4))<|cN k h (λ_ h=>?_) λ_ h=>aY<|aB<|aB<|sp h ⟨_,k,k,(bP (bG k2) (bO k<|bO k<|bW (aX.plainO _) k<|eJ k<|bN k<|bN k<|bN k<|bW (aX.plainO _) k<|eJ k<|bN k<|bN k<|aQ) k4)⟩;refine aG<|tn<|sQ<|aD<|oB h λv25 hv25 h=>aI (t:=mN [(1,.sc w1_0),(2,.ptr 0 0 0),(4,.ptr 1 0 0),(8,.own 2 0 y11.2.length),(10,.ptr 3 0 0),(11,.int x2.2),(12,.ptr 8 0 0),(13,.own 10 0 v20.length),(14,.int x3.2),(15,.int x4.2),(111,.bl (decide (x4.2<v23.cols)))] [(0,⟨6,[[.int a0.p,.int a0.q.n,.sc w0_2,.sc w0_3,.sc w0_4,.sc w0_5]]⟩),(1,⟨6,[nB]⟩),(2,⟨3,y11.2.map (ow eM)⟩),(3,⟨6,[[.int v12.p,.int v12.q.n,.own 4 0 v12.q.src.length,.own 5 0 v12.q.tgt.length,.own 6 0 v12.dims.length,.own 7 0 ((x4.1.set x2.2.toNat v23).length)]]⟩),(4,⟨1,v12.q.src.map (ow eI)⟩),(5,⟨1,v12.q.tgt.map (ow eI)⟩),(6,⟨1,v12.dims.map (ow eI)⟩),(7,⟨3,(List.map (ow eM) (x4.1.set x2.2.toNat v23)).set x2.2.toNat [.int v25.rows,.int v25.cols,.abs 1 (v25.cells.map eI)]⟩),(8,⟨3,[oMt v17 9]⟩),(9,⟨1,v17.cells.map (ow eI)⟩),(10,⟨1,v20.map (ow eI)⟩)] 12 ⟨0,true,zU W,true⟩) (bP (bG k2) (bO k<|bO k<|bW (aX.plainO _) k<|eJ k<|bN k<|bN k<|bN k<|hX ⟨_,k,k,.inl ⟨zW (dF hv25),vB aX k⟩⟩ k<|eJ k<|bN k<|bN k<|aQ) k4)<|aI (qE (b:=7) (c:=12) (i:=x2.2.toNat) (j:=2) (n:=v25.cells.length) (A:=List.map (ow eM) (x4.1.set x2.2.toNat v23)) (fs:=v25.cells.map (ow eI)) (by rw [dC];exact eX hv25) k k k k (aH _ _) (dX _ _) (lU ⟨k,k,k,k,k,k,k,k,k,k,k,aQ⟩) (lW (skip:=[]) ⟨.inr (kR k),.inr (kR k),.inr (aX.df _ _),.inr (kR k),.inr (cA.df _ _),.inr (cA.df _ _),.inr (cA.df _ _),.inr (aX.dfS _ _ _ k),.inr (kR k),.inr (cA.df _ _),.inr (cA.df _ _),aQ⟩))<|aI (t:=mN [(1,.sc w1_0),(2,.ptr 0 0 0),(4,.ptr 1 0 0),(8,.own 2 0 y11.2.length),(10,.ptr 3 0 0),(11,.int x2.2),(12,.ptr 8 0 0),(13,.own 10 0 v20.length),(14,.int x3.2),(15,.int x4.2),(111,.bl (decide (x4.2<v23.cols)))] [(0,⟨6,[[.int a0.p,.int a0.q.n,.sc w0_2,.sc w0_3,.sc w0_4,.sc w0_5]]⟩),(1,⟨6,[nB]⟩),(2,⟨3,y11.2.map (ow eM)⟩),(3,⟨6,[[.int v12.p,.int v12.q.n,.own 4 0 v12.q.src.length,.own 5 0 v12.q.tgt.length,.own 6 0 v12.dims.length,.own 7 0 ((x4.1.set x2.2.toNat v23).length)]]⟩),(4,⟨1,v12.q.src.map (ow eI)⟩),(5,⟨1,v12.q.tgt.map (ow eI)⟩),(6,⟨1,v12.dims.map (ow eI)⟩),(7,⟨3,(List.map (ow eM) (x4.1.set x2.2.toNat v23)).set x2.2.toNat [.int v25.rows,.int v25.cols,.own 12 0 v25.cells.length]⟩),(8,⟨3,[oMt v17 9]⟩),(9,⟨1,v17.cells.map (ow eI)⟩),(10,⟨1,v20.map (ow eI)⟩),(12,⟨1,v25.cells.map (ow eI)⟩)] 13 ⟨0,true,zU W,true⟩) (eY (σ:=sg [(0,0),(1,1),(2,2),(3,3),(4,4),(5,5),(6,6),(7,7),(8,8),(9,9),(10,10),(12,12)]) (bG k2) (bO k<|bO k<|bW (aX.plainO _) k<|eJ k<|bN k<|bN k<|bN k<|hX ⟨_,k,k,.inr (tF (σ:=sg [(0,0),(1,1),(2,2),(3,3),(4,4),(5,5),(6,6),(7,7),(8,8),(9,9),(10,10),(12,12)]) (m:=13) (e:=eM) (l:=(x4.1.set x2.2.toNat v23)) (i:=x2.2.toNat) (c:=[.int v25.rows,.int v25.cols,.own 12 0 v25.cells.length]) (d:=[.int v25.rows,.int v25.cols,.own 12 0 v25.cells.length]) aX ⟨_,_,k,k,⟨_,_,k,k,⟨_,_,k,⟨k,k,k,k⟩,k⟩⟩⟩)⟩ k<|eJ k<|bN k<|bN k<|bN k<|aQ) k)<|aP fB<|fp k8<|lp k8<|am k k<|ae (xo hv25 k) k<|fp k8<|ae (dK aJ k k k k (aBR (eX hv25)) k k) k<|am k k<|fp k8<|lp k8<|am k k<|ae (xo hv25 k) k<|fp k8<|ae (dK aJ k k k k (aBR (eX hv25)) k k) k<|ae (fP k k) k<|am k k<|ae (bF k k) k<|fp k8<|lp k8<|am k k<|am k k<|oB h λv26 hv26 h=>ae (xo hv26 k) k ?_;exact ae (wp hv26 k) k<|fp k8<|lp k8<|ae (fP k k) k<|am k k<|ae (bF k k) k<|oB h λv27 hv27 h=>ae (xo hv27 k) k<|ae (wp hv27 k) k<|oB h λv28 hv28 h=>ae (xo hv28 k) k<|ae (gL aJ kH (u:=v27) (dF hv28) k k k k k k) k<|an<|lL (by kernel_rfl)<|bB<|tn<|aI (t:=mN [(1,.sc w1_0),(2,.ptr 0 0 0),(4,.ptr 1 0 0),(8,.own 2 0 y11.2.length),(10,.ptr 3 0 0),(11,.int x2.2),(12,.ptr 8 0 0),(13,.own 10 0 v20.length),(14,.int x3.2),(15,.int x4.2)] [(0,⟨6,[[.int a0.p,.int a0.q.n,.sc w0_2,.sc w0_3,.sc w0_4,.sc w0_5]]⟩),(1,⟨6,[nB]⟩),(2,⟨3,y11.2.map (ow eM)⟩),(3,⟨6,[[.int v12.p,.int v12.q.n,.own 4 0 v12.q.src.length,.own 5 0 v12.q.tgt.length,.own 6 0 v12.dims.length,.own 7 0 (((x4.1.set x2.2.toNat v23).set x2.2.toNat (⟨v25.rows,v25.cols,(v25.cells.set ((wr ((wr (x3.2*v25.cols))+x4.2)).toNat) v27)⟩:Mt)).length)]]⟩),(4,⟨1,v12.q.src.map (ow eI)⟩),(5,⟨1,v12.q.tgt.map (ow eI)⟩),(6,⟨1,v12.dims.map (ow eI)⟩),(7,⟨3,List.map (ow eM) ((x4.1.set x2.2.toNat v23).set x2.2.toNat (⟨v25.rows,v25.cols,(v25.cells.set ((wr ((wr (x3.2*v25.cols))+x4.2)).toNat) v27)⟩:Mt))⟩),(8,⟨3,[oMt v17 9]⟩),(9,⟨1,v17.cells.map (ow eI)⟩),(10,⟨1,v20.map (ow eI)⟩)] 13 ⟨0,true,zU W,true⟩) (Ent.trans (qC (b:=7) (b':=12) (j:=2) (es':=List.map eI (v25.cells.set ((wr ((wr (x3.2*v25.cols))+x4.2)).toNat) v27)) (by rw [dC];exact eX hv25) k k k k (by simp only [aH,lA,lT,lR,lC,lN]) (cA.frzs _)) (bP (bG k2) (bO k<|bO k<|bW (aX.plainO _) k<|hX ⟨_,k,k,.inr ⟨_,_,k,⟨_,_,k,k,⟨_,_,k,k,⟨_,_,k,⟨k,k,k,k⟩,⟨_,_,k,⟨k,k,k,k⟩,⟨_,_,k,⟨k,k,k,k⟩,⟨_,_,k,⟨k,k,(by simp only [aH,lA,lT,lR,lC,lN]),k⟩,k⟩⟩⟩⟩⟩⟩,k⟩⟩ k<|bN k<|bN k<|bN k<|hX ⟨_,k,k,.inl ⟨aCF (⟨v25.rows,v25.cols,(v25.cells.set ((wr ((wr (x3.2*v25.cols))+x4.2)).toNat) v27)⟩:Mt) k,aX.plainO _⟩⟩ k<|eJ k<|bN k<|bN k<|aQ) k4))<|rgS<|gJ k2<|se (bF k k) k<|jY k2<|sn<|tn<|sp h ⟨_,k,(bP (bG k2) (bO k<|bO k<|bW (aX.plainO _) k<|eJ k<|bN k<|bN k<|bN k<|bW (aX.plainO _) k<|eJ k<|bN k<|bN k<|aQ) k4)⟩
    ·rintro e t ⟨rfl,hent⟩;exact aN<|bB<|tn<|aI hent<|rgS<|gJ k2<|se (bF k k) k<|jY k2<|sn<|tn<|sp h ⟨_,k,(bP (bG k2) (bO k<|bO k<|bW (aX.plainO _) k<|eJ k<|bN k<|bN k<|bN k<|bW (aX.plainO _) k<|eJ k<|bN k<|bN k<|aQ) k4)⟩
   ·rintro e t ⟨rfl,hent⟩;exact aN<|bB<|tn<|aI hent<|rgS<|gJ k2<|se (bF k k) k<|jY k2<|sn<|tn<|sp h ⟨_,k,(bP (bG k2) (bO k<|bO k<|bW (aX.plainO _) k<|eJ k<|bN k<|bN k<|bN k<|bW (aX.plainO _) k<|aQ) k4)⟩
  ·rintro e t ⟨rfl,hent⟩;exact aN<|tn<|aI hent<|sS<|lpS k8<|gJ k2<|se (ws k) k<|jY k2<|jY k2<|sn<|tn<|aE<|sp h (bD k k k (cU k (bL (yU (aU (k) (aU (k) (aU (cW cA k k) (aU (cW cA k k) (aU (cW cA k k) (aU (cW aX k k) fA))))))) (bL (dL (cW aX k k)) (bL (k) eG)))))
end
noncomputable section
theorem aUT {p x:Int} (hp:lP p=true) (hx:0≤x∧x<p):(wr (p - x)).tmod p=(-x) % p:=by
 have hb:=eZ hp;rw [dV (by omega),Int.tmod_eq_emod_of_nonneg (by omega),show p - x= -x+p*1 by omega,Int.add_mul_emod_self_left]
theorem aHI {p:Int} {m n:Nat} {F:Nat→Nat→Int} (T:Tb p m n F):xD p ⟨m,n,bY m n F⟩=some (aER p n (cD p m F n).1 (cD p m F n).2):=by
 have hn:=T.hn;have hN:=T.hN;have hm:=T.hm;have hin:=sF (by have:=eZ T.hp;omega:0<p) T.hi n;have hlen:= @qB p m F n;have hlen2:= @aAc p m F n;have hget:= @aMX p m F n;unfold xD;rw [aGy T,aA];simp only;generalize (cD p m F n).1=R at*;generalize (cD p m F n).2=L at*;rw [aQk hn (by omega),aA];have hfl:=aPE n L;rw [cO (s:=(([]:List (List Int)),(0:Int))) (r:=aER p n R L) (λk=>(((aBH n L).take k).map λk=>aEd p n R L k L.length,(k:Int))) (aBH n L).length (by rfl) (λk hk=>?_) (λ_=>?_),aA]
 ·have hf:=aPF (List.getElem_mem hk);have ef:(aBH n L)[k]?.getD 0=(aBH n L)[k]:=by rw [iC hk];rfl
  unfold vW;simp only;rw [dH,gA hk,aM,aKm hk,aA,ef,bH (by omega),bH (by omega:(n:Int)≤1048576),Bool.and_self,aM,eN,eN,cX (by simp;exact hf),aA];rw [cO (r:=aEd p n R L (aBH n L)[k] L.length) (λi=>(aEd p n R L (aBH n L)[k] i,(i:Int))) L.length (by rfl) (λi hi=>?_) (λ_=>?_),aA]
  ·rw [bH (by simp only [dC,List.length_take];omega),aM,bZ hk (by omega),aUO (f:=λk=>aEd p n R L k L.length) hk]
  ·have him:i<m:=by omega
   have b1:=hin i _ him hf;have hv:=hget hi;unfold vV;simp only;rw [dH,gA hi,aM,aKm hi,aA,aIm hN hm him,aA,wN hN him,aAC hN hm him];simp only [eN,Nat.add_sub_cancel_left];rw [bH (by omega),bH (by omega),Bool.and_self,aM,Nat.zero_add,lQ R him hf,aA,aSj T.hp,aM,cX (by rw [aCC];exact hv),aA,aUT T.hp b1,bZ hi (by omega)];rfl
  ·unfold vV;simp only;rw [dH,gN (bJ _),aR]
 ·unfold vW;simp only;rw [dH,gN (bJ _),aR,List.take_length];rfl
def jC (a b:Rp) (g:Nat→Int):List Mt:=(List.range a.dims.length).map λv=>(⟨dN b v,dN a v,fC (lV a b v) λy=>g (off (lV a b) v+y)⟩:Mt)
def vAt (x:List Int):Nat→Int:=λk=>x[k]?.getD 0
theorem aUU {l:Nat→Nat} {x:List Int} {k:Nat} (h:x.length=off l k):x=cat l (λv y=>vAt x (off l v+y)) k:=
 aEC h λi y hi hy=>by
  have:=nC hi hy;unfold vAt;rw [iC (by omega),jP]
theorem aPN {a b:Rp} {f g:Nat→Int} (h: ∀ k,k<nV a b→f k=g k):jC a b f=jC a b g:=by
 unfold jC;refine uJ λv hv=>?_;congr 1;exact jL λy hy=>h _ (nC (List.mem_range.1 hv) hy)
theorem aRt {n:Nat} {g:Nat→Int} {k:Nat} (h:k<n):vAt (fC n g) k=g k:=by simp [vAt,fC,h]
theorem aUV {a b:Rp} (h:Fit a b) {x:List Int} (hx:x.length=nV a b):sU ((List.range a.dims.length).map λv=>(⟨dN b v,dN a v,bY (dN b v) (dN a v) λ_ _=>0⟩:Mt)) x=some (jC a b (vAt x)):=by
 have n5:=h.ra.n5;have bV:=h.offV (bJ _);have:=aPB (k:=a.dims.length) (l:=lV a b) (r:=λv=>(dN b v:Int)) (c:=λv=>(dN a v:Int)) (z:=λv=>bY (dN b v) (dN a v) λ_ _=>0) (f:=λv y=>vAt x (off (lV a b) v+y)) (by omega) (by omega) (λv _=>dZ _ _ _);rw [←aUU hx] at this;exact this
theorem aPO {a b:Rp} (h:Fit a b) {x:List Int} (hx:x.length=nV a b):kK a b x=some (jC a b (vAt x)):=by
 have n5:=h.ra.n5;have bV:=h.offV (bJ _);have hV:nV a b≤80:=bV
 have e0: ∀ v,v<a.dims.length→(x.drop (off (lV a b) v)).take (lV a b v)=fC (lV a b v) λy=>vAt x (off (lV a b) v+y):=λv hv=>by
  have h1:=aPA (l:=lV a b) (f:=λv y=>vAt x (off (lV a b) v+y)) hv;rw [←aUU hx] at h1;exact h1
 unfold kK;rw [cO (r:=jC a b (vAt x)) (λk=>((List.range k).map (λv=>(⟨dN b v,dN a v,fC (lV a b v) λy=>vAt x (off (lV a b) v+y)⟩:Mt)),((off (lV a b) k:Nat):Int),(k:Int))) a.dims.length (by simp [off]) (λk hk=>?_) (λ_=>?_),aA]
 ·have hkb:k<b.dims.length:=by rw [h.ne];exact hk
  have ho:= @aEB (lV a b) (k+1) a.dims.length hk;have e:off (lV a b) (k+1)=off (lV a b) k+lV a b k:=rfl;unfold jK;simp only
  rw [gA hk,aM,iN 0 hk,aA,iN 0 hkb,aA,aA,aA,(h.ra.d k hk).1,(h.rb.d k hkb).1,h.lA hk,dV (x:=((off (lV a b) k:Nat):Int)+((lV a b k:Nat):Int)) (by omega),hx,
   bH (by omega),bH (by omega:((off (lV a b) k:Nat):Int)≤((off (lV a b) k:Nat):Int)+((lV a b k:Nat):Int)),bH (by unfold nV;omega:((off (lV a b) k:Nat):Int)+((lV a b k:Nat):Int)≤((nV a b:Nat):Int)),Bool.and_self,Bool.and_self,aM,
   show (((off (lV a b) k:Nat):Int)+((lV a b k:Nat):Int)).toNat - ((off (lV a b) k:Nat):Int).toNat=lV a b k by omega,eN,e0 k hk]
  have q2:decide (((List.range k).map λv=>(⟨dN b v,dN a v,fC (lV a b v) λy=>vAt x (off (lV a b) v+y)⟩:Mt)).length +1≤4294967296)=true:=bH (by simp only [dC,List.length_range];omega);have q1:decide (([]:List Int).length +(fC (lV a b k) λy=>vAt x (off (lV a b) k+y)).length ≤4294967296)=true:=bH (by rw [dY];simp only [List.length_nil];omega);rw [q1,aM,q2,aM,List.nil_append,bZ hk (by omega),jZ (f:=λv=>(⟨dN b v,dN a v,fC (lV a b v) λy=>vAt x (off (lV a b) v+y)⟩:Mt)),e];simp
 ·unfold jK;simp only;rw [gN (bJ _),aR];rfl
theorem aWh {α β:Type} {l:List α} {f:α→β} {body:List β×Int→Option ((List β×Int) ⊕ List β)} (hl:l.length≤4611686018427387904)
  (hs: ∀ (k:Nat) (hk:k<l.length) (o:List β),o.length=k→body (o,k)=some (.inl (o++[f l[k]],wr (k+1)))) (he: ∀ o,body (o,l.length)=some (.inr o)):Lp body ([],0)=some (l.map f):=by
 rw [cO (r:=l.map f) (λk=>((l.take k).map f,(k:Int))) l.length (by simp) (λk hk=>?_) (λ_=>?_)]
 ·rw [hs k hk _ (by simp;omega),bZ hk hl,zL hk,List.map_append];rfl
 ·rw [he,List.take_length]
def hmK (a b:Rp):List (List Int):=aER a.p (nV a b) (cD a.p (nE a b) (mE a b) (nV a b)).1 (cD a.p (nE a b) (mE a b) (nV a b)).2
def hmB (a b:Rp):List (List Mt):=(hmK a b).map λx=>jC a b (vAt x)
theorem aBs {a b:Rp} (h:Fit a b):(hmK a b).length=gW a b:=aKn h.ra.hp (aMW h)
theorem aNg {a b:Rp} (h:Fit a b) {x:List Int} (hx:x∈hmK a b):x.length=nV a b∧ ∀ z∈x,0≤z∧z<a.p:=by
 unfold hmK aER at hx;obtain ⟨k,_,rfl⟩:=List.mem_map.1 hx;exact ⟨aCC _ _ _ _ _ _,aNH h.ra.hp _ _ _ _ _⟩
theorem aPQ {a b:Rp} (h:Fit a b):yK a b=some (hmB a b):=by
 have hl:=aBs h;have hd:=aEE h;unfold yK;rw [aNb h,aA,aHI (aUN h),aA];show (Lp (mF a b (hmK a b)) ([],0)).bind _=_;rw [aWh (l:=hmK a b) (f:=λx=>jC a b (vAt x)) (by omega) (λk hk o ho=>?_) (λo=>?_)]
 ·rfl
 ·unfold mF;simp only;rw [gA hk,aM,cX hk,aA,aNY h,aA,aUV h (aNg h (List.getElem_mem hk)).1,aA,bH (by omega),aM]
 ·unfold mF;simp only;rw [gN (bJ _),aR]
theorem aPR {a b:Rp} (ha:bR a) (hb:bR b) (hf:aBN a b=true):kL a b=some (hmB a b,true):=by
 have h:=aCM hf;have hl:=aBs h;have hd:=aEE h;unfold kL;have hf':=hf;unfold aBN at hf';rw [aJg ha hb,aA,hf',dW,aR,aEq h,aA,aGL (aUN h),aA];show (Lp (hZ a b (hmK a b)) ([],0)).bind _=_;rw [aWh (l:=hmK a b) (f:=λx=>jC a b (vAt x)) (by omega) (λk hk o ho=>?_) (λo=>?_)]
 ·rfl
 ·unfold hZ;simp only;rw [gA hk,aM,cX hk,aA,aPO h (aNg h (List.getElem_mem hk)).1,aA,bH (by omega),aM]
 ·unfold hZ;simp only;rw [gN (bJ _),aR]
def dgN (P n c i:Nat):Nat:=c / P ^ (n - 1 - i) % P
def coF (a b:Rp) (c:Nat):Nat→Int:=λk=>sN (λi=>(dgN a.p.toNat (gW a b) c i:Int)*cI (hmK a b) i k) (gW a b) % a.p
theorem aFN {p:Int} (hp:lP p=true):((p.toNat:Nat):Int)=p∧2≤p.toNat∧p.toNat≤5:=by have:=eZ hp;omega
theorem aWi {p:Int} (hp:lP p=true) (n c i:Nat):0≤(dgN p.toNat n c i:Int)∧(dgN p.toNat n c i:Int)<p:=by
 have:=aFN hp;have h:=Nat.mod_lt (c / p.toNat ^ (n - 1 - i)) (show p.toNat>0 by omega);unfold dgN;omega
theorem aRu {a b:Rp} (h:Fit a b) {i k:Nat} (hi:i<gW a b) (hk:k<nV a b):0≤cI (hmK a b) i k∧cI (hmK a b) i k<a.p:=by
 have hl:=aBs h;have hm:=aNg h (List.getElem_mem (show i<(hmK a b).length by omega));have e:(hmK a b)[i]?.getD []=(hmK a b)[i]'(by omega):=by rw [iC (by omega),jP]
 unfold cI;rw [e,iC (by omega),jP];exact hm.2 _ (List.getElem_mem _)
theorem aHJ {l:List (List Int)} {i:Nat} (hi:i<l.length):vAt l[i]=cI l i:=by
 funext k;unfold vAt cI;rw [iC hi,jP]
theorem aRv {a b:Rp} (h:Fit a b) {i:Nat} (hi:i<gW a b):cY (hmB a b) (i:Int)=some (jC a b (cI (hmK a b) i)):=by
 have hl:=aBs h;unfold hmB;rw [cX (by rw [dC];omega),List.getElem_map,aHJ (by omega)]
theorem aQn {p:Int} (hp:lP p=true) {n c:Nat} (hn:n≤100) (hc:c≤1000000):yL p (n:Int) (c:Int)=some (fC n λi=>(dgN p.toNat n c i:Int)):=by
 obtain ⟨e,e2,e5⟩:=aFN hp;unfold yL;rw [bH (by omega),bH (by omega:(n:Int)≤1048576),Bool.and_self,aM,eN];rw [cO (r:=fC n λi=>(dgN p.toNat n c i:Int)) (λt=>(((c / p.toNat ^ t:Nat):Int),fC n (λi=>if n - t≤i then (dgN p.toNat n c i:Int) else 0),(n:Int) - 1 - t)) n ?_ (λt ht=>?_) (λ_=>?_),aA]
 ·rw [dV (by omega),aHu];simp only [Nat.pow_zero,Nat.div_one,Nat.sub_zero];congr 2
  ·exact jL λj hj=>by rw [aZ (by omega)]
  ·omega
 ·have ei:(n:Int) - 1 - (t:Int)=((n - 1 - t:Nat):Int):=by omega
  have hq:c / p.toNat ^ t≤c:=Nat.div_le_self _ _;have hq2:c / p.toNat ^ (t+1)≤c:=Nat.div_le_self _ _;unfold rY;simp only;rw [ei,bH (by omega),aM,aSj hp,aM,aCk _ (by omega),aA,aM,eN,Int.tmod_eq_emod_of_nonneg (Int.natCast_nonneg _),Int.tdiv_eq_ediv_of_nonneg (Int.natCast_nonneg _),aKf (by omega)]
  have e3:((c / p.toNat ^ t:Nat):Int) / p=((c / p.toNat ^ (t+1):Nat):Int):=by
   rw [Nat.pow_succ,←Nat.div_div_eq_div_mul];generalize c / p.toNat ^ t=q;rw [Int.natCast_ediv,e]
  have e4:((c / p.toNat ^ t:Nat):Int) % p=(dgN p.toNat n c (n - 1 - t):Int):=by
   unfold dgN;rw [show n - 1 - (n - 1 - t)=t by omega,Int.natCast_emod,e]
  rw [e3,e4,dV ⟨Int.le_trans (by decide) (Int.natCast_nonneg _),Int.le_trans (Int.ofNat_le.2 (Nat.le_trans hq2 hc)) (by decide)⟩,dV (by omega)];congr 4
  ·refine jL λj hj=>?_;by_cases e6:j=n - 1 - t
   ·rw [aW e6,aW (by omega),e6]
   ·rw [aZ e6];by_cases e7:n - t≤j
    ·rw [aW e7,aW (by omega)]
    ·rw [aZ e7,aZ (by omega)]
  ·omega
 ·unfold rY;simp only;rw [dU (by omega),aR];congr 2;exact jL λj hj=>by rw [aW (by omega)]
def paF (a b:Rp) (c t:Nat):Nat→Int:=λk=>sN (λi=>(dgN a.p.toNat (gW a b) c i:Int)*cI (hmK a b) i k) t % a.p
theorem aLA {α:Type} (n k:Nat) (f:Nat→α) (v:α):((List.range n).map f).set k v=(List.range n).map λi=>if i=k then v else f i:=by
 refine List.ext_getElem (by simp) λt h1 h2=>?_;rw [List.getElem_set,List.getElem_map,List.getElem_map,List.getElem_range];by_cases e:k=t
 ·rw [aW e,aW e.symm]
 ·rw [aZ e,aZ λh=>e h.symm]
theorem aMf (n:Nat) (f:Nat→Int):bY 1 n (λ_=>f)=fC n f:=by
 unfold bY fC;rw [Nat.one_mul];refine uJ λy hy=>?_;rw [Nat.mod_eq_of_lt (List.mem_range.1 hy)]
theorem aSu {p:Int} (hp:lP p=true) {n:Nat} (hn:n≤1048576) {f g:Nat→Int} {k:Int} (hk:0≤k∧k≤5) (hf: ∀ b,b<n→0≤f b∧f b<p) (hg: ∀ b,b<n→0≤g b∧g b<p):
  hU p (fC n f) 0 n k (fC n g)=some (fC n λb=>(f b+k*g b) % p):=by
 have:=aKZ (r:=1) (i:=0) hp hn (by omega) (F:=λ_=>f) hk hf hg;rw [Nat.zero_mul,aMf] at this;rw [this];congr 1;rw [←aMf];exact cH λi j hi hj=>by simp only [aKY];rw [aW (by omega)]
theorem aQo {a b:Rp} (h:Fit a b) {c:Nat} (hc:c≤1000000):yN a b (hmB a b) (c:Int)=some (jC a b (coF a b c)):=by
 have hl:=aBs h;have hd:=aEE h;have hp:=eZ h.ra.hp;have n5:=h.ra.n5;have bV:=h.offV (bJ _);have hV:nV a b≤80:=bV;unfold yN;have el:((hmB a b).length:Int)=(gW a b:Int):=by unfold hmB;rw [dC,hl]
 rw [el,aQn h.ra.hp (by omega) hc,aA];unfold aBY;rw [aNY h,aA];rw [cO (r:=jC a b (coF a b c)) (λi=>(jC a b (paF a b c i),(i:Int))) (gW a b) ?_ (λi hi=>?_) (λ_=>?_),aA,aA]
 ·unfold jC paF;congr 1
 ·have hdg:=aWi h.ra.hp (gW a b) c i;unfold sA;simp only;rw [show decide ((i:Int)<((hmB a b).length:Int))=true from bH (by rw [el];omega),aM,aRv h hi,aA];rw [cO (r:=jC a b (paF a b c (i+1))) (λv=>((List.range a.dims.length).map λw=>(⟨dN b w,dN a w,fC (lV a b w) λy=>paF a b c (if w<v then i+1 else i) (off (lV a b) w+y)⟩:Mt),(v:Int))) a.dims.length ?_ (λv hv=>?_) (λ_=>?_),aA,bZ hi (by omega)]
  ·congr 1
  ·have hlv:=h.lV hv;have hov: ∀ y,y<lV a b v→off (lV a b) v+y<nV a b:=λy hy=>nC hv hy;unfold rZ;simp only;rw [show decide ((v:Int)<((jC a b (cI (hmK a b) i)).length:Int))=true from bH (by unfold jC;simp;exact hv),aM];rw [show cY (jC a b (cI (hmK a b) i)) (v:Int)=some (⟨dN b v,dN a v,fC (lV a b v) λy=>cI (hmK a b) i (off (lV a b) v+y)⟩:Mt) from oD hv,aA,oD hv,aA,aCk _ hi,aA];simp only;rw [dY,aZ (Nat.lt_irrefl _),aSu (f:=λy=>paF a b c i (off (lV a b) v+y)) h.ra.hp (by omega) (by omega) (λy hy=>xX h.ra.hp) (λy hy=>aRu h hi (hov y hy)),aA,dY,bH rfl,aM,eN,aLA,bZ hv (by omega)];congr 3;refine uJ λw hw=>?_;by_cases e:w=v
   ·subst e;rw [aW rfl,aW (by omega)];congr 1;refine jL λy hy=>?_;unfold paF;rw [sN,Int.emod_add_emod]
   ·rw [aZ e];by_cases e2:w<v
    ·rw [aW e2,aW (by omega)]
    ·rw [aZ e2,aZ (by omega)]
  ·unfold rZ;simp only;rw [show decide ((a.dims.length:Int)<((jC a b (cI (hmK a b) i)).length:Int))=false from dU (by unfold jC;simp),aR];congr 2;unfold jC;refine uJ λw hw=>?_;rw [aW (List.mem_range.1 hw)]
 ·unfold sA;simp only;rw [show decide ((gW a b:Int)<((hmB a b).length:Int))=false from dU (by rw [el];omega),aR];rfl
theorem aRw (g:Nat→Int): ∀ n,sN g (n+1)=g 0+sN (λs=>g (s+1)) n
 |0=>by simp [sN]
 |n+1=>by rw [sN,aRw g n,sN];omega
theorem aUW: ∀ (n:Nat) (f:Nat→Int),sN (λs=>f (n - 1 - s)) n=sN f n
 |0,_=>rfl
 |n+1,f=>by
  have e:sN (λs=>f (n+1 - 1 - (s+1))) n=sN (λs=>f (n - 1 - s)) n:=dA λs hs=>by rw [show n+1 - 1 - (s+1)=n - 1 - s by omega]
  rw [aRw,e,aUW n f,sN,show n+1 - 1 - 0=n by omega];omega
theorem aSv {a b:Rp} (h:Fit a b) (g:Nat→Int):aAN (jC a b g)=some (fC (nV a b) g):=by
 have n5:=h.ra.n5;have bV:=h.offV (bJ _);unfold aAN;rw [cO (r:=fC (nV a b) g) (λk=>(cat (lV a b) (λv y=>g (off (lV a b) v+y)) k,(k:Int))) a.dims.length (by rfl) (λk hk=>?_) (λ_=>?_),aA]
 ·have h1:= @aEB (lV a b) (k+1) a.dims.length hk;have e:off (lV a b) (k+1)=off (lV a b) k+lV a b k:=rfl;unfold uB;simp only;rw [show decide ((k:Int)<((jC a b g).length:Int))=true from bH (by unfold jC;simp;exact hk),aM,show cY (jC a b g) (k:Int)=some (⟨dN b k,dN a k,fC (lV a b k) λy=>g (off (lV a b) k+y)⟩:Mt) from oD hk,aA];simp only;rw [iU,dY,bH (by omega),aM,bZ hk (by omega)];rfl
 ·unfold uB;simp only;rw [show decide ((a.dims.length:Int)<((jC a b g).length:Int))=false from dU (by unfold jC;simp),aR];congr 2;refine (aEC (dY _ _) λi y hi hy=>?_).symm;have hx:off (lV a b) i+y<off (lV a b) a.dims.length:=nC hi hy;unfold fC;rw [List.getElem?_map,List.getElem?_range hx];rfl
def suF (a b:Rp) (c t:Nat):Nat→Int:=λk=>sN (λs=>(dgN a.p.toNat (gW a b) c (gW a b - 1 - s):Int)*cI (hmK a b) (gW a b - 1 - s) k) t % a.p
theorem aWI (a b:Rp) (c k:Nat):suF a b c (gW a b) k=coF a b c k:=by
 unfold suF coF;rw [aUW (gW a b) λi=>(dgN a.p.toNat (gW a b) c i:Int)*cI (hmK a b) i k]
theorem aLB {a b:Rp} (h:Fit a b) {c:Nat} (hc:c≤1000000):lM a b (hmB a b) (c:Int)=some (jC a b (coF a b c)):=by
 have hl:=aBs h;have hd:=aEE h;have hp:=eZ h.ra.hp;obtain ⟨ep,ep2,ep5⟩:=aFN h.ra.hp;have n5:=h.ra.n5;have bV:=h.offV (bJ _);have hV:nV a b≤80:=bV;have el:((hmB a b).length:Int)=(gW a b:Int):=by unfold hmB;rw [dC,hl]
 unfold lM;rw [aMY h,aA,bH (by omega),bH (by omega:((nV a b:Nat):Int)≤1048576),Bool.and_self,aM,el,eN];rw [cO (r:=fC (nV a b) (coF a b c)) (λt=>(((c / a.p.toNat ^ t:Nat):Int),fC (nV a b) (suF a b c t),(gW a b:Int) - 1 - t)) (gW a b) ?_ (λt ht=>?_) (λ_=>?_),aA,aPO h (dY _ _),aA]
 ·congr 1;exact aPN λk hk=>aRt hk
 ·rw [dV (by omega),aHu];simp only [Nat.pow_zero,Nat.div_one];congr 2;omega
 ·have ei:(gW a b:Int) - 1 - (t:Int)=((gW a b - 1 - t:Nat):Int):=by omega
  have hi:gW a b - 1 - t<gW a b:=by omega
  have hq2:c / a.p.toNat ^ (t+1)≤c:=Nat.div_le_self _ _
  have hD:((c / a.p.toNat ^ t:Nat):Int).tmod a.p=(dgN a.p.toNat (gW a b) c (gW a b - 1 - t):Int):=by
   rw [Int.tmod_eq_emod_of_nonneg (Int.natCast_nonneg _)];unfold dgN;rw [show gW a b - 1 - (gW a b - 1 - t)=t by omega,Int.natCast_emod,ep]
  have e3:((c / a.p.toNat ^ t:Nat):Int).tdiv a.p=((c / a.p.toNat ^ (t+1):Nat):Int):=by
   rw [Int.tdiv_eq_ediv_of_nonneg (Int.natCast_nonneg _),Nat.pow_succ,←Nat.div_div_eq_div_mul];generalize c / a.p.toNat ^ t=q;rw [Int.natCast_ediv,ep]
  have hdg:=aWi h.ra.hp (gW a b) c (gW a b - 1 - t);unfold pS;simp only;rw [ei,bH (by omega),aM,aSj h.ra.hp,aM,aM,aRv h hi,aA,aSv h,aA];rw [cO (r:=fC (nV a b) (suF a b c (t+1))) (λj=>(fC (nV a b) (λk=>if k<j then suF a b c (t+1) k else suF a b c t k),(j:Int))) (nV a b) ?_ (λj hj=>?_) (λ_=>?_),aA,e3,dV ⟨Int.le_trans (by decide) (Int.natCast_nonneg _),Int.le_trans (Int.ofNat_le.2 (Nat.le_trans hq2 hc)) (by decide)⟩,dV (by omega)]
  ·congr 4;omega
  ·congr 1
  ·have hr:=aRu h hi hj;have hs:0≤suF a b c t j∧suF a b c t j<a.p:=xX h.ra.hp;have hm:=aLZ (a:=(dgN a.p.toNat (gW a b) c (gW a b - 1 - t):Int)) (b:=cI (hmK a b) (gW a b - 1 - t) j) (by omega) (by omega);unfold pR;simp only;rw [dY,gA hj,aM,aCk _ hj,aA,aCk _ hj,aA,hD];rw [aZ (Nat.lt_irrefl _)];generalize hM:(dgN a.p.toNat (gW a b) c (gW a b - 1 - t):Int)*cI (hmK a b) (gW a b - 1 - t) j=M at*;rw [dV (x:=M) (by omega),dV (by omega),aBm h.ra.hp (by omega),aA,aA,eN,aKf hj,bZ hj (by omega)];congr 3;refine jL λk hk=>?_;by_cases e:k=j
   ·subst e;rw [aW rfl,aW (by omega)];unfold suF;rw [sN,Int.emod_add_emod,hM]
   ·rw [aZ e];by_cases e2:k<j
    ·rw [aW e2,aW (by omega)]
    ·rw [aZ e2,aZ (by omega)]
  ·unfold pR;simp only;rw [dY,gN (bJ _),aR];congr 2;exact jL λk hk=>by rw [aW hk]
 ·unfold pS;simp only;rw [dU (by omega),aR];congr 2;exact jL λk hk=>aWI a b c k
def gM (a b:Rp) (g:Nat→Int) (v:Nat):Nat→Nat→Int:=λr k=>g (off (lV a b) v+(r*dN a v+k))
theorem aFO (a b:Rp) (g:Nat→Int):jC a b g=(List.range a.dims.length).map λv=>(⟨dN b v,dN a v,bY (dN b v) (dN a v) (gM a b g v)⟩:Mt):=by
 unfold jC;refine uJ λv hv=>?_;congr 1;exact aUL λy hy=>by unfold gM;rw [aBM]
def InG (a b:Rp) (g:Nat→Int):Prop:= ∀ k,k<nV a b→0≤g k∧g k<a.p
theorem InG.inP {a b:Rp} {g:Nat→Int} (hg:InG a b g) {v:Nat} (hv:v<a.dims.length):yT a.p (dN b v) (dN a v) (gM a b g v):=λr k hr hk=>hg _ (nC hv (aCf hr hk))
theorem aPS {a b:Rp} (h:Fit a b) (c:Nat):InG a b (coF a b c):=λk _=>xX h.ra.hp
theorem aAz (c x:Nat→Int) (u:Nat→Nat→Int) (N:Nat): ∀ n,sN (λt=>c t*sN (λq=>x q*u q t) N) n=sN (λq=>x q*sN (λt=>c t*u q t) n) N
 |0=>by
  rw [dA (f:=λq=>x q*sN (λt=>c t*u q t) 0) (g:=λ_=>0) (n:=N) λq _=>by simp [sN],aAs];rfl
 |n+1=>by
  rw [sN,aAz c x u N n,←aKh,←aKg];refine dA λq _=>?_;rw [sN,Int.mul_add,Int.mul_left_comm (c n)]
theorem aFP {p:Int} {n:Nat} {f x y:Nat→Int} (h: ∀ k,k<n→x k % p=y k % p):dt n f x % p=dt n f y % p:=by
 unfold dt;refine aMU λk hk=>?_;rw [Int.mul_emod,h k hk,←Int.mul_emod]
theorem aUX {p:Int} {f:Nat→Int} : ∀ {n:Nat},(∀ k,k<n→Z0 p (f k))→Z0 p (sN f n)
 |0,_=>by unfold Z0;simp [sN]
 |n+1,h=>aKi (aUX λk hk=>h k (by omega)) (h n (by omega))
theorem aNh {p:Int} {m n:Nat} {F:Nat→Nat→Int} {L:List Nat} (h:Red m n F L) {k:Nat} (hk:k<n) (hL: ∀ i,i<L.length→L[i]?.getD 0≠k): ∀ t,t≤L.length→ ∀ c,c<n→vAt (aEd p n F L k t) c % p=(if c=k then 1 else -(sN (λi=>if L[i]?.getD 0=c then F i k else 0) t)) % p
 |0,_,c,hc=>by
  unfold aEd vAt;rw [List.getElem?_set,List.length_replicate];by_cases e:c=k
  ·rw [aW e.symm,aW hk,aW e];rfl
  ·rw [aZ λh=>e h.symm,aZ e];simp [hc,sN]
 |t+1,ht,c,hc=>by
  have ih:=aNh (p:=p) h hk hL t (by omega) c hc;have hlt:=h.lt t (by omega);have hne:=hL t (by omega);unfold aEd vAt;rw [List.getElem?_set,aCC];by_cases e:L[t]?.getD 0=c
  ·rw [aW e,aW (by omega),jP,Int.emod_emod_of_dvd _ (Int.dvd_refl p),aZ (by omega),sN,aW e];rw [dA (g:=λ_=>0) λi hi=>?_,aAs,Int.zero_add];rw [aZ];intro e2;have:=h.inc i t hi (by omega);omega
  ·rw [aZ e];refine ih.trans ?_;rw [sN,aZ e,Int.add_zero]
theorem aUY {p:Int} (hp:lP p=true) {m n:Nat} {F:Nat→Nat→Int} (hi:yT p m n F) {x:List Int} (hx:x∈aER p n (cD p m F n).1 (cD p m F n).2):Kr p m n F (vAt x):=by
 have hR:=aCB hp hi n (bJ _);unfold aER at hx;obtain ⟨k,hk,rfl⟩:=List.mem_map.1 hx;have hk1:=aPF hk
 have hL: ∀ i,i<(cD p m F n).2.length→(cD p m F n).2[i]?.getD 0≠k:=by
  intro i hi e;have h2:=(List.mem_filter.1 hk).2;have h3:k∈(cD p m F n).2:=by rw [←e];exact jS 0 hi
  simp [h3] at h2
 refine (aBo hp hi _ n (bJ _)).1 λi him=>?_;have h1:=aHv (p:=p) hR hk1 hL i him;refine aBL (aFP λc hc=>?_) h1;exact (aNh hR hk1 hL _ (bJ _) c hc).symm
theorem aYF {a b:Rp} (h:Fit a b) (c:Nat):Kr a.p (nE a b) (nV a b) (mE a b) (coF a b c):=by
 intro i hi
 have e1:dt (nV a b) (mE a b i) (coF a b c) % a.p=dt (nV a b) (mE a b i) (λk=>sN (λj=>(dgN a.p.toNat (gW a b) c j:Int)*cI (hmK a b) j k) (gW a b)) % a.p:=
  aFP λk hk=>by unfold coF;exact Int.emod_emod_of_dvd _ (Int.dvd_refl _)
 refine aBL e1.symm ?_;unfold dt;rw [aAz (mE a b i) (λj=>(dgN a.p.toNat (gW a b) c j:Int)) (cI (hmK a b)) (gW a b) (nV a b)];refine aUX λj hj=>aCy _ ?_;have hl:=aBs h;have hm:=aUY h.ra.hp (aMW h) (List.getElem_mem (show j<(hmK a b).length by omega)) i hi;rw [aHJ (by omega)] at hm;exact hm
def uU (a b:Rp) (q:Nat):Nat→Nat→Nat→Int:=λv j l=>if off (lV a b) v+(j*dN a v+l)=q then 1 else 0
def dP (a b:Rp) (P:Nat→Nat→Nat→Int) (i r k:Nat):Int:=aCx (aF b i) (P (sV a i)) r k (dN b (sV a i)) - aCx (P (tV a i)) (aF a i) r k (dN a (tV a i))
theorem aXL {a b:Rp} (P:Nat→Nat→Nat→Int) (i r k:Nat):aKl a b P i r k=dP a b P i r k % a.p:=by
 unfold aKl dP iK;generalize aCx (aF b i) (P (sV a i)) r k (dN b (sV a i))=x;generalize aCx (P (tV a i)) (aF a i) r k (dN a (tV a i))=y;rw [show x % a.p+(a.p - 1)*(y % a.p)=(x % a.p - y % a.p)+a.p*(y % a.p) by rw [Int.sub_mul];omega,Int.add_mul_emod_self_left];exact (Int.sub_emod x y a.p).symm
theorem aUZ {a b:Rp} (x:Nat→Int) {v j l:Nat} (hv:v<a.dims.length) (hj:j<dN b v) (hl:l<dN a v):gM a b x v j l=sN (λq=>x q*uU a b q v j l) (nV a b):=by
 rw [aBW (n:=nV a b) (j:=off (lV a b) v+(j*dN a v+l)) (nC hv (aCf hj hl))]
 ·unfold uU gM;rw [aW rfl,Int.mul_one]
 ·intro q _ hq;unfold uU;rw [aZ λe=>hq e.symm,Int.mul_zero]
section
variable {a b:Rp} (h:Fit a b) {i r k:Nat} (hi:i<a.q.src.length) (hr:r<dN b (tV a i)) (hk:k<dN a (sV a i))
include h hi hr hk
theorem aXM (x:Nat→Int):dP a b (gM a b x) i r k=sN (λq=>x q*dP a b (uU a b q) i r k) (nV a b):=by
 have hs:=(h.ra.s i hi).2;have ht:=(h.ra.t i hi).2;unfold dP;simp only [aED]
 have e1:sN (λt=>aF b i r t*gM a b x (sV a i) t k) (dN b (sV a i))=sN (λq=>x q*sN (λt=>aF b i r t*uU a b q (sV a i) t k) (dN b (sV a i))) (nV a b):=by
  rw [←aAz (aF b i r) x (λq t=>uU a b q (sV a i) t k)];exact dA λt ht2=>by rw [aUZ x hs ht2 hk]
 have e2:sN (λt=>gM a b x (tV a i) r t*aF a i t k) (dN a (tV a i))=sN (λq=>x q*sN (λt=>uU a b q (tV a i) r t*aF a i t k) (dN a (tV a i))) (nV a b):=by
  have:=aAz (λt=>aF a i t k) x (λq t=>uU a b q (tV a i) r t) (nV a b) (dN a (tV a i));rw [dA (f:=λt=>gM a b x (tV a i) r t*aF a i t k) (g:=λt=>aF a i t k*sN (λq=>x q*uU a b q (tV a i) r t) (nV a b)) λt ht2=>by rw [aUZ x ht hr ht2,Int.mul_comm],this];exact dA λq _=>by rw [dA λt _=>Int.mul_comm _ _]
 rw [e1,e2];have e3: ∀ f g:Nat→Int,sN f (nV a b) - sN g (nV a b)=sN (λq=>f q+(-1)*g q) (nV a b):=λf g=>by rw [aKg,aKh];omega
 rw [e3];exact dA λq _=>by rw [Int.mul_sub];omega
theorem aWJ {q:Nat} (hq:q<nV a b):dP a b (uU a b q) i r k % a.p=mE a b (off (lE a b) i+(r*dN a (sV a i)+k)) q:=by
 obtain ⟨v0,z0,hv0,hz0,ek⟩:=aFL hq;have hs:=(h.ra.s i hi).2;have ht:=(h.ra.t i hi).2;have hc:=aPC h hv0 hz0 hi hr hk;have hy:r*dN a (sV a i)+k<lE a b i:=aCf hr hk
 have e: ∀ v j l,v<a.dims.length→j<dN b v→l<dN a v→uU a b q v j l=unP a v0 z0 v j l:=by
  intro v j l hv hj hl;unfold uU unP;rw [ek];by_cases e1:off (lV a b) v+(j*dN a v+l)=off (lV a b) v0+z0
  ·rw [aW e1];have:=aRl (l:=lV a b) (aCf hj hl) hz0 e1;rw [aW this]
  ·rw [aZ e1,aZ];rintro ⟨rfl,rfl⟩;exact e1 rfl
 have e2:dP a b (uU a b q) i r k=dP a b (unP a v0 z0) i r k:=by
  unfold dP;simp only [aED];rw [dA λt ht2=>by rw [e _ t k hs ht2 hk],dA (f:=λt=>uU a b q (tV a i) r t*aF a i t k) λt ht2=>by rw [e _ r t ht hr ht2]]
 rw [e2,←aXL,hc];unfold mE;rw [rP _ hi hy,jP,ek,rP _ hv0 hz0,jP];unfold Proofs.YtilpfdokmlanjaaGreat.e2;rw [aBy hk,aBz hk]
theorem aWj (c:Nat):iK a.p (dN b (sV a i)) (aF b i) (gM a b (coF a b c) (sV a i)) r k=iK a.p (dN a (tV a i)) (gM a b (coF a b c) (tV a i)) (aF a i) r k:=by
 have h1:=aXM h hi hr hk (coF a b c);have h2:=aYF h c (off (lE a b) i+(r*dN a (sV a i)+k)) (nC hi (aCf hr hk))
 have h3:dP a b (gM a b (coF a b c)) i r k % a.p=0:=by
  rw [h1];refine (aMU (g:=λq=>mE a b (off (lE a b) i+(r*dN a (sV a i)+k)) q*coF a b c q) λq hq=>?_).trans h2;rw [Int.mul_emod,aWJ h hi hr hk hq,Int.mul_comm (mE _ _ _ _),Int.mul_emod (coF a b c q) (mE a b _ q)];congr 2;exact (Int.emod_eq_of_lt (aMW h _ _ (nC hi (aCf hr hk)) hq).1 (aMW h _ _ (nC hi (aCf hr hk)) hq).2).symm
 unfold iK;exact Int.emod_eq_emod_iff_emod_sub_eq_zero.2 h3
end
theorem aMg {m:Mt} (h:bI m.cells):nU m m=some true:=by
 unfold bI at h;unfold nU;rw [bH rfl,bH rfl,bH rfl];simp only [dW,aR];rw [wL (n:=m.cells.length) (λ_=>true) false (by omega) (λk hk=>?_) (λ_=>?_),aA]
 ·rw [show (List.range m.cells.length).all (λ_=>true)=true by simp];rfl
 ·unfold kD;rw [gA hk,aM,cX hk,aA,aA,bH rfl];rfl
 ·unfold kD;rw [gN (bJ _),aR]
theorem aMh {p:Int} (hp:lP p=true) {r c:Nat} (hr:r≤8) (hc:c≤8) {F:Nat→Nat→Int} (hF:yT p r c F):aES p ⟨r,c,bY r c F⟩=true:=by
 have hb:=eZ hp;have h:=Nat.mul_le_mul hr hc;unfold aES;simp only [dZ];rw [aCs (by omega) (by omega),aCs (by omega) (by omega),aKI (by omega),bH (by omega),hp,bH (by omega)];simp only [Bool.true_and,List.all_eq_true];intro x hx;obtain ⟨t,ht,rfl⟩:=List.mem_map.1 hx;have ht:=List.mem_range.1 ht
 have hc0:0<c:=by
  rcases Nat.eq_zero_or_pos c with h0|h0
  ·subst h0;simp at ht
  ·exact h0
 have:=hF (t / c) (t % c) ((Nat.div_lt_iff_lt_mul hc0).2 ht) (Nat.mod_lt _ hc0);refine aCs this.1 ?_;rw [dV (by omega)];omega
section
variable {a b:Rp} (ha:bR a) (hb:bR b) (hf:aBN a b=true)
include ha hb hf
theorem aSw {g:Nat→Int} (hg:InG a b g):jO a b (jC a b g)=some true:=by
 have h:=aCM hf;have n5:=h.ra.n5;have hf':=hf;unfold aBN at hf';have hlen:(jC a b g).length=a.dims.length:=by simp [jC]
 unfold jO;rw [aJg ha hb,aA,hf',dW,aR,bH (by omega),dW,aR];rw [wL (n:=a.dims.length) (λ_=>true) false (by omega) (λv hv=>?_) (λ_=>?_),aA]
 ·rw [show (List.range a.dims.length).all (λ_=>true)=true by simp];rfl
 ·have hvb:v<b.dims.length:=by rw [h.ne];exact hv
  have d1:=(h.ra.d v hv);have d2:=(h.rb.d v hvb);have m4:=Nat.mul_le_mul d2.2 d1.2;unfold gV;rw [hlen,gA hv,aM,aFO,oD hv,aA,aDU _ ⟨by unfold bI;simp only;rw [dZ];omega,trivial⟩,aMh h.ra.hp (by omega) (by omega) (hg.inP hv),aA,dW,aR,aA,iN 0 hv,aA,d1.1,bH rfl,dW,aR,aA,iN 0 hvb,aA,d2.1,bH rfl];rfl
 ·unfold gV;rw [hlen,gN (bJ _),aR]
theorem aSx (c:Nat):fL a b (jC a b (coF a b c))=some true:=by
 have h:=aCM hf;have e6:=h.ra.e6;unfold fL;rw [aSw ha hb hf (aPS h c),aA,dW,aR];rw [wL (n:=a.maps.length) (λ_=>true) false (by have:=h.ra.ml;omega) (λi hi=>?_) (λ_=>?_),aA]
 ·rw [show (List.range a.maps.length).all (λ_=>true)=true by simp];rfl
 ·have hi':i<a.q.src.length:=by have:=h.ra.ml;omega
  have hib:i<b.q.src.length:=by rw [h.qe];exact hi'
  obtain ⟨s1,s2⟩:=h.ra.s i hi';obtain ⟨t1,t2⟩:=h.ra.t i hi';have s3:sV a i<b.dims.length:=by rw [h.ne];exact s2
  have t3:tV a i<b.dims.length:=by rw [h.ne];exact t2
  obtain ⟨m1,m2⟩:=h.ra.m i hi';obtain ⟨g1,g2⟩:=h.rb.m i hib;rw [h.sV,h.tV] at g1 g2;rw [h.pe] at g2;have da:=h.ra.d _ s2;have da2:=h.ra.d _ t2;have db:=h.rb.d _ s3;have db2:=h.rb.d _ t3;have hin:=aPS h c
  have e:bY (dN b (tV a i)) (dN a (sV a i)) (iK a.p (dN b (sV a i)) (aF b i) (gM a b (coF a b c) (sV a i)))=bY (dN b (tV a i)) (dN a (sV a i)) (iK a.p (dN a (tV a i)) (gM a b (coF a b c) (tV a i)) (aF a i)):=
   cH λr k hr hk=>aWj h hi' hr hk c
  have m4:=Nat.mul_le_mul db2.2 da.2;unfold iD;rw [gA hi,aM,aFO,iN ⟨0,0,[]⟩ (by rw [h.rb.ml];exact hib),aA,g1,iN 0 hi',aA,s1,oD s2,aA,nY h.ra.hp (sq db2.2 db.2) (sq db.2 da.2) (sq db2.2 da.2) (by omega) (by omega) (by omega) g2 (hin.inP s2),aA,iN 0 (by have:=h.ra.tl;omega),aA,t1,oD t2,aA,iN ⟨0,0,[]⟩ hi,aA,m1,nY h.ra.hp (sq db2.2 da2.2) (sq da2.2 da.2) (sq db2.2 da.2) (by omega) (by omega) (by omega) (hin.inP t2) m2,aA,e,aMg (by unfold bI;simp only;rw [dZ];omega),aA];rfl
 ·unfold iD;rw [gN (bJ _),aR]
end
def cnH (P:Nat):Nat→Nat
 |0=>1
 |k+1=>if cnH P k≤100000 then cnH P k*P else cnH P k
theorem aNi {P:Nat} (h5:P≤5): ∀ k,cnH P k≤500000
 |0=>by simp [cnH]
 |k+1=>by
  unfold cnH;split
  ·rename_i h;exact Nat.le_trans (Nat.mul_le_mul h h5) (by decide)
  ·exact aNi h5 k
theorem aLC {P:Nat} : ∀ {k n:Nat},k≤n→100000<cnH P k→cnH P n=cnH P k
 |k,0,h,_=>by rw [show k=0 by omega]
 |k,n+1,h,g=>by
  rcases eO n k with h'|h'
  ·rw [show k=n+1 by omega]
  ·have ih:=aLC h' g;show (if cnH P n≤100000 then cnH P n*P else cnH P n)=_;rw [aZ (by omega),ih]
theorem aEw {p:Int} (hp:lP p=true) {n:Nat} (hn:n≤1000):qR p (n:Int)=some (cnH p.toNat n:Int):=by
 obtain ⟨e,e2,e5⟩:=aFN hp
 have key: ∀ d k,k+d=n→Lp (jB p (n:Int)) ((cnH p.toNat k:Int),(k:Int))=some (cnH p.toNat n:Int):=by
  intro d;induction d with
  |zero=>
   intro k hk;rw [Nat.add_zero] at hk;subst hk;refine gS ?_;unfold jB;simp only;rw [gN (bJ _),aR]
  |succ d ih=>
   intro k hk;have hb:=aNi e5 k;by_cases h:cnH p.toNat k≤100000
   ·rw [←ih (k+1) (by omega)];refine qY ?_;unfold jB;simp only;rw [gA (by omega),aM,bH (by omega),aM]
    have e3:wr ((cnH p.toNat k:Int)*p)=(cnH p.toNat (k+1):Int):=by
     rw [show cnH p.toNat (k+1)=cnH p.toNat k*p.toNat from aW h,Int.natCast_mul,e];have:=aNi e5 (k+1);rw [show cnH p.toNat (k+1)=cnH p.toNat k*p.toNat from aW h] at this;have h2:((cnH p.toNat k*p.toNat:Nat):Int)=(cnH p.toNat k:Int)*p:=by rw [Int.natCast_mul,e]
     rw [dV (by rw [←h2];omega)]
    rw [e3,bZ (show k<n by omega) (by omega)]
   ·rw [aLC (show k≤n by omega) (by omega)];refine gS ?_;unfold jB;simp only;rw [gA (by omega),aM,dU (by omega),aR]
 unfold qR;have h0:=key n 0 (by omega);rw [show ((cnH p.toNat 0:Nat):Int)=1 from rfl,show ((0:Nat):Int)=0 from rfl] at h0;rw [h0,aA]
def cmI (a b:Rp):Int:=if cnH a.p.toNat (gW a b)≤100000 then (cnH a.p.toNat (gW a b):Int) else -2
theorem aNj {a b:Rp} (ha:bR a) (hb:bR b) (hf:aBN a b=true):mV a b=some (cmI a b):=by
 have h:=aCM hf;have hd:=aEE h;obtain ⟨e,e2,e5⟩:=aFN h.ra.hp
 have key: ∀ d k,k+d=gW a b→cnH a.p.toNat k≤100000→Lp (fY a (gW a b:Int)) ((cnH a.p.toNat k:Int),(k:Int))=some (if cnH a.p.toNat (gW a b)≤100000 then .inl (cnH a.p.toNat (gW a b):Int) else .inr (-2)):=by
  intro d;induction d with
  |zero=>
   intro k hk h1;rw [Nat.add_zero] at hk;rw [←hk,aW h1];refine gS ?_;unfold fY;simp only;rw [gN (bJ _),aR]
  |succ d ih=>
   intro k hk h1;have hb:=aNi e5 (k+1);have e4:cnH a.p.toNat (k+1)=cnH a.p.toNat k*a.p.toNat:=aW h1;have h2:((cnH a.p.toNat (k+1):Nat):Int)=(cnH a.p.toNat k:Int)*a.p:=by rw [e4,Int.natCast_mul,e]
   have e3:wr ((cnH a.p.toNat k:Int)*a.p)=(cnH a.p.toNat (k+1):Int):=by rw [←h2,dV (by omega)]
   by_cases h3:cnH a.p.toNat (k+1)≤100000
   ·rw [←ih (k+1) (by omega) h3];refine qY ?_;unfold fY;simp only;rw [gA (by omega),aM,e3,dU (by omega),aR,bZ (show k<gW a b by omega) (by omega)]
   ·rw [aZ (by rw [aLC (show k+1≤gW a b by omega) (by omega)];exact h3)];refine gS ?_;unfold fY;simp only;rw [gA (by omega),aM,e3,bH (by omega),aM]
 unfold mV;rw [aSm ha hb,aA];unfold hdI;rw [aW hf,dU (by omega),aR];have h0:=key (gW a b) 0 (by omega) (by simp [cnH]);rw [show ((cnH a.p.toNat 0:Nat):Int)=1 from rfl,show ((0:Nat):Int)=0 from rfl] at h0;rw [h0,aA];unfold cmI;by_cases h3:cnH a.p.toNat (gW a b)≤100000
 ·rw [aW h3,aW h3];rfl
 ·rw [aZ h3,aZ h3];rfl
def aAX (a b:Rp):Nat:=min (cnH a.p.toNat (gW a b)) 3000
end
noncomputable section
theorem aYG {a b:List (List Int)} (h:a.length≤1048576∧ ∀ m∈a,bI m):aAJ a b=some (decide (a=b)):=by
 obtain ⟨h,hb⟩:=h;unfold aAJ;rw [aCJ];by_cases e:a.length=b.length
 ·rw [bH e,dW,aR];refine aDT (by omega) e (λk h1 h2=>?_) ?_
  ·unfold tS;rw [gA h1,aM,cX h1,aA,cX h2,aA,aSc (hb _ (List.getElem_mem h1)),aA];cases decide (a[k]=b[k]) <;> rfl
  ·unfold tS;rw [gN (bJ _),aR]
 ·rw [dU e,Bool.not_false,aM,dU (by rintro rfl;exact e rfl)]
theorem aYr {a b:Sc} (h:bS a):aAK a b=some (decide (a=b)):=by
 unfold aAK;rw [jG (d:=decide (a.basis=b.basis)) (λ_=>?_)]
 ·cases a;cases b;simp
 ·rw [aYG h.1,aA,aJe]
theorem aYH {a b:List Sc} (h:a.length≤1048576∧ ∀ m∈a,bS m):yF a b=some (decide (a=b)):=by
 obtain ⟨h,hb⟩:=h;unfold yF;rw [aCJ];by_cases e:a.length=b.length
 ·rw [bH e,dW,aR];refine aDT (by omega) e (λk h1 h2=>?_) ?_
  ·unfold rT;rw [gA h1,aM,cX h1,aA,cX h2,aA,aYr (hb _ (List.getElem_mem h1)),aA];cases decide (a[k]=b[k]) <;> rfl
  ·unfold rT;rw [gN (bJ _),aR]
 ·rw [dU e,Bool.not_false,aM,dU (by rintro rfl;exact e rfl)]
end
noncomputable section
theorem aRx {l:List (List Int)} {n:Nat} (h: ∀ v∈l,v.length=n):l=(List.range l.length).map λi=>fC n (cI l i):=by
 refine List.ext_getElem (by simp) λi h1 h2=>?_;simp only [List.getElem_map,List.getElem_range];refine List.ext_getElem (by rw [dY];exact h _ (List.getElem_mem h1)) λj h3 h4=>?_;simp [fC,cI,h1,h3]
theorem aMi {l:List (List Int)} {n:Nat} (h: ∀ v∈l,v.length=n):l.flatten=bY l.length n (cI l):=by
 have e:l.flatten=((List.range l.length).map λi=>fC n (cI l i)).flatten:=by rw [←aRx h]
 rw [e,aHC]
theorem aNk {p:Int} (hp:lP p=true) {n:Nat} {l:List (List Int)} (hn:n≤1024) (hl:l.length≤512) (h:VecsP p n l):Tb p l.length n (cI l):=by
 refine ⟨hp,?_,by omega,by omega,h.inP⟩;have:=Nat.mul_le_mul hl hn;omega
theorem aPT {r c i:Nat} (hN:r*c≤1048576) (hr:r≤1048576) (hi:i<r) (F:Nat→Nat→Int):((bY r c F).drop (0+(i*c))).take ((i*c+c) - i*c)=fC c (F i):=by
 have h:= @aKX r c i hi;rw [Nat.succ_mul] at h;refine List.ext_getElem (by simp [dZ,dY];omega) λt h1 h2=>?_;rw [dY] at h2;rw [List.getElem_take,List.getElem_drop];simp [bY,fC,aBy h2,aBz h2]
theorem aFv (F:Nat→Nat→Int) (r n:Nat):gO F r n=(List.range r).map λi=>fC n (F i):=rfl
theorem aFw (F:Nat→Nat→Int) (r n:Nat):gO F r n++[fC n (F r)]=gO F (r+1) n:=by
 rw [aFv,aFv,List.range_succ,List.map_append];rfl
theorem aQp {n:Nat} {l:List (List Int)} (hn:n≤1024) (hl:l.length≤512) (h: ∀ v∈l,v.length=n):yA n l=some ⟨l.length,n,bY l.length n (cI l)⟩:=by
 unfold yA;rw [aUI hl (λv hv=>by rw [h v hv];exact hn),aA,aMi h]
theorem aLD {p:Int} (hp:lP p=true) {n:Nat} {l:List (List Int)} (hn:n≤1024) (hl:l.length≤512) (h:VecsP p n l):aBO p n l=some ⟨n,fZ p n l⟩:=by
 have T:=aNk hp hn hl h;have hL:= @qB p l.length (cI l) n;have h1:=T.hN;unfold aBO;rw [aQp hn hl (λv hv=>(h v hv).1),aA,aGy T,aA];rw [cO (r:=fZ p n l) (λk=>(gO (cD p l.length (cI l) n).1 k n,(k:Int))) (cD p l.length (cI l) n).2.length (by simp [gO]) (λk hk=>?_) (λ_=>?_),aA]
 ·have hkl:k<l.length:=by omega
  have h3:= @aKX l.length n k hkl;rw [Nat.succ_mul] at h3;unfold aAF;simp only;rw [dH,gA hk,aM,aIm T.hN T.hm hkl,aA,wN T.hN hkl,aAC T.hN T.hm hkl];simp only [eN];rw [aPT T.hN T.hm hkl];unfold pG;rw [dY,bH (by omega),aM,aA,qZ,bH (by omega),aM,aFw,bZ hk (by omega)]
 ·unfold aAF;simp only;rw [dH,gN (bJ _),aR];rfl
theorem aLE {n:Nat} {l:List (List Int)} (hn:n≤1024) (hl:l.length≤512) (h: ∀ v∈l,v.length=n):sW n l=some ⟨l.length,n,bY l.length n (cI l)⟩:=by
 have hb: ∀ k,(l.take k).flatten.length ≤1024*512:=λk=>by
  have:=aMT (l:=l.take k) λx hx=>by rw [h x (List.mem_of_mem_take hx)];exact hn
  have h2:(l.take k).length ≤512:=by simp;omega
  omega
 unfold sW;rw [cO (r:=l.flatten) (λk=>((l.take k).flatten,(k:Int))) l.length (by simp) (λk hk=>?_) (λ_=>?_),aA,aMi h]
 ·unfold vN;simp only;have e2:=hb (k+1);rw [aBt hk,List.length_append] at e2;rw [gA hk,aM,cX hk,aA,bH (by omega),aM,bZ hk (by omega),aBt hk]
 ·unfold vN;simp only;rw [gN (bJ _),aR,List.take_length]
theorem aMj {p:Int} {m n:Nat} {F:Nat→Nat→Int} (T:Tb p m n F):uS p ⟨m,n,bY m n F⟩=some (gO (cD p m F n).1 (cD p m F n).2.length n):=by
 have hL:= @qB p m F n;have hm:=T.hm;have hn:=T.hn;unfold uS;rw [aDz T,aA];rw [cO (r:=gO (cD p m F n).1 (cD p m F n).2.length n) (λk=>(gO (cD p m F n).1 k n,(k:Int))) (cD p m F n).2.length (by simp [gO]) (λk hk=>?_) (λ_=>?_),aA]
 ·have hkl:k<m:=by omega
  have h3:= @aKX m n k hkl;rw [Nat.succ_mul] at h3;have h4:=T.hN;have e:wr (wr ((k:Int)*(n:Int))+(n:Int))=((k*n+n:Nat):Int):=by rw [wN T.hN hkl,dV (by omega)];omega
  unfold tP;simp only;rw [dH,gA hk,aM,e,wN T.hN hkl,dZ,bH (by omega),bH (by omega:((k*n:Nat):Int)≤((k*n+n:Nat):Int)),bH (by omega:((k*n+n:Nat):Int)≤((m*n:Nat):Int))];simp only [eN,Bool.and_self,aM,aPT T.hN T.hm hkl];rw [dY,bH (by simp;omega),aM,qZ,bH (by omega),aM,List.nil_append,aFw,bZ hk (by omega)]
 ·unfold tP;simp only;rw [dH,gN (bJ _),aR]
theorem aHK {p:Int} (hp:lP p=true) {n:Nat} {l:List (List Int)} (hn:n≤1024) (hl:l.length≤512) (h:VecsP p n l):pB p n l=some ⟨n,fZ p n l⟩:=by
 unfold pB;rw [aLE hn hl (λv hv=>(h v hv).1),aA,aMj (aNk hp hn hl h),aA];rfl
def bLs (l:List (List Int)):Prop:=l.length≤1048576∧ ∀ v∈l,bI v
theorem aUa (p:Int) (v:List Int):(lP p&&decide (v.length≤64)&&v.all λx=>inR x 0 (wr (p - 1)))=aHi p v:=by
 unfold aHi;cases h:lP p with
 |false=>rfl
 |true=>rw [dV (by have:=eZ h;omega)]
theorem aWK (p size:Int) (l:List (List Int)):aIf p size l=(lP p&&inR size 0 8&&decide (l.length≤16)&&l.all λv=>decide ((v.length:Int)=size)&&aHi p v):=rfl
theorem aXN {p:Int} {n:Nat} {l:List (List Int)} (hl:l.length≤1048576) (hn:n≤1048576) (h:VecsP p n l):bLs l:=⟨hl,λv hv=>by unfold bI;rw [(h v hv).1];exact hn⟩
theorem aUb {p:Int} (hp:lP p=true) {n:Nat} {l:List (List Int)} (hn:n≤1048576) (h:VecsP p n l):bLs (fZ p n l):=aXN (by have:=(@aEc p n l).1;omega) hn (aAd hp h.inP)
theorem aUc (p n:Int) {l:List (List Int)} (h:bLs l):aAv p n l=some (aIf p n l):=by
 unfold aAv;have hall:=aDI ([]:List Int) l (λv=>decide ((v.length:Int)=n)&&aHi p v);have hb:=h.1;rw [wL (λk=>decide ((((l[k]?.getD []).length:Nat):Int)=n)&&aHi p (l[k]?.getD [])) false (n:=l.length) (by omega) (λk hk=>?_) (λ_=>?_),aA,hall,aWK]
 ·cases l.all λv=>decide ((v.length:Int)=n)&&aHi p v with
  |false=>simp
  |true=>
   simp only [aM,Sum.elim_inl];rw [aJf,aA,aCw,aA,Bool.and_true,Bool.and_assoc];refine kE λ_=>?_;refine kE λ_=>?_;congr 1;rw [Bool.eq_iff_iff,lD,lD];omega
 ·unfold vO;rw [gA hk,aM,iN [] hk,aA,aA,aHt p (h.2 _ (jS [] hk)),aA,aUa];cases decide ((((l[k]?.getD []).length:Nat):Int)=n) <;> cases aHi p (l[k]?.getD []) <;> rfl
 ·unfold vO;rw [gN (bJ _),aR]
theorem aPU {a b:List (List Int)} (h:bLs a):wZ a b=some (decide (a=b)):=by
 obtain ⟨h,hb⟩:=h;unfold wZ;rw [aCJ];by_cases e:a.length=b.length
 ·rw [bH e,dW,aR];refine aDT (by omega) e (λk h1 h2=>?_) ?_
  ·have hbk:=hb _ (List.getElem_mem h1);unfold bI at hbk;unfold vP;rw [gA h1,aM,cX h1,aA,cX h2,aA,aCJ];by_cases e2:a[k].length=b[k].length
   ·rw [bH e2,dW,aR];have h3:=wL (body:=qK a b k) (λj=>decide (a[k][j]?.getD 0=b[k][j]?.getD 0)) false (n:=a[k].length) (by omega) (λj hj=>?_) ?_
    ·rw [h3,aOb e2,aA];cases decide (a[k]=b[k]) <;> rfl
    ·unfold qK;rw [cX h1,aA,gA hj,aM,aA,iN 0 hj,aA,cX h2,aA,iN 0 (e2▸hj),aA];cases decide (a[k][j]?.getD 0=b[k][j]?.getD 0) <;> rfl
    ·intro _;unfold qK;rw [cX h1,aA,gN (bJ _),aR]
   ·rw [dU e2,Bool.not_false,aM,dU (λe3=>e2 (by rw [e3])),aR]
  ·unfold vP;rw [gN (bJ _),aR]
 ·rw [dU e,Bool.not_false,aM,dU (by rintro rfl;exact e rfl)]
theorem aBA (p:Int) {s:Sc} (h:bS s):mD p s=some (aBQ p s.size s.basis):=by
 unfold mD aBQ;rw [aUc p s.size h.1,aA];cases hf:aIf p s.size s.basis with
 |false=>rfl
 |true=>
  obtain ⟨hp,n,e,hn,hl,hv⟩:=aIg hf;rw [dW,aR,e,aLE (by omega) (by omega) (λv hv'=>(hv v hv').1),aA,aMj (aNk hp (by omega) (by omega) hv),aA,show gO (cD p s.basis.length (cI s.basis) n).1 (cD p s.basis.length (cI s.basis) n).2.length n=fZ p n s.basis from rfl,aPU (aUb hp (by omega) hv),aA];simp
end
end Go.Proofs.YtilpfdokmlanjaaGreat

/-
  Several texts of the claim in one.
-/
import Derived.Laws.BytesString
import Derived.Test.YtilpfdokmlanjaaGreatH13
set_option linter.unusedVariables false
set_option linter.unusedSimpArgs false
namespace Go.Proofs.YtilpfdokmlanjaaGreat
open Go.RowKit
noncomputable section
theorem aPa {s:AState} {b b' i j n k':Nat} {blk:Blk} {cs:List AV} {es':List (List AV)} (hb:s.heap b=some blk) (hi:blk.es[i]? =some cs) (hj:cs[j]? =some (.own b' 0 n)) (hne:Nat.beq b b'=false) (hv:view1 s.heap (.own b' 0 n) (.list k' es')):
  Ent s ⟨s.env,bD [(b',none),(b,some ⟨blk.k,blk.es.set i (cs.take j++[.list k' es']++cs.drop (j+1))⟩)] s.heap,s.used,s.ns,s.kp⟩:=by
 have hjl:j<cs.length:=by
  rcases dR j cs.length with h'|h'
  ·exact h'
  ·rw [gF h'] at hj;cases hj
 intro C ν a w hs;have hne':b≠b':=by rintro rfl;simp at hne
 obtain ⟨φ,hh⟩:=hs.heap;obtain ⟨hub,⟨hk1,hx1⟩,hnd1,hB1⟩:=hh.blk b blk hb;have hcs:=hk1 cs (List.mem_of_getElem? hi);rcases hx1 with ⟨q1,q2,_⟩|⟨β,c,arr,ty,T,vs,q1,q2,q3,q4,q5,q6,q7,q8⟩
 ·rw [q2] at hi;simp at hi
 ·have hext:Ext w s.heap s.used ν w (bD [(b',none),(b,some ⟨blk.k,blk.es.set i (cs.take j++[.list k' es']++cs.drop (j+1))⟩)] s.heap) s.used ν:=by
   refine ⟨λ_ h=>h,λb2 blk2 _ hb2=>?_,λx hx hfr=>⟨rfl,λb2 blk2 β2 c2 hb2 hν2=>?_⟩,rfl⟩
   ·simp only [bD] at hb2;by_cases e:b2=b'
    ·subst e;rw [cC] at hb2;cases hb2
    ·rw [cD e] at hb2;by_cases e2:b2=b
     ·subst e2;simp only [aX,cC,aH,Option.some.injEq] at hb2;subst hb2;exact ⟨blk,hb,rfl,by simp,rfl⟩
     ·rw [cD e2] at hb2;exact ⟨blk2,hb2,rfl,rfl,rfl⟩
   ·simp only [bD] at hb2;by_cases e:b2=b'
    ·subst e;rw [cC] at hb2;cases hb2
    ·rw [cD e] at hb2;by_cases e2:b2=b
     ·subst e2;exact hfr b2 blk β2 c2 hb hν2
     ·rw [cD e2] at hb2;exact hfr b2 blk2 β2 c2 hb2 hν2
  have hdrop:blk.es.flatten.drop (i*blk.k+j)= .own b' 0 n::blk.es.flatten.drop (i*blk.k+j+1):=by
   obtain ⟨r,hr⟩:=vQ hk1 hi;have h1:blk.es.flatten.drop (i*blk.k+j)=(cs++r).drop j:=by rw [←hr,List.drop_drop]
   have h2:blk.es.flatten.drop (i*blk.k+j+1)=(cs++r).drop (j+1):=by rw [←hr,List.drop_drop,Nat.add_assoc]
   rw [h1,h2,List.drop_append_of_le_length (by omega),List.drop_append_of_le_length (by omega),List.drop_eq_getElem_cons hjl];have:cs[j]= .own b' 0 n:=by simpa [hjl] using hj
   rw [this];rfl
  have hfl:blk.es.flatten=blk.es.flatten.take (i*blk.k+j)++([.own b' 0 n]++blk.es.flatten.drop (i*blk.k+j+1)):=by
   rw [List.singleton_append,←hdrop,List.take_append_drop]
  rw [hfl] at q8;obtain ⟨v1,v2,S1,S2,e1,e2,e3,e4,e5⟩:=q8.append_inv;obtain ⟨v3,v4,S3,S4,f1,f2,f3,f4,f5⟩:=e5.append_inv;subst f1 f2;obtain ⟨v,r0,S5,S6,rfl,rfl,g1,⟨rfl,rfl⟩⟩:=f4;simp only [CellRep] at g1;obtain ⟨g2,rfl⟩:=g1;obtain ⟨⟨S',d1,d2⟩,_⟩:=view1.repF hh g2 hv
  have hfree: ∀ y∈S',jF (bD [(b',none),(b,some ⟨blk.k,blk.es.set i (cs.take j++[.list k' es']++cs.drop (j+1))⟩)] s.heap) ν y:=by
   intro y hy;rcases d2 y hy with ⟨b0,b1,b2,b3⟩|hf
   ·simp only [uE,List.mem_singleton] at b1;subst b1;refine ⟨λc2 blk2 β2 c3 hc hν e=>?_,?_⟩
    ·subst e;simp only [bD] at hc;by_cases e:c2=b0
     ·subst e;rw [cC] at hc;cases hc
     ·rw [cD e] at hc;simp only [aX] at hc;by_cases e2:c2=b
      ·subst e2;exact hh.apart c2 b0 β2 (by rw [hb];simp) b2 e (by rw [q1] at hν;cases hν;rw [q6];simp) b3
      ·rw [cD e2] at hc;simp only [aX] at hc;exact hh.apart c2 b0 β2 (by rw [hc];simp) b2 e (oA (hh.blk c2 blk2 hc).2.1 hν) b3
    ·obtain ⟨blk3,hbl⟩:=Option.ne_none_iff_exists'.1 b2;exact hs.okM y ((hh.blk b0 blk3 hbl).2.2.2 y b3)
   ·exact ⟨(hext.free y (d1.lt y hy) hf.1).2,hf.2⟩
  have hφ:φ b=β::(S1++S4):=by rw [q6,e2];simp
  refine ⟨ν,hs.below,hs.base,hs.fresh,hs.defers,hs.size,λt x hx=>by obtain ⟨v,h1,h2⟩:=hs.env t x hx;exact ⟨v,h1,h2.ext hext⟩,⟨φ,?_,?_⟩,hs.kp,hs.ext.trans hext,hs.szE,hs.okM,hs.okF⟩
  ·intro x blk2 hx;simp only [bD] at hx;by_cases e:x=b'
   ·subst e;rw [cC] at hx;cases hx
   ·rw [cD e] at hx;by_cases e0:x=b
    ·subst e0;simp only [aX,cC,aH,Option.some.injEq] at hx;subst hx;refine ⟨hub,⟨?_,.inr ⟨β,c,arr,ty,S1++S4,vs,q1,q2,q3,by simpa using q4,q5,hφ,by simpa using q7,?_⟩⟩,hnd1,hB1⟩
     ·intro d hd;rcases List.mem_or_eq_of_mem_set hd with h|h
      ·exact hk1 d h
      ·rw [h];simp;omega
     ·rw [wJ (n:=1) hk1 hi rfl (by omega),e1];have m1:CellsRep w (bD [(b',none),(x,some ⟨blk.k,blk.es.set i (cs.take j++[.list k' es']++cs.drop (j+1))⟩)] s.heap) s.used ν [.list k' es'] [v] []:=⟨v,[],[],[],rfl,rfl,⟨⟨S',d1,hfree⟩,rfl⟩,rfl,rfl⟩;have m2:=(e4.ext hext (λ_ _=>rfl)).append (m1.append (f5.ext hext (λ_ _=>rfl)));rw [List.append_assoc (List.take (i*blk.k+j) blk.es.flatten)];simpa using m2
    ·rw [cD e0] at hx;obtain ⟨p1,p2,p3,p4⟩:=hh.blk x blk2 hx;exact ⟨p1,p2.ext hext rfl (λ_ _=>rfl),p3,p4⟩
  ·have hsub: ∀ x,bD [(b',none),(b,some ⟨blk.k,blk.es.set i (cs.take j++[.list k' es']++cs.drop (j+1))⟩)] s.heap x≠none→s.heap x≠none:=by
    intro x hx;have hxb':x≠b':=by rintro rfl;simp [bD] at hx
    simp only [bD,cD hxb',aX] at hx;by_cases e0:x=b
    ·subst e0;rw [hb];simp
    ·rw [cD e0] at hx;exact hx
   intro x1 x2 y hx1 hx2 hne2 hy1 hy2;exact hh.apart x1 x2 y (hsub x1 hx1) (hsub x2 hx2) hne2 hy1 hy2
theorem aML {s:AState} {b b' i j n k':Nat} {blk:Blk} {cs:List AV} {es':List (List AV)} (hb:s.heap b=some blk) (hi:blk.es[i]? =some cs) (hj:cs[j]? =some (.own b' 0 n)) (hne:Nat.beq b b'=false) (hv:view1 s.heap (.own b' 0 n) (.list k' es')):
  Ent s ⟨s.env,bD [(b',none),(b,some ⟨blk.k,blk.es.set i (aBZ cs j [.list k' es'])⟩)] s.heap,s.used,s.ns,s.kp⟩:=by
 have hjl:j<cs.length:=by
  rcases dR j cs.length with h'|h'
  ·exact h'
  ·rw [gF h'] at hj;cases hj
 rw [←aCp (by simp;omega)];exact aPa hb hi hj hne hv
end
noncomputable section
set_option maxRecDepth 10000
set_option maxHeartbeats 4000000
def sG (a0:Qv):Option Qv:=
 (iX a0.src).bind λv1=>
 (iX a0.tgt).bind λv2=>
 some ((⟨a0.n,v1,v2⟩:Qv))
theorem aDM (a0:Qv) (r:Qv) (h:sG a0=some r):HasC Tryz.prog 121 [.agg (eQ a0)] (.agg (eQ r)):=by
 exact hM [.cell 2 26] Tryz.func121 Tryz.ntmps121 k<|sR<|ae (wb k) k<|ae (cN aI k k) k<|an<|tn<|sQ<|aP gK<|fp k8<|lp k8<|fp k8<|lp k8<|oB h λv1 hv1 h=>ae (cL cU (wL a0.src v1 hv1) k3 (dI k aO)) k<|fp k8<|lp k8<|oB h λv2 hv2 h=>ae (cL cU (wL a0.tgt v2 hv2) k3 (dI k aO)) k<|ae (kO aI k k k k k k) k<|ae (ws k) k<|an<|rI (by kernel_rfl)<|tn<|aE<|sp h (bO k k k (sE (bB (k) (bB (fE cU k k) (bB (fE cU k k) gX)))))
def qY (a1:Qv) (a2:(List Int)) (x1:((List Mt)×Int)):Option (((List Mt)×Int) ⊕ (List Mt)):=
 bif decide (x1.2<(a1.src.length:Int)) then
 ((cF a1.src x1.2).bind λv4=>
 (cF a1.tgt x1.2).bind λv5=>
 (cF a2 v5).bind λv6=>
 (cF a2 v4).bind λv7=>
 (oX v6 v7).bind λv8=>
 bif decide (x1.1.length+1≤4294967296) then
 (some (.inl ((x1.1++[v8]),wr (x1.2+1))))
 else none)
 else
 (some (.inr x1.1))
def vG (a0:Int) (a1:Qv) (a2:(List Int)):Option Rp:=
 (sG a1).bind λv1=>
 (iX a2).bind λv2=>
 (Lp (qY a1 a2) ([],0)).bind λy10=>
 some ((⟨a0,v1,v2,y10⟩:Rp))
theorem aHv (a0:Int) (a1:Qv) (a2:(List Int)) (r:Rp) (h:vG a0 a1 a2=some r):HasC Tryz.prog 83 [.int a0,.agg (eQ a1),.list 1 (a2.map eI)] (.agg (eR r)):=by
 refine hM [.cell 6 29] Tryz.func83 Tryz.ntmps83 k<|sR<|ae (wb k) k<|ae (cN aI k k) k<|an<|tn<|sR<|am k k<|lp k8<|oB h λv1 hv1 h=>ae (cQ (aDM a1 v1 hv1) k3 (aW (kL k) aO)) k<|am k k<|oB h λv2 hv2 h=>ae (cL cU (wL a2 v2 hv2) k3 (dI k aO)) k<|ae (kO aI k k k k k k) k<|ae (cN aI k k) k<|ae (ws k) k<|an<|tn<|sQ<|sR<|fp k8<|lp k8<|ln k4<|am k k<|an<|tn<|aC<|oB h λy10 hy10 h=>bY (body:=(qY a1 a2)) hy10 (λ(x1:((List Mt)×Int))=>mN [(2,.list 1 (a2.map eI)),(4,.ptr 0 0 0),(6,.ptr 1 0 0),(7,.ptr 2 0 0),(17,.list 1 (a1.src.map eI)),(18,.int (a1.src.length:Int)),(19,.int x1.2)] [(0,⟨3,[eQ a1]⟩),(1,⟨6,[vY]⟩),(2,⟨6,[[.int a0,.int v1.n,.own 3 0 v1.src.length,.own 4 0 v1.tgt.length,.own 5 0 v2.length,.own 6 0 x1.1.length]]⟩),(3,⟨1,v1.src.map (ow eI)⟩),(4,⟨1,v1.tgt.map (ow eI)⟩),(5,⟨1,v2.map (ow eI)⟩),(6,⟨3,x1.1.map (ow eM)⟩)] 7) (λr e t=>e= .exit 0∧Ent t (mN [(6,.ptr 0 0 0),(7,.ptr 1 0 0)] [(0,⟨6,[vY]⟩),(1,⟨6,[[.int a0,.int v1.n,.own 2 0 v1.src.length,.own 3 0 v1.tgt.length,.own 4 0 v2.length,.own 5 0 r.length]]⟩),(2,⟨1,v1.src.map (ow eI)⟩),(3,⟨1,v1.tgt.map (ow eI)⟩),(4,⟨1,v2.map (ow eI)⟩),(5,⟨3,r.map (ow eM)⟩)] 6)) (gH (σ:=sg [(0,0),(1,1),(2,5),(3,2),(4,3),(5,4)]) (bG k2) (bU k<|bU k<|hX ⟨_,k,k,.inr ⟨_,_,k,⟨_,_,k,k,⟨_,_,k,k,⟨_,_,k,⟨k,k,k,k⟩,⟨_,_,k,⟨k,k,k,k⟩,⟨_,_,k,⟨k,k,k,k⟩,⟨_,_,k,⟨k,k,k,k⟩,k⟩⟩⟩⟩⟩⟩,k⟩⟩ k<|bP k<|bP k<|bP k<|hX k k<|aS) k) ?_ ?_
 ·intro x1 o h;refine sR<|cm k4<|an<|tn<|sQ<|dB k h (λ_ h=>?_) λ_ h=>aY<|aA<|aA<|sp h ⟨_,k,k,(pD [1,2,3,4,5,6] (bG k2) (bU k<|fW k<|bP k<|bP k<|bP k<|bX (dA.plainO _) k<|aS) k4)⟩;refine aD<|tn<|sQ<|aC<|sR<|am k k<|oB h λv4 hv4 h=>ae (xl hv4 k) k<|lr k7<|aa k k<|aT k2<|aP gK<|fp k8<|lp k8<|am k k<|fp k8<|lp k8<|am k k<|oB h λv5 hv5 h=>ae (xl hv5 k) k<|lr k7<|oB h λv6 hv6 h=>ae (xl hv6 k) k<|lr k7<|am k k<|am k k<|oB h λv7 hv7 h=>ae (xl hv7 k) k<|lr k7<|oB h λv8 hv8 h=>ae (cM (xC v6 v7 v8 hv8) k3 (dI k (dI k aO))) k ?_;exact ae (wl k) k<|cG h λq9 h=>ae (lH aI (l:=x1.1) (c:=[.int v8.rows,.int v8.cols,.own 7 0 v8.cells.length]) q9 k k k k k k k k k k k k k k) k<|fp k8<|ae (ws k) k<|an<|rI (by kernel_rfl)<|aZ<|tn<|aN (t:=mN [(2,.list 1 (a2.map eI)),(4,.ptr 0 0 0),(6,.ptr 1 0 0),(7,.ptr 2 0 0),(17,.list 1 (a1.src.map eI)),(18,.int (a1.src.length:Int)),(19,.int x1.2)] [(0,⟨3,[eQ a1]⟩),(1,⟨6,[vY]⟩),(2,⟨6,[[.int a0,.int v1.n,.own 3 0 v1.src.length,.own 4 0 v1.tgt.length,.own 5 0 v2.length,.own 9 0 ((x1.1++[v8]).length)]]⟩),(3,⟨1,v1.src.map (ow eI)⟩),(4,⟨1,v1.tgt.map (ow eI)⟩),(5,⟨1,v2.map (ow eI)⟩),(9,⟨3,List.map (ow eM) (x1.1++[v8])⟩)] 10) (Ent.trans (eO (b:=9) (b':=7) (j:=2) (es':=v8.cells.map eI) k k k k (aM _ _) (cU.frzs _)) (bJ (bG k2) (bU k<|bU k<|hX ⟨_,k,k,.inr ⟨_,_,k,⟨_,_,k,k,⟨_,_,k,k,⟨_,_,k,⟨k,k,k,k⟩,⟨_,_,k,⟨k,k,k,k⟩,⟨_,_,k,⟨k,k,k,k⟩,⟨_,_,k,⟨k,k,(by simp only [aM,lA,lT,lR,lC,lN]),k⟩,k⟩⟩⟩⟩⟩⟩,k⟩⟩ k<|bP k<|bP k<|bP k<|hX ⟨_,k,k,.inl ⟨mJ v8 k,dA.plainO _⟩⟩ k<|aS) k4))<|rg<|ae (bC k k) k<|am k k<|an<|tn<|sp h ⟨_,k,(pD [0,1,2,3,4,5,9] (bG k2) (bU k<|bU k<|fW k<|bP k<|bP k<|bP k<|bX (dA.plainO _) k<|aS) k4)⟩
 ·rintro e t ⟨rfl,hent⟩;exact aJ<|tn<|aN hent<|sR<|lp k8<|ae (ws k) k<|an<|tn<|aE<|sp h (bO k k k (sE (bB (k) (bB (k) (bB (fE cU k k) (bB (fE cU k k) (bB (fE cU k k) (bB (fE dA k k) gX))))))))
def wU (a0:Qv):Option Qv:=
 bif decide (([]:(List Int)).length +a0.src.length≤4294967296) then
 (bif decide (([]:(List Int)).length +a0.tgt.length≤4294967296) then
 (some ((⟨a0.n,(([]:(List Int))++a0.src),(([]:(List Int))++a0.tgt)⟩:Qv)))
 else none)
 else none
theorem aIi (a0:Qv) (r:Qv) (h:wU a0=some r):HasC Tryz.prog 74 [.agg (eQ a0)] (.agg (eQ r)):=by
 exact hM [.cell 2 26] Tryz.func74 Tryz.ntmps74 k<|sR<|ae (wb k) k<|ae (cN aI k k) k<|an<|tn<|sQ<|aP gK<|fp k8<|lp k8<|ae (wl k) k<|fp k8<|lp k8<|cG h λq1 h=>ae (sD aI (l:=([]:(List Int))) (m:=a0.src) jI q1 k k k k k k k k k k k k) k<|ae (wl k) k<|fp k8<|lp k8<|cG h λq2 h=>ae (sD aI (l:=([]:(List Int))) (m:=a0.tgt) jI q2 k k k k k k k k k k k k) k<|ae (kO aI k k k k k k) k<|ae (ws k) k<|an<|rI (by kernel_rfl)<|tn<|aE<|sp h (bO k k k (sE (bB (k) (bB (fE cU k k) (bB (fE cU k k) gX)))))
def sB (a1:Qv) (a2:(List Int)) (x1:((List Mt)×Int)):Option (((List Mt)×Int) ⊕ (List Mt)):=
 bif decide (x1.2<(a1.src.length:Int)) then
 ((cF a1.tgt x1.2).bind λv4=>
 (cF a2 v4).bind λv5=>
 (cF a1.src x1.2).bind λv6=>
 (cF a2 v6).bind λv7=>
 (wM v5 v7).bind λv8=>
 bif decide (x1.1.length+1≤4294967296) then
 (some (.inl ((x1.1++[v8]),wr (x1.2+1))))
 else none)
 else
 (some (.inr x1.1))
def wV (a0:Int) (a1:Qv) (a2:(List Int)):Option Rp:=
 (wU a1).bind λv1=>
 bif decide (([]:(List Int)).length +a2.length≤4294967296) then
 ((Lp (sB a1 a2) (([]:(List Mt)),0)).bind λy10=>
 some ((⟨a0,v1,(([]:(List Int))++a2),y10⟩:Rp)))
 else none
theorem aIj (a0:Int) (a1:Qv) (a2:(List Int)) (r:Rp) (h:wV a0 a1 a2=some r):HasC Tryz.prog 33 [.int a0,.agg (eQ a1),.list 1 (a2.map eI)] (.agg (eR r)):=by
 refine hM [.cell 6 29] Tryz.func33 Tryz.ntmps33 k<|sR<|ae (wb k) k<|ae (cN aI k k) k<|an<|tn<|sR<|am k k<|lp k8<|oB h λv1 hv1 h=>ae (cQ (aIi a1 v1 hv1) k3 (aW (kL k) aO)) k<|ae (wl k) k<|am k k<|cG h λq2 h=>ae (sD aI (l:=([]:(List Int))) (m:=a2) jI q2 k k k k k k k k k k k k) k<|ae (wl k) k<|ae (kO aI k k k k k k) k<|ae (cN aI k k) k<|ae (ws k) k<|an<|tn<|aN (t:=mN [(2,.list 1 (a2.map eI)),(4,.ptr 0 0 0),(6,.ptr 1 0 0),(7,.ptr 7 0 0)] [(0,⟨3,[eQ a1]⟩),(1,⟨6,[vY]⟩),(2,⟨1,v1.src.map (ow eI)⟩),(3,⟨1,v1.tgt.map (ow eI)⟩),(5,⟨1,List.map (ow eI) (([]:(List Int))++a2)⟩),(6,⟨3,List.map (ow eM) ([]:(List Mt))⟩),(7,⟨6,[[.int a0,.int v1.n,.own 2 0 v1.src.length,.own 3 0 v1.tgt.length,.own 5 0 ((([]:(List Int))++a2).length),.own 6 0 (([]:(List Mt)).length)]]⟩)] 8) (bJ (bG k2) (bU k<|bU k<|bP k<|bP k<|bP k<|bX (dA.plainO _) k<|hX ⟨_,k,k,.inr ⟨_,_,k,⟨_,_,k,k,⟨_,_,k,k,⟨_,_,k,⟨k,k,k,k⟩,⟨_,_,k,⟨k,k,k,k⟩,⟨_,_,k,⟨k,k,k,k⟩,⟨_,_,k,⟨k,k,(by simp only [aM,lA,lT,lR,lC,lN]),k⟩,k⟩⟩⟩⟩⟩⟩,k⟩⟩ k<|aS) k4)<|sQ<|sR<|aT k2<|aC<|oB h λy10 hy10 h=>bY (body:=(sB a1 a2)) hy10 (λ(x1:((List Mt)×Int))=>mN [(2,.list 1 (a2.map eI)),(4,.ptr 0 0 0),(6,.ptr 1 0 0),(7,.ptr 2 0 0),(8,.int x1.2)] [(0,⟨3,[eQ a1]⟩),(1,⟨6,[vY]⟩),(2,⟨6,[[.int a0,.int v1.n,.own 3 0 v1.src.length,.own 4 0 v1.tgt.length,.own 5 0 ((([]:(List Int))++a2).length),.own 6 0 x1.1.length]]⟩),(3,⟨1,v1.src.map (ow eI)⟩),(4,⟨1,v1.tgt.map (ow eI)⟩),(5,⟨1,List.map (ow eI) (([]:(List Int))++a2)⟩),(6,⟨3,x1.1.map (ow eM)⟩)] 7) (λr e t=>e= .exit 0∧Ent t (mN [(6,.ptr 0 0 0),(7,.ptr 1 0 0)] [(0,⟨6,[vY]⟩),(1,⟨6,[[.int a0,.int v1.n,.own 2 0 v1.src.length,.own 3 0 v1.tgt.length,.own 4 0 ((([]:(List Int))++a2).length),.own 5 0 r.length]]⟩),(2,⟨1,v1.src.map (ow eI)⟩),(3,⟨1,v1.tgt.map (ow eI)⟩),(4,⟨1,List.map (ow eI) (([]:(List Int))++a2)⟩),(5,⟨3,r.map (ow eM)⟩)] 6)) (pD [0,1,7,2,3,5,6] (bG k2) (bU k<|bU k<|fW k<|bP k<|bP k<|bP k<|bX (dA.plainO _) k<|aS) k4) ?_ ?_
 ·intro x1 o h;refine sQ<|sR<|am k k<|fp k8<|lp k8<|ln k4<|cm k4<|an<|tn<|dB k h (λ_ h=>?_) λ_ h=>aY<|aA<|aA<|sp h ⟨_,k,k,(pD [1,2,3,4,5,6] (bG k2) (bU k<|fW k<|bP k<|bP k<|bP k<|bX (dA.plainO _) k<|aS) k4)⟩;refine aD<|tn<|sQ<|aC<|aP gK<|fp k8<|lp k8<|am k k<|fp k8<|lp k8<|am k k<|oB h λv4 hv4 h=>ae (xl hv4 k) k<|lr k7<|oB h λv5 hv5 h=>ae (xl hv5 k) k<|lr k7<|am k k<|fp k8<|lp k8<|am k k<|oB h λv6 hv6 h=>ae (xl hv6 k) k<|lr k7<|oB h λv7 hv7 h=>ae (xl hv7 k) k<|lr k7<|oB h λv8 hv8 h=>ae (cM (aIa v5 v7 v8 hv8) k3 (dI k (dI k aO))) k<|ae (wl k) k<|cG h λq9 h=>ae (lH aI (l:=x1.1) (c:=[.int v8.rows,.int v8.cols,.own 7 0 v8.cells.length]) q9 k k k k k k k k k k k k k k) k<|fp k8<|ae (ws k) k<|an ?_;exact rI (by kernel_rfl)<|aZ<|tn<|aN (t:=mN [(2,.list 1 (a2.map eI)),(4,.ptr 0 0 0),(6,.ptr 1 0 0),(7,.ptr 2 0 0),(8,.int x1.2)] [(0,⟨3,[eQ a1]⟩),(1,⟨6,[vY]⟩),(2,⟨6,[[.int a0,.int v1.n,.own 3 0 v1.src.length,.own 4 0 v1.tgt.length,.own 5 0 ((([]:(List Int))++a2).length),.own 9 0 ((x1.1++[v8]).length)]]⟩),(3,⟨1,v1.src.map (ow eI)⟩),(4,⟨1,v1.tgt.map (ow eI)⟩),(5,⟨1,List.map (ow eI) (([]:(List Int))++a2)⟩),(9,⟨3,List.map (ow eM) (x1.1++[v8])⟩)] 10) (Ent.trans (eO (b:=9) (b':=7) (j:=2) (es':=v8.cells.map eI) k k k k (aM _ _) (cU.frzs _)) (bJ (bG k2) (bU k<|bU k<|hX ⟨_,k,k,.inr ⟨_,_,k,⟨_,_,k,k,⟨_,_,k,k,⟨_,_,k,⟨k,k,k,k⟩,⟨_,_,k,⟨k,k,k,k⟩,⟨_,_,k,⟨k,k,k,k⟩,⟨_,_,k,⟨k,k,(by simp only [aM,lA,lT,lR,lC,lN]),k⟩,k⟩⟩⟩⟩⟩⟩,k⟩⟩ k<|bP k<|bP k<|bP k<|hX ⟨_,k,k,.inl ⟨mJ v8 k,dA.plainO _⟩⟩ k<|aS) k4))<|rg<|am k k<|ae (bC k k) k<|aT k2<|sp h ⟨_,k,(pD [0,1,2,3,4,5,9] (bG k2) (bU k<|bU k<|fW k<|bP k<|bP k<|bP k<|bX (dA.plainO _) k<|aS) k4)⟩
 ·rintro e t ⟨rfl,hent⟩;exact aJ<|tn<|aN hent<|sR<|lp k8<|ae (ws k) k<|an<|tn<|aE<|sp h (bO k k k (sE (bB (k) (bB (k) (bB (fE cU k k) (bB (fE cU k k) (bB (fE cU k k) (bB (fE dA k k) gX))))))))
def jX (v7:Rp) (v11:List Int) (x1:(List Mt)):Option ((List Mt) ⊕ (Rp×Bool)):=
 (qE v7.maps v11).bind λv12=>
 (qF (⟨v7.p,v7.q,v7.dims,v12⟩:Rp) (⟨v7.p,v7.q,v7.dims,v12⟩:Rp)).bind λv13=>
 bif decide (v13=1) then
 (some (.inr (((⟨v7.p,v7.q,v7.dims,v12⟩:Rp),true))))
 else
 (some (.inl v12))
def vH (a0:Int) (a1:Qv) (a2:(List Int)):Option (Rp×Bool):=
 (jJ a0).bind λv1=>
 bif !v1 then
 (some (((⟨0,(⟨0,[],[]⟩:Qv),[],[]⟩:Rp),false)))
 else
 ((nC a1 a2).bind λv3=>
 bif !v3 then
 (some (((⟨0,(⟨0,[],[]⟩:Qv),[],[]⟩:Rp),false)))
 else
 ((oG a1 a2).bind λv5=>
 bif !v5 then
 (some (((⟨0,(⟨0,[],[]⟩:Qv),[],[]⟩:Rp),false)))
 else
 ((vG a0 a1 a2).bind λv7=>
 (jK v7.maps).bind λv8=>
 bif decide (10<((v8.length:Nat):Int)) then
 (some (((⟨0,(⟨0,[],[]⟩:Qv),[],[]⟩:Rp),false)))
 else
 (bif (decide (0≤((v8.length:Nat):Int))&&decide (((v8.length:Nat):Int)≤1048576)) then
 (bif aHq (List.replicate ((v8.length:Nat):Int).toNat 1) then
 ((Fl (jX v7) (cV (List.replicate ((v8.length:Nat):Int).toNat 1)) v7.maps).bind λy15=>
 Sum.elim (λy15=>
 some (((⟨0,(⟨0,[],[]⟩:Qv),[],[]⟩:Rp),false))
 ) (λy17=>
 some y17
 ) y15)
 else none)
 else none))))
theorem aHw (a0:Int) (a1:Qv) (a2:(List Int)) (r:(Rp×Bool)) (h:vH a0 a1 a2=some r):HasC Tryz.prog 78 [.int a0,.agg (eQ a1),.list 1 (a2.map eI)] (.tuple [.agg (eR r.1),.bl r.2]):=by
 refine hM [.cell 6 29,.cell 7 4] Tryz.func78 Tryz.ntmps78 k<|sR<|ae (wb k) k<|ae (cN aI k k) k<|ae (cN aI k k) k<|an<|tn<|sQ<|sR<|am k k<|oB h λv1 hv1 h=>ae (aR (oD a0 v1 hv1) k (dI k aO)) k<|ae (dZ k) k<|am k k<|mX h (λq2 h=>aL 15 k q2<|aK k4<|aK k4<|pk k3<|am k k<|aK k4<|aK k4<|pk k3<|an<|tn<|dS k k<|sR<|ae (kO aI k k k k k k) k<|ae (ws k) k<|ae (ws k) k<|an<|tn<|aE<|aG<|sp h (bO k k k (cW k (bT (vU (bB (k) (bB (k) (bB (k) (bB (k) (bB (k) (bB (k) gX))))))) (bT (k) eY))))) λq2 h=>?_;refine aL 15 k q2<|lp k8<|am k k<|oB h λv3 hv3 h=>ae (aR (aAc a1 a2 v3 hv3) k (aW (kL k) (dI k aO))) k<|ae (dZ k) k<|pk k3<|am k k<|mX h (λq4 h=>aL 21 k q4<|aK k4<|aK k4<|pk k3<|an<|tn<|dS k k<|sR<|ae (kO aI k k k k k k) k<|ae (ws k) k<|ae (ws k) k<|an<|tn<|aE<|aG<|sp h (bO k k k (cW k (bT (vU (bB (k) (bB (k) (bB (k) (bB (k) (bB (k) (bB (k) gX))))))) (bT (k) eY))))) λq4 h=>?_;refine aL 21 k q4<|lp k8<|am k k<|oB h λv5 hv5 h=>ae (aR (zD a1 a2 v5 hv5) k (aW (kL k) (dI k aO))) k<|ae (dZ k) k<|pk k3<|an<|tn<|dB k h (λ_ h=>sR<|ae (kO aI k k k k k k) k<|ae (ws k) k<|ae (ws k) k<|an<|tn<|aE<|aG<|sp h (bO k k k (cW k (bT (vU (bB (k) (bB (k) (bB (k) (bB (k) (bB (k) (bB (k) gX))))))) (bT (k) eY))))) λ_ h=>?_;refine aD<|tn<|sR<|am k k<|lp k8<|am k k<|oB h λv7 hv7 h=>ae (cR (aHv a0 a1 a2 v7 hv7) k3 (dI k (aW (kL k) (dI k aO)))) k<|ae (cN aI k k) k<|ae (ws k) k<|an<|tn<|aN (t:=mN [(6,.ptr 1 0 0),(7,.ptr 2 0 0),(8,.ptr 7 0 0)] [(1,⟨6,[vY]⟩),(2,⟨1,[[.bl false]]⟩),(3,⟨1,v7.q.src.map (ow eI)⟩),(4,⟨1,v7.q.tgt.map (ow eI)⟩),(5,⟨1,v7.dims.map (ow eI)⟩),(6,⟨3,v7.maps.map (ow eM)⟩),(7,⟨6,[oRp v7 3 4 5 6]⟩)] 8) (bJ (bG k2) (bU k<|bU k<|bP k<|bP k<|bP k<|bX (dA.plainO _) k<|fW k<|aS) k4)<|sR<|fp k8<|lp k8<|oB h λv8 hv8 h=>ae (cL cU (aAN v7.maps v8 hv8) k3 (aW (xK dA k k) aO)) k<|ae (cB aI k k k k) k<|aT k2<|sQ<|sR<|am k k<|cm k4<|an<|tn<|dB k h (λ_ h=>sR<|ae (kO aI k k k k k k) k<|ae (ws k) k<|ae (ws k) k<|an<|tn<|aE<|aG<|sp h (bO k k k (cW k (bT (vU (bB (k) (bB (k) (bB (k) (bB (k) (bB (k) (bB (k) gX))))))) (bT (k) eY))))) λ_ h=>?_;refine aD<|tn<|sQ<|aN (aML (b:=7) (b':=6) (i:=0) (j:=5) (es':=v7.maps.map eM) k k k k (aGG dA k k))<|rg<|fp k8<|lp k8<|ae (cN aI k k) k<|ae (ws k) k<|an<|tn<|sQ<|sR<|ae (wl k) k<|am k k<|cG h λq10 h=>ae (aJV (aJa 1 ((v8.length:Nat):Int) q10) k k (aW (aNJ k k ⟨_,_,k,⟨_,_,k,k,k⟩,k⟩) (dI k aO))) k<|ae (aMH (aOc (List.replicate ((v8.length:Nat):Int).toNat 1)) k k k k) k<|an<|tn<|aC<|cG h λq16 h=>oB h λy15 hy15 h=>aMF (f:=(jX v7)) (σ:=(List Mt)) (ρ:=(Rp×Bool)) y15 v7.maps [(6,.ptr 0 0 0),(7,.ptr 1 0 0),(8,.ptr 2 0 0),(10,.ptr 6 0 0),(44,.fn 169 [.ref [.list 1 (List.map eI (List.replicate ((v8.length:Nat):Int).toNat 1))]])] [(0,⟨6,[[.int 0,.int 0,.nil 1,.nil 1,.nil 1,.nil 3]]⟩),(1,⟨1,[[.bl false]]⟩),(2,⟨6,[[.int v7.p,.int v7.q.n,.own 3 0 v7.q.src.length,.own 4 0 v7.q.tgt.length,.own 5 0 v7.dims.length,.list 3 (v7.maps.map eM)]]⟩),(3,⟨1,v7.q.src.map (ow eI)⟩),(4,⟨1,v7.q.tgt.map (ow eI)⟩),(5,⟨1,v7.dims.map (ow eI)⟩),(6,⟨1,[[.list 3 (v7.maps.map eM)]]⟩)] 7 (nmA.drop 7) (λx1=>[(0,⟨6,[[.int 0,.int 0,.nil 1,.nil 1,.nil 1,.nil 3]]⟩),(1,⟨1,[[.bl false]]⟩),(2,⟨6,[[.int v7.p,.int v7.q.n,.own 3 0 v7.q.src.length,.own 4 0 v7.q.tgt.length,.own 5 0 v7.dims.length,.list 3 (x1.map eM)]]⟩),(3,⟨1,v7.q.src.map (ow eI)⟩),(4,⟨1,v7.q.tgt.map (ow eI)⟩),(5,⟨1,v7.dims.map (ow eI)⟩),(6,⟨1,[[.list 3 (v7.maps.map eM)]]⟩)]) 8 (nmA.drop 8) (λr e t=>e= .ret∧sO TT [.cell 6 29,.cell 7 4] (.tuple [.agg (eR r.1),.bl r.2]) .ret ⟨aBT [(6,.ptr 0 0 0),(7,.ptr 1 0 0),(8,.ptr 2 0 0),(10,.ptr 6 0 0),(44,.fn 169 [.ref [.list 1 (List.map eI (List.replicate ((v8.length:Nat):Int).toNat 1))]])],t.heap,t.used,t.ns,0⟩) (aTO q16) hy15 k k k (λ_=>k) (pD [1,2,7,3,4,5,9] (lB 4 k2 (iG ⟨_,k,⟨k,⟨_,_,k,k,k⟩⟩⟩ aS)) (bU k<|bU k<|fW k<|bP k<|bP k<|bP k<|bU k<|aS) k4) k (bJ (lB 5 k2 (iG ⟨_,k,⟨k,⟨_,_,k,k,k⟩⟩⟩ aS)) (bP k<|bU k<|bU k<|fW k<|bP k<|bP k<|bP k<|bU k<|aS) k4) ?_ ?_
 ·intro x1 v11 o hxv11 h;have hlv11:=bF (wC hxv11);change AC Tryz.prog _ _ (mN [(45,.own 7 0 ((List.replicate ((v8.length:Nat):Int).toNat 1).length)),(6,.ptr 0 0 0),(7,.ptr 1 0 0),(8,.ptr 2 0 0),(10,.ptr 6 0 0),(44,.fn 169 [.ref [.list 1 (List.map eI (List.replicate ((v8.length:Nat):Int).toNat 1))]])] [(7,⟨1,v11.map (ow eI)⟩),(0,⟨6,[vY]⟩),(1,⟨1,[[.bl false]]⟩),(2,⟨6,[[.int v7.p,.int v7.q.n,.own 3 0 v7.q.src.length,.own 4 0 v7.q.tgt.length,.own 5 0 v7.dims.length,.list 3 (x1.map eM)]]⟩),(3,⟨1,v7.q.src.map (ow eI)⟩),(4,⟨1,v7.q.tgt.map (ow eI)⟩),(5,⟨1,v7.dims.map (ow eI)⟩),(6,⟨1,[[.list 3 (v7.maps.map eM)]]⟩)] 8 ⟨8,false,none,false⟩) _;refine rg<|aa k k<|an ?_;refine ⟨k,?_⟩;exact aC<|sR<|lp k8<|am k k<|oB h λv12 hv12 h=>ae (cL dA (aDO v7.maps v11 v12 hv12) k3 (dI k (aW (xK cU k (by first|rfl|simp only [List.length_set,of_decide_eq_true hlv11])) aO))) k<|fp k8<|ae (ws k) k<|an<|tn<|sR<|lp k8<|lp k8<|oB h λv13 hv13 h=>ae (aR (aDP (⟨v7.p,v7.q,v7.dims,v12⟩:Rp) (⟨v7.p,v7.q,v7.dims,v12⟩:Rp) v13 hv13) k (aW (vaR k8) (aW (vaR k8) aO))) k<|cm k4<|an<|tn<|dB k h (λ_ h=>sR<|lp k8<|ae (ws k) k<|ae (ws k) k<|an<|tn<|aE<|bN<|sp h ⟨k,k,bO k k k (cW k (bT (vU (bB (k) (bB (k) (bB (fE cU k k) (bB (fE cU k k) (bB (fE cU k k) (bB (fE dA k k) gX))))))) (bT (k) eY)))⟩) λ_ h=>aD<|aZ<|sp h ⟨k,(Ent.trans (aML (b:=2) (b':=8) (i:=0) (j:=5) (es':=v12.map eM) k k k k (aGG dA k k)) (bJ (lB 5 k2 (iG ⟨_,k,⟨k,⟨_,_,k,k,k⟩⟩⟩ aS)) (bP k<|bU k<|bU k<|fW k<|bP k<|bP k<|bP k<|bU k<|aS) k4))⟩
 ·rcases y15 with y15|y17
  ·dsimp only;exact aZ<|tn<|sR<|ae (kO aI k k k k k k) k<|ae (ws k) k<|ae (ws k) k<|an<|tn<|aE<|sp h (bO k k k (cW k (bT (vU (bB (k) (bB (k) (bB (k) (bB (k) (bB (k) (bB (k) gX))))))) (bT (k) eY))))
  ·rintro e t ⟨rfl,hent⟩;exact bN<|aG<|sp h hent
def jY (x1:((List Mt)×Int×Int)):Option (((List Mt)×Int×Int) ⊕ ((List Mt)×Int)):=
 bif decide (x1.2.2<((x1.1.length:Nat):Int)) then
 ((cF x1.1 x1.2.2).bind λv9=>
 some (.inl ((x1.1.set x1.2.2.toNat v9),wr (x1.2.1+((v9.cells.length:Nat):Int)),wr (x1.2.2+1))))
 else
 (some (.inr (x1.1,x1.2.1)))
def mV (x3:((List Mt)×Int×Int)) (x4:((List Mt)×Int×Int)):Option (((List Mt)×Int×Int) ⊕ ((List Mt)×Int)):=
 bif decide (0≤x4.2.2) then
 ((cF x4.1 x3.2.2).bind λv16=>
 (cF v16.cells x4.2.2).bind λv17=>
 some (.inl ((x4.1.set x3.2.2.toNat (⟨v16.rows,v16.cols,(v16.cells.set x4.2.2.toNat (x4.2.1.tmod 2))⟩:Mt)),wr (x4.2.1.tdiv 2),wr (x4.2.2 - 1))))
 else
 (some (.inr (x4.1,x4.2.1)))
def mW (x3:((List Mt)×Int×Int)):Option (((List Mt)×Int×Int) ⊕ (List Mt)):=
 bif decide (0≤x3.2.2) then
 ((cF x3.1 x3.2.2).bind λv14=>
 (Lp (mV x3) ((x3.1.set x3.2.2.toNat v14),x3.2.1,wr (((v14.cells.length:Nat):Int) - 1))).bind λy18=>
 some (.inl (y18.1,y18.2,wr (x3.2.2 - 1))))
 else
 (some (.inr x3.1))
def gE (v7:Rp) (y10:((List Mt)×Int)) (x2:((List Mt)×Int)):Option (((List Mt)×Int) ⊕ (Unit ⊕ (Rp×Bool))):=
 bif decide (y10.2≤10) then
 (bif !decide (y10.2<0) then
 (bif decide (x2.2<aNb 1 y10.2) then
 ((Lp mW (x2.1,x2.2,wr (((x2.1.length:Nat):Int) - 1))).bind λy19=>
 (qG (⟨v7.p,v7.q,v7.dims,y19⟩:Rp) (⟨v7.p,v7.q,v7.dims,y19⟩:Rp)).bind λv20=>
 bif decide (v20=1) then
 (some (.inr (.inr (((⟨v7.p,v7.q,v7.dims,y19⟩:Rp),true)))))
 else
 (some (.inl (y19,wr (x2.2+1)))))
 else
 (some (.inr (.inl ()))))
 else none)
 else
 (some (.inr (.inl ())))
def vI (a0:Int) (a1:Qv) (a2:(List Int)):Option (Rp×Bool):=
 (lK a0).bind λv1=>
 bif !v1 then
 (some (((⟨0,(⟨0,[],[]⟩:Qv),[],[]⟩:Rp),false)))
 else
 ((jC a1 a2).bind λv3=>
 bif !v3 then
 (some (((⟨0,(⟨0,[],[]⟩:Qv),[],[]⟩:Rp),false)))
 else
 ((oF a1 a2).bind λv5=>
 bif !v5 then
 (some (((⟨0,(⟨0,[],[]⟩:Qv),[],[]⟩:Rp),false)))
 else
 ((wV a0 a1 a2).bind λv7=>
 (Lp jY (v7.maps,0,0)).bind λy10=>
 (Lp (gE v7 y10) (y10.1,0)).bind λy23=>
 Sum.elim (λy24=>
 some (((⟨0,(⟨0,[],[]⟩:Qv),[],[]⟩:Rp),false))
 )
 (λy25=>
 some y25
 )
 y23)))
theorem aHx (a0:Int) (a1:Qv) (a2:(List Int)) (r:(Rp×Bool)) (h:vI a0 a1 a2=some r):HasC Tryz.prog 73 [.int a0,.agg (eQ a1),.list 1 (a2.map eI)] (.tuple [.agg (eR r.1),.bl r.2]):=by
 refine aHY aI (rvs:=[.cell 6 29,.tmp 7]) (ns:=nmA) Tryz.func73 k k Tryz.ntmps73 k k k (λW=>?_);refine aSK<|aHX<|aGe<|aCR (λw1_1 S1_1 r1_1=>?_);refine aCR (λw1_2 S1_2 r1_2=>?_);refine aHV<|aTe (λw2_0 S2_0 r2_0=>?_);refine aHW<|sS<|se (wb k) k<|se (cN aI k k) k<|gU k2<|sn<|tn<|sQ<|sS<|eD k2<|oB h λv1 hv1 h=>se (oC (rC a0 v1 hv1) k (wkS k pC)) k<|se (dZ k) k<|eD k2<|mX h (λq2 h=>gP 18 k q2<|bZ k k<|bZ k k<|bZ k k<|bZ k k<|pkS k3<|eD k2<|bZ k k<|bZ k k<|bZ k k<|bZ k k<|pkS k3<|sn<|tn<|dS k k<|sS<|se (kO aI k k k k k k) k<|se (ws k) k<|gU k2<|sn<|tn<|aE<|aG<|sp h (bO k k k (cW k (bT (vU (bB (k) (bB (k) (bB (k) (bB (k) (bB (k) (bB (k) gX))))))) (bT (k) eY))))) λq2 h=>?_;refine gP 18 k q2<|lpS k8<|eD k2<|oB h λv3 hv3 h=>se (oC (aAb a1 a2 v3 hv3) k (jR (.inr (lI (aEL k k) (lI (xM k r1_1) (lI (xM k r1_2) aGd)))) (wkD k r2_0 pC))) k<|se (dZ k) k<|pkS k3<|eD k2<|mX h (λq4 h=>gP 24 k q4<|bZ k k<|bZ k k<|bZ k k<|bZ k k<|pkS k3<|sn<|tn<|dS k k<|sS<|se (kO aI k k k k k k) k<|se (ws k) k<|gU k2<|sn<|tn<|aE<|aG<|sp h (bO k k k (cW k (bT (vU (bB (k) (bB (k) (bB (k) (bB (k) (bB (k) (bB (k) gX))))))) (bT (k) eY))))) λq4 h=>?_;refine gP 24 k q4<|lpS k8<|eD k2<|oB h λv5 hv5 h=>se (oC (zB a1 a2 v5 hv5) k (jR (.inr (lI (aEL k k) (lI (xM k r1_1) (lI (xM k r1_2) aGd)))) (wkD k r2_0 pC))) k<|se (dZ k) k<|pkS k3<|sn<|tn<|dB k h (λ_ h=>sS<|se (kO aI k k k k k k) k<|se (ws k) k<|gU k2<|sn<|tn<|aE<|aG<|sp h (bO k k k (cW k (bT (vU (bB (k) (bB (k) (bB (k) (bB (k) (bB (k) (bB (k) gX))))))) (bT (k) eY))))) λ_ h=>?_;refine aD<|tn<|sS<|eD k2<|lpS k8<|eD k2<|oB h λv7 hv7 h=>se (cRK (aIj a0 a1 a2 v7 hv7) k3 (wkS k (jR (.inr (lI (aEL k k) (lI (xM k r1_1) (lI (xM k r1_2) aGd)))) (wkD k r2_0 pC)))) k<|se (cN aI k k) k<|se (ws k) k<|sn<|tn<|aN (t:=mN [(6,.ptr 1 0 0),(8,.ptr 6 0 0)] [(1,⟨6,[vY]⟩),(2,⟨1,v7.q.src.map (ow eI)⟩),(3,⟨1,v7.q.tgt.map (ow eI)⟩),(4,⟨1,v7.dims.map (ow eI)⟩),(5,⟨3,v7.maps.map (ow eM)⟩),(6,⟨6,[oRp v7 2 3 4 5]⟩)] 7 ⟨0,true,fxW W,true⟩) (bJ (bG k2) (bU k<|bP k<|bP k<|bP k<|bX (dA.plainO _) k<|fW k<|aS) k4)<|sS<|gU k2<|sn<|tn<|sQ<|sS<|gU k2<|sn<|tn<|aC<|oB h λy10 hy10 h=>bY (body:=jY) hy10 (λ(x1:((List Mt)×Int×Int))=>mN [(6,.ptr 0 0 0),(8,.ptr 1 0 0),(9,.int x1.2.1),(10,.int x1.2.2)] [(0,⟨6,[vY]⟩),(1,⟨6,[[.int v7.p,.int v7.q.n,.own 2 0 v7.q.src.length,.own 3 0 v7.q.tgt.length,.own 4 0 v7.dims.length,.own 5 0 x1.1.length]]⟩),(2,⟨1,v7.q.src.map (ow eI)⟩),(3,⟨1,v7.q.tgt.map (ow eI)⟩),(4,⟨1,v7.dims.map (ow eI)⟩),(5,⟨3,x1.1.map (ow eM)⟩)] 6 ⟨0,true,fxW W,true⟩) (λr e t=>e= .exit 0∧Ent t (mN [(6,.ptr 0 0 0),(8,.ptr 1 0 0),(9,.int r.2)] [(0,⟨6,[vY]⟩),(1,⟨6,[[.int v7.p,.int v7.q.n,.own 2 0 v7.q.src.length,.own 3 0 v7.q.tgt.length,.own 4 0 v7.dims.length,.own 5 0 r.1.length]]⟩),(2,⟨1,v7.q.src.map (ow eI)⟩),(3,⟨1,v7.q.tgt.map (ow eI)⟩),(4,⟨1,v7.dims.map (ow eI)⟩),(5,⟨3,r.1.map (ow eM)⟩)] 6 ⟨0,true,fxW W,true⟩)) (pD [1,6,2,3,4,5] (bG k2) (bU k<|fW k<|bP k<|bP k<|bP k<|bX (dA.plainO _) k<|aS) k4) ?_ ?_
 ·intro x1 o h;refine sQ<|sS<|eD k2<|fpS k8<|lpS k8<|se (cB aI k k k k) k<|cmS k4<|sn<|tn<|dB k h (λ_ h=>?_) λ_ h=>aY<|aA<|aA<|sp h ⟨_,k,k,(bJ (bG k2) (bU k<|fW k<|bP k<|bP k<|bP k<|bX (dA.plainO _) k<|aS) k4)⟩;exact aD<|tn<|sQ<|aC<|rgS<|eD k2<|fpS k8<|lpS k8<|eD k2<|oB h λv9 hv9 h=>gO (t:=mN [(6,.ptr 0 0 0),(8,.ptr 1 0 0),(9,.int x1.2.1),(10,.int x1.2.2),(35,.int x1.2.2),(36,.ptr 1 0 5),(37,.own 5 0 x1.1.length),(38,.int ((x1.1.length:Nat):Int)),(39,.bl (decide (x1.2.2<((x1.1.length:Nat):Int)))),(42,.int x1.2.1),(43,.ptr 1 0 5),(44,.own 5 0 x1.1.length),(45,.int x1.2.2)] [(0,⟨6,[vY]⟩),(1,⟨6,[[.int v7.p,.int v7.q.n,.own 2 0 v7.q.src.length,.own 3 0 v7.q.tgt.length,.own 4 0 v7.dims.length,.own 5 0 x1.1.length]]⟩),(2,⟨1,v7.q.src.map (ow eI)⟩),(3,⟨1,v7.q.tgt.map (ow eI)⟩),(4,⟨1,v7.dims.map (ow eI)⟩),(5,⟨3,(x1.1.map (ow eM)).set x1.2.2.toNat [.int v9.rows,.int v9.cols,.abs 1 (v9.cells.map eI)]⟩)] 6 ⟨0,true,fxW W,true⟩) (bJ (bG k2) (bU k<|fW k<|bP k<|bP k<|bP k<|hX ⟨_,k,k,.inl ⟨aAy (dC hv9),yS dA k⟩⟩ k<|aS) k4)<|gO (yT (b:=5) (c:=6) (i:=x1.2.2.toNat) (j:=2) (n:=v9.cells.length) (A:=x1.1.map (ow eM)) (fs:=v9.cells.map (ow eI)) (by rw [dY];exact iP hv9) k k k k (aM _ _) (lY _ _) (aBd ⟨k,k,k,k,k,k,k,k,k,k,k,k,k,aS⟩) (aBe (skip:=[]) ⟨.inr (yZ k),.inr (yZ k),.inr (cU.df _ _),.inr (cU.df _ _),.inr (cU.df _ _),.inr (dA.dfS _ _ _ k),aS⟩))<|gO (t:=mN [(6,.ptr 0 0 0),(8,.ptr 1 0 0),(9,.int x1.2.1),(10,.int x1.2.2),(35,.int x1.2.2),(36,.ptr 1 0 5),(37,.own 5 0 x1.1.length),(38,.int ((x1.1.length:Nat):Int)),(39,.bl (decide (x1.2.2<((x1.1.length:Nat):Int)))),(42,.int x1.2.1),(43,.ptr 1 0 5),(44,.own 5 0 x1.1.length),(45,.int x1.2.2)] [(0,⟨6,[vY]⟩),(1,⟨6,[[.int v7.p,.int v7.q.n,.own 2 0 v7.q.src.length,.own 3 0 v7.q.tgt.length,.own 4 0 v7.dims.length,.own 5 0 x1.1.length]]⟩),(2,⟨1,v7.q.src.map (ow eI)⟩),(3,⟨1,v7.q.tgt.map (ow eI)⟩),(4,⟨1,v7.dims.map (ow eI)⟩),(5,⟨3,(x1.1.map (ow eM)).set x1.2.2.toNat [.int v9.rows,.int v9.cols,.own 6 0 v9.cells.length]⟩),(6,⟨1,v9.cells.map (ow eI)⟩)] 7 ⟨0,true,fxW W,true⟩) (gH (σ:=sg [(0,0),(1,1),(2,2),(3,3),(4,4),(5,5),(6,6)]) (bG k2) (bU k<|fW k<|bP k<|bP k<|bP k<|hX ⟨_,k,k,.inr (aBc (σ:=sg [(0,0),(1,1),(2,2),(3,3),(4,4),(5,5),(6,6)]) (m:=7) (e:=eM) (l:=x1.1) (i:=x1.2.2.toNat) (c:=[.int v9.rows,.int v9.cols,.own 6 0 v9.cells.length]) (d:=[.int v9.rows,.int v9.cols,.own 6 0 v9.cells.length]) dA ⟨_,_,k,k,⟨_,_,k,k,⟨_,_,k,⟨k,k,k,k⟩,k⟩⟩⟩)⟩ k<|bP k<|aS) k)<|se (xo hv9 k) k<|fpS k8<|se (dQ aI k k k k (aDc (iP hv9)) k k) k<|se (cB aI k k k k) k<|se (bC k k) k<|gU k2<|sn<|aZ<|tn<|aN (t:=mN [(6,.ptr 0 0 0),(8,.ptr 1 0 0),(9,.int (wr (x1.2.1+((v9.cells.length:Nat):Int)))),(10,.int x1.2.2)] [(0,⟨6,[vY]⟩),(1,⟨6,[[.int v7.p,.int v7.q.n,.own 2 0 v7.q.src.length,.own 3 0 v7.q.tgt.length,.own 4 0 v7.dims.length,.own 5 0 ((x1.1.set x1.2.2.toNat v9).length)]]⟩),(2,⟨1,v7.q.src.map (ow eI)⟩),(3,⟨1,v7.q.tgt.map (ow eI)⟩),(4,⟨1,v7.dims.map (ow eI)⟩),(5,⟨3,List.map (ow eM) (x1.1.set x1.2.2.toNat v9)⟩)] 7 ⟨0,true,fxW W,true⟩) (Ent.trans (wZ (b:=5) (b':=6) (j:=2) (es':=v9.cells.map eI) (by rw [dY];exact iP hv9) k k k k (aM _ _) (cU.frzs _)) (bJ (bG k2) (bU k<|hX ⟨_,k,k,.inr ⟨_,_,k,⟨_,_,k,k,⟨_,_,k,k,⟨_,_,k,⟨k,k,k,k⟩,⟨_,_,k,⟨k,k,k,k⟩,⟨_,_,k,⟨k,k,k,k⟩,⟨_,_,k,⟨k,k,(by simp only [aM,lA,lT,lR,lC,lN]),k⟩,k⟩⟩⟩⟩⟩⟩,k⟩⟩ k<|bP k<|bP k<|bP k<|hX ⟨_,k,k,.inl ⟨aCP v9 k,dA.plainO _⟩⟩ k<|aS) k4))<|rgS<|eD k2<|se (bC k k) k<|gU k2<|sn<|tn<|sp h ⟨_,k,(bJ (bG k2) (bU k<|fW k<|bP k<|bP k<|bP k<|bX (dA.plainO _) k<|aS) k4)⟩
 ·rintro e t ⟨rfl,hent⟩;refine aJ<|tn<|aN hent<|sQ<|sS<|gU k2<|sn<|tn<|aC<|oB h λy23 hy23 h=>bY (body:=(gE v7 y10)) hy23 (λ(x2:((List Mt)×Int))=>mN [(6,.ptr 0 0 0),(8,.ptr 1 0 0),(9,.int y10.2),(11,.int x2.2)] [(0,⟨6,[vY]⟩),(1,⟨6,[[.int v7.p,.int v7.q.n,.own 2 0 v7.q.src.length,.own 3 0 v7.q.tgt.length,.own 4 0 v7.dims.length,.own 5 0 x2.1.length]]⟩),(2,⟨1,v7.q.src.map (ow eI)⟩),(3,⟨1,v7.q.tgt.map (ow eI)⟩),(4,⟨1,v7.dims.map (ow eI)⟩),(5,⟨3,x2.1.map (ow eM)⟩)] 6 ⟨0,true,fxW W,true⟩) (λr e t=>Sum.elim (λa=>(λr e t=>e= .exit 2∧Ent t (mN [(6,.ptr 0 0 0)] [(0,⟨6,[vY]⟩)] 1 ⟨0,true,fxW W,true⟩)) a e t) (λb=>(λr e t=>e= .ret∧sO TT [.cell 6 29,.tmp 7] (.tuple [.agg (eR r.1),.bl r.2]) .ret t) b e t) r) (bJ (bG k2) (bU k<|fW k<|bP k<|bP k<|bP k<|bX (dA.plainO _) k<|aS) k4) ?_ ?_
  ·intro x2 o h;refine sQ<|sS<|eD k2<|cmS k4<|eD k2<|mX h (λq11 h=>?_) λq11 h=>gP 53 k q11<|bZ k k<|bZ k k<|bZ k k<|bZ k k<|pkS k3<|sn<|tn<|iN k k<|aY<|aA<|aA<|sp h ⟨_,k,k,(bJ (bG k2) (bU k<|aS) k4)⟩;refine gP 53 k q11<|eD k2<|eD k2<|cG h λq22 h=>se (aQv k k q22) k<|cmS k4<|pkS k3<|sn<|tn<|dB k h (λ_ h=>?_) λ_ h=>aY<|aA<|aA<|sp h ⟨_,k,k,(bJ (bG k2) (bU k<|aS) k4)⟩;refine aD<|tn<|sQ<|aC<|sS<|eD k2<|gU k2<|sn<|tn<|sQ<|sS<|fpS k8<|lpS k8<|se (cB aI k k k k) k<|se (gV k k) k<|gU k2<|sn<|tn<|aC<|oB h λy19 hy19 h=>bY (body:=mW) hy19 (λ(x3:((List Mt)×Int×Int))=>mN [(6,.ptr 0 0 0),(8,.ptr 1 0 0),(9,.int y10.2),(11,.int x2.2),(12,.int x3.2.1),(13,.int x3.2.2)] [(0,⟨6,[vY]⟩),(1,⟨6,[[.int v7.p,.int v7.q.n,.own 2 0 v7.q.src.length,.own 3 0 v7.q.tgt.length,.own 4 0 v7.dims.length,.own 5 0 x3.1.length]]⟩),(2,⟨1,v7.q.src.map (ow eI)⟩),(3,⟨1,v7.q.tgt.map (ow eI)⟩),(4,⟨1,v7.dims.map (ow eI)⟩),(5,⟨3,x3.1.map (ow eM)⟩)] 6 ⟨0,true,fxW W,true⟩) (λr e t=>e= .exit 4∧Ent t (mN [(6,.ptr 0 0 0),(8,.ptr 1 0 0),(9,.int y10.2),(11,.int x2.2)] [(0,⟨6,[vY]⟩),(1,⟨6,[[.int v7.p,.int v7.q.n,.own 2 0 v7.q.src.length,.own 3 0 v7.q.tgt.length,.own 4 0 v7.dims.length,.own 5 0 r.length]]⟩),(2,⟨1,v7.q.src.map (ow eI)⟩),(3,⟨1,v7.q.tgt.map (ow eI)⟩),(4,⟨1,v7.dims.map (ow eI)⟩),(5,⟨3,r.map (ow eM)⟩)] 6 ⟨0,true,fxW W,true⟩)) (bJ (bG k2) (bU k<|fW k<|bP k<|bP k<|bP k<|bX (dA.plainO _) k<|aS) k4) ?_ ?_
   ·intro x3 o h;refine sQ<|sS<|eD k2<|cmS k4<|sn<|tn<|dB k h (λ_ h=>?_) λ_ h=>aY<|aA<|aA<|sp h ⟨_,k,k,(bJ (bG k2) (bU k<|fW k<|bP k<|bP k<|bP k<|bX (dA.plainO _) k<|aS) k4)⟩;refine aD<|tn<|sQ<|aC<|sS<|fpS k8<|lpS k8<|eD k2<|oB h λv14 hv14 h=>gO (t:=mN [(6,.ptr 0 0 0),(8,.ptr 1 0 0),(9,.int y10.2),(11,.int x2.2),(12,.int x3.2.1),(13,.int x3.2.2),(66,.int x3.2.2),(67,.bl (decide (0≤x3.2.2))),(70,.ptr 1 0 5),(71,.own 5 0 x3.1.length),(72,.int x3.2.2)] [(0,⟨6,[vY]⟩),(1,⟨6,[[.int v7.p,.int v7.q.n,.own 2 0 v7.q.src.length,.own 3 0 v7.q.tgt.length,.own 4 0 v7.dims.length,.own 5 0 x3.1.length]]⟩),(2,⟨1,v7.q.src.map (ow eI)⟩),(3,⟨1,v7.q.tgt.map (ow eI)⟩),(4,⟨1,v7.dims.map (ow eI)⟩),(5,⟨3,(x3.1.map (ow eM)).set x3.2.2.toNat [.int v14.rows,.int v14.cols,.abs 1 (v14.cells.map eI)]⟩)] 6 ⟨0,true,fxW W,true⟩) (bJ (bG k2) (bU k<|fW k<|bP k<|bP k<|bP k<|hX ⟨_,k,k,.inl ⟨aAy (dC hv14),yS dA k⟩⟩ k<|aS) k4)<|gO (yT (b:=5) (c:=6) (i:=x3.2.2.toNat) (j:=2) (n:=v14.cells.length) (A:=x3.1.map (ow eM)) (fs:=v14.cells.map (ow eI)) (by rw [dY];exact iP hv14) k k k k (aM _ _) (lY _ _) (aBd ⟨k,k,k,k,k,k,k,k,k,k,k,aS⟩) (aBe (skip:=[]) ⟨.inr (yZ k),.inr (yZ k),.inr (cU.df _ _),.inr (cU.df _ _),.inr (cU.df _ _),.inr (dA.dfS _ _ _ k),aS⟩))<|gO (t:=mN [(6,.ptr 0 0 0),(8,.ptr 1 0 0),(9,.int y10.2),(11,.int x2.2),(12,.int x3.2.1),(13,.int x3.2.2),(66,.int x3.2.2),(67,.bl (decide (0≤x3.2.2))),(70,.ptr 1 0 5),(71,.own 5 0 x3.1.length),(72,.int x3.2.2)] [(0,⟨6,[vY]⟩),(1,⟨6,[[.int v7.p,.int v7.q.n,.own 2 0 v7.q.src.length,.own 3 0 v7.q.tgt.length,.own 4 0 v7.dims.length,.own 5 0 x3.1.length]]⟩),(2,⟨1,v7.q.src.map (ow eI)⟩),(3,⟨1,v7.q.tgt.map (ow eI)⟩),(4,⟨1,v7.dims.map (ow eI)⟩),(5,⟨3,(x3.1.map (ow eM)).set x3.2.2.toNat [.int v14.rows,.int v14.cols,.own 6 0 v14.cells.length]⟩),(6,⟨1,v14.cells.map (ow eI)⟩)] 7 ⟨0,true,fxW W,true⟩) (gH (σ:=sg [(0,0),(1,1),(2,2),(3,3),(4,4),(5,5),(6,6)]) (bG k2) (bU k<|fW k<|bP k<|bP k<|bP k<|hX ⟨_,k,k,.inr (aBc (σ:=sg [(0,0),(1,1),(2,2),(3,3),(4,4),(5,5),(6,6)]) (m:=7) (e:=eM) (l:=x3.1) (i:=x3.2.2.toNat) (c:=[.int v14.rows,.int v14.cols,.own 6 0 v14.cells.length]) (d:=[.int v14.rows,.int v14.cols,.own 6 0 v14.cells.length]) dA ⟨_,_,k,k,⟨_,_,k,k,⟨_,_,k,⟨k,k,k,k⟩,k⟩⟩⟩)⟩ k<|bP k<|aS) k)<|se (xo hv14 k) k<|fpS k8<|se (dQ aI k k k k (aDc (iP hv14)) k k) k<|se (cB aI k k k k) k<|se (gV k k) k<|gU k2<|sn<|tn<|aN (t:=mN [(6,.ptr 0 0 0),(8,.ptr 1 0 0),(9,.int y10.2),(11,.int x2.2),(12,.int x3.2.1),(13,.int x3.2.2),(14,.int (wr (((v14.cells.length:Nat):Int) - 1)))] [(0,⟨6,[vY]⟩),(1,⟨6,[[.int v7.p,.int v7.q.n,.own 2 0 v7.q.src.length,.own 3 0 v7.q.tgt.length,.own 4 0 v7.dims.length,.own 5 0 ((x3.1.set x3.2.2.toNat v14).length)]]⟩),(2,⟨1,v7.q.src.map (ow eI)⟩),(3,⟨1,v7.q.tgt.map (ow eI)⟩),(4,⟨1,v7.dims.map (ow eI)⟩),(5,⟨3,List.map (ow eM) (x3.1.set x3.2.2.toNat v14)⟩)] 7 ⟨0,true,fxW W,true⟩) (Ent.trans (wZ (b:=5) (b':=6) (j:=2) (es':=v14.cells.map eI) (by rw [dY];exact iP hv14) k k k k (aM _ _) (cU.frzs _)) (bJ (bG k2) (bU k<|hX ⟨_,k,k,.inr ⟨_,_,k,⟨_,_,k,k,⟨_,_,k,k,⟨_,_,k,⟨k,k,k,k⟩,⟨_,_,k,⟨k,k,k,k⟩,⟨_,_,k,⟨k,k,k,k⟩,⟨_,_,k,⟨k,k,(by simp only [aM,lA,lT,lR,lC,lN]),k⟩,k⟩⟩⟩⟩⟩⟩,k⟩⟩ k<|bP k<|bP k<|bP k<|hX ⟨_,k,k,.inl ⟨aCP v14 k,dA.plainO _⟩⟩ k<|aS) k4))<|aC<|oB h λy18 hy18 h=>bY (body:=(mV x3)) hy18 (λ(x4:((List Mt)×Int×Int))=>mN [(6,.ptr 0 0 0),(8,.ptr 1 0 0),(9,.int y10.2),(11,.int x2.2),(12,.int x4.2.1),(13,.int x3.2.2),(14,.int x4.2.2)] [(0,⟨6,[vY]⟩),(1,⟨6,[[.int v7.p,.int v7.q.n,.own 2 0 v7.q.src.length,.own 3 0 v7.q.tgt.length,.own 4 0 v7.dims.length,.own 5 0 x4.1.length]]⟩),(2,⟨1,v7.q.src.map (ow eI)⟩),(3,⟨1,v7.q.tgt.map (ow eI)⟩),(4,⟨1,v7.dims.map (ow eI)⟩),(5,⟨3,x4.1.map (ow eM)⟩)] 6 ⟨0,true,fxW W,true⟩) (λr e t=>e= .exit 6∧Ent t (mN [(6,.ptr 0 0 0),(8,.ptr 1 0 0),(9,.int y10.2),(11,.int x2.2),(12,.int r.2),(13,.int x3.2.2)] [(0,⟨6,[vY]⟩),(1,⟨6,[[.int v7.p,.int v7.q.n,.own 2 0 v7.q.src.length,.own 3 0 v7.q.tgt.length,.own 4 0 v7.dims.length,.own 5 0 r.1.length]]⟩),(2,⟨1,v7.q.src.map (ow eI)⟩),(3,⟨1,v7.q.tgt.map (ow eI)⟩),(4,⟨1,v7.dims.map (ow eI)⟩),(5,⟨3,r.1.map (ow eM)⟩)] 6 ⟨0,true,fxW W,true⟩)) (bJ (bG k2) (bU k<|fW k<|bP k<|bP k<|bP k<|bX (dA.plainO _) k<|aS) k4) ?_ ?_
    ·intro x4 o h;refine sQ<|sS<|eD k2<|cmS k4<|sn<|tn<|dB k h (λ_ h=>?_) λ_ h=>aY<|aA<|aA<|sp h ⟨_,k,k,(bJ (bG k2) (bU k<|fW k<|bP k<|bP k<|bP k<|bX (dA.plainO _) k<|aS) k4)⟩;refine aD<|tn<|sQ<|aC<|sS<|fpS k8<|lpS k8<|eD k2<|oB h λv16 hv16 h=>gO (t:=mN [(6,.ptr 0 0 0),(8,.ptr 1 0 0),(9,.int y10.2),(11,.int x2.2),(12,.int x4.2.1),(13,.int x3.2.2),(14,.int x4.2.2),(78,.int x4.2.2),(79,.bl (decide (0≤x4.2.2))),(82,.ptr 1 0 5),(83,.own 5 0 x4.1.length),(84,.int x3.2.2)] [(0,⟨6,[vY]⟩),(1,⟨6,[[.int v7.p,.int v7.q.n,.own 2 0 v7.q.src.length,.own 3 0 v7.q.tgt.length,.own 4 0 v7.dims.length,.own 5 0 x4.1.length]]⟩),(2,⟨1,v7.q.src.map (ow eI)⟩),(3,⟨1,v7.q.tgt.map (ow eI)⟩),(4,⟨1,v7.dims.map (ow eI)⟩),(5,⟨3,(x4.1.map (ow eM)).set x3.2.2.toNat [.int v16.rows,.int v16.cols,.abs 1 (v16.cells.map eI)]⟩)] 6 ⟨0,true,fxW W,true⟩) (bJ (bG k2) (bU k<|fW k<|bP k<|bP k<|bP k<|hX ⟨_,k,k,.inl ⟨aAy (dC hv16),yS dA k⟩⟩ k<|aS) k4)<|gO (yT (b:=5) (c:=6) (i:=x3.2.2.toNat) (j:=2) (n:=v16.cells.length) (A:=x4.1.map (ow eM)) (fs:=v16.cells.map (ow eI)) (by rw [dY];exact iP hv16) k k k k (aM _ _) (lY _ _) (aBd ⟨k,k,k,k,k,k,k,k,k,k,k,k,aS⟩) (aBe (skip:=[]) ⟨.inr (yZ k),.inr (yZ k),.inr (cU.df _ _),.inr (cU.df _ _),.inr (cU.df _ _),.inr (dA.dfS _ _ _ k),aS⟩))<|gO (t:=mN [(6,.ptr 0 0 0),(8,.ptr 1 0 0),(9,.int y10.2),(11,.int x2.2),(12,.int x4.2.1),(13,.int x3.2.2),(14,.int x4.2.2),(78,.int x4.2.2),(79,.bl (decide (0≤x4.2.2))),(82,.ptr 1 0 5),(83,.own 5 0 x4.1.length),(84,.int x3.2.2)] [(0,⟨6,[vY]⟩),(1,⟨6,[[.int v7.p,.int v7.q.n,.own 2 0 v7.q.src.length,.own 3 0 v7.q.tgt.length,.own 4 0 v7.dims.length,.own 5 0 x4.1.length]]⟩),(2,⟨1,v7.q.src.map (ow eI)⟩),(3,⟨1,v7.q.tgt.map (ow eI)⟩),(4,⟨1,v7.dims.map (ow eI)⟩),(5,⟨3,(x4.1.map (ow eM)).set x3.2.2.toNat [.int v16.rows,.int v16.cols,.own 6 0 v16.cells.length]⟩),(6,⟨1,v16.cells.map (ow eI)⟩)] 7 ⟨0,true,fxW W,true⟩) (gH (σ:=sg [(0,0),(1,1),(2,2),(3,3),(4,4),(5,5),(6,6)]) (bG k2) (bU k<|fW k<|bP k<|bP k<|bP k<|hX ⟨_,k,k,.inr (aBc (σ:=sg [(0,0),(1,1),(2,2),(3,3),(4,4),(5,5),(6,6)]) (m:=7) (e:=eM) (l:=x4.1) (i:=x3.2.2.toNat) (c:=[.int v16.rows,.int v16.cols,.own 6 0 v16.cells.length]) (d:=[.int v16.rows,.int v16.cols,.own 6 0 v16.cells.length]) dA ⟨_,_,k,k,⟨_,_,k,k,⟨_,_,k,⟨k,k,k,k⟩,k⟩⟩⟩)⟩ k<|bP k<|aS) k)<|se (xo hv16 k) k<|fpS k8<|se (dQ aI k k k k (aDc (iP hv16)) k k) k<|eD k2<|eD k2<|se (aFn k k (by decide)) k<|oB h λv17 hv17 h=>se (xo hv17 k) k<|se (eH aI jI (u:=x4.2.1.tmod 2) (dC hv17) k k k k k k) k<|sn<|tn<|aN (t:=mN [(6,.ptr 0 0 0),(8,.ptr 1 0 0),(9,.int y10.2),(11,.int x2.2),(12,.int x4.2.1),(13,.int x3.2.2),(14,.int x4.2.2)] [(0,⟨6,[vY]⟩),(1,⟨6,[[.int v7.p,.int v7.q.n,.own 2 0 v7.q.src.length,.own 3 0 v7.q.tgt.length,.own 4 0 v7.dims.length,.own 5 0 ((x4.1.set x3.2.2.toNat (⟨v16.rows,v16.cols,(v16.cells.set x4.2.2.toNat (x4.2.1.tmod 2))⟩:Mt)).length)]]⟩),(2,⟨1,v7.q.src.map (ow eI)⟩),(3,⟨1,v7.q.tgt.map (ow eI)⟩),(4,⟨1,v7.dims.map (ow eI)⟩),(5,⟨3,List.map (ow eM) (x4.1.set x3.2.2.toNat (⟨v16.rows,v16.cols,(v16.cells.set x4.2.2.toNat (x4.2.1.tmod 2))⟩:Mt))⟩)] 7 ⟨0,true,fxW W,true⟩) (Ent.trans (wZ (b:=5) (b':=6) (j:=2) (es':=List.map eI (v16.cells.set x4.2.2.toNat (x4.2.1.tmod 2))) (by rw [dY];exact iP hv16) k k k k (by simp only [aM,lA,lT,lR,lC,lN]) (cU.frzs _)) (bJ (bG k2) (bU k<|hX ⟨_,k,k,.inr ⟨_,_,k,⟨_,_,k,k,⟨_,_,k,k,⟨_,_,k,⟨k,k,k,k⟩,⟨_,_,k,⟨k,k,k,k⟩,⟨_,_,k,⟨k,k,k,k⟩,⟨_,_,k,⟨k,k,(by simp only [aM,lA,lT,lR,lC,lN]),k⟩,k⟩⟩⟩⟩⟩⟩,k⟩⟩ k<|bP k<|bP k<|bP k<|hX ⟨_,k,k,.inl ⟨aCP (⟨v16.rows,v16.cols,(v16.cells.set x4.2.2.toNat (x4.2.1.tmod 2))⟩:Mt) k,dA.plainO _⟩⟩ k<|aS) k4))<|rgS<|eD k2<|se (aUY k k (by decide)) k<|gU k2<|sn<|aZ ?_;exact tn<|rgS<|eD k2<|se (gV k k) k<|gU k2<|sn<|tn<|sp h ⟨_,k,(bJ (bG k2) (bU k<|fW k<|bP k<|bP k<|bP k<|bX (dA.plainO _) k<|aS) k4)⟩
    ·rintro e t ⟨rfl,hent⟩;exact aJ<|aZ<|tn<|aN hent<|rgS<|eD k2<|se (gV k k) k<|gU k2<|sn<|tn<|sp h ⟨_,k,(bJ (bG k2) (bU k<|fW k<|bP k<|bP k<|bP k<|bX (dA.plainO _) k<|aS) k4)⟩
   ·rintro e t ⟨rfl,hent⟩;exact aJ<|tn<|aN hent<|sS<|lpS k8<|lpS k8<|oB h λv20 hv20 h=>se (oC (aDQ (⟨v7.p,v7.q,v7.dims,y19⟩:Rp) (⟨v7.p,v7.q,v7.dims,y19⟩:Rp) v20 hv20) k (jR (.inl (vaR k8)) (jR (.inl (vaR k8)) pC))) k<|cmS k4<|sn<|tn<|dB k h (λ_ h=>sS<|lpS k8<|se (ws k) k<|gU k2<|sn<|tn<|aE<|bN<|aG<|aG<|sp h ⟨_,k,k,bO k k k (cW k (bT (vU (bB (k) (bB (k) (bB (fE cU k k) (bB (fE cU k k) (bB (fE cU k k) (bB (fE dA k k) gX))))))) (bT (k) eY)))⟩) λ_ h=>aD<|aZ<|tn<|rgS<|eD k2<|se (bC k k) k<|gU k2<|sn<|tn<|sp h ⟨_,k,(bJ (bG k2) (bU k<|fW k<|bP k<|bP k<|bP k<|bX (dA.plainO _) k<|aS) k4)⟩
  ·intro e t hX;rcases y23 with y24|y25
   ·obtain ⟨rfl,hent⟩:=hX;exact aJ<|tn<|aN hent<|sS<|se (kO aI k k k k k k) k<|se (ws k) k<|gU k2<|sn<|tn<|aE<|sp h (bO k k k (cW k (bT (vU (bB (k) (bB (k) (bB (k) (bB (k) (bB (k) (bB (k) gX))))))) (bT (k) eY))))
   ·obtain ⟨rfl,hent⟩:=hX;exact bN<|aG<|sp h hent
def eK (a0:Int) (a1:Qv) (v1:((List (List Int))×Bool)) (x1:((List Rp)×Int)):Option (((List Rp)×Int) ⊕ ((List Rp) ⊕ ((List Rp)×Bool))):=
 bif decide (x1.2<((v1.1.length:Nat):Int)) then
 ((cF v1.1 x1.2).bind λv4=>
 (vH a0 a1 v4).bind λv5=>
 bif !v5.2 then
 (some (.inr (.inr (([],false)))))
 else
 (bif decide (x1.1.length+1≤4294967296) then
 (some (.inl ((x1.1++[v5.1]),wr (x1.2+1))))
 else none))
 else
 (some (.inr (.inl x1.1)))
def jD (a0:Int) (a1:Qv):Option ((List Rp)×Bool):=
 (dT a1).bind λv1=>
 bif !v1.2 then
 (some (([],false)))
 else
 ((Lp (eK a0 a1 v1) ([],0)).bind λy8=>
 Sum.elim (λy9=>
 some ((y9,true))
 )
 (λy10=>
 some y10
 )
 y8)
theorem aAd (a0:Int) (a1:Qv) (r:((List Rp)×Bool)) (h:jD a0 a1=some r):HasC Tryz.prog 36 [.int a0,.agg (eQ a1)] (.tuple [.list 6 (r.1.map eR),.bl r.2]):=by
 refine hM [.tmp 4,.tmp 5] Tryz.func36 Tryz.ntmps36 k<|sR<|ae (wb k) k<|aa k k<|aT k2<|sR<|lp k8<|oB h λv1 hv1 h=>ae (jM (σ:=sg []) (σ':=sg [(1,0)]) (touch:=[]) (news:=[1]) (hl2:=[(1,⟨1,v1.1.map (cA 1 eI)⟩)]) (n':=2) (r2:= .tuple [.own 1 0 v1.1.length,.bl v1.2]) (rE a1 v1 hv1) k k ⟨_,_,k,(.inl ⟨_,_,k,k,⟨_,_,k,⟨k,k⟩,⟨_,_,k,⟨k,k⟩,k⟩⟩⟩),k⟩ aS k k k ⟨⟨_,k,k,.inl ⟨k,aV.plainE _⟩⟩,k,aS⟩ k (.inr ⟨_,_,k,k,⟨_,_,k,⟨k,k,(by simp only [aM,lA,lT,lR,lC,lN]),k⟩,⟨_,_,k,k,k⟩⟩⟩) k ⟨k,aV.tamdE _ _,aS⟩ k k) k<|am k k<|ae (bW k k (by intro _ h;cases h)) k<|ae (bW k k (by intro _ h;cases h)) k<|aa k k<|aT k2<|sQ<|sR<|am k k<|ae (dZ k) k<|an<|tn<|dB k h (λ_ h=>sR<|aa k k<|aT k2<|aE<|aG<|sp h (bO k k k (cW k (bT (iQ (k)) (bT (k) eY))))) λ_ h=>?_;refine aD<|tn<|sR<|aT k2<|sQ<|sR<|am k k<|ae (cB aI k k k k) k<|am k k<|an<|tn<|aC<|oB h λy8 hy8 h=>bY (body:=(eK a0 a1 v1)) hy8 (λ(x1:((List Rp)×Int))=>mN [(0,.int a0),(3,.ptr 0 0 0),(8,.own 1 0 x1.1.length),(20,.own 2 0 v1.1.length),(21,.int ((v1.1.length:Nat):Int)),(22,.int x1.2)] [(0,⟨3,[eQ a1]⟩),(1,⟨6,x1.1.map (ow eR)⟩),(2,⟨1,v1.1.map (cA 1 eI)⟩)] 3) (λr e t=>Sum.elim (λa=>(λr e t=>e= .exit 0∧Ent t (mN [(8,.own 0 0 r.length)] [(0,⟨6,r.map (ow eR)⟩)] 1)) a e t) (λb=>(λr e t=>e= .ret∧sO TT [.tmp 4,.tmp 5] (.tuple [.list 6 (r.1.map eR),.bl r.2]) .ret t) b e t) r) (gH (σ:=sg [(0,0),(2,1)]) (lB 2 k2 (iG ⟨_,k,⟨k,k,k,k⟩⟩ (bG k2))) (bU k<|hX k k<|bX (aV.plainE _) k<|aS) k) ?_ ?_
 ·intro x1 o h;refine sR<|cm k4<|an<|tn<|sQ<|dB k h (λ_ h=>?_) λ_ h=>aY<|aA<|aA<|sp h ⟨_,k,k,(pD [1] (bG k2) (bX (mI.plainO _) k<|aS) k4)⟩;refine aD<|tn<|sQ<|aC<|sR<|oB h λv4 hv4 h=>ae (xo hv4 k) k<|ae (wp hv4 k) k<|aT k2<|sR<|am k k<|lp k8<|am k k<|oB h λv5 hv5 h=>ae (AEff.conv (uT (x:= .tuple [.agg [.int v5.1.p,.int v5.1.q.n,.own 3 0 (v5.1.q.src.map eI).length,.own 4 0 (v5.1.q.tgt.map eI).length,.own 5 0 (v5.1.dims.map eI).length,.own 6 0 (v5.1.maps.map eM).length],.bl v5.2]) (nb:=[(3,⟨1,eB (v5.1.q.src.map eI)⟩),(4,⟨1,eB (v5.1.q.tgt.map eI)⟩),(5,⟨1,eB (v5.1.dims.map eI)⟩),(6,⟨3,eB (v5.1.maps.map eM)⟩)]) (aHw a0 a1 v4 v5 hv5) k (by rfl) k k (nF (eC aS (eC aS (eC (cU.good _) (eC (cU.good _) (eC (cU.good _) (eC (dA.good _) aCK)))))) (nF aS aCL)) (dI k (aW (kL k) (dI k aO)))) (v':= .tuple [.agg [.int v5.1.p,.int v5.1.q.n,.own 3 0 v5.1.q.src.length,.own 4 0 v5.1.q.tgt.length,.own 5 0 v5.1.dims.length,.own 6 0 v5.1.maps.length],.bl v5.2]) (ed':=[(3,some ⟨1,v5.1.q.src.map (ow eI)⟩),(4,some ⟨1,v5.1.q.tgt.map (ow eI)⟩),(5,some ⟨1,v5.1.dims.map (ow eI)⟩),(6,some ⟨3,v5.1.maps.map (ow eM)⟩)]) (by simp only [aM]) (aCJ (nb':=[(3,⟨1,v5.1.q.src.map (ow eI)⟩),(4,⟨1,v5.1.q.tgt.map (ow eI)⟩),(5,⟨1,v5.1.dims.map (ow eI)⟩),(6,⟨3,v5.1.maps.map (ow eM)⟩)]) (by simp only [lY]))) k<|am k k<|ae (bW k k (by intro _ h;cases h)) k<|ae (bW k k (by intro _ h;cases h)) k<|ae (cN aI k k) k<|ae (ws k) k<|aT k2<|sQ<|sR<|am k k ?_;exact ae (dZ k) k<|an<|tn<|dB k h (λ_ h=>sR<|aa k k<|aT k2<|aE<|aG<|bN<|aG<|aG<|sp h ⟨_,k,k,bO k k k (cW k (bT (iQ (k)) (bT (k) eY)))⟩) λ_ h=>aD<|tn<|rg<|am k k<|lp k8<|ae (wl k) k<|cG h λq7 h=>ae (lH aI (l:=x1.1) (c:=[.int v5.1.p,.int v5.1.q.n,.own 3 0 v5.1.q.src.length,.own 4 0 v5.1.q.tgt.length,.own 5 0 v5.1.dims.length,.own 6 0 v5.1.maps.length]) q7 k k k k k k k k k k k k k k) k<|aa k k<|an<|aZ<|tn<|aN (t:=mN [(0,.int a0),(3,.ptr 0 0 0),(8,.own 9 0 ((x1.1++[v5.1]).length)),(20,.own 2 0 v1.1.length),(21,.int ((v1.1.length:Nat):Int)),(22,.int x1.2)] [(0,⟨3,[eQ a1]⟩),(2,⟨1,v1.1.map (cA 1 eI)⟩),(9,⟨6,List.map (ow eR) (x1.1++[v5.1])⟩)] 10) (Ent.trans (eO (b:=9) (b':=3) (j:=2) (es':=v5.1.q.src.map eI) k k k k (aM _ _) (cU.frzs _)) (Ent.trans (eO (b:=9) (b':=4) (j:=3) (es':=v5.1.q.tgt.map eI) k k k k (aM _ _) (cU.frzs _)) (Ent.trans (eO (b:=9) (b':=5) (j:=4) (es':=v5.1.dims.map eI) k k k k (aM _ _) (cU.frzs _)) (Ent.trans (eO (b:=9) (b':=6) (j:=5) (es':=v5.1.maps.map eM) k k k k (aM _ _) (dA.frzs _)) (bJ (lB 2 k2 (iG ⟨_,k,⟨k,k,(by simp only [aM,lA,lT,lR,lC,lN]),k⟩⟩ (bG k2))) (bU k<|bX (aV.plainE _) k<|hX ⟨_,k,k,.inl ⟨mJ v5.1 k,mI.plainO _⟩⟩ k<|aS) k4)))))<|rg<|ae (bC k k) k<|am k k<|an<|tn<|sp h ⟨_,k,(pD [0,9,2] (bG k2) (bU k<|bX (mI.plainO _) k<|bX (aV.plainE _) k<|aS) k4)⟩
 ·intro e t hX;rcases y8 with y9|y10
  ·obtain ⟨rfl,hent⟩:=hX;exact aJ<|tn<|aN hent<|sR<|am k k<|aa k k<|aT k2<|aE<|sp h (bO k k k (cW k (bT (iQ (fE mI k k)) (bT (k) eY))))
  ·obtain ⟨rfl,hent⟩:=hX;exact bN<|aG<|sp h hent
def eN (a0:Int) (a1:Qv) (v1:((List (List Int))×Bool)) (x1:((List Rp)×Int)):Option (((List Rp)×Int) ⊕ ((List Rp) ⊕ ((List Rp)×Bool))):=
 bif decide (x1.2<((v1.1.length:Nat):Int)) then
 (bif v1.2 then
 ((cF v1.1 x1.2).bind λv4=>
 (vI a0 a1 v4).bind λv5=>
 bif !v5.2 then
 (some (.inr (.inr ((([]:(List Rp)),false)))))
 else
 (bif decide (x1.1.length+1≤4294967296) then
 (some (.inl ((x1.1++[v5.1]),wr (x1.2+1))))
 else none))
 else
 (some (.inr (.inl x1.1))))
 else
 (some (.inr (.inl x1.1)))
def jE (a0:Int) (a1:Qv):Option ((List Rp)×Bool):=
 (cX a1).bind λv1=>
 (Lp (eN a0 a1 v1) (([]:(List Rp)),0)).bind λy8=>
 Sum.elim (λy9=>
 bif v1.2 then
 ((lK a0).bind λv11=>
 some ((y9,v11)))
 else
 (some ((y9,false)))
 )
 (λy12=>
 some y12
 )
 y8
theorem aAe (a0:Int) (a1:Qv) (r:((List Rp)×Bool)) (h:jE a0 a1=some r):HasC Tryz.prog 32 [.int a0,.agg (eQ a1)] (.tuple [.list 6 (r.1.map eR),.bl r.2]):=by
 refine hM [.tmp 4,.tmp 5] Tryz.func32 Tryz.ntmps32 k<|sR<|ae (wb k) k<|aa k k<|aT k2<|sR<|lp k8<|oB h λv1 hv1 h=>ae (jM (σ:=sg []) (σ':=sg [(1,0)]) (touch:=[]) (news:=[1]) (hl2:=[(1,⟨1,v1.1.map (cA 1 eI)⟩)]) (n':=2) (r2:= .tuple [.own 1 0 v1.1.length,.bl v1.2]) (mS a1 v1 hv1) k k ⟨_,_,k,(.inl ⟨_,_,k,k,⟨_,_,k,⟨k,k⟩,⟨_,_,k,⟨k,k⟩,k⟩⟩⟩),k⟩ aS k k k ⟨⟨_,k,k,.inl ⟨k,aV.plainE _⟩⟩,k,aS⟩ k (.inr ⟨_,_,k,k,⟨_,_,k,⟨k,k,(by simp only [aM,lA,lT,lR,lC,lN]),k⟩,⟨_,_,k,k,k⟩⟩⟩) k ⟨k,aV.tamdE _ _,aS⟩ k k) k<|am k k<|ae (bW k k (by intro _ h;cases h)) k<|ae (bW k k (by intro _ h;cases h)) k<|aa k k<|aT k2<|sR<|ae (wl k) k<|aT k2<|aN (t:=mN [(0,.int a0),(3,.ptr 0 0 0),(6,.own 1 0 v1.1.length),(7,.bl v1.2),(8,.own 2 0 (([]:(List Rp)).length))] [(0,⟨3,[eQ a1]⟩),(1,⟨1,v1.1.map (cA 1 eI)⟩),(2,⟨6,List.map (ow eR) ([]:(List Rp))⟩)] 3) (bJ (lB 4 k2 (iG ⟨_,k,⟨k,k,(by simp only [aM,lA,lT,lR,lC,lN]),k⟩⟩ aS)) (bU k<|bX (aV.plainE _) k<|bX (mI.plainO _) k<|aS) k4)<|sQ<|sR<|aa k k ?_;refine an<|tn<|aC<|oB h λy8 hy8 h=>bY (body:=(eN a0 a1 v1)) hy8 (λ(x1:((List Rp)×Int))=>mN [(0,.int a0),(3,.ptr 0 0 0),(6,.own 1 0 v1.1.length),(7,.bl v1.2),(8,.own 2 0 x1.1.length),(9,.int x1.2)] [(0,⟨3,[eQ a1]⟩),(1,⟨1,v1.1.map (cA 1 eI)⟩),(2,⟨6,x1.1.map (ow eR)⟩)] 3) (λr e t=>Sum.elim (λa=>(λr e t=>e= .exit 0∧Ent t (mN [(0,.int a0),(7,.bl v1.2),(8,.own 0 0 r.length)] [(0,⟨6,r.map (ow eR)⟩)] 1)) a e t) (λb=>(λr e t=>e= .ret∧sO TT [.tmp 4,.tmp 5] (.tuple [.list 6 (r.1.map eR),.bl r.2]) .ret t) b e t) r) (bJ (bG k2) (bU k<|bX (aV.plainE _) k<|bX (mI.plainO _) k<|aS) k4) ?_ ?_
 ·intro x1 o h;refine sQ<|sR<|am k k<|am k k<|ae (cB aI k k k k) k<|cm k4<|am k k<|mX h (λq2 h=>?_) λq2 h=>aL 22 k q2<|ak k k<|pk k3<|an<|tn<|iN k k<|aY<|aA<|aA<|sp h ⟨_,k,k,(pD [2] (bG k2) (bX (mI.plainO _) k<|aS) k4)⟩;refine aL 22 k q2<|am k k<|pk k3<|an<|tn<|dB k h (λ_ h=>?_) λ_ h=>aY<|aA<|aA<|sp h ⟨_,k,k,(pD [2] (bG k2) (bX (mI.plainO _) k<|aS) k4)⟩;exact aD<|tn<|sQ<|aC<|sQ<|aP gK<|am k k<|lp k8<|am k k<|am k k<|oB h λv4 hv4 h=>ae (xo hv4 k) k<|ae (wp hv4 k) k<|oB h λv5 hv5 h=>ae (AEff.conv (uT (x:= .tuple [.agg [.int v5.1.p,.int v5.1.q.n,.own 3 0 (v5.1.q.src.map eI).length,.own 4 0 (v5.1.q.tgt.map eI).length,.own 5 0 (v5.1.dims.map eI).length,.own 6 0 (v5.1.maps.map eM).length],.bl v5.2]) (nb:=[(3,⟨1,eB (v5.1.q.src.map eI)⟩),(4,⟨1,eB (v5.1.q.tgt.map eI)⟩),(5,⟨1,eB (v5.1.dims.map eI)⟩),(6,⟨3,eB (v5.1.maps.map eM)⟩)]) (aHx a0 a1 v4 v5 hv5) k (by rfl) k k (nF (eC aS (eC aS (eC (cU.good _) (eC (cU.good _) (eC (cU.good _) (eC (dA.good _) aCK)))))) (nF aS aCL)) (dI k (aW (kL k) (dI k aO)))) (v':= .tuple [.agg [.int v5.1.p,.int v5.1.q.n,.own 3 0 v5.1.q.src.length,.own 4 0 v5.1.q.tgt.length,.own 5 0 v5.1.dims.length,.own 6 0 v5.1.maps.length],.bl v5.2]) (ed':=[(3,some ⟨1,v5.1.q.src.map (ow eI)⟩),(4,some ⟨1,v5.1.q.tgt.map (ow eI)⟩),(5,some ⟨1,v5.1.dims.map (ow eI)⟩),(6,some ⟨3,v5.1.maps.map (ow eM)⟩)]) (by simp only [aM]) (aCJ (nb':=[(3,⟨1,v5.1.q.src.map (ow eI)⟩),(4,⟨1,v5.1.q.tgt.map (ow eI)⟩),(5,⟨1,v5.1.dims.map (ow eI)⟩),(6,⟨3,v5.1.maps.map (ow eM)⟩)]) (by simp only [lY]))) k<|am k k<|ae (bW k k (by intro _ h;cases h)) k<|ae (bW k k (by intro _ h;cases h)) k<|ae (cN aI k k) k<|ae (ws k) k<|aa k k<|an<|rI (by kernel_rfl)<|tn<|sQ<|sR<|am k k<|ae (dZ k) k<|an<|tn<|dB k h (λ_ h=>sR<|ae (wl k) k<|aa k k<|aT k2<|aN (t:=mN [(4,.own 8 0 (([]:(List Rp)).length)),(5,.bl false)] [(8,⟨6,List.map (ow eR) ([]:(List Rp))⟩)] 9) (bJ (iG ⟨_,k,⟨k,k,(by simp only [aM,lA,lT,lR,lC,lN]),k⟩⟩ (bG k2)) (bX (mI.plainO _) k<|aS) k4)<|aE<|aG<|bN<|aG<|aG<|sp h ⟨_,k,k,bO k k k (cW k (bT (iQ (fE mI k k)) (bT (k) eY)))⟩) λ_ h=>aD<|tn<|rg<|am k k<|lp k8<|ae (wl k) k<|cG h λq7 h=>ae (lH aI (l:=x1.1) (c:=[.int v5.1.p,.int v5.1.q.n,.own 3 0 v5.1.q.src.length,.own 4 0 v5.1.q.tgt.length,.own 5 0 v5.1.dims.length,.own 6 0 v5.1.maps.length]) q7 k k k k k k k k k k k k k k) k<|aa k k<|an<|aZ<|tn<|aN (t:=mN [(0,.int a0),(3,.ptr 0 0 0),(6,.own 1 0 v1.1.length),(7,.bl v1.2),(8,.own 9 0 ((x1.1++[v5.1]).length)),(9,.int x1.2)] [(0,⟨3,[eQ a1]⟩),(1,⟨1,v1.1.map (cA 1 eI)⟩),(9,⟨6,List.map (ow eR) (x1.1++[v5.1])⟩)] 10) (Ent.trans (eO (b:=9) (b':=3) (j:=2) (es':=v5.1.q.src.map eI) k k k k (aM _ _) (cU.frzs _)) (Ent.trans (eO (b:=9) (b':=4) (j:=3) (es':=v5.1.q.tgt.map eI) k k k k (aM _ _) (cU.frzs _)) (Ent.trans (eO (b:=9) (b':=5) (j:=4) (es':=v5.1.dims.map eI) k k k k (aM _ _) (cU.frzs _)) (Ent.trans (eO (b:=9) (b':=6) (j:=5) (es':=v5.1.maps.map eM) k k k k (aM _ _) (dA.frzs _)) (bJ (lB 4 k2 (iG ⟨_,k,⟨k,k,(by simp only [aM,lA,lT,lR,lC,lN]),k⟩⟩ (bG k2))) (bU k<|bX (aV.plainE _) k<|hX ⟨_,k,k,.inl ⟨mJ v5.1 k,mI.plainO _⟩⟩ k<|aS) k4)))))<|rg<|am k k<|ae (bC k k) k<|aT k2<|sp h ⟨_,k,(pD [0,1,9] (bG k2) (bU k<|bX (aV.plainE _) k<|bX (mI.plainO _) k<|aS) k4)⟩
 ·intro e t hX;rcases y8 with y9|y12
  ·obtain ⟨rfl,hent⟩:=hX;exact aJ<|tn<|aN hent<|sR<|am k k<|am k k<|am k k<|mX h (λq10 h=>aL 46 k q10<|am k k<|oB h λv11 hv11 h=>ae (aR (rC a0 v11 hv11) k (dI k aO)) k<|pk k3<|aa k k<|aT k2<|aE<|sp h (bO k k k (cW k (bT (iQ (fE mI k k)) (bT (k) eY))))) λq10 h=>aL 46 k q10<|aK k4<|pk k3<|aa k k<|aT k2<|aE<|sp h (bO k k k (cW k (bT (iQ (fE mI k k)) (bT (k) eY))))
  ·obtain ⟨rfl,hent⟩:=hX;exact bN<|aG<|sp h hent
end
noncomputable section
def dg (N c t:Nat):Int:=((c / 2 ^ (N - 1 - t) % 2:Nat):Int)
def aHy (N c:Nat):List Int:=(List.range N).map (dg N c)
theorem aHz (N c:Nat):aHy (N+1) c=((c / 2 ^ N % 2:Nat):Int)::(List.range N).map λt=>dg (N+1) c (t+1):=by
 unfold aHy;rw [List.range_succ_eq_map,List.map_cons,List.map_map];rfl
theorem aRF {N c t:Nat} :dg (N+1) c (t+1)=dg N c t:=by
 unfold dg;rw [show N+1 - 1 - (t+1)=N - 1 - t by omega]
theorem aSc {N c t:Nat} (h:t<N):dg (N+1) (2 ^ N+c) (t+1)=dg N c t:=by
 rw [aRF];unfold dg;congr 1;have e:2 ^ N=2 ^ (N - 1 - t)*(2 ^ t*2):=by rw [←Nat.pow_succ,←Nat.pow_add];congr 1;omega
 rw [e,Nat.mul_add_div (Nat.two_pow_pos _)];generalize 2 ^ t=a;omega
theorem aIA: ∀ N,cV (List.replicate N 1)=(List.range (2 ^ N)).map (aHy N)
 |0=>rfl
 |N+1=>by
  have hp:0<2 ^ N:=Nat.two_pow_pos N
  have e1:cV (List.replicate (N+1) 1)=(cV (List.replicate N 1)).map ((0:Int):: ·)++(cV (List.replicate N 1)).map ((1:Int):: ·):=by
   rw [List.replicate_succ];show (List.range 2).flatMap (λ(i:Nat)=>(cV (List.replicate N 1)).map λx=>(i:Int)::x)=_;rw [show List.range 2=[0,1] from rfl];simp
  rw [e1,aIA N,show 2 ^ (N+1)=2 ^ N+2 ^ N by rw [Nat.pow_succ];omega,List.range_add,List.map_append,List.map_map,List.map_map,List.map_map];congr 1
  ·refine mH λc hc=>?_;have hc:=List.mem_range.1 hc;simp only [Function.comp];rw [aHz,Nat.div_eq_of_lt hc];congr 1;exact mH λt ht=>aRF.symm
  ·refine mH λc hc=>?_;have hc:=List.mem_range.1 hc;simp only [Function.comp];rw [aHz,Nat.add_div_left _ hp,Nat.div_eq_of_lt hc];congr 1;exact mH λt ht=>(aSc (List.mem_range.1 ht)).symm
theorem aMM (l:Nat→Nat) (g:Nat→Int): ∀ k,cat l (λv y=>g (off l v+y)) k=(List.range (off l k)).map g
 |0=>rfl
 |k+1=>by
  rw [cat,aMM l g k,off,List.range_add,List.map_append,List.map_map];rfl
def xV (k:Nat) (r c:Nat→Int) (l:Nat→Nat) (F:Nat→Nat→Int):List Mt:=(List.range k).map λv=>⟨r v,c v,(List.range (l v)).map (F v)⟩
def aKo (l:Nat→Nat) (N code T:Nat) (F:Nat→Nat→Int):Nat→Nat→Int:=λv y=>if T≤off l v+y then dg N code (off l v+y) else F v y
def dgM (l:Nat→Nat) (N code:Nat):Nat→Nat→Int:=λv y=>dg N code (off l v+y)
theorem aCW {α:Type} (n k:Nat) (f:Nat→α) (v:α):((List.range n).map f).set k v=(List.range n).map λi=>if i=k then v else f i:=by
 refine List.ext_getElem (by simp) λt h1 h2=>?_;rw [List.getElem_set,List.getElem_map,List.getElem_map,List.getElem_range];by_cases e:k=t
 ·rw [aU e,aU e.symm]
 ·rw [aQ e,aQ λh=>e h.symm]
section
variable {k:Nat} {r c:Nat→Int} {l:Nat→Nat}
theorem aOf {F G:Nat→Nat→Int} (h: ∀ v,v<k→ ∀ y,y<l v→F v y=G v y):xV k r c l F=xV k r c l G:=by
 refine mH λv hv=>?_;congr 1;exact mH λy hy=>h v (List.mem_range.1 hv) y (List.mem_range.1 hy)
theorem aNh {F:Nat→Nat→Int} {v:Nat} (hv:v<k):cF (xV k r c l F) (v:Int)=some ⟨r v,c v,(List.range (l v)).map (F v)⟩:=wT hv
theorem aDC {F:Nat→Nat→Int} :(xV k r c l F).length=k:=by unfold xV;simp
theorem aSd {F:Nat→Nat→Int} {i y:Nat} {z:Int} (hi:i<k):(xV k r c l F).set i ⟨r i,c i,((List.range (l i)).map (F i)).set y z⟩=xV k r c l (λv x=>if v=i∧x=y then z else F v x):=by
 unfold xV;rw [aCW];refine mH λv hv=>?_;by_cases e:v=i
 ·subst e;rw [aU rfl,aCW];congr 1;refine mH λx hx=>?_;by_cases e2:x=y
  ·simp [e2]
  ·simp [e2]
 ·rw [aQ e];congr 1;exact mH λx hx=>by simp only;rw [aQ λh=>e h.1]
theorem aMN {F:Nat→Nat→Int} {i:Nat} (hi:i<k):(xV k r c l F).set i ⟨r i,c i,(List.range (l i)).map (F i)⟩=xV k r c l F:=by
 unfold xV;rw [aCW];refine mH λv hv=>?_;by_cases e:v=i
 ·subst e;rw [aU rfl]
 ·rw [aQ e]
theorem aRG {F:Nat→Nat→Int} {N code i y:Nat} (hi:i<k) (hy:y<l i):xV k r c l (λv x=>if v=i∧x=y then dg N code (off l i+y) else aKo l N code (off l i+y+1) F v x)=xV k r c l (aKo l N code (off l i+y) F):=by
 refine aOf λv hv x hx=>?_;unfold aKo;by_cases e:v=i∧x=y
 ·obtain ⟨rfl,rfl⟩:=e;rw [aU ⟨rfl,rfl⟩,aU (bK _)]
 ·rw [aQ e];have hne:off l v+x≠off l i+y:=λh=>e (aOX hx hy h);by_cases h:off l i+y≤off l v+x
  ·rw [aU (by omega),aU h]
  ·rw [aQ (by omega),aQ h]
theorem aTs {F:Nat→Nat→Int} {N code i:Nat} (hk:k≤1000) (hN:off l k=N) (hN1:N≤1000) (hc:code≤1048576) (hi:i<k) (X:List Mt) (c0:Int):
  Lp (mV (X,c0,(i:Int))) (xV k r c l (aKo l N code (off l (i+1)) F),((code / 2 ^ (N - off l (i+1)):Nat):Int),(l i:Int) - 1)=some (xV k r c l (aKo l N code (off l i) F),((code / 2 ^ (N - off l i):Nat):Int)):=by
 have e0:off l (i+1)=off l i+l i:=rfl;have h1:off l (i+1)≤N:=by rw [←hN];exact aAa hi
 refine dK (λm=>(xV k r c l (aKo l N code (off l (i+1) - m) F),((code / 2 ^ (N - (off l (i+1) - m)):Nat):Int),(l i:Int) - 1 - m)) (l i) (by simp) (λm hm=>?_) (λ_=>?_)
 ·obtain ⟨y,hy⟩: ∃ y,y=l i - 1 - m:=⟨_,rfl⟩;have hyl:y<l i:=by omega
  have ei:(l i:Int) - 1 - m=(y:Int):=by omega
  have eT:off l (i+1) - m=off l i+y+1:=by omega
  have eT':off l (i+1) - (m+1)=off l i+y:=by omega
  have hle:code / 2 ^ (N - (off l i+y+1))≤code:=Nat.div_le_self _ _;unfold mV;simp only;rw [ei,eT,eT',bF (by omega),aH,aNh hi,aB];simp only;rw [wT hyl,aB,cS,cS,aSd hi]
  rw [show ((code / 2 ^ (N - (off l i+y+1)):Nat):Int).tmod 2=dg N code (off l i+y) by
   unfold dg;rw [show N - 1 - (off l i+y)=N - (off l i+y+1) by omega]
   rfl]
  rw [aRG hi hyl,show ((code / 2 ^ (N - (off l i+y+1)):Nat):Int).tdiv 2=((code / 2 ^ (N - (off l i+y+1)) / 2:Nat):Int) from rfl]
  have e3:code / 2 ^ (N - (off l i+y))=code / 2 ^ (N - (off l i+y+1)) / 2:=by
   rw [Nat.div_div_eq_div_mul,←Nat.pow_succ,Nat.succ_eq_add_one,show N - (off l i+y+1)+1=N - (off l i+y) by omega]
  rw [e3];generalize code / 2 ^ (N - (off l i+y+1))=Q at*;rw [cJ (by omega),cJ (by omega),show (l i:Int) - 1 - ((m+1:Nat):Int)=(y:Int) - 1 by omega]
 ·unfold mV;simp only;rw [dF (by omega),aX,show off l (i+1) - l i=off l i by omega]
theorem aTt {F:Nat→Nat→Int} {N code:Nat} (hk:k≤1000) (hN:off l k=N) (hN1:N≤1000) (hc:code≤1048576):
  Lp mW (xV k r c l F,(code:Int),(k:Int) - 1)=some (xV k r c l (dgM l N code)):=by
 refine dK (λm=>(xV k r c l (aKo l N code (off l (k - m)) F),((code / 2 ^ (N - off l (k - m)):Nat):Int),(k:Int) - 1 - m)) k ?_ (λm hm=>?_) (λ_=>?_)
 ·have e:xV k r c l F=xV k r c l (aKo l N code (off l (k - 0)) F):=aOf λv hv y hy=>by
   have:=uZ (l:=l) hv hy;unfold aKo;rw [aQ (by rw [Nat.sub_zero];omega)]
  rw [←e,Nat.sub_zero,hN,Nat.sub_self,Nat.pow_zero,Nat.div_one];simp
 ·obtain ⟨i,hi⟩: ∃ i,i=k - 1 - m:=⟨_,rfl⟩;have hik:i<k:=by omega
  have ei:(k:Int) - 1 - m=(i:Int):=by omega
  have e0:off l (i+1)=off l i+l i:=rfl;have hli:l i≤1000:=by have:=aAa (l:=l) (show i+1≤k from hik);omega
  unfold mW;simp only;rw [ei,show k - m=i+1 by omega,show k - (m+1)=i by omega,bF (by omega),aH,aNh hik,aB,cS,aMN hik];simp only [dY,List.length_range];rw [show wr ((l i:Int) - 1)=(l i:Int) - 1 from cJ (by omega),aTs hk hN hN1 hc hik,aB];simp only;rw [cJ (by omega)];congr 4;omega
 ·unfold mW;simp only;rw [dF (by omega),aX,Nat.sub_self];congr 2
theorem aTu {F:Nat→Nat→Int} {N:Nat} (hk:k≤1000) (hN:off l k=N) (hN1:N≤1000):Lp jY (xV k r c l F,0,0)=some (xV k r c l F,(N:Int)):=by
 refine dK (λm=>(xV k r c l F,(off l m:Int),(m:Int))) k rfl (λm hm=>?_) (λ_=>?_)
 ·have e0:off l (m+1)=off l m+l m:=rfl;have:=aAa (l:=l) (show m+1≤k from hm);unfold jY;simp only;rw [aDC,iH hm,aH,aNh hm,aB,cS,aMN hm];simp only [dY,List.length_range];rw [bS hm (by omega),cJ (by omega),e0];congr 4
 ·unfold jY;simp only;rw [aDC,jO (bK _),aX,hN]
theorem aOg: ∀ N:Nat,N≤10→aNb 1 (N:Int)=((2 ^ N:Nat):Int):=by decide
def aIC (p:Int) (q:Qv) (d:List Int) (k:Nat) (r c:Nat→Int) (l:Nat→Nat) (N:Nat) (P:Nat→Bool) (s n:Nat):Unit ⊕ (Rp×Bool):=
 match (List.range' s n).find? P with
 |none=> .inl ()
 |some code=> .inr (⟨p,q,d,xV k r c l (dgM l N code)⟩,true)
theorem aTv {p:Int} {q:Qv} {d:List Int} {N:Nat} {P:Nat→Bool} {X:List Mt} {z:List Mt} (hk:k≤1000) (hN:off l k=N) (hN1:N≤10)
  (hP: ∀ code,code<2 ^ N→ ∃ h:Int,qG ⟨p,q,d,xV k r c l (dgM l N code)⟩ ⟨p,q,d,xV k r c l (dgM l N code)⟩=some h∧decide (h=1)=P code):
  ∀ (n s:Nat) (F:Nat→Nat→Int),s+n=2 ^ N→Lp (gE ⟨p,q,d,z⟩ (X,(N:Int))) (xV k r c l F,(s:Int))=some (aIC p q d k r c l N P s n):=by
 have h2:2 ^ N≤1024:=Nat.le_trans (Nat.pow_le_pow_right (by omega) hN1) (by decide);intro n;induction n with
 |zero=>
  intro s F hs;refine dH ?_;unfold gE;simp only;rw [bF (by omega),aH,dF (by omega),Bool.not_false,aH,aOg N hN1,jO (by omega),aX];rfl
 |succ n ih=>
  intro s F hs;have hlt:s<2 ^ N:=by omega
  obtain ⟨h,hh1,hh2⟩:=hP s hlt
  have hb:gE ⟨p,q,d,z⟩ (X,(N:Int)) (xV k r c l F,(s:Int))=some (bif P s then .inr (.inr (⟨p,q,d,xV k r c l (dgM l N s)⟩,true)) else .inl (xV k r c l (dgM l N s),((s+1:Nat):Int))):=by
   unfold gE;simp only;rw [bF (by omega),aH,dF (by omega),Bool.not_false,aH,aOg N hN1,iH hlt,aH,aDC,show wr ((k:Int) - 1)=(k:Int) - 1 from cJ (by omega),aTt hk hN (by omega) (by omega),aB,hh1,aB,hh2];cases P s with
   |true=>rfl
   |false=>rw [aX,aX,bS hlt (by omega)]
  unfold aIC;rw [List.range'_succ,List.find?_cons];cases hp:P s with
  |true=>
   rw [hp] at hb;exact dH hb
  |false=>
   rw [hp] at hb;rw [iV hb,ih (s+1) _ (by omega)];rfl
theorem aUz {p:Int} {q:Qv} {d:List Int} {N:Nat} {P:Nat→Bool} {G:Nat→Nat→Int} (hk:k≤1000) (hN:off l k=N) (hN1:N≤10)
  (hP: ∀ code,code<2 ^ N→ ∃ h:Int,qF ⟨p,q,d,xV k r c l (dgM l N code)⟩ ⟨p,q,d,xV k r c l (dgM l N code)⟩=some h∧decide (h=1)=P code):
  ∀ (n s:Nat) (X:List Mt),s+n=2 ^ N→ ∃ Y,Fl (jX ⟨p,q,d,xV k r c l G⟩) ((List.range' s n).map (aHy N)) X=some ((aIC p q d k r c l N P s n).elim (λ_=> .inl Y) .inr):=by
 intro n;induction n with
 |zero=>intro s X hs;exact ⟨X,rfl⟩
 |succ n ih=>
  intro s X hs;have hlt:s<2 ^ N:=by omega
  obtain ⟨h,hh1,hh2⟩:=hP s hlt
  have hsh:qE (xV k r c l G) (aHy N s)=some (xV k r c l (dgM l N s)):=by
   unfold aHy;rw [←hN,←aMM l (dg (off l k) s) k];exact aMB (by omega) (by omega) λv hv=>by simp
  have hb:jX ⟨p,q,d,xV k r c l G⟩ (aHy N s) X=some (bif P s then .inr (⟨p,q,d,xV k r c l (dgM l N s)⟩,true) else .inl (xV k r c l (dgM l N s))):=by
   unfold jX;simp only;rw [hsh,aB,hh1,aB,hh2];cases P s <;> rfl
  unfold aIC;rw [List.range'_succ,List.find?_cons,List.map_cons];simp only [Fl,hb];cases hp:P s with
  |true=>exact ⟨X,rfl⟩
  |false=>
   obtain ⟨Y,hY⟩:=ih (s+1) (xV k r c l (dgM l N s)) (by omega);exact ⟨Y,hY⟩
end
end
noncomputable section
set_option maxRecDepth 100000
def dU:Nat→(Nat→Int)→Int
 |0,_=>0
 |n+1,f=>dU n f+f n
def aKp (k:Nat) (row:List Int):List Int:=row.take k++row.drop (k+1)
def sgK (k:Nat):Int:=if Nat.beq (k % 2) 0 then 1 else -1
def aIk (det:List (List Int)→Int) (r0:List Int) (rest:List (List Int)):Nat→Int
 |0=>0
 |k+1=>wr (aIk det r0 rest k+wr (wr (sgK k*r0[k]?.getD 0)*det (rest.map (aKp k))))
def xH:Nat→List (List Int)→Int
 |0,_=>0
 |_+1,[]=>1
 |d+1,r0::rest=>aIk (xH d) r0 rest r0.length
def aBo (s v:Nat):Bool:=Nat.beq (s / 2 ^ v % 2) 1
def oY (n s:Nat):List Nat:=(List.range n).filter (aBo s)
def kX (n:Nat) (T:List (List Int)) (s:Nat):List (List Int):=(oY n s).map λv=>(oY n s).map λw=>jH T v w
def pdF:Nat→(Nat→Nat→Int)→Bool
 |0,_=>true
 |n+1,m=>decide (0<m 0 0)&&pdF n (λi j=>m 0 0*m (i+1) (j+1) - m (i+1) 0*m 0 (j+1))
def mvT (n:Nat) (T:List (List Int)) (x:List Int) (v:Nat):Int:=dU n λw=>jH T v w*x[w]?.getD 0
def aSe (x:List Int) (v:Nat):List Int:=x.set v (x[v]?.getD 0+1)
def vJ (n v:Nat):List Int:=(List.replicate n (0:Int)).set v 1
def aKq (x:List Int) (l:List (List Int)):List (List Int):=if x∈l then l else x::l
def aFv (n:Nat) (T:List (List Int)) (l:List (List Int)):List (List Int):=(l.flatMap λx=>((List.range n).filter λv=>decide (mvT n T x v= -1)).map (aSe x)).foldr aKq []
def aNi (n:Nat) (T:List (List Int)):Nat→List (List Int)→List (List Int)→List (List Int)×Bool
 |0,cur,acc=>(acc++cur,cur.isEmpty)
 |k+1,cur,acc=>aNi n T k (aFv n T cur) (acc++cur)
def aDn (n:Nat) (T:List (List Int)):List (List Int)×Bool:=aNi n T 8 ((List.range n).map (vJ n)) []
def aJb (n:Nat) (T:List (List Int)):Bool:=pdF n (jH T)&&(match aDn n T with|(l,e)=>e&&decide (l.length≤20)&&l.all λx=>x.all λa=>decide (a≤4))
def zG (n:Nat) (T:List (List Int)):Bool:=aJb n T||[7,11,13,14,19,21,22,25,26,28,15,23,27,29,30,31].any λs=>Nat.blt s (2 ^ n)&&decide (xH 8 (kX n T s)≤0)
def bi (b:Bool):Int:=if b then -1 else 0
theorem aVo:zG 1 [[2]]=true:=by decide+kernel
theorem aVp: ∀ a:Bool,zG 2 [[2,bi a],[bi a,2]]=true:=by decide+kernel
theorem aVq: ∀ a b c:Bool,zG 3 [[2,bi a,bi b],[bi a,2,bi c],[bi b,bi c,2]]=true:=by decide+kernel
theorem aVr: ∀ a b c d e f:Bool,zG 4 [[2,bi a,bi b,bi c],[bi a,2,bi d,bi e],[bi b,bi d,2,bi f],[bi c,bi e,bi f,2]]=true:=by decide+kernel
theorem aTw: ∀ e f g h i j:Bool,zG 5 [[2,bi false,bi false,bi false,bi false],[bi false,2,bi e,bi f,bi g],[bi false,bi e,2,bi h,bi i],[bi false,bi f,bi h,2,bi j],[bi false,bi g,bi i,bi j,2]]=true:=by decide+kernel
theorem aTx: ∀ e f g h i j:Bool,zG 5 [[2,bi true,bi false,bi false,bi false],[bi true,2,bi e,bi f,bi g],[bi false,bi e,2,bi h,bi i],[bi false,bi f,bi h,2,bi j],[bi false,bi g,bi i,bi j,2]]=true:=by decide+kernel
theorem aTy: ∀ e f g h i j:Bool,zG 5 [[2,bi false,bi true,bi false,bi false],[bi false,2,bi e,bi f,bi g],[bi true,bi e,2,bi h,bi i],[bi false,bi f,bi h,2,bi j],[bi false,bi g,bi i,bi j,2]]=true:=by decide+kernel
theorem aTz: ∀ e f g h i j:Bool,zG 5 [[2,bi true,bi true,bi false,bi false],[bi true,2,bi e,bi f,bi g],[bi true,bi e,2,bi h,bi i],[bi false,bi f,bi h,2,bi j],[bi false,bi g,bi i,bi j,2]]=true:=by decide+kernel
theorem aUA: ∀ e f g h i j:Bool,zG 5 [[2,bi false,bi false,bi true,bi false],[bi false,2,bi e,bi f,bi g],[bi false,bi e,2,bi h,bi i],[bi true,bi f,bi h,2,bi j],[bi false,bi g,bi i,bi j,2]]=true:=by decide+kernel
theorem aUB: ∀ e f g h i j:Bool,zG 5 [[2,bi true,bi false,bi true,bi false],[bi true,2,bi e,bi f,bi g],[bi false,bi e,2,bi h,bi i],[bi true,bi f,bi h,2,bi j],[bi false,bi g,bi i,bi j,2]]=true:=by decide+kernel
theorem aUC: ∀ e f g h i j:Bool,zG 5 [[2,bi false,bi true,bi true,bi false],[bi false,2,bi e,bi f,bi g],[bi true,bi e,2,bi h,bi i],[bi true,bi f,bi h,2,bi j],[bi false,bi g,bi i,bi j,2]]=true:=by decide+kernel
theorem aUD: ∀ e f g h i j:Bool,zG 5 [[2,bi true,bi true,bi true,bi false],[bi true,2,bi e,bi f,bi g],[bi true,bi e,2,bi h,bi i],[bi true,bi f,bi h,2,bi j],[bi false,bi g,bi i,bi j,2]]=true:=by decide+kernel
theorem aUE: ∀ e f g h i j:Bool,zG 5 [[2,bi false,bi false,bi false,bi true],[bi false,2,bi e,bi f,bi g],[bi false,bi e,2,bi h,bi i],[bi false,bi f,bi h,2,bi j],[bi true,bi g,bi i,bi j,2]]=true:=by decide+kernel
theorem aUF: ∀ e f g h i j:Bool,zG 5 [[2,bi true,bi false,bi false,bi true],[bi true,2,bi e,bi f,bi g],[bi false,bi e,2,bi h,bi i],[bi false,bi f,bi h,2,bi j],[bi true,bi g,bi i,bi j,2]]=true:=by decide+kernel
theorem aSf: ∀ e f g h i j:Bool,zG 5 [[2,bi false,bi true,bi false,bi true],[bi false,2,bi e,bi f,bi g],[bi true,bi e,2,bi h,bi i],[bi false,bi f,bi h,2,bi j],[bi true,bi g,bi i,bi j,2]]=true:=by decide+kernel
theorem aSg: ∀ e f g h i j:Bool,zG 5 [[2,bi true,bi true,bi false,bi true],[bi true,2,bi e,bi f,bi g],[bi true,bi e,2,bi h,bi i],[bi false,bi f,bi h,2,bi j],[bi true,bi g,bi i,bi j,2]]=true:=by decide+kernel
theorem aSh: ∀ e f g h i j:Bool,zG 5 [[2,bi false,bi false,bi true,bi true],[bi false,2,bi e,bi f,bi g],[bi false,bi e,2,bi h,bi i],[bi true,bi f,bi h,2,bi j],[bi true,bi g,bi i,bi j,2]]=true:=by decide+kernel
theorem aSi: ∀ e f g h i j:Bool,zG 5 [[2,bi true,bi false,bi true,bi true],[bi true,2,bi e,bi f,bi g],[bi false,bi e,2,bi h,bi i],[bi true,bi f,bi h,2,bi j],[bi true,bi g,bi i,bi j,2]]=true:=by decide+kernel
theorem aSj: ∀ e f g h i j:Bool,zG 5 [[2,bi false,bi true,bi true,bi true],[bi false,2,bi e,bi f,bi g],[bi true,bi e,2,bi h,bi i],[bi true,bi f,bi h,2,bi j],[bi true,bi g,bi i,bi j,2]]=true:=by decide+kernel
theorem aSk: ∀ e f g h i j:Bool,zG 5 [[2,bi true,bi true,bi true,bi true],[bi true,2,bi e,bi f,bi g],[bi true,bi e,2,bi h,bi i],[bi true,bi f,bi h,2,bi j],[bi true,bi g,bi i,bi j,2]]=true:=by decide+kernel
theorem aVs (a b c d e f g h i j:Bool):zG 5 [[2,bi a,bi b,bi c,bi d],[bi a,2,bi e,bi f,bi g],[bi b,bi e,2,bi h,bi i],[bi c,bi f,bi h,2,bi j],[bi d,bi g,bi i,bi j,2]]=true:=by
 cases a <;> cases b <;> cases c <;> cases d
 ·exact aTw e f g h i j
 ·exact aUE e f g h i j
 ·exact aUA e f g h i j
 ·exact aSh e f g h i j
 ·exact aTy e f g h i j
 ·exact aSf e f g h i j
 ·exact aUC e f g h i j
 ·exact aSj e f g h i j
 ·exact aTx e f g h i j
 ·exact aUF e f g h i j
 ·exact aUB e f g h i j
 ·exact aSi e f g h i j
 ·exact aTz e f g h i j
 ·exact aSg e f g h i j
 ·exact aUD e f g h i j
 ·exact aSk e f g h i j
end
noncomputable section
theorem dM {f g:Nat→Int} : ∀ {n:Nat},(∀ i,i<n→f i=g i)→dU n f=dU n g
 |0,_=>rfl
 |n+1,h=>by simp only [dU];rw [dM (n:=n) λi hi=>h i (by omega),h n (by omega)]
theorem zH (f:Nat→Int): ∀ n,dU (n+1) f=f 0+dU n λi=>f (i+1)
 |0=>by simp [dU]
 |n+1=>by rw [dU,zH f n];simp only [dU];omega
theorem oU (f g:Nat→Int): ∀ n,(dU n λi=>f i+g i)=dU n f+dU n g
 |0=>by simp [dU]
 |n+1=>by simp only [dU];rw [oU f g n];omega
theorem lX (c:Int) (f:Nat→Int): ∀ n,(dU n λi=>c*f i)=c*dU n f
 |0=>by simp [dU]
 |n+1=>by simp only [dU];rw [lX c f n,Int.mul_add]
theorem wF: ∀ n,(dU n λ_=>(0:Int))=0
 |0=>rfl
 |n+1=>by simp only [dU];rw [wF n];rfl
theorem aFw {f:Nat→Int} : ∀ {n:Nat},(∀ i,i<n→0≤f i)→0≤dU n f
 |0,_=>Int.le_refl 0
 |n+1,h=>by simp only [dU];have:=aFw (n:=n) λi hi=>h i (by omega);have:=h n (by omega);omega
theorem aCX {f:Nat→Int} : ∀ {n:Nat},0<dU n f→ ∃ i,i<n∧0<f i
 |0,h=>absurd h (by simp [dU])
 |n+1,h=>by
  simp only [dU] at h;by_cases h1:0<f n
  ·exact ⟨n,by omega,h1⟩
  ·obtain ⟨i,h2,h3⟩:=aCX (f:=f) (n:=n) (by omega);exact ⟨i,by omega,h3⟩
theorem aVX {f:Nat→Int} {n i:Nat} (h: ∀ i,i<n→0≤f i) (hi:i<n):f i≤dU n f:=by
 induction n with
 |zero=>omega
 |succ n ih=>
  simp only [dU];have h1:=aFw (f:=f) (n:=n) λi hi=>h i (by omega);by_cases e:i=n
  ·subst e;omega
  ·have:=ih (λi hi=>h i (by omega)) (by omega);have:=h n (by omega);omega
theorem aBI {n v:Nat} (f:Nat→Int) (hv:v<n):(dU n λi=>if i=v then f i else 0)=f v:=by
 induction n with
 |zero=>omega
 |succ n ih=>
  simp only [dU];by_cases e:v=n
  ·subst e;rw [aU rfl,dM (g:=λ_=>0) (λi hi=>aQ (by omega)),wF];omega
  ·rw [ih (by omega),aQ (λh=>e h.symm)];omega
def qf (n:Nat) (m:Nat→Nat→Int) (x:Nat→Int):Int:=dU n λi=>dU n λj=>m i j*(x i*x j)
def mv (n:Nat) (m:Nat→Nat→Int) (x:Nat→Int) (v:Nat):Int:=dU n λw=>m v w*x w
theorem aMO (n:Nat) (m:Nat→Nat→Int) (x:Nat→Int):qf n m x=dU n λi=>x i*mv n m x i:=by
 unfold qf mv;refine dM λi _=>?_;rw [←lX];exact dM λj _=>by grind
theorem aSl (n:Nat) (m:Nat→Nat→Int) (x:Nat→Int) (hs: ∀ i,i<n→m (i+1) 0=m 0 (i+1)):
  m 0 0*qf (n+1) m x=(m 0 0*x 0+dU n λj=>m 0 (j+1)*x (j+1))*(m 0 0*x 0+dU n λj=>m 0 (j+1)*x (j+1))+qf n (λi j=>m 0 0*m (i+1) (j+1) - m (i+1) 0*m 0 (j+1)) (λi=>x (i+1)):=by
 have e1:qf (n+1) m x=(m 0 0*(x 0*x 0)+x 0*dU n λj=>m 0 (j+1)*x (j+1))+(x 0*(dU n λj=>m 0 (j+1)*x (j+1))+dU n λi=>dU n λj=>m (i+1) (j+1)*(x (i+1)*x (j+1))):=by
  unfold qf;rw [zH];congr 1
  ·rw [zH,←lX];congr 1;exact dM λj _=>by grind
  ·rw [←lX,←oU];refine dM λi hi=>?_;rw [zH,hs i hi];congr 1
   grind
 have e2:qf n (λi j=>m 0 0*m (i+1) (j+1) - m (i+1) 0*m 0 (j+1)) (λi=>x (i+1))=m 0 0*(dU n λi=>dU n λj=>m (i+1) (j+1)*(x (i+1)*x (j+1)))+(-(dU n λj=>m 0 (j+1)*x (j+1)))*dU n λj=>m 0 (j+1)*x (j+1):=by
  unfold qf;rw [←lX,←lX,←oU];refine dM λi hi=>?_;rw [←lX,show -(dU n λj=>m 0 (j+1)*x (j+1))*(m 0 (i+1)*x (i+1))=(-(m 0 (i+1)*x (i+1)))*dU n λj=>m 0 (j+1)*x (j+1) by grind,←lX,←oU];refine dM λj hj=>?_;dsimp only;rw [hs i hi]
  grind
 rw [e1,e2];generalize (dU n λj=>m 0 (j+1)*x (j+1))=L;generalize (dU n λi=>dU n λj=>m (i+1) (j+1)*(x (i+1)*x (j+1)))=R
 grind
theorem aPb (a:Int):0≤a*a:=by
 rcases Int.le_total 0 a with h|h
 ·exact Int.mul_nonneg h h
 ·have:=Int.mul_nonneg (Int.neg_nonneg_of_nonpos h) (Int.neg_nonneg_of_nonpos h);rwa [Int.neg_mul_neg] at this
theorem aUG {a:Int} (h:a≠0):0<a*a:=by
 rcases Int.lt_or_gt_of_ne h with h|h
 ·have:=Int.mul_pos (Int.neg_pos_of_neg h) (Int.neg_pos_of_neg h);rwa [Int.neg_mul_neg] at this
 ·exact Int.mul_pos h h
theorem aRH: ∀ (n:Nat) (m:Nat→Nat→Int),pdF n m=true→(∀ i j,i<n→j<n→m i j=m j i)→ ∀ x:Nat→Int,0≤qf n m x∧((∃ i,i<n∧x i≠0)→0<qf n m x)
 |0,m,_,_,x=>⟨by simp [qf,dU],λ⟨i,h,_⟩=>by omega⟩
 |n+1,m,hp,hs,x=>by
  simp only [pdF,cY,gJ] at hp;obtain ⟨ha,hp⟩:=hp;have ih:=aRH n _ hp (λi j hi hj=>by rw [hs (i+1) (j+1) (by omega) (by omega),hs (i+1) 0 (by omega) (by omega),hs 0 (j+1) (by omega) (by omega)];grind) (λi=>x (i+1));have id:=aSl n m x (λi hi=>hs _ _ (by omega) (by omega));generalize hL:(dU n λj=>m 0 (j+1)*x (j+1))=L at id;have hsq:=aPb (m 0 0*x 0+L);refine ⟨?_,?_⟩
  ·rcases Int.lt_or_le (qf (n+1) m x) 0 with h|h
   ·have:=Int.mul_neg_of_pos_of_neg ha h;omega
   ·exact h
  ·rintro ⟨i,hi,hx⟩
   have hpos:0<m 0 0*qf (n+1) m x:=by
    by_cases hex: ∃ i,i<n∧x (i+1)≠0
    ·have:=ih.2 hex;omega
    ·have hz: ∀ i,i<n→x (i+1)=0:=λi hi=>Classical.byContradiction λh=>hex ⟨i,hi,h⟩
     have hL0:L=0:=by
      rw [←hL,dM (g:=λ_=>0) (λj hj=>by rw [hz j hj,Int.mul_zero]),wF]
     have hx0:x 0≠0:=by
      cases i with
      |zero=>exact hx
      |succ i=>exact absurd (hz i (by omega)) hx
     have:m 0 0*x 0+L≠0:=by
      rw [hL0,Int.add_zero];exact Int.mul_ne_zero (by omega) hx0
     have:=aUG this;have:=ih.1;omega
   rcases Int.lt_or_le 0 (qf (n+1) m x) with h|h
   ·exact h
   ·have:=Int.mul_nonpos_of_nonneg_of_nonpos (Int.le_of_lt ha) h;omega
theorem aNj {n v:Nat} (m:Nat→Nat→Int) (x:Nat→Int) (d:Int) (w:Nat) (hv:v<n):mv n m (λi=>x i+if i=v then d else 0) w=mv n m x w+d*m w v:=by
 unfold mv;rw [←aBI (n:=n) (v:=v) (λi=>d*m w i) hv,←oU];refine dM λi _=>?_;by_cases e:i=v
 ·simp only [aU e];grind
 ·simp only [aQ e];grind
theorem aNk {n v:Nat} (m:Nat→Nat→Int) (x:Nat→Int) (d:Int) (hv:v<n) (hs: ∀ i j,i<n→j<n→m i j=m j i):qf n m (λi=>x i+if i=v then d else 0)=qf n m x+2*d*mv n m x v+d*d*m v v:=by
 rw [aMO,aMO]
 have e1:(dU n λi=>(x i+if i=v then d else 0)*mv n m (λi=>x i+if i=v then d else 0) i)=dU n λi=>(x i*mv n m x i+d*(m v i*x i))+if i=v then d*(mv n m x i+d*m i v) else 0:=by
  refine dM λi hi=>?_;rw [aNj m x d i hv,hs i v hi hv];by_cases e:i=v
  ·simp only [aU e];grind
  ·simp only [aQ e];grind
 rw [e1,oU,oU,lX,aBI (λi=>d*(mv n m x i+d*m i v)) hv];change _+d*mv n m x v+_=_
 grind
def gx (x:List Int) (i:Nat):Int:=x[i]?.getD 0
theorem aCY {x:List Int} {v:Nat} (a:Int) (hv:v<x.length) (i:Nat):gx (x.set v a) i=if i=v then a else gx x i:=by
 unfold gx;rw [List.getElem?_set];by_cases e:v=i
 ·subst e;simp [hv]
 ·rw [aQ e,aQ (λh=>e h.symm)]
theorem aFU {x:List Int} {v:Nat} (d:Int) (hv:v<x.length):gx (x.set v (gx x v+d))=λi=>gx x i+if i=v then d else 0:=by
 funext i;rw [aCY _ hv];by_cases e:i=v
 ·subst e;simp
 ·simp [e]
theorem aRI {x y:List Int} (hl:x.length=y.length) (h: ∀ i,i<x.length→gx x i=gx y i):x=y:=by
 refine List.ext_getElem hl λi h1 h2=>?_;have:=h i h1;simpa [gx,h1,h2] using this
theorem vK: ∀ x:List Int,x.sum=dU x.length (gx x)
 | []=>rfl
 |a::x=>by
  rw [List.length_cons,zH,List.sum_cons,vK x];rfl
theorem aKr {x:List Int} {v:Nat} (d:Int) (hv:v<x.length):(x.set v (gx x v+d)).sum=x.sum+d:=by
 rw [vK,vK,List.length_set,aFU d hv,oU,aBI (λ_=>d) hv]
theorem aFV {x:List Int} (h: ∀ a∈x,0≤a):0≤x.sum:=by
 induction x with
 |nil=>simp
 |cons a x ih=>rw [List.sum_cons];have:=h a (by simp);have:=ih λb hb=>h b (by simp [hb]);omega
theorem aID: ∀ {x:List Int},(∀ a∈x,0≤a)→x.sum=0→x=List.replicate x.length 0
 | [],_,_=>rfl
 |a::x,h,hs=>by
  rw [List.sum_cons] at hs;have h1:=h a (by simp);have h2:=aFV (x:=x) λb hb=>h b (by simp [hb]);have h3:=aID (x:=x) (λb hb=>h b (by simp [hb])) (by omega);have h4:a=0:=by omega
  rw [h4,List.length_cons,List.replicate_succ,←h3]
theorem aIE: ∀ {x:List Int},(∀ a∈x,0≤a)→x.sum=1→ ∃ v,v<x.length∧x=vJ x.length v
 | [],_,hs=>by simp at hs
 |a::x,h,hs=>by
  rw [List.sum_cons] at hs;have h1:=h a (by simp);have h2:=aFV (x:=x) λb hb=>h b (by simp [hb]);by_cases e:a=0
  ·obtain ⟨v,g1,g2⟩:=aIE (x:=x) (λb hb=>h b (by simp [hb])) (by omega);refine ⟨v+1,by simpa using g1,?_⟩;rw [e,List.length_cons];show _=0::vJ x.length v;rw [←g2]
  ·have h3:=aID (x:=x) (λb hb=>h b (by simp [hb])) (by omega);refine ⟨0,by simp,?_⟩;have h4:a=1:=by omega
   rw [h4,List.length_cons];show _=1::List.replicate x.length 0;rw [←h3]
theorem xW {x:List Int} {i:Nat} (h:i<x.length):gx x i∈x:=by
 unfold gx;rw [gN h];exact List.getElem_mem h
theorem aAf {x:List Int} {v:Nat} {a b:Int} (h:b∈x.set v a):b=a∨b∈x:=by
 rcases List.mem_or_eq_of_mem_set h with h|h
 ·exact .inr h
 ·exact .inl h
structure GForm (n:Nat) (T:List (List Int)):Prop where
 sym: ∀ i j,i<n→j<n→jH T i j=jH T j i
 diag: ∀ i,i<n→jH T i i=2
 pd:pdF n (jH T)=true
structure Rt0 (n:Nat) (T:List (List Int)) (x:List Int):Prop where
 len:x.length=n
 nn: ∀ a∈x,0≤a
 two:qf n (jH T) (gx x)=2
theorem aUH (n:Nat) (T:List (List Int)) (x:List Int) (v:Nat):mvT n T x v=mv n (jH T) (gx x) v:=rfl
theorem Rt0.pos {n:Nat} {T:List (List Int)} {x:List Int} (F:GForm n T) (r:Rt0 n T x):1≤x.sum:=by
 have h:=aFV r.nn;rcases Int.lt_or_le x.sum 1 with h1|h1
 ·have h2:=aID r.nn (by omega);have h3:=r.two;rw [aMO,dM (g:=λ_=>0) (λi hi=>?_),wF] at h3
  ·omega
  ·rw [h2];unfold gx;rw [List.getElem?_replicate];split <;> simp
 ·exact h1
theorem Rt0.down {n:Nat} {T:List (List Int)} {x:List Int} (F:GForm n T) (r:Rt0 n T x) (h:2≤x.sum): ∃ v,v<n∧mv n (jH T) (gx x) v=1∧Rt0 n T (x.set v (gx x v+ -1)):=by
 have h1:=r.two;rw [aMO] at h1;obtain ⟨v,hv,h2⟩:=aCX (n:=n) (f:=λi=>gx x i*mv n (jH T) (gx x) i) (by omega);have hvl:v<x.length:=by rw [r.len];exact hv
 have h3:=r.nn _ (xW hvl)
 have h4:0<gx x v:=by
  rcases Int.lt_or_le 0 (gx x v) with h|h
  ·exact h
  ·have:gx x v=0:=by omega
   rw [this] at h2;simp at h2
 have h5:0<mv n (jH T) (gx x) v:=by
  rcases Int.lt_or_le 0 (mv n (jH T) (gx x) v) with h|h
  ·exact h
  ·have:=Int.mul_nonpos_of_nonneg_of_nonpos h3 h;omega
 have hnn: ∀ a∈x.set v (gx x v+ -1),0≤a:=λa ha=>by
  rcases aAf ha with rfl|ha
  ·omega
  ·exact r.nn a ha
 have hq:qf n (jH T) (gx (x.set v (gx x v+ -1)))=4 - 2*mv n (jH T) (gx x) v:=by
  rw [aFU _ hvl,aNk _ _ _ hv F.sym,r.two,F.diag v hv];omega
 have hs:=aKr (-1) hvl
 have hpos:0<qf n (jH T) (gx (x.set v (gx x v+ -1))):=by
  refine (aRH n _ F.pd F.sym _).2 ?_;rw [vK,List.length_set,r.len] at hs;obtain ⟨i,hi,h6⟩:=aCX (n:=n) (f:=gx (x.set v (gx x v+ -1))) (by omega);exact ⟨i,hi,by omega⟩
 have h7:mv n (jH T) (gx x) v=1:=by omega
 exact ⟨v,hv,h7,by rw [List.length_set];exact r.len,hnn,by omega⟩
def lvl (n:Nat) (T:List (List Int)):Nat→List (List Int)
 |0=>(List.range n).map (vJ n)
 |k+1=>aFv n T (lvl n T k)
theorem aNl {x y:List Int} {l:List (List Int)} :y∈aKq x l↔y=x∨y∈l:=by
 unfold aKq;split
 ·rename_i h;exact ⟨.inr,λh'=>h'.elim (λe=>e▸h) id⟩
 ·simp
theorem aJc {y:List Int} : ∀ {l:List (List Int)},y∈l.foldr aKq []↔y∈l
 | []=>by simp
 |x::l=>by rw [List.foldr_cons,aNl,aJc (l:=l),dP]
theorem aPc {n:Nat} {T:List (List Int)} {l:List (List Int)} {x:List Int} {v:Nat} (hx:x∈l) (hv:v<n) (h:mvT n T x v= -1):aSe x v∈aFv n T l:=by
 unfold aFv;rw [aJc,List.mem_flatMap];exact ⟨x,hx,List.mem_map.2 ⟨v,List.mem_filter.2 ⟨List.mem_range.2 hv,bF h⟩,rfl⟩⟩
theorem Rt0.lvl {n:Nat} {T:List (List Int)} (F:GForm n T): ∀ (h:Nat) {x:List Int},Rt0 n T x→x.sum=h+1→x∈lvl n T h
 |0,x,r,hs=>by
  obtain ⟨v,hv,e⟩:=aIE r.nn (by omega);rw [r.len] at e hv;exact List.mem_map.2 ⟨v,List.mem_range.2 hv,e.symm⟩
 |h+1,x,r,hs=>by
  obtain ⟨v,hv,h1,h2⟩:=r.down F (by omega);have hvl:v<x.length:=by rw [r.len];exact hv
  have ih:=Rt0.lvl F h h2 (by rw [aKr _ hvl];omega)
  have h3:mvT n T (x.set v (gx x v+ -1)) v= -1:=by
   rw [aUH,aFU _ hvl,aNj _ _ _ _ hv,h1,F.diag v hv];rfl
  have h4:=aPc ih hv h3
  have h5:aSe (x.set v (gx x v+ -1)) v=x:=by
   unfold aSe;change (x.set v (gx x v+ -1)).set v (gx (x.set v (gx x v+ -1)) v+1)=x;rw [aCY _ hvl,aU rfl,List.set_set];refine aRI (by simp) λi _=>?_;rw [aCY _ hvl];by_cases e:i=v
   ·subst e;rw [aU rfl];omega
   ·rw [aQ e]
  rw [h5] at h4;exact h4
def itL (n:Nat) (T:List (List Int)) (l:List (List Int)):Nat→List (List Int)
 |0=>l
 |k+1=>itL n T (aFv n T l) k
theorem aIF (n:Nat) (T:List (List Int)): ∀ (k:Nat) (l:List (List Int)),itL n T l (k+1)=aFv n T (itL n T l k)
 |0,l=>rfl
 |k+1,l=>aIF n T k (aFv n T l)
theorem aRK (n:Nat) (T:List (List Int)): ∀ k,lvl n T k=itL n T ((List.range n).map (vJ n)) k
 |0=>rfl
 |k+1=>by rw [aIF,←aRK n T k];rfl
theorem aJd (n:Nat) (T:List (List Int)): ∀ (k:Nat) (cur acc:List (List Int)),(∀ x∈acc,x∈(aNi n T k cur acc).1)∧(∀ j x,j≤k→x∈itL n T cur j→x∈(aNi n T k cur acc).1)∧(aNi n T k cur acc).2=(itL n T cur k).isEmpty
 |0,cur,acc=>⟨λx h=>by simp [aNi,h],λj x hj hx=>by
   have:j=0:=by omega
   subst this;simp only [aNi,itL] at hx ⊢;simp [hx],rfl⟩
 |k+1,cur,acc=>by
  obtain ⟨h1,h2,h3⟩:=aJd n T k (aFv n T cur) (acc++cur);refine ⟨λx h=>h1 x (by simp [h]),λj x hj hx=>?_,h3⟩;cases j with
  |zero=>exact h1 x (by simp only [itL] at hx;simp [hx])
  |succ j=>exact h2 j x (by omega) hx
theorem aMP (n:Nat) (T:List (List Int)): ∀ (d k:Nat) (l:List (List Int)),itL n T l k=[]→itL n T l (k+d)=[]
 |0,k,l,h=>h
 |d+1,k,l,h=>by
  rw [←Nat.add_assoc,aIF,aMP n T d k l h];rfl
theorem Rt0.mem {n:Nat} {T:List (List Int)} (F:GForm n T) (he:(aDn n T).2=true) {x:List Int} (r:Rt0 n T x):x∈(aDn n T).1:=by
 have h1:=r.pos F;obtain ⟨h,hh⟩: ∃ h:Nat,x.sum=h+1:=⟨(x.sum - 1).toNat,by omega⟩;have h2:=Rt0.lvl F h r hh;rw [aRK] at h2;obtain ⟨g1,g2,g3⟩:=aJd n T 8 ((List.range n).map (vJ n)) [];unfold aDn at he ⊢;rw [he] at g3;have h8:itL n T ((List.range n).map (vJ n)) 8=[]:=by simpa using g3.symm
 rcases dR 8 h with h3|h3
 ·have:=aMP n T (h - 8) 8 _ h8;rw [show 8+(h - 8)=h by omega] at this;rw [this] at h2;cases h2
 ·exact g2 h x h3 h2
theorem aJe {α:Type} [DecidableEq α]: ∀ {l m:List α},l.Nodup→(∀ x∈l,x∈m)→l.length≤m.length
 | [],m,_,_=>Nat.zero_le _
 |a::l,m,hn,hs=>by
  have h1:=hs a (by simp);have hn':=List.nodup_cons.1 hn;have h2:=aJe (l:=l) (m:=m.erase a) hn'.2 λx hx=>(List.mem_erase_of_ne (by rintro rfl;exact hn'.1 hx)).2 (hs x (by simp [hx]));have h3:=List.length_erase_of_mem h1;have h4:=List.length_pos_of_mem h1;simp only [List.length_cons];omega
theorem aAQ {n:Nat} {T:List (List Int)} (h:aJb n T=true):pdF n (jH T)=true∧(aDn n T).2=true∧(aDn n T).1.length ≤20∧ ∀ x∈(aDn n T).1,∀ a∈x,a≤4:=by
 simp only [aJb,cY] at h;obtain ⟨h1,⟨h2,h3⟩,h4⟩:=h;refine ⟨h1,h2,of_decide_eq_true h3,λx hx a ha=>?_⟩;exact of_decide_eq_true (List.all_eq_true.1 (List.all_eq_true.1 h4 x hx) a ha)
theorem vO {x:List Int} {i:Nat} (h:i<x.length):cF x (i:Int)=some (gx x i):=by rw [sT 0 h];rfl
end
noncomputable section
def oV {α:Type} (n:Nat) (f:Nat→α):List α:=(List.range n).map f
theorem jN {α:Type} (n:Nat) (f:Nat→α):(oV n f).length=n:=by simp [oV]
theorem aEh {α:Type} {n:Nat} {f:Nat→α} {w:Nat} (h:w<n):(oV n f)[w]? =some (f w):=by simp [oV,h]
theorem nW {α:Type} {n:Nat} {f:Nat→α} {w:Nat} (h:w<n):cF (oV n f) (w:Int)=some (f w):=by simp [cF,aEh h]
theorem gM {α:Type} {n:Nat} {f g:Nat→α} (h: ∀ i,i<n→f i=g i):oV n f=oV n g:=mH λi hi=>h i (List.mem_range.1 hi)
theorem rF {α:Type} {n:Nat} (f:Nat→α) (a:Nat) (y:α):(oV n f).set a y=oV n λw=>if w=a then y else f w:=by
 refine List.ext_getElem (by simp [oV]) λi h1 h2=>?_;simp only [oV,List.getElem_set,List.getElem_map,List.getElem_range];by_cases e:a=i
 ·simp [e]
 ·simp [e,show ¬ i=a from λh=>e h.symm]
theorem aBJ {α:Type} (n:Nat) (z:α):List.replicate n z=oV n λ_=>z:=by
 refine List.ext_getElem (by simp [oV]) λi h1 h2=>by simp [oV]
theorem aEi {n:Nat} {f:Nat→Int} {w:Nat} (h:w<n):gx (oV n f) w=f w:=by simp [gx,aEh h]
def sH (n:Nat) (F:Nat→Nat→Int):List (List Int):=oV n λv=>oV n (F v)
theorem kE {n:Nat} {F:Nat→Nat→Int} {v w:Nat} (hv:v<n) (hw:w<n):jH (sH n F) v w=F v w:=by
 unfold jH sH;rw [aEh hv,qN,aEh hw,qN]
theorem aNm {n:Nat} {F G:Nat→Nat→Int} (h: ∀ v w,v<n→w<n→F v w=G v w):sH n F=sH n G:=gM λv hv=>gM λw hw=>h v w hv hw
def hit (q:Qv) (i v w:Nat):Int:=if gx q.src i=(v:Int)∧gx q.tgt i=(w:Int) then 1 else 0
def aGZ (q:Qv) (k v w:Nat):Int:=dU k λi=>hit q i v w
def mtF (q:Qv) (k v w:Nat):Int:=(if v=w then 2 else 0) - aGZ q k v w - aGZ q k w v
theorem aFW (q:Qv): ∀ k v w,0≤aGZ q k v w∧aGZ q k v w≤k
 |0,v,w=>by simp [aGZ,dU]
 |k+1,v,w=>by
  have:=aFW q k v w;unfold aGZ at this ⊢;simp only [dU];have:0≤hit q k v w∧hit q k v w≤1:=by unfold hit;split <;> omega
  omega
theorem aRL (q:Qv) {k:Nat} (hk:k≤6) (v w:Nat): -12≤mtF q k v w∧mtF q k v w≤2:=by
 have h1:=aFW q k v w;have h2:=aFW q k w v;unfold mtF;split <;> omega
theorem aAS (q:Qv) (k v w:Nat):mtF q (k+1) v w=mtF q k v w - hit q k v w - hit q k w v:=by
 unfold mtF aGZ;simp only [dU];omega
theorem aUI (q:Qv) (k v w:Nat):mtF q k v w=mtF q k w v:=by
 unfold mtF;by_cases e:v=w
 ·subst e;rfl
 ·rw [aQ e,aQ (λh=>e h.symm)];omega
def qM (q:Qv) (n:Nat):List (List Int):=sH n (mtF q q.src.length)
structure QOk (q:Qv) (n:Nat):Prop where
 bq:bQ q
 qv:aAL q=true
 n0:q.n=n
 n1:1≤n
 n5:n≤5
 eq:q.src.length=q.tgt.length
 m6:q.src.length≤6
 src: ∀ x∈q.src,0≤x∧x<n
 tgt: ∀ x∈q.tgt,0≤x∧x<n
theorem qok {q:Qv} (hb:bQ q) (h:aAL q=true): ∃ n,QOk q n:=by
 obtain ⟨n,h1,h2,h3,h4,h5,h6,h7⟩:=xE h;exact ⟨n,hb,h,h1,h2,h3,h4,h5,h6,h7⟩
theorem QOk.arrow {q:Qv} {n:Nat} (Q:QOk q n) {i:Nat} (hi:i<q.src.length): ∃ s t:Nat,s<n∧t<n∧gx q.src i=s∧gx q.tgt i=t∧cF q.src (i:Int)=some (s:Int)∧cF q.tgt (i:Int)=some (t:Int):=by
 have hi2:i<q.tgt.length:=by rw [←Q.eq];exact hi
 have h1:=Q.src _ (xW hi);have h2:=Q.tgt _ (xW hi2);refine ⟨(gx q.src i).toNat,(gx q.tgt i).toNat,by omega,by omega,by omega,by omega,?_,?_⟩
 ·rw [sT 0 hi];show some (gx q.src i)=_;rw [Int.toNat_of_nonneg h1.1]
 ·rw [sT 0 hi2];show some (gx q.tgt i)=_;rw [Int.toNat_of_nonneg h2.1]
theorem sI {q:Qv} {i s t:Nat} (hs:gx q.src i=s) (ht:gx q.tgt i=t) (v w:Nat):hit q i v w=if v=s∧w=t then 1 else 0:=by
 unfold hit;rw [hs,ht];by_cases e:v=s∧w=t
 ·rw [aU e,aU (by omega)]
 ·rw [aQ e,aQ (by omega)]
theorem aRM {q:Qv} {n:Nat} (Q:QOk q n) {x1:List (List Int)×Int} {v:Nat} (hx:x1.2=(v:Int)):Lp (gQ q x1) (oV n (mtF q 0 v),0)=some (oV n (mtF q q.src.length v)):=by
 have m6:=Q.m6;refine dK (λk=>(oV n (mtF q k v),(k:Int))) q.src.length rfl (λk hk=>?_) (λ_=>?_)
 ·unfold gQ;simp only;obtain ⟨s,t,hs,ht,e1,e2,e3,e4⟩:=Q.arrow hk;have bs:=λw=>aRL q (k:=k) (by omega) v w;rw [iH hk,aH,e3,aB,hx,bS hk (by omega)];by_cases c1:s=v
  ·subst c1;rw [bF (by rfl),aH];simp only [e4,e3,aB,nW ht,cS];rw [rF,cJ (by have:=bs t;omega)];by_cases c2:t=s
   ·subst c2;rw [bF (by rfl),aH];simp only [nW hs,aU rfl,aB];rw [rF,cJ (by have:=bs t;omega)];congr 3;refine gM λw hw=>?_;rw [aAS,sI e1 e2,sI e1 e2];by_cases c:w=t
    ·subst c;simp <;> omega
    ·simp [c]
   ·rw [dF (by omega),aX];congr 3;refine gM λw hw=>?_;rw [aAS,sI e1 e2,sI e1 e2];by_cases c:w=t
    ·subst c;simp [c2,show ¬ s=w from λh=>c2 h.symm]
    ·simp [c,show ¬ s=t from λh=>c2 h.symm]
  ·rw [dF (by omega),aX];simp only [e4,e3,aB];by_cases c2:t=v
   ·subst c2;rw [bF (by rfl),aH];simp only [nW hs,aB,cS];rw [rF,cJ (by have:=bs s;omega)];congr 3;refine gM λw hw=>?_;rw [aAS,sI e1 e2,sI e1 e2];by_cases c:w=s
    ·subst c;simp [c1,show ¬ t=w from λh=>c1 h.symm]
    ·simp [c,show ¬ t=s from λh=>c1 h.symm]
   ·rw [dF (by omega),aX];congr 3;refine gM λw hw=>?_;rw [aAS,sI e1 e2,sI e1 e2];simp [show ¬ v=s from λh=>c1 h.symm,show ¬ v=t from λh=>c2 h.symm]
 ·unfold gQ;simp only;rw [jO (bK _),aX]
theorem aVA (q:Qv) {n v:Nat} (hv:v<n):(List.replicate n (0:Int)).set v 2=oV n (mtF q 0 v):=by
 rw [aBJ,rF];refine gM λw _=>?_;unfold mtF aGZ;simp only [dU];by_cases e:w=v
 ·subst e;simp
 ·simp [e,show ¬ v=w from λh=>e h.symm]
theorem aJf {q:Qv} {n:Nat} (Q:QOk q n):jL q=some (qM q n):=by
 have n5:=Q.n5;unfold jL;rw [dK (s:=(([]:List (List Int)),(0:Int))) (r:=qM q n) (λk=>((List.range k).map λv=>oV n (mtF q q.src.length v),(k:Int))) n rfl (λk hk=>?_) (λ_=>?_),aB]
 ·unfold jW;simp only;rw [Q.n0,iH hk,aH,aER Q.bq,Q.qv,aB,aH,bF (by omega),bF (by omega),Bool.and_self,aH,cS];rw [aBJ,nW hk,aB,cS,←aBJ,aVA q hk,aRM Q rfl,aB,bF (by simp;omega),aH,bS hk (by omega),List.range_succ,List.map_append];rfl
 ·unfold jW;simp only;rw [Q.n0,jO (bK _),aX];rfl
theorem aPd {q:Qv} {n:Nat} (Q:QOk q n):rZ q=some (qM q n):=by
 have n5:=Q.n5;have m6:=Q.m6;unfold rZ;rw [Q.n0,bF (by omega),bF (by omega),Bool.and_self,aH,cS];rw [dK (r:=sH n (mtF q 0)) (λk=>(oV n λv=>if v<k then oV n (mtF q 0 v) else [],(k:Int))) n (by rw [aBJ];rfl) (λk hk=>?_) (λ_=>?_),aB]
 ·rw [dK (s:=(sH n (mtF q 0),(0:Int))) (r:=qM q n) (λk=>(sH n (mtF q k),(k:Int))) q.src.length rfl (λk hk=>?_) (λ_=>?_),aB]
  ·unfold nU;simp only;obtain ⟨s,t,hs,ht,e1,e2,e3,e4⟩:=Q.arrow hk;have bs:=λv w=>aRL q (k:=k) (by omega) v w;rw [iH hk,aH,e3,aB,e4];simp only [aB,cS];unfold sH;rw [nW hs,aB,nW ht];simp only [aB];rw [rF,nW ht];simp only [aB]
   have e5:(if t=s then (oV n (mtF q k s)).set t (wr (mtF q k s t - 1)) else oV n (mtF q k t))=oV n λw=>mtF q k t w - if t=s∧w=t then 1 else 0:=by
    by_cases c:t=s
    ·subst c;rw [aU rfl,rF,cJ (by have:=bs t t;omega)];refine gM λw _=>?_;by_cases c2:w=t
     ·subst c2;simp
     ·simp [c2]
    ·rw [aQ c];exact gM λw _=>by simp [c]
   rw [e5,nW hs];simp only [aB];rw [bS hk (by omega),rF,rF];congr 3;refine gM λv hv=>?_;have b1:=bs t s;have b2:=bs s t;by_cases c:v=t
   ·subst c;rw [aU rfl,cJ (by split <;> omega)]
    try rw [rF]
    refine gM λw hw=>?_;rw [aAS,sI e1 e2,sI e1 e2];by_cases c1:w=s
    ·subst c1;by_cases c2:v=w
     ·subst c2;simp <;> omega
     ·simp [c2,show ¬ w=v from λh=>c2 h.symm]
    ·rw [aQ c1];by_cases c2:v=s∧w=v
     ·omega
     ·simp [c2,c1]
   ·rw [aQ c];by_cases c1:v=s
    ·subst c1;rw [aU rfl,cJ (by omega)]
     try rw [rF]
     refine gM λw hw=>?_;rw [aAS,sI e1 e2,sI e1 e2];by_cases c2:w=t
     ·subst c2;simp [c]
     ·simp [c2,c]
    ·rw [aQ c1];refine gM λw hw=>?_;rw [aAS,sI e1 e2,sI e1 e2];simp [c,c1]
  ·unfold nU;simp only;rw [jO (bK _),aX];rfl
 ·unfold nT;simp only;rw [List.length_replicate,Q.n0,cS,iH hk,aH,bF (by omega),bF (by omega),Bool.and_self,aH,nW hk,aB];rw [aBJ n (0:Int),nW hk,aB,cS,←aBJ,aVA q hk,rF,bS hk (by omega)];congr 3;refine gM λv _=>?_;by_cases c:v=k
  ·subst c;simp
  ·rw [aQ c];by_cases c2:v<k
   ·rw [aU c2,aU (by omega)]
   ·rw [aQ c2,aQ (by omega)]
 ·unfold nT;simp only;rw [List.length_replicate,Q.n0,cS,jO (bK _),aX];congr 2;exact gM λv hv=>by rw [aU hv]
end
noncomputable section
theorem aKs: ∀ s:Nat,s<32→ ∀ v:Nat,v<5→aNd (aNc (s:Int) (v:Int)) 1=(if aBo s v then 1 else 0):=by decide+kernel
theorem aFX (s k:Nat):(List.range (k+1)).filter (aBo s)=(List.range k).filter (aBo s)++if aBo s k then [k] else []:=by
 rw [List.range_succ,List.filter_append];congr 1;cases h:aBo s k <;> simp [h]
theorem aGj {n s v:Nat} (h:v∈oY n s):v<n:=List.mem_range.1 (List.mem_filter.1 h).1
theorem aCZ (n s:Nat):(oY n s).length ≤n:=by
 have:=List.length_filter_le (aBo s) (List.range n);simpa [oY] using this
theorem aMQ {body:List Int×Int→Option ((List Int×Int) ⊕ List Int)} {n s:Nat} {f:Nat→Int} (hn:n≤5)
  (hb: ∀ k l,k<n→l.length≤5→body (l,(k:Int))=some (.inl (if aBo s k then l++[f k] else l,((k+1:Nat):Int)))) (hr: ∀ l,body (l,(n:Int))=some (.inr l)):Lp body ([],0)=some ((oY n s).map f):=by
 refine dK (λk=>(((List.range k).filter (aBo s)).map f,(k:Int))) n rfl (λk hk=>?_) (λ_=>hr _);have hl:=aCZ k s;unfold oY at hl;rw [hb k _ hk (by rw [dY];omega),aFX];cases h:aBo s k <;> simp
theorem aMR {n s:Nat} {F:Nat→Nat→Int} (hn:n≤5) (hs:s<32) {x1:Int×Int} (hx:x1.2=(s:Int)):Lp (iD (sH n F) x1) (0,[])=some (kX n (sH n F) s):=by
 have e0:kX n (sH n F) s=(oY n s).map λv=>(oY n s).map (F v):=by
  unfold kX;refine mH λv hv=>mH λw hw=>kE (aGj hv) (aGj hw)
 rw [e0];refine dK (λk=>((k:Int),((List.range k).filter (aBo s)).map λv=>(oY n s).map (F v))) n rfl (λk hk=>?_) (λ_=>?_)
 ·have hl:=aCZ k s;unfold oY at hl;unfold iD;simp only;rw [show (sH n F).length=n from jN _ _,iH hk,aH,show cF (sH n F) (k:Int)=some (oV n (F k)) from nW hk,aB,dF (by omega),Bool.not_false,aH,hx,aKs s hs k (by omega),bS hk (by omega)]
  have hrow:Lp (iC (oV n (F k)) x1) ([],0)=some ((oY n s).map (F k)):=by
   refine aMQ hn (λj l hj hl2=>?_) (λl=>?_)
   ·unfold iC;simp only;rw [jN,iH hj,aH,nW hj,aB,dF (by omega),Bool.not_false,aH,hx,aKs s hs j (by omega),bS hj (by omega)];cases h:aBo s j
    ·simp
    ·simp [show l.length<4294967296 by omega,show l.length≤4294967295 by omega,show l.length+1≤4294967296 by omega]
   ·unfold iC;simp only;rw [jN,jO (bK _),aX]
  rw [hrow,aB,aFX];generalize List.filter (aBo s) (List.range k)=lk at*;cases h:aBo s k
  ·simp
  ·simp [show lk.length<4294967296 by omega,show lk.length≤4294967295 by omega,show lk.length+1≤4294967296 by omega]
 ·unfold iD;simp only;rw [show (sH n F).length=n from jN _ _,jO (bK _),aX];rfl
theorem aMS {n s:Nat} {F:Nat→Nat→Int} (hn:n≤5) (hs:s<32):uC (sH n F) (s:Int)=some (kX n (sH n F) s):=by
 have e0:kX n (sH n F) s=(oY n s).map λv=>(oY n s).map (F v):=by
  unfold kX;refine mH λv hv=>mH λw hw=>kE (aGj hv) (aGj hw)
 rw [e0];unfold uC;rw [dK (s:=((0:Int),([]:List (List Int)))) (r:=(oY n s).map λv=>(oY n s).map (F v)) (λk=>((k:Int),((List.range k).filter (aBo s)).map λv=>(oY n s).map (F v))) n rfl (λk hk=>?_) (λ_=>?_),aB]
 ·have hl:=aCZ k s;unfold oY at hl;unfold pS;simp only;rw [show (sH n F).length=n from jN _ _,iH hk,aH,dF (by omega),Bool.not_false,aH,aKs s hs k (by omega),bS hk (by omega)]
  have hrow:Lp (lS (sH n F) (s:Int) ((k:Int),((List.range k).filter (aBo s)).map λv=>(oY n s).map (F v))) ([],0)=some ((oY n s).map (F k)):=by
   refine aMQ hn (λj l hj hl2=>?_) (λl=>?_)
   ·unfold lS;simp only;rw [show (sH n F).length=n from jN _ _,iH hj,aH,dF (by omega),Bool.not_false,aH,aKs s hs j (by omega),bS hj (by omega),show cF (sH n F) (k:Int)=some (oV n (F k)) from nW hk,aB,nW hj,aB];cases h:aBo s j
    ·simp
    ·simp [show l.length<4294967296 by omega,show l.length≤4294967295 by omega,show l.length+1≤4294967296 by omega]
   ·unfold lS;simp only;rw [show (sH n F).length=n from jN _ _,jO (bK _),aX]
  rw [hrow,aB,aFX];generalize List.filter (aBo s) (List.range k)=lk at*;cases h:aBo s k
  ·simp
  ·simp [show lk.length<4294967296 by omega,show lk.length≤4294967295 by omega,show lk.length+1≤4294967296 by omega]
 ·unfold pS;simp only;rw [show (sH n F).length=n from jN _ _,jO (bK _),aX];rfl
theorem aPe {a b:List Int} (h:a.length+b.length≤1000):jA [a,b]=some (a++b):=by
 have s1:dD [a,b] (0,0)=some (.inl ((a.length:Int),1)):=by
  unfold dD;simp [cF];rw [cJ (by omega),dF (by omega),aX,cJ (by omega)]
 have s2:dD [a,b] ((a.length:Int),1)=some (.inl ((a.length:Int)+b.length,2)):=by
  unfold dD;simp [cF];rw [cJ (by omega),dF (by omega),aX,cJ (by omega)]
 have s3:dD [a,b] ((a.length:Int)+b.length,2)=some (.inr ((a.length:Int)+b.length)):=by
  unfold dD;simp
 have t1:dE [a,b] ([],0)=some (.inl (a,1)):=by
  unfold dE;simp [cF];rw [bF (by omega),aH,cJ (by omega)]
 have t2:dE [a,b] (a,1)=some (.inl (a++b,2)):=by
  unfold dE;simp [cF];rw [bF (by omega),aH,cJ (by omega)]
 have t3:dE [a,b] (a++b,2)=some (.inr (a++b)):=by
  unfold dE;simp
 unfold jA;rw [iV s1,iV s2,dH s3,aB];unfold aNO;rw [bF (by omega),bF (by omega),Bool.and_self,aH,aB,iV t1,iV t2,dH t3,aB]
theorem aMT {k:Nat} {row:List Int} (h:k<row.length):(aKp k row).length=row.length - 1:=by simp [aKp];omega
theorem aMU (k:Nat):wr (-sgK k)=sgK (k+1):=by
 unfold sgK;rcases Nat.mod_two_eq_zero_or_one k with h|h
 ·rw [h,show (k+1) % 2=1 by omega];decide
 ·rw [h,show (k+1) % 2=0 by omega];decide
theorem aJg: ∀ (d k:Nat) (M:List (List Int)),k<d→k≤16→M.length=k→(∀ r∈M,r.length=k)→iT d M=some (xH d M)
 |0,k,M,h,_,_,_=>absurd h (by omega)
 |d+1,k,M,hd,h16,hl,hr=>by
  show mR (iT d) M=_;unfold mR;cases M with
  |nil=>rfl
  |cons r0 rest=>
   have hr0:=hr r0 (by simp);simp only [List.length_cons] at hl;rw [dF (by simp only [List.length_cons];omega),aX,show cF (r0::rest) 0=some r0 from rfl,aB];rw [dK (s:=((0:Int),(1:Int),(0:Int))) (r:=xH (d+1) (r0::rest)) (λj=>(aIk (xH d) r0 rest j,sgK j,(j:Int))) k rfl (λj hj=>?_) (λ_=>?_),aB]
   ·unfold mD;simp only;rw [hr0,iH hj,aH,sT 0 (by omega),aB,bF (by omega),bF (by simp only [List.length_cons];omega),bF (by omega),Bool.and_self,Bool.and_self,aH]
    have hmin:Lp (iO (r0::rest) (aIk (xH d) r0 rest j,sgK j,(j:Int))) ([],0)=some (rest.map (aKp j)):=by
     have e0:((r0::rest).drop (1:Int).toNat).take (((r0::rest).length:Int).toNat - (1:Int).toNat)=rest:=by simp
     refine dK (λi=>((rest.take i).map (aKp j),(i:Int))) rest.length rfl (λi hi=>?_) (λ_=>?_)
     ·unfold iO;simp only;rw [e0,iH hi,aH,sT [] hi,aB];have hrow:(rest[i]?.getD []).length=k:=by rw [gN hi];exact hr _ (by simp)
      rw [bS (n:=17) (by omega) (by omega),bF (by omega),bF (by omega),bF (by omega),bF (by omega),bF (by omega),bF (by omega)];simp only [Bool.and_self,aH];have e1:((rest[i]?.getD []).drop (0:Int).toNat).take ((j:Int).toNat - (0:Int).toNat)=(rest[i]?.getD []).take j:=by simp
      have e2:((rest[i]?.getD []).drop (((j+1:Nat):Int)).toNat).take (((rest[i]?.getD []).length:Int).toNat - (((j+1:Nat):Int)).toNat)=(rest[i]?.getD []).drop (j+1):=by
       rw [cS,cS,List.take_of_length_le (by simp)]
      rw [e1,e2,aPe (by simp;omega),aB,bF (by simp;omega),aH,bS hi (by omega)];congr 3;rw [aAh hi,List.map_append,gN hi];rfl
     ·unfold iO;simp only;rw [e0,jO (bK _),aX,List.take_length]
    rw [hmin,aB,aJg d (k - 1) (rest.map (aKp j)) (by omega) (by omega) (by simp;omega) (λr h=>by
     obtain ⟨r',h1,rfl⟩:=List.mem_map.1 h;have:=hr r' (by simp [h1])
     rw [aMT (by omega)];omega),aB,aMU,bS hj (by omega)]
    rfl
   ·unfold mD;simp only;rw [hr0,jO (bK _),aX];show some (Sum.inr (aIk (xH d) r0 rest k))=some (Sum.inr (aIk (xH d) r0 rest r0.length));rw [hr0]
theorem aJh: ∀ (d k:Nat) (M:List (List Int)),k<d→k≤16→M.length=k→(∀ r∈M,r.length=k)→qI d M=some (xH d M)
 |0,k,M,h,_,_,_=>absurd h (by omega)
 |d+1,k,M,hd,h16,hl,hr=>by
  show uB (qI d) M=_;unfold uB;cases M with
  |nil=>rfl
  |cons r0 rest=>
   have hr0:=hr r0 (by simp);simp only [List.length_cons] at hl;rw [dF (by simp only [List.length_cons];omega),aX];rw [dK (s:=((0:Int),(1:Int),(0:Int))) (r:=xH (d+1) (r0::rest)) (λj=>(aIk (xH d) r0 rest j,sgK j,(j:Int))) k rfl (λj hj=>?_) (λ_=>?_),aB]
   ·unfold rY;simp only;rw [show (r0::rest).length=k by simp only [List.length_cons];omega,iH hj,aH]
    have hmin:Lp (oO (r0::rest) (aIk (xH d) r0 rest j,sgK j,(j:Int))) (([]:List (List Int)),1)=some (rest.map (aKp j)):=by
     refine dK (λi=>((rest.take i).map (aKp j),((i+1:Nat):Int))) rest.length rfl (λi hi=>?_) (λ_=>?_)
     ·unfold oO;simp only
      have hat:cF (r0::rest) ((i+1:Nat):Int)=some (rest[i]?.getD []):=by
       rw [sT [] (by simp;omega)];rfl
      rw [List.length_cons,iH (by omega),aH,hat,aB];have hrow:(rest[i]?.getD []).length=k:=by rw [gN hi];exact hr _ (by simp)
      rw [bS (k:=j) (n:=17) (by omega) (by omega),bF (by omega),bF (by omega),bF (by omega)];simp only [Bool.and_self,aH];have e1:((rest[i]?.getD []).drop (0:Int).toNat).take ((j:Int).toNat - (0:Int).toNat)=(rest[i]?.getD []).take j:=by simp
      have e2:((rest[i]?.getD []).drop (((j+1:Nat):Int)).toNat).take (((rest[i]?.getD []).length:Int).toNat - (((j+1:Nat):Int)).toNat)=(rest[i]?.getD []).drop (j+1):=by
       rw [cS,cS,List.take_of_length_le (by simp)]
      rw [e1,bF (by simp;omega),aH];simp only [aB];rw [bF (by omega),bF (by omega),bF (by omega)];simp only [Bool.and_self,aH];rw [e2,bF (by simp;omega),aH,bF (by simp;omega),aH,bS (k:=i+1) (n:=18) (by omega) (by omega)];congr 3;rw [aAh hi,List.map_append,gN hi];rfl
     ·unfold oO;simp only;rw [List.length_cons,jO (bK _),aX,List.take_length]
    rw [hmin,aB,show cF (r0::rest) 0=some r0 from rfl,aB,sT 0 (by omega),aB,aJh d (k - 1) (rest.map (aKp j)) (by omega) (by omega) (by simp;omega) (λr h=>by
     obtain ⟨r',h1,rfl⟩:=List.mem_map.1 h;have:=hr r' (by simp [h1])
     rw [aMT (by omega)];omega),aB,aMU,bS hj (by omega)]
    rfl
   ·unfold rY;simp only;rw [show (r0::rest).length=k by simp only [List.length_cons];omega,jO (bK _),aX];show some (Sum.inr (aIk (xH d) r0 rest k))=some (Sum.inr (aIk (xH d) r0 rest r0.length));rw [hr0]
end
noncomputable section
def aCa (n:Nat) (T:List (List Int)):Nat→Int→Nat→Int
 |0,kind,_=>kind
 |f+1,kind,s=>if xH 8 (kX n T s)<0 then 3 else aCa n T f (if xH 8 (kX n T s)=0 then 2 else kind) (s+1)
theorem aDD {n s:Nat} {T:List (List Int)} :(kX n T s).length=(oY n s).length∧ ∀ r∈kX n T s,r.length=(oY n s).length:=by
 refine ⟨by simp [kX],λr hr=>?_⟩;obtain ⟨v,_,rfl⟩:=List.mem_map.1 hr;simp
theorem aKt: ∀ n:Nat,n<6→aNb 1 (n:Int)=((2 ^ n:Nat):Int):=by decide+kernel
theorem aRN: ∀ n:Nat,n<6→2 ^ n≤32:=by decide
theorem aFY {body:Int×Int→Option ((Int×Int) ⊕ (Int ⊕ Int))} {n:Nat} {T:List (List Int)} (hn:n<6)
  (hs: ∀ (kind:Int) (s:Nat),1≤s→s<2 ^ n→body (kind,(s:Int))=some (if xH 8 (kX n T s)<0 then .inr (.inr 3) else .inl (if xH 8 (kX n T s)=0 then 2 else kind,((s+1:Nat):Int))))
  (he: ∀ kind:Int,body (kind,((2 ^ n:Nat):Int))=some (.inr (.inl kind))): ∀ (f:Nat) (kind:Int) (s:Nat),1≤s→s+f=2 ^ n→(Option.bind (Lp body (kind,(s:Int))) λy=>Sum.elim (λa=>some a) (λb=>some b) y)=some (aCa n T f kind s)
 |0,kind,s,h1,h=>by
  have h':s=2 ^ n:=by omega
  subst h';rw [dH (he kind)];rfl
 |f+1,kind,s,h1,h=>by
  have hb:=hs kind s h1 (by omega);simp only [aCa];by_cases c:xH 8 (kX n T s)<0
  ·rw [aU c] at hb ⊢;rw [dH hb];rfl
  ·rw [aQ c] at hb ⊢;rw [iV hb];exact aFY hn hs he f _ (s+1) (by omega) (by omega)
theorem aIG {q:Qv} {n:Nat} (Q:QOk q n):kJ q=some (aCa n (qM q n) (2 ^ n - 1) 1 1):=by
 have n5:=Q.n5;have hp:=aRN n (by omega);have hp1:1≤2 ^ n:=Nat.one_le_two_pow;unfold kJ;rw [aKX Q.bq,Q.qv,aB,gG,aX,aPd Q,aB];refine aFY (by omega) (λkind s h1 h2=>?_) (λkind=>?_) _ _ 1 (bK _) (by omega)
 ·unfold kW;simp only;rw [Q.n0,dF (by omega),Bool.not_false,aH,aKt n (by omega),iH h2,aH];unfold qM;rw [aMR n5 (by omega) (x1:=(kind,(s:Int))) rfl,aB];have hl:=aCZ n s;rw [aJg 8 (oY n s).length _ (by omega) (by omega) aDD.1 aDD.2,aB,bS h2 (by omega)];generalize xH 8 (kX n (sH n (mtF q q.src.length)) s)=d;by_cases c:d<0
  ·simp [c]
  ·by_cases c2:d=0
   ·simp [c2]
   ·simp [c,c2]
 ·unfold kW;simp only;rw [Q.n0,dF (by omega),Bool.not_false,aH,aKt n (by omega),jO (bK _),aX]
theorem aIH {q:Qv} {n:Nat} (Q:QOk q n):kI q=some (aCa n (qM q n) (2 ^ n - 1) 1 1):=by
 have n5:=Q.n5;have hp:=aRN n (by omega);have hp1:1≤2 ^ n:=Nat.one_le_two_pow;unfold kI;rw [aER Q.bq,Q.qv,aB,gG,aX,aJf Q,aB];refine aFY (by omega) (λkind s h1 h2=>?_) (λkind=>?_) _ _ 1 (bK _) (by omega)
 ·unfold kV;simp only;rw [Q.n0,dF (by omega),Bool.not_false,aH,aKt n (by omega),iH h2,aH];unfold qM;rw [aMS n5 (by omega),aB];have hl:=aCZ n s;rw [aJh 8 (oY n s).length _ (by omega) (by omega) aDD.1 aDD.2,aB,bS h2 (by omega)];generalize xH 8 (kX n (sH n (mtF q q.src.length)) s)=d;by_cases c:d<0
  ·simp [c]
  ·by_cases c2:d=0
   ·simp [c2]
   ·simp [c,c2]
 ·unfold kV;simp only;rw [Q.n0,dF (by omega),Bool.not_false,aH,aKt n (by omega),jO (bK _),aX]
theorem aJi {n:Nat} {T:List (List Int)} : ∀ f s,aCa n T f 2 s≠1
 |0,s=>by simp [aCa]
 |f+1,s=>by
  simp only [aCa];split
  ·decide
  ·rw [ite_self];exact aJi f (s+1)
theorem aJj {n:Nat} {T:List (List Int)} : ∀ {f:Nat} {kind:Int} {s:Nat},aCa n T f kind s=1→ ∀ t,s≤t→t<s+f→0<xH 8 (kX n T t)
 |0,kind,s,h,t,h1,h2=>by omega
 |f+1,kind,s,h,t,h1,h2=>by
  simp only [aCa] at h;split at h
  ·cases h
  ·rename_i c;by_cases c2:xH 8 (kX n T s)=0
   ·rw [aU c2] at h;exact absurd h (aJi f (s+1))
   ·rw [aQ c2] at h;by_cases e:t=s
    ·subst e;omega
    ·exact aJj h t (by omega) (by omega)
theorem aRO: ∀ n,n<6→ ∀ v,v<n→oY n (2 ^ v)=[v]:=by decide+kernel
theorem aRP: ∀ n,n<6→ ∀ v,v<n→ ∀ w,w<n→v<w→oY n (2 ^ v+2 ^ w)=[v,w]:=by decide+kernel
theorem aOh: ∀ n,n<6→ ∀ v,v<n→1≤2 ^ v∧2 ^ v<2 ^ n:=by decide
theorem aOi: ∀ n,n<6→ ∀ v,v<n→ ∀ w,w<n→v<w→1≤2 ^ v+2 ^ w∧2 ^ v+2 ^ w<2 ^ n:=by decide
theorem aSm: ∀ c:Nat,c<7→0<xH 8 [[2 - 2*(c:Int)]]→c=0:=by decide+kernel
theorem aSn: ∀ c:Nat,c<13→0<xH 8 [[2, -(c:Int)],[-(c:Int),2]]→c≤1:=by decide+kernel
theorem aRQ {q:Qv} {n:Nat} (Q:QOk q n) (h: ∀ t,1≤t→t<2 ^ n→0<xH 8 (kX n (qM q n) t)):GForm n (qM q n)∧aJb n (qM q n)=true:=by
 have n5:=Q.n5;have m6:=Q.m6;generalize hF:mtF q q.src.length=F;have hT:qM q n=sH n F:=by rw [←hF];rfl
 rw [hT] at h ⊢;have hsym: ∀ v w,F v w=F w v:=λv w=>by rw [←hF];exact aUI q _ v w
 have hd: ∀ v,v<n→F v v=2:=by
  intro v hv;have h1:=h (2 ^ v) (aOh n (by omega) v hv).1 (aOh n (by omega) v hv).2
  have e:kX n (sH n F) (2 ^ v)=[[F v v]]:=by
   unfold kX;rw [aRO n (by omega) v hv];simp [kE hv hv]
  have hc:=aFW q q.src.length v v
  have e2:F v v=2 - 2*(((aGZ q q.src.length v v).toNat:Nat):Int):=by
   rw [←hF];unfold mtF;rw [aU rfl];omega
  rw [e,e2] at h1;have:=aSm _ (by omega) h1;omega
 have ho: ∀ v w,v<n→w<n→v<w→F v w=0∨F v w= -1:=by
  intro v w hv hw hvw;have h1:=h (2 ^ v+2 ^ w) (aOi n (by omega) v hv w hw hvw).1 (aOi n (by omega) v hv w hw hvw).2;have hc:=aFW q q.src.length v w;have hc2:=aFW q q.src.length w v
  have e2:F v w= -((((aGZ q q.src.length v w+aGZ q q.src.length w v).toNat:Nat)):Int):=by
   rw [←hF];unfold mtF;rw [aQ (by omega)];omega
  have e:kX n (sH n F) (2 ^ v+2 ^ w)=[[2,F v w],[F v w,2]]:=by
   unfold kX;rw [aRP n (by omega) v hv w hw hvw];simp [kE hv hv,kE hv hw,kE hw hv,kE hw hw,hd v hv,hd w hw,hsym w v]
  rw [e,e2] at h1;have:=aSn _ (by omega) h1;omega
 have hT2:sH n F=sH n λv w=>if v=w then 2 else bi (decide (F (min v w) (max v w)= -1)):=by
  refine aNm λv w hv hw=>?_;by_cases e:v=w
  ·subst e;rw [aU rfl];exact hd v hv
  ·rw [aQ e];rcases Nat.lt_or_gt_of_ne e with c|c
   ·rw [Nat.min_eq_left (by omega),Nat.max_eq_right (by omega)];rcases ho v w hv hw c with h|h <;> rw [h] <;> rfl
   ·rw [Nat.min_eq_right (by omega),Nat.max_eq_left (by omega),hsym v w];rcases ho w v hw hv c with h|h <;> rw [h] <;> rfl
 have hchk:zG n (sH n F)=true:=by
  rw [hT2];have hn1:=Q.n1;have hcase:n=1∨n=2∨n=3∨n=4∨n=5:=by omega
  rcases hcase with rfl|rfl|rfl|rfl|rfl
  ·exact aVo
  ·exact aVp (decide (F 0 1= -1))
  ·exact aVq (decide (F 0 1= -1)) (decide (F 0 2= -1)) (decide (F 1 2= -1))
  ·exact aVr (decide (F 0 1= -1)) (decide (F 0 2= -1)) (decide (F 0 3= -1)) (decide (F 1 2= -1)) (decide (F 1 3= -1)) (decide (F 2 3= -1))
  ·exact aVs (decide (F 0 1= -1)) (decide (F 0 2= -1)) (decide (F 0 3= -1)) (decide (F 0 4= -1)) (decide (F 1 2= -1)) (decide (F 1 3= -1)) (decide (F 1 4= -1)) (decide (F 2 3= -1)) (decide (F 2 4= -1)) (decide (F 3 4= -1))
 have hgood:aJb n (sH n F)=true:=by
  unfold zG at hchk;rcases Bool.or_eq_true_iff.1 hchk with h1|h1
  ·exact h1
  ·rw [List.any_eq_true] at h1;obtain ⟨s,hs,h2⟩:=h1;simp only [cY,gJ,Nat.blt_eq] at h2;have hs1:1≤s:=by simp only [dP,List.not_mem_nil,or_false] at hs;omega
   have:=h s hs1 h2.1;omega
 refine ⟨⟨λi j hi hj=>by rw [kE hi hj,kE hj hi];exact hsym i j,λi hi=>by rw [kE hi hi];exact hd i hi,(aAQ hgood).1⟩,hgood⟩
end
noncomputable section
def eul (q:Qv) (n:Nat) (x y:List Int):Int:=(dU n λv=>gx x v*gx y v) - dU q.src.length λi=>gx x (gx q.src i).toNat *gx y (gx q.tgt i).toNat
theorem aAT {f:Nat→Int} {B:Int} : ∀ {n:Nat},(∀ i,i<n→ -B≤f i∧f i≤B)→ -(B*n)≤dU n f∧dU n f≤B*n
 |0,_=>by simp [dU]
 |n+1,h=>by
  have h1:=aAT (n:=n) λi hi=>h i (by omega);have h2:=h n (by omega);simp only [dU,Int.natCast_add,Int.mul_add];omega
theorem aFZ {a b:Int} (ha: -100≤a∧a≤100) (hb: -100≤b∧b≤100): -10000≤a*b∧a*b≤10000:=by
 have h1:=Int.mul_nonneg (a:=100 - a) (b:=100+b) (by omega) (by omega);have h2:=Int.mul_nonneg (a:=100+a) (b:=100 - b) (by omega) (by omega);have h3:=Int.mul_nonneg (a:=100 - a) (b:=100 - b) (by omega) (by omega);have h4:=Int.mul_nonneg (a:=100+a) (b:=100+b) (by omega) (by omega)
 grind
def Sm (x:List Int):Prop:= ∀ a∈x, -100≤a∧a≤100
theorem Sm.gx {x:List Int} (h:Sm x) (i:Nat): -100≤gx x i∧gx x i≤100:=by
 rcases dR i x.length with h'|h'
 ·exact h _ (xW h')
 ·unfold Go.Proofs.YtilpfdokmlanjaaGreat.gx;rw [gF h'];simp
theorem aRR {n:Nat} {x y:List Int} (hx:x.length=n) (hy:y.length=n) (n5:n≤5) (sx:Sm x) (sy:Sm y) {body:Int×Int→Option ((Int×Int) ⊕ Int)}
  (hb: ∀ (s:Int) (k:Nat),k<n→body (s,(k:Int))=some (.inl (wr (s+wr (gx x k*gx y k)),wr ((k:Int)+1)))) (he: ∀ s:Int,body (s,(n:Int))=some (.inr s)):Lp body (0,0)=some (dU n λv=>gx x v*gx y v):=by
 refine dK (λk=>(dU k λv=>gx x v*gx y v,(k:Int))) n rfl (λk hk=>?_) (λ_=>he _);have h1:=aFZ (sx.gx k) (sy.gx k);have h2:=aAT (n:=k) (f:=λv=>gx x v*gx y v) (B:=10000) λi _=>aFZ (sx.gx i) (sy.gx i);rw [hb _ k hk,cJ (x:=gx x k*gx y k) (by omega),cJ (by omega),bS hk (by omega)];rfl
theorem aRS {q:Qv} {n:Nat} (Q:QOk q n) {x y:List Int} (hx:x.length=n) (hy:y.length=n) (sx:Sm x) (sy:Sm y) {s0:Int} (hs0: -50000≤s0∧s0≤50000) {body:Int×Int→Option ((Int×Int) ⊕ Int)}
  (hb: ∀ (s:Int) (k:Nat),k<q.src.length→body (s,(k:Int))=some (.inl (wr (s - wr (gx x (gx q.src k).toNat *gx y (gx q.tgt k).toNat)),wr ((k:Int)+1)))) (he: ∀ s:Int,body (s,(q.src.length:Int))=some (.inr s)):
  Lp body (s0,0)=some (s0 - dU q.src.length λi=>gx x (gx q.src i).toNat *gx y (gx q.tgt i).toNat):=by
 have m6:=Q.m6;refine dK (λk=>(s0 - dU k λi=>gx x (gx q.src i).toNat *gx y (gx q.tgt i).toNat,(k:Int))) q.src.length (by simp [dU]) (λk hk=>?_) (λ_=>he _);have h1:=aFZ (sx.gx (gx q.src k).toNat) (sy.gx (gx q.tgt k).toNat);have h2:=aAT (n:=k) (f:=λi=>gx x (gx q.src i).toNat *gx y (gx q.tgt i).toNat) (B:=10000) λi _=>aFZ (sx.gx _) (sy.gx _);rw [hb _ k hk,cJ (x:=gx x (gx q.src k).toNat *gx y (gx q.tgt k).toNat) (by omega),cJ (by omega),bS hk (by omega)];simp only [dU];congr 3;omega
theorem aKu {n:Nat} {x y:List Int} (n5:n≤5) (sx:Sm x) (sy:Sm y): -50000≤(dU n λv=>gx x v*gx y v)∧(dU n λv=>gx x v*gx y v)≤50000:=by
 have:=aAT (n:=n) (f:=λv=>gx x v*gx y v) (B:=10000) λi _=>aFZ (sx.gx i) (sy.gx i);omega
theorem aUJ {q:Qv} {n:Nat} (Q:QOk q n) {x y:List Int} (sx:Sm x) (sy:Sm y): -200000≤eul q n x y∧eul q n x y≤200000:=by
 have h1:=aKu (x:=x) (y:=y) Q.n5 sx sy;have h2:=aAT (n:=q.src.length) (f:=λi=>gx x (gx q.src i).toNat *gx y (gx q.tgt i).toNat) (B:=10000) λi _=>aFZ (sx.gx _) (sy.gx _);have:=Q.m6;unfold eul;omega
theorem aJk {q:Qv} {n:Nat} (Q:QOk q n) {x y:List Int} (hx:x.length=n) (hy:y.length=n) (sx:Sm x) (sy:Sm y):vA q x y=some (eul q n x y):=by
 have n5:=Q.n5;unfold vA;rw [aRR hx hy n5 sx sy (λs k hk=>?_) (λs=>?_),aB,aRS Q hx hy sx sy (aKu n5 sx sy) (λs k hk=>?_) (λs=>?_),aB]
 ·rfl
 ·unfold uA;simp only;obtain ⟨s',t,hs,ht,e1,e2,e3,e4⟩:=Q.arrow hk;rw [iH hk,aH,e3,aB,vO (by omega),aB,e4,aB,vO (by omega),aB,e1,e2,cS,cS]
 ·unfold uA;simp only;rw [jO (bK _),aX]
 ·unfold tZ;simp only;rw [hx,iH hk,aH,vO (by omega),aB,vO (by omega),aB]
 ·unfold tZ;simp only;rw [hx,jO (bK _),aX]
theorem aMV {q:Qv} (hq:bQ q) {x:List Int} (hx:x.length≤1048576):oN q x=some ((x.all λa=>inR a (-100) 100)&&(aAL q&&decide ((x.length:Int)=q.n))):=by
 unfold oN;rw [aDY (λk=>inR (x[k]?.getD 0) (-100) 100) false (n:=x.length) (by omega) (λk hk=>?_) (λ_=>?_),aAq 0 x (λa=>inR a (-100) 100),aB]
 ·cases x.all λa=>inR a (-100) 100
  ·rfl
  ·rw [aH,Bool.true_and];show (Option.bind (iI q) λv7=>bif v7 then some (decide ((x.length:Int)=q.n)) else some false)=_;rw [aER hq,aB];cases aAL q <;> rfl
 ·unfold nO;rw [iH hk,aH,sT 0 hk,aB,aAZ,aB];cases inR _ (-100) 100 <;> rfl
 ·unfold nO;rw [jO (bK _),aX]
theorem Sm.all {x:List Int} (h:Sm x):(x.all λa=>inR a (-100) 100)=true:=by
 rw [List.all_eq_true];intro a ha;exact aHG (h a ha).1 (h a ha).2
theorem aJl {q:Qv} {n:Nat} (Q:QOk q n) {x y:List Int} (hx:x.length=n) (hy:y.length=n) (sx:Sm x) (sy:Sm y):lD q x y=some (eul q n x y):=by
 have n5:=Q.n5;unfold lD;rw [aMV Q.bq (by omega),sx.all,Q.qv,hx,Q.n0,bF rfl,aMV Q.bq (by omega),sy.all,Q.qv,hy,Q.n0,bF rfl];simp only [Bool.and_self,aB,gG,aX];rw [aRR hx hy n5 sx sy (λs k hk=>?_) (λs=>?_),aB,aRS Q hx hy sx sy (aKu n5 sx sy) (λs k hk=>?_) (λs=>?_),aB]
 ·rfl
 ·unfold nS;simp only;obtain ⟨s',t,hs,ht,e1,e2,e3,e4⟩:=Q.arrow hk;rw [iH hk,aH,e3,aB,vO (by omega),aB,e4,aB,vO (by omega),aB,e1,e2,cS,cS]
 ·unfold nS;simp only;rw [jO (bK _),aX]
 ·unfold nP;simp only;rw [Q.n0,iH hk,aH,vO (by omega),aB,vO (by omega),aB]
 ·unfold nP;simp only;rw [Q.n0,jO (bK _),aX]
theorem aVB {n s t:Nat} (x:Nat→Int) (hs:s<n) (ht:t<n):(dU n λv=>dU n λw=>(if v=s∧w=t then 1 else 0)*(x v*x w))=x s*x t:=by
 rw [dM (g:=λv=>if v=s then (λv=>x v*x t) v else 0) (λv hv=>?_),aBI (λv=>x v*x t) hs];by_cases c:v=s
 ·rw [aU c];refine (dM λw _=>?_).trans (aBI (λw=>x v*x w) ht);by_cases c2:w=t
  ·simp [c,c2]
  ·simp [c2]
 ·rw [aQ c,dM (g:=λ_=>0) (λw _=>by simp [c]),wF]
theorem aTQ {q:Qv} {n:Nat} (Q:QOk q n) (x:Nat→Int): ∀ k,k≤q.src.length→qf n (mtF q k) x=2*(dU n λv=>x v*x v) - 2*dU k λi=>x (gx q.src i).toNat *x (gx q.tgt i).toNat
 |0,_=>by
  unfold qf;simp only [dU];rw [dM (g:=λv=>2*(x v*x v)) (λv hv=>?_),lX]
  ·omega
  ·rw [←aBI (λw=>2*(x v*x w)) hv];refine dM λw _=>?_;unfold mtF aGZ;simp only [dU];by_cases c:v=w
   ·subst c;simp
   ·simp [c,show ¬ w=v from λh=>c h.symm]
 |k+1,hk=>by
  have ih:=aTQ Q x k (by omega);obtain ⟨s,t,hs,ht,e1,e2,e3,e4⟩:=Q.arrow (i:=k) (by omega)
  have e:qf n (mtF q (k+1)) x=qf n (mtF q k) x+((-1)*(dU n λv=>dU n λw=>(if v=s∧w=t then 1 else 0)*(x v*x w))+(-1)*(dU n λv=>dU n λw=>(if v=t∧w=s then 1 else 0)*(x v*x w))):=by
   unfold qf;rw [←lX,←lX,←oU,←oU];refine dM λv _=>?_;rw [←lX,←lX,←oU,←oU];refine dM λw _=>?_;rw [aAS,sI e1 e2,sI e1 e2]
   have c:(if w=s∧v=t then (1:Int) else 0)=if v=t∧w=s then 1 else 0:=by
    by_cases h:v=t∧w=s
    ·rw [aU h,aU ⟨h.2,h.1⟩]
    ·rw [aQ h,aQ λh'=>h ⟨h'.2,h'.1⟩]
   rw [c]
   grind
  rw [e,aVB x hs ht,aVB x ht hs,ih];simp only [dU];rw [e1,e2,cS,cS]
  grind
theorem aRT {n:Nat} {m m':Nat→Nat→Int} (x:Nat→Int) (h: ∀ i j,i<n→j<n→m i j=m' i j):qf n m x=qf n m' x:=
 dM λi hi=>dM λj hj=>by rw [h i j hi hj]
theorem aRU {q:Qv} {n:Nat} (Q:QOk q n) (x:List Int):qf n (jH (qM q n)) (gx x)=2*eul q n x x:=by
 have e:qf n (jH (qM q n)) (gx x)=qf n (mtF q q.src.length) (gx x):=aRT _ λi j hi hj=>kE hi hj;rw [e,aTQ Q _ _ (bK _)];unfold eul;omega
theorem aFa: ∀ {ms x:List Int},x∈cV ms↔x.length=ms.length∧ ∀ i,i<ms.length→0≤gx x i∧(gx x i).toNat ≤(gx ms i).toNat
 | [],x=>by
  simp only [cV,List.mem_singleton,List.length_nil];constructor
  ·rintro rfl;exact ⟨rfl,λi h=>by omega⟩
  ·rintro ⟨h,_⟩;exact List.eq_nil_of_length_eq_zero h
 |m::ms,x=>by
  simp only [cV,List.mem_flatMap,List.mem_range,List.mem_map];constructor
  ·rintro ⟨i,hi,y,hy,rfl⟩;obtain ⟨h1,h2⟩:=aFa.1 hy;refine ⟨by simp [h1],λj hj=>?_⟩;cases j with
   |zero=>show 0≤(i:Int)∧(i:Int).toNat ≤m.toNat;omega
   |succ j=>exact h2 j (by simpa using hj)
  ·rintro ⟨h1,h2⟩;cases x with
   |nil=>simp at h1
   |cons a x=>
    have h3:=h2 0 (by simp);have h4:0≤a∧a.toNat≤m.toNat:=h3;refine ⟨a.toNat,by omega,x,aFa.2 ⟨by simpa using h1,λj hj=>h2 (j+1) (by simpa using hj)⟩,?_⟩;rw [Int.toNat_of_nonneg h4.1]
def zN:List Int→List Int→Bool
 |a::x,b::y=>decide (a<b)||(decide (a=b)&&zN x y)
 |_,_=>false
theorem aFb: ∀ ms:List Int,(cV ms).Pairwise λx y=>zN x y=true
 | []=>by simp [cV]
 |m::ms=>by
  simp only [cV];rw [List.pairwise_flatMap];refine ⟨λi _=>?_,?_⟩
  ·rw [List.pairwise_map];exact (aFb ms).imp λh=>by simp [zN,h]
  ·refine List.pairwise_lt_range.imp λh=>?_;intro x hx y hy;obtain ⟨x',_,rfl⟩:=List.mem_map.1 hx;obtain ⟨y',_,rfl⟩:=List.mem_map.1 hy;simp only [zN,Bool.or_eq_true,gJ];exact .inl (by omega)
theorem aII: ∀ x:List Int,zN x x=false
 | []=>rfl
 |a::x=>by simp [zN,aII x]
theorem aFx (ms:List Int):(cV ms).Nodup:=(aFb ms).imp λ{x y} h e=>by rw [e,aII] at h;cases h
theorem aPf: ∀ n,n<6→(cV (List.replicate n 4)).length ≤3125:=by decide+kernel
theorem aUK: ∀ n,n<6→aHq (List.replicate n 4)=true:=by decide
end
noncomputable section
def aBp {α:Type} (lt:α→α→Bool) (x:α):List α→List α→List α
 | [],acc=>x::acc
 |p::ps,acc=>if lt x p=true then aBp lt x ps (p::acc) else (p::ps).reverse++x::acc
def aFc {α:Type} (lt:α→α→Bool) (x:α) (P:List α):List α:=aBp lt x P.reverse []
def kZ {α:Type} (lt:α→α→Bool) (A:List α):List α:=A.foldl (λS x=>aFc lt x S) []
theorem aMW {α:Type} (lt:α→α→Bool) (x:α): ∀ ps acc,(aBp lt x ps acc).length=ps.length+acc.length+1
 | [],acc=>by simp [aBp]
 |p::ps,acc=>by
  simp only [aBp];split
  ·rw [aMW lt x ps (p::acc)];simp;omega
  ·simp;omega
theorem aMX {α:Type} (lt:α→α→Bool) (x y:α): ∀ ps acc,y∈aBp lt x ps acc↔y=x∨y∈ps∨y∈acc
 | [],acc=>by simp [aBp]
 |p::ps,acc=>by
  simp only [aBp];split
  ·rw [aMX lt x y ps (p::acc)];simp only [dP];grind
  ·simp only [eG,List.mem_reverse,dP];grind
theorem aRV {α:Type} (lt:α→α→Bool) (x:α) (P:List α):(aFc lt x P).length=P.length+1:=by unfold aFc;rw [aMW];simp
theorem aRW {α:Type} {lt:α→α→Bool} {x y:α} {P:List α} :y∈aFc lt x P↔y=x∨y∈P:=by unfold aFc;rw [aMX];simp
theorem aDo {α:Type} (lt:α→α→Bool) (A:List α) (x:α):kZ lt (A++[x])=aFc lt x (kZ lt A):=by simp [kZ]
theorem rG {α:Type} (lt:α→α→Bool): ∀ A:List α,(kZ lt A).length=A.length∧ ∀ y,y∈kZ lt A↔y∈A:=by
 have key: ∀ A S:List α,(A.foldl (λS x=>aFc lt x S) S).length=S.length+A.length∧ ∀ y,y∈A.foldl (λS x=>aFc lt x S) S↔y∈S∨y∈A:=by
  intro A;induction A with
  |nil=>intro S;simp
  |cons a A ih=>
   intro S;obtain ⟨h1,h2⟩:=ih (aFc lt a S);refine ⟨by rw [List.foldl_cons,h1,aRV];simp;omega,λy=>?_⟩;rw [List.foldl_cons,h2 y,aRW];simp only [dP];grind
 intro A;obtain ⟨h1,h2⟩:=key A [];exact ⟨by unfold kZ;rw [h1];simp,λy=>by unfold kZ;rw [h2];simp⟩
theorem aFy {α:Type} {lt:α→α→Bool} {R:α→α→Prop} (hT: ∀ a b c,R a b→R b c→R a c) {x:α} : ∀ {ps acc:List α},(ps.reverse++acc).Pairwise R→(∀ a∈acc,R x a)→(∀ p∈ps,lt x p=true→R x p)→(∀ p∈ps,lt x p=false→R p x)→(aBp lt x ps acc).Pairwise R
 | [],acc,hs,ha,h1,h0=>by simp only [aBp];exact List.pairwise_cons.2 ⟨ha,by simpa using hs⟩
 |p::ps,acc,hs,ha,h1,h0=>by
  simp only [aBp];by_cases c:lt x p=true
  ·rw [aU c];have e:(p::ps).reverse++acc=ps.reverse++(p::acc):=by simp
   rw [e] at hs;refine aFy hT hs (λa h=>?_) (λq hq=>h1 q (by simp [hq])) (λq hq=>h0 q (by simp [hq]));rcases dP.1 h with rfl|h
   ·exact h1 _ (by simp) c
   ·exact ha a h
  ·rw [aQ c];have hp:=h0 p (by simp) (by simpa using c);rw [List.pairwise_append] at hs ⊢;obtain ⟨g1,g2,g3⟩:=hs;refine ⟨g1,List.pairwise_cons.2 ⟨ha,g2⟩,λa h1' b hb=>?_⟩;rcases dP.1 hb with rfl|hb
   ·rcases List.mem_reverse.1 h1' |> dP.1 with rfl|h
    ·exact hp
    ·refine hT _ p _ ?_ hp;rw [List.reverse_cons,List.pairwise_append] at g1;exact g1.2.2 a (by simpa using h) p (by simp)
   ·exact g3 a h1' b hb
theorem aMY {α:Type} {lt:α→α→Bool} {R:α→α→Prop} (hT: ∀ a b c,R a b→R b c→R a c) {x:α} {P:List α} (hP:P.Pairwise R) (h1: ∀ p∈P,lt x p=true→R x p) (h0: ∀ p∈P,lt x p=false→R p x):(aFc lt x P).Pairwise R:=
 aFy hT (by simpa using hP) (by simp) (λp hp=>h1 p (by simpa using hp)) (λp hp=>h0 p (by simpa using hp))
theorem aIJ {α:Type} {R:α→α→Prop} (hI: ∀ a,¬ R a a) (hT: ∀ a b c,R a b→R b c→R a c): ∀ {l m:List α},l.Pairwise R→m.Pairwise R→(∀ x,x∈l↔x∈m)→l=m
 | [],m,_,_,h=>by
  cases m with
  |nil=>rfl
  |cons b m=>exact absurd ((h b).2 (by simp)) (by simp)
 |a::l,m,hl,hm,h=>by
  cases m with
  |nil=>exact absurd ((h a).1 (by simp)) (by simp)
  |cons b m=>
   have hl':=List.pairwise_cons.1 hl;have hm':=List.pairwise_cons.1 hm
   have hab:a=b:=by
    rcases dP.1 ((h a).1 (by simp)) with e|e
    ·exact e
    ·rcases dP.1 ((h b).2 (by simp)) with e2|e2
     ·exact e2.symm
     ·exact absurd (hT _ _ _ (hl'.1 b e2) (hm'.1 a e)) (hI a)
   subst hab;congr 1;refine aIJ hI hT hl'.2 hm'.2 λx=>?_;have hx:=h x;simp only [dP] at hx;constructor
   ·intro h1;rcases hx.1 (.inr h1) with rfl|h2
    ·exact absurd (hl'.1 _ h1) (hI _)
    ·exact h2
   ·intro h1;rcases hx.2 (.inr h1) with rfl|h2
    ·exact absurd (hm'.1 _ h1) (hI _)
    ·exact h2
def Vec5 (x:List Int):Prop:=x.length≤5∧ ∀ a∈x,0≤a∧a≤4
theorem Vec5.sum {x:List Int} (h:Vec5 x):0≤x.sum∧x.sum≤20:=by have:=aKY h.2;have:=h.1;omega
def qA (x y:List Int):Bool:=decide (x.sum<y.sum)
theorem aVC {x y:List Int} (hx:Vec5 x) (hy:Vec5 y):vE x y=some (x.sum - y.sum):=by
 have h1:=hx.sum;have h2:=hy.sum;unfold vE;rw [aGf hx.2 (by have:=hx.1;omega),aB,aGf hy.2 (by have:=hy.1;omega),aB,cJ (by omega)]
theorem aKv {α:Type} {u T:List α} {p:α} :cF (u++p::T) (u.length:Int)=some p:=by simp [cF]
theorem aSo {α:Type} {u T:List α} {p x:α} :cF (u++p::x::T) ((u.length+1:Nat):Int)=some x:=by
 have:=aKv (u:=u++[p]) (p:=x) (T:=T);simpa using this
theorem aSp {α:Type} {u T:List α} {p q:α} :(u++p::T).set u.length q=u++q::T:=by simp
theorem aRX {α:Type} {u T:List α} {p x q:α} :(u++p::x::T).set (u.length+1) q=u++p::q::T:=by simp
theorem aIK {x:List Int} (hx:Vec5 x) (R:List (List Int)): ∀ ps acc:List (List Int),(∀ p∈ps,Vec5 p)→ps.length≤1000→Lp (cO 0) (ps.reverse++x::(acc++R),(ps.length:Int))=some (aBp qA x ps acc++R)
 | [],acc,_,_=>by
  refine dH ?_;unfold cO;simp [aBp]
 |p::ps,acc,hp,hl=>by
  have hpv:=hp p (by simp);have hl':ps.length+1≤1000:=by simpa using hl
  have e1:(p::ps).reverse++x::(acc++R)=ps.reverse++p::x::(acc++R):=by simp
  have hlen:ps.reverse.length=ps.length:=by simp
  have a1:cF (ps.reverse++p::x::(acc++R)) ((ps.length+1:Nat):Int)=some x:=by rw [←hlen];exact aSo
  have a2:cF (ps.reverse++p::x::(acc++R)) (ps.length:Int)=some p:=by rw [←hlen];exact aKv
  have hwr:wr (((ps.length+1:Nat):Int) - 1)=(ps.length:Int):=by rw [cJ (by omega)];omega
  have hbody:cO 0 ((p::ps).reverse++x::(acc++R),((p::ps).length:Int))=some (if qA x p=true then .inl (ps.reverse++x::((p::acc)++R),(ps.length:Int)) else .inr ((p::ps).reverse++x::(acc++R))):=by
   unfold cO;simp only;rw [List.length_cons,e1,bF (by omega),aH,a1,aB,hwr,a2,aB,aVC hx hpv,aB];simp only [aB];by_cases c:x.sum<p.sum
   ·rw [bF (by omega),aH,aU (by simp [qA,c])];have s1:(ps.reverse++p::x::(acc++R)).set ((ps.length+1:Nat):Int).toNat p=ps.reverse++p::p::(acc++R):=by rw [cS,←hlen];exact aRX
    rw [s1];have a3:cF (ps.reverse++p::p::(acc++R)) (ps.length:Int)=some p:=by rw [←hlen];exact aKv
    rw [a3,aB];have s2:(ps.reverse++p::p::(acc++R)).set ((ps.length:Nat):Int).toNat x=ps.reverse++x::p::(acc++R):=by rw [cS,←hlen];exact aSp
    rw [s2];rfl
   ·rw [dF (by omega),aX,aQ (by simp [qA,c])]
  by_cases c:qA x p=true
  ·rw [aU c] at hbody;rw [iV hbody,aIK hx R ps (p::acc) (λq hq=>hp q (by simp [hq])) (by omega)];simp only [aBp,aU c]
  ·rw [aQ c] at hbody;rw [dH hbody];simp only [aBp,aQ c];simp
theorem aJm {A:List (List Int)} (hA: ∀ x∈A,Vec5 x) (hl:A.length≤1000):cE A 0 (A.length:Int)=some (kZ qA A):=by
 unfold cE;cases A with
 |nil=>
  rw [dH (r:=([]:List (List Int)))]
  ·rfl
  ·unfold cP;rw [cJ (by omega)];rfl
 |cons a A=>
  have h1:wr (0+1)=((0+1:Nat):Int):=by rw [cJ (by omega)];rfl
  simp only [List.length_cons] at hl;rw [dK (s:=(a::A,wr (0+1))) (r:=kZ qA (a::A)) (λk=>(kZ qA ((a::A).take (k+1))++(a::A).drop (k+1),((k+1:Nat):Int))) A.length (by rw [h1];rfl) (λk hk=>?_) (λ_=>?_),aB]
  ·unfold cP;simp only;have hk1:k+1<(a::A).length:=by simp;omega
   obtain ⟨hsl,hsm⟩:=rG qA ((a::A).take (k+1));have hSl:(kZ qA ((a::A).take (k+1))).length=k+1:=by rw [hsl];simp;omega
   generalize hS:kZ qA ((a::A).take (k+1))=S at*;rw [List.drop_eq_getElem_cons hk1];generalize hx:(a::A)[k+1]=x;have hxA:x∈a::A:=by rw [←hx];exact List.getElem_mem hk1
   have hin:=aIK (hA x hxA) ((a::A).drop (k+1+1)) S.reverse [] (λp hp=>hA p (List.mem_of_mem_take ((hsm p).1 (by simpa using hp)))) (by simp;omega);rw [List.reverse_reverse,List.length_reverse,hSl,List.nil_append] at hin;rw [iH hk1,aH,hin,aB,bS hk1 (by simp;omega)]
   have e:kZ qA ((a::A).take (k+1+1))=aFc qA x S:=by
    rw [aAh hk1,aDo,hS,hx]
   rw [e];rfl
  ·unfold cP;simp only;rw [List.length_cons,jO (bK _),aX,List.take_of_length_le (by simp),List.drop_of_length_le (by simp),List.append_nil]
theorem aPg (l:List (List Int)):cE l 20 20=some l:=by
 unfold cE;rw [dH (r:=l)]
 ·rfl
 ·unfold cP;simp only;rw [cJ (by omega)];rfl
theorem aKw {A:List (List Int)} (hA: ∀ x∈A,Vec5 x) (hl:A.length≤20):dW A=some (kZ qA A):=by
 have hS:=(rG qA A).1
 have hst:gT A (A.length:Int)=some (kZ qA A):=by
  unfold gT
  have hL2:Lp (fZ (A.length:Int)) 20=some ():=by
   refine dH ?_;unfold fZ;rw [dF (by omega),aX]
  by_cases c:A.length=20
  ·have b1:cK (A.length:Int) (A,0,20)=some (.inl (kZ qA A,20,40)):=by
    unfold cK;simp only;have:=aJm hA (by omega);rw [c] at this;rw [bF (by omega),aH];rw [show cE A 0 20=some (kZ qA A) from this,aB,bF hS,aH,cJ (by omega)];rfl
   have b2:cK (A.length:Int) (kZ qA A,20,40)=some (.inr (kZ qA A,20)):=by
    unfold cK;simp only;rw [dF (by omega),aX]
   rw [iV b1,dH b2,aB];simp only;rw [show ((A.length:Nat):Int)=20 by omega,aPg,aB,bF rfl,aH];rw [show ((A.length:Nat):Int)=20 by omega] at hL2;rw [hL2,aB]
  ·have b1:cK (A.length:Int) (A,0,20)=some (.inr (A,0)):=by
    unfold cK;simp only;rw [dF (by omega),aX]
   rw [dH b1,aB];simp only;rw [aJm hA (by omega),aB,bF hS,aH,hL2,aB]
 unfold dW;rw [hst,aB,bF hS,aH]
def xI (x y:List Int):Bool:=decide (x.sum<y.sum)||(decide (x.sum=y.sum)&&zN x y)
theorem aTR {x y:List Int} (h:x.length=y.length) (hl:x.length≤1000): ∀ d s:Nat,s+d=x.length→(Option.bind (Lp (iB x y) (s:Int)) λz=>Sum.elim (λ_=>some false) (λb=>some b) z)=some (zN (x.drop s) (y.drop s))
 |0,s,hs=>by
  have:iB x y (s:Int)=some (.inr (.inl ())):=by
   unfold iB;rw [jO (by omega),aX]
  rw [dH this,List.drop_of_length_le (by omega)];simp [zN]
 |d+1,s,hs=>by
  have hx:s<x.length:=by omega
  have hy:s<y.length:=by omega
  have hb:iB x y (s:Int)=some (if x[s]=y[s] then .inl ((s+1:Nat):Int) else .inr (.inr (decide (x[s]<y[s])))):=by
   unfold iB;rw [iH hx,aH,dG hx,aB,dG hy,aB];by_cases c:x[s]=y[s]
   ·rw [bF c,gG,aX,aU c,bS hx (by omega)]
   ·rw [dF c,Bool.not_false,aH,aQ c];simp only [aB]
  rw [List.drop_eq_getElem_cons hx,List.drop_eq_getElem_cons hy];by_cases c:x[s]=y[s]
  ·rw [aU c] at hb;rw [iV hb,aTR h hl d (s+1) (by omega)];simp [zN,c]
  ·rw [aQ c] at hb;rw [dH hb];simp [zN,c]
theorem zJ (x:List Int) {k:Nat} (h:k<x.length):gx x k=x[k]:=by simp [gx,h]
theorem aUL {x y:List Int} (hx:Vec5 x) (hy:Vec5 y) (h:x.length=y.length):vB x y=some (xI x y):=by
 have l5:=hx.1;unfold vB
 have hbd: ∀ z:List Int,Vec5 z→ ∀ k:Nat, -(4*(k:Int))≤dU k (gx z)∧dU k (gx z)≤4*k:=λz hz k=>aAT λi _=>by
  rcases dR i z.length with h'|h'
  ·have:=hz.2 _ (xW h');omega
  ·unfold gx;rw [gF h'];simp
 have hg: ∀ z:List Int,Vec5 z→ ∀ k:Nat,0≤gx z k∧gx z k≤4:=λz hz k=>by
  rcases dR k z.length with h'|h'
  ·exact hz.2 _ (xW h')
  ·unfold gx;rw [gF h'];simp
 rw [dK (s:=((0:Int),(0:Int),(0:Int))) (r:=(x.sum,y.sum)) (λk=>(dU k (gx x),dU k (gx y),(k:Int))) x.length rfl (λk hk=>?_) (λ_=>?_),aB]
 ·simp only;by_cases c:x.sum=y.sum
  ·rw [bF c,gG,aX];refine (aTR h (by omega) x.length 0 (by omega)).trans ?_;simp [xI,c]
  ·rw [dF c,Bool.not_false,aH];simp [xI,c]
 ·unfold qW;simp only;have h1:=hbd x hx k;have h2:=hbd y hy k;have h3:=hg x hx k;have h4:=hg y hy k;rw [iH hk,aH,vO hk,aB,vO (by omega),aB,cJ (by omega),cJ (by omega),bS hk (by omega)];rfl
 ·unfold qW;simp only;rw [jO (bK _),aX,vK,vK,h]
theorem aJn {C:List (List Int)} {n:Nat} {i:Nat} {x:List Int} (hx:Vec5 x) (hxn:x.length=n) (hi:cF C (i:Int)=some x) {out:List (List Int)} (ho: ∀ p∈out,Vec5 p∧p.length=n) (hl:out.length≤1000): ∀ ps acc:List (List Int),ps.reverse++acc=out→
  ∃ k:Nat,Lp (fL (out,(i:Int)) C) (ps.length:Int)=some (k:Int)∧k≤out.length∧out.take k++x::out.drop k=aBp xI x ps acc
 | [],acc,e=>by
  refine ⟨0,dH ?_,Nat.zero_le _,by simp only [aBp];rw [←e];simp⟩;unfold fL;simp
 |p::ps,acc,e=>by
  have e':ps.reverse++(p::acc)=out:=by rw [←e];simp
  have hlen:out.length=ps.length+acc.length+1:=by rw [←e'];simp;omega
  have hp:=ho p (by rw [←e'];simp);have hwr:wr (((p::ps).length:Int) - 1)=(ps.length:Int):=by rw [List.length_cons,cJ (by omega)];omega
  have hat:cF out (ps.length:Int)=some p:=by rw [←e',←List.length_reverse];exact aKv
  have hb:fL (out,(i:Int)) C ((p::ps).length:Int)=some (if xI x p=true then .inl (ps.length:Int) else .inr ((p::ps).length:Int)):=by
   unfold fL;simp only;rw [bF (by rw [List.length_cons];omega),aH,hi,aB,hwr,hat,aB,aUL hx hp.1 (by rw [hxn,hp.2]),aB];cases xI x p <;> rfl
  by_cases c:xI x p=true
  ·rw [aU c] at hb;obtain ⟨k,h1,h2,h3⟩:=aJn hx hxn hi ho hl ps (p::acc) e';exact ⟨k,by rw [iV hb];exact h1,h2,by rw [h3];simp only [aBp,aU c]⟩
  ·rw [aQ c] at hb;refine ⟨(p::ps).length,dH hb,by rw [List.length_cons];omega,?_⟩;simp only [aBp,aQ c];rw [←e];rw [List.take_left' (by simp),List.drop_left' (by simp)]
theorem aNn {C:List (List Int)} {n:Nat} (hC: ∀ x∈C,Vec5 x∧x.length=n) (hl:C.length≤1000):Lp (fN C) (([]:List (List Int)),0)=some (kZ xI C):=by
 refine dK (λk=>(kZ xI (C.take k),(k:Int))) C.length rfl (λk hk=>?_) (λ_=>?_)
 ·unfold fN;simp only;obtain ⟨hsl,hsm⟩:=rG xI (C.take k);have hSl:(kZ xI (C.take k)).length=k:=by rw [hsl];simp;omega
  have e:kZ xI (C.take (k+1))=aFc xI C[k] (kZ xI (C.take k)):=by rw [aAh hk,aDo]
  rw [e];generalize hS:kZ xI (C.take k)=S at*;have hx:=hC C[k] (List.getElem_mem hk);obtain ⟨j,h1,h2,h3⟩:=aJn (C:=C) (i:=k) hx.1 hx.2 (dG hk) (out:=S) (λp hp=>hC p (List.mem_of_mem_take ((hsm p).1 hp))) (by omega) S.reverse [] (by simp);rw [List.length_reverse] at h1;rw [iH hk,aH,h1,aB,dG hk];simp only [aB];have f1:List.take ((j:Int).toNat - (0:Int).toNat) (List.drop (0+(0:Int).toNat) S)=S.take j:=by simp
  have f2:List.take (((S.length:Nat):Int).toNat - (j:Int).toNat) (List.drop (0+(j:Int).toNat) S)=S.drop j:=by
   rw [cS,cS,Nat.zero_add,List.take_of_length_le (by simp)]
  rw [f1,f2];have g1:(S.take j).length ≤1000:=by simp;omega
  have g2:(S.drop j).length ≤1000:=by simp;omega
  rw [show (decide ((0:Nat)≤0)&&(decide (0≤(j:Int))&&decide ((j:Int)≤((S.length:Nat):Int))))=true by simp [h2],aH,bF (by simp;omega),aH,bF (by simp;omega),aH];rw [show (decide (0≤(j:Int))&&(decide ((j:Int)≤((S.length:Nat):Int))&&decide (((S.length:Nat):Int)≤((S.length:Nat):Int))))=true by simp [h2],aH,bF (by simp;omega),aH,bS hk (by omega)];congr 3;unfold aFc;rw [←h3];simp
 ·unfold fN;simp only;rw [jO (bK _),aX,List.take_length]
end
noncomputable section
theorem aIL: ∀ {x y z:List Int},zN x y=true→zN y z=true→zN x z=true
 | [],y,z,h,_=>by simp [zN] at h
 |a::x,[],z,h,_=>by simp [zN] at h
 |a::x,b::y,[],_,h=>by simp [zN] at h
 |a::x,b::y,c::z,h,k=>by
  simp only [zN,Bool.or_eq_true,cY,gJ] at h k ⊢;rcases h with h|⟨h,h'⟩ <;> rcases k with k|⟨k,k'⟩
  ·exact .inl (by omega)
  ·exact .inl (by omega)
  ·exact .inl (by omega)
  ·exact .inr ⟨by omega,aIL h' k'⟩
theorem aIM: ∀ {x y:List Int},x.length=y.length→x≠y→zN x y=true∨zN y x=true
 | [],[],_,h=>absurd rfl h
 | [],_::_,h,_=>by simp at h
 |_::_,[],h,_=>by simp at h
 |a::x,b::y,h,hne=>by
  simp only [zN,Bool.or_eq_true,cY,gJ];by_cases e:a=b
  ·subst e;rcases aIM (x:=x) (y:=y) (by simpa using h) (λe=>hne (by rw [e])) with h1|h1
   ·exact .inl (.inr ⟨rfl,h1⟩)
   ·exact .inr (.inr ⟨rfl,h1⟩)
  ·rcases Int.lt_or_gt_of_ne e with h1|h1
   ·exact .inl (.inl h1)
   ·exact .inr (.inl h1)
def aEj (x y:List Int):Prop:=xI x y=true
theorem aBK {x y:List Int} :aEj x y↔x.sum<y.sum∨(x.sum=y.sum∧zN x y=true):=by simp [aEj,xI]
theorem aPh (x:List Int): ¬ aEj x x:=by rw [aBK,aII];simp
theorem aCb (x y z:List Int) (h:aEj x y) (k:aEj y z):aEj x z:=by
 rw [aBK] at*;rcases h with h|⟨h,h'⟩ <;> rcases k with k|⟨k,k'⟩
 ·exact .inl (by omega)
 ·exact .inl (by omega)
 ·exact .inl (by omega)
 ·exact .inr ⟨by omega,aIL h' k'⟩
theorem aEk {α:Type} {lt:α→α→Bool} {R:α→α→Prop} (hT: ∀ a b c,R a b→R b c→R a c) {A:List α} (hA:A.Pairwise λp x=>(lt x p=true→R x p)∧(lt x p=false→R p x)):(kZ lt A).Pairwise R:=by
 have key: ∀ k,k≤A.length→(kZ lt (A.take k)).Pairwise R:=by
  intro k;induction k with
  |zero=>intro _;simp [kZ]
  |succ k ih=>
   intro hk;have hk':k<A.length:=by omega
   rw [aAh hk',aDo]
   have hpr: ∀ p∈kZ lt (A.take k),(lt A[k] p=true→R A[k] p)∧(lt A[k] p=false→R p A[k]):=by
    intro p hp;have h1:=((rG lt (A.take k)).2 p).1 hp;obtain ⟨j,hj,rfl⟩:=List.mem_iff_getElem.1 h1;have hjk:j<k:=by simp at hj;omega
    have:=List.pairwise_iff_getElem.1 hA j k (by omega) hk' hjk;simpa using this
   exact aMY hT (ih (by omega)) (λp hp=>(hpr p hp).1) (λp hp=>(hpr p hp).2)
 have:=key A.length (bK _)
 rwa [List.take_length] at this
structure Fin1 (q:Qv) (n:Nat):Prop where
 Q:QOk q n
 F:GForm n (qM q n)
 G:aJb n (qM q n)=true
def RtQ (q:Qv) (n:Nat) (x:List Int):Prop:=Rt0 n (qM q n) x
theorem Fin1.vec {q:Qv} {n:Nat} (H:Fin1 q n) {x:List Int} (r:RtQ q n x):Vec5 x∧x.length=n:=by
 have h:=(aAQ H.G).2;have h1:=r.mem H.F h.1;exact ⟨⟨by rw [r.len];exact H.Q.n5,λa ha=>⟨r.nn a ha,h.2.2 x h1 a ha⟩⟩,r.len⟩
theorem Fin1.num {q:Qv} {n:Nat} (H:Fin1 q n) {l:List (List Int)} (hn:l.Nodup) (h: ∀ x∈l,RtQ q n x):l.length≤20:=
 Nat.le_trans (aJe hn λx hx=>(h x hx).mem H.F (aAQ H.G).2.1) (aAQ H.G).2.2.1
theorem Vec5.sm {x:List Int} (h:Vec5 x):Sm x:=λa ha=>by have:=h.2 a ha;omega
theorem aNo {q:Qv} {n:Nat} (Q:QOk q n) (x:List Int):RtQ q n x↔x.length=n∧(∀ a∈x,0≤a)∧eul q n x x=1:=by
 constructor
 ·intro r;have:=r.two;rw [aRU Q] at this;exact ⟨r.len,r.nn,by omega⟩
 ·rintro ⟨h1,h2,h3⟩;exact ⟨h1,h2,by rw [aRU Q];omega⟩
def aEl (q:Qv) (n:Nat):List (List Int):=(cV (List.replicate n 4)).filter λx=>decide (eul q n x x=1)
theorem aNp {n i:Nat} (h:i<n) (z:Int):gx (List.replicate n z) i=z:=by simp [gx,h]
theorem aOj {n:Nat} {x:List Int} :x∈cV (List.replicate n 4)↔x.length=n∧ ∀ a∈x,0≤a∧a≤4:=by
 rw [aFa,List.length_replicate];constructor
 ·rintro ⟨h1,h2⟩;refine ⟨h1,λa ha=>?_⟩;obtain ⟨i,hi,rfl⟩:=List.mem_iff_getElem.1 ha;have:=h2 i (by omega);rw [aNp (by omega),zJ x hi] at this;have h4:(4:Int).toNat=4:=rfl;omega
 ·rintro ⟨h1,h2⟩;refine ⟨h1,λi hi=>?_⟩;have:=h2 _ (xW (x:=x) (i:=i) (by omega));rw [aNp hi];have h4:(4:Int).toNat=4:=rfl;omega
theorem aDE {q:Qv} {n:Nat} (H:Fin1 q n) (x:List Int):x∈aEl q n↔RtQ q n x:=by
 unfold aEl;rw [List.mem_filter,aOj,gJ,aNo H.Q];constructor
 ·rintro ⟨⟨h1,h2⟩,h3⟩;exact ⟨h1,λa ha=>(h2 a ha).1,h3⟩
 ·rintro ⟨h1,h2,h3⟩;have hv:=H.vec ((aNo H.Q x).2 ⟨h1,h2,h3⟩);exact ⟨⟨h1,hv.1.2⟩,h3⟩
theorem aJo {f:List Int→List (List Int)→Option (List (List Int) ⊕ Unit)} (p:List Int→Bool): ∀ (l acc:List (List Int)),(∀ x∈l,∀ acc:List (List Int),acc.length≤4000→f x acc=some (.inl (if p x=true then acc++[x] else acc)))→acc.length+l.length≤4000→Fl f l acc=some (.inl (acc++l.filter p))
 | [],acc,_,_=>by simp [Fl]
 |x::l,acc,h,hl=>by
  simp only [List.length_cons] at hl;simp only [Fl];rw [h x (by simp) acc (by omega)];simp only;rw [aJo p l (if p x=true then acc++[x] else acc) (λy hy=>h y (by simp [hy])) (by split <;> (try simp) <;> omega)];by_cases c:p x=true
  ·simp [c]
  ·simp [c]
theorem aMZ {q:Qv} {n:Nat} (H:Fin1 q n):yP q=some (kZ qA (aEl q n)):=by
 have Q:=H.Q;have n5:=Q.n5;have n1:=Q.n1;unfold yP;have hn:=aPf n (by omega);rw [Q.n0,bF (by omega),bF (by omega),Bool.and_self,aH,cS,aUK n (by omega),aH];rw [aJo (λx=>decide (eul q n x x=1)) (cV (List.replicate n 4)) [] (λx hx acc ha=>?_) (by simp;omega),aB]
 ·have hA: ∀ x∈aEl q n,Vec5 x:=λx hx=>(H.vec ((aDE H x).1 hx)).1;have hnd:(aEl q n).Nodup:=(aFx _).filter _;have hlen:=H.num hnd λx hx=>(aDE H x).1 hx;show (Option.bind (dW (aEl q n)) λv9=>bif decide (v9.length=(aEl q n).length) then some v9 else none)=_;rw [aKw hA hlen,aB,bF (rG qA _).1,aH]
 ·obtain ⟨h1,h2⟩:=aOj.1 hx;have hv:Vec5 x:=⟨by omega,h2⟩;unfold xU;rw [aJk Q h1 h1 hv.sm hv.sm,aB];by_cases c:eul q n x x=1
  ·rw [bF c,aH,aU rfl];unfold iX;rw [bF (by omega),aH,aB,bF (by omega),aH]
  ·rw [dF c,aX,aQ (by simp)]
theorem aFd {q:Qv} {n:Nat} :(kZ qA (aEl q n)).Pairwise aEj:=by
 refine aEk aCb ?_;refine (List.Pairwise.filter _ (aFb _)).imp λ{p x} h=>?_;rw [aBK,aBK];simp only [qA,gJ,decide_eq_false_iff_not];refine ⟨λh1=> .inl h1,λh1=>?_⟩;by_cases e:p.sum=x.sum
 ·exact .inr ⟨e,h⟩
 ·exact .inl (by omega)
theorem aPj {q:Qv} {n:Nat} (Q:QOk q n) {x:List Int} (hx:Vec5 x) (hxn:x.length=n) {v:Nat} (hv:v<n):qX (qM q n) x (v:Int)=some (x.set v (gx x v+ -(mv n (jH (qM q n)) (gx x) v))):=by
 have n5:=Q.n5;have m6:=Q.m6
 have hbd: ∀ i, -48≤mtF q q.src.length v i*gx x i∧mtF q q.src.length v i*gx x i≤48:=by
  intro i;have h1:=aRL q m6 v i
  have h2:0≤gx x i∧gx x i≤4:=by
   rcases dR i x.length with h'|h'
   ·exact hx.2 _ (xW h')
   ·unfold gx;rw [gF h'];simp
  have h3:gx x i=0∨gx x i=1∨gx x i=2∨gx x i=3∨gx x i=4:=by omega
  rcases h3 with h3|h3|h3|h3|h3 <;> rw [h3] <;> omega
 have hmv:mv n (jH (qM q n)) (gx x) v=dU n λi=>mtF q q.src.length v i*gx x i:=dM λi hi=>by rw [show jH (qM q n) v i=mtF q q.src.length v i from kE hv hi]
 have hs:=aAT (n:=n) (f:=λi=>mtF q q.src.length v i*gx x i) (B:=48) λi _=>hbd i;unfold qX;rw [bF (by simp;omega),aH,dK (s:=((0:Int),(0:Int))) (r:=dU n λi=>mtF q q.src.length v i*gx x i) (λk=>(dU k λi=>mtF q q.src.length v i*gx x i,(k:Int))) n rfl (λk hk=>?_) (λ_=>?_),aB]
 ·have hvl:v<x.length:=by omega
  rw [List.nil_append,vO hvl];simp only [aB];have h2:=hx.2 _ (xW hvl);rw [hmv,cJ (by omega),cS];rfl
 ·unfold mQ;simp only;have h2:=aAT (n:=k) (f:=λi=>mtF q q.src.length v i*gx x i) (B:=48) λi _=>hbd i;have h3:=hbd k;rw [hxn,iH hk,aH,show cF (qM q n) (v:Int)=some (oV n (mtF q q.src.length v)) from nW hv,aB,nW hk,aB,vO (by omega),aB,cJ (x:=mtF q q.src.length v k*gx x k) (by omega),cJ (by omega),bS hk (by omega)];rfl
 ·unfold mQ;simp only;rw [hxn,jO (bK _),aX]
def yA (q:Qv) (n:Nat) (x:List Int) (v:Nat):List Int:=x.set v (gx x v+ -(mv n (jH (qM q n)) (gx x) v))
theorem aJp {q:Qv} {n:Nat} (H:Fin1 q n) {x:List Int} (r:RtQ q n x) {v:Nat} (hv:v<n) (h:0≤gx x v+ -(mv n (jH (qM q n)) (gx x) v)):RtQ q n (yA q n x v):=by
 have hvl:v<x.length:=by rw [r.len];exact hv
 refine ⟨by unfold yA;rw [List.length_set];exact r.len,λa ha=>?_,?_⟩
 ·rcases aAf ha with rfl|ha
  ·exact h
  ·exact r.nn a ha
 ·unfold yA;rw [aFU _ hvl,aNk _ _ _ hv H.F.sym,r.two,H.F.diag v hv];generalize mv n (jH (qM q n)) (gx x) v=s
  grind
def aRY (q:Qv) (n:Nat) (all:List (List Int)) (x:List Int) (v:Nat):Prop:=0≤gx x v+ -(mv n (jH (qM q n)) (gx x) v)→yA q n x v∈all
def aIN (q:Qv) (n:Nat) (all:List (List Int)):Prop:=all.Nodup∧ ∀ x∈all,RtQ q n x
theorem aIO {l:List (List Int)} {x:List Int} (hl: ∀ r∈l,bI r) (hn:l.length≤1000):qH l x=some (decide (x∈l)):=by
 unfold qH;rw [aQN (λk=>decide (l[k]?.getD []=x)) true (n:=l.length) (by omega) (λk hk=>?_) (λ_=>?_),aB]
 ·have e:((List.range l.length).any λk=>decide (l[k]?.getD []=x))=decide (x∈l):=by
   rw [Bool.eq_iff_iff,List.any_eq_true,gJ];constructor
   ·rintro ⟨k,hk,h⟩;have hk':=List.mem_range.1 hk;rw [gJ,gN hk',qN] at h;rw [←h];exact List.getElem_mem hk'
   ·intro h;obtain ⟨k,hk,rfl⟩:=List.mem_iff_getElem.1 h;exact ⟨k,List.mem_range.2 hk,by simp [hk]⟩
  rw [e];cases decide (x∈l) <;> rfl
 ·unfold rX;rw [iH hk,aH,sT [] hk,aB,aHa (hl _ (by rw [gN hk];exact List.getElem_mem hk)),aB];cases decide (l[k]?.getD []=x) <;> rfl
 ·unfold rX;rw [jO (bK _),aX]
theorem aMa {q:Qv} {n:Nat} (H:Fin1 q n) {all0:List (List Int)} {i:Nat} {x:List Int} (hi:cF all0 (i:Int)=some x) (h0:aIN q n all0):
  ∃ r,Lp (fJ q (qM q n) (all0,(i:Int))) (all0,0)=some r∧(all0<+:r∧aIN q n r∧ ∀ u,u<n→aRY q n r x u):=by
 have Q:=H.Q;have n5:=Q.n5;have hxr:RtQ q n x:=h0.2 x (List.mem_of_getElem? (dC hi));have hxv:=H.vec hxr;refine aCr (λs=> ∃ w:Nat,s.2=(w:Int)∧w≤n∧all0<+:s.1∧aIN q n s.1∧ ∀ u,u<w→aRY q n s.1 x u) (λs=>n - s.2.toNat) _ ⟨0,rfl,Nat.zero_le _,List.prefix_refl _,h0,λu hu=>by omega⟩ ?_;rintro ⟨all,sv⟩ ⟨w,hw,hwn,hpre,hall,hcl⟩;simp only at hw hpre hall hcl;subst hw;have hlen:=H.num hall.1 hall.2;by_cases hlt:w<n
 ·left
  have hat:cF all (i:Int)=some x:=by
   have h1:=dC hi;obtain ⟨t,rfl⟩:=hpre;have h2:=iP hi;rw [cS] at h1 h2;simp only [cF];rw [bF (by omega),aH,cS,List.getElem?_append_left h2];exact h1
  have hrl:(yA q n x w).length=n:=by unfold yA;rw [List.length_set];exact hxv.2
  have hgy:gx (yA q n x w) w=gx x w+ -(mv n (jH (qM q n)) (gx x) w):=by unfold yA;rw [aCY _ (by omega),aU rfl]
  have hb:fJ q (qM q n) (all0,(i:Int)) (all,(w:Int))=some (.inl (if 0≤gx x w+ -(mv n (jH (qM q n)) (gx x) w)∧ ¬ yA q n x w∈all then all++[yA q n x w] else all,((w+1:Nat):Int))):=by
   unfold fJ;simp only;rw [Q.n0,iH hlt,aH,hat,aB,aPj Q hxv.1 hxv.2 hlt,aB];change (Option.bind (cF (yA q n x w) (w:Int)) λv13=>_)=_;rw [vO (by omega),aB,hgy,bS hlt (by omega)];by_cases c:0≤gx x w+ -(mv n (jH (qM q n)) (gx x) w)
   ·have hy:=aJp H hxr hlt c;have hyv:=H.vec hy;rw [bF c,aH];change (Option.bind (qH all (yA q n x w)) λv15=>_)=_;rw [aIO (λr hr=>by have:=(H.vec (hall.2 r hr)).1.1;unfold bI;omega) (by omega),aB];by_cases c2:yA q n x w∈all
    ·rw [bF c2,gG,aX,aQ (by simp [c2])]
    ·rw [dF c2,Bool.not_false,aH,aU ⟨c,c2⟩];unfold xS;change (Option.bind (Option.bind (lD q (yA q n x w) (yA q n x w)) λv1=>some v1) λv17=>_)=_;rw [aJl Q hrl hrl hyv.1.sm hyv.1.sm,aB,aB,((aNo Q _).1 hy).2.2,bF rfl,aH,bF (by omega),aH];rfl
   ·rw [dF c,aX,aQ (by simp [c])]
  refine ⟨_,hb,⟨w+1,rfl,by omega,?_,?_,?_⟩,by show n - ((w+1:Nat):Int).toNat <n - (w:Int).toNat;omega⟩
  ·simp only;split
   ·exact hpre.trans (List.prefix_append _ _)
   ·exact hpre
  ·simp only;split
   ·rename_i c;refine ⟨?_,λy hy=>?_⟩
    ·rw [List.nodup_append];refine ⟨hall.1,by simp,λa ha b hb=>?_⟩;rw [List.mem_singleton] at hb;subst hb;rintro rfl;exact c.2 ha
    ·rcases eG.1 hy with hy|hy
     ·exact hall.2 y hy
     ·rw [List.mem_singleton] at hy;subst hy;exact aJp H hxr hlt c.1
   ·exact hall
  ·intro u hu h;simp only;by_cases e:u=w
   ·subst e;split
    ·simp
    ·rename_i c;exact Classical.byContradiction λh2=>c ⟨h,h2⟩
   ·have:=hcl u (by omega) h;split
    ·simp [this]
    ·exact this
 ·right;have:w=n:=by omega
  subst this;refine ⟨all,?_,hpre,hall,hcl⟩;unfold fJ;simp only;rw [Q.n0,jO (bK _),aX]
theorem aMb {q:Qv} {n:Nat} (H:Fin1 q n) {all0:List (List Int)} (h0:aIN q n all0):
  ∃ r,Lp (fK q (qM q n)) (all0,0)=some r∧(all0<+:r∧aIN q n r∧ ∀ x∈r,∀ u,u<n→aRY q n r x u):=by
 refine aCr (λs=> ∃ k:Nat,s.2=(k:Int)∧k≤s.1.length∧all0<+:s.1∧aIN q n s.1∧ ∀ j (hj:j<s.1.length),j<k→ ∀ u,u<n→aRY q n s.1 s.1[j] u) (λs=>21 - s.2.toNat) _ ⟨0,rfl,Nat.zero_le _,List.prefix_refl _,h0,λj _ hj=>by omega⟩ ?_;rintro ⟨all,sv⟩ ⟨k,hk,hkl,hpre,hall,hcl⟩;simp only at hk hkl hpre hall hcl;subst hk;have hlen:=H.num hall.1 hall.2;by_cases hlt:k<all.length
 ·left;obtain ⟨r,g1,g2,g3,g4⟩:=aMa H (dG hlt) hall;have hrl:=g2.length_le;refine ⟨(r,((k+1:Nat):Int)),?_,⟨k+1,rfl,by show k+1≤r.length;omega,hpre.trans g2,g3,?_⟩,by show 21 - ((k+1:Nat):Int).toNat <21 - (k:Int).toNat;omega⟩
  ·unfold fK;simp only;rw [iH hlt,aH,g1,aB,bS hlt (by omega)]
  ·intro j hj hjk u hu h;simp only at hj h ⊢;obtain ⟨t,rfl⟩:=g2;have hja:j<all.length:=by omega
   have e:(all++t)[j]=all[j]:=List.getElem_append_left hja;rw [e] at h ⊢;by_cases c:j=k
   ·subst c;exact g4 u hu h
   ·have:=hcl j hja (by omega) u hu h;simp [this]
 ·right;refine ⟨all,?_,hpre,hall,λx hx u hu=>?_⟩
  ·unfold fK;simp only;rw [jO (by omega),aX]
  ·obtain ⟨j,hj,rfl⟩:=List.mem_iff_getElem.1 hx;exact hcl j hj (by omega) u hu
theorem aMc {q:Qv} {n:Nat} (H:Fin1 q n) {C:List (List Int)} (hu: ∀ v,v<n→vJ n v∈C) (hc: ∀ x∈C,∀ u,u<n→aRY q n C x u): ∀ (h:Nat) {x:List Int},RtQ q n x→x.sum=h+1→x∈C
 |0,x,r,hs=>by
  obtain ⟨v,hv,e⟩:=aIE r.nn (by omega);rw [r.len] at e hv;rw [e];exact hu v hv
 |h+1,x,r,hs=>by
  obtain ⟨v,hv,h1,h2⟩:=r.down H.F (by omega);have hvl:v<x.length:=by rw [r.len];exact hv
  have ih:=aMc H hu hc h h2 (by rw [aKr _ hvl];omega)
  have h3:mv n (jH (qM q n)) (gx (x.set v (gx x v+ -1))) v= -1:=by
   rw [aFU _ hvl,aNj _ _ _ _ hv,h1,H.F.diag v hv];rfl
  have h4:gx (x.set v (gx x v+ -1)) v=gx x v+ -1:=by rw [aCY _ hvl,aU rfl]
  have h5:=r.nn _ (xW hvl);have h6:=hc _ ih v hv (by rw [h3,h4];omega);unfold yA at h6;rw [h3,h4,List.set_set] at h6
  have e:x.set v (gx x v+ -1+ - -1)=x:=by
   refine aRI (by simp) λi _=>?_;rw [aCY _ hvl];by_cases e:i=v
   ·subst e;rw [aU rfl];omega
   ·rw [aQ e]
  rwa [e] at h6
theorem aJq {q:Qv} {n:Nat} (H:Fin1 q n) {v:Nat} (hv:v<n):RtQ q n (vJ n v):=by
 have hz:gx (List.replicate n (0:Int))=λ_=>0:=by
  funext i;unfold gx;rw [List.getElem?_replicate];split <;> simp
 have hvl:v<(List.replicate n (0:Int)).length:=by simpa using hv
 have e:vJ n v=(List.replicate n (0:Int)).set v (gx (List.replicate n (0:Int)) v+1):=by rw [hz];rfl
 refine ⟨by simp [vJ],λa ha=>?_,?_⟩
 ·rcases aAf ha with rfl|ha
  ·omega
  ·rw [List.eq_of_mem_replicate ha];omega
 ·rw [e,aFU _ hvl,aNk _ _ _ hv H.F.sym,H.F.diag v hv,hz]
  have h1:mv n (jH (qM q n)) (λ_=>0) v=0:=by
   unfold mv;rw [dM (g:=λ_=>0) (λi _=>by rw [Int.mul_zero]),wF]
  have h2:qf n (jH (qM q n)) (λ_=>0)=0:=by
   rw [aMO,dM (g:=λ_=>0) (λi _=>by rw [Int.zero_mul]),wF]
  rw [h1,h2];rfl
theorem aMd (n:Nat):((List.range n).map (vJ n)).Nodup:=by
 rw [List.nodup_iff_pairwise_ne,List.pairwise_map];refine List.Pairwise.imp_of_mem (λ{a b} ha hb h e=>?_) (List.nodup_iff_pairwise_ne.1 List.nodup_range);have h1:gx (vJ n a) a=1:=by unfold vJ;rw [aCY _ (by simpa using List.mem_range.1 ha),aU rfl]
 have h2:gx (vJ n b) a=0:=by unfold vJ;rw [aCY _ (by simpa using List.mem_range.1 hb),aQ h,aNp (List.mem_range.1 ha)]
 rw [e,h2] at h1;cases h1
theorem aMe {q:Qv} {n:Nat} (Q:QOk q n):Lp (fH q) (([]:List (List Int)),0)=some ((List.range n).map (vJ n)):=by
 have n5:=Q.n5;refine dK (λk=>((List.range k).map (vJ n),(k:Int))) n rfl (λk hk=>?_) (λ_=>?_)
 ·unfold fH;simp only;rw [Q.n0,iH hk,aH,bF (by omega),bF (by omega),Bool.and_self,aH,cS,sT 0 (by simpa using hk),aB,bF (by simp;omega),aH,bS hk (by omega),List.range_succ,List.map_append,cS];rfl
 ·unfold fH;simp only;rw [Q.n0,jO (bK _),aX]
def bH (q:Qv) (n:Nat):List (List Int):=kZ qA (aEl q n)
theorem kF {q:Qv} {n:Nat} (H:Fin1 q n) (x:List Int):x∈bH q n↔RtQ q n x:=by unfold bH;rw [(rG _ _).2,aDE H]
theorem rH {q:Qv} {n:Nat} (H:Fin1 q n):(bH q n).length ≤20:=by
 unfold bH;rw [(rG _ _).1];exact H.num ((aFx _).filter _) λx hx=>(aDE H x).1 hx
theorem aMf {q:Qv} {n:Nat} (H:Fin1 q n):(Option.bind (Lp (fH q) (([]:List (List Int)),0)) λy8=>Option.bind (Lp (fK q (qM q n)) (y8,0)) λy21=>Option.bind (Lp (fN y21) (([]:List (List Int)),0)) λy35=>some (y35,true))=some (bH q n,true):=by
 have hU:aIN q n ((List.range n).map (vJ n)):=⟨aMd n,λx hx=>by
  obtain ⟨v,hv,rfl⟩:=List.mem_map.1 hx
  exact aJq H (List.mem_range.1 hv)⟩
 obtain ⟨C,h1,h2,h3,h4⟩:=aMb H hU;have hC: ∀ x∈C,Vec5 x∧x.length=n:=λx hx=>H.vec (h3.2 x hx);have hlen:=H.num h3.1 h3.2;rw [aMe H.Q,aB,h1,aB,aNn hC (by omega),aB];congr 2;refine aIJ aPh aCb ?_ aFd λx=>?_
 ·refine aEk aCb ?_;refine List.Pairwise.imp_of_mem (λ{p x} hp hx h=>?_) (List.nodup_iff_pairwise_ne.1 h3.1);refine ⟨λh=>h,λh'=>?_⟩;have h5: ¬ aEj x p:=by unfold aEj;rw [h'];simp
  rw [aBK] at h5 ⊢;rcases aIM (x:=p) (y:=x) (by rw [(hC p hp).2,(hC x hx).2]) h with h6|h6
  ·by_cases e:p.sum=x.sum
   ·exact .inr ⟨e,h6⟩
   ·refine .inl ?_;have: ¬ x.sum<p.sum:=λh=>h5 (.inl h);omega
  ·refine .inl ?_;have h7: ¬ x.sum<p.sum:=λh=>h5 (.inl h);have h8: ¬ x.sum=p.sum:=λh=>h5 (.inr ⟨h,h6⟩);omega
 ·rw [(rG _ _).2,kF H];constructor
  ·exact h3.2 x
  ·intro r;have:=r.pos H.F
   exact aMc H (λv hv=>by
    obtain ⟨t,rfl⟩:=h2;simp only [eG]
    exact .inl (List.mem_map.2 ⟨v,List.mem_range.2 hv,rfl⟩)) h4 (x.sum - 1).toNat r (by omega)
end
noncomputable section
set_option maxRecDepth 10000
set_option maxHeartbeats 4000000
end
noncomputable section
theorem aOk {q:Qv} (hb:bQ q): ∃ L b,dT q=some (L,b)∧cX q=some (L,b)∧((b=false∧L=[])∨(b=true∧ ∃ n,Fin1 q n∧L=bH q n)):=by
 by_cases hv:aAL q=true
 ·obtain ⟨n,Q⟩:=qok hb hv;by_cases hk:aCa n (qM q n) (2 ^ n - 1) 1 1=1
  ·obtain ⟨F,G⟩:=aRQ Q λt h1 h2=>aJj hk t h1 (by omega);have H:Fin1 q n:=⟨Q,F,G⟩;refine ⟨bH q n,true,?_,?_,.inr ⟨rfl,n,H,rfl⟩⟩
   ·unfold dT;rw [aIG Q,aB,hk,bF rfl,gG,aX,aMZ H,aB];rfl
   ·unfold cX;rw [aIH Q,aB,hk,bF rfl,gG,aX,aJf Q,aB];exact aMf H
  ·refine ⟨[],false,?_,?_,.inl ⟨rfl,rfl⟩⟩
   ·unfold dT;rw [aIG Q,aB,dF hk,Bool.not_false,aH]
   ·unfold cX;rw [aIH Q,aB,dF hk,Bool.not_false,aH]
 ·have hv':aAL q=false:=by simpa using hv
  refine ⟨[],false,?_,?_,.inl ⟨rfl,rfl⟩⟩
  ·unfold dT kJ;rw [aKX hb,hv',aB];rfl
  ·unfold cX kI;rw [aER hb,hv',aB];rfl
theorem aKx {v:List (List Int)} {f:List Int→Option Bool} (P:List Int→Bool) (hf: ∀ x∈v,f x=some (P x)) (h:v.length≤1048576): ∃ i:Int,gD v f=some i∧decide (0≤i)=v.any P:=by
 unfold gD;rw [aAp (s0:=0) (s:=0) (n:=v.length) (λk=>bif P (v[k]?.getD []) then some (k:Int) else none) rfl (by omega) (Nat.zero_le _) (λk _ hk=>?_) (λ_=>?_)]
 ·rw [aB];cases e:(List.range' 0 (v.length - 0)).findSome? (λk:Nat=>bif P (v[k]?.getD []) then some (k:Int) else none) with
  |none=>
   refine ⟨-1,rfl,?_⟩;rw [List.findSome?_eq_none_iff] at e
   have:v.any P=false:=by
    rw [List.any_eq_false];intro x hx;obtain ⟨k,hk,rfl⟩:=List.mem_iff_getElem.1 hx;have:=e k (by simp;omega);simp only [gN hk,qN] at this;cases hp:P v[k] with
    |false=>simp
    |true=>rw [hp] at this;cases this
   rw [this];rfl
  |some i=>
   refine ⟨i,rfl,?_⟩;obtain ⟨k,hk,he⟩:=List.exists_of_findSome?_eq_some e;simp at hk;have hkl:k<v.length:=by omega
   rw [gN hkl] at he;simp only [qN] at he;cases hp:P v[k] with
   |false=>rw [hp] at he;cases he
   |true=>
    rw [hp] at he;cases he;rw [bF (by omega),eq_comm,List.any_eq_true];exact ⟨_,List.getElem_mem hkl,hp⟩
 ·unfold fB;rw [iH hk,aH,sT [] hk,aB,hf _ (by rw [gN hk];exact List.getElem_mem hk),aB];cases P _ <;> rfl
 ·unfold fB;rw [jO (bK _),aX]
theorem aMg {q:Qv} (hb:bQ q) (x:List Int): ∃ b,nC q x=some b∧jC q x=some b∧(b=true→ ∃ n,Fin1 q n∧RtQ q n x):=by
 obtain ⟨L,b,h1,h2,h3⟩:=aOk hb
 have hL:(∀ r∈L,bI r)∧L.length≤1000:=by
  rcases h3 with ⟨_,rfl⟩|⟨_,n,H,rfl⟩
  ·exact ⟨λr hr=>(by cases hr),by simp⟩
  ·refine ⟨λr hr=>?_,by have:=rH H;omega⟩;have:=(H.vec ((kF H r).1 hr)).1.1;unfold bI;omega
 obtain ⟨i,g1,g2⟩:=aKx (f:=λb0=>lW b0 x) (λr=>decide (r=x)) (λr hr=>by simp only [lW];rw [aCz (hL.1 r hr),aB]) (by omega:L.length≤1048576)
 have hany:(L.any λr=>decide (r=x))=decide (x∈L):=by
  rw [Bool.eq_iff_iff,List.any_eq_true,gJ];exact ⟨λ⟨r,hr,h⟩=>by rw [gJ] at h;exact h▸hr,λh=>⟨x,h,by simp⟩⟩
 refine ⟨decide (x∈L),?_,?_,λh=>?_⟩
 ·unfold nC wD;rw [h1,aB];simp only;rw [g1,aB,aB,g2,hany]
 ·unfold jC;rw [h2,aB];simp only;rcases h3 with ⟨rfl,rfl⟩|⟨rfl,_⟩
  ·simp
  ·rw [aH,aIO hL.1 hL.2,aB]
 ·rw [gJ] at h;rcases h3 with ⟨_,rfl⟩|⟨_,n,H,rfl⟩
  ·cases h
  ·exact ⟨n,H,(kF H x).1 h⟩
end
noncomputable section
theorem aSq {L:List Nat} (hL:L.length≤1048576) (k:Nat):yF (pZ L) k=some (L.contains k):=by
 unfold yF;rw [aQN (n:=L.length) (λi=>decide (L[i]?.getD 0=k)) true (by omega) (λi hi=>?_) (λ_=>?_),aB]
 ·have e:(List.range L.length).any (λi=>decide (L[i]?.getD 0=k))=L.contains k:=by
   rw [Bool.eq_iff_iff,List.any_eq_true,List.contains_iff_mem];constructor
   ·rintro ⟨i,hi,he⟩;have hi:=List.mem_range.1 hi;have he:=of_decide_eq_true he;rw [gN hi,qN] at he;subst he;exact List.getElem_mem hi
   ·intro h;obtain ⟨i,hi,rfl⟩:=List.mem_iff_getElem.1 h;exact ⟨i,List.mem_range.2 hi,by simp [hi]⟩
  rw [e];cases L.contains k <;> rfl
 ·unfold tC;rw [jV,iH hi,aH,sT 0 (by rw [jV];exact hi),aB]
  have e:decide ((pZ L)[i]?.getD 0=(k:Int))=decide (L[i]?.getD 0=k):=by
   rw [Bool.eq_iff_iff,gJ,gJ];simp [pZ,hi];omega
  rw [e];cases decide (L[i]?.getD 0=k) <;> rfl
 ·unfold tC;rw [jV,jO (bK _),aX]
theorem aRZ {L:List Nat} {i:Nat} (h:i<L.length):cF (pZ L) (i:Int)=some ((L[i]?.getD 0:Nat):Int):=by
 rw [dG (by rw [jV];exact h)];simp [pZ,h]
theorem aPk {p:Int} {m:Nat} {F:Nat→Nat→Int} {t i:Nat} (h:i<(eU p m F t).2.length):(eU p m F t).2[i]?.getD 0<t:=aEF t _ (qS 0 h)
theorem aNq {p:Int} {m n:Nat} {F:Nat→Nat→Int} (T:Tb p m n F):tU p ⟨m,n,cH m n F⟩=some (aNH p n (eU p m F n).1 (eU p m F n).2):=by
 have hn:=T.hn;have hN:=T.hN;have hin:=aCI (by have:=kP T.hp;omega:0<p) T.hi n;have hlen:= @aCs p m F n;have hlen2:= @aDZ p m F n;have hget:= @aPk p m F n;unfold tU;rw [aKc T,aB];generalize (eU p m F n).1=R at*;generalize (eU p m F n).2=L at*;rw [dK (r:=aNH p n R L) (λk=>((k:Int),((List.range k).filter λk=> !L.contains k).map λk=>aLc p n R L k L.length)) n (by simp) (λk hk=>?_) (λ_=>?_),aB]
 ·unfold pP;simp only;have hfl:((List.range k).filter λk=> !L.contains k).length ≤k:=by have:=List.length_filter_le (λk=> !L.contains k) (List.range k);simpa using this
  rw [iH hk,aH,aSq (by omega),aB,List.range_succ,List.filter_append,List.map_append];cases hc:L.contains k with
  |true=>
   rw [aH,bS hk (by omega),show [k].filter (λk=> !L.contains k)=[] by simp only [List.filter_cons,List.filter_nil,hc,gG,gB,if_false],List.map_nil,List.append_nil]
  |false=>
   rw [aX,bF (by omega),bF (by omega:(n:Int)≤1048576),Bool.and_self,aH,cS,cS,dG (by simp;exact hk),aB];rw [dK (r:=aLc p n R L k L.length) (λi=>(aLc p n R L k i,(i:Int))) L.length (by rfl) (λi hi=>?_) (λ_=>?_),aB]
   ·rw [bF (by simp only [dY];omega),aH,bS hk (by omega),show [k].filter (λk=> !L.contains k)=[k] by simp only [List.filter_cons,List.filter_nil,hc,Bool.not_false,if_true]];rfl
   ·unfold pO;simp only;have b1:=hin i k (by omega) hk;have hp:=kP T.hp;have hv:=hget hi;rw [jV,iH hi,aH,aRZ hi,aB,atT hN (by omega) hk,aB,cJ (by omega),aBl T.hp (by omega),aB,dG (by rw [aHK];exact hv),aB,cS,bS hi (by omega)];rfl
   ·unfold pO;simp only;rw [jV,jO (bK _),aX]
 ·unfold pP;simp only;rw [jO (bK _),aX];rfl
theorem aRa {p:Int} (hp:yX p=true) {m n:Nat} {F:Nat→Nat→Int} (hi:InP p m n F):(aNH p n (eU p m F n).1 (eU p m F n).2).length=n - rkF p m n F:=by
 have h:=aQP hp hi n (bK _);have:=aQr h.inc (aEF n);unfold aNH rkF;rw [dY];omega
theorem Fit.lA {a b:Rp} (h:Fit a b) {v:Nat} (hv:v<a.dims.length):wr ((dN a v:Int)*(dN b v:Int))=((Proofs.YtilpfdokmlanjaaGreat.lV a b v:Nat):Int):=by
 have:=h.lV hv;unfold Proofs.YtilpfdokmlanjaaGreat.lV at*;rw [Nat.mul_comm] at this ⊢;exact aIY (by omega)
theorem aOl {a b:Rp} (h:Fit a b) {v:Nat} (hv:v≤a.dims.length):uX a b v=some ((off (lV a b) v:Nat):Int):=by
 have n5:=h.ra.n5;unfold uX;rw [dK (r:=((off (lV a b) v:Nat):Int)) (λk=>(((off (lV a b) k:Nat):Int),(k:Int))) v (by rfl) (λk hk=>?_) (λ_=>?_),aB]
 ·have hka:k<a.dims.length:=by omega
  have hkb:k<b.dims.length:=by rw [h.ne];exact hka
  have ho:=h.offV (v:=k+1) (by omega);have e:off (lV a b) (k+1)=off (lV a b) k+lV a b k:=rfl;unfold tW;simp only;rw [iH hk,aH,sT 0 hka,aB,sT 0 hkb,aB,(h.ra.d k hka).1,(h.rb.d k hkb).1,h.lA hka,bS hk (by omega),cJ (by omega),e];simp
 ·unfold tW;simp only;rw [jO (bK _),aX]
theorem aPl {a b:Rp} (h:Fit a b):uY a b=some (nV a b:Int):=by
 have n5:=h.ra.n5;unfold uY;rw [dK (r:=(nV a b:Int)) (λk=>(((off (lV a b) k:Nat):Int),(k:Int))) a.dims.length (by rfl) (λk hk=>?_) (λ_=>?_),aB]
 ·have hkb:k<b.dims.length:=by rw [h.ne];exact hk
  have ho:=h.offV (v:=k+1) (by omega);have e:off (lV a b) (k+1)=off (lV a b) k+lV a b k:=rfl;unfold qV;simp only;rw [iH hk,aH,sT 0 hk,aB,sT 0 hkb,aB,(h.ra.d k hk).1,(h.rb.d k hkb).1,h.lA hk,bS hk (by omega),cJ (by omega),e];simp
 ·unfold qV;simp only;rw [jO (bK _),aX];rfl
def aCc (a b:Rp) (i r k j:Nat):Nat→Nat→Int:=λv z=>if v=sV a i∧z % dN a v=k∧z / dN a v<j then aF b i r (z / dN a v) else 0
def aMh (a b:Rp) (i r k j:Nat):Nat→Nat→Int:=λv z=>if v=tV a i∧z / dN a v=r∧z % dN a v<j then (aCc a b i r k (dN b (sV a i)) v z - aF a i (z % dN a v) k) % a.p else aCc a b i r k (dN b (sV a i)) v z
theorem aPm (r c:Nat) (F:Nat→Nat→Int):cH r c F++aBy c (F r)=cH (r+1) c F:=by
 rw [←aHh c F r,←aHh c F (r+1),List.range_succ,List.map_append,List.flatten_append];simp
theorem aSr {a b:Rp} (h:Fit a b) {i r k:Nat} (hi:i<a.q.src.length) (hr:r<dN b (tV a i)) (hk:k<dN a (sV a i)) (x1 x2 x3:Int×List Int×Int) (e1:x1.2.2=i) (e2':x2.2.2=r) (e3:x3.2.2=k):
  ∃ y,Lp (hO a b (sV a i) x1 x2 x3) (List.replicate (nV a b) 0,0)=some y∧Lp (hZ a b (sV a i) (tV a i) x1 x2 x3) (y,0)=some (cat (lV a b) (e2 a b i (r*dN a (sV a i)+k)) a.dims.length):=by
 have hb:=kP h.ra.hp;have n5:=h.ra.n5;obtain ⟨s1,s2⟩:=h.ra.s i hi;obtain ⟨t1,t2⟩:=h.ra.t i hi;have s3:sV a i<b.dims.length:=by rw [h.ne];exact s2
 have t3:tV a i<b.dims.length:=by rw [h.ne];exact t2
 have hib:i<b.q.src.length:=by rw [h.qe];exact hi
 obtain ⟨m1,m2⟩:=h.ra.m i hi;obtain ⟨g1,g2⟩:=h.rb.m i hib;rw [h.sV,h.tV] at g1 g2;rw [h.pe] at g2;have da:=h.ra.d _ s2;have da2:=h.ra.d _ t2;have db:=h.rb.d _ s3;have db2:=h.rb.d _ t3;have oS:=h.offV (v:=sV a i+1) s2;have oT:=h.offV (v:=tV a i+1) t2;have eS:off (lV a b) (sV a i+1)=off (lV a b) (sV a i)+lV a b (sV a i):=rfl;have eT:off (lV a b) (tV a i+1)=off (lV a b) (tV a i)+lV a b (tV a i):=rfl;refine ⟨cat (lV a b) (aCc a b i r k (dN b (sV a i))) a.dims.length,?_,?_⟩
 ·refine dK (λj=>(cat (lV a b) (aCc a b i r k j) a.dims.length,(j:Int))) (dN b (sV a i)) ?_ (λj hj=>?_) (λ_=>?_)
  ·unfold nV;rw [aMA];congr 1;exact aBC λv z _ _=>by unfold aCc;rw [aQ λq=>absurd q.2.2 (Nat.not_lt_zero _)]
  ·have hz:j*dN a (sV a i)+k<lV a b (sV a i):=aHJ hj hk
   have hpos:wr (wr (((off (lV a b) (sV a i):Nat):Int)+wr ((j:Int)*(dN a (sV a i):Int)))+(k:Int))=((off (lV a b) (sV a i)+(j*dN a (sV a i)+k):Nat):Int):=by
    rw [aIY (by omega),cJ (x:=((off (lV a b) (sV a i):Nat):Int)+((j*dN a (sV a i):Nat):Int)) (by omega),cJ (by omega)];omega
   have hw:=g2 r j hr hj;unfold hO;simp only [e1,e2',e3];rw [sT 0 s3,aB,db.1,iH hj,aH,aOl h (by omega),aB,sT 0 s2,aB,da.1,hpos,dG (by rw [iA];exact uZ s2 hz)];rw [aB,sT ⟨0,0,[]⟩ (by rw [h.rb.ml];exact hib),aB,aB,g1];simp only;rw [atT (sq db2.2 db.2) hr hj,aB]
   have hv0:(cat (lV a b) (aCc a b i r k j) a.dims.length)[off (lV a b) (sV a i)+(j*dN a (sV a i)+k)]'(by rw [iA];exact uZ s2 hz)=0:=by
    have:=rW (aCc a b i r k j) s2 hz;rw [gN (by rw [iA];exact uZ s2 hz)] at this;rw [Option.some.inj this];unfold aCc;rw [aQ];rw [aBa hk];omega
   rw [hv0,Int.zero_add,cJ (by omega),aBl h.ra.hp (by omega),aB,aB,cS,aKe s2 hz,bS hj (by omega),Int.emod_eq_of_lt hw.1 hw.2];congr 3;refine aBC λv z hv hz2=>?_;by_cases e:v=sV a i∧z=j*dN a (sV a i)+k
   ·obtain ⟨rfl,rfl⟩:=e;rw [aU ⟨rfl,rfl⟩];unfold aCc;rw [aBa hk,aBb hk,aU ⟨rfl,rfl,Nat.lt_succ_self _⟩]
   ·rw [aQ e];unfold aCc;by_cases e4:v=sV a i∧z % dN a v=k∧z / dN a v<j
    ·rw [aU e4,aU ⟨e4.1,e4.2.1,by omega⟩]
    ·rw [aQ e4,aQ];rintro ⟨q1,q2,q3⟩
     have q4:z / dN a v=j:=by
      rcases dR (z / dN a v) j with h'|h'
      ·exact absurd ⟨q1,q2,h'⟩ e4
      ·omega
     refine e ⟨q1,?_⟩;rw [←@aAP (dN a v) z,q4,q2,q1]
  ·unfold hO;simp only [e1,e2',e3];rw [sT 0 s3,aB,db.1,jO (bK _),aX]
 ·refine dK (λj=>(cat (lV a b) (aMh a b i r k j) a.dims.length,(j:Int))) (dN a (tV a i)) ?_ (λj hj=>?_) (λ_=>?_)
  ·congr 1;exact aBC λv z _ _=>by unfold aMh;rw [aQ λq=>absurd q.2.2 (Nat.not_lt_zero _)]
  ·have hz:r*dN a (tV a i)+j<lV a b (tV a i):=aHJ hr hj
   have hpos:wr (wr (((off (lV a b) (tV a i):Nat):Int)+wr ((r:Int)*(dN a (tV a i):Int)))+(j:Int))=((off (lV a b) (tV a i)+(r*dN a (tV a i)+j):Nat):Int):=by
    rw [aIY (by omega),cJ (x:=((off (lV a b) (tV a i):Nat):Int)+((r*dN a (tV a i):Nat):Int)) (by omega),cJ (by omega)];omega
   have hw:=m2 j k hj hk;unfold hZ;simp only [e1,e2',e3];rw [sT 0 t2,aB,da2.1,iH hj,aH,aOl h (by omega),aB,aB,hpos,dG (by rw [iA];exact uZ t2 hz)];rw [aB,sT ⟨0,0,[]⟩ (by rw [h.ra.ml];exact hi),aB,sT 0 s2,aB,m1,da.1];simp only;rw [atT (sq da2.2 da.2) hj hk,aB]
   have hv0:(cat (lV a b) (aMh a b i r k j) a.dims.length)[off (lV a b) (tV a i)+(r*dN a (tV a i)+j)]'(by rw [iA];exact uZ t2 hz)=aCc a b i r k (dN b (sV a i)) (tV a i) (r*dN a (tV a i)+j):=by
    have:=rW (aMh a b i r k j) t2 hz;rw [gN (by rw [iA];exact uZ t2 hz)] at this;rw [Option.some.inj this];unfold aMh;rw [aQ];rw [aBb hj];omega
   have hbA:0≤aCc a b i r k (dN b (sV a i)) (tV a i) (r*dN a (tV a i)+j)∧aCc a b i r k (dN b (sV a i)) (tV a i) (r*dN a (tV a i)+j)≤5:=by
    unfold aCc;split
    ·rename_i q;have:=g2 r ((r*dN a (tV a i)+j) / dN a (tV a i)) hr q.2.2;omega
    ·omega
   rw [hv0];generalize hA:aCc a b i r k (dN b (sV a i)) (tV a i) (r*dN a (tV a i)+j)=A at*;rw [cJ (x:=A - aF a i j k) (by omega),aBl h.ra.hp (by omega),aB,aB,cS,aKe t2 hz,bS hj (by omega)];congr 3;refine aBC λv z hv hz2=>?_;by_cases e:v=tV a i∧z=r*dN a (tV a i)+j
   ·obtain ⟨rfl,rfl⟩:=e;rw [aU ⟨rfl,rfl⟩];unfold aMh;rw [aBa hj,aBb hj,aU ⟨rfl,rfl,Nat.lt_succ_self _⟩,hA]
   ·rw [aQ e];unfold aMh;by_cases e4:v=tV a i∧z / dN a v=r∧z % dN a v<j
    ·rw [aU e4,aU ⟨e4.1,e4.2.1,by omega⟩]
    ·rw [aQ e4,aQ];rintro ⟨q1,q2,q3⟩
     have q4:z % dN a v=j:=by
      rcases dR (z % dN a v) j with h'|h'
      ·exact absurd ⟨q1,q2,h'⟩ e4
      ·omega
     refine e ⟨q1,?_⟩;rw [←@aAP (dN a v) z,q4,q2,q1]
  ·unfold hZ;simp only [e1,e2',e3];rw [sT 0 t2,aB,da2.1,jO (bK _),aX];congr 2;refine aBC λv z hv hz2=>?_;have hzb:z<dN b v*dN a v:=hz2;obtain ⟨q1,q2⟩:=aDi hzb
   have eA:aCc a b i r k (dN b (sV a i)) v z=if sV a i=v∧k=z % dN a v then aF b i r (z / dN a v) else 0:=by
    unfold aCc;by_cases e:sV a i=v∧k=z % dN a v
    ·rw [aU e,aU ⟨e.1.symm,e.2.symm,by rw [e.1];exact q1⟩]
    ·rw [aQ e,aQ λq=>e ⟨q.1.symm,q.2.1.symm⟩]
   unfold aMh e2 eF;rw [eA,aBa hk,aBb hk];by_cases e:tV a i=v∧r=z / dN a v
   ·rw [aU ⟨e.1.symm,e.2.symm,by rw [e.1];exact q2⟩,aU e]
   ·rw [aQ λq=>e ⟨q.1.symm,q.2.1.symm⟩,aQ e,Int.sub_zero];split
    ·rename_i q;have hw:=g2 r (z / dN a v) hr (by rw [q.1];exact q1);exact (Int.emod_eq_of_lt hw.1 hw.2).symm
    ·simp
theorem aUM {a b:Rp} {i y:Nat} (hi:i<a.q.src.length) (hy:y<lE a b i):cat (lV a b) (e2 a b i y) a.dims.length=aBy (nV a b) (mE a b (off (lE a b) i+y)):=by
 symm;refine aEY (by rw [pY];rfl) λv z hv hz=>?_;have hk:off (lV a b) v+z<nV a b:=uZ hv hz;unfold aBy;rw [List.getElem?_map,List.getElem?_range hk,Option.map_some];congr 1;unfold mE;rw [rW _ hi hy,qN,rW _ hv hz,qN]
theorem aIP {a b:Rp} (h:Fit a b):nN a b=some ⟨nE a b,nV a b,cH (nE a b) (nV a b) (mE a b)⟩:=by
 have n5:=h.ra.n5;have e6:=h.ra.e6;have bV:=h.offV (bK _);have bE:=h.offE (bK _);have tl:=h.ra.tl;have ml:=h.ra.ml;have hV:nV a b≤80:=bV;unfold nN;rw [aPl h,aB];rw [dK (r:=((nE a b:Int),cH (nE a b) (nV a b) (mE a b))) (λi=>(((off (lE a b) i:Nat):Int),cH (off (lE a b) i) (nV a b) (mE a b),(i:Int))) a.q.src.length (by simp [off,cH]) (λi hi=>?_) (λ_=>?_),aB]
 ·obtain ⟨s1,s2⟩:=h.ra.s i hi;obtain ⟨t1,t2⟩:=h.ra.t i hi;have t3:tV a i<b.dims.length:=by rw [h.ne];exact t2
  have da:=h.ra.d _ s2;have db2:=h.rb.d _ t3;have oE:=h.offE (i:=i+1) hi;have eE:off (lE a b) (i+1)=off (lE a b) i+dN b (tV a i)*dN a (sV a i):=rfl;unfold kU;simp only;rw [ml,iH hi,aH,sT 0 hi,aB,s1,sT 0 (by omega),aB,t1];rw [dK (r:=(((off (lE a b) (i+1):Nat):Int),cH (off (lE a b) (i+1)) (nV a b) (mE a b))) (λr=>(((off (lE a b) i+r*dN a (sV a i):Nat):Int),cH (off (lE a b) i+r*dN a (sV a i)) (nV a b) (mE a b),(r:Int))) (dN b (tV a i)) (by simp) (λr hr=>?_) (λ_=>?_),aB,bS hi (by omega)]
  ·unfold kT;simp only;rw [sT 0 t3,aB,db2.1,iH hr,aH];rw [dK (r:=(((off (lE a b) i+(r+1)*dN a (sV a i):Nat):Int),cH (off (lE a b) i+(r+1)*dN a (sV a i)) (nV a b) (mE a b))) (λk=>(((off (lE a b) i+r*dN a (sV a i)+k:Nat):Int),cH (off (lE a b) i+r*dN a (sV a i)+k) (nV a b) (mE a b),(k:Int))) (dN a (sV a i)) (by simp) (λk hk=>?_) (λ_=>?_),aB,bS hr (by omega)]
   ·unfold kS;simp only;have hy:r*dN a (sV a i)+k<lE a b i:=aHJ hr hk;have hx:off (lE a b) i+(r*dN a (sV a i)+k)<nE a b:=uZ hi hy;have hx2:nE a b≤96:=bE;have hsz:(off (lE a b) i+r*dN a (sV a i)+k)*nV a b≤96*80:=Nat.mul_le_mul (by omega) hV;rw [sT 0 s2,aB,da.1,iH hk,aH,bF (by omega),bF (by omega:(nV a b:Int)≤1048576),Bool.and_self,aH,cS];obtain ⟨y,y1,y2⟩:=aSr h hi hr hk (((off (lE a b) i:Nat):Int),cH (off (lE a b) i) (nV a b) (mE a b),(i:Int)) (((off (lE a b) i+r*dN a (sV a i):Nat):Int),cH (off (lE a b) i+r*dN a (sV a i)) (nV a b) (mE a b),(r:Int)) (((off (lE a b) i+r*dN a (sV a i)+k:Nat):Int),cH (off (lE a b) i+r*dN a (sV a i)+k) (nV a b) (mE a b),(k:Int)) rfl rfl rfl;rw [y1,aB,y2,aB,aUM hi hy,jG,pY,bF (by omega),aH,bS hk (by omega),cJ (by omega),←Nat.add_assoc,aPm];congr 2
   ·unfold kS;simp only;rw [sT 0 s2,aB,da.1,jO (bK _),aX,Nat.succ_mul,Nat.add_assoc]
  ·unfold kT;simp only;rw [sT 0 t3,aB,db2.1,jO (bK _),aX,eE]
 ·unfold kU;simp only;rw [ml,jO (bK _),aX];rfl
theorem aNr {a b:Rp} (h:Fit a b) {x:List Int} (hx:x.length=nV a b): ∃ r,tX a b x=some r:=by
 have n5:=h.ra.n5;have bV:=h.offV (bK _);have hV:nV a b≤80:=bV;refine ⟨(List.range a.dims.length).map λv=>(⟨dN b v,dN a v,(x.drop (off (lV a b) v)).take (lV a b v)⟩:Mt),?_⟩;unfold tX;rw [dK (r:=(List.range a.dims.length).map λv=>(⟨dN b v,dN a v,(x.drop (off (lV a b) v)).take (lV a b v)⟩:Mt)) (λk=>((List.range k).map (λv=>(⟨dN b v,dN a v,(x.drop (off (lV a b) v)).take (lV a b v)⟩:Mt)),((off (lV a b) k:Nat):Int),(k:Int))) a.dims.length (by simp [off]) (λk hk=>?_) (λ_=>?_),aB]
 ·have hkb:k<b.dims.length:=by rw [h.ne];exact hk
  have ho:= @aAa (lV a b) (k+1) a.dims.length hk;have e:off (lV a b) (k+1)=off (lV a b) k+lV a b k:=rfl;unfold pQ;simp only
  rw [iH hk,aH,sT 0 hk,aB,sT 0 hkb,aB,aB,aB,(h.ra.d k hk).1,(h.rb.d k hkb).1,h.lA hk,cJ (x:=((off (lV a b) k:Nat):Int)+((lV a b k:Nat):Int)) (by omega),hx,
   bF (by omega),bF (by omega:((off (lV a b) k:Nat):Int)≤((off (lV a b) k:Nat):Int)+((lV a b k:Nat):Int)),bF (by unfold nV;omega:((off (lV a b) k:Nat):Int)+((lV a b k:Nat):Int)≤((nV a b:Nat):Int)),Bool.and_self,Bool.and_self,aH,
   show (((off (lV a b) k:Nat):Int)+((lV a b k:Nat):Int)).toNat - ((off (lV a b) k:Nat):Int).toNat=lV a b k by omega,cS]
  have q2:decide (((List.range k).map λv=>(⟨dN b v,dN a v,(x.drop (off (lV a b) v)).take (lV a b v)⟩:Mt)).length +1≤4294967296)=true:=bF (by simp only [dY,List.length_range];omega);have q1:decide (([]:List Int).length +((x.drop (off (lV a b) k)).take (lV a b k)).length ≤4294967296)=true:=bF (by simp only [List.length_nil,List.length_take,List.length_drop];omega);rw [q1,aH,q2,aH,List.nil_append,bS hk (by omega),aBD (f:=λv=>(⟨dN b v,dN a v,(x.drop (off (lV a b) v)).take (lV a b v)⟩:Mt)),e];simp
 ·unfold pQ;simp only;rw [jO (bK _),aX]
end
noncomputable section
def aFe (a b:Rp):Bool:=xP a&&(xP b&&(decide (a.p=b.p)&&decide (a.q=b.q)))
theorem aMi {a b:Rp} (h:aFe a b=true):Fit a b:=by
 unfold aFe at h;simp only [cY,gJ] at h;exact aQs h.1 h.2.1 h.2.2.1 h.2.2.2
theorem aRb {a:Rp} (h:xP a=true):Fit a a:=aQs h h rfl rfl
def hdI (a b:Rp):Int:=if aFe a b=true then (aQu a b:Int) else -1
theorem aNs {a b:Rp} (ha:bR a) (hb:bR b): ∃ l,tY a b=some (l,aFe a b)∧(aFe a b=true→l.length=aQu a b):=by
 unfold tY;rw [aSS ha hb,aB];cases hf:xP a&&(xP b&&(decide (a.p=b.p)&&decide (a.q=b.q))) with
 |false=>
  refine ⟨[],?_,λh=>by unfold aFe at h;rw [hf] at h;cases h⟩;unfold aFe;rw [hf];rfl
 |true=>
  have h:=aMi hf;have bV:=h.offV (bK _);have hV:nV a b≤80:=bV;have hl:=aRa h.ra.hp (aTJ h)
  have hkl: ∀ v∈aNH a.p (nV a b) (eU a.p (nE a b) (mE a b) (nV a b)).1 (eU a.p (nE a b) (mE a b) (nV a b)).2,v.length=nV a b:=by
   intro v hv;unfold aNH at hv;obtain ⟨k,_,rfl⟩:=List.mem_map.1 hv;exact aHK _ _ _ _ _ _
  rw [gG,aX,aIP h,aB,aNq (aTK h),aB];generalize aNH a.p (nV a b) (eU a.p (nE a b) (mE a b) (nV a b)).1 (eU a.p (nE a b) (mE a b) (nV a b)).2=K at*;have key:=aCr (body:=pR a b K) (s:=(([]:List (List Mt)),0)) (λs=>s.2=(s.1.length:Int)∧s.1.length≤K.length) (λs=>K.length - s.1.length) (λr=>r.length=K.length) ⟨rfl,Nat.zero_le _⟩ (λs ⟨h1,h2⟩=>?_)
  ·obtain ⟨r,h1,h2⟩:=key;rw [h1,aB];exact ⟨r,by unfold aFe;rw [hf],λ_=>by rw [h2,hl];rfl⟩
  ·obtain ⟨l,j⟩:=s;simp only at h1 h2;subst h1;unfold pR;simp only;rcases dR l.length K.length with hlt|hge
   ·obtain ⟨r,hr⟩:=aNr h (hkl _ (List.getElem_mem hlt));rw [iH hlt,aH,dG hlt,aB,hr,aB,bF (by omega),aH,bS hlt (by omega)];exact .inl ⟨_,rfl,⟨by simp,by simp;omega⟩,by simp;omega⟩
   ·rw [jO hge,aX];exact .inr ⟨_,rfl,by omega⟩
theorem aJr {a b:Rp} (ha:bR a) (hb:bR b):qG a b=some (hdI a b):=by
 obtain ⟨l,h1,h2⟩:=aNs ha hb;unfold qG hdI;rw [h1,aB];cases hf:aFe a b with
 |false=>rfl
 |true=>rw [aU rfl,←h2 hf];rfl
theorem aPn {a b:Rp} (ha:bR a) (hb:bR b):wQ a b=some (hdI a b):=by
 unfold wQ hdI;rw [aUt ha hb,aB];cases hf:xP a&&(xP b&&(decide (a.p=b.p)&&decide (a.q=b.q))) with
 |false=>
  unfold aFe;rw [hf];rfl
 |true=>
  rw [gG,aX,aMC (aMi hf),aB,aU (show aFe a b=true from hf)]
def aDN (a:Rp) (l:List Rp):List Int:=if l.length≤20 then l.map λr=>hdI r a else []
theorem aMj {α β:Type} {f:α→β} {l:List α} {k:Nat} (hk:k<l.length):(l.take k).map f++[f l[k]]=(l.take (k+1)).map f:=by rw [aAh hk,List.map_append];rfl
theorem aPo {a:Rp} {l:List Rp} (ha:bR a) (hl:l.length≤1048576∧ ∀ r∈l,bR r):wS a l=some (aDN a l):=by
 obtain ⟨hl,hb⟩:=hl;unfold wS;by_cases h20:l.length≤20
 ·rw [dK (r:=aDN a l) (λk=>((l.take k).map (λr=>hdI r a),(k:Int))) l.length (by simp) (λk hk=>?_) (λ_=>?_),aB]
  ·unfold oK;simp only;rw [iH hk,aH,bF (by omega),aH,dG hk,aB,aJr (hb _ (List.getElem_mem hk)) ha,aB,bF (by simp only [dY,List.length_take,List.length_cons,List.length_nil];omega),aH,bS hk (by omega),aMj (f:=λr=>hdI r a) hk]
  ·unfold oK aDN;simp only;rw [jO (bK _),aX,List.take_length,aU h20]
 ·rw [dH (r:=[]),aB]
  ·unfold aDN;rw [aQ h20]
  ·unfold oK;simp only;rw [bF (by omega),aH,dF (by omega),aX]
theorem aPp {a:Rp} {l:List Rp} (ha:bR a) (hl:l.length≤1048576∧ ∀ r∈l,bR r):wR a l=some (aDN a l):=by
 obtain ⟨hl,hb⟩:=hl;unfold wR;by_cases h20:l.length≤20
 ·rw [dF (by omega),aX];rw [dK (r:=aDN a l) (λk=>((l.take k).map (λr=>hdI r a),(k:Int))) l.length (by simp) (λk hk=>?_) (λ_=>?_),aB]
  ·unfold rV;simp only;rw [iH hk,aH,dG hk,aB,aPn (hb _ (List.getElem_mem hk)) ha,aB,bF (by simp only [dY,List.length_take,List.length_cons,List.length_nil];omega),aH,bS hk (by omega),aMj (f:=λr=>hdI r a) hk]
  ·unfold rV aDN;simp only;rw [jO (bK _),aX,List.take_length,aU h20]
 ·rw [bF (by omega),aH];unfold aDN;rw [aQ h20]
end
noncomputable section
def fXd (x:List Int) (v:Nat):Nat:=(x[v]?.getD 0).toNat
def sXq (q:Qv) (i:Nat):Nat:=(q.src[i]?.getD 0).toNat
def tXq (q:Qv) (i:Nat):Nat:=(q.tgt[i]?.getD 0).toNat
def rXq (q:Qv) (x:List Int) (i:Nat):Int:=(fXd x (tXq q i):Int)
def cXq (q:Qv) (x:List Int) (i:Nat):Int:=(fXd x (sXq q i):Int)
def lXq (q:Qv) (x:List Int) (i:Nat):Nat:=fXd x (tXq q i)*fXd x (sXq q i)
def wG (p:Int) (q:Qv) (x:List Int) (F:Nat→Nat→Int):Rp:=⟨p,q,x,xV q.src.length (rXq q x) (cXq q x) (lXq q x) F⟩
structure RX (q:Qv) (x:List Int):Prop where
 n5:x.length≤5
 eq:q.tgt.length=q.src.length
 m6:q.src.length≤6
 d: ∀ v,v<x.length→x[v]?.getD 0=(fXd x v:Int)
 d4: ∀ v,fXd x v≤4
 s: ∀ i,i<q.src.length→q.src[i]?.getD 0=(sXq q i:Int)∧sXq q i<x.length
 t: ∀ i,i<q.src.length→q.tgt[i]?.getD 0=(tXq q i:Int)∧tXq q i<x.length
theorem aTS {q:Qv} {x:List Int} (h:aBB q x=true):RX q x:=by
 obtain ⟨hQ,hd1,hd2,_⟩:=rD h;obtain ⟨n,hn,hn1,hn5,hq1,hq2,hq3,hq4⟩:=xE hQ;refine ⟨by omega,by omega,hq2,λv hv=>?_,λv=>?_,λi hi=>?_,λi hi=>?_⟩
 ·have:=hd2 _ (qS 0 hv);unfold fXd;omega
 ·unfold fXd;by_cases hv:v<x.length
  ·have:=hd2 _ (qS 0 hv);omega
  ·rw [gF (by omega)];exact Nat.zero_le _
 ·have:=hq3 _ (qS 0 hi);unfold sXq;omega
 ·have:=hq4 _ (qS 0 (show i<q.tgt.length by omega));unfold tXq;omega
theorem RX.l16 {q:Qv} {x:List Int} (X:RX q x) (i:Nat):lXq q x i≤16:=Nat.mul_le_mul (X.d4 _) (X.d4 _)
theorem RX.off {q:Qv} {x:List Int} (X:RX q x): ∀ k,off (lXq q x) k≤16*k
 |0=>bK _
 |k+1=>by
  have h1:=X.off k;have h2:=X.l16 k;have e:Proofs.YtilpfdokmlanjaaGreat.off (lXq q x) (k+1)=Proofs.YtilpfdokmlanjaaGreat.off (lXq q x) k+lXq q x k:=rfl;omega
theorem aRf {p:Int} {q:Qv} {x:List Int} (hp:yX p=true) (hD:aBB q x=true) {F:Nat→Nat→Int} (hF: ∀ v y,0≤F v y∧F v y≤1):xP (wG p q x F)=true:=by
 have X:=aTS hD;unfold xP;simp only [cY,gJ,vS];refine ⟨hp,hD,by simp [wG,xV],λi hi=>?_⟩;have hi':i<q.src.length:=by simpa [wG,xV] using hi
 have e:(wG p q x F).maps[i]?.getD ⟨0,0,[]⟩=⟨rXq q x i,cXq q x i,(List.range (lXq q x i)).map (F i)⟩:=by
  unfold wG xV;simp [hi']
 have h1:=X.d4 (tXq q i);have h2:=X.d4 (sXq q i);have hl:=X.l16 i;rw [e];refine ⟨?_,?_,?_⟩
 ·unfold aFK;simp only [cY,gJ,List.all_eq_true];have hb:=kP hp;refine ⟨aHG (by unfold rXq;omega) (by unfold rXq;omega),aHG (by unfold cXq;omega) (by unfold cXq;omega),?_,⟨hp,by simp;omega⟩,λz hz=>?_⟩
  ·show (((List.range (lXq q x i)).map (F i)).length:Int)=wr ((fXd x (tXq q i):Int)*(fXd x (sXq q i):Int));unfold lXq at hl;rw [aIY (by omega),dY,List.length_range];rfl
  ·obtain ⟨y,_,rfl⟩:=List.mem_map.1 hz;have:=hF i y;refine aHG this.1 ?_;show F i y≤wr (p - 1);rw [cJ (by omega)];omega
 ·exact (X.d _ (X.s i hi').2).symm
 ·exact (X.d _ (X.t i hi').2).symm
theorem aNt {p:Int} {q:Qv} {x:List Int} (hb:bQ q) (X:RX q x) {F:Nat→Nat→Int} :bR (wG p q x F):=by
 refine ⟨hb,?_,⟨?_,λm hm=>?_⟩,trivial⟩
 ·show x.length≤1048576;have:=X.n5;omega
 ·show (xV q.src.length (rXq q x) (cXq q x) (lXq q x) F).length ≤1048576;rw [aDC];have:=X.m6;omega
 ·obtain ⟨v,_,rfl⟩:=List.mem_map.1 hm;refine ⟨?_,trivial⟩;show ((List.range (lXq q x v)).map (F v)).length ≤1048576;have:=X.l16 v;rw [dY,List.length_range];omega
theorem aTT {α:Type} (k:Nat) (f:Nat→α):(List.range k).map f++[f k]=(List.range (k+1)).map f:=by rw [List.range_succ,List.map_append];rfl
theorem aSs (p:Int) {q:Qv} {x:List Int} (hb:bQ q) (X:RX q x):vG p q x=some (wG p q x λ_ _=>0):=by
 have h1:q.src.length≤1048576:=hb.1;have h2:q.tgt.length≤1048576:=hb.2.1;have h5:=X.n5;have h6:=X.m6;have hc: ∀ {l:List Int},l.length≤1048576→iX l=some l:=λh=>by unfold iX;rw [bF h,aH]
 unfold vG sG;simp only [hc h1,hc h2,hc (show x.length≤1048576 by omega),aB];rw [dK (r:=xV q.src.length (rXq q x) (cXq q x) (lXq q x) λ_ _=>0) (λk=>(xV k (rXq q x) (cXq q x) (lXq q x) λ_ _=>0,(k:Int))) q.src.length (by rfl) (λi hi=>?_) (λ_=>?_),aB]
 ·rfl
 ·have s1:=X.s i hi;have t1:=X.t i hi;have hl:=X.l16 i;unfold lXq at hl;unfold qY;simp only;rw [iH hi,aH,sT 0 hi,aB,sT 0 (by rw [X.eq];exact hi),aB,t1.1,sT 0 t1.2,aB,s1.1,sT 0 s1.2,aB,X.d _ s1.2,X.d _ t1.2,aHb (by omega),aB,aDC,bF (by omega),aH,bS hi (by omega)];unfold xV;rw [←aTT];rfl
 ·unfold qY;simp only;rw [jO (bK _),aX]
theorem aPq (p:Int) {q:Qv} {x:List Int} (hb:bQ q) (X:RX q x):wV p q x=some (wG p q x λ_ _=>0):=by
 have h1:q.src.length≤1048576:=hb.1;have h2:q.tgt.length≤1048576:=hb.2.1;have h5:=X.n5;have h6:=X.m6
 have hq:wU q=some q:=by
  unfold wU;rw [bF (by simp;omega),aH,bF (by simp;omega),aH];simp
 unfold wV;rw [hq,aB,bF (by simp;omega),aH,List.nil_append];rw [dK (r:=xV q.src.length (rXq q x) (cXq q x) (lXq q x) λ_ _=>0) (λk=>(xV k (rXq q x) (cXq q x) (lXq q x) λ_ _=>0,(k:Int))) q.src.length (by rfl) (λi hi=>?_) (λ_=>?_),aB]
 ·rfl
 ·have s1:=X.s i hi;have t1:=X.t i hi;have hl:=X.l16 i;unfold lXq at hl;unfold sB;simp only;rw [iH hi,aH,sT 0 (by rw [X.eq];exact hi),aB,t1.1,sT 0 t1.2,aB,sT 0 hi,aB,s1.1,sT 0 s1.2,aB,X.d _ s1.2,X.d _ t1.2,aQo (by omega),aB,aDC,bF (by omega),aH,bS hi (by omega)];unfold xV;rw [←aTT];rfl
 ·unfold sB;simp only;rw [jO (bK _),aX]
theorem aUN (l:Nat→Nat) (N code:Nat): ∀ v y,0≤dgM l N code v y∧dgM l N code v y≤1:=λv y=>by
 unfold dgM dg;omega
theorem aPr {N:Nat} (h:N≤1048576):aHq (List.replicate N 1)=true:=by
 unfold aHq;simp only [cY,List.all_eq_true,gJ,List.length_replicate];refine ⟨λm hm=>?_,h⟩;rw [List.eq_of_mem_replicate hm];decide
def emR:Rp:=⟨0,⟨0,[],[]⟩,[],[]⟩
theorem aPs (p:Int) {q:Qv} (hb:bQ q) {x:List Int} (hx:bI x): ∃ r b,vH p q x=some (r,b)∧vI p q x=some (r,b)∧((b=false∧r=emR)∨(b=true∧xP r=true∧bR r∧yX p=true∧r.dims=x)):=by
 obtain ⟨c,c1,c2,_⟩:=aMg hb x;unfold vH vI;rw [aCy,aEQ,c1,c2,aBj hb hx,aBk hb hx];simp only [aB];cases hp:yX p with
 |false=>exact ⟨emR,false,rfl,rfl,.inl ⟨rfl,rfl⟩⟩
 |true=>
  cases c with
  |false=>exact ⟨emR,false,rfl,rfl,.inl ⟨rfl,rfl⟩⟩
  |true=>
   cases hD:aBB q x with
   |false=>exact ⟨emR,false,rfl,rfl,.inl ⟨rfl,rfl⟩⟩
   |true=>
    have X:=aTS hD;have h6:=X.m6;simp only [gG,aX];rw [aSs p hb X,aPq p hb X];simp only [aB];obtain ⟨N,hN⟩: ∃ N,N=off (lXq q x) q.src.length:=⟨_,rfl⟩;have hN96:N≤96:=by have:=X.off q.src.length;omega
    have hfl:jK (wG p q x λ_ _=>0).maps=some (cat (lXq q x) (λ_ _=>0) q.src.length):=aKf (by omega) (by omega);have hL1:Lp jY ((wG p q x λ_ _=>0).maps,0,0)=some ((wG p q x λ_ _=>0).maps,(N:Int)):=aTu (by omega) hN.symm (by omega);rw [hfl,hL1];simp only [aB,iA,←hN];by_cases h10:N≤10
    ·obtain ⟨P,hP⟩: ∃ P:Nat→Bool,P=λcode=>decide ((aQu (wG p q x (dgM (lXq q x) N code)) (wG p q x (dgM (lXq q x) N code)):Int)=1):=⟨_,rfl⟩;have hr: ∀ code,xP (wG p q x (dgM (lXq q x) N code))=true:=λcode=>aRf hp hD (aUN _ _ _);obtain ⟨Y,hY⟩:=aUz (p:=p) (q:=q) (d:=x) (r:=rXq q x) (c:=cXq q x) (P:=P) (G:=λ_ _=>0) (show q.src.length≤1000 by omega) hN.symm h10 (λcode _=>⟨_,aMC (aRb (hr code)),by rw [hP];rfl⟩) (2 ^ N) 0 (wG p q x λ_ _=>0).maps (Nat.zero_add _)
     have hS:=aTv (p:=p) (q:=q) (d:=x) (r:=rXq q x) (c:=cXq q x) (P:=P) (X:=(wG p q x λ_ _=>0).maps) (z:=(wG p q x λ_ _=>0).maps) (show q.src.length≤1000 by omega) hN.symm h10 (λcode _=>⟨_,aJr (aNt hb X) (aNt hb X),by
      have hf:aFe (wG p q x (dgM (lXq q x) N code)) (wG p q x (dgM (lXq q x) N code))=true:=by unfold aFe;simp [hr code]
      rw [hP];show decide (hdI (wG p q x (dgM (lXq q x) N code)) (wG p q x (dgM (lXq q x) N code))=1)=_;unfold hdI
      rw [aU hf]⟩) (2 ^ N) 0 (λ_ _=>0) (Nat.zero_add _)
     rw [←List.range_eq_range',←aIA] at hY;rw [dF (by omega),bF (by omega),bF (by omega),cS,aPr (by omega)];simp only [Bool.and_self,aH,aX];have e1:Fl (jX (wG p q x λ_ _=>0)) (cV (List.replicate N 1)) (wG p q x λ_ _=>0).maps=_:=hY;have e2:Lp (gE (wG p q x λ_ _=>0) ((wG p q x λ_ _=>0).maps,(N:Int))) ((wG p q x λ_ _=>0).maps,0)=_:=hS;rw [e1,e2];simp only [aB];unfold aIC;cases (List.range' 0 (2 ^ N)).find? P with
     |none=>exact ⟨emR,false,rfl,rfl,.inl ⟨rfl,rfl⟩⟩
     |some code=>exact ⟨wG p q x (dgM (lXq q x) N code),true,rfl,rfl,.inr ⟨rfl,hr code,aNt hb X,trivial,rfl⟩⟩
    ·refine ⟨emR,false,?_,?_,.inl ⟨rfl,rfl⟩⟩
     ·rw [bF (by omega)];rfl
     ·rw [dH (r:= .inl ()) (by unfold gE;simp only;rw [dF (by omega),aX])];rfl
end
noncomputable section
set_option maxRecDepth 10000
set_option maxHeartbeats 4000000
def pT (x1:((List Int)×Int×Int)):Option (((List Int)×Int×Int) ⊕ ((List Int)×Int)):=
 bif decide (x1.2.2<((x1.1.length:Nat):Int)) then
 ((cF x1.1 x1.2.2).bind λv2=>
 some (.inl ((x1.1.set x1.2.2.toNat x1.2.1),wr (x1.2.1+1),wr (x1.2.2+1))))
 else
 (some (.inr (x1.1,x1.2.1)))
def iJ (a0:(List Int)) (a1:Int):Option ((List Int)×Int):=
 (Lp pT (a0,a1,0)).bind λy3=>
 some (y3.1,y3.2)
theorem qB (a0:(List Int)) (a1:Int) (r:((List Int)×Int)) (h:iJ a0 a1=some r):HasE Tryz.prog 16 [.own 0 0 a0.length,.int a1] [(0,⟨1,a0.map (ow eI)⟩)] 1 (.int r.2) [(0,⟨1,r.1.map (ow eI)⟩)]:=by
 refine qP aI (rvs:=[.tmp 4]) (ns:=nmA.drop 1) Tryz.func16 k k Tryz.ntmps16 k k<|sR<|aT k2<|sQ<|sR<|aT k2<|aC<|oB h λy3 hy3 h=>bY (body:=pT) hy3 (λ(x1:((List Int)×Int×Int))=>mN [(0,.own 0 0 x1.1.length),(1,.int x1.2.1),(5,.int x1.2.2)] [(0,⟨1,x1.1.map (ow eI)⟩)] 1 1) (λr e t=>e= .exit 0∧Ent t (mN [(1,.int r.2)] [(0,⟨1,r.1.map (ow eI)⟩)] 1 1)) (bJ (bG k2) (bP k<|aS) k4) ?_ ?_
 ·intro x1 o h;exact sQ<|sR<|am k k<|am k k<|ae (cB aI k k k k) k<|cm k4<|an<|tn<|dB k h (λ_ h=>aD<|tn<|sQ<|aC<|sR<|am k k<|am k k<|am k k<|oB h λv2 hv2 h=>ae (xo hv2 k) k<|ae (eH aI jI (u:=x1.2.1) (dC hv2) k k k k k k) k<|an<|tn<|rg<|am k k<|ae (bC k k) k<|aa k k<|an<|aZ<|tn<|rg<|am k k<|ae (bC k k) k<|aT k2<|sp h ⟨_,k,(bJ (iG ⟨_,k,⟨k,k,(by simp only [aM,lA,lT,lR,lC,lN]),k⟩⟩ (bG k2)) (bP k<|aS) k4)⟩) λ_ h=>aY<|aA<|aA<|sp h ⟨_,k,k,(bJ (bG k2) (bP k<|aS) k4)⟩
 ·rintro e t ⟨rfl,hent⟩;exact aJ<|tn<|aN hent<|sR<|am k k<|aT k2<|aE<|sp h ⟨mN [(4,.int y3.2)] [(0,⟨1,y3.1.map (ow eI)⟩)] 1 1,(bJ (bG k2) (bP k<|aS) k4),k,⟨_,k,.inl k⟩,⟨k,aS⟩⟩
def qZ (a0:Qv) (a1:Int):Option ((List Int)×(List Int)×Int):=
 (iJ a0.src a1).bind λv1=>
 bif decide (v1.1.length=a0.src.length) then
 ((iJ a0.tgt v1.2).bind λv3=>
 bif decide (v3.1.length=a0.tgt.length) then
 (some (v1.1,v3.1,v3.2))
 else none)
 else none
theorem aEm (a0:Qv) (a1:Int) (r:((List Int)×(List Int)×Int)) (h:qZ a0 a1=some r):HasE Tryz.prog 15 [.agg [.int a0.n,.own 0 0 a0.src.length,.own 1 0 a0.tgt.length],.int a1] [(0,⟨1,a0.src.map (ow eI)⟩),(1,⟨1,a0.tgt.map (ow eI)⟩)] 2 (.int r.2.2) [(0,⟨1,r.1.map (ow eI)⟩),(1,⟨1,r.2.1.map (ow eI)⟩)]:=by
 refine qP aI (rvs:=[.tmp 4]) (ns:=nmA.drop 2) Tryz.func15 k k Tryz.ntmps15 k k<|sR<|ae (wb k) k<|aT k2<|sR<|fp k8<|lp k8<|am k k<|oB h λv1 hv1 h=>ae (kG (σ:=sg [(0,0)]) (σ':=sg [(0,0)]) (touch:=[0]) (news:=[]) (hl2:=[(0,⟨1,v1.1.map (ow eI)⟩)]) (n':=3) (r2:= .int v1.2) (qB a0.src a1 v1 hv1) k k ⟨_,_,k,⟨k,k,k,k⟩,⟨_,_,k,k,k⟩⟩ ⟨⟨_,k,k,.inl ⟨k,cU.plainO _⟩⟩,k,aS⟩ k k k ⟨⟨_,k,k,.inl ⟨k,cU.plainO _⟩⟩,k,aS⟩ k k k ⟨k,cU.tame _ _,aS⟩ k k) k<|cG h λq2 h=>aT k2<|sR<|fp k8<|lp k8<|am k k<|oB h λv3 hv3 h=>ae (kG (σ:=sg [(0,1)]) (σ':=sg [(1,0)]) (touch:=[1]) (news:=[]) (hl2:=[(1,⟨1,v3.1.map (ow eI)⟩)]) (n':=3) (r2:= .int v3.2) (qB a0.tgt v1.2 v3 hv3) k k ⟨_,_,k,⟨k,k,k,k⟩,⟨_,_,k,k,k⟩⟩ ⟨⟨_,k,k,.inl ⟨k,cU.plainO _⟩⟩,k,aS⟩ k k k ⟨⟨_,k,k,.inl ⟨k,cU.plainO _⟩⟩,k,aS⟩ k k k ⟨k,cU.tame _ _,aS⟩ k k) k<|cG h λq4 h=>aT k2<|sR<|am k k<|aa k k<|an ?_;exact tn<|aE<|sp h ⟨mN [(4,.int v3.2)] [(0,⟨1,v1.1.map (ow eI)⟩),(1,⟨1,v3.1.map (ow eI)⟩)] 2 2,(bJ (bG k2) (bP k<|bP k<|aS) k4),k,⟨_,k,.inl k⟩,⟨k,k,aS⟩⟩
def mF (x1:((List Mt)×Int×Int)):Option (((List Mt)×Int×Int) ⊕ ((List Mt)×Int)):=
 bif decide (x1.2.2<((x1.1.length:Nat):Int)) then
 ((cF x1.1 x1.2.2).bind λv2=>
 (iJ v2.cells (wr ((wr (x1.2.1+1))+1))).bind λv3=>
 bif decide (v3.1.length=v2.cells.length) then
 (some (.inl ((x1.1.set x1.2.2.toNat (⟨x1.2.1,wr (x1.2.1+1),v3.1⟩:Mt)),v3.2,wr (x1.2.2+1))))
 else none)
 else
 (some (.inr (x1.1,x1.2.1)))
def pU (a0:(List Mt)) (a1:Int):Option ((List Mt)×Int):=
 (Lp mF (a0,a1,0)).bind λy5=>
 some (y5.1,y5.2)
theorem aDp (a0:(List Mt)) (a1:Int) (r:((List Mt)×Int)) (h:pU a0 a1=some r):HasT Tryz.prog 41 [.own 0 0 a0.length,.int a1] [(0,⟨3,a0.map (ow eM)⟩)] 1 (.int r.2) [(0,⟨3,r.1.map (ow eM)⟩)]:=by
 refine aOI aI (rvs:=[.tmp 4]) (ns:=nmA.drop 1) Tryz.func41 k k Tryz.ntmps41 k k<|sS<|gU k2<|sn<|tn<|sQ<|sS<|gU k2<|sn<|tn<|aC<|oB h λy5 hy5 h=>bY (body:=mF) hy5 (λ(x1:((List Mt)×Int×Int))=>mN [(0,.own 0 0 x1.1.length),(1,.int x1.2.1),(5,.int x1.2.2)] [(0,⟨3,x1.1.map (ow eM)⟩)] 1 ⟨1,true,none,true⟩) (λr e t=>e= .exit 0∧Ent t (mN [(1,.int r.2)] [(0,⟨3,r.1.map (ow eM)⟩)] 1 ⟨1,true,none,true⟩)) (bJ (bG k2) (bX (dA.plainO _) k<|aS) k4) ?_ ?_
 ·intro x1 o h;refine sQ<|sS<|eD k2<|eD k2<|se (cB aI k k k k) k<|cmS k4<|sn<|tn<|dB k h (λ_ h=>?_) λ_ h=>aY<|aA<|aA<|sp h ⟨_,k,k,(bJ (bG k2) (bX (dA.plainO _) k<|aS) k4)⟩;refine aD<|tn<|sQ<|aC<|sS<|eD k2<|eD k2<|eD k2<|oB h λv2 hv2 h=>gO (t:=mN [(0,.own 0 0 x1.1.length),(1,.int x1.2.1),(5,.int x1.2.2),(6,.int x1.2.2),(7,.own 0 0 x1.1.length),(8,.int ((x1.1.length:Nat):Int)),(9,.bl (decide (x1.2.2<((x1.1.length:Nat):Int)))),(12,.own 0 0 x1.1.length),(13,.int x1.2.2),(14,.int x1.2.1)] [(0,⟨3,(x1.1.map (ow eM)).set x1.2.2.toNat [.int v2.rows,.int v2.cols,.abs 1 (v2.cells.map eI)]⟩)] 1 ⟨1,true,none,true⟩) (bJ (bG k2) (hX ⟨_,k,k,.inl ⟨aAy (dC hv2),yS dA k⟩⟩ k<|aS) k4)<|gO (yT (b:=0) (c:=1) (i:=x1.2.2.toNat) (j:=2) (n:=v2.cells.length) (A:=x1.1.map (ow eM)) (fs:=v2.cells.map (ow eI)) (by rw [dY];exact iP hv2) k k k k (aM _ _) (lY _ _) (aBd ⟨k,k,k,k,k,k,k,k,k,k,aS⟩) (aBe (skip:=[]) ⟨.inr (dA.dfS _ _ _ k),aS⟩))<|gO (t:=mN [(0,.own 0 0 x1.1.length),(1,.int x1.2.1),(5,.int x1.2.2),(6,.int x1.2.2),(7,.own 0 0 x1.1.length),(8,.int ((x1.1.length:Nat):Int)),(9,.bl (decide (x1.2.2<((x1.1.length:Nat):Int)))),(12,.own 0 0 x1.1.length),(13,.int x1.2.2),(14,.int x1.2.1)] [(0,⟨3,(x1.1.map (ow eM)).set x1.2.2.toNat [.int v2.rows,.int v2.cols,.own 1 0 v2.cells.length]⟩),(1,⟨1,v2.cells.map (ow eI)⟩)] 2 ⟨1,true,none,true⟩) (gH (σ:=sg [(0,0),(1,1)]) (bG k2) (hX ⟨_,k,k,.inr (aBc (σ:=sg [(0,0),(1,1)]) (m:=2) (e:=eM) (l:=x1.1) (i:=x1.2.2.toNat) (c:=[.int v2.rows,.int v2.cols,.own 1 0 v2.cells.length]) (d:=[.int v2.rows,.int v2.cols,.own 1 0 v2.cells.length]) dA ⟨_,_,k,k,⟨_,_,k,k,⟨_,_,k,⟨k,k,k,k⟩,k⟩⟩⟩)⟩ k<|bP k<|aS) k)<|se (xo hv2 k) k<|fpS k8<|se (aLl aI (A:=x1.1.map (ow eM)) (by rw [dY];exact iP hv2) k k k k k k k) k<|sn<|tn<|sS<|eD k2<|se (bC k k) k<|gU k2<|sn<|tn<|sS<|eD k2<|eD k2<|eD k2 ?_;exact se (xo hv2 k) k<|fpS k8<|se (aLl aI (A:=x1.1.map (ow eM)) (by rw [dY];exact iP hv2) k k k k k k k) k<|sn<|tn<|sS<|eD k2<|se (bC k k) k<|gU k2<|sn<|tn<|rgS<|eD k2<|eD k2<|se (xo hv2 k) k<|fpS k8<|se (dQ aI k k k k (aDc (iP hv2)) k k) k<|eD k2<|oB h λv3 hv3 h=>se (kG (σ:=sg [(0,1)]) (σ':=sg [(1,0)]) (touch:=[1]) (news:=[]) (hl2:=[(1,⟨1,v3.1.map (ow eI)⟩)]) (n':=2) (r2:= .int v3.2) (qB v2.cells (wr ((wr (x1.2.1+1))+1)) v3 hv3) k k ⟨_,_,k,⟨k,k,k,k⟩,⟨_,_,k,k,k⟩⟩ ⟨⟨_,k,k,.inl ⟨k,cU.plainO _⟩⟩,k,aS⟩ k k k ⟨⟨_,k,k,.inl ⟨k,cU.plainO _⟩⟩,k,aS⟩ k k k ⟨k,cU.tame _ _,aS⟩ k k) k<|cG h λq4 h=>gU k2<|sn<|aZ<|tn<|rgS<|eD k2<|se (bC k k) k<|gU k2<|sn<|tn<|sp h ⟨_,k,(Ent.trans (show Ent _ (mN [(0,.own 0 0 ((x1.1.set x1.2.2.toNat (⟨x1.2.1,wr (x1.2.1+1),v3.1⟩:Mt)).length)),(1,.int v3.2),(5,.int (wr (x1.2.2+1)))] [(0,⟨3,List.map (ow eM) (x1.1.set x1.2.2.toNat (⟨x1.2.1,wr (x1.2.1+1),v3.1⟩:Mt))⟩)] 2 ⟨1,true,none,true⟩) from (Ent.trans (wZ (b:=0) (b':=1) (j:=2) (es':=v3.1.map eI) (by rw [dY];exact iP hv2) k k k k (by simp only [aM,lA,lT,lR,lC,lN,of_decide_eq_true q4]) (cU.frzs _)) (bJ (iG ⟨_,k,⟨k,k,(by simp only [aM,lA,lT,lR,lC,lN,of_decide_eq_true q4]),k⟩⟩ (bG k2)) (hX ⟨_,k,k,.inl ⟨aCP (⟨x1.2.1,wr (x1.2.1+1),v3.1⟩:Mt) k,dA.plainO _⟩⟩ k<|aS) k4))) (bJ (bG k2) (bX (dA.plainO _) k<|aS) k4))⟩
 ·rintro e t ⟨rfl,hent⟩;exact aJ<|tn<|aN hent<|sS<|eD k2<|gU k2<|sn<|tn<|aE<|sp h ⟨mN [(4,.int y5.2)] [(0,⟨3,y5.1.map (ow eM)⟩)] 1 ⟨1,true,none,true⟩,(bJ (bG k2) (bX (dA.plainO _) k<|aS) k4),k,⟨_,k,.inl k⟩,⟨k,aS⟩⟩
def vL (a0:Rp) (a1:Int):Option ((List Int)×(List Int)×(List Int)×(List Mt)×Int):=
 (qZ a0.q a1).bind λv1=>
 bif decide (v1.1.length=a0.q.src.length) then
 (bif decide (v1.2.1.length=a0.q.tgt.length) then
 ((iJ a0.dims v1.2.2).bind λv4=>
 bif decide (v4.1.length=a0.dims.length) then
 ((pU a0.maps v4.2).bind λv6=>
 bif decide (v6.1.length=a0.maps.length) then
 (some (v1.1,v1.2.1,v4.1,v6.1,v6.2))
 else none)
 else none)
 else none)
 else none
theorem aIQ (a0:Rp) (a1:Int) (r:((List Int)×(List Int)×(List Int)×(List Mt)×Int)) (h:vL a0 a1=some r):HasT Tryz.prog 17 [.agg [.int a0.p,.int a0.q.n,.own 0 0 a0.q.src.length,.own 1 0 a0.q.tgt.length,.own 2 0 a0.dims.length,.own 3 0 a0.maps.length],.int a1] [(0,⟨1,a0.q.src.map (ow eI)⟩),(1,⟨1,a0.q.tgt.map (ow eI)⟩),(2,⟨1,a0.dims.map (ow eI)⟩),(3,⟨3,a0.maps.map (ow eM)⟩)] 4 (.int r.2.2.2.2) [(0,⟨1,r.1.map (ow eI)⟩),(1,⟨1,r.2.1.map (ow eI)⟩),(2,⟨1,r.2.2.1.map (ow eI)⟩),(3,⟨3,r.2.2.2.1.map (ow eM)⟩)]:=by
 refine aOI aI (rvs:=[.tmp 4]) (ns:=nmA.drop 4) Tryz.func17 k k Tryz.ntmps17 k k<|sS<|se (wb k) k<|gU k2<|sn<|tn<|sS<|fpS k8<|lpS k8<|eD k2<|oB h λv1 hv1 h=>se (kG (σ:=sg [(0,0),(1,1)]) (σ':=sg [(0,0),(1,1)]) (touch:=[0,1]) (news:=[]) (hl2:=[(0,⟨1,v1.1.map (ow eI)⟩),(1,⟨1,v1.2.1.map (ow eI)⟩)]) (n':=5) (r2:= .int v1.2.2) (aEm a0.q a1 v1 hv1) k k ⟨_,_,k,⟨_,_,k,k,⟨_,_,k,⟨k,k,k,k⟩,⟨_,_,k,⟨k,k,k,k⟩,k⟩⟩⟩,⟨_,_,k,k,k⟩⟩ ⟨⟨_,k,k,.inl ⟨k,cU.plainO _⟩⟩,k,⟨_,k,k,.inl ⟨k,cU.plainO _⟩⟩,k,aS⟩ k k k ⟨⟨_,k,k,.inl ⟨k,cU.plainO _⟩⟩,k,⟨_,k,k,.inl ⟨k,cU.plainO _⟩⟩,k,aS⟩ k k k ⟨k,cU.tame _ _,⟨k,cU.tame _ _,aS⟩⟩ k k) k<|cG h λq2 h=>cG h λq3 h=>gU k2<|sn<|tn<|sS<|fpS k8<|lpS k8<|eD k2<|oB h λv4 hv4 h=>se (kG (σ:=sg [(0,2)]) (σ':=sg [(2,0)]) (touch:=[2]) (news:=[]) (hl2:=[(2,⟨1,v4.1.map (ow eI)⟩)]) (n':=5) (r2:= .int v4.2) (qB a0.dims v1.2.2 v4 hv4) k k ⟨_,_,k,⟨k,k,k,k⟩,⟨_,_,k,k,k⟩⟩ ⟨⟨_,k,k,.inl ⟨k,cU.plainO _⟩⟩,k,aS⟩ k k k ⟨⟨_,k,k,.inl ⟨k,cU.plainO _⟩⟩,k,aS⟩ k k k ⟨k,cU.tame _ _,aS⟩ k k) k<|cG h λq5 h=>gU k2<|sn<|tn<|sS<|fpS k8<|lpS k8<|eD k2 ?_;exact oB h λv6 hv6 h=>gO (t:=mN [(0,.agg (oRp a0 0 1 2 3)),(1,.int v4.2),(2,.ptr 4 0 0),(4,.int 0),(5,.ptr 4 0 1),(6,.agg (oQv a0.q 0 1)),(7,.int a1),(8,.int v1.2.2),(9,.ptr 4 0 4),(10,.own 2 0 a0.dims.length),(11,.int v1.2.2),(12,.int v4.2),(13,.ptr 4 0 5),(14,.own 3 0 a0.maps.length),(15,.int v4.2)] [(0,⟨1,v1.1.map (ow eI)⟩),(1,⟨1,v1.2.1.map (ow eI)⟩),(2,⟨1,v4.1.map (ow eI)⟩),(3,⟨3,a0.maps.map (ow eM)⟩),(4,⟨6,[oRp a0 0 1 2 3]⟩)] 5 ⟨4,true,none,true⟩) (bJ (bG k2) (bP k<|bP k<|bP k<|bX (dA.plainO _) k<|fW k<|aS) k4)<|aQc (σ:=sg [(0,3)]) (σ':=sg [(3,0)]) (touch:=[3]) (news:=[]) (hl2:=[(3,⟨3,v6.1.map (ow eM)⟩)]) (n':=5) (r2:= .int v6.2) (aDp a0.maps v4.2 v6 hv6) k k ⟨_,_,k,⟨k,k,k,k⟩,⟨_,_,k,k,k⟩⟩ ⟨⟨_,k,k,.inl ⟨k,dA.plainO _⟩⟩,k,aS⟩ k k k ⟨⟨_,k,k,.inl ⟨k,dA.plainO _⟩⟩,k,aS⟩ k k k ⟨k,dA.tame _ _,aS⟩ k k k k k (aBd ⟨k,k,k,k,k,k,k,k,k,k,k,k,k,k,k,aS⟩) (aBe (skip:=[3]) ⟨.inr (cU.df _ _),.inr (cU.df _ _),.inr (cU.df _ _),.inl (by decide),.inr (yZ k),aS⟩)<|cG h λq7 h=>gU k2<|sn<|tn<|sS<|eD k2<|gU k2<|sn<|tn<|aE<|sp h ⟨mN [(4,.int v6.2)] [(0,⟨1,v1.1.map (ow eI)⟩),(1,⟨1,v1.2.1.map (ow eI)⟩),(2,⟨1,v4.1.map (ow eI)⟩),(3,⟨3,v6.1.map (ow eM)⟩)] 4 ⟨4,true,none,true⟩,(bJ (bG k2) (bP k<|bP k<|bP k<|bX (dA.plainO _) k<|aS) k4),k,⟨_,k,.inl k⟩,⟨k,k,k,k,aS⟩⟩
def pV (a0:(List Int)) (x1:(Int×Int)):Option ((Int×Int) ⊕ (Int ⊕ Int)):=
 bif decide (x1.2<(a0.length:Int)) then
 ((cF a0 x1.2).bind λv2=>
 bif !decide (v2=x1.1) then
 (some (.inr (.inr ((-1)))))
 else
 (some (.inl (wr (x1.1+1),wr (x1.2+1)))))
 else
 (some (.inr (.inl x1.1)))
def qC (a0:(List Int)) (a1:Int):Option Int:=
 (Lp (pV a0) (a1,0)).bind λy4=>
 Sum.elim (λy5=>
 some (y5)
 )
 (λy6=>
 some y6
 )
 y4
theorem aBw (a0:(List Int)) (a1:Int) (r:Int) (h:qC a0 a1=some r):HasC Tryz.prog 23 [.list 1 (a0.map eI),.int a1] (.int r):=by
 refine hM [.tmp 4] Tryz.func23 Tryz.ntmps23 k<|sR<|aT k2<|sQ<|sR<|aT k2<|aC<|oB h λy4 hy4 h=>bY (body:=(pV a0)) hy4 (λ(x1:(Int×Int))=>mN [(0,.list 1 (a0.map eI)),(1,.int x1.1),(5,.int x1.2)] [] 0) (λr e t=>Sum.elim (λa=>(λr e t=>e= .exit 0∧Ent t (mN [(1,.int r)] [] 0)) a e t) (λb=>(λr e t=>e= .ret∧sO TT [.tmp 4] (.int r) .ret t) b e t) r) (bJ (bG k2) aS k4) ?_ ?_
 ·intro x1 o h;exact sQ<|sR<|am k k<|am k k<|ln k4<|cm k4<|an<|tn<|dB k h (λ_ h=>aD<|tn<|sQ<|aC<|sQ<|sR<|am k k<|am k k<|oB h λv2 hv2 h=>ae (xl hv2 k) k<|lr k7<|am k k<|cm k4<|an<|tn<|dB k h (λ_ h=>sR<|aT k2<|aE<|aG<|bN<|aG<|aG<|sp h ⟨_,k,k,bO k k k (aCE k)⟩) λ_ h=>aD<|tn<|rg<|am k k<|ae (bC k k) k<|aa k k<|an<|aZ<|tn<|rg<|am k k<|ae (bC k k) k<|aT k2<|sp h ⟨_,k,(bJ (bG k2) aS k4)⟩) λ_ h=>aY<|aA<|aA<|sp h ⟨_,k,k,(bJ (bG k2) aS k4)⟩
 ·intro e t hX;rcases y4 with y5|y6
  ·obtain ⟨rfl,hent⟩:=hX;exact aJ<|tn<|aN hent<|sR<|am k k<|aT k2<|aE<|vM h k2
  ·obtain ⟨rfl,hent⟩:=hX;exact bN<|aG<|sp h hent
end
noncomputable section
def nvS {α:Type} (nv:α→Nat):List α→Nat
 | []=>0
 |x::l=>nv x+nvS nv l
def mvS {α:Type} (mv:Int→α→α) (nv:α→Nat):Int→List α→List α
 |_,[]=>[]
 |k,x::l=>mv k x::mvS mv nv (k+nv x) l
section
variable {α:Type} {mv:Int→α→α} {nv:α→Nat}
theorem yQ: ∀ (l:List α) (k:Int),(mvS mv nv k l).length=l.length
 | [],_=>rfl
 |x::l,k=>by simp [mvS,yQ l]
theorem aKy: ∀ (l m:List α),nvS nv (l++m)=nvS nv l+nvS nv m
 | [],m=>by simp [nvS]
 |x::l,m=>by simp [nvS,aKy l m];omega
theorem aKz: ∀ (l m:List α) (k:Int),mvS mv nv k (l++m)=mvS mv nv k l++mvS mv nv (k+nvS nv l) m
 | [],m,k=>by simp [mvS,nvS]
 |x::l,m,k=>by
  simp only [List.cons_append,mvS,nvS,aKz l m];rw [show k+((nv x+nvS nv l:Nat):Int)=k+(nv x:Int)+(nvS nv l:Int) by omega]
theorem aEn {l:List α} {i:Nat} (hi:i<l.length):nvS nv (l.take (i+1))=nvS nv (l.take i)+nv l[i]:=by
 rw [aAh hi,aKy];simp [nvS]
theorem aFz (l:List α) (i:Nat):nvS nv (l.take i)≤nvS nv l:=by
 have h:nvS nv (l.take i++l.drop i)=nvS nv l:=by rw [List.take_append_drop]
 rw [aKy] at h;omega
theorem aRg {c:Nat} : ∀ {l:List α},(∀ x∈l,nv x≤c)→nvS nv l≤c*l.length
 | [],_=>by simp [nvS]
 |x::l,h=>by
  have h1:=h x (by simp);have h2:=aRg (l:=l) λy hy=>h y (by simp [hy]);simp only [nvS,List.length_cons,Nat.mul_add,Nat.mul_one];omega
theorem aSt {l:List α} {k:Int} {i:Nat} (hi:i<l.length):(mvS mv nv k l)[i]? =some (mv (k+nvS nv (l.take i)) l[i]):=by
 have e:l=l.take i++l[i]::l.drop (i+1):=by rw [←List.drop_eq_getElem_cons hi,List.take_append_drop]
 have e2:mvS mv nv k l=mvS mv nv k (l.take i)++mvS mv nv (k+nvS nv (l.take i)) (l[i]::l.drop (i+1)):=by rw [←aKz,←e]
 rw [e2,List.getElem?_append_right (by rw [yQ];simp;omega),yQ];simp [mvS,Nat.min_eq_left (Nat.le_of_lt hi)]
theorem aJs {l:List α} {k0:Int} {body:List α×Int×Int→Option ((List α×Int×Int) ⊕ (List α×Int))} (h0:0≤k0) (hk:k0+nvS nv l≤4611686018427387904) (hl:l.length≤4611686018427387904)
  (hs: ∀ (r:List α) (i:Nat) (k:Int) (hi:i<r.length),r[i]∈l→0≤k→k+nv r[i]≤4611686018427387904→body (r,k,i)=some (.inl (r.set i (mv k r[i]),k+nv r[i],wr (i+1)))) (he: ∀ r k,body (r,k,(r.length:Int))=some (.inr (r,k))):
  Lp body (l,k0,0)=some (mvS mv nv k0 l,k0+nvS nv l):=by
 rw [dK (r:=(mvS mv nv k0 l,k0+nvS nv l)) (λi=>(mvS mv nv k0 (l.take i)++l.drop i,k0+nvS nv (l.take i),(i:Int))) l.length (by simp [mvS,nvS]) (λi hi=>?_) (λ_=>?_)]
 ·have hm:(mvS mv nv k0 (l.take i)).length=i:=by rw [yQ];simp;omega
  have hg:(mvS mv nv k0 (l.take i)++l.drop i)[i]'(by simp [yQ];omega)=l[i]:=by
   rw [List.getElem_append_right (by omega)];simp [hm]
  have hb:=aFz (nv:=nv) l (i+1);rw [aEn hi] at hb;rw [hs _ i _ (by simp [yQ];omega) (by rw [hg];exact List.getElem_mem hi) (by omega) (by rw [hg];omega),hg,bS hi hl];congr 2;refine Prod.ext ?_ (Prod.ext ?_ rfl)
  ·simp only;rw [List.set_append_right _ _ (by omega),hm,Nat.sub_self,List.drop_eq_getElem_cons hi,List.set_cons_zero,aAh hi,aKz];simp [mvS]
  ·simp only;rw [aEn hi];omega
 ·have:=he (mvS mv nv k0 (l.take l.length)++l.drop l.length) (k0+nvS nv (l.take l.length));simp only [List.take_length,List.drop_length,List.append_nil,yQ] at this ⊢;exact this
theorem aPt {l:List α} {k0:Int} {body:Int×Int→Option ((Int×Int) ⊕ (Int ⊕ Int))} (h0:0≤k0) (hk:k0+nvS nv l≤4611686018427387904) (hl:l.length≤4611686018427387904)
  (hs: ∀ (i:Nat) (hi:i<l.length) (k:Int),k=k0+nvS nv (l.take i)→0≤k→k+nv l[i]≤4611686018427387904→body (k,i)=some (.inl (k+nv l[i],wr (i+1)))) (he: ∀ k,body (k,(l.length:Int))=some (.inr (.inl k))):
  Lp body (k0,0)=some (.inl (k0+nvS nv l)):=by
 rw [dK (r:=Sum.inl (k0+nvS nv l)) (λi=>(k0+nvS nv (l.take i),(i:Int))) l.length (by simp [nvS]) (λi hi=>?_) (λ_=>?_)]
 ·have hb:=aFz (nv:=nv) l (i+1);rw [aEn hi] at hb;rw [hs i hi _ rfl (by omega) (by omega),bS hi hl,aEn hi];congr 3;omega
 ·rw [he];simp
end
def nI (l:List Int):Nat:=nvS (λ_=>1) l
def mvI:Int→List Int→List Int:=mvS (λk _=>k) (λ_=>1)
theorem aCd: ∀ l:List Int,nI l=l.length
 | []=>rfl
 |x::l=>by have:=aCd l;simp only [nI] at this;simp only [nI,nvS,List.length_cons];omega
theorem wW (k:Int) (l:List Int):(mvI k l).length=l.length:=yQ l k
theorem aVu {k:Int} {n:Nat} (h:0≤k):decide (k+(n:Int)<0)=false:=dF (by omega)
theorem aRh {l:List Int} {k:Int} (h0:0≤k) (hk:k+nI l≤4611686018427387904):iJ l k=some (mvI k l,k+nI l):=by
 have hl:=aCd l;unfold iJ;rw [aJs (mv:=λk _=>k) (nv:=λ_=>1) h0 hk (by omega) (λr i k hi _ g0 g1=>?_) (λr k=>?_),aB]
 ·rfl
 ·unfold pT;simp only;rw [iH hi,aH,dG hi,aB,cS,cJ (x:=k+1) (by omega)];simp
 ·unfold pT;simp only;rw [jO (bK _),aX]
theorem aVv {l:List Int} {k:Int} (h0:0≤k) (hk:k+nI l≤4611686018427387904):qC (mvI k l) k=some (k+nI l):=by
 have hl:=aCd l;have hm:=wW k l;unfold qC;rw [aPt (l:=l) (nv:=λ_=>1) h0 hk (by omega) (λi hi k' e g0 g1=>?_) (λk'=>?_),aB]
 ·rfl
 ·unfold pV;simp only;have hg:(mvI k l)[i]? =some k':=by unfold mvI;rw [aSt hi,e]
  rw [hm,iH hi,aH,dG (by omega),aB];have hg':(mvI k l)[i]'(by omega)=k':=by rw [gN (by omega)] at hg;exact Option.some.inj hg
  rw [hg',bF rfl,gG,aX,cJ (x:=k'+1) (by omega)];simp
 ·unfold pV;simp only;rw [hm,jO (bK _),aX]
def nQ (q:Qv):Nat:=nI q.src+nI q.tgt
def mvQ (k:Int) (q:Qv):Qv:=⟨q.n,mvI k q.src,mvI (k+nI q.src) q.tgt⟩
theorem aVw {q:Qv} {k:Int} (h0:0≤k) (hk:k+nQ q≤4611686018427387904):qZ q k=some ((mvQ k q).src,(mvQ k q).tgt,k+nQ q):=by
 unfold nQ at hk;unfold qZ;rw [aRh h0 (by omega),aB,wW,bF rfl,aH,aRh (by omega) (by omega),aB,wW,bF rfl,aH];unfold mvQ nQ;congr 3;omega
def nMe (m:Mt):Nat:=2+nI m.cells
def aUO (k:Int) (m:Mt):Mt:=⟨k,k+1,mvI (k+2) m.cells⟩
def nMs:List Mt→Nat:=nvS nMe
def aUP:Int→List Mt→List Mt:=mvS aUO nMe
theorem aMk (k:Int) (l:List Mt):(aUP k l).length=l.length:=yQ l k
theorem aVF {l:List Mt} {k:Int} (h0:0≤k) (hk:k+nMs l≤4611686018427387904) (hl:l.length≤4611686018427387904):pU l k=some (aUP k l,k+nMs l):=by
 unfold pU;rw [aJs (mv:=aUO) (nv:=nMe) h0 hk hl (λr i k hi hm g0 g1=>?_) (λr k=>?_),aB]
 ·rfl
 ·unfold nMe at g1;unfold mF;simp only;rw [iH hi,aH,dG hi,aB,cJ (x:=k+1) (by omega),cJ (x:=k+1+1) (by omega),show k+1+1=k+2 by omega,aRh (by omega) (by omega),aB,wW,bF rfl,aH,cS];unfold aUO nMe;congr 4;omega
 ·unfold mF;simp only;rw [jO (bK _),aX]
def nR (r:Rp):Nat:=nQ r.q+nI r.dims+nMs r.maps
def mvR (k:Int) (r:Rp):Rp:=⟨r.p,mvQ k r.q,mvI (k+nQ r.q) r.dims,aUP (k+nQ r.q+nI r.dims) r.maps⟩
theorem aVx {r:Rp} {k:Int} (h0:0≤k) (hk:k+nR r≤4611686018427387904) (hl:r.maps.length≤4611686018427387904):vL r k=some ((mvR k r).q.src,(mvR k r).q.tgt,(mvR k r).dims,(mvR k r).maps,k+nR r):=by
 unfold nR at hk;unfold vL;rw [aVw h0 (by omega),aB];simp only [mvQ,wW,decide_true,aH];rw [aRh (by omega) (by omega),aB];simp only [wW,decide_true,aH];rw [aVF (by omega) (by omega) hl,aB];simp only [aMk,decide_true,aH];unfold mvR nR;congr 5;omega
theorem aSv (k:Int) (r:Rp):(mvR k r).q.src.length=r.q.src.length∧(mvR k r).q.tgt.length=r.q.tgt.length∧(mvR k r).dims.length=r.dims.length∧(mvR k r).maps.length=r.maps.length:=⟨wW _ _,wW _ _,wW _ _,aMk _ _⟩
theorem aUQ {l:List Mt} (h:l.length≤1048576∧ ∀ m∈l,bM m):nMs l≤2097152*1048576:=by
 have:=aRg (nv:=nMe) (c:=2097152) (l:=l) λm hm=>by have:=(h.2 m hm).1;unfold bI at this;unfold nMe;rw [aCd];omega
 unfold nMs
 calc nvS nMe l≤2097152*l.length:=this
  _≤2097152*1048576:=Nat.mul_le_mul_left _ h.1
theorem aVG {r:Rp} (h:bR r):nR r≤4398046511104:=by
 obtain ⟨⟨h1,h2,_⟩,h3,h4,_⟩:=h;have:=aUQ h4;unfold bI at h1 h2 h3;unfold nR nQ;rw [aCd,aCd,aCd];omega
end
noncomputable section
theorem aSw (p:Int) {q:Qv} (hb:bQ q): ∃ L b,jD p q=some (L,b)∧jE p q=some (L,b)∧L.length≤20∧(∀ r∈L,bR r)∧(b=true→ ∃ R,dT q=some (R,true)∧L.length=R.length∧ ∀ (i:Nat) (h:i<L.length),R[i]? =some L[i].dims):=by
 obtain ⟨R,b,h1,h2,h3⟩:=aOk hb;unfold jD jE;rw [h1,h2];simp only [aB];rcases h3 with ⟨rfl,rfl⟩|⟨rfl,n,H,rfl⟩
 ·refine ⟨[],false,rfl,?_,by simp,by simp,λh=>by cases h⟩;rw [dH (r:= .inl []) rfl];rfl
 ·have hl:=rH H
  have hrow: ∀ x∈bH q n,bI x:=λx hx=>by
   have:=(H.vec ((kF H x).1 hx)).1.1;show x.length≤1048576;omega
  have key: ∀ (d i:Nat) (acc:List Rp),i+d=(bH q n).length→acc.length=i→(∀ r∈acc,bR r)→(∀ (j:Nat) (h:j<acc.length),(bH q n)[j]? =some acc[j].dims)→(i=0∨yX p=true)→
    ∃ (L:List Rp) (b:Bool),Lp (eK p q (bH q n,true)) (acc,(i:Int))=some (bif b then .inl L else .inr ([],false))∧Lp (eN p q (bH q n,true)) (acc,(i:Int))=some (bif b then .inl L else .inr ([],false))∧(b=true→L.length=(bH q n).length∧(∀ r∈L,bR r)∧((bH q n).length=0∨yX p=true)∧ ∀ (j:Nat) (h:j<L.length),(bH q n)[j]? =some L[j].dims):=by
   intro d;induction d with
   |zero=>
    intro i acc hi ha hr hd hF;refine ⟨acc,true,dH ?_,dH ?_,λ_=>⟨by omega,hr,?_,hd⟩⟩
    ·unfold eK;simp only;rw [jO (by omega),aX];rfl
    ·unfold eN;simp only;rw [jO (by omega),aX];rfl
    ·rcases hF with hF|hF
     ·exact .inl (by omega)
     ·exact .inr hF
   |succ d ih=>
    intro i acc hi ha hr hd hF;have hil:i<(bH q n).length:=by omega
    obtain ⟨r,b,e1,e2,e3⟩:=aPs p hb (hrow _ (List.getElem_mem hil))
    have b1:eK p q (bH q n,true) (acc,(i:Int))=some (bif b then .inl (acc++[r],((i+1:Nat):Int)) else .inr (.inr ([],false))):=by
     unfold eK;simp only;rw [iH hil,aH,dG hil,aB,e1,aB];cases b with
     |false=>rfl
     |true=>rw [gG,aX,bF (by omega),aH,bS hil (by omega)];rfl
    have b2:eN p q (bH q n,true) (acc,(i:Int))=some (bif b then .inl (acc++[r],((i+1:Nat):Int)) else .inr (.inr ([],false))):=by
     unfold eN;simp only;rw [iH hil,aH,aH,dG hil,aB,e2,aB];cases b with
     |false=>rfl
     |true=>rw [gG,aX,bF (by omega),aH,bS hil (by omega)];rfl
    rcases e3 with ⟨rfl,rfl⟩|⟨rfl,_,hbr,hF2,hdm⟩
    ·exact ⟨[],false,dH b1,dH b2,λh=>by cases h⟩
    ·obtain ⟨L,c,g1,g2,g3⟩:=ih (i+1) (acc++[r]) (by omega) (by simp;omega) (λy hy=>by
      rcases eG.1 hy with hy|hy
      ·exact hr y hy
      ·rcases List.mem_singleton.1 hy with rfl;exact hbr) (λj hj=>by
      rcases dR j acc.length with h'|h'
      ·rw [List.getElem_append_left h'];exact hd j h'
      ·have:j=i:=by simp at hj;omega
       subst this;rw [List.getElem_append_right h',gN hil]
       simp [hdm]) (.inr hF2)
     exact ⟨L,c,(iV b1).trans g1,(iV b2).trans g2,g3⟩
  obtain ⟨L,c,g1,g2,g3⟩:=key (bH q n).length 0 [] (Nat.zero_add _) rfl (λr hr=>by cases hr) (λj hj=>by cases hj) (.inl rfl);rw [show ((0:Nat):Int)=0 from rfl] at g1 g2;rw [g1,g2];simp only [aB,gG,aX,aH];cases c with
  |false=>exact ⟨[],false,rfl,rfl,by simp,by simp,λh=>by cases h⟩
  |true=>
   obtain ⟨k1,k2,k3,k4⟩:=g3 rfl
   have hne:(bH q n).length ≠0:=by
    have:=(kF H _).2 (aJq H (v:=0) H.Q.n1);intro h0;rw [List.length_eq_zero_iff.1 h0] at this;cases this
   have hF:yX p=true:=k3.resolve_left hne;refine ⟨L,true,rfl,?_,by omega,k2,λ_=>⟨bH q n,rfl,k1,k4⟩⟩;simp only [aH,Sum.elim_inl];rw [aEQ,hF];rfl
end
noncomputable section
set_option maxRecDepth 10000
set_option maxHeartbeats 4000000
def gI (a0:(List Int)) (x1:(Int×Int)):Option ((Int×Int) ⊕ Int):=
 bif decide (x1.2<(a0.length:Int)) then
 ((cF a0 x1.2).bind λv4=>
 some (.inl (min x1.1 v4,wr (x1.2+1))))
 else
 (some (.inr x1.1))
def mG (a0:(List Int)):Option Int:=
 bif decide ((a0.length:Int)<1) then
 (none)
 else
 ((cF a0 0).bind λv2=>
 (Lp (gI a0) (v2,1)).bind λy5=>
 some (y5))
theorem aBz (a0:(List Int)) (r:Int) (h:mG a0=some r):HasC Tryz.prog 146 [.list 1 (a0.map eI)] (.int r):=by
 refine hM [.tmp 2] Tryz.func146 Tryz.ntmps146 k<|sR<|aT k2<|sQ<|sR<|am k k<|ln k4<|cm k4<|an<|tn<|dB k h (λ_ h=>?_) λ_ h=>?_
 ·refine rg ?_;cases h
 ·refine aD<|tn<|sR<|am k k<|oB h λv2 hv2 h=>ae (xl hv2 k) k<|lr k7<|aT k2<|sQ<|sR<|aT k2<|aC<|oB h λy5 hy5 h=>bY (body:=(gI a0)) hy5 (λ(x1:(Int×Int))=>mN [(0,.list 1 (a0.map eI)),(3,.int x1.1),(4,.int x1.2)] [] 0) (λr e t=>e= .exit 0∧Ent t (mN [(3,.int r)] [] 0)) (bJ (bG k2) aS k4) ?_ ?_
  ·intro x1 o h;exact sQ<|sR<|am k k<|am k k<|ln k4<|cm k4<|an<|tn<|dB k h (λ_ h=>aD<|tn<|sQ<|aC<|rg<|am k k<|am k k<|am k k<|oB h λv4 hv4 h=>ae (xl hv4 k) k<|lr k7<|ae (aUb k k) k<|aa k k<|an<|aZ<|tn<|rg<|am k k<|ae (bC k k) k<|aT k2<|sp h ⟨_,k,(bJ (bG k2) aS k4)⟩) λ_ h=>aY<|aA<|aA<|sp h ⟨_,k,k,(bJ (bG k2) aS k4)⟩
  ·rintro e t ⟨rfl,hent⟩;exact aJ<|tn<|aN hent<|sR<|am k k<|aT k2<|aE<|vM h k2
def kK (v9:(List Int)) (x2:((List Int)×Int)):Option (((List Int)×Int) ⊕ (List Int)):=
 bif decide (x2.2<(v9.length:Int)) then
 ((cF v9 x2.2).bind λv11=>
 (cF x2.1 x2.2).bind λv12=>
 (cF x2.1 x2.2).bind λv13=>
 some (.inl ((x2.1.set x2.2.toNat (wr (v12 - v11))),wr (x2.2+1))))
 else
 (some (.inr x2.1))
def eP (self:((List (List Int))→Int→(List Int)→(List Int)→(List (List Int))→Option (List (List Int)))) (a0:(List (List Int))) (a2:(List Int)) (a3:(List Int)) (x1:((List (List Int))×Int)):Option (((List (List Int))×Int) ⊕ (List (List Int))):=
 bif decide (x1.2<(a0.length:Int)) then
 (bif decide (((x1.1.length:Nat):Int)<500) then
 ((iX a2).bind λv8=>
 (cF a0 x1.2).bind λv9=>
 (Lp (kK v9) (v8,0)).bind λy14=>
 (mG y14).bind λv15=>
 bif decide (0≤v15) then
 ((iX a3).bind λv17=>
 bif decide (v17.length+[x1.2].length ≤4294967296) then
 ((self a0 x1.2 y14 (v17++[x1.2]) x1.1).bind λv19=>
 some (.inl (v19,wr (x1.2+1))))
 else none)
 else
 (some (.inl (x1.1,wr (x1.2+1)))))
 else
 (some (.inr x1.1)))
 else
 (some (.inr x1.1))
def pW (self:(List (List Int))→Int→(List Int)→(List Int)→(List (List Int))→Option (List (List Int))) (a0:(List (List Int))) (a1:Int) (a2:(List Int)) (a3:(List Int)) (a4:(List (List Int))):Option (List (List Int)):=
 (pE a2).bind λv1=>
 bif decide (v1=0) then
 (bif decide (((a4.length:Nat):Int)<500) then
 ((iX a3).bind λv4=>
 bif decide (a4.length+1≤4294967296) then
 (some (a4++[v4]))
 else none)
 else
 (some a4))
 else
 ((Lp (eP self a0 a2 a3) (a4,a1)).bind λy20=>
 some y20)
def gA:Nat→(List (List Int))→Int→(List Int)→(List Int)→(List (List Int))→Option (List (List Int))
 |0,_,_,_,_,_=>none
 |n+1,a0,a1,a2,a3,a4=>pW (gA n) a0 a1 a2 a3 a4
theorem aDq (self:(List (List Int))→Int→(List Int)→(List Int)→(List (List Int))→Option (List (List Int))) (a0:(List (List Int))) (a1:Int) (a2:(List Int)) (a3:(List Int)) (a4:(List (List Int))) (ih: ∀ (a0:(List (List Int))) (a1:Int) (a2:(List Int)) (a3:(List Int)) (a4:(List (List Int))) (r:(List (List Int))),self a0 a1 a2 a3 a4=some r→HasE Tryz.prog 103 [.list 1 (a0.map (cA 1 eI)),.int a1,.list 1 (a2.map eI),.list 1 (a3.map eI),.ptr 0 0 0] [(0,⟨1,[[.own 1 0 a4.length]]⟩),(1,⟨1,a4.map (ow (cA 1 eI))⟩)] 2 (.tuple []) [(0,⟨1,[[.own 2 0 r.length]]⟩),(2,⟨1,r.map (ow (cA 1 eI))⟩)]) (r:(List (List Int))) (h:pW self a0 a1 a2 a3 a4=some r):HasE Tryz.prog 103 [.list 1 (a0.map (cA 1 eI)),.int a1,.list 1 (a2.map eI),.list 1 (a3.map eI),.ptr 0 0 0] [(0,⟨1,[[.own 1 0 a4.length]]⟩),(1,⟨1,a4.map (ow (cA 1 eI))⟩)] 2 (.tuple []) [(0,⟨1,[[.own 2 0 r.length]]⟩),(2,⟨1,r.map (ow (cA 1 eI))⟩)]:=by
 refine qP aI (rvs:=[]) (ns:=nmA.drop 2) Tryz.func103 k k Tryz.ntmps103 k k<|sQ<|sR<|am k k<|oB h λv1 hv1 h=>ae (aR (yE a2 v1 hv1) k (dI k aO)) k<|cm k4<|an<|tn<|dB k h (λ_ h=>?_) λ_ h=>?_
 ·exact sQ<|sR<|am k k<|ae (vC k k) k<|lp k8<|ae (cB aI k k k k) k<|cm k4<|an<|tn<|dB k h (λ_ h=>aP gK<|am k k<|am k k<|ae (vC k k) k<|lp k8<|am k k<|oB h λv4 hv4 h=>ae (cL cU (wL a3 v4 hv4) k3 (dI k aO)) k<|ae (wl k) k<|cG h λq5 h=>ae (lH aI (l:=a4) (c:=[.own 2 0 v4.length]) q5 k k k k k k k k k k k k k k) k<|ae (vC k k) k<|ae (ws k) k<|an<|rI (by kernel_rfl)<|tn<|aN (t:=mN [] [(0,⟨1,[[.own 4 0 ((a4++[v4]).length)]]⟩),(4,⟨1,List.map (ow (cA 1 eI)) (a4++[v4])⟩)] 5 2) (Ent.trans (eO (b:=4) (b':=2) (j:=0) (es':=v4.map eI) k k k k (aM _ _) (cU.frzs _)) (bJ aS (hX ⟨_,k,k,.inr ⟨_,_,k,⟨_,_,k,⟨k,k,(by simp only [aM,lA,lT,lR,lC,lN]),k⟩,k⟩,k⟩⟩ k<|hX ⟨_,k,k,.inl ⟨mJ v4 k,aV.plainO _⟩⟩ k<|aS) k4))<|aE<|aG<|sp h ⟨mN [] [(0,⟨1,[[.own 2 0 ((a4++[v4]).length)]]⟩),(2,⟨1,List.map (ow (cA 1 eI)) (a4++[v4])⟩)] 3 2,(pD [0,4] aS (fW k<|bX (aV.plainO _) k<|aS) k4),k,⟨_,k,.inr ⟨(by simp),k,k⟩⟩,⟨k,k,aS⟩⟩) λ_ h=>aD<|tn<|aE<|aG<|sp h ⟨mN [] [(0,⟨1,[[.own 2 0 a4.length]]⟩),(2,⟨1,a4.map (ow (cA 1 eI))⟩)] 3 2,(pD [0,1] aS (fW k<|bX (aV.plainO _) k<|aS) k4),k,⟨_,k,.inr ⟨(by simp),k,k⟩⟩,⟨k,k,aS⟩⟩
 ·refine aD<|tn<|sR<|am k k<|aT k2<|aC<|oB h λy20 hy20 h=>bY (body:=(eP self a0 a2 a3)) hy20 (λ(x1:((List (List Int))×Int))=>mN [(0,.list 1 (a0.map (cA 1 eI))),(2,.list 1 (a2.map eI)),(3,.list 1 (a3.map eI)),(4,.ptr 0 0 0),(10,.int x1.2)] [(0,⟨1,[[.own 2 0 x1.1.length]]⟩),(2,⟨1,x1.1.map (ow (cA 1 eI))⟩)] 3 2) (λr e t=>e= .exit 0∧Ent t (mN [] [(0,⟨1,[[.own 2 0 r.length]]⟩),(2,⟨1,r.map (ow (cA 1 eI))⟩)] 3 2)) (pD [0,1] (bG k2) (fW k<|bX (aV.plainO _) k<|aS) k4) ?_ ?_
  ·intro x1 o h;refine sQ<|sR<|am k k<|am k k<|ln k4<|cm k4<|am k k<|mX h (λq6 h=>?_) λq6 h=>aL 36 k q6<|aK k4<|aK k4<|ak k k<|pk k3<|an<|tn<|iN k k<|aY<|aA<|aA<|sp h ⟨_,k,k,(bJ aS (fW k<|bX (aV.plainO _) k<|aS) k4)⟩;refine aL 36 k q6<|am k k<|ae (vC k k) k<|lp k8<|ae (cB aI k k k k) k<|cm k4<|pk k3<|an<|tn<|dB k h (λ_ h=>?_) λ_ h=>aY<|aA<|aA<|sp h ⟨_,k,k,(bJ aS (fW k<|bX (aV.plainO _) k<|aS) k4)⟩;refine aD<|tn<|sQ<|aC<|sR<|am k k<|oB h λv8 hv8 h=>ae (cL cU (wL a2 v8 hv8) k3 (dI k aO)) k<|aT k2<|sQ<|sR<|am k k<|am k k<|oB h λv9 hv9 h=>ae (xl hv9 k) k<|lr k7<|ln k4<|am k k<|an<|tn<|aC<|oB h λy14 hy14 h=>bY (body:=(kK v9)) hy14 (λ(x2:((List Int)×Int))=>mN [(0,.list 1 (a0.map (cA 1 eI))),(2,.list 1 (a2.map eI)),(3,.list 1 (a3.map eI)),(4,.ptr 0 0 0),(10,.int x1.2),(11,.own 3 0 x2.1.length),(50,.list 1 (v9.map eI)),(51,.int (v9.length:Int)),(52,.int x2.2)] [(0,⟨1,[[.own 2 0 x1.1.length]]⟩),(2,⟨1,x1.1.map (ow (cA 1 eI))⟩),(3,⟨1,x2.1.map (ow eI)⟩)] 4 2) (λr e t=>e= .exit 2∧Ent t (mN [(0,.list 1 (a0.map (cA 1 eI))),(2,.list 1 (a2.map eI)),(3,.list 1 (a3.map eI)),(4,.ptr 0 0 0),(10,.int x1.2),(11,.own 3 0 r.length)] [(0,⟨1,[[.own 2 0 x1.1.length]]⟩),(2,⟨1,x1.1.map (ow (cA 1 eI))⟩),(3,⟨1,r.map (ow eI)⟩)] 4 2)) (bJ (bG k2) (fW k<|bX (aV.plainO _) k<|bP k<|aS) k4) ?_ ?_
   ·intro x2 o h;refine sR<|cm k4<|an<|tn<|sQ<|dB k h (λ_ h=>?_) λ_ h=>aY<|aA<|aA<|sp h ⟨_,k,k,(bJ (bG k2) (fW k<|bX (aV.plainO _) k<|bP k<|aS) k4)⟩;refine aD<|tn<|sQ<|aC<|sR<|am k k<|oB h λv11 hv11 h=>ae (xl hv11 k) k<|lr k7<|aa k k<|aT k2<|rg<|am k k<|am k k<|oB h λv12 hv12 h=>ae (xo hv12 k) k<|ae (wp hv12 k) k<|am k k<|ae (gV k k) k<|oB h λv13 hv13 h=>ae (xo hv13 k) k<|ae (eH aI jI (u:=wr (v12 - v11)) (dC hv13) k k k k k k) k<|an<|aZ<|tn<|rg<|ae (bC k k) k<|am k k<|an ?_;exact tn<|sp h ⟨_,k,(bJ (lB 5 k2 (iG ⟨_,k,⟨k,k,(by simp only [aM,lA,lT,lR,lC,lN]),k⟩⟩ (bG k2))) (fW k<|bX (aV.plainO _) k<|bP k<|aS) k4)⟩
   ·rintro e t ⟨rfl,hent⟩;exact aJ<|tn<|aN hent<|sR<|am k k<|oB h λv15 hv15 h=>ae (aR (aBz y14 v15 hv15) k (vcT k k aO)) k<|cm k4<|an<|tn<|dB k h (λ_ h=>rg<|am k k<|am k k<|am k k<|am k k<|oB h λv17 hv17 h=>ae (cL cU (wL a3 v17 hv17) k3 (dI k aO)) k<|am k k<|ae (wl k) k<|cG h λq18 h=>ae (sD aI (l:=v17) (m:=[x1.2]) jI q18 k k k k k k k k k k k k) k<|am k k<|oB h λv19 hv19 h=>ae (jM (σ:=sg [(0,0),(1,2)]) (σ':=sg [(0,0),(2,1),(7,2)]) (touch:=[0,2,3,6]) (news:=[7]) (hl2:=[(0,⟨1,[[.own 7 0 v19.length]]⟩),(7,⟨1,v19.map (ow (cA 1 eI))⟩)]) (n':=8) (r2:= .tuple []) (ih a0 x1.2 y14 (v17++[x1.2]) x1.1 v19 hv19) k k ⟨_,_,k,(.inl ⟨k,k⟩),⟨_,_,k,(.inl k),⟨_,_,k,(.inr ⟨(aGG cU k k),k,k⟩),⟨_,_,k,(.inr ⟨(aGG cU k k),k,k⟩),⟨_,_,k,(.inl ⟨k,k,k,k⟩),k⟩⟩⟩⟩⟩ ⟨⟨_,k,k,.inr ⟨_,_,k,⟨_,_,k,⟨k,k,(by simp only [aM,lA,lT,lR,lC,lN]),k⟩,k⟩,k⟩⟩,k,⟨_,k,k,.inl ⟨k,aV.plainO _⟩⟩,k,aS⟩ k k k ⟨⟨_,k,k,.inr ⟨_,_,k,⟨_,_,k,⟨k,k,(by simp only [aM,lA,lT,lR,lC,lN]),k⟩,k⟩,k⟩⟩,k,⟨_,k,k,.inl ⟨k,aV.plainO _⟩⟩,k,aS⟩ k (.inr ⟨_,_,k,k,k⟩) k ⟨k,aBH k,⟨k,aV.tamd _ _,aS⟩⟩ k k) k<|an<|aZ<|tn<|rg<|am k k<|ae (bC k k) k<|aT k2<|sp h ⟨_,k,(pD [0,7] (bG k2) (fW k<|bX (aV.plainO _) k<|aS) k4)⟩) λ_ h=>aD<|aZ<|tn<|rg<|am k k<|ae (bC k k) k<|aT k2<|sp h ⟨_,k,(bJ (bG k2) (fW k<|bX (aV.plainO _) k<|aS) k4)⟩
  ·rintro e t ⟨rfl,hent⟩;exact aJ<|sp h ⟨mN [] [(0,⟨1,[[.own 2 0 y20.length]]⟩),(2,⟨1,y20.map (ow (cA 1 eI))⟩)] 3 2,(Ent.trans hent (bJ aS (fW k<|bX (aV.plainO _) k<|aS) k4)),k,⟨_,k,.inr ⟨(by simp),k,k⟩⟩,⟨k,k,aS⟩⟩
theorem aBL: ∀ (n:Nat) (a0:(List (List Int))) (a1:Int) (a2:(List Int)) (a3:(List Int)) (a4:(List (List Int))) (r:(List (List Int))),gA n a0 a1 a2 a3 a4=some r→HasE Tryz.prog 103 [.list 1 (a0.map (cA 1 eI)),.int a1,.list 1 (a2.map eI),.list 1 (a3.map eI),.ptr 0 0 0] [(0,⟨1,[[.own 1 0 a4.length]]⟩),(1,⟨1,a4.map (ow (cA 1 eI))⟩)] 2 (.tuple []) [(0,⟨1,[[.own 2 0 r.length]]⟩),(2,⟨1,r.map (ow (cA 1 eI))⟩)]
 |0,a0,a1,a2,a3,a4,r,h=>by cases h
 |n+1,a0,a1,a2,a3,a4,r,h=>aDq (gA n) a0 a1 a2 a3 a4 (aBL n) r h
def iM (a0:Qv) (a1:(List Int)):Option ((List (List Int))×Bool):=
 (dT a0).bind λv1=>
 bif !v1.2 then
 (some (([],false)))
 else
 ((oG a0 a1).bind λv3=>
 bif !v3 then
 (some (([],false)))
 else
 ((iX a1).bind λv5=>
 (gA 40 v1.1 0 v5 [] []).bind λv6=>
 some ((v6,true))))
theorem zO (a0:Qv) (a1:(List Int)) (r:((List (List Int))×Bool)) (h:iM a0 a1=some r):HasC Tryz.prog 52 [.agg (eQ a0),.list 1 (a1.map eI)] (.tuple [.list 1 (r.1.map (cA 1 eI)),.bl r.2]):=by
 refine hM [.tmp 4,.tmp 5] Tryz.func52 Tryz.ntmps52 k<|sR<|ae (wb k) k<|aa k k<|aT k2<|sR<|lp k8<|oB h λv1 hv1 h=>ae (jM (σ:=sg []) (σ':=sg [(1,0)]) (touch:=[]) (news:=[1]) (hl2:=[(1,⟨1,v1.1.map (cA 1 eI)⟩)]) (n':=2) (r2:= .tuple [.own 1 0 v1.1.length,.bl v1.2]) (rE a0 v1 hv1) k k ⟨_,_,k,(.inl ⟨_,_,k,k,⟨_,_,k,⟨k,k⟩,⟨_,_,k,⟨k,k⟩,k⟩⟩⟩),k⟩ aS k k k ⟨⟨_,k,k,.inl ⟨k,aV.plainE _⟩⟩,k,aS⟩ k (.inr ⟨_,_,k,k,⟨_,_,k,⟨k,k,(by simp only [aM,lA,lT,lR,lC,lN]),k⟩,⟨_,_,k,k,k⟩⟩⟩) k ⟨k,aV.tamdE _ _,aS⟩ k k) k<|am k k<|ae (bW k k (by intro _ h;cases h)) k<|ae (bW k k (by intro _ h;cases h)) k<|aa k k<|aT k2<|sQ<|sR<|am k k<|ae (dZ k) k<|am k k<|mX h (λq2 h=>aL 16 k q2<|aK k4<|aK k4<|pk k3<|an<|tn<|dS k k<|sR<|aa k k<|aT k2<|aE<|aG<|sp h (bO k k k (cW k (bT (iQ (k)) (bT (k) eY))))) λq2 h=>?_;exact aL 16 k q2<|lp k8<|am k k<|oB h λv3 hv3 h=>ae (aR (zD a0 a1 v3 hv3) k (aW (kL k) (dI k aO))) k<|ae (dZ k) k<|pk k3<|an<|tn<|dB k h (λ_ h=>sR<|aa k k<|aT k2<|aE<|aG<|sp h (bO k k k (cW k (bT (iQ (k)) (bT (k) eY))))) λ_ h=>aD<|tn<|sR<|ae (cN aI k k) k<|an<|tn<|sR<|am k k<|am k k<|oB h λv5 hv5 h=>ae (cL cU (wL a1 v5 hv5) k3 (dI k aO)) k<|oB h λv6 hv6 h=>ae (jM (σ:=sg [(0,2)]) (σ':=sg [(2,0),(4,2)]) (touch:=[2,1,3]) (news:=[4]) (hl2:=[(2,⟨1,[[.own 4 0 v6.length]]⟩),(4,⟨1,v6.map (ow (cA 1 eI))⟩)]) (n':=5) (r2:= .tuple []) (aBL 40 v1.1 0 v5 [] [] v6 hv6) k k ⟨_,_,k,(.inr ⟨(aQS aV k k),k,k⟩),⟨_,_,k,(.inl k),⟨_,_,k,(.inr ⟨(aGG cU k k),k,k⟩),⟨_,_,k,(.inl k),⟨_,_,k,(.inl ⟨k,k,k,k⟩),k⟩⟩⟩⟩⟩ ⟨⟨_,k,k,.inr ⟨_,_,k,⟨_,_,k,⟨k,k,k,k⟩,k⟩,k⟩⟩,k,k,k,aS⟩ k k k ⟨⟨_,k,k,.inr ⟨_,_,k,⟨_,_,k,⟨k,k,(by simp only [aM,lA,lT,lR,lC,lN]),k⟩,k⟩,k⟩⟩,k,⟨_,k,k,.inl ⟨k,aV.plainO _⟩⟩,k,aS⟩ k (.inr ⟨_,_,k,k,k⟩) k ⟨k,aBH k,⟨k,aV.tamd _ _,aS⟩⟩ k k) k<|an<|tn<|sR<|lp k8<|aa k k<|aT k2<|aN (t:=mN [(4,.own 4 0 v6.length),(5,.bl true)] [(4,⟨1,v6.map (ow (cA 1 eI))⟩)] 5) (bJ (bG k2) (bX (aV.plainO _) k<|aS) k4)<|aE<|sp h (bO k k k (cW k (bT (iQ (fE aV k k)) (bT (k) eY))))
def dX (a0:Rp) (v4:((List Rp)×Bool)) (v13:Int) (x3:((List Int)×Int)):Option (((List Int)×Int) ⊕ (List Int)):=
 bif decide (x3.2<((v4.1.length:Nat):Int)) then
 ((cF v4.1 x3.2).bind λv17=>
 (cF x3.1 x3.2).bind λv18=>
 (cF v4.1 v13).bind λv19=>
 (vF a0.q v17.dims v19.dims).bind λv20=>
 (cF x3.1 x3.2).bind λv21=>
 some (.inl ((x3.1.set x3.2.toNat (wr (v18+v20))),wr (x3.2+1))))
 else
 (some (.inr x3.1))
def fP (a0:Rp) (v4:((List Rp)×Bool)) (v11:(List Int)) (x2:((List Int)×(List Int)×Int)):Option (((List Int)×(List Int)×Int) ⊕ ((List Int)×(List Int))):=
 bif decide (x2.2.2<(v11.length:Int)) then
 ((cF v11 x2.2.2).bind λv13=>
 (cF x2.1 v13).bind λv14=>
 (cF x2.1 v13).bind λv15=>
 (Lp (dX a0 v4 v13) (x2.2.1,0)).bind λy22=>
 some (.inl ((x2.1.set v13.toNat (wr (v14+1))),y22,wr (x2.2.2+1))))
 else
 (some (.inr (x2.1,x2.2.1)))
def fS (a0:Rp) (v4:((List Rp)×Bool)) (v5:((List (List Int))×Bool)) (v9:(List Int)) (x1:Int):Option (Int ⊕ (Unit ⊕ ((List Int)×Bool))):=
 bif decide (x1<((v5.1.length:Nat):Int)) then
 ((cF v5.1 x1).bind λv11=>
 bif (decide (0≤((v4.1.length:Nat):Int))&&decide (((v4.1.length:Nat):Int)≤1048576)) then
 (bif (decide (0≤((v4.1.length:Nat):Int))&&decide (((v4.1.length:Nat):Int)≤1048576)) then
 ((Lp (fP a0 v4 v11) ((List.replicate (((v4.1.length:Nat):Int).toNat) (0:Int)),(List.replicate (((v4.1.length:Nat):Int).toNat) (0:Int)),0)).bind λy23=>
 (fG y23.2 v9).bind λv24=>
 bif v24 then
 (some (.inr (.inr ((y23.1,true)))))
 else
 (some (.inl (wr (x1+1)))))
 else none)
 else none)
 else
 (some (.inr (.inl ())))
def gR (a0:Rp):Option ((List Int)×Bool):=
 (rM a0).bind λv1=>
 bif !v1 then
 (some (([],false)))
 else
 (bif decide (4<(a0.dims.length:Int)) then
 (some (([],false)))
 else
 ((jD a0.p a0.q).bind λv4=>
 (iM a0.q a0.dims).bind λv5=>
 bif !v4.2 then
 (some (([],false)))
 else
 (bif !v5.2 then
 (some (([],false)))
 else
 (bif decide (((v5.1.length:Nat):Int)=500) then
 (some (([],false)))
 else
 ((wR a0 v4.1).bind λv9=>
 (Lp (fS a0 v4 v5 v9) 0).bind λy28=>
 Sum.elim (λy29=>
 some (([],false))
 )
 (λy30=>
 some y30
 )
 y28)))))
theorem uL (a0:Rp) (r:((List Int)×Bool)) (h:gR a0=some r):HasC Tryz.prog 22 [.agg (eR a0)] (.tuple [.list 1 (r.1.map eI),.bl r.2]):=by
 refine hM [.tmp 2,.tmp 3] Tryz.func22 Tryz.ntmps22 k<|sR<|ae (wb k) k<|aa k k<|aT k2<|sQ<|sR<|lp k8<|oB h λv1 hv1 h=>ae (aR (aBg a0 v1 hv1) k (aW (kL k) aO)) k<|ae (dZ k) k<|am k k<|mX h (λq2 h=>aL 20 k q2<|aK k4<|aK k4<|pk k3<|an<|tn<|dS k k<|sR<|aa k k<|aT k2<|aE<|aG<|sp h (bO k k k (cW k (bT (iQ (k)) (bT (k) eY))))) λq2 h=>?_;refine aL 20 k q2<|fp k8<|lp k8<|ln k4<|cm k4<|pk k3<|an<|tn<|dB k h (λ_ h=>sR<|aa k k<|aT k2<|aE<|aG<|sp h (bO k k k (cW k (bT (iQ (k)) (bT (k) eY))))) λ_ h=>?_;refine aD<|tn<|sR<|fp k8<|lp k8<|fp k8<|lp k8<|oB h λv4 hv4 h=>ae (cT mI (aAd a0.p a0.q v4 hv4) k3 (dI k (aW (kL k) aO))) k<|am k k<|ae (bW k k (by intro _ h;cases h)) k<|ae (bW k k (by intro _ h;cases h)) k<|aa k k<|aT k2<|sR<|fp k8<|lp k8<|fp k8<|lp k8<|oB h λv5 hv5 h=>ae (cT aV (zO a0.q a0.dims v5 hv5) k3 (aW (kL k) (dI k aO))) k<|am k k<|ae (bW k k (by intro _ h;cases h)) k<|ae (bW k k (by intro _ h;cases h)) k<|aa k k<|aa k k<|an ?_;refine tn<|aN (t:=mN [(1,.ptr 0 0 0),(4,.own 1 0 v4.1.length),(5,.bl v4.2),(6,.own 2 0 v5.1.length),(7,.bl v5.2)] [(0,⟨6,[eR a0]⟩),(1,⟨6,v4.1.map (ow eR)⟩),(2,⟨1,v5.1.map (ow (cA 1 eI))⟩)] 3) (bJ (bG k2) (bU k<|bX (mI.plainO _) k<|bX (aV.plainO _) k<|aS) k4)<|sQ<|sR<|am k k<|ae (dZ k) k<|am k k<|mX h (λq6 h=>aL 44 k q6<|aK k4<|pk k3<|am k k<|aK k4<|ak k k<|pk k3<|an<|tn<|dS k k<|sR<|aa k k<|aT k2<|aE<|aG<|sp h (bO k k k (cW k (bT (iQ (k)) (bT (k) eY))))) λq6 h=>?_;refine aL 44 k q6<|am k k<|ae (dZ k) k<|pk k3<|am k k<|mX h (λq7 h=>aL 48 k q7<|aK k4<|ak k k<|pk k3<|an<|tn<|dS k k<|sR<|aa k k<|aT k2<|aE<|aG<|sp h (bO k k k (cW k (bT (iQ (k)) (bT (k) eY))))) λq7 h=>?_;refine aL 48 k q7<|am k k<|ae (cB aI k k k k) k<|cm k4<|pk k3<|an<|tn<|dB k h (λ_ h=>sR<|aa k k<|aT k2<|aE<|aG<|sp h (bO k k k (cW k (bT (iQ (k)) (bT (k) eY))))) λ_ h=>?_;refine aD<|tn<|sR<|lp k8<|am k k<|oB h λv9 hv9 h=>ae (cL cU (aIf a0 v4.1 v9 hv9) k3 (aW (kL k) (aW (xK mI k k) aO))) k<|aT k2<|sQ<|sR<|am k k<|ae (cB aI k k k k) k<|am k k<|an<|tn<|aC<|oB h λy28 hy28 h=>bY (body:=(fS a0 v4 v5 v9)) hy28 (λ(x1:Int)=>mN [(1,.ptr 0 0 0),(4,.own 1 0 v4.1.length),(8,.own 2 0 v9.length),(56,.own 3 0 v5.1.length),(57,.int ((v5.1.length:Nat):Int)),(58,.int x1)] [(0,⟨6,[eR a0]⟩),(1,⟨6,v4.1.map (ow eR)⟩),(2,⟨1,v9.map (ow eI)⟩),(3,⟨1,v5.1.map (ow (cA 1 eI))⟩)] 4) (λr e t=>Sum.elim (λa=>(λr e t=>e= .exit 0∧Ent t (mN [] [] 0)) a e t) (λb=>(λr e t=>e= .ret∧sO TT [.tmp 2,.tmp 3] (.tuple [.list 1 (r.1.map eI),.bl r.2]) .ret t) b e t) r) (pD [0,1,3,2] (bG k2) (bU k<|bX (mI.plainO _) k<|bP k<|bX (aV.plainO _) k<|aS) k4) ?_ ?_
 ·intro x1 o h;refine sR<|cm k4<|an<|tn<|sQ<|dB k h (λ_ h=>?_) λ_ h=>aY<|aA<|aA<|sp h ⟨_,k,k,(bJ aS aS k4)⟩;refine aD<|tn<|sQ<|aC<|sR<|oB h λv11 hv11 h=>ae (xo hv11 k) k<|ae (wp hv11 k) k<|aT k2<|sQ<|aP gK<|am k k<|ae (cB aI k k k k) k<|cG h λq27 h=>ae (rB aI q27 k k k k k k k k) k<|am k k<|ae (cB aI k k k k) k<|cG h λq26 h=>ae (rB aI q26 k k k k k k k k) k<|aa k k<|aa k k<|an<|rI (by kernel_rfl)<|tn<|aN (t:=mN [(1,.ptr 0 0 0),(4,.own 1 0 v4.1.length),(8,.own 2 0 v9.length),(10,.list 1 (v11.map eI)),(11,.own 4 0 ((List.replicate (((v4.1.length:Nat):Int).toNat) (0:Int)).length)),(12,.own 5 0 ((List.replicate (((v4.1.length:Nat):Int).toNat) (0:Int)).length)),(56,.own 3 0 v5.1.length),(57,.int ((v5.1.length:Nat):Int)),(58,.int x1)] [(0,⟨6,[eR a0]⟩),(1,⟨6,v4.1.map (ow eR)⟩),(2,⟨1,v9.map (ow eI)⟩),(3,⟨1,v5.1.map (ow (cA 1 eI))⟩),(4,⟨1,List.map (ow eI) (List.replicate (((v4.1.length:Nat):Int).toNat) (0:Int))⟩),(5,⟨1,List.map (ow eI) (List.replicate (((v4.1.length:Nat):Int).toNat) (0:Int))⟩)] 6) (bJ (lB 4 k2 (iG ⟨_,k,⟨k,k,(by simp only [aM,lA,lT,lR,lC,lN]),k⟩⟩ (iG ⟨_,k,⟨k,k,(by simp only [aM,lA,lT,lR,lC,lN]),k⟩⟩ (bG k2)))) (bU k<|bX (mI.plainO _) k<|bP k<|bX (aV.plainO _) k<|hX ⟨_,k,k,.inl ⟨uF (e:=eI) (z:=0) _,cU.plainO _⟩⟩ k<|hX ⟨_,k,k,.inl ⟨uF (e:=eI) (z:=0) _,cU.plainO _⟩⟩ k<|aS) k4)<|sQ<|sR<|am k k ?_;refine ln k4<|am k k<|an<|tn<|aC<|oB h λy23 hy23 h=>bY (body:=(fP a0 v4 v11)) hy23 (λ(x2:((List Int)×(List Int)×Int))=>mN [(1,.ptr 0 0 0),(4,.own 1 0 v4.1.length),(8,.own 2 0 v9.length),(11,.own 3 0 x2.1.length),(12,.own 4 0 x2.2.1.length),(56,.own 5 0 v5.1.length),(57,.int ((v5.1.length:Nat):Int)),(58,.int x1),(68,.list 1 (v11.map eI)),(69,.int (v11.length:Int)),(70,.int x2.2.2)] [(0,⟨6,[eR a0]⟩),(1,⟨6,v4.1.map (ow eR)⟩),(2,⟨1,v9.map (ow eI)⟩),(3,⟨1,x2.1.map (ow eI)⟩),(4,⟨1,x2.2.1.map (ow eI)⟩),(5,⟨1,v5.1.map (ow (cA 1 eI))⟩)] 6) (λr e t=>e= .exit 2∧Ent t (mN [(1,.ptr 0 0 0),(4,.own 1 0 v4.1.length),(8,.own 2 0 v9.length),(11,.own 3 0 r.1.length),(12,.own 4 0 r.2.length),(56,.own 5 0 v5.1.length),(57,.int ((v5.1.length:Nat):Int)),(58,.int x1)] [(0,⟨6,[eR a0]⟩),(1,⟨6,v4.1.map (ow eR)⟩),(2,⟨1,v9.map (ow eI)⟩),(3,⟨1,r.1.map (ow eI)⟩),(4,⟨1,r.2.map (ow eI)⟩),(5,⟨1,v5.1.map (ow (cA 1 eI))⟩)] 6)) (pD [0,1,2,4,5,3] (bG k2) (bU k<|bX (mI.plainO _) k<|bP k<|bP k<|bP k<|bX (aV.plainO _) k<|aS) k4) ?_ ?_
  ·intro x2 o h;refine sR<|cm k4<|an<|tn<|sQ<|dB k h (λ_ h=>?_) λ_ h=>aY<|aA<|aA<|sp h ⟨_,k,k,(bJ (bG k2) (bU k<|bX (mI.plainO _) k<|bP k<|bP k<|bP k<|bX (aV.plainO _) k<|aS) k4)⟩;refine aD<|tn<|sQ<|aC<|sR<|oB h λv13 hv13 h=>ae (xl hv13 k) k<|lr k7<|aT k2<|sR<|am k k<|am k k<|oB h λv14 hv14 h=>ae (xo hv14 k) k<|ae (wp hv14 k) k<|ae (bC k k) k<|oB h λv15 hv15 h=>ae (xo hv15 k) k<|ae (eH aI jI (u:=wr (v14+1)) (dC hv15) k k k k k k) k<|an<|tn<|sR<|am k k<|ae (cB aI k k k k) k<|am k k<|an<|tn ?_;refine aC<|oB h λy22 hy22 h=>bY (body:=(dX a0 v4 v13)) hy22 (λ(x3:((List Int)×Int))=>mN [(1,.ptr 0 0 0),(4,.own 1 0 v4.1.length),(8,.own 2 0 v9.length),(11,.own 3 0 ((x2.1.set v13.toNat (wr (v14+1))).length)),(12,.own 4 0 x3.1.length),(14,.int v13),(56,.own 5 0 v5.1.length),(57,.int ((v5.1.length:Nat):Int)),(58,.int x1),(68,.list 1 (v11.map eI)),(69,.int (v11.length:Int)),(70,.int x2.2.2),(80,.own 1 0 v4.1.length),(81,.int ((v4.1.length:Nat):Int)),(82,.int x3.2)] [(0,⟨6,[eR a0]⟩),(1,⟨6,v4.1.map (ow eR)⟩),(2,⟨1,v9.map (ow eI)⟩),(3,⟨1,List.map (ow eI) (x2.1.set v13.toNat (wr (v14+1)))⟩),(4,⟨1,x3.1.map (ow eI)⟩),(5,⟨1,v5.1.map (ow (cA 1 eI))⟩)] 6) (λr e t=>e= .exit 4∧Ent t (mN [(1,.ptr 0 0 0),(4,.own 1 0 v4.1.length),(8,.own 2 0 v9.length),(11,.own 3 0 ((x2.1.set v13.toNat (wr (v14+1))).length)),(12,.own 4 0 r.length),(56,.own 5 0 v5.1.length),(57,.int ((v5.1.length:Nat):Int)),(58,.int x1),(68,.list 1 (v11.map eI)),(69,.int (v11.length:Int)),(70,.int x2.2.2)] [(0,⟨6,[eR a0]⟩),(1,⟨6,v4.1.map (ow eR)⟩),(2,⟨1,v9.map (ow eI)⟩),(3,⟨1,List.map (ow eI) (x2.1.set v13.toNat (wr (v14+1)))⟩),(4,⟨1,r.map (ow eI)⟩),(5,⟨1,v5.1.map (ow (cA 1 eI))⟩)] 6)) (bJ (lB 3 k2 (iG ⟨_,k,⟨k,k,(by simp only [aM,lA,lT,lR,lC,lN]),k⟩⟩ (bG k2))) (bU k<|bX (mI.plainO _) k<|bP k<|bP k<|bP k<|bX (aV.plainO _) k<|aS) k4) ?_ ?_
   ·intro x3 o h;refine sR<|cm k4<|an<|tn<|sQ<|dB k h (λ_ h=>?_) λ_ h=>aY<|aA<|aA<|sp h ⟨_,k,k,(bJ (bG k2) (bU k<|bX (mI.plainO _) k<|bP k<|bP k<|bP k<|bX (aV.plainO _) k<|aS) k4)⟩;refine aD<|tn<|sQ<|aC<|sR<|am k k<|oB h λv17 hv17 h=>ae (xo hv17 k) k<|ae (wp hv17 k) k<|ae (cN aI k k) k<|aa k k<|ae (ws k) k<|an<|tn<|aP gK<|am k k<|am k k<|oB h λv18 hv18 h=>ae (xo hv18 k) k<|ae (wp hv18 k) k<|fp k8<|lp k8<|fp k8<|lp k8<|am k k<|am k k<|oB h λv19 hv19 h=>ae (xo hv19 k) k<|fp k8<|ae (wp hv19 k) k<|oB h λv20 hv20 h=>ae (aR (aHu a0.q v17.dims v19.dims v20 hv20) k (aW (kL k) (dI k (dI k aO)))) k ?_;exact ae (bC k k) k<|oB h λv21 hv21 h=>ae (xo hv21 k) k<|ae (eH aI jI (u:=wr (v18+v20)) (dC hv21) k k k k k k) k<|an<|rI (by kernel_rfl)<|aZ<|tn<|aN (t:=mN [(1,.ptr 0 0 0),(4,.own 1 0 v4.1.length),(8,.own 2 0 v9.length),(11,.own 3 0 ((x2.1.set v13.toNat (wr (v14+1))).length)),(12,.own 4 0 ((x3.1.set x3.2.toNat (wr (v18+v20))).length)),(14,.int v13),(56,.own 5 0 v5.1.length),(57,.int ((v5.1.length:Nat):Int)),(58,.int x1),(68,.list 1 (v11.map eI)),(69,.int (v11.length:Int)),(70,.int x2.2.2),(80,.own 1 0 v4.1.length),(81,.int ((v4.1.length:Nat):Int)),(82,.int x3.2)] [(0,⟨6,[eR a0]⟩),(1,⟨6,v4.1.map (ow eR)⟩),(2,⟨1,v9.map (ow eI)⟩),(3,⟨1,List.map (ow eI) (x2.1.set v13.toNat (wr (v14+1)))⟩),(4,⟨1,List.map (ow eI) (x3.1.set x3.2.toNat (wr (v18+v20)))⟩),(5,⟨1,v5.1.map (ow (cA 1 eI))⟩)] 7) (bJ (lB 4 k2 (iG ⟨_,k,⟨k,k,(by simp only [aM,lA,lT,lR,lC,lN]),k⟩⟩ (bG k2))) (bU k<|bX (mI.plainO _) k<|bP k<|bP k<|bP k<|bX (aV.plainO _) k<|aS) k4)<|rg<|ae (bC k k) k<|am k k<|an<|tn<|sp h ⟨_,k,(bJ (bG k2) (bU k<|bX (mI.plainO _) k<|bP k<|bP k<|bP k<|bX (aV.plainO _) k<|aS) k4)⟩
   ·rintro e t ⟨rfl,hent⟩;exact aJ<|aZ<|tn<|aN hent<|rg<|ae (bC k k) k<|am k k<|an<|tn<|sp h ⟨_,k,(bJ (bG k2) (bU k<|bX (mI.plainO _) k<|bP k<|bP k<|bP k<|bX (aV.plainO _) k<|aS) k4)⟩
  ·rintro e t ⟨rfl,hent⟩;exact aJ<|tn<|aN hent<|sR<|am k k<|am k k<|oB h λv24 hv24 h=>ae (aR (jS y23.2 v9 v24 hv24) k (vcT k k (vcT k k aO))) k<|an<|tn<|dB k h (λ_ h=>sR<|am k k<|aa k k<|aT k2<|aE<|bN<|aG<|aG<|sp h ⟨_,k,k,bO k k k (cW k (bT (iQ (fE cU k k)) (bT (k) eY)))⟩) λ_ h=>aD<|aZ<|tn<|rg<|ae (bC k k) k<|am k k<|an<|tn<|sp h ⟨_,k,(pD [0,1,2,5] (bG k2) (bU k<|bX (mI.plainO _) k<|bP k<|bX (aV.plainO _) k<|aS) k4)⟩
 ·intro e t hX;rcases y28 with y29|y30
  ·obtain ⟨rfl,hent⟩:=hX;exact aJ<|tn<|aN hent<|sR<|aa k k<|aT k2<|aE<|sp h (bO k k k (cW k (bT (iQ (k)) (bT (k) eY))))
  ·obtain ⟨rfl,hent⟩:=hX;exact bN<|aG<|sp h hent
def fT (v6:((List (List Int))×Bool)) (x1:Int) (x2:((List Int)×Int)):Option (((List Int)×Int) ⊕ (List Int)):=
 (cF v6.1 x1).bind λv12=>
 bif decide (x2.2<(v12.length:Int)) then
 ((cF v6.1 x1).bind λv14=>
 (cF v14 x2.2).bind λv15=>
 (cF v6.1 x1).bind λv16=>
 (cF v16 x2.2).bind λv17=>
 (cF x2.1 v17).bind λv18=>
 (cF x2.1 v15).bind λv19=>
 some (.inl ((x2.1.set v15.toNat (wr (v18+1))),wr (x2.2+1))))
 else
 (some (.inr x2.1))
def fU (a0:Rp) (v4:((List Rp)×Bool)) (v5:((List (List Int))×Bool)) (x3:(Bool×Int)) (y20:(List Int)) (x4:(Int×Int)):Option ((Int×Int) ⊕ Int):=
 bif decide (x4.2<((v4.1.length:Nat):Int)) then
 ((cF y20 x4.2).bind λv24=>
 (cF v5.1 x3.2).bind λv25=>
 (cF v5.1 x4.2).bind λv26=>
 (vD a0.q v25 v26).bind λv27=>
 some (.inl (wr (x4.1+(wr (v24*v27))),wr (x4.2+1))))
 else
 (some (.inr x4.1))
def dJ (a0:Rp) (v4:((List Rp)×Bool)) (v5:((List (List Int))×Bool)) (v10:(List Int)) (y20:(List Int)) (x3:(Bool×Int)):Option ((Bool×Int) ⊕ Bool):=
 bif decide (x3.2<((v4.1.length:Nat):Int)) then
 (bif x3.1 then
 ((Lp (fU a0 v4 v5 x3 y20) (0,0)).bind λy28=>
 (cF v10 x3.2).bind λv29=>
 some (.inl (decide (y28=v29),wr (x3.2+1))))
 else
 (some (.inr x3.1)))
 else
 (some (.inr x3.1))
def fV (a0:Rp) (v4:((List Rp)×Bool)) (v5:((List (List Int))×Bool)) (v6:((List (List Int))×Bool)) (v10:(List Int)) (x1:Int):Option (Int ⊕ (Unit ⊕ ((List Int)×Bool))):=
 bif decide (x1<((v6.1.length:Nat):Int)) then
 (bif (decide (0≤((v4.1.length:Nat):Int))&&decide (((v4.1.length:Nat):Int)≤1048576)) then
 ((Lp (fT v6 x1) ((List.replicate (((v4.1.length:Nat):Int).toNat) (0:Int)),0)).bind λy20=>
 (Lp (dJ a0 v4 v5 v10 y20) (true,0)).bind λy30=>
 bif y30 then
 (some (.inr (.inr ((y20,true)))))
 else
 (some (.inl (wr (x1+1)))))
 else none)
 else
 (some (.inr (.inl ())))
def jZ (a0:Rp):Option ((List Int)×Bool):=
 (rK a0).bind λv1=>
 bif !v1 then
 (some ((([]:(List Int)),false)))
 else
 (bif decide (4<a0.q.n) then
 (some ((([]:(List Int)),false)))
 else
 ((jE a0.p a0.q).bind λv4=>
 (cX a0.q).bind λv5=>
 (iL a0.q a0.dims).bind λv6=>
 bif !v4.2 then
 (some ((([]:(List Int)),false)))
 else
 (bif !v6.2 then
 (some ((([]:(List Int)),false)))
 else
 (bif decide (500≤((v6.1.length:Nat):Int)) then
 (some ((([]:(List Int)),false)))
 else
 ((wS a0 v4.1).bind λv10=>
 (Lp (fV a0 v4 v5 v6 v10) 0).bind λy33=>
 Sum.elim (λy34=>
 some ((([]:(List Int)),false))
 )
 (λy35=>
 some y35
 )
 y33)))))
theorem aBM (a0:Rp) (r:((List Int)×Bool)) (h:jZ a0=some r):HasC Tryz.prog 20 [.agg (eR a0)] (.tuple [.list 1 (r.1.map eI),.bl r.2]):=by
 refine hM [.tmp 2,.tmp 3] Tryz.func20 Tryz.ntmps20 k<|sR<|ae (wb k) k<|aa k k<|aT k2<|sQ<|sR<|lp k8<|oB h λv1 hv1 h=>ae (aR (aBf a0 v1 hv1) k (aW (kL k) aO)) k<|ae (dZ k) k<|am k k<|mX h (λq2 h=>aL 21 k q2<|aK k4<|aK k4<|pk k3<|an<|tn<|dS k k<|sR<|ae (wl k) k<|aa k k<|aT k2<|aN (t:=mN [(2,.own 1 0 (([]:(List Int)).length)),(3,.bl false)] [(1,⟨1,List.map (ow eI) ([]:(List Int))⟩)] 2) (bJ (iG ⟨_,k,⟨k,k,(by simp only [aM,lA,lT,lR,lC,lN]),k⟩⟩ (bG k2)) (bP k<|aS) k4)<|aE<|aG<|sp h (bO k k k (cW k (bT (iQ (fE cU k k)) (bT (k) eY))))) λq2 h=>?_;refine aL 21 k q2<|fp k8<|fp k8<|lp k8<|cm k4<|pk k3<|an<|tn<|dB k h (λ_ h=>sR<|ae (wl k) k<|aa k k<|aT k2<|aN (t:=mN [(2,.own 1 0 (([]:(List Int)).length)),(3,.bl false)] [(1,⟨1,List.map (ow eI) ([]:(List Int))⟩)] 2) (bJ (iG ⟨_,k,⟨k,k,(by simp only [aM,lA,lT,lR,lC,lN]),k⟩⟩ (bG k2)) (bP k<|aS) k4)<|aE<|aG<|sp h (bO k k k (cW k (bT (iQ (fE cU k k)) (bT (k) eY))))) λ_ h=>?_;refine aD<|tn<|sR<|fp k8<|lp k8<|fp k8<|lp k8<|oB h λv4 hv4 h=>ae (cT mI (aAe a0.p a0.q v4 hv4) k3 (dI k (aW (kL k) aO))) k<|am k k<|ae (bW k k (by intro _ h;cases h)) k<|ae (bW k k (by intro _ h;cases h)) k<|aa k k<|aT k2<|sR<|fp k8<|lp k8<|oB h λv5 hv5 h=>ae (jM (σ:=sg []) (σ':=sg [(2,0)]) (touch:=[]) (news:=[2]) (hl2:=[(2,⟨1,v5.1.map (cA 1 eI)⟩)]) (n':=3) (r2:= .tuple [.own 2 0 v5.1.length,.bl v5.2]) (mS a0.q v5 hv5) k k ⟨_,_,k,(.inl ⟨_,_,k,k,⟨_,_,k,⟨k,k⟩,⟨_,_,k,⟨k,k⟩,k⟩⟩⟩),k⟩ aS k k k ⟨⟨_,k,k,.inl ⟨k,aV.plainE _⟩⟩,k,aS⟩ k (.inr ⟨_,_,k,k,⟨_,_,k,⟨k,k,(by simp only [aM,lA,lT,lR,lC,lN]),k⟩,⟨_,_,k,k,k⟩⟩⟩) k ⟨k,aV.tamdE _ _,aS⟩ k k) k<|am k k<|ae (bW k k (by intro _ h;cases h)) k<|ae (bW k k (by intro _ h;cases h)) k<|aa k k<|aT k2<|aN (t:=mN [(1,.ptr 0 0 0),(4,.own 1 0 v4.1.length),(5,.bl v4.2),(6,.own 2 0 v5.1.length)] [(0,⟨6,[eR a0]⟩),(1,⟨6,v4.1.map (ow eR)⟩),(2,⟨1,v5.1.map (cA 1 eI)⟩)] 3) (bJ (bG k2) (bU k<|bX (mI.plainO _) k<|bX (aV.plainE _) k<|aS) k4) ?_;refine sR<|fp k8<|lp k8<|fp k8<|lp k8<|oB h λv6 hv6 h=>ae (jM (σ:=sg []) (σ':=sg [(3,0)]) (touch:=[]) (news:=[3]) (hl2:=[(3,⟨1,v6.1.map (ow (cA 1 eI))⟩)]) (n':=4) (r2:= .tuple [.own 3 0 v6.1.length,.bl v6.2]) (zL a0.q a0.dims v6 hv6) k k ⟨_,_,k,(.inl ⟨_,_,k,k,⟨_,_,k,⟨k,k⟩,⟨_,_,k,⟨k,k⟩,k⟩⟩⟩),⟨_,_,k,(.inl ⟨k,k⟩),k⟩⟩ aS k k k ⟨⟨_,k,k,.inl ⟨k,aV.plainO _⟩⟩,k,aS⟩ k (.inr ⟨_,_,k,k,⟨_,_,k,⟨k,k,(by simp only [aM,lA,lT,lR,lC,lN]),k⟩,⟨_,_,k,k,k⟩⟩⟩) k ⟨k,aV.tamd _ _,aS⟩ k k) k<|am k k<|ae (bW k k (by intro _ h;cases h)) k<|ae (bW k k (by intro _ h;cases h)) k<|aa k k<|aT k2<|sQ<|sR<|am k k<|ae (dZ k) k<|am k k<|mX h (λq7 h=>aL 52 k q7<|aK k4<|pk k3<|am k k<|aK k4<|ak k k<|pk k3<|an<|tn<|dS k k<|sR<|ae (wl k) k<|aa k k<|aT k2<|aN (t:=mN [(2,.own 4 0 (([]:(List Int)).length)),(3,.bl false)] [(4,⟨1,List.map (ow eI) ([]:(List Int))⟩)] 5) (bJ (iG ⟨_,k,⟨k,k,(by simp only [aM,lA,lT,lR,lC,lN]),k⟩⟩ (bG k2)) (bP k<|aS) k4)<|aE<|aG<|sp h (bO k k k (cW k (bT (iQ (fE cU k k)) (bT (k) eY))))) λq7 h=>?_;refine aL 52 k q7<|am k k<|ae (dZ k) k<|pk k3<|am k k<|mX h (λq8 h=>aL 56 k q8<|aK k4<|ak k k<|pk k3<|an<|tn<|dS k k<|sR<|ae (wl k) k<|aa k k<|aT k2<|aN (t:=mN [(2,.own 4 0 (([]:(List Int)).length)),(3,.bl false)] [(4,⟨1,List.map (ow eI) ([]:(List Int))⟩)] 5) (bJ (iG ⟨_,k,⟨k,k,(by simp only [aM,lA,lT,lR,lC,lN]),k⟩⟩ (bG k2)) (bP k<|aS) k4)<|aE<|aG<|sp h (bO k k k (cW k (bT (iQ (fE cU k k)) (bT (k) eY))))) λq8 h=>?_;refine aL 56 k q8<|am k k<|ae (cB aI k k k k) k<|cm k4<|pk k3<|an<|tn<|dB k h (λ_ h=>sR<|ae (wl k) k<|aa k k<|aT k2<|aN (t:=mN [(2,.own 4 0 (([]:(List Int)).length)),(3,.bl false)] [(4,⟨1,List.map (ow eI) ([]:(List Int))⟩)] 5) (bJ (iG ⟨_,k,⟨k,k,(by simp only [aM,lA,lT,lR,lC,lN]),k⟩⟩ (bG k2)) (bP k<|aS) k4)<|aE<|aG<|sp h (bO k k k (cW k (bT (iQ (fE cU k k)) (bT (k) eY))))) λ_ h=>?_;refine aD<|tn<|sR<|lp k8<|am k k<|oB h λv10 hv10 h=>ae (cL cU (aIg a0 v4.1 v10 hv10) k3 (aW (kL k) (aW (xK mI k k) aO))) k<|aT k2<|aN (t:=mN [(1,.ptr 0 0 0),(4,.own 1 0 v4.1.length),(6,.own 2 0 v5.1.length),(8,.own 3 0 v6.1.length),(10,.own 4 0 v10.length)] [(0,⟨6,[eR a0]⟩),(1,⟨6,v4.1.map (ow eR)⟩),(2,⟨1,v5.1.map (cA 1 eI)⟩),(3,⟨1,v6.1.map (ow (cA 1 eI))⟩),(4,⟨1,v10.map (ow eI)⟩)] 5) (bJ (bG k2) (bU k<|bX (mI.plainO _) k<|bX (aV.plainE _) k<|bX (aV.plainO _) k<|bP k<|aS) k4)<|sQ<|sR<|aT k2<|aC<|oB h λy33 hy33 h=>bY (body:=(fV a0 v4 v5 v6 v10)) hy33 (λ(x1:Int)=>mN [(1,.ptr 0 0 0),(4,.own 1 0 v4.1.length),(6,.own 2 0 v5.1.length),(8,.own 3 0 v6.1.length),(10,.own 4 0 v10.length),(11,.int x1)] [(0,⟨6,[eR a0]⟩),(1,⟨6,v4.1.map (ow eR)⟩),(2,⟨1,v5.1.map (cA 1 eI)⟩),(3,⟨1,v6.1.map (ow (cA 1 eI))⟩),(4,⟨1,v10.map (ow eI)⟩)] 5) (λr e t=>Sum.elim (λa=>(λr e t=>e= .exit 0∧Ent t (mN [] [] 0)) a e t) (λb=>(λr e t=>e= .ret∧sO TT [.tmp 2,.tmp 3] (.tuple [.list 1 (r.1.map eI),.bl r.2]) .ret t) b e t) r) (bJ (bG k2) (bU k<|bX (mI.plainO _) k<|bX (aV.plainE _) k<|bX (aV.plainO _) k<|bP k<|aS) k4) ?_ ?_
 ·intro x1 o h;refine sQ<|sR<|am k k<|am k k<|ae (cB aI k k k k) k<|cm k4<|an<|tn<|dB k h (λ_ h=>?_) λ_ h=>aY<|aA<|aA<|sp h ⟨_,k,k,(bJ aS aS k4)⟩;refine aD<|tn<|sQ<|aC<|sR<|am k k<|ae (cB aI k k k k) k<|cG h λq32 h=>ae (rB aI q32 k k k k k k k k) k<|aT k2<|aN (t:=mN [(1,.ptr 0 0 0),(4,.own 1 0 v4.1.length),(6,.own 2 0 v5.1.length),(8,.own 3 0 v6.1.length),(10,.own 4 0 v10.length),(11,.int x1),(12,.own 5 0 ((List.replicate (((v4.1.length:Nat):Int).toNat) (0:Int)).length))] [(0,⟨6,[eR a0]⟩),(1,⟨6,v4.1.map (ow eR)⟩),(2,⟨1,v5.1.map (cA 1 eI)⟩),(3,⟨1,v6.1.map (ow (cA 1 eI))⟩),(4,⟨1,v10.map (ow eI)⟩),(5,⟨1,List.map (ow eI) (List.replicate (((v4.1.length:Nat):Int).toNat) (0:Int))⟩)] 6) (bJ (lB 6 k2 (iG ⟨_,k,⟨k,k,(by simp only [aM,lA,lT,lR,lC,lN]),k⟩⟩ aS)) (bU k<|bX (mI.plainO _) k<|bX (aV.plainE _) k<|bX (aV.plainO _) k<|bP k<|hX ⟨_,k,k,.inl ⟨uF (e:=eI) (z:=0) _,cU.plainO _⟩⟩ k<|aS) k4)<|sQ<|sR<|aT k2<|aC<|oB h λy20 hy20 h=>bY (body:=(fT v6 x1)) hy20 (λ(x2:((List Int)×Int))=>mN [(1,.ptr 0 0 0),(4,.own 1 0 v4.1.length),(6,.own 2 0 v5.1.length),(8,.own 3 0 v6.1.length),(10,.own 4 0 v10.length),(11,.int x1),(12,.own 5 0 x2.1.length),(13,.int x2.2)] [(0,⟨6,[eR a0]⟩),(1,⟨6,v4.1.map (ow eR)⟩),(2,⟨1,v5.1.map (cA 1 eI)⟩),(3,⟨1,v6.1.map (ow (cA 1 eI))⟩),(4,⟨1,v10.map (ow eI)⟩),(5,⟨1,x2.1.map (ow eI)⟩)] 6) (λr e t=>e= .exit 2∧Ent t (mN [(1,.ptr 0 0 0),(4,.own 1 0 v4.1.length),(6,.own 2 0 v5.1.length),(8,.own 3 0 v6.1.length),(10,.own 4 0 v10.length),(11,.int x1),(12,.own 5 0 r.length)] [(0,⟨6,[eR a0]⟩),(1,⟨6,v4.1.map (ow eR)⟩),(2,⟨1,v5.1.map (cA 1 eI)⟩),(3,⟨1,v6.1.map (ow (cA 1 eI))⟩),(4,⟨1,v10.map (ow eI)⟩),(5,⟨1,r.map (ow eI)⟩)] 6)) (bJ (bG k2) (bU k<|bX (mI.plainO _) k<|bX (aV.plainE _) k<|bX (aV.plainO _) k<|bP k<|bP k<|aS) k4) ?_ ?_
  ·intro x2 o h;refine sQ<|sR<|am k k<|am k k<|am k k<|oB h λv12 hv12 h=>ae (xo hv12 k) k<|ae (wp hv12 k) k<|ln k4<|cm k4<|an<|tn<|dB k h (λ_ h=>?_) λ_ h=>aY<|aA<|aA<|sp h ⟨_,k,k,(bJ (bG k2) (bU k<|bX (mI.plainO _) k<|bX (aV.plainE _) k<|bX (aV.plainO _) k<|bP k<|bP k<|aS) k4)⟩;refine aD<|tn<|sQ<|aC<|aP gK<|am k k<|am k k<|am k k<|oB h λv14 hv14 h=>ae (xo hv14 k) k<|ae (wp hv14 k) k<|am k k<|oB h λv15 hv15 h=>ae (xl hv15 k) k<|lr k7<|am k k<|am k k<|am k k<|oB h λv16 hv16 h=>ae (xo hv16 k) k<|ae (wp hv16 k) k<|am k k<|oB h λv17 hv17 h=>ae (xl hv17 k) k<|lr k7<|oB h λv18 hv18 h=>ae (xo hv18 k) k<|ae (wp hv18 k) k<|ae (bC k k) k<|oB h λv19 hv19 h=>ae (xo hv19 k) k<|ae (eH aI jI (u:=wr (v18+1)) (dC hv19) k k k k k k) k<|an<|rI (by kernel_rfl)<|aZ ?_;exact tn<|aN (t:=mN [(1,.ptr 0 0 0),(4,.own 1 0 v4.1.length),(6,.own 2 0 v5.1.length),(8,.own 3 0 v6.1.length),(10,.own 4 0 v10.length),(11,.int x1),(12,.own 5 0 ((x2.1.set v15.toNat (wr (v18+1))).length)),(13,.int x2.2)] [(0,⟨6,[eR a0]⟩),(1,⟨6,v4.1.map (ow eR)⟩),(2,⟨1,v5.1.map (cA 1 eI)⟩),(3,⟨1,v6.1.map (ow (cA 1 eI))⟩),(4,⟨1,v10.map (ow eI)⟩),(5,⟨1,List.map (ow eI) (x2.1.set v15.toNat (wr (v18+1)))⟩)] 6) (bJ (lB 6 k2 (iG ⟨_,k,⟨k,k,(by simp only [aM,lA,lT,lR,lC,lN]),k⟩⟩ (bG k2))) (bU k<|bX (mI.plainO _) k<|bX (aV.plainE _) k<|bX (aV.plainO _) k<|bP k<|bP k<|aS) k4)<|rg<|am k k<|ae (bC k k) k<|aT k2<|sp h ⟨_,k,(bJ (bG k2) (bU k<|bX (mI.plainO _) k<|bX (aV.plainE _) k<|bX (aV.plainO _) k<|bP k<|bP k<|aS) k4)⟩
  ·rintro e t ⟨rfl,hent⟩;refine aJ<|tn<|aN hent<|sR<|aT k2<|sQ<|sR<|aT k2<|aC<|oB h λy30 hy30 h=>bY (body:=(dJ a0 v4 v5 v10 y20)) hy30 (λ(x3:(Bool×Int))=>mN [(1,.ptr 0 0 0),(4,.own 1 0 v4.1.length),(6,.own 2 0 v5.1.length),(8,.own 3 0 v6.1.length),(10,.own 4 0 v10.length),(11,.int x1),(12,.own 5 0 y20.length),(14,.bl x3.1),(15,.int x3.2)] [(0,⟨6,[eR a0]⟩),(1,⟨6,v4.1.map (ow eR)⟩),(2,⟨1,v5.1.map (cA 1 eI)⟩),(3,⟨1,v6.1.map (ow (cA 1 eI))⟩),(4,⟨1,v10.map (ow eI)⟩),(5,⟨1,y20.map (ow eI)⟩)] 6) (λr e t=>e= .exit 4∧Ent t (mN [(1,.ptr 0 0 0),(4,.own 1 0 v4.1.length),(6,.own 2 0 v5.1.length),(8,.own 3 0 v6.1.length),(10,.own 4 0 v10.length),(11,.int x1),(12,.own 5 0 y20.length),(14,.bl r)] [(0,⟨6,[eR a0]⟩),(1,⟨6,v4.1.map (ow eR)⟩),(2,⟨1,v5.1.map (cA 1 eI)⟩),(3,⟨1,v6.1.map (ow (cA 1 eI))⟩),(4,⟨1,v10.map (ow eI)⟩),(5,⟨1,y20.map (ow eI)⟩)] 6)) (bJ (bG k2) (bU k<|bX (mI.plainO _) k<|bX (aV.plainE _) k<|bX (aV.plainO _) k<|bP k<|bP k<|aS) k4) ?_ ?_
   ·intro x3 o h;refine sQ<|sR<|am k k<|am k k<|ae (cB aI k k k k) k<|cm k4<|am k k<|mX h (λq21 h=>?_) λq21 h=>aL 107 k q21<|ak k k<|pk k3<|an<|tn<|iN k k<|aY<|aA<|aA<|sp h ⟨_,k,k,(bJ (bG k2) (bU k<|bX (mI.plainO _) k<|bX (aV.plainE _) k<|bX (aV.plainO _) k<|bP k<|bP k<|aS) k4)⟩;refine aL 107 k q21<|am k k<|pk k3<|an<|tn<|dB k h (λ_ h=>?_) λ_ h=>aY<|aA<|aA<|sp h ⟨_,k,k,(bJ (bG k2) (bU k<|bX (mI.plainO _) k<|bX (aV.plainE _) k<|bX (aV.plainO _) k<|bP k<|bP k<|aS) k4)⟩;refine aD<|tn<|sQ<|aC<|sR<|aT k2<|sQ<|sR<|aT k2<|aC<|oB h λy28 hy28 h=>bY (body:=(fU a0 v4 v5 x3 y20)) hy28 (λ(x4:(Int×Int))=>mN [(1,.ptr 0 0 0),(4,.own 1 0 v4.1.length),(6,.own 2 0 v5.1.length),(8,.own 3 0 v6.1.length),(10,.own 4 0 v10.length),(11,.int x1),(12,.own 5 0 y20.length),(15,.int x3.2),(16,.int x4.1),(17,.int x4.2)] [(0,⟨6,[eR a0]⟩),(1,⟨6,v4.1.map (ow eR)⟩),(2,⟨1,v5.1.map (cA 1 eI)⟩),(3,⟨1,v6.1.map (ow (cA 1 eI))⟩),(4,⟨1,v10.map (ow eI)⟩),(5,⟨1,y20.map (ow eI)⟩)] 6) (λr e t=>e= .exit 6∧Ent t (mN [(1,.ptr 0 0 0),(4,.own 1 0 v4.1.length),(6,.own 2 0 v5.1.length),(8,.own 3 0 v6.1.length),(10,.own 4 0 v10.length),(11,.int x1),(12,.own 5 0 y20.length),(15,.int x3.2),(16,.int r)] [(0,⟨6,[eR a0]⟩),(1,⟨6,v4.1.map (ow eR)⟩),(2,⟨1,v5.1.map (cA 1 eI)⟩),(3,⟨1,v6.1.map (ow (cA 1 eI))⟩),(4,⟨1,v10.map (ow eI)⟩),(5,⟨1,y20.map (ow eI)⟩)] 6)) (bJ (bG k2) (bU k<|bX (mI.plainO _) k<|bX (aV.plainE _) k<|bX (aV.plainO _) k<|bP k<|bP k<|aS) k4) ?_ ?_
    ·intro x4 o h;refine sQ<|sR<|am k k<|am k k<|ae (cB aI k k k k) k<|cm k4<|an<|tn<|dB k h (λ_ h=>?_) λ_ h=>aY<|aA<|aA<|sp h ⟨_,k,k,(bJ (bG k2) (bU k<|bX (mI.plainO _) k<|bX (aV.plainE _) k<|bX (aV.plainO _) k<|bP k<|bP k<|aS) k4)⟩;refine aD<|tn<|sQ<|aC<|aP gK<|am k k<|am k k<|am k k<|oB h λv24 hv24 h=>ae (xo hv24 k) k<|ae (wp hv24 k) k<|fp k8<|lp k8<|am k k<|am k k<|oB h λv25 hv25 h=>ae (xo hv25 k) k<|ae (wp hv25 k) k<|am k k<|am k k<|oB h λv26 hv26 h=>ae (xo hv26 k) k<|ae (wp hv26 k) k<|oB h λv27 hv27 h=>ae (aR (aHs a0.q v25 v26 v27 hv27) k (aW (kL k) (dI k (dI k aO)))) k<|ae (fF k k) k<|ae (bC k k) k<|aa k k<|an<|rI (by kernel_rfl)<|aZ<|tn<|rg ?_;exact am k k<|ae (bC k k) k<|aT k2<|sp h ⟨_,k,(bJ (bG k2) (bU k<|bX (mI.plainO _) k<|bX (aV.plainE _) k<|bX (aV.plainO _) k<|bP k<|bP k<|aS) k4)⟩
    ·rintro e t ⟨rfl,hent⟩;exact aJ<|tn<|aN hent<|rg<|am k k<|am k k<|am k k<|oB h λv29 hv29 h=>ae (xo hv29 k) k<|ae (wp hv29 k) k<|cm k4<|aa k k<|an<|aZ<|tn<|rg<|am k k<|ae (bC k k) k<|aT k2<|sp h ⟨_,k,(bJ (bG k2) (bU k<|bX (mI.plainO _) k<|bX (aV.plainE _) k<|bX (aV.plainO _) k<|bP k<|bP k<|aS) k4)⟩
   ·rintro e t ⟨rfl,hent⟩;exact aJ<|tn<|aN hent<|sR<|am k k<|an<|tn<|dB k h (λ_ h=>sR<|am k k<|aa k k<|aT k2<|aE<|bN<|aG<|aG<|sp h ⟨_,k,k,bO k k k (cW k (bT (iQ (fE cU k k)) (bT (k) eY)))⟩) λ_ h=>aD<|aZ<|tn<|rg<|am k k<|ae (bC k k) k<|aT k2<|sp h ⟨_,k,(bJ (bG k2) (bU k<|bX (mI.plainO _) k<|bX (aV.plainE _) k<|bX (aV.plainO _) k<|bP k<|aS) k4)⟩
 ·intro e t hX;rcases y33 with y34|y35
  ·obtain ⟨rfl,hent⟩:=hX;exact aJ<|tn<|aN hent<|sR<|ae (wl k) k<|aa k k<|aT k2<|aN (t:=mN [(2,.own 0 0 (([]:(List Int)).length)),(3,.bl false)] [(0,⟨1,List.map (ow eI) ([]:(List Int))⟩)] 1) (bJ (iG ⟨_,k,⟨k,k,(by simp only [aM,lA,lT,lR,lC,lN]),k⟩⟩ (bG k2)) (bP k<|aS) k4)<|aE<|sp h (bO k k k (cW k (bT (iQ (fE cU k k)) (bT (k) eY))))
  ·obtain ⟨rfl,hent⟩:=hX;exact bN<|aG<|sp h hent
end
noncomputable section
set_option maxRecDepth 10000
set_option maxHeartbeats 4000000
end
noncomputable section
set_option maxRecDepth 10000
set_option maxHeartbeats 4000000
end
noncomputable section
set_option maxRecDepth 10000
set_option maxHeartbeats 4000000
end
noncomputable section
set_option maxRecDepth 10000
set_option maxHeartbeats 4000000
end
noncomputable section
def nnB (x:List Int):Bool:=x.all λa=>decide (0≤a)
theorem aRi {x:List Int} (h:nnB x=true): ∀ a∈x,0≤a:=λa ha=>of_decide_eq_true (List.all_eq_true.1 h a ha)
theorem aVH {x:List Int} (h1:1≤x.length) (hx:x.length≤1048576): ∃ m,mG x=some m∧decide (0≤m)=nnB x:=by
 have key: ∃ m,Lp (gI x) (x[0]'(by omega),1)=some m∧decide (0≤m)=nnB x:=by
  refine aCr (λs=> ∃ k:Nat,s.2=(k:Int)∧1≤k∧k≤x.length∧decide (0≤s.1)=nnB (x.take k)) (λs=>x.length - s.2.toNat) _ ?_ ?_
  ·refine ⟨1,rfl,by omega,h1,?_⟩;rw [List.take_one,List.head?_eq_getElem?,gN (by omega)];simp [nnB]
  ·rintro ⟨m,a⟩ ⟨k,rfl,hk1,hk2,hm⟩;simp only at hm;by_cases hkl:k<x.length
   ·left;refine ⟨(min m x[k],((k+1:Nat):Int)),?_,⟨k+1,rfl,by omega,by omega,?_⟩,?_⟩
    ·unfold gI;simp only;rw [iH hkl,aH,dG hkl,aB,bS hkl (by omega)]
    ·simp only;rw [List.take_add_one,gN hkl];unfold nnB at hm ⊢;rw [List.all_append,←hm];simp only [Option.toList_some,List.all_cons,List.all_nil,Bool.and_true];rw [Bool.eq_iff_iff];simp only [cY,gJ];omega
    ·simp only [cS];omega
   ·right;have hke:k=x.length:=by omega
    subst hke;refine ⟨m,?_,by rw [List.take_length] at hm;exact hm⟩;unfold gI;simp only;rw [jO (bK _),aX]
 obtain ⟨m,k1,k2⟩:=key;refine ⟨m,?_,k2⟩;unfold mG;rw [dF (by omega),aX,show (0:Int)=((0:Nat):Int) from rfl,dG (by omega),aB];rw [show ((1:Int))=1 from rfl,k1,aB]
end
noncomputable section
def zP (n:Nat) (x r:List Int):List Int:=oV n λv=>gx x v - gx r v
def xX (L:List (List Int)) (i:Nat):List Int:=L[i]?.getD []
def dec (L:List (List Int)) (n:Nat):Nat→Nat→List Int→List (List Int)
 |0,_,_=>[]
 |f+1,j,x=>if x.sum=0 then [[]] else (List.range' j (L.length - j)).flatMap λi=>if nnB (zP n x (xX L i)) then (dec L n f i (zP n x (xX L i))).map ((i:Int):: ·) else []
structure LOk (L:List (List Int)) (n:Nat):Prop where
 len:L.length≤1000
 row: ∀ r∈L,r.length=n∧(∀ a∈r,0≤a∧a≤1000)∧1≤r.sum
structure XOk (x:List Int) (n:Nat):Prop where
 len:x.length=n
 n1:1≤n
 n5:n≤5
 nn: ∀ a∈x,0≤a∧a≤4
theorem LOk.at {L:List (List Int)} {n:Nat} (h:LOk L n) {i:Nat} (hi:i<L.length):xX L i∈L∧cF L (i:Int)=some (xX L i):=by
 refine ⟨?_,sT [] hi⟩;unfold xX;rw [gN hi];exact List.getElem_mem hi
theorem aEo {n:Nat} {x r:List Int} :(zP n x r).length=n:=jN _ _
theorem aRj {x:List Int} {n:Nat} (h:XOk x n) {v:Nat} (hv:v<n):0≤gx x v∧gx x v≤4:=h.nn _ (xW (by rw [h.len];exact hv))
theorem LOk.gx {L:List (List Int)} {n:Nat} (h:LOk L n) {r:List Int} (hr:r∈L) {v:Nat} (hv:v<n):0≤gx r v∧gx r v≤1000:=(h.row r hr).2.1 _ (xW (by rw [(h.row r hr).1];exact hv))
theorem aOm {L:List (List Int)} {n:Nat} (hL:LOk L n) {x r:List Int} (hx:XOk x n) (hr:r∈L) (hn:nnB (zP n x r)=true):XOk (zP n x r) n:=by
 refine ⟨aEo,hx.n1,hx.n5,λa ha=>⟨aRi hn a ha,?_⟩⟩;obtain ⟨v,hv,rfl⟩:=List.mem_map.1 ha;have hv:=List.mem_range.1 hv;have:=aRj hx hv;have:=hL.gx hr hv;omega
theorem aMl {L:List (List Int)} {n:Nat} (hL:LOk L n) {x r:List Int} (hx:XOk x n) (hr:r∈L):(zP n x r).sum +1≤x.sum:=by
 have h1:=(hL.row r hr).2.2;rw [vK,(hL.row r hr).1] at h1;rw [vK,vK,aEo,hx.len]
 have e:dU n (Go.Proofs.YtilpfdokmlanjaaGreat.gx (zP n x r))=dU n (Go.Proofs.YtilpfdokmlanjaaGreat.gx x) - dU n (Go.Proofs.YtilpfdokmlanjaaGreat.gx r):=by
  have h3:dU n (Go.Proofs.YtilpfdokmlanjaaGreat.gx (zP n x r))=dU n λv=>Go.Proofs.YtilpfdokmlanjaaGreat.gx x v+(-1)*Go.Proofs.YtilpfdokmlanjaaGreat.gx r v:=dM λv hv=>by
   unfold zP;rw [aEi hv];omega
  rw [h3,oU,lX];omega
 omega
theorem aVI {x:List Int} (hx:x.length≤1000):Lp (mT x) (true,0)=some (x.all λa=>decide (a=0)):=by
 refine dK (λk=>((x.take k).all λa=>decide (a=0),(k:Int))) x.length (by simp) (λk hk=>?_) (λ_=>?_)
 ·unfold mT;simp only;rw [iH hk,aH,List.take_add_one,gN hk,List.all_append];simp only [Option.toList_some,List.all_cons,List.all_nil,Bool.and_true];cases (x.take k).all λa=>decide (a=0) with
  |false=>rw [aX,bS hk (by omega)];rfl
  |true=>rw [aH,dG hk,aB,bS hk (by omega)];rfl
 ·unfold mT;simp only;rw [jO (bK _),aX,List.take_length]
theorem aRk {x:List Int} (h: ∀ a∈x,0≤a):(x.all λa=>decide (a=0))=decide (x.sum=0):=by
 induction x with
 |nil=>rfl
 |cons a x ih=>
  have h1:=h a (by simp);have h2:=aFV (x:=x) λb hb=>h b (by simp [hb]);rw [List.all_cons,ih λb hb=>h b (by simp [hb]),List.sum_cons,Bool.eq_iff_iff];simp only [cY,gJ];omega
theorem aVJ {L:List (List Int)} {n:Nat} (hL:LOk L n) {x:List Int} (hx:XOk x n) {i:Nat} (hi:i<L.length) (out:List (List Int)):
  Lp (mU L x ((i:Int),out)) (([]:List Int),true,0)=some (zP n x (xX L i),nnB (zP n x (xX L i))):=by
 obtain ⟨hr,ha⟩:=hL.at hi;have hrl:=(hL.row _ hr).1;have n5:=hx.n5;refine dK (λk=>(oV k λv=>gx x v - gx (xX L i) v,nnB (oV k λv=>gx x v - gx (xX L i) v),(k:Int))) n rfl (λk hk=>?_) (λ_=>?_)
 ·unfold mU;simp only;have h1:=aRj hx hk;have h2:=hL.gx hr hk
  have e:oV (k+1) (λv=>gx x v - gx (xX L i) v)=(oV k λv=>gx x v - gx (xX L i) v)++[gx x k - gx (xX L i) k]:=by
   unfold oV;rw [List.range_succ,List.map_append];rfl
  rw [hx.len,iH hk,aH,vO (by rw [hx.len];exact hk),aB,ha,aB,vO (by rw [hrl];exact hk),aB,bF (by rw [jN];simp;omega),aH,cJ (by omega),e];generalize hA:(oV k λv=>gx x v - gx (xX L i) v)=A;have hAl:A.length=k:=by rw [←hA,jN]
  have e2:nnB (A++[gx x k - gx (xX L i) k])=(nnB A&&decide (0≤gx x k - gx (xX L i) k)):=by
   unfold nnB;rw [List.all_append];simp
  rw [e2];cases nnB A with
  |false=>rw [aX,bS hk (by omega)];rfl
  |true=>
   have hat:cF (A++[gx x k - gx (xX L i) k]) (k:Int)=some (gx x k - gx (xX L i) k):=by
    rw [dG (by simp;omega)];congr 1;rw [List.getElem_append_right (by omega)];simp [hAl]
   rw [aH,hat,aB,bS hk (by omega)];rfl
 ·unfold mU;simp only;rw [hx.len,jO (bK _),aX];rfl
theorem aTV {rest:List (List Int)} {i:Nat} {o2:List (List Int)} (hr:rest.length≤500) (hb: ∀ w∈rest,w.length≤1000): ∀ (d k:Nat) {out:List (List Int)},k+d=rest.length→out.length≤500→
  Lp (iE rest ((i:Int),o2)) (out,(k:Int))=some (out++((rest.drop k).map ((i:Int):: ·)).take (500 - out.length))
 |0,k,out,hk,ho=>by
  rw [List.drop_of_length_le (by omega)];refine (dH (r:=out) ?_).trans (by simp);unfold iE;simp only;rw [jO (by omega),aX]
 |d+1,k,out,hk,ho=>by
  have hkl:k<rest.length:=by omega
  by_cases h5:out.length<500
  ·have hw:=hb _ (List.getElem_mem hkl)
   have hbd:iE rest ((i:Int),o2) (out,(k:Int))=some (.inl (out++[(i:Int)::rest[k]],((k+1:Nat):Int))):=by
    unfold iE;simp only;rw [iH hkl,aH,bF (by omega),aH,dG hkl,aB,bF (by simp;omega),aH,bF (by omega),aH,bS hkl (by omega)];rfl
   rw [iV hbd,aTV hr hb d (k+1) (by omega) (by simp;omega),List.drop_eq_getElem_cons hkl,List.map_cons,List.append_assoc];rw [show 500 - out.length=(500 - (out++[(i:Int)::rest[k]]).length)+1 by simp;omega,List.take_succ_cons];rfl
  ·refine (dH (r:=out) ?_).trans (by rw [show 500 - out.length=0 by omega,List.take_zero,List.append_nil]);unfold iE;simp only;rw [iH hkl,aH,dF (by omega),aX]
theorem aRl {α β:Type} (A:List β) (B:List α) (c:α→β) (N:Nat) (h:A.length≤N):A++((B.take N).map c).take (N - A.length)=(A++B.map c).take N:=by
 rw [List.take_append,List.take_of_length_le h,←List.map_take,←List.map_take,List.take_take,Nat.min_eq_left (by omega)]
theorem aLA {L:List (List Int)} {n:Nat} (hL:LOk L n): ∀ (f j:Nat) (x:List Int),∀ w∈dec L n f j x,w.length≤f∧ ∀ a∈w,0≤a∧a<L.length
 |0,_,_,w,h=>by cases h
 |f+1,j,x,w,h=>by
  simp only [dec] at h;split at h
  ·rcases List.mem_singleton.1 h with rfl;exact ⟨by simp,λa ha=>by cases ha⟩
  ·obtain ⟨i,hi,h⟩:=List.mem_flatMap.1 h;have hi:=List.mem_range'_1.1 hi;split at h
   ·obtain ⟨w',hw,rfl⟩:=List.mem_map.1 h;obtain ⟨h1,h2⟩:=aLA hL f i _ w' hw;refine ⟨by simp;omega,λa ha=>?_⟩;rcases dP.1 ha with rfl|ha
    ·omega
    ·exact h2 a ha
   ·cases h
theorem aRm {L:List (List Int)} {n:Nat} (hL:LOk L n): ∀ (f j:Nat) {x:List Int},XOk x n→x.sum<f→f≤100→iF f L x (j:Int)=some ((dec L n f j x).take 500)
 |0,j,x,hx,hs,_=>by have:=aFV λa ha=>(hx.nn a ha).1;omega
 |f+1,j,x,hx,hs,hf=>by
  have hl:=hL.len;show sA (iF f) L x j=_;unfold sA;rw [aVI (by rw [hx.len];have:=hx.n5;omega),aB,aRk λa ha=>(hx.nn a ha).1];by_cases h0:x.sum=0
  ·rw [bF h0,aH];simp only [dec,aU h0];rfl
  ·rw [dF h0,aX];simp only [dec,aQ h0];obtain ⟨g,hg⟩: ∃ g:Nat→List (List Int),g=λi=>if nnB (zP n x (xX L i)) then (dec L n f i (zP n x (xX L i))).map ((i:Int):: ·) else []:=⟨_,rfl⟩
   have key: ∀ (d i:Nat) (acc:List (List Int)),i+d=L.length→Lp (fC (iF f) L x) ((i:Int),acc.take 500)=some ((acc++(List.range' i d).flatMap g).take 500):=by
    intro d;induction d with
    |zero=>
     intro i acc hi;refine (dH (r:=acc.take 500) ?_).trans (by simp);unfold fC;simp only;rw [jO (by omega),aX]
    |succ d ih=>
     intro i acc hi;have hil:i<L.length:=by omega
     by_cases h5:acc.length<500
     ·have ht:acc.take 500=acc:=List.take_of_length_le (by omega)
      have hb:fC (iF f) L x ((i:Int),acc.take 500)=some (.inl (((i+1:Nat):Int),(acc++g i).take 500)):=by
       rw [ht];unfold fC;simp only;rw [iH hil,aH,bF (by omega),aH,aVJ hL hx hil,aB];simp only;rw [hg];simp only;obtain ⟨hr,_⟩:=hL.at hil;cases hn:nnB (zP n x (xX L i)) with
       |false=>rw [Bool.not_false,aH,bS hil (by omega),aQ (by simp),List.append_nil,ht]
       |true=>
        have hs2:=aMl hL hx hr;rw [gG,aX,aRm hL f i (aOm hL hx hr hn) (by omega) (by omega),aB,aU rfl];have:=aTV (rest:=(dec L n f i (zP n x (xX L i))).take 500) (i:=i) (o2:=acc) (by rw [List.length_take];omega) (λw hw=>by have:=(aLA hL f i _ w (List.mem_of_mem_take hw)).1;omega) _ 0 (out:=acc) (Nat.zero_add _) (by omega);rw [show ((0:Nat):Int)=0 from rfl,List.drop_zero] at this;rw [this,aB,bS hil (by omega),aRl _ _ _ _ (by omega)]
      rw [iV hb,ih (i+1) _ (by omega),List.range'_succ,List.flatMap_cons,List.append_assoc]
     ·refine (dH (r:=acc.take 500) ?_).trans (by rw [List.take_append_of_le_length (by omega)]);unfold fC;simp only;rw [iH hil,aH,dF (by rw [List.length_take];omega),aX]
   by_cases hj:j≤L.length
   ·have:=key (L.length - j) j [] (by omega);rw [List.take_nil] at this;rw [this,aB,hg];rfl
   ·have hs:Lp (fC (iF f) L x) ((j:Int),[])=some []:=by
     refine dH ?_;unfold fC;simp only;rw [jO (by omega),aX]
    rw [hs,aB,show L.length - j=0 by omega];rfl
theorem aVK {L:List (List Int)} {n:Nat} (hL:LOk L n) {x:List Int} (hx:XOk x n) {i:Nat} (hi:i<L.length):Lp (kK (xX L i)) (x,0)=some (zP n x (xX L i)):=by
 obtain ⟨hr,_⟩:=hL.at hi;have hrl:=(hL.row _ hr).1;have n5:=hx.n5;refine dK (λk=>(oV n λv=>if v<k then gx x v - gx (xX L i) v else gx x v,(k:Int))) n ?_ (λk hk=>?_) (λ_=>?_)
 ·have:x=oV n λv=>if v<0 then gx x v - gx (xX L i) v else gx x v:=by
   refine List.ext_getElem (by rw [jN,hx.len]) λv h1 h2=>?_;have hv:v<n:=by rw [←hx.len];exact h1
   have e1:=aEi (f:=λv=>if v<0 then gx x v - gx (xX L i) v else gx x v) hv;rw [zJ _ h2] at e1;rw [e1,aQ (Nat.not_lt_zero v),zJ x h1]
  exact congrArg (·,(0:Int)) this
 ·unfold kK;simp only;have h1:=aRj hx hk;have h2:=hL.gx hr hk;rw [hrl,iH hk,aH,vO (by rw [hrl];exact hk),aB,vO (by rw [jN];exact hk),aB,aB,aEi hk,aQ (Nat.lt_irrefl k),cJ (by omega),cS,bS hk (by omega)];congr 3;refine List.ext_getElem (by rw [List.length_set,jN,jN]) λv g1 g2=>?_;have hv:v<n:=by rw [jN] at g2;exact g2
  have e1:=aEi (f:=λv=>if v<k+1 then gx x v - gx (xX L i) v else gx x v) hv;rw [zJ _ g2] at e1;rw [e1,List.getElem_set];have g3:v<(oV n λv=>if v<k then gx x v - gx (xX L i) v else gx x v).length:=by rw [jN];exact hv
  have e2:=aEi (f:=λv=>if v<k then gx x v - gx (xX L i) v else gx x v) hv;rw [zJ _ g3] at e2;by_cases hkv:k=v
  ·subst hkv;rw [aU rfl,aU (by omega)]
  ·rw [aQ hkv,e2];by_cases hvk:v<k
   ·rw [aU hvk,aU (by omega)]
   ·rw [aQ hvk,aQ (by omega)]
 ·unfold kK;simp only;rw [hrl,jO (bK _),aX];congr 2;exact mH λv hv=>by rw [aU (List.mem_range.1 hv)]
theorem aPu {β:Type} (A:List β) (X Y:List β) (N:Nat):(A++X.take (N - A.length))++Y.take (N - (A++X.take (N - A.length)).length)=A++(X++Y).take (N - A.length):=by
 rw [List.append_assoc,List.take_append];congr 2;rw [List.length_append,List.length_take];by_cases h:X.length≤N - A.length
 ·rw [Nat.min_eq_right h,Nat.sub_sub]
 ·rw [Nat.min_eq_left (by omega),show N - (A.length+(N - A.length))=0 by omega,show N - A.length - X.length=0 by omega]
theorem aMm {L:List (List Int)} {n:Nat} (hL:LOk L n): ∀ (f j:Nat) {x taken:List Int} {out:List (List Int)},XOk x n→x.sum<f→f≤100→taken.length+f≤1000→out.length≤500→gA f L (j:Int) x taken out=some (out++((dec L n f j x).map (taken++ ·)).take (500 - out.length))
 |0,j,x,taken,out,hx,hs,_,_,_=>by have:=aFV λa ha=>(hx.nn a ha).1;omega
 |f+1,j,x,taken,out,hx,hs,hf,ht,ho=>by
  have hl:=hL.len;have n5:=hx.n5;have n1:=hx.n1;show pW (gA f) L j x taken out=_;unfold pW;rw [aGf hx.nn (by rw [hx.len];omega),aB];by_cases h0:x.sum=0
  ·rw [bF h0,aH];simp only [dec,aU h0];by_cases h5:out.length<500
   ·unfold iX;rw [bF (by omega),aH,bF (by omega),aH,aB,bF (by omega),aH];simp only [List.map_cons,List.map_nil,List.append_nil];rw [List.take_of_length_le (by simp;omega)]
   ·rw [dF (by omega),aX,show 500 - out.length=0 by omega,List.take_zero,List.append_nil]
  ·rw [dF h0,aX];simp only [dec,aQ h0];obtain ⟨g,hg⟩: ∃ g:Nat→List (List Int),g=λi=>if nnB (zP n x (xX L i)) then (dec L n f i (zP n x (xX L i))).map ((i:Int):: ·) else []:=⟨_,rfl⟩
   have key: ∀ (d i:Nat) (acc:List (List Int)),acc.length≤500→i+d=L.length→Lp (eP (gA f) L x taken) (acc,(i:Int))=some (acc++(((List.range' i d).flatMap g).map (taken++ ·)).take (500 - acc.length)):=by
    intro d;induction d with
    |zero=>
     intro i acc ha hi;refine (dH (r:=acc) ?_).trans (by simp);unfold eP;simp only;rw [jO (by omega),aX]
    |succ d ih=>
     intro i acc ha hi;have hil:i<L.length:=by omega
     obtain ⟨hr,hat⟩:=hL.at hil;by_cases h5:acc.length<500
     ·have hb:eP (gA f) L x taken (acc,(i:Int))=some (.inl (acc++((g i).map (taken++ ·)).take (500 - acc.length),((i+1:Nat):Int))):=by
       unfold eP;simp only;obtain ⟨m,hm1,hm2⟩:=aVH (x:=zP n x (xX L i)) (by rw [aEo];omega) (by rw [aEo];omega);have hc: ∀ {l:List Int},l.length≤1048576→iX l=some l:=λhl=>by unfold iX;rw [bF hl,aH]
       rw [iH hil,aH,bF (by omega),aH,hc (by rw [hx.len];omega),aB,hat,aB,aVK hL hx hil,aB,hm1,aB,hm2,hg];simp only;cases hn:nnB (zP n x (xX L i)) with
       |false=>rw [aX,bS hil (by omega),aQ (by simp),List.map_nil,List.take_nil,List.append_nil]
       |true=>
        have hs2:=aMl hL hx hr;rw [aH,hc (by omega),aB,bF (by simp;omega),aH,aMm hL f i (aOm hL hx hr hn) (by omega) (by omega) (by simp;omega) (by omega),aB,aU rfl,List.map_map,bS hil (by omega)];have e9:(dec L n f i (zP n x (xX L i))).map (taken++[(i:Int)]++ ·)=(dec L n f i (zP n x (xX L i))).map ((taken++ ·)∘((i:Int):: ·)):=mH λw _=>by simp
        rw [e9]
      rw [iV hb,ih (i+1) _ (by rw [List.length_append,List.length_take];omega) (by omega),List.range'_succ,List.flatMap_cons,List.map_append];congr 1;exact aPu acc _ _ 500
     ·refine (dH (r:=acc) ?_).trans (by rw [show 500 - acc.length=0 by omega,List.take_zero,List.append_nil]);unfold eP;simp only;rw [iH hil,aH,dF (by omega),aX]
   by_cases hj:j≤L.length
   ·rw [key (L.length - j) j out ho (by omega),aB,hg]
   ·have hs:Lp (eP (gA f) L x taken) (out,(j:Int))=some out:=by
     refine dH ?_;unfold eP;simp only;rw [jO (by omega),aX]
    rw [hs,aB,show L.length - j=0 by omega];simp
end
noncomputable section
theorem uM {q:Qv} {n:Nat} (H:Fin1 q n):LOk (bH q n) n:=by
 refine ⟨by have:=rH H;omega,λr hr=>?_⟩;have h:=(kF H r).1 hr;obtain ⟨h1,h2⟩:=H.vec h;exact ⟨h2,λa ha=>by have:=h1.2 a ha;omega,h.pos H.F⟩
theorem aPv {q:Qv} (hb:bQ q) {x:List Int} (hx:bI x): ∃ W b,iM q x=some (W,b)∧iL q x=some (W,b)∧((b=false∧W=[])∨(b=true∧ ∃ n,Fin1 q n∧dT q=some (bH q n,true)∧cX q=some (bH q n,true)∧W=(dec (bH q n) n 40 0 x).take 500)):=by
 obtain ⟨L,b,h1,h2,h3⟩:=aOk hb;unfold iM iL;rcases h3 with ⟨rfl,rfl⟩|⟨rfl,n,H,rfl⟩
 ·rw [h1,h2];exact ⟨[],false,rfl,rfl,.inl ⟨rfl,rfl⟩⟩
 ·cases hd:aBB q x with
  |false=>
   refine ⟨[],false,?_,?_,.inl ⟨rfl,rfl⟩⟩
   ·rw [h1,aB,gG,aX,aBj hb hx,aB,hd,Bool.not_false,aH]
   ·rw [h2,aB,gG,aX,aBk hb hx,aB,hd,Bool.not_false,aH]
  |true=>
   have hL:=uM H
   have hX:XOk x n:=by
    unfold aBB at hd;simp only [cY,gJ] at hd;obtain ⟨_,hl,ha,_⟩:=hd;have:=H.Q.n0;refine ⟨by omega,H.Q.n1,H.Q.n5,λa h=>?_⟩;have:=List.all_eq_true.1 ha a h;exact sP this
   have hs:x.sum<40:=by have:=(aKY hX.nn).2;have:=hX.len;have:=hX.n5;omega
   have e1:=aMm hL 40 0 (taken:=[]) (out:=[]) hX hs (by omega) (by simp) (by simp);have e2:=aRm hL 40 0 hX hs (by omega);rw [show ((0:Nat):Int)=0 from rfl] at e1 e2;simp only [List.nil_append,List.length_nil,Nat.sub_zero] at e1;rw [show (λx:List Int=>x)=id from rfl,List.map_id] at e1;refine ⟨(dec (bH q n) n 40 0 x).take 500,true,?_,?_,.inr ⟨rfl,n,H,h1,h2,rfl⟩⟩
   ·rw [h1,aB,gG,aX,aBj hb hx,aB,hd,gG,aX];unfold iX;rw [bF (by exact hx),aH,aB];simp only;rw [e1,aB]
   ·rw [h2,aB,gG,aX,aBk hb hx,aB,hd,gG,aX];simp only;rw [e2,aB]
end
noncomputable section
set_option maxRecDepth 10000
set_option maxHeartbeats 4000000
def iU (a0:Rp):Option Bool:=
 (aBi a0 1048576).bind λv1=>
 bif decide (v1<0) then
 (some (true))
 else
 ((pM a0).bind λv3=>
 (jZ v3).bind λv4=>
 (pM a0).bind λv5=>
 (gR v5).bind λv6=>
 (jB v6.1 v4.1).bind λv7=>
 bif !v7 then
 (some (false))
 else
 (bif !(v6.2==v4.2) then
 (some (false))
 else
 ((pM a0).bind λv10=>
 (yJ v5 v10).bind λv11=>
 bif !v11 then
 (some (false))
 else
 ((vL v5 1).bind λv13=>
 bif decide (v13.1.length=v5.q.src.length) then
 (bif decide (v13.2.1.length=v5.q.tgt.length) then
 (bif decide (v13.2.2.1.length=v5.dims.length) then
 (bif decide (v13.2.2.2.1.length=v5.maps.length) then
 (bif decide (v13.2.2.2.2<0) then
 (some (false))
 else
 ((jB v6.1 v4.1).bind λv19=>
 bif !v19 then
 (some (false))
 else
 (bif !(v6.2==v4.2) then
 (some (false))
 else
 ((iJ v6.1 1).bind λv22=>
 bif decide (v22.1.length=v6.1.length) then
 ((qC v22.1 1).bind λv24=>
 bif decide (v24<0) then
 (some (false))
 else
 (bif !decide (v24=v22.2) then
 (some (false))
 else
 ((pM a0).bind λv27=>
 (gR v27).bind λv28=>
 (jB v28.1 v4.1).bind λv29=>
 bif !v29 then
 (some (false))
 else
 (bif !(v28.2==v4.2) then
 (some (false))
 else
 ((qC v22.1 1).bind λv32=>
 bif decide (v32<0) then
 (some (false))
 else
 (bif !decide (v32=v22.2) then
 (some (false))
 else
 (some (true))))))))
 else none))))
 else none)
 else none)
 else none)
 else none))))
theorem wH (a0:Rp) (r:Bool) (h:iU a0=some r):HasC Tryz.prog 4 [.agg (eR a0)] (.bl r):=by
 refine aHY aI (rvs:=[.tmp 2]) (ns:=nmA) Tryz.func4 k k Tryz.ntmps4 k k k (λW=>?_);refine aHX<|aGe<|aGe<|aCR (λw0_2 S0_2 r0_2=>?_);refine aCR (λw0_3 S0_3 r0_3=>?_);refine aCR (λw0_4 S0_4 r0_4=>?_);refine aCR (λw0_5 S0_5 r0_5=>?_);refine aHV<|aHW<|sS<|se (wb k) k<|gU k2<|sn<|tn<|sS<|gU k2<|sn<|tn<|sS<|lpS k8<|eD k2<|oB h λv1 hv1 h=>se (oC (aKR a0 1048576 v1 hv1) k (jR (vrR k r0_2 r0_3 r0_4 r0_5) (wkS k pC))) k<|gU k2<|sn<|tn<|sQ<|sS<|eD k2<|cmS k4<|sn<|tn<|dB k h (λ_ h=>sS<|gU k2<|sn<|tn<|aE<|aG<|iY h k2) λ_ h=>?_;refine aD<|tn<|sS<|lpS k8<|oB h λv3 hv3 h=>se (cRK (yI a0 v3 hv3) k3 (jR (vrR k r0_2 r0_3 r0_4 r0_5) pC)) k<|oB h λv4 hv4 h=>se (cTK cU (aBM v3 v4 hv4) k3 (jR (.inl (vaR k8)) pC)) k<|eD k2<|se (bW k k (by intro _ h;cases h)) k<|se (bW k k (by intro _ h;cases h)) k<|gU k2<|gU k2<|sn<|tn<|sS<|lpS k8<|oB h λv5 hv5 h=>se (cRK (yI a0 v5 hv5) k3 (jR (vrR k r0_2 r0_3 r0_4 r0_5) pC)) k<|se (cN aI k k) k<|se (ws k) k<|sn<|tn<|sS<|lpS k8<|oB h λv6 hv6 h=>se (cTK cU (uL v5 v6 hv6) k3 (jR (.inl (vaR k8)) pC)) k<|eD k2<|se (bW k k (by intro _ h;cases h)) k<|se (bW k k (by intro _ h;cases h)) k ?_;refine gU k2<|gU k2<|sn<|tn<|aN (t:=mN [(1,.ptr 0 0 0),(4,.own 5 0 v4.1.length),(5,.bl v4.2),(6,.ptr 10 0 0),(7,.own 11 0 v6.1.length),(8,.bl v6.2)] [(0,⟨6,[[.int a0.p,.int a0.q.n,.sc w0_2,.sc w0_3,.sc w0_4,.sc w0_5]]⟩),(5,⟨1,v4.1.map (ow eI)⟩),(6,⟨1,v5.q.src.map (ow eI)⟩),(7,⟨1,v5.q.tgt.map (ow eI)⟩),(8,⟨1,v5.dims.map (ow eI)⟩),(9,⟨3,v5.maps.map (ow eM)⟩),(10,⟨6,[oRp v5 6 7 8 9]⟩),(11,⟨1,v6.1.map (ow eI)⟩)] 12 ⟨0,true,fxW W,true⟩) (bJ (bG k2) (bU k<|bP k<|bP k<|bP k<|bP k<|bX (dA.plainO _) k<|fW k<|bP k<|aS) k4)<|sQ<|sS<|eD k2<|eD k2<|oB h λv7 hv7 h=>se (oC (nB v6.1 v4.1 v7 hv7) k (wkT k k (wkT k k pC))) k<|se (dZ k) k<|eD k2<|mX h (λq8 h=>gP 36 k q8<|bZ k k<|bZ k k<|bZ k k<|pkS k3<|sn<|tn<|dS k k<|sS<|gU k2<|sn<|tn<|aE<|aG<|iY h k2) λq8 h=>?_;refine gP 36 k q8<|eD k2<|eD k2<|se (aNC (by kernel_rfl) k k) k<|pkS k3<|sn<|tn<|dB k h (λ_ h=>sS<|gU k2<|sn<|tn<|aE<|aG<|iY h k2) λ_ h=>?_;refine aD<|tn<|sQ<|sQ<|aP gK<|lp k8<|lp k8<|oB h λv10 hv10 h=>ae (cRK (yI a0 v10 hv10) k3 (jR (vrR k r0_2 r0_3 r0_4 r0_5) pC)) k<|oB h λv11 hv11 h=>ae (oC (aKS v5 v10 v11 hv11) k (jR (.inl (vaR k8)) (jR (.inl (vaR k8)) pC))) k<|ae (dZ k) k<|an<|rI (by kernel_rfl)<|tn<|dB k h (λ_ h=>sS<|gU k2<|sn<|tn<|aE<|aG<|iY h k2) λ_ h=>?_;refine aD<|tn<|sS<|gU k2<|sn<|tn<|sS<|lpS k8<|eD k2<|oB h λv13 hv13 h=>gO (t:=mN [(1,.ptr 0 0 0),(4,.own 5 0 v4.1.length),(5,.bl v4.2),(6,.ptr 10 0 0),(7,.own 11 0 v6.1.length),(8,.bl v6.2),(9,.int 1),(32,.own 11 0 v6.1.length),(33,.own 5 0 v4.1.length),(34,.bl v7),(35,.bl (!v7)),(36,.bl false),(37,.bl v6.2),(38,.bl v4.2),(39,.bl (!(v6.2==v4.2))),(40,.bl (!(v6.2==v4.2))),(41,.agg (oRp v5 6 7 8 9)),(42,.agg [.int a0.p,.int a0.q.n,.sc w0_2,.sc w0_3,.sc w0_4,.sc w0_5]),(43,.agg (oRp v10 12 13 14 15)),(44,.bl v11),(45,.bl (!v11)),(46,.agg (oRp v5 6 7 8 9)),(47,.int 1)] [(0,⟨6,[[.int a0.p,.int a0.q.n,.sc w0_2,.sc w0_3,.sc w0_4,.sc w0_5]]⟩),(5,⟨1,v4.1.map (ow eI)⟩),(6,⟨1,v5.q.src.map (ow eI)⟩),(7,⟨1,v5.q.tgt.map (ow eI)⟩),(8,⟨1,v5.dims.map (ow eI)⟩),(9,⟨3,v5.maps.map (ow eM)⟩),(10,⟨6,[oRp v5 6 7 8 9]⟩),(11,⟨1,v6.1.map (ow eI)⟩),(12,⟨1,v10.q.src.map (ow eI)⟩),(13,⟨1,v10.q.tgt.map (ow eI)⟩),(14,⟨1,v10.dims.map (ow eI)⟩),(15,⟨3,v10.maps.map (ow eM)⟩)] 16 ⟨0,true,fxW W,true⟩) (bJ (bG k2) (bU k<|bP k<|bP k<|bP k<|bP k<|bX (dA.plainO _) k<|fW k<|bP k<|bP k<|bP k<|bP k<|bX (dA.plainO _) k<|aS) k4)<|aQc (σ:=sg [(0,6),(1,7),(2,8),(3,9)]) (σ':=sg [(6,0),(7,1),(8,2),(9,3)]) (touch:=[6,7,8,9]) (news:=[]) (hl2:=[(6,⟨1,v13.1.map (ow eI)⟩),(7,⟨1,v13.2.1.map (ow eI)⟩),(8,⟨1,v13.2.2.1.map (ow eI)⟩),(9,⟨3,v13.2.2.2.1.map (ow eM)⟩)]) (n':=16) (r2:= .int v13.2.2.2.2) (aIQ v5 1 v13 hv13) k k ⟨_,_,k,⟨_,_,k,k,⟨_,_,k,k,⟨_,_,k,⟨k,k,k,k⟩,⟨_,_,k,⟨k,k,k,k⟩,⟨_,_,k,⟨k,k,k,k⟩,⟨_,_,k,⟨k,k,k,k⟩,k⟩⟩⟩⟩⟩⟩,⟨_,_,k,k,k⟩⟩ ⟨⟨_,k,k,.inl ⟨k,cU.plainO _⟩⟩,k,⟨_,k,k,.inl ⟨k,cU.plainO _⟩⟩,k,⟨_,k,k,.inl ⟨k,cU.plainO _⟩⟩,k,⟨_,k,k,.inl ⟨k,dA.plainO _⟩⟩,k,aS⟩ k k k ⟨⟨_,k,k,.inl ⟨k,cU.plainO _⟩⟩,k,⟨_,k,k,.inl ⟨k,cU.plainO _⟩⟩,k,⟨_,k,k,.inl ⟨k,cU.plainO _⟩⟩,k,⟨_,k,k,.inl ⟨k,dA.plainO _⟩⟩,k,aS⟩ k k k ⟨k,cU.tame _ _,⟨k,cU.tame _ _,⟨k,cU.tame _ _,⟨k,dA.tame _ _,aS⟩⟩⟩⟩ k k k k k (aBd ⟨k,k,k,k,k,k,k,k,k,k,k,k,k,k,k,k,k,k,k,k,k,k,k,aS⟩) (aBe (skip:=[6,7,8,9]) ⟨.inr (yZ k),.inr (cU.df _ _),.inl (by decide),.inl (by decide),.inl (by decide),.inl (by decide),.inr (yZ k),.inr (cU.df _ _),.inr (cU.df _ _),.inr (cU.df _ _),.inr (cU.df _ _),.inr (dA.df _ _),aS⟩)<|cG h λq14 h=>cG h λq15 h=>cG h λq16 h=>cG h λq17 h=>gU k2<|sn<|tn<|sQ<|sS<|eD k2<|cmS k4<|eD k2<|mX h (λq18 h=>gP 51 k q18<|bZ k k<|bZ k k<|bZ k k<|bZ k k<|pkS k3<|eD k2<|bZ k k<|bZ k k<|bZ k k<|pkS k3<|sn<|tn<|dS k k<|sS<|gU k2<|sn<|tn<|aE<|aG<|iY h k2) λq18 h=>?_;refine gP 51 k q18<|eD k2<|eD k2<|oB h λv19 hv19 h=>se (oC (nB v6.1 v4.1 v19 hv19) k (wkT k k (wkT k k pC))) k<|se (dZ k) k<|pkS k3<|eD k2<|mX h (λq20 h=>gP 57 k q20<|bZ k k<|bZ k k<|bZ k k<|pkS k3<|sn<|tn<|dS k k<|sS<|gU k2<|sn<|tn<|aE<|aG<|iY h k2) λq20 h=>?_;refine gP 57 k q20<|eD k2<|eD k2<|se (aNC (by kernel_rfl) k k) k<|pkS k3<|sn<|tn<|dB k h (λ_ h=>sS<|gU k2<|sn<|tn<|aE<|aG<|iY h k2) λ_ h=>?_;refine aD<|tn<|sS<|gU k2<|sn<|tn<|sS<|eD k2<|eD k2<|oB h λv22 hv22 h=>se (kG (σ:=sg [(0,11)]) (σ':=sg [(11,0)]) (touch:=[11]) (news:=[]) (hl2:=[(11,⟨1,v22.1.map (ow eI)⟩)]) (n':=16) (r2:= .int v22.2) (qB v6.1 1 v22 hv22) k k ⟨_,_,k,⟨k,k,k,k⟩,⟨_,_,k,k,k⟩⟩ ⟨⟨_,k,k,.inl ⟨k,cU.plainO _⟩⟩,k,aS⟩ k k k ⟨⟨_,k,k,.inl ⟨k,cU.plainO _⟩⟩,k,aS⟩ k k k ⟨k,cU.tame _ _,aS⟩ k k) k<|cG h λq23 h=>gU k2<|sn<|tn<|sS<|gU k2<|sn<|tn<|sS<|eD k2<|eD k2<|oB h λv24 hv24 h=>se (oC (aBw v22.1 1 v24 hv24) k (jR (.inl (xK cU k (by first|rfl|simp only [List.length_set,of_decide_eq_true q23]))) (wkS k pC))) k<|gU k2<|sn<|tn<|aN (t:=mN [(1,.ptr 0 0 0),(4,.own 5 0 v4.1.length),(5,.bl v4.2),(7,.own 11 0 v22.1.length),(10,.int v22.2),(11,.int v24)] [(0,⟨6,[[.int a0.p,.int a0.q.n,.sc w0_2,.sc w0_3,.sc w0_4,.sc w0_5]]⟩),(5,⟨1,v4.1.map (ow eI)⟩),(11,⟨1,v22.1.map (ow eI)⟩)] 16 ⟨0,true,fxW W,true⟩) (bJ (lB 3 k2 (iG ⟨_,k,⟨k,k,(by simp only [aM,lA,lT,lR,lC,lN,of_decide_eq_true q23]),k⟩⟩ (bG k2))) (bU k<|bP k<|bP k<|aS) k4) ?_;refine sQ<|sS<|eD k2<|cmS k4<|sn<|tn<|dB k h (λ_ h=>sS<|gU k2<|sn<|tn<|aE<|aG<|iY h k2) λ_ h=>?_;refine aD<|tn<|sQ<|sS<|eD k2<|eD k2<|cmS k4<|sn<|tn<|dB k h (λ_ h=>sS<|gU k2<|sn<|tn<|aE<|aG<|iY h k2) λ_ h=>?_;exact aD<|tn<|sS<|lpS k8<|oB h λv27 hv27 h=>se (cRK (yI a0 v27 hv27) k3 (jR (vrR k r0_2 r0_3 r0_4 r0_5) pC)) k<|oB h λv28 hv28 h=>se (cTK cU (uL v27 v28 hv28) k3 (jR (.inl (vaR k8)) pC)) k<|eD k2<|se (bW k k (by intro _ h;cases h)) k<|se (bW k k (by intro _ h;cases h)) k<|gU k2<|gU k2<|sn<|tn<|sQ<|sS<|eD k2<|eD k2<|oB h λv29 hv29 h=>se (oC (nB v28.1 v4.1 v29 hv29) k (wkT k k (wkT k k pC))) k<|se (dZ k) k<|eD k2<|mX h (λq30 h=>gP 83 k q30<|bZ k k<|bZ k k<|bZ k k<|pkS k3<|sn<|tn<|dS k k<|sS<|gU k2<|sn<|tn<|aE<|aG<|iY h k2) λq30 h=>gP 83 k q30<|eD k2<|eD k2<|se (aNC (by kernel_rfl) k k) k<|pkS k3<|sn<|tn<|dB k h (λ_ h=>sS<|gU k2<|sn<|tn<|aE<|aG<|iY h k2) λ_ h=>aD<|tn<|sS<|gU k2<|sn<|tn<|sS<|eD k2<|eD k2<|oB h λv32 hv32 h=>se (oC (aBw v22.1 1 v32 hv32) k (jR (.inl (xK cU k (by first|rfl|simp only [List.length_set,of_decide_eq_true q23]))) (wkS k pC))) k<|gU k2<|sn<|tn<|aN (t:=mN [(10,.int v22.2),(11,.int v32)] [] 21 ⟨0,true,fxW W,true⟩) (bJ (bG k2) aS k4)<|sQ<|sS<|eD k2<|cmS k4<|sn<|tn<|dB k h (λ_ h=>sS<|gU k2<|sn<|tn<|aE<|aG<|iY h k2) λ_ h=>aD<|tn<|sQ<|sS<|eD k2<|eD k2<|cmS k4<|sn<|tn<|dB k h (λ_ h=>sS<|gU k2<|sn<|tn<|aE<|aG<|iY h k2) λ_ h=>aD<|tn<|sS<|gU k2<|sn<|tn<|aE<|iY h k2
end
end Go.Proofs.YtilpfdokmlanjaaGreat

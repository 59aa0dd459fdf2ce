/-
  Several texts of the claim in one.
-/
import Derived.Laws.BytesString
import Derived.Test.YtilpfdokmlanjaaGreatJ13
set_option linter.unusedVariables false
set_option linter.unusedSimpArgs false
namespace Go.Proofs.YtilpfdokmlanjaaGreat
open Go.RowKit
noncomputable section
theorem aPx {s:AState} {b b' i j n k':Nat} {blk:Blk} {cs:List AV} {es':List (List AV)} (hb:s.heap b=some blk) (hi:blk.es[i]? =some cs) (hj:cs[j]? =some (.own b' 0 n)) (hne:Nat.beq b b'=false) (hv:view1 s.heap (.own b' 0 n) (.list k' es')):
  Ent s ⟨s.env,bC [(b',none),(b,some ⟨blk.k,blk.es.set i (cs.take j++[.list k' es']++cs.drop (j+1))⟩)] s.heap,s.used,s.ns,s.kp⟩:=by
 have hjl:j<cs.length:=by
  rcases eD j cs.length with h'|h'
  ·exact h'
  ·rw [gL h'] at hj;cases hj
 intro C ν a w hs;have hne':b≠b':=by rintro rfl;simp at hne
 obtain ⟨φ,hh⟩:=hs.heap;obtain ⟨hub,⟨hk1,hx1⟩,hnd1,hB1⟩:=hh.blk b blk hb;have hcs:=hk1 cs (List.mem_of_getElem? hi);rcases hx1 with ⟨q1,q2,_⟩|⟨β,c,arr,ty,T,vs,q1,q2,q3,q4,q5,q6,q7,q8⟩
 ·rw [q2] at hi;simp at hi
 ·have hext:Ext w s.heap s.used ν w (bC [(b',none),(b,some ⟨blk.k,blk.es.set i (cs.take j++[.list k' es']++cs.drop (j+1))⟩)] s.heap) s.used ν:=by
   refine ⟨λ_ h=>h,λb2 blk2 _ hb2=>?_,λx hx hfr=>⟨rfl,λb2 blk2 β2 c2 hb2 hν2=>?_⟩,rfl⟩
   ·simp only [bC] at hb2;by_cases e:b2=b'
    ·subst e;rw [bY] at hb2;cases hb2
    ·rw [cC e] at hb2;by_cases e2:b2=b
     ·subst e2;simp only [bA,bY,aN,Option.some.injEq] at hb2;subst hb2;exact ⟨blk,hb,rfl,by simp,rfl⟩
     ·rw [cC e2] at hb2;exact ⟨blk2,hb2,rfl,rfl,rfl⟩
   ·simp only [bC] at hb2;by_cases e:b2=b'
    ·subst e;rw [bY] at hb2;cases hb2
    ·rw [cC e] at hb2;by_cases e2:b2=b
     ·subst e2;exact hfr b2 blk β2 c2 hb hν2
     ·rw [cC e2] at hb2;exact hfr b2 blk2 β2 c2 hb2 hν2
  have hdrop:blk.es.flatten.drop (i*blk.k+j)= .own b' 0 n::blk.es.flatten.drop (i*blk.k+j+1):=by
   obtain ⟨r,hr⟩:=wU hk1 hi;have h1:blk.es.flatten.drop (i*blk.k+j)=(cs++r).drop j:=by rw [←hr,List.drop_drop]
   have h2:blk.es.flatten.drop (i*blk.k+j+1)=(cs++r).drop (j+1):=by rw [←hr,List.drop_drop,Nat.add_assoc]
   rw [h1,h2,List.drop_append_of_le_length (by omega),List.drop_append_of_le_length (by omega),List.drop_eq_getElem_cons hjl];have:cs[j]= .own b' 0 n:=by simpa [hjl] using hj
   rw [this];rfl
  have hfl:blk.es.flatten=blk.es.flatten.take (i*blk.k+j)++([.own b' 0 n]++blk.es.flatten.drop (i*blk.k+j+1)):=by
   rw [List.singleton_append,←hdrop,List.take_append_drop]
  rw [hfl] at q8;obtain ⟨v1,v2,S1,S2,e1,e2,e3,e4,e5⟩:=q8.append_inv;obtain ⟨v3,v4,S3,S4,f1,f2,f3,f4,f5⟩:=e5.append_inv;subst f1 f2;obtain ⟨v,r0,S5,S6,rfl,rfl,g1,⟨rfl,rfl⟩⟩:=f4;simp only [CellRep] at g1;obtain ⟨g2,rfl⟩:=g1;obtain ⟨⟨S',d1,d2⟩,_⟩:=view1.repF hh g2 hv
  have hfree: ∀ y∈S',jN (bC [(b',none),(b,some ⟨blk.k,blk.es.set i (cs.take j++[.list k' es']++cs.drop (j+1))⟩)] s.heap) ν y:=by
   intro y hy;rcases d2 y hy with ⟨b0,b1,b2,b3⟩|hf
   ·simp only [vH,List.mem_singleton] at b1;subst b1;refine ⟨λc2 blk2 β2 c3 hc hν e=>?_,?_⟩
    ·subst e;simp only [bC] at hc;by_cases e:c2=b0
     ·subst e;rw [bY] at hc;cases hc
     ·rw [cC e] at hc;simp only [bA] at hc;by_cases e2:c2=b
      ·subst e2;exact hh.apart c2 b0 β2 (by rw [hb];simp) b2 e (by rw [q1] at hν;cases hν;rw [q6];simp) b3
      ·rw [cC e2] at hc;simp only [bA] at hc;exact hh.apart c2 b0 β2 (by rw [hc];simp) b2 e (oX (hh.blk c2 blk2 hc).2.1 hν) b3
    ·obtain ⟨blk3,hbl⟩:=Option.ne_none_iff_exists'.1 b2;exact hs.okM y ((hh.blk b0 blk3 hbl).2.2.2 y b3)
   ·exact ⟨(hext.free y (d1.lt y hy) hf.1).2,hf.2⟩
  have hφ:φ b=β::(S1++S4):=by rw [q6,e2];simp
  refine ⟨ν,hs.below,hs.base,hs.fresh,hs.defers,hs.size,λt x hx=>by obtain ⟨v,h1,h2⟩:=hs.env t x hx;exact ⟨v,h1,h2.ext hext⟩,⟨φ,?_,?_⟩,hs.kp,hs.ext.trans hext,hs.szE,hs.okM,hs.okF⟩
  ·intro x blk2 hx;simp only [bC] at hx;by_cases e:x=b'
   ·subst e;rw [bY] at hx;cases hx
   ·rw [cC e] at hx;by_cases e0:x=b
    ·subst e0;simp only [bA,bY,aN,Option.some.injEq] at hx;subst hx;refine ⟨hub,⟨?_,.inr ⟨β,c,arr,ty,S1++S4,vs,q1,q2,q3,by simpa using q4,q5,hφ,by simpa using q7,?_⟩⟩,hnd1,hB1⟩
     ·intro d hd;rcases List.mem_or_eq_of_mem_set hd with h|h
      ·exact hk1 d h
      ·rw [h];simp;omega
     ·rw [xQ (n:=1) hk1 hi rfl (by omega),e1];have m1:CellsRep w (bC [(b',none),(x,some ⟨blk.k,blk.es.set i (cs.take j++[.list k' es']++cs.drop (j+1))⟩)] s.heap) s.used ν [.list k' es'] [v] []:=⟨v,[],[],[],rfl,rfl,⟨⟨S',d1,hfree⟩,rfl⟩,rfl,rfl⟩;have m2:=(e4.ext hext (λ_ _=>rfl)).append (m1.append (f5.ext hext (λ_ _=>rfl)));rw [List.append_assoc (List.take (i*blk.k+j) blk.es.flatten)];simpa using m2
    ·rw [cC e0] at hx;obtain ⟨p1,p2,p3,p4⟩:=hh.blk x blk2 hx;exact ⟨p1,p2.ext hext rfl (λ_ _=>rfl),p3,p4⟩
  ·have hsub: ∀ x,bC [(b',none),(b,some ⟨blk.k,blk.es.set i (cs.take j++[.list k' es']++cs.drop (j+1))⟩)] s.heap x≠none→s.heap x≠none:=by
    intro x hx;have hxb':x≠b':=by rintro rfl;simp [bC] at hx
    simp only [bC,cC hxb',bA] at hx;by_cases e0:x=b
    ·subst e0;rw [hb];simp
    ·rw [cC e0] at hx;exact hx
   intro x1 x2 y hx1 hx2 hne2 hy1 hy2;exact hh.apart x1 x2 y (hsub x1 hx1) (hsub x2 hx2) hne2 hy1 hy2
theorem aMQ {s:AState} {b b' i j n k':Nat} {blk:Blk} {cs:List AV} {es':List (List AV)} (hb:s.heap b=some blk) (hi:blk.es[i]? =some cs) (hj:cs[j]? =some (.own b' 0 n)) (hne:Nat.beq b b'=false) (hv:view1 s.heap (.own b' 0 n) (.list k' es')):
  Ent s ⟨s.env,bC [(b',none),(b,some ⟨blk.k,blk.es.set i (aBm cs j [.list k' es'])⟩)] s.heap,s.used,s.ns,s.kp⟩:=by
 have hjl:j<cs.length:=by
  rcases eD j cs.length with h'|h'
  ·exact h'
  ·rw [gL h'] at hj;cases hj
 rw [←aCu (by simp;omega)];exact aPx hb hi hj hne hv
end
noncomputable section
set_option maxRecDepth 10000
set_option maxHeartbeats 4000000
def kT (a0:Qv):Option Qv:=
 (mJ a0.src).bind λv1=>
 (mJ a0.tgt).bind λv2=>
 some ((⟨a0.n,v1,v2⟩:Qv))
theorem yW (a0:Qv) (r:Qv) (h:kT a0=some r):HasC Tryz.prog 121 [.agg (eQ a0)] (.agg (eQ r)):=by
 exact hM [.cell 2 26] Tryz.func121 Tryz.ntmps121 k<|sR<|ae (wb k) k<|ae (bS aB k k) k<|an<|tn<|sQ<|aM gI<|fp k8<|lp k8<|fp k8<|lp k8<|oB h λv1 hv1 h=>ae (cL cS (aAZ a0.src v1 hv1) k3 (dZ k aV)) k<|fp k8<|lp k8<|oB h λv2 hv2 h=>ae (cL cS (aAZ a0.tgt v2 hv2) k3 (dZ k aV)) k<|ae (cU aB k k k k k k) k<|ae (ws k) k<|an<|qU (by kernel_rfl)<|tn<|aI<|sp h (bT k k k (nO (aJ (k) (aJ (fA cS k k) (aJ (fA cS k k) eK)))))
def rG (a1:Qv) (a2:(List Int)) (x1:((List Mt)×Int)):Option (((List Mt)×Int) ⊕ (List Mt)):=
 bif decide (x1.2<(a1.src.length:Int)) then
 ((cZ a1.src x1.2).bind λv4=>
 (cZ a1.tgt x1.2).bind λv5=>
 (cZ a2 v5).bind λv6=>
 (cZ a2 v4).bind λv7=>
 (lM v6 v7).bind λv8=>
 bif decide (x1.1.length+1≤4294967296) then
 (some (.inl ((x1.1++[v8]),wr (x1.2+1))))
 else none)
 else
 (some (.inr x1.1))
def rW (a0:Int) (a1:Qv) (a2:(List Int)):Option Rp:=
 (kT a1).bind λv1=>
 (mJ a2).bind λv2=>
 (Lp (rG a1 a2) ([],0)).bind λy10=>
 some ((⟨a0,v1,v2,y10⟩:Rp))
theorem aCf (a0:Int) (a1:Qv) (a2:(List Int)) (r:Rp) (h:rW a0 a1 a2=some r):HasC Tryz.prog 83 [.int a0,.agg (eQ a1),.list 1 (a2.map eI)] (.agg (eR r)):=by
 refine hM [.cell 6 29] Tryz.func83 Tryz.ntmps83 k<|sR<|ae (wb k) k<|ae (bS aB k k) k<|an<|tn<|sR<|am k k<|lp k8<|oB h λv1 hv1 h=>ae (cQ (yW a1 v1 hv1) k3 (aX (mW k) aV)) k<|am k k<|oB h λv2 hv2 h=>ae (cL cS (aAZ a2 v2 hv2) k3 (dZ k aV)) k<|ae (cU aB k k k k k k) k<|ae (bS aB k k) k<|ae (ws k) k<|an<|tn<|sQ<|sR<|fp k8<|lp k8<|ln k4<|am k k<|an<|tn<|aE<|oB h λy10 hy10 h=>cD (body:=(rG a1 a2)) hy10 (λ(x1:((List Mt)×Int))=>mN [(2,.list 1 (a2.map eI)),(4,.ptr 0 0 0),(6,.ptr 1 0 0),(7,.ptr 2 0 0),(17,.list 1 (a1.src.map eI)),(18,.int (a1.src.length:Int)),(19,.int x1.2)] [(0,⟨3,[eQ a1]⟩),(1,⟨6,[jV]⟩),(2,⟨6,[[.int a0,.int v1.n,.own 3 0 v1.src.length,.own 4 0 v1.tgt.length,.own 5 0 v2.length,.own 6 0 x1.1.length]]⟩),(3,⟨1,v1.src.map (ow eI)⟩),(4,⟨1,v1.tgt.map (ow eI)⟩),(5,⟨1,v2.map (ow eI)⟩),(6,⟨3,x1.1.map (ow eM)⟩)] 7) (λr e t=>e= .exit 0∧Ent t (mN [(6,.ptr 0 0 0),(7,.ptr 1 0 0)] [(0,⟨6,[jV]⟩),(1,⟨6,[[.int a0,.int v1.n,.own 2 0 v1.src.length,.own 3 0 v1.tgt.length,.own 4 0 v2.length,.own 5 0 r.length]]⟩),(2,⟨1,v1.src.map (ow eI)⟩),(3,⟨1,v1.tgt.map (ow eI)⟩),(4,⟨1,v2.map (ow eI)⟩),(5,⟨3,r.map (ow eM)⟩)] 6)) (fP (σ:=sg [(0,0),(1,1),(2,5),(3,2),(4,3),(5,4)]) (bK k2) (bO k<|bO k<|hX ⟨_,k,k,.inr ⟨_,_,k,⟨_,_,k,k,⟨_,_,k,k,⟨_,_,k,⟨k,k,k,k⟩,⟨_,_,k,⟨k,k,k,k⟩,⟨_,_,k,⟨k,k,k,k⟩,⟨_,_,k,⟨k,k,k,k⟩,k⟩⟩⟩⟩⟩⟩,k⟩⟩ k<|bN k<|bN k<|bN k<|hX k k<|aY) k) ?_ ?_
 ·intro x1 o h;refine sR<|cm k4<|an<|tn<|sQ<|dV k h (λ_ h=>?_) λ_ h=>aU<|aC<|aC<|sp h ⟨_,k,k,(pI [1,2,3,4,5,6] (bK k2) (bO k<|fB k<|bN k<|bN k<|bN k<|cO (cI.plainO _) k<|aY) k4)⟩;refine aG<|tn<|sQ<|aE<|sR<|am k k<|oB h λv4 hv4 h=>ae (xl hv4 k) k<|lr k7<|aa k k<|aT k2<|aM gI<|fp k8<|lp k8<|am k k<|fp k8<|lp k8<|am k k<|oB h λv5 hv5 h=>ae (xl hv5 k) k<|lr k7<|oB h λv6 hv6 h=>ae (xl hv6 k) k<|lr k7<|am k k<|am k k<|oB h λv7 hv7 h=>ae (xl hv7 k) k<|lr k7<|oB h λv8 hv8 h=>ae (cM (rS v6 v7 v8 hv8) k3 (dZ k (dZ k aV))) k ?_;exact ae (wl k) k<|cG h λq9 h=>ae (kK aB (l:=x1.1) (c:=[.int v8.rows,.int v8.cols,.own 7 0 v8.cells.length]) q9 k k k k k k k k k k k k k k) k<|fp k8<|ae (ws k) k<|an<|qU (by kernel_rfl)<|aS<|tn<|aP (t:=mN [(2,.list 1 (a2.map eI)),(4,.ptr 0 0 0),(6,.ptr 1 0 0),(7,.ptr 2 0 0),(17,.list 1 (a1.src.map eI)),(18,.int (a1.src.length:Int)),(19,.int x1.2)] [(0,⟨3,[eQ a1]⟩),(1,⟨6,[jV]⟩),(2,⟨6,[[.int a0,.int v1.n,.own 3 0 v1.src.length,.own 4 0 v1.tgt.length,.own 5 0 v2.length,.own 9 0 ((x1.1++[v8]).length)]]⟩),(3,⟨1,v1.src.map (ow eI)⟩),(4,⟨1,v1.tgt.map (ow eI)⟩),(5,⟨1,v2.map (ow eI)⟩),(9,⟨3,List.map (ow eM) (x1.1++[v8])⟩)] 10) (Ent.trans (eX (b:=9) (b':=7) (j:=2) (es':=v8.cells.map eI) k k k k (aO _ _) (cS.frzs _)) (bU (bK k2) (bO k<|bO k<|hX ⟨_,k,k,.inr ⟨_,_,k,⟨_,_,k,k,⟨_,_,k,k,⟨_,_,k,⟨k,k,k,k⟩,⟨_,_,k,⟨k,k,k,k⟩,⟨_,_,k,⟨k,k,k,k⟩,⟨_,_,k,⟨k,k,(by simp only [aO,lA,lT,lR,lC,lN]),k⟩,k⟩⟩⟩⟩⟩⟩,k⟩⟩ k<|bN k<|bN k<|bN k<|hX ⟨_,k,k,.inl ⟨kY v8 k,cI.plainO _⟩⟩ k<|aY) k4))<|rg<|ae (bF k k) k<|am k k<|an<|tn<|sp h ⟨_,k,(pI [0,1,2,3,4,5,9] (bK k2) (bO k<|bO k<|fB k<|bN k<|bN k<|bN k<|cO (cI.plainO _) k<|aY) k4)⟩
 ·rintro e t ⟨rfl,hent⟩;exact aL<|tn<|aP hent<|sR<|lp k8<|ae (ws k) k<|an<|tn<|aI<|sp h (bT k k k (nO (aJ (k) (aJ (k) (aJ (fA cS k k) (aJ (fA cS k k) (aJ (fA cS k k) (aJ (fA cI k k) eK))))))))
def nT (a0:Qv):Option Qv:=
 bif decide (([]:(List Int)).length +a0.src.length≤4294967296) then
 (bif decide (([]:(List Int)).length +a0.tgt.length≤4294967296) then
 (some ((⟨a0.n,(([]:(List Int))++a0.src),(([]:(List Int))++a0.tgt)⟩:Qv)))
 else none)
 else none
theorem aDa (a0:Qv) (r:Qv) (h:nT a0=some r):HasC Tryz.prog 74 [.agg (eQ a0)] (.agg (eQ r)):=by
 exact hM [.cell 2 26] Tryz.func74 Tryz.ntmps74 k<|sR<|ae (wb k) k<|ae (bS aB k k) k<|an<|tn<|sQ<|aM gI<|fp k8<|lp k8<|ae (wl k) k<|fp k8<|lp k8<|cG h λq1 h=>ae (vW aB (l:=([]:(List Int))) (m:=a0.src) kX q1 k k k k k k k k k k k k) k<|ae (wl k) k<|fp k8<|lp k8<|cG h λq2 h=>ae (vW aB (l:=([]:(List Int))) (m:=a0.tgt) kX q2 k k k k k k k k k k k k) k<|ae (cU aB k k k k k k) k<|ae (ws k) k<|an<|qU (by kernel_rfl)<|tn<|aI<|sp h (bT k k k (nO (aJ (k) (aJ (fA cS k k) (aJ (fA cS k k) eK)))))
def tB (a1:Qv) (a2:(List Int)) (x1:((List Mt)×Int)):Option (((List Mt)×Int) ⊕ (List Mt)):=
 bif decide (x1.2<(a1.src.length:Int)) then
 ((cZ a1.tgt x1.2).bind λv4=>
 (cZ a2 v4).bind λv5=>
 (cZ a1.src x1.2).bind λv6=>
 (cZ a2 v6).bind λv7=>
 (tT v5 v7).bind λv8=>
 bif decide (x1.1.length+1≤4294967296) then
 (some (.inl ((x1.1++[v8]),wr (x1.2+1))))
 else none)
 else
 (some (.inr x1.1))
def uB (a0:Int) (a1:Qv) (a2:(List Int)):Option Rp:=
 (nT a1).bind λv1=>
 bif decide (([]:(List Int)).length +a2.length≤4294967296) then
 ((Lp (tB a1 a2) (([]:(List Mt)),0)).bind λy10=>
 some ((⟨a0,v1,(([]:(List Int))++a2),y10⟩:Rp)))
 else none
theorem aDb (a0:Int) (a1:Qv) (a2:(List Int)) (r:Rp) (h:uB a0 a1 a2=some r):HasC Tryz.prog 33 [.int a0,.agg (eQ a1),.list 1 (a2.map eI)] (.agg (eR r)):=by
 refine hM [.cell 6 29] Tryz.func33 Tryz.ntmps33 k<|sR<|ae (wb k) k<|ae (bS aB k k) k<|an<|tn<|sR<|am k k<|lp k8<|oB h λv1 hv1 h=>ae (cQ (aDa a1 v1 hv1) k3 (aX (mW k) aV)) k<|ae (wl k) k<|am k k<|cG h λq2 h=>ae (vW aB (l:=([]:(List Int))) (m:=a2) kX q2 k k k k k k k k k k k k) k<|ae (wl k) k<|ae (cU aB k k k k k k) k<|ae (bS aB k k) k<|ae (ws k) k<|an<|tn<|aP (t:=mN [(2,.list 1 (a2.map eI)),(4,.ptr 0 0 0),(6,.ptr 1 0 0),(7,.ptr 7 0 0)] [(0,⟨3,[eQ a1]⟩),(1,⟨6,[jV]⟩),(2,⟨1,v1.src.map (ow eI)⟩),(3,⟨1,v1.tgt.map (ow eI)⟩),(5,⟨1,List.map (ow eI) (([]:(List Int))++a2)⟩),(6,⟨3,List.map (ow eM) ([]:(List Mt))⟩),(7,⟨6,[[.int a0,.int v1.n,.own 2 0 v1.src.length,.own 3 0 v1.tgt.length,.own 5 0 ((([]:(List Int))++a2).length),.own 6 0 (([]:(List Mt)).length)]]⟩)] 8) (bU (bK k2) (bO k<|bO k<|bN k<|bN k<|bN k<|cO (cI.plainO _) k<|hX ⟨_,k,k,.inr ⟨_,_,k,⟨_,_,k,k,⟨_,_,k,k,⟨_,_,k,⟨k,k,k,k⟩,⟨_,_,k,⟨k,k,k,k⟩,⟨_,_,k,⟨k,k,k,k⟩,⟨_,_,k,⟨k,k,(by simp only [aO,lA,lT,lR,lC,lN]),k⟩,k⟩⟩⟩⟩⟩⟩,k⟩⟩ k<|aY) k4)<|sQ<|sR<|aT k2<|aE<|oB h λy10 hy10 h=>cD (body:=(tB a1 a2)) hy10 (λ(x1:((List Mt)×Int))=>mN [(2,.list 1 (a2.map eI)),(4,.ptr 0 0 0),(6,.ptr 1 0 0),(7,.ptr 2 0 0),(8,.int x1.2)] [(0,⟨3,[eQ a1]⟩),(1,⟨6,[jV]⟩),(2,⟨6,[[.int a0,.int v1.n,.own 3 0 v1.src.length,.own 4 0 v1.tgt.length,.own 5 0 ((([]:(List Int))++a2).length),.own 6 0 x1.1.length]]⟩),(3,⟨1,v1.src.map (ow eI)⟩),(4,⟨1,v1.tgt.map (ow eI)⟩),(5,⟨1,List.map (ow eI) (([]:(List Int))++a2)⟩),(6,⟨3,x1.1.map (ow eM)⟩)] 7) (λr e t=>e= .exit 0∧Ent t (mN [(6,.ptr 0 0 0),(7,.ptr 1 0 0)] [(0,⟨6,[jV]⟩),(1,⟨6,[[.int a0,.int v1.n,.own 2 0 v1.src.length,.own 3 0 v1.tgt.length,.own 4 0 ((([]:(List Int))++a2).length),.own 5 0 r.length]]⟩),(2,⟨1,v1.src.map (ow eI)⟩),(3,⟨1,v1.tgt.map (ow eI)⟩),(4,⟨1,List.map (ow eI) (([]:(List Int))++a2)⟩),(5,⟨3,r.map (ow eM)⟩)] 6)) (pI [0,1,7,2,3,5,6] (bK k2) (bO k<|bO k<|fB k<|bN k<|bN k<|bN k<|cO (cI.plainO _) k<|aY) k4) ?_ ?_
 ·intro x1 o h;refine sQ<|sR<|am k k<|fp k8<|lp k8<|ln k4<|cm k4<|an<|tn<|dV k h (λ_ h=>?_) λ_ h=>aU<|aC<|aC<|sp h ⟨_,k,k,(pI [1,2,3,4,5,6] (bK k2) (bO k<|fB k<|bN k<|bN k<|bN k<|cO (cI.plainO _) k<|aY) k4)⟩;refine aG<|tn<|sQ<|aE<|aM gI<|fp k8<|lp k8<|am k k<|fp k8<|lp k8<|am k k<|oB h λv4 hv4 h=>ae (xl hv4 k) k<|lr k7<|oB h λv5 hv5 h=>ae (xl hv5 k) k<|lr k7<|am k k<|fp k8<|lp k8<|am k k<|oB h λv6 hv6 h=>ae (xl hv6 k) k<|lr k7<|oB h λv7 hv7 h=>ae (xl hv7 k) k<|lr k7<|oB h λv8 hv8 h=>ae (cM (aDU v5 v7 v8 hv8) k3 (dZ k (dZ k aV))) k<|ae (wl k) k<|cG h λq9 h=>ae (kK aB (l:=x1.1) (c:=[.int v8.rows,.int v8.cols,.own 7 0 v8.cells.length]) q9 k k k k k k k k k k k k k k) k<|fp k8<|ae (ws k) k<|an ?_;exact qU (by kernel_rfl)<|aS<|tn<|aP (t:=mN [(2,.list 1 (a2.map eI)),(4,.ptr 0 0 0),(6,.ptr 1 0 0),(7,.ptr 2 0 0),(8,.int x1.2)] [(0,⟨3,[eQ a1]⟩),(1,⟨6,[jV]⟩),(2,⟨6,[[.int a0,.int v1.n,.own 3 0 v1.src.length,.own 4 0 v1.tgt.length,.own 5 0 ((([]:(List Int))++a2).length),.own 9 0 ((x1.1++[v8]).length)]]⟩),(3,⟨1,v1.src.map (ow eI)⟩),(4,⟨1,v1.tgt.map (ow eI)⟩),(5,⟨1,List.map (ow eI) (([]:(List Int))++a2)⟩),(9,⟨3,List.map (ow eM) (x1.1++[v8])⟩)] 10) (Ent.trans (eX (b:=9) (b':=7) (j:=2) (es':=v8.cells.map eI) k k k k (aO _ _) (cS.frzs _)) (bU (bK k2) (bO k<|bO k<|hX ⟨_,k,k,.inr ⟨_,_,k,⟨_,_,k,k,⟨_,_,k,k,⟨_,_,k,⟨k,k,k,k⟩,⟨_,_,k,⟨k,k,k,k⟩,⟨_,_,k,⟨k,k,k,k⟩,⟨_,_,k,⟨k,k,(by simp only [aO,lA,lT,lR,lC,lN]),k⟩,k⟩⟩⟩⟩⟩⟩,k⟩⟩ k<|bN k<|bN k<|bN k<|hX ⟨_,k,k,.inl ⟨kY v8 k,cI.plainO _⟩⟩ k<|aY) k4))<|rg<|am k k<|ae (bF k k) k<|aT k2<|sp h ⟨_,k,(pI [0,1,2,3,4,5,9] (bK k2) (bO k<|bO k<|fB k<|bN k<|bN k<|bN k<|cO (cI.plainO _) k<|aY) k4)⟩
 ·rintro e t ⟨rfl,hent⟩;exact aL<|tn<|aP hent<|sR<|lp k8<|ae (ws k) k<|an<|tn<|aI<|sp h (bT k k k (nO (aJ (k) (aJ (k) (aJ (fA cS k k) (aJ (fA cS k k) (aJ (fA cS k k) (aJ (fA cI k k) eK))))))))
def kH (v7:Rp) (v11:List Int) (x1:(List Mt)):Option ((List Mt) ⊕ (Rp×Bool)):=
 (qP v7.maps v11).bind λv12=>
 (tY (⟨v7.p,v7.q,v7.dims,v12⟩:Rp) (⟨v7.p,v7.q,v7.dims,v12⟩:Rp)).bind λv13=>
 bif decide (v13=1) then
 (some (.inr (((⟨v7.p,v7.q,v7.dims,v12⟩:Rp),true))))
 else
 (some (.inl v12))
def wK (a0:Int) (a1:Qv) (a2:(List Int)):Option (Rp×Bool):=
 (jS a0).bind λv1=>
 bif !v1 then
 (some (((⟨0,(⟨0,[],[]⟩:Qv),[],[]⟩:Rp),false)))
 else
 ((xV a1 a2).bind λv3=>
 bif !v3 then
 (some (((⟨0,(⟨0,[],[]⟩:Qv),[],[]⟩:Rp),false)))
 else
 ((rU a1 a2).bind λv5=>
 bif !v5 then
 (some (((⟨0,(⟨0,[],[]⟩:Qv),[],[]⟩:Rp),false)))
 else
 ((rW a0 a1 a2).bind λv7=>
 (jT v7.maps).bind λv8=>
 bif decide (10<((v8.length:Nat):Int)) then
 (some (((⟨0,(⟨0,[],[]⟩:Qv),[],[]⟩:Rp),false)))
 else
 (bif (decide (0≤((v8.length:Nat):Int))&&decide (((v8.length:Nat):Int)≤1048576)) then
 (bif aHy (List.replicate ((v8.length:Nat):Int).toNat 1) then
 ((Fl (kH v7) (dL (List.replicate ((v8.length:Nat):Int).toNat 1)) v7.maps).bind λy15=>
 Sum.elim (λy15=>
 some (((⟨0,(⟨0,[],[]⟩:Qv),[],[]⟩:Rp),false))
 ) (λy17=>
 some y17
 ) y15)
 else none)
 else none))))
theorem aIA (a0:Int) (a1:Qv) (a2:(List Int)) (r:(Rp×Bool)) (h:wK a0 a1 a2=some r):HasC Tryz.prog 78 [.int a0,.agg (eQ a1),.list 1 (a2.map eI)] (.tuple [.agg (eR r.1),.bl r.2]):=by
 refine hM [.cell 6 29,.cell 7 4] Tryz.func78 Tryz.ntmps78 k<|sR<|ae (wb k) k<|ae (bS aB k k) k<|ae (bS aB k k) k<|an<|tn<|sQ<|sR<|am k k<|oB h λv1 hv1 h=>ae (bB (oZ a0 v1 hv1) k (dZ k aV)) k<|ae (dM k) k<|am k k<|tG h (λq2 h=>aZ 15 k q2<|aK k4<|aK k4<|pk k3<|am k k<|aK k4<|aK k4<|pk k3<|an<|tn<|fS k k<|sR<|ae (cU aB k k k k k k) k<|ae (ws k) k<|ae (ws k) k<|an<|tn<|aI<|aH<|sp h (bT k k k (dW k (cB (jC (aJ (k) (aJ (k) (aJ (k) (aJ (k) (aJ (k) (aJ (k) eK))))))) (cB (k) gE))))) λq2 h=>?_;refine aZ 15 k q2<|lp k8<|am k k<|oB h λv3 hv3 h=>ae (bB (aIm a1 a2 v3 hv3) k (aX (mW k) (dZ k aV))) k<|ae (dM k) k<|pk k3<|am k k<|tG h (λq4 h=>aZ 21 k q4<|aK k4<|aK k4<|pk k3<|an<|tn<|fS k k<|sR<|ae (cU aB k k k k k k) k<|ae (ws k) k<|ae (ws k) k<|an<|tn<|aI<|aH<|sp h (bT k k k (dW k (cB (jC (aJ (k) (aJ (k) (aJ (k) (aJ (k) (aJ (k) (aJ (k) eK))))))) (cB (k) gE))))) λq4 h=>?_;refine aZ 21 k q4<|lp k8<|am k k<|oB h λv5 hv5 h=>ae (bB (aCZ a1 a2 v5 hv5) k (aX (mW k) (dZ k aV))) k<|ae (dM k) k<|pk k3<|an<|tn<|dV k h (λ_ h=>sR<|ae (cU aB k k k k k k) k<|ae (ws k) k<|ae (ws k) k<|an<|tn<|aI<|aH<|sp h (bT k k k (dW k (cB (jC (aJ (k) (aJ (k) (aJ (k) (aJ (k) (aJ (k) (aJ (k) eK))))))) (cB (k) gE))))) λ_ h=>?_;refine aG<|tn<|sR<|am k k<|lp k8<|am k k<|oB h λv7 hv7 h=>ae (cR (aCf a0 a1 a2 v7 hv7) k3 (dZ k (aX (mW k) (dZ k aV)))) k<|ae (bS aB k k) k<|ae (ws k) k<|an<|tn<|aP (t:=mN [(6,.ptr 1 0 0),(7,.ptr 2 0 0),(8,.ptr 7 0 0)] [(1,⟨6,[jV]⟩),(2,⟨1,[[.bl false]]⟩),(3,⟨1,v7.q.src.map (ow eI)⟩),(4,⟨1,v7.q.tgt.map (ow eI)⟩),(5,⟨1,v7.dims.map (ow eI)⟩),(6,⟨3,v7.maps.map (ow eM)⟩),(7,⟨6,[oRp v7 3 4 5 6]⟩)] 8) (bU (bK k2) (bO k<|bO k<|bN k<|bN k<|bN k<|cO (cI.plainO _) k<|fB k<|aY) k4)<|sR<|fp k8<|lp k8<|oB h λv8 hv8 h=>ae (cL cS (aAc v7.maps v8 hv8) k3 (aX (zY cI k k) aV)) k<|ae (bX aB k k k k) k<|aT k2<|sQ<|sR<|am k k<|cm k4<|an<|tn<|dV k h (λ_ h=>sR<|ae (cU aB k k k k k k) k<|ae (ws k) k<|ae (ws k) k<|an<|tn<|aI<|aH<|sp h (bT k k k (dW k (cB (jC (aJ (k) (aJ (k) (aJ (k) (aJ (k) (aJ (k) (aJ (k) eK))))))) (cB (k) gE))))) λ_ h=>?_;refine aG<|tn<|sQ<|aP (aMQ (b:=7) (b':=6) (i:=0) (j:=5) (es':=v7.maps.map eM) k k k k (aCI cI k k))<|rg<|fp k8<|lp k8<|ae (bS aB k k) k<|ae (ws k) k<|an<|tn<|sQ<|sR<|ae (wl k) k<|am k k<|cG h λq10 h=>ae (aJW (aJc 1 ((v8.length:Nat):Int) q10) k k (aX (aNS k k ⟨_,_,k,⟨_,_,k,k,k⟩,k⟩) (dZ k aV))) k<|ae (aML (aOw (List.replicate ((v8.length:Nat):Int).toNat 1)) k k k k) k<|an<|tn<|aE<|cG h λq16 h=>oB h λy15 hy15 h=>aMJ (f:=(kH v7)) (σ:=(List Mt)) (ρ:=(Rp×Bool)) y15 v7.maps [(6,.ptr 0 0 0),(7,.ptr 1 0 0),(8,.ptr 2 0 0),(10,.ptr 6 0 0),(44,.fn 169 [.ref [.list 1 (List.map eI (List.replicate ((v8.length:Nat):Int).toNat 1))]])] [(0,⟨6,[[.int 0,.int 0,.nil 1,.nil 1,.nil 1,.nil 3]]⟩),(1,⟨1,[[.bl false]]⟩),(2,⟨6,[[.int v7.p,.int v7.q.n,.own 3 0 v7.q.src.length,.own 4 0 v7.q.tgt.length,.own 5 0 v7.dims.length,.list 3 (v7.maps.map eM)]]⟩),(3,⟨1,v7.q.src.map (ow eI)⟩),(4,⟨1,v7.q.tgt.map (ow eI)⟩),(5,⟨1,v7.dims.map (ow eI)⟩),(6,⟨1,[[.list 3 (v7.maps.map eM)]]⟩)] 7 (nmA.drop 7) (λx1=>[(0,⟨6,[[.int 0,.int 0,.nil 1,.nil 1,.nil 1,.nil 3]]⟩),(1,⟨1,[[.bl false]]⟩),(2,⟨6,[[.int v7.p,.int v7.q.n,.own 3 0 v7.q.src.length,.own 4 0 v7.q.tgt.length,.own 5 0 v7.dims.length,.list 3 (x1.map eM)]]⟩),(3,⟨1,v7.q.src.map (ow eI)⟩),(4,⟨1,v7.q.tgt.map (ow eI)⟩),(5,⟨1,v7.dims.map (ow eI)⟩),(6,⟨1,[[.list 3 (v7.maps.map eM)]]⟩)]) 8 (nmA.drop 8) (λr e t=>e= .ret∧tI TT [.cell 6 29,.cell 7 4] (.tuple [.agg (eR r.1),.bl r.2]) .ret ⟨aBg [(6,.ptr 0 0 0),(7,.ptr 1 0 0),(8,.ptr 2 0 0),(10,.ptr 6 0 0),(44,.fn 169 [.ref [.list 1 (List.map eI (List.replicate ((v8.length:Nat):Int).toNat 1))]])],t.heap,t.used,t.ns,0⟩) (aTn q16) hy15 k k k (λ_=>k) (pI [1,2,7,3,4,5,9] (mX 4 k2 (kP ⟨_,k,⟨k,⟨_,_,k,k,k⟩⟩⟩ aY)) (bO k<|bO k<|fB k<|bN k<|bN k<|bN k<|bO k<|aY) k4) k (bU (mX 5 k2 (kP ⟨_,k,⟨k,⟨_,_,k,k,k⟩⟩⟩ aY)) (bN k<|bO k<|bO k<|fB k<|bN k<|bN k<|bN k<|bO k<|aY) k4) ?_ ?_
 ·intro x1 v11 o hxv11 h;have hlv11:=bG (xJ hxv11);change AC Tryz.prog _ _ (mN [(45,.own 7 0 ((List.replicate ((v8.length:Nat):Int).toNat 1).length)),(6,.ptr 0 0 0),(7,.ptr 1 0 0),(8,.ptr 2 0 0),(10,.ptr 6 0 0),(44,.fn 169 [.ref [.list 1 (List.map eI (List.replicate ((v8.length:Nat):Int).toNat 1))]])] [(7,⟨1,v11.map (ow eI)⟩),(0,⟨6,[jV]⟩),(1,⟨1,[[.bl false]]⟩),(2,⟨6,[[.int v7.p,.int v7.q.n,.own 3 0 v7.q.src.length,.own 4 0 v7.q.tgt.length,.own 5 0 v7.dims.length,.list 3 (x1.map eM)]]⟩),(3,⟨1,v7.q.src.map (ow eI)⟩),(4,⟨1,v7.q.tgt.map (ow eI)⟩),(5,⟨1,v7.dims.map (ow eI)⟩),(6,⟨1,[[.list 3 (v7.maps.map eM)]]⟩)] 8 ⟨8,false,none,false⟩) _;refine rg<|aa k k<|an ?_;refine ⟨k,?_⟩;exact aE<|sR<|lp k8<|am k k<|oB h λv12 hv12 h=>ae (cL cI (aDW v7.maps v11 v12 hv12) k3 (dZ k (aX (zY cS k (by first|rfl|simp only [List.length_set,of_decide_eq_true hlv11])) aV))) k<|fp k8<|ae (ws k) k<|an<|tn<|sR<|lp k8<|lp k8<|oB h λv13 hv13 h=>ae (bB (aIj (⟨v7.p,v7.q,v7.dims,v12⟩:Rp) (⟨v7.p,v7.q,v7.dims,v12⟩:Rp) v13 hv13) k (aX (vaR k8) (aX (vaR k8) aV))) k<|cm k4<|an<|tn<|dV k h (λ_ h=>sR<|lp k8<|ae (ws k) k<|ae (ws k) k<|an<|tn<|aI<|bD<|sp h ⟨k,k,bT k k k (dW k (cB (jC (aJ (k) (aJ (k) (aJ (fA cS k k) (aJ (fA cS k k) (aJ (fA cS k k) (aJ (fA cI k k) eK))))))) (cB (k) gE)))⟩) λ_ h=>aG<|aS<|sp h ⟨k,(Ent.trans (aMQ (b:=2) (b':=8) (i:=0) (j:=5) (es':=v12.map eM) k k k k (aCI cI k k)) (bU (mX 5 k2 (kP ⟨_,k,⟨k,⟨_,_,k,k,k⟩⟩⟩ aY)) (bN k<|bO k<|bO k<|fB k<|bN k<|bN k<|bN k<|bO k<|aY) k4))⟩
 ·rcases y15 with y15|y17
  ·dsimp only;exact aS<|tn<|sR<|ae (cU aB k k k k k k) k<|ae (ws k) k<|ae (ws k) k<|an<|tn<|aI<|sp h (bT k k k (dW k (cB (jC (aJ (k) (aJ (k) (aJ (k) (aJ (k) (aJ (k) (aJ (k) eK))))))) (cB (k) gE))))
  ·rintro e t ⟨rfl,hent⟩;exact bD<|aH<|sp h hent
def kI (x1:((List Mt)×Int×Int)):Option (((List Mt)×Int×Int) ⊕ ((List Mt)×Int)):=
 bif decide (x1.2.2<((x1.1.length:Nat):Int)) then
 ((cZ x1.1 x1.2.2).bind λv9=>
 some (.inl ((x1.1.set x1.2.2.toNat v9),wr (x1.2.1+((v9.cells.length:Nat):Int)),wr (x1.2.2+1))))
 else
 (some (.inr (x1.1,x1.2.1)))
def nJ (x3:((List Mt)×Int×Int)) (x4:((List Mt)×Int×Int)):Option (((List Mt)×Int×Int) ⊕ ((List Mt)×Int)):=
 bif decide (0≤x4.2.2) then
 ((cZ x4.1 x3.2.2).bind λv16=>
 (cZ v16.cells x4.2.2).bind λv17=>
 some (.inl ((x4.1.set x3.2.2.toNat (⟨v16.rows,v16.cols,(v16.cells.set x4.2.2.toNat (x4.2.1.tmod 2))⟩:Mt)),wr (x4.2.1.tdiv 2),wr (x4.2.2 - 1))))
 else
 (some (.inr (x4.1,x4.2.1)))
def nK (x3:((List Mt)×Int×Int)):Option (((List Mt)×Int×Int) ⊕ (List Mt)):=
 bif decide (0≤x3.2.2) then
 ((cZ x3.1 x3.2.2).bind λv14=>
 (Lp (nJ x3) ((x3.1.set x3.2.2.toNat v14),x3.2.1,wr (((v14.cells.length:Nat):Int) - 1))).bind λy18=>
 some (.inl (y18.1,y18.2,wr (x3.2.2 - 1))))
 else
 (some (.inr x3.1))
def gT (v7:Rp) (y10:((List Mt)×Int)) (x2:((List Mt)×Int)):Option (((List Mt)×Int) ⊕ (Unit ⊕ (Rp×Bool))):=
 bif decide (y10.2≤10) then
 (bif !decide (y10.2<0) then
 (bif decide (x2.2<aNm 1 y10.2) then
 ((Lp nK (x2.1,x2.2,wr (((x2.1.length:Nat):Int) - 1))).bind λy19=>
 (tZ (⟨v7.p,v7.q,v7.dims,y19⟩:Rp) (⟨v7.p,v7.q,v7.dims,y19⟩:Rp)).bind λv20=>
 bif decide (v20=1) then
 (some (.inr (.inr (((⟨v7.p,v7.q,v7.dims,y19⟩:Rp),true)))))
 else
 (some (.inl (y19,wr (x2.2+1)))))
 else
 (some (.inr (.inl ()))))
 else none)
 else
 (some (.inr (.inl ())))
def wL (a0:Int) (a1:Qv) (a2:(List Int)):Option (Rp×Bool):=
 (lS a0).bind λv1=>
 bif !v1 then
 (some (((⟨0,(⟨0,[],[]⟩:Qv),[],[]⟩:Rp),false)))
 else
 ((xU a1 a2).bind λv3=>
 bif !v3 then
 (some (((⟨0,(⟨0,[],[]⟩:Qv),[],[]⟩:Rp),false)))
 else
 ((rT a1 a2).bind λv5=>
 bif !v5 then
 (some (((⟨0,(⟨0,[],[]⟩:Qv),[],[]⟩:Rp),false)))
 else
 ((uB a0 a1 a2).bind λv7=>
 (Lp kI (v7.maps,0,0)).bind λy10=>
 (Lp (gT v7 y10) (y10.1,0)).bind λy23=>
 Sum.elim (λy24=>
 some (((⟨0,(⟨0,[],[]⟩:Qv),[],[]⟩:Rp),false))
 )
 (λy25=>
 some y25
 )
 y23)))
theorem aIB (a0:Int) (a1:Qv) (a2:(List Int)) (r:(Rp×Bool)) (h:wL a0 a1 a2=some r):HasC Tryz.prog 73 [.int a0,.agg (eQ a1),.list 1 (a2.map eI)] (.tuple [.agg (eR r.1),.bl r.2]):=by
 refine aEa aB (rvs:=[.cell 6 29,.tmp 7]) (ns:=nmA) Tryz.func73 k k Tryz.ntmps73 k k k (λW=>?_);refine aOf<|aCX<|vZ<|tJ (λw1_1 S1_1 r1_1=>?_);refine tJ (λw1_2 S1_2 r1_2=>?_);refine aAA<|aRF (λw2_0 S2_0 r2_0=>?_);refine aEZ<|sS<|se (wb k) k<|se (bS aB k k) k<|gV k2<|sn<|tn<|sQ<|sS<|eN k2<|oB h λv1 hv1 h=>se (mV (rR a0 v1 hv1) k (wkS k jD)) k<|se (dM k) k<|eN k2<|tG h (λq2 h=>gZ 18 k q2<|cE k k<|cE k k<|cE k k<|cE k k<|pkS k3<|eN k2<|cE k k<|cE k k<|cE k k<|cE k k<|pkS k3<|sn<|tn<|fS k k<|sS<|se (cU aB k k k k k k) k<|se (ws k) k<|gV k2<|sn<|tn<|aI<|aH<|sp h (bT k k k (dW k (cB (jC (aJ (k) (aJ (k) (aJ (k) (aJ (k) (aJ (k) (aJ (k) eK))))))) (cB (k) gE))))) λq2 h=>?_;refine gZ 18 k q2<|yL k8<|eN k2<|oB h λv3 hv3 h=>se (mV (aIl a1 a2 v3 hv3) k (fT (.inr (dU (qX k k) (dU (kZ k r1_1) (dU (kZ k r1_2) vY)))) (wkD k r2_0 jD))) k<|se (dM k) k<|pkS k3<|eN k2<|tG h (λq4 h=>gZ 24 k q4<|cE k k<|cE k k<|cE k k<|cE k k<|pkS k3<|sn<|tn<|fS k k<|sS<|se (cU aB k k k k k k) k<|se (ws k) k<|gV k2<|sn<|tn<|aI<|aH<|sp h (bT k k k (dW k (cB (jC (aJ (k) (aJ (k) (aJ (k) (aJ (k) (aJ (k) (aJ (k) eK))))))) (cB (k) gE))))) λq4 h=>?_;refine gZ 24 k q4<|yL k8<|eN k2<|oB h λv5 hv5 h=>se (mV (aCY a1 a2 v5 hv5) k (fT (.inr (dU (qX k k) (dU (kZ k r1_1) (dU (kZ k r1_2) vY)))) (wkD k r2_0 jD))) k<|se (dM k) k<|pkS k3<|sn<|tn<|dV k h (λ_ h=>sS<|se (cU aB k k k k k k) k<|se (ws k) k<|gV k2<|sn<|tn<|aI<|aH<|sp h (bT k k k (dW k (cB (jC (aJ (k) (aJ (k) (aJ (k) (aJ (k) (aJ (k) (aJ (k) eK))))))) (cB (k) gE))))) λ_ h=>?_;refine aG<|tn<|sS<|eN k2<|yL k8<|eN k2<|oB h λv7 hv7 h=>se (cRK (aDb a0 a1 a2 v7 hv7) k3 (wkS k (fT (.inr (dU (qX k k) (dU (kZ k r1_1) (dU (kZ k r1_2) vY)))) (wkD k r2_0 jD)))) k<|se (bS aB k k) k<|se (ws k) k<|sn<|tn<|aP (t:=mN [(6,.ptr 1 0 0),(8,.ptr 6 0 0)] [(1,⟨6,[jV]⟩),(2,⟨1,v7.q.src.map (ow eI)⟩),(3,⟨1,v7.q.tgt.map (ow eI)⟩),(4,⟨1,v7.dims.map (ow eI)⟩),(5,⟨3,v7.maps.map (ow eM)⟩),(6,⟨6,[oRp v7 2 3 4 5]⟩)] 7 ⟨0,true,vQ W,true⟩) (bU (bK k2) (bO k<|bN k<|bN k<|bN k<|cO (cI.plainO _) k<|fB k<|aY) k4)<|sS<|gV k2<|sn<|tn<|sQ<|sS<|gV k2<|sn<|tn<|aE<|oB h λy10 hy10 h=>cD (body:=kI) hy10 (λ(x1:((List Mt)×Int×Int))=>mN [(6,.ptr 0 0 0),(8,.ptr 1 0 0),(9,.int x1.2.1),(10,.int x1.2.2)] [(0,⟨6,[jV]⟩),(1,⟨6,[[.int v7.p,.int v7.q.n,.own 2 0 v7.q.src.length,.own 3 0 v7.q.tgt.length,.own 4 0 v7.dims.length,.own 5 0 x1.1.length]]⟩),(2,⟨1,v7.q.src.map (ow eI)⟩),(3,⟨1,v7.q.tgt.map (ow eI)⟩),(4,⟨1,v7.dims.map (ow eI)⟩),(5,⟨3,x1.1.map (ow eM)⟩)] 6 ⟨0,true,vQ W,true⟩) (λr e t=>e= .exit 0∧Ent t (mN [(6,.ptr 0 0 0),(8,.ptr 1 0 0),(9,.int r.2)] [(0,⟨6,[jV]⟩),(1,⟨6,[[.int v7.p,.int v7.q.n,.own 2 0 v7.q.src.length,.own 3 0 v7.q.tgt.length,.own 4 0 v7.dims.length,.own 5 0 r.1.length]]⟩),(2,⟨1,v7.q.src.map (ow eI)⟩),(3,⟨1,v7.q.tgt.map (ow eI)⟩),(4,⟨1,v7.dims.map (ow eI)⟩),(5,⟨3,r.1.map (ow eM)⟩)] 6 ⟨0,true,vQ W,true⟩)) (pI [1,6,2,3,4,5] (bK k2) (bO k<|fB k<|bN k<|bN k<|bN k<|cO (cI.plainO _) k<|aY) k4) ?_ ?_
 ·intro x1 o h;refine sQ<|sS<|eN k2<|fpS k8<|yL k8<|se (bX aB k k k k) k<|cmS k4<|sn<|tn<|dV k h (λ_ h=>?_) λ_ h=>aU<|aC<|aC<|sp h ⟨_,k,k,(bU (bK k2) (bO k<|fB k<|bN k<|bN k<|bN k<|cO (cI.plainO _) k<|aY) k4)⟩;exact aG<|tn<|sQ<|aE<|rgS<|eN k2<|fpS k8<|yL k8<|eN k2<|oB h λv9 hv9 h=>gY (t:=mN [(6,.ptr 0 0 0),(8,.ptr 1 0 0),(9,.int x1.2.1),(10,.int x1.2.2),(35,.int x1.2.2),(36,.ptr 1 0 5),(37,.own 5 0 x1.1.length),(38,.int ((x1.1.length:Nat):Int)),(39,.bl (decide (x1.2.2<((x1.1.length:Nat):Int)))),(42,.int x1.2.1),(43,.ptr 1 0 5),(44,.own 5 0 x1.1.length),(45,.int x1.2.2)] [(0,⟨6,[jV]⟩),(1,⟨6,[[.int v7.p,.int v7.q.n,.own 2 0 v7.q.src.length,.own 3 0 v7.q.tgt.length,.own 4 0 v7.dims.length,.own 5 0 x1.1.length]]⟩),(2,⟨1,v7.q.src.map (ow eI)⟩),(3,⟨1,v7.q.tgt.map (ow eI)⟩),(4,⟨1,v7.dims.map (ow eI)⟩),(5,⟨3,(x1.1.map (ow eM)).set x1.2.2.toNat [.int v9.rows,.int v9.cols,.abs 1 (v9.cells.map eI)]⟩)] 6 ⟨0,true,vQ W,true⟩) (bU (bK k2) (bO k<|fB k<|bN k<|bN k<|bN k<|hX ⟨_,k,k,.inl ⟨aAB (dH hv9),xD cI k⟩⟩ k<|aY) k4)<|gY (xE (b:=5) (c:=6) (i:=x1.2.2.toNat) (j:=2) (n:=v9.cells.length) (A:=x1.1.map (ow eM)) (fs:=v9.cells.map (ow eI)) (by rw [eW];exact iH hv9) k k k k (aO _ _) (gR _ _) (aAo ⟨k,k,k,k,k,k,k,k,k,k,k,k,k,aY⟩) (aAp (skip:=[]) ⟨.inr (tK k),.inr (tK k),.inr (cS.df _ _),.inr (cS.df _ _),.inr (cS.df _ _),.inr (cI.dfS _ _ _ k),aY⟩))<|gY (t:=mN [(6,.ptr 0 0 0),(8,.ptr 1 0 0),(9,.int x1.2.1),(10,.int x1.2.2),(35,.int x1.2.2),(36,.ptr 1 0 5),(37,.own 5 0 x1.1.length),(38,.int ((x1.1.length:Nat):Int)),(39,.bl (decide (x1.2.2<((x1.1.length:Nat):Int)))),(42,.int x1.2.1),(43,.ptr 1 0 5),(44,.own 5 0 x1.1.length),(45,.int x1.2.2)] [(0,⟨6,[jV]⟩),(1,⟨6,[[.int v7.p,.int v7.q.n,.own 2 0 v7.q.src.length,.own 3 0 v7.q.tgt.length,.own 4 0 v7.dims.length,.own 5 0 x1.1.length]]⟩),(2,⟨1,v7.q.src.map (ow eI)⟩),(3,⟨1,v7.q.tgt.map (ow eI)⟩),(4,⟨1,v7.dims.map (ow eI)⟩),(5,⟨3,(x1.1.map (ow eM)).set x1.2.2.toNat [.int v9.rows,.int v9.cols,.own 6 0 v9.cells.length]⟩),(6,⟨1,v9.cells.map (ow eI)⟩)] 7 ⟨0,true,vQ W,true⟩) (fP (σ:=sg [(0,0),(1,1),(2,2),(3,3),(4,4),(5,5),(6,6)]) (bK k2) (bO k<|fB k<|bN k<|bN k<|bN k<|hX ⟨_,k,k,.inr (aAY (σ:=sg [(0,0),(1,1),(2,2),(3,3),(4,4),(5,5),(6,6)]) (m:=7) (e:=eM) (l:=x1.1) (i:=x1.2.2.toNat) (c:=[.int v9.rows,.int v9.cols,.own 6 0 v9.cells.length]) (d:=[.int v9.rows,.int v9.cols,.own 6 0 v9.cells.length]) cI ⟨_,_,k,k,⟨_,_,k,k,⟨_,_,k,⟨k,k,k,k⟩,k⟩⟩⟩)⟩ k<|bN k<|aY) k)<|se (xo hv9 k) k<|fpS k8<|se (bZ aB k k k k (aDn (iH hv9)) k k) k<|se (bX aB k k k k) k<|se (bF k k) k<|gV k2<|sn<|aS<|tn<|aP (t:=mN [(6,.ptr 0 0 0),(8,.ptr 1 0 0),(9,.int (wr (x1.2.1+((v9.cells.length:Nat):Int)))),(10,.int x1.2.2)] [(0,⟨6,[jV]⟩),(1,⟨6,[[.int v7.p,.int v7.q.n,.own 2 0 v7.q.src.length,.own 3 0 v7.q.tgt.length,.own 4 0 v7.dims.length,.own 5 0 ((x1.1.set x1.2.2.toNat v9).length)]]⟩),(2,⟨1,v7.q.src.map (ow eI)⟩),(3,⟨1,v7.q.tgt.map (ow eI)⟩),(4,⟨1,v7.dims.map (ow eI)⟩),(5,⟨3,List.map (ow eM) (x1.1.set x1.2.2.toNat v9)⟩)] 7 ⟨0,true,vQ W,true⟩) (Ent.trans (yA (b:=5) (b':=6) (j:=2) (es':=v9.cells.map eI) (by rw [eW];exact iH hv9) k k k k (aO _ _) (cS.frzs _)) (bU (bK k2) (bO k<|hX ⟨_,k,k,.inr ⟨_,_,k,⟨_,_,k,k,⟨_,_,k,k,⟨_,_,k,⟨k,k,k,k⟩,⟨_,_,k,⟨k,k,k,k⟩,⟨_,_,k,⟨k,k,k,k⟩,⟨_,_,k,⟨k,k,(by simp only [aO,lA,lT,lR,lC,lN]),k⟩,k⟩⟩⟩⟩⟩⟩,k⟩⟩ k<|bN k<|bN k<|bN k<|hX ⟨_,k,k,.inl ⟨aCV v9 k,cI.plainO _⟩⟩ k<|aY) k4))<|rgS<|eN k2<|se (bF k k) k<|gV k2<|sn<|tn<|sp h ⟨_,k,(bU (bK k2) (bO k<|fB k<|bN k<|bN k<|bN k<|cO (cI.plainO _) k<|aY) k4)⟩
 ·rintro e t ⟨rfl,hent⟩;refine aL<|tn<|aP hent<|sQ<|sS<|gV k2<|sn<|tn<|aE<|oB h λy23 hy23 h=>cD (body:=(gT v7 y10)) hy23 (λ(x2:((List Mt)×Int))=>mN [(6,.ptr 0 0 0),(8,.ptr 1 0 0),(9,.int y10.2),(11,.int x2.2)] [(0,⟨6,[jV]⟩),(1,⟨6,[[.int v7.p,.int v7.q.n,.own 2 0 v7.q.src.length,.own 3 0 v7.q.tgt.length,.own 4 0 v7.dims.length,.own 5 0 x2.1.length]]⟩),(2,⟨1,v7.q.src.map (ow eI)⟩),(3,⟨1,v7.q.tgt.map (ow eI)⟩),(4,⟨1,v7.dims.map (ow eI)⟩),(5,⟨3,x2.1.map (ow eM)⟩)] 6 ⟨0,true,vQ W,true⟩) (λr e t=>Sum.elim (λa=>(λr e t=>e= .exit 2∧Ent t (mN [(6,.ptr 0 0 0)] [(0,⟨6,[jV]⟩)] 1 ⟨0,true,vQ W,true⟩)) a e t) (λb=>(λr e t=>e= .ret∧tI TT [.cell 6 29,.tmp 7] (.tuple [.agg (eR r.1),.bl r.2]) .ret t) b e t) r) (bU (bK k2) (bO k<|fB k<|bN k<|bN k<|bN k<|cO (cI.plainO _) k<|aY) k4) ?_ ?_
  ·intro x2 o h;refine sQ<|sS<|eN k2<|cmS k4<|eN k2<|tG h (λq11 h=>?_) λq11 h=>gZ 53 k q11<|cE k k<|cE k k<|cE k k<|cE k k<|pkS k3<|sn<|tn<|oU k k<|aU<|aC<|aC<|sp h ⟨_,k,k,(bU (bK k2) (bO k<|aY) k4)⟩;refine gZ 53 k q11<|eN k2<|eN k2<|cG h λq22 h=>se (aRX k k q22) k<|cmS k4<|pkS k3<|sn<|tn<|dV k h (λ_ h=>?_) λ_ h=>aU<|aC<|aC<|sp h ⟨_,k,k,(bU (bK k2) (bO k<|aY) k4)⟩;refine aG<|tn<|sQ<|aE<|sS<|eN k2<|gV k2<|sn<|tn<|sQ<|sS<|fpS k8<|yL k8<|se (bX aB k k k k) k<|se (iZ k k) k<|gV k2<|sn<|tn<|aE<|oB h λy19 hy19 h=>cD (body:=nK) hy19 (λ(x3:((List Mt)×Int×Int))=>mN [(6,.ptr 0 0 0),(8,.ptr 1 0 0),(9,.int y10.2),(11,.int x2.2),(12,.int x3.2.1),(13,.int x3.2.2)] [(0,⟨6,[jV]⟩),(1,⟨6,[[.int v7.p,.int v7.q.n,.own 2 0 v7.q.src.length,.own 3 0 v7.q.tgt.length,.own 4 0 v7.dims.length,.own 5 0 x3.1.length]]⟩),(2,⟨1,v7.q.src.map (ow eI)⟩),(3,⟨1,v7.q.tgt.map (ow eI)⟩),(4,⟨1,v7.dims.map (ow eI)⟩),(5,⟨3,x3.1.map (ow eM)⟩)] 6 ⟨0,true,vQ W,true⟩) (λr e t=>e= .exit 4∧Ent t (mN [(6,.ptr 0 0 0),(8,.ptr 1 0 0),(9,.int y10.2),(11,.int x2.2)] [(0,⟨6,[jV]⟩),(1,⟨6,[[.int v7.p,.int v7.q.n,.own 2 0 v7.q.src.length,.own 3 0 v7.q.tgt.length,.own 4 0 v7.dims.length,.own 5 0 r.length]]⟩),(2,⟨1,v7.q.src.map (ow eI)⟩),(3,⟨1,v7.q.tgt.map (ow eI)⟩),(4,⟨1,v7.dims.map (ow eI)⟩),(5,⟨3,r.map (ow eM)⟩)] 6 ⟨0,true,vQ W,true⟩)) (bU (bK k2) (bO k<|fB k<|bN k<|bN k<|bN k<|cO (cI.plainO _) k<|aY) k4) ?_ ?_
   ·intro x3 o h;refine sQ<|sS<|eN k2<|cmS k4<|sn<|tn<|dV k h (λ_ h=>?_) λ_ h=>aU<|aC<|aC<|sp h ⟨_,k,k,(bU (bK k2) (bO k<|fB k<|bN k<|bN k<|bN k<|cO (cI.plainO _) k<|aY) k4)⟩;refine aG<|tn<|sQ<|aE<|sS<|fpS k8<|yL k8<|eN k2<|oB h λv14 hv14 h=>gY (t:=mN [(6,.ptr 0 0 0),(8,.ptr 1 0 0),(9,.int y10.2),(11,.int x2.2),(12,.int x3.2.1),(13,.int x3.2.2),(66,.int x3.2.2),(67,.bl (decide (0≤x3.2.2))),(70,.ptr 1 0 5),(71,.own 5 0 x3.1.length),(72,.int x3.2.2)] [(0,⟨6,[jV]⟩),(1,⟨6,[[.int v7.p,.int v7.q.n,.own 2 0 v7.q.src.length,.own 3 0 v7.q.tgt.length,.own 4 0 v7.dims.length,.own 5 0 x3.1.length]]⟩),(2,⟨1,v7.q.src.map (ow eI)⟩),(3,⟨1,v7.q.tgt.map (ow eI)⟩),(4,⟨1,v7.dims.map (ow eI)⟩),(5,⟨3,(x3.1.map (ow eM)).set x3.2.2.toNat [.int v14.rows,.int v14.cols,.abs 1 (v14.cells.map eI)]⟩)] 6 ⟨0,true,vQ W,true⟩) (bU (bK k2) (bO k<|fB k<|bN k<|bN k<|bN k<|hX ⟨_,k,k,.inl ⟨aAB (dH hv14),xD cI k⟩⟩ k<|aY) k4)<|gY (xE (b:=5) (c:=6) (i:=x3.2.2.toNat) (j:=2) (n:=v14.cells.length) (A:=x3.1.map (ow eM)) (fs:=v14.cells.map (ow eI)) (by rw [eW];exact iH hv14) k k k k (aO _ _) (gR _ _) (aAo ⟨k,k,k,k,k,k,k,k,k,k,k,aY⟩) (aAp (skip:=[]) ⟨.inr (tK k),.inr (tK k),.inr (cS.df _ _),.inr (cS.df _ _),.inr (cS.df _ _),.inr (cI.dfS _ _ _ k),aY⟩))<|gY (t:=mN [(6,.ptr 0 0 0),(8,.ptr 1 0 0),(9,.int y10.2),(11,.int x2.2),(12,.int x3.2.1),(13,.int x3.2.2),(66,.int x3.2.2),(67,.bl (decide (0≤x3.2.2))),(70,.ptr 1 0 5),(71,.own 5 0 x3.1.length),(72,.int x3.2.2)] [(0,⟨6,[jV]⟩),(1,⟨6,[[.int v7.p,.int v7.q.n,.own 2 0 v7.q.src.length,.own 3 0 v7.q.tgt.length,.own 4 0 v7.dims.length,.own 5 0 x3.1.length]]⟩),(2,⟨1,v7.q.src.map (ow eI)⟩),(3,⟨1,v7.q.tgt.map (ow eI)⟩),(4,⟨1,v7.dims.map (ow eI)⟩),(5,⟨3,(x3.1.map (ow eM)).set x3.2.2.toNat [.int v14.rows,.int v14.cols,.own 6 0 v14.cells.length]⟩),(6,⟨1,v14.cells.map (ow eI)⟩)] 7 ⟨0,true,vQ W,true⟩) (fP (σ:=sg [(0,0),(1,1),(2,2),(3,3),(4,4),(5,5),(6,6)]) (bK k2) (bO k<|fB k<|bN k<|bN k<|bN k<|hX ⟨_,k,k,.inr (aAY (σ:=sg [(0,0),(1,1),(2,2),(3,3),(4,4),(5,5),(6,6)]) (m:=7) (e:=eM) (l:=x3.1) (i:=x3.2.2.toNat) (c:=[.int v14.rows,.int v14.cols,.own 6 0 v14.cells.length]) (d:=[.int v14.rows,.int v14.cols,.own 6 0 v14.cells.length]) cI ⟨_,_,k,k,⟨_,_,k,k,⟨_,_,k,⟨k,k,k,k⟩,k⟩⟩⟩)⟩ k<|bN k<|aY) k)<|se (xo hv14 k) k<|fpS k8<|se (bZ aB k k k k (aDn (iH hv14)) k k) k<|se (bX aB k k k k) k<|se (iZ k k) k<|gV k2<|sn<|tn<|aP (t:=mN [(6,.ptr 0 0 0),(8,.ptr 1 0 0),(9,.int y10.2),(11,.int x2.2),(12,.int x3.2.1),(13,.int x3.2.2),(14,.int (wr (((v14.cells.length:Nat):Int) - 1)))] [(0,⟨6,[jV]⟩),(1,⟨6,[[.int v7.p,.int v7.q.n,.own 2 0 v7.q.src.length,.own 3 0 v7.q.tgt.length,.own 4 0 v7.dims.length,.own 5 0 ((x3.1.set x3.2.2.toNat v14).length)]]⟩),(2,⟨1,v7.q.src.map (ow eI)⟩),(3,⟨1,v7.q.tgt.map (ow eI)⟩),(4,⟨1,v7.dims.map (ow eI)⟩),(5,⟨3,List.map (ow eM) (x3.1.set x3.2.2.toNat v14)⟩)] 7 ⟨0,true,vQ W,true⟩) (Ent.trans (yA (b:=5) (b':=6) (j:=2) (es':=v14.cells.map eI) (by rw [eW];exact iH hv14) k k k k (aO _ _) (cS.frzs _)) (bU (bK k2) (bO k<|hX ⟨_,k,k,.inr ⟨_,_,k,⟨_,_,k,k,⟨_,_,k,k,⟨_,_,k,⟨k,k,k,k⟩,⟨_,_,k,⟨k,k,k,k⟩,⟨_,_,k,⟨k,k,k,k⟩,⟨_,_,k,⟨k,k,(by simp only [aO,lA,lT,lR,lC,lN]),k⟩,k⟩⟩⟩⟩⟩⟩,k⟩⟩ k<|bN k<|bN k<|bN k<|hX ⟨_,k,k,.inl ⟨aCV v14 k,cI.plainO _⟩⟩ k<|aY) k4))<|aE<|oB h λy18 hy18 h=>cD (body:=(nJ x3)) hy18 (λ(x4:((List Mt)×Int×Int))=>mN [(6,.ptr 0 0 0),(8,.ptr 1 0 0),(9,.int y10.2),(11,.int x2.2),(12,.int x4.2.1),(13,.int x3.2.2),(14,.int x4.2.2)] [(0,⟨6,[jV]⟩),(1,⟨6,[[.int v7.p,.int v7.q.n,.own 2 0 v7.q.src.length,.own 3 0 v7.q.tgt.length,.own 4 0 v7.dims.length,.own 5 0 x4.1.length]]⟩),(2,⟨1,v7.q.src.map (ow eI)⟩),(3,⟨1,v7.q.tgt.map (ow eI)⟩),(4,⟨1,v7.dims.map (ow eI)⟩),(5,⟨3,x4.1.map (ow eM)⟩)] 6 ⟨0,true,vQ W,true⟩) (λr e t=>e= .exit 6∧Ent t (mN [(6,.ptr 0 0 0),(8,.ptr 1 0 0),(9,.int y10.2),(11,.int x2.2),(12,.int r.2),(13,.int x3.2.2)] [(0,⟨6,[jV]⟩),(1,⟨6,[[.int v7.p,.int v7.q.n,.own 2 0 v7.q.src.length,.own 3 0 v7.q.tgt.length,.own 4 0 v7.dims.length,.own 5 0 r.1.length]]⟩),(2,⟨1,v7.q.src.map (ow eI)⟩),(3,⟨1,v7.q.tgt.map (ow eI)⟩),(4,⟨1,v7.dims.map (ow eI)⟩),(5,⟨3,r.1.map (ow eM)⟩)] 6 ⟨0,true,vQ W,true⟩)) (bU (bK k2) (bO k<|fB k<|bN k<|bN k<|bN k<|cO (cI.plainO _) k<|aY) k4) ?_ ?_
    ·intro x4 o h;refine sQ<|sS<|eN k2<|cmS k4<|sn<|tn<|dV k h (λ_ h=>?_) λ_ h=>aU<|aC<|aC<|sp h ⟨_,k,k,(bU (bK k2) (bO k<|fB k<|bN k<|bN k<|bN k<|cO (cI.plainO _) k<|aY) k4)⟩;refine aG<|tn<|sQ<|aE<|sS<|fpS k8<|yL k8<|eN k2<|oB h λv16 hv16 h=>gY (t:=mN [(6,.ptr 0 0 0),(8,.ptr 1 0 0),(9,.int y10.2),(11,.int x2.2),(12,.int x4.2.1),(13,.int x3.2.2),(14,.int x4.2.2),(78,.int x4.2.2),(79,.bl (decide (0≤x4.2.2))),(82,.ptr 1 0 5),(83,.own 5 0 x4.1.length),(84,.int x3.2.2)] [(0,⟨6,[jV]⟩),(1,⟨6,[[.int v7.p,.int v7.q.n,.own 2 0 v7.q.src.length,.own 3 0 v7.q.tgt.length,.own 4 0 v7.dims.length,.own 5 0 x4.1.length]]⟩),(2,⟨1,v7.q.src.map (ow eI)⟩),(3,⟨1,v7.q.tgt.map (ow eI)⟩),(4,⟨1,v7.dims.map (ow eI)⟩),(5,⟨3,(x4.1.map (ow eM)).set x3.2.2.toNat [.int v16.rows,.int v16.cols,.abs 1 (v16.cells.map eI)]⟩)] 6 ⟨0,true,vQ W,true⟩) (bU (bK k2) (bO k<|fB k<|bN k<|bN k<|bN k<|hX ⟨_,k,k,.inl ⟨aAB (dH hv16),xD cI k⟩⟩ k<|aY) k4)<|gY (xE (b:=5) (c:=6) (i:=x3.2.2.toNat) (j:=2) (n:=v16.cells.length) (A:=x4.1.map (ow eM)) (fs:=v16.cells.map (ow eI)) (by rw [eW];exact iH hv16) k k k k (aO _ _) (gR _ _) (aAo ⟨k,k,k,k,k,k,k,k,k,k,k,k,aY⟩) (aAp (skip:=[]) ⟨.inr (tK k),.inr (tK k),.inr (cS.df _ _),.inr (cS.df _ _),.inr (cS.df _ _),.inr (cI.dfS _ _ _ k),aY⟩))<|gY (t:=mN [(6,.ptr 0 0 0),(8,.ptr 1 0 0),(9,.int y10.2),(11,.int x2.2),(12,.int x4.2.1),(13,.int x3.2.2),(14,.int x4.2.2),(78,.int x4.2.2),(79,.bl (decide (0≤x4.2.2))),(82,.ptr 1 0 5),(83,.own 5 0 x4.1.length),(84,.int x3.2.2)] [(0,⟨6,[jV]⟩),(1,⟨6,[[.int v7.p,.int v7.q.n,.own 2 0 v7.q.src.length,.own 3 0 v7.q.tgt.length,.own 4 0 v7.dims.length,.own 5 0 x4.1.length]]⟩),(2,⟨1,v7.q.src.map (ow eI)⟩),(3,⟨1,v7.q.tgt.map (ow eI)⟩),(4,⟨1,v7.dims.map (ow eI)⟩),(5,⟨3,(x4.1.map (ow eM)).set x3.2.2.toNat [.int v16.rows,.int v16.cols,.own 6 0 v16.cells.length]⟩),(6,⟨1,v16.cells.map (ow eI)⟩)] 7 ⟨0,true,vQ W,true⟩) (fP (σ:=sg [(0,0),(1,1),(2,2),(3,3),(4,4),(5,5),(6,6)]) (bK k2) (bO k<|fB k<|bN k<|bN k<|bN k<|hX ⟨_,k,k,.inr (aAY (σ:=sg [(0,0),(1,1),(2,2),(3,3),(4,4),(5,5),(6,6)]) (m:=7) (e:=eM) (l:=x4.1) (i:=x3.2.2.toNat) (c:=[.int v16.rows,.int v16.cols,.own 6 0 v16.cells.length]) (d:=[.int v16.rows,.int v16.cols,.own 6 0 v16.cells.length]) cI ⟨_,_,k,k,⟨_,_,k,k,⟨_,_,k,⟨k,k,k,k⟩,k⟩⟩⟩)⟩ k<|bN k<|aY) k)<|se (xo hv16 k) k<|fpS k8<|se (bZ aB k k k k (aDn (iH hv16)) k k) k<|eN k2<|eN k2<|se (aGB k k (by decide)) k<|oB h λv17 hv17 h=>se (xo hv17 k) k<|se (eZ aB kX (u:=x4.2.1.tmod 2) (dH hv17) k k k k k k) k<|sn<|tn<|aP (t:=mN [(6,.ptr 0 0 0),(8,.ptr 1 0 0),(9,.int y10.2),(11,.int x2.2),(12,.int x4.2.1),(13,.int x3.2.2),(14,.int x4.2.2)] [(0,⟨6,[jV]⟩),(1,⟨6,[[.int v7.p,.int v7.q.n,.own 2 0 v7.q.src.length,.own 3 0 v7.q.tgt.length,.own 4 0 v7.dims.length,.own 5 0 ((x4.1.set x3.2.2.toNat (⟨v16.rows,v16.cols,(v16.cells.set x4.2.2.toNat (x4.2.1.tmod 2))⟩:Mt)).length)]]⟩),(2,⟨1,v7.q.src.map (ow eI)⟩),(3,⟨1,v7.q.tgt.map (ow eI)⟩),(4,⟨1,v7.dims.map (ow eI)⟩),(5,⟨3,List.map (ow eM) (x4.1.set x3.2.2.toNat (⟨v16.rows,v16.cols,(v16.cells.set x4.2.2.toNat (x4.2.1.tmod 2))⟩:Mt))⟩)] 7 ⟨0,true,vQ W,true⟩) (Ent.trans (yA (b:=5) (b':=6) (j:=2) (es':=List.map eI (v16.cells.set x4.2.2.toNat (x4.2.1.tmod 2))) (by rw [eW];exact iH hv16) k k k k (by simp only [aO,lA,lT,lR,lC,lN]) (cS.frzs _)) (bU (bK k2) (bO k<|hX ⟨_,k,k,.inr ⟨_,_,k,⟨_,_,k,k,⟨_,_,k,k,⟨_,_,k,⟨k,k,k,k⟩,⟨_,_,k,⟨k,k,k,k⟩,⟨_,_,k,⟨k,k,k,k⟩,⟨_,_,k,⟨k,k,(by simp only [aO,lA,lT,lR,lC,lN]),k⟩,k⟩⟩⟩⟩⟩⟩,k⟩⟩ k<|bN k<|bN k<|bN k<|hX ⟨_,k,k,.inl ⟨aCV (⟨v16.rows,v16.cols,(v16.cells.set x4.2.2.toNat (x4.2.1.tmod 2))⟩:Mt) k,cI.plainO _⟩⟩ k<|aY) k4))<|rgS<|eN k2<|se (aUw k k (by decide)) k<|gV k2<|sn<|aS ?_;exact tn<|rgS<|eN k2<|se (iZ k k) k<|gV k2<|sn<|tn<|sp h ⟨_,k,(bU (bK k2) (bO k<|fB k<|bN k<|bN k<|bN k<|cO (cI.plainO _) k<|aY) k4)⟩
    ·rintro e t ⟨rfl,hent⟩;exact aL<|aS<|tn<|aP hent<|rgS<|eN k2<|se (iZ k k) k<|gV k2<|sn<|tn<|sp h ⟨_,k,(bU (bK k2) (bO k<|fB k<|bN k<|bN k<|bN k<|cO (cI.plainO _) k<|aY) k4)⟩
   ·rintro e t ⟨rfl,hent⟩;exact aL<|tn<|aP hent<|sS<|yL k8<|yL k8<|oB h λv20 hv20 h=>se (mV (aIk (⟨v7.p,v7.q,v7.dims,y19⟩:Rp) (⟨v7.p,v7.q,v7.dims,y19⟩:Rp) v20 hv20) k (fT (.inl (vaR k8)) (fT (.inl (vaR k8)) jD))) k<|cmS k4<|sn<|tn<|dV k h (λ_ h=>sS<|yL k8<|se (ws k) k<|gV k2<|sn<|tn<|aI<|bD<|aH<|aH<|sp h ⟨_,k,k,bT k k k (dW k (cB (jC (aJ (k) (aJ (k) (aJ (fA cS k k) (aJ (fA cS k k) (aJ (fA cS k k) (aJ (fA cI k k) eK))))))) (cB (k) gE)))⟩) λ_ h=>aG<|aS<|tn<|rgS<|eN k2<|se (bF k k) k<|gV k2<|sn<|tn<|sp h ⟨_,k,(bU (bK k2) (bO k<|fB k<|bN k<|bN k<|bN k<|cO (cI.plainO _) k<|aY) k4)⟩
  ·intro e t hX;rcases y23 with y24|y25
   ·obtain ⟨rfl,hent⟩:=hX;exact aL<|tn<|aP hent<|sS<|se (cU aB k k k k k k) k<|se (ws k) k<|gV k2<|sn<|tn<|aI<|sp h (bT k k k (dW k (cB (jC (aJ (k) (aJ (k) (aJ (k) (aJ (k) (aJ (k) (aJ (k) eK))))))) (cB (k) gE))))
   ·obtain ⟨rfl,hent⟩:=hX;exact bD<|aH<|sp h hent
def fE (a0:Int) (a1:Qv) (v1:((List (List Int))×Bool)) (x1:((List Rp)×Int)):Option (((List Rp)×Int) ⊕ ((List Rp) ⊕ ((List Rp)×Bool))):=
 bif decide (x1.2<((v1.1.length:Nat):Int)) then
 ((cZ v1.1 x1.2).bind λv4=>
 (wK a0 a1 v4).bind λv5=>
 bif !v5.2 then
 (some (.inr (.inr (([],false)))))
 else
 (bif decide (x1.1.length+1≤4294967296) then
 (some (.inl ((x1.1++[v5.1]),wr (x1.2+1))))
 else none))
 else
 (some (.inr (.inl x1.1)))
def jK (a0:Int) (a1:Qv):Option ((List Rp)×Bool):=
 (fN a1).bind λv1=>
 bif !v1.2 then
 (some (([],false)))
 else
 ((Lp (fE a0 a1 v1) ([],0)).bind λy8=>
 Sum.elim (λy9=>
 some ((y9,true))
 )
 (λy10=>
 some y10
 )
 y8)
theorem aAt (a0:Int) (a1:Qv) (r:((List Rp)×Bool)) (h:jK a0 a1=some r):HasC Tryz.prog 36 [.int a0,.agg (eQ a1)] (.tuple [.list 6 (r.1.map eR),.bl r.2]):=by
 refine hM [.tmp 4,.tmp 5] Tryz.func36 Tryz.ntmps36 k<|sR<|ae (wb k) k<|aa k k<|aT k2<|sR<|lp k8<|oB h λv1 hv1 h=>ae (uA (σ:=sg []) (σ':=sg [(1,0)]) (touch:=[]) (news:=[1]) (hl2:=[(1,⟨1,v1.1.map (dQ 1 eI)⟩)]) (n':=2) (r2:= .tuple [.own 1 0 v1.1.length,.bl v1.2]) (yH a1 v1 hv1) k k ⟨_,_,k,(.inl ⟨_,_,k,k,⟨_,_,k,⟨k,k⟩,⟨_,_,k,⟨k,k⟩,k⟩⟩⟩),k⟩ aY k k k ⟨⟨_,k,k,.inl ⟨k,bH.plainE _⟩⟩,k,aY⟩ k (.inr ⟨_,_,k,k,⟨_,_,k,⟨k,k,(by simp only [aO,lA,lT,lR,lC,lN]),k⟩,⟨_,_,k,k,k⟩⟩⟩) k ⟨k,bH.tamdE _ _,aY⟩ k k) k<|am k k<|ae (bJ k k (by intro _ h;cases h)) k<|ae (bJ k k (by intro _ h;cases h)) k<|aa k k<|aT k2<|sQ<|sR<|am k k<|ae (dM k) k<|an<|tn<|dV k h (λ_ h=>sR<|aa k k<|aT k2<|aI<|aH<|sp h (bT k k k (dW k (cB (aAn (k)) (cB (k) gE))))) λ_ h=>?_;refine aG<|tn<|sR<|aT k2<|sQ<|sR<|am k k<|ae (bX aB k k k k) k<|am k k<|an<|tn<|aE<|oB h λy8 hy8 h=>cD (body:=(fE a0 a1 v1)) hy8 (λ(x1:((List Rp)×Int))=>mN [(0,.int a0),(3,.ptr 0 0 0),(8,.own 1 0 x1.1.length),(20,.own 2 0 v1.1.length),(21,.int ((v1.1.length:Nat):Int)),(22,.int x1.2)] [(0,⟨3,[eQ a1]⟩),(1,⟨6,x1.1.map (ow eR)⟩),(2,⟨1,v1.1.map (dQ 1 eI)⟩)] 3) (λr e t=>Sum.elim (λa=>(λr e t=>e= .exit 0∧Ent t (mN [(8,.own 0 0 r.length)] [(0,⟨6,r.map (ow eR)⟩)] 1)) a e t) (λb=>(λr e t=>e= .ret∧tI TT [.tmp 4,.tmp 5] (.tuple [.list 6 (r.1.map eR),.bl r.2]) .ret t) b e t) r) (fP (σ:=sg [(0,0),(2,1)]) (mX 2 k2 (kP ⟨_,k,⟨k,k,k,k⟩⟩ (bK k2))) (bO k<|hX k k<|cO (bH.plainE _) k<|aY) k) ?_ ?_
 ·intro x1 o h;refine sR<|cm k4<|an<|tn<|sQ<|dV k h (λ_ h=>?_) λ_ h=>aU<|aC<|aC<|sp h ⟨_,k,k,(pI [1] (bK k2) (cO (sC.plainO _) k<|aY) k4)⟩;refine aG<|tn<|sQ<|aE<|sR<|oB h λv4 hv4 h=>ae (xo hv4 k) k<|ae (wp hv4 k) k<|aT k2<|sR<|am k k<|lp k8<|am k k<|oB h λv5 hv5 h=>ae (AEff.conv (pN (x:= .tuple [.agg [.int v5.1.p,.int v5.1.q.n,.own 3 0 (v5.1.q.src.map eI).length,.own 4 0 (v5.1.q.tgt.map eI).length,.own 5 0 (v5.1.dims.map eI).length,.own 6 0 (v5.1.maps.map eM).length],.bl v5.2]) (nb:=[(3,⟨1,dD (v5.1.q.src.map eI)⟩),(4,⟨1,dD (v5.1.q.tgt.map eI)⟩),(5,⟨1,dD (v5.1.dims.map eI)⟩),(6,⟨3,dD (v5.1.maps.map eM)⟩)]) (aIA a0 a1 v4 v5 hv5) k (by rfl) k k (gD (cA aY (cA aY (cA (cS.good _) (cA (cS.good _) (cA (cS.good _) (cA (cI.good _) vI)))))) (gD aY vX)) (dZ k (aX (mW k) (dZ k aV)))) (v':= .tuple [.agg [.int v5.1.p,.int v5.1.q.n,.own 3 0 v5.1.q.src.length,.own 4 0 v5.1.q.tgt.length,.own 5 0 v5.1.dims.length,.own 6 0 v5.1.maps.length],.bl v5.2]) (ed':=[(3,some ⟨1,v5.1.q.src.map (ow eI)⟩),(4,some ⟨1,v5.1.q.tgt.map (ow eI)⟩),(5,some ⟨1,v5.1.dims.map (ow eI)⟩),(6,some ⟨3,v5.1.maps.map (ow eM)⟩)]) (by simp only [aO]) (wR (nb':=[(3,⟨1,v5.1.q.src.map (ow eI)⟩),(4,⟨1,v5.1.q.tgt.map (ow eI)⟩),(5,⟨1,v5.1.dims.map (ow eI)⟩),(6,⟨3,v5.1.maps.map (ow eM)⟩)]) (by simp only [gR]))) k<|am k k<|ae (bJ k k (by intro _ h;cases h)) k<|ae (bJ k k (by intro _ h;cases h)) k<|ae (bS aB k k) k<|ae (ws k) k<|aT k2<|sQ<|sR<|am k k ?_;exact ae (dM k) k<|an<|tn<|dV k h (λ_ h=>sR<|aa k k<|aT k2<|aI<|aH<|bD<|aH<|aH<|sp h ⟨_,k,k,bT k k k (dW k (cB (aAn (k)) (cB (k) gE)))⟩) λ_ h=>aG<|tn<|rg<|am k k<|lp k8<|ae (wl k) k<|cG h λq7 h=>ae (kK aB (l:=x1.1) (c:=[.int v5.1.p,.int v5.1.q.n,.own 3 0 v5.1.q.src.length,.own 4 0 v5.1.q.tgt.length,.own 5 0 v5.1.dims.length,.own 6 0 v5.1.maps.length]) q7 k k k k k k k k k k k k k k) k<|aa k k<|an<|aS<|tn<|aP (t:=mN [(0,.int a0),(3,.ptr 0 0 0),(8,.own 9 0 ((x1.1++[v5.1]).length)),(20,.own 2 0 v1.1.length),(21,.int ((v1.1.length:Nat):Int)),(22,.int x1.2)] [(0,⟨3,[eQ a1]⟩),(2,⟨1,v1.1.map (dQ 1 eI)⟩),(9,⟨6,List.map (ow eR) (x1.1++[v5.1])⟩)] 10) (Ent.trans (eX (b:=9) (b':=3) (j:=2) (es':=v5.1.q.src.map eI) k k k k (aO _ _) (cS.frzs _)) (Ent.trans (eX (b:=9) (b':=4) (j:=3) (es':=v5.1.q.tgt.map eI) k k k k (aO _ _) (cS.frzs _)) (Ent.trans (eX (b:=9) (b':=5) (j:=4) (es':=v5.1.dims.map eI) k k k k (aO _ _) (cS.frzs _)) (Ent.trans (eX (b:=9) (b':=6) (j:=5) (es':=v5.1.maps.map eM) k k k k (aO _ _) (cI.frzs _)) (bU (mX 2 k2 (kP ⟨_,k,⟨k,k,(by simp only [aO,lA,lT,lR,lC,lN]),k⟩⟩ (bK k2))) (bO k<|cO (bH.plainE _) k<|hX ⟨_,k,k,.inl ⟨kY v5.1 k,sC.plainO _⟩⟩ k<|aY) k4)))))<|rg<|ae (bF k k) k<|am k k<|an<|tn<|sp h ⟨_,k,(pI [0,9,2] (bK k2) (bO k<|cO (sC.plainO _) k<|cO (bH.plainE _) k<|aY) k4)⟩
 ·intro e t hX;rcases y8 with y9|y10
  ·obtain ⟨rfl,hent⟩:=hX;exact aL<|tn<|aP hent<|sR<|am k k<|aa k k<|aT k2<|aI<|sp h (bT k k k (dW k (cB (aAn (fA sC k k)) (cB (k) gE))))
  ·obtain ⟨rfl,hent⟩:=hX;exact bD<|aH<|sp h hent
def fF (a0:Int) (a1:Qv) (v1:((List (List Int))×Bool)) (x1:((List Rp)×Int)):Option (((List Rp)×Int) ⊕ ((List Rp) ⊕ ((List Rp)×Bool))):=
 bif decide (x1.2<((v1.1.length:Nat):Int)) then
 (bif v1.2 then
 ((cZ v1.1 x1.2).bind λv4=>
 (wL a0 a1 v4).bind λv5=>
 bif !v5.2 then
 (some (.inr (.inr ((([]:(List Rp)),false)))))
 else
 (bif decide (x1.1.length+1≤4294967296) then
 (some (.inl ((x1.1++[v5.1]),wr (x1.2+1))))
 else none))
 else
 (some (.inr (.inl x1.1))))
 else
 (some (.inr (.inl x1.1)))
def jL (a0:Int) (a1:Qv):Option ((List Rp)×Bool):=
 (gF a1).bind λv1=>
 (Lp (fF a0 a1 v1) (([]:(List Rp)),0)).bind λy8=>
 Sum.elim (λy9=>
 bif v1.2 then
 ((lS a0).bind λv11=>
 some ((y9,v11)))
 else
 (some ((y9,false)))
 )
 (λy12=>
 some y12
 )
 y8
theorem aAu (a0:Int) (a1:Qv) (r:((List Rp)×Bool)) (h:jL a0 a1=some r):HasC Tryz.prog 32 [.int a0,.agg (eQ a1)] (.tuple [.list 6 (r.1.map eR),.bl r.2]):=by
 refine hM [.tmp 4,.tmp 5] Tryz.func32 Tryz.ntmps32 k<|sR<|ae (wb k) k<|aa k k<|aT k2<|sR<|lp k8<|oB h λv1 hv1 h=>ae (uA (σ:=sg []) (σ':=sg [(1,0)]) (touch:=[]) (news:=[1]) (hl2:=[(1,⟨1,v1.1.map (dQ 1 eI)⟩)]) (n':=2) (r2:= .tuple [.own 1 0 v1.1.length,.bl v1.2]) (yG a1 v1 hv1) k k ⟨_,_,k,(.inl ⟨_,_,k,k,⟨_,_,k,⟨k,k⟩,⟨_,_,k,⟨k,k⟩,k⟩⟩⟩),k⟩ aY k k k ⟨⟨_,k,k,.inl ⟨k,bH.plainE _⟩⟩,k,aY⟩ k (.inr ⟨_,_,k,k,⟨_,_,k,⟨k,k,(by simp only [aO,lA,lT,lR,lC,lN]),k⟩,⟨_,_,k,k,k⟩⟩⟩) k ⟨k,bH.tamdE _ _,aY⟩ k k) k<|am k k<|ae (bJ k k (by intro _ h;cases h)) k<|ae (bJ k k (by intro _ h;cases h)) k<|aa k k<|aT k2<|sR<|ae (wl k) k<|aT k2<|aP (t:=mN [(0,.int a0),(3,.ptr 0 0 0),(6,.own 1 0 v1.1.length),(7,.bl v1.2),(8,.own 2 0 (([]:(List Rp)).length))] [(0,⟨3,[eQ a1]⟩),(1,⟨1,v1.1.map (dQ 1 eI)⟩),(2,⟨6,List.map (ow eR) ([]:(List Rp))⟩)] 3) (bU (mX 4 k2 (kP ⟨_,k,⟨k,k,(by simp only [aO,lA,lT,lR,lC,lN]),k⟩⟩ aY)) (bO k<|cO (bH.plainE _) k<|cO (sC.plainO _) k<|aY) k4)<|sQ<|sR<|aa k k ?_;refine an<|tn<|aE<|oB h λy8 hy8 h=>cD (body:=(fF a0 a1 v1)) hy8 (λ(x1:((List Rp)×Int))=>mN [(0,.int a0),(3,.ptr 0 0 0),(6,.own 1 0 v1.1.length),(7,.bl v1.2),(8,.own 2 0 x1.1.length),(9,.int x1.2)] [(0,⟨3,[eQ a1]⟩),(1,⟨1,v1.1.map (dQ 1 eI)⟩),(2,⟨6,x1.1.map (ow eR)⟩)] 3) (λr e t=>Sum.elim (λa=>(λr e t=>e= .exit 0∧Ent t (mN [(0,.int a0),(7,.bl v1.2),(8,.own 0 0 r.length)] [(0,⟨6,r.map (ow eR)⟩)] 1)) a e t) (λb=>(λr e t=>e= .ret∧tI TT [.tmp 4,.tmp 5] (.tuple [.list 6 (r.1.map eR),.bl r.2]) .ret t) b e t) r) (bU (bK k2) (bO k<|cO (bH.plainE _) k<|cO (sC.plainO _) k<|aY) k4) ?_ ?_
 ·intro x1 o h;refine sQ<|sR<|am k k<|am k k<|ae (bX aB k k k k) k<|cm k4<|am k k<|tG h (λq2 h=>?_) λq2 h=>aZ 22 k q2<|ak k k<|pk k3<|an<|tn<|oU k k<|aU<|aC<|aC<|sp h ⟨_,k,k,(pI [2] (bK k2) (cO (sC.plainO _) k<|aY) k4)⟩;refine aZ 22 k q2<|am k k<|pk k3<|an<|tn<|dV k h (λ_ h=>?_) λ_ h=>aU<|aC<|aC<|sp h ⟨_,k,k,(pI [2] (bK k2) (cO (sC.plainO _) k<|aY) k4)⟩;exact aG<|tn<|sQ<|aE<|sQ<|aM gI<|am k k<|lp k8<|am k k<|am k k<|oB h λv4 hv4 h=>ae (xo hv4 k) k<|ae (wp hv4 k) k<|oB h λv5 hv5 h=>ae (AEff.conv (pN (x:= .tuple [.agg [.int v5.1.p,.int v5.1.q.n,.own 3 0 (v5.1.q.src.map eI).length,.own 4 0 (v5.1.q.tgt.map eI).length,.own 5 0 (v5.1.dims.map eI).length,.own 6 0 (v5.1.maps.map eM).length],.bl v5.2]) (nb:=[(3,⟨1,dD (v5.1.q.src.map eI)⟩),(4,⟨1,dD (v5.1.q.tgt.map eI)⟩),(5,⟨1,dD (v5.1.dims.map eI)⟩),(6,⟨3,dD (v5.1.maps.map eM)⟩)]) (aIB a0 a1 v4 v5 hv5) k (by rfl) k k (gD (cA aY (cA aY (cA (cS.good _) (cA (cS.good _) (cA (cS.good _) (cA (cI.good _) vI)))))) (gD aY vX)) (dZ k (aX (mW k) (dZ k aV)))) (v':= .tuple [.agg [.int v5.1.p,.int v5.1.q.n,.own 3 0 v5.1.q.src.length,.own 4 0 v5.1.q.tgt.length,.own 5 0 v5.1.dims.length,.own 6 0 v5.1.maps.length],.bl v5.2]) (ed':=[(3,some ⟨1,v5.1.q.src.map (ow eI)⟩),(4,some ⟨1,v5.1.q.tgt.map (ow eI)⟩),(5,some ⟨1,v5.1.dims.map (ow eI)⟩),(6,some ⟨3,v5.1.maps.map (ow eM)⟩)]) (by simp only [aO]) (wR (nb':=[(3,⟨1,v5.1.q.src.map (ow eI)⟩),(4,⟨1,v5.1.q.tgt.map (ow eI)⟩),(5,⟨1,v5.1.dims.map (ow eI)⟩),(6,⟨3,v5.1.maps.map (ow eM)⟩)]) (by simp only [gR]))) k<|am k k<|ae (bJ k k (by intro _ h;cases h)) k<|ae (bJ k k (by intro _ h;cases h)) k<|ae (bS aB k k) k<|ae (ws k) k<|aa k k<|an<|qU (by kernel_rfl)<|tn<|sQ<|sR<|am k k<|ae (dM k) k<|an<|tn<|dV k h (λ_ h=>sR<|ae (wl k) k<|aa k k<|aT k2<|aP (t:=mN [(4,.own 8 0 (([]:(List Rp)).length)),(5,.bl false)] [(8,⟨6,List.map (ow eR) ([]:(List Rp))⟩)] 9) (bU (kP ⟨_,k,⟨k,k,(by simp only [aO,lA,lT,lR,lC,lN]),k⟩⟩ (bK k2)) (cO (sC.plainO _) k<|aY) k4)<|aI<|aH<|bD<|aH<|aH<|sp h ⟨_,k,k,bT k k k (dW k (cB (aAn (fA sC k k)) (cB (k) gE)))⟩) λ_ h=>aG<|tn<|rg<|am k k<|lp k8<|ae (wl k) k<|cG h λq7 h=>ae (kK aB (l:=x1.1) (c:=[.int v5.1.p,.int v5.1.q.n,.own 3 0 v5.1.q.src.length,.own 4 0 v5.1.q.tgt.length,.own 5 0 v5.1.dims.length,.own 6 0 v5.1.maps.length]) q7 k k k k k k k k k k k k k k) k<|aa k k<|an<|aS<|tn<|aP (t:=mN [(0,.int a0),(3,.ptr 0 0 0),(6,.own 1 0 v1.1.length),(7,.bl v1.2),(8,.own 9 0 ((x1.1++[v5.1]).length)),(9,.int x1.2)] [(0,⟨3,[eQ a1]⟩),(1,⟨1,v1.1.map (dQ 1 eI)⟩),(9,⟨6,List.map (ow eR) (x1.1++[v5.1])⟩)] 10) (Ent.trans (eX (b:=9) (b':=3) (j:=2) (es':=v5.1.q.src.map eI) k k k k (aO _ _) (cS.frzs _)) (Ent.trans (eX (b:=9) (b':=4) (j:=3) (es':=v5.1.q.tgt.map eI) k k k k (aO _ _) (cS.frzs _)) (Ent.trans (eX (b:=9) (b':=5) (j:=4) (es':=v5.1.dims.map eI) k k k k (aO _ _) (cS.frzs _)) (Ent.trans (eX (b:=9) (b':=6) (j:=5) (es':=v5.1.maps.map eM) k k k k (aO _ _) (cI.frzs _)) (bU (mX 4 k2 (kP ⟨_,k,⟨k,k,(by simp only [aO,lA,lT,lR,lC,lN]),k⟩⟩ (bK k2))) (bO k<|cO (bH.plainE _) k<|hX ⟨_,k,k,.inl ⟨kY v5.1 k,sC.plainO _⟩⟩ k<|aY) k4)))))<|rg<|am k k<|ae (bF k k) k<|aT k2<|sp h ⟨_,k,(pI [0,1,9] (bK k2) (bO k<|cO (bH.plainE _) k<|cO (sC.plainO _) k<|aY) k4)⟩
 ·intro e t hX;rcases y8 with y9|y12
  ·obtain ⟨rfl,hent⟩:=hX;exact aL<|tn<|aP hent<|sR<|am k k<|am k k<|am k k<|tG h (λq10 h=>aZ 46 k q10<|am k k<|oB h λv11 hv11 h=>ae (bB (rR a0 v11 hv11) k (dZ k aV)) k<|pk k3<|aa k k<|aT k2<|aI<|sp h (bT k k k (dW k (cB (aAn (fA sC k k)) (cB (k) gE))))) λq10 h=>aZ 46 k q10<|aK k4<|pk k3<|aa k k<|aT k2<|aI<|sp h (bT k k k (dW k (cB (aAn (fA sC k k)) (cB (k) gE))))
  ·obtain ⟨rfl,hent⟩:=hX;exact bD<|aH<|sp h hent
end
noncomputable section
def dg (N c t:Nat):Int:=((c / 2 ^ (N - 1 - t) % 2:Nat):Int)
def aIC (N c:Nat):List Int:=(List.range N).map (dg N c)
theorem aID (N c:Nat):aIC (N+1) c=((c / 2 ^ N % 2:Nat):Int)::(List.range N).map λt=>dg (N+1) c (t+1):=by
 unfold aIC;rw [List.range_succ_eq_map,List.map_cons,List.map_map];rfl
theorem aRh {N c t:Nat} :dg (N+1) c (t+1)=dg N c t:=by
 unfold dg;rw [show N+1 - 1 - (t+1)=N - 1 - t by omega]
theorem aTC {N c t:Nat} (h:t<N):dg (N+1) (2 ^ N+c) (t+1)=dg N c t:=by
 rw [aRh];unfold dg;congr 1;have e:2 ^ N=2 ^ (N - 1 - t)*(2 ^ t*2):=by rw [←Nat.pow_succ,←Nat.pow_add];congr 1;omega
 rw [e,Nat.mul_add_div (Nat.two_pow_pos _)];generalize 2 ^ t=a;omega
theorem aIE: ∀ N,dL (List.replicate N 1)=(List.range (2 ^ N)).map (aIC N)
 |0=>rfl
 |N+1=>by
  have hp:0<2 ^ N:=Nat.two_pow_pos N
  have e1:dL (List.replicate (N+1) 1)=(dL (List.replicate N 1)).map ((0:Int):: ·)++(dL (List.replicate N 1)).map ((1:Int):: ·):=by
   rw [List.replicate_succ];show (List.range 2).flatMap (λ(i:Nat)=>(dL (List.replicate N 1)).map λx=>(i:Int)::x)=_;rw [show List.range 2=[0,1] from rfl];simp
  rw [e1,aIE N,show 2 ^ (N+1)=2 ^ N+2 ^ N by rw [Nat.pow_succ];omega,List.range_add,List.map_append,List.map_map,List.map_map,List.map_map];congr 1
  ·refine kQ λc hc=>?_;have hc:=List.mem_range.1 hc;simp only [Function.comp];rw [aID,Nat.div_eq_of_lt hc];congr 1;exact kQ λt ht=>aRh.symm
  ·refine kQ λc hc=>?_;have hc:=List.mem_range.1 hc;simp only [Function.comp];rw [aID,Nat.add_div_left _ hp,Nat.div_eq_of_lt hc];congr 1;exact kQ λt ht=>(aTC (List.mem_range.1 ht)).symm
theorem aMR (l:Nat→Nat) (g:Nat→Int): ∀ k,cat l (λv y=>g (off l v+y)) k=(List.range (off l k)).map g
 |0=>rfl
 |k+1=>by
  rw [cat,aMR l g k,off,List.range_add,List.map_append,List.map_map];rfl
def yU (k:Nat) (r c:Nat→Int) (l:Nat→Nat) (F:Nat→Nat→Int):List Mt:=(List.range k).map λv=>⟨r v,c v,(List.range (l v)).map (F v)⟩
def aKr (l:Nat→Nat) (N code T:Nat) (F:Nat→Nat→Int):Nat→Nat→Int:=λv y=>if T≤off l v+y then dg N code (off l v+y) else F v y
def dgM (l:Nat→Nat) (N code:Nat):Nat→Nat→Int:=λv y=>dg N code (off l v+y)
theorem aCg {α:Type} (n k:Nat) (f:Nat→α) (v:α):((List.range n).map f).set k v=(List.range n).map λi=>if i=k then v else f i:=by
 refine List.ext_getElem (by simp) λt h1 h2=>?_;rw [List.getElem_set,List.getElem_map,List.getElem_map,List.getElem_range];by_cases e:k=t
 ·rw [aR e,aR e.symm]
 ·rw [aQ e,aQ λh=>e h.symm]
section
variable {k:Nat} {r c:Nat→Int} {l:Nat→Nat}
theorem aOz {F G:Nat→Nat→Int} (h: ∀ v,v<k→ ∀ y,y<l v→F v y=G v y):yU k r c l F=yU k r c l G:=by
 refine kQ λv hv=>?_;congr 1;exact kQ λy hy=>h v (List.mem_range.1 hv) y (List.mem_range.1 hy)
theorem aNt {F:Nat→Nat→Int} {v:Nat} (hv:v<k):cZ (yU k r c l F) (v:Int)=some ⟨r v,c v,(List.range (l v)).map (F v)⟩:=zN hv
theorem aDG {F:Nat→Nat→Int} :(yU k r c l F).length=k:=by unfold yU;simp
theorem aTD {F:Nat→Nat→Int} {i y:Nat} {z:Int} (hi:i<k):(yU k r c l F).set i ⟨r i,c i,((List.range (l i)).map (F i)).set y z⟩=yU k r c l (λv x=>if v=i∧x=y then z else F v x):=by
 unfold yU;rw [aCg];refine kQ λv hv=>?_;by_cases e:v=i
 ·subst e;rw [aR rfl,aCg];congr 1;refine kQ λx hx=>?_;by_cases e2:x=y
  ·simp [e2]
  ·simp [e2]
 ·rw [aQ e];congr 1;exact kQ λx hx=>by simp only;rw [aQ λh=>e h.1]
theorem aMS {F:Nat→Nat→Int} {i:Nat} (hi:i<k):(yU k r c l F).set i ⟨r i,c i,(List.range (l i)).map (F i)⟩=yU k r c l F:=by
 unfold yU;rw [aCg];refine kQ λv hv=>?_;by_cases e:v=i
 ·subst e;rw [aR rfl]
 ·rw [aQ e]
theorem aRi {F:Nat→Nat→Int} {N code i y:Nat} (hi:i<k) (hy:y<l i):yU k r c l (λv x=>if v=i∧x=y then dg N code (off l i+y) else aKr l N code (off l i+y+1) F v x)=yU k r c l (aKr l N code (off l i+y) F):=by
 refine aOz λv hv x hx=>?_;unfold aKr;by_cases e:v=i∧x=y
 ·obtain ⟨rfl,rfl⟩:=e;rw [aR ⟨rfl,rfl⟩,aR (bP _)]
 ·rw [aQ e];have hne:off l v+x≠off l i+y:=λh=>e (aOr hx hy h);by_cases h:off l i+y≤off l v+x
  ·rw [aR (by omega),aR h]
  ·rw [aQ (by omega),aQ h]
theorem aUR {F:Nat→Nat→Int} {N code i:Nat} (hk:k≤1000) (hN:off l k=N) (hN1:N≤1000) (hc:code≤1048576) (hi:i<k) (X:List Mt) (c0:Int):
  Lp (nJ (X,c0,(i:Int))) (yU k r c l (aKr l N code (off l (i+1)) F),((code / 2 ^ (N - off l (i+1)):Nat):Int),(l i:Int) - 1)=some (yU k r c l (aKr l N code (off l i) F),((code / 2 ^ (N - off l i):Nat):Int)):=by
 have e0:off l (i+1)=off l i+l i:=rfl;have h1:off l (i+1)≤N:=by rw [←hN];exact aAs hi
 refine dR (λm=>(yU k r c l (aKr l N code (off l (i+1) - m) F),((code / 2 ^ (N - (off l (i+1) - m)):Nat):Int),(l i:Int) - 1 - m)) (l i) (by simp) (λm hm=>?_) (λ_=>?_)
 ·obtain ⟨y,hy⟩: ∃ y,y=l i - 1 - m:=⟨_,rfl⟩;have hyl:y<l i:=by omega
  have ei:(l i:Int) - 1 - m=(y:Int):=by omega
  have eT:off l (i+1) - m=off l i+y+1:=by omega
  have eT':off l (i+1) - (m+1)=off l i+y:=by omega
  have hle:code / 2 ^ (N - (off l i+y+1))≤code:=Nat.div_le_self _ _;unfold nJ;simp only;rw [ei,eT,eT',bG (by omega),aN,aNt hi,aD];simp only;rw [zN hyl,aD,dE,dE,aTD hi]
  rw [show ((code / 2 ^ (N - (off l i+y+1)):Nat):Int).tmod 2=dg N code (off l i+y) by
   unfold dg;rw [show N - 1 - (off l i+y)=N - (off l i+y+1) by omega]
   rfl]
  rw [aRi hi hyl,show ((code / 2 ^ (N - (off l i+y+1)):Nat):Int).tdiv 2=((code / 2 ^ (N - (off l i+y+1)) / 2:Nat):Int) from rfl]
  have e3:code / 2 ^ (N - (off l i+y))=code / 2 ^ (N - (off l i+y+1)) / 2:=by
   rw [Nat.div_div_eq_div_mul,←Nat.pow_succ,Nat.succ_eq_add_one,show N - (off l i+y+1)+1=N - (off l i+y) by omega]
  rw [e3];generalize code / 2 ^ (N - (off l i+y+1))=Q at*;rw [dB (by omega),dB (by omega),show (l i:Int) - 1 - ((m+1:Nat):Int)=(y:Int) - 1 by omega]
 ·unfold nJ;simp only;rw [eV (by omega),bA,show off l (i+1) - l i=off l i by omega]
theorem aUS {F:Nat→Nat→Int} {N code:Nat} (hk:k≤1000) (hN:off l k=N) (hN1:N≤1000) (hc:code≤1048576):
  Lp nK (yU k r c l F,(code:Int),(k:Int) - 1)=some (yU k r c l (dgM l N code)):=by
 refine dR (λm=>(yU k r c l (aKr l N code (off l (k - m)) F),((code / 2 ^ (N - off l (k - m)):Nat):Int),(k:Int) - 1 - m)) k ?_ (λm hm=>?_) (λ_=>?_)
 ·have e:yU k r c l F=yU k r c l (aKr l N code (off l (k - 0)) F):=aOz λv hv y hy=>by
   have:=wG (l:=l) hv hy;unfold aKr;rw [aQ (by rw [Nat.sub_zero];omega)]
  rw [←e,Nat.sub_zero,hN,Nat.sub_self,Nat.pow_zero,Nat.div_one];simp
 ·obtain ⟨i,hi⟩: ∃ i,i=k - 1 - m:=⟨_,rfl⟩;have hik:i<k:=by omega
  have ei:(k:Int) - 1 - m=(i:Int):=by omega
  have e0:off l (i+1)=off l i+l i:=rfl;have hli:l i≤1000:=by have:=aAs (l:=l) (show i+1≤k from hik);omega
  unfold nK;simp only;rw [ei,show k - m=i+1 by omega,show k - (m+1)=i by omega,bG (by omega),aN,aNt hik,aD,dE,aMS hik];simp only [eW,List.length_range];rw [show wr ((l i:Int) - 1)=(l i:Int) - 1 from dB (by omega),aUR hk hN hN1 hc hik,aD];simp only;rw [dB (by omega)];congr 4;omega
 ·unfold nK;simp only;rw [eV (by omega),bA,Nat.sub_self];congr 2
theorem aUT {F:Nat→Nat→Int} {N:Nat} (hk:k≤1000) (hN:off l k=N) (hN1:N≤1000):Lp kI (yU k r c l F,0,0)=some (yU k r c l F,(N:Int)):=by
 refine dR (λm=>(yU k r c l F,(off l m:Int),(m:Int))) k rfl (λm hm=>?_) (λ_=>?_)
 ·have e0:off l (m+1)=off l m+l m:=rfl;have:=aAs (l:=l) (show m+1≤k from hm);unfold kI;simp only;rw [aDG,iV hm,aN,aNt hm,aD,dE,aMS hm];simp only [eW,List.length_range];rw [bW hm (by omega),dB (by omega),e0];congr 4
 ·unfold kI;simp only;rw [aDG,jZ (bP _),bA,hN]
theorem aPA: ∀ N:Nat,N≤10→aNm 1 (N:Int)=((2 ^ N:Nat):Int):=by decide
def aIG (p:Int) (q:Qv) (d:List Int) (k:Nat) (r c:Nat→Int) (l:Nat→Nat) (N:Nat) (P:Nat→Bool) (s n:Nat):Unit ⊕ (Rp×Bool):=
 match (List.range' s n).find? P with
 |none=> .inl ()
 |some code=> .inr (⟨p,q,d,yU k r c l (dgM l N code)⟩,true)
theorem aUU {p:Int} {q:Qv} {d:List Int} {N:Nat} {P:Nat→Bool} {X:List Mt} {z:List Mt} (hk:k≤1000) (hN:off l k=N) (hN1:N≤10)
  (hP: ∀ code,code<2 ^ N→ ∃ h:Int,tZ ⟨p,q,d,yU k r c l (dgM l N code)⟩ ⟨p,q,d,yU k r c l (dgM l N code)⟩=some h∧decide (h=1)=P code):
  ∀ (n s:Nat) (F:Nat→Nat→Int),s+n=2 ^ N→Lp (gT ⟨p,q,d,z⟩ (X,(N:Int))) (yU k r c l F,(s:Int))=some (aIG p q d k r c l N P s n):=by
 have h2:2 ^ N≤1024:=Nat.le_trans (Nat.pow_le_pow_right (by omega) hN1) (by decide);intro n;induction n with
 |zero=>
  intro s F hs;refine eO ?_;unfold gT;simp only;rw [bG (by omega),aN,eV (by omega),Bool.not_false,aN,aPA N hN1,jZ (by omega),bA];rfl
 |succ n ih=>
  intro s F hs;have hlt:s<2 ^ N:=by omega
  obtain ⟨h,hh1,hh2⟩:=hP s hlt
  have hb:gT ⟨p,q,d,z⟩ (X,(N:Int)) (yU k r c l F,(s:Int))=some (bif P s then .inr (.inr (⟨p,q,d,yU k r c l (dgM l N s)⟩,true)) else .inl (yU k r c l (dgM l N s),((s+1:Nat):Int))):=by
   unfold gT;simp only;rw [bG (by omega),aN,eV (by omega),Bool.not_false,aN,aPA N hN1,iV hlt,aN,aDG,show wr ((k:Int) - 1)=(k:Int) - 1 from dB (by omega),aUS hk hN (by omega) (by omega),aD,hh1,aD,hh2];cases P s with
   |true=>rfl
   |false=>rw [bA,bA,bW hlt (by omega)]
  unfold aIG;rw [List.range'_succ,List.find?_cons];cases hp:P s with
  |true=>
   rw [hp] at hb;exact eO hb
  |false=>
   rw [hp] at hb;rw [jX hb,ih (s+1) _ (by omega)];rfl
theorem aVU {p:Int} {q:Qv} {d:List Int} {N:Nat} {P:Nat→Bool} {G:Nat→Nat→Int} (hk:k≤1000) (hN:off l k=N) (hN1:N≤10)
  (hP: ∀ code,code<2 ^ N→ ∃ h:Int,tY ⟨p,q,d,yU k r c l (dgM l N code)⟩ ⟨p,q,d,yU k r c l (dgM l N code)⟩=some h∧decide (h=1)=P code):
  ∀ (n s:Nat) (X:List Mt),s+n=2 ^ N→ ∃ Y,Fl (kH ⟨p,q,d,yU k r c l G⟩) ((List.range' s n).map (aIC N)) X=some ((aIG p q d k r c l N P s n).elim (λ_=> .inl Y) .inr):=by
 intro n;induction n with
 |zero=>intro s X hs;exact ⟨X,rfl⟩
 |succ n ih=>
  intro s X hs;have hlt:s<2 ^ N:=by omega
  obtain ⟨h,hh1,hh2⟩:=hP s hlt
  have hsh:qP (yU k r c l G) (aIC N s)=some (yU k r c l (dgM l N s)):=by
   unfold aIC;rw [←hN,←aMR l (dg (off l k) s) k];exact aMG (by omega) (by omega) λv hv=>by simp
  have hb:kH ⟨p,q,d,yU k r c l G⟩ (aIC N s) X=some (bif P s then .inr (⟨p,q,d,yU k r c l (dgM l N s)⟩,true) else .inl (yU k r c l (dgM l N s))):=by
   unfold kH;simp only;rw [hsh,aD,hh1,aD,hh2];cases P s <;> rfl
  unfold aIG;rw [List.range'_succ,List.find?_cons,List.map_cons];simp only [Fl,hb];cases hp:P s with
  |true=>exact ⟨X,rfl⟩
  |false=>
   obtain ⟨Y,hY⟩:=ih (s+1) (yU k r c l (dgM l N s)) (by omega);exact ⟨Y,hY⟩
end
end
noncomputable section
set_option maxRecDepth 100000
def eY:Nat→(Nat→Int)→Int
 |0,_=>0
 |n+1,f=>eY n f+f n
def aKs (k:Nat) (row:List Int):List Int:=row.take k++row.drop (k+1)
def sgK (k:Nat):Int:=if Nat.beq (k % 2) 0 then 1 else -1
def aIn (det:List (List Int)→Int) (r0:List Int) (rest:List (List Int)):Nat→Int
 |0=>0
 |k+1=>wr (aIn det r0 rest k+wr (wr (sgK k*r0[k]?.getD 0)*det (rest.map (aKs k))))
def yI:Nat→List (List Int)→Int
 |0,_=>0
 |_+1,[]=>1
 |d+1,r0::rest=>aIn (yI d) r0 rest r0.length
def aBx (s v:Nat):Bool:=Nat.beq (s / 2 ^ v % 2) 1
def pJ (n s:Nat):List Nat:=(List.range n).filter (aBx s)
def lJ (n:Nat) (T:List (List Int)) (s:Nat):List (List Int):=(pJ n s).map λv=>(pJ n s).map λw=>jP T v w
def pdF:Nat→(Nat→Nat→Int)→Bool
 |0,_=>true
 |n+1,m=>decide (0<m 0 0)&&pdF n (λi j=>m 0 0*m (i+1) (j+1) - m (i+1) 0*m 0 (j+1))
def mvT (n:Nat) (T:List (List Int)) (x:List Int) (v:Nat):Int:=eY n λw=>jP T v w*x[w]?.getD 0
def aTE (x:List Int) (v:Nat):List Int:=x.set v (x[v]?.getD 0+1)
def wM (n v:Nat):List Int:=(List.replicate n (0:Int)).set v 1
def aKt (x:List Int) (l:List (List Int)):List (List Int):=if x∈l then l else x::l
def aGL (n:Nat) (T:List (List Int)) (l:List (List Int)):List (List Int):=(l.flatMap λx=>((List.range n).filter λv=>decide (mvT n T x v= -1)).map (aTE x)).foldr aKt []
def aNu (n:Nat) (T:List (List Int)):Nat→List (List Int)→List (List Int)→List (List Int)×Bool
 |0,cur,acc=>(acc++cur,cur.isEmpty)
 |k+1,cur,acc=>aNu n T k (aGL n T cur) (acc++cur)
def aDy (n:Nat) (T:List (List Int)):List (List Int)×Bool:=aNu n T 8 ((List.range n).map (wM n)) []
def aJd (n:Nat) (T:List (List Int)):Bool:=pdF n (jP T)&&(match aDy n T with|(l,e)=>e&&decide (l.length≤20)&&l.all λx=>x.all λa=>decide (a≤4))
def aAI (n:Nat) (T:List (List Int)):Bool:=aJd n T||[7,11,13,14,19,21,22,25,26,28,15,23,27,29,30,31].any λs=>Nat.blt s (2 ^ n)&&decide (yI 8 (lJ n T s)≤0)
def bi (b:Bool):Int:=if b then -1 else 0
theorem aVw:aAI 1 [[2]]=true:=by decide+kernel
theorem aVx: ∀ a:Bool,aAI 2 [[2,bi a],[bi a,2]]=true:=by decide+kernel
theorem aVy: ∀ a b c:Bool,aAI 3 [[2,bi a,bi b],[bi a,2,bi c],[bi b,bi c,2]]=true:=by decide+kernel
theorem aVz: ∀ a b c d e f:Bool,aAI 4 [[2,bi a,bi b,bi c],[bi a,2,bi d,bi e],[bi b,bi d,2,bi f],[bi c,bi e,bi f,2]]=true:=by decide+kernel
theorem aUV: ∀ e f g h i j:Bool,aAI 5 [[2,bi false,bi false,bi false,bi false],[bi false,2,bi e,bi f,bi g],[bi false,bi e,2,bi h,bi i],[bi false,bi f,bi h,2,bi j],[bi false,bi g,bi i,bi j,2]]=true:=by decide+kernel
theorem aUW: ∀ e f g h i j:Bool,aAI 5 [[2,bi true,bi false,bi false,bi false],[bi true,2,bi e,bi f,bi g],[bi false,bi e,2,bi h,bi i],[bi false,bi f,bi h,2,bi j],[bi false,bi g,bi i,bi j,2]]=true:=by decide+kernel
theorem aUX: ∀ e f g h i j:Bool,aAI 5 [[2,bi false,bi true,bi false,bi false],[bi false,2,bi e,bi f,bi g],[bi true,bi e,2,bi h,bi i],[bi false,bi f,bi h,2,bi j],[bi false,bi g,bi i,bi j,2]]=true:=by decide+kernel
theorem aUY: ∀ e f g h i j:Bool,aAI 5 [[2,bi true,bi true,bi false,bi false],[bi true,2,bi e,bi f,bi g],[bi true,bi e,2,bi h,bi i],[bi false,bi f,bi h,2,bi j],[bi false,bi g,bi i,bi j,2]]=true:=by decide+kernel
theorem aUZ: ∀ e f g h i j:Bool,aAI 5 [[2,bi false,bi false,bi true,bi false],[bi false,2,bi e,bi f,bi g],[bi false,bi e,2,bi h,bi i],[bi true,bi f,bi h,2,bi j],[bi false,bi g,bi i,bi j,2]]=true:=by decide+kernel
theorem aUa: ∀ e f g h i j:Bool,aAI 5 [[2,bi true,bi false,bi true,bi false],[bi true,2,bi e,bi f,bi g],[bi false,bi e,2,bi h,bi i],[bi true,bi f,bi h,2,bi j],[bi false,bi g,bi i,bi j,2]]=true:=by decide+kernel
theorem aUb: ∀ e f g h i j:Bool,aAI 5 [[2,bi false,bi true,bi true,bi false],[bi false,2,bi e,bi f,bi g],[bi true,bi e,2,bi h,bi i],[bi true,bi f,bi h,2,bi j],[bi false,bi g,bi i,bi j,2]]=true:=by decide+kernel
theorem aUc: ∀ e f g h i j:Bool,aAI 5 [[2,bi true,bi true,bi true,bi false],[bi true,2,bi e,bi f,bi g],[bi true,bi e,2,bi h,bi i],[bi true,bi f,bi h,2,bi j],[bi false,bi g,bi i,bi j,2]]=true:=by decide+kernel
theorem aUd: ∀ e f g h i j:Bool,aAI 5 [[2,bi false,bi false,bi false,bi true],[bi false,2,bi e,bi f,bi g],[bi false,bi e,2,bi h,bi i],[bi false,bi f,bi h,2,bi j],[bi true,bi g,bi i,bi j,2]]=true:=by decide+kernel
theorem aUe: ∀ e f g h i j:Bool,aAI 5 [[2,bi true,bi false,bi false,bi true],[bi true,2,bi e,bi f,bi g],[bi false,bi e,2,bi h,bi i],[bi false,bi f,bi h,2,bi j],[bi true,bi g,bi i,bi j,2]]=true:=by decide+kernel
theorem aTF: ∀ e f g h i j:Bool,aAI 5 [[2,bi false,bi true,bi false,bi true],[bi false,2,bi e,bi f,bi g],[bi true,bi e,2,bi h,bi i],[bi false,bi f,bi h,2,bi j],[bi true,bi g,bi i,bi j,2]]=true:=by decide+kernel
theorem aTG: ∀ e f g h i j:Bool,aAI 5 [[2,bi true,bi true,bi false,bi true],[bi true,2,bi e,bi f,bi g],[bi true,bi e,2,bi h,bi i],[bi false,bi f,bi h,2,bi j],[bi true,bi g,bi i,bi j,2]]=true:=by decide+kernel
theorem aTH: ∀ e f g h i j:Bool,aAI 5 [[2,bi false,bi false,bi true,bi true],[bi false,2,bi e,bi f,bi g],[bi false,bi e,2,bi h,bi i],[bi true,bi f,bi h,2,bi j],[bi true,bi g,bi i,bi j,2]]=true:=by decide+kernel
theorem aTI: ∀ e f g h i j:Bool,aAI 5 [[2,bi true,bi false,bi true,bi true],[bi true,2,bi e,bi f,bi g],[bi false,bi e,2,bi h,bi i],[bi true,bi f,bi h,2,bi j],[bi true,bi g,bi i,bi j,2]]=true:=by decide+kernel
theorem aTJ: ∀ e f g h i j:Bool,aAI 5 [[2,bi false,bi true,bi true,bi true],[bi false,2,bi e,bi f,bi g],[bi true,bi e,2,bi h,bi i],[bi true,bi f,bi h,2,bi j],[bi true,bi g,bi i,bi j,2]]=true:=by decide+kernel
theorem aTK: ∀ e f g h i j:Bool,aAI 5 [[2,bi true,bi true,bi true,bi true],[bi true,2,bi e,bi f,bi g],[bi true,bi e,2,bi h,bi i],[bi true,bi f,bi h,2,bi j],[bi true,bi g,bi i,bi j,2]]=true:=by decide+kernel
theorem aWA (a b c d e f g h i j:Bool):aAI 5 [[2,bi a,bi b,bi c,bi d],[bi a,2,bi e,bi f,bi g],[bi b,bi e,2,bi h,bi i],[bi c,bi f,bi h,2,bi j],[bi d,bi g,bi i,bi j,2]]=true:=by
 cases a <;> cases b <;> cases c <;> cases d
 ·exact aUV e f g h i j
 ·exact aUd e f g h i j
 ·exact aUZ e f g h i j
 ·exact aTH e f g h i j
 ·exact aUX e f g h i j
 ·exact aTF e f g h i j
 ·exact aUb e f g h i j
 ·exact aTJ e f g h i j
 ·exact aUW e f g h i j
 ·exact aUe e f g h i j
 ·exact aUa e f g h i j
 ·exact aTI e f g h i j
 ·exact aUY e f g h i j
 ·exact aTG e f g h i j
 ·exact aUc e f g h i j
 ·exact aTK e f g h i j
end
noncomputable section
theorem eJ {f g:Nat→Int} : ∀ {n:Nat},(∀ i,i<n→f i=g i)→eY n f=eY n g
 |0,_=>rfl
 |n+1,h=>by simp only [eY];rw [eJ (n:=n) λi hi=>h i (by omega),h n (by omega)]
theorem aAJ (f:Nat→Int): ∀ n,eY (n+1) f=f 0+eY n λi=>f (i+1)
 |0=>by simp [eY]
 |n+1=>by rw [eY,aAJ f n];simp only [eY];omega
theorem qL (f g:Nat→Int): ∀ n,(eY n λi=>f i+g i)=eY n f+eY n g
 |0=>by simp [eY]
 |n+1=>by simp only [eY];rw [qL f g n];omega
theorem nL (c:Int) (f:Nat→Int): ∀ n,(eY n λi=>c*f i)=c*eY n f
 |0=>by simp [eY]
 |n+1=>by simp only [eY];rw [nL c f n,Int.mul_add]
theorem xM: ∀ n,(eY n λ_=>(0:Int))=0
 |0=>rfl
 |n+1=>by simp only [eY];rw [xM n];rfl
theorem aGM {f:Nat→Int} : ∀ {n:Nat},(∀ i,i<n→0≤f i)→0≤eY n f
 |0,_=>Int.le_refl 0
 |n+1,h=>by simp only [eY];have:=aGM (n:=n) λi hi=>h i (by omega);have:=h n (by omega);omega
theorem aCh {f:Nat→Int} : ∀ {n:Nat},0<eY n f→ ∃ i,i<n∧0<f i
 |0,h=>absurd h (by simp [eY])
 |n+1,h=>by
  simp only [eY] at h;by_cases h1:0<f n
  ·exact ⟨n,by omega,h1⟩
  ·obtain ⟨i,h2,h3⟩:=aCh (f:=f) (n:=n) (by omega);exact ⟨i,by omega,h3⟩
theorem aVk {f:Nat→Int} {n i:Nat} (h: ∀ i,i<n→0≤f i) (hi:i<n):f i≤eY n f:=by
 induction n with
 |zero=>omega
 |succ n ih=>
  simp only [eY];have h1:=aGM (f:=f) (n:=n) λi hi=>h i (by omega);by_cases e:i=n
  ·subst e;omega
  ·have:=ih (λi hi=>h i (by omega)) (by omega);have:=h n (by omega);omega
theorem aBS {n v:Nat} (f:Nat→Int) (hv:v<n):(eY n λi=>if i=v then f i else 0)=f v:=by
 induction n with
 |zero=>omega
 |succ n ih=>
  simp only [eY];by_cases e:v=n
  ·subst e;rw [aR rfl,eJ (g:=λ_=>0) (λi hi=>aQ (by omega)),xM];omega
  ·rw [ih (by omega),aQ (λh=>e h.symm)];omega
def qf (n:Nat) (m:Nat→Nat→Int) (x:Nat→Int):Int:=eY n λi=>eY n λj=>m i j*(x i*x j)
def mv (n:Nat) (m:Nat→Nat→Int) (x:Nat→Int) (v:Nat):Int:=eY n λw=>m v w*x w
theorem aMT (n:Nat) (m:Nat→Nat→Int) (x:Nat→Int):qf n m x=eY n λi=>x i*mv n m x i:=by
 unfold qf mv;refine eJ λi _=>?_;rw [←nL];exact eJ λj _=>by grind
theorem aTL (n:Nat) (m:Nat→Nat→Int) (x:Nat→Int) (hs: ∀ i,i<n→m (i+1) 0=m 0 (i+1)):
  m 0 0*qf (n+1) m x=(m 0 0*x 0+eY n λj=>m 0 (j+1)*x (j+1))*(m 0 0*x 0+eY n λj=>m 0 (j+1)*x (j+1))+qf n (λi j=>m 0 0*m (i+1) (j+1) - m (i+1) 0*m 0 (j+1)) (λi=>x (i+1)):=by
 have e1:qf (n+1) m x=(m 0 0*(x 0*x 0)+x 0*eY n λj=>m 0 (j+1)*x (j+1))+(x 0*(eY n λj=>m 0 (j+1)*x (j+1))+eY n λi=>eY n λj=>m (i+1) (j+1)*(x (i+1)*x (j+1))):=by
  unfold qf;rw [aAJ];congr 1
  ·rw [aAJ,←nL];congr 1;exact eJ λj _=>by grind
  ·rw [←nL,←qL];refine eJ λi hi=>?_;rw [aAJ,hs i hi];congr 1
   grind
 have e2:qf n (λi j=>m 0 0*m (i+1) (j+1) - m (i+1) 0*m 0 (j+1)) (λi=>x (i+1))=m 0 0*(eY n λi=>eY n λj=>m (i+1) (j+1)*(x (i+1)*x (j+1)))+(-(eY n λj=>m 0 (j+1)*x (j+1)))*eY n λj=>m 0 (j+1)*x (j+1):=by
  unfold qf;rw [←nL,←nL,←qL];refine eJ λi hi=>?_;rw [←nL,show -(eY n λj=>m 0 (j+1)*x (j+1))*(m 0 (i+1)*x (i+1))=(-(m 0 (i+1)*x (i+1)))*eY n λj=>m 0 (j+1)*x (j+1) by grind,←nL,←qL];refine eJ λj hj=>?_;dsimp only;rw [hs i hi]
  grind
 rw [e1,e2];generalize (eY n λj=>m 0 (j+1)*x (j+1))=L;generalize (eY n λi=>eY n λj=>m (i+1) (j+1)*(x (i+1)*x (j+1)))=R
 grind
theorem aPy (a:Int):0≤a*a:=by
 rcases Int.le_total 0 a with h|h
 ·exact Int.mul_nonneg h h
 ·have:=Int.mul_nonneg (Int.neg_nonneg_of_nonpos h) (Int.neg_nonneg_of_nonpos h);rwa [Int.neg_mul_neg] at this
theorem aUf {a:Int} (h:a≠0):0<a*a:=by
 rcases Int.lt_or_gt_of_ne h with h|h
 ·have:=Int.mul_pos (Int.neg_pos_of_neg h) (Int.neg_pos_of_neg h);rwa [Int.neg_mul_neg] at this
 ·exact Int.mul_pos h h
theorem aRj: ∀ (n:Nat) (m:Nat→Nat→Int),pdF n m=true→(∀ i j,i<n→j<n→m i j=m j i)→ ∀ x:Nat→Int,0≤qf n m x∧((∃ i,i<n∧x i≠0)→0<qf n m x)
 |0,m,_,_,x=>⟨by simp [qf,eY],λ⟨i,h,_⟩=>by omega⟩
 |n+1,m,hp,hs,x=>by
  simp only [pdF,dK,iW] at hp;obtain ⟨ha,hp⟩:=hp;have ih:=aRj n _ hp (λi j hi hj=>by rw [hs (i+1) (j+1) (by omega) (by omega),hs (i+1) 0 (by omega) (by omega),hs 0 (j+1) (by omega) (by omega)];grind) (λi=>x (i+1));have id:=aTL n m x (λi hi=>hs _ _ (by omega) (by omega));generalize hL:(eY n λj=>m 0 (j+1)*x (j+1))=L at id;have hsq:=aPy (m 0 0*x 0+L);refine ⟨?_,?_⟩
  ·rcases Int.lt_or_le (qf (n+1) m x) 0 with h|h
   ·have:=Int.mul_neg_of_pos_of_neg ha h;omega
   ·exact h
  ·rintro ⟨i,hi,hx⟩
   have hpos:0<m 0 0*qf (n+1) m x:=by
    by_cases hex: ∃ i,i<n∧x (i+1)≠0
    ·have:=ih.2 hex;omega
    ·have hz: ∀ i,i<n→x (i+1)=0:=λi hi=>Classical.byContradiction λh=>hex ⟨i,hi,h⟩
     have hL0:L=0:=by
      rw [←hL,eJ (g:=λ_=>0) (λj hj=>by rw [hz j hj,Int.mul_zero]),xM]
     have hx0:x 0≠0:=by
      cases i with
      |zero=>exact hx
      |succ i=>exact absurd (hz i (by omega)) hx
     have:m 0 0*x 0+L≠0:=by
      rw [hL0,Int.add_zero];exact Int.mul_ne_zero (by omega) hx0
     have:=aUf this;have:=ih.1;omega
   rcases Int.lt_or_le 0 (qf (n+1) m x) with h|h
   ·exact h
   ·have:=Int.mul_nonpos_of_nonneg_of_nonpos (Int.le_of_lt ha) h;omega
theorem aNv {n v:Nat} (m:Nat→Nat→Int) (x:Nat→Int) (d:Int) (w:Nat) (hv:v<n):mv n m (λi=>x i+if i=v then d else 0) w=mv n m x w+d*m w v:=by
 unfold mv;rw [←aBS (n:=n) (v:=v) (λi=>d*m w i) hv,←qL];refine eJ λi _=>?_;by_cases e:i=v
 ·simp only [aR e];grind
 ·simp only [aQ e];grind
theorem aNw {n v:Nat} (m:Nat→Nat→Int) (x:Nat→Int) (d:Int) (hv:v<n) (hs: ∀ i j,i<n→j<n→m i j=m j i):qf n m (λi=>x i+if i=v then d else 0)=qf n m x+2*d*mv n m x v+d*d*m v v:=by
 rw [aMT,aMT]
 have e1:(eY n λi=>(x i+if i=v then d else 0)*mv n m (λi=>x i+if i=v then d else 0) i)=eY n λi=>(x i*mv n m x i+d*(m v i*x i))+if i=v then d*(mv n m x i+d*m i v) else 0:=by
  refine eJ λi hi=>?_;rw [aNv m x d i hv,hs i v hi hv];by_cases e:i=v
  ·simp only [aR e];grind
  ·simp only [aQ e];grind
 rw [e1,qL,qL,nL,aBS (λi=>d*(mv n m x i+d*m i v)) hv];change _+d*mv n m x v+_=_
 grind
def gx (x:List Int) (i:Nat):Int:=x[i]?.getD 0
theorem aCi {x:List Int} {v:Nat} (a:Int) (hv:v<x.length) (i:Nat):gx (x.set v a) i=if i=v then a else gx x i:=by
 unfold gx;rw [List.getElem?_set];by_cases e:v=i
 ·subst e;simp [hv]
 ·rw [aQ e,aQ (λh=>e h.symm)]
theorem aFe {x:List Int} {v:Nat} (d:Int) (hv:v<x.length):gx (x.set v (gx x v+d))=λi=>gx x i+if i=v then d else 0:=by
 funext i;rw [aCi _ hv];by_cases e:i=v
 ·subst e;simp
 ·simp [e]
theorem aRk {x y:List Int} (hl:x.length=y.length) (h: ∀ i,i<x.length→gx x i=gx y i):x=y:=by
 refine List.ext_getElem hl λi h1 h2=>?_;have:=h i h1;simpa [gx,h1,h2] using this
theorem aBT: ∀ x:List Int,x.sum=eY x.length (gx x)
 | []=>rfl
 |a::x=>by
  rw [List.length_cons,aAJ,List.sum_cons,aBT x];rfl
theorem aKu {x:List Int} {v:Nat} (d:Int) (hv:v<x.length):(x.set v (gx x v+d)).sum=x.sum+d:=by
 rw [aBT,aBT,List.length_set,aFe d hv,qL,aBS (λ_=>d) hv]
theorem aNx {x:List Int} (h: ∀ a∈x,0≤a):0≤x.sum:=by
 induction x with
 |nil=>simp
 |cons a x ih=>rw [List.sum_cons];have:=h a (by simp);have:=ih λb hb=>h b (by simp [hb]);omega
theorem aIH: ∀ {x:List Int},(∀ a∈x,0≤a)→x.sum=0→x=List.replicate x.length 0
 | [],_,_=>rfl
 |a::x,h,hs=>by
  rw [List.sum_cons] at hs;have h1:=h a (by simp);have h2:=aNx (x:=x) λb hb=>h b (by simp [hb]);have h3:=aIH (x:=x) (λb hb=>h b (by simp [hb])) (by omega);have h4:a=0:=by omega
  rw [h4,List.length_cons,List.replicate_succ,←h3]
theorem aII: ∀ {x:List Int},(∀ a∈x,0≤a)→x.sum=1→ ∃ v,v<x.length∧x=wM x.length v
 | [],_,hs=>by simp at hs
 |a::x,h,hs=>by
  rw [List.sum_cons] at hs;have h1:=h a (by simp);have h2:=aNx (x:=x) λb hb=>h b (by simp [hb]);by_cases e:a=0
  ·obtain ⟨v,g1,g2⟩:=aII (x:=x) (λb hb=>h b (by simp [hb])) (by omega);refine ⟨v+1,by simpa using g1,?_⟩;rw [e,List.length_cons];show _=0::wM x.length v;rw [←g2]
  ·have h3:=aIH (x:=x) (λb hb=>h b (by simp [hb])) (by omega);refine ⟨0,by simp,?_⟩;have h4:a=1:=by omega
   rw [h4,List.length_cons];show _=1::List.replicate x.length 0;rw [←h3]
theorem aAv {x:List Int} {i:Nat} (h:i<x.length):gx x i∈x:=by
 unfold gx;rw [iE h];exact List.getElem_mem h
theorem aAw {x:List Int} {v:Nat} {a b:Int} (h:b∈x.set v a):b=a∨b∈x:=by
 rcases List.mem_or_eq_of_mem_set h with h|h
 ·exact .inr h
 ·exact .inl h
structure GForm (n:Nat) (T:List (List Int)):Prop where
 sym: ∀ i j,i<n→j<n→jP T i j=jP T j i
 diag: ∀ i,i<n→jP T i i=2
 pd:pdF n (jP T)=true
structure Rt0 (n:Nat) (T:List (List Int)) (x:List Int):Prop where
 len:x.length=n
 nn: ∀ a∈x,0≤a
 two:qf n (jP T) (gx x)=2
theorem aUg (n:Nat) (T:List (List Int)) (x:List Int) (v:Nat):mvT n T x v=mv n (jP T) (gx x) v:=rfl
theorem Rt0.pos {n:Nat} {T:List (List Int)} {x:List Int} (F:GForm n T) (r:Rt0 n T x):1≤x.sum:=by
 have h:=aNx r.nn;rcases Int.lt_or_le x.sum 1 with h1|h1
 ·have h2:=aIH r.nn (by omega);have h3:=r.two;rw [aMT,eJ (g:=λ_=>0) (λi hi=>?_),xM] at h3
  ·omega
  ·rw [h2];unfold gx;rw [List.getElem?_replicate];split <;> simp
 ·exact h1
theorem Rt0.down {n:Nat} {T:List (List Int)} {x:List Int} (F:GForm n T) (r:Rt0 n T x) (h:2≤x.sum): ∃ v,v<n∧mv n (jP T) (gx x) v=1∧Rt0 n T (x.set v (gx x v+ -1)):=by
 have h1:=r.two;rw [aMT] at h1;obtain ⟨v,hv,h2⟩:=aCh (n:=n) (f:=λi=>gx x i*mv n (jP T) (gx x) i) (by omega);have hvl:v<x.length:=by rw [r.len];exact hv
 have h3:=r.nn _ (aAv hvl)
 have h4:0<gx x v:=by
  rcases Int.lt_or_le 0 (gx x v) with h|h
  ·exact h
  ·have:gx x v=0:=by omega
   rw [this] at h2;simp at h2
 have h5:0<mv n (jP T) (gx x) v:=by
  rcases Int.lt_or_le 0 (mv n (jP T) (gx x) v) with h|h
  ·exact h
  ·have:=Int.mul_nonpos_of_nonneg_of_nonpos h3 h;omega
 have hnn: ∀ a∈x.set v (gx x v+ -1),0≤a:=λa ha=>by
  rcases aAw ha with rfl|ha
  ·omega
  ·exact r.nn a ha
 have hq:qf n (jP T) (gx (x.set v (gx x v+ -1)))=4 - 2*mv n (jP T) (gx x) v:=by
  rw [aFe _ hvl,aNw _ _ _ hv F.sym,r.two,F.diag v hv];omega
 have hs:=aKu (-1) hvl
 have hpos:0<qf n (jP T) (gx (x.set v (gx x v+ -1))):=by
  refine (aRj n _ F.pd F.sym _).2 ?_;rw [aBT,List.length_set,r.len] at hs;obtain ⟨i,hi,h6⟩:=aCh (n:=n) (f:=gx (x.set v (gx x v+ -1))) (by omega);exact ⟨i,hi,by omega⟩
 have h7:mv n (jP T) (gx x) v=1:=by omega
 exact ⟨v,hv,h7,by rw [List.length_set];exact r.len,hnn,by omega⟩
def lvl (n:Nat) (T:List (List Int)):Nat→List (List Int)
 |0=>(List.range n).map (wM n)
 |k+1=>aGL n T (lvl n T k)
theorem aNy {x y:List Int} {l:List (List Int)} :y∈aKt x l↔y=x∨y∈l:=by
 unfold aKt;split
 ·rename_i h;exact ⟨.inr,λh'=>h'.elim (λe=>e▸h) id⟩
 ·simp
theorem aJe {y:List Int} : ∀ {l:List (List Int)},y∈l.foldr aKt []↔y∈l
 | []=>by simp
 |x::l=>by rw [List.foldr_cons,aNy,aJe (l:=l),eC]
theorem aPz {n:Nat} {T:List (List Int)} {l:List (List Int)} {x:List Int} {v:Nat} (hx:x∈l) (hv:v<n) (h:mvT n T x v= -1):aTE x v∈aGL n T l:=by
 unfold aGL;rw [aJe,List.mem_flatMap];exact ⟨x,hx,List.mem_map.2 ⟨v,List.mem_filter.2 ⟨List.mem_range.2 hv,bG h⟩,rfl⟩⟩
theorem Rt0.lvl {n:Nat} {T:List (List Int)} (F:GForm n T): ∀ (h:Nat) {x:List Int},Rt0 n T x→x.sum=h+1→x∈lvl n T h
 |0,x,r,hs=>by
  obtain ⟨v,hv,e⟩:=aII r.nn (by omega);rw [r.len] at e hv;exact List.mem_map.2 ⟨v,List.mem_range.2 hv,e.symm⟩
 |h+1,x,r,hs=>by
  obtain ⟨v,hv,h1,h2⟩:=r.down F (by omega);have hvl:v<x.length:=by rw [r.len];exact hv
  have ih:=Rt0.lvl F h h2 (by rw [aKu _ hvl];omega)
  have h3:mvT n T (x.set v (gx x v+ -1)) v= -1:=by
   rw [aUg,aFe _ hvl,aNv _ _ _ _ hv,h1,F.diag v hv];rfl
  have h4:=aPz ih hv h3
  have h5:aTE (x.set v (gx x v+ -1)) v=x:=by
   unfold aTE;change (x.set v (gx x v+ -1)).set v (gx (x.set v (gx x v+ -1)) v+1)=x;rw [aCi _ hvl,aR rfl,List.set_set];refine aRk (by simp) λi _=>?_;rw [aCi _ hvl];by_cases e:i=v
   ·subst e;rw [aR rfl];omega
   ·rw [aQ e]
  rw [h5] at h4;exact h4
def itL (n:Nat) (T:List (List Int)) (l:List (List Int)):Nat→List (List Int)
 |0=>l
 |k+1=>itL n T (aGL n T l) k
theorem aIJ (n:Nat) (T:List (List Int)): ∀ (k:Nat) (l:List (List Int)),itL n T l (k+1)=aGL n T (itL n T l k)
 |0,l=>rfl
 |k+1,l=>aIJ n T k (aGL n T l)
theorem aRm (n:Nat) (T:List (List Int)): ∀ k,lvl n T k=itL n T ((List.range n).map (wM n)) k
 |0=>rfl
 |k+1=>by rw [aIJ,←aRm n T k];rfl
theorem aJf (n:Nat) (T:List (List Int)): ∀ (k:Nat) (cur acc:List (List Int)),(∀ x∈acc,x∈(aNu n T k cur acc).1)∧(∀ j x,j≤k→x∈itL n T cur j→x∈(aNu n T k cur acc).1)∧(aNu n T k cur acc).2=(itL n T cur k).isEmpty
 |0,cur,acc=>⟨λx h=>by simp [aNu,h],λj x hj hx=>by
   have:j=0:=by omega
   subst this;simp only [aNu,itL] at hx ⊢;simp [hx],rfl⟩
 |k+1,cur,acc=>by
  obtain ⟨h1,h2,h3⟩:=aJf n T k (aGL n T cur) (acc++cur);refine ⟨λx h=>h1 x (by simp [h]),λj x hj hx=>?_,h3⟩;cases j with
  |zero=>exact h1 x (by simp only [itL] at hx;simp [hx])
  |succ j=>exact h2 j x (by omega) hx
theorem aMU (n:Nat) (T:List (List Int)): ∀ (d k:Nat) (l:List (List Int)),itL n T l k=[]→itL n T l (k+d)=[]
 |0,k,l,h=>h
 |d+1,k,l,h=>by
  rw [←Nat.add_assoc,aIJ,aMU n T d k l h];rfl
theorem Rt0.mem {n:Nat} {T:List (List Int)} (F:GForm n T) (he:(aDy n T).2=true) {x:List Int} (r:Rt0 n T x):x∈(aDy n T).1:=by
 have h1:=r.pos F;obtain ⟨h,hh⟩: ∃ h:Nat,x.sum=h+1:=⟨(x.sum - 1).toNat,by omega⟩;have h2:=Rt0.lvl F h r hh;rw [aRm] at h2;obtain ⟨g1,g2,g3⟩:=aJf n T 8 ((List.range n).map (wM n)) [];unfold aDy at he ⊢;rw [he] at g3;have h8:itL n T ((List.range n).map (wM n)) 8=[]:=by simpa using g3.symm
 rcases eD 8 h with h3|h3
 ·have:=aMU n T (h - 8) 8 _ h8;rw [show 8+(h - 8)=h by omega] at this;rw [this] at h2;cases h2
 ·exact g2 h x h3 h2
theorem aJg {α:Type} [DecidableEq α]: ∀ {l m:List α},l.Nodup→(∀ x∈l,x∈m)→l.length≤m.length
 | [],m,_,_=>Nat.zero_le _
 |a::l,m,hn,hs=>by
  have h1:=hs a (by simp);have hn':=List.nodup_cons.1 hn;have h2:=aJg (l:=l) (m:=m.erase a) hn'.2 λx hx=>(List.mem_erase_of_ne (by rintro rfl;exact hn'.1 hx)).2 (hs x (by simp [hx]));have h3:=List.length_erase_of_mem h1;have h4:=List.length_pos_of_mem h1;simp only [List.length_cons];omega
theorem aAg {n:Nat} {T:List (List Int)} (h:aJd n T=true):pdF n (jP T)=true∧(aDy n T).2=true∧(aDy n T).1.length ≤20∧ ∀ x∈(aDy n T).1,∀ a∈x,a≤4:=by
 simp only [aJd,dK] at h;obtain ⟨h1,⟨h2,h3⟩,h4⟩:=h;refine ⟨h1,h2,of_decide_eq_true h3,λx hx a ha=>?_⟩;exact of_decide_eq_true (List.all_eq_true.1 (List.all_eq_true.1 h4 x hx) a ha)
theorem aBU {x:List Int} {i:Nat} (h:i<x.length):cZ x (i:Int)=some (gx x i):=by rw [tP 0 h];rfl
end
noncomputable section
def vO {α:Type} (n:Nat) (f:Nat→α):List α:=(List.range n).map f
theorem yJ {α:Type} (n:Nat) (f:Nat→α):(vO n f).length=n:=by simp [vO]
theorem aIK {α:Type} {n:Nat} {f:Nat→α} {w:Nat} (h:w<n):(vO n f)[w]? =some (f w):=by simp [vO,h]
theorem oH {α:Type} {n:Nat} {f:Nat→α} {w:Nat} (h:w<n):cZ (vO n f) (w:Int)=some (f w):=by simp [cZ,aIK h]
theorem gX {α:Type} {n:Nat} {f g:Nat→α} (h: ∀ i,i<n→f i=g i):vO n f=vO n g:=kQ λi hi=>h i (List.mem_range.1 hi)
theorem rX {α:Type} {n:Nat} (f:Nat→α) (a:Nat) (y:α):(vO n f).set a y=vO n λw=>if w=a then y else f w:=by
 refine List.ext_getElem (by simp [vO]) λi h1 h2=>?_;simp only [vO,List.getElem_set,List.getElem_map,List.getElem_range];by_cases e:a=i
 ·simp [e]
 ·simp [e,show ¬ i=a from λh=>e h.symm]
theorem aBV {α:Type} (n:Nat) (z:α):List.replicate n z=vO n λ_=>z:=by
 refine List.ext_getElem (by simp [vO]) λi h1 h2=>by simp [vO]
def tM (n:Nat) (F:Nat→Nat→Int):List (List Int):=vO n λv=>vO n (F v)
theorem kN {n:Nat} {F:Nat→Nat→Int} {v w:Nat} (hv:v<n) (hw:w<n):jP (tM n F) v w=F v w:=by
 unfold jP tM;rw [aIK hv,qE,aIK hw,qE]
theorem aNz {n:Nat} {F G:Nat→Nat→Int} (h: ∀ v w,v<n→w<n→F v w=G v w):tM n F=tM n G:=gX λv hv=>gX λw hw=>h v w hv hw
def hit (q:Qv) (i v w:Nat):Int:=if gx q.src i=(v:Int)∧gx q.tgt i=(w:Int) then 1 else 0
def aGi (q:Qv) (k v w:Nat):Int:=eY k λi=>hit q i v w
def mtF (q:Qv) (k v w:Nat):Int:=(if v=w then 2 else 0) - aGi q k v w - aGi q k w v
theorem aFf (q:Qv): ∀ k v w,0≤aGi q k v w∧aGi q k v w≤k
 |0,v,w=>by simp [aGi,eY]
 |k+1,v,w=>by
  have:=aFf q k v w;unfold aGi at this ⊢;simp only [eY];have:0≤hit q k v w∧hit q k v w≤1:=by unfold hit;split <;> omega
  omega
theorem aRn (q:Qv) {k:Nat} (hk:k≤6) (v w:Nat): -12≤mtF q k v w∧mtF q k v w≤2:=by
 have h1:=aFf q k v w;have h2:=aFf q k w v;unfold mtF;split <;> omega
theorem aAi (q:Qv) (k v w:Nat):mtF q (k+1) v w=mtF q k v w - hit q k v w - hit q k w v:=by
 unfold mtF aGi;simp only [eY];omega
theorem aUh (q:Qv) (k v w:Nat):mtF q k v w=mtF q k w v:=by
 unfold mtF;by_cases e:v=w
 ·subst e;rfl
 ·rw [aQ e,aQ (λh=>e h.symm)];omega
def qV (q:Qv) (n:Nat):List (List Int):=tM n (mtF q q.src.length)
structure QOk (q:Qv) (n:Nat):Prop where
 bq:bQ q
 qv:aAE q=true
 n0:q.n=n
 n1:1≤n
 n5:n≤5
 eq:q.src.length=q.tgt.length
 m6:q.src.length≤6
 src: ∀ x∈q.src,0≤x∧x<n
 tgt: ∀ x∈q.tgt,0≤x∧x<n
theorem qok {q:Qv} (hb:bQ q) (h:aAE q=true): ∃ n,QOk q n:=by
 obtain ⟨n,h1,h2,h3,h4,h5,h6,h7⟩:=vN h;exact ⟨n,hb,h,h1,h2,h3,h4,h5,h6,h7⟩
theorem QOk.arrow {q:Qv} {n:Nat} (Q:QOk q n) {i:Nat} (hi:i<q.src.length): ∃ s t:Nat,s<n∧t<n∧gx q.src i=s∧gx q.tgt i=t∧cZ q.src (i:Int)=some (s:Int)∧cZ q.tgt (i:Int)=some (t:Int):=by
 have hi2:i<q.tgt.length:=by rw [←Q.eq];exact hi
 have h1:=Q.src _ (aAv hi);have h2:=Q.tgt _ (aAv hi2);refine ⟨(gx q.src i).toNat,(gx q.tgt i).toNat,by omega,by omega,by omega,by omega,?_,?_⟩
 ·rw [tP 0 hi];show some (gx q.src i)=_;rw [Int.toNat_of_nonneg h1.1]
 ·rw [tP 0 hi2];show some (gx q.tgt i)=_;rw [Int.toNat_of_nonneg h2.1]
theorem tN {q:Qv} {i s t:Nat} (hs:gx q.src i=s) (ht:gx q.tgt i=t) (v w:Nat):hit q i v w=if v=s∧w=t then 1 else 0:=by
 unfold hit;rw [hs,ht];by_cases e:v=s∧w=t
 ·rw [aR e,aR (by omega)]
 ·rw [aQ e,aQ (by omega)]
theorem aRo {q:Qv} {n:Nat} (Q:QOk q n) {x1:List (List Int)×Int} {v:Nat} (hx:x1.2=(v:Int)):Lp (iA q x1) (vO n (mtF q 0 v),0)=some (vO n (mtF q q.src.length v)):=by
 have m6:=Q.m6;refine dR (λk=>(vO n (mtF q k v),(k:Int))) q.src.length rfl (λk hk=>?_) (λ_=>?_)
 ·unfold iA;simp only;obtain ⟨s,t,hs,ht,e1,e2,e3,e4⟩:=Q.arrow hk;have bs:=λw=>aRn q (k:=k) (by omega) v w;rw [iV hk,aN,e3,aD,hx,bW hk (by omega)];by_cases c1:s=v
  ·subst c1;rw [bG (by rfl),aN];simp only [e4,e3,aD,oH ht,dE];rw [rX,dB (by have:=bs t;omega)];by_cases c2:t=s
   ·subst c2;rw [bG (by rfl),aN];simp only [oH hs,aR rfl,aD];rw [rX,dB (by have:=bs t;omega)];congr 3;refine gX λw hw=>?_;rw [aAi,tN e1 e2,tN e1 e2];by_cases c:w=t
    ·subst c;simp <;> omega
    ·simp [c]
   ·rw [eV (by omega),bA];congr 3;refine gX λw hw=>?_;rw [aAi,tN e1 e2,tN e1 e2];by_cases c:w=t
    ·subst c;simp [c2,show ¬ s=w from λh=>c2 h.symm]
    ·simp [c,show ¬ s=t from λh=>c2 h.symm]
  ·rw [eV (by omega),bA];simp only [e4,e3,aD];by_cases c2:t=v
   ·subst c2;rw [bG (by rfl),aN];simp only [oH hs,aD,dE];rw [rX,dB (by have:=bs s;omega)];congr 3;refine gX λw hw=>?_;rw [aAi,tN e1 e2,tN e1 e2];by_cases c:w=s
    ·subst c;simp [c1,show ¬ t=w from λh=>c1 h.symm]
    ·simp [c,show ¬ t=s from λh=>c1 h.symm]
   ·rw [eV (by omega),bA];congr 3;refine gX λw hw=>?_;rw [aAi,tN e1 e2,tN e1 e2];simp [show ¬ v=s from λh=>c1 h.symm,show ¬ v=t from λh=>c2 h.symm]
 ·unfold iA;simp only;rw [jZ (bP _),bA]
theorem aVV (q:Qv) {n v:Nat} (hv:v<n):(List.replicate n (0:Int)).set v 2=vO n (mtF q 0 v):=by
 rw [aBV,rX];refine gX λw _=>?_;unfold mtF aGi;simp only [eY];by_cases e:w=v
 ·subst e;simp
 ·simp [e,show ¬ v=w from λh=>e h.symm]
theorem aJh {q:Qv} {n:Nat} (Q:QOk q n):jU q=some (qV q n):=by
 have n5:=Q.n5;unfold jU;rw [dR (s:=(([]:List (List Int)),(0:Int))) (r:=qV q n) (λk=>((List.range k).map λv=>vO n (mtF q q.src.length v),(k:Int))) n rfl (λk hk=>?_) (λ_=>?_),aD]
 ·unfold kG;simp only;rw [Q.n0,iV hk,aN,aEg Q.bq,Q.qv,aD,aN,bG (by omega),bG (by omega),Bool.and_self,aN,dE];rw [aBV,oH hk,aD,dE,←aBV,aVV q hk,aRo Q rfl,aD,bG (by simp;omega),aN,bW hk (by omega),List.range_succ,List.map_append];rfl
 ·unfold kG;simp only;rw [Q.n0,jZ (bP _),bA];rfl
theorem aQA {q:Qv} {n:Nat} (Q:QOk q n):tA q=some (qV q n):=by
 have n5:=Q.n5;have m6:=Q.m6;unfold tA;rw [Q.n0,bG (by omega),bG (by omega),Bool.and_self,aN,dE];rw [dR (r:=tM n (mtF q 0)) (λk=>(vO n λv=>if v<k then vO n (mtF q 0 v) else [],(k:Int))) n (by rw [aBV];rfl) (λk hk=>?_) (λ_=>?_),aD]
 ·rw [dR (s:=(tM n (mtF q 0),(0:Int))) (r:=qV q n) (λk=>(tM n (mtF q k),(k:Int))) q.src.length rfl (λk hk=>?_) (λ_=>?_),aD]
  ·unfold oG;simp only;obtain ⟨s,t,hs,ht,e1,e2,e3,e4⟩:=Q.arrow hk;have bs:=λv w=>aRn q (k:=k) (by omega) v w;rw [iV hk,aN,e3,aD,e4];simp only [aD,dE];unfold tM;rw [oH hs,aD,oH ht];simp only [aD];rw [rX,oH ht];simp only [aD]
   have e5:(if t=s then (vO n (mtF q k s)).set t (wr (mtF q k s t - 1)) else vO n (mtF q k t))=vO n λw=>mtF q k t w - if t=s∧w=t then 1 else 0:=by
    by_cases c:t=s
    ·subst c;rw [aR rfl,rX,dB (by have:=bs t t;omega)];refine gX λw _=>?_;by_cases c2:w=t
     ·subst c2;simp
     ·simp [c2]
    ·rw [aQ c];exact gX λw _=>by simp [c]
   rw [e5,oH hs];simp only [aD];rw [bW hk (by omega),rX,rX];congr 3;refine gX λv hv=>?_;have b1:=bs t s;have b2:=bs s t;by_cases c:v=t
   ·subst c;rw [aR rfl,dB (by split <;> omega)]
    try rw [rX]
    refine gX λw hw=>?_;rw [aAi,tN e1 e2,tN e1 e2];by_cases c1:w=s
    ·subst c1;by_cases c2:v=w
     ·subst c2;simp <;> omega
     ·simp [c2,show ¬ w=v from λh=>c2 h.symm]
    ·rw [aQ c1];by_cases c2:v=s∧w=v
     ·omega
     ·simp [c2,c1]
   ·rw [aQ c];by_cases c1:v=s
    ·subst c1;rw [aR rfl,dB (by omega)]
     try rw [rX]
     refine gX λw hw=>?_;rw [aAi,tN e1 e2,tN e1 e2];by_cases c2:w=t
     ·subst c2;simp [c]
     ·simp [c2,c]
    ·rw [aQ c1];refine gX λw hw=>?_;rw [aAi,tN e1 e2,tN e1 e2];simp [c,c1]
  ·unfold oG;simp only;rw [jZ (bP _),bA];rfl
 ·unfold oF;simp only;rw [List.length_replicate,Q.n0,dE,iV hk,aN,bG (by omega),bG (by omega),Bool.and_self,aN,oH hk,aD];rw [aBV n (0:Int),oH hk,aD,dE,←aBV,aVV q hk,rX,bW hk (by omega)];congr 3;refine gX λv _=>?_;by_cases c:v=k
  ·subst c;simp
  ·rw [aQ c];by_cases c2:v<k
   ·rw [aR c2,aR (by omega)]
   ·rw [aQ c2,aQ (by omega)]
 ·unfold oF;simp only;rw [List.length_replicate,Q.n0,dE,jZ (bP _),bA];congr 2;exact gX λv hv=>by rw [aR hv]
end
noncomputable section
theorem aKv: ∀ s:Nat,s<32→ ∀ v:Nat,v<5→aNo (aNn (s:Int) (v:Int)) 1=(if aBx s v then 1 else 0):=by decide+kernel
theorem aFg (s k:Nat):(List.range (k+1)).filter (aBx s)=(List.range k).filter (aBx s)++if aBx s k then [k] else []:=by
 rw [List.range_succ,List.filter_append];congr 1;cases h:aBx s k <;> simp [h]
theorem aGu {n s v:Nat} (h:v∈pJ n s):v<n:=List.mem_range.1 (List.mem_filter.1 h).1
theorem aCj (n s:Nat):(pJ n s).length ≤n:=by
 have:=List.length_filter_le (aBx s) (List.range n);simpa [pJ] using this
theorem aMV {body:List Int×Int→Option ((List Int×Int) ⊕ List Int)} {n s:Nat} {f:Nat→Int} (hn:n≤5)
  (hb: ∀ k l,k<n→l.length≤5→body (l,(k:Int))=some (.inl (if aBx s k then l++[f k] else l,((k+1:Nat):Int)))) (hr: ∀ l,body (l,(n:Int))=some (.inr l)):Lp body ([],0)=some ((pJ n s).map f):=by
 refine dR (λk=>(((List.range k).filter (aBx s)).map f,(k:Int))) n rfl (λk hk=>?_) (λ_=>hr _);have hl:=aCj k s;unfold pJ at hl;rw [hb k _ hk (by rw [eW];omega),aFg];cases h:aBx s k <;> simp
theorem aMW {n s:Nat} {F:Nat→Nat→Int} (hn:n≤5) (hs:s<32) {x1:Int×Int} (hx:x1.2=(s:Int)):Lp (iP (tM n F) x1) (0,[])=some (lJ n (tM n F) s):=by
 have e0:lJ n (tM n F) s=(pJ n s).map λv=>(pJ n s).map (F v):=by
  unfold lJ;refine kQ λv hv=>kQ λw hw=>kN (aGu hv) (aGu hw)
 rw [e0];refine dR (λk=>((k:Int),((List.range k).filter (aBx s)).map λv=>(pJ n s).map (F v))) n rfl (λk hk=>?_) (λ_=>?_)
 ·have hl:=aCj k s;unfold pJ at hl;unfold iP;simp only;rw [show (tM n F).length=n from yJ _ _,iV hk,aN,show cZ (tM n F) (k:Int)=some (vO n (F k)) from oH hk,aD,eV (by omega),Bool.not_false,aN,hx,aKv s hs k (by omega),bW hk (by omega)]
  have hrow:Lp (iO (vO n (F k)) x1) ([],0)=some ((pJ n s).map (F k)):=by
   refine aMV hn (λj l hj hl2=>?_) (λl=>?_)
   ·unfold iO;simp only;rw [yJ,iV hj,aN,oH hj,aD,eV (by omega),Bool.not_false,aN,hx,aKv s hs j (by omega),bW hj (by omega)];cases h:aBx s j
    ·simp
    ·simp [show l.length<4294967296 by omega,show l.length≤4294967295 by omega,show l.length+1≤4294967296 by omega]
   ·unfold iO;simp only;rw [yJ,jZ (bP _),bA]
  rw [hrow,aD,aFg];generalize List.filter (aBx s) (List.range k)=lk at*;cases h:aBx s k
  ·simp
  ·simp [show lk.length<4294967296 by omega,show lk.length≤4294967295 by omega,show lk.length+1≤4294967296 by omega]
 ·unfold iP;simp only;rw [show (tM n F).length=n from yJ _ _,jZ (bP _),bA];rfl
theorem aMX {n s:Nat} {F:Nat→Nat→Int} (hn:n≤5) (hs:s<32):vD (tM n F) (s:Int)=some (lJ n (tM n F) s):=by
 have e0:lJ n (tM n F) s=(pJ n s).map λv=>(pJ n s).map (F v):=by
  unfold lJ;refine kQ λv hv=>kQ λw hw=>kN (aGu hv) (aGu hw)
 rw [e0];unfold vD;rw [dR (s:=((0:Int),([]:List (List Int)))) (r:=(pJ n s).map λv=>(pJ n s).map (F v)) (λk=>((k:Int),((List.range k).filter (aBx s)).map λv=>(pJ n s).map (F v))) n rfl (λk hk=>?_) (λ_=>?_),aD]
 ·have hl:=aCj k s;unfold pJ at hl;unfold pZ;simp only;rw [show (tM n F).length=n from yJ _ _,iV hk,aN,eV (by omega),Bool.not_false,aN,aKv s hs k (by omega),bW hk (by omega)]
  have hrow:Lp (mB (tM n F) (s:Int) ((k:Int),((List.range k).filter (aBx s)).map λv=>(pJ n s).map (F v))) ([],0)=some ((pJ n s).map (F k)):=by
   refine aMV hn (λj l hj hl2=>?_) (λl=>?_)
   ·unfold mB;simp only;rw [show (tM n F).length=n from yJ _ _,iV hj,aN,eV (by omega),Bool.not_false,aN,aKv s hs j (by omega),bW hj (by omega),show cZ (tM n F) (k:Int)=some (vO n (F k)) from oH hk,aD,oH hj,aD];cases h:aBx s j
    ·simp
    ·simp [show l.length<4294967296 by omega,show l.length≤4294967295 by omega,show l.length+1≤4294967296 by omega]
   ·unfold mB;simp only;rw [show (tM n F).length=n from yJ _ _,jZ (bP _),bA]
  rw [hrow,aD,aFg];generalize List.filter (aBx s) (List.range k)=lk at*;cases h:aBx s k
  ·simp
  ·simp [show lk.length<4294967296 by omega,show lk.length≤4294967295 by omega,show lk.length+1≤4294967296 by omega]
 ·unfold pZ;simp only;rw [show (tM n F).length=n from yJ _ _,jZ (bP _),bA];rfl
theorem aQB {a b:List Int} (h:a.length+b.length≤1000):fC [a,b]=some (a++b):=by
 have s1:cV [a,b] (0,0)=some (.inl ((a.length:Int),1)):=by
  unfold cV;simp [cZ];rw [dB (by omega),eV (by omega),bA,dB (by omega)]
 have s2:cV [a,b] ((a.length:Int),1)=some (.inl ((a.length:Int)+b.length,2)):=by
  unfold cV;simp [cZ];rw [dB (by omega),eV (by omega),bA,dB (by omega)]
 have s3:cV [a,b] ((a.length:Int)+b.length,2)=some (.inr ((a.length:Int)+b.length)):=by
  unfold cV;simp
 have t1:cW [a,b] ([],0)=some (.inl (a,1)):=by
  unfold cW;simp [cZ];rw [bG (by omega),aN,dB (by omega)]
 have t2:cW [a,b] (a,1)=some (.inl (a++b,2)):=by
  unfold cW;simp [cZ];rw [bG (by omega),aN,dB (by omega)]
 have t3:cW [a,b] (a++b,2)=some (.inr (a++b)):=by
  unfold cW;simp
 unfold fC;rw [jX s1,jX s2,eO s3,aD];unfold aKR;rw [bG (by omega),bG (by omega),Bool.and_self,aN,aD,jX t1,jX t2,eO t3,aD]
theorem aMY {k:Nat} {row:List Int} (h:k<row.length):(aKs k row).length=row.length - 1:=by simp [aKs];omega
theorem aMZ (k:Nat):wr (-sgK k)=sgK (k+1):=by
 unfold sgK;rcases Nat.mod_two_eq_zero_or_one k with h|h
 ·rw [h,show (k+1) % 2=1 by omega];decide
 ·rw [h,show (k+1) % 2=0 by omega];decide
theorem aJi: ∀ (d k:Nat) (M:List (List Int)),k<d→k≤16→M.length=k→(∀ r∈M,r.length=k)→jF d M=some (yI d M)
 |0,k,M,h,_,_,_=>absurd h (by omega)
 |d+1,k,M,hd,h16,hl,hr=>by
  show nH (jF d) M=_;unfold nH;cases M with
  |nil=>rfl
  |cons r0 rest=>
   have hr0:=hr r0 (by simp);simp only [List.length_cons] at hl;rw [eV (by simp only [List.length_cons];omega),bA,show cZ (r0::rest) 0=some r0 from rfl,aD];rw [dR (s:=((0:Int),(1:Int),(0:Int))) (r:=yI (d+1) (r0::rest)) (λj=>(aIn (yI d) r0 rest j,sgK j,(j:Int))) k rfl (λj hj=>?_) (λ_=>?_),aD]
   ·unfold mQ;simp only;rw [hr0,iV hj,aN,tP 0 (by omega),aD,bG (by omega),bG (by simp only [List.length_cons];omega),bG (by omega),Bool.and_self,Bool.and_self,aN]
    have hmin:Lp (jA (r0::rest) (aIn (yI d) r0 rest j,sgK j,(j:Int))) ([],0)=some (rest.map (aKs j)):=by
     have e0:((r0::rest).drop (1:Int).toNat).take (((r0::rest).length:Int).toNat - (1:Int).toNat)=rest:=by simp
     refine dR (λi=>((rest.take i).map (aKs j),(i:Int))) rest.length rfl (λi hi=>?_) (λ_=>?_)
     ·unfold jA;simp only;rw [e0,iV hi,aN,tP [] hi,aD];have hrow:(rest[i]?.getD []).length=k:=by rw [iE hi];exact hr _ (by simp)
      rw [bW (n:=17) (by omega) (by omega),bG (by omega),bG (by omega),bG (by omega),bG (by omega),bG (by omega),bG (by omega)];simp only [Bool.and_self,aN];have e1:((rest[i]?.getD []).drop (0:Int).toNat).take ((j:Int).toNat - (0:Int).toNat)=(rest[i]?.getD []).take j:=by simp
      have e2:((rest[i]?.getD []).drop (((j+1:Nat):Int)).toNat).take (((rest[i]?.getD []).length:Int).toNat - (((j+1:Nat):Int)).toNat)=(rest[i]?.getD []).drop (j+1):=by
       rw [dE,dE,List.take_of_length_le (by simp)]
      rw [e1,e2,aQB (by simp;omega),aD,bG (by simp;omega),aN,bW hi (by omega)];congr 3;rw [aCB hi,List.map_append,iE hi];rfl
     ·unfold jA;simp only;rw [e0,jZ (bP _),bA,List.take_length]
    rw [hmin,aD,aJi d (k - 1) (rest.map (aKs j)) (by omega) (by omega) (by simp;omega) (λr h=>by
     obtain ⟨r',h1,rfl⟩:=List.mem_map.1 h;have:=hr r' (by simp [h1])
     rw [aMY (by omega)];omega),aD,aMZ,bW hj (by omega)]
    rfl
   ·unfold mQ;simp only;rw [hr0,jZ (bP _),bA];show some (Sum.inr (aIn (yI d) r0 rest k))=some (Sum.inr (aIn (yI d) r0 rest r0.length));rw [hr0]
theorem aJj: ∀ (d k:Nat) (M:List (List Int)),k<d→k≤16→M.length=k→(∀ r∈M,r.length=k)→qR d M=some (yI d M)
 |0,k,M,h,_,_,_=>absurd h (by omega)
 |d+1,k,M,hd,h16,hl,hr=>by
  show vC (qR d) M=_;unfold vC;cases M with
  |nil=>rfl
  |cons r0 rest=>
   have hr0:=hr r0 (by simp);simp only [List.length_cons] at hl;rw [eV (by simp only [List.length_cons];omega),bA];rw [dR (s:=((0:Int),(1:Int),(0:Int))) (r:=yI (d+1) (r0::rest)) (λj=>(aIn (yI d) r0 rest j,sgK j,(j:Int))) k rfl (λj hj=>?_) (λ_=>?_),aD]
   ·unfold sZ;simp only;rw [show (r0::rest).length=k by simp only [List.length_cons];omega,iV hj,aN]
    have hmin:Lp (pF (r0::rest) (aIn (yI d) r0 rest j,sgK j,(j:Int))) (([]:List (List Int)),1)=some (rest.map (aKs j)):=by
     refine dR (λi=>((rest.take i).map (aKs j),((i+1:Nat):Int))) rest.length rfl (λi hi=>?_) (λ_=>?_)
     ·unfold pF;simp only
      have hat:cZ (r0::rest) ((i+1:Nat):Int)=some (rest[i]?.getD []):=by
       rw [tP [] (by simp;omega)];rfl
      rw [List.length_cons,iV (by omega),aN,hat,aD];have hrow:(rest[i]?.getD []).length=k:=by rw [iE hi];exact hr _ (by simp)
      rw [bW (k:=j) (n:=17) (by omega) (by omega),bG (by omega),bG (by omega),bG (by omega)];simp only [Bool.and_self,aN];have e1:((rest[i]?.getD []).drop (0:Int).toNat).take ((j:Int).toNat - (0:Int).toNat)=(rest[i]?.getD []).take j:=by simp
      have e2:((rest[i]?.getD []).drop (((j+1:Nat):Int)).toNat).take (((rest[i]?.getD []).length:Int).toNat - (((j+1:Nat):Int)).toNat)=(rest[i]?.getD []).drop (j+1):=by
       rw [dE,dE,List.take_of_length_le (by simp)]
      rw [e1,bG (by simp;omega),aN];simp only [aD];rw [bG (by omega),bG (by omega),bG (by omega)];simp only [Bool.and_self,aN];rw [e2,bG (by simp;omega),aN,bG (by simp;omega),aN,bW (k:=i+1) (n:=18) (by omega) (by omega)];congr 3;rw [aCB hi,List.map_append,iE hi];rfl
     ·unfold pF;simp only;rw [List.length_cons,jZ (bP _),bA,List.take_length]
    rw [hmin,aD,show cZ (r0::rest) 0=some r0 from rfl,aD,tP 0 (by omega),aD,aJj d (k - 1) (rest.map (aKs j)) (by omega) (by omega) (by simp;omega) (λr h=>by
     obtain ⟨r',h1,rfl⟩:=List.mem_map.1 h;have:=hr r' (by simp [h1])
     rw [aMY (by omega)];omega),aD,aMZ,bW hj (by omega)]
    rfl
   ·unfold sZ;simp only;rw [show (r0::rest).length=k by simp only [List.length_cons];omega,jZ (bP _),bA];show some (Sum.inr (aIn (yI d) r0 rest k))=some (Sum.inr (aIn (yI d) r0 rest r0.length));rw [hr0]
end
noncomputable section
def aCk (n:Nat) (T:List (List Int)):Nat→Int→Nat→Int
 |0,kind,_=>kind
 |f+1,kind,s=>if yI 8 (lJ n T s)<0 then 3 else aCk n T f (if yI 8 (lJ n T s)=0 then 2 else kind) (s+1)
theorem aDH {n s:Nat} {T:List (List Int)} :(lJ n T s).length=(pJ n s).length∧ ∀ r∈lJ n T s,r.length=(pJ n s).length:=by
 refine ⟨by simp [lJ],λr hr=>?_⟩;obtain ⟨v,_,rfl⟩:=List.mem_map.1 hr;simp
theorem aKw: ∀ n:Nat,n<6→aNm 1 (n:Int)=((2 ^ n:Nat):Int):=by decide+kernel
theorem aRp: ∀ n:Nat,n<6→2 ^ n≤32:=by decide
theorem aFh {body:Int×Int→Option ((Int×Int) ⊕ (Int ⊕ Int))} {n:Nat} {T:List (List Int)} (hn:n<6)
  (hs: ∀ (kind:Int) (s:Nat),1≤s→s<2 ^ n→body (kind,(s:Int))=some (if yI 8 (lJ n T s)<0 then .inr (.inr 3) else .inl (if yI 8 (lJ n T s)=0 then 2 else kind,((s+1:Nat):Int))))
  (he: ∀ kind:Int,body (kind,((2 ^ n:Nat):Int))=some (.inr (.inl kind))): ∀ (f:Nat) (kind:Int) (s:Nat),1≤s→s+f=2 ^ n→(Option.bind (Lp body (kind,(s:Int))) λy=>Sum.elim (λa=>some a) (λb=>some b) y)=some (aCk n T f kind s)
 |0,kind,s,h1,h=>by
  have h':s=2 ^ n:=by omega
  subst h';rw [eO (he kind)];rfl
 |f+1,kind,s,h1,h=>by
  have hb:=hs kind s h1 (by omega);simp only [aCk];by_cases c:yI 8 (lJ n T s)<0
  ·rw [aR c] at hb ⊢;rw [eO hb];rfl
  ·rw [aQ c] at hb ⊢;rw [jX hb];exact aFh hn hs he f _ (s+1) (by omega) (by omega)
theorem aIL {q:Qv} {n:Nat} (Q:QOk q n):kS q=some (aCk n (qV q n) (2 ^ n - 1) 1 1):=by
 have n5:=Q.n5;have hp:=aRp n (by omega);have hp1:1≤2 ^ n:=Nat.one_le_two_pow;unfold kS;rw [aKa Q.bq,Q.qv,aD,iX,bA,aQA Q,aD];refine aFh (by omega) (λkind s h1 h2=>?_) (λkind=>?_) _ _ 1 (bP _) (by omega)
 ·unfold lI;simp only;rw [Q.n0,eV (by omega),Bool.not_false,aN,aKw n (by omega),iV h2,aN];unfold qV;rw [aMW n5 (by omega) (x1:=(kind,(s:Int))) rfl,aD];have hl:=aCj n s;rw [aJi 8 (pJ n s).length _ (by omega) (by omega) aDH.1 aDH.2,aD,bW h2 (by omega)];generalize yI 8 (lJ n (tM n (mtF q q.src.length)) s)=d;by_cases c:d<0
  ·simp [c]
  ·by_cases c2:d=0
   ·simp [c2]
   ·simp [c,c2]
 ·unfold lI;simp only;rw [Q.n0,eV (by omega),Bool.not_false,aN,aKw n (by omega),jZ (bP _),bA]
theorem aIM {q:Qv} {n:Nat} (Q:QOk q n):kR q=some (aCk n (qV q n) (2 ^ n - 1) 1 1):=by
 have n5:=Q.n5;have hp:=aRp n (by omega);have hp1:1≤2 ^ n:=Nat.one_le_two_pow;unfold kR;rw [aEg Q.bq,Q.qv,aD,iX,bA,aJh Q,aD];refine aFh (by omega) (λkind s h1 h2=>?_) (λkind=>?_) _ _ 1 (bP _) (by omega)
 ·unfold lH;simp only;rw [Q.n0,eV (by omega),Bool.not_false,aN,aKw n (by omega),iV h2,aN];unfold qV;rw [aMX n5 (by omega),aD];have hl:=aCj n s;rw [aJj 8 (pJ n s).length _ (by omega) (by omega) aDH.1 aDH.2,aD,bW h2 (by omega)];generalize yI 8 (lJ n (tM n (mtF q q.src.length)) s)=d;by_cases c:d<0
  ·simp [c]
  ·by_cases c2:d=0
   ·simp [c2]
   ·simp [c,c2]
 ·unfold lH;simp only;rw [Q.n0,eV (by omega),Bool.not_false,aN,aKw n (by omega),jZ (bP _),bA]
theorem aJk {n:Nat} {T:List (List Int)} : ∀ f s,aCk n T f 2 s≠1
 |0,s=>by simp [aCk]
 |f+1,s=>by
  simp only [aCk];split
  ·decide
  ·rw [ite_self];exact aJk f (s+1)
theorem aJl {n:Nat} {T:List (List Int)} : ∀ {f:Nat} {kind:Int} {s:Nat},aCk n T f kind s=1→ ∀ t,s≤t→t<s+f→0<yI 8 (lJ n T t)
 |0,kind,s,h,t,h1,h2=>by omega
 |f+1,kind,s,h,t,h1,h2=>by
  simp only [aCk] at h;split at h
  ·cases h
  ·rename_i c;by_cases c2:yI 8 (lJ n T s)=0
   ·rw [aR c2] at h;exact absurd h (aJk f (s+1))
   ·rw [aQ c2] at h;by_cases e:t=s
    ·subst e;omega
    ·exact aJl h t (by omega) (by omega)
theorem aRq: ∀ n,n<6→ ∀ v,v<n→pJ n (2 ^ v)=[v]:=by decide+kernel
theorem aRr: ∀ n,n<6→ ∀ v,v<n→ ∀ w,w<n→v<w→pJ n (2 ^ v+2 ^ w)=[v,w]:=by decide+kernel
theorem aPB: ∀ n,n<6→ ∀ v,v<n→1≤2 ^ v∧2 ^ v<2 ^ n:=by decide
theorem aPC: ∀ n,n<6→ ∀ v,v<n→ ∀ w,w<n→v<w→1≤2 ^ v+2 ^ w∧2 ^ v+2 ^ w<2 ^ n:=by decide
theorem aTM: ∀ c:Nat,c<7→0<yI 8 [[2 - 2*(c:Int)]]→c=0:=by decide+kernel
theorem aTN: ∀ c:Nat,c<13→0<yI 8 [[2, -(c:Int)],[-(c:Int),2]]→c≤1:=by decide+kernel
theorem aRs {q:Qv} {n:Nat} (Q:QOk q n) (h: ∀ t,1≤t→t<2 ^ n→0<yI 8 (lJ n (qV q n) t)):GForm n (qV q n)∧aJd n (qV q n)=true:=by
 have n5:=Q.n5;have m6:=Q.m6;generalize hF:mtF q q.src.length=F;have hT:qV q n=tM n F:=by rw [←hF];rfl
 rw [hT] at h ⊢;have hsym: ∀ v w,F v w=F w v:=λv w=>by rw [←hF];exact aUh q _ v w
 have hd: ∀ v,v<n→F v v=2:=by
  intro v hv;have h1:=h (2 ^ v) (aPB n (by omega) v hv).1 (aPB n (by omega) v hv).2
  have e:lJ n (tM n F) (2 ^ v)=[[F v v]]:=by
   unfold lJ;rw [aRq n (by omega) v hv];simp [kN hv hv]
  have hc:=aFf q q.src.length v v
  have e2:F v v=2 - 2*(((aGi q q.src.length v v).toNat:Nat):Int):=by
   rw [←hF];unfold mtF;rw [aR rfl];omega
  rw [e,e2] at h1;have:=aTM _ (by omega) h1;omega
 have ho: ∀ v w,v<n→w<n→v<w→F v w=0∨F v w= -1:=by
  intro v w hv hw hvw;have h1:=h (2 ^ v+2 ^ w) (aPC n (by omega) v hv w hw hvw).1 (aPC n (by omega) v hv w hw hvw).2;have hc:=aFf q q.src.length v w;have hc2:=aFf q q.src.length w v
  have e2:F v w= -((((aGi q q.src.length v w+aGi q q.src.length w v).toNat:Nat)):Int):=by
   rw [←hF];unfold mtF;rw [aQ (by omega)];omega
  have e:lJ n (tM n F) (2 ^ v+2 ^ w)=[[2,F v w],[F v w,2]]:=by
   unfold lJ;rw [aRr n (by omega) v hv w hw hvw];simp [kN hv hv,kN hv hw,kN hw hv,kN hw hw,hd v hv,hd w hw,hsym w v]
  rw [e,e2] at h1;have:=aTN _ (by omega) h1;omega
 have hT2:tM n F=tM n λv w=>if v=w then 2 else bi (decide (F (min v w) (max v w)= -1)):=by
  refine aNz λv w hv hw=>?_;by_cases e:v=w
  ·subst e;rw [aR rfl];exact hd v hv
  ·rw [aQ e];rcases Nat.lt_or_gt_of_ne e with c|c
   ·rw [Nat.min_eq_left (by omega),Nat.max_eq_right (by omega)];rcases ho v w hv hw c with h|h <;> rw [h] <;> rfl
   ·rw [Nat.min_eq_right (by omega),Nat.max_eq_left (by omega),hsym v w];rcases ho w v hw hv c with h|h <;> rw [h] <;> rfl
 have hchk:aAI n (tM n F)=true:=by
  rw [hT2];have hn1:=Q.n1;have hcase:n=1∨n=2∨n=3∨n=4∨n=5:=by omega
  rcases hcase with rfl|rfl|rfl|rfl|rfl
  ·exact aVw
  ·exact aVx (decide (F 0 1= -1))
  ·exact aVy (decide (F 0 1= -1)) (decide (F 0 2= -1)) (decide (F 1 2= -1))
  ·exact aVz (decide (F 0 1= -1)) (decide (F 0 2= -1)) (decide (F 0 3= -1)) (decide (F 1 2= -1)) (decide (F 1 3= -1)) (decide (F 2 3= -1))
  ·exact aWA (decide (F 0 1= -1)) (decide (F 0 2= -1)) (decide (F 0 3= -1)) (decide (F 0 4= -1)) (decide (F 1 2= -1)) (decide (F 1 3= -1)) (decide (F 1 4= -1)) (decide (F 2 3= -1)) (decide (F 2 4= -1)) (decide (F 3 4= -1))
 have hgood:aJd n (tM n F)=true:=by
  unfold aAI at hchk;rcases Bool.or_eq_true_iff.1 hchk with h1|h1
  ·exact h1
  ·rw [List.any_eq_true] at h1;obtain ⟨s,hs,h2⟩:=h1;simp only [dK,iW,Nat.blt_eq] at h2;have hs1:1≤s:=by simp only [eC,List.not_mem_nil,or_false] at hs;omega
   have:=h s hs1 h2.1;omega
 refine ⟨⟨λi j hi hj=>by rw [kN hi hj,kN hj hi];exact hsym i j,λi hi=>by rw [kN hi hi];exact hd i hi,(aAg hgood).1⟩,hgood⟩
end
noncomputable section
def eul (q:Qv) (n:Nat) (x y:List Int):Int:=(eY n λv=>gx x v*gx y v) - eY q.src.length λi=>gx x (gx q.src i).toNat *gx y (gx q.tgt i).toNat
theorem aBy {f:Nat→Int} {B:Int} : ∀ {n:Nat},(∀ i,i<n→ -B≤f i∧f i≤B)→ -(B*n)≤eY n f∧eY n f≤B*n
 |0,_=>by simp [eY]
 |n+1,h=>by
  have h1:=aBy (n:=n) λi hi=>h i (by omega);have h2:=h n (by omega);simp only [eY,Int.natCast_add,Int.mul_add];omega
theorem aIN {a b:Int} (ha: -100≤a∧a≤100) (hb: -100≤b∧b≤100): -10000≤a*b∧a*b≤10000:=by
 have h1:=Int.mul_nonneg (a:=100 - a) (b:=100+b) (by omega) (by omega);have h2:=Int.mul_nonneg (a:=100+a) (b:=100 - b) (by omega) (by omega);have h3:=Int.mul_nonneg (a:=100 - a) (b:=100 - b) (by omega) (by omega);have h4:=Int.mul_nonneg (a:=100+a) (b:=100+b) (by omega) (by omega)
 grind
def Sm (x:List Int):Prop:= ∀ a∈x, -100≤a∧a≤100
theorem Sm.gx {x:List Int} (h:Sm x) (i:Nat): -100≤gx x i∧gx x i≤100:=by
 rcases eD i x.length with h'|h'
 ·exact h _ (aAv h')
 ·unfold Go.Proofs.YtilpfdokmlanjaaGreat.gx;rw [gL h'];simp
theorem aRt {n:Nat} {x y:List Int} (hx:x.length=n) (hy:y.length=n) (n5:n≤5) (sx:Sm x) (sy:Sm y) {body:Int×Int→Option ((Int×Int) ⊕ Int)}
  (hb: ∀ (s:Int) (k:Nat),k<n→body (s,(k:Int))=some (.inl (wr (s+wr (gx x k*gx y k)),wr ((k:Int)+1)))) (he: ∀ s:Int,body (s,(n:Int))=some (.inr s)):Lp body (0,0)=some (eY n λv=>gx x v*gx y v):=by
 refine dR (λk=>(eY k λv=>gx x v*gx y v,(k:Int))) n rfl (λk hk=>?_) (λ_=>he _);have h1:=aIN (sx.gx k) (sy.gx k);have h2:=aBy (n:=k) (f:=λv=>gx x v*gx y v) (B:=10000) λi _=>aIN (sx.gx i) (sy.gx i);rw [hb _ k hk,dB (x:=gx x k*gx y k) (by omega),dB (by omega),bW hk (by omega)];rfl
theorem aRu {q:Qv} {n:Nat} (Q:QOk q n) {x y:List Int} (hx:x.length=n) (hy:y.length=n) (sx:Sm x) (sy:Sm y) {s0:Int} (hs0: -50000≤s0∧s0≤50000) {body:Int×Int→Option ((Int×Int) ⊕ Int)}
  (hb: ∀ (s:Int) (k:Nat),k<q.src.length→body (s,(k:Int))=some (.inl (wr (s - wr (gx x (gx q.src k).toNat *gx y (gx q.tgt k).toNat)),wr ((k:Int)+1)))) (he: ∀ s:Int,body (s,(q.src.length:Int))=some (.inr s)):
  Lp body (s0,0)=some (s0 - eY q.src.length λi=>gx x (gx q.src i).toNat *gx y (gx q.tgt i).toNat):=by
 have m6:=Q.m6;refine dR (λk=>(s0 - eY k λi=>gx x (gx q.src i).toNat *gx y (gx q.tgt i).toNat,(k:Int))) q.src.length (by simp [eY]) (λk hk=>?_) (λ_=>he _);have h1:=aIN (sx.gx (gx q.src k).toNat) (sy.gx (gx q.tgt k).toNat);have h2:=aBy (n:=k) (f:=λi=>gx x (gx q.src i).toNat *gx y (gx q.tgt i).toNat) (B:=10000) λi _=>aIN (sx.gx _) (sy.gx _);rw [hb _ k hk,dB (x:=gx x (gx q.src k).toNat *gx y (gx q.tgt k).toNat) (by omega),dB (by omega),bW hk (by omega)];simp only [eY];congr 3;omega
theorem aPD {n:Nat} {x y:List Int} (n5:n≤5) (sx:Sm x) (sy:Sm y): -50000≤(eY n λv=>gx x v*gx y v)∧(eY n λv=>gx x v*gx y v)≤50000:=by
 have:=aBy (n:=n) (f:=λv=>gx x v*gx y v) (B:=10000) λi _=>aIN (sx.gx i) (sy.gx i);omega
theorem aQC {q:Qv} {n:Nat} (Q:QOk q n) {x y:List Int} (hx:x.length=n) (hy:y.length=n) (sx:Sm x) (sy:Sm y):zP q x y=some (eul q n x y):=by
 have n5:=Q.n5;unfold zP;rw [aRt hx hy n5 sx sy (λs k hk=>?_) (λs=>?_),aD,aRu Q hx hy sx sy (aPD n5 sx sy) (λs k hk=>?_) (λs=>?_),aD]
 ·rfl
 ·unfold vB;simp only;obtain ⟨s',t,hs,ht,e1,e2,e3,e4⟩:=Q.arrow hk;rw [iV hk,aN,e3,aD,aBU (by omega),aD,e4,aD,aBU (by omega),aD,e1,e2,dE,dE]
 ·unfold vB;simp only;rw [jZ (bP _),bA]
 ·unfold vA;simp only;rw [hx,iV hk,aN,aBU (by omega),aD,aBU (by omega),aD]
 ·unfold vA;simp only;rw [hx,jZ (bP _),bA]
theorem aMa {q:Qv} (hq:bQ q) {x:List Int} (hx:x.length≤1048576):pD q x=some ((x.all λa=>zE a (-100) 100)&&(aAE q&&decide ((x.length:Int)=q.n))):=by
 unfold pD;rw [aDj (λk=>zE (x[k]?.getD 0) (-100) 100) false (n:=x.length) (by omega) (λk hk=>?_) (λ_=>?_),aBE 0 x (λa=>zE a (-100) 100),aD]
 ·cases x.all λa=>zE a (-100) 100
  ·rfl
  ·rw [aN,Bool.true_and];show (Option.bind (iS q) λv7=>bif v7 then some (decide ((x.length:Int)=q.n)) else some false)=_;rw [aEg hq,aD];cases aAE q <;> rfl
 ·unfold oA;rw [iV hk,aN,tP 0 hk,aD,yO,aD];cases zE _ (-100) 100 <;> rfl
 ·unfold oA;rw [jZ (bP _),bA]
theorem Sm.all {x:List Int} (h:Sm x):(x.all λa=>zE a (-100) 100)=true:=by
 rw [List.all_eq_true];intro a ha;exact aHR (h a ha).1 (h a ha).2
theorem aQD {q:Qv} {n:Nat} (Q:QOk q n) {x y:List Int} (hx:x.length=n) (hy:y.length=n) (sx:Sm x) (sy:Sm y):pE q x y=some (eul q n x y):=by
 have n5:=Q.n5;unfold pE;rw [aMa Q.bq (by omega),sx.all,Q.qv,hx,Q.n0,bG rfl,aMa Q.bq (by omega),sy.all,Q.qv,hy,Q.n0,bG rfl];simp only [Bool.and_self,aD,iX,bA];rw [aRt hx hy n5 sx sy (λs k hk=>?_) (λs=>?_),aD,aRu Q hx hy sx sy (aPD n5 sx sy) (λs k hk=>?_) (λs=>?_),aD]
 ·rfl
 ·unfold oD;simp only;obtain ⟨s',t,hs,ht,e1,e2,e3,e4⟩:=Q.arrow hk;rw [iV hk,aN,e3,aD,aBU (by omega),aD,e4,aD,aBU (by omega),aD,e1,e2,dE,dE]
 ·unfold oD;simp only;rw [jZ (bP _),bA]
 ·unfold oC;simp only;rw [Q.n0,iV hk,aN,aBU (by omega),aD,aBU (by omega),aD]
 ·unfold oC;simp only;rw [Q.n0,jZ (bP _),bA]
theorem aVW {n s t:Nat} (x:Nat→Int) (hs:s<n) (ht:t<n):(eY n λv=>eY n λw=>(if v=s∧w=t then 1 else 0)*(x v*x w))=x s*x t:=by
 rw [eJ (g:=λv=>if v=s then (λv=>x v*x t) v else 0) (λv hv=>?_),aBS (λv=>x v*x t) hs];by_cases c:v=s
 ·rw [aR c];refine (eJ λw _=>?_).trans (aBS (λw=>x v*x w) ht);by_cases c2:w=t
  ·simp [c,c2]
  ·simp [c2]
 ·rw [aQ c,eJ (g:=λ_=>0) (λw _=>by simp [c]),xM]
theorem aTq {q:Qv} {n:Nat} (Q:QOk q n) (x:Nat→Int): ∀ k,k≤q.src.length→qf n (mtF q k) x=2*(eY n λv=>x v*x v) - 2*eY k λi=>x (gx q.src i).toNat *x (gx q.tgt i).toNat
 |0,_=>by
  unfold qf;simp only [eY];rw [eJ (g:=λv=>2*(x v*x v)) (λv hv=>?_),nL]
  ·omega
  ·rw [←aBS (λw=>2*(x v*x w)) hv];refine eJ λw _=>?_;unfold mtF aGi;simp only [eY];by_cases c:v=w
   ·subst c;simp
   ·simp [c,show ¬ w=v from λh=>c h.symm]
 |k+1,hk=>by
  have ih:=aTq Q x k (by omega);obtain ⟨s,t,hs,ht,e1,e2,e3,e4⟩:=Q.arrow (i:=k) (by omega)
  have e:qf n (mtF q (k+1)) x=qf n (mtF q k) x+((-1)*(eY n λv=>eY n λw=>(if v=s∧w=t then 1 else 0)*(x v*x w))+(-1)*(eY n λv=>eY n λw=>(if v=t∧w=s then 1 else 0)*(x v*x w))):=by
   unfold qf;rw [←nL,←nL,←qL,←qL];refine eJ λv _=>?_;rw [←nL,←nL,←qL,←qL];refine eJ λw _=>?_;rw [aAi,tN e1 e2,tN e1 e2]
   have c:(if w=s∧v=t then (1:Int) else 0)=if v=t∧w=s then 1 else 0:=by
    by_cases h:v=t∧w=s
    ·rw [aR h,aR ⟨h.2,h.1⟩]
    ·rw [aQ h,aQ λh'=>h ⟨h'.2,h'.1⟩]
   rw [c]
   grind
  rw [e,aVW x hs ht,aVW x ht hs,ih];simp only [eY];rw [e1,e2,dE,dE]
  grind
theorem aRv {n:Nat} {m m':Nat→Nat→Int} (x:Nat→Int) (h: ∀ i j,i<n→j<n→m i j=m' i j):qf n m x=qf n m' x:=
 eJ λi hi=>eJ λj hj=>by rw [h i j hi hj]
theorem aRw {q:Qv} {n:Nat} (Q:QOk q n) (x:List Int):qf n (jP (qV q n)) (gx x)=2*eul q n x x:=by
 have e:qf n (jP (qV q n)) (gx x)=qf n (mtF q q.src.length) (gx x):=aRv _ λi j hi hj=>kN hi hj;rw [e,aTq Q _ _ (bP _)];unfold eul;omega
theorem aFi: ∀ {ms x:List Int},x∈dL ms↔x.length=ms.length∧ ∀ i,i<ms.length→0≤gx x i∧(gx x i).toNat ≤(gx ms i).toNat
 | [],x=>by
  simp only [dL,List.mem_singleton,List.length_nil];constructor
  ·rintro rfl;exact ⟨rfl,λi h=>by omega⟩
  ·rintro ⟨h,_⟩;exact List.eq_nil_of_length_eq_zero h
 |m::ms,x=>by
  simp only [dL,List.mem_flatMap,List.mem_range,List.mem_map];constructor
  ·rintro ⟨i,hi,y,hy,rfl⟩;obtain ⟨h1,h2⟩:=aFi.1 hy;refine ⟨by simp [h1],λj hj=>?_⟩;cases j with
   |zero=>show 0≤(i:Int)∧(i:Int).toNat ≤m.toNat;omega
   |succ j=>exact h2 j (by simpa using hj)
  ·rintro ⟨h1,h2⟩;cases x with
   |nil=>simp at h1
   |cons a x=>
    have h3:=h2 0 (by simp);have h4:0≤a∧a.toNat≤m.toNat:=h3;refine ⟨a.toNat,by omega,x,aFi.2 ⟨by simpa using h1,λj hj=>h2 (j+1) (by simpa using hj)⟩,?_⟩;rw [Int.toNat_of_nonneg h4.1]
def aAO:List Int→List Int→Bool
 |a::x,b::y=>decide (a<b)||(decide (a=b)&&aAO x y)
 |_,_=>false
theorem aFj: ∀ ms:List Int,(dL ms).Pairwise λx y=>aAO x y=true
 | []=>by simp [dL]
 |m::ms=>by
  simp only [dL];rw [List.pairwise_flatMap];refine ⟨λi _=>?_,?_⟩
  ·rw [List.pairwise_map];exact (aFj ms).imp λh=>by simp [aAO,h]
  ·refine List.pairwise_lt_range.imp λh=>?_;intro x hx y hy;obtain ⟨x',_,rfl⟩:=List.mem_map.1 hx;obtain ⟨y',_,rfl⟩:=List.mem_map.1 hy;simp only [aAO,Bool.or_eq_true,iW];exact .inl (by omega)
theorem aIO: ∀ x:List Int,aAO x x=false
 | []=>rfl
 |a::x=>by simp [aAO,aIO x]
theorem aGN (ms:List Int):(dL ms).Nodup:=(aFj ms).imp λ{x y} h e=>by rw [e,aIO] at h;cases h
theorem aQE: ∀ n,n<6→(dL (List.replicate n 4)).length ≤3125:=by decide+kernel
theorem aUi: ∀ n,n<6→aHy (List.replicate n 4)=true:=by decide
end
noncomputable section
def aBz {α:Type} (lt:α→α→Bool) (x:α):List α→List α→List α
 | [],acc=>x::acc
 |p::ps,acc=>if lt x p=true then aBz lt x ps (p::acc) else (p::ps).reverse++x::acc
def aFk {α:Type} (lt:α→α→Bool) (x:α) (P:List α):List α:=aBz lt x P.reverse []
def lO {α:Type} (lt:α→α→Bool) (A:List α):List α:=A.foldl (λS x=>aFk lt x S) []
theorem aMb {α:Type} (lt:α→α→Bool) (x:α): ∀ ps acc,(aBz lt x ps acc).length=ps.length+acc.length+1
 | [],acc=>by simp [aBz]
 |p::ps,acc=>by
  simp only [aBz];split
  ·rw [aMb lt x ps (p::acc)];simp;omega
  ·simp;omega
theorem aMc {α:Type} (lt:α→α→Bool) (x y:α): ∀ ps acc,y∈aBz lt x ps acc↔y=x∨y∈ps∨y∈acc
 | [],acc=>by simp [aBz]
 |p::ps,acc=>by
  simp only [aBz];split
  ·rw [aMc lt x y ps (p::acc)];simp only [eC];grind
  ·simp only [eB,List.mem_reverse,eC];grind
theorem aRx {α:Type} (lt:α→α→Bool) (x:α) (P:List α):(aFk lt x P).length=P.length+1:=by unfold aFk;rw [aMb];simp
theorem aRy {α:Type} {lt:α→α→Bool} {x y:α} {P:List α} :y∈aFk lt x P↔y=x∨y∈P:=by unfold aFk;rw [aMc];simp
theorem aDz {α:Type} (lt:α→α→Bool) (A:List α) (x:α):lO lt (A++[x])=aFk lt x (lO lt A):=by simp [lO]
theorem rY {α:Type} (lt:α→α→Bool): ∀ A:List α,(lO lt A).length=A.length∧ ∀ y,y∈lO lt A↔y∈A:=by
 have key: ∀ A S:List α,(A.foldl (λS x=>aFk lt x S) S).length=S.length+A.length∧ ∀ y,y∈A.foldl (λS x=>aFk lt x S) S↔y∈S∨y∈A:=by
  intro A;induction A with
  |nil=>intro S;simp
  |cons a A ih=>
   intro S;obtain ⟨h1,h2⟩:=ih (aFk lt a S);refine ⟨by rw [List.foldl_cons,h1,aRx];simp;omega,λy=>?_⟩;rw [List.foldl_cons,h2 y,aRy];simp only [eC];grind
 intro A;obtain ⟨h1,h2⟩:=key A [];exact ⟨by unfold lO;rw [h1];simp,λy=>by unfold lO;rw [h2];simp⟩
theorem aGO {α:Type} {lt:α→α→Bool} {R:α→α→Prop} (hT: ∀ a b c,R a b→R b c→R a c) {x:α} : ∀ {ps acc:List α},(ps.reverse++acc).Pairwise R→(∀ a∈acc,R x a)→(∀ p∈ps,lt x p=true→R x p)→(∀ p∈ps,lt x p=false→R p x)→(aBz lt x ps acc).Pairwise R
 | [],acc,hs,ha,h1,h0=>by simp only [aBz];exact List.pairwise_cons.2 ⟨ha,by simpa using hs⟩
 |p::ps,acc,hs,ha,h1,h0=>by
  simp only [aBz];by_cases c:lt x p=true
  ·rw [aR c];have e:(p::ps).reverse++acc=ps.reverse++(p::acc):=by simp
   rw [e] at hs;refine aGO hT hs (λa h=>?_) (λq hq=>h1 q (by simp [hq])) (λq hq=>h0 q (by simp [hq]));rcases eC.1 h with rfl|h
   ·exact h1 _ (by simp) c
   ·exact ha a h
  ·rw [aQ c];have hp:=h0 p (by simp) (by simpa using c);rw [List.pairwise_append] at hs ⊢;obtain ⟨g1,g2,g3⟩:=hs;refine ⟨g1,List.pairwise_cons.2 ⟨ha,g2⟩,λa h1' b hb=>?_⟩;rcases eC.1 hb with rfl|hb
   ·rcases List.mem_reverse.1 h1' |> eC.1 with rfl|h
    ·exact hp
    ·refine hT _ p _ ?_ hp;rw [List.reverse_cons,List.pairwise_append] at g1;exact g1.2.2 a (by simpa using h) p (by simp)
   ·exact g3 a h1' b hb
theorem aMd {α:Type} {lt:α→α→Bool} {R:α→α→Prop} (hT: ∀ a b c,R a b→R b c→R a c) {x:α} {P:List α} (hP:P.Pairwise R) (h1: ∀ p∈P,lt x p=true→R x p) (h0: ∀ p∈P,lt x p=false→R p x):(aFk lt x P).Pairwise R:=
 aGO hT (by simpa using hP) (by simp) (λp hp=>h1 p (by simpa using hp)) (λp hp=>h0 p (by simpa using hp))
theorem aIP {α:Type} {R:α→α→Prop} (hI: ∀ a,¬ R a a) (hT: ∀ a b c,R a b→R b c→R a c): ∀ {l m:List α},l.Pairwise R→m.Pairwise R→(∀ x,x∈l↔x∈m)→l=m
 | [],m,_,_,h=>by
  cases m with
  |nil=>rfl
  |cons b m=>exact absurd ((h b).2 (by simp)) (by simp)
 |a::l,m,hl,hm,h=>by
  cases m with
  |nil=>exact absurd ((h a).1 (by simp)) (by simp)
  |cons b m=>
   have hl':=List.pairwise_cons.1 hl;have hm':=List.pairwise_cons.1 hm
   have hab:a=b:=by
    rcases eC.1 ((h a).1 (by simp)) with e|e
    ·exact e
    ·rcases eC.1 ((h b).2 (by simp)) with e2|e2
     ·exact e2.symm
     ·exact absurd (hT _ _ _ (hl'.1 b e2) (hm'.1 a e)) (hI a)
   subst hab;congr 1;refine aIP hI hT hl'.2 hm'.2 λx=>?_;have hx:=h x;simp only [eC] at hx;constructor
   ·intro h1;rcases hx.1 (.inr h1) with rfl|h2
    ·exact absurd (hl'.1 _ h1) (hI _)
    ·exact h2
   ·intro h1;rcases hx.2 (.inr h1) with rfl|h2
    ·exact absurd (hm'.1 _ h1) (hI _)
    ·exact h2
def Vec5 (x:List Int):Prop:=x.length≤5∧ ∀ a∈x,0≤a∧a≤4
theorem Vec5.sum {x:List Int} (h:Vec5 x):0≤x.sum∧x.sum≤20:=by have:=aNc h.2;have:=h.1;omega
def qM (x y:List Int):Bool:=decide (x.sum<y.sum)
theorem aVX {x y:List Int} (hx:Vec5 x) (hy:Vec5 y):wJ x y=some (x.sum - y.sum):=by
 have h1:=hx.sum;have h2:=hy.sum;unfold wJ;rw [aKb hx.2 (by have:=hx.1;omega),aD,aKb hy.2 (by have:=hy.1;omega),aD,dB (by omega)]
theorem aKx {α:Type} {u T:List α} {p:α} :cZ (u++p::T) (u.length:Int)=some p:=by simp [cZ]
theorem aTO {α:Type} {u T:List α} {p x:α} :cZ (u++p::x::T) ((u.length+1:Nat):Int)=some x:=by
 have:=aKx (u:=u++[p]) (p:=x) (T:=T);simpa using this
theorem aTP {α:Type} {u T:List α} {p q:α} :(u++p::T).set u.length q=u++q::T:=by simp
theorem aRz {α:Type} {u T:List α} {p x q:α} :(u++p::x::T).set (u.length+1) q=u++p::q::T:=by simp
theorem aIQ {x:List Int} (hx:Vec5 x) (R:List (List Int)): ∀ ps acc:List (List Int),(∀ p∈ps,Vec5 p)→ps.length≤1000→Lp (dI 0) (ps.reverse++x::(acc++R),(ps.length:Int))=some (aBz qM x ps acc++R)
 | [],acc,_,_=>by
  refine eO ?_;unfold dI;simp [aBz]
 |p::ps,acc,hp,hl=>by
  have hpv:=hp p (by simp);have hl':ps.length+1≤1000:=by simpa using hl
  have e1:(p::ps).reverse++x::(acc++R)=ps.reverse++p::x::(acc++R):=by simp
  have hlen:ps.reverse.length=ps.length:=by simp
  have a1:cZ (ps.reverse++p::x::(acc++R)) ((ps.length+1:Nat):Int)=some x:=by rw [←hlen];exact aTO
  have a2:cZ (ps.reverse++p::x::(acc++R)) (ps.length:Int)=some p:=by rw [←hlen];exact aKx
  have hwr:wr (((ps.length+1:Nat):Int) - 1)=(ps.length:Int):=by rw [dB (by omega)];omega
  have hbody:dI 0 ((p::ps).reverse++x::(acc++R),((p::ps).length:Int))=some (if qM x p=true then .inl (ps.reverse++x::((p::acc)++R),(ps.length:Int)) else .inr ((p::ps).reverse++x::(acc++R))):=by
   unfold dI;simp only;rw [List.length_cons,e1,bG (by omega),aN,a1,aD,hwr,a2,aD,aVX hx hpv,aD];simp only [aD];by_cases c:x.sum<p.sum
   ·rw [bG (by omega),aN,aR (by simp [qM,c])];have s1:(ps.reverse++p::x::(acc++R)).set ((ps.length+1:Nat):Int).toNat p=ps.reverse++p::p::(acc++R):=by rw [dE,←hlen];exact aRz
    rw [s1];have a3:cZ (ps.reverse++p::p::(acc++R)) (ps.length:Int)=some p:=by rw [←hlen];exact aKx
    rw [a3,aD];have s2:(ps.reverse++p::p::(acc++R)).set ((ps.length:Nat):Int).toNat x=ps.reverse++x::p::(acc++R):=by rw [dE,←hlen];exact aTP
    rw [s2];rfl
   ·rw [eV (by omega),bA,aQ (by simp [qM,c])]
  by_cases c:qM x p=true
  ·rw [aR c] at hbody;rw [jX hbody,aIQ hx R ps (p::acc) (λq hq=>hp q (by simp [hq])) (by omega)];simp only [aBz,aR c]
  ·rw [aQ c] at hbody;rw [eO hbody];simp only [aBz,aQ c];simp
theorem aJm {A:List (List Int)} (hA: ∀ x∈A,Vec5 x) (hl:A.length≤1000):cP A 0 (A.length:Int)=some (lO qM A):=by
 unfold cP;cases A with
 |nil=>
  rw [eO (r:=([]:List (List Int)))]
  ·rfl
  ·unfold dJ;rw [dB (by omega)];rfl
 |cons a A=>
  have h1:wr (0+1)=((0+1:Nat):Int):=by rw [dB (by omega)];rfl
  simp only [List.length_cons] at hl;rw [dR (s:=(a::A,wr (0+1))) (r:=lO qM (a::A)) (λk=>(lO qM ((a::A).take (k+1))++(a::A).drop (k+1),((k+1:Nat):Int))) A.length (by rw [h1];rfl) (λk hk=>?_) (λ_=>?_),aD]
  ·unfold dJ;simp only;have hk1:k+1<(a::A).length:=by simp;omega
   obtain ⟨hsl,hsm⟩:=rY qM ((a::A).take (k+1));have hSl:(lO qM ((a::A).take (k+1))).length=k+1:=by rw [hsl];simp;omega
   generalize hS:lO qM ((a::A).take (k+1))=S at*;rw [List.drop_eq_getElem_cons hk1];generalize hx:(a::A)[k+1]=x;have hxA:x∈a::A:=by rw [←hx];exact List.getElem_mem hk1
   have hin:=aIQ (hA x hxA) ((a::A).drop (k+1+1)) S.reverse [] (λp hp=>hA p (List.mem_of_mem_take ((hsm p).1 (by simpa using hp)))) (by simp;omega);rw [List.reverse_reverse,List.length_reverse,hSl,List.nil_append] at hin;rw [iV hk1,aN,hin,aD,bW hk1 (by simp;omega)]
   have e:lO qM ((a::A).take (k+1+1))=aFk qM x S:=by
    rw [aCB hk1,aDz,hS,hx]
   rw [e];rfl
  ·unfold dJ;simp only;rw [List.length_cons,jZ (bP _),bA,List.take_of_length_le (by simp),List.drop_of_length_le (by simp),List.append_nil]
theorem aQF (l:List (List Int)):cP l 20 20=some l:=by
 unfold cP;rw [eO (r:=l)]
 ·rfl
 ·unfold dJ;simp only;rw [dB (by omega)];rfl
theorem aKy {A:List (List Int)} (hA: ∀ x∈A,Vec5 x) (hl:A.length≤20):eU A=some (lO qM A):=by
 have hS:=(rY qM A).1
 have hst:iC A (A.length:Int)=some (lO qM A):=by
  unfold iC
  have hL2:Lp (gK (A.length:Int)) 20=some ():=by
   refine eO ?_;unfold gK;rw [eV (by omega),bA]
  by_cases c:A.length=20
  ·have b1:dG (A.length:Int) (A,0,20)=some (.inl (lO qM A,20,40)):=by
    unfold dG;simp only;have:=aJm hA (by omega);rw [c] at this;rw [bG (by omega),aN];rw [show cP A 0 20=some (lO qM A) from this,aD,bG hS,aN,dB (by omega)];rfl
   have b2:dG (A.length:Int) (lO qM A,20,40)=some (.inr (lO qM A,20)):=by
    unfold dG;simp only;rw [eV (by omega),bA]
   rw [jX b1,eO b2,aD];simp only;rw [show ((A.length:Nat):Int)=20 by omega,aQF,aD,bG rfl,aN];rw [show ((A.length:Nat):Int)=20 by omega] at hL2;rw [hL2,aD]
  ·have b1:dG (A.length:Int) (A,0,20)=some (.inr (A,0)):=by
    unfold dG;simp only;rw [eV (by omega),bA]
   rw [eO b1,aD];simp only;rw [aJm hA (by omega),aD,bG hS,aN,hL2,aD]
 unfold eU;rw [hst,aD,bG hS,aN]
def yK (x y:List Int):Bool:=decide (x.sum<y.sum)||(decide (x.sum=y.sum)&&aAO x y)
theorem aTr {x y:List Int} (h:x.length=y.length) (hl:x.length≤1000): ∀ d s:Nat,s+d=x.length→(Option.bind (Lp (iN x y) (s:Int)) λz=>Sum.elim (λ_=>some false) (λb=>some b) z)=some (aAO (x.drop s) (y.drop s))
 |0,s,hs=>by
  have:iN x y (s:Int)=some (.inr (.inl ())):=by
   unfold iN;rw [jZ (by omega),bA]
  rw [eO this,List.drop_of_length_le (by omega)];simp [aAO]
 |d+1,s,hs=>by
  have hx:s<x.length:=by omega
  have hy:s<y.length:=by omega
  have hb:iN x y (s:Int)=some (if x[s]=y[s] then .inl ((s+1:Nat):Int) else .inr (.inr (decide (x[s]<y[s])))):=by
   unfold iN;rw [iV hx,aN,eH hx,aD,eH hy,aD];by_cases c:x[s]=y[s]
   ·rw [bG c,iX,bA,aR c,bW hx (by omega)]
   ·rw [eV c,Bool.not_false,aN,aQ c];simp only [aD]
  rw [List.drop_eq_getElem_cons hx,List.drop_eq_getElem_cons hy];by_cases c:x[s]=y[s]
  ·rw [aR c] at hb;rw [jX hb,aTr h hl d (s+1) (by omega)];simp [aAO,c]
  ·rw [aQ c] at hb;rw [eO hb];simp [aAO,c]
theorem aSA (x:List Int) {k:Nat} (h:k<x.length):gx x k=x[k]:=by simp [gx,h]
theorem aUj {x y:List Int} (hx:Vec5 x) (hy:Vec5 y) (h:x.length=y.length):wI x y=some (yK x y):=by
 have l5:=hx.1;unfold wI
 have hbd: ∀ z:List Int,Vec5 z→ ∀ k:Nat, -(4*(k:Int))≤eY k (gx z)∧eY k (gx z)≤4*k:=λz hz k=>aBy λi _=>by
  rcases eD i z.length with h'|h'
  ·have:=hz.2 _ (aAv h');omega
  ·unfold gx;rw [gL h'];simp
 have hg: ∀ z:List Int,Vec5 z→ ∀ k:Nat,0≤gx z k∧gx z k≤4:=λz hz k=>by
  rcases eD k z.length with h'|h'
  ·exact hz.2 _ (aAv h')
  ·unfold gx;rw [gL h'];simp
 rw [dR (s:=((0:Int),(0:Int),(0:Int))) (r:=(x.sum,y.sum)) (λk=>(eY k (gx x),eY k (gx y),(k:Int))) x.length rfl (λk hk=>?_) (λ_=>?_),aD]
 ·simp only;by_cases c:x.sum=y.sum
  ·rw [bG c,iX,bA];refine (aTr h (by omega) x.length 0 (by omega)).trans ?_;simp [yK,c]
  ·rw [eV c,Bool.not_false,aN];simp [yK,c]
 ·unfold rE;simp only;have h1:=hbd x hx k;have h2:=hbd y hy k;have h3:=hg x hx k;have h4:=hg y hy k;rw [iV hk,aN,aBU hk,aD,aBU (by omega),aD,dB (by omega),dB (by omega),bW hk (by omega)];rfl
 ·unfold rE;simp only;rw [jZ (bP _),bA,aBT,aBT,h]
theorem aJn {C:List (List Int)} {n:Nat} {i:Nat} {x:List Int} (hx:Vec5 x) (hxn:x.length=n) (hi:cZ C (i:Int)=some x) {out:List (List Int)} (ho: ∀ p∈out,Vec5 p∧p.length=n) (hl:out.length≤1000): ∀ ps acc:List (List Int),ps.reverse++acc=out→
  ∃ k:Nat,Lp (gB (out,(i:Int)) C) (ps.length:Int)=some (k:Int)∧k≤out.length∧out.take k++x::out.drop k=aBz yK x ps acc
 | [],acc,e=>by
  refine ⟨0,eO ?_,Nat.zero_le _,by simp only [aBz];rw [←e];simp⟩;unfold gB;simp
 |p::ps,acc,e=>by
  have e':ps.reverse++(p::acc)=out:=by rw [←e];simp
  have hlen:out.length=ps.length+acc.length+1:=by rw [←e'];simp;omega
  have hp:=ho p (by rw [←e'];simp);have hwr:wr (((p::ps).length:Int) - 1)=(ps.length:Int):=by rw [List.length_cons,dB (by omega)];omega
  have hat:cZ out (ps.length:Int)=some p:=by rw [←e',←List.length_reverse];exact aKx
  have hb:gB (out,(i:Int)) C ((p::ps).length:Int)=some (if yK x p=true then .inl (ps.length:Int) else .inr ((p::ps).length:Int)):=by
   unfold gB;simp only;rw [bG (by rw [List.length_cons];omega),aN,hi,aD,hwr,hat,aD,aUj hx hp.1 (by rw [hxn,hp.2]),aD];cases yK x p <;> rfl
  by_cases c:yK x p=true
  ·rw [aR c] at hb;obtain ⟨k,h1,h2,h3⟩:=aJn hx hxn hi ho hl ps (p::acc) e';exact ⟨k,by rw [jX hb];exact h1,h2,by rw [h3];simp only [aBz,aR c]⟩
  ·rw [aQ c] at hb;refine ⟨(p::ps).length,eO hb,by rw [List.length_cons];omega,?_⟩;simp only [aBz,aQ c];rw [←e];rw [List.take_left' (by simp),List.drop_left' (by simp)]
theorem aOA {C:List (List Int)} {n:Nat} (hC: ∀ x∈C,Vec5 x∧x.length=n) (hl:C.length≤1000):Lp (gC C) (([]:List (List Int)),0)=some (lO yK C):=by
 refine dR (λk=>(lO yK (C.take k),(k:Int))) C.length rfl (λk hk=>?_) (λ_=>?_)
 ·unfold gC;simp only;obtain ⟨hsl,hsm⟩:=rY yK (C.take k);have hSl:(lO yK (C.take k)).length=k:=by rw [hsl];simp;omega
  have e:lO yK (C.take (k+1))=aFk yK C[k] (lO yK (C.take k)):=by rw [aCB hk,aDz]
  rw [e];generalize hS:lO yK (C.take k)=S at*;have hx:=hC C[k] (List.getElem_mem hk);obtain ⟨j,h1,h2,h3⟩:=aJn (C:=C) (i:=k) hx.1 hx.2 (eH hk) (out:=S) (λp hp=>hC p (List.mem_of_mem_take ((hsm p).1 hp))) (by omega) S.reverse [] (by simp);rw [List.length_reverse] at h1;rw [iV hk,aN,h1,aD,eH hk];simp only [aD];have f1:List.take ((j:Int).toNat - (0:Int).toNat) (List.drop (0+(0:Int).toNat) S)=S.take j:=by simp
  have f2:List.take (((S.length:Nat):Int).toNat - (j:Int).toNat) (List.drop (0+(j:Int).toNat) S)=S.drop j:=by
   rw [dE,dE,Nat.zero_add,List.take_of_length_le (by simp)]
  rw [f1,f2];have g1:(S.take j).length ≤1000:=by simp;omega
  have g2:(S.drop j).length ≤1000:=by simp;omega
  rw [show (decide ((0:Nat)≤0)&&(decide (0≤(j:Int))&&decide ((j:Int)≤((S.length:Nat):Int))))=true by simp [h2],aN,bG (by simp;omega),aN,bG (by simp;omega),aN];rw [show (decide (0≤(j:Int))&&(decide ((j:Int)≤((S.length:Nat):Int))&&decide (((S.length:Nat):Int)≤((S.length:Nat):Int))))=true by simp [h2],aN,bG (by simp;omega),aN,bW hk (by omega)];congr 3;unfold aFk;rw [←h3];simp
 ·unfold gC;simp only;rw [jZ (bP _),bA,List.take_length]
end
noncomputable section
theorem aIR: ∀ {x y z:List Int},aAO x y=true→aAO y z=true→aAO x z=true
 | [],y,z,h,_=>by simp [aAO] at h
 |a::x,[],z,h,_=>by simp [aAO] at h
 |a::x,b::y,[],_,h=>by simp [aAO] at h
 |a::x,b::y,c::z,h,k=>by
  simp only [aAO,Bool.or_eq_true,dK,iW] at h k ⊢;rcases h with h|⟨h,h'⟩ <;> rcases k with k|⟨k,k'⟩
  ·exact .inl (by omega)
  ·exact .inl (by omega)
  ·exact .inl (by omega)
  ·exact .inr ⟨by omega,aIR h' k'⟩
theorem aIS: ∀ {x y:List Int},x.length=y.length→x≠y→aAO x y=true∨aAO y x=true
 | [],[],_,h=>absurd rfl h
 | [],_::_,h,_=>by simp at h
 |_::_,[],h,_=>by simp at h
 |a::x,b::y,h,hne=>by
  simp only [aAO,Bool.or_eq_true,dK,iW];by_cases e:a=b
  ·subst e;rcases aIS (x:=x) (y:=y) (by simpa using h) (λe=>hne (by rw [e])) with h1|h1
   ·exact .inl (.inr ⟨rfl,h1⟩)
   ·exact .inr (.inr ⟨rfl,h1⟩)
  ·rcases Int.lt_or_gt_of_ne e with h1|h1
   ·exact .inl (.inl h1)
   ·exact .inr (.inl h1)
def aEu (x y:List Int):Prop:=yK x y=true
theorem aBW {x y:List Int} :aEu x y↔x.sum<y.sum∨(x.sum=y.sum∧aAO x y=true):=by simp [aEu,yK]
theorem aQG (x:List Int): ¬ aEu x x:=by rw [aBW,aIO];simp
theorem aCl (x y z:List Int) (h:aEu x y) (k:aEu y z):aEu x z:=by
 rw [aBW] at*;rcases h with h|⟨h,h'⟩ <;> rcases k with k|⟨k,k'⟩
 ·exact .inl (by omega)
 ·exact .inl (by omega)
 ·exact .inl (by omega)
 ·exact .inr ⟨by omega,aIR h' k'⟩
theorem aEv {α:Type} {lt:α→α→Bool} {R:α→α→Prop} (hT: ∀ a b c,R a b→R b c→R a c) {A:List α} (hA:A.Pairwise λp x=>(lt x p=true→R x p)∧(lt x p=false→R p x)):(lO lt A).Pairwise R:=by
 have key: ∀ k,k≤A.length→(lO lt (A.take k)).Pairwise R:=by
  intro k;induction k with
  |zero=>intro _;simp [lO]
  |succ k ih=>
   intro hk;have hk':k<A.length:=by omega
   rw [aCB hk',aDz]
   have hpr: ∀ p∈lO lt (A.take k),(lt A[k] p=true→R A[k] p)∧(lt A[k] p=false→R p A[k]):=by
    intro p hp;have h1:=((rY lt (A.take k)).2 p).1 hp;obtain ⟨j,hj,rfl⟩:=List.mem_iff_getElem.1 h1;have hjk:j<k:=by simp at hj;omega
    have:=List.pairwise_iff_getElem.1 hA j k (by omega) hk' hjk;simpa using this
   exact aMd hT (ih (by omega)) (λp hp=>(hpr p hp).1) (λp hp=>(hpr p hp).2)
 have:=key A.length (bP _)
 rwa [List.take_length] at this
structure Fin1 (q:Qv) (n:Nat):Prop where
 Q:QOk q n
 F:GForm n (qV q n)
 G:aJd n (qV q n)=true
def RtQ (q:Qv) (n:Nat) (x:List Int):Prop:=Rt0 n (qV q n) x
theorem Fin1.vec {q:Qv} {n:Nat} (H:Fin1 q n) {x:List Int} (r:RtQ q n x):Vec5 x∧x.length=n:=by
 have h:=(aAg H.G).2;have h1:=r.mem H.F h.1;exact ⟨⟨by rw [r.len];exact H.Q.n5,λa ha=>⟨r.nn a ha,h.2.2 x h1 a ha⟩⟩,r.len⟩
theorem Fin1.num {q:Qv} {n:Nat} (H:Fin1 q n) {l:List (List Int)} (hn:l.Nodup) (h: ∀ x∈l,RtQ q n x):l.length≤20:=
 Nat.le_trans (aJg hn λx hx=>(h x hx).mem H.F (aAg H.G).2.1) (aAg H.G).2.2.1
theorem Vec5.sm {x:List Int} (h:Vec5 x):Sm x:=λa ha=>by have:=h.2 a ha;omega
theorem aOB {q:Qv} {n:Nat} (Q:QOk q n) (x:List Int):RtQ q n x↔x.length=n∧(∀ a∈x,0≤a)∧eul q n x x=1:=by
 constructor
 ·intro r;have:=r.two;rw [aRw Q] at this;exact ⟨r.len,r.nn,by omega⟩
 ·rintro ⟨h1,h2,h3⟩;exact ⟨h1,h2,by rw [aRw Q];omega⟩
def aEw (q:Qv) (n:Nat):List (List Int):=(dL (List.replicate n 4)).filter λx=>decide (eul q n x x=1)
theorem aOC {n i:Nat} (h:i<n) (z:Int):gx (List.replicate n z) i=z:=by simp [gx,h]
theorem aPE {n:Nat} {x:List Int} :x∈dL (List.replicate n 4)↔x.length=n∧ ∀ a∈x,0≤a∧a≤4:=by
 rw [aFi,List.length_replicate];constructor
 ·rintro ⟨h1,h2⟩;refine ⟨h1,λa ha=>?_⟩;obtain ⟨i,hi,rfl⟩:=List.mem_iff_getElem.1 ha;have:=h2 i (by omega);rw [aOC (by omega),aSA x hi] at this;have h4:(4:Int).toNat=4:=rfl;omega
 ·rintro ⟨h1,h2⟩;refine ⟨h1,λi hi=>?_⟩;have:=h2 _ (aAv (x:=x) (i:=i) (by omega));rw [aOC hi];have h4:(4:Int).toNat=4:=rfl;omega
theorem aDI {q:Qv} {n:Nat} (H:Fin1 q n) (x:List Int):x∈aEw q n↔RtQ q n x:=by
 unfold aEw;rw [List.mem_filter,aPE,iW,aOB H.Q];constructor
 ·rintro ⟨⟨h1,h2⟩,h3⟩;exact ⟨h1,λa ha=>(h2 a ha).1,h3⟩
 ·rintro ⟨h1,h2,h3⟩;have hv:=H.vec ((aOB H.Q x).2 ⟨h1,h2,h3⟩);exact ⟨⟨h1,hv.1.2⟩,h3⟩
theorem aJo {f:List Int→List (List Int)→Option (List (List Int) ⊕ Unit)} (p:List Int→Bool): ∀ (l acc:List (List Int)),(∀ x∈l,∀ acc:List (List Int),acc.length≤4000→f x acc=some (.inl (if p x=true then acc++[x] else acc)))→acc.length+l.length≤4000→Fl f l acc=some (.inl (acc++l.filter p))
 | [],acc,_,_=>by simp [Fl]
 |x::l,acc,h,hl=>by
  simp only [List.length_cons] at hl;simp only [Fl];rw [h x (by simp) acc (by omega)];simp only;rw [aJo p l (if p x=true then acc++[x] else acc) (λy hy=>h y (by simp [hy])) (by split <;> (try simp) <;> omega)];by_cases c:p x=true
  ·simp [c]
  ·simp [c]
theorem aMe {q:Qv} {n:Nat} (H:Fin1 q n):zT q=some (lO qM (aEw q n)):=by
 have Q:=H.Q;have n5:=Q.n5;have n1:=Q.n1;unfold zT;have hn:=aQE n (by omega);rw [Q.n0,bG (by omega),bG (by omega),Bool.and_self,aN,dE,aUi n (by omega),aN];rw [aJo (λx=>decide (eul q n x x=1)) (dL (List.replicate n 4)) [] (λx hx acc ha=>?_) (by simp;omega),aD]
 ·have hA: ∀ x∈aEw q n,Vec5 x:=λx hx=>(H.vec ((aDI H x).1 hx)).1;have hnd:(aEw q n).Nodup:=(aGN _).filter _;have hlen:=H.num hnd λx hx=>(aDI H x).1 hx;show (Option.bind (eU (aEw q n)) λv9=>bif decide (v9.length=(aEw q n).length) then some v9 else none)=_;rw [aKy hA hlen,aD,bG (rY qM _).1,aN]
 ·obtain ⟨h1,h2⟩:=aPE.1 hx;have hv:Vec5 x:=⟨by omega,h2⟩;unfold yT;rw [aQC Q h1 h1 hv.sm hv.sm,aD];by_cases c:eul q n x x=1
  ·rw [bG c,aN,aR rfl];unfold mJ;rw [bG (by omega),aN,aD,bG (by omega),aN]
  ·rw [eV c,bA,aQ (by simp)]
theorem aFl {q:Qv} {n:Nat} :(lO qM (aEw q n)).Pairwise aEu:=by
 refine aEv aCl ?_;refine (List.Pairwise.filter _ (aFj _)).imp λ{p x} h=>?_;rw [aBW,aBW];simp only [qM,iW,decide_eq_false_iff_not];refine ⟨λh1=> .inl h1,λh1=>?_⟩;by_cases e:p.sum=x.sum
 ·exact .inr ⟨e,h⟩
 ·exact .inl (by omega)
theorem aQH {q:Qv} {n:Nat} (Q:QOk q n) {x:List Int} (hx:Vec5 x) (hxn:x.length=n) {v:Nat} (hv:v<n):rF (qV q n) x (v:Int)=some (x.set v (gx x v+ -(mv n (jP (qV q n)) (gx x) v))):=by
 have n5:=Q.n5;have m6:=Q.m6
 have hbd: ∀ i, -48≤mtF q q.src.length v i*gx x i∧mtF q q.src.length v i*gx x i≤48:=by
  intro i;have h1:=aRn q m6 v i
  have h2:0≤gx x i∧gx x i≤4:=by
   rcases eD i x.length with h'|h'
   ·exact hx.2 _ (aAv h')
   ·unfold gx;rw [gL h'];simp
  have h3:gx x i=0∨gx x i=1∨gx x i=2∨gx x i=3∨gx x i=4:=by omega
  rcases h3 with h3|h3|h3|h3|h3 <;> rw [h3] <;> omega
 have hmv:mv n (jP (qV q n)) (gx x) v=eY n λi=>mtF q q.src.length v i*gx x i:=eJ λi hi=>by rw [show jP (qV q n) v i=mtF q q.src.length v i from kN hv hi]
 have hs:=aBy (n:=n) (f:=λi=>mtF q q.src.length v i*gx x i) (B:=48) λi _=>hbd i;unfold rF;rw [bG (by simp;omega),aN,dR (s:=((0:Int),(0:Int))) (r:=eY n λi=>mtF q q.src.length v i*gx x i) (λk=>(eY k λi=>mtF q q.src.length v i*gx x i,(k:Int))) n rfl (λk hk=>?_) (λ_=>?_),aD]
 ·have hvl:v<x.length:=by omega
  rw [List.nil_append,aBU hvl];simp only [aD];have h2:=hx.2 _ (aAv hvl);rw [hmv,dB (by omega),dE];rfl
 ·unfold nG;simp only;have h2:=aBy (n:=k) (f:=λi=>mtF q q.src.length v i*gx x i) (B:=48) λi _=>hbd i;have h3:=hbd k;rw [hxn,iV hk,aN,show cZ (qV q n) (v:Int)=some (vO n (mtF q q.src.length v)) from oH hv,aD,oH hk,aD,aBU (by omega),aD,dB (x:=mtF q q.src.length v k*gx x k) (by omega),dB (by omega),bW hk (by omega)];rfl
 ·unfold nG;simp only;rw [hxn,jZ (bP _),bA]
def yX (q:Qv) (n:Nat) (x:List Int) (v:Nat):List Int:=x.set v (gx x v+ -(mv n (jP (qV q n)) (gx x) v))
theorem aJp {q:Qv} {n:Nat} (H:Fin1 q n) {x:List Int} (r:RtQ q n x) {v:Nat} (hv:v<n) (h:0≤gx x v+ -(mv n (jP (qV q n)) (gx x) v)):RtQ q n (yX q n x v):=by
 have hvl:v<x.length:=by rw [r.len];exact hv
 refine ⟨by unfold yX;rw [List.length_set];exact r.len,λa ha=>?_,?_⟩
 ·rcases aAw ha with rfl|ha
  ·exact h
  ·exact r.nn a ha
 ·unfold yX;rw [aFe _ hvl,aNw _ _ _ hv H.F.sym,r.two,H.F.diag v hv];generalize mv n (jP (qV q n)) (gx x) v=s
  grind
def aSB (q:Qv) (n:Nat) (all:List (List Int)) (x:List Int) (v:Nat):Prop:=0≤gx x v+ -(mv n (jP (qV q n)) (gx x) v)→yX q n x v∈all
def aIT (q:Qv) (n:Nat) (all:List (List Int)):Prop:=all.Nodup∧ ∀ x∈all,RtQ q n x
theorem aMf {l:List (List Int)} {x:List Int} (hl: ∀ r∈l,bI r) (hn:l.length≤1000):qQ l x=some (decide (x∈l)):=by
 unfold qQ;rw [aQn (λk=>decide (l[k]?.getD []=x)) true (n:=l.length) (by omega) (λk hk=>?_) (λ_=>?_),aD]
 ·have e:((List.range l.length).any λk=>decide (l[k]?.getD []=x))=decide (x∈l):=by
   rw [Bool.eq_iff_iff,List.any_eq_true,iW];constructor
   ·rintro ⟨k,hk,h⟩;have hk':=List.mem_range.1 hk;rw [iW,iE hk',qE] at h;rw [←h];exact List.getElem_mem hk'
   ·intro h;obtain ⟨k,hk,rfl⟩:=List.mem_iff_getElem.1 h;exact ⟨k,List.mem_range.2 hk,by simp [hk]⟩
  rw [e];cases decide (x∈l) <;> rfl
 ·unfold sY;rw [iV hk,aN,tP [] hk,aD,aHi (hl _ (by rw [iE hk];exact List.getElem_mem hk)),aD];cases decide (l[k]?.getD []=x) <;> rfl
 ·unfold sY;rw [jZ (bP _),bA]
theorem aMg {q:Qv} {n:Nat} (H:Fin1 q n) {all0:List (List Int)} {i:Nat} {x:List Int} (hi:cZ all0 (i:Int)=some x) (h0:aIT q n all0):
  ∃ r,Lp (fZ q (qV q n) (all0,(i:Int))) (all0,0)=some r∧(all0<+:r∧aIT q n r∧ ∀ u,u<n→aSB q n r x u):=by
 have Q:=H.Q;have n5:=Q.n5;have hxr:RtQ q n x:=h0.2 x (List.mem_of_getElem? (dH hi));have hxv:=H.vec hxr;refine aER (λs=> ∃ w:Nat,s.2=(w:Int)∧w≤n∧all0<+:s.1∧aIT q n s.1∧ ∀ u,u<w→aSB q n s.1 x u) (λs=>n - s.2.toNat) _ ⟨0,rfl,Nat.zero_le _,List.prefix_refl _,h0,λu hu=>by omega⟩ ?_;rintro ⟨all,sv⟩ ⟨w,hw,hwn,hpre,hall,hcl⟩;simp only at hw hpre hall hcl;subst hw;have hlen:=H.num hall.1 hall.2;by_cases hlt:w<n
 ·left
  have hat:cZ all (i:Int)=some x:=by
   have h1:=dH hi;obtain ⟨t,rfl⟩:=hpre;have h2:=iH hi;rw [dE] at h1 h2;simp only [cZ];rw [bG (by omega),aN,dE,List.getElem?_append_left h2];exact h1
  have hrl:(yX q n x w).length=n:=by unfold yX;rw [List.length_set];exact hxv.2
  have hgy:gx (yX q n x w) w=gx x w+ -(mv n (jP (qV q n)) (gx x) w):=by unfold yX;rw [aCi _ (by omega),aR rfl]
  have hb:fZ q (qV q n) (all0,(i:Int)) (all,(w:Int))=some (.inl (if 0≤gx x w+ -(mv n (jP (qV q n)) (gx x) w)∧ ¬ yX q n x w∈all then all++[yX q n x w] else all,((w+1:Nat):Int))):=by
   unfold fZ;simp only;rw [Q.n0,iV hlt,aN,hat,aD,aQH Q hxv.1 hxv.2 hlt,aD];change (Option.bind (cZ (yX q n x w) (w:Int)) λv13=>_)=_;rw [aBU (by omega),aD,hgy,bW hlt (by omega)];by_cases c:0≤gx x w+ -(mv n (jP (qV q n)) (gx x) w)
   ·have hy:=aJp H hxr hlt c;have hyv:=H.vec hy;rw [bG c,aN];change (Option.bind (qQ all (yX q n x w)) λv15=>_)=_;rw [aMf (λr hr=>by have:=(H.vec (hall.2 r hr)).1.1;unfold bI;omega) (by omega),aD];by_cases c2:yX q n x w∈all
    ·rw [bG c2,iX,bA,aQ (by simp [c2])]
    ·rw [eV c2,Bool.not_false,aN,aR ⟨c,c2⟩];unfold yR;change (Option.bind (Option.bind (pE q (yX q n x w) (yX q n x w)) λv1=>some v1) λv17=>_)=_;rw [aQD Q hrl hrl hyv.1.sm hyv.1.sm,aD,aD,((aOB Q _).1 hy).2.2,bG rfl,aN,bG (by omega),aN];rfl
   ·rw [eV c,bA,aQ (by simp [c])]
  refine ⟨_,hb,⟨w+1,rfl,by omega,?_,?_,?_⟩,by show n - ((w+1:Nat):Int).toNat <n - (w:Int).toNat;omega⟩
  ·simp only;split
   ·exact hpre.trans (List.prefix_append _ _)
   ·exact hpre
  ·simp only;split
   ·rename_i c;refine ⟨?_,λy hy=>?_⟩
    ·rw [List.nodup_append];refine ⟨hall.1,by simp,λa ha b hb=>?_⟩;rw [List.mem_singleton] at hb;subst hb;rintro rfl;exact c.2 ha
    ·rcases eB.1 hy with hy|hy
     ·exact hall.2 y hy
     ·rw [List.mem_singleton] at hy;subst hy;exact aJp H hxr hlt c.1
   ·exact hall
  ·intro u hu h;simp only;by_cases e:u=w
   ·subst e;split
    ·simp
    ·rename_i c;exact Classical.byContradiction λh2=>c ⟨h,h2⟩
   ·have:=hcl u (by omega) h;split
    ·simp [this]
    ·exact this
 ·right;have:w=n:=by omega
  subst this;refine ⟨all,?_,hpre,hall,hcl⟩;unfold fZ;simp only;rw [Q.n0,jZ (bP _),bA]
theorem aMh {q:Qv} {n:Nat} (H:Fin1 q n) {all0:List (List Int)} (h0:aIT q n all0):
  ∃ r,Lp (gA q (qV q n)) (all0,0)=some r∧(all0<+:r∧aIT q n r∧ ∀ x∈r,∀ u,u<n→aSB q n r x u):=by
 refine aER (λs=> ∃ k:Nat,s.2=(k:Int)∧k≤s.1.length∧all0<+:s.1∧aIT q n s.1∧ ∀ j (hj:j<s.1.length),j<k→ ∀ u,u<n→aSB q n s.1 s.1[j] u) (λs=>21 - s.2.toNat) _ ⟨0,rfl,Nat.zero_le _,List.prefix_refl _,h0,λj _ hj=>by omega⟩ ?_;rintro ⟨all,sv⟩ ⟨k,hk,hkl,hpre,hall,hcl⟩;simp only at hk hkl hpre hall hcl;subst hk;have hlen:=H.num hall.1 hall.2;by_cases hlt:k<all.length
 ·left;obtain ⟨r,g1,g2,g3,g4⟩:=aMg H (eH hlt) hall;have hrl:=g2.length_le;refine ⟨(r,((k+1:Nat):Int)),?_,⟨k+1,rfl,by show k+1≤r.length;omega,hpre.trans g2,g3,?_⟩,by show 21 - ((k+1:Nat):Int).toNat <21 - (k:Int).toNat;omega⟩
  ·unfold gA;simp only;rw [iV hlt,aN,g1,aD,bW hlt (by omega)]
  ·intro j hj hjk u hu h;simp only at hj h ⊢;obtain ⟨t,rfl⟩:=g2;have hja:j<all.length:=by omega
   have e:(all++t)[j]=all[j]:=List.getElem_append_left hja;rw [e] at h ⊢;by_cases c:j=k
   ·subst c;exact g4 u hu h
   ·have:=hcl j hja (by omega) u hu h;simp [this]
 ·right;refine ⟨all,?_,hpre,hall,λx hx u hu=>?_⟩
  ·unfold gA;simp only;rw [jZ (by omega),bA]
  ·obtain ⟨j,hj,rfl⟩:=List.mem_iff_getElem.1 hx;exact hcl j hj (by omega) u hu
theorem aMi {q:Qv} {n:Nat} (H:Fin1 q n) {C:List (List Int)} (hu: ∀ v,v<n→wM n v∈C) (hc: ∀ x∈C,∀ u,u<n→aSB q n C x u): ∀ (h:Nat) {x:List Int},RtQ q n x→x.sum=h+1→x∈C
 |0,x,r,hs=>by
  obtain ⟨v,hv,e⟩:=aII r.nn (by omega);rw [r.len] at e hv;rw [e];exact hu v hv
 |h+1,x,r,hs=>by
  obtain ⟨v,hv,h1,h2⟩:=r.down H.F (by omega);have hvl:v<x.length:=by rw [r.len];exact hv
  have ih:=aMi H hu hc h h2 (by rw [aKu _ hvl];omega)
  have h3:mv n (jP (qV q n)) (gx (x.set v (gx x v+ -1))) v= -1:=by
   rw [aFe _ hvl,aNv _ _ _ _ hv,h1,H.F.diag v hv];rfl
  have h4:gx (x.set v (gx x v+ -1)) v=gx x v+ -1:=by rw [aCi _ hvl,aR rfl]
  have h5:=r.nn _ (aAv hvl);have h6:=hc _ ih v hv (by rw [h3,h4];omega);unfold yX at h6;rw [h3,h4,List.set_set] at h6
  have e:x.set v (gx x v+ -1+ - -1)=x:=by
   refine aRk (by simp) λi _=>?_;rw [aCi _ hvl];by_cases e:i=v
   ·subst e;rw [aR rfl];omega
   ·rw [aQ e]
  rwa [e] at h6
theorem aFm {q:Qv} {n:Nat} (H:Fin1 q n) {v:Nat} (hv:v<n):RtQ q n (wM n v):=by
 have hz:gx (List.replicate n (0:Int))=λ_=>0:=by
  funext i;unfold gx;rw [List.getElem?_replicate];split <;> simp
 have hvl:v<(List.replicate n (0:Int)).length:=by simpa using hv
 have e:wM n v=(List.replicate n (0:Int)).set v (gx (List.replicate n (0:Int)) v+1):=by rw [hz];rfl
 refine ⟨by simp [wM],λa ha=>?_,?_⟩
 ·rcases aAw ha with rfl|ha
  ·omega
  ·rw [List.eq_of_mem_replicate ha];omega
 ·rw [e,aFe _ hvl,aNw _ _ _ hv H.F.sym,H.F.diag v hv,hz]
  have h1:mv n (jP (qV q n)) (λ_=>0) v=0:=by
   unfold mv;rw [eJ (g:=λ_=>0) (λi _=>by rw [Int.mul_zero]),xM]
  have h2:qf n (jP (qV q n)) (λ_=>0)=0:=by
   rw [aMT,eJ (g:=λ_=>0) (λi _=>by rw [Int.zero_mul]),xM]
  rw [h1,h2];rfl
theorem aMj (n:Nat):((List.range n).map (wM n)).Nodup:=by
 rw [List.nodup_iff_pairwise_ne,List.pairwise_map];refine List.Pairwise.imp_of_mem (λ{a b} ha hb h e=>?_) (List.nodup_iff_pairwise_ne.1 List.nodup_range);have h1:gx (wM n a) a=1:=by unfold wM;rw [aCi _ (by simpa using List.mem_range.1 ha),aR rfl]
 have h2:gx (wM n b) a=0:=by unfold wM;rw [aCi _ (by simpa using List.mem_range.1 hb),aQ h,aOC (List.mem_range.1 ha)]
 rw [e,h2] at h1;cases h1
theorem aMk {q:Qv} {n:Nat} (Q:QOk q n):Lp (fY q) (([]:List (List Int)),0)=some ((List.range n).map (wM n)):=by
 have n5:=Q.n5;refine dR (λk=>((List.range k).map (wM n),(k:Int))) n rfl (λk hk=>?_) (λ_=>?_)
 ·unfold fY;simp only;rw [Q.n0,iV hk,aN,bG (by omega),bG (by omega),Bool.and_self,aN,dE,tP 0 (by simpa using hk),aD,bG (by simp;omega),aN,bW hk (by omega),List.range_succ,List.map_append,dE];rfl
 ·unfold fY;simp only;rw [Q.n0,jZ (bP _),bA]
def nU (q:Qv) (n:Nat):List (List Int):=lO qM (aEw q n)
theorem xN {q:Qv} {n:Nat} (H:Fin1 q n) (x:List Int):x∈nU q n↔RtQ q n x:=by unfold nU;rw [(rY _ _).2,aDI H]
theorem aIU {q:Qv} {n:Nat} (H:Fin1 q n):(nU q n).length ≤20:=by
 unfold nU;rw [(rY _ _).1];exact H.num ((aGN _).filter _) λx hx=>(aDI H x).1 hx
theorem aMl {q:Qv} {n:Nat} (H:Fin1 q n):(Option.bind (Lp (fY q) (([]:List (List Int)),0)) λy8=>Option.bind (Lp (gA q (qV q n)) (y8,0)) λy21=>Option.bind (Lp (gC y21) (([]:List (List Int)),0)) λy35=>some (y35,true))=some (nU q n,true):=by
 have hU:aIT q n ((List.range n).map (wM n)):=⟨aMj n,λx hx=>by
  obtain ⟨v,hv,rfl⟩:=List.mem_map.1 hx
  exact aFm H (List.mem_range.1 hv)⟩
 obtain ⟨C,h1,h2,h3,h4⟩:=aMh H hU;have hC: ∀ x∈C,Vec5 x∧x.length=n:=λx hx=>H.vec (h3.2 x hx);have hlen:=H.num h3.1 h3.2;rw [aMk H.Q,aD,h1,aD,aOA hC (by omega),aD];congr 2;refine aIP aQG aCl ?_ aFl λx=>?_
 ·refine aEv aCl ?_;refine List.Pairwise.imp_of_mem (λ{p x} hp hx h=>?_) (List.nodup_iff_pairwise_ne.1 h3.1);refine ⟨λh=>h,λh'=>?_⟩;have h5: ¬ aEu x p:=by unfold aEu;rw [h'];simp
  rw [aBW] at h5 ⊢;rcases aIS (x:=p) (y:=x) (by rw [(hC p hp).2,(hC x hx).2]) h with h6|h6
  ·by_cases e:p.sum=x.sum
   ·exact .inr ⟨e,h6⟩
   ·refine .inl ?_;have: ¬ x.sum<p.sum:=λh=>h5 (.inl h);omega
  ·refine .inl ?_;have h7: ¬ x.sum<p.sum:=λh=>h5 (.inl h);have h8: ¬ x.sum=p.sum:=λh=>h5 (.inr ⟨h,h6⟩);omega
 ·rw [(rY _ _).2,xN H];constructor
  ·exact h3.2 x
  ·intro r;have:=r.pos H.F
   exact aMi H (λv hv=>by
    obtain ⟨t,rfl⟩:=h2;simp only [eB]
    exact .inl (List.mem_map.2 ⟨v,List.mem_range.2 hv,rfl⟩)) h4 (x.sum - 1).toNat r (by omega)
end
noncomputable section
set_option maxRecDepth 10000
set_option maxHeartbeats 4000000
end
noncomputable section
theorem aSC {q:Qv} (hb:bQ q): ∃ L b,fN q=some (L,b)∧gF q=some (L,b)∧((b=false∧L=[])∨(b=true∧ ∃ n,Fin1 q n∧L=nU q n)):=by
 by_cases hv:aAE q=true
 ·obtain ⟨n,Q⟩:=qok hb hv;by_cases hk:aCk n (qV q n) (2 ^ n - 1) 1 1=1
  ·obtain ⟨F,G⟩:=aRs Q λt h1 h2=>aJl hk t h1 (by omega);have H:Fin1 q n:=⟨Q,F,G⟩;refine ⟨nU q n,true,?_,?_,.inr ⟨rfl,n,H,rfl⟩⟩
   ·unfold fN;rw [aIL Q,aD,hk,bG rfl,iX,bA,aMe H,aD];rfl
   ·unfold gF;rw [aIM Q,aD,hk,bG rfl,iX,bA,aJh Q,aD];exact aMl H
  ·refine ⟨[],false,?_,?_,.inl ⟨rfl,rfl⟩⟩
   ·unfold fN;rw [aIL Q,aD,eV hk,Bool.not_false,aN]
   ·unfold gF;rw [aIM Q,aD,eV hk,Bool.not_false,aN]
 ·have hv':aAE q=false:=by simpa using hv
  refine ⟨[],false,?_,?_,.inl ⟨rfl,rfl⟩⟩
  ·unfold fN kS;rw [aKa hb,hv',aD];rfl
  ·unfold gF kR;rw [aEg hb,hv',aD];rfl
theorem aKz {v:List (List Int)} {f:List Int→Option Bool} (P:List Int→Bool) (hf: ∀ x∈v,f x=some (P x)) (h:v.length≤1048576): ∃ i:Int,gS v f=some i∧decide (0≤i)=v.any P:=by
 unfold gS;rw [aFK (s0:=0) (s:=0) (n:=v.length) (λk=>bif P (v[k]?.getD []) then some (k:Int) else none) rfl (by omega) (Nat.zero_le _) (λk _ hk=>?_) (λ_=>?_)]
 ·rw [aD];cases e:(List.range' 0 (v.length - 0)).findSome? (λk:Nat=>bif P (v[k]?.getD []) then some (k:Int) else none) with
  |none=>
   refine ⟨-1,rfl,?_⟩;rw [List.findSome?_eq_none_iff] at e
   have:v.any P=false:=by
    rw [List.any_eq_false];intro x hx;obtain ⟨k,hk,rfl⟩:=List.mem_iff_getElem.1 hx;have:=e k (by simp;omega);simp only [iE hk,qE] at this;cases hp:P v[k] with
    |false=>simp
    |true=>rw [hp] at this;cases this
   rw [this];rfl
  |some i=>
   refine ⟨i,rfl,?_⟩;obtain ⟨k,hk,he⟩:=List.exists_of_findSome?_eq_some e;simp at hk;have hkl:k<v.length:=by omega
   rw [iE hkl] at he;simp only [qE] at he;cases hp:P v[k] with
   |false=>rw [hp] at he;cases he
   |true=>
    rw [hp] at he;cases he;rw [bG (by omega),eq_comm,List.any_eq_true];exact ⟨_,List.getElem_mem hkl,hp⟩
 ·unfold fW;rw [iV hk,aN,tP [] hk,aD,hf _ (by rw [iE hk];exact List.getElem_mem hk),aD];cases P _ <;> rfl
 ·unfold fW;rw [jZ (bP _),bA]
theorem aSD {q:Qv} (hb:bQ q) (x:List Int): ∃ b,xV q x=some b∧xU q x=some b∧(b=true→ ∃ n,Fin1 q n∧RtQ q n x):=by
 obtain ⟨L,b,h1,h2,h3⟩:=aSC hb
 have hL:(∀ r∈L,bI r)∧L.length≤1000:=by
  rcases h3 with ⟨_,rfl⟩|⟨_,n,H,rfl⟩
  ·exact ⟨λr hr=>(by cases hr),by simp⟩
  ·refine ⟨λr hr=>?_,by have:=aIU H;omega⟩;have:=(H.vec ((xN H r).1 hr)).1.1;unfold bI;omega
 obtain ⟨i,g1,g2⟩:=aKz (f:=λb0=>mF b0 x) (λr=>decide (r=x)) (λr hr=>by simp only [mF];rw [aPg (hL.1 r hr),aD]) (by omega:L.length≤1048576)
 have hany:(L.any λr=>decide (r=x))=decide (x∈L):=by
  rw [Bool.eq_iff_iff,List.any_eq_true,iW];exact ⟨λ⟨r,hr,h⟩=>by rw [iW] at h;exact h▸hr,λh=>⟨x,h,by simp⟩⟩
 refine ⟨decide (x∈L),?_,?_,λh=>?_⟩
 ·unfold xV xK;rw [h1,aD];simp only;rw [g1,aD,aD,g2,hany]
 ·unfold xU;rw [h2,aD];simp only;rcases h3 with ⟨rfl,rfl⟩|⟨rfl,_⟩
  ·simp
  ·rw [aN,aMf hL.1 hL.2,aD]
 ·rw [iW] at h;rcases h3 with ⟨_,rfl⟩|⟨_,n,H,rfl⟩
  ·cases h
  ·exact ⟨n,H,(xN H x).1 h⟩
end
noncomputable section
theorem aTQ {L:List Nat} (hL:L.length≤1048576) (k:Nat):zH (qK L) k=some (L.contains k):=by
 unfold zH;rw [aQn (n:=L.length) (λi=>decide (L[i]?.getD 0=k)) true (by omega) (λi hi=>?_) (λ_=>?_),aD]
 ·have e:(List.range L.length).any (λi=>decide (L[i]?.getD 0=k))=L.contains k:=by
   rw [Bool.eq_iff_iff,List.any_eq_true,List.contains_iff_mem];constructor
   ·rintro ⟨i,hi,he⟩;have hi:=List.mem_range.1 hi;have he:=of_decide_eq_true he;rw [iE hi,qE] at he;subst he;exact List.getElem_mem hi
   ·intro h;obtain ⟨i,hi,rfl⟩:=List.mem_iff_getElem.1 h;exact ⟨i,List.mem_range.2 hi,by simp [hi]⟩
  rw [e];cases L.contains k <;> rfl
 ·unfold uH;rw [kF,iV hi,aN,tP 0 (by rw [kF];exact hi),aD]
  have e:decide ((qK L)[i]?.getD 0=(k:Int))=decide (L[i]?.getD 0=k):=by
   rw [Bool.eq_iff_iff,iW,iW];simp [qK,hi];omega
  rw [e];cases decide (L[i]?.getD 0=k) <;> rfl
 ·unfold uH;rw [kF,jZ (bP _),bA]
theorem aSE {L:List Nat} {i:Nat} (h:i<L.length):cZ (qK L) (i:Int)=some ((L[i]?.getD 0:Nat):Int):=by
 rw [eH (by rw [kF];exact h)];simp [qK,h]
theorem aQI {p:Int} {m:Nat} {F:Nat→Nat→Int} {t i:Nat} (h:i<(fK p m F t).2.length):(fK p m F t).2[i]?.getD 0<t:=aET t _ (rA 0 h)
theorem aOD {p:Int} {m n:Nat} {F:Nat→Nat→Int} (T:Tb p m n F):uW p ⟨m,n,cK m n F⟩=some (aNQ p n (fK p m F n).1 (fK p m F n).2):=by
 have hn:=T.hn;have hN:=T.hN;have hin:=aCR (by have:=kV T.hp;omega:0<p) T.hi n;have hlen:= @aCw p m F n;have hlen2:= @aDk p m F n;have hget:= @aQI p m F n;unfold uW;rw [aKe T,aD];generalize (fK p m F n).1=R at*;generalize (fK p m F n).2=L at*;rw [dR (r:=aNQ p n R L) (λk=>((k:Int),((List.range k).filter λk=> !L.contains k).map λk=>aLj p n R L k L.length)) n (by simp) (λk hk=>?_) (λ_=>?_),aD]
 ·unfold pW;simp only;have hfl:((List.range k).filter λk=> !L.contains k).length ≤k:=by have:=List.length_filter_le (λk=> !L.contains k) (List.range k);simpa using this
  rw [iV hk,aN,aTQ (by omega),aD,List.range_succ,List.filter_append,List.map_append];cases hc:L.contains k with
  |true=>
   rw [aN,bW hk (by omega),show [k].filter (λk=> !L.contains k)=[] by simp only [List.filter_cons,List.filter_nil,hc,iX,fU,if_false],List.map_nil,List.append_nil]
  |false=>
   rw [bA,bG (by omega),bG (by omega:(n:Int)≤1048576),Bool.and_self,aN,dE,dE,eH (by simp;exact hk),aD];rw [dR (r:=aLj p n R L k L.length) (λi=>(aLj p n R L k i,(i:Int))) L.length (by rfl) (λi hi=>?_) (λ_=>?_),aD]
   ·rw [bG (by simp only [eW];omega),aN,bW hk (by omega),show [k].filter (λk=> !L.contains k)=[k] by simp only [List.filter_cons,List.filter_nil,hc,Bool.not_false,if_true]];rfl
   ·unfold pV;simp only;have b1:=hin i k (by omega) hk;have hp:=kV T.hp;have hv:=hget hi;rw [kF,iV hi,aN,aSE hi,aD,atT hN (by omega) hk,aD,dB (by omega),aBs T.hp (by omega),aD,eH (by rw [aHW];exact hv),aD,dE,bW hi (by omega)];rfl
   ·unfold pV;simp only;rw [kF,jZ (bP _),bA]
 ·unfold pW;simp only;rw [jZ (bP _),bA];rfl
theorem aSF {p:Int} (hp:zG p=true) {m n:Nat} {F:Nat→Nat→Int} (hi:InP p m n F):(aNQ p n (fK p m F n).1 (fK p m F n).2).length=n - rkF p m n F:=by
 have h:=aQp hp hi n (bP _);have:=aRT h.inc (aET n);unfold aNQ rkF;rw [eW];omega
theorem Fit.lA {a b:Rp} (h:Fit a b) {v:Nat} (hv:v<a.dims.length):wr ((dN a v:Int)*(dN b v:Int))=((Proofs.YtilpfdokmlanjaaGreat.lV a b v:Nat):Int):=by
 have:=h.lV hv;unfold Proofs.YtilpfdokmlanjaaGreat.lV at*;rw [Nat.mul_comm] at this ⊢;exact aHV (by omega)
theorem aPF {a b:Rp} (h:Fit a b) {v:Nat} (hv:v≤a.dims.length):wD a b v=some ((off (lV a b) v:Nat):Int):=by
 have n5:=h.ra.n5;unfold wD;rw [dR (r:=((off (lV a b) v:Nat):Int)) (λk=>(((off (lV a b) k:Nat):Int),(k:Int))) v (by rfl) (λk hk=>?_) (λ_=>?_),aD]
 ·have hka:k<a.dims.length:=by omega
  have hkb:k<b.dims.length:=by rw [h.ne];exact hka
  have ho:=h.offV (v:=k+1) (by omega);have e:off (lV a b) (k+1)=off (lV a b) k+lV a b k:=rfl;unfold uX;simp only;rw [iV hk,aN,tP 0 hka,aD,tP 0 hkb,aD,(h.ra.d k hka).1,(h.rb.d k hkb).1,h.lA hka,bW hk (by omega),dB (by omega),e];simp
 ·unfold uX;simp only;rw [jZ (bP _),bA]
theorem aQJ {a b:Rp} (h:Fit a b):wF a b=some (nV a b:Int):=by
 have n5:=h.ra.n5;unfold wF;rw [dR (r:=(nV a b:Int)) (λk=>(((off (lV a b) k:Nat):Int),(k:Int))) a.dims.length (by rfl) (λk hk=>?_) (λ_=>?_),aD]
 ·have hkb:k<b.dims.length:=by rw [h.ne];exact hk
  have ho:=h.offV (v:=k+1) (by omega);have e:off (lV a b) (k+1)=off (lV a b) k+lV a b k:=rfl;unfold rD;simp only;rw [iV hk,aN,tP 0 hk,aD,tP 0 hkb,aD,(h.ra.d k hk).1,(h.rb.d k hkb).1,h.lA hk,bW hk (by omega),dB (by omega),e];simp
 ·unfold rD;simp only;rw [jZ (bP _),bA];rfl
def aCm (a b:Rp) (i r k j:Nat):Nat→Nat→Int:=λv z=>if v=sV a i∧z % dN a v=k∧z / dN a v<j then aF b i r (z / dN a v) else 0
def aMm (a b:Rp) (i r k j:Nat):Nat→Nat→Int:=λv z=>if v=tV a i∧z / dN a v=r∧z % dN a v<j then (aCm a b i r k (dN b (sV a i)) v z - aF a i (z % dN a v) k) % a.p else aCm a b i r k (dN b (sV a i)) v z
theorem aQK (r c:Nat) (F:Nat→Nat→Int):cK r c F++rN c (F r)=cK (r+1) c F:=by
 rw [←aEk c F r,←aEk c F (r+1),List.range_succ,List.map_append,List.flatten_append];simp
theorem aTR {a b:Rp} (h:Fit a b) {i r k:Nat} (hi:i<a.q.src.length) (hr:r<dN b (tV a i)) (hk:k<dN a (sV a i)) (x1 x2 x3:Int×List Int×Int) (e1:x1.2.2=i) (e2':x2.2.2=r) (e3:x3.2.2=k):
  ∃ y,Lp (iK a b (sV a i) x1 x2 x3) (List.replicate (nV a b) 0,0)=some y∧Lp (iL a b (sV a i) (tV a i) x1 x2 x3) (y,0)=some (cat (lV a b) (e2 a b i (r*dN a (sV a i)+k)) a.dims.length):=by
 have hb:=kV h.ra.hp;have n5:=h.ra.n5;obtain ⟨s1,s2⟩:=h.ra.s i hi;obtain ⟨t1,t2⟩:=h.ra.t i hi;have s3:sV a i<b.dims.length:=by rw [h.ne];exact s2
 have t3:tV a i<b.dims.length:=by rw [h.ne];exact t2
 have hib:i<b.q.src.length:=by rw [h.qe];exact hi
 obtain ⟨m1,m2⟩:=h.ra.m i hi;obtain ⟨g1,g2⟩:=h.rb.m i hib;rw [h.sV,h.tV] at g1 g2;rw [h.pe] at g2;have da:=h.ra.d _ s2;have da2:=h.ra.d _ t2;have db:=h.rb.d _ s3;have db2:=h.rb.d _ t3;have oS:=h.offV (v:=sV a i+1) s2;have oT:=h.offV (v:=tV a i+1) t2;have eS:off (lV a b) (sV a i+1)=off (lV a b) (sV a i)+lV a b (sV a i):=rfl;have eT:off (lV a b) (tV a i+1)=off (lV a b) (tV a i)+lV a b (tV a i):=rfl;refine ⟨cat (lV a b) (aCm a b i r k (dN b (sV a i))) a.dims.length,?_,?_⟩
 ·refine dR (λj=>(cat (lV a b) (aCm a b i r k j) a.dims.length,(j:Int))) (dN b (sV a i)) ?_ (λj hj=>?_) (λ_=>?_)
  ·unfold nV;rw [aMF];congr 1;exact aBP λv z _ _=>by unfold aCm;rw [aQ λq=>absurd q.2.2 (Nat.not_lt_zero _)]
  ·have hz:j*dN a (sV a i)+k<lV a b (sV a i):=aHU hj hk
   have hpos:wr (wr (((off (lV a b) (sV a i):Nat):Int)+wr ((j:Int)*(dN a (sV a i):Int)))+(k:Int))=((off (lV a b) (sV a i)+(j*dN a (sV a i)+k):Nat):Int):=by
    rw [aHV (by omega),dB (x:=((off (lV a b) (sV a i):Nat):Int)+((j*dN a (sV a i):Nat):Int)) (by omega),dB (by omega)];omega
   have hw:=g2 r j hr hj;unfold iK;simp only [e1,e2',e3];rw [tP 0 s3,aD,db.1,iV hj,aN,aPF h (by omega),aD,tP 0 s2,aD,da.1,hpos,eH (by rw [iM];exact wG s2 hz)];rw [aD,tP ⟨0,0,[]⟩ (by rw [h.rb.ml];exact hib),aD,aD,g1];simp only;rw [atT (sq db2.2 db.2) hr hj,aD]
   have hv0:(cat (lV a b) (aCm a b i r k j) a.dims.length)[off (lV a b) (sV a i)+(j*dN a (sV a i)+k)]'(by rw [iM];exact wG s2 hz)=0:=by
    have:=sX (aCm a b i r k j) s2 hz;rw [iE (by rw [iM];exact wG s2 hz)] at this;rw [Option.some.inj this];unfold aCm;rw [aQ];rw [aBn hk];omega
   rw [hv0,Int.zero_add,dB (by omega),aBs h.ra.hp (by omega),aD,aD,dE,aKg s2 hz,bW hj (by omega),Int.emod_eq_of_lt hw.1 hw.2];congr 3;refine aBP λv z hv hz2=>?_;by_cases e:v=sV a i∧z=j*dN a (sV a i)+k
   ·obtain ⟨rfl,rfl⟩:=e;rw [aR ⟨rfl,rfl⟩];unfold aCm;rw [aBn hk,aBo hk,aR ⟨rfl,rfl,Nat.lt_succ_self _⟩]
   ·rw [aQ e];unfold aCm;by_cases e4:v=sV a i∧z % dN a v=k∧z / dN a v<j
    ·rw [aR e4,aR ⟨e4.1,e4.2.1,by omega⟩]
    ·rw [aQ e4,aQ];rintro ⟨q1,q2,q3⟩
     have q4:z / dN a v=j:=by
      rcases eD (z / dN a v) j with h'|h'
      ·exact absurd ⟨q1,q2,h'⟩ e4
      ·omega
     refine e ⟨q1,?_⟩;rw [←@aAe (dN a v) z,q4,q2,q1]
  ·unfold iK;simp only [e1,e2',e3];rw [tP 0 s3,aD,db.1,jZ (bP _),bA]
 ·refine dR (λj=>(cat (lV a b) (aMm a b i r k j) a.dims.length,(j:Int))) (dN a (tV a i)) ?_ (λj hj=>?_) (λ_=>?_)
  ·congr 1;exact aBP λv z _ _=>by unfold aMm;rw [aQ λq=>absurd q.2.2 (Nat.not_lt_zero _)]
  ·have hz:r*dN a (tV a i)+j<lV a b (tV a i):=aHU hr hj
   have hpos:wr (wr (((off (lV a b) (tV a i):Nat):Int)+wr ((r:Int)*(dN a (tV a i):Int)))+(j:Int))=((off (lV a b) (tV a i)+(r*dN a (tV a i)+j):Nat):Int):=by
    rw [aHV (by omega),dB (x:=((off (lV a b) (tV a i):Nat):Int)+((r*dN a (tV a i):Nat):Int)) (by omega),dB (by omega)];omega
   have hw:=m2 j k hj hk;unfold iL;simp only [e1,e2',e3];rw [tP 0 t2,aD,da2.1,iV hj,aN,aPF h (by omega),aD,aD,hpos,eH (by rw [iM];exact wG t2 hz)];rw [aD,tP ⟨0,0,[]⟩ (by rw [h.ra.ml];exact hi),aD,tP 0 s2,aD,m1,da.1];simp only;rw [atT (sq da2.2 da.2) hj hk,aD]
   have hv0:(cat (lV a b) (aMm a b i r k j) a.dims.length)[off (lV a b) (tV a i)+(r*dN a (tV a i)+j)]'(by rw [iM];exact wG t2 hz)=aCm a b i r k (dN b (sV a i)) (tV a i) (r*dN a (tV a i)+j):=by
    have:=sX (aMm a b i r k j) t2 hz;rw [iE (by rw [iM];exact wG t2 hz)] at this;rw [Option.some.inj this];unfold aMm;rw [aQ];rw [aBo hj];omega
   have hbA:0≤aCm a b i r k (dN b (sV a i)) (tV a i) (r*dN a (tV a i)+j)∧aCm a b i r k (dN b (sV a i)) (tV a i) (r*dN a (tV a i)+j)≤5:=by
    unfold aCm;split
    ·rename_i q;have:=g2 r ((r*dN a (tV a i)+j) / dN a (tV a i)) hr q.2.2;omega
    ·omega
   rw [hv0];generalize hA:aCm a b i r k (dN b (sV a i)) (tV a i) (r*dN a (tV a i)+j)=A at*;rw [dB (x:=A - aF a i j k) (by omega),aBs h.ra.hp (by omega),aD,aD,dE,aKg t2 hz,bW hj (by omega)];congr 3;refine aBP λv z hv hz2=>?_;by_cases e:v=tV a i∧z=r*dN a (tV a i)+j
   ·obtain ⟨rfl,rfl⟩:=e;rw [aR ⟨rfl,rfl⟩];unfold aMm;rw [aBn hj,aBo hj,aR ⟨rfl,rfl,Nat.lt_succ_self _⟩,hA]
   ·rw [aQ e];unfold aMm;by_cases e4:v=tV a i∧z / dN a v=r∧z % dN a v<j
    ·rw [aR e4,aR ⟨e4.1,e4.2.1,by omega⟩]
    ·rw [aQ e4,aQ];rintro ⟨q1,q2,q3⟩
     have q4:z % dN a v=j:=by
      rcases eD (z % dN a v) j with h'|h'
      ·exact absurd ⟨q1,q2,h'⟩ e4
      ·omega
     refine e ⟨q1,?_⟩;rw [←@aAe (dN a v) z,q4,q2,q1]
  ·unfold iL;simp only [e1,e2',e3];rw [tP 0 t2,aD,da2.1,jZ (bP _),bA];congr 2;refine aBP λv z hv hz2=>?_;have hzb:z<dN b v*dN a v:=hz2;obtain ⟨q1,q2⟩:=aDu hzb
   have eA:aCm a b i r k (dN b (sV a i)) v z=if sV a i=v∧k=z % dN a v then aF b i r (z / dN a v) else 0:=by
    unfold aCm;by_cases e:sV a i=v∧k=z % dN a v
    ·rw [aR e,aR ⟨e.1.symm,e.2.symm,by rw [e.1];exact q1⟩]
    ·rw [aQ e,aQ λq=>e ⟨q.1.symm,q.2.1.symm⟩]
   unfold aMm e2 eF;rw [eA,aBn hk,aBo hk];by_cases e:tV a i=v∧r=z / dN a v
   ·rw [aR ⟨e.1.symm,e.2.symm,by rw [e.1];exact q2⟩,aR e]
   ·rw [aQ λq=>e ⟨q.1.symm,q.2.1.symm⟩,aQ e,Int.sub_zero];split
    ·rename_i q;have hw:=g2 r (z / dN a v) hr (by rw [q.1];exact q1);exact (Int.emod_eq_of_lt hw.1 hw.2).symm
    ·simp
theorem aUk {a b:Rp} {i y:Nat} (hi:i<a.q.src.length) (hy:y<lE a b i):cat (lV a b) (e2 a b i y) a.dims.length=rN (nV a b) (mE a b (off (lE a b) i+y)):=by
 symm;refine aEn (by rw [nC];rfl) λv z hv hz=>?_;have hk:off (lV a b) v+z<nV a b:=wG hv hz;unfold rN;rw [List.getElem?_map,List.getElem?_range hk,Option.map_some];congr 1;unfold mE;rw [sX _ hi hy,qE,sX _ hv hz,qE]
theorem aIV {a b:Rp} (h:Fit a b):nZ a b=some ⟨nE a b,nV a b,cK (nE a b) (nV a b) (mE a b)⟩:=by
 have n5:=h.ra.n5;have e6:=h.ra.e6;have bV:=h.offV (bP _);have bE:=h.offE (bP _);have tl:=h.ra.tl;have ml:=h.ra.ml;have hV:nV a b≤80:=bV;unfold nZ;rw [aQJ h,aD];rw [dR (r:=((nE a b:Int),cK (nE a b) (nV a b) (mE a b))) (λi=>(((off (lE a b) i:Nat):Int),cK (off (lE a b) i) (nV a b) (mE a b),(i:Int))) a.q.src.length (by simp [off,cK]) (λi hi=>?_) (λ_=>?_),aD]
 ·obtain ⟨s1,s2⟩:=h.ra.s i hi;obtain ⟨t1,t2⟩:=h.ra.t i hi;have t3:tV a i<b.dims.length:=by rw [h.ne];exact t2
  have da:=h.ra.d _ s2;have db2:=h.rb.d _ t3;have oE:=h.offE (i:=i+1) hi;have eE:off (lE a b) (i+1)=off (lE a b) i+dN b (tV a i)*dN a (sV a i):=rfl;unfold lG;simp only;rw [ml,iV hi,aN,tP 0 hi,aD,s1,tP 0 (by omega),aD,t1];rw [dR (r:=(((off (lE a b) (i+1):Nat):Int),cK (off (lE a b) (i+1)) (nV a b) (mE a b))) (λr=>(((off (lE a b) i+r*dN a (sV a i):Nat):Int),cK (off (lE a b) i+r*dN a (sV a i)) (nV a b) (mE a b),(r:Int))) (dN b (tV a i)) (by simp) (λr hr=>?_) (λ_=>?_),aD,bW hi (by omega)]
  ·unfold lF;simp only;rw [tP 0 t3,aD,db2.1,iV hr,aN];rw [dR (r:=(((off (lE a b) i+(r+1)*dN a (sV a i):Nat):Int),cK (off (lE a b) i+(r+1)*dN a (sV a i)) (nV a b) (mE a b))) (λk=>(((off (lE a b) i+r*dN a (sV a i)+k:Nat):Int),cK (off (lE a b) i+r*dN a (sV a i)+k) (nV a b) (mE a b),(k:Int))) (dN a (sV a i)) (by simp) (λk hk=>?_) (λ_=>?_),aD,bW hr (by omega)]
   ·unfold lD;simp only;have hy:r*dN a (sV a i)+k<lE a b i:=aHU hr hk;have hx:off (lE a b) i+(r*dN a (sV a i)+k)<nE a b:=wG hi hy;have hx2:nE a b≤96:=bE;have hsz:(off (lE a b) i+r*dN a (sV a i)+k)*nV a b≤96*80:=Nat.mul_le_mul (by omega) hV;rw [tP 0 s2,aD,da.1,iV hk,aN,bG (by omega),bG (by omega:(nV a b:Int)≤1048576),Bool.and_self,aN,dE];obtain ⟨y,y1,y2⟩:=aTR h hi hr hk (((off (lE a b) i:Nat):Int),cK (off (lE a b) i) (nV a b) (mE a b),(i:Int)) (((off (lE a b) i+r*dN a (sV a i):Nat):Int),cK (off (lE a b) i+r*dN a (sV a i)) (nV a b) (mE a b),(r:Int)) (((off (lE a b) i+r*dN a (sV a i)+k:Nat):Int),cK (off (lE a b) i+r*dN a (sV a i)+k) (nV a b) (mE a b),(k:Int)) rfl rfl rfl;rw [y1,aD,y2,aD,aUk hi hy,iY,nC,bG (by omega),aN,bW hk (by omega),dB (by omega),←Nat.add_assoc,aQK];congr 2
   ·unfold lD;simp only;rw [tP 0 s2,aD,da.1,jZ (bP _),bA,Nat.succ_mul,Nat.add_assoc]
  ·unfold lF;simp only;rw [tP 0 t3,aD,db2.1,jZ (bP _),bA,eE]
 ·unfold lG;simp only;rw [ml,jZ (bP _),bA];rfl
theorem aOE {a b:Rp} (h:Fit a b) {x:List Int} (hx:x.length=nV a b): ∃ r,uY a b x=some r:=by
 have n5:=h.ra.n5;have bV:=h.offV (bP _);have hV:nV a b≤80:=bV;refine ⟨(List.range a.dims.length).map λv=>(⟨dN b v,dN a v,(x.drop (off (lV a b) v)).take (lV a b v)⟩:Mt),?_⟩;unfold uY;rw [dR (r:=(List.range a.dims.length).map λv=>(⟨dN b v,dN a v,(x.drop (off (lV a b) v)).take (lV a b v)⟩:Mt)) (λk=>((List.range k).map (λv=>(⟨dN b v,dN a v,(x.drop (off (lV a b) v)).take (lV a b v)⟩:Mt)),((off (lV a b) k:Nat):Int),(k:Int))) a.dims.length (by simp [off]) (λk hk=>?_) (λ_=>?_),aD]
 ·have hkb:k<b.dims.length:=by rw [h.ne];exact hk
  have ho:= @aAs (lV a b) (k+1) a.dims.length hk;have e:off (lV a b) (k+1)=off (lV a b) k+lV a b k:=rfl;unfold pX;simp only
  rw [iV hk,aN,tP 0 hk,aD,tP 0 hkb,aD,aD,aD,(h.ra.d k hk).1,(h.rb.d k hkb).1,h.lA hk,dB (x:=((off (lV a b) k:Nat):Int)+((lV a b k:Nat):Int)) (by omega),hx,
   bG (by omega),bG (by omega:((off (lV a b) k:Nat):Int)≤((off (lV a b) k:Nat):Int)+((lV a b k:Nat):Int)),bG (by unfold nV;omega:((off (lV a b) k:Nat):Int)+((lV a b k:Nat):Int)≤((nV a b:Nat):Int)),Bool.and_self,Bool.and_self,aN,
   show (((off (lV a b) k:Nat):Int)+((lV a b k:Nat):Int)).toNat - ((off (lV a b) k:Nat):Int).toNat=lV a b k by omega,dE]
  have q2:decide (((List.range k).map λv=>(⟨dN b v,dN a v,(x.drop (off (lV a b) v)).take (lV a b v)⟩:Mt)).length +1≤4294967296)=true:=bG (by simp only [eW,List.length_range];omega);have q1:decide (([]:List Int).length +((x.drop (off (lV a b) k)).take (lV a b k)).length ≤4294967296)=true:=bG (by simp only [List.length_nil,List.length_take,List.length_drop];omega);rw [q1,aN,q2,aN,List.nil_append,bW hk (by omega),wH (f:=λv=>(⟨dN b v,dN a v,(x.drop (off (lV a b) v)).take (lV a b v)⟩:Mt)),e];simp
 ·unfold pX;simp only;rw [jZ (bP _),bA]
end
noncomputable section
def aIW (a b:Rp):Bool:=qJ a&&(qJ b&&(decide (a.p=b.p)&&decide (a.q=b.q)))
theorem aSG {a b:Rp} (h:aIW a b=true):Fit a b:=by
 unfold aIW at h;simp only [dK,iW] at h;exact aNk h.1 h.2.1 h.2.2.1 h.2.2.2
theorem aSH {a:Rp} (h:qJ a=true):Fit a a:=aNk h h rfl rfl
def hdI (a b:Rp):Int:=if aIW a b=true then (aRV a b:Int) else -1
theorem aOF {a b:Rp} (ha:bR a) (hb:bR b): ∃ l,uZ a b=some (l,aIW a b)∧(aIW a b=true→l.length=aRV a b):=by
 unfold uZ;rw [aOm ha hb,aD];cases hf:qJ a&&(qJ b&&(decide (a.p=b.p)&&decide (a.q=b.q))) with
 |false=>
  refine ⟨[],?_,λh=>by unfold aIW at h;rw [hf] at h;cases h⟩;unfold aIW;rw [hf];rfl
 |true=>
  have h:=aSG hf;have bV:=h.offV (bP _);have hV:nV a b≤80:=bV;have hl:=aSF h.ra.hp (aTj h)
  have hkl: ∀ v∈aNQ a.p (nV a b) (fK a.p (nE a b) (mE a b) (nV a b)).1 (fK a.p (nE a b) (mE a b) (nV a b)).2,v.length=nV a b:=by
   intro v hv;unfold aNQ at hv;obtain ⟨k,_,rfl⟩:=List.mem_map.1 hv;exact aHW _ _ _ _ _ _
  rw [iX,bA,aIV h,aD,aOD (aTk h),aD];generalize aNQ a.p (nV a b) (fK a.p (nE a b) (mE a b) (nV a b)).1 (fK a.p (nE a b) (mE a b) (nV a b)).2=K at*;have key:=aER (body:=pY a b K) (s:=(([]:List (List Mt)),0)) (λs=>s.2=(s.1.length:Int)∧s.1.length≤K.length) (λs=>K.length - s.1.length) (λr=>r.length=K.length) ⟨rfl,Nat.zero_le _⟩ (λs ⟨h1,h2⟩=>?_)
  ·obtain ⟨r,h1,h2⟩:=key;rw [h1,aD];exact ⟨r,by unfold aIW;rw [hf],λ_=>by rw [h2,hl];rfl⟩
  ·obtain ⟨l,j⟩:=s;simp only at h1 h2;subst h1;unfold pY;simp only;rcases eD l.length K.length with hlt|hge
   ·obtain ⟨r,hr⟩:=aOE h (hkl _ (List.getElem_mem hlt));rw [iV hlt,aN,eH hlt,aD,hr,aD,bG (by omega),aN,bW hlt (by omega)];exact .inl ⟨_,rfl,⟨by simp,by simp;omega⟩,by simp;omega⟩
   ·rw [jZ hge,bA];exact .inr ⟨_,rfl,by omega⟩
theorem aQL {a b:Rp} (ha:bR a) (hb:bR b):tZ a b=some (hdI a b):=by
 obtain ⟨l,h1,h2⟩:=aOF ha hb;unfold tZ hdI;rw [h1,aD];cases hf:aIW a b with
 |false=>rfl
 |true=>rw [aR rfl,←h2 hf];rfl
end
noncomputable section
def fXd (x:List Int) (v:Nat):Nat:=(x[v]?.getD 0).toNat
def sXq (q:Qv) (i:Nat):Nat:=(q.src[i]?.getD 0).toNat
def tXq (q:Qv) (i:Nat):Nat:=(q.tgt[i]?.getD 0).toNat
def rXq (q:Qv) (x:List Int) (i:Nat):Int:=(fXd x (tXq q i):Int)
def cXq (q:Qv) (x:List Int) (i:Nat):Int:=(fXd x (sXq q i):Int)
def lXq (q:Qv) (x:List Int) (i:Nat):Nat:=fXd x (tXq q i)*fXd x (sXq q i)
def wQ (p:Int) (q:Qv) (x:List Int) (F:Nat→Nat→Int):Rp:=⟨p,q,x,yU q.src.length (rXq q x) (cXq q x) (lXq q x) F⟩
structure RX (q:Qv) (x:List Int):Prop where
 n5:x.length≤5
 eq:q.tgt.length=q.src.length
 m6:q.src.length≤6
 d: ∀ v,v<x.length→x[v]?.getD 0=(fXd x v:Int)
 d4: ∀ v,fXd x v≤4
 s: ∀ i,i<q.src.length→q.src[i]?.getD 0=(sXq q i:Int)∧sXq q i<x.length
 t: ∀ i,i<q.src.length→q.tgt[i]?.getD 0=(tXq q i:Int)∧tXq q i<x.length
theorem aSK {q:Qv} {x:List Int} (h:aBO q x=true):RX q x:=by
 obtain ⟨hQ,hd1,hd2,_⟩:=rV h;obtain ⟨n,hn,hn1,hn5,hq1,hq2,hq3,hq4⟩:=vN hQ;refine ⟨by omega,by omega,hq2,λv hv=>?_,λv=>?_,λi hi=>?_,λi hi=>?_⟩
 ·have:=hd2 _ (rA 0 hv);unfold fXd;omega
 ·unfold fXd;by_cases hv:v<x.length
  ·have:=hd2 _ (rA 0 hv);omega
  ·rw [gL (by omega)];exact Nat.zero_le _
 ·have:=hq3 _ (rA 0 hi);unfold sXq;omega
 ·have:=hq4 _ (rA 0 (show i<q.tgt.length by omega));unfold tXq;omega
theorem RX.l16 {q:Qv} {x:List Int} (X:RX q x) (i:Nat):lXq q x i≤16:=Nat.mul_le_mul (X.d4 _) (X.d4 _)
theorem RX.off {q:Qv} {x:List Int} (X:RX q x): ∀ k,off (lXq q x) k≤16*k
 |0=>bP _
 |k+1=>by
  have h1:=X.off k;have h2:=X.l16 k;have e:Proofs.YtilpfdokmlanjaaGreat.off (lXq q x) (k+1)=Proofs.YtilpfdokmlanjaaGreat.off (lXq q x) k+lXq q x k:=rfl;omega
theorem aMn {p:Int} {q:Qv} {x:List Int} (hp:zG p=true) (hD:aBO q x=true) {F:Nat→Nat→Int} (hF: ∀ v y,0≤F v y∧F v y≤1):qJ (wQ p q x F)=true:=by
 have X:=aSK hD;unfold qJ;simp only [dK,iW,wX];refine ⟨hp,hD,by simp [wQ,yU],λi hi=>?_⟩;have hi':i<q.src.length:=by simpa [wQ,yU] using hi
 have e:(wQ p q x F).maps[i]?.getD ⟨0,0,[]⟩=⟨rXq q x i,cXq q x i,(List.range (lXq q x i)).map (F i)⟩:=by
  unfold wQ yU;simp [hi']
 have h1:=X.d4 (tXq q i);have h2:=X.d4 (sXq q i);have hl:=X.l16 i;rw [e];refine ⟨?_,?_,?_⟩
 ·unfold aFV;simp only [dK,iW,List.all_eq_true];have hb:=kV hp;refine ⟨aHR (by unfold rXq;omega) (by unfold rXq;omega),aHR (by unfold cXq;omega) (by unfold cXq;omega),?_,⟨hp,by simp;omega⟩,λz hz=>?_⟩
  ·show (((List.range (lXq q x i)).map (F i)).length:Int)=wr ((fXd x (tXq q i):Int)*(fXd x (sXq q i):Int));unfold lXq at hl;rw [aHV (by omega),eW,List.length_range];rfl
  ·obtain ⟨y,_,rfl⟩:=List.mem_map.1 hz;have:=hF i y;refine aHR this.1 ?_;show F i y≤wr (p - 1);rw [dB (by omega)];omega
 ·exact (X.d _ (X.s i hi').2).symm
 ·exact (X.d _ (X.t i hi').2).symm
theorem aLA {p:Int} {q:Qv} {x:List Int} (hb:bQ q) (X:RX q x) {F:Nat→Nat→Int} :bR (wQ p q x F):=by
 refine ⟨hb,?_,⟨?_,λm hm=>?_⟩,trivial⟩
 ·show x.length≤1048576;have:=X.n5;omega
 ·show (yU q.src.length (rXq q x) (cXq q x) (lXq q x) F).length ≤1048576;rw [aDG];have:=X.m6;omega
 ·obtain ⟨v,_,rfl⟩:=List.mem_map.1 hm;refine ⟨?_,trivial⟩;show ((List.range (lXq q x v)).map (F v)).length ≤1048576;have:=X.l16 v;rw [eW,List.length_range];omega
theorem aTs {α:Type} (k:Nat) (f:Nat→α):(List.range k).map f++[f k]=(List.range (k+1)).map f:=by rw [List.range_succ,List.map_append];rfl
theorem aPG (p:Int) {q:Qv} {x:List Int} (hb:bQ q) (X:RX q x):rW p q x=some (wQ p q x λ_ _=>0):=by
 have h1:q.src.length≤1048576:=hb.1;have h2:q.tgt.length≤1048576:=hb.2.1;have h5:=X.n5;have h6:=X.m6;have hc: ∀ {l:List Int},l.length≤1048576→mJ l=some l:=λh=>by unfold mJ;rw [bG h,aN]
 unfold rW kT;simp only [hc h1,hc h2,hc (show x.length≤1048576 by omega),aD];rw [dR (r:=yU q.src.length (rXq q x) (cXq q x) (lXq q x) λ_ _=>0) (λk=>(yU k (rXq q x) (cXq q x) (lXq q x) λ_ _=>0,(k:Int))) q.src.length (by rfl) (λi hi=>?_) (λ_=>?_),aD]
 ·rfl
 ·have s1:=X.s i hi;have t1:=X.t i hi;have hl:=X.l16 i;unfold lXq at hl;unfold rG;simp only;rw [iV hi,aN,tP 0 hi,aD,tP 0 (by rw [X.eq];exact hi),aD,t1.1,tP 0 t1.2,aD,s1.1,tP 0 s1.2,aD,X.d _ s1.2,X.d _ t1.2,aDt (by omega),aD,aDG,bG (by omega),aN,bW hi (by omega)];unfold yU;rw [←aTs];rfl
 ·unfold rG;simp only;rw [jZ (bP _),bA]
theorem aJq (p:Int) {q:Qv} {x:List Int} (hb:bQ q) (X:RX q x):uB p q x=some (wQ p q x λ_ _=>0):=by
 have h1:q.src.length≤1048576:=hb.1;have h2:q.tgt.length≤1048576:=hb.2.1;have h5:=X.n5;have h6:=X.m6
 have hq:nT q=some q:=by
  unfold nT;rw [bG (by simp;omega),aN,bG (by simp;omega),aN];simp
 unfold uB;rw [hq,aD,bG (by simp;omega),aN,List.nil_append];rw [dR (r:=yU q.src.length (rXq q x) (cXq q x) (lXq q x) λ_ _=>0) (λk=>(yU k (rXq q x) (cXq q x) (lXq q x) λ_ _=>0,(k:Int))) q.src.length (by rfl) (λi hi=>?_) (λ_=>?_),aD]
 ·rfl
 ·have s1:=X.s i hi;have t1:=X.t i hi;have hl:=X.l16 i;unfold lXq at hl;unfold tB;simp only;rw [iV hi,aN,tP 0 (by rw [X.eq];exact hi),aD,t1.1,tP 0 t1.2,aD,tP 0 hi,aD,s1.1,tP 0 s1.2,aD,X.d _ s1.2,X.d _ t1.2,aMB (by omega),aD,aDG,bG (by omega),aN,bW hi (by omega)];unfold yU;rw [←aTs];rfl
 ·unfold tB;simp only;rw [jZ (bP _),bA]
theorem aUl (l:Nat→Nat) (N code:Nat): ∀ v y,0≤dgM l N code v y∧dgM l N code v y≤1:=λv y=>by
 unfold dgM dg;omega
theorem aQM {N:Nat} (h:N≤1048576):aHy (List.replicate N 1)=true:=by
 unfold aHy;simp only [dK,List.all_eq_true,iW,List.length_replicate];refine ⟨λm hm=>?_,h⟩;rw [List.eq_of_mem_replicate hm];decide
def emR:Rp:=⟨0,⟨0,[],[]⟩,[],[]⟩
theorem aQN (p:Int) {q:Qv} (hb:bQ q) {x:List Int} (hx:bI x): ∃ r b,wK p q x=some (r,b)∧wL p q x=some (r,b)∧((b=false∧r=emR)∨(b=true∧qJ r=true∧bR r∧zG p=true∧r.dims=x∧r.p=p∧r.q=q)):=by
 obtain ⟨c,c1,c2,_⟩:=aSD hb x;unfold wK wL;rw [aDB,aEf,c1,c2,aHj hb hx,aHk hb hx];simp only [aD];cases hp:zG p with
 |false=>exact ⟨emR,false,rfl,rfl,.inl ⟨rfl,rfl⟩⟩
 |true=>
  cases c with
  |false=>exact ⟨emR,false,rfl,rfl,.inl ⟨rfl,rfl⟩⟩
  |true=>
   cases hD:aBO q x with
   |false=>exact ⟨emR,false,rfl,rfl,.inl ⟨rfl,rfl⟩⟩
   |true=>
    have X:=aSK hD;have h6:=X.m6;simp only [iX,bA];rw [aPG p hb X,aJq p hb X];simp only [aD];obtain ⟨N,hN⟩: ∃ N,N=off (lXq q x) q.src.length:=⟨_,rfl⟩;have hN96:N≤96:=by have:=X.off q.src.length;omega
    have hfl:jT (wQ p q x λ_ _=>0).maps=some (cat (lXq q x) (λ_ _=>0) q.src.length):=aKh (by omega) (by omega);have hL1:Lp kI ((wQ p q x λ_ _=>0).maps,0,0)=some ((wQ p q x λ_ _=>0).maps,(N:Int)):=aUT (by omega) hN.symm (by omega);rw [hfl,hL1];simp only [aD,iM,←hN];by_cases h10:N≤10
    ·obtain ⟨P,hP⟩: ∃ P:Nat→Bool,P=λcode=>decide ((aRV (wQ p q x (dgM (lXq q x) N code)) (wQ p q x (dgM (lXq q x) N code)):Int)=1):=⟨_,rfl⟩;have hr: ∀ code,qJ (wQ p q x (dgM (lXq q x) N code))=true:=λcode=>aMn hp hD (aUl _ _ _);obtain ⟨Y,hY⟩:=aVU (p:=p) (q:=q) (d:=x) (r:=rXq q x) (c:=cXq q x) (P:=P) (G:=λ_ _=>0) (show q.src.length≤1000 by omega) hN.symm h10 (λcode _=>⟨_,aRW (aSH (hr code)),by rw [hP];rfl⟩) (2 ^ N) 0 (wQ p q x λ_ _=>0).maps (Nat.zero_add _)
     have hS:=aUU (p:=p) (q:=q) (d:=x) (r:=rXq q x) (c:=cXq q x) (P:=P) (X:=(wQ p q x λ_ _=>0).maps) (z:=(wQ p q x λ_ _=>0).maps) (show q.src.length≤1000 by omega) hN.symm h10 (λcode _=>⟨_,aQL (aLA hb X) (aLA hb X),by
      have hf:aIW (wQ p q x (dgM (lXq q x) N code)) (wQ p q x (dgM (lXq q x) N code))=true:=by unfold aIW;simp [hr code]
      rw [hP];show decide (hdI (wQ p q x (dgM (lXq q x) N code)) (wQ p q x (dgM (lXq q x) N code))=1)=_;unfold hdI
      rw [aR hf]⟩) (2 ^ N) 0 (λ_ _=>0) (Nat.zero_add _)
     rw [←List.range_eq_range',←aIE] at hY;rw [eV (by omega),bG (by omega),bG (by omega),dE,aQM (by omega)];simp only [Bool.and_self,aN,bA];have e1:Fl (kH (wQ p q x λ_ _=>0)) (dL (List.replicate N 1)) (wQ p q x λ_ _=>0).maps=_:=hY;have e2:Lp (gT (wQ p q x λ_ _=>0) ((wQ p q x λ_ _=>0).maps,(N:Int))) ((wQ p q x λ_ _=>0).maps,0)=_:=hS;rw [e1,e2];simp only [aD];unfold aIG;cases (List.range' 0 (2 ^ N)).find? P with
     |none=>exact ⟨emR,false,rfl,rfl,.inl ⟨rfl,rfl⟩⟩
     |some code=>exact ⟨wQ p q x (dgM (lXq q x) N code),true,rfl,rfl,.inr ⟨rfl,hr code,aLA hb X,trivial,rfl,rfl,rfl⟩⟩
    ·refine ⟨emR,false,?_,?_,.inl ⟨rfl,rfl⟩⟩
     ·rw [bG (by omega)];rfl
     ·rw [eO (r:= .inl ()) (by unfold gT;simp only;rw [eV (by omega),bA])];rfl
end
noncomputable section
set_option maxRecDepth 10000
set_option maxHeartbeats 4000000
def qA (x1:((List Int)×Int×Int)):Option (((List Int)×Int×Int) ⊕ ((List Int)×Int)):=
 bif decide (x1.2.2<((x1.1.length:Nat):Int)) then
 ((cZ x1.1 x1.2.2).bind λv2=>
 some (.inl ((x1.1.set x1.2.2.toNat x1.2.1),wr (x1.2.1+1),wr (x1.2.2+1))))
 else
 (some (.inr (x1.1,x1.2.1)))
def iT (a0:(List Int)) (a1:Int):Option ((List Int)×Int):=
 (Lp qA (a0,a1,0)).bind λy3=>
 some (y3.1,y3.2)
theorem qN (a0:(List Int)) (a1:Int) (r:((List Int)×Int)) (h:iT a0 a1=some r):HasE Tryz.prog 16 [.own 0 0 a0.length,.int a1] [(0,⟨1,a0.map (ow eI)⟩)] 1 (.int r.2) [(0,⟨1,r.1.map (ow eI)⟩)]:=by
 refine sD aB (rvs:=[.tmp 4]) (ns:=nmA.drop 1) Tryz.func16 k k Tryz.ntmps16 k k<|sR<|aT k2<|sQ<|sR<|aT k2<|aE<|oB h λy3 hy3 h=>cD (body:=qA) hy3 (λ(x1:((List Int)×Int×Int))=>mN [(0,.own 0 0 x1.1.length),(1,.int x1.2.1),(5,.int x1.2.2)] [(0,⟨1,x1.1.map (ow eI)⟩)] 1 1) (λr e t=>e= .exit 0∧Ent t (mN [(1,.int r.2)] [(0,⟨1,r.1.map (ow eI)⟩)] 1 1)) (bU (bK k2) (bN k<|aY) k4) ?_ ?_
 ·intro x1 o h;exact sQ<|sR<|am k k<|am k k<|ae (bX aB k k k k) k<|cm k4<|an<|tn<|dV k h (λ_ h=>aG<|tn<|sQ<|aE<|sR<|am k k<|am k k<|am k k<|oB h λv2 hv2 h=>ae (xo hv2 k) k<|ae (eZ aB kX (u:=x1.2.1) (dH hv2) k k k k k k) k<|an<|tn<|rg<|am k k<|ae (bF k k) k<|aa k k<|an<|aS<|tn<|rg<|am k k<|ae (bF k k) k<|aT k2<|sp h ⟨_,k,(bU (kP ⟨_,k,⟨k,k,(by simp only [aO,lA,lT,lR,lC,lN]),k⟩⟩ (bK k2)) (bN k<|aY) k4)⟩) λ_ h=>aU<|aC<|aC<|sp h ⟨_,k,k,(bU (bK k2) (bN k<|aY) k4)⟩
 ·rintro e t ⟨rfl,hent⟩;exact aL<|tn<|aP hent<|sR<|am k k<|aT k2<|aI<|sp h ⟨mN [(4,.int y3.2)] [(0,⟨1,y3.1.map (ow eI)⟩)] 1 1,(bU (bK k2) (bN k<|aY) k4),k,⟨_,k,.inl k⟩,⟨k,aY⟩⟩
def nM (a0:Qv) (a1:Int):Option ((List Int)×(List Int)×Int):=
 (iT a0.src a1).bind λv1=>
 bif decide (v1.1.length=a0.src.length) then
 ((iT a0.tgt v1.2).bind λv3=>
 bif decide (v3.1.length=a0.tgt.length) then
 (some (v1.1,v3.1,v3.2))
 else none)
 else none
theorem aAj (a0:Qv) (a1:Int) (r:((List Int)×(List Int)×Int)) (h:nM a0 a1=some r):HasE Tryz.prog 15 [.agg [.int a0.n,.own 0 0 a0.src.length,.own 1 0 a0.tgt.length],.int a1] [(0,⟨1,a0.src.map (ow eI)⟩),(1,⟨1,a0.tgt.map (ow eI)⟩)] 2 (.int r.2.2) [(0,⟨1,r.1.map (ow eI)⟩),(1,⟨1,r.2.1.map (ow eI)⟩)]:=by
 refine sD aB (rvs:=[.tmp 4]) (ns:=nmA.drop 2) Tryz.func15 k k Tryz.ntmps15 k k<|sR<|ae (wb k) k<|aT k2<|sR<|fp k8<|lp k8<|am k k<|oB h λv1 hv1 h=>ae (jQ (σ:=sg [(0,0)]) (σ':=sg [(0,0)]) (touch:=[0]) (news:=[]) (hl2:=[(0,⟨1,v1.1.map (ow eI)⟩)]) (n':=3) (r2:= .int v1.2) (qN a0.src a1 v1 hv1) k k ⟨_,_,k,⟨k,k,k,k⟩,⟨_,_,k,k,k⟩⟩ ⟨⟨_,k,k,.inl ⟨k,cS.plainO _⟩⟩,k,aY⟩ k k k ⟨⟨_,k,k,.inl ⟨k,cS.plainO _⟩⟩,k,aY⟩ k k k ⟨k,cS.tame _ _,aY⟩ k k) k<|cG h λq2 h=>aT k2<|sR<|fp k8<|lp k8<|am k k<|oB h λv3 hv3 h=>ae (jQ (σ:=sg [(0,1)]) (σ':=sg [(1,0)]) (touch:=[1]) (news:=[]) (hl2:=[(1,⟨1,v3.1.map (ow eI)⟩)]) (n':=3) (r2:= .int v3.2) (qN a0.tgt v1.2 v3 hv3) k k ⟨_,_,k,⟨k,k,k,k⟩,⟨_,_,k,k,k⟩⟩ ⟨⟨_,k,k,.inl ⟨k,cS.plainO _⟩⟩,k,aY⟩ k k k ⟨⟨_,k,k,.inl ⟨k,cS.plainO _⟩⟩,k,aY⟩ k k k ⟨k,cS.tame _ _,aY⟩ k k) k<|cG h λq4 h=>aT k2<|sR<|am k k<|aa k k<|an ?_;exact tn<|aI<|sp h ⟨mN [(4,.int v3.2)] [(0,⟨1,v1.1.map (ow eI)⟩),(1,⟨1,v3.1.map (ow eI)⟩)] 2 2,(bU (bK k2) (bN k<|bN k<|aY) k4),k,⟨_,k,.inl k⟩,⟨k,k,aY⟩⟩
def mR (x1:((List Mt)×Int×Int)):Option (((List Mt)×Int×Int) ⊕ ((List Mt)×Int)):=
 bif decide (x1.2.2<((x1.1.length:Nat):Int)) then
 ((cZ x1.1 x1.2.2).bind λv2=>
 (iT v2.cells (wr ((wr (x1.2.1+1))+1))).bind λv3=>
 bif decide (v3.1.length=v2.cells.length) then
 (some (.inl ((x1.1.set x1.2.2.toNat (⟨x1.2.1,wr (x1.2.1+1),v3.1⟩:Mt)),v3.2,wr (x1.2.2+1))))
 else none)
 else
 (some (.inr (x1.1,x1.2.1)))
def qB (a0:(List Mt)) (a1:Int):Option ((List Mt)×Int):=
 (Lp mR (a0,a1,0)).bind λy5=>
 some (y5.1,y5.2)
theorem aEA (a0:(List Mt)) (a1:Int) (r:((List Mt)×Int)) (h:qB a0 a1=some r):HasT Tryz.prog 41 [.own 0 0 a0.length,.int a1] [(0,⟨3,a0.map (ow eM)⟩)] 1 (.int r.2) [(0,⟨3,r.1.map (ow eM)⟩)]:=by
 refine aOc aB (rvs:=[.tmp 4]) (ns:=nmA.drop 1) Tryz.func41 k k Tryz.ntmps41 k k<|sS<|gV k2<|sn<|tn<|sQ<|sS<|gV k2<|sn<|tn<|aE<|oB h λy5 hy5 h=>cD (body:=mR) hy5 (λ(x1:((List Mt)×Int×Int))=>mN [(0,.own 0 0 x1.1.length),(1,.int x1.2.1),(5,.int x1.2.2)] [(0,⟨3,x1.1.map (ow eM)⟩)] 1 ⟨1,true,none,true⟩) (λr e t=>e= .exit 0∧Ent t (mN [(1,.int r.2)] [(0,⟨3,r.1.map (ow eM)⟩)] 1 ⟨1,true,none,true⟩)) (bU (bK k2) (cO (cI.plainO _) k<|aY) k4) ?_ ?_
 ·intro x1 o h;refine sQ<|sS<|eN k2<|eN k2<|se (bX aB k k k k) k<|cmS k4<|sn<|tn<|dV k h (λ_ h=>?_) λ_ h=>aU<|aC<|aC<|sp h ⟨_,k,k,(bU (bK k2) (cO (cI.plainO _) k<|aY) k4)⟩;refine aG<|tn<|sQ<|aE<|sS<|eN k2<|eN k2<|eN k2<|oB h λv2 hv2 h=>gY (t:=mN [(0,.own 0 0 x1.1.length),(1,.int x1.2.1),(5,.int x1.2.2),(6,.int x1.2.2),(7,.own 0 0 x1.1.length),(8,.int ((x1.1.length:Nat):Int)),(9,.bl (decide (x1.2.2<((x1.1.length:Nat):Int)))),(12,.own 0 0 x1.1.length),(13,.int x1.2.2),(14,.int x1.2.1)] [(0,⟨3,(x1.1.map (ow eM)).set x1.2.2.toNat [.int v2.rows,.int v2.cols,.abs 1 (v2.cells.map eI)]⟩)] 1 ⟨1,true,none,true⟩) (bU (bK k2) (hX ⟨_,k,k,.inl ⟨aAB (dH hv2),xD cI k⟩⟩ k<|aY) k4)<|gY (xE (b:=0) (c:=1) (i:=x1.2.2.toNat) (j:=2) (n:=v2.cells.length) (A:=x1.1.map (ow eM)) (fs:=v2.cells.map (ow eI)) (by rw [eW];exact iH hv2) k k k k (aO _ _) (gR _ _) (aAo ⟨k,k,k,k,k,k,k,k,k,k,aY⟩) (aAp (skip:=[]) ⟨.inr (cI.dfS _ _ _ k),aY⟩))<|gY (t:=mN [(0,.own 0 0 x1.1.length),(1,.int x1.2.1),(5,.int x1.2.2),(6,.int x1.2.2),(7,.own 0 0 x1.1.length),(8,.int ((x1.1.length:Nat):Int)),(9,.bl (decide (x1.2.2<((x1.1.length:Nat):Int)))),(12,.own 0 0 x1.1.length),(13,.int x1.2.2),(14,.int x1.2.1)] [(0,⟨3,(x1.1.map (ow eM)).set x1.2.2.toNat [.int v2.rows,.int v2.cols,.own 1 0 v2.cells.length]⟩),(1,⟨1,v2.cells.map (ow eI)⟩)] 2 ⟨1,true,none,true⟩) (fP (σ:=sg [(0,0),(1,1)]) (bK k2) (hX ⟨_,k,k,.inr (aAY (σ:=sg [(0,0),(1,1)]) (m:=2) (e:=eM) (l:=x1.1) (i:=x1.2.2.toNat) (c:=[.int v2.rows,.int v2.cols,.own 1 0 v2.cells.length]) (d:=[.int v2.rows,.int v2.cols,.own 1 0 v2.cells.length]) cI ⟨_,_,k,k,⟨_,_,k,k,⟨_,_,k,⟨k,k,k,k⟩,k⟩⟩⟩)⟩ k<|bN k<|aY) k)<|se (xo hv2 k) k<|fpS k8<|se (aHe aB (A:=x1.1.map (ow eM)) (by rw [eW];exact iH hv2) k k k k k k k) k<|sn<|tn<|sS<|eN k2<|se (bF k k) k<|gV k2<|sn<|tn<|sS<|eN k2<|eN k2<|eN k2 ?_;exact se (xo hv2 k) k<|fpS k8<|se (aHe aB (A:=x1.1.map (ow eM)) (by rw [eW];exact iH hv2) k k k k k k k) k<|sn<|tn<|sS<|eN k2<|se (bF k k) k<|gV k2<|sn<|tn<|rgS<|eN k2<|eN k2<|se (xo hv2 k) k<|fpS k8<|se (bZ aB k k k k (aDn (iH hv2)) k k) k<|eN k2<|oB h λv3 hv3 h=>se (jQ (σ:=sg [(0,1)]) (σ':=sg [(1,0)]) (touch:=[1]) (news:=[]) (hl2:=[(1,⟨1,v3.1.map (ow eI)⟩)]) (n':=2) (r2:= .int v3.2) (qN v2.cells (wr ((wr (x1.2.1+1))+1)) v3 hv3) k k ⟨_,_,k,⟨k,k,k,k⟩,⟨_,_,k,k,k⟩⟩ ⟨⟨_,k,k,.inl ⟨k,cS.plainO _⟩⟩,k,aY⟩ k k k ⟨⟨_,k,k,.inl ⟨k,cS.plainO _⟩⟩,k,aY⟩ k k k ⟨k,cS.tame _ _,aY⟩ k k) k<|cG h λq4 h=>gV k2<|sn<|aS<|tn<|rgS<|eN k2<|se (bF k k) k<|gV k2<|sn<|tn<|sp h ⟨_,k,(Ent.trans (show Ent _ (mN [(0,.own 0 0 ((x1.1.set x1.2.2.toNat (⟨x1.2.1,wr (x1.2.1+1),v3.1⟩:Mt)).length)),(1,.int v3.2),(5,.int (wr (x1.2.2+1)))] [(0,⟨3,List.map (ow eM) (x1.1.set x1.2.2.toNat (⟨x1.2.1,wr (x1.2.1+1),v3.1⟩:Mt))⟩)] 2 ⟨1,true,none,true⟩) from (Ent.trans (yA (b:=0) (b':=1) (j:=2) (es':=v3.1.map eI) (by rw [eW];exact iH hv2) k k k k (by simp only [aO,lA,lT,lR,lC,lN,of_decide_eq_true q4]) (cS.frzs _)) (bU (kP ⟨_,k,⟨k,k,(by simp only [aO,lA,lT,lR,lC,lN,of_decide_eq_true q4]),k⟩⟩ (bK k2)) (hX ⟨_,k,k,.inl ⟨aCV (⟨x1.2.1,wr (x1.2.1+1),v3.1⟩:Mt) k,cI.plainO _⟩⟩ k<|aY) k4))) (bU (bK k2) (cO (cI.plainO _) k<|aY) k4))⟩
 ·rintro e t ⟨rfl,hent⟩;exact aL<|tn<|aP hent<|sS<|eN k2<|gV k2<|sn<|tn<|aI<|sp h ⟨mN [(4,.int y5.2)] [(0,⟨3,y5.1.map (ow eM)⟩)] 1 ⟨1,true,none,true⟩,(bU (bK k2) (cO (cI.plainO _) k<|aY) k4),k,⟨_,k,.inl k⟩,⟨k,aY⟩⟩
def wN (a0:Rp) (a1:Int):Option ((List Int)×(List Int)×(List Int)×(List Mt)×Int):=
 (nM a0.q a1).bind λv1=>
 bif decide (v1.1.length=a0.q.src.length) then
 (bif decide (v1.2.1.length=a0.q.tgt.length) then
 ((iT a0.dims v1.2.2).bind λv4=>
 bif decide (v4.1.length=a0.dims.length) then
 ((qB a0.maps v4.2).bind λv6=>
 bif decide (v6.1.length=a0.maps.length) then
 (some (v1.1,v1.2.1,v4.1,v6.1,v6.2))
 else none)
 else none)
 else none)
 else none
theorem aIX (a0:Rp) (a1:Int) (r:((List Int)×(List Int)×(List Int)×(List Mt)×Int)) (h:wN a0 a1=some r):HasT Tryz.prog 17 [.agg [.int a0.p,.int a0.q.n,.own 0 0 a0.q.src.length,.own 1 0 a0.q.tgt.length,.own 2 0 a0.dims.length,.own 3 0 a0.maps.length],.int a1] [(0,⟨1,a0.q.src.map (ow eI)⟩),(1,⟨1,a0.q.tgt.map (ow eI)⟩),(2,⟨1,a0.dims.map (ow eI)⟩),(3,⟨3,a0.maps.map (ow eM)⟩)] 4 (.int r.2.2.2.2) [(0,⟨1,r.1.map (ow eI)⟩),(1,⟨1,r.2.1.map (ow eI)⟩),(2,⟨1,r.2.2.1.map (ow eI)⟩),(3,⟨3,r.2.2.2.1.map (ow eM)⟩)]:=by
 refine aOc aB (rvs:=[.tmp 4]) (ns:=nmA.drop 4) Tryz.func17 k k Tryz.ntmps17 k k<|sS<|se (wb k) k<|gV k2<|sn<|tn<|sS<|fpS k8<|yL k8<|eN k2<|oB h λv1 hv1 h=>se (jQ (σ:=sg [(0,0),(1,1)]) (σ':=sg [(0,0),(1,1)]) (touch:=[0,1]) (news:=[]) (hl2:=[(0,⟨1,v1.1.map (ow eI)⟩),(1,⟨1,v1.2.1.map (ow eI)⟩)]) (n':=5) (r2:= .int v1.2.2) (aAj a0.q a1 v1 hv1) k k ⟨_,_,k,⟨_,_,k,k,⟨_,_,k,⟨k,k,k,k⟩,⟨_,_,k,⟨k,k,k,k⟩,k⟩⟩⟩,⟨_,_,k,k,k⟩⟩ ⟨⟨_,k,k,.inl ⟨k,cS.plainO _⟩⟩,k,⟨_,k,k,.inl ⟨k,cS.plainO _⟩⟩,k,aY⟩ k k k ⟨⟨_,k,k,.inl ⟨k,cS.plainO _⟩⟩,k,⟨_,k,k,.inl ⟨k,cS.plainO _⟩⟩,k,aY⟩ k k k ⟨k,cS.tame _ _,⟨k,cS.tame _ _,aY⟩⟩ k k) k<|cG h λq2 h=>cG h λq3 h=>gV k2<|sn<|tn<|sS<|fpS k8<|yL k8<|eN k2<|oB h λv4 hv4 h=>se (jQ (σ:=sg [(0,2)]) (σ':=sg [(2,0)]) (touch:=[2]) (news:=[]) (hl2:=[(2,⟨1,v4.1.map (ow eI)⟩)]) (n':=5) (r2:= .int v4.2) (qN a0.dims v1.2.2 v4 hv4) k k ⟨_,_,k,⟨k,k,k,k⟩,⟨_,_,k,k,k⟩⟩ ⟨⟨_,k,k,.inl ⟨k,cS.plainO _⟩⟩,k,aY⟩ k k k ⟨⟨_,k,k,.inl ⟨k,cS.plainO _⟩⟩,k,aY⟩ k k k ⟨k,cS.tame _ _,aY⟩ k k) k<|cG h λq5 h=>gV k2<|sn<|tn<|sS<|fpS k8<|yL k8<|eN k2 ?_;exact oB h λv6 hv6 h=>gY (t:=mN [(0,.agg (oRp a0 0 1 2 3)),(1,.int v4.2),(2,.ptr 4 0 0),(4,.int 0),(5,.ptr 4 0 1),(6,.agg (oQv a0.q 0 1)),(7,.int a1),(8,.int v1.2.2),(9,.ptr 4 0 4),(10,.own 2 0 a0.dims.length),(11,.int v1.2.2),(12,.int v4.2),(13,.ptr 4 0 5),(14,.own 3 0 a0.maps.length),(15,.int v4.2)] [(0,⟨1,v1.1.map (ow eI)⟩),(1,⟨1,v1.2.1.map (ow eI)⟩),(2,⟨1,v4.1.map (ow eI)⟩),(3,⟨3,a0.maps.map (ow eM)⟩),(4,⟨6,[oRp a0 0 1 2 3]⟩)] 5 ⟨4,true,none,true⟩) (bU (bK k2) (bN k<|bN k<|bN k<|cO (cI.plainO _) k<|fB k<|aY) k4)<|aRD (σ:=sg [(0,3)]) (σ':=sg [(3,0)]) (touch:=[3]) (news:=[]) (hl2:=[(3,⟨3,v6.1.map (ow eM)⟩)]) (n':=5) (r2:= .int v6.2) (aEA a0.maps v4.2 v6 hv6) k k ⟨_,_,k,⟨k,k,k,k⟩,⟨_,_,k,k,k⟩⟩ ⟨⟨_,k,k,.inl ⟨k,cI.plainO _⟩⟩,k,aY⟩ k k k ⟨⟨_,k,k,.inl ⟨k,cI.plainO _⟩⟩,k,aY⟩ k k k ⟨k,cI.tame _ _,aY⟩ k k k k k (aAo ⟨k,k,k,k,k,k,k,k,k,k,k,k,k,k,k,aY⟩) (aAp (skip:=[3]) ⟨.inr (cS.df _ _),.inr (cS.df _ _),.inr (cS.df _ _),.inl (by decide),.inr (tK k),aY⟩)<|cG h λq7 h=>gV k2<|sn<|tn<|sS<|eN k2<|gV k2<|sn<|tn<|aI<|sp h ⟨mN [(4,.int v6.2)] [(0,⟨1,v1.1.map (ow eI)⟩),(1,⟨1,v1.2.1.map (ow eI)⟩),(2,⟨1,v4.1.map (ow eI)⟩),(3,⟨3,v6.1.map (ow eM)⟩)] 4 ⟨4,true,none,true⟩,(bU (bK k2) (bN k<|bN k<|bN k<|cO (cI.plainO _) k<|aY) k4),k,⟨_,k,.inl k⟩,⟨k,k,k,k,aY⟩⟩
def qC (a0:(List Int)) (x1:(Int×Int)):Option ((Int×Int) ⊕ (Int ⊕ Int)):=
 bif decide (x1.2<(a0.length:Int)) then
 ((cZ a0 x1.2).bind λv2=>
 bif !decide (v2=x1.1) then
 (some (.inr (.inr ((-1)))))
 else
 (some (.inl (wr (x1.1+1),wr (x1.2+1)))))
 else
 (some (.inr (.inl x1.1)))
def kO (a0:(List Int)) (a1:Int):Option Int:=
 (Lp (qC a0) (a1,0)).bind λy4=>
 Sum.elim (λy5=>
 some (y5)
 )
 (λy6=>
 some y6
 )
 y4
theorem vE (a0:(List Int)) (a1:Int) (r:Int) (h:kO a0 a1=some r):HasC Tryz.prog 23 [.list 1 (a0.map eI),.int a1] (.int r):=by
 refine hM [.tmp 4] Tryz.func23 Tryz.ntmps23 k<|sR<|aT k2<|sQ<|sR<|aT k2<|aE<|oB h λy4 hy4 h=>cD (body:=(qC a0)) hy4 (λ(x1:(Int×Int))=>mN [(0,.list 1 (a0.map eI)),(1,.int x1.1),(5,.int x1.2)] [] 0) (λr e t=>Sum.elim (λa=>(λr e t=>e= .exit 0∧Ent t (mN [(1,.int r)] [] 0)) a e t) (λb=>(λr e t=>e= .ret∧tI TT [.tmp 4] (.int r) .ret t) b e t) r) (bU (bK k2) aY k4) ?_ ?_
 ·intro x1 o h;exact sQ<|sR<|am k k<|am k k<|ln k4<|cm k4<|an<|tn<|dV k h (λ_ h=>aG<|tn<|sQ<|aE<|sQ<|sR<|am k k<|am k k<|oB h λv2 hv2 h=>ae (xl hv2 k) k<|lr k7<|am k k<|cm k4<|an<|tn<|dV k h (λ_ h=>sR<|aT k2<|aI<|aH<|bD<|aH<|aH<|sp h ⟨_,k,k,bT k k k (aAm k)⟩) λ_ h=>aG<|tn<|rg<|am k k<|ae (bF k k) k<|aa k k<|an<|aS<|tn<|rg<|am k k<|ae (bF k k) k<|aT k2<|sp h ⟨_,k,(bU (bK k2) aY k4)⟩) λ_ h=>aU<|aC<|aC<|sp h ⟨_,k,k,(bU (bK k2) aY k4)⟩
 ·intro e t hX;rcases y4 with y5|y6
  ·obtain ⟨rfl,hent⟩:=hX;exact aL<|tn<|aP hent<|sR<|am k k<|aT k2<|aI<|zV h k2
  ·obtain ⟨rfl,hent⟩:=hX;exact bD<|aH<|sp h hent
def rH (a0:Qv) (a1:Int):Option Int:=
 (kO a0.src a1).bind λv1=>
 bif decide (v1<0) then
 (some ((-1)))
 else
 ((kO a0.tgt v1).bind λv3=>
 bif decide (v3<0) then
 (some ((-1)))
 else
 (some (v3)))
theorem aEx (a0:Qv) (a1:Int) (r:Int) (h:rH a0 a1=some r):HasC Tryz.prog 42 [.agg (eQ a0),.int a1] (.int r):=by
 exact hM [.tmp 4] Tryz.func42 Tryz.ntmps42 k<|sR<|ae (wb k) k<|aT k2<|sR<|fp k8<|lp k8<|am k k<|oB h λv1 hv1 h=>ae (bB (vE a0.src a1 v1 hv1) k (dZ k (dZ k aV))) k<|aT k2<|sQ<|sR<|am k k<|cm k4<|an<|tn<|dV k h (λ_ h=>sR<|aT k2<|aI<|aH<|zV h k2) λ_ h=>aG<|tn<|sR<|fp k8<|lp k8<|am k k<|oB h λv3 hv3 h=>ae (bB (vE a0.tgt v1 v3 hv3) k (dZ k (dZ k aV))) k<|aT k2<|sQ<|sR<|am k k<|cm k4<|an<|tn<|dV k h (λ_ h=>sR<|aT k2<|aI<|aH<|zV h k2) λ_ h=>aG<|tn<|sR<|am k k<|aT k2<|aI<|zV h k2
def mS (a0:(List Mt)) (x1:(Int×Int)):Option ((Int×Int) ⊕ (Int ⊕ Int)):=
 bif decide (x1.2<(a0.length:Int)) then
 ((cZ a0 x1.2).bind λv2=>
 bif !decide (v2.rows=x1.1) then
 (some (.inr (.inr ((-1)))))
 else
 ((cZ a0 x1.2).bind λv4=>
 bif !decide (v4.cols=wr (x1.1+1)) then
 (some (.inr (.inr ((-1)))))
 else
 ((cZ a0 x1.2).bind λv6=>
 (kO v6.cells (wr ((wr (x1.1+1))+1))).bind λv7=>
 bif decide (v7<0) then
 (some (.inr (.inr ((-1)))))
 else
 (some (.inl (v7,wr (x1.2+1)))))))
 else
 (some (.inr (.inl x1.1)))
def qD (a0:(List Mt)) (a1:Int):Option Int:=
 (Lp (mS a0) (a1,0)).bind λy9=>
 Sum.elim (λy10=>
 some (y10)
 )
 (λy11=>
 some y11
 )
 y9
theorem aEB (a0:(List Mt)) (a1:Int) (r:Int) (h:qD a0 a1=some r):HasC Tryz.prog 43 [.list 3 (a0.map eM),.int a1] (.int r):=by
 refine hM [.tmp 4] Tryz.func43 Tryz.ntmps43 k<|sR<|aT k2<|sQ<|sR<|aT k2<|aE<|oB h λy9 hy9 h=>cD (body:=(mS a0)) hy9 (λ(x1:(Int×Int))=>mN [(0,.list 3 (a0.map eM)),(1,.int x1.1),(5,.int x1.2)] [] 0) (λr e t=>Sum.elim (λa=>(λr e t=>e= .exit 0∧Ent t (mN [(1,.int r)] [] 0)) a e t) (λb=>(λr e t=>e= .ret∧tI TT [.tmp 4] (.int r) .ret t) b e t) r) (bU (bK k2) aY k4) ?_ ?_
 ·intro x1 o h;refine sQ<|sR<|am k k<|am k k<|ln k4<|cm k4<|an<|tn<|dV k h (λ_ h=>?_) λ_ h=>aU<|aC<|aC<|sp h ⟨_,k,k,(bU (bK k2) aY k4)⟩;exact aG<|tn<|sQ<|aE<|sQ<|sR<|am k k<|am k k<|oB h λv2 hv2 h=>ae (xl hv2 k) k<|ae (cX aB k k k k k k) k<|lr k7<|am k k<|cm k4<|an<|tn<|dV k h (λ_ h=>sR<|aT k2<|aI<|aH<|bD<|aH<|aH<|sp h ⟨_,k,k,bT k k k (aAm k)⟩) λ_ h=>aG<|tn<|sR<|am k k<|ae (bF k k) k<|aT k2<|sQ<|sR<|am k k<|am k k<|oB h λv4 hv4 h=>ae (xl hv4 k) k<|ae (cX aB k k k k k k) k<|lr k7<|am k k<|cm k4<|an<|tn<|dV k h (λ_ h=>sR<|aT k2<|aI<|aH<|bD<|aH<|aH<|sp h ⟨_,k,k,bT k k k (aAm k)⟩) λ_ h=>aG<|tn<|sR<|am k k<|ae (bF k k) k<|aT k2<|aP (t:=mN [(0,.list 3 (a0.map eM)),(1,.int (wr ((wr (x1.1+1))+1))),(5,.int x1.2)] [] 0) (bU (bK k2) aY k4)<|sR<|am k k<|am k k<|oB h λv6 hv6 h=>ae (xl hv6 k) k<|ae (cX aB k k k k k k) k<|lr k7<|am k k<|oB h λv7 hv7 h=>ae (bB (vE v6.cells (wr ((wr (x1.1+1))+1)) v7 hv7) k (dZ k (dZ k aV))) k<|aT k2<|sR<|am k k<|cm k4<|an<|tn<|dV k h (λ_ h=>sR<|aT k2<|aI<|bD<|aH<|aH<|sp h ⟨_,k,k,bT k k k (aAm k)⟩) λ_ h=>aG<|aS<|tn<|rg<|am k k<|ae (bF k k) k<|aT k2<|sp h ⟨_,k,(bU (bK k2) aY k4)⟩
 ·intro e t hX;rcases y9 with y10|y11
  ·obtain ⟨rfl,hent⟩:=hX;exact aL<|tn<|aP hent<|sR<|am k k<|aT k2<|aI<|zV h k2
  ·obtain ⟨rfl,hent⟩:=hX;exact bD<|aH<|sp h hent
def pH (a0:Rp) (a1:Int):Option Int:=
 (rH a0.q a1).bind λv1=>
 bif decide (v1<0) then
 (some ((-1)))
 else
 ((kO a0.dims v1).bind λv3=>
 bif decide (v3<0) then
 (some ((-1)))
 else
 ((qD a0.maps v3).bind λv5=>
 bif decide (v5<0) then
 (some ((-1)))
 else
 (some (v5))))
theorem aCn (a0:Rp) (a1:Int) (r:Int) (h:pH a0 a1=some r):HasC Tryz.prog 18 [.agg (eR a0),.int a1] (.int r):=by
 exact hM [.tmp 4] Tryz.func18 Tryz.ntmps18 k<|sR<|ae (wb k) k<|aT k2<|sR<|fp k8<|lp k8<|am k k<|oB h λv1 hv1 h=>ae (bB (aEx a0.q a1 v1 hv1) k (aX (mW k) (dZ k aV))) k<|aT k2<|sQ<|sR<|am k k<|cm k4<|an<|tn<|dV k h (λ_ h=>sR<|aT k2<|aI<|aH<|zV h k2) λ_ h=>aG<|tn<|sR<|fp k8<|lp k8<|am k k<|oB h λv3 hv3 h=>ae (bB (vE a0.dims v1 v3 hv3) k (dZ k (dZ k aV))) k<|aT k2<|sQ<|sR<|am k k<|cm k4<|an<|tn<|dV k h (λ_ h=>sR<|aT k2<|aI<|aH<|zV h k2) λ_ h=>aG<|tn<|sR<|fp k8<|lp k8<|am k k<|oB h λv5 hv5 h=>ae (bB (aEB a0.maps v3 v5 hv5) k (dZ k (dZ k aV))) k<|aT k2<|sQ<|sR<|am k k<|cm k4<|an<|tn<|dV k h (λ_ h=>sR<|aT k2<|aP (t:=mN [(4,.int (-1))] [] 1) (bU (bK k2) aY k4)<|aI<|aH<|zV h k2) λ_ h=>aG<|tn<|sR<|am k k<|aT k2<|aI<|zV h k2
end
noncomputable section
def nvS {α:Type} (nv:α→Nat):List α→Nat
 | []=>0
 |x::l=>nv x+nvS nv l
def mvS {α:Type} (mv:Int→α→α) (nv:α→Nat):Int→List α→List α
 |_,[]=>[]
 |k,x::l=>mv k x::mvS mv nv (k+nv x) l
section
variable {α:Type} {mv:Int→α→α} {nv:α→Nat}
theorem xW: ∀ (l:List α) (k:Int),(mvS mv nv k l).length=l.length
 | [],_=>rfl
 |x::l,k=>by simp [mvS,xW l]
theorem aLC: ∀ (l m:List α),nvS nv (l++m)=nvS nv l+nvS nv m
 | [],m=>by simp [nvS]
 |x::l,m=>by simp [nvS,aLC l m];omega
theorem aLD: ∀ (l m:List α) (k:Int),mvS mv nv k (l++m)=mvS mv nv k l++mvS mv nv (k+nvS nv l) m
 | [],m,k=>by simp [mvS,nvS]
 |x::l,m,k=>by
  simp only [List.cons_append,mvS,nvS,aLD l m];rw [show k+((nv x+nvS nv l:Nat):Int)=k+(nv x:Int)+(nvS nv l:Int) by omega]
theorem aEy {l:List α} {i:Nat} (hi:i<l.length):nvS nv (l.take (i+1))=nvS nv (l.take i)+nv l[i]:=by
 rw [aCB hi,aLC];simp [nvS]
theorem aGP (l:List α) (i:Nat):nvS nv (l.take i)≤nvS nv l:=by
 have h:nvS nv (l.take i++l.drop i)=nvS nv l:=by rw [List.take_append_drop]
 rw [aLC] at h;omega
theorem aSL {c:Nat} : ∀ {l:List α},(∀ x∈l,nv x≤c)→nvS nv l≤c*l.length
 | [],_=>by simp [nvS]
 |x::l,h=>by
  have h1:=h x (by simp);have h2:=aSL (l:=l) λy hy=>h y (by simp [hy]);simp only [nvS,List.length_cons,Nat.mul_add,Nat.mul_one];omega
theorem aPH {l:List α} {k:Int} {i:Nat} (hi:i<l.length):(mvS mv nv k l)[i]? =some (mv (k+nvS nv (l.take i)) l[i]):=by
 have e:l=l.take i++l[i]::l.drop (i+1):=by rw [←List.drop_eq_getElem_cons hi,List.take_append_drop]
 have e2:mvS mv nv k l=mvS mv nv k (l.take i)++mvS mv nv (k+nvS nv (l.take i)) (l[i]::l.drop (i+1)):=by rw [←aLD,←e]
 rw [e2,List.getElem?_append_right (by rw [xW];simp;omega),xW];simp [mvS,Nat.min_eq_left (Nat.le_of_lt hi)]
theorem aJr {l:List α} {k0:Int} {body:List α×Int×Int→Option ((List α×Int×Int) ⊕ (List α×Int))} (h0:0≤k0) (hk:k0+nvS nv l≤4611686018427387904) (hl:l.length≤4611686018427387904)
  (hs: ∀ (r:List α) (i:Nat) (k:Int) (hi:i<r.length),r[i]∈l→0≤k→k+nv r[i]≤4611686018427387904→body (r,k,i)=some (.inl (r.set i (mv k r[i]),k+nv r[i],wr (i+1)))) (he: ∀ r k,body (r,k,(r.length:Int))=some (.inr (r,k))):
  Lp body (l,k0,0)=some (mvS mv nv k0 l,k0+nvS nv l):=by
 rw [dR (r:=(mvS mv nv k0 l,k0+nvS nv l)) (λi=>(mvS mv nv k0 (l.take i)++l.drop i,k0+nvS nv (l.take i),(i:Int))) l.length (by simp [mvS,nvS]) (λi hi=>?_) (λ_=>?_)]
 ·have hm:(mvS mv nv k0 (l.take i)).length=i:=by rw [xW];simp;omega
  have hg:(mvS mv nv k0 (l.take i)++l.drop i)[i]'(by simp [xW];omega)=l[i]:=by
   rw [List.getElem_append_right (by omega)];simp [hm]
  have hb:=aGP (nv:=nv) l (i+1);rw [aEy hi] at hb;rw [hs _ i _ (by simp [xW];omega) (by rw [hg];exact List.getElem_mem hi) (by omega) (by rw [hg];omega),hg,bW hi hl];congr 2;refine Prod.ext ?_ (Prod.ext ?_ rfl)
  ·simp only;rw [List.set_append_right _ _ (by omega),hm,Nat.sub_self,List.drop_eq_getElem_cons hi,List.set_cons_zero,aCB hi,aLD];simp [mvS]
  ·simp only;rw [aEy hi];omega
 ·have:=he (mvS mv nv k0 (l.take l.length)++l.drop l.length) (k0+nvS nv (l.take l.length));simp only [List.take_length,List.drop_length,List.append_nil,xW] at this ⊢;exact this
theorem aJs {l:List α} {k0:Int} {body:Int×Int→Option ((Int×Int) ⊕ (Int ⊕ Int))} (h0:0≤k0) (hk:k0+nvS nv l≤4611686018427387904) (hl:l.length≤4611686018427387904)
  (hs: ∀ (i:Nat) (hi:i<l.length) (k:Int),k=k0+nvS nv (l.take i)→0≤k→k+nv l[i]≤4611686018427387904→body (k,i)=some (.inl (k+nv l[i],wr (i+1)))) (he: ∀ k,body (k,(l.length:Int))=some (.inr (.inl k))):
  Lp body (k0,0)=some (.inl (k0+nvS nv l)):=by
 rw [dR (r:=Sum.inl (k0+nvS nv l)) (λi=>(k0+nvS nv (l.take i),(i:Int))) l.length (by simp [nvS]) (λi hi=>?_) (λ_=>?_)]
 ·have hb:=aGP (nv:=nv) l (i+1);rw [aEy hi] at hb;rw [hs i hi _ rfl (by omega) (by omega),bW hi hl,aEy hi];congr 3;omega
 ·rw [he];simp
end
def nI (l:List Int):Nat:=nvS (λ_=>1) l
def mvI:Int→List Int→List Int:=mvS (λk _=>k) (λ_=>1)
theorem aAx: ∀ l:List Int,nI l=l.length
 | []=>rfl
 |x::l=>by have:=aAx l;simp only [nI] at this;simp only [nI,nvS,List.length_cons];omega
theorem wO (k:Int) (l:List Int):(mvI k l).length=l.length:=xW l k
theorem aOG {k:Int} {n:Nat} (h:0≤k):decide (k+(n:Int)<0)=false:=eV (by omega)
theorem aSM {l:List Int} {k:Int} (h0:0≤k) (hk:k+nI l≤4611686018427387904):iT l k=some (mvI k l,k+nI l):=by
 have hl:=aAx l;unfold iT;rw [aJr (mv:=λk _=>k) (nv:=λ_=>1) h0 hk (by omega) (λr i k hi _ g0 g1=>?_) (λr k=>?_),aD]
 ·rfl
 ·unfold qA;simp only;rw [iV hi,aN,eH hi,aD,dE,dB (x:=k+1) (by omega)];simp
 ·unfold qA;simp only;rw [jZ (bP _),bA]
theorem aTS {l:List Int} {k:Int} (h0:0≤k) (hk:k+nI l≤4611686018427387904):kO (mvI k l) k=some (k+nI l):=by
 have hl:=aAx l;have hm:=wO k l;unfold kO;rw [aJs (l:=l) (nv:=λ_=>1) h0 hk (by omega) (λi hi k' e g0 g1=>?_) (λk'=>?_),aD]
 ·rfl
 ·unfold qC;simp only;have hg:(mvI k l)[i]? =some k':=by unfold mvI;rw [aPH hi,e]
  rw [hm,iV hi,aN,eH (by omega),aD];have hg':(mvI k l)[i]'(by omega)=k':=by rw [iE (by omega)] at hg;exact Option.some.inj hg
  rw [hg',bG rfl,iX,bA,dB (x:=k'+1) (by omega)];simp
 ·unfold qC;simp only;rw [hm,jZ (bP _),bA]
theorem aUm {α:Type} {l:List α} {i:Nat} {v:α} (h:l[i]? =some v) (hi:i<l.length):l[i]=v:=by rw [iE hi] at h;exact Option.some.inj h
def nQ (q:Qv):Nat:=nI q.src+nI q.tgt
def mvQ (k:Int) (q:Qv):Qv:=⟨q.n,mvI k q.src,mvI (k+nI q.src) q.tgt⟩
theorem aVY {q:Qv} {k:Int} (h0:0≤k) (hk:k+nQ q≤4611686018427387904):nM q k=some ((mvQ k q).src,(mvQ k q).tgt,k+nQ q):=by
 unfold nQ at hk;unfold nM;rw [aSM h0 (by omega),aD,wO,bG rfl,aN,aSM (by omega) (by omega),aD,wO,bG rfl,aN];unfold mvQ nQ;congr 3;omega
theorem aWC {q:Qv} {k:Int} (h0:0≤k) (hk:k+nQ q≤4611686018427387904):rH (mvQ k q) k=some (k+nQ q):=by
 unfold nQ at hk;unfold rH mvQ;simp only;rw [aTS h0 (by omega),aD,aOG h0,bA,aTS (by omega) (by omega),aD,aOG (by omega),bA];unfold nQ;congr 1;omega
def nMe (m:Mt):Nat:=2+nI m.cells
def aSO (k:Int) (m:Mt):Mt:=⟨k,k+1,mvI (k+2) m.cells⟩
def nMs:List Mt→Nat:=nvS nMe
def aQO:Int→List Mt→List Mt:=mvS aSO nMe
theorem aMo (k:Int) (l:List Mt):(aQO k l).length=l.length:=xW l k
theorem aVZ {l:List Mt} {k:Int} (h0:0≤k) (hk:k+nMs l≤4611686018427387904) (hl:l.length≤4611686018427387904):qB l k=some (aQO k l,k+nMs l):=by
 unfold qB;rw [aJr (mv:=aSO) (nv:=nMe) h0 hk hl (λr i k hi hm g0 g1=>?_) (λr k=>?_),aD]
 ·rfl
 ·unfold nMe at g1;unfold mR;simp only;rw [iV hi,aN,eH hi,aD,dB (x:=k+1) (by omega),dB (x:=k+1+1) (by omega),show k+1+1=k+2 by omega,aSM (by omega) (by omega),aD,wO,bG rfl,aN,dE];unfold aSO nMe;congr 4;omega
 ·unfold mR;simp only;rw [jZ (bP _),bA]
theorem aVa {l:List Mt} {k:Int} (h0:0≤k) (hk:k+nMs l≤4611686018427387904) (hl:l.length≤4611686018427387904):qD (aQO k l) k=some (k+nMs l):=by
 have hm:(aQO k l).length=l.length:=xW l k;unfold qD;rw [aJs (l:=l) (nv:=nMe) h0 hk hl (λi hi k' e g0 g1=>?_) (λk'=>?_),aD]
 ·rfl
 ·unfold nMe at g1;unfold mS;simp only;rw [hm,iV hi,aN,eH (by omega),aD,aUm (v:=aSO k' l[i]) (by unfold aQO;rw [aPH hi,e]) (by omega)];unfold aSO;simp only [decide_true,iX,bA,aD,dB (x:=k'+1) (by omega)];rw [dB (x:=k'+1+1) (by omega),show k'+1+1=k'+2 by omega,aTS (by omega) (by omega),aD,aOG (by omega),bA];unfold nMe;congr 3;omega
 ·unfold mS;simp only;rw [hm,jZ (bP _),bA]
def nR (r:Rp):Nat:=nQ r.q+nI r.dims+nMs r.maps
def mvR (k:Int) (r:Rp):Rp:=⟨r.p,mvQ k r.q,mvI (k+nQ r.q) r.dims,aQO (k+nQ r.q+nI r.dims) r.maps⟩
theorem aWD {r:Rp} {k:Int} (h0:0≤k) (hk:k+nR r≤4611686018427387904) (hl:r.maps.length≤4611686018427387904):wN r k=some ((mvR k r).q.src,(mvR k r).q.tgt,(mvR k r).dims,(mvR k r).maps,k+nR r):=by
 unfold nR at hk;unfold wN;rw [aVY h0 (by omega),aD];simp only [mvQ,wO,decide_true,aN];rw [aSM (by omega) (by omega),aD];simp only [wO,decide_true,aN];rw [aVZ (by omega) (by omega) hl,aD];simp only [aMo,decide_true,aN];unfold mvR nR;congr 5;omega
theorem aWE {r:Rp} {k:Int} (h0:0≤k) (hk:k+nR r≤4611686018427387904) (hl:r.maps.length≤4611686018427387904):pH (mvR k r) k=some (k+nR r):=by
 unfold nR at hk;unfold pH mvR;simp only;rw [aWC h0 (by omega),aD,aOG h0,bA,aTS (by omega) (by omega),aD,aOG (by omega),bA,aVa (by omega) (by omega) hl,aD,aOG (by omega),bA];unfold nR;congr 1;omega
theorem aTT (k:Int) (r:Rp):(mvR k r).q.src.length=r.q.src.length∧(mvR k r).q.tgt.length=r.q.tgt.length∧(mvR k r).dims.length=r.dims.length∧(mvR k r).maps.length=r.maps.length:=⟨wO _ _,wO _ _,wO _ _,aMo _ _⟩
theorem aUo {l:List Mt} (h:l.length≤1048576∧ ∀ m∈l,bM m):nMs l≤2097152*1048576:=by
 have:=aSL (nv:=nMe) (c:=2097152) (l:=l) λm hm=>by have:=(h.2 m hm).1;unfold bI at this;unfold nMe;rw [aAx];omega
 unfold nMs
 calc nvS nMe l≤2097152*l.length:=this
  _≤2097152*1048576:=Nat.mul_le_mul_left _ h.1
theorem aVb {r:Rp} (h:bR r):nR r≤4398046511104:=by
 obtain ⟨⟨h1,h2,_⟩,h3,h4,_⟩:=h;have:=aUo h4;unfold bI at h1 h2 h3;unfold nR nQ;rw [aAx,aAx,aAx];omega
end
noncomputable section
theorem aTU (p:Int) {q:Qv} (hb:bQ q): ∃ L b,jK p q=some (L,b)∧jL p q=some (L,b)∧L.length≤20∧(∀ r∈L,bR r)∧(b=true→ ∃ R,fN q=some (R,true)∧L.length=R.length∧(∀ (i:Nat) (h:i<L.length),R[i]? =some L[i].dims)∧ ∀ r∈L,qJ r=true∧r.p=p∧r.q=q):=by
 obtain ⟨R,b,h1,h2,h3⟩:=aSC hb;unfold jK jL;rw [h1,h2];simp only [aD];rcases h3 with ⟨rfl,rfl⟩|⟨rfl,n,H,rfl⟩
 ·refine ⟨[],false,rfl,?_,by simp,by simp,λh=>by cases h⟩;rw [eO (r:= .inl []) rfl];rfl
 ·have hl:=aIU H
  have hrow: ∀ x∈nU q n,bI x:=λx hx=>by
   have:=(H.vec ((xN H x).1 hx)).1.1;show x.length≤1048576;omega
  have key: ∀ (d i:Nat) (acc:List Rp),i+d=(nU q n).length→acc.length=i→(∀ r∈acc,bR r∧qJ r=true∧r.p=p∧r.q=q)→(∀ (j:Nat) (h:j<acc.length),(nU q n)[j]? =some acc[j].dims)→(i=0∨zG p=true)→
    ∃ (L:List Rp) (b:Bool),Lp (fE p q (nU q n,true)) (acc,(i:Int))=some (bif b then .inl L else .inr ([],false))∧Lp (fF p q (nU q n,true)) (acc,(i:Int))=some (bif b then .inl L else .inr ([],false))∧(b=true→L.length=(nU q n).length∧(∀ r∈L,bR r∧qJ r=true∧r.p=p∧r.q=q)∧((nU q n).length=0∨zG p=true)∧ ∀ (j:Nat) (h:j<L.length),(nU q n)[j]? =some L[j].dims):=by
   intro d;induction d with
   |zero=>
    intro i acc hi ha hr hd hF;refine ⟨acc,true,eO ?_,eO ?_,λ_=>⟨by omega,hr,?_,hd⟩⟩
    ·unfold fE;simp only;rw [jZ (by omega),bA];rfl
    ·unfold fF;simp only;rw [jZ (by omega),bA];rfl
    ·rcases hF with hF|hF
     ·exact .inl (by omega)
     ·exact .inr hF
   |succ d ih=>
    intro i acc hi ha hr hd hF;have hil:i<(nU q n).length:=by omega
    obtain ⟨r,b,e1,e2,e3⟩:=aQN p hb (hrow _ (List.getElem_mem hil))
    have b1:fE p q (nU q n,true) (acc,(i:Int))=some (bif b then .inl (acc++[r],((i+1:Nat):Int)) else .inr (.inr ([],false))):=by
     unfold fE;simp only;rw [iV hil,aN,eH hil,aD,e1,aD];cases b with
     |false=>rfl
     |true=>rw [iX,bA,bG (by omega),aN,bW hil (by omega)];rfl
    have b2:fF p q (nU q n,true) (acc,(i:Int))=some (bif b then .inl (acc++[r],((i+1:Nat):Int)) else .inr (.inr ([],false))):=by
     unfold fF;simp only;rw [iV hil,aN,aN,eH hil,aD,e2,aD];cases b with
     |false=>rfl
     |true=>rw [iX,bA,bG (by omega),aN,bW hil (by omega)];rfl
    rcases e3 with ⟨rfl,rfl⟩|⟨rfl,hvr,hbr,hF2,hdm,hpp,hqq⟩
    ·exact ⟨[],false,eO b1,eO b2,λh=>by cases h⟩
    ·obtain ⟨L,c,g1,g2,g3⟩:=ih (i+1) (acc++[r]) (by omega) (by simp;omega) (λy hy=>by
      rcases eB.1 hy with hy|hy
      ·exact hr y hy
      ·rcases List.mem_singleton.1 hy with rfl;exact ⟨hbr,hvr,hpp,hqq⟩) (λj hj=>by
      rcases eD j acc.length with h'|h'
      ·rw [List.getElem_append_left h'];exact hd j h'
      ·have:j=i:=by simp at hj;omega
       subst this;rw [List.getElem_append_right h',iE hil]
       simp [hdm]) (.inr hF2)
     exact ⟨L,c,(jX b1).trans g1,(jX b2).trans g2,g3⟩
  obtain ⟨L,c,g1,g2,g3⟩:=key (nU q n).length 0 [] (Nat.zero_add _) rfl (λr hr=>by cases hr) (λj hj=>by cases hj) (.inl rfl);rw [show ((0:Nat):Int)=0 from rfl] at g1 g2;rw [g1,g2];simp only [aD,iX,bA,aN];cases c with
  |false=>exact ⟨[],false,rfl,rfl,by simp,by simp,λh=>by cases h⟩
  |true=>
   obtain ⟨k1,k2,k3,k4⟩:=g3 rfl
   have hne:(nU q n).length ≠0:=by
    have:=(xN H _).2 (aFm H (v:=0) H.Q.n1);intro h0;rw [List.length_eq_zero_iff.1 h0] at this;cases this
   have hF:zG p=true:=k3.resolve_left hne;refine ⟨L,true,rfl,?_,by omega,λr hr=>(k2 r hr).1,λ_=>⟨nU q n,rfl,k1,k4,λr hr=>(k2 r hr).2⟩⟩;simp only [aN,Sum.elim_inl];rw [aEf,hF];rfl
end
noncomputable section
def aEz:AV→Bool
 | .sc _=>true
 | .nil _=>true
 | .list _ _=>true
 | .ref _=>true
 |_=>false
theorem aMp {w:World} {h:Hp} {u:Us} {ν:Nu} : ∀ {cs:List AV} {vs:List Value} {S:List Nat},CellsRep w h u ν cs vs S→cs.all aEz=true→S=[]∧All2 (Rep1 w h u ν) cs vs
 | [],vs,S,r,_=>⟨r.2,r.1⟩
 |c::cs,vs,S,⟨v,q,S1,S2,e1,e2,h3,h4⟩,hp=>by
  simp only [List.all_cons,dK] at hp;obtain ⟨g1,g2⟩:=aMp h4 hp.2
  have hc:Rep1 w h u ν c v∧S1=[]:=by
   cases c <;> simp only [aEz,fU,false_and] at hp <;> exact h3
  refine ⟨by rw [e2,g1,hc.2];rfl,v,q,e1,hc.1,g2⟩
theorem aMq {w:World} {h:Hp} {u:Us} {ν:Nu} : ∀ {cs:List AV} {vs:List Value},All2 (Rep1 w h u ν) cs vs→cs.all aEz=true→CellsRep w h u ν cs vs []
 | [],vs,r,_=>⟨r,rfl⟩
 |c::cs,vs,⟨v,q,e1,h3,h4⟩,hp=>by
  simp only [List.all_cons,dK] at hp;refine ⟨v,q,[],[],e1,rfl,?_,aMq h4 hp.2⟩;cases c <;> simp only [aEz,fU,false_and] at hp <;> exact ⟨h3,rfl⟩
theorem aSP {w:World} {h:Hp} {u:Us} {ν:Nu} : ∀ {cs:List AV} {vs:List Value},All2 (Rep1 w h u ν) cs vs→cs.all aEz=true→ ∀ v∈vs,v.oneCell'=true
 | [],vs,r,_=>by rw [show vs=[] from r];simp
 |c::cs,vs,⟨v,q,e1,h3,h4⟩,hp=>by
  simp only [List.all_cons,dK] at hp;intro x hx;rw [e1] at hx;rcases eC.1 hx with rfl|hx
  ·cases c <;> simp only [aEz,fU,false_and] at hp <;> exact h3.oneCell (by simp) (by simp) (by simp)
  ·exact aSP h4 hp.2 x hx
theorem aJt {hp:Hp} {cs:List AV} (h:cs.all aEz=true):cs.all (okCell hp)=true:=by
 rw [List.all_eq_true] at h ⊢;intro c hc;have:=h c hc;cases c <;> simp only [aEz,fU] at this <;> rfl
theorem aDJ {α:Type} {k:Nat} {es:List (List α)} (h: ∀ c∈es,c.length=k) (n:Nat):(es.take n).flatten=es.flatten.take (n*k):=by
 have:=wV h 0 n;simpa using this
theorem aFo {α:Type} {k:Nat} : ∀ {es:List (List α)} (_: ∀ c∈es,c.length=k) (i:Nat),(es.drop i).flatten=es.flatten.drop (i*k)
 | [],_,i=>by simp
 |c::es,hk,0=>by simp
 |c::es,hk,i+1=>by
  have hc:=hk c (by simp);have ih:=aFo (es:=es) (λx hx=>hk x (by simp [hx])) i;have t2:c.drop ((i+1)*k)=[]:=List.drop_eq_nil_of_le (by rw [hc,Nat.add_mul];omega);rw [List.drop_succ_cons,ih,List.flatten_cons,List.drop_append,t2,List.nil_append,hc,show (i+1)*k - k=i*k by rw [Nat.add_mul];omega]
theorem aSQ {α:Type} (A V:List α) (E I M:Nat) (hA:E≤A.length) (hV:V.length=M) (h:I+M≤E):(A.take I++V++A.drop (I+M)).take E=(A.take E).take I++V++(A.take E).drop (I+M):=by
 have e1:(A.take I).length=I:=by rw [List.length_take];omega
 rw [List.take_append,List.take_append,List.take_take,List.take_take,List.drop_take,List.length_append,e1,hV,Nat.min_eq_right (show I≤E by omega),Nat.min_eq_left (show I≤E by omega),List.take_of_length_le (show V.length≤E - I by omega)]
theorem aJu {a b:List AV} (ha: ∀ c∈a,qF c=true) (hb: ∀ c∈b,qF c=true) (n m:Nat):yZ (List.replicate n a++List.replicate m b):=by
 intro cs hcs c hc;rcases eB.1 hcs with h|h
 ·rw [(List.mem_replicate.1 h).2] at hc;exact ha c hc
 ·rw [(List.mem_replicate.1 h).2] at hc;exact hb c hc
theorem aOI {P:Program} (w:World) (dT sT ty elem:TypeId) (g o dLen dCap:Nat) (a:Addr) (sLen sCap:Nat) (cur:Array Value) (t:TypeId) (cs:List Value) (k:Nat)
  (hu:P.underlying dT=some (.slice elem)) (hs:(P.info? elem).map (·.size)=some k)
  (hg:w.heap[g]? =some (.cells cur t (0,0))) (hn:cs.length=Nat.min sLen dLen*k)
  (hsrc: ∀ j v,cs[j]? =some v→w.cell? (a.add j)=some v) (hfit:o+cs.length≤cur.size) (h1: ∀ v∈cs,v.oneCell'=true):
  (Builtin.copy_ #[dT,sT] ty #[.slice (some ⟨g,o,none⟩) dLen dCap,.slice (some a) sLen sCap]).run P w=
   .ok (goInt (Nat.min sLen dLen)) (w.setRow g (cur.toList.take o++cs++cur.toList.drop (o+cs.length)).toArray):=by
 have hl:=run_loadCells_list (P:=P) w a cs hsrc;have hst:=run_storeCells_at P g o t cs 0 cur w hg (by simpa using hfit) h1;cases hq:P.info? elem with
 |none=>simp [hq] at hs
 |some i=>
  have hi:i.size=k:=by simpa [hq] using hs
  simp [Builtin.copy_,run_underlying hu,Builtin.lenOf,Builtin.firstCells,sizeOf,typeInfo,hq,hi,←hn,hl,hst]
theorem aPI {P:Program} {T:List (Nat×Ty)} (hT:TyOk P T) {dst:Option Tmp} {dty:TypeId} {pos:String} {aft:Array Edge} {g:Option (Nat×Bool)} {s:AState} {xd xs:Operand} {t et:Nat} {y ye:Ty} {b i nd k m:Nat} {es news:List (List AV)} {sv:AV} {ts:List Nat}
  (hm:min news.length nd=m) (h0:0<m) (hk0:0<k) (hx:s.ev xd=some (.own b i nd)) (hb:s.heap b=some ⟨k,es⟩) (hz:s.ev xs=some sv) (hsrc:rO s.heap sv=some (k,news,ts)) (hpe:es.flatten.all aEz=true) (hpn:news.flatten.all aEz=true) (hy:dO T t=some y) (hd:y.desc= .slice et) (hye:dO T et=some ye) (hk1:ye.size=k):
  AEff P ⟨dst,.call ⟨.builtin .copy,#[xd,xs],#[t,t]⟩,dty,pos,aft,g⟩ s.ev s.heap s.kp ⟨.int (m:Nat),b::ts,[(b,some ⟨k,es.take i++news.take m++es.drop (i+m)⟩)],[]⟩:=by
 refine ⟨λC s' ν a w Q K {hκ} hi' ht hnw hd' hs hK=>?_⟩;have h1:=hs.ev ((hi' xd (by simp [Op.operands,Call.operands])).trans hx);have h2:=hs.ev ((hi' xs (by simp [Op.operands,Call.operands])).trans hz);have hb':s'.heap b=some ⟨k,es⟩:=(ht b (by simp)).trans hb;obtain ⟨ao,c0,vs,e1,e2,e3,e4,e5⟩:=hs.src h2 hsrc (λb hb=>ht b (by simp [hb])) (aJt hpn);simp only [RepA,RepB,Rep1] at h1;obtain ⟨hfit,hnn,hsl⟩:=h1.2 _ hb';simp only at hfit;obtain ⟨φ,hh⟩:=hs.heap;obtain ⟨hub,⟨hk,hx2⟩,hnd,hB⟩:=hh.blk b _ hb';simp only at hk hx2;rcases hx2 with ⟨q1,q2,_⟩|⟨β,c,arr,ty',T',vs',q1,q2,q3,q4,q5,q6,q7,q8⟩
 ·rw [q2] at hfit;simp at hfit;omega
 obtain ⟨hT',hv'⟩:=aMp q8 hpe;subst hT';have hsl':=(hsl β c q1).pos (by omega);simp only at hsl';have hmn:m≤news.length:=by omega
 have hmd:m≤nd:=by omega
 obtain ⟨i1,z1,d1,y1⟩:=hT.is hy;obtain ⟨i2,z2,d2,y2⟩:=hT.is hye
 obtain ⟨ad,rfl,e6⟩: ∃ ad,ao=some ad∧ ∀ j u,vs[j]? =some u→w.cell? (ad.add j)=some u:=by
  rcases e5 with h|h
  ·omega
  ·exact h
 have hle:m*k≤news.length*k:=Nat.mul_le_mul_right k hmn;have hle2:(i+m)*k≤es.length*k:=Nat.mul_le_mul_right k (by omega);have hle3:es.length*k≤c*k:=Nat.mul_le_mul_right k q4;rw [Nat.add_mul] at hle2;have hcl:(vs.take (m*k)).length=m*k:=by rw [List.length_take];omega
 have hmin:Nat.min news.length nd=m:=hm
 have hrun:=aOI (P:=P) w t t dty et β (i*k) nd (c - i) ad news.length c0 arr ty' (vs.take (m*k)) k (y1.slice hd) (by rw [y2.info];simp [y2.size,hk1]) q2 (by rw [hcl,hmin])
  (λj v hj=>e6 j v (by
   have hjk:j<m*k:=by have:=(List.getElem?_eq_some_iff.1 hj).1;omega
   rwa [List.getElem?_take_of_lt hjk] at hj)) (by rw [hcl];omega) (λv hv=>aSP e4 hpn v (List.mem_of_mem_take hv))
 rw [hcl,hmin] at hrun;generalize hw':w.setRow β (arr.toList.take (i*k)++vs.take (m*k)++arr.toList.drop (i*k+m*k)).toArray=w' at hrun
 have hexec:(execOp a.eval ⟨dst,.call ⟨.builtin .copy,#[xd,xs],#[t,t]⟩,dty,pos,aft,g⟩).run P w= .ok (.value (.int .i64 m)) w':=by
  have h0:execOp a.eval ⟨dst,.call ⟨.builtin .copy,#[xd,xs],#[t,t]⟩,dty,pos,aft,g⟩=(do let v ←Builtin.copy_ #[t,t] dty #[a.eval xd,a.eval xs];pure (.value v):Sem Next):=by
   simp [execOp,resolve,invoke,builtin]
  rw [h0,hsl',e1,Sem.run_bind,hrun];simp [goInt]
 unfold Oper.wp;rw [hexec];simp only [Oper.upon];have hothers: ∀ x,x≠β→w'.heap[x]? =w.heap[x]? :=λx hx=>by rw [←hw'];exact oP hx
 have hβ:w'.heap[β]? =some (.cells (arr.toList.take (i*k)++vs.take (m*k)++arr.toList.drop (i*k+m*k)).toArray ty' (0,0)):=by rw [←hw'];exact setRow_heap w β arr _ ty' (0,0) q2
 obtain ⟨es',hes'⟩: ∃ es',es'=es.take i++news.take m++es.drop (i+m):=⟨_,rfl⟩;have hll:es'.length=es.length:=by rw [hes'];simp;omega
 rw [←hes'] at hK
 have ext:Ext w s'.heap s'.used ν w' (bC [(b,some ⟨k,es'⟩)] s'.heap) s'.used ν:=by
  refine ⟨λ_ h=>h,λb2 blk2 _ hb2=>?_,λx hx hf=>⟨hothers x (λe=>hf b _ β c hb' q1 e.symm),λb2 blk2 β2 c2 hb2 hν2=>?_⟩,rfl⟩
  ·by_cases e:b2=b
   ·subst e;simp only [bC,bY,aN,Option.some.injEq] at hb2;subst hb2;exact ⟨_,hb',rfl,hll.symm,rfl⟩
   ·simp only [bC,cC e,bA] at hb2;exact ⟨blk2,hb2,rfl,rfl,rfl⟩
  ·by_cases e:b2=b
   ·subst e;exact hf b2 _ β2 c2 hb' hν2
   ·simp only [bC,cC e,bA] at hb2;exact hf b2 blk2 β2 c2 hb2 hν2
 refine hK ν _ _ (hs.step (x:= .int (m:Nat)) (v:= .int .i64 m) hd' (s':=s'.app dst _) (by exact ext) (by rw [←hw'];exact vT (C.low _ (hB β (by rw [q6];simp)))) ⟨φ,?_,?_⟩ rfl (uD rfl))
 ·intro x blk2 hx2;by_cases e:x=b
  ·subst e;simp only [AState.app,bC,bY,aN,Option.some.injEq] at hx2;subst hx2;refine ⟨hub,⟨?_,.inr ⟨β,c,_,ty',[],_,q1,hβ,?_,by simp only;omega,q5,q6,rfl,?_⟩⟩,hnd,hB⟩
   ·intro cs hcs;simp only [hes',eB] at hcs;rcases hcs with (h|h)|h
    ·exact hk _ (List.mem_of_mem_take h)
    ·exact e2 _ (List.mem_of_mem_take h)
    ·exact hk _ (List.mem_of_mem_drop h)
   ·simp only [List.size_toArray,List.length_append,List.length_take,List.length_drop,Array.length_toList,q3];omega
   ·have hal:arr.toList.length=c*k:=by simpa using q3
    have h5:(arr.toList.take (i*k)++vs.take (m*k)++arr.toList.drop (i*k+m*k)).toArray.toList.take (es'.length*k)=vs'.take (i*k)++vs.take (m*k)++vs'.drop ((i+m)*k):=by
     rw [hll,←q7,Nat.add_mul];exact aSQ _ _ _ _ _ (by rw [hal];exact hle3) hcl hle2
    rw [h5];refine aMq ?_ ?_
    ·rw [hes',List.flatten_append,List.flatten_append,aDJ hk,aDJ e2,aFo hk];have ext':=ext;rw [hes'] at ext';exact (((hv'.take _).append (e4.take _)).append (hv'.drop _)).mono λ_ _ r=>r.ext ext'
    ·rw [List.all_eq_true] at hpe hpn ⊢;intro z hz;simp only [hes',List.flatten_append,eB] at hz;rcases hz with (h|h)|h
     ·rw [aDJ hk] at h;exact hpe _ (List.mem_of_mem_take h)
     ·rw [aDJ e2] at h;exact hpn _ (List.mem_of_mem_take h)
     ·rw [aFo hk] at h;exact hpe _ (List.mem_of_mem_drop h)
  ·simp only [AState.app,bC,cC e,bA] at hx2;obtain ⟨p1,p2,p3,p4⟩:=hh.blk x blk2 hx2;refine ⟨p1,p2.ext ext rfl (λy hy=>hothers y ?_),p3,p4⟩;rintro rfl;exact hh.apart x b y (by rw [hx2];simp) (by rw [hb'];simp) e hy (by rw [q6];simp)
 ·intro x1 x2 yy hx1 hx2 hne hy1 hy2
  have hlive: ∀ x,(s'.app dst ⟨.int (m:Nat),b::ts,[(b,some ⟨k,es'⟩)],[]⟩).heap x≠none→s'.heap x≠none:=by
   intro x hx;by_cases e:x=b
   ·subst e;rw [hb'];simp
   ·simpa only [AState.app,bC,cC e,bA] using hx
  exact hh.apart x1 x2 yy (hlive x1 hx1) (hlive x2 hx2) hne hy1 hy2
theorem aSR {P:Program} {T:List (Nat×Ty)} (hT:TyOk P T) {dst:Option Tmp} {dty:TypeId} {pos:String} {aft:Array Edge} {g:Option (Nat×Bool)} {s:AState} {xd xs:Operand} {t et:Nat} {y ye:Ty} {b i k:Nat} {blk:Blk} {news:List (List AV)} {sv:AV} {ts:List Nat}
  (hx:s.ev xd=some (.own b i 0)) (hb:s.heap b=some blk) (hz:s.ev xs=some sv) (hsrc:rO s.heap sv=some (k,news,ts)) (hpn:news.flatten.all aEz=true) (hy:dO T t=some y) (hd:y.desc= .slice et) (hye:dO T et=some ye):
  AEff P ⟨dst,.call ⟨.builtin .copy,#[xd,xs],#[t,t]⟩,dty,pos,aft,g⟩ s.ev s.heap s.kp ⟨.int 0,b::ts,[],[]⟩:=
 AEff.pure λC s' ν a w hi' ht hs=>by
  have h1:=hs.ev ((hi' xd (by simp [Op.operands,Call.operands])).trans hx);have h2:=hs.ev ((hi' xs (by simp [Op.operands,Call.operands])).trans hz);have hb':s'.heap b=some blk:=(ht b (by simp)).trans hb;obtain ⟨ao,c0,vs,e1, -, -, -, -⟩:=hs.src h2 hsrc (λb hb=>ht b (by simp [hb])) (aJt hpn);simp only [RepA,RepB,Rep1] at h1;obtain ⟨hfit,hnn,hsl⟩:=h1.2 _ hb';obtain ⟨i1,z1,d1,y1⟩:=hT.is hy;obtain ⟨i2,z2,d2,y2⟩:=hT.is hye;refine ⟨.int .i64 0,?_,uD rfl⟩
  have hdv: ∃ ad cd,a.eval xd= .slice ad 0 cd:=by
   cases hν:ν b with
   |none=>exact ⟨_,_,hnn hν⟩
   |some q=>obtain ⟨β,c⟩:=q;obtain ⟨o,ho,_⟩:=hsl β c hν;exact ⟨_,_,ho⟩
  obtain ⟨ad,cd,e2⟩:=hdv
  have h0:execOp a.eval ⟨dst,.call ⟨.builtin .copy,#[xd,xs],#[t,t]⟩,dty,pos,aft,g⟩=(do let v ←Builtin.copy_ #[t,t] dty #[a.eval xd,a.eval xs];pure (.value v):Sem Next):=by
   simp [execOp,resolve,invoke,builtin]
  rw [h0,e1,e2];cases ao <;> cases ad <;> simp [Builtin.copy_,Builtin.lenOf,Builtin.firstCells,loadCells,loadCellsFrom,storeCells,jG (y1.slice hd),jO y2.info,y2.size,goInt]
def aFp:List AV:=[.int 0,.int 0,.nil 1,.nil 1,.nil 1,.nil 3]
theorem aOJ {a b:List AV} (ha:a.all aEz=true) (hb:b.all aEz=true) (n m:Nat):(List.replicate n a++List.replicate m b).flatten.all aEz=true:=by
 rw [List.all_eq_true] at ha hb ⊢;intro x hx;obtain ⟨l,hl,hx⟩:=List.mem_flatten.1 hx;rcases eB.1 hl with h|h
 ·rw [(List.mem_replicate.1 h).2] at hx;exact ha x hx
 ·rw [(List.mem_replicate.1 h).2] at hx;exact hb x hx
theorem aQP (c:Rp) (n:Nat) (h0:0<n) (hn:n≤1048576):HasE Tryz.prog 38 [.list 6 (List.map eR [c]),.int n] [] 0 (.own 0 0 (List.replicate n c).length) [(0,⟨6,List.map eR (List.replicate n c)⟩)]:=by
 refine sD aB (ns:=[0,1,2,3,4,5,6,7]) Tryz.func38 rfl rfl Tryz.ntmps38 rfl rfl ?_
 repeat (first
  |refine cN ?_
  |refine eP ?_
  |refine cF ?_
  |refine fM ?_
  |refine aH ?_
  |refine aC ?_
  |refine aS ?_
  |refine bD ?_
  |refine aL ?_
  |refine block_out rfl ?_
  |refine aM MIX ?_
  |refine aE ?_
  |refine aG ?_
  |refine aU ?_
  |refine aI ?_
  |refine aA (cJ rfl) rfl rfl rfl ?_
  |refine aA (bZ aB rfl rfl rfl rfl rfl rfl rfl) rfl rfl rfl ?_
  |refine aA (dF aB rfl rfl rfl rfl rfl rfl rfl) rfl rfl rfl ?_
  |refine aA (cH rfl) rfl rfl rfl ?_
  |refine aA (dS aB rfl rfl rfl) rfl rfl rfl ?_
  |refine aA (eG aB rfl rfl rfl rfl rfl rfl) rfl rfl rfl ?_
  |refine aA (jW rfl rfl rfl) rfl rfl rfl ?_
  |refine aA (aW aB rfl rfl rfl rfl rfl rfl (iG (by omega))) rfl rfl rfl ?_
  |refine aA (aW aB rfl rfl rfl rfl rfl rfl (gN (at_lt (by omega)))) rfl rfl rfl ?_
  |refine aA (w_add rfl rfl (by omega)) rfl rfl rfl ?_
  |refine fD rfl rfl ?_
  |refine aA (fG rfl rfl) rfl rfl rfl ?_
  |refine aA (cX aB rfl rfl rfl rfl rfl rfl) rfl rfl rfl ?_
  |refine aA (dM rfl) rfl rfl rfl ?_
  |refine aA (qW rfl rfl rfl rfl) rfl rfl rfl ?_
  |refine aA (bS aB rfl rfl) rfl rfl rfl ?_
  |refine aA (gQ aB rfl rfl rfl rfl rfl rfl rfl rfl) rfl rfl rfl ?_
  |refine aA (bX aB rfl rfl rfl rfl) rfl rfl rfl ?_
  |refine aA (w_len_nil aB rfl rfl rfl) rfl rfl rfl ?_
  |refine aA (bJ rfl rfl (by intro _ h;cases h)) rfl rfl rfl ?_
  |refine aA (rP aB rfl rfl rfl rfl rfl rfl rfl rfl rfl rfl rfl) rfl rfl rfl ?_
  |refine aA (cU aB rfl rfl rfl rfl rfl rfl) rfl rfl rfl ?_)
 refine mI rfl (λh=>?_) (λh=>?_)
 ·simp at h;omega
 repeat (first
  |refine cN ?_
  |refine eP ?_
  |refine cF ?_
  |refine fM ?_
  |refine aH ?_
  |refine aC ?_
  |refine aS ?_
  |refine bD ?_
  |refine aL ?_
  |refine block_out rfl ?_
  |refine aM MIX ?_
  |refine aE ?_
  |refine aG ?_
  |refine aU ?_
  |refine aI ?_
  |refine aA (cJ rfl) rfl rfl rfl ?_
  |refine aA (bZ aB rfl rfl rfl rfl rfl rfl rfl) rfl rfl rfl ?_
  |refine aA (dF aB rfl rfl rfl rfl rfl rfl rfl) rfl rfl rfl ?_
  |refine aA (cH rfl) rfl rfl rfl ?_
  |refine aA (dS aB rfl rfl rfl) rfl rfl rfl ?_
  |refine aA (eG aB rfl rfl rfl rfl rfl rfl) rfl rfl rfl ?_
  |refine aA (jW rfl rfl rfl) rfl rfl rfl ?_
  |refine aA (aW aB rfl rfl rfl rfl rfl rfl (iG (by omega))) rfl rfl rfl ?_
  |refine aA (aW aB rfl rfl rfl rfl rfl rfl (gN (at_lt (by omega)))) rfl rfl rfl ?_
  |refine aA (w_add rfl rfl (by omega)) rfl rfl rfl ?_
  |refine fD rfl rfl ?_
  |refine aA (fG rfl rfl) rfl rfl rfl ?_
  |refine aA (cX aB rfl rfl rfl rfl rfl rfl) rfl rfl rfl ?_
  |refine aA (dM rfl) rfl rfl rfl ?_
  |refine aA (qW rfl rfl rfl rfl) rfl rfl rfl ?_
  |refine aA (bS aB rfl rfl) rfl rfl rfl ?_
  |refine aA (gQ aB rfl rfl rfl rfl rfl rfl rfl rfl) rfl rfl rfl ?_
  |refine aA (bX aB rfl rfl rfl rfl) rfl rfl rfl ?_
  |refine aA (w_len_nil aB rfl rfl rfl) rfl rfl rfl ?_
  |refine aA (bJ rfl rfl (by intro _ h;cases h)) rfl rfl rfl ?_
  |refine aA (rP aB rfl rfl rfl rfl rfl rfl rfl rfl rfl rfl rfl) rfl rfl rfl ?_
  |refine aA (cU aB rfl rfl rfl rfl rfl rfl) rfl rfl rfl ?_)
 refine aA (iR (u:= .int .i64 ((1:Nat):Int)) rfl rfl (aAf 1 (by omega))) rfl rfl rfl ?_
 repeat (first
  |refine cN ?_
  |refine eP ?_
  |refine cF ?_
  |refine fM ?_
  |refine aH ?_
  |refine aC ?_
  |refine aS ?_
  |refine bD ?_
  |refine aL ?_
  |refine block_out rfl ?_
  |refine aM MIX ?_
  |refine aE ?_
  |refine aG ?_
  |refine aU ?_
  |refine aI ?_
  |refine aA (cJ rfl) rfl rfl rfl ?_
  |refine aA (bZ aB rfl rfl rfl rfl rfl rfl rfl) rfl rfl rfl ?_
  |refine aA (dF aB rfl rfl rfl rfl rfl rfl rfl) rfl rfl rfl ?_
  |refine aA (cH rfl) rfl rfl rfl ?_
  |refine aA (dS aB rfl rfl rfl) rfl rfl rfl ?_
  |refine aA (eG aB rfl rfl rfl rfl rfl rfl) rfl rfl rfl ?_
  |refine aA (jW rfl rfl rfl) rfl rfl rfl ?_
  |refine aA (aW aB rfl rfl rfl rfl rfl rfl (iG (by omega))) rfl rfl rfl ?_
  |refine aA (aW aB rfl rfl rfl rfl rfl rfl (gN (at_lt (by omega)))) rfl rfl rfl ?_
  |refine aA (w_add rfl rfl (by omega)) rfl rfl rfl ?_
  |refine fD rfl rfl ?_
  |refine aA (fG rfl rfl) rfl rfl rfl ?_
  |refine aA (cX aB rfl rfl rfl rfl rfl rfl) rfl rfl rfl ?_
  |refine aA (dM rfl) rfl rfl rfl ?_
  |refine aA (qW rfl rfl rfl rfl) rfl rfl rfl ?_
  |refine aA (bS aB rfl rfl) rfl rfl rfl ?_
  |refine aA (gQ aB rfl rfl rfl rfl rfl rfl rfl rfl) rfl rfl rfl ?_
  |refine aA (bX aB rfl rfl rfl rfl) rfl rfl rfl ?_
  |refine aA (w_len_nil aB rfl rfl rfl) rfl rfl rfl ?_
  |refine aA (bJ rfl rfl (by intro _ h;cases h)) rfl rfl rfl ?_
  |refine aA (rP aB rfl rfl rfl rfl rfl rfl rfl rfl rfl rfl rfl) rfl rfl rfl ?_
  |refine aA (cU aB rfl rfl rfl rfl rfl rfl) rfl rfl rfl ?_)
 refine aA (iR (u:= .int .i64 (n:Int)) rfl rfl (aAf n (by omega))) rfl rfl rfl ?_;refine aA (pN (aOv 1 n (by omega) (by omega) (by omega)) rfl rfl rfl rfl (gD trivial (gD trivial vX)) (aX (xR rfl) (aX (xR rfl) aV))) rfl rfl rfl ?_
 repeat (first
  |refine cN ?_
  |refine eP ?_
  |refine cF ?_
  |refine fM ?_
  |refine aH ?_
  |refine aC ?_
  |refine aS ?_
  |refine bD ?_
  |refine aL ?_
  |refine block_out rfl ?_
  |refine aM MIX ?_
  |refine aE ?_
  |refine aG ?_
  |refine aU ?_
  |refine aI ?_
  |refine aA (cJ rfl) rfl rfl rfl ?_
  |refine aA (bZ aB rfl rfl rfl rfl rfl rfl rfl) rfl rfl rfl ?_
  |refine aA (dF aB rfl rfl rfl rfl rfl rfl rfl) rfl rfl rfl ?_
  |refine aA (cH rfl) rfl rfl rfl ?_
  |refine aA (dS aB rfl rfl rfl) rfl rfl rfl ?_
  |refine aA (eG aB rfl rfl rfl rfl rfl rfl) rfl rfl rfl ?_
  |refine aA (jW rfl rfl rfl) rfl rfl rfl ?_
  |refine aA (aW aB rfl rfl rfl rfl rfl rfl (iG (by omega))) rfl rfl rfl ?_
  |refine aA (aW aB rfl rfl rfl rfl rfl rfl (gN (at_lt (by omega)))) rfl rfl rfl ?_
  |refine aA (w_add rfl rfl (by omega)) rfl rfl rfl ?_
  |refine fD rfl rfl ?_
  |refine aA (fG rfl rfl) rfl rfl rfl ?_
  |refine aA (cX aB rfl rfl rfl rfl rfl rfl) rfl rfl rfl ?_
  |refine aA (dM rfl) rfl rfl rfl ?_
  |refine aA (qW rfl rfl rfl rfl) rfl rfl rfl ?_
  |refine aA (bS aB rfl rfl) rfl rfl rfl ?_
  |refine aA (gQ aB rfl rfl rfl rfl rfl rfl rfl rfl) rfl rfl rfl ?_
  |refine aA (bX aB rfl rfl rfl rfl) rfl rfl rfl ?_
  |refine aA (w_len_nil aB rfl rfl rfl) rfl rfl rfl ?_
  |refine aA (bJ rfl rfl (by intro _ h;cases h)) rfl rfl rfl ?_
  |refine aA (rP aB rfl rfl rfl rfl rfl rfl rfl rfl rfl rfl rfl) rfl rfl rfl ?_
  |refine aA (cU aB rfl rfl rfl rfl rfl rfl) rfl rfl rfl ?_)
 refine mI rfl (λh=>?_) (λh=>?_)
 ·have:=of_decide_eq_true h;omega
 repeat (first
  |refine cN ?_
  |refine eP ?_
  |refine cF ?_
  |refine fM ?_
  |refine aH ?_
  |refine aC ?_
  |refine aS ?_
  |refine bD ?_
  |refine aL ?_
  |refine block_out rfl ?_
  |refine aM MIX ?_
  |refine aE ?_
  |refine aG ?_
  |refine aU ?_
  |refine aI ?_
  |refine aA (cJ rfl) rfl rfl rfl ?_
  |refine aA (bZ aB rfl rfl rfl rfl rfl rfl rfl) rfl rfl rfl ?_
  |refine aA (dF aB rfl rfl rfl rfl rfl rfl rfl) rfl rfl rfl ?_
  |refine aA (cH rfl) rfl rfl rfl ?_
  |refine aA (dS aB rfl rfl rfl) rfl rfl rfl ?_
  |refine aA (eG aB rfl rfl rfl rfl rfl rfl) rfl rfl rfl ?_
  |refine aA (jW rfl rfl rfl) rfl rfl rfl ?_
  |refine aA (aW aB rfl rfl rfl rfl rfl rfl (iG (by omega))) rfl rfl rfl ?_
  |refine aA (aW aB rfl rfl rfl rfl rfl rfl (gN (at_lt (by omega)))) rfl rfl rfl ?_
  |refine aA (w_add rfl rfl (by omega)) rfl rfl rfl ?_
  |refine fD rfl rfl ?_
  |refine aA (fG rfl rfl) rfl rfl rfl ?_
  |refine aA (cX aB rfl rfl rfl rfl rfl rfl) rfl rfl rfl ?_
  |refine aA (dM rfl) rfl rfl rfl ?_
  |refine aA (qW rfl rfl rfl rfl) rfl rfl rfl ?_
  |refine aA (bS aB rfl rfl) rfl rfl rfl ?_
  |refine aA (gQ aB rfl rfl rfl rfl rfl rfl rfl rfl) rfl rfl rfl ?_
  |refine aA (bX aB rfl rfl rfl rfl) rfl rfl rfl ?_
  |refine aA (w_len_nil aB rfl rfl rfl) rfl rfl rfl ?_
  |refine aA (bJ rfl rfl (by intro _ h;cases h)) rfl rfl rfl ?_
  |refine aA (rP aB rfl rfl rfl rfl rfl rfl rfl rfl rfl rfl rfl) rfl rfl rfl ?_
  |refine aA (cU aB rfl rfl rfl rfl rfl rfl) rfl rfl rfl ?_)
 refine aA (iR (u:= .int .u64 ((1*n:Nat):Int)) rfl rfl (aGs (1*n) (by omega))) rfl rfl rfl ?_;refine aA (AEff.conv (qT aB (n:=((1*n:Nat):Int)) (by simp;omega) rfl rfl rfl rfl rfl rfl rfl rfl) (v':= .own 0 0 n) (ed':=[(0,some ⟨6,List.replicate n aFp⟩)]) (by simp) (by simp only [dE,Nat.one_mul];rfl)) rfl rfl rfl ?_
 repeat (first
  |refine cN ?_
  |refine eP ?_
  |refine cF ?_
  |refine fM ?_
  |refine aH ?_
  |refine aC ?_
  |refine aS ?_
  |refine bD ?_
  |refine aL ?_
  |refine block_out rfl ?_
  |refine aM MIX ?_
  |refine aE ?_
  |refine aG ?_
  |refine aU ?_
  |refine aI ?_
  |refine aA (cJ rfl) rfl rfl rfl ?_
  |refine aA (bZ aB rfl rfl rfl rfl rfl rfl rfl) rfl rfl rfl ?_
  |refine aA (dF aB rfl rfl rfl rfl rfl rfl rfl) rfl rfl rfl ?_
  |refine aA (cH rfl) rfl rfl rfl ?_
  |refine aA (dS aB rfl rfl rfl) rfl rfl rfl ?_
  |refine aA (eG aB rfl rfl rfl rfl rfl rfl) rfl rfl rfl ?_
  |refine aA (jW rfl rfl rfl) rfl rfl rfl ?_
  |refine aA (aW aB rfl rfl rfl rfl rfl rfl (iG (by omega))) rfl rfl rfl ?_
  |refine aA (aW aB rfl rfl rfl rfl rfl rfl (gN (at_lt (by omega)))) rfl rfl rfl ?_
  |refine aA (w_add rfl rfl (by omega)) rfl rfl rfl ?_
  |refine fD rfl rfl ?_
  |refine aA (fG rfl rfl) rfl rfl rfl ?_
  |refine aA (cX aB rfl rfl rfl rfl rfl rfl) rfl rfl rfl ?_
  |refine aA (dM rfl) rfl rfl rfl ?_
  |refine aA (qW rfl rfl rfl rfl) rfl rfl rfl ?_
  |refine aA (bS aB rfl rfl) rfl rfl rfl ?_
  |refine aA (gQ aB rfl rfl rfl rfl rfl rfl rfl rfl) rfl rfl rfl ?_
  |refine aA (bX aB rfl rfl rfl rfl) rfl rfl rfl ?_
  |refine aA (w_len_nil aB rfl rfl rfl) rfl rfl rfl ?_
  |refine aA (bJ rfl rfl (by intro _ h;cases h)) rfl rfl rfl ?_
  |refine aA (rP aB rfl rfl rfl rfl rfl rfl rfl rfl rfl rfl rfl) rfl rfl rfl ?_
  |refine aA (cU aB rfl rfl rfl rfl rfl rfl) rfl rfl rfl ?_)
 refine aA (AEff.conv (aPI aB (i:=0) (m:=1) (k:=6) (es:=List.replicate n aFp) (news:=[eR c]) (by simp;omega) (by omega) (by omega) rfl rfl rfl rfl (by have:=aOJ (a:=aFp) (b:=aFp) rfl rfl n 0;simpa using this) rfl rfl rfl rfl rfl) (v':= .int ((1:Nat):Int)) (ed':=[(0,some ⟨6,List.replicate 1 (eR c)++List.replicate (n - 1) aFp⟩)])
  rfl (by simp [List.drop_replicate])) rfl rfl rfl ?_
 repeat (first
  |refine cN ?_
  |refine eP ?_
  |refine cF ?_
  |refine fM ?_
  |refine aH ?_
  |refine aC ?_
  |refine aS ?_
  |refine bD ?_
  |refine aL ?_
  |refine block_out rfl ?_
  |refine aM MIX ?_
  |refine aE ?_
  |refine aG ?_
  |refine aU ?_
  |refine aI ?_
  |refine aA (cJ rfl) rfl rfl rfl ?_
  |refine aA (bZ aB rfl rfl rfl rfl rfl rfl rfl) rfl rfl rfl ?_
  |refine aA (dF aB rfl rfl rfl rfl rfl rfl rfl) rfl rfl rfl ?_
  |refine aA (cH rfl) rfl rfl rfl ?_
  |refine aA (dS aB rfl rfl rfl) rfl rfl rfl ?_
  |refine aA (eG aB rfl rfl rfl rfl rfl rfl) rfl rfl rfl ?_
  |refine aA (jW rfl rfl rfl) rfl rfl rfl ?_
  |refine aA (aW aB rfl rfl rfl rfl rfl rfl (iG (by omega))) rfl rfl rfl ?_
  |refine aA (aW aB rfl rfl rfl rfl rfl rfl (gN (at_lt (by omega)))) rfl rfl rfl ?_
  |refine aA (w_add rfl rfl (by omega)) rfl rfl rfl ?_
  |refine fD rfl rfl ?_
  |refine aA (fG rfl rfl) rfl rfl rfl ?_
  |refine aA (cX aB rfl rfl rfl rfl rfl rfl) rfl rfl rfl ?_
  |refine aA (dM rfl) rfl rfl rfl ?_
  |refine aA (qW rfl rfl rfl rfl) rfl rfl rfl ?_
  |refine aA (bS aB rfl rfl) rfl rfl rfl ?_
  |refine aA (gQ aB rfl rfl rfl rfl rfl rfl rfl rfl) rfl rfl rfl ?_
  |refine aA (bX aB rfl rfl rfl rfl) rfl rfl rfl ?_
  |refine aA (w_len_nil aB rfl rfl rfl) rfl rfl rfl ?_
  |refine aA (bJ rfl rfl (by intro _ h;cases h)) rfl rfl rfl ?_
  |refine aA (rP aB rfl rfl rfl rfl rfl rfl rfl rfl rfl rfl rfl) rfl rfl rfl ?_
  |refine aA (cU aB rfl rfl rfl rfl rfl rfl) rfl rfl rfl ?_)
 refine aCq (ι:=Nat) (λk=>mkS [(7,.own 0 0 n),(8,.int k)] [(0,⟨6,List.replicate k (eR c)++List.replicate (n - k) aFp⟩)] 1 [1,2,3,4] ⟨0,false,none,true⟩) (λk=>1≤k∧k≤n) (λk=>n - k) 1 ⟨bP _,h0⟩ ?_ ?_
 ·refine fP (σ:=sg [(0,0)]) ⟨⟨_,rfl,⟨rfl,rfl,rfl,rfl⟩⟩,⟨_,rfl,rfl⟩,trivial⟩ ⟨⟨_,rfl,rfl,.inl ⟨rfl,aJu (List.all_eq_true.1 rfl) (List.all_eq_true.1 rfl) _ _⟩⟩,rfl,trivial⟩ rfl
 ·rintro k ⟨hk1,hkn⟩
  repeat (first
   |refine cN ?_
   |refine eP ?_
   |refine cF ?_
   |refine fM ?_
   |refine aH ?_
   |refine aC ?_
   |refine aS ?_
   |refine bD ?_
   |refine aL ?_
   |refine block_out rfl ?_
   |refine aM MIX ?_
   |refine aE ?_
   |refine aG ?_
   |refine aU ?_
   |refine aI ?_
   |refine aA (cJ rfl) rfl rfl rfl ?_
   |refine aA (bZ aB rfl rfl rfl rfl rfl rfl rfl) rfl rfl rfl ?_
   |refine aA (dF aB rfl rfl rfl rfl rfl rfl rfl) rfl rfl rfl ?_
   |refine aA (cH rfl) rfl rfl rfl ?_
   |refine aA (dS aB rfl rfl rfl) rfl rfl rfl ?_
   |refine aA (eG aB rfl rfl rfl rfl rfl rfl) rfl rfl rfl ?_
   |refine aA (jW rfl rfl rfl) rfl rfl rfl ?_
   |refine aA (aW aB rfl rfl rfl rfl rfl rfl (iG (by omega))) rfl rfl rfl ?_
   |refine aA (aW aB rfl rfl rfl rfl rfl rfl (gN (at_lt (by omega)))) rfl rfl rfl ?_
   |refine aA (w_add rfl rfl (by omega)) rfl rfl rfl ?_
   |refine fD rfl rfl ?_
   |refine aA (fG rfl rfl) rfl rfl rfl ?_
   |refine aA (cX aB rfl rfl rfl rfl rfl rfl) rfl rfl rfl ?_
   |refine aA (dM rfl) rfl rfl rfl ?_
   |refine aA (qW rfl rfl rfl rfl) rfl rfl rfl ?_
   |refine aA (bS aB rfl rfl) rfl rfl rfl ?_
   |refine aA (gQ aB rfl rfl rfl rfl rfl rfl rfl rfl) rfl rfl rfl ?_
   |refine aA (bX aB rfl rfl rfl rfl) rfl rfl rfl ?_
   |refine aA (w_len_nil aB rfl rfl rfl) rfl rfl rfl ?_
   |refine aA (bJ rfl rfl (by intro _ h;cases h)) rfl rfl rfl ?_
   |refine aA (rP aB rfl rfl rfl rfl rfl rfl rfl rfl rfl rfl rfl) rfl rfl rfl ?_
   |refine aA (cU aB rfl rfl rfl rfl rfl rfl) rfl rfl rfl ?_)
  refine mI rfl (λh=>?_) (λh=>?_)
  ·have hlt:k<n:=by have:=of_decide_eq_true h;omega
   clear h
   repeat (first
    |refine cN ?_
    |refine eP ?_
    |refine cF ?_
    |refine fM ?_
    |refine aH ?_
    |refine aC ?_
    |refine aS ?_
    |refine bD ?_
    |refine aL ?_
    |refine block_out rfl ?_
    |refine aM MIX ?_
    |refine aE ?_
    |refine aG ?_
    |refine aU ?_
    |refine aI ?_
    |refine aA (cJ rfl) rfl rfl rfl ?_
    |refine aA (bZ aB rfl rfl rfl rfl rfl rfl rfl) rfl rfl rfl ?_
    |refine aA (dF aB rfl rfl rfl rfl rfl rfl rfl) rfl rfl rfl ?_
    |refine aA (cH rfl) rfl rfl rfl ?_
    |refine aA (dS aB rfl rfl rfl) rfl rfl rfl ?_
    |refine aA (eG aB rfl rfl rfl rfl rfl rfl) rfl rfl rfl ?_
    |refine aA (jW rfl rfl rfl) rfl rfl rfl ?_
    |refine aA (aW aB rfl rfl rfl rfl rfl rfl (iG (by omega))) rfl rfl rfl ?_
    |refine aA (aW aB rfl rfl rfl rfl rfl rfl (gN (at_lt (by omega)))) rfl rfl rfl ?_
    |refine aA (w_add rfl rfl (by omega)) rfl rfl rfl ?_
    |refine fD rfl rfl ?_
    |refine aA (fG rfl rfl) rfl rfl rfl ?_
    |refine aA (cX aB rfl rfl rfl rfl rfl rfl) rfl rfl rfl ?_
    |refine aA (dM rfl) rfl rfl rfl ?_
    |refine aA (qW rfl rfl rfl rfl) rfl rfl rfl ?_
    |refine aA (bS aB rfl rfl) rfl rfl rfl ?_
    |refine aA (gQ aB rfl rfl rfl rfl rfl rfl rfl rfl) rfl rfl rfl ?_
    |refine aA (bX aB rfl rfl rfl rfl) rfl rfl rfl ?_
    |refine aA (w_len_nil aB rfl rfl rfl) rfl rfl rfl ?_
    |refine aA (bJ rfl rfl (by intro _ h;cases h)) rfl rfl rfl ?_
    |refine aA (rP aB rfl rfl rfl rfl rfl rfl rfl rfl rfl rfl rfl) rfl rfl rfl ?_
    |refine aA (cU aB rfl rfl rfl rfl rfl rfl) rfl rfl rfl ?_)
   refine aA (AEff.val (rQ aB (l:=(k:Int)) (h:=(n:Int)) (by simp;omega) rfl rfl rfl rfl rfl rfl rfl rfl) (v':= .own 0 k (n - k)) (by simp)) rfl rfl rfl ?_
   repeat (first
    |refine cN ?_
    |refine eP ?_
    |refine cF ?_
    |refine fM ?_
    |refine aH ?_
    |refine aC ?_
    |refine aS ?_
    |refine bD ?_
    |refine aL ?_
    |refine block_out rfl ?_
    |refine aM MIX ?_
    |refine aE ?_
    |refine aG ?_
    |refine aU ?_
    |refine aI ?_
    |refine aA (cJ rfl) rfl rfl rfl ?_
    |refine aA (bZ aB rfl rfl rfl rfl rfl rfl rfl) rfl rfl rfl ?_
    |refine aA (dF aB rfl rfl rfl rfl rfl rfl rfl) rfl rfl rfl ?_
    |refine aA (cH rfl) rfl rfl rfl ?_
    |refine aA (dS aB rfl rfl rfl) rfl rfl rfl ?_
    |refine aA (eG aB rfl rfl rfl rfl rfl rfl) rfl rfl rfl ?_
    |refine aA (jW rfl rfl rfl) rfl rfl rfl ?_
    |refine aA (aW aB rfl rfl rfl rfl rfl rfl (iG (by omega))) rfl rfl rfl ?_
    |refine aA (aW aB rfl rfl rfl rfl rfl rfl (gN (at_lt (by omega)))) rfl rfl rfl ?_
    |refine aA (w_add rfl rfl (by omega)) rfl rfl rfl ?_
    |refine fD rfl rfl ?_
    |refine aA (fG rfl rfl) rfl rfl rfl ?_
    |refine aA (cX aB rfl rfl rfl rfl rfl rfl) rfl rfl rfl ?_
    |refine aA (dM rfl) rfl rfl rfl ?_
    |refine aA (qW rfl rfl rfl rfl) rfl rfl rfl ?_
    |refine aA (bS aB rfl rfl) rfl rfl rfl ?_
    |refine aA (gQ aB rfl rfl rfl rfl rfl rfl rfl rfl) rfl rfl rfl ?_
    |refine aA (bX aB rfl rfl rfl rfl) rfl rfl rfl ?_
    |refine aA (w_len_nil aB rfl rfl rfl) rfl rfl rfl ?_
    |refine aA (bJ rfl rfl (by intro _ h;cases h)) rfl rfl rfl ?_
    |refine aA (rP aB rfl rfl rfl rfl rfl rfl rfl rfl rfl rfl rfl) rfl rfl rfl ?_
    |refine aA (cU aB rfl rfl rfl rfl rfl rfl) rfl rfl rfl ?_)
   refine aA (AEff.val (rQ aB (l:=(0:Int)) (h:=(k:Int)) (by simp;omega) rfl rfl rfl rfl rfl rfl rfl rfl) (v':= .own 0 0 k) (by simp)) rfl rfl rfl ?_
   refine aA (AEff.conv (aPI aB (b:=0) (ts:=[0]) (sv:= .own 0 0 k) (i:=k) (nd:=n - k) (m:=min k (n - k)) (k:=6) (es:=List.replicate k (eR c)++List.replicate (n - k) aFp) (news:=List.replicate k (eR c)) (by simp) (by omega) (by omega) rfl rfl rfl ?_ (aOJ rfl rfl _ _) (by have:=aOJ (a:=eR c) (b:=aFp) rfl rfl k 0;simpa using this) rfl rfl rfl rfl) (v':= .int ((min k (n - k):Nat):Int)) (ed':=[(0,some ⟨6,List.replicate (k+min k (n - k)) (eR c)++List.replicate (n - (k+min k (n - k))) aFp⟩)])
    rfl ?_) rfl rfl rfl ?_
   ·show some (6,((((List.replicate k (eR c)++List.replicate (n - k) aFp).drop 0).take k).map (List.map aAk)),_)=_;rw [List.drop_zero,List.take_left' (by simp),List.map_replicate];rfl
   ·congr 4;rw [List.take_left' (by simp),List.take_replicate,List.drop_append,List.drop_of_length_le (by simp),List.nil_append,List.drop_replicate,List.length_replicate,List.replicate_append_replicate,show min (min k (n - k)) k=min k (n - k) by omega,show n - k - (k+min k (n - k) - k)=n - (k+min k (n - k)) by omega]
   refine aA (bF rfl rfl) rfl rfl rfl ?_
   repeat (first
    |refine cN ?_
    |refine eP ?_
    |refine cF ?_
    |refine fM ?_
    |refine aH ?_
    |refine aC ?_
    |refine aS ?_
    |refine bD ?_
    |refine aL ?_
    |refine block_out rfl ?_
    |refine aM MIX ?_
    |refine aE ?_
    |refine aG ?_
    |refine aU ?_
    |refine aI ?_
    |refine aA (cJ rfl) rfl rfl rfl ?_
    |refine aA (bZ aB rfl rfl rfl rfl rfl rfl rfl) rfl rfl rfl ?_
    |refine aA (dF aB rfl rfl rfl rfl rfl rfl rfl) rfl rfl rfl ?_
    |refine aA (cH rfl) rfl rfl rfl ?_
    |refine aA (dS aB rfl rfl rfl) rfl rfl rfl ?_
    |refine aA (eG aB rfl rfl rfl rfl rfl rfl) rfl rfl rfl ?_
    |refine aA (jW rfl rfl rfl) rfl rfl rfl ?_
    |refine aA (aW aB rfl rfl rfl rfl rfl rfl (iG (by omega))) rfl rfl rfl ?_
    |refine aA (aW aB rfl rfl rfl rfl rfl rfl (gN (at_lt (by omega)))) rfl rfl rfl ?_
    |refine aA (w_add rfl rfl (by omega)) rfl rfl rfl ?_
    |refine fD rfl rfl ?_
    |refine aA (fG rfl rfl) rfl rfl rfl ?_
    |refine aA (cX aB rfl rfl rfl rfl rfl rfl) rfl rfl rfl ?_
    |refine aA (dM rfl) rfl rfl rfl ?_
    |refine aA (qW rfl rfl rfl rfl) rfl rfl rfl ?_
    |refine aA (bS aB rfl rfl) rfl rfl rfl ?_
    |refine aA (gQ aB rfl rfl rfl rfl rfl rfl rfl rfl) rfl rfl rfl ?_
    |refine aA (bX aB rfl rfl rfl rfl) rfl rfl rfl ?_
    |refine aA (w_len_nil aB rfl rfl rfl) rfl rfl rfl ?_
    |refine aA (bJ rfl rfl (by intro _ h;cases h)) rfl rfl rfl ?_
    |refine aA (rP aB rfl rfl rfl rfl rfl rfl rfl rfl rfl rfl rfl) rfl rfl rfl ?_
    |refine aA (cU aB rfl rfl rfl rfl rfl rfl) rfl rfl rfl ?_)
   refine ⟨by kernel_rfl,?_⟩
   repeat (first
    |refine cN ?_
    |refine eP ?_
    |refine cF ?_
    |refine fM ?_
    |refine aH ?_
    |refine aC ?_
    |refine aS ?_
    |refine bD ?_
    |refine aL ?_
    |refine block_out rfl ?_
    |refine aM MIX ?_
    |refine aE ?_
    |refine aG ?_
    |refine aU ?_
    |refine aI ?_
    |refine aA (cJ rfl) rfl rfl rfl ?_
    |refine aA (bZ aB rfl rfl rfl rfl rfl rfl rfl) rfl rfl rfl ?_
    |refine aA (dF aB rfl rfl rfl rfl rfl rfl rfl) rfl rfl rfl ?_
    |refine aA (cH rfl) rfl rfl rfl ?_
    |refine aA (dS aB rfl rfl rfl) rfl rfl rfl ?_
    |refine aA (eG aB rfl rfl rfl rfl rfl rfl) rfl rfl rfl ?_
    |refine aA (jW rfl rfl rfl) rfl rfl rfl ?_
    |refine aA (aW aB rfl rfl rfl rfl rfl rfl (iG (by omega))) rfl rfl rfl ?_
    |refine aA (aW aB rfl rfl rfl rfl rfl rfl (gN (at_lt (by omega)))) rfl rfl rfl ?_
    |refine aA (w_add rfl rfl (by omega)) rfl rfl rfl ?_
    |refine fD rfl rfl ?_
    |refine aA (fG rfl rfl) rfl rfl rfl ?_
    |refine aA (cX aB rfl rfl rfl rfl rfl rfl) rfl rfl rfl ?_
    |refine aA (dM rfl) rfl rfl rfl ?_
    |refine aA (qW rfl rfl rfl rfl) rfl rfl rfl ?_
    |refine aA (bS aB rfl rfl) rfl rfl rfl ?_
    |refine aA (gQ aB rfl rfl rfl rfl rfl rfl rfl rfl) rfl rfl rfl ?_
    |refine aA (bX aB rfl rfl rfl rfl) rfl rfl rfl ?_
    |refine aA (w_len_nil aB rfl rfl rfl) rfl rfl rfl ?_
    |refine aA (bJ rfl rfl (by intro _ h;cases h)) rfl rfl rfl ?_
    |refine aA (rP aB rfl rfl rfl rfl rfl rfl rfl rfl rfl rfl rfl) rfl rfl rfl ?_
    |refine aA (cU aB rfl rfl rfl rfl rfl rfl) rfl rfl rfl ?_)
   refine ⟨k+min k (n - k),⟨by omega,by omega⟩,by omega,?_⟩;refine fP (σ:=sg [(0,0)]) ⟨⟨_,rfl,⟨rfl,rfl,rfl,rfl⟩⟩,⟨_,rfl,?_⟩,trivial⟩ ⟨⟨_,rfl,rfl,.inl ⟨rfl,aJu (List.all_eq_true.1 rfl) (List.all_eq_true.1 rfl) _ _⟩⟩,rfl,trivial⟩ rfl;show Value.int .i64 (wr ((k:Int)+((min k (n - k):Nat):Int)))=_;rw [aHP (by omega)];rfl
  ·have hlt:k=n:=by have:=of_decide_eq_false h;omega
   subst hlt;clear h
   repeat (first
    |refine cN ?_
    |refine eP ?_
    |refine cF ?_
    |refine fM ?_
    |refine aH ?_
    |refine aC ?_
    |refine aS ?_
    |refine bD ?_
    |refine aL ?_
    |refine block_out rfl ?_
    |refine aM MIX ?_
    |refine aE ?_
    |refine aG ?_
    |refine aU ?_
    |refine aI ?_
    |refine aA (cJ rfl) rfl rfl rfl ?_
    |refine aA (bZ aB rfl rfl rfl rfl rfl rfl rfl) rfl rfl rfl ?_
    |refine aA (dF aB rfl rfl rfl rfl rfl rfl rfl) rfl rfl rfl ?_
    |refine aA (cH rfl) rfl rfl rfl ?_
    |refine aA (dS aB rfl rfl rfl) rfl rfl rfl ?_
    |refine aA (eG aB rfl rfl rfl rfl rfl rfl) rfl rfl rfl ?_
    |refine aA (jW rfl rfl rfl) rfl rfl rfl ?_
    |refine aA (aW aB rfl rfl rfl rfl rfl rfl (iG (by omega))) rfl rfl rfl ?_
    |refine aA (aW aB rfl rfl rfl rfl rfl rfl (gN (at_lt (by omega)))) rfl rfl rfl ?_
    |refine aA (w_add rfl rfl (by omega)) rfl rfl rfl ?_
    |refine fD rfl rfl ?_
    |refine aA (fG rfl rfl) rfl rfl rfl ?_
    |refine aA (cX aB rfl rfl rfl rfl rfl rfl) rfl rfl rfl ?_
    |refine aA (dM rfl) rfl rfl rfl ?_
    |refine aA (qW rfl rfl rfl rfl) rfl rfl rfl ?_
    |refine aA (bS aB rfl rfl) rfl rfl rfl ?_
    |refine aA (gQ aB rfl rfl rfl rfl rfl rfl rfl rfl) rfl rfl rfl ?_
    |refine aA (bX aB rfl rfl rfl rfl) rfl rfl rfl ?_
    |refine aA (w_len_nil aB rfl rfl rfl) rfl rfl rfl ?_
    |refine aA (bJ rfl rfl (by intro _ h;cases h)) rfl rfl rfl ?_
    |refine aA (rP aB rfl rfl rfl rfl rfl rfl rfl rfl rfl rfl rfl) rfl rfl rfl ?_
    |refine aA (cU aB rfl rfl rfl rfl rfl rfl) rfl rfl rfl ?_)
   have e1:(List.replicate k (eR c)++List.replicate (k - k) aFp)=List.map eR (List.replicate k c):=by simp
   rw [e1];exact ⟨_,Ent.refl _,rfl,⟨_,rfl,.inl (by simp)⟩,⟨rfl,trivial⟩⟩
theorem aOK (c:Rp) (n:Nat) (hn:n=0):HasE Tryz.prog 38 [.list 6 (List.map eR [c]),.int n] [] 0 (.own 0 0 (List.replicate n c).length) [(0,⟨6,List.map eR (List.replicate n c)⟩)]:=by
 refine sD aB (ns:=[0,1,2,3,4,5,6,7]) Tryz.func38 rfl rfl Tryz.ntmps38 rfl rfl ?_
 repeat (first
  |refine cN ?_
  |refine eP ?_
  |refine cF ?_
  |refine fM ?_
  |refine aH ?_
  |refine aC ?_
  |refine aS ?_
  |refine bD ?_
  |refine aL ?_
  |refine block_out rfl ?_
  |refine aM MIX ?_
  |refine aE ?_
  |refine aG ?_
  |refine aU ?_
  |refine aI ?_
  |refine aA (cJ rfl) rfl rfl rfl ?_
  |refine aA (bZ aB rfl rfl rfl rfl rfl rfl rfl) rfl rfl rfl ?_
  |refine aA (dF aB rfl rfl rfl rfl rfl rfl rfl) rfl rfl rfl ?_
  |refine aA (cH rfl) rfl rfl rfl ?_
  |refine aA (dS aB rfl rfl rfl) rfl rfl rfl ?_
  |refine aA (eG aB rfl rfl rfl rfl rfl rfl) rfl rfl rfl ?_
  |refine aA (jW rfl rfl rfl) rfl rfl rfl ?_
  |refine aA (aW aB rfl rfl rfl rfl rfl rfl (iG (by omega))) rfl rfl rfl ?_
  |refine aA (aW aB rfl rfl rfl rfl rfl rfl (gN (at_lt (by omega)))) rfl rfl rfl ?_
  |refine aA (w_add rfl rfl (by omega)) rfl rfl rfl ?_
  |refine fD rfl rfl ?_
  |refine aA (fG rfl rfl) rfl rfl rfl ?_
  |refine aA (cX aB rfl rfl rfl rfl rfl rfl) rfl rfl rfl ?_
  |refine aA (dM rfl) rfl rfl rfl ?_
  |refine aA (qW rfl rfl rfl rfl) rfl rfl rfl ?_
  |refine aA (bS aB rfl rfl) rfl rfl rfl ?_
  |refine aA (gQ aB rfl rfl rfl rfl rfl rfl rfl rfl) rfl rfl rfl ?_
  |refine aA (bX aB rfl rfl rfl rfl) rfl rfl rfl ?_
  |refine aA (w_len_nil aB rfl rfl rfl) rfl rfl rfl ?_
  |refine aA (bJ rfl rfl (by intro _ h;cases h)) rfl rfl rfl ?_
  |refine aA (rP aB rfl rfl rfl rfl rfl rfl rfl rfl rfl rfl rfl) rfl rfl rfl ?_
  |refine aA (cU aB rfl rfl rfl rfl rfl rfl) rfl rfl rfl ?_)
 refine mI rfl (λh=>?_) (λh=>?_)
 ·simp at h;omega
 repeat (first
  |refine cN ?_
  |refine eP ?_
  |refine cF ?_
  |refine fM ?_
  |refine aH ?_
  |refine aC ?_
  |refine aS ?_
  |refine bD ?_
  |refine aL ?_
  |refine block_out rfl ?_
  |refine aM MIX ?_
  |refine aE ?_
  |refine aG ?_
  |refine aU ?_
  |refine aI ?_
  |refine aA (cJ rfl) rfl rfl rfl ?_
  |refine aA (bZ aB rfl rfl rfl rfl rfl rfl rfl) rfl rfl rfl ?_
  |refine aA (dF aB rfl rfl rfl rfl rfl rfl rfl) rfl rfl rfl ?_
  |refine aA (cH rfl) rfl rfl rfl ?_
  |refine aA (dS aB rfl rfl rfl) rfl rfl rfl ?_
  |refine aA (eG aB rfl rfl rfl rfl rfl rfl) rfl rfl rfl ?_
  |refine aA (jW rfl rfl rfl) rfl rfl rfl ?_
  |refine aA (aW aB rfl rfl rfl rfl rfl rfl (iG (by omega))) rfl rfl rfl ?_
  |refine aA (aW aB rfl rfl rfl rfl rfl rfl (gN (at_lt (by omega)))) rfl rfl rfl ?_
  |refine aA (w_add rfl rfl (by omega)) rfl rfl rfl ?_
  |refine fD rfl rfl ?_
  |refine aA (fG rfl rfl) rfl rfl rfl ?_
  |refine aA (cX aB rfl rfl rfl rfl rfl rfl) rfl rfl rfl ?_
  |refine aA (dM rfl) rfl rfl rfl ?_
  |refine aA (qW rfl rfl rfl rfl) rfl rfl rfl ?_
  |refine aA (bS aB rfl rfl) rfl rfl rfl ?_
  |refine aA (gQ aB rfl rfl rfl rfl rfl rfl rfl rfl) rfl rfl rfl ?_
  |refine aA (bX aB rfl rfl rfl rfl) rfl rfl rfl ?_
  |refine aA (w_len_nil aB rfl rfl rfl) rfl rfl rfl ?_
  |refine aA (bJ rfl rfl (by intro _ h;cases h)) rfl rfl rfl ?_
  |refine aA (rP aB rfl rfl rfl rfl rfl rfl rfl rfl rfl rfl rfl) rfl rfl rfl ?_
  |refine aA (cU aB rfl rfl rfl rfl rfl rfl) rfl rfl rfl ?_)
 refine aA (iR (u:= .int .i64 ((1:Nat):Int)) rfl rfl (aAf 1 (by omega))) rfl rfl rfl ?_
 repeat (first
  |refine cN ?_
  |refine eP ?_
  |refine cF ?_
  |refine fM ?_
  |refine aH ?_
  |refine aC ?_
  |refine aS ?_
  |refine bD ?_
  |refine aL ?_
  |refine block_out rfl ?_
  |refine aM MIX ?_
  |refine aE ?_
  |refine aG ?_
  |refine aU ?_
  |refine aI ?_
  |refine aA (cJ rfl) rfl rfl rfl ?_
  |refine aA (bZ aB rfl rfl rfl rfl rfl rfl rfl) rfl rfl rfl ?_
  |refine aA (dF aB rfl rfl rfl rfl rfl rfl rfl) rfl rfl rfl ?_
  |refine aA (cH rfl) rfl rfl rfl ?_
  |refine aA (dS aB rfl rfl rfl) rfl rfl rfl ?_
  |refine aA (eG aB rfl rfl rfl rfl rfl rfl) rfl rfl rfl ?_
  |refine aA (jW rfl rfl rfl) rfl rfl rfl ?_
  |refine aA (aW aB rfl rfl rfl rfl rfl rfl (iG (by omega))) rfl rfl rfl ?_
  |refine aA (aW aB rfl rfl rfl rfl rfl rfl (gN (at_lt (by omega)))) rfl rfl rfl ?_
  |refine aA (w_add rfl rfl (by omega)) rfl rfl rfl ?_
  |refine fD rfl rfl ?_
  |refine aA (fG rfl rfl) rfl rfl rfl ?_
  |refine aA (cX aB rfl rfl rfl rfl rfl rfl) rfl rfl rfl ?_
  |refine aA (dM rfl) rfl rfl rfl ?_
  |refine aA (qW rfl rfl rfl rfl) rfl rfl rfl ?_
  |refine aA (bS aB rfl rfl) rfl rfl rfl ?_
  |refine aA (gQ aB rfl rfl rfl rfl rfl rfl rfl rfl) rfl rfl rfl ?_
  |refine aA (bX aB rfl rfl rfl rfl) rfl rfl rfl ?_
  |refine aA (w_len_nil aB rfl rfl rfl) rfl rfl rfl ?_
  |refine aA (bJ rfl rfl (by intro _ h;cases h)) rfl rfl rfl ?_
  |refine aA (rP aB rfl rfl rfl rfl rfl rfl rfl rfl rfl rfl rfl) rfl rfl rfl ?_
  |refine aA (cU aB rfl rfl rfl rfl rfl rfl) rfl rfl rfl ?_)
 refine aA (iR (u:= .int .i64 (n:Int)) rfl rfl (aAf n (by omega))) rfl rfl rfl ?_;refine aA (pN (aOv 1 n (by omega) (by omega) (by omega)) rfl rfl rfl rfl (gD trivial (gD trivial vX)) (aX (xR rfl) (aX (xR rfl) aV))) rfl rfl rfl ?_
 repeat (first
  |refine cN ?_
  |refine eP ?_
  |refine cF ?_
  |refine fM ?_
  |refine aH ?_
  |refine aC ?_
  |refine aS ?_
  |refine bD ?_
  |refine aL ?_
  |refine block_out rfl ?_
  |refine aM MIX ?_
  |refine aE ?_
  |refine aG ?_
  |refine aU ?_
  |refine aI ?_
  |refine aA (cJ rfl) rfl rfl rfl ?_
  |refine aA (bZ aB rfl rfl rfl rfl rfl rfl rfl) rfl rfl rfl ?_
  |refine aA (dF aB rfl rfl rfl rfl rfl rfl rfl) rfl rfl rfl ?_
  |refine aA (cH rfl) rfl rfl rfl ?_
  |refine aA (dS aB rfl rfl rfl) rfl rfl rfl ?_
  |refine aA (eG aB rfl rfl rfl rfl rfl rfl) rfl rfl rfl ?_
  |refine aA (jW rfl rfl rfl) rfl rfl rfl ?_
  |refine aA (aW aB rfl rfl rfl rfl rfl rfl (iG (by omega))) rfl rfl rfl ?_
  |refine aA (aW aB rfl rfl rfl rfl rfl rfl (gN (at_lt (by omega)))) rfl rfl rfl ?_
  |refine aA (w_add rfl rfl (by omega)) rfl rfl rfl ?_
  |refine fD rfl rfl ?_
  |refine aA (fG rfl rfl) rfl rfl rfl ?_
  |refine aA (cX aB rfl rfl rfl rfl rfl rfl) rfl rfl rfl ?_
  |refine aA (dM rfl) rfl rfl rfl ?_
  |refine aA (qW rfl rfl rfl rfl) rfl rfl rfl ?_
  |refine aA (bS aB rfl rfl) rfl rfl rfl ?_
  |refine aA (gQ aB rfl rfl rfl rfl rfl rfl rfl rfl) rfl rfl rfl ?_
  |refine aA (bX aB rfl rfl rfl rfl) rfl rfl rfl ?_
  |refine aA (w_len_nil aB rfl rfl rfl) rfl rfl rfl ?_
  |refine aA (bJ rfl rfl (by intro _ h;cases h)) rfl rfl rfl ?_
  |refine aA (rP aB rfl rfl rfl rfl rfl rfl rfl rfl rfl rfl rfl) rfl rfl rfl ?_
  |refine aA (cU aB rfl rfl rfl rfl rfl rfl) rfl rfl rfl ?_)
 refine mI rfl (λh=>?_) (λh=>?_)
 ·have:=of_decide_eq_true h;omega
 repeat (first
  |refine cN ?_
  |refine eP ?_
  |refine cF ?_
  |refine fM ?_
  |refine aH ?_
  |refine aC ?_
  |refine aS ?_
  |refine bD ?_
  |refine aL ?_
  |refine block_out rfl ?_
  |refine aM MIX ?_
  |refine aE ?_
  |refine aG ?_
  |refine aU ?_
  |refine aI ?_
  |refine aA (cJ rfl) rfl rfl rfl ?_
  |refine aA (bZ aB rfl rfl rfl rfl rfl rfl rfl) rfl rfl rfl ?_
  |refine aA (dF aB rfl rfl rfl rfl rfl rfl rfl) rfl rfl rfl ?_
  |refine aA (cH rfl) rfl rfl rfl ?_
  |refine aA (dS aB rfl rfl rfl) rfl rfl rfl ?_
  |refine aA (eG aB rfl rfl rfl rfl rfl rfl) rfl rfl rfl ?_
  |refine aA (jW rfl rfl rfl) rfl rfl rfl ?_
  |refine aA (aW aB rfl rfl rfl rfl rfl rfl (iG (by omega))) rfl rfl rfl ?_
  |refine aA (aW aB rfl rfl rfl rfl rfl rfl (gN (at_lt (by omega)))) rfl rfl rfl ?_
  |refine aA (w_add rfl rfl (by omega)) rfl rfl rfl ?_
  |refine fD rfl rfl ?_
  |refine aA (fG rfl rfl) rfl rfl rfl ?_
  |refine aA (cX aB rfl rfl rfl rfl rfl rfl) rfl rfl rfl ?_
  |refine aA (dM rfl) rfl rfl rfl ?_
  |refine aA (qW rfl rfl rfl rfl) rfl rfl rfl ?_
  |refine aA (bS aB rfl rfl) rfl rfl rfl ?_
  |refine aA (gQ aB rfl rfl rfl rfl rfl rfl rfl rfl) rfl rfl rfl ?_
  |refine aA (bX aB rfl rfl rfl rfl) rfl rfl rfl ?_
  |refine aA (w_len_nil aB rfl rfl rfl) rfl rfl rfl ?_
  |refine aA (bJ rfl rfl (by intro _ h;cases h)) rfl rfl rfl ?_
  |refine aA (rP aB rfl rfl rfl rfl rfl rfl rfl rfl rfl rfl rfl) rfl rfl rfl ?_
  |refine aA (cU aB rfl rfl rfl rfl rfl rfl) rfl rfl rfl ?_)
 refine aA (iR (u:= .int .u64 ((1*n:Nat):Int)) rfl rfl (aGs (1*n) (by omega))) rfl rfl rfl ?_;refine aA (AEff.conv (qT aB (n:=((1*n:Nat):Int)) (by simp;omega) rfl rfl rfl rfl rfl rfl rfl rfl) (v':= .own 0 0 n) (ed':=[(0,some ⟨6,List.replicate n aFp⟩)]) (by simp) (by simp only [dE,Nat.one_mul];rfl)) rfl rfl rfl ?_
 repeat (first
  |refine cN ?_
  |refine eP ?_
  |refine cF ?_
  |refine fM ?_
  |refine aH ?_
  |refine aC ?_
  |refine aS ?_
  |refine bD ?_
  |refine aL ?_
  |refine block_out rfl ?_
  |refine aM MIX ?_
  |refine aE ?_
  |refine aG ?_
  |refine aU ?_
  |refine aI ?_
  |refine aA (cJ rfl) rfl rfl rfl ?_
  |refine aA (bZ aB rfl rfl rfl rfl rfl rfl rfl) rfl rfl rfl ?_
  |refine aA (dF aB rfl rfl rfl rfl rfl rfl rfl) rfl rfl rfl ?_
  |refine aA (cH rfl) rfl rfl rfl ?_
  |refine aA (dS aB rfl rfl rfl) rfl rfl rfl ?_
  |refine aA (eG aB rfl rfl rfl rfl rfl rfl) rfl rfl rfl ?_
  |refine aA (jW rfl rfl rfl) rfl rfl rfl ?_
  |refine aA (aW aB rfl rfl rfl rfl rfl rfl (iG (by omega))) rfl rfl rfl ?_
  |refine aA (aW aB rfl rfl rfl rfl rfl rfl (gN (at_lt (by omega)))) rfl rfl rfl ?_
  |refine aA (w_add rfl rfl (by omega)) rfl rfl rfl ?_
  |refine fD rfl rfl ?_
  |refine aA (fG rfl rfl) rfl rfl rfl ?_
  |refine aA (cX aB rfl rfl rfl rfl rfl rfl) rfl rfl rfl ?_
  |refine aA (dM rfl) rfl rfl rfl ?_
  |refine aA (qW rfl rfl rfl rfl) rfl rfl rfl ?_
  |refine aA (bS aB rfl rfl) rfl rfl rfl ?_
  |refine aA (gQ aB rfl rfl rfl rfl rfl rfl rfl rfl) rfl rfl rfl ?_
  |refine aA (bX aB rfl rfl rfl rfl) rfl rfl rfl ?_
  |refine aA (w_len_nil aB rfl rfl rfl) rfl rfl rfl ?_
  |refine aA (bJ rfl rfl (by intro _ h;cases h)) rfl rfl rfl ?_
  |refine aA (rP aB rfl rfl rfl rfl rfl rfl rfl rfl rfl rfl rfl) rfl rfl rfl ?_
  |refine aA (cU aB rfl rfl rfl rfl rfl rfl) rfl rfl rfl ?_)
 subst hn;refine aA (aSR aB (news:=[eR c]) (k:=6) rfl rfl rfl rfl rfl rfl rfl rfl) rfl rfl rfl ?_
 repeat (first
  |refine cN ?_
  |refine eP ?_
  |refine cF ?_
  |refine fM ?_
  |refine aH ?_
  |refine aC ?_
  |refine aS ?_
  |refine bD ?_
  |refine aL ?_
  |refine block_out rfl ?_
  |refine aM MIX ?_
  |refine aE ?_
  |refine aG ?_
  |refine aU ?_
  |refine aI ?_
  |refine aA (cJ rfl) rfl rfl rfl ?_
  |refine aA (bZ aB rfl rfl rfl rfl rfl rfl rfl) rfl rfl rfl ?_
  |refine aA (dF aB rfl rfl rfl rfl rfl rfl rfl) rfl rfl rfl ?_
  |refine aA (cH rfl) rfl rfl rfl ?_
  |refine aA (dS aB rfl rfl rfl) rfl rfl rfl ?_
  |refine aA (eG aB rfl rfl rfl rfl rfl rfl) rfl rfl rfl ?_
  |refine aA (jW rfl rfl rfl) rfl rfl rfl ?_
  |refine aA (aW aB rfl rfl rfl rfl rfl rfl (iG (by omega))) rfl rfl rfl ?_
  |refine aA (aW aB rfl rfl rfl rfl rfl rfl (gN (at_lt (by omega)))) rfl rfl rfl ?_
  |refine aA (w_add rfl rfl (by omega)) rfl rfl rfl ?_
  |refine fD rfl rfl ?_
  |refine aA (fG rfl rfl) rfl rfl rfl ?_
  |refine aA (cX aB rfl rfl rfl rfl rfl rfl) rfl rfl rfl ?_
  |refine aA (dM rfl) rfl rfl rfl ?_
  |refine aA (qW rfl rfl rfl rfl) rfl rfl rfl ?_
  |refine aA (bS aB rfl rfl) rfl rfl rfl ?_
  |refine aA (gQ aB rfl rfl rfl rfl rfl rfl rfl rfl) rfl rfl rfl ?_
  |refine aA (bX aB rfl rfl rfl rfl) rfl rfl rfl ?_
  |refine aA (w_len_nil aB rfl rfl rfl) rfl rfl rfl ?_
  |refine aA (bJ rfl rfl (by intro _ h;cases h)) rfl rfl rfl ?_
  |refine aA (rP aB rfl rfl rfl rfl rfl rfl rfl rfl rfl rfl rfl) rfl rfl rfl ?_
  |refine aA (cU aB rfl rfl rfl rfl rfl rfl) rfl rfl rfl ?_)
 refine aCq (ι:=Nat) (λk=>mkS [(7,.own 0 0 0),(8,.int k)] [(0,⟨6,List.replicate 0 aFp⟩)] 1 [1,2,3,4] ⟨0,false,none,true⟩) (λk=>k=0) (λk=>0) 0 rfl ?_ ?_
 ·refine fP (σ:=sg [(0,0)]) ⟨⟨_,rfl,⟨rfl,rfl,rfl,rfl⟩⟩,⟨_,rfl,rfl⟩,trivial⟩ ⟨⟨_,rfl,rfl,.inl ⟨rfl,λ_ h=>by cases h⟩⟩,rfl,trivial⟩ rfl
 ·rintro k rfl
  repeat (first
   |refine cN ?_
   |refine eP ?_
   |refine cF ?_
   |refine fM ?_
   |refine aH ?_
   |refine aC ?_
   |refine aS ?_
   |refine bD ?_
   |refine aL ?_
   |refine block_out rfl ?_
   |refine aM MIX ?_
   |refine aE ?_
   |refine aG ?_
   |refine aU ?_
   |refine aI ?_
   |refine aA (cJ rfl) rfl rfl rfl ?_
   |refine aA (bZ aB rfl rfl rfl rfl rfl rfl rfl) rfl rfl rfl ?_
   |refine aA (dF aB rfl rfl rfl rfl rfl rfl rfl) rfl rfl rfl ?_
   |refine aA (cH rfl) rfl rfl rfl ?_
   |refine aA (dS aB rfl rfl rfl) rfl rfl rfl ?_
   |refine aA (eG aB rfl rfl rfl rfl rfl rfl) rfl rfl rfl ?_
   |refine aA (jW rfl rfl rfl) rfl rfl rfl ?_
   |refine aA (aW aB rfl rfl rfl rfl rfl rfl (iG (by omega))) rfl rfl rfl ?_
   |refine aA (aW aB rfl rfl rfl rfl rfl rfl (gN (at_lt (by omega)))) rfl rfl rfl ?_
   |refine aA (w_add rfl rfl (by omega)) rfl rfl rfl ?_
   |refine fD rfl rfl ?_
   |refine aA (fG rfl rfl) rfl rfl rfl ?_
   |refine aA (cX aB rfl rfl rfl rfl rfl rfl) rfl rfl rfl ?_
   |refine aA (dM rfl) rfl rfl rfl ?_
   |refine aA (qW rfl rfl rfl rfl) rfl rfl rfl ?_
   |refine aA (bS aB rfl rfl) rfl rfl rfl ?_
   |refine aA (gQ aB rfl rfl rfl rfl rfl rfl rfl rfl) rfl rfl rfl ?_
   |refine aA (bX aB rfl rfl rfl rfl) rfl rfl rfl ?_
   |refine aA (w_len_nil aB rfl rfl rfl) rfl rfl rfl ?_
   |refine aA (bJ rfl rfl (by intro _ h;cases h)) rfl rfl rfl ?_
   |refine aA (rP aB rfl rfl rfl rfl rfl rfl rfl rfl rfl rfl rfl) rfl rfl rfl ?_
   |refine aA (cU aB rfl rfl rfl rfl rfl rfl) rfl rfl rfl ?_)
  refine mI rfl (λh=>?_) (λh=>?_)
  ·cases h
  ·clear h
   repeat (first
    |refine cN ?_
    |refine eP ?_
    |refine cF ?_
    |refine fM ?_
    |refine aH ?_
    |refine aC ?_
    |refine aS ?_
    |refine bD ?_
    |refine aL ?_
    |refine block_out rfl ?_
    |refine aM MIX ?_
    |refine aE ?_
    |refine aG ?_
    |refine aU ?_
    |refine aI ?_
    |refine aA (cJ rfl) rfl rfl rfl ?_
    |refine aA (bZ aB rfl rfl rfl rfl rfl rfl rfl) rfl rfl rfl ?_
    |refine aA (dF aB rfl rfl rfl rfl rfl rfl rfl) rfl rfl rfl ?_
    |refine aA (cH rfl) rfl rfl rfl ?_
    |refine aA (dS aB rfl rfl rfl) rfl rfl rfl ?_
    |refine aA (eG aB rfl rfl rfl rfl rfl rfl) rfl rfl rfl ?_
    |refine aA (jW rfl rfl rfl) rfl rfl rfl ?_
    |refine aA (aW aB rfl rfl rfl rfl rfl rfl (iG (by omega))) rfl rfl rfl ?_
    |refine aA (aW aB rfl rfl rfl rfl rfl rfl (gN (at_lt (by omega)))) rfl rfl rfl ?_
    |refine aA (w_add rfl rfl (by omega)) rfl rfl rfl ?_
    |refine fD rfl rfl ?_
    |refine aA (fG rfl rfl) rfl rfl rfl ?_
    |refine aA (cX aB rfl rfl rfl rfl rfl rfl) rfl rfl rfl ?_
    |refine aA (dM rfl) rfl rfl rfl ?_
    |refine aA (qW rfl rfl rfl rfl) rfl rfl rfl ?_
    |refine aA (bS aB rfl rfl) rfl rfl rfl ?_
    |refine aA (gQ aB rfl rfl rfl rfl rfl rfl rfl rfl) rfl rfl rfl ?_
    |refine aA (bX aB rfl rfl rfl rfl) rfl rfl rfl ?_
    |refine aA (w_len_nil aB rfl rfl rfl) rfl rfl rfl ?_
    |refine aA (bJ rfl rfl (by intro _ h;cases h)) rfl rfl rfl ?_
    |refine aA (rP aB rfl rfl rfl rfl rfl rfl rfl rfl rfl rfl rfl) rfl rfl rfl ?_
    |refine aA (cU aB rfl rfl rfl rfl rfl rfl) rfl rfl rfl ?_)
   exact ⟨_,Ent.refl _,rfl,⟨_,rfl,.inl rfl⟩,⟨rfl,trivial⟩⟩
def zW (a0:List Rp) (a1:Int):Option (List Rp):=
 match a0 with
 | [c]=>bif (decide (0≤a1)&&decide (a1≤1048576)) then some (List.replicate a1.toNat c) else none
 |_=>none
theorem aQQ (a0:List Rp) (a1:Int) (r:List Rp) (h:zW a0 a1=some r):HasE Tryz.prog 38 [.list 6 (List.map eR a0),.int a1] [] 0 (.own 0 0 r.length) [(0,⟨6,List.map eR r⟩)]:=by
 obtain ⟨c,rfl⟩: ∃ c,a0=[c]:=by
  unfold zW at h;split at h
  ·exact ⟨_,rfl⟩
  ·cases h
 simp only [zW] at h;cases hd:(decide (0≤a1)&&decide (a1≤1048576)) with
 |false=>rw [hd] at h;cases h
 |true=>
  rw [hd] at h;cases h;simp only [dK,iW] at hd;obtain ⟨n,rfl⟩: ∃ n:Nat,a1=n:=⟨a1.toNat,by omega⟩;rw [dE];rcases Nat.eq_zero_or_pos n with h0|h0
  ·exact aOK c n h0
  ·exact aQP c n h0 (by omega)
end
noncomputable section
section
variable {P:Program} {T:List (Nat×Ty)} {dst:Option Tmp} {ty:TypeId} {pos:String} {aft:Array Edge} {g:Option (Nat×Bool)}
theorem aDc (hT:TyOk P T) {ins:Operand→Option AV} {hp:Hp} {κ:Kp} {x:Operand} {t:Nat} {y:Ty} {cs:List AV} {W:World} {vb:Value} {S:List Nat} {K:List AV→Prop}
  (hfx:κ.fx=vQ W) (hrep:RepD W (.ref cs) vb S) (hx:ins x=some (.sc vb)) (hy:dO T t=some y) (h1:(y.desc.isAgg||Nat.beq y.size 1)=true) (hn:y.size≤cs.length) (ok:(cs.take y.size).all jY=true) (h:aEY W (cs.take y.size) K):
  ∃ xs,K xs∧AEff P ⟨dst,.load t x,ty,pos,aft,g⟩ ins hp κ ⟨vS y.desc.isAgg xs,[],[],[]⟩:=by
 have hlt:=hrep.lt;simp only [RepD] at hrep;obtain ⟨b,o,S',rfl,h4,rfl,h5⟩:=hrep;obtain ⟨us,g1,g2,g3,g4⟩:=h5.vals;obtain ⟨S2,g5,g6⟩:=g1.take y.size;obtain ⟨xs,hk,hxs⟩:=aKT g5 ok h;refine ⟨xs,hk,⟨λC s ν a w Q K {hκ} hi' ht hnw hd hs hK=>?_⟩⟩;have hp1:=hs.ev ((hi' x (by simp [Op.operands])).trans hx);simp only [RepA,RepB,Rep1] at hp1;have hst:=(hs.stays hκ hfx (b:=b) (hlt b (by simp))).1
 have hrun: ∃ v,(execOp a.eval ⟨dst,.load t x,ty,pos,aft,g⟩).run P w= .ok (.value v) w∧RepA w s.heap s.used ν (vS y.desc.isAgg xs) v:=by
  obtain ⟨ii,z,d,hy'⟩:=hT.is hy;have hl:(us.take y.size).length=y.size:=by simp;omega
  have hr:=mY (P:=P) hy' (w:=w) (b:=b) (o:=o) (vs:=us.take y.size) hl (λhg=>by rw [hg] at h1;simpa using Nat.eq_of_beq_eq_true h1) (λm u hu=>by
   have hm:m<y.size:=by
    rcases eD m y.size with h'|h'
    ·exact h'
    ·rw [gL (by omega)] at hu;cases hu
   rw [List.getElem?_take_of_lt hm] at hu
   exact (aJx hst).trans (g4 m u hu).1)
  refine ⟨_,by simp only [execOp,Instr.loadAt,hp1.1,Instr.sureAddr,Sem.run_bind,Sem.run_pure,Result.andThen_ok];rw [hr];rfl,?_⟩;have e3:=hxs w s.heap s.used ν;cases hg:y.desc.isAgg with
  |true=>
   simp only [vS,aN,if_true,RepA,RepB];exact ⟨_,rfl,e3⟩
  |false=>
   rw [hg] at h1;have hs1:y.size=1:=Nat.eq_of_beq_eq_true (by simpa using h1);simp only [vS,bA];revert e3 hl;generalize us.take y.size=vs;intro hl e3
   match xs,vs,e3 with
   | [],vs,e3=>simp only [All2] at e3;subst e3;simp [hs1] at hl
   |d::ds,vs,e3=>
    obtain ⟨v,r,rfl,e6,e7⟩:=e3;simp only [List.headD_cons,List.getElem?_cons_zero,qE,fU,if_false];exact e6.repA
 obtain ⟨v,h1,h2⟩:=hrun;unfold Oper.wp;rw [h1];simp only [Oper.upon];exact hK ν _ w (hs.step hd (Ext.refl _ _ _ _) (Below.refl _ _) hs.heap rfl h2)
end
section
variable {P:Program} {T:List (Nat×Ty)} {ops:Array Oper} {nt:Nat} {dst:Option Tmp} {ty:TypeId} {pos:String} {aft:Array Edge} {g:Option (Nat×Bool)} {rest:List Oper} {s:AState} {α:Type} {k:Nat} {e:α→List AV}
def aEC (W:World) (cs:List AV) (v:Value):Prop:= ∃ S,RepD W (.ref cs) v S
theorem aDK {l:List α} {i:Nat} {u:α} {W:World} {v:Value} {S:List Nat} (r:RepD W (.list k (l.map e)) v S) (hm:l[i]? =some u):aEC W (e u) (aCe v k i):=aJb (i:=i) (cs:=e u) r (by rw [List.getElem?_map,hm];rfl)
def aOL (v:Value) (j:Nat):Value:=match v with
 | .pointer (some a)=> .pointer (some ⟨a.block,a.off+j,none⟩)
 |v=>v
theorem aOM {W:World} {cs:List AV} {v:Value} (r:aEC W cs v) (j:Nat):aEC W (cs.drop j) (aOL v j):=by
 obtain ⟨S,r⟩:=r;simp only [RepD] at r;obtain ⟨b,o,S',rfl,h4,rfl,h5⟩:=r;obtain ⟨S2,h6,h7⟩:=h5.drop j;exact ⟨b::S2,by simp only [RepD];exact ⟨b,o+j,S2,rfl,h4,rfl,h6⟩⟩
theorem aMr (hT:TyOk P T) {x:Operand} {st f off ft:Nat} {cs:List AV} {y yf:Ty} {fs:List (Nat×Nat)} {W:World} {v:Value} (r:aEC W cs v) (hx:s.ev x=some (.sc v)) (hy:dO T st=some y) (hd:y.desc= .struct fs) (hf:fs[f]? =some (off,ft)) (hft:dO T ft=some yf) (hsz:Nat.beq yf.size 0=false):
  AEff P ⟨dst,.fieldAddr st x f,ty,pos,aft,g⟩ s.ev s.heap s.kp ⟨.sc (aOL v off),[],[],[]⟩:=
 AEff.pure λC s ν a w hi ht hs=>by
  have h1:=hs.ev ((hi x (by simp [Op.operands])).trans hx);simp only [RepA,RepB,Rep1] at h1;obtain ⟨S,r⟩:=r;simp only [RepD] at r;obtain ⟨b,o,S',rfl,h4,rfl,h5⟩:=r;obtain ⟨ii,z,d,hy'⟩:=hT.is hy;obtain ⟨if',zf,df,hyf⟩:=hT.is hft;obtain ⟨fields,hu,fd,hf1,hf2,hf3⟩:=hy'.field hd hf;have hs0:yf.size≠0:=λh=>by rw [h] at hsz;cases hsz
  refine ⟨.pointer (some ⟨b,o+off,none⟩),?_,by simp only [RepA,RepB,Rep1,aOL];exact ⟨trivial,rfl⟩⟩;simp only [execOp,Instr.fieldAt,Sem.run_bind,jG hu,Result.andThen_ok,hf1,h1.1,Instr.sureAddr,fieldPlace,Sem.run_pure,hf3,jO hyf.info,hyf.size,hs0,if_false,hf2];rw [Addr.add_lit]
theorem aMs (hT:TyOk P T) {x:Operand} {t:Nat} {y:Ty} {cs:List AV} {av:AV} {W:World} {v:Value} (r:aEC W cs v) (hfx:s.kp.fx=vQ W) (hx:s.ev x=some (.sc v)) (hy:dO T t=some y) (h1:(y.desc.isAgg||Nat.beq y.size 1)=true) (hn:Nat.ble y.size cs.length=true) (hpl:(cs.take y.size).all fH=true) (hv:vS y.desc.isAgg (cs.take y.size)=av):
  AEff P ⟨dst,.load t x,ty,pos,aft,g⟩ s.ev s.heap s.kp ⟨av,[],[],[]⟩:=by
 obtain ⟨S,hr⟩:=r;exact hv▸aBu hT hfx hr hr.lt hx hy h1 (Nat.le_of_ble_eq_true hn) hpl
theorem aQR (hT:TyOk P T) {K:AState→Prop} {x:Operand} {t:Nat} {y:Ty} {W:World} {v:Value} {c0:List AV} (cs:List AV) (r:aEC W c0 v) (hfx:s.kp.fx=vQ W) (hx:s.ev x=some (.sc v)) (hy:dO T t=some y) (h1:(y.desc.isAgg||Nat.beq y.size 1)=true) (hn:Nat.ble y.size c0.length=true) (hc:c0.take y.size=cs) (ok:cs.all jY=true)
  (hd:aEL ⟨dst,.load t x,ty,pos,aft,g⟩ nt=true) (hg:mH ops s.env ⟨dst,.load t x,ty,pos,aft,g⟩=some true)
  (h:aEY W cs λxs=>SOps P ops nt rest (s.app dst ⟨vS y.desc.isAgg xs,[],[],[]⟩) K):SOps P ops nt (⟨dst,.load t x,ty,pos,aft,g⟩::rest) s K:=by
 subst hc;obtain ⟨S',hr⟩:=r;obtain ⟨xs,hk,he⟩:=aDc (dst:=dst) (ty:=ty) (pos:=pos) (aft:=aft) (g:=g) hT (hp:=s.heap) hfx hr hx hy h1 (Nat.le_of_ble_eq_true hn) ok h;exact aLn he hd hg rfl hk
theorem aQS (hT:TyOk P T) {tr:List Tr} {K:List Tr→AState→Prop} {x:Operand} {t:Nat} {y:Ty} {W:World} {v:Value} {c0:List AV} (cs:List AV) (r:aEC W c0 v) (hfx:s.kp.fx=vQ W) (hx:s.ev x=some (.sc v)) (hy:dO T t=some y) (h1:(y.desc.isAgg||Nat.beq y.size 1)=true) (hn:Nat.ble y.size c0.length=true) (hc:c0.take y.size=cs) (ok:cs.all jY=true)
  (hd:aEL ⟨dst,.load t x,ty,pos,aft,g⟩ nt=true) (hg:mH ops s.env ⟨dst,.load t x,ty,pos,aft,g⟩=some true)
  (h:aEY W cs λxs=>AOps P ops nt rest (s.app dst ⟨vS y.desc.isAgg xs,[],[],[]⟩) (aAl ⟨vS y.desc.isAgg xs,[],[],[]⟩::tr) K):AOps P ops nt (⟨dst,.load t x,ty,pos,aft,g⟩::rest) s tr K:=by
 subst hc;obtain ⟨S',hr⟩:=r;obtain ⟨xs,hk,he⟩:=aDc (dst:=dst) (ty:=ty) (pos:=pos) (aft:=aft) (g:=g) hT (hp:=s.heap) hfx hr hx hy h1 (Nat.le_of_ble_eq_true hn) ok h;exact aA he hd hg rfl hk
end
end
end Go.Proofs.YtilpfdokmlanjaaGreat

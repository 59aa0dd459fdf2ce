/-
  Several texts of the claim in one.
-/
import Derived.Laws.BytesString
import Derived.Test.YtpppcfhgaehcjaaGreatH13
set_option linter.unusedVariables false
set_option linter.unusedSimpArgs false
namespace Go.Proofs.YtpppcfhgaehcjaaGreat
open Go.RowKit
noncomputable section
theorem aNX {s:AState} {b b' i j n k':Nat} {blk:Blk} {cs:List AV} {es':List (List AV)} (hb:s.heap b=some blk) (hi:blk.es[i]? =some cs) (hj:cs[j]? =some (.own b' 0 n)) (hne:Nat.beq b b'=false) (hv:view1 s.heap (.own b' 0 n) (.list k' es')):
  Ent s ⟨s.env,aZ [(b',none),(b,some ⟨blk.k,blk.es.set i (cs.take j++[.list k' es']++cs.drop (j+1))⟩)] s.heap,s.used,s.ns,s.kp⟩:=by
 have hjl:j<cs.length:=by
  rcases dI j cs.length with h'|h'
  ·exact h'
  ·rw [fR h'] at hj;cases hj
 intro C ν a w hs;have hne':b≠b':=by rintro rfl;simp at hne
 obtain ⟨φ,hh⟩:=hs.heap;obtain ⟨hub,⟨hk1,hx1⟩,hnd1,hB1⟩:=hh.blk b blk hb;have hcs:=hk1 cs (List.mem_of_getElem? hi);rcases hx1 with ⟨q1,q2,_⟩|⟨β,c,arr,ty,T,vs,q1,q2,q3,q4,q5,q6,q7,q8⟩
 ·rw [q2] at hi;simp at hi
 ·have hext:Ext w s.heap s.used ν w (aZ [(b',none),(b,some ⟨blk.k,blk.es.set i (cs.take j++[.list k' es']++cs.drop (j+1))⟩)] s.heap) s.used ν:=by
   refine ⟨λ_ h=>h,λb2 blk2 _ hb2=>?_,λx hx hfr=>⟨rfl,λb2 blk2 β2 c2 hb2 hν2=>?_⟩,rfl⟩
   ·simp only [aZ] at hb2;by_cases e:b2=b'
    ·subst e;rw [bU] at hb2;cases hb2
    ·rw [bX e] at hb2;by_cases e2:b2=b
     ·subst e2;simp only [aW,bU,aI,Option.some.injEq] at hb2;subst hb2;exact ⟨blk,hb,rfl,by simp,rfl⟩
     ·rw [bX e2] at hb2;exact ⟨blk2,hb2,rfl,rfl,rfl⟩
   ·simp only [aZ] at hb2;by_cases e:b2=b'
    ·subst e;rw [bU] at hb2;cases hb2
    ·rw [bX e] at hb2;by_cases e2:b2=b
     ·subst e2;exact hfr b2 blk β2 c2 hb hν2
     ·rw [bX e2] at hb2;exact hfr b2 blk2 β2 c2 hb2 hν2
  have hdrop:blk.es.flatten.drop (i*blk.k+j)= .own b' 0 n::blk.es.flatten.drop (i*blk.k+j+1):=by
   obtain ⟨r,hr⟩:=tS hk1 hi;have h1:blk.es.flatten.drop (i*blk.k+j)=(cs++r).drop j:=by rw [←hr,List.drop_drop]
   have h2:blk.es.flatten.drop (i*blk.k+j+1)=(cs++r).drop (j+1):=by rw [←hr,List.drop_drop,Nat.add_assoc]
   rw [h1,h2,List.drop_append_of_le_length (by omega),List.drop_append_of_le_length (by omega),List.drop_eq_getElem_cons hjl];have:cs[j]= .own b' 0 n:=by simpa [hjl] using hj
   rw [this];rfl
  have hfl:blk.es.flatten=blk.es.flatten.take (i*blk.k+j)++([.own b' 0 n]++blk.es.flatten.drop (i*blk.k+j+1)):=by
   rw [List.singleton_append,←hdrop,List.take_append_drop]
  rw [hfl] at q8;obtain ⟨v1,v2,S1,S2,e1,e2,e3,e4,e5⟩:=q8.append_inv;obtain ⟨v3,v4,S3,S4,f1,f2,f3,f4,f5⟩:=e5.append_inv;subst f1 f2;obtain ⟨v,r0,S5,S6,rfl,rfl,g1,⟨rfl,rfl⟩⟩:=f4;simp only [CellRep] at g1;obtain ⟨g2,rfl⟩:=g1;obtain ⟨⟨S',d1,d2⟩,_⟩:=view1.repF hh g2 hv
  have hfree: ∀ y∈S',iD (aZ [(b',none),(b,some ⟨blk.k,blk.es.set i (cs.take j++[.list k' es']++cs.drop (j+1))⟩)] s.heap) ν y:=by
   intro y hy;rcases d2 y hy with ⟨b0,b1,b2,b3⟩|hf
   ·simp only [rW,List.mem_singleton] at b1;subst b1;refine ⟨λc2 blk2 β2 c3 hc hν e=>?_,?_⟩
    ·subst e;simp only [aZ] at hc;by_cases e:c2=b0
     ·subst e;rw [bU] at hc;cases hc
     ·rw [bX e] at hc;simp only [aW] at hc;by_cases e2:c2=b
      ·subst e2;exact hh.apart c2 b0 β2 (by rw [hb];simp) b2 e (by rw [q1] at hν;cases hν;rw [q6];simp) b3
      ·rw [bX e2] at hc;simp only [aW] at hc;exact hh.apart c2 b0 β2 (by rw [hc];simp) b2 e (lX (hh.blk c2 blk2 hc).2.1 hν) b3
    ·obtain ⟨blk3,hbl⟩:=Option.ne_none_iff_exists'.1 b2;exact hs.okM y ((hh.blk b0 blk3 hbl).2.2.2 y b3)
   ·exact ⟨(hext.free y (d1.lt y hy) hf.1).2,hf.2⟩
  have hφ:φ b=β::(S1++S4):=by rw [q6,e2];simp
  refine ⟨ν,hs.below,hs.base,hs.fresh,hs.defers,hs.size,λt x hx=>by obtain ⟨v,h1,h2⟩:=hs.env t x hx;exact ⟨v,h1,h2.ext hext⟩,⟨φ,?_,?_⟩,hs.kp,hs.ext.trans hext,hs.szE,hs.okM,hs.okF⟩
  ·intro x blk2 hx;simp only [aZ] at hx;by_cases e:x=b'
   ·subst e;rw [bU] at hx;cases hx
   ·rw [bX e] at hx;by_cases e0:x=b
    ·subst e0;simp only [aW,bU,aI,Option.some.injEq] at hx;subst hx;refine ⟨hub,⟨?_,.inr ⟨β,c,arr,ty,S1++S4,vs,q1,q2,q3,by simpa using q4,q5,hφ,by simpa using q7,?_⟩⟩,hnd1,hB1⟩
     ·intro d hd;rcases List.mem_or_eq_of_mem_set hd with h|h
      ·exact hk1 d h
      ·rw [h];simp;omega
     ·rw [uQ (n:=1) hk1 hi rfl (by omega),e1];have m1:CellsRep w (aZ [(b',none),(x,some ⟨blk.k,blk.es.set i (cs.take j++[.list k' es']++cs.drop (j+1))⟩)] s.heap) s.used ν [.list k' es'] [v] []:=⟨v,[],[],[],rfl,rfl,⟨⟨S',d1,hfree⟩,rfl⟩,rfl,rfl⟩;have m2:=(e4.ext hext (λ_ _=>rfl)).append (m1.append (f5.ext hext (λ_ _=>rfl)));rw [List.append_assoc (List.take (i*blk.k+j) blk.es.flatten)];simpa using m2
    ·rw [bX e0] at hx;obtain ⟨p1,p2,p3,p4⟩:=hh.blk x blk2 hx;exact ⟨p1,p2.ext hext rfl (λ_ _=>rfl),p3,p4⟩
  ·have hsub: ∀ x,aZ [(b',none),(b,some ⟨blk.k,blk.es.set i (cs.take j++[.list k' es']++cs.drop (j+1))⟩)] s.heap x≠none→s.heap x≠none:=by
    intro x hx;have hxb':x≠b':=by rintro rfl;simp [aZ] at hx
    simp only [aZ,bX hxb',aW] at hx;by_cases e0:x=b
    ·subst e0;rw [hb];simp
    ·rw [bX e0] at hx;exact hx
   intro x1 x2 y hx1 hx2 hne2 hy1 hy2;exact hh.apart x1 x2 y (hsub x1 hx1) (hsub x2 hx2) hne2 hy1 hy2
theorem aKU {s:AState} {b b' i j n k':Nat} {blk:Blk} {cs:List AV} {es':List (List AV)} (hb:s.heap b=some blk) (hi:blk.es[i]? =some cs) (hj:cs[j]? =some (.own b' 0 n)) (hne:Nat.beq b b'=false) (hv:view1 s.heap (.own b' 0 n) (.list k' es')):
  Ent s ⟨s.env,aZ [(b',none),(b,some ⟨blk.k,blk.es.set i (aAK cs j [.list k' es'])⟩)] s.heap,s.used,s.ns,s.kp⟩:=by
 have hjl:j<cs.length:=by
  rcases dI j cs.length with h'|h'
  ·exact h'
  ·rw [fR h'] at hj;cases hj
 rw [←aBT (by simp;omega)];exact aNX hb hi hj hne hv
end
noncomputable section
set_option maxRecDepth 10000
set_option maxHeartbeats 4000000
def qI (a0:Qv):Option Qv:=
 (pP a0.src).bind λv1=>
 (pP a0.tgt).bind λv2=>
 some ((⟨a0.n,v1,v2⟩:Qv))
theorem aBn (a0:Qv) (r:Qv) (h:qI a0=some r):HasC Tryz.prog 107 [.agg (eQ a0)] (.agg (eQ r)):=by
 exact hM [.cell 2 29] Tryz.func107 Tryz.ntmps107 k<|sR<|ae (wb k) k<|ae (dB aH k k) k<|an<|tn<|sQ<|aN gV<|fp k8<|lp k8<|fp k8<|lp k8<|oB h λv1 hv1 h=>ae (cL dD (aBY a0.src v1 hv1) k3 (dX k aV)) k<|fp k8<|lp k8<|oB h λv2 hv2 h=>ae (cL dD (aBY a0.tgt v2 hv2) k3 (dX k aV)) k<|ae (jC aH k k k k k k) k<|ae (ws k) k<|an<|sG (by kernel_rfl)<|tn<|aG<|sp h (bN k k k (sT (aU (k) (aU (gU dD k k) (aU (gU dD k k) gX)))))
def pG (a1:Qv) (a2:(List Int)) (x1:((List Mt)×Int)):Option (((List Mt)×Int) ⊕ (List Mt)):=
 bif decide (x1.2<(a1.src.length:Int)) then
 ((cE a1.src x1.2).bind λv4=>
 (cE a1.tgt x1.2).bind λv5=>
 (cE a2 v5).bind λv6=>
 (cE a2 v4).bind λv7=>
 (mO v6 v7).bind λv8=>
 bif decide (x1.1.length+1≤4294967296) then
 (some (.inl ((x1.1++[v8]),wr (x1.2+1))))
 else none)
 else
 (some (.inr x1.1))
def tJ (a0:Int) (a1:Qv) (a2:(List Int)):Option Rp:=
 (qI a1).bind λv1=>
 (pP a2).bind λv2=>
 (Lp (pG a1 a2) ([],0)).bind λy10=>
 some ((⟨a0,v1,v2,y10⟩:Rp))
theorem aGO (a0:Int) (a1:Qv) (a2:(List Int)) (r:Rp) (h:tJ a0 a1 a2=some r):HasC Tryz.prog 69 [.int a0,.agg (eQ a1),.list 1 (a2.map eI)] (.agg (eR r)):=by
 refine hM [.cell 6 38] Tryz.func69 Tryz.ntmps69 k<|sR<|ae (wb k) k<|ae (dB aH k k) k<|an<|tn<|sR<|am k k<|lp k8<|oB h λv1 hv1 h=>ae (cQ (aBn a1 v1 hv1) k3 (bB (qH k) aV)) k<|am k k<|oB h λv2 hv2 h=>ae (cL dD (aBY a2 v2 hv2) k3 (dX k aV)) k<|ae (jC aH k k k k k k) k<|ae (dB aH k k) k<|ae (ws k) k<|an<|tn<|sQ<|sR<|fp k8<|lp k8<|ln k4<|am k k<|an<|tn<|aC<|oB h λy10 hy10 h=>bW (body:=(pG a1 a2)) hy10 (λ(x1:((List Mt)×Int))=>mN [(2,.list 1 (a2.map eI)),(4,.ptr 0 0 0),(6,.ptr 1 0 0),(7,.ptr 2 0 0),(17,.list 1 (a1.src.map eI)),(18,.int (a1.src.length:Int)),(19,.int x1.2)] [(0,⟨3,[eQ a1]⟩),(1,⟨6,[uF]⟩),(2,⟨6,[[.int a0,.int v1.n,.own 3 0 v1.src.length,.own 4 0 v1.tgt.length,.own 5 0 v2.length,.own 6 0 x1.1.length]]⟩),(3,⟨1,v1.src.map (ow eI)⟩),(4,⟨1,v1.tgt.map (ow eI)⟩),(5,⟨1,v2.map (ow eI)⟩),(6,⟨3,x1.1.map (ow eM)⟩)] 7) (λr e t=>e= .exit 0∧Ent t (mN [(6,.ptr 0 0 0),(7,.ptr 1 0 0)] [(0,⟨6,[uF]⟩),(1,⟨6,[[.int a0,.int v1.n,.own 2 0 v1.src.length,.own 3 0 v1.tgt.length,.own 4 0 v2.length,.own 5 0 r.length]]⟩),(2,⟨1,v1.src.map (ow eI)⟩),(3,⟨1,v1.tgt.map (ow eI)⟩),(4,⟨1,v2.map (ow eI)⟩),(5,⟨3,r.map (ow eM)⟩)] 6)) (eU (σ:=sg [(0,0),(1,1),(2,5),(3,2),(4,3),(5,4)]) (bH k2) (bP k<|bP k<|hX ⟨_,k,k,.inr ⟨_,_,k,⟨_,_,k,k,⟨_,_,k,k,⟨_,_,k,⟨k,k,k,k⟩,⟨_,_,k,⟨k,k,k,k⟩,⟨_,_,k,⟨k,k,k,k⟩,⟨_,_,k,⟨k,k,k,k⟩,k⟩⟩⟩⟩⟩⟩,k⟩⟩ k<|bS k<|bS k<|bS k<|hX k k<|aR) k) ?_ ?_
 ·intro x1 o h;refine sR<|cm k4<|an<|tn<|sQ<|dJ k h (λ_ h=>?_) λ_ h=>aX<|aA<|aA<|sp h ⟨_,k,k,(sW [1,2,3,4,5,6] (bH k2) (bP k<|gA k<|bS k<|bS k<|bS k<|cD (dF.plainO _) k<|aR) k4)⟩;refine aD<|tn<|sQ<|aC<|sR<|am k k<|oB h λv4 hv4 h=>ae (xl hv4 k) k<|lr k7<|aa k k<|aT k2<|aN gV<|fp k8<|lp k8<|am k k<|fp k8<|lp k8<|am k k<|oB h λv5 hv5 h=>ae (xl hv5 k) k<|lr k7<|oB h λv6 hv6 h=>ae (xl hv6 k) k<|lr k7<|am k k<|am k k<|oB h λv7 hv7 h=>ae (xl hv7 k) k<|lr k7<|oB h λv8 hv8 h=>ae (cM (vF v6 v7 v8 hv8) k3 (dX k (dX k aV))) k ?_;exact ae (wl k) k<|cG h λq9 h=>ae (kY aH (l:=x1.1) (c:=[.int v8.rows,.int v8.cols,.own 7 0 v8.cells.length]) q9 k k k k k k k k k k k k k k) k<|fp k8<|ae (ws k) k<|an<|sG (by kernel_rfl)<|aS<|tn<|aM (t:=mN [(2,.list 1 (a2.map eI)),(4,.ptr 0 0 0),(6,.ptr 1 0 0),(7,.ptr 2 0 0),(17,.list 1 (a1.src.map eI)),(18,.int (a1.src.length:Int)),(19,.int x1.2)] [(0,⟨3,[eQ a1]⟩),(1,⟨6,[uF]⟩),(2,⟨6,[[.int a0,.int v1.n,.own 3 0 v1.src.length,.own 4 0 v1.tgt.length,.own 5 0 v2.length,.own 9 0 ((x1.1++[v8]).length)]]⟩),(3,⟨1,v1.src.map (ow eI)⟩),(4,⟨1,v1.tgt.map (ow eI)⟩),(5,⟨1,v2.map (ow eI)⟩),(9,⟨3,List.map (ow eM) (x1.1++[v8])⟩)] 10) (Ent.trans (eG (b:=9) (b':=7) (j:=2) (es':=v8.cells.map eI) k k k k (aL _ _) (dD.frzs _)) (bK (bH k2) (bP k<|bP k<|hX ⟨_,k,k,.inr ⟨_,_,k,⟨_,_,k,k,⟨_,_,k,k,⟨_,_,k,⟨k,k,k,k⟩,⟨_,_,k,⟨k,k,k,k⟩,⟨_,_,k,⟨k,k,k,k⟩,⟨_,_,k,⟨k,k,(by simp only [aL,lA,lT,lR,lC,lN]),k⟩,k⟩⟩⟩⟩⟩⟩,k⟩⟩ k<|bS k<|bS k<|bS k<|hX ⟨_,k,k,.inl ⟨lY v8 k,dF.plainO _⟩⟩ k<|aR) k4))<|rg<|ae (bC k k) k<|am k k<|an<|tn<|sp h ⟨_,k,(sW [0,1,2,3,4,5,9] (bH k2) (bP k<|bP k<|gA k<|bS k<|bS k<|bS k<|cD (dF.plainO _) k<|aR) k4)⟩
 ·rintro e t ⟨rfl,hent⟩;exact aJ<|tn<|aM hent<|sR<|lp k8<|ae (ws k) k<|an<|tn<|aG<|sp h (bN k k k (sT (aU (k) (aU (k) (aU (gU dD k k) (aU (gU dD k k) (aU (gU dD k k) (aU (gU dF k k) gX))))))))
def uX (a0:Qv):Option Qv:=
 bif decide (([]:(List Int)).length +a0.src.length≤4294967296) then
 (bif decide (([]:(List Int)).length +a0.tgt.length≤4294967296) then
 (some ((⟨a0.n,(([]:(List Int))++a0.src),(([]:(List Int))++a0.tgt)⟩:Qv)))
 else none)
 else none
theorem aHD (a0:Qv) (r:Qv) (h:uX a0=some r):HasC Tryz.prog 75 [.agg (eQ a0)] (.agg (eQ r)):=by
 exact hM [.cell 2 29] Tryz.func75 Tryz.ntmps75 k<|sR<|ae (wb k) k<|ae (dB aH k k) k<|an<|tn<|sQ<|aN gV<|fp k8<|lp k8<|ae (wl k) k<|fp k8<|lp k8<|cG h λq1 h=>ae (vC aH (l:=([]:(List Int))) (m:=a0.src) kL q1 k k k k k k k k k k k k) k<|ae (wl k) k<|fp k8<|lp k8<|cG h λq2 h=>ae (vC aH (l:=([]:(List Int))) (m:=a0.tgt) kL q2 k k k k k k k k k k k k) k<|ae (jC aH k k k k k k) k<|ae (ws k) k<|an<|sG (by kernel_rfl)<|tn<|aG<|sp h (bN k k k (sT (aU (k) (aU (gU dD k k) (aU (gU dD k k) gX)))))
def qD (a1:Qv) (a2:(List Int)) (x1:((List Mt)×Int)):Option (((List Mt)×Int) ⊕ (List Mt)):=
 bif decide (x1.2<(a1.src.length:Int)) then
 ((cE a1.tgt x1.2).bind λv4=>
 (cE a2 v4).bind λv5=>
 (cE a1.src x1.2).bind λv6=>
 (cE a2 v6).bind λv7=>
 (uS v5 v7).bind λv8=>
 bif decide (x1.1.length+1≤4294967296) then
 (some (.inl ((x1.1++[v8]),wr (x1.2+1))))
 else none)
 else
 (some (.inr x1.1))
def uY (a0:Int) (a1:Qv) (a2:(List Int)):Option Rp:=
 (uX a1).bind λv1=>
 bif decide (([]:(List Int)).length +a2.length≤4294967296) then
 ((Lp (qD a1 a2) (([]:(List Mt)),0)).bind λy10=>
 some ((⟨a0,v1,(([]:(List Int))++a2),y10⟩:Rp)))
 else none
theorem aHE (a0:Int) (a1:Qv) (a2:(List Int)) (r:Rp) (h:uY a0 a1 a2=some r):HasC Tryz.prog 36 [.int a0,.agg (eQ a1),.list 1 (a2.map eI)] (.agg (eR r)):=by
 refine hM [.cell 6 38] Tryz.func36 Tryz.ntmps36 k<|sR<|ae (wb k) k<|ae (dB aH k k) k<|an<|tn<|sR<|am k k<|lp k8<|oB h λv1 hv1 h=>ae (cQ (aHD a1 v1 hv1) k3 (bB (qH k) aV)) k<|ae (wl k) k<|am k k<|cG h λq2 h=>ae (vC aH (l:=([]:(List Int))) (m:=a2) kL q2 k k k k k k k k k k k k) k<|ae (wl k) k<|ae (jC aH k k k k k k) k<|ae (dB aH k k) k<|ae (ws k) k<|an<|tn<|aM (t:=mN [(2,.list 1 (a2.map eI)),(4,.ptr 0 0 0),(6,.ptr 1 0 0),(7,.ptr 7 0 0)] [(0,⟨3,[eQ a1]⟩),(1,⟨6,[uF]⟩),(2,⟨1,v1.src.map (ow eI)⟩),(3,⟨1,v1.tgt.map (ow eI)⟩),(5,⟨1,List.map (ow eI) (([]:(List Int))++a2)⟩),(6,⟨3,List.map (ow eM) ([]:(List Mt))⟩),(7,⟨6,[[.int a0,.int v1.n,.own 2 0 v1.src.length,.own 3 0 v1.tgt.length,.own 5 0 ((([]:(List Int))++a2).length),.own 6 0 (([]:(List Mt)).length)]]⟩)] 8) (bK (bH k2) (bP k<|bP k<|bS k<|bS k<|bS k<|cD (dF.plainO _) k<|hX ⟨_,k,k,.inr ⟨_,_,k,⟨_,_,k,k,⟨_,_,k,k,⟨_,_,k,⟨k,k,k,k⟩,⟨_,_,k,⟨k,k,k,k⟩,⟨_,_,k,⟨k,k,k,k⟩,⟨_,_,k,⟨k,k,(by simp only [aL,lA,lT,lR,lC,lN]),k⟩,k⟩⟩⟩⟩⟩⟩,k⟩⟩ k<|aR) k4)<|sQ<|sR<|aT k2<|aC<|oB h λy10 hy10 h=>bW (body:=(qD a1 a2)) hy10 (λ(x1:((List Mt)×Int))=>mN [(2,.list 1 (a2.map eI)),(4,.ptr 0 0 0),(6,.ptr 1 0 0),(7,.ptr 2 0 0),(8,.int x1.2)] [(0,⟨3,[eQ a1]⟩),(1,⟨6,[uF]⟩),(2,⟨6,[[.int a0,.int v1.n,.own 3 0 v1.src.length,.own 4 0 v1.tgt.length,.own 5 0 ((([]:(List Int))++a2).length),.own 6 0 x1.1.length]]⟩),(3,⟨1,v1.src.map (ow eI)⟩),(4,⟨1,v1.tgt.map (ow eI)⟩),(5,⟨1,List.map (ow eI) (([]:(List Int))++a2)⟩),(6,⟨3,x1.1.map (ow eM)⟩)] 7) (λr e t=>e= .exit 0∧Ent t (mN [(6,.ptr 0 0 0),(7,.ptr 1 0 0)] [(0,⟨6,[uF]⟩),(1,⟨6,[[.int a0,.int v1.n,.own 2 0 v1.src.length,.own 3 0 v1.tgt.length,.own 4 0 ((([]:(List Int))++a2).length),.own 5 0 r.length]]⟩),(2,⟨1,v1.src.map (ow eI)⟩),(3,⟨1,v1.tgt.map (ow eI)⟩),(4,⟨1,List.map (ow eI) (([]:(List Int))++a2)⟩),(5,⟨3,r.map (ow eM)⟩)] 6)) (sW [0,1,7,2,3,5,6] (bH k2) (bP k<|bP k<|gA k<|bS k<|bS k<|bS k<|cD (dF.plainO _) k<|aR) k4) ?_ ?_
 ·intro x1 o h;refine sQ<|sR<|am k k<|fp k8<|lp k8<|ln k4<|cm k4<|an<|tn<|dJ k h (λ_ h=>?_) λ_ h=>aX<|aA<|aA<|sp h ⟨_,k,k,(sW [1,2,3,4,5,6] (bH k2) (bP k<|gA k<|bS k<|bS k<|bS k<|cD (dF.plainO _) k<|aR) k4)⟩;refine aD<|tn<|sQ<|aC<|aN gV<|fp k8<|lp k8<|am k k<|fp k8<|lp k8<|am k k<|oB h λv4 hv4 h=>ae (xl hv4 k) k<|lr k7<|oB h λv5 hv5 h=>ae (xl hv5 k) k<|lr k7<|am k k<|fp k8<|lp k8<|am k k<|oB h λv6 hv6 h=>ae (xl hv6 k) k<|lr k7<|oB h λv7 hv7 h=>ae (xl hv7 k) k<|lr k7<|oB h λv8 hv8 h=>ae (cM (aGu v5 v7 v8 hv8) k3 (dX k (dX k aV))) k<|ae (wl k) k<|cG h λq9 h=>ae (kY aH (l:=x1.1) (c:=[.int v8.rows,.int v8.cols,.own 7 0 v8.cells.length]) q9 k k k k k k k k k k k k k k) k<|fp k8<|ae (ws k) k<|an ?_;exact sG (by kernel_rfl)<|aS<|tn<|aM (t:=mN [(2,.list 1 (a2.map eI)),(4,.ptr 0 0 0),(6,.ptr 1 0 0),(7,.ptr 2 0 0),(8,.int x1.2)] [(0,⟨3,[eQ a1]⟩),(1,⟨6,[uF]⟩),(2,⟨6,[[.int a0,.int v1.n,.own 3 0 v1.src.length,.own 4 0 v1.tgt.length,.own 5 0 ((([]:(List Int))++a2).length),.own 9 0 ((x1.1++[v8]).length)]]⟩),(3,⟨1,v1.src.map (ow eI)⟩),(4,⟨1,v1.tgt.map (ow eI)⟩),(5,⟨1,List.map (ow eI) (([]:(List Int))++a2)⟩),(9,⟨3,List.map (ow eM) (x1.1++[v8])⟩)] 10) (Ent.trans (eG (b:=9) (b':=7) (j:=2) (es':=v8.cells.map eI) k k k k (aL _ _) (dD.frzs _)) (bK (bH k2) (bP k<|bP k<|hX ⟨_,k,k,.inr ⟨_,_,k,⟨_,_,k,k,⟨_,_,k,k,⟨_,_,k,⟨k,k,k,k⟩,⟨_,_,k,⟨k,k,k,k⟩,⟨_,_,k,⟨k,k,k,k⟩,⟨_,_,k,⟨k,k,(by simp only [aL,lA,lT,lR,lC,lN]),k⟩,k⟩⟩⟩⟩⟩⟩,k⟩⟩ k<|bS k<|bS k<|bS k<|hX ⟨_,k,k,.inl ⟨lY v8 k,dF.plainO _⟩⟩ k<|aR) k4))<|rg<|am k k<|ae (bC k k) k<|aT k2<|sp h ⟨_,k,(sW [0,1,2,3,4,5,9] (bH k2) (bP k<|bP k<|gA k<|bS k<|bS k<|bS k<|cD (dF.plainO _) k<|aR) k4)⟩
 ·rintro e t ⟨rfl,hent⟩;exact aJ<|tn<|aM hent<|sR<|lp k8<|ae (ws k) k<|an<|tn<|aG<|sp h (bN k k k (sT (aU (k) (aU (k) (aU (gU dD k k) (aU (gU dD k k) (aU (gU dD k k) (aU (gU dF k k) gX))))))))
def iQ (v7:Rp) (v11:List Int) (x1:(List Mt)):Option ((List Mt) ⊕ (Rp×Bool)):=
 (oJ v7.maps v11).bind λv12=>
 (qR (⟨v7.p,v7.q,v7.dims,v12⟩:Rp) (⟨v7.p,v7.q,v7.dims,v12⟩:Rp)).bind λv13=>
 bif decide (v13=1) then
 (some (.inr (((⟨v7.p,v7.q,v7.dims,v12⟩:Rp),true))))
 else
 (some (.inl v12))
def tK (a0:Int) (a1:Qv) (a2:(List Int)):Option (Rp×Bool):=
 (mD a0).bind λv1=>
 bif !v1 then
 (some (((⟨0,(⟨0,[],[]⟩:Qv),[],[]⟩:Rp),false)))
 else
 ((uW a1 a2).bind λv3=>
 bif !v3 then
 (some (((⟨0,(⟨0,[],[]⟩:Qv),[],[]⟩:Rp),false)))
 else
 ((sZ a1 a2).bind λv5=>
 bif !v5 then
 (some (((⟨0,(⟨0,[],[]⟩:Qv),[],[]⟩:Rp),false)))
 else
 ((tJ a0 a1 a2).bind λv7=>
 (iH v7.maps).bind λv8=>
 bif decide (10<((v8.length:Nat):Int)) then
 (some (((⟨0,(⟨0,[],[]⟩:Qv),[],[]⟩:Rp),false)))
 else
 (bif (decide (0≤((v8.length:Nat):Int))&&decide (((v8.length:Nat):Int)≤1048576)) then
 (bif aGL (List.replicate ((v8.length:Nat):Int).toNat 1) then
 ((Fl (iQ v7) (cJ (List.replicate ((v8.length:Nat):Int).toNat 1)) v7.maps).bind λy15=>
 Sum.elim (λy15=>
 some (((⟨0,(⟨0,[],[]⟩:Qv),[],[]⟩:Rp),false))
 ) (λy17=>
 some y17
 ) y15)
 else none)
 else none))))
theorem aGP (a0:Int) (a1:Qv) (a2:(List Int)) (r:(Rp×Bool)) (h:tK a0 a1 a2=some r):HasC Tryz.prog 33 [.int a0,.agg (eQ a1),.list 1 (a2.map eI)] (.tuple [.agg (eR r.1),.bl r.2]):=by
 refine hM [.cell 6 38,.cell 7 4] Tryz.func33 Tryz.ntmps33 k<|sR<|ae (wb k) k<|ae (dB aH k k) k<|ae (dB aH k k) k<|an<|tn<|sQ<|sR<|am k k<|oB h λv1 hv1 h=>ae (aY (sX a0 v1 hv1) k (dX k aV)) k<|ae (fM k) k<|am k k<|tQ h (λq2 h=>bA 15 k q2<|aK k4<|aK k4<|pk k3<|am k k<|aK k4<|aK k4<|pk k3<|an<|tn<|gT k k<|sR<|ae (jC aH k k k k k k) k<|ae (ws k) k<|ae (ws k) k<|an<|tn<|aG<|aE<|sp h (bN k k k (fS k (cX (tX (aU (k) (aU (k) (aU (k) (aU (k) (aU (k) (aU (k) gX))))))) (cX (k) kX))))) λq2 h=>?_;refine bA 15 k q2<|lp k8<|am k k<|oB h λv3 hv3 h=>ae (aY (aHC a1 a2 v3 hv3) k (bB (qH k) (dX k aV))) k<|ae (fM k) k<|pk k3<|am k k<|tQ h (λq4 h=>bA 21 k q4<|aK k4<|aK k4<|pk k3<|an<|tn<|gT k k<|sR<|ae (jC aH k k k k k k) k<|ae (ws k) k<|ae (ws k) k<|an<|tn<|aG<|aE<|sp h (bN k k k (fS k (cX (tX (aU (k) (aU (k) (aU (k) (aU (k) (aU (k) (aU (k) gX))))))) (cX (k) kX))))) λq4 h=>?_;refine bA 21 k q4<|lp k8<|am k k<|oB h λv5 hv5 h=>ae (aY (aFn a1 a2 v5 hv5) k (bB (qH k) (dX k aV))) k<|ae (fM k) k<|pk k3<|an<|tn<|dJ k h (λ_ h=>sR<|ae (jC aH k k k k k k) k<|ae (ws k) k<|ae (ws k) k<|an<|tn<|aG<|aE<|sp h (bN k k k (fS k (cX (tX (aU (k) (aU (k) (aU (k) (aU (k) (aU (k) (aU (k) gX))))))) (cX (k) kX))))) λ_ h=>?_;refine aD<|tn<|sR<|am k k<|lp k8<|am k k<|oB h λv7 hv7 h=>ae (cR (aGO a0 a1 a2 v7 hv7) k3 (dX k (bB (qH k) (dX k aV)))) k<|ae (dB aH k k) k<|ae (ws k) k<|an<|tn<|aM (t:=mN [(6,.ptr 1 0 0),(7,.ptr 2 0 0),(8,.ptr 7 0 0)] [(1,⟨6,[uF]⟩),(2,⟨1,[[.bl false]]⟩),(3,⟨1,v7.q.src.map (ow eI)⟩),(4,⟨1,v7.q.tgt.map (ow eI)⟩),(5,⟨1,v7.dims.map (ow eI)⟩),(6,⟨3,v7.maps.map (ow eM)⟩),(7,⟨6,[oRp v7 3 4 5 6]⟩)] 8) (bK (bH k2) (bP k<|bP k<|bS k<|bS k<|bS k<|cD (dF.plainO _) k<|gA k<|aR) k4)<|sR<|fp k8<|lp k8<|oB h λv8 hv8 h=>ae (cL dD (xX v7.maps v8 hv8) k3 (bB (tN dF k k) aV)) k<|ae (cW aH k k k k) k<|aT k2<|sQ<|sR<|am k k<|cm k4<|an<|tn<|dJ k h (λ_ h=>sR<|ae (jC aH k k k k k k) k<|ae (ws k) k<|ae (ws k) k<|an<|tn<|aG<|aE<|sp h (bN k k k (fS k (cX (tX (aU (k) (aU (k) (aU (k) (aU (k) (aU (k) (aU (k) gX))))))) (cX (k) kX))))) λ_ h=>?_;refine aD<|tn<|sQ<|aM (aKU (b:=7) (b':=6) (i:=0) (j:=5) (es':=v7.maps.map eM) k k k k (aGs dF k k))<|rg<|fp k8<|lp k8<|ae (dB aH k k) k<|ae (ws k) k<|an<|tn<|sQ<|sR<|ae (wl k) k<|am k k<|cG h λq10 h=>ae (aHr (aHw 1 ((v8.length:Nat):Int) q10) k k (bB (aLJ k k ⟨_,_,k,⟨_,_,k,k,k⟩,k⟩) (dX k aV))) k<|ae (aKQ (aMd (List.replicate ((v8.length:Nat):Int).toNat 1)) k k k k) k<|an<|tn<|aC<|cG h λq16 h=>oB h λy15 hy15 h=>aKO (f:=(iQ v7)) (σ:=(List Mt)) (ρ:=(Rp×Bool)) y15 v7.maps [(6,.ptr 0 0 0),(7,.ptr 1 0 0),(8,.ptr 2 0 0),(10,.ptr 6 0 0),(44,.fn 109 [.ref [.list 1 (List.map eI (List.replicate ((v8.length:Nat):Int).toNat 1))]])] [(0,⟨6,[[.int 0,.int 0,.nil 1,.nil 1,.nil 1,.nil 3]]⟩),(1,⟨1,[[.bl false]]⟩),(2,⟨6,[[.int v7.p,.int v7.q.n,.own 3 0 v7.q.src.length,.own 4 0 v7.q.tgt.length,.own 5 0 v7.dims.length,.list 3 (v7.maps.map eM)]]⟩),(3,⟨1,v7.q.src.map (ow eI)⟩),(4,⟨1,v7.q.tgt.map (ow eI)⟩),(5,⟨1,v7.dims.map (ow eI)⟩),(6,⟨1,[[.list 3 (v7.maps.map eM)]]⟩)] 7 (nmA.drop 7) (λx1=>[(0,⟨6,[[.int 0,.int 0,.nil 1,.nil 1,.nil 1,.nil 3]]⟩),(1,⟨1,[[.bl false]]⟩),(2,⟨6,[[.int v7.p,.int v7.q.n,.own 3 0 v7.q.src.length,.own 4 0 v7.q.tgt.length,.own 5 0 v7.dims.length,.list 3 (x1.map eM)]]⟩),(3,⟨1,v7.q.src.map (ow eI)⟩),(4,⟨1,v7.q.tgt.map (ow eI)⟩),(5,⟨1,v7.dims.map (ow eI)⟩),(6,⟨1,[[.list 3 (v7.maps.map eM)]]⟩)]) 8 (nmA.drop 8) (λr e t=>e= .ret∧rY TT [.cell 6 38,.cell 7 4] (.tuple [.agg (eR r.1),.bl r.2]) .ret ⟨aAE [(6,.ptr 0 0 0),(7,.ptr 1 0 0),(8,.ptr 2 0 0),(10,.ptr 6 0 0),(44,.fn 109 [.ref [.list 1 (List.map eI (List.replicate ((v8.length:Nat):Int).toNat 1))]])],t.heap,t.used,t.ns,0⟩) (aRD q16) hy15 k k k (λ_=>k) (sW [1,2,7,3,4,5,9] (mA 4 k2 (jP ⟨_,k,⟨k,⟨_,_,k,k,k⟩⟩⟩ aR)) (bP k<|bP k<|gA k<|bS k<|bS k<|bS k<|bP k<|aR) k4) k (bK (mA 5 k2 (jP ⟨_,k,⟨k,⟨_,_,k,k,k⟩⟩⟩ aR)) (bS k<|bP k<|bP k<|gA k<|bS k<|bS k<|bS k<|bP k<|aR) k4) ?_ ?_
 ·intro x1 v11 o hxv11 h;have hlv11:=bF (uK hxv11);change AC Tryz.prog _ _ (mN [(45,.own 7 0 ((List.replicate ((v8.length:Nat):Int).toNat 1).length)),(6,.ptr 0 0 0),(7,.ptr 1 0 0),(8,.ptr 2 0 0),(10,.ptr 6 0 0),(44,.fn 109 [.ref [.list 1 (List.map eI (List.replicate ((v8.length:Nat):Int).toNat 1))]])] [(7,⟨1,v11.map (ow eI)⟩),(0,⟨6,[uF]⟩),(1,⟨1,[[.bl false]]⟩),(2,⟨6,[[.int v7.p,.int v7.q.n,.own 3 0 v7.q.src.length,.own 4 0 v7.q.tgt.length,.own 5 0 v7.dims.length,.list 3 (x1.map eM)]]⟩),(3,⟨1,v7.q.src.map (ow eI)⟩),(4,⟨1,v7.q.tgt.map (ow eI)⟩),(5,⟨1,v7.dims.map (ow eI)⟩),(6,⟨1,[[.list 3 (v7.maps.map eM)]]⟩)] 8 ⟨8,false,none,false⟩) _;refine rg<|aa k k<|an ?_;refine ⟨k,?_⟩;exact aC<|sR<|lp k8<|am k k<|oB h λv12 hv12 h=>ae (cL dF (aBr v7.maps v11 v12 hv12) k3 (dX k (bB (tN dD k (by first|rfl|simp only [List.length_set,of_decide_eq_true hlv11])) aV))) k<|fp k8<|ae (ws k) k<|an<|tn<|sR<|lp k8<|lp k8<|oB h λv13 hv13 h=>ae (aY (aGy (⟨v7.p,v7.q,v7.dims,v12⟩:Rp) (⟨v7.p,v7.q,v7.dims,v12⟩:Rp) v13 hv13) k (bB (vaR k8) (bB (vaR k8) aV))) k<|cm k4<|an<|tn<|dJ k h (λ_ h=>sR<|lp k8<|ae (ws k) k<|ae (ws k) k<|an<|tn<|aG<|bG<|sp h ⟨k,k,bN k k k (fS k (cX (tX (aU (k) (aU (k) (aU (gU dD k k) (aU (gU dD k k) (aU (gU dD k k) (aU (gU dF k k) gX))))))) (cX (k) kX)))⟩) λ_ h=>aD<|aS<|sp h ⟨k,(Ent.trans (aKU (b:=2) (b':=8) (i:=0) (j:=5) (es':=v12.map eM) k k k k (aGs dF k k)) (bK (mA 5 k2 (jP ⟨_,k,⟨k,⟨_,_,k,k,k⟩⟩⟩ aR)) (bS k<|bP k<|bP k<|gA k<|bS k<|bS k<|bS k<|bP k<|aR) k4))⟩
 ·rcases y15 with y15|y17
  ·dsimp only;exact aS<|tn<|sR<|ae (jC aH k k k k k k) k<|ae (ws k) k<|ae (ws k) k<|an<|tn<|aG<|sp h (bN k k k (fS k (cX (tX (aU (k) (aU (k) (aU (k) (aU (k) (aU (k) (aU (k) gX))))))) (cX (k) kX))))
  ·rintro e t ⟨rfl,hent⟩;exact bG<|aE<|sp h hent
def iR (x1:((List Mt)×Int×Int)):Option (((List Mt)×Int×Int) ⊕ ((List Mt)×Int)):=
 bif decide (x1.2.2<((x1.1.length:Nat):Int)) then
 ((cE x1.1 x1.2.2).bind λv9=>
 some (.inl ((x1.1.set x1.2.2.toNat v9),wr (x1.2.1+((v9.cells.length:Nat):Int)),wr (x1.2.2+1))))
 else
 (some (.inr (x1.1,x1.2.1)))
def kS (x3:((List Mt)×Int×Int)) (x4:((List Mt)×Int×Int)):Option (((List Mt)×Int×Int) ⊕ ((List Mt)×Int)):=
 bif decide (0≤x4.2.2) then
 ((cE x4.1 x3.2.2).bind λv16=>
 (cE v16.cells x4.2.2).bind λv17=>
 some (.inl ((x4.1.set x3.2.2.toNat (⟨v16.rows,v16.cols,(v16.cells.set x4.2.2.toNat (x4.2.1.tmod 2))⟩:Mt)),wr (x4.2.1.tdiv 2),wr (x4.2.2 - 1))))
 else
 (some (.inr (x4.1,x4.2.1)))
def kT (x3:((List Mt)×Int×Int)):Option (((List Mt)×Int×Int) ⊕ (List Mt)):=
 bif decide (0≤x3.2.2) then
 ((cE x3.1 x3.2.2).bind λv14=>
 (Lp (kS x3) ((x3.1.set x3.2.2.toNat v14),x3.2.1,wr (((v14.cells.length:Nat):Int) - 1))).bind λy18=>
 some (.inl (y18.1,y18.2,wr (x3.2.2 - 1))))
 else
 (some (.inr x3.1))
def fP (v7:Rp) (y10:((List Mt)×Int)) (x2:((List Mt)×Int)):Option (((List Mt)×Int) ⊕ (Unit ⊕ (Rp×Bool))):=
 bif decide (y10.2≤10) then
 (bif !decide (y10.2<0) then
 (bif decide (x2.2<aLb 1 y10.2) then
 ((Lp kT (x2.1,x2.2,wr (((x2.1.length:Nat):Int) - 1))).bind λy19=>
 (qS (⟨v7.p,v7.q,v7.dims,y19⟩:Rp) (⟨v7.p,v7.q,v7.dims,y19⟩:Rp)).bind λv20=>
 bif decide (v20=1) then
 (some (.inr (.inr (((⟨v7.p,v7.q,v7.dims,y19⟩:Rp),true)))))
 else
 (some (.inl (y19,wr (x2.2+1)))))
 else
 (some (.inr (.inl ()))))
 else none)
 else
 (some (.inr (.inl ())))
def tL (a0:Int) (a1:Qv) (a2:(List Int)):Option (Rp×Bool):=
 (jT a0).bind λv1=>
 bif !v1 then
 (some (((⟨0,(⟨0,[],[]⟩:Qv),[],[]⟩:Rp),false)))
 else
 ((uV a1 a2).bind λv3=>
 bif !v3 then
 (some (((⟨0,(⟨0,[],[]⟩:Qv),[],[]⟩:Rp),false)))
 else
 ((pL a1 a2).bind λv5=>
 bif !v5 then
 (some (((⟨0,(⟨0,[],[]⟩:Qv),[],[]⟩:Rp),false)))
 else
 ((uY a0 a1 a2).bind λv7=>
 (Lp iR (v7.maps,0,0)).bind λy10=>
 (Lp (fP v7 y10) (y10.1,0)).bind λy23=>
 Sum.elim (λy24=>
 some (((⟨0,(⟨0,[],[]⟩:Qv),[],[]⟩:Rp),false))
 )
 (λy25=>
 some y25
 )
 y23)))
theorem aGQ (a0:Int) (a1:Qv) (a2:(List Int)) (r:(Rp×Bool)) (h:tL a0 a1 a2=some r):HasC Tryz.prog 30 [.int a0,.agg (eQ a1),.list 1 (a2.map eI)] (.tuple [.agg (eR r.1),.bl r.2]):=by
 refine aFl aH (rvs:=[.cell 6 38,.tmp 7]) (ns:=nmA) Tryz.func30 k k Tryz.ntmps30 k k k (λW=>?_);refine aMN<|aFk<|aIe<|aDc (λw1_1 S1_1 r1_1=>?_);refine aDc (λw1_2 S1_2 r1_2=>?_);refine aFi<|aRU (λw2_0 S2_0 r2_0=>?_);refine aFj<|sS<|se (wb k) k<|se (dB aH k k) k<|fW k2<|sn<|tn<|sQ<|sS<|cZ k2<|oB h λv1 hv1 h=>se (lZ (pK a0 v1 hv1) k (wkS k mV)) k<|se (fM k) k<|cZ k2<|tQ h (λq2 h=>fZ 18 k q2<|bO k k<|bO k k<|bO k k<|bO k k<|pkS k3<|cZ k2<|bO k k<|bO k k<|bO k k<|bO k k<|pkS k3<|sn<|tn<|gT k k<|sS<|se (jC aH k k k k k k) k<|se (ws k) k<|fW k2<|sn<|tn<|aG<|aE<|sp h (bN k k k (fS k (cX (tX (aU (k) (aU (k) (aU (k) (aU (k) (aU (k) (aU (k) gX))))))) (cX (k) kX))))) λq2 h=>?_;refine fZ 18 k q2<|lpS k8<|cZ k2<|oB h λv3 hv3 h=>se (lZ (aHB a1 a2 v3 hv3) k (fU (.inr (eW (xR k k) (eW (oU k r1_1) (eW (oU k r1_2) xS)))) (wkD k r2_0 mV))) k<|se (fM k) k<|pkS k3<|cZ k2<|tQ h (λq4 h=>fZ 24 k q4<|bO k k<|bO k k<|bO k k<|bO k k<|pkS k3<|sn<|tn<|gT k k<|sS<|se (jC aH k k k k k k) k<|se (ws k) k<|fW k2<|sn<|tn<|aG<|aE<|sp h (bN k k k (fS k (cX (tX (aU (k) (aU (k) (aU (k) (aU (k) (aU (k) (aU (k) gX))))))) (cX (k) kX))))) λq4 h=>?_;refine fZ 24 k q4<|lpS k8<|cZ k2<|oB h λv5 hv5 h=>se (lZ (aBD a1 a2 v5 hv5) k (fU (.inr (eW (xR k k) (eW (oU k r1_1) (eW (oU k r1_2) xS)))) (wkD k r2_0 mV))) k<|se (fM k) k<|pkS k3<|sn<|tn<|dJ k h (λ_ h=>sS<|se (jC aH k k k k k k) k<|se (ws k) k<|fW k2<|sn<|tn<|aG<|aE<|sp h (bN k k k (fS k (cX (tX (aU (k) (aU (k) (aU (k) (aU (k) (aU (k) (aU (k) gX))))))) (cX (k) kX))))) λ_ h=>?_;refine aD<|tn<|sS<|cZ k2<|lpS k8<|cZ k2<|oB h λv7 hv7 h=>se (cRK (aHE a0 a1 a2 v7 hv7) k3 (wkS k (fU (.inr (eW (xR k k) (eW (oU k r1_1) (eW (oU k r1_2) xS)))) (wkD k r2_0 mV)))) k<|se (dB aH k k) k<|se (ws k) k<|sn<|tn<|aM (t:=mN [(6,.ptr 1 0 0),(8,.ptr 6 0 0)] [(1,⟨6,[uF]⟩),(2,⟨1,v7.q.src.map (ow eI)⟩),(3,⟨1,v7.q.tgt.map (ow eI)⟩),(4,⟨1,v7.dims.map (ow eI)⟩),(5,⟨3,v7.maps.map (ow eM)⟩),(6,⟨6,[oRp v7 2 3 4 5]⟩)] 7 ⟨0,true,xE W,true⟩) (bK (bH k2) (bP k<|bS k<|bS k<|bS k<|cD (dF.plainO _) k<|gA k<|aR) k4)<|sS<|fW k2<|sn<|tn<|sQ<|sS<|fW k2<|sn<|tn<|aC<|oB h λy10 hy10 h=>bW (body:=iR) hy10 (λ(x1:((List Mt)×Int×Int))=>mN [(6,.ptr 0 0 0),(8,.ptr 1 0 0),(9,.int x1.2.1),(10,.int x1.2.2)] [(0,⟨6,[uF]⟩),(1,⟨6,[[.int v7.p,.int v7.q.n,.own 2 0 v7.q.src.length,.own 3 0 v7.q.tgt.length,.own 4 0 v7.dims.length,.own 5 0 x1.1.length]]⟩),(2,⟨1,v7.q.src.map (ow eI)⟩),(3,⟨1,v7.q.tgt.map (ow eI)⟩),(4,⟨1,v7.dims.map (ow eI)⟩),(5,⟨3,x1.1.map (ow eM)⟩)] 6 ⟨0,true,xE W,true⟩) (λr e t=>e= .exit 0∧Ent t (mN [(6,.ptr 0 0 0),(8,.ptr 1 0 0),(9,.int r.2)] [(0,⟨6,[uF]⟩),(1,⟨6,[[.int v7.p,.int v7.q.n,.own 2 0 v7.q.src.length,.own 3 0 v7.q.tgt.length,.own 4 0 v7.dims.length,.own 5 0 r.1.length]]⟩),(2,⟨1,v7.q.src.map (ow eI)⟩),(3,⟨1,v7.q.tgt.map (ow eI)⟩),(4,⟨1,v7.dims.map (ow eI)⟩),(5,⟨3,r.1.map (ow eM)⟩)] 6 ⟨0,true,xE W,true⟩)) (sW [1,6,2,3,4,5] (bH k2) (bP k<|gA k<|bS k<|bS k<|bS k<|cD (dF.plainO _) k<|aR) k4) ?_ ?_
 ·intro x1 o h;refine sQ<|sS<|cZ k2<|fpS k8<|lpS k8<|se (cW aH k k k k) k<|cmS k4<|sn<|tn<|dJ k h (λ_ h=>?_) λ_ h=>aX<|aA<|aA<|sp h ⟨_,k,k,(bK (bH k2) (bP k<|gA k<|bS k<|bS k<|bS k<|cD (dF.plainO _) k<|aR) k4)⟩;exact aD<|tn<|sQ<|aC<|rgS<|cZ k2<|fpS k8<|lpS k8<|cZ k2<|oB h λv9 hv9 h=>dT (t:=mN [(6,.ptr 0 0 0),(8,.ptr 1 0 0),(9,.int x1.2.1),(10,.int x1.2.2),(35,.int x1.2.2),(36,.ptr 1 0 5),(37,.own 5 0 x1.1.length),(38,.int ((x1.1.length:Nat):Int)),(39,.bl (decide (x1.2.2<((x1.1.length:Nat):Int)))),(42,.int x1.2.1),(43,.ptr 1 0 5),(44,.own 5 0 x1.1.length),(45,.int x1.2.2)] [(0,⟨6,[uF]⟩),(1,⟨6,[[.int v7.p,.int v7.q.n,.own 2 0 v7.q.src.length,.own 3 0 v7.q.tgt.length,.own 4 0 v7.dims.length,.own 5 0 x1.1.length]]⟩),(2,⟨1,v7.q.src.map (ow eI)⟩),(3,⟨1,v7.q.tgt.map (ow eI)⟩),(4,⟨1,v7.dims.map (ow eI)⟩),(5,⟨3,(x1.1.map (ow eM)).set x1.2.2.toNat [.int v9.rows,.int v9.cols,.abs 1 (v9.cells.map eI)]⟩)] 6 ⟨0,true,xE W,true⟩) (bK (bH k2) (bP k<|gA k<|bS k<|bS k<|bS k<|hX ⟨_,k,k,.inl ⟨wX (dC hv9),uE dF k⟩⟩ k<|aR) k4)<|dT (oF (b:=5) (c:=6) (i:=x1.2.2.toNat) (j:=2) (n:=v9.cells.length) (A:=x1.1.map (ow eM)) (fs:=v9.cells.map (ow eI)) (by rw [dE];exact eD hv9) k k k k (aL _ _) (gF _ _) (uC ⟨k,k,k,k,k,k,k,k,k,k,k,k,k,aR⟩) (uD (skip:=[]) ⟨.inr (aAO k),.inr (aAO k),.inr (dD.df _ _),.inr (dD.df _ _),.inr (dD.df _ _),.inr (dF.dfS _ _ _ k),aR⟩))<|dT (t:=mN [(6,.ptr 0 0 0),(8,.ptr 1 0 0),(9,.int x1.2.1),(10,.int x1.2.2),(35,.int x1.2.2),(36,.ptr 1 0 5),(37,.own 5 0 x1.1.length),(38,.int ((x1.1.length:Nat):Int)),(39,.bl (decide (x1.2.2<((x1.1.length:Nat):Int)))),(42,.int x1.2.1),(43,.ptr 1 0 5),(44,.own 5 0 x1.1.length),(45,.int x1.2.2)] [(0,⟨6,[uF]⟩),(1,⟨6,[[.int v7.p,.int v7.q.n,.own 2 0 v7.q.src.length,.own 3 0 v7.q.tgt.length,.own 4 0 v7.dims.length,.own 5 0 x1.1.length]]⟩),(2,⟨1,v7.q.src.map (ow eI)⟩),(3,⟨1,v7.q.tgt.map (ow eI)⟩),(4,⟨1,v7.dims.map (ow eI)⟩),(5,⟨3,(x1.1.map (ow eM)).set x1.2.2.toNat [.int v9.rows,.int v9.cols,.own 6 0 v9.cells.length]⟩),(6,⟨1,v9.cells.map (ow eI)⟩)] 7 ⟨0,true,xE W,true⟩) (eU (σ:=sg [(0,0),(1,1),(2,2),(3,3),(4,4),(5,5),(6,6)]) (bH k2) (bP k<|gA k<|bS k<|bS k<|bS k<|hX ⟨_,k,k,.inr (pO (σ:=sg [(0,0),(1,1),(2,2),(3,3),(4,4),(5,5),(6,6)]) (m:=7) (e:=eM) (l:=x1.1) (i:=x1.2.2.toNat) (c:=[.int v9.rows,.int v9.cols,.own 6 0 v9.cells.length]) (d:=[.int v9.rows,.int v9.cols,.own 6 0 v9.cells.length]) dF ⟨_,_,k,k,⟨_,_,k,k,⟨_,_,k,⟨k,k,k,k⟩,k⟩⟩⟩)⟩ k<|bS k<|aR) k)<|se (xo hv9 k) k<|fpS k8<|se (cK aH k k k k (wW (eD hv9)) k k) k<|se (cW aH k k k k) k<|se (bC k k) k<|fW k2<|sn<|aS<|tn<|aM (t:=mN [(6,.ptr 0 0 0),(8,.ptr 1 0 0),(9,.int (wr (x1.2.1+((v9.cells.length:Nat):Int)))),(10,.int x1.2.2)] [(0,⟨6,[uF]⟩),(1,⟨6,[[.int v7.p,.int v7.q.n,.own 2 0 v7.q.src.length,.own 3 0 v7.q.tgt.length,.own 4 0 v7.dims.length,.own 5 0 ((x1.1.set x1.2.2.toNat v9).length)]]⟩),(2,⟨1,v7.q.src.map (ow eI)⟩),(3,⟨1,v7.q.tgt.map (ow eI)⟩),(4,⟨1,v7.dims.map (ow eI)⟩),(5,⟨3,List.map (ow eM) (x1.1.set x1.2.2.toNat v9)⟩)] 7 ⟨0,true,xE W,true⟩) (Ent.trans (pJ (b:=5) (b':=6) (j:=2) (es':=v9.cells.map eI) (by rw [dE];exact eD hv9) k k k k (aL _ _) (dD.frzs _)) (bK (bH k2) (bP k<|hX ⟨_,k,k,.inr ⟨_,_,k,⟨_,_,k,k,⟨_,_,k,k,⟨_,_,k,⟨k,k,k,k⟩,⟨_,_,k,⟨k,k,k,k⟩,⟨_,_,k,⟨k,k,k,k⟩,⟨_,_,k,⟨k,k,(by simp only [aL,lA,lT,lR,lC,lN]),k⟩,k⟩⟩⟩⟩⟩⟩,k⟩⟩ k<|bS k<|bS k<|bS k<|hX ⟨_,k,k,.inl ⟨aBA v9 k,dF.plainO _⟩⟩ k<|aR) k4))<|rgS<|cZ k2<|se (bC k k) k<|fW k2<|sn<|tn<|sp h ⟨_,k,(bK (bH k2) (bP k<|gA k<|bS k<|bS k<|bS k<|cD (dF.plainO _) k<|aR) k4)⟩
 ·rintro e t ⟨rfl,hent⟩;refine aJ<|tn<|aM hent<|sQ<|sS<|fW k2<|sn<|tn<|aC<|oB h λy23 hy23 h=>bW (body:=(fP v7 y10)) hy23 (λ(x2:((List Mt)×Int))=>mN [(6,.ptr 0 0 0),(8,.ptr 1 0 0),(9,.int y10.2),(11,.int x2.2)] [(0,⟨6,[uF]⟩),(1,⟨6,[[.int v7.p,.int v7.q.n,.own 2 0 v7.q.src.length,.own 3 0 v7.q.tgt.length,.own 4 0 v7.dims.length,.own 5 0 x2.1.length]]⟩),(2,⟨1,v7.q.src.map (ow eI)⟩),(3,⟨1,v7.q.tgt.map (ow eI)⟩),(4,⟨1,v7.dims.map (ow eI)⟩),(5,⟨3,x2.1.map (ow eM)⟩)] 6 ⟨0,true,xE W,true⟩) (λr e t=>Sum.elim (λa=>(λr e t=>e= .exit 2∧Ent t (mN [(6,.ptr 0 0 0)] [(0,⟨6,[uF]⟩)] 1 ⟨0,true,xE W,true⟩)) a e t) (λb=>(λr e t=>e= .ret∧rY TT [.cell 6 38,.tmp 7] (.tuple [.agg (eR r.1),.bl r.2]) .ret t) b e t) r) (bK (bH k2) (bP k<|gA k<|bS k<|bS k<|bS k<|cD (dF.plainO _) k<|aR) k4) ?_ ?_
  ·intro x2 o h;refine sQ<|sS<|cZ k2<|cmS k4<|cZ k2<|tQ h (λq11 h=>?_) λq11 h=>fZ 53 k q11<|bO k k<|bO k k<|bO k k<|bO k k<|pkS k3<|sn<|tn<|lS k k<|aX<|aA<|aA<|sp h ⟨_,k,k,(bK (bH k2) (bP k<|aR) k4)⟩;refine fZ 53 k q11<|cZ k2<|cZ k2<|cG h λq22 h=>se (aOs k k q22) k<|cmS k4<|pkS k3<|sn<|tn<|dJ k h (λ_ h=>?_) λ_ h=>aX<|aA<|aA<|sp h ⟨_,k,k,(bK (bH k2) (bP k<|aR) k4)⟩;refine aD<|tn<|sQ<|aC<|sS<|cZ k2<|fW k2<|sn<|tn<|sQ<|sS<|fpS k8<|lpS k8<|se (cW aH k k k k) k<|se (hJ k k) k<|fW k2<|sn<|tn<|aC<|oB h λy19 hy19 h=>bW (body:=kT) hy19 (λ(x3:((List Mt)×Int×Int))=>mN [(6,.ptr 0 0 0),(8,.ptr 1 0 0),(9,.int y10.2),(11,.int x2.2),(12,.int x3.2.1),(13,.int x3.2.2)] [(0,⟨6,[uF]⟩),(1,⟨6,[[.int v7.p,.int v7.q.n,.own 2 0 v7.q.src.length,.own 3 0 v7.q.tgt.length,.own 4 0 v7.dims.length,.own 5 0 x3.1.length]]⟩),(2,⟨1,v7.q.src.map (ow eI)⟩),(3,⟨1,v7.q.tgt.map (ow eI)⟩),(4,⟨1,v7.dims.map (ow eI)⟩),(5,⟨3,x3.1.map (ow eM)⟩)] 6 ⟨0,true,xE W,true⟩) (λr e t=>e= .exit 4∧Ent t (mN [(6,.ptr 0 0 0),(8,.ptr 1 0 0),(9,.int y10.2),(11,.int x2.2)] [(0,⟨6,[uF]⟩),(1,⟨6,[[.int v7.p,.int v7.q.n,.own 2 0 v7.q.src.length,.own 3 0 v7.q.tgt.length,.own 4 0 v7.dims.length,.own 5 0 r.length]]⟩),(2,⟨1,v7.q.src.map (ow eI)⟩),(3,⟨1,v7.q.tgt.map (ow eI)⟩),(4,⟨1,v7.dims.map (ow eI)⟩),(5,⟨3,r.map (ow eM)⟩)] 6 ⟨0,true,xE W,true⟩)) (bK (bH k2) (bP k<|gA k<|bS k<|bS k<|bS k<|cD (dF.plainO _) k<|aR) k4) ?_ ?_
   ·intro x3 o h;refine sQ<|sS<|cZ k2<|cmS k4<|sn<|tn<|dJ k h (λ_ h=>?_) λ_ h=>aX<|aA<|aA<|sp h ⟨_,k,k,(bK (bH k2) (bP k<|gA k<|bS k<|bS k<|bS k<|cD (dF.plainO _) k<|aR) k4)⟩;refine aD<|tn<|sQ<|aC<|sS<|fpS k8<|lpS k8<|cZ k2<|oB h λv14 hv14 h=>dT (t:=mN [(6,.ptr 0 0 0),(8,.ptr 1 0 0),(9,.int y10.2),(11,.int x2.2),(12,.int x3.2.1),(13,.int x3.2.2),(66,.int x3.2.2),(67,.bl (decide (0≤x3.2.2))),(70,.ptr 1 0 5),(71,.own 5 0 x3.1.length),(72,.int x3.2.2)] [(0,⟨6,[uF]⟩),(1,⟨6,[[.int v7.p,.int v7.q.n,.own 2 0 v7.q.src.length,.own 3 0 v7.q.tgt.length,.own 4 0 v7.dims.length,.own 5 0 x3.1.length]]⟩),(2,⟨1,v7.q.src.map (ow eI)⟩),(3,⟨1,v7.q.tgt.map (ow eI)⟩),(4,⟨1,v7.dims.map (ow eI)⟩),(5,⟨3,(x3.1.map (ow eM)).set x3.2.2.toNat [.int v14.rows,.int v14.cols,.abs 1 (v14.cells.map eI)]⟩)] 6 ⟨0,true,xE W,true⟩) (bK (bH k2) (bP k<|gA k<|bS k<|bS k<|bS k<|hX ⟨_,k,k,.inl ⟨wX (dC hv14),uE dF k⟩⟩ k<|aR) k4)<|dT (oF (b:=5) (c:=6) (i:=x3.2.2.toNat) (j:=2) (n:=v14.cells.length) (A:=x3.1.map (ow eM)) (fs:=v14.cells.map (ow eI)) (by rw [dE];exact eD hv14) k k k k (aL _ _) (gF _ _) (uC ⟨k,k,k,k,k,k,k,k,k,k,k,aR⟩) (uD (skip:=[]) ⟨.inr (aAO k),.inr (aAO k),.inr (dD.df _ _),.inr (dD.df _ _),.inr (dD.df _ _),.inr (dF.dfS _ _ _ k),aR⟩))<|dT (t:=mN [(6,.ptr 0 0 0),(8,.ptr 1 0 0),(9,.int y10.2),(11,.int x2.2),(12,.int x3.2.1),(13,.int x3.2.2),(66,.int x3.2.2),(67,.bl (decide (0≤x3.2.2))),(70,.ptr 1 0 5),(71,.own 5 0 x3.1.length),(72,.int x3.2.2)] [(0,⟨6,[uF]⟩),(1,⟨6,[[.int v7.p,.int v7.q.n,.own 2 0 v7.q.src.length,.own 3 0 v7.q.tgt.length,.own 4 0 v7.dims.length,.own 5 0 x3.1.length]]⟩),(2,⟨1,v7.q.src.map (ow eI)⟩),(3,⟨1,v7.q.tgt.map (ow eI)⟩),(4,⟨1,v7.dims.map (ow eI)⟩),(5,⟨3,(x3.1.map (ow eM)).set x3.2.2.toNat [.int v14.rows,.int v14.cols,.own 6 0 v14.cells.length]⟩),(6,⟨1,v14.cells.map (ow eI)⟩)] 7 ⟨0,true,xE W,true⟩) (eU (σ:=sg [(0,0),(1,1),(2,2),(3,3),(4,4),(5,5),(6,6)]) (bH k2) (bP k<|gA k<|bS k<|bS k<|bS k<|hX ⟨_,k,k,.inr (pO (σ:=sg [(0,0),(1,1),(2,2),(3,3),(4,4),(5,5),(6,6)]) (m:=7) (e:=eM) (l:=x3.1) (i:=x3.2.2.toNat) (c:=[.int v14.rows,.int v14.cols,.own 6 0 v14.cells.length]) (d:=[.int v14.rows,.int v14.cols,.own 6 0 v14.cells.length]) dF ⟨_,_,k,k,⟨_,_,k,k,⟨_,_,k,⟨k,k,k,k⟩,k⟩⟩⟩)⟩ k<|bS k<|aR) k)<|se (xo hv14 k) k<|fpS k8<|se (cK aH k k k k (wW (eD hv14)) k k) k<|se (cW aH k k k k) k<|se (hJ k k) k<|fW k2<|sn<|tn<|aM (t:=mN [(6,.ptr 0 0 0),(8,.ptr 1 0 0),(9,.int y10.2),(11,.int x2.2),(12,.int x3.2.1),(13,.int x3.2.2),(14,.int (wr (((v14.cells.length:Nat):Int) - 1)))] [(0,⟨6,[uF]⟩),(1,⟨6,[[.int v7.p,.int v7.q.n,.own 2 0 v7.q.src.length,.own 3 0 v7.q.tgt.length,.own 4 0 v7.dims.length,.own 5 0 ((x3.1.set x3.2.2.toNat v14).length)]]⟩),(2,⟨1,v7.q.src.map (ow eI)⟩),(3,⟨1,v7.q.tgt.map (ow eI)⟩),(4,⟨1,v7.dims.map (ow eI)⟩),(5,⟨3,List.map (ow eM) (x3.1.set x3.2.2.toNat v14)⟩)] 7 ⟨0,true,xE W,true⟩) (Ent.trans (pJ (b:=5) (b':=6) (j:=2) (es':=v14.cells.map eI) (by rw [dE];exact eD hv14) k k k k (aL _ _) (dD.frzs _)) (bK (bH k2) (bP k<|hX ⟨_,k,k,.inr ⟨_,_,k,⟨_,_,k,k,⟨_,_,k,k,⟨_,_,k,⟨k,k,k,k⟩,⟨_,_,k,⟨k,k,k,k⟩,⟨_,_,k,⟨k,k,k,k⟩,⟨_,_,k,⟨k,k,(by simp only [aL,lA,lT,lR,lC,lN]),k⟩,k⟩⟩⟩⟩⟩⟩,k⟩⟩ k<|bS k<|bS k<|bS k<|hX ⟨_,k,k,.inl ⟨aBA v14 k,dF.plainO _⟩⟩ k<|aR) k4))<|aC<|oB h λy18 hy18 h=>bW (body:=(kS x3)) hy18 (λ(x4:((List Mt)×Int×Int))=>mN [(6,.ptr 0 0 0),(8,.ptr 1 0 0),(9,.int y10.2),(11,.int x2.2),(12,.int x4.2.1),(13,.int x3.2.2),(14,.int x4.2.2)] [(0,⟨6,[uF]⟩),(1,⟨6,[[.int v7.p,.int v7.q.n,.own 2 0 v7.q.src.length,.own 3 0 v7.q.tgt.length,.own 4 0 v7.dims.length,.own 5 0 x4.1.length]]⟩),(2,⟨1,v7.q.src.map (ow eI)⟩),(3,⟨1,v7.q.tgt.map (ow eI)⟩),(4,⟨1,v7.dims.map (ow eI)⟩),(5,⟨3,x4.1.map (ow eM)⟩)] 6 ⟨0,true,xE W,true⟩) (λr e t=>e= .exit 6∧Ent t (mN [(6,.ptr 0 0 0),(8,.ptr 1 0 0),(9,.int y10.2),(11,.int x2.2),(12,.int r.2),(13,.int x3.2.2)] [(0,⟨6,[uF]⟩),(1,⟨6,[[.int v7.p,.int v7.q.n,.own 2 0 v7.q.src.length,.own 3 0 v7.q.tgt.length,.own 4 0 v7.dims.length,.own 5 0 r.1.length]]⟩),(2,⟨1,v7.q.src.map (ow eI)⟩),(3,⟨1,v7.q.tgt.map (ow eI)⟩),(4,⟨1,v7.dims.map (ow eI)⟩),(5,⟨3,r.1.map (ow eM)⟩)] 6 ⟨0,true,xE W,true⟩)) (bK (bH k2) (bP k<|gA k<|bS k<|bS k<|bS k<|cD (dF.plainO _) k<|aR) k4) ?_ ?_
    ·intro x4 o h;refine sQ<|sS<|cZ k2<|cmS k4<|sn<|tn<|dJ k h (λ_ h=>?_) λ_ h=>aX<|aA<|aA<|sp h ⟨_,k,k,(bK (bH k2) (bP k<|gA k<|bS k<|bS k<|bS k<|cD (dF.plainO _) k<|aR) k4)⟩;refine aD<|tn<|sQ<|aC<|sS<|fpS k8<|lpS k8<|cZ k2<|oB h λv16 hv16 h=>dT (t:=mN [(6,.ptr 0 0 0),(8,.ptr 1 0 0),(9,.int y10.2),(11,.int x2.2),(12,.int x4.2.1),(13,.int x3.2.2),(14,.int x4.2.2),(78,.int x4.2.2),(79,.bl (decide (0≤x4.2.2))),(82,.ptr 1 0 5),(83,.own 5 0 x4.1.length),(84,.int x3.2.2)] [(0,⟨6,[uF]⟩),(1,⟨6,[[.int v7.p,.int v7.q.n,.own 2 0 v7.q.src.length,.own 3 0 v7.q.tgt.length,.own 4 0 v7.dims.length,.own 5 0 x4.1.length]]⟩),(2,⟨1,v7.q.src.map (ow eI)⟩),(3,⟨1,v7.q.tgt.map (ow eI)⟩),(4,⟨1,v7.dims.map (ow eI)⟩),(5,⟨3,(x4.1.map (ow eM)).set x3.2.2.toNat [.int v16.rows,.int v16.cols,.abs 1 (v16.cells.map eI)]⟩)] 6 ⟨0,true,xE W,true⟩) (bK (bH k2) (bP k<|gA k<|bS k<|bS k<|bS k<|hX ⟨_,k,k,.inl ⟨wX (dC hv16),uE dF k⟩⟩ k<|aR) k4)<|dT (oF (b:=5) (c:=6) (i:=x3.2.2.toNat) (j:=2) (n:=v16.cells.length) (A:=x4.1.map (ow eM)) (fs:=v16.cells.map (ow eI)) (by rw [dE];exact eD hv16) k k k k (aL _ _) (gF _ _) (uC ⟨k,k,k,k,k,k,k,k,k,k,k,k,aR⟩) (uD (skip:=[]) ⟨.inr (aAO k),.inr (aAO k),.inr (dD.df _ _),.inr (dD.df _ _),.inr (dD.df _ _),.inr (dF.dfS _ _ _ k),aR⟩))<|dT (t:=mN [(6,.ptr 0 0 0),(8,.ptr 1 0 0),(9,.int y10.2),(11,.int x2.2),(12,.int x4.2.1),(13,.int x3.2.2),(14,.int x4.2.2),(78,.int x4.2.2),(79,.bl (decide (0≤x4.2.2))),(82,.ptr 1 0 5),(83,.own 5 0 x4.1.length),(84,.int x3.2.2)] [(0,⟨6,[uF]⟩),(1,⟨6,[[.int v7.p,.int v7.q.n,.own 2 0 v7.q.src.length,.own 3 0 v7.q.tgt.length,.own 4 0 v7.dims.length,.own 5 0 x4.1.length]]⟩),(2,⟨1,v7.q.src.map (ow eI)⟩),(3,⟨1,v7.q.tgt.map (ow eI)⟩),(4,⟨1,v7.dims.map (ow eI)⟩),(5,⟨3,(x4.1.map (ow eM)).set x3.2.2.toNat [.int v16.rows,.int v16.cols,.own 6 0 v16.cells.length]⟩),(6,⟨1,v16.cells.map (ow eI)⟩)] 7 ⟨0,true,xE W,true⟩) (eU (σ:=sg [(0,0),(1,1),(2,2),(3,3),(4,4),(5,5),(6,6)]) (bH k2) (bP k<|gA k<|bS k<|bS k<|bS k<|hX ⟨_,k,k,.inr (pO (σ:=sg [(0,0),(1,1),(2,2),(3,3),(4,4),(5,5),(6,6)]) (m:=7) (e:=eM) (l:=x4.1) (i:=x3.2.2.toNat) (c:=[.int v16.rows,.int v16.cols,.own 6 0 v16.cells.length]) (d:=[.int v16.rows,.int v16.cols,.own 6 0 v16.cells.length]) dF ⟨_,_,k,k,⟨_,_,k,k,⟨_,_,k,⟨k,k,k,k⟩,k⟩⟩⟩)⟩ k<|bS k<|aR) k)<|se (xo hv16 k) k<|fpS k8<|se (cK aH k k k k (wW (eD hv16)) k k) k<|cZ k2<|cZ k2<|se (aEF k k (by decide)) k<|oB h λv17 hv17 h=>se (xo hv17 k) k<|se (eJ aH kL (u:=x4.2.1.tmod 2) (dC hv17) k k k k k k) k<|sn<|tn<|aM (t:=mN [(6,.ptr 0 0 0),(8,.ptr 1 0 0),(9,.int y10.2),(11,.int x2.2),(12,.int x4.2.1),(13,.int x3.2.2),(14,.int x4.2.2)] [(0,⟨6,[uF]⟩),(1,⟨6,[[.int v7.p,.int v7.q.n,.own 2 0 v7.q.src.length,.own 3 0 v7.q.tgt.length,.own 4 0 v7.dims.length,.own 5 0 ((x4.1.set x3.2.2.toNat (⟨v16.rows,v16.cols,(v16.cells.set x4.2.2.toNat (x4.2.1.tmod 2))⟩:Mt)).length)]]⟩),(2,⟨1,v7.q.src.map (ow eI)⟩),(3,⟨1,v7.q.tgt.map (ow eI)⟩),(4,⟨1,v7.dims.map (ow eI)⟩),(5,⟨3,List.map (ow eM) (x4.1.set x3.2.2.toNat (⟨v16.rows,v16.cols,(v16.cells.set x4.2.2.toNat (x4.2.1.tmod 2))⟩:Mt))⟩)] 7 ⟨0,true,xE W,true⟩) (Ent.trans (pJ (b:=5) (b':=6) (j:=2) (es':=List.map eI (v16.cells.set x4.2.2.toNat (x4.2.1.tmod 2))) (by rw [dE];exact eD hv16) k k k k (by simp only [aL,lA,lT,lR,lC,lN]) (dD.frzs _)) (bK (bH k2) (bP k<|hX ⟨_,k,k,.inr ⟨_,_,k,⟨_,_,k,k,⟨_,_,k,k,⟨_,_,k,⟨k,k,k,k⟩,⟨_,_,k,⟨k,k,k,k⟩,⟨_,_,k,⟨k,k,k,k⟩,⟨_,_,k,⟨k,k,(by simp only [aL,lA,lT,lR,lC,lN]),k⟩,k⟩⟩⟩⟩⟩⟩,k⟩⟩ k<|bS k<|bS k<|bS k<|hX ⟨_,k,k,.inl ⟨aBA (⟨v16.rows,v16.cols,(v16.cells.set x4.2.2.toNat (x4.2.1.tmod 2))⟩:Mt) k,dF.plainO _⟩⟩ k<|aR) k4))<|rgS<|cZ k2<|se (aSJ k k (by decide)) k<|fW k2<|sn<|aS ?_;exact tn<|rgS<|cZ k2<|se (hJ k k) k<|fW k2<|sn<|tn<|sp h ⟨_,k,(bK (bH k2) (bP k<|gA k<|bS k<|bS k<|bS k<|cD (dF.plainO _) k<|aR) k4)⟩
    ·rintro e t ⟨rfl,hent⟩;exact aJ<|aS<|tn<|aM hent<|rgS<|cZ k2<|se (hJ k k) k<|fW k2<|sn<|tn<|sp h ⟨_,k,(bK (bH k2) (bP k<|gA k<|bS k<|bS k<|bS k<|cD (dF.plainO _) k<|aR) k4)⟩
   ·rintro e t ⟨rfl,hent⟩;exact aJ<|tn<|aM hent<|sS<|lpS k8<|lpS k8<|oB h λv20 hv20 h=>se (lZ (aGz (⟨v7.p,v7.q,v7.dims,y19⟩:Rp) (⟨v7.p,v7.q,v7.dims,y19⟩:Rp) v20 hv20) k (fU (.inl (vaR k8)) (fU (.inl (vaR k8)) mV))) k<|cmS k4<|sn<|tn<|dJ k h (λ_ h=>sS<|lpS k8<|se (ws k) k<|fW k2<|sn<|tn<|aG<|bG<|aE<|aE<|sp h ⟨_,k,k,bN k k k (fS k (cX (tX (aU (k) (aU (k) (aU (gU dD k k) (aU (gU dD k k) (aU (gU dD k k) (aU (gU dF k k) gX))))))) (cX (k) kX)))⟩) λ_ h=>aD<|aS<|tn<|rgS<|cZ k2<|se (bC k k) k<|fW k2<|sn<|tn<|sp h ⟨_,k,(bK (bH k2) (bP k<|gA k<|bS k<|bS k<|bS k<|cD (dF.plainO _) k<|aR) k4)⟩
  ·intro e t hX;rcases y23 with y24|y25
   ·obtain ⟨rfl,hent⟩:=hX;exact aJ<|tn<|aM hent<|sS<|se (jC aH k k k k k k) k<|se (ws k) k<|fW k2<|sn<|tn<|aG<|sp h (bN k k k (fS k (cX (tX (aU (k) (aU (k) (aU (k) (aU (k) (aU (k) (aU (k) gX))))))) (cX (k) kX))))
   ·obtain ⟨rfl,hent⟩:=hX;exact bG<|aE<|sp h hent
def dV (a0:Int) (a1:Qv) (v1:((List (List Int))×Bool)) (x1:((List Rp)×Int)):Option (((List Rp)×Int) ⊕ ((List Rp) ⊕ ((List Rp)×Bool))):=
 bif decide (x1.2<((v1.1.length:Nat):Int)) then
 ((cE v1.1 x1.2).bind λv4=>
 (tK a0 a1 v4).bind λv5=>
 bif !v5.2 then
 (some (.inr (.inr (([],false)))))
 else
 (bif decide (x1.1.length+1≤4294967296) then
 (some (.inl ((x1.1++[v5.1]),wr (x1.2+1))))
 else none))
 else
 (some (.inr (.inl x1.1)))
def fT (a0:Int) (a1:Qv):Option ((List Rp)×Bool):=
 (eH a1).bind λv1=>
 bif !v1.2 then
 (some (([],false)))
 else
 ((Lp (dV a0 a1 v1) ([],0)).bind λy8=>
 Sum.elim (λy9=>
 some ((y9,true))
 )
 (λy10=>
 some y10
 )
 y8)
theorem qT (a0:Int) (a1:Qv) (r:((List Rp)×Bool)) (h:fT a0 a1=some r):HasC Tryz.prog 9 [.int a0,.agg (eQ a1)] (.tuple [.list 6 (r.1.map eR),.bl r.2]):=by
 refine hM [.tmp 4,.tmp 5] Tryz.func9 Tryz.ntmps9 k<|sR<|ae (wb k) k<|aa k k<|aT k2<|sR<|lp k8<|oB h λv1 hv1 h=>ae (tH (σ:=sg []) (σ':=sg [(1,0)]) (touch:=[]) (news:=[1]) (hl2:=[(1,⟨1,v1.1.map (cV 1 eI)⟩)]) (n':=2) (r2:= .tuple [.own 1 0 v1.1.length,.bl v1.2]) (vL a1 v1 hv1) k k ⟨_,_,k,(.inl ⟨_,_,k,k,⟨_,_,k,⟨k,k⟩,⟨_,_,k,⟨k,k⟩,k⟩⟩⟩),k⟩ aR k k k ⟨⟨_,k,k,.inl ⟨k,bD.plainE _⟩⟩,k,aR⟩ k (.inr ⟨_,_,k,k,⟨_,_,k,⟨k,k,(by simp only [aL,lA,lT,lR,lC,lN]),k⟩,⟨_,_,k,k,k⟩⟩⟩) k ⟨k,bD.tamdE _ _,aR⟩ k k) k<|am k k<|ae (cI k k (by intro _ h;cases h)) k<|ae (cI k k (by intro _ h;cases h)) k<|aa k k<|aT k2<|sQ<|sR<|am k k<|ae (fM k) k<|an<|tn<|dJ k h (λ_ h=>sR<|aa k k<|aT k2<|aG<|aE<|sp h (bN k k k (fS k (cX (yF (k)) (cX (k) kX))))) λ_ h=>?_;refine aD<|tn<|sR<|aT k2<|sQ<|sR<|am k k<|ae (cW aH k k k k) k<|am k k<|an<|tn<|aC<|oB h λy8 hy8 h=>bW (body:=(dV a0 a1 v1)) hy8 (λ(x1:((List Rp)×Int))=>mN [(0,.int a0),(3,.ptr 0 0 0),(8,.own 1 0 x1.1.length),(20,.own 2 0 v1.1.length),(21,.int ((v1.1.length:Nat):Int)),(22,.int x1.2)] [(0,⟨3,[eQ a1]⟩),(1,⟨6,x1.1.map (ow eR)⟩),(2,⟨1,v1.1.map (cV 1 eI)⟩)] 3) (λr e t=>Sum.elim (λa=>(λr e t=>e= .exit 0∧Ent t (mN [(8,.own 0 0 r.length)] [(0,⟨6,r.map (ow eR)⟩)] 1)) a e t) (λb=>(λr e t=>e= .ret∧rY TT [.tmp 4,.tmp 5] (.tuple [.list 6 (r.1.map eR),.bl r.2]) .ret t) b e t) r) (eU (σ:=sg [(0,0),(2,1)]) (mA 2 k2 (jP ⟨_,k,⟨k,k,k,k⟩⟩ (bH k2))) (bP k<|hX k k<|cD (bD.plainE _) k<|aR) k) ?_ ?_
 ·intro x1 o h;refine sR<|cm k4<|an<|tn<|sQ<|dJ k h (λ_ h=>?_) λ_ h=>aX<|aA<|aA<|sp h ⟨_,k,k,(sW [1] (bH k2) (cD (gO.plainO _) k<|aR) k4)⟩;refine aD<|tn<|sQ<|aC<|sR<|oB h λv4 hv4 h=>ae (xo hv4 k) k<|ae (wp hv4 k) k<|aT k2<|sR<|am k k<|lp k8<|am k k<|oB h λv5 hv5 h=>ae (AEff.conv (sO (x:= .tuple [.agg [.int v5.1.p,.int v5.1.q.n,.own 3 0 (v5.1.q.src.map eI).length,.own 4 0 (v5.1.q.tgt.map eI).length,.own 5 0 (v5.1.dims.map eI).length,.own 6 0 (v5.1.maps.map eM).length],.bl v5.2]) (nb:=[(3,⟨1,dM (v5.1.q.src.map eI)⟩),(4,⟨1,dM (v5.1.q.tgt.map eI)⟩),(5,⟨1,dM (v5.1.dims.map eI)⟩),(6,⟨3,dM (v5.1.maps.map eM)⟩)]) (aGP a0 a1 v4 v5 hv5) k (by rfl) k k (lF (dG aR (dG aR (dG (dD.good _) (dG (dD.good _) (dG (dD.good _) (dG (dF.good _) aAN)))))) (lF aR aAw)) (dX k (bB (qH k) (dX k aV)))) (v':= .tuple [.agg [.int v5.1.p,.int v5.1.q.n,.own 3 0 v5.1.q.src.length,.own 4 0 v5.1.q.tgt.length,.own 5 0 v5.1.dims.length,.own 6 0 v5.1.maps.length],.bl v5.2]) (ed':=[(3,some ⟨1,v5.1.q.src.map (ow eI)⟩),(4,some ⟨1,v5.1.q.tgt.map (ow eI)⟩),(5,some ⟨1,v5.1.dims.map (ow eI)⟩),(6,some ⟨3,v5.1.maps.map (ow eM)⟩)]) (by simp only [aL]) (aAc (nb':=[(3,⟨1,v5.1.q.src.map (ow eI)⟩),(4,⟨1,v5.1.q.tgt.map (ow eI)⟩),(5,⟨1,v5.1.dims.map (ow eI)⟩),(6,⟨3,v5.1.maps.map (ow eM)⟩)]) (by simp only [gF]))) k<|am k k<|ae (cI k k (by intro _ h;cases h)) k<|ae (cI k k (by intro _ h;cases h)) k<|ae (dB aH k k) k<|ae (ws k) k<|aT k2<|sQ<|sR<|am k k ?_;exact ae (fM k) k<|an<|tn<|dJ k h (λ_ h=>sR<|aa k k<|aT k2<|aG<|aE<|bG<|aE<|aE<|sp h ⟨_,k,k,bN k k k (fS k (cX (yF (k)) (cX (k) kX)))⟩) λ_ h=>aD<|tn<|rg<|am k k<|lp k8<|ae (wl k) k<|cG h λq7 h=>ae (kY aH (l:=x1.1) (c:=[.int v5.1.p,.int v5.1.q.n,.own 3 0 v5.1.q.src.length,.own 4 0 v5.1.q.tgt.length,.own 5 0 v5.1.dims.length,.own 6 0 v5.1.maps.length]) q7 k k k k k k k k k k k k k k) k<|aa k k<|an<|aS<|tn<|aM (t:=mN [(0,.int a0),(3,.ptr 0 0 0),(8,.own 9 0 ((x1.1++[v5.1]).length)),(20,.own 2 0 v1.1.length),(21,.int ((v1.1.length:Nat):Int)),(22,.int x1.2)] [(0,⟨3,[eQ a1]⟩),(2,⟨1,v1.1.map (cV 1 eI)⟩),(9,⟨6,List.map (ow eR) (x1.1++[v5.1])⟩)] 10) (Ent.trans (eG (b:=9) (b':=3) (j:=2) (es':=v5.1.q.src.map eI) k k k k (aL _ _) (dD.frzs _)) (Ent.trans (eG (b:=9) (b':=4) (j:=3) (es':=v5.1.q.tgt.map eI) k k k k (aL _ _) (dD.frzs _)) (Ent.trans (eG (b:=9) (b':=5) (j:=4) (es':=v5.1.dims.map eI) k k k k (aL _ _) (dD.frzs _)) (Ent.trans (eG (b:=9) (b':=6) (j:=5) (es':=v5.1.maps.map eM) k k k k (aL _ _) (dF.frzs _)) (bK (mA 2 k2 (jP ⟨_,k,⟨k,k,(by simp only [aL,lA,lT,lR,lC,lN]),k⟩⟩ (bH k2))) (bP k<|cD (bD.plainE _) k<|hX ⟨_,k,k,.inl ⟨lY v5.1 k,gO.plainO _⟩⟩ k<|aR) k4)))))<|rg<|ae (bC k k) k<|am k k<|an<|tn<|sp h ⟨_,k,(sW [0,9,2] (bH k2) (bP k<|cD (gO.plainO _) k<|cD (bD.plainE _) k<|aR) k4)⟩
 ·intro e t hX;rcases y8 with y9|y10
  ·obtain ⟨rfl,hent⟩:=hX;exact aJ<|tn<|aM hent<|sR<|am k k<|aa k k<|aT k2<|aG<|sp h (bN k k k (fS k (cX (yF (gU gO k k)) (cX (k) kX))))
  ·obtain ⟨rfl,hent⟩:=hX;exact bG<|aE<|sp h hent
def dW (a0:Int) (a1:Qv) (v1:((List (List Int))×Bool)) (x1:((List Rp)×Int)):Option (((List Rp)×Int) ⊕ ((List Rp) ⊕ ((List Rp)×Bool))):=
 bif decide (x1.2<((v1.1.length:Nat):Int)) then
 (bif v1.2 then
 ((cE v1.1 x1.2).bind λv4=>
 (tL a0 a1 v4).bind λv5=>
 bif !v5.2 then
 (some (.inr (.inr ((([]:(List Rp)),false)))))
 else
 (bif decide (x1.1.length+1≤4294967296) then
 (some (.inl ((x1.1++[v5.1]),wr (x1.2+1))))
 else none))
 else
 (some (.inr (.inl x1.1))))
 else
 (some (.inr (.inl x1.1)))
def iB (a0:Int) (a1:Qv):Option ((List Rp)×Bool):=
 (fE a1).bind λv1=>
 (Lp (dW a0 a1 v1) (([]:(List Rp)),0)).bind λy8=>
 Sum.elim (λy9=>
 bif v1.2 then
 ((jT a0).bind λv11=>
 some ((y9,v11)))
 else
 (some ((y9,false)))
 )
 (λy12=>
 some y12
 )
 y8
theorem yO (a0:Int) (a1:Qv) (r:((List Rp)×Bool)) (h:iB a0 a1=some r):HasC Tryz.prog 7 [.int a0,.agg (eQ a1)] (.tuple [.list 6 (r.1.map eR),.bl r.2]):=by
 refine hM [.tmp 4,.tmp 5] Tryz.func7 Tryz.ntmps7 k<|sR<|ae (wb k) k<|aa k k<|aT k2<|sR<|lp k8<|oB h λv1 hv1 h=>ae (tH (σ:=sg []) (σ':=sg [(1,0)]) (touch:=[]) (news:=[1]) (hl2:=[(1,⟨1,v1.1.map (cV 1 eI)⟩)]) (n':=2) (r2:= .tuple [.own 1 0 v1.1.length,.bl v1.2]) (vK a1 v1 hv1) k k ⟨_,_,k,(.inl ⟨_,_,k,k,⟨_,_,k,⟨k,k⟩,⟨_,_,k,⟨k,k⟩,k⟩⟩⟩),k⟩ aR k k k ⟨⟨_,k,k,.inl ⟨k,bD.plainE _⟩⟩,k,aR⟩ k (.inr ⟨_,_,k,k,⟨_,_,k,⟨k,k,(by simp only [aL,lA,lT,lR,lC,lN]),k⟩,⟨_,_,k,k,k⟩⟩⟩) k ⟨k,bD.tamdE _ _,aR⟩ k k) k<|am k k<|ae (cI k k (by intro _ h;cases h)) k<|ae (cI k k (by intro _ h;cases h)) k<|aa k k<|aT k2<|sR<|ae (wl k) k<|aT k2<|aM (t:=mN [(0,.int a0),(3,.ptr 0 0 0),(6,.own 1 0 v1.1.length),(7,.bl v1.2),(8,.own 2 0 (([]:(List Rp)).length))] [(0,⟨3,[eQ a1]⟩),(1,⟨1,v1.1.map (cV 1 eI)⟩),(2,⟨6,List.map (ow eR) ([]:(List Rp))⟩)] 3) (bK (mA 4 k2 (jP ⟨_,k,⟨k,k,(by simp only [aL,lA,lT,lR,lC,lN]),k⟩⟩ aR)) (bP k<|cD (bD.plainE _) k<|cD (gO.plainO _) k<|aR) k4)<|sQ<|sR<|aa k k ?_;refine an<|tn<|aC<|oB h λy8 hy8 h=>bW (body:=(dW a0 a1 v1)) hy8 (λ(x1:((List Rp)×Int))=>mN [(0,.int a0),(3,.ptr 0 0 0),(6,.own 1 0 v1.1.length),(7,.bl v1.2),(8,.own 2 0 x1.1.length),(9,.int x1.2)] [(0,⟨3,[eQ a1]⟩),(1,⟨1,v1.1.map (cV 1 eI)⟩),(2,⟨6,x1.1.map (ow eR)⟩)] 3) (λr e t=>Sum.elim (λa=>(λr e t=>e= .exit 0∧Ent t (mN [(0,.int a0),(7,.bl v1.2),(8,.own 0 0 r.length)] [(0,⟨6,r.map (ow eR)⟩)] 1)) a e t) (λb=>(λr e t=>e= .ret∧rY TT [.tmp 4,.tmp 5] (.tuple [.list 6 (r.1.map eR),.bl r.2]) .ret t) b e t) r) (bK (bH k2) (bP k<|cD (bD.plainE _) k<|cD (gO.plainO _) k<|aR) k4) ?_ ?_
 ·intro x1 o h;refine sQ<|sR<|am k k<|am k k<|ae (cW aH k k k k) k<|cm k4<|am k k<|tQ h (λq2 h=>?_) λq2 h=>bA 22 k q2<|ak k k<|pk k3<|an<|tn<|lS k k<|aX<|aA<|aA<|sp h ⟨_,k,k,(sW [2] (bH k2) (cD (gO.plainO _) k<|aR) k4)⟩;refine bA 22 k q2<|am k k<|pk k3<|an<|tn<|dJ k h (λ_ h=>?_) λ_ h=>aX<|aA<|aA<|sp h ⟨_,k,k,(sW [2] (bH k2) (cD (gO.plainO _) k<|aR) k4)⟩;exact aD<|tn<|sQ<|aC<|sQ<|aN gV<|am k k<|lp k8<|am k k<|am k k<|oB h λv4 hv4 h=>ae (xo hv4 k) k<|ae (wp hv4 k) k<|oB h λv5 hv5 h=>ae (AEff.conv (sO (x:= .tuple [.agg [.int v5.1.p,.int v5.1.q.n,.own 3 0 (v5.1.q.src.map eI).length,.own 4 0 (v5.1.q.tgt.map eI).length,.own 5 0 (v5.1.dims.map eI).length,.own 6 0 (v5.1.maps.map eM).length],.bl v5.2]) (nb:=[(3,⟨1,dM (v5.1.q.src.map eI)⟩),(4,⟨1,dM (v5.1.q.tgt.map eI)⟩),(5,⟨1,dM (v5.1.dims.map eI)⟩),(6,⟨3,dM (v5.1.maps.map eM)⟩)]) (aGQ a0 a1 v4 v5 hv5) k (by rfl) k k (lF (dG aR (dG aR (dG (dD.good _) (dG (dD.good _) (dG (dD.good _) (dG (dF.good _) aAN)))))) (lF aR aAw)) (dX k (bB (qH k) (dX k aV)))) (v':= .tuple [.agg [.int v5.1.p,.int v5.1.q.n,.own 3 0 v5.1.q.src.length,.own 4 0 v5.1.q.tgt.length,.own 5 0 v5.1.dims.length,.own 6 0 v5.1.maps.length],.bl v5.2]) (ed':=[(3,some ⟨1,v5.1.q.src.map (ow eI)⟩),(4,some ⟨1,v5.1.q.tgt.map (ow eI)⟩),(5,some ⟨1,v5.1.dims.map (ow eI)⟩),(6,some ⟨3,v5.1.maps.map (ow eM)⟩)]) (by simp only [aL]) (aAc (nb':=[(3,⟨1,v5.1.q.src.map (ow eI)⟩),(4,⟨1,v5.1.q.tgt.map (ow eI)⟩),(5,⟨1,v5.1.dims.map (ow eI)⟩),(6,⟨3,v5.1.maps.map (ow eM)⟩)]) (by simp only [gF]))) k<|am k k<|ae (cI k k (by intro _ h;cases h)) k<|ae (cI k k (by intro _ h;cases h)) k<|ae (dB aH k k) k<|ae (ws k) k<|aa k k<|an<|sG (by kernel_rfl)<|tn<|sQ<|sR<|am k k<|ae (fM k) k<|an<|tn<|dJ k h (λ_ h=>sR<|ae (wl k) k<|aa k k<|aT k2<|aM (t:=mN [(4,.own 8 0 (([]:(List Rp)).length)),(5,.bl false)] [(8,⟨6,List.map (ow eR) ([]:(List Rp))⟩)] 9) (bK (jP ⟨_,k,⟨k,k,(by simp only [aL,lA,lT,lR,lC,lN]),k⟩⟩ (bH k2)) (cD (gO.plainO _) k<|aR) k4)<|aG<|aE<|bG<|aE<|aE<|sp h ⟨_,k,k,bN k k k (fS k (cX (yF (gU gO k k)) (cX (k) kX)))⟩) λ_ h=>aD<|tn<|rg<|am k k<|lp k8<|ae (wl k) k<|cG h λq7 h=>ae (kY aH (l:=x1.1) (c:=[.int v5.1.p,.int v5.1.q.n,.own 3 0 v5.1.q.src.length,.own 4 0 v5.1.q.tgt.length,.own 5 0 v5.1.dims.length,.own 6 0 v5.1.maps.length]) q7 k k k k k k k k k k k k k k) k<|aa k k<|an<|aS<|tn<|aM (t:=mN [(0,.int a0),(3,.ptr 0 0 0),(6,.own 1 0 v1.1.length),(7,.bl v1.2),(8,.own 9 0 ((x1.1++[v5.1]).length)),(9,.int x1.2)] [(0,⟨3,[eQ a1]⟩),(1,⟨1,v1.1.map (cV 1 eI)⟩),(9,⟨6,List.map (ow eR) (x1.1++[v5.1])⟩)] 10) (Ent.trans (eG (b:=9) (b':=3) (j:=2) (es':=v5.1.q.src.map eI) k k k k (aL _ _) (dD.frzs _)) (Ent.trans (eG (b:=9) (b':=4) (j:=3) (es':=v5.1.q.tgt.map eI) k k k k (aL _ _) (dD.frzs _)) (Ent.trans (eG (b:=9) (b':=5) (j:=4) (es':=v5.1.dims.map eI) k k k k (aL _ _) (dD.frzs _)) (Ent.trans (eG (b:=9) (b':=6) (j:=5) (es':=v5.1.maps.map eM) k k k k (aL _ _) (dF.frzs _)) (bK (mA 4 k2 (jP ⟨_,k,⟨k,k,(by simp only [aL,lA,lT,lR,lC,lN]),k⟩⟩ (bH k2))) (bP k<|cD (bD.plainE _) k<|hX ⟨_,k,k,.inl ⟨lY v5.1 k,gO.plainO _⟩⟩ k<|aR) k4)))))<|rg<|am k k<|ae (bC k k) k<|aT k2<|sp h ⟨_,k,(sW [0,1,9] (bH k2) (bP k<|cD (bD.plainE _) k<|cD (gO.plainO _) k<|aR) k4)⟩
 ·intro e t hX;rcases y8 with y9|y12
  ·obtain ⟨rfl,hent⟩:=hX;exact aJ<|tn<|aM hent<|sR<|am k k<|am k k<|am k k<|tQ h (λq10 h=>bA 46 k q10<|am k k<|oB h λv11 hv11 h=>ae (aY (pK a0 v11 hv11) k (dX k aV)) k<|pk k3<|aa k k<|aT k2<|aG<|sp h (bN k k k (fS k (cX (yF (gU gO k k)) (cX (k) kX))))) λq10 h=>bA 46 k q10<|aK k4<|pk k3<|aa k k<|aT k2<|aG<|sp h (bN k k k (fS k (cX (yF (gU gO k k)) (cX (k) kX))))
  ·obtain ⟨rfl,hent⟩:=hX;exact bG<|aE<|sp h hent
end
noncomputable section
def dg (N c t:Nat):Int:=((c / 2 ^ (N - 1 - t) % 2:Nat):Int)
def aGR (N c:Nat):List Int:=(List.range N).map (dg N c)
theorem aGS (N c:Nat):aGR (N+1) c=((c / 2 ^ N % 2:Nat):Int)::(List.range N).map λt=>dg (N+1) c (t+1):=by
 unfold aGR;rw [List.range_succ_eq_map,List.map_cons,List.map_map];rfl
theorem aPC {N c t:Nat} :dg (N+1) c (t+1)=dg N c t:=by
 unfold dg;rw [show N+1 - 1 - (t+1)=N - 1 - t by omega]
theorem aQT {N c t:Nat} (h:t<N):dg (N+1) (2 ^ N+c) (t+1)=dg N c t:=by
 rw [aPC];unfold dg;congr 1;have e:2 ^ N=2 ^ (N - 1 - t)*(2 ^ t*2):=by rw [←Nat.pow_succ,←Nat.pow_add];congr 1;omega
 rw [e,Nat.mul_add_div (Nat.two_pow_pos _)];generalize 2 ^ t=a;omega
theorem aGT: ∀ N,cJ (List.replicate N 1)=(List.range (2 ^ N)).map (aGR N)
 |0=>rfl
 |N+1=>by
  have hp:0<2 ^ N:=Nat.two_pow_pos N
  have e1:cJ (List.replicate (N+1) 1)=(cJ (List.replicate N 1)).map ((0:Int):: ·)++(cJ (List.replicate N 1)).map ((1:Int):: ·):=by
   rw [List.replicate_succ];show (List.range 2).flatMap (λ(i:Nat)=>(cJ (List.replicate N 1)).map λx=>(i:Int)::x)=_;rw [show List.range 2=[0,1] from rfl];simp
  rw [e1,aGT N,show 2 ^ (N+1)=2 ^ N+2 ^ N by rw [Nat.pow_succ];omega,List.range_add,List.map_append,List.map_map,List.map_map,List.map_map];congr 1
  ·refine oX λc hc=>?_;have hc:=List.mem_range.1 hc;simp only [Function.comp];rw [aGS,Nat.div_eq_of_lt hc];congr 1;exact oX λt ht=>aPC.symm
  ·refine oX λc hc=>?_;have hc:=List.mem_range.1 hc;simp only [Function.comp];rw [aGS,Nat.add_div_left _ hp,Nat.div_eq_of_lt hc];congr 1;exact oX λt ht=>(aQT (List.mem_range.1 ht)).symm
theorem aKV (l:Nat→Nat) (g:Nat→Int): ∀ k,cat l (λv y=>g (off l v+y)) k=(List.range (off l k)).map g
 |0=>rfl
 |k+1=>by
  rw [cat,aKV l g k,off,List.range_add,List.map_append,List.map_map];rfl
def vW (k:Nat) (r c:Nat→Int) (l:Nat→Nat) (F:Nat→Nat→Int):List Mt:=(List.range k).map λv=>⟨r v,c v,(List.range (l v)).map (F v)⟩
def aJE (l:Nat→Nat) (N code T:Nat) (F:Nat→Nat→Int):Nat→Nat→Int:=λv y=>if T≤off l v+y then dg N code (off l v+y) else F v y
def dgM (l:Nat→Nat) (N code:Nat):Nat→Nat→Int:=λv y=>dg N code (off l v+y)
theorem aGV {α:Type} (n k:Nat) (f:Nat→α) (v:α):((List.range n).map f).set k v=(List.range n).map λi=>if i=k then v else f i:=by
 refine List.ext_getElem (by simp) λt h1 h2=>?_;rw [List.getElem_set,List.getElem_map,List.getElem_map,List.getElem_range];by_cases e:k=t
 ·rw [aP e,aP e.symm]
 ·rw [aO e,aO λh=>e h.symm]
section
variable {k:Nat} {r c:Nat→Int} {l:Nat→Nat}
theorem aMg {F G:Nat→Nat→Int} (h: ∀ v,v<k→ ∀ y,y<l v→F v y=G v y):vW k r c l F=vW k r c l G:=by
 refine oX λv hv=>?_;congr 1;exact oX λy hy=>h v (List.mem_range.1 hv) y (List.mem_range.1 hy)
theorem aLh {F:Nat→Nat→Int} {v:Nat} (hv:v<k):cE (vW k r c l F) (v:Int)=some ⟨r v,c v,(List.range (l v)).map (F v)⟩:=aAS hv
theorem aBe {F:Nat→Nat→Int} :(vW k r c l F).length=k:=by unfold vW;simp
theorem aQU {F:Nat→Nat→Int} {i y:Nat} {z:Int} (hi:i<k):(vW k r c l F).set i ⟨r i,c i,((List.range (l i)).map (F i)).set y z⟩=vW k r c l (λv x=>if v=i∧x=y then z else F v x):=by
 unfold vW;rw [aGV];refine oX λv hv=>?_;by_cases e:v=i
 ·subst e;rw [aP rfl,aGV];congr 1;refine oX λx hx=>?_;by_cases e2:x=y
  ·simp [e2]
  ·simp [e2]
 ·rw [aO e];congr 1;exact oX λx hx=>by simp only;rw [aO λh=>e h.1]
theorem aKW {F:Nat→Nat→Int} {i:Nat} (hi:i<k):(vW k r c l F).set i ⟨r i,c i,(List.range (l i)).map (F i)⟩=vW k r c l F:=by
 unfold vW;rw [aGV];refine oX λv hv=>?_;by_cases e:v=i
 ·subst e;rw [aP rfl]
 ·rw [aO e]
theorem aPD {F:Nat→Nat→Int} {N code i y:Nat} (hi:i<k) (hy:y<l i):vW k r c l (λv x=>if v=i∧x=y then dg N code (off l i+y) else aJE l N code (off l i+y+1) F v x)=vW k r c l (aJE l N code (off l i+y) F):=by
 refine aMg λv hv x hx=>?_;unfold aJE;by_cases e:v=i∧x=y
 ·obtain ⟨rfl,rfl⟩:=e;rw [aP ⟨rfl,rfl⟩,aP (bJ _)]
 ·rw [aO e];have hne:off l v+x≠off l i+y:=λh=>e (aMY hx hy h);by_cases h:off l i+y≤off l v+x
  ·rw [aP (by omega),aP h]
  ·rw [aO (by omega),aO h]
theorem aRh {F:Nat→Nat→Int} {N code i:Nat} (hk:k≤1000) (hN:off l k=N) (hN1:N≤1000) (hc:code≤1048576) (hi:i<k) (X:List Mt) (c0:Int):
  Lp (kS (X,c0,(i:Int))) (vW k r c l (aJE l N code (off l (i+1)) F),((code / 2 ^ (N - off l (i+1)):Nat):Int),(l i:Int) - 1)=some (vW k r c l (aJE l N code (off l i) F),((code / 2 ^ (N - off l i):Nat):Int)):=by
 have e0:off l (i+1)=off l i+l i:=rfl;have h1:off l (i+1)≤N:=by rw [←hN];exact yN hi
 refine dR (λm=>(vW k r c l (aJE l N code (off l (i+1) - m) F),((code / 2 ^ (N - (off l (i+1) - m)):Nat):Int),(l i:Int) - 1 - m)) (l i) (by simp) (λm hm=>?_) (λ_=>?_)
 ·obtain ⟨y,hy⟩: ∃ y,y=l i - 1 - m:=⟨_,rfl⟩;have hyl:y<l i:=by omega
  have ei:(l i:Int) - 1 - m=(y:Int):=by omega
  have eT:off l (i+1) - m=off l i+y+1:=by omega
  have eT':off l (i+1) - (m+1)=off l i+y:=by omega
  have hle:code / 2 ^ (N - (off l i+y+1))≤code:=Nat.div_le_self _ _;unfold kS;simp only;rw [ei,eT,eT',bF (by omega),aI,aLh hi,aB];simp only;rw [aAS hyl,aB,cO,cO,aQU hi]
  rw [show ((code / 2 ^ (N - (off l i+y+1)):Nat):Int).tmod 2=dg N code (off l i+y) by
   unfold dg;rw [show N - 1 - (off l i+y)=N - (off l i+y+1) by omega]
   rfl]
  rw [aPD hi hyl,show ((code / 2 ^ (N - (off l i+y+1)):Nat):Int).tdiv 2=((code / 2 ^ (N - (off l i+y+1)) / 2:Nat):Int) from rfl]
  have e3:code / 2 ^ (N - (off l i+y))=code / 2 ^ (N - (off l i+y+1)) / 2:=by
   rw [Nat.div_div_eq_div_mul,←Nat.pow_succ,Nat.succ_eq_add_one,show N - (off l i+y+1)+1=N - (off l i+y) by omega]
  rw [e3];generalize code / 2 ^ (N - (off l i+y+1))=Q at*;rw [cB (by omega),cB (by omega),show (l i:Int) - 1 - ((m+1:Nat):Int)=(y:Int) - 1 by omega]
 ·unfold kS;simp only;rw [dQ (by omega),aW,show off l (i+1) - l i=off l i by omega]
theorem aRi {F:Nat→Nat→Int} {N code:Nat} (hk:k≤1000) (hN:off l k=N) (hN1:N≤1000) (hc:code≤1048576):
  Lp kT (vW k r c l F,(code:Int),(k:Int) - 1)=some (vW k r c l (dgM l N code)):=by
 refine dR (λm=>(vW k r c l (aJE l N code (off l (k - m)) F),((code / 2 ^ (N - off l (k - m)):Nat):Int),(k:Int) - 1 - m)) k ?_ (λm hm=>?_) (λ_=>?_)
 ·have e:vW k r c l F=vW k r c l (aJE l N code (off l (k - 0)) F):=aMg λv hv y hy=>by
   have:=tF (l:=l) hv hy;unfold aJE;rw [aO (by rw [Nat.sub_zero];omega)]
  rw [←e,Nat.sub_zero,hN,Nat.sub_self,Nat.pow_zero,Nat.div_one];simp
 ·obtain ⟨i,hi⟩: ∃ i,i=k - 1 - m:=⟨_,rfl⟩;have hik:i<k:=by omega
  have ei:(k:Int) - 1 - m=(i:Int):=by omega
  have e0:off l (i+1)=off l i+l i:=rfl;have hli:l i≤1000:=by have:=yN (l:=l) (show i+1≤k from hik);omega
  unfold kT;simp only;rw [ei,show k - m=i+1 by omega,show k - (m+1)=i by omega,bF (by omega),aI,aLh hik,aB,cO,aKW hik];simp only [dE,List.length_range];rw [show wr ((l i:Int) - 1)=(l i:Int) - 1 from cB (by omega),aRh hk hN hN1 hc hik,aB];simp only;rw [cB (by omega)];congr 4;omega
 ·unfold kT;simp only;rw [dQ (by omega),aW,Nat.sub_self];congr 2
theorem aRj {F:Nat→Nat→Int} {N:Nat} (hk:k≤1000) (hN:off l k=N) (hN1:N≤1000):Lp iR (vW k r c l F,0,0)=some (vW k r c l F,(N:Int)):=by
 refine dR (λm=>(vW k r c l F,(off l m:Int),(m:Int))) k rfl (λm hm=>?_) (λ_=>?_)
 ·have e0:off l (m+1)=off l m+l m:=rfl;have:=yN (l:=l) (show m+1≤k from hm);unfold iR;simp only;rw [aBe,jN hm,aI,aLh hm,aB,cO,aKW hm];simp only [dE,List.length_range];rw [bT hm (by omega),cB (by omega),e0];congr 4
 ·unfold iR;simp only;rw [aBe,kV (bJ _),aW,hN]
theorem aMh: ∀ N:Nat,N≤10→aLb 1 (N:Int)=((2 ^ N:Nat):Int):=by decide
def aGW (p:Int) (q:Qv) (d:List Int) (k:Nat) (r c:Nat→Int) (l:Nat→Nat) (N:Nat) (P:Nat→Bool) (s n:Nat):Unit ⊕ (Rp×Bool):=
 match (List.range' s n).find? P with
 |none=> .inl ()
 |some code=> .inr (⟨p,q,d,vW k r c l (dgM l N code)⟩,true)
theorem aRk {p:Int} {q:Qv} {d:List Int} {N:Nat} {P:Nat→Bool} {X:List Mt} {z:List Mt} (hk:k≤1000) (hN:off l k=N) (hN1:N≤10)
  (hP: ∀ code,code<2 ^ N→ ∃ h:Int,qS ⟨p,q,d,vW k r c l (dgM l N code)⟩ ⟨p,q,d,vW k r c l (dgM l N code)⟩=some h∧decide (h=1)=P code):
  ∀ (n s:Nat) (F:Nat→Nat→Int),s+n=2 ^ N→Lp (fP ⟨p,q,d,z⟩ (X,(N:Int))) (vW k r c l F,(s:Int))=some (aGW p q d k r c l N P s n):=by
 have h2:2 ^ N≤1024:=Nat.le_trans (Nat.pow_le_pow_right (by omega) hN1) (by decide);intro n;induction n with
 |zero=>
  intro s F hs;refine eN ?_;unfold fP;simp only;rw [bF (by omega),aI,dQ (by omega),Bool.not_false,aI,aMh N hN1,kV (by omega),aW];rfl
 |succ n ih=>
  intro s F hs;have hlt:s<2 ^ N:=by omega
  obtain ⟨h,hh1,hh2⟩:=hP s hlt
  have hb:fP ⟨p,q,d,z⟩ (X,(N:Int)) (vW k r c l F,(s:Int))=some (bif P s then .inr (.inr (⟨p,q,d,vW k r c l (dgM l N s)⟩,true)) else .inl (vW k r c l (dgM l N s),((s+1:Nat):Int))):=by
   unfold fP;simp only;rw [bF (by omega),aI,dQ (by omega),Bool.not_false,aI,aMh N hN1,jN hlt,aI,aBe,show wr ((k:Int) - 1)=(k:Int) - 1 from cB (by omega),aRi hk hN (by omega) (by omega),aB,hh1,aB,hh2];cases P s with
   |true=>rfl
   |false=>rw [aW,aW,bT hlt (by omega)]
  unfold aGW;rw [List.range'_succ,List.find?_cons];cases hp:P s with
  |true=>
   rw [hp] at hb;exact eN hb
  |false=>
   rw [hp] at hb;rw [lD hb,ih (s+1) _ (by omega)];rfl
theorem aSj {p:Int} {q:Qv} {d:List Int} {N:Nat} {P:Nat→Bool} {G:Nat→Nat→Int} (hk:k≤1000) (hN:off l k=N) (hN1:N≤10)
  (hP: ∀ code,code<2 ^ N→ ∃ h:Int,qR ⟨p,q,d,vW k r c l (dgM l N code)⟩ ⟨p,q,d,vW k r c l (dgM l N code)⟩=some h∧decide (h=1)=P code):
  ∀ (n s:Nat) (X:List Mt),s+n=2 ^ N→ ∃ Y,Fl (iQ ⟨p,q,d,vW k r c l G⟩) ((List.range' s n).map (aGR N)) X=some ((aGW p q d k r c l N P s n).elim (λ_=> .inl Y) .inr):=by
 intro n;induction n with
 |zero=>intro s X hs;exact ⟨X,rfl⟩
 |succ n ih=>
  intro s X hs;have hlt:s<2 ^ N:=by omega
  obtain ⟨h,hh1,hh2⟩:=hP s hlt
  have hsh:oJ (vW k r c l G) (aGR N s)=some (vW k r c l (dgM l N s)):=by
   unfold aGR;rw [←hN,←aKV l (dg (off l k) s) k];exact aKL (by omega) (by omega) λv hv=>by simp
  have hb:iQ ⟨p,q,d,vW k r c l G⟩ (aGR N s) X=some (bif P s then .inr (⟨p,q,d,vW k r c l (dgM l N s)⟩,true) else .inl (vW k r c l (dgM l N s))):=by
   unfold iQ;simp only;rw [hsh,aB,hh1,aB,hh2];cases P s <;> rfl
  unfold aGW;rw [List.range'_succ,List.find?_cons,List.map_cons];simp only [Fl,hb];cases hp:P s with
  |true=>exact ⟨X,rfl⟩
  |false=>
   obtain ⟨Y,hY⟩:=ih (s+1) (vW k r c l (dgM l N s)) (by omega);exact ⟨Y,hY⟩
end
end
noncomputable section
set_option maxRecDepth 100000
def dP:Nat→(Nat→Int)→Int
 |0,_=>0
 |n+1,f=>dP n f+f n
def aJF (k:Nat) (row:List Int):List Int:=row.take k++row.drop (k+1)
def sgK (k:Nat):Int:=if Nat.beq (k % 2) 0 then 1 else -1
def aHF (det:List (List Int)→Int) (r0:List Int) (rest:List (List Int)):Nat→Int
 |0=>0
 |k+1=>wr (aHF det r0 rest k+wr (wr (sgK k*r0[k]?.getD 0)*det (rest.map (aJF k))))
def vM:Nat→List (List Int)→Int
 |0,_=>0
 |_+1,[]=>1
 |d+1,r0::rest=>aHF (vM d) r0 rest r0.length
def aAU (s v:Nat):Bool:=Nat.beq (s / 2 ^ v % 2) 1
def mP (n s:Nat):List Nat:=(List.range n).filter (aAU s)
def jK (n:Nat) (T:List (List Int)) (s:Nat):List (List Int):=(mP n s).map λv=>(mP n s).map λw=>iF T v w
def pdF:Nat→(Nat→Nat→Int)→Bool
 |0,_=>true
 |n+1,m=>decide (0<m 0 0)&&pdF n (λi j=>m 0 0*m (i+1) (j+1) - m (i+1) 0*m 0 (j+1))
def mvT (n:Nat) (T:List (List Int)) (x:List Int) (v:Nat):Int:=dP n λw=>iF T v w*x[w]?.getD 0
def aQV (x:List Int) (v:Nat):List Int:=x.set v (x[v]?.getD 0+1)
def tM (n v:Nat):List Int:=(List.replicate n (0:Int)).set v 1
def aJG (x:List Int) (l:List (List Int)):List (List Int):=if x∈l then l else x::l
def aEO (n:Nat) (T:List (List Int)) (l:List (List Int)):List (List Int):=(l.flatMap λx=>((List.range n).filter λv=>decide (mvT n T x v= -1)).map (aQV x)).foldr aJG []
def aLi (n:Nat) (T:List (List Int)):Nat→List (List Int)→List (List Int)→List (List Int)×Bool
 |0,cur,acc=>(acc++cur,cur.isEmpty)
 |k+1,cur,acc=>aLi n T k (aEO n T cur) (acc++cur)
def aCN (n:Nat) (T:List (List Int)):List (List Int)×Bool:=aLi n T 8 ((List.range n).map (tM n)) []
def aHx (n:Nat) (T:List (List Int)):Bool:=pdF n (iF T)&&(match aCN n T with|(l,e)=>e&&decide (l.length≤20)&&l.all λx=>x.all λa=>decide (a≤4))
def xA (n:Nat) (T:List (List Int)):Bool:=aHx n T||[7,11,13,14,19,21,22,25,26,28,15,23,27,29,30,31].any λs=>Nat.blt s (2 ^ n)&&decide (vM 8 (jK n T s)≤0)
def bi (b:Bool):Int:=if b then -1 else 0
theorem aTP:xA 1 [[2]]=true:=by decide+kernel
theorem aTQ: ∀ a:Bool,xA 2 [[2,bi a],[bi a,2]]=true:=by decide+kernel
theorem aTR: ∀ a b c:Bool,xA 3 [[2,bi a,bi b],[bi a,2,bi c],[bi b,bi c,2]]=true:=by decide+kernel
theorem aTS: ∀ a b c d e f:Bool,xA 4 [[2,bi a,bi b,bi c],[bi a,2,bi d,bi e],[bi b,bi d,2,bi f],[bi c,bi e,bi f,2]]=true:=by decide+kernel
theorem aRl: ∀ e f g h i j:Bool,xA 5 [[2,bi false,bi false,bi false,bi false],[bi false,2,bi e,bi f,bi g],[bi false,bi e,2,bi h,bi i],[bi false,bi f,bi h,2,bi j],[bi false,bi g,bi i,bi j,2]]=true:=by decide+kernel
theorem aRm: ∀ e f g h i j:Bool,xA 5 [[2,bi true,bi false,bi false,bi false],[bi true,2,bi e,bi f,bi g],[bi false,bi e,2,bi h,bi i],[bi false,bi f,bi h,2,bi j],[bi false,bi g,bi i,bi j,2]]=true:=by decide+kernel
theorem aRn: ∀ e f g h i j:Bool,xA 5 [[2,bi false,bi true,bi false,bi false],[bi false,2,bi e,bi f,bi g],[bi true,bi e,2,bi h,bi i],[bi false,bi f,bi h,2,bi j],[bi false,bi g,bi i,bi j,2]]=true:=by decide+kernel
theorem aRo: ∀ e f g h i j:Bool,xA 5 [[2,bi true,bi true,bi false,bi false],[bi true,2,bi e,bi f,bi g],[bi true,bi e,2,bi h,bi i],[bi false,bi f,bi h,2,bi j],[bi false,bi g,bi i,bi j,2]]=true:=by decide+kernel
theorem aRp: ∀ e f g h i j:Bool,xA 5 [[2,bi false,bi false,bi true,bi false],[bi false,2,bi e,bi f,bi g],[bi false,bi e,2,bi h,bi i],[bi true,bi f,bi h,2,bi j],[bi false,bi g,bi i,bi j,2]]=true:=by decide+kernel
theorem aRq: ∀ e f g h i j:Bool,xA 5 [[2,bi true,bi false,bi true,bi false],[bi true,2,bi e,bi f,bi g],[bi false,bi e,2,bi h,bi i],[bi true,bi f,bi h,2,bi j],[bi false,bi g,bi i,bi j,2]]=true:=by decide+kernel
theorem aRr: ∀ e f g h i j:Bool,xA 5 [[2,bi false,bi true,bi true,bi false],[bi false,2,bi e,bi f,bi g],[bi true,bi e,2,bi h,bi i],[bi true,bi f,bi h,2,bi j],[bi false,bi g,bi i,bi j,2]]=true:=by decide+kernel
theorem aRs: ∀ e f g h i j:Bool,xA 5 [[2,bi true,bi true,bi true,bi false],[bi true,2,bi e,bi f,bi g],[bi true,bi e,2,bi h,bi i],[bi true,bi f,bi h,2,bi j],[bi false,bi g,bi i,bi j,2]]=true:=by decide+kernel
theorem aRt: ∀ e f g h i j:Bool,xA 5 [[2,bi false,bi false,bi false,bi true],[bi false,2,bi e,bi f,bi g],[bi false,bi e,2,bi h,bi i],[bi false,bi f,bi h,2,bi j],[bi true,bi g,bi i,bi j,2]]=true:=by decide+kernel
theorem aRu: ∀ e f g h i j:Bool,xA 5 [[2,bi true,bi false,bi false,bi true],[bi true,2,bi e,bi f,bi g],[bi false,bi e,2,bi h,bi i],[bi false,bi f,bi h,2,bi j],[bi true,bi g,bi i,bi j,2]]=true:=by decide+kernel
theorem aQW: ∀ e f g h i j:Bool,xA 5 [[2,bi false,bi true,bi false,bi true],[bi false,2,bi e,bi f,bi g],[bi true,bi e,2,bi h,bi i],[bi false,bi f,bi h,2,bi j],[bi true,bi g,bi i,bi j,2]]=true:=by decide+kernel
theorem aQX: ∀ e f g h i j:Bool,xA 5 [[2,bi true,bi true,bi false,bi true],[bi true,2,bi e,bi f,bi g],[bi true,bi e,2,bi h,bi i],[bi false,bi f,bi h,2,bi j],[bi true,bi g,bi i,bi j,2]]=true:=by decide+kernel
theorem aQY: ∀ e f g h i j:Bool,xA 5 [[2,bi false,bi false,bi true,bi true],[bi false,2,bi e,bi f,bi g],[bi false,bi e,2,bi h,bi i],[bi true,bi f,bi h,2,bi j],[bi true,bi g,bi i,bi j,2]]=true:=by decide+kernel
theorem aQZ: ∀ e f g h i j:Bool,xA 5 [[2,bi true,bi false,bi true,bi true],[bi true,2,bi e,bi f,bi g],[bi false,bi e,2,bi h,bi i],[bi true,bi f,bi h,2,bi j],[bi true,bi g,bi i,bi j,2]]=true:=by decide+kernel
theorem aQa: ∀ e f g h i j:Bool,xA 5 [[2,bi false,bi true,bi true,bi true],[bi false,2,bi e,bi f,bi g],[bi true,bi e,2,bi h,bi i],[bi true,bi f,bi h,2,bi j],[bi true,bi g,bi i,bi j,2]]=true:=by decide+kernel
theorem aQb: ∀ e f g h i j:Bool,xA 5 [[2,bi true,bi true,bi true,bi true],[bi true,2,bi e,bi f,bi g],[bi true,bi e,2,bi h,bi i],[bi true,bi f,bi h,2,bi j],[bi true,bi g,bi i,bi j,2]]=true:=by decide+kernel
theorem aTT (a b c d e f g h i j:Bool):xA 5 [[2,bi a,bi b,bi c,bi d],[bi a,2,bi e,bi f,bi g],[bi b,bi e,2,bi h,bi i],[bi c,bi f,bi h,2,bi j],[bi d,bi g,bi i,bi j,2]]=true:=by
 cases a <;> cases b <;> cases c <;> cases d
 ·exact aRl e f g h i j
 ·exact aRt e f g h i j
 ·exact aRp e f g h i j
 ·exact aQY e f g h i j
 ·exact aRn e f g h i j
 ·exact aQW e f g h i j
 ·exact aRr e f g h i j
 ·exact aQa e f g h i j
 ·exact aRm e f g h i j
 ·exact aRu e f g h i j
 ·exact aRq e f g h i j
 ·exact aQZ e f g h i j
 ·exact aRo e f g h i j
 ·exact aQX e f g h i j
 ·exact aRs e f g h i j
 ·exact aQb e f g h i j
end
noncomputable section
theorem dH {f g:Nat→Int} : ∀ {n:Nat},(∀ i,i<n→f i=g i)→dP n f=dP n g
 |0,_=>rfl
 |n+1,h=>by simp only [dP];rw [dH (n:=n) λi hi=>h i (by omega),h n (by omega)]
theorem xB (f:Nat→Int): ∀ n,dP (n+1) f=f 0+dP n λi=>f (i+1)
 |0=>by simp [dP]
 |n+1=>by rw [dP,xB f n];simp only [dP];omega
theorem oA (f g:Nat→Int): ∀ n,(dP n λi=>f i+g i)=dP n f+dP n g
 |0=>by simp [dP]
 |n+1=>by simp only [dP];rw [oA f g n];omega
theorem kU (c:Int) (f:Nat→Int): ∀ n,(dP n λi=>c*f i)=c*dP n f
 |0=>by simp [dP]
 |n+1=>by simp only [dP];rw [kU c f n,Int.mul_add]
theorem uM: ∀ n,(dP n λ_=>(0:Int))=0
 |0=>rfl
 |n+1=>by simp only [dP];rw [uM n];rfl
theorem aEP {f:Nat→Int} : ∀ {n:Nat},(∀ i,i<n→0≤f i)→0≤dP n f
 |0,_=>Int.le_refl 0
 |n+1,h=>by simp only [dP];have:=aEP (n:=n) λi hi=>h i (by omega);have:=h n (by omega);omega
theorem aBJ {f:Nat→Int} : ∀ {n:Nat},0<dP n f→ ∃ i,i<n∧0<f i
 |0,h=>absurd h (by simp [dP])
 |n+1,h=>by
  simp only [dP] at h;by_cases h1:0<f n
  ·exact ⟨n,by omega,h1⟩
  ·obtain ⟨i,h2,h3⟩:=aBJ (f:=f) (n:=n) (by omega);exact ⟨i,by omega,h3⟩
theorem aTB {f:Nat→Int} {n i:Nat} (h: ∀ i,i<n→0≤f i) (hi:i<n):f i≤dP n f:=by
 induction n with
 |zero=>omega
 |succ n ih=>
  simp only [dP];have h1:=aEP (f:=f) (n:=n) λi hi=>h i (by omega);by_cases e:i=n
  ·subst e;omega
  ·have:=ih (λi hi=>h i (by omega)) (by omega);have:=h n (by omega);omega
theorem zT {n v:Nat} (f:Nat→Int) (hv:v<n):(dP n λi=>if i=v then f i else 0)=f v:=by
 induction n with
 |zero=>omega
 |succ n ih=>
  simp only [dP];by_cases e:v=n
  ·subst e;rw [aP rfl,dH (g:=λ_=>0) (λi hi=>aO (by omega)),uM];omega
  ·rw [ih (by omega),aO (λh=>e h.symm)];omega
def qf (n:Nat) (m:Nat→Nat→Int) (x:Nat→Int):Int:=dP n λi=>dP n λj=>m i j*(x i*x j)
def mv (n:Nat) (m:Nat→Nat→Int) (x:Nat→Int) (v:Nat):Int:=dP n λw=>m v w*x w
theorem aKX (n:Nat) (m:Nat→Nat→Int) (x:Nat→Int):qf n m x=dP n λi=>x i*mv n m x i:=by
 unfold qf mv;refine dH λi _=>?_;rw [←kU];exact dH λj _=>by grind
theorem aQc (n:Nat) (m:Nat→Nat→Int) (x:Nat→Int) (hs: ∀ i,i<n→m (i+1) 0=m 0 (i+1)):
  m 0 0*qf (n+1) m x=(m 0 0*x 0+dP n λj=>m 0 (j+1)*x (j+1))*(m 0 0*x 0+dP n λj=>m 0 (j+1)*x (j+1))+qf n (λi j=>m 0 0*m (i+1) (j+1) - m (i+1) 0*m 0 (j+1)) (λi=>x (i+1)):=by
 have e1:qf (n+1) m x=(m 0 0*(x 0*x 0)+x 0*dP n λj=>m 0 (j+1)*x (j+1))+(x 0*(dP n λj=>m 0 (j+1)*x (j+1))+dP n λi=>dP n λj=>m (i+1) (j+1)*(x (i+1)*x (j+1))):=by
  unfold qf;rw [xB];congr 1
  ·rw [xB,←kU];congr 1;exact dH λj _=>by grind
  ·rw [←kU,←oA];refine dH λi hi=>?_;rw [xB,hs i hi];congr 1
   grind
 have e2:qf n (λi j=>m 0 0*m (i+1) (j+1) - m (i+1) 0*m 0 (j+1)) (λi=>x (i+1))=m 0 0*(dP n λi=>dP n λj=>m (i+1) (j+1)*(x (i+1)*x (j+1)))+(-(dP n λj=>m 0 (j+1)*x (j+1)))*dP n λj=>m 0 (j+1)*x (j+1):=by
  unfold qf;rw [←kU,←kU,←oA];refine dH λi hi=>?_;rw [←kU,show -(dP n λj=>m 0 (j+1)*x (j+1))*(m 0 (i+1)*x (i+1))=(-(m 0 (i+1)*x (i+1)))*dP n λj=>m 0 (j+1)*x (j+1) by grind,←kU,←oA];refine dH λj hj=>?_;dsimp only;rw [hs i hi]
  grind
 rw [e1,e2];generalize (dP n λj=>m 0 (j+1)*x (j+1))=L;generalize (dP n λi=>dP n λj=>m (i+1) (j+1)*(x (i+1)*x (j+1)))=R
 grind
theorem aNY (a:Int):0≤a*a:=by
 rcases Int.le_total 0 a with h|h
 ·exact Int.mul_nonneg h h
 ·have:=Int.mul_nonneg (Int.neg_nonneg_of_nonpos h) (Int.neg_nonneg_of_nonpos h);rwa [Int.neg_mul_neg] at this
theorem aRv {a:Int} (h:a≠0):0<a*a:=by
 rcases Int.lt_or_gt_of_ne h with h|h
 ·have:=Int.mul_pos (Int.neg_pos_of_neg h) (Int.neg_pos_of_neg h);rwa [Int.neg_mul_neg] at this
 ·exact Int.mul_pos h h
theorem aPE: ∀ (n:Nat) (m:Nat→Nat→Int),pdF n m=true→(∀ i j,i<n→j<n→m i j=m j i)→ ∀ x:Nat→Int,0≤qf n m x∧((∃ i,i<n∧x i≠0)→0<qf n m x)
 |0,m,_,_,x=>⟨by simp [qf,dP],λ⟨i,h,_⟩=>by omega⟩
 |n+1,m,hp,hs,x=>by
  simp only [pdF,cU,iK] at hp;obtain ⟨ha,hp⟩:=hp;have ih:=aPE n _ hp (λi j hi hj=>by rw [hs (i+1) (j+1) (by omega) (by omega),hs (i+1) 0 (by omega) (by omega),hs 0 (j+1) (by omega) (by omega)];grind) (λi=>x (i+1));have id:=aQc n m x (λi hi=>hs _ _ (by omega) (by omega));generalize hL:(dP n λj=>m 0 (j+1)*x (j+1))=L at id;have hsq:=aNY (m 0 0*x 0+L);refine ⟨?_,?_⟩
  ·rcases Int.lt_or_le (qf (n+1) m x) 0 with h|h
   ·have:=Int.mul_neg_of_pos_of_neg ha h;omega
   ·exact h
  ·rintro ⟨i,hi,hx⟩
   have hpos:0<m 0 0*qf (n+1) m x:=by
    by_cases hex: ∃ i,i<n∧x (i+1)≠0
    ·have:=ih.2 hex;omega
    ·have hz: ∀ i,i<n→x (i+1)=0:=λi hi=>Classical.byContradiction λh=>hex ⟨i,hi,h⟩
     have hL0:L=0:=by
      rw [←hL,dH (g:=λ_=>0) (λj hj=>by rw [hz j hj,Int.mul_zero]),uM]
     have hx0:x 0≠0:=by
      cases i with
      |zero=>exact hx
      |succ i=>exact absurd (hz i (by omega)) hx
     have:m 0 0*x 0+L≠0:=by
      rw [hL0,Int.add_zero];exact Int.mul_ne_zero (by omega) hx0
     have:=aRv this;have:=ih.1;omega
   rcases Int.lt_or_le 0 (qf (n+1) m x) with h|h
   ·exact h
   ·have:=Int.mul_nonpos_of_nonneg_of_nonpos (Int.le_of_lt ha) h;omega
theorem aLj {n v:Nat} (m:Nat→Nat→Int) (x:Nat→Int) (d:Int) (w:Nat) (hv:v<n):mv n m (λi=>x i+if i=v then d else 0) w=mv n m x w+d*m w v:=by
 unfold mv;rw [←zT (n:=n) (v:=v) (λi=>d*m w i) hv,←oA];refine dH λi _=>?_;by_cases e:i=v
 ·simp only [aP e];grind
 ·simp only [aO e];grind
theorem aLk {n v:Nat} (m:Nat→Nat→Int) (x:Nat→Int) (d:Int) (hv:v<n) (hs: ∀ i j,i<n→j<n→m i j=m j i):qf n m (λi=>x i+if i=v then d else 0)=qf n m x+2*d*mv n m x v+d*d*m v v:=by
 rw [aKX,aKX]
 have e1:(dP n λi=>(x i+if i=v then d else 0)*mv n m (λi=>x i+if i=v then d else 0) i)=dP n λi=>(x i*mv n m x i+d*(m v i*x i))+if i=v then d*(mv n m x i+d*m i v) else 0:=by
  refine dH λi hi=>?_;rw [aLj m x d i hv,hs i v hi hv];by_cases e:i=v
  ·simp only [aP e];grind
  ·simp only [aO e];grind
 rw [e1,oA,oA,kU,zT (λi=>d*(mv n m x i+d*m i v)) hv];change _+d*mv n m x v+_=_
 grind
def gx (x:List Int) (i:Nat):Int:=x[i]?.getD 0
theorem aBK {x:List Int} {v:Nat} (a:Int) (hv:v<x.length) (i:Nat):gx (x.set v a) i=if i=v then a else gx x i:=by
 unfold gx;rw [List.getElem?_set];by_cases e:v=i
 ·subst e;simp [hv]
 ·rw [aO e,aO (λh=>e h.symm)]
theorem aDn {x:List Int} {v:Nat} (d:Int) (hv:v<x.length):gx (x.set v (gx x v+d))=λi=>gx x i+if i=v then d else 0:=by
 funext i;rw [aBK _ hv];by_cases e:i=v
 ·subst e;simp
 ·simp [e]
theorem aPF {x y:List Int} (hl:x.length=y.length) (h: ∀ i,i<x.length→gx x i=gx y i):x=y:=by
 refine List.ext_getElem hl λi h1 h2=>?_;have:=h i h1;simpa [gx,h1,h2] using this
theorem zU: ∀ x:List Int,x.sum=dP x.length (gx x)
 | []=>rfl
 |a::x=>by
  rw [List.length_cons,xB,List.sum_cons,zU x];rfl
theorem aJH {x:List Int} {v:Nat} (d:Int) (hv:v<x.length):(x.set v (gx x v+d)).sum=x.sum+d:=by
 rw [zU,zU,List.length_set,aDn d hv,oA,zT (λ_=>d) hv]
theorem aLl {x:List Int} (h: ∀ a∈x,0≤a):0≤x.sum:=by
 induction x with
 |nil=>simp
 |cons a x ih=>rw [List.sum_cons];have:=h a (by simp);have:=ih λb hb=>h b (by simp [hb]);omega
theorem aGX: ∀ {x:List Int},(∀ a∈x,0≤a)→x.sum=0→x=List.replicate x.length 0
 | [],_,_=>rfl
 |a::x,h,hs=>by
  rw [List.sum_cons] at hs;have h1:=h a (by simp);have h2:=aLl (x:=x) λb hb=>h b (by simp [hb]);have h3:=aGX (x:=x) (λb hb=>h b (by simp [hb])) (by omega);have h4:a=0:=by omega
  rw [h4,List.length_cons,List.replicate_succ,←h3]
theorem aGY: ∀ {x:List Int},(∀ a∈x,0≤a)→x.sum=1→ ∃ v,v<x.length∧x=tM x.length v
 | [],_,hs=>by simp at hs
 |a::x,h,hs=>by
  rw [List.sum_cons] at hs;have h1:=h a (by simp);have h2:=aLl (x:=x) λb hb=>h b (by simp [hb]);by_cases e:a=0
  ·obtain ⟨v,g1,g2⟩:=aGY (x:=x) (λb hb=>h b (by simp [hb])) (by omega);refine ⟨v+1,by simpa using g1,?_⟩;rw [e,List.length_cons];show _=0::tM x.length v;rw [←g2]
  ·have h3:=aGX (x:=x) (λb hb=>h b (by simp [hb])) (by omega);refine ⟨0,by simp,?_⟩;have h4:a=1:=by omega
   rw [h4,List.length_cons];show _=1::List.replicate x.length 0;rw [←h3]
theorem yP {x:List Int} {i:Nat} (h:i<x.length):gx x i∈x:=by
 unfold gx;rw [gS h];exact List.getElem_mem h
theorem yQ {x:List Int} {v:Nat} {a b:Int} (h:b∈x.set v a):b=a∨b∈x:=by
 rcases List.mem_or_eq_of_mem_set h with h|h
 ·exact .inr h
 ·exact .inl h
structure GForm (n:Nat) (T:List (List Int)):Prop where
 sym: ∀ i j,i<n→j<n→iF T i j=iF T j i
 diag: ∀ i,i<n→iF T i i=2
 pd:pdF n (iF T)=true
structure Rt0 (n:Nat) (T:List (List Int)) (x:List Int):Prop where
 len:x.length=n
 nn: ∀ a∈x,0≤a
 two:qf n (iF T) (gx x)=2
theorem aRw (n:Nat) (T:List (List Int)) (x:List Int) (v:Nat):mvT n T x v=mv n (iF T) (gx x) v:=rfl
theorem Rt0.pos {n:Nat} {T:List (List Int)} {x:List Int} (F:GForm n T) (r:Rt0 n T x):1≤x.sum:=by
 have h:=aLl r.nn;rcases Int.lt_or_le x.sum 1 with h1|h1
 ·have h2:=aGX r.nn (by omega);have h3:=r.two;rw [aKX,dH (g:=λ_=>0) (λi hi=>?_),uM] at h3
  ·omega
  ·rw [h2];unfold gx;rw [List.getElem?_replicate];split <;> simp
 ·exact h1
theorem Rt0.down {n:Nat} {T:List (List Int)} {x:List Int} (F:GForm n T) (r:Rt0 n T x) (h:2≤x.sum): ∃ v,v<n∧mv n (iF T) (gx x) v=1∧Rt0 n T (x.set v (gx x v+ -1)):=by
 have h1:=r.two;rw [aKX] at h1;obtain ⟨v,hv,h2⟩:=aBJ (n:=n) (f:=λi=>gx x i*mv n (iF T) (gx x) i) (by omega);have hvl:v<x.length:=by rw [r.len];exact hv
 have h3:=r.nn _ (yP hvl)
 have h4:0<gx x v:=by
  rcases Int.lt_or_le 0 (gx x v) with h|h
  ·exact h
  ·have:gx x v=0:=by omega
   rw [this] at h2;simp at h2
 have h5:0<mv n (iF T) (gx x) v:=by
  rcases Int.lt_or_le 0 (mv n (iF T) (gx x) v) with h|h
  ·exact h
  ·have:=Int.mul_nonpos_of_nonneg_of_nonpos h3 h;omega
 have hnn: ∀ a∈x.set v (gx x v+ -1),0≤a:=λa ha=>by
  rcases yQ ha with rfl|ha
  ·omega
  ·exact r.nn a ha
 have hq:qf n (iF T) (gx (x.set v (gx x v+ -1)))=4 - 2*mv n (iF T) (gx x) v:=by
  rw [aDn _ hvl,aLk _ _ _ hv F.sym,r.two,F.diag v hv];omega
 have hs:=aJH (-1) hvl
 have hpos:0<qf n (iF T) (gx (x.set v (gx x v+ -1))):=by
  refine (aPE n _ F.pd F.sym _).2 ?_;rw [zU,List.length_set,r.len] at hs;obtain ⟨i,hi,h6⟩:=aBJ (n:=n) (f:=gx (x.set v (gx x v+ -1))) (by omega);exact ⟨i,hi,by omega⟩
 have h7:mv n (iF T) (gx x) v=1:=by omega
 exact ⟨v,hv,h7,by rw [List.length_set];exact r.len,hnn,by omega⟩
def lvl (n:Nat) (T:List (List Int)):Nat→List (List Int)
 |0=>(List.range n).map (tM n)
 |k+1=>aEO n T (lvl n T k)
theorem aLm {x y:List Int} {l:List (List Int)} :y∈aJG x l↔y=x∨y∈l:=by
 unfold aJG;split
 ·rename_i h;exact ⟨.inr,λh'=>h'.elim (λe=>e▸h) id⟩
 ·simp
theorem aHy {y:List Int} : ∀ {l:List (List Int)},y∈l.foldr aJG []↔y∈l
 | []=>by simp
 |x::l=>by rw [List.foldr_cons,aLm,aHy (l:=l),dK]
theorem aNZ {n:Nat} {T:List (List Int)} {l:List (List Int)} {x:List Int} {v:Nat} (hx:x∈l) (hv:v<n) (h:mvT n T x v= -1):aQV x v∈aEO n T l:=by
 unfold aEO;rw [aHy,List.mem_flatMap];exact ⟨x,hx,List.mem_map.2 ⟨v,List.mem_filter.2 ⟨List.mem_range.2 hv,bF h⟩,rfl⟩⟩
theorem Rt0.lvl {n:Nat} {T:List (List Int)} (F:GForm n T): ∀ (h:Nat) {x:List Int},Rt0 n T x→x.sum=h+1→x∈lvl n T h
 |0,x,r,hs=>by
  obtain ⟨v,hv,e⟩:=aGY r.nn (by omega);rw [r.len] at e hv;exact List.mem_map.2 ⟨v,List.mem_range.2 hv,e.symm⟩
 |h+1,x,r,hs=>by
  obtain ⟨v,hv,h1,h2⟩:=r.down F (by omega);have hvl:v<x.length:=by rw [r.len];exact hv
  have ih:=Rt0.lvl F h h2 (by rw [aJH _ hvl];omega)
  have h3:mvT n T (x.set v (gx x v+ -1)) v= -1:=by
   rw [aRw,aDn _ hvl,aLj _ _ _ _ hv,h1,F.diag v hv];rfl
  have h4:=aNZ ih hv h3
  have h5:aQV (x.set v (gx x v+ -1)) v=x:=by
   unfold aQV;change (x.set v (gx x v+ -1)).set v (gx (x.set v (gx x v+ -1)) v+1)=x;rw [aBK _ hvl,aP rfl,List.set_set];refine aPF (by simp) λi _=>?_;rw [aBK _ hvl];by_cases e:i=v
   ·subst e;rw [aP rfl];omega
   ·rw [aO e]
  rw [h5] at h4;exact h4
def itL (n:Nat) (T:List (List Int)) (l:List (List Int)):Nat→List (List Int)
 |0=>l
 |k+1=>itL n T (aEO n T l) k
theorem aGZ (n:Nat) (T:List (List Int)): ∀ (k:Nat) (l:List (List Int)),itL n T l (k+1)=aEO n T (itL n T l k)
 |0,l=>rfl
 |k+1,l=>aGZ n T k (aEO n T l)
theorem aPH (n:Nat) (T:List (List Int)): ∀ k,lvl n T k=itL n T ((List.range n).map (tM n)) k
 |0=>rfl
 |k+1=>by rw [aGZ,←aPH n T k];rfl
theorem aHz (n:Nat) (T:List (List Int)): ∀ (k:Nat) (cur acc:List (List Int)),(∀ x∈acc,x∈(aLi n T k cur acc).1)∧(∀ j x,j≤k→x∈itL n T cur j→x∈(aLi n T k cur acc).1)∧(aLi n T k cur acc).2=(itL n T cur k).isEmpty
 |0,cur,acc=>⟨λx h=>by simp [aLi,h],λj x hj hx=>by
   have:j=0:=by omega
   subst this;simp only [aLi,itL] at hx ⊢;simp [hx],rfl⟩
 |k+1,cur,acc=>by
  obtain ⟨h1,h2,h3⟩:=aHz n T k (aEO n T cur) (acc++cur);refine ⟨λx h=>h1 x (by simp [h]),λj x hj hx=>?_,h3⟩;cases j with
  |zero=>exact h1 x (by simp only [itL] at hx;simp [hx])
  |succ j=>exact h2 j x (by omega) hx
theorem aKY (n:Nat) (T:List (List Int)): ∀ (d k:Nat) (l:List (List Int)),itL n T l k=[]→itL n T l (k+d)=[]
 |0,k,l,h=>h
 |d+1,k,l,h=>by
  rw [←Nat.add_assoc,aGZ,aKY n T d k l h];rfl
theorem Rt0.mem {n:Nat} {T:List (List Int)} (F:GForm n T) (he:(aCN n T).2=true) {x:List Int} (r:Rt0 n T x):x∈(aCN n T).1:=by
 have h1:=r.pos F;obtain ⟨h,hh⟩: ∃ h:Nat,x.sum=h+1:=⟨(x.sum - 1).toNat,by omega⟩;have h2:=Rt0.lvl F h r hh;rw [aPH] at h2;obtain ⟨g1,g2,g3⟩:=aHz n T 8 ((List.range n).map (tM n)) [];unfold aCN at he ⊢;rw [he] at g3;have h8:itL n T ((List.range n).map (tM n)) 8=[]:=by simpa using g3.symm
 rcases dI 8 h with h3|h3
 ·have:=aKY n T (h - 8) 8 _ h8;rw [show 8+(h - 8)=h by omega] at this;rw [this] at h2;cases h2
 ·exact g2 h x h3 h2
theorem aIA {α:Type} [DecidableEq α]: ∀ {l m:List α},l.Nodup→(∀ x∈l,x∈m)→l.length≤m.length
 | [],m,_,_=>Nat.zero_le _
 |a::l,m,hn,hs=>by
  have h1:=hs a (by simp);have hn':=List.nodup_cons.1 hn;have h2:=aIA (l:=l) (m:=m.erase a) hn'.2 λx hx=>(List.mem_erase_of_ne (by rintro rfl;exact hn'.1 hx)).2 (hs x (by simp [hx]));have h3:=List.length_erase_of_mem h1;have h4:=List.length_pos_of_mem h1;simp only [List.length_cons];omega
theorem yA {n:Nat} {T:List (List Int)} (h:aHx n T=true):pdF n (iF T)=true∧(aCN n T).2=true∧(aCN n T).1.length ≤20∧ ∀ x∈(aCN n T).1,∀ a∈x,a≤4:=by
 simp only [aHx,cU] at h;obtain ⟨h1,⟨h2,h3⟩,h4⟩:=h;refine ⟨h1,h2,of_decide_eq_true h3,λx hx a ha=>?_⟩;exact of_decide_eq_true (List.all_eq_true.1 (List.all_eq_true.1 h4 x hx) a ha)
theorem zV {x:List Int} {i:Nat} (h:i<x.length):cE x (i:Int)=some (gx x i):=by rw [sD 0 h];rfl
end
noncomputable section
def sE {α:Type} (n:Nat) (f:Nat→α):List α:=(List.range n).map f
theorem vN {α:Type} (n:Nat) (f:Nat→α):(sE n f).length=n:=by simp [sE]
theorem aGa {α:Type} {n:Nat} {f:Nat→α} {w:Nat} (h:w<n):(sE n f)[w]? =some (f w):=by simp [sE,h]
theorem lQ {α:Type} {n:Nat} {f:Nat→α} {w:Nat} (h:w<n):cE (sE n f) (w:Int)=some (f w):=by simp [cE,aGa h]
theorem fY {α:Type} {n:Nat} {f g:Nat→α} (h: ∀ i,i<n→f i=g i):sE n f=sE n g:=oX λi hi=>h i (List.mem_range.1 hi)
theorem pM {α:Type} {n:Nat} (f:Nat→α) (a:Nat) (y:α):(sE n f).set a y=sE n λw=>if w=a then y else f w:=by
 refine List.ext_getElem (by simp [sE]) λi h1 h2=>?_;simp only [sE,List.getElem_set,List.getElem_map,List.getElem_range];by_cases e:a=i
 ·simp [e]
 ·simp [e,show ¬ i=a from λh=>e h.symm]
theorem zW {α:Type} (n:Nat) (z:α):List.replicate n z=sE n λ_=>z:=by
 refine List.ext_getElem (by simp [sE]) λi h1 h2=>by simp [sE]
def qJ (n:Nat) (F:Nat→Nat→Int):List (List Int):=sE n λv=>sE n (F v)
theorem iV {n:Nat} {F:Nat→Nat→Int} {v w:Nat} (hv:v<n) (hw:w<n):iF (qJ n F) v w=F v w:=by
 unfold iF qJ;rw [aGa hv,oW,aGa hw,oW]
theorem aLn {n:Nat} {F G:Nat→Nat→Int} (h: ∀ v w,v<n→w<n→F v w=G v w):qJ n F=qJ n G:=fY λv hv=>fY λw hw=>h v w hv hw
def hit (q:Qv) (i v w:Nat):Int:=if gx q.src i=(v:Int)∧gx q.tgt i=(w:Int) then 1 else 0
def aEm (q:Qv) (k v w:Nat):Int:=dP k λi=>hit q i v w
def yB (q:Qv) (k v w:Nat):Int:=(if v=w then 2 else 0) - aEm q k v w - aEm q k w v
theorem aDo (q:Qv): ∀ k v w,0≤aEm q k v w∧aEm q k v w≤k
 |0,v,w=>by simp [aEm,dP]
 |k+1,v,w=>by
  have:=aDo q k v w;unfold aEm at this ⊢;simp only [dP];have:0≤hit q k v w∧hit q k v w≤1:=by unfold hit;split <;> omega
  omega
theorem aPI (q:Qv) {k:Nat} (hk:k≤6) (v w:Nat): -12≤yB q k v w∧yB q k v w≤2:=by
 have h1:=aDo q k v w;have h2:=aDo q k w v;unfold yB;split <;> omega
theorem yC (q:Qv) (k v w:Nat):yB q (k+1) v w=yB q k v w - hit q k v w - hit q k w v:=by
 unfold yB aEm;simp only [dP];omega
theorem aRx (q:Qv) (k v w:Nat):yB q k v w=yB q k w v:=by
 unfold yB;by_cases e:v=w
 ·subst e;rfl
 ·rw [aO e,aO (λh=>e h.symm)];omega
def oV (q:Qv) (n:Nat):List (List Int):=qJ n (yB q q.src.length)
structure QOk (q:Qv) (n:Nat):Prop where
 bq:bQ q
 qv:xU q=true
 n0:q.n=n
 n1:1≤n
 n5:n≤5
 eq:q.src.length=q.tgt.length
 m6:q.src.length≤6
 src: ∀ x∈q.src,0≤x∧x<n
 tgt: ∀ x∈q.tgt,0≤x∧x<n
theorem qok {q:Qv} (hb:bQ q) (h:xU q=true): ∃ n,QOk q n:=by
 obtain ⟨n,h1,h2,h3,h4,h5,h6,h7⟩:=xV h;exact ⟨n,hb,h,h1,h2,h3,h4,h5,h6,h7⟩
theorem QOk.arrow {q:Qv} {n:Nat} (Q:QOk q n) {i:Nat} (hi:i<q.src.length): ∃ s t:Nat,s<n∧t<n∧gx q.src i=s∧gx q.tgt i=t∧cE q.src (i:Int)=some (s:Int)∧cE q.tgt (i:Int)=some (t:Int):=by
 have hi2:i<q.tgt.length:=by rw [←Q.eq];exact hi
 have h1:=Q.src _ (yP hi);have h2:=Q.tgt _ (yP hi2);refine ⟨(gx q.src i).toNat,(gx q.tgt i).toNat,by omega,by omega,by omega,by omega,?_,?_⟩
 ·rw [sD 0 hi];show some (gx q.src i)=_;rw [Int.toNat_of_nonneg h1.1]
 ·rw [sD 0 hi2];show some (gx q.tgt i)=_;rw [Int.toNat_of_nonneg h2.1]
theorem qK {q:Qv} {i s t:Nat} (hs:gx q.src i=s) (ht:gx q.tgt i=t) (v w:Nat):hit q i v w=if v=s∧w=t then 1 else 0:=by
 unfold hit;rw [hs,ht];by_cases e:v=s∧w=t
 ·rw [aP e,aP (by omega)]
 ·rw [aO e,aO (by omega)]
theorem aNa {q:Qv} {n:Nat} (Q:QOk q n) {x1:List (List Int)×Int} {v:Nat} (hx:x1.2=(v:Int)):Lp (gB q x1) (sE n (yB q 0 v),0)=some (sE n (yB q q.src.length v)):=by
 have m6:=Q.m6;refine dR (λk=>(sE n (yB q k v),(k:Int))) q.src.length rfl (λk hk=>?_) (λ_=>?_)
 ·unfold gB;simp only;obtain ⟨s,t,hs,ht,e1,e2,e3,e4⟩:=Q.arrow hk;have bs:=λw=>aPI q (k:=k) (by omega) v w;rw [jN hk,aI,e3,aB,hx,bT hk (by omega)];by_cases c1:s=v
  ·subst c1;rw [bF (by rfl),aI];simp only [e4,e3,aB,lQ ht,cO];rw [pM,cB (by have:=bs t;omega)];by_cases c2:t=s
   ·subst c2;rw [bF (by rfl),aI];simp only [lQ hs,aP rfl,aB];rw [pM,cB (by have:=bs t;omega)];congr 3;refine fY λw hw=>?_;rw [yC,qK e1 e2,qK e1 e2];by_cases c:w=t
    ·subst c;simp <;> omega
    ·simp [c]
   ·rw [dQ (by omega),aW];congr 3;refine fY λw hw=>?_;rw [yC,qK e1 e2,qK e1 e2];by_cases c:w=t
    ·subst c;simp [c2,show ¬ s=w from λh=>c2 h.symm]
    ·simp [c,show ¬ s=t from λh=>c2 h.symm]
  ·rw [dQ (by omega),aW];simp only [e4,e3,aB];by_cases c2:t=v
   ·subst c2;rw [bF (by rfl),aI];simp only [lQ hs,aB,cO];rw [pM,cB (by have:=bs s;omega)];congr 3;refine fY λw hw=>?_;rw [yC,qK e1 e2,qK e1 e2];by_cases c:w=s
    ·subst c;simp [c1,show ¬ t=w from λh=>c1 h.symm]
    ·simp [c,show ¬ t=s from λh=>c1 h.symm]
   ·rw [dQ (by omega),aW];congr 3;refine fY λw hw=>?_;rw [yC,qK e1 e2,qK e1 e2];simp [show ¬ v=s from λh=>c1 h.symm,show ¬ v=t from λh=>c2 h.symm]
 ·unfold gB;simp only;rw [kV (bJ _),aW]
theorem aSk (q:Qv) {n v:Nat} (hv:v<n):(List.replicate n (0:Int)).set v 2=sE n (yB q 0 v):=by
 rw [zW,pM];refine fY λw _=>?_;unfold yB aEm;simp only [dP];by_cases e:w=v
 ·subst e;simp
 ·simp [e,show ¬ v=w from λh=>e h.symm]
theorem aIB {q:Qv} {n:Nat} (Q:QOk q n):iI q=some (oV q n):=by
 have n5:=Q.n5;unfold iI;rw [dR (s:=(([]:List (List Int)),(0:Int))) (r:=oV q n) (λk=>((List.range k).map λv=>sE n (yB q q.src.length v),(k:Int))) n rfl (λk hk=>?_) (λ_=>?_),aB]
 ·unfold iP;simp only;rw [Q.n0,jN hk,aI,aCq Q.bq,Q.qv,aB,aI,bF (by omega),bF (by omega),Bool.and_self,aI,cO];rw [zW,lQ hk,aB,cO,←zW,aSk q hk,aNa Q rfl,aB,bF (by simp;omega),aI,bT hk (by omega),List.range_succ,List.map_append];rfl
 ·unfold iP;simp only;rw [Q.n0,kV (bJ _),aW];rfl
theorem aNb {q:Qv} {n:Nat} (Q:QOk q n):qC q=some (oV q n):=by
 have n5:=Q.n5;have m6:=Q.m6;unfold qC;rw [Q.n0,bF (by omega),bF (by omega),Bool.and_self,aI,cO];rw [dR (r:=qJ n (yB q 0)) (λk=>(sE n λv=>if v<k then sE n (yB q 0 v) else [],(k:Int))) n (by rw [zW];rfl) (λk hk=>?_) (λ_=>?_),aB]
 ·rw [dR (s:=(qJ n (yB q 0),(0:Int))) (r:=oV q n) (λk=>(qJ n (yB q k),(k:Int))) q.src.length rfl (λk hk=>?_) (λ_=>?_),aB]
  ·unfold lP;simp only;obtain ⟨s,t,hs,ht,e1,e2,e3,e4⟩:=Q.arrow hk;have bs:=λv w=>aPI q (k:=k) (by omega) v w;rw [jN hk,aI,e3,aB,e4];simp only [aB,cO];unfold qJ;rw [lQ hs,aB,lQ ht];simp only [aB];rw [pM,lQ ht];simp only [aB]
   have e5:(if t=s then (sE n (yB q k s)).set t (wr (yB q k s t - 1)) else sE n (yB q k t))=sE n λw=>yB q k t w - if t=s∧w=t then 1 else 0:=by
    by_cases c:t=s
    ·subst c;rw [aP rfl,pM,cB (by have:=bs t t;omega)];refine fY λw _=>?_;by_cases c2:w=t
     ·subst c2;simp
     ·simp [c2]
    ·rw [aO c];exact fY λw _=>by simp [c]
   rw [e5,lQ hs];simp only [aB];rw [bT hk (by omega),pM,pM];congr 3;refine fY λv hv=>?_;have b1:=bs t s;have b2:=bs s t;by_cases c:v=t
   ·subst c;rw [aP rfl,cB (by split <;> omega)]
    try rw [pM]
    refine fY λw hw=>?_;rw [yC,qK e1 e2,qK e1 e2];by_cases c1:w=s
    ·subst c1;by_cases c2:v=w
     ·subst c2;simp <;> omega
     ·simp [c2,show ¬ w=v from λh=>c2 h.symm]
    ·rw [aO c1];by_cases c2:v=s∧w=v
     ·omega
     ·simp [c2,c1]
   ·rw [aO c];by_cases c1:v=s
    ·subst c1;rw [aP rfl,cB (by omega)]
     try rw [pM]
     refine fY λw hw=>?_;rw [yC,qK e1 e2,qK e1 e2];by_cases c2:w=t
     ·subst c2;simp [c]
     ·simp [c2,c]
    ·rw [aO c1];refine fY λw hw=>?_;rw [yC,qK e1 e2,qK e1 e2];simp [c,c1]
  ·unfold lP;simp only;rw [kV (bJ _),aW];rfl
 ·unfold lO;simp only;rw [List.length_replicate,Q.n0,cO,jN hk,aI,bF (by omega),bF (by omega),Bool.and_self,aI,lQ hk,aB];rw [zW n (0:Int),lQ hk,aB,cO,←zW,aSk q hk,pM,bT hk (by omega)];congr 3;refine fY λv _=>?_;by_cases c:v=k
  ·subst c;simp
  ·rw [aO c];by_cases c2:v<k
   ·rw [aP c2,aP (by omega)]
   ·rw [aO c2,aO (by omega)]
 ·unfold lO;simp only;rw [List.length_replicate,Q.n0,cO,kV (bJ _),aW];congr 2;exact fY λv hv=>by rw [aP hv]
end
noncomputable section
theorem aJI: ∀ s:Nat,s<32→ ∀ v:Nat,v<5→aLd (aLc (s:Int) (v:Int)) 1=(if aAU s v then 1 else 0):=by decide+kernel
theorem aDp (s k:Nat):(List.range (k+1)).filter (aAU s)=(List.range k).filter (aAU s)++if aAU s k then [k] else []:=by
 rw [List.range_succ,List.filter_append];congr 1;cases h:aAU s k <;> simp [h]
theorem aEy {n s v:Nat} (h:v∈mP n s):v<n:=List.mem_range.1 (List.mem_filter.1 h).1
theorem aBL (n s:Nat):(mP n s).length ≤n:=by
 have:=List.length_filter_le (aAU s) (List.range n);simpa [mP] using this
theorem aKZ {body:List Int×Int→Option ((List Int×Int) ⊕ List Int)} {n s:Nat} {f:Nat→Int} (hn:n≤5)
  (hb: ∀ k l,k<n→l.length≤5→body (l,(k:Int))=some (.inl (if aAU s k then l++[f k] else l,((k+1:Nat):Int)))) (hr: ∀ l,body (l,(n:Int))=some (.inr l)):Lp body ([],0)=some ((mP n s).map f):=by
 refine dR (λk=>(((List.range k).filter (aAU s)).map f,(k:Int))) n rfl (λk hk=>?_) (λ_=>hr _);have hl:=aBL k s;unfold mP at hl;rw [hb k _ hk (by rw [dE];omega),aDp];cases h:aAU s k <;> simp
theorem aKa {n s:Nat} {F:Nat→Nat→Int} (hn:n≤5) (hs:s<32) {x1:Int×Int} (hx:x1.2=(s:Int)):Lp (gN (qJ n F) x1) (0,[])=some (jK n (qJ n F) s):=by
 have e0:jK n (qJ n F) s=(mP n s).map λv=>(mP n s).map (F v):=by
  unfold jK;refine oX λv hv=>oX λw hw=>iV (aEy hv) (aEy hw)
 rw [e0];refine dR (λk=>((k:Int),((List.range k).filter (aAU s)).map λv=>(mP n s).map (F v))) n rfl (λk hk=>?_) (λ_=>?_)
 ·have hl:=aBL k s;unfold mP at hl;unfold gN;simp only;rw [show (qJ n F).length=n from vN _ _,jN hk,aI,show cE (qJ n F) (k:Int)=some (sE n (F k)) from lQ hk,aB,dQ (by omega),Bool.not_false,aI,hx,aJI s hs k (by omega),bT hk (by omega)]
  have hrow:Lp (gM (sE n (F k)) x1) ([],0)=some ((mP n s).map (F k)):=by
   refine aKZ hn (λj l hj hl2=>?_) (λl=>?_)
   ·unfold gM;simp only;rw [vN,jN hj,aI,lQ hj,aB,dQ (by omega),Bool.not_false,aI,hx,aJI s hs j (by omega),bT hj (by omega)];cases h:aAU s j
    ·simp
    ·simp [show l.length<4294967296 by omega,show l.length≤4294967295 by omega,show l.length+1≤4294967296 by omega]
   ·unfold gM;simp only;rw [vN,kV (bJ _),aW]
  rw [hrow,aB,aDp];generalize List.filter (aAU s) (List.range k)=lk at*;cases h:aAU s k
  ·simp
  ·simp [show lk.length<4294967296 by omega,show lk.length≤4294967295 by omega,show lk.length+1≤4294967296 by omega]
 ·unfold gN;simp only;rw [show (qJ n F).length=n from vN _ _,kV (bJ _),aW];rfl
theorem aKb {n s:Nat} {F:Nat→Nat→Int} (hn:n≤5) (hs:s<32):rR (qJ n F) (s:Int)=some (jK n (qJ n F) s):=by
 have e0:jK n (qJ n F) s=(mP n s).map λv=>(mP n s).map (F v):=by
  unfold jK;refine oX λv hv=>oX λw hw=>iV (aEy hv) (aEy hw)
 rw [e0];unfold rR;rw [dR (s:=((0:Int),([]:List (List Int)))) (r:=(mP n s).map λv=>(mP n s).map (F v)) (λk=>((k:Int),((List.range k).filter (aAU s)).map λv=>(mP n s).map (F v))) n rfl (λk hk=>?_) (λ_=>?_),aB]
 ·have hl:=aBL k s;unfold mP at hl;unfold nL;simp only;rw [show (qJ n F).length=n from vN _ _,jN hk,aI,dQ (by omega),Bool.not_false,aI,aJI s hs k (by omega),bT hk (by omega)]
  have hrow:Lp (jY (qJ n F) (s:Int) ((k:Int),((List.range k).filter (aAU s)).map λv=>(mP n s).map (F v))) ([],0)=some ((mP n s).map (F k)):=by
   refine aKZ hn (λj l hj hl2=>?_) (λl=>?_)
   ·unfold jY;simp only;rw [show (qJ n F).length=n from vN _ _,jN hj,aI,dQ (by omega),Bool.not_false,aI,aJI s hs j (by omega),bT hj (by omega),show cE (qJ n F) (k:Int)=some (sE n (F k)) from lQ hk,aB,lQ hj,aB];cases h:aAU s j
    ·simp
    ·simp [show l.length<4294967296 by omega,show l.length≤4294967295 by omega,show l.length+1≤4294967296 by omega]
   ·unfold jY;simp only;rw [show (qJ n F).length=n from vN _ _,kV (bJ _),aW]
  rw [hrow,aB,aDp];generalize List.filter (aAU s) (List.range k)=lk at*;cases h:aAU s k
  ·simp
  ·simp [show lk.length<4294967296 by omega,show lk.length≤4294967295 by omega,show lk.length+1≤4294967296 by omega]
 ·unfold nL;simp only;rw [show (qJ n F).length=n from vN _ _,kV (bJ _),aW];rfl
theorem aNc {a b:List Int} (h:a.length+b.length≤1000):iA [a,b]=some (a++b):=by
 have s1:cP [a,b] (0,0)=some (.inl ((a.length:Int),1)):=by
  unfold cP;simp [cE];rw [cB (by omega),dQ (by omega),aW,cB (by omega)]
 have s2:cP [a,b] ((a.length:Int),1)=some (.inl ((a.length:Int)+b.length,2)):=by
  unfold cP;simp [cE];rw [cB (by omega),dQ (by omega),aW,cB (by omega)]
 have s3:cP [a,b] ((a.length:Int)+b.length,2)=some (.inr ((a.length:Int)+b.length)):=by
  unfold cP;simp
 have t1:cS [a,b] ([],0)=some (.inl (a,1)):=by
  unfold cS;simp [cE];rw [bF (by omega),aI,cB (by omega)]
 have t2:cS [a,b] (a,1)=some (.inl (a++b,2)):=by
  unfold cS;simp [cE];rw [bF (by omega),aI,cB (by omega)]
 have t3:cS [a,b] (a++b,2)=some (.inr (a++b)):=by
  unfold cS;simp
 unfold iA;rw [lD s1,lD s2,eN s3,aB];unfold aLO;rw [bF (by omega),bF (by omega),Bool.and_self,aI,aB,lD t1,lD t2,eN t3,aB]
theorem aKc {k:Nat} {row:List Int} (h:k<row.length):(aJF k row).length=row.length - 1:=by simp [aJF];omega
theorem aKd (k:Nat):wr (-sgK k)=sgK (k+1):=by
 unfold sgK;rcases Nat.mod_two_eq_zero_or_one k with h|h
 ·rw [h,show (k+1) % 2=1 by omega];decide
 ·rw [h,show (k+1) % 2=0 by omega];decide
theorem aIC: ∀ (d k:Nat) (M:List (List Int)),k<d→k≤16→M.length=k→(∀ r∈M,r.length=k)→gZ d M=some (vM d M)
 |0,k,M,h,_,_,_=>absurd h (by omega)
 |d+1,k,M,hd,h16,hl,hr=>by
  show kR (gZ d) M=_;unfold kR;cases M with
  |nil=>rfl
  |cons r0 rest=>
   have hr0:=hr r0 (by simp);simp only [List.length_cons] at hl;rw [dQ (by simp only [List.length_cons];omega),aW,show cE (r0::rest) 0=some r0 from rfl,aB];rw [dR (s:=((0:Int),(1:Int),(0:Int))) (r:=vM (d+1) (r0::rest)) (λj=>(aHF (vM d) r0 rest j,sgK j,(j:Int))) k rfl (λj hj=>?_) (λ_=>?_),aB]
   ·unfold kF;simp only;rw [hr0,jN hj,aI,sD 0 (by omega),aB,bF (by omega),bF (by simp only [List.length_cons];omega),bF (by omega),Bool.and_self,Bool.and_self,aI]
    have hmin:Lp (gW (r0::rest) (aHF (vM d) r0 rest j,sgK j,(j:Int))) ([],0)=some (rest.map (aJF j)):=by
     have e0:((r0::rest).drop (1:Int).toNat).take (((r0::rest).length:Int).toNat - (1:Int).toNat)=rest:=by simp
     refine dR (λi=>((rest.take i).map (aJF j),(i:Int))) rest.length rfl (λi hi=>?_) (λ_=>?_)
     ·unfold gW;simp only;rw [e0,jN hi,aI,sD [] hi,aB];have hrow:(rest[i]?.getD []).length=k:=by rw [gS hi];exact hr _ (by simp)
      rw [bT (n:=17) (by omega) (by omega),bF (by omega),bF (by omega),bF (by omega),bF (by omega),bF (by omega),bF (by omega)];simp only [Bool.and_self,aI];have e1:((rest[i]?.getD []).drop (0:Int).toNat).take ((j:Int).toNat - (0:Int).toNat)=(rest[i]?.getD []).take j:=by simp
      have e2:((rest[i]?.getD []).drop (((j+1:Nat):Int)).toNat).take (((rest[i]?.getD []).length:Int).toNat - (((j+1:Nat):Int)).toNat)=(rest[i]?.getD []).drop (j+1):=by
       rw [cO,cO,List.take_of_length_le (by simp)]
      rw [e1,e2,aNc (by simp;omega),aB,bF (by simp;omega),aI,bT hi (by omega)];congr 3;rw [aBo hi,List.map_append,gS hi];rfl
     ·unfold gW;simp only;rw [e0,kV (bJ _),aW,List.take_length]
    rw [hmin,aB,aIC d (k - 1) (rest.map (aJF j)) (by omega) (by omega) (by simp;omega) (λr h=>by
     obtain ⟨r',h1,rfl⟩:=List.mem_map.1 h;have:=hr r' (by simp [h1])
     rw [aKc (by omega)];omega),aB,aKd,bT hj (by omega)]
    rfl
   ·unfold kF;simp only;rw [hr0,kV (bJ _),aW];show some (Sum.inr (aHF (vM d) r0 rest k))=some (Sum.inr (aHF (vM d) r0 rest r0.length));rw [hr0]
theorem aID: ∀ (d k:Nat) (M:List (List Int)),k<d→k≤16→M.length=k→(∀ r∈M,r.length=k)→oM d M=some (vM d M)
 |0,k,M,h,_,_,_=>absurd h (by omega)
 |d+1,k,M,hd,h16,hl,hr=>by
  show rQ (oM d) M=_;unfold rQ;cases M with
  |nil=>rfl
  |cons r0 rest=>
   have hr0:=hr r0 (by simp);simp only [List.length_cons] at hl;rw [dQ (by simp only [List.length_cons];omega),aW];rw [dR (s:=((0:Int),(1:Int),(0:Int))) (r:=vM (d+1) (r0::rest)) (λj=>(aHF (vM d) r0 rest j,sgK j,(j:Int))) k rfl (λj hj=>?_) (λ_=>?_),aB]
   ·unfold qB;simp only;rw [show (r0::rest).length=k by simp only [List.length_cons];omega,jN hj,aI]
    have hmin:Lp (mJ (r0::rest) (aHF (vM d) r0 rest j,sgK j,(j:Int))) (([]:List (List Int)),1)=some (rest.map (aJF j)):=by
     refine dR (λi=>((rest.take i).map (aJF j),((i+1:Nat):Int))) rest.length rfl (λi hi=>?_) (λ_=>?_)
     ·unfold mJ;simp only
      have hat:cE (r0::rest) ((i+1:Nat):Int)=some (rest[i]?.getD []):=by
       rw [sD [] (by simp;omega)];rfl
      rw [List.length_cons,jN (by omega),aI,hat,aB];have hrow:(rest[i]?.getD []).length=k:=by rw [gS hi];exact hr _ (by simp)
      rw [bT (k:=j) (n:=17) (by omega) (by omega),bF (by omega),bF (by omega),bF (by omega)];simp only [Bool.and_self,aI];have e1:((rest[i]?.getD []).drop (0:Int).toNat).take ((j:Int).toNat - (0:Int).toNat)=(rest[i]?.getD []).take j:=by simp
      have e2:((rest[i]?.getD []).drop (((j+1:Nat):Int)).toNat).take (((rest[i]?.getD []).length:Int).toNat - (((j+1:Nat):Int)).toNat)=(rest[i]?.getD []).drop (j+1):=by
       rw [cO,cO,List.take_of_length_le (by simp)]
      rw [e1,bF (by simp;omega),aI];simp only [aB];rw [bF (by omega),bF (by omega),bF (by omega)];simp only [Bool.and_self,aI];rw [e2,bF (by simp;omega),aI,bF (by simp;omega),aI,bT (k:=i+1) (n:=18) (by omega) (by omega)];congr 3;rw [aBo hi,List.map_append,gS hi];rfl
     ·unfold mJ;simp only;rw [List.length_cons,kV (bJ _),aW,List.take_length]
    rw [hmin,aB,show cE (r0::rest) 0=some r0 from rfl,aB,sD 0 (by omega),aB,aID d (k - 1) (rest.map (aJF j)) (by omega) (by omega) (by simp;omega) (λr h=>by
     obtain ⟨r',h1,rfl⟩:=List.mem_map.1 h;have:=hr r' (by simp [h1])
     rw [aKc (by omega)];omega),aB,aKd,bT hj (by omega)]
    rfl
   ·unfold qB;simp only;rw [show (r0::rest).length=k by simp only [List.length_cons];omega,kV (bJ _),aW];show some (Sum.inr (aHF (vM d) r0 rest k))=some (Sum.inr (aHF (vM d) r0 rest r0.length));rw [hr0]
end
noncomputable section
def aBM (n:Nat) (T:List (List Int)):Nat→Int→Nat→Int
 |0,kind,_=>kind
 |f+1,kind,s=>if vM 8 (jK n T s)<0 then 3 else aBM n T f (if vM 8 (jK n T s)=0 then 2 else kind) (s+1)
theorem aBf {n s:Nat} {T:List (List Int)} :(jK n T s).length=(mP n s).length∧ ∀ r∈jK n T s,r.length=(mP n s).length:=by
 refine ⟨by simp [jK],λr hr=>?_⟩;obtain ⟨v,_,rfl⟩:=List.mem_map.1 hr;simp
theorem aJJ: ∀ n:Nat,n<6→aLb 1 (n:Int)=((2 ^ n:Nat):Int):=by decide+kernel
theorem aPJ: ∀ n:Nat,n<6→2 ^ n≤32:=by decide
theorem aDq {body:Int×Int→Option ((Int×Int) ⊕ (Int ⊕ Int))} {n:Nat} {T:List (List Int)} (hn:n<6)
  (hs: ∀ (kind:Int) (s:Nat),1≤s→s<2 ^ n→body (kind,(s:Int))=some (if vM 8 (jK n T s)<0 then .inr (.inr 3) else .inl (if vM 8 (jK n T s)=0 then 2 else kind,((s+1:Nat):Int))))
  (he: ∀ kind:Int,body (kind,((2 ^ n:Nat):Int))=some (.inr (.inl kind))): ∀ (f:Nat) (kind:Int) (s:Nat),1≤s→s+f=2 ^ n→(Option.bind (Lp body (kind,(s:Int))) λy=>Sum.elim (λa=>some a) (λb=>some b) y)=some (aBM n T f kind s)
 |0,kind,s,h1,h=>by
  have h':s=2 ^ n:=by omega
  subst h';rw [eN (he kind)];rfl
 |f+1,kind,s,h1,h=>by
  have hb:=hs kind s h1 (by omega);simp only [aBM];by_cases c:vM 8 (jK n T s)<0
  ·rw [aP c] at hb ⊢;rw [eN hb];rfl
  ·rw [aO c] at hb ⊢;rw [lD hb];exact aDq hn hs he f _ (s+1) (by omega) (by omega)
theorem aGb {q:Qv} {n:Nat} (Q:QOk q n):iZ q=some (aBM n (oV q n) (2 ^ n - 1) 1 1):=by
 have n5:=Q.n5;have hp:=aPJ n (by omega);have hp1:1≤2 ^ n:=Nat.one_le_two_pow;unfold iZ;rw [aIm Q.bq,Q.qv,aB,iC,aW,aNb Q,aB];refine aDq (by omega) (λkind s h1 h2=>?_) (λkind=>?_) _ _ 1 (bJ _) (by omega)
 ·unfold jJ;simp only;rw [Q.n0,dQ (by omega),Bool.not_false,aI,aJJ n (by omega),jN h2,aI];unfold oV;rw [aKa n5 (by omega) (x1:=(kind,(s:Int))) rfl,aB];have hl:=aBL n s;rw [aIC 8 (mP n s).length _ (by omega) (by omega) aBf.1 aBf.2,aB,bT h2 (by omega)];generalize vM 8 (jK n (qJ n (yB q q.src.length)) s)=d;by_cases c:d<0
  ·simp [c]
  ·by_cases c2:d=0
   ·simp [c2]
   ·simp [c,c2]
 ·unfold jJ;simp only;rw [Q.n0,dQ (by omega),Bool.not_false,aI,aJJ n (by omega),kV (bJ _),aW]
theorem aGc {q:Qv} {n:Nat} (Q:QOk q n):iY q=some (aBM n (oV q n) (2 ^ n - 1) 1 1):=by
 have n5:=Q.n5;have hp:=aPJ n (by omega);have hp1:1≤2 ^ n:=Nat.one_le_two_pow;unfold iY;rw [aCq Q.bq,Q.qv,aB,iC,aW,aIB Q,aB];refine aDq (by omega) (λkind s h1 h2=>?_) (λkind=>?_) _ _ 1 (bJ _) (by omega)
 ·unfold jI;simp only;rw [Q.n0,dQ (by omega),Bool.not_false,aI,aJJ n (by omega),jN h2,aI];unfold oV;rw [aKb n5 (by omega),aB];have hl:=aBL n s;rw [aID 8 (mP n s).length _ (by omega) (by omega) aBf.1 aBf.2,aB,bT h2 (by omega)];generalize vM 8 (jK n (qJ n (yB q q.src.length)) s)=d;by_cases c:d<0
  ·simp [c]
  ·by_cases c2:d=0
   ·simp [c2]
   ·simp [c,c2]
 ·unfold jI;simp only;rw [Q.n0,dQ (by omega),Bool.not_false,aI,aJJ n (by omega),kV (bJ _),aW]
theorem aIE {n:Nat} {T:List (List Int)} : ∀ f s,aBM n T f 2 s≠1
 |0,s=>by simp [aBM]
 |f+1,s=>by
  simp only [aBM];split
  ·decide
  ·rw [ite_self];exact aIE f (s+1)
theorem aIF {n:Nat} {T:List (List Int)} : ∀ {f:Nat} {kind:Int} {s:Nat},aBM n T f kind s=1→ ∀ t,s≤t→t<s+f→0<vM 8 (jK n T t)
 |0,kind,s,h,t,h1,h2=>by omega
 |f+1,kind,s,h,t,h1,h2=>by
  simp only [aBM] at h;split at h
  ·cases h
  ·rename_i c;by_cases c2:vM 8 (jK n T s)=0
   ·rw [aP c2] at h;exact absurd h (aIE f (s+1))
   ·rw [aO c2] at h;by_cases e:t=s
    ·subst e;omega
    ·exact aIF h t (by omega) (by omega)
theorem aPK: ∀ n,n<6→ ∀ v,v<n→mP n (2 ^ v)=[v]:=by decide+kernel
theorem aPL: ∀ n,n<6→ ∀ v,v<n→ ∀ w,w<n→v<w→mP n (2 ^ v+2 ^ w)=[v,w]:=by decide+kernel
theorem aMi: ∀ n,n<6→ ∀ v,v<n→1≤2 ^ v∧2 ^ v<2 ^ n:=by decide
theorem aMj: ∀ n,n<6→ ∀ v,v<n→ ∀ w,w<n→v<w→1≤2 ^ v+2 ^ w∧2 ^ v+2 ^ w<2 ^ n:=by decide
theorem aQd: ∀ c:Nat,c<7→0<vM 8 [[2 - 2*(c:Int)]]→c=0:=by decide+kernel
theorem aQe: ∀ c:Nat,c<13→0<vM 8 [[2, -(c:Int)],[-(c:Int),2]]→c≤1:=by decide+kernel
theorem aPM {q:Qv} {n:Nat} (Q:QOk q n) (h: ∀ t,1≤t→t<2 ^ n→0<vM 8 (jK n (oV q n) t)):GForm n (oV q n)∧aHx n (oV q n)=true:=by
 have n5:=Q.n5;have m6:=Q.m6;generalize hF:yB q q.src.length=F;have hT:oV q n=qJ n F:=by rw [←hF];rfl
 rw [hT] at h ⊢;have hsym: ∀ v w,F v w=F w v:=λv w=>by rw [←hF];exact aRx q _ v w
 have hd: ∀ v,v<n→F v v=2:=by
  intro v hv;have h1:=h (2 ^ v) (aMi n (by omega) v hv).1 (aMi n (by omega) v hv).2
  have e:jK n (qJ n F) (2 ^ v)=[[F v v]]:=by
   unfold jK;rw [aPK n (by omega) v hv];simp [iV hv hv]
  have hc:=aDo q q.src.length v v
  have e2:F v v=2 - 2*(((aEm q q.src.length v v).toNat:Nat):Int):=by
   rw [←hF];unfold yB;rw [aP rfl];omega
  rw [e,e2] at h1;have:=aQd _ (by omega) h1;omega
 have ho: ∀ v w,v<n→w<n→v<w→F v w=0∨F v w= -1:=by
  intro v w hv hw hvw;have h1:=h (2 ^ v+2 ^ w) (aMj n (by omega) v hv w hw hvw).1 (aMj n (by omega) v hv w hw hvw).2;have hc:=aDo q q.src.length v w;have hc2:=aDo q q.src.length w v
  have e2:F v w= -((((aEm q q.src.length v w+aEm q q.src.length w v).toNat:Nat)):Int):=by
   rw [←hF];unfold yB;rw [aO (by omega)];omega
  have e:jK n (qJ n F) (2 ^ v+2 ^ w)=[[2,F v w],[F v w,2]]:=by
   unfold jK;rw [aPL n (by omega) v hv w hw hvw];simp [iV hv hv,iV hv hw,iV hw hv,iV hw hw,hd v hv,hd w hw,hsym w v]
  rw [e,e2] at h1;have:=aQe _ (by omega) h1;omega
 have hT2:qJ n F=qJ n λv w=>if v=w then 2 else bi (decide (F (min v w) (max v w)= -1)):=by
  refine aLn λv w hv hw=>?_;by_cases e:v=w
  ·subst e;rw [aP rfl];exact hd v hv
  ·rw [aO e];rcases Nat.lt_or_gt_of_ne e with c|c
   ·rw [Nat.min_eq_left (by omega),Nat.max_eq_right (by omega)];rcases ho v w hv hw c with h|h <;> rw [h] <;> rfl
   ·rw [Nat.min_eq_right (by omega),Nat.max_eq_left (by omega),hsym v w];rcases ho w v hw hv c with h|h <;> rw [h] <;> rfl
 have hchk:xA n (qJ n F)=true:=by
  rw [hT2];have hn1:=Q.n1;have hcase:n=1∨n=2∨n=3∨n=4∨n=5:=by omega
  rcases hcase with rfl|rfl|rfl|rfl|rfl
  ·exact aTP
  ·exact aTQ (decide (F 0 1= -1))
  ·exact aTR (decide (F 0 1= -1)) (decide (F 0 2= -1)) (decide (F 1 2= -1))
  ·exact aTS (decide (F 0 1= -1)) (decide (F 0 2= -1)) (decide (F 0 3= -1)) (decide (F 1 2= -1)) (decide (F 1 3= -1)) (decide (F 2 3= -1))
  ·exact aTT (decide (F 0 1= -1)) (decide (F 0 2= -1)) (decide (F 0 3= -1)) (decide (F 0 4= -1)) (decide (F 1 2= -1)) (decide (F 1 3= -1)) (decide (F 1 4= -1)) (decide (F 2 3= -1)) (decide (F 2 4= -1)) (decide (F 3 4= -1))
 have hgood:aHx n (qJ n F)=true:=by
  unfold xA at hchk;rcases Bool.or_eq_true_iff.1 hchk with h1|h1
  ·exact h1
  ·rw [List.any_eq_true] at h1;obtain ⟨s,hs,h2⟩:=h1;simp only [cU,iK,Nat.blt_eq] at h2;have hs1:1≤s:=by simp only [dK,List.not_mem_nil,or_false] at hs;omega
   have:=h s hs1 h2.1;omega
 refine ⟨⟨λi j hi hj=>by rw [iV hi hj,iV hj hi];exact hsym i j,λi hi=>by rw [iV hi hi];exact hd i hi,(yA hgood).1⟩,hgood⟩
end
noncomputable section
def eul (q:Qv) (n:Nat) (x y:List Int):Int:=(dP n λv=>gx x v*gx y v) - dP q.src.length λi=>gx x (gx q.src i).toNat *gx y (gx q.tgt i).toNat
theorem aAV {f:Nat→Int} {B:Int} : ∀ {n:Nat},(∀ i,i<n→ -B≤f i∧f i≤B)→ -(B*n)≤dP n f∧dP n f≤B*n
 |0,_=>by simp [dP]
 |n+1,h=>by
  have h1:=aAV (n:=n) λi hi=>h i (by omega);have h2:=h n (by omega);simp only [dP,Int.natCast_add,Int.mul_add];omega
theorem aGd {a b:Int} (ha: -100≤a∧a≤100) (hb: -100≤b∧b≤100): -10000≤a*b∧a*b≤10000:=by
 have h1:=Int.mul_nonneg (a:=100 - a) (b:=100+b) (by omega) (by omega);have h2:=Int.mul_nonneg (a:=100+a) (b:=100 - b) (by omega) (by omega);have h3:=Int.mul_nonneg (a:=100 - a) (b:=100 - b) (by omega) (by omega);have h4:=Int.mul_nonneg (a:=100+a) (b:=100+b) (by omega) (by omega)
 grind
def Sm (x:List Int):Prop:= ∀ a∈x, -100≤a∧a≤100
theorem Sm.gx {x:List Int} (h:Sm x) (i:Nat): -100≤gx x i∧gx x i≤100:=by
 rcases dI i x.length with h'|h'
 ·exact h _ (yP h')
 ·unfold Go.Proofs.YtpppcfhgaehcjaaGreat.gx;rw [fR h'];simp
theorem aPN {n:Nat} {x y:List Int} (hx:x.length=n) (hy:y.length=n) (n5:n≤5) (sx:Sm x) (sy:Sm y) {body:Int×Int→Option ((Int×Int) ⊕ Int)}
  (hb: ∀ (s:Int) (k:Nat),k<n→body (s,(k:Int))=some (.inl (wr (s+wr (gx x k*gx y k)),wr ((k:Int)+1)))) (he: ∀ s:Int,body (s,(n:Int))=some (.inr s)):Lp body (0,0)=some (dP n λv=>gx x v*gx y v):=by
 refine dR (λk=>(dP k λv=>gx x v*gx y v,(k:Int))) n rfl (λk hk=>?_) (λ_=>he _);have h1:=aGd (sx.gx k) (sy.gx k);have h2:=aAV (n:=k) (f:=λv=>gx x v*gx y v) (B:=10000) λi _=>aGd (sx.gx i) (sy.gx i);rw [hb _ k hk,cB (x:=gx x k*gx y k) (by omega),cB (by omega),bT hk (by omega)];rfl
theorem aPO {q:Qv} {n:Nat} (Q:QOk q n) {x y:List Int} (hx:x.length=n) (hy:y.length=n) (sx:Sm x) (sy:Sm y) {s0:Int} (hs0: -50000≤s0∧s0≤50000) {body:Int×Int→Option ((Int×Int) ⊕ Int)}
  (hb: ∀ (s:Int) (k:Nat),k<q.src.length→body (s,(k:Int))=some (.inl (wr (s - wr (gx x (gx q.src k).toNat *gx y (gx q.tgt k).toNat)),wr ((k:Int)+1)))) (he: ∀ s:Int,body (s,(q.src.length:Int))=some (.inr s)):
  Lp body (s0,0)=some (s0 - dP q.src.length λi=>gx x (gx q.src i).toNat *gx y (gx q.tgt i).toNat):=by
 have m6:=Q.m6;refine dR (λk=>(s0 - dP k λi=>gx x (gx q.src i).toNat *gx y (gx q.tgt i).toNat,(k:Int))) q.src.length (by simp [dP]) (λk hk=>?_) (λ_=>he _);have h1:=aGd (sx.gx (gx q.src k).toNat) (sy.gx (gx q.tgt k).toNat);have h2:=aAV (n:=k) (f:=λi=>gx x (gx q.src i).toNat *gx y (gx q.tgt i).toNat) (B:=10000) λi _=>aGd (sx.gx _) (sy.gx _);rw [hb _ k hk,cB (x:=gx x (gx q.src k).toNat *gx y (gx q.tgt k).toNat) (by omega),cB (by omega),bT hk (by omega)];simp only [dP];congr 3;omega
theorem aMk {n:Nat} {x y:List Int} (n5:n≤5) (sx:Sm x) (sy:Sm y): -50000≤(dP n λv=>gx x v*gx y v)∧(dP n λv=>gx x v*gx y v)≤50000:=by
 have:=aAV (n:=n) (f:=λv=>gx x v*gx y v) (B:=10000) λi _=>aGd (sx.gx i) (sy.gx i);omega
theorem aNd {q:Qv} {n:Nat} (Q:QOk q n) {x y:List Int} (hx:x.length=n) (hy:y.length=n) (sx:Sm x) (sy:Sm y):wO q x y=some (eul q n x y):=by
 have n5:=Q.n5;unfold wO;rw [aPN hx hy n5 sx sy (λs k hk=>?_) (λs=>?_),aB,aPO Q hx hy sx sy (aMk n5 sx sy) (λs k hk=>?_) (λs=>?_),aB]
 ·rfl
 ·unfold rP;simp only;obtain ⟨s',t,hs,ht,e1,e2,e3,e4⟩:=Q.arrow hk;rw [jN hk,aI,e3,aB,zV (by omega),aB,e4,aB,zV (by omega),aB,e1,e2,cO,cO]
 ·unfold rP;simp only;rw [kV (bJ _),aW]
 ·unfold rO;simp only;rw [hx,jN hk,aI,zV (by omega),aB,zV (by omega),aB]
 ·unfold rO;simp only;rw [hx,kV (bJ _),aW]
theorem aKe {q:Qv} (hq:bQ q) {x:List Int} (hx:x.length≤1048576):mH q x=some ((x.all λa=>yT a (-100) 100)&&(xU q&&decide ((x.length:Int)=q.n))):=by
 unfold mH;rw [aDW (λk=>yT (x[k]?.getD 0) (-100) 100) false (n:=x.length) (by omega) (λk hk=>?_) (λ_=>?_),zD 0 x (λa=>yT a (-100) 100),aB]
 ·cases x.all λa=>yT a (-100) 100
  ·rfl
  ·rw [aI,Bool.true_and];show (Option.bind (gP q) λv7=>bif v7 then some (decide ((x.length:Int)=q.n)) else some false)=_;rw [aCq hq,aB];cases xU q <;> rfl
 ·unfold lK;rw [jN hk,aI,sD 0 hk,aB,yL,aB];cases yT _ (-100) 100 <;> rfl
 ·unfold lK;rw [kV (bJ _),aW]
theorem Sm.all {x:List Int} (h:Sm x):(x.all λa=>yT a (-100) 100)=true:=by
 rw [List.all_eq_true];intro a ha;exact aFU (h a ha).1 (h a ha).2
theorem aNe {q:Qv} {n:Nat} (Q:QOk q n) {x y:List Int} (hx:x.length=n) (hy:y.length=n) (sx:Sm x) (sy:Sm y):mI q x y=some (eul q n x y):=by
 have n5:=Q.n5;unfold mI;rw [aKe Q.bq (by omega),sx.all,Q.qv,hx,Q.n0,bF rfl,aKe Q.bq (by omega),sy.all,Q.qv,hy,Q.n0,bF rfl];simp only [Bool.and_self,aB,iC,aW];rw [aPN hx hy n5 sx sy (λs k hk=>?_) (λs=>?_),aB,aPO Q hx hy sx sy (aMk n5 sx sy) (λs k hk=>?_) (λs=>?_),aB]
 ·rfl
 ·unfold lM;simp only;obtain ⟨s',t,hs,ht,e1,e2,e3,e4⟩:=Q.arrow hk;rw [jN hk,aI,e3,aB,zV (by omega),aB,e4,aB,zV (by omega),aB,e1,e2,cO,cO]
 ·unfold lM;simp only;rw [kV (bJ _),aW]
 ·unfold lL;simp only;rw [Q.n0,jN hk,aI,zV (by omega),aB,zV (by omega),aB]
 ·unfold lL;simp only;rw [Q.n0,kV (bJ _),aW]
theorem aSl {n s t:Nat} (x:Nat→Int) (hs:s<n) (ht:t<n):(dP n λv=>dP n λw=>(if v=s∧w=t then 1 else 0)*(x v*x w))=x s*x t:=by
 rw [dH (g:=λv=>if v=s then (λv=>x v*x t) v else 0) (λv hv=>?_),zT (λv=>x v*x t) hs];by_cases c:v=s
 ·rw [aP c];refine (dH λw _=>?_).trans (zT (λw=>x v*x w) ht);by_cases c2:w=t
  ·simp [c,c2]
  ·simp [c2]
 ·rw [aO c,dH (g:=λ_=>0) (λw _=>by simp [c]),uM]
theorem aRG {q:Qv} {n:Nat} (Q:QOk q n) (x:Nat→Int): ∀ k,k≤q.src.length→qf n (yB q k) x=2*(dP n λv=>x v*x v) - 2*dP k λi=>x (gx q.src i).toNat *x (gx q.tgt i).toNat
 |0,_=>by
  unfold qf;simp only [dP];rw [dH (g:=λv=>2*(x v*x v)) (λv hv=>?_),kU]
  ·omega
  ·rw [←zT (λw=>2*(x v*x w)) hv];refine dH λw _=>?_;unfold yB aEm;simp only [dP];by_cases c:v=w
   ·subst c;simp
   ·simp [c,show ¬ w=v from λh=>c h.symm]
 |k+1,hk=>by
  have ih:=aRG Q x k (by omega);obtain ⟨s,t,hs,ht,e1,e2,e3,e4⟩:=Q.arrow (i:=k) (by omega)
  have e:qf n (yB q (k+1)) x=qf n (yB q k) x+((-1)*(dP n λv=>dP n λw=>(if v=s∧w=t then 1 else 0)*(x v*x w))+(-1)*(dP n λv=>dP n λw=>(if v=t∧w=s then 1 else 0)*(x v*x w))):=by
   unfold qf;rw [←kU,←kU,←oA,←oA];refine dH λv _=>?_;rw [←kU,←kU,←oA,←oA];refine dH λw _=>?_;rw [yC,qK e1 e2,qK e1 e2]
   have c:(if w=s∧v=t then (1:Int) else 0)=if v=t∧w=s then 1 else 0:=by
    by_cases h:v=t∧w=s
    ·rw [aP h,aP ⟨h.2,h.1⟩]
    ·rw [aO h,aO λh'=>h ⟨h'.2,h'.1⟩]
   rw [c]
   grind
  rw [e,aSl x hs ht,aSl x ht hs,ih];simp only [dP];rw [e1,e2,cO,cO]
  grind
theorem aPP {n:Nat} {m m':Nat→Nat→Int} (x:Nat→Int) (h: ∀ i j,i<n→j<n→m i j=m' i j):qf n m x=qf n m' x:=
 dH λi hi=>dH λj hj=>by rw [h i j hi hj]
theorem aPQ {q:Qv} {n:Nat} (Q:QOk q n) (x:List Int):qf n (iF (oV q n)) (gx x)=2*eul q n x x:=by
 have e:qf n (iF (oV q n)) (gx x)=qf n (yB q q.src.length) (gx x):=aPP _ λi j hi hj=>iV hi hj;rw [e,aRG Q _ _ (bJ _)];unfold eul;omega
theorem aDr: ∀ {ms x:List Int},x∈cJ ms↔x.length=ms.length∧ ∀ i,i<ms.length→0≤gx x i∧(gx x i).toNat ≤(gx ms i).toNat
 | [],x=>by
  simp only [cJ,List.mem_singleton,List.length_nil];constructor
  ·rintro rfl;exact ⟨rfl,λi h=>by omega⟩
  ·rintro ⟨h,_⟩;exact List.eq_nil_of_length_eq_zero h
 |m::ms,x=>by
  simp only [cJ,List.mem_flatMap,List.mem_range,List.mem_map];constructor
  ·rintro ⟨i,hi,y,hy,rfl⟩;obtain ⟨h1,h2⟩:=aDr.1 hy;refine ⟨by simp [h1],λj hj=>?_⟩;cases j with
   |zero=>show 0≤(i:Int)∧(i:Int).toNat ≤m.toNat;omega
   |succ j=>exact h2 j (by simpa using hj)
  ·rintro ⟨h1,h2⟩;cases x with
   |nil=>simp at h1
   |cons a x=>
    have h3:=h2 0 (by simp);have h4:0≤a∧a.toNat≤m.toNat:=h3;refine ⟨a.toNat,by omega,x,aDr.2 ⟨by simpa using h1,λj hj=>h2 (j+1) (by simpa using hj)⟩,?_⟩;rw [Int.toNat_of_nonneg h4.1]
def xF:List Int→List Int→Bool
 |a::x,b::y=>decide (a<b)||(decide (a=b)&&xF x y)
 |_,_=>false
theorem aDs: ∀ ms:List Int,(cJ ms).Pairwise λx y=>xF x y=true
 | []=>by simp [cJ]
 |m::ms=>by
  simp only [cJ];rw [List.pairwise_flatMap];refine ⟨λi _=>?_,?_⟩
  ·rw [List.pairwise_map];exact (aDs ms).imp λh=>by simp [xF,h]
  ·refine List.pairwise_lt_range.imp λh=>?_;intro x hx y hy;obtain ⟨x',_,rfl⟩:=List.mem_map.1 hx;obtain ⟨y',_,rfl⟩:=List.mem_map.1 hy;simp only [xF,Bool.or_eq_true,iK];exact .inl (by omega)
theorem aGe: ∀ x:List Int,xF x x=false
 | []=>rfl
 |a::x=>by simp [xF,aGe x]
theorem aEQ (ms:List Int):(cJ ms).Nodup:=(aDs ms).imp λ{x y} h e=>by rw [e,aGe] at h;cases h
theorem aNf: ∀ n,n<6→(cJ (List.replicate n 4)).length ≤3125:=by decide+kernel
theorem aRy: ∀ n,n<6→aGL (List.replicate n 4)=true:=by decide
end
noncomputable section
def aAW {α:Type} (lt:α→α→Bool) (x:α):List α→List α→List α
 | [],acc=>x::acc
 |p::ps,acc=>if lt x p=true then aAW lt x ps (p::acc) else (p::ps).reverse++x::acc
def aDt {α:Type} (lt:α→α→Bool) (x:α) (P:List α):List α:=aAW lt x P.reverse []
def jM {α:Type} (lt:α→α→Bool) (A:List α):List α:=A.foldl (λS x=>aDt lt x S) []
theorem aKf {α:Type} (lt:α→α→Bool) (x:α): ∀ ps acc,(aAW lt x ps acc).length=ps.length+acc.length+1
 | [],acc=>by simp [aAW]
 |p::ps,acc=>by
  simp only [aAW];split
  ·rw [aKf lt x ps (p::acc)];simp;omega
  ·simp;omega
theorem aKg {α:Type} (lt:α→α→Bool) (x y:α): ∀ ps acc,y∈aAW lt x ps acc↔y=x∨y∈ps∨y∈acc
 | [],acc=>by simp [aAW]
 |p::ps,acc=>by
  simp only [aAW];split
  ·rw [aKg lt x y ps (p::acc)];simp only [dK];grind
  ·simp only [dS,List.mem_reverse,dK];grind
theorem aPR {α:Type} (lt:α→α→Bool) (x:α) (P:List α):(aDt lt x P).length=P.length+1:=by unfold aDt;rw [aKf];simp
theorem aPS {α:Type} {lt:α→α→Bool} {x y:α} {P:List α} :y∈aDt lt x P↔y=x∨y∈P:=by unfold aDt;rw [aKg];simp
theorem aCO {α:Type} (lt:α→α→Bool) (A:List α) (x:α):jM lt (A++[x])=aDt lt x (jM lt A):=by simp [jM]
theorem pN {α:Type} (lt:α→α→Bool): ∀ A:List α,(jM lt A).length=A.length∧ ∀ y,y∈jM lt A↔y∈A:=by
 have key: ∀ A S:List α,(A.foldl (λS x=>aDt lt x S) S).length=S.length+A.length∧ ∀ y,y∈A.foldl (λS x=>aDt lt x S) S↔y∈S∨y∈A:=by
  intro A;induction A with
  |nil=>intro S;simp
  |cons a A ih=>
   intro S;obtain ⟨h1,h2⟩:=ih (aDt lt a S);refine ⟨by rw [List.foldl_cons,h1,aPR];simp;omega,λy=>?_⟩;rw [List.foldl_cons,h2 y,aPS];simp only [dK];grind
 intro A;obtain ⟨h1,h2⟩:=key A [];exact ⟨by unfold jM;rw [h1];simp,λy=>by unfold jM;rw [h2];simp⟩
theorem aER {α:Type} {lt:α→α→Bool} {R:α→α→Prop} (hT: ∀ a b c,R a b→R b c→R a c) {x:α} : ∀ {ps acc:List α},(ps.reverse++acc).Pairwise R→(∀ a∈acc,R x a)→(∀ p∈ps,lt x p=true→R x p)→(∀ p∈ps,lt x p=false→R p x)→(aAW lt x ps acc).Pairwise R
 | [],acc,hs,ha,h1,h0=>by simp only [aAW];exact List.pairwise_cons.2 ⟨ha,by simpa using hs⟩
 |p::ps,acc,hs,ha,h1,h0=>by
  simp only [aAW];by_cases c:lt x p=true
  ·rw [aP c];have e:(p::ps).reverse++acc=ps.reverse++(p::acc):=by simp
   rw [e] at hs;refine aER hT hs (λa h=>?_) (λq hq=>h1 q (by simp [hq])) (λq hq=>h0 q (by simp [hq]));rcases dK.1 h with rfl|h
   ·exact h1 _ (by simp) c
   ·exact ha a h
  ·rw [aO c];have hp:=h0 p (by simp) (by simpa using c);rw [List.pairwise_append] at hs ⊢;obtain ⟨g1,g2,g3⟩:=hs;refine ⟨g1,List.pairwise_cons.2 ⟨ha,g2⟩,λa h1' b hb=>?_⟩;rcases dK.1 hb with rfl|hb
   ·rcases List.mem_reverse.1 h1' |> dK.1 with rfl|h
    ·exact hp
    ·refine hT _ p _ ?_ hp;rw [List.reverse_cons,List.pairwise_append] at g1;exact g1.2.2 a (by simpa using h) p (by simp)
   ·exact g3 a h1' b hb
theorem aKh {α:Type} {lt:α→α→Bool} {R:α→α→Prop} (hT: ∀ a b c,R a b→R b c→R a c) {x:α} {P:List α} (hP:P.Pairwise R) (h1: ∀ p∈P,lt x p=true→R x p) (h0: ∀ p∈P,lt x p=false→R p x):(aDt lt x P).Pairwise R:=
 aER hT (by simpa using hP) (by simp) (λp hp=>h1 p (by simpa using hp)) (λp hp=>h0 p (by simpa using hp))
theorem aGf {α:Type} {R:α→α→Prop} (hI: ∀ a,¬ R a a) (hT: ∀ a b c,R a b→R b c→R a c): ∀ {l m:List α},l.Pairwise R→m.Pairwise R→(∀ x,x∈l↔x∈m)→l=m
 | [],m,_,_,h=>by
  cases m with
  |nil=>rfl
  |cons b m=>exact absurd ((h b).2 (by simp)) (by simp)
 |a::l,m,hl,hm,h=>by
  cases m with
  |nil=>exact absurd ((h a).1 (by simp)) (by simp)
  |cons b m=>
   have hl':=List.pairwise_cons.1 hl;have hm':=List.pairwise_cons.1 hm
   have hab:a=b:=by
    rcases dK.1 ((h a).1 (by simp)) with e|e
    ·exact e
    ·rcases dK.1 ((h b).2 (by simp)) with e2|e2
     ·exact e2.symm
     ·exact absurd (hT _ _ _ (hl'.1 b e2) (hm'.1 a e)) (hI a)
   subst hab;congr 1;refine aGf hI hT hl'.2 hm'.2 λx=>?_;have hx:=h x;simp only [dK] at hx;constructor
   ·intro h1;rcases hx.1 (.inr h1) with rfl|h2
    ·exact absurd (hl'.1 _ h1) (hI _)
    ·exact h2
   ·intro h1;rcases hx.2 (.inr h1) with rfl|h2
    ·exact absurd (hm'.1 _ h1) (hI _)
    ·exact h2
def Vec5 (x:List Int):Prop:=x.length≤5∧ ∀ a∈x,0≤a∧a≤4
theorem Vec5.sum {x:List Int} (h:Vec5 x):0≤x.sum∧x.sum≤20:=by have:=aLT h.2;have:=h.1;omega
def oC (x y:List Int):Bool:=decide (x.sum<y.sum)
theorem aSm {x y:List Int} (hx:Vec5 x) (hy:Vec5 y):tI x y=some (x.sum - y.sum):=by
 have h1:=hx.sum;have h2:=hy.sum;unfold tI;rw [aIn hx.2 (by have:=hx.1;omega),aB,aIn hy.2 (by have:=hy.1;omega),aB,cB (by omega)]
theorem aJK {α:Type} {u T:List α} {p:α} :cE (u++p::T) (u.length:Int)=some p:=by simp [cE]
theorem aQf {α:Type} {u T:List α} {p x:α} :cE (u++p::x::T) ((u.length+1:Nat):Int)=some x:=by
 have:=aJK (u:=u++[p]) (p:=x) (T:=T);simpa using this
theorem aQg {α:Type} {u T:List α} {p q:α} :(u++p::T).set u.length q=u++q::T:=by simp
theorem aPT {α:Type} {u T:List α} {p x q:α} :(u++p::x::T).set (u.length+1) q=u++p::q::T:=by simp
theorem aGg {x:List Int} (hx:Vec5 x) (R:List (List Int)): ∀ ps acc:List (List Int),(∀ p∈ps,Vec5 p)→ps.length≤1000→Lp (cF 0) (ps.reverse++x::(acc++R),(ps.length:Int))=some (aAW oC x ps acc++R)
 | [],acc,_,_=>by
  refine eN ?_;unfold cF;simp [aAW]
 |p::ps,acc,hp,hl=>by
  have hpv:=hp p (by simp);have hl':ps.length+1≤1000:=by simpa using hl
  have e1:(p::ps).reverse++x::(acc++R)=ps.reverse++p::x::(acc++R):=by simp
  have hlen:ps.reverse.length=ps.length:=by simp
  have a1:cE (ps.reverse++p::x::(acc++R)) ((ps.length+1:Nat):Int)=some x:=by rw [←hlen];exact aQf
  have a2:cE (ps.reverse++p::x::(acc++R)) (ps.length:Int)=some p:=by rw [←hlen];exact aJK
  have hwr:wr (((ps.length+1:Nat):Int) - 1)=(ps.length:Int):=by rw [cB (by omega)];omega
  have hbody:cF 0 ((p::ps).reverse++x::(acc++R),((p::ps).length:Int))=some (if oC x p=true then .inl (ps.reverse++x::((p::acc)++R),(ps.length:Int)) else .inr ((p::ps).reverse++x::(acc++R))):=by
   unfold cF;simp only;rw [List.length_cons,e1,bF (by omega),aI,a1,aB,hwr,a2,aB,aSm hx hpv,aB];simp only [aB];by_cases c:x.sum<p.sum
   ·rw [bF (by omega),aI,aP (by simp [oC,c])];have s1:(ps.reverse++p::x::(acc++R)).set ((ps.length+1:Nat):Int).toNat p=ps.reverse++p::p::(acc++R):=by rw [cO,←hlen];exact aPT
    rw [s1];have a3:cE (ps.reverse++p::p::(acc++R)) (ps.length:Int)=some p:=by rw [←hlen];exact aJK
    rw [a3,aB];have s2:(ps.reverse++p::p::(acc++R)).set ((ps.length:Nat):Int).toNat x=ps.reverse++x::p::(acc++R):=by rw [cO,←hlen];exact aQg
    rw [s2];rfl
   ·rw [dQ (by omega),aW,aO (by simp [oC,c])]
  by_cases c:oC x p=true
  ·rw [aP c] at hbody;rw [lD hbody,aGg hx R ps (p::acc) (λq hq=>hp q (by simp [hq])) (by omega)];simp only [aAW,aP c]
  ·rw [aO c] at hbody;rw [eN hbody];simp only [aAW,aO c];simp
theorem aIG {A:List (List Int)} (hA: ∀ x∈A,Vec5 x) (hl:A.length≤1000):bY A 0 (A.length:Int)=some (jM oC A):=by
 unfold bY;cases A with
 |nil=>
  rw [eN (r:=([]:List (List Int)))]
  ·rfl
  ·unfold cH;rw [cB (by omega)];rfl
 |cons a A=>
  have h1:wr (0+1)=((0+1:Nat):Int):=by rw [cB (by omega)];rfl
  simp only [List.length_cons] at hl;rw [dR (s:=(a::A,wr (0+1))) (r:=jM oC (a::A)) (λk=>(jM oC ((a::A).take (k+1))++(a::A).drop (k+1),((k+1:Nat):Int))) A.length (by rw [h1];rfl) (λk hk=>?_) (λ_=>?_),aB]
  ·unfold cH;simp only;have hk1:k+1<(a::A).length:=by simp;omega
   obtain ⟨hsl,hsm⟩:=pN oC ((a::A).take (k+1));have hSl:(jM oC ((a::A).take (k+1))).length=k+1:=by rw [hsl];simp;omega
   generalize hS:jM oC ((a::A).take (k+1))=S at*;rw [List.drop_eq_getElem_cons hk1];generalize hx:(a::A)[k+1]=x;have hxA:x∈a::A:=by rw [←hx];exact List.getElem_mem hk1
   have hin:=aGg (hA x hxA) ((a::A).drop (k+1+1)) S.reverse [] (λp hp=>hA p (List.mem_of_mem_take ((hsm p).1 (by simpa using hp)))) (by simp;omega);rw [List.reverse_reverse,List.length_reverse,hSl,List.nil_append] at hin;rw [jN hk1,aI,hin,aB,bT hk1 (by simp;omega)]
   have e:jM oC ((a::A).take (k+1+1))=aDt oC x S:=by
    rw [aBo hk1,aCO,hS,hx]
   rw [e];rfl
  ·unfold cH;simp only;rw [List.length_cons,kV (bJ _),aW,List.take_of_length_le (by simp),List.drop_of_length_le (by simp),List.append_nil]
theorem aNg (l:List (List Int)):bY l 20 20=some l:=by
 unfold bY;rw [eN (r:=l)]
 ·rfl
 ·unfold cH;simp only;rw [cB (by omega)];rfl
theorem aJL {A:List (List Int)} (hA: ∀ x∈A,Vec5 x) (hl:A.length≤20):dO A=some (jM oC A):=by
 have hS:=(pN oC A).1
 have hst:gD A (A.length:Int)=some (jM oC A):=by
  unfold gD
  have hL2:Lp (fJ (A.length:Int)) 20=some ():=by
   refine eN ?_;unfold fJ;rw [dQ (by omega),aW]
  by_cases c:A.length=20
  ·have b1:cC (A.length:Int) (A,0,20)=some (.inl (jM oC A,20,40)):=by
    unfold cC;simp only;have:=aIG hA (by omega);rw [c] at this;rw [bF (by omega),aI];rw [show bY A 0 20=some (jM oC A) from this,aB,bF hS,aI,cB (by omega)];rfl
   have b2:cC (A.length:Int) (jM oC A,20,40)=some (.inr (jM oC A,20)):=by
    unfold cC;simp only;rw [dQ (by omega),aW]
   rw [lD b1,eN b2,aB];simp only;rw [show ((A.length:Nat):Int)=20 by omega,aNg,aB,bF rfl,aI];rw [show ((A.length:Nat):Int)=20 by omega] at hL2;rw [hL2,aB]
  ·have b1:cC (A.length:Int) (A,0,20)=some (.inr (A,0)):=by
    unfold cC;simp only;rw [dQ (by omega),aW]
   rw [eN b1,aB];simp only;rw [aIG hA (by omega),aB,bF hS,aI,hL2,aB]
 unfold dO;rw [hst,aB,bF hS,aI]
def vO (x y:List Int):Bool:=decide (x.sum<y.sum)||(decide (x.sum=y.sum)&&xF x y)
theorem aRH {x y:List Int} (h:x.length=y.length) (hl:x.length≤1000): ∀ d s:Nat,s+d=x.length→(Option.bind (Lp (gL x y) (s:Int)) λz=>Sum.elim (λ_=>some false) (λb=>some b) z)=some (xF (x.drop s) (y.drop s))
 |0,s,hs=>by
  have:gL x y (s:Int)=some (.inr (.inl ())):=by
   unfold gL;rw [kV (by omega),aW]
  rw [eN this,List.drop_of_length_le (by omega)];simp [xF]
 |d+1,s,hs=>by
  have hx:s<x.length:=by omega
  have hy:s<y.length:=by omega
  have hb:gL x y (s:Int)=some (if x[s]=y[s] then .inl ((s+1:Nat):Int) else .inr (.inr (decide (x[s]<y[s])))):=by
   unfold gL;rw [jN hx,aI,dY hx,aB,dY hy,aB];by_cases c:x[s]=y[s]
   ·rw [bF c,iC,aW,aP c,bT hx (by omega)]
   ·rw [dQ c,Bool.not_false,aI,aO c];simp only [aB]
  rw [List.drop_eq_getElem_cons hx,List.drop_eq_getElem_cons hy];by_cases c:x[s]=y[s]
  ·rw [aP c] at hb;rw [lD hb,aRH h hl d (s+1) (by omega)];simp [xF,c]
  ·rw [aO c] at hb;rw [eN hb];simp [xF,c]
theorem aPU (x:List Int) {k:Nat} (h:k<x.length):gx x k=x[k]:=by simp [gx,h]
theorem aRz {x y:List Int} (hx:Vec5 x) (hy:Vec5 y) (h:x.length=y.length):tG x y=some (vO x y):=by
 have l5:=hx.1;unfold tG
 have hbd: ∀ z:List Int,Vec5 z→ ∀ k:Nat, -(4*(k:Int))≤dP k (gx z)∧dP k (gx z)≤4*k:=λz hz k=>aAV λi _=>by
  rcases dI i z.length with h'|h'
  ·have:=hz.2 _ (yP h');omega
  ·unfold gx;rw [fR h'];simp
 have hg: ∀ z:List Int,Vec5 z→ ∀ k:Nat,0≤gx z k∧gx z k≤4:=λz hz k=>by
  rcases dI k z.length with h'|h'
  ·exact hz.2 _ (yP h')
  ·unfold gx;rw [fR h'];simp
 rw [dR (s:=((0:Int),(0:Int),(0:Int))) (r:=(x.sum,y.sum)) (λk=>(dP k (gx x),dP k (gx y),(k:Int))) x.length rfl (λk hk=>?_) (λ_=>?_),aB]
 ·simp only;by_cases c:x.sum=y.sum
  ·rw [bF c,iC,aW];refine (aRH h (by omega) x.length 0 (by omega)).trans ?_;simp [vO,c]
  ·rw [dQ c,Bool.not_false,aI];simp [vO,c]
 ·unfold pE;simp only;have h1:=hbd x hx k;have h2:=hbd y hy k;have h3:=hg x hx k;have h4:=hg y hy k;rw [jN hk,aI,zV hk,aB,zV (by omega),aB,cB (by omega),cB (by omega),bT hk (by omega)];rfl
 ·unfold pE;simp only;rw [kV (bJ _),aW,zU,zU,h]
theorem aIH {C:List (List Int)} {n:Nat} {i:Nat} {x:List Int} (hx:Vec5 x) (hxn:x.length=n) (hi:cE C (i:Int)=some x) {out:List (List Int)} (ho: ∀ p∈out,Vec5 p∧p.length=n) (hl:out.length≤1000): ∀ ps acc:List (List Int),ps.reverse++acc=out→
  ∃ k:Nat,Lp (fC (out,(i:Int)) C) (ps.length:Int)=some (k:Int)∧k≤out.length∧out.take k++x::out.drop k=aAW vO x ps acc
 | [],acc,e=>by
  refine ⟨0,eN ?_,Nat.zero_le _,by simp only [aAW];rw [←e];simp⟩;unfold fC;simp
 |p::ps,acc,e=>by
  have e':ps.reverse++(p::acc)=out:=by rw [←e];simp
  have hlen:out.length=ps.length+acc.length+1:=by rw [←e'];simp;omega
  have hp:=ho p (by rw [←e'];simp);have hwr:wr (((p::ps).length:Int) - 1)=(ps.length:Int):=by rw [List.length_cons,cB (by omega)];omega
  have hat:cE out (ps.length:Int)=some p:=by rw [←e',←List.length_reverse];exact aJK
  have hb:fC (out,(i:Int)) C ((p::ps).length:Int)=some (if vO x p=true then .inl (ps.length:Int) else .inr ((p::ps).length:Int)):=by
   unfold fC;simp only;rw [bF (by rw [List.length_cons];omega),aI,hi,aB,hwr,hat,aB,aRz hx hp.1 (by rw [hxn,hp.2]),aB];cases vO x p <;> rfl
  by_cases c:vO x p=true
  ·rw [aP c] at hb;obtain ⟨k,h1,h2,h3⟩:=aIH hx hxn hi ho hl ps (p::acc) e';exact ⟨k,by rw [lD hb];exact h1,h2,by rw [h3];simp only [aAW,aP c]⟩
  ·rw [aO c] at hb;refine ⟨(p::ps).length,eN hb,by rw [List.length_cons];omega,?_⟩;simp only [aAW,aO c];rw [←e];rw [List.take_left' (by simp),List.drop_left' (by simp)]
theorem aLo {C:List (List Int)} {n:Nat} (hC: ∀ x∈C,Vec5 x∧x.length=n) (hl:C.length≤1000):Lp (fD C) (([]:List (List Int)),0)=some (jM vO C):=by
 refine dR (λk=>(jM vO (C.take k),(k:Int))) C.length rfl (λk hk=>?_) (λ_=>?_)
 ·unfold fD;simp only;obtain ⟨hsl,hsm⟩:=pN vO (C.take k);have hSl:(jM vO (C.take k)).length=k:=by rw [hsl];simp;omega
  have e:jM vO (C.take (k+1))=aDt vO C[k] (jM vO (C.take k)):=by rw [aBo hk,aCO]
  rw [e];generalize hS:jM vO (C.take k)=S at*;have hx:=hC C[k] (List.getElem_mem hk);obtain ⟨j,h1,h2,h3⟩:=aIH (C:=C) (i:=k) hx.1 hx.2 (dY hk) (out:=S) (λp hp=>hC p (List.mem_of_mem_take ((hsm p).1 hp))) (by omega) S.reverse [] (by simp);rw [List.length_reverse] at h1;rw [jN hk,aI,h1,aB,dY hk];simp only [aB];have f1:List.take ((j:Int).toNat - (0:Int).toNat) (List.drop (0+(0:Int).toNat) S)=S.take j:=by simp
  have f2:List.take (((S.length:Nat):Int).toNat - (j:Int).toNat) (List.drop (0+(j:Int).toNat) S)=S.drop j:=by
   rw [cO,cO,Nat.zero_add,List.take_of_length_le (by simp)]
  rw [f1,f2];have g1:(S.take j).length ≤1000:=by simp;omega
  have g2:(S.drop j).length ≤1000:=by simp;omega
  rw [show (decide ((0:Nat)≤0)&&(decide (0≤(j:Int))&&decide ((j:Int)≤((S.length:Nat):Int))))=true by simp [h2],aI,bF (by simp;omega),aI,bF (by simp;omega),aI];rw [show (decide (0≤(j:Int))&&(decide ((j:Int)≤((S.length:Nat):Int))&&decide (((S.length:Nat):Int)≤((S.length:Nat):Int))))=true by simp [h2],aI,bF (by simp;omega),aI,bT hk (by omega)];congr 3;unfold aDt;rw [←h3];simp
 ·unfold fD;simp only;rw [kV (bJ _),aW,List.take_length]
end
noncomputable section
theorem aGh: ∀ {x y z:List Int},xF x y=true→xF y z=true→xF x z=true
 | [],y,z,h,_=>by simp [xF] at h
 |a::x,[],z,h,_=>by simp [xF] at h
 |a::x,b::y,[],_,h=>by simp [xF] at h
 |a::x,b::y,c::z,h,k=>by
  simp only [xF,Bool.or_eq_true,cU,iK] at h k ⊢;rcases h with h|⟨h,h'⟩ <;> rcases k with k|⟨k,k'⟩
  ·exact .inl (by omega)
  ·exact .inl (by omega)
  ·exact .inl (by omega)
  ·exact .inr ⟨by omega,aGh h' k'⟩
theorem aGi: ∀ {x y:List Int},x.length=y.length→x≠y→xF x y=true∨xF y x=true
 | [],[],_,h=>absurd rfl h
 | [],_::_,h,_=>by simp at h
 |_::_,[],h,_=>by simp at h
 |a::x,b::y,h,hne=>by
  simp only [xF,Bool.or_eq_true,cU,iK];by_cases e:a=b
  ·subst e;rcases aGi (x:=x) (y:=y) (by simpa using h) (λe=>hne (by rw [e])) with h1|h1
   ·exact .inl (.inr ⟨rfl,h1⟩)
   ·exact .inr (.inr ⟨rfl,h1⟩)
  ·rcases Int.lt_or_gt_of_ne e with h1|h1
   ·exact .inl (.inl h1)
   ·exact .inr (.inl h1)
def aDE (x y:List Int):Prop:=vO x y=true
theorem zX {x y:List Int} :aDE x y↔x.sum<y.sum∨(x.sum=y.sum∧xF x y=true):=by simp [aDE,vO]
theorem aNh (x:List Int): ¬ aDE x x:=by rw [zX,aGe];simp
theorem aBN (x y z:List Int) (h:aDE x y) (k:aDE y z):aDE x z:=by
 rw [zX] at*;rcases h with h|⟨h,h'⟩ <;> rcases k with k|⟨k,k'⟩
 ·exact .inl (by omega)
 ·exact .inl (by omega)
 ·exact .inl (by omega)
 ·exact .inr ⟨by omega,aGh h' k'⟩
theorem aDF {α:Type} {lt:α→α→Bool} {R:α→α→Prop} (hT: ∀ a b c,R a b→R b c→R a c) {A:List α} (hA:A.Pairwise λp x=>(lt x p=true→R x p)∧(lt x p=false→R p x)):(jM lt A).Pairwise R:=by
 have key: ∀ k,k≤A.length→(jM lt (A.take k)).Pairwise R:=by
  intro k;induction k with
  |zero=>intro _;simp [jM]
  |succ k ih=>
   intro hk;have hk':k<A.length:=by omega
   rw [aBo hk',aCO]
   have hpr: ∀ p∈jM lt (A.take k),(lt A[k] p=true→R A[k] p)∧(lt A[k] p=false→R p A[k]):=by
    intro p hp;have h1:=((pN lt (A.take k)).2 p).1 hp;obtain ⟨j,hj,rfl⟩:=List.mem_iff_getElem.1 h1;have hjk:j<k:=by simp at hj;omega
    have:=List.pairwise_iff_getElem.1 hA j k (by omega) hk' hjk;simpa using this
   exact aKh hT (ih (by omega)) (λp hp=>(hpr p hp).1) (λp hp=>(hpr p hp).2)
 have:=key A.length (bJ _)
 rwa [List.take_length] at this
structure Fin1 (q:Qv) (n:Nat):Prop where
 Q:QOk q n
 F:GForm n (oV q n)
 G:aHx n (oV q n)=true
def RtQ (q:Qv) (n:Nat) (x:List Int):Prop:=Rt0 n (oV q n) x
theorem Fin1.vec {q:Qv} {n:Nat} (H:Fin1 q n) {x:List Int} (r:RtQ q n x):Vec5 x∧x.length=n:=by
 have h:=(yA H.G).2;have h1:=r.mem H.F h.1;exact ⟨⟨by rw [r.len];exact H.Q.n5,λa ha=>⟨r.nn a ha,h.2.2 x h1 a ha⟩⟩,r.len⟩
theorem Fin1.num {q:Qv} {n:Nat} (H:Fin1 q n) {l:List (List Int)} (hn:l.Nodup) (h: ∀ x∈l,RtQ q n x):l.length≤20:=
 Nat.le_trans (aIA hn λx hx=>(h x hx).mem H.F (yA H.G).2.1) (yA H.G).2.2.1
theorem Vec5.sm {x:List Int} (h:Vec5 x):Sm x:=λa ha=>by have:=h.2 a ha;omega
theorem aLp {q:Qv} {n:Nat} (Q:QOk q n) (x:List Int):RtQ q n x↔x.length=n∧(∀ a∈x,0≤a)∧eul q n x x=1:=by
 constructor
 ·intro r;have:=r.two;rw [aPQ Q] at this;exact ⟨r.len,r.nn,by omega⟩
 ·rintro ⟨h1,h2,h3⟩;exact ⟨h1,h2,by rw [aPQ Q];omega⟩
def aDG (q:Qv) (n:Nat):List (List Int):=(cJ (List.replicate n 4)).filter λx=>decide (eul q n x x=1)
theorem aLq {n i:Nat} (h:i<n) (z:Int):gx (List.replicate n z) i=z:=by simp [gx,h]
theorem aMl {n:Nat} {x:List Int} :x∈cJ (List.replicate n 4)↔x.length=n∧ ∀ a∈x,0≤a∧a≤4:=by
 rw [aDr,List.length_replicate];constructor
 ·rintro ⟨h1,h2⟩;refine ⟨h1,λa ha=>?_⟩;obtain ⟨i,hi,rfl⟩:=List.mem_iff_getElem.1 ha;have:=h2 i (by omega);rw [aLq (by omega),aPU x hi] at this;have h4:(4:Int).toNat=4:=rfl;omega
 ·rintro ⟨h1,h2⟩;refine ⟨h1,λi hi=>?_⟩;have:=h2 _ (yP (x:=x) (i:=i) (by omega));rw [aLq hi];have h4:(4:Int).toNat=4:=rfl;omega
theorem aBg {q:Qv} {n:Nat} (H:Fin1 q n) (x:List Int):x∈aDG q n↔RtQ q n x:=by
 unfold aDG;rw [List.mem_filter,aMl,iK,aLp H.Q];constructor
 ·rintro ⟨⟨h1,h2⟩,h3⟩;exact ⟨h1,λa ha=>(h2 a ha).1,h3⟩
 ·rintro ⟨h1,h2,h3⟩;have hv:=H.vec ((aLp H.Q x).2 ⟨h1,h2,h3⟩);exact ⟨⟨h1,hv.1.2⟩,h3⟩
theorem aII {f:List Int→List (List Int)→Option (List (List Int) ⊕ Unit)} (p:List Int→Bool): ∀ (l acc:List (List Int)),(∀ x∈l,∀ acc:List (List Int),acc.length≤4000→f x acc=some (.inl (if p x=true then acc++[x] else acc)))→acc.length+l.length≤4000→Fl f l acc=some (.inl (acc++l.filter p))
 | [],acc,_,_=>by simp [Fl]
 |x::l,acc,h,hl=>by
  simp only [List.length_cons] at hl;simp only [Fl];rw [h x (by simp) acc (by omega)];simp only;rw [aII p l (if p x=true then acc++[x] else acc) (λy hy=>h y (by simp [hy])) (by split <;> (try simp) <;> omega)];by_cases c:p x=true
  ·simp [c]
  ·simp [c]
theorem aKi {q:Qv} {n:Nat} (H:Fin1 q n):wQ q=some (jM oC (aDG q n)):=by
 have Q:=H.Q;have n5:=Q.n5;have n1:=Q.n1;unfold wQ;have hn:=aNf n (by omega);rw [Q.n0,bF (by omega),bF (by omega),Bool.and_self,aI,cO,aRy n (by omega),aI];rw [aII (λx=>decide (eul q n x x=1)) (cJ (List.replicate n 4)) [] (λx hx acc ha=>?_) (by simp;omega),aB]
 ·have hA: ∀ x∈aDG q n,Vec5 x:=λx hx=>(H.vec ((aBg H x).1 hx)).1;have hnd:(aDG q n).Nodup:=(aEQ _).filter _;have hlen:=H.num hnd λx hx=>(aBg H x).1 hx;show (Option.bind (dO (aDG q n)) λv9=>bif decide (v9.length=(aDG q n).length) then some v9 else none)=_;rw [aJL hA hlen,aB,bF (pN oC _).1,aI]
 ·obtain ⟨h1,h2⟩:=aMl.1 hx;have hv:Vec5 x:=⟨by omega,h2⟩;unfold vV;rw [aNd Q h1 h1 hv.sm hv.sm,aB];by_cases c:eul q n x x=1
  ·rw [bF c,aI,aP rfl];unfold pP;rw [bF (by omega),aI,aB,bF (by omega),aI]
  ·rw [dQ c,aW,aO (by simp)]
theorem aDu {q:Qv} {n:Nat} :(jM oC (aDG q n)).Pairwise aDE:=by
 refine aDF aBN ?_;refine (List.Pairwise.filter _ (aDs _)).imp λ{p x} h=>?_;rw [zX,zX];simp only [oC,iK,decide_eq_false_iff_not];refine ⟨λh1=> .inl h1,λh1=>?_⟩;by_cases e:p.sum=x.sum
 ·exact .inr ⟨e,h⟩
 ·exact .inl (by omega)
theorem aNi {q:Qv} {n:Nat} (Q:QOk q n) {x:List Int} (hx:Vec5 x) (hxn:x.length=n) {v:Nat} (hv:v<n):pF (oV q n) x (v:Int)=some (x.set v (gx x v+ -(mv n (iF (oV q n)) (gx x) v))):=by
 have n5:=Q.n5;have m6:=Q.m6
 have hbd: ∀ i, -48≤yB q q.src.length v i*gx x i∧yB q q.src.length v i*gx x i≤48:=by
  intro i;have h1:=aPI q m6 v i
  have h2:0≤gx x i∧gx x i≤4:=by
   rcases dI i x.length with h'|h'
   ·exact hx.2 _ (yP h')
   ·unfold gx;rw [fR h'];simp
  have h3:gx x i=0∨gx x i=1∨gx x i=2∨gx x i=3∨gx x i=4:=by omega
  rcases h3 with h3|h3|h3|h3|h3 <;> rw [h3] <;> omega
 have hmv:mv n (iF (oV q n)) (gx x) v=dP n λi=>yB q q.src.length v i*gx x i:=dH λi hi=>by rw [show iF (oV q n) v i=yB q q.src.length v i from iV hv hi]
 have hs:=aAV (n:=n) (f:=λi=>yB q q.src.length v i*gx x i) (B:=48) λi _=>hbd i;unfold pF;rw [bF (by simp;omega),aI,dR (s:=((0:Int),(0:Int))) (r:=dP n λi=>yB q q.src.length v i*gx x i) (λk=>(dP k λi=>yB q q.src.length v i*gx x i,(k:Int))) n rfl (λk hk=>?_) (λ_=>?_),aB]
 ·have hvl:v<x.length:=by omega
  rw [List.nil_append,zV hvl];simp only [aB];have h2:=hx.2 _ (yP hvl);rw [hmv,cB (by omega),cO];rfl
 ·unfold kQ;simp only;have h2:=aAV (n:=k) (f:=λi=>yB q q.src.length v i*gx x i) (B:=48) λi _=>hbd i;have h3:=hbd k;rw [hxn,jN hk,aI,show cE (oV q n) (v:Int)=some (sE n (yB q q.src.length v)) from lQ hv,aB,lQ hk,aB,zV (by omega),aB,cB (x:=yB q q.src.length v k*gx x k) (by omega),cB (by omega),bT hk (by omega)];rfl
 ·unfold kQ;simp only;rw [hxn,kV (bJ _),aW]
def wA (q:Qv) (n:Nat) (x:List Int) (v:Nat):List Int:=x.set v (gx x v+ -(mv n (iF (oV q n)) (gx x) v))
theorem aIJ {q:Qv} {n:Nat} (H:Fin1 q n) {x:List Int} (r:RtQ q n x) {v:Nat} (hv:v<n) (h:0≤gx x v+ -(mv n (iF (oV q n)) (gx x) v)):RtQ q n (wA q n x v):=by
 have hvl:v<x.length:=by rw [r.len];exact hv
 refine ⟨by unfold wA;rw [List.length_set];exact r.len,λa ha=>?_,?_⟩
 ·rcases yQ ha with rfl|ha
  ·exact h
  ·exact r.nn a ha
 ·unfold wA;rw [aDn _ hvl,aLk _ _ _ hv H.F.sym,r.two,H.F.diag v hv];generalize mv n (iF (oV q n)) (gx x) v=s
  grind
def aPV (q:Qv) (n:Nat) (all:List (List Int)) (x:List Int) (v:Nat):Prop:=0≤gx x v+ -(mv n (iF (oV q n)) (gx x) v)→wA q n x v∈all
def aGj (q:Qv) (n:Nat) (all:List (List Int)):Prop:=all.Nodup∧ ∀ x∈all,RtQ q n x
theorem aKj {l:List (List Int)} {x:List Int} (hl: ∀ r∈l,bI r) (hn:l.length≤1000):oK l x=some (decide (x∈l)):=by
 unfold oK;rw [aOK (λk=>decide (l[k]?.getD []=x)) true (n:=l.length) (by omega) (λk hk=>?_) (λ_=>?_),aB]
 ·have e:((List.range l.length).any λk=>decide (l[k]?.getD []=x))=decide (x∈l):=by
   rw [Bool.eq_iff_iff,List.any_eq_true,iK];constructor
   ·rintro ⟨k,hk,h⟩;have hk':=List.mem_range.1 hk;rw [iK,gS hk',oW] at h;rw [←h];exact List.getElem_mem hk'
   ·intro h;obtain ⟨k,hk,rfl⟩:=List.mem_iff_getElem.1 h;exact ⟨k,List.mem_range.2 hk,by simp [hk]⟩
  rw [e];cases decide (x∈l) <;> rfl
 ·unfold qA;rw [jN hk,aI,sD [] hk,aB,aFt (hl _ (by rw [gS hk];exact List.getElem_mem hk)),aB];cases decide (l[k]?.getD []=x) <;> rfl
 ·unfold qA;rw [kV (bJ _),aW]
theorem aKk {q:Qv} {n:Nat} (H:Fin1 q n) {all0:List (List Int)} {i:Nat} {x:List Int} (hi:cE all0 (i:Int)=some x) (h0:aGj q n all0):
  ∃ r,Lp (fA q (oV q n) (all0,(i:Int))) (all0,0)=some r∧(all0<+:r∧aGj q n r∧ ∀ u,u<n→aPV q n r x u):=by
 have Q:=H.Q;have n5:=Q.n5;have hxr:RtQ q n x:=h0.2 x (List.mem_of_getElem? (dC hi));have hxv:=H.vec hxr;refine aCd (λs=> ∃ w:Nat,s.2=(w:Int)∧w≤n∧all0<+:s.1∧aGj q n s.1∧ ∀ u,u<w→aPV q n s.1 x u) (λs=>n - s.2.toNat) _ ⟨0,rfl,Nat.zero_le _,List.prefix_refl _,h0,λu hu=>by omega⟩ ?_;rintro ⟨all,sv⟩ ⟨w,hw,hwn,hpre,hall,hcl⟩;simp only at hw hpre hall hcl;subst hw;have hlen:=H.num hall.1 hall.2;by_cases hlt:w<n
 ·left
  have hat:cE all (i:Int)=some x:=by
   have h1:=dC hi;obtain ⟨t,rfl⟩:=hpre;have h2:=eD hi;rw [cO] at h1 h2;simp only [cE];rw [bF (by omega),aI,cO,List.getElem?_append_left h2];exact h1
  have hrl:(wA q n x w).length=n:=by unfold wA;rw [List.length_set];exact hxv.2
  have hgy:gx (wA q n x w) w=gx x w+ -(mv n (iF (oV q n)) (gx x) w):=by unfold wA;rw [aBK _ (by omega),aP rfl]
  have hb:fA q (oV q n) (all0,(i:Int)) (all,(w:Int))=some (.inl (if 0≤gx x w+ -(mv n (iF (oV q n)) (gx x) w)∧ ¬ wA q n x w∈all then all++[wA q n x w] else all,((w+1:Nat):Int))):=by
   unfold fA;simp only;rw [Q.n0,jN hlt,aI,hat,aB,aNi Q hxv.1 hxv.2 hlt,aB];change (Option.bind (cE (wA q n x w) (w:Int)) λv13=>_)=_;rw [zV (by omega),aB,hgy,bT hlt (by omega)];by_cases c:0≤gx x w+ -(mv n (iF (oV q n)) (gx x) w)
   ·have hy:=aIJ H hxr hlt c;have hyv:=H.vec hy;rw [bF c,aI];change (Option.bind (oK all (wA q n x w)) λv15=>_)=_;rw [aKj (λr hr=>by have:=(H.vec (hall.2 r hr)).1.1;unfold bI;omega) (by omega),aB];by_cases c2:wA q n x w∈all
    ·rw [bF c2,iC,aW,aO (by simp [c2])]
    ·rw [dQ c2,Bool.not_false,aI,aP ⟨c,c2⟩];unfold vT;change (Option.bind (Option.bind (mI q (wA q n x w) (wA q n x w)) λv1=>some v1) λv17=>_)=_;rw [aNe Q hrl hrl hyv.1.sm hyv.1.sm,aB,aB,((aLp Q _).1 hy).2.2,bF rfl,aI,bF (by omega),aI];rfl
   ·rw [dQ c,aW,aO (by simp [c])]
  refine ⟨_,hb,⟨w+1,rfl,by omega,?_,?_,?_⟩,by show n - ((w+1:Nat):Int).toNat <n - (w:Int).toNat;omega⟩
  ·simp only;split
   ·exact hpre.trans (List.prefix_append _ _)
   ·exact hpre
  ·simp only;split
   ·rename_i c;refine ⟨?_,λy hy=>?_⟩
    ·rw [List.nodup_append];refine ⟨hall.1,by simp,λa ha b hb=>?_⟩;rw [List.mem_singleton] at hb;subst hb;rintro rfl;exact c.2 ha
    ·rcases dS.1 hy with hy|hy
     ·exact hall.2 y hy
     ·rw [List.mem_singleton] at hy;subst hy;exact aIJ H hxr hlt c.1
   ·exact hall
  ·intro u hu h;simp only;by_cases e:u=w
   ·subst e;split
    ·simp
    ·rename_i c;exact Classical.byContradiction λh2=>c ⟨h,h2⟩
   ·have:=hcl u (by omega) h;split
    ·simp [this]
    ·exact this
 ·right;have:w=n:=by omega
  subst this;refine ⟨all,?_,hpre,hall,hcl⟩;unfold fA;simp only;rw [Q.n0,kV (bJ _),aW]
theorem aKl {q:Qv} {n:Nat} (H:Fin1 q n) {all0:List (List Int)} (h0:aGj q n all0):
  ∃ r,Lp (fB q (oV q n)) (all0,0)=some r∧(all0<+:r∧aGj q n r∧ ∀ x∈r,∀ u,u<n→aPV q n r x u):=by
 refine aCd (λs=> ∃ k:Nat,s.2=(k:Int)∧k≤s.1.length∧all0<+:s.1∧aGj q n s.1∧ ∀ j (hj:j<s.1.length),j<k→ ∀ u,u<n→aPV q n s.1 s.1[j] u) (λs=>21 - s.2.toNat) _ ⟨0,rfl,Nat.zero_le _,List.prefix_refl _,h0,λj _ hj=>by omega⟩ ?_;rintro ⟨all,sv⟩ ⟨k,hk,hkl,hpre,hall,hcl⟩;simp only at hk hkl hpre hall hcl;subst hk;have hlen:=H.num hall.1 hall.2;by_cases hlt:k<all.length
 ·left;obtain ⟨r,g1,g2,g3,g4⟩:=aKk H (dY hlt) hall;have hrl:=g2.length_le;refine ⟨(r,((k+1:Nat):Int)),?_,⟨k+1,rfl,by show k+1≤r.length;omega,hpre.trans g2,g3,?_⟩,by show 21 - ((k+1:Nat):Int).toNat <21 - (k:Int).toNat;omega⟩
  ·unfold fB;simp only;rw [jN hlt,aI,g1,aB,bT hlt (by omega)]
  ·intro j hj hjk u hu h;simp only at hj h ⊢;obtain ⟨t,rfl⟩:=g2;have hja:j<all.length:=by omega
   have e:(all++t)[j]=all[j]:=List.getElem_append_left hja;rw [e] at h ⊢;by_cases c:j=k
   ·subst c;exact g4 u hu h
   ·have:=hcl j hja (by omega) u hu h;simp [this]
 ·right;refine ⟨all,?_,hpre,hall,λx hx u hu=>?_⟩
  ·unfold fB;simp only;rw [kV (by omega),aW]
  ·obtain ⟨j,hj,rfl⟩:=List.mem_iff_getElem.1 hx;exact hcl j hj (by omega) u hu
theorem aKm {q:Qv} {n:Nat} (H:Fin1 q n) {C:List (List Int)} (hu: ∀ v,v<n→tM n v∈C) (hc: ∀ x∈C,∀ u,u<n→aPV q n C x u): ∀ (h:Nat) {x:List Int},RtQ q n x→x.sum=h+1→x∈C
 |0,x,r,hs=>by
  obtain ⟨v,hv,e⟩:=aGY r.nn (by omega);rw [r.len] at e hv;rw [e];exact hu v hv
 |h+1,x,r,hs=>by
  obtain ⟨v,hv,h1,h2⟩:=r.down H.F (by omega);have hvl:v<x.length:=by rw [r.len];exact hv
  have ih:=aKm H hu hc h h2 (by rw [aJH _ hvl];omega)
  have h3:mv n (iF (oV q n)) (gx (x.set v (gx x v+ -1))) v= -1:=by
   rw [aDn _ hvl,aLj _ _ _ _ hv,h1,H.F.diag v hv];rfl
  have h4:gx (x.set v (gx x v+ -1)) v=gx x v+ -1:=by rw [aBK _ hvl,aP rfl]
  have h5:=r.nn _ (yP hvl);have h6:=hc _ ih v hv (by rw [h3,h4];omega);unfold wA at h6;rw [h3,h4,List.set_set] at h6
  have e:x.set v (gx x v+ -1+ - -1)=x:=by
   refine aPF (by simp) λi _=>?_;rw [aBK _ hvl];by_cases e:i=v
   ·subst e;rw [aP rfl];omega
   ·rw [aO e]
  rwa [e] at h6
theorem aIK {q:Qv} {n:Nat} (H:Fin1 q n) {v:Nat} (hv:v<n):RtQ q n (tM n v):=by
 have hz:gx (List.replicate n (0:Int))=λ_=>0:=by
  funext i;unfold gx;rw [List.getElem?_replicate];split <;> simp
 have hvl:v<(List.replicate n (0:Int)).length:=by simpa using hv
 have e:tM n v=(List.replicate n (0:Int)).set v (gx (List.replicate n (0:Int)) v+1):=by rw [hz];rfl
 refine ⟨by simp [tM],λa ha=>?_,?_⟩
 ·rcases yQ ha with rfl|ha
  ·omega
  ·rw [List.eq_of_mem_replicate ha];omega
 ·rw [e,aDn _ hvl,aLk _ _ _ hv H.F.sym,H.F.diag v hv,hz]
  have h1:mv n (iF (oV q n)) (λ_=>0) v=0:=by
   unfold mv;rw [dH (g:=λ_=>0) (λi _=>by rw [Int.mul_zero]),uM]
  have h2:qf n (iF (oV q n)) (λ_=>0)=0:=by
   rw [aKX,dH (g:=λ_=>0) (λi _=>by rw [Int.zero_mul]),uM]
  rw [h1,h2];rfl
theorem aKn (n:Nat):((List.range n).map (tM n)).Nodup:=by
 rw [List.nodup_iff_pairwise_ne,List.pairwise_map];refine List.Pairwise.imp_of_mem (λ{a b} ha hb h e=>?_) (List.nodup_iff_pairwise_ne.1 List.nodup_range);have h1:gx (tM n a) a=1:=by unfold tM;rw [aBK _ (by simpa using List.mem_range.1 ha),aP rfl]
 have h2:gx (tM n b) a=0:=by unfold tM;rw [aBK _ (by simpa using List.mem_range.1 hb),aO h,aLq (List.mem_range.1 ha)]
 rw [e,h2] at h1;cases h1
theorem aKo {q:Qv} {n:Nat} (Q:QOk q n):Lp (eZ q) (([]:List (List Int)),0)=some ((List.range n).map (tM n)):=by
 have n5:=Q.n5;refine dR (λk=>((List.range k).map (tM n),(k:Int))) n rfl (λk hk=>?_) (λ_=>?_)
 ·unfold eZ;simp only;rw [Q.n0,jN hk,aI,bF (by omega),bF (by omega),Bool.and_self,aI,cO,sD 0 (by simpa using hk),aB,bF (by simp;omega),aI,bT hk (by omega),List.range_succ,List.map_append,cO];rfl
 ·unfold eZ;simp only;rw [Q.n0,kV (bJ _),aW]
def kZ (q:Qv) (n:Nat):List (List Int):=jM oC (aDG q n)
theorem xC {q:Qv} {n:Nat} (H:Fin1 q n) (x:List Int):x∈kZ q n↔RtQ q n x:=by unfold kZ;rw [(pN _ _).2,aBg H]
theorem aGk {q:Qv} {n:Nat} (H:Fin1 q n):(kZ q n).length ≤20:=by
 unfold kZ;rw [(pN _ _).1];exact H.num ((aEQ _).filter _) λx hx=>(aBg H x).1 hx
theorem aKp {q:Qv} {n:Nat} (H:Fin1 q n):(Option.bind (Lp (eZ q) (([]:List (List Int)),0)) λy8=>Option.bind (Lp (fB q (oV q n)) (y8,0)) λy21=>Option.bind (Lp (fD y21) (([]:List (List Int)),0)) λy35=>some (y35,true))=some (kZ q n,true):=by
 have hU:aGj q n ((List.range n).map (tM n)):=⟨aKn n,λx hx=>by
  obtain ⟨v,hv,rfl⟩:=List.mem_map.1 hx
  exact aIK H (List.mem_range.1 hv)⟩
 obtain ⟨C,h1,h2,h3,h4⟩:=aKl H hU;have hC: ∀ x∈C,Vec5 x∧x.length=n:=λx hx=>H.vec (h3.2 x hx);have hlen:=H.num h3.1 h3.2;rw [aKo H.Q,aB,h1,aB,aLo hC (by omega),aB];congr 2;refine aGf aNh aBN ?_ aDu λx=>?_
 ·refine aDF aBN ?_;refine List.Pairwise.imp_of_mem (λ{p x} hp hx h=>?_) (List.nodup_iff_pairwise_ne.1 h3.1);refine ⟨λh=>h,λh'=>?_⟩;have h5: ¬ aDE x p:=by unfold aDE;rw [h'];simp
  rw [zX] at h5 ⊢;rcases aGi (x:=p) (y:=x) (by rw [(hC p hp).2,(hC x hx).2]) h with h6|h6
  ·by_cases e:p.sum=x.sum
   ·exact .inr ⟨e,h6⟩
   ·refine .inl ?_;have: ¬ x.sum<p.sum:=λh=>h5 (.inl h);omega
  ·refine .inl ?_;have h7: ¬ x.sum<p.sum:=λh=>h5 (.inl h);have h8: ¬ x.sum=p.sum:=λh=>h5 (.inr ⟨h,h6⟩);omega
 ·rw [(pN _ _).2,xC H];constructor
  ·exact h3.2 x
  ·intro r;have:=r.pos H.F
   exact aKm H (λv hv=>by
    obtain ⟨t,rfl⟩:=h2;simp only [dS]
    exact .inl (List.mem_map.2 ⟨v,List.mem_range.2 hv,rfl⟩)) h4 (x.sum - 1).toNat r (by omega)
end
noncomputable section
set_option maxRecDepth 10000
set_option maxHeartbeats 4000000
end
noncomputable section
theorem aRI {q:Qv} (hb:bQ q): ∃ L b,eH q=some (L,b)∧fE q=some (L,b)∧((b=false∧L=[])∨(b=true∧ ∃ n,Fin1 q n∧L=kZ q n)):=by
 by_cases hv:xU q=true
 ·obtain ⟨n,Q⟩:=qok hb hv;by_cases hk:aBM n (oV q n) (2 ^ n - 1) 1 1=1
  ·obtain ⟨F,G⟩:=aPM Q λt h1 h2=>aIF hk t h1 (by omega);have H:Fin1 q n:=⟨Q,F,G⟩;refine ⟨kZ q n,true,?_,?_,.inr ⟨rfl,n,H,rfl⟩⟩
   ·unfold eH;rw [aGb Q,aB,hk,bF rfl,iC,aW,aKi H,aB];rfl
   ·unfold fE;rw [aGc Q,aB,hk,bF rfl,iC,aW,aIB Q,aB];exact aKp H
  ·refine ⟨[],false,?_,?_,.inl ⟨rfl,rfl⟩⟩
   ·unfold eH;rw [aGb Q,aB,dQ hk,Bool.not_false,aI]
   ·unfold fE;rw [aGc Q,aB,dQ hk,Bool.not_false,aI]
 ·have hv':xU q=false:=by simpa using hv
  refine ⟨[],false,?_,?_,.inl ⟨rfl,rfl⟩⟩
  ·unfold eH iZ;rw [aIm hb,hv',aB];rfl
  ·unfold fE iY;rw [aCq hb,hv',aB];rfl
theorem aJM {v:List (List Int)} {f:List Int→Option Bool} (P:List Int→Bool) (hf: ∀ x∈v,f x=some (P x)) (h:v.length≤1048576): ∃ i:Int,fN v f=some i∧decide (0≤i)=v.any P:=by
 unfold fN;rw [aDV (s0:=0) (s:=0) (n:=v.length) (λk=>bif P (v[k]?.getD []) then some (k:Int) else none) rfl (by omega) (Nat.zero_le _) (λk _ hk=>?_) (λ_=>?_)]
 ·rw [aB];cases e:(List.range' 0 (v.length - 0)).findSome? (λk:Nat=>bif P (v[k]?.getD []) then some (k:Int) else none) with
  |none=>
   refine ⟨-1,rfl,?_⟩;rw [List.findSome?_eq_none_iff] at e
   have:v.any P=false:=by
    rw [List.any_eq_false];intro x hx;obtain ⟨k,hk,rfl⟩:=List.mem_iff_getElem.1 hx;have:=e k (by simp;omega);simp only [gS hk,oW] at this;cases hp:P v[k] with
    |false=>simp
    |true=>rw [hp] at this;cases this
   rw [this];rfl
  |some i=>
   refine ⟨i,rfl,?_⟩;obtain ⟨k,hk,he⟩:=List.exists_of_findSome?_eq_some e;simp at hk;have hkl:k<v.length:=by omega
   rw [gS hkl] at he;simp only [oW] at he;cases hp:P v[k] with
   |false=>rw [hp] at he;cases he
   |true=>
    rw [hp] at he;cases he;rw [bF (by omega),eq_comm,List.any_eq_true];exact ⟨_,List.getElem_mem hkl,hp⟩
 ·unfold eX;rw [jN hk,aI,sD [] hk,aB,hf _ (by rw [gS hk];exact List.getElem_mem hk),aB];cases P _ <;> rfl
 ·unfold eX;rw [kV (bJ _),aW]
theorem aPW {q:Qv} (hb:bQ q) (x:List Int): ∃ b,uW q x=some b∧uV q x=some b∧(b=true→ ∃ n,Fin1 q n∧RtQ q n x):=by
 obtain ⟨L,b,h1,h2,h3⟩:=aRI hb
 have hL:(∀ r∈L,bI r)∧L.length≤1000:=by
  rcases h3 with ⟨_,rfl⟩|⟨_,n,H,rfl⟩
  ·exact ⟨λr hr=>(by cases hr),by simp⟩
  ·refine ⟨λr hr=>?_,by have:=aGk H;omega⟩;have:=(H.vec ((xC H r).1 hr)).1.1;unfold bI;omega
 obtain ⟨i,g1,g2⟩:=aJM (f:=λb0=>kB b0 x) (λr=>decide (r=x)) (λr hr=>by simp only [kB];rw [aNI (hL.1 r hr),aB]) (by omega:L.length≤1048576)
 have hany:(L.any λr=>decide (r=x))=decide (x∈L):=by
  rw [Bool.eq_iff_iff,List.any_eq_true,iK];exact ⟨λ⟨r,hr,h⟩=>by rw [iK] at h;exact h▸hr,λh=>⟨x,h,by simp⟩⟩
 refine ⟨decide (x∈L),?_,?_,λh=>?_⟩
 ·unfold uW uL;rw [h1,aB];simp only;rw [g1,aB,aB,g2,hany]
 ·unfold uV;rw [h2,aB];simp only;rcases h3 with ⟨rfl,rfl⟩|⟨rfl,_⟩
  ·simp
  ·rw [aI,aKj hL.1 hL.2,aB]
 ·rw [iK] at h;rcases h3 with ⟨_,rfl⟩|⟨_,n,H,rfl⟩
  ·cases h
  ·exact ⟨n,H,(xC H x).1 h⟩
end
noncomputable section
theorem aQh {L:List Nat} (hL:L.length≤1048576) (k:Nat):wH (nZ L) k=some (L.contains k):=by
 unfold wH;rw [aOK (n:=L.length) (λi=>decide (L[i]?.getD 0=k)) true (by omega) (λi hi=>?_) (λ_=>?_),aB]
 ·have e:(List.range L.length).any (λi=>decide (L[i]?.getD 0=k))=L.contains k:=by
   rw [Bool.eq_iff_iff,List.any_eq_true,List.contains_iff_mem];constructor
   ·rintro ⟨i,hi,he⟩;have hi:=List.mem_range.1 hi;have he:=of_decide_eq_true he;rw [gS hi,oW] at he;subst he;exact List.getElem_mem hi
   ·intro h;obtain ⟨i,hi,rfl⟩:=List.mem_iff_getElem.1 h;exact ⟨i,List.mem_range.2 hi,by simp [hi]⟩
  rw [e];cases L.contains k <;> rfl
 ·unfold qY;rw [iO,jN hi,aI,sD 0 (by rw [iO];exact hi),aB]
  have e:decide ((nZ L)[i]?.getD 0=(k:Int))=decide (L[i]?.getD 0=k):=by
   rw [Bool.eq_iff_iff,iK,iK];simp [nZ,hi];omega
  rw [e];cases decide (L[i]?.getD 0=k) <;> rfl
 ·unfold qY;rw [iO,kV (bJ _),aW]
theorem aPX {L:List Nat} {i:Nat} (h:i<L.length):cE (nZ L) (i:Int)=some ((L[i]?.getD 0:Nat):Int):=by
 rw [dY (by rw [iO];exact h)];simp [nZ,h]
theorem aNj {p:Int} {m:Nat} {F:Nat→Nat→Int} {t i:Nat} (h:i<(dZ p m F t).2.length):(dZ p m F t).2[i]?.getD 0<t:=aCe t _ (tB 0 h)
theorem aLr {p:Int} {m n:Nat} {F:Nat→Nat→Int} (T:Tb p m n F):rK p ⟨m,n,bZ m n F⟩=some (aLH p n (dZ p m F n).1 (dZ p m F n).2):=by
 have hn:=T.hn;have hN:=T.hN;have hin:=aAv (by have:=jD T.hp;omega:0<p) T.hi n;have hlen:= @aBV p m F n;have hlen2:= @aBz p m F n;have hget:= @aNj p m F n;unfold rK;rw [aIr T,aB];generalize (dZ p m F n).1=R at*;generalize (dZ p m F n).2=L at*;rw [dR (r:=aLH p n R L) (λk=>((k:Int),((List.range k).filter λk=> !L.contains k).map λk=>aJq p n R L k L.length)) n (by simp) (λk hk=>?_) (λ_=>?_),aB]
 ·unfold nH;simp only;have hfl:((List.range k).filter λk=> !L.contains k).length ≤k:=by have:=List.length_filter_le (λk=> !L.contains k) (List.range k);simpa using this
  rw [jN hk,aI,aQh (by omega),aB,List.range_succ,List.filter_append,List.map_append];cases hc:L.contains k with
  |true=>
   rw [aI,bT hk (by omega),show [k].filter (λk=> !L.contains k)=[] by simp only [List.filter_cons,List.filter_nil,hc,iC,fL,if_false],List.map_nil,List.append_nil]
  |false=>
   rw [aW,bF (by omega),bF (by omega:(n:Int)≤1048576),Bool.and_self,aI,cO,cO,dY (by simp;exact hk),aB];rw [dR (r:=aJq p n R L k L.length) (λi=>(aJq p n R L k i,(i:Int))) L.length (by rfl) (λi hi=>?_) (λ_=>?_),aB]
   ·rw [bF (by simp only [dE];omega),aI,bT hk (by omega),show [k].filter (λk=> !L.contains k)=[k] by simp only [List.filter_cons,List.filter_nil,hc,Bool.not_false,if_true]];rfl
   ·unfold nG;simp only;have b1:=hin i k (by omega) hk;have hp:=jD T.hp;have hv:=hget hi;rw [iO,jN hi,aI,aPX hi,aB,atT hN (by omega) hk,aB,cB (by omega),aAQ T.hp (by omega),aB,dY (by rw [aFY];exact hv),aB,cO,bT hi (by omega)];rfl
   ·unfold nG;simp only;rw [iO,kV (bJ _),aW]
 ·unfold nH;simp only;rw [kV (bJ _),aW];rfl
theorem aPY {p:Int} (hp:xD p=true) {m n:Nat} {F:Nat→Nat→Int} (hi:InP p m n F):(aLH p n (dZ p m F n).1 (dZ p m F n).2).length=n - rkF p m n F:=by
 have h:=aOM hp hi n (bJ _);have:=aOn h.inc (aCe n);unfold aLH rkF;rw [dE];omega
theorem Fit.lA {a b:Rp} (h:Fit a b) {v:Nat} (hv:v<a.dims.length):wr ((dN a v:Int)*(dN b v:Int))=((Proofs.YtpppcfhgaehcjaaGreat.lV a b v:Nat):Int):=by
 have:=h.lV hv;unfold Proofs.YtpppcfhgaehcjaaGreat.lV at*;rw [Nat.mul_comm] at this ⊢;exact aGr (by omega)
theorem aMm {a b:Rp} (h:Fit a b) {v:Nat} (hv:v≤a.dims.length):tD a b v=some ((off (lV a b) v:Nat):Int):=by
 have n5:=h.ra.n5;unfold tD;rw [dR (r:=((off (lV a b) v:Nat):Int)) (λk=>(((off (lV a b) k:Nat):Int),(k:Int))) v (by rfl) (λk hk=>?_) (λ_=>?_),aB]
 ·have hka:k<a.dims.length:=by omega
  have hkb:k<b.dims.length:=by rw [h.ne];exact hka
  have ho:=h.offV (v:=k+1) (by omega);have e:off (lV a b) (k+1)=off (lV a b) k+lV a b k:=rfl;unfold rL;simp only;rw [jN hk,aI,sD 0 hka,aB,sD 0 hkb,aB,(h.ra.d k hka).1,(h.rb.d k hkb).1,h.lA hka,bT hk (by omega),cB (by omega),e];simp
 ·unfold rL;simp only;rw [kV (bJ _),aW]
theorem aNk {a b:Rp} (h:Fit a b):tE a b=some (nV a b:Int):=by
 have n5:=h.ra.n5;unfold tE;rw [dR (r:=(nV a b:Int)) (λk=>(((off (lV a b) k:Nat):Int),(k:Int))) a.dims.length (by rfl) (λk hk=>?_) (λ_=>?_),aB]
 ·have hkb:k<b.dims.length:=by rw [h.ne];exact hk
  have ho:=h.offV (v:=k+1) (by omega);have e:off (lV a b) (k+1)=off (lV a b) k+lV a b k:=rfl;unfold pD;simp only;rw [jN hk,aI,sD 0 hk,aB,sD 0 hkb,aB,(h.ra.d k hk).1,(h.rb.d k hkb).1,h.lA hk,bT hk (by omega),cB (by omega),e];simp
 ·unfold pD;simp only;rw [kV (bJ _),aW];rfl
def aBO (a b:Rp) (i r k j:Nat):Nat→Nat→Int:=λv z=>if v=sV a i∧z % dN a v=k∧z / dN a v<j then aF b i r (z / dN a v) else 0
def aKq (a b:Rp) (i r k j:Nat):Nat→Nat→Int:=λv z=>if v=tV a i∧z / dN a v=r∧z % dN a v<j then (aBO a b i r k (dN b (sV a i)) v z - aF a i (z % dN a v) k) % a.p else aBO a b i r k (dN b (sV a i)) v z
theorem aNl (r c:Nat) (F:Nat→Nat→Int):bZ r c F++aAi c (F r)=bZ (r+1) c F:=by
 rw [←aGC c F r,←aGC c F (r+1),List.range_succ,List.map_append,List.flatten_append];simp
theorem aQi {a b:Rp} (h:Fit a b) {i r k:Nat} (hi:i<a.q.src.length) (hr:r<dN b (tV a i)) (hk:k<dN a (sV a i)) (x1 x2 x3:Int×List Int×Int) (e1:x1.2.2=i) (e2':x2.2.2=r) (e3:x3.2.2=k):
  ∃ y,Lp (gI a b (sV a i) x1 x2 x3) (List.replicate (nV a b) 0,0)=some y∧Lp (gJ a b (sV a i) (tV a i) x1 x2 x3) (y,0)=some (cat (lV a b) (e2 a b i (r*dN a (sV a i)+k)) a.dims.length):=by
 have hb:=jD h.ra.hp;have n5:=h.ra.n5;obtain ⟨s1,s2⟩:=h.ra.s i hi;obtain ⟨t1,t2⟩:=h.ra.t i hi;have s3:sV a i<b.dims.length:=by rw [h.ne];exact s2
 have t3:tV a i<b.dims.length:=by rw [h.ne];exact t2
 have hib:i<b.q.src.length:=by rw [h.qe];exact hi
 obtain ⟨m1,m2⟩:=h.ra.m i hi;obtain ⟨g1,g2⟩:=h.rb.m i hib;rw [h.sV,h.tV] at g1 g2;rw [h.pe] at g2;have da:=h.ra.d _ s2;have da2:=h.ra.d _ t2;have db:=h.rb.d _ s3;have db2:=h.rb.d _ t3;have oS:=h.offV (v:=sV a i+1) s2;have oT:=h.offV (v:=tV a i+1) t2;have eS:off (lV a b) (sV a i+1)=off (lV a b) (sV a i)+lV a b (sV a i):=rfl;have eT:off (lV a b) (tV a i+1)=off (lV a b) (tV a i)+lV a b (tV a i):=rfl;refine ⟨cat (lV a b) (aBO a b i r k (dN b (sV a i))) a.dims.length,?_,?_⟩
 ·refine dR (λj=>(cat (lV a b) (aBO a b i r k j) a.dims.length,(j:Int))) (dN b (sV a i)) ?_ (λj hj=>?_) (λ_=>?_)
  ·unfold nV;rw [aKK];congr 1;exact zO λv z _ _=>by unfold aBO;rw [aO λq=>absurd q.2.2 (Nat.not_lt_zero _)]
  ·have hz:j*dN a (sV a i)+k<lV a b (sV a i):=aFX hj hk
   have hpos:wr (wr (((off (lV a b) (sV a i):Nat):Int)+wr ((j:Int)*(dN a (sV a i):Int)))+(k:Int))=((off (lV a b) (sV a i)+(j*dN a (sV a i)+k):Nat):Int):=by
    rw [aGr (by omega),cB (x:=((off (lV a b) (sV a i):Nat):Int)+((j*dN a (sV a i):Nat):Int)) (by omega),cB (by omega)];omega
   have hw:=g2 r j hr hj;unfold gI;simp only [e1,e2',e3];rw [sD 0 s3,aB,db.1,jN hj,aI,aMm h (by omega),aB,sD 0 s2,aB,da.1,hpos,dY (by rw [gK];exact tF s2 hz)];rw [aB,sD ⟨0,0,[]⟩ (by rw [h.rb.ml];exact hib),aB,aB,g1];simp only;rw [atT (sq db2.2 db.2) hr hj,aB]
   have hv0:(cat (lV a b) (aBO a b i r k j) a.dims.length)[off (lV a b) (sV a i)+(j*dN a (sV a i)+k)]'(by rw [gK];exact tF s2 hz)=0:=by
    have:=pZ (aBO a b i r k j) s2 hz;rw [gS (by rw [gK];exact tF s2 hz)] at this;rw [Option.some.inj this];unfold aBO;rw [aO];rw [aAL hk];omega
   rw [hv0,Int.zero_add,cB (by omega),aAQ h.ra.hp (by omega),aB,aB,cO,aIt s2 hz,bT hj (by omega),Int.emod_eq_of_lt hw.1 hw.2];congr 3;refine zO λv z hv hz2=>?_;by_cases e:v=sV a i∧z=j*dN a (sV a i)+k
   ·obtain ⟨rfl,rfl⟩:=e;rw [aP ⟨rfl,rfl⟩];unfold aBO;rw [aAL hk,aAM hk,aP ⟨rfl,rfl,Nat.lt_succ_self _⟩]
   ·rw [aO e];unfold aBO;by_cases e4:v=sV a i∧z % dN a v=k∧z / dN a v<j
    ·rw [aP e4,aP ⟨e4.1,e4.2.1,by omega⟩]
    ·rw [aO e4,aO];rintro ⟨q1,q2,q3⟩
     have q4:z / dN a v=j:=by
      rcases dI (z / dN a v) j with h'|h'
      ·exact absurd ⟨q1,q2,h'⟩ e4
      ·omega
     refine e ⟨q1,?_⟩;rw [←@xZ (dN a v) z,q4,q2,q1]
  ·unfold gI;simp only [e1,e2',e3];rw [sD 0 s3,aB,db.1,kV (bJ _),aW]
 ·refine dR (λj=>(cat (lV a b) (aKq a b i r k j) a.dims.length,(j:Int))) (dN a (tV a i)) ?_ (λj hj=>?_) (λ_=>?_)
  ·congr 1;exact zO λv z _ _=>by unfold aKq;rw [aO λq=>absurd q.2.2 (Nat.not_lt_zero _)]
  ·have hz:r*dN a (tV a i)+j<lV a b (tV a i):=aFX hr hj
   have hpos:wr (wr (((off (lV a b) (tV a i):Nat):Int)+wr ((r:Int)*(dN a (tV a i):Int)))+(j:Int))=((off (lV a b) (tV a i)+(r*dN a (tV a i)+j):Nat):Int):=by
    rw [aGr (by omega),cB (x:=((off (lV a b) (tV a i):Nat):Int)+((r*dN a (tV a i):Nat):Int)) (by omega),cB (by omega)];omega
   have hw:=m2 j k hj hk;unfold gJ;simp only [e1,e2',e3];rw [sD 0 t2,aB,da2.1,jN hj,aI,aMm h (by omega),aB,aB,hpos,dY (by rw [gK];exact tF t2 hz)];rw [aB,sD ⟨0,0,[]⟩ (by rw [h.ra.ml];exact hi),aB,sD 0 s2,aB,m1,da.1];simp only;rw [atT (sq da2.2 da.2) hj hk,aB]
   have hv0:(cat (lV a b) (aKq a b i r k j) a.dims.length)[off (lV a b) (tV a i)+(r*dN a (tV a i)+j)]'(by rw [gK];exact tF t2 hz)=aBO a b i r k (dN b (sV a i)) (tV a i) (r*dN a (tV a i)+j):=by
    have:=pZ (aKq a b i r k j) t2 hz;rw [gS (by rw [gK];exact tF t2 hz)] at this;rw [Option.some.inj this];unfold aKq;rw [aO];rw [aAM hj];omega
   have hbA:0≤aBO a b i r k (dN b (sV a i)) (tV a i) (r*dN a (tV a i)+j)∧aBO a b i r k (dN b (sV a i)) (tV a i) (r*dN a (tV a i)+j)≤5:=by
    unfold aBO;split
    ·rename_i q;have:=g2 r ((r*dN a (tV a i)+j) / dN a (tV a i)) hr q.2.2;omega
    ·omega
   rw [hv0];generalize hA:aBO a b i r k (dN b (sV a i)) (tV a i) (r*dN a (tV a i)+j)=A at*;rw [cB (x:=A - aF a i j k) (by omega),aAQ h.ra.hp (by omega),aB,aB,cO,aIt t2 hz,bT hj (by omega)];congr 3;refine zO λv z hv hz2=>?_;by_cases e:v=tV a i∧z=r*dN a (tV a i)+j
   ·obtain ⟨rfl,rfl⟩:=e;rw [aP ⟨rfl,rfl⟩];unfold aKq;rw [aAL hj,aAM hj,aP ⟨rfl,rfl,Nat.lt_succ_self _⟩,hA]
   ·rw [aO e];unfold aKq;by_cases e4:v=tV a i∧z / dN a v=r∧z % dN a v<j
    ·rw [aP e4,aP ⟨e4.1,e4.2.1,by omega⟩]
    ·rw [aO e4,aO];rintro ⟨q1,q2,q3⟩
     have q4:z % dN a v=j:=by
      rcases dI (z % dN a v) j with h'|h'
      ·exact absurd ⟨q1,q2,h'⟩ e4
      ·omega
     refine e ⟨q1,?_⟩;rw [←@xZ (dN a v) z,q4,q2,q1]
  ·unfold gJ;simp only [e1,e2',e3];rw [sD 0 t2,aB,da2.1,kV (bJ _),aW];congr 2;refine zO λv z hv hz2=>?_;have hzb:z<dN b v*dN a v:=hz2;obtain ⟨q1,q2⟩:=aCI hzb
   have eA:aBO a b i r k (dN b (sV a i)) v z=if sV a i=v∧k=z % dN a v then aF b i r (z / dN a v) else 0:=by
    unfold aBO;by_cases e:sV a i=v∧k=z % dN a v
    ·rw [aP e,aP ⟨e.1.symm,e.2.symm,by rw [e.1];exact q1⟩]
    ·rw [aO e,aO λq=>e ⟨q.1.symm,q.2.1.symm⟩]
   unfold aKq e2 eF;rw [eA,aAL hk,aAM hk];by_cases e:tV a i=v∧r=z / dN a v
   ·rw [aP ⟨e.1.symm,e.2.symm,by rw [e.1];exact q2⟩,aP e]
   ·rw [aO λq=>e ⟨q.1.symm,q.2.1.symm⟩,aO e,Int.sub_zero];split
    ·rename_i q;have hw:=g2 r (z / dN a v) hr (by rw [q.1];exact q1);exact (Int.emod_eq_of_lt hw.1 hw.2).symm
    ·simp
theorem aSA {a b:Rp} {i y:Nat} (hi:i<a.q.src.length) (hy:y<lE a b i):cat (lV a b) (e2 a b i y) a.dims.length=aAi (nV a b) (mE a b (off (lE a b) i+y)):=by
 symm;refine aCw (by rw [nY];rfl) λv z hv hz=>?_;have hk:off (lV a b) v+z<nV a b:=tF hv hz;unfold aAi;rw [List.getElem?_map,List.getElem?_range hk,Option.map_some];congr 1;unfold mE;rw [pZ _ hi hy,oW,pZ _ hv hz,oW]
theorem aGl {a b:Rp} (h:Fit a b):lJ a b=some ⟨nE a b,nV a b,bZ (nE a b) (nV a b) (mE a b)⟩:=by
 have n5:=h.ra.n5;have e6:=h.ra.e6;have bV:=h.offV (bJ _);have bE:=h.offE (bJ _);have tl:=h.ra.tl;have ml:=h.ra.ml;have hV:nV a b≤80:=bV;unfold lJ;rw [aNk h,aB];rw [dR (r:=((nE a b:Int),bZ (nE a b) (nV a b) (mE a b))) (λi=>(((off (lE a b) i:Nat):Int),bZ (off (lE a b) i) (nV a b) (mE a b),(i:Int))) a.q.src.length (by simp [off,bZ]) (λi hi=>?_) (λ_=>?_),aB]
 ·obtain ⟨s1,s2⟩:=h.ra.s i hi;obtain ⟨t1,t2⟩:=h.ra.t i hi;have t3:tV a i<b.dims.length:=by rw [h.ne];exact t2
  have da:=h.ra.d _ s2;have db2:=h.rb.d _ t3;have oE:=h.offE (i:=i+1) hi;have eE:off (lE a b) (i+1)=off (lE a b) i+dN b (tV a i)*dN a (sV a i):=rfl;unfold jH;simp only;rw [ml,jN hi,aI,sD 0 hi,aB,s1,sD 0 (by omega),aB,t1];rw [dR (r:=(((off (lE a b) (i+1):Nat):Int),bZ (off (lE a b) (i+1)) (nV a b) (mE a b))) (λr=>(((off (lE a b) i+r*dN a (sV a i):Nat):Int),bZ (off (lE a b) i+r*dN a (sV a i)) (nV a b) (mE a b),(r:Int))) (dN b (tV a i)) (by simp) (λr hr=>?_) (λ_=>?_),aB,bT hi (by omega)]
  ·unfold jG;simp only;rw [sD 0 t3,aB,db2.1,jN hr,aI];rw [dR (r:=(((off (lE a b) i+(r+1)*dN a (sV a i):Nat):Int),bZ (off (lE a b) i+(r+1)*dN a (sV a i)) (nV a b) (mE a b))) (λk=>(((off (lE a b) i+r*dN a (sV a i)+k:Nat):Int),bZ (off (lE a b) i+r*dN a (sV a i)+k) (nV a b) (mE a b),(k:Int))) (dN a (sV a i)) (by simp) (λk hk=>?_) (λ_=>?_),aB,bT hr (by omega)]
   ·unfold jF;simp only;have hy:r*dN a (sV a i)+k<lE a b i:=aFX hr hk;have hx:off (lE a b) i+(r*dN a (sV a i)+k)<nE a b:=tF hi hy;have hx2:nE a b≤96:=bE;have hsz:(off (lE a b) i+r*dN a (sV a i)+k)*nV a b≤96*80:=Nat.mul_le_mul (by omega) hV;rw [sD 0 s2,aB,da.1,jN hk,aI,bF (by omega),bF (by omega:(nV a b:Int)≤1048576),Bool.and_self,aI,cO];obtain ⟨y,y1,y2⟩:=aQi h hi hr hk (((off (lE a b) i:Nat):Int),bZ (off (lE a b) i) (nV a b) (mE a b),(i:Int)) (((off (lE a b) i+r*dN a (sV a i):Nat):Int),bZ (off (lE a b) i+r*dN a (sV a i)) (nV a b) (mE a b),(r:Int)) (((off (lE a b) i+r*dN a (sV a i)+k:Nat):Int),bZ (off (lE a b) i+r*dN a (sV a i)+k) (nV a b) (mE a b),(k:Int)) rfl rfl rfl;rw [y1,aB,y2,aB,aSA hi hy,iE,nY,bF (by omega),aI,bT hk (by omega),cB (by omega),←Nat.add_assoc,aNl];congr 2
   ·unfold jF;simp only;rw [sD 0 s2,aB,da.1,kV (bJ _),aW,Nat.succ_mul,Nat.add_assoc]
  ·unfold jG;simp only;rw [sD 0 t3,aB,db2.1,kV (bJ _),aW,eE]
 ·unfold jH;simp only;rw [ml,kV (bJ _),aW];rfl
theorem aLs {a b:Rp} (h:Fit a b) {x:List Int} (hx:x.length=nV a b): ∃ r,rM a b x=some r:=by
 have n5:=h.ra.n5;have bV:=h.offV (bJ _);have hV:nV a b≤80:=bV;refine ⟨(List.range a.dims.length).map λv=>(⟨dN b v,dN a v,(x.drop (off (lV a b) v)).take (lV a b v)⟩:Mt),?_⟩;unfold rM;rw [dR (r:=(List.range a.dims.length).map λv=>(⟨dN b v,dN a v,(x.drop (off (lV a b) v)).take (lV a b v)⟩:Mt)) (λk=>((List.range k).map (λv=>(⟨dN b v,dN a v,(x.drop (off (lV a b) v)).take (lV a b v)⟩:Mt)),((off (lV a b) k:Nat):Int),(k:Int))) a.dims.length (by simp [off]) (λk hk=>?_) (λ_=>?_),aB]
 ·have hkb:k<b.dims.length:=by rw [h.ne];exact hk
  have ho:= @yN (lV a b) (k+1) a.dims.length hk;have e:off (lV a b) (k+1)=off (lV a b) k+lV a b k:=rfl;unfold nJ;simp only
  rw [jN hk,aI,sD 0 hk,aB,sD 0 hkb,aB,aB,aB,(h.ra.d k hk).1,(h.rb.d k hkb).1,h.lA hk,cB (x:=((off (lV a b) k:Nat):Int)+((lV a b k:Nat):Int)) (by omega),hx,
   bF (by omega),bF (by omega:((off (lV a b) k:Nat):Int)≤((off (lV a b) k:Nat):Int)+((lV a b k:Nat):Int)),bF (by unfold nV;omega:((off (lV a b) k:Nat):Int)+((lV a b k:Nat):Int)≤((nV a b:Nat):Int)),Bool.and_self,Bool.and_self,aI,
   show (((off (lV a b) k:Nat):Int)+((lV a b k:Nat):Int)).toNat - ((off (lV a b) k:Nat):Int).toNat=lV a b k by omega,cO]
  have q2:decide (((List.range k).map λv=>(⟨dN b v,dN a v,(x.drop (off (lV a b) v)).take (lV a b v)⟩:Mt)).length +1≤4294967296)=true:=bF (by simp only [dE,List.length_range];omega);have q1:decide (([]:List Int).length +((x.drop (off (lV a b) k)).take (lV a b k)).length ≤4294967296)=true:=bF (by simp only [List.length_nil,List.length_take,List.length_drop];omega);rw [q1,aI,q2,aI,List.nil_append,bT hk (by omega),zP (f:=λv=>(⟨dN b v,dN a v,(x.drop (off (lV a b) v)).take (lV a b v)⟩:Mt)),e];simp
 ·unfold nJ;simp only;rw [kV (bJ _),aW]
end
noncomputable section
def aGm (a b:Rp):Bool:=aAh a&&(aAh b&&(decide (a.p=b.p)&&decide (a.q=b.q)))
theorem aPZ {a b:Rp} (h:aGm a b=true):Fit a b:=by
 unfold aGm at h;simp only [cU,iK] at h;exact aOo h.1 h.2.1 h.2.2.1 h.2.2.2
theorem aPa {a:Rp} (h:aAh a=true):Fit a a:=aOo h h rfl rfl
def hdI (a b:Rp):Int:=if aGm a b=true then (aOq a b:Int) else -1
theorem aLt {a b:Rp} (ha:bR a) (hb:bR b): ∃ l,rN a b=some (l,aGm a b)∧(aGm a b=true→l.length=aOq a b):=by
 unfold rN;rw [aQJ ha hb,aB];cases hf:aAh a&&(aAh b&&(decide (a.p=b.p)&&decide (a.q=b.q))) with
 |false=>
  refine ⟨[],?_,λh=>by unfold aGm at h;rw [hf] at h;cases h⟩;unfold aGm;rw [hf];rfl
 |true=>
  have h:=aPZ hf;have bV:=h.offV (bJ _);have hV:nV a b≤80:=bV;have hl:=aPY h.ra.hp (aQy h)
  have hkl: ∀ v∈aLH a.p (nV a b) (dZ a.p (nE a b) (mE a b) (nV a b)).1 (dZ a.p (nE a b) (mE a b) (nV a b)).2,v.length=nV a b:=by
   intro v hv;unfold aLH at hv;obtain ⟨k,_,rfl⟩:=List.mem_map.1 hv;exact aFY _ _ _ _ _ _
  rw [iC,aW,aGl h,aB,aLr (aQz h),aB];generalize aLH a.p (nV a b) (dZ a.p (nE a b) (mE a b) (nV a b)).1 (dZ a.p (nE a b) (mE a b) (nV a b)).2=K at*;have key:=aCd (body:=nK a b K) (s:=(([]:List (List Mt)),0)) (λs=>s.2=(s.1.length:Int)∧s.1.length≤K.length) (λs=>K.length - s.1.length) (λr=>r.length=K.length) ⟨rfl,Nat.zero_le _⟩ (λs ⟨h1,h2⟩=>?_)
  ·obtain ⟨r,h1,h2⟩:=key;rw [h1,aB];exact ⟨r,by unfold aGm;rw [hf],λ_=>by rw [h2,hl];rfl⟩
  ·obtain ⟨l,j⟩:=s;simp only at h1 h2;subst h1;unfold nK;simp only;rcases dI l.length K.length with hlt|hge
   ·obtain ⟨r,hr⟩:=aLs h (hkl _ (List.getElem_mem hlt));rw [jN hlt,aI,dY hlt,aB,hr,aB,bF (by omega),aI,bT hlt (by omega)];exact .inl ⟨_,rfl,⟨by simp,by simp;omega⟩,by simp;omega⟩
   ·rw [kV hge,aW];exact .inr ⟨_,rfl,by omega⟩
theorem aNm {a b:Rp} (ha:bR a) (hb:bR b):qS a b=some (hdI a b):=by
 obtain ⟨l,h1,h2⟩:=aLt ha hb;unfold qS hdI;rw [h1,aB];cases hf:aGm a b with
 |false=>rfl
 |true=>rw [aP rfl,←h2 hf];rfl
end
noncomputable section
def fXd (x:List Int) (v:Nat):Nat:=(x[v]?.getD 0).toNat
def sXq (q:Qv) (i:Nat):Nat:=(q.src[i]?.getD 0).toNat
def tXq (q:Qv) (i:Nat):Nat:=(q.tgt[i]?.getD 0).toNat
def rXq (q:Qv) (x:List Int) (i:Nat):Int:=(fXd x (tXq q i):Int)
def cXq (q:Qv) (x:List Int) (i:Nat):Int:=(fXd x (sXq q i):Int)
def lXq (q:Qv) (x:List Int) (i:Nat):Nat:=fXd x (tXq q i)*fXd x (sXq q i)
def uN (p:Int) (q:Qv) (x:List Int) (F:Nat→Nat→Int):Rp:=⟨p,q,x,vW q.src.length (rXq q x) (cXq q x) (lXq q x) F⟩
structure RX (q:Qv) (x:List Int):Prop where
 n5:x.length≤5
 eq:q.tgt.length=q.src.length
 m6:q.src.length≤6
 d: ∀ v,v<x.length→x[v]?.getD 0=(fXd x v:Int)
 d4: ∀ v,fXd x v≤4
 s: ∀ i,i<q.src.length→q.src[i]?.getD 0=(sXq q i:Int)∧sXq q i<x.length
 t: ∀ i,i<q.src.length→q.tgt[i]?.getD 0=(tXq q i:Int)∧tXq q i<x.length
theorem aRJ {q:Qv} {x:List Int} (h:aBG q x=true):RX q x:=by
 obtain ⟨hQ,hd1,hd2,_⟩:=vH h;obtain ⟨n,hn,hn1,hn5,hq1,hq2,hq3,hq4⟩:=xV hQ;refine ⟨by omega,by omega,hq2,λv hv=>?_,λv=>?_,λi hi=>?_,λi hi=>?_⟩
 ·have:=hd2 _ (tB 0 hv);unfold fXd;omega
 ·unfold fXd;by_cases hv:v<x.length
  ·have:=hd2 _ (tB 0 hv);omega
  ·rw [fR (by omega)];exact Nat.zero_le _
 ·have:=hq3 _ (tB 0 hi);unfold sXq;omega
 ·have:=hq4 _ (tB 0 (show i<q.tgt.length by omega));unfold tXq;omega
theorem RX.l16 {q:Qv} {x:List Int} (X:RX q x) (i:Nat):lXq q x i≤16:=Nat.mul_le_mul (X.d4 _) (X.d4 _)
theorem RX.off {q:Qv} {x:List Int} (X:RX q x): ∀ k,off (lXq q x) k≤16*k
 |0=>bJ _
 |k+1=>by
  have h1:=X.off k;have h2:=X.l16 k;have e:Proofs.YtpppcfhgaehcjaaGreat.off (lXq q x) (k+1)=Proofs.YtpppcfhgaehcjaaGreat.off (lXq q x) k+lXq q x k:=rfl;omega
theorem aPd {p:Int} {q:Qv} {x:List Int} (hp:xD p=true) (hD:aBG q x=true) {F:Nat→Nat→Int} (hF: ∀ v y,0≤F v y∧F v y≤1):aAh (uN p q x F)=true:=by
 have X:=aRJ hD;unfold aAh;simp only [cU,iK,tU];refine ⟨hp,hD,by simp [uN,vW],λi hi=>?_⟩;have hi':i<q.src.length:=by simpa [uN,vW] using hi
 have e:(uN p q x F).maps[i]?.getD ⟨0,0,[]⟩=⟨rXq q x i,cXq q x i,(List.range (lXq q x i)).map (F i)⟩:=by
  unfold uN vW;simp [hi']
 have h1:=X.d4 (tXq q i);have h2:=X.d4 (sXq q i);have hl:=X.l16 i;rw [e];refine ⟨?_,?_,?_⟩
 ·unfold aIl;simp only [cU,iK,List.all_eq_true];have hb:=jD hp;refine ⟨aFU (by unfold rXq;omega) (by unfold rXq;omega),aFU (by unfold cXq;omega) (by unfold cXq;omega),?_,⟨hp,by simp;omega⟩,λz hz=>?_⟩
  ·show (((List.range (lXq q x i)).map (F i)).length:Int)=wr ((fXd x (tXq q i):Int)*(fXd x (sXq q i):Int));unfold lXq at hl;rw [aGr (by omega),dE,List.length_range];rfl
  ·obtain ⟨y,_,rfl⟩:=List.mem_map.1 hz;have:=hF i y;refine aFU this.1 ?_;show F i y≤wr (p - 1);rw [cB (by omega)];omega
 ·exact (X.d _ (X.s i hi').2).symm
 ·exact (X.d _ (X.t i hi').2).symm
theorem aLu {p:Int} {q:Qv} {x:List Int} (hb:bQ q) (X:RX q x) {F:Nat→Nat→Int} :bR (uN p q x F):=by
 refine ⟨hb,?_,⟨?_,λm hm=>?_⟩,trivial⟩
 ·show x.length≤1048576;have:=X.n5;omega
 ·show (vW q.src.length (rXq q x) (cXq q x) (lXq q x) F).length ≤1048576;rw [aBe];have:=X.m6;omega
 ·obtain ⟨v,_,rfl⟩:=List.mem_map.1 hm;refine ⟨?_,trivial⟩;show ((List.range (lXq q x v)).map (F v)).length ≤1048576;have:=X.l16 v;rw [dE,List.length_range];omega
theorem aRK {α:Type} (k:Nat) (f:Nat→α):(List.range k).map f++[f k]=(List.range (k+1)).map f:=by rw [List.range_succ,List.map_append];rfl
theorem aQj (p:Int) {q:Qv} {x:List Int} (hb:bQ q) (X:RX q x):tJ p q x=some (uN p q x λ_ _=>0):=by
 have h1:q.src.length≤1048576:=hb.1;have h2:q.tgt.length≤1048576:=hb.2.1;have h5:=X.n5;have h6:=X.m6;have hc: ∀ {l:List Int},l.length≤1048576→pP l=some l:=λh=>by unfold pP;rw [bF h,aI]
 unfold tJ qI;simp only [hc h1,hc h2,hc (show x.length≤1048576 by omega),aB];rw [dR (r:=vW q.src.length (rXq q x) (cXq q x) (lXq q x) λ_ _=>0) (λk=>(vW k (rXq q x) (cXq q x) (lXq q x) λ_ _=>0,(k:Int))) q.src.length (by rfl) (λi hi=>?_) (λ_=>?_),aB]
 ·rfl
 ·have s1:=X.s i hi;have t1:=X.t i hi;have hl:=X.l16 i;unfold lXq at hl;unfold pG;simp only;rw [jN hi,aI,sD 0 hi,aB,sD 0 (by rw [X.eq];exact hi),aB,t1.1,sD 0 t1.2,aB,s1.1,sD 0 s1.2,aB,X.d _ s1.2,X.d _ t1.2,aFv (by omega),aB,aBe,bF (by omega),aI,bT hi (by omega)];unfold vW;rw [←aRK];rfl
 ·unfold pG;simp only;rw [kV (bJ _),aW]
theorem aNn (p:Int) {q:Qv} {x:List Int} (hb:bQ q) (X:RX q x):uY p q x=some (uN p q x λ_ _=>0):=by
 have h1:q.src.length≤1048576:=hb.1;have h2:q.tgt.length≤1048576:=hb.2.1;have h5:=X.n5;have h6:=X.m6
 have hq:uX q=some q:=by
  unfold uX;rw [bF (by simp;omega),aI,bF (by simp;omega),aI];simp
 unfold uY;rw [hq,aB,bF (by simp;omega),aI,List.nil_append];rw [dR (r:=vW q.src.length (rXq q x) (cXq q x) (lXq q x) λ_ _=>0) (λk=>(vW k (rXq q x) (cXq q x) (lXq q x) λ_ _=>0,(k:Int))) q.src.length (by rfl) (λi hi=>?_) (λ_=>?_),aB]
 ·rfl
 ·have s1:=X.s i hi;have t1:=X.t i hi;have hl:=X.l16 i;unfold lXq at hl;unfold qD;simp only;rw [jN hi,aI,sD 0 (by rw [X.eq];exact hi),aB,t1.1,sD 0 t1.2,aB,sD 0 hi,aB,s1.1,sD 0 s1.2,aB,X.d _ s1.2,X.d _ t1.2,aOk (by omega),aB,aBe,bF (by omega),aI,bT hi (by omega)];unfold vW;rw [←aRK];rfl
 ·unfold qD;simp only;rw [kV (bJ _),aW]
theorem aSB (l:Nat→Nat) (N code:Nat): ∀ v y,0≤dgM l N code v y∧dgM l N code v y≤1:=λv y=>by
 unfold dgM dg;omega
theorem aNo {N:Nat} (h:N≤1048576):aGL (List.replicate N 1)=true:=by
 unfold aGL;simp only [cU,List.all_eq_true,iK,List.length_replicate];refine ⟨λm hm=>?_,h⟩;rw [List.eq_of_mem_replicate hm];decide
def emR:Rp:=⟨0,⟨0,[],[]⟩,[],[]⟩
theorem aNp (p:Int) {q:Qv} (hb:bQ q) {x:List Int} (hx:bI x): ∃ r b,tK p q x=some (r,b)∧tL p q x=some (r,b)∧((b=false∧r=emR)∨(b=true∧aAh r=true∧bR r∧xD p=true∧r.dims=x)):=by
 obtain ⟨c,c1,c2,_⟩:=aPW hb x;unfold tK tL;rw [aEu,aCp,c1,c2,aLU hb hx,aFu hb hx];simp only [aB];cases hp:xD p with
 |false=>exact ⟨emR,false,rfl,rfl,.inl ⟨rfl,rfl⟩⟩
 |true=>
  cases c with
  |false=>exact ⟨emR,false,rfl,rfl,.inl ⟨rfl,rfl⟩⟩
  |true=>
   cases hD:aBG q x with
   |false=>exact ⟨emR,false,rfl,rfl,.inl ⟨rfl,rfl⟩⟩
   |true=>
    have X:=aRJ hD;have h6:=X.m6;simp only [iC,aW];rw [aQj p hb X,aNn p hb X];simp only [aB];obtain ⟨N,hN⟩: ∃ N,N=off (lXq q x) q.src.length:=⟨_,rfl⟩;have hN96:N≤96:=by have:=X.off q.src.length;omega
    have hfl:iH (uN p q x λ_ _=>0).maps=some (cat (lXq q x) (λ_ _=>0) q.src.length):=aIu (by omega) (by omega);have hL1:Lp iR ((uN p q x λ_ _=>0).maps,0,0)=some ((uN p q x λ_ _=>0).maps,(N:Int)):=aRj (by omega) hN.symm (by omega);rw [hfl,hL1];simp only [aB,gK,←hN];by_cases h10:N≤10
    ·obtain ⟨P,hP⟩: ∃ P:Nat→Bool,P=λcode=>decide ((aOq (uN p q x (dgM (lXq q x) N code)) (uN p q x (dgM (lXq q x) N code)):Int)=1):=⟨_,rfl⟩;have hr: ∀ code,aAh (uN p q x (dgM (lXq q x) N code))=true:=λcode=>aPd hp hD (aSB _ _ _);obtain ⟨Y,hY⟩:=aSj (p:=p) (q:=q) (d:=x) (r:=rXq q x) (c:=cXq q x) (P:=P) (G:=λ_ _=>0) (show q.src.length≤1000 by omega) hN.symm h10 (λcode _=>⟨_,aOr (aPa (hr code)),by rw [hP];rfl⟩) (2 ^ N) 0 (uN p q x λ_ _=>0).maps (Nat.zero_add _)
     have hS:=aRk (p:=p) (q:=q) (d:=x) (r:=rXq q x) (c:=cXq q x) (P:=P) (X:=(uN p q x λ_ _=>0).maps) (z:=(uN p q x λ_ _=>0).maps) (show q.src.length≤1000 by omega) hN.symm h10 (λcode _=>⟨_,aNm (aLu hb X) (aLu hb X),by
      have hf:aGm (uN p q x (dgM (lXq q x) N code)) (uN p q x (dgM (lXq q x) N code))=true:=by unfold aGm;simp [hr code]
      rw [hP];show decide (hdI (uN p q x (dgM (lXq q x) N code)) (uN p q x (dgM (lXq q x) N code))=1)=_;unfold hdI
      rw [aP hf]⟩) (2 ^ N) 0 (λ_ _=>0) (Nat.zero_add _)
     rw [←List.range_eq_range',←aGT] at hY;rw [dQ (by omega),bF (by omega),bF (by omega),cO,aNo (by omega)];simp only [Bool.and_self,aI,aW];have e1:Fl (iQ (uN p q x λ_ _=>0)) (cJ (List.replicate N 1)) (uN p q x λ_ _=>0).maps=_:=hY;have e2:Lp (fP (uN p q x λ_ _=>0) ((uN p q x λ_ _=>0).maps,(N:Int))) ((uN p q x λ_ _=>0).maps,0)=_:=hS;rw [e1,e2];simp only [aB];unfold aGW;cases (List.range' 0 (2 ^ N)).find? P with
     |none=>exact ⟨emR,false,rfl,rfl,.inl ⟨rfl,rfl⟩⟩
     |some code=>exact ⟨uN p q x (dgM (lXq q x) N code),true,rfl,rfl,.inr ⟨rfl,hr code,aLu hb X,trivial,rfl⟩⟩
    ·refine ⟨emR,false,?_,?_,.inl ⟨rfl,rfl⟩⟩
     ·rw [bF (by omega)];rfl
     ·rw [eN (r:= .inl ()) (by unfold fP;simp only;rw [dQ (by omega),aW])];rfl
end
noncomputable section
set_option maxRecDepth 10000
set_option maxHeartbeats 4000000
def nM (x1:((List Int)×Int×Int)):Option (((List Int)×Int×Int) ⊕ ((List Int)×Int)):=
 bif decide (x1.2.2<((x1.1.length:Nat):Int)) then
 ((cE x1.1 x1.2.2).bind λv2=>
 some (.inl ((x1.1.set x1.2.2.toNat x1.2.1),wr (x1.2.1+1),wr (x1.2.2+1))))
 else
 (some (.inr (x1.1,x1.2.1)))
def fV (a0:(List Int)) (a1:Int):Option ((List Int)×Int):=
 (Lp nM (a0,a1,0)).bind λy3=>
 some (y3.1,y3.2)
theorem kK (a0:(List Int)) (a1:Int) (r:((List Int)×Int)) (h:fV a0 a1=some r):HasE Tryz.prog 20 [.own 0 0 a0.length,.int a1] [(0,⟨1,a0.map (ow eI)⟩)] 1 (.int r.2) [(0,⟨1,r.1.map (ow eI)⟩)]:=by
 refine sU aH (rvs:=[.tmp 4]) (ns:=nmA.drop 1) Tryz.func20 k k Tryz.ntmps20 k k<|sR<|aT k2<|sQ<|sR<|aT k2<|aC<|oB h λy3 hy3 h=>bW (body:=nM) hy3 (λ(x1:((List Int)×Int×Int))=>mN [(0,.own 0 0 x1.1.length),(1,.int x1.2.1),(5,.int x1.2.2)] [(0,⟨1,x1.1.map (ow eI)⟩)] 1 1) (λr e t=>e= .exit 0∧Ent t (mN [(1,.int r.2)] [(0,⟨1,r.1.map (ow eI)⟩)] 1 1)) (bK (bH k2) (bS k<|aR) k4) ?_ ?_
 ·intro x1 o h;exact sQ<|sR<|am k k<|am k k<|ae (cW aH k k k k) k<|cm k4<|an<|tn<|dJ k h (λ_ h=>aD<|tn<|sQ<|aC<|sR<|am k k<|am k k<|am k k<|oB h λv2 hv2 h=>ae (xo hv2 k) k<|ae (eJ aH kL (u:=x1.2.1) (dC hv2) k k k k k k) k<|an<|tn<|rg<|am k k<|ae (bC k k) k<|aa k k<|an<|aS<|tn<|rg<|am k k<|ae (bC k k) k<|aT k2<|sp h ⟨_,k,(bK (jP ⟨_,k,⟨k,k,(by simp only [aL,lA,lT,lR,lC,lN]),k⟩⟩ (bH k2)) (bS k<|aR) k4)⟩) λ_ h=>aX<|aA<|aA<|sp h ⟨_,k,k,(bK (bH k2) (bS k<|aR) k4)⟩
 ·rintro e t ⟨rfl,hent⟩;exact aJ<|tn<|aM hent<|sR<|am k k<|aT k2<|aG<|sp h ⟨mN [(4,.int y3.2)] [(0,⟨1,y3.1.map (ow eI)⟩)] 1 1,(bK (bH k2) (bS k<|aR) k4),k,⟨_,k,.inl k⟩,⟨k,aR⟩⟩
def pH (a0:Qv) (a1:Int):Option ((List Int)×(List Int)×Int):=
 (fV a0.src a1).bind λv1=>
 bif decide (v1.1.length=a0.src.length) then
 ((fV a0.tgt v1.2).bind λv3=>
 bif decide (v3.1.length=a0.tgt.length) then
 (some (v1.1,v3.1,v3.2))
 else none)
 else none
theorem aDH (a0:Qv) (a1:Int) (r:((List Int)×(List Int)×Int)) (h:pH a0 a1=some r):HasE Tryz.prog 12 [.agg [.int a0.n,.own 0 0 a0.src.length,.own 1 0 a0.tgt.length],.int a1] [(0,⟨1,a0.src.map (ow eI)⟩),(1,⟨1,a0.tgt.map (ow eI)⟩)] 2 (.int r.2.2) [(0,⟨1,r.1.map (ow eI)⟩),(1,⟨1,r.2.1.map (ow eI)⟩)]:=by
 refine sU aH (rvs:=[.tmp 4]) (ns:=nmA.drop 2) Tryz.func12 k k Tryz.ntmps12 k k<|sR<|ae (wb k) k<|aT k2<|sR<|fp k8<|lp k8<|am k k<|oB h λv1 hv1 h=>ae (iG (σ:=sg [(0,0)]) (σ':=sg [(0,0)]) (touch:=[0]) (news:=[]) (hl2:=[(0,⟨1,v1.1.map (ow eI)⟩)]) (n':=3) (r2:= .int v1.2) (kK a0.src a1 v1 hv1) k k ⟨_,_,k,⟨k,k,k,k⟩,⟨_,_,k,k,k⟩⟩ ⟨⟨_,k,k,.inl ⟨k,dD.plainO _⟩⟩,k,aR⟩ k k k ⟨⟨_,k,k,.inl ⟨k,dD.plainO _⟩⟩,k,aR⟩ k k k ⟨k,dD.tame _ _,aR⟩ k k) k<|cG h λq2 h=>aT k2<|sR<|fp k8<|lp k8<|am k k<|oB h λv3 hv3 h=>ae (iG (σ:=sg [(0,1)]) (σ':=sg [(1,0)]) (touch:=[1]) (news:=[]) (hl2:=[(1,⟨1,v3.1.map (ow eI)⟩)]) (n':=3) (r2:= .int v3.2) (kK a0.tgt v1.2 v3 hv3) k k ⟨_,_,k,⟨k,k,k,k⟩,⟨_,_,k,k,k⟩⟩ ⟨⟨_,k,k,.inl ⟨k,dD.plainO _⟩⟩,k,aR⟩ k k k ⟨⟨_,k,k,.inl ⟨k,dD.plainO _⟩⟩,k,aR⟩ k k k ⟨k,dD.tame _ _,aR⟩ k k) k<|cG h λq4 h=>aT k2<|sR<|am k k<|aa k k<|an ?_;exact tn<|aG<|sp h ⟨mN [(4,.int v3.2)] [(0,⟨1,v1.1.map (ow eI)⟩),(1,⟨1,v3.1.map (ow eI)⟩)] 2 2,(bK (bH k2) (bS k<|bS k<|aR) k4),k,⟨_,k,.inl k⟩,⟨k,k,aR⟩⟩
def kG (x1:((List Mt)×Int×Int)):Option (((List Mt)×Int×Int) ⊕ ((List Mt)×Int)):=
 bif decide (x1.2.2<((x1.1.length:Nat):Int)) then
 ((cE x1.1 x1.2.2).bind λv2=>
 (fV v2.cells (wr ((wr (x1.2.1+1))+1))).bind λv3=>
 bif decide (v3.1.length=v2.cells.length) then
 (some (.inl ((x1.1.set x1.2.2.toNat (⟨x1.2.1,wr (x1.2.1+1),v3.1⟩:Mt)),v3.2,wr (x1.2.2+1))))
 else none)
 else
 (some (.inr (x1.1,x1.2.1)))
def nN (a0:(List Mt)) (a1:Int):Option ((List Mt)×Int):=
 (Lp kG (a0,a1,0)).bind λy5=>
 some (y5.1,y5.2)
theorem aCP (a0:(List Mt)) (a1:Int) (r:((List Mt)×Int)) (h:nN a0 a1=some r):HasT Tryz.prog 34 [.own 0 0 a0.length,.int a1] [(0,⟨3,a0.map (ow eM)⟩)] 1 (.int r.2) [(0,⟨3,r.1.map (ow eM)⟩)]:=by
 refine aMK aH (rvs:=[.tmp 4]) (ns:=nmA.drop 1) Tryz.func34 k k Tryz.ntmps34 k k<|sS<|fW k2<|sn<|tn<|sQ<|sS<|fW k2<|sn<|tn<|aC<|oB h λy5 hy5 h=>bW (body:=kG) hy5 (λ(x1:((List Mt)×Int×Int))=>mN [(0,.own 0 0 x1.1.length),(1,.int x1.2.1),(5,.int x1.2.2)] [(0,⟨3,x1.1.map (ow eM)⟩)] 1 ⟨1,true,none,true⟩) (λr e t=>e= .exit 0∧Ent t (mN [(1,.int r.2)] [(0,⟨3,r.1.map (ow eM)⟩)] 1 ⟨1,true,none,true⟩)) (bK (bH k2) (cD (dF.plainO _) k<|aR) k4) ?_ ?_
 ·intro x1 o h;refine sQ<|sS<|cZ k2<|cZ k2<|se (cW aH k k k k) k<|cmS k4<|sn<|tn<|dJ k h (λ_ h=>?_) λ_ h=>aX<|aA<|aA<|sp h ⟨_,k,k,(bK (bH k2) (cD (dF.plainO _) k<|aR) k4)⟩;refine aD<|tn<|sQ<|aC<|sS<|cZ k2<|cZ k2<|cZ k2<|oB h λv2 hv2 h=>dT (t:=mN [(0,.own 0 0 x1.1.length),(1,.int x1.2.1),(5,.int x1.2.2),(6,.int x1.2.2),(7,.own 0 0 x1.1.length),(8,.int ((x1.1.length:Nat):Int)),(9,.bl (decide (x1.2.2<((x1.1.length:Nat):Int)))),(12,.own 0 0 x1.1.length),(13,.int x1.2.2),(14,.int x1.2.1)] [(0,⟨3,(x1.1.map (ow eM)).set x1.2.2.toNat [.int v2.rows,.int v2.cols,.abs 1 (v2.cells.map eI)]⟩)] 1 ⟨1,true,none,true⟩) (bK (bH k2) (hX ⟨_,k,k,.inl ⟨wX (dC hv2),uE dF k⟩⟩ k<|aR) k4)<|dT (oF (b:=0) (c:=1) (i:=x1.2.2.toNat) (j:=2) (n:=v2.cells.length) (A:=x1.1.map (ow eM)) (fs:=v2.cells.map (ow eI)) (by rw [dE];exact eD hv2) k k k k (aL _ _) (gF _ _) (uC ⟨k,k,k,k,k,k,k,k,k,k,aR⟩) (uD (skip:=[]) ⟨.inr (dF.dfS _ _ _ k),aR⟩))<|dT (t:=mN [(0,.own 0 0 x1.1.length),(1,.int x1.2.1),(5,.int x1.2.2),(6,.int x1.2.2),(7,.own 0 0 x1.1.length),(8,.int ((x1.1.length:Nat):Int)),(9,.bl (decide (x1.2.2<((x1.1.length:Nat):Int)))),(12,.own 0 0 x1.1.length),(13,.int x1.2.2),(14,.int x1.2.1)] [(0,⟨3,(x1.1.map (ow eM)).set x1.2.2.toNat [.int v2.rows,.int v2.cols,.own 1 0 v2.cells.length]⟩),(1,⟨1,v2.cells.map (ow eI)⟩)] 2 ⟨1,true,none,true⟩) (eU (σ:=sg [(0,0),(1,1)]) (bH k2) (hX ⟨_,k,k,.inr (pO (σ:=sg [(0,0),(1,1)]) (m:=2) (e:=eM) (l:=x1.1) (i:=x1.2.2.toNat) (c:=[.int v2.rows,.int v2.cols,.own 1 0 v2.cells.length]) (d:=[.int v2.rows,.int v2.cols,.own 1 0 v2.cells.length]) dF ⟨_,_,k,k,⟨_,_,k,k,⟨_,_,k,⟨k,k,k,k⟩,k⟩⟩⟩)⟩ k<|bS k<|aR) k)<|se (xo hv2 k) k<|fpS k8<|se (aCj aH (A:=x1.1.map (ow eM)) (by rw [dE];exact eD hv2) k k k k k k k) k<|sn<|tn<|sS<|cZ k2<|se (bC k k) k<|fW k2<|sn<|tn<|sS<|cZ k2<|cZ k2<|cZ k2 ?_;exact se (xo hv2 k) k<|fpS k8<|se (aCj aH (A:=x1.1.map (ow eM)) (by rw [dE];exact eD hv2) k k k k k k k) k<|sn<|tn<|sS<|cZ k2<|se (bC k k) k<|fW k2<|sn<|tn<|rgS<|cZ k2<|cZ k2<|se (xo hv2 k) k<|fpS k8<|se (cK aH k k k k (wW (eD hv2)) k k) k<|cZ k2<|oB h λv3 hv3 h=>se (iG (σ:=sg [(0,1)]) (σ':=sg [(1,0)]) (touch:=[1]) (news:=[]) (hl2:=[(1,⟨1,v3.1.map (ow eI)⟩)]) (n':=2) (r2:= .int v3.2) (kK v2.cells (wr ((wr (x1.2.1+1))+1)) v3 hv3) k k ⟨_,_,k,⟨k,k,k,k⟩,⟨_,_,k,k,k⟩⟩ ⟨⟨_,k,k,.inl ⟨k,dD.plainO _⟩⟩,k,aR⟩ k k k ⟨⟨_,k,k,.inl ⟨k,dD.plainO _⟩⟩,k,aR⟩ k k k ⟨k,dD.tame _ _,aR⟩ k k) k<|cG h λq4 h=>fW k2<|sn<|aS<|tn<|rgS<|cZ k2<|se (bC k k) k<|fW k2<|sn<|tn<|sp h ⟨_,k,(Ent.trans (show Ent _ (mN [(0,.own 0 0 ((x1.1.set x1.2.2.toNat (⟨x1.2.1,wr (x1.2.1+1),v3.1⟩:Mt)).length)),(1,.int v3.2),(5,.int (wr (x1.2.2+1)))] [(0,⟨3,List.map (ow eM) (x1.1.set x1.2.2.toNat (⟨x1.2.1,wr (x1.2.1+1),v3.1⟩:Mt))⟩)] 2 ⟨1,true,none,true⟩) from (Ent.trans (pJ (b:=0) (b':=1) (j:=2) (es':=v3.1.map eI) (by rw [dE];exact eD hv2) k k k k (by simp only [aL,lA,lT,lR,lC,lN,of_decide_eq_true q4]) (dD.frzs _)) (bK (jP ⟨_,k,⟨k,k,(by simp only [aL,lA,lT,lR,lC,lN,of_decide_eq_true q4]),k⟩⟩ (bH k2)) (hX ⟨_,k,k,.inl ⟨aBA (⟨x1.2.1,wr (x1.2.1+1),v3.1⟩:Mt) k,dF.plainO _⟩⟩ k<|aR) k4))) (bK (bH k2) (cD (dF.plainO _) k<|aR) k4))⟩
 ·rintro e t ⟨rfl,hent⟩;exact aJ<|tn<|aM hent<|sS<|cZ k2<|fW k2<|sn<|tn<|aG<|sp h ⟨mN [(4,.int y5.2)] [(0,⟨3,y5.1.map (ow eM)⟩)] 1 ⟨1,true,none,true⟩,(bK (bH k2) (cD (dF.plainO _) k<|aR) k4),k,⟨_,k,.inl k⟩,⟨k,aR⟩⟩
def nO (x1:((List Rp)×Int×Int)):Option (((List Rp)×Int×Int) ⊕ ((List Rp)×Int)):=
 bif decide (x1.2.2<((x1.1.length:Nat):Int)) then
 ((cE x1.1 x1.2.2).bind λv2=>
 (fV v2.q.src (wr ((wr (x1.2.1+1))+1))).bind λv3=>
 bif decide (v3.1.length=v2.q.src.length) then
 ((fV v2.q.tgt v3.2).bind λv5=>
 bif decide (v5.1.length=v2.q.tgt.length) then
 ((fV v2.dims v5.2).bind λv7=>
 bif decide (v7.1.length=v2.dims.length) then
 ((nN v2.maps v7.2).bind λv9=>
 bif decide (v9.1.length=v2.maps.length) then
 (some (.inl ((x1.1.set x1.2.2.toNat (⟨x1.2.1,(⟨wr (x1.2.1+1),v3.1,v5.1⟩:Qv),v7.1,v9.1⟩:Rp)),v9.2,wr (x1.2.2+1))))
 else none)
 else none)
 else none)
 else none)
 else
 (some (.inr (x1.1,x1.2.1)))
def rS (a0:(List Rp)) (a1:Int):Option ((List Rp)×Int):=
 (Lp nO (a0,a1,0)).bind λy11=>
 some (y11.1,y11.2)
theorem aEn (a0:(List Rp)) (a1:Int) (r:((List Rp)×Int)) (h:rS a0 a1=some r):HasT Tryz.prog 13 [.own 0 0 a0.length,.int a1] [(0,⟨6,a0.map (ow eR)⟩)] 1 (.int r.2) [(0,⟨6,r.1.map (ow eR)⟩)]:=by
 refine aMK aH (rvs:=[.tmp 4]) (ns:=nmA.drop 1) Tryz.func13 k k Tryz.ntmps13 k k<|sS<|fW k2<|sn<|tn<|sQ<|sS<|fW k2<|sn<|tn<|aC<|oB h λy11 hy11 h=>bW (body:=nO) hy11 (λ(x1:((List Rp)×Int×Int))=>mN [(0,.own 0 0 x1.1.length),(1,.int x1.2.1),(5,.int x1.2.2)] [(0,⟨6,x1.1.map (ow eR)⟩)] 1 ⟨1,true,none,true⟩) (λr e t=>e= .exit 0∧Ent t (mN [(1,.int r.2)] [(0,⟨6,r.1.map (ow eR)⟩)] 1 ⟨1,true,none,true⟩)) (bK (bH k2) (cD (gO.plainO _) k<|aR) k4) ?_ ?_
 ·intro x1 o h;refine sQ<|sS<|cZ k2<|cZ k2<|se (cW aH k k k k) k<|cmS k4<|sn<|tn<|dJ k h (λ_ h=>?_) λ_ h=>aX<|aA<|aA<|sp h ⟨_,k,k,(bK (bH k2) (cD (gO.plainO _) k<|aR) k4)⟩;refine aD<|tn<|sQ<|aC<|sS<|cZ k2<|cZ k2<|cZ k2<|oB h λv2 hv2 h=>dT (t:=mN [(0,.own 0 0 x1.1.length),(1,.int x1.2.1),(5,.int x1.2.2),(6,.int x1.2.2),(7,.own 0 0 x1.1.length),(8,.int ((x1.1.length:Nat):Int)),(9,.bl (decide (x1.2.2<((x1.1.length:Nat):Int)))),(12,.own 0 0 x1.1.length),(13,.int x1.2.2),(14,.int x1.2.1)] [(0,⟨6,(x1.1.map (ow eR)).set x1.2.2.toNat [.int v2.p,.int v2.q.n,.abs 1 (v2.q.src.map eI),.abs 1 (v2.q.tgt.map eI),.abs 1 (v2.dims.map eI),.abs 3 (v2.maps.map eM)]⟩)] 1 ⟨1,true,none,true⟩) (bK (bH k2) (hX ⟨_,k,k,.inl ⟨wX (dC hv2),uE gO k⟩⟩ k<|aR) k4)<|dT (oF (b:=0) (c:=1) (i:=x1.2.2.toNat) (j:=2) (n:=v2.q.src.length) (A:=x1.1.map (ow eR)) (fs:=v2.q.src.map (ow eI)) (by rw [dE];exact eD hv2) k k k k (aL _ _) (gF _ _) (uC ⟨k,k,k,k,k,k,k,k,k,k,aR⟩) (uD (skip:=[]) ⟨.inr (gO.dfS _ _ _ k),aR⟩))<|dT (t:=mN [(0,.own 0 0 x1.1.length),(1,.int x1.2.1),(5,.int x1.2.2),(6,.int x1.2.2),(7,.own 0 0 x1.1.length),(8,.int ((x1.1.length:Nat):Int)),(9,.bl (decide (x1.2.2<((x1.1.length:Nat):Int)))),(12,.own 0 0 x1.1.length),(13,.int x1.2.2),(14,.int x1.2.1)] [(0,⟨6,(x1.1.map (ow eR)).set x1.2.2.toNat [.int v2.p,.int v2.q.n,.own 1 0 v2.q.src.length,.abs 1 (v2.q.tgt.map eI),.abs 1 (v2.dims.map eI),.abs 3 (v2.maps.map eM)]⟩),(1,⟨1,v2.q.src.map (ow eI)⟩)] 2 ⟨1,true,none,true⟩) (eU (σ:=sg [(0,0),(1,1)]) (bH k2) (hX ⟨_,k,k,.inr (pO (σ:=sg [(0,0),(1,1)]) (m:=2) (e:=eR) (l:=x1.1) (i:=x1.2.2.toNat) (c:=[.int v2.p,.int v2.q.n,.own 1 0 v2.q.src.length,.abs 1 (v2.q.tgt.map eI),.abs 1 (v2.dims.map eI),.abs 3 (v2.maps.map eM)]) (d:=[.int v2.p,.int v2.q.n,.own 1 0 v2.q.src.length,.abs 1 (v2.q.tgt.map eI),.abs 1 (v2.dims.map eI),.abs 3 (v2.maps.map eM)]) gO ⟨_,_,k,k,⟨_,_,k,k,⟨_,_,k,⟨k,k,k,k⟩,⟨_,_,k,⟨k,k⟩,⟨_,_,k,⟨k,k⟩,⟨_,_,k,⟨k,k⟩,k⟩⟩⟩⟩⟩⟩)⟩ k<|bS k<|aR) k)<|dT (oF (b:=0) (c:=2) (i:=x1.2.2.toNat) (j:=3) (n:=v2.q.tgt.length) (A:=x1.1.map (ow eR)) (fs:=v2.q.tgt.map (ow eI)) (by rw [dE];exact eD hv2) k k k k (aL _ _) (gF _ _) (uC ⟨k,k,k,k,k,k,k,k,k,k,aR⟩) (uD (skip:=[]) ⟨.inr (gO.dfS _ _ _ k),.inr (dD.df _ _),aR⟩))<|dT (t:=mN [(0,.own 0 0 x1.1.length),(1,.int x1.2.1),(5,.int x1.2.2),(6,.int x1.2.2),(7,.own 0 0 x1.1.length),(8,.int ((x1.1.length:Nat):Int)),(9,.bl (decide (x1.2.2<((x1.1.length:Nat):Int)))),(12,.own 0 0 x1.1.length),(13,.int x1.2.2),(14,.int x1.2.1)] [(0,⟨6,(x1.1.map (ow eR)).set x1.2.2.toNat [.int v2.p,.int v2.q.n,.own 1 0 v2.q.src.length,.own 2 0 v2.q.tgt.length,.abs 1 (v2.dims.map eI),.abs 3 (v2.maps.map eM)]⟩),(1,⟨1,v2.q.src.map (ow eI)⟩),(2,⟨1,v2.q.tgt.map (ow eI)⟩)] 3 ⟨1,true,none,true⟩) (eU (σ:=sg [(0,0),(1,1),(2,2)]) (bH k2) (hX ⟨_,k,k,.inr (pO (σ:=sg [(0,0),(1,1),(2,2)]) (m:=3) (e:=eR) (l:=x1.1) (i:=x1.2.2.toNat) (c:=[.int v2.p,.int v2.q.n,.own 1 0 v2.q.src.length,.own 2 0 v2.q.tgt.length,.abs 1 (v2.dims.map eI),.abs 3 (v2.maps.map eM)]) (d:=[.int v2.p,.int v2.q.n,.own 1 0 v2.q.src.length,.own 2 0 v2.q.tgt.length,.abs 1 (v2.dims.map eI),.abs 3 (v2.maps.map eM)]) gO ⟨_,_,k,k,⟨_,_,k,k,⟨_,_,k,⟨k,k,k,k⟩,⟨_,_,k,⟨k,k,k,k⟩,⟨_,_,k,⟨k,k⟩,⟨_,_,k,⟨k,k⟩,k⟩⟩⟩⟩⟩⟩)⟩ k<|bS k<|bS k<|aR) k)<|dT (oF (b:=0) (c:=3) (i:=x1.2.2.toNat) (j:=4) (n:=v2.dims.length) (A:=x1.1.map (ow eR)) (fs:=v2.dims.map (ow eI)) (by rw [dE];exact eD hv2) k k k k (aL _ _) (gF _ _) (uC ⟨k,k,k,k,k,k,k,k,k,k,aR⟩) (uD (skip:=[]) ⟨.inr (gO.dfS _ _ _ k),.inr (dD.df _ _),.inr (dD.df _ _),aR⟩))<|dT (t:=mN [(0,.own 0 0 x1.1.length),(1,.int x1.2.1),(5,.int x1.2.2),(6,.int x1.2.2),(7,.own 0 0 x1.1.length),(8,.int ((x1.1.length:Nat):Int)),(9,.bl (decide (x1.2.2<((x1.1.length:Nat):Int)))),(12,.own 0 0 x1.1.length),(13,.int x1.2.2),(14,.int x1.2.1)] [(0,⟨6,(x1.1.map (ow eR)).set x1.2.2.toNat [.int v2.p,.int v2.q.n,.own 1 0 v2.q.src.length,.own 2 0 v2.q.tgt.length,.own 3 0 v2.dims.length,.abs 3 (v2.maps.map eM)]⟩),(1,⟨1,v2.q.src.map (ow eI)⟩),(2,⟨1,v2.q.tgt.map (ow eI)⟩),(3,⟨1,v2.dims.map (ow eI)⟩)] 4 ⟨1,true,none,true⟩) (eU (σ:=sg [(0,0),(1,1),(2,2),(3,3)]) (bH k2) (hX ⟨_,k,k,.inr (pO (σ:=sg [(0,0),(1,1),(2,2),(3,3)]) (m:=4) (e:=eR) (l:=x1.1) (i:=x1.2.2.toNat) (c:=[.int v2.p,.int v2.q.n,.own 1 0 v2.q.src.length,.own 2 0 v2.q.tgt.length,.own 3 0 v2.dims.length,.abs 3 (v2.maps.map eM)]) (d:=[.int v2.p,.int v2.q.n,.own 1 0 v2.q.src.length,.own 2 0 v2.q.tgt.length,.own 3 0 v2.dims.length,.abs 3 (v2.maps.map eM)]) gO ⟨_,_,k,k,⟨_,_,k,k,⟨_,_,k,⟨k,k,k,k⟩,⟨_,_,k,⟨k,k,k,k⟩,⟨_,_,k,⟨k,k,k,k⟩,⟨_,_,k,⟨k,k⟩,k⟩⟩⟩⟩⟩⟩)⟩ k<|bS k<|bS k<|bS k<|aR) k)<|dT (oF (b:=0) (c:=4) (i:=x1.2.2.toNat) (j:=5) (n:=v2.maps.length) (A:=x1.1.map (ow eR)) (fs:=v2.maps.map (ow eM)) (by rw [dE];exact eD hv2) k k k k (aL _ _) (gF _ _) (uC ⟨k,k,k,k,k,k,k,k,k,k,aR⟩) (uD (skip:=[]) ⟨.inr (gO.dfS _ _ _ k),.inr (dD.df _ _),.inr (dD.df _ _),.inr (dD.df _ _),aR⟩))<|dT (t:=mN [(0,.own 0 0 x1.1.length),(1,.int x1.2.1),(5,.int x1.2.2),(6,.int x1.2.2),(7,.own 0 0 x1.1.length),(8,.int ((x1.1.length:Nat):Int)),(9,.bl (decide (x1.2.2<((x1.1.length:Nat):Int)))),(12,.own 0 0 x1.1.length),(13,.int x1.2.2),(14,.int x1.2.1)] [(0,⟨6,(x1.1.map (ow eR)).set x1.2.2.toNat [.int v2.p,.int v2.q.n,.own 1 0 v2.q.src.length,.own 2 0 v2.q.tgt.length,.own 3 0 v2.dims.length,.own 4 0 v2.maps.length]⟩),(1,⟨1,v2.q.src.map (ow eI)⟩),(2,⟨1,v2.q.tgt.map (ow eI)⟩),(3,⟨1,v2.dims.map (ow eI)⟩),(4,⟨3,v2.maps.map (ow eM)⟩)] 5 ⟨1,true,none,true⟩) (eU (σ:=sg [(0,0),(1,1),(2,2),(3,3),(4,4)]) (bH k2) (hX ⟨_,k,k,.inr (pO (σ:=sg [(0,0),(1,1),(2,2),(3,3),(4,4)]) (m:=5) (e:=eR) (l:=x1.1) (i:=x1.2.2.toNat) (c:=[.int v2.p,.int v2.q.n,.own 1 0 v2.q.src.length,.own 2 0 v2.q.tgt.length,.own 3 0 v2.dims.length,.own 4 0 v2.maps.length]) (d:=[.int v2.p,.int v2.q.n,.own 1 0 v2.q.src.length,.own 2 0 v2.q.tgt.length,.own 3 0 v2.dims.length,.own 4 0 v2.maps.length]) gO ⟨_,_,k,k,⟨_,_,k,k,⟨_,_,k,⟨k,k,k,k⟩,⟨_,_,k,⟨k,k,k,k⟩,⟨_,_,k,⟨k,k,k,k⟩,⟨_,_,k,⟨k,k,k,k⟩,k⟩⟩⟩⟩⟩⟩)⟩ k<|bS k<|bS k<|bS k<|cD (dF.plainO _) k<|aR) k) ?_;refine se (xo hv2 k) k<|fpS k8<|se (aCj aH (A:=x1.1.map (ow eR)) (by rw [dE];exact eD hv2) k k k k k k k) k<|sn<|tn<|sS<|cZ k2<|se (bC k k) k<|fW k2<|sn<|tn<|sS<|cZ k2<|cZ k2<|cZ k2<|se (xo hv2 k) k<|fpS k8<|fpS k8<|se (aCj aH (A:=x1.1.map (ow eR)) (by rw [dE];exact eD hv2) k k k k k k k) k<|sn<|tn<|sS<|cZ k2<|se (bC k k) k<|fW k2<|sn<|tn ?_;refine sS<|cZ k2<|cZ k2<|se (xo hv2 k) k<|fpS k8<|fpS k8<|se (cK aH k k k k (wW (eD hv2)) k k) k<|cZ k2<|oB h λv3 hv3 h=>se (iG (σ:=sg [(0,1)]) (σ':=sg [(1,0)]) (touch:=[1]) (news:=[]) (hl2:=[(1,⟨1,v3.1.map (ow eI)⟩)]) (n':=5) (r2:= .int v3.2) (kK v2.q.src (wr ((wr (x1.2.1+1))+1)) v3 hv3) k k ⟨_,_,k,⟨k,k,k,k⟩,⟨_,_,k,k,k⟩⟩ ⟨⟨_,k,k,.inl ⟨k,dD.plainO _⟩⟩,k,aR⟩ k k k ⟨⟨_,k,k,.inl ⟨k,dD.plainO _⟩⟩,k,aR⟩ k k k ⟨k,dD.tame _ _,aR⟩ k k) k<|cG h λq4 h=>fW k2<|sn<|tn<|aM (t:=mN [(0,.own 0 0 x1.1.length),(1,.int v3.2),(5,.int x1.2.2)] [(0,⟨6,(x1.1.map (ow eR)).set x1.2.2.toNat [.int x1.2.1,.int (wr (x1.2.1+1)),.own 1 0 v3.1.length,.own 2 0 v2.q.tgt.length,.own 3 0 v2.dims.length,.own 4 0 v2.maps.length]⟩),(1,⟨1,v3.1.map (ow eI)⟩),(2,⟨1,v2.q.tgt.map (ow eI)⟩),(3,⟨1,v2.dims.map (ow eI)⟩),(4,⟨3,v2.maps.map (ow eM)⟩)] 5 ⟨1,true,none,true⟩) (eU (σ:=sg [(0,0),(1,1),(2,2),(3,3),(4,4)]) (bH k2) (hX ⟨_,k,k,.inr (pO (σ:=sg [(0,0),(1,1),(2,2),(3,3),(4,4)]) (m:=5) (e:=eR) (l:=x1.1) (i:=x1.2.2.toNat) (c:=[.int x1.2.1,.int (wr (x1.2.1+1)),.own 1 0 v2.q.src.length,.own 2 0 v2.q.tgt.length,.own 3 0 v2.dims.length,.own 4 0 v2.maps.length]) (d:=[.int x1.2.1,.int (wr (x1.2.1+1)),.own 1 0 v3.1.length,.own 2 0 v2.q.tgt.length,.own 3 0 v2.dims.length,.own 4 0 v2.maps.length]) gO ⟨_,_,k,k,⟨_,_,k,k,⟨_,_,k,⟨k,k,(by simp only [aL,lA,lT,lR,lC,lN,of_decide_eq_true q4]),k⟩,⟨_,_,k,⟨k,k,k,k⟩,⟨_,_,k,⟨k,k,k,k⟩,⟨_,_,k,⟨k,k,k,k⟩,k⟩⟩⟩⟩⟩⟩)⟩ k<|bS k<|bS k<|bS k<|cD (dF.plainO _) k<|aR) k)<|sS<|cZ k2<|cZ k2<|se (xo hv2 k) k<|fpS k8<|fpS k8<|se (cK aH k k k k (wW (eD hv2)) k k) k<|cZ k2<|oB h λv5 hv5 h=>se (iG (σ:=sg [(0,2)]) (σ':=sg [(2,0)]) (touch:=[2]) (news:=[]) (hl2:=[(2,⟨1,v5.1.map (ow eI)⟩)]) (n':=5) (r2:= .int v5.2) (kK v2.q.tgt v3.2 v5 hv5) k k ⟨_,_,k,⟨k,k,k,k⟩,⟨_,_,k,k,k⟩⟩ ⟨⟨_,k,k,.inl ⟨k,dD.plainO _⟩⟩,k,aR⟩ k k k ⟨⟨_,k,k,.inl ⟨k,dD.plainO _⟩⟩,k,aR⟩ k k k ⟨k,dD.tame _ _,aR⟩ k k) k<|cG h λq6 h=>fW k2<|sn<|tn<|sS<|cZ k2 ?_;exact cZ k2<|se (xo hv2 k) k<|fpS k8<|se (cK aH k k k k (wW (eD hv2)) k k) k<|cZ k2<|oB h λv7 hv7 h=>se (iG (σ:=sg [(0,3)]) (σ':=sg [(3,0)]) (touch:=[3]) (news:=[]) (hl2:=[(3,⟨1,v7.1.map (ow eI)⟩)]) (n':=5) (r2:= .int v7.2) (kK v2.dims v5.2 v7 hv7) k k ⟨_,_,k,⟨k,k,k,k⟩,⟨_,_,k,k,k⟩⟩ ⟨⟨_,k,k,.inl ⟨k,dD.plainO _⟩⟩,k,aR⟩ k k k ⟨⟨_,k,k,.inl ⟨k,dD.plainO _⟩⟩,k,aR⟩ k k k ⟨k,dD.tame _ _,aR⟩ k k) k<|cG h λq8 h=>fW k2<|sn<|tn<|rgS<|cZ k2<|cZ k2<|se (xo hv2 k) k<|fpS k8<|se (cK aH k k k k (wW (eD hv2)) k k) k<|cZ k2<|oB h λv9 hv9 h=>dT (t:=mN [(0,.own 0 0 x1.1.length),(1,.int v7.2),(5,.int x1.2.2),(35,.own 0 0 x1.1.length),(36,.int x1.2.2),(37,.ptr 0 x1.2.2.toNat 0),(38,.ptr 0 x1.2.2.toNat 1),(39,.ptr 0 x1.2.2.toNat 3),(40,.own 2 0 v2.q.tgt.length),(41,.int v3.2),(42,.int v5.2),(43,.own 0 0 x1.1.length),(44,.int x1.2.2),(45,.ptr 0 x1.2.2.toNat 0),(46,.ptr 0 x1.2.2.toNat 4),(47,.own 3 0 v2.dims.length),(48,.int v5.2),(49,.int v7.2),(50,.own 0 0 x1.1.length),(51,.int x1.2.2),(52,.ptr 0 x1.2.2.toNat 0),(53,.ptr 0 x1.2.2.toNat 5),(54,.own 4 0 v2.maps.length),(55,.int v7.2)] [(0,⟨6,(x1.1.map (ow eR)).set x1.2.2.toNat [.int x1.2.1,.int (wr (x1.2.1+1)),.own 1 0 v3.1.length,.own 2 0 v2.q.tgt.length,.own 3 0 v2.dims.length,.own 4 0 v2.maps.length]⟩),(1,⟨1,v3.1.map (ow eI)⟩),(2,⟨1,v5.1.map (ow eI)⟩),(3,⟨1,v7.1.map (ow eI)⟩),(4,⟨3,v2.maps.map (ow eM)⟩)] 5 ⟨1,true,none,true⟩) (eU (σ:=sg [(0,0),(1,1),(2,2),(3,3),(4,4)]) (bH k2) (hX ⟨_,k,k,.inr (pO (σ:=sg [(0,0),(1,1),(2,2),(3,3),(4,4)]) (m:=5) (e:=eR) (l:=x1.1) (i:=x1.2.2.toNat) (c:=[.int x1.2.1,.int (wr (x1.2.1+1)),.own 1 0 v3.1.length,.own 2 0 v2.q.tgt.length,.own 3 0 v2.dims.length,.own 4 0 v2.maps.length]) (d:=[.int x1.2.1,.int (wr (x1.2.1+1)),.own 1 0 v3.1.length,.own 2 0 v2.q.tgt.length,.own 3 0 v2.dims.length,.own 4 0 v2.maps.length]) gO ⟨_,_,k,k,⟨_,_,k,k,⟨_,_,k,⟨k,k,k,k⟩,⟨_,_,k,⟨k,k,k,k⟩,⟨_,_,k,⟨k,k,k,k⟩,⟨_,_,k,⟨k,k,k,k⟩,k⟩⟩⟩⟩⟩⟩)⟩ k<|bS k<|bS k<|bS k<|cD (dF.plainO _) k<|aR) k)<|aOZ (σ:=sg [(0,4)]) (σ':=sg [(4,0)]) (touch:=[4]) (news:=[]) (hl2:=[(4,⟨3,v9.1.map (ow eM)⟩)]) (n':=5) (r2:= .int v9.2) (aCP v2.maps v7.2 v9 hv9) k k ⟨_,_,k,⟨k,k,k,k⟩,⟨_,_,k,k,k⟩⟩ ⟨⟨_,k,k,.inl ⟨k,dF.plainO _⟩⟩,k,aR⟩ k k k ⟨⟨_,k,k,.inl ⟨k,dF.plainO _⟩⟩,k,aR⟩ k k k ⟨k,dF.tame _ _,aR⟩ k k k k k (uC ⟨k,k,k,k,k,k,k,k,k,k,k,k,k,k,k,k,k,k,k,k,k,k,k,k,aR⟩) (uD (skip:=[4]) ⟨.inr (gO.dfS _ _ _ k),.inr (dD.df _ _),.inr (dD.df _ _),.inr (dD.df _ _),.inl (by decide),aR⟩)<|cG h λq10 h=>fW k2<|sn<|aS<|tn<|rgS<|cZ k2<|se (bC k k) k<|fW k2<|sn<|tn<|sp h ⟨_,k,(Ent.trans (show Ent _ (mN [(0,.own 0 0 ((x1.1.set x1.2.2.toNat (⟨x1.2.1,(⟨wr (x1.2.1+1),v3.1,v5.1⟩:Qv),v7.1,v9.1⟩:Rp)).length)),(1,.int v9.2),(5,.int (wr (x1.2.2+1)))] [(0,⟨6,List.map (ow eR) (x1.1.set x1.2.2.toNat (⟨x1.2.1,(⟨wr (x1.2.1+1),v3.1,v5.1⟩:Qv),v7.1,v9.1⟩:Rp))⟩)] 5 ⟨1,true,none,true⟩) from (Ent.trans (pJ (b:=0) (b':=1) (j:=2) (es':=v3.1.map eI) (by rw [dE];exact eD hv2) k k k k (aL _ _) (dD.frzs _)) (Ent.trans (pJ (b:=0) (b':=2) (j:=3) (es':=v5.1.map eI) (by rw [dE];exact eD hv2) k k k k (by simp only [aL,lA,lT,lR,lC,lN,of_decide_eq_true q6]) (dD.frzs _)) (Ent.trans (pJ (b:=0) (b':=3) (j:=4) (es':=v7.1.map eI) (by rw [dE];exact eD hv2) k k k k (by simp only [aL,lA,lT,lR,lC,lN,of_decide_eq_true q8]) (dD.frzs _)) (Ent.trans (pJ (b:=0) (b':=4) (j:=5) (es':=v9.1.map eM) (by rw [dE];exact eD hv2) k k k k (by simp only [aL,lA,lT,lR,lC,lN,of_decide_eq_true q10]) (dF.frzs _)) (bK (jP ⟨_,k,⟨k,k,(by simp only [aL,lA,lT,lR,lC,lN,of_decide_eq_true q4,of_decide_eq_true q6,of_decide_eq_true q8,of_decide_eq_true q10]),k⟩⟩ (bH k2)) (hX ⟨_,k,k,.inl ⟨aBA (⟨x1.2.1,(⟨wr (x1.2.1+1),v3.1,v5.1⟩:Qv),v7.1,v9.1⟩:Rp) k,gO.plainO _⟩⟩ k<|aR) k4)))))) (bK (bH k2) (cD (gO.plainO _) k<|aR) k4))⟩
 ·rintro e t ⟨rfl,hent⟩;exact aJ<|tn<|aM hent<|sS<|cZ k2<|fW k2<|sn<|tn<|aG<|sp h ⟨mN [(4,.int y11.2)] [(0,⟨6,y11.1.map (ow eR)⟩)] 1 ⟨1,true,none,true⟩,(bK (bH k2) (cD (gO.plainO _) k<|aR) k4),k,⟨_,k,.inl k⟩,⟨k,aR⟩⟩
def nP (a0:(List Int)) (x1:(Int×Int)):Option ((Int×Int) ⊕ (Int ⊕ Int)):=
 bif decide (x1.2<(a0.length:Int)) then
 ((cE a0 x1.2).bind λv2=>
 bif !decide (v2=x1.1) then
 (some (.inr (.inr ((-1)))))
 else
 (some (.inl (wr (x1.1+1),wr (x1.2+1)))))
 else
 (some (.inr (.inl x1.1)))
def iW (a0:(List Int)) (a1:Int):Option Int:=
 (Lp (nP a0) (a1,0)).bind λy4=>
 Sum.elim (λy5=>
 some (y5)
 )
 (λy6=>
 some y6
 )
 y4
theorem rT (a0:(List Int)) (a1:Int) (r:Int) (h:iW a0 a1=some r):HasC Tryz.prog 27 [.list 1 (a0.map eI),.int a1] (.int r):=by
 refine hM [.tmp 4] Tryz.func27 Tryz.ntmps27 k<|sR<|aT k2<|sQ<|sR<|aT k2<|aC<|oB h λy4 hy4 h=>bW (body:=(nP a0)) hy4 (λ(x1:(Int×Int))=>mN [(0,.list 1 (a0.map eI)),(1,.int x1.1),(5,.int x1.2)] [] 0) (λr e t=>Sum.elim (λa=>(λr e t=>e= .exit 0∧Ent t (mN [(1,.int r)] [] 0)) a e t) (λb=>(λr e t=>e= .ret∧rY TT [.tmp 4] (.int r) .ret t) b e t) r) (bK (bH k2) aR k4) ?_ ?_
 ·intro x1 o h;exact sQ<|sR<|am k k<|am k k<|ln k4<|cm k4<|an<|tn<|dJ k h (λ_ h=>aD<|tn<|sQ<|aC<|sQ<|sR<|am k k<|am k k<|oB h λv2 hv2 h=>ae (xl hv2 k) k<|lr k7<|am k k<|cm k4<|an<|tn<|dJ k h (λ_ h=>sR<|aT k2<|aG<|aE<|bG<|aE<|aE<|sp h ⟨_,k,k,bN k k k (qG k)⟩) λ_ h=>aD<|tn<|rg<|am k k<|ae (bC k k) k<|aa k k<|an<|aS<|tn<|rg<|am k k<|ae (bC k k) k<|aT k2<|sp h ⟨_,k,(bK (bH k2) aR k4)⟩) λ_ h=>aX<|aA<|aA<|sp h ⟨_,k,k,(bK (bH k2) aR k4)⟩
 ·intro e t hX;rcases y4 with y5|y6
  ·obtain ⟨rfl,hent⟩:=hX;exact aJ<|tn<|aM hent<|sR<|am k k<|aT k2<|aG<|yU h k2
  ·obtain ⟨rfl,hent⟩:=hX;exact bG<|aE<|sp h hent
def kH (a0:(List Mt)) (x1:(Int×Int)):Option ((Int×Int) ⊕ (Int ⊕ Int)):=
 bif decide (x1.2<(a0.length:Int)) then
 ((cE a0 x1.2).bind λv2=>
 bif !decide (v2.rows=x1.1) then
 (some (.inr (.inr ((-1)))))
 else
 ((cE a0 x1.2).bind λv4=>
 bif !decide (v4.cols=wr (x1.1+1)) then
 (some (.inr (.inr ((-1)))))
 else
 ((cE a0 x1.2).bind λv6=>
 (iW v6.cells (wr ((wr (x1.1+1))+1))).bind λv7=>
 bif decide (v7<0) then
 (some (.inr (.inr ((-1)))))
 else
 (some (.inl (v7,wr (x1.2+1)))))))
 else
 (some (.inr (.inl x1.1)))
def nS (a0:(List Mt)) (a1:Int):Option Int:=
 (Lp (kH a0) (a1,0)).bind λy9=>
 Sum.elim (λy10=>
 some (y10)
 )
 (λy11=>
 some y11
 )
 y9
theorem aCQ (a0:(List Mt)) (a1:Int) (r:Int) (h:nS a0 a1=some r):HasC Tryz.prog 35 [.list 3 (a0.map eM),.int a1] (.int r):=by
 refine hM [.tmp 4] Tryz.func35 Tryz.ntmps35 k<|sR<|aT k2<|sQ<|sR<|aT k2<|aC<|oB h λy9 hy9 h=>bW (body:=(kH a0)) hy9 (λ(x1:(Int×Int))=>mN [(0,.list 3 (a0.map eM)),(1,.int x1.1),(5,.int x1.2)] [] 0) (λr e t=>Sum.elim (λa=>(λr e t=>e= .exit 0∧Ent t (mN [(1,.int r)] [] 0)) a e t) (λb=>(λr e t=>e= .ret∧rY TT [.tmp 4] (.int r) .ret t) b e t) r) (bK (bH k2) aR k4) ?_ ?_
 ·intro x1 o h;refine sQ<|sR<|am k k<|am k k<|ln k4<|cm k4<|an<|tn<|dJ k h (λ_ h=>?_) λ_ h=>aX<|aA<|aA<|sp h ⟨_,k,k,(bK (bH k2) aR k4)⟩;exact aD<|tn<|sQ<|aC<|sQ<|sR<|am k k<|am k k<|oB h λv2 hv2 h=>ae (xl hv2 k) k<|ae (eO aH k k k k k k) k<|lr k7<|am k k<|cm k4<|an<|tn<|dJ k h (λ_ h=>sR<|aT k2<|aG<|aE<|bG<|aE<|aE<|sp h ⟨_,k,k,bN k k k (qG k)⟩) λ_ h=>aD<|tn<|sR<|am k k<|ae (bC k k) k<|aT k2<|sQ<|sR<|am k k<|am k k<|oB h λv4 hv4 h=>ae (xl hv4 k) k<|ae (eO aH k k k k k k) k<|lr k7<|am k k<|cm k4<|an<|tn<|dJ k h (λ_ h=>sR<|aT k2<|aG<|aE<|bG<|aE<|aE<|sp h ⟨_,k,k,bN k k k (qG k)⟩) λ_ h=>aD<|tn<|sR<|am k k<|ae (bC k k) k<|aT k2<|aM (t:=mN [(0,.list 3 (a0.map eM)),(1,.int (wr ((wr (x1.1+1))+1))),(5,.int x1.2)] [] 0) (bK (bH k2) aR k4)<|sR<|am k k<|am k k<|oB h λv6 hv6 h=>ae (xl hv6 k) k<|ae (eO aH k k k k k k) k<|lr k7<|am k k<|oB h λv7 hv7 h=>ae (aY (rT v6.cells (wr ((wr (x1.1+1))+1)) v7 hv7) k (dX k (dX k aV))) k<|aT k2<|sR<|am k k<|cm k4<|an<|tn<|dJ k h (λ_ h=>sR<|aT k2<|aG<|bG<|aE<|aE<|sp h ⟨_,k,k,bN k k k (qG k)⟩) λ_ h=>aD<|aS<|tn<|rg<|am k k<|ae (bC k k) k<|aT k2<|sp h ⟨_,k,(bK (bH k2) aR k4)⟩
 ·intro e t hX;rcases y9 with y10|y11
  ·obtain ⟨rfl,hent⟩:=hX;exact aJ<|tn<|aM hent<|sR<|am k k<|aT k2<|aG<|yU h k2
  ·obtain ⟨rfl,hent⟩:=hX;exact bG<|aE<|sp h hent
def nT (a0:(List Rp)) (x1:(Int×Int)):Option ((Int×Int) ⊕ (Int ⊕ Int)):=
 bif decide (x1.2<(a0.length:Int)) then
 ((cE a0 x1.2).bind λv2=>
 bif !decide (v2.p=x1.1) then
 (some (.inr (.inr ((-1)))))
 else
 ((cE a0 x1.2).bind λv4=>
 bif !decide (v4.q.n=wr (x1.1+1)) then
 (some (.inr (.inr ((-1)))))
 else
 ((cE a0 x1.2).bind λv6=>
 (iW v6.q.src (wr ((wr (x1.1+1))+1))).bind λv7=>
 bif decide (v7<0) then
 (some (.inr (.inr ((-1)))))
 else
 ((cE a0 x1.2).bind λv9=>
 (iW v9.q.tgt v7).bind λv10=>
 bif decide (v10<0) then
 (some (.inr (.inr ((-1)))))
 else
 ((cE a0 x1.2).bind λv12=>
 (iW v12.dims v10).bind λv13=>
 bif decide (v13<0) then
 (some (.inr (.inr ((-1)))))
 else
 ((cE a0 x1.2).bind λv15=>
 (nS v15.maps v13).bind λv16=>
 bif decide (v16<0) then
 (some (.inr (.inr ((-1)))))
 else
 (some (.inl (v16,wr (x1.2+1))))))))))
 else
 (some (.inr (.inl x1.1)))
def oD (a0:(List Rp)) (a1:Int):Option Int:=
 (Lp (nT a0) (a1,0)).bind λy18=>
 Sum.elim (λy19=>
 some (y19)
 )
 (λy20=>
 some y20
 )
 y18
theorem aAg (a0:(List Rp)) (a1:Int) (r:Int) (h:oD a0 a1=some r):HasC Tryz.prog 14 [.list 6 (a0.map eR),.int a1] (.int r):=by
 refine hM [.tmp 4] Tryz.func14 Tryz.ntmps14 k<|sR<|aT k2<|sQ<|sR<|aT k2<|aC<|oB h λy18 hy18 h=>bW (body:=(nT a0)) hy18 (λ(x1:(Int×Int))=>mN [(0,.list 6 (a0.map eR)),(1,.int x1.1),(5,.int x1.2)] [] 0) (λr e t=>Sum.elim (λa=>(λr e t=>e= .exit 0∧Ent t (mN [(1,.int r)] [] 0)) a e t) (λb=>(λr e t=>e= .ret∧rY TT [.tmp 4] (.int r) .ret t) b e t) r) (bK (bH k2) aR k4) ?_ ?_
 ·intro x1 o h;refine sQ<|sR<|am k k<|am k k<|ln k4<|cm k4<|an<|tn<|dJ k h (λ_ h=>?_) λ_ h=>aX<|aA<|aA<|sp h ⟨_,k,k,(bK (bH k2) aR k4)⟩;refine aD<|tn<|sQ<|aC<|sQ<|sR<|am k k<|am k k<|oB h λv2 hv2 h=>ae (xl hv2 k) k<|ae (eO aH k k k k k k) k<|lr k7<|am k k<|cm k4<|an<|tn<|dJ k h (λ_ h=>sR<|aT k2<|aG<|aE<|bG<|aE<|aE<|sp h ⟨_,k,k,bN k k k (qG k)⟩) λ_ h=>?_;refine aD<|tn<|sR<|am k k<|ae (bC k k) k<|aT k2<|sQ<|sR<|am k k<|am k k<|oB h λv4 hv4 h=>ae (xl hv4 k) k<|ae (eO aH k k k k k k) k<|ae (eO aH k k k k k k) k<|lr k7<|am k k<|cm k4<|an<|tn<|dJ k h (λ_ h=>sR<|aT k2<|aG<|aE<|bG<|aE<|aE<|sp h ⟨_,k,k,bN k k k (qG k)⟩) λ_ h=>?_;refine aD<|tn<|sR<|am k k<|ae (bC k k) k<|aT k2<|aM (t:=mN [(0,.list 6 (a0.map eR)),(1,.int (wr ((wr (x1.1+1))+1))),(5,.int x1.2)] [] 0) (bK (bH k2) aR k4)<|sR<|am k k<|am k k<|oB h λv6 hv6 h=>ae (xl hv6 k) k<|ae (eO aH k k k k k k) k<|ae (eO aH k k k k k k) k<|lr k7<|am k k<|oB h λv7 hv7 h=>ae (aY (rT v6.q.src (wr ((wr (x1.1+1))+1)) v7 hv7) k (dX k (dX k aV))) k<|aT k2<|sQ<|sR<|am k k<|cm k4<|an ?_;refine tn<|dJ k h (λ_ h=>sR<|aT k2<|aG<|aE<|bG<|aE<|aE<|sp h ⟨_,k,k,bN k k k (qG k)⟩) λ_ h=>?_;exact aD<|tn<|sR<|am k k<|am k k<|oB h λv9 hv9 h=>ae (xl hv9 k) k<|ae (eO aH k k k k k k) k<|ae (eO aH k k k k k k) k<|lr k7<|am k k<|oB h λv10 hv10 h=>ae (aY (rT v9.q.tgt v7 v10 hv10) k (dX k (dX k aV))) k<|aT k2<|sQ<|sR<|am k k<|cm k4<|an<|tn<|dJ k h (λ_ h=>sR<|aT k2<|aG<|aE<|bG<|aE<|aE<|sp h ⟨_,k,k,bN k k k (qG k)⟩) λ_ h=>aD<|tn<|sR<|am k k<|am k k<|oB h λv12 hv12 h=>ae (xl hv12 k) k<|ae (eO aH k k k k k k) k<|lr k7<|am k k<|oB h λv13 hv13 h=>ae (aY (rT v12.dims v10 v13 hv13) k (dX k (dX k aV))) k<|aT k2<|aM (t:=mN [(0,.list 6 (a0.map eR)),(1,.int v13),(5,.int x1.2)] [] 0) (bK (bH k2) aR k4)<|sQ<|sR<|am k k<|cm k4<|an<|tn<|dJ k h (λ_ h=>sR<|aT k2<|aG<|aE<|bG<|aE<|aE<|sp h ⟨_,k,k,bN k k k (qG k)⟩) λ_ h=>aD<|tn<|sR<|am k k<|am k k<|oB h λv15 hv15 h=>ae (xl hv15 k) k<|ae (eO aH k k k k k k) k<|lr k7<|am k k<|oB h λv16 hv16 h=>ae (aY (aCQ v15.maps v13 v16 hv16) k (dX k (dX k aV))) k<|aT k2<|sR<|am k k<|cm k4<|an<|tn<|dJ k h (λ_ h=>sR<|aT k2<|aG<|bG<|aE<|aE<|sp h ⟨_,k,k,bN k k k (qG k)⟩) λ_ h=>aD<|aS<|tn<|rg<|am k k<|ae (bC k k) k<|aT k2<|sp h ⟨_,k,(bK (bH k2) aR k4)⟩
 ·intro e t hX;rcases y18 with y19|y20
  ·obtain ⟨rfl,hent⟩:=hX;exact aJ<|tn<|aM hent<|sR<|am k k<|aT k2<|aG<|yU h k2
  ·obtain ⟨rfl,hent⟩:=hX;exact bG<|aE<|sp h hent
end
noncomputable section
def zZ {α:Type} (nv:α→Nat):List α→Nat
 | []=>0
 |x::l=>nv x+zZ nv l
def mvS {α:Type} (mv:Int→α→α) (nv:α→Nat):Int→List α→List α
 |_,[]=>[]
 |k,x::l=>mv k x::mvS mv nv (k+nv x) l
section
variable {α:Type} {mv:Int→α→α} {nv:α→Nat}
theorem rU: ∀ (l:List α) (k:Int),(mvS mv nv k l).length=l.length
 | [],_=>rfl
 |x::l,k=>by simp [mvS,rU l]
theorem aJN: ∀ (l m:List α),zZ nv (l++m)=zZ nv l+zZ nv m
 | [],m=>by simp [zZ]
 |x::l,m=>by simp [zZ,aJN l m];omega
theorem aJO: ∀ (l m:List α) (k:Int),mvS mv nv k (l++m)=mvS mv nv k l++mvS mv nv (k+zZ nv l) m
 | [],m,k=>by simp [mvS,zZ]
 |x::l,m,k=>by
  simp only [List.cons_append,mvS,zZ,aJO l m];rw [show k+((nv x+zZ nv l:Nat):Int)=k+(nv x:Int)+(zZ nv l:Int) by omega]
theorem aDI {l:List α} {i:Nat} (hi:i<l.length):zZ nv (l.take (i+1))=zZ nv (l.take i)+nv l[i]:=by
 rw [aBo hi,aJN];simp [zZ]
theorem aES (l:List α) (i:Nat):zZ nv (l.take i)≤zZ nv l:=by
 have h:zZ nv (l.take i++l.drop i)=zZ nv l:=by rw [List.take_append_drop]
 rw [aJN] at h;omega
theorem aLv {c:Nat} : ∀ {l:List α},(∀ x∈l,nv x≤c)→zZ nv l≤c*l.length
 | [],_=>by simp [zZ]
 |x::l,h=>by
  have h1:=h x (by simp);have h2:=aLv (l:=l) λy hy=>h y (by simp [hy]);simp only [zZ,List.length_cons,Nat.mul_add,Nat.mul_one];omega
theorem aJP {l:List α} {k:Int} {i:Nat} (hi:i<l.length):(mvS mv nv k l)[i]? =some (mv (k+zZ nv (l.take i)) l[i]):=by
 have e:l=l.take i++l[i]::l.drop (i+1):=by rw [←List.drop_eq_getElem_cons hi,List.take_append_drop]
 have e2:mvS mv nv k l=mvS mv nv k (l.take i)++mvS mv nv (k+zZ nv (l.take i)) (l[i]::l.drop (i+1)):=by rw [←aJO,←e]
 rw [e2,List.getElem?_append_right (by rw [rU];simp;omega),rU];simp [mvS,Nat.min_eq_left (Nat.le_of_lt hi)]
theorem aDw {l:List α} {k0:Int} {body:List α×Int×Int→Option ((List α×Int×Int) ⊕ (List α×Int))} (h0:0≤k0) (hk:k0+zZ nv l≤4611686018427387904) (hl:l.length≤4611686018427387904)
  (hs: ∀ (r:List α) (i:Nat) (k:Int) (hi:i<r.length),r[i]∈l→0≤k→k+nv r[i]≤4611686018427387904→body (r,k,i)=some (.inl (r.set i (mv k r[i]),k+nv r[i],wr (i+1)))) (he: ∀ r k,body (r,k,(r.length:Int))=some (.inr (r,k))):
  Lp body (l,k0,0)=some (mvS mv nv k0 l,k0+zZ nv l):=by
 rw [dR (r:=(mvS mv nv k0 l,k0+zZ nv l)) (λi=>(mvS mv nv k0 (l.take i)++l.drop i,k0+zZ nv (l.take i),(i:Int))) l.length (by simp [mvS,zZ]) (λi hi=>?_) (λ_=>?_)]
 ·have hm:(mvS mv nv k0 (l.take i)).length=i:=by rw [rU];simp;omega
  have hg:(mvS mv nv k0 (l.take i)++l.drop i)[i]'(by simp [rU];omega)=l[i]:=by
   rw [List.getElem_append_right (by omega)];simp [hm]
  have hb:=aES (nv:=nv) l (i+1);rw [aDI hi] at hb;rw [hs _ i _ (by simp [rU];omega) (by rw [hg];exact List.getElem_mem hi) (by omega) (by rw [hg];omega),hg,bT hi hl];congr 2;refine Prod.ext ?_ (Prod.ext ?_ rfl)
  ·simp only;rw [List.set_append_right _ _ (by omega),hm,Nat.sub_self,List.drop_eq_getElem_cons hi,List.set_cons_zero,aBo hi,aJO];simp [mvS]
  ·simp only;rw [aDI hi];omega
 ·have:=he (mvS mv nv k0 (l.take l.length)++l.drop l.length) (k0+zZ nv (l.take l.length));simp only [List.take_length,List.drop_length,List.append_nil,rU] at this ⊢;exact this
theorem aDx {l:List α} {k0:Int} {body:Int×Int→Option ((Int×Int) ⊕ (Int ⊕ Int))} (h0:0≤k0) (hk:k0+zZ nv l≤4611686018427387904) (hl:l.length≤4611686018427387904)
  (hs: ∀ (i:Nat) (hi:i<l.length) (k:Int),k=k0+zZ nv (l.take i)→0≤k→k+nv l[i]≤4611686018427387904→body (k,i)=some (.inl (k+nv l[i],wr (i+1)))) (he: ∀ k,body (k,(l.length:Int))=some (.inr (.inl k))):
  Lp body (k0,0)=some (.inl (k0+zZ nv l)):=by
 rw [dR (r:=Sum.inl (k0+zZ nv l)) (λi=>(k0+zZ nv (l.take i),(i:Int))) l.length (by simp [zZ]) (λi hi=>?_) (λ_=>?_)]
 ·have hb:=aES (nv:=nv) l (i+1);rw [aDI hi] at hb;rw [hs i hi _ rfl (by omega) (by omega),bT hi hl,aDI hi];congr 3;omega
 ·rw [he];simp
end
def nI (l:List Int):Nat:=zZ (λ_=>1) l
def mvI:Int→List Int→List Int:=mvS (λk _=>k) (λ_=>1)
theorem aAX: ∀ l:List Int,nI l=l.length
 | []=>rfl
 |x::l=>by have:=aAX l;simp only [nI] at this;simp only [nI,zZ,List.length_cons];omega
theorem yD (k:Int) (l:List Int):(mvI k l).length=l.length:=rU l k
theorem aLw {k:Int} {n:Nat} (h:0≤k):decide (k+(n:Int)<0)=false:=dQ (by omega)
theorem aNq {l:List Int} {k:Int} (h0:0≤k) (hk:k+nI l≤4611686018427387904):fV l k=some (mvI k l,k+nI l):=by
 have hl:=aAX l;unfold fV;rw [aDw (mv:=λk _=>k) (nv:=λ_=>1) h0 hk (by omega) (λr i k hi _ g0 g1=>?_) (λr k=>?_),aB]
 ·rfl
 ·unfold nM;simp only;rw [jN hi,aI,dY hi,aB,cO,cB (x:=k+1) (by omega)];simp
 ·unfold nM;simp only;rw [kV (bJ _),aW]
theorem aQk {l:List Int} {k:Int} (h0:0≤k) (hk:k+nI l≤4611686018427387904):iW (mvI k l) k=some (k+nI l):=by
 have hl:=aAX l;have hm:=yD k l;unfold iW;rw [aDx (l:=l) (nv:=λ_=>1) h0 hk (by omega) (λi hi k' e g0 g1=>?_) (λk'=>?_),aB]
 ·rfl
 ·unfold nP;simp only;have hg:(mvI k l)[i]? =some k':=by unfold mvI;rw [aJP hi,e]
  rw [hm,jN hi,aI,dY (by omega),aB];have hg':(mvI k l)[i]'(by omega)=k':=by rw [gS (by omega)] at hg;exact Option.some.inj hg
  rw [hg',bF rfl,iC,aW,cB (x:=k'+1) (by omega)];simp
 ·unfold nP;simp only;rw [hm,kV (bJ _),aW]
theorem aPe {α:Type} {l:List α} {i:Nat} {v:α} (h:l[i]? =some v) (hi:i<l.length):l[i]=v:=by rw [gS hi] at h;exact Option.some.inj h
def nQ (q:Qv):Nat:=nI q.src+nI q.tgt
def mvQ (k:Int) (q:Qv):Qv:=⟨q.n,mvI k q.src,mvI (k+nI q.src) q.tgt⟩
theorem aTV {q:Qv} {k:Int} (h0:0≤k) (hk:k+nQ q≤4611686018427387904):pH q k=some ((mvQ k q).src,(mvQ k q).tgt,k+nQ q):=by
 unfold nQ at hk;unfold pH;rw [aNq h0 (by omega),aB,yD,bF rfl,aI,aNq (by omega) (by omega),aB,yD,bF rfl,aI];unfold mvQ nQ;congr 3;omega
def nMe (m:Mt):Nat:=2+nI m.cells
def aPg (k:Int) (m:Mt):Mt:=⟨k,k+1,mvI (k+2) m.cells⟩
def nMs:List Mt→Nat:=zZ nMe
def aNr:Int→List Mt→List Mt:=mvS aPg nMe
theorem aPh (k:Int) (l:List Mt):(aNr k l).length=l.length:=rU l k
theorem aSn {l:List Mt} {k:Int} (h0:0≤k) (hk:k+nMs l≤4611686018427387904) (hl:l.length≤4611686018427387904):nN l k=some (aNr k l,k+nMs l):=by
 unfold nN;rw [aDw (mv:=aPg) (nv:=nMe) h0 hk hl (λr i k hi hm g0 g1=>?_) (λr k=>?_),aB]
 ·rfl
 ·unfold nMe at g1;unfold kG;simp only;rw [jN hi,aI,dY hi,aB,cB (x:=k+1) (by omega),cB (x:=k+1+1) (by omega),show k+1+1=k+2 by omega,aNq (by omega) (by omega),aB,yD,bF rfl,aI,cO];unfold aPg nMe;congr 4;omega
 ·unfold kG;simp only;rw [kV (bJ _),aW]
theorem aSo {l:List Mt} {k:Int} (h0:0≤k) (hk:k+nMs l≤4611686018427387904) (hl:l.length≤4611686018427387904):nS (aNr k l) k=some (k+nMs l):=by
 have hm:(aNr k l).length=l.length:=rU l k;unfold nS;rw [aDx (l:=l) (nv:=nMe) h0 hk hl (λi hi k' e g0 g1=>?_) (λk'=>?_),aB]
 ·rfl
 ·unfold nMe at g1;unfold kH;simp only;rw [hm,jN hi,aI,dY (by omega),aB,aPe (v:=aPg k' l[i]) (by unfold aNr;rw [aJP hi,e]) (by omega)];unfold aPg;simp only [decide_true,iC,aW,aB,cB (x:=k'+1) (by omega)];rw [cB (x:=k'+1+1) (by omega),show k'+1+1=k'+2 by omega,aQk (by omega) (by omega),aB,aLw (by omega),aW];unfold nMe;congr 3;omega
 ·unfold kH;simp only;rw [hm,kV (bJ _),aW]
def nR (r:Rp):Nat:=nQ r.q+nI r.dims+nMs r.maps
theorem aSC {l:List Mt} (h:l.length≤1048576∧ ∀ m∈l,bM m):nMs l≤2097152*1048576:=by
 have:=aLv (nv:=nMe) (c:=2097152) (l:=l) λm hm=>by have:=(h.2 m hm).1;unfold bI at this;unfold nMe;rw [aAX];omega
 unfold nMs
 calc zZ nMe l≤2097152*l.length:=this
  _≤2097152*1048576:=Nat.mul_le_mul_left _ h.1
theorem aSp {r:Rp} (h:bR r):nR r≤4398046511104:=by
 obtain ⟨⟨h1,h2,_⟩,h3,h4,_⟩:=h;have:=aSC h4;unfold bI at h1 h2 h3;unfold nR nQ;rw [aAX,aAX,aAX];omega
end
noncomputable section
set_option maxRecDepth 10000
set_option maxHeartbeats 4000000
def gR (a0:Int) (a1:Qv):Option Bool:=
 (vQ a1 1048576).bind λv1=>
 bif decide (v1<0) then
 (some (true))
 else
 ((iT a1).bind λv3=>
 (iB a0 v3).bind λv4=>
 (iT a1).bind λv5=>
 (fT a0 v5).bind λv6=>
 (oH v6.1 v4.1).bind λv7=>
 bif !v7 then
 (some (false))
 else
 (bif !(v6.2==v4.2) then
 (some (false))
 else
 ((iT a1).bind λv10=>
 (nW v5 v10).bind λv11=>
 bif !v11 then
 (some (false))
 else
 ((pH v5 1).bind λv13=>
 bif decide (v13.1.length=v5.src.length) then
 (bif decide (v13.2.1.length=v5.tgt.length) then
 (bif decide (v13.2.2<0) then
 (some (false))
 else
 ((oH v6.1 v4.1).bind λv17=>
 bif !v17 then
 (some (false))
 else
 (bif !(v6.2==v4.2) then
 (some (false))
 else
 ((rS v6.1 1).bind λv20=>
 bif decide (v20.1.length=v6.1.length) then
 ((oD v20.1 1).bind λv22=>
 bif decide (v22<0) then
 (some (false))
 else
 (bif !decide (v22=v20.2) then
 (some (false))
 else
 ((iT a1).bind λv25=>
 (fT a0 v25).bind λv26=>
 (oH v26.1 v4.1).bind λv27=>
 bif !v27 then
 (some (false))
 else
 (bif !(v26.2==v4.2) then
 (some (false))
 else
 ((oD v20.1 1).bind λv30=>
 bif decide (v30<0) then
 (some (false))
 else
 (bif !decide (v30=v20.2) then
 (some (false))
 else
 (some (true))))))))
 else none))))
 else none)
 else none))))
theorem tP (a0:Int) (a1:Qv) (r:Bool) (h:gR a0 a1=some r):HasC Tryz.prog 3 [.int a0,.agg (eQ a1)] (.bl r):=by
 refine aFl aH (rvs:=[.tmp 4]) (ns:=nmA) Tryz.func3 k k Tryz.ntmps3 k k k (λW=>?_);refine aMN<|aFk<|aIe<|aDc (λw1_1 S1_1 r1_1=>?_);refine aDc (λw1_2 S1_2 r1_2=>?_);refine aFi<|aFj<|sS<|se (wb k) k<|fW k2<|sn<|tn<|sS<|fW k2<|sn<|tn<|sS<|lpS k8<|cZ k2<|oB h λv1 hv1 h=>se (lZ (aEe a1 1048576 v1 hv1) k (fU (.inr (eW (xR k k) (eW (oU k r1_1) (eW (oU k r1_2) xS)))) (wkS k mV))) k<|fW k2<|sn<|tn<|sQ<|sS<|cZ k2<|cmS k4<|sn<|tn<|dJ k h (λ_ h=>sS<|fW k2<|sn<|tn<|aG<|aE<|kI h k2) λ_ h=>?_;refine aD<|tn<|sS<|cZ k2<|lpS k8<|oB h λv3 hv3 h=>se (cQK (rH a1 v3 hv3) k3 (fU (.inr (eW (xR k k) (eW (oU k r1_1) (eW (oU k r1_2) xS)))) mV)) k<|oB h λv4 hv4 h=>se (cTK gO (yO a0 v3 v4 hv4) k3 (wkS k (fU (.inl (vaQ k4)) mV))) k<|cZ k2<|se (cI k k (by intro _ h;cases h)) k<|se (cI k k (by intro _ h;cases h)) k<|fW k2<|fW k2<|sn<|tn<|sS<|lpS k8<|oB h λv5 hv5 h=>se (cQK (rH a1 v5 hv5) k3 (fU (.inr (eW (xR k k) (eW (oU k r1_1) (eW (oU k r1_2) xS)))) mV)) k<|se (dB aH k k) k<|se (ws k) k<|sn<|tn<|sS<|cZ k2<|lpS k8<|oB h λv6 hv6 h=>se (cTK gO (qT a0 v5 v6 hv6) k3 (wkS k (fU (.inl (vaQ k4)) mV))) k<|cZ k2 ?_;refine se (cI k k (by intro _ h;cases h)) k<|se (cI k k (by intro _ h;cases h)) k<|fW k2<|fW k2<|sn<|tn<|aM (t:=mN [(0,.int a0),(3,.ptr 0 0 0),(6,.own 3 0 v4.1.length),(7,.bl v4.2),(8,.ptr 6 0 0),(9,.own 7 0 v6.1.length),(10,.bl v6.2)] [(0,⟨3,[[.int a1.n,.sc w1_1,.sc w1_2]]⟩),(3,⟨6,v4.1.map (ow eR)⟩),(4,⟨1,v5.src.map (ow eI)⟩),(5,⟨1,v5.tgt.map (ow eI)⟩),(6,⟨3,[oQv v5 4 5]⟩),(7,⟨6,v6.1.map (ow eR)⟩)] 8 ⟨0,true,xE W,true⟩) (bK (bH k2) (bP k<|cD (gO.plainO _) k<|bS k<|bS k<|gA k<|cD (gO.plainO _) k<|aR) k4)<|sQ<|sS<|cZ k2<|cZ k2<|oB h λv7 hv7 h=>se (lZ (yK v6.1 v4.1 v7 hv7) k (fU (.inl (tN gO k k)) (fU (.inl (tN gO k k)) mV))) k<|se (fM k) k<|cZ k2<|tQ h (λq8 h=>fZ 40 k q8<|bO k k<|bO k k<|bO k k<|pkS k3<|sn<|tn<|gT k k<|sS<|fW k2<|sn<|tn<|aG<|aE<|kI h k2) λq8 h=>?_;refine fZ 40 k q8<|cZ k2<|cZ k2<|se (aLC (by kernel_rfl) k k) k<|pkS k3<|sn<|tn<|dJ k h (λ_ h=>sS<|fW k2<|sn<|tn<|aG<|aE<|kI h k2) λ_ h=>?_;refine aD<|tn<|sQ<|sQ<|aN gV<|lp k8<|lp k8<|oB h λv10 hv10 h=>ae (cQK (rH a1 v10 hv10) k3 (fU (.inr (eW (xR k k) (eW (oU k r1_1) (eW (oU k r1_2) xS)))) mV)) k<|oB h λv11 hv11 h=>ae (lZ (aAf v5 v10 v11 hv11) k (fU (.inl (vaQ k4)) (fU (.inl (vaQ k4)) mV))) k<|ae (fM k) k<|an<|sG (by kernel_rfl)<|tn<|dJ k h (λ_ h=>sS<|fW k2<|sn<|tn<|aG<|aE<|kI h k2) λ_ h=>?_;refine aD<|tn<|sS<|fW k2<|sn<|tn<|sS<|lpS k8<|cZ k2<|oB h λv13 hv13 h=>se (iG (σ:=sg [(0,4),(1,5)]) (σ':=sg [(4,0),(5,1)]) (touch:=[4,5]) (news:=[]) (hl2:=[(4,⟨1,v13.1.map (ow eI)⟩),(5,⟨1,v13.2.1.map (ow eI)⟩)]) (n':=10) (r2:= .int v13.2.2) (aDH v5 1 v13 hv13) k k ⟨_,_,k,⟨_,_,k,k,⟨_,_,k,⟨k,k,k,k⟩,⟨_,_,k,⟨k,k,k,k⟩,k⟩⟩⟩,⟨_,_,k,k,k⟩⟩ ⟨⟨_,k,k,.inl ⟨k,dD.plainO _⟩⟩,k,⟨_,k,k,.inl ⟨k,dD.plainO _⟩⟩,k,aR⟩ k k k ⟨⟨_,k,k,.inl ⟨k,dD.plainO _⟩⟩,k,⟨_,k,k,.inl ⟨k,dD.plainO _⟩⟩,k,aR⟩ k k k ⟨k,dD.tame _ _,⟨k,dD.tame _ _,aR⟩⟩ k k) k<|cG h λq14 h=>cG h λq15 h=>fW k2<|sn<|tn<|sQ<|sS<|cZ k2<|cmS k4<|cZ k2<|tQ h (λq16 h=>fZ 55 k q16<|bO k k<|bO k k<|bO k k<|bO k k<|pkS k3<|cZ k2<|bO k k<|bO k k<|bO k k<|pkS k3<|sn<|tn<|aM (t:=mN [(0,.int a0),(3,.ptr 0 0 0),(6,.own 3 0 v4.1.length),(7,.bl v4.2),(9,.own 7 0 v6.1.length),(65,.bl true)] [(0,⟨3,[[.int a1.n,.sc w1_1,.sc w1_2]]⟩),(3,⟨6,v4.1.map (ow eR)⟩),(7,⟨6,v6.1.map (ow eR)⟩)] 10 ⟨0,true,xE W,true⟩) (bK (bH k2) (bP k<|cD (gO.plainO _) k<|cD (gO.plainO _) k<|aR) k4)<|gT k k<|sS<|fW k2<|sn<|tn<|aG<|aE<|kI h k2) λq16 h=>?_;refine fZ 55 k q16<|cZ k2<|cZ k2<|oB h λv17 hv17 h=>se (lZ (yK v6.1 v4.1 v17 hv17) k (fU (.inl (tN gO k k)) (fU (.inl (tN gO k k)) mV))) k<|se (fM k) k<|pkS k3<|cZ k2<|tQ h (λq18 h=>fZ 61 k q18<|bO k k<|bO k k<|bO k k<|pkS k3<|sn<|tn<|aM (t:=mN [(0,.int a0),(3,.ptr 0 0 0),(6,.own 3 0 v4.1.length),(7,.bl v4.2),(9,.own 7 0 v6.1.length),(65,.bl true)] [(0,⟨3,[[.int a1.n,.sc w1_1,.sc w1_2]]⟩),(3,⟨6,v4.1.map (ow eR)⟩),(7,⟨6,v6.1.map (ow eR)⟩)] 10 ⟨0,true,xE W,true⟩) (bK (bH k2) (bP k<|cD (gO.plainO _) k<|cD (gO.plainO _) k<|aR) k4)<|gT k k<|sS<|fW k2<|sn<|tn<|aG<|aE<|kI h k2) λq18 h=>?_;refine fZ 61 k q18<|cZ k2<|cZ k2<|se (aLC (by kernel_rfl) k k) k<|pkS k3<|sn<|tn<|aM (t:=mN [(0,.int a0),(3,.ptr 0 0 0),(6,.own 3 0 v4.1.length),(7,.bl v4.2),(9,.own 7 0 v6.1.length),(65,.bl (!(v6.2==v4.2)))] [(0,⟨3,[[.int a1.n,.sc w1_1,.sc w1_2]]⟩),(3,⟨6,v4.1.map (ow eR)⟩),(7,⟨6,v6.1.map (ow eR)⟩)] 10 ⟨0,true,xE W,true⟩) (bK (bH k2) (bP k<|cD (gO.plainO _) k<|cD (gO.plainO _) k<|aR) k4)<|dJ k h (λ_ h=>sS<|fW k2<|sn<|tn<|aG<|aE<|kI h k2) λ_ h=>?_;refine aD<|tn<|sS<|fW k2<|sn<|tn<|sS<|cZ k2<|cZ k2<|oB h λv20 hv20 h=>dT (t:=mN [(0,.int a0),(3,.ptr 0 0 0),(6,.own 3 0 v4.1.length),(7,.bl v4.2),(9,.own 7 0 v6.1.length),(12,.int 1),(65,.bl (!(v6.2==v4.2))),(66,.own 7 0 v6.1.length),(67,.int 1)] [(0,⟨3,[[.int a1.n,.sc w1_1,.sc w1_2]]⟩),(3,⟨6,v4.1.map (ow eR)⟩),(7,⟨6,v6.1.map (ow eR)⟩)] 10 ⟨0,true,xE W,true⟩) (bK (bH k2) (bP k<|cD (gO.plainO _) k<|cD (gO.plainO _) k<|aR) k4)<|aOZ (σ:=sg [(0,7)]) (σ':=sg [(7,0)]) (touch:=[7]) (news:=[]) (hl2:=[(7,⟨6,v20.1.map (ow eR)⟩)]) (n':=10) (r2:= .int v20.2) (aEn v6.1 1 v20 hv20) k k ⟨_,_,k,⟨k,k,k,k⟩,⟨_,_,k,k,k⟩⟩ ⟨⟨_,k,k,.inl ⟨k,gO.plainO _⟩⟩,k,aR⟩ k k k ⟨⟨_,k,k,.inl ⟨k,gO.plainO _⟩⟩,k,aR⟩ k k k ⟨k,gO.tame _ _,aR⟩ k k k k k (uC ⟨k,k,k,k,k,k,k,k,k,aR⟩) (uD (skip:=[7]) ⟨.inr (aAO k),.inr (gO.df _ _),.inl (by decide),aR⟩)<|cG h λq21 h=>fW k2<|sn<|tn<|sS<|fW k2<|sn<|tn<|sS<|cZ k2<|cZ k2<|oB h λv22 hv22 h=>se (lZ (aAg v20.1 1 v22 hv22) k (fU (.inl (tN gO k (by first|rfl|simp only [List.length_set,of_decide_eq_true q21]))) (wkS k mV))) k<|fW k2<|sn<|tn ?_;refine sQ<|sS<|cZ k2<|cmS k4<|sn<|tn<|dJ k h (λ_ h=>sS<|fW k2<|sn<|tn<|aG<|aE<|kI h k2) λ_ h=>?_;refine aD<|tn<|sQ<|sS<|cZ k2<|cZ k2<|cmS k4<|sn<|tn<|dJ k h (λ_ h=>sS<|fW k2<|sn<|tn<|aG<|aE<|kI h k2) λ_ h=>?_;exact aD<|tn<|sS<|cZ k2<|lpS k8<|oB h λv25 hv25 h=>se (cQK (rH a1 v25 hv25) k3 (fU (.inr (eW (xR k k) (eW (oU k r1_1) (eW (oU k r1_2) xS)))) mV)) k<|oB h λv26 hv26 h=>se (cTK gO (qT a0 v25 v26 hv26) k3 (wkS k (fU (.inl (vaQ k4)) mV))) k<|cZ k2<|se (cI k k (by intro _ h;cases h)) k<|se (cI k k (by intro _ h;cases h)) k<|fW k2<|fW k2<|sn<|tn<|sQ<|sS<|cZ k2<|cZ k2<|oB h λv27 hv27 h=>se (lZ (yK v26.1 v4.1 v27 hv27) k (fU (.inl (tN gO k k)) (fU (.inl (tN gO k k)) mV))) k<|se (fM k) k<|cZ k2<|tQ h (λq28 h=>fZ 88 k q28<|bO k k<|bO k k<|bO k k<|pkS k3<|sn<|tn<|aM (t:=mN [(9,.own 7 0 v20.1.length),(12,.int v20.2),(92,.bl true)] [(7,⟨6,v20.1.map (ow eR)⟩)] 13 ⟨0,true,xE W,true⟩) (bK (jP ⟨_,k,⟨k,k,(by simp only [aL,lA,lT,lR,lC,lN,of_decide_eq_true q21]),k⟩⟩ (bH k2)) (cD (gO.plainO _) k<|aR) k4)<|gT k k<|sS<|fW k2<|sn<|tn<|aG<|aE<|kI h k2) λq28 h=>fZ 88 k q28<|cZ k2<|cZ k2<|se (aLC (by kernel_rfl) k k) k<|pkS k3<|sn<|tn<|aM (t:=mN [(9,.own 7 0 v20.1.length),(12,.int v20.2),(92,.bl (!(v26.2==v4.2)))] [(7,⟨6,v20.1.map (ow eR)⟩)] 13 ⟨0,true,xE W,true⟩) (bK (jP ⟨_,k,⟨k,k,(by simp only [aL,lA,lT,lR,lC,lN,of_decide_eq_true q21]),k⟩⟩ (bH k2)) (cD (gO.plainO _) k<|aR) k4)<|dJ k h (λ_ h=>sS<|fW k2<|sn<|tn<|aG<|aE<|kI h k2) λ_ h=>aD<|tn<|sS<|fW k2<|sn<|tn<|sS<|cZ k2<|cZ k2<|oB h λv30 hv30 h=>se (lZ (aAg v20.1 1 v30 hv30) k (fU (.inl (tN gO k (by first|rfl|simp only [List.length_set,of_decide_eq_true q21]))) (wkS k mV))) k<|fW k2<|sn<|tn<|sQ<|sS<|cZ k2<|cmS k4<|sn<|tn<|dJ k h (λ_ h=>sS<|fW k2<|sn<|tn<|aG<|aE<|kI h k2) λ_ h=>aD<|tn<|sQ<|sS<|cZ k2<|cZ k2<|cmS k4<|sn<|tn<|dJ k h (λ_ h=>sS<|fW k2<|sn<|tn<|aG<|aE<|kI h k2) λ_ h=>aD<|tn<|sS<|fW k2<|sn<|tn<|aG<|kI h k2
end
noncomputable section
def nRe (r:Rp):Nat:=2+nI r.q.src+nI r.q.tgt+nI r.dims+nMs r.maps
def aPi (k:Int) (r:Rp):Rp:=⟨k,⟨k+1,mvI (k+2) r.q.src,mvI (k+2+nI r.q.src) r.q.tgt⟩,mvI (k+2+nI r.q.src+nI r.q.tgt) r.dims,aNr (k+2+nI r.q.src+nI r.q.tgt+nI r.dims) r.maps⟩
def nRs:List Rp→Nat:=zZ nRe
def aPj:Int→List Rp→List Rp:=mvS aPi nRe
theorem aPk (k:Int) (l:List Rp):(aPj k l).length=l.length:=rU l k
theorem aSD {l:List Rp} (h: ∀ r∈l,bR r):nRs l≤4398046511106*l.length:=by
 refine aLv (nv:=nRe) (c:=4398046511106) λr hr=>?_;have:=aSp (h r hr);unfold nR nQ at this;unfold nRe;omega
theorem aSr {l:List Rp} {k:Int} (h0:0≤k) (hk:k+nRs l≤4611686018427387904) (hl:l.length≤4611686018427387904) (hb: ∀ r∈l,bR r):rS l k=some (aPj k l,k+nRs l):=by
 unfold rS;rw [aDw (mv:=aPi) (nv:=nRe) h0 hk hl (λr i k hi hm g0 g1=>?_) (λr k=>?_),aB]
 ·rfl
 ·have hml:(r[i]).maps.length ≤1048576:=(hb _ hm).2.2.1.1;unfold nRe at g1;unfold nO;simp only;rw [jN hi,aI,dY hi,aB,cB (x:=k+1) (by omega),cB (x:=k+1+1) (by omega),show k+1+1=k+2 by omega,aNq (by omega) (by omega),aB];simp only [yD,decide_true,aI];rw [aNq (by omega) (by omega),aB];simp only [yD,decide_true,aI];rw [aNq (by omega) (by omega),aB];simp only [yD,decide_true,aI];rw [aSn (by omega) (by omega) (by omega),aB];simp only [aPh,decide_true,aI,cO];unfold aPi nRe;congr 4;omega
 ·unfold nO;simp only;rw [kV (bJ _),aW]
theorem aSs {l:List Rp} {k:Int} (h0:0≤k) (hk:k+nRs l≤4611686018427387904) (hl:l.length≤4611686018427387904) (hb: ∀ r∈l,bR r):oD (aPj k l) k=some (k+nRs l):=by
 have hm:(aPj k l).length=l.length:=rU l k;unfold oD;rw [aDx (l:=l) (nv:=nRe) h0 hk hl (λi hi k' e g0 g1=>?_) (λk'=>?_),aB]
 ·rfl
 ·have hml:(l[i]).maps.length ≤1048576:=(hb _ (List.getElem_mem hi)).2.2.1.1;unfold nRe at g1;unfold nT;simp only;rw [hm,jN hi,aI,dY (by omega),aB,aPe (v:=aPi k' l[i]) (by unfold aPj;rw [aJP hi,e]) (by omega)];unfold aPi;simp only [decide_true,iC,aW,aB,cB (x:=k'+1) (by omega)];rw [cB (x:=k'+1+1) (by omega),show k'+1+1=k'+2 by omega,aQk (by omega) (by omega),aB,aLw (by omega),aW,aQk (by omega) (by omega),aB,aLw (by omega),aW,aQk (by omega) (by omega),aB,aLw (by omega),aW,aSo (by omega) (by omega) (by omega),aB,aLw (by omega),aW];unfold nRe;congr 3;omega
 ·unfold nT;simp only;rw [hm,kV (bJ _),aW]
theorem aQl (p:Int) {q:Qv} (hb:bQ q): ∃ L b,fT p q=some (L,b)∧iB p q=some (L,b)∧L.length≤20∧(∀ r∈L,bR r)∧(b=true→ ∃ R,eH q=some (R,true)∧L.length=R.length∧ ∀ (i:Nat) (h:i<L.length),R[i]? =some L[i].dims):=by
 obtain ⟨R,b,h1,h2,h3⟩:=aRI hb;unfold fT iB;rw [h1,h2];simp only [aB];rcases h3 with ⟨rfl,rfl⟩|⟨rfl,n,H,rfl⟩
 ·refine ⟨[],false,rfl,?_,by simp,by simp,λh=>by cases h⟩;rw [eN (r:= .inl []) rfl];rfl
 ·have hl:=aGk H
  have hrow: ∀ x∈kZ q n,bI x:=λx hx=>by
   have:=(H.vec ((xC H x).1 hx)).1.1;show x.length≤1048576;omega
  have key: ∀ (d i:Nat) (acc:List Rp),i+d=(kZ q n).length→acc.length=i→(∀ r∈acc,bR r)→(∀ (j:Nat) (h:j<acc.length),(kZ q n)[j]? =some acc[j].dims)→(i=0∨xD p=true)→
    ∃ (L:List Rp) (b:Bool),Lp (dV p q (kZ q n,true)) (acc,(i:Int))=some (bif b then .inl L else .inr ([],false))∧Lp (dW p q (kZ q n,true)) (acc,(i:Int))=some (bif b then .inl L else .inr ([],false))∧(b=true→L.length=(kZ q n).length∧(∀ r∈L,bR r)∧((kZ q n).length=0∨xD p=true)∧ ∀ (j:Nat) (h:j<L.length),(kZ q n)[j]? =some L[j].dims):=by
   intro d;induction d with
   |zero=>
    intro i acc hi ha hr hd hF;refine ⟨acc,true,eN ?_,eN ?_,λ_=>⟨by omega,hr,?_,hd⟩⟩
    ·unfold dV;simp only;rw [kV (by omega),aW];rfl
    ·unfold dW;simp only;rw [kV (by omega),aW];rfl
    ·rcases hF with hF|hF
     ·exact .inl (by omega)
     ·exact .inr hF
   |succ d ih=>
    intro i acc hi ha hr hd hF;have hil:i<(kZ q n).length:=by omega
    obtain ⟨r,b,e1,e2,e3⟩:=aNp p hb (hrow _ (List.getElem_mem hil))
    have b1:dV p q (kZ q n,true) (acc,(i:Int))=some (bif b then .inl (acc++[r],((i+1:Nat):Int)) else .inr (.inr ([],false))):=by
     unfold dV;simp only;rw [jN hil,aI,dY hil,aB,e1,aB];cases b with
     |false=>rfl
     |true=>rw [iC,aW,bF (by omega),aI,bT hil (by omega)];rfl
    have b2:dW p q (kZ q n,true) (acc,(i:Int))=some (bif b then .inl (acc++[r],((i+1:Nat):Int)) else .inr (.inr ([],false))):=by
     unfold dW;simp only;rw [jN hil,aI,aI,dY hil,aB,e2,aB];cases b with
     |false=>rfl
     |true=>rw [iC,aW,bF (by omega),aI,bT hil (by omega)];rfl
    rcases e3 with ⟨rfl,rfl⟩|⟨rfl,_,hbr,hF2,hdm⟩
    ·exact ⟨[],false,eN b1,eN b2,λh=>by cases h⟩
    ·obtain ⟨L,c,g1,g2,g3⟩:=ih (i+1) (acc++[r]) (by omega) (by simp;omega) (λy hy=>by
      rcases dS.1 hy with hy|hy
      ·exact hr y hy
      ·rcases List.mem_singleton.1 hy with rfl;exact hbr) (λj hj=>by
      rcases dI j acc.length with h'|h'
      ·rw [List.getElem_append_left h'];exact hd j h'
      ·have:j=i:=by simp at hj;omega
       subst this;rw [List.getElem_append_right h',gS hil]
       simp [hdm]) (.inr hF2)
     exact ⟨L,c,(lD b1).trans g1,(lD b2).trans g2,g3⟩
  obtain ⟨L,c,g1,g2,g3⟩:=key (kZ q n).length 0 [] (Nat.zero_add _) rfl (λr hr=>by cases hr) (λj hj=>by cases hj) (.inl rfl);rw [show ((0:Nat):Int)=0 from rfl] at g1 g2;rw [g1,g2];simp only [aB,iC,aW,aI];cases c with
  |false=>exact ⟨[],false,rfl,rfl,by simp,by simp,λh=>by cases h⟩
  |true=>
   obtain ⟨k1,k2,k3,k4⟩:=g3 rfl
   have hne:(kZ q n).length ≠0:=by
    have:=(xC H _).2 (aIK H (v:=0) H.Q.n1);intro h0;rw [List.length_eq_zero_iff.1 h0] at this;cases this
   have hF:xD p=true:=k3.resolve_left hne;refine ⟨L,true,rfl,?_,by omega,k2,λ_=>⟨kZ q n,rfl,k1,k4⟩⟩;simp only [aI,Sum.elim_inl];rw [aCp,hF];rfl
theorem zY {p:Int} {q:Qv} (fq:fQ q):gR p q=some true:=by
 unfold gR;rw [aTK fq (by decide) (by decide),aB];rcases aQG q 1048576 (by decide) (by decide) with e|⟨e1,e2,hb⟩
 ·rw [e];rfl
 ·rw [dQ (by omega),aW];obtain ⟨L,b,h1,h2,h3,h4,_⟩:=aQl p hb;have hL:L.length≤1048576∧ ∀ m∈L,bR m:=⟨by omega,h4⟩;have hn:=aSD h4;have hq1:q.src.length≤1048576:=hb.1;have hq2:q.tgt.length≤1048576:=hb.2.1;have hnq:nQ q≤2097152:=by unfold nQ;rw [aAX,aAX];omega
  simp only [aTL hb,aB,h1,h2,aSb hL,aSZ hb,decide_true,beq_self_eq_true,iC,aW];rw [aTV (by decide) (by omega),aB];simp only [mvQ,yD,decide_true,aI,aLw (show (0:Int)≤1 by decide),aW];rw [aSr (by decide) (by omega) (by omega) h4,aB];simp only [aPk,decide_true,aI];rw [aSs (by decide) (by omega) (by omega) h4,aB,aB];simp only [aLw (show (0:Int)≤1 by decide),decide_true,iC,aW]
end
end Go.Proofs.YtpppcfhgaehcjaaGreat

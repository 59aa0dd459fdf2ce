/-
  Several texts of the claim in one.
-/
import Derived.Test.YtghechfdejhapaaGreatProg
import Derived.Test.YtghechfdejhapaaGreatM7
set_option linter.unusedVariables false
set_option linter.unusedSimpArgs false
namespace Go.Proofs.YtghechfdejhapaaGreat
open Go.RowKit
noncomputable section
open Go.ChangeShapes Go.WideShapes Go.ChangeAt Go.RowKit
theorem oI:aBT Tryz.prog 3 (aCE 1 eI):=aPZ Tryz.underlying3
theorem oL:aBT Tryz.prog 22 (aCE 1 eL):=aGE Tryz.underlying22 (by decide) (by kernel_rfl) oI
theorem oQ:aBT Tryz.prog 24 (aCE 3 eQ):=by
 intro H enc w fuel cs d ps h hf;obtain ⟨x0,T0,u0⟩:=qT Tryz.underlying24 h hf aKH (i:=0) (ft:=3) rfl (k:=1) (by kernel_rfl) oI;obtain ⟨x1,T1,u1⟩:=qT Tryz.underlying24 h hf u0 (i:=1) (ft:=22) rfl (k:=1) (by kernel_rfl) oL;obtain ⟨x2,T2,u2⟩:=qT Tryz.underlying24 h hf u1 (i:=2) (ft:=22) rfl (k:=1) (by kernel_rfl) oL;exact ⟨⟨x0,x1,x2⟩,_,aKI Tryz.underlying24 h hf u2 (by kernel_rfl) _ rfl⟩
theorem oM:aBT Tryz.prog 111 (aCE 3 eM):=by
 intro H enc w fuel cs d ps h hf;obtain ⟨x0,T0,u0⟩:=qT Tryz.underlying111 h hf aKH (i:=0) (ft:=3) rfl (k:=1) (by kernel_rfl) oI;obtain ⟨x1,T1,u1⟩:=qT Tryz.underlying111 h hf u0 (i:=1) (ft:=3) rfl (k:=1) (by kernel_rfl) oI;obtain ⟨x2,T2,u2⟩:=qT Tryz.underlying111 h hf u1 (i:=2) (ft:=22) rfl (k:=1) (by kernel_rfl) oL;exact ⟨⟨x0,x1,x2⟩,_,aKI Tryz.underlying111 h hf u2 (by kernel_rfl) _ rfl⟩
theorem oMs:aBT Tryz.prog 25 (aCE 1 (λl:List Mt=>[.list 3 (l.map eM)])):=aGE Tryz.underlying25 (by decide) (by kernel_rfl) oM
theorem oR:aBT Tryz.prog 27 (aCE 6 eR):=by
 intro H enc w fuel cs d ps h hf;obtain ⟨x0,T0,u0⟩:=qT Tryz.underlying27 h hf aKH (i:=0) (ft:=3) rfl (k:=1) (by kernel_rfl) oI;obtain ⟨x1,T1,u1⟩:=qT Tryz.underlying27 h hf u0 (i:=1) (ft:=24) rfl (k:=3) (by kernel_rfl) oQ;obtain ⟨x2,T2,u2⟩:=qT Tryz.underlying27 h hf u1 (i:=2) (ft:=22) rfl (k:=1) (by kernel_rfl) oL;obtain ⟨x3,T3,u3⟩:=qT Tryz.underlying27 h hf u2 (i:=3) (ft:=25) rfl (k:=1) (by kernel_rfl) oMs;exact ⟨⟨x0,x1,x2,x3⟩,_,aKI Tryz.underlying27 h hf u3 (by kernel_rfl) _ rfl⟩
end
noncomputable section
theorem aQo {w:World} : ∀ {ds:List AV} {vs:List Value} {S:List Nat},RepVs w ds vs S→ ∀ d∈ds,∃ v S',RepD w d v S'
 | [],_,_,_,d,hd=>by cases hd
 |c::cs,vs,S,h,d,hd=>by
  simp only [RepVs] at h;obtain ⟨v,r,S1,S2,_,_,h3,h4⟩:=h;rcases eH.1 hd with rfl|h'
  ·exact ⟨v,S1,h3⟩
  ·exact aQo h4 d h'
theorem aQp {w:World} {b:Nat} : ∀ {ds:List AV} {o:Nat} {S:List Nat},RepCs w b o ds S→ ∀ d∈ds,∃ v S',RepD w d v S'
 | [],_,_,_,d,hd=>by cases hd
 |c::cs,o,S,h,d,hd=>by
  simp only [RepCs] at h;obtain ⟨v,S1,S2,_,_,_,_,h3,h4⟩:=h;rcases eH.1 hd with rfl|h'
  ·exact ⟨v,S1,h3⟩
  ·exact aQp h4 d h'
theorem aQq {w:World} {k b:Nat} : ∀ {es:List (List AV)} {o:Nat} {S:List Nat},RepEs w k b o es S→ ∀ cs∈es,∀ d∈cs,∃ v S',RepD w d v S'
 | [],_,_,_,cs,hc=>by cases hc
 |c::es,o,S,h,cs,hc=>by
  simp only [RepEs] at h;obtain ⟨S1,S2,_,_,h3,h4⟩:=h;rcases eH.1 hc with rfl|h'
  ·exact aQp h3
  ·exact aQq h4 cs h'
theorem aQr {w:World} {k:Nat} {es:List (List AV)} {v:Value} {S:List Nat} (h:RepD w (.list k es) v S):es.length≤9223372036854775807∧ ∀ cs∈es,∀ d∈cs,∃ v S',RepD w d v S':=by
 unfold RepD at h;obtain ⟨a,c,_,h2,h3,h4⟩:=h;have hm:maxLen≤9223372036854775807:=by decide
 refine ⟨by omega,?_⟩;rcases h4 with ⟨rfl,_⟩|⟨b,o,T,_,_,_,h5⟩
 ·intro cs hcs;cases hcs
 ·exact aQq h5
theorem aVf {w:World} {l:List Int} {v:Value} {S:List Nat} (h:RepD w (aEi l) v S):fI l:=by
 have:=(aQr (k:=1) (es:=List.map eI l) h).1
 rwa [eE] at this
theorem aNB {w:World} {ds:List AV} (h: ∀ d∈ds,∃ v S',RepD w d v S') {l:List Int} (hl:aEi l∈ds):fI l:=by
 obtain ⟨v,S,h⟩:=h _ hl;exact aVf h
theorem aTR {w:World} {ds:List AV} (h: ∀ d∈ds,∃ v S',RepD w d v S') {α:Type} {k:Nat} {e:α→List AV} {l:List α} (hl:AV.list k (l.map e)∈ds):fI l∧ ∀ x∈l,∀ d∈e x,∃ v S',RepD w d v S':=by
 obtain ⟨v,S,h⟩:=h _ hl;have:=aQr h;rw [eE] at this;exact ⟨this.1,λx hx=>this.2 _ (List.mem_map.2 ⟨x,hx,rfl⟩)⟩
theorem aXB {w:World} {m:Mt} (h: ∀ d∈eM m,∃ v S',RepD w d v S'):fM m:=aNB h (by simp [eM])
theorem aWE {w:World} {l:List Mt} {ds:List AV} (h: ∀ d∈ds,∃ v S',RepD w d v S') (hl:AV.list 3 (l.map eM)∈ds):fMs l:=by
 obtain ⟨h1,h2⟩:=aTR h hl;exact ⟨h1,λm hm=>aXB (h2 m hm)⟩
theorem aXC {w:World} {r:Rp} (h: ∀ d∈eR r,∃ v S',RepD w d v S'):fR r:=⟨⟨aNB h (by simp [eR]),aNB h (by simp [eR])⟩,aNB h (by simp [eR]),aWE h (by simp [eR])⟩
theorem aTS {w0 w:World} {v:Value} {S:List Nat} (h:aJo w (.bl true) v S):Ending.returned v= .returned (.bool true):=by rw [h.1]
end
noncomputable section
set_option maxRecDepth 10000
set_option maxHeartbeats 4000000
def rM (a0:(List (List Int))) (a1:(List (List Int))) (x1:Int):Option (Int ⊕ (Unit ⊕ Bool)):=
 bif decide (x1<(a0.length:Int)) then
 ((dG a0 x1).bind λv3=>
 (dG a1 x1).bind λv4=>
 (jH v3 v4).bind λv5=>
 bif !v5 then
 (some (.inr (.inr (false))))
 else
 (some (.inl (wr (x1+1)))))
 else
 (some (.inr (.inl ())))
def yJ (a0:(List (List Int))) (a1:(List (List Int))):Option Bool:=
 bif !decide ((a0.length:Int)=(a1.length:Int)) then
 (some (false))
 else
 ((Lp (rM a0 a1) 0).bind λy7=>
 Sum.elim (λy8=>
 some (true)
 )
 (λy9=>
 some y9
 )
 y7)
theorem aKY (a0:(List (List Int))) (a1:(List (List Int))) (r:Bool) (h:yJ a0 a1=some r):HasC Tryz.prog 45 [.list 1 (a0.map (dX 1 eI)),.list 1 (a1.map (dX 1 eI))] (.bl r):=by
 refine hM [.tmp 4] Tryz.func45 Tryz.ntmps45 k<|sR<|aT k2<|sQ<|sR<|am k k<|ln k4<|am k k<|ln k4<|cm k4<|an<|tn<|cF k h (λ_ h=>sR<|aT k2<|aC<|aA<|fF h k2) λ_ h=>?_;refine aD<|tn<|sQ<|sR<|aT k2<|aG<|oB h λy7 hy7 h=>bV (body:=(rM a0 a1)) hy7 (λ(x1:Int)=>mN [(0,.list 1 (a0.map (dX 1 eI))),(1,.list 1 (a1.map (dX 1 eI))),(5,.int x1)] [] 0) (λr e t=>Sum.elim (λa=>(λr e t=>e= .exit 0∧Ent t (mN [] [] 0)) a e t) (λb=>(λr e t=>e= .ret∧kU TT [.tmp 4] (.bl r) .ret t) b e t) r) (bJ (bG k2) aQ k4) ?_ ?_
 ·intro x1 o h;exact sQ<|sR<|am k k<|am k k<|ln k4<|cm k4<|an<|tn<|cF k h (λ_ h=>aD<|tn<|sQ<|aG<|sQ<|aW jJ<|am k k<|am k k<|oB h λv3 hv3 h=>ae (xl hv3 k) k<|lr k7<|am k k<|am k k<|oB h λv4 hv4 h=>ae (xl hv4 k) k<|lr k7<|oB h λv5 hv5 h=>ae (aH (nM v3 v4 v5 hv5) k (bU k (bU k aL))) k<|ae (cK k) k<|an<|xX (by kernel_rfl)<|tn<|cF k h (λ_ h=>sR<|aT k2<|aC<|aR<|aA<|aA<|sp h ⟨_,k,k,bH k k k (kR k)⟩) λ_ h=>aD<|aV<|tn<|rg<|am k k<|ae (bC k k) k<|aT k2<|sp h ⟨_,k,(bJ (bG k2) aQ k4)⟩) λ_ h=>aY<|aB<|aB<|sp h ⟨_,k,k,(bJ aQ aQ k4)⟩
 ·intro e t hX;rcases y7 with y8|y9
  ·obtain ⟨rfl,hent⟩:=hX;exact aM<|tn<|aN hent<|sR<|aT k2<|aC<|fF h k2
  ·obtain ⟨rfl,hent⟩:=hX;exact aR<|aA<|sp h hent
def yK (a0:Sc) (a1:Sc):Option Bool:=
 bif !decide (a0.size=a1.size) then
 (some (false))
 else
 ((yJ a0.basis a1.basis).bind λv2=>
 bif !v2 then
 (some (false))
 else
 (some (true)))
theorem aKZ (a0:Sc) (a1:Sc) (r:Bool) (h:yK a0 a1=some r):HasC Tryz.prog 99 [.agg (eS a0),.agg (eS a1)] (.bl r):=by
 exact hM [.tmp 4] Tryz.func99 Tryz.ntmps99 k<|sR<|ae (wb k) k<|ae (wb k) k<|aT k2<|sQ<|sR<|fp k8<|lp k8<|fp k8<|lp k8<|cm k4<|an<|tn<|cF k h (λ_ h=>sR<|aT k2<|aC<|aA<|fF h k2) λ_ h=>aD<|tn<|sQ<|sR<|fp k8<|lp k8<|fp k8<|lp k8<|oB h λv2 hv2 h=>ae (aH (aKY a0.basis a1.basis v2 hv2) k (bU k (bU k aL))) k<|ae (cK k) k<|an<|tn<|cF k h (λ_ h=>sR<|aT k2<|aC<|aA<|fF h k2) λ_ h=>aD<|tn<|sR<|aT k2<|aC<|fF h k2
def pW (a0:(List Sc)) (a1:(List Sc)) (x1:Int):Option (Int ⊕ (Unit ⊕ Bool)):=
 bif decide (x1<(a0.length:Int)) then
 ((dG a0 x1).bind λv3=>
 (dG a1 x1).bind λv4=>
 (yK v3 v4).bind λv5=>
 bif !v5 then
 (some (.inr (.inr (false))))
 else
 (some (.inl (wr (x1+1)))))
 else
 (some (.inr (.inl ())))
def vR (a0:(List Sc)) (a1:(List Sc)):Option Bool:=
 bif !decide ((a0.length:Int)=(a1.length:Int)) then
 (some (false))
 else
 ((Lp (pW a0 a1) 0).bind λy7=>
 Sum.elim (λy8=>
 some (true)
 )
 (λy9=>
 some y9
 )
 y7)
theorem aIq (a0:(List Sc)) (a1:(List Sc)) (r:Bool) (h:vR a0 a1=some r):HasC Tryz.prog 40 [.list 2 (a0.map eS),.list 2 (a1.map eS)] (.bl r):=by
 refine hM [.tmp 4] Tryz.func40 Tryz.ntmps40 k<|sR<|aT k2<|sQ<|sR<|am k k<|ln k4<|am k k<|ln k4<|cm k4<|an<|tn<|cF k h (λ_ h=>sR<|aT k2<|aC<|aA<|fF h k2) λ_ h=>?_;refine aD<|tn<|sQ<|sR<|aT k2<|aG<|oB h λy7 hy7 h=>bV (body:=(pW a0 a1)) hy7 (λ(x1:Int)=>mN [(0,.list 2 (a0.map eS)),(1,.list 2 (a1.map eS)),(5,.int x1)] [] 0) (λr e t=>Sum.elim (λa=>(λr e t=>e= .exit 0∧Ent t (mN [] [] 0)) a e t) (λb=>(λr e t=>e= .ret∧kU TT [.tmp 4] (.bl r) .ret t) b e t) r) (bJ (bG k2) aQ k4) ?_ ?_
 ·intro x1 o h;exact sQ<|sR<|am k k<|am k k<|ln k4<|cm k4<|an<|tn<|cF k h (λ_ h=>aD<|tn<|sQ<|aG<|sQ<|aW jJ<|am k k<|am k k<|oB h λv3 hv3 h=>ae (xl hv3 k) k<|lr k7<|am k k<|am k k<|oB h λv4 hv4 h=>ae (xl hv4 k) k<|lr k7<|oB h λv5 hv5 h=>ae (aH (aKZ v3 v4 v5 hv5) k (bD (pG k) (bD (pG k) aL))) k<|ae (cK k) k<|an<|xX (by kernel_rfl)<|tn<|cF k h (λ_ h=>sR<|aT k2<|aC<|aR<|aA<|aA<|sp h ⟨_,k,k,bH k k k (kR k)⟩) λ_ h=>aD<|aV<|tn<|rg<|am k k<|ae (bC k k) k<|aT k2<|sp h ⟨_,k,(bJ (bG k2) aQ k4)⟩) λ_ h=>aY<|aB<|aB<|sp h ⟨_,k,k,(bJ aQ aQ k4)⟩
 ·intro e t hX;rcases y7 with y8|y9
  ·obtain ⟨rfl,hent⟩:=hX;exact aM<|tn<|aN hent<|sR<|aT k2<|aC<|fF h k2
  ·obtain ⟨rfl,hent⟩:=hX;exact aR<|aA<|sp h hent
end
noncomputable section
theorem aXD {a b:List (List Int)} (h:a.length≤1048576∧ ∀ m∈a,bI m):yJ a b=some (decide (a=b)):=by
 obtain ⟨h,hb⟩:=h;unfold yJ;rw [aBX];by_cases e:a.length=b.length
 ·rw [bF e,eT,aS];refine aCh (by omega) e (λk h1 h2=>?_) ?_
  ·unfold rM;rw [kV h1,aO,dY h1,aE,dY h2,aE,aPh (hb _ (List.getElem_mem h1)),aE];cases decide (a[k]=b[k]) <;> rfl
  ·unfold rM;rw [nT (bK _),aS]
 ·rw [bZ e,Bool.not_false,aO,bZ (by rintro rfl;exact e rfl)]
theorem aXq {a b:Sc} (h:bS a):yK a b=some (decide (a=b)):=by
 unfold yK;rw [gX (d:=decide (a.basis=b.basis)) (λ_=>?_)]
 ·cases a;cases b;simp
 ·rw [aXD h.1,aE,aJR]
theorem aXE {a b:List Sc} (h:a.length≤1048576∧ ∀ m∈a,bS m):vR a b=some (decide (a=b)):=by
 obtain ⟨h,hb⟩:=h;unfold vR;rw [aBX];by_cases e:a.length=b.length
 ·rw [bF e,eT,aS];refine aCh (by omega) e (λk h1 h2=>?_) ?_
  ·unfold pW;rw [kV h1,aO,dY h1,aE,dY h2,aE,aXq (hb _ (List.getElem_mem h1)),aE];cases decide (a[k]=b[k]) <;> rfl
  ·unfold pW;rw [nT (bK _),aS]
 ·rw [bZ e,Bool.not_false,aO,bZ (by rintro rfl;exact e rfl)]
end
noncomputable section
set_option maxRecDepth 10000
set_option maxHeartbeats 4000000
def vS (a0:Int) (a1:(List (List Int))):Option Mt:=
 (jG a1).bind λv1=>
 some ((⟨(a1.length:Int),a0,v1⟩:Mt))
theorem aIr (a0:Int) (a1:(List (List Int))) (r:Mt) (h:vS a0 a1=some r):HasC Tryz.prog 260 [.int a0,.list 1 (a1.map (dX 1 eI))] (.agg (eM r)):=by
 exact hM [.cell 4 113] Tryz.func260 Tryz.ntmps260 k<|sR<|ae (cD aJ k k) k<|an<|tn<|sR<|am k k<|ln k4<|am k k<|am k k<|oB h λv1 hv1 h=>ae (cL bT (aCG a1 v1 hv1) k3 (bU k aL)) k<|ae (gK aJ k k k k k k) k<|ae (ws k) k<|an<|tn<|aC<|sp h (bH k k k (oN (aZ (k) (aZ (k) (aZ (gD bT k k) gO)))))
def yL (v2:(Mt×(List Int))) (x1:((List (List Int))×Int)):Option (((List (List Int))×Int) ⊕ (List (List Int))):=
 bif decide (x1.2<((v2.2.length:Nat):Int)) then
 ((dJ v2.1 x1.2).bind λv4=>
 (mS ((v2.1.cells.drop (0+(wr (x1.2*v2.1.cols)).toNat)).take ((wr ((wr (x1.2+1))*v2.1.cols)).toNat - (wr (x1.2*v2.1.cols)).toNat))).bind λv5=>
 bif decide (x1.1.length+1≤4294967296) then
 (some (.inl ((x1.1++[v5]),wr (x1.2+1))))
 else none)
 else
 (some (.inr x1.1))
def aAX (a0:Int) (a1:Int) (a2:(List (List Int))):Option Sc:=
 (vS a1 a2).bind λv1=>
 (aAI a0 v1).bind λv2=>
 (Lp (yL v2) ([],0)).bind λy7=>
 some ((⟨a1,y7⟩:Sc))
theorem aIR (a0:Int) (a1:Int) (a2:(List (List Int))) (r:Sc) (h:aAX a0 a1 a2=some r):HasC Tryz.prog 233 [.int a0,.int a1,.list 1 (a2.map (dX 1 eI))] (.agg (eS r)):=by
 refine hM [.cell 6 99] Tryz.func233 Tryz.ntmps233 k<|sR<|ae (cD aJ k k) k<|an<|tn<|sR<|am k k<|am k k<|am k k<|oB h λv1 hv1 h=>ae (cM (aIr a1 a2 v1 hv1) k3 (bU k (bU k aL))) k<|oB h λv2 hv2 h=>ae (AEff.conv (vE (x:= .tuple [.agg [.int v2.1.rows,.int v2.1.cols,.own 2 0 (v2.1.cells.map eI).length],.own 3 0 (v2.2.map eI).length]) (nb:=[(2,⟨1,cE (v2.1.cells.map eI)⟩),(3,⟨1,cE (v2.2.map eI)⟩)]) (aLG a0 v1 v2 hv2) k (by rfl) k k (jT (bW aQ (bW aQ (bW (bT.good _) aBS))) (jT (bT.good _) aCD)) (bU k (bD (vaM k2) aL))) (v':= .tuple [.agg [.int v2.1.rows,.int v2.1.cols,.own 2 0 v2.1.cells.length],.own 3 0 v2.2.length]) (ed':=[(2,some ⟨1,v2.1.cells.map (ow eI)⟩),(3,some ⟨1,v2.2.map (ow eI)⟩)]) (by simp only [aP]) (aBR (nb':=[(2,⟨1,v2.1.cells.map (ow eI)⟩),(3,⟨1,v2.2.map (ow eI)⟩)]) (by simp only [gY]))) k<|am k k<|ae (cH k k (by intro _ h;cases h)) k<|ae (cH k k (by intro _ h;cases h)) k<|ae (cD aJ k k) k<|ae (ws k) k<|aT k2<|sR<|aT k2<|sQ<|sR<|am k k ?_;refine ae (dC aJ k k k k) k<|am k k<|an<|tn<|aG<|oB h λy7 hy7 h=>bV (body:=(yL v2)) hy7 (λ(x1:((List (List Int))×Int))=>mN [(1,.int a1),(6,.ptr 0 0 0),(7,.ptr 1 0 0),(9,.own 3 0 x1.1.length),(20,.int ((v2.2.length:Nat):Int)),(21,.int x1.2)] [(0,⟨2,[[.int 0,.nil 1]]⟩),(1,⟨3,[oMt v2.1 2]⟩),(2,⟨1,v2.1.cells.map (ow eI)⟩),(3,⟨1,x1.1.map (ow (dX 1 eI))⟩)] 4) (λr e t=>e= .exit 0∧Ent t (mN [(1,.int a1),(6,.ptr 0 0 0),(9,.own 1 0 r.length)] [(0,⟨2,[[.int 0,.nil 1]]⟩),(1,⟨1,r.map (ow (dX 1 eI))⟩)] 2)) (fT (σ:=sg [(0,0),(1,4),(2,2)]) (tW 3 k2 (kB ⟨_,k,⟨k,k,k,k⟩⟩ (bG k2))) (cC k<|eJ k<|bP k<|hX k k<|aQ) k) ?_ ?_
 ·intro x1 o h;refine sR<|cm k4<|an<|tn<|sQ<|cF k h (λ_ h=>?_) λ_ h=>aY<|aB<|aB<|sp h ⟨_,k,k,(yC [0,3] (bG k2) (cC k<|cA (bY.plainO _) k<|aQ) k4)⟩;exact aD<|tn<|sQ<|aG<|sR<|am k k<|aT k2<|rg<|am k k<|lp k8<|am k k<|oB h λv4 hv4 h=>ae (AEff.pureE (fX (σ:=sg [(0,2)]) (σ':=sg [(2,0)]) (touch:=[2]) (news:=[]) (hl2:=[(2,⟨1,v2.1.cells.map (ow eI)⟩)]) (n':=4) (r2:= .own 2 (0+(wr (x1.2*v2.1.cols)).toNat) ((wr ((wr (x1.2+1))*v2.1.cols)).toNat - (wr (x1.2*v2.1.cols)).toNat)) (fB v2.1 x1.2 v4 hv4) k k ⟨_,_,k,⟨_,_,k,k,⟨_,_,k,k,⟨_,_,k,⟨k,k,k,k⟩,k⟩⟩⟩,⟨_,_,k,k,k⟩⟩ ⟨⟨_,k,k,.inl ⟨k,bT.plainO _⟩⟩,k,aQ⟩ k k k ⟨⟨_,k,k,.inl ⟨k,bT.plainO _⟩⟩,k,aQ⟩ k ⟨k,k,(by simp only [aP,lA,lT,lR,lC,lN]),k⟩ k ⟨k,bT.tame _ _,aQ⟩ k k) ⟨k,k,aQ⟩) k<|oB h λv5 hv5 h=>ae (cL bT (aAv ((v2.1.cells.drop (0+(wr (x1.2*v2.1.cols)).toNat)).take ((wr ((wr (x1.2+1))*v2.1.cols)).toNat - (wr (x1.2*v2.1.cols)).toNat)) v5 hv5) k3 (bD (aUk bT k) aL)) k<|ae (wl k) k<|cG h λq6 h=>ae (uR aJ (l:=x1.1) (c:=[.own 4 0 v5.length]) q6 k k k k k k k k k k k k k k) k<|aa k k<|an<|aV<|tn<|aN (t:=mN [(1,.int a1),(6,.ptr 0 0 0),(7,.ptr 1 0 0),(9,.own 6 0 ((x1.1++[v5]).length)),(20,.int ((v2.2.length:Nat):Int)),(21,.int x1.2)] [(0,⟨2,[[.int 0,.nil 1]]⟩),(1,⟨3,[oMt v2.1 2]⟩),(2,⟨1,v2.1.cells.map (ow eI)⟩),(6,⟨1,List.map (ow (dX 1 eI)) (x1.1++[v5])⟩)] 7) (Ent.trans (sY (b:=6) (b':=4) (j:=0) (es':=v5.map eI) k k k k (aP _ _) (bT.frzs _)) (bJ (tW 3 k2 (kB ⟨_,k,⟨k,k,(by simp only [aP,lA,lT,lR,lC,lN]),k⟩⟩ (bG k2))) (cC k<|eJ k<|bP k<|hX ⟨_,k,k,.inl ⟨aAc v5 k,bY.plainO _⟩⟩ k<|aQ) k4))<|rg<|ae (bC k k) k<|am k k<|an<|tn<|sp h ⟨_,k,(yC [0,1,2,6] (bG k2) (cC k<|eJ k<|bP k<|cA (bY.plainO _) k<|aQ) k4)⟩
 ·rintro e t ⟨rfl,hent⟩;exact aM<|tn<|aN hent<|sR<|am k k<|am k k<|ae (gK aJ k k k k k k) k<|ae (ws k) k<|an<|tn<|aC<|sp h (bH k k k (oN (aZ (k) (aZ (gD bY k k) gO))))
def oY (a1:(List (List Int))) (x1:((List Int)×Int)):Option (((List Int)×Int) ⊕ (List Int)):=
 bif decide (x1.2<(a1.length:Int)) then
 ((dG a1 x1.2).bind λv2=>
 bif decide (x1.1.length+v2.length≤4294967296) then
 (some (.inl ((x1.1++v2),wr (x1.2+1))))
 else none)
 else
 (some (.inr x1.1))
def nN (a0:Int) (a1:(List (List Int))):Option Mt:=
 (Lp (oY a1) ([],0)).bind λy4=>
 some ((⟨(a1.length:Int),a0,y4⟩:Mt))
theorem aFC (a0:Int) (a1:(List (List Int))) (r:Mt) (h:nN a0 a1=some r):HasC Tryz.prog 157 [.int a0,.list 1 (a1.map (dX 1 eI))] (.agg (eM r)):=by
 refine hM [.cell 4 113] Tryz.func157 Tryz.ntmps157 k<|sR<|ae (cD aJ k k) k<|an<|tn<|sR<|am k k<|ln k4<|am k k<|ae (gK aJ k k k k k k) k<|ae (cD aJ k k) k<|ae (ws k) k<|an<|tn<|sQ<|sR<|aT k2<|aG<|oB h λy4 hy4 h=>bV (body:=(oY a1)) hy4 (λ(x1:((List Int)×Int))=>mN [(1,.list 1 (a1.map (dX 1 eI))),(4,.ptr 0 0 0),(5,.ptr 1 0 0),(6,.int x1.2)] [(0,⟨3,[nJ]⟩),(1,⟨3,[[.int (a1.length:Int),.int a0,.own 2 0 x1.1.length]]⟩),(2,⟨1,x1.1.map (ow eI)⟩)] 3) (λr e t=>e= .exit 0∧Ent t (mN [(4,.ptr 0 0 0),(5,.ptr 1 0 0)] [(0,⟨3,[nJ]⟩),(1,⟨3,[[.int (a1.length:Int),.int a0,.own 2 0 r.length]]⟩),(2,⟨1,r.map (ow eI)⟩)] 3)) (fT (σ:=sg [(0,0),(1,1)]) (bG k2) (cC k<|hX ⟨_,k,k,.inr ⟨_,_,k,⟨_,_,k,k,⟨_,_,k,k,⟨_,_,k,⟨k,k,k,k⟩,k⟩⟩⟩,k⟩⟩ k<|hX k k<|aQ) k) ?_ ?_
 ·intro x1 o h;exact sQ<|sR<|am k k<|am k k<|ln k4<|cm k4<|an<|tn<|cF k h (λ_ h=>aD<|tn<|sQ<|aG<|aW jJ<|fp k8<|lp k8<|am k k<|am k k<|oB h λv2 hv2 h=>ae (xl hv2 k) k<|lr k7<|cG h λq3 h=>ae (uQ aJ (l:=x1.1) (m:=v2) sZ q3 k k k k k k k k k k k k) k<|fp k8<|ae (ws k) k<|an<|xX (by kernel_rfl)<|aV<|tn<|rg<|am k k<|ae (bC k k) k<|aT k2<|sp h ⟨_,k,(yC [0,1,3] (bG k2) (cC k<|eJ k<|bP k<|aQ) k4)⟩) λ_ h=>aY<|aB<|aB<|sp h ⟨_,k,k,(bJ (bG k2) (cC k<|eJ k<|bP k<|aQ) k4)⟩
 ·rintro e t ⟨rfl,hent⟩;exact aM<|tn<|aN hent<|sR<|lp k8<|ae (ws k) k<|an<|tn<|aC<|sp h (bH k k k (oN (aZ (k) (aZ (k) (aZ (gD bT k k) gO)))))
def nA (v1:(Mt×(List Int))) (x1:((List (List Int))×Int)):Option (((List (List Int))×Int) ⊕ (List (List Int))):=
 bif decide (x1.2<((v1.2.length:Nat):Int)) then
 (bif (decide (0≤wr (x1.2*v1.1.cols))&&(decide (wr (x1.2*v1.1.cols)≤wr ((wr (x1.2*v1.1.cols))+v1.1.cols))&&decide (wr ((wr (x1.2*v1.1.cols))+v1.1.cols)≤((v1.1.cells.length:Nat):Int)))) then
 (bif decide (([]:(List Int)).length +((v1.1.cells.drop (0+(wr (x1.2*v1.1.cols)).toNat)).take ((wr ((wr (x1.2*v1.1.cols))+v1.1.cols)).toNat - (wr (x1.2*v1.1.cols)).toNat)).length ≤4294967296) then
 (bif decide (x1.1.length+1≤4294967296) then
 (some (.inl ((x1.1++[(([]:(List Int))++((v1.1.cells.drop (0+(wr (x1.2*v1.1.cols)).toNat)).take ((wr ((wr (x1.2*v1.1.cols))+v1.1.cols)).toNat - (wr (x1.2*v1.1.cols)).toNat)))]),wr (x1.2+1))))
 else none)
 else none)
 else none)
 else
 (some (.inr x1.1))
def lO (a0:Int) (a1:Mt):Option (List (List Int)):=
 (mP a0 a1).bind λv1=>
 (Lp (nA v1) (([]:(List (List Int))),0)).bind λy6=>
 some (y6)
theorem aDr (a0:Int) (a1:Mt) (r:(List (List Int))) (h:lO a0 a1=some r):HasC Tryz.prog 182 [.int a0,.agg (eM a1)] (.list 1 (r.map (dX 1 eI))):=by
 refine hM [.tmp 4] Tryz.func182 Tryz.ntmps182 k<|sR<|ae (wb k) k<|aT k2<|sR<|am k k<|lp k8<|oB h λv1 hv1 h=>ae (AEff.conv (vE (x:= .tuple [.agg [.int v1.1.rows,.int v1.1.cols,.own 1 0 (v1.1.cells.map eI).length],.own 2 0 (v1.2.map eI).length]) (nb:=[(1,⟨1,cE (v1.1.cells.map eI)⟩),(2,⟨1,cE (v1.2.map eI)⟩)]) (aIe a0 a1 v1 hv1) k (by rfl) k k (jT (bW aQ (bW aQ (bW (bT.good _) aBS))) (jT (bT.good _) aCD)) (bU k (bD (pG k) aL))) (v':= .tuple [.agg [.int v1.1.rows,.int v1.1.cols,.own 1 0 v1.1.cells.length],.own 2 0 v1.2.length]) (ed':=[(1,some ⟨1,v1.1.cells.map (ow eI)⟩),(2,some ⟨1,v1.2.map (ow eI)⟩)]) (by simp only [aP]) (aBR (nb':=[(1,⟨1,v1.1.cells.map (ow eI)⟩),(2,⟨1,v1.2.map (ow eI)⟩)]) (by simp only [gY]))) k<|am k k<|ae (cH k k (by intro _ h;cases h)) k<|ae (cH k k (by intro _ h;cases h)) k<|ae (cD aJ k k) k<|ae (ws k) k<|aT k2<|sR<|ae (wl k) k<|aT k2<|aN (t:=mN [(5,.ptr 3 0 0),(6,.own 2 0 v1.2.length),(7,.own 4 0 (([]:(List (List Int))).length))] [(1,⟨1,v1.1.cells.map (ow eI)⟩),(2,⟨1,v1.2.map (ow eI)⟩),(3,⟨3,[oMt v1.1 1]⟩),(4,⟨1,List.map (ow (dX 1 eI)) ([]:(List (List Int)))⟩)] 5) (bJ (tW 2 k2 (kB ⟨_,k,⟨k,k,(by simp only [aP,lA,lT,lR,lC,lN]),k⟩⟩ aQ)) (bP k<|bP k<|eJ k<|cA (bY.plainO _) k<|aQ) k4)<|sQ<|sR ?_;refine aT k2<|aG<|oB h λy6 hy6 h=>bV (body:=(nA v1)) hy6 (λ(x1:((List (List Int))×Int))=>mN [(5,.ptr 0 0 0),(6,.own 2 0 v1.2.length),(7,.own 3 0 x1.1.length),(8,.int x1.2)] [(0,⟨3,[oMt v1.1 1]⟩),(1,⟨1,v1.1.cells.map (ow eI)⟩),(2,⟨1,v1.2.map (ow eI)⟩),(3,⟨1,x1.1.map (ow (dX 1 eI))⟩)] 4) (λr e t=>e= .exit 0∧Ent t (mN [(7,.own 0 0 r.length)] [(0,⟨1,r.map (ow (dX 1 eI))⟩)] 1)) (yC [3,1,2,4] (bG k2) (eJ k<|bP k<|bP k<|cA (bY.plainO _) k<|aQ) k4) ?_ ?_
 ·intro x1 o h;refine sQ<|sR<|am k k<|am k k<|ae (dC aJ k k k k) k<|cm k4<|an<|tn<|cF k h (λ_ h=>?_) λ_ h=>aY<|aB<|aB<|sp h ⟨_,k,k,(yC [3] (bG k2) (cA (bY.plainO _) k<|aQ) k4)⟩;refine aD<|tn<|sQ<|aG<|rg<|am k k<|ae (wl k) k<|fp k8<|lp k8<|am k k<|fp k8<|lp k8<|ae (gH k k) k<|am k k<|fp k8<|lp k8<|ae (gH k k) k<|fp k8<|lp k8<|ae (bC k k) k<|cG h λq3 h=>ae (aBy aJ (l:=wr (x1.2*v1.1.cols)) (h:=wr ((wr (x1.2*v1.1.cols))+v1.1.cols)) q3 k k k k k k k k) k<|cG h λq4 h=>ae (uQ aJ (l:=([]:(List Int))) (m:=((v1.1.cells.drop (0+(wr (x1.2*v1.1.cols)).toNat)).take ((wr ((wr (x1.2*v1.1.cols))+v1.1.cols)).toNat - (wr (x1.2*v1.1.cols)).toNat))) sZ q4 k k k k k (aTF bT k) k k k k k k) k<|ae (wl k) k<|cG h λq5 h=>ae (uR aJ (l:=x1.1) (c:=[.own 5 0 ((([]:(List Int))++((v1.1.cells.drop (0+(wr (x1.2*v1.1.cols)).toNat)).take ((wr ((wr (x1.2*v1.1.cols))+v1.1.cols)).toNat - (wr (x1.2*v1.1.cols)).toNat))).length)]) q5 k k k k k k k k k k k k k k) k<|aa k k<|an<|aV<|tn<|aN (t:=mN [(5,.ptr 0 0 0),(6,.own 2 0 v1.2.length),(7,.own 7 0 ((x1.1++[(([]:(List Int))++((v1.1.cells.drop (0+(wr (x1.2*v1.1.cols)).toNat)).take ((wr ((wr (x1.2*v1.1.cols))+v1.1.cols)).toNat - (wr (x1.2*v1.1.cols)).toNat)))]).length)),(8,.int x1.2)] [(0,⟨3,[oMt v1.1 1]⟩),(1,⟨1,v1.1.cells.map (ow eI)⟩),(2,⟨1,v1.2.map (ow eI)⟩),(7,⟨1,List.map (ow (dX 1 eI)) (x1.1++[(([]:(List Int))++((v1.1.cells.drop (0+(wr (x1.2*v1.1.cols)).toNat)).take ((wr ((wr (x1.2*v1.1.cols))+v1.1.cols)).toNat - (wr (x1.2*v1.1.cols)).toNat)))])⟩)] 8) (Ent.trans (sY (b:=7) (b':=5) (j:=0) (es':=List.map eI (([]:(List Int))++((v1.1.cells.drop (0+(wr (x1.2*v1.1.cols)).toNat)).take ((wr ((wr (x1.2*v1.1.cols))+v1.1.cols)).toNat - (wr (x1.2*v1.1.cols)).toNat)))) k k k k (aP _ _) (bT.frzs _)) (bJ (tW 2 k2 (kB ⟨_,k,⟨k,k,(by simp only [aP,lA,lT,lR,lC,lN]),k⟩⟩ (bG k2))) (eJ k<|bP k<|bP k<|hX ⟨_,k,k,.inl ⟨aAc (([]:(List Int))++((v1.1.cells.drop (0+(wr (x1.2*v1.1.cols)).toNat)).take ((wr ((wr (x1.2*v1.1.cols))+v1.1.cols)).toNat - (wr (x1.2*v1.1.cols)).toNat))) k,bY.plainO _⟩⟩ k<|aQ) k4)) ?_;exact rg<|am k k<|ae (bC k k) k<|aT k2<|sp h ⟨_,k,(yC [0,1,2,7] (bG k2) (eJ k<|bP k<|bP k<|cA (bY.plainO _) k<|aQ) k4)⟩
 ·rintro e t ⟨rfl,hent⟩;exact aM<|tn<|aN hent<|sR<|am k k<|aT k2<|aC<|sp h (bH k k k (nX (gD bY k k)))
def uY (a0:Int) (a1:Int) (a2:(List (List Int))):Option Sc:=
 (nN a1 a2).bind λv1=>
 (lO a0 v1).bind λv2=>
 some ((⟨a1,v2⟩:Sc))
theorem aFD (a0:Int) (a1:Int) (a2:(List (List Int))) (r:Sc) (h:uY a0 a1 a2=some r):HasC Tryz.prog 184 [.int a0,.int a1,.list 1 (a2.map (dX 1 eI))] (.agg (eS r)):=by
 exact hM [.cell 6 99] Tryz.func184 Tryz.ntmps184 k<|sR<|ae (cD aJ k k) k<|an<|tn<|sR<|am k k<|am k k<|am k k<|am k k<|oB h λv1 hv1 h=>ae (cM (aFC a1 a2 v1 hv1) k3 (bU k (bU k aL))) k<|oB h λv2 hv2 h=>ae (cL bY (aDr a0 v1 v2 hv2) k3 (bU k (bD (vaM k2) aL))) k<|ae (gK aJ k k k k k k) k<|ae (ws k) k<|an<|tn<|aC<|sp h (bH k k k (oN (aZ (k) (aZ (gD bY k k) gO))))
def oC (a0:(List Int)) (a1:Int) (a2:Int):Option Bool:=
 bif !decide ((a0.length:Int)=a1) then
 (some (true))
 else
 ((qO a2 a0).bind λv2=>
 some (!v2))
theorem aEk (a0:(List Int)) (a1:Int) (a2:Int) (r:Bool) (h:oC a0 a1 a2=some r):HasC Tryz.prog 257 [.list 1 (a0.map eI),.ref (eI a1),.ref (eI a2)] (.bl r):=by
 exact hM [.tmp 4] Tryz.func257 Tryz.ntmps257 k<|sR<|aT k2<|sR<|am k k<|ln k4<|lr k7<|cm k4<|am k k<|mH h (λq1 h=>aI 9 k q1<|aK k4<|aK k4<|pk k3<|aT k2<|aC<|fF h k2) λq1 h=>aI 9 k q1<|lr k7<|am k k<|oB h λv2 hv2 h=>ae (aH (aDN a2 a0 v2 hv2) k (bU k (bU k aL))) k<|ae (cK k) k<|pk k3<|aT k2<|aC<|fF h k2
def rN (a0:Int) (a1:Int) (a2:(List (List Int))):Option Bool:=
 (jF a1 0 8).bind λv1=>
 bif v1 then
 (bif decide ((a2.length:Int)≤16) then
 ((eO a2 (λb0=>oC b0 a1 a0)).bind λv4=>
 some (!v4))
 else
 (some (false)))
 else
 (some (false))
theorem aGP (a0:Int) (a1:Int) (a2:(List (List Int))) (r:Bool) (h:rN a0 a1 a2=some r):HasC Tryz.prog 231 [.int a0,.int a1,.list 1 (a2.map (dX 1 eI))] (.bl r):=by
 exact hM [.tmp 6] Tryz.func231 Tryz.ntmps231 k<|sR<|ae (wb k) k<|ae (wb k) k<|aT k2<|sR<|lp k8<|oB h λv1 hv1 h=>ae (aH (nK a1 0 8 v1 hv1) k (bU k (bU k (bU k aL)))) k<|am k k<|mH h (λq2 h=>aI 9 k q2<|am k k<|ln k4<|cm k4<|pk k3<|am k k<|mH h (λq3 h=>aI 14 k q3<|am k k<|ae (aCp (vs:=[.ptr 1 0 0,.ptr 0 0 0]) k (by simp)) k<|oB h λv4 hv4 h=>ae (aH (mZ a2 (λb0=>oC b0 a1 a0) k (λb0 r h=>aEk b0 a1 a0 r h) v4 hv4) k (bU k (bD (aLm (aEU (aHN k k (bE (dK k) yA)) (aEU (aHN k k (bE (dK k) yA)) aET))) aL))) k<|ae (cK k) k<|pk k3<|aT k2<|aC<|fF h k2) λq3 h=>aI 14 k q3<|aK k4<|aK k4<|pk k3<|aT k2<|aC<|fF h k2) λq2 h=>aI 9 k q2<|aK k4<|ak k k<|pk k3<|am k k<|aK k4<|aK k4<|pk k3<|aT k2<|aC<|fF h k2
def jN (a0:(List Int)) (a1:(List Int)):Option Bool:=
 (oO a0 a1).bind λv1=>
 some (v1)
theorem aDs (a0:(List Int)) (a1:(List Int)) (r:Bool) (h:jN a0 a1=some r):HasC Tryz.prog 259 [.list 1 (a0.map eI),.list 1 (a1.map eI)] (.bl r):=by
 exact hM [.tmp 4] Tryz.func259 Tryz.ntmps259 k<|sR<|aT k2<|sR<|am k k<|am k k<|oB h λv1 hv1 h=>ae (aH (aCd a0 a1 v1 hv1) k (bU k (bU k aL))) k<|aT k2<|aC<|fF h k2
def dL (a0:(List (List Int))) (a1:(List (List Int))) (a2:((List Int)→(List Int)→Option Bool)) (x1:Int):Option (Int ⊕ (Unit ⊕ Bool)):=
 bif decide (x1<(a0.length:Int)) then
 ((dG a0 x1).bind λv3=>
 (dG a1 x1).bind λv4=>
 (a2 v3 v4).bind λv5=>
 bif !v5 then
 (some (.inr (.inr (false))))
 else
 (some (.inl (wr (x1+1)))))
 else
 (some (.inr (.inl ())))
def dZ (a0:(List (List Int))) (a1:(List (List Int))) (a2:((List Int)→(List Int)→Option Bool)):Option Bool:=
 bif !decide ((a0.length:Int)=(a1.length:Int)) then
 (some (false))
 else
 ((Lp (dL a0 a1 a2) 0).bind λy7=>
 Sum.elim (λy8=>
 some (true)
 )
 (λy9=>
 some y9
 )
 y7)
theorem qZ (a0:(List (List Int))) (a1:(List (List Int))) (a2:((List Int)→(List Int)→Option Bool)) {f2:FuncId} {c2:List AV} (hc2:c2.all dU=true) (hf2: ∀ b0 b1 r,a2 b0 b1=some r→HasC Tryz.prog f2 ([.list 1 (b0.map eI),.list 1 (b1.map eI)]++c2) (.bl r)) (r:Bool) (h:dZ a0 a1 a2=some r):HasC Tryz.prog 258 [.list 1 (a0.map (dX 1 eI)),.list 1 (a1.map (dX 1 eI)),.fn f2 c2] (.bl r):=by
 refine aAE aJ (rvs:=[.tmp 6]) (ns:=nmA) Tryz.func258 k k Tryz.ntmps258 k k (rI k (rI k (rI hc2 aHX)))<|sR<|aT k2<|sQ<|sR<|am k k<|ln k4<|am k k<|ln k4<|cm k4<|an<|tn<|cF k h (λ_ h=>sR<|aT k2<|aC<|aA<|fF h k2) λ_ h=>?_;refine aD<|tn<|sQ<|sR<|am k k<|ln k4<|am k k<|an<|tn<|aG<|oB h λy7 hy7 h=>bV (body:=(dL a0 a1 a2)) hy7 (λ(x1:Int)=>mN [(1,.list 1 (a1.map (dX 1 eI))),(2,.fn f2 c2),(15,.list 1 (a0.map (dX 1 eI))),(16,.int (a0.length:Int)),(17,.int x1)] [] 0) (λr e t=>Sum.elim (λa=>(λr e t=>e= .exit 0∧Ent t (mN [] [] 0)) a e t) (λb=>(λr e t=>e= .ret∧kU TT [.tmp 6] (.bl r) .ret t) b e t) r) (bJ (tW 1 k2 (kB ⟨_,k,⟨k,xT _ hc2⟩⟩ (bG k2))) aQ k4) ?_ ?_
 ·intro x1 o h;refine sR<|cm k4<|an<|tn<|sQ<|cF k h (λ_ h=>?_) λ_ h=>aY<|aB<|aB<|sp h ⟨_,k,k,(bJ aQ aQ k4)⟩;refine aD<|tn<|sQ<|aG<|sR<|am k k<|oB h λv3 hv3 h=>ae (xl hv3 k) k<|lr k7<|aa k k<|aT k2<|sR<|am k k<|am k k<|oB h λv4 hv4 h=>ae (xl hv4 k) k<|lr k7<|aT k2<|sR<|am k k<|am k k<|am k k<|oB h λv5 hv5 h=>ae (aGC hc2 (hf2 v3 v4 v5 hv5) k k (bU k (bU k aL))) k<|ae (cK k) k ?_;exact an<|tn<|cF k h (λ_ h=>sR<|aT k2<|aC<|aR<|aA<|aA<|sp h ⟨_,k,k,bH k k k (kR k)⟩) λ_ h=>aD<|aV<|tn<|rg<|ae (bC k k) k<|am k k<|an<|tn<|sp h ⟨_,k,(bJ (tW 1 k2 (kB ⟨_,k,⟨k,xT _ hc2⟩⟩ (bG k2))) aQ k4)⟩
 ·intro e t hX;rcases y7 with y8|y9
  ·obtain ⟨rfl,hent⟩:=hX;exact aM<|tn<|aN hent<|sR<|aT k2<|aC<|fF h k2
  ·obtain ⟨rfl,hent⟩:=hX;exact aR<|aA<|sp h hent
def pX (a0:Sc) (a1:Sc):Option Bool:=
 bif decide (a0.size=a1.size) then
 ((dZ a0.basis a1.basis (λb0 b1=>jN b0 b1)).bind λv2=>
 some (v2))
 else
 (some (false))
theorem aFW (a0:Sc) (a1:Sc) (r:Bool) (h:pX a0 a1=some r):HasC Tryz.prog 232 [.agg (eS a0),.agg (eS a1)] (.bl r):=by
 exact hM [.tmp 4] Tryz.func232 Tryz.ntmps232 k<|sR<|ae (wb k) k<|ae (wb k) k<|aT k2<|sR<|fp k8<|lp k8<|fp k8<|lp k8<|cm k4<|am k k<|mH h (λq1 h=>aI 10 k q1<|fp k8<|lp k8<|fp k8<|lp k8<|oB h λv2 hv2 h=>ae (aH (qZ a0.basis a1.basis (λb0 b1=>jN b0 b1) k (λb0 b1 r h=>aDs b0 b1 r h) v2 hv2) k (bU k (bU k (bD (aLm aET) aL)))) k<|pk k3<|aT k2<|aC<|fF h k2) λq1 h=>aI 10 k q1<|aK k4<|aK k4<|ak k k<|pk k3<|aT k2<|aC<|fF h k2
def yN (a0:Int) (a1:Sc):Option Bool:=
 (jK a0).bind λv1=>
 bif !v1 then
 (some (false))
 else
 ((rN a0 a1.size a1.basis).bind λv3=>
 bif !v3 then
 (some (false))
 else
 ((aAX a0 a1.size a1.basis).bind λv5=>
 (pX v5 a1).bind λv6=>
 some (v6)))
theorem aKa (a0:Int) (a1:Sc) (r:Bool) (h:yN a0 a1=some r):HasC Tryz.prog 197 [.int a0,.agg (eS a1)] (.bl r):=by
 exact hM [.tmp 4] Tryz.func197 Tryz.ntmps197 k<|sR<|ae (wb k) k<|aT k2<|sQ<|sR<|am k k<|oB h λv1 hv1 h=>ae (aH (oS a0 v1 hv1) k (bU k aL)) k<|ae (cK k) k<|am k k<|mH h (λq2 h=>aI 8 k q2<|aK k4<|aK k4<|aK k4<|ak k k<|pk k3<|an<|tn<|cJ k k<|sR<|aT k2<|aC<|aA<|fF h k2) λq2 h=>aI 8 k q2<|am k k<|fp k8<|lp k8<|fp k8<|lp k8<|oB h λv3 hv3 h=>ae (aH (aGP a0 a1.size a1.basis v3 hv3) k (bU k (bU k (bU k aL)))) k<|ae (cK k) k<|pk k3<|an<|tn<|cF k h (λ_ h=>sR<|aT k2<|aC<|aA<|fF h k2) λ_ h=>aD<|tn<|sQ<|aW jJ<|am k k<|fp k8<|lp k8<|fp k8<|lp k8<|oB h λv5 hv5 h=>ae (cS (aIR a0 a1.size a1.basis v5 hv5) k3 (bU k (bU k (bU k aL)))) k<|lp k8<|oB h λv6 hv6 h=>ae (aH (aFW v5 a1 v6 hv6) k (bD (vaC k2) (bD (pG k) aL))) k<|aa k k<|an<|xX (by kernel_rfl)<|tn<|aC<|fF h k2
def kW (a0:Int) (a1:Int) (a2:(List (List Int))) (x1:Int):Option (Int ⊕ (Unit ⊕ Bool)):=
 bif decide (x1<(a2.length:Int)) then
 ((dG a2 x1).bind λv2=>
 bif !decide ((v2.length:Int)=a1) then
 (some (.inr (.inr (false))))
 else
 ((dG a2 x1).bind λv4=>
 (iM a0 v4).bind λv5=>
 bif !v5 then
 (some (.inr (.inr (false))))
 else
 (some (.inl (wr (x1+1))))))
 else
 (some (.inr (.inl ())))
def qV (a0:Int) (a1:Int) (a2:(List (List Int))):Option Bool:=
 (Lp (kW a0 a1 a2) 0).bind λy7=>
 Sum.elim (λy8=>
 (fN a0).bind λv9=>
 bif v9 then
 ((eF a1 0 8).bind λv11=>
 bif v11 then
 (some (decide ((a2.length:Int)≤16)))
 else
 (some (false)))
 else
 (some (false))
 )
 (λy13=>
 some y13
 )
 y7
theorem aLJ (a0:Int) (a1:Int) (a2:(List (List Int))) (r:Bool) (h:qV a0 a1 a2=some r):HasC Tryz.prog 180 [.int a0,.int a1,.list 1 (a2.map (dX 1 eI))] (.bl r):=by
 refine hM [.tmp 6] Tryz.func180 Tryz.ntmps180 k<|sR<|aT k2<|sQ<|sR<|aT k2<|aG<|oB h λy7 hy7 h=>bV (body:=(kW a0 a1 a2)) hy7 (λ(x1:Int)=>mN [(0,.int a0),(1,.int a1),(2,.list 1 (a2.map (dX 1 eI))),(7,.int x1)] [] 0) (λr e t=>Sum.elim (λa=>(λr e t=>e= .exit 0∧Ent t (mN [(0,.int a0),(1,.int a1),(2,.list 1 (a2.map (dX 1 eI)))] [] 0)) a e t) (λb=>(λr e t=>e= .ret∧kU TT [.tmp 6] (.bl r) .ret t) b e t) r) (bJ (bG k2) aQ k4) ?_ ?_
 ·intro x1 o h;exact sQ<|sR<|am k k<|am k k<|ln k4<|cm k4<|an<|tn<|cF k h (λ_ h=>aD<|tn<|sQ<|aG<|sR<|am k k<|am k k<|oB h λv2 hv2 h=>ae (xl hv2 k) k<|lr k7<|ln k4<|am k k<|cm k4<|am k k<|mH h (λq3 h=>aI 21 k q3<|aK k4<|aK k4<|aK k4<|ak k k<|pk k3<|an<|tn<|cJ k k<|sR<|aT k2<|aC<|aR<|aA<|aA<|sp h ⟨_,k,k,bH k k k (kR k)⟩) λq3 h=>aI 21 k q3<|am k k<|am k k<|am k k<|oB h λv4 hv4 h=>ae (xl hv4 k) k<|lr k7<|oB h λv5 hv5 h=>ae (aH (aAe a0 v4 v5 hv5) k (bU k (bU k aL))) k<|ae (cK k) k<|pk k3<|an<|tn<|cF k h (λ_ h=>sR<|aT k2<|aC<|aR<|aA<|aA<|sp h ⟨_,k,k,bH k k k (kR k)⟩) λ_ h=>aD<|aV<|tn<|rg<|am k k<|ae (bC k k) k<|aT k2<|sp h ⟨_,k,(bJ (bG k2) aQ k4)⟩) λ_ h=>aY<|aB<|aB<|sp h ⟨_,k,k,(bJ (bG k2) aQ k4)⟩
 ·intro e t hX;rcases y7 with y8|y13
  ·obtain ⟨rfl,hent⟩:=hX;exact aM<|tn<|aN hent<|sR<|am k k<|oB h λv9 hv9 h=>ae (aH (oP a0 v9 hv9) k (bU k aL)) k<|am k k<|mH h (λq10 h=>aI 32 k q10<|am k k<|oB h λv11 hv11 h=>ae (aH (gL a1 0 8 v11 hv11) k (bU k (bU k (bU k aL)))) k<|pk k3<|am k k<|mH h (λq12 h=>aI 36 k q12<|am k k<|ln k4<|cm k4<|pk k3<|aT k2<|aC<|fF h k2) λq12 h=>aI 36 k q12<|aK k4<|ak k k<|pk k3<|aT k2<|aC<|fF h k2) λq10 h=>aI 32 k q10<|aK k4<|pk k3<|am k k<|aK k4<|ak k k<|pk k3<|aT k2<|aC<|fF h k2
  ·obtain ⟨rfl,hent⟩:=hX;exact aR<|aA<|sp h hent
def kX (a0:(List (List Int))) (a1:(List (List Int))) (x1:Int) (x2:Int):Option (Int ⊕ (Unit ⊕ Bool)):=
 (dG a0 x1).bind λv6=>
 bif decide (x2<(v6.length:Int)) then
 ((dG a0 x1).bind λv8=>
 (dG v8 x2).bind λv9=>
 (dG a1 x1).bind λv10=>
 (dG v10 x2).bind λv11=>
 bif !decide (v9=v11) then
 (some (.inr (.inr (false))))
 else
 (some (.inl (wr (x2+1)))))
 else
 (some (.inr (.inl ())))
def kY (a0:(List (List Int))) (a1:(List (List Int))) (x1:Int):Option (Int ⊕ (Unit ⊕ Bool)):=
 bif decide (x1<(a0.length:Int)) then
 ((dG a0 x1).bind λv3=>
 (dG a1 x1).bind λv4=>
 bif !decide ((v3.length:Int)=(v4.length:Int)) then
 (some (.inr (.inr (false))))
 else
 ((Lp (kX a0 a1 x1) 0).bind λy13=>
 Sum.elim (λy14=>
 some (.inl (wr (x1+1)))
 )
 (λy15=>
 some (.inr (.inr y15))
 )
 y13))
 else
 (some (.inr (.inl ())))
def qW (a0:(List (List Int))) (a1:(List (List Int))):Option Bool:=
 bif !decide ((a0.length:Int)=(a1.length:Int)) then
 (some (false))
 else
 ((Lp (kY a0 a1) 0).bind λy16=>
 Sum.elim (λy17=>
 some (true)
 )
 (λy18=>
 some y18
 )
 y16)
theorem aLK (a0:(List (List Int))) (a1:(List (List Int))) (r:Bool) (h:qW a0 a1=some r):HasC Tryz.prog 181 [.list 1 (a0.map (dX 1 eI)),.list 1 (a1.map (dX 1 eI))] (.bl r):=by
 refine hM [.tmp 4] Tryz.func181 Tryz.ntmps181 k<|sR<|aT k2<|sQ<|sR<|am k k<|ln k4<|am k k<|ln k4<|cm k4<|an<|tn<|cF k h (λ_ h=>sR<|aT k2<|aC<|aA<|fF h k2) λ_ h=>?_;refine aD<|tn<|sQ<|sR<|aT k2<|aG<|oB h λy16 hy16 h=>bV (body:=(kY a0 a1)) hy16 (λ(x1:Int)=>mN [(0,.list 1 (a0.map (dX 1 eI))),(1,.list 1 (a1.map (dX 1 eI))),(5,.int x1)] [] 0) (λr e t=>Sum.elim (λa=>(λr e t=>e= .exit 0∧Ent t (mN [] [] 0)) a e t) (λb=>(λr e t=>e= .ret∧kU TT [.tmp 4] (.bl r) .ret t) b e t) r) (bJ (bG k2) aQ k4) ?_ ?_
 ·intro x1 o h;refine sQ<|sR<|am k k<|am k k<|ln k4<|cm k4<|an<|tn<|cF k h (λ_ h=>?_) λ_ h=>aY<|aB<|aB<|sp h ⟨_,k,k,(bJ aQ aQ k4)⟩;refine aD<|tn<|sQ<|aG<|sQ<|sQ<|aW jJ<|am k k<|am k k<|oB h λv3 hv3 h=>ae (xl hv3 k) k<|lr k7<|ln k4<|am k k<|am k k<|oB h λv4 hv4 h=>ae (xl hv4 k) k<|lr k7<|ln k4<|cm k4<|an<|xX (by kernel_rfl)<|tn<|cF k h (λ_ h=>sR<|aT k2<|aC<|aA<|aR<|aA<|aA<|sp h ⟨_,k,k,bH k k k (kR k)⟩) λ_ h=>?_;refine aD<|tn<|sR<|aT k2<|aG<|oB h λy13 hy13 h=>bV (body:=(kX a0 a1 x1)) hy13 (λ(x2:Int)=>mN [(0,.list 1 (a0.map (dX 1 eI))),(1,.list 1 (a1.map (dX 1 eI))),(5,.int x1),(6,.int x2)] [] 0) (λr e t=>Sum.elim (λa=>(λr e t=>e= .exit 2∧Ent t (mN [(0,.list 1 (a0.map (dX 1 eI))),(1,.list 1 (a1.map (dX 1 eI))),(5,.int x1)] [] 0)) a e t) (λb=>(λr e t=>e= .ret∧kU TT [.tmp 4] (.bl r) .ret t) b e t) r) (bJ (bG k2) aQ k4) ?_ ?_
  ·intro x2 o h;exact sQ<|sR<|am k k<|am k k<|am k k<|oB h λv6 hv6 h=>ae (xl hv6 k) k<|lr k7<|ln k4<|cm k4<|an<|tn<|cF k h (λ_ h=>aD<|tn<|sQ<|aG<|sQ<|aW jJ<|am k k<|am k k<|oB h λv8 hv8 h=>ae (xl hv8 k) k<|lr k7<|am k k<|oB h λv9 hv9 h=>ae (xl hv9 k) k<|lr k7<|am k k<|am k k<|oB h λv10 hv10 h=>ae (xl hv10 k) k<|lr k7<|am k k<|oB h λv11 hv11 h=>ae (xl hv11 k) k<|lr k7<|cm k4<|an<|xX (by kernel_rfl)<|tn<|cF k h (λ_ h=>sR<|aT k2<|aC<|aR<|aA<|aA<|sp h ⟨_,k,k,bH k k k (kR k)⟩) λ_ h=>aD<|aV<|tn<|rg<|am k k<|ae (bC k k) k<|aT k2<|sp h ⟨_,k,(bJ (bG k2) aQ k4)⟩) λ_ h=>aY<|aB<|aB<|sp h ⟨_,k,k,(bJ (bG k2) aQ k4)⟩
  ·intro e t hX;rcases y13 with y14|y15
   ·obtain ⟨rfl,hent⟩:=hX;exact aM<|aV<|tn<|aN hent<|rg<|am k k<|ae (bC k k) k<|aT k2<|sp h ⟨_,k,(bJ (bG k2) aQ k4)⟩
   ·obtain ⟨rfl,hent⟩:=hX;exact aR<|aR<|aA<|aA<|sp h ⟨_,k,k,hent⟩
 ·intro e t hX;rcases y16 with y17|y18
  ·obtain ⟨rfl,hent⟩:=hX;exact aM<|tn<|aN hent<|sR<|aT k2<|aC<|fF h k2
  ·obtain ⟨rfl,hent⟩:=hX;exact aR<|aA<|sp h hent
def gQ (a0:Int) (a1:Sc):Option Bool:=
 (qV a0 a1.size a1.basis).bind λv1=>
 bif !v1 then
 (some (false))
 else
 ((nN a1.size a1.basis).bind λv3=>
 (lO a0 v3).bind λv4=>
 (qW v4 a1.basis).bind λv5=>
 some (v5))
theorem tC (a0:Int) (a1:Sc) (r:Bool) (h:gQ a0 a1=some r):HasC Tryz.prog 135 [.int a0,.agg (eS a1)] (.bl r):=by
 exact hM [.tmp 4] Tryz.func135 Tryz.ntmps135 k<|sR<|ae (wb k) k<|aT k2<|sQ<|sR<|am k k<|fp k8<|lp k8<|fp k8<|lp k8<|oB h λv1 hv1 h=>ae (aH (aLJ a0 a1.size a1.basis v1 hv1) k (bU k (bU k (bU k aL)))) k<|ae (cK k) k<|an<|tn<|cF k h (λ_ h=>sR<|aT k2<|aC<|aA<|fF h k2) λ_ h=>aD<|tn<|sQ<|aW jJ<|am k k<|fp k8<|lp k8<|fp k8<|lp k8<|oB h λv3 hv3 h=>ae (cM (aFC a1.size a1.basis v3 hv3) k3 (bU k (bU k aL))) k<|oB h λv4 hv4 h=>ae (cL bY (aDr a0 v3 v4 hv4) k3 (bU k (bD (vaM k2) aL))) k<|fp k8<|lp k8<|oB h λv5 hv5 h=>ae (aH (aLK v4 a1.basis v5 hv5) k (bD (aPW bY k k) (bU k aL))) k<|aa k k<|an<|xX (by kernel_rfl)<|tn<|aC<|fF h k2
def aAL (a0:Qv):Option Qv:=
 bif decide (([]:(List Int)).length +a0.src.length≤4294967296) then
 (bif decide (([]:(List Int)).length +a0.tgt.length≤4294967296) then
 (some ((⟨a0.n,(([]:(List Int))++a0.src),(([]:(List Int))++a0.tgt)⟩:Qv)))
 else none)
 else none
theorem aLL (a0:Qv) (r:Qv) (h:aAL a0=some r):HasC Tryz.prog 113 [.agg (eQ a0)] (.agg (eQ r)):=by
 exact hM [.cell 2 29] Tryz.func113 Tryz.ntmps113 k<|sR<|ae (wb k) k<|ae (cD aJ k k) k<|an<|tn<|sQ<|aW jJ<|fp k8<|lp k8<|ae (wl k) k<|fp k8<|lp k8<|cG h λq1 h=>ae (uQ aJ (l:=([]:(List Int))) (m:=a0.src) sZ q1 k k k k k k k k k k k k) k<|ae (wl k) k<|fp k8<|lp k8<|cG h λq2 h=>ae (uQ aJ (l:=([]:(List Int))) (m:=a0.tgt) sZ q2 k k k k k k k k k k k k) k<|ae (gK aJ k k k k k k) k<|ae (ws k) k<|an<|xX (by kernel_rfl)<|tn<|aC<|sp h (bH k k k (oN (aZ (k) (aZ (gD bT k k) (aZ (gD bT k k) gO)))))
end
noncomputable section
theorem aQs {l:List (List Int)} {n:Nat} (h: ∀ v∈l,v.length=n):l=(List.range l.length).map λi=>oW n (cV l i):=by
 refine List.ext_getElem (by simp) λi h1 h2=>?_;simp only [List.getElem_map,List.getElem_range];refine List.ext_getElem (by rw [gI];exact h _ (List.getElem_mem h1)) λj h3 h4=>?_;simp [oW,cV,h1,h3]
theorem aMF {l:List (List Int)} {n:Nat} (h: ∀ v∈l,v.length=n):l.flatten=cX l.length n (cV l):=by
 have e:l.flatten=((List.range l.length).map λi=>oW n (cV l i)).flatten:=by rw [←aQs h]
 rw [e,aON]
theorem aNC {p:Int} (hp:nS p=true) {n:Nat} {l:List (List Int)} (hn:n≤1024) (hl:l.length≤512) (h:VecsP p n l):Tb p l.length n (cV l):=by
 refine ⟨hp,?_,by omega,by omega,h.inP⟩;have:=Nat.mul_le_mul hl hn;omega
theorem aOO {r c i:Nat} (hN:r*c≤1048576) (hr:r≤1048576) (hi:i<r) (F:Nat→Nat→Int):((cX r c F).drop (0+(i*c))).take ((i*c+c) - i*c)=oW c (F i):=by
 have h:= @aKS r c i hi;rw [Nat.succ_mul] at h;refine List.ext_getElem (by simp [jI,gI];omega) λt h1 h2=>?_;rw [gI] at h2;rw [List.getElem_take,List.getElem_drop];simp [cX,oW,aJy h2,aJz h2]
theorem aFE (F:Nat→Nat→Int) (r n:Nat):gN F r n=(List.range r).map λi=>oW n (F i):=rfl
theorem aFF (F:Nat→Nat→Int) (r n:Nat):gN F r n++[oW n (F r)]=gN F (r+1) n:=by
 rw [aFE,aFE,List.range_succ,List.map_append];rfl
theorem aPn {n:Nat} {l:List (List Int)} (hn:n≤1024) (hl:l.length≤512) (h: ∀ v∈l,v.length=n):vS n l=some ⟨l.length,n,cX l.length n (cV l)⟩:=by
 unfold vS;rw [aTQ hl (λv hv=>by rw [h v hv];exact hn),aE,aMF h]
theorem aKb {p:Int} (hp:nS p=true) {n:Nat} {l:List (List Int)} (hn:n≤1024) (hl:l.length≤512) (h:VecsP p n l):aAX p n l=some ⟨n,gG p n l⟩:=by
 have T:=aNC hp hn hl h;have hL:= @xS p l.length (cV l) n;have h1:=T.hN;unfold aAX;rw [aPn hn hl (λv hv=>(h v hv).1),aE,aMz T,aE];rw [eY (r:=gG p n l) (λk=>(gN (cU p l.length (cV l) n).1 k n,(k:Int))) (cU p l.length (cV l) n).2.length (by simp [gN]) (λk hk=>?_) (λ_=>?_),aE]
 ·have hkl:k<l.length:=by omega
  have h3:= @aKS l.length n k hkl;rw [Nat.succ_mul] at h3;unfold yL;simp only;rw [oX,kV hk,aO,aKT T.hN T.hm hkl,aE,wP T.hN hkl,zV T.hN T.hm hkl];simp only [gW];rw [aOO T.hN T.hm hkl];unfold mS;rw [gI,bF (by omega),aO,aE,tU,bF (by omega),aO,aFF,cO hk (by omega)]
 ·unfold yL;simp only;rw [oX,nT (bK _),aS];rfl
theorem aOP {n:Nat} {l:List (List Int)} (hn:n≤1024) (hl:l.length≤512) (h: ∀ v∈l,v.length=n):nN n l=some ⟨l.length,n,cX l.length n (cV l)⟩:=by
 have hb: ∀ k,(l.take k).flatten.length ≤1024*512:=λk=>by
  have:=aME (l:=l.take k) λx hx=>by rw [h x (List.mem_of_mem_take hx)];exact hn
  have h2:(l.take k).length ≤512:=by simp;omega
  omega
 unfold nN;rw [eY (r:=l.flatten) (λk=>((l.take k).flatten,(k:Int))) l.length (by simp) (λk hk=>?_) (λ_=>?_),aE,aMF h]
 ·unfold oY;simp only;have e2:=hb (k+1);rw [aBG hk,List.length_append] at e2;rw [kV hk,aO,dY hk,aE,bF (by omega),aO,cO hk (by omega),aBG hk]
 ·unfold oY;simp only;rw [nT (bK _),aS,List.take_length]
theorem aMG {p:Int} {m n:Nat} {F:Nat→Nat→Int} (T:Tb p m n F):lO p ⟨m,n,cX m n F⟩=some (gN (cU p m F n).1 (cU p m F n).2.length n):=by
 have hL:= @xS p m F n;have hm:=T.hm;have hn:=T.hn;unfold lO;rw [aNA T,aE];rw [eY (r:=gN (cU p m F n).1 (cU p m F n).2.length n) (λk=>(gN (cU p m F n).1 k n,(k:Int))) (cU p m F n).2.length (by simp [gN]) (λk hk=>?_) (λ_=>?_),aE]
 ·have hkl:k<m:=by omega
  have h3:= @aKS m n k hkl;rw [Nat.succ_mul] at h3;have h4:=T.hN;have e:wr (wr ((k:Int)*(n:Int))+(n:Int))=((k*n+n:Nat):Int):=by rw [wP T.hN hkl,eN (by omega)];omega
  unfold nA;simp only;rw [oX,kV hk,aO,e,wP T.hN hkl,jI,bF (by omega),bF (by omega:((k*n:Nat):Int)≤((k*n+n:Nat):Int)),bF (by omega:((k*n+n:Nat):Int)≤((m*n:Nat):Int))];simp only [gW,Bool.and_self,aO,aOO T.hN T.hm hkl];rw [gI,bF (by simp;omega),aO,tU,bF (by omega),aO,List.nil_append,aFF,cO hk (by omega)]
 ·unfold nA;simp only;rw [oX,nT (bK _),aS]
theorem aOQ {p:Int} (hp:nS p=true) {n:Nat} {l:List (List Int)} (hn:n≤1024) (hl:l.length≤512) (h:VecsP p n l):uY p n l=some ⟨n,gG p n l⟩:=by
 unfold uY;rw [aOP hn hl (λv hv=>(h v hv).1),aE,aMG (aNC hp hn hl h),aE];rfl
def bLs (l:List (List Int)):Prop:=l.length≤1048576∧ ∀ v∈l,bI v
theorem aPo (p:Int) (v:List Int):(nS p&&decide (v.length≤64)&&v.all λx=>rH x 0 (wr (p - 1)))=aDb p v:=by
 unfold aDb;cases h:nS p with
 |false=>rfl
 |true=>rw [eN (by have:=iD h;omega)]
theorem aVC {α:Type} {l:List α} {P Q:α→Bool} (h: ∀ x∈l,P x=Q x):l.all P=l.all Q:=by
 induction l with
 |nil=>rfl
 |cons x l ih=>rw [List.all_cons,List.all_cons,h x (by simp),ih λy hy=>h y (by simp [hy])]
theorem aJT (p size:Int) (l:List (List Int)):aFz p size l=(nS p&&rH size 0 8&&decide (l.length≤16)&&l.all λv=>decide ((v.length:Int)=size)&&aDb p v):=rfl
theorem aGQ {l:List (List Int)} {f:List Int→Option Bool} (P:List Int→Bool) (hf: ∀ x∈l,f x=some (P x)) (h:l.length≤1048576):eO l f=some (l.any P):=by
 unfold eO jM;rw [aHI (s0:=0) (s:=0) (n:=l.length) (λk=>bif P (l[k]?.getD []) then some (k:Int) else none) rfl (by omega) (Nat.zero_le _) (λk _ hk=>?_) (λ_=>?_)]
 ·rw [aE];cases e:(List.range' 0 (l.length - 0)).findSome? (λk:Nat=>bif P (l[k]?.getD []) then some (k:Int) else none) with
  |none=>
   rw [List.findSome?_eq_none_iff] at e
   have:l.any P=false:=by
    rw [List.any_eq_false];intro x hx;obtain ⟨k,hk,rfl⟩:=List.mem_iff_getElem.1 hx;have:=e k (by simp;omega);simp only [lD hk,kQ] at this;cases hp:P l[k] with
    |false=>simp
    |true=>rw [hp] at this;cases this
   rw [this];rfl
  |some i=>
   obtain ⟨k,hk,he⟩:=List.exists_of_findSome?_eq_some e;simp at hk;have hkl:k<l.length:=by omega
   rw [lD hkl] at he;simp only [kQ] at he;cases hp:P l[k] with
   |false=>rw [hp] at he;cases he
   |true=>
    rw [hp] at he;cases he;have:l.any P=true:=List.any_eq_true.2 ⟨_,List.getElem_mem hkl,hp⟩;rw [this];simp only [Sum.elim_inr,aE];rw [bF (by omega)]
 ·unfold fY;rw [kV hk,aO,sP [] hk,aE,hf _ (dV [] hk),aE];cases P _ <;> rfl
 ·unfold fY;rw [nT (bK _),aS]
theorem aND (p n:Int) {l:List (List Int)} (h:bLs l):rN p n l=some (rH n 0 8&&(decide (l.length≤16)&&l.all λv=>decide ((v.length:Int)=n)&&aDb p v)):=by
 unfold rN;rw [aAW,aE];refine hZ λ_=>?_;rw [show decide ((l.length:Int)≤16)=decide (l.length≤16) by rw [Bool.eq_iff_iff,iC,iC];omega];refine hZ λ_=>?_;rw [aGQ (λv=> !(decide ((v.length:Int)=n)&&aDb p v)) (λv hv=>?_) h.1,aE,List.not_any_eq_all_not]
 ·simp
 ·unfold oC;cases decide ((v.length:Int)=n) with
  |false=>rfl
  |true=>rw [eT,aS,aLy p (h.2 v hv),aE,aPo,Bool.true_and]
theorem aRn {a b:List (List Int)} (h:bLs a):dZ a b (λb0 b1=>jN b0 b1)=some (decide (a=b)):=by
 obtain ⟨h,hb⟩:=h;unfold dZ;rw [aBX];by_cases e:a.length=b.length
 ·rw [bF e,eT,aS];refine aCh (by omega) e (λk h1 h2=>?_) ?_
  ·unfold dL jN;simp only;rw [kV h1,aO,dY h1,aE,dY h2,aE,aRf (hb _ (List.getElem_mem h1)),aE,aE];cases decide (a[k]=b[k]) <;> rfl
  ·unfold dL;rw [nT (bK _),aS]
 ·rw [bZ e,Bool.not_false,aO,bZ (by rintro rfl;exact e rfl)]
theorem aLM {a b:Sc} (h:bLs a.basis):pX a b=some (decide (a.size=b.size)&&decide (a.basis=b.basis)):=by
 unfold pX;refine hZ λ_=>?_;rw [aRn h,aE]
theorem aWG {p:Int} {n:Nat} {l:List (List Int)} (hl:l.length≤1048576) (hn:n≤1048576) (h:VecsP p n l):bLs l:=⟨hl,λv hv=>by unfold bI;rw [(h v hv).1];exact hn⟩
theorem aOR {p:Int} (hp:nS p=true) {n:Nat} {l:List (List Int)} (hn:n≤1048576) (h:VecsP p n l):bLs (gG p n l):=aWG (by have:=(@aDd p n l).1;omega) hn (aES hp h.inP)
theorem aLN (p:Int) {s:Sc} (h:bS s):yN p s=some (qY p s.size s.basis):=by
 unfold yN qY;rw [aEa,aE,aND p s.size h.1,aE,aJT];cases hf:nS p with
 |false=>simp
 |true=>
  rw [eT,aS];cases hv:(rH s.size 0 8&&(decide (s.basis.length≤16)&&s.basis.all λv=>decide ((v.length:Int)=s.size)&&aDb p v)) with
  |false=>
   have hx:(true&&rH s.size 0 8&&decide (s.basis.length≤16)&&s.basis.all λv=>decide ((v.length:Int)=s.size)&&aDb p v)=false:=by rw [Bool.true_and,Bool.and_assoc];exact hv
   rw [hx];rfl
  |true=>
   have hfine:aFz p s.size s.basis=true:=by rw [aJT,hf];simp only [Bool.true_and,Bool.and_assoc];exact hv
   obtain ⟨_,n,e,hn,hl,hv2⟩:=aDe hfine;rw [eT,aS,e,aKb hf (by omega) (by omega) hv2,aE,aLM (aOR hf (by omega) hv2),aE];rw [e] at hfine;rw [aJT,hf] at hfine;rw [hfine];simp [e]
theorem aTT (p n:Int) {l:List (List Int)} (h:bLs l):qV p n l=some (aFz p n l):=by
 unfold qV;have hall:=xQ ([]:List Int) l (λv=>decide ((v.length:Int)=n)&&aDb p v);have hb:=h.1;rw [zJ (λk=>decide ((((l[k]?.getD []).length:Nat):Int)=n)&&aDb p (l[k]?.getD [])) false (n:=l.length) (by omega) (λk hk=>?_) (λ_=>?_),aE,hall,aJT]
 ·cases l.all λv=>decide ((v.length:Int)=n)&&aDb p v with
  |false=>simp
  |true=>
   simp only [aO,Sum.elim_inl];rw [aGM,aE,wO,aE,Bool.and_true,Bool.and_assoc];refine hZ λ_=>?_;refine hZ λ_=>?_;congr 1;rw [Bool.eq_iff_iff,iC,iC];omega
 ·unfold kW;rw [kV hk,aO,sP [] hk,aE,aE,aHc p (h.2 _ (dV [] hk)),aE,aPo];cases decide ((((l[k]?.getD []).length:Nat):Int)=n) <;> cases aDb p (l[k]?.getD []) <;> rfl
 ·unfold kW;rw [nT (bK _),aS]
theorem aTU {a b:List (List Int)} (h:bLs a):qW a b=some (decide (a=b)):=by
 obtain ⟨h,hb⟩:=h;unfold qW;rw [aBX];by_cases e:a.length=b.length
 ·rw [bF e,eT,aS];refine aCh (by omega) e (λk h1 h2=>?_) ?_
  ·have hbk:=hb _ (List.getElem_mem h1);unfold bI at hbk;unfold kY;rw [kV h1,aO,dY h1,aE,dY h2,aE,aBX];by_cases e2:a[k].length=b[k].length
   ·rw [bF e2,eT,aS];have h3:=zJ (body:=kX a b k) (λj=>decide (a[k][j]?.getD 0=b[k][j]?.getD 0)) false (n:=a[k].length) (by omega) (λj hj=>?_) ?_
    ·rw [h3,aNv e2,aE];cases decide (a[k]=b[k]) <;> rfl
    ·unfold kX;rw [dY h1,aE,kV hj,aO,aE,sP 0 hj,aE,dY h2,aE,sP 0 (e2▸hj),aE];cases decide (a[k][j]?.getD 0=b[k][j]?.getD 0) <;> rfl
    ·intro _;unfold kX;rw [dY h1,aE,nT (bK _),aS]
   ·rw [bZ e2,Bool.not_false,aO,bZ (λe3=>e2 (by rw [e3])),aS]
  ·unfold kY;rw [nT (bK _),aS]
 ·rw [bZ e,Bool.not_false,aO,bZ (by rintro rfl;exact e rfl)]
theorem aAM (p:Int) {s:Sc} (h:bS s):gQ p s=some (qY p s.size s.basis):=by
 unfold gQ qY;rw [aTT p s.size h.1,aE];cases hf:aFz p s.size s.basis with
 |false=>rfl
 |true=>
  obtain ⟨hp,n,e,hn,hl,hv⟩:=aDe hf;rw [eT,aS,e,aOP (by omega) (by omega) (λv hv'=>(hv v hv').1),aE,aMG (aNC hp (by omega) (by omega) hv),aE,show gN (cU p s.basis.length (cV s.basis) n).1 (cU p s.basis.length (cV s.basis) n).2.length n=gG p n s.basis from rfl,aTU (aOR hp (by omega) hv),aE];simp
end
noncomputable section
set_option maxRecDepth 10000
set_option maxHeartbeats 4000000
def pY (x1:((List Int)×Int×Int)):Option (((List Int)×Int×Int) ⊕ ((List Int)×Int)):=
 bif decide (x1.2.2<((x1.1.length:Nat):Int)) then
 ((dG x1.1 x1.2.2).bind λv2=>
 some (.inl ((x1.1.set x1.2.2.toNat x1.2.1),wr (x1.2.1+1),wr (x1.2.2+1))))
 else
 (some (.inr (x1.1,x1.2.1)))
def eK (a0:(List Int)) (a1:Int):Option ((List Int)×Int):=
 (Lp pY (a0,a1,0)).bind λy3=>
 some (y3.1,y3.2)
theorem gB (a0:(List Int)) (a1:Int) (r:((List Int)×Int)) (h:eK a0 a1=some r):HasE Tryz.prog 33 [.own 0 0 a0.length,.int a1] [(0,⟨1,a0.map (ow eI)⟩)] 1 (.int r.2) [(0,⟨1,r.1.map (ow eI)⟩)]:=by
 refine pO aJ (rvs:=[.tmp 4]) (ns:=nmA.drop 1) Tryz.func33 k k Tryz.ntmps33 k k<|sR<|aT k2<|sQ<|sR<|aT k2<|aG<|oB h λy3 hy3 h=>bV (body:=pY) hy3 (λ(x1:((List Int)×Int×Int))=>mN [(0,.own 0 0 x1.1.length),(1,.int x1.2.1),(5,.int x1.2.2)] [(0,⟨1,x1.1.map (ow eI)⟩)] 1 1) (λr e t=>e= .exit 0∧Ent t (mN [(1,.int r.2)] [(0,⟨1,r.1.map (ow eI)⟩)] 1 1)) (bJ (bG k2) (bP k<|aQ) k4) ?_ ?_
 ·intro x1 o h;exact sQ<|sR<|am k k<|am k k<|ae (dC aJ k k k k) k<|cm k4<|an<|tn<|cF k h (λ_ h=>aD<|tn<|sQ<|aG<|sR<|am k k<|am k k<|am k k<|oB h λv2 hv2 h=>ae (xo hv2 k) k<|ae (jE aJ sZ (u:=x1.2.1) (iO hv2) k k k k k k) k<|an<|tn<|rg<|am k k<|ae (bC k k) k<|aa k k<|an<|aV<|tn<|rg<|am k k<|ae (bC k k) k<|aT k2<|sp h ⟨_,k,(bJ (kB ⟨_,k,⟨k,k,(by simp only [aP,lA,lT,lR,lC,lN]),k⟩⟩ (bG k2)) (bP k<|aQ) k4)⟩) λ_ h=>aY<|aB<|aB<|sp h ⟨_,k,k,(bJ (bG k2) (bP k<|aQ) k4)⟩
 ·rintro e t ⟨rfl,hent⟩;exact aM<|tn<|aN hent<|sR<|am k k<|aT k2<|aC<|sp h ⟨mN [(4,.int y3.2)] [(0,⟨1,y3.1.map (ow eI)⟩)] 1 1,(bJ (bG k2) (bP k<|aQ) k4),k,⟨_,k,.inl k⟩,⟨k,aQ⟩⟩
def oD (x1:((List (List Int))×Int×Int)):Option (((List (List Int))×Int×Int) ⊕ ((List (List Int))×Int)):=
 bif decide (x1.2.2<((x1.1.length:Nat):Int)) then
 ((dG x1.1 x1.2.2).bind λv2=>
 (eK v2 x1.2.1).bind λv3=>
 bif decide (v3.1.length=v2.length) then
 (some (.inl ((x1.1.set x1.2.2.toNat v3.1),v3.2,wr (x1.2.2+1))))
 else none)
 else
 (some (.inr (x1.1,x1.2.1)))
def uE (a0:(List (List Int))) (a1:Int):Option ((List (List Int))×Int):=
 (Lp oD (a0,a1,0)).bind λy5=>
 some (y5.1,y5.2)
theorem aHe (a0:(List (List Int))) (a1:Int) (r:((List (List Int))×Int)) (h:uE a0 a1=some r):HasT Tryz.prog 46 [.own 0 0 a0.length,.int a1] [(0,⟨1,a0.map (ow (dX 1 eI))⟩)] 1 (.int r.2) [(0,⟨1,r.1.map (ow (dX 1 eI))⟩)]:=by
 refine aDA aJ (rvs:=[.tmp 4]) (ns:=nmA.drop 1) Tryz.func46 k k Tryz.ntmps46 k k<|sS<|gV k2<|sn<|tn<|sQ<|sS<|gV k2<|sn<|tn<|aG<|oB h λy5 hy5 h=>bV (body:=oD) hy5 (λ(x1:((List (List Int))×Int×Int))=>mN [(0,.own 0 0 x1.1.length),(1,.int x1.2.1),(5,.int x1.2.2)] [(0,⟨1,x1.1.map (ow (dX 1 eI))⟩)] 1 ⟨1,true,none,true⟩) (λr e t=>e= .exit 0∧Ent t (mN [(1,.int r.2)] [(0,⟨1,r.1.map (ow (dX 1 eI))⟩)] 1 ⟨1,true,none,true⟩)) (bJ (bG k2) (cA (bY.plainO _) k<|aQ) k4) ?_ ?_
 ·intro x1 o h;refine sQ<|sS<|dF k2<|dF k2<|se (dC aJ k k k k) k<|cmS k4<|sn<|tn<|cF k h (λ_ h=>?_) λ_ h=>aY<|aB<|aB<|sp h ⟨_,k,k,(bJ (bG k2) (cA (bY.plainO _) k<|aQ) k4)⟩;exact aD<|tn<|sQ<|aG<|rgS<|dF k2<|dF k2<|oB h λv2 hv2 h=>dI (t:=mN [(0,.own 0 0 x1.1.length),(1,.int x1.2.1),(5,.int x1.2.2),(6,.int x1.2.2),(7,.own 0 0 x1.1.length),(8,.int ((x1.1.length:Nat):Int)),(9,.bl (decide (x1.2.2<((x1.1.length:Nat):Int)))),(12,.own 0 0 x1.1.length),(13,.int x1.2.2)] [(0,⟨1,(x1.1.map (ow (dX 1 eI))).set x1.2.2.toNat [.abs 1 (v2.map eI)]⟩)] 1 ⟨1,true,none,true⟩) (bJ (bG k2) (hX ⟨_,k,k,.inl ⟨aDn (iO hv2),aCa bY k⟩⟩ k<|aQ) k4)<|dI (zO (b:=0) (c:=1) (i:=x1.2.2.toNat) (j:=0) (n:=v2.length) (A:=x1.1.map (ow (dX 1 eI))) (fs:=v2.map (ow eI)) (by rw [eE];exact gC hv2) k k k k (aP _ _) (gY _ _) (pP ⟨k,k,k,k,k,k,k,k,k,aQ⟩) (pQ (skip:=[]) ⟨.inr (bY.dfS _ _ _ k),aQ⟩))<|dI (t:=mN [(0,.own 0 0 x1.1.length),(1,.int x1.2.1),(5,.int x1.2.2),(6,.int x1.2.2),(7,.own 0 0 x1.1.length),(8,.int ((x1.1.length:Nat):Int)),(9,.bl (decide (x1.2.2<((x1.1.length:Nat):Int)))),(12,.own 0 0 x1.1.length),(13,.int x1.2.2)] [(0,⟨1,(x1.1.map (ow (dX 1 eI))).set x1.2.2.toNat [.own 1 0 v2.length]⟩),(1,⟨1,v2.map (ow eI)⟩)] 2 ⟨1,true,none,true⟩) (fT (σ:=sg [(0,0),(1,1)]) (bG k2) (hX ⟨_,k,k,.inr (aAG (σ:=sg [(0,0),(1,1)]) (m:=2) (e:=(dX 1 eI)) (l:=x1.1) (i:=x1.2.2.toNat) (c:=[.own 1 0 v2.length]) (d:=[.own 1 0 v2.length]) bY ⟨_,_,k,⟨k,k,k,k⟩,k⟩)⟩ k<|bP k<|aQ) k)<|se (xo hv2 k) k<|se (dQ aJ k k k k (aFP (gC hv2)) k k) k<|dF k2<|oB h λv3 hv3 h=>se (fX (σ:=sg [(0,1)]) (σ':=sg [(1,0)]) (touch:=[1]) (news:=[]) (hl2:=[(1,⟨1,v3.1.map (ow eI)⟩)]) (n':=2) (r2:= .int v3.2) (gB v2 x1.2.1 v3 hv3) k k ⟨_,_,k,⟨k,k,k,k⟩,⟨_,_,k,k,k⟩⟩ ⟨⟨_,k,k,.inl ⟨k,bT.plainO _⟩⟩,k,aQ⟩ k k k ⟨⟨_,k,k,.inl ⟨k,bT.plainO _⟩⟩,k,aQ⟩ k k k ⟨k,bT.tame _ _,aQ⟩ k k) k<|cG h λq4 h=>gV k2<|sn<|aV<|tn<|rgS<|dF k2<|se (bC k k) k<|gV k2<|sn<|tn<|sp h ⟨_,k,(Ent.trans (show Ent _ (mN [(0,.own 0 0 ((x1.1.set x1.2.2.toNat v3.1).length)),(1,.int v3.2),(5,.int (wr (x1.2.2+1)))] [(0,⟨1,List.map (ow (dX 1 eI)) (x1.1.set x1.2.2.toNat v3.1)⟩)] 2 ⟨1,true,none,true⟩) from (Ent.trans (aAR (b:=0) (b':=1) (j:=0) (es':=v3.1.map eI) (by rw [eE];exact gC hv2) k k k k (by simp only [aP,lA,lT,lR,lC,lN,of_decide_eq_true q4]) (bT.frzs _)) (bJ (kB ⟨_,k,⟨k,k,(by simp only [aP,lA,lT,lR,lC,lN,of_decide_eq_true q4]),k⟩⟩ (bG k2)) (hX ⟨_,k,k,.inl ⟨aHR v3.1 k,bY.plainO _⟩⟩ k<|aQ) k4))) (bJ (bG k2) (cA (bY.plainO _) k<|aQ) k4))⟩
 ·rintro e t ⟨rfl,hent⟩;exact aM<|tn<|aN hent<|sS<|dF k2<|gV k2<|sn<|tn<|aC<|sp h ⟨mN [(4,.int y5.2)] [(0,⟨1,y5.1.map (ow (dX 1 eI))⟩)] 1 ⟨1,true,none,true⟩,(bJ (bG k2) (cA (bY.plainO _) k<|aQ) k4),k,⟨_,k,.inl k⟩,⟨k,aQ⟩⟩
def nB (x1:((List Sc)×Int×Int)):Option (((List Sc)×Int×Int) ⊕ ((List Sc)×Int)):=
 bif decide (x1.2.2<((x1.1.length:Nat):Int)) then
 ((dG x1.1 x1.2.2).bind λv2=>
 (uE v2.basis (wr (x1.2.1+1))).bind λv3=>
 bif decide (v3.1.length=v2.basis.length) then
 (some (.inl ((x1.1.set x1.2.2.toNat (⟨x1.2.1,v3.1⟩:Sc)),v3.2,wr (x1.2.2+1))))
 else none)
 else
 (some (.inr (x1.1,x1.2.1)))
def rO (a0:(List Sc)) (a1:Int):Option ((List Sc)×Int):=
 (Lp nB (a0,a1,0)).bind λy5=>
 some (y5.1,y5.2)
theorem aGR (a0:(List Sc)) (a1:Int) (r:((List Sc)×Int)) (h:rO a0 a1=some r):HasT Tryz.prog 41 [.own 0 0 a0.length,.int a1] [(0,⟨2,a0.map (ow eS)⟩)] 1 (.int r.2) [(0,⟨2,r.1.map (ow eS)⟩)]:=by
 refine aDA aJ (rvs:=[.tmp 4]) (ns:=nmA.drop 1) Tryz.func41 k k Tryz.ntmps41 k k<|sS<|gV k2<|sn<|tn<|sQ<|sS<|gV k2<|sn<|tn<|aG<|oB h λy5 hy5 h=>bV (body:=nB) hy5 (λ(x1:((List Sc)×Int×Int))=>mN [(0,.own 0 0 x1.1.length),(1,.int x1.2.1),(5,.int x1.2.2)] [(0,⟨2,x1.1.map (ow eS)⟩)] 1 ⟨1,true,none,true⟩) (λr e t=>e= .exit 0∧Ent t (mN [(1,.int r.2)] [(0,⟨2,r.1.map (ow eS)⟩)] 1 ⟨1,true,none,true⟩)) (bJ (bG k2) (cA (bX.plainO _) k<|aQ) k4) ?_ ?_
 ·intro x1 o h;refine sQ<|sS<|dF k2<|dF k2<|se (dC aJ k k k k) k<|cmS k4<|sn<|tn<|cF k h (λ_ h=>?_) λ_ h=>aY<|aB<|aB<|sp h ⟨_,k,k,(bJ (bG k2) (cA (bX.plainO _) k<|aQ) k4)⟩;refine aD<|tn<|sQ<|aG<|sS<|dF k2<|dF k2<|dF k2<|oB h λv2 hv2 h=>dI (t:=mN [(0,.own 0 0 x1.1.length),(1,.int x1.2.1),(5,.int x1.2.2),(6,.int x1.2.2),(7,.own 0 0 x1.1.length),(8,.int ((x1.1.length:Nat):Int)),(9,.bl (decide (x1.2.2<((x1.1.length:Nat):Int)))),(12,.own 0 0 x1.1.length),(13,.int x1.2.2),(14,.int x1.2.1)] [(0,⟨2,(x1.1.map (ow eS)).set x1.2.2.toNat [.int v2.size,.abs 1 (v2.basis.map (dX 1 eI))]⟩)] 1 ⟨1,true,none,true⟩) (bJ (bG k2) (hX ⟨_,k,k,.inl ⟨aDn (iO hv2),aCa bX k⟩⟩ k<|aQ) k4)<|dI (zO (b:=0) (c:=1) (i:=x1.2.2.toNat) (j:=1) (n:=v2.basis.length) (A:=x1.1.map (ow eS)) (fs:=v2.basis.map (ow (dX 1 eI))) (by rw [eE];exact gC hv2) k k k k (aP _ _) (gY _ _) (pP ⟨k,k,k,k,k,k,k,k,k,k,aQ⟩) (pQ (skip:=[]) ⟨.inr (bX.dfS _ _ _ k),aQ⟩))<|dI (t:=mN [(0,.own 0 0 x1.1.length),(1,.int x1.2.1),(5,.int x1.2.2),(6,.int x1.2.2),(7,.own 0 0 x1.1.length),(8,.int ((x1.1.length:Nat):Int)),(9,.bl (decide (x1.2.2<((x1.1.length:Nat):Int)))),(12,.own 0 0 x1.1.length),(13,.int x1.2.2),(14,.int x1.2.1)] [(0,⟨2,(x1.1.map (ow eS)).set x1.2.2.toNat [.int v2.size,.own 1 0 v2.basis.length]⟩),(1,⟨1,v2.basis.map (ow (dX 1 eI))⟩)] 2 ⟨1,true,none,true⟩) (fT (σ:=sg [(0,0),(1,1)]) (bG k2) (hX ⟨_,k,k,.inr (aAG (σ:=sg [(0,0),(1,1)]) (m:=2) (e:=eS) (l:=x1.1) (i:=x1.2.2.toNat) (c:=[.int v2.size,.own 1 0 v2.basis.length]) (d:=[.int v2.size,.own 1 0 v2.basis.length]) bX ⟨_,_,k,k,⟨_,_,k,⟨k,k,k,k⟩,k⟩⟩)⟩ k<|cA (bY.plainO _) k<|aQ) k)<|se (xo hv2 k) k<|fpS k8<|se (aAT aJ (A:=x1.1.map (ow eS)) (by rw [eE];exact gC hv2) k k k k k k k) k<|sn<|tn<|sS<|dF k2<|se (bC k k) k<|gV k2<|sn<|tn<|rgS<|dF k2<|dF k2<|se (xo hv2 k) k<|fpS k8 ?_;exact se (dQ aJ k k k k (aFP (gC hv2)) k k) k<|dF k2<|oB h λv3 hv3 h=>dI (t:=mN [(0,.own 0 0 x1.1.length),(1,.int (wr (x1.2.1+1))),(5,.int x1.2.2),(6,.int x1.2.2),(7,.own 0 0 x1.1.length),(8,.int ((x1.1.length:Nat):Int)),(9,.bl (decide (x1.2.2<((x1.1.length:Nat):Int)))),(12,.own 0 0 x1.1.length),(13,.int x1.2.2),(14,.int x1.2.1),(15,.ptr 0 x1.2.2.toNat 0),(16,.ptr 0 x1.2.2.toNat 0),(17,.int x1.2.1),(18,.int (wr (x1.2.1+1))),(19,.own 0 0 x1.1.length),(20,.int x1.2.2),(21,.ptr 0 x1.2.2.toNat 0),(22,.ptr 0 x1.2.2.toNat 1),(23,.own 1 0 v2.basis.length),(24,.int (wr (x1.2.1+1)))] [(0,⟨2,(x1.1.map (ow eS)).set x1.2.2.toNat [.int x1.2.1,.own 1 0 v2.basis.length]⟩),(1,⟨1,v2.basis.map (ow (dX 1 eI))⟩)] 2 ⟨1,true,none,true⟩) (fT (σ:=sg [(0,0),(1,1)]) (bG k2) (hX ⟨_,k,k,.inr (aAG (σ:=sg [(0,0),(1,1)]) (m:=2) (e:=eS) (l:=x1.1) (i:=x1.2.2.toNat) (c:=[.int x1.2.1,.own 1 0 v2.basis.length]) (d:=[.int x1.2.1,.own 1 0 v2.basis.length]) bX ⟨_,_,k,k,⟨_,_,k,⟨k,k,k,k⟩,k⟩⟩)⟩ k<|cA (bY.plainO _) k<|aQ) k)<|aBU (σ:=sg [(0,1)]) (σ':=sg [(1,0)]) (touch:=[1]) (news:=[]) (hl2:=[(1,⟨1,v3.1.map (ow (dX 1 eI))⟩)]) (n':=2) (r2:= .int v3.2) (aHe v2.basis (wr (x1.2.1+1)) v3 hv3) k k ⟨_,_,k,⟨k,k,k,k⟩,⟨_,_,k,k,k⟩⟩ ⟨⟨_,k,k,.inl ⟨k,bY.plainO _⟩⟩,k,aQ⟩ k k k ⟨⟨_,k,k,.inl ⟨k,bY.plainO _⟩⟩,k,aQ⟩ k k k ⟨k,bY.tame _ _,aQ⟩ k k k k k (pP ⟨k,k,k,k,k,k,k,k,k,k,k,k,k,k,k,k,k,k,k,k,aQ⟩) (pQ (skip:=[1]) ⟨.inr (bX.dfS _ _ _ k),.inl (by decide),aQ⟩)<|cG h λq4 h=>gV k2<|sn<|aV<|tn<|rgS<|dF k2<|se (bC k k) k<|gV k2<|sn<|tn<|sp h ⟨_,k,(Ent.trans (show Ent _ (mN [(0,.own 0 0 ((x1.1.set x1.2.2.toNat (⟨x1.2.1,v3.1⟩:Sc)).length)),(1,.int v3.2),(5,.int (wr (x1.2.2+1)))] [(0,⟨2,List.map (ow eS) (x1.1.set x1.2.2.toNat (⟨x1.2.1,v3.1⟩:Sc))⟩)] 2 ⟨1,true,none,true⟩) from (Ent.trans (aAR (b:=0) (b':=1) (j:=1) (es':=v3.1.map (dX 1 eI)) (by rw [eE];exact gC hv2) k k k k (by simp only [aP,lA,lT,lR,lC,lN,of_decide_eq_true q4]) (bY.frzs _)) (bJ (kB ⟨_,k,⟨k,k,(by simp only [aP,lA,lT,lR,lC,lN,of_decide_eq_true q4]),k⟩⟩ (bG k2)) (hX ⟨_,k,k,.inl ⟨aHR (⟨x1.2.1,v3.1⟩:Sc) k,bX.plainO _⟩⟩ k<|aQ) k4))) (bJ (bG k2) (cA (bX.plainO _) k<|aQ) k4))⟩
 ·rintro e t ⟨rfl,hent⟩;exact aM<|tn<|aN hent<|sS<|dF k2<|gV k2<|sn<|tn<|aC<|sp h ⟨mN [(4,.int y5.2)] [(0,⟨2,y5.1.map (ow eS)⟩)] 1 ⟨1,true,none,true⟩,(bJ (bG k2) (cA (bX.plainO _) k<|aQ) k4),k,⟨_,k,.inl k⟩,⟨k,aQ⟩⟩
def rP (a0:Qv) (a1:Int):Option ((List Int)×(List Int)×Int):=
 (eK a0.src a1).bind λv1=>
 bif decide (v1.1.length=a0.src.length) then
 ((eK a0.tgt v1.2).bind λv3=>
 bif decide (v3.1.length=a0.tgt.length) then
 (some (v1.1,v3.1,v3.2))
 else none)
 else none
theorem aGS (a0:Qv) (a1:Int) (r:((List Int)×(List Int)×Int)) (h:rP a0 a1=some r):HasE Tryz.prog 69 [.agg [.int a0.n,.own 0 0 a0.src.length,.own 1 0 a0.tgt.length],.int a1] [(0,⟨1,a0.src.map (ow eI)⟩),(1,⟨1,a0.tgt.map (ow eI)⟩)] 2 (.int r.2.2) [(0,⟨1,r.1.map (ow eI)⟩),(1,⟨1,r.2.1.map (ow eI)⟩)]:=by
 refine pO aJ (rvs:=[.tmp 4]) (ns:=nmA.drop 2) Tryz.func69 k k Tryz.ntmps69 k k<|sR<|ae (wb k) k<|aT k2<|sR<|fp k8<|lp k8<|am k k<|oB h λv1 hv1 h=>ae (fX (σ:=sg [(0,0)]) (σ':=sg [(0,0)]) (touch:=[0]) (news:=[]) (hl2:=[(0,⟨1,v1.1.map (ow eI)⟩)]) (n':=3) (r2:= .int v1.2) (gB a0.src a1 v1 hv1) k k ⟨_,_,k,⟨k,k,k,k⟩,⟨_,_,k,k,k⟩⟩ ⟨⟨_,k,k,.inl ⟨k,bT.plainO _⟩⟩,k,aQ⟩ k k k ⟨⟨_,k,k,.inl ⟨k,bT.plainO _⟩⟩,k,aQ⟩ k k k ⟨k,bT.tame _ _,aQ⟩ k k) k<|cG h λq2 h=>aT k2<|sR<|fp k8<|lp k8<|am k k<|oB h λv3 hv3 h=>ae (fX (σ:=sg [(0,1)]) (σ':=sg [(1,0)]) (touch:=[1]) (news:=[]) (hl2:=[(1,⟨1,v3.1.map (ow eI)⟩)]) (n':=3) (r2:= .int v3.2) (gB a0.tgt v1.2 v3 hv3) k k ⟨_,_,k,⟨k,k,k,k⟩,⟨_,_,k,k,k⟩⟩ ⟨⟨_,k,k,.inl ⟨k,bT.plainO _⟩⟩,k,aQ⟩ k k k ⟨⟨_,k,k,.inl ⟨k,bT.plainO _⟩⟩,k,aQ⟩ k k k ⟨k,bT.tame _ _,aQ⟩ k k) k<|cG h λq4 h=>aT k2<|sR<|am k k<|aa k k<|an ?_;exact tn<|aC<|sp h ⟨mN [(4,.int v3.2)] [(0,⟨1,v1.1.map (ow eI)⟩),(1,⟨1,v3.1.map (ow eI)⟩)] 2 2,(bJ (bG k2) (bP k<|bP k<|aQ) k4),k,⟨_,k,.inl k⟩,⟨k,k,aQ⟩⟩
def mD (x1:((List Mt)×Int×Int)):Option (((List Mt)×Int×Int) ⊕ ((List Mt)×Int)):=
 bif decide (x1.2.2<((x1.1.length:Nat):Int)) then
 ((dG x1.1 x1.2.2).bind λv2=>
 (eK v2.cells (wr ((wr (x1.2.1+1))+1))).bind λv3=>
 bif decide (v3.1.length=v2.cells.length) then
 (some (.inl ((x1.1.set x1.2.2.toNat (⟨x1.2.1,wr (x1.2.1+1),v3.1⟩:Mt)),v3.2,wr (x1.2.2+1))))
 else none)
 else
 (some (.inr (x1.1,x1.2.1)))
def iZ (a0:(List Mt)) (a1:Int):Option ((List Mt)×Int):=
 (Lp mD (a0,a1,0)).bind λy5=>
 some (y5.1,y5.2)
theorem wQ (a0:(List Mt)) (a1:Int) (r:((List Mt)×Int)) (h:iZ a0 a1=some r):HasT Tryz.prog 70 [.own 0 0 a0.length,.int a1] [(0,⟨3,a0.map (ow eM)⟩)] 1 (.int r.2) [(0,⟨3,r.1.map (ow eM)⟩)]:=by
 refine aDA aJ (rvs:=[.tmp 4]) (ns:=nmA.drop 1) Tryz.func70 k k Tryz.ntmps70 k k<|sS<|gV k2<|sn<|tn<|sQ<|sS<|gV k2<|sn<|tn<|aG<|oB h λy5 hy5 h=>bV (body:=mD) hy5 (λ(x1:((List Mt)×Int×Int))=>mN [(0,.own 0 0 x1.1.length),(1,.int x1.2.1),(5,.int x1.2.2)] [(0,⟨3,x1.1.map (ow eM)⟩)] 1 ⟨1,true,none,true⟩) (λr e t=>e= .exit 0∧Ent t (mN [(1,.int r.2)] [(0,⟨3,r.1.map (ow eM)⟩)] 1 ⟨1,true,none,true⟩)) (bJ (bG k2) (cA (cB.plainO _) k<|aQ) k4) ?_ ?_
 ·intro x1 o h;refine sQ<|sS<|dF k2<|dF k2<|se (dC aJ k k k k) k<|cmS k4<|sn<|tn<|cF k h (λ_ h=>?_) λ_ h=>aY<|aB<|aB<|sp h ⟨_,k,k,(bJ (bG k2) (cA (cB.plainO _) k<|aQ) k4)⟩;refine aD<|tn<|sQ<|aG<|sS<|dF k2<|dF k2<|dF k2<|oB h λv2 hv2 h=>dI (t:=mN [(0,.own 0 0 x1.1.length),(1,.int x1.2.1),(5,.int x1.2.2),(6,.int x1.2.2),(7,.own 0 0 x1.1.length),(8,.int ((x1.1.length:Nat):Int)),(9,.bl (decide (x1.2.2<((x1.1.length:Nat):Int)))),(12,.own 0 0 x1.1.length),(13,.int x1.2.2),(14,.int x1.2.1)] [(0,⟨3,(x1.1.map (ow eM)).set x1.2.2.toNat [.int v2.rows,.int v2.cols,.abs 1 (v2.cells.map eI)]⟩)] 1 ⟨1,true,none,true⟩) (bJ (bG k2) (hX ⟨_,k,k,.inl ⟨aDn (iO hv2),aCa cB k⟩⟩ k<|aQ) k4)<|dI (zO (b:=0) (c:=1) (i:=x1.2.2.toNat) (j:=2) (n:=v2.cells.length) (A:=x1.1.map (ow eM)) (fs:=v2.cells.map (ow eI)) (by rw [eE];exact gC hv2) k k k k (aP _ _) (gY _ _) (pP ⟨k,k,k,k,k,k,k,k,k,k,aQ⟩) (pQ (skip:=[]) ⟨.inr (cB.dfS _ _ _ k),aQ⟩))<|dI (t:=mN [(0,.own 0 0 x1.1.length),(1,.int x1.2.1),(5,.int x1.2.2),(6,.int x1.2.2),(7,.own 0 0 x1.1.length),(8,.int ((x1.1.length:Nat):Int)),(9,.bl (decide (x1.2.2<((x1.1.length:Nat):Int)))),(12,.own 0 0 x1.1.length),(13,.int x1.2.2),(14,.int x1.2.1)] [(0,⟨3,(x1.1.map (ow eM)).set x1.2.2.toNat [.int v2.rows,.int v2.cols,.own 1 0 v2.cells.length]⟩),(1,⟨1,v2.cells.map (ow eI)⟩)] 2 ⟨1,true,none,true⟩) (fT (σ:=sg [(0,0),(1,1)]) (bG k2) (hX ⟨_,k,k,.inr (aAG (σ:=sg [(0,0),(1,1)]) (m:=2) (e:=eM) (l:=x1.1) (i:=x1.2.2.toNat) (c:=[.int v2.rows,.int v2.cols,.own 1 0 v2.cells.length]) (d:=[.int v2.rows,.int v2.cols,.own 1 0 v2.cells.length]) cB ⟨_,_,k,k,⟨_,_,k,k,⟨_,_,k,⟨k,k,k,k⟩,k⟩⟩⟩)⟩ k<|bP k<|aQ) k)<|se (xo hv2 k) k<|fpS k8<|se (aAT aJ (A:=x1.1.map (ow eM)) (by rw [eE];exact gC hv2) k k k k k k k) k<|sn<|tn<|sS<|dF k2<|se (bC k k) k<|gV k2<|sn<|tn<|sS<|dF k2<|dF k2<|dF k2 ?_;exact se (xo hv2 k) k<|fpS k8<|se (aAT aJ (A:=x1.1.map (ow eM)) (by rw [eE];exact gC hv2) k k k k k k k) k<|sn<|tn<|sS<|dF k2<|se (bC k k) k<|gV k2<|sn<|tn<|rgS<|dF k2<|dF k2<|se (xo hv2 k) k<|fpS k8<|se (dQ aJ k k k k (aFP (gC hv2)) k k) k<|dF k2<|oB h λv3 hv3 h=>se (fX (σ:=sg [(0,1)]) (σ':=sg [(1,0)]) (touch:=[1]) (news:=[]) (hl2:=[(1,⟨1,v3.1.map (ow eI)⟩)]) (n':=2) (r2:= .int v3.2) (gB v2.cells (wr ((wr (x1.2.1+1))+1)) v3 hv3) k k ⟨_,_,k,⟨k,k,k,k⟩,⟨_,_,k,k,k⟩⟩ ⟨⟨_,k,k,.inl ⟨k,bT.plainO _⟩⟩,k,aQ⟩ k k k ⟨⟨_,k,k,.inl ⟨k,bT.plainO _⟩⟩,k,aQ⟩ k k k ⟨k,bT.tame _ _,aQ⟩ k k) k<|cG h λq4 h=>gV k2<|sn<|aV<|tn<|rgS<|dF k2<|se (bC k k) k<|gV k2<|sn<|tn<|sp h ⟨_,k,(Ent.trans (show Ent _ (mN [(0,.own 0 0 ((x1.1.set x1.2.2.toNat (⟨x1.2.1,wr (x1.2.1+1),v3.1⟩:Mt)).length)),(1,.int v3.2),(5,.int (wr (x1.2.2+1)))] [(0,⟨3,List.map (ow eM) (x1.1.set x1.2.2.toNat (⟨x1.2.1,wr (x1.2.1+1),v3.1⟩:Mt))⟩)] 2 ⟨1,true,none,true⟩) from (Ent.trans (aAR (b:=0) (b':=1) (j:=2) (es':=v3.1.map eI) (by rw [eE];exact gC hv2) k k k k (by simp only [aP,lA,lT,lR,lC,lN,of_decide_eq_true q4]) (bT.frzs _)) (bJ (kB ⟨_,k,⟨k,k,(by simp only [aP,lA,lT,lR,lC,lN,of_decide_eq_true q4]),k⟩⟩ (bG k2)) (hX ⟨_,k,k,.inl ⟨aHR (⟨x1.2.1,wr (x1.2.1+1),v3.1⟩:Mt) k,cB.plainO _⟩⟩ k<|aQ) k4))) (bJ (bG k2) (cA (cB.plainO _) k<|aQ) k4))⟩
 ·rintro e t ⟨rfl,hent⟩;exact aM<|tn<|aN hent<|sS<|dF k2<|gV k2<|sn<|tn<|aC<|sp h ⟨mN [(4,.int y5.2)] [(0,⟨3,y5.1.map (ow eM)⟩)] 1 ⟨1,true,none,true⟩,(bJ (bG k2) (cA (cB.plainO _) k<|aQ) k4),k,⟨_,k,.inl k⟩,⟨k,aQ⟩⟩
def oZ (a0:Rp) (a1:Int):Option ((List Int)×(List Int)×(List Int)×(List Mt)×Int):=
 (rP a0.q a1).bind λv1=>
 bif decide (v1.1.length=a0.q.src.length) then
 (bif decide (v1.2.1.length=a0.q.tgt.length) then
 ((eK a0.dims v1.2.2).bind λv4=>
 bif decide (v4.1.length=a0.dims.length) then
 ((iZ a0.maps v4.2).bind λv6=>
 bif decide (v6.1.length=a0.maps.length) then
 (some (v1.1,v1.2.1,v4.1,v6.1,v6.2))
 else none)
 else none)
 else none)
 else none
theorem aBZ (a0:Rp) (a1:Int) (r:((List Int)×(List Int)×(List Int)×(List Mt)×Int)) (h:oZ a0 a1=some r):HasT Tryz.prog 19 [.agg [.int a0.p,.int a0.q.n,.own 0 0 a0.q.src.length,.own 1 0 a0.q.tgt.length,.own 2 0 a0.dims.length,.own 3 0 a0.maps.length],.int a1] [(0,⟨1,a0.q.src.map (ow eI)⟩),(1,⟨1,a0.q.tgt.map (ow eI)⟩),(2,⟨1,a0.dims.map (ow eI)⟩),(3,⟨3,a0.maps.map (ow eM)⟩)] 4 (.int r.2.2.2.2) [(0,⟨1,r.1.map (ow eI)⟩),(1,⟨1,r.2.1.map (ow eI)⟩),(2,⟨1,r.2.2.1.map (ow eI)⟩),(3,⟨3,r.2.2.2.1.map (ow eM)⟩)]:=by
 refine aDA aJ (rvs:=[.tmp 4]) (ns:=nmA.drop 4) Tryz.func19 k k Tryz.ntmps19 k k<|sS<|se (wb k) k<|gV k2<|sn<|tn<|sS<|fpS k8<|lpS k8<|dF k2<|oB h λv1 hv1 h=>se (fX (σ:=sg [(0,0),(1,1)]) (σ':=sg [(0,0),(1,1)]) (touch:=[0,1]) (news:=[]) (hl2:=[(0,⟨1,v1.1.map (ow eI)⟩),(1,⟨1,v1.2.1.map (ow eI)⟩)]) (n':=5) (r2:= .int v1.2.2) (aGS a0.q a1 v1 hv1) k k ⟨_,_,k,⟨_,_,k,k,⟨_,_,k,⟨k,k,k,k⟩,⟨_,_,k,⟨k,k,k,k⟩,k⟩⟩⟩,⟨_,_,k,k,k⟩⟩ ⟨⟨_,k,k,.inl ⟨k,bT.plainO _⟩⟩,k,⟨_,k,k,.inl ⟨k,bT.plainO _⟩⟩,k,aQ⟩ k k k ⟨⟨_,k,k,.inl ⟨k,bT.plainO _⟩⟩,k,⟨_,k,k,.inl ⟨k,bT.plainO _⟩⟩,k,aQ⟩ k k k ⟨k,bT.tame _ _,⟨k,bT.tame _ _,aQ⟩⟩ k k) k<|cG h λq2 h=>cG h λq3 h=>gV k2<|sn<|tn<|sS<|fpS k8<|lpS k8<|dF k2<|oB h λv4 hv4 h=>se (fX (σ:=sg [(0,2)]) (σ':=sg [(2,0)]) (touch:=[2]) (news:=[]) (hl2:=[(2,⟨1,v4.1.map (ow eI)⟩)]) (n':=5) (r2:= .int v4.2) (gB a0.dims v1.2.2 v4 hv4) k k ⟨_,_,k,⟨k,k,k,k⟩,⟨_,_,k,k,k⟩⟩ ⟨⟨_,k,k,.inl ⟨k,bT.plainO _⟩⟩,k,aQ⟩ k k k ⟨⟨_,k,k,.inl ⟨k,bT.plainO _⟩⟩,k,aQ⟩ k k k ⟨k,bT.tame _ _,aQ⟩ k k) k<|cG h λq5 h=>gV k2<|sn<|tn<|sS<|fpS k8<|lpS k8<|dF k2 ?_;exact oB h λv6 hv6 h=>dI (t:=mN [(0,.agg (oRp a0 0 1 2 3)),(1,.int v4.2),(2,.ptr 4 0 0),(4,.int 0),(5,.ptr 4 0 1),(6,.agg (oQv a0.q 0 1)),(7,.int a1),(8,.int v1.2.2),(9,.ptr 4 0 4),(10,.own 2 0 a0.dims.length),(11,.int v1.2.2),(12,.int v4.2),(13,.ptr 4 0 5),(14,.own 3 0 a0.maps.length),(15,.int v4.2)] [(0,⟨1,v1.1.map (ow eI)⟩),(1,⟨1,v1.2.1.map (ow eI)⟩),(2,⟨1,v4.1.map (ow eI)⟩),(3,⟨3,a0.maps.map (ow eM)⟩),(4,⟨6,[oRp a0 0 1 2 3]⟩)] 5 ⟨4,true,none,true⟩) (bJ (bG k2) (bP k<|bP k<|bP k<|cA (cB.plainO _) k<|eJ k<|aQ) k4)<|aBU (σ:=sg [(0,3)]) (σ':=sg [(3,0)]) (touch:=[3]) (news:=[]) (hl2:=[(3,⟨3,v6.1.map (ow eM)⟩)]) (n':=5) (r2:= .int v6.2) (wQ a0.maps v4.2 v6 hv6) k k ⟨_,_,k,⟨k,k,k,k⟩,⟨_,_,k,k,k⟩⟩ ⟨⟨_,k,k,.inl ⟨k,cB.plainO _⟩⟩,k,aQ⟩ k k k ⟨⟨_,k,k,.inl ⟨k,cB.plainO _⟩⟩,k,aQ⟩ k k k ⟨k,cB.tame _ _,aQ⟩ k k k k k (pP ⟨k,k,k,k,k,k,k,k,k,k,k,k,k,k,k,aQ⟩) (pQ (skip:=[3]) ⟨.inr (bT.df _ _),.inr (bT.df _ _),.inr (bT.df _ _),.inl (by decide),.inr (aCF k),aQ⟩)<|cG h λq7 h=>gV k2<|sn<|tn<|sS<|dF k2<|gV k2<|sn<|tn<|aC<|sp h ⟨mN [(4,.int v6.2)] [(0,⟨1,v1.1.map (ow eI)⟩),(1,⟨1,v1.2.1.map (ow eI)⟩),(2,⟨1,v4.1.map (ow eI)⟩),(3,⟨3,v6.1.map (ow eM)⟩)] 4 ⟨4,true,none,true⟩,(bJ (bG k2) (bP k<|bP k<|bP k<|cA (cB.plainO _) k<|aQ) k4),k,⟨_,k,.inl k⟩,⟨k,k,k,k,aQ⟩⟩
def wR (x1:((List Rp)×Int×Int)):Option (((List Rp)×Int×Int) ⊕ ((List Rp)×Int)):=
 bif decide (x1.2.2<((x1.1.length:Nat):Int)) then
 ((dG x1.1 x1.2.2).bind λv2=>
 (eK v2.q.src (wr ((wr (x1.2.1+1))+1))).bind λv3=>
 bif decide (v3.1.length=v2.q.src.length) then
 ((eK v2.q.tgt v3.2).bind λv5=>
 bif decide (v5.1.length=v2.q.tgt.length) then
 ((eK v2.dims v5.2).bind λv7=>
 bif decide (v7.1.length=v2.dims.length) then
 ((iZ v2.maps v7.2).bind λv9=>
 bif decide (v9.1.length=v2.maps.length) then
 (some (.inl ((x1.1.set x1.2.2.toNat (⟨x1.2.1,(⟨wr (x1.2.1+1),v3.1,v5.1⟩:Qv),v7.1,v9.1⟩:Rp)),v9.2,wr (x1.2.2+1))))
 else none)
 else none)
 else none)
 else none)
 else
 (some (.inr (x1.1,x1.2.1)))
def vT (a0:(List Rp)) (a1:Int):Option ((List Rp)×Int):=
 (Lp wR (a0,a1,0)).bind λy11=>
 some (y11.1,y11.2)
theorem aIs (a0:(List Rp)) (a1:Int) (r:((List Rp)×Int)) (h:vT a0 a1=some r):HasT Tryz.prog 71 [.own 0 0 a0.length,.int a1] [(0,⟨6,a0.map (ow eR)⟩)] 1 (.int r.2) [(0,⟨6,r.1.map (ow eR)⟩)]:=by
 refine aDA aJ (rvs:=[.tmp 4]) (ns:=nmA.drop 1) Tryz.func71 k k Tryz.ntmps71 k k<|sS<|gV k2<|sn<|tn<|sQ<|sS<|gV k2<|sn<|tn<|aG<|oB h λy11 hy11 h=>bV (body:=wR) hy11 (λ(x1:((List Rp)×Int×Int))=>mN [(0,.own 0 0 x1.1.length),(1,.int x1.2.1),(5,.int x1.2.2)] [(0,⟨6,x1.1.map (ow eR)⟩)] 1 ⟨1,true,none,true⟩) (λr e t=>e= .exit 0∧Ent t (mN [(1,.int r.2)] [(0,⟨6,r.1.map (ow eR)⟩)] 1 ⟨1,true,none,true⟩)) (bJ (bG k2) (cA (kN.plainO _) k<|aQ) k4) ?_ ?_
 ·intro x1 o h;refine sQ<|sS<|dF k2<|dF k2<|se (dC aJ k k k k) k<|cmS k4<|sn<|tn<|cF k h (λ_ h=>?_) λ_ h=>aY<|aB<|aB<|sp h ⟨_,k,k,(bJ (bG k2) (cA (kN.plainO _) k<|aQ) k4)⟩;refine aD<|tn<|sQ<|aG<|sS<|dF k2<|dF k2<|dF k2<|oB h λv2 hv2 h=>dI (t:=mN [(0,.own 0 0 x1.1.length),(1,.int x1.2.1),(5,.int x1.2.2),(6,.int x1.2.2),(7,.own 0 0 x1.1.length),(8,.int ((x1.1.length:Nat):Int)),(9,.bl (decide (x1.2.2<((x1.1.length:Nat):Int)))),(12,.own 0 0 x1.1.length),(13,.int x1.2.2),(14,.int x1.2.1)] [(0,⟨6,(x1.1.map (ow eR)).set x1.2.2.toNat [.int v2.p,.int v2.q.n,.abs 1 (v2.q.src.map eI),.abs 1 (v2.q.tgt.map eI),.abs 1 (v2.dims.map eI),.abs 3 (v2.maps.map eM)]⟩)] 1 ⟨1,true,none,true⟩) (bJ (bG k2) (hX ⟨_,k,k,.inl ⟨aDn (iO hv2),aCa kN k⟩⟩ k<|aQ) k4)<|dI (zO (b:=0) (c:=1) (i:=x1.2.2.toNat) (j:=2) (n:=v2.q.src.length) (A:=x1.1.map (ow eR)) (fs:=v2.q.src.map (ow eI)) (by rw [eE];exact gC hv2) k k k k (aP _ _) (gY _ _) (pP ⟨k,k,k,k,k,k,k,k,k,k,aQ⟩) (pQ (skip:=[]) ⟨.inr (kN.dfS _ _ _ k),aQ⟩))<|dI (t:=mN [(0,.own 0 0 x1.1.length),(1,.int x1.2.1),(5,.int x1.2.2),(6,.int x1.2.2),(7,.own 0 0 x1.1.length),(8,.int ((x1.1.length:Nat):Int)),(9,.bl (decide (x1.2.2<((x1.1.length:Nat):Int)))),(12,.own 0 0 x1.1.length),(13,.int x1.2.2),(14,.int x1.2.1)] [(0,⟨6,(x1.1.map (ow eR)).set x1.2.2.toNat [.int v2.p,.int v2.q.n,.own 1 0 v2.q.src.length,.abs 1 (v2.q.tgt.map eI),.abs 1 (v2.dims.map eI),.abs 3 (v2.maps.map eM)]⟩),(1,⟨1,v2.q.src.map (ow eI)⟩)] 2 ⟨1,true,none,true⟩) (fT (σ:=sg [(0,0),(1,1)]) (bG k2) (hX ⟨_,k,k,.inr (aAG (σ:=sg [(0,0),(1,1)]) (m:=2) (e:=eR) (l:=x1.1) (i:=x1.2.2.toNat) (c:=[.int v2.p,.int v2.q.n,.own 1 0 v2.q.src.length,.abs 1 (v2.q.tgt.map eI),.abs 1 (v2.dims.map eI),.abs 3 (v2.maps.map eM)]) (d:=[.int v2.p,.int v2.q.n,.own 1 0 v2.q.src.length,.abs 1 (v2.q.tgt.map eI),.abs 1 (v2.dims.map eI),.abs 3 (v2.maps.map eM)]) kN ⟨_,_,k,k,⟨_,_,k,k,⟨_,_,k,⟨k,k,k,k⟩,⟨_,_,k,⟨k,k⟩,⟨_,_,k,⟨k,k⟩,⟨_,_,k,⟨k,k⟩,k⟩⟩⟩⟩⟩⟩)⟩ k<|bP k<|aQ) k)<|dI (zO (b:=0) (c:=2) (i:=x1.2.2.toNat) (j:=3) (n:=v2.q.tgt.length) (A:=x1.1.map (ow eR)) (fs:=v2.q.tgt.map (ow eI)) (by rw [eE];exact gC hv2) k k k k (aP _ _) (gY _ _) (pP ⟨k,k,k,k,k,k,k,k,k,k,aQ⟩) (pQ (skip:=[]) ⟨.inr (kN.dfS _ _ _ k),.inr (bT.df _ _),aQ⟩))<|dI (t:=mN [(0,.own 0 0 x1.1.length),(1,.int x1.2.1),(5,.int x1.2.2),(6,.int x1.2.2),(7,.own 0 0 x1.1.length),(8,.int ((x1.1.length:Nat):Int)),(9,.bl (decide (x1.2.2<((x1.1.length:Nat):Int)))),(12,.own 0 0 x1.1.length),(13,.int x1.2.2),(14,.int x1.2.1)] [(0,⟨6,(x1.1.map (ow eR)).set x1.2.2.toNat [.int v2.p,.int v2.q.n,.own 1 0 v2.q.src.length,.own 2 0 v2.q.tgt.length,.abs 1 (v2.dims.map eI),.abs 3 (v2.maps.map eM)]⟩),(1,⟨1,v2.q.src.map (ow eI)⟩),(2,⟨1,v2.q.tgt.map (ow eI)⟩)] 3 ⟨1,true,none,true⟩) (fT (σ:=sg [(0,0),(1,1),(2,2)]) (bG k2) (hX ⟨_,k,k,.inr (aAG (σ:=sg [(0,0),(1,1),(2,2)]) (m:=3) (e:=eR) (l:=x1.1) (i:=x1.2.2.toNat) (c:=[.int v2.p,.int v2.q.n,.own 1 0 v2.q.src.length,.own 2 0 v2.q.tgt.length,.abs 1 (v2.dims.map eI),.abs 3 (v2.maps.map eM)]) (d:=[.int v2.p,.int v2.q.n,.own 1 0 v2.q.src.length,.own 2 0 v2.q.tgt.length,.abs 1 (v2.dims.map eI),.abs 3 (v2.maps.map eM)]) kN ⟨_,_,k,k,⟨_,_,k,k,⟨_,_,k,⟨k,k,k,k⟩,⟨_,_,k,⟨k,k,k,k⟩,⟨_,_,k,⟨k,k⟩,⟨_,_,k,⟨k,k⟩,k⟩⟩⟩⟩⟩⟩)⟩ k<|bP k<|bP k<|aQ) k)<|dI (zO (b:=0) (c:=3) (i:=x1.2.2.toNat) (j:=4) (n:=v2.dims.length) (A:=x1.1.map (ow eR)) (fs:=v2.dims.map (ow eI)) (by rw [eE];exact gC hv2) k k k k (aP _ _) (gY _ _) (pP ⟨k,k,k,k,k,k,k,k,k,k,aQ⟩) (pQ (skip:=[]) ⟨.inr (kN.dfS _ _ _ k),.inr (bT.df _ _),.inr (bT.df _ _),aQ⟩))<|dI (t:=mN [(0,.own 0 0 x1.1.length),(1,.int x1.2.1),(5,.int x1.2.2),(6,.int x1.2.2),(7,.own 0 0 x1.1.length),(8,.int ((x1.1.length:Nat):Int)),(9,.bl (decide (x1.2.2<((x1.1.length:Nat):Int)))),(12,.own 0 0 x1.1.length),(13,.int x1.2.2),(14,.int x1.2.1)] [(0,⟨6,(x1.1.map (ow eR)).set x1.2.2.toNat [.int v2.p,.int v2.q.n,.own 1 0 v2.q.src.length,.own 2 0 v2.q.tgt.length,.own 3 0 v2.dims.length,.abs 3 (v2.maps.map eM)]⟩),(1,⟨1,v2.q.src.map (ow eI)⟩),(2,⟨1,v2.q.tgt.map (ow eI)⟩),(3,⟨1,v2.dims.map (ow eI)⟩)] 4 ⟨1,true,none,true⟩) (fT (σ:=sg [(0,0),(1,1),(2,2),(3,3)]) (bG k2) (hX ⟨_,k,k,.inr (aAG (σ:=sg [(0,0),(1,1),(2,2),(3,3)]) (m:=4) (e:=eR) (l:=x1.1) (i:=x1.2.2.toNat) (c:=[.int v2.p,.int v2.q.n,.own 1 0 v2.q.src.length,.own 2 0 v2.q.tgt.length,.own 3 0 v2.dims.length,.abs 3 (v2.maps.map eM)]) (d:=[.int v2.p,.int v2.q.n,.own 1 0 v2.q.src.length,.own 2 0 v2.q.tgt.length,.own 3 0 v2.dims.length,.abs 3 (v2.maps.map eM)]) kN ⟨_,_,k,k,⟨_,_,k,k,⟨_,_,k,⟨k,k,k,k⟩,⟨_,_,k,⟨k,k,k,k⟩,⟨_,_,k,⟨k,k,k,k⟩,⟨_,_,k,⟨k,k⟩,k⟩⟩⟩⟩⟩⟩)⟩ k<|bP k<|bP k<|bP k<|aQ) k)<|dI (zO (b:=0) (c:=4) (i:=x1.2.2.toNat) (j:=5) (n:=v2.maps.length) (A:=x1.1.map (ow eR)) (fs:=v2.maps.map (ow eM)) (by rw [eE];exact gC hv2) k k k k (aP _ _) (gY _ _) (pP ⟨k,k,k,k,k,k,k,k,k,k,aQ⟩) (pQ (skip:=[]) ⟨.inr (kN.dfS _ _ _ k),.inr (bT.df _ _),.inr (bT.df _ _),.inr (bT.df _ _),aQ⟩))<|dI (t:=mN [(0,.own 0 0 x1.1.length),(1,.int x1.2.1),(5,.int x1.2.2),(6,.int x1.2.2),(7,.own 0 0 x1.1.length),(8,.int ((x1.1.length:Nat):Int)),(9,.bl (decide (x1.2.2<((x1.1.length:Nat):Int)))),(12,.own 0 0 x1.1.length),(13,.int x1.2.2),(14,.int x1.2.1)] [(0,⟨6,(x1.1.map (ow eR)).set x1.2.2.toNat [.int v2.p,.int v2.q.n,.own 1 0 v2.q.src.length,.own 2 0 v2.q.tgt.length,.own 3 0 v2.dims.length,.own 4 0 v2.maps.length]⟩),(1,⟨1,v2.q.src.map (ow eI)⟩),(2,⟨1,v2.q.tgt.map (ow eI)⟩),(3,⟨1,v2.dims.map (ow eI)⟩),(4,⟨3,v2.maps.map (ow eM)⟩)] 5 ⟨1,true,none,true⟩) (fT (σ:=sg [(0,0),(1,1),(2,2),(3,3),(4,4)]) (bG k2) (hX ⟨_,k,k,.inr (aAG (σ:=sg [(0,0),(1,1),(2,2),(3,3),(4,4)]) (m:=5) (e:=eR) (l:=x1.1) (i:=x1.2.2.toNat) (c:=[.int v2.p,.int v2.q.n,.own 1 0 v2.q.src.length,.own 2 0 v2.q.tgt.length,.own 3 0 v2.dims.length,.own 4 0 v2.maps.length]) (d:=[.int v2.p,.int v2.q.n,.own 1 0 v2.q.src.length,.own 2 0 v2.q.tgt.length,.own 3 0 v2.dims.length,.own 4 0 v2.maps.length]) kN ⟨_,_,k,k,⟨_,_,k,k,⟨_,_,k,⟨k,k,k,k⟩,⟨_,_,k,⟨k,k,k,k⟩,⟨_,_,k,⟨k,k,k,k⟩,⟨_,_,k,⟨k,k,k,k⟩,k⟩⟩⟩⟩⟩⟩)⟩ k<|bP k<|bP k<|bP k<|cA (cB.plainO _) k<|aQ) k) ?_;refine se (xo hv2 k) k<|fpS k8<|se (aAT aJ (A:=x1.1.map (ow eR)) (by rw [eE];exact gC hv2) k k k k k k k) k<|sn<|tn<|sS<|dF k2<|se (bC k k) k<|gV k2<|sn<|tn<|sS<|dF k2<|dF k2<|dF k2<|se (xo hv2 k) k<|fpS k8<|fpS k8<|se (aAT aJ (A:=x1.1.map (ow eR)) (by rw [eE];exact gC hv2) k k k k k k k) k<|sn<|tn<|sS<|dF k2<|se (bC k k) k<|gV k2<|sn<|tn ?_;refine sS<|dF k2<|dF k2<|se (xo hv2 k) k<|fpS k8<|fpS k8<|se (dQ aJ k k k k (aFP (gC hv2)) k k) k<|dF k2<|oB h λv3 hv3 h=>se (fX (σ:=sg [(0,1)]) (σ':=sg [(1,0)]) (touch:=[1]) (news:=[]) (hl2:=[(1,⟨1,v3.1.map (ow eI)⟩)]) (n':=5) (r2:= .int v3.2) (gB v2.q.src (wr ((wr (x1.2.1+1))+1)) v3 hv3) k k ⟨_,_,k,⟨k,k,k,k⟩,⟨_,_,k,k,k⟩⟩ ⟨⟨_,k,k,.inl ⟨k,bT.plainO _⟩⟩,k,aQ⟩ k k k ⟨⟨_,k,k,.inl ⟨k,bT.plainO _⟩⟩,k,aQ⟩ k k k ⟨k,bT.tame _ _,aQ⟩ k k) k<|cG h λq4 h=>gV k2<|sn<|tn<|aN (t:=mN [(0,.own 0 0 x1.1.length),(1,.int v3.2),(5,.int x1.2.2)] [(0,⟨6,(x1.1.map (ow eR)).set x1.2.2.toNat [.int x1.2.1,.int (wr (x1.2.1+1)),.own 1 0 v3.1.length,.own 2 0 v2.q.tgt.length,.own 3 0 v2.dims.length,.own 4 0 v2.maps.length]⟩),(1,⟨1,v3.1.map (ow eI)⟩),(2,⟨1,v2.q.tgt.map (ow eI)⟩),(3,⟨1,v2.dims.map (ow eI)⟩),(4,⟨3,v2.maps.map (ow eM)⟩)] 5 ⟨1,true,none,true⟩) (fT (σ:=sg [(0,0),(1,1),(2,2),(3,3),(4,4)]) (bG k2) (hX ⟨_,k,k,.inr (aAG (σ:=sg [(0,0),(1,1),(2,2),(3,3),(4,4)]) (m:=5) (e:=eR) (l:=x1.1) (i:=x1.2.2.toNat) (c:=[.int x1.2.1,.int (wr (x1.2.1+1)),.own 1 0 v2.q.src.length,.own 2 0 v2.q.tgt.length,.own 3 0 v2.dims.length,.own 4 0 v2.maps.length]) (d:=[.int x1.2.1,.int (wr (x1.2.1+1)),.own 1 0 v3.1.length,.own 2 0 v2.q.tgt.length,.own 3 0 v2.dims.length,.own 4 0 v2.maps.length]) kN ⟨_,_,k,k,⟨_,_,k,k,⟨_,_,k,⟨k,k,(by simp only [aP,lA,lT,lR,lC,lN,of_decide_eq_true q4]),k⟩,⟨_,_,k,⟨k,k,k,k⟩,⟨_,_,k,⟨k,k,k,k⟩,⟨_,_,k,⟨k,k,k,k⟩,k⟩⟩⟩⟩⟩⟩)⟩ k<|bP k<|bP k<|bP k<|cA (cB.plainO _) k<|aQ) k)<|sS<|dF k2<|dF k2<|se (xo hv2 k) k<|fpS k8<|fpS k8<|se (dQ aJ k k k k (aFP (gC hv2)) k k) k<|dF k2<|oB h λv5 hv5 h=>se (fX (σ:=sg [(0,2)]) (σ':=sg [(2,0)]) (touch:=[2]) (news:=[]) (hl2:=[(2,⟨1,v5.1.map (ow eI)⟩)]) (n':=5) (r2:= .int v5.2) (gB v2.q.tgt v3.2 v5 hv5) k k ⟨_,_,k,⟨k,k,k,k⟩,⟨_,_,k,k,k⟩⟩ ⟨⟨_,k,k,.inl ⟨k,bT.plainO _⟩⟩,k,aQ⟩ k k k ⟨⟨_,k,k,.inl ⟨k,bT.plainO _⟩⟩,k,aQ⟩ k k k ⟨k,bT.tame _ _,aQ⟩ k k) k<|cG h λq6 h=>gV k2<|sn<|tn<|sS<|dF k2 ?_;exact dF k2<|se (xo hv2 k) k<|fpS k8<|se (dQ aJ k k k k (aFP (gC hv2)) k k) k<|dF k2<|oB h λv7 hv7 h=>se (fX (σ:=sg [(0,3)]) (σ':=sg [(3,0)]) (touch:=[3]) (news:=[]) (hl2:=[(3,⟨1,v7.1.map (ow eI)⟩)]) (n':=5) (r2:= .int v7.2) (gB v2.dims v5.2 v7 hv7) k k ⟨_,_,k,⟨k,k,k,k⟩,⟨_,_,k,k,k⟩⟩ ⟨⟨_,k,k,.inl ⟨k,bT.plainO _⟩⟩,k,aQ⟩ k k k ⟨⟨_,k,k,.inl ⟨k,bT.plainO _⟩⟩,k,aQ⟩ k k k ⟨k,bT.tame _ _,aQ⟩ k k) k<|cG h λq8 h=>gV k2<|sn<|tn<|rgS<|dF k2<|dF k2<|se (xo hv2 k) k<|fpS k8<|se (dQ aJ k k k k (aFP (gC hv2)) k k) k<|dF k2<|oB h λv9 hv9 h=>dI (t:=mN [(0,.own 0 0 x1.1.length),(1,.int v7.2),(5,.int x1.2.2),(35,.own 0 0 x1.1.length),(36,.int x1.2.2),(37,.ptr 0 x1.2.2.toNat 0),(38,.ptr 0 x1.2.2.toNat 1),(39,.ptr 0 x1.2.2.toNat 3),(40,.own 2 0 v2.q.tgt.length),(41,.int v3.2),(42,.int v5.2),(43,.own 0 0 x1.1.length),(44,.int x1.2.2),(45,.ptr 0 x1.2.2.toNat 0),(46,.ptr 0 x1.2.2.toNat 4),(47,.own 3 0 v2.dims.length),(48,.int v5.2),(49,.int v7.2),(50,.own 0 0 x1.1.length),(51,.int x1.2.2),(52,.ptr 0 x1.2.2.toNat 0),(53,.ptr 0 x1.2.2.toNat 5),(54,.own 4 0 v2.maps.length),(55,.int v7.2)] [(0,⟨6,(x1.1.map (ow eR)).set x1.2.2.toNat [.int x1.2.1,.int (wr (x1.2.1+1)),.own 1 0 v3.1.length,.own 2 0 v2.q.tgt.length,.own 3 0 v2.dims.length,.own 4 0 v2.maps.length]⟩),(1,⟨1,v3.1.map (ow eI)⟩),(2,⟨1,v5.1.map (ow eI)⟩),(3,⟨1,v7.1.map (ow eI)⟩),(4,⟨3,v2.maps.map (ow eM)⟩)] 5 ⟨1,true,none,true⟩) (fT (σ:=sg [(0,0),(1,1),(2,2),(3,3),(4,4)]) (bG k2) (hX ⟨_,k,k,.inr (aAG (σ:=sg [(0,0),(1,1),(2,2),(3,3),(4,4)]) (m:=5) (e:=eR) (l:=x1.1) (i:=x1.2.2.toNat) (c:=[.int x1.2.1,.int (wr (x1.2.1+1)),.own 1 0 v3.1.length,.own 2 0 v2.q.tgt.length,.own 3 0 v2.dims.length,.own 4 0 v2.maps.length]) (d:=[.int x1.2.1,.int (wr (x1.2.1+1)),.own 1 0 v3.1.length,.own 2 0 v2.q.tgt.length,.own 3 0 v2.dims.length,.own 4 0 v2.maps.length]) kN ⟨_,_,k,k,⟨_,_,k,k,⟨_,_,k,⟨k,k,k,k⟩,⟨_,_,k,⟨k,k,k,k⟩,⟨_,_,k,⟨k,k,k,k⟩,⟨_,_,k,⟨k,k,k,k⟩,k⟩⟩⟩⟩⟩⟩)⟩ k<|bP k<|bP k<|bP k<|cA (cB.plainO _) k<|aQ) k)<|aBU (σ:=sg [(0,4)]) (σ':=sg [(4,0)]) (touch:=[4]) (news:=[]) (hl2:=[(4,⟨3,v9.1.map (ow eM)⟩)]) (n':=5) (r2:= .int v9.2) (wQ v2.maps v7.2 v9 hv9) k k ⟨_,_,k,⟨k,k,k,k⟩,⟨_,_,k,k,k⟩⟩ ⟨⟨_,k,k,.inl ⟨k,cB.plainO _⟩⟩,k,aQ⟩ k k k ⟨⟨_,k,k,.inl ⟨k,cB.plainO _⟩⟩,k,aQ⟩ k k k ⟨k,cB.tame _ _,aQ⟩ k k k k k (pP ⟨k,k,k,k,k,k,k,k,k,k,k,k,k,k,k,k,k,k,k,k,k,k,k,k,aQ⟩) (pQ (skip:=[4]) ⟨.inr (kN.dfS _ _ _ k),.inr (bT.df _ _),.inr (bT.df _ _),.inr (bT.df _ _),.inl (by decide),aQ⟩)<|cG h λq10 h=>gV k2<|sn<|aV<|tn<|rgS<|dF k2<|se (bC k k) k<|gV k2<|sn<|tn<|sp h ⟨_,k,(Ent.trans (show Ent _ (mN [(0,.own 0 0 ((x1.1.set x1.2.2.toNat (⟨x1.2.1,(⟨wr (x1.2.1+1),v3.1,v5.1⟩:Qv),v7.1,v9.1⟩:Rp)).length)),(1,.int v9.2),(5,.int (wr (x1.2.2+1)))] [(0,⟨6,List.map (ow eR) (x1.1.set x1.2.2.toNat (⟨x1.2.1,(⟨wr (x1.2.1+1),v3.1,v5.1⟩:Qv),v7.1,v9.1⟩:Rp))⟩)] 5 ⟨1,true,none,true⟩) from (Ent.trans (aAR (b:=0) (b':=1) (j:=2) (es':=v3.1.map eI) (by rw [eE];exact gC hv2) k k k k (aP _ _) (bT.frzs _)) (Ent.trans (aAR (b:=0) (b':=2) (j:=3) (es':=v5.1.map eI) (by rw [eE];exact gC hv2) k k k k (by simp only [aP,lA,lT,lR,lC,lN,of_decide_eq_true q6]) (bT.frzs _)) (Ent.trans (aAR (b:=0) (b':=3) (j:=4) (es':=v7.1.map eI) (by rw [eE];exact gC hv2) k k k k (by simp only [aP,lA,lT,lR,lC,lN,of_decide_eq_true q8]) (bT.frzs _)) (Ent.trans (aAR (b:=0) (b':=4) (j:=5) (es':=v9.1.map eM) (by rw [eE];exact gC hv2) k k k k (by simp only [aP,lA,lT,lR,lC,lN,of_decide_eq_true q10]) (cB.frzs _)) (bJ (kB ⟨_,k,⟨k,k,(by simp only [aP,lA,lT,lR,lC,lN,of_decide_eq_true q4,of_decide_eq_true q6,of_decide_eq_true q8,of_decide_eq_true q10]),k⟩⟩ (bG k2)) (hX ⟨_,k,k,.inl ⟨aHR (⟨x1.2.1,(⟨wr (x1.2.1+1),v3.1,v5.1⟩:Qv),v7.1,v9.1⟩:Rp) k,kN.plainO _⟩⟩ k<|aQ) k4)))))) (bJ (bG k2) (cA (kN.plainO _) k<|aQ) k4))⟩
 ·rintro e t ⟨rfl,hent⟩;exact aM<|tn<|aN hent<|sS<|dF k2<|gV k2<|sn<|tn<|aC<|sp h ⟨mN [(4,.int y11.2)] [(0,⟨6,y11.1.map (ow eR)⟩)] 1 ⟨1,true,none,true⟩,(bJ (bG k2) (cA (kN.plainO _) k<|aQ) k4),k,⟨_,k,.inl k⟩,⟨k,aQ⟩⟩
def wS (x1:((List Br)×Int×Int)):Option (((List Br)×Int×Int) ⊕ ((List Br)×Int)):=
 bif decide (x1.2.2<((x1.1.length:Nat):Int)) then
 ((dG x1.1 x1.2.2).bind λv2=>
 some (.inl ((x1.1.set x1.2.2.toNat (⟨x1.2.1,wr (x1.2.1+1),wr ((wr (x1.2.1+1))+1)⟩:Br)),wr ((wr ((wr (x1.2.1+1))+1))+1),wr (x1.2.2+1))))
 else
 (some (.inr (x1.1,x1.2.1)))
def vU (a0:(List Br)) (a1:Int):Option ((List Br)×Int):=
 (Lp wS (a0,a1,0)).bind λy3=>
 some (y3.1,y3.2)
theorem aIt (a0:(List Br)) (a1:Int) (r:((List Br)×Int)) (h:vU a0 a1=some r):HasT Tryz.prog 72 [.own 0 0 a0.length,.int a1] [(0,⟨3,a0.map (ow eB)⟩)] 1 (.int r.2) [(0,⟨3,r.1.map (ow eB)⟩)]:=by
 refine aDA aJ (rvs:=[.tmp 4]) (ns:=nmA.drop 1) Tryz.func72 k k Tryz.ntmps72 k k<|sS<|gV k2<|sn<|tn<|sQ<|sS<|gV k2<|sn<|tn<|aG<|oB h λy3 hy3 h=>bV (body:=wS) hy3 (λ(x1:((List Br)×Int×Int))=>mN [(0,.own 0 0 x1.1.length),(1,.int x1.2.1),(5,.int x1.2.2)] [(0,⟨3,x1.1.map (ow eB)⟩)] 1 ⟨1,true,none,true⟩) (λr e t=>e= .exit 0∧Ent t (mN [(1,.int r.2)] [(0,⟨3,r.1.map (ow eB)⟩)] 1 ⟨1,true,none,true⟩)) (bJ (bG k2) (cA (qN.plainO _) k<|aQ) k4) ?_ ?_
 ·intro x1 o h;refine sQ<|sS<|dF k2<|dF k2<|se (dC aJ k k k k) k<|cmS k4<|sn<|tn<|cF k h (λ_ h=>?_) λ_ h=>aY<|aB<|aB<|sp h ⟨_,k,k,(bJ (bG k2) (cA (qN.plainO _) k<|aQ) k4)⟩;refine aD<|tn<|sQ<|aG<|sS<|dF k2<|dF k2<|dF k2<|oB h λv2 hv2 h=>dI (t:=mN [(0,.own 0 0 x1.1.length),(1,.int x1.2.1),(5,.int x1.2.2),(6,.int x1.2.2),(7,.own 0 0 x1.1.length),(8,.int ((x1.1.length:Nat):Int)),(9,.bl (decide (x1.2.2<((x1.1.length:Nat):Int)))),(12,.own 0 0 x1.1.length),(13,.int x1.2.2),(14,.int x1.2.1)] [(0,⟨3,(x1.1.map (ow eB)).set x1.2.2.toNat [.int v2.first,.int v2.last,.int v2.count]⟩)] 1 ⟨1,true,none,true⟩) (bJ (bG k2) (hX ⟨_,k,k,.inl ⟨aDn (iO hv2),aCa qN k⟩⟩ k<|aQ) k4)<|se (xo hv2 k) k<|fpS k8<|se (aAT aJ (A:=x1.1.map (ow eB)) (by rw [eE];exact gC hv2) k k k k k k k) k<|sn<|tn<|sS<|dF k2<|se (bC k k) k<|gV k2<|sn<|tn<|sS<|dF k2<|dF k2<|dF k2<|se (xo hv2 k) k<|fpS k8 ?_;refine se (aAT aJ (A:=x1.1.map (ow eB)) (by rw [eE];exact gC hv2) k k k k k k k) k<|sn<|tn<|sS<|dF k2<|se (bC k k) k<|gV k2<|sn<|tn<|sS<|dF k2<|dF k2<|dF k2<|se (xo hv2 k) k<|fpS k8<|se (aAT aJ (A:=x1.1.map (ow eB)) (by rw [eE];exact gC hv2) k k k k k k k) k<|sn<|tn<|rgS<|dF k2<|se (bC k k) k<|gV k2<|sn<|aV<|tn<|rgS<|dF k2<|se (bC k k) k ?_;exact gV k2<|sn<|tn<|sp h ⟨_,k,(Ent.trans (show Ent _ (mN [(0,.own 0 0 ((x1.1.set x1.2.2.toNat (⟨x1.2.1,wr (x1.2.1+1),wr ((wr (x1.2.1+1))+1)⟩:Br)).length)),(1,.int (wr ((wr ((wr (x1.2.1+1))+1))+1))),(5,.int (wr (x1.2.2+1)))] [(0,⟨3,List.map (ow eB) (x1.1.set x1.2.2.toNat (⟨x1.2.1,wr (x1.2.1+1),wr ((wr (x1.2.1+1))+1)⟩:Br))⟩)] 1 ⟨1,true,none,true⟩) from (bJ (kB ⟨_,k,⟨k,k,(by simp only [aP,lA,lT,lR,lC,lN]),k⟩⟩ (bG k2)) (hX ⟨_,k,k,.inl ⟨aHR (⟨x1.2.1,wr (x1.2.1+1),wr ((wr (x1.2.1+1))+1)⟩:Br) k,qN.plainO _⟩⟩ k<|aQ) k4)) (bJ (bG k2) (cA (qN.plainO _) k<|aQ) k4))⟩
 ·rintro e t ⟨rfl,hent⟩;exact aM<|tn<|aN hent<|sS<|dF k2<|gV k2<|sn<|tn<|aC<|sp h ⟨mN [(4,.int y3.2)] [(0,⟨3,y3.1.map (ow eB)⟩)] 1 ⟨1,true,none,true⟩,(bJ (bG k2) (cA (qN.plainO _) k<|aQ) k4),k,⟨_,k,.inl k⟩,⟨k,aQ⟩⟩
def uF (a0:Cl) (a1:Int):Option ((List Int)×(List Int)×(List Int)×(List Mt)×(List Int)×(List Int)×(List Int)×(List Mt)×(List Rp)×(List Mt)×(List Br)×(List Int)×(List Sc)×Int):=
 (oZ a0.rep a1).bind λv1=>
 bif decide (v1.1.length=a0.rep.q.src.length) then
 (bif decide (v1.2.1.length=a0.rep.q.tgt.length) then
 (bif decide (v1.2.2.1.length=a0.rep.dims.length) then
 (bif decide (v1.2.2.2.1.length=a0.rep.maps.length) then
 ((oZ a0.other v1.2.2.2.2).bind λv6=>
 bif decide (v6.1.length=a0.other.q.src.length) then
 (bif decide (v6.2.1.length=a0.other.q.tgt.length) then
 (bif decide (v6.2.2.1.length=a0.other.dims.length) then
 (bif decide (v6.2.2.2.1.length=a0.other.maps.length) then
 ((vT a0.parts v6.2.2.2.2).bind λv11=>
 bif decide (v11.1.length=a0.parts.length) then
 ((iZ a0.maps v11.2).bind λv13=>
 bif decide (v13.1.length=a0.maps.length) then
 ((vU a0.bars v13.2).bind λv15=>
 bif decide (v15.1.length=a0.bars.length) then
 ((eK a0.theta v15.2).bind λv17=>
 bif decide (v17.1.length=a0.theta.length) then
 ((rO a0.subs v17.2).bind λv19=>
 bif decide (v19.1.length=a0.subs.length) then
 (some (v1.1,v1.2.1,v1.2.2.1,v1.2.2.2.1,v6.1,v6.2.1,v6.2.2.1,v6.2.2.2.1,v11.1,v13.1,v15.1,v17.1,v19.1,v19.2))
 else none)
 else none)
 else none)
 else none)
 else none)
 else none)
 else none)
 else none)
 else none)
 else none)
 else none)
 else none)
 else none
theorem aHf (a0:Cl) (a1:Int) (r:((List Int)×(List Int)×(List Int)×(List Mt)×(List Int)×(List Int)×(List Int)×(List Mt)×(List Rp)×(List Mt)×(List Br)×(List Int)×(List Sc)×Int)) (h:uF a0 a1=some r):HasT Tryz.prog 20 [.agg [.int a0.kind,.int a0.rep.p,.int a0.rep.q.n,.own 0 0 a0.rep.q.src.length,.own 1 0 a0.rep.q.tgt.length,.own 2 0 a0.rep.dims.length,.own 3 0 a0.rep.maps.length,.int a0.other.p,.int a0.other.q.n,.own 4 0 a0.other.q.src.length,.own 5 0 a0.other.q.tgt.length,.own 6 0 a0.other.dims.length,.own 7 0 a0.other.maps.length,.own 8 0 a0.parts.length,.own 9 0 a0.maps.length,.own 10 0 a0.bars.length,.own 11 0 a0.theta.length,.own 12 0 a0.subs.length],.int a1] [(0,⟨1,a0.rep.q.src.map (ow eI)⟩),(1,⟨1,a0.rep.q.tgt.map (ow eI)⟩),(2,⟨1,a0.rep.dims.map (ow eI)⟩),(3,⟨3,a0.rep.maps.map (ow eM)⟩),(4,⟨1,a0.other.q.src.map (ow eI)⟩),(5,⟨1,a0.other.q.tgt.map (ow eI)⟩),(6,⟨1,a0.other.dims.map (ow eI)⟩),(7,⟨3,a0.other.maps.map (ow eM)⟩),(8,⟨6,a0.parts.map (ow eR)⟩),(9,⟨3,a0.maps.map (ow eM)⟩),(10,⟨3,a0.bars.map (ow eB)⟩),(11,⟨1,a0.theta.map (ow eI)⟩),(12,⟨2,a0.subs.map (ow eS)⟩)] 13 (.int r.2.2.2.2.2.2.2.2.2.2.2.2.2) [(0,⟨1,r.1.map (ow eI)⟩),(1,⟨1,r.2.1.map (ow eI)⟩),(2,⟨1,r.2.2.1.map (ow eI)⟩),(3,⟨3,r.2.2.2.1.map (ow eM)⟩),(4,⟨1,r.2.2.2.2.1.map (ow eI)⟩),(5,⟨1,r.2.2.2.2.2.1.map (ow eI)⟩),(6,⟨1,r.2.2.2.2.2.2.1.map (ow eI)⟩),(7,⟨3,r.2.2.2.2.2.2.2.1.map (ow eM)⟩),(8,⟨6,r.2.2.2.2.2.2.2.2.1.map (ow eR)⟩),(9,⟨3,r.2.2.2.2.2.2.2.2.2.1.map (ow eM)⟩),(10,⟨3,r.2.2.2.2.2.2.2.2.2.2.1.map (ow eB)⟩),(11,⟨1,r.2.2.2.2.2.2.2.2.2.2.2.1.map (ow eI)⟩),(12,⟨2,r.2.2.2.2.2.2.2.2.2.2.2.2.1.map (ow eS)⟩)]:=by
 refine aDA aJ (rvs:=[.tmp 4]) (ns:=nmA.drop 13) Tryz.func20 k k Tryz.ntmps20 k k<|sS<|se (wb k) k<|gV k2<|sn<|tn<|sS<|fpS k8<|lpS k8<|dF k2<|oB h λv1 hv1 h=>dI (t:=mN [(0,.agg [.int a0.kind,.int a0.rep.p,.int a0.rep.q.n,.own 0 0 a0.rep.q.src.length,.own 1 0 a0.rep.q.tgt.length,.own 2 0 a0.rep.dims.length,.own 3 0 a0.rep.maps.length,.int a0.other.p,.int a0.other.q.n,.own 4 0 a0.other.q.src.length,.own 5 0 a0.other.q.tgt.length,.own 6 0 a0.other.dims.length,.own 7 0 a0.other.maps.length,.own 8 0 a0.parts.length,.own 9 0 a0.maps.length,.own 10 0 a0.bars.length,.own 11 0 a0.theta.length,.own 12 0 a0.subs.length]),(1,.int a1),(2,.ptr 13 0 0),(4,.int 0),(5,.ptr 13 0 1),(6,.agg (oRp a0.rep 0 1 2 3)),(7,.int a1)] [(0,⟨1,a0.rep.q.src.map (ow eI)⟩),(1,⟨1,a0.rep.q.tgt.map (ow eI)⟩),(2,⟨1,a0.rep.dims.map (ow eI)⟩),(3,⟨3,a0.rep.maps.map (ow eM)⟩),(4,⟨1,a0.other.q.src.map (ow eI)⟩),(5,⟨1,a0.other.q.tgt.map (ow eI)⟩),(6,⟨1,a0.other.dims.map (ow eI)⟩),(7,⟨3,a0.other.maps.map (ow eM)⟩),(8,⟨6,a0.parts.map (ow eR)⟩),(9,⟨3,a0.maps.map (ow eM)⟩),(10,⟨3,a0.bars.map (ow eB)⟩),(11,⟨1,a0.theta.map (ow eI)⟩),(12,⟨2,a0.subs.map (ow eS)⟩),(13,⟨18,[[.int a0.kind,.int a0.rep.p,.int a0.rep.q.n,.own 0 0 a0.rep.q.src.length,.own 1 0 a0.rep.q.tgt.length,.own 2 0 a0.rep.dims.length,.own 3 0 a0.rep.maps.length,.int a0.other.p,.int a0.other.q.n,.own 4 0 a0.other.q.src.length,.own 5 0 a0.other.q.tgt.length,.own 6 0 a0.other.dims.length,.own 7 0 a0.other.maps.length,.own 8 0 a0.parts.length,.own 9 0 a0.maps.length,.own 10 0 a0.bars.length,.own 11 0 a0.theta.length,.own 12 0 a0.subs.length]]⟩)] 14 ⟨13,true,none,true⟩) (bJ (bG k2) (bP k<|bP k<|bP k<|cA (cB.plainO _) k<|bP k<|bP k<|bP k<|cA (cB.plainO _) k<|cA (kN.plainO _) k<|cA (cB.plainO _) k<|cA (qN.plainO _) k<|bP k<|cA (bX.plainO _) k<|eJ k<|aQ) k4)<|aBU (σ:=sg [(0,0),(1,1),(2,2),(3,3)]) (σ':=sg [(0,0),(1,1),(2,2),(3,3)]) (touch:=[0,1,2,3]) (news:=[]) (hl2:=[(0,⟨1,v1.1.map (ow eI)⟩),(1,⟨1,v1.2.1.map (ow eI)⟩),(2,⟨1,v1.2.2.1.map (ow eI)⟩),(3,⟨3,v1.2.2.2.1.map (ow eM)⟩)]) (n':=14) (r2:= .int v1.2.2.2.2) (aBZ a0.rep a1 v1 hv1) k k ⟨_,_,k,⟨_,_,k,k,⟨_,_,k,k,⟨_,_,k,⟨k,k,k,k⟩,⟨_,_,k,⟨k,k,k,k⟩,⟨_,_,k,⟨k,k,k,k⟩,⟨_,_,k,⟨k,k,k,k⟩,k⟩⟩⟩⟩⟩⟩,⟨_,_,k,k,k⟩⟩ ⟨⟨_,k,k,.inl ⟨k,bT.plainO _⟩⟩,k,⟨_,k,k,.inl ⟨k,bT.plainO _⟩⟩,k,⟨_,k,k,.inl ⟨k,bT.plainO _⟩⟩,k,⟨_,k,k,.inl ⟨k,cB.plainO _⟩⟩,k,aQ⟩ k k k ⟨⟨_,k,k,.inl ⟨k,bT.plainO _⟩⟩,k,⟨_,k,k,.inl ⟨k,bT.plainO _⟩⟩,k,⟨_,k,k,.inl ⟨k,bT.plainO _⟩⟩,k,⟨_,k,k,.inl ⟨k,cB.plainO _⟩⟩,k,aQ⟩ k k k ⟨k,bT.tame _ _,⟨k,bT.tame _ _,⟨k,bT.tame _ _,⟨k,cB.tame _ _,aQ⟩⟩⟩⟩ k k k k k (pP ⟨k,k,k,k,k,k,k,aQ⟩) (pQ (skip:=[0,1,2,3]) ⟨.inl (by decide),.inl (by decide),.inl (by decide),.inl (by decide),.inr (bT.df _ _),.inr (bT.df _ _),.inr (bT.df _ _),.inr (cB.df _ _),.inr (kN.df _ _),.inr (cB.df _ _),.inr (qN.df _ _),.inr (bT.df _ _),.inr (bX.df _ _),.inr (aCF k),aQ⟩)<|cG h λq2 h=>cG h λq3 h=>cG h λq4 h=>cG h λq5 h=>gV k2<|sn<|tn<|sS<|fpS k8<|lpS k8<|dF k2<|oB h λv6 hv6 h=>dI (t:=mN [(0,.agg [.int a0.kind,.int a0.rep.p,.int a0.rep.q.n,.own 0 0 a0.rep.q.src.length,.own 1 0 a0.rep.q.tgt.length,.own 2 0 a0.rep.dims.length,.own 3 0 a0.rep.maps.length,.int a0.other.p,.int a0.other.q.n,.own 4 0 a0.other.q.src.length,.own 5 0 a0.other.q.tgt.length,.own 6 0 a0.other.dims.length,.own 7 0 a0.other.maps.length,.own 8 0 a0.parts.length,.own 9 0 a0.maps.length,.own 10 0 a0.bars.length,.own 11 0 a0.theta.length,.own 12 0 a0.subs.length]),(1,.int v1.2.2.2.2),(2,.ptr 13 0 0),(4,.int 0),(5,.ptr 13 0 1),(6,.agg (oRp a0.rep 0 1 2 3)),(7,.int a1),(8,.int v1.2.2.2.2),(9,.ptr 13 0 7),(10,.agg (oRp a0.other 4 5 6 7)),(11,.int v1.2.2.2.2)] [(0,⟨1,v1.1.map (ow eI)⟩),(1,⟨1,v1.2.1.map (ow eI)⟩),(2,⟨1,v1.2.2.1.map (ow eI)⟩),(3,⟨3,v1.2.2.2.1.map (ow eM)⟩),(4,⟨1,a0.other.q.src.map (ow eI)⟩),(5,⟨1,a0.other.q.tgt.map (ow eI)⟩),(6,⟨1,a0.other.dims.map (ow eI)⟩),(7,⟨3,a0.other.maps.map (ow eM)⟩),(8,⟨6,a0.parts.map (ow eR)⟩),(9,⟨3,a0.maps.map (ow eM)⟩),(10,⟨3,a0.bars.map (ow eB)⟩),(11,⟨1,a0.theta.map (ow eI)⟩),(12,⟨2,a0.subs.map (ow eS)⟩),(13,⟨18,[[.int a0.kind,.int a0.rep.p,.int a0.rep.q.n,.own 0 0 a0.rep.q.src.length,.own 1 0 a0.rep.q.tgt.length,.own 2 0 a0.rep.dims.length,.own 3 0 a0.rep.maps.length,.int a0.other.p,.int a0.other.q.n,.own 4 0 a0.other.q.src.length,.own 5 0 a0.other.q.tgt.length,.own 6 0 a0.other.dims.length,.own 7 0 a0.other.maps.length,.own 8 0 a0.parts.length,.own 9 0 a0.maps.length,.own 10 0 a0.bars.length,.own 11 0 a0.theta.length,.own 12 0 a0.subs.length]]⟩)] 14 ⟨13,true,none,true⟩) (bJ (bG k2) (bP k<|bP k<|bP k<|cA (cB.plainO _) k<|bP k<|bP k<|bP k<|cA (cB.plainO _) k<|cA (kN.plainO _) k<|cA (cB.plainO _) k<|cA (qN.plainO _) k<|bP k<|cA (bX.plainO _) k<|eJ k<|aQ) k4)<|aBU (σ:=sg [(0,4),(1,5),(2,6),(3,7)]) (σ':=sg [(4,0),(5,1),(6,2),(7,3)]) (touch:=[4,5,6,7]) (news:=[]) (hl2:=[(4,⟨1,v6.1.map (ow eI)⟩),(5,⟨1,v6.2.1.map (ow eI)⟩),(6,⟨1,v6.2.2.1.map (ow eI)⟩),(7,⟨3,v6.2.2.2.1.map (ow eM)⟩)]) (n':=14) (r2:= .int v6.2.2.2.2) (aBZ a0.other v1.2.2.2.2 v6 hv6) k k ⟨_,_,k,⟨_,_,k,k,⟨_,_,k,k,⟨_,_,k,⟨k,k,k,k⟩,⟨_,_,k,⟨k,k,k,k⟩,⟨_,_,k,⟨k,k,k,k⟩,⟨_,_,k,⟨k,k,k,k⟩,k⟩⟩⟩⟩⟩⟩,⟨_,_,k,k,k⟩⟩ ⟨⟨_,k,k,.inl ⟨k,bT.plainO _⟩⟩,k,⟨_,k,k,.inl ⟨k,bT.plainO _⟩⟩,k,⟨_,k,k,.inl ⟨k,bT.plainO _⟩⟩,k,⟨_,k,k,.inl ⟨k,cB.plainO _⟩⟩,k,aQ⟩ k k k ⟨⟨_,k,k,.inl ⟨k,bT.plainO _⟩⟩,k,⟨_,k,k,.inl ⟨k,bT.plainO _⟩⟩,k,⟨_,k,k,.inl ⟨k,bT.plainO _⟩⟩,k,⟨_,k,k,.inl ⟨k,cB.plainO _⟩⟩,k,aQ⟩ k k k ⟨k,bT.tame _ _,⟨k,bT.tame _ _,⟨k,bT.tame _ _,⟨k,cB.tame _ _,aQ⟩⟩⟩⟩ k k k k k (pP ⟨k,k,k,k,k,k,k,k,k,k,k,aQ⟩) (pQ (skip:=[4,5,6,7]) ⟨.inr (bT.df _ _),.inr (bT.df _ _),.inr (bT.df _ _),.inr (cB.df _ _),.inl (by decide),.inl (by decide),.inl (by decide),.inl (by decide),.inr (kN.df _ _),.inr (cB.df _ _),.inr (qN.df _ _),.inr (bT.df _ _),.inr (bX.df _ _),.inr (aCF k),aQ⟩) ?_;refine cG h λq7 h=>cG h λq8 h=>cG h λq9 h=>cG h λq10 h=>gV k2<|sn<|tn<|sS<|fpS k8<|lpS k8<|dF k2<|oB h λv11 hv11 h=>dI (t:=mN [(0,.agg [.int a0.kind,.int a0.rep.p,.int a0.rep.q.n,.own 0 0 a0.rep.q.src.length,.own 1 0 a0.rep.q.tgt.length,.own 2 0 a0.rep.dims.length,.own 3 0 a0.rep.maps.length,.int a0.other.p,.int a0.other.q.n,.own 4 0 a0.other.q.src.length,.own 5 0 a0.other.q.tgt.length,.own 6 0 a0.other.dims.length,.own 7 0 a0.other.maps.length,.own 8 0 a0.parts.length,.own 9 0 a0.maps.length,.own 10 0 a0.bars.length,.own 11 0 a0.theta.length,.own 12 0 a0.subs.length]),(1,.int v6.2.2.2.2),(2,.ptr 13 0 0),(4,.int 0),(5,.ptr 13 0 1),(6,.agg (oRp a0.rep 0 1 2 3)),(7,.int a1),(8,.int v1.2.2.2.2),(9,.ptr 13 0 7),(10,.agg (oRp a0.other 4 5 6 7)),(11,.int v1.2.2.2.2),(12,.int v6.2.2.2.2),(13,.ptr 13 0 13),(14,.own 8 0 a0.parts.length),(15,.int v6.2.2.2.2)] [(0,⟨1,v1.1.map (ow eI)⟩),(1,⟨1,v1.2.1.map (ow eI)⟩),(2,⟨1,v1.2.2.1.map (ow eI)⟩),(3,⟨3,v1.2.2.2.1.map (ow eM)⟩),(4,⟨1,v6.1.map (ow eI)⟩),(5,⟨1,v6.2.1.map (ow eI)⟩),(6,⟨1,v6.2.2.1.map (ow eI)⟩),(7,⟨3,v6.2.2.2.1.map (ow eM)⟩),(8,⟨6,a0.parts.map (ow eR)⟩),(9,⟨3,a0.maps.map (ow eM)⟩),(10,⟨3,a0.bars.map (ow eB)⟩),(11,⟨1,a0.theta.map (ow eI)⟩),(12,⟨2,a0.subs.map (ow eS)⟩),(13,⟨18,[[.int a0.kind,.int a0.rep.p,.int a0.rep.q.n,.own 0 0 a0.rep.q.src.length,.own 1 0 a0.rep.q.tgt.length,.own 2 0 a0.rep.dims.length,.own 3 0 a0.rep.maps.length,.int a0.other.p,.int a0.other.q.n,.own 4 0 a0.other.q.src.length,.own 5 0 a0.other.q.tgt.length,.own 6 0 a0.other.dims.length,.own 7 0 a0.other.maps.length,.own 8 0 a0.parts.length,.own 9 0 a0.maps.length,.own 10 0 a0.bars.length,.own 11 0 a0.theta.length,.own 12 0 a0.subs.length]]⟩)] 14 ⟨13,true,none,true⟩) (bJ (bG k2) (bP k<|bP k<|bP k<|cA (cB.plainO _) k<|bP k<|bP k<|bP k<|cA (cB.plainO _) k<|cA (kN.plainO _) k<|cA (cB.plainO _) k<|cA (qN.plainO _) k<|bP k<|cA (bX.plainO _) k<|eJ k<|aQ) k4)<|aBU (σ:=sg [(0,8)]) (σ':=sg [(8,0)]) (touch:=[8]) (news:=[]) (hl2:=[(8,⟨6,v11.1.map (ow eR)⟩)]) (n':=14) (r2:= .int v11.2) (aIs a0.parts v6.2.2.2.2 v11 hv11) k k ⟨_,_,k,⟨k,k,k,k⟩,⟨_,_,k,k,k⟩⟩ ⟨⟨_,k,k,.inl ⟨k,kN.plainO _⟩⟩,k,aQ⟩ k k k ⟨⟨_,k,k,.inl ⟨k,kN.plainO _⟩⟩,k,aQ⟩ k k k ⟨k,kN.tame _ _,aQ⟩ k k k k k (pP ⟨k,k,k,k,k,k,k,k,k,k,k,k,k,k,k,aQ⟩) (pQ (skip:=[8]) ⟨.inr (bT.df _ _),.inr (bT.df _ _),.inr (bT.df _ _),.inr (cB.df _ _),.inr (bT.df _ _),.inr (bT.df _ _),.inr (bT.df _ _),.inr (cB.df _ _),.inl (by decide),.inr (cB.df _ _),.inr (qN.df _ _),.inr (bT.df _ _),.inr (bX.df _ _),.inr (aCF k),aQ⟩)<|cG h λq12 h=>gV k2<|sn<|tn<|sS<|fpS k8<|lpS k8<|dF k2<|oB h λv13 hv13 h=>dI (t:=mN [(0,.agg [.int a0.kind,.int a0.rep.p,.int a0.rep.q.n,.own 0 0 a0.rep.q.src.length,.own 1 0 a0.rep.q.tgt.length,.own 2 0 a0.rep.dims.length,.own 3 0 a0.rep.maps.length,.int a0.other.p,.int a0.other.q.n,.own 4 0 a0.other.q.src.length,.own 5 0 a0.other.q.tgt.length,.own 6 0 a0.other.dims.length,.own 7 0 a0.other.maps.length,.own 8 0 a0.parts.length,.own 9 0 a0.maps.length,.own 10 0 a0.bars.length,.own 11 0 a0.theta.length,.own 12 0 a0.subs.length]),(1,.int v11.2),(2,.ptr 13 0 0),(4,.int 0),(5,.ptr 13 0 1),(6,.agg (oRp a0.rep 0 1 2 3)),(7,.int a1),(8,.int v1.2.2.2.2),(9,.ptr 13 0 7),(10,.agg (oRp a0.other 4 5 6 7)),(11,.int v1.2.2.2.2),(12,.int v6.2.2.2.2),(13,.ptr 13 0 13),(14,.own 8 0 a0.parts.length),(15,.int v6.2.2.2.2),(16,.int v11.2),(17,.ptr 13 0 14),(18,.own 9 0 a0.maps.length),(19,.int v11.2)] [(0,⟨1,v1.1.map (ow eI)⟩),(1,⟨1,v1.2.1.map (ow eI)⟩),(2,⟨1,v1.2.2.1.map (ow eI)⟩),(3,⟨3,v1.2.2.2.1.map (ow eM)⟩),(4,⟨1,v6.1.map (ow eI)⟩),(5,⟨1,v6.2.1.map (ow eI)⟩),(6,⟨1,v6.2.2.1.map (ow eI)⟩),(7,⟨3,v6.2.2.2.1.map (ow eM)⟩),(8,⟨6,v11.1.map (ow eR)⟩),(9,⟨3,a0.maps.map (ow eM)⟩),(10,⟨3,a0.bars.map (ow eB)⟩),(11,⟨1,a0.theta.map (ow eI)⟩),(12,⟨2,a0.subs.map (ow eS)⟩),(13,⟨18,[[.int a0.kind,.int a0.rep.p,.int a0.rep.q.n,.own 0 0 a0.rep.q.src.length,.own 1 0 a0.rep.q.tgt.length,.own 2 0 a0.rep.dims.length,.own 3 0 a0.rep.maps.length,.int a0.other.p,.int a0.other.q.n,.own 4 0 a0.other.q.src.length,.own 5 0 a0.other.q.tgt.length,.own 6 0 a0.other.dims.length,.own 7 0 a0.other.maps.length,.own 8 0 a0.parts.length,.own 9 0 a0.maps.length,.own 10 0 a0.bars.length,.own 11 0 a0.theta.length,.own 12 0 a0.subs.length]]⟩)] 14 ⟨13,true,none,true⟩) (bJ (bG k2) (bP k<|bP k<|bP k<|cA (cB.plainO _) k<|bP k<|bP k<|bP k<|cA (cB.plainO _) k<|cA (kN.plainO _) k<|cA (cB.plainO _) k<|cA (qN.plainO _) k<|bP k<|cA (bX.plainO _) k<|eJ k<|aQ) k4)<|aBU (σ:=sg [(0,9)]) (σ':=sg [(9,0)]) (touch:=[9]) (news:=[]) (hl2:=[(9,⟨3,v13.1.map (ow eM)⟩)]) (n':=14) (r2:= .int v13.2) (wQ a0.maps v11.2 v13 hv13) k k ⟨_,_,k,⟨k,k,k,k⟩,⟨_,_,k,k,k⟩⟩ ⟨⟨_,k,k,.inl ⟨k,cB.plainO _⟩⟩,k,aQ⟩ k k k ⟨⟨_,k,k,.inl ⟨k,cB.plainO _⟩⟩,k,aQ⟩ k k k ⟨k,cB.tame _ _,aQ⟩ k k k k k (pP ⟨k,k,k,k,k,k,k,k,k,k,k,k,k,k,k,k,k,k,k,aQ⟩) (pQ (skip:=[9]) ⟨.inr (bT.df _ _),.inr (bT.df _ _),.inr (bT.df _ _),.inr (cB.df _ _),.inr (bT.df _ _),.inr (bT.df _ _),.inr (bT.df _ _),.inr (cB.df _ _),.inr (kN.df _ _),.inl (by decide),.inr (qN.df _ _),.inr (bT.df _ _),.inr (bX.df _ _),.inr (aCF k),aQ⟩) ?_;refine cG h λq14 h=>gV k2<|sn<|tn<|sS<|fpS k8<|lpS k8<|dF k2<|oB h λv15 hv15 h=>dI (t:=mN [(0,.agg [.int a0.kind,.int a0.rep.p,.int a0.rep.q.n,.own 0 0 a0.rep.q.src.length,.own 1 0 a0.rep.q.tgt.length,.own 2 0 a0.rep.dims.length,.own 3 0 a0.rep.maps.length,.int a0.other.p,.int a0.other.q.n,.own 4 0 a0.other.q.src.length,.own 5 0 a0.other.q.tgt.length,.own 6 0 a0.other.dims.length,.own 7 0 a0.other.maps.length,.own 8 0 a0.parts.length,.own 9 0 a0.maps.length,.own 10 0 a0.bars.length,.own 11 0 a0.theta.length,.own 12 0 a0.subs.length]),(1,.int v13.2),(2,.ptr 13 0 0),(4,.int 0),(5,.ptr 13 0 1),(6,.agg (oRp a0.rep 0 1 2 3)),(7,.int a1),(8,.int v1.2.2.2.2),(9,.ptr 13 0 7),(10,.agg (oRp a0.other 4 5 6 7)),(11,.int v1.2.2.2.2),(12,.int v6.2.2.2.2),(13,.ptr 13 0 13),(14,.own 8 0 a0.parts.length),(15,.int v6.2.2.2.2),(16,.int v11.2),(17,.ptr 13 0 14),(18,.own 9 0 a0.maps.length),(19,.int v11.2),(20,.int v13.2),(21,.ptr 13 0 15),(22,.own 10 0 a0.bars.length),(23,.int v13.2)] [(0,⟨1,v1.1.map (ow eI)⟩),(1,⟨1,v1.2.1.map (ow eI)⟩),(2,⟨1,v1.2.2.1.map (ow eI)⟩),(3,⟨3,v1.2.2.2.1.map (ow eM)⟩),(4,⟨1,v6.1.map (ow eI)⟩),(5,⟨1,v6.2.1.map (ow eI)⟩),(6,⟨1,v6.2.2.1.map (ow eI)⟩),(7,⟨3,v6.2.2.2.1.map (ow eM)⟩),(8,⟨6,v11.1.map (ow eR)⟩),(9,⟨3,v13.1.map (ow eM)⟩),(10,⟨3,a0.bars.map (ow eB)⟩),(11,⟨1,a0.theta.map (ow eI)⟩),(12,⟨2,a0.subs.map (ow eS)⟩),(13,⟨18,[[.int a0.kind,.int a0.rep.p,.int a0.rep.q.n,.own 0 0 a0.rep.q.src.length,.own 1 0 a0.rep.q.tgt.length,.own 2 0 a0.rep.dims.length,.own 3 0 a0.rep.maps.length,.int a0.other.p,.int a0.other.q.n,.own 4 0 a0.other.q.src.length,.own 5 0 a0.other.q.tgt.length,.own 6 0 a0.other.dims.length,.own 7 0 a0.other.maps.length,.own 8 0 a0.parts.length,.own 9 0 a0.maps.length,.own 10 0 a0.bars.length,.own 11 0 a0.theta.length,.own 12 0 a0.subs.length]]⟩)] 14 ⟨13,true,none,true⟩) (bJ (bG k2) (bP k<|bP k<|bP k<|cA (cB.plainO _) k<|bP k<|bP k<|bP k<|cA (cB.plainO _) k<|cA (kN.plainO _) k<|cA (cB.plainO _) k<|cA (qN.plainO _) k<|bP k<|cA (bX.plainO _) k<|eJ k<|aQ) k4)<|aBU (σ:=sg [(0,10)]) (σ':=sg [(10,0)]) (touch:=[10]) (news:=[]) (hl2:=[(10,⟨3,v15.1.map (ow eB)⟩)]) (n':=14) (r2:= .int v15.2) (aIt a0.bars v13.2 v15 hv15) k k ⟨_,_,k,⟨k,k,k,k⟩,⟨_,_,k,k,k⟩⟩ ⟨⟨_,k,k,.inl ⟨k,qN.plainO _⟩⟩,k,aQ⟩ k k k ⟨⟨_,k,k,.inl ⟨k,qN.plainO _⟩⟩,k,aQ⟩ k k k ⟨k,qN.tame _ _,aQ⟩ k k k k k (pP ⟨k,k,k,k,k,k,k,k,k,k,k,k,k,k,k,k,k,k,k,k,k,k,k,aQ⟩) (pQ (skip:=[10]) ⟨.inr (bT.df _ _),.inr (bT.df _ _),.inr (bT.df _ _),.inr (cB.df _ _),.inr (bT.df _ _),.inr (bT.df _ _),.inr (bT.df _ _),.inr (cB.df _ _),.inr (kN.df _ _),.inr (cB.df _ _),.inl (by decide),.inr (bT.df _ _),.inr (bX.df _ _),.inr (aCF k),aQ⟩)<|cG h λq16 h=>gV k2<|sn<|tn<|sS<|fpS k8<|lpS k8<|dF k2<|oB h λv17 hv17 h=>se (fX (σ:=sg [(0,11)]) (σ':=sg [(11,0)]) (touch:=[11]) (news:=[]) (hl2:=[(11,⟨1,v17.1.map (ow eI)⟩)]) (n':=14) (r2:= .int v17.2) (gB a0.theta v15.2 v17 hv17) k k ⟨_,_,k,⟨k,k,k,k⟩,⟨_,_,k,k,k⟩⟩ ⟨⟨_,k,k,.inl ⟨k,bT.plainO _⟩⟩,k,aQ⟩ k k k ⟨⟨_,k,k,.inl ⟨k,bT.plainO _⟩⟩,k,aQ⟩ k k k ⟨k,bT.tame _ _,aQ⟩ k k) k<|cG h λq18 h=>gV k2<|sn<|tn<|sS<|fpS k8<|lpS k8<|dF k2<|oB h λv19 hv19 h=>dI (t:=mN ((0,.agg [.int a0.kind,.int a0.rep.p,.int a0.rep.q.n,.own 0 0 a0.rep.q.src.length,.own 1 0 a0.rep.q.tgt.length,.own 2 0 a0.rep.dims.length,.own 3 0 a0.rep.maps.length,.int a0.other.p,.int a0.other.q.n,.own 4 0 a0.other.q.src.length,.own 5 0 a0.other.q.tgt.length,.own 6 0 a0.other.dims.length,.own 7 0 a0.other.maps.length,.own 8 0 a0.parts.length,.own 9 0 a0.maps.length,.own 10 0 a0.bars.length,.own 11 0 a0.theta.length,.own 12 0 a0.subs.length])::(1,.int v17.2)::(2,.ptr 13 0 0)::(4,.int 0)::(5,.ptr 13 0 1)::(6,.agg (oRp a0.rep 0 1 2 3))::(7,.int a1)::(8,.int v1.2.2.2.2)::(9,.ptr 13 0 7)::(10,.agg (oRp a0.other 4 5 6 7))::(11,.int v1.2.2.2.2)::(12,.int v6.2.2.2.2)::(13,.ptr 13 0 13)::(14,.own 8 0 a0.parts.length)::(15,.int v6.2.2.2.2)::(16,.int v11.2)::(17,.ptr 13 0 14)::(18,.own 9 0 a0.maps.length)::(19,.int v11.2)::(20,.int v13.2)::(21,.ptr 13 0 15)::(22,.own 10 0 a0.bars.length)::(23,.int v13.2)::(24,.int v15.2)::(25,.ptr 13 0 16)::(26,.own 11 0 a0.theta.length)::(27,.int v15.2)::(28,.int v17.2)::(29,.ptr 13 0 17)::(30,.own 12 0 a0.subs.length)::(31,.int v17.2)::[]) [(0,⟨1,v1.1.map (ow eI)⟩),(1,⟨1,v1.2.1.map (ow eI)⟩),(2,⟨1,v1.2.2.1.map (ow eI)⟩),(3,⟨3,v1.2.2.2.1.map (ow eM)⟩),(4,⟨1,v6.1.map (ow eI)⟩),(5,⟨1,v6.2.1.map (ow eI)⟩),(6,⟨1,v6.2.2.1.map (ow eI)⟩),(7,⟨3,v6.2.2.2.1.map (ow eM)⟩),(8,⟨6,v11.1.map (ow eR)⟩),(9,⟨3,v13.1.map (ow eM)⟩),(10,⟨3,v15.1.map (ow eB)⟩),(11,⟨1,v17.1.map (ow eI)⟩),(12,⟨2,a0.subs.map (ow eS)⟩),(13,⟨18,[[.int a0.kind,.int a0.rep.p,.int a0.rep.q.n,.own 0 0 a0.rep.q.src.length,.own 1 0 a0.rep.q.tgt.length,.own 2 0 a0.rep.dims.length,.own 3 0 a0.rep.maps.length,.int a0.other.p,.int a0.other.q.n,.own 4 0 a0.other.q.src.length,.own 5 0 a0.other.q.tgt.length,.own 6 0 a0.other.dims.length,.own 7 0 a0.other.maps.length,.own 8 0 a0.parts.length,.own 9 0 a0.maps.length,.own 10 0 a0.bars.length,.own 11 0 a0.theta.length,.own 12 0 a0.subs.length]]⟩)] 14 ⟨13,true,none,true⟩) (bJ (bG k2) (bP k<|bP k<|bP k<|cA (cB.plainO _) k<|bP k<|bP k<|bP k<|cA (cB.plainO _) k<|cA (kN.plainO _) k<|cA (cB.plainO _) k<|cA (qN.plainO _) k<|bP k<|cA (bX.plainO _) k<|eJ k<|aQ) k4) ?_;exact aBU (σ:=sg [(0,12)]) (σ':=sg [(12,0)]) (touch:=[12]) (news:=[]) (hl2:=[(12,⟨2,v19.1.map (ow eS)⟩)]) (n':=14) (r2:= .int v19.2) (aGR a0.subs v17.2 v19 hv19) k k ⟨_,_,k,⟨k,k,k,k⟩,⟨_,_,k,k,k⟩⟩ ⟨⟨_,k,k,.inl ⟨k,bX.plainO _⟩⟩,k,aQ⟩ k k k ⟨⟨_,k,k,.inl ⟨k,bX.plainO _⟩⟩,k,aQ⟩ k k k ⟨k,bX.tame _ _,aQ⟩ k k k k k (pP ⟨k,k,k,k,k,k,k,k,k,k,k,k,k,k,k,k,k,k,k,k,k,k,k,k,k,k,k,k,k,k,k,aQ⟩) (pQ (skip:=[12]) ⟨.inr (bT.df _ _),.inr (bT.df _ _),.inr (bT.df _ _),.inr (cB.df _ _),.inr (bT.df _ _),.inr (bT.df _ _),.inr (bT.df _ _),.inr (cB.df _ _),.inr (kN.df _ _),.inr (cB.df _ _),.inr (qN.df _ _),.inr (bT.df _ _),.inl (by decide),.inr (aCF k),aQ⟩)<|cG h λq20 h=>gV k2<|sn<|tn<|sS<|dF k2<|gV k2<|sn<|tn<|aC<|sp h ⟨mN [(4,.int v19.2)] [(0,⟨1,v1.1.map (ow eI)⟩),(1,⟨1,v1.2.1.map (ow eI)⟩),(2,⟨1,v1.2.2.1.map (ow eI)⟩),(3,⟨3,v1.2.2.2.1.map (ow eM)⟩),(4,⟨1,v6.1.map (ow eI)⟩),(5,⟨1,v6.2.1.map (ow eI)⟩),(6,⟨1,v6.2.2.1.map (ow eI)⟩),(7,⟨3,v6.2.2.2.1.map (ow eM)⟩),(8,⟨6,v11.1.map (ow eR)⟩),(9,⟨3,v13.1.map (ow eM)⟩),(10,⟨3,v15.1.map (ow eB)⟩),(11,⟨1,v17.1.map (ow eI)⟩),(12,⟨2,v19.1.map (ow eS)⟩)] 13 ⟨13,true,none,true⟩,(bJ (bG k2) (bP k<|bP k<|bP k<|cA (cB.plainO _) k<|bP k<|bP k<|bP k<|cA (cB.plainO _) k<|cA (kN.plainO _) k<|cA (cB.plainO _) k<|cA (qN.plainO _) k<|bP k<|cA (bX.plainO _) k<|aQ) k4),k,⟨_,k,.inl k⟩,⟨k,k,k,k,k,k,k,k,k,k,k,k,k,aQ⟩⟩
def pZ (a0:(List Int)) (x1:(Int×Int)):Option ((Int×Int) ⊕ (Int ⊕ Int)):=
 bif decide (x1.2<(a0.length:Int)) then
 ((dG a0 x1.2).bind λv2=>
 bif !decide (v2=x1.1) then
 (some (.inr (.inr ((-1)))))
 else
 (some (.inl (wr (x1.1+1),wr (x1.2+1)))))
 else
 (some (.inr (.inl x1.1)))
def eZ (a0:(List Int)) (a1:Int):Option Int:=
 (Lp (pZ a0) (a1,0)).bind λy4=>
 Sum.elim (λy5=>
 some (y5)
 )
 (λy6=>
 some y6
 )
 y4
theorem gR (a0:(List Int)) (a1:Int) (r:Int) (h:eZ a0 a1=some r):HasC Tryz.prog 77 [.list 1 (a0.map eI),.int a1] (.int r):=by
 refine hM [.tmp 4] Tryz.func77 Tryz.ntmps77 k<|sR<|aT k2<|sQ<|sR<|aT k2<|aG<|oB h λy4 hy4 h=>bV (body:=(pZ a0)) hy4 (λ(x1:(Int×Int))=>mN [(0,.list 1 (a0.map eI)),(1,.int x1.1),(5,.int x1.2)] [] 0) (λr e t=>Sum.elim (λa=>(λr e t=>e= .exit 0∧Ent t (mN [(1,.int r)] [] 0)) a e t) (λb=>(λr e t=>e= .ret∧kU TT [.tmp 4] (.int r) .ret t) b e t) r) (bJ (bG k2) aQ k4) ?_ ?_
 ·intro x1 o h;exact sQ<|sR<|am k k<|am k k<|ln k4<|cm k4<|an<|tn<|cF k h (λ_ h=>aD<|tn<|sQ<|aG<|sQ<|sR<|am k k<|am k k<|oB h λv2 hv2 h=>ae (xl hv2 k) k<|lr k7<|am k k<|cm k4<|an<|tn<|cF k h (λ_ h=>sR<|aT k2<|aC<|aA<|aR<|aA<|aA<|sp h ⟨_,k,k,bH k k k (iS k)⟩) λ_ h=>aD<|tn<|rg<|am k k<|ae (bC k k) k<|aa k k<|an<|aV<|tn<|rg<|am k k<|ae (bC k k) k<|aT k2<|sp h ⟨_,k,(bJ (bG k2) aQ k4)⟩) λ_ h=>aY<|aB<|aB<|sp h ⟨_,k,k,(bJ (bG k2) aQ k4)⟩
 ·intro e t hX;rcases y4 with y5|y6
  ·obtain ⟨rfl,hent⟩:=hX;exact aM<|tn<|aN hent<|sR<|am k k<|aT k2<|aC<|mT h k2
  ·obtain ⟨rfl,hent⟩:=hX;exact aR<|aA<|sp h hent
def oE (a0:(List (List Int))) (x1:(Int×Int)):Option ((Int×Int) ⊕ (Int ⊕ Int)):=
 bif decide (x1.2<(a0.length:Int)) then
 ((dG a0 x1.2).bind λv2=>
 (eZ v2 x1.1).bind λv3=>
 bif decide (v3<0) then
 (some (.inr (.inr ((-1)))))
 else
 (some (.inl (v3,wr (x1.2+1)))))
 else
 (some (.inr (.inl x1.1)))
def uG (a0:(List (List Int))) (a1:Int):Option Int:=
 (Lp (oE a0) (a1,0)).bind λy5=>
 Sum.elim (λy6=>
 some (y6)
 )
 (λy7=>
 some y7
 )
 y5
theorem aHg (a0:(List (List Int))) (a1:Int) (r:Int) (h:uG a0 a1=some r):HasC Tryz.prog 47 [.list 1 (a0.map (dX 1 eI)),.int a1] (.int r):=by
 refine hM [.tmp 4] Tryz.func47 Tryz.ntmps47 k<|sR<|aT k2<|sQ<|sR<|aT k2<|aG<|oB h λy5 hy5 h=>bV (body:=(oE a0)) hy5 (λ(x1:(Int×Int))=>mN [(0,.list 1 (a0.map (dX 1 eI))),(1,.int x1.1),(5,.int x1.2)] [] 0) (λr e t=>Sum.elim (λa=>(λr e t=>e= .exit 0∧Ent t (mN [(1,.int r)] [] 0)) a e t) (λb=>(λr e t=>e= .ret∧kU TT [.tmp 4] (.int r) .ret t) b e t) r) (bJ (bG k2) aQ k4) ?_ ?_
 ·intro x1 o h;exact sQ<|sR<|am k k<|am k k<|ln k4<|cm k4<|an<|tn<|cF k h (λ_ h=>aD<|tn<|sQ<|aG<|sR<|am k k<|am k k<|oB h λv2 hv2 h=>ae (xl hv2 k) k<|lr k7<|am k k<|oB h λv3 hv3 h=>ae (aH (gR v2 x1.1 v3 hv3) k (bU k (bU k aL))) k<|aT k2<|sR<|am k k<|cm k4<|an<|tn<|cF k h (λ_ h=>sR<|aT k2<|aC<|aR<|aA<|aA<|sp h ⟨_,k,k,bH k k k (iS k)⟩) λ_ h=>aD<|aV<|tn<|rg<|am k k<|ae (bC k k) k<|aT k2<|sp h ⟨_,k,(bJ (bG k2) aQ k4)⟩) λ_ h=>aY<|aB<|aB<|sp h ⟨_,k,k,(bJ (bG k2) aQ k4)⟩
 ·intro e t hX;rcases y5 with y6|y7
  ·obtain ⟨rfl,hent⟩:=hX;exact aM<|tn<|aN hent<|sR<|am k k<|aT k2<|aC<|mT h k2
  ·obtain ⟨rfl,hent⟩:=hX;exact aR<|aA<|sp h hent
def nC (a0:(List Sc)) (x1:(Int×Int)):Option ((Int×Int) ⊕ (Int ⊕ Int)):=
 bif decide (x1.2<(a0.length:Int)) then
 ((dG a0 x1.2).bind λv2=>
 bif !decide (v2.size=x1.1) then
 (some (.inr (.inr ((-1)))))
 else
 ((dG a0 x1.2).bind λv4=>
 (uG v4.basis (wr (x1.1+1))).bind λv5=>
 bif decide (v5<0) then
 (some (.inr (.inr ((-1)))))
 else
 (some (.inl (v5,wr (x1.2+1))))))
 else
 (some (.inr (.inl x1.1)))
def rQ (a0:(List Sc)) (a1:Int):Option Int:=
 (Lp (nC a0) (a1,0)).bind λy7=>
 Sum.elim (λy8=>
 some (y8)
 )
 (λy9=>
 some y9
 )
 y7
theorem aGT (a0:(List Sc)) (a1:Int) (r:Int) (h:rQ a0 a1=some r):HasC Tryz.prog 42 [.list 2 (a0.map eS),.int a1] (.int r):=by
 refine hM [.tmp 4] Tryz.func42 Tryz.ntmps42 k<|sR<|aT k2<|sQ<|sR<|aT k2<|aG<|oB h λy7 hy7 h=>bV (body:=(nC a0)) hy7 (λ(x1:(Int×Int))=>mN [(0,.list 2 (a0.map eS)),(1,.int x1.1),(5,.int x1.2)] [] 0) (λr e t=>Sum.elim (λa=>(λr e t=>e= .exit 0∧Ent t (mN [(1,.int r)] [] 0)) a e t) (λb=>(λr e t=>e= .ret∧kU TT [.tmp 4] (.int r) .ret t) b e t) r) (bJ (bG k2) aQ k4) ?_ ?_
 ·intro x1 o h;exact sQ<|sR<|am k k<|am k k<|ln k4<|cm k4<|an<|tn<|cF k h (λ_ h=>aD<|tn<|sQ<|aG<|sQ<|sR<|am k k<|am k k<|oB h λv2 hv2 h=>ae (xl hv2 k) k<|ae (dT aJ k k k k k k) k<|lr k7<|am k k<|cm k4<|an<|tn<|cF k h (λ_ h=>sR<|aT k2<|aC<|aA<|aR<|aA<|aA<|sp h ⟨_,k,k,bH k k k (iS k)⟩) λ_ h=>aD<|tn<|sR<|am k k<|ae (bC k k) k<|aT k2<|sR<|am k k<|am k k<|oB h λv4 hv4 h=>ae (xl hv4 k) k<|ae (dT aJ k k k k k k) k<|lr k7<|am k k<|oB h λv5 hv5 h=>ae (aH (aHg v4.basis (wr (x1.1+1)) v5 hv5) k (bU k (bU k aL))) k<|aT k2<|sR<|am k k<|cm k4<|an<|tn<|aN (t:=mN [(0,.list 2 (a0.map eS)),(1,.int v5),(5,.int x1.2),(29,.bl (decide (v5<0)))] [] 0) (bJ (bG k2) aQ k4)<|cF k h (λ_ h=>sR<|aT k2<|aC<|aR<|aA<|aA<|sp h ⟨_,k,k,bH k k k (iS k)⟩) λ_ h=>aD<|aV<|tn<|rg<|am k k<|ae (bC k k) k<|aT k2<|sp h ⟨_,k,(bJ (bG k2) aQ k4)⟩) λ_ h=>aY<|aB<|aB<|sp h ⟨_,k,k,(bJ (bG k2) aQ k4)⟩
 ·intro e t hX;rcases y7 with y8|y9
  ·obtain ⟨rfl,hent⟩:=hX;exact aM<|tn<|aN hent<|sR<|am k k<|aT k2<|aC<|mT h k2
  ·obtain ⟨rfl,hent⟩:=hX;exact aR<|aA<|sp h hent
def rR (a0:Qv) (a1:Int):Option Int:=
 (eZ a0.src a1).bind λv1=>
 bif decide (v1<0) then
 (some ((-1)))
 else
 ((eZ a0.tgt v1).bind λv3=>
 bif decide (v3<0) then
 (some ((-1)))
 else
 (some (v3)))
theorem aGU (a0:Qv) (a1:Int) (r:Int) (h:rR a0 a1=some r):HasC Tryz.prog 126 [.agg (eQ a0),.int a1] (.int r):=by
 exact hM [.tmp 4] Tryz.func126 Tryz.ntmps126 k<|sR<|ae (wb k) k<|aT k2<|sR<|fp k8<|lp k8<|am k k<|oB h λv1 hv1 h=>ae (aH (gR a0.src a1 v1 hv1) k (bU k (bU k aL))) k<|aT k2<|sQ<|sR<|am k k<|cm k4<|an<|tn<|cF k h (λ_ h=>sR<|aT k2<|aC<|aA<|mT h k2) λ_ h=>aD<|tn<|sR<|fp k8<|lp k8<|am k k<|oB h λv3 hv3 h=>ae (aH (gR a0.tgt v1 v3 hv3) k (bU k (bU k aL))) k<|aT k2<|sQ<|sR<|am k k<|cm k4<|an<|tn<|cF k h (λ_ h=>sR<|aT k2<|aC<|aA<|mT h k2) λ_ h=>aD<|tn<|sR<|am k k<|aT k2<|aC<|mT h k2
def mE (a0:(List Mt)) (x1:(Int×Int)):Option ((Int×Int) ⊕ (Int ⊕ Int)):=
 bif decide (x1.2<(a0.length:Int)) then
 ((dG a0 x1.2).bind λv2=>
 bif !decide (v2.rows=x1.1) then
 (some (.inr (.inr ((-1)))))
 else
 ((dG a0 x1.2).bind λv4=>
 bif !decide (v4.cols=wr (x1.1+1)) then
 (some (.inr (.inr ((-1)))))
 else
 ((dG a0 x1.2).bind λv6=>
 (eZ v6.cells (wr ((wr (x1.1+1))+1))).bind λv7=>
 bif decide (v7<0) then
 (some (.inr (.inr ((-1)))))
 else
 (some (.inl (v7,wr (x1.2+1)))))))
 else
 (some (.inr (.inl x1.1)))
def jA (a0:(List Mt)) (a1:Int):Option Int:=
 (Lp (mE a0) (a1,0)).bind λy9=>
 Sum.elim (λy10=>
 some (y10)
 )
 (λy11=>
 some y11
 )
 y9
theorem wT (a0:(List Mt)) (a1:Int) (r:Int) (h:jA a0 a1=some r):HasC Tryz.prog 75 [.list 3 (a0.map eM),.int a1] (.int r):=by
 refine hM [.tmp 4] Tryz.func75 Tryz.ntmps75 k<|sR<|aT k2<|sQ<|sR<|aT k2<|aG<|oB h λy9 hy9 h=>bV (body:=(mE a0)) hy9 (λ(x1:(Int×Int))=>mN [(0,.list 3 (a0.map eM)),(1,.int x1.1),(5,.int x1.2)] [] 0) (λr e t=>Sum.elim (λa=>(λr e t=>e= .exit 0∧Ent t (mN [(1,.int r)] [] 0)) a e t) (λb=>(λr e t=>e= .ret∧kU TT [.tmp 4] (.int r) .ret t) b e t) r) (bJ (bG k2) aQ k4) ?_ ?_
 ·intro x1 o h;refine sQ<|sR<|am k k<|am k k<|ln k4<|cm k4<|an<|tn<|cF k h (λ_ h=>?_) λ_ h=>aY<|aB<|aB<|sp h ⟨_,k,k,(bJ (bG k2) aQ k4)⟩;exact aD<|tn<|sQ<|aG<|sQ<|sR<|am k k<|am k k<|oB h λv2 hv2 h=>ae (xl hv2 k) k<|ae (dT aJ k k k k k k) k<|lr k7<|am k k<|cm k4<|an<|tn<|cF k h (λ_ h=>sR<|aT k2<|aC<|aA<|aR<|aA<|aA<|sp h ⟨_,k,k,bH k k k (iS k)⟩) λ_ h=>aD<|tn<|sR<|am k k<|ae (bC k k) k<|aT k2<|sQ<|sR<|am k k<|am k k<|oB h λv4 hv4 h=>ae (xl hv4 k) k<|ae (dT aJ k k k k k k) k<|lr k7<|am k k<|cm k4<|an<|tn<|cF k h (λ_ h=>sR<|aT k2<|aC<|aA<|aR<|aA<|aA<|sp h ⟨_,k,k,bH k k k (iS k)⟩) λ_ h=>aD<|tn<|sR<|am k k<|ae (bC k k) k<|aT k2<|aN (t:=mN [(0,.list 3 (a0.map eM)),(1,.int (wr ((wr (x1.1+1))+1))),(5,.int x1.2)] [] 0) (bJ (bG k2) aQ k4)<|sR<|am k k<|am k k<|oB h λv6 hv6 h=>ae (xl hv6 k) k<|ae (dT aJ k k k k k k) k<|lr k7<|am k k<|oB h λv7 hv7 h=>ae (aH (gR v6.cells (wr ((wr (x1.1+1))+1)) v7 hv7) k (bU k (bU k aL))) k<|aT k2<|sR<|am k k<|cm k4<|an<|tn<|cF k h (λ_ h=>sR<|aT k2<|aC<|aR<|aA<|aA<|sp h ⟨_,k,k,bH k k k (iS k)⟩) λ_ h=>aD<|aV<|tn<|rg<|am k k<|ae (bC k k) k<|aT k2<|sp h ⟨_,k,(bJ (bG k2) aQ k4)⟩
 ·intro e t hX;rcases y9 with y10|y11
  ·obtain ⟨rfl,hent⟩:=hX;exact aM<|tn<|aN hent<|sR<|am k k<|aT k2<|aC<|mT h k2
  ·obtain ⟨rfl,hent⟩:=hX;exact aR<|aA<|sp h hent
def tD (a0:Rp) (a1:Int):Option Int:=
 (rR a0.q a1).bind λv1=>
 bif decide (v1<0) then
 (some ((-1)))
 else
 ((eZ a0.dims v1).bind λv3=>
 bif decide (v3<0) then
 (some ((-1)))
 else
 ((jA a0.maps v3).bind λv5=>
 bif decide (v5<0) then
 (some ((-1)))
 else
 (some (v5))))
theorem aDt (a0:Rp) (a1:Int) (r:Int) (h:tD a0 a1=some r):HasC Tryz.prog 73 [.agg (eR a0),.int a1] (.int r):=by
 exact hM [.tmp 4] Tryz.func73 Tryz.ntmps73 k<|sR<|ae (wb k) k<|aT k2<|sR<|fp k8<|lp k8<|am k k<|oB h λv1 hv1 h=>ae (aH (aGU a0.q a1 v1 hv1) k (bD (pG k) (bU k aL))) k<|aT k2<|sQ<|sR<|am k k<|cm k4<|an<|tn<|cF k h (λ_ h=>sR<|aT k2<|aC<|aA<|mT h k2) λ_ h=>aD<|tn<|sR<|fp k8<|lp k8<|am k k<|oB h λv3 hv3 h=>ae (aH (gR a0.dims v1 v3 hv3) k (bU k (bU k aL))) k<|aT k2<|sQ<|sR<|am k k<|cm k4<|an<|tn<|cF k h (λ_ h=>sR<|aT k2<|aC<|aA<|mT h k2) λ_ h=>aD<|tn<|sR<|fp k8<|lp k8<|am k k<|oB h λv5 hv5 h=>ae (aH (wT a0.maps v3 v5 hv5) k (bU k (bU k aL))) k<|aT k2<|sQ<|sR<|am k k<|cm k4<|an<|tn<|cF k h (λ_ h=>sR<|aT k2<|aN (t:=mN [(4,.int (-1))] [] 1) (bJ (bG k2) aQ k4)<|aC<|aA<|mT h k2) λ_ h=>aD<|tn<|sR<|am k k<|aT k2<|aC<|mT h k2
def wU (a0:(List Rp)) (x1:(Int×Int)):Option ((Int×Int) ⊕ (Int ⊕ Int)):=
 bif decide (x1.2<(a0.length:Int)) then
 ((dG a0 x1.2).bind λv2=>
 bif !decide (v2.p=x1.1) then
 (some (.inr (.inr ((-1)))))
 else
 ((dG a0 x1.2).bind λv4=>
 bif !decide (v4.q.n=wr (x1.1+1)) then
 (some (.inr (.inr ((-1)))))
 else
 ((dG a0 x1.2).bind λv6=>
 (eZ v6.q.src (wr ((wr (x1.1+1))+1))).bind λv7=>
 bif decide (v7<0) then
 (some (.inr (.inr ((-1)))))
 else
 ((dG a0 x1.2).bind λv9=>
 (eZ v9.q.tgt v7).bind λv10=>
 bif decide (v10<0) then
 (some (.inr (.inr ((-1)))))
 else
 ((dG a0 x1.2).bind λv12=>
 (eZ v12.dims v10).bind λv13=>
 bif decide (v13<0) then
 (some (.inr (.inr ((-1)))))
 else
 ((dG a0 x1.2).bind λv15=>
 (jA v15.maps v13).bind λv16=>
 bif decide (v16<0) then
 (some (.inr (.inr ((-1)))))
 else
 (some (.inl (v16,wr (x1.2+1))))))))))
 else
 (some (.inr (.inl x1.1)))
def vV (a0:(List Rp)) (a1:Int):Option Int:=
 (Lp (wU a0) (a1,0)).bind λy18=>
 Sum.elim (λy19=>
 some (y19)
 )
 (λy20=>
 some y20
 )
 y18
theorem aIu (a0:(List Rp)) (a1:Int) (r:Int) (h:vV a0 a1=some r):HasC Tryz.prog 74 [.list 6 (a0.map eR),.int a1] (.int r):=by
 refine hM [.tmp 4] Tryz.func74 Tryz.ntmps74 k<|sR<|aT k2<|sQ<|sR<|aT k2<|aG<|oB h λy18 hy18 h=>bV (body:=(wU a0)) hy18 (λ(x1:(Int×Int))=>mN [(0,.list 6 (a0.map eR)),(1,.int x1.1),(5,.int x1.2)] [] 0) (λr e t=>Sum.elim (λa=>(λr e t=>e= .exit 0∧Ent t (mN [(1,.int r)] [] 0)) a e t) (λb=>(λr e t=>e= .ret∧kU TT [.tmp 4] (.int r) .ret t) b e t) r) (bJ (bG k2) aQ k4) ?_ ?_
 ·intro x1 o h;refine sQ<|sR<|am k k<|am k k<|ln k4<|cm k4<|an<|tn<|cF k h (λ_ h=>?_) λ_ h=>aY<|aB<|aB<|sp h ⟨_,k,k,(bJ (bG k2) aQ k4)⟩;refine aD<|tn<|sQ<|aG<|sQ<|sR<|am k k<|am k k<|oB h λv2 hv2 h=>ae (xl hv2 k) k<|ae (dT aJ k k k k k k) k<|lr k7<|am k k<|cm k4<|an<|tn<|cF k h (λ_ h=>sR<|aT k2<|aC<|aA<|aR<|aA<|aA<|sp h ⟨_,k,k,bH k k k (iS k)⟩) λ_ h=>?_;refine aD<|tn<|sR<|am k k<|ae (bC k k) k<|aT k2<|sQ<|sR<|am k k<|am k k<|oB h λv4 hv4 h=>ae (xl hv4 k) k<|ae (dT aJ k k k k k k) k<|ae (dT aJ k k k k k k) k<|lr k7<|am k k<|cm k4<|an<|tn<|cF k h (λ_ h=>sR<|aT k2<|aC<|aA<|aR<|aA<|aA<|sp h ⟨_,k,k,bH k k k (iS k)⟩) λ_ h=>?_;refine aD<|tn<|sR<|am k k<|ae (bC k k) k<|aT k2<|aN (t:=mN [(0,.list 6 (a0.map eR)),(1,.int (wr ((wr (x1.1+1))+1))),(5,.int x1.2)] [] 0) (bJ (bG k2) aQ k4)<|sR<|am k k<|am k k<|oB h λv6 hv6 h=>ae (xl hv6 k) k<|ae (dT aJ k k k k k k) k<|ae (dT aJ k k k k k k) k<|lr k7<|am k k<|oB h λv7 hv7 h=>ae (aH (gR v6.q.src (wr ((wr (x1.1+1))+1)) v7 hv7) k (bU k (bU k aL))) k<|aT k2<|sQ<|sR<|am k k<|cm k4<|an ?_;refine tn<|cF k h (λ_ h=>sR<|aT k2<|aC<|aA<|aR<|aA<|aA<|sp h ⟨_,k,k,bH k k k (iS k)⟩) λ_ h=>?_;exact aD<|tn<|sR<|am k k<|am k k<|oB h λv9 hv9 h=>ae (xl hv9 k) k<|ae (dT aJ k k k k k k) k<|ae (dT aJ k k k k k k) k<|lr k7<|am k k<|oB h λv10 hv10 h=>ae (aH (gR v9.q.tgt v7 v10 hv10) k (bU k (bU k aL))) k<|aT k2<|sQ<|sR<|am k k<|cm k4<|an<|tn<|cF k h (λ_ h=>sR<|aT k2<|aC<|aA<|aR<|aA<|aA<|sp h ⟨_,k,k,bH k k k (iS k)⟩) λ_ h=>aD<|tn<|sR<|am k k<|am k k<|oB h λv12 hv12 h=>ae (xl hv12 k) k<|ae (dT aJ k k k k k k) k<|lr k7<|am k k<|oB h λv13 hv13 h=>ae (aH (gR v12.dims v10 v13 hv13) k (bU k (bU k aL))) k<|aT k2<|aN (t:=mN [(0,.list 6 (a0.map eR)),(1,.int v13),(5,.int x1.2)] [] 0) (bJ (bG k2) aQ k4)<|sQ<|sR<|am k k<|cm k4<|an<|tn<|cF k h (λ_ h=>sR<|aT k2<|aC<|aA<|aR<|aA<|aA<|sp h ⟨_,k,k,bH k k k (iS k)⟩) λ_ h=>aD<|tn<|sR<|am k k<|am k k<|oB h λv15 hv15 h=>ae (xl hv15 k) k<|ae (dT aJ k k k k k k) k<|lr k7<|am k k<|oB h λv16 hv16 h=>ae (aH (wT v15.maps v13 v16 hv16) k (bU k (bU k aL))) k<|aT k2<|sR<|am k k<|cm k4<|an<|tn<|cF k h (λ_ h=>sR<|aT k2<|aC<|aR<|aA<|aA<|sp h ⟨_,k,k,bH k k k (iS k)⟩) λ_ h=>aD<|aV<|tn<|rg<|am k k<|ae (bC k k) k<|aT k2<|sp h ⟨_,k,(bJ (bG k2) aQ k4)⟩
 ·intro e t hX;rcases y18 with y19|y20
  ·obtain ⟨rfl,hent⟩:=hX;exact aM<|tn<|aN hent<|sR<|am k k<|aT k2<|aC<|mT h k2
  ·obtain ⟨rfl,hent⟩:=hX;exact aR<|aA<|sp h hent
def wV (a0:(List Br)) (x1:(Int×Int)):Option ((Int×Int) ⊕ (Int ⊕ Int)):=
 bif decide (x1.2<(a0.length:Int)) then
 ((dG a0 x1.2).bind λv2=>
 bif !decide (v2.first=x1.1) then
 (some (.inr (.inr ((-1)))))
 else
 ((dG a0 x1.2).bind λv4=>
 bif !decide (v4.last=wr (x1.1+1)) then
 (some (.inr (.inr ((-1)))))
 else
 ((dG a0 x1.2).bind λv6=>
 bif !decide (v6.count=wr ((wr (x1.1+1))+1)) then
 (some (.inr (.inr ((-1)))))
 else
 (some (.inl (wr ((wr ((wr (x1.1+1))+1))+1),wr (x1.2+1)))))))
 else
 (some (.inr (.inl x1.1)))
def vW (a0:(List Br)) (a1:Int):Option Int:=
 (Lp (wV a0) (a1,0)).bind λy8=>
 Sum.elim (λy9=>
 some (y9)
 )
 (λy10=>
 some y10
 )
 y8
theorem aIv (a0:(List Br)) (a1:Int) (r:Int) (h:vW a0 a1=some r):HasC Tryz.prog 76 [.list 3 (a0.map eB),.int a1] (.int r):=by
 refine hM [.tmp 4] Tryz.func76 Tryz.ntmps76 k<|sR<|aT k2<|sQ<|sR<|aT k2<|aG<|oB h λy8 hy8 h=>bV (body:=(wV a0)) hy8 (λ(x1:(Int×Int))=>mN [(0,.list 3 (a0.map eB)),(1,.int x1.1),(5,.int x1.2)] [] 0) (λr e t=>Sum.elim (λa=>(λr e t=>e= .exit 0∧Ent t (mN [(1,.int r)] [] 0)) a e t) (λb=>(λr e t=>e= .ret∧kU TT [.tmp 4] (.int r) .ret t) b e t) r) (bJ (bG k2) aQ k4) ?_ ?_
 ·intro x1 o h;exact sQ<|sR<|am k k<|am k k<|ln k4<|cm k4<|an<|tn<|cF k h (λ_ h=>aD<|tn<|sQ<|aG<|sQ<|sR<|am k k<|am k k<|oB h λv2 hv2 h=>ae (xl hv2 k) k<|ae (dT aJ k k k k k k) k<|lr k7<|am k k<|cm k4<|an<|tn<|cF k h (λ_ h=>sR<|aT k2<|aC<|aA<|aR<|aA<|aA<|sp h ⟨_,k,k,bH k k k (iS k)⟩) λ_ h=>aD<|tn<|sR<|am k k<|ae (bC k k) k<|aT k2<|sQ<|sR<|am k k<|am k k<|oB h λv4 hv4 h=>ae (xl hv4 k) k<|ae (dT aJ k k k k k k) k<|lr k7<|am k k<|cm k4<|an<|tn<|cF k h (λ_ h=>sR<|aT k2<|aC<|aA<|aR<|aA<|aA<|sp h ⟨_,k,k,bH k k k (iS k)⟩) λ_ h=>aD<|tn<|sR<|am k k<|ae (bC k k) k<|aT k2<|aN (t:=mN [(0,.list 3 (a0.map eB)),(1,.int (wr ((wr (x1.1+1))+1))),(5,.int x1.2)] [] 0) (bJ (bG k2) aQ k4)<|sQ<|sR<|am k k<|am k k<|oB h λv6 hv6 h=>ae (xl hv6 k) k<|ae (dT aJ k k k k k k) k<|lr k7<|am k k<|cm k4<|an<|tn<|cF k h (λ_ h=>sR<|aT k2<|aC<|aA<|aR<|aA<|aA<|sp h ⟨_,k,k,bH k k k (iS k)⟩) λ_ h=>aD<|tn<|rg<|am k k<|ae (bC k k) k<|aa k k<|an<|aV<|tn<|rg<|am k k<|ae (bC k k) k<|aT k2<|sp h ⟨_,k,(bJ (bG k2) aQ k4)⟩) λ_ h=>aY<|aB<|aB<|sp h ⟨_,k,k,(bJ (bG k2) aQ k4)⟩
 ·intro e t hX;rcases y8 with y9|y10
  ·obtain ⟨rfl,hent⟩:=hX;exact aM<|tn<|aN hent<|sR<|am k k<|aT k2<|aC<|mT h k2
  ·obtain ⟨rfl,hent⟩:=hX;exact aR<|aA<|sp h hent
def pA (a0:Cl) (a1:Int):Option Int:=
 (tD a0.rep a1).bind λv1=>
 bif decide (v1<0) then
 (some ((-1)))
 else
 ((tD a0.other v1).bind λv3=>
 bif decide (v3<0) then
 (some ((-1)))
 else
 ((vV a0.parts v3).bind λv5=>
 bif decide (v5<0) then
 (some ((-1)))
 else
 ((jA a0.maps v5).bind λv7=>
 bif decide (v7<0) then
 (some ((-1)))
 else
 ((vW a0.bars v7).bind λv9=>
 bif decide (v9<0) then
 (some ((-1)))
 else
 ((eZ a0.theta v9).bind λv11=>
 bif decide (v11<0) then
 (some ((-1)))
 else
 ((rQ a0.subs v11).bind λv13=>
 bif decide (v13<0) then
 (some ((-1)))
 else
 (some (v13))))))))
theorem aCi (a0:Cl) (a1:Int) (r:Int) (h:pA a0 a1=some r):HasC Tryz.prog 21 [.agg (eC a0),.int a1] (.int r):=by
 refine hM [.tmp 4] Tryz.func21 Tryz.ntmps21 k<|sR<|ae (wb k) k<|aT k2<|sR<|fp k8<|lp k8<|am k k<|oB h λv1 hv1 h=>ae (aH (aDt a0.rep a1 v1 hv1) k (bD (pG k) (bU k aL))) k<|aT k2<|sQ<|sR<|am k k<|cm k4<|an<|tn<|cF k h (λ_ h=>sR<|aT k2<|aC<|aA<|mT h k2) λ_ h=>?_;refine aD<|tn<|sR<|fp k8<|lp k8<|am k k<|oB h λv3 hv3 h=>ae (aH (aDt a0.other v1 v3 hv3) k (bD (pG k) (bU k aL))) k<|aT k2<|sQ<|sR<|am k k<|cm k4<|an<|tn<|cF k h (λ_ h=>sR<|aT k2<|aC<|aA<|mT h k2) λ_ h=>?_;exact aD<|tn<|sR<|fp k8<|lp k8<|am k k<|oB h λv5 hv5 h=>ae (aH (aIu a0.parts v3 v5 hv5) k (bU k (bU k aL))) k<|aT k2<|sQ<|sR<|am k k<|cm k4<|an<|tn<|cF k h (λ_ h=>sR<|aT k2<|aN (t:=mN [(4,.int (-1))] [] 1) (bJ (bG k2) aQ k4)<|aC<|aA<|mT h k2) λ_ h=>aD<|tn<|sR<|fp k8<|lp k8<|am k k<|oB h λv7 hv7 h=>ae (aH (wT a0.maps v5 v7 hv7) k (bU k (bU k aL))) k<|aT k2<|aN (t:=mN [(1,.int v7),(2,.ptr 0 0 0)] [(0,⟨18,[eC a0]⟩)] 1) (bJ (bG k2) (cC k<|aQ) k4)<|sQ<|sR<|am k k<|cm k4<|an<|tn<|cF k h (λ_ h=>sR<|aT k2<|aC<|aA<|mT h k2) λ_ h=>aD<|tn<|sR<|fp k8<|lp k8<|am k k<|oB h λv9 hv9 h=>ae (aH (aIv a0.bars v7 v9 hv9) k (bU k (bU k aL))) k<|aT k2<|sQ<|sR<|am k k<|cm k4<|an<|tn<|cF k h (λ_ h=>sR<|aT k2<|aC<|aA<|mT h k2) λ_ h=>aD<|tn<|sR<|fp k8<|lp k8<|am k k<|oB h λv11 hv11 h=>ae (aH (gR a0.theta v9 v11 hv11) k (bU k (bU k aL))) k<|aT k2<|sQ<|sR<|am k k<|cm k4<|an<|tn<|cF k h (λ_ h=>sR<|aT k2<|aC<|aA<|mT h k2) λ_ h=>aD<|tn<|sR<|fp k8<|lp k8<|am k k<|oB h λv13 hv13 h=>ae (aH (aGT a0.subs v11 v13 hv13) k (bU k (bU k aL))) k<|aT k2<|sQ<|sR<|am k k<|cm k4<|an<|tn<|cF k h (λ_ h=>sR<|aT k2<|aN (t:=mN [(4,.int (-1))] [] 1) (bJ (bG k2) aQ k4)<|aC<|aA<|mT h k2) λ_ h=>aD<|tn<|sR<|am k k<|aT k2<|aC<|mT h k2
end
noncomputable section
def nvS {α:Type} (nv:α→Nat):List α→Nat
 | []=>0
 |x::l=>nv x+nvS nv l
def mvS {α:Type} (mv:Int→α→α) (nv:α→Nat):Int→List α→List α
 |_,[]=>[]
 |k,x::l=>mv k x::mvS mv nv (k+nv x) l
section
variable {α:Type} {mv:Int→α→α} {nv:α→Nat}
theorem rS: ∀ (l:List α) (k:Int),(mvS mv nv k l).length=l.length
 | [],_=>rfl
 |x::l,k=>by simp [mvS,rS l]
theorem aNE: ∀ (l m:List α),nvS nv (l++m)=nvS nv l+nvS nv m
 | [],m=>by simp [nvS]
 |x::l,m=>by simp [nvS,aNE l m];omega
theorem aNF: ∀ (l m:List α) (k:Int),mvS mv nv k (l++m)=mvS mv nv k l++mvS mv nv (k+nvS nv l) m
 | [],m,k=>by simp [mvS,nvS]
 |x::l,m,k=>by
  simp only [List.cons_append,mvS,nvS,aNF l m];rw [show k+((nv x+nvS nv l:Nat):Int)=k+(nv x:Int)+(nvS nv l:Int) by omega]
theorem aGV {l:List α} {i:Nat} (hi:i<l.length):nvS nv (l.take (i+1))=nvS nv (l.take i)+nv l[i]:=by
 rw [zB hi,aNE];simp [nvS]
theorem aIS (l:List α) (i:Nat):nvS nv (l.take i)≤nvS nv l:=by
 have h:nvS nv (l.take i++l.drop i)=nvS nv l:=by rw [List.take_append_drop]
 rw [aNE] at h;omega
theorem aNG {c:Nat} : ∀ {l:List α},(∀ x∈l,nv x≤c)→nvS nv l≤c*l.length
 | [],_=>by simp [nvS]
 |x::l,h=>by
  have h1:=h x (by simp);have h2:=aNG (l:=l) λy hy=>h y (by simp [hy]);simp only [nvS,List.length_cons,Nat.mul_add,Nat.mul_one];omega
theorem aJU {l:List α} {k:Int} {i:Nat} (hi:i<l.length):(mvS mv nv k l)[i]? =some (mv (k+nvS nv (l.take i)) l[i]):=by
 have e:l=l.take i++l[i]::l.drop (i+1):=by rw [←List.drop_eq_getElem_cons hi,List.take_append_drop]
 have e2:mvS mv nv k l=mvS mv nv k (l.take i)++mvS mv nv (k+nvS nv (l.take i)) (l[i]::l.drop (i+1)):=by rw [←aNF,←e]
 rw [e2,List.getElem?_append_right (by rw [rS];simp;omega),rS];simp [mvS,Nat.min_eq_left (Nat.le_of_lt hi)]
theorem aEc {l:List α} {k0:Int} {body:List α×Int×Int→Option ((List α×Int×Int) ⊕ (List α×Int))} (h0:0≤k0) (hk:k0+nvS nv l≤4611686018427387904) (hl:l.length≤4611686018427387904)
  (hs: ∀ (r:List α) (i:Nat) (k:Int) (hi:i<r.length),r[i]∈l→0≤k→k+nv r[i]≤4611686018427387904→body (r,k,i)=some (.inl (r.set i (mv k r[i]),k+nv r[i],wr (i+1)))) (he: ∀ r k,body (r,k,(r.length:Int))=some (.inr (r,k))):
  Lp body (l,k0,0)=some (mvS mv nv k0 l,k0+nvS nv l):=by
 rw [eY (r:=(mvS mv nv k0 l,k0+nvS nv l)) (λi=>(mvS mv nv k0 (l.take i)++l.drop i,k0+nvS nv (l.take i),(i:Int))) l.length (by simp [mvS,nvS]) (λi hi=>?_) (λ_=>?_)]
 ·have hm:(mvS mv nv k0 (l.take i)).length=i:=by rw [rS];simp;omega
  have hg:(mvS mv nv k0 (l.take i)++l.drop i)[i]'(by simp [rS];omega)=l[i]:=by
   rw [List.getElem_append_right (by omega)];simp [hm]
  have hb:=aIS (nv:=nv) l (i+1);rw [aGV hi] at hb;rw [hs _ i _ (by simp [rS];omega) (by rw [hg];exact List.getElem_mem hi) (by omega) (by rw [hg];omega),hg,cO hi hl];congr 2;refine Prod.ext ?_ (Prod.ext ?_ rfl)
  ·simp only;rw [List.set_append_right _ _ (by omega),hm,Nat.sub_self,List.drop_eq_getElem_cons hi,List.set_cons_zero,zB hi,aNF];simp [mvS]
  ·simp only;rw [aGV hi];omega
 ·have:=he (mvS mv nv k0 (l.take l.length)++l.drop l.length) (k0+nvS nv (l.take l.length));simp only [List.take_length,List.drop_length,List.append_nil,rS] at this ⊢;exact this
theorem aEd {l:List α} {k0:Int} {body:Int×Int→Option ((Int×Int) ⊕ (Int ⊕ Int))} (h0:0≤k0) (hk:k0+nvS nv l≤4611686018427387904) (hl:l.length≤4611686018427387904)
  (hs: ∀ (i:Nat) (hi:i<l.length) (k:Int),k=k0+nvS nv (l.take i)→0≤k→k+nv l[i]≤4611686018427387904→body (k,i)=some (.inl (k+nv l[i],wr (i+1)))) (he: ∀ k,body (k,(l.length:Int))=some (.inr (.inl k))):
  Lp body (k0,0)=some (.inl (k0+nvS nv l)):=by
 rw [eY (r:=Sum.inl (k0+nvS nv l)) (λi=>(k0+nvS nv (l.take i),(i:Int))) l.length (by simp [nvS]) (λi hi=>?_) (λ_=>?_)]
 ·have hb:=aIS (nv:=nv) l (i+1);rw [aGV hi] at hb;rw [hs i hi _ rfl (by omega) (by omega),cO hi hl,aGV hi];congr 3;omega
 ·rw [he];simp
end
def nI (l:List Int):Nat:=nvS (λ_=>1) l
def mvI:Int→List Int→List Int:=mvS (λk _=>k) (λ_=>1)
theorem aBa: ∀ l:List Int,nI l=l.length
 | []=>rfl
 |x::l=>by have:=aBa l;simp only [nI] at this;simp only [nI,nvS,List.length_cons];omega
theorem uH (k:Int) (l:List Int):(mvI k l).length=l.length:=rS l k
theorem aOS {k:Int} {n:Nat} (h:0≤k):decide (k+(n:Int)<0)=false:=bZ (by omega)
theorem aPp {l:List Int} {k:Int} (h0:0≤k) (hk:k+nI l≤4611686018427387904):eK l k=some (mvI k l,k+nI l):=by
 have hl:=aBa l;unfold eK;rw [aEc (mv:=λk _=>k) (nv:=λ_=>1) h0 hk (by omega) (λr i k hi _ g0 g1=>?_) (λr k=>?_),aE]
 ·rfl
 ·unfold pY;simp only;rw [kV hi,aO,dY hi,aE,gW,eN (x:=k+1) (by omega)];simp
 ·unfold pY;simp only;rw [nT (bK _),aS]
theorem aRo {l:List Int} {k:Int} (h0:0≤k) (hk:k+nI l≤4611686018427387904):eZ (mvI k l) k=some (k+nI l):=by
 have hl:=aBa l;have hm:=uH k l;unfold eZ;rw [aEd (l:=l) (nv:=λ_=>1) h0 hk (by omega) (λi hi k' e g0 g1=>?_) (λk'=>?_),aE]
 ·rfl
 ·unfold pZ;simp only;have hg:(mvI k l)[i]? =some k':=by unfold mvI;rw [aJU hi,e]
  rw [hm,kV hi,aO,dY (by omega),aE];have hg':(mvI k l)[i]'(by omega)=k':=by rw [lD (by omega)] at hg;exact Option.some.inj hg
  rw [hg',bF rfl,eT,aS,eN (x:=k'+1) (by omega)];simp
 ·unfold pZ;simp only;rw [hm,nT (bK _),aS]
def nIS:List (List Int)→Nat:=nvS nI
def aRp:Int→List (List Int)→List (List Int):=mvS mvI nI
theorem aPq {α:Type} {l:List α} {i:Nat} {v:α} (h:l[i]? =some v) (hi:i<l.length):l[i]=v:=by rw [lD hi] at h;exact Option.some.inj h
theorem aXF {l:List (List Int)} {k:Int} (h0:0≤k) (hk:k+nIS l≤4611686018427387904) (hl:l.length≤4611686018427387904):uE l k=some (aRp k l,k+nIS l):=by
 unfold uE;rw [aEc (mv:=mvI) (nv:=nI) h0 hk hl (λr i k hi _ g0 g1=>?_) (λr k=>?_),aE]
 ·rfl
 ·unfold oD;simp only;rw [kV hi,aO,dY hi,aE,aPp g0 g1,aE,gW,uH,bF rfl,aO]
 ·unfold oD;simp only;rw [nT (bK _),aS]
theorem aXG {l:List (List Int)} {k:Int} (h0:0≤k) (hk:k+nIS l≤4611686018427387904) (hl:l.length≤4611686018427387904):uG (aRp k l) k=some (k+nIS l):=by
 have hm:(aRp k l).length=l.length:=rS l k;unfold uG;rw [aEd (l:=l) (nv:=nI) h0 hk hl (λi hi k' e g0 g1=>?_) (λk'=>?_),aE]
 ·rfl
 ·unfold oE;simp only;rw [hm,kV hi,aO,dY (by omega),aE,aPq (v:=mvI k' l[i]) (by unfold aRp;rw [aJU hi,e]) (by omega),aRo g0 g1,aE,aOS g0,aS]
 ·unfold oE;simp only;rw [hm,nT (bK _),aS]
def nSe (s:Sc):Nat:=1+nIS s.basis
def aTW (k:Int) (s:Sc):Sc:=⟨k,aRp (k+1) s.basis⟩
def nSs:List Sc→Nat:=nvS nSe
def aOT:Int→List Sc→List Sc:=mvS aTW nSe
def lS (l:List Sc):Prop:=l.length≤4611686018427387904∧ ∀ s∈l,s.basis.length≤4611686018427387904
theorem aTX (k:Int) (l:List (List Int)):(aRp k l).length=l.length:=rS l k
theorem aOU (k:Int) (l:List Sc):(aOT k l).length=l.length:=rS l k
theorem aXH {l:List Sc} {k:Int} (h0:0≤k) (hk:k+nSs l≤4611686018427387904) (hl:lS l):rO l k=some (aOT k l,k+nSs l):=by
 unfold rO;rw [aEc (mv:=aTW) (nv:=nSe) h0 hk hl.1 (λr i k hi hm g0 g1=>?_) (λr k=>?_),aE]
 ·rfl
 ·unfold nSe at g1;unfold nB;simp only;rw [kV hi,aO,dY hi,aE,eN (x:=k+1) (by omega),aXF (by omega) (by omega) (hl.2 _ hm),aE,aTX,bF rfl,aO,gW];unfold aTW nSe;congr 4;omega
 ·unfold nB;simp only;rw [nT (bK _),aS]
theorem aXI {l:List Sc} {k:Int} (h0:0≤k) (hk:k+nSs l≤4611686018427387904) (hl:lS l):rQ (aOT k l) k=some (k+nSs l):=by
 have hm:(aOT k l).length=l.length:=rS l k;unfold rQ;rw [aEd (l:=l) (nv:=nSe) h0 hk hl.1 (λi hi k' e g0 g1=>?_) (λk'=>?_),aE]
 ·rfl
 ·unfold nSe at g1;unfold nC;simp only;rw [hm,kV hi,aO,dY (by omega),aE,aPq (v:=aTW k' l[i]) (by unfold aOT;rw [aJU hi,e]) (by omega)];unfold aTW;simp only [decide_true,eT,aS,aE];rw [eN (x:=k'+1) (by omega),aXG (by omega) (by omega) (hl.2 _ (List.getElem_mem hi)),aE,aOS (by omega),aS];unfold nSe;congr 3;omega
 ·unfold nC;simp only;rw [hm,nT (bK _),aS]
def nQ (q:Qv):Nat:=nI q.src+nI q.tgt
def mvQ (k:Int) (q:Qv):Qv:=⟨q.n,mvI k q.src,mvI (k+nI q.src) q.tgt⟩
theorem aXr {q:Qv} {k:Int} (h0:0≤k) (hk:k+nQ q≤4611686018427387904):rP q k=some ((mvQ k q).src,(mvQ k q).tgt,k+nQ q):=by
 unfold nQ at hk;unfold rP;rw [aPp h0 (by omega),aE,uH,bF rfl,aO,aPp (by omega) (by omega),aE,uH,bF rfl,aO];unfold mvQ nQ;congr 3;omega
theorem aXs {q:Qv} {k:Int} (h0:0≤k) (hk:k+nQ q≤4611686018427387904):rR (mvQ k q) k=some (k+nQ q):=by
 unfold nQ at hk;unfold rR mvQ;simp only;rw [aRo h0 (by omega),aE,aOS h0,aS,aRo (by omega) (by omega),aE,aOS (by omega),aS];unfold nQ;congr 1;omega
def nMe (m:Mt):Nat:=2+nI m.cells
def aTZ (k:Int) (m:Mt):Mt:=⟨k,k+1,mvI (k+2) m.cells⟩
def nMs:List Mt→Nat:=nvS nMe
def aNH:Int→List Mt→List Mt:=mvS aTZ nMe
theorem aGW (k:Int) (l:List Mt):(aNH k l).length=l.length:=rS l k
theorem aVg {l:List Mt} {k:Int} (h0:0≤k) (hk:k+nMs l≤4611686018427387904) (hl:l.length≤4611686018427387904):iZ l k=some (aNH k l,k+nMs l):=by
 unfold iZ;rw [aEc (mv:=aTZ) (nv:=nMe) h0 hk hl (λr i k hi hm g0 g1=>?_) (λr k=>?_),aE]
 ·rfl
 ·unfold nMe at g1;unfold mD;simp only;rw [kV hi,aO,dY hi,aE,eN (x:=k+1) (by omega),eN (x:=k+1+1) (by omega),show k+1+1=k+2 by omega,aPp (by omega) (by omega),aE,uH,bF rfl,aO,gW];unfold aTZ nMe;congr 4;omega
 ·unfold mD;simp only;rw [nT (bK _),aS]
theorem aVh {l:List Mt} {k:Int} (h0:0≤k) (hk:k+nMs l≤4611686018427387904) (hl:l.length≤4611686018427387904):jA (aNH k l) k=some (k+nMs l):=by
 have hm:(aNH k l).length=l.length:=rS l k;unfold jA;rw [aEd (l:=l) (nv:=nMe) h0 hk hl (λi hi k' e g0 g1=>?_) (λk'=>?_),aE]
 ·rfl
 ·unfold nMe at g1;unfold mE;simp only;rw [hm,kV hi,aO,dY (by omega),aE,aPq (v:=aTZ k' l[i]) (by unfold aNH;rw [aJU hi,e]) (by omega)];unfold aTZ;simp only [decide_true,eT,aS,aE,eN (x:=k'+1) (by omega)];rw [eN (x:=k'+1+1) (by omega),show k'+1+1=k'+2 by omega,aRo (by omega) (by omega),aE,aOS (by omega),aS];unfold nMe;congr 3;omega
 ·unfold mE;simp only;rw [hm,nT (bK _),aS]
def nR (r:Rp):Nat:=nQ r.q+nI r.dims+nMs r.maps
def mvR (k:Int) (r:Rp):Rp:=⟨r.p,mvQ k r.q,mvI (k+nQ r.q) r.dims,aNH (k+nQ r.q+nI r.dims) r.maps⟩
theorem aWK {r:Rp} {k:Int} (h0:0≤k) (hk:k+nR r≤4611686018427387904) (hl:r.maps.length≤4611686018427387904):oZ r k=some ((mvR k r).q.src,(mvR k r).q.tgt,(mvR k r).dims,(mvR k r).maps,k+nR r):=by
 unfold nR at hk;unfold oZ;rw [aXr h0 (by omega),aE];simp only [mvQ,uH,decide_true,aO];rw [aPp (by omega) (by omega),aE];simp only [uH,decide_true,aO];rw [aVg (by omega) (by omega) hl,aE];simp only [aGW,decide_true,aO];unfold mvR nR;congr 5;omega
theorem aXJ {r:Rp} {k:Int} (h0:0≤k) (hk:k+nR r≤4611686018427387904) (hl:r.maps.length≤4611686018427387904):tD (mvR k r) k=some (k+nR r):=by
 unfold nR at hk;unfold tD mvR;simp only;rw [aXs h0 (by omega),aE,aOS h0,aS,aRo (by omega) (by omega),aE,aOS (by omega),aS,aVh (by omega) (by omega) hl,aE,aOS (by omega),aS];unfold nR;congr 1;omega
theorem aGX (k:Int) (r:Rp):(mvR k r).q.src.length=r.q.src.length∧(mvR k r).q.tgt.length=r.q.tgt.length∧(mvR k r).dims.length=r.dims.length∧(mvR k r).maps.length=r.maps.length:=⟨uH _ _,uH _ _,uH _ _,aGW _ _⟩
theorem aPr {l:List Mt} (h:l.length≤1048576∧ ∀ m∈l,bM m):nMs l≤2097152*1048576:=by
 have:=aNG (nv:=nMe) (c:=2097152) (l:=l) λm hm=>by have:=(h.2 m hm).1;unfold bI at this;unfold nMe;rw [aBa];omega
 unfold nMs
 calc nvS nMe l≤2097152*l.length:=this
  _≤2097152*1048576:=Nat.mul_le_mul_left _ h.1
theorem aOV {r:Rp} (h:bR r):nR r≤4398046511104:=by
 obtain ⟨⟨h1,h2,_⟩,h3,h4,_⟩:=h;have:=aPr h4;unfold bI at h1 h2 h3;unfold nR nQ;rw [aBa,aBa,aBa];omega
theorem aWL {l:List (List Int)} (h:l.length≤1048576∧ ∀ v∈l,bI v):nIS l≤1048576*1048576:=by
 have:=aNG (nv:=nI) (c:=1048576) (l:=l) λm hm=>by have:=h.2 m hm;unfold bI at this;rw [aBa];exact this
 unfold nIS
 calc nvS nI l≤1048576*l.length:=this
  _≤1048576*1048576:=Nat.mul_le_mul_left _ h.1
theorem aTa {l:List Sc} (h:l.length≤1048576∧ ∀ s∈l,bS s):nSs l≤2305843009213693952:=by
 have:=aNG (nv:=nSe) (c:=2097152*1048576) (l:=l) λm hm=>by have:=aWL (h.2 m hm).1;unfold nSe;omega
 unfold nSs
 calc nvS nSe l≤2097152*1048576*l.length:=this
  _≤2097152*1048576*1048576:=Nat.mul_le_mul_left _ h.1
  _≤2305843009213693952:=by decide
theorem aVi {l:List Sc} (h:l.length≤1048576∧ ∀ s∈l,bS s):lS l:=⟨by omega,λs hs=>by have:=(h.2 s hs).1.1;omega⟩
end
noncomputable section
set_option maxRecDepth 10000
set_option maxHeartbeats 4000000
end
noncomputable section
theorem aTb {p:Int} (hp:nS p=true) {n:Nat} {l l':List (List Int)} (h:InP p l.length n (cV l)) (h':InP p l'.length n (cV l')) (hK: ∀ x,Kr p l.length n (cV l) x↔Kr p l'.length n (cV l') x):gG p n l=gG p n l':=by
 obtain ⟨e1,e2⟩:=aMl hp h h' hK;unfold gG;rw [←e1];exact aDc e2
theorem aVj {p:Int} {f:Nat→Int} : ∀ {n:Nat},(∀ k,k<n→Z0 p (f k))→Z0 p (sN f n)
 |0,_=>by unfold Z0;simp [sN]
 |n+1,h=>aPT (aVj λk hk=>h k (by omega)) (h n (by omega))
end
noncomputable section
theorem aTc {k:Nat} {f:Nat→Nat} (hlt: ∀ t,t<k→f t<k) (hinc: ∀ s t,s<t→t<k→f s<f t): ∀ t,t<k→f t=t:=by
 have h1: ∀ t,t<k→t≤f t:=by
  intro t;induction t with
  |zero=>intro _;exact Nat.zero_le _
  |succ t ih=>intro h;have:=ih (by omega);have:=hinc t (t+1) (by omega) h;omega
 have h2: ∀ d t,t+d+1=k→f t≤t:=by
  intro d;induction d with
  |zero=>intro t h;have:=hlt t (by omega);omega
  |succ d ih=>intro t h;have:=ih (t+1) (by omega);have:=hinc t (t+1) (by omega) (by omega);omega
 intro t ht;have:=h1 t ht;have:=h2 (k - t - 1) t (by omega);omega
theorem aPs {L M:List Nat} (hL: ∀ i k,i<k→k<L.length→L[i]?.getD 0<L[k]?.getD 0) (hM: ∀ i k,i<k→k<M.length→M[i]?.getD 0<M[k]?.getD 0) (hs: ∀ t,t<M.length→ ∃ i,i<L.length∧L[i]?.getD 0=M[t]?.getD 0) (hl:L.length=M.length):L=M:=by
 have hs': ∀ t:Nat,∃ i,t<M.length→i<L.length∧L[i]?.getD 0=M[t]?.getD 0:=λt=>by
  by_cases h:t<M.length
  ·obtain ⟨i,hi⟩:=hs t h;exact ⟨i,λ_=>hi⟩
  ·exact ⟨0,λh'=>absurd h' h⟩
 obtain ⟨f,hf⟩:=Classical.axiomOfChoice hs'
 have e:=aTc (k:=M.length) (f:=f) (λt ht=>hl▸(hf t ht).1) (λs t hst ht=>by
  rcases Nat.lt_trichotomy (f s) (f t) with h|h|h
  ·exact h
  ·have a:=(hf s (by omega)).2;have b:=(hf t ht).2;have c:=hM s t hst ht;rw [h,b] at a;omega
  ·have a:=(hf s (by omega)).2;have b:=(hf t ht).2;have c:=hM s t hst ht;have:=hL (f t) (f s) h (hf s (by omega)).1
   omega)
 refine List.ext_getElem hl λi h1 h2=>?_;have:=(hf i h2).2;rw [e i h2] at this;simpa [h1,h2] using this
theorem aTd {p:Int} (hp:nS p=true) {m m' n:Nat} {F G:Nat→Nat→Int} {L M:List Nat} (hF:Red m n F L) (hG:Red m' n G M) (iF:InP p m n F) (iG:InP p m' n G) (hK: ∀ x,Kr p m n F x→Kr p m' n G x) (hl:L.length=M.length):L=M∧ ∀ i j,i<L.length→j<n→F i j=G i j:=by
 have e:L=M:=aPs hF.inc hG.inc (λt ht=>aMk hp hF hG hK ht) hl;subst e;refine ⟨rfl,λi k hi hk=>?_⟩;have hm:=hF.len;have hm':=hG.len;by_cases hL: ∃ t,t<L.length∧L[t]?.getD 0=k
 ·obtain ⟨t,ht,rfl⟩:=hL;by_cases e:i=t
  ·subst e;rw [hF.one i hi,hG.one i hi]
  ·rw [hF.col t i ht (by omega) e,hG.col t i ht (by omega) e]
 ·have hL: ∀ t,t<L.length→L[t]?.getD 0≠k:=λt ht e=>hL ⟨t,ht,e⟩;have h1:=hK _ (aMj (p:=p) hF hk hL) i (by omega);rw [aNy hF hk hL,aHL (j:=i) hi (λt ht hti=>by rw [hG.col t i ht (by omega) (λe=>hti e.symm)];simp),hG.one i hi,Int.one_mul] at h1;unfold Z0 at h1;have b1:=iF i k (by omega) hk;have b2:=iG i k (by omega) hk
  have e1:G i k % p=F i k % p:=by
   have:=Int.emod_emod_of_dvd;exact Int.emod_eq_emod_iff_emod_sub_eq_zero.2 h1
  rw [Int.emod_eq_of_lt b2.1 b2.2,Int.emod_eq_of_lt b1.1 b1.2] at e1;exact e1.symm
theorem aMH {p:Int} {n:Nat} {l:List (List Int)} (hp:nS p=true) (hv:VecsP p n l) (hs:gG p n l=l): ∃ L,L.length=l.length∧Red l.length n (cV l) L:=by
 have hi:=hv.inP;have hr:=aHK hp hi n (bK _)
 have hlen:(cU p l.length (cV l) n).2.length=l.length:=by
  have:=congrArg List.length hs;unfold gG at this;rw [tU] at this;exact this
 have hrow: ∀ i j,i<l.length→j<n→(cU p l.length (cV l) n).1 i j=cV l i j:=by
  intro i j hi hj;have:=aKC (cU p l.length (cV l) n).1 (cU p l.length (cV l) n).2.length n i j (by omega) hj;unfold gG at hs;rw [hs] at this;exact this.symm
 refine ⟨_,hlen,⟨hr.lt,hr.inc,by omega,λi h=>?_,λi k h hk hne=>?_,λi j h h2 hj=>?_,λi j h hj=>?_⟩⟩
 ·rw [←hrow i _ (by omega) (hr.lt i h)];exact hr.one i h
 ·rw [←hrow k _ hk (hr.lt i h)];exact hr.col i k h hk hne
 ·omega
 ·rw [←hrow i j (by omega) (by have:=hr.lt i h;omega)];exact hr.left i j h hj
def rsF (p:Int) (B:Nat→Nat→Int) (L:List Nat) (v:Nat→Int):Nat→Nat→Int
 |0=>v
 |t+1=>λj=>(rsF p B L v t j+(p - rsF p B L v t (L[t]?.getD 0))*B t j) % p
theorem aTe {p:Int} (hp:nS p=true) {B:Nat→Nat→Int} {L:List Nat} {v:Nat→Int} {n:Nat} (hv: ∀ j,j<n→0≤v j∧v j<p): ∀ t j,j<n→0≤rsF p B L v t j∧rsF p B L v t j<p
 |0,j,h=>hv j h
 |t+1,j,_=>aCB hp
theorem aNI {p:Int} (hp:nS p=true) {m n:Nat} {B:Nat→Nat→Int} {L:List Nat} (h:Red m n B L) {v:Nat→Int} : ∀ t,t≤L.length→ ∀ s,s<t→rsF p B L v t (L[s]?.getD 0)=0
 |0,_,s,hs=>absurd hs (Nat.not_lt_zero _)
 |t+1,ht,s,hs=>by
  have hm:=h.len;simp only [rsF];by_cases e:s=t
  ·subst e;rw [h.one s (by omega),Int.mul_one,show rsF p B L v s (L[s]?.getD 0)+(p - rsF p B L v s (L[s]?.getD 0))=p by omega,Int.emod_self]
  ·rw [h.col s t (by omega) (by omega) (λe'=>e e'.symm),aNI hp h t (by omega) s (by omega)];simp
theorem aPt {p:Int} (hp:nS p=true) {m n:Nat} {B:Nat→Nat→Int} {L:List Nat} (hL:L.length≤m) {v x:Nat→Int} (hx:Kr p m n B x): ∀ t,t≤L.length→dt n (rsF p B L v t) x % p=dt n v x % p
 |0,_=>rfl
 |t+1,ht=>by
  have ih:=aPt hp hL (v:=v) hx t (by omega);have h1:=hx t (by omega);rw [←ih];simp only [rsF];rw [aMi (g:=λj=>rsF p B L v t j+(p - rsF p B L v t (L[t]?.getD 0))*B t j) (λk _=>by rw [Int.emod_emod_of_dvd _ (Int.dvd_refl p)]),aSr];have h2:=aHM (p - rsF p B L v t (L[t]?.getD 0)) h1;unfold Z0 at h2;rw [Int.add_emod,h2];simp
theorem aTf {p:Int} (hp:nS p=true) {m n:Nat} {B:Nat→Nat→Int} {L:List Nat} (h:Red m n B L) {v:Nat→Int} (hv: ∀ j,j<n→0≤v j∧v j<p):(∀ j,j<n→rsF p B L v L.length j=0)↔ ∀ x,Kr p m n B x→Z0 p (dt n v x):=by
 constructor
 ·intro hz x hx;have:=aPt hp h.len (v:=v) hx L.length (bK _);unfold Z0;rw [←this]
  have e:dt n (rsF p B L v L.length) x=0:=by
   unfold dt;rw [sX (g:=λ_=>0) (λk hk=>by rw [hz k hk];simp),aCy]
  rw [e];simp
 ·intro hz k hk;by_cases hL: ∃ t,t<L.length∧L[t]?.getD 0=k
  ·obtain ⟨t,ht,rfl⟩:=hL;exact aNI hp h L.length (bK _) t ht
  ·have hL: ∀ t,t<L.length→L[t]?.getD 0≠k:=λt ht e=>hL ⟨t,ht,e⟩;have hx:=aMj (p:=p) h hk hL;have h1:=hz _ hx;unfold Z0 at h1;rw [←aPt hp h.len (v:=v) hx L.length (bK _),aNy h hk hL,sX (g:=λ_=>0) (λi hi=>by rw [aNI hp h L.length (bK _) i hi];simp),aCy,Int.sub_zero] at h1;have b:=aTe hp (B:=B) (L:=L) hv L.length k hk;rw [Int.emod_eq_of_lt b.1 b.2] at h1;exact h1
theorem aEe {p:Int} {n:Nat} {a b:List (List Int)} {x:Nat→Int} :Kr p (a++b).length n (cV (a++b)) x↔Kr p a.length n (cV a) x∧Kr p b.length n (cV b) x:=by
 have e1: ∀ i,i<a.length→cV (a++b) i=cV a i:=λi hi=>by funext j;simp only [cV];rw [List.getElem?_append_left hi]
 have e2: ∀ i,cV (a++b) (a.length+i)=cV b i:=λi=>by funext j;simp only [cV];rw [List.getElem?_append_right (by omega),Nat.add_sub_cancel_left]
 unfold Kr;rw [List.length_append];refine ⟨λh=>⟨λi hi=>e1 i hi▸h i (by omega),λi hi=>e2 i▸h (a.length+i) (by omega)⟩,λh i hi=>?_⟩;rcases dP i a.length with h'|h'
 ·rw [e1 i h'];exact h.1 i h'
 ·have:=h.2 (i - a.length) (by omega);rw [←e2,show a.length+(i - a.length)=i by omega] at this;exact this
theorem aBb {p:Int} (hp:nS p=true) {n:Nat} {a b:List (List Int)} (ha:VecsP p n a) (hb:VecsP p n b) (hs:gG p n b=b):(aLC p n a b).length=b.length↔ ∀ x,Kr p b.length n (cV b) x→Kr p a.length n (cV a) x:=by
 have hi:=(ha.append hb).inP;constructor
 ·intro hl x hx;obtain ⟨L,hLl,hR⟩:=aMH hp hb hs;have hr:=aHK hp hi n (bK _);have hb':=iD hp
  have hlen:(cU p (a++b).length (cV (a++b)) n).2.length=L.length:=by
   unfold aLC gG at hl;rw [tU] at hl;omega
  obtain ⟨_,h2⟩:=aTd hp hr hR (uX (by omega) hi n) hb.inP (λx hx=>(aEe.1 ((aGA hp hi x n (bK _)).1 hx)).2) hlen;refine (aEe.1 ((aGA hp hi x n (bK _)).1 λi hi'=>?_)).1;rcases dP i (cU p (a++b).length (cV (a++b)) n).2.length with h'|h'
  ·have e:dt n ((cU p (a++b).length (cV (a++b)) n).1 i) x=dt n (cV b i) x:=sX λk hk=>by rw [h2 i k h' hk]
   rw [e];exact hx i (by omega)
  ·have e:dt n ((cU p (a++b).length (cV (a++b)) n).1 i) x=0:=by
    unfold dt;rw [sX (g:=λ_=>0) (λk hk=>by rw [hr.low i k h' hi' hk];simp),aCy]
   rw [e];unfold Z0;simp
 ·intro hK;unfold aLC;rw [aTb hp hi hb.inP λx=>⟨λh=>(aEe.1 h).2,λh=>aEe.2 ⟨hK x h,h⟩⟩,hs]
end
noncomputable section
def sV (r:Rp) (i:Nat):Nat:=(r.q.src[i]?.getD 0).toNat
def tV (r:Rp) (i:Nat):Nat:=(r.q.tgt[i]?.getD 0).toNat
def aF (r:Rp) (i:Nat):Nat→Nat→Int:=λj k=>(r.maps[i]?.getD ⟨0,0,[]⟩).cells[j*dN r (sV r i)+k]?.getD 0
structure Rv (r:Rp):Prop where
 hp:nS r.p=true
 n5:r.dims.length≤5
 d: ∀ k,k<r.dims.length→r.dims[k]?.getD 0=(dN r k:Int)∧dN r k≤4
 e6:r.q.src.length≤6
 tl:r.q.tgt.length=r.q.src.length
 ml:r.maps.length=r.q.src.length
 s: ∀ i,i<r.q.src.length→r.q.src[i]?.getD 0=(sV r i:Int)∧sV r i<r.dims.length
 t: ∀ i,i<r.q.src.length→r.q.tgt[i]?.getD 0=(tV r i:Int)∧tV r i<r.dims.length
 m: ∀ i,i<r.q.src.length→r.maps[i]?.getD ⟨0,0,[]⟩=⟨dN r (tV r i),dN r (sV r i),cX (dN r (tV r i)) (dN r (sV r i)) (aF r i)⟩∧InP r.p (dN r (tV r i)) (dN r (sV r i)) (aF r i)
theorem aOW {r:Rp} (h:aGN r=true):Rv r:=by
 obtain ⟨hp,hD,hml,hM⟩:=aTP h;obtain ⟨hQ,hd1,hd2,_⟩:=aDq hD;obtain ⟨n,hn,hn1,hn5,hq1,hq2,hq3,hq4⟩:=aDp hQ;have hdl:r.dims.length=n:=by omega
 have hd: ∀ k,k<r.dims.length→r.dims[k]?.getD 0=(dN r k:Int)∧dN r k≤4:=by
  intro k hk;have:=hd2 _ (dV 0 hk);unfold dN;omega
 have hs: ∀ i,i<r.q.src.length→r.q.src[i]?.getD 0=(sV r i:Int)∧sV r i<r.dims.length:=by
  intro i hi;have:=hq3 _ (dV 0 hi);unfold sV;omega
 have ht: ∀ i,i<r.q.src.length→r.q.tgt[i]?.getD 0=(tV r i:Int)∧tV r i<r.dims.length:=by
  intro i hi;have:=hq4 _ (dV 0 (show i<r.q.tgt.length by omega));unfold tV;omega
 refine ⟨hp,by omega,hd,hq2,by omega,hml,hs,ht,λi hi=>?_⟩;obtain ⟨g1,g2,g3⟩:=hM i (by omega);rw [show (r.q.src[i]?.getD 0).toNat=sV r i from rfl,(hd _ (hs i hi).2).1] at g2;rw [show (r.q.tgt[i]?.getD 0).toNat=tV r i from rfl,(hd _ (ht i hi).2).1] at g3;obtain ⟨_,a,b,F,ha,hb,he,hF⟩:=aPi g1;have ea:a=dN r (tV r i):=by rw [he] at g3;simp only at g3;omega
 have eb:b=dN r (sV r i):=by rw [he] at g2;simp only at g2;omega
 have em: ∀ j k,j<a→k<b→aF r i j k=F j k:=by
  intro j k hj hk;unfold aF;rw [he,←eb];simp only;rw [oK F hj hk];rfl
 subst ea;subst eb;rw [he];refine ⟨?_,λj k hj hk=>by rw [em j k hj hk];exact hF j k hj hk⟩;rw [cW em]
theorem aVD {α:Type} {f:Nat→α} {n k:Nat} (h:k<n):dG ((List.range n).map f) (k:Int)=some (f k):=by rw [dY (by simp;exact h)];simp
theorem aLO {R N:Nat} (hN:R*N≤1048576) (h1:R≤1048576) (h2:N≤1048576) (M:Nat→Nat→Int):lM R ((List.range N).map λk=>oW R λi=>M i k)=some ⟨R,N,cX R N M⟩:=by
 unfold lM;rw [eE,List.length_range,aTM hN,aE];simp only;rw [eY (r:=cX R N M) (λk=>(cX R N (λi j=>if j<k then M i j else 0),(k:Int))) N (by simp) (λk hk=>?_) (λ_=>?_),aE]
 ·unfold mB;simp only;rw [eE,List.length_range,kV hk,aO,aVD hk,aE];rw [eY (r:=cX R N (λi j=>if j<k+1 then M i j else 0)) (λx=>(cX R N (λi j=>if j<k∨(j=k∧i<x) then M i j else 0),(x:Int))) R (by simp) (λx hx=>?_) (λ_=>?_),aE,cO hk (by omega)]
  ·unfold mA;simp only;rw [gI,kV hx,aO,aJS _ hx,aE,atT hN hx hk,aE,aRk hN hx hk,cO hx (by omega)];congr 3;refine cW λi j hi hj=>?_;simp only [aHJ];by_cases e:i=x∧j=k
   ·rw [bB e,bB (by omega),e.1,e.2]
   ·rw [bA e];by_cases e2:j<k∨j=k∧i<x
    ·rw [bB e2,bB (by omega)]
    ·rw [bA e2,bA (by omega)]
  ·unfold mA;simp only;rw [gI,nT (bK _),aS];congr 2;refine cW λi j hi hj=>?_;by_cases e:j<k+1
   ·rw [bB e,bB (by omega)]
   ·rw [bA e,bA (by omega)]
 ·unfold mB;simp only;rw [eE,List.length_range,nT (bK _),aS];congr 2;exact cW λi j hi hj=>by rw [bB hj]
end
noncomputable section
def aWM (n:Nat) (l:List (List Int)):Mt:=⟨n,(l.length:Int),cX n l.length λi k=>cV l k i⟩
theorem aRq {n:Nat} {l:List (List Int)} (h: ∀ v∈l,v.length=n):l=(List.range l.length).map λk=>oW n λi=>cV l k i:=aQs h
theorem aWN {n:Nat} {l:List (List Int)} (hn:n≤1024) (hl:l.length≤512) (h: ∀ v∈l,v.length=n):lM n l=some (aWM n l):=by
 have hN:n*l.length≤1048576:=by have:=Nat.mul_le_mul hn hl;omega
 have e:=aLO hN (by omega) (by omega) (λi k=>cV l k i);rw [←aRq h] at e;exact e
theorem aXK {α β:Type} {f:α→β} {l:List α} {k:Nat} (hk:k<l.length):(l.take k).map f++[f l[k]]=(l.take (k+1)).map f:=by rw [zB hk,List.map_append];rfl
theorem aTg {q:Qv} (h:bQ q):aAL q=some q:=by
 obtain ⟨h1,h2,_⟩:=h;unfold bI at h1 h2;unfold aAL;rw [bF (by simp;omega),aO,bF (by simp;omega),aO];simp
end
end Go.Proofs.YtghechfdejhapaaGreat

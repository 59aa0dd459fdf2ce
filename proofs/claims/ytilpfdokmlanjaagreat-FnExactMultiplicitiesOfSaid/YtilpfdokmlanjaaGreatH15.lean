/-
  Several texts of the claim in one.
-/
import Derived.Test.YtilpfdokmlanjaaGreatH14
set_option linter.unusedVariables false
set_option linter.unusedSimpArgs false
namespace Go.Proofs.YtilpfdokmlanjaaGreat
open Go.RowKit
noncomputable section
theorem aRn {m:Nat} (f g:Nat→Int):((List.range m).map λb=>f b+g b).sum=((List.range m).map f).sum +((List.range m).map g).sum:=by
 induction m with
 |zero=>rfl
 |succ m ih=>
  simp only [List.range_succ,List.map_append,List.sum_append,List.map_cons,List.map_nil,List.sum_cons,List.sum_nil];rw [ih];omega
theorem aJt (m:Nat) (f:Nat→Int) (h: ∀ b,b<m→f b=0):((List.range m).map f).sum=0:=by
 induction m with
 |zero=>rfl
 |succ m ih=>
  simp only [List.range_succ,List.map_append,List.sum_append,List.map_cons,List.map_nil,List.sum_cons,List.sum_nil];rw [ih λb hb=>h b (by omega),h m (by omega)];rfl
theorem aSx {m:Nat} (g:Nat→Int) {t:Nat} (ht:t<m):((List.range m).map λb=>if b=t then g b else 0).sum=g t:=by
 induction m with
 |zero=>omega
 |succ m ih=>
  simp only [List.range_succ,List.map_append,List.sum_append,List.map_cons,List.map_nil,List.sum_cons,List.sum_nil];by_cases e:t=m
  ·subst e;rw [aJt t _ λb hb=>aQ (by omega),aU rfl];omega
  ·rw [ih (by omega),aQ (by omega)];omega
def aDr (m:Nat) (w:List Int):List Int:=(List.range m).map λ(b:Nat)=>((w.count (b:Int):Nat):Int)
theorem aMn {m:Nat} (g:Nat→Int): ∀ (w:List Int),(∀ a∈w,0≤a∧a<m)→((List.range m).map λ(b:Nat)=>((w.count (b:Int):Nat):Int)*g b).sum=(w.map λa=>g a.toNat).sum
 | [],_=>aJt m _ λb _=>by simp
 |a::w,h=>by
  have ha:=h a (by simp);have ih:=aMn g w λb hb=>h b (by simp [hb]);rw [List.map_cons,List.sum_cons,←ih]
  have e:(λb:Nat=>(((a::w).count (b:Int):Nat):Int)*g b)=λb=>(if b=a.toNat then g b else 0)+((w.count (b:Int):Nat):Int)*g b:=by
   funext b;rw [List.count_cons];by_cases e:b=a.toNat
   ·have:(a==(b:Int))=true:=by rw [beq_iff_eq];omega
    rw [aU this,aU e,Int.natCast_add,Int.add_mul];simp only [Int.natCast_one,Int.one_mul];omega
   ·have: ¬ (a==(b:Int))=true:=by rw [beq_iff_eq];omega
    rw [aQ this,aQ e];simp
  rw [e,aRn,aSx g (by omega)]
theorem aMo {m:Nat} {w:List Int} {k:Nat} (hk:k<w.length) (h:0≤w[k]∧w[k]<m):cF (aDr m (w.take k)) w[k]=some (((w.take k).count w[k]:Nat):Int)∧(aDr m (w.take k)).set (w[k]).toNat ((((w.take k).count w[k]:Nat):Int)+1)=aDr m (w.take (k+1)):=by
 obtain ⟨t,ht⟩: ∃ t:Nat,w[k]=(t:Int):=⟨(w[k]).toNat,(Int.toNat_of_nonneg h.1).symm⟩;rw [ht] at h ⊢;refine ⟨wT (by omega),?_⟩;unfold aDr;rw [cS,aCW];refine mH λb hb=>?_;rw [aAh hk,List.count_append,ht,List.count_cons,List.count_nil];by_cases e:b=t
 ·subst e;simp
 ·rw [aQ e,aQ (by rw [beq_iff_eq];omega)];simp
def hV (q:Qv) (n:Nat) (R:List (List Int)) (a b:Nat):Int:=max (eul q n (xX R a) (xX R b)) 0
section
variable {q:Qv} {n:Nat} (H:Fin1 q n) (h2:cX q=some (bH q n,true))
include H
theorem aOn {a b:Nat} (ha:a<(bH q n).length) (hb:b<(bH q n).length):0≤hV q n (bH q n) a b∧hV q n (bH q n) a b≤200000:=by
 have h1:=H.vec ((kF H _).1 ((uM H).at ha).1);have h3:=H.vec ((kF H _).1 ((uM H).at hb).1);have:=aUJ H.Q (x:=xX (bH q n) a) (y:=xX (bH q n) b) h1.1.sm h3.1.sm;unfold hV;omega
include h2
theorem aJu {x:List Int} (hx:RtQ q n x):nC q x=some true∧jC q x=some true:=by
 have hs:jC q x=some true:=by
  unfold jC;rw [h2,aB];simp only
  have hL: ∀ r∈bH q n,bI r:=λr hr=>by
   have:=(H.vec ((kF H r).1 hr)).1.1;unfold bI;omega
  rw [aH,aIO hL (by have:=rH H;omega),aB,bF ((kF H x).2 hx)]
 obtain ⟨b,g1,g2,_⟩:=aMg H.Q.bq x;rw [hs] at g2;cases g2;exact ⟨g1,hs⟩
theorem aIS {a b:Nat} (ha:a<(bH q n).length) (hb:b<(bH q n).length):vF q (xX (bH q n) a) (xX (bH q n) b)=some (hV q n (bH q n) a b)∧vD q (xX (bH q n) a) (xX (bH q n) b)=some (hV q n (bH q n) a b):=by
 have r1:=(kF H _).1 ((uM H).at ha).1;have r2:=(kF H _).1 ((uM H).at hb).1;have v1:=H.vec r1;have v2:=H.vec r2;obtain ⟨i1,s1⟩:=aJu H h2 r1;obtain ⟨i2,s2⟩:=aJu H h2 r2;unfold vF vD hV;rw [i1,i2,s1,s2];simp only [aB,gG,aX];rw [aJk H.Q v1.2 v2.2 v1.1.sm v2.1.sm,aJl H.Q v1.2 v2.2 v1.1.sm v2.1.sm];exact ⟨rfl,by rw [aB,Int.max_comm]⟩
end
theorem aIT (m:Nat) (f:Nat→Int) (h: ∀ b,b<m→f b=0):List.replicate m (0:Int)=(List.range m).map f:=by
 refine List.ext_getElem (by simp) λt h1 h2=>?_;rw [List.getElem_replicate,List.getElem_map,List.getElem_range,h t (by simpa using h1)]
def zK (q:Qv) (n:Nat) (R:List (List Int)) (w:List Int) (j:Nat):Int:=(w.map λa=>hV q n R j a.toNat).sum
section
variable {q:Qv} {n:Nat} (H:Fin1 q n) (h2:cX q=some (bH q n,true)) {r:Rp} (hq:r.q=q) {L:List Rp} (hL:L.length=(bH q n).length) (hd: ∀ (i:Nat) (h:i<L.length),L[i].dims=xX (bH q n) i)
include H in
theorem aRo {w:List Int} (hw: ∀ a∈w,0≤a∧a<((bH q n).length:Nat)) {j:Nat} (hj:j<(bH q n).length):0≤zK q n (bH q n) w j∧zK q n (bH q n) w j≤200000*w.length:=by
 unfold zK;induction w with
 |nil=>simp
 |cons a w ih=>
  have h1:=ih λb hb=>hw b (by simp [hb]);have h3:=hw a (by simp);have h4:=aOn H hj (b:=a.toNat) (by omega);rw [List.map_cons,List.sum_cons,List.length_cons];omega
include H h2 hq hL hd
theorem aVL {F:Nat→Int} {t:Nat} (ht:t<(bH q n).length) (hF: ∀ j,j<(bH q n).length→0≤F j∧F j≤1000000000000) (b:Bool):
  Lp (dX r (L,b) (t:Int)) ((List.range (bH q n).length).map F,0)=some ((List.range (bH q n).length).map λj=>F j+hV q n (bH q n) j t):=by
 have hl:=rH H;refine dK (λj=>((List.range (bH q n).length).map (λi=>if i<j then F i+hV q n (bH q n) i t else F i),(j:Int))) (bH q n).length (by simp) (λj hj=>?_) (λ_=>?_)
 ·have hjL:j<L.length:=by omega
  have fW:t<L.length:=by omega
  have hv:=aOn H hj ht;have hf:=hF j hj;unfold dX;simp only;rw [iH hjL,aH,dG hjL,aB,wT hj,aB,dG fW,aB,hd j hjL,hd t fW,hq,(aIS H h2 hj ht).1,aB,aB,aQ (Nat.lt_irrefl j),cJ (by omega),bS hj (by omega),cS,aCW];congr 3;refine mH λi hi=>?_;by_cases e:i=j
  ·subst e;rw [aU rfl,aU (by omega)]
  ·rw [aQ e];by_cases e2:i<j
   ·rw [aU e2,aU (by omega)]
   ·rw [aQ e2,aQ (by omega)]
 ·unfold dX;simp only;rw [hL,jO (bK _),aX];congr 2;exact mH λi hi=>by rw [aU (List.mem_range.1 hi)]
theorem aVM {w:List Int} (hl:w.length≤1000) (hw: ∀ a∈w,0≤a∧a<((bH q n).length:Nat)) (b:Bool):
  Lp (fP r (L,b) w) (List.replicate (bH q n).length 0,List.replicate (bH q n).length 0,0)=some (aDr (bH q n).length w,(List.range (bH q n).length).map (zK q n (bH q n) w)):=by
 refine dK (λk=>(aDr (bH q n).length (w.take k),(List.range (bH q n).length).map (zK q n (bH q n) (w.take k)),(k:Int))) w.length ?_ (λk hk=>?_) (λ_=>?_)
 ·rw [List.take_zero];refine Prod.ext (aIT _ _ λb hb=>?_) (Prod.ext (aIT _ _ λb hb=>?_) rfl)
  ·simp
  ·rfl
 ·have hwk:=hw _ (List.getElem_mem hk);obtain ⟨c1,c2⟩:=aMo hk hwk;have hc:(w.take k).count w[k]≤1000:=Nat.le_trans List.count_le_length (by rw [List.length_take];omega);obtain ⟨t,ht⟩: ∃ t:Nat,w[k]=(t:Int):=⟨(w[k]).toNat,(Int.toNat_of_nonneg hwk.1).symm⟩;have htl:t<(bH q n).length:=by omega
  unfold fP;simp only;rw [iH hk,aH,dG hk,aB,c1,aB,aB]
  rw [show dX r (L,b) w[k]=dX r (L,b) (t:Int) by rw [ht],aVL H h2 hq hL hd htl (λj hj=>by
   have:=aRo H (w:=w.take k) (λa ha=>hw a (List.mem_of_mem_take ha)) hj;rw [List.length_take] at this
   omega) b,aB,cJ (by omega),c2,bS hk (by omega)]
  congr 4;refine mH λj hj=>?_;unfold zK;rw [aAh hk,List.map_append,List.sum_append,ht];simp
 ·unfold fP;simp only;rw [jO (bK _),aX,List.take_length]
omit hq hL hd h2 H in
theorem aVN {m:Nat} {W:List (List Int)} {w:List Int} {i:Nat} (hi:cF W (i:Int)=some w) (hl:w.length≤1000) (hw: ∀ a∈w,0≤a∧a<(m:Nat)) (b:Bool):Lp (fT (W,b) (i:Int)) (List.replicate m 0,0)=some (aDr m w):=by
 refine dK (λk=>(aDr m (w.take k),(k:Int))) w.length ?_ (λk hk=>?_) (λ_=>?_)
 ·rw [List.take_zero];exact Prod.ext (aIT _ _ λb hb=>by simp) rfl
 ·obtain ⟨c1,c2⟩:=aMo hk (hw _ (List.getElem_mem hk));have hc:(w.take k).count w[k]≤1000:=Nat.le_trans List.count_le_length (by rw [List.length_take];omega);unfold fT;simp only [hi,aB];rw [iH hk,aH];simp only [dG hk,aB,c1];rw [cJ (by omega),c2,bS hk (by omega)]
 ·unfold fT;simp only [hi,aB];rw [jO (bK _),aX,List.take_length]
omit hq hL hd h2 in
theorem aOo {w:List Int} (hl:w.length≤1000) {a:Nat} (ha:a<(bH q n).length): ∀ k,k≤(bH q n).length→0≤((List.range k).map λ(b:Nat)=>((w.count (b:Int):Nat):Int)*hV q n (bH q n) a b).sum∧((List.range k).map λ(b:Nat)=>((w.count (b:Int):Nat):Int)*hV q n (bH q n) a b).sum ≤200000000*k
 |0,_=>by simp
 |k+1,hk=>by
  have ih:=aOo hl ha k (by omega);have hc:w.count (k:Int)≤1000:=Nat.le_trans List.count_le_length hl;have hv:=aOn H ha (b:=k) (by omega);have m1:0≤((w.count (k:Int):Nat):Int)*hV q n (bH q n) a k:=Int.mul_nonneg (by omega) hv.1;have m2:((w.count (k:Int):Nat):Int)*hV q n (bH q n) a k≤1000*200000:=Int.mul_le_mul (by omega) hv.2 hv.1 (by omega);simp only [List.range_succ,List.map_append,List.sum_append,List.map_cons,List.map_nil,List.sum_cons,List.sum_nil];omega
omit hd in
theorem aVO {w:List Int} (hl:w.length≤1000) (hw: ∀ a∈w,0≤a∧a<((bH q n).length:Nat)) {a:Nat} (ha:a<(bH q n).length) (b1 b2 g:Bool):
  Lp (fU r (L,b1) (bH q n,b2) (g,(a:Int)) (aDr (bH q n).length w)) (0,0)=some (zK q n (bH q n) w a):=by
 have hl20:=rH H;refine dK (λk=>(((List.range k).map λ(b:Nat)=>((w.count (b:Int):Nat):Int)*hV q n (bH q n) a b).sum,(k:Int))) (bH q n).length rfl (λk hk=>?_) (λ_=>?_)
 ·have hkL:k<L.length:=by omega
  have hc:w.count (k:Int)≤1000:=Nat.le_trans List.count_le_length hl;have hv:=aOn H ha hk;have m1:0≤((w.count (k:Int):Nat):Int)*hV q n (bH q n) a k:=Int.mul_nonneg (by omega) hv.1;have m2:((w.count (k:Int):Nat):Int)*hV q n (bH q n) a k≤1000*200000:=Int.mul_le_mul (by omega) hv.2 hv.1 (by omega);have hs:=aOo H hl ha k (by omega);have hcnt:cF (aDr (bH q n).length w) (k:Int)=some ((w.count (k:Int):Nat):Int):=wT hk;unfold fU;simp only;rw [iH hkL,aH,hcnt,aB,((uM H).at ha).2,aB,((uM H).at hk).2,aB,hq,(aIS H h2 ha hk).2,aB,cJ (x:=((w.count (k:Int):Nat):Int)*hV q n (bH q n) a k) (by omega),cJ (by omega),bS hk (by omega)];simp only [List.range_succ,List.map_append,List.sum_append,List.map_cons,List.map_nil,List.sum_cons,List.sum_nil,Int.add_zero]
 ·unfold fU;simp only;rw [hL,jO (bK _),aX,aMn (λb=>hV q n (bH q n) a b) w hw];rfl
omit hq hL hd h2 H in
theorem aMp {m:Nat} {F:Nat→Int} {row:List Int} (h:row.length=m):((List.range' 0 m).all λa=>decide (F a=gx row a))=decide ((List.range m).map F=row):=by
 rw [←List.range_eq_range',Bool.eq_iff_iff,List.all_eq_true,gJ];constructor
 ·intro hh;refine List.ext_getElem (by simp [h]) λt h1 h2=>?_;have:=hh t (List.mem_range.2 (by omega));rw [gJ,zJ row h2] at this;simpa using this
 ·intro hh a ha;have ha:=List.mem_range.1 ha;rw [gJ,←hh,zJ _ (by simpa using ha)];simp
omit hd in
theorem aVP {w:List Int} (hl:w.length≤1000) (hw: ∀ a∈w,0≤a∧a<((bH q n).length:Nat)) {row:List Int} (hrow:row.length=(bH q n).length) (b1 b2:Bool):
  Lp (dJ r (L,b1) (bH q n,b2) row (aDr (bH q n).length w)) (true,0)=some (decide ((List.range (bH q n).length).map (zK q n (bH q n) w)=row)):=by
 have hl20:=rH H;rw [←aMp hrow]
 have key: ∀ (d i:Nat),i+d=(bH q n).length→Lp (dJ r (L,b1) (bH q n,b2) row (aDr (bH q n).length w)) (true,(i:Int))=some ((List.range' i d).all λa=>decide (zK q n (bH q n) w a=gx row a)):=by
  intro d;induction d with
  |zero=>
   intro i hi;refine dH ?_;unfold dJ;simp only;rw [jO (by omega),aX];rfl
  |succ d ih=>
   intro i hi;have hil:i<(bH q n).length:=by omega
   have hb:dJ r (L,b1) (bH q n,b2) row (aDr (bH q n).length w) (true,(i:Int))=some (.inl (decide (zK q n (bH q n) w i=gx row i),((i+1:Nat):Int))):=by
    unfold dJ;simp only;rw [iH (by omega),aH,aH,aVO H h2 hq hL hl hw hil _ _ _,aB,vO (by omega),aB,bS hil (by omega)]
   rw [iV hb,List.range'_succ,List.all_cons];cases decide (zK q n (bH q n) w i=gx row i) with
   |true=>rw [ih (i+1) (by omega),Bool.true_and]
   |false=>
    refine dH ?_;unfold dJ;simp only;by_cases e:i+1<L.length
    ·rw [iH e,aH,aX];rfl
    ·rw [jO (by omega),aX];rfl
 exact key (bH q n).length 0 (Nat.zero_add _)
end
end
noncomputable section
theorem aRp {r:Rp} (hr:bR r): ∃ w b,gR r=some (w,b)∧jZ r=some (w,b)∧w.length≤20:=by
 unfold gR jZ;rw [aFM hr,aFL hr];simp only [aB];cases hv:xP r with
 |false=>exact ⟨[],false,rfl,rfl,by simp⟩
 |true=>
  obtain ⟨_,hD,_,_⟩:=aEV hv;have hn:=(rD hD).2.1;simp only [gG,aX];rw [←hn];by_cases h4:4<r.dims.length
  ·rw [bF (by omega)];exact ⟨[],false,rfl,rfl,by simp⟩
  ·rw [dF (by omega)];obtain ⟨L,b,i1,i2,i3,i4,i5⟩:=aSw r.p hr.1;obtain ⟨W,c,d1,d2,d3⟩:=aPv hr.1 (x:=r.dims) hr.2.1;obtain ⟨R,e,p1,p2,p3⟩:=aOk hr.1;rw [i1,i2,d1,d2,p2];simp only [aB,aX];cases b with
   |false=>exact ⟨[],false,rfl,rfl,by simp⟩
   |true=>
    rcases d3 with ⟨rfl,rfl⟩|⟨rfl,n,H,q1,q2,hW⟩
    ·exact ⟨[],false,rfl,rfl,by simp⟩
    ·obtain ⟨R',g1,g2,g3⟩:=i5 rfl;rw [q1] at g1 p1;simp only [Option.some.injEq,Prod.mk.injEq] at g1 p1;obtain ⟨rfl,_⟩:=g1;obtain ⟨rfl,rfl⟩:=p1;have hWl:W.length≤500:=by rw [hW,List.length_take];omega
     have hl20:=rH H;have hd: ∀ (i:Nat) (h:i<L.length),L[i].dims=xX (bH r.q n) i:=λi h=>by unfold xX;rw [g3 i h];rfl
     have hw: ∀ w∈W,w.length≤1000∧ ∀ a∈w,0≤a∧a<((bH r.q n).length:Nat):=λw hm=>by
      rw [hW] at hm;obtain ⟨k1,k2⟩:=aLA (uM H) 40 0 r.dims w (List.mem_of_mem_take hm);exact ⟨by omega,k2⟩
     simp only [gG,aX];by_cases h5:W.length=500
     ·rw [bF (by omega),bF (by omega)];exact ⟨[],false,rfl,rfl,by simp⟩
     ·rw [dF (by omega),dF (by omega),aPp hr ⟨by omega,i4⟩,aPo hr ⟨by omega,i4⟩];simp only [aB,aX];have hrow:(aDN r L).length=(bH r.q n).length:=by unfold aDN;rw [aU i3,dY,g2]
      obtain ⟨f,hf⟩: ∃ f:Nat→Option (List Int×Bool),f=λk=>bif decide ((List.range (bH r.q n).length).map (zK r.q n (bH r.q n) (xX W k))=aDN r L) then some (aDr (bH r.q n).length (xX W k),true) else none:=⟨_,rfl⟩
      have hlr: ∀ {k:Nat} (hk:k<W.length),xX W k=W[k]:=λhk=>by unfold xX;rw [gN hk];rfl
      have hg:(decide ((0:Int)≤((L.length:Nat):Int))&&decide (((L.length:Nat):Int)≤1048576))=true:=by rw [bF (by omega),bF (by omega)];rfl
      have e1:Lp (fS r (L,true) (W,true) (aDN r L)) 0=some (((List.range' 0 (W.length - 0)).findSome? f).elim (.inl ()) .inr):=by
       rw [aAp (s0:=0) (s:=0) (n:=W.length) f rfl (by omega) (Nat.zero_le _) (λk _ hk=>?_) (λ_=>?_)]
       ·cases (List.range' 0 (W.length - 0)).findSome? f <;> rfl
       ·obtain ⟨k1,k2⟩:=hw _ (List.getElem_mem hk);unfold fS;simp only;rw [iH hk,aH,dG hk,aB,hg,aH,aH,cS,g2,aVM H q2 rfl g2 hd k1 k2 true,aB];simp only;rw [aCz (by show _≤1048576;simp;omega),aB,hf];simp only;rw [hlr hk];cases decide ((List.range (bH r.q n).length).map (zK r.q n (bH r.q n) W[k])=aDN r L) <;> rfl
       ·unfold fS;simp only;rw [jO (bK _),aX]
      have e2:Lp (fV r (L,true) (bH r.q n,true) (W,true) (aDN r L)) 0=some (((List.range' 0 (W.length - 0)).findSome? f).elim (.inl ()) .inr):=by
       rw [aAp (s0:=0) (s:=0) (n:=W.length) f rfl (by omega) (Nat.zero_le _) (λk _ hk=>?_) (λ_=>?_)]
       ·cases (List.range' 0 (W.length - 0)).findSome? f <;> rfl
       ·obtain ⟨k1,k2⟩:=hw _ (List.getElem_mem hk);unfold fV;simp only;rw [iH hk,aH,hg,aH,cS,g2,aVN (dG hk) k1 k2 true,aB,aVP H q2 rfl g2 k1 k2 hrow true true,aB,hf];simp only;rw [hlr hk];cases decide ((List.range (bH r.q n).length).map (zK r.q n (bH r.q n) W[k])=aDN r L) <;> rfl
       ·unfold fV;simp only;rw [jO (bK _),aX]
      rw [e1,e2];simp only [aB];cases hfs:(List.range' 0 (W.length - 0)).findSome? f with
      |none=>exact ⟨[],false,rfl,rfl,by simp⟩
      |some v=>
       obtain ⟨w,g⟩:=v;refine ⟨w,g,rfl,rfl,?_⟩;obtain ⟨k,hk,he⟩:=List.exists_of_findSome?_eq_some hfs;rw [hf] at he;simp only at he;cases hx:decide ((List.range (bH r.q n).length).map (zK r.q n (bH r.q n) (xX W k))=aDN r L) with
       |false=>rw [hx] at he;cases he
       |true=>
        rw [hx] at he;cases he;unfold aDr;simp;omega
end
noncomputable section
theorem aBr {r:Rp} (fr:fR r):iU r=some true:=by
 unfold iU;rw [aVg fr (by decide) (by decide),aB];rcases aSO r 1048576 (by decide) (by decide) with e|⟨e1,e2,hr⟩
 ·rw [e];rfl
 ·rw [dF (by omega),aX];obtain ⟨w,b,h1,h2,h3⟩:=aRp hr;have hw:bI w:=by show w.length≤1048576;omega
  have hn:=aVG hr;have hl:=hr.2.2.1.1;have hnw:nI w≤20:=by rw [aCd];exact h3
  obtain ⟨g1,g2,g3,g4⟩:=aSv 1 r;simp only [aVj hr,aB,h1,h2,aQi hw,aVm hr,decide_true,beq_self_eq_true,gG,aX];rw [aVx (by omega) (by omega) (by omega),aB];simp only [g1,g2,g3,g4,decide_true,aH];rw [dF (by omega),aX,aRh (by decide) (by omega),aB];simp only [wW,decide_true,aH];rw [aVv (by decide) (by omega),aB,aB];simp only [aVu (show (0:Int)≤1 by decide),decide_true,gG,aX]
end
end Go.Proofs.YtilpfdokmlanjaaGreat

/-
  Several texts of the claim in one.
-/
import Derived.Test.YtpppcfhgaehcjaaH12
set_option linter.unusedVariables false
set_option linter.unusedSimpArgs false
namespace Go.Proofs.Ytpppcfhgaehcjaa
open Go.RowKit
noncomputable section
def pI (n:Nat) (x r:List Int):List Int:=iN n λv=>gx x v - gx r v
def jH (L:List (List Int)) (i:Nat):List Int:=L[i]?.getD []
def dec (L:List (List Int)) (n:Nat):Nat→Nat→List Int→List (List Int)
 |0,_,_=>[]
 |f+1,j,x=>if x.sum=0 then [[]] else (List.range' j (L.length - j)).flatMap λi=>if nnB (pI n x (jH L i)) then (dec L n f i (pI n x (jH L i))).map ((i:Int):: ·) else []
structure LOk (L:List (List Int)) (n:Nat):Prop where
 len:L.length≤1000
 row: ∀ r∈L,r.length=n∧(∀ a∈r,0≤a∧a≤1000)∧1≤r.sum
structure XOk (x:List Int) (n:Nat):Prop where
 len:x.length=n
 n1:1≤n
 n5:n≤5
 nn: ∀ a∈x,0≤a∧a≤4
theorem LOk.at {L:List (List Int)} {n:Nat} (h:LOk L n) {i:Nat} (hi:i<L.length):jH L i∈L∧cS L (i:Int)=some (jH L i):=by
 refine ⟨?_,atG [] hi⟩;unfold jH;rw [kM hi];exact List.getElem_mem hi
theorem wW {n:Nat} {x r:List Int} :(pI n x r).length=n:=fB _ _
theorem aIp {x:List Int} {n:Nat} (h:XOk x n) {v:Nat} (hv:v<n):0≤gx x v∧gx x v≤4:=h.nn _ (iX (by rw [h.len];exact hv))
theorem LOk.gx {L:List (List Int)} {n:Nat} (h:LOk L n) {r:List Int} (hr:r∈L) {v:Nat} (hv:v<n):0≤gx r v∧gx r v≤1000:=(h.row r hr).2.1 _ (iX (by rw [(h.row r hr).1];exact hv))
theorem aGV {L:List (List Int)} {n:Nat} (hL:LOk L n) {x r:List Int} (hx:XOk x n) (hr:r∈L) (hn:nnB (pI n x r)=true):XOk (pI n x r) n:=by
 refine ⟨wW,hx.n1,hx.n5,λa ha=>⟨aIo hn a ha,?_⟩⟩;obtain ⟨v,hv,rfl⟩:=List.mem_map.1 ha;have hv:=List.mem_range.1 hv;have:=aIp hx hv;have:=hL.gx hr hv;omega
theorem aEo {L:List (List Int)} {n:Nat} (hL:LOk L n) {x r:List Int} (hx:XOk x n) (hr:r∈L):(pI n x r).sum +1≤x.sum:=by
 have h1:=(hL.row r hr).2.2;rw [mT,(hL.row r hr).1] at h1;rw [mT,mT,wW,hx.len]
 have e:cJ n (Go.Proofs.Ytpppcfhgaehcjaa.gx (pI n x r))=cJ n (Go.Proofs.Ytpppcfhgaehcjaa.gx x) - cJ n (Go.Proofs.Ytpppcfhgaehcjaa.gx r):=by
  have h3:cJ n (Go.Proofs.Ytpppcfhgaehcjaa.gx (pI n x r))=cJ n λv=>Go.Proofs.Ytpppcfhgaehcjaa.gx x v+(-1)*Go.Proofs.Ytpppcfhgaehcjaa.gx r v:=cD λv hv=>by
   unfold pI;rw [wR hv];omega
  rw [h3,iL,gG];omega
 omega
theorem aLd {x:List Int} (hx:x.length≤1000):Lp (gT x) (true,0)=some (x.all λa=>decide (a=0)):=by
 refine iH (λk=>((x.take k).all λa=>decide (a=0),(k:Int))) x.length (by simp) (λk hk=>?_) (λ_=>?_)
 ·unfold gT;simp only;rw [nH hk,aE,List.take_add_one,kM hk,List.all_append];simp only [Option.toList_some,List.all_cons,List.all_nil,Bool.and_true];cases (x.take k).all λa=>decide (a=0) with
  |false=>rw [aO,cH hk (by omega)];rfl
  |true=>rw [aE,eT hk,aB,cH hk (by omega)];rfl
 ·unfold gT;simp only;rw [nT (bJ _),aO,List.take_length]
theorem aIq {x:List Int} (h: ∀ a∈x,0≤a):(x.all λa=>decide (a=0))=decide (x.sum=0):=by
 induction x with
 |nil=>rfl
 |cons a x ih=>
  have h1:=h a (by simp);have h2:=xS (x:=x) λb hb=>h b (by simp [hb]);rw [List.all_cons,ih λb hb=>h b (by simp [hb]),List.sum_cons,Bool.eq_iff_iff];simp only [bY,iE];omega
theorem aLe {L:List (List Int)} {n:Nat} (hL:LOk L n) {x:List Int} (hx:XOk x n) {i:Nat} (hi:i<L.length) (out:List (List Int)):
  Lp (gU L x ((i:Int),out)) (([]:List Int),true,0)=some (pI n x (jH L i),nnB (pI n x (jH L i))):=by
 obtain ⟨hr,ha⟩:=hL.at hi;have hrl:=(hL.row _ hr).1;have n5:=hx.n5;refine iH (λk=>(iN k λv=>gx x v - gx (jH L i) v,nnB (iN k λv=>gx x v - gx (jH L i) v),(k:Int))) n rfl (λk hk=>?_) (λ_=>?_)
 ·unfold gU;simp only;have h1:=aIp hx hk;have h2:=hL.gx hr hk
  have e:iN (k+1) (λv=>gx x v - gx (jH L i) v)=(iN k λv=>gx x v - gx (jH L i) v)++[gx x k - gx (jH L i) k]:=by
   unfold iN;rw [List.range_succ,List.map_append];rfl
  rw [hx.len,nH hk,aE,mD (by rw [hx.len];exact hk),aB,ha,aB,mD (by rw [hrl];exact hk),aB,bC (by rw [fB];simp;omega),aE,dY (by omega),e];generalize hA:(iN k λv=>gx x v - gx (jH L i) v)=A;have hAl:A.length=k:=by rw [←hA,fB]
  have e2:nnB (A++[gx x k - gx (jH L i) k])=(nnB A&&decide (0≤gx x k - gx (jH L i) k)):=by
   unfold nnB;rw [List.all_append];simp
  rw [e2];cases nnB A with
  |false=>rw [aO,cH hk (by omega)];rfl
  |true=>
   have hat:cS (A++[gx x k - gx (jH L i) k]) (k:Int)=some (gx x k - gx (jH L i) k):=by
    rw [eT (by simp;omega)];congr 1;rw [List.getElem_append_right (by omega)];simp [hAl]
   rw [aE,hat,aB,cH hk (by omega)];rfl
 ·unfold gU;simp only;rw [hx.len,nT (bJ _),aO];rfl
theorem aKD {rest:List (List Int)} {i:Nat} {o2:List (List Int)} (hr:rest.length≤500) (hb: ∀ w∈rest,w.length≤1000): ∀ (d k:Nat) {out:List (List Int)},k+d=rest.length→out.length≤500→
  Lp (eF rest ((i:Int),o2)) (out,(k:Int))=some (out++((rest.drop k).map ((i:Int):: ·)).take (500 - out.length))
 |0,k,out,hk,ho=>by
  rw [List.drop_of_length_le (by omega)];refine (cW (r:=out) ?_).trans (by simp);unfold eF;simp only;rw [nT (by omega),aO]
 |d+1,k,out,hk,ho=>by
  have hkl:k<rest.length:=by omega
  by_cases h5:out.length<500
  ·have hw:=hb _ (List.getElem_mem hkl)
   have hbd:eF rest ((i:Int),o2) (out,(k:Int))=some (.inl (out++[(i:Int)::rest[k]],((k+1:Nat):Int))):=by
    unfold eF;simp only;rw [nH hkl,aE,bC (by omega),aE,eT hkl,aB,bC (by simp;omega),aE,bC (by omega),aE,cH hkl (by omega)];rfl
   rw [hJ hbd,aKD hr hb d (k+1) (by omega) (by simp;omega),List.drop_eq_getElem_cons hkl,List.map_cons,List.append_assoc];rw [show 500 - out.length=(500 - (out++[(i:Int)::rest[k]]).length)+1 by simp;omega,List.take_succ_cons];rfl
  ·refine (cW (r:=out) ?_).trans (by rw [show 500 - out.length=0 by omega,List.take_zero,List.append_nil]);unfold eF;simp only;rw [nH hkl,aE,dC (by omega),aO]
theorem aIr {α β:Type} (A:List β) (B:List α) (c:α→β) (N:Nat) (h:A.length≤N):A++((B.take N).map c).take (N - A.length)=(A++B.map c).take N:=by
 rw [List.take_append,List.take_of_length_le h,←List.map_take,←List.map_take,List.take_take,Nat.min_eq_left (by omega)]
theorem aDW {L:List (List Int)} {n:Nat} (hL:LOk L n): ∀ (f j:Nat) (x:List Int),∀ w∈dec L n f j x,w.length≤f∧ ∀ a∈w,0≤a∧a<L.length
 |0,_,_,w,h=>by cases h
 |f+1,j,x,w,h=>by
  simp only [dec] at h;split at h
  ·rcases List.mem_singleton.1 h with rfl;exact ⟨by simp,λa ha=>by cases ha⟩
  ·obtain ⟨i,hi,h⟩:=List.mem_flatMap.1 h;have hi:=List.mem_range'_1.1 hi;split at h
   ·obtain ⟨w',hw,rfl⟩:=List.mem_map.1 h;obtain ⟨h1,h2⟩:=aDW hL f i _ w' hw;refine ⟨by simp;omega,λa ha=>?_⟩;rcases cF.1 ha with rfl|ha
    ·omega
    ·exact h2 a ha
   ·cases h
theorem aIs {L:List (List Int)} {n:Nat} (hL:LOk L n): ∀ (f j:Nat) {x:List Int},XOk x n→x.sum<f→f≤100→eG f L x (j:Int)=some ((dec L n f j x).take 500)
 |0,j,x,hx,hs,_=>by have:=xS λa ha=>(hx.nn a ha).1;omega
 |f+1,j,x,hx,hs,hf=>by
  have hl:=hL.len;show kL (eG f) L x j=_;unfold kL;rw [aLd (by rw [hx.len];have:=hx.n5;omega),aB,aIq λa ha=>(hx.nn a ha).1];by_cases h0:x.sum=0
  ·rw [bC h0,aE];simp only [dec,aY h0];rfl
  ·rw [dC h0,aO];simp only [dec,aU h0];obtain ⟨g,hg⟩: ∃ g:Nat→List (List Int),g=λi=>if nnB (pI n x (jH L i)) then (dec L n f i (pI n x (jH L i))).map ((i:Int):: ·) else []:=⟨_,rfl⟩
   have key: ∀ (d i:Nat) (acc:List (List Int)),i+d=L.length→Lp (dB (eG f) L x) ((i:Int),acc.take 500)=some ((acc++(List.range' i d).flatMap g).take 500):=by
    intro d;induction d with
    |zero=>
     intro i acc hi;refine (cW (r:=acc.take 500) ?_).trans (by simp);unfold dB;simp only;rw [nT (by omega),aO]
    |succ d ih=>
     intro i acc hi;have hil:i<L.length:=by omega
     by_cases h5:acc.length<500
     ·have ht:acc.take 500=acc:=List.take_of_length_le (by omega)
      have hb:dB (eG f) L x ((i:Int),acc.take 500)=some (.inl (((i+1:Nat):Int),(acc++g i).take 500)):=by
       rw [ht];unfold dB;simp only;rw [nH hil,aE,bC (by omega),aE,aLe hL hx hil,aB];simp only;rw [hg];simp only;obtain ⟨hr,_⟩:=hL.at hil;cases hn:nnB (pI n x (jH L i)) with
       |false=>rw [Bool.not_false,aE,cH hil (by omega),aU (by simp),List.append_nil,ht]
       |true=>
        have hs2:=aEo hL hx hr;rw [jB,aO,aIs hL f i (aGV hL hx hr hn) (by omega) (by omega),aB,aY rfl];have:=aKD (rest:=(dec L n f i (pI n x (jH L i))).take 500) (i:=i) (o2:=acc) (by rw [List.length_take];omega) (λw hw=>by have:=(aDW hL f i _ w (List.mem_of_mem_take hw)).1;omega) _ 0 (out:=acc) (Nat.zero_add _) (by omega);rw [show ((0:Nat):Int)=0 from rfl,List.drop_zero] at this;rw [this,aB,cH hil (by omega),aIr _ _ _ _ (by omega)]
      rw [hJ hb,ih (i+1) _ (by omega),List.range'_succ,List.flatMap_cons,List.append_assoc]
     ·refine (cW (r:=acc.take 500) ?_).trans (by rw [List.take_append_of_le_length (by omega)]);unfold dB;simp only;rw [nH hil,aE,dC (by rw [List.length_take];omega),aO]
   by_cases hj:j≤L.length
   ·have:=key (L.length - j) j [] (by omega);rw [List.take_nil] at this;rw [this,aB,hg];rfl
   ·have hs:Lp (dB (eG f) L x) ((j:Int),[])=some []:=by
     refine cW ?_;unfold dB;simp only;rw [nT (by omega),aO]
    rw [hs,aB,show L.length - j=0 by omega];rfl
theorem aLf {L:List (List Int)} {n:Nat} (hL:LOk L n) {x:List Int} (hx:XOk x n) {i:Nat} (hi:i<L.length):Lp (fR (jH L i)) (x,0)=some (pI n x (jH L i)):=by
 obtain ⟨hr,_⟩:=hL.at hi;have hrl:=(hL.row _ hr).1;have n5:=hx.n5;refine iH (λk=>(iN n λv=>if v<k then gx x v - gx (jH L i) v else gx x v,(k:Int))) n ?_ (λk hk=>?_) (λ_=>?_)
 ·have:x=iN n λv=>if v<0 then gx x v - gx (jH L i) v else gx x v:=by
   refine List.ext_getElem (by rw [fB,hx.len]) λv h1 h2=>?_;have hv:v<n:=by rw [←hx.len];exact h1
   have e1:=wR (f:=λv=>if v<0 then gx x v - gx (jH L i) v else gx x v) hv;rw [kG _ h2] at e1;rw [e1,aU (Nat.not_lt_zero v),kG x h1]
  exact congrArg (·,(0:Int)) this
 ·unfold fR;simp only;have h1:=aIp hx hk;have h2:=hL.gx hr hk;rw [hrl,nH hk,aE,mD (by rw [hrl];exact hk),aB,mD (by rw [fB];exact hk),aB,aB,wR hk,aU (Nat.lt_irrefl k),dY (by omega),dZ,cH hk (by omega)];congr 3;refine List.ext_getElem (by rw [List.length_set,fB,fB]) λv g1 g2=>?_;have hv:v<n:=by rw [fB] at g2;exact g2
  have e1:=wR (f:=λv=>if v<k+1 then gx x v - gx (jH L i) v else gx x v) hv;rw [kG _ g2] at e1;rw [e1,List.getElem_set];have g3:v<(iN n λv=>if v<k then gx x v - gx (jH L i) v else gx x v).length:=by rw [fB];exact hv
  have e2:=wR (f:=λv=>if v<k then gx x v - gx (jH L i) v else gx x v) hv;rw [kG _ g3] at e2;by_cases hkv:k=v
  ·subst hkv;rw [aY rfl,aY (by omega)]
  ·rw [aU hkv,e2];by_cases hvk:v<k
   ·rw [aY hvk,aY (by omega)]
   ·rw [aU hvk,aU (by omega)]
 ·unfold fR;simp only;rw [hrl,nT (bJ _),aO];congr 2;exact sB λv hv=>by rw [aY (List.mem_range.1 hv)]
theorem aHO {β:Type} (A:List β) (X Y:List β) (N:Nat):(A++X.take (N - A.length))++Y.take (N - (A++X.take (N - A.length)).length)=A++(X++Y).take (N - A.length):=by
 rw [List.append_assoc,List.take_append];congr 2;rw [List.length_append,List.length_take];by_cases h:X.length≤N - A.length
 ·rw [Nat.min_eq_right h,Nat.sub_sub]
 ·rw [Nat.min_eq_left (by omega),show N - (A.length+(N - A.length))=0 by omega,show N - A.length - X.length=0 by omega]
theorem aEp {L:List (List Int)} {n:Nat} (hL:LOk L n): ∀ (f j:Nat) {x taken:List Int} {out:List (List Int)},XOk x n→x.sum<f→f≤100→taken.length+f≤1000→out.length≤500→dM f L (j:Int) x taken out=some (out++((dec L n f j x).map (taken++ ·)).take (500 - out.length))
 |0,j,x,taken,out,hx,hs,_,_,_=>by have:=xS λa ha=>(hx.nn a ha).1;omega
 |f+1,j,x,taken,out,hx,hs,hf,ht,ho=>by
  have hl:=hL.len;have n5:=hx.n5;have n1:=hx.n1;show iY (dM f) L j x taken out=_;unfold iY;rw [aAA hx.nn (by rw [hx.len];omega),aB];by_cases h0:x.sum=0
  ·rw [bC h0,aE];simp only [dec,aY h0];by_cases h5:out.length<500
   ·unfold mK;rw [bC (by omega),aE,bC (by omega),aE,aB,bC (by omega),aE];simp only [List.map_cons,List.map_nil,List.append_nil];rw [List.take_of_length_le (by simp;omega)]
   ·rw [dC (by omega),aO,show 500 - out.length=0 by omega,List.take_zero,List.append_nil]
  ·rw [dC h0,aO];simp only [dec,aU h0];obtain ⟨g,hg⟩: ∃ g:Nat→List (List Int),g=λi=>if nnB (pI n x (jH L i)) then (dec L n f i (pI n x (jH L i))).map ((i:Int):: ·) else []:=⟨_,rfl⟩
   have key: ∀ (d i:Nat) (acc:List (List Int)),acc.length≤500→i+d=L.length→Lp (cR (dM f) L x taken) (acc,(i:Int))=some (acc++(((List.range' i d).flatMap g).map (taken++ ·)).take (500 - acc.length)):=by
    intro d;induction d with
    |zero=>
     intro i acc ha hi;refine (cW (r:=acc) ?_).trans (by simp);unfold cR;simp only;rw [nT (by omega),aO]
    |succ d ih=>
     intro i acc ha hi;have hil:i<L.length:=by omega
     obtain ⟨hr,hat⟩:=hL.at hil;by_cases h5:acc.length<500
     ·have hb:cR (dM f) L x taken (acc,(i:Int))=some (.inl (acc++((g i).map (taken++ ·)).take (500 - acc.length),((i+1:Nat):Int))):=by
       unfold cR;simp only;obtain ⟨m,hm1,hm2⟩:=aLc (x:=pI n x (jH L i)) (by rw [wW];omega) (by rw [wW];omega);have hc: ∀ {l:List Int},l.length≤1048576→mK l=some l:=λhl=>by unfold mK;rw [bC hl,aE]
       rw [nH hil,aE,bC (by omega),aE,hc (by rw [hx.len];omega),aB,hat,aB,aLf hL hx hil,aB,hm1,aB,hm2,hg];simp only;cases hn:nnB (pI n x (jH L i)) with
       |false=>rw [aO,cH hil (by omega),aU (by simp),List.map_nil,List.take_nil,List.append_nil]
       |true=>
        have hs2:=aEo hL hx hr;rw [aE,hc (by omega),aB,bC (by simp;omega),aE,aEp hL f i (aGV hL hx hr hn) (by omega) (by omega) (by simp;omega) (by omega),aB,aY rfl,List.map_map,cH hil (by omega)];have e9:(dec L n f i (pI n x (jH L i))).map (taken++[(i:Int)]++ ·)=(dec L n f i (pI n x (jH L i))).map ((taken++ ·)∘((i:Int):: ·)):=sB λw _=>by simp
        rw [e9]
      rw [hJ hb,ih (i+1) _ (by rw [List.length_append,List.length_take];omega) (by omega),List.range'_succ,List.flatMap_cons,List.map_append];congr 1;exact aHO acc _ _ 500
     ·refine (cW (r:=acc) ?_).trans (by rw [show 500 - acc.length=0 by omega,List.take_zero,List.append_nil]);unfold cR;simp only;rw [nH hil,aE,dC (by omega),aO]
   by_cases hj:j≤L.length
   ·rw [key (L.length - j) j out ho (by omega),aB,hg]
   ·have hs:Lp (cR (dM f) L x taken) (out,(j:Int))=some out:=by
     refine cW ?_;unfold cR;simp only;rw [nT (by omega),aO]
    rw [hs,aB,show L.length - j=0 by omega];simp
end
noncomputable section
theorem qY {q:Qv} {n:Nat} (H:Fin1 q n):LOk (bG q n) n:=by
 refine ⟨by have:=aBN H;omega,λr hr=>?_⟩;have h:=(lV H r).1 hr;obtain ⟨h1,h2⟩:=H.vec h;exact ⟨h2,λa ha=>by have:=h1.2 a ha;omega,h.pos H.F⟩
theorem aHP {q:Qv} (hb:bQ q) {x:List Int} (hx:bI x): ∃ W b,eM q x=some (W,b)∧eK q x=some (W,b)∧((b=false∧W=[])∨(b=true∧ ∃ n,Fin1 q n∧cU q=some (bG q n,true)∧bT q=some (bG q n,true)∧W=(dec (bG q n) n 40 0 x).take 500)):=by
 obtain ⟨L,b,h1,h2,h3⟩:=aKC hb;unfold eM eK;rcases h3 with ⟨rfl,rfl⟩|⟨rfl,n,H,rfl⟩
 ·rw [h1,h2];exact ⟨[],false,rfl,rfl,.inl ⟨rfl,rfl⟩⟩
 ·cases hd:aCM q x with
  |false=>
   refine ⟨[],false,?_,?_,.inl ⟨rfl,rfl⟩⟩
   ·rw [h1,aB,jB,aO,aAw hb hx,aB,hd,Bool.not_false,aE]
   ·rw [h2,aB,jB,aO,aAx hb hx,aB,hd,Bool.not_false,aE]
  |true=>
   have hL:=qY H
   have hX:XOk x n:=by
    unfold aCM at hd;simp only [bY,iE] at hd;obtain ⟨_,hl,ha,_⟩:=hd;have:=H.Q.n0;refine ⟨by omega,H.Q.n1,H.Q.n5,λa h=>?_⟩;have:=List.all_eq_true.1 ha a h;exact mI this
   have hs:x.sum<40:=by have:=(aDI hX.nn).2;have:=hX.len;have:=hX.n5;omega
   have e1:=aEp hL 40 0 (taken:=[]) (out:=[]) hX hs (by omega) (by simp) (by simp);have e2:=aIs hL 40 0 hX hs (by omega);rw [show ((0:Nat):Int)=0 from rfl] at e1 e2;simp only [List.nil_append,List.length_nil,Nat.sub_zero] at e1;rw [show (λx:List Int=>x)=id from rfl,List.map_id] at e1;refine ⟨(dec (bG q n) n 40 0 x).take 500,true,?_,?_,.inr ⟨rfl,n,H,h1,h2,rfl⟩⟩
   ·rw [h1,aB,jB,aO,aAw hb hx,aB,hd,jB,aO];unfold mK;rw [bC (by exact hx),aE,aB];simp only;rw [e1,aB]
   ·rw [h2,aB,jB,aO,aAx hb hx,aB,hd,jB,aO];simp only;rw [e2,aB]
theorem wX {l:List Int} {f:Int→Option Bool} (P:Int→Bool) (hf: ∀ x∈l,f x=some (P x)) (h:l.length≤1048576):bK l f=some (l.any P):=by
 unfold bK dA;rw [tR (s0:=0) (s:=0) (n:=l.length) (λk=>bif P (gx l k) then some (k:Int) else none) rfl (by omega) (Nat.zero_le _) (λk _ hk=>?_) (λ_=>?_)]
 ·rw [aB];cases e:(List.range' 0 (l.length - 0)).findSome? (λk:Nat=>bif P (gx l k) then some (k:Int) else none) with
  |none=>
   rw [List.findSome?_eq_none_iff] at e
   have:l.any P=false:=by
    rw [List.any_eq_false];intro x hx;obtain ⟨k,hk,rfl⟩:=List.mem_iff_getElem.1 hx;have:=e k (by simp;omega);rw [kG l hk] at this;cases hp:P l[k] with
    |false=>simp
    |true=>rw [hp] at this;cases this
   rw [this];rfl
  |some i=>
   obtain ⟨k,hk,he⟩:=List.exists_of_findSome?_eq_some e;simp at hk;have hkl:k<l.length:=by omega
   rw [kG l hkl] at he;cases hp:P l[k] with
   |false=>rw [hp] at he;cases he
   |true=>
    rw [hp] at he;cases he;have:l.any P=true:=List.any_eq_true.2 ⟨_,List.getElem_mem hkl,hp⟩;rw [this];show (Option.bind (some ((k:Nat):Int)) λv1=>some (decide (0≤v1)))=some true;rw [aB,bC (by omega)]
 ·unfold cI;rw [nH hk,aE,mD hk,aB,hf _ (iX hk),aB];cases P (gx l k) <;> rfl
 ·unfold cI;rw [nT (bJ _),aO]
theorem aCf {q:Qv} {n:Nat} (H:Fin1 q n) (h2:bT q=some (bG q n,true)) {x:List Int} (hx:RtQ q n x):kZ q x=some true:=by
 unfold kZ;rw [h2,aB];simp only
 have hL: ∀ r∈bG q n,bI r:=λr hr=>by
  have:=(H.vec ((lV H r).1 hr)).1.1;unfold bI;omega
 rw [aE,aEc hL (by have:=aBN H;omega),aB,bC ((lV H x).2 hx)]
def eN (q:Qv) (n:Nat) (x y:List Int):Bool:=decide (0≤eul q n x y)
theorem aKx {q:Qv} {n:Nat} (H:Fin1 q n) (h2:bT q=some (bG q n,true)) {x y:List Int} (hx:RtQ q n x) (hy:RtQ q n y):gS q x y=some (eN q n x y&&eN q n y x):=by
 have key: ∀ {x y:List Int},RtQ q n x→RtQ q n y→kD q x y=some (max 0 (-(eul q n x y))):=by
  intro x y hx hy;obtain ⟨g1,g2⟩:=H.vec hx;obtain ⟨g3,g4⟩:=H.vec hy;have hbd:=aKq H.Q (x:=x) (y:=y) g1.sm g3.sm;unfold kD;rw [aCf H h2 hx,aCf H h2 hy,aB,jB,aO,aB,jB,aO,aCY H.Q g2 g4 g1.sm g3.sm,aB,dY (by omega)]
 unfold gS eN;rw [key hx hy,key hy hx,aB];by_cases c:0≤eul q n x y
 ·rw [bC (by omega),aE,aB,bC c,Bool.true_and];congr 1;rw [Bool.eq_iff_iff,iE,iE];omega
 ·rw [dC (by omega),aO,dC c,Bool.false_and]
def aBP (q:Qv) (n:Nat) (L:List (List Int)) (w:List Int):Bool:=(List.range w.length).all λa=>(List.range a).all λb=>eN q n (jH L (gx w a).toNat) (jH L (gx w b).toNat)&&eN q n (jH L (gx w b).toNat) (jH L (gx w a).toNat)
def aFi (q:Qv) (n:Nat) (L:List (List Int)) (w:List Int):Bool:=w.any λi=>w.any λk=> !eN q n (jH L i.toNat) (jH L k.toNat)
theorem aFj {q:Qv} {n:Nat} (H:Fin1 q n) {w:List Int} (hw: ∀ a∈w,0≤a∧a<(bG q n).length):(!aFi q n (bG q n) w)=aBP q n (bG q n) w:=by
 have hr: ∀ a∈w,RtQ q n (jH (bG q n) a.toNat):=λa ha=>by
  have h:=hw a ha;exact (lV H _).1 ((qY H).at (i:=a.toNat) (by omega)).1
 unfold aFi aBP;rw [Bool.eq_iff_iff];simp only [Bool.not_eq_true',List.any_eq_false,List.all_eq_true,List.mem_range,bY];constructor
 ·intro h a ha b hb;have h1:=h _ (iX ha);have h2:=h _ (iX (x:=w) (i:=b) (by omega));simp only [Bool.not_eq_true,List.any_eq_false] at h1 h2;have h3:=h1 _ (iX (x:=w) (i:=b) (by omega));have h4:=h2 _ (iX ha);exact ⟨by simpa using h3,by simpa using h4⟩
 ·intro h i hi;simp only [Bool.not_eq_true,List.any_eq_false];intro k hk;obtain ⟨a,ha,rfl⟩:=List.mem_iff_getElem.1 hi;obtain ⟨b,hb,rfl⟩:=List.mem_iff_getElem.1 hk
  have e:eN q n (jH (bG q n) (w[a]).toNat) (jH (bG q n) (w[b]).toNat)=true:=by
   rcases Nat.lt_trichotomy a b with hab|hab|hab
   ·have:=(h b hb a hab).2
    rwa [kG w ha,kG w hb] at this
   ·subst hab;have h1:=hr _ (List.getElem_mem ha);have h2:=((aDQ H.Q _).1 h1).2.2;unfold eN;rw [h2];rfl
   ·have:=(h a ha b hab).1
    rwa [kG w ha,kG w hb] at this
  rw [e];simp
theorem aLg {q:Qv} {n:Nat} (H:Fin1 q n) {w:List Int} (hl:w.length≤1000) (hw: ∀ a∈w,0≤a∧a<(bG q n).length):bK w (λb0=>fS b0 w q (bG q n))=some (aFi q n (bG q n) w):=by
 have hr: ∀ a∈w,RtQ q n (jH (bG q n) a.toNat)∧cS (bG q n) a=some (jH (bG q n) a.toNat):=λa ha=>by
  have h:=hw a ha;obtain ⟨h1,h2⟩:=(qY H).at (i:=a.toNat) (by omega);rw [Int.toNat_of_nonneg h.1] at h2;exact ⟨(lV H _).1 h1,h2⟩
 refine wX (λi=>w.any λk=> !eN q n (jH (bG q n) i.toNat) (jH (bG q n) k.toNat)) (λi hi=>?_) (by omega);unfold fS;rw [wX (λk=> !eN q n (jH (bG q n) i.toNat) (jH (bG q n) k.toNat)) (λk hk=>?_) (by omega),aB];unfold gK;obtain ⟨g1,g2⟩:=hr i hi;obtain ⟨g3,g4⟩:=hr k hk;obtain ⟨v1,v2⟩:=H.vec g1;obtain ⟨v3,v4⟩:=H.vec g3;rw [g2,aB,g4,aB,aCX H.Q v2 v4 v1.sm v3.sm,aB];unfold eN;congr 1;rw [Bool.eq_iff_iff,Bool.not_eq_true',iE,decide_eq_false_iff_not];omega
theorem aLh {q:Qv} {n:Nat} (H:Fin1 q n) (h2:bT q=some (bG q n,true)) {W:List (List Int)} {j:Nat} (hj:j<W.length) (hl:(W[j]).length ≤1000) (hw: ∀ a∈W[j],0≤a∧a<(bG q n).length):
  Lp (fA q (bG q n,true) (W,true) (j:Int)) (0,true)=some (aBP q n (bG q n) W[j]):=by
 have hat:cS W (j:Int)=some W[j]:=eT hj
 have hr: ∀ a∈W[j],RtQ q n (jH (bG q n) a.toNat)∧cS (bG q n) a=some (jH (bG q n) a.toNat):=λa ha=>by
  have h:=hw a ha;obtain ⟨h1,h2⟩:=(qY H).at (i:=a.toNat) (by omega);rw [Int.toNat_of_nonneg h.1] at h2;exact ⟨(lV H _).1 h1,h2⟩
 generalize W[j]=w at*;refine iH (λk=>((k:Int),(List.range k).all λa=>(List.range a).all λb=>eN q n (jH (bG q n) (gx w a).toNat) (jH (bG q n) (gx w b).toNat)&&eN q n (jH (bG q n) (gx w b).toNat) (jH (bG q n) (gx w a).toNat))) w.length rfl (λk hk=>?_) (λ_=>?_)
 ·unfold fA;simp only;rw [hat,aB,nH hk,aE];generalize hg:((List.range k).all λa=>(List.range a).all λb=>eN q n (jH (bG q n) (gx w a).toNat) (jH (bG q n) (gx w b).toNat)&&eN q n (jH (bG q n) (gx w b).toNat) (jH (bG q n) (gx w a).toNat))=g
  have hin:Lp (eZ q (bG q n,true) (W,true) (j:Int) ((k:Int),g)) (g,0)=some (g&&(List.range k).all λb=>eN q n (jH (bG q n) (gx w k).toNat) (jH (bG q n) (gx w b).toNat)&&eN q n (jH (bG q n) (gx w b).toNat) (jH (bG q n) (gx w k).toNat)):=by
   refine iH (λb=>(g&&(List.range b).all λb=>eN q n (jH (bG q n) (gx w k).toNat) (jH (bG q n) (gx w b).toNat)&&eN q n (jH (bG q n) (gx w b).toNat) (jH (bG q n) (gx w k).toNat),(b:Int))) k (by simp) (λb hbk=>?_) (λ_=>?_)
   ·have hbl:b<w.length:=by omega
    unfold eZ;simp only;rw [nH hbk,aE,List.range_succ,List.all_append,←Bool.and_assoc];simp only [List.all_cons,List.all_nil,Bool.and_true];cases (g&&(List.range b).all λb=>eN q n (jH (bG q n) (gx w k).toNat) (jH (bG q n) (gx w b).toNat)&&eN q n (jH (bG q n) (gx w b).toNat) (jH (bG q n) (gx w k).toNat)) with
    |false=>rw [aO,cH hbk (by omega)];rfl
    |true=>
     obtain ⟨g1,g2⟩:=hr _ (iX hk);obtain ⟨g3,g4⟩:=hr _ (iX hbl);rw [aE,hat,aB,mD hk,aB,g2,aB,aB,mD hbl,aB,g4,aB,aKx H h2 g1 g3,aB,cH hbk (by omega)];rfl
   ·unfold eZ;simp only;rw [nT (bJ _),aO]
  rw [hin,aB,cH hk (by omega),List.range_succ,List.all_append,hg];simp only [List.all_cons,List.all_nil,Bool.and_true]
 ·unfold fA;simp only;rw [hat,aB,nT (bJ _),aO];rfl
theorem aIt {α β γ:Type} (g:β→γ) (f:α→Option β): ∀ l:List α,(l.findSome? λk=>(f k).map g)=(l.findSome? f).map g
 | []=>rfl
 |a::l=>by
  simp only [List.findSome?_cons];cases f a with
  |none=>exact aIt g f l
  |some b=>rfl
theorem aIu {q:Qv} (hb:bQ q) {x:List Int} (hx:bI x): ∃ w b,fF q x=some (w,b)∧gV q x=some (w,b)∧w.length≤1000:=by
 obtain ⟨W,b,h1,h2,h3⟩:=aHP hb hx;obtain ⟨L,c,k1,k2,k3⟩:=aKC hb;rcases h3 with ⟨rfl,rfl⟩|⟨rfl,n,H,p1,p2,hW⟩
 ·refine ⟨[],false,?_,?_,by simp⟩
  ·unfold fF;rw [h1,aB,k1,aB,cW (r:= .inl ()) (by unfold dW;rfl),aB];rfl
  ·unfold gV;rw [k2,aB,h2,aB,cW (r:= .inl ()) (by unfold dV;rfl),aB];rfl
 ·have hWl:W.length≤500:=by rw [hW,List.length_take];omega
  have hw: ∀ w∈W,w.length≤1000∧ ∀ a∈w,0≤a∧a<(bG q n).length:=λw hm=>by
   rw [hW] at hm;obtain ⟨g1,g2⟩:=aDW (qY H) 40 0 x w (List.mem_of_mem_take hm);exact ⟨by omega,g2⟩
  obtain ⟨f,hf⟩: ∃ f:Nat→Option (List Int),f=λk=>bif aBP q n (bG q n) (jH W k) then some (jH W k) else none:=⟨_,rfl⟩
  have hlr: ∀ {k:Nat} (hk:k<W.length),jH W k=W[k]:=λhk=>by unfold jH;rw [kM hk];rfl
  have e1:Lp (dW q (W,true) (bG q n,true)) 0=some (((List.range' 0 (W.length - 0)).findSome? f).elim (.inl ()) λw=> .inr (w,true)):=by
   rw [tR (s0:=0) (s:=0) (n:=W.length) (λk=>(f k).map λw=>(w,true)) rfl (by omega) (Nat.zero_le _) (λk _ hk=>?_) (λ_=>?_),aIt]
   ·cases (List.range' 0 (W.length - 0)).findSome? f <;> rfl
   ·obtain ⟨g1,g2⟩:=hw _ (List.getElem_mem hk);unfold dW;have hrow:aHI W (k:Int)=some W[k]:=by unfold aHI;rw [dC (by omega),aO,eT hk]
    rw [nH hk,aE,eT hk,aB,aB,aLg H g1 g2,aB,aFj H g2,hrow,aB,hf];simp only;rw [hlr hk];cases aBP q n (bG q n) W[k] <;> rfl
   ·unfold dW;rw [nT (bJ _),aO]
  have e2:Lp (dV q (bG q n,true) (W,true)) 0=some (((List.range' 0 (W.length - 0)).findSome? f).elim (.inl ()) .inr):=by
   rw [tR (s0:=0) (s:=0) (n:=W.length) f rfl (by omega) (Nat.zero_le _) (λk _ hk=>?_) (λ_=>?_)]
   ·cases (List.range' 0 (W.length - 0)).findSome? f <;> rfl
   ·obtain ⟨g1,g2⟩:=hw _ (List.getElem_mem hk);unfold dV;simp only;rw [nH hk,aE,aE,aE,aLh H p2 hk g1 g2,aB,hf];simp only;rw [hlr hk];cases aBP q n (bG q n) W[k] with
    |false=>rfl
    |true=>rw [aE,eT hk,aB];rfl
   ·unfold dV;simp only;rw [nT (bJ _),aO]
  unfold fF gV;rw [h1,h2,p1,p2];simp only [aB];rw [e1,e2];simp only [aB];cases hfs:(List.range' 0 (W.length - 0)).findSome? f with
  |none=>exact ⟨[],false,rfl,rfl,by simp⟩
  |some w=>
   refine ⟨w,true,rfl,rfl,?_⟩;obtain ⟨k,hk,he⟩:=List.exists_of_findSome?_eq_some hfs;have hkl:k<W.length:=by simp at hk;omega
   rw [hf] at he;simp only at he;cases hg:aBP q n (bG q n) (jH W k) with
   |false=>rw [hg] at he;cases he
   |true=>
    rw [hg] at he;cases he;rw [hlr hkl];exact (hw _ (List.getElem_mem hkl)).1
end
noncomputable section
set_option maxRecDepth 10000
set_option maxHeartbeats 4000000
def iZ (x1:((List Int)×Int×Int)):Option (((List Int)×Int×Int) ⊕ ((List Int)×Int)):=
 bif decide (x1.2.2<((x1.1.length:Nat):Int)) then
 ((cS x1.1 x1.2.2).bind λv2=>
 some (.inl ((x1.1.set x1.2.2.toNat x1.2.1),wr (x1.2.1+1),wr (x1.2.2+1))))
 else
 (some (.inr (x1.1,x1.2.1)))
def fK (a0:(List Int)) (a1:Int):Option ((List Int)×Int):=
 (Lp iZ (a0,a1,0)).bind λy3=>
 some (y3.1,y3.2)
theorem lO (a0:(List Int)) (a1:Int) (r:((List Int)×Int)) (h:fK a0 a1=some r):HasE Try.prog 21 [.own 0 0 a0.length,.int a1] [(0,⟨1,a0.map (ow eI)⟩)] 1 (.int r.2) [(0,⟨1,r.1.map (ow eI)⟩)]:=by
 refine lE aP (rvs:=[.tmp 4]) (ns:=nmA.drop 1) Try.func21 k k Try.ntmps21 k k<|sR<|aT k2<|sQ<|sR<|aT k2<|aC<|oB h λy3 hy3 h=>cT (body:=iZ) hy3 (λ(x1:((List Int)×Int×Int))=>mN [(0,.own 0 0 x1.1.length),(1,.int x1.2.1),(5,.int x1.2.2)] [(0,⟨1,x1.1.map (ow eI)⟩)] 1 1) (λr e t=>e= .exit 0∧Ent t (mN [(1,.int r.2)] [(0,⟨1,r.1.map (ow eI)⟩)] 1 1)) (bS (bR k2) (kX k<|aR) k4) ?_ ?_
 ·intro x1 o h;exact sQ<|sR<|am k k<|am k k<|ae (dT aP k k k k) k<|cm k4<|an<|tn<|eH k h (λ_ h=>aD<|tn<|sQ<|aC<|sR<|am k k<|am k k<|am k k<|oB h λv2 hv2 h=>ae (xo hv2 k) k<|ae (hN aP oV (u:=x1.2.1) (dQ hv2) k k k k k k) k<|an<|tn<|rg<|am k k<|ae (bH k k) k<|aa k k<|an<|aV<|tn<|rg<|am k k<|ae (bH k k) k<|aT k2<|sp h ⟨_,k,(bS (kR ⟨_,k,⟨k,k,(by simp only [aQ,lA,lT,lR,lC,lN]),k⟩⟩ (bR k2)) (kX k<|aR) k4)⟩) λ_ h=>aW<|aA<|aA<|sp h ⟨_,k,k,(bS (bR k2) (kX k<|aR) k4)⟩
 ·rintro e t ⟨rfl,hent⟩;exact aM<|tn<|aN hent<|sR<|am k k<|aT k2<|aL<|sp h ⟨mN [(4,.int y3.2)] [(0,⟨1,y3.1.map (ow eI)⟩)] 1 1,(bS (bR k2) (kX k<|aR) k4),k,⟨_,k,.inl k⟩,⟨k,aR⟩⟩
def jW (a0:Qv) (a1:Int):Option ((List Int)×(List Int)×Int):=
 (fK a0.src a1).bind λv1=>
 bif decide (v1.1.length=a0.src.length) then
 ((fK a0.tgt v1.2).bind λv3=>
 bif decide (v3.1.length=a0.tgt.length) then
 (some (v1.1,v3.1,v3.2))
 else none)
 else none
theorem wY (a0:Qv) (a1:Int) (r:((List Int)×(List Int)×Int)) (h:jW a0 a1=some r):HasE Try.prog 14 [.agg [.int a0.n,.own 0 0 a0.src.length,.own 1 0 a0.tgt.length],.int a1] [(0,⟨1,a0.src.map (ow eI)⟩),(1,⟨1,a0.tgt.map (ow eI)⟩)] 2 (.int r.2.2) [(0,⟨1,r.1.map (ow eI)⟩),(1,⟨1,r.2.1.map (ow eI)⟩)]:=by
 refine lE aP (rvs:=[.tmp 4]) (ns:=nmA.drop 2) Try.func14 k k Try.ntmps14 k k<|sR<|ae (wb k) k<|aT k2<|sR<|fp k8<|lp k8<|am k k<|oB h λv1 hv1 h=>ae (sN (σ:=sg [(0,0)]) (σ':=sg [(0,0)]) (touch:=[0]) (news:=[]) (hl2:=[(0,⟨1,v1.1.map (ow eI)⟩)]) (n':=3) (r2:= .int v1.2) (lO a0.src a1 v1 hv1) k k ⟨_,_,k,⟨k,k,k,k⟩,⟨_,_,k,k,k⟩⟩ ⟨⟨_,k,k,.inl ⟨k,iI.plainO _⟩⟩,k,aR⟩ k k k ⟨⟨_,k,k,.inl ⟨k,iI.plainO _⟩⟩,k,aR⟩ k k k ⟨k,iI.tame _ _,aR⟩ k k) k<|cG h λq2 h=>aT k2<|sR<|fp k8<|lp k8<|am k k<|oB h λv3 hv3 h=>ae (sN (σ:=sg [(0,1)]) (σ':=sg [(1,0)]) (touch:=[1]) (news:=[]) (hl2:=[(1,⟨1,v3.1.map (ow eI)⟩)]) (n':=3) (r2:= .int v3.2) (lO a0.tgt v1.2 v3 hv3) k k ⟨_,_,k,⟨k,k,k,k⟩,⟨_,_,k,k,k⟩⟩ ⟨⟨_,k,k,.inl ⟨k,iI.plainO _⟩⟩,k,aR⟩ k k k ⟨⟨_,k,k,.inl ⟨k,iI.plainO _⟩⟩,k,aR⟩ k k k ⟨k,iI.tame _ _,aR⟩ k k) k<|cG h λq4 h=>aT k2<|sR<|am k k<|aa k k<|an ?_;exact tn<|aL<|sp h ⟨mN [(4,.int v3.2)] [(0,⟨1,v1.1.map (ow eI)⟩),(1,⟨1,v3.1.map (ow eI)⟩)] 2 2,(bS (bR k2) (kX k<|kX k<|aR) k4),k,⟨_,k,.inl k⟩,⟨k,k,aR⟩⟩
def jA (a0:(List Int)) (x1:(Int×Int)):Option ((Int×Int) ⊕ (Int ⊕ Int)):=
 bif decide (x1.2<(a0.length:Int)) then
 ((cS a0 x1.2).bind λv2=>
 bif !decide (v2=x1.1) then
 (some (.inr (.inr ((-1)))))
 else
 (some (.inl (wr (x1.1+1),wr (x1.2+1)))))
 else
 (some (.inr (.inl x1.1)))
def jI (a0:(List Int)) (a1:Int):Option Int:=
 (Lp (jA a0) (a1,0)).bind λy4=>
 Sum.elim (λy5=>
 some (y5)
 )
 (λy6=>
 some y6
 )
 y4
theorem rU (a0:(List Int)) (a1:Int) (r:Int) (h:jI a0 a1=some r):HasC Try.prog 22 [.list 1 (a0.map eI),.int a1] (.int r):=by
 refine hM [.tmp 4] Try.func22 Try.ntmps22 k<|sR<|aT k2<|sQ<|sR<|aT k2<|aC<|oB h λy4 hy4 h=>cT (body:=(jA a0)) hy4 (λ(x1:(Int×Int))=>mN [(0,.list 1 (a0.map eI)),(1,.int x1.1),(5,.int x1.2)] [] 0) (λr e t=>Sum.elim (λa=>(λr e t=>e= .exit 0∧Ent t (mN [(1,.int r)] [] 0)) a e t) (λb=>(λr e t=>e= .ret∧pE TT [.tmp 4] (.int r) .ret t) b e t) r) (bS (bR k2) aR k4) ?_ ?_
 ·intro x1 o h;exact sQ<|sR<|am k k<|am k k<|ln k4<|cm k4<|an<|tn<|eH k h (λ_ h=>aD<|tn<|sQ<|aC<|sQ<|sR<|am k k<|am k k<|oB h λv2 hv2 h=>ae (xl hv2 k) k<|lr k7<|am k k<|cm k4<|an<|tn<|eH k h (λ_ h=>sR<|aT k2<|aL<|aJ<|cB<|aJ<|aJ<|sp h ⟨_,k,k,eW k k k (aAU k)⟩) λ_ h=>aD<|tn<|rg<|am k k<|ae (bH k k) k<|aa k k<|an<|aV<|tn<|rg<|am k k<|ae (bH k k) k<|aT k2<|sp h ⟨_,k,(bS (bR k2) aR k4)⟩) λ_ h=>aW<|aA<|aA<|sp h ⟨_,k,k,(bS (bR k2) aR k4)⟩
 ·intro e t hX;rcases y4 with y5|y6
  ·obtain ⟨rfl,hent⟩:=hX;exact aM<|tn<|aN hent<|sR<|am k k<|aT k2<|aL<|yU h k2
  ·obtain ⟨rfl,hent⟩:=hX;exact cB<|aJ<|sp h hent
end
noncomputable section
def uB {α:Type} (nv:α→Nat):List α→Nat
 | []=>0
 |x::l=>nv x+uB nv l
def mvS {α:Type} (mv:Int→α→α) (nv:α→Nat):Int→List α→List α
 |_,[]=>[]
 |k,x::l=>mv k x::mvS mv nv (k+nv x) l
section
variable {α:Type} {mv:Int→α→α} {nv:α→Nat}
theorem qA: ∀ (l:List α) (k:Int),(mvS mv nv k l).length=l.length
 | [],_=>rfl
 |x::l,k=>by simp [mvS,qA l]
theorem aDX: ∀ (l m:List α),uB nv (l++m)=uB nv l+uB nv m
 | [],m=>by simp [uB]
 |x::l,m=>by simp [uB,aDX l m];omega
theorem aDY: ∀ (l m:List α) (k:Int),mvS mv nv k (l++m)=mvS mv nv k l++mvS mv nv (k+uB nv l) m
 | [],m,k=>by simp [mvS,uB]
 |x::l,m,k=>by
  simp only [List.cons_append,mvS,uB,aDY l m];rw [show k+((nv x+uB nv l:Nat):Int)=k+(nv x:Int)+(uB nv l:Int) by omega]
theorem wZ {l:List α} {i:Nat} (hi:i<l.length):uB nv (l.take (i+1))=uB nv (l.take i)+nv l[i]:=by
 rw [uI hi,aDX];simp [uB]
theorem zA (l:List α) (i:Nat):uB nv (l.take i)≤uB nv l:=by
 have h:uB nv (l.take i++l.drop i)=uB nv l:=by rw [List.take_append_drop]
 rw [aDX] at h;omega
theorem aJl {l:List α} {k:Int} {i:Nat} (hi:i<l.length):(mvS mv nv k l)[i]? =some (mv (k+uB nv (l.take i)) l[i]):=by
 have e:l=l.take i++l[i]::l.drop (i+1):=by rw [←List.drop_eq_getElem_cons hi,List.take_append_drop]
 have e2:mvS mv nv k l=mvS mv nv k (l.take i)++mvS mv nv (k+uB nv (l.take i)) (l[i]::l.drop (i+1)):=by rw [←aDY,←e]
 rw [e2,List.getElem?_append_right (by rw [qA];simp;omega),qA];simp [mvS,Nat.min_eq_left (Nat.le_of_lt hi)]
theorem aHQ {l:List α} {k0:Int} {body:List α×Int×Int→Option ((List α×Int×Int) ⊕ (List α×Int))} (h0:0≤k0) (hk:k0+uB nv l≤4611686018427387904) (hl:l.length≤4611686018427387904)
  (hs: ∀ (r:List α) (i:Nat) (k:Int) (hi:i<r.length),r[i]∈l→0≤k→k+nv r[i]≤4611686018427387904→body (r,k,i)=some (.inl (r.set i (mv k r[i]),k+nv r[i],wr (i+1)))) (he: ∀ r k,body (r,k,(r.length:Int))=some (.inr (r,k))):
  Lp body (l,k0,0)=some (mvS mv nv k0 l,k0+uB nv l):=by
 rw [iH (r:=(mvS mv nv k0 l,k0+uB nv l)) (λi=>(mvS mv nv k0 (l.take i)++l.drop i,k0+uB nv (l.take i),(i:Int))) l.length (by simp [mvS,uB]) (λi hi=>?_) (λ_=>?_)]
 ·have hm:(mvS mv nv k0 (l.take i)).length=i:=by rw [qA];simp;omega
  have hg:(mvS mv nv k0 (l.take i)++l.drop i)[i]'(by simp [qA];omega)=l[i]:=by
   rw [List.getElem_append_right (by omega)];simp [hm]
  have hb:=zA (nv:=nv) l (i+1);rw [wZ hi] at hb;rw [hs _ i _ (by simp [qA];omega) (by rw [hg];exact List.getElem_mem hi) (by omega) (by rw [hg];omega),hg,cH hi hl];congr 2;refine Prod.ext ?_ (Prod.ext ?_ rfl)
  ·simp only;rw [List.set_append_right _ _ (by omega),hm,Nat.sub_self,List.drop_eq_getElem_cons hi,List.set_cons_zero,uI hi,aDY];simp [mvS]
  ·simp only;rw [wZ hi];omega
 ·have:=he (mvS mv nv k0 (l.take l.length)++l.drop l.length) (k0+uB nv (l.take l.length));simp only [List.take_length,List.drop_length,List.append_nil,qA] at this ⊢;exact this
theorem aHR {l:List α} {k0:Int} {body:Int×Int→Option ((Int×Int) ⊕ (Int ⊕ Int))} (h0:0≤k0) (hk:k0+uB nv l≤4611686018427387904) (hl:l.length≤4611686018427387904)
  (hs: ∀ (i:Nat) (hi:i<l.length) (k:Int),k=k0+uB nv (l.take i)→0≤k→k+nv l[i]≤4611686018427387904→body (k,i)=some (.inl (k+nv l[i],wr (i+1)))) (he: ∀ k,body (k,(l.length:Int))=some (.inr (.inl k))):
  Lp body (k0,0)=some (.inl (k0+uB nv l)):=by
 rw [iH (r:=Sum.inl (k0+uB nv l)) (λi=>(k0+uB nv (l.take i),(i:Int))) l.length (by simp [uB]) (λi hi=>?_) (λ_=>?_)]
 ·have hb:=zA (nv:=nv) l (i+1);rw [wZ hi] at hb;rw [hs i hi _ rfl (by omega) (by omega),cH hi hl,wZ hi];congr 3;omega
 ·rw [he];simp
end
def nI (l:List Int):Nat:=uB (λ_=>1) l
def mvI:Int→List Int→List Int:=mvS (λk _=>k) (λ_=>1)
theorem vI: ∀ l:List Int,nI l=l.length
 | []=>rfl
 |x::l=>by have:=vI l;simp only [nI] at this;simp only [nI,uB,List.length_cons];omega
theorem uC (k:Int) (l:List Int):(mvI k l).length=l.length:=qA l k
theorem aMK {k:Int} {n:Nat} (h:0≤k):decide (k+(n:Int)<0)=false:=dC (by omega)
theorem aJm {l:List Int} {k:Int} (h0:0≤k) (hk:k+nI l≤4611686018427387904):fK l k=some (mvI k l,k+nI l):=by
 have hl:=vI l;unfold fK;rw [aHQ (mv:=λk _=>k) (nv:=λ_=>1) h0 hk (by omega) (λr i k hi _ g0 g1=>?_) (λr k=>?_),aB]
 ·rfl
 ·unfold iZ;simp only;rw [nH hi,aE,eT hi,aB,dZ,dY (x:=k+1) (by omega)];simp
 ·unfold iZ;simp only;rw [nT (bJ _),aO]
theorem aML {l:List Int} {k:Int} (h0:0≤k) (hk:k+nI l≤4611686018427387904):jI (mvI k l) k=some (k+nI l):=by
 have hl:=vI l;have hm:=uC k l;unfold jI;rw [aHR (l:=l) (nv:=λ_=>1) h0 hk (by omega) (λi hi k' e g0 g1=>?_) (λk'=>?_),aB]
 ·rfl
 ·unfold jA;simp only;have hg:(mvI k l)[i]? =some k':=by unfold mvI;rw [aJl hi,e]
  rw [hm,nH hi,aE,eT (by omega),aB];have hg':(mvI k l)[i]'(by omega)=k':=by rw [kM (by omega)] at hg;exact Option.some.inj hg
  rw [hg',bC rfl,jB,aO,dY (x:=k'+1) (by omega)];simp
 ·unfold jA;simp only;rw [hm,nT (bJ _),aO]
def nQ (q:Qv):Nat:=nI q.src+nI q.tgt
def mvQ (k:Int) (q:Qv):Qv:=⟨q.n,mvI k q.src,mvI (k+nI q.src) q.tgt⟩
theorem aMM {q:Qv} {k:Int} (h0:0≤k) (hk:k+nQ q≤4611686018427387904):jW q k=some ((mvQ k q).src,(mvQ k q).tgt,k+nQ q):=by
 unfold nQ at hk;unfold jW;rw [aJm h0 (by omega),aB,uC,bC rfl,aE,aJm (by omega) (by omega),aB,uC,bC rfl,aE];unfold mvQ nQ;congr 3;omega
end
noncomputable section
set_option maxRecDepth 10000
set_option maxHeartbeats 4000000
def gX (a0:Qv) (a1:(List Int)):Option Bool:=
 bif decide (1048576<(a1.length:Int)) then
 (some (true))
 else
 ((nX a0 1048576).bind λv2=>
 bif decide (v2<0) then
 (some (true))
 else
 ((fH a0).bind λv4=>
 (eV a1).bind λv5=>
 (gV v4 v5).bind λv6=>
 (fH a0).bind λv7=>
 (eV a1).bind λv8=>
 (fF v7 v8).bind λv9=>
 (fW v9.1 v6.1).bind λv10=>
 bif !v10 then
 (some (false))
 else
 (bif !(v9.2==v6.2) then
 (some (false))
 else
 ((fH a0).bind λv13=>
 (lM v7 v13).bind λv14=>
 bif !v14 then
 (some (false))
 else
 ((eV a1).bind λv16=>
 (fW v8 v16).bind λv17=>
 bif !v17 then
 (some (false))
 else
 ((jW v7 1).bind λv19=>
 bif decide (v19.1.length=v7.src.length) then
 (bif decide (v19.2.1.length=v7.tgt.length) then
 ((fK v8 v19.2.2).bind λv22=>
 bif decide (v22.1.length=v8.length) then
 (bif decide (v22.2<0) then
 (some (false))
 else
 ((fW v9.1 v6.1).bind λv25=>
 bif !v25 then
 (some (false))
 else
 (bif !(v9.2==v6.2) then
 (some (false))
 else
 ((fK v9.1 1).bind λv28=>
 bif decide (v28.1.length=v9.1.length) then
 ((jI v28.1 1).bind λv30=>
 bif decide (v30<0) then
 (some (false))
 else
 (bif !decide (v30=v28.2) then
 (some (false))
 else
 ((fH a0).bind λv33=>
 (eV a1).bind λv34=>
 (fF v33 v34).bind λv35=>
 (fW v35.1 v6.1).bind λv36=>
 bif !v36 then
 (some (false))
 else
 (bif !(v35.2==v6.2) then
 (some (false))
 else
 ((jI v28.1 1).bind λv39=>
 bif decide (v39<0) then
 (some (false))
 else
 (bif !decide (v39=v28.2) then
 (some (false))
 else
 (some (true))))))))
 else none))))
 else none)
 else none)
 else none))))))
theorem qF (a0:Qv) (a1:(List Int)) (r:Bool) (h:gX a0 a1=some r):HasC Try.prog 5 [.agg (eQ a0),.list 1 (a1.map eI)] (.bl r):=by
 refine aEj aP (rvs:=[.tmp 4]) (ns:=nmA) Try.func5 k k Try.ntmps5 k k k (λW=>?_);refine aAj<|aCy<|xM (λw0_1 S0_1 r0_1=>?_);refine xM (λw0_2 S0_2 r0_2=>?_);refine aAi<|aFR (λw1_0 S1_0 r1_0=>?_);refine sO<|sS<|se (wb k) k<|fG k2<|sn<|tn<|sQ<|sS<|cZ k2<|se (aCR aP r1_0 k k k) k<|cmS k4<|sn<|tn<|eH k h (λ_ h=>sS<|fG k2<|sn<|tn<|aL<|aJ<|mX h k2) λ_ h=>?_;refine aD<|tn<|sS<|fG k2<|sn<|tn<|sS<|zY k8<|cZ k2<|oB h λv2 hv2 h=>se (mB (zJ a0 1048576 v2 hv2) k (iT (.inr (gD (wC k k) (gD (kQ k r0_1) (gD (kQ k r0_2) wD)))) (wkS k iS))) k<|fG k2<|sn<|tn<|sQ<|sS<|cZ k2<|cmS k4<|sn<|tn<|eH k h (λ_ h=>sS<|fG k2<|sn<|tn<|aL<|aJ<|mX h k2) λ_ h=>?_;refine aD<|tn<|sS<|zY k8<|oB h λv4 hv4 h=>se (cQK (lL a0 v4 hv4) k3 (iT (.inr (gD (wC k k) (gD (kQ k r0_1) (gD (kQ k r0_2) wD)))) iS)) k<|cZ k2<|oB h λv5 hv5 h=>se (cLK iI (jL a1 v5 hv5) k3 (wkD k r1_0 iS)) k<|oB h λv6 hv6 h=>se (fN (σ:=sg []) (σ':=sg []) (touch:=[1,2,3]) (news:=[]) (hl2:=[]) (n':=4) (r2:= .tuple [.list 1 (v6.1.map eI),.bl v6.2]) (wP v4 v5 v6 hv6) k k ⟨_,_,k,(.inr ⟨⟨_,_,k,(tN k),⟨_,_,k,(aAX iI k k),⟨_,_,k,(aAX iI k k),k⟩⟩⟩,k,k⟩),⟨_,_,k,(.inr ⟨(aAX iI k k),k,k⟩),k⟩⟩ aR k k k aR k (.inr ⟨_,_,k,k,⟨_,_,k,⟨k,k⟩,⟨_,_,k,k,k⟩⟩⟩) k aR k k) k<|cZ k2<|se (cE k k (by intro _ h;cases h)) k<|se (cE k k (by intro _ h;cases h)) k<|fG k2<|fG k2<|sn<|tn<|aN (t:=mN [(1,.sc w1_0),(2,.ptr 0 0 0),(6,.list 1 (v6.1.map eI)),(7,.bl v6.2)] [(0,⟨3,[[.int a0.n,.sc w0_1,.sc w0_2]]⟩)] 4 ⟨0,true,mW W,false⟩) (bS (bR k2) (fL k<|aR) k4)<|aN (aBD (t:=2) (b:=0) k k k)<|aN (t:=mN [(1,.sc w1_0),(2,.ref [.int a0.n,.sc w0_1,.sc w0_2]),(6,.list 1 (v6.1.map eI)),(7,.bl v6.2)] [] 4 ⟨0,true,mW W,false⟩) (bS (bR k2) aR k4)<|aHH (ts:=[1,2,6,7]) (ds:=[.sc w1_0,.ref [.int a0.n,.sc w0_1,.sc w0_2],.list 1 (v6.1.map eI),.bl v6.2]) k k k (λW' hbW'=>?_);have r1_0:=r1_0.keep (λb hb=>hbW' b (r1_0.lt b hb));have r0_1:=r0_1.keep (λb hb=>hbW' b (r0_1.lt b hb));have r0_2:=r0_2.keep (λb hb=>hbW' b (r0_2.lt b hb));refine zV<|aBO (λwn1 Sn1 rn1=>?_);refine aFR (λwn2 Sn2 rn2=>?_);refine zV<|sO ?_;change AC Try.prog _ _ (mN [(1,.sc w1_0),(2,.sc wn1),(6,.sc wn2),(7,.bl v6.2)] [] 4 ⟨0,true,mW W',false⟩) _;refine sS<|se (tF aP rn1 k k k k k k k) k<|oB h λv7 hv7 h=>se (cQK (lL a0 v7 hv7) k3 (iT (.inr (gD (wC k k) (gD (kQ k r0_1) (gD (kQ k r0_2) wD)))) iS)) k<|se (rH aP k k) k<|se (ws k) k<|sn<|tn<|sS<|cZ k2<|oB h λv8 hv8 h=>se (cLK iI (jL a1 v8 hv8) k3 (wkD k r1_0 iS)) k<|fG k2<|sn<|tn<|sS<|zY k8<|cZ k2<|oB h λv9 hv9 h=>se (cTK iI (pZ v7 v8 v9 hv9) k3 (iT (.inl (vaQ k4)) (wkT k k iS))) k<|cZ k2<|se (cE k k (by intro _ h;cases h)) k<|se (cE k k (by intro _ h;cases h)) k<|fG k2<|fG k2<|sn<|tn<|sQ<|sS ?_;refine cZ k2<|cZ k2<|oB h λv10 hv10 h=>se (mB (jM v9.1 v6.1 v10 hv10) k (wkT k k (wkD k rn2 iS))) k<|se (iG k) k<|cZ k2<|rK h (λq11 h=>gP 47 k q11<|bW k k<|bW k k<|bW k k<|pkS k3<|sn<|tn<|aN (t:=mN [(1,.sc w1_0),(2,.sc wn1),(6,.sc wn2),(7,.bl v6.2),(8,.ptr 6 0 0),(9,.own 7 0 v8.length),(10,.own 8 0 v9.1.length),(11,.bl v9.2),(51,.bl true)] [(4,⟨1,v7.src.map (ow eI)⟩),(5,⟨1,v7.tgt.map (ow eI)⟩),(6,⟨3,[oQv v7 4 5]⟩),(7,⟨1,v8.map (ow eI)⟩),(8,⟨1,v9.1.map (ow eI)⟩)] 9 ⟨0,true,mW W',false⟩) (bS (bR k2) (kX k<|kX k<|sA k<|kX k<|kX k<|aR) k4)<|jZ k k<|sS<|fG k2<|sn<|tn<|aL<|aJ<|mX h k2) λq11 h=>?_;refine gP 47 k q11<|cZ k2<|cZ k2<|se (aFC (by kernel_rfl) k k) k<|pkS k3<|sn<|tn<|aN (t:=mN [(1,.sc w1_0),(2,.sc wn1),(6,.sc wn2),(7,.bl v6.2),(8,.ptr 6 0 0),(9,.own 7 0 v8.length),(10,.own 8 0 v9.1.length),(11,.bl v9.2),(51,.bl (!(v9.2==v6.2)))] [(4,⟨1,v7.src.map (ow eI)⟩),(5,⟨1,v7.tgt.map (ow eI)⟩),(6,⟨3,[oQv v7 4 5]⟩),(7,⟨1,v8.map (ow eI)⟩),(8,⟨1,v9.1.map (ow eI)⟩)] 9 ⟨0,true,mW W',false⟩) (bS (bR k2) (kX k<|kX k<|sA k<|kX k<|kX k<|aR) k4)<|eH k h (λ_ h=>sS<|fG k2<|sn<|tn<|aL<|aJ<|mX h k2) λ_ h=>?_;refine aD<|tn<|sQ<|sQ<|aZ nB<|lp k8<|ae (tF aP rn1 k k k k k k k) k<|oB h λv13 hv13 h=>ae (cQK (lL a0 v13 hv13) k3 (iT (.inr (gD (wC k k) (gD (kQ k r0_1) (gD (kQ k r0_2) wD)))) iS)) k<|oB h λv14 hv14 h=>ae (mB (zK v7 v13 v14 hv14) k (iT (.inl (vaQ k4)) (iT (.inl (vaQ k4)) iS))) k<|ae (iG k) k<|an<|vJ (by kernel_rfl)<|tn<|eH k h (λ_ h=>sS<|fG k2<|sn<|tn<|aL<|aJ<|mX h k2) λ_ h=>?_;refine aD<|tn<|sQ<|sS<|cZ k2<|cZ k2<|oB h λv16 hv16 h=>se (cLK iI (jL a1 v16 hv16) k3 (wkD k r1_0 iS)) k<|oB h λv17 hv17 h=>se (mB (jM v8 v16 v17 hv17) k (wkT k k (wkT k k iS))) k<|se (iG k) k<|sn<|tn<|eH k h (λ_ h=>sS<|fG k2<|sn<|tn<|aL<|aJ<|mX h k2) λ_ h=>?_;refine aD<|tn<|sS<|fG k2<|sn<|tn<|sS<|zY k8<|cZ k2<|oB h λv19 hv19 h=>se (sN (σ:=sg [(0,4),(1,5)]) (σ':=sg [(4,0),(5,1)]) (touch:=[4,5]) (news:=[]) (hl2:=[(4,⟨1,v19.1.map (ow eI)⟩),(5,⟨1,v19.2.1.map (ow eI)⟩)]) (n':=12) (r2:= .int v19.2.2) (wY v7 1 v19 hv19) k k ⟨_,_,k,⟨_,_,k,k,⟨_,_,k,⟨k,k,k,k⟩,⟨_,_,k,⟨k,k,k,k⟩,k⟩⟩⟩,⟨_,_,k,k,k⟩⟩ ⟨⟨_,k,k,.inl ⟨k,iI.plainO _⟩⟩,k,⟨_,k,k,.inl ⟨k,iI.plainO _⟩⟩,k,aR⟩ k k k ⟨⟨_,k,k,.inl ⟨k,iI.plainO _⟩⟩,k,⟨_,k,k,.inl ⟨k,iI.plainO _⟩⟩,k,aR⟩ k k k ⟨k,iI.tame _ _,⟨k,iI.tame _ _,aR⟩⟩ k k) k<|cG h λq20 h=>cG h λq21 h=>fG k2<|sn<|tn<|sS<|cZ k2<|cZ k2<|oB h λv22 hv22 h=>se (sN (σ:=sg [(0,7)]) (σ':=sg [(7,0)]) (touch:=[7]) (news:=[]) (hl2:=[(7,⟨1,v22.1.map (ow eI)⟩)]) (n':=12) (r2:= .int v22.2) (lO v8 v19.2.2 v22 hv22) k k ⟨_,_,k,⟨k,k,k,k⟩,⟨_,_,k,k,k⟩⟩ ⟨⟨_,k,k,.inl ⟨k,iI.plainO _⟩⟩,k,aR⟩ k k k ⟨⟨_,k,k,.inl ⟨k,iI.plainO _⟩⟩,k,aR⟩ k k k ⟨k,iI.tame _ _,aR⟩ k k) k<|cG h λq23 h=>fG k2<|sn<|tn<|sQ<|sS<|cZ k2<|cmS k4<|cZ k2<|rK h (λq24 h=>gP 70 k q24<|bW k k<|bW k k<|bW k k<|bW k k<|pkS k3<|cZ k2<|bW k k<|bW k k<|bW k k<|pkS k3<|sn<|tn<|aN (t:=mN [(1,.sc w1_0),(2,.sc wn1),(6,.sc wn2),(7,.bl v6.2),(10,.own 8 0 v9.1.length),(80,.bl true)] [(8,⟨1,v9.1.map (ow eI)⟩)] 12 ⟨0,true,mW W',false⟩) (bS (bR k2) (kX k<|aR) k4)<|jZ k k<|sS<|fG k2<|sn<|tn<|aL<|aJ<|mX h k2) λq24 h=>?_;refine gP 70 k q24<|cZ k2<|cZ k2<|oB h λv25 hv25 h=>se (mB (jM v9.1 v6.1 v25 hv25) k (wkT k k (wkD k rn2 iS))) k<|se (iG k) k<|pkS k3<|cZ k2<|rK h (λq26 h=>gP 76 k q26<|bW k k<|bW k k<|bW k k<|pkS k3<|sn<|tn<|aN (t:=mN [(1,.sc w1_0),(2,.sc wn1),(6,.sc wn2),(7,.bl v6.2),(10,.own 8 0 v9.1.length),(80,.bl true)] [(8,⟨1,v9.1.map (ow eI)⟩)] 12 ⟨0,true,mW W',false⟩) (bS (bR k2) (kX k<|aR) k4)<|jZ k k<|sS<|fG k2<|sn<|tn<|aL<|aJ<|mX h k2) λq26 h=>?_;refine gP 76 k q26<|cZ k2<|cZ k2<|se (aFC (by kernel_rfl) k k) k<|pkS k3<|sn<|tn<|aN (t:=mN [(1,.sc w1_0),(2,.sc wn1),(6,.sc wn2),(7,.bl v6.2),(10,.own 8 0 v9.1.length),(80,.bl (!(v9.2==v6.2)))] [(8,⟨1,v9.1.map (ow eI)⟩)] 12 ⟨0,true,mW W',false⟩) (bS (bR k2) (kX k<|aR) k4)<|eH k h (λ_ h=>sS<|fG k2<|sn<|tn<|aL<|aJ<|mX h k2) λ_ h=>?_;refine aD<|tn<|sS<|fG k2<|sn<|tn<|sS<|cZ k2<|cZ k2<|oB h λv28 hv28 h=>se (sN (σ:=sg [(0,8)]) (σ':=sg [(8,0)]) (touch:=[8]) (news:=[]) (hl2:=[(8,⟨1,v28.1.map (ow eI)⟩)]) (n':=12) (r2:= .int v28.2) (lO v9.1 1 v28 hv28) k k ⟨_,_,k,⟨k,k,k,k⟩,⟨_,_,k,k,k⟩⟩ ⟨⟨_,k,k,.inl ⟨k,iI.plainO _⟩⟩,k,aR⟩ k k k ⟨⟨_,k,k,.inl ⟨k,iI.plainO _⟩⟩,k,aR⟩ k k k ⟨k,iI.tame _ _,aR⟩ k k) k<|cG h λq29 h=>fG k2<|sn<|tn<|sS<|fG k2<|sn<|tn<|sS<|cZ k2<|cZ k2<|oB h λv30 hv30 h=>se (mB (rU v28.1 1 v30 hv30) k (iT (.inl (vU iI k (by first|rfl|simp only [List.length_set,of_decide_eq_true q29]))) (wkS k iS))) k<|fG k2<|sn<|tn<|sQ ?_;refine sS<|cZ k2<|cmS k4<|sn<|tn<|eH k h (λ_ h=>sS<|fG k2<|sn<|tn<|aL<|aJ<|mX h k2) λ_ h=>?_;refine aD<|tn<|sQ<|sS<|cZ k2<|cZ k2<|cmS k4<|sn<|tn<|eH k h (λ_ h=>sS<|fG k2<|sn<|tn<|aL<|aJ<|mX h k2) λ_ h=>?_;exact aD<|tn<|sS<|se (tF aP rn1 k k k k k k k) k<|oB h λv33 hv33 h=>se (cQK (lL a0 v33 hv33) k3 (iT (.inr (gD (wC k k) (gD (kQ k r0_1) (gD (kQ k r0_2) wD)))) iS)) k<|cZ k2<|oB h λv34 hv34 h=>se (cLK iI (jL a1 v34 hv34) k3 (wkD k r1_0 iS)) k<|oB h λv35 hv35 h=>se (cTK iI (pZ v33 v34 v35 hv35) k3 (iT (.inl (vaQ k4)) (wkT k k iS))) k<|cZ k2<|se (cE k k (by intro _ h;cases h)) k<|se (cE k k (by intro _ h;cases h)) k<|fG k2<|fG k2<|sn<|tn<|aN (t:=mN [(6,.sc wn2),(7,.bl v6.2),(10,.own 8 0 v28.1.length),(13,.int v28.2),(15,.own 15 0 v35.1.length),(16,.bl v35.2)] [(8,⟨1,v28.1.map (ow eI)⟩),(15,⟨1,v35.1.map (ow eI)⟩)] 16 ⟨0,true,mW W',false⟩) (bS (mZ 2 k2 (kR ⟨_,k,⟨k,k,(by simp only [aQ,lA,lT,lR,lC,lN,of_decide_eq_true q29]),k⟩⟩ (bR k2))) (kX k<|kX k<|aR) k4)<|sQ<|sS<|cZ k2<|cZ k2<|oB h λv36 hv36 h=>se (mB (jM v35.1 v6.1 v36 hv36) k (wkT k k (wkD k rn2 iS))) k<|se (iG k) k<|cZ k2<|rK h (λq37 h=>gP 104 k q37<|bW k k<|bW k k<|bW k k<|pkS k3<|sn<|tn<|jZ k k<|sS<|fG k2<|sn<|tn<|aL<|aJ<|mX h k2) λq37 h=>gP 104 k q37<|cZ k2<|cZ k2<|se (aFC (by kernel_rfl) k k) k<|pkS k3<|sn<|tn<|eH k h (λ_ h=>sS<|fG k2<|sn<|tn<|aL<|aJ<|mX h k2) λ_ h=>aD<|tn<|sS<|fG k2<|sn<|tn<|sS<|cZ k2<|cZ k2<|oB h λv39 hv39 h=>se (mB (rU v28.1 1 v39 hv39) k (iT (.inl (vU iI k (by first|rfl|simp only [List.length_set,of_decide_eq_true q29]))) (wkS k iS))) k<|fG k2<|sn<|tn<|sQ<|sS<|cZ k2<|cmS k4<|sn<|tn<|eH k h (λ_ h=>sS<|fG k2<|sn<|tn<|aL<|aJ<|mX h k2) λ_ h=>aD<|tn<|sQ<|sS<|cZ k2<|cZ k2<|cmS k4<|sn<|tn<|eH k h (λ_ h=>sS<|fG k2<|sn<|tn<|aL<|aJ<|mX h k2) λ_ h=>aD<|tn<|sS<|fG k2<|sn<|tn<|aL<|mX h k2
end
noncomputable section
theorem yF {q:Qv} {x:List Int} (fq:fQ q) (fx:fI x):gX q x=some true:=by
 unfold gX;by_cases c1:x.length≤1048576
 ·rw [dC (by omega),aO,aMA fq (by decide) (by decide),aB];rcases aJO q 1048576 (by decide) (by decide) with e|⟨e1,e2,hb⟩
  ·rw [e];rfl
  ·rw [dC (by omega),aO];have hx:bI x:=c1;obtain ⟨L,b,h1,h2,h3⟩:=aIu hb hx;have hL:bI L:=by show L.length≤1048576;omega
   have hq1:q.src.length≤1048576:=hb.1;have hq2:q.tgt.length≤1048576:=hb.2.1;have hnq:nQ q≤2097152:=by unfold nQ;rw [vI,vI];omega
   have hnx:nI x≤1048576:=by rw [vI];exact c1
   have hnl:nI L≤1000:=by rw [vI];exact h3
   simp only [aMB hb,aKa hx,aB,h1,h2,aJP hL,aJP hx,aMC hb,decide_true,beq_self_eq_true,jB,aO];rw [aMM (by decide) (by omega),aB];simp only [mvQ,uC,decide_true,aE];rw [aJm (by omega) (by omega),aB];simp only [uC,decide_true,aE];rw [dC (by omega),aO,aJm (by decide) (by omega),aB];simp only [uC,decide_true,aE];rw [aML (by decide) (by omega),aB,aB];simp only [aMK (show (0:Int)≤1 by decide),decide_true,jB,aO]
 ·rw [bC (by omega),aE]
end
end Go.Proofs.Ytpppcfhgaehcjaa

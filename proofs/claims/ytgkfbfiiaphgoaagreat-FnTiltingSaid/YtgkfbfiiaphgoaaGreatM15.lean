/- Several texts. -/
import Derived.Test.YtgkfbfiiaphgoaaGreatM14
set_option linter.unusedVariables false
set_option linter.unusedSimpArgs false
set_option maxRecDepth 100000
set_option maxHeartbeats 4000000
namespace Go.Proofs.YtgkfbfiiaphgoaaGreat
open Go.RowKit
section
def aBQ (n:Nat) (x r:aA):aA:=rA n λv=>gx x v - gx r v
def rI (L:aD) (i:Nat):aA:=L[i]?.getD []
def dec (L:aD) (n:Nat):Nat->Nat->aA->aD
 |0,_,_=>[]
 |f+1,j,x=>if x.sum=0 then [[]] else (List.range' j (L.length - j)).flatMap λi=>if nnB (aBQ n x (rI L i)) then (dec L n f i (aBQ n x (rI L i))).map ((i:Int):: ·) else []
structure LOk (L:aD) (n:Nat):Prop where
 len:L.length<=1000
 row: ∀ r∈L,r.length=n/\(∀ a∈r,0<=a/\a<=1000)/\1<=r.sum
structure XOk (x:aA) (n:Nat):Prop where
 len:x.length=n
 n1:1<=n
 n5:n<=5
 nn: ∀ a∈x,0<=a/\a<=4
theorem LOk.at {L:aD} {n:Nat} (h:LOk L n) {i:Nat} (hi:i<L.length):rI L i∈L/\cO L (i:Int)=some (rI L i):=by
 refine ⟨?_,tS [] hi⟩;unfold rI;rw [fP hi];exact List.getElem_mem hi
theorem aGa {n:Nat} {x r:aA} :(aBQ n x r).length=n:=lJ _ _
theorem aVV {x:aA} {n:Nat} (h:XOk x n) {v:Nat} (hv:v<n):0<=gx x v/\gx x v<=4:=h.nn _ (mZ (by rw [h.len];exact hv))
theorem LOk.gx {L:aD} {n:Nat} (h:LOk L n) {r:aA} (hr:r∈L) {v:Nat} (hv:v<n):0<=gx r v/\gx r v<=1000:=(h.row r hr).2.1 _ (mZ (by rw [(h.row r hr).1];exact hv))
theorem aRo {L:aD} {n:Nat} (hL:LOk L n) {x r:aA} (hx:XOk x n) (hr:r∈L) (hn:nnB (aBQ n x r)=true):XOk (aBQ n x r) n:=by
 refine ⟨aGa,hx.n1,hx.n5,λa ha=>⟨aVU hn a ha,?_⟩⟩;obtain ⟨v,hv,rfl⟩:=List.mem_map.1 ha;have hv:=List.mem_range.1 hv;have:=aVV hx hv;have:=hL.gx hr hv;omega
theorem aPP {L:aD} {n:Nat} (hL:LOk L n) {x r:aA} (hx:XOk x n) (hr:r∈L):(aBQ n x r).sum +1<=x.sum:=by
 have h1:=(hL.row r hr).2.2;rw [yE,(hL.row r hr).1] at h1;rw [yE,yE,aGa,hx.len]
 have e:eO n (Go.Proofs.YtgkfbfiiaphgoaaGreat.gx (aBQ n x r))=eO n (Go.Proofs.YtgkfbfiiaphgoaaGreat.gx x) - eO n (Go.Proofs.YtgkfbfiiaphgoaaGreat.gx r):=by
  have h3:eO n (Go.Proofs.YtgkfbfiiaphgoaaGreat.gx (aBQ n x r))=eO n λv=>Go.Proofs.YtgkfbfiiaphgoaaGreat.gx x v+(-1)*Go.Proofs.YtgkfbfiiaphgoaaGreat.gx r v:=dT λv hv=>by
   unfold aBQ;rw [aGQ hv];omega
  rw [h3,qZ,nZ];omega
 omega
theorem aZs {x:aA} (hx:x.length<=1000):Lp (pG x) (true,0)=some (x.all λa=>decide (a=0)):=by
 refine eX (λk=>((x.take k).all λa=>decide (a=0),(k:Int))) x.length (by simp) (λk hk=>?_) (λ_=>?_)
 ·unfold pG;simp only;rw [kC hk,aJ,List.take_add_one,fP hk,List.all_append];simp only [Option.toList_some,List.all_cons,List.all_nil,Bool.and_true];cases (x.take k).all λa=>decide (a=0) with
  |false=>rw [aY,cC hk (by omega)];rfl
  |true=>rw [aJ,hZ hk,aC,cC hk (by omega)];rfl
 ·unfold pG;simp only;rw [lM (bP _),aY,List.take_length]
theorem aVW {x:aA} (h: ∀ a∈x,0<=a):(x.all λa=>decide (a=0))=decide (x.sum=0):=by
 induction x with
 |nil=>rfl
 |cons a x ih=>
  have h1:=h a (by simp);have h2:=aHL (x:=x) λb hb=>h b (by simp [hb]);rw [List.all_cons,ih λb hb=>h b (by simp [hb]),List.sum_cons,Bool.eq_iff_iff];simp only [cY,gR];omega
theorem aZt {L:aD} {n:Nat} (hL:LOk L n) {x:aA} (hx:XOk x n) {i:Nat} (hi:i<L.length) (out:aD):
  Lp (pH L x ((i:Int),out)) (([]:aA),true,0)=some (aBQ n x (rI L i),nnB (aBQ n x (rI L i))):=by
 obtain ⟨hr,ha⟩:=hL.at hi;have hrl:=(hL.row _ hr).1;have n5:=hx.n5;refine eX (λk=>(rA k λv=>gx x v - gx (rI L i) v,nnB (rA k λv=>gx x v - gx (rI L i) v),(k:Int))) n rfl (λk hk=>?_) (λ_=>?_)
 ·unfold pH;simp only;have h1:=aVV hx hk;have h2:=hL.gx hr hk
  have e:rA (k+1) (λv=>gx x v - gx (rI L i) v)=(rA k λv=>gx x v - gx (rI L i) v)++[gx x k - gx (rI L i) k]:=by
   unfold rA;rw [List.range_succ,List.map_append];rfl
  rw [hx.len,kC hk,aJ,uC (by rw [hx.len];exact hk),aC,ha,aC,uC (by rw [hrl];exact hk),aC,bK (by rw [lJ];simp;omega),aJ,cU (by omega),e];generalize hA:(rA k λv=>gx x v - gx (rI L i) v)=A;have hAl:A.length=k:=by rw [←hA,lJ]
  have e2:nnB (A++[gx x k - gx (rI L i) k])=(nnB A&&decide (0<=gx x k - gx (rI L i) k)):=by
   unfold nnB;rw [List.all_append];simp
  rw [e2];cases nnB A with
  |false=>rw [aY,cC hk (by omega)];rfl
  |true=>
   have hat:cO (A++[gx x k - gx (rI L i) k]) (k:Int)=some (gx x k - gx (rI L i) k):=by
    rw [hZ (by simp;omega)];congr 1;rw [List.getElem_append_right (by omega)];simp [hAl]
   rw [aJ,hat,aC,cC hk (by omega)];rfl
 ·unfold pH;simp only;rw [hx.len,lM (bP _),aY];rfl
theorem aXi {rest:aD} {i:Nat} {o2:aD} (hr:rest.length<=500) (hb: ∀ w∈rest,w.length<=1000): ∀ (d k:Nat) {out:aD},k+d=rest.length->out.length<=500->
  Lp (jS rest ((i:Int),o2)) (out,(k:Int))=some (out++((rest.drop k).map ((i:Int):: ·)).take (500 - out.length))
 |0,k,out,hk,ho=>by
  rw [List.drop_of_length_le (by omega)];refine (eC (r:=out) ?_).trans (by simp);unfold jS;simp only;rw [lM (by omega),aY]
 |d+1,k,out,hk,ho=>by
  have hkl:k<rest.length:=by omega
  by_cases h5:out.length<500
  ·have hw:=hb _ (List.getElem_mem hkl)
   have hbd:jS rest ((i:Int),o2) (out,(k:Int))=some (.inl (out++[(i:Int)::rest[k]],((k+1:Nat):Int))):=by
    unfold jS;simp only;rw [kC hkl,aJ,bK (by omega),aJ,hZ hkl,aC,bK (by simp;omega),aJ,bK (by omega),aJ,cC hkl (by omega)];rfl
   rw [kT hbd,aXi hr hb d (k+1) (by omega) (by simp;omega),List.drop_eq_getElem_cons hkl,List.map_cons,List.append_assoc];rw [show 500 - out.length=(500 - (out++[(i:Int)::rest[k]]).length)+1 by simp;omega,List.take_succ_cons];rfl
  ·refine (eC (r:=out) ?_).trans (by rw [show 500 - out.length=0 by omega,List.take_zero,List.append_nil]);unfold jS;simp only;rw [kC hkl,aJ,cR (by omega),aY]
theorem aVX {α β:Type} (A:List β) (B:List α) (c:α->β) (N:Nat) (h:A.length<=N):A++((B.take N).map c).take (N - A.length)=(A++B.map c).take N:=by
 rw [List.take_append,List.take_of_length_le h,←List.map_take,←List.map_take,List.take_take,Nat.min_eq_left (by omega)]
theorem aIl {L:aD} {n:Nat} (hL:LOk L n): ∀ (f j:Nat) (x:aA),∀ w∈dec L n f j x,w.length<=f/\ ∀ a∈w,0<=a/\a<L.length
 |0,_,_,w,h=>by cases h
 |f+1,j,x,w,h=>by
  simp only [dec] at h;split at h
  ·rcases List.mem_singleton.1 h with rfl;exact ⟨by simp,λa ha=>by cases ha⟩
  ·obtain ⟨i,hi,h⟩:=List.mem_flatMap.1 h;have hi:=List.mem_range'_1.1 hi;split at h
   ·obtain ⟨w',hw,rfl⟩:=List.mem_map.1 h;obtain ⟨h1,h2⟩:=aIl hL f i _ w' hw;refine ⟨by simp;omega,λa ha=>?_⟩;rcases dH.1 ha with rfl|ha
    ·omega
    ·exact h2 a ha
   ·cases h
theorem aQe {L:aD} {n:Nat} (hL:LOk L n): ∀ (f j:Nat) {x:aA},XOk x n->x.sum<f->f<=100->jT f L x (j:Int)=some ((dec L n f j x).take 500)
 |0,j,x,hx,hs,_=>by have:=aHL λa ha=>(hx.nn a ha).1;omega
 |f+1,j,x,hx,hs,hf=>by
  have hl:=hL.len;show uT (jT f) L x j=_;unfold uT;rw [aZs (by rw [hx.len];have:=hx.n5;omega),aC,aVW λa ha=>(hx.nn a ha).1];by_cases h0:x.sum=0
  ·rw [bK h0,aJ];simp only [dec,bD h0];rfl
  ·rw [cR h0,aY];simp only [dec,bB h0];obtain ⟨g,hg⟩: ∃ g:Nat->aD,g=λi=>if nnB (aBQ n x (rI L i)) then (dec L n f i (aBQ n x (rI L i))).map ((i:Int):: ·) else []:=⟨_,rfl⟩
   have key: ∀ (d i:Nat) (acc:aD),i+d=L.length->Lp (gO (jT f) L x) ((i:Int),acc.take 500)=some ((acc++(List.range' i d).flatMap g).take 500):=by
    intro d;induction d with
    |zero=>
     intro i acc hi;refine (eC (r:=acc.take 500) ?_).trans (by simp);unfold gO;simp only;rw [lM (by omega),aY]
    |succ d ih=>
     intro i acc hi;have hil:i<L.length:=by omega
     by_cases h5:acc.length<500
     ·have ht:acc.take 500=acc:=List.take_of_length_le (by omega)
      have hb:gO (jT f) L x ((i:Int),acc.take 500)=some (.inl (((i+1:Nat):Int),(acc++g i).take 500)):=by
       rw [ht];unfold gO;simp only;rw [kC hil,aJ,bK (by omega),aJ,aZt hL hx hil,aC];simp only;rw [hg];simp only;obtain ⟨hr,_⟩:=hL.at hil;cases hn:nnB (aBQ n x (rI L i)) with
       |false=>rw [Bool.not_false,aJ,cC hil (by omega),bB (by simp),List.append_nil,ht]
       |true=>
        have hs2:=aPP hL hx hr;rw [eP,aY,aQe hL f i (aRo hL hx hr hn) (by omega) (by omega),aC,bD rfl];have:=aXi (rest:=(dec L n f i (aBQ n x (rI L i))).take 500) (i:=i) (o2:=acc) (by rw [List.length_take];omega) (λw hw=>by have:=(aIl hL f i _ w (List.mem_of_mem_take hw)).1;omega) _ 0 (out:=acc) (Nat.zero_add _) (by omega);rw [show ((0:Nat):Int)=0 from rfl,List.drop_zero] at this;rw [this,aC,cC hil (by omega),aVX _ _ _ _ (by omega)]
      rw [kT hb,ih (i+1) _ (by omega),List.range'_succ,List.flatMap_cons,List.append_assoc]
     ·refine (eC (r:=acc.take 500) ?_).trans (by rw [List.take_append_of_le_length (by omega)]);unfold gO;simp only;rw [kC hil,aJ,cR (by rw [List.length_take];omega),aY]
   by_cases hj:j<=L.length
   ·have:=key (L.length - j) j [] (by omega);rw [List.take_nil] at this;rw [this,aC,hg];rfl
   ·have hs:Lp (gO (jT f) L x) ((j:Int),[])=some []:=by
     refine eC ?_;unfold gO;simp only;rw [lM (by omega),aY]
    rw [hs,aC,show L.length - j=0 by omega];rfl
theorem aZu {L:aD} {n:Nat} (hL:LOk L n) {x:aA} (hx:XOk x n) {i:Nat} (hi:i<L.length):Lp (mJ (rI L i)) (x,0)=some (aBQ n x (rI L i)):=by
 obtain ⟨hr,_⟩:=hL.at hi;have hrl:=(hL.row _ hr).1;have n5:=hx.n5;refine eX (λk=>(rA n λv=>if v<k then gx x v - gx (rI L i) v else gx x v,(k:Int))) n ?_ (λk hk=>?_) (λ_=>?_)
 ·have:x=rA n λv=>if v<0 then gx x v - gx (rI L i) v else gx x v:=by
   refine List.ext_getElem (by rw [lJ,hx.len]) λv h1 h2=>?_;have hv:v<n:=by rw [←hx.len];exact h1
   have e1:=aGQ (f:=λv=>if v<0 then gx x v - gx (rI L i) v else gx x v) hv;rw [pK _ h2] at e1;rw [e1,bB (Nat.not_lt_zero v),pK x h1]
  exact congrArg (·,(0:Int)) this
 ·unfold mJ;simp only;have h1:=aVV hx hk;have h2:=hL.gx hr hk;rw [hrl,kC hk,aJ,uC (by rw [hrl];exact hk),aC,uC (by rw [lJ];exact hk),aC,aC,aGQ hk,bB (Nat.lt_irrefl k),cU (by omega),dX,cC hk (by omega)];congr 3;refine List.ext_getElem (by rw [List.length_set,lJ,lJ]) λv g1 g2=>?_;have hv:v<n:=by rw [lJ] at g2;exact g2
  have e1:=aGQ (f:=λv=>if v<k+1 then gx x v - gx (rI L i) v else gx x v) hv;rw [pK _ g2] at e1;rw [e1,List.getElem_set];have g3:v<(rA n λv=>if v<k then gx x v - gx (rI L i) v else gx x v).length:=by rw [lJ];exact hv
  have e2:=aGQ (f:=λv=>if v<k then gx x v - gx (rI L i) v else gx x v) hv;rw [pK _ g3] at e2;by_cases hkv:k=v
  ·subst hkv;rw [bD rfl,bD (by omega)]
  ·rw [bB hkv,e2];by_cases hvk:v<k
   ·rw [bD hvk,bD (by omega)]
   ·rw [bB hvk,bB (by omega)]
 ·unfold mJ;simp only;rw [hrl,lM (bP _),aY];congr 2;exact sT λv hv=>by rw [bD (List.mem_range.1 hv)]
theorem aTL {β:Type} (A:List β) (X Y:List β) (N:Nat):(A++X.take (N - A.length))++Y.take (N - (A++X.take (N - A.length)).length)=A++(X++Y).take (N - A.length):=by
 rw [List.append_assoc,List.take_append];congr 2;rw [List.length_append,List.length_take];by_cases h:X.length<=N - A.length
 ·rw [Nat.min_eq_right h,Nat.sub_sub]
 ·rw [Nat.min_eq_left (by omega),show N - (A.length+(N - A.length))=0 by omega,show N - A.length - X.length=0 by omega]
theorem aPQ {L:aD} {n:Nat} (hL:LOk L n): ∀ (f j:Nat) {x taken:aA} {out:aD},XOk x n->x.sum<f->f<=100->taken.length+f<=1000->out.length<=500->iD f L (j:Int) x taken out=some (out++((dec L n f j x).map (taken++ ·)).take (500 - out.length))
 |0,j,x,taken,out,hx,hs,_,_,_=>by have:=aHL λa ha=>(hx.nn a ha).1;omega
 |f+1,j,x,taken,out,hx,hs,hf,ht,ho=>by
  have hl:=hL.len;have n5:=hx.n5;have n1:=hx.n1;show sJ (iD f) L j x taken out=_;unfold sJ;rw [aIi hx.nn (by rw [hx.len];omega),aC];by_cases h0:x.sum=0
  ·rw [bK h0,aJ];simp only [dec,bD h0];by_cases h5:out.length<500
   ·unfold lQ;rw [bK (by omega),aJ,bK (by omega),aJ,aC,bK (by omega),aJ];simp only [List.map_cons,List.map_nil,List.append_nil];rw [List.take_of_length_le (by simp;omega)]
   ·rw [cR (by omega),aY,show 500 - out.length=0 by omega,List.take_zero,List.append_nil]
  ·rw [cR h0,aY];simp only [dec,bB h0];obtain ⟨g,hg⟩: ∃ g:Nat->aD,g=λi=>if nnB (aBQ n x (rI L i)) then (dec L n f i (aBQ n x (rI L i))).map ((i:Int):: ·) else []:=⟨_,rfl⟩
   have key: ∀ (d i:Nat) (acc:aD),acc.length<=500->i+d=L.length->Lp (fR (iD f) L x taken) (acc,(i:Int))=some (acc++(((List.range' i d).flatMap g).map (taken++ ·)).take (500 - acc.length)):=by
    intro d;induction d with
    |zero=>
     intro i acc ha hi;refine (eC (r:=acc) ?_).trans (by simp);unfold fR;simp only;rw [lM (by omega),aY]
    |succ d ih=>
     intro i acc ha hi;have hil:i<L.length:=by omega
     obtain ⟨hr,hat⟩:=hL.at hil;by_cases h5:acc.length<500
     ·have hb:fR (iD f) L x taken (acc,(i:Int))=some (.inl (acc++((g i).map (taken++ ·)).take (500 - acc.length),((i+1:Nat):Int))):=by
       unfold fR;simp only;obtain ⟨m,hm1,hm2⟩:=aZr (x:=aBQ n x (rI L i)) (by rw [aGa];omega) (by rw [aGa];omega);have hc: ∀ {l:aA},l.length<=1048576->lQ l=some l:=λhl=>by unfold lQ;rw [bK hl,aJ]
       rw [kC hil,aJ,bK (by omega),aJ,hc (by rw [hx.len];omega),aC,hat,aC,aZu hL hx hil,aC,hm1,aC,hm2,hg];simp only;cases hn:nnB (aBQ n x (rI L i)) with
       |false=>rw [aY,cC hil (by omega),bB (by simp),List.map_nil,List.take_nil,List.append_nil]
       |true=>
        have hs2:=aPP hL hx hr;rw [aJ,hc (by omega),aC,bK (by simp;omega),aJ,aPQ hL f i (aRo hL hx hr hn) (by omega) (by omega) (by simp;omega) (by omega),aC,bD rfl,List.map_map,cC hil (by omega)];have e9:(dec L n f i (aBQ n x (rI L i))).map (taken++[(i:Int)]++ ·)=(dec L n f i (aBQ n x (rI L i))).map ((taken++ ·)∘((i:Int):: ·)):=sT λw _=>by simp
        rw [e9]
      rw [kT hb,ih (i+1) _ (by rw [List.length_append,List.length_take];omega) (by omega),List.range'_succ,List.flatMap_cons,List.map_append];congr 1;exact aTL acc _ _ 500
     ·refine (eC (r:=acc) ?_).trans (by rw [show 500 - acc.length=0 by omega,List.take_zero,List.append_nil]);unfold fR;simp only;rw [kC hil,aJ,cR (by omega),aY]
   by_cases hj:j<=L.length
   ·rw [key (L.length - j) j out ho (by omega),aC,hg]
   ·have hs:Lp (fR (iD f) L x taken) (out,(j:Int))=some out:=by
     refine eC ?_;unfold fR;simp only;rw [lM (by omega),aY]
    rw [hs,aC,show L.length - j=0 by omega];simp
theorem yW {q:Qv} {n:Nat} (H:Fin1 q n):LOk (bC q n) n:=by
 refine ⟨by have:=sI H;omega,λr hr=>?_⟩;have h:=(jU H r).1 hr;obtain ⟨h1,h2⟩:=H.vec h;exact ⟨h2,λa ha=>by have:=h1.2 a ha;omega,h.pos H.F⟩
theorem aTM {q:Qv} (hb:bQ q) {x:aA} (hx:bI x): ∃ W b,kG q x=some (W,b)/\eJ q x=some (W,b)/\((b=false/\W=[])∨(b=true/\ ∃ n,Fin1 q n/\eB q=some (bC q n,true)/\bT q=some (bC q n,true)/\W=(dec (bC q n) n 40 0 x).take 500)):=by
 obtain ⟨L,b,h1,h2,h3⟩:=aKM hb;unfold kG eJ;rcases h3 with ⟨rfl,rfl⟩|⟨rfl,n,H,rfl⟩
 ·rw [h1,h2];exact ⟨[],false,rfl,rfl,.inl ⟨rfl,rfl⟩⟩
 ·cases hd:rM q x with
  |false=>
   refine ⟨[],false,?_,?_,.inl ⟨rfl,rfl⟩⟩
   ·rw [h1,aC,eP,aY,aFH hb hx,aC,hd,Bool.not_false,aJ]
   ·rw [h2,aC,eP,aY,wX hb hx,aC,hd,Bool.not_false,aJ]
  |true=>
   have hL:=yW H
   have hX:XOk x n:=by
    unfold rM at hd;simp only [cY,gR] at hd;obtain ⟨_,hl,ha,_⟩:=hd;have:=H.Q.n0;refine ⟨by omega,H.Q.n1,H.Q.n5,λa h=>?_⟩;have:=List.all_eq_true.1 ha a h;exact tW this
   have hs:x.sum<40:=by have:=(aJc hX.nn).2;have:=hX.len;have:=hX.n5;omega
   have e1:=aPQ hL 40 0 (taken:=[]) (out:=[]) hX hs (by omega) (by simp) (by simp);have e2:=aQe hL 40 0 hX hs (by omega);rw [show ((0:Nat):Int)=0 from rfl] at e1 e2;simp only [List.nil_append,List.length_nil,Nat.sub_zero] at e1;rw [show (λx:aA=>x)=id from rfl,List.map_id] at e1;refine ⟨(dec (bC q n) n 40 0 x).take 500,true,?_,?_,.inr ⟨rfl,n,H,h1,h2,rfl⟩⟩
   ·rw [h1,aC,eP,aY,aFH hb hx,aC,hd,eP,aY];unfold lQ;rw [bK (by exact hx),aJ,aC];simp only;rw [e1,aC]
   ·rw [h2,aC,eP,aY,wX hb hx,aC,hd,eP,aY];simp only;rw [e2,aC]
theorem aGb {l:aA} {f:Int->Option Bool} (P:Int->Bool) (hf: ∀ x∈l,f x=some (P x)) (h:l.length<=1048576):cJ l f=some (l.any P):=by
 unfold cJ fN;rw [xI (s0:=0) (s:=0) (n:=l.length) (λk=>bif P (gx l k) then some (k:Int) else none) rfl (by omega) (Nat.zero_le _) (λk _ hk=>?_) (λ_=>?_)]
 ·rw [aC];cases e:(List.range' 0 (l.length - 0)).findSome? (λk:Nat=>bif P (gx l k) then some (k:Int) else none) with
  |none=>
   rw [List.findSome?_eq_none_iff] at e
   have:l.any P=false:=by
    rw [List.any_eq_false];intro x hx;obtain ⟨k,hk,rfl⟩:=List.mem_iff_getElem.1 hx;have:=e k (by simp;omega);rw [pK l hk] at this;cases hp:P l[k] with
    |false=>simp
    |true=>rw [hp] at this;cases this
   rw [this];rfl
  |some i=>
   obtain ⟨k,hk,he⟩:=List.exists_of_findSome?_eq_some e;simp at hk;have hkl:k<l.length:=by omega
   rw [pK l hkl] at he;cases hp:P l[k] with
   |false=>rw [hp] at he;cases he
   |true=>
    rw [hp] at he;cases he;have:l.any P=true:=List.any_eq_true.2 ⟨_,List.getElem_mem hkl,hp⟩;rw [this];show (Option.bind (some ((k:Nat):Int)) λv1=>some (decide (0<=v1)))=some true;rw [aC,bK (by omega)]
 ·unfold dD;rw [kC hk,aJ,uC hk,aC,hf _ (mZ hk),aC];cases P (gx l k) <;> rfl
 ·unfold dD;rw [lM (bP _),aY]
theorem aHZ {q:Qv} {n:Nat} (H:Fin1 q n) (h2:bT q=some (bC q n,true)) {x:aA} (hx:RtQ q n x):fU q x=some true:=by
 unfold fU;rw [h2,aC];simp only
 have hL: ∀ r∈bC q n,bI r:=λr hr=>by
  have:=(H.vec ((jU H r).1 hr)).1.1;unfold bI;omega
 rw [aJ,aKL hL (by have:=sI H;omega),aC,bK ((jU H x).2 hx)]
def eN (q:Qv) (n:Nat) (x y:aA):Bool:=decide (0<=eul q n x y)
theorem aVY {q:Qv} {n:Nat} (H:Fin1 q n) (h2:bT q=some (bC q n,true)) {x y:aA} (hx:RtQ q n x) (hy:RtQ q n y):eY q x y=some (eN q n x y&&eN q n y x):=by
 have key: ∀ {x y:aA},RtQ q n x->RtQ q n y->jN q x y=some (max 0 (-(eul q n x y))):=by
  intro x y hx hy;obtain ⟨g1,g2⟩:=H.vec hx;obtain ⟨g3,g4⟩:=H.vec hy;have hbd:=aVA H.Q (x:=x) (y:=y) g1.sm g3.sm;unfold jN;rw [aHZ H h2 hx,aHZ H h2 hy,aC,eP,aY,aC,eP,aY,aEb H.Q g2 g4 g1.sm g3.sm,aC,cU (by omega)]
 unfold eY eN;rw [key hx hy,key hy hx,aC];by_cases c:0<=eul q n x y
 ·rw [bK (by omega),aJ,aC,bK c,Bool.true_and];congr 1;rw [Bool.eq_iff_iff,gR,gR];omega
 ·rw [cR (by omega),aY,cR c,Bool.false_and]
def aEE (q:Qv) (n:Nat) (L:aD) (w:aA):Bool:=(List.range w.length).all λa=>(List.range a).all λb=>eN q n (rI L (gx w a).toNat) (rI L (gx w b).toNat)&&eN q n (rI L (gx w b).toNat) (rI L (gx w a).toNat)
def aQf (q:Qv) (n:Nat) (L:aD) (w:aA):Bool:=w.any λi=>w.any λk=> !eN q n (rI L i.toNat) (rI L k.toNat)
theorem aQg {q:Qv} {n:Nat} (H:Fin1 q n) {w:aA} (hw: ∀ a∈w,0<=a/\a<(bC q n).length):(!aQf q n (bC q n) w)=aEE q n (bC q n) w:=by
 have hr: ∀ a∈w,RtQ q n (rI (bC q n) a.toNat):=λa ha=>by
  have h:=hw a ha;exact (jU H _).1 ((yW H).at (i:=a.toNat) (by omega)).1
 unfold aQf aEE;rw [Bool.eq_iff_iff];simp only [Bool.not_eq_true',List.any_eq_false,List.all_eq_true,List.mem_range,cY];constructor
 ·intro h a ha b hb;have h1:=h _ (mZ ha);have h2:=h _ (mZ (x:=w) (i:=b) (by omega));simp only [Bool.not_eq_true,List.any_eq_false] at h1 h2;have h3:=h1 _ (mZ (x:=w) (i:=b) (by omega));have h4:=h2 _ (mZ ha);exact ⟨by simpa using h3,by simpa using h4⟩
 ·intro h i hi;simp only [Bool.not_eq_true,List.any_eq_false];intro k hk;obtain ⟨a,ha,rfl⟩:=List.mem_iff_getElem.1 hi;obtain ⟨b,hb,rfl⟩:=List.mem_iff_getElem.1 hk
  have e:eN q n (rI (bC q n) (w[a]).toNat) (rI (bC q n) (w[b]).toNat)=true:=by
   rcases Nat.lt_trichotomy a b with hab|hab|hab
   ·have:=(h b hb a hab).2
    rwa [pK w ha,pK w hb] at this
   ·subst hab;have h1:=hr _ (List.getElem_mem ha);have h2:=((aNP H.Q _).1 h1).2.2;unfold eN;rw [h2];rfl
   ·have:=(h a ha b hab).1
    rwa [pK w ha,pK w hb] at this
  rw [e];simp
theorem aZv {q:Qv} {n:Nat} (H:Fin1 q n) {w:aA} (hl:w.length<=1000) (hw: ∀ a∈w,0<=a/\a<(bC q n).length):cJ w (λb0=>mK b0 w q (bC q n))=some (aQf q n (bC q n) w):=by
 have hr: ∀ a∈w,RtQ q n (rI (bC q n) a.toNat)/\cO (bC q n) a=some (rI (bC q n) a.toNat):=λa ha=>by
  have h:=hw a ha;obtain ⟨h1,h2⟩:=(yW H).at (i:=a.toNat) (by omega);rw [Int.toNat_of_nonneg h.1] at h2;exact ⟨(jU H _).1 h1,h2⟩
 refine aGb (λi=>w.any λk=> !eN q n (rI (bC q n) i.toNat) (rI (bC q n) k.toNat)) (λi hi=>?_) (by omega);unfold mK;rw [aGb (λk=> !eN q n (rI (bC q n) i.toNat) (rI (bC q n) k.toNat)) (λk hk=>?_) (by omega),aC];unfold oI;obtain ⟨g1,g2⟩:=hr i hi;obtain ⟨g3,g4⟩:=hr k hk;obtain ⟨v1,v2⟩:=H.vec g1;obtain ⟨v3,v4⟩:=H.vec g3;rw [g2,aC,g4,aC,aCb H.Q v2 v4 v1.sm v3.sm,aC];unfold eN;congr 1;rw [Bool.eq_iff_iff,Bool.not_eq_true',gR,decide_eq_false_iff_not];omega
theorem aXj {q:Qv} {n:Nat} (H:Fin1 q n) (h2:bT q=some (bC q n,true)) {W:aD} {j:Nat} (hj:j<W.length) (hl:(W[j]).length <=1000) (hw: ∀ a∈W[j],0<=a/\a<(bC q n).length):
  Lp (lI q (bC q n,true) (W,true) (j:Int)) (0,true)=some (aEE q n (bC q n) W[j]):=by
 have hat:cO W (j:Int)=some W[j]:=hZ hj
 have hr: ∀ a∈W[j],RtQ q n (rI (bC q n) a.toNat)/\cO (bC q n) a=some (rI (bC q n) a.toNat):=λa ha=>by
  have h:=hw a ha;obtain ⟨h1,h2⟩:=(yW H).at (i:=a.toNat) (by omega);rw [Int.toNat_of_nonneg h.1] at h2;exact ⟨(jU H _).1 h1,h2⟩
 generalize W[j]=w at*;refine eX (λk=>((k:Int),(List.range k).all λa=>(List.range a).all λb=>eN q n (rI (bC q n) (gx w a).toNat) (rI (bC q n) (gx w b).toNat)&&eN q n (rI (bC q n) (gx w b).toNat) (rI (bC q n) (gx w a).toNat))) w.length rfl (λk hk=>?_) (λ_=>?_)
 ·unfold lI;simp only;rw [hat,aC,kC hk,aJ];generalize hg:((List.range k).all λa=>(List.range a).all λb=>eN q n (rI (bC q n) (gx w a).toNat) (rI (bC q n) (gx w b).toNat)&&eN q n (rI (bC q n) (gx w b).toNat) (rI (bC q n) (gx w a).toNat))=g
  have hin:Lp (lH q (bC q n,true) (W,true) (j:Int) ((k:Int),g)) (g,0)=some (g&&(List.range k).all λb=>eN q n (rI (bC q n) (gx w k).toNat) (rI (bC q n) (gx w b).toNat)&&eN q n (rI (bC q n) (gx w b).toNat) (rI (bC q n) (gx w k).toNat)):=by
   refine eX (λb=>(g&&(List.range b).all λb=>eN q n (rI (bC q n) (gx w k).toNat) (rI (bC q n) (gx w b).toNat)&&eN q n (rI (bC q n) (gx w b).toNat) (rI (bC q n) (gx w k).toNat),(b:Int))) k (by simp) (λb hbk=>?_) (λ_=>?_)
   ·have hbl:b<w.length:=by omega
    unfold lH;simp only;rw [kC hbk,aJ,List.range_succ,List.all_append,←Bool.and_assoc];simp only [List.all_cons,List.all_nil,Bool.and_true];cases (g&&(List.range b).all λb=>eN q n (rI (bC q n) (gx w k).toNat) (rI (bC q n) (gx w b).toNat)&&eN q n (rI (bC q n) (gx w b).toNat) (rI (bC q n) (gx w k).toNat)) with
    |false=>rw [aY,cC hbk (by omega)];rfl
    |true=>
     obtain ⟨g1,g2⟩:=hr _ (mZ hk);obtain ⟨g3,g4⟩:=hr _ (mZ hbl);rw [aJ,hat,aC,uC hk,aC,g2,aC,aC,uC hbl,aC,g4,aC,aVY H h2 g1 g3,aC,cC hbk (by omega)];rfl
   ·unfold lH;simp only;rw [lM (bP _),aY]
  rw [hin,aC,cC hk (by omega),List.range_succ,List.all_append,hg];simp only [List.all_cons,List.all_nil,Bool.and_true]
 ·unfold lI;simp only;rw [hat,aC,lM (bP _),aY];rfl
theorem aVZ {α β γ:Type} (g:β->γ) (f:α->Option β): ∀ l:List α,(l.findSome? λk=>(f k).map g)=(l.findSome? f).map g
 | []=>rfl
 |a::l=>by
  simp only [List.findSome?_cons];cases f a with
  |none=>exact aVZ g f l
  |some b=>rfl
theorem aTN {q:Qv} (hb:bQ q) {x:aA} (hx:bI x): ∃ w b,jV q x=some (w,b)/\fD q x=some (w,b)/\w.length<=1000/\(b=true-> ∃ R,eB q=some (R,true)/\bT q=some (R,true)/\R.length<=20/\ ∀ a∈w,0<=a/\a<(R.length:Int)):=by
 obtain ⟨W,b,h1,h2,h3⟩:=aTM hb hx;obtain ⟨L,c,k1,k2,k3⟩:=aKM hb;rcases h3 with ⟨rfl,rfl⟩|⟨rfl,n,H,p1,p2,hW⟩
 ·refine ⟨[],false,?_,?_,by simp,λh=>by cases h⟩
  ·unfold jV;rw [h1,aC,k1,aC,eC (r:= .inl ()) (by unfold iW;rfl),aC];rfl
  ·unfold fD;rw [k2,aC,h2,aC,eC (r:= .inl ()) (by unfold eZ;rfl),aC];rfl
 ·have hWl:W.length<=500:=by rw [hW,List.length_take];omega
  have hw: ∀ w∈W,w.length<=1000/\ ∀ a∈w,0<=a/\a<(bC q n).length:=λw hm=>by
   rw [hW] at hm;obtain ⟨g1,g2⟩:=aIl (yW H) 40 0 x w (List.mem_of_mem_take hm);exact ⟨by omega,g2⟩
  obtain ⟨f,hf⟩: ∃ f:Nat->Option aA,f=λk=>bif aEE q n (bC q n) (rI W k) then some (rI W k) else none:=⟨_,rfl⟩
  have hlr: ∀ {k:Nat} (hk:k<W.length),rI W k=W[k]:=λhk=>by unfold rI;rw [fP hk];rfl
  have e1:Lp (iW q (W,true) (bC q n,true)) 0=some (((List.range' 0 (W.length - 0)).findSome? f).elim (.inl ()) λw=> .inr (w,true)):=by
   rw [xI (s0:=0) (s:=0) (n:=W.length) (λk=>(f k).map λw=>(w,true)) rfl (by omega) (Nat.zero_le _) (λk _ hk=>?_) (λ_=>?_),aVZ]
   ·cases (List.range' 0 (W.length - 0)).findSome? f <;> rfl
   ·obtain ⟨g1,g2⟩:=hw _ (List.getElem_mem hk);unfold iW;have hrow:aSn W (k:Int)=some W[k]:=by unfold aSn;rw [cR (by omega),aY,hZ hk]
    rw [kC hk,aJ,hZ hk,aC,aC,aZv H g1 g2,aC,aQg H g2,hrow,aC,hf];simp only;rw [hlr hk];cases aEE q n (bC q n) W[k] <;> rfl
   ·unfold iW;rw [lM (bP _),aY]
  have e2:Lp (eZ q (bC q n,true) (W,true)) 0=some (((List.range' 0 (W.length - 0)).findSome? f).elim (.inl ()) .inr):=by
   rw [xI (s0:=0) (s:=0) (n:=W.length) f rfl (by omega) (Nat.zero_le _) (λk _ hk=>?_) (λ_=>?_)]
   ·cases (List.range' 0 (W.length - 0)).findSome? f <;> rfl
   ·obtain ⟨g1,g2⟩:=hw _ (List.getElem_mem hk);unfold eZ;simp only;rw [kC hk,aJ,aJ,aJ,aXj H p2 hk g1 g2,aC,hf];simp only;rw [hlr hk];cases aEE q n (bC q n) W[k] with
    |false=>rfl
    |true=>rw [aJ,hZ hk,aC];rfl
   ·unfold eZ;simp only;rw [lM (bP _),aY]
  unfold jV fD;rw [h1,h2,p1,p2];simp only [aC];rw [e1,e2];simp only [aC];cases hfs:(List.range' 0 (W.length - 0)).findSome? f with
  |none=>exact ⟨[],false,rfl,rfl,by simp,λh=>by cases h⟩
  |some w=>
   refine ⟨w,true,rfl,rfl,?_⟩;obtain ⟨k,hk,he⟩:=List.exists_of_findSome?_eq_some hfs;have hkl:k<W.length:=by simp at hk;omega
   rw [hf] at he;simp only at he;cases hg:aEE q n (bC q n) (rI W k) with
   |false=>rw [hg] at he;cases he
   |true=>
    rw [hg] at he;cases he;rw [hlr hkl];exact ⟨(hw _ (List.getElem_mem hkl)).1,λ_=>⟨bC q n,rfl,rfl,sI H,(hw _ (List.getElem_mem hkl)).2⟩⟩
theorem aPR {q:Qv} (hb:bQ q) {x:aA} (hx:bI x): ∃ w b,jV q x=some (w,b)/\fD q x=some (w,b)/\w.length<=1000:=by
 obtain ⟨w,b,h1,h2,h3,_⟩:=aTN hb hx;exact ⟨w,b,h1,h2,h3⟩
def nmT:List Qv:=[⟨1,[],[]⟩,⟨2,[0],[1]⟩,⟨3,[0,1],[1,2]⟩,⟨3,[0,2],[1,1]⟩,⟨4,[0,1,2],[1,2,3]⟩]
def okW (q:Qv) (n:Nat) (L:aD) (w:aA):Bool:=
 decide (w.length=n)&&(w.all λa=>decide (0<=a)&&decide (a<L.length))&&((List.range n).all λi=>(List.range i).all λk=> !decide (lrT L (gx w i).toNat=lrT L (gx w k).toNat)&&eT q n L (gx w i).toNat (gx w k).toNat)&&
  (decide (xC 8 (w.map λa=>lrT L a.toNat)=1)||decide (xC 8 (w.map λa=>lrT L a.toNat)= -1))
def aZx (q:Qv) (n:Nat):Bool:=(aAM q n (bC q n) 8 [] 0).all (okW q n (bC q n))
theorem aVa: ∀ q∈nmT,aZx q q.n.toNat=true:=by decide+kernel
def bAf (q:Qv) (n:Nat):Bool:=(dZ (List.replicate n 2)).all λx=>((dec (bC q n) n 40 0 x).take 500).any (aEE q n (bC q n))
theorem aXE: ∀ q∈nmT,bAf q q.n.toNat=true:=by decide+kernel
end
noncomputable section
set_option maxRecDepth 10000
def aBy (a0:Rp) (a1:Rp):Option Int:=
 (pB a0 a1).bind λv1=>
 (zR a0.p v1).bind λv2=>
 some (wr (v1.rows - v2))
theorem aKs (a0:Rp) (a1:Rp) (r:Int) (h:aBy a0 a1=some r):HasC Tryz.prog 81 [.agg (eR a0),.agg (eR a1)] (.int r):=by
 refine hM [.tmp 4] Tryz.func81 Tryz.ntmps81 k<|sR<|ae (wb k) k<|ae (wb k) k<|aT k2<|sR<|lp k8<|lp k8<|oB h λv1 hv1 h=>ae (cM (aBh a0 a1 v1 hv1) k3 (aX (iL k) (aX (iL k) aU))) k<|ae (cB aL k k) k<|ae (ws k) k<|an<|tn<|sQ<|aQ fW<|fp k8<|lp k8<|fp k8<|lp k8<|lp k8<|oB h λv2 hv2 h=>ae (aS (aHt a0.p v1 v2 hv2) k (dF k (aX (vaM k2) aU))) k<|ae (gK k k) k<|aa k k<|an<|nH (by kernel_rfl)<|tn ?_;exact aG<|xQ h k2
def vQ (a0:Rp) (a1:Rp):Option Int:=
 (yR a0 a1).bind λv1=>
 bif !v1 then
 (some ((-1)))
 else
 ((aBy a0 a1).bind λv3=>
 some (v3))
theorem aKt (a0:Rp) (a1:Rp) (r:Int) (h:vQ a0 a1=some r):HasC Tryz.prog 16 [.agg (eR a0),.agg (eR a1)] (.int r):=by
 exact hM [.tmp 4] Tryz.func16 Tryz.ntmps16 k<|sR<|ae (wb k) k<|ae (wb k) k<|aT k2<|sQ<|sR<|lp k8<|lp k8<|oB h λv1 hv1 h=>ae (aS (aJb a0 a1 v1 hv1) k (aX (iL k) (aX (iL k) aU))) k<|ae (fB k) k<|an<|tn<|dC k h (λ_ h=>sR<|aT k2<|aG<|aM<|xQ h k2) λ_ h=>aI<|tn<|sR<|lp k8<|lp k8<|oB h λv3 hv3 h=>ae (aS (aKs a0 a1 v3 hv3) k (aX (iL k) (aX (iL k) aU))) k<|aT k2<|aG<|xQ h k2
def jX (a0:aA) (a1:aD):Option Bool:=
 bif !decide ((a0.length:Int)=(a1.length:Int)) then
 (some (true))
 else
 ((iT a0 (-100) 100).bind λv2=>
 some (!v2))
theorem aDG (a0:aA) (a1:aD) (r:Bool) (h:jX a0 a1=some r):HasC Tryz.prog 96 [.list 1 (a0.map eI),.ref ((bU 1 (bU 1 eI)) a1)] (.bl r):=by
 exact hM [.tmp 3] Tryz.func96 Tryz.ntmps96 k<|sR<|aT k2<|sR<|am k k<|ln k4<|lr k7<|ln k4<|cm k4<|am k k<|kI h (λq1 h=>aH 9 k q1<|aK k4<|ak k k<|pk k3<|aT k2<|aG<|kD h k2) λq1 h=>aH 9 k q1<|am k k<|oB h λv2 hv2 h=>ae (aS (qS a0 (-100) 100 v2 hv2) k (dF k (dF k (dF k aU)))) k<|ae (fB k) k<|pk k3<|aT k2<|aG<|kD h k2
def pL (a0:aD):Option Int:=
 bif decide (5<(a0.length:Int)) then
 (some (0))
 else
 ((jH a0 (λb0=>jX b0 a0)).bind λv2=>
 bif v2 then
 (some (0))
 else
 ((iO 8 a0).bind λv4=>
 some (v4)))
theorem aEF (a0:aD) (r:Int) (h:pL a0=some r):HasC Tryz.prog 24 [.list 1 (a0.map (bU 1 eI))] (.int r):=by
 exact hM [.tmp 2] Tryz.func24 Tryz.ntmps24 k<|sR<|ae (wb k) k<|aT k2<|sQ<|sR<|lp k8<|ln k4<|cm k4<|am k k<|kI h (λq1 h=>aH 6 k q1<|aK k4<|ak k k<|pk k3<|an<|tn<|dO k k<|sR<|aT k2<|aG<|aM<|xQ h k2) λq1 h=>aH 6 k q1<|lp k8<|ae (rQ (vs:=[.ptr 0 0 0]) k (by simp)) k<|oB h λv2 hv2 h=>ae (aS (xU a0 (λb0=>jX b0 a0) k (λb0 r h=>aDG b0 a0 r h) v2 hv2) k (dF k (aX (aOB (zB (aGm k k (oA (vU k) aCo)) aFk)) aU))) k<|pk k3<|an<|tn<|dC k h (λ_ h=>sR<|aT k2<|aG<|aM<|xQ h k2) λ_ h=>aI<|tn<|sR<|lp k8<|oB h λv4 hv4 h=>ae (aS (wZ 8 a0 v4 hv4) k (dF k aU)) k<|aT k2<|aG<|xQ h k2
end
section
theorem aVb {q:Qv} {n:Nat} (H:Fin1 q n) {x:aA} (hd:rM q x=true):XOk x n:=by
 unfold rM at hd;simp only [cY,gR] at hd;obtain ⟨_,hl,ha,_⟩:=hd;have:=H.Q.n0;refine ⟨by omega,H.Q.n1,H.Q.n5,λa h=>?_⟩;have:=List.all_eq_true.1 ha a h;exact tW this
theorem aQh {q:Qv} {n:Nat} (H:Fin1 q n) (hp:bT q=some (bC q n,true)) {x:aA} (hx:bI x) (hd:rM q x=true):eJ q x=some ((dec (bC q n) n 40 0 x).take 500,true):=by
 have hX:=aVb H hd;have hs:x.sum<40:=by have:=(aJc hX.nn).2;have:=hX.len;have:=hX.n5;omega
 have e2:=aQe (yW H) 40 0 hX hs (by omega);rw [show ((0:Nat):Int)=0 from rfl] at e2;unfold eJ;rw [hp,aC,eP,aY,wX H.Q.bq hx,aC,hd,eP,aY];simp only;rw [e2,aC]
theorem aTO {q:Qv} {n:Nat} (H:Fin1 q n) (hp:bT q=some (bC q n,true)) {x:aA} (hx:bI x) (hd:rM q x=true) (hg:((dec (bC q n) n 40 0 x).take 500).any (aEE q n (bC q n))=true) {w:aA} {b:Bool} (h:fD q x=some (w,b)):b=true:=by
 obtain ⟨W,hW⟩: ∃ W,W=(dec (bC q n) n 40 0 x).take 500:=⟨_,rfl⟩;have hWl:W.length<=500:=by rw [hW,List.length_take];omega
 have hw: ∀ w∈W,w.length<=1000/\ ∀ a∈w,0<=a/\a<(bC q n).length:=λw hm=>by
  rw [hW] at hm;obtain ⟨g1,g2⟩:=aIl (yW H) 40 0 x w (List.mem_of_mem_take hm);exact ⟨by omega,g2⟩
 obtain ⟨f,hf⟩: ∃ f:Nat->Option aA,f=λk=>bif aEE q n (bC q n) (rI W k) then some (rI W k) else none:=⟨_,rfl⟩
 have hlr: ∀ {k:Nat} (hk:k<W.length),rI W k=W[k]:=λhk=>by unfold rI;rw [fP hk];rfl
 have e2:Lp (eZ q (bC q n,true) (W,true)) 0=some (((List.range' 0 (W.length - 0)).findSome? f).elim (.inl ()) .inr):=by
  rw [xI (s0:=0) (s:=0) (n:=W.length) f rfl (by omega) (Nat.zero_le _) (λk _ hk=>?_) (λ_=>?_)]
  ·cases (List.range' 0 (W.length - 0)).findSome? f <;> rfl
  ·obtain ⟨g1,g2⟩:=hw _ (List.getElem_mem hk);unfold eZ;simp only;rw [kC hk,aJ,aJ,aJ,aXj H hp hk g1 g2,aC,hf];simp only;rw [hlr hk];cases aEE q n (bC q n) W[k] with
   |false=>rfl
   |true=>rw [aJ,hZ hk,aC];rfl
  ·unfold eZ;simp only;rw [lM (bP _),aY]
 have h3:=aQh H hp hx hd;rw [←hW] at h3 hg;unfold fD at h;rw [hp,aC,h3,aC,e2,aC] at h;cases hfs:(List.range' 0 (W.length - 0)).findSome? f with
 |none=>
  exfalso;rw [List.findSome?_eq_none_iff] at hfs;obtain ⟨w0,hw0,hg0⟩:=List.any_eq_true.1 hg;obtain ⟨k,hk,rfl⟩:=List.getElem_of_mem hw0;have:=hfs k (by simp;omega);rw [hf] at this;simp only [hlr hk] at this;rw [hg0] at this;cases this
 |some w'=>
  rw [hfs] at h;simp only [Option.elim_some,Sum.elim_inr,Option.some.injEq,Prod.mk.injEq] at h;exact h.2.symm
theorem aZy: ∀ q∈nmT,(decide (q.src.length<=10)&&decide (q.tgt.length<=10)&&xJ q&&decide (aCa q.n.toNat (rB q q.n.toNat) (2 ^ q.n.toNat - 1) 1 1=1)&&decide (0<=q.n))=true:=by decide+kernel
theorem aNX {q:Qv} (hq:q∈nmT):Fin1 q q.n.toNat/\bT q=some (bC q q.n.toNat,true)/\fQ q=some 1:=by
 have h:=aZy q hq;simp only [cY,gR] at h;obtain ⟨⟨⟨⟨h1,h2⟩,h3⟩,h4⟩,h5⟩:=h;have hb:bQ q:=⟨by unfold bI;omega,by unfold bI;omega,trivial⟩;obtain ⟨n,Q⟩:=qok hb h3;have hn:q.n.toNat=n:=by have:=Q.n0;omega
 rw [hn] at h4 ⊢;obtain ⟨F,G⟩:=aOu Q λt h1 h2=>aHR h4 t h1 (by omega);have H:Fin1 q n:=⟨Q,F,G⟩;refine ⟨H,?_,by rw [yV Q,h4]⟩;unfold bT;rw [yV Q,aC,h4,bK rfl,eP,aY,aHN Q,aC];exact aIE H
theorem aVc {n:Nat} {x:aA} (h1:x.length=n) (h2: ∀ a∈x,0<=a/\a<=2):x∈dZ (List.replicate n 2):=by
 rw [aEc,List.length_replicate];refine ⟨h1,λi hi=>?_⟩;have:=h2 _ (mZ (x:=x) (i:=i) (by omega));rw [aNQ hi];have h4:(2:Int).toNat=2:=rfl;omega
theorem aXF {q:Qv} (hq:q∈nmT) {x:aA} (hl:(x.length:Int)=q.n) (h2: ∀ a∈x,0<=a/\a<=2) (hd:rM q x=true) {w:aA} {b:Bool} (h:fD q x=some (w,b)):b=true:=by
 obtain ⟨H,hp,_⟩:=aNX hq;have h5:=H.Q.n5;have h0:=H.Q.n0;refine aTO H hp (by unfold bI;omega) hd ?_ h;have hc:=List.all_eq_true.1 (aXE q hq) x;refine hc (aVc ?_ h2);omega
theorem aRp {q:Qv} (hb:bQ q): ∃ W b,kP q=some (W,b)/\iP q=some (W,b)/\W.length<=160000/\(∀ w∈W,w.length<=5)/\((W=[]/\b=false)∨ ∃ n,Fin1 q n/\n<=4/\W=aAM q n (bC q n) 8 [] 0/\b=true):=by
 obtain ⟨L,b,h1,h2,h3⟩:=aKM hb;unfold kP iP;rw [h1,h2];simp only [aC];rcases h3 with ⟨rfl,rfl⟩|⟨rfl,n,H,rfl⟩
 ·exact ⟨[],false,rfl,rfl,by simp,by simp,.inl ⟨rfl,rfl⟩⟩
 ·have hl:=sI H;rw [H.Q.n0];simp only [eP,aY];by_cases h4:4<n
  ·rw [bK (by omega)];exact ⟨[],false,rfl,rfl,by simp,by simp,.inl ⟨rfl,rfl⟩⟩
  ·rw [cR (by omega)];obtain ⟨t1,t2⟩:=aPN (q:=q) (n:=n) hl 8 [] 0 (Nat.zero_le _);have t3:(aAM q n (bC q n) 8 [] 0).length <=160000:=Nat.le_trans t1 (Nat.le_trans (Nat.pow_le_pow_right (by omega) (show n - ([]:aA).length <=4 by simp;omega)) (by decide));have hin:InT (bC q n) []:=λa ha=>by cases ha
   have e1:=aRm H 8 [] 0 [] (by simp;omega) (Nat.zero_le _) hin (Nat.zero_le _) (by rw [List.length_nil];omega);have e2:=aRn H 8 [] 0 (by simp;omega) (Nat.zero_le _) hin (Nat.zero_le _) (.inl ⟨rfl,rfl⟩) (by omega);rw [List.nil_append] at e1;refine ⟨aAM q n (bC q n) 8 [] 0,true,?_,?_,t3,λw hw=>by have:=t2 w hw;omega,.inr ⟨n,H,by omega,rfl,rfl⟩⟩
   ·rw [aY,show (0:Int)=((0:Nat):Int) from rfl,e1];rfl
   ·rw [aY,e2];rfl
def rO (L:aD) (w:aA):aD:=w.map λa=>lrT L a.toNat
theorem aPS {L:aD} {w:aA} {i:Nat} (hi:i<w.length):(rO L w)[i]?.getD []=lrT L (gx w i).toNat:=by
 unfold rO gx;rw [List.getElem?_map,fP hi];rfl
section
variable {q:Qv} {n:Nat} (H:Fin1 q n) (hp:bT q=some (bC q n,true)) {w:aA} (hw:okW q n (bC q n) w=true)
include H hw
omit H in
theorem aCg:w.length=n/\(∀ a∈w,0<=a/\a<(bC q n).length)/\(∀ i,i<n-> ∀ k,k<i->lrT (bC q n) (gx w i).toNat ≠lrT (bC q n) (gx w k).toNat/\eT q n (bC q n) (gx w i).toNat (gx w k).toNat=true)/\(xC 8 (rO (bC q n) w)=1∨xC 8 (rO (bC q n) w)= -1):=by
 have hw:=hw;unfold okW at hw;simp only [cY,Bool.or_eq_true,gR] at hw;obtain ⟨⟨⟨h1,h2⟩,h3⟩,h4⟩:=hw;refine ⟨h1,λa ha=>?_,λi hi k hk=>?_,h4⟩
 ·have:=List.all_eq_true.1 h2 a ha;simpa using this
 ·have:=List.all_eq_true.1 (List.all_eq_true.1 h3 i (List.mem_range.2 hi)) k (List.mem_range.2 hk);rw [cY,Bool.not_eq_true',decide_eq_false_iff_not] at this;exact this
theorem aRq {i:Nat} (hi:i<n):RtQ q n (lrT (bC q n) (gx w i).toNat):=by
 obtain ⟨h1,h2,_⟩:=aCg hw;have:=h2 _ (mZ (x:=w) (i:=i) (by omega));exact (aKr H (by omega)).1
theorem aKU:(rO (bC q n) w).length=n/\ ∀ r∈rO (bC q n) w,RtQ q n r:=by
 obtain ⟨h1,h2,_⟩:=aCg hw;refine ⟨by unfold rO;rw [fE];exact h1,λr hr=>?_⟩;obtain ⟨a,ha,rfl⟩:=List.mem_map.1 hr;have:=h2 a ha;exact (aKr H (by omega)).1
theorem aXG:pL (rO (bC q n) w)=some (xC 8 (rO (bC q n) w)):=by
 obtain ⟨h1,h2⟩:=aKU H hw;have h5:=H.Q.n5;have hl: ∀ r∈rO (bC q n) w,r.length=n:=λr hr=>(H.vec (h2 r hr)).2;unfold pL jH;rw [cR (by omega),aY]
 obtain ⟨i,g1,g2⟩:=aGV (v:=rO (bC q n) w) (f:=λb0=>jX b0 (rO (bC q n) w)) (λ_=>false) (λr hr=>by
  have e1:=hl r hr;have e2:=(H.vec (h2 r hr)).1.2;simp only [jX];rw [bK (by omega),eP,aY,zT (by unfold bI;omega),aC,show (r.all λx=>inR x (-100) 100)=true from List.all_eq_true.2 λa ha=>aEz (by have:=e2 a ha;omega) (by have:=e2 a ha;omega)]
  rfl) (by omega)
 rw [g1,aC,aC,g2,show ((rO (bC q n) w).any λ_=>false)=false by simp,aY];rw [aHP 8 n _ (by omega) (by omega) h1 hl,aC]
include hp
theorem aVd:kO q (rO (bC q n) w)=some true:=by
 obtain ⟨h1,h2⟩:=aKU H hw;obtain ⟨w1,w2,w3,_⟩:=aCg hw;have h5:=H.Q.n5;rw [aKO H.Q.bq ⟨by omega,λr hr=>by have:=(H.vec (h2 r hr)).2;unfold bI;omega⟩,H.Q.qv,bK (by rw [h1,H.Q.n0]),h1];rw [Bool.true_and,Bool.true_and,Option.some.injEq,List.all_eq_true];intro i hi;have hi:=List.mem_range.1 hi;unfold aGW;have hr:=aRq H hw hi;rw [aPS (by omega),cY];refine ⟨?_,List.all_eq_true.2 λk hk=>?_⟩
 ·unfold aKN;rw [aHZ H hp hr];rfl
 ·have hk:=List.mem_range.1 hk;have hr2:=aRq H hw (show k<n by omega);obtain ⟨g1,g2⟩:=w3 i hi k hk;rw [aPS (by omega),cR g1,Bool.not_false,Bool.true_and];unfold aDz;rw [aVY H hp hr hr2];exact g2
end
structure Cu where
 b:aA
 i:Int
 h:Int
section
variable {P:Program} {dst:Option Tmp} {ty:TypeId} {pos:String} {aft:Array Edge} {g:Option (Nat×Bool)} {s:AState}
theorem aVe {t t':TypeId} {x y:Operand} {a b:Int} {k:IntKind} (hx:s.ev x=some (.int a)) (hy:s.ev y=some (.sc (.int k b))) (h:(!decide (b<0))=true):AEff P ⟨dst,.binOp .shr t x y t',ty,pos,aft,g⟩ s.ev s.heap s.kp ⟨.int (aBw a b),[],[],[]⟩:=
 pQ hx hy rfl λw=>by
  have hb: ¬ b<0:=by simpa using h
  simp [eqGuard,binOp,Op.shift,hb,aBw,IntKind.bits]
end
section
variable {P:Program} {dst:Option Tmp} {ty:TypeId} {pos:String} {aft:Array Edge} {g:Option (Nat×Bool)} {ins:Operand->Option AV} {hp:Hp} {κ:Kp}
theorem iR (b:Nat) (t:List Nat) {fo:Operand} {xs:Array Operand} {ats:Array TypeId} {f:FuncId} {caps avs ds:List AV} {e:List (List AV)} {i h I H:Int} {r:AV} {ed:List (Nat×Option Blk)}
  (hc:HasE P f ds [(0,⟨3,[[.list 1 e,.int i,.int h]]⟩)] 1 r [(0,⟨3,[[.list 1 e,.int I,.int H]]⟩)]) (hf:ins fo=some (.fn f caps)) (hx:evs ins xs.toList=some avs)
  (hav:All2 (aSf (sg [(0,b)]) 1 hp (b::t) [(0,⟨3,[[.list 1 e,.int i,.int h]]⟩)]) (avs++caps) ds) (hb:hp b=some ⟨3,[[.list 1 e,.int i,.int h]]⟩) (hlive:((b::t).all λb=>(hp b).isSome)=true)
  (hr:aNB (sg [(b,0)]) (b+1) r r) (htr:aRN (b::t) r=true) (he:yP (b::t) [(b,⟨3,[[.list 1 e,.int I,.int H]]⟩)]=ed):
  AEff P ⟨dst,.call ⟨.value fo,xs,ats⟩,ty,pos,aft,g⟩ ins hp κ ⟨r,b::t,ed,[]⟩:=by
 have hs:sg [(b,0)] b=some 0:=by
  unfold sg;simp
 have hct:(b::t).contains b=true:=by simp
 have hlt:Nat.blt b (b+1)=true:=by simp [Nat.blt]
 refine cZ (σ:=sg [(0,b)]) (σ':=sg [(b,0)]) (touch:=b::t) (news:=[]) (hl2:=[(b,⟨3,[[.list 1 e,.int I,.int H]]⟩)]) (n':=b+1) (r2:=r) hc hf hx hav ?_ rfl ?_ hlive ?_ rfl hr ?_ ?_ ?_ ?_
 ·exact ⟨⟨_,hb,rfl,.inr ⟨_,_,rfl,⟨_,_,rfl,⟨rfl,rfl⟩,⟨_,_,rfl,rfl,⟨_,_,rfl,rfl,rfl⟩⟩⟩,rfl⟩⟩,rfl,trivial⟩
 ·show (((b::t).contains b)&&true)=true;rw [hct];rfl
 ·refine ⟨?_,hlt,trivial⟩;rw [hs];exact ⟨_,rfl,rfl,.inr ⟨_,_,rfl,⟨_,_,rfl,⟨rfl,rfl⟩,⟨_,_,rfl,rfl,⟨_,_,rfl,rfl,rfl⟩⟩⟩,rfl⟩⟩
 ·unfold aDh;simp [hs,sg];rfl
 ·rw [List.append_nil];exact ⟨hct,gM rfl,trivial⟩
 ·rw [List.append_nil];exact htr
 ·rw [List.append_nil];exact he
end
end
noncomputable section
set_option maxRecDepth 10000
def vE (x1:(Int×ByteArray)):Option ((Int×ByteArray) ⊕ ByteArray):=
 bif !decide (x1.1=0) then
 (bif decide (x1.1.tmod 10<0) then
 (bif decide ((aKn [IntKind.u8.wrap (wr (48+(wr (-(x1.1.tmod 10)))))]).size +x1.2.size<=9223372036854775807) then
 (some (.inl (wr (x1.1.tdiv 10),((aKn [IntKind.u8.wrap (wr (48+(wr (-(x1.1.tmod 10)))))])++x1.2))))
 else none)
 else
 (bif decide ((aKn [IntKind.u8.wrap (wr (48+(x1.1.tmod 10)))]).size +x1.2.size<=9223372036854775807) then
 (some (.inl (wr (x1.1.tdiv 10),((aKn [IntKind.u8.wrap (wr (48+(x1.1.tmod 10)))])++x1.2))))
 else none))
 else
 (some (.inr x1.2))
def nI (a0:Int):Option ByteArray:=
 bif decide (a0=0) then
 (some ((⟨#[48]⟩:ByteArray)))
 else
 ((Lp vE (a0,(⟨#[]⟩:ByteArray))).bind λy6=>
 bif decide (a0<0) then
 (bif decide ((⟨#[45]⟩:ByteArray).size +y6.size<=9223372036854775807) then
 (some (((⟨#[45]⟩:ByteArray)++y6)))
 else none)
 else
 (some (y6)))
theorem yX (a0:Int) (r:ByteArray) (h:nI a0=some r):HasC Tryz.prog 261 [.int a0] (.str r):=by
 refine hM [.tmp 2] Tryz.func261 Tryz.ntmps261 k<|sR<|aT k2<|sQ<|sR<|am k k<|cm k4<|an<|tn<|dC k h (λ_ h=>sR<|aT k2<|aG<|aM<|sp h (cA k k k (aLP k))) λ_ h=>?_;refine aI<|tn<|sR<|aT k2<|sR<|am k k<|cm k4<|aT k2<|sQ<|aE<|oB h λy6 hy6 h=>cH (body:=vE) hy6 (λ(x1:(Int×ByteArray))=>mN [(0,.int x1.1),(3,.str x1.2),(4,.bl (decide (a0<0)))] [] 0) (λr e t=>e= .exit 0/\Ent t (mN [(3,.str r),(4,.bl (decide (a0<0)))] [] 0)) (bO (bN k2) aR k4) ?_ ?_
 ·intro x1 o h;exact sQ<|sR<|am k k<|cm k4<|an<|tn<|dC k h (λ_ h=>aI<|tn<|aE<|sR<|am k k<|ae (aDg k k (by decide)) k<|aT k2<|sQ<|sR<|am k k<|cm k4<|an<|tn<|dC k h (λ_ h=>rg<|am k k<|ae (aLR k) k<|aT k2<|sR<|am k k<|ae (bJ k k) k<|ae (aXa (u0:= .int .i64) (by kernel_rfl) (by kernel_rfl) k) k<|ae (wl k) k<|ae (aXb (e:=5) (l:=[IntKind.u8.wrap (wr (48+(wr (-(x1.1.tmod 10)))))]) (by kernel_rfl) (by kernel_rfl) (by kernel_rfl) k (aCs k k ⟨_,_,k,⟨_,_,k,k,k⟩,k⟩)) k<|am k k<|cG h λq4 h=>ae (aHz k k q4) k<|aT k2<|rg<|am k k<|ae (aTq k k (by decide)) k<|aa k k<|an<|aZ<|tn<|sp h ⟨_,k,(bO (bN k2) aR k4)⟩) λ_ h=>aI<|tn<|sR<|am k k<|ae (bJ k k) k<|ae (aXa (u0:= .int .i64) (by kernel_rfl) (by kernel_rfl) k) k<|ae (wl k) k<|ae (aXb (e:=5) (l:=[IntKind.u8.wrap (wr (48+(x1.1.tmod 10)))]) (by kernel_rfl) (by kernel_rfl) (by kernel_rfl) k (aCs k k ⟨_,_,k,⟨_,_,k,k,k⟩,k⟩)) k<|am k k<|cG h λq5 h=>ae (aHz k k q5) k<|aT k2<|rg<|am k k<|ae (aTq k k (by decide)) k<|aa k k<|an<|aZ<|tn<|sp h ⟨_,k,(bO (bN k2) aR k4)⟩) λ_ h=>bA<|aB<|aB<|sp h ⟨_,k,k,(bO (bN k2) aR k4)⟩
 ·rintro e t ⟨rfl,hent⟩;exact aP<|tn<|aN hent<|sQ<|sR<|am k k<|an<|tn<|dC k h (λ_ h=>sR<|am k k<|cG h λq8 h=>ae (aHz k k q8) k<|aT k2<|aG<|aM<|sp h (cA k k k (aLP k))) λ_ h=>aI<|tn<|sR<|am k k<|aT k2<|aG<|sp h (cA k k k (aLP k))
def nB (a0:Qv) (x1:(ByteArray×Int)):Option ((ByteArray×Int) ⊕ ByteArray):=
 bif decide (x1.2<(a0.src.length:Int)) then
 (bif decide (x1.1.size+(⟨#[32]⟩:ByteArray).size <=9223372036854775807) then
 ((cO a0.src x1.2).bind λv5=>
 (nI v5).bind λv6=>
 bif decide ((x1.1++(⟨#[32]⟩:ByteArray)).size +v6.size<=9223372036854775807) then
 ((cO a0.tgt x1.2).bind λv7=>
 (nI v7).bind λv8=>
 bif decide (((x1.1++(⟨#[32]⟩:ByteArray))++v6).size +v8.size<=9223372036854775807) then
 (some (.inl ((((x1.1++(⟨#[32]⟩:ByteArray))++v6)++v8),wr (x1.2+1))))
 else none)
 else none)
 else none)
 else
 (some (.inr x1.1))
def qJ (a0:Qv):Option ByteArray:=
 (fS a0).bind λv1=>
 bif !v1 then
 (some ((⟨#[]⟩:ByteArray)))
 else
 ((nI a0.n).bind λv3=>
 bif decide (v3.size+(⟨#[58]⟩:ByteArray).size <=9223372036854775807) then
 ((Lp (nB a0) ((v3++(⟨#[58]⟩:ByteArray)),0)).bind λy12=>
 some (y12))
 else none)
theorem aEp (a0:Qv) (r:ByteArray) (h:qJ a0=some r):HasC Tryz.prog 233 [.agg (eQ a0)] (.str r):=by
 refine hM [.tmp 2] Tryz.func233 Tryz.ntmps233 k<|sR<|ae (wb k) k<|aT k2<|sQ<|sR<|lp k8<|oB h λv1 hv1 h=>ae (aS (oM a0 v1 hv1) k (aX (iL k) aU)) k<|ae (fB k) k<|an<|tn<|dC k h (λ_ h=>sR<|aT k2<|aG<|aM<|sp h (cA k k k (aLP k))) λ_ h=>?_;refine aI<|tn<|sR<|fp k8<|lp k8<|oB h λv3 hv3 h=>ae (aS (yX a0.n v3 hv3) k (dF k aU)) k<|cG h λq13 h=>ae (aHz k k q13) k<|aT k2<|sQ<|sR<|aT k2<|aE<|oB h λy12 hy12 h=>cH (body:=(nB a0)) hy12 (λ(x1:(ByteArray×Int))=>mN [(1,.ptr 0 0 0),(3,.str x1.1),(4,.int x1.2)] [(0,⟨3,[eQ a0]⟩)] 1) (λr e t=>e= .exit 0/\Ent t (mN [(3,.str r)] [] 0)) (bO (bN k2) (bS k<|aR) k4) ?_ ?_
 ·intro x1 o h;refine sQ<|sR<|am k k<|fp k8<|lp k8<|ln k4<|cm k4<|an<|tn<|dC k h (λ_ h=>?_) λ_ h=>bA<|aB<|aB<|sp h ⟨_,k,k,(bO (bN k2) aR k4)⟩;refine aI<|tn<|sQ<|aE<|aQ fW<|am k k<|cG h λq11 h=>ae (aHz k k q11) k<|fp k8<|lp k8<|am k k<|oB h λv5 hv5 h=>ae (xl hv5 k) k<|lr k7<|oB h λv6 hv6 h=>ae (aS (yX v5 v6 hv6) k (dF k aU)) k<|cG h λq10 h=>ae (aHz k k q10) k<|fp k8<|lp k8<|am k k<|oB h λv7 hv7 h=>ae (xl hv7 k) k<|lr k7<|oB h λv8 hv8 h=>ae (aS (yX v7 v8 hv8) k (dF k aU)) k<|cG h λq9 h=>ae (aHz k k q9) k<|aa k k<|an<|nH (by kernel_rfl)<|aZ<|tn<|rg<|am k k<|ae (bJ k k) k ?_;exact aT k2<|sp h ⟨_,k,(bO (bN k2) (bS k<|aR) k4)⟩
 ·rintro e t ⟨rfl,hent⟩;exact aP<|tn<|aN hent<|sR<|am k k<|aT k2<|aG<|sp h (cA k k k (aLP k))
def aAN (a0:ByteArray) (a1:Int) (x1:((List ByteArray)×Int×ByteArray)):Option (((List ByteArray)×Int×ByteArray) ⊕ ((List ByteArray)×ByteArray)):=
 bif decide (x1.2.1<(a0.size:Int)) then
 ((aJx a0 x1.2.1).bind λv2=>
 bif decide (v2=a1) then
 (bif decide (x1.1.length+[x1.2.2].length <=4294967296) then
 (some (.inl ((x1.1++[x1.2.2]),wr (x1.2.1+1),(⟨#[]⟩:ByteArray))))
 else none)
 else
 (bif (decide (0<=x1.2.1)&&(decide (x1.2.1<=wr (x1.2.1+1))&&decide (wr (x1.2.1+1)<=(a0.size:Int)))) then
 (bif decide (x1.2.2.size+(a0.extract x1.2.1.toNat (wr (x1.2.1+1)).toNat).size <=9223372036854775807) then
 (some (.inl (x1.1,wr (x1.2.1+1),(x1.2.2++(a0.extract x1.2.1.toNat (wr (x1.2.1+1)).toNat)))))
 else none)
 else none))
 else
 (some (.inr (x1.1,x1.2.2)))
def aAn (a0:ByteArray) (a1:Int):Option (List ByteArray):=
 (Lp (aAN a0 a1) (([]:(List ByteArray)),0,(⟨#[]⟩:ByteArray))).bind λy7=>
 bif decide (y7.1.length+[y7.2].length <=4294967296) then
 (some ((y7.1++[y7.2])))
 else none
theorem aNY (a0:ByteArray) (a1:Int) (r:(List ByteArray)) (h:aAn a0 a1=some r):HasC Tryz.prog 232 [.str a0,.sc (.int .u8 a1)] (.list 1 (r.map aIJ)):=by
 refine hM [.tmp 4] Tryz.func232 Tryz.ntmps232 k<|sR<|aT k2<|sR<|ae (wl k) k<|aT k2<|aN (t:=mN [(0,.str a0),(1,.sc (.int .u8 a1)),(5,.own 0 0 (([]:(List ByteArray)).length))] [(0,⟨1,List.map (ow aIJ) ([]:(List ByteArray))⟩)] 1) (bO (pP 2 k2 (mO ⟨_,k,⟨k,k,(by simp only [aO,lA,lT,lR,lC,lN]),k⟩⟩ aR)) (cF (aBb.plainO _) k<|aR) k4)<|sR<|aT k2<|sQ<|sR<|aT k2<|aE<|oB h λy7 hy7 h=>cH (body:=(aAN a0 a1)) hy7 (λ(x1:((List ByteArray)×Int×ByteArray))=>mN [(0,.str a0),(1,.sc (.int .u8 a1)),(5,.own 0 0 x1.1.length),(6,.str x1.2.2),(7,.int x1.2.1)] [(0,⟨1,x1.1.map (ow aIJ)⟩)] 1) (λr e t=>e= .exit 0/\Ent t (mN [(5,.own 0 0 r.1.length),(6,.str r.2)] [(0,⟨1,r.1.map (ow aIJ)⟩)] 1)) (bO (bN k2) (cF (aBb.plainO _) k<|aR) k4) ?_ ?_
 ·intro x1 o h;exact sQ<|sR<|am k k<|am k k<|ae (aND (by kernel_rfl) k) k<|cm k4<|an<|tn<|dC k h (λ_ h=>aI<|tn<|sQ<|aE<|sR<|am k k<|am k k<|oB h λv2 hv2 h=>ae (aGM (by kernel_rfl) hv2 k k) k<|am k k<|cm k4<|an<|tn<|dC k h (λ_ h=>sR<|am k k<|am k k<|ae (wl k) k<|cG h λq4 h=>ae (lO aL (l:=x1.1) (m:=[x1.2.2]) aTt q4 k k k k k k k k k k k k) k<|aT k2<|rg<|aa k k<|an<|aZ<|tn<|rg<|am k k<|ae (bJ k k) k<|aT k2<|sp h ⟨_,k,(kE [2] (bN k2) (cF (aBb.plainO _) k<|aR) k4)⟩) λ_ h=>rg<|am k k<|am k k<|am k k<|am k k<|ae (bJ k k) k<|cG h λq5 h=>ae (aUm (by kernel_rfl) q5 k k k) k<|cG h λq6 h=>ae (aHz k k q6) k<|aa k k<|an<|aZ<|tn<|rg<|am k k<|ae (bJ k k) k<|aT k2<|sp h ⟨_,k,(bO (bN k2) (cF (aBb.plainO _) k<|aR) k4)⟩) λ_ h=>bA<|aB<|aB<|sp h ⟨_,k,k,(bO (bN k2) (cF (aBb.plainO _) k<|aR) k4)⟩
 ·rintro e t ⟨rfl,hent⟩;exact aP<|tn<|aN hent<|sR<|am k k<|am k k<|ae (wl k) k<|cG h λq8 h=>ae (lO aL (l:=y7.1) (m:=[y7.2]) aTt q8 k k k k k k k k k k k k) k<|aT k2<|aG<|sp h (cA k k k (pS (gF aBb k k)))
def tI (v1:(List ByteArray)) (x1:(aA×aA×Int)):Option ((aA×aA×Int) ⊕ ((aA×aA) ⊕ (Qv×Bool))):=
 bif decide (x1.2.2<((v1.length:Nat):Int)) then
 ((cO v1 x1.2.2).bind λv8=>
 bif !decide ((v8.size:Int)=2) then
 (some (.inr (.inr (((⟨0,[],[]⟩:Qv),false)))))
 else
 ((cO v1 x1.2.2).bind λv10=>
 (aJx v10 0).bind λv11=>
 bif decide (x1.1.length+[wr ((IntKind.i64.wrap v11) - 48)].length <=4294967296) then
 ((cO v1 x1.2.2).bind λv13=>
 (aJx v13 1).bind λv14=>
 bif decide (x1.2.1.length+[wr ((IntKind.i64.wrap v14) - 48)].length <=4294967296) then
 (some (.inl ((x1.1++[wr ((IntKind.i64.wrap v11) - 48)]),(x1.2.1++[wr ((IntKind.i64.wrap v14) - 48)]),wr (x1.2.2+1))))
 else none)
 else none))
 else
 (some (.inr (.inl (x1.1,x1.2.1))))
def cX (a0:ByteArray):Option (Qv×Bool):=
 (aAn a0 32).bind λv1=>
 (cO v1 0).bind λv2=>
 bif !decide ((v2.size:Int)=2) then
 (some (((⟨0,[],[]⟩:Qv),false)))
 else
 (bif decide (30<(a0.size:Int)) then
 (some (((⟨0,[],[]⟩:Qv),false)))
 else
 ((cO v1 0).bind λv5=>
 (aJx v5 0).bind λv6=>
 (Lp (tI v1) (([]:aA),([]:aA),1)).bind λy16=>
 Sum.elim (λy17=>
 (qJ (⟨wr ((IntKind.i64.wrap v6) - 48),y17.1,y17.2⟩:Qv)).bind λv18=>
 bif !eqS v18 a0 then
 (some (((⟨0,[],[]⟩:Qv),false)))
 else
 (some (((⟨wr ((IntKind.i64.wrap v6) - 48),y17.1,y17.2⟩:Qv),true)))
 )
 (λy20=>
 some y20
 )
 y16))
theorem dU (a0:ByteArray) (r:(Qv×Bool)) (h:cX a0=some r):HasC Tryz.prog 173 [.str a0] (.tuple [.agg (eQ r.1),.bl r.2]):=by
 refine hM [.cell 2 26,.tmp 3] Tryz.func173 Tryz.ntmps173 k<|sR<|ae (cB aL k k) k<|aT k2<|sR<|am k k<|oB h λv1 hv1 h=>ae (cL aBb (aNY a0 32 v1 hv1) k3 (dF k (dF k aU))) k<|aT k2<|sQ<|sR<|am k k<|oB h λv2 hv2 h=>ae (xo hv2 k) k<|ae (wp hv2 k) k<|ae (aND (by kernel_rfl) k) k<|cm k4<|am k k<|kI h (λq3 h=>aH 14 k q3<|aK k4<|ak k k<|pk k3<|an<|tn<|dO k k<|sR<|ae (mQ aL k k k k k k) k<|ae (ws k) k<|aT k2<|aG<|aM<|sp h (cA k k k (dW k (cI (mD (bH (k) (bH (k) (bH (k) gI)))) (cI (k) gQ))))) λq3 h=>?_;refine aH 14 k q3<|am k k<|ae (aND (by kernel_rfl) k) k<|cm k4<|pk k3<|an<|tn<|dC k h (λ_ h=>sR<|ae (mQ aL k k k k k k) k<|ae (ws k) k<|aT k2<|aG<|aM<|sp h (cA k k k (dW k (cI (mD (bH (k) (bH (k) (bH (k) gI)))) (cI (k) gQ))))) λ_ h=>?_;refine aI<|tn<|sR<|am k k<|oB h λv5 hv5 h=>ae (xo hv5 k) k<|ae (wp hv5 k) k<|oB h λv6 hv6 h=>ae (aGM (by kernel_rfl) hv6 k k) k<|ae (aJy (k1:= .u8) (k2:= .i64) (by kernel_rfl) (by kernel_rfl) k) k<|ae (gK k k) k<|ae (wl k) k<|ae (wl k) k<|ae (mQ aL k k k k k k) k<|ae (cB aL k k) k<|ae (ws k) k<|an<|tn<|aN (t:=mN [(0,.str a0),(2,.ptr 0 0 0),(4,.own 1 0 v1.length),(5,.ptr 4 0 0)] [(0,⟨3,[[.int 0,.nil 1,.nil 1]]⟩),(1,⟨1,v1.map (ow aIJ)⟩),(2,⟨1,List.map (ow eI) ([]:aA)⟩),(3,⟨1,List.map (ow eI) ([]:aA)⟩),(4,⟨3,[[.int (wr ((IntKind.i64.wrap v6) - 48)),.own 2 0 (([]:aA).length),.own 3 0 (([]:aA).length)]]⟩)] 5) (bO (bN k2) (bS k<|cF (aBb.plainO _) k<|cD k<|cD k<|hX ⟨_,k,k,.inr ⟨_,_,k,⟨_,_,k,k,⟨_,_,k,⟨k,k,(by simp only [aO,lA,lT,lR,lC,lN]),k⟩,⟨_,_,k,⟨k,k,(by simp only [aO,lA,lT,lR,lC,lN]),k⟩,k⟩⟩⟩,k⟩⟩ k<|aR) k4)<|sQ<|sR<|aT k2<|aE<|oB h λy16 hy16 h=>cH (body:=(tI v1)) hy16 (λ(x1:(aA×aA×Int))=>mN [(0,.str a0),(2,.ptr 0 0 0),(4,.own 1 0 v1.length),(5,.ptr 2 0 0),(6,.int x1.2.2)] [(0,⟨3,[[.int 0,.nil 1,.nil 1]]⟩),(1,⟨1,v1.map (ow aIJ)⟩),(2,⟨3,[[.int (wr ((IntKind.i64.wrap v6) - 48)),.own 3 0 x1.1.length,.own 4 0 x1.2.1.length]]⟩),(3,⟨1,x1.1.map (ow eI)⟩),(4,⟨1,x1.2.1.map (ow eI)⟩)] 5) (λr e t=>Sum.elim (λa=>(λr e t=>e= .exit 0/\Ent t (mN [(0,.str a0),(2,.ptr 0 0 0),(5,.ptr 1 0 0)] [(0,⟨3,[[.int 0,.nil 1,.nil 1]]⟩),(1,⟨3,[[.int (wr ((IntKind.i64.wrap v6) - 48)),.own 2 0 r.1.length,.own 3 0 r.2.length]]⟩),(2,⟨1,r.1.map (ow eI)⟩),(3,⟨1,r.2.map (ow eI)⟩)] 4)) a e t) (λb=>(λr e t=>e= .ret/\uI TT [.cell 2 26,.tmp 3] (.tuple [.agg (eQ r.1),.bl r.2]) .ret t) b e t) r) (kE [0,1,4,2,3] (bN k2) (bS k<|cF (aBb.plainO _) k<|fV k<|cD k<|cD k<|aR) k4) ?_ ?_
 ·intro x1 o h;refine sQ<|sR<|am k k<|am k k<|ae (cN aL k k k k) k<|cm k4<|an<|tn<|dC k h (λ_ h=>?_) λ_ h=>bA<|aB<|aB<|sp h ⟨_,k,k,(kE [0,2,3,4] (bN k2) (bS k<|fV k<|cD k<|cD k<|aR) k4)⟩;refine aI<|tn<|sQ<|aE<|sQ<|sR<|am k k<|am k k<|oB h λv8 hv8 h=>ae (xo hv8 k) k<|ae (wp hv8 k) k<|ae (aND (by kernel_rfl) k) k<|cm k4<|an<|tn<|dC k h (λ_ h=>sR<|ae (mQ aL k k k k k k) k<|ae (ws k) k<|aT k2<|aG<|aM<|bX<|aM<|aM<|sp h ⟨_,k,k,cA k k k (dW k (cI (mD (bH (k) (bH (k) (bH (k) gI)))) (cI (k) gQ)))⟩) λ_ h=>?_;refine aI<|tn<|sQ<|aQ fW<|fp k8<|lp k8<|am k k<|am k k<|oB h λv10 hv10 h=>ae (xo hv10 k) k<|ae (wp hv10 k) k<|oB h λv11 hv11 h=>ae (aGM (by kernel_rfl) hv11 k k) k<|ae (aJy (k1:= .u8) (k2:= .i64) (by kernel_rfl) (by kernel_rfl) k) k<|ae (gK k k) k<|ae (wl k) k<|cG h λq12 h=>ae (lO aL (l:=x1.1) (m:=[wr ((IntKind.i64.wrap v11) - 48)]) jZ q12 k k k k k k k k k k k k) k<|fp k8<|ae (ws k) k<|an<|nH (by kernel_rfl)<|tn<|aQ fW<|fp k8<|lp k8<|am k k<|am k k<|oB h λv13 hv13 h=>ae (xo hv13 k) k<|ae (wp hv13 k) k<|oB h λv14 hv14 h=>ae (aGM (by kernel_rfl) hv14 k k) k<|ae (aJy (k1:= .u8) (k2:= .i64) (by kernel_rfl) (by kernel_rfl) k) k ?_;exact ae (gK k k) k<|ae (wl k) k<|cG h λq15 h=>ae (lO aL (l:=x1.2.1) (m:=[wr ((IntKind.i64.wrap v14) - 48)]) jZ q15 k k k k k k k k k k k k) k<|fp k8<|ae (ws k) k<|an<|nH (by kernel_rfl)<|aZ<|tn<|aN (t:=mN [(0,.str a0),(2,.ptr 0 0 0),(4,.own 1 0 v1.length),(5,.ptr 2 0 0),(6,.int x1.2.2)] [(0,⟨3,[[.int 0,.nil 1,.nil 1]]⟩),(1,⟨1,v1.map (ow aIJ)⟩),(2,⟨3,[[.int (wr ((IntKind.i64.wrap v6) - 48)),.own 6 0 ((x1.1++[wr ((IntKind.i64.wrap v11) - 48)]).length),.own 8 0 ((x1.2.1++[wr ((IntKind.i64.wrap v14) - 48)]).length)]]⟩),(6,⟨1,List.map (ow eI) (x1.1++[wr ((IntKind.i64.wrap v11) - 48)])⟩),(8,⟨1,List.map (ow eI) (x1.2.1++[wr ((IntKind.i64.wrap v14) - 48)])⟩)] 9) (bO (bN k2) (bS k<|cF (aBb.plainO _) k<|fV k<|cD k<|cD k<|aR) k4)<|rg<|am k k<|ae (bJ k k) k<|aT k2<|sp h ⟨_,k,(kE [0,1,2,6,8] (bN k2) (bS k<|cF (aBb.plainO _) k<|fV k<|cD k<|cD k<|aR) k4)⟩
 ·intro e t hX;rcases y16 with y17|y20
  ·obtain ⟨rfl,hent⟩:=hX;exact aP<|tn<|aN hent<|sQ<|sR<|lp k8<|oB h λv18 hv18 h=>ae (aS (aEp (⟨wr ((IntKind.i64.wrap v6) - 48),y17.1,y17.2⟩:Qv) v18 hv18) k (aX (vaQ k4) aU)) k<|am k k<|ae (aZU k k) k<|an<|tn<|dC k h (λ_ h=>sR<|ae (mQ aL k k k k k k) k<|ae (ws k) k<|aT k2<|aG<|aM<|sp h (cA k k k (dW k (cI (mD (bH (k) (bH (k) (bH (k) gI)))) (cI (k) gQ))))) λ_ h=>aI<|tn<|sR<|lp k8<|ae (ws k) k<|aT k2<|aG<|sp h (cA k k k (dW k (cI (mD (bH (k) (bH (gF cW k k) (bH (gF cW k k) gI)))) (cI (k) gQ))))
  ·obtain ⟨rfl,hent⟩:=hX;exact bX<|aM<|sp h hent
def eG (a0:ByteArray):Option (Qv×Bool):=
 bif eqS a0 (⟨#[65,49]⟩:ByteArray) then
 ((cX (⟨#[49,58]⟩:ByteArray)).bind λv2=>
 some ((v2.1,v2.2)))
 else
 (bif eqS a0 (⟨#[65,50]⟩:ByteArray) then
 ((cX (⟨#[50,58,32,48,49]⟩:ByteArray)).bind λv4=>
 some ((v4.1,v4.2)))
 else
 (bif eqS a0 (⟨#[65,51]⟩:ByteArray) then
 ((cX (⟨#[51,58,32,48,49,32,49,50]⟩:ByteArray)).bind λv6=>
 some ((v6.1,v6.2)))
 else
 (bif eqS a0 (⟨#[65,51,105,110]⟩:ByteArray) then
 ((cX (⟨#[51,58,32,48,49,32,50,49]⟩:ByteArray)).bind λv8=>
 some ((v8.1,v8.2)))
 else
 (bif eqS a0 (⟨#[65,52]⟩:ByteArray) then
 ((cX (⟨#[52,58,32,48,49,32,49,50,32,50,51]⟩:ByteArray)).bind λv10=>
 some ((v10.1,v10.2)))
 else
 (bif eqS a0 (⟨#[68,52]⟩:ByteArray) then
 ((cX (⟨#[52,58,32,48,51,32,49,51,32,50,51]⟩:ByteArray)).bind λv12=>
 some ((v12.1,v12.2)))
 else
 (bif eqS a0 (⟨#[68,53]⟩:ByteArray) then
 ((cX (⟨#[53,58,32,48,50,32,49,50,32,50,51,32,51,52]⟩:ByteArray)).bind λv14=>
 some ((v14.1,v14.2)))
 else
 (bif eqS a0 (⟨#[75,50]⟩:ByteArray) then
 ((cX (⟨#[50,58,32,48,49,32,48,49]⟩:ByteArray)).bind λv16=>
 some ((v16.1,v16.2)))
 else
 (bif eqS a0 (⟨#[115,116,97,114,52]⟩:ByteArray) then
 ((cX (⟨#[53,58,32,48,52,32,49,52,32,50,52,32,51,52]⟩:ByteArray)).bind λv18=>
 some ((v18.1,v18.2)))
 else
 (bif eqS a0 (⟨#[115,113,117,97,114,101]⟩:ByteArray) then
 ((cX (⟨#[52,58,32,48,49,32,48,50,32,49,51,32,50,51]⟩:ByteArray)).bind λv20=>
 some ((v20.1,v20.2)))
 else
 (bif eqS a0 (⟨#[108,111,111,112]⟩:ByteArray) then
 ((cX (⟨#[49,58,32,48,48]⟩:ByteArray)).bind λv22=>
 some ((v22.1,v22.2)))
 else
 (bif eqS a0 (⟨#[99,105,114,99,108,101]⟩:ByteArray) then
 ((cX (⟨#[51,58,32,48,49,32,49,50,32,50,48]⟩:ByteArray)).bind λv24=>
 some ((v24.1,v24.2)))
 else
 ((cX (⟨#[]⟩:ByteArray)).bind λv25=>
 some ((v25.1,v25.2))))))))))))))
theorem kQ (a0:ByteArray) (r:(Qv×Bool)) (h:eG a0=some r):HasC Tryz.prog 101 [.str a0] (.tuple [.agg (eQ r.1),.bl r.2]):=by
 refine hM [.cell 2 26,.tmp 3] Tryz.func101 Tryz.ntmps101 k<|sR<|ae (cB aL k k) k<|aT k2<|sR<|aT k2<|sQ<|sR<|am k k<|an<|tn<|aE<|sR<|ae (aDP k k) k<|aT k2<|dC k h (λ_ h=>rg<|aa k k<|an<|aZ<|tn<|sR<|am k k<|oB h λv2 hv2 h=>ae (AEff.conv (gJ (x:= .tuple [.agg [.int v2.1.n,.own 1 0 (v2.1.src.map eI).length,.own 2 0 (v2.1.tgt.map eI).length],.bl v2.2]) (nb:=[(1,⟨1,cK (v2.1.src.map eI)⟩),(2,⟨1,cK (v2.1.tgt.map eI)⟩)]) (dU (⟨#[49,58]⟩:ByteArray) v2 hv2) k (by rfl) k k (cV (bY aR (bY (cW.good _) (bY (cW.good _) kY))) (cV aR kM)) (dF k aU)) (v':= .tuple [.agg [.int v2.1.n,.own 1 0 v2.1.src.length,.own 2 0 v2.1.tgt.length],.bl v2.2]) (ed':=[(1,some ⟨1,v2.1.src.map (ow eI)⟩),(2,some ⟨1,v2.1.tgt.map (ow eI)⟩)]) (by simp only [aO]) (oV (nb':=[(1,⟨1,v2.1.src.map (ow eI)⟩),(2,⟨1,v2.1.tgt.map (ow eI)⟩)]) (by simp only [fJ]))) k<|am k k<|ae (aW k k (by intro _ h;cases h)) k<|ae (aW k k (by intro _ h;cases h)) k<|ae (cB aL k k) k<|ae (ws k) k<|aT k2<|sR<|lp k8<|am k k<|ae (ws k) k<|aT k2<|aG<|sp h (cA k k k (dW k (cI (mD (bH (k) (bH (gF cW k k) (bH (gF cW k k) gI)))) (cI (k) gQ))))) λ_ h=>?_;refine sR<|ae (aDP k k) k<|aT k2<|dC k h (λ_ h=>rg<|aa k k<|an<|aZ<|tn<|sR<|am k k<|oB h λv4 hv4 h=>ae (AEff.conv (gJ (x:= .tuple [.agg [.int v4.1.n,.own 1 0 (v4.1.src.map eI).length,.own 2 0 (v4.1.tgt.map eI).length],.bl v4.2]) (nb:=[(1,⟨1,cK (v4.1.src.map eI)⟩),(2,⟨1,cK (v4.1.tgt.map eI)⟩)]) (dU (⟨#[50,58,32,48,49]⟩:ByteArray) v4 hv4) k (by rfl) k k (cV (bY aR (bY (cW.good _) (bY (cW.good _) kY))) (cV aR kM)) (dF k aU)) (v':= .tuple [.agg [.int v4.1.n,.own 1 0 v4.1.src.length,.own 2 0 v4.1.tgt.length],.bl v4.2]) (ed':=[(1,some ⟨1,v4.1.src.map (ow eI)⟩),(2,some ⟨1,v4.1.tgt.map (ow eI)⟩)]) (by simp only [aO]) (oV (nb':=[(1,⟨1,v4.1.src.map (ow eI)⟩),(2,⟨1,v4.1.tgt.map (ow eI)⟩)]) (by simp only [fJ]))) k<|am k k<|ae (aW k k (by intro _ h;cases h)) k<|ae (aW k k (by intro _ h;cases h)) k<|ae (cB aL k k) k<|ae (ws k) k<|aT k2<|sR<|lp k8<|am k k<|ae (ws k) k<|aT k2<|aG<|sp h (cA k k k (dW k (cI (mD (bH (k) (bH (gF cW k k) (bH (gF cW k k) gI)))) (cI (k) gQ))))) λ_ h=>?_;refine sR<|ae (aDP k k) k<|aT k2<|dC k h (λ_ h=>rg<|aa k k<|an<|aZ<|tn<|sR<|am k k<|oB h λv6 hv6 h=>ae (AEff.conv (gJ (x:= .tuple [.agg [.int v6.1.n,.own 1 0 (v6.1.src.map eI).length,.own 2 0 (v6.1.tgt.map eI).length],.bl v6.2]) (nb:=[(1,⟨1,cK (v6.1.src.map eI)⟩),(2,⟨1,cK (v6.1.tgt.map eI)⟩)]) (dU (⟨#[51,58,32,48,49,32,49,50]⟩:ByteArray) v6 hv6) k (by rfl) k k (cV (bY aR (bY (cW.good _) (bY (cW.good _) kY))) (cV aR kM)) (dF k aU)) (v':= .tuple [.agg [.int v6.1.n,.own 1 0 v6.1.src.length,.own 2 0 v6.1.tgt.length],.bl v6.2]) (ed':=[(1,some ⟨1,v6.1.src.map (ow eI)⟩),(2,some ⟨1,v6.1.tgt.map (ow eI)⟩)]) (by simp only [aO]) (oV (nb':=[(1,⟨1,v6.1.src.map (ow eI)⟩),(2,⟨1,v6.1.tgt.map (ow eI)⟩)]) (by simp only [fJ]))) k<|am k k<|ae (aW k k (by intro _ h;cases h)) k<|ae (aW k k (by intro _ h;cases h)) k<|ae (cB aL k k) k<|ae (ws k) k<|aT k2<|sR<|lp k8<|am k k<|ae (ws k) k<|aT k2<|aG<|sp h (cA k k k (dW k (cI (mD (bH (k) (bH (gF cW k k) (bH (gF cW k k) gI)))) (cI (k) gQ))))) λ_ h=>?_;refine sR<|ae (aDP k k) k<|aT k2<|dC k h (λ_ h=>rg<|aa k k<|an<|aZ<|tn<|sR<|am k k<|oB h λv8 hv8 h=>ae (AEff.conv (gJ (x:= .tuple [.agg [.int v8.1.n,.own 1 0 (v8.1.src.map eI).length,.own 2 0 (v8.1.tgt.map eI).length],.bl v8.2]) (nb:=[(1,⟨1,cK (v8.1.src.map eI)⟩),(2,⟨1,cK (v8.1.tgt.map eI)⟩)]) (dU (⟨#[51,58,32,48,49,32,50,49]⟩:ByteArray) v8 hv8) k (by rfl) k k (cV (bY aR (bY (cW.good _) (bY (cW.good _) kY))) (cV aR kM)) (dF k aU)) (v':= .tuple [.agg [.int v8.1.n,.own 1 0 v8.1.src.length,.own 2 0 v8.1.tgt.length],.bl v8.2]) (ed':=[(1,some ⟨1,v8.1.src.map (ow eI)⟩),(2,some ⟨1,v8.1.tgt.map (ow eI)⟩)]) (by simp only [aO]) (oV (nb':=[(1,⟨1,v8.1.src.map (ow eI)⟩),(2,⟨1,v8.1.tgt.map (ow eI)⟩)]) (by simp only [fJ]))) k<|am k k<|ae (aW k k (by intro _ h;cases h)) k<|ae (aW k k (by intro _ h;cases h)) k<|ae (cB aL k k) k<|ae (ws k) k<|aT k2<|sR<|lp k8<|am k k<|ae (ws k) k<|aT k2<|aN (t:=mN [(2,.ptr 0 0 0),(3,.bl v8.2)] [(0,⟨3,[oQv v8.1 1 2]⟩),(1,⟨1,v8.1.src.map (ow eI)⟩),(2,⟨1,v8.1.tgt.map (ow eI)⟩)] 4) (bO (bN k2) (fV k<|cD k<|cD k<|aR) k4)<|aG<|sp h (cA k k k (dW k (cI (mD (bH (k) (bH (gF cW k k) (bH (gF cW k k) gI)))) (cI (k) gQ))))) λ_ h=>?_;refine sR<|ae (aDP k k) k<|aT k2<|dC k h (λ_ h=>?_) λ_ h=>?_
 ·exact rg<|aa k k<|an<|aZ<|tn<|sR<|am k k<|oB h λv10 hv10 h=>ae (AEff.conv (gJ (x:= .tuple [.agg [.int v10.1.n,.own 1 0 (v10.1.src.map eI).length,.own 2 0 (v10.1.tgt.map eI).length],.bl v10.2]) (nb:=[(1,⟨1,cK (v10.1.src.map eI)⟩),(2,⟨1,cK (v10.1.tgt.map eI)⟩)]) (dU (⟨#[52,58,32,48,49,32,49,50,32,50,51]⟩:ByteArray) v10 hv10) k (by rfl) k k (cV (bY aR (bY (cW.good _) (bY (cW.good _) kY))) (cV aR kM)) (dF k aU)) (v':= .tuple [.agg [.int v10.1.n,.own 1 0 v10.1.src.length,.own 2 0 v10.1.tgt.length],.bl v10.2]) (ed':=[(1,some ⟨1,v10.1.src.map (ow eI)⟩),(2,some ⟨1,v10.1.tgt.map (ow eI)⟩)]) (by simp only [aO]) (oV (nb':=[(1,⟨1,v10.1.src.map (ow eI)⟩),(2,⟨1,v10.1.tgt.map (ow eI)⟩)]) (by simp only [fJ]))) k<|am k k<|ae (aW k k (by intro _ h;cases h)) k<|ae (aW k k (by intro _ h;cases h)) k<|ae (cB aL k k) k<|ae (ws k) k<|aT k2<|sR<|lp k8<|am k k<|ae (ws k) k<|aT k2<|aN (t:=mN [(2,.ptr 0 0 0),(3,.bl v10.2)] [(0,⟨3,[oQv v10.1 1 2]⟩),(1,⟨1,v10.1.src.map (ow eI)⟩),(2,⟨1,v10.1.tgt.map (ow eI)⟩)] 4) (bO (bN k2) (fV k<|cD k<|cD k<|aR) k4)<|aG<|sp h (cA k k k (dW k (cI (mD (bH (k) (bH (gF cW k k) (bH (gF cW k k) gI)))) (cI (k) gQ))))
 ·refine sR<|ae (aDP k k) k<|aT k2<|dC k h (λ_ h=>?_) λ_ h=>?_
  ·exact rg<|aa k k<|an<|aZ<|tn<|sR<|am k k<|oB h λv12 hv12 h=>ae (AEff.conv (gJ (x:= .tuple [.agg [.int v12.1.n,.own 1 0 (v12.1.src.map eI).length,.own 2 0 (v12.1.tgt.map eI).length],.bl v12.2]) (nb:=[(1,⟨1,cK (v12.1.src.map eI)⟩),(2,⟨1,cK (v12.1.tgt.map eI)⟩)]) (dU (⟨#[52,58,32,48,51,32,49,51,32,50,51]⟩:ByteArray) v12 hv12) k (by rfl) k k (cV (bY aR (bY (cW.good _) (bY (cW.good _) kY))) (cV aR kM)) (dF k aU)) (v':= .tuple [.agg [.int v12.1.n,.own 1 0 v12.1.src.length,.own 2 0 v12.1.tgt.length],.bl v12.2]) (ed':=[(1,some ⟨1,v12.1.src.map (ow eI)⟩),(2,some ⟨1,v12.1.tgt.map (ow eI)⟩)]) (by simp only [aO]) (oV (nb':=[(1,⟨1,v12.1.src.map (ow eI)⟩),(2,⟨1,v12.1.tgt.map (ow eI)⟩)]) (by simp only [fJ]))) k<|am k k<|ae (aW k k (by intro _ h;cases h)) k<|ae (aW k k (by intro _ h;cases h)) k<|ae (cB aL k k) k<|ae (ws k) k<|aT k2<|aN (t:=mN [(2,.ptr 0 0 0),(5,.ptr 3 0 0),(6,.bl v12.2)] [(0,⟨3,[[.int 0,.nil 1,.nil 1]]⟩),(1,⟨1,v12.1.src.map (ow eI)⟩),(2,⟨1,v12.1.tgt.map (ow eI)⟩),(3,⟨3,[oQv v12.1 1 2]⟩)] 4) (bO (bN k2) (bS k<|cD k<|cD k<|fV k<|aR) k4)<|sR<|lp k8<|am k k<|ae (ws k) k<|aT k2<|aG<|sp h (cA k k k (dW k (cI (mD (bH (k) (bH (gF cW k k) (bH (gF cW k k) gI)))) (cI (k) gQ))))
  ·refine sR<|ae (aDP k k) k<|aT k2<|dC k h (λ_ h=>?_) λ_ h=>?_
   ·exact rg<|aa k k<|an<|aZ<|tn<|sR<|am k k<|oB h λv14 hv14 h=>ae (AEff.conv (gJ (x:= .tuple [.agg [.int v14.1.n,.own 1 0 (v14.1.src.map eI).length,.own 2 0 (v14.1.tgt.map eI).length],.bl v14.2]) (nb:=[(1,⟨1,cK (v14.1.src.map eI)⟩),(2,⟨1,cK (v14.1.tgt.map eI)⟩)]) (dU (⟨#[53,58,32,48,50,32,49,50,32,50,51,32,51,52]⟩:ByteArray) v14 hv14) k (by rfl) k k (cV (bY aR (bY (cW.good _) (bY (cW.good _) kY))) (cV aR kM)) (dF k aU)) (v':= .tuple [.agg [.int v14.1.n,.own 1 0 v14.1.src.length,.own 2 0 v14.1.tgt.length],.bl v14.2]) (ed':=[(1,some ⟨1,v14.1.src.map (ow eI)⟩),(2,some ⟨1,v14.1.tgt.map (ow eI)⟩)]) (by simp only [aO]) (oV (nb':=[(1,⟨1,v14.1.src.map (ow eI)⟩),(2,⟨1,v14.1.tgt.map (ow eI)⟩)]) (by simp only [fJ]))) k<|am k k<|ae (aW k k (by intro _ h;cases h)) k<|ae (aW k k (by intro _ h;cases h)) k<|ae (cB aL k k) k<|ae (ws k) k<|aT k2<|aN (t:=mN [(2,.ptr 0 0 0),(5,.ptr 3 0 0),(6,.bl v14.2)] [(0,⟨3,[[.int 0,.nil 1,.nil 1]]⟩),(1,⟨1,v14.1.src.map (ow eI)⟩),(2,⟨1,v14.1.tgt.map (ow eI)⟩),(3,⟨3,[oQv v14.1 1 2]⟩)] 4) (bO (bN k2) (bS k<|cD k<|cD k<|fV k<|aR) k4)<|sR<|lp k8<|am k k<|ae (ws k) k<|aT k2<|aG<|sp h (cA k k k (dW k (cI (mD (bH (k) (bH (gF cW k k) (bH (gF cW k k) gI)))) (cI (k) gQ))))
   ·refine sR<|ae (aDP k k) k<|aT k2<|dC k h (λ_ h=>?_) λ_ h=>?_
    ·exact rg<|aa k k<|an<|aZ<|tn<|sR<|am k k<|oB h λv16 hv16 h=>ae (AEff.conv (gJ (x:= .tuple [.agg [.int v16.1.n,.own 1 0 (v16.1.src.map eI).length,.own 2 0 (v16.1.tgt.map eI).length],.bl v16.2]) (nb:=[(1,⟨1,cK (v16.1.src.map eI)⟩),(2,⟨1,cK (v16.1.tgt.map eI)⟩)]) (dU (⟨#[50,58,32,48,49,32,48,49]⟩:ByteArray) v16 hv16) k (by rfl) k k (cV (bY aR (bY (cW.good _) (bY (cW.good _) kY))) (cV aR kM)) (dF k aU)) (v':= .tuple [.agg [.int v16.1.n,.own 1 0 v16.1.src.length,.own 2 0 v16.1.tgt.length],.bl v16.2]) (ed':=[(1,some ⟨1,v16.1.src.map (ow eI)⟩),(2,some ⟨1,v16.1.tgt.map (ow eI)⟩)]) (by simp only [aO]) (oV (nb':=[(1,⟨1,v16.1.src.map (ow eI)⟩),(2,⟨1,v16.1.tgt.map (ow eI)⟩)]) (by simp only [fJ]))) k<|am k k<|ae (aW k k (by intro _ h;cases h)) k<|ae (aW k k (by intro _ h;cases h)) k<|ae (cB aL k k) k<|ae (ws k) k<|aT k2<|aN (t:=mN [(2,.ptr 0 0 0),(5,.ptr 3 0 0),(6,.bl v16.2)] [(0,⟨3,[[.int 0,.nil 1,.nil 1]]⟩),(1,⟨1,v16.1.src.map (ow eI)⟩),(2,⟨1,v16.1.tgt.map (ow eI)⟩),(3,⟨3,[oQv v16.1 1 2]⟩)] 4) (bO (bN k2) (bS k<|cD k<|cD k<|fV k<|aR) k4)<|sR<|lp k8<|am k k<|ae (ws k) k<|aT k2<|aG<|sp h (cA k k k (dW k (cI (mD (bH (k) (bH (gF cW k k) (bH (gF cW k k) gI)))) (cI (k) gQ))))
    ·refine sR<|ae (aDP k k) k<|aT k2<|dC k h (λ_ h=>?_) λ_ h=>?_
     ·exact rg<|aa k k<|an<|aZ<|tn<|sR<|am k k<|oB h λv18 hv18 h=>ae (AEff.conv (gJ (x:= .tuple [.agg [.int v18.1.n,.own 1 0 (v18.1.src.map eI).length,.own 2 0 (v18.1.tgt.map eI).length],.bl v18.2]) (nb:=[(1,⟨1,cK (v18.1.src.map eI)⟩),(2,⟨1,cK (v18.1.tgt.map eI)⟩)]) (dU (⟨#[53,58,32,48,52,32,49,52,32,50,52,32,51,52]⟩:ByteArray) v18 hv18) k (by rfl) k k (cV (bY aR (bY (cW.good _) (bY (cW.good _) kY))) (cV aR kM)) (dF k aU)) (v':= .tuple [.agg [.int v18.1.n,.own 1 0 v18.1.src.length,.own 2 0 v18.1.tgt.length],.bl v18.2]) (ed':=[(1,some ⟨1,v18.1.src.map (ow eI)⟩),(2,some ⟨1,v18.1.tgt.map (ow eI)⟩)]) (by simp only [aO]) (oV (nb':=[(1,⟨1,v18.1.src.map (ow eI)⟩),(2,⟨1,v18.1.tgt.map (ow eI)⟩)]) (by simp only [fJ]))) k<|am k k<|ae (aW k k (by intro _ h;cases h)) k<|ae (aW k k (by intro _ h;cases h)) k<|ae (cB aL k k) k<|ae (ws k) k<|aT k2<|aN (t:=mN [(2,.ptr 0 0 0),(5,.ptr 3 0 0),(6,.bl v18.2)] [(0,⟨3,[[.int 0,.nil 1,.nil 1]]⟩),(1,⟨1,v18.1.src.map (ow eI)⟩),(2,⟨1,v18.1.tgt.map (ow eI)⟩),(3,⟨3,[oQv v18.1 1 2]⟩)] 4) (bO (bN k2) (bS k<|cD k<|cD k<|fV k<|aR) k4)<|sR<|lp k8<|am k k<|ae (ws k) k<|aT k2<|aG<|sp h (cA k k k (dW k (cI (mD (bH (k) (bH (gF cW k k) (bH (gF cW k k) gI)))) (cI (k) gQ))))
     ·refine sR<|ae (aDP k k) k<|aT k2<|aN (t:=mN [(2,.ptr 0 0 0),(4,.str (⟨#[]⟩:ByteArray)),(7,.str a0),(26,.bl (eqS a0 (⟨#[115,113,117,97,114,101]⟩:ByteArray)))] [(0,⟨3,[[.int 0,.nil 1,.nil 1]]⟩)] 1) (bO (bN k2) (bS k<|aR) k4)<|dC k h (λ_ h=>rg<|aa k k<|an<|aZ<|tn<|sR<|am k k<|oB h λv20 hv20 h=>ae (AEff.conv (gJ (x:= .tuple [.agg [.int v20.1.n,.own 1 0 (v20.1.src.map eI).length,.own 2 0 (v20.1.tgt.map eI).length],.bl v20.2]) (nb:=[(1,⟨1,cK (v20.1.src.map eI)⟩),(2,⟨1,cK (v20.1.tgt.map eI)⟩)]) (dU (⟨#[52,58,32,48,49,32,48,50,32,49,51,32,50,51]⟩:ByteArray) v20 hv20) k (by rfl) k k (cV (bY aR (bY (cW.good _) (bY (cW.good _) kY))) (cV aR kM)) (dF k aU)) (v':= .tuple [.agg [.int v20.1.n,.own 1 0 v20.1.src.length,.own 2 0 v20.1.tgt.length],.bl v20.2]) (ed':=[(1,some ⟨1,v20.1.src.map (ow eI)⟩),(2,some ⟨1,v20.1.tgt.map (ow eI)⟩)]) (by simp only [aO]) (oV (nb':=[(1,⟨1,v20.1.src.map (ow eI)⟩),(2,⟨1,v20.1.tgt.map (ow eI)⟩)]) (by simp only [fJ]))) k<|am k k<|ae (aW k k (by intro _ h;cases h)) k<|ae (aW k k (by intro _ h;cases h)) k<|ae (cB aL k k) k<|ae (ws k) k<|aT k2<|sR<|lp k8<|am k k<|ae (ws k) k<|aT k2<|aG<|sp h (cA k k k (dW k (cI (mD (bH (k) (bH (gF cW k k) (bH (gF cW k k) gI)))) (cI (k) gQ))))) λ_ h=>?_;refine sR<|ae (aDP k k) k<|aT k2<|dC k h (λ_ h=>rg<|aa k k<|an<|aZ<|tn<|sR<|am k k<|oB h λv22 hv22 h=>ae (AEff.conv (gJ (x:= .tuple [.agg [.int v22.1.n,.own 1 0 (v22.1.src.map eI).length,.own 2 0 (v22.1.tgt.map eI).length],.bl v22.2]) (nb:=[(1,⟨1,cK (v22.1.src.map eI)⟩),(2,⟨1,cK (v22.1.tgt.map eI)⟩)]) (dU (⟨#[49,58,32,48,48]⟩:ByteArray) v22 hv22) k (by rfl) k k (cV (bY aR (bY (cW.good _) (bY (cW.good _) kY))) (cV aR kM)) (dF k aU)) (v':= .tuple [.agg [.int v22.1.n,.own 1 0 v22.1.src.length,.own 2 0 v22.1.tgt.length],.bl v22.2]) (ed':=[(1,some ⟨1,v22.1.src.map (ow eI)⟩),(2,some ⟨1,v22.1.tgt.map (ow eI)⟩)]) (by simp only [aO]) (oV (nb':=[(1,⟨1,v22.1.src.map (ow eI)⟩),(2,⟨1,v22.1.tgt.map (ow eI)⟩)]) (by simp only [fJ]))) k<|am k k<|ae (aW k k (by intro _ h;cases h)) k<|ae (aW k k (by intro _ h;cases h)) k<|ae (cB aL k k) k<|ae (ws k) k<|aT k2<|sR<|lp k8<|am k k<|ae (ws k) k<|aT k2<|aG<|sp h (cA k k k (dW k (cI (mD (bH (k) (bH (gF cW k k) (bH (gF cW k k) gI)))) (cI (k) gQ))))) λ_ h=>?_;exact sR<|ae (aDP k k) k<|aT k2<|dC k h (λ_ h=>rg<|aa k k<|an<|aZ<|tn<|sR<|am k k<|oB h λv24 hv24 h=>ae (AEff.conv (gJ (x:= .tuple [.agg [.int v24.1.n,.own 1 0 (v24.1.src.map eI).length,.own 2 0 (v24.1.tgt.map eI).length],.bl v24.2]) (nb:=[(1,⟨1,cK (v24.1.src.map eI)⟩),(2,⟨1,cK (v24.1.tgt.map eI)⟩)]) (dU (⟨#[51,58,32,48,49,32,49,50,32,50,48]⟩:ByteArray) v24 hv24) k (by rfl) k k (cV (bY aR (bY (cW.good _) (bY (cW.good _) kY))) (cV aR kM)) (dF k aU)) (v':= .tuple [.agg [.int v24.1.n,.own 1 0 v24.1.src.length,.own 2 0 v24.1.tgt.length],.bl v24.2]) (ed':=[(1,some ⟨1,v24.1.src.map (ow eI)⟩),(2,some ⟨1,v24.1.tgt.map (ow eI)⟩)]) (by simp only [aO]) (oV (nb':=[(1,⟨1,v24.1.src.map (ow eI)⟩),(2,⟨1,v24.1.tgt.map (ow eI)⟩)]) (by simp only [fJ]))) k<|am k k<|ae (aW k k (by intro _ h;cases h)) k<|ae (aW k k (by intro _ h;cases h)) k<|ae (cB aL k k) k<|ae (ws k) k<|aT k2<|sR<|lp k8<|am k k<|ae (ws k) k<|aT k2<|aG<|sp h (cA k k k (dW k (cI (mD (bH (k) (bH (gF cW k k) (bH (gF cW k k) gI)))) (cI (k) gQ))))) λ_ h=>aI<|aZ<|tn<|sR<|am k k<|oB h λv25 hv25 h=>ae (AEff.conv (gJ (x:= .tuple [.agg [.int v25.1.n,.own 1 0 (v25.1.src.map eI).length,.own 2 0 (v25.1.tgt.map eI).length],.bl v25.2]) (nb:=[(1,⟨1,cK (v25.1.src.map eI)⟩),(2,⟨1,cK (v25.1.tgt.map eI)⟩)]) (dU (⟨#[]⟩:ByteArray) v25 hv25) k (by rfl) k k (cV (bY aR (bY (cW.good _) (bY (cW.good _) kY))) (cV aR kM)) (dF k aU)) (v':= .tuple [.agg [.int v25.1.n,.own 1 0 v25.1.src.length,.own 2 0 v25.1.tgt.length],.bl v25.2]) (ed':=[(1,some ⟨1,v25.1.src.map (ow eI)⟩),(2,some ⟨1,v25.1.tgt.map (ow eI)⟩)]) (by simp only [aO]) (oV (nb':=[(1,⟨1,v25.1.src.map (ow eI)⟩),(2,⟨1,v25.1.tgt.map (ow eI)⟩)]) (by simp only [fJ]))) k<|am k k<|ae (aW k k (by intro _ h;cases h)) k<|ae (aW k k (by intro _ h;cases h)) k<|ae (cB aL k k) k<|ae (ws k) k<|aT k2<|sR<|lp k8<|am k k<|ae (ws k) k<|aT k2<|aG<|sp h (cA k k k (dW k (cI (mD (bH (k) (bH (gF cW k k) (bH (gF cW k k) gI)))) (cI (k) gQ))))
def aBK:Option (List ByteArray):=
 some ([(⟨#[65,49]⟩:ByteArray),(⟨#[65,50]⟩:ByteArray),(⟨#[65,51]⟩:ByteArray),(⟨#[65,51,105,110]⟩:ByteArray),(⟨#[65,52]⟩:ByteArray),(⟨#[68,52]⟩:ByteArray),(⟨#[68,53]⟩:ByteArray),(⟨#[75,50]⟩:ByteArray),(⟨#[115,116,97,114,52]⟩:ByteArray),(⟨#[115,113,117,97,114,101]⟩:ByteArray),(⟨#[108,111,111,112]⟩:ByteArray),(⟨#[99,105,114,99,108,101]⟩:ByteArray)])
theorem aKV (r:(List ByteArray)) (h:aBK=some r):HasC Tryz.prog 262 [] (.list 1 (r.map aIJ)):=by
 exact hM [.tmp 0] Tryz.func262 Tryz.ntmps262 k<|sR<|aT k2<|sR<|ae (wl k) k<|aT k2<|aN (t:=mN [(0,.own 0 0 ([(⟨#[65,49]⟩:ByteArray),(⟨#[65,50]⟩:ByteArray),(⟨#[65,51]⟩:ByteArray),(⟨#[65,51,105,110]⟩:ByteArray),(⟨#[65,52]⟩:ByteArray),(⟨#[68,52]⟩:ByteArray),(⟨#[68,53]⟩:ByteArray),(⟨#[75,50]⟩:ByteArray),(⟨#[115,116,97,114,52]⟩:ByteArray),(⟨#[115,113,117,97,114,101]⟩:ByteArray),(⟨#[108,111,111,112]⟩:ByteArray),(⟨#[99,105,114,99,108,101]⟩:ByteArray)].length))] [(0,⟨1,List.map (ow aIJ) [(⟨#[65,49]⟩:ByteArray),(⟨#[65,50]⟩:ByteArray),(⟨#[65,51]⟩:ByteArray),(⟨#[65,51,105,110]⟩:ByteArray),(⟨#[65,52]⟩:ByteArray),(⟨#[68,52]⟩:ByteArray),(⟨#[68,53]⟩:ByteArray),(⟨#[75,50]⟩:ByteArray),(⟨#[115,116,97,114,52]⟩:ByteArray),(⟨#[115,113,117,97,114,101]⟩:ByteArray),(⟨#[108,111,111,112]⟩:ByteArray),(⟨#[99,105,114,99,108,101]⟩:ByteArray)]⟩)] 1) (bO (mO ⟨_,k,⟨k,k,(by simp only [aO,lA,lT,lR,lC,lN]),k⟩⟩ aR) (cF (aBb.plainO _) k<|aR) k4)<|aG<|sp h (cA k k k (pS (gF aBb k k)))
def oO (a0:aA) (x1:(Int×Int)):Option ((Int×Int) ⊕ Int):=
 bif decide (x1.2<(a0.length:Int)) then
 (bif decide (x1.2<4000) then
 ((cO a0 x1.2).bind λv3=>
 some (.inl (aCU (wr ((wr ((wr (x1.1*131))+(IntKind.i64.wrap v3)))+7)) 1073741823,wr (x1.2+1))))
 else
 (some (.inr x1.1)))
 else
 (some (.inr x1.1))
def sK (a0:aA):Option Int:=
 (Lp (oO a0) (wr (10101+(a0.length:Int)),0)).bind λy4=>
 some y4
theorem aAo (a0:aA) (r:Int) (h:sK a0=some r):HasE Tryz.prog 83 [.list 1 (a0.map eU)] [] 0 (.ptr 0 0 0) [(0,⟨3,[[.list 1 (a0.map eU),.int 0,.int r]]⟩)]:=by
 refine fZ aL (rvs:=[.tmp 2]) (ns:=nmA.drop 0) Tryz.func83 k k Tryz.ntmps83 k k<|sR<|aT k2<|sR<|am k k<|ln k4<|ae (bJ k k) k<|aT k2<|sQ<|sR<|aT k2<|aE<|oB h λy4 hy4 h=>cH (body:=(oO a0)) hy4 (λ(x1:(Int×Int))=>mN [(0,.list 1 (a0.map eU)),(3,.int x1.1),(4,.int x1.2)] [] 0 ⟨0,false,none,true⟩) (λr e t=>e= .exit 0/\Ent t (mN [(0,.list 1 (a0.map eU)),(3,.int r)] [] 0 ⟨0,false,none,true⟩)) (bO (bN k2) aR k4) ?_ ?_
 ·intro x1 o h;exact sQ<|sR<|am k k<|am k k<|ln k4<|cm k4<|am k k<|kI h (λq1 h=>aH 12 k q1<|am k k<|cm k4<|pk k3<|an<|tn<|dC k h (λ_ h=>aI<|tn<|sQ<|aE<|rg<|am k k<|ae (gC k k) k<|am k k<|am k k<|oB h λv3 hv3 h=>ae (xl hv3 k) k<|lr k7<|ae (aJy (k1:= .u8) (k2:= .i64) (by kernel_rfl) (by kernel_rfl) k) k<|ae (bJ k k) k<|ae (bJ k k) k<|ae (aJm k k) k<|aa k k<|an<|aZ<|tn<|rg<|am k k<|ae (bJ k k) k<|aT k2<|sp h ⟨_,k,(bO (bN k2) aR k4)⟩) λ_ h=>bA<|aB<|aB<|sp h ⟨_,k,k,(bO (bN k2) aR k4)⟩) λq1 h=>aH 12 k q1<|aK k4<|pk k3<|an<|tn<|fK k k<|bA<|aB<|aB<|sp h ⟨_,k,k,(bO (bN k2) aR k4)⟩
 ·rintro e t ⟨rfl,hent⟩;exact aP<|tn<|aN hent<|sR<|am k k<|am k k<|ae (mQ aL k k k k k k) k<|ae (wb k) k<|aT k2<|aG<|sp h ⟨mN [(2,.ptr 0 0 0)] [(0,⟨3,[[.list 1 (a0.map eU),.int 0,.int y4]]⟩)] 1 ⟨0,false,none,true⟩,(bO (bN k2) (bS k<|aR) k4),k,⟨_,k,.inl k⟩,⟨k,aR⟩⟩
def nD (a0:Cu):Option (Int×Int):=
 bif decide (a0.i<(a0.b.length:Int)) then
 ((cO a0.b a0.i).bind λv2=>
 some (wr (a0.i+1),aCU (wr ((aCU (aOg (aBw (wr ((wr (a0.h*6364136223846793005))+1442695040888963407)) 33) (aBw (wr ((wr (a0.h*6364136223846793005))+1442695040888963407)) 45)) 255)+(IntKind.i64.wrap v2))) 255))
 else
 (some (a0.i,aCU (aOg (aBw (wr ((wr (a0.h*6364136223846793005))+1442695040888963407)) 33) (aBw (wr ((wr (a0.h*6364136223846793005))+1442695040888963407)) 45)) 255))
theorem vR (a0:Cu) (r:(Int×Int)) (h:nD a0=some r):HasE Tryz.prog 177 [.ptr 0 0 0] [(0,⟨3,[[.list 1 (a0.b.map eU),.int a0.i,.int a0.h]]⟩)] 1 (.int r.2) [(0,⟨3,[[.list 1 (a0.b.map eU),.int r.1,.int (wr ((wr (a0.h*6364136223846793005))+1442695040888963407))]]⟩)]:=by
 refine fZ aL (rvs:=[.tmp 2]) (ns:=nmA.drop 1) Tryz.func177 k k Tryz.ntmps177 k k<|sR<|aT k2<|sR<|am k k<|am k k<|ae (fL k k) k<|fp k8<|lp k8<|ae (gC k k) k<|ae (bJ k k) k<|ae (fL k k) k<|fp k8<|ae (ws k) k<|an<|tn<|sQ<|aQ fW<|am k k<|ae (fL k k) k<|fp k8<|lp k8<|ae (aVe k k (by decide)) k<|am k k<|ae (fL k k) k<|fp k8 ?_;refine lp k8<|ae (aVe k k (by decide)) k<|ae (aZV k k) k<|ae (aJm k k) k<|aa k k<|an<|nH (by kernel_rfl)<|tn<|aN (t:=mN [(0,.ptr 0 0 0),(3,.int (aCU (aOg (aBw (wr ((wr (a0.h*6364136223846793005))+1442695040888963407)) 33) (aBw (wr ((wr (a0.h*6364136223846793005))+1442695040888963407)) 45)) 255))] [(0,⟨3,[[.list 1 (a0.b.map eU),.int a0.i,.int (wr ((wr (a0.h*6364136223846793005))+1442695040888963407))]]⟩)] 1 1) (bO (bN k2) (bS k<|aR) k4)<|sQ<|sQ<|aQ fW<|am k k<|ae (fL k k) k<|fp k8<|lp k8<|am k k<|ae (fL k k) k<|fp k8<|lp k8<|ln k4<|cm k4<|an<|nH (by kernel_rfl)<|tn<|dC k h (λ_ h=>?_) λ_ h=>aI<|tn<|sR<|am k k<|aT k2<|aG<|sp h ⟨mN [(2,.int (aCU (aOg (aBw (wr ((wr (a0.h*6364136223846793005))+1442695040888963407)) 33) (aBw (wr ((wr (a0.h*6364136223846793005))+1442695040888963407)) 45)) 255))] [(0,⟨3,[[.list 1 (a0.b.map eU),.int a0.i,.int (wr ((wr (a0.h*6364136223846793005))+1442695040888963407))]]⟩)] 1 1,(bO (bN k2) (bS k<|aR) k4),k,⟨_,k,.inl k⟩,⟨k,aR⟩⟩;refine sQ<|aQ fW<|am k k<|am k k<|ae (fL k k) k<|fp k8<|lp k8<|am k k<|ae (fL k k) k<|fp k8<|lp k8<|oB h λv2 hv2 h=>ae (xl hv2 k) k<|lr k7<|ae (aJy (k1:= .u8) (k2:= .i64) (by kernel_rfl) (by kernel_rfl) k) k<|ae (bJ k k) k<|ae (aJm k k) k<|aa k k<|an<|nH (by kernel_rfl)<|tn<|aN (t:=mN [(0,.ptr 0 0 0),(3,.int (aCU (wr ((aCU (aOg (aBw (wr ((wr (a0.h*6364136223846793005))+1442695040888963407)) 33) (aBw (wr ((wr (a0.h*6364136223846793005))+1442695040888963407)) 45)) 255)+(IntKind.i64.wrap v2))) 255))] [(0,⟨3,[[.list 1 (a0.b.map eU),.int a0.i,.int (wr ((wr (a0.h*6364136223846793005))+1442695040888963407))]]⟩)] 1 1) (bO (bN k2) (bS k<|aR) k4)<|rg<|am k k<|am k k<|ae (fL k k) k<|fp k8<|lp k8<|ae (bJ k k) k<|ae (fL k k) k ?_;exact fp k8<|ae (ws k) k<|an<|tn<|sR<|am k k<|aT k2<|aG<|sp h ⟨mN [(2,.int (aCU (wr ((aCU (aOg (aBw (wr ((wr (a0.h*6364136223846793005))+1442695040888963407)) 33) (aBw (wr ((wr (a0.h*6364136223846793005))+1442695040888963407)) 45)) 255)+(IntKind.i64.wrap v2))) 255))] [(0,⟨3,[[.list 1 (a0.b.map eU),.int (wr (a0.i+1)),.int (wr ((wr (a0.h*6364136223846793005))+1442695040888963407))]]⟩)] 1 1,(bO (bN k2) (bS k<|aR) k4),k,⟨_,k,.inl k⟩,⟨k,aR⟩⟩
def dM (a0:Cu) (a1:Int):Option (Int×Int×Int):=
 bif decide (a1<=0) then
 (some (a0.i,a0.h,0))
 else
 (bif decide (a1<=256) then
 ((nD a0).bind λv3=>
 bif !decide (a1=0) then
 (some (v3.1,wr ((wr (a0.h*6364136223846793005))+1442695040888963407),v3.2.tmod a1))
 else none)
 else
 ((nD a0).bind λv5=>
 (nD (⟨a0.b,v5.1,wr ((wr (a0.h*6364136223846793005))+1442695040888963407)⟩:Cu)).bind λv6=>
 (nD (⟨a0.b,v6.1,wr ((wr ((wr ((wr (a0.h*6364136223846793005))+1442695040888963407))*6364136223846793005))+1442695040888963407)⟩:Cu)).bind λv7=>
 (nD (⟨a0.b,v7.1,wr ((wr ((wr ((wr ((wr ((wr (a0.h*6364136223846793005))+1442695040888963407))*6364136223846793005))+1442695040888963407))*6364136223846793005))+1442695040888963407)⟩:Cu)).bind λv8=>
 bif !decide (a1=0) then
 (some (v8.1,wr ((wr ((wr ((wr ((wr ((wr ((wr ((wr (a0.h*6364136223846793005))+1442695040888963407))*6364136223846793005))+1442695040888963407))*6364136223846793005))+1442695040888963407))*6364136223846793005))+1442695040888963407),(wr ((wr ((wr ((wr (v5.2*16777216))+(wr (v6.2*65536))))+(wr (v7.2*256))))+v8.2)).tmod a1))
 else none))
theorem eK (a0:Cu) (a1:Int) (r:(Int×Int×Int)) (h:dM a0 a1=some r):HasE Tryz.prog 113 [.ptr 0 0 0,.int a1] [(0,⟨3,[[.list 1 (a0.b.map eU),.int a0.i,.int a0.h]]⟩)] 1 (.int r.2.2) [(0,⟨3,[[.list 1 (a0.b.map eU),.int r.1,.int r.2.1]]⟩)]:=by
 refine fZ aL (rvs:=[.tmp 4]) (ns:=nmA.drop 1) Tryz.func113 k k Tryz.ntmps113 k k<|sR<|aT k2<|sQ<|sR<|am k k<|cm k4<|an<|tn<|dC k h (λ_ h=>sR<|aT k2<|aG<|aM<|sp h ⟨mN [(4,.int 0)] [(0,⟨3,[[.list 1 (a0.b.map eU),.int a0.i,.int a0.h]]⟩)] 1 1,(bO (bN k2) (bS k<|aR) k4),k,⟨_,k,.inl k⟩,⟨k,aR⟩⟩) λ_ h=>?_;refine aI<|tn<|sQ<|sR<|am k k<|cm k4<|an<|tn<|dC k h (λ_ h=>sR<|am k k<|oB h λv3 hv3 h=>ae (iR 0 [] (vR a0 v3 hv3) k k ⟨_,_,k,(.inl ⟨k,k,k,k⟩),k⟩ k k (.inl k) k k) k<|am k k<|cG h λq4 h=>ae (aDg k k q4) k<|aT k2<|aG<|aM<|sp h ⟨mN [(4,.int (v3.2.tmod a1))] [(0,⟨3,[[.list 1 (a0.b.map eU),.int v3.1,.int (wr ((wr (a0.h*6364136223846793005))+1442695040888963407))]]⟩)] 1 1,(bO (bN k2) (bS k<|aR) k4),k,⟨_,k,.inl k⟩,⟨k,aR⟩⟩) λ_ h=>?_;refine aI<|tn<|sR<|am k k<|oB h λv5 hv5 h=>ae (iR 0 [] (vR a0 v5 hv5) k k ⟨_,_,k,(.inl ⟨k,k,k,k⟩),k⟩ k k (.inl k) k k) k<|aT k2<|sR<|am k k<|oB h λv6 hv6 h=>ae (iR 0 [] (vR (⟨a0.b,v5.1,wr ((wr (a0.h*6364136223846793005))+1442695040888963407)⟩:Cu) v6 hv6) k k ⟨_,_,k,(.inl ⟨k,k,k,k⟩),k⟩ k k (.inl k) k k) k<|aT k2<|sR<|am k k<|oB h λv7 hv7 h=>ae (iR 0 [] (vR (⟨a0.b,v6.1,wr ((wr ((wr ((wr (a0.h*6364136223846793005))+1442695040888963407))*6364136223846793005))+1442695040888963407)⟩:Cu) v7 hv7) k k ⟨_,_,k,(.inl ⟨k,k,k,k⟩),k⟩ k k (.inl k) k k) k<|aT k2<|sR<|am k k<|oB h λv8 hv8 h=>ae (iR 0 [] (vR (⟨a0.b,v7.1,wr ((wr ((wr ((wr ((wr ((wr (a0.h*6364136223846793005))+1442695040888963407))*6364136223846793005))+1442695040888963407))*6364136223846793005))+1442695040888963407)⟩:Cu) v8 hv8) k k ⟨_,_,k,(.inl ⟨k,k,k,k⟩),k⟩ k k (.inl k) k k) k<|aa k k<|an ?_;exact tn<|sR<|am k k<|ae (gC k k) k<|am k k<|ae (gC k k) k<|ae (bJ k k) k<|am k k<|ae (gC k k) k<|ae (bJ k k) k<|am k k<|ae (bJ k k) k<|am k k<|cG h λq9 h=>ae (aDg k k q9) k<|aT k2<|aN (t:=mN [(4,.int ((wr ((wr ((wr ((wr (v5.2*16777216))+(wr (v6.2*65536))))+(wr (v7.2*256))))+v8.2)).tmod a1))] [(0,⟨3,[[.list 1 (a0.b.map eU),.int v8.1,.int (wr ((wr ((wr ((wr ((wr ((wr ((wr ((wr (a0.h*6364136223846793005))+1442695040888963407))*6364136223846793005))+1442695040888963407))*6364136223846793005))+1442695040888963407))*6364136223846793005))+1442695040888963407))]]⟩)] 1 1) (bO (bN k2) (bS k<|aR) k4)<|aG<|sp h ⟨mN [(4,.int ((wr ((wr ((wr ((wr (v5.2*16777216))+(wr (v6.2*65536))))+(wr (v7.2*256))))+v8.2)).tmod a1))] [(0,⟨3,[[.list 1 (a0.b.map eU),.int v8.1,.int (wr ((wr ((wr ((wr ((wr ((wr ((wr ((wr (a0.h*6364136223846793005))+1442695040888963407))*6364136223846793005))+1442695040888963407))*6364136223846793005))+1442695040888963407))*6364136223846793005))+1442695040888963407))]]⟩)] 1 1,(bO (bN k2) (bS k<|aR) k4),k,⟨_,k,.inl k⟩,⟨k,aR⟩⟩
def pN (a0:Cu) (a1:Int):Option (Int×Int×Bool):=
 (dM a0 a1).bind λv1=>
 some (v1.1,v1.2.1,decide (v1.2.2=0))
theorem zJ (a0:Cu) (a1:Int) (r:(Int×Int×Bool)) (h:pN a0 a1=some r):HasE Tryz.prog 112 [.ptr 0 0 0,.int a1] [(0,⟨3,[[.list 1 (a0.b.map eU),.int a0.i,.int a0.h]]⟩)] 1 (.bl r.2.2) [(0,⟨3,[[.list 1 (a0.b.map eU),.int r.1,.int r.2.1]]⟩)]:=by
 exact fZ aL (rvs:=[.tmp 4]) (ns:=nmA.drop 1) Tryz.func112 k k Tryz.ntmps112 k k<|sR<|aT k2<|sR<|am k k<|am k k<|oB h λv1 hv1 h=>ae (iR 0 [] (eK a0 a1 v1 hv1) k k ⟨_,_,k,(.inl ⟨k,k,k,k⟩),⟨_,_,k,(.inl k),k⟩⟩ k k (.inl k) k k) k<|cm k4<|aT k2<|aG<|sp h ⟨mN [(4,.bl (decide (v1.2.2=0)))] [(0,⟨3,[[.list 1 (a0.b.map eU),.int v1.1,.int v1.2.1]]⟩)] 1 1,(bO (bN k2) (bS k<|aR) k4),k,⟨_,k,.inl k⟩,⟨k,aR⟩⟩
def nF (a0:Cu) (a1:(List ByteArray)):Option (Int×Int×ByteArray):=
 (dM a0 (a1.length:Int)).bind λv1=>
 (cO a1 v1.2.2).bind λv2=>
 some (v1.1,v1.2.1,v2)
theorem vS (a0:Cu) (a1:(List ByteArray)) (r:(Int×Int×ByteArray)) (h:nF a0 a1=some r):HasE Tryz.prog 102 [.ptr 0 0 0,.list 1 (a1.map aIJ)] [(0,⟨3,[[.list 1 (a0.b.map eU),.int a0.i,.int a0.h]]⟩)] 1 (.str r.2.2) [(0,⟨3,[[.list 1 (a0.b.map eU),.int r.1,.int r.2.1]]⟩)]:=by
 exact fZ aL (rvs:=[.tmp 4]) (ns:=nmA.drop 1) Tryz.func102 k k Tryz.ntmps102 k k<|sR<|aT k2<|sR<|am k k<|am k k<|am k k<|ln k4<|oB h λv1 hv1 h=>ae (iR 0 [] (eK a0 (a1.length:Int) v1 hv1) k k ⟨_,_,k,(.inl ⟨k,k,k,k⟩),⟨_,_,k,(.inl k),k⟩⟩ k k (.inl k) k k) k<|oB h λv2 hv2 h=>ae (xl hv2 k) k<|lr k7<|aT k2<|aG<|sp h ⟨mN [(4,.str v2)] [(0,⟨3,[[.list 1 (a0.b.map eU),.int v1.1,.int v1.2.1]]⟩)] 1 1,(bO (bN k2) (bS k<|aR) k4),k,⟨_,k,.inl k⟩,⟨k,aR⟩⟩
def uV (a0:Cu) (a1:aA):Option (Int×Int×Int):=
 (dM a0 (a1.length:Int)).bind λv1=>
 (cO a1 v1.2.2).bind λv2=>
 some (v1.1,v1.2.1,v2)
theorem aHa (a0:Cu) (a1:aA) (r:(Int×Int×Int)) (h:uV a0 a1=some r):HasE Tryz.prog 199 [.ptr 0 0 0,.list 1 (a1.map eI)] [(0,⟨3,[[.list 1 (a0.b.map eU),.int a0.i,.int a0.h]]⟩)] 1 (.int r.2.2) [(0,⟨3,[[.list 1 (a0.b.map eU),.int r.1,.int r.2.1]]⟩)]:=by
 exact fZ aL (rvs:=[.tmp 4]) (ns:=nmA.drop 1) Tryz.func199 k k Tryz.ntmps199 k k<|sR<|aT k2<|sR<|am k k<|am k k<|am k k<|ln k4<|oB h λv1 hv1 h=>ae (iR 0 [] (eK a0 (a1.length:Int) v1 hv1) k k ⟨_,_,k,(.inl ⟨k,k,k,k⟩),⟨_,_,k,(.inl k),k⟩⟩ k k (.inl k) k k) k<|oB h λv2 hv2 h=>ae (xl hv2 k) k<|lr k7<|aT k2<|aG<|sp h ⟨mN [(4,.int v2)] [(0,⟨3,[[.list 1 (a0.b.map eU),.int v1.1,.int v1.2.1]]⟩)] 1 1,(bO (bN k2) (bS k<|aR) k4),k,⟨_,k,.inl k⟩,⟨k,aR⟩⟩
def qK (a0:Cu) (v7:(Int×Int×Int)) (x1:(Int×Int×aA×aA×Int)):Option ((Int×Int×aA×aA×Int) ⊕ (Int×Int×aA×aA)):=
 bif decide (0<x1.2.2.2.2) then
 (bif decide (1<wr (1+v7.2.2)) then
 ((dM (⟨a0.b,x1.1,x1.2.1⟩:Cu) (wr ((wr (1+v7.2.2)) - 1))).bind λv11=>
 bif decide (x1.2.2.1.length+[v11.2.2].length <=4294967296) then
 ((dM (⟨a0.b,v11.1,v11.2.1⟩:Cu) (wr ((wr ((wr (1+v7.2.2)) - 1)) - v11.2.2))).bind λv13=>
 bif decide (x1.2.2.2.1.length+[wr ((wr (v11.2.2+1))+v13.2.2)].length <=4294967296) then
 (some (.inl (v13.1,v13.2.1,(x1.2.2.1++[v11.2.2]),(x1.2.2.2.1++[wr ((wr (v11.2.2+1))+v13.2.2)]),wr (x1.2.2.2.2 - 1))))
 else none)
 else none)
 else
 (some (.inr (x1.1,x1.2.1,x1.2.2.1,x1.2.2.2.1))))
 else
 (some (.inr (x1.1,x1.2.1,x1.2.2.1,x1.2.2.2.1)))
def uW (a0:Cu):Option (Int×Int×Int×aA×aA):=
 (pN a0 2).bind λv1=>
 bif v1.2.2 then
 ((aBK ).bind λv3=>
 (dM (⟨a0.b,v1.1,v1.2.1⟩:Cu) 10).bind λv4=>
 (cO v3 v4.2.2).bind λv5=>
 (eG v5).bind λv6=>
 some (v4.1,v4.2.1,v6.1.n,v6.1.src,v6.1.tgt))
 else
 ((dM (⟨a0.b,v1.1,v1.2.1⟩:Cu) 4).bind λv7=>
 (dM (⟨a0.b,v7.1,v7.2.1⟩:Cu) 5).bind λv8=>
 (Lp (qK a0 v7) (v8.1,v8.2.1,([]:aA),([]:aA),v8.2.2)).bind λy15=>
 some (y15.1,y15.2.1,wr (1+v7.2.2),y15.2.2.1,y15.2.2.2))
theorem aHb (a0:Cu) (r:(Int×Int×Int×aA×aA)) (h:uW a0=some r):HasE Tryz.prog 243 [.ptr 0 0 0] [(0,⟨3,[[.list 1 (a0.b.map eU),.int a0.i,.int a0.h]]⟩)] 1 (.agg [.int r.2.2.1,.own 2 0 r.2.2.2.1.length,.own 3 0 r.2.2.2.2.length]) [(0,⟨3,[[.list 1 (a0.b.map eU),.int r.1,.int r.2.1]]⟩),(2,⟨1,r.2.2.2.1.map (ow eI)⟩),(3,⟨1,r.2.2.2.2.map (ow eI)⟩)]:=by
 refine fZ aL (rvs:=[.cell 2 26]) (ns:=nmA.drop 1) Tryz.func243 k k Tryz.ntmps243 k k<|sR<|ae (cB aL k k) k<|an<|tn<|sQ<|sR<|am k k<|oB h λv1 hv1 h=>ae (iR 0 [] (zJ a0 2 v1 hv1) k k ⟨_,_,k,(.inl ⟨k,k,k,k⟩),⟨_,_,k,(.inl k),k⟩⟩ k k (.inl k) k k) k<|an<|tn<|dC k h (λ_ h=>?_) λ_ h=>?_
 ·exact sR<|oB h λv3 hv3 h=>ae (cL aBb (aKV v3 hv3) k3 aU) k<|am k k<|oB h λv4 hv4 h=>ae (iR 0 [] (eK (⟨a0.b,v1.1,v1.2.1⟩:Cu) 10 v4 hv4) k k ⟨_,_,k,(.inl ⟨k,k,k,k⟩),⟨_,_,k,(.inl k),k⟩⟩ k k (.inl k) k k) k<|oB h λv5 hv5 h=>ae (xo hv5 k) k<|ae (wp hv5 k) k<|oB h λv6 hv6 h=>ae (AEff.conv (gJ (x:= .tuple [.agg [.int v6.1.n,.own 3 0 (v6.1.src.map eI).length,.own 4 0 (v6.1.tgt.map eI).length],.bl v6.2]) (nb:=[(3,⟨1,cK (v6.1.src.map eI)⟩),(4,⟨1,cK (v6.1.tgt.map eI)⟩)]) (kQ v5 v6 hv6) k (by rfl) k k (cV (bY aR (bY (cW.good _) (bY (cW.good _) kY))) (cV aR kM)) (dF k aU)) (v':= .tuple [.agg [.int v6.1.n,.own 3 0 v6.1.src.length,.own 4 0 v6.1.tgt.length],.bl v6.2]) (ed':=[(3,some ⟨1,v6.1.src.map (ow eI)⟩),(4,some ⟨1,v6.1.tgt.map (ow eI)⟩)]) (by simp only [aO]) (oV (nb':=[(3,⟨1,v6.1.src.map (ow eI)⟩),(4,⟨1,v6.1.tgt.map (ow eI)⟩)]) (by simp only [fJ]))) k<|am k k<|ae (aW k k (by intro _ h;cases h)) k<|ae (aW k k (by intro _ h;cases h)) k<|ae (cB aL k k) k<|ae (ws k) k<|aT k2<|sR<|lp k8<|ae (ws k) k<|an<|tn<|aG<|aM<|sp h ⟨mN [(2,.ptr 1 0 0)] [(0,⟨3,[[.list 1 (a0.b.map eU),.int v4.1,.int v4.2.1]]⟩),(1,⟨3,[oQv v6.1 2 3]⟩),(2,⟨1,v6.1.src.map (ow eI)⟩),(3,⟨1,v6.1.tgt.map (ow eI)⟩)] 4 1,(kE [0,1,3,4] (bN k2) (bS k<|fV k<|cD k<|cD k<|aR) k4),k,⟨_,k,.inl k⟩,⟨k,k,k,aR⟩⟩
 ·refine aI<|tn<|sR<|am k k<|oB h λv7 hv7 h=>ae (iR 0 [] (eK (⟨a0.b,v1.1,v1.2.1⟩:Cu) 4 v7 hv7) k k ⟨_,_,k,(.inl ⟨k,k,k,k⟩),⟨_,_,k,(.inl k),k⟩⟩ k k (.inl k) k k) k<|ae (bJ k k) k<|ae (wl k) k<|ae (wl k) k<|ae (mQ aL k k k k k k) k<|ae (cB aL k k) k<|ae (ws k) k<|an<|tn<|aN (t:=mN [(0,.ptr 0 0 0),(2,.ptr 1 0 0),(5,.ptr 4 0 0)] [(0,⟨3,[[.list 1 (a0.b.map eU),.int v7.1,.int v7.2.1]]⟩),(1,⟨3,[[.int 0,.nil 1,.nil 1]]⟩),(2,⟨1,List.map (ow eI) ([]:aA)⟩),(3,⟨1,List.map (ow eI) ([]:aA)⟩),(4,⟨3,[[.int (wr (1+v7.2.2)),.own 2 0 (([]:aA).length),.own 3 0 (([]:aA).length)]]⟩)] 5 1) (bO (bN k2) (bS k<|bS k<|cD k<|cD k<|hX ⟨_,k,k,.inr ⟨_,_,k,⟨_,_,k,k,⟨_,_,k,⟨k,k,(by simp only [aO,lA,lT,lR,lC,lN]),k⟩,⟨_,_,k,⟨k,k,(by simp only [aO,lA,lT,lR,lC,lN]),k⟩,k⟩⟩⟩,k⟩⟩ k<|aR) k4)<|sQ<|sR<|am k k<|oB h λv8 hv8 h=>ae (iR 0 [] (eK (⟨a0.b,v7.1,v7.2.1⟩:Cu) 5 v8 hv8) k k ⟨_,_,k,(.inl ⟨k,k,k,k⟩),⟨_,_,k,(.inl k),k⟩⟩ k k (.inl k) k k) k<|aT k2<|aE<|oB h λy15 hy15 h=>cH (body:=(qK a0 v7)) hy15 (λ(x1:(Int×Int×aA×aA×Int))=>mN [(0,.ptr 0 0 0),(2,.ptr 1 0 0),(5,.ptr 2 0 0),(6,.int x1.2.2.2.2)] [(0,⟨3,[[.list 1 (a0.b.map eU),.int x1.1,.int x1.2.1]]⟩),(1,⟨3,[[.int 0,.nil 1,.nil 1]]⟩),(2,⟨3,[[.int (wr (1+v7.2.2)),.own 3 0 x1.2.2.1.length,.own 4 0 x1.2.2.2.1.length]]⟩),(3,⟨1,x1.2.2.1.map (ow eI)⟩),(4,⟨1,x1.2.2.2.1.map (ow eI)⟩)] 5 1) (λr e t=>e= .exit 0/\Ent t (mN [(2,.ptr 1 0 0),(5,.ptr 2 0 0)] [(0,⟨3,[[.list 1 (a0.b.map eU),.int r.1,.int r.2.1]]⟩),(1,⟨3,[[.int 0,.nil 1,.nil 1]]⟩),(2,⟨3,[[.int (wr (1+v7.2.2)),.own 3 0 r.2.2.1.length,.own 4 0 r.2.2.2.length]]⟩),(3,⟨1,r.2.2.1.map (ow eI)⟩),(4,⟨1,r.2.2.2.map (ow eI)⟩)] 5 1)) (kE [0,1,4,2,3] (bN k2) (bS k<|bS k<|fV k<|cD k<|cD k<|aR) k4) ?_ ?_
  ·intro x1 o h;refine sQ<|sR<|am k k<|cm k4<|am k k<|kI h (λq9 h=>?_) λq9 h=>aH 30 k q9<|aK k4<|ak k k<|pk k3<|an<|tn<|fK k k<|bA<|aB<|aB<|sp h ⟨_,k,k,(bO (bN k2) (bS k<|bS k<|fV k<|cD k<|cD k<|aR) k4)⟩;refine aH 30 k q9<|fp k8<|lp k8<|cm k4<|pk k3<|an<|tn<|dC k h (λ_ h=>?_) λ_ h=>bA<|aB<|aB<|sp h ⟨_,k,k,(bO (bN k2) (bS k<|bS k<|fV k<|cD k<|cD k<|aR) k4)⟩;refine aI<|tn<|sQ<|aE<|sR<|am k k<|fp k8<|lp k8<|ae (gK k k) k<|oB h λv11 hv11 h=>ae (iR 0 [] (eK (⟨a0.b,x1.1,x1.2.1⟩:Cu) (wr ((wr (1+v7.2.2)) - 1)) v11 hv11) k k ⟨_,_,k,(.inl ⟨k,k,k,k⟩),⟨_,_,k,(.inl k),k⟩⟩ k k (.inl k) k k) k<|aT k2<|sR<|fp k8<|lp k8<|am k k<|ae (wl k) k<|cG h λq12 h=>ae (lO aL (l:=x1.2.2.1) (m:=[v11.2.2]) jZ q12 k k k k k k k k k k k k) k<|fp k8<|ae (ws k) k<|an<|tn<|aQ fW<|fp k8<|lp k8<|am k k ?_;exact ae (bJ k k) k<|am k k<|fp k8<|lp k8<|ae (gK k k) k<|am k k<|ae (gK k k) k<|oB h λv13 hv13 h=>ae (iR 0 [] (eK (⟨a0.b,v11.1,v11.2.1⟩:Cu) (wr ((wr ((wr (1+v7.2.2)) - 1)) - v11.2.2)) v13 hv13) k k ⟨_,_,k,(.inl ⟨k,k,k,k⟩),⟨_,_,k,(.inl k),k⟩⟩ k k (.inl k) k k) k<|ae (bJ k k) k<|ae (wl k) k<|cG h λq14 h=>ae (lO aL (l:=x1.2.2.2.1) (m:=[wr ((wr (v11.2.2+1))+v13.2.2)]) jZ q14 k k k k k k k k k k k k) k<|fp k8<|ae (ws k) k<|an<|nH (by kernel_rfl)<|aZ<|tn<|aN (t:=mN [(0,.ptr 0 0 0),(2,.ptr 1 0 0),(5,.ptr 2 0 0),(6,.int x1.2.2.2.2)] [(0,⟨3,[[.list 1 (a0.b.map eU),.int v13.1,.int v13.2.1]]⟩),(1,⟨3,[[.int 0,.nil 1,.nil 1]]⟩),(2,⟨3,[[.int (wr (1+v7.2.2)),.own 6 0 ((x1.2.2.1++[v11.2.2]).length),.own 8 0 ((x1.2.2.2.1++[wr ((wr (v11.2.2+1))+v13.2.2)]).length)]]⟩),(6,⟨1,List.map (ow eI) (x1.2.2.1++[v11.2.2])⟩),(8,⟨1,List.map (ow eI) (x1.2.2.2.1++[wr ((wr (v11.2.2+1))+v13.2.2)])⟩)] 9 1) (bO (bN k2) (bS k<|bS k<|fV k<|cD k<|cD k<|aR) k4)<|rg<|am k k<|ae (gK k k) k<|aT k2<|sp h ⟨_,k,(kE [0,1,2,6,8] (bN k2) (bS k<|bS k<|fV k<|cD k<|cD k<|aR) k4)⟩
  ·rintro e t ⟨rfl,hent⟩;exact aP<|tn<|aN hent<|sR<|lp k8<|ae (ws k) k<|an<|tn<|aG<|sp h ⟨mN [(2,.ptr 1 0 0)] [(0,⟨3,[[.list 1 (a0.b.map eU),.int y15.1,.int y15.2.1]]⟩),(1,⟨3,[[.int (wr (1+v7.2.2)),.own 2 0 y15.2.2.1.length,.own 3 0 y15.2.2.2.length]]⟩),(2,⟨1,y15.2.2.1.map (ow eI)⟩),(3,⟨1,y15.2.2.2.map (ow eI)⟩)] 4 1,(kE [0,1,3,4] (bN k2) (bS k<|fV k<|cD k<|cD k<|aR) k4),k,⟨_,k,.inl k⟩,⟨k,k,k,aR⟩⟩
def uX (a0:Cu):Option (Int×Int×Int×aA×aA):=
 (uW a0).bind λv1=>
 (dM (⟨a0.b,v1.1,v1.2.1⟩:Cu) 14).bind λv2=>
 bif decide (v2.2.2=0) then
 ((nF (⟨a0.b,v2.1,v2.2.1⟩:Cu) [(⟨#[108,111,111,112]⟩:ByteArray),(⟨#[99,105,114,99,108,101]⟩:ByteArray)]).bind λv4=>
 (eG v4.2.2).bind λv5=>
 some (v4.1,v4.2.1,v5.1.n,v5.1.src,v5.1.tgt))
 else
 (bif decide (v2.2.2=1) then
 ((uV (⟨a0.b,v2.1,v2.2.1⟩:Cu) [0,6,(-1),2]).bind λv7=>
 some (v7.1,v7.2.1,v7.2.2,v1.2.2.2.1,v1.2.2.2.2))
 else
 (bif decide (v2.2.2=2) then
 ((dM (⟨a0.b,v2.1,v2.2.1⟩:Cu) 6).bind λv9=>
 bif decide (v1.2.2.2.1.length+[wr (v9.2.2 - 1)].length <=4294967296) then
 (some (v9.1,v9.2.1,v1.2.2.1,(v1.2.2.2.1++[wr (v9.2.2 - 1)]),v1.2.2.2.2))
 else none)
 else
 (some (v2.1,v2.2.1,v1.2.2.1,v1.2.2.2.1,v1.2.2.2.2))))
theorem aNZ (a0:Cu) (r:(Int×Int×Int×aA×aA)) (h:uX a0=some r):HasE Tryz.prog 197 [.ptr 0 0 0] [(0,⟨3,[[.list 1 (a0.b.map eU),.int a0.i,.int a0.h]]⟩)] 1 (.agg [.int r.2.2.1,.own 2 0 r.2.2.2.1.length,.own 3 0 r.2.2.2.2.length]) [(0,⟨3,[[.list 1 (a0.b.map eU),.int r.1,.int r.2.1]]⟩),(2,⟨1,r.2.2.2.1.map (ow eI)⟩),(3,⟨1,r.2.2.2.2.map (ow eI)⟩)]:=by
 refine fZ aL (rvs:=[.cell 2 26]) (ns:=nmA.drop 1) Tryz.func197 k k Tryz.ntmps197 k k<|sR<|ae (cB aL k k) k<|an<|tn<|sR<|am k k<|oB h λv1 hv1 h=>ae (cZ (σ:=sg [(0,0)]) (σ':=sg [(0,0),(2,2),(3,3)]) (touch:=[0]) (news:=[2,3]) (hl2:=[(0,⟨3,[[.list 1 (a0.b.map eU),.int v1.1,.int v1.2.1]]⟩),(2,⟨1,v1.2.2.2.1.map (ow eI)⟩),(3,⟨1,v1.2.2.2.2.map (ow eI)⟩)]) (n':=4) (r2:= .agg [.int v1.2.2.1,.own 2 0 v1.2.2.2.1.length,.own 3 0 v1.2.2.2.2.length]) (aHb a0 v1 hv1) k k ⟨_,_,k,(.inl ⟨k,k,k,k⟩),k⟩ ⟨⟨_,k,k,.inr ⟨_,_,k,⟨_,_,k,⟨k,k⟩,⟨_,_,k,k,⟨_,_,k,k,k⟩⟩⟩,k⟩⟩,k,aR⟩ k k k ⟨⟨_,k,k,.inr ⟨_,_,k,⟨_,_,k,⟨k,k⟩,⟨_,_,k,k,⟨_,_,k,k,k⟩⟩⟩,k⟩⟩,k,⟨_,k,k,.inl ⟨k,cW.plainO _⟩⟩,k,⟨_,k,k,.inl ⟨k,cW.plainO _⟩⟩,k,aR⟩ k (.inl ⟨_,_,k,k,⟨_,_,k,⟨k,k,(by simp only [aO,lA,lT,lR,lC,lN]),k⟩,⟨_,_,k,⟨k,k,(by simp only [aO,lA,lT,lR,lC,lN]),k⟩,k⟩⟩⟩) k ⟨k,gM k,⟨k,cW.tamd _ _,⟨k,cW.tamd _ _,aR⟩⟩⟩ k k) k<|ae (cB aL k k) k<|ae (ws k) k<|an<|tn<|sQ<|sR<|am k k<|oB h λv2 hv2 h=>ae (iR 0 [] (eK (⟨a0.b,v1.1,v1.2.1⟩:Cu) 14 v2 hv2) k k ⟨_,_,k,(.inl ⟨k,k,k,k⟩),⟨_,_,k,(.inl k),k⟩⟩ k k (.inl k) k k) k<|an<|tn<|aE<|sR<|cm k4<|aT k2<|dC k h (λ_ h=>?_) λ_ h=>?_
 ·exact rg<|am k k<|ae (wl k) k<|oB h λv4 hv4 h=>ae (iR 0 [5] (vS (⟨a0.b,v2.1,v2.2.1⟩:Cu) [(⟨#[108,111,111,112]⟩:ByteArray),(⟨#[99,105,114,99,108,101]⟩:ByteArray)] v4 hv4) k k ⟨_,_,k,(.inl ⟨k,k,k,k⟩),⟨_,_,k,(.inr ⟨(aCs k k ⟨_,_,k,⟨_,_,k,k,k⟩,⟨_,_,k,⟨_,_,k,k,k⟩,k⟩⟩),k,k⟩),k⟩⟩ k k (.inl k) k k) k<|oB h λv5 hv5 h=>ae (AEff.conv (gJ (x:= .tuple [.agg [.int v5.1.n,.own 6 0 (v5.1.src.map eI).length,.own 7 0 (v5.1.tgt.map eI).length],.bl v5.2]) (nb:=[(6,⟨1,cK (v5.1.src.map eI)⟩),(7,⟨1,cK (v5.1.tgt.map eI)⟩)]) (kQ v4.2.2 v5 hv5) k (by rfl) k k (cV (bY aR (bY (cW.good _) (bY (cW.good _) kY))) (cV aR kM)) (dF k aU)) (v':= .tuple [.agg [.int v5.1.n,.own 6 0 v5.1.src.length,.own 7 0 v5.1.tgt.length],.bl v5.2]) (ed':=[(6,some ⟨1,v5.1.src.map (ow eI)⟩),(7,some ⟨1,v5.1.tgt.map (ow eI)⟩)]) (by simp only [aO]) (oV (nb':=[(6,⟨1,v5.1.src.map (ow eI)⟩),(7,⟨1,v5.1.tgt.map (ow eI)⟩)]) (by simp only [fJ]))) k<|am k k<|ae (aW k k (by intro _ h;cases h)) k<|ae (aW k k (by intro _ h;cases h)) k<|ae (ws k) k<|an<|aZ<|tn<|sR<|lp k8<|ae (ws k) k<|an<|tn<|aG<|sp h ⟨mN [(2,.ptr 1 0 0)] [(0,⟨3,[[.list 1 (a0.b.map eU),.int v4.1,.int v4.2.1]]⟩),(1,⟨3,[oQv v5.1 2 3]⟩),(2,⟨1,v5.1.src.map (ow eI)⟩),(3,⟨1,v5.1.tgt.map (ow eI)⟩)] 4 1,(kE [0,1,6,7] (bN k2) (bS k<|fV k<|cD k<|cD k<|aR) k4),k,⟨_,k,.inl k⟩,⟨k,k,k,aR⟩⟩
 ·refine sR<|cm k4<|aT k2<|dC k h (λ_ h=>rg<|am k k<|ae (wl k) k<|oB h λv7 hv7 h=>ae (iR 0 [5] (aHa (⟨a0.b,v2.1,v2.2.1⟩:Cu) [0,6,(-1),2] v7 hv7) k k ⟨_,_,k,(.inl ⟨k,k,k,k⟩),⟨_,_,k,(.inr ⟨(aCs k k ⟨_,_,k,⟨_,_,k,k,k⟩,⟨_,_,k,⟨_,_,k,k,k⟩,⟨_,_,k,⟨_,_,k,k,k⟩,⟨_,_,k,⟨_,_,k,k,k⟩,k⟩⟩⟩⟩),k,k⟩),k⟩⟩ k k (.inl k) k k) k<|fp k8<|ae (ws k) k<|an<|aZ<|tn<|sR<|lp k8<|ae (ws k) k<|an<|tn<|aG<|sp h ⟨mN [(2,.ptr 1 0 0)] [(0,⟨3,[[.list 1 (a0.b.map eU),.int v7.1,.int v7.2.1]]⟩),(1,⟨3,[[.int v7.2.2,.own 2 0 v1.2.2.2.1.length,.own 3 0 v1.2.2.2.2.length]]⟩),(2,⟨1,v1.2.2.2.1.map (ow eI)⟩),(3,⟨1,v1.2.2.2.2.map (ow eI)⟩)] 4 1,(bO (bN k2) (bS k<|fV k<|cD k<|cD k<|aR) k4),k,⟨_,k,.inl k⟩,⟨k,k,k,aR⟩⟩) λ_ h=>?_;exact sR<|cm k4<|aT k2<|dC k h (λ_ h=>aQ fW<|fp k8<|lp k8<|am k k<|oB h λv9 hv9 h=>ae (iR 0 [] (eK (⟨a0.b,v2.1,v2.2.1⟩:Cu) 6 v9 hv9) k k ⟨_,_,k,(.inl ⟨k,k,k,k⟩),⟨_,_,k,(.inl k),k⟩⟩ k k (.inl k) k k) k<|ae (gK k k) k<|ae (wl k) k<|cG h λq10 h=>ae (lO aL (l:=v1.2.2.2.1) (m:=[wr (v9.2.2 - 1)]) jZ q10 k k k k k k k k k k k k) k<|fp k8<|ae (ws k) k<|an<|nH (by kernel_rfl)<|aZ<|tn<|sR<|lp k8<|ae (ws k) k<|an<|tn<|aN (t:=mN [(2,.ptr 1 0 0)] [(0,⟨3,[[.list 1 (a0.b.map eU),.int v9.1,.int v9.2.1]]⟩),(1,⟨3,[[.int v1.2.2.1,.own 6 0 ((v1.2.2.2.1++[wr (v9.2.2 - 1)]).length),.own 3 0 v1.2.2.2.2.length]]⟩),(3,⟨1,v1.2.2.2.2.map (ow eI)⟩),(6,⟨1,List.map (ow eI) (v1.2.2.2.1++[wr (v9.2.2 - 1)])⟩)] 7 1) (bO (bN k2) (bS k<|fV k<|cD k<|cD k<|aR) k4)<|aG<|sp h ⟨mN [(2,.ptr 1 0 0)] [(0,⟨3,[[.list 1 (a0.b.map eU),.int v9.1,.int v9.2.1]]⟩),(1,⟨3,[[.int v1.2.2.1,.own 2 0 ((v1.2.2.2.1++[wr (v9.2.2 - 1)]).length),.own 3 0 v1.2.2.2.2.length]]⟩),(2,⟨1,List.map (ow eI) (v1.2.2.2.1++[wr (v9.2.2 - 1)])⟩),(3,⟨1,v1.2.2.2.2.map (ow eI)⟩)] 4 1,(kE [0,1,6,3] (bN k2) (bS k<|fV k<|cD k<|cD k<|aR) k4),k,⟨_,k,.inl k⟩,⟨k,k,k,aR⟩⟩) λ_ h=>aI<|aZ<|tn<|sR<|lp k8<|ae (ws k) k<|an<|tn<|aG<|sp h ⟨mN [(2,.ptr 1 0 0)] [(0,⟨3,[[.list 1 (a0.b.map eU),.int v2.1,.int v2.2.1]]⟩),(1,⟨3,[[.int v1.2.2.1,.own 2 0 v1.2.2.2.1.length,.own 3 0 v1.2.2.2.2.length]]⟩),(2,⟨1,v1.2.2.2.1.map (ow eI)⟩),(3,⟨1,v1.2.2.2.2.map (ow eI)⟩)] 4 1,(bO (bN k2) (bS k<|fV k<|cD k<|cD k<|aR) k4),k,⟨_,k,.inl k⟩,⟨k,k,k,aR⟩⟩
def uY (a0:Cu) (a1:Qv) (a2:Int) (x1:(Int×Int×aA×Int×Int)):Option ((Int×Int×aA×Int×Int) ⊕ (Int×Int×aA)):=
 bif decide (x1.2.2.2.2<a1.n) then
 (bif decide (x1.2.2.2.2<5) then
 ((dM (⟨a0.b,x1.1,x1.2.1⟩:Cu) (wr (a2+1))).bind λv3=>
 bif decide (x1.2.2.1.length+[min x1.2.2.2.1 v3.2.2].length <=4294967296) then
 (some (.inl (v3.1,v3.2.1,(x1.2.2.1++[min x1.2.2.2.1 v3.2.2]),wr (x1.2.2.2.1 - (min x1.2.2.2.1 v3.2.2)),wr (x1.2.2.2.2+1))))
 else none)
 else
 (some (.inr (x1.1,x1.2.1,x1.2.2.1))))
 else
 (some (.inr (x1.1,x1.2.1,x1.2.2.1)))
def pO (a0:Cu) (a1:Qv) (a2:Int):Option (Int×Int×aA):=
 (Lp (uY a0 a1 a2) (a0.i,a0.h,([]:aA),8,0)).bind λy5=>
 some (y5.1,y5.2.1,y5.2.2)
theorem aBz (a0:Cu) (a1:Qv) (a2:Int) (r:(Int×Int×aA)) (h:pO a0 a1 a2=some r):HasE Tryz.prog 103 [.ptr 0 0 0,.agg (eQ a1),.int a2] [(0,⟨3,[[.list 1 (a0.b.map eU),.int a0.i,.int a0.h]]⟩)] 1 (.own 1 0 r.2.2.length) [(0,⟨3,[[.list 1 (a0.b.map eU),.int r.1,.int r.2.1]]⟩),(1,⟨1,r.2.2.map (ow eI)⟩)]:=by
 refine fZ aL (rvs:=[.tmp 6]) (ns:=nmA.drop 1) Tryz.func103 k k Tryz.ntmps103 k k<|sR<|ae (wb k) k<|aT k2<|sR<|ae (wl k) k<|aT k2<|aN (t:=mN [(0,.ptr 0 0 0),(2,.int a2),(4,.ptr 1 0 0),(7,.own 2 0 (([]:aA).length))] [(0,⟨3,[[.list 1 (a0.b.map eU),.int a0.i,.int a0.h]]⟩),(1,⟨3,[eQ a1]⟩),(2,⟨1,List.map (ow eI) ([]:aA)⟩)] 3 1) (bO (pP 3 k2 (mO ⟨_,k,⟨k,k,(by simp only [aO,lA,lT,lR,lC,lN]),k⟩⟩ aR)) (bS k<|bS k<|cD k<|aR) k4)<|sR<|aT k2<|sQ<|sR<|aT k2<|aE<|oB h λy5 hy5 h=>cH (body:=(uY a0 a1 a2)) hy5 (λ(x1:(Int×Int×aA×Int×Int))=>mN [(0,.ptr 0 0 0),(2,.int a2),(4,.ptr 1 0 0),(7,.own 2 0 x1.2.2.1.length),(8,.int x1.2.2.2.1),(9,.int x1.2.2.2.2)] [(0,⟨3,[[.list 1 (a0.b.map eU),.int x1.1,.int x1.2.1]]⟩),(1,⟨3,[eQ a1]⟩),(2,⟨1,x1.2.2.1.map (ow eI)⟩)] 3 1) (λr e t=>e= .exit 0/\Ent t (mN [(7,.own 1 0 r.2.2.length)] [(0,⟨3,[[.list 1 (a0.b.map eU),.int r.1,.int r.2.1]]⟩),(1,⟨1,r.2.2.map (ow eI)⟩)] 2 1)) (bO (bN k2) (bS k<|bS k<|cD k<|aR) k4) ?_ ?_
 ·intro x1 o h;refine sQ<|sR<|am k k<|fp k8<|lp k8<|cm k4<|am k k<|kI h (λq1 h=>?_) λq1 h=>aH 16 k q1<|aK k4<|pk k3<|an<|tn<|fK k k<|bA<|aB<|aB<|sp h ⟨_,k,k,(kE [0,2] (bN k2) (bS k<|cD k<|aR) k4)⟩;refine aH 16 k q1<|am k k<|cm k4<|pk k3<|an<|tn<|dC k h (λ_ h=>?_) λ_ h=>bA<|aB<|aB<|sp h ⟨_,k,k,(kE [0,2] (bN k2) (bS k<|cD k<|aR) k4)⟩;refine aI<|tn<|sQ<|aE<|sR<|am k k<|am k k<|am k k<|ae (bJ k k) k<|oB h λv3 hv3 h=>ae (iR 0 [] (eK (⟨a0.b,x1.1,x1.2.1⟩:Cu) (wr (a2+1)) v3 hv3) k k ⟨_,_,k,(.inl ⟨k,k,k,k⟩),⟨_,_,k,(.inl k),k⟩⟩ k k (.inl k) k k) k<|ae (aXO k k) k<|aT k2<|sR<|am k k<|am k k<|ae (wl k) k<|cG h λq4 h=>ae (lO aL (l:=x1.2.2.1) (m:=[min x1.2.2.2.1 v3.2.2]) jZ q4 k k k k k k k k k k k k) k<|aT k2<|rg<|am k k<|am k k<|ae (gK k k) k<|aa k k ?_;exact an<|aZ<|tn<|aN (t:=mN [(0,.ptr 0 0 0),(2,.int a2),(4,.ptr 1 0 0),(7,.own 4 0 ((x1.2.2.1++[min x1.2.2.2.1 v3.2.2]).length)),(8,.int (wr (x1.2.2.2.1 - (min x1.2.2.2.1 v3.2.2)))),(9,.int x1.2.2.2.2)] [(0,⟨3,[[.list 1 (a0.b.map eU),.int v3.1,.int v3.2.1]]⟩),(1,⟨3,[eQ a1]⟩),(4,⟨1,List.map (ow eI) (x1.2.2.1++[min x1.2.2.2.1 v3.2.2])⟩)] 5 1) (bO (bN k2) (bS k<|bS k<|cD k<|aR) k4)<|rg<|am k k<|ae (bJ k k) k<|aT k2<|sp h ⟨_,k,(kE [0,1,4] (bN k2) (bS k<|bS k<|cD k<|aR) k4)⟩
 ·rintro e t ⟨rfl,hent⟩;exact aP<|tn<|aN hent<|sR<|am k k<|aT k2<|aG<|sp h ⟨mN [(6,.own 1 0 y5.2.2.length)] [(0,⟨3,[[.list 1 (a0.b.map eU),.int y5.1,.int y5.2.1]]⟩),(1,⟨1,y5.2.2.map (ow eI)⟩)] 2 1,(bO (bN k2) (bS k<|cD k<|aR) k4),k,⟨_,k,.inl k⟩,⟨k,k,aR⟩⟩
def uZ (a0:Cu):Option (Int×Int×Int×aA×aA):=
 (pN a0 6).bind λv1=>
 bif v1.2.2 then
 ((uX (⟨a0.b,v1.1,v1.2.1⟩:Cu)).bind λv3=>
 some (v3.1,v3.2.1,v3.2.2.1,v3.2.2.2.1,v3.2.2.2.2))
 else
 ((nF (⟨a0.b,v1.1,v1.2.1⟩:Cu) [(⟨#[65,49]⟩:ByteArray),(⟨#[65,50]⟩:ByteArray),(⟨#[65,51]⟩:ByteArray),(⟨#[65,51,105,110]⟩:ByteArray),(⟨#[65,52]⟩:ByteArray),(⟨#[68,52]⟩:ByteArray),(⟨#[68,53]⟩:ByteArray)]).bind λv4=>
 (eG v4.2.2).bind λv5=>
 some (v4.1,v4.2.1,v5.1.n,v5.1.src,v5.1.tgt))
theorem aHc (a0:Cu) (r:(Int×Int×Int×aA×aA)) (h:uZ a0=some r):HasE Tryz.prog 142 [.ptr 0 0 0] [(0,⟨3,[[.list 1 (a0.b.map eU),.int a0.i,.int a0.h]]⟩)] 1 (.agg [.int r.2.2.1,.own 2 0 r.2.2.2.1.length,.own 3 0 r.2.2.2.2.length]) [(0,⟨3,[[.list 1 (a0.b.map eU),.int r.1,.int r.2.1]]⟩),(2,⟨1,r.2.2.2.1.map (ow eI)⟩),(3,⟨1,r.2.2.2.2.map (ow eI)⟩)]:=by
 refine fZ aL (rvs:=[.cell 2 26]) (ns:=nmA.drop 1) Tryz.func142 k k Tryz.ntmps142 k k<|sR<|ae (cB aL k k) k<|an<|tn<|sQ<|sR<|am k k<|oB h λv1 hv1 h=>ae (iR 0 [] (zJ a0 6 v1 hv1) k k ⟨_,_,k,(.inl ⟨k,k,k,k⟩),⟨_,_,k,(.inl k),k⟩⟩ k k (.inl k) k k) k<|an<|tn<|dC k h (λ_ h=>sR<|am k k<|oB h λv3 hv3 h=>ae (cZ (σ:=sg [(0,0)]) (σ':=sg [(0,0),(2,2),(3,3)]) (touch:=[0]) (news:=[2,3]) (hl2:=[(0,⟨3,[[.list 1 (a0.b.map eU),.int v3.1,.int v3.2.1]]⟩),(2,⟨1,v3.2.2.2.1.map (ow eI)⟩),(3,⟨1,v3.2.2.2.2.map (ow eI)⟩)]) (n':=4) (r2:= .agg [.int v3.2.2.1,.own 2 0 v3.2.2.2.1.length,.own 3 0 v3.2.2.2.2.length]) (aNZ (⟨a0.b,v1.1,v1.2.1⟩:Cu) v3 hv3) k k ⟨_,_,k,(.inl ⟨k,k,k,k⟩),k⟩ ⟨⟨_,k,k,.inr ⟨_,_,k,⟨_,_,k,⟨k,k⟩,⟨_,_,k,k,⟨_,_,k,k,k⟩⟩⟩,k⟩⟩,k,aR⟩ k k k ⟨⟨_,k,k,.inr ⟨_,_,k,⟨_,_,k,⟨k,k⟩,⟨_,_,k,k,⟨_,_,k,k,k⟩⟩⟩,k⟩⟩,k,⟨_,k,k,.inl ⟨k,cW.plainO _⟩⟩,k,⟨_,k,k,.inl ⟨k,cW.plainO _⟩⟩,k,aR⟩ k (.inl ⟨_,_,k,k,⟨_,_,k,⟨k,k,(by simp only [aO,lA,lT,lR,lC,lN]),k⟩,⟨_,_,k,⟨k,k,(by simp only [aO,lA,lT,lR,lC,lN]),k⟩,k⟩⟩⟩) k ⟨k,gM k,⟨k,cW.tamd _ _,⟨k,cW.tamd _ _,aR⟩⟩⟩ k k) k<|ae (ws k) k<|an<|tn<|aG<|aM<|sp h ⟨mN [(2,.ptr 1 0 0)] [(0,⟨3,[[.list 1 (a0.b.map eU),.int v3.1,.int v3.2.1]]⟩),(1,⟨3,[[.int v3.2.2.1,.own 2 0 v3.2.2.2.1.length,.own 3 0 v3.2.2.2.2.length]]⟩),(2,⟨1,v3.2.2.2.1.map (ow eI)⟩),(3,⟨1,v3.2.2.2.2.map (ow eI)⟩)] 4 1,(bO (bN k2) (bS k<|fV k<|cD k<|cD k<|aR) k4),k,⟨_,k,.inl k⟩,⟨k,k,k,aR⟩⟩) λ_ h=>?_;exact aI<|tn<|sR<|am k k<|ae (wl k) k<|oB h λv4 hv4 h=>ae (iR 0 [2] (vS (⟨a0.b,v1.1,v1.2.1⟩:Cu) [(⟨#[65,49]⟩:ByteArray),(⟨#[65,50]⟩:ByteArray),(⟨#[65,51]⟩:ByteArray),(⟨#[65,51,105,110]⟩:ByteArray),(⟨#[65,52]⟩:ByteArray),(⟨#[68,52]⟩:ByteArray),(⟨#[68,53]⟩:ByteArray)] v4 hv4) k k ⟨_,_,k,(.inl ⟨k,k,k,k⟩),⟨_,_,k,(.inr ⟨(aCs k k ⟨_,_,k,⟨_,_,k,k,k⟩,⟨_,_,k,⟨_,_,k,k,k⟩,⟨_,_,k,⟨_,_,k,k,k⟩,⟨_,_,k,⟨_,_,k,k,k⟩,⟨_,_,k,⟨_,_,k,k,k⟩,⟨_,_,k,⟨_,_,k,k,k⟩,⟨_,_,k,⟨_,_,k,k,k⟩,k⟩⟩⟩⟩⟩⟩⟩),k,k⟩),k⟩⟩ k k (.inl k) k k) k<|oB h λv5 hv5 h=>ae (AEff.conv (gJ (x:= .tuple [.agg [.int v5.1.n,.own 3 0 (v5.1.src.map eI).length,.own 4 0 (v5.1.tgt.map eI).length],.bl v5.2]) (nb:=[(3,⟨1,cK (v5.1.src.map eI)⟩),(4,⟨1,cK (v5.1.tgt.map eI)⟩)]) (kQ v4.2.2 v5 hv5) k (by rfl) k k (cV (bY aR (bY (cW.good _) (bY (cW.good _) kY))) (cV aR kM)) (dF k aU)) (v':= .tuple [.agg [.int v5.1.n,.own 3 0 v5.1.src.length,.own 4 0 v5.1.tgt.length],.bl v5.2]) (ed':=[(3,some ⟨1,v5.1.src.map (ow eI)⟩),(4,some ⟨1,v5.1.tgt.map (ow eI)⟩)]) (by simp only [aO]) (oV (nb':=[(3,⟨1,v5.1.src.map (ow eI)⟩),(4,⟨1,v5.1.tgt.map (ow eI)⟩)]) (by simp only [fJ]))) k<|am k k<|ae (aW k k (by intro _ h;cases h)) k<|ae (aW k k (by intro _ h;cases h)) k<|ae (cB aL k k) k<|ae (ws k) k<|aT k2<|sR<|lp k8<|ae (ws k) k<|an<|tn<|aG<|sp h ⟨mN [(2,.ptr 1 0 0)] [(0,⟨3,[[.list 1 (a0.b.map eU),.int v4.1,.int v4.2.1]]⟩),(1,⟨3,[oQv v5.1 2 3]⟩),(2,⟨1,v5.1.src.map (ow eI)⟩),(3,⟨1,v5.1.tgt.map (ow eI)⟩)] 4 1,(kE [0,1,3,4] (bN k2) (bS k<|fV k<|cD k<|cD k<|aR) k4),k,⟨_,k,.inl k⟩,⟨k,k,k,aR⟩⟩
def rC (a0:Cu) (a1:Qv):Option (Int×Int×aA):=
 (bT a1).bind λv1=>
 bif v1.2 then
 ((pN a0 3).bind λv3=>
 bif !v3.2.2 then
 ((dM (⟨a0.b,v3.1,v3.2.1⟩:Cu) ((v1.1.length:Nat):Int)).bind λv5=>
 (cO v1.1 v5.2.2).bind λv6=>
 bif decide (([]:aA).length +v6.length<=4294967296) then
 (some (v5.1,v5.2.1,(([]:aA)++v6)))
 else none)
 else
 ((pO (⟨a0.b,v3.1,v3.2.1⟩:Cu) a1 2).bind λv8=>
 some (v8.1,v8.2.1,v8.2.2)))
 else
 ((pO a0 a1 2).bind λv9=>
 some (v9.1,v9.2.1,v9.2.2))
theorem aCh (a0:Cu) (a1:Qv) (r:(Int×Int×aA)) (h:rC a0 a1=some r):HasE Tryz.prog 161 [.ptr 0 0 0,.agg (eQ a1)] [(0,⟨3,[[.list 1 (a0.b.map eU),.int a0.i,.int a0.h]]⟩)] 1 (.own 1 0 r.2.2.length) [(0,⟨3,[[.list 1 (a0.b.map eU),.int r.1,.int r.2.1]]⟩),(1,⟨1,r.2.2.map (ow eI)⟩)]:=by
 refine fZ aL (rvs:=[.tmp 4]) (ns:=nmA.drop 1) Tryz.func161 k k Tryz.ntmps161 k k<|sR<|ae (wb k) k<|aT k2<|sR<|lp k8<|oB h λv1 hv1 h=>ae (cZ (σ:=sg []) (σ':=sg [(2,0)]) (touch:=[]) (news:=[2]) (hl2:=[(2,⟨1,v1.1.map (bU 1 eI)⟩)]) (n':=3) (r2:= .tuple [.own 2 0 v1.1.length,.bl v1.2]) (iA a1 v1 hv1) k k ⟨_,_,k,(.inl ⟨_,_,k,k,⟨_,_,k,⟨k,k⟩,⟨_,_,k,⟨k,k⟩,k⟩⟩⟩),k⟩ aR k k k ⟨⟨_,k,k,.inl ⟨k,aV.plainE _⟩⟩,k,aR⟩ k (.inr ⟨_,_,k,k,⟨_,_,k,⟨k,k,(by simp only [aO,lA,lT,lR,lC,lN]),k⟩,⟨_,_,k,k,k⟩⟩⟩) k ⟨k,aV.tamdE _ _,aR⟩ k k) k<|am k k<|ae (aW k k (by intro _ h;cases h)) k<|ae (aW k k (by intro _ h;cases h)) k<|aa k k<|aT k2<|sQ<|sR<|am k k<|am k k<|kI h (λq2 h=>?_) λq2 h=>aH 13 k q2<|aK k4<|ak k k<|pk k3<|an<|tn<|fK k k<|aI<|tn<|sR<|am k k<|lp k8<|oB h λv9 hv9 h=>ae (cZ (σ:=sg [(0,0)]) (σ':=sg [(0,0),(3,1)]) (touch:=[0]) (news:=[3]) (hl2:=[(0,⟨3,[[.list 1 (a0.b.map eU),.int v9.1,.int v9.2.1]]⟩),(3,⟨1,v9.2.2.map (ow eI)⟩)]) (n':=4) (r2:= .own 3 0 v9.2.2.length) (aBz a0 a1 2 v9 hv9) k k ⟨_,_,k,(.inl ⟨k,k,k,k⟩),⟨_,_,k,(.inl ⟨_,_,k,k,⟨_,_,k,⟨k,k⟩,⟨_,_,k,⟨k,k⟩,k⟩⟩⟩),⟨_,_,k,(.inl k),k⟩⟩⟩ ⟨⟨_,k,k,.inr ⟨_,_,k,⟨_,_,k,⟨k,k⟩,⟨_,_,k,k,⟨_,_,k,k,k⟩⟩⟩,k⟩⟩,k,aR⟩ k k k ⟨⟨_,k,k,.inr ⟨_,_,k,⟨_,_,k,⟨k,k⟩,⟨_,_,k,k,⟨_,_,k,k,k⟩⟩⟩,k⟩⟩,k,⟨_,k,k,.inl ⟨k,cW.plainO _⟩⟩,k,aR⟩ k (.inl ⟨k,k,(by simp only [aO,lA,lT,lR,lC,lN]),k⟩) k ⟨k,gM k,⟨k,cW.tamd _ _,aR⟩⟩ k k) k<|aT k2<|aG<|sp h ⟨mN [(4,.own 1 0 v9.2.2.length)] [(0,⟨3,[[.list 1 (a0.b.map eU),.int v9.1,.int v9.2.1]]⟩),(1,⟨1,v9.2.2.map (ow eI)⟩)] 2 1,(kE [0,3] (bN k2) (bS k<|cD k<|aR) k4),k,⟨_,k,.inl k⟩,⟨k,k,aR⟩⟩;exact aH 13 k q2<|am k k<|oB h λv3 hv3 h=>ae (iR 0 [] (zJ a0 3 v3 hv3) k k ⟨_,_,k,(.inl ⟨k,k,k,k⟩),⟨_,_,k,(.inl k),k⟩⟩ k k (.inl k) k k) k<|ae (fB k) k<|pk k3<|an<|tn<|dC k h (λ_ h=>sR<|ae (wl k) k<|am k k<|am k k<|am k k<|ae (cN aL k k k k) k<|oB h λv5 hv5 h=>ae (iR 0 [] (eK (⟨a0.b,v3.1,v3.2.1⟩:Cu) ((v1.1.length:Nat):Int) v5 hv5) k k ⟨_,_,k,(.inl ⟨k,k,k,k⟩),⟨_,_,k,(.inl k),k⟩⟩ k k (.inl k) k k) k<|oB h λv6 hv6 h=>ae (xo hv6 k) k<|ae (wp hv6 k) k<|cG h λq7 h=>ae (lO aL (l:=([]:aA)) (m:=v6) jZ q7 k k k k k k k k k k k k) k<|aT k2<|aN (t:=mN [(4,.own 4 0 ((([]:aA)++v6).length))] [(0,⟨3,[[.list 1 (a0.b.map eU),.int v5.1,.int v5.2.1]]⟩),(4,⟨1,List.map (ow eI) (([]:aA)++v6)⟩)] 5 1) (bO (bN k2) (bS k<|cD k<|aR) k4)<|aG<|aM<|sp h ⟨mN [(4,.own 1 0 ((([]:aA)++v6).length))] [(0,⟨3,[[.list 1 (a0.b.map eU),.int v5.1,.int v5.2.1]]⟩),(1,⟨1,List.map (ow eI) (([]:aA)++v6)⟩)] 2 1,(kE [0,4] (bN k2) (bS k<|cD k<|aR) k4),k,⟨_,k,.inl k⟩,⟨k,k,aR⟩⟩) λ_ h=>aI<|tn<|sR<|am k k<|lp k8<|oB h λv8 hv8 h=>ae (cZ (σ:=sg [(0,0)]) (σ':=sg [(0,0),(3,1)]) (touch:=[0]) (news:=[3]) (hl2:=[(0,⟨3,[[.list 1 (a0.b.map eU),.int v8.1,.int v8.2.1]]⟩),(3,⟨1,v8.2.2.map (ow eI)⟩)]) (n':=4) (r2:= .own 3 0 v8.2.2.length) (aBz (⟨a0.b,v3.1,v3.2.1⟩:Cu) a1 2 v8 hv8) k k ⟨_,_,k,(.inl ⟨k,k,k,k⟩),⟨_,_,k,(.inl ⟨_,_,k,k,⟨_,_,k,⟨k,k⟩,⟨_,_,k,⟨k,k⟩,k⟩⟩⟩),⟨_,_,k,(.inl k),k⟩⟩⟩ ⟨⟨_,k,k,.inr ⟨_,_,k,⟨_,_,k,⟨k,k⟩,⟨_,_,k,k,⟨_,_,k,k,k⟩⟩⟩,k⟩⟩,k,aR⟩ k k k ⟨⟨_,k,k,.inr ⟨_,_,k,⟨_,_,k,⟨k,k⟩,⟨_,_,k,k,⟨_,_,k,k,k⟩⟩⟩,k⟩⟩,k,⟨_,k,k,.inl ⟨k,cW.plainO _⟩⟩,k,aR⟩ k (.inl ⟨k,k,(by simp only [aO,lA,lT,lR,lC,lN]),k⟩) k ⟨k,gM k,⟨k,cW.tamd _ _,aR⟩⟩ k k) k<|aT k2<|aG<|sp h ⟨mN [(4,.own 1 0 v8.2.2.length)] [(0,⟨3,[[.list 1 (a0.b.map eU),.int v8.1,.int v8.2.1]]⟩),(1,⟨1,v8.2.2.map (ow eI)⟩)] 2 1,(kE [0,3] (bN k2) (bS k<|cD k<|aR) k4),k,⟨_,k,.inl k⟩,⟨k,k,aR⟩⟩
def aCA (a0:aA):Option (Int×aA×aA×aA×aA):=
 (sK a0).bind λv1=>
 (uZ (⟨a0,0,v1⟩:Cu)).bind λv2=>
 (rC (⟨a0,v2.1,v2.2.1⟩:Cu) (⟨v2.2.2.1,v2.2.2.2.1,v2.2.2.2.2⟩:Qv)).bind λv3=>
 (rC (⟨a0,v3.1,v3.2.1⟩:Cu) (⟨v2.2.2.1,v2.2.2.2.1,v2.2.2.2.2⟩:Qv)).bind λv4=>
 some (v2.2.2.1,v2.2.2.2.1,v2.2.2.2.2,v3.2.2,v4.2.2)
theorem aKu (a0:aA) (r:(Int×aA×aA×aA×aA)) (h:aCA a0=some r):HasE Tryz.prog 71 [.list 1 (a0.map eU)] [] 0 (.tuple [.agg [.int r.1,.list 1 (r.2.1.map eI),.list 1 (r.2.2.1.map eI)],.own 1 0 r.2.2.2.1.length,.own 2 0 r.2.2.2.2.length]) [(1,⟨1,r.2.2.2.1.map (ow eI)⟩),(2,⟨1,r.2.2.2.2.map (ow eI)⟩)]:=by
 refine fZ aL (rvs:=[.cell 2 26,.tmp 3,.tmp 4]) (ns:=nmA.drop 0) Tryz.func71 k k Tryz.ntmps71 k k<|sR<|ae (cB aL k k) k<|aa k k<|aT k2<|sR<|am k k<|oB h λv1 hv1 h=>ae (cZ (σ:=sg []) (σ':=sg [(1,0)]) (touch:=[]) (news:=[1]) (hl2:=[(1,⟨3,[[.list 1 (a0.map eU),.int 0,.int v1]]⟩)]) (n':=2) (r2:= .ptr 1 0 0) (aAo a0 v1 hv1) k k ⟨_,_,k,(.inl ⟨k,k⟩),k⟩ aR k k k ⟨⟨_,k,k,.inr ⟨_,_,k,⟨_,_,k,⟨k,k⟩,⟨_,_,k,k,⟨_,_,k,k,k⟩⟩⟩,k⟩⟩,k,aR⟩ k (.inl ⟨k,k,k,k⟩) k ⟨k,gM k,aR⟩ k k) k<|aT k2<|sR<|am k k<|oB h λv2 hv2 h=>ae (cZ (σ:=sg [(0,1)]) (σ':=sg [(1,0),(2,2),(3,3)]) (touch:=[1]) (news:=[2,3]) (hl2:=[(1,⟨3,[[.list 1 (a0.map eU),.int v2.1,.int v2.2.1]]⟩),(2,⟨1,v2.2.2.2.1.map (ow eI)⟩),(3,⟨1,v2.2.2.2.2.map (ow eI)⟩)]) (n':=4) (r2:= .agg [.int v2.2.2.1,.own 2 0 v2.2.2.2.1.length,.own 3 0 v2.2.2.2.2.length]) (aHc (⟨a0,0,v1⟩:Cu) v2 hv2) k k ⟨_,_,k,(.inl ⟨k,k,k,k⟩),k⟩ ⟨⟨_,k,k,.inr ⟨_,_,k,⟨_,_,k,⟨k,k⟩,⟨_,_,k,k,⟨_,_,k,k,k⟩⟩⟩,k⟩⟩,k,aR⟩ k k k ⟨⟨_,k,k,.inr ⟨_,_,k,⟨_,_,k,⟨k,k⟩,⟨_,_,k,k,⟨_,_,k,k,k⟩⟩⟩,k⟩⟩,k,⟨_,k,k,.inl ⟨k,cW.plainO _⟩⟩,k,⟨_,k,k,.inl ⟨k,cW.plainO _⟩⟩,k,aR⟩ k (.inl ⟨_,_,k,k,⟨_,_,k,⟨k,k,(by simp only [aO,lA,lT,lR,lC,lN]),k⟩,⟨_,_,k,⟨k,k,(by simp only [aO,lA,lT,lR,lC,lN]),k⟩,k⟩⟩⟩) k ⟨k,gM k,⟨k,cW.tamd _ _,⟨k,cW.tamd _ _,aR⟩⟩⟩ k k) k<|ae (cB aL k k) k<|ae (ws k) k<|an<|tn<|sQ<|aN (vP (b:=4) (b':=2) (i:=0) (j:=1) (es':=v2.2.2.2.1.map eI) k k k k (aAx cW k k))<|aN (vP (b:=4) (b':=3) (i:=0) (j:=2) (es':=v2.2.2.2.2.map eI) k k k k (aAx cW k k))<|rg<|am k k<|lp k8<|oB h λv3 hv3 h=>ae (cZ (σ:=sg [(0,1)]) (σ':=sg [(1,0),(5,1)]) (touch:=[1]) (news:=[5]) (hl2:=[(1,⟨3,[[.list 1 (a0.map eU),.int v3.1,.int v3.2.1]]⟩),(5,⟨1,v3.2.2.map (ow eI)⟩)]) (n':=6) (r2:= .own 5 0 v3.2.2.length) (aCh (⟨a0,v2.1,v2.2.1⟩:Cu) (⟨v2.2.2.1,v2.2.2.2.1,v2.2.2.2.2⟩:Qv) v3 hv3) k k ⟨_,_,k,(.inl ⟨k,k,k,k⟩),⟨_,_,k,(.inl ⟨_,_,k,k,⟨_,_,k,⟨k,k⟩,⟨_,_,k,⟨k,k⟩,k⟩⟩⟩),k⟩⟩ ⟨⟨_,k,k,.inr ⟨_,_,k,⟨_,_,k,⟨k,k⟩,⟨_,_,k,k,⟨_,_,k,k,k⟩⟩⟩,k⟩⟩,k,aR⟩ k k k ⟨⟨_,k,k,.inr ⟨_,_,k,⟨_,_,k,⟨k,k⟩,⟨_,_,k,k,⟨_,_,k,k,k⟩⟩⟩,k⟩⟩,k,⟨_,k,k,.inl ⟨k,cW.plainO _⟩⟩,k,aR⟩ k (.inl ⟨k,k,(by simp only [aO,lA,lT,lR,lC,lN]),k⟩) k ⟨k,gM k,⟨k,cW.tamd _ _,aR⟩⟩ k k) k ?_;exact aT k2<|sQ<|aQ fW<|lp k8<|am k k<|am k k<|lp k8<|oB h λv4 hv4 h=>ae (cZ (σ:=sg [(0,1)]) (σ':=sg [(1,0),(6,1)]) (touch:=[1]) (news:=[6]) (hl2:=[(1,⟨3,[[.list 1 (a0.map eU),.int v4.1,.int v4.2.1]]⟩),(6,⟨1,v4.2.2.map (ow eI)⟩)]) (n':=7) (r2:= .own 6 0 v4.2.2.length) (aCh (⟨a0,v3.1,v3.2.1⟩:Cu) (⟨v2.2.2.1,v2.2.2.2.1,v2.2.2.2.2⟩:Qv) v4 hv4) k k ⟨_,_,k,(.inl ⟨k,k,k,k⟩),⟨_,_,k,(.inl ⟨_,_,k,k,⟨_,_,k,⟨k,k⟩,⟨_,_,k,⟨k,k⟩,k⟩⟩⟩),k⟩⟩ ⟨⟨_,k,k,.inr ⟨_,_,k,⟨_,_,k,⟨k,k⟩,⟨_,_,k,k,⟨_,_,k,k,k⟩⟩⟩,k⟩⟩,k,aR⟩ k k k ⟨⟨_,k,k,.inr ⟨_,_,k,⟨_,_,k,⟨k,k⟩,⟨_,_,k,k,⟨_,_,k,k,k⟩⟩⟩,k⟩⟩,k,⟨_,k,k,.inl ⟨k,cW.plainO _⟩⟩,k,aR⟩ k (.inl ⟨k,k,(by simp only [aO,lA,lT,lR,lC,lN]),k⟩) k ⟨k,gM k,⟨k,cW.tamd _ _,aR⟩⟩ k k) k<|ae (ws k) k<|aa k k<|aa k k<|an<|nH (by kernel_rfl)<|tn<|aG<|sp h ⟨mN [(2,.ptr 0 0 0),(3,.own 1 0 v3.2.2.length),(4,.own 2 0 v4.2.2.length)] [(0,⟨3,[[.int v2.2.2.1,.list 1 (v2.2.2.2.1.map eI),.list 1 (v2.2.2.2.2.map eI)]]⟩),(1,⟨1,v3.2.2.map (ow eI)⟩),(2,⟨1,v4.2.2.map (ow eI)⟩)] 3 ⟨0,false,none,true⟩,(kE [0,5,6] (bN k2) (bS k<|cD k<|cD k<|aR) k4),k,⟨_,k,.inr ⟨(by simp),k,k⟩⟩,⟨k,k,aR⟩⟩
def yY (a0:Cu):Option (Int×Int×Int×aA×aA):=
 (nF a0 [(⟨#[65,49]⟩:ByteArray),(⟨#[65,50]⟩:ByteArray),(⟨#[65,51]⟩:ByteArray),(⟨#[65,51,105,110]⟩:ByteArray),(⟨#[65,52]⟩:ByteArray),(⟨#[75,50]⟩:ByteArray),(⟨#[68,53]⟩:ByteArray)]).bind λv1=>
 (eG v1.2.2).bind λv2=>
 some (v1.1,v1.2.1,v2.1.n,v2.1.src,v2.1.tgt)
theorem aHd (a0:Cu) (r:(Int×Int×Int×aA×aA)) (h:yY a0=some r):HasE Tryz.prog 82 [.ptr 0 0 0] [(0,⟨3,[[.list 1 (a0.b.map eU),.int a0.i,.int a0.h]]⟩)] 1 (.agg [.int r.2.2.1,.own 2 0 r.2.2.2.1.length,.own 3 0 r.2.2.2.2.length]) [(0,⟨3,[[.list 1 (a0.b.map eU),.int r.1,.int r.2.1]]⟩),(2,⟨1,r.2.2.2.1.map (ow eI)⟩),(3,⟨1,r.2.2.2.2.map (ow eI)⟩)]:=by
 exact fZ aL (rvs:=[.cell 2 26]) (ns:=nmA.drop 1) Tryz.func82 k k Tryz.ntmps82 k k<|sR<|ae (cB aL k k) k<|an<|tn<|sR<|am k k<|ae (wl k) k<|oB h λv1 hv1 h=>ae (iR 0 [2] (vS a0 [(⟨#[65,49]⟩:ByteArray),(⟨#[65,50]⟩:ByteArray),(⟨#[65,51]⟩:ByteArray),(⟨#[65,51,105,110]⟩:ByteArray),(⟨#[65,52]⟩:ByteArray),(⟨#[75,50]⟩:ByteArray),(⟨#[68,53]⟩:ByteArray)] v1 hv1) k k ⟨_,_,k,(.inl ⟨k,k,k,k⟩),⟨_,_,k,(.inr ⟨(aCs k k ⟨_,_,k,⟨_,_,k,k,k⟩,⟨_,_,k,⟨_,_,k,k,k⟩,⟨_,_,k,⟨_,_,k,k,k⟩,⟨_,_,k,⟨_,_,k,k,k⟩,⟨_,_,k,⟨_,_,k,k,k⟩,⟨_,_,k,⟨_,_,k,k,k⟩,⟨_,_,k,⟨_,_,k,k,k⟩,k⟩⟩⟩⟩⟩⟩⟩),k,k⟩),k⟩⟩ k k (.inl k) k k) k<|oB h λv2 hv2 h=>ae (AEff.conv (gJ (x:= .tuple [.agg [.int v2.1.n,.own 3 0 (v2.1.src.map eI).length,.own 4 0 (v2.1.tgt.map eI).length],.bl v2.2]) (nb:=[(3,⟨1,cK (v2.1.src.map eI)⟩),(4,⟨1,cK (v2.1.tgt.map eI)⟩)]) (kQ v1.2.2 v2 hv2) k (by rfl) k k (cV (bY aR (bY (cW.good _) (bY (cW.good _) kY))) (cV aR kM)) (dF k aU)) (v':= .tuple [.agg [.int v2.1.n,.own 3 0 v2.1.src.length,.own 4 0 v2.1.tgt.length],.bl v2.2]) (ed':=[(3,some ⟨1,v2.1.src.map (ow eI)⟩),(4,some ⟨1,v2.1.tgt.map (ow eI)⟩)]) (by simp only [aO]) (oV (nb':=[(3,⟨1,v2.1.src.map (ow eI)⟩),(4,⟨1,v2.1.tgt.map (ow eI)⟩)]) (by simp only [fJ]))) k<|am k k<|ae (aW k k (by intro _ h;cases h)) k<|ae (aW k k (by intro _ h;cases h)) k<|ae (cB aL k k) k<|ae (ws k) k<|aT k2<|sR<|lp k8<|ae (ws k) k<|an<|tn<|aG<|sp h ⟨mN [(2,.ptr 1 0 0)] [(0,⟨3,[[.list 1 (a0.b.map eU),.int v1.1,.int v1.2.1]]⟩),(1,⟨3,[oQv v2.1 2 3]⟩),(2,⟨1,v2.1.src.map (ow eI)⟩),(3,⟨1,v2.1.tgt.map (ow eI)⟩)] 4 1,(kE [0,1,3,4] (bN k2) (bS k<|fV k<|cD k<|cD k<|aR) k4),k,⟨_,k,.inl k⟩,⟨k,k,k,aR⟩⟩
def sO (a0:aA):Option (Int×aA×aA×aA×aA):=
 (aCA a0).bind λv1=>
 some (v1.1,v1.2.1,v1.2.2.1,v1.2.2.2.1,v1.2.2.2.2)
theorem aFW (a0:aA) (r:(Int×aA×aA×aA×aA)) (h:sO a0=some r):HasE Tryz.prog 7 [.list 1 (a0.map eU)] [] 0 (.tuple [.agg [.int r.1,.list 1 (r.2.1.map eI),.list 1 (r.2.2.1.map eI)],.own 1 0 r.2.2.2.1.length,.own 2 0 r.2.2.2.2.length]) [(1,⟨1,r.2.2.2.1.map (ow eI)⟩),(2,⟨1,r.2.2.2.2.map (ow eI)⟩)]:=by
 refine fZ aL (rvs:=[.cell 2 26,.tmp 3,.tmp 4]) (ns:=nmA.drop 0) Tryz.func7 k k Tryz.ntmps7 k k<|sR<|ae (cB aL k k) k<|aa k k<|aT k2<|sR<|am k k<|oB h λv1 hv1 h=>ae (cZ (σ:=sg []) (σ':=sg [(1,1),(2,2)]) (touch:=[]) (news:=[1,2]) (hl2:=[(1,⟨1,v1.2.2.2.1.map (ow eI)⟩),(2,⟨1,v1.2.2.2.2.map (ow eI)⟩)]) (n':=3) (r2:= .tuple [.agg [.int v1.1,.list 1 (v1.2.1.map eI),.list 1 (v1.2.2.1.map eI)],.own 1 0 v1.2.2.2.1.length,.own 2 0 v1.2.2.2.2.length]) (aKu a0 v1 hv1) k k ⟨_,_,k,(.inl ⟨k,k⟩),k⟩ aR k k k ⟨⟨_,k,k,.inl ⟨k,cW.plainO _⟩⟩,k,⟨_,k,k,.inl ⟨k,cW.plainO _⟩⟩,k,aR⟩ k (.inr ⟨_,_,k,k,⟨_,_,k,⟨_,_,k,k,⟨_,_,k,⟨k,k⟩,⟨_,_,k,⟨k,k⟩,k⟩⟩⟩,⟨_,_,k,⟨k,k,(by simp only [aO,lA,lT,lR,lC,lN]),k⟩,⟨_,_,k,⟨k,k,(by simp only [aO,lA,lT,lR,lC,lN]),k⟩,k⟩⟩⟩⟩) k ⟨k,cW.tamd _ _,⟨k,cW.tamd _ _,aR⟩⟩ k k) k<|am k k<|ae (aW k k (by intro _ h;cases h)) k<|ae (aW k k (by intro _ h;cases h)) k<|ae (aW k k (by intro _ h;cases h)) k<|ae (cB aL k k) k<|ae (ws k) k<|aa k k<|aT k2<|sR<|lp k8<|am k k<|am k k<|ae (ws k) k<|aa k k<|aa k k ?_;exact an<|tn<|aG<|sp h ⟨mN [(2,.ptr 0 0 0),(3,.own 1 0 v1.2.2.2.1.length),(4,.own 2 0 v1.2.2.2.2.length)] [(0,⟨3,[[.int v1.1,.list 1 (v1.2.1.map eI),.list 1 (v1.2.2.1.map eI)]]⟩),(1,⟨1,v1.2.2.2.1.map (ow eI)⟩),(2,⟨1,v1.2.2.2.2.map (ow eI)⟩)] 3 ⟨0,false,none,true⟩,(bO (bN k2) (bS k<|cD k<|cD k<|aR) k4),k,⟨_,k,.inr ⟨(by simp),k,k⟩⟩,⟨k,k,aR⟩⟩
def jY (a0:aA):Option Qv:=
 (sK a0).bind λv1=>
 (yY (⟨a0,0,v1⟩:Cu)).bind λv2=>
 some ((⟨v2.2.2.1,v2.2.2.2.1,v2.2.2.2.2⟩:Qv))
theorem aDH (a0:aA) (r:Qv) (h:jY a0=some r):HasC Tryz.prog 17 [.list 1 (a0.map eU)] (.agg (eQ r)):=by
 exact hM [.cell 2 26] Tryz.func17 Tryz.ntmps17 k<|sR<|ae (cB aL k k) k<|an<|tn<|sR<|am k k<|oB h λv1 hv1 h=>ae (cZ (σ:=sg []) (σ':=sg [(1,0)]) (touch:=[]) (news:=[1]) (hl2:=[(1,⟨3,[[.list 1 (a0.map eU),.int 0,.int v1]]⟩)]) (n':=2) (r2:= .ptr 1 0 0) (aAo a0 v1 hv1) k k ⟨_,_,k,(.inl ⟨k,k⟩),k⟩ aR k k k ⟨⟨_,k,k,.inr ⟨_,_,k,⟨_,_,k,⟨k,k⟩,⟨_,_,k,k,⟨_,_,k,k,k⟩⟩⟩,k⟩⟩,k,aR⟩ k (.inl ⟨k,k,k,k⟩) k ⟨k,gM k,aR⟩ k k) k<|oB h λv2 hv2 h=>ae (cZ (σ:=sg [(0,1)]) (σ':=sg [(1,0),(2,2),(3,3)]) (touch:=[1]) (news:=[2,3]) (hl2:=[(1,⟨3,[[.list 1 (a0.map eU),.int v2.1,.int v2.2.1]]⟩),(2,⟨1,v2.2.2.2.1.map (ow eI)⟩),(3,⟨1,v2.2.2.2.2.map (ow eI)⟩)]) (n':=4) (r2:= .agg [.int v2.2.2.1,.own 2 0 v2.2.2.2.1.length,.own 3 0 v2.2.2.2.2.length]) (aHd (⟨a0,0,v1⟩:Cu) v2 hv2) k k ⟨_,_,k,(.inl ⟨k,k,k,k⟩),k⟩ ⟨⟨_,k,k,.inr ⟨_,_,k,⟨_,_,k,⟨k,k⟩,⟨_,_,k,k,⟨_,_,k,k,k⟩⟩⟩,k⟩⟩,k,aR⟩ k k k ⟨⟨_,k,k,.inr ⟨_,_,k,⟨_,_,k,⟨k,k⟩,⟨_,_,k,k,⟨_,_,k,k,k⟩⟩⟩,k⟩⟩,k,⟨_,k,k,.inl ⟨k,cW.plainO _⟩⟩,k,⟨_,k,k,.inl ⟨k,cW.plainO _⟩⟩,k,aR⟩ k (.inl ⟨_,_,k,k,⟨_,_,k,⟨k,k,(by simp only [aO,lA,lT,lR,lC,lN]),k⟩,⟨_,_,k,⟨k,k,(by simp only [aO,lA,lT,lR,lC,lN]),k⟩,k⟩⟩⟩) k ⟨k,gM k,⟨k,cW.tamd _ _,⟨k,cW.tamd _ _,aR⟩⟩⟩ k k) k<|ae (ws k) k<|an<|tn<|aG<|sp h (cA k k k (aAC (bH (k) (bH (gF cW k k) (bH (gF cW k k) gI)))))
def kL (a0:aA):Option (Int×aA×aA×aA):=
 (sK a0).bind λv1=>
 (nF (⟨a0,0,v1⟩:Cu) [(⟨#[65,49]⟩:ByteArray),(⟨#[65,50]⟩:ByteArray),(⟨#[65,51]⟩:ByteArray),(⟨#[65,51,105,110]⟩:ByteArray),(⟨#[65,52]⟩:ByteArray),(⟨#[75,50]⟩:ByteArray)]).bind λv2=>
 (eG v2.2.2).bind λv3=>
 (pO (⟨a0,v2.1,v2.2.1⟩:Cu) v3.1 2).bind λv4=>
 some (v3.1.n,v3.1.src,v3.1.tgt,v4.2.2)
theorem aDU (a0:aA) (r:(Int×aA×aA×aA)) (h:kL a0=some r):HasE Tryz.prog 26 [.list 1 (a0.map eU)] [] 0 (.tuple [.agg [.int r.1,.list 1 (r.2.1.map eI),.list 1 (r.2.2.1.map eI)],.own 1 0 r.2.2.2.length]) [(1,⟨1,r.2.2.2.map (ow eI)⟩)]:=by
 refine fZ aL (rvs:=[.cell 2 26,.tmp 3]) (ns:=nmA.drop 0) Tryz.func26 k k Tryz.ntmps26 k k<|sR<|ae (cB aL k k) k<|aT k2<|sR<|am k k<|oB h λv1 hv1 h=>ae (cZ (σ:=sg []) (σ':=sg [(1,0)]) (touch:=[]) (news:=[1]) (hl2:=[(1,⟨3,[[.list 1 (a0.map eU),.int 0,.int v1]]⟩)]) (n':=2) (r2:= .ptr 1 0 0) (aAo a0 v1 hv1) k k ⟨_,_,k,(.inl ⟨k,k⟩),k⟩ aR k k k ⟨⟨_,k,k,.inr ⟨_,_,k,⟨_,_,k,⟨k,k⟩,⟨_,_,k,k,⟨_,_,k,k,k⟩⟩⟩,k⟩⟩,k,aR⟩ k (.inl ⟨k,k,k,k⟩) k ⟨k,gM k,aR⟩ k k) k<|aT k2<|sR<|am k k<|ae (wl k) k<|oB h λv2 hv2 h=>ae (iR 1 [2] (vS (⟨a0,0,v1⟩:Cu) [(⟨#[65,49]⟩:ByteArray),(⟨#[65,50]⟩:ByteArray),(⟨#[65,51]⟩:ByteArray),(⟨#[65,51,105,110]⟩:ByteArray),(⟨#[65,52]⟩:ByteArray),(⟨#[75,50]⟩:ByteArray)] v2 hv2) k k ⟨_,_,k,(.inl ⟨k,k,k,k⟩),⟨_,_,k,(.inr ⟨(aCs k k ⟨_,_,k,⟨_,_,k,k,k⟩,⟨_,_,k,⟨_,_,k,k,k⟩,⟨_,_,k,⟨_,_,k,k,k⟩,⟨_,_,k,⟨_,_,k,k,k⟩,⟨_,_,k,⟨_,_,k,k,k⟩,⟨_,_,k,⟨_,_,k,k,k⟩,k⟩⟩⟩⟩⟩⟩),k,k⟩),k⟩⟩ k k (.inl k) k k) k<|oB h λv3 hv3 h=>ae (AEff.conv (gJ (x:= .tuple [.agg [.int v3.1.n,.own 3 0 (v3.1.src.map eI).length,.own 4 0 (v3.1.tgt.map eI).length],.bl v3.2]) (nb:=[(3,⟨1,cK (v3.1.src.map eI)⟩),(4,⟨1,cK (v3.1.tgt.map eI)⟩)]) (kQ v2.2.2 v3 hv3) k (by rfl) k k (cV (bY aR (bY (cW.good _) (bY (cW.good _) kY))) (cV aR kM)) (dF k aU)) (v':= .tuple [.agg [.int v3.1.n,.own 3 0 v3.1.src.length,.own 4 0 v3.1.tgt.length],.bl v3.2]) (ed':=[(3,some ⟨1,v3.1.src.map (ow eI)⟩),(4,some ⟨1,v3.1.tgt.map (ow eI)⟩)]) (by simp only [aO]) (oV (nb':=[(3,⟨1,v3.1.src.map (ow eI)⟩),(4,⟨1,v3.1.tgt.map (ow eI)⟩)]) (by simp only [fJ]))) k<|am k k<|ae (aW k k (by intro _ h;cases h)) k<|ae (aW k k (by intro _ h;cases h)) k<|ae (cB aL k k) k<|ae (ws k) k<|aT k2<|sQ<|aN (vP (b:=5) (b':=3) (i:=0) (j:=1) (es':=v3.1.src.map eI) k k k k (aAx cW k k)) ?_;exact aN (vP (b:=5) (b':=4) (i:=0) (j:=2) (es':=v3.1.tgt.map eI) k k k k (aAx cW k k))<|aQ fW<|lp k8<|am k k<|lp k8<|oB h λv4 hv4 h=>ae (cZ (σ:=sg [(0,1)]) (σ':=sg [(1,0),(6,1)]) (touch:=[1]) (news:=[6]) (hl2:=[(1,⟨3,[[.list 1 (a0.map eU),.int v4.1,.int v4.2.1]]⟩),(6,⟨1,v4.2.2.map (ow eI)⟩)]) (n':=7) (r2:= .own 6 0 v4.2.2.length) (aBz (⟨a0,v2.1,v2.2.1⟩:Cu) v3.1 2 v4 hv4) k k ⟨_,_,k,(.inl ⟨k,k,k,k⟩),⟨_,_,k,(.inl ⟨_,_,k,k,⟨_,_,k,⟨k,k⟩,⟨_,_,k,⟨k,k⟩,k⟩⟩⟩),⟨_,_,k,(.inl k),k⟩⟩⟩ ⟨⟨_,k,k,.inr ⟨_,_,k,⟨_,_,k,⟨k,k⟩,⟨_,_,k,k,⟨_,_,k,k,k⟩⟩⟩,k⟩⟩,k,aR⟩ k k k ⟨⟨_,k,k,.inr ⟨_,_,k,⟨_,_,k,⟨k,k⟩,⟨_,_,k,k,⟨_,_,k,k,k⟩⟩⟩,k⟩⟩,k,⟨_,k,k,.inl ⟨k,cW.plainO _⟩⟩,k,aR⟩ k (.inl ⟨k,k,(by simp only [aO,lA,lT,lR,lC,lN]),k⟩) k ⟨k,gM k,⟨k,cW.tamd _ _,aR⟩⟩ k k) k<|ae (ws k) k<|aa k k<|an<|nH (by kernel_rfl)<|tn<|aG<|sp h ⟨mN [(2,.ptr 0 0 0),(3,.own 1 0 v4.2.2.length)] [(0,⟨3,[eQ v3.1]⟩),(1,⟨1,v4.2.2.map (ow eI)⟩)] 2 ⟨0,false,none,true⟩,(kE [0,6] (bN k2) (bS k<|cD k<|aR) k4),k,⟨_,k,.inr ⟨(by simp),k,k⟩⟩,⟨k,aR⟩⟩
def iX (v4:(aD×Bool)) (v11:aA) (x1:(aD×Int)):Option ((aD×Int) ⊕ aD):=
 bif decide (x1.2<(v11.length:Int)) then
 ((cO v11 x1.2).bind λv13=>
 (cO v4.1 v13).bind λv14=>
 bif decide (x1.1.length+1<=4294967296) then
 (some (.inl ((x1.1++[v14]),wr (x1.2+1))))
 else none)
 else
 (some (.inr x1.1))
def mA (a0:aA) (v3:(Qv×Bool)) (v4:(aD×Bool)) (x2:(Int×Int×aD×Int)):Option ((Int×Int×aD×Int) ⊕ aD):=
 bif decide (x2.2.2.2<v3.1.n) then
 (bif v4.2 then
 ((dM (⟨a0,x2.1,x2.2.1⟩:Cu) ((v4.1.length:Nat):Int)).bind λv19=>
 (cO v4.1 v19.2.2).bind λv20=>
 bif decide (x2.2.2.1.length+1<=4294967296) then
 (some (.inl (v19.1,v19.2.1,(x2.2.2.1++[v20]),wr (x2.2.2.2+1))))
 else none)
 else
 (some (.inr x2.2.2.1)))
 else
 (some (.inr x2.2.2.1))
def rD (a0:aA) (v3:(Qv×Bool)) (v4:(aD×Bool)) (x3:(Int×Int×aD×Int)):Option ((Int×Int×aD×Int) ⊕ aD):=
 bif decide (x3.2.2.2<v3.1.n) then
 (bif v4.2 then
 ((dM (⟨a0,x3.1,x3.2.1⟩:Cu) ((v4.1.length:Nat):Int)).bind λv25=>
 (cO v4.1 v25.2.2).bind λv26=>
 bif decide (x3.2.2.1.length+1<=4294967296) then
 (some (.inl (v25.1,v25.2.1,(x3.2.2.1++[v26]),wr (x3.2.2.2+1))))
 else none)
 else
 (some (.inr x3.2.2.1)))
 else
 (some (.inr x3.2.2.1))
def rE (a0:aA) (v3:(Qv×Bool)) (v4:(aD×Bool)) (x4:(Int×Int×aD×Int)):Option ((Int×Int×aD×Int) ⊕ aD):=
 bif decide (x4.2.2.2<v3.1.n) then
 (bif v4.2 then
 ((dM (⟨a0,x4.1,x4.2.1⟩:Cu) ((v4.1.length:Nat):Int)).bind λv31=>
 (cO v4.1 v31.2.2).bind λv32=>
 bif decide (x4.2.2.1.length+1<=4294967296) then
 (some (.inl (v31.1,v31.2.1,(x4.2.2.1++[v32]),wr (x4.2.2.2+1))))
 else none)
 else
 (some (.inr x4.2.2.1)))
 else
 (some (.inr x4.2.2.1))
def lK (a0:aA):Option (aD×Int×aA×aA):=
 (sK a0).bind λv1=>
 (nF (⟨a0,0,v1⟩:Cu) [(⟨#[65,50]⟩:ByteArray),(⟨#[65,51]⟩:ByteArray),(⟨#[65,51,105,110]⟩:ByteArray),(⟨#[65,49]⟩:ByteArray),(⟨#[75,50]⟩:ByteArray)]).bind λv2=>
 (eG v2.2.2).bind λv3=>
 (bT v3.1).bind λv4=>
 (iP v3.1).bind λv5=>
 bif v4.2 then
 (bif v5.2 then
 ((pN (⟨a0,v2.1,v2.2.1⟩:Cu) 3).bind λv8=>
 bif !v8.2.2 then
 ((dM (⟨a0,v8.1,v8.2.1⟩:Cu) ((v5.1.length:Nat):Int)).bind λv10=>
 (cO v5.1 v10.2.2).bind λv11=>
 (Lp (iX v4 v11) (([]:aD),0)).bind λy16=>
 some (y16,v3.1.n,v3.1.src,v3.1.tgt))
 else
 ((Lp (mA a0 v3 v4) (v8.1,v8.2.1,([]:aD),0)).bind λy22=>
 some (y22,v3.1.n,v3.1.src,v3.1.tgt)))
 else
 ((Lp (rD a0 v3 v4) (v2.1,v2.2.1,([]:aD),0)).bind λy28=>
 some (y28,v3.1.n,v3.1.src,v3.1.tgt)))
 else
 ((Lp (rE a0 v3 v4) (v2.1,v2.2.1,([]:aD),0)).bind λy34=>
 some (y34,v3.1.n,v3.1.src,v3.1.tgt))
theorem aAB (a0:aA) (r:(aD×Int×aA×aA)) (h:lK a0=some r):HasE Tryz.prog 32 [.list 1 (a0.map eU)] [] 0 (.tuple [.agg [.int r.2.1,.list 1 (r.2.2.1.map eI),.list 1 (r.2.2.2.map eI)],.own 1 0 r.1.length]) [(1,⟨1,r.1.map (bU 1 eI)⟩)]:=by
 refine fZ aL (rvs:=[.cell 2 26,.tmp 3]) (ns:=nmA.drop 0) Tryz.func32 k k Tryz.ntmps32 k k<|sR<|ae (cB aL k k) k<|aT k2<|sR<|am k k<|oB h λv1 hv1 h=>ae (cZ (σ:=sg []) (σ':=sg [(1,0)]) (touch:=[]) (news:=[1]) (hl2:=[(1,⟨3,[[.list 1 (a0.map eU),.int 0,.int v1]]⟩)]) (n':=2) (r2:= .ptr 1 0 0) (aAo a0 v1 hv1) k k ⟨_,_,k,(.inl ⟨k,k⟩),k⟩ aR k k k ⟨⟨_,k,k,.inr ⟨_,_,k,⟨_,_,k,⟨k,k⟩,⟨_,_,k,k,⟨_,_,k,k,k⟩⟩⟩,k⟩⟩,k,aR⟩ k (.inl ⟨k,k,k,k⟩) k ⟨k,gM k,aR⟩ k k) k<|aT k2<|sR<|am k k<|ae (wl k) k<|oB h λv2 hv2 h=>ae (iR 1 [2] (vS (⟨a0,0,v1⟩:Cu) [(⟨#[65,50]⟩:ByteArray),(⟨#[65,51]⟩:ByteArray),(⟨#[65,51,105,110]⟩:ByteArray),(⟨#[65,49]⟩:ByteArray),(⟨#[75,50]⟩:ByteArray)] v2 hv2) k k ⟨_,_,k,(.inl ⟨k,k,k,k⟩),⟨_,_,k,(.inr ⟨(aCs k k ⟨_,_,k,⟨_,_,k,k,k⟩,⟨_,_,k,⟨_,_,k,k,k⟩,⟨_,_,k,⟨_,_,k,k,k⟩,⟨_,_,k,⟨_,_,k,k,k⟩,⟨_,_,k,⟨_,_,k,k,k⟩,k⟩⟩⟩⟩⟩),k,k⟩),k⟩⟩ k k (.inl k) k k) k<|oB h λv3 hv3 h=>ae (AEff.conv (gJ (x:= .tuple [.agg [.int v3.1.n,.own 3 0 (v3.1.src.map eI).length,.own 4 0 (v3.1.tgt.map eI).length],.bl v3.2]) (nb:=[(3,⟨1,cK (v3.1.src.map eI)⟩),(4,⟨1,cK (v3.1.tgt.map eI)⟩)]) (kQ v2.2.2 v3 hv3) k (by rfl) k k (cV (bY aR (bY (cW.good _) (bY (cW.good _) kY))) (cV aR kM)) (dF k aU)) (v':= .tuple [.agg [.int v3.1.n,.own 3 0 v3.1.src.length,.own 4 0 v3.1.tgt.length],.bl v3.2]) (ed':=[(3,some ⟨1,v3.1.src.map (ow eI)⟩),(4,some ⟨1,v3.1.tgt.map (ow eI)⟩)]) (by simp only [aO]) (oV (nb':=[(3,⟨1,v3.1.src.map (ow eI)⟩),(4,⟨1,v3.1.tgt.map (ow eI)⟩)]) (by simp only [fJ]))) k<|am k k<|ae (aW k k (by intro _ h;cases h)) k<|ae (aW k k (by intro _ h;cases h)) k<|ae (cB aL k k) k<|ae (ws k) k<|aT k2<|sQ<|aN (vP (b:=5) (b':=3) (i:=0) (j:=1) (es':=v3.1.src.map eI) k k k k (aAx cW k k)) ?_;refine aN (vP (b:=5) (b':=4) (i:=0) (j:=2) (es':=v3.1.tgt.map eI) k k k k (aAx cW k k))<|rg<|lp k8<|oB h λv4 hv4 h=>ae (cZ (σ:=sg []) (σ':=sg [(6,0)]) (touch:=[]) (news:=[6]) (hl2:=[(6,⟨1,v4.1.map (bU 1 eI)⟩)]) (n':=7) (r2:= .tuple [.own 6 0 v4.1.length,.bl v4.2]) (iA v3.1 v4 hv4) k k ⟨_,_,k,(.inl ⟨_,_,k,k,⟨_,_,k,⟨k,k⟩,⟨_,_,k,⟨k,k⟩,k⟩⟩⟩),k⟩ aR k k k ⟨⟨_,k,k,.inl ⟨k,aV.plainE _⟩⟩,k,aR⟩ k (.inr ⟨_,_,k,k,⟨_,_,k,⟨k,k,(by simp only [aO,lA,lT,lR,lC,lN]),k⟩,⟨_,_,k,k,k⟩⟩⟩) k ⟨k,aV.tamdE _ _,aR⟩ k k) k<|am k k<|ae (aW k k (by intro _ h;cases h)) k<|ae (aW k k (by intro _ h;cases h)) k<|aa k k<|aT k2<|sR<|lp k8<|oB h λv5 hv5 h=>ae (cT aV (xB v3.1 v5 hv5) k3 (aX (iL k) aU)) k<|am k k<|ae (aW k k (by intro _ h;cases h)) k<|ae (aW k k (by intro _ h;cases h)) k<|aa k k<|aT k2<|aN (t:=mN [(2,.ptr 0 0 0),(4,.ptr 1 0 0),(5,.ptr 5 0 0),(7,.own 6 0 v4.1.length),(8,.bl v4.2),(9,.own 7 0 v5.1.length),(10,.bl v5.2)] [(0,⟨3,[[.int 0,.nil 1,.nil 1]]⟩),(1,⟨3,[[.list 1 (a0.map eU),.int v2.1,.int v2.2.1]]⟩),(5,⟨3,[eQ v3.1]⟩),(6,⟨1,v4.1.map (bU 1 eI)⟩),(7,⟨1,v5.1.map (ow (bU 1 eI))⟩)] 8 ⟨0,false,none,true⟩) (bO (bN k2) (bS k<|bS k<|bS k<|cF (aV.plainE _) k<|cF (aV.plainO _) k<|aR) k4)<|sR<|ae (wl k) k<|aT k2<|aN (t:=mN [(2,.ptr 0 0 0),(4,.ptr 1 0 0),(5,.ptr 5 0 0),(7,.own 6 0 v4.1.length),(8,.bl v4.2),(9,.own 7 0 v5.1.length),(10,.bl v5.2),(11,.own 8 0 (([]:aD).length))] [(0,⟨3,[[.int 0,.nil 1,.nil 1]]⟩),(1,⟨3,[[.list 1 (a0.map eU),.int v2.1,.int v2.2.1]]⟩),(5,⟨3,[eQ v3.1]⟩),(6,⟨1,v4.1.map (bU 1 eI)⟩),(7,⟨1,v5.1.map (ow (bU 1 eI))⟩),(8,⟨1,List.map (ow (bU 1 eI)) ([]:aD)⟩)] 9 ⟨0,false,none,true⟩) (bO (pP 7 k2 (mO ⟨_,k,⟨k,k,(by simp only [aO,lA,lT,lR,lC,lN]),k⟩⟩ aR)) (bS k<|bS k<|bS k<|cF (aV.plainE _) k<|cF (aV.plainO _) k<|cF (aV.plainO _) k<|aR) k4) ?_;refine sQ<|sR<|am k k<|am k k<|kI h (λq6 h=>?_) λq6 h=>?_
 ·refine aH 36 k q6<|am k k<|pk k3<|am k k<|kI h (λq7 h=>?_) λq7 h=>?_
  ·refine aH 39 k q7<|am k k<|oB h λv8 hv8 h=>ae (iR 1 [] (zJ (⟨a0,v2.1,v2.2.1⟩:Cu) 3 v8 hv8) k k ⟨_,_,k,(.inl ⟨k,k,k,k⟩),⟨_,_,k,(.inl k),k⟩⟩ k k (.inl k) k k) k<|ae (fB k) k<|pk k3<|an<|tn<|dC k h (λ_ h=>?_) λ_ h=>?_
   ·refine sR<|am k k<|am k k<|am k k<|ae (cN aL k k k k) k<|oB h λv10 hv10 h=>ae (iR 1 [] (eK (⟨a0,v8.1,v8.2.1⟩:Cu) ((v5.1.length:Nat):Int) v10 hv10) k k ⟨_,_,k,(.inl ⟨k,k,k,k⟩),⟨_,_,k,(.inl k),k⟩⟩ k k (.inl k) k k) k<|oB h λv11 hv11 h=>ae (xo hv11 k) k<|ae (wp hv11 k) k<|aT k2<|sQ<|sR<|aT k2<|aE<|oB h λy16 hy16 h=>cH (body:=(iX v4 v11)) hy16 (λ(x1:(aD×Int))=>mN [(2,.ptr 0 0 0),(5,.ptr 1 0 0),(7,.own 2 0 v4.1.length),(11,.own 3 0 x1.1.length),(12,.list 1 (v11.map eI)),(13,.int x1.2)] [(0,⟨3,[[.int 0,.nil 1,.nil 1]]⟩),(1,⟨3,[eQ v3.1]⟩),(2,⟨1,v4.1.map (bU 1 eI)⟩),(3,⟨1,x1.1.map (bU 1 eI)⟩)] 4 ⟨0,false,none,true⟩) (λr e t=>e= .exit 0/\Ent t (mN [(2,.ptr 0 0 0),(5,.ptr 1 0 0),(11,.own 2 0 r.length)] [(0,⟨3,[[.int 0,.nil 1,.nil 1]]⟩),(1,⟨3,[eQ v3.1]⟩),(2,⟨1,r.map (bU 1 eI)⟩)] 3 ⟨0,false,none,true⟩)) (kE [0,5,6,8] (bN k2) (bS k<|bS k<|cF (aV.plainE _) k<|cF (aV.plainE _) k<|aR) k4) ?_ ?_
    ·intro x1 o h;exact sQ<|sR<|am k k<|am k k<|ln k4<|cm k4<|an<|tn<|dC k h (λ_ h=>aI<|tn<|sQ<|aE<|rg<|am k k<|am k k<|am k k<|am k k<|oB h λv13 hv13 h=>ae (xl hv13 k) k<|lr k7<|oB h λv14 hv14 h=>ae (xo hv14 k) k<|ae (wp hv14 k) k<|ae (wl k) k<|cG h λq15 h=>ae (AEff.conv (kZ aL (e:=(bU 1 eI)) (l:=x1.1) (c:=[.list 1 (v14.map eI)]) q15 k k k k k k k k k k k k k k) (v':= .own 5 0 (x1.1++[v14]).length) (ed':=[(3,none),(5,some ⟨1,List.map (bU 1 eI) (x1.1++[v14])⟩)]) (by simp only [List.length_append,List.length_cons,List.length_nil]) (by rw [show List.map (bU 1 eI) (x1.1++[v14])=List.map (bU 1 eI) x1.1++[[.list 1 (v14.map eI)]] from List.map_append])) k<|aa k k<|an<|aZ<|tn<|rg<|am k k<|ae (bJ k k) k<|aT k2<|sp h ⟨_,k,(kE [0,1,2,5] (bN k2) (bS k<|bS k<|cF (aV.plainE _) k<|cF (aV.plainE _) k<|aR) k4)⟩) λ_ h=>bA<|aB<|aB<|sp h ⟨_,k,k,(kE [0,1,3] (bN k2) (bS k<|bS k<|cF (aV.plainE _) k<|aR) k4)⟩
    ·rintro e t ⟨rfl,hent⟩;exact aP<|tn<|aN hent<|sR<|lp k8<|am k k<|ae (ws k) k<|aT k2<|aG<|aM<|sp h ⟨mN [(2,.ptr 0 0 0),(3,.own 1 0 y16.length)] [(0,⟨3,[eQ v3.1]⟩),(1,⟨1,y16.map (bU 1 eI)⟩)] 2 ⟨0,false,none,true⟩,(kE [0,2] (bN k2) (bS k<|cF (aV.plainE _) k<|aR) k4),k,⟨_,k,.inr ⟨(by simp),k,k⟩⟩,⟨k,aR⟩⟩
   ·refine aI<|tn<|sQ<|sR<|aT k2<|aE<|oB h λy22 hy22 h=>cH (body:=(mA a0 v3 v4)) hy22 (λ(x2:(Int×Int×aD×Int))=>mN [(2,.ptr 0 0 0),(4,.ptr 1 0 0),(5,.ptr 2 0 0),(7,.own 3 0 v4.1.length),(8,.bl v4.2),(11,.own 4 0 x2.2.2.1.length),(14,.int x2.2.2.2)] [(0,⟨3,[[.int 0,.nil 1,.nil 1]]⟩),(1,⟨3,[[.list 1 (a0.map eU),.int x2.1,.int x2.2.1]]⟩),(2,⟨3,[eQ v3.1]⟩),(3,⟨1,v4.1.map (bU 1 eI)⟩),(4,⟨1,x2.2.2.1.map (bU 1 eI)⟩)] 5 ⟨0,false,none,true⟩) (λr e t=>e= .exit 2/\Ent t (mN [(2,.ptr 0 0 0),(5,.ptr 1 0 0),(11,.own 2 0 r.length)] [(0,⟨3,[[.int 0,.nil 1,.nil 1]]⟩),(1,⟨3,[eQ v3.1]⟩),(2,⟨1,r.map (bU 1 eI)⟩)] 3 ⟨0,false,none,true⟩)) (kE [0,1,5,6,8] (bN k2) (bS k<|bS k<|bS k<|cF (aV.plainE _) k<|cF (aV.plainE _) k<|aR) k4) ?_ ?_
    ·intro x2 o h;exact sQ<|sR<|am k k<|fp k8<|lp k8<|cm k4<|am k k<|kI h (λq17 h=>aH 73 k q17<|am k k<|pk k3<|an<|tn<|dC k h (λ_ h=>aI<|tn<|sQ<|aE<|rg<|am k k<|am k k<|am k k<|am k k<|ae (cN aL k k k k) k<|oB h λv19 hv19 h=>ae (iR 1 [] (eK (⟨a0,x2.1,x2.2.1⟩:Cu) ((v4.1.length:Nat):Int) v19 hv19) k k ⟨_,_,k,(.inl ⟨k,k,k,k⟩),⟨_,_,k,(.inl k),k⟩⟩ k k (.inl k) k k) k<|oB h λv20 hv20 h=>ae (xo hv20 k) k<|ae (wp hv20 k) k<|ae (wl k) k<|cG h λq21 h=>ae (AEff.conv (kZ aL (e:=(bU 1 eI)) (l:=x2.2.2.1) (c:=[.list 1 (v20.map eI)]) q21 k k k k k k k k k k k k k k) (v':= .own 6 0 (x2.2.2.1++[v20]).length) (ed':=[(4,none),(6,some ⟨1,List.map (bU 1 eI) (x2.2.2.1++[v20])⟩)]) (by simp only [List.length_append,List.length_cons,List.length_nil]) (by rw [show List.map (bU 1 eI) (x2.2.2.1++[v20])=List.map (bU 1 eI) x2.2.2.1++[[.list 1 (v20.map eI)]] from List.map_append])) k<|aa k k<|an<|aZ<|tn<|rg<|am k k<|ae (bJ k k) k<|aT k2<|sp h ⟨_,k,(kE [0,1,2,3,6] (bN k2) (bS k<|bS k<|bS k<|cF (aV.plainE _) k<|cF (aV.plainE _) k<|aR) k4)⟩) λ_ h=>bA<|aB<|aB<|sp h ⟨_,k,k,(kE [0,2,4] (bN k2) (bS k<|bS k<|cF (aV.plainE _) k<|aR) k4)⟩) λq17 h=>aH 73 k q17<|ak k k<|pk k3<|an<|tn<|fK k k<|bA<|aB<|aB<|sp h ⟨_,k,k,(kE [0,2,4] (bN k2) (bS k<|bS k<|cF (aV.plainE _) k<|aR) k4)⟩
    ·rintro e t ⟨rfl,hent⟩;exact aP<|tn<|aN hent<|sR<|lp k8<|am k k<|ae (ws k) k<|aT k2<|aG<|sp h ⟨mN [(2,.ptr 0 0 0),(3,.own 1 0 y22.length)] [(0,⟨3,[eQ v3.1]⟩),(1,⟨1,y22.map (bU 1 eI)⟩)] 2 ⟨0,false,none,true⟩,(kE [0,2] (bN k2) (bS k<|cF (aV.plainE _) k<|aR) k4),k,⟨_,k,.inr ⟨(by simp),k,k⟩⟩,⟨k,aR⟩⟩
  ·refine aH 39 k q7<|aK k4<|ak k k<|pk k3<|an<|tn<|fK k k<|aI<|tn<|sQ<|sR<|aT k2<|aE<|oB h λy28 hy28 h=>cH (body:=(rD a0 v3 v4)) hy28 (λ(x3:(Int×Int×aD×Int))=>mN [(2,.ptr 0 0 0),(4,.ptr 1 0 0),(5,.ptr 2 0 0),(7,.own 3 0 v4.1.length),(8,.bl v4.2),(11,.own 4 0 x3.2.2.1.length),(14,.int x3.2.2.2)] [(0,⟨3,[[.int 0,.nil 1,.nil 1]]⟩),(1,⟨3,[[.list 1 (a0.map eU),.int x3.1,.int x3.2.1]]⟩),(2,⟨3,[eQ v3.1]⟩),(3,⟨1,v4.1.map (bU 1 eI)⟩),(4,⟨1,x3.2.2.1.map (bU 1 eI)⟩)] 5 ⟨0,false,none,true⟩) (λr e t=>e= .exit 2/\Ent t (mN [(2,.ptr 0 0 0),(5,.ptr 1 0 0),(11,.own 2 0 r.length)] [(0,⟨3,[[.int 0,.nil 1,.nil 1]]⟩),(1,⟨3,[eQ v3.1]⟩),(2,⟨1,r.map (bU 1 eI)⟩)] 3 ⟨0,false,none,true⟩)) (kE [0,1,5,6,8] (bN k2) (bS k<|bS k<|bS k<|cF (aV.plainE _) k<|cF (aV.plainE _) k<|aR) k4) ?_ ?_
   ·intro x3 o h;exact sQ<|sR<|am k k<|fp k8<|lp k8<|cm k4<|am k k<|kI h (λq23 h=>aH 73 k q23<|am k k<|pk k3<|an<|tn<|dC k h (λ_ h=>aI<|tn<|sQ<|aE<|rg<|am k k<|am k k<|am k k<|am k k<|ae (cN aL k k k k) k<|oB h λv25 hv25 h=>ae (iR 1 [] (eK (⟨a0,x3.1,x3.2.1⟩:Cu) ((v4.1.length:Nat):Int) v25 hv25) k k ⟨_,_,k,(.inl ⟨k,k,k,k⟩),⟨_,_,k,(.inl k),k⟩⟩ k k (.inl k) k k) k<|oB h λv26 hv26 h=>ae (xo hv26 k) k<|ae (wp hv26 k) k<|ae (wl k) k<|cG h λq27 h=>ae (AEff.conv (kZ aL (e:=(bU 1 eI)) (l:=x3.2.2.1) (c:=[.list 1 (v26.map eI)]) q27 k k k k k k k k k k k k k k) (v':= .own 6 0 (x3.2.2.1++[v26]).length) (ed':=[(4,none),(6,some ⟨1,List.map (bU 1 eI) (x3.2.2.1++[v26])⟩)]) (by simp only [List.length_append,List.length_cons,List.length_nil]) (by rw [show List.map (bU 1 eI) (x3.2.2.1++[v26])=List.map (bU 1 eI) x3.2.2.1++[[.list 1 (v26.map eI)]] from List.map_append])) k<|aa k k<|an<|aZ<|tn<|rg<|am k k<|ae (bJ k k) k<|aT k2<|sp h ⟨_,k,(kE [0,1,2,3,6] (bN k2) (bS k<|bS k<|bS k<|cF (aV.plainE _) k<|cF (aV.plainE _) k<|aR) k4)⟩) λ_ h=>bA<|aB<|aB<|sp h ⟨_,k,k,(kE [0,2,4] (bN k2) (bS k<|bS k<|cF (aV.plainE _) k<|aR) k4)⟩) λq23 h=>aH 73 k q23<|ak k k<|pk k3<|an<|tn<|fK k k<|bA<|aB<|aB<|sp h ⟨_,k,k,(kE [0,2,4] (bN k2) (bS k<|bS k<|cF (aV.plainE _) k<|aR) k4)⟩
   ·rintro e t ⟨rfl,hent⟩;exact aP<|tn<|aN hent<|sR<|lp k8<|am k k<|ae (ws k) k<|aT k2<|aG<|sp h ⟨mN [(2,.ptr 0 0 0),(3,.own 1 0 y28.length)] [(0,⟨3,[eQ v3.1]⟩),(1,⟨1,y28.map (bU 1 eI)⟩)] 2 ⟨0,false,none,true⟩,(kE [0,2] (bN k2) (bS k<|cF (aV.plainE _) k<|aR) k4),k,⟨_,k,.inr ⟨(by simp),k,k⟩⟩,⟨k,aR⟩⟩
 ·refine aH 36 k q6<|ak k k<|pk k3<|am k k<|aK k4<|ak k k<|pk k3<|an<|tn<|fK k k<|aI<|tn<|sQ<|sR<|aT k2<|aE<|oB h λy34 hy34 h=>cH (body:=(rE a0 v3 v4)) hy34 (λ(x4:(Int×Int×aD×Int))=>mN [(2,.ptr 0 0 0),(4,.ptr 1 0 0),(5,.ptr 2 0 0),(7,.own 3 0 v4.1.length),(8,.bl v4.2),(11,.own 4 0 x4.2.2.1.length),(14,.int x4.2.2.2)] [(0,⟨3,[[.int 0,.nil 1,.nil 1]]⟩),(1,⟨3,[[.list 1 (a0.map eU),.int x4.1,.int x4.2.1]]⟩),(2,⟨3,[eQ v3.1]⟩),(3,⟨1,v4.1.map (bU 1 eI)⟩),(4,⟨1,x4.2.2.1.map (bU 1 eI)⟩)] 5 ⟨0,false,none,true⟩) (λr e t=>e= .exit 2/\Ent t (mN [(2,.ptr 0 0 0),(5,.ptr 1 0 0),(11,.own 2 0 r.length)] [(0,⟨3,[[.int 0,.nil 1,.nil 1]]⟩),(1,⟨3,[eQ v3.1]⟩),(2,⟨1,r.map (bU 1 eI)⟩)] 3 ⟨0,false,none,true⟩)) (kE [0,1,5,6,8] (bN k2) (bS k<|bS k<|bS k<|cF (aV.plainE _) k<|cF (aV.plainE _) k<|aR) k4) ?_ ?_
  ·intro x4 o h;exact sQ<|sR<|am k k<|fp k8<|lp k8<|cm k4<|am k k<|kI h (λq29 h=>aH 73 k q29<|am k k<|pk k3<|an<|tn<|dC k h (λ_ h=>aI<|tn<|sQ<|aE<|rg<|am k k<|am k k<|am k k<|am k k<|ae (cN aL k k k k) k<|oB h λv31 hv31 h=>ae (iR 1 [] (eK (⟨a0,x4.1,x4.2.1⟩:Cu) ((v4.1.length:Nat):Int) v31 hv31) k k ⟨_,_,k,(.inl ⟨k,k,k,k⟩),⟨_,_,k,(.inl k),k⟩⟩ k k (.inl k) k k) k<|oB h λv32 hv32 h=>ae (xo hv32 k) k<|ae (wp hv32 k) k<|ae (wl k) k<|cG h λq33 h=>ae (AEff.conv (kZ aL (e:=(bU 1 eI)) (l:=x4.2.2.1) (c:=[.list 1 (v32.map eI)]) q33 k k k k k k k k k k k k k k) (v':= .own 6 0 (x4.2.2.1++[v32]).length) (ed':=[(4,none),(6,some ⟨1,List.map (bU 1 eI) (x4.2.2.1++[v32])⟩)]) (by simp only [List.length_append,List.length_cons,List.length_nil]) (by rw [show List.map (bU 1 eI) (x4.2.2.1++[v32])=List.map (bU 1 eI) x4.2.2.1++[[.list 1 (v32.map eI)]] from List.map_append])) k<|aa k k<|an<|aZ<|tn<|rg<|am k k<|ae (bJ k k) k<|aT k2<|sp h ⟨_,k,(kE [0,1,2,3,6] (bN k2) (bS k<|bS k<|bS k<|cF (aV.plainE _) k<|cF (aV.plainE _) k<|aR) k4)⟩) λ_ h=>bA<|aB<|aB<|sp h ⟨_,k,k,(kE [0,2,4] (bN k2) (bS k<|bS k<|cF (aV.plainE _) k<|aR) k4)⟩) λq29 h=>aH 73 k q29<|ak k k<|pk k3<|an<|tn<|fK k k<|bA<|aB<|aB<|sp h ⟨_,k,k,(kE [0,2,4] (bN k2) (bS k<|bS k<|cF (aV.plainE _) k<|aR) k4)⟩
  ·rintro e t ⟨rfl,hent⟩;exact aP<|tn<|aN hent<|sR<|lp k8<|am k k<|ae (ws k) k<|aT k2<|aG<|sp h ⟨mN [(2,.ptr 0 0 0),(3,.own 1 0 y34.length)] [(0,⟨3,[eQ v3.1]⟩),(1,⟨1,y34.map (bU 1 eI)⟩)] 2 ⟨0,false,none,true⟩,(kE [0,2] (bN k2) (bS k<|cF (aV.plainE _) k<|aR) k4),k,⟨_,k,.inr ⟨(by simp),k,k⟩⟩,⟨k,aR⟩⟩
end
section
def LpF {σ ρ:Type} :Nat->(σ->Option (σ ⊕ ρ))->σ->Option ρ
 |0,_,_=>none
 |n+1,body,s=>match body s with
  |none=>none
  |some (.inl s')=>LpF n body s'
  |some (.inr r)=>some r
def Le {α:Type} (a b:Option α):Prop:= ∀ r,a=some r->b=some r
theorem Le.rfl {α:Type} {a:Option α} :Le a a:=λ_ h=>h
theorem Le.none {α:Type} {b:Option α} :Le Option.none b:=λ_ h=>by cases h
theorem Le.bind {α β:Type} {a b:Option α} {f g:α->Option β} (h:Le a b) (k: ∀ x,Le (f x) (g x)):Le (a.bind f) (b.bind g):=λr e=>by
 obtain ⟨x,h1,h2⟩:=ob e;rw [h x h1];exact k x r h2
theorem Le.cond {α:Type} {c:Bool} {a b a' b':Option α} (h:Le a a') (k:Le b b'):Le (bif c then a else b) (bif c then a' else b'):=by
 cases c
 ·exact k
 ·exact h
theorem Le.elim {α β γ:Type} {f f':α->Option γ} {g g':β->Option γ} {x:α ⊕ β} (h: ∀ a,Le (f a) (f' a)) (k: ∀ b,Le (g b) (g' b)):Le (Sum.elim f g x) (Sum.elim f' g' x):=by
 cases x with
 |inl a=>exact h a
 |inr b=>exact k b
theorem Le.lp {σ ρ:Type} {f g:σ->Option (σ ⊕ ρ)} (h: ∀ s,Le (f s) (g s)): ∀ {n:Nat} {s:σ},Le (LpF n f s) (Lp g s)
 |0,s=>Le.none
 |n+1,s=>λr e=>by
  simp only [LpF] at e;cases hb:f s with
  |none=>rw [hb] at e;cases e
  |some x=>
   rw [hb] at e;cases x with
   |inl s'=>rw [kT (h s _ hb)];exact Le.lp h r e
   |inr r'=>cases e;exact eC (h s _ hb)
end
noncomputable section
set_option maxRecDepth 10000
def aAO (a0:Qv):Option Bool:=
 Option.bind (LpF 60 (nP a0) 0) λy9=>
 Sum.elim (λy10=>
  Option.bind (lB a0.n 1 5) λv11=>
  bif v11 then
   (bif decide ((a0.src.length:Int)<=6) then
    (some (decide ((a0.tgt.length:Int)=(a0.src.length:Int))))
   else
    (some (false)))
  else
   (some (false))
 )
 (λy14=>
  some y14
 )
  y9
theorem aHe (a0:Qv):Le (aAO a0) (fS a0):=by
 unfold aAO fS
 repeat (with_reducible first|exact Le.rfl|refine Le.bind ?_ λ_=>?_|refine Le.cond ?_ ?_|refine Le.lp λ_=>?_|refine Le.elim (λ_=>?_) λ_=>?_)
def rF (a0:Int):Option ByteArray:=
 bif decide (a0=0) then
  (some ((⟨#[48]⟩:ByteArray)))
 else
  (Option.bind (LpF 60 vE (a0,(⟨#[]⟩:ByteArray))) λy6=>
  bif decide (a0<0) then
   (bif decide ((⟨#[45]⟩:ByteArray).size +y6.size<=9223372036854775807) then
    (some (((⟨#[45]⟩:ByteArray)++y6)))
   else none)
  else
   (some (y6)))
theorem aBp (a0:Int):Le (rF a0) (nI a0):=by
 unfold rF nI
 repeat (with_reducible first|exact Le.rfl|refine Le.bind ?_ λ_=>?_|refine Le.cond ?_ ?_|refine Le.lp λ_=>?_)
def sP (a0:Qv) (x1:(ByteArray×Int)):Option ((ByteArray×Int) ⊕ ByteArray):=
 bif decide (x1.2<(a0.src.length:Int)) then
  (bif decide (x1.1.size+(⟨#[32]⟩:ByteArray).size <=9223372036854775807) then
   (Option.bind (cO a0.src x1.2) λv5=>
   Option.bind (rF v5) λv6=>
   bif decide ((x1.1++(⟨#[32]⟩:ByteArray)).size +v6.size<=9223372036854775807) then
    (Option.bind (cO a0.tgt x1.2) λv7=>
    Option.bind (rF v7) λv8=>
    bif decide (((x1.1++(⟨#[32]⟩:ByteArray))++v6).size +v8.size<=9223372036854775807) then
     (some (.inl ((((x1.1++(⟨#[32]⟩:ByteArray))++v6)++v8),wr (x1.2+1))))
    else none)
   else none)
  else none)
 else
  (some (.inr x1.1))
theorem aCi (a0:Qv) (x1:(ByteArray×Int)):Le (sP a0 x1) (nB a0 x1):=by
 unfold sP nB
 repeat (with_reducible first|exact Le.rfl|refine aBp _|refine Le.bind ?_ λ_=>?_|refine Le.cond ?_ ?_)
def vF (a0:Qv):Option ByteArray:=
 Option.bind (aAO a0) λv1=>
 bif !v1 then
  (some ((⟨#[]⟩:ByteArray)))
 else
  (Option.bind (rF a0.n) λv3=>
  bif decide (v3.size+(⟨#[58]⟩:ByteArray).size <=9223372036854775807) then
   (Option.bind (LpF 60 (sP a0) ((v3++(⟨#[58]⟩:ByteArray)),0)) λy12=>
   some (y12))
  else none)
theorem aEG (a0:Qv):Le (vF a0) (qJ a0):=by
 unfold vF qJ
 repeat (with_reducible first|exact Le.rfl|refine aHe _|refine aBp _|refine aCi _ _|refine Le.bind ?_ λ_=>?_|refine Le.cond ?_ ?_|refine Le.lp λ_=>?_)
def aDI (a0:ByteArray) (a1:Int):Option (List ByteArray):=
 Option.bind (LpF 60 (aAN a0 a1) (([]:(List ByteArray)),0,(⟨#[]⟩:ByteArray))) λy7=>
 bif decide (y7.1.length+[y7.2].length <=4294967296) then
  (some ((y7.1++[y7.2])))
 else none
theorem aKv (a0:ByteArray) (a1:Int):Le (aDI a0 a1) (aAn a0 a1):=by
 unfold aDI aAn
 repeat (with_reducible first|exact Le.rfl|refine Le.bind ?_ λ_=>?_|refine Le.cond ?_ ?_|refine Le.lp λ_=>?_)
def dB (a0:ByteArray):Option (Qv×Bool):=
 Option.bind (aDI a0 32) λv1=>
 Option.bind (cO v1 0) λv2=>
 bif !decide ((v2.size:Int)=2) then
  (some (((⟨0,[],[]⟩:Qv),false)))
 else
  (bif decide (30<(a0.size:Int)) then
   (some (((⟨0,[],[]⟩:Qv),false)))
  else
   (Option.bind (cO v1 0) λv5=>
   Option.bind (aJx v5 0) λv6=>
   Option.bind (LpF 60 (tI v1) (([]:aA),([]:aA),1)) λy16=>
   Sum.elim (λy17=>
    Option.bind (vF (⟨wr ((IntKind.i64.wrap v6) - 48),y17.1,y17.2⟩:Qv)) λv18=>
    bif !eqS v18 a0 then
     (some (((⟨0,[],[]⟩:Qv),false)))
    else
     (some (((⟨wr ((IntKind.i64.wrap v6) - 48),y17.1,y17.2⟩:Qv),true)))
   )
   (λy20=>
    some y20
   )
    y16))
theorem aEq (a0:ByteArray):Le (dB a0) (cX a0):=by
 unfold dB cX
 repeat (with_reducible first|exact Le.rfl|refine aKv _ _|refine aEG _|refine Le.bind ?_ λ_=>?_|refine Le.cond ?_ ?_|refine Le.lp λ_=>?_|refine Le.elim (λ_=>?_) λ_=>?_)
def xE (a0:ByteArray):Option (Qv×Bool):=
 bif eqS a0 (⟨#[65,49]⟩:ByteArray) then
  (Option.bind (dB (⟨#[49,58]⟩:ByteArray)) λv2=>
  some ((v2.1,v2.2)))
 else
  (bif eqS a0 (⟨#[65,50]⟩:ByteArray) then
   (Option.bind (dB (⟨#[50,58,32,48,49]⟩:ByteArray)) λv4=>
   some ((v4.1,v4.2)))
  else
   (bif eqS a0 (⟨#[65,51]⟩:ByteArray) then
    (Option.bind (dB (⟨#[51,58,32,48,49,32,49,50]⟩:ByteArray)) λv6=>
    some ((v6.1,v6.2)))
   else
    (bif eqS a0 (⟨#[65,51,105,110]⟩:ByteArray) then
     (Option.bind (dB (⟨#[51,58,32,48,49,32,50,49]⟩:ByteArray)) λv8=>
     some ((v8.1,v8.2)))
    else
     (bif eqS a0 (⟨#[65,52]⟩:ByteArray) then
      (Option.bind (dB (⟨#[52,58,32,48,49,32,49,50,32,50,51]⟩:ByteArray)) λv10=>
      some ((v10.1,v10.2)))
     else
      (bif eqS a0 (⟨#[68,52]⟩:ByteArray) then
       (Option.bind (dB (⟨#[52,58,32,48,51,32,49,51,32,50,51]⟩:ByteArray)) λv12=>
       some ((v12.1,v12.2)))
      else
       (bif eqS a0 (⟨#[68,53]⟩:ByteArray) then
        (Option.bind (dB (⟨#[53,58,32,48,50,32,49,50,32,50,51,32,51,52]⟩:ByteArray)) λv14=>
        some ((v14.1,v14.2)))
       else
        (bif eqS a0 (⟨#[75,50]⟩:ByteArray) then
         (Option.bind (dB (⟨#[50,58,32,48,49,32,48,49]⟩:ByteArray)) λv16=>
         some ((v16.1,v16.2)))
        else
         (bif eqS a0 (⟨#[115,116,97,114,52]⟩:ByteArray) then
          (Option.bind (dB (⟨#[53,58,32,48,52,32,49,52,32,50,52,32,51,52]⟩:ByteArray)) λv18=>
          some ((v18.1,v18.2)))
         else
          (bif eqS a0 (⟨#[115,113,117,97,114,101]⟩:ByteArray) then
           (Option.bind (dB (⟨#[52,58,32,48,49,32,48,50,32,49,51,32,50,51]⟩:ByteArray)) λv20=>
           some ((v20.1,v20.2)))
          else
           (bif eqS a0 (⟨#[108,111,111,112]⟩:ByteArray) then
            (Option.bind (dB (⟨#[49,58,32,48,48]⟩:ByteArray)) λv22=>
            some ((v22.1,v22.2)))
           else
            (bif eqS a0 (⟨#[99,105,114,99,108,101]⟩:ByteArray) then
             (Option.bind (dB (⟨#[51,58,32,48,49,32,49,50,32,50,48]⟩:ByteArray)) λv24=>
             some ((v24.1,v24.2)))
            else
             (Option.bind (dB (⟨#[]⟩:ByteArray)) λv25=>
             some ((v25.1,v25.2))))))))))))))
theorem aEr (a0:ByteArray):Le (xE a0) (eG a0):=by
 unfold xE eG
 repeat (with_reducible first|exact Le.rfl|refine aEq _|refine Le.bind ?_ λ_=>?_|refine Le.cond ?_ ?_)
end
section
theorem aVf (x:Int):0<=aCU x 255/\aCU x 255<256:=by
 have h:aCU x 255=x % 256:=by
  have hm:(BitVec.ofInt 64 255).toNat=2 ^ 8 - 1:=by decide
  have key:(BitVec.ofInt 64 x&&& BitVec.ofInt 64 255).toNat=(x % ((2 ^ 64:Nat):Int)).toNat % 2 ^ 8:=by
   rw [BitVec.toNat_and,BitVec.toNat_ofInt,hm,Nat.and_two_pow_sub_one_eq_mod]
  show IntKind.i64.wrap ((BitVec.ofInt 64 x&&& BitVec.ofInt 64 255).toNat:Nat)=x % 256;rw [key,IntKind.wrap_i64];omega
 rw [h];omega
def Cok (b:aA) (i:Int):Prop:=0<=i/\i<=b.length
section
variable {b:aA} {i:Int} (hb:b.length<=1048576) (hi:Cok b i) (h:Int)
include hb hi
theorem aZz: ∃ i' x,nD ⟨b,i,h⟩=some (i',x)/\Cok b i'/\0<=x/\x<256:=by
 unfold nD;simp only;unfold Cok at hi;by_cases c:i<b.length
 ·rw [bK c,aJ,atI 0 hi.1 c,aC,cU (x:=i+1) (by omega)];exact ⟨_,_,rfl,⟨by omega,by omega⟩,aVf _⟩
 ·rw [cR c,aY];exact ⟨_,_,rfl,hi,aVf _⟩
theorem vG {n:Int} (hn:n<=256): ∃ i' h' x,dM ⟨b,i,h⟩ n=some (i',h',x)/\Cok b i'/\0<=x/\(0<n->x<n)/\(n<=0->x=0):=by
 unfold dM;simp only;by_cases c:n<=0
 ·rw [bK c,aJ];exact ⟨_,_,_,rfl,hi,Int.le_refl 0,λh=>by omega,λ_=>rfl⟩
 ·obtain ⟨i',x,e,hi',hx0,hx⟩:=aZz hb hi h;rw [cR c,aY,bK hn,aJ,e,aC,cR (by omega: ¬ n=0),Bool.not_false,aJ];refine ⟨_,_,_,rfl,hi',?_,λ_=>?_,λh=>by omega⟩
  ·simp only;rw [Int.tmod_eq_emod_of_nonneg hx0];exact Int.emod_nonneg _ (by omega)
  ·simp only;rw [Int.tmod_eq_emod_of_nonneg hx0];exact Int.emod_lt_of_pos _ (by omega)
theorem aRr {n:Int} (hn:n<=256): ∃ i' h' t,pN ⟨b,i,h⟩ n=some (i',h',t)/\Cok b i':=by
 unfold pN;obtain ⟨i',h',x,e,hi',_⟩:=vG hb hi h hn;rw [e,aC];exact ⟨_,_,_,rfl,hi'⟩
theorem aPT {l:aA} (hl1:0<l.length) (hl:l.length<=256): ∃ i' h' x,uV ⟨b,i,h⟩ l=some (i',h',x)/\Cok b i'/\x∈l:=by
 unfold uV;obtain ⟨i',h',x,e,hi',h0,h1,_⟩:=vG hb hi h (n:=(l.length:Int)) (by omega);rw [e,aC];simp only;have h1:=h1 (by omega);rw [atI 0 h0 h1,aC];exact ⟨_,_,_,rfl,hi',iH 0 (by omega)⟩
theorem aMJ {l:List ByteArray} (hl1:0<l.length) (hl:l.length<=256): ∃ i' h' x,nF ⟨b,i,h⟩ l=some (i',h',x)/\Cok b i'/\x∈l:=by
 unfold nF;obtain ⟨i',h',x,e,hi',h0,h1,_⟩:=vG hb hi h (n:=(l.length:Int)) (by omega);rw [e,aC];simp only;have h1:=h1 (by omega);rw [atI (⟨#[]⟩:ByteArray) h0 h1,aC];exact ⟨_,_,_,rfl,hi',iH (⟨#[]⟩:ByteArray) (by omega)⟩
end
theorem aXH (c:aA) (hc:c.length<=1048576): ∃ h,sK c=some h:=by
 unfold sK
 have key: ∀ d k:Nat,k+d=min c.length 4000-> ∀ h:Int,∃ r,Lp (oO c) (h,(k:Int))=some r:=by
  intro d;induction d with
  |zero=>
   intro k hk h;refine ⟨h,eC ?_⟩;unfold oO;simp only;by_cases h1:k<c.length
   ·rw [bK (by omega),aJ,cR (by omega),aY]
   ·rw [cR (by omega),aY]
  |succ d ih=>
   intro k hk h;have hk1:k<c.length:=by omega
   have hs: ∃ h',oO c (h,(k:Int))=some (.inl (h',((k+1:Nat):Int))):=by
    unfold oO;simp only;rw [kC hk1,aJ,bK (by omega),aJ,tS 0 hk1,aC,cC hk1 (by omega)];exact ⟨_,rfl⟩
   obtain ⟨h',e⟩:=hs;rw [kT e];exact ih (k+1) (by omega) h'
 obtain ⟨r,e⟩:=key (min c.length 4000) 0 (by omega) (wr (10101+(c.length:Int)));rw [show ((0:Nat):Int)=0 from rfl] at e;rw [e,aC];exact ⟨_,rfl⟩
theorem c0 (c:aA):Cok c 0:=⟨Int.le_refl 0,by omega⟩
def nmL:List ByteArray:=[⟨#[65,49]⟩,⟨#[65,50]⟩,⟨#[65,51]⟩,⟨#[65,51,105,110]⟩,⟨#[65,52]⟩,⟨#[68,52]⟩,⟨#[68,53]⟩,⟨#[75,50]⟩,⟨#[115,116,97,114,52]⟩,⟨#[115,113,117,97,114,101]⟩,⟨#[108,111,111,112]⟩,⟨#[99,105,114,99,108,101]⟩]
def nmQ:List Qv:=[⟨1,[],[]⟩,⟨2,[0],[1]⟩,⟨3,[0,1],[1,2]⟩,⟨3,[0,2],[1,1]⟩,⟨4,[0,1,2],[1,2,3]⟩,⟨4,[0,1,2],[3,3,3]⟩,⟨5,[0,1,2,3],[2,2,3,4]⟩,⟨2,[0,0],[1,1]⟩,⟨5,[0,1,2,3],[4,4,4,4]⟩,⟨4,[0,0,1,2],[1,2,3,3]⟩,⟨1,[0],[0]⟩,⟨3,[0,1,2],[1,2,0]⟩]
theorem aTQ: ∀ k:Fin 12,(xE (nmL[k.val]?.getD ⟨#[]⟩)==some (nmQ[k.val]?.getD ⟨0,[],[]⟩,true))=true:=by decide+kernel
theorem aDJ {k:Nat} (hk:k<12):eG (nmL[k]?.getD (⟨#[]⟩:ByteArray))=some (nmQ[k]?.getD ⟨0,[],[]⟩,true):=aEr _ _ (eq_of_beq (aTQ ⟨k,hk⟩))
theorem aHg {s:ByteArray} (h:s∈nmL): ∃ q,q∈nmQ/\eG s=some (q,true):=by
 obtain ⟨k,hk,rfl⟩:=List.getElem_of_mem h;have hk':k<12:=hk;refine ⟨nmQ[k]?.getD ⟨0,[],[]⟩,iH _ hk',?_⟩;have:=aDJ hk'
 rwa [fP hk,kS] at this
theorem aYv:aBK=some nmL:=rfl
def Up (n:Nat) (s t:aA):Prop:=s.length=t.length/\s.length<=4/\ ∀ k,k<s.length->0<=s[k]?.getD 0/\s[k]?.getD 0<t[k]?.getD 0/\t[k]?.getD 0<n
theorem Up.nil (n:Nat):Up n [] []:=⟨rfl,by simp,λk hk=>absurd hk (Nat.not_lt_zero _)⟩
theorem Up.snoc {n:Nat} {s t:aA} (h:Up n s t) (hl:s.length<4) {x y:Int} (h1:0<=x) (h2:x<y) (h3:y<n):Up n (s++[x]) (t++[y]):=by
 obtain ⟨e,_,hk⟩:=h;refine ⟨by simp [e],by simp;omega,λk hk'=>?_⟩;rcases dV k s.length with c|c
 ·rw [List.getElem?_append_left c,List.getElem?_append_left (by omega)];exact hk k c
 ·simp only [List.length_append,List.length_cons,List.length_nil] at hk';have:k=s.length:=by omega
  subst this;rw [List.getElem?_append_right (bP _),Nat.sub_self,e,List.getElem?_append_right (bP _),Nat.sub_self];exact ⟨h1,h2,h3⟩
section
variable {b:aA} {i:Int} (hb:b.length<=1048576) (hi:Cok b i) (h:Int)
include hb hi
theorem aPU: ∃ (i' h':Int) (q:Qv),uW ⟨b,i,h⟩=some (i',h',q.n,q.src,q.tgt)/\Cok b i'/\(q∈nmQ.take 10∨ ∃ n:Nat,1<=n/\n<=4/\q.n=n/\Up n q.src q.tgt):=by
 unfold uW;obtain ⟨i1,h1,t1,e1,k1⟩:=aRr hb hi h (n:=2) (by omega);rw [e1,aC];cases t1 with
 |true=>
  simp only [aJ];obtain ⟨i2,h2,x,e2,k2,x0,x1,_⟩:=vG hb k1 h1 (n:=10) (by omega);have x1:=x1 (by omega);rw [aYv,aC,e2,aC];simp only;have hx:x.toNat<10:=by omega
  rw [atI (⟨#[]⟩:ByteArray) x0 (by have:nmL.length=12:=rfl;omega),aC,aDJ (by omega),aC];refine ⟨_,_,_,rfl,k2,.inl ?_⟩;rw [←List.getElem?_take_of_lt hx];exact iH _ hx
 |false=>
  simp only [aY];obtain ⟨i2,h2,x,e2,k2,x0,x1,_⟩:=vG hb k1 h1 (n:=4) (by omega);have x1:=x1 (by omega);rw [e2,aC];obtain ⟨i3,h3,y,e3,k3,y0,y1,_⟩:=vG hb k2 h2 (n:=5) (by omega);have y1:=y1 (by omega);rw [e3,aC];obtain ⟨n,hn⟩: ∃ n:Nat,1+x=n:=⟨(1+x).toNat,by omega⟩;have hw:wr (1+x)=n:=by rw [cU (by omega)];exact hn
  have hloop: ∃ r,Lp (qK ⟨b,i,h⟩ (i2,h2,x)) (i3,h3,([]:aA),([]:aA),y)=some r/\(Cok b r.1/\Up n r.2.2.1 r.2.2.2):=by
   refine aAZ (λs:Int×Int×aA×aA×Int=>Cok b s.1/\Up n s.2.2.1 s.2.2.2.1/\0<=s.2.2.2.2/\s.2.2.1.length+s.2.2.2.2<=4) (λs=>s.2.2.2.2.toNat) (λr:Int×Int×aA×aA=>Cok b r.1/\Up n r.2.2.1 r.2.2.2) ⟨k3,Up.nil n,y0,by simp;omega⟩ ?_;rintro ⟨i4,h4,s,t,z⟩ ⟨k4,hU,z0,z1⟩;simp only at k4 hU z0 z1;unfold qK;simp only;rw [hw];by_cases c:0<z
   ·rw [bK c,aJ];by_cases c2:1<(n:Int)
    ·rw [bK c2,aJ,cU (x:=(n:Int) - 1) (by omega)];obtain ⟨i5,h5,v,e5,k5,v0,v1,_⟩:=vG hb k4 h4 (n:=(n:Int) - 1) (by omega);have v1:=v1 (by omega);rw [e5,aC];simp only;have hsl:=hU.1;rw [bK (by simp;omega),aJ,cU (x:=(n:Int) - 1 - v) (by omega)];obtain ⟨i6,h6,u,e6,k6,u0,u1,_⟩:=vG hb k5 h5 (n:=(n:Int) - 1 - v) (by omega);have u1:=u1 (by omega);rw [e6,aC];simp only;rw [bK (by simp;omega),aJ,cU (x:=v+1) (by omega),cU (x:=v+1+u) (by omega),cU (x:=z - 1) (by omega)];exact .inl ⟨_,rfl,⟨k6,hU.snoc (by omega) v0 (by omega) (by omega),by simp only;omega,by simp;omega⟩,by simp only;omega⟩
    ·rw [cR c2,aY];exact .inr ⟨_,rfl,k4,hU⟩
   ·rw [cR c,aY];exact .inr ⟨_,rfl,k4,hU⟩
  obtain ⟨⟨i7,h7,s,t⟩,e7,k7,hU⟩:=hloop;rw [e7,aC];simp only;rw [hw];exact ⟨_,_,⟨(n:Int),s,t⟩,rfl,k7,.inr ⟨n,by omega,by omega,rfl,hU⟩⟩
theorem bAx: ∃ (i' h':Int) (q:Qv),uX ⟨b,i,h⟩=some (i',h',q.n,q.src,q.tgt)/\Cok b i'/\q.src.length<=5/\q.tgt.length<=5:=by
 unfold uX;obtain ⟨i1,h1,q,e1,k1,hq⟩:=aPU hb hi h;rw [e1,aC];obtain ⟨i2,h2,x,e2,k2,x0,x1,_⟩:=vG hb k1 h1 (n:=14) (by omega);simp only;rw [e2,aC];simp only;have hsm: ∀ q∈nmQ,q.src.length<=4/\q.tgt.length<=4:=by decide
 have hlen:q.src.length<=4/\q.tgt.length<=4:=by
  rcases hq with hq|⟨n,_,_,_,hU⟩
  ·exact hsm q (List.mem_of_mem_take hq)
  ·exact ⟨hU.2.1,by rw [←hU.1];exact hU.2.1⟩
 by_cases c:x=0
 ·rw [bK c,aJ];obtain ⟨i3,h3,s,e3,k3,hs⟩:=aMJ hb k2 h2 (l:=[(⟨#[108,111,111,112]⟩:ByteArray),(⟨#[99,105,114,99,108,101]⟩:ByteArray)]) (by simp) (by simp);rw [e3,aC];simp only;obtain ⟨q',hq',e4⟩:=aHg (s:=s) (by simp only [dH,List.not_mem_nil,or_false] at hs;rcases hs with rfl|rfl <;> simp [nmL]);rw [e4,aC];have:=hsm q' hq';exact ⟨_,_,q',rfl,k3,by omega,by omega⟩
 ·rw [cR c,aY];by_cases c2:x=1
  ·rw [bK c2,aJ];obtain ⟨i3,h3,z,e3,k3,hz⟩:=aPT hb k2 h2 (l:=[0,6,(-1),2]) (by simp) (by simp);rw [e3,aC];exact ⟨_,_,⟨z,q.src,q.tgt⟩,rfl,k3,by simp only;omega,by simp only;omega⟩
  ·rw [cR c2,aY];by_cases c3:x=2
   ·rw [bK c3,aJ];obtain ⟨i3,h3,z,e3,k3,_⟩:=vG hb k2 h2 (n:=6) (by omega);rw [e3,aC];simp only;rw [bK (by simp;omega),aJ];exact ⟨_,_,⟨q.n,q.src++[_],q.tgt⟩,rfl,k3,by simp;omega,by simp only;omega⟩
   ·rw [cR c3,aY];exact ⟨_,_,q,rfl,k2,by omega,by omega⟩
end
theorem aXl {b:aA} {i:Int} (hb:b.length<=1048576) (hi:Cok b i) (h:Int) (q:Qv) {most:Int} (h0:0<=most) (hm:most<=255): ∃ (i' h':Int) (d:aA),pO ⟨b,i,h⟩ q most=some (i',h',d)/\Cok b i'/\(d.length:Int)=max 0 (min q.n 5)/\ ∀ x∈d,0<=x/\x<=most:=by
 have hl: ∃ r,Lp (uY ⟨b,i,h⟩ q most) (i,h,([]:aA),8,0)=some r/\(Cok b r.1/\(r.2.2.length:Int)=max 0 (min q.n 5)/\ ∀ x∈r.2.2,0<=x/\x<=most):=by
  refine aAZ (λs:Int×Int×aA×Int×Int=>Cok b s.1/\(s.2.2.1.length:Int)=s.2.2.2.2/\(∀ x∈s.2.2.1,0<=x/\x<=most)/\0<=s.2.2.2.1/\s.2.2.2.1<=8/\s.2.2.2.2<=5/\s.2.2.2.2<=max 0 q.n) (λs=>(5 - s.2.2.2.2).toNat) (λr:Int×Int×aA=>Cok b r.1/\(r.2.2.length:Int)=max 0 (min q.n 5)/\ ∀ x∈r.2.2,0<=x/\x<=most) ⟨hi,rfl,λx hx=>(by cases hx),(by decide:(0:Int)<=8),(by decide:(8:Int)<=8),(by decide:(0:Int)<=5),(by omega:(0:Int)<=max 0 q.n)⟩ ?_;rintro ⟨i1,h1,d,left,v⟩ ⟨k1,e1,k2,k3,k4,k5,k6⟩;simp only at k1 e1 k2 k3 k4 k5 k6;unfold uY;simp only;by_cases c:v<q.n
  ·rw [bK c,aJ];by_cases c2:v<5
   ·rw [bK c2,aJ,cU (x:=most+1) (by omega)];obtain ⟨i2,h2,x,e2,kk,x0,x1,_⟩:=vG hb k1 h1 (n:=most+1) (by omega);have x1:=x1 (by omega);rw [e2,aC];simp only;have hmin:min left x<=left:=Int.min_le_left _ _;have hmin2:min left x<=x:=Int.min_le_right _ _;have hmin3:0<=min left x:=by omega
    rw [bK (by simp;omega),aJ,cU (x:=left - min left x) (by omega),cU (x:=v+1) (by omega)];refine .inl ⟨_,rfl,⟨kk,by simp;omega,λy hy=>?_,by simp only;omega,by simp only;omega,by simp only;omega,by simp only;omega⟩,by simp only;omega⟩;rcases eH.1 hy with hy|hy
    ·exact k2 y hy
    ·simp only [dH,List.not_mem_nil,or_false] at hy;subst hy;omega
   ·rw [cR c2,aY];exact .inr ⟨_,rfl,k1,by simp only;omega,k2⟩
  ·rw [cR c,aY];exact .inr ⟨_,rfl,k1,by simp only;omega,k2⟩
 obtain ⟨⟨i1,h1,d⟩,e,k1,k2,k3⟩:=hl;unfold pO;simp only;rw [e,aC];exact ⟨_,_,_,rfl,k1,k2,k3⟩
end
noncomputable section
set_option maxRecDepth 10000
def aFX (a0:aA):Option Bool:=
 some (decide (1048576<(a0.length:Int)))
theorem aQi (a0:aA) (r:Bool) (h:aFX a0=some r):HasC Tryz.prog 6 [.list 1 (a0.map eU)] (.bl r):=by
 exact hM [.tmp 2] Tryz.func6 Tryz.ntmps6 k<|sR<|aT k2<|sR<|am k k<|ln k4<|cm k4<|aT k2<|aG<|kD h k2
def xF (a0:aA) (a1:aA) (x1:Int):Option (Int ⊕ (Unit ⊕ Bool)):=
 bif decide (x1<(a0.length:Int)) then
 ((cO a0 x1).bind λv3=>
 (cO a1 x1).bind λv4=>
 bif !decide (v3=v4) then
 (some (.inr (.inr (false))))
 else
 (some (.inl (wr (x1+1)))))
 else
 (some (.inr (.inl ())))
def tA (a0:aA) (a1:aA):Option Bool:=
 bif !decide ((a0.length:Int)=(a1.length:Int)) then
 (some (false))
 else
 ((Lp (xF a0 a1) 0).bind λy6=>
 Sum.elim (λy7=>
 some (true)
 )
 (λy8=>
 some y8
 )
 y6)
theorem aDQ (a0:aA) (a1:aA) (r:Bool) (h:tA a0 a1=some r):HasC Tryz.prog 29 [.list 1 (a0.map eI),.list 1 (a1.map eI)] (.bl r):=by
 refine hM [.tmp 4] Tryz.func29 Tryz.ntmps29 k<|sR<|aT k2<|sQ<|sR<|am k k<|ln k4<|am k k<|ln k4<|cm k4<|an<|tn<|dC k h (λ_ h=>sR<|aT k2<|aG<|aM<|kD h k2) λ_ h=>?_;refine aI<|tn<|sQ<|sR<|aT k2<|aE<|oB h λy6 hy6 h=>cH (body:=(xF a0 a1)) hy6 (λ(x1:Int)=>mN [(0,.list 1 (a0.map eI)),(1,.list 1 (a1.map eI)),(5,.int x1)] [] 0) (λr e t=>Sum.elim (λa=>(λr e t=>e= .exit 0/\Ent t (mN [] [] 0)) a e t) (λb=>(λr e t=>e= .ret/\uI TT [.tmp 4] (.bl r) .ret t) b e t) r) (bO (bN k2) aR k4) ?_ ?_
 ·intro x1 o h;exact sQ<|sR<|am k k<|am k k<|ln k4<|cm k4<|an<|tn<|dC k h (λ_ h=>aI<|tn<|sQ<|aE<|sQ<|aQ fW<|am k k<|am k k<|oB h λv3 hv3 h=>ae (xl hv3 k) k<|lr k7<|am k k<|am k k<|oB h λv4 hv4 h=>ae (xl hv4 k) k<|lr k7<|cm k4<|an<|nH (by kernel_rfl)<|tn<|dC k h (λ_ h=>sR<|aT k2<|aG<|bX<|aM<|aM<|sp h ⟨_,k,k,cA k k k (qM k)⟩) λ_ h=>aI<|aZ<|tn<|rg<|am k k<|ae (bJ k k) k<|aT k2<|sp h ⟨_,k,(bO (bN k2) aR k4)⟩) λ_ h=>bA<|aB<|aB<|sp h ⟨_,k,k,(bO aR aR k4)⟩
 ·intro e t hX;rcases y6 with y7|y8
  ·obtain ⟨rfl,hent⟩:=hX;exact aP<|tn<|aN hent<|sR<|aT k2<|aG<|kD h k2
  ·obtain ⟨rfl,hent⟩:=hX;exact bX<|aM<|sp h hent
def qL (a0:aD) (a1:aD) (x1:Int):Option (Int ⊕ (Unit ⊕ Bool)):=
 bif decide (x1<(a0.length:Int)) then
 ((cO a0 x1).bind λv3=>
 (cO a1 x1).bind λv4=>
 (tA v3 v4).bind λv5=>
 bif !v5 then
 (some (.inr (.inr (false))))
 else
 (some (.inl (wr (x1+1)))))
 else
 (some (.inr (.inl ())))
def rG (a0:aD) (a1:aD):Option Bool:=
 bif !decide ((a0.length:Int)=(a1.length:Int)) then
 (some (false))
 else
 ((Lp (qL a0 a1) 0).bind λy7=>
 Sum.elim (λy8=>
 some (true)
 )
 (λy9=>
 some y9
 )
 y7)
theorem aHh (a0:aD) (a1:aD) (r:Bool) (h:rG a0 a1=some r):HasC Tryz.prog 21 [.list 1 (a0.map (bU 1 eI)),.list 1 (a1.map (bU 1 eI))] (.bl r):=by
 refine hM [.tmp 4] Tryz.func21 Tryz.ntmps21 k<|sR<|aT k2<|sQ<|sR<|am k k<|ln k4<|am k k<|ln k4<|cm k4<|an<|tn<|dC k h (λ_ h=>sR<|aT k2<|aG<|aM<|kD h k2) λ_ h=>?_;refine aI<|tn<|sQ<|sR<|aT k2<|aE<|oB h λy7 hy7 h=>cH (body:=(qL a0 a1)) hy7 (λ(x1:Int)=>mN [(0,.list 1 (a0.map (bU 1 eI))),(1,.list 1 (a1.map (bU 1 eI))),(5,.int x1)] [] 0) (λr e t=>Sum.elim (λa=>(λr e t=>e= .exit 0/\Ent t (mN [] [] 0)) a e t) (λb=>(λr e t=>e= .ret/\uI TT [.tmp 4] (.bl r) .ret t) b e t) r) (bO (bN k2) aR k4) ?_ ?_
 ·intro x1 o h;exact sQ<|sR<|am k k<|am k k<|ln k4<|cm k4<|an<|tn<|dC k h (λ_ h=>aI<|tn<|sQ<|aE<|sQ<|aQ fW<|am k k<|am k k<|oB h λv3 hv3 h=>ae (xl hv3 k) k<|lr k7<|am k k<|am k k<|oB h λv4 hv4 h=>ae (xl hv4 k) k<|lr k7<|oB h λv5 hv5 h=>ae (aS (aDQ v3 v4 v5 hv5) k (dF k (dF k aU))) k<|ae (fB k) k<|an<|nH (by kernel_rfl)<|tn<|dC k h (λ_ h=>sR<|aT k2<|aG<|bX<|aM<|aM<|sp h ⟨_,k,k,cA k k k (qM k)⟩) λ_ h=>aI<|aZ<|tn<|rg<|am k k<|ae (bJ k k) k<|aT k2<|sp h ⟨_,k,(bO (bN k2) aR k4)⟩) λ_ h=>bA<|aB<|aB<|sp h ⟨_,k,k,(bO aR aR k4)⟩
 ·intro e t hX;rcases y7 with y8|y9
  ·obtain ⟨rfl,hent⟩:=hX;exact aP<|tn<|aN hent<|sR<|aT k2<|aG<|kD h k2
  ·obtain ⟨rfl,hent⟩:=hX;exact bX<|aM<|sp h hent
def mM (v23:(aD×Bool)) (v24:(aD×Bool)) (x1:Int) (x2:(aD×Int)):Option ((aD×Int) ⊕ aD):=
 (cO v23.1 x1).bind λv32=>
 bif decide (x2.2<(v32.length:Int)) then
 ((cO v23.1 x1).bind λv34=>
 (cO v34 x2.2).bind λv35=>
 (cO v24.1 v35).bind λv36=>
 bif decide (x2.1.length+1<=4294967296) then
 (some (.inl ((x2.1++[v36]),wr (x2.2+1))))
 else none)
 else
 (some (.inr x2.1))
def gG (v21:Qv) (v23:(aD×Bool)) (v24:(aD×Bool)) (x1:Int):Option (Int ⊕ (Unit ⊕ Bool)):=
 bif decide (x1<((v23.1.length:Nat):Int)) then
 ((Lp (mM v23 v24 x1) (([]:aD),0)).bind λy38=>
 (pL y38).bind λv39=>
 (kO v21 y38).bind λv40=>
 bif !v40 then
 (some (.inr (.inr (false))))
 else
 (bif !decide (v39=1) then
 (bif !decide (v39=(-1)) then
 (some (.inr (.inr (false))))
 else
 (some (.inl (wr (x1+1)))))
 else
 (some (.inl (wr (x1+1))))))
 else
 (some (.inr (.inl ())))
def kR (a0:aA):Option Bool:=
 (jY a0).bind λv21=>
 (kP v21).bind λv22=>
 (iP v21).bind λv23=>
 (bT v21).bind λv24=>
 bif !(v22.2==v23.2) then
 (some (false))
 else
 ((rG v22.1 v23.1).bind λv26=>
 bif !v26 then
 (some (false))
 else
 ((qI v21).bind λv28=>
 (qG v21).bind λv29=>
 bif !decide (v28=v29) then
 (some (false))
 else
 ((Lp (gG v21 v23 v24) 0).bind λy44=>
 Sum.elim (λy45=>
 (kL a0).bind λv46=>
 (jV (⟨v46.1,v46.2.1,v46.2.2.1⟩:Qv) v46.2.2.2).bind λv47=>
 (fD (⟨v46.1,v46.2.1,v46.2.2.1⟩:Qv) v46.2.2.2).bind λv48=>
 bif !(v47.2==v48.2) then
 (some (false))
 else
 ((tA v47.1 v48.1).bind λv50=>
 bif !v50 then
 (some (false))
 else
 ((fQ (⟨v46.1,v46.2.1,v46.2.2.1⟩:Qv)).bind λv52=>
 bif decide (v52=1) then
 ((lD (⟨v46.1,v46.2.1,v46.2.2.1⟩:Qv) v46.2.2.2).bind λv54=>
 bif !(v47.2==v54) then
 (some (false))
 else
 ((lK a0).bind λv56=>
 (kO (⟨v56.2.1,v56.2.2.1,v56.2.2.2⟩:Qv) v56.1).bind λv57=>
 (qX (⟨v56.2.1,v56.2.2.1,v56.2.2.2⟩:Qv) v56.1).bind λv58=>
 some ((v57==v58))))
 else
 (bif !(v47.2==false) then
 (some (false))
 else
 ((lK a0).bind λv60=>
 (kO (⟨v60.2.1,v60.2.2.1,v60.2.2.2⟩:Qv) v60.1).bind λv61=>
 (qX (⟨v60.2.1,v60.2.2.1,v60.2.2.2⟩:Qv) v60.1).bind λv62=>
 some ((v61==v62))))))
 )
 (λy63=>
 some y63
 )
 y44)))
def yZ (a0:aA):Option Bool:=
 (aFX a0).bind λv1=>
 bif v1 then
 (some (true))
 else
 ((sO a0).bind λv3=>
 (nY (⟨v3.1,v3.2.1,v3.2.2.1⟩:Qv) v3.2.2.2.1 v3.2.2.2.2).bind λv4=>
 (jQ (⟨v3.1,v3.2.1,v3.2.2.1⟩:Qv) v3.2.2.2.1 v3.2.2.2.2).bind λv5=>
 (uA (⟨v3.1,v3.2.1,v3.2.2.1⟩:Qv) v3.2.2.2.1 v3.2.2.2.2).bind λv6=>
 bif !decide (v4=v6) then
 (some (false))
 else
 ((jN (⟨v3.1,v3.2.1,v3.2.2.1⟩:Qv) v3.2.2.2.1 v3.2.2.2.2).bind λv8=>
 bif !decide (v5=v8) then
 (some (false))
 else
 ((iV (⟨v3.1,v3.2.1,v3.2.2.1⟩:Qv) v3.2.2.2.1 v3.2.2.2.2).bind λv10=>
 (eY (⟨v3.1,v3.2.1,v3.2.2.1⟩:Qv) v3.2.2.2.1 v3.2.2.2.2).bind λv11=>
 bif !(v10==v11) then
 (some (false))
 else
 ((iJ 2 (⟨v3.1,v3.2.1,v3.2.2.1⟩:Qv) v3.2.2.2.1).bind λv13=>
 (iJ 2 (⟨v3.1,v3.2.1,v3.2.2.1⟩:Qv) v3.2.2.2.2).bind λv14=>
 bif v13.2 then
 (bif v14.2 then
 ((vL v13.1 v14.1).bind λv17=>
 bif !decide (v17=v4) then
 (some (false))
 else
 ((vQ v13.1 v14.1).bind λv19=>
 bif !decide (v19=v5) then
 (some (false))
 else
 (kR a0)))
 else
 (kR a0))
 else
 (kR a0)))))
theorem aHi (a0:aA) (r:Bool) (h:yZ a0=some r):HasC Tryz.prog 3 [.list 1 (a0.map eU)] (.bl r):=by
 refine hM [.tmp 2] Tryz.func3 Tryz.ntmps3 k<|sR<|aT k2<|sQ<|sR<|am k k<|oB h λv1 hv1 h=>ae (aS (aQi a0 v1 hv1) k (dF k aU)) k<|an<|tn<|dC k h (λ_ h=>sR<|aT k2<|aG<|aM<|kD h k2) λ_ h=>?_;refine aI<|tn<|sR<|am k k<|oB h λv3 hv3 h=>ae (cZ (σ:=sg []) (σ':=sg [(0,1),(1,2)]) (touch:=[]) (news:=[0,1]) (hl2:=[(0,⟨1,v3.2.2.2.1.map (ow eI)⟩),(1,⟨1,v3.2.2.2.2.map (ow eI)⟩)]) (n':=2) (r2:= .tuple [.agg [.int v3.1,.list 1 (v3.2.1.map eI),.list 1 (v3.2.2.1.map eI)],.own 0 0 v3.2.2.2.1.length,.own 1 0 v3.2.2.2.2.length]) (aFW a0 v3 hv3) k k ⟨_,_,k,(.inl ⟨k,k⟩),k⟩ aR k k k ⟨⟨_,k,k,.inl ⟨k,cW.plainO _⟩⟩,k,⟨_,k,k,.inl ⟨k,cW.plainO _⟩⟩,k,aR⟩ k (.inr ⟨_,_,k,k,⟨_,_,k,⟨_,_,k,k,⟨_,_,k,⟨k,k⟩,⟨_,_,k,⟨k,k⟩,k⟩⟩⟩,⟨_,_,k,⟨k,k,(by simp only [aO,lA,lT,lR,lC,lN]),k⟩,⟨_,_,k,⟨k,k,(by simp only [aO,lA,lT,lR,lC,lN]),k⟩,k⟩⟩⟩⟩) k ⟨k,cW.tamd _ _,⟨k,cW.tamd _ _,aR⟩⟩ k k) k<|am k k<|ae (aW k k (by intro _ h;cases h)) k<|ae (aW k k (by intro _ h;cases h)) k<|ae (aW k k (by intro _ h;cases h)) k<|ae (cB aL k k) k<|ae (ws k) k<|aa k k<|aT k2<|sR<|lp k8<|am k k<|am k k<|oB h λv4 hv4 h=>ae (aS (aJw (⟨v3.1,v3.2.1,v3.2.2.1⟩:Qv) v3.2.2.2.1 v3.2.2.2.2 v4 hv4) k (aX (iL k) (vcT k k (vcT k k aU)))) k<|aT k2<|sR<|lp k8<|am k k ?_;refine am k k<|oB h λv5 hv5 h=>ae (aS (aBE (⟨v3.1,v3.2.1,v3.2.2.1⟩:Qv) v3.2.2.2.1 v3.2.2.2.2 v5 hv5) k (aX (iL k) (vcT k k (vcT k k aU)))) k<|aT k2<|sQ<|sQ<|aQ fW<|am k k<|lp k8<|am k k<|am k k<|oB h λv6 hv6 h=>ae (aS (aJu (⟨v3.1,v3.2.1,v3.2.2.1⟩:Qv) v3.2.2.2.1 v3.2.2.2.2 v6 hv6) k (aX (iL k) (vcT k k (vcT k k aU)))) k<|cm k4<|am k k<|kI h (λq7 h=>?_) λq7 h=>?_
 ·refine aH 53 k q7<|aK k4<|aK k4<|aK k4<|pk k3<|am k k<|aK k4<|aK k4<|aK k4<|aK k4<|ak k k<|pk k3<|an<|nH (by kernel_rfl)<|tn<|aN (t:=mN [(0,.list 1 (a0.map eU)),(3,.ptr 2 0 0),(4,.own 0 0 v3.2.2.2.1.length),(5,.own 1 0 v3.2.2.2.2.length),(6,.int v4),(7,.int v5),(71,.bl true)] [(0,⟨1,v3.2.2.2.1.map (ow eI)⟩),(1,⟨1,v3.2.2.2.2.map (ow eI)⟩),(2,⟨3,[[.int v3.1,.list 1 (v3.2.1.map eI),.list 1 (v3.2.2.1.map eI)]]⟩)] 3) (bO (bN k2) (cD k<|cD k<|bS k<|aR) k4)<|dO k k<|sR<|aT k2<|aG ?_;exact aM<|kD h k2
 ·refine aH 53 k q7<|am k k<|lp k8<|am k k<|am k k<|oB h λv8 hv8 h=>ae (aS (aBD (⟨v3.1,v3.2.1,v3.2.2.1⟩:Qv) v3.2.2.2.1 v3.2.2.2.2 v8 hv8) k (aX (iL k) (vcT k k (vcT k k aU)))) k<|cm k4<|pk k3<|am k k<|kI h (λq9 h=>aH 61 k q9<|aK k4<|aK k4<|aK k4<|aK k4<|ak k k<|pk k3<|an<|nH (by kernel_rfl)<|tn<|aN (t:=mN [(0,.list 1 (a0.map eU)),(3,.ptr 2 0 0),(4,.own 0 0 v3.2.2.2.1.length),(5,.own 1 0 v3.2.2.2.2.length),(6,.int v4),(7,.int v5),(71,.bl true)] [(0,⟨1,v3.2.2.2.1.map (ow eI)⟩),(1,⟨1,v3.2.2.2.2.map (ow eI)⟩),(2,⟨3,[[.int v3.1,.list 1 (v3.2.1.map eI),.list 1 (v3.2.2.1.map eI)]]⟩)] 3) (bO (bN k2) (cD k<|cD k<|bS k<|aR) k4)<|dO k k<|sR<|aT k2<|aG<|aM<|kD h k2) λq9 h=>?_;refine aH 61 k q9<|lp k8<|am k k<|am k k<|oB h λv10 hv10 h=>ae (aS (zX (⟨v3.1,v3.2.1,v3.2.2.1⟩:Qv) v3.2.2.2.1 v3.2.2.2.2 v10 hv10) k (aX (iL k) (vcT k k (vcT k k aU)))) k<|lp k8<|am k k<|am k k<|oB h λv11 hv11 h=>ae (aS (uB (⟨v3.1,v3.2.1,v3.2.2.1⟩:Qv) v3.2.2.2.1 v3.2.2.2.2 v11 hv11) k (aX (iL k) (vcT k k (vcT k k aU)))) k<|ae (aJK (by kernel_rfl) k k) k<|pk k3<|an<|nH (by kernel_rfl)<|tn<|aN (t:=mN [(0,.list 1 (a0.map eU)),(3,.ptr 2 0 0),(4,.own 0 0 v3.2.2.2.1.length),(5,.own 1 0 v3.2.2.2.2.length),(6,.int v4),(7,.int v5),(71,.bl (!(v10==v11)))] [(0,⟨1,v3.2.2.2.1.map (ow eI)⟩),(1,⟨1,v3.2.2.2.2.map (ow eI)⟩),(2,⟨3,[[.int v3.1,.list 1 (v3.2.1.map eI),.list 1 (v3.2.2.1.map eI)]]⟩)] 3) (bO (bN k2) (cD k<|cD k<|bS k<|aR) k4)<|dC k h (λ_ h=>sR<|aT k2<|aG<|aM<|kD h k2) λ_ h=>?_;refine aI<|tn<|sR<|lp k8<|am k k<|oB h λv13 hv13 h=>ae (AEff.conv (gJ (x:= .tuple [.agg [.int v13.1.p,.int v13.1.q.n,.own 3 0 (v13.1.q.src.map eI).length,.own 4 0 (v13.1.q.tgt.map eI).length,.own 5 0 (v13.1.dims.map eI).length,.own 6 0 (v13.1.maps.map eM).length],.bl v13.2]) (nb:=[(3,⟨1,cK (v13.1.q.src.map eI)⟩),(4,⟨1,cK (v13.1.q.tgt.map eI)⟩),(5,⟨1,cK (v13.1.dims.map eI)⟩),(6,⟨3,cK (v13.1.maps.map eM)⟩)]) (aDt 2 (⟨v3.1,v3.2.1,v3.2.2.1⟩:Qv) v3.2.2.2.1 v13 hv13) k (by rfl) k k (cV (bY aR (bY aR (bY (cW.good _) (bY (cW.good _) (bY (cW.good _) (bY (hO.good _) kY)))))) (cV aR kM)) (dF k (aX (iL k) (vcT k k aU)))) (v':= .tuple [.agg [.int v13.1.p,.int v13.1.q.n,.own 3 0 v13.1.q.src.length,.own 4 0 v13.1.q.tgt.length,.own 5 0 v13.1.dims.length,.own 6 0 v13.1.maps.length],.bl v13.2]) (ed':=[(3,some ⟨1,v13.1.q.src.map (ow eI)⟩),(4,some ⟨1,v13.1.q.tgt.map (ow eI)⟩),(5,some ⟨1,v13.1.dims.map (ow eI)⟩),(6,some ⟨3,v13.1.maps.map (ow eM)⟩)]) (by simp only [aO]) (oV (nb':=[(3,⟨1,v13.1.q.src.map (ow eI)⟩),(4,⟨1,v13.1.q.tgt.map (ow eI)⟩),(5,⟨1,v13.1.dims.map (ow eI)⟩),(6,⟨3,v13.1.maps.map (ow eM)⟩)]) (by simp only [fJ]))) k<|am k k<|ae (aW k k (by intro _ h;cases h)) k<|ae (aW k k (by intro _ h;cases h)) k<|ae (cB aL k k) k<|ae (ws k) k<|aT k2<|sR<|lp k8<|am k k<|oB h λv14 hv14 h=>ae (AEff.conv (gJ (x:= .tuple [.agg [.int v14.1.p,.int v14.1.q.n,.own 8 0 (v14.1.q.src.map eI).length,.own 9 0 (v14.1.q.tgt.map eI).length,.own 10 0 (v14.1.dims.map eI).length,.own 11 0 (v14.1.maps.map eM).length],.bl v14.2]) (nb:=[(8,⟨1,cK (v14.1.q.src.map eI)⟩),(9,⟨1,cK (v14.1.q.tgt.map eI)⟩),(10,⟨1,cK (v14.1.dims.map eI)⟩),(11,⟨3,cK (v14.1.maps.map eM)⟩)]) (aDt 2 (⟨v3.1,v3.2.1,v3.2.2.1⟩:Qv) v3.2.2.2.2 v14 hv14) k (by rfl) k k (cV (bY aR (bY aR (bY (cW.good _) (bY (cW.good _) (bY (cW.good _) (bY (hO.good _) kY)))))) (cV aR kM)) (dF k (aX (iL k) (vcT k k aU)))) (v':= .tuple [.agg [.int v14.1.p,.int v14.1.q.n,.own 8 0 v14.1.q.src.length,.own 9 0 v14.1.q.tgt.length,.own 10 0 v14.1.dims.length,.own 11 0 v14.1.maps.length],.bl v14.2]) (ed':=[(8,some ⟨1,v14.1.q.src.map (ow eI)⟩),(9,some ⟨1,v14.1.q.tgt.map (ow eI)⟩),(10,some ⟨1,v14.1.dims.map (ow eI)⟩),(11,some ⟨3,v14.1.maps.map (ow eM)⟩)]) (by simp only [aO]) (oV (nb':=[(8,⟨1,v14.1.q.src.map (ow eI)⟩),(9,⟨1,v14.1.q.tgt.map (ow eI)⟩),(10,⟨1,v14.1.dims.map (ow eI)⟩),(11,⟨3,v14.1.maps.map (ow eM)⟩)]) (by simp only [fJ]))) k<|am k k<|ae (aW k k (by intro _ h;cases h)) k<|ae (aW k k (by intro _ h;cases h)) k<|ae (cB aL k k) k<|ae (ws k) k<|aT k2<|sQ ?_;refine sR<|am k k<|am k k<|kI h (λq15 h=>?_) λq15 h=>?_;refine aH 85 k q15<|am k k<|pk k3<|am k k<|kI h (λq16 h=>?_) λq16 h=>?_;refine aH 88 k q16<|lp k8<|lp k8<|oB h λv17 hv17 h=>ae (aS (aKk v13.1 v14.1 v17 hv17) k (aX (vaR k8) (aX (vaR k8) aU))) k<|am k k<|cm k4<|am k k<|kI h (λq18 h=>aH 94 k q18<|aK k4<|aK k4<|ak k k<|pk k3<|pk k3<|an<|tn<|aN (t:=mN [(0,.list 1 (a0.map eU)),(101,.bl true)] [] 13) (bO (bN k2) aR k4)<|dO k k<|sR<|aT k2<|aG<|aM<|kD h k2) λq18 h=>?_;refine aH 94 k q18<|lp k8<|lp k8<|oB h λv19 hv19 h=>ae (aS (aKt v13.1 v14.1 v19 hv19) k (aX (vaR k8) (aX (vaR k8) aU))) k<|am k k<|cm k4<|pk k3<|pk k3<|an<|tn<|aN (t:=mN [(0,.list 1 (a0.map eU)),(101,.bl (!decide (v19=v5)))] [] 13) (bO (bN k2) aR k4)<|dC k h (λ_ h=>sR<|aT k2<|aG<|aM<|kD h k2) λ_ h=>?_
  rotate_left
  refine aH 88 k q16<|aK k4<|aK k4<|aK k4<|aK k4<|aK k4<|aK k4<|pk k3<|an<|tn<|aN (t:=mN [(0,.list 1 (a0.map eU)),(101,.bl false)] [] 13) (bO (bN k2) aR k4)<|fK k k ?_
  rotate_left
  refine aH 85 k q15<|ak k k<|pk k3<|am k k<|aK k4<|aK k4<|aK k4<|aK k4<|aK k4<|aK k4<|pk k3<|an<|tn<|aN (t:=mN [(0,.list 1 (a0.map eU)),(101,.bl false)] [] 13) (bO (bN k2) aR k4)<|fK k k ?_
  all_goals
   unfold kR at h
   refine aI<|tn<|sR<|am k k<|oB h λv21 hv21 h=>ae (cQ (aDH a0 v21 hv21) k3 (dF k aU)) k<|ae (cB aL k k) k<|ae (ws k) k<|an<|tn<|sQ<|aN (vP (b:=15) (b':=13) (i:=0) (j:=1) (es':=v21.src.map eI) k k k k (aAx cW k k))<|aN (vP (b:=15) (b':=14) (i:=0) (j:=2) (es':=v21.tgt.map eI) k k k k (aAx cW k k))<|rg<|lp k8<|oB h λv22 hv22 h=>ae (cT aV (aBJ v21 v22 hv22) k3 (aX (iL k) aU)) k<|am k k<|ae (aW k k (by intro _ h;cases h)) k<|ae (aW k k (by intro _ h;cases h)) k<|aa k k<|aT k2<|sR<|lp k8<|oB h λv23 hv23 h=>ae (cT aV (xB v21 v23 hv23) k3 (aX (iL k) aU)) k<|am k k<|ae (aW k k (by intro _ h;cases h)) k ?_
   refine ae (aW k k (by intro _ h;cases h)) k<|aa k k<|aT k2<|sR<|lp k8<|oB h λv24 hv24 h=>ae (cZ (σ:=sg []) (σ':=sg [(18,0)]) (touch:=[]) (news:=[18]) (hl2:=[(18,⟨1,v24.1.map (bU 1 eI)⟩)]) (n':=19) (r2:= .tuple [.own 18 0 v24.1.length,.bl v24.2]) (iA v21 v24 hv24) k k ⟨_,_,k,(.inl ⟨_,_,k,k,⟨_,_,k,⟨k,k⟩,⟨_,_,k,⟨k,k⟩,k⟩⟩⟩),k⟩ aR k k k ⟨⟨_,k,k,.inl ⟨k,aV.plainE _⟩⟩,k,aR⟩ k (.inr ⟨_,_,k,k,⟨_,_,k,⟨k,k,(by simp only [aO,lA,lT,lR,lC,lN]),k⟩,⟨_,_,k,k,k⟩⟩⟩) k ⟨k,aV.tamdE _ _,aR⟩ k k) k<|am k k<|ae (aW k k (by intro _ h;cases h)) k<|ae (aW k k (by intro _ h;cases h)) k<|aa k k<|aT k2<|aN (t:=mN [(0,.list 1 (a0.map eU)),(12,.ptr 15 0 0),(13,.own 16 0 v22.1.length),(14,.bl v22.2),(15,.own 17 0 v23.1.length),(16,.bl v23.2),(17,.own 18 0 v24.1.length)] [(15,⟨3,[eQ v21]⟩),(16,⟨1,v22.1.map (ow (bU 1 eI))⟩),(17,⟨1,v23.1.map (ow (bU 1 eI))⟩),(18,⟨1,v24.1.map (bU 1 eI)⟩)] 19) (bO (bN k2) (bS k<|cF (aV.plainO _) k<|cF (aV.plainO _) k<|cF (aV.plainE _) k<|aR) k4)<|sQ<|sQ<|aQ fW<|am k k<|am k k<|ae (aJK (by kernel_rfl) k k) k<|am k k<|kI h (λq25 h=>aH 122 k q25<|aK k4<|aK k4<|pk k3<|am k k<|aK k4<|aK k4<|ak k k<|pk k3<|an<|nH (by kernel_rfl)<|tn<|dO k k<|sR<|aT k2<|aG<|aM<|kD h k2) λq25 h=>?_
   refine aH 122 k q25<|am k k<|am k k<|oB h λv26 hv26 h=>ae (aS (aHh v22.1 v23.1 v26 hv26) k (aX (aCM aV k k) (aX (aCM aV k k) aU))) k<|ae (fB k) k<|pk k3<|am k k<|kI h (λq27 h=>aH 128 k q27<|aK k4<|aK k4<|ak k k<|pk k3<|an<|nH (by kernel_rfl)<|tn<|dO k k<|sR<|aT k2<|aG<|aM<|kD h k2) λq27 h=>?_
   refine aH 128 k q27<|lp k8<|oB h λv28 hv28 h=>ae (aS (aEo v21 v28 hv28) k (aX (iL k) aU)) k<|lp k8<|oB h λv29 hv29 h=>ae (aS (aEm v21 v29 hv29) k (aX (iL k) aU)) k<|cm k4<|pk k3<|an<|nH (by kernel_rfl)<|tn<|dC k h (λ_ h=>sR<|aT k2<|aG<|aM<|kD h k2) λ_ h=>?_
   refine aI<|tn<|sQ<|sR<|aT k2<|aE<|oB h λy44 hy44 h=>cH (body:=(gG v21 v23 v24)) hy44 (λ(x1:Int)=>mN [(0,.list 1 (a0.map eU)),(12,.ptr 0 0 0),(15,.own 1 0 v23.1.length),(17,.own 2 0 v24.1.length),(19,.int x1)] [(0,⟨3,[eQ v21]⟩),(1,⟨1,v23.1.map (ow (bU 1 eI))⟩),(2,⟨1,v24.1.map (bU 1 eI)⟩)] 3) (λr e t=>Sum.elim (λa=>(λr e t=>e= .exit 0/\Ent t (mN [(0,.list 1 (a0.map eU))] [] 0)) a e t) (λb=>(λr e t=>e= .ret/\uI TT [.tmp 2] (.bl r) .ret t) b e t) r) (kE [15,17,18] (bN k2) (bS k<|cF (aV.plainO _) k<|cF (aV.plainE _) k<|aR) k4) ?_ ?_
   ·intro x1 o h
    refine sQ<|sR<|am k k<|am k k<|ae (cN aL k k k k) k<|cm k4<|an<|tn<|dC k h (λ_ h=>?_) λ_ h=>bA<|aB<|aB<|sp h ⟨_,k,k,(bO (bN k2) aR k4)⟩
    refine aI<|tn<|sQ<|aE<|sR<|ae (wl k) k<|aT k2<|aN (t:=mN [(0,.list 1 (a0.map eU)),(12,.ptr 0 0 0),(15,.own 1 0 v23.1.length),(17,.own 2 0 v24.1.length),(19,.int x1),(20,.own 3 0 (([]:aD).length))] [(0,⟨3,[eQ v21]⟩),(1,⟨1,v23.1.map (ow (bU 1 eI))⟩),(2,⟨1,v24.1.map (bU 1 eI)⟩),(3,⟨1,List.map (ow (bU 1 eI)) ([]:aD)⟩)] 4) (bO (pP 5 k2 (mO ⟨_,k,⟨k,k,(by simp only [aO,lA,lT,lR,lC,lN]),k⟩⟩ aR)) (bS k<|cF (aV.plainO _) k<|cF (aV.plainE _) k<|cF (aV.plainO _) k<|aR) k4)<|sQ<|sR<|aT k2<|aE<|oB h λy38 hy38 h=>cH (body:=(mM v23 v24 x1)) hy38 (λ(x2:(aD×Int))=>mN [(0,.list 1 (a0.map eU)),(12,.ptr 0 0 0),(15,.own 1 0 v23.1.length),(17,.own 2 0 v24.1.length),(19,.int x1),(20,.own 3 0 x2.1.length),(21,.int x2.2)] [(0,⟨3,[eQ v21]⟩),(1,⟨1,v23.1.map (ow (bU 1 eI))⟩),(2,⟨1,v24.1.map (bU 1 eI)⟩),(3,⟨1,x2.1.map (bU 1 eI)⟩)] 4) (λr e t=>e= .exit 2/\Ent t (mN [(0,.list 1 (a0.map eU)),(12,.ptr 0 0 0),(15,.own 1 0 v23.1.length),(17,.own 2 0 v24.1.length),(19,.int x1),(20,.own 3 0 r.length)] [(0,⟨3,[eQ v21]⟩),(1,⟨1,v23.1.map (ow (bU 1 eI))⟩),(2,⟨1,v24.1.map (bU 1 eI)⟩),(3,⟨1,r.map (bU 1 eI)⟩)] 4)) (bO (bN k2) (bS k<|cF (aV.plainO _) k<|cF (aV.plainE _) k<|cF (aV.plainE _) k<|aR) k4) ?_ ?_
    ·intro x2 o h
     exact sQ<|sR<|am k k<|am k k<|am k k<|oB h λv32 hv32 h=>ae (xo hv32 k) k<|ae (wp hv32 k) k<|ln k4<|cm k4<|an<|tn<|dC k h (λ_ h=>aI<|tn<|sQ<|aE<|rg<|am k k<|am k k<|am k k<|am k k<|oB h λv34 hv34 h=>ae (xo hv34 k) k<|ae (wp hv34 k) k<|am k k<|oB h λv35 hv35 h=>ae (xl hv35 k) k<|lr k7<|oB h λv36 hv36 h=>ae (xo hv36 k) k<|ae (wp hv36 k) k<|ae (wl k) k<|cG h λq37 h=>ae (AEff.conv (kZ aL (e:=(bU 1 eI)) (l:=x2.1) (c:=[.list 1 (v36.map eI)]) q37 k k k k k k k k k k k k k k) (v':= .own 5 0 (x2.1++[v36]).length) (ed':=[(3,none),(5,some ⟨1,List.map (bU 1 eI) (x2.1++[v36])⟩)]) (by simp only [List.length_append,List.length_cons,List.length_nil]) (by rw [show List.map (bU 1 eI) (x2.1++[v36])=List.map (bU 1 eI) x2.1++[[.list 1 (v36.map eI)]] from List.map_append])) k<|aa k k<|an<|aZ<|tn<|rg<|am k k<|ae (bJ k k) k<|aT k2<|sp h ⟨_,k,(kE [0,1,2,5] (bN k2) (bS k<|cF (aV.plainO _) k<|cF (aV.plainE _) k<|cF (aV.plainE _) k<|aR) k4)⟩) λ_ h=>bA<|aB<|aB<|sp h ⟨_,k,k,(bO (bN k2) (bS k<|cF (aV.plainO _) k<|cF (aV.plainE _) k<|cF (aV.plainE _) k<|aR) k4)⟩
    ·rintro e t ⟨rfl,hent⟩
     exact aP<|tn<|aN hent<|sR<|am k k<|oB h λv39 hv39 h=>ae (aS (aEF y38 v39 hv39) k (aX (aHq aV k k) aU)) k<|aT k2<|sR<|lp k8<|am k k<|oB h λv40 hv40 h=>ae (aS (yT v21 y38 v40 hv40) k (aX (iL k) (aX (aHq aV k k) aU))) k<|ae (fB k) k<|am k k<|kI h (λq41 h=>aH 170 k q41<|aK k4<|aK k4<|aK k4<|pk k3<|an<|tn<|dO k k<|sR<|aT k2<|aG<|bX<|aM<|aM<|sp h ⟨_,k,k,cA k k k (qM k)⟩) λq41 h=>aH 170 k q41<|am k k<|cm k4<|am k k<|kI h (λq42 h=>aH 173 k q42<|am k k<|cm k4<|pk k3<|pk k3<|an<|tn<|dC k h (λ_ h=>sR<|aT k2<|aG<|bX<|aM<|aM<|sp h ⟨_,k,k,cA k k k (qM k)⟩) λ_ h=>aI<|aZ<|tn<|rg<|am k k<|ae (bJ k k) k<|aT k2<|sp h ⟨_,k,(bO (bN k2) (bS k<|cF (aV.plainO _) k<|cF (aV.plainE _) k<|aR) k4)⟩) λq42 h=>aH 173 k q42<|aK k4<|pk k3<|pk k3<|an<|tn<|fK k k<|aI<|aZ<|tn<|rg<|am k k<|ae (bJ k k) k<|aT k2<|sp h ⟨_,k,(bO (bN k2) (bS k<|cF (aV.plainO _) k<|cF (aV.plainE _) k<|aR) k4)⟩
   ·intro e t hX
    rcases y44 with y45|y63
    ·obtain ⟨rfl,hent⟩:=hX
     refine aP<|tn<|aN hent<|sR<|am k k<|oB h λv46 hv46 h=>ae (cZ (σ:=sg []) (σ':=sg [(0,1)]) (touch:=[]) (news:=[0]) (hl2:=[(0,⟨1,v46.2.2.2.map (ow eI)⟩)]) (n':=1) (r2:= .tuple [.agg [.int v46.1,.list 1 (v46.2.1.map eI),.list 1 (v46.2.2.1.map eI)],.own 0 0 v46.2.2.2.length]) (aDU a0 v46 hv46) k k ⟨_,_,k,(.inl ⟨k,k⟩),k⟩ aR k k k ⟨⟨_,k,k,.inl ⟨k,cW.plainO _⟩⟩,k,aR⟩ k (.inr ⟨_,_,k,k,⟨_,_,k,⟨_,_,k,k,⟨_,_,k,⟨k,k⟩,⟨_,_,k,⟨k,k⟩,k⟩⟩⟩,⟨_,_,k,⟨k,k,(by simp only [aO,lA,lT,lR,lC,lN]),k⟩,k⟩⟩⟩) k ⟨k,cW.tamd _ _,aR⟩ k k) k<|am k k<|ae (aW k k (by intro _ h;cases h)) k<|ae (aW k k (by intro _ h;cases h)) k<|ae (cB aL k k) k<|ae (ws k) k<|aT k2<|sQ<|aN (aJt (t:=24) (d:= .list 1 (v46.2.2.2.map eI)) [0] k (aAx cW k k) k k)<|rg<|lp k8<|am k k<|oB h λv47 hv47 h=>ae (cT cW (aGX (⟨v46.1,v46.2.1,v46.2.2.1⟩:Qv) v46.2.2.2 v47 hv47) k3 (aX (iL k) (dF k aU))) k<|am k k<|ae (aW k k (by intro _ h;cases h)) k<|ae (aW k k (by intro _ h;cases h)) k<|aa k k<|aT k2<|sR ?_
     refine lp k8<|am k k<|oB h λv48 hv48 h=>ae (cZ (σ:=sg []) (σ':=sg []) (touch:=[]) (news:=[]) (hl2:=[]) (n':=3) (r2:= .tuple [.list 1 (v48.1.map eI),.bl v48.2]) (aGL (⟨v46.1,v46.2.1,v46.2.2.1⟩:Qv) v46.2.2.2 v48 hv48) k k ⟨_,_,k,(.inl ⟨_,_,k,k,⟨_,_,k,⟨k,k⟩,⟨_,_,k,⟨k,k⟩,k⟩⟩⟩),⟨_,_,k,(.inl ⟨k,k⟩),k⟩⟩ aR k k k aR k (.inr ⟨_,_,k,k,⟨_,_,k,⟨k,k⟩,⟨_,_,k,k,k⟩⟩⟩) k aR k k) k<|am k k<|ae (aW k k (by intro _ h;cases h)) k<|ae (aW k k (by intro _ h;cases h)) k<|aa k k<|aT k2<|aN (t:=mN [(0,.list 1 (a0.map eU)),(23,.ptr 1 0 0),(24,.list 1 (v46.2.2.2.map eI)),(25,.own 2 0 v47.1.length),(26,.bl v47.2),(27,.list 1 (v48.1.map eI)),(28,.bl v48.2)] [(1,⟨3,[[.int v46.1,.list 1 (v46.2.1.map eI),.list 1 (v46.2.2.1.map eI)]]⟩),(2,⟨1,v47.1.map (ow eI)⟩)] 3) (bO (bN k2) (bS k<|cD k<|aR) k4)<|sQ<|sR<|am k k<|am k k<|ae (aJK (by kernel_rfl) k k) k<|am k k<|kI h (λq49 h=>aH 198 k q49<|aK k4<|aK k4<|pk k3<|am k k<|aK k4<|aK k4<|aK k4<|aK k4<|aK k4<|pk k3<|an<|tn<|dO k k<|sR<|aT k2<|aG<|aM<|kD h k2) λq49 h=>?_
     refine aH 198 k q49<|am k k<|am k k<|oB h λv50 hv50 h=>ae (aS (aDQ v47.1 v48.1 v50 hv50) k (vcT k k (dF k aU))) k<|ae (fB k) k<|pk k3<|am k k<|kI h (λq51 h=>aH 204 k q51<|aK k4<|aK k4<|aK k4<|aK k4<|aK k4<|pk k3<|an<|tn<|dO k k<|sR<|aT k2<|aG<|aM<|kD h k2) λq51 h=>?_
     refine aH 204 k q51<|am k k<|lp k8<|oB h λv52 hv52 h=>ae (aS (aAS (⟨v46.1,v46.2.1,v46.2.2.1⟩:Qv) v52 hv52) k (aX (iL k) aU)) k<|cm k4<|am k k<|kI h (λq53 h=>?_) λq53 h=>?_
     ·refine aH 209 k q53<|lp k8<|am k k<|oB h λv54 hv54 h=>ae (aS (xS (⟨v46.1,v46.2.1,v46.2.2.1⟩:Qv) v46.2.2.2 v54 hv54) k (aX (iL k) (dF k aU))) k<|pk k3<|ae (aJK (by kernel_rfl) k k) k<|pk k3<|an<|tn<|dC k h (λ_ h=>sR<|aT k2<|aG<|aM<|kD h k2) λ_ h=>?_
      refine aI<|tn<|sR<|am k k<|oB h λv56 hv56 h=>ae (cZ (σ:=sg []) (σ':=sg [(3,1)]) (touch:=[]) (news:=[3]) (hl2:=[(3,⟨1,v56.1.map (bU 1 eI)⟩)]) (n':=4) (r2:= .tuple [.agg [.int v56.2.1,.list 1 (v56.2.2.1.map eI),.list 1 (v56.2.2.2.map eI)],.own 3 0 v56.1.length]) (aAB a0 v56 hv56) k k ⟨_,_,k,(.inl ⟨k,k⟩),k⟩ aR k k k ⟨⟨_,k,k,.inl ⟨k,aV.plainE _⟩⟩,k,aR⟩ k (.inr ⟨_,_,k,k,⟨_,_,k,⟨_,_,k,k,⟨_,_,k,⟨k,k⟩,⟨_,_,k,⟨k,k⟩,k⟩⟩⟩,⟨_,_,k,⟨k,k,(by simp only [aO,lA,lT,lR,lC,lN]),k⟩,k⟩⟩⟩) k ⟨k,aV.tamdE _ _,aR⟩ k k) k<|am k k<|ae (aW k k (by intro _ h;cases h)) k<|ae (aW k k (by intro _ h;cases h)) k<|ae (cB aL k k) k<|ae (ws k) k<|aT k2<|aN (t:=mN [(29,.ptr 4 0 0),(30,.own 3 0 v56.1.length)] [(3,⟨1,v56.1.map (bU 1 eI)⟩),(4,⟨3,[[.int v56.2.1,.list 1 (v56.2.2.1.map eI),.list 1 (v56.2.2.2.map eI)]]⟩)] 5) (bO (bN k2) (cF (aV.plainE _) k<|bS k<|aR) k4)<|sQ<|aQ fW<|lp k8<|am k k<|oB h λv57 hv57 h=>ae (aS (yT (⟨v56.2.1,v56.2.2.1,v56.2.2.2⟩:Qv) v56.1 v57 hv57) k (aX (iL k) (aX (aHq aV k k) aU))) k<|lp k8<|am k k<|oB h λv58 hv58 h=>ae (aS (aCX (⟨v56.2.1,v56.2.2.1,v56.2.2.2⟩:Qv) v56.1 v58 hv58) k (aX (iL k) (aX (aHq aV k k) aU))) k<|ae (aXM (by kernel_rfl) k k) k<|aa k k<|an<|nH (by kernel_rfl)<|tn<|aG ?_
      exact kD h k2
     ·refine aH 209 k q53<|aK k4<|ak k k<|pk k3<|ae (aJK (by kernel_rfl) k k) k<|pk k3<|an<|tn<|dC k h (λ_ h=>sR<|aT k2<|aG<|aM<|kD h k2) λ_ h=>?_
      refine aI<|tn<|sR<|am k k<|oB h λv60 hv60 h=>ae (cZ (σ:=sg []) (σ':=sg [(3,1)]) (touch:=[]) (news:=[3]) (hl2:=[(3,⟨1,v60.1.map (bU 1 eI)⟩)]) (n':=4) (r2:= .tuple [.agg [.int v60.2.1,.list 1 (v60.2.2.1.map eI),.list 1 (v60.2.2.2.map eI)],.own 3 0 v60.1.length]) (aAB a0 v60 hv60) k k ⟨_,_,k,(.inl ⟨k,k⟩),k⟩ aR k k k ⟨⟨_,k,k,.inl ⟨k,aV.plainE _⟩⟩,k,aR⟩ k (.inr ⟨_,_,k,k,⟨_,_,k,⟨_,_,k,k,⟨_,_,k,⟨k,k⟩,⟨_,_,k,⟨k,k⟩,k⟩⟩⟩,⟨_,_,k,⟨k,k,(by simp only [aO,lA,lT,lR,lC,lN]),k⟩,k⟩⟩⟩) k ⟨k,aV.tamdE _ _,aR⟩ k k) k<|am k k<|ae (aW k k (by intro _ h;cases h)) k<|ae (aW k k (by intro _ h;cases h)) k<|ae (cB aL k k) k<|ae (ws k) k<|aT k2<|aN (t:=mN [(29,.ptr 4 0 0),(30,.own 3 0 v60.1.length)] [(3,⟨1,v60.1.map (bU 1 eI)⟩),(4,⟨3,[[.int v60.2.1,.list 1 (v60.2.2.1.map eI),.list 1 (v60.2.2.2.map eI)]]⟩)] 5) (bO (bN k2) (cF (aV.plainE _) k<|bS k<|aR) k4)<|sQ<|aQ fW<|lp k8<|am k k<|oB h λv61 hv61 h=>ae (aS (yT (⟨v60.2.1,v60.2.2.1,v60.2.2.2⟩:Qv) v60.1 v61 hv61) k (aX (iL k) (aX (aHq aV k k) aU))) k<|lp k8<|am k k<|oB h λv62 hv62 h=>ae (aS (aCX (⟨v60.2.1,v60.2.2.1,v60.2.2.2⟩:Qv) v60.1 v62 hv62) k (aX (iL k) (aX (aHq aV k k) aU))) k<|ae (aXM (by kernel_rfl) k k) k<|aa k k<|an<|nH (by kernel_rfl)<|tn<|aG ?_
      exact kD h k2
    ·obtain ⟨rfl,hent⟩:=hX
     exact bX<|aM<|sp h hent
end
section
theorem aFY {a b:aA} (h:bI a):tA a b=some (decide (a=b)):=by
 unfold bI at h;exact aMk (body:=xF a b) (by omega) rfl
theorem aPV {a:aD} (hl:a.length<=1048576) (h: ∀ r∈a,bI r):rG a a=some true:=by
 unfold rG;rw [bK rfl,eP,aY,yK (n:=a.length) (λ_=>true) false (by omega) (λk hk=>?_) (λ_=>?_),aC]
 ·rw [show ((List.range a.length).all λ_=>true)=true from List.all_eq_true.2 λ_ _=>rfl];rfl
 ·unfold qL;rw [kC hk,aJ,tS [] hk,aC,aC,aFY (h _ (iH [] hk)),bK rfl,aC];rfl
 ·unfold qL;rw [lM (bP _),aY]
def Dr (q:Qv):Prop:= ∀ n,QOk q n->aHY n (nL q.src) (nL q.tgt)=true
theorem aVh {q:Qv} (h:q∈nmQ):Dr q:=λn Q=>by
 have:=aYs q h
 rwa [show q.n.toNat=n by have:=Q.n0;omega] at this
theorem aXm {q:Qv} {n m:Nat} (hm:1<=m/\m<=4) (h:Up n q.src q.tgt) (hb: ∀ x∈q.tgt,x<m) (e: ∀ k,QOk q k->k=m):Dr q:=λk Q=>by
 have:=e k Q;subst this;obtain ⟨g1,g2,g3⟩:=h;refine aYr hm.1 hm.2 (by rw [aED,aED];exact g1) (by rw [aED];exact g2) λi hi=>?_;rw [aED] at hi;obtain ⟨u1,u2,u3⟩:=g3 i hi;have:=hb _ (iH 0 (show i<q.tgt.length by omega));rw [aAU,aAU];omega
theorem nm2: ∀ q∈nmQ.take 10,(!(q.src.all (λx=>decide (x<2))&&q.tgt.all (λx=>decide (x<2)))||aHY 2 (nL q.src) (nL q.tgt))=true:=by decide+kernel
theorem aYw: ∀ q∈nmQ.take 10,q.src.length=q.tgt.length:=by decide
section
variable {b:aA} {i:Int} (hb:b.length<=1048576) (hi:Cok b i) (h:Int)
include hb hi
theorem bAA: ∃ (i' h':Int) (q:Qv),uX ⟨b,i,h⟩=some (i',h',q.n,q.src,q.tgt)/\Cok b i'/\q.src.length<=5/\q.tgt.length<=5/\Dr q:=by
 unfold uX;obtain ⟨i1,h1,q,e1,k1,hq⟩:=aPU hb hi h;rw [e1,aC];obtain ⟨i2,h2,x,e2,k2,x0,x1,_⟩:=vG hb k1 h1 (n:=14) (by omega);simp only;rw [e2,aC];simp only;have hsm: ∀ q∈nmQ,q.src.length<=4/\q.tgt.length<=4:=by decide
 have hlen:q.src.length<=4/\q.tgt.length<=4:=by
  rcases hq with hq|⟨n,_,_,_,hU⟩
  ·exact hsm q (List.mem_of_mem_take hq)
  ·exact ⟨hU.2.1,by rw [←hU.1];exact hU.2.1⟩
 by_cases c:x=0
 ·rw [bK c,aJ];obtain ⟨i3,h3,s,e3,k3,hs⟩:=aMJ hb k2 h2 (l:=[(⟨#[108,111,111,112]⟩:ByteArray),(⟨#[99,105,114,99,108,101]⟩:ByteArray)]) (by simp) (by simp);rw [e3,aC];simp only;obtain ⟨q',hq',e4⟩:=aHg (s:=s) (by simp only [dH,List.not_mem_nil,or_false] at hs;rcases hs with rfl|rfl <;> simp [nmL]);rw [e4,aC];have:=hsm q' hq';exact ⟨_,_,q',rfl,k3,by omega,by omega,aVh hq'⟩
 ·rw [cR c,aY];by_cases c2:x=1
  ·rw [bK c2,aJ];obtain ⟨i3,h3,z,e3,k3,hz⟩:=aPT hb k2 h2 (l:=[0,6,(-1),2]) (by simp) (by simp);rw [e3,aC];refine ⟨_,_,⟨z,q.src,q.tgt⟩,rfl,k3,by simp only;omega,by simp only;omega,λn Q=>?_⟩;have q0:z=n:=Q.n0;have q1:=Q.n1;have q5:=Q.n5;simp only [dH,List.not_mem_nil,or_false] at hz;have hn:n=2:=by omega
   subst hn;have hS: ∀ x∈q.src,0<=x/\x<2:=Q.src;have hT: ∀ x∈q.tgt,0<=x/\x<2:=Q.tgt;show aHY 2 (nL q.src) (nL q.tgt)=true;rcases hq with hq|⟨m,_,_,_,hU⟩
   ·have:=nm2 q hq;rw [show q.src.all (λx=>decide (x<2))=true from List.all_eq_true.2 λx hx=>bK (hS x hx).2,show q.tgt.all (λx=>decide (x<2))=true from List.all_eq_true.2 λx hx=>bK (hT x hx).2] at this;simpa using this
   ·exact aXm (q:=⟨z,q.src,q.tgt⟩) (n:=m) (m:=2) (by omega) hU (λx hx=>(hT x hx).2) (λk K=>by have k0:z=(k:Int):=K.n0;omega) 2 Q
  ·rw [cR c2,aY];by_cases c3:x=2
   ·rw [bK c3,aJ];obtain ⟨i3,h3,z,e3,k3,_⟩:=vG hb k2 h2 (n:=6) (by omega);rw [e3,aC];simp only;rw [bK (by simp;omega),aJ];refine ⟨_,_,⟨q.n,q.src++[_],q.tgt⟩,rfl,k3,by simp;omega,by simp only;omega,λn Q=>?_⟩;exfalso;have:=Q.eq;simp only [List.length_append,List.length_cons,List.length_nil] at this;rcases hq with hq|⟨m,_,_,_,hU⟩
    ·have:=aYw q hq;omega
    ·have:=hU.1;omega
   ·rw [cR c3,aY];refine ⟨_,_,q,rfl,k2,by omega,by omega,?_⟩;rcases hq with hq|⟨m,m1,m4,m0,hU⟩
    ·exact aVh (List.mem_of_mem_take hq)
    ·refine aXm (n:=m) (m:=m) ⟨m1,m4⟩ hU (λx hx=>?_) λk K=>by have:=K.n0;omega
     obtain ⟨k,hk,rfl⟩:=List.getElem_of_mem hx;have:=(hU.2.2 k (by have:=hU.1;omega)).2.2
     rwa [fP hk] at this
theorem aVi: ∃ (i' h':Int) (q:Qv),uZ ⟨b,i,h⟩=some (i',h',q.n,q.src,q.tgt)/\Cok b i'/\bQ q/\Dr q:=by
 unfold uZ;obtain ⟨i1,h1,t,e1,k1⟩:=aRr hb hi h (n:=6) (by omega);rw [e1,aC];cases t with
 |true=>
  simp only [aJ];obtain ⟨i2,h2,q,e2,k2,l1,l2,hD⟩:=bAA hb k1 h1;rw [e2,aC];exact ⟨_,_,q,rfl,k2,⟨by unfold bI;omega,by unfold bI;omega,trivial⟩,hD⟩
 |false=>
  simp only [aY];obtain ⟨i2,h2,s,e2,k2,hs⟩:=aMJ hb k1 h1 (l:=nmL.take 7) (by simp [nmL]) (by simp [nmL]);rw [show ([(⟨#[65,49]⟩:ByteArray),(⟨#[65,50]⟩:ByteArray),(⟨#[65,51]⟩:ByteArray),(⟨#[65,51,105,110]⟩:ByteArray),(⟨#[65,52]⟩:ByteArray),(⟨#[68,52]⟩:ByteArray),(⟨#[68,53]⟩:ByteArray)]:List ByteArray)=nmL.take 7 from rfl,e2,aC];obtain ⟨q,hq,e3⟩:=aHg (List.mem_of_mem_take hs);simp only;rw [e3,aC];have hsm: ∀ q∈nmQ,q.src.length<=4/\q.tgt.length<=4:=by decide
  have:=hsm q hq;exact ⟨_,_,q,rfl,k2,⟨by unfold bI;omega,by unfold bI;omega,trivial⟩,aVh hq⟩
theorem bAB {q:Qv} (hq:bQ q): ∃ (i' h':Int) (x:aA),rC ⟨b,i,h⟩ q=some (i',h',x)/\Cok b i'/\x.length<=5:=by
 unfold rC;obtain ⟨L,t,_,e,hL⟩:=aKM hq;rw [e,aC]
 have aIT: ∀ {i1:Int} (k1:Cok b i1) (h1:Int),∃ (i' h':Int) (x:aA),(Option.bind (pO ⟨b,i1,h1⟩ q 2) λv=>some (v.1,v.2.1,v.2.2))=some (i',h',x)/\Cok b i'/\x.length<=5:=λk1 h1=>by
  obtain ⟨i2,h2,d,e2,k2,l2,_⟩:=aXl hb k1 h1 q (most:=2) (by omega) (by omega);rw [e2,aC];exact ⟨_,_,_,rfl,k2,by simp only;omega⟩
 rcases hL with ⟨rfl,_⟩|⟨rfl,n,H,rfl⟩
 ·simp only [aY];exact aIT hi h
 ·simp only [aJ];obtain ⟨i1,h1,t,e1,k1⟩:=aRr hb hi h (n:=3) (by omega);rw [e1,aC];cases t with
  |true=>
   simp only [eP,aY];exact aIT k1 h1
  |false=>
   simp only [Bool.not_false,aJ];have hlen:=sI H;have hpos:0<(bC q n).length:=List.length_pos_of_mem ((jU H _).2 (aHW H (v:=0) (by have:=H.Q.n1;omega)));obtain ⟨i2,h2,x,e2,k2,x0,x1,_⟩:=vG hb k1 h1 (n:=((bC q n).length:Int)) (by omega);have x1:=x1 (by omega);rw [e2,aC];simp only;have hm:=iH (l:=bC q n) [] (k:=x.toNat) (by omega);have hr:=(H.vec ((jU H _).1 hm)).1.1;rw [atI [] x0 x1,aC,bK (by simp;omega),aJ];exact ⟨_,_,_,rfl,k2,by simpa using hr⟩
end
section
variable {c:aA} (hc:c.length<=1048576)
include hc
theorem aVj: ∃ (q:Qv) (x y:aA),sO c=some (q.n,q.src,q.tgt,x,y)/\bQ q/\Dr q/\x.length<=5/\y.length<=5:=by
 unfold sO aCA;obtain ⟨h0,e0⟩:=aXH c hc;rw [e0,aC];obtain ⟨i1,h1,q,e1,k1,hb,hD⟩:=aVi hc (c0 c) h0;rw [e1,aC];simp only;obtain ⟨i2,h2,x,e2,k2,lx⟩:=bAB hc k1 h1 hb;rw [e2,aC];simp only;obtain ⟨i3,h3,y,e3,k3,ly⟩:=bAB hc k2 h2 hb;rw [e3,aC];exact ⟨q,x,y,rfl,hb,hD,lx,ly⟩
def nmK:List Qv:=nmQ.take 5++[⟨2,[0,0],[1,1]⟩,⟨5,[0,1,2,3],[2,2,3,4]⟩]
def nmS:List ByteArray:=[⟨#[65,49]⟩,⟨#[65,50]⟩,⟨#[65,51]⟩,⟨#[65,51,105,110]⟩,⟨#[65,52]⟩,⟨#[75,50]⟩,⟨#[68,53]⟩]
omit hc in
theorem aVk {s:ByteArray} (h:s∈nmS): ∃ q,q∈nmK/\eG s=some (q,true)/\(s∈nmS.take 6->q∈nmK.take 6):=by
 simp only [nmS,dH,List.not_mem_nil,or_false] at h;rcases h with rfl|rfl|rfl|rfl|rfl|rfl|rfl
 ·exact ⟨_,by decide,aDJ (k:=0) (by omega),λ_=>by decide⟩
 ·exact ⟨_,by decide,aDJ (k:=1) (by omega),λ_=>by decide⟩
 ·exact ⟨_,by decide,aDJ (k:=2) (by omega),λ_=>by decide⟩
 ·exact ⟨_,by decide,aDJ (k:=3) (by omega),λ_=>by decide⟩
 ·exact ⟨_,by decide,aDJ (k:=4) (by omega),λ_=>by decide⟩
 ·exact ⟨_,by decide,aDJ (k:=7) (by omega),λ_=>by decide⟩
 ·exact ⟨_,by decide,aDJ (k:=6) (by omega),λh=>absurd h (by simp [nmS])⟩
omit hc in
theorem bAC: ∀ q∈nmK,q.src.length<=4/\q.tgt.length<=4:=by decide
omit hc in
theorem aVl {q:Qv} (h:q∈nmK):bQ q:=by
 have:=bAC q h;exact ⟨by unfold bI;omega,by unfold bI;omega,trivial⟩
theorem aVm: ∃ q,jY c=some q/\q∈nmK:=by
 unfold jY yY;obtain ⟨h0,e0⟩:=aXH c hc;rw [e0,aC];obtain ⟨i2,h2,s,e2,k2,hs⟩:=aMJ hc (c0 c) h0 (l:=nmS) (by simp [nmS]) (by simp [nmS]);obtain ⟨q,hq,e3,_⟩:=aVk hs;unfold nmS at e2;rw [e2,aC];simp only;rw [e3,aC];exact ⟨q,rfl,hq⟩
theorem aXI: ∃ (q:Qv) (x:aA),kL c=some (q.n,q.src,q.tgt,x)/\q∈nmK.take 6/\(x.length:Int)=max 0 (min q.n 5)/\ ∀ a∈x,0<=a/\a<=2:=by
 unfold kL;obtain ⟨h0,e0⟩:=aXH c hc;rw [e0,aC];obtain ⟨i2,h2,s,e2,k2,hs⟩:=aMJ hc (c0 c) h0 (l:=nmS.take 6) (by simp [nmS]) (by simp [nmS]);obtain ⟨q,hq,e3,hq6⟩:=aVk (List.mem_of_mem_take hs);rw [show nmS.take 6=[(⟨#[65,49]⟩:ByteArray),(⟨#[65,50]⟩:ByteArray),(⟨#[65,51]⟩:ByteArray),(⟨#[65,51,105,110]⟩:ByteArray),(⟨#[65,52]⟩:ByteArray),(⟨#[75,50]⟩:ByteArray)] from rfl] at e2;rw [e2,aC];simp only;rw [e3,aC];simp only;obtain ⟨i4,h4,d,e4,k4,l4,m4⟩:=aXl hc k2 h2 q (most:=2) (by omega) (by omega);rw [e4,aC];exact ⟨q,d,rfl,hq6 hs,l4,m4⟩
end
def aXn (a b:Rp):Nat:=nE a b - rkF a.p (nE a b) (nV a b) (mE a b)
theorem aQj {a b:Rp} (ha:bR a) (hb:bR b) (hf:aEB a b=true):vQ a b=some (aXn a b:Int):=by
 unfold vQ;rw [show yR a b=some (aEB a b) from aXV ha hb,aC,hf];have h:=aKQ hf;have bE:=h.offE (bP _);have hle:rkF a.p (nE a b) (nV a b) (mE a b)<=nE a b:=yN (nV a b);rw [eP,aY];unfold aBy;rw [aGC h,aC,aJh (aUY h),aC];have e:((cP a.p (nE a b) (mE a b) (nV a b)).2.length)=rkF a.p (nE a b) (nV a b) (mE a b):=rfl;simp only;rw [e,cU (by unfold nE at*;omega),aC];unfold aXn;congr 1;omega
theorem aVn {q:Qv} (hb:bQ q) {x:aA} (hx:bI x) {r:Rp} (h:iJ 2 q x=some (r,true)):jB q x=some true/\fU q x=some true:=by
 obtain ⟨cc,c1,c2,_⟩:=aBH hb x;cases cc with
 |true=>exact ⟨c1,c2⟩
 |false=>
  exfalso
  have e:iJ 2 q x=some (emR,false):=by
   unfold iJ;rw [aFv,c2,wX hb hx];simp only [aC];rfl
  rw [e] at h;simp at h
theorem aVo {q:Qv} (hb:bQ q) (hD:Dr q) {x y:aA} (hx:bI x) (hy:bI y) {r s:Rp} (h1:iJ 2 q x=some (r,true)) (h2:iJ 2 q y=some (s,true)):
  ∃ z w:Int,nY q x y=some z/\uA q x y=some z/\jQ q x y=some w/\jN q x y=some w/\vL r s=some z/\vQ r s=some w:=by
 obtain ⟨ix,_⟩:=aVn hb hx h1;obtain ⟨iy,_⟩:=aVn hb hy h2;obtain ⟨r',b1,e1,f1⟩:=aDD hb hx;rw [h1] at e1;simp only [Option.some.injEq,Prod.mk.injEq] at e1;obtain ⟨rfl,rfl⟩:=e1;obtain ⟨n,c,H,hR,dx,rfl,br,bx⟩:=f1 rfl;obtain ⟨s',b2,e2,f2⟩:=aDD hb hy;rw [h2] at e2;simp only [Option.some.injEq,Prod.mk.injEq] at e2;obtain ⟨rfl,rfl⟩:=e2;obtain ⟨m,d,H',hR',dy,rfl,bs,by'⟩:=f2 rfl;have hnm:n=m:=by have h1:=H.Q.n0;have h2:=H'.Q.n0;omega
 subst hnm;obtain ⟨g1,g2⟩:=aXB H (hD n H.Q) hR hR' dx dy bx by';obtain ⟨v1,v2⟩:=H.vec hR;obtain ⟨v3,v4⟩:=H.vec hR';have hbd:=aVA H.Q (x:=x) (y:=y) v1.sm v3.sm;have eu:=aCb H.Q v2 v4 v1.sm v3.sm;obtain ⟨z,z1,z2⟩:=aMD hb x y;obtain ⟨w,w1,w2⟩:=aEe hb x y
 have ez:nY q x y=some (max (eul q n x y) 0):=by
  unfold nY;rw [ix,iy];simp only [aC,eP,aY];rw [eu,aC]
 have ew:jQ q x y=some (max (-(eul q n x y)) 0):=by
  unfold jQ;rw [ix,iy];simp only [aC,eP,aY];rw [eu,aC,cU (by omega)]
 rw [ez,Option.some.injEq] at z1;rw [ew,Option.some.injEq] at w1;subst z1;subst w1
 have hf:aEB (wS q x c) (wS q y d)=true:=by
  have p1:aAg (wS q x c)=true:=aEC (p:=2) rfl dx (aKR _ _ _);have p2:aAg (wS q y d)=true:=aEC (p:=2) rfl dy (aKR _ _ _);unfold aEB;rw [p1,p2,show (wS q x c).p=(wS q y d).p from rfl,show (wS q x c).q=(wS q y d).q from rfl];simp
 refine ⟨_,_,ez,z2,ew,w2,?_,?_⟩
 ·rw [aTF br bs];unfold hdI;rw [bD hf,g1]
 ·rw [aQj br bs hf,←g2];rfl
theorem aXJ: ∀ q∈nmT,0<(aAM q q.n.toNat (bC q q.n.toNat) 8 [] 0).length/\(aAM q q.n.toNat (bC q q.n.toNat) 8 [] 0).length <=256:=by decide+kernel
theorem aMK {q:Qv} (h:q∈nmK):q∈nmT∨q=⟨2,[0,0],[1,1]⟩∨q=⟨5,[0,1,2,3],[2,2,3,4]⟩:=by
 unfold nmK nmQ at h;simp only [List.take_succ_cons,List.take_zero,List.cons_append,List.nil_append,dH,List.not_mem_nil,or_false] at h;unfold nmT;simp only [dH,List.not_mem_nil,or_false];rcases h with h|h|h|h|h|h|h
 ·exact .inl (.inl h)
 ·exact .inl (.inr (.inl h))
 ·exact .inl (.inr (.inr (.inl h)))
 ·exact .inl (.inr (.inr (.inr (.inl h))))
 ·exact .inl (.inr (.inr (.inr (.inr h))))
 ·exact .inr (.inl h)
 ·exact .inr (.inr h)
theorem aRs {q:Qv} (h:q∈nmK) {n:Nat} (H:Fin1 q n) (h4:n<=4):q∈nmT/\n=q.n.toNat:=by
 have h0:=H.Q.n0;refine ⟨?_,by omega⟩;rcases aMK h with h|rfl|rfl
 ·exact h
 ·exfalso;have hn:n=2:=by have:((2:Int))=n:=h0;omega
  subst hn;have:=H.F.pd;revert this;decide+kernel
 ·exfalso;have:((5:Int))=n:=h0;omega
theorem aVp {q:Qv} (h:q∈nmT) {w:aA} (hw:w∈aAM q q.n.toNat (bC q q.n.toNat) 8 [] 0):okW q q.n.toNat (bC q q.n.toNat) w=true:=List.all_eq_true.1 (aVa q h) w hw
theorem bAD: ∀ {d:aA},(∀ x∈d,0<=x/\x<=2)->d.sum<=2*d.length
 | [],_=>by simp
 |x::d,h=>by
  have h1:=h x (by simp);have h2:=bAD (d:=d) λy hy=>h y (by simp [hy]);simp only [List.sum_cons,List.length_cons];omega
theorem bAE: ∀ q∈nmT,1<=q.n/\q.n<=4:=by decide
section
variable {c:aA} (hc:c.length<=1048576)
include hc
theorem dL2 {q:Qv} {tt:Bool} {L:aD} (hL:0<L.length/\L.length<=256) (hn:q.n<=5) {i:Int} (ki:Cok c i) (h:Int): ∃ l,Lp (mA c (q,tt) (L,true)) (i,h,([]:aD),0)=some l/\(l.length<=5/\ ∀ r∈l,r∈L):=by
 refine aAZ (λs:Int×Int×aD×Int=>Cok c s.1/\(s.2.2.1.length:Int)=s.2.2.2/\s.2.2.2<=5/\ ∀ r∈s.2.2.1,r∈L) (λs=>(5 - s.2.2.2).toNat) (λl:aD=>l.length<=5/\ ∀ r∈l,r∈L) ⟨ki,rfl,(by decide:(0:Int)<=5),λr hr=>(by cases hr)⟩ ?_;rintro ⟨i1,h1,l,v⟩ ⟨k1,k2,k3,k4⟩;simp only at k1 k2 k3 k4;unfold mA;simp only;by_cases cc:v<q.n
 ·rw [bK cc,aJ,aJ];obtain ⟨i2,h2,x,e2,kk,x0,x1,_⟩:=vG hc k1 h1 (n:=(L.length:Int)) (by omega);have x1:=x1 (by omega);rw [e2,aC];simp only;rw [atI [] x0 x1,aC,bK (by omega),aJ,cU (x:=v+1) (by omega)];refine .inl ⟨_,rfl,⟨kk,by simp;omega,by simp only;omega,λr hr=>?_⟩,by simp only;omega⟩;rcases eH.1 hr with hr|hr
  ·exact k4 r hr
  ·rw [List.mem_singleton.1 hr];exact iH [] (by omega)
 ·rw [cR cc,aY];exact .inr ⟨_,rfl,by omega,k4⟩
omit hc in
theorem dL1 {L:aD} {tt:Bool} {w:aA} (hl:w.length<=1000) (hw: ∀ a∈w,0<=a/\a<L.length):Lp (iX (L,tt) w) (([]:aD),0)=some (rO L w):=by
 refine eX (λk=>((rO L w).take k,(k:Int))) w.length (by simp) (λk hk=>?_) (λ_=>?_)
 ·have ha:=hw _ (iH 0 hk);have hrl:(rO L w).length=w.length:=by unfold rO;rw [fE]
  unfold iX;simp only;rw [kC hk,aJ,tS 0 hk,aC,atI [] ha.1 ha.2,aC,bK (by simp;omega),aJ,cC hk (by omega)];congr 3;rw [List.take_add_one,fP (by omega)]
  have hb:w[k].toNat <L.length:=by
   rw [fP hk,kS] at ha;omega
  unfold rO lrT;simp [hk];rw [fP hb,kS]
 ·unfold iX;simp only;rw [lM (bP _),aY,List.take_of_length_le (by unfold rO;simp)]
theorem aQk: ∃ (l:aD) (q:Qv),lK c=some (l,q.n,q.src,q.tgt)/\bQ q/\l.length<=1048576/\ ∀ r∈l,bI r:=by
 unfold lK;obtain ⟨h0,e0⟩:=aXH c hc;rw [e0,aC];obtain ⟨i2,h2,s,e2,k2,hs⟩:=aMJ hc (c0 c) h0 (l:=[(⟨#[65,50]⟩:ByteArray),(⟨#[65,51]⟩:ByteArray),(⟨#[65,51,105,110]⟩:ByteArray),(⟨#[65,49]⟩:ByteArray),(⟨#[75,50]⟩:ByteArray)]) (by simp) (by simp)
 obtain ⟨q,hq,e3,_⟩:=aVk (s:=s) (by
  simp only [dH,List.not_mem_nil,or_false] at hs
  rcases hs with rfl|rfl|rfl|rfl|rfl <;> simp [nmS])
 rw [e2,aC];simp only;rw [e3,aC];simp only;have hb:=aVl hq
 have hn5:q.n<=5:=by
  have: ∀ q∈nmK,q.n<=5:=by decide
  exact this q hq
 obtain ⟨L,t,_,eL,hL⟩:=aKM hb;obtain ⟨W,tb,_,eW,_,_,hW⟩:=aRp hb;rw [eL,eW];simp only [aC];rcases hL with ⟨rfl,rfl⟩|⟨rfl,n,H,rfl⟩
 ·simp only [aY];rw [eC (r:=([]:aD)) (by unfold rE;simp only;by_cases cc:0<q.n <;> simp [cc]),aC];exact ⟨[],q,rfl,hb,by simp,by simp⟩
 ·simp only [aJ];have hlen:=sI H;have hpos:0<(bC q n).length:=List.length_pos_of_mem ((jU H _).2 (aHW H (v:=0) (by have:=H.Q.n1;omega)))
  have hrow: ∀ r∈bC q n,bI r:=λr hr=>by
   have:=(H.vec ((jU H r).1 hr)).1.1;unfold bI;omega
  cases htb:tb with
  |false=>
   simp only [aY];obtain ⟨l,el,l1,l2⟩:=dL2 hc (q:=q) (tt:=true) (L:=bC q n) ⟨hpos,by omega⟩ hn5 k2 h2;have el':Lp (rD c (q,true) (bC q n,true)) (i2,h2,([]:aD),0)=some l:=el;rw [el',aC];exact ⟨l,q,rfl,hb,by omega,λr hr=>hrow r (l2 r hr)⟩
  |true=>
   simp only [aJ];obtain ⟨i3,h3,t3,e4,k3⟩:=aRr hc k2 h2 (n:=3) (by omega);rw [e4,aC];simp only;cases t3 with
   |true=>
    simp only [eP,aY];obtain ⟨l,el,l1,l2⟩:=dL2 hc (q:=q) (tt:=true) (L:=bC q n) ⟨hpos,by omega⟩ hn5 k3 h3;rw [el,aC];exact ⟨l,q,rfl,hb,by omega,λr hr=>hrow r (l2 r hr)⟩
   |false=>
    simp only [Bool.not_false,aJ];rcases hW with ⟨_,hf⟩|⟨m,H',h4,hWe,_⟩
    ·rw [htb] at hf;cases hf
    ·have hnm:n=m:=by have h1:=H.Q.n0;have h2:=H'.Q.n0;omega
     subst hnm;obtain ⟨hT,hn⟩:=aRs hq H h4;have hl:=aXJ q hT;rw [←hn,←hWe] at hl;obtain ⟨i5,h5,x,e5,k5,x0,x1,_⟩:=vG hc k3 h3 (n:=(W.length:Int)) (by omega);have x1:=x1 (by omega);rw [e5,aC];simp only;have hm:=iH (l:=W) ([]:aA) (k:=x.toNat) (by omega);rw [atI [] x0 x1,aC];obtain ⟨w,hw⟩: ∃ w,w=W[x.toNat]?.getD []:=⟨_,rfl⟩;rw [←hw] at hm ⊢;have hok:=aVp hT (w:=w) (by rw [←hn,←hWe];exact hm);rw [←hn] at hok;obtain ⟨p1,p2,_,_⟩:=aCg hok;obtain ⟨q1,q2⟩:=aKU H hok;have h5':=H.Q.n5;rw [dL1 (by omega) p2,aC];exact ⟨_,q,rfl,hb,by omega,λr hr=>by have:=(H.vec (q2 r hr)).1.1;unfold bI;omega⟩
end
theorem aXK {W L:aD} {s tt:Bool} {j:Nat} (hj:j<W.length) (hl:(W[j]?.getD []).length <=1000) (hw: ∀ a∈W[j]?.getD [],0<=a/\a<L.length):Lp (mM (W,s) (L,tt) (j:Int)) (([]:aD),0)=some (rO L (W[j]?.getD [])):=by
 obtain ⟨w,ew⟩: ∃ w,w=W[j]?.getD []:=⟨_,rfl⟩;rw [←ew] at hl hw ⊢;have hat:cO W (j:Int)=some w:=by rw [ew];exact tS [] hj
 refine eX (λk=>((rO L w).take k,(k:Int))) w.length (by simp) (λk hk=>?_) (λ_=>?_)
 ·have ha:=hw _ (iH 0 hk);have hrl:(rO L w).length=w.length:=by unfold rO;rw [fE]
  unfold mM;simp only;rw [hat,aC,kC hk,aJ,aC,tS 0 hk,aC,atI [] ha.1 ha.2,aC,bK (by simp;omega),aJ,cC hk (by omega)];congr 3;rw [List.take_add_one,fP (by omega)]
  have hb:w[k].toNat <L.length:=by
   rw [fP hk,kS] at ha;omega
  unfold rO lrT;simp [hk];rw [fP hb,kS]
 ·unfold mM;simp only;rw [hat,aC,lM (bP _),aY,List.take_of_length_le (by unfold rO;simp)]
theorem aYx {q:Qv} {n:Nat} (H:Fin1 q n) (hp:bT q=some (bC q n,true)) {W:aD} {s:Bool} (hl:W.length<=160000) (hW: ∀ w∈W,okW q n (bC q n) w=true):Lp (gG q (W,s) (bC q n,true)) 0=some (.inl ()):=by
 rw [yK (n:=W.length) (λ_=>true) false (by omega) (λk hk=>?_) (λ_=>?_)]
 ·rw [show ((List.range W.length).all λ_=>true)=true from List.all_eq_true.2 λ_ _=>rfl];rfl
 ·have hok:=hW _ (iH [] hk);obtain ⟨p1,p2,_,p4⟩:=aCg hok;have h5:=H.Q.n5;unfold gG;simp only;rw [kC hk,aJ,aXK hk (by omega) p2,aC,aXG H hok,aC,aVd H hp hok,aC,eP,aY,aJ];rcases p4 with e|e
  ·rw [e,bK rfl,eP,aY]
  ·rw [e,cR (by decide),bK rfl,Bool.not_false,aJ,eP,aY]
 ·unfold gG;simp only;rw [lM (bP _),aY]
theorem aYy {q:Qv} {s:Bool} {P:aD×Bool} :Lp (gG q ([],s) P) 0=some (.inl ()):=by
 refine eC ?_;unfold gG;rfl
theorem aRt:(decide (aCa 2 (rB ⟨2,[0,0],[1,1]⟩ 2) (2 ^ 2 - 1) 1 1=1)|| !xJ ⟨2,[0,0],[1,1]⟩)=false:=by decide+kernel
theorem bAF:bQ ⟨2,[0,0],[1,1]⟩:=⟨by unfold bI;simp,by unfold bI;simp,trivial⟩
theorem bAG:QOk ⟨2,[0,0],[1,1]⟩ 2:=by
 have h:=aRt;rw [Bool.or_eq_false_iff,Bool.not_eq_false'] at h;obtain ⟨n,Q⟩:=qok bAF h.2;have hn:n=2:=by have:(2:Int)=n:=Q.n0;omega
 subst hn;exact Q
theorem bAH: ∃ k,k≠1/\fQ ⟨2,[0,0],[1,1]⟩=some k/\bT ⟨2,[0,0],[1,1]⟩=some ([],false):=by
 have h:=aRt;rw [Bool.or_eq_false_iff,decide_eq_false_iff_not] at h;refine ⟨_,h.1,yV bAG,?_⟩;unfold bT;rw [yV bAG,aC,cR h.1,Bool.not_false,aJ]
theorem aYz {x w:aA} {b:Bool} (h:fD ⟨2,[0,0],[1,1]⟩ x=some (w,b)):b=false:=by
 obtain ⟨k,_,_,hp⟩:=bAH
 have hd:eJ ⟨2,[0,0],[1,1]⟩ x=some ([],false):=by
  unfold eJ;rw [hp,aC];rfl
 unfold fD at h;rw [hp,aC,hd,aC,eC (r:= .inl ()) (by unfold eZ;rfl),aC] at h;have h2:(([]:aA),false)=(w,b):=Option.some.inj h;exact (congrArg Prod.snd h2).symm
theorem aTS {c:aA} (hc:c.length<=1048576): ∃ (q:Qv) (x w:aA) (b:Bool) (k:Int),kL c=some (q.n,q.src,q.tgt,x)/\jV q x=some (w,b)/\fD q x=some (w,b)/\tA w w=some true/\fQ q=some k/\((k=1/\b=true/\lD q x=some true)∨(k≠1/\b=false)):=by
 obtain ⟨q,x,e,hq,hl,h2⟩:=aXI hc
 have hk:q∈nmT∨q=⟨2,[0,0],[1,1]⟩:=by
  rcases aMK (List.mem_of_mem_take hq) with h|h|h
  ·exact .inl h
  ·exact .inr h
  ·subst h;revert hq;decide
 have hx:bI x:=by unfold bI;omega
 rcases hk with hk|rfl
 ·obtain ⟨H,hp,hkk⟩:=aNX hk;have hn:=bAE q hk;have hle:(x.length:Int)=q.n:=by omega
  have hd:rM q x=true:=by
   unfold rM;have hs:=bAD h2;simp only [cY,gR];refine ⟨H.Q.qv,hle,List.all_eq_true.2 λa ha=>aEz (h2 a ha).1 (by have:=(h2 a ha).2;omega),by omega⟩
  obtain ⟨w,b,g1,g2,g3⟩:=aPR H.Q.bq hx;have hbt:=aXF hk hle h2 hd g2;refine ⟨q,x,w,b,1,e,g1,g2,?_,hkk,.inl ⟨rfl,hbt,?_⟩⟩
  ·rw [aFY (by unfold bI;omega),bK rfl]
  ·rw [wX H.Q.bq hx,hd]
 ·obtain ⟨k,k1,k2,_⟩:=bAH;obtain ⟨w,b,g1,g2,g3⟩:=aPR bAF hx;refine ⟨_,x,w,b,k,e,g1,g2,?_,k2,.inr ⟨k1,aYz g2⟩⟩;rw [aFY (by unfold bI;omega),bK rfl]
theorem aTT {c:aA} (hc:c.length<=1048576): ∃ (q:Qv) (W:aD) (b:Bool) (P:aD×Bool) (k:Int),jY c=some q/\kP q=some (W,b)/\iP q=some (W,b)/\bT q=some P/\rG W W=some true/\qI q=some k/\qG q=some k/\Lp (gG q (W,b) P) 0=some (.inl ()):=by
 obtain ⟨q,e,hq⟩:=aVm hc;have hb:=aVl hq;obtain ⟨W,b,h1,h2,h3,h4,h5⟩:=aRp hb;obtain ⟨L,t,_,eL,_⟩:=aKM hb;refine ⟨q,W,b,(L,t),bif !b then -1 else (W.length:Int),e,h1,h2,eL,aPV (by omega) λr hr=>by have:=h4 r hr;unfold bI;omega,?_,?_,?_⟩
 ·unfold qI;rw [h1,aC];cases b <;> rfl
 ·unfold qG;rw [h2,aC];cases b <;> rfl
 ·rcases h5 with ⟨rfl,_⟩|⟨n,H,n4,hW,_⟩
  ·exact aYy
  ·obtain ⟨hT,hn⟩:=aRs hq H n4;subst hn;obtain ⟨_,hp,_⟩:=aNX hT;rw [hp] at eL;cases eL;exact aYx H hp h3 λw hw=>aVp hT (by rw [←hW];exact hw)
theorem aTU {c:aA} (hc:c.length<=1048576):kR c=some true:=by
 unfold kR;obtain ⟨⟨n1,s1,t1⟩,W,bW,⟨L,tL⟩,kk,f1,f2,f3,f4,f5,f6,f7,f8⟩:=aTT hc;obtain ⟨⟨n2,s2,t2⟩,d,w,bw,k,g1,g2,g3,g4,g5,g6⟩:=aTS hc;obtain ⟨l,⟨n3,s3,t3⟩,i1,hb3,hl,hr⟩:=aQk hc;have i2:=aKO hb3 ⟨hl,hr⟩;have i3:=aQV hb3 ⟨hl,hr⟩;rcases g6 with ⟨rfl,rfl,g7⟩|⟨gk,rfl⟩
 ·simp only [f1,f2,f3,f4,f5,f6,f7,f8,g1,g2,g3,g4,g5,g7,i1,i2,i3,aC,decide_true,eP,aY,aJ,beq_self_eq_true,Sum.elim_inl]
 ·have gk':=cR gk;simp only [f1,f2,f3,f4,f5,f6,f7,f8,g1,g2,g3,g4,g5,gk',i1,i2,i3,aC,decide_true,eP,aY,aJ,beq_self_eq_true,Sum.elim_inl]
theorem aKw {c:aA} :yZ c=some true:=by
 unfold yZ aFX;rw [aC];by_cases hbig:(1048576:Int)<c.length
 ·rw [bK hbig,aJ]
 ·have hc:c.length<=1048576:=by omega
  rw [cR hbig,aY];obtain ⟨⟨n0,s0,t0⟩,x,y,e1,hb,hD,lx,ly⟩:=aVj hc;have hx:bI x:=by unfold bI;omega
  have hy:bI y:=by unfold bI;omega
  obtain ⟨ab,a1,a2⟩:=aPF hb x y;obtain ⟨r,br,r1,_⟩:=aDD hb hx;obtain ⟨s,bs,r2,_⟩:=aDD hb hy;have tT:=aTU hc;rw [e1,aC];by_cases hbb:br=true/\bs=true
  ·obtain ⟨rfl,rfl⟩:=hbb;obtain ⟨z,v,z1,z2,v1,v2,u1,u2⟩:=aVo hb hD hx hy r1 r2;simp only [z1,z2,v1,v2,a1,a2,r1,r2,u1,u2,tT,aC,decide_true,eP,aY,aJ,beq_self_eq_true]
  ·obtain ⟨z,z1,z2⟩:=aMD hb x y;obtain ⟨v,v1,v2⟩:=aEe hb x y;cases br with
   |false=>simp only [z1,z2,v1,v2,a1,a2,r1,r2,tT,aC,decide_true,eP,aY,aJ,beq_self_eq_true]
   |true=>
    cases bs with
    |false=>simp only [z1,z2,v1,v2,a1,a2,r1,r2,tT,aC,decide_true,eP,aY,aJ,beq_self_eq_true]
    |true=>exact absurd ⟨rfl,rfl⟩ hbb
open Go.RowKit Go.ChangeShapes Go.WideShapes Go.ChangeAt
theorem oU:aTx Tryz.prog 5 (aOG 1 eU):=by
 intro H enc w fuel cs d ps h hf;obtain ⟨n,rfl,_,_⟩:=DataW.trod_int Tryz.underlying5 h;exact ⟨n,[],⟨_,_,[],[],rfl,rfl,aBX rfl,rfl,rfl⟩,by simp [Value.oneCell'],rfl⟩
end
end Go.Proofs.YtgkfbfiiaphgoaaGreat

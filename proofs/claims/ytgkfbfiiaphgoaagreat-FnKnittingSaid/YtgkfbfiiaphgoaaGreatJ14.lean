/-
  Several texts of the claim in one.
-/
import Derived.Test.YtgkfbfiiaphgoaaGreatJ13
set_option linter.unusedVariables false
set_option linter.unusedSimpArgs false
namespace Go.Proofs.YtgkfbfiiaphgoaaGreat
open Go.RowKit
noncomputable section
section
variable {q:Qv} {n:Nat} {L:List Int}
theorem xK (H:Fin1 q n) (hT:Topo q n L): ∀ v∈L.map Int.toNat,v<n∧cH (eN q n) v v=2:=λv hv=>by
 have:=(zM hT).1 hv;exact ⟨this,H.F.diag v this⟩
theorem aIb (H:Fin1 q n) {v:Nat} (hv:v<n):cw n (cH (eN q n)) [v] (eV v)=λi=> -eV v i:=by
 have e:mv n (cH (eN q n)) (eV v) v=2:=by
  unfold mv eV;rw [←H.F.diag v hv,←lW (λi=>cH (eN q n) v i) hv];exact bJ λi _=>by split <;> simp
 simp only [cw];rw [e];funext i;unfold eV;split <;> rfl
theorem aRT (H:Fin1 q n) (hT:Topo q n L) {v:Nat} (hv:v<n):cw n (cH (eN q n)) (L.map Int.toNat).reverse (gx (eA q n v))=λi=> -gx (vX q n v) i:=by
 obtain ⟨A,B,e⟩:=List.append_of_mem ((zM hT).2 hv);have ok:=xK H hT;rw [e] at ok ⊢;rw [←aDr H.Q hT e,←aKM H.Q hT e,List.reverse_append,List.reverse_cons,zK,zK,aAK B _ λu hu=>ok u (by simp [hu]),aIb H hv,aIZ]
theorem aSE (H:Fin1 q n) (hT:Topo q n L) {v:Nat} (hv:v<n):cw n (cH (eN q n)) (L.map Int.toNat) (gx (vX q n v))=λi=> -gx (eA q n v) i:=by
 obtain ⟨A,B,e⟩:=List.append_of_mem ((zM hT).2 hv);have ok:=xK H hT;rw [e] at ok ⊢;have h1:=aAK (n:=n) (m:=cH (eN q n)) A.reverse (eV v) λu hu=>ok u (by simp at hu;simp [hu]);rw [List.reverse_reverse] at h1;rw [←aDr H.Q hT e,←aKM H.Q hT e,zK,h1];show cw n _ B (cw n _ [v] (eV v))=_;rw [aIb H hv,aIZ]
theorem aIc (H:Fin1 q n) (hT:Topo q n L) {v:Nat} (hv:v<n):gx (eA q n v) v=1:=(uA hv).trans (aAw H.Q hT hv)
theorem aRU (H:Fin1 q n) (hT:Topo q n L) {v:Nat} (hv:v<n):gx (vX q n v) v=1:=(uA hv).trans (aAw H.Q hT hv)
theorem aME {x:List Int} (r:RtQ q n x) (i:Nat):0≤gx x i:=by
 rcases eW i x.length with h|h
 ·exact r.nn _ (qC h)
 ·unfold gx;rw [gJ h];exact Int.le_refl 0
theorem aCw {x y:List Int} (hl:x.length=y.length) (h:gx x=gx y):x=y:=by
 refine List.ext_getElem hl λi h1 h2=>?_;have:=congrFun h i;unfold gx at this
 rwa [jA h1,jA h2,oV,oV] at this
theorem aKN (H:Fin1 q n) {x:List Int} (r:RtQ q n x) {v:Nat} (hv:v<n) (h:gx x v+ -(mv n (cH (eN q n)) (gx x) v)<0):gx x=eV v:=by
 have hd:=H.F.diag v hv;generalize hs:mv n (cH (eN q n)) (gx x) v=s at h
 have hy:qf n (cH (eN q n)) (λi=>gx x i+if i=v then -s else 0)=2:=by
  rw [aDN _ _ _ hv H.F.sym,r.two,hs,hd]
  grind
 obtain ⟨z,hz⟩: ∃ z:Nat→Int,z=λi=>if i=v then 0 else gx x i:=⟨_,rfl⟩
 have e1:(λi=>gx x i+if i=v then -s else 0)=λi=>z i+if i=v then gx x v+ -s else 0:=by
  funext i;rw [hz];by_cases h:i=v
  ·subst h;simp
  ·simp [h]
 rw [e1,aDN _ _ _ hv H.F.sym,hd] at hy
 have hmz:mv n (cH (eN q n)) z v≤0:=by
  have:0≤bS n λu=> -(cH (eN q n) v u*z u):=vE λu hu=>by
   rw [hz];by_cases e:u=v
   ·simp [e]
   ·simp only [bC e];have h1:cH (eN q n) v u=oZ q q.src.length v u:=gM hv hu
    have h2:oZ q q.src.length v u≤0:=by
     have c1:=(aAE q q.src.length v u).1;have c2:=(aAE q q.src.length u v).1;unfold oZ;rw [bC λh=>e h.symm];omega
    rw [h1];have h3:=aME r u;have:=Int.mul_nonneg (show 0≤ -oZ q q.src.length v u by omega) h3;rw [Int.neg_mul] at this;exact this
  have e2:(bS n λu=> -(cH (eN q n) v u*z u))= -(mv n (cH (eN q n)) z v):=by
   have:=iM (-1) (λu=>cH (eN q n) v u*z u) n;unfold mv;rw [show -(bS n λw=>cH (eN q n) v w*z w)= -1*bS n λw=>cH (eN q n) v w*z w by omega,←this];exact bJ λu _=>by omega
  omega
 have hp:=aFS n _ H.F.pd H.F.sym z;generalize hc:gx x v+ -s=c at h hy
 have hc2:1≤c*c:=by
  have:=Int.mul_le_mul_of_nonneg_left (show (1:Int)≤ -c by omega) (show (0:Int)≤ -c by omega);rw [Int.neg_mul_neg] at this;omega
 have hcm:0≤c*mv n (cH (eN q n)) z v:=by
  have:=Int.mul_nonneg (show (0:Int)≤ -c by omega) (show (0:Int)≤ -(mv n (cH (eN q n)) z v) by omega)
  rwa [Int.neg_mul_neg] at this
 have hz0: ∀ i,i<n→z i=0:=λi hi=>Classical.byContradiction λhne=>by
  have:=hp.2 ⟨i,hi,hne⟩;have h5:2*c*mv n (cH (eN q n)) z v=2*(c*mv n (cH (eN q n)) z v):=by grind
  rw [h5] at hy;have h6:c*c*2=2*(c*c):=Int.mul_comm _ _;omega
 have hx0: ∀ i,i≠v→gx x i=0:=λi hne=>by
  rcases eW i n with hi|hi
  ·have:=hz0 i hi;rw [hz] at this;simpa [hne] using this
  ·unfold gx;rw [gJ (by rw [r.len];exact hi)];rfl
 have h2:=r.two;rw [aFR] at h2
 have e3:(bS n λi=>gx x i*mv n (cH (eN q n)) (gx x) i)=gx x v*(2*gx x v):=by
  rw [←lW (λi=>gx x i*(2*gx x i)) hv];refine bJ λi hi=>?_;by_cases e:i=v
  ·subst e;rw [bG rfl];congr 1;unfold mv;rw [←hd,←lW (λw=>cH (eN q n) i w*gx x w) hi]
   exact bJ λw _=>by
    by_cases e:w=i
    ·rw [bG e]
    ·rw [bC e,hx0 w e,Int.mul_zero]
  ·rw [bC e,hx0 i e,Int.zero_mul]
 rw [e3] at h2
 have h1:gx x v=1:=by
  have h0:=aME r v
  have h3:gx x v*gx x v=1:=by
   have:gx x v*(2*gx x v)=2*(gx x v*gx x v):=by grind
   omega
  have h4:gx x v≤1:=Classical.byContradiction λhgt=>by
   have:=Int.mul_le_mul_of_nonneg_left (show (2:Int)≤gx x v by omega) h0;omega
  have h5:gx x v≠0:=λh=>by rw [h] at h3;simp at h3
  omega
 funext i;unfold eV;by_cases e:i=v
 ·subst e;rw [bG rfl,h1]
 ·rw [bC e,hx0 i e]
theorem aGK {x:List Int} {v:Nat} (hv:v<x.length):gx (nH q n x v)=cw n (cH (eN q n)) [v] (gx x):=by
 unfold nH;rw [zY _ hv];rfl
theorem aHf (H:Fin1 q n): ∀ (ws:List Nat) {x:List Int},(∀ v∈ws,v<n)→RtQ q n x→(∃ y,RtQ q n y∧gx y=cw n (cH (eN q n)) ws (gx x))∨ ∃ a v b,ws=a++v::b∧cw n (cH (eN q n)) a (gx x)=eV v
 | [],x,_,r=> .inl ⟨x,r,rfl⟩
 |v::ws,x,h,r=>by
  have hv:=h v (by simp);by_cases h0:0≤gx x v+ -(mv n (cH (eN q n)) (gx x) v)
  ·have hy:=aBS H r hv h0;have e:=aGK (q:=q) (n:=n) (x:=x) (v:=v) (by rw [r.len];exact hv);rcases aHf H ws (λu hu=>h u (by simp [hu])) hy with ⟨y,h1,h2⟩|⟨a,u,b,h1,h2⟩
   ·exact .inl ⟨y,h1,by rw [h2,e];rfl⟩
   ·exact .inr ⟨v::a,u,b,by rw [h1];rfl,by rw [←h2,e];rfl⟩
  ·exact .inr ⟨[],v,ws,rfl,aKN H r hv (by omega)⟩
theorem aSF (H:Fin1 q n) (hT:Topo q n L) {x:List Int} (r:RtQ q n x):(∃ y,RtQ q n y∧gx y=cw n (cH (eN q n)) (L.map Int.toNat).reverse (gx x))∨ ∃ v,v<n∧x=eA q n v:=by
 have ok:=xK H hT;rcases aHf H (L.map Int.toNat).reverse (λv hv=>(ok v (List.mem_reverse.1 hv)).1) r with h|⟨a,v,b,h1,h2⟩
 ·exact .inl h
 ·have e:L.map Int.toNat=b.reverse++v::a.reverse:=by
   have:=congrArg List.reverse h1;simpa using this
  have hv:v<n:=(zM hT).1 (by rw [e];simp);refine .inr ⟨v,hv,aCw (by rw [r.len];exact (fJ _ _).symm) ?_⟩;rw [←aDr H.Q hT e,←h2];exact (aAK a _ λu hu=>ok u (by rw [e];simp [hu])).symm
def Pn (q:Qv) (n:Nat) (x:List Int):Prop:=x.length=n∧ ∃ y,RtQ q n y∧(gx x=gx y∨gx x=λi=> -gx y i)
theorem Pn.num (H:Fin1 q n) {x:List Int} (h:Pn q n x):zG n x=true:=by
 obtain ⟨hl,y,r,h⟩:=h;refine aQD hl λa ha=>?_;obtain ⟨i,hi,rfl⟩:=List.getElem_of_mem ha;have e:x[i]=gx x i:=by unfold gx;rw [jA hi,oV]
 have hy:=(H.vec r).1.2 (gx y i) (qC (by rw [r.len];omega));rw [e];rcases h with h|h
 ·rw [h];omega
 ·rw [congrFun h i];show -100≤ -gx y i∧ -gx y i≤100;omega
theorem Pn.next (H:Fin1 q n) {x:List Int} (h:Pn q n x) {v:Nat} (hv:v<n):Pn q n (nH q n x v):=by
 obtain ⟨hl,y,r,h⟩:=h;have e1:=aGK (q:=q) (n:=n) (x:=x) (v:=v) (by omega);have e2:=aGK (q:=q) (n:=n) (x:=y) (v:=v) (by rw [r.len];exact hv);refine ⟨by rw [zH];exact hl,?_⟩;rw [e1];by_cases h0:0≤gx y v+ -(mv n (cH (eN q n)) (gx y) v)
 ·refine ⟨_,aBS H r hv h0,?_⟩;rw [e2];rcases h with h|h
  ·rw [h];exact .inl rfl
  ·rw [h];exact .inr (aIZ _ _ _ _)
 ·have h3:=aKN H r hv (by omega);refine ⟨y,r,?_⟩;rcases h with h|h
  ·rw [h,h3,aIb H hv];exact .inr rfl
  ·refine .inl ?_;rw [h,aIZ,h3,aIb H hv];funext i;show - -eV v i=eV v i;omega
theorem aHg (H:Fin1 q n): ∀ (ws:List Int) {x:List Int},(∀ v∈ws,0≤v∧v<n)→Pn q n x→aDh q n ws x=some (fwL q n ws x)
 | [],x,_,_=>rfl
 |v::ws,x,h,hx=>by
  have hv:=h v (by simp)
  have hd:aAu q v=true:=by
   have h1:=H.F.diag v.toNat (by omega);have h2:cH (eN q n) v.toNat v.toNat=oZ q q.src.length v.toNat v.toNat:=gM (by omega) (by omega);have h3:=aKA (v:=v.toNat) H.Q;rw [show ((v.toNat:Nat):Int)=v by omega] at h3;rw [←h3];exact bF (by rw [←h2];exact h1)
  simp only [aDh,fwL];unfold aCn;rw [hx.num H,hd,qV hv.1 (by omega)];simp only [Bool.and_self,if_true,aC];exact aHg H ws (λu hu=>h u (by simp [hu])) (hx.next H (by omega))
theorem aDs (H:Fin1 q n) (hT:Topo q n L) {x:List Int} (r:RtQ q n x):aBY q n L x=some (fwL q n L x):=by
 have hp:Pn q n x:=⟨r.len,x,r,.inl rfl⟩;unfold aBY;rw [hp.num H,bG rfl];exact aHg H L hT.rg hp
theorem aRV {x:List Int} (r:RtQ q n x):nnB x=true:=List.all_eq_true.2 λa ha=>bF (r.nn a ha)
theorem xL (x:List Int): ∀ k,xs q n L (fwL q n L x) k=xs q n L x (k+1)
 |0=>rfl
 |k+1=>by
  show fwL q n L (xs q n L (fwL q n L x) k)=fwL q n L (xs q n L x (k+1));rw [xL x k]
theorem aCx (H:Fin1 q n) (hT:Topo q n L): ∀ (f:Nat) {x:List Int},J q n x→ ∃ t,t≤f∧kn q n L f x=(List.range t).map (xs q n L x)∧ ∀ i,i<t→RtQ q n (xs q n L x i)
 |0,x,_=>⟨0,bT _,rfl,λi hi=>absurd hi (Nat.not_lt_zero _)⟩
 |f+1,x,h=>by
  by_cases hn:nnB x=true
  ·have r:=h.root hn;obtain ⟨t,h1,h2,h3⟩:=aCx H hT f (h.next H hT);refine ⟨t+1,by omega,?_,λi hi=>?_⟩
   ·simp only [kn];rw [bG hn,aDs H hT r];simp only;rw [h2,List.range_succ_eq_map,List.map_cons,List.map_map];congr 1;exact aAM λk _=>xL x k
   ·cases i with
    |zero=>exact r
    |succ i=>rw [←xL];exact h3 i (by omega)
  ·refine ⟨0,Nat.zero_le _,?_,λi hi=>absurd hi (Nat.not_lt_zero _)⟩;simp only [kn];rw [bC hn];rfl
theorem aOu (H:Fin1 q n) (hT:Topo q n L): ∀ (f k:Nat) {x:List Int},k<f→(∀ i,i≤k→RtQ q n (xs q n L x i))→xs q n L x k∈kn q n L f x
 |0,k,x,h,_=>absurd h (Nat.not_lt_zero _)
 |f+1,k,x,h,hr=>by
  have r:RtQ q n x:=hr 0 (Nat.zero_le _);simp only [kn];rw [bG (aRV r),aDs H hT r];cases k with
  |zero=>exact List.mem_cons_self ..
  |succ k=>
   refine List.mem_cons_of_mem _ ?_;simp only;rw [←xL];exact aOu H hT f k (by omega) λi hi=>by rw [xL];exact hr (i+1) (by omega)
theorem aOv (hT:Topo q n L) {x:List Int} (hx:x.length=n) (k:Nat):gx (xs q n L x (k+1))=cw n (cH (eN q n)) (L.map Int.toNat) (gx (xs q n L x k)):=aCH L hT.rg (aCI hx k)
theorem aHh (H:Fin1 q n) (hT:Topo q n L) {x y:List Int} (hx:x.length=n) (hy:y.length=n): ∀ (i j:Nat),i≤j→xs q n L x i=xs q n L y j→x=xs q n L y (j - i)
 |0,j,_,h=>h
 |i+1,j,hij,h=>by
  obtain ⟨j,rfl⟩: ∃ j',j=j'+1:=⟨j - 1,by omega⟩;rw [Nat.add_sub_add_right];refine aHh H hT hx hy i j (by omega) (aCw (by rw [aCI hx,aCI hy]) ?_);have h1:=congrArg gx h;rw [aOv hT hx,aOv hT hy] at h1;have ok:=xK H hT;rw [←aAK (L.map Int.toNat) (gx (xs q n L x i)) ok,←aAK (L.map Int.toNat) (gx (xs q n L y j)) ok,h1]
theorem aGL (H:Fin1 q n) (hT:Topo q n L) {v w:Nat} (hv:v<n) (hw:w<n) {i j:Nat} (hij:i≤j) (hr: ∀ k,k<j→RtQ q n (xs q n L (eA q n w) k)) (h:xs q n L (eA q n v) i=xs q n L (eA q n w) j):v=w:=by
 have lv:(eA q n v).length=n:=fJ _ _;have lw:(eA q n w).length=n:=fJ _ _;have h1:=aHh H hT lv lw i j hij h;rcases eW i j with h2|h2
 ·obtain ⟨d,hd⟩: ∃ d,j - i=d+1:=⟨j - i - 1,by omega⟩;rw [hd] at h1;have h3:=congrArg gx h1;rw [aOv hT lw] at h3;have h4:=aAK (L.map Int.toNat) (gx (xs q n L (eA q n w) d)) (xK H hT);rw [←h3,aRT H hT hv] at h4;have h5: -gx (vX q n v) v=gx (xs q n L (eA q n w) d) v:=congrFun h4 v;have h6:=aME (hr d (by omega)) v;rw [←h5,aRU H hT hv] at h6;omega
 ·rw [show j - i=0 by omega] at h1;have h1:eA q n v=eA q n w:=h1;have a1:gx (eA q n w) v=1:=by rw [←h1];exact aIc H hT hv
  have a2:gx (eA q n v) w=1:=by rw [h1];exact aIc H hT hw
  have b1:gx (eA q n w) v=((pcn q v 8 w:Nat):Int):=uA hv;have b2:gx (eA q n v) w=((pcn q w 8 v:Nat):Int):=uA hw;rcases aDq H.Q hT hw hv (by omega) with c1|c1
  ·exact c1.symm
  ·rcases aDq H.Q hT hv hw (by omega) with c2|c2
   ·exact c2
   ·omega
theorem aEU (H:Fin1 q n) (hT:Topo q n L):(rX q n L n).Nodup:=by
 unfold rX List.Nodup;rw [List.pairwise_flatMap];have hJ:=λv hv=>aLK H hT (v:=v) hv;refine ⟨λv hv=>?_,?_⟩
 ·have hv:=List.mem_range.1 hv;obtain ⟨t,_,h2,h3⟩:=aCx H hT 21 (hJ v hv);rw [h2,List.pairwise_map];refine List.Pairwise.imp_of_mem (λ{a b} ha hb hab=>?_) (List.pairwise_lt_range (n:=t));have:=List.mem_range.1 hb;exact aGH H hT (hJ v hv).1 hab λk hk=>h3 k (by omega)
 ·refine List.Pairwise.imp_of_mem (λ{v w} hv hw hvw=>?_) (List.pairwise_lt_range (n:=n));have hv:=List.mem_range.1 hv;have hw:=List.mem_range.1 hw;intro x hx y hy e;subst e;obtain ⟨t,_,h2,h3⟩:=aCx H hT 21 (hJ v hv);obtain ⟨t',_,h2',h3'⟩:=aCx H hT 21 (hJ w hw);rw [h2] at hx;rw [h2'] at hy;obtain ⟨i,hi,rfl⟩:=List.mem_map.1 hx;obtain ⟨j,hj,e⟩:=List.mem_map.1 hy;have hi:=List.mem_range.1 hi;have hj:=List.mem_range.1 hj;rcases Nat.le_total i j with h|h
  ·have:=aGL H hT hv hw h (λk hk=>h3' k (by omega)) e.symm;omega
  ·have:=aGL H hT hw hv h (λk hk=>h3 k (by omega)) e;omega
theorem aLP (H:Fin1 q n) (hT:Topo q n L) {x:List Int} (h:x∈rX q n L n):RtQ q n x:=by
 obtain ⟨v,hv,h⟩:=List.mem_flatMap.1 h;obtain ⟨t,_,h2,h3⟩:=aCx H hT 21 (aLK H hT (List.mem_range.1 hv));rw [h2] at h;obtain ⟨i,hi,rfl⟩:=List.mem_map.1 h;exact h3 i (List.mem_range.1 hi)
theorem aSG (H:Fin1 q n) (hT:Topo q n L) {x:List Int} (r:RtQ q n x): ∀ K,(∃ v k,v<n∧k<K∧x=xs q n L (eA q n v) k∧ ∀ i,i≤k→RtQ q n (xs q n L (eA q n v) i))∨ ∃ y,x=xs q n L y K∧ ∀ i,i≤K→RtQ q n (xs q n L y i)
 |0=> .inr ⟨x,rfl,λi hi=>by rw [show i=0 by omega];exact r⟩
 |K+1=>by
  rcases aSG H hT r K with ⟨v,k,h1,h2,h3⟩|⟨y,h1,h2⟩
  ·exact .inl ⟨v,k,h1,by omega,h3⟩
  ·have ry:=h2 0 (Nat.zero_le _);rcases aSF H hT ry with ⟨z,rz,ez⟩|⟨v,hv,e⟩
   ·have hz:fwL q n L z=y:=aCw (by rw [yH,rz.len];exact ry.len.symm) (by
     rw [aCH L hT.rg rz.len,ez];have:=aAK (n:=n) (m:=cH (eN q n)) (L.map Int.toNat).reverse (gx y) λu hu=>xK H hT u (List.mem_reverse.1 hu)
     rwa [List.reverse_reverse] at this)
    refine .inr ⟨z,by rw [←xL,hz];exact h1,λi hi=>?_⟩;cases i with
    |zero=>exact rz
    |succ i=>rw [←xL,hz];exact h2 i (by omega)
   ·have e:y=eA q n v:=e;subst e;exact .inl ⟨v,K,hv,by omega,h1,h2⟩
theorem aHi (H:Fin1 q n) (hT:Topo q n L) {x:List Int} (r:RtQ q n x):x∈rX q n L n:=by
 rcases aSG H hT r 20 with ⟨v,k,hv,hk,rfl,hr⟩|⟨y,_,h2⟩
 ·exact List.mem_flatMap.2 ⟨v,List.mem_range.2 hv,aOu H hT 21 k (by omega) hr⟩
 ·have hnd:((List.range 21).map (xs q n L y)).Nodup:=by
   unfold List.Nodup;rw [List.pairwise_map];refine List.Pairwise.imp_of_mem (λ{a b} ha hb hab=>?_) (List.pairwise_lt_range (n:=21));have:=List.mem_range.1 hb;exact aGH H hT (h2 0 (by omega)).len hab λk hk=>h2 k (by omega)
  have:=H.num hnd λz hz=>by
   obtain ⟨k,hk,rfl⟩:=List.mem_map.1 hz;exact h2 k (by have:=List.mem_range.1 hk;omega)
  simp at this
theorem aLQ (H:Fin1 q n) (hT:Topo q n L) {x y:List Int} (r:RtQ q n x) (hp: ∀ v,v<n→x≠eA q n v) (hy:y=fwL q n L.reverse x):RtQ q n y∧(∀ v,v<n→y≠vX q n v)∧fwL q n L y=x:=by
 have hrg: ∀ v∈L.reverse,0≤v∧v<n:=λv hv=>hT.rg v (List.mem_reverse.1 hv);have ok:=xK H hT;have hg:gx y=cw n (cH (eN q n)) (L.map Int.toNat).reverse (gx x):=by rw [hy,aCH _ hrg r.len,List.map_reverse]
 have hl:y.length=n:=by rw [hy,yH,r.len]
 have hb:fwL q n L y=x:=aCw (by rw [yH,hl,r.len]) (by
  rw [aCH L hT.rg hl,hg];have:=aAK (n:=n) (m:=cH (eN q n)) (L.map Int.toNat).reverse (gx x) λu hu=>ok u (List.mem_reverse.1 hu)
  rwa [List.reverse_reverse] at this)
 refine ⟨?_,λv hv e=>?_,hb⟩
 ·rcases aSF H hT r with ⟨z,rz,ez⟩|⟨v,hv,e⟩
  ·have:y=z:=aCw (by rw [hl,rz.len]) (by rw [hg,ez]);rw [this];exact rz
  ·exact absurd e (hp v hv)
 ·have h1:=aSE H hT hv;rw [←e,←aCH L hT.rg hl,hb] at h1;have h2:gx x v= -gx (eA q n v) v:=congrFun h1 v;have h3:=aME r v;rw [h2,aIc H hT hv] at h3;omega
end
end
end Go.Proofs.YtgkfbfiiaphgoaaGreat

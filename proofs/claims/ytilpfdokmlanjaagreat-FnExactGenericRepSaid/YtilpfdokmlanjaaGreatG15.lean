/-
  Several texts of the claim in one.
-/
import Derived.Test.YtilpfdokmlanjaaGreatG14
set_option linter.unusedVariables false
set_option linter.unusedSimpArgs false
namespace Go.Proofs.YtilpfdokmlanjaaGreat
open Go.RowKit
noncomputable section
def aGG:AV→Bool
 | .sc _=>true
 | .nil _=>true
 | .list _ _=>true
 | .ref _=>true
 |_=>false
theorem aOY {w:World} {h:Hp} {u:Us} {ν:Nu} : ∀ {cs:List AV} {vs:List Value} {S:List Nat},CellsRep w h u ν cs vs S→cs.all aGG=true→S=[]∧All2 (Rep1 w h u ν) cs vs
 | [],vs,S,r,_=>⟨r.2,r.1⟩
 |c::cs,vs,S,⟨v,q,S1,S2,e1,e2,h3,h4⟩,hp=>by
  simp only [List.all_cons,dF] at hp;obtain ⟨g1,g2⟩:=aOY h4 hp.2
  have hc:Rep1 w h u ν c v∧S1=[]:=by
   cases c <;> simp only [aGG,fJ,false_and] at hp <;> exact h3
  refine ⟨by rw [e2,g1,hc.2];rfl,v,q,e1,hc.1,g2⟩
theorem aOZ {w:World} {h:Hp} {u:Us} {ν:Nu} : ∀ {cs:List AV} {vs:List Value},All2 (Rep1 w h u ν) cs vs→cs.all aGG=true→CellsRep w h u ν cs vs []
 | [],vs,r,_=>⟨r,rfl⟩
 |c::cs,vs,⟨v,q,e1,h3,h4⟩,hp=>by
  simp only [List.all_cons,dF] at hp;refine ⟨v,q,[],[],e1,rfl,?_,aOZ h4 hp.2⟩;cases c <;> simp only [aGG,fJ,false_and] at hp <;> exact ⟨h3,rfl⟩
theorem aUM {w:World} {h:Hp} {u:Us} {ν:Nu} : ∀ {cs:List AV} {vs:List Value},All2 (Rep1 w h u ν) cs vs→cs.all aGG=true→ ∀ v∈vs,v.oneCell'=true
 | [],vs,r,_=>by rw [show vs=[] from r];simp
 |c::cs,vs,⟨v,q,e1,h3,h4⟩,hp=>by
  simp only [List.all_cons,dF] at hp;intro x hx;rw [e1] at hx;rcases eC.1 hx with rfl|hx
  ·cases c <;> simp only [aGG,fJ,false_and] at hp <;> exact h3.oneCell (by simp) (by simp) (by simp)
  ·exact aUM h4 hp.2 x hx
theorem aLW {hp:Hp} {cs:List AV} (h:cs.all aGG=true):cs.all (okCell hp)=true:=by
 rw [List.all_eq_true] at h ⊢;intro c hc;have:=h c hc;cases c <;> simp only [aGG,fJ] at this <;> rfl
theorem aEK {α:Type} {k:Nat} {es:List (List α)} (h: ∀ c∈es,c.length=k) (n:Nat):(es.take n).flatten=es.flatten.take (n*k):=by
 have:=yT h 0 n;simpa using this
theorem aHD {α:Type} {k:Nat} : ∀ {es:List (List α)} (_: ∀ c∈es,c.length=k) (i:Nat),(es.drop i).flatten=es.flatten.drop (i*k)
 | [],_,i=>by simp
 |c::es,hk,0=>by simp
 |c::es,hk,i+1=>by
  have hc:=hk c (by simp);have ih:=aHD (es:=es) (λx hx=>hk x (by simp [hx])) i;have t2:c.drop ((i+1)*k)=[]:=List.drop_eq_nil_of_le (by rw [hc,Nat.add_mul];omega);rw [List.drop_succ_cons,ih,List.flatten_cons,List.drop_append,t2,List.nil_append,hc,show (i+1)*k - k=i*k by rw [Nat.add_mul];omega]
theorem aUN {α:Type} (A V:List α) (E I M:Nat) (hA:E≤A.length) (hV:V.length=M) (h:I+M≤E):(A.take I++V++A.drop (I+M)).take E=(A.take E).take I++V++(A.take E).drop (I+M):=by
 have e1:(A.take I).length=I:=by rw [List.length_take];omega
 rw [List.take_append,List.take_append,List.take_take,List.take_take,List.drop_take,List.length_append,e1,hV,Nat.min_eq_right (show I≤E by omega),Nat.min_eq_left (show I≤E by omega),List.take_of_length_le (show V.length≤E - I by omega)]
theorem aLX {a b:List AV} (ha: ∀ c∈a,sE c=true) (hb: ∀ c∈b,sE c=true) (n m:Nat):aAa (List.replicate n a++List.replicate m b):=by
 intro cs hcs c hc;rcases eP.1 hcs with h|h
 ·rw [(List.mem_replicate.1 h).2] at hc;exact ha c hc
 ·rw [(List.mem_replicate.1 h).2] at hc;exact hb c hc
theorem aPu {P:Program} (w:World) (dT sT ty elem:TypeId) (g o dLen dCap:Nat) (a:Addr) (sLen sCap:Nat) (cur:Array Value) (t:TypeId) (cs:List Value) (k:Nat)
  (hu:P.underlying dT=some (.slice elem)) (hs:(P.info? elem).map (·.size)=some k)
  (hg:w.heap[g]? =some (.cells cur t (0,0))) (hn:cs.length=Nat.min sLen dLen*k)
  (hsrc: ∀ j v,cs[j]? =some v→w.cell? (a.add j)=some v) (hfit:o+cs.length≤cur.size) (h1: ∀ v∈cs,v.oneCell'=true):
  (Builtin.copy_ #[dT,sT] ty #[.slice (some ⟨g,o,none⟩) dLen dCap,.slice (some a) sLen sCap]).run P w=
   .ok (goInt (Nat.min sLen dLen)) (w.setRow g (cur.toList.take o++cs++cur.toList.drop (o+cs.length)).toArray):=by
 have hl:=run_loadCells_list (P:=P) w a cs hsrc;have hst:=run_storeCells_at P g o t cs 0 cur w hg (by simpa using hfit) h1;cases hq:P.info? elem with
 |none=>simp [hq] at hs
 |some i=>
  have hi:i.size=k:=by simpa [hq] using hs
  simp [Builtin.copy_,run_underlying hu,Builtin.lenOf,Builtin.firstCells,sizeOf,typeInfo,hq,hi,←hn,hl,hst]
theorem aRA {P:Program} {T:List (Nat×Ty)} (hT:TyOk P T) {dst:Option Tmp} {dty:TypeId} {pos:String} {aft:Array Edge} {g:Option (Nat×Bool)} {s:AState} {xd xs:Operand} {t et:Nat} {y ye:Ty} {b i nd k m:Nat} {es news:List (List AV)} {sv:AV} {ts:List Nat}
  (hm:min news.length nd=m) (h0:0<m) (hk0:0<k) (hx:s.ev xd=some (.own b i nd)) (hb:s.heap b=some ⟨k,es⟩) (hz:s.ev xs=some sv) (hsrc:tY s.heap sv=some (k,news,ts)) (hpe:es.flatten.all aGG=true) (hpn:news.flatten.all aGG=true) (hy:dY T t=some y) (hd:y.desc= .slice et) (hye:dY T et=some ye) (hk1:ye.size=k):
  AEff P ⟨dst,.call ⟨.builtin .copy,#[xd,xs],#[t,t]⟩,dty,pos,aft,g⟩ s.ev s.heap s.kp ⟨.int (m:Nat),b::ts,[(b,some ⟨k,es.take i++news.take m++es.drop (i+m)⟩)],[]⟩:=by
 refine ⟨λC s' ν a w Q K {hκ} hi' ht hnw hd' hs hK=>?_⟩;have h1:=hs.ev ((hi' xd (by simp [Op.operands,Call.operands])).trans hx);have h2:=hs.ev ((hi' xs (by simp [Op.operands,Call.operands])).trans hz);have hb':s'.heap b=some ⟨k,es⟩:=(ht b (by simp)).trans hb;obtain ⟨ao,c0,vs,e1,e2,e3,e4,e5⟩:=hs.src h2 hsrc (λb hb=>ht b (by simp [hb])) (aLW hpn);simp only [RepA,RepB,Rep1] at h1;obtain ⟨hfit,hnn,hsl⟩:=h1.2 _ hb';simp only at hfit;obtain ⟨φ,hh⟩:=hs.heap;obtain ⟨hub,⟨hk,hx2⟩,hnd,hB⟩:=hh.blk b _ hb';simp only at hk hx2;rcases hx2 with ⟨q1,q2,_⟩|⟨β,c,arr,ty',T',vs',q1,q2,q3,q4,q5,q6,q7,q8⟩
 ·rw [q2] at hfit;simp at hfit;omega
 obtain ⟨hT',hv'⟩:=aOY q8 hpe;subst hT';have hsl':=(hsl β c q1).pos (by omega);simp only at hsl';have hmn:m≤news.length:=by omega
 have hmd:m≤nd:=by omega
 obtain ⟨i1,z1,d1,y1⟩:=hT.is hy;obtain ⟨i2,z2,d2,y2⟩:=hT.is hye
 obtain ⟨ad,rfl,e6⟩: ∃ ad,ao=some ad∧ ∀ j u,vs[j]? =some u→w.cell? (ad.add j)=some u:=by
  rcases e5 with h|h
  ·omega
  ·exact h
 have hle:m*k≤news.length*k:=Nat.mul_le_mul_right k hmn;have hle2:(i+m)*k≤es.length*k:=Nat.mul_le_mul_right k (by omega);have hle3:es.length*k≤c*k:=Nat.mul_le_mul_right k q4;rw [Nat.add_mul] at hle2;have hcl:(vs.take (m*k)).length=m*k:=by rw [List.length_take];omega
 have hmin:Nat.min news.length nd=m:=hm
 have hrun:=aPu (P:=P) w t t dty et β (i*k) nd (c - i) ad news.length c0 arr ty' (vs.take (m*k)) k (y1.slice hd) (by rw [y2.info];simp [y2.size,hk1]) q2 (by rw [hcl,hmin])
  (λj v hj=>e6 j v (by
   have hjk:j<m*k:=by have:=(List.getElem?_eq_some_iff.1 hj).1;omega
   rwa [List.getElem?_take_of_lt hjk] at hj)) (by rw [hcl];omega) (λv hv=>aUM e4 hpn v (List.mem_of_mem_take hv))
 rw [hcl,hmin] at hrun;generalize hw':w.setRow β (arr.toList.take (i*k)++vs.take (m*k)++arr.toList.drop (i*k+m*k)).toArray=w' at hrun
 have hexec:(execOp a.eval ⟨dst,.call ⟨.builtin .copy,#[xd,xs],#[t,t]⟩,dty,pos,aft,g⟩).run P w= .ok (.value (.int .i64 m)) w':=by
  have h0:execOp a.eval ⟨dst,.call ⟨.builtin .copy,#[xd,xs],#[t,t]⟩,dty,pos,aft,g⟩=(do let v ←Builtin.copy_ #[t,t] dty #[a.eval xd,a.eval xs];pure (.value v):Sem Next):=by
   simp [execOp,resolve,invoke,builtin]
  rw [h0,hsl',e1,Sem.run_bind,hrun];simp [goInt]
 unfold Oper.wp;rw [hexec];simp only [Oper.upon];have hothers: ∀ x,x≠β→w'.heap[x]? =w.heap[x]? :=λx hx=>by rw [←hw'];exact qF hx
 have hβ:w'.heap[β]? =some (.cells (arr.toList.take (i*k)++vs.take (m*k)++arr.toList.drop (i*k+m*k)).toArray ty' (0,0)):=by rw [←hw'];exact setRow_heap w β arr _ ty' (0,0) q2
 obtain ⟨es',hes'⟩: ∃ es',es'=es.take i++news.take m++es.drop (i+m):=⟨_,rfl⟩;have hll:es'.length=es.length:=by rw [hes'];simp;omega
 rw [←hes'] at hK
 have ext:Ext w s'.heap s'.used ν w' (bB [(b,some ⟨k,es'⟩)] s'.heap) s'.used ν:=by
  refine ⟨λ_ h=>h,λb2 blk2 _ hb2=>?_,λx hx hf=>⟨hothers x (λe=>hf b _ β c hb' q1 e.symm),λb2 blk2 β2 c2 hb2 hν2=>?_⟩,rfl⟩
  ·by_cases e:b2=b
   ·subst e;simp only [bB,bY,aM,Option.some.injEq] at hb2;subst hb2;exact ⟨_,hb',rfl,hll.symm,rfl⟩
   ·simp only [bB,cB e,aX] at hb2;exact ⟨blk2,hb2,rfl,rfl,rfl⟩
  ·by_cases e:b2=b
   ·subst e;exact hf b2 _ β2 c2 hb' hν2
   ·simp only [bB,cB e,aX] at hb2;exact hf b2 blk2 β2 c2 hb2 hν2
 refine hK ν _ _ (hs.step (x:= .int (m:Nat)) (v:= .int .i64 m) hd' (s':=s'.app dst _) (by exact ext) (by rw [←hw'];exact xR (C.low _ (hB β (by rw [q6];simp)))) ⟨φ,?_,?_⟩ rfl (uI rfl))
 ·intro x blk2 hx2;by_cases e:x=b
  ·subst e;simp only [AState.app,bB,bY,aM,Option.some.injEq] at hx2;subst hx2;refine ⟨hub,⟨?_,.inr ⟨β,c,_,ty',[],_,q1,hβ,?_,by simp only;omega,q5,q6,rfl,?_⟩⟩,hnd,hB⟩
   ·intro cs hcs;simp only [hes',eP] at hcs;rcases hcs with (h|h)|h
    ·exact hk _ (List.mem_of_mem_take h)
    ·exact e2 _ (List.mem_of_mem_take h)
    ·exact hk _ (List.mem_of_mem_drop h)
   ·simp only [List.size_toArray,List.length_append,List.length_take,List.length_drop,Array.length_toList,q3];omega
   ·have hal:arr.toList.length=c*k:=by simpa using q3
    have h5:(arr.toList.take (i*k)++vs.take (m*k)++arr.toList.drop (i*k+m*k)).toArray.toList.take (es'.length*k)=vs'.take (i*k)++vs.take (m*k)++vs'.drop ((i+m)*k):=by
     rw [hll,←q7,Nat.add_mul];exact aUN _ _ _ _ _ (by rw [hal];exact hle3) hcl hle2
    rw [h5];refine aOZ ?_ ?_
    ·rw [hes',List.flatten_append,List.flatten_append,aEK hk,aEK e2,aHD hk];have ext':=ext;rw [hes'] at ext';exact (((hv'.take _).append (e4.take _)).append (hv'.drop _)).mono λ_ _ r=>r.ext ext'
    ·rw [List.all_eq_true] at hpe hpn ⊢;intro z hz;simp only [hes',List.flatten_append,eP] at hz;rcases hz with (h|h)|h
     ·rw [aEK hk] at h;exact hpe _ (List.mem_of_mem_take h)
     ·rw [aEK e2] at h;exact hpn _ (List.mem_of_mem_take h)
     ·rw [aHD hk] at h;exact hpe _ (List.mem_of_mem_drop h)
  ·simp only [AState.app,bB,cB e,aX] at hx2;obtain ⟨p1,p2,p3,p4⟩:=hh.blk x blk2 hx2;refine ⟨p1,p2.ext ext rfl (λy hy=>hothers y ?_),p3,p4⟩;rintro rfl;exact hh.apart x b y (by rw [hx2];simp) (by rw [hb'];simp) e hy (by rw [q6];simp)
 ·intro x1 x2 yy hx1 hx2 hne hy1 hy2
  have hlive: ∀ x,(s'.app dst ⟨.int (m:Nat),b::ts,[(b,some ⟨k,es'⟩)],[]⟩).heap x≠none→s'.heap x≠none:=by
   intro x hx;by_cases e:x=b
   ·subst e;rw [hb'];simp
   ·simpa only [AState.app,bB,cB e,aX] using hx
  exact hh.apart x1 x2 yy (hlive x1 hx1) (hlive x2 hx2) hne hy1 hy2
theorem aUO {P:Program} {T:List (Nat×Ty)} (hT:TyOk P T) {dst:Option Tmp} {dty:TypeId} {pos:String} {aft:Array Edge} {g:Option (Nat×Bool)} {s:AState} {xd xs:Operand} {t et:Nat} {y ye:Ty} {b i k:Nat} {blk:Blk} {news:List (List AV)} {sv:AV} {ts:List Nat}
  (hx:s.ev xd=some (.own b i 0)) (hb:s.heap b=some blk) (hz:s.ev xs=some sv) (hsrc:tY s.heap sv=some (k,news,ts)) (hpn:news.flatten.all aGG=true) (hy:dY T t=some y) (hd:y.desc= .slice et) (hye:dY T et=some ye):
  AEff P ⟨dst,.call ⟨.builtin .copy,#[xd,xs],#[t,t]⟩,dty,pos,aft,g⟩ s.ev s.heap s.kp ⟨.int 0,b::ts,[],[]⟩:=
 AEff.pure λC s' ν a w hi' ht hs=>by
  have h1:=hs.ev ((hi' xd (by simp [Op.operands,Call.operands])).trans hx);have h2:=hs.ev ((hi' xs (by simp [Op.operands,Call.operands])).trans hz);have hb':s'.heap b=some blk:=(ht b (by simp)).trans hb;obtain ⟨ao,c0,vs,e1, -, -, -, -⟩:=hs.src h2 hsrc (λb hb=>ht b (by simp [hb])) (aLW hpn);simp only [RepA,RepB,Rep1] at h1;obtain ⟨hfit,hnn,hsl⟩:=h1.2 _ hb';obtain ⟨i1,z1,d1,y1⟩:=hT.is hy;obtain ⟨i2,z2,d2,y2⟩:=hT.is hye;refine ⟨.int .i64 0,?_,uI rfl⟩
  have hdv: ∃ ad cd,a.eval xd= .slice ad 0 cd:=by
   cases hν:ν b with
   |none=>exact ⟨_,_,hnn hν⟩
   |some q=>obtain ⟨β,c⟩:=q;obtain ⟨o,ho,_⟩:=hsl β c hν;exact ⟨_,_,ho⟩
  obtain ⟨ad,cd,e2⟩:=hdv
  have h0:execOp a.eval ⟨dst,.call ⟨.builtin .copy,#[xd,xs],#[t,t]⟩,dty,pos,aft,g⟩=(do let v ←Builtin.copy_ #[t,t] dty #[a.eval xd,a.eval xs];pure (.value v):Sem Next):=by
   simp [execOp,resolve,invoke,builtin]
  rw [h0,e1,e2];cases ao <;> cases ad <;> simp [Builtin.copy_,Builtin.lenOf,Builtin.firstCells,loadCells,loadCellsFrom,storeCells,kD (y1.slice hd),kL y2.info,y2.size,goInt]
def aHv:List AV:=[.int 0,.int 0,.nil 1,.nil 1,.nil 1,.nil 3]
theorem aPv {a b:List AV} (ha:a.all aGG=true) (hb:b.all aGG=true) (n m:Nat):(List.replicate n a++List.replicate m b).flatten.all aGG=true:=by
 rw [List.all_eq_true] at ha hb ⊢;intro x hx;obtain ⟨l,hl,hx⟩:=List.mem_flatten.1 hx;rcases eP.1 hl with h|h
 ·rw [(List.mem_replicate.1 h).2] at hx;exact ha x hx
 ·rw [(List.mem_replicate.1 h).2] at hx;exact hb x hx
theorem aSO (c:Rp) (n:Nat) (hn:n≤1048576):HasE Tryz.prog 38 [.list 6 (List.map eR [c]),.int n] [] 0 (.own 0 0 (List.replicate n c).length) [(0,⟨6,List.map eR (List.replicate n c)⟩)]:=by
 refine pP aD (ns:=[0,1,2,3,4,5,6,7]) Tryz.func38 rfl rfl Tryz.ntmps38 rfl rfl ?_
 repeat (first
  |refine dK ?_
  |refine fS ?_
  |refine cW ?_
  |refine gP ?_
  |refine aI ?_
  |refine aB ?_
  |refine aV ?_
  |refine bH ?_
  |refine aL ?_
  |refine block_out rfl ?_
  |refine aN MIX ?_
  |refine aE ?_
  |refine aG ?_
  |refine aU ?_
  |refine aJ ?_
  |refine aA (cS rfl) rfl rfl rfl ?_
  |refine aA (cI aD rfl rfl rfl rfl rfl rfl rfl) rfl rfl rfl ?_
  |refine aA (eW aD rfl rfl rfl rfl rfl rfl rfl) rfl rfl rfl ?_
  |refine aA (cX rfl) rfl rfl rfl ?_
  |refine aA (fK aD rfl rfl rfl) rfl rfl rfl ?_
  |refine aA (gC aD rfl rfl rfl rfl rfl rfl) rfl rfl rfl ?_
  |refine aA (pM rfl rfl rfl) rfl rfl rfl ?_
  |refine aA (bJ aD rfl rfl rfl rfl rfl rfl (oH (by omega))) rfl rfl rfl ?_
  |refine aA (bJ aD rfl rfl rfl rfl rfl rfl (jW (at_lt (by omega)))) rfl rfl rfl ?_
  |refine aA (w_add rfl rfl (by omega)) rfl rfl rfl ?_
  |refine iC rfl rfl ?_
  |refine aA (gS rfl rfl) rfl rfl rfl ?_
  |refine aA (eJ aD rfl rfl rfl rfl rfl rfl) rfl rfl rfl ?_
  |refine aA (dL rfl) rfl rfl rfl ?_
  |refine aA (yQ rfl rfl rfl rfl) rfl rfl rfl ?_
  |refine aA (bX aD rfl rfl) rfl rfl rfl ?_
  |refine aA (lG aD rfl rfl rfl rfl rfl rfl rfl rfl) rfl rfl rfl ?_
  |refine aA (cA aD rfl rfl rfl rfl) rfl rfl rfl ?_
  |refine aA (w_len_nil aD rfl rfl rfl) rfl rfl rfl ?_
  |refine aA (bD rfl rfl (by intro _ h;cases h)) rfl rfl rfl ?_
  |refine aA (zY aD rfl rfl rfl rfl rfl rfl rfl rfl rfl rfl rfl) rfl rfl rfl ?_
  |refine aA (dE aD rfl rfl rfl rfl rfl rfl) rfl rfl rfl ?_)
 refine pN rfl (λh=>?_) (λh=>?_)
 ·simp at h;omega
 repeat (first
  |refine dK ?_
  |refine fS ?_
  |refine cW ?_
  |refine gP ?_
  |refine aI ?_
  |refine aB ?_
  |refine aV ?_
  |refine bH ?_
  |refine aL ?_
  |refine block_out rfl ?_
  |refine aN MIX ?_
  |refine aE ?_
  |refine aG ?_
  |refine aU ?_
  |refine aJ ?_
  |refine aA (cS rfl) rfl rfl rfl ?_
  |refine aA (cI aD rfl rfl rfl rfl rfl rfl rfl) rfl rfl rfl ?_
  |refine aA (eW aD rfl rfl rfl rfl rfl rfl rfl) rfl rfl rfl ?_
  |refine aA (cX rfl) rfl rfl rfl ?_
  |refine aA (fK aD rfl rfl rfl) rfl rfl rfl ?_
  |refine aA (gC aD rfl rfl rfl rfl rfl rfl) rfl rfl rfl ?_
  |refine aA (pM rfl rfl rfl) rfl rfl rfl ?_
  |refine aA (bJ aD rfl rfl rfl rfl rfl rfl (oH (by omega))) rfl rfl rfl ?_
  |refine aA (bJ aD rfl rfl rfl rfl rfl rfl (jW (at_lt (by omega)))) rfl rfl rfl ?_
  |refine aA (w_add rfl rfl (by omega)) rfl rfl rfl ?_
  |refine iC rfl rfl ?_
  |refine aA (gS rfl rfl) rfl rfl rfl ?_
  |refine aA (eJ aD rfl rfl rfl rfl rfl rfl) rfl rfl rfl ?_
  |refine aA (dL rfl) rfl rfl rfl ?_
  |refine aA (yQ rfl rfl rfl rfl) rfl rfl rfl ?_
  |refine aA (bX aD rfl rfl) rfl rfl rfl ?_
  |refine aA (lG aD rfl rfl rfl rfl rfl rfl rfl rfl) rfl rfl rfl ?_
  |refine aA (cA aD rfl rfl rfl rfl) rfl rfl rfl ?_
  |refine aA (w_len_nil aD rfl rfl rfl) rfl rfl rfl ?_
  |refine aA (bD rfl rfl (by intro _ h;cases h)) rfl rfl rfl ?_
  |refine aA (zY aD rfl rfl rfl rfl rfl rfl rfl rfl rfl rfl rfl) rfl rfl rfl ?_
  |refine aA (dE aD rfl rfl rfl rfl rfl rfl) rfl rfl rfl ?_)
 refine aA (oG (u:= .int .i64 ((1:Nat):Int)) rfl rfl (aEF 1 (by omega))) rfl rfl rfl ?_
 repeat (first
  |refine dK ?_
  |refine fS ?_
  |refine cW ?_
  |refine gP ?_
  |refine aI ?_
  |refine aB ?_
  |refine aV ?_
  |refine bH ?_
  |refine aL ?_
  |refine block_out rfl ?_
  |refine aN MIX ?_
  |refine aE ?_
  |refine aG ?_
  |refine aU ?_
  |refine aJ ?_
  |refine aA (cS rfl) rfl rfl rfl ?_
  |refine aA (cI aD rfl rfl rfl rfl rfl rfl rfl) rfl rfl rfl ?_
  |refine aA (eW aD rfl rfl rfl rfl rfl rfl rfl) rfl rfl rfl ?_
  |refine aA (cX rfl) rfl rfl rfl ?_
  |refine aA (fK aD rfl rfl rfl) rfl rfl rfl ?_
  |refine aA (gC aD rfl rfl rfl rfl rfl rfl) rfl rfl rfl ?_
  |refine aA (pM rfl rfl rfl) rfl rfl rfl ?_
  |refine aA (bJ aD rfl rfl rfl rfl rfl rfl (oH (by omega))) rfl rfl rfl ?_
  |refine aA (bJ aD rfl rfl rfl rfl rfl rfl (jW (at_lt (by omega)))) rfl rfl rfl ?_
  |refine aA (w_add rfl rfl (by omega)) rfl rfl rfl ?_
  |refine iC rfl rfl ?_
  |refine aA (gS rfl rfl) rfl rfl rfl ?_
  |refine aA (eJ aD rfl rfl rfl rfl rfl rfl) rfl rfl rfl ?_
  |refine aA (dL rfl) rfl rfl rfl ?_
  |refine aA (yQ rfl rfl rfl rfl) rfl rfl rfl ?_
  |refine aA (bX aD rfl rfl) rfl rfl rfl ?_
  |refine aA (lG aD rfl rfl rfl rfl rfl rfl rfl rfl) rfl rfl rfl ?_
  |refine aA (cA aD rfl rfl rfl rfl) rfl rfl rfl ?_
  |refine aA (w_len_nil aD rfl rfl rfl) rfl rfl rfl ?_
  |refine aA (bD rfl rfl (by intro _ h;cases h)) rfl rfl rfl ?_
  |refine aA (zY aD rfl rfl rfl rfl rfl rfl rfl rfl rfl rfl rfl) rfl rfl rfl ?_
  |refine aA (dE aD rfl rfl rfl rfl rfl rfl) rfl rfl rfl ?_)
 refine aA (oG (u:= .int .i64 (n:Int)) rfl rfl (aEF n (by omega))) rfl rfl rfl ?_;refine aA (pO (aTZ 1 n (by omega) (by omega) (by omega)) rfl rfl rfl rfl (fV trivial (fV trivial vH)) (aZ (aBU rfl) (aZ (aBU rfl) aS))) rfl rfl rfl ?_
 repeat (first
  |refine dK ?_
  |refine fS ?_
  |refine cW ?_
  |refine gP ?_
  |refine aI ?_
  |refine aB ?_
  |refine aV ?_
  |refine bH ?_
  |refine aL ?_
  |refine block_out rfl ?_
  |refine aN MIX ?_
  |refine aE ?_
  |refine aG ?_
  |refine aU ?_
  |refine aJ ?_
  |refine aA (cS rfl) rfl rfl rfl ?_
  |refine aA (cI aD rfl rfl rfl rfl rfl rfl rfl) rfl rfl rfl ?_
  |refine aA (eW aD rfl rfl rfl rfl rfl rfl rfl) rfl rfl rfl ?_
  |refine aA (cX rfl) rfl rfl rfl ?_
  |refine aA (fK aD rfl rfl rfl) rfl rfl rfl ?_
  |refine aA (gC aD rfl rfl rfl rfl rfl rfl) rfl rfl rfl ?_
  |refine aA (pM rfl rfl rfl) rfl rfl rfl ?_
  |refine aA (bJ aD rfl rfl rfl rfl rfl rfl (oH (by omega))) rfl rfl rfl ?_
  |refine aA (bJ aD rfl rfl rfl rfl rfl rfl (jW (at_lt (by omega)))) rfl rfl rfl ?_
  |refine aA (w_add rfl rfl (by omega)) rfl rfl rfl ?_
  |refine iC rfl rfl ?_
  |refine aA (gS rfl rfl) rfl rfl rfl ?_
  |refine aA (eJ aD rfl rfl rfl rfl rfl rfl) rfl rfl rfl ?_
  |refine aA (dL rfl) rfl rfl rfl ?_
  |refine aA (yQ rfl rfl rfl rfl) rfl rfl rfl ?_
  |refine aA (bX aD rfl rfl) rfl rfl rfl ?_
  |refine aA (lG aD rfl rfl rfl rfl rfl rfl rfl rfl) rfl rfl rfl ?_
  |refine aA (cA aD rfl rfl rfl rfl) rfl rfl rfl ?_
  |refine aA (w_len_nil aD rfl rfl rfl) rfl rfl rfl ?_
  |refine aA (bD rfl rfl (by intro _ h;cases h)) rfl rfl rfl ?_
  |refine aA (zY aD rfl rfl rfl rfl rfl rfl rfl rfl rfl rfl rfl) rfl rfl rfl ?_
  |refine aA (dE aD rfl rfl rfl rfl rfl rfl) rfl rfl rfl ?_)
 refine pN rfl (λh=>?_) (λh=>?_)
 ·have:=of_decide_eq_true h;omega
 repeat (first
  |refine dK ?_
  |refine fS ?_
  |refine cW ?_
  |refine gP ?_
  |refine aI ?_
  |refine aB ?_
  |refine aV ?_
  |refine bH ?_
  |refine aL ?_
  |refine block_out rfl ?_
  |refine aN MIX ?_
  |refine aE ?_
  |refine aG ?_
  |refine aU ?_
  |refine aJ ?_
  |refine aA (cS rfl) rfl rfl rfl ?_
  |refine aA (cI aD rfl rfl rfl rfl rfl rfl rfl) rfl rfl rfl ?_
  |refine aA (eW aD rfl rfl rfl rfl rfl rfl rfl) rfl rfl rfl ?_
  |refine aA (cX rfl) rfl rfl rfl ?_
  |refine aA (fK aD rfl rfl rfl) rfl rfl rfl ?_
  |refine aA (gC aD rfl rfl rfl rfl rfl rfl) rfl rfl rfl ?_
  |refine aA (pM rfl rfl rfl) rfl rfl rfl ?_
  |refine aA (bJ aD rfl rfl rfl rfl rfl rfl (oH (by omega))) rfl rfl rfl ?_
  |refine aA (bJ aD rfl rfl rfl rfl rfl rfl (jW (at_lt (by omega)))) rfl rfl rfl ?_
  |refine aA (w_add rfl rfl (by omega)) rfl rfl rfl ?_
  |refine iC rfl rfl ?_
  |refine aA (gS rfl rfl) rfl rfl rfl ?_
  |refine aA (eJ aD rfl rfl rfl rfl rfl rfl) rfl rfl rfl ?_
  |refine aA (dL rfl) rfl rfl rfl ?_
  |refine aA (yQ rfl rfl rfl rfl) rfl rfl rfl ?_
  |refine aA (bX aD rfl rfl) rfl rfl rfl ?_
  |refine aA (lG aD rfl rfl rfl rfl rfl rfl rfl rfl) rfl rfl rfl ?_
  |refine aA (cA aD rfl rfl rfl rfl) rfl rfl rfl ?_
  |refine aA (w_len_nil aD rfl rfl rfl) rfl rfl rfl ?_
  |refine aA (bD rfl rfl (by intro _ h;cases h)) rfl rfl rfl ?_
  |refine aA (zY aD rfl rfl rfl rfl rfl rfl rfl rfl rfl rfl rfl) rfl rfl rfl ?_
  |refine aA (dE aD rfl rfl rfl rfl rfl rfl) rfl rfl rfl ?_)
 refine aA (oG (u:= .int .u64 ((1*n:Nat):Int)) rfl rfl (aMQ (1*n) (by omega))) rfl rfl rfl ?_;refine aA (AEff.conv (rJ aD (n:=((1*n:Nat):Int)) (by simp;omega) rfl rfl rfl rfl rfl rfl rfl rfl) (v':= .own 0 0 n) (ed':=[(0,some ⟨6,List.replicate n aHv⟩)]) (by simp) (by simp only [dH,Nat.one_mul];rfl)) rfl rfl rfl ?_
 repeat (first
  |refine dK ?_
  |refine fS ?_
  |refine cW ?_
  |refine gP ?_
  |refine aI ?_
  |refine aB ?_
  |refine aV ?_
  |refine bH ?_
  |refine aL ?_
  |refine block_out rfl ?_
  |refine aN MIX ?_
  |refine aE ?_
  |refine aG ?_
  |refine aU ?_
  |refine aJ ?_
  |refine aA (cS rfl) rfl rfl rfl ?_
  |refine aA (cI aD rfl rfl rfl rfl rfl rfl rfl) rfl rfl rfl ?_
  |refine aA (eW aD rfl rfl rfl rfl rfl rfl rfl) rfl rfl rfl ?_
  |refine aA (cX rfl) rfl rfl rfl ?_
  |refine aA (fK aD rfl rfl rfl) rfl rfl rfl ?_
  |refine aA (gC aD rfl rfl rfl rfl rfl rfl) rfl rfl rfl ?_
  |refine aA (pM rfl rfl rfl) rfl rfl rfl ?_
  |refine aA (bJ aD rfl rfl rfl rfl rfl rfl (oH (by omega))) rfl rfl rfl ?_
  |refine aA (bJ aD rfl rfl rfl rfl rfl rfl (jW (at_lt (by omega)))) rfl rfl rfl ?_
  |refine aA (w_add rfl rfl (by omega)) rfl rfl rfl ?_
  |refine iC rfl rfl ?_
  |refine aA (gS rfl rfl) rfl rfl rfl ?_
  |refine aA (eJ aD rfl rfl rfl rfl rfl rfl) rfl rfl rfl ?_
  |refine aA (dL rfl) rfl rfl rfl ?_
  |refine aA (yQ rfl rfl rfl rfl) rfl rfl rfl ?_
  |refine aA (bX aD rfl rfl) rfl rfl rfl ?_
  |refine aA (lG aD rfl rfl rfl rfl rfl rfl rfl rfl) rfl rfl rfl ?_
  |refine aA (cA aD rfl rfl rfl rfl) rfl rfl rfl ?_
  |refine aA (w_len_nil aD rfl rfl rfl) rfl rfl rfl ?_
  |refine aA (bD rfl rfl (by intro _ h;cases h)) rfl rfl rfl ?_
  |refine aA (zY aD rfl rfl rfl rfl rfl rfl rfl rfl rfl rfl rfl) rfl rfl rfl ?_
  |refine aA (dE aD rfl rfl rfl rfl rfl rfl) rfl rfl rfl ?_)
 rcases Nat.eq_zero_or_pos n with h0|h0
 ·subst h0;refine aA (aUO aD (news:=[eR c]) (k:=6) rfl rfl rfl rfl rfl rfl rfl rfl) rfl rfl rfl ?_
  repeat (first
   |refine dK ?_
   |refine fS ?_
   |refine cW ?_
   |refine gP ?_
   |refine aI ?_
   |refine aB ?_
   |refine aV ?_
   |refine bH ?_
   |refine aL ?_
   |refine block_out rfl ?_
   |refine aN MIX ?_
   |refine aE ?_
   |refine aG ?_
   |refine aU ?_
   |refine aJ ?_
   |refine aA (cS rfl) rfl rfl rfl ?_
   |refine aA (cI aD rfl rfl rfl rfl rfl rfl rfl) rfl rfl rfl ?_
   |refine aA (eW aD rfl rfl rfl rfl rfl rfl rfl) rfl rfl rfl ?_
   |refine aA (cX rfl) rfl rfl rfl ?_
   |refine aA (fK aD rfl rfl rfl) rfl rfl rfl ?_
   |refine aA (gC aD rfl rfl rfl rfl rfl rfl) rfl rfl rfl ?_
   |refine aA (pM rfl rfl rfl) rfl rfl rfl ?_
   |refine aA (bJ aD rfl rfl rfl rfl rfl rfl (oH (by omega))) rfl rfl rfl ?_
   |refine aA (bJ aD rfl rfl rfl rfl rfl rfl (jW (at_lt (by omega)))) rfl rfl rfl ?_
   |refine aA (w_add rfl rfl (by omega)) rfl rfl rfl ?_
   |refine iC rfl rfl ?_
   |refine aA (gS rfl rfl) rfl rfl rfl ?_
   |refine aA (eJ aD rfl rfl rfl rfl rfl rfl) rfl rfl rfl ?_
   |refine aA (dL rfl) rfl rfl rfl ?_
   |refine aA (yQ rfl rfl rfl rfl) rfl rfl rfl ?_
   |refine aA (bX aD rfl rfl) rfl rfl rfl ?_
   |refine aA (lG aD rfl rfl rfl rfl rfl rfl rfl rfl) rfl rfl rfl ?_
   |refine aA (cA aD rfl rfl rfl rfl) rfl rfl rfl ?_
   |refine aA (w_len_nil aD rfl rfl rfl) rfl rfl rfl ?_
   |refine aA (bD rfl rfl (by intro _ h;cases h)) rfl rfl rfl ?_
   |refine aA (zY aD rfl rfl rfl rfl rfl rfl rfl rfl rfl rfl rfl) rfl rfl rfl ?_
   |refine aA (dE aD rfl rfl rfl rfl rfl rfl) rfl rfl rfl ?_)
  refine aDn (ι:=Nat) (λk=>mkS [(7,.own 0 0 0),(8,.int k)] [(0,⟨6,List.replicate 0 aHv⟩)] 1 [1,2,3,4] ⟨0,false,none,true⟩) (λk=>k=0) (λk=>0) 0 rfl ?_ ?_
  ·refine fX (σ:=sg [(0,0)]) ⟨⟨_,rfl,⟨rfl,rfl,rfl,rfl⟩⟩,⟨_,rfl,rfl⟩,trivial⟩ ⟨⟨_,rfl,rfl,.inl ⟨rfl,λ_ h=>by cases h⟩⟩,rfl,trivial⟩ rfl
  ·rintro k rfl
   repeat (first
    |refine dK ?_
    |refine fS ?_
    |refine cW ?_
    |refine gP ?_
    |refine aI ?_
    |refine aB ?_
    |refine aV ?_
    |refine bH ?_
    |refine aL ?_
    |refine block_out rfl ?_
    |refine aN MIX ?_
    |refine aE ?_
    |refine aG ?_
    |refine aU ?_
    |refine aJ ?_
    |refine aA (cS rfl) rfl rfl rfl ?_
    |refine aA (cI aD rfl rfl rfl rfl rfl rfl rfl) rfl rfl rfl ?_
    |refine aA (eW aD rfl rfl rfl rfl rfl rfl rfl) rfl rfl rfl ?_
    |refine aA (cX rfl) rfl rfl rfl ?_
    |refine aA (fK aD rfl rfl rfl) rfl rfl rfl ?_
    |refine aA (gC aD rfl rfl rfl rfl rfl rfl) rfl rfl rfl ?_
    |refine aA (pM rfl rfl rfl) rfl rfl rfl ?_
    |refine aA (bJ aD rfl rfl rfl rfl rfl rfl (oH (by omega))) rfl rfl rfl ?_
    |refine aA (bJ aD rfl rfl rfl rfl rfl rfl (jW (at_lt (by omega)))) rfl rfl rfl ?_
    |refine aA (w_add rfl rfl (by omega)) rfl rfl rfl ?_
    |refine iC rfl rfl ?_
    |refine aA (gS rfl rfl) rfl rfl rfl ?_
    |refine aA (eJ aD rfl rfl rfl rfl rfl rfl) rfl rfl rfl ?_
    |refine aA (dL rfl) rfl rfl rfl ?_
    |refine aA (yQ rfl rfl rfl rfl) rfl rfl rfl ?_
    |refine aA (bX aD rfl rfl) rfl rfl rfl ?_
    |refine aA (lG aD rfl rfl rfl rfl rfl rfl rfl rfl) rfl rfl rfl ?_
    |refine aA (cA aD rfl rfl rfl rfl) rfl rfl rfl ?_
    |refine aA (w_len_nil aD rfl rfl rfl) rfl rfl rfl ?_
    |refine aA (bD rfl rfl (by intro _ h;cases h)) rfl rfl rfl ?_
    |refine aA (zY aD rfl rfl rfl rfl rfl rfl rfl rfl rfl rfl rfl) rfl rfl rfl ?_
    |refine aA (dE aD rfl rfl rfl rfl rfl rfl) rfl rfl rfl ?_)
   refine pN rfl (λh=>?_) (λh=>?_)
   ·cases h
   ·clear h
    repeat (first
     |refine dK ?_
     |refine fS ?_
     |refine cW ?_
     |refine gP ?_
     |refine aI ?_
     |refine aB ?_
     |refine aV ?_
     |refine bH ?_
     |refine aL ?_
     |refine block_out rfl ?_
     |refine aN MIX ?_
     |refine aE ?_
     |refine aG ?_
     |refine aU ?_
     |refine aJ ?_
     |refine aA (cS rfl) rfl rfl rfl ?_
     |refine aA (cI aD rfl rfl rfl rfl rfl rfl rfl) rfl rfl rfl ?_
     |refine aA (eW aD rfl rfl rfl rfl rfl rfl rfl) rfl rfl rfl ?_
     |refine aA (cX rfl) rfl rfl rfl ?_
     |refine aA (fK aD rfl rfl rfl) rfl rfl rfl ?_
     |refine aA (gC aD rfl rfl rfl rfl rfl rfl) rfl rfl rfl ?_
     |refine aA (pM rfl rfl rfl) rfl rfl rfl ?_
     |refine aA (bJ aD rfl rfl rfl rfl rfl rfl (oH (by omega))) rfl rfl rfl ?_
     |refine aA (bJ aD rfl rfl rfl rfl rfl rfl (jW (at_lt (by omega)))) rfl rfl rfl ?_
     |refine aA (w_add rfl rfl (by omega)) rfl rfl rfl ?_
     |refine iC rfl rfl ?_
     |refine aA (gS rfl rfl) rfl rfl rfl ?_
     |refine aA (eJ aD rfl rfl rfl rfl rfl rfl) rfl rfl rfl ?_
     |refine aA (dL rfl) rfl rfl rfl ?_
     |refine aA (yQ rfl rfl rfl rfl) rfl rfl rfl ?_
     |refine aA (bX aD rfl rfl) rfl rfl rfl ?_
     |refine aA (lG aD rfl rfl rfl rfl rfl rfl rfl rfl) rfl rfl rfl ?_
     |refine aA (cA aD rfl rfl rfl rfl) rfl rfl rfl ?_
     |refine aA (w_len_nil aD rfl rfl rfl) rfl rfl rfl ?_
     |refine aA (bD rfl rfl (by intro _ h;cases h)) rfl rfl rfl ?_
     |refine aA (zY aD rfl rfl rfl rfl rfl rfl rfl rfl rfl rfl rfl) rfl rfl rfl ?_
     |refine aA (dE aD rfl rfl rfl rfl rfl rfl) rfl rfl rfl ?_)
    exact ⟨_,Ent.refl _,rfl,⟨_,rfl,.inl rfl⟩,⟨rfl,trivial⟩⟩
 ·refine aA (AEff.conv (aRA aD (i:=0) (m:=1) (k:=6) (es:=List.replicate n aHv) (news:=[eR c]) (by simp;omega) (by omega) (by omega) rfl rfl rfl rfl (by have:=aPv (a:=aHv) (b:=aHv) rfl rfl n 0;simpa using this) rfl rfl rfl rfl rfl) (v':= .int ((1:Nat):Int)) (ed':=[(0,some ⟨6,List.replicate 1 (eR c)++List.replicate (n - 1) aHv⟩)])
   rfl (by simp [List.drop_replicate])) rfl rfl rfl ?_
  repeat (first
   |refine dK ?_
   |refine fS ?_
   |refine cW ?_
   |refine gP ?_
   |refine aI ?_
   |refine aB ?_
   |refine aV ?_
   |refine bH ?_
   |refine aL ?_
   |refine block_out rfl ?_
   |refine aN MIX ?_
   |refine aE ?_
   |refine aG ?_
   |refine aU ?_
   |refine aJ ?_
   |refine aA (cS rfl) rfl rfl rfl ?_
   |refine aA (cI aD rfl rfl rfl rfl rfl rfl rfl) rfl rfl rfl ?_
   |refine aA (eW aD rfl rfl rfl rfl rfl rfl rfl) rfl rfl rfl ?_
   |refine aA (cX rfl) rfl rfl rfl ?_
   |refine aA (fK aD rfl rfl rfl) rfl rfl rfl ?_
   |refine aA (gC aD rfl rfl rfl rfl rfl rfl) rfl rfl rfl ?_
   |refine aA (pM rfl rfl rfl) rfl rfl rfl ?_
   |refine aA (bJ aD rfl rfl rfl rfl rfl rfl (oH (by omega))) rfl rfl rfl ?_
   |refine aA (bJ aD rfl rfl rfl rfl rfl rfl (jW (at_lt (by omega)))) rfl rfl rfl ?_
   |refine aA (w_add rfl rfl (by omega)) rfl rfl rfl ?_
   |refine iC rfl rfl ?_
   |refine aA (gS rfl rfl) rfl rfl rfl ?_
   |refine aA (eJ aD rfl rfl rfl rfl rfl rfl) rfl rfl rfl ?_
   |refine aA (dL rfl) rfl rfl rfl ?_
   |refine aA (yQ rfl rfl rfl rfl) rfl rfl rfl ?_
   |refine aA (bX aD rfl rfl) rfl rfl rfl ?_
   |refine aA (lG aD rfl rfl rfl rfl rfl rfl rfl rfl) rfl rfl rfl ?_
   |refine aA (cA aD rfl rfl rfl rfl) rfl rfl rfl ?_
   |refine aA (w_len_nil aD rfl rfl rfl) rfl rfl rfl ?_
   |refine aA (bD rfl rfl (by intro _ h;cases h)) rfl rfl rfl ?_
   |refine aA (zY aD rfl rfl rfl rfl rfl rfl rfl rfl rfl rfl rfl) rfl rfl rfl ?_
   |refine aA (dE aD rfl rfl rfl rfl rfl rfl) rfl rfl rfl ?_)
  refine aDn (ι:=Nat) (λk=>mkS [(7,.own 0 0 n),(8,.int k)] [(0,⟨6,List.replicate k (eR c)++List.replicate (n - k) aHv⟩)] 1 [1,2,3,4] ⟨0,false,none,true⟩) (λk=>1≤k∧k≤n) (λk=>n - k) 1 ⟨bO _,h0⟩ ?_ ?_
  ·refine fX (σ:=sg [(0,0)]) ⟨⟨_,rfl,⟨rfl,rfl,rfl,rfl⟩⟩,⟨_,rfl,rfl⟩,trivial⟩ ⟨⟨_,rfl,rfl,.inl ⟨rfl,aLX (List.all_eq_true.1 rfl) (List.all_eq_true.1 rfl) _ _⟩⟩,rfl,trivial⟩ rfl
  ·rintro k ⟨hk1,hkn⟩
   repeat (first
    |refine dK ?_
    |refine fS ?_
    |refine cW ?_
    |refine gP ?_
    |refine aI ?_
    |refine aB ?_
    |refine aV ?_
    |refine bH ?_
    |refine aL ?_
    |refine block_out rfl ?_
    |refine aN MIX ?_
    |refine aE ?_
    |refine aG ?_
    |refine aU ?_
    |refine aJ ?_
    |refine aA (cS rfl) rfl rfl rfl ?_
    |refine aA (cI aD rfl rfl rfl rfl rfl rfl rfl) rfl rfl rfl ?_
    |refine aA (eW aD rfl rfl rfl rfl rfl rfl rfl) rfl rfl rfl ?_
    |refine aA (cX rfl) rfl rfl rfl ?_
    |refine aA (fK aD rfl rfl rfl) rfl rfl rfl ?_
    |refine aA (gC aD rfl rfl rfl rfl rfl rfl) rfl rfl rfl ?_
    |refine aA (pM rfl rfl rfl) rfl rfl rfl ?_
    |refine aA (bJ aD rfl rfl rfl rfl rfl rfl (oH (by omega))) rfl rfl rfl ?_
    |refine aA (bJ aD rfl rfl rfl rfl rfl rfl (jW (at_lt (by omega)))) rfl rfl rfl ?_
    |refine aA (w_add rfl rfl (by omega)) rfl rfl rfl ?_
    |refine iC rfl rfl ?_
    |refine aA (gS rfl rfl) rfl rfl rfl ?_
    |refine aA (eJ aD rfl rfl rfl rfl rfl rfl) rfl rfl rfl ?_
    |refine aA (dL rfl) rfl rfl rfl ?_
    |refine aA (yQ rfl rfl rfl rfl) rfl rfl rfl ?_
    |refine aA (bX aD rfl rfl) rfl rfl rfl ?_
    |refine aA (lG aD rfl rfl rfl rfl rfl rfl rfl rfl) rfl rfl rfl ?_
    |refine aA (cA aD rfl rfl rfl rfl) rfl rfl rfl ?_
    |refine aA (w_len_nil aD rfl rfl rfl) rfl rfl rfl ?_
    |refine aA (bD rfl rfl (by intro _ h;cases h)) rfl rfl rfl ?_
    |refine aA (zY aD rfl rfl rfl rfl rfl rfl rfl rfl rfl rfl rfl) rfl rfl rfl ?_
    |refine aA (dE aD rfl rfl rfl rfl rfl rfl) rfl rfl rfl ?_)
   refine pN rfl (λh=>?_) (λh=>?_)
   ·have hlt:k<n:=by have:=of_decide_eq_true h;omega
    clear h
    repeat (first
     |refine dK ?_
     |refine fS ?_
     |refine cW ?_
     |refine gP ?_
     |refine aI ?_
     |refine aB ?_
     |refine aV ?_
     |refine bH ?_
     |refine aL ?_
     |refine block_out rfl ?_
     |refine aN MIX ?_
     |refine aE ?_
     |refine aG ?_
     |refine aU ?_
     |refine aJ ?_
     |refine aA (cS rfl) rfl rfl rfl ?_
     |refine aA (cI aD rfl rfl rfl rfl rfl rfl rfl) rfl rfl rfl ?_
     |refine aA (eW aD rfl rfl rfl rfl rfl rfl rfl) rfl rfl rfl ?_
     |refine aA (cX rfl) rfl rfl rfl ?_
     |refine aA (fK aD rfl rfl rfl) rfl rfl rfl ?_
     |refine aA (gC aD rfl rfl rfl rfl rfl rfl) rfl rfl rfl ?_
     |refine aA (pM rfl rfl rfl) rfl rfl rfl ?_
     |refine aA (bJ aD rfl rfl rfl rfl rfl rfl (oH (by omega))) rfl rfl rfl ?_
     |refine aA (bJ aD rfl rfl rfl rfl rfl rfl (jW (at_lt (by omega)))) rfl rfl rfl ?_
     |refine aA (w_add rfl rfl (by omega)) rfl rfl rfl ?_
     |refine iC rfl rfl ?_
     |refine aA (gS rfl rfl) rfl rfl rfl ?_
     |refine aA (eJ aD rfl rfl rfl rfl rfl rfl) rfl rfl rfl ?_
     |refine aA (dL rfl) rfl rfl rfl ?_
     |refine aA (yQ rfl rfl rfl rfl) rfl rfl rfl ?_
     |refine aA (bX aD rfl rfl) rfl rfl rfl ?_
     |refine aA (lG aD rfl rfl rfl rfl rfl rfl rfl rfl) rfl rfl rfl ?_
     |refine aA (cA aD rfl rfl rfl rfl) rfl rfl rfl ?_
     |refine aA (w_len_nil aD rfl rfl rfl) rfl rfl rfl ?_
     |refine aA (bD rfl rfl (by intro _ h;cases h)) rfl rfl rfl ?_
     |refine aA (zY aD rfl rfl rfl rfl rfl rfl rfl rfl rfl rfl rfl) rfl rfl rfl ?_
     |refine aA (dE aD rfl rfl rfl rfl rfl rfl) rfl rfl rfl ?_)
    refine aA (AEff.val (uA aD (l:=(k:Int)) (h:=(n:Int)) (by simp;omega) rfl rfl rfl rfl rfl rfl rfl rfl) (v':= .own 0 k (n - k)) (by simp)) rfl rfl rfl ?_
    repeat (first
     |refine dK ?_
     |refine fS ?_
     |refine cW ?_
     |refine gP ?_
     |refine aI ?_
     |refine aB ?_
     |refine aV ?_
     |refine bH ?_
     |refine aL ?_
     |refine block_out rfl ?_
     |refine aN MIX ?_
     |refine aE ?_
     |refine aG ?_
     |refine aU ?_
     |refine aJ ?_
     |refine aA (cS rfl) rfl rfl rfl ?_
     |refine aA (cI aD rfl rfl rfl rfl rfl rfl rfl) rfl rfl rfl ?_
     |refine aA (eW aD rfl rfl rfl rfl rfl rfl rfl) rfl rfl rfl ?_
     |refine aA (cX rfl) rfl rfl rfl ?_
     |refine aA (fK aD rfl rfl rfl) rfl rfl rfl ?_
     |refine aA (gC aD rfl rfl rfl rfl rfl rfl) rfl rfl rfl ?_
     |refine aA (pM rfl rfl rfl) rfl rfl rfl ?_
     |refine aA (bJ aD rfl rfl rfl rfl rfl rfl (oH (by omega))) rfl rfl rfl ?_
     |refine aA (bJ aD rfl rfl rfl rfl rfl rfl (jW (at_lt (by omega)))) rfl rfl rfl ?_
     |refine aA (w_add rfl rfl (by omega)) rfl rfl rfl ?_
     |refine iC rfl rfl ?_
     |refine aA (gS rfl rfl) rfl rfl rfl ?_
     |refine aA (eJ aD rfl rfl rfl rfl rfl rfl) rfl rfl rfl ?_
     |refine aA (dL rfl) rfl rfl rfl ?_
     |refine aA (yQ rfl rfl rfl rfl) rfl rfl rfl ?_
     |refine aA (bX aD rfl rfl) rfl rfl rfl ?_
     |refine aA (lG aD rfl rfl rfl rfl rfl rfl rfl rfl) rfl rfl rfl ?_
     |refine aA (cA aD rfl rfl rfl rfl) rfl rfl rfl ?_
     |refine aA (w_len_nil aD rfl rfl rfl) rfl rfl rfl ?_
     |refine aA (bD rfl rfl (by intro _ h;cases h)) rfl rfl rfl ?_
     |refine aA (zY aD rfl rfl rfl rfl rfl rfl rfl rfl rfl rfl rfl) rfl rfl rfl ?_
     |refine aA (dE aD rfl rfl rfl rfl rfl rfl) rfl rfl rfl ?_)
    refine aA (AEff.val (uA aD (l:=(0:Int)) (h:=(k:Int)) (by simp;omega) rfl rfl rfl rfl rfl rfl rfl rfl) (v':= .own 0 0 k) (by simp)) rfl rfl rfl ?_
    refine aA (AEff.conv (aRA aD (b:=0) (ts:=[0]) (sv:= .own 0 0 k) (i:=k) (nd:=n - k) (m:=min k (n - k)) (k:=6) (es:=List.replicate k (eR c)++List.replicate (n - k) aHv) (news:=List.replicate k (eR c)) (by simp) (by omega) (by omega) rfl rfl rfl ?_ (aPv rfl rfl _ _) (by have:=aPv (a:=eR c) (b:=aHv) rfl rfl k 0;simpa using this) rfl rfl rfl rfl) (v':= .int ((min k (n - k):Nat):Int)) (ed':=[(0,some ⟨6,List.replicate (k+min k (n - k)) (eR c)++List.replicate (n - (k+min k (n - k))) aHv⟩)])
     rfl ?_) rfl rfl rfl ?_
    ·show some (6,((((List.replicate k (eR c)++List.replicate (n - k) aHv).drop 0).take k).map (List.map aBj)),_)=_;rw [List.drop_zero,List.take_left' (by simp),List.map_replicate];rfl
    ·congr 4;rw [List.take_left' (by simp),List.take_replicate,List.drop_append,List.drop_of_length_le (by simp),List.nil_append,List.drop_replicate,List.length_replicate,List.replicate_append_replicate,show min (min k (n - k)) k=min k (n - k) by omega,show n - k - (k+min k (n - k) - k)=n - (k+min k (n - k)) by omega]
    refine aA (bF rfl rfl) rfl rfl rfl ?_
    repeat (first
     |refine dK ?_
     |refine fS ?_
     |refine cW ?_
     |refine gP ?_
     |refine aI ?_
     |refine aB ?_
     |refine aV ?_
     |refine bH ?_
     |refine aL ?_
     |refine block_out rfl ?_
     |refine aN MIX ?_
     |refine aE ?_
     |refine aG ?_
     |refine aU ?_
     |refine aJ ?_
     |refine aA (cS rfl) rfl rfl rfl ?_
     |refine aA (cI aD rfl rfl rfl rfl rfl rfl rfl) rfl rfl rfl ?_
     |refine aA (eW aD rfl rfl rfl rfl rfl rfl rfl) rfl rfl rfl ?_
     |refine aA (cX rfl) rfl rfl rfl ?_
     |refine aA (fK aD rfl rfl rfl) rfl rfl rfl ?_
     |refine aA (gC aD rfl rfl rfl rfl rfl rfl) rfl rfl rfl ?_
     |refine aA (pM rfl rfl rfl) rfl rfl rfl ?_
     |refine aA (bJ aD rfl rfl rfl rfl rfl rfl (oH (by omega))) rfl rfl rfl ?_
     |refine aA (bJ aD rfl rfl rfl rfl rfl rfl (jW (at_lt (by omega)))) rfl rfl rfl ?_
     |refine aA (w_add rfl rfl (by omega)) rfl rfl rfl ?_
     |refine iC rfl rfl ?_
     |refine aA (gS rfl rfl) rfl rfl rfl ?_
     |refine aA (eJ aD rfl rfl rfl rfl rfl rfl) rfl rfl rfl ?_
     |refine aA (dL rfl) rfl rfl rfl ?_
     |refine aA (yQ rfl rfl rfl rfl) rfl rfl rfl ?_
     |refine aA (bX aD rfl rfl) rfl rfl rfl ?_
     |refine aA (lG aD rfl rfl rfl rfl rfl rfl rfl rfl) rfl rfl rfl ?_
     |refine aA (cA aD rfl rfl rfl rfl) rfl rfl rfl ?_
     |refine aA (w_len_nil aD rfl rfl rfl) rfl rfl rfl ?_
     |refine aA (bD rfl rfl (by intro _ h;cases h)) rfl rfl rfl ?_
     |refine aA (zY aD rfl rfl rfl rfl rfl rfl rfl rfl rfl rfl rfl) rfl rfl rfl ?_
     |refine aA (dE aD rfl rfl rfl rfl rfl rfl) rfl rfl rfl ?_)
    refine ⟨by kernel_rfl,?_⟩
    repeat (first
     |refine dK ?_
     |refine fS ?_
     |refine cW ?_
     |refine gP ?_
     |refine aI ?_
     |refine aB ?_
     |refine aV ?_
     |refine bH ?_
     |refine aL ?_
     |refine block_out rfl ?_
     |refine aN MIX ?_
     |refine aE ?_
     |refine aG ?_
     |refine aU ?_
     |refine aJ ?_
     |refine aA (cS rfl) rfl rfl rfl ?_
     |refine aA (cI aD rfl rfl rfl rfl rfl rfl rfl) rfl rfl rfl ?_
     |refine aA (eW aD rfl rfl rfl rfl rfl rfl rfl) rfl rfl rfl ?_
     |refine aA (cX rfl) rfl rfl rfl ?_
     |refine aA (fK aD rfl rfl rfl) rfl rfl rfl ?_
     |refine aA (gC aD rfl rfl rfl rfl rfl rfl) rfl rfl rfl ?_
     |refine aA (pM rfl rfl rfl) rfl rfl rfl ?_
     |refine aA (bJ aD rfl rfl rfl rfl rfl rfl (oH (by omega))) rfl rfl rfl ?_
     |refine aA (bJ aD rfl rfl rfl rfl rfl rfl (jW (at_lt (by omega)))) rfl rfl rfl ?_
     |refine aA (w_add rfl rfl (by omega)) rfl rfl rfl ?_
     |refine iC rfl rfl ?_
     |refine aA (gS rfl rfl) rfl rfl rfl ?_
     |refine aA (eJ aD rfl rfl rfl rfl rfl rfl) rfl rfl rfl ?_
     |refine aA (dL rfl) rfl rfl rfl ?_
     |refine aA (yQ rfl rfl rfl rfl) rfl rfl rfl ?_
     |refine aA (bX aD rfl rfl) rfl rfl rfl ?_
     |refine aA (lG aD rfl rfl rfl rfl rfl rfl rfl rfl) rfl rfl rfl ?_
     |refine aA (cA aD rfl rfl rfl rfl) rfl rfl rfl ?_
     |refine aA (w_len_nil aD rfl rfl rfl) rfl rfl rfl ?_
     |refine aA (bD rfl rfl (by intro _ h;cases h)) rfl rfl rfl ?_
     |refine aA (zY aD rfl rfl rfl rfl rfl rfl rfl rfl rfl rfl rfl) rfl rfl rfl ?_
     |refine aA (dE aD rfl rfl rfl rfl rfl rfl) rfl rfl rfl ?_)
    refine ⟨k+min k (n - k),⟨by omega,by omega⟩,by omega,?_⟩;refine fX (σ:=sg [(0,0)]) ⟨⟨_,rfl,⟨rfl,rfl,rfl,rfl⟩⟩,⟨_,rfl,?_⟩,trivial⟩ ⟨⟨_,rfl,rfl,.inl ⟨rfl,aLX (List.all_eq_true.1 rfl) (List.all_eq_true.1 rfl) _ _⟩⟩,rfl,trivial⟩ rfl;show Value.int .i64 (wr ((k:Int)+((min k (n - k):Nat):Int)))=_;rw [aIk (by omega)];rfl
   ·have hlt:k=n:=by have:=of_decide_eq_false h;omega
    subst hlt;clear h
    repeat (first
     |refine dK ?_
     |refine fS ?_
     |refine cW ?_
     |refine gP ?_
     |refine aI ?_
     |refine aB ?_
     |refine aV ?_
     |refine bH ?_
     |refine aL ?_
     |refine block_out rfl ?_
     |refine aN MIX ?_
     |refine aE ?_
     |refine aG ?_
     |refine aU ?_
     |refine aJ ?_
     |refine aA (cS rfl) rfl rfl rfl ?_
     |refine aA (cI aD rfl rfl rfl rfl rfl rfl rfl) rfl rfl rfl ?_
     |refine aA (eW aD rfl rfl rfl rfl rfl rfl rfl) rfl rfl rfl ?_
     |refine aA (cX rfl) rfl rfl rfl ?_
     |refine aA (fK aD rfl rfl rfl) rfl rfl rfl ?_
     |refine aA (gC aD rfl rfl rfl rfl rfl rfl) rfl rfl rfl ?_
     |refine aA (pM rfl rfl rfl) rfl rfl rfl ?_
     |refine aA (bJ aD rfl rfl rfl rfl rfl rfl (oH (by omega))) rfl rfl rfl ?_
     |refine aA (bJ aD rfl rfl rfl rfl rfl rfl (jW (at_lt (by omega)))) rfl rfl rfl ?_
     |refine aA (w_add rfl rfl (by omega)) rfl rfl rfl ?_
     |refine iC rfl rfl ?_
     |refine aA (gS rfl rfl) rfl rfl rfl ?_
     |refine aA (eJ aD rfl rfl rfl rfl rfl rfl) rfl rfl rfl ?_
     |refine aA (dL rfl) rfl rfl rfl ?_
     |refine aA (yQ rfl rfl rfl rfl) rfl rfl rfl ?_
     |refine aA (bX aD rfl rfl) rfl rfl rfl ?_
     |refine aA (lG aD rfl rfl rfl rfl rfl rfl rfl rfl) rfl rfl rfl ?_
     |refine aA (cA aD rfl rfl rfl rfl) rfl rfl rfl ?_
     |refine aA (w_len_nil aD rfl rfl rfl) rfl rfl rfl ?_
     |refine aA (bD rfl rfl (by intro _ h;cases h)) rfl rfl rfl ?_
     |refine aA (zY aD rfl rfl rfl rfl rfl rfl rfl rfl rfl rfl rfl) rfl rfl rfl ?_
     |refine aA (dE aD rfl rfl rfl rfl rfl rfl) rfl rfl rfl ?_)
    have e1:(List.replicate k (eR c)++List.replicate (k - k) aHv)=List.map eR (List.replicate k c):=by simp
    rw [e1];exact ⟨_,Ent.refl _,rfl,⟨_,rfl,.inl (by simp)⟩,⟨rfl,trivial⟩⟩
def aAr (a0:List Rp) (a1:Int):Option (List Rp):=
 match a0 with
 | [c]=>bif (decide (0≤a1)&&decide (a1≤1048576)) then some (List.replicate a1.toNat c) else none
 |_=>none
theorem aSP (a0:List Rp) (a1:Int) (r:List Rp) (h:aAr a0 a1=some r):HasE Tryz.prog 38 [.list 6 (List.map eR a0),.int a1] [] 0 (.own 0 0 r.length) [(0,⟨6,List.map eR r⟩)]:=by
 obtain ⟨c,rfl⟩: ∃ c,a0=[c]:=by
  unfold aAr at h;split at h
  ·exact ⟨_,rfl⟩
  ·cases h
 simp only [aAr] at h;cases hd:(decide (0≤a1)&&decide (a1≤1048576)) with
 |false=>rw [hd] at h;cases h
 |true=>
  rw [hd] at h;cases h;simp only [dF,iD] at hd;obtain ⟨n,rfl⟩: ∃ n:Nat,a1=n:=⟨a1.toNat,by omega⟩;rw [dH];exact aSO c n (by omega)
end
noncomputable section
section
variable {P:Program} {T:List (Nat×Ty)} {dst:Option Tmp} {ty:TypeId} {pos:String} {aft:Array Edge} {g:Option (Nat×Bool)}
theorem aEf (hT:TyOk P T) {ins:Operand→Option AV} {hp:Hp} {κ:Kp} {x:Operand} {t:Nat} {y:Ty} {cs:List AV} {W:World} {vb:Value} {S:List Nat} {K:List AV→Prop}
  (hfx:κ.fx=rB W) (hrep:RepD W (.ref cs) vb S) (hx:ins x=some (.sc vb)) (hy:dY T t=some y) (h1:(y.desc.isAgg||Nat.beq y.size 1)=true) (hn:y.size≤cs.length) (ok:(cs.take y.size).all jI=true) (h:aFc W (cs.take y.size) K):
  ∃ xs,K xs∧AEff P ⟨dst,.load t x,ty,pos,aft,g⟩ ins hp κ ⟨xQ y.desc.isAgg xs,[],[],[]⟩:=by
 have hlt:=hrep.lt;simp only [RepD] at hrep;obtain ⟨b,o,S',rfl,h4,rfl,h5⟩:=hrep;obtain ⟨us,g1,g2,g3,g4⟩:=h5.vals;obtain ⟨S2,g5,g6⟩:=g1.take y.size;obtain ⟨xs,hk,hxs⟩:=aIF g5 ok h;refine ⟨xs,hk,⟨λC s ν a w Q K {hκ} hi' ht hnw hd hs hK=>?_⟩⟩;have hp1:=hs.ev ((hi' x (by simp [Op.operands])).trans hx);simp only [RepA,RepB,Rep1] at hp1;have hst:=(hs.stays hκ hfx (b:=b) (hlt b (by simp))).1
 have hrun: ∃ v,(execOp a.eval ⟨dst,.load t x,ty,pos,aft,g⟩).run P w= .ok (.value v) w∧RepA w s.heap s.used ν (xQ y.desc.isAgg xs) v:=by
  obtain ⟨ii,z,d,hy'⟩:=hT.is hy;have hl:(us.take y.size).length=y.size:=by simp;omega
  have hr:=oF (P:=P) hy' (w:=w) (b:=b) (o:=o) (vs:=us.take y.size) hl (λhg=>by rw [hg] at h1;simpa using Nat.eq_of_beq_eq_true h1) (λm u hu=>by
   have hm:m<y.size:=by
    rcases eD m y.size with h'|h'
    ·exact h'
    ·rw [gB (by omega)] at hu;cases hu
   rw [List.getElem?_take_of_lt hm] at hu
   exact (aLb hst).trans (g4 m u hu).1)
  refine ⟨_,by simp only [execOp,Instr.loadAt,hp1.1,Instr.sureAddr,Sem.run_bind,Sem.run_pure,Result.andThen_ok];rw [hr];rfl,?_⟩;have e3:=hxs w s.heap s.used ν;cases hg:y.desc.isAgg with
  |true=>
   simp only [xQ,aM,if_true,RepA,RepB];exact ⟨_,rfl,e3⟩
  |false=>
   rw [hg] at h1;have hs1:y.size=1:=Nat.eq_of_beq_eq_true (by simpa using h1);simp only [xQ,aX];revert e3 hl;generalize us.take y.size=vs;intro hl e3
   match xs,vs,e3 with
   | [],vs,e3=>simp only [All2] at e3;subst e3;simp [hs1] at hl
   |d::ds,vs,e3=>
    obtain ⟨v,r,rfl,e6,e7⟩:=e3;simp only [List.headD_cons,List.getElem?_cons_zero,rD,fJ,if_false];exact e6.repA
 obtain ⟨v,h1,h2⟩:=hrun;unfold Oper.wp;rw [h1];simp only [Oper.upon];exact hK ν _ w (hs.step hd (Ext.refl _ _ _ _) (Below.refl _ _) hs.heap rfl h2)
end
section
variable {P:Program} {T:List (Nat×Ty)} {ops:Array Oper} {nt:Nat} {dst:Option Tmp} {ty:TypeId} {pos:String} {aft:Array Edge} {g:Option (Nat×Bool)} {rest:List Oper} {s:AState} {α:Type} {k:Nat} {e:α→List AV}
def aFH (W:World) (cs:List AV) (v:Value):Prop:= ∃ S,RepD W (.ref cs) v S
theorem aEL {l:List α} {i:Nat} {u:α} {W:World} {v:Value} {S:List Nat} (r:RepD W (.list k (l.map e)) v S) (hm:l[i]? =some u):aFH W (e u) (aAH v k i):=aKy (i:=i) (cs:=e u) r (by rw [List.getElem?_map,hm];rfl)
def aPw (v:Value) (j:Nat):Value:=match v with
 | .pointer (some a)=> .pointer (some ⟨a.block,a.off+j,none⟩)
 |v=>v
theorem aPx {W:World} {cs:List AV} {v:Value} (r:aFH W cs v) (j:Nat):aFH W (cs.drop j) (aPw v j):=by
 obtain ⟨S,r⟩:=r;simp only [RepD] at r;obtain ⟨b,o,S',rfl,h4,rfl,h5⟩:=r;obtain ⟨S2,h6,h7⟩:=h5.drop j;exact ⟨b::S2,by simp only [RepD];exact ⟨b,o+j,S2,rfl,h4,rfl,h6⟩⟩
theorem aOa (hT:TyOk P T) {x:Operand} {st f off ft:Nat} {cs:List AV} {y yf:Ty} {fs:List (Nat×Nat)} {W:World} {v:Value} (r:aFH W cs v) (hx:s.ev x=some (.sc v)) (hy:dY T st=some y) (hd:y.desc= .struct fs) (hf:fs[f]? =some (off,ft)) (hft:dY T ft=some yf) (hsz:Nat.beq yf.size 0=false):
  AEff P ⟨dst,.fieldAddr st x f,ty,pos,aft,g⟩ s.ev s.heap s.kp ⟨.sc (aPw v off),[],[],[]⟩:=
 AEff.pure λC s ν a w hi ht hs=>by
  have h1:=hs.ev ((hi x (by simp [Op.operands])).trans hx);simp only [RepA,RepB,Rep1] at h1;obtain ⟨S,r⟩:=r;simp only [RepD] at r;obtain ⟨b,o,S',rfl,h4,rfl,h5⟩:=r;obtain ⟨ii,z,d,hy'⟩:=hT.is hy;obtain ⟨if',zf,df,hyf⟩:=hT.is hft;obtain ⟨fields,hu,fd,hf1,hf2,hf3⟩:=hy'.field hd hf;have hs0:yf.size≠0:=λh=>by rw [h] at hsz;cases hsz
  refine ⟨.pointer (some ⟨b,o+off,none⟩),?_,by simp only [RepA,RepB,Rep1,aPw];exact ⟨trivial,rfl⟩⟩;simp only [execOp,Instr.fieldAt,Sem.run_bind,kD hu,Result.andThen_ok,hf1,h1.1,Instr.sureAddr,fieldPlace,Sem.run_pure,hf3,kL hyf.info,hyf.size,hs0,if_false,hf2];rw [Addr.add_lit]
theorem aOb (hT:TyOk P T) {x:Operand} {t:Nat} {y:Ty} {cs:List AV} {av:AV} {W:World} {v:Value} (r:aFH W cs v) (hfx:s.kp.fx=rB W) (hx:s.ev x=some (.sc v)) (hy:dY T t=some y) (h1:(y.desc.isAgg||Nat.beq y.size 1)=true) (hn:Nat.ble y.size cs.length=true) (hpl:(cs.take y.size).all fE=true) (hv:xQ y.desc.isAgg (cs.take y.size)=av):
  AEff P ⟨dst,.load t x,ty,pos,aft,g⟩ s.ev s.heap s.kp ⟨av,[],[],[]⟩:=by
 obtain ⟨S,hr⟩:=r;exact hv▸aAk hT hfx hr hr.lt hx hy h1 (Nat.le_of_ble_eq_true hn) hpl
theorem aSQ (hT:TyOk P T) {K:AState→Prop} {x:Operand} {t:Nat} {y:Ty} {W:World} {v:Value} {c0:List AV} (cs:List AV) (r:aFH W c0 v) (hfx:s.kp.fx=rB W) (hx:s.ev x=some (.sc v)) (hy:dY T t=some y) (h1:(y.desc.isAgg||Nat.beq y.size 1)=true) (hn:Nat.ble y.size c0.length=true) (hc:c0.take y.size=cs) (ok:cs.all jI=true)
  (hd:aFQ ⟨dst,.load t x,ty,pos,aft,g⟩ nt=true) (hg:nO ops s.env ⟨dst,.load t x,ty,pos,aft,g⟩=some true)
  (h:aFc W cs λxs=>SOps P ops nt rest (s.app dst ⟨xQ y.desc.isAgg xs,[],[],[]⟩) K):SOps P ops nt (⟨dst,.load t x,ty,pos,aft,g⟩::rest) s K:=by
 subst hc;obtain ⟨S',hr⟩:=r;obtain ⟨xs,hk,he⟩:=aEf (dst:=dst) (ty:=ty) (pos:=pos) (aft:=aft) (g:=g) hT (hp:=s.heap) hfx hr hx hy h1 (Nat.le_of_ble_eq_true hn) ok h;exact aNT he hd hg rfl hk
theorem aSR (hT:TyOk P T) {tr:List Tr} {K:List Tr→AState→Prop} {x:Operand} {t:Nat} {y:Ty} {W:World} {v:Value} {c0:List AV} (cs:List AV) (r:aFH W c0 v) (hfx:s.kp.fx=rB W) (hx:s.ev x=some (.sc v)) (hy:dY T t=some y) (h1:(y.desc.isAgg||Nat.beq y.size 1)=true) (hn:Nat.ble y.size c0.length=true) (hc:c0.take y.size=cs) (ok:cs.all jI=true)
  (hd:aFQ ⟨dst,.load t x,ty,pos,aft,g⟩ nt=true) (hg:nO ops s.env ⟨dst,.load t x,ty,pos,aft,g⟩=some true)
  (h:aFc W cs λxs=>AOps P ops nt rest (s.app dst ⟨xQ y.desc.isAgg xs,[],[],[]⟩) (aBk ⟨xQ y.desc.isAgg xs,[],[],[]⟩::tr) K):AOps P ops nt (⟨dst,.load t x,ty,pos,aft,g⟩::rest) s tr K:=by
 subst hc;obtain ⟨S',hr⟩:=r;obtain ⟨xs,hk,he⟩:=aEf (dst:=dst) (ty:=ty) (pos:=pos) (aft:=aft) (g:=g) hT (hp:=s.heap) hfx hr hx hy h1 (Nat.le_of_ble_eq_true hn) ok h;exact aA he hd hg rfl hk
end
end
noncomputable section
set_option maxRecDepth 10000
set_option maxHeartbeats 4000000
def lP (a0:Mt) (a1:Int) (x1:((List Int)×Int)):Option (((List Int)×Int) ⊕ (List Int)):=
 bif decide (x1.2<(((List.replicate a0.rows.toNat (0:Int)).length:Nat):Int)) then
 ((cO a0.cells (wr ((wr (x1.2*a0.cols))+a1))).bind λv2=>
 (cO x1.1 x1.2).bind λv3=>
 some (.inl ((x1.1.set x1.2.toNat v2),wr (x1.2+1))))
 else
 (some (.inr x1.1))
def pD (a0:Mt) (a1:Int):Option (List Int):=
 bif (decide (0≤a0.rows)&&decide (a0.rows≤1048576)) then
 ((Lp (lP a0 a1) ((List.replicate a0.rows.toNat (0:Int)),0)).bind λy4=>
 some (y4))
 else none
theorem aDl (a0:Mt) (a1:Int) (r:(List Int)) (h:pD a0 a1=some r):HasC Tryz.prog 199 [.agg (eM a0),.int a1] (.list 1 (r.map eI)):=by
 refine hM [.tmp 4] Tryz.func199 Tryz.ntmps199 k<|sR<|ae (wb k) k<|aT k2<|sR<|fp k8<|lp k8<|cG h λq5 h=>ae (rJ aD q5 k k k k k k k k) k<|aT k2<|aP (t:=mN [(1,.int a1),(2,.ptr 0 0 0),(5,.own 1 0 ((List.replicate a0.rows.toNat (0:Int)).length))] [(0,⟨3,[eM a0]⟩),(1,⟨1,List.map (ow eI) (List.replicate a0.rows.toNat (0:Int))⟩)] 2) (bS (mG 2 k2 (jJ ⟨_,k,⟨k,k,(by simp only [aO,lA,lT,lR,lC,lN]),k⟩⟩ aR)) (bN k<|hX ⟨_,k,k,.inl ⟨xH (e:=eI) (z:=0) _,cP.plainO _⟩⟩ k<|aR) k4)<|sQ<|sR<|am k k<|ae (cA aD k k k k) k<|am k k<|an<|tn<|aE<|oB h λy4 hy4 h=>cC (body:=(lP a0 a1)) hy4 (λ(x1:((List Int)×Int))=>mN [(1,.int a1),(2,.ptr 0 0 0),(5,.own 1 0 x1.1.length),(11,.int (((List.replicate a0.rows.toNat (0:Int)).length:Nat):Int)),(12,.int x1.2)] [(0,⟨3,[eM a0]⟩),(1,⟨1,x1.1.map (ow eI)⟩)] 2) (λr e t=>e= .exit 0∧Ent t (mN [(5,.own 0 0 r.length)] [(0,⟨1,r.map (ow eI)⟩)] 1)) (bS (bK k2) (bN k<|bP k<|aR) k4) ?_ ?_
 ·intro x1 o h;refine sR<|cm k4<|an<|tn<|sQ<|dR k h (λ_ h=>?_) λ_ h=>aU<|aB<|aB<|sp h ⟨_,k,k,(mX [1] (bK k2) (bP k<|aR) k4)⟩;refine aG<|tn<|sQ<|aE<|sR<|am k k<|aT k2<|rg<|am k k<|am k k<|fp k8<|lp k8<|am k k<|fp k8<|lp k8<|ae (fZ k k) k<|am k k<|ae (bF k k) k<|oB h λv2 hv2 h=>ae (xl hv2 k) k<|lr k7<|oB h λv3 hv3 h=>ae (xo hv3 k) k<|ae (fA aD jX (u:=v2) (dB hv3) k k k k k k) k<|an<|aV<|tn<|rg ?_;exact ae (bF k k) k<|am k k<|an<|tn<|sp h ⟨_,k,(bS (mG 2 k2 (jJ ⟨_,k,⟨k,k,(by simp only [aO,lA,lT,lR,lC,lN]),k⟩⟩ (bK k2))) (bN k<|bP k<|aR) k4)⟩
 ·rintro e t ⟨rfl,hent⟩;exact aL<|tn<|aP hent<|sR<|am k k<|aT k2<|aJ<|sp h (bT k k k (mI (eX cP k k)))
def kJ (a0:Mt) (x1:((List (List Int))×Int)):Option (((List (List Int))×Int) ⊕ (List (List Int))):=
 bif decide (x1.2<a0.cols) then
 ((pD a0 x1.2).bind λv2=>
 bif decide (x1.1.length+1≤4294967296) then
 (some (.inl ((x1.1++[v2]),wr (x1.2+1))))
 else none)
 else
 (some (.inr x1.1))
def jV (a0:Mt):Option (List (List Int)):=
 (Lp (kJ a0) ([],0)).bind λy4=>
 some (y4)
theorem yR (a0:Mt) (r:(List (List Int))) (h:jV a0=some r):HasC Tryz.prog 166 [.agg (eM a0)] (.list 1 (r.map (cH 1 eI))):=by
 refine hM [.tmp 2] Tryz.func166 Tryz.ntmps166 k<|sR<|ae (wb k) k<|aT k2<|sR<|aT k2<|sQ<|sR<|fp k8<|lp k8<|am k k<|an<|tn<|aE<|oB h λy4 hy4 h=>cC (body:=(kJ a0)) hy4 (λ(x1:((List (List Int))×Int))=>mN [(1,.ptr 0 0 0),(3,.own 1 0 x1.1.length),(6,.int a0.cols),(7,.int x1.2)] [(0,⟨3,[eM a0]⟩),(1,⟨1,x1.1.map (ow (cH 1 eI))⟩)] 2) (λr e t=>e= .exit 0∧Ent t (mN [(3,.own 0 0 r.length)] [(0,⟨1,r.map (ow (cH 1 eI))⟩)] 1)) (fX (σ:=sg [(0,0)]) (mG 1 k2 (jJ ⟨_,k,⟨k,k,k,k⟩⟩ (bK k2))) (bN k<|hX k k<|aR) k) ?_ ?_
 ·intro x1 o h;exact sR<|cm k4<|an<|tn<|sQ<|dR k h (λ_ h=>aG<|tn<|sQ<|aE<|sR<|am k k<|aT k2<|rg<|am k k<|lp k8<|am k k<|oB h λv2 hv2 h=>ae (cL cP (aDl a0 x1.2 v2 hv2) k3 (aZ (lQ k) (dW k aS))) k<|ae (wl k) k<|cG h λq3 h=>ae (jY aD (l:=x1.1) (c:=[.own 2 0 v2.length]) q3 k k k k k k k k k k k k k k) k<|aa k k<|an<|aV<|tn<|aP (t:=mN [(1,.ptr 0 0 0),(3,.own 4 0 ((x1.1++[v2]).length)),(6,.int a0.cols),(7,.int x1.2)] [(0,⟨3,[eM a0]⟩),(4,⟨1,List.map (ow (cH 1 eI)) (x1.1++[v2])⟩)] 5) (Ent.trans (eY (b:=4) (b':=2) (j:=0) (es':=v2.map eI) k k k k (aO _ _) (cP.frzs _)) (bS (mG 1 k2 (jJ ⟨_,k,⟨k,k,(by simp only [aO,lA,lT,lR,lC,lN]),k⟩⟩ (bK k2))) (bN k<|hX ⟨_,k,k,.inl ⟨kP v2 k,bA.plainO _⟩⟩ k<|aR) k4))<|rg<|ae (bF k k) k<|am k k<|an<|tn<|sp h ⟨_,k,(mX [0,4] (bK k2) (bN k<|cD (bA.plainO _) k<|aR) k4)⟩) λ_ h=>aU<|aB<|aB<|sp h ⟨_,k,k,(mX [1] (bK k2) (cD (bA.plainO _) k<|aR) k4)⟩
 ·rintro e t ⟨rfl,hent⟩;exact aL<|tn<|aP hent<|sR<|am k k<|aT k2<|aJ<|sp h (bT k k k (mI (eX bA k k)))
def nZ (a0:Mt) (x1:((List (List Int))×Int)):Option (((List (List Int))×Int) ⊕ (List (List Int))):=
 bif decide (x1.2<a0.rows) then
 ((aGc a0 x1.2).bind λv2=>
 (hO v2).bind λv3=>
 bif decide (x1.1.length+1≤4294967296) then
 (some (.inl ((x1.1++[v3]),wr (x1.2+1))))
 else none)
 else
 (some (.inr x1.1))
def nN (a0:Mt):Option (List (List Int)):=
 (Lp (nZ a0) ([],0)).bind λy5=>
 some (y5)
theorem aBI (a0:Mt) (r:(List (List Int))) (h:nN a0=some r):HasC Tryz.prog 204 [.agg (eM a0)] (.list 1 (r.map (cH 1 eI))):=by
 refine hM [.tmp 2] Tryz.func204 Tryz.ntmps204 k<|sR<|ae (wb k) k<|aT k2<|sR<|aT k2<|sQ<|sR<|fp k8<|lp k8<|am k k<|an<|tn<|aE<|oB h λy5 hy5 h=>cC (body:=(nZ a0)) hy5 (λ(x1:((List (List Int))×Int))=>mN [(1,.ptr 0 0 0),(3,.own 1 0 x1.1.length),(6,.int a0.rows),(7,.int x1.2)] [(0,⟨3,[eM a0]⟩),(1,⟨1,x1.1.map (ow (cH 1 eI))⟩)] 2) (λr e t=>e= .exit 0∧Ent t (mN [(3,.own 0 0 r.length)] [(0,⟨1,r.map (ow (cH 1 eI))⟩)] 1)) (fX (σ:=sg [(0,0)]) (mG 1 k2 (jJ ⟨_,k,⟨k,k,k,k⟩⟩ (bK k2))) (bN k<|hX k k<|aR) k) ?_ ?_
 ·intro x1 o h;exact sR<|cm k4<|an<|tn<|sQ<|dR k h (λ_ h=>aG<|tn<|sQ<|aE<|sR<|am k k<|aT k2<|rg<|am k k<|lp k8<|am k k<|oB h λv2 hv2 h=>ae (aIv (aPJ a0 x1.2 v2 hv2) k k k) k<|oB h λv3 hv3 h=>ae (cL cP (wB v2 v3 hv3) k3 (dW k aS)) k<|ae (wl k) k<|cG h λq4 h=>ae (jY aD (l:=x1.1) (c:=[.own 2 0 v3.length]) q4 k k k k k k k k k k k k k k) k<|aa k k<|an<|aV<|tn<|aP (t:=mN [(1,.ptr 0 0 0),(3,.own 4 0 ((x1.1++[v3]).length)),(6,.int a0.rows),(7,.int x1.2)] [(0,⟨3,[eM a0]⟩),(4,⟨1,List.map (ow (cH 1 eI)) (x1.1++[v3])⟩)] 5) (Ent.trans (eY (b:=4) (b':=2) (j:=0) (es':=v3.map eI) k k k k (aO _ _) (cP.frzs _)) (bS (mG 1 k2 (jJ ⟨_,k,⟨k,k,(by simp only [aO,lA,lT,lR,lC,lN]),k⟩⟩ (bK k2))) (bN k<|hX ⟨_,k,k,.inl ⟨kP v3 k,bA.plainO _⟩⟩ k<|aR) k4))<|rg<|ae (bF k k) k<|am k k<|an<|tn<|sp h ⟨_,k,(mX [0,4] (bK k2) (bN k<|cD (bA.plainO _) k<|aR) k4)⟩) λ_ h=>aU<|aB<|aB<|sp h ⟨_,k,k,(mX [1] (bK k2) (cD (bA.plainO _) k<|aR) k4)⟩
 ·rintro e t ⟨rfl,hent⟩;exact aL<|tn<|aP hent<|sR<|am k k<|aT k2<|aJ<|sp h (bT k k k (mI (eX bA k k)))
def xD (a0:Int) (a1:(List (List Int))):Option Mt:=
 (fL a1).bind λv1=>
 some ((⟨(a1.length:Int),a0,v1⟩:Mt))
theorem aHw (a0:Int) (a1:(List (List Int))) (r:Mt) (h:xD a0 a1=some r):HasC Tryz.prog 203 [.int a0,.list 1 (a1.map (cH 1 eI))] (.agg (eM r)):=by
 exact hM [.cell 4 91] Tryz.func203 Tryz.ntmps203 k<|sR<|ae (bX aD k k) k<|an<|tn<|sR<|am k k<|ln k4<|am k k<|am k k<|oB h λv1 hv1 h=>ae (cL cP (vS a1 v1 hv1) k3 (dW k aS)) k<|ae (dE aD k k k k k k) k<|ae (ws k) k<|an<|tn<|aJ<|sp h (bT k k k (pH (aH (k) (aH (k) (aH (eX cP k k) eH)))))
def mS (a0:(List Mt)) (x1:((List Mt)×Int)):Option (((List Mt)×Int) ⊕ (List Mt)):=
 bif decide (x1.2<(a0.length:Int)) then
 ((cO a0 x1.2).bind λv2=>
 (gY v2).bind λv3=>
 bif decide (x1.1.length+1≤4294967296) then
 (some (.inl ((x1.1++[v3]),wr (x1.2+1))))
 else none)
 else
 (some (.inr x1.1))
def qA (a0:(List Mt)):Option (List Mt):=
 (Lp (mS a0) ([],0)).bind λy5=>
 some (y5)
theorem aES (a0:(List Mt)) (r:(List Mt)) (h:qA a0=some r):HasC Tryz.prog 122 [.list 3 (a0.map eM)] (.list 3 (r.map eM)):=by
 refine hM [.tmp 2] Tryz.func122 Tryz.ntmps122 k<|sR<|aT k2<|sR<|aT k2<|sQ<|sR<|am k k<|ln k4<|am k k<|an<|tn<|aE<|oB h λy5 hy5 h=>cC (body:=(mS a0)) hy5 (λ(x1:((List Mt)×Int))=>mN [(3,.own 0 0 x1.1.length),(6,.list 3 (a0.map eM)),(7,.int (a0.length:Int)),(8,.int x1.2)] [(0,⟨3,x1.1.map (ow eM)⟩)] 1) (λr e t=>e= .exit 0∧Ent t (mN [(3,.own 0 0 r.length)] [(0,⟨3,r.map (ow eM)⟩)] 1)) (fX (σ:=sg []) (jJ ⟨_,k,⟨k,k,k,k⟩⟩ (bK k2)) (hX k k<|aR) k) ?_ ?_
 ·intro x1 o h;exact sR<|cm k4<|an<|tn<|sQ<|dR k h (λ_ h=>aG<|tn<|sQ<|aE<|sR<|oB h λv2 hv2 h=>ae (xl hv2 k) k<|lr k7<|ae (bX aD k k) k<|ae (ws k) k<|an<|tn<|rg<|am k k<|lp k8<|oB h λv3 hv3 h=>ae (cM (vJ v2 v3 hv3) k3 (aZ (lQ k) aS)) k<|ae (wl k) k<|cG h λq4 h=>ae (jY aD (l:=x1.1) (c:=[.int v3.rows,.int v3.cols,.own 2 0 v3.cells.length]) q4 k k k k k k k k k k k k k k) k<|aa k k<|an<|aV<|tn<|aP (t:=mN [(3,.own 4 0 ((x1.1++[v3]).length)),(6,.list 3 (a0.map eM)),(7,.int (a0.length:Int)),(8,.int x1.2)] [(4,⟨3,List.map (ow eM) (x1.1++[v3])⟩)] 5) (Ent.trans (eY (b:=4) (b':=2) (j:=2) (es':=v3.cells.map eI) k k k k (aO _ _) (cP.frzs _)) (bS (jJ ⟨_,k,⟨k,k,(by simp only [aO,lA,lT,lR,lC,lN]),k⟩⟩ (bK k2)) (hX ⟨_,k,k,.inl ⟨kP v3 k,cE.plainO _⟩⟩ k<|aR) k4))<|rg<|ae (bF k k) k<|am k k<|an<|tn<|sp h ⟨_,k,(mX [4] (bK k2) (cD (cE.plainO _) k<|aR) k4)⟩) λ_ h=>aU<|aB<|aB<|sp h ⟨_,k,k,(bS (bK k2) (cD (cE.plainO _) k<|aR) k4)⟩
 ·rintro e t ⟨rfl,hent⟩;exact aL<|tn<|aP hent<|sR<|am k k<|aT k2<|aJ<|sp h (bT k k k (mI (eX cE k k)))
def vA (a0:Rp):Option Rp:=
 (mB a0.q).bind λv1=>
 (hO a0.dims).bind λv2=>
 (qA a0.maps).bind λv3=>
 some ((⟨a0.p,v1,v2,v3⟩:Rp))
theorem aHE (a0:Rp) (r:Rp) (h:vA a0=some r):HasC Tryz.prog 63 [.agg (eR a0)] (.agg (eR r)):=by
 exact hM [.cell 2 29] Tryz.func63 Tryz.ntmps63 k<|sR<|ae (wb k) k<|ae (bX aD k k) k<|an<|tn<|sQ<|aN gD<|fp k8<|lp k8<|fp k8<|lp k8<|oB h λv1 hv1 h=>ae (cQ (aAW a0.q v1 hv1) k3 (aZ (lQ k) aS)) k<|fp k8<|lp k8<|oB h λv2 hv2 h=>ae (cL cP (wB a0.dims v2 hv2) k3 (dW k aS)) k<|fp k8<|lp k8<|oB h λv3 hv3 h=>ae (cL cE (aES a0.maps v3 hv3) k3 (dW k aS)) k<|ae (dE aD k k k k k k) k<|ae (ws k) k<|an<|rC (by kernel_rfl)<|tn<|aJ<|sp h (bT k k k (pH (aH (k) (aH (k) (aH (eX cP k k) (aH (eX cP k k) (aH (eX cP k k) (aH (eX cE k k) eH))))))))
def vY (a0:Mt) (a1:Mt):Option Mt:=
 (jV a0).bind λv1=>
 (jV a1).bind λv2=>
 bif decide (v1.length+v2.length≤4294967296) then
 ((nH a0.rows (v1++v2)).bind λv4=>
 some (v4))
 else none
theorem aEg (a0:Mt) (a1:Mt) (r:Mt) (h:vY a0 a1=some r):HasC Tryz.prog 120 [.agg (eM a0),.agg (eM a1)] (.agg (eM r)):=by
 exact hM [.cell 4 91] Tryz.func120 Tryz.ntmps120 k<|sR<|ae (wb k) k<|ae (wb k) k<|ae (bX aD k k) k<|an<|tn<|sQ<|aN gD<|fp k8<|lp k8<|lp k8<|oB h λv1 hv1 h=>ae (cL bA (yR a0 v1 hv1) k3 (aZ (lQ k) aS)) k<|lp k8<|oB h λv2 hv2 h=>ae (cL bA (yR a1 v2 hv2) k3 (aZ (lQ k) aS)) k<|cG h λq3 h=>ae (aNv aD (l:=v1) (m:=v2) bA q3 k k k k k k k k k k k k k k) k<|oB h λv4 hv4 h=>ae (cM (aBD a0.rows (v1++v2) v4 hv4) k3 (dW k (aZ (aAv bA k k) aS))) k<|ae (ws k) k<|an<|rC (by kernel_rfl)<|tn<|aJ<|sp h (bT k k k (pH (aH (k) (aH (k) (aH (eX cP k k) eH)))))
def aAp (a0:Mt) (a1:Mt):Option Mt:=
 (nN a0).bind λv1=>
 (nN a1).bind λv2=>
 bif decide (v1.length+v2.length≤4294967296) then
 ((xD a0.cols (v1++v2)).bind λv4=>
 some (v4))
 else none
theorem aMi (a0:Mt) (a1:Mt) (r:Mt) (h:aAp a0 a1=some r):HasC Tryz.prog 172 [.agg (eM a0),.agg (eM a1)] (.agg (eM r)):=by
 exact hM [.cell 4 91] Tryz.func172 Tryz.ntmps172 k<|sR<|ae (wb k) k<|ae (wb k) k<|ae (bX aD k k) k<|an<|tn<|sQ<|aN gD<|fp k8<|lp k8<|lp k8<|oB h λv1 hv1 h=>ae (cL bA (aBI a0 v1 hv1) k3 (aZ (lQ k) aS)) k<|lp k8<|oB h λv2 hv2 h=>ae (cL bA (aBI a1 v2 hv2) k3 (aZ (lQ k) aS)) k<|cG h λq3 h=>ae (aNv aD (l:=v1) (m:=v2) bA q3 k k k k k k k k k k k k k k) k<|oB h λv4 hv4 h=>ae (cM (aHw a0.cols (v1++v2) v4 hv4) k3 (dW k (aZ (aAv bA k k) aS))) k<|ae (ws k) k<|an<|rC (by kernel_rfl)<|tn<|aJ<|sp h (bT k k k (pH (aH (k) (aH (k) (aH (eX cP k k) eH)))))
def zW (a0:Mt) (a1:Mt) (a2:Mt):Option Mt:=
 (vY a0 a1).bind λv1=>
 (mT a2.rows a0.cols).bind λv2=>
 (vY v2 a2).bind λv3=>
 (aAp v1 v3).bind λv4=>
 some (v4)
theorem aKL (a0:Mt) (a1:Mt) (a2:Mt) (r:Mt) (h:zW a0 a1 a2=some r):HasC Tryz.prog 136 [.agg (eM a0),.agg (eM a1),.agg (eM a2)] (.agg (eM r)):=by
 exact hM [.cell 6 91] Tryz.func136 Tryz.ntmps136 k<|sR<|ae (wb k) k<|ae (wb k) k<|ae (wb k) k<|ae (bX aD k k) k<|an<|tn<|sQ<|aN gD<|lp k8<|lp k8<|oB h λv1 hv1 h=>ae (cM (aEg a0 a1 v1 hv1) k3 (aZ (lQ k) (aZ (lQ k) aS))) k<|fp k8<|lp k8<|fp k8<|lp k8<|oB h λv2 hv2 h=>ae (cM (uB a2.rows a0.cols v2 hv2) k3 (dW k (dW k aS))) k<|lp k8<|oB h λv3 hv3 h=>ae (cM (aEg v2 a2 v3 hv3) k3 (aZ (vaM k2) (aZ (lQ k) aS))) k<|oB h λv4 hv4 h=>ae (cM (aMi v1 v3 v4 hv4) k3 (aZ (vaM k2) (aZ (vaM k2) aS))) k<|ae (ws k) k<|an<|rC (by kernel_rfl)<|tn<|aJ<|sp h (bT k k k (pH (aH (k) (aH (k) (aH (eX cP k k) eH)))))
def qB (a1:Rp) (x1:((List Int)×Int)):Option (((List Int)×Int) ⊕ (List Int)):=
 bif decide (x1.2<(a1.dims.length:Int)) then
 ((cO a1.dims x1.2).bind λv3=>
 (cO x1.1 x1.2).bind λv4=>
 (cO x1.1 x1.2).bind λv5=>
 some (.inl ((x1.1.set x1.2.toNat (wr (v4+v3))),wr (x1.2+1))))
 else
 (some (.inr x1.1))
def qC (a0:Rp) (a1:Rp) (x2:((List Mt)×Int)):Option (((List Mt)×Int) ⊕ (List Mt)):=
 bif decide (x2.2<(a1.maps.length:Int)) then
 ((cO a1.maps x2.2).bind λv8=>
 (cO x2.1 x2.2).bind λv9=>
 (cO a0.maps x2.2).bind λv10=>
 (cO a0.maps x2.2).bind λv11=>
 (mT v11.rows v8.cols).bind λv12=>
 (zW v10 v12 v8).bind λv13=>
 some (.inl ((x2.1.set x2.2.toNat v13),wr (x2.2+1))))
 else
 (some (.inr x2.1))
def vB (a0:Rp) (a1:Rp):Option Rp:=
 (vA a0).bind λv1=>
 (Lp (qB a1) (v1.dims,0)).bind λy6=>
 (Lp (qC a0 a1) (v1.maps,0)).bind λy14=>
 some ((⟨v1.p,v1.q,y6,y14⟩:Rp))
theorem aHF (a0:Rp) (a1:Rp) (r:Rp) (h:vB a0 a1=some r):HasC Tryz.prog 84 [.agg (eR a0),.agg (eR a1)] (.agg (eR r)):=by
 refine aFd aD (rvs:=[.cell 4 29]) (ns:=nmA) Tryz.func84 k k Tryz.ntmps84 k k k (λW=>?_);refine aCM<|wC<|wC<|sZ (λw0_2 S0_2 r0_2=>?_);refine sZ (λw0_3 S0_3 r0_3=>?_);refine sZ (λw0_4 S0_4 r0_4=>?_);refine sZ (λw0_5 S0_5 r0_5=>?_);refine aAC<|aCM<|wC<|wC<|sZ (λw1_2 S1_2 r1_2=>?_);refine sZ (λw1_3 S1_3 r1_3=>?_);refine sZ (λw1_4 S1_4 r1_4=>?_);refine sZ (λw1_5 S1_5 r1_5=>?_);refine aAC<|aCL<|sS<|se (wb k) k<|se (wb k) k<|se (bX aD k k) k<|sn<|tn<|sS<|zD k8<|oB h λv1 hv1 h=>se (cRK (aHE a0 v1 hv1) k3 (fY (vrR k r0_2 r0_3 r0_4 r0_5) jO)) k<|se (bX aD k k) k<|se (ws k) k<|sn<|tn<|sQ<|sS<|fpS k8<|zD k8<|se (aEG aD r1_4 k k k) k<|eV k2<|sn<|tn<|aE<|oB h λy6 hy6 h=>cC (body:=(qB a1)) hy6 (λ(x1:((List Int)×Int))=>mN [(2,.ptr 0 0 0),(3,.ptr 1 0 0),(4,.ptr 2 0 0),(5,.ptr 3 0 0),(13,.sc w1_4),(14,.int (a1.dims.length:Int)),(15,.int x1.2)] [(0,⟨6,[[.int a0.p,.int a0.q.n,.sc w0_2,.sc w0_3,.sc w0_4,.sc w0_5]]⟩),(1,⟨6,[[.int a1.p,.int a1.q.n,.sc w1_2,.sc w1_3,.sc w1_4,.sc w1_5]]⟩),(2,⟨6,[iS]⟩),(3,⟨6,[[.int v1.p,.int v1.q.n,.own 4 0 v1.q.src.length,.own 5 0 v1.q.tgt.length,.own 6 0 x1.1.length,.own 7 0 v1.maps.length]]⟩),(4,⟨1,v1.q.src.map (ow eI)⟩),(5,⟨1,v1.q.tgt.map (ow eI)⟩),(6,⟨1,x1.1.map (ow eI)⟩),(7,⟨3,v1.maps.map (ow eM)⟩)] 8 ⟨0,true,rB W,true⟩) (λr e t=>e= .exit 0∧Ent t (mN [(2,.ptr 0 0 0),(3,.ptr 1 0 0),(4,.ptr 2 0 0),(5,.ptr 3 0 0)] [(0,⟨6,[[.int a0.p,.int a0.q.n,.sc w0_2,.sc w0_3,.sc w0_4,.sc w0_5]]⟩),(1,⟨6,[[.int a1.p,.int a1.q.n,.sc w1_2,.sc w1_3,.sc w1_4,.sc w1_5]]⟩),(2,⟨6,[iS]⟩),(3,⟨6,[[.int v1.p,.int v1.q.n,.own 4 0 v1.q.src.length,.own 5 0 v1.q.tgt.length,.own 6 0 r.length,.own 7 0 v1.maps.length]]⟩),(4,⟨1,v1.q.src.map (ow eI)⟩),(5,⟨1,v1.q.tgt.map (ow eI)⟩),(6,⟨1,r.map (ow eI)⟩),(7,⟨3,v1.maps.map (ow eM)⟩)] 8 ⟨0,true,rB W,true⟩)) (mX [0,1,2,7,3,4,5,6] (bK k2) (bN k<|bN k<|bN k<|fF k<|bP k<|bP k<|bP k<|cD (cE.plainO _) k<|aR) k4) ?_ ?_
 ·intro x1 o h;refine sS<|cmS k4<|sn<|tn<|sQ<|dR k h (λ_ h=>?_) λ_ h=>aU<|aB<|aB<|sp h ⟨_,k,k,(bS (bK k2) (bN k<|bN k<|bN k<|fF k<|bP k<|bP k<|bP k<|cD (cE.plainO _) k<|aR) k4)⟩;refine aG<|tn<|sQ<|aE<|sS<|eV k2<|oB h λv3 hv3 h=>se (aAI aD r1_4 hv3 k k k k k k) k<|se (aCs aD r1_4 (dB hv3) k k k k k k k) k<|gT k2<|gT k2<|sn<|tn<|rgS<|fpS k8<|zD k8<|eV k2<|oB h λv4 hv4 h=>se (xo hv4 k) k<|se (wp hv4 k) k<|eV k2<|se (bF k k) k<|oB h λv5 hv5 h=>se (xo hv5 k) k<|se (fA aD jX (u:=wr (v4+v3)) (dB hv5) k k k k k k) k<|sn<|aV<|tn<|rgS<|se (bF k k) k<|eV k2 ?_;exact sn<|tn<|sp h ⟨_,k,(bS (bK k2) (bN k<|bN k<|bN k<|hX ⟨_,k,k,.inr ⟨_,_,k,⟨_,_,k,k,⟨_,_,k,k,⟨_,_,k,⟨k,k,k,k⟩,⟨_,_,k,⟨k,k,k,k⟩,⟨_,_,k,⟨k,k,(by simp only [aO,lA,lT,lR,lC,lN]),k⟩,⟨_,_,k,⟨k,k,k,k⟩,k⟩⟩⟩⟩⟩⟩,k⟩⟩ k<|bP k<|bP k<|bP k<|cD (cE.plainO _) k<|aR) k4)⟩
 ·rintro e t ⟨rfl,hent⟩;refine aL<|tn<|aP hent<|sQ<|sS<|fpS k8<|zD k8<|se (aEG aD r1_5 k k k) k<|eV k2<|sn<|tn<|aE<|oB h λy14 hy14 h=>cC (body:=(qC a0 a1)) hy14 (λ(x2:((List Mt)×Int))=>mN [(2,.ptr 0 0 0),(4,.ptr 1 0 0),(5,.ptr 2 0 0),(30,.sc w1_5),(31,.int (a1.maps.length:Int)),(32,.int x2.2)] [(0,⟨6,[[.int a0.p,.int a0.q.n,.sc w0_2,.sc w0_3,.sc w0_4,.sc w0_5]]⟩),(1,⟨6,[iS]⟩),(2,⟨6,[[.int v1.p,.int v1.q.n,.own 3 0 v1.q.src.length,.own 4 0 v1.q.tgt.length,.own 5 0 y6.length,.own 6 0 x2.1.length]]⟩),(3,⟨1,v1.q.src.map (ow eI)⟩),(4,⟨1,v1.q.tgt.map (ow eI)⟩),(5,⟨1,y6.map (ow eI)⟩),(6,⟨3,x2.1.map (ow eM)⟩)] 7 ⟨0,true,rB W,true⟩) (λr e t=>e= .exit 2∧Ent t (mN [(4,.ptr 0 0 0),(5,.ptr 1 0 0)] [(0,⟨6,[iS]⟩),(1,⟨6,[[.int v1.p,.int v1.q.n,.own 2 0 v1.q.src.length,.own 3 0 v1.q.tgt.length,.own 4 0 y6.length,.own 5 0 r.length]]⟩),(2,⟨1,v1.q.src.map (ow eI)⟩),(3,⟨1,v1.q.tgt.map (ow eI)⟩),(4,⟨1,y6.map (ow eI)⟩),(5,⟨3,r.map (ow eM)⟩)] 6 ⟨0,true,rB W,true⟩)) (mX [0,2,3,4,5,6,7] (bK k2) (bN k<|bN k<|fF k<|bP k<|bP k<|bP k<|cD (cE.plainO _) k<|aR) k4) ?_ ?_
  ·intro x2 o h;refine sS<|cmS k4<|sn<|tn<|sQ<|dR k h (λ_ h=>?_) λ_ h=>aU<|aB<|aB<|sp h ⟨_,k,k,(mX [1,2,3,4,5,6] (bK k2) (bN k<|fF k<|bP k<|bP k<|bP k<|cD (cE.plainO _) k<|aR) k4)⟩;refine aG<|tn<|sQ<|aE<|sS<|eV k2<|oB h λv8 hv8 h=>se (aAI aD r1_5 hv8 k k k k k k) k<|aSQ aD [.int v8.rows,.int v8.cols,.list 1 (v8.cells.map eI)] (aEL r1_5 (dB hv8)) k k k k k k k k k<|wC<|wC<|sZ (λwn5 Sn5 rn5=>?_);refine aAC<|se (bX aD k k) k<|gT k2<|se (ws k) k<|sn<|tn<|oB h λv9 hv9 h=>aP (t:=mN [(2,.ptr 0 0 0),(4,.ptr 1 0 0),(5,.ptr 2 0 0),(8,.int x2.2),(9,.ptr 7 0 0),(30,.sc w1_5),(31,.int (a1.maps.length:Int)),(32,.int x2.2),(33,.bl (decide (x2.2<(a1.maps.length:Int)))),(34,.int x2.2),(35,.sc (aAH w1_5 3 x2.2.toNat)),(36,.agg [.int v8.rows,.int v8.cols,.sc wn5])] [(0,⟨6,[[.int a0.p,.int a0.q.n,.sc w0_2,.sc w0_3,.sc w0_4,.sc w0_5]]⟩),(1,⟨6,[iS]⟩),(2,⟨6,[[.int v1.p,.int v1.q.n,.own 3 0 v1.q.src.length,.own 4 0 v1.q.tgt.length,.own 5 0 y6.length,.own 6 0 x2.1.length]]⟩),(3,⟨1,v1.q.src.map (ow eI)⟩),(4,⟨1,v1.q.tgt.map (ow eI)⟩),(5,⟨1,y6.map (ow eI)⟩),(6,⟨3,(x2.1.map (ow eM)).set x2.2.toNat [.int v9.rows,.int v9.cols,.abs 1 (v9.cells.map eI)]⟩),(7,⟨3,[[.int v8.rows,.int v8.cols,.sc wn5]]⟩)] 8 ⟨0,true,rB W,true⟩) (bS (bK k2) (bN k<|bN k<|fF k<|bP k<|bP k<|bP k<|hX ⟨_,k,k,.inl ⟨aAw (dB hv9),zA cE k⟩⟩ k<|bN k<|aR) k4)<|aP (zB (b:=6) (c:=8) (i:=x2.2.toNat) (j:=2) (n:=v9.cells.length) (A:=x2.1.map (ow eM)) (fs:=v9.cells.map (ow eI)) (by rw [fD];exact iR hv9) k k k k (aO _ _) (gA _ _) (aBm ⟨k,k,k,k,k,k,k,k,k,k,k,k,aR⟩) (aBn (skip:=[]) ⟨.inr (vI k),.inr (vI k),.inr (vI k),.inr (cP.df _ _),.inr (cP.df _ _),.inr (cP.df _ _),.inr (cE.dfS _ _ _ k),.inr (vI k),aR⟩))<|aP (t:=mN [(2,.ptr 0 0 0),(4,.ptr 1 0 0),(5,.ptr 2 0 0),(8,.int x2.2),(9,.ptr 7 0 0),(30,.sc w1_5),(31,.int (a1.maps.length:Int)),(32,.int x2.2),(33,.bl (decide (x2.2<(a1.maps.length:Int)))),(34,.int x2.2),(35,.sc (aAH w1_5 3 x2.2.toNat)),(36,.agg [.int v8.rows,.int v8.cols,.sc wn5])] [(0,⟨6,[[.int a0.p,.int a0.q.n,.sc w0_2,.sc w0_3,.sc w0_4,.sc w0_5]]⟩),(1,⟨6,[iS]⟩),(2,⟨6,[[.int v1.p,.int v1.q.n,.own 3 0 v1.q.src.length,.own 4 0 v1.q.tgt.length,.own 5 0 y6.length,.own 6 0 x2.1.length]]⟩),(3,⟨1,v1.q.src.map (ow eI)⟩),(4,⟨1,v1.q.tgt.map (ow eI)⟩),(5,⟨1,y6.map (ow eI)⟩),(6,⟨3,(x2.1.map (ow eM)).set x2.2.toNat [.int v9.rows,.int v9.cols,.own 8 0 v9.cells.length]⟩),(7,⟨3,[[.int v8.rows,.int v8.cols,.sc wn5]]⟩),(8,⟨1,v9.cells.map (ow eI)⟩)] 9 ⟨0,true,rB W,true⟩) (fX (σ:=sg [(0,0),(1,1),(2,2),(3,3),(4,4),(5,5),(6,6),(7,7),(8,8)]) (bK k2) (bN k<|bN k<|fF k<|bP k<|bP k<|bP k<|hX ⟨_,k,k,.inr (aBX (σ:=sg [(0,0),(1,1),(2,2),(3,3),(4,4),(5,5),(6,6),(7,7),(8,8)]) (m:=9) (e:=eM) (l:=x2.1) (i:=x2.2.toNat) (c:=[.int v9.rows,.int v9.cols,.own 8 0 v9.cells.length]) (d:=[.int v9.rows,.int v9.cols,.own 8 0 v9.cells.length]) cE ⟨_,_,k,k,⟨_,_,k,k,⟨_,_,k,⟨k,k,k,k⟩,k⟩⟩⟩)⟩ k<|bN k<|bP k<|aR) k)<|aN gD<|fp k8<|lp k8<|am k k<|fp k8<|lp k8<|am k k<|oB h λv10 hv10 h=>ae (aAI aD r0_5 hv10 k k k k k k) k<|aSR aD [.int v10.rows,.int v10.cols,.list 1 (v10.cells.map eI)] (aEL r0_5 (dB hv10)) k k k k k k k k k<|wC<|wC<|sZ (λwn6 Sn6 rn6=>?_);exact aAC<|fp k8<|lp k8<|am k k<|oB h λv11 hv11 h=>ae (aAI aD r0_5 hv11 k k k k k k) k<|ae (aOa aD (aEL r0_5 (dB hv11)) k k k k k k) k<|ae (aOb aD (aPx (aEL r0_5 (dB hv11)) 0) k k k k k k k) k<|fp k8<|lp k8<|oB h λv12 hv12 h=>ae (cMK (uB v11.rows v8.cols v12 hv12) k3 (wkS k (wkS k jO))) k<|lp k8<|oB h λv13 hv13 h=>ae (cMK (aKL v10 v12 v8 v13 hv13) k3 (fY (.inr (eG (tD k k) (eG (tD k k) (eG (jN k rn6) xU)))) (fY (.inl (vaM k2)) (fY (.inr (eG (tD k k) (eG (tD k k) (eG (jN k rn5) xU)))) jO)))) k<|ae (xo hv9 k) k<|ae (aIz aD (A:=x2.1.map (ow eM)) (by rw [fD];exact iR hv9) k k k k k k k) k<|an<|rC (by kernel_rfl)<|aV<|tn<|aP (t:=mN [(2,.ptr 0 0 0),(4,.ptr 1 0 0),(5,.ptr 2 0 0),(30,.sc w1_5),(31,.int (a1.maps.length:Int)),(32,.int x2.2)] [(0,⟨6,[[.int a0.p,.int a0.q.n,.sc w0_2,.sc w0_3,.sc w0_4,.sc w0_5]]⟩),(1,⟨6,[iS]⟩),(2,⟨6,[[.int v1.p,.int v1.q.n,.own 3 0 v1.q.src.length,.own 4 0 v1.q.tgt.length,.own 5 0 y6.length,.own 6 0 ((x2.1.set x2.2.toNat v13).length)]]⟩),(3,⟨1,v1.q.src.map (ow eI)⟩),(4,⟨1,v1.q.tgt.map (ow eI)⟩),(5,⟨1,y6.map (ow eI)⟩),(6,⟨3,List.map (ow eM) (x2.1.set x2.2.toNat v13)⟩)] 11 ⟨0,true,rB W,true⟩) (Ent.trans (zZ (b:=6) (b':=10) (j:=2) (es':=v13.cells.map eI) (by rw [fD];exact iR hv9) k k k k (aO _ _) (cP.frzs _)) (bS (bK k2) (bN k<|bN k<|hX ⟨_,k,k,.inr ⟨_,_,k,⟨_,_,k,k,⟨_,_,k,k,⟨_,_,k,⟨k,k,k,k⟩,⟨_,_,k,⟨k,k,k,k⟩,⟨_,_,k,⟨k,k,k,k⟩,⟨_,_,k,⟨k,k,(by simp only [aO,lA,lT,lR,lC,lN]),k⟩,k⟩⟩⟩⟩⟩⟩,k⟩⟩ k<|bP k<|bP k<|bP k<|hX ⟨_,k,k,.inl ⟨aDT v13 k,cE.plainO _⟩⟩ k<|aR) k4))<|rgS<|se (bF k k) k<|eV k2<|sn<|tn<|sp h ⟨_,k,(bS (bK k2) (bN k<|bN k<|fF k<|bP k<|bP k<|bP k<|cD (cE.plainO _) k<|aR) k4)⟩
  ·rintro e t ⟨rfl,hent⟩;exact aL<|tn<|aP hent<|sS<|zD k8<|se (ws k) k<|sn<|tn<|aJ<|sp h (bT k k k (pH (aH (k) (aH (k) (aH (eX cP k k) (aH (eX cP k k) (aH (eX cP k k) (aH (eX cE k k) eH))))))))
def gZ (a2:(List Rp)) (x1:(Int×Int×(List Int)×(List Int)×(List Int)×(List Mt)×Int)):Option ((Int×Int×(List Int)×(List Int)×(List Int)×(List Mt)×Int) ⊕ ((Int×Int×(List Int)×(List Int)×(List Int)×(List Mt)) ⊕ (Rp×Bool))):=
 bif decide (x1.2.2.2.2.2.2<(a2.length:Int)) then
 ((cO a2 x1.2.2.2.2.2.2).bind λv3=>
 (vB (⟨x1.1,(⟨x1.2.1,x1.2.2.1,x1.2.2.2.1⟩:Qv),x1.2.2.2.2.1,x1.2.2.2.2.2.1⟩:Rp) v3).bind λv4=>
 (aAh v4).bind λv5=>
 bif !v5 then
 (some (.inr (.inr (((⟨0,(⟨0,[],[]⟩:Qv),[],[]⟩:Rp),false)))))
 else
 (some (.inl (v4.p,v4.q.n,v4.q.src,v4.q.tgt,v4.dims,v4.maps,wr (x1.2.2.2.2.2.2+1)))))
 else
 (some (.inr (.inl (x1.1,x1.2.1,x1.2.2.1,x1.2.2.2.1,x1.2.2.2.2.1,x1.2.2.2.2.2.1))))
def zM (a0:Int) (a1:Qv) (a2:(List Rp)):Option (Rp×Bool):=
 bif (decide (0≤a1.n)&&decide (a1.n≤1048576)) then
 ((uE a0 a1 (List.replicate a1.n.toNat (0:Int))).bind λv1=>
 (Lp (gZ a2) (v1.p,v1.q.n,v1.q.src,v1.q.tgt,v1.dims,v1.maps,0)).bind λy7=>
 Sum.elim (λy8=>
 some (((⟨y8.1,(⟨y8.2.1,y8.2.2.1,y8.2.2.2.1⟩:Qv),y8.2.2.2.2.1,y8.2.2.2.2.2⟩:Rp),true))
 )
 (λy9=>
 some y9
 )
 y7)
 else none
theorem aHG (a0:Int) (a1:Qv) (a2:(List Rp)) (r:(Rp×Bool)) (h:zM a0 a1 a2=some r):HasC Tryz.prog 39 [.int a0,.agg (eQ a1),.list 6 (a2.map eR)] (.tuple [.agg (eR r.1),.bl r.2]):=by
 refine hM [.cell 6 29,.tmp 7] Tryz.func39 Tryz.ntmps39 k<|sR<|ae (wb k) k<|ae (bX aD k k) k<|aT k2<|sQ<|aN gD<|am k k<|lp k8<|fp k8<|lp k8<|cG h λq10 h=>ae (rJ aD q10 k k k k k k k k) k<|oB h λv1 hv1 h=>ae (cR (aDd a0 a1 (List.replicate a1.n.toNat (0:Int)) v1 hv1) k3 (dW k (aZ (lQ k) (aZ (aSs cP k k) aS)))) k<|ae (bX aD k k) k<|ae (ws k) k<|an<|rC (by kernel_rfl)<|tn<|sQ<|sR<|am k k<|ln k4<|am k k<|an<|tn<|aE ?_;refine oB h λy7 hy7 h=>cC (body:=(gZ a2)) hy7 (λ(x1:(Int×Int×(List Int)×(List Int)×(List Int)×(List Mt)×Int))=>mN [(6,.ptr 0 0 0),(8,.ptr 1 0 0),(17,.list 6 (a2.map eR)),(18,.int (a2.length:Int)),(19,.int x1.2.2.2.2.2.2)] [(0,⟨6,[iS]⟩),(1,⟨6,[[.int x1.1,.int x1.2.1,.own 2 0 x1.2.2.1.length,.own 3 0 x1.2.2.2.1.length,.own 4 0 x1.2.2.2.2.1.length,.own 5 0 x1.2.2.2.2.2.1.length]]⟩),(2,⟨1,x1.2.2.1.map (ow eI)⟩),(3,⟨1,x1.2.2.2.1.map (ow eI)⟩),(4,⟨1,x1.2.2.2.2.1.map (ow eI)⟩),(5,⟨3,x1.2.2.2.2.2.1.map (ow eM)⟩)] 6) (λr e t=>Sum.elim (λa=>(λr e t=>e= .exit 0∧Ent t (mN [(6,.ptr 0 0 0),(8,.ptr 1 0 0)] [(0,⟨6,[iS]⟩),(1,⟨6,[[.int r.1,.int r.2.1,.own 2 0 r.2.2.1.length,.own 3 0 r.2.2.2.1.length,.own 4 0 r.2.2.2.2.1.length,.own 5 0 r.2.2.2.2.2.length]]⟩),(2,⟨1,r.2.2.1.map (ow eI)⟩),(3,⟨1,r.2.2.2.1.map (ow eI)⟩),(4,⟨1,r.2.2.2.2.1.map (ow eI)⟩),(5,⟨3,r.2.2.2.2.2.map (ow eM)⟩)] 6)) a e t) (λb=>(λr e t=>e= .ret∧tW TT [.cell 6 29,.tmp 7] (.tuple [.agg (eR r.1),.bl r.2]) .ret t) b e t) r) (mX [1,7,3,4,5,6] (bK k2) (bN k<|fF k<|bP k<|bP k<|bP k<|cD (cE.plainO _) k<|aR) k4) ?_ ?_
 ·intro x1 o h;exact sR<|cm k4<|an<|tn<|sQ<|dR k h (λ_ h=>aG<|tn<|sQ<|aE<|sR<|oB h λv3 hv3 h=>ae (xl hv3 k) k<|lr k7<|ae (bX aD k k) k<|ae (ws k) k<|an<|tn<|sR<|lp k8<|lp k8<|oB h λv4 hv4 h=>ae (cR (aHF (⟨x1.1,(⟨x1.2.1,x1.2.2.1,x1.2.2.2.1⟩:Qv),x1.2.2.2.2.1,x1.2.2.2.2.2.1⟩:Rp) v3 v4 hv4) k3 (aZ (vaR k8) (aZ (lQ k) aS))) k<|ae (ws k) k<|an<|tn<|sR<|lp k8<|oB h λv5 hv5 h=>ae (bC (aLy v4 v5 hv5) k (aZ (vaR k8) aS)) k<|ae (dL k) k<|an<|tn<|dR k h (λ_ h=>sR<|ae (dE aD k k k k k k) k<|ae (ws k) k<|aT k2<|aJ<|bH<|aI<|aI<|sp h ⟨_,k,k,bT k k k (dC k (bW (gX (aH (k) (aH (k) (aH (k) (aH (k) (aH (k) (aH (k) eH))))))) (bW (k) fH)))⟩) λ_ h=>aG<|aV<|tn<|rg<|ae (bF k k) k<|am k k<|an<|tn<|sp h ⟨_,k,(mX [0,1,7,8,9,10] (bK k2) (bN k<|fF k<|bP k<|bP k<|bP k<|cD (cE.plainO _) k<|aR) k4)⟩) λ_ h=>aU<|aB<|aB<|sp h ⟨_,k,k,(bS (bK k2) (bN k<|fF k<|bP k<|bP k<|bP k<|cD (cE.plainO _) k<|aR) k4)⟩
 ·intro e t hX;rcases y7 with y8|y9
  ·obtain ⟨rfl,hent⟩:=hX;exact aL<|tn<|aP hent<|sR<|lp k8<|ae (ws k) k<|aT k2<|aJ<|sp h (bT k k k (dC k (bW (gX (aH (k) (aH (k) (aH (eX cP k k) (aH (eX cP k k) (aH (eX cP k k) (aH (eX cE k k) eH))))))) (bW (k) fH))))
  ·obtain ⟨rfl,hent⟩:=hX;exact bH<|aI<|sp h hent
def tQ (a0:Mt) (v1:Mt) (x1:((List Int)×Int)) (x2:((List Int)×Int)):Option (((List Int)×Int) ⊕ (List Int)):=
 bif decide (x2.2<a0.cols) then
 ((cO a0.cells (wr ((wr (x1.2*a0.cols))+x2.2))).bind λv4=>
 (cO x2.1 (wr ((wr (x1.2*v1.cols))+x2.2))).bind λv5=>
 some (.inl ((x2.1.set ((wr ((wr (x1.2*v1.cols))+x2.2)).toNat) v4),wr (x2.2+1))))
 else
 (some (.inr x2.1))
def tR (a0:Mt) (v1:Mt) (x1:((List Int)×Int)):Option (((List Int)×Int) ⊕ (List Int)):=
 bif decide (x1.2<a0.rows) then
 ((Lp (tQ a0 v1 x1) (x1.1,0)).bind λy6=>
 some (.inl (y6,wr (x1.2+1))))
 else
 (some (.inr x1.1))
def tS (a0:Mt) (a1:Mt) (v1:Mt) (x3:((List Int)×Int)) (x4:((List Int)×Int)):Option (((List Int)×Int) ⊕ (List Int)):=
 bif decide (x4.2<a1.cols) then
 ((cO a1.cells (wr ((wr (x3.2*a1.cols))+x4.2))).bind λv10=>
 (cO x4.1 (wr ((wr ((wr ((wr (a0.rows+x3.2))*v1.cols))+a0.cols))+x4.2))).bind λv11=>
 some (.inl ((x4.1.set ((wr ((wr ((wr ((wr (a0.rows+x3.2))*v1.cols))+a0.cols))+x4.2)).toNat) v10),wr (x4.2+1))))
 else
 (some (.inr x4.1))
def tT (a0:Mt) (a1:Mt) (v1:Mt) (x3:((List Int)×Int)):Option (((List Int)×Int) ⊕ (List Int)):=
 bif decide (x3.2<a1.rows) then
 ((Lp (tS a0 a1 v1 x3) (x3.1,0)).bind λy12=>
 some (.inl (y12,wr (x3.2+1))))
 else
 (some (.inr x3.1))
def yN (a0:Mt) (a1:Mt):Option Mt:=
 (vR (wr (a0.rows+a1.rows)) (wr (a0.cols+a1.cols))).bind λv1=>
 (Lp (tR a0 v1) (v1.cells,0)).bind λy7=>
 (Lp (tT a0 a1 v1) (y7,0)).bind λy13=>
 some ((⟨v1.rows,v1.cols,y13⟩:Mt))
theorem aJr (a0:Mt) (a1:Mt) (r:Mt) (h:yN a0 a1=some r):HasC Tryz.prog 77 [.agg (eM a0),.agg (eM a1)] (.agg (eM r)):=by
 refine hM [.cell 4 91] Tryz.func77 Tryz.ntmps77 k<|sR<|ae (wb k) k<|ae (wb k) k<|ae (bX aD k k) k<|an<|tn<|sR<|fp k8<|lp k8<|fp k8<|lp k8<|ae (bF k k) k<|fp k8<|lp k8<|fp k8<|lp k8<|ae (bF k k) k<|oB h λv1 hv1 h=>ae (cM (aEX (wr (a0.rows+a1.rows)) (wr (a0.cols+a1.cols)) v1 hv1) k3 (dW k (dW k aS))) k<|ae (bX aD k k) k<|ae (ws k) k<|an<|tn<|sQ<|sR<|aa k k<|an ?_;refine tn<|aE<|oB h λy7 hy7 h=>cC (body:=(tR a0 v1)) hy7 (λ(x1:((List Int)×Int))=>mN [(2,.ptr 0 0 0),(3,.ptr 1 0 0),(4,.ptr 2 0 0),(5,.ptr 3 0 0),(6,.int x1.2)] [(0,⟨3,[eM a0]⟩),(1,⟨3,[eM a1]⟩),(2,⟨3,[iL]⟩),(3,⟨3,[[.int v1.rows,.int v1.cols,.own 4 0 x1.1.length]]⟩),(4,⟨1,x1.1.map (ow eI)⟩)] 5) (λr e t=>e= .exit 0∧Ent t (mN [(2,.ptr 0 0 0),(3,.ptr 1 0 0),(4,.ptr 2 0 0),(5,.ptr 3 0 0)] [(0,⟨3,[eM a0]⟩),(1,⟨3,[eM a1]⟩),(2,⟨3,[iL]⟩),(3,⟨3,[[.int v1.rows,.int v1.cols,.own 4 0 r.length]]⟩),(4,⟨1,r.map (ow eI)⟩)] 5)) (mX [0,1,2,4,3] (bK k2) (bN k<|bN k<|bN k<|fF k<|bP k<|aR) k4) ?_ ?_
 ·intro x1 o h;refine sQ<|sR<|am k k<|fp k8<|lp k8<|cm k4<|an<|tn<|dR k h (λ_ h=>?_) λ_ h=>aU<|aB<|aB<|sp h ⟨_,k,k,(bS (bK k2) (bN k<|bN k<|bN k<|fF k<|bP k<|aR) k4)⟩;refine aG<|tn<|sQ<|aE<|sR<|aT k2<|aE<|oB h λy6 hy6 h=>cC (body:=(tQ a0 v1 x1)) hy6 (λ(x2:((List Int)×Int))=>mN [(2,.ptr 0 0 0),(3,.ptr 1 0 0),(4,.ptr 2 0 0),(5,.ptr 3 0 0),(6,.int x1.2),(7,.int x2.2)] [(0,⟨3,[eM a0]⟩),(1,⟨3,[eM a1]⟩),(2,⟨3,[iL]⟩),(3,⟨3,[[.int v1.rows,.int v1.cols,.own 4 0 x2.1.length]]⟩),(4,⟨1,x2.1.map (ow eI)⟩)] 5) (λr e t=>e= .exit 2∧Ent t (mN [(2,.ptr 0 0 0),(3,.ptr 1 0 0),(4,.ptr 2 0 0),(5,.ptr 3 0 0),(6,.int x1.2)] [(0,⟨3,[eM a0]⟩),(1,⟨3,[eM a1]⟩),(2,⟨3,[iL]⟩),(3,⟨3,[[.int v1.rows,.int v1.cols,.own 4 0 r.length]]⟩),(4,⟨1,r.map (ow eI)⟩)] 5)) (bS (bK k2) (bN k<|bN k<|bN k<|fF k<|bP k<|aR) k4) ?_ ?_
  ·intro x2 o h;refine sQ<|sR<|am k k<|fp k8<|lp k8<|cm k4<|an<|tn<|dR k h (λ_ h=>?_) λ_ h=>aU<|aB<|aB<|sp h ⟨_,k,k,(bS (bK k2) (bN k<|bN k<|bN k<|fF k<|bP k<|aR) k4)⟩;refine aG<|tn<|sQ<|aE<|aN gD<|fp k8<|lp k8<|am k k<|fp k8<|lp k8<|ae (fZ k k) k<|am k k<|ae (bF k k) k<|fp k8<|lp k8<|am k k<|fp k8<|lp k8<|ae (fZ k k) k<|am k k<|ae (bF k k) k<|oB h λv4 hv4 h=>ae (xl hv4 k) k<|lr k7<|oB h λv5 hv5 h=>ae (xo hv5 k) k<|ae (fA aD jX (u:=v4) (dB hv5) k k k k k k) k<|an<|rC (by kernel_rfl)<|aV<|tn ?_;exact aP (t:=mN [(2,.ptr 0 0 0),(3,.ptr 1 0 0),(4,.ptr 2 0 0),(5,.ptr 3 0 0),(6,.int x1.2),(7,.int x2.2)] [(0,⟨3,[eM a0]⟩),(1,⟨3,[eM a1]⟩),(2,⟨3,[iL]⟩),(3,⟨3,[[.int v1.rows,.int v1.cols,.own 4 0 ((x2.1.set ((wr ((wr (x1.2*v1.cols))+x2.2)).toNat) v4).length)]]⟩),(4,⟨1,List.map (ow eI) (x2.1.set ((wr ((wr (x1.2*v1.cols))+x2.2)).toNat) v4)⟩)] 5) (bS (bK k2) (bN k<|bN k<|bN k<|hX ⟨_,k,k,.inr ⟨_,_,k,⟨_,_,k,k,⟨_,_,k,k,⟨_,_,k,⟨k,k,(by simp only [aO,lA,lT,lR,lC,lN]),k⟩,k⟩⟩⟩,k⟩⟩ k<|bP k<|aR) k4)<|rg<|am k k<|ae (bF k k) k<|aT k2<|sp h ⟨_,k,(bS (bK k2) (bN k<|bN k<|bN k<|fF k<|bP k<|aR) k4)⟩
  ·rintro e t ⟨rfl,hent⟩;exact aL<|aV<|tn<|aP hent<|rg<|am k k<|ae (bF k k) k<|aT k2<|sp h ⟨_,k,(bS (bK k2) (bN k<|bN k<|bN k<|fF k<|bP k<|aR) k4)⟩
 ·rintro e t ⟨rfl,hent⟩;refine aL<|tn<|aP hent<|sQ<|sR<|aT k2<|aE<|oB h λy13 hy13 h=>cC (body:=(tT a0 a1 v1)) hy13 (λ(x3:((List Int)×Int))=>mN [(2,.ptr 0 0 0),(3,.ptr 1 0 0),(4,.ptr 2 0 0),(5,.ptr 3 0 0),(8,.int x3.2)] [(0,⟨3,[eM a0]⟩),(1,⟨3,[eM a1]⟩),(2,⟨3,[iL]⟩),(3,⟨3,[[.int v1.rows,.int v1.cols,.own 4 0 x3.1.length]]⟩),(4,⟨1,x3.1.map (ow eI)⟩)] 5) (λr e t=>e= .exit 4∧Ent t (mN [(4,.ptr 0 0 0),(5,.ptr 1 0 0)] [(0,⟨3,[iL]⟩),(1,⟨3,[[.int v1.rows,.int v1.cols,.own 2 0 r.length]]⟩),(2,⟨1,r.map (ow eI)⟩)] 3)) (bS (bK k2) (bN k<|bN k<|bN k<|fF k<|bP k<|aR) k4) ?_ ?_
  ·intro x3 o h;refine sQ<|sR<|am k k<|fp k8<|lp k8<|cm k4<|an<|tn<|dR k h (λ_ h=>?_) λ_ h=>aU<|aB<|aB<|sp h ⟨_,k,k,(mX [2,3,4] (bK k2) (bN k<|fF k<|bP k<|aR) k4)⟩;refine aG<|tn<|sQ<|aE<|sR<|aT k2<|aE<|oB h λy12 hy12 h=>cC (body:=(tS a0 a1 v1 x3)) hy12 (λ(x4:((List Int)×Int))=>mN [(2,.ptr 0 0 0),(3,.ptr 1 0 0),(4,.ptr 2 0 0),(5,.ptr 3 0 0),(8,.int x3.2),(9,.int x4.2)] [(0,⟨3,[eM a0]⟩),(1,⟨3,[eM a1]⟩),(2,⟨3,[iL]⟩),(3,⟨3,[[.int v1.rows,.int v1.cols,.own 4 0 x4.1.length]]⟩),(4,⟨1,x4.1.map (ow eI)⟩)] 5) (λr e t=>e= .exit 6∧Ent t (mN [(2,.ptr 0 0 0),(3,.ptr 1 0 0),(4,.ptr 2 0 0),(5,.ptr 3 0 0),(8,.int x3.2)] [(0,⟨3,[eM a0]⟩),(1,⟨3,[eM a1]⟩),(2,⟨3,[iL]⟩),(3,⟨3,[[.int v1.rows,.int v1.cols,.own 4 0 r.length]]⟩),(4,⟨1,r.map (ow eI)⟩)] 5)) (bS (bK k2) (bN k<|bN k<|bN k<|fF k<|bP k<|aR) k4) ?_ ?_
   ·intro x4 o h;refine sQ<|sR<|am k k<|fp k8<|lp k8<|cm k4<|an<|tn<|dR k h (λ_ h=>?_) λ_ h=>aU<|aB<|aB<|sp h ⟨_,k,k,(bS (bK k2) (bN k<|bN k<|bN k<|fF k<|bP k<|aR) k4)⟩;refine aG<|tn<|sQ<|aE<|aN gD<|fp k8<|lp k8<|fp k8<|lp k8<|am k k<|ae (bF k k) k<|fp k8<|lp k8<|ae (fZ k k) k<|fp k8<|lp k8<|ae (bF k k) k<|am k k<|ae (bF k k) k<|fp k8<|lp k8<|am k k<|fp k8<|lp k8<|ae (fZ k k) k<|am k k<|ae (bF k k) k<|oB h λv10 hv10 h=>ae (xl hv10 k) k<|lr k7 ?_;exact oB h λv11 hv11 h=>ae (xo hv11 k) k<|ae (fA aD jX (u:=v10) (dB hv11) k k k k k k) k<|an<|rC (by kernel_rfl)<|aV<|tn<|aP (t:=mN [(2,.ptr 0 0 0),(3,.ptr 1 0 0),(4,.ptr 2 0 0),(5,.ptr 3 0 0),(8,.int x3.2),(9,.int x4.2)] [(0,⟨3,[eM a0]⟩),(1,⟨3,[eM a1]⟩),(2,⟨3,[iL]⟩),(3,⟨3,[[.int v1.rows,.int v1.cols,.own 4 0 ((x4.1.set ((wr ((wr ((wr ((wr (a0.rows+x3.2))*v1.cols))+a0.cols))+x4.2)).toNat) v10).length)]]⟩),(4,⟨1,List.map (ow eI) (x4.1.set ((wr ((wr ((wr ((wr (a0.rows+x3.2))*v1.cols))+a0.cols))+x4.2)).toNat) v10)⟩)] 5) (bS (bK k2) (bN k<|bN k<|bN k<|hX ⟨_,k,k,.inr ⟨_,_,k,⟨_,_,k,k,⟨_,_,k,k,⟨_,_,k,⟨k,k,(by simp only [aO,lA,lT,lR,lC,lN]),k⟩,k⟩⟩⟩,k⟩⟩ k<|bP k<|aR) k4)<|rg<|am k k<|ae (bF k k) k<|aT k2<|sp h ⟨_,k,(bS (bK k2) (bN k<|bN k<|bN k<|fF k<|bP k<|aR) k4)⟩
   ·rintro e t ⟨rfl,hent⟩;exact aL<|aV<|tn<|aP hent<|rg<|am k k<|ae (bF k k) k<|aT k2<|sp h ⟨_,k,(bS (bK k2) (bN k<|bN k<|bN k<|fF k<|bP k<|aR) k4)⟩
  ·rintro e t ⟨rfl,hent⟩;exact aL<|tn<|aP hent<|sR<|lp k8<|ae (ws k) k<|an<|tn<|aJ<|sp h (bT k k k (pH (aH (k) (aH (k) (aH (eX cP k k) eH)))))
def qD (a0:Rp) (a1:Rp) (x1:((List Int)×Int)):Option (((List Int)×Int) ⊕ (List Int)):=
 bif decide (x1.2<(a0.dims.length:Int)) then
 ((cO a0.dims x1.2).bind λv5=>
 (cO a1.dims x1.2).bind λv6=>
 bif decide (x1.1.length+[wr (v5+v6)].length ≤4294967296) then
 (some (.inl ((x1.1++[wr (v5+v6)]),wr (x1.2+1))))
 else none)
 else
 (some (.inr x1.1))
def qE (a0:Rp) (a1:Rp) (x2:((List Mt)×Int)):Option (((List Mt)×Int) ⊕ (List Mt)):=
 bif decide (x2.2<(a0.maps.length:Int)) then
 ((cO a0.maps x2.2).bind λv10=>
 (cO a1.maps x2.2).bind λv11=>
 (yN v10 v11).bind λv12=>
 bif decide (x2.1.length+1≤4294967296) then
 (some (.inl ((x2.1++[v12]),wr (x2.2+1))))
 else none)
 else
 (some (.inr x2.1))
def vC (a0:Rp) (a1:Rp):Option (Rp×Bool):=
 (xV a0 a1).bind λv1=>
 bif !v1 then
 (some (((⟨0,(⟨0,[],[]⟩:Qv),[],[]⟩:Rp),false)))
 else
 ((pK a0.q).bind λv3=>
 (Lp (qD a0 a1) (([]:(List Int)),0)).bind λy8=>
 (Lp (qE a0 a1) (([]:(List Mt)),0)).bind λy14=>
 (uM (⟨a0.p,v3,y8,y14⟩:Rp)).bind λv15=>
 bif !v15 then
 (some (((⟨0,(⟨0,[],[]⟩:Qv),[],[]⟩:Rp),false)))
 else
 (some (((⟨a0.p,v3,y8,y14⟩:Rp),true))))
theorem aHH (a0:Rp) (a1:Rp) (r:(Rp×Bool)) (h:vC a0 a1=some r):HasC Tryz.prog 35 [.agg (eR a0),.agg (eR a1)] (.tuple [.agg (eR r.1),.bl r.2]):=by
 refine hM [.cell 4 29,.tmp 5] Tryz.func35 Tryz.ntmps35 k<|sR<|ae (wb k) k<|ae (wb k) k<|ae (bX aD k k) k<|aT k2<|sQ<|sR<|lp k8<|lp k8<|oB h λv1 hv1 h=>ae (bC (aFg a0 a1 v1 hv1) k (aZ (lQ k) (aZ (lQ k) aS))) k<|ae (dL k) k<|an<|tn<|dR k h (λ_ h=>sR<|ae (dE aD k k k k k k) k<|ae (ws k) k<|aT k2<|aJ<|aI<|sp h (bT k k k (dC k (bW (gX (aH (k) (aH (k) (aH (k) (aH (k) (aH (k) (aH (k) eH))))))) (bW (k) fH))))) λ_ h=>?_;refine aG<|tn<|sQ<|aN gD<|fp k8<|lp k8<|fp k8<|lp k8<|oB h λv3 hv3 h=>ae (cQ (aEd a0.q v3 hv3) k3 (aZ (lQ k) aS)) k<|ae (wl k) k<|ae (wl k) k<|ae (dE aD k k k k k k) k<|ae (bX aD k k) k<|ae (ws k) k<|an<|rC (by kernel_rfl)<|tn<|aP (t:=mN [(2,.ptr 0 0 0),(3,.ptr 1 0 0),(4,.ptr 2 0 0),(6,.ptr 7 0 0)] [(0,⟨6,[eR a0]⟩),(1,⟨6,[eR a1]⟩),(2,⟨6,[iS]⟩),(3,⟨1,v3.src.map (ow eI)⟩),(4,⟨1,v3.tgt.map (ow eI)⟩),(5,⟨1,List.map (ow eI) ([]:(List Int))⟩),(6,⟨3,List.map (ow eM) ([]:(List Mt))⟩),(7,⟨6,[[.int a0.p,.int v3.n,.own 3 0 v3.src.length,.own 4 0 v3.tgt.length,.own 5 0 (([]:(List Int)).length),.own 6 0 (([]:(List Mt)).length)]]⟩)] 8) (bS (bK k2) (bN k<|bN k<|bN k<|bP k<|bP k<|bP k<|cD (cE.plainO _) k<|hX ⟨_,k,k,.inr ⟨_,_,k,⟨_,_,k,k,⟨_,_,k,k,⟨_,_,k,⟨k,k,k,k⟩,⟨_,_,k,⟨k,k,k,k⟩,⟨_,_,k,⟨k,k,(by simp only [aO,lA,lT,lR,lC,lN]),k⟩,⟨_,_,k,⟨k,k,(by simp only [aO,lA,lT,lR,lC,lN]),k⟩,k⟩⟩⟩⟩⟩⟩,k⟩⟩ k<|aR) k4)<|sQ<|sR<|aT k2<|aE<|oB h λy8 hy8 h=>cC (body:=(qD a0 a1)) hy8 (λ(x1:((List Int)×Int))=>mN [(2,.ptr 0 0 0),(3,.ptr 1 0 0),(4,.ptr 2 0 0),(6,.ptr 3 0 0),(7,.int x1.2)] [(0,⟨6,[eR a0]⟩),(1,⟨6,[eR a1]⟩),(2,⟨6,[iS]⟩),(3,⟨6,[[.int a0.p,.int v3.n,.own 4 0 v3.src.length,.own 5 0 v3.tgt.length,.own 6 0 x1.1.length,.own 7 0 (([]:(List Mt)).length)]]⟩),(4,⟨1,v3.src.map (ow eI)⟩),(5,⟨1,v3.tgt.map (ow eI)⟩),(6,⟨1,x1.1.map (ow eI)⟩),(7,⟨3,List.map (ow eM) ([]:(List Mt))⟩)] 8) (λr e t=>e= .exit 0∧Ent t (mN [(2,.ptr 0 0 0),(3,.ptr 1 0 0),(4,.ptr 2 0 0),(6,.ptr 3 0 0)] [(0,⟨6,[eR a0]⟩),(1,⟨6,[eR a1]⟩),(2,⟨6,[iS]⟩),(3,⟨6,[[.int a0.p,.int v3.n,.own 4 0 v3.src.length,.own 5 0 v3.tgt.length,.own 6 0 r.length,.own 7 0 (([]:(List Mt)).length)]]⟩),(4,⟨1,v3.src.map (ow eI)⟩),(5,⟨1,v3.tgt.map (ow eI)⟩),(6,⟨1,r.map (ow eI)⟩),(7,⟨3,List.map (ow eM) ([]:(List Mt))⟩)] 8)) (mX [0,1,2,7,3,4,5,6] (bK k2) (bN k<|bN k<|bN k<|fF k<|bP k<|bP k<|bP k<|cD (cE.plainO _) k<|aR) k4) ?_ ?_
 ·intro x1 o h;refine sQ<|sR<|am k k<|fp k8<|lp k8<|ln k4<|cm k4<|an<|tn<|dR k h (λ_ h=>?_) λ_ h=>aU<|aB<|aB<|sp h ⟨_,k,k,(bS (bK k2) (bN k<|bN k<|bN k<|fF k<|bP k<|bP k<|bP k<|cD (cE.plainO _) k<|aR) k4)⟩;refine aG<|tn<|sQ<|aE<|aN gD<|fp k8<|lp k8<|fp k8<|lp k8<|am k k<|oB h λv5 hv5 h=>ae (xl hv5 k) k<|lr k7<|fp k8<|lp k8<|am k k<|oB h λv6 hv6 h=>ae (xl hv6 k) k<|lr k7<|ae (bF k k) k<|ae (wl k) k<|cG h λq7 h=>ae (vE aD (l:=x1.1) (m:=[wr (v5+v6)]) jX q7 k k k k k k k k k k k k) k<|fp k8<|ae (ws k) k<|an<|rC (by kernel_rfl)<|aV<|tn<|rg<|am k k<|ae (bF k k) k ?_;exact aT k2<|sp h ⟨_,k,(mX [0,1,2,3,4,5,9,7] (bK k2) (bN k<|bN k<|bN k<|fF k<|bP k<|bP k<|bP k<|cD (cE.plainO _) k<|aR) k4)⟩
 ·rintro e t ⟨rfl,hent⟩;refine aL<|tn<|aP hent<|sQ<|sR<|aT k2<|aE<|oB h λy14 hy14 h=>cC (body:=(qE a0 a1)) hy14 (λ(x2:((List Mt)×Int))=>mN [(2,.ptr 0 0 0),(3,.ptr 1 0 0),(4,.ptr 2 0 0),(6,.ptr 3 0 0),(8,.int x2.2)] [(0,⟨6,[eR a0]⟩),(1,⟨6,[eR a1]⟩),(2,⟨6,[iS]⟩),(3,⟨6,[[.int a0.p,.int v3.n,.own 4 0 v3.src.length,.own 5 0 v3.tgt.length,.own 6 0 y8.length,.own 7 0 x2.1.length]]⟩),(4,⟨1,v3.src.map (ow eI)⟩),(5,⟨1,v3.tgt.map (ow eI)⟩),(6,⟨1,y8.map (ow eI)⟩),(7,⟨3,x2.1.map (ow eM)⟩)] 8) (λr e t=>e= .exit 2∧Ent t (mN [(4,.ptr 0 0 0),(6,.ptr 1 0 0)] [(0,⟨6,[iS]⟩),(1,⟨6,[[.int a0.p,.int v3.n,.own 2 0 v3.src.length,.own 3 0 v3.tgt.length,.own 4 0 y8.length,.own 5 0 r.length]]⟩),(2,⟨1,v3.src.map (ow eI)⟩),(3,⟨1,v3.tgt.map (ow eI)⟩),(4,⟨1,y8.map (ow eI)⟩),(5,⟨3,r.map (ow eM)⟩)] 6)) (bS (bK k2) (bN k<|bN k<|bN k<|fF k<|bP k<|bP k<|bP k<|cD (cE.plainO _) k<|aR) k4) ?_ ?_
  ·intro x2 o h;refine sQ<|sR<|am k k<|fp k8<|lp k8<|ln k4<|cm k4<|an<|tn<|dR k h (λ_ h=>?_) λ_ h=>aU<|aB<|aB<|sp h ⟨_,k,k,(mX [2,3,4,5,6,7] (bK k2) (bN k<|fF k<|bP k<|bP k<|bP k<|cD (cE.plainO _) k<|aR) k4)⟩;refine aG<|tn<|sQ<|aE<|aN gD<|fp k8<|lp k8<|fp k8<|lp k8<|am k k<|oB h λv10 hv10 h=>ae (xl hv10 k) k<|lr k7<|fp k8<|lp k8<|am k k<|oB h λv11 hv11 h=>ae (xl hv11 k) k<|lr k7<|oB h λv12 hv12 h=>ae (cM (aJr v10 v11 v12 hv12) k3 (aZ (lQ k) (aZ (lQ k) aS))) k<|ae (wl k) k<|cG h λq13 h=>ae (jY aD (l:=x2.1) (c:=[.int v12.rows,.int v12.cols,.own 8 0 v12.cells.length]) q13 k k k k k k k k k k k k k k) k<|fp k8<|ae (ws k) k<|an<|rC (by kernel_rfl)<|aV<|tn<|aP (t:=mN [(2,.ptr 0 0 0),(3,.ptr 1 0 0),(4,.ptr 2 0 0),(6,.ptr 3 0 0),(8,.int x2.2)] [(0,⟨6,[eR a0]⟩),(1,⟨6,[eR a1]⟩),(2,⟨6,[iS]⟩),(3,⟨6,[[.int a0.p,.int v3.n,.own 4 0 v3.src.length,.own 5 0 v3.tgt.length,.own 6 0 y8.length,.own 10 0 ((x2.1++[v12]).length)]]⟩),(4,⟨1,v3.src.map (ow eI)⟩),(5,⟨1,v3.tgt.map (ow eI)⟩),(6,⟨1,y8.map (ow eI)⟩),(10,⟨3,List.map (ow eM) (x2.1++[v12])⟩)] 11) (Ent.trans (eY (b:=10) (b':=8) (j:=2) (es':=v12.cells.map eI) k k k k (aO _ _) (cP.frzs _)) (bS (bK k2) (bN k<|bN k<|bN k<|hX ⟨_,k,k,.inr ⟨_,_,k,⟨_,_,k,k,⟨_,_,k,k,⟨_,_,k,⟨k,k,k,k⟩,⟨_,_,k,⟨k,k,k,k⟩,⟨_,_,k,⟨k,k,k,k⟩,⟨_,_,k,⟨k,k,(by simp only [aO,lA,lT,lR,lC,lN]),k⟩,k⟩⟩⟩⟩⟩⟩,k⟩⟩ k<|bP k<|bP k<|bP k<|hX ⟨_,k,k,.inl ⟨kP v12 k,cE.plainO _⟩⟩ k<|aR) k4))<|rg<|am k k ?_;exact ae (bF k k) k<|aT k2<|sp h ⟨_,k,(mX [0,1,2,3,4,5,6,10] (bK k2) (bN k<|bN k<|bN k<|fF k<|bP k<|bP k<|bP k<|cD (cE.plainO _) k<|aR) k4)⟩
  ·rintro e t ⟨rfl,hent⟩;exact aL<|tn<|aP hent<|sQ<|sR<|lp k8<|oB h λv15 hv15 h=>ae (bC (aCl (⟨a0.p,v3,y8,y14⟩:Rp) v15 hv15) k (aZ (vaR k8) aS)) k<|ae (dL k) k<|an<|tn<|dR k h (λ_ h=>sR<|ae (dE aD k k k k k k) k<|ae (ws k) k<|aT k2<|aJ<|aI<|sp h (bT k k k (dC k (bW (gX (aH (k) (aH (k) (aH (k) (aH (k) (aH (k) (aH (k) eH))))))) (bW (k) fH))))) λ_ h=>aG<|tn<|sR<|lp k8<|ae (ws k) k<|aT k2<|aJ<|sp h (bT k k k (dC k (bW (gX (aH (k) (aH (k) (aH (eX cP k k) (aH (eX cP k k) (aH (eX cP k k) (aH (eX cE k k) eH))))))) (bW (k) fH))))
def eK (a2:(List Int)) (v1:((List Rp)×Bool)) (x1:((List Rp)×Int)):Option (((List Rp)×Int) ⊕ (List Rp)):=
 bif decide (x1.2<(a2.length:Int)) then
 ((cO a2 x1.2).bind λv7=>
 (cO v1.1 x1.2).bind λv8=>
 (aAr [v8] v7).bind λv9=>
 bif decide (x1.1.length+v9.length≤4294967296) then
 (some (.inl ((x1.1++v9),wr (x1.2+1))))
 else none)
 else
 (some (.inr x1.1))
def jG (a0:Int) (a1:Qv) (a2:(List Int)):Option (Rp×Bool):=
 (kH a0 a1).bind λv1=>
 bif !v1.2 then
 (some (((⟨0,(⟨0,[],[]⟩:Qv),[],[]⟩:Rp),false)))
 else
 (bif !decide ((a2.length:Int)=((v1.1.length:Nat):Int)) then
 (some (((⟨0,(⟨0,[],[]⟩:Qv),[],[]⟩:Rp),false)))
 else
 ((iM a2 0 8).bind λv4=>
 bif !v4 then
 (some (((⟨0,(⟨0,[],[]⟩:Qv),[],[]⟩:Rp),false)))
 else
 ((Lp (eK a2 v1) ([],0)).bind λy11=>
 (zM a0 a1 y11).bind λv12=>
 some ((v12.1,v12.2)))))
theorem aBJ (a0:Int) (a1:Qv) (a2:(List Int)) (r:(Rp×Bool)) (h:jG a0 a1 a2=some r):HasC Tryz.prog 11 [.int a0,.agg (eQ a1),.list 1 (a2.map eI)] (.tuple [.agg (eR r.1),.bl r.2]):=by
 refine hM [.cell 6 29,.tmp 7] Tryz.func11 Tryz.ntmps11 k<|sR<|ae (wb k) k<|ae (bX aD k k) k<|aT k2<|sR<|am k k<|lp k8<|oB h λv1 hv1 h=>ae (cT uK (aBs a0 a1 v1 hv1) k3 (dW k (aZ (lQ k) aS))) k<|am k k<|ae (bD k k (by intro _ h;cases h)) k<|ae (bD k k (by intro _ h;cases h)) k<|aa k k<|aT k2<|sQ<|sR<|am k k<|ae (dL k) k<|am k k<|rA h (λq2 h=>aQ 21 k q2<|aK k4<|aK k4<|ak k k<|pk k3<|am k k<|aK k4<|ak k k<|pk k3<|an<|tn<|aP (t:=mN [(0,.int a0),(2,.list 1 (a2.map eI)),(4,.ptr 0 0 0),(6,.ptr 1 0 0),(8,.own 2 0 v1.1.length),(32,.bl true)] [(0,⟨3,[eQ a1]⟩),(1,⟨6,[iS]⟩),(2,⟨6,v1.1.map (ow eR)⟩)] 3) (bS (bK k2) (bN k<|bN k<|cD (uK.plainO _) k<|aR) k4)<|fG k k<|sR<|ae (dE aD k k k k k k) k<|ae (ws k) k<|aT k2<|aJ<|aI<|sp h (bT k k k (dC k (bW (gX (aH (k) (aH (k) (aH (k) (aH (k) (aH (k) (aH (k) eH))))))) (bW (k) fH))))) λq2 h=>?_;refine aQ 21 k q2<|am k k<|ln k4<|am k k<|ae (cA aD k k k k) k<|cm k4<|pk k3<|am k k<|rA h (λq3 h=>aQ 28 k q3<|aK k4<|ak k k<|pk k3<|an<|tn<|aP (t:=mN [(0,.int a0),(2,.list 1 (a2.map eI)),(4,.ptr 0 0 0),(6,.ptr 1 0 0),(8,.own 2 0 v1.1.length),(32,.bl true)] [(0,⟨3,[eQ a1]⟩),(1,⟨6,[iS]⟩),(2,⟨6,v1.1.map (ow eR)⟩)] 3) (bS (bK k2) (bN k<|bN k<|cD (uK.plainO _) k<|aR) k4)<|fG k k<|sR<|ae (dE aD k k k k k k) k<|ae (ws k) k<|aT k2<|aJ<|aI<|sp h (bT k k k (dC k (bW (gX (aH (k) (aH (k) (aH (k) (aH (k) (aH (k) (aH (k) eH))))))) (bW (k) fH))))) λq3 h=>?_;refine aQ 28 k q3<|am k k<|oB h λv4 hv4 h=>ae (bC (qQ a2 0 8 v4 hv4) k (dW k (dW k (dW k aS)))) k<|ae (dL k) k<|pk k3<|an<|tn<|aP (t:=mN [(0,.int a0),(2,.list 1 (a2.map eI)),(4,.ptr 0 0 0),(6,.ptr 1 0 0),(8,.own 2 0 v1.1.length),(32,.bl (!v4))] [(0,⟨3,[eQ a1]⟩),(1,⟨6,[iS]⟩),(2,⟨6,v1.1.map (ow eR)⟩)] 3) (bS (bK k2) (bN k<|bN k<|cD (uK.plainO _) k<|aR) k4)<|dR k h (λ_ h=>sR<|ae (dE aD k k k k k k) k<|ae (ws k) k<|aT k2<|aJ<|aI<|sp h (bT k k k (dC k (bW (gX (aH (k) (aH (k) (aH (k) (aH (k) (aH (k) (aH (k) eH))))))) (bW (k) fH))))) λ_ h=>?_;refine aG<|tn<|sR<|aT k2<|sQ<|sR<|am k k<|ln k4<|am k k<|an<|tn<|aE<|oB h λy11 hy11 h=>cC (body:=(eK a2 v1)) hy11 (λ(x1:((List Rp)×Int))=>mN [(0,.int a0),(4,.ptr 0 0 0),(6,.ptr 1 0 0),(8,.own 2 0 v1.1.length),(10,.own 3 0 x1.1.length),(34,.list 1 (a2.map eI)),(35,.int (a2.length:Int)),(36,.int x1.2)] [(0,⟨3,[eQ a1]⟩),(1,⟨6,[iS]⟩),(2,⟨6,v1.1.map (ow eR)⟩),(3,⟨6,x1.1.map eR⟩)] 4) (λr e t=>e= .exit 0∧Ent t (mN [(0,.int a0),(4,.ptr 0 0 0),(6,.ptr 1 0 0),(10,.own 2 0 r.length)] [(0,⟨3,[eQ a1]⟩),(1,⟨6,[iS]⟩),(2,⟨6,r.map eR⟩)] 3)) (fX (σ:=sg [(0,0),(1,1),(2,2)]) (mG 4 k2 (jJ ⟨_,k,⟨k,k,k,k⟩⟩ (bK k2))) (bN k<|bN k<|cD (uK.plainO _) k<|hX k k<|aR) k) ?_ ?_
 ·intro x1 o h;refine sR<|cm k4<|an<|tn<|sQ<|dR k h (λ_ h=>?_) λ_ h=>aU<|aB<|aB<|sp h ⟨_,k,k,(mX [0,1,3] (bK k2) (bN k<|bN k<|cD (uK.plainE _) k<|aR) k4)⟩;refine aG<|tn<|sQ<|aE<|sR<|am k k<|oB h λv7 hv7 h=>ae (xl hv7 k) k<|lr k7<|aa k k<|aT k2<|rg<|am k k<|am k k<|am k k<|oB h λv8 hv8 h=>ae (xo hv8 k) k<|ae (wp hv8 k) k<|ae (wl k) k<|am k k<|oB h λv9 hv9 h=>ae (gU (σ:=sg []) (σ':=sg [(5,0)]) (touch:=[4]) (news:=[5]) (hl2:=[(5,⟨6,v9.map eR⟩)]) (n':=6) (r2:= .own 5 0 v9.length) (aSP [v8] v7 v9 hv9) k k ⟨_,_,k,(.inr ⟨(aSt k k ⟨_,_,k,⟨_,_,k,k,⟨_,_,k,k,⟨_,_,k,⟨k,k⟩,⟨_,_,k,⟨k,k⟩,⟨_,_,k,⟨k,k⟩,⟨_,_,k,⟨k,k⟩,k⟩⟩⟩⟩⟩⟩,k⟩),k,k⟩),⟨_,_,k,(.inl k),k⟩⟩ aR k k k ⟨⟨_,k,k,.inl ⟨k,uK.plainE _⟩⟩,k,aR⟩ k (.inl ⟨k,k,(by simp only [aO,lA,lT,lR,lC,lN]),k⟩) k ⟨k,uK.tamdE _ _,aR⟩ k k) k<|cG h λq10 h=>ae (vE aD (l:=x1.1) (m:=v9) uK q10 k k k k k ((aVD uK k k)) k k k k k k) k<|aa k k<|an<|aV<|tn<|rg<|ae (bF k k) k ?_;exact am k k<|an<|tn<|sp h ⟨_,k,(mX [0,1,2,6] (bK k2) (bN k<|bN k<|cD (uK.plainO _) k<|cD (uK.plainE _) k<|aR) k4)⟩
 ·rintro e t ⟨rfl,hent⟩;exact aL<|tn<|aP hent<|sR<|am k k<|lp k8<|am k k<|oB h λv12 hv12 h=>ae (AEff.conv (pO (x:= .tuple [.agg [.int v12.1.p,.int v12.1.q.n,.own 3 0 (v12.1.q.src.map eI).length,.own 4 0 (v12.1.q.tgt.map eI).length,.own 5 0 (v12.1.dims.map eI).length,.own 6 0 (v12.1.maps.map eM).length],.bl v12.2]) (nb:=[(3,⟨1,cN (v12.1.q.src.map eI)⟩),(4,⟨1,cN (v12.1.q.tgt.map eI)⟩),(5,⟨1,cN (v12.1.dims.map eI)⟩),(6,⟨3,cN (v12.1.maps.map eM)⟩)]) (aHG a0 a1 y11 v12 hv12) k (by rfl) k k (fV (bZ aR (bZ aR (bZ (cP.good _) (bZ (cP.good _) (bZ (cP.good _) (bZ (cE.good _) tZ)))))) (fV aR vH)) (dW k (aZ (lQ k) (aZ (aSr uK k k) aS)))) (v':= .tuple [.agg [.int v12.1.p,.int v12.1.q.n,.own 3 0 v12.1.q.src.length,.own 4 0 v12.1.q.tgt.length,.own 5 0 v12.1.dims.length,.own 6 0 v12.1.maps.length],.bl v12.2]) (ed':=[(3,some ⟨1,v12.1.q.src.map (ow eI)⟩),(4,some ⟨1,v12.1.q.tgt.map (ow eI)⟩),(5,some ⟨1,v12.1.dims.map (ow eI)⟩),(6,some ⟨3,v12.1.maps.map (ow eM)⟩)]) (by simp only [aO]) (vO (nb':=[(3,⟨1,v12.1.q.src.map (ow eI)⟩),(4,⟨1,v12.1.q.tgt.map (ow eI)⟩),(5,⟨1,v12.1.dims.map (ow eI)⟩),(6,⟨3,v12.1.maps.map (ow eM)⟩)]) (by simp only [gA]))) k<|ae (bD k k (by intro _ h;cases h)) k<|ae (bD k k (by intro _ h;cases h)) k<|ae (ws k) k<|aT k2<|aJ<|sp h (bT k k k (dC k (bW (gX (aH (k) (aH (k) (aH (eX cP k k) (aH (eX cP k k) (aH (eX cP k k) (aH (eX cE k k) eH))))))) (bW (k) fH))))
def eO (a2:(List Int)) (v1:((List Rp)×Bool)) (x1:(Int×Int×(List Int)×(List Int)×(List Int)×(List Mt)×Int)) (x2:(Int×Int×(List Int)×(List Int)×(List Int)×(List Mt)×Int)):Option ((Int×Int×(List Int)×(List Int)×(List Int)×(List Mt)×Int) ⊕ ((Int×Int×(List Int)×(List Int)×(List Int)×(List Mt)) ⊕ (Rp×Bool))):=
 (cO a2 x1.2.2.2.2.2.2).bind λv9=>
 bif decide (x2.2.2.2.2.2.2<v9) then
 ((cO v1.1 x1.2.2.2.2.2.2).bind λv11=>
 (vC (⟨x2.1,(⟨x2.2.1,x2.2.2.1,x2.2.2.2.1⟩:Qv),x2.2.2.2.2.1,x2.2.2.2.2.2.1⟩:Rp) v11).bind λv12=>
 bif !v12.2 then
 (some (.inr (.inr (((⟨0,(⟨0,[],[]⟩:Qv),[],[]⟩:Rp),false)))))
 else
 (some (.inl (v12.1.p,v12.1.q.n,v12.1.q.src,v12.1.q.tgt,v12.1.dims,v12.1.maps,wr (x2.2.2.2.2.2.2+1)))))
 else
 (some (.inr (.inl (x2.1,x2.2.1,x2.2.2.1,x2.2.2.2.1,x2.2.2.2.2.1,x2.2.2.2.2.2.1))))
def dD (a2:(List Int)) (v1:((List Rp)×Bool)) (x1:(Int×Int×(List Int)×(List Int)×(List Int)×(List Mt)×Int)):Option ((Int×Int×(List Int)×(List Int)×(List Int)×(List Mt)×Int) ⊕ ((Int×Int×(List Int)×(List Int)×(List Int)×(List Mt)) ⊕ (Rp×Bool))):=
 bif decide (x1.2.2.2.2.2.2<(a2.length:Int)) then
 ((cO a2 x1.2.2.2.2.2.2).bind λv6=>
 (kQ v6 0 8).bind λv7=>
 bif !v7 then
 (some (.inr (.inr (((⟨0,(⟨0,[],[]⟩:Qv),[],[]⟩:Rp),false)))))
 else
 ((Lp (eO a2 v1 x1) (x1.1,x1.2.1,x1.2.2.1,x1.2.2.2.1,x1.2.2.2.2.1,x1.2.2.2.2.2.1,0)).bind λy14=>
 Sum.elim (λy15=>
 some (.inl (y15.1,y15.2.1,y15.2.2.1,y15.2.2.2.1,y15.2.2.2.2.1,y15.2.2.2.2.2,wr (x1.2.2.2.2.2.2+1)))
 )
 (λy16=>
 some (.inr (.inr y16))
 )
 y14))
 else
 (some (.inr (.inl (x1.1,x1.2.1,x1.2.2.1,x1.2.2.2.1,x1.2.2.2.2.1,x1.2.2.2.2.2.1))))
def jH (a0:Int) (a1:Qv) (a2:(List Int)):Option (Rp×Bool):=
 (kI a0 a1).bind λv1=>
 bif !v1.2 then
 (some (((⟨0,(⟨0,[],[]⟩:Qv),[],[]⟩:Rp),false)))
 else
 (bif !decide ((a2.length:Int)=((v1.1.length:Nat):Int)) then
 (some (((⟨0,(⟨0,[],[]⟩:Qv),[],[]⟩:Rp),false)))
 else
 (bif (decide (0≤a1.n)&&decide (a1.n≤1048576)) then
 ((vX a0 a1 (List.replicate a1.n.toNat (0:Int))).bind λv4=>
 (Lp (dD a2 v1) (v4.p,v4.q.n,v4.q.src,v4.q.tgt,v4.dims,v4.maps,0)).bind λy17=>
 Sum.elim (λy18=>
 some (((⟨y18.1,(⟨y18.2.1,y18.2.2.1,y18.2.2.2.1⟩:Qv),y18.2.2.2.2.1,y18.2.2.2.2.2⟩:Rp),true))
 )
 (λy19=>
 some y19
 )
 y17)
 else none))
theorem aBK (a0:Int) (a1:Qv) (a2:(List Int)) (r:(Rp×Bool)) (h:jH a0 a1 a2=some r):HasC Tryz.prog 8 [.int a0,.agg (eQ a1),.list 1 (a2.map eI)] (.tuple [.agg (eR r.1),.bl r.2]):=by
 refine hM [.cell 6 29,.tmp 7] Tryz.func8 Tryz.ntmps8 k<|sR<|ae (wb k) k<|ae (bX aD k k) k<|aT k2<|sR<|am k k<|lp k8<|oB h λv1 hv1 h=>ae (cT uK (aBt a0 a1 v1 hv1) k3 (dW k (aZ (lQ k) aS))) k<|am k k<|ae (bD k k (by intro _ h;cases h)) k<|ae (bD k k (by intro _ h;cases h)) k<|aa k k<|aT k2<|sQ<|sR<|am k k<|ae (dL k) k<|am k k<|rA h (λq2 h=>aQ 23 k q2<|aK k4<|aK k4<|ak k k<|pk k3<|an<|tn<|fG k k<|sR<|ae (dE aD k k k k k k) k<|ae (ws k) k<|aT k2<|aJ<|aI<|sp h (bT k k k (dC k (bW (gX (aH (k) (aH (k) (aH (k) (aH (k) (aH (k) (aH (k) eH))))))) (bW (k) fH))))) λq2 h=>?_;refine aQ 23 k q2<|am k k<|ln k4<|am k k<|ae (cA aD k k k k) k<|cm k4<|pk k3<|an<|tn<|dR k h (λ_ h=>sR<|ae (dE aD k k k k k k) k<|ae (ws k) k<|aT k2<|aJ<|aI<|sp h (bT k k k (dC k (bW (gX (aH (k) (aH (k) (aH (k) (aH (k) (aH (k) (aH (k) eH))))))) (bW (k) fH))))) λ_ h=>?_;refine aG<|tn<|sQ<|aN gD<|am k k<|lp k8<|fp k8<|lp k8<|cG h λq20 h=>ae (rJ aD q20 k k k k k k k k) k<|oB h λv4 hv4 h=>ae (cR (aEe a0 a1 (List.replicate a1.n.toNat (0:Int)) v4 hv4) k3 (dW k (aZ (lQ k) (aZ (aSs cP k k) aS)))) k<|ae (bX aD k k) k<|ae (ws k) k<|an<|rC (by kernel_rfl)<|tn<|aP (t:=mN [(2,.list 1 (a2.map eI)),(6,.ptr 1 0 0),(8,.own 2 0 v1.1.length),(10,.ptr 8 0 0)] [(1,⟨6,[iS]⟩),(2,⟨6,v1.1.map (ow eR)⟩),(4,⟨1,v4.q.src.map (ow eI)⟩),(5,⟨1,v4.q.tgt.map (ow eI)⟩),(6,⟨1,v4.dims.map (ow eI)⟩),(7,⟨3,v4.maps.map (ow eM)⟩),(8,⟨6,[oRp v4 4 5 6 7]⟩)] 9) (bS (bK k2) (bN k<|cD (uK.plainO _) k<|bP k<|bP k<|bP k<|cD (cE.plainO _) k<|fF k<|aR) k4)<|sQ<|sR<|aT k2<|aE<|oB h λy17 hy17 h=>cC (body:=(dD a2 v1)) hy17 (λ(x1:(Int×Int×(List Int)×(List Int)×(List Int)×(List Mt)×Int))=>mN [(2,.list 1 (a2.map eI)),(6,.ptr 0 0 0),(8,.own 1 0 v1.1.length),(10,.ptr 2 0 0),(11,.int x1.2.2.2.2.2.2)] [(0,⟨6,[iS]⟩),(1,⟨6,v1.1.map (ow eR)⟩),(2,⟨6,[[.int x1.1,.int x1.2.1,.own 3 0 x1.2.2.1.length,.own 4 0 x1.2.2.2.1.length,.own 5 0 x1.2.2.2.2.1.length,.own 6 0 x1.2.2.2.2.2.1.length]]⟩),(3,⟨1,x1.2.2.1.map (ow eI)⟩),(4,⟨1,x1.2.2.2.1.map (ow eI)⟩),(5,⟨1,x1.2.2.2.2.1.map (ow eI)⟩),(6,⟨3,x1.2.2.2.2.2.1.map (ow eM)⟩)] 7) (λr e t=>Sum.elim (λa=>(λr e t=>e= .exit 0∧Ent t (mN [(6,.ptr 0 0 0),(10,.ptr 1 0 0)] [(0,⟨6,[iS]⟩),(1,⟨6,[[.int r.1,.int r.2.1,.own 2 0 r.2.2.1.length,.own 3 0 r.2.2.2.1.length,.own 4 0 r.2.2.2.2.1.length,.own 5 0 r.2.2.2.2.2.length]]⟩),(2,⟨1,r.2.2.1.map (ow eI)⟩),(3,⟨1,r.2.2.2.1.map (ow eI)⟩),(4,⟨1,r.2.2.2.2.1.map (ow eI)⟩),(5,⟨3,r.2.2.2.2.2.map (ow eM)⟩)] 6)) a e t) (λb=>(λr e t=>e= .ret∧tW TT [.cell 6 29,.tmp 7] (.tuple [.agg (eR r.1),.bl r.2]) .ret t) b e t) r) (mX [1,2,8,4,5,6,7] (bK k2) (bN k<|cD (uK.plainO _) k<|fF k<|bP k<|bP k<|bP k<|cD (cE.plainO _) k<|aR) k4) ?_ ?_
 ·intro x1 o h;refine sQ<|sR<|am k k<|am k k<|ln k4<|cm k4<|an<|tn<|dR k h (λ_ h=>?_) λ_ h=>aU<|aB<|aB<|sp h ⟨_,k,k,(mX [0,2,3,4,5,6] (bK k2) (bN k<|fF k<|bP k<|bP k<|bP k<|cD (cE.plainO _) k<|aR) k4)⟩;refine aG<|tn<|sQ<|aE<|sQ<|sR<|am k k<|am k k<|oB h λv6 hv6 h=>ae (xl hv6 k) k<|lr k7<|oB h λv7 hv7 h=>ae (bC (oK v6 0 8 v7 hv7) k (dW k (dW k (dW k aS)))) k<|ae (dL k) k<|an<|tn<|dR k h (λ_ h=>sR<|ae (dE aD k k k k k k) k<|ae (ws k) k<|aT k2<|aJ<|aI<|bH<|aI<|aI<|sp h ⟨_,k,k,bT k k k (dC k (bW (gX (aH (k) (aH (k) (aH (k) (aH (k) (aH (k) (aH (k) eH))))))) (bW (k) fH)))⟩) λ_ h=>?_;refine aG<|tn<|sR<|aT k2<|aE<|oB h λy14 hy14 h=>cC (body:=(eO a2 v1 x1)) hy14 (λ(x2:(Int×Int×(List Int)×(List Int)×(List Int)×(List Mt)×Int))=>mN [(2,.list 1 (a2.map eI)),(6,.ptr 0 0 0),(8,.own 1 0 v1.1.length),(10,.ptr 2 0 0),(11,.int x1.2.2.2.2.2.2),(12,.int x2.2.2.2.2.2.2)] [(0,⟨6,[iS]⟩),(1,⟨6,v1.1.map (ow eR)⟩),(2,⟨6,[[.int x2.1,.int x2.2.1,.own 3 0 x2.2.2.1.length,.own 4 0 x2.2.2.2.1.length,.own 5 0 x2.2.2.2.2.1.length,.own 6 0 x2.2.2.2.2.2.1.length]]⟩),(3,⟨1,x2.2.2.1.map (ow eI)⟩),(4,⟨1,x2.2.2.2.1.map (ow eI)⟩),(5,⟨1,x2.2.2.2.2.1.map (ow eI)⟩),(6,⟨3,x2.2.2.2.2.2.1.map (ow eM)⟩)] 7) (λr e t=>Sum.elim (λa=>(λr e t=>e= .exit 2∧Ent t (mN [(2,.list 1 (a2.map eI)),(6,.ptr 0 0 0),(8,.own 1 0 v1.1.length),(10,.ptr 2 0 0),(11,.int x1.2.2.2.2.2.2)] [(0,⟨6,[iS]⟩),(1,⟨6,v1.1.map (ow eR)⟩),(2,⟨6,[[.int r.1,.int r.2.1,.own 3 0 r.2.2.1.length,.own 4 0 r.2.2.2.1.length,.own 5 0 r.2.2.2.2.1.length,.own 6 0 r.2.2.2.2.2.length]]⟩),(3,⟨1,r.2.2.1.map (ow eI)⟩),(4,⟨1,r.2.2.2.1.map (ow eI)⟩),(5,⟨1,r.2.2.2.2.1.map (ow eI)⟩),(6,⟨3,r.2.2.2.2.2.map (ow eM)⟩)] 7)) a e t) (λb=>(λr e t=>e= .ret∧tW TT [.cell 6 29,.tmp 7] (.tuple [.agg (eR r.1),.bl r.2]) .ret t) b e t) r) (bS (bK k2) (bN k<|cD (uK.plainO _) k<|fF k<|bP k<|bP k<|bP k<|cD (cE.plainO _) k<|aR) k4) ?_ ?_
  ·intro x2 o h;refine sQ<|sR<|am k k<|am k k<|am k k<|oB h λv9 hv9 h=>ae (xl hv9 k) k<|lr k7<|cm k4<|an<|tn<|dR k h (λ_ h=>?_) λ_ h=>aU<|aB<|aB<|sp h ⟨_,k,k,(bS (bK k2) (bN k<|cD (uK.plainO _) k<|fF k<|bP k<|bP k<|bP k<|cD (cE.plainO _) k<|aR) k4)⟩;exact aG<|tn<|sQ<|aE<|sQ<|aN gD<|lp k8<|am k k<|am k k<|oB h λv11 hv11 h=>ae (xo hv11 k) k<|ae (wp hv11 k) k<|oB h λv12 hv12 h=>ae (AEff.conv (pO (x:= .tuple [.agg [.int v12.1.p,.int v12.1.q.n,.own 7 0 (v12.1.q.src.map eI).length,.own 8 0 (v12.1.q.tgt.map eI).length,.own 9 0 (v12.1.dims.map eI).length,.own 10 0 (v12.1.maps.map eM).length],.bl v12.2]) (nb:=[(7,⟨1,cN (v12.1.q.src.map eI)⟩),(8,⟨1,cN (v12.1.q.tgt.map eI)⟩),(9,⟨1,cN (v12.1.dims.map eI)⟩),(10,⟨3,cN (v12.1.maps.map eM)⟩)]) (aHH (⟨x2.1,(⟨x2.2.1,x2.2.2.1,x2.2.2.2.1⟩:Qv),x2.2.2.2.2.1,x2.2.2.2.2.2.1⟩:Rp) v11 v12 hv12) k (by rfl) k k (fV (bZ aR (bZ aR (bZ (cP.good _) (bZ (cP.good _) (bZ (cP.good _) (bZ (cE.good _) tZ)))))) (fV aR vH)) (aZ (vaR k8) (aZ (lQ k) aS))) (v':= .tuple [.agg [.int v12.1.p,.int v12.1.q.n,.own 7 0 v12.1.q.src.length,.own 8 0 v12.1.q.tgt.length,.own 9 0 v12.1.dims.length,.own 10 0 v12.1.maps.length],.bl v12.2]) (ed':=[(7,some ⟨1,v12.1.q.src.map (ow eI)⟩),(8,some ⟨1,v12.1.q.tgt.map (ow eI)⟩),(9,some ⟨1,v12.1.dims.map (ow eI)⟩),(10,some ⟨3,v12.1.maps.map (ow eM)⟩)]) (by simp only [aO]) (vO (nb':=[(7,⟨1,v12.1.q.src.map (ow eI)⟩),(8,⟨1,v12.1.q.tgt.map (ow eI)⟩),(9,⟨1,v12.1.dims.map (ow eI)⟩),(10,⟨3,v12.1.maps.map (ow eM)⟩)]) (by simp only [gA]))) k<|am k k<|ae (bD k k (by intro _ h;cases h)) k<|ae (bD k k (by intro _ h;cases h)) k<|ae (bX aD k k) k<|ae (ws k) k<|aa k k<|an<|rC (by kernel_rfl)<|tn<|sQ<|sR<|am k k<|ae (dL k) k<|an<|tn<|dR k h (λ_ h=>sR<|ae (dE aD k k k k k k) k<|ae (ws k) k<|aT k2<|aJ<|aI<|bH<|aI<|aI<|sp h ⟨_,k,k,bT k k k (dC k (bW (gX (aH (k) (aH (k) (aH (k) (aH (k) (aH (k) (aH (k) eH))))))) (bW (k) fH)))⟩) λ_ h=>aG<|tn<|rg<|lp k8<|ae (ws k) k<|an<|aV<|tn<|rg<|am k k<|ae (bF k k) k<|aT k2<|sp h ⟨_,k,(mX [0,1,2,7,8,9,10] (bK k2) (bN k<|cD (uK.plainO _) k<|fF k<|bP k<|bP k<|bP k<|cD (cE.plainO _) k<|aR) k4)⟩
  ·intro e t hX;rcases y14 with y15|y16
   ·obtain ⟨rfl,hent⟩:=hX;exact aL<|aV<|tn<|aP hent<|rg<|am k k<|ae (bF k k) k<|aT k2<|sp h ⟨_,k,(bS (bK k2) (bN k<|cD (uK.plainO _) k<|fF k<|bP k<|bP k<|bP k<|cD (cE.plainO _) k<|aR) k4)⟩
   ·obtain ⟨rfl,hent⟩:=hX;exact bH<|bH<|aI<|aI<|sp h ⟨_,k,k,hent⟩
 ·intro e t hX;rcases y17 with y18|y19
  ·obtain ⟨rfl,hent⟩:=hX;exact aL<|tn<|aP hent<|sR<|lp k8<|ae (ws k) k<|aT k2<|aJ<|sp h (bT k k k (dC k (bW (gX (aH (k) (aH (k) (aH (eX cP k k) (aH (eX cP k k) (aH (eX cP k k) (aH (eX cE k k) eH))))))) (bW (k) fH))))
  ·obtain ⟨rfl,hent⟩:=hX;exact bH<|aI<|sp h hent
end
noncomputable section
def aHx (r c:Nat) (F:Nat→Nat→Int):List (List Int):=(List.range c).map λk=>tX r λi=>F i k
def aHy (r c:Nat) (F:Nat→Nat→Int):List (List Int):=(List.range r).map λi=>tX c (F i)
def aJs (c:Nat) (F G:Nat→Nat→Int):Nat→Nat→Int:=λi j=>if j<c then F i j else G i (j - c)
def aLY (r:Nat) (F G:Nat→Nat→Int):Nat→Nat→Int:=λi j=>if i<r then F i j else G (i - r) j
theorem aUP (r c d:Nat) (F G:Nat→Nat→Int):aHx r c F++aHx r d G=aHx r (c+d) (aJs c F G):=by
 unfold aHx;rw [List.range_add,List.map_append,List.map_map];congr 1
 ·refine kC λk hk=>zH λi _=>?_;simp only [aJs];rw [aY (List.mem_range.1 hk)]
 ·refine kC λk hk=>?_;show _=tX r λi=>aJs c F G i (c+k);refine zH λi _=>?_;simp only [aJs];rw [aW (by omega),Nat.add_sub_cancel_left]
theorem aUQ (r s c:Nat) (F G:Nat→Nat→Int):aHy r c F++aHy s c G=aHy (r+s) c (aLY r F G):=by
 unfold aHy;rw [List.range_add,List.map_append,List.map_map];congr 1
 ·refine kC λk hk=>zH λi _=>?_;simp only [aLY];rw [aY (List.mem_range.1 hk)]
 ·refine kC λk hk=>?_;show _=tX c (aLY r F G (r+k));refine zH λi _=>?_;simp only [aLY];rw [aW (by omega),Nat.add_sub_cancel_left]
theorem aMj {a b:Nat} (ha:a≤64) (hb:b≤64):a*b≤1048576:=by
 have:=Nat.mul_le_mul ha hb;omega
theorem aSS {r c k:Nat} (hN:r*c≤1048576) (hr:r≤1048576) (hk:k<c) (F:Nat→Nat→Int):pD ⟨r,c,cK r c F⟩ k=some (tX r λi=>F i k):=by
 unfold pD;simp only;rw [bG (by omega),bG (by omega:(r:Int)≤1048576),Bool.and_self,aM];rw [dQ (r:=tX r λi=>F i k) (λt=>(tX r (λi=>if i<t then F i k else 0),(t:Int))) r (by simp [aRl]) (λt ht=>?_) (λ_=>?_),aC]
 ·unfold lP;simp only [List.length_replicate,dH];rw [iE ht,aM,atT hN ht hk,aC,aII _ ht,aC,aTN ht,bU ht (by omega)];congr 3;refine zH λb hb=>?_;by_cases e:b=t
  ·rw [aY e,aY (by omega),e]
  ·rw [aW e];by_cases e2:b<t
   ·rw [aY e2,aY (by omega)]
   ·rw [aW e2,aW (by omega)]
 ·unfold lP;simp only [List.length_replicate,dH];rw [iT (bO _),aX];congr 2;exact zH λb hb=>by rw [aY hb]
theorem aJt {r c:Nat} (hr:r≤64) (hc:c≤64) (F:Nat→Nat→Int):jV ⟨r,c,cK r c F⟩=some (aHx r c F):=by
 have hN:=aMj hr hc;unfold jV;rw [dQ (r:=aHx r c F) (λk=>(aHx r k F,(k:Int))) c (by simp [aHx]) (λk hk=>?_) (λ_=>?_),aC]
 ·unfold kJ;simp only;rw [iE hk,aM,aSS hN (by omega) hk,aC,bG (by simp [aHx];omega),aM,bU hk (by omega)];congr 3;unfold aHx;rw [List.range_succ,List.map_append];rfl
 ·unfold kJ;simp only;rw [iT (bO _),aX]
theorem aRB {r c:Nat} (hr:r≤64) (hc:c≤64) (F:Nat→Nat→Int):nN ⟨r,c,cK r c F⟩=some (aHy r c F):=by
 have hN:=aMj hr hc;unfold nN;rw [dQ (s:=(([]:List (List Int)),(0:Int))) (r:=aHy r c F) (λk=>(aHy k c F,(k:Int))) r rfl (λk hk=>?_) (λ_=>?_),aC]
 ·unfold nZ;simp only;rw [iE hk,aM,aPS hN (by omega) hk,aC];unfold hO;rw [bG (by simp [tX];omega),aM,aC,bG (by simp [aHy];omega),aM,bU hk (by omega)];congr 3;exact yB (f:=λi=>tX c (F i))
 ·unfold nZ;simp only;rw [iT (bO _),aX]
theorem aOc {r c:Nat} (hr:r≤64) (hc:c≤64) (F:Nat→Nat→Int):xD c (aHy r c F)=some ⟨r,c,cK r c F⟩:=by
 unfold xD;rw [aTO (by simp [aHy];omega) (λv hv=>by obtain ⟨i,_,rfl⟩:=List.mem_map.1 hv;rw [oN];omega),aC];unfold aHy;rw [aFm,fD,List.length_range]
theorem aOd {r c d:Nat} (hr:r≤32) (hc:c≤32) (hd:d≤32) (F G:Nat→Nat→Int):vY ⟨r,c,cK r c F⟩ ⟨r,d,cK r d G⟩=some ⟨r,(c+d:Nat),cK r (c+d) (aJs c F G)⟩:=by
 unfold vY;rw [aJt (by omega) (by omega),aC,aJt (by omega) (by omega),aC,bG (by simp [aHx];omega),aM,aUP];simp only;unfold aHx;rw [aEa (aMj (by omega) (by omega)) (by omega) (by omega),aC]
theorem aVa {r s c:Nat} (hr:r≤32) (hs:s≤32) (hc:c≤64) (F G:Nat→Nat→Int):aAp ⟨r,c,cK r c F⟩ ⟨s,c,cK s c G⟩=some ⟨(r+s:Nat),c,cK (r+s) c (aLY r F G)⟩:=by
 unfold aAp;rw [aRB (by omega) hc,aC,aRB (by omega) hc,aC,bG (by simp [aHy];omega),aM,aUQ];simp only;rw [aOc (by omega) hc,aC]
def zF:Nat→Nat→Int:=λ_ _=>0
def aOe (r c:Nat) (F G:Nat→Nat→Int):Nat→Nat→Int:=aLY r (aJs c F zF) (aJs c zF G)
theorem aMk (r c:Nat) (F G:Nat→Nat→Int) (i j:Nat):aOe r c F G i j=if i<r then (if j<c then F i j else 0) else if j<c then 0 else G (i - r) (j - c):=rfl
theorem aUR {r c s d:Nat} (hr:r≤32) (hs:s≤32) (hc:c≤32) (hd:d≤32) (F G:Nat→Nat→Int):zW ⟨r,c,cK r c F⟩ ⟨r,d,cK r d zF⟩ ⟨s,d,cK s d G⟩=some ⟨(r+s:Nat),(c+d:Nat),cK (r+s) (c+d) (aOe r c F G)⟩:=by
 unfold zW;rw [aOd hr hc hd,aC];simp only;rw [aEw (aMj (by omega) (by omega)),aC,show (λ_ _=>0:Nat→Nat→Int)=zF from rfl,aOd hs hc hd,aC,aVa hr hs (by omega),aC];rfl
theorem aXA {C R r i c k:Nat} (hr:r+i<R) (hR:R*C≤1048576) (hc:c+k<C) (hC:C≤64) (hR2:R≤64):wr (wr (wr (wr ((r:Int)+(i:Int))*(C:Int))+(c:Int))+(k:Int))=wr (wr (((r+i:Nat):Int)*(C:Int))+((c+k:Nat):Int)):=by
 have h1:(r+i)*C≤R*C:=Nat.mul_le_mul_right C (by omega);rw [cY (x:=(r:Int)+(i:Int)) (by omega),show (r:Int)+(i:Int)=((r+i:Nat):Int) by omega,aIq (by omega)];generalize (r+i)*C=X at*;rw [cY (x:=(X:Int)+(c:Int)) (by omega)];congr 1;omega
theorem aST {r c s d:Nat} (hr:r≤32) (hs:s≤32) (hc:c≤32) (hd:d≤32) (F G:Nat→Nat→Int):yN ⟨r,c,cK r c F⟩ ⟨s,d,cK s d G⟩=some ⟨(r+s:Nat),(c+d:Nat),cK (r+s) (c+d) (aOe r c F G)⟩:=by
 have hN:(r+s)*(c+d)≤1048576:=aMj (by omega) (by omega);unfold yN;simp only;rw [cY (x:=(r:Int)+(s:Int)) (by omega),cY (x:=(c:Int)+(d:Int)) (by omega),show (r:Int)+(s:Int)=((r+s:Nat):Int) by omega,show (c:Int)+(d:Int)=((c+d:Nat):Int) by omega,aNg hN,aC];simp only;rw [dQ (r:=cK (r+s) (c+d) (λa b=>if a<r∧b<c then F a b else 0)) (λi=>(cK (r+s) (c+d) (λa b=>if a<i∧b<c then F a b else 0),(i:Int))) r (by simp) (λi hi=>?_) (λ_=>?_),aC]
 ·rw [dQ (r:=cK (r+s) (c+d) (aOe r c F G)) (λi=>(cK (r+s) (c+d) (λa b=>if a<r+i then aOe r c F G a b else 0),(i:Int))) s ?_ (λi hi=>?_) (λ_=>?_),aC]
  ·congr 1;refine dG λa b ha hb=>?_;rw [aMk];by_cases h1:a<r
   ·rw [aY (show a<r+0 by omega),aY h1];by_cases h2:b<c
    ·rw [aY ⟨h1,h2⟩,aY h2]
    ·rw [aW (λh=>h2 h.2),aW h2]
   ·rw [aW (λh=>h1 h.1),aW (show ¬ a<r+0 by omega)]
  ·unfold tT;simp only;rw [iE hi,aM];rw [dQ (r:=cK (r+s) (c+d) (λa b=>if a<r+i+1 then aOe r c F G a b else 0)) (λk=>(cK (r+s) (c+d) (λa b=>if a<r+i∨a=r+i∧b<c+k then aOe r c F G a b else 0),(k:Int))) d ?_ (λk hk=>?_) (λ_=>?_),aC,bU hi (by omega)]
   ·rfl
   ·congr 1;refine dG λa b ha hb=>?_;by_cases h1:a<r+i
    ·rw [aY h1,aY (.inl h1)]
    ·rw [aW h1];by_cases h2:a=r+i∧b<c+0
     ·rw [aY (.inr h2),aMk,aW (by omega),aY (by omega)]
     ·rw [aW (by omega)]
   ·unfold tS;simp only;rw [iE hk,aM,atT (aMj (by omega) (by omega)) hi hk,aC,aXA (R:=r+s) (by omega) hN (by omega) (by omega) (by omega),atT hN (show r+i<r+s by omega) (show c+k<c+d by omega),aC,aPR hN (show r+i<r+s by omega) (show c+k<c+d by omega),bU hk (by omega)];congr 3;refine dG λa b ha hb=>?_;simp only [aFW];by_cases e:a=r+i∧b=c+k
    ·rw [aY e,aY (by omega),aMk,aW (by omega),aW (by omega),e.1,e.2,Nat.add_sub_cancel_left,Nat.add_sub_cancel_left]
    ·rw [aW e];by_cases e2:a<r+i∨a=r+i∧b<c+k
     ·rw [aY e2,aY (by omega)]
     ·rw [aW e2,aW (by omega)]
   ·unfold tS;simp only;rw [iT (bO _),aX];congr 2;refine dG λa b ha hb=>?_;by_cases h1:a<r+i+1
    ·rw [aY h1,aY (by omega)]
    ·rw [aW h1,aW (by omega)]
  ·unfold tT;simp only;rw [iT (bO _),aX];congr 2;exact dG λa b ha hb=>by rw [aY ha]
 ·unfold tR;simp only;rw [iE hi,aM];rw [dQ (r:=cK (r+s) (c+d) (λa b=>if a<i+1∧b<c then F a b else 0)) (λk=>(cK (r+s) (c+d) (λa b=>if (a<i∧b<c)∨a=i∧b<k then F a b else 0),(k:Int))) c (by simp) (λk hk=>?_) (λ_=>?_),aC,bU hi (by omega)]
  ·unfold tQ;simp only;rw [iE hk,aM,atT (aMj (by omega) (by omega)) hi hk,aC,atT hN (show i<r+s by omega) (show k<c+d by omega),aC,aPR hN (show i<r+s by omega) (show k<c+d by omega),bU hk (by omega)];congr 3;refine dG λa b ha hb=>?_;simp only [aFW];by_cases e:a=i∧b=k
   ·rw [aY e,aY (by omega),e.1,e.2]
   ·rw [aW e];by_cases e2:(a<i∧b<c)∨a=i∧b<k
    ·rw [aY e2,aY (by omega)]
    ·rw [aW e2,aW (by omega)]
  ·unfold tQ;simp only;rw [iT (bO _),aX];congr 2;refine dG λa b ha hb=>?_;by_cases h1:a<i+1∧b<c
   ·rw [aY h1,aY (by omega)]
   ·rw [aW h1,aW (by omega)]
 ·unfold tR;simp only;rw [iT (bO _),aX]
end
noncomputable section
def rpM (r:Rp) (i:Nat):Mt:=⟨dN r (tV r i),dN r (sV r i),cK (dN r (tV r i)) (dN r (sV r i)) (aF r i)⟩
theorem Rv.dimsE {r:Rp} (h:Rv r):r.dims=(List.range r.dims.length).map λv=>(dN r v:Int):=by
 refine List.ext_getElem (by simp) λi h1 h2=>?_;have:=(h.d i h1).1;rw [hJ h1] at this;simpa using this
theorem Rv.mapsE {r:Rp} (h:Rv r):r.maps=(List.range r.q.src.length).map (rpM r):=by
 refine List.ext_getElem (by simp [h.ml]) λi h1 h2=>?_;have:=(h.m i (by rw [←h.ml];exact h1)).1;rw [hJ h1] at this;simpa [rpM] using this
def dsM (a b:Rp) (i:Nat):Mt:=⟨(dN a (tV a i)+dN b (tV a i):Nat),(dN a (sV a i)+dN b (sV a i):Nat),cK (dN a (tV a i)+dN b (tV a i)) (dN a (sV a i)+dN b (sV a i)) (aOe (dN a (tV a i)) (dN a (sV a i)) (aF a i) (aF b i))⟩
def aBw (a b:Rp):Rp:=⟨a.p,a.q,(List.range a.dims.length).map λv=>((dN a v+dN b v:Nat):Int),(List.range a.q.src.length).map (dsM a b)⟩
theorem aPy {a b:Rp} (h:Fit a b) (ha:bR a):bR (aBw a b):=by
 have:=h.ra.n5;have:=h.ra.e6;refine ⟨ha.1,by simp [aBw,bI];omega,⟨by simp [aBw];omega,λm hm=>?_⟩,trivial⟩;obtain ⟨i,hi,rfl⟩:=List.mem_map.1 hm;have hi:=List.mem_range.1 hi;obtain ⟨_,s2⟩:=h.ra.s i hi;obtain ⟨_,t2⟩:=h.ra.t i hi;have d1:=(h.ra.d _ s2).2;have d2:=(h.ra.d _ t2).2;have d3:=(h.rb.d (sV a i) (by rw [h.ne];exact s2)).2;have d4:=(h.rb.d (tV a i) (by rw [h.ne];exact t2)).2;refine ⟨?_,trivial⟩;show (cK _ _ _).length ≤1048576;rw [jT];exact aMj (by omega) (by omega)
theorem aMl {r:Rp} (h:bR r):vA r=some r:=by
 obtain ⟨⟨h1,h2,_⟩,h3,⟨h4,h5⟩,_⟩:=h;unfold bI at h1 h2 h3
 have hc:qA r.maps=some r.maps:=by
  unfold qA;rw [dQ (s:=(([]:List Mt),(0:Int))) (r:=r.maps) (λk=>(r.maps.take k,(k:Int))) r.maps.length rfl (λk hk=>?_) (λ_=>?_),aC]
  ·have:=(h5 _ (List.getElem_mem hk)).1;unfold bI at this;unfold mS;simp only;rw [iE hk,aM,dJ hk,aC];unfold gY hO;rw [bG this,aM,aC,aC,bG (by simp;omega),aM,bU hk (by omega),aBy hk]
  ·unfold mS;simp only;rw [iT (bO _),aX,List.take_length]
 unfold vA mB hO;rw [bG h1,bG h2,bG h3,hc];rfl
theorem aSU {q:Qv} (h:bQ q):pK q=some q:=by
 obtain ⟨h1,h2,_⟩:=h;unfold bI at h1 h2;unfold pK;rw [bG (by simp;omega),aM,bG (by simp;omega),aM];simp
theorem aMm {r:Rp} (h:Rv r) {k:Nat} (hk:k<r.dims.length):cO r.dims (k:Int)=some (dN r k:Int):=by
 rw [vG 0 hk,(h.d k hk).1]
theorem aIN {r:Rp} (h:Rv r) {k:Nat} (hk:k<r.q.src.length):cO r.maps (k:Int)=some (rpM r k):=by
 rw [vG ⟨0,0,[]⟩ (by rw [h.ml];exact hk),(h.m k hk).1];rfl
theorem aRC {a b:Rp} (h:Fit a b) (i:Nat):rpM b i=⟨dN b (tV a i),dN b (sV a i),cK (dN b (tV a i)) (dN b (sV a i)) (aF b i)⟩:=by
 unfold rpM;rw [h.sV,h.tV]
theorem aOf {a b:Rp} (h:Fit a b) (ha:bR a):vB a b=some (aBw a b):=by
 have n5:=h.ra.n5;have e6:=h.ra.e6;have hbe:b.q.src.length=a.q.src.length:=by rw [h.qe]
 unfold vB;rw [aMl ha,aC];rw [dQ (r:=(List.range a.dims.length).map λv=>((dN a v+dN b v:Nat):Int)) (λk=>((List.range a.dims.length).map λv=>if v<k then ((dN a v+dN b v:Nat):Int) else (dN a v:Int),(k:Int))) b.dims.length ?_ (λk hk=>?_) (λ_=>?_),aC]
 ·rw [dQ (r:=(List.range a.q.src.length).map (dsM a b)) (λk=>((List.range a.q.src.length).map λi=>if i<k then dsM a b i else rpM a i,(k:Int))) b.maps.length ?_ (λk hk=>?_) (λ_=>?_),aC]
  ·rfl
  ·rw [h.ra.mapsE];simp [rpM]
  ·have hkb:k<b.q.src.length:=by rw [←h.rb.ml];exact hk
   have hbl:=h.rb.ml;have hka:k<a.q.src.length:=by omega
   obtain ⟨_,s2⟩:=h.ra.s k hka;obtain ⟨_,t2⟩:=h.ra.t k hka;have d1:=(h.ra.d _ s2).2;have d2:=(h.ra.d _ t2).2;have d3:=(h.rb.d (sV a k) (by rw [h.ne];exact s2)).2;have d4:=(h.rb.d (tV a k) (by rw [h.ne];exact t2)).2;unfold qC;simp only;rw [iE hk,aM,aIN h.rb hkb,aC,zT hka,aC,aIN h.ra hka,aC,aC,aRC h];unfold rpM;simp only;rw [aEw (aMj (by omega) (by omega)),aC,show (λ_ _=>0:Nat→Nat→Int)=zF from rfl,aUR (by omega) (by omega) (by omega) (by omega),aC,dH,aCV,bU hk (by omega)];congr 3;refine kC λi hi=>?_;by_cases e:i=k
   ·rw [aY e,aY (by omega),e];rfl
   ·rw [aW e];by_cases e2:i<k
    ·rw [aY e2,aY (by omega)]
    ·rw [aW e2,aW (by omega)]
  ·unfold qC;simp only;rw [iT (bO _),aX];congr 2;refine kC λi hi=>?_;rw [aY (by have:=List.mem_range.1 hi;have:=h.rb.ml;omega)]
 ·rw [show (List.range a.dims.length).map (λv=>if v<0 then ((dN a v+dN b v:Nat):Int) else (dN a v:Int))=a.dims from by
   rw [h.ra.dimsE];simp [←h.ra.dimsE]]
  rfl
 ·have hka:k<a.dims.length:=by rw [←h.ne];exact hk
  have hbl:=h.ne;have da:=(h.ra.d _ hka).2;have db:=(h.rb.d _ hk).2;unfold qB;simp only;rw [iE hk,aM,aMm h.rb hk,aC,zT hka,aC,aC,aW (by omega),dH,aCV,bU hk (by omega),cY (by omega)];congr 3;refine kC λi hi=>?_;by_cases e:i=k
  ·rw [aY e,aY (by omega),e];omega
  ·rw [aW e];by_cases e2:i<k
   ·rw [aY e2,aY (by omega)]
   ·rw [aW e2,aW (by omega)]
 ·unfold qB;simp only;rw [iT (bO _),aX];congr 2;refine kC λi hi=>?_;rw [aY (by have:=List.mem_range.1 hi;have:=h.ne;omega)]
theorem aPz {a b:Rp} (h:Fit a b) (va:sI a=true) (vb:sI b=true) (ha:bR a) (hb:bR b):vC a b=some (bif sI (aBw a b) then (aBw a b,true) else (emR,false)):=by
 have n5:=h.ra.n5;have e6:=h.ra.e6;have hml:=h.ra.ml;unfold vC;rw [aQZ ha hb,va,vb,bG h.pe.symm,bG h.qe.symm,aC];simp only [Bool.and_self,gO,aX];rw [aSU ha.1,aC];rw [dQ (s:=(([]:List Int),(0:Int))) (r:=(List.range a.dims.length).map λv=>((dN a v+dN b v:Nat):Int)) (λk=>((List.range k).map λv=>((dN a v+dN b v:Nat):Int),(k:Int))) a.dims.length rfl (λk hk=>?_) (λ_=>?_),aC]
 ·rw [dQ (s:=(([]:List Mt),(0:Int))) (r:=(List.range a.q.src.length).map (dsM a b)) (λk=>((List.range k).map (dsM a b),(k:Int))) a.maps.length rfl (λk hk=>?_) (λ_=>?_),aC]
  ·have e:(⟨a.p,a.q,(List.range a.dims.length).map λv=>((dN a v+dN b v:Nat):Int),(List.range a.q.src.length).map (dsM a b)⟩:Rp)=aBw a b:=rfl;rw [e,aGi (aPy h ha),aC];cases sI (aBw a b) <;> rfl
  ·have hka:k<a.q.src.length:=by omega
   have hkb:k<b.q.src.length:=by rw [h.qe];exact hka
   obtain ⟨_,s2⟩:=h.ra.s k hka;obtain ⟨_,t2⟩:=h.ra.t k hka;have d1:=(h.ra.d _ s2).2;have d2:=(h.ra.d _ t2).2;have d3:=(h.rb.d (sV a k) (by rw [h.ne];exact s2)).2;have d4:=(h.rb.d (tV a k) (by rw [h.ne];exact t2)).2;unfold qE;simp only;rw [iE hk,aM,aIN h.ra hka,aC,aIN h.rb hkb,aC,aRC h];unfold rpM;rw [aST (by omega) (by omega) (by omega) (by omega),aC,bG (by simp;omega),aM,bU hk (by omega)];congr 3;exact yB (f:=dsM a b)
  ·unfold qE;simp only;rw [iT (bO _),aX,hml]
 ·have hkb:k<b.dims.length:=by rw [h.ne];exact hk
  have da:=(h.ra.d _ hk).2;have db:=(h.rb.d _ hkb).2;unfold qD;simp only;rw [iE hk,aM,aMm h.ra hk,aC,aMm h.rb hkb,aC,bG (by simp;omega),aM,bU hk (by omega),cY (by omega)];congr 3;have:=yB (f:=λv=>((dN a v+dN b v:Nat):Int)) (k:=k);rw [←this];congr 2
 ·unfold qD;simp only;rw [iT (bO _),aX]
structure SmR (p:Int) (q:Qv) (r:Rp):Prop where
 v:sI r=true
 b:bR r
 hp:r.p=p
 hq:r.q=q
theorem SmR.fit {p:Int} {q:Qv} {a b:Rp} (ha:SmR p q a) (hb:SmR p q b):Fit a b:=aPW ha.v hb.v (ha.hp.trans hb.hp.symm) (ha.hq.trans hb.hq.symm)
def aET:Rp→List Rp→Option Rp
 |o,[]=>some o
 |o,r::l=>bif sI (aBw o r) then aET (aBw o r) l else none
theorem aOg: ∀ (l m:List Rp) (o:Rp),aET o (l++m)=(aET o l).bind λz=>aET z m
 | [],m,o=>rfl
 |r::l,m,o=>by
  simp only [List.cons_append,aET];cases sI (aBw o r) with
  |false=>rfl
  |true=>exact aOg l m _
theorem SmR.dsum {p:Int} {q:Qv} {a b:Rp} (ha:SmR p q a) (hb:SmR p q b) (h:sI (aBw a b)=true):SmR p q (aBw a b):=⟨h,aPy (ha.fit hb) ha.b,ha.hp,ha.hq⟩
theorem aMn {p:Int} {q:Qv} : ∀ (l:List Rp) (o:Rp),SmR p q o→(∀ r∈l,SmR p q r)→ ∀ z,aET o l=some z→SmR p q z
 | [],o,ho,_,z,h=>by cases h;exact ho
 |r::l,o,ho,hl,z,h=>by
  simp only [aET] at h;cases hv:sI (Proofs.YtilpfdokmlanjaaGreat.aBw o r) with
  |false=>rw [hv] at h;cases h
  |true=>rw [hv] at h;exact aMn l _ (ho.dsum (hl r (by simp)) hv) (λx hx=>hl x (by simp [hx])) z h
def fl (o:Rp) (i:Int):Int×Int×List Int×List Int×List Int×List Mt×Int:=(o.p,o.q.n,o.q.src,o.q.tgt,o.dims,o.maps,i)
def fl6 (o:Rp):Int×Int×List Int×List Int×List Int×List Mt:=(o.p,o.q.n,o.q.src,o.q.tgt,o.dims,o.maps)
def aUS (x:Option Rp):(Int×Int×List Int×List Int×List Int×List Mt) ⊕ (Rp×Bool):=match x with|some z=> .inl (fl6 z)|none=> .inr (emR,false)
theorem aVc {p:Int} {q:Qv} {l:List Rp} (hl:l.length≤1048576) (hs: ∀ r∈l,SmR p q r): ∀ (d i:Nat) (o:Rp),i+d=l.length→SmR p q o→Lp (gZ l) (fl o i)=some (aUS (aET o (l.drop i))):=by
 intro d;induction d with
 |zero=>
  intro i o hi ho;rw [List.drop_of_length_le (by omega)];refine dS ?_;unfold gZ fl;simp only;rw [iT (by omega),aX];rfl
 |succ d ih=>
  intro i o hi ho;have hil:i<l.length:=by omega
  have hr:=hs _ (List.getElem_mem hil);have hd:=aOf (ho.fit hr) ho.b
  have hb:gZ l (fl o i)=some (bif sI (aBw o l[i]) then .inl (fl (aBw o l[i]) ((i+1:Nat):Int)) else .inr (.inr (emR,false))):=by
   unfold gZ fl;simp only;rw [iE hil,aM,dJ hil,aC];have e:(⟨o.p,⟨o.q.n,o.q.src,o.q.tgt⟩,o.dims,o.maps⟩:Rp)=o:=rfl;rw [e,hd,aC,aRg (aPy (ho.fit hr) ho.b),aC,bU hil (by omega)];cases sI (aBw o l[i]) <;> rfl
  rw [List.drop_eq_getElem_cons hil];simp only [aET];cases hv:sI (aBw o l[i]) with
  |false=>rw [hv] at hb;exact dS hb
  |true=>rw [hv] at hb;exact (iU hb).trans (ih (i+1) _ (by omega) (ho.dsum hr hv))
def aDD:List Int→List Rp→List Rp
 |x::xs,r::rs=>List.replicate x.toNat r++aDD xs rs
 |_,_=>[]
theorem aOh: ∀ (m:List Int) (l:List Rp),∀ r∈aDD m l,r∈l
 | [],_,r,h=>by simp [aDD] at h
 |_::_,[],r,h=>by simp [aDD] at h
 |x::xs,y::ys,r,h=>by
  rcases eP.1 h with h|h
  ·rw [(List.mem_replicate.1 h).2];simp
  ·exact List.mem_cons_of_mem _ (aOh xs ys r h)
theorem aOi: ∀ (m:List Int) (l:List Rp),(m.all λx=>inR x 0 8)=true→(aDD m l).length ≤8*m.length
 | [],_,_=>by simp [aDD]
 |_::_,[],_=>by simp [aDD]
 |x::xs,y::ys,h=>by
  simp only [List.all_cons,dF] at h;have h1:=qI h.1;have h2:=aOi xs ys h.2;simp only [aDD,List.length_append,List.length_replicate,List.length_cons];omega
theorem aUT {m:List Int} {v1:List Rp×Bool} (hm:m.length≤20) (hl:m.length=v1.1.length) (ha:(m.all λx=>inR x 0 8)=true): ∀ (d i:Nat) (acc:List Rp),i+d=m.length→acc.length≤8*i→Lp (eK m v1) (acc,(i:Int))=some (acc++aDD (m.drop i) (v1.1.drop i)):=by
 intro d;induction d with
 |zero=>
  intro i acc hi hacc;refine dS ?_;unfold eK;simp only;rw [iT (by omega),aX,List.drop_of_length_le (show m.length≤i by omega)];simp [aDD]
 |succ d ih=>
  intro i acc hi hacc;have him:i<m.length:=by omega
  have hil:i<v1.1.length:=by omega
  have hx:=qI (List.all_eq_true.1 ha _ (List.getElem_mem him))
  have hrep:aAr [v1.1[i]] m[i]=some (List.replicate m[i].toNat v1.1[i]):=by
   simp only [aAr];rw [bG (by omega),bG (by omega)];rfl
  have hb:eK m v1 (acc,(i:Int))=some (.inl (acc++List.replicate m[i].toNat v1.1[i],((i+1:Nat):Int))):=by
   unfold eK;simp only;rw [iE him,aM,dJ him,aC,dJ hil,aC,hrep,aC,bG (by simp;omega),aM,bU him (by omega)]
  rw [iU hb,ih (i+1) _ (by omega) (by simp;omega),List.drop_eq_getElem_cons him,List.drop_eq_getElem_cons hil];simp only [aDD,List.append_assoc]
theorem aXC {p:Int} {q:Qv} {m:List Int} {v1:List Rp×Bool} {i:Nat} (o1:Rp) (him:i<m.length) (hil:i<v1.1.length) {n:Nat} (hn:m[i]=(n:Int)) (hn8:n≤8) (hr:SmR p q v1.1[i]): ∀ (d k:Nat) (o:Rp),k+d=n→SmR p q o→Lp (eO m v1 (fl o1 i)) (fl o k)=some (aUS (aET o (List.replicate d v1.1[i]))):=by
 intro d;induction d with
 |zero=>
  intro k o hk ho;refine dS ?_;unfold eO fl;simp only;rw [dJ him,aC,hn,iT (by omega),aX];rfl
 |succ d ih=>
  intro k o hk ho;have hd:=aPz (ho.fit hr) ho.v hr.v ho.b hr.b
  have hb:eO m v1 (fl o1 i) (fl o k)=some (bif sI (aBw o v1.1[i]) then .inl (fl (aBw o v1.1[i]) ((k+1:Nat):Int)) else .inr (.inr (emR,false))):=by
   unfold eO fl;simp only;rw [dJ him,aC,hn,iE (by omega),aM,dJ hil,aC];have e:(⟨o.p,⟨o.q.n,o.q.src,o.q.tgt⟩,o.dims,o.maps⟩:Rp)=o:=rfl;rw [e,hd,aC,bU (show k<n by omega) (by omega)];cases sI (aBw o v1.1[i]) <;> rfl
  rw [List.replicate_succ];simp only [aET];cases hv:sI (aBw o v1.1[i]) with
  |false=>rw [hv] at hb;exact dS hb
  |true=>rw [hv] at hb;exact (iU hb).trans (ih (k+1) _ (by omega) (ho.dsum hr hv))
theorem aXD {p:Int} {q:Qv} {m:List Int} {v1:List Rp×Bool} (hm:m.length≤20) (hl:m.length=v1.1.length) (hs: ∀ r∈v1.1,SmR p q r): ∀ (d i:Nat) (o:Rp),i+d=m.length→SmR p q o→Lp (dD m v1) (fl o i)=some (bif (m.drop i).all (λx=>inR x 0 8) then aUS (aET o (aDD (m.drop i) (v1.1.drop i))) else .inr (emR,false)):=by
 intro d;induction d with
 |zero=>
  intro i o hi ho;rw [List.drop_of_length_le (show m.length≤i by omega)];refine dS ?_;unfold dD fl;simp only;rw [iT (by omega),aX];rfl
 |succ d ih=>
  intro i o hi ho;have him:i<m.length:=by omega
  have hil:i<v1.1.length:=by omega
  rw [List.drop_eq_getElem_cons him,List.drop_eq_getElem_cons hil];simp only [List.all_cons,aDD];cases hx:inR m[i] 0 8 with
  |false=>
   refine dS ?_;unfold dD fl;simp only;rw [iE him,aM,dJ him,aC,aAN,aC,hx];rfl
  |true=>
   have h8:=qI hx;obtain ⟨n,hn⟩: ∃ n:Nat,m[i]=(n:Int):=⟨m[i].toNat,by omega⟩;have hr:=hs _ (List.getElem_mem hil);have h2:=aXC (m:=m) (v1:=v1) o him hil hn (by omega) hr n 0 o (by omega) ho
   have hb:dD m v1 (fl o i)=some (Sum.elim (λy=> .inl (y.1,y.2.1,y.2.2.1,y.2.2.2.1,y.2.2.2.2.1,y.2.2.2.2.2,((i+1:Nat):Int))) (λy=> .inr (.inr y)) (aUS (aET o (List.replicate n v1.1[i])))):=by
    have e0:dD m v1 (fl o i)=(Option.bind (Lp (eO m v1 (fl o i)) (fl o ((0:Nat):Int))) λy14=>Sum.elim (λy15=>some (.inl (y15.1,y15.2.1,y15.2.2.1,y15.2.2.2.1,y15.2.2.2.2.1,y15.2.2.2.2.2,((i+1:Nat):Int)))) (λy16=>some (.inr (.inr y16))) y14):=by
     unfold dD fl;simp only;rw [iE him,aM,dJ him,aC,aAN,aC,hx,bU him (by omega)];rfl
    rw [e0,h2,aC];cases aUS (aET o (List.replicate n v1.1[i])) <;> rfl
   rw [hn,dH,Bool.true_and,aOg];cases hz:aET o (List.replicate n v1.1[i]) with
   |none=>
    rw [hz] at hb;rw [dS (r:= .inr (emR,false)) hb];cases (m.drop (i+1)).all λx=>inR x 0 8 <;> rfl
   |some z=>
    rw [hz] at hb;have hzs:=aMn _ _ ho (λr hr'=>by rw [(List.mem_replicate.1 hr').2];exact hr) z hz;rw [iU (s':=fl z ((i+1:Nat):Int)) hb,ih (i+1) z (by omega) hzs];rfl
theorem aOj (p:Int) {q:Qv} (hb:bQ q) {m:List Int} (hm:bI m): ∃ r b,jG p q m=some (r,b)∧jH p q m=some (r,b)∧bR r∧((b=false∧r=emR)∨(b=true∧isF p=true)):=by
 have hE:bR emR:=by refine ⟨⟨?_,?_,trivial⟩,?_,⟨?_,?_⟩,trivial⟩ <;> simp [emR,bI]
 obtain ⟨L,b,h1,h2,h3,h4,h5⟩:=aVZ p hb;unfold jG jH;rw [h1,h2];simp only [aC];cases b with
 |false=>exact ⟨emR,false,rfl,rfl,hE,.inl ⟨rfl,rfl⟩⟩
 |true=>
  obtain ⟨R,g1,g2,g3,g4⟩:=h5 rfl;simp only [gO,aX];by_cases hl:m.length=L.length
  ·rw [bG (show ((m.length:Nat):Int)=(L.length:Int) by omega)];simp only [gO,aX]
   have hne:L≠[]:=by
    rintro rfl;obtain ⟨R2,c2,p1,p2,p3⟩:=aLS hb;rw [g1] at p1;cases p1;rcases p3 with ⟨h,_⟩|⟨_,n,H,rfl⟩
    ·cases h
    ·have:=(lX H _).2 (aHB H (v:=0) H.Q.n1);rw [List.length_eq_zero_iff.1 g2.symm] at this;cases this
   obtain ⟨y,hy⟩:=List.exists_mem_of_ne_nil _ hne;have hsm: ∀ r∈L,SmR p q r:=λr hr=>⟨(g4 r hr).1,h4 r hr,(g4 r hr).2.1,(g4 r hr).2.2⟩;have hy2:=hsm y hy;have hQ:aBB q=true:=by have:=(uC (aDX hy2.v).2.1).1;rwa [hy2.hq] at this
   have hF:isF p=true:=by have:=(aDX hy2.v).1;rwa [hy2.hp] at this
   obtain ⟨n,hn,hn1,hn5,hq1,hq2,hq3,hq4⟩:=xO hQ;obtain ⟨x0,hx0⟩: ∃ x0,x0=List.replicate n (0:Int):=⟨_,rfl⟩
   have hD:aBC q x0=true:=by
    unfold aBC;rw [hQ,hx0];simp [hn];exact .inr (by decide)
   have X:=aUH hD;obtain ⟨o,ho⟩: ∃ o,o=yO p q x0 λ_ _=>0:=⟨_,rfl⟩;have hoS:SmR p q o:=⟨by rw [ho];exact aOW hF hD (λ_ _=>by omega),by rw [ho];exact aMf hb X,by rw [ho];rfl,by rw [ho];rfl⟩;have z1:=aQy p hb X;have z2:=aLT p hb X;rw [←ho] at z1 z2;have hS:=aXD (v1:=(L,true)) (p:=p) (q:=q) (m:=m) (by omega) hl hsm m.length 0 o (by omega) hoS;rw [List.drop_zero,List.drop_zero] at hS;rw [aAE hm,aC,hn,bG (by omega),bG (by omega)];simp only [Bool.and_self,aM,dH];rw [←hx0,z2,aC];have e1:Lp (dD m (L,true)) (o.p,o.q.n,o.q.src,o.q.tgt,o.dims,o.maps,0)=_:=hS;rw [e1,aC];cases ha:m.all λx=>inR x 0 8 with
   |false=>exact ⟨emR,false,rfl,rfl,hE,.inl ⟨rfl,rfl⟩⟩
   |true=>
    simp only [gO,aX,aM];have hI:=aUT (v1:=(L,true)) (m:=m) (by omega) hl ha m.length 0 [] (by omega) (by simp);rw [List.drop_zero,List.drop_zero,List.nil_append] at hI;have e2:Lp (eK m (L,true)) ([],0)=_:=hI;rw [e2,aC];have hsl:=aOi m L ha;have hmem: ∀ r∈aDD m L,SmR p q r:=λr hr=>hsm r (aOh m L r hr);have hZ:=aVc (p:=p) (q:=q) (l:=aDD m L) (by omega) hmem (aDD m L).length 0 o (by omega) hoS;rw [List.drop_zero] at hZ;unfold zM;rw [hn,bG (by omega),bG (by omega)];simp only [Bool.and_self,aM,dH];rw [←hx0,z1,aC];have e3:Lp (gZ (aDD m L)) (o.p,o.q.n,o.q.src,o.q.tgt,o.dims,o.maps,0)=_:=hZ;rw [e3,aC];cases hz:aET o (aDD m L) with
    |none=>exact ⟨emR,false,rfl,rfl,hE,.inl ⟨rfl,rfl⟩⟩
    |some z=>exact ⟨z,true,rfl,rfl,(aMn _ _ hoS hmem z hz).b,.inr ⟨rfl,hF⟩⟩
  ·rw [eB (show ¬ ((m.length:Nat):Int)=(L.length:Int) by omega)];exact ⟨emR,false,rfl,rfl,hE,.inl ⟨rfl,rfl⟩⟩
end
noncomputable section
set_option maxRecDepth 10000
set_option maxHeartbeats 4000000
def iF (a0:(List Int)) (x1:(Int×Int)):Option ((Int×Int) ⊕ Int):=
 bif decide (x1.2<(a0.length:Int)) then
 ((cO a0 x1.2).bind λv4=>
 some (.inl (min x1.1 v4,wr (x1.2+1))))
 else
 (some (.inr x1.1))
def oA (a0:(List Int)):Option Int:=
 bif decide ((a0.length:Int)<1) then
 (none)
 else
 ((cO a0 0).bind λv2=>
 (Lp (iF a0) (v2,1)).bind λy5=>
 some (y5))
theorem aDE (a0:(List Int)) (r:Int) (h:oA a0=some r):HasC Tryz.prog 146 [.list 1 (a0.map eI)] (.int r):=by
 refine hM [.tmp 2] Tryz.func146 Tryz.ntmps146 k<|sR<|aT k2<|sQ<|sR<|am k k<|ln k4<|cm k4<|an<|tn<|dR k h (λ_ h=>?_) λ_ h=>?_
 ·refine rg ?_;cases h
 ·refine aG<|tn<|sR<|am k k<|oB h λv2 hv2 h=>ae (xl hv2 k) k<|lr k7<|aT k2<|sQ<|sR<|aT k2<|aE<|oB h λy5 hy5 h=>cC (body:=(iF a0)) hy5 (λ(x1:(Int×Int))=>mN [(0,.list 1 (a0.map eI)),(3,.int x1.1),(4,.int x1.2)] [] 0) (λr e t=>e= .exit 0∧Ent t (mN [(3,.int r)] [] 0)) (bS (bK k2) aR k4) ?_ ?_
  ·intro x1 o h;exact sQ<|sR<|am k k<|am k k<|ln k4<|cm k4<|an<|tn<|dR k h (λ_ h=>aG<|tn<|sQ<|aE<|rg<|am k k<|am k k<|am k k<|oB h λv4 hv4 h=>ae (xl hv4 k) k<|lr k7<|ae (aXM k k) k<|aa k k<|an<|aV<|tn<|rg<|am k k<|ae (bF k k) k<|aT k2<|sp h ⟨_,k,(bS (bK k2) aR k4)⟩) λ_ h=>aU<|aB<|aB<|sp h ⟨_,k,k,(bS (bK k2) aR k4)⟩
  ·rintro e t ⟨rfl,hent⟩;exact aL<|tn<|aP hent<|sR<|am k k<|aT k2<|aJ<|rtI h k2
def mD (v9:(List Int)) (x2:((List Int)×Int)):Option (((List Int)×Int) ⊕ (List Int)):=
 bif decide (x2.2<(v9.length:Int)) then
 ((cO v9 x2.2).bind λv11=>
 (cO x2.1 x2.2).bind λv12=>
 (cO x2.1 x2.2).bind λv13=>
 some (.inl ((x2.1.set x2.2.toNat (wr (v12 - v11))),wr (x2.2+1))))
 else
 (some (.inr x2.1))
def fP (self:((List (List Int))→Int→(List Int)→(List Int)→(List (List Int))→Option (List (List Int)))) (a0:(List (List Int))) (a2:(List Int)) (a3:(List Int)) (x1:((List (List Int))×Int)):Option (((List (List Int))×Int) ⊕ (List (List Int))):=
 bif decide (x1.2<(a0.length:Int)) then
 (bif decide (((x1.1.length:Nat):Int)<500) then
 ((hO a2).bind λv8=>
 (cO a0 x1.2).bind λv9=>
 (Lp (mD v9) (v8,0)).bind λy14=>
 (oA y14).bind λv15=>
 bif decide (0≤v15) then
 ((hO a3).bind λv17=>
 bif decide (v17.length+[x1.2].length ≤4294967296) then
 ((self a0 x1.2 y14 (v17++[x1.2]) x1.1).bind λv19=>
 some (.inl (v19,wr (x1.2+1))))
 else none)
 else
 (some (.inl (x1.1,wr (x1.2+1)))))
 else
 (some (.inr x1.1)))
 else
 (some (.inr x1.1))
def sC (self:(List (List Int))→Int→(List Int)→(List Int)→(List (List Int))→Option (List (List Int))) (a0:(List (List Int))) (a1:Int) (a2:(List Int)) (a3:(List Int)) (a4:(List (List Int))):Option (List (List Int)):=
 (rK a2).bind λv1=>
 bif decide (v1=0) then
 (bif decide (((a4.length:Nat):Int)<500) then
 ((hO a3).bind λv4=>
 bif decide (a4.length+1≤4294967296) then
 (some (a4++[v4]))
 else none)
 else
 (some a4))
 else
 ((Lp (fP self a0 a2 a3) (a4,a1)).bind λy20=>
 some y20)
def gR:Nat→(List (List Int))→Int→(List Int)→(List Int)→(List (List Int))→Option (List (List Int))
 |0,_,_,_,_,_=>none
 |n+1,a0,a1,a2,a3,a4=>sC (gR n) a0 a1 a2 a3 a4
theorem aFI (self:(List (List Int))→Int→(List Int)→(List Int)→(List (List Int))→Option (List (List Int))) (a0:(List (List Int))) (a1:Int) (a2:(List Int)) (a3:(List Int)) (a4:(List (List Int))) (ih: ∀ (a0:(List (List Int))) (a1:Int) (a2:(List Int)) (a3:(List Int)) (a4:(List (List Int))) (r:(List (List Int))),self a0 a1 a2 a3 a4=some r→HasE Tryz.prog 103 [.list 1 (a0.map (cH 1 eI)),.int a1,.list 1 (a2.map eI),.list 1 (a3.map eI),.ptr 0 0 0] [(0,⟨1,[[.own 1 0 a4.length]]⟩),(1,⟨1,a4.map (ow (cH 1 eI))⟩)] 2 (.tuple []) [(0,⟨1,[[.own 2 0 r.length]]⟩),(2,⟨1,r.map (ow (cH 1 eI))⟩)]) (r:(List (List Int))) (h:sC self a0 a1 a2 a3 a4=some r):HasE Tryz.prog 103 [.list 1 (a0.map (cH 1 eI)),.int a1,.list 1 (a2.map eI),.list 1 (a3.map eI),.ptr 0 0 0] [(0,⟨1,[[.own 1 0 a4.length]]⟩),(1,⟨1,a4.map (ow (cH 1 eI))⟩)] 2 (.tuple []) [(0,⟨1,[[.own 2 0 r.length]]⟩),(2,⟨1,r.map (ow (cH 1 eI))⟩)]:=by
 refine pP aD (rvs:=[]) (ns:=nmA.drop 2) Tryz.func103 k k Tryz.ntmps103 k k<|sQ<|sR<|am k k<|oB h λv1 hv1 h=>ae (bC (aAe a2 v1 hv1) k (dW k aS)) k<|cm k4<|an<|tn<|dR k h (λ_ h=>?_) λ_ h=>?_
 ·exact sQ<|sR<|am k k<|ae (yE k k) k<|lp k8<|ae (cA aD k k k k) k<|cm k4<|an<|tn<|dR k h (λ_ h=>aN gD<|am k k<|am k k<|ae (yE k k) k<|lp k8<|am k k<|oB h λv4 hv4 h=>ae (cL cP (wB a3 v4 hv4) k3 (dW k aS)) k<|ae (wl k) k<|cG h λq5 h=>ae (jY aD (l:=a4) (c:=[.own 2 0 v4.length]) q5 k k k k k k k k k k k k k k) k<|ae (yE k k) k<|ae (ws k) k<|an<|rC (by kernel_rfl)<|tn<|aP (t:=mN [] [(0,⟨1,[[.own 4 0 ((a4++[v4]).length)]]⟩),(4,⟨1,List.map (ow (cH 1 eI)) (a4++[v4])⟩)] 5 2) (Ent.trans (eY (b:=4) (b':=2) (j:=0) (es':=v4.map eI) k k k k (aO _ _) (cP.frzs _)) (bS aR (hX ⟨_,k,k,.inr ⟨_,_,k,⟨_,_,k,⟨k,k,(by simp only [aO,lA,lT,lR,lC,lN]),k⟩,k⟩,k⟩⟩ k<|hX ⟨_,k,k,.inl ⟨kP v4 k,bA.plainO _⟩⟩ k<|aR) k4))<|aJ<|aI<|sp h ⟨mN [] [(0,⟨1,[[.own 2 0 ((a4++[v4]).length)]]⟩),(2,⟨1,List.map (ow (cH 1 eI)) (a4++[v4])⟩)] 3 2,(mX [0,4] aR (fF k<|cD (bA.plainO _) k<|aR) k4),k,⟨_,k,.inr ⟨(by simp),k,k⟩⟩,⟨k,k,aR⟩⟩) λ_ h=>aG<|tn<|aJ<|aI<|sp h ⟨mN [] [(0,⟨1,[[.own 2 0 a4.length]]⟩),(2,⟨1,a4.map (ow (cH 1 eI))⟩)] 3 2,(mX [0,1] aR (fF k<|cD (bA.plainO _) k<|aR) k4),k,⟨_,k,.inr ⟨(by simp),k,k⟩⟩,⟨k,k,aR⟩⟩
 ·refine aG<|tn<|sR<|am k k<|aT k2<|aE<|oB h λy20 hy20 h=>cC (body:=(fP self a0 a2 a3)) hy20 (λ(x1:((List (List Int))×Int))=>mN [(0,.list 1 (a0.map (cH 1 eI))),(2,.list 1 (a2.map eI)),(3,.list 1 (a3.map eI)),(4,.ptr 0 0 0),(10,.int x1.2)] [(0,⟨1,[[.own 2 0 x1.1.length]]⟩),(2,⟨1,x1.1.map (ow (cH 1 eI))⟩)] 3 2) (λr e t=>e= .exit 0∧Ent t (mN [] [(0,⟨1,[[.own 2 0 r.length]]⟩),(2,⟨1,r.map (ow (cH 1 eI))⟩)] 3 2)) (mX [0,1] (bK k2) (fF k<|cD (bA.plainO _) k<|aR) k4) ?_ ?_
  ·intro x1 o h;refine sQ<|sR<|am k k<|am k k<|ln k4<|cm k4<|am k k<|rA h (λq6 h=>?_) λq6 h=>aQ 36 k q6<|aK k4<|aK k4<|ak k k<|pk k3<|an<|tn<|jS k k<|aU<|aB<|aB<|sp h ⟨_,k,k,(bS aR (fF k<|cD (bA.plainO _) k<|aR) k4)⟩;refine aQ 36 k q6<|am k k<|ae (yE k k) k<|lp k8<|ae (cA aD k k k k) k<|cm k4<|pk k3<|an<|tn<|dR k h (λ_ h=>?_) λ_ h=>aU<|aB<|aB<|sp h ⟨_,k,k,(bS aR (fF k<|cD (bA.plainO _) k<|aR) k4)⟩;refine aG<|tn<|sQ<|aE<|sR<|am k k<|oB h λv8 hv8 h=>ae (cL cP (wB a2 v8 hv8) k3 (dW k aS)) k<|aT k2<|sQ<|sR<|am k k<|am k k<|oB h λv9 hv9 h=>ae (xl hv9 k) k<|lr k7<|ln k4<|am k k<|an<|tn<|aE<|oB h λy14 hy14 h=>cC (body:=(mD v9)) hy14 (λ(x2:((List Int)×Int))=>mN [(0,.list 1 (a0.map (cH 1 eI))),(2,.list 1 (a2.map eI)),(3,.list 1 (a3.map eI)),(4,.ptr 0 0 0),(10,.int x1.2),(11,.own 3 0 x2.1.length),(50,.list 1 (v9.map eI)),(51,.int (v9.length:Int)),(52,.int x2.2)] [(0,⟨1,[[.own 2 0 x1.1.length]]⟩),(2,⟨1,x1.1.map (ow (cH 1 eI))⟩),(3,⟨1,x2.1.map (ow eI)⟩)] 4 2) (λr e t=>e= .exit 2∧Ent t (mN [(0,.list 1 (a0.map (cH 1 eI))),(2,.list 1 (a2.map eI)),(3,.list 1 (a3.map eI)),(4,.ptr 0 0 0),(10,.int x1.2),(11,.own 3 0 r.length)] [(0,⟨1,[[.own 2 0 x1.1.length]]⟩),(2,⟨1,x1.1.map (ow (cH 1 eI))⟩),(3,⟨1,r.map (ow eI)⟩)] 4 2)) (bS (bK k2) (fF k<|cD (bA.plainO _) k<|bP k<|aR) k4) ?_ ?_
   ·intro x2 o h;refine sR<|cm k4<|an<|tn<|sQ<|dR k h (λ_ h=>?_) λ_ h=>aU<|aB<|aB<|sp h ⟨_,k,k,(bS (bK k2) (fF k<|cD (bA.plainO _) k<|bP k<|aR) k4)⟩;refine aG<|tn<|sQ<|aE<|sR<|am k k<|oB h λv11 hv11 h=>ae (xl hv11 k) k<|lr k7<|aa k k<|aT k2<|rg<|am k k<|am k k<|oB h λv12 hv12 h=>ae (xo hv12 k) k<|ae (wp hv12 k) k<|am k k<|ae (iV k k) k<|oB h λv13 hv13 h=>ae (xo hv13 k) k<|ae (fA aD jX (u:=wr (v12 - v11)) (dB hv13) k k k k k k) k<|an<|aV<|tn<|rg<|ae (bF k k) k<|am k k<|an ?_;exact tn<|sp h ⟨_,k,(bS (mG 5 k2 (jJ ⟨_,k,⟨k,k,(by simp only [aO,lA,lT,lR,lC,lN]),k⟩⟩ (bK k2))) (fF k<|cD (bA.plainO _) k<|bP k<|aR) k4)⟩
   ·rintro e t ⟨rfl,hent⟩;exact aL<|tn<|aP hent<|sR<|am k k<|oB h λv15 hv15 h=>ae (bC (aDE y14 v15 hv15) k (vcT k k aS)) k<|cm k4<|an<|tn<|dR k h (λ_ h=>rg<|am k k<|am k k<|am k k<|am k k<|oB h λv17 hv17 h=>ae (cL cP (wB a3 v17 hv17) k3 (dW k aS)) k<|am k k<|ae (wl k) k<|cG h λq18 h=>ae (vE aD (l:=v17) (m:=[x1.2]) jX q18 k k k k k k k k k k k k) k<|am k k<|oB h λv19 hv19 h=>ae (gU (σ:=sg [(0,0),(1,2)]) (σ':=sg [(0,0),(2,1),(7,2)]) (touch:=[0,2,3,6]) (news:=[7]) (hl2:=[(0,⟨1,[[.own 7 0 v19.length]]⟩),(7,⟨1,v19.map (ow (cH 1 eI))⟩)]) (n':=8) (r2:= .tuple []) (ih a0 x1.2 y14 (v17++[x1.2]) x1.1 v19 hv19) k k ⟨_,_,k,(.inl ⟨k,k⟩),⟨_,_,k,(.inl k),⟨_,_,k,(.inr ⟨(aAu cP k k),k,k⟩),⟨_,_,k,(.inr ⟨(aAu cP k k),k,k⟩),⟨_,_,k,(.inl ⟨k,k,k,k⟩),k⟩⟩⟩⟩⟩ ⟨⟨_,k,k,.inr ⟨_,_,k,⟨_,_,k,⟨k,k,(by simp only [aO,lA,lT,lR,lC,lN]),k⟩,k⟩,k⟩⟩,k,⟨_,k,k,.inl ⟨k,bA.plainO _⟩⟩,k,aR⟩ k k k ⟨⟨_,k,k,.inr ⟨_,_,k,⟨_,_,k,⟨k,k,(by simp only [aO,lA,lT,lR,lC,lN]),k⟩,k⟩,k⟩⟩,k,⟨_,k,k,.inl ⟨k,bA.plainO _⟩⟩,k,aR⟩ k (.inr ⟨_,_,k,k,k⟩) k ⟨k,aCU k,⟨k,bA.tamd _ _,aR⟩⟩ k k) k<|an<|aV<|tn<|rg<|am k k<|ae (bF k k) k<|aT k2<|sp h ⟨_,k,(mX [0,7] (bK k2) (fF k<|cD (bA.plainO _) k<|aR) k4)⟩) λ_ h=>aG<|aV<|tn<|rg<|am k k<|ae (bF k k) k<|aT k2<|sp h ⟨_,k,(bS (bK k2) (fF k<|cD (bA.plainO _) k<|aR) k4)⟩
  ·rintro e t ⟨rfl,hent⟩;exact aL<|sp h ⟨mN [] [(0,⟨1,[[.own 2 0 y20.length]]⟩),(2,⟨1,y20.map (ow (cH 1 eI))⟩)] 3 2,(Ent.trans hent (bS aR (fF k<|cD (bA.plainO _) k<|aR) k4)),k,⟨_,k,.inr ⟨(by simp),k,k⟩⟩,⟨k,k,aR⟩⟩
theorem aCZ: ∀ (n:Nat) (a0:(List (List Int))) (a1:Int) (a2:(List Int)) (a3:(List Int)) (a4:(List (List Int))) (r:(List (List Int))),gR n a0 a1 a2 a3 a4=some r→HasE Tryz.prog 103 [.list 1 (a0.map (cH 1 eI)),.int a1,.list 1 (a2.map eI),.list 1 (a3.map eI),.ptr 0 0 0] [(0,⟨1,[[.own 1 0 a4.length]]⟩),(1,⟨1,a4.map (ow (cH 1 eI))⟩)] 2 (.tuple []) [(0,⟨1,[[.own 2 0 r.length]]⟩),(2,⟨1,r.map (ow (cH 1 eI))⟩)]
 |0,a0,a1,a2,a3,a4,r,h=>by cases h
 |n+1,a0,a1,a2,a3,a4,r,h=>aFI (gR n) a0 a1 a2 a3 a4 (aCZ n) r h
def jQ (a0:Qv) (a1:(List Int)):Option ((List (List Int))×Bool):=
 (dP a0).bind λv1=>
 bif !v1.2 then
 (some (([],false)))
 else
 ((qR a0 a1).bind λv3=>
 bif !v3 then
 (some (([],false)))
 else
 ((hO a1).bind λv5=>
 (gR 40 v1.1 0 v5 [] []).bind λv6=>
 some ((v6,true))))
theorem aBN (a0:Qv) (a1:(List Int)) (r:((List (List Int))×Bool)) (h:jQ a0 a1=some r):HasC Tryz.prog 52 [.agg (eQ a0),.list 1 (a1.map eI)] (.tuple [.list 1 (r.1.map (cH 1 eI)),.bl r.2]):=by
 refine hM [.tmp 4,.tmp 5] Tryz.func52 Tryz.ntmps52 k<|sR<|ae (wb k) k<|aa k k<|aT k2<|sR<|lp k8<|oB h λv1 hv1 h=>ae (gU (σ:=sg []) (σ':=sg [(1,0)]) (touch:=[]) (news:=[1]) (hl2:=[(1,⟨1,v1.1.map (cH 1 eI)⟩)]) (n':=2) (r2:= .tuple [.own 1 0 v1.1.length,.bl v1.2]) (kW a0 v1 hv1) k k ⟨_,_,k,(.inl ⟨_,_,k,k,⟨_,_,k,⟨k,k⟩,⟨_,_,k,⟨k,k⟩,k⟩⟩⟩),k⟩ aR k k k ⟨⟨_,k,k,.inl ⟨k,bA.plainE _⟩⟩,k,aR⟩ k (.inr ⟨_,_,k,k,⟨_,_,k,⟨k,k,(by simp only [aO,lA,lT,lR,lC,lN]),k⟩,⟨_,_,k,k,k⟩⟩⟩) k ⟨k,bA.tamdE _ _,aR⟩ k k) k<|am k k<|ae (bD k k (by intro _ h;cases h)) k<|ae (bD k k (by intro _ h;cases h)) k<|aa k k<|aT k2<|sQ<|sR<|am k k<|ae (dL k) k<|am k k<|rA h (λq2 h=>aQ 16 k q2<|aK k4<|aK k4<|pk k3<|an<|tn<|fG k k<|sR<|aa k k<|aT k2<|aJ<|aI<|sp h (bT k k k (dC k (bW (yX (k)) (bW (k) fH))))) λq2 h=>?_;exact aQ 16 k q2<|lp k8<|am k k<|oB h λv3 hv3 h=>ae (bC (aAz a0 a1 v3 hv3) k (aZ (lQ k) (dW k aS))) k<|ae (dL k) k<|pk k3<|an<|tn<|dR k h (λ_ h=>sR<|aa k k<|aT k2<|aJ<|aI<|sp h (bT k k k (dC k (bW (yX (k)) (bW (k) fH))))) λ_ h=>aG<|tn<|sR<|ae (bX aD k k) k<|an<|tn<|sR<|am k k<|am k k<|oB h λv5 hv5 h=>ae (cL cP (wB a1 v5 hv5) k3 (dW k aS)) k<|oB h λv6 hv6 h=>ae (gU (σ:=sg [(0,2)]) (σ':=sg [(2,0),(4,2)]) (touch:=[2,1,3]) (news:=[4]) (hl2:=[(2,⟨1,[[.own 4 0 v6.length]]⟩),(4,⟨1,v6.map (ow (cH 1 eI))⟩)]) (n':=5) (r2:= .tuple []) (aCZ 40 v1.1 0 v5 [] [] v6 hv6) k k ⟨_,_,k,(.inr ⟨(aQN bA k k),k,k⟩),⟨_,_,k,(.inl k),⟨_,_,k,(.inr ⟨(aAu cP k k),k,k⟩),⟨_,_,k,(.inl k),⟨_,_,k,(.inl ⟨k,k,k,k⟩),k⟩⟩⟩⟩⟩ ⟨⟨_,k,k,.inr ⟨_,_,k,⟨_,_,k,⟨k,k,k,k⟩,k⟩,k⟩⟩,k,k,k,aR⟩ k k k ⟨⟨_,k,k,.inr ⟨_,_,k,⟨_,_,k,⟨k,k,(by simp only [aO,lA,lT,lR,lC,lN]),k⟩,k⟩,k⟩⟩,k,⟨_,k,k,.inl ⟨k,bA.plainO _⟩⟩,k,aR⟩ k (.inr ⟨_,_,k,k,k⟩) k ⟨k,aCU k,⟨k,bA.tamd _ _,aR⟩⟩ k k) k<|an<|tn<|sR<|lp k8<|aa k k<|aT k2<|aP (t:=mN [(4,.own 4 0 v6.length),(5,.bl true)] [(4,⟨1,v6.map (ow (cH 1 eI))⟩)] 5) (bS (bK k2) (cD (bA.plainO _) k<|aR) k4)<|aJ<|sp h (bT k k k (dC k (bW (yX (eX bA k k)) (bW (k) fH))))
end
noncomputable section
set_option maxRecDepth 10000
set_option maxHeartbeats 4000000
end
noncomputable section
set_option maxRecDepth 10000
set_option maxHeartbeats 4000000
def oC (a0:Int) (a1:Qv) (a2:(List (List Int))) (a3:Int):Option Bool:=
 (cO a2 a3).bind λv1=>
 (cO a2 a0).bind λv2=>
 (yC a1 v1 v2).bind λv3=>
 some (decide (v3<0))
theorem aDF (a0:Int) (a1:Qv) (a2:(List (List Int))) (a3:Int) (r:Bool) (h:oC a0 a1 a2 a3=some r):HasC Tryz.prog 110 [.int a0,.ref (eQ a1),.ref ((cH 1 (cH 1 eI)) a2),.ref (eI a3)] (.bl r):=by
 exact hM [.tmp 5] Tryz.func110 Tryz.ntmps110 k<|sR<|aT k2<|sQ<|aN gD<|lr k7<|lr k7<|lr k7<|oB h λv1 hv1 h=>ae (xl hv1 k) k<|lr k7<|lr k7<|am k k<|oB h λv2 hv2 h=>ae (xl hv2 k) k<|lr k7<|oB h λv3 hv3 h=>ae (bC (aFu a1 v1 v2 v3 hv3) k (aZ (lQ k) (dW k (dW k aS)))) k<|cm k4<|aa k k<|an<|rC (by kernel_rfl)<|tn<|aJ<|kK h k2
def mF (a0:Int) (a1:(List Int)) (a2:Qv) (a3:(List (List Int))):Option Bool:=
 (dM a1 (λb0=>oC b0 a2 a3 a0)).bind λv1=>
 some (v1)
theorem aEU (a0:Int) (a1:(List Int)) (a2:Qv) (a3:(List (List Int))) (r:Bool) (h:mF a0 a1 a2 a3=some r):HasC Tryz.prog 109 [.int a0,.ref ((cH 1 eI) a1),.ref (eQ a2),.ref ((cH 1 (cH 1 eI)) a3)] (.bl r):=by
 exact hM [.tmp 5] Tryz.func109 Tryz.ntmps109 k<|sR<|ae (wb k) k<|aT k2<|sR<|lr k7<|ae (aAY (vs:=[.ref (eQ a2),.ref [.list 1 (a3.map (cH 1 eI))],.ptr 0 0 0]) k (by simp)) k<|oB h λv1 hv1 h=>ae (bC (jZ a1 (λb0=>oC b0 a2 a3 a0) k (λb0 r h=>aDF b0 a2 a3 a0 r h) v1 hv1) k (dW k (aZ (aSu (aDw (aFY k) (aDw (aFY k) (aDw (aLp k k (gN (tC k) aCi)) aLo)))) aS))) k<|aT k2<|aJ<|kK h k2
def iP (a0:Qv) (v1:((List (List Int))×Bool)) (v2:((List (List Int))×Bool)) (x1:Int):Option (Int ⊕ (Unit ⊕ ((List Int)×Bool))):=
 bif decide (x1<((v1.1.length:Nat):Int)) then
 ((cO v1.1 x1).bind λv4=>
 (cO v1.1 x1).bind λv5=>
 (dM v5 (λb0=>mF b0 v5 a0 v2.1)).bind λv6=>
 bif !v6 then
 ((aRt v1.1 x1).bind λv8=>
 some (.inr (.inr (v8,true))))
 else
 (some (.inl (wr (x1+1)))))
 else
 (some (.inr (.inl ())))
def pE (a0:Qv) (a1:(List Int)):Option ((List Int)×Bool):=
 (jQ a0 a1).bind λv1=>
 (dP a0).bind λv2=>
 (Lp (iP a0 v1 v2) 0).bind λy9=>
 Sum.elim (λy10=>
 some ([],false)
 )
 (λy11=>
 some y11
 )
 y9
theorem aGH (a0:Qv) (a1:(List Int)) (r:((List Int)×Bool)) (h:pE a0 a1=some r):HasC Tryz.prog 58 [.agg (eQ a0),.list 1 (a1.map eI)] (.tuple [.list 1 (r.1.map eI),.bl r.2]):=by
 refine aTf aD (rvs:=[.tmp 4,.tmp 5]) (ns:=nmA) Tryz.func58 k k Tryz.ntmps58 k k k (λW=>?_);refine aCM<|wC<|sZ (λw0_1 S0_1 r0_1=>?_);refine sZ (λw0_2 S0_2 r0_2=>?_);refine aAC<|aPM (λw1_0 S1_0 r1_0=>?_);refine aCL<|sS<|se (wb k) k<|gT k2<|gT k2<|sn<|tn<|sQ<|aP (aNy (b:=0) (i:=0) (j:=1) r0_1 k k k k)<|aP (aNy (b:=0) (i:=0) (j:=2) r0_2 k k k k)<|rgS<|zD k8<|eV k2<|oB h λv1 hv1 h=>se (cTK bA (aBN a0 a1 v1 hv1) k3 (fY (.inl (lQ k)) (wkD k r1_0 jO))) k<|eV k2<|se (bD k k (by intro _ h;cases h)) k<|se (bD k k (by intro _ h;cases h)) k<|gT k2<|gT k2<|sn<|tn<|sS<|zD k8<|oB h λv2 hv2 h=>se (gU (σ:=sg []) (σ':=sg [(2,0)]) (touch:=[]) (news:=[2]) (hl2:=[(2,⟨1,v2.1.map (cH 1 eI)⟩)]) (n':=3) (r2:= .tuple [.own 2 0 v2.1.length,.bl v2.2]) (kW a0 v2 hv2) k k ⟨_,_,k,(.inl ⟨_,_,k,k,⟨_,_,k,⟨k,k⟩,⟨_,_,k,⟨k,k⟩,k⟩⟩⟩),k⟩ aR k k k ⟨⟨_,k,k,.inl ⟨k,bA.plainE _⟩⟩,k,aR⟩ k (.inr ⟨_,_,k,k,⟨_,_,k,⟨k,k,(by simp only [aO,lA,lT,lR,lC,lN]),k⟩,⟨_,_,k,k,k⟩⟩⟩) k ⟨k,bA.tamdE _ _,aR⟩ k k) k<|eV k2<|se (bD k k (by intro _ h;cases h)) k<|se (bD k k (by intro _ h;cases h)) k<|se (bX aD k k) k ?_;refine se (ws k) k<|gT k2<|sn<|tn<|aOA (W:=W) (tL:=24) (es:=v1.1.map (ow (cH 1 eI))) (es':=v1.1.map (cH 1 eI)) (ts:=[2,8,25,26]) (ds:=[.ref (eQ a0),.ref [.list 1 (v2.1.map (cH 1 eI))],.int ((v1.1.length:Nat):Int),.int 0]) (kk:=1) (n:=4) (ns:=nmA.drop 4) (k2:=1) (k:=4) (m:=v1.1.length) (kb:=5) (bb:=r.2) (res:=r.1.map eI) ?_ (by simp only [aO]) k k k (aXg (bA.good _)) (cP.good _) k (λW' lv1 SL1 hb1 rL1 nL1=>?_)
 ·exact rgS<|eV k2<|se (cA aD k k k k) k<|eV k2<|sn<|tn<|Ent.trans (t:=mN [(2,.ptr 0 0 0),(8,.ptr 3 0 0),(24,.own 1 0 v1.1.length),(25,.int ((v1.1.length:Nat):Int)),(26,.int 0)] [(0,⟨3,[eQ a0]⟩),(1,⟨1,v1.1.map (ow (cH 1 eI))⟩),(2,⟨1,v2.1.map (cH 1 eI)⟩),(3,⟨1,[[.own 2 0 v2.1.length]]⟩)] 4 ⟨0,true,rB W,false⟩) (bS (bK k2) (bN k<|cD (bA.plainO _) k<|cD (bA.plainE _) k<|fF k<|aR) k4)<|Ent.trans (aNu (t:=2) (b:=0) k k k)<|Ent.trans (aJS (b:=3) (b':=2) (i:=0) (j:=0) (es':=v2.1.map (cH 1 eI)) k k k k (aQN bA k k))<|Ent.trans (aNu (t:=8) (b:=3) k k k)<|Ent.trans (t:=mN [(2,.ref (eQ a0)),(8,.ref [.list 1 (v2.1.map (cH 1 eI))]),(24,.own 0 0 v1.1.length),(25,.int ((v1.1.length:Nat):Int)),(26,.int 0)] [(0,⟨1,v1.1.map (ow (cH 1 eI))⟩)] 4 ⟨0,true,rB W,false⟩) (mX [1] (bK k2) (cD (bA.plainO _) k<|aR) k4)<|(bS (bK k2) (cD (bA.plainO _) k<|aR) k4)
 have rD1:=rL1.repD;refine aNw (λwn2 Sn2 rn2=>?_);refine aNw (λwn3 Sn3 rn3=>?_);refine aIE<|aIE<|aCL ?_;change AC Tryz.prog _ _ (mN [(24,.sc lv1),(2,.sc wn2),(8,.sc wn3),(25,.int ((v1.1.length:Nat):Int)),(26,.int 0)] [] 4 ⟨0,true,rB W',false⟩) _;refine aP (aLA (t:=2) rn2 k k k)<|aP (t:=mN [(24,.sc lv1),(2,.ref (eQ a0)),(8,.sc wn3),(25,.int ((v1.1.length:Nat):Int)),(26,.int 0)] [] 4 ⟨0,true,rB W',false⟩) (bS (mG 1 k2 (jJ (e1 k k) (bK k2))) aR k4)<|aP (aLA (t:=8) rn3 k k k)<|aP (t:=mN [(24,.sc lv1),(2,.ref (eQ a0)),(8,.ref [.list 1 (v2.1.map (cH 1 eI))]),(25,.int ((v1.1.length:Nat):Int)),(26,.int 0)] [] 4 ⟨0,true,rB W',false⟩) (bS (mG 2 k2 (jJ (e1 k k) (bK k2))) aR k4)<|aE<|oB h λy9 hy9 h=>cC (body:=(iP a0 v1 v2)) hy9 (λ(x1:Int)=>mN [(2,.ref (eQ a0)),(8,.ref [.list 1 (v2.1.map (cH 1 eI))]),(24,.sc lv1),(25,.int ((v1.1.length:Nat):Int)),(26,.int x1)] [] 0 ⟨0,true,rB W',false⟩) (λr e t=>Sum.elim (λa=>(λr e t=>e= .exit 0∧Ent t (mN [] [] 0 ⟨0,true,rB W',false⟩)) a e t) (λb=>(λr e t=>e= .ret∧aLB 4 5 r.2 (λu=> ∃ S',RepO W' (.list 1 (r.1.map eI)) u S'∧(∀ x∈S',x∈SL1)∧S'.Nodup) .ret t) b e t) r) (bS (bK k2) aR k4) ?_ ?_
 ·intro x1 o h;refine sS<|cmS k4<|sn<|tn<|sQ<|dR k h (λ_ h=>?_) λ_ h=>aU<|aB<|aB<|sp h ⟨_,k,k,(bS aR aR k4)⟩;refine aG<|tn<|sQ<|aE<|sS<|oB h λv4 hv4 h=>se (aAI aD rD1 hv4 k k k k k k) k<|se (aPg aD rL1 hv4 k k k k k k k) k<|se (bX aD k k) k<|se (ws k) k<|sn<|tn<|sS<|zD k8<|se (aAY (vs:=[.ptr 0 0 0,.ref (eQ a0),.ref [.list 1 (v2.1.map (cH 1 eI))]]) k (by simp)) k ?_;obtain ⟨v5,hv5,h⟩:=ob h;obtain ⟨Sv5,rv5⟩:=aVF rL1 hv5;exact oB h λv6 hv6 h=>se (aRv (jZ v5 (λb0=>mF b0 v5 a0 v2.1) k (λb0 r h=>aEU b0 v5 a0 v2.1 r h) v6 hv6) k (aQq (.inl (.inr (aVh k rv5))) (aQq (aXh (aMT (aWa k (jN k rv5)) (aMT (.inl (aFY k)) (aMT (.inl (aFY k)) aWZ)))) aWY))) k<|gT k2<|sn<|tn<|sS<|eV k2<|se (dL k) k<|sn<|tn<|dR k h (λ_ h=>sS<|zD k8<|gT k2<|gT k2<|sn<|tn<|aJ<|bH<|aI<|oB h λv8 hv8 h=>aI<|sp h ⟨_,k,k,aRx rL1 nL1 hv8 k k k⟩) λ_ h=>aG<|aV<|tn<|rgS<|se (bF k k) k<|eV k2<|sn<|tn<|sp h ⟨_,k,(bS (bK k2) aR k4)⟩
 ·intro e t hX;rcases y9 with y10|y11
  ·obtain ⟨rfl,hent⟩:=hX;exact aL<|tn<|aP hent<|sS<|gT k2<|gT k2<|sn<|tn<|aJ<|sp h (aRy k k k)
  ·obtain ⟨rfl,hent⟩:=hX;exact bH<|aI<|sp h hent
def lB (v1:((List Int)×Bool)) (x1:((List Int)×Int)):Option (((List Int)×Int) ⊕ (List Int)):=
 bif decide (x1.2<((v1.1.length:Nat):Int)) then
 ((cO v1.1 x1.2).bind λv5=>
 (cO x1.1 v5).bind λv6=>
 (cO x1.1 v5).bind λv7=>
 some (.inl ((x1.1.set v5.toNat (wr (v6+1))),wr (x1.2+1))))
 else
 (some (.inr x1.1))
def pF (a0:Int) (a1:Qv) (a2:(List Int)):Option (Rp×Bool):=
 (pE a1 a2).bind λv1=>
 (dP a1).bind λv2=>
 bif !v1.2 then
 (some (((⟨0,(⟨0,[],[]⟩:Qv),[],[]⟩:Rp),false)))
 else
 (bif (decide (0≤((v2.1.length:Nat):Int))&&decide (((v2.1.length:Nat):Int)≤1048576)) then
 ((Lp (lB v1) ((List.replicate (((v2.1.length:Nat):Int).toNat) (0:Int)),0)).bind λy8=>
 (jG a0 a1 y8).bind λv9=>
 some ((v9.1,v9.2)))
 else none)
theorem aBi (a0:Int) (a1:Qv) (a2:(List Int)) (r:(Rp×Bool)) (h:pF a0 a1 a2=some r):HasC Tryz.prog 25 [.int a0,.agg (eQ a1),.list 1 (a2.map eI)] (.tuple [.agg (eR r.1),.bl r.2]):=by
 refine hM [.cell 6 29,.tmp 7] Tryz.func25 Tryz.ntmps25 k<|sR<|ae (wb k) k<|ae (bX aD k k) k<|aT k2<|sR<|lp k8<|am k k<|oB h λv1 hv1 h=>ae (cT cP (aGH a1 a2 v1 hv1) k3 (aZ (lQ k) (dW k aS))) k<|am k k<|ae (bD k k (by intro _ h;cases h)) k<|ae (bD k k (by intro _ h;cases h)) k<|aa k k<|aT k2<|sR<|lp k8<|oB h λv2 hv2 h=>ae (gU (σ:=sg []) (σ':=sg [(3,0)]) (touch:=[]) (news:=[3]) (hl2:=[(3,⟨1,v2.1.map (cH 1 eI)⟩)]) (n':=4) (r2:= .tuple [.own 3 0 v2.1.length,.bl v2.2]) (kW a1 v2 hv2) k k ⟨_,_,k,(.inl ⟨_,_,k,k,⟨_,_,k,⟨k,k⟩,⟨_,_,k,⟨k,k⟩,k⟩⟩⟩),k⟩ aR k k k ⟨⟨_,k,k,.inl ⟨k,bA.plainE _⟩⟩,k,aR⟩ k (.inr ⟨_,_,k,k,⟨_,_,k,⟨k,k,(by simp only [aO,lA,lT,lR,lC,lN]),k⟩,⟨_,_,k,k,k⟩⟩⟩) k ⟨k,bA.tamdE _ _,aR⟩ k k) k<|am k k<|ae (bD k k (by intro _ h;cases h)) k<|ae (bD k k (by intro _ h;cases h)) k<|aa k k<|aa k k<|an ?_;refine tn<|sQ<|sR<|am k k<|ae (dL k) k<|an<|tn<|dR k h (λ_ h=>sR<|ae (dE aD k k k k k k) k<|ae (ws k) k<|aT k2<|aJ<|aI<|sp h (bT k k k (dC k (bW (gX (aH (k) (aH (k) (aH (k) (aH (k) (aH (k) (aH (k) eH))))))) (bW (k) fH))))) λ_ h=>?_;refine aG<|tn<|sR<|am k k<|ae (cA aD k k k k) k<|cG h λq10 h=>ae (rJ aD q10 k k k k k k k k) k<|aT k2<|aP (t:=mN [(0,.int a0),(4,.ptr 0 0 0),(6,.ptr 1 0 0),(8,.own 2 0 v1.1.length),(12,.own 4 0 ((List.replicate (((v2.1.length:Nat):Int).toNat) (0:Int)).length))] [(0,⟨3,[eQ a1]⟩),(1,⟨6,[iS]⟩),(2,⟨1,v1.1.map (ow eI)⟩),(4,⟨1,List.map (ow eI) (List.replicate (((v2.1.length:Nat):Int).toNat) (0:Int))⟩)] 5) (bS (mG 4 k2 (jJ ⟨_,k,⟨k,k,(by simp only [aO,lA,lT,lR,lC,lN]),k⟩⟩ aR)) (bN k<|bN k<|bP k<|hX ⟨_,k,k,.inl ⟨xH (e:=eI) (z:=0) _,cP.plainO _⟩⟩ k<|aR) k4)<|sQ<|sR<|am k k<|ae (cA aD k k k k) k<|am k k<|an<|tn<|aE<|oB h λy8 hy8 h=>cC (body:=(lB v1)) hy8 (λ(x1:((List Int)×Int))=>mN [(0,.int a0),(4,.ptr 0 0 0),(6,.ptr 1 0 0),(12,.own 2 0 x1.1.length),(32,.own 3 0 v1.1.length),(33,.int ((v1.1.length:Nat):Int)),(34,.int x1.2)] [(0,⟨3,[eQ a1]⟩),(1,⟨6,[iS]⟩),(2,⟨1,x1.1.map (ow eI)⟩),(3,⟨1,v1.1.map (ow eI)⟩)] 4) (λr e t=>e= .exit 0∧Ent t (mN [(0,.int a0),(4,.ptr 0 0 0),(6,.ptr 1 0 0),(12,.own 2 0 r.length)] [(0,⟨3,[eQ a1]⟩),(1,⟨6,[iS]⟩),(2,⟨1,r.map (ow eI)⟩)] 3)) (mX [0,1,4,2] (bK k2) (bN k<|bN k<|bP k<|bP k<|aR) k4) ?_ ?_
 ·intro x1 o h;exact sR<|cm k4<|an<|tn<|sQ<|dR k h (λ_ h=>aG<|tn<|sQ<|aE<|sR<|oB h λv5 hv5 h=>ae (xo hv5 k) k<|ae (wp hv5 k) k<|aT k2<|rg<|am k k<|am k k<|oB h λv6 hv6 h=>ae (xo hv6 k) k<|ae (wp hv6 k) k<|ae (bF k k) k<|oB h λv7 hv7 h=>ae (xo hv7 k) k<|ae (fA aD jX (u:=wr (v6+1)) (dB hv7) k k k k k k) k<|an<|aV<|tn<|rg<|ae (bF k k) k<|am k k<|an<|tn<|sp h ⟨_,k,(bS (mG 3 k2 (jJ ⟨_,k,⟨k,k,(by simp only [aO,lA,lT,lR,lC,lN]),k⟩⟩ (bK k2))) (bN k<|bN k<|bP k<|bP k<|aR) k4)⟩) λ_ h=>aU<|aB<|aB<|sp h ⟨_,k,k,(bS (bK k2) (bN k<|bN k<|bP k<|aR) k4)⟩
 ·rintro e t ⟨rfl,hent⟩;exact aL<|tn<|aP hent<|sR<|am k k<|lp k8<|am k k<|oB h λv9 hv9 h=>ae (AEff.conv (pO (x:= .tuple [.agg [.int v9.1.p,.int v9.1.q.n,.own 3 0 (v9.1.q.src.map eI).length,.own 4 0 (v9.1.q.tgt.map eI).length,.own 5 0 (v9.1.dims.map eI).length,.own 6 0 (v9.1.maps.map eM).length],.bl v9.2]) (nb:=[(3,⟨1,cN (v9.1.q.src.map eI)⟩),(4,⟨1,cN (v9.1.q.tgt.map eI)⟩),(5,⟨1,cN (v9.1.dims.map eI)⟩),(6,⟨3,cN (v9.1.maps.map eM)⟩)]) (aBJ a0 a1 y8 v9 hv9) k (by rfl) k k (fV (bZ aR (bZ aR (bZ (cP.good _) (bZ (cP.good _) (bZ (cP.good _) (bZ (cE.good _) tZ)))))) (fV aR vH)) (dW k (aZ (lQ k) (vcT k k aS)))) (v':= .tuple [.agg [.int v9.1.p,.int v9.1.q.n,.own 3 0 v9.1.q.src.length,.own 4 0 v9.1.q.tgt.length,.own 5 0 v9.1.dims.length,.own 6 0 v9.1.maps.length],.bl v9.2]) (ed':=[(3,some ⟨1,v9.1.q.src.map (ow eI)⟩),(4,some ⟨1,v9.1.q.tgt.map (ow eI)⟩),(5,some ⟨1,v9.1.dims.map (ow eI)⟩),(6,some ⟨3,v9.1.maps.map (ow eM)⟩)]) (by simp only [aO]) (vO (nb':=[(3,⟨1,v9.1.q.src.map (ow eI)⟩),(4,⟨1,v9.1.q.tgt.map (ow eI)⟩),(5,⟨1,v9.1.dims.map (ow eI)⟩),(6,⟨3,v9.1.maps.map (ow eM)⟩)]) (by simp only [gA]))) k<|ae (bD k k (by intro _ h;cases h)) k<|ae (bD k k (by intro _ h;cases h)) k<|ae (ws k) k<|aT k2<|aJ<|sp h (bT k k k (dC k (bW (gX (aH (k) (aH (k) (aH (eX cP k k) (aH (eX cP k k) (aH (eX cP k k) (aH (eX cE k k) eH))))))) (bW (k) fH))))
def lD (v1:((List Int)×Bool)) (x1:((List Int)×Int)):Option (((List Int)×Int) ⊕ (List Int)):=
 bif decide (x1.2<(v1.1.length:Int)) then
 ((cO v1.1 x1.2).bind λv8=>
 (cO v1.1 x1.2).bind λv9=>
 (cO x1.1 v9).bind λv10=>
 (cO x1.1 v8).bind λv11=>
 some (.inl ((x1.1.set v8.toNat (wr (v10+1))),wr (x1.2+1))))
 else
 (some (.inr x1.1))
def tU (a0:Int) (a1:Qv) (a2:(List Int)):Option (Rp×Bool):=
 (oZ a1 a2).bind λv1=>
 (cU a1).bind λv2=>
 bif !v1.2 then
 (some (((⟨0,(⟨0,[],[]⟩:Qv),[],[]⟩:Rp),false)))
 else
 (bif !v2.2 then
 (some (((⟨0,(⟨0,[],[]⟩:Qv),[],[]⟩:Rp),false)))
 else
 ((kR a0).bind λv5=>
 bif !v5 then
 (some (((⟨0,(⟨0,[],[]⟩:Qv),[],[]⟩:Rp),false)))
 else
 (bif (decide (0≤((v2.1.length:Nat):Int))&&decide (((v2.1.length:Nat):Int)≤1048576)) then
 ((Lp (lD v1) ((List.replicate (((v2.1.length:Nat):Int).toNat) (0:Int)),0)).bind λy12=>
 (jH a0 a1 y12).bind λv13=>
 some ((v13.1,v13.2)))
 else none)))
theorem aGI (a0:Int) (a1:Qv) (a2:(List Int)) (r:(Rp×Bool)) (h:tU a0 a1 a2=some r):HasC Tryz.prog 24 [.int a0,.agg (eQ a1),.list 1 (a2.map eI)] (.tuple [.agg (eR r.1),.bl r.2]):=by
 refine hM [.cell 6 29,.tmp 7] Tryz.func24 Tryz.ntmps24 k<|sR<|ae (wb k) k<|ae (bX aD k k) k<|aT k2<|sR<|lp k8<|am k k<|oB h λv1 hv1 h=>ae (gU (σ:=sg []) (σ':=sg []) (touch:=[]) (news:=[]) (hl2:=[]) (n':=2) (r2:= .tuple [.list 1 (v1.1.map eI),.bl v1.2]) (aFx a1 a2 v1 hv1) k k ⟨_,_,k,(.inl ⟨_,_,k,k,⟨_,_,k,⟨k,k⟩,⟨_,_,k,⟨k,k⟩,k⟩⟩⟩),⟨_,_,k,(.inl ⟨k,k⟩),k⟩⟩ aR k k k aR k (.inr ⟨_,_,k,k,⟨_,_,k,⟨k,k⟩,⟨_,_,k,k,k⟩⟩⟩) k aR k k) k<|am k k<|ae (bD k k (by intro _ h;cases h)) k<|ae (bD k k (by intro _ h;cases h)) k<|aa k k<|aT k2<|sR<|lp k8<|oB h λv2 hv2 h=>ae (gU (σ:=sg []) (σ':=sg [(2,0)]) (touch:=[]) (news:=[2]) (hl2:=[(2,⟨1,v2.1.map (cH 1 eI)⟩)]) (n':=3) (r2:= .tuple [.own 2 0 v2.1.length,.bl v2.2]) (kV a1 v2 hv2) k k ⟨_,_,k,(.inl ⟨_,_,k,k,⟨_,_,k,⟨k,k⟩,⟨_,_,k,⟨k,k⟩,k⟩⟩⟩),k⟩ aR k k k ⟨⟨_,k,k,.inl ⟨k,bA.plainE _⟩⟩,k,aR⟩ k (.inr ⟨_,_,k,k,⟨_,_,k,⟨k,k,(by simp only [aO,lA,lT,lR,lC,lN]),k⟩,⟨_,_,k,k,k⟩⟩⟩) k ⟨k,bA.tamdE _ _,aR⟩ k k) k<|am k k<|ae (bD k k (by intro _ h;cases h)) k<|ae (bD k k (by intro _ h;cases h)) k<|aa k k<|aa k k<|an ?_;refine tn<|sQ<|sR<|am k k<|ae (dL k) k<|am k k<|rA h (λq3 h=>aQ 29 k q3<|aK k4<|pk k3<|am k k<|aK k4<|ak k k<|pk k3<|an<|tn<|aP (t:=mN [(0,.int a0),(4,.ptr 0 0 0),(6,.ptr 1 0 0),(8,.list 1 (v1.1.map eI)),(10,.own 2 0 v2.1.length),(37,.bl true)] [(0,⟨3,[eQ a1]⟩),(1,⟨6,[iS]⟩),(2,⟨1,v2.1.map (cH 1 eI)⟩)] 3) (bS (bK k2) (bN k<|bN k<|cD (bA.plainE _) k<|aR) k4)<|fG k k<|sR<|ae (dE aD k k k k k k) k<|ae (ws k) k<|aT k2<|aJ<|aI<|sp h (bT k k k (dC k (bW (gX (aH (k) (aH (k) (aH (k) (aH (k) (aH (k) (aH (k) eH))))))) (bW (k) fH))))) λq3 h=>?_;refine aQ 29 k q3<|am k k<|ae (dL k) k<|pk k3<|am k k<|rA h (λq4 h=>aQ 33 k q4<|aK k4<|ak k k<|pk k3<|an<|tn<|aP (t:=mN [(0,.int a0),(4,.ptr 0 0 0),(6,.ptr 1 0 0),(8,.list 1 (v1.1.map eI)),(10,.own 2 0 v2.1.length),(37,.bl true)] [(0,⟨3,[eQ a1]⟩),(1,⟨6,[iS]⟩),(2,⟨1,v2.1.map (cH 1 eI)⟩)] 3) (bS (bK k2) (bN k<|bN k<|cD (bA.plainE _) k<|aR) k4)<|fG k k<|sR<|ae (dE aD k k k k k k) k<|ae (ws k) k<|aT k2<|aJ<|aI<|sp h (bT k k k (dC k (bW (gX (aH (k) (aH (k) (aH (k) (aH (k) (aH (k) (aH (k) eH))))))) (bW (k) fH))))) λq4 h=>?_;refine aQ 33 k q4<|am k k<|oB h λv5 hv5 h=>ae (bC (qN a0 v5 hv5) k (dW k aS)) k<|ae (dL k) k<|pk k3<|an<|tn<|aP (t:=mN [(0,.int a0),(4,.ptr 0 0 0),(6,.ptr 1 0 0),(8,.list 1 (v1.1.map eI)),(10,.own 2 0 v2.1.length),(37,.bl (!v5))] [(0,⟨3,[eQ a1]⟩),(1,⟨6,[iS]⟩),(2,⟨1,v2.1.map (cH 1 eI)⟩)] 3) (bS (bK k2) (bN k<|bN k<|cD (bA.plainE _) k<|aR) k4)<|dR k h (λ_ h=>sR<|ae (dE aD k k k k k k) k<|ae (ws k) k<|aT k2<|aJ<|aI<|sp h (bT k k k (dC k (bW (gX (aH (k) (aH (k) (aH (k) (aH (k) (aH (k) (aH (k) eH))))))) (bW (k) fH))))) λ_ h=>?_;refine aG<|tn<|sR<|am k k<|ae (cA aD k k k k) k<|cG h λq14 h=>ae (rJ aD q14 k k k k k k k k) k<|aT k2<|aP (t:=mN [(0,.int a0),(4,.ptr 0 0 0),(6,.ptr 1 0 0),(8,.list 1 (v1.1.map eI)),(12,.own 3 0 ((List.replicate (((v2.1.length:Nat):Int).toNat) (0:Int)).length))] [(0,⟨3,[eQ a1]⟩),(1,⟨6,[iS]⟩),(3,⟨1,List.map (ow eI) (List.replicate (((v2.1.length:Nat):Int).toNat) (0:Int))⟩)] 4) (bS (mG 4 k2 (jJ ⟨_,k,⟨k,k,(by simp only [aO,lA,lT,lR,lC,lN]),k⟩⟩ aR)) (bN k<|bN k<|hX ⟨_,k,k,.inl ⟨xH (e:=eI) (z:=0) _,cP.plainO _⟩⟩ k<|aR) k4)<|sQ<|sR<|aT k2<|aE<|oB h λy12 hy12 h=>cC (body:=(lD v1)) hy12 (λ(x1:((List Int)×Int))=>mN [(0,.int a0),(4,.ptr 0 0 0),(6,.ptr 1 0 0),(8,.list 1 (v1.1.map eI)),(12,.own 2 0 x1.1.length),(13,.int x1.2)] [(0,⟨3,[eQ a1]⟩),(1,⟨6,[iS]⟩),(2,⟨1,x1.1.map (ow eI)⟩)] 3) (λr e t=>e= .exit 0∧Ent t (mN [(0,.int a0),(4,.ptr 0 0 0),(6,.ptr 1 0 0),(12,.own 2 0 r.length)] [(0,⟨3,[eQ a1]⟩),(1,⟨6,[iS]⟩),(2,⟨1,r.map (ow eI)⟩)] 3)) (mX [0,1,3] (bK k2) (bN k<|bN k<|bP k<|aR) k4) ?_ ?_
 ·intro x1 o h;refine sQ<|sR<|am k k<|am k k<|ln k4<|cm k4<|an<|tn<|dR k h (λ_ h=>?_) λ_ h=>aU<|aB<|aB<|sp h ⟨_,k,k,(bS (bK k2) (bN k<|bN k<|bP k<|aR) k4)⟩;refine aG<|tn<|sQ<|aE<|aN gD<|am k k<|am k k<|am k k<|oB h λv8 hv8 h=>ae (xl hv8 k) k<|lr k7<|am k k<|am k k<|am k k<|oB h λv9 hv9 h=>ae (xl hv9 k) k<|lr k7<|oB h λv10 hv10 h=>ae (xo hv10 k) k<|ae (wp hv10 k) k<|ae (bF k k) k<|oB h λv11 hv11 h=>ae (xo hv11 k) k<|ae (fA aD jX (u:=wr (v10+1)) (dB hv11) k k k k k k) k<|an<|rC (by kernel_rfl)<|aV<|tn<|rg<|am k k<|ae (bF k k) k<|aa k k<|an ?_;exact tn<|sp h ⟨_,k,(bS (mG 4 k2 (jJ ⟨_,k,⟨k,k,(by simp only [aO,lA,lT,lR,lC,lN]),k⟩⟩ (bK k2))) (bN k<|bN k<|bP k<|aR) k4)⟩
 ·rintro e t ⟨rfl,hent⟩;exact aL<|tn<|aP hent<|sR<|am k k<|lp k8<|am k k<|oB h λv13 hv13 h=>ae (AEff.conv (pO (x:= .tuple [.agg [.int v13.1.p,.int v13.1.q.n,.own 3 0 (v13.1.q.src.map eI).length,.own 4 0 (v13.1.q.tgt.map eI).length,.own 5 0 (v13.1.dims.map eI).length,.own 6 0 (v13.1.maps.map eM).length],.bl v13.2]) (nb:=[(3,⟨1,cN (v13.1.q.src.map eI)⟩),(4,⟨1,cN (v13.1.q.tgt.map eI)⟩),(5,⟨1,cN (v13.1.dims.map eI)⟩),(6,⟨3,cN (v13.1.maps.map eM)⟩)]) (aBK a0 a1 y12 v13 hv13) k (by rfl) k k (fV (bZ aR (bZ aR (bZ (cP.good _) (bZ (cP.good _) (bZ (cP.good _) (bZ (cE.good _) tZ)))))) (fV aR vH)) (dW k (aZ (lQ k) (vcT k k aS)))) (v':= .tuple [.agg [.int v13.1.p,.int v13.1.q.n,.own 3 0 v13.1.q.src.length,.own 4 0 v13.1.q.tgt.length,.own 5 0 v13.1.dims.length,.own 6 0 v13.1.maps.length],.bl v13.2]) (ed':=[(3,some ⟨1,v13.1.q.src.map (ow eI)⟩),(4,some ⟨1,v13.1.q.tgt.map (ow eI)⟩),(5,some ⟨1,v13.1.dims.map (ow eI)⟩),(6,some ⟨3,v13.1.maps.map (ow eM)⟩)]) (by simp only [aO]) (vO (nb':=[(3,⟨1,v13.1.q.src.map (ow eI)⟩),(4,⟨1,v13.1.q.tgt.map (ow eI)⟩),(5,⟨1,v13.1.dims.map (ow eI)⟩),(6,⟨3,v13.1.maps.map (ow eM)⟩)]) (by simp only [gA]))) k<|am k k<|ae (bD k k (by intro _ h;cases h)) k<|ae (bD k k (by intro _ h;cases h)) k<|ae (bX aD k k) k<|ae (ws k) k<|aT k2<|sR<|lp k8<|am k k<|ae (ws k) k<|aT k2<|aJ<|sp h (bT k k k (dC k (bW (gX (aH (k) (aH (k) (aH (eX cP k k) (aH (eX cP k k) (aH (eX cP k k) (aH (eX cE k k) eH))))))) (bW (k) fH))))
end
noncomputable section
set_option maxRecDepth 10000
set_option maxHeartbeats 4000000
end
noncomputable section
def nnB (x:List Int):Bool:=x.all λa=>decide (0≤a)
theorem aUU {x:List Int} (h:nnB x=true): ∀ a∈x,0≤a:=λa ha=>of_decide_eq_true (List.all_eq_true.1 h a ha)
theorem aXq {x:List Int} (h1:1≤x.length) (hx:x.length≤1048576): ∃ m,oA x=some m∧decide (0≤m)=nnB x:=by
 have key: ∃ m,Lp (iF x) (x[0]'(by omega),1)=some m∧decide (0≤m)=nnB x:=by
  refine aDt (λs=> ∃ k:Nat,s.2=(k:Int)∧1≤k∧k≤x.length∧decide (0≤s.1)=nnB (x.take k)) (λs=>x.length - s.2.toNat) _ ?_ ?_
  ·refine ⟨1,rfl,by omega,h1,?_⟩;rw [List.take_one,List.head?_eq_getElem?,hJ (by omega)];simp [nnB]
  ·rintro ⟨m,a⟩ ⟨k,rfl,hk1,hk2,hm⟩;simp only at hm;by_cases hkl:k<x.length
   ·left;refine ⟨(min m x[k],((k+1:Nat):Int)),?_,⟨k+1,rfl,by omega,by omega,?_⟩,?_⟩
    ·unfold iF;simp only;rw [iE hkl,aM,dJ hkl,aC,bU hkl (by omega)]
    ·simp only;rw [List.take_add_one,hJ hkl];unfold nnB at hm ⊢;rw [List.all_append,←hm];simp only [Option.toList_some,List.all_cons,List.all_nil,Bool.and_true];rw [Bool.eq_iff_iff];simp only [dF,iD];omega
    ·simp only [dH];omega
   ·right;have hke:k=x.length:=by omega
    subst hke;refine ⟨m,?_,by rw [List.take_length] at hm;exact hm⟩;unfold iF;simp only;rw [iT (bO _),aX]
 obtain ⟨m,k1,k2⟩:=key;refine ⟨m,?_,k2⟩;unfold oA;rw [eB (by omega),aX,show (0:Int)=((0:Nat):Int) from rfl,dJ (by omega),aC];rw [show ((1:Int))=1 from rfl,k1,aC]
end
noncomputable section
def aBO (n:Nat) (x r:List Int):List Int:=qY n λv=>gx x v - gx r v
def sP (L:List (List Int)) (i:Nat):List Int:=L[i]?.getD []
def dec (L:List (List Int)) (n:Nat):Nat→Nat→List Int→List (List Int)
 |0,_,_=>[]
 |f+1,j,x=>if x.sum=0 then [[]] else (List.range' j (L.length - j)).flatMap λi=>if nnB (aBO n x (sP L i)) then (dec L n f i (aBO n x (sP L i))).map ((i:Int):: ·) else []
structure LOk (L:List (List Int)) (n:Nat):Prop where
 len:L.length≤1000
 row: ∀ r∈L,r.length=n∧(∀ a∈r,0≤a∧a≤1000)∧1≤r.sum
structure XOk (x:List Int) (n:Nat):Prop where
 len:x.length=n
 n1:1≤n
 n5:n≤5
 nn: ∀ a∈x,0≤a∧a≤4
theorem LOk.at {L:List (List Int)} {n:Nat} (h:LOk L n) {i:Nat} (hi:i<L.length):sP L i∈L∧cO L (i:Int)=some (sP L i):=by
 refine ⟨?_,vG [] hi⟩;unfold sP;rw [hJ hi];exact List.getElem_mem hi
theorem aGJ {n:Nat} {x r:List Int} :(aBO n x r).length=n:=kZ _ _
theorem aUV {x:List Int} {n:Nat} (h:XOk x n) {v:Nat} (hv:v<n):0≤gx x v∧gx x v≤4:=h.nn _ (rX (by rw [h.len];exact hv))
theorem LOk.gx {L:List (List Int)} {n:Nat} (h:LOk L n) {r:List Int} (hr:r∈L) {v:Nat} (hv:v<n):0≤gx r v∧gx r v≤1000:=(h.row r hr).2.1 _ (rX (by rw [(h.row r hr).1];exact hv))
theorem aRD {L:List (List Int)} {n:Nat} (hL:LOk L n) {x r:List Int} (hx:XOk x n) (hr:r∈L) (hn:nnB (aBO n x r)=true):XOk (aBO n x r) n:=by
 refine ⟨aGJ,hx.n1,hx.n5,λa ha=>⟨aUU hn a ha,?_⟩⟩;obtain ⟨v,hv,rfl⟩:=List.mem_map.1 ha;have hv:=List.mem_range.1 hv;have:=aUV hx hv;have:=hL.gx hr hv;omega
theorem aOk {L:List (List Int)} {n:Nat} (hL:LOk L n) {x r:List Int} (hx:XOk x n) (hr:r∈L):(aBO n x r).sum +1≤x.sum:=by
 have h1:=(hL.row r hr).2.2;rw [yJ,(hL.row r hr).1] at h1;rw [yJ,yJ,aGJ,hx.len]
 have e:fB n (Go.Proofs.YtilpfdokmlanjaaGreat.gx (aBO n x r))=fB n (Go.Proofs.YtilpfdokmlanjaaGreat.gx x) - fB n (Go.Proofs.YtilpfdokmlanjaaGreat.gx r):=by
  have h3:fB n (Go.Proofs.YtilpfdokmlanjaaGreat.gx (aBO n x r))=fB n λv=>Go.Proofs.YtilpfdokmlanjaaGreat.gx x v+(-1)*Go.Proofs.YtilpfdokmlanjaaGreat.gx r v:=eU λv hv=>by
   unfold aBO;rw [aGA hv];omega
  rw [h3,qX,nM];omega
 omega
theorem aXr {x:List Int} (hx:x.length≤1000):Lp (oX x) (true,0)=some (x.all λa=>decide (a=0)):=by
 refine dQ (λk=>((x.take k).all λa=>decide (a=0),(k:Int))) x.length (by simp) (λk hk=>?_) (λ_=>?_)
 ·unfold oX;simp only;rw [iE hk,aM,List.take_add_one,hJ hk,List.all_append];simp only [Option.toList_some,List.all_cons,List.all_nil,Bool.and_true];cases (x.take k).all λa=>decide (a=0) with
  |false=>rw [aX,bU hk (by omega)];rfl
  |true=>rw [aM,dJ hk,aC,bU hk (by omega)];rfl
 ·unfold oX;simp only;rw [iT (bO _),aX,List.take_length]
theorem aUW {x:List Int} (h: ∀ a∈x,0≤a):(x.all λa=>decide (a=0))=decide (x.sum=0):=by
 induction x with
 |nil=>rfl
 |cons a x ih=>
  have h1:=h a (by simp);have h2:=aGs (x:=x) λb hb=>h b (by simp [hb]);rw [List.all_cons,ih λb hb=>h b (by simp [hb]),List.sum_cons,Bool.eq_iff_iff];simp only [dF,iD];omega
theorem aXs {L:List (List Int)} {n:Nat} (hL:LOk L n) {x:List Int} (hx:XOk x n) {i:Nat} (hi:i<L.length) (out:List (List Int)):
  Lp (oY L x ((i:Int),out)) (([]:List Int),true,0)=some (aBO n x (sP L i),nnB (aBO n x (sP L i))):=by
 obtain ⟨hr,ha⟩:=hL.at hi;have hrl:=(hL.row _ hr).1;have n5:=hx.n5;refine dQ (λk=>(qY k λv=>gx x v - gx (sP L i) v,nnB (qY k λv=>gx x v - gx (sP L i) v),(k:Int))) n rfl (λk hk=>?_) (λ_=>?_)
 ·unfold oY;simp only;have h1:=aUV hx hk;have h2:=hL.gx hr hk
  have e:qY (k+1) (λv=>gx x v - gx (sP L i) v)=(qY k λv=>gx x v - gx (sP L i) v)++[gx x k - gx (sP L i) k]:=by
   unfold qY;rw [List.range_succ,List.map_append];rfl
  rw [hx.len,iE hk,aM,xP (by rw [hx.len];exact hk),aC,ha,aC,xP (by rw [hrl];exact hk),aC,bG (by rw [kZ];simp;omega),aM,cY (by omega),e];generalize hA:(qY k λv=>gx x v - gx (sP L i) v)=A;have hAl:A.length=k:=by rw [←hA,kZ]
  have e2:nnB (A++[gx x k - gx (sP L i) k])=(nnB A&&decide (0≤gx x k - gx (sP L i) k)):=by
   unfold nnB;rw [List.all_append];simp
  rw [e2];cases nnB A with
  |false=>rw [aX,bU hk (by omega)];rfl
  |true=>
   have hat:cO (A++[gx x k - gx (sP L i) k]) (k:Int)=some (gx x k - gx (sP L i) k):=by
    rw [dJ (by simp;omega)];congr 1;rw [List.getElem_append_right (by omega)];simp [hAl]
   rw [aM,hat,aC,bU hk (by omega)];rfl
 ·unfold oY;simp only;rw [hx.len,iT (bO _),aX];rfl
theorem aWA {rest:List (List Int)} {i:Nat} {o2:List (List Int)} (hr:rest.length≤500) (hb: ∀ w∈rest,w.length≤1000): ∀ (d k:Nat) {out:List (List Int)},k+d=rest.length→out.length≤500→
  Lp (jE rest ((i:Int),o2)) (out,(k:Int))=some (out++((rest.drop k).map ((i:Int):: ·)).take (500 - out.length))
 |0,k,out,hk,ho=>by
  rw [List.drop_of_length_le (by omega)];refine (dS (r:=out) ?_).trans (by simp);unfold jE;simp only;rw [iT (by omega),aX]
 |d+1,k,out,hk,ho=>by
  have hkl:k<rest.length:=by omega
  by_cases h5:out.length<500
  ·have hw:=hb _ (List.getElem_mem hkl)
   have hbd:jE rest ((i:Int),o2) (out,(k:Int))=some (.inl (out++[(i:Int)::rest[k]],((k+1:Nat):Int))):=by
    unfold jE;simp only;rw [iE hkl,aM,bG (by omega),aM,dJ hkl,aC,bG (by simp;omega),aM,bG (by omega),aM,bU hkl (by omega)];rfl
   rw [iU hbd,aWA hr hb d (k+1) (by omega) (by simp;omega),List.drop_eq_getElem_cons hkl,List.map_cons,List.append_assoc];rw [show 500 - out.length=(500 - (out++[(i:Int)::rest[k]]).length)+1 by simp;omega,List.take_succ_cons];rfl
  ·refine (dS (r:=out) ?_).trans (by rw [show 500 - out.length=0 by omega,List.take_zero,List.append_nil]);unfold jE;simp only;rw [iE hkl,aM,eB (by omega),aX]
theorem aUX {α β:Type} (A:List β) (B:List α) (c:α→β) (N:Nat) (h:A.length≤N):A++((B.take N).map c).take (N - A.length)=(A++B.map c).take N:=by
 rw [List.take_append,List.take_of_length_le h,←List.map_take,←List.map_take,List.take_take,Nat.min_eq_left (by omega)]
theorem aMo {L:List (List Int)} {n:Nat} (hL:LOk L n): ∀ (f j:Nat) (x:List Int),∀ w∈dec L n f j x,w.length≤f∧ ∀ a∈w,0≤a∧a<L.length
 |0,_,_,w,h=>by cases h
 |f+1,j,x,w,h=>by
  simp only [dec] at h;split at h
  ·rcases List.mem_singleton.1 h with rfl;exact ⟨by simp,λa ha=>by cases ha⟩
  ·obtain ⟨i,hi,h⟩:=List.mem_flatMap.1 h;have hi:=List.mem_range'_1.1 hi;split at h
   ·obtain ⟨w',hw,rfl⟩:=List.mem_map.1 h;obtain ⟨h1,h2⟩:=aMo hL f i _ w' hw;refine ⟨by simp;omega,λa ha=>?_⟩;rcases eC.1 ha with rfl|ha
    ·omega
    ·exact h2 a ha
   ·cases h
theorem aUY {L:List (List Int)} {n:Nat} (hL:LOk L n): ∀ (f j:Nat) {x:List Int},XOk x n→x.sum<f→f≤100→jF f L x (j:Int)=some ((dec L n f j x).take 500)
 |0,j,x,hx,hs,_=>by have:=aGs λa ha=>(hx.nn a ha).1;omega
 |f+1,j,x,hx,hs,hf=>by
  have hl:=hL.len;show uY (jF f) L x j=_;unfold uY;rw [aXr (by rw [hx.len];have:=hx.n5;omega),aC,aUW λa ha=>(hx.nn a ha).1];by_cases h0:x.sum=0
  ·rw [bG h0,aM];simp only [dec,aY h0];rfl
  ·rw [eB h0,aX];simp only [dec,aW h0];obtain ⟨g,hg⟩: ∃ g:Nat→List (List Int),g=λi=>if nnB (aBO n x (sP L i)) then (dec L n f i (aBO n x (sP L i))).map ((i:Int):: ·) else []:=⟨_,rfl⟩
   have key: ∀ (d i:Nat) (acc:List (List Int)),i+d=L.length→Lp (gG (jF f) L x) ((i:Int),acc.take 500)=some ((acc++(List.range' i d).flatMap g).take 500):=by
    intro d;induction d with
    |zero=>
     intro i acc hi;refine (dS (r:=acc.take 500) ?_).trans (by simp);unfold gG;simp only;rw [iT (by omega),aX]
    |succ d ih=>
     intro i acc hi;have hil:i<L.length:=by omega
     by_cases h5:acc.length<500
     ·have ht:acc.take 500=acc:=List.take_of_length_le (by omega)
      have hb:gG (jF f) L x ((i:Int),acc.take 500)=some (.inl (((i+1:Nat):Int),(acc++g i).take 500)):=by
       rw [ht];unfold gG;simp only;rw [iE hil,aM,bG (by omega),aM,aXs hL hx hil,aC];simp only;rw [hg];simp only;obtain ⟨hr,_⟩:=hL.at hil;cases hn:nnB (aBO n x (sP L i)) with
       |false=>rw [Bool.not_false,aM,bU hil (by omega),aW (by simp),List.append_nil,ht]
       |true=>
        have hs2:=aOk hL hx hr;rw [gO,aX,aUY hL f i (aRD hL hx hr hn) (by omega) (by omega),aC,aY rfl];have:=aWA (rest:=(dec L n f i (aBO n x (sP L i))).take 500) (i:=i) (o2:=acc) (by rw [List.length_take];omega) (λw hw=>by have:=(aMo hL f i _ w (List.mem_of_mem_take hw)).1;omega) _ 0 (out:=acc) (Nat.zero_add _) (by omega);rw [show ((0:Nat):Int)=0 from rfl,List.drop_zero] at this;rw [this,aC,bU hil (by omega),aUX _ _ _ _ (by omega)]
      rw [iU hb,ih (i+1) _ (by omega),List.range'_succ,List.flatMap_cons,List.append_assoc]
     ·refine (dS (r:=acc.take 500) ?_).trans (by rw [List.take_append_of_le_length (by omega)]);unfold gG;simp only;rw [iE hil,aM,eB (by rw [List.length_take];omega),aX]
   by_cases hj:j≤L.length
   ·have:=key (L.length - j) j [] (by omega);rw [List.take_nil] at this;rw [this,aC,hg];rfl
   ·have hs:Lp (gG (jF f) L x) ((j:Int),[])=some []:=by
     refine dS ?_;unfold gG;simp only;rw [iT (by omega),aX]
    rw [hs,aC,show L.length - j=0 by omega];rfl
theorem aXt {L:List (List Int)} {n:Nat} (hL:LOk L n) {x:List Int} (hx:XOk x n) {i:Nat} (hi:i<L.length):Lp (mD (sP L i)) (x,0)=some (aBO n x (sP L i)):=by
 obtain ⟨hr,_⟩:=hL.at hi;have hrl:=(hL.row _ hr).1;have n5:=hx.n5;refine dQ (λk=>(qY n λv=>if v<k then gx x v - gx (sP L i) v else gx x v,(k:Int))) n ?_ (λk hk=>?_) (λ_=>?_)
 ·have:x=qY n λv=>if v<0 then gx x v - gx (sP L i) v else gx x v:=by
   refine List.ext_getElem (by rw [kZ,hx.len]) λv h1 h2=>?_;have hv:v<n:=by rw [←hx.len];exact h1
   have e1:=aGA (f:=λv=>if v<0 then gx x v - gx (sP L i) v else gx x v) hv;rw [uH _ h2] at e1;rw [e1,aW (Nat.not_lt_zero v),uH x h1]
  exact congrArg (·,(0:Int)) this
 ·unfold mD;simp only;have h1:=aUV hx hk;have h2:=hL.gx hr hk;rw [hrl,iE hk,aM,xP (by rw [hrl];exact hk),aC,xP (by rw [kZ];exact hk),aC,aC,aGA hk,aW (Nat.lt_irrefl k),cY (by omega),dH,bU hk (by omega)];congr 3;refine List.ext_getElem (by rw [List.length_set,kZ,kZ]) λv g1 g2=>?_;have hv:v<n:=by rw [kZ] at g2;exact g2
  have e1:=aGA (f:=λv=>if v<k+1 then gx x v - gx (sP L i) v else gx x v) hv;rw [uH _ g2] at e1;rw [e1,List.getElem_set];have g3:v<(qY n λv=>if v<k then gx x v - gx (sP L i) v else gx x v).length:=by rw [kZ];exact hv
  have e2:=aGA (f:=λv=>if v<k then gx x v - gx (sP L i) v else gx x v) hv;rw [uH _ g3] at e2;by_cases hkv:k=v
  ·subst hkv;rw [aY rfl,aY (by omega)]
  ·rw [aW hkv,e2];by_cases hvk:v<k
   ·rw [aY hvk,aY (by omega)]
   ·rw [aW hvk,aW (by omega)]
 ·unfold mD;simp only;rw [hrl,iT (bO _),aX];congr 2;exact kC λv hv=>by rw [aY (List.mem_range.1 hv)]
theorem aSV {β:Type} (A:List β) (X Y:List β) (N:Nat):(A++X.take (N - A.length))++Y.take (N - (A++X.take (N - A.length)).length)=A++(X++Y).take (N - A.length):=by
 rw [List.append_assoc,List.take_append];congr 2;rw [List.length_append,List.length_take];by_cases h:X.length≤N - A.length
 ·rw [Nat.min_eq_right h,Nat.sub_sub]
 ·rw [Nat.min_eq_left (by omega),show N - (A.length+(N - A.length))=0 by omega,show N - A.length - X.length=0 by omega]
theorem aOl {L:List (List Int)} {n:Nat} (hL:LOk L n): ∀ (f j:Nat) {x taken:List Int} {out:List (List Int)},XOk x n→x.sum<f→f≤100→taken.length+f≤1000→out.length≤500→gR f L (j:Int) x taken out=some (out++((dec L n f j x).map (taken++ ·)).take (500 - out.length))
 |0,j,x,taken,out,hx,hs,_,_,_=>by have:=aGs λa ha=>(hx.nn a ha).1;omega
 |f+1,j,x,taken,out,hx,hs,hf,ht,ho=>by
  have hl:=hL.len;have n5:=hx.n5;have n1:=hx.n1;show sC (gR f) L j x taken out=_;unfold sC;rw [aIH hx.nn (by rw [hx.len];omega),aC];by_cases h0:x.sum=0
  ·rw [bG h0,aM];simp only [dec,aY h0];by_cases h5:out.length<500
   ·unfold hO;rw [bG (by omega),aM,bG (by omega),aM,aC,bG (by omega),aM];simp only [List.map_cons,List.map_nil,List.append_nil];rw [List.take_of_length_le (by simp;omega)]
   ·rw [eB (by omega),aX,show 500 - out.length=0 by omega,List.take_zero,List.append_nil]
  ·rw [eB h0,aX];simp only [dec,aW h0];obtain ⟨g,hg⟩: ∃ g:Nat→List (List Int),g=λi=>if nnB (aBO n x (sP L i)) then (dec L n f i (aBO n x (sP L i))).map ((i:Int):: ·) else []:=⟨_,rfl⟩
   have key: ∀ (d i:Nat) (acc:List (List Int)),acc.length≤500→i+d=L.length→Lp (fP (gR f) L x taken) (acc,(i:Int))=some (acc++(((List.range' i d).flatMap g).map (taken++ ·)).take (500 - acc.length)):=by
    intro d;induction d with
    |zero=>
     intro i acc ha hi;refine (dS (r:=acc) ?_).trans (by simp);unfold fP;simp only;rw [iT (by omega),aX]
    |succ d ih=>
     intro i acc ha hi;have hil:i<L.length:=by omega
     obtain ⟨hr,hat⟩:=hL.at hil;by_cases h5:acc.length<500
     ·have hb:fP (gR f) L x taken (acc,(i:Int))=some (.inl (acc++((g i).map (taken++ ·)).take (500 - acc.length),((i+1:Nat):Int))):=by
       unfold fP;simp only;obtain ⟨m,hm1,hm2⟩:=aXq (x:=aBO n x (sP L i)) (by rw [aGJ];omega) (by rw [aGJ];omega);have hc: ∀ {l:List Int},l.length≤1048576→hO l=some l:=λhl=>by unfold hO;rw [bG hl,aM]
       rw [iE hil,aM,bG (by omega),aM,hc (by rw [hx.len];omega),aC,hat,aC,aXt hL hx hil,aC,hm1,aC,hm2,hg];simp only;cases hn:nnB (aBO n x (sP L i)) with
       |false=>rw [aX,bU hil (by omega),aW (by simp),List.map_nil,List.take_nil,List.append_nil]
       |true=>
        have hs2:=aOk hL hx hr;rw [aM,hc (by omega),aC,bG (by simp;omega),aM,aOl hL f i (aRD hL hx hr hn) (by omega) (by omega) (by simp;omega) (by omega),aC,aY rfl,List.map_map,bU hil (by omega)];have e9:(dec L n f i (aBO n x (sP L i))).map (taken++[(i:Int)]++ ·)=(dec L n f i (aBO n x (sP L i))).map ((taken++ ·)∘((i:Int):: ·)):=kC λw _=>by simp
        rw [e9]
      rw [iU hb,ih (i+1) _ (by rw [List.length_append,List.length_take];omega) (by omega),List.range'_succ,List.flatMap_cons,List.map_append];congr 1;exact aSV acc _ _ 500
     ·refine (dS (r:=acc) ?_).trans (by rw [show 500 - acc.length=0 by omega,List.take_zero,List.append_nil]);unfold fP;simp only;rw [iE hil,aM,eB (by omega),aX]
   by_cases hj:j≤L.length
   ·rw [key (L.length - j) j out ho (by omega),aC,hg]
   ·have hs:Lp (fP (gR f) L x taken) (out,(j:Int))=some out:=by
     refine dS ?_;unfold fP;simp only;rw [iT (by omega),aX]
    rw [hs,aC,show L.length - j=0 by omega];simp
end
noncomputable section
theorem aCa {q:Qv} {n:Nat} (H:Fin1 q n):LOk (cJ q n) n:=by
 refine ⟨by have:=aBH H;omega,λr hr=>?_⟩;have h:=(lX H r).1 hr;obtain ⟨h1,h2⟩:=H.vec h;exact ⟨h2,λa ha=>by have:=h1.2 a ha;omega,h.pos H.F⟩
theorem aSW {q:Qv} (hb:bQ q) {x:List Int} (hx:bI x): ∃ W b,jQ q x=some (W,b)∧jP q x=some (W,b)∧((b=false∧W=[])∨(b=true∧ ∃ n,Fin1 q n∧dP q=some (cJ q n,true)∧cU q=some (cJ q n,true)∧W=(dec (cJ q n) n 40 0 x).take 500)):=by
 obtain ⟨L,b,h1,h2,h3⟩:=aLS hb;unfold jQ jP;rcases h3 with ⟨rfl,rfl⟩|⟨rfl,n,H,rfl⟩
 ·rw [h1,h2];exact ⟨[],false,rfl,rfl,.inl ⟨rfl,rfl⟩⟩
 ·cases hd:aBC q x with
  |false=>
   refine ⟨[],false,?_,?_,.inl ⟨rfl,rfl⟩⟩
   ·rw [h1,aC,gO,aX,aCn hb hx,aC,hd,Bool.not_false,aM]
   ·rw [h2,aC,gO,aX,aCo hb hx,aC,hd,Bool.not_false,aM]
  |true=>
   have hL:=aCa H
   have hX:XOk x n:=by
    unfold aBC at hd;simp only [dF,iD] at hd;obtain ⟨_,hl,ha,_⟩:=hd;have:=H.Q.n0;refine ⟨by omega,H.Q.n1,H.Q.n5,λa h=>?_⟩;have:=List.all_eq_true.1 ha a h;exact qI this
   have hs:x.sum<40:=by have:=(aMC hX.nn).2;have:=hX.len;have:=hX.n5;omega
   have e1:=aOl hL 40 0 (taken:=[]) (out:=[]) hX hs (by omega) (by simp) (by simp);have e2:=aUY hL 40 0 hX hs (by omega);rw [show ((0:Nat):Int)=0 from rfl] at e1 e2;simp only [List.nil_append,List.length_nil,Nat.sub_zero] at e1;rw [show (λx:List Int=>x)=id from rfl,List.map_id] at e1;refine ⟨(dec (cJ q n) n 40 0 x).take 500,true,?_,?_,.inr ⟨rfl,n,H,h1,h2,rfl⟩⟩
   ·rw [h1,aC,gO,aX,aCn hb hx,aC,hd,gO,aX];unfold hO;rw [bG (by exact hx),aM,aC];simp only;rw [e1,aC]
   ·rw [h2,aC,gO,aX,aCo hb hx,aC,hd,gO,aX];simp only;rw [e2,aC]
theorem aGK {l:List Int} {f:Int→Option Bool} (P:Int→Bool) (hf: ∀ x∈l,f x=some (P x)) (h:l.length≤1048576):dM l f=some (l.any P):=by
 unfold dM gE;rw [aAq (s0:=0) (s:=0) (n:=l.length) (λk=>bif P (gx l k) then some (k:Int) else none) rfl (by omega) (Nat.zero_le _) (λk _ hk=>?_) (λ_=>?_)]
 ·rw [aC];cases e:(List.range' 0 (l.length - 0)).findSome? (λk:Nat=>bif P (gx l k) then some (k:Int) else none) with
  |none=>
   rw [List.findSome?_eq_none_iff] at e
   have:l.any P=false:=by
    rw [List.any_eq_false];intro x hx;obtain ⟨k,hk,rfl⟩:=List.mem_iff_getElem.1 hx;have:=e k (by simp;omega);rw [uH l hk] at this;cases hp:P l[k] with
    |false=>simp
    |true=>rw [hp] at this;cases this
   rw [this];rfl
  |some i=>
   obtain ⟨k,hk,he⟩:=List.exists_of_findSome?_eq_some e;simp at hk;have hkl:k<l.length:=by omega
   rw [uH l hkl] at he;cases hp:P l[k] with
   |false=>rw [hp] at he;cases he
   |true=>
    rw [hp] at he;cases he;have:l.any P=true:=List.any_eq_true.2 ⟨_,List.getElem_mem hkl,hp⟩;rw [this];show (Option.bind (some ((k:Nat):Int)) λv1=>some (decide (0≤v1)))=some true;rw [aC,bG (by omega)]
 ·unfold eZ;rw [iE hk,aM,xP hk,aC,hf _ (rX hk),aC];cases P (gx l k) <;> rfl
 ·unfold eZ;rw [iT (bO _),aX]
theorem aLZ {q:Qv} {n:Nat} (H:Fin1 q n) (h2:cU q=some (cJ q n,true)) {x:List Int} (hx:RtQ q n x):mU q x=some true:=by
 unfold mU;rw [h2,aC];simp only
 have hL: ∀ r∈cJ q n,bI r:=λr hr=>by
  have:=(H.vec ((lX H r).1 hr)).1.1;unfold bI;omega
 rw [aM,aJm hL (by have:=aBH H;omega),aC,bG ((lX H x).2 hx)]
def eN (q:Qv) (n:Nat) (x y:List Int):Bool:=decide (0≤eul q n x y)
theorem aXE {q:Qv} {n:Nat} (H:Fin1 q n) (h2:cU q=some (cJ q n,true)) {x y:List Int} (hx:RtQ q n x) (hy:RtQ q n y):oW q x y=some (eN q n x y&&eN q n y x):=by
 have key: ∀ {x y:List Int},RtQ q n x→RtQ q n y→uD q x y=some (max 0 (-(eul q n x y))):=by
  intro x y hx hy;obtain ⟨g1,g2⟩:=H.vec hx;obtain ⟨g3,g4⟩:=H.vec hy;have hbd:=aWs H.Q (x:=x) (y:=y) g1.sm g3.sm;unfold uD;rw [aLZ H h2 hx,aLZ H h2 hy,aC,gO,aX,aC,gO,aX,aLM H.Q g2 g4 g1.sm g3.sm,aC,cY (by omega)]
 unfold oW eN;rw [key hx hy,key hy hx,aC];by_cases c:0≤eul q n x y
 ·rw [bG (by omega),aM,aC,bG c,Bool.true_and];congr 1;rw [Bool.eq_iff_iff,iD,iD];omega
 ·rw [eB (by omega),aX,eB c,Bool.false_and]
def aJu (q:Qv) (n:Nat) (L:List (List Int)) (w:List Int):Bool:=(List.range w.length).all λa=>(List.range a).all λb=>eN q n (sP L (gx w a).toNat) (sP L (gx w b).toNat)&&eN q n (sP L (gx w b).toNat) (sP L (gx w a).toNat)
def aQA (q:Qv) (n:Nat) (L:List (List Int)) (w:List Int):Bool:=w.any λi=>w.any λk=> !eN q n (sP L i.toNat) (sP L k.toNat)
theorem aQB {q:Qv} {n:Nat} (H:Fin1 q n) {w:List Int} (hw: ∀ a∈w,0≤a∧a<(cJ q n).length):(!aQA q n (cJ q n) w)=aJu q n (cJ q n) w:=by
 have hr: ∀ a∈w,RtQ q n (sP (cJ q n) a.toNat):=λa ha=>by
  have h:=hw a ha;exact (lX H _).1 ((aCa H).at (i:=a.toNat) (by omega)).1
 unfold aQA aJu;rw [Bool.eq_iff_iff];simp only [Bool.not_eq_true',List.any_eq_false,List.all_eq_true,List.mem_range,dF];constructor
 ·intro h a ha b hb;have h1:=h _ (rX ha);have h2:=h _ (rX (x:=w) (i:=b) (by omega));simp only [Bool.not_eq_true,List.any_eq_false] at h1 h2;have h3:=h1 _ (rX (x:=w) (i:=b) (by omega));have h4:=h2 _ (rX ha);exact ⟨by simpa using h3,by simpa using h4⟩
 ·intro h i hi;simp only [Bool.not_eq_true,List.any_eq_false];intro k hk;obtain ⟨a,ha,rfl⟩:=List.mem_iff_getElem.1 hi;obtain ⟨b,hb,rfl⟩:=List.mem_iff_getElem.1 hk
  have e:eN q n (sP (cJ q n) (w[a]).toNat) (sP (cJ q n) (w[b]).toNat)=true:=by
   rcases Nat.lt_trichotomy a b with hab|hab|hab
   ·have:=(h b hb a hab).2
    rwa [uH w ha,uH w hb] at this
   ·subst hab;have h1:=hr _ (List.getElem_mem ha);have h2:=((aMd H.Q _).1 h1).2.2;unfold eN;rw [h2];rfl
   ·have:=(h a ha b hab).1
    rwa [uH w ha,uH w hb] at this
  rw [e];simp
theorem aXu {q:Qv} {n:Nat} (H:Fin1 q n) {w:List Int} (hl:w.length≤1000) (hw: ∀ a∈w,0≤a∧a<(cJ q n).length):dM w (λb0=>mF b0 w q (cJ q n))=some (aQA q n (cJ q n) w):=by
 have hr: ∀ a∈w,RtQ q n (sP (cJ q n) a.toNat)∧cO (cJ q n) a=some (sP (cJ q n) a.toNat):=λa ha=>by
  have h:=hw a ha;obtain ⟨h1,h2⟩:=(aCa H).at (i:=a.toNat) (by omega);rw [Int.toNat_of_nonneg h.1] at h2;exact ⟨(lX H _).1 h1,h2⟩
 refine aGK (λi=>w.any λk=> !eN q n (sP (cJ q n) i.toNat) (sP (cJ q n) k.toNat)) (λi hi=>?_) (by omega);unfold mF;rw [aGK (λk=> !eN q n (sP (cJ q n) i.toNat) (sP (cJ q n) k.toNat)) (λk hk=>?_) (by omega),aC];unfold oC;obtain ⟨g1,g2⟩:=hr i hi;obtain ⟨g3,g4⟩:=hr k hk;obtain ⟨v1,v2⟩:=H.vec g1;obtain ⟨v3,v4⟩:=H.vec g3;rw [g2,aC,g4,aC,aLL H.Q v2 v4 v1.sm v3.sm,aC];unfold eN;congr 1;rw [Bool.eq_iff_iff,Bool.not_eq_true',iD,decide_eq_false_iff_not];omega
theorem aXv {q:Qv} {n:Nat} (H:Fin1 q n) (h2:cU q=some (cJ q n,true)) {W:List (List Int)} {j:Nat} (hj:j<W.length) (hl:(W[j]).length ≤1000) (hw: ∀ a∈W[j],0≤a∧a<(cJ q n).length):
  Lp (kY q (cJ q n,true) (W,true) (j:Int)) (0,true)=some (aJu q n (cJ q n) W[j]):=by
 have hat:cO W (j:Int)=some W[j]:=dJ hj
 have hr: ∀ a∈W[j],RtQ q n (sP (cJ q n) a.toNat)∧cO (cJ q n) a=some (sP (cJ q n) a.toNat):=λa ha=>by
  have h:=hw a ha;obtain ⟨h1,h2⟩:=(aCa H).at (i:=a.toNat) (by omega);rw [Int.toNat_of_nonneg h.1] at h2;exact ⟨(lX H _).1 h1,h2⟩
 generalize W[j]=w at*;refine dQ (λk=>((k:Int),(List.range k).all λa=>(List.range a).all λb=>eN q n (sP (cJ q n) (gx w a).toNat) (sP (cJ q n) (gx w b).toNat)&&eN q n (sP (cJ q n) (gx w b).toNat) (sP (cJ q n) (gx w a).toNat))) w.length rfl (λk hk=>?_) (λ_=>?_)
 ·unfold kY;simp only;rw [hat,aC,iE hk,aM];generalize hg:((List.range k).all λa=>(List.range a).all λb=>eN q n (sP (cJ q n) (gx w a).toNat) (sP (cJ q n) (gx w b).toNat)&&eN q n (sP (cJ q n) (gx w b).toNat) (sP (cJ q n) (gx w a).toNat))=g
  have hin:Lp (kX q (cJ q n,true) (W,true) (j:Int) ((k:Int),g)) (g,0)=some (g&&(List.range k).all λb=>eN q n (sP (cJ q n) (gx w k).toNat) (sP (cJ q n) (gx w b).toNat)&&eN q n (sP (cJ q n) (gx w b).toNat) (sP (cJ q n) (gx w k).toNat)):=by
   refine dQ (λb=>(g&&(List.range b).all λb=>eN q n (sP (cJ q n) (gx w k).toNat) (sP (cJ q n) (gx w b).toNat)&&eN q n (sP (cJ q n) (gx w b).toNat) (sP (cJ q n) (gx w k).toNat),(b:Int))) k (by simp) (λb hbk=>?_) (λ_=>?_)
   ·have hbl:b<w.length:=by omega
    unfold kX;simp only;rw [iE hbk,aM,List.range_succ,List.all_append,←Bool.and_assoc];simp only [List.all_cons,List.all_nil,Bool.and_true];cases (g&&(List.range b).all λb=>eN q n (sP (cJ q n) (gx w k).toNat) (sP (cJ q n) (gx w b).toNat)&&eN q n (sP (cJ q n) (gx w b).toNat) (sP (cJ q n) (gx w k).toNat)) with
    |false=>rw [aX,bU hbk (by omega)];rfl
    |true=>
     obtain ⟨g1,g2⟩:=hr _ (rX hk);obtain ⟨g3,g4⟩:=hr _ (rX hbl);rw [aM,hat,aC,xP hk,aC,g2,aC,aC,xP hbl,aC,g4,aC,aXE H h2 g1 g3,aC,bU hbk (by omega)];rfl
   ·unfold kX;simp only;rw [iT (bO _),aX]
  rw [hin,aC,bU hk (by omega),List.range_succ,List.all_append,hg];simp only [List.all_cons,List.all_nil,Bool.and_true]
 ·unfold kY;simp only;rw [hat,aC,iT (bO _),aX];rfl
theorem aUZ {α β γ:Type} (g:β→γ) (f:α→Option β): ∀ l:List α,(l.findSome? λk=>(f k).map g)=(l.findSome? f).map g
 | []=>rfl
 |a::l=>by
  simp only [List.findSome?_cons];cases f a with
  |none=>exact aUZ g f l
  |some b=>rfl
theorem aSX {q:Qv} (hb:bQ q) {x:List Int} (hx:bI x): ∃ w b,pE q x=some (w,b)∧oZ q x=some (w,b)∧w.length≤1000∧(b=true→ ∃ R,dP q=some (R,true)∧cU q=some (R,true)∧R.length≤20∧ ∀ a∈w,0≤a∧a<(R.length:Int)):=by
 obtain ⟨W,b,h1,h2,h3⟩:=aSW hb hx;obtain ⟨L,c,k1,k2,k3⟩:=aLS hb;rcases h3 with ⟨rfl,rfl⟩|⟨rfl,n,H,p1,p2,hW⟩
 ·refine ⟨[],false,?_,?_,by simp,λh=>by cases h⟩
  ·unfold pE;rw [h1,aC,k1,aC,dS (r:= .inl ()) (by unfold iP;rfl),aC];rfl
  ·unfold oZ;rw [k2,aC,h2,aC,dS (r:= .inl ()) (by unfold iO;rfl),aC];rfl
 ·have hWl:W.length≤500:=by rw [hW,List.length_take];omega
  have hw: ∀ w∈W,w.length≤1000∧ ∀ a∈w,0≤a∧a<(cJ q n).length:=λw hm=>by
   rw [hW] at hm;obtain ⟨g1,g2⟩:=aMo (aCa H) 40 0 x w (List.mem_of_mem_take hm);exact ⟨by omega,g2⟩
  obtain ⟨f,hf⟩: ∃ f:Nat→Option (List Int),f=λk=>bif aJu q n (cJ q n) (sP W k) then some (sP W k) else none:=⟨_,rfl⟩
  have hlr: ∀ {k:Nat} (hk:k<W.length),sP W k=W[k]:=λhk=>by unfold sP;rw [hJ hk];rfl
  have e1:Lp (iP q (W,true) (cJ q n,true)) 0=some (((List.range' 0 (W.length - 0)).findSome? f).elim (.inl ()) λw=> .inr (w,true)):=by
   rw [aAq (s0:=0) (s:=0) (n:=W.length) (λk=>(f k).map λw=>(w,true)) rfl (by omega) (Nat.zero_le _) (λk _ hk=>?_) (λ_=>?_),aUZ]
   ·cases (List.range' 0 (W.length - 0)).findSome? f <;> rfl
   ·obtain ⟨g1,g2⟩:=hw _ (List.getElem_mem hk);unfold iP;have hrow:aRt W (k:Int)=some W[k]:=by unfold aRt;rw [eB (by omega),aX,dJ hk]
    rw [iE hk,aM,dJ hk,aC,aC,aXu H g1 g2,aC,aQB H g2,hrow,aC,hf];simp only;rw [hlr hk];cases aJu q n (cJ q n) W[k] <;> rfl
   ·unfold iP;rw [iT (bO _),aX]
  have e2:Lp (iO q (cJ q n,true) (W,true)) 0=some (((List.range' 0 (W.length - 0)).findSome? f).elim (.inl ()) .inr):=by
   rw [aAq (s0:=0) (s:=0) (n:=W.length) f rfl (by omega) (Nat.zero_le _) (λk _ hk=>?_) (λ_=>?_)]
   ·cases (List.range' 0 (W.length - 0)).findSome? f <;> rfl
   ·obtain ⟨g1,g2⟩:=hw _ (List.getElem_mem hk);unfold iO;simp only;rw [iE hk,aM,aM,aM,aXv H p2 hk g1 g2,aC,hf];simp only;rw [hlr hk];cases aJu q n (cJ q n) W[k] with
    |false=>rfl
    |true=>rw [aM,dJ hk,aC];rfl
   ·unfold iO;simp only;rw [iT (bO _),aX]
  unfold pE oZ;rw [h1,h2,p1,p2];simp only [aC];rw [e1,e2];simp only [aC];cases hfs:(List.range' 0 (W.length - 0)).findSome? f with
  |none=>exact ⟨[],false,rfl,rfl,by simp,λh=>by cases h⟩
  |some w=>
   refine ⟨w,true,rfl,rfl,?_⟩;obtain ⟨k,hk,he⟩:=List.exists_of_findSome?_eq_some hfs;have hkl:k<W.length:=by simp at hk;omega
   rw [hf] at he;simp only at he;cases hg:aJu q n (cJ q n) (sP W k) with
   |false=>rw [hg] at he;cases he
   |true=>
    rw [hg] at he;cases he;rw [hlr hkl];exact ⟨(hw _ (List.getElem_mem hkl)).1,λ_=>⟨cJ q n,rfl,rfl,aBH H,(hw _ (List.getElem_mem hkl)).2⟩⟩
end
noncomputable section
set_option maxRecDepth 10000
set_option maxHeartbeats 4000000
end
noncomputable section
def aKM (m:Nat) (w:List Int):List Int:=(List.range m).map λ(b:Nat)=>((w.count (b:Int):Nat):Int)
theorem aOm {m:Nat} {w:List Int} {k:Nat} (hk:k<w.length) (h:0≤w[k]∧w[k]<m):cO (aKM m (w.take k)) w[k]=some (((w.take k).count w[k]:Nat):Int)∧(aKM m (w.take k)).set (w[k]).toNat ((((w.take k).count w[k]:Nat):Int)+1)=aKM m (w.take (k+1)):=by
 obtain ⟨t,ht⟩: ∃ t:Nat,w[k]=(t:Int):=⟨(w[k]).toNat,(Int.toNat_of_nonneg h.1).symm⟩;rw [ht] at h ⊢;refine ⟨zT (by omega),?_⟩;unfold aKM;rw [dH,aCV];refine kC λb hb=>?_;rw [aBy hk,List.count_append,ht,List.count_cons,List.count_nil];by_cases e:b=t
 ·subst e;simp
 ·rw [aW e,aW (by rw [beq_iff_eq];omega)];simp
theorem aOn (m:Nat) (f:Nat→Int) (h: ∀ b,b<m→f b=0):List.replicate m (0:Int)=(List.range m).map f:=by
 refine List.ext_getElem (by simp) λt h1 h2=>?_;rw [List.getElem_replicate,List.getElem_map,List.getElem_range,h t (by simpa using h1)]
end
noncomputable section
set_option maxRecDepth 10000
set_option maxHeartbeats 4000000
def pL (a0:Int) (a1:Qv) (a2:(List Int)):Option Bool:=
 bif decide (1048576<(a2.length:Int)) then
 (some (true))
 else
 ((aAM a1 1048576).bind λv2=>
 bif decide (v2<0) then
 (some (true))
 else
 ((lS a1).bind λv4=>
 (kG a2).bind λv5=>
 (tU a0 v4 v5).bind λv6=>
 (lS a1).bind λv7=>
 (kG a2).bind λv8=>
 (pF a0 v7 v8).bind λv9=>
 (uS v9.1 v6.1).bind λv10=>
 bif !v10 then
 (some (false))
 else
 (bif !(v9.2==v6.2) then
 (some (false))
 else
 ((lS a1).bind λv13=>
 (sH v7 v13).bind λv14=>
 bif !v14 then
 (some (false))
 else
 ((kG a2).bind λv16=>
 (pJ v8 v16).bind λv17=>
 bif !v17 then
 (some (false))
 else
 ((pC v7 1).bind λv19=>
 bif decide (v19.1.length=v7.src.length) then
 (bif decide (v19.2.1.length=v7.tgt.length) then
 ((jL v8 v19.2.2).bind λv22=>
 bif decide (v22.1.length=v8.length) then
 (bif decide (v22.2<0) then
 (some (false))
 else
 ((uS v9.1 v6.1).bind λv25=>
 bif !v25 then
 (some (false))
 else
 (bif !(v9.2==v6.2) then
 (some (false))
 else
 ((yK v9.1 1).bind λv28=>
 bif decide (v28.1.length=v9.1.q.src.length) then
 (bif decide (v28.2.1.length=v9.1.q.tgt.length) then
 (bif decide (v28.2.2.1.length=v9.1.dims.length) then
 (bif decide (v28.2.2.2.1.length=v9.1.maps.length) then
 ((qZ (⟨v9.1.p,(⟨v9.1.q.n,v28.1,v28.2.1⟩:Qv),v28.2.2.1,v28.2.2.2.1⟩:Rp) 1).bind λv33=>
 bif decide (v33<0) then
 (some (false))
 else
 (bif !decide (v33=v28.2.2.2.2) then
 (some (false))
 else
 ((lS a1).bind λv36=>
 (kG a2).bind λv37=>
 (pF a0 v36 v37).bind λv38=>
 (uS v38.1 v6.1).bind λv39=>
 bif !v39 then
 (some (false))
 else
 (bif !(v38.2==v6.2) then
 (some (false))
 else
 ((qZ (⟨v9.1.p,(⟨v9.1.q.n,v28.1,v28.2.1⟩:Qv),v28.2.2.1,v28.2.2.2.1⟩:Rp) 1).bind λv42=>
 bif decide (v42<0) then
 (some (false))
 else
 (bif !decide (v42=v28.2.2.2.2) then
 (some (false))
 else
 (some (true))))))))
 else none)
 else none)
 else none)
 else none))))
 else none)
 else none)
 else none))))))
theorem aBx (a0:Int) (a1:Qv) (a2:(List Int)) (r:Bool) (h:pL a0 a1 a2=some r):HasC Tryz.prog 5 [.int a0,.agg (eQ a1),.list 1 (a2.map eI)] (.bl r):=by
 refine aFd aD (rvs:=[.tmp 6]) (ns:=nmA) Tryz.func5 k k Tryz.ntmps5 k k k (λW=>?_);refine aIE<|aCM<|wC<|sZ (λw1_1 S1_1 r1_1=>?_);refine sZ (λw1_2 S1_2 r1_2=>?_);refine aAC<|aPM (λw2_0 S2_0 r2_0=>?_);refine aCL<|sS<|se (wb k) k<|gT k2<|sn<|tn<|sQ<|sS<|eV k2<|se (aEG aD r2_0 k k k) k<|cmS k4<|sn<|tn<|dR k h (λ_ h=>sS<|gT k2<|sn<|tn<|aJ<|aI<|kK h k2) λ_ h=>?_;refine aG<|tn<|sS<|gT k2<|sn<|tn<|sS<|zD k8<|eV k2<|oB h λv2 hv2 h=>se (oD (aHm a1 1048576 v2 hv2) k (fY (.inr (eG (tD k k) (eG (jN k r1_1) (eG (jN k r1_2) xU)))) (wkS k jO))) k<|gT k2<|sn<|tn<|sQ<|sS<|eV k2<|cmS k4<|sn<|tn<|dR k h (λ_ h=>sS<|gT k2<|sn<|tn<|aJ<|aI<|kK h k2) λ_ h=>?_;refine aG<|tn<|sS<|eV k2<|zD k8<|oB h λv4 hv4 h=>se (cQK (wR a1 v4 hv4) k3 (fY (.inr (eG (tD k k) (eG (jN k r1_1) (eG (jN k r1_2) xU)))) jO)) k<|eV k2<|oB h λv5 hv5 h=>se (cLK cP (sU a2 v5 hv5) k3 (wkD k r2_0 jO)) k<|oB h λv6 hv6 h=>se (AEff.conv (aAB (x:= .tuple [.agg [.int v6.1.p,.int v6.1.q.n,.own 4 0 (v6.1.q.src.map eI).length,.own 5 0 (v6.1.q.tgt.map eI).length,.own 6 0 (v6.1.dims.map eI).length,.own 7 0 (v6.1.maps.map eM).length],.bl v6.2]) (nb:=[(4,⟨1,cN (v6.1.q.src.map eI)⟩),(5,⟨1,cN (v6.1.q.tgt.map eI)⟩),(6,⟨1,cN (v6.1.dims.map eI)⟩),(7,⟨3,cN (v6.1.maps.map eM)⟩)]) (aGI a0 v4 v5 v6 hv6) k (by rfl) k k (fV (bZ aR (bZ aR (bZ (cP.good _) (bZ (cP.good _) (bZ (cP.good _) (bZ (cE.good _) tZ)))))) (fV aR vH)) (wkS k (fY (.inl (vaQ k4)) (wkT k k jO)))) (v':= .tuple [.agg [.int v6.1.p,.int v6.1.q.n,.own 4 0 v6.1.q.src.length,.own 5 0 v6.1.q.tgt.length,.own 6 0 v6.1.dims.length,.own 7 0 v6.1.maps.length],.bl v6.2]) (ed':=[(4,some ⟨1,v6.1.q.src.map (ow eI)⟩),(5,some ⟨1,v6.1.q.tgt.map (ow eI)⟩),(6,some ⟨1,v6.1.dims.map (ow eI)⟩),(7,some ⟨3,v6.1.maps.map (ow eM)⟩)]) (by simp only [aO]) (vO (nb':=[(4,⟨1,v6.1.q.src.map (ow eI)⟩),(5,⟨1,v6.1.q.tgt.map (ow eI)⟩),(6,⟨1,v6.1.dims.map (ow eI)⟩),(7,⟨3,v6.1.maps.map (ow eM)⟩)]) (by simp only [gA]))) k<|eV k2<|se (bD k k (by intro _ h;cases h)) k<|se (bD k k (by intro _ h;cases h)) k<|se (bX aD k k) k<|se (ws k) k<|gT k2<|sn<|tn<|aP (t:=mN [(0,.int a0),(2,.sc w2_0),(4,.ptr 0 0 0),(8,.ptr 8 0 0),(9,.bl v6.2)] [(0,⟨3,[[.int a1.n,.sc w1_1,.sc w1_2]]⟩),(4,⟨1,v6.1.q.src.map (ow eI)⟩),(5,⟨1,v6.1.q.tgt.map (ow eI)⟩),(6,⟨1,v6.1.dims.map (ow eI)⟩),(7,⟨3,v6.1.maps.map (ow eM)⟩),(8,⟨6,[oRp v6.1 4 5 6 7]⟩)] 9 ⟨0,true,rB W,true⟩) (bS (bK k2) (bN k<|bP k<|bP k<|bP k<|cD (cE.plainO _) k<|fF k<|aR) k4)<|sS<|zD k8<|oB h λv7 hv7 h=>se (cQK (wR a1 v7 hv7) k3 (fY (.inr (eG (tD k k) (eG (jN k r1_1) (eG (jN k r1_2) xU)))) jO)) k<|se (bX aD k k) k<|se (ws k) k<|sn<|tn<|sS ?_;refine eV k2<|oB h λv8 hv8 h=>se (cLK cP (sU a2 v8 hv8) k3 (wkD k r2_0 jO)) k<|gT k2<|sn<|tn<|sS<|eV k2<|zD k8<|eV k2<|oB h λv9 hv9 h=>se (AEff.conv (aAB (x:= .tuple [.agg [.int v9.1.p,.int v9.1.q.n,.own 13 0 (v9.1.q.src.map eI).length,.own 14 0 (v9.1.q.tgt.map eI).length,.own 15 0 (v9.1.dims.map eI).length,.own 16 0 (v9.1.maps.map eM).length],.bl v9.2]) (nb:=[(13,⟨1,cN (v9.1.q.src.map eI)⟩),(14,⟨1,cN (v9.1.q.tgt.map eI)⟩),(15,⟨1,cN (v9.1.dims.map eI)⟩),(16,⟨3,cN (v9.1.maps.map eM)⟩)]) (aBi a0 v7 v8 v9 hv9) k (by rfl) k k (fV (bZ aR (bZ aR (bZ (cP.good _) (bZ (cP.good _) (bZ (cP.good _) (bZ (cE.good _) tZ)))))) (fV aR vH)) (wkS k (fY (.inl (vaQ k4)) (wkT k k jO)))) (v':= .tuple [.agg [.int v9.1.p,.int v9.1.q.n,.own 13 0 v9.1.q.src.length,.own 14 0 v9.1.q.tgt.length,.own 15 0 v9.1.dims.length,.own 16 0 v9.1.maps.length],.bl v9.2]) (ed':=[(13,some ⟨1,v9.1.q.src.map (ow eI)⟩),(14,some ⟨1,v9.1.q.tgt.map (ow eI)⟩),(15,some ⟨1,v9.1.dims.map (ow eI)⟩),(16,some ⟨3,v9.1.maps.map (ow eM)⟩)]) (by simp only [aO]) (vO (nb':=[(13,⟨1,v9.1.q.src.map (ow eI)⟩),(14,⟨1,v9.1.q.tgt.map (ow eI)⟩),(15,⟨1,v9.1.dims.map (ow eI)⟩),(16,⟨3,v9.1.maps.map (ow eM)⟩)]) (by simp only [gA]))) k<|eV k2<|se (bD k k (by intro _ h;cases h)) k<|se (bD k k (by intro _ h;cases h)) k<|se (bX aD k k) k<|se (ws k) k<|gT k2<|sn<|tn<|sQ<|sS<|zD k8<|zD k8<|oB h λv10 hv10 h=>se (oD (aCm v9.1 v6.1 v10 hv10) k (fY (.inl (vaR k8)) (fY (.inl (vaR k8)) jO))) k<|se (dL k) k<|eV k2<|rA h (λq11 h=>iK 51 k q11<|cF k k<|cF k k<|cF k k<|pkS k3<|sn<|tn<|aP (t:=mN [(0,.int a0),(2,.sc w2_0),(4,.ptr 0 0 0),(8,.ptr 8 0 0),(9,.bl v6.2),(10,.ptr 11 0 0),(11,.own 12 0 v8.length),(12,.ptr 17 0 0),(13,.bl v9.2),(55,.bl true)] [(0,⟨3,[[.int a1.n,.sc w1_1,.sc w1_2]]⟩),(4,⟨1,v6.1.q.src.map (ow eI)⟩),(5,⟨1,v6.1.q.tgt.map (ow eI)⟩),(6,⟨1,v6.1.dims.map (ow eI)⟩),(7,⟨3,v6.1.maps.map (ow eM)⟩),(8,⟨6,[oRp v6.1 4 5 6 7]⟩),(9,⟨1,v7.src.map (ow eI)⟩),(10,⟨1,v7.tgt.map (ow eI)⟩),(11,⟨3,[oQv v7 9 10]⟩),(12,⟨1,v8.map (ow eI)⟩),(13,⟨1,v9.1.q.src.map (ow eI)⟩),(14,⟨1,v9.1.q.tgt.map (ow eI)⟩),(15,⟨1,v9.1.dims.map (ow eI)⟩),(16,⟨3,v9.1.maps.map (ow eM)⟩),(17,⟨6,[oRp v9.1 13 14 15 16]⟩)] 18 ⟨0,true,rB W,true⟩) (bS (bK k2) (bN k<|bP k<|bP k<|bP k<|cD (cE.plainO _) k<|fF k<|bP k<|bP k<|fF k<|bP k<|bP k<|bP k<|bP k<|cD (cE.plainO _) k<|fF k<|aR) k4)<|fG k k<|sS<|gT k2<|sn<|tn<|aJ<|aI<|kK h k2) λq11 h=>?_;refine iK 51 k q11<|eV k2<|eV k2<|se (aOy (by kernel_rfl) k k) k<|pkS k3<|sn<|tn<|aP (t:=mN [(0,.int a0),(2,.sc w2_0),(4,.ptr 0 0 0),(8,.ptr 8 0 0),(9,.bl v6.2),(10,.ptr 11 0 0),(11,.own 12 0 v8.length),(12,.ptr 17 0 0),(13,.bl v9.2),(55,.bl (!(v9.2==v6.2)))] [(0,⟨3,[[.int a1.n,.sc w1_1,.sc w1_2]]⟩),(4,⟨1,v6.1.q.src.map (ow eI)⟩),(5,⟨1,v6.1.q.tgt.map (ow eI)⟩),(6,⟨1,v6.1.dims.map (ow eI)⟩),(7,⟨3,v6.1.maps.map (ow eM)⟩),(8,⟨6,[oRp v6.1 4 5 6 7]⟩),(9,⟨1,v7.src.map (ow eI)⟩),(10,⟨1,v7.tgt.map (ow eI)⟩),(11,⟨3,[oQv v7 9 10]⟩),(12,⟨1,v8.map (ow eI)⟩),(13,⟨1,v9.1.q.src.map (ow eI)⟩),(14,⟨1,v9.1.q.tgt.map (ow eI)⟩),(15,⟨1,v9.1.dims.map (ow eI)⟩),(16,⟨3,v9.1.maps.map (ow eM)⟩),(17,⟨6,[oRp v9.1 13 14 15 16]⟩)] 18 ⟨0,true,rB W,true⟩) (bS (bK k2) (bN k<|bP k<|bP k<|bP k<|cD (cE.plainO _) k<|fF k<|bP k<|bP k<|fF k<|bP k<|bP k<|bP k<|bP k<|cD (cE.plainO _) k<|fF k<|aR) k4)<|dR k h (λ_ h=>sS<|gT k2<|sn<|tn<|aJ<|aI<|kK h k2) λ_ h=>?_;refine aG<|tn<|sQ<|sQ<|aN gD<|lp k8<|lp k8<|oB h λv13 hv13 h=>ae (cQK (wR a1 v13 hv13) k3 (fY (.inr (eG (tD k k) (eG (jN k r1_1) (eG (jN k r1_2) xU)))) jO)) k<|oB h λv14 hv14 h=>ae (oD (aDB v7 v13 v14 hv14) k (fY (.inl (vaQ k4)) (fY (.inl (vaQ k4)) jO))) k<|ae (dL k) k<|an<|rC (by kernel_rfl)<|tn<|dR k h (λ_ h=>sS<|gT k2<|sn<|tn<|aJ<|aI<|kK h k2) λ_ h=>?_;refine aG<|tn<|sQ<|sS<|eV k2<|eV k2<|oB h λv16 hv16 h=>se (cLK cP (sU a2 v16 hv16) k3 (wkD k r2_0 jO)) k<|oB h λv17 hv17 h=>se (oD (vU v8 v16 v17 hv17) k (wkT k k (wkT k k jO))) k<|se (dL k) k<|sn<|tn<|dR k h (λ_ h=>sS<|gT k2<|sn<|tn<|aJ<|aI<|kK h k2) λ_ h=>?_;refine aG<|tn<|sS<|gT k2<|sn<|tn<|sS<|zD k8<|eV k2<|oB h λv19 hv19 h=>se (kO (σ:=sg [(0,9),(1,10)]) (σ':=sg [(9,0),(10,1)]) (touch:=[9,10]) (news:=[]) (hl2:=[(9,⟨1,v19.1.map (ow eI)⟩),(10,⟨1,v19.2.1.map (ow eI)⟩)]) (n':=21) (r2:= .int v19.2.2) (aBh v7 1 v19 hv19) k k ⟨_,_,k,⟨_,_,k,k,⟨_,_,k,⟨k,k,k,k⟩,⟨_,_,k,⟨k,k,k,k⟩,k⟩⟩⟩,⟨_,_,k,k,k⟩⟩ ⟨⟨_,k,k,.inl ⟨k,cP.plainO _⟩⟩,k,⟨_,k,k,.inl ⟨k,cP.plainO _⟩⟩,k,aR⟩ k k k ⟨⟨_,k,k,.inl ⟨k,cP.plainO _⟩⟩,k,⟨_,k,k,.inl ⟨k,cP.plainO _⟩⟩,k,aR⟩ k k k ⟨k,cP.tame _ _,⟨k,cP.tame _ _,aR⟩⟩ k k) k<|cG h λq20 h=>cG h λq21 h=>gT k2<|sn<|tn<|sS<|eV k2<|eV k2<|oB h λv22 hv22 h=>se (kO (σ:=sg [(0,12)]) (σ':=sg [(12,0)]) (touch:=[12]) (news:=[]) (hl2:=[(12,⟨1,v22.1.map (ow eI)⟩)]) (n':=21) (r2:= .int v22.2) (sO v8 v19.2.2 v22 hv22) k k ⟨_,_,k,⟨k,k,k,k⟩,⟨_,_,k,k,k⟩⟩ ⟨⟨_,k,k,.inl ⟨k,cP.plainO _⟩⟩,k,aR⟩ k k k ⟨⟨_,k,k,.inl ⟨k,cP.plainO _⟩⟩,k,aR⟩ k k k ⟨k,cP.tame _ _,aR⟩ k k) k<|cG h λq23 h=>gT k2<|sn<|tn<|sQ<|sS<|eV k2<|cmS k4<|eV k2<|rA h (λq24 h=>iK 74 k q24<|cF k k<|cF k k<|cF k k<|cF k k<|pkS k3<|eV k2<|cF k k<|cF k k<|cF k k<|pkS k3<|sn<|tn<|aP (t:=mN [(0,.int a0),(2,.sc w2_0),(4,.ptr 0 0 0),(8,.ptr 8 0 0),(9,.bl v6.2),(12,.ptr 17 0 0),(84,.bl true)] [(0,⟨3,[[.int a1.n,.sc w1_1,.sc w1_2]]⟩),(4,⟨1,v6.1.q.src.map (ow eI)⟩),(5,⟨1,v6.1.q.tgt.map (ow eI)⟩),(6,⟨1,v6.1.dims.map (ow eI)⟩),(7,⟨3,v6.1.maps.map (ow eM)⟩),(8,⟨6,[oRp v6.1 4 5 6 7]⟩),(13,⟨1,v9.1.q.src.map (ow eI)⟩),(14,⟨1,v9.1.q.tgt.map (ow eI)⟩),(15,⟨1,v9.1.dims.map (ow eI)⟩),(16,⟨3,v9.1.maps.map (ow eM)⟩),(17,⟨6,[oRp v9.1 13 14 15 16]⟩)] 21 ⟨0,true,rB W,true⟩) (bS (bK k2) (bN k<|bP k<|bP k<|bP k<|cD (cE.plainO _) k<|fF k<|bP k<|bP k<|bP k<|cD (cE.plainO _) k<|fF k<|aR) k4)<|fG k k<|sS<|gT k2<|sn<|tn<|aJ<|aI<|kK h k2) λq24 h=>?_;refine iK 74 k q24<|zD k8<|zD k8<|oB h λv25 hv25 h=>se (oD (aCm v9.1 v6.1 v25 hv25) k (fY (.inl (vaR k8)) (fY (.inl (vaR k8)) jO))) k<|se (dL k) k<|pkS k3<|eV k2<|rA h (λq26 h=>iK 80 k q26<|cF k k<|cF k k<|cF k k<|pkS k3<|sn<|tn<|aP (t:=mN [(0,.int a0),(2,.sc w2_0),(4,.ptr 0 0 0),(8,.ptr 8 0 0),(9,.bl v6.2),(12,.ptr 17 0 0),(84,.bl true)] [(0,⟨3,[[.int a1.n,.sc w1_1,.sc w1_2]]⟩),(4,⟨1,v6.1.q.src.map (ow eI)⟩),(5,⟨1,v6.1.q.tgt.map (ow eI)⟩),(6,⟨1,v6.1.dims.map (ow eI)⟩),(7,⟨3,v6.1.maps.map (ow eM)⟩),(8,⟨6,[oRp v6.1 4 5 6 7]⟩),(13,⟨1,v9.1.q.src.map (ow eI)⟩),(14,⟨1,v9.1.q.tgt.map (ow eI)⟩),(15,⟨1,v9.1.dims.map (ow eI)⟩),(16,⟨3,v9.1.maps.map (ow eM)⟩),(17,⟨6,[oRp v9.1 13 14 15 16]⟩)] 21 ⟨0,true,rB W,true⟩) (bS (bK k2) (bN k<|bP k<|bP k<|bP k<|cD (cE.plainO _) k<|fF k<|bP k<|bP k<|bP k<|cD (cE.plainO _) k<|fF k<|aR) k4)<|fG k k<|sS<|gT k2<|sn<|tn<|aJ<|aI<|kK h k2) λq26 h=>?_;refine iK 80 k q26<|eV k2<|eV k2<|se (aOy (by kernel_rfl) k k) k<|pkS k3<|sn<|tn<|aP (t:=mN [(0,.int a0),(2,.sc w2_0),(4,.ptr 0 0 0),(8,.ptr 8 0 0),(9,.bl v6.2),(12,.ptr 17 0 0),(84,.bl (!(v9.2==v6.2)))] [(0,⟨3,[[.int a1.n,.sc w1_1,.sc w1_2]]⟩),(4,⟨1,v6.1.q.src.map (ow eI)⟩),(5,⟨1,v6.1.q.tgt.map (ow eI)⟩),(6,⟨1,v6.1.dims.map (ow eI)⟩),(7,⟨3,v6.1.maps.map (ow eM)⟩),(8,⟨6,[oRp v6.1 4 5 6 7]⟩),(13,⟨1,v9.1.q.src.map (ow eI)⟩),(14,⟨1,v9.1.q.tgt.map (ow eI)⟩),(15,⟨1,v9.1.dims.map (ow eI)⟩),(16,⟨3,v9.1.maps.map (ow eM)⟩),(17,⟨6,[oRp v9.1 13 14 15 16]⟩)] 21 ⟨0,true,rB W,true⟩) (bS (bK k2) (bN k<|bP k<|bP k<|bP k<|cD (cE.plainO _) k<|fF k<|bP k<|bP k<|bP k<|cD (cE.plainO _) k<|fF k<|aR) k4)<|dR k h (λ_ h=>sS<|gT k2<|sn<|tn<|aJ<|aI<|kK h k2) λ_ h=>?_;refine aG<|tn<|sS<|gT k2<|sn<|tn<|sS<|zD k8<|eV k2<|oB h λv28 hv28 h=>iJ (t:=mN [(0,.int a0),(2,.sc w2_0),(4,.ptr 0 0 0),(8,.ptr 8 0 0),(9,.bl v6.2),(12,.ptr 17 0 0),(15,.int 1),(84,.bl (!(v9.2==v6.2))),(85,.agg (oRp v9.1 13 14 15 16)),(86,.int 1)] [(0,⟨3,[[.int a1.n,.sc w1_1,.sc w1_2]]⟩),(4,⟨1,v6.1.q.src.map (ow eI)⟩),(5,⟨1,v6.1.q.tgt.map (ow eI)⟩),(6,⟨1,v6.1.dims.map (ow eI)⟩),(7,⟨3,v6.1.maps.map (ow eM)⟩),(8,⟨6,[oRp v6.1 4 5 6 7]⟩),(13,⟨1,v9.1.q.src.map (ow eI)⟩),(14,⟨1,v9.1.q.tgt.map (ow eI)⟩),(15,⟨1,v9.1.dims.map (ow eI)⟩),(16,⟨3,v9.1.maps.map (ow eM)⟩),(17,⟨6,[oRp v9.1 13 14 15 16]⟩)] 21 ⟨0,true,rB W,true⟩) (bS (bK k2) (bN k<|bP k<|bP k<|bP k<|cD (cE.plainO _) k<|fF k<|bP k<|bP k<|bP k<|cD (cE.plainO _) k<|fF k<|aR) k4)<|aTD (σ:=sg [(0,13),(1,14),(2,15),(3,16)]) (σ':=sg [(13,0),(14,1),(15,2),(16,3)]) (touch:=[13,14,15,16]) (news:=[]) (hl2:=[(13,⟨1,v28.1.map (ow eI)⟩),(14,⟨1,v28.2.1.map (ow eI)⟩),(15,⟨1,v28.2.2.1.map (ow eI)⟩),(16,⟨3,v28.2.2.2.1.map (ow eM)⟩)]) (n':=21) (r2:= .int v28.2.2.2.2) (aJp v9.1 1 v28 hv28) k k ⟨_,_,k,⟨_,_,k,k,⟨_,_,k,k,⟨_,_,k,⟨k,k,k,k⟩,⟨_,_,k,⟨k,k,k,k⟩,⟨_,_,k,⟨k,k,k,k⟩,⟨_,_,k,⟨k,k,k,k⟩,k⟩⟩⟩⟩⟩⟩,⟨_,_,k,k,k⟩⟩ ⟨⟨_,k,k,.inl ⟨k,cP.plainO _⟩⟩,k,⟨_,k,k,.inl ⟨k,cP.plainO _⟩⟩,k,⟨_,k,k,.inl ⟨k,cP.plainO _⟩⟩,k,⟨_,k,k,.inl ⟨k,cE.plainO _⟩⟩,k,aR⟩ k k k ⟨⟨_,k,k,.inl ⟨k,cP.plainO _⟩⟩,k,⟨_,k,k,.inl ⟨k,cP.plainO _⟩⟩,k,⟨_,k,k,.inl ⟨k,cP.plainO _⟩⟩,k,⟨_,k,k,.inl ⟨k,cE.plainO _⟩⟩,k,aR⟩ k k k ⟨k,cP.tame _ _,⟨k,cP.tame _ _,⟨k,cP.tame _ _,⟨k,cE.tame _ _,aR⟩⟩⟩⟩ k k k k k (aBm ⟨k,k,k,k,k,k,k,k,k,k,aR⟩) (aBn (skip:=[13,14,15,16]) ⟨.inr (vI k),.inr (cP.df _ _),.inr (cP.df _ _),.inr (cP.df _ _),.inr (cE.df _ _),.inr (vI k),.inl (by decide),.inl (by decide),.inl (by decide),.inl (by decide),.inr (vI k),aR⟩)<|cG h λq29 h=>cG h λq30 h=>cG h λq31 h=>cG h λq32 h=>gT k2<|sn<|tn<|sS<|gT k2<|sn<|tn<|sS<|zD k8<|eV k2<|oB h λv33 hv33 h=>se (oD (aDk (⟨v9.1.p,(⟨v9.1.q.n,v28.1,v28.2.1⟩:Qv),v28.2.2.1,v28.2.2.2.1⟩:Rp) 1 v33 hv33) k (fY (.inl (aDs (gN (tC k) (gN (tC k) (gN (aAu cP k (by first|rfl|simp only [List.length_set,of_decide_eq_true q29])) (gN (aAu cP k (by first|rfl|simp only [List.length_set,of_decide_eq_true q30])) (gN (aAu cP k (by first|rfl|simp only [List.length_set,of_decide_eq_true q31])) (gN (aAu cE k (by first|rfl|simp only [List.length_set,of_decide_eq_true q32])) aCi)))))))) (wkS k jO))) k<|gT k2<|sn<|tn ?_;refine sQ<|sS<|eV k2<|cmS k4<|sn<|tn<|dR k h (λ_ h=>sS<|gT k2<|sn<|tn<|aJ<|aI<|kK h k2) λ_ h=>?_;refine aG<|tn<|sQ<|sS<|eV k2<|eV k2<|cmS k4<|sn<|tn<|dR k h (λ_ h=>sS<|gT k2<|sn<|tn<|aJ<|aI<|kK h k2) λ_ h=>?_;refine aG<|tn<|sS<|eV k2<|zD k8<|oB h λv36 hv36 h=>se (cQK (wR a1 v36 hv36) k3 (fY (.inr (eG (tD k k) (eG (jN k r1_1) (eG (jN k r1_2) xU)))) jO)) k<|eV k2<|oB h λv37 hv37 h=>se (cLK cP (sU a2 v37 hv37) k3 (wkD k r2_0 jO)) k<|oB h λv38 hv38 h=>se (AEff.conv (aAB (x:= .tuple [.agg [.int v38.1.p,.int v38.1.q.n,.own 24 0 (v38.1.q.src.map eI).length,.own 25 0 (v38.1.q.tgt.map eI).length,.own 26 0 (v38.1.dims.map eI).length,.own 27 0 (v38.1.maps.map eM).length],.bl v38.2]) (nb:=[(24,⟨1,cN (v38.1.q.src.map eI)⟩),(25,⟨1,cN (v38.1.q.tgt.map eI)⟩),(26,⟨1,cN (v38.1.dims.map eI)⟩),(27,⟨3,cN (v38.1.maps.map eM)⟩)]) (aBi a0 v36 v37 v38 hv38) k (by rfl) k k (fV (bZ aR (bZ aR (bZ (cP.good _) (bZ (cP.good _) (bZ (cP.good _) (bZ (cE.good _) tZ)))))) (fV aR vH)) (wkS k (fY (.inl (vaQ k4)) (wkT k k jO)))) (v':= .tuple [.agg [.int v38.1.p,.int v38.1.q.n,.own 24 0 v38.1.q.src.length,.own 25 0 v38.1.q.tgt.length,.own 26 0 v38.1.dims.length,.own 27 0 v38.1.maps.length],.bl v38.2]) (ed':=[(24,some ⟨1,v38.1.q.src.map (ow eI)⟩),(25,some ⟨1,v38.1.q.tgt.map (ow eI)⟩),(26,some ⟨1,v38.1.dims.map (ow eI)⟩),(27,some ⟨3,v38.1.maps.map (ow eM)⟩)]) (by simp only [aO]) (vO (nb':=[(24,⟨1,v38.1.q.src.map (ow eI)⟩),(25,⟨1,v38.1.q.tgt.map (ow eI)⟩),(26,⟨1,v38.1.dims.map (ow eI)⟩),(27,⟨3,v38.1.maps.map (ow eM)⟩)]) (by simp only [gA]))) k<|eV k2<|se (bD k k (by intro _ h;cases h)) k<|se (bD k k (by intro _ h;cases h)) k<|se (bX aD k k) k<|se (ws k) k<|gT k2<|sn<|tn<|sQ<|sS<|zD k8<|zD k8<|oB h λv39 hv39 h=>se (oD (aCm v38.1 v6.1 v39 hv39) k (fY (.inl (vaR k8)) (fY (.inl (vaR k8)) jO))) k<|se (dL k) k<|eV k2<|rA h (λq40 h=>iK 109 k q40<|cF k k<|cF k k<|cF k k<|pkS k3<|sn<|tn<|aP (t:=mN [(12,.ptr 17 0 0),(15,.int v28.2.2.2.2),(113,.bl true)] [(13,⟨1,v28.1.map (ow eI)⟩),(14,⟨1,v28.2.1.map (ow eI)⟩),(15,⟨1,v28.2.2.1.map (ow eI)⟩),(16,⟨3,v28.2.2.2.1.map (ow eM)⟩),(17,⟨6,[[.int v9.1.p,.int v9.1.q.n,.own 13 0 v28.1.length,.own 14 0 v28.2.1.length,.own 15 0 v28.2.2.1.length,.own 16 0 v28.2.2.2.1.length]]⟩)] 29 ⟨0,true,rB W,true⟩) (bS (bK k2) (bP k<|bP k<|bP k<|cD (cE.plainO _) k<|hX ⟨_,k,k,.inr ⟨_,_,k,⟨_,_,k,k,⟨_,_,k,k,⟨_,_,k,⟨k,k,(by simp only [aO,lA,lT,lR,lC,lN,of_decide_eq_true q29]),k⟩,⟨_,_,k,⟨k,k,(by simp only [aO,lA,lT,lR,lC,lN,of_decide_eq_true q30]),k⟩,⟨_,_,k,⟨k,k,(by simp only [aO,lA,lT,lR,lC,lN,of_decide_eq_true q31]),k⟩,⟨_,_,k,⟨k,k,(by simp only [aO,lA,lT,lR,lC,lN,of_decide_eq_true q32]),k⟩,k⟩⟩⟩⟩⟩⟩,k⟩⟩ k<|aR) k4)<|fG k k<|sS<|gT k2<|sn<|tn<|aJ<|aI<|kK h k2) λq40 h=>?_;exact iK 109 k q40<|eV k2<|eV k2<|se (aOy (by kernel_rfl) k k) k<|pkS k3<|sn<|tn<|aP (t:=mN [(12,.ptr 17 0 0),(15,.int v28.2.2.2.2),(113,.bl (!(v38.2==v6.2)))] [(13,⟨1,v28.1.map (ow eI)⟩),(14,⟨1,v28.2.1.map (ow eI)⟩),(15,⟨1,v28.2.2.1.map (ow eI)⟩),(16,⟨3,v28.2.2.2.1.map (ow eM)⟩),(17,⟨6,[[.int v9.1.p,.int v9.1.q.n,.own 13 0 v28.1.length,.own 14 0 v28.2.1.length,.own 15 0 v28.2.2.1.length,.own 16 0 v28.2.2.2.1.length]]⟩)] 29 ⟨0,true,rB W,true⟩) (bS (bK k2) (bP k<|bP k<|bP k<|cD (cE.plainO _) k<|hX ⟨_,k,k,.inr ⟨_,_,k,⟨_,_,k,k,⟨_,_,k,k,⟨_,_,k,⟨k,k,(by simp only [aO,lA,lT,lR,lC,lN,of_decide_eq_true q29]),k⟩,⟨_,_,k,⟨k,k,(by simp only [aO,lA,lT,lR,lC,lN,of_decide_eq_true q30]),k⟩,⟨_,_,k,⟨k,k,(by simp only [aO,lA,lT,lR,lC,lN,of_decide_eq_true q31]),k⟩,⟨_,_,k,⟨k,k,(by simp only [aO,lA,lT,lR,lC,lN,of_decide_eq_true q32]),k⟩,k⟩⟩⟩⟩⟩⟩,k⟩⟩ k<|aR) k4)<|dR k h (λ_ h=>sS<|gT k2<|sn<|tn<|aJ<|aI<|kK h k2) λ_ h=>aG<|tn<|sS<|gT k2<|sn<|tn<|sS<|zD k8<|eV k2<|oB h λv42 hv42 h=>se (oD (aDk (⟨v9.1.p,(⟨v9.1.q.n,v28.1,v28.2.1⟩:Qv),v28.2.2.1,v28.2.2.2.1⟩:Rp) 1 v42 hv42) k (fY (.inl (aDs (gN (tC k) (gN (tC k) (gN (aAu cP k (by first|rfl|simp only [List.length_set,of_decide_eq_true q29])) (gN (aAu cP k (by first|rfl|simp only [List.length_set,of_decide_eq_true q30])) (gN (aAu cP k (by first|rfl|simp only [List.length_set,of_decide_eq_true q31])) (gN (aAu cE k (by first|rfl|simp only [List.length_set,of_decide_eq_true q32])) aCi)))))))) (wkS k jO))) k<|gT k2<|sn<|tn<|sQ<|sS<|eV k2<|cmS k4<|sn<|tn<|dR k h (λ_ h=>sS<|gT k2<|sn<|tn<|aJ<|aI<|kK h k2) λ_ h=>aG<|tn<|sQ<|sS<|eV k2<|eV k2<|cmS k4<|sn<|tn<|dR k h (λ_ h=>sS<|gT k2<|sn<|tn<|aJ<|aI<|kK h k2) λ_ h=>aG<|tn<|sS<|gT k2<|sn<|tn<|aJ<|kK h k2
end
noncomputable section
theorem aXw {m:Nat} {v1:List Int×Bool} (hl:v1.1.length≤1000) (hw: ∀ a∈v1.1,0≤a∧a<(m:Int)):Lp (lB v1) (List.replicate m 0,0)=some (aKM m v1.1):=by
 refine dQ (λk=>(aKM m (v1.1.take k),(k:Int))) v1.1.length ?_ (λk hk=>?_) (λ_=>?_)
 ·rw [List.take_zero];exact Prod.ext (aOn _ _ λb hb=>by simp) rfl
 ·obtain ⟨c1,c2⟩:=aOm hk (hw _ (List.getElem_mem hk));have hc:(v1.1.take k).count v1.1[k]≤1000:=Nat.le_trans List.count_le_length (by rw [List.length_take];omega);unfold lB;simp only;rw [iE hk,aM];simp only [dJ hk,aC,c1];rw [cY (by omega),c2,bU hk (by omega)]
 ·unfold lB;simp only;rw [iT (bO _),aX,List.take_length]
theorem aXx {m:Nat} {v1:List Int×Bool} (hl:v1.1.length≤1000) (hw: ∀ a∈v1.1,0≤a∧a<(m:Int)):Lp (lD v1) (List.replicate m 0,0)=some (aKM m v1.1):=by
 refine dQ (λk=>(aKM m (v1.1.take k),(k:Int))) v1.1.length ?_ (λk hk=>?_) (λ_=>?_)
 ·rw [List.take_zero];exact Prod.ext (aOn _ _ λb hb=>by simp) rfl
 ·obtain ⟨c1,c2⟩:=aOm hk (hw _ (List.getElem_mem hk));have hc:(v1.1.take k).count v1.1[k]≤1000:=Nat.le_trans List.count_le_length (by rw [List.length_take];omega);unfold lD;simp only;rw [iE hk,aM];simp only [dJ hk,aC,c1];rw [cY (by omega),c2,bU hk (by omega)]
 ·unfold lD;simp only;rw [iT (bO _),aX,List.take_length]
theorem aUa (p:Int) {q:Qv} (hb:bQ q) {x:List Int} (hx:bI x): ∃ r b,pF p q x=some (r,b)∧tU p q x=some (r,b)∧bR r∧True:=by
 have hE:bR emR:=by refine ⟨⟨?_,?_,trivial⟩,?_,⟨?_,?_⟩,trivial⟩ <;> simp [emR,bI]
 obtain ⟨w,b,h1,h2,h3,h4⟩:=aSX hb hx;obtain ⟨L,c,k1,k2,k3⟩:=aLS hb;unfold pF tU;rw [h1,h2,k1,k2];simp only [aC];cases b with
 |false=>exact ⟨emR,false,rfl,rfl,hE,trivial⟩
 |true=>
  obtain ⟨R,g1,g2,g3,g4⟩:=h4 rfl;rw [k1] at g1;cases g1;simp only [gO,aX];have hI:=aXw (m:=L.length) (v1:=(w,true)) h3 g4;have hS:=aXx (m:=L.length) (v1:=(w,true)) h3 g4;rw [bG (by omega),bG (by omega)];simp only [Bool.and_self,aM,dH];rw [hI,hS,aC,aC,aEA,aC];obtain ⟨r,b2,e1,e2,e3,e4⟩:=aOj p hb (m:=aKM L.length w) (by simp [aKM,bI];omega);rw [e1,e2];simp only [aC];rcases e4 with ⟨rfl,rfl⟩|⟨rfl,hF⟩
  ·cases isF p
   ·exact ⟨emR,false,rfl,rfl,hE,trivial⟩
   ·exact ⟨emR,false,rfl,rfl,hE,trivial⟩
  ·rw [hF];exact ⟨r,true,rfl,rfl,e3,trivial⟩
theorem aHI {p:Int} {q:Qv} {m:List Int} (fq:fQ q) (fm:fI m):pL p q m=some true:=by
 unfold pL;by_cases c1:m.length≤1048576
 ·rw [eB (by omega),aX,aYM fq (by decide) (by decide),aC];rcases aUt q 1048576 (by decide) (by decide) with e|⟨e1,e2,hb⟩
  ·rw [e];rfl
  ·rw [eB (by omega),aX];have hx:bI m:=c1;obtain ⟨r,b,h1,h2,h3,_⟩:=aUa p hb (x:=m) hx;have hnR:=aXp h3;have hl:=h3.2.2.1.1;have hq1:q.src.length≤1048576:=hb.1;have hq2:q.tgt.length≤1048576:=hb.2.1;have hnq:nQ q≤2097152:=by unfold nQ;rw [aBv,aBv];omega
   have hnx:nI m≤1048576:=by rw [aBv];exact c1
   obtain ⟨g1,g2,g3,g4⟩:=aVY 1 r;simp only [aYN hb,aWK hx,aC,h1,h2,aYP h3,aTI hx,aXX hb,decide_true,beq_self_eq_true,gO,aX];rw [aXm (by decide) (by omega),aC];simp only [mvQ,yL,decide_true,aM];rw [aUJ (by omega) (by omega),aC];simp only [yL,decide_true,aM];rw [eB (by omega),aX,aYY (by decide) (by omega) (by omega),aC];simp only [g1,g2,g3,g4,decide_true,aM];have hh:qZ (⟨r.p,⟨r.q.n,(mvR 1 r).q.src,(mvR 1 r).q.tgt⟩,(mvR 1 r).dims,(mvR 1 r).maps⟩:Rp) 1=some ((1:Int)+(nR r:Int)):=aYZ (by decide) (by omega) (by omega);rw [hh,aC,aC];simp only [aPs (show (0:Int)≤1 by decide),decide_true,gO,aX]
 ·rw [bG (by omega),aM]
end
end Go.Proofs.YtilpfdokmlanjaaGreat

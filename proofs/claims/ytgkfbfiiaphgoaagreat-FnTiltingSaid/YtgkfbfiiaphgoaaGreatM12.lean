/- Several texts. -/
import Derived.Shelf.Bits.Mul64
import Derived.Test.YtgkfbfiiaphgoaaGreatM11
set_option linter.unusedVariables false
set_option linter.unusedSimpArgs false
set_option maxRecDepth 10000
namespace Go.Proofs.YtgkfbfiiaphgoaaGreat
open Go.RowKit
section
theorem aHv {w:World} {h:Hp} {u:Us} {ν:Nu} : ∀ {x:aA} {vs:List Value} {S:List Nat},CellsRep w h u ν (x.map (ow eI)).flatten vs S->vs=x.map (Value.int .i64)
 | [],vs,S,h=>h.1
 |z::x,vs,S,h=>by
  simp only [List.map_cons,List.flatten_cons] at h;obtain ⟨v,r,S1,S2,rfl,rfl,h3,h4⟩:=h;have h5:v=Value.int .i64 z:=h3.1.1;rw [h5,aHv h4];rfl
theorem aUe {w:World} {h:Hp} {u:Us} {ν:Nu} : ∀ {x:aA} {vs:List Value},All2 (Rep1 w h u ν) (x.map eI).flatten vs->vs=x.map (Value.int .i64)
 | [],vs,h=>h
 |z::x,vs,h=>by
  simp only [List.map_cons,List.flatten_cons] at h;obtain ⟨v,r,rfl,h3,h4⟩:=h;have h5:v=Value.int .i64 z:=h3.1;rw [h5,aUe h4];rfl
theorem aHw {w:World} {h:Hp} {u:Us} {ν:Nu} : ∀ {x:aA},CellsRep w h u ν (x.map (ow eI)).flatten (x.map (Value.int .i64)) []
 | []=>⟨rfl,rfl⟩
 |z::x=>⟨_,_,[],[],rfl,rfl,⟨⟨rfl,rfl⟩,rfl⟩,aHw⟩
theorem aRL {hp:Hp} {x:aA} :(x.map eI).flatten.all (okCell hp)=true:=by
 rw [List.all_eq_true];intro c hc;obtain ⟨cs,hcs,hc⟩:=List.mem_flatten.1 hc;obtain ⟨z,_,rfl⟩:=List.mem_map.1 hcs;simp only [eI,List.mem_singleton] at hc;subst hc;rfl
theorem aUf {P:Program} {T:List (Nat×Ty)} (hT:TyOk P T) {dst:Option Tmp} {dty:TypeId} {pos:String} {aft:Array Edge} {g:Option (Nat×Bool)} {s:AState} {xd xs:Operand} {t et:Nat} {y ye:Ty} {b i nd:Nat} {l m:aA} {sv:AV} {ts:List Nat}
  (hin:i<l.length) (hm:0<m.length) (hx:s.ev xd=some (.own b i nd)) (hb:s.heap b=some ⟨1,l.map (ow eI)⟩) (hz:s.ev xs=some sv) (hsrc:xN s.heap sv=some (1,m.map eI,ts)) (hy:dY T t=some y) (hd:y.desc= .slice et) (hye:dY T et=some ye) (hk1:ye.size=1):
  AEff P ⟨dst,.call ⟨.builtin .copy,#[xd,xs],#[t,t]⟩,dty,pos,aft,g⟩ s.ev s.heap s.kp ⟨.int (min m.length nd:Nat),b::ts,[(b,some ⟨1,(l.take i++m.take (min m.length nd)++l.drop (i+min m.length nd)).map (ow eI)⟩)],[]⟩:=by
 refine ⟨λC s' ν a w Q K {hκ} hi' ht hnw hd' hs hK=>?_⟩;have h1:=hs.ev ((hi' xd (by simp [Op.operands,Call.operands])).trans hx);have h2:=hs.ev ((hi' xs (by simp [Op.operands,Call.operands])).trans hz);have hb':s'.heap b=some ⟨1,l.map (ow eI)⟩:=(ht b (by simp)).trans hb;obtain ⟨ao,c0,vs,e1,e2,e3,e4,e5⟩:=hs.src h2 hsrc (λb hb=>ht b (by simp [hb])) aRL;have hvs:=aUe e4;simp only [RepA,RepB,Rep1] at h1;obtain ⟨hfit,hnn,hsl⟩:=h1.2 _ hb';obtain ⟨φ,hh⟩:=hs.heap;obtain ⟨hub,⟨hk,hx2⟩,hnd,hB⟩:=hh.blk b _ hb';simp only [fE] at hfit;rcases hx2 with ⟨q1,q2,_⟩|⟨β,c,arr,ty',T',vs',q1,q2,q3,q4,q5,q6,q7,q8⟩
 ·have:l=[]:=by simpa using q2
  rw [this] at hin;simp at hin
 simp only [fE,Nat.mul_one] at q3 q4 q7;have hT':=aFL q8;have hv':=aHv q8;subst hT';have hsl':=(hsl β c q1).pos (by omega);simp only [Nat.mul_one] at hsl';obtain ⟨k,hk0⟩: ∃ k,k=min m.length nd:=⟨_,rfl⟩;rw [←hk0] at hK;have hkm:k<=m.length:=by omega
 have hkn:k<=nd:=by omega
 obtain ⟨i1,z1,d1,y1⟩:=hT.is hy;obtain ⟨i2,z2,d2,y2⟩:=hT.is hye
 obtain ⟨ad,rfl,e6⟩: ∃ ad,ao=some ad/\ ∀ j u,vs[j]? =some u->w.cell? (ad.add j)=some u:=by
  rcases e5 with h|h
  ·rw [fE] at h;omega
  ·exact h
 have hcl:((m.take k).map (Value.int .i64)).length=k:=by simp;omega
 have hrun:=run_copy_row (P:=P) w t t dty et β i nd (c - i) ad (m.map eI).length c0 arr ty' ((m.take k).map (Value.int .i64)) (y1.slice hd) (by rw [y2.info];simp [y2.size,hk1]) q2 (by rw [hcl,fE,hk0])
  (λj v hj=>e6 j v (by
   rw [hvs];have hjk:j<k:=by have:=(List.getElem?_eq_some_iff.1 hj).1;omega
   rw [List.map_take,List.getElem?_take_of_lt hjk] at hj
   exact hj)) (by omega) (λv hv=>by obtain ⟨z,_,rfl⟩:=List.mem_map.1 hv;rfl)
 rw [hcl] at hrun;generalize hw':w.setRow β (arr.toList.take i++(m.take k).map (Value.int .i64)++arr.toList.drop (i+k)).toArray=w' at hrun
 have hexec:(execOp a.eval ⟨dst,.call ⟨.builtin .copy,#[xd,xs],#[t,t]⟩,dty,pos,aft,g⟩).run P w= .ok (.value (.int .i64 k)) w':=by
  have h0:execOp a.eval ⟨dst,.call ⟨.builtin .copy,#[xd,xs],#[t,t]⟩,dty,pos,aft,g⟩=(do let v ←Builtin.copy_ #[t,t] dty #[a.eval xd,a.eval xs];pure (.value v):Sem Next):=by
   simp [execOp,resolve,invoke,builtin]
  rw [h0,hsl',e1,Sem.run_bind,hrun];simp [goInt]
 unfold Oper.wp;rw [hexec];simp only [Oper.upon];have hothers: ∀ x,x≠β->w'.heap[x]? =w.heap[x]? :=λx hx=>by rw [←hw'];exact tU hx
 have hβ:w'.heap[β]? =some (.cells (arr.toList.take i++(m.take k).map (Value.int .i64)++arr.toList.drop (i+k)).toArray ty' (0,0)):=by rw [←hw'];exact setRow_heap w β arr _ ty' (0,0) q2
 have hll:(l.take i++m.take k++l.drop (i+k)).length=l.length:=by simp;omega
 have ext:Ext w s'.heap s'.used ν w' (bF [(b,some ⟨1,(l.take i++m.take k++l.drop (i+k)).map (ow eI)⟩)] s'.heap) s'.used ν:=by
  refine ⟨λ_ h=>h,λb2 blk2 _ hb2=>?_,λx hx hf=>⟨hothers x (λe=>hf b _ β c hb' q1 e.symm),λb2 blk2 β2 c2 hb2 hν2=>?_⟩,rfl⟩
  ·by_cases e:b2=b
   ·subst e;simp only [bF,bZ,aJ,Option.some.injEq] at hb2;subst hb2;exact ⟨_,hb',rfl,by simp only [fE];exact hll.symm,rfl⟩
   ·simp only [bF,cE e,aY] at hb2;exact ⟨blk2,hb2,rfl,rfl,rfl⟩
  ·by_cases e:b2=b
   ·subst e;exact hf b2 _ β2 c2 hb' hν2
   ·simp only [bF,cE e,aY] at hb2;exact hf b2 blk2 β2 c2 hb2 hν2
 refine hK ν _ _ (hs.step (x:= .int (k:Nat)) (v:= .int .i64 k) hd' (s':=s'.app dst _) (by exact ext) (by rw [←hw'];exact aAW (C.low _ (hB β (by rw [q6];simp)))) ⟨φ,?_,?_⟩ rfl (rP rfl))
 ·intro x blk2 hx2;by_cases e:x=b
  ·subst e;simp only [AState.app,bF,bZ,aJ,Option.some.injEq] at hx2;subst hx2;refine ⟨hub,⟨?_,.inr ⟨β,c,_,ty',[],_,q1,hβ,?_,by simp only [fE];omega,q5,q6,rfl,?_⟩⟩,hnd,hB⟩
   ·intro cs hcs;obtain ⟨z,_,rfl⟩:=List.mem_map.1 hcs;rfl
   ·simp;omega
   ·have harr:arr.toList.take l.length=l.map (Value.int .i64):=by rw [q7,hv']
    have h5:(arr.toList.take i++(m.take k).map (Value.int .i64)++arr.toList.drop (i+k)).toArray.toList.take ((l.take i++m.take k++l.drop (i+k)).map (ow eI)).length=(l.take i++m.take k++l.drop (i+k)).map (Value.int .i64):=by
     rw [fE,hll];simp only [List.map_append,List.map_take,List.map_drop,←harr];have hal:arr.toList.length=c:=by simpa using q3
     rw [List.take_append,List.take_append,List.take_take,List.take_take];simp only [List.length_append,List.length_take,fE,hal,List.take_drop];rw [show min i c=i by omega,show min (l.length - i) k=k by omega,show i+k+(l.length - (i+min k m.length))=l.length by omega,List.take_take];simp only [show min l.length i=i by omega,show min i l.length=i by omega]
    rw [Nat.mul_one,h5];exact aHw
  ·simp only [AState.app,bF,cE e,aY] at hx2;obtain ⟨p1,p2,p3,p4⟩:=hh.blk x blk2 hx2;refine ⟨p1,p2.ext ext rfl (λy hy=>hothers y ?_),p3,p4⟩;rintro rfl;exact hh.apart x b y (by rw [hx2];simp) (by rw [hb'];simp) e hy (by rw [q6];simp)
 ·intro x1 x2 yy hx1 hx2 hne hy1 hy2
  have hlive: ∀ x,(s'.app dst ⟨.int (k:Nat),b::ts,[(b,some ⟨1,(l.take i++m.take k++l.drop (i+k)).map (ow eI)⟩)],[]⟩).heap x≠none->s'.heap x≠none:=by
   intro x hx;by_cases e:x=b
   ·subst e;rw [hb'];simp
   ·simpa only [AState.app,bF,cE e,aY] using hx
  exact hh.apart x1 x2 yy (hlive x1 hx1) (hlive x2 hx2) hne hy1 hy2
end
noncomputable section
set_option maxHeartbeats 4000000
def wO (a1:aA) (a2:aA) (x1:(Int×Int)):Option ((Int×Int) ⊕ Int):=
 bif decide (x1.2<(a1.length:Int)) then
 ((cO a1 x1.2).bind λv2=>
 (cO a2 x1.2).bind λv3=>
 some (.inl (wr (x1.1+(wr (v2*v3))),wr (x1.2+1))))
 else
 (some (.inr x1.1))
def wP (a0:Qv) (a1:aA) (a2:aA) (x2:(Int×Int)):Option ((Int×Int) ⊕ Int):=
 bif decide (x2.2<(a0.src.length:Int)) then
 ((cO a0.src x2.2).bind λv6=>
 (cO a1 v6).bind λv7=>
 (cO a0.tgt x2.2).bind λv8=>
 (cO a2 v8).bind λv9=>
 some (.inl (wr (x2.1 - (wr (v7*v9))),wr (x2.2+1))))
 else
 (some (.inr x2.1))
def jL (a0:Qv) (a1:aA) (a2:aA):Option Int:=
 (Lp (wO a1 a2) (0,0)).bind λy4=>
 (Lp (wP a0 a1 a2) (y4,0)).bind λy10=>
 some (y10)
theorem uO (a0:Qv) (a1:aA) (a2:aA) (r:Int) (h:jL a0 a1 a2=some r):HasC Tryz.prog 73 [.agg (eQ a0),.list 1 (a1.map eI),.list 1 (a2.map eI)] (.int r):=by
 refine hM [.tmp 6] Tryz.func73 Tryz.ntmps73 k<|sR<|ae (wb k) k<|aT k2<|sR<|aT k2<|sQ<|sR<|am k k<|ln k4<|am k k<|an<|tn<|aE<|oB h λy4 hy4 h=>cH (body:=(wO a1 a2)) hy4 (λ(x1:(Int×Int))=>mN [(1,.list 1 (a1.map eI)),(2,.list 1 (a2.map eI)),(3,.ptr 0 0 0),(7,.int x1.1),(12,.list 1 (a1.map eI)),(13,.int (a1.length:Int)),(14,.int x1.2)] [(0,⟨3,[eQ a0]⟩)] 1) (λr e t=>e= .exit 0/\Ent t (mN [(1,.list 1 (a1.map eI)),(2,.list 1 (a2.map eI)),(3,.ptr 0 0 0),(7,.int r)] [(0,⟨3,[eQ a0]⟩)] 1)) (bO (bN k2) (bS k<|aR) k4) ?_ ?_
 ·intro x1 o h;refine sR<|cm k4<|an<|tn<|sQ<|dC k h (λ_ h=>?_) λ_ h=>bA<|aB<|aB<|sp h ⟨_,k,k,(bO (bN k2) (bS k<|aR) k4)⟩;refine aI<|tn<|sQ<|aE<|sR<|am k k<|oB h λv2 hv2 h=>ae (xl hv2 k) k<|lr k7<|aa k k<|aT k2<|rg<|am k k<|am k k<|am k k<|am k k<|oB h λv3 hv3 h=>ae (xl hv3 k) k<|lr k7<|ae (gC k k) k<|ae (bJ k k) k<|aa k k<|an<|aZ<|tn<|rg<|ae (bJ k k) k<|am k k ?_;exact an<|tn<|sp h ⟨_,k,(bO (bN k2) (bS k<|aR) k4)⟩
 ·rintro e t ⟨rfl,hent⟩;refine aP<|tn<|aN hent<|sQ<|sR<|fp k8<|lp k8<|ln k4<|am k k<|an<|tn<|aE<|oB h λy10 hy10 h=>cH (body:=(wP a0 a1 a2)) hy10 (λ(x2:(Int×Int))=>mN [(1,.list 1 (a1.map eI)),(2,.list 1 (a2.map eI)),(3,.ptr 0 0 0),(7,.int x2.1),(29,.list 1 (a0.src.map eI)),(30,.int (a0.src.length:Int)),(31,.int x2.2)] [(0,⟨3,[eQ a0]⟩)] 1) (λr e t=>e= .exit 2/\Ent t (mN [(7,.int r)] [] 0)) (bO (bN k2) (bS k<|aR) k4) ?_ ?_
  ·intro x2 o h;refine sR<|cm k4<|an<|tn<|sQ<|dC k h (λ_ h=>?_) λ_ h=>bA<|aB<|aB<|sp h ⟨_,k,k,(bO (bN k2) aR k4)⟩;refine aI<|tn<|sQ<|aE<|sR<|am k k<|oB h λv6 hv6 h=>ae (xl hv6 k) k<|lr k7<|aa k k<|aT k2<|aQ fW<|am k k<|am k k<|am k k<|oB h λv7 hv7 h=>ae (xl hv7 k) k<|lr k7<|am k k<|fp k8<|lp k8<|am k k<|oB h λv8 hv8 h=>ae (xl hv8 k) k<|lr k7<|oB h λv9 hv9 h=>ae (xl hv9 k) k<|lr k7<|ae (gC k k) k<|ae (gK k k) k ?_;exact aa k k<|an<|nH (by kernel_rfl)<|aZ<|tn<|rg<|ae (bJ k k) k<|am k k<|an<|tn<|sp h ⟨_,k,(bO (bN k2) (bS k<|aR) k4)⟩
  ·rintro e t ⟨rfl,hent⟩;exact aP<|tn<|aN hent<|sR<|am k k<|aT k2<|aG<|xQ h k2
def uP (a0:aD) (a1:aA) (x1:Int):Option (Int ⊕ (Unit ⊕ Bool)):=
 bif decide (x1<(a0.length:Int)) then
 ((cO a0 x1).bind λv2=>
 (tB v2 a1).bind λv3=>
 bif v3 then
 (some (.inr (.inr (true))))
 else
 (some (.inl (wr (x1+1)))))
 else
 (some (.inr (.inl ())))
def tC (a0:aD) (a1:aA):Option Bool:=
 (Lp (uP a0 a1) 0).bind λy5=>
 Sum.elim (λy6=>
 some (false)
 )
 (λy7=>
 some y7
 )
 y5
theorem aEt (a0:aD) (a1:aA) (r:Bool) (h:tC a0 a1=some r):HasC Tryz.prog 92 [.list 1 (a0.map (bU 1 eI)),.list 1 (a1.map eI)] (.bl r):=by
 refine hM [.tmp 4] Tryz.func92 Tryz.ntmps92 k<|sR<|aT k2<|sQ<|sR<|aT k2<|aE<|oB h λy5 hy5 h=>cH (body:=(uP a0 a1)) hy5 (λ(x1:Int)=>mN [(0,.list 1 (a0.map (bU 1 eI))),(1,.list 1 (a1.map eI)),(5,.int x1)] [] 0) (λr e t=>Sum.elim (λa=>(λr e t=>e= .exit 0/\Ent t (mN [] [] 0)) a e t) (λb=>(λr e t=>e= .ret/\uI TT [.tmp 4] (.bl r) .ret t) b e t) r) (bO (bN k2) aR k4) ?_ ?_
 ·intro x1 o h;exact sQ<|sR<|am k k<|am k k<|ln k4<|cm k4<|an<|tn<|dC k h (λ_ h=>aI<|tn<|sQ<|aE<|sR<|am k k<|am k k<|oB h λv2 hv2 h=>ae (xl hv2 k) k<|lr k7<|am k k<|oB h λv3 hv3 h=>ae (aS (zC v2 a1 v3 hv3) k (dF k (dF k aU))) k<|an<|tn<|dC k h (λ_ h=>sR<|aT k2<|aG<|bX<|aM<|aM<|sp h ⟨_,k,k,cA k k k (qM k)⟩) λ_ h=>aI<|aZ<|tn<|rg<|am k k<|ae (bJ k k) k<|aT k2<|sp h ⟨_,k,(bO (bN k2) aR k4)⟩) λ_ h=>bA<|aB<|aB<|sp h ⟨_,k,k,(bO aR aR k4)⟩
 ·intro e t hX;rcases y5 with y6|y7
  ·obtain ⟨rfl,hent⟩:=hX;exact aP<|tn<|aN hent<|sR<|aT k2<|aG<|kD h k2
  ·obtain ⟨rfl,hent⟩:=hX;exact bX<|aM<|sp h hent
def pX (a1:aA) (x1:Int):Option (Int ⊕ (Unit ⊕ Bool)):=
 bif decide (x1<(a1.length:Int)) then
 ((cO a1 x1).bind λv2=>
 (lB v2 (-100) 100).bind λv3=>
 bif !v3 then
 (some (.inr (.inr (false))))
 else
 (some (.inl (wr (x1+1)))))
 else
 (some (.inr (.inl ())))
def qV (a0:Qv) (a1:aA):Option Bool:=
 (Lp (pX a1) 0).bind λy5=>
 Sum.elim (λy6=>
 (fS a0).bind λv7=>
 bif v7 then
 (some (decide ((a1.length:Int)=a0.n)))
 else
 (some (false))
 )
 (λy9=>
 some y9
 )
 y5
theorem aCW (a0:Qv) (a1:aA) (r:Bool) (h:qV a0 a1=some r):HasC Tryz.prog 163 [.agg (eQ a0),.list 1 (a1.map eI)] (.bl r):=by
 refine hM [.tmp 4] Tryz.func163 Tryz.ntmps163 k<|sR<|ae (wb k) k<|aT k2<|sQ<|sR<|aT k2<|aE<|oB h λy5 hy5 h=>cH (body:=(pX a1)) hy5 (λ(x1:Int)=>mN [(1,.list 1 (a1.map eI)),(2,.ptr 0 0 0),(5,.int x1)] [(0,⟨3,[eQ a0]⟩)] 1) (λr e t=>Sum.elim (λa=>(λr e t=>e= .exit 0/\Ent t (mN [(1,.list 1 (a1.map eI)),(2,.ptr 0 0 0)] [(0,⟨3,[eQ a0]⟩)] 1)) a e t) (λb=>(λr e t=>e= .ret/\uI TT [.tmp 4] (.bl r) .ret t) b e t) r) (bO (bN k2) (bS k<|aR) k4) ?_ ?_
 ·intro x1 o h;exact sQ<|sR<|am k k<|am k k<|ln k4<|cm k4<|an<|tn<|dC k h (λ_ h=>aI<|tn<|sQ<|aE<|sR<|am k k<|am k k<|oB h λv2 hv2 h=>ae (xl hv2 k) k<|lr k7<|oB h λv3 hv3 h=>ae (aS (rK v2 (-100) 100 v3 hv3) k (dF k (dF k (dF k aU)))) k<|ae (fB k) k<|an<|tn<|dC k h (λ_ h=>sR<|aT k2<|aG<|bX<|aM<|aM<|sp h ⟨_,k,k,cA k k k (qM k)⟩) λ_ h=>aI<|aZ<|tn<|rg<|am k k<|ae (bJ k k) k<|aT k2<|sp h ⟨_,k,(bO (bN k2) (bS k<|aR) k4)⟩) λ_ h=>bA<|aB<|aB<|sp h ⟨_,k,k,(bO (bN k2) (bS k<|aR) k4)⟩
 ·intro e t hX;rcases y5 with y6|y9
  ·obtain ⟨rfl,hent⟩:=hX;exact aP<|tn<|aN hent<|sR<|lp k8<|oB h λv7 hv7 h=>ae (aS (oM a0 v7 hv7) k (aX (iL k) aU)) k<|am k k<|kI h (λq8 h=>aH 20 k q8<|am k k<|ln k4<|fp k8<|lp k8<|cm k4<|pk k3<|aT k2<|aG<|kD h k2) λq8 h=>aH 20 k q8<|aK k4<|aK k4<|ak k k<|pk k3<|aT k2<|aG<|kD h k2
  ·obtain ⟨rfl,hent⟩:=hX;exact bX<|aM<|sp h hent
def pY (a0:Qv) (a1:aA) (a2:aA) (x1:(Int×Int)):Option ((Int×Int) ⊕ Int):=
 bif decide (x1.2<a0.n) then
 ((cO a1 x1.2).bind λv6=>
 (cO a2 x1.2).bind λv7=>
 some (.inl (wr (x1.1+(wr (v6*v7))),wr (x1.2+1))))
 else
 (some (.inr x1.1))
def pZ (a0:Qv) (a1:aA) (a2:aA) (x2:(Int×Int)):Option ((Int×Int) ⊕ Int):=
 bif decide (x2.2<(a0.src.length:Int)) then
 ((cO a0.src x2.2).bind λv10=>
 (cO a1 v10).bind λv11=>
 (cO a0.tgt x2.2).bind λv12=>
 (cO a2 v12).bind λv13=>
 some (.inl (wr (x2.1 - (wr (v11*v13))),wr (x2.2+1))))
 else
 (some (.inr x2.1))
def fA (a0:Qv) (a1:aA) (a2:aA):Option Int:=
 (qV a0 a1).bind λv1=>
 bif !v1 then
 (some (0))
 else
 ((qV a0 a2).bind λv3=>
 bif !v3 then
 (some (0))
 else
 ((Lp (pY a0 a1 a2) (0,0)).bind λy8=>
 (Lp (pZ a0 a1 a2) (y8,0)).bind λy14=>
 some (y14)))
theorem kN (a0:Qv) (a1:aA) (a2:aA) (r:Int) (h:fA a0 a1 a2=some r):HasC Tryz.prog 75 [.agg (eQ a0),.list 1 (a1.map eI),.list 1 (a2.map eI)] (.int r):=by
 refine hM [.tmp 6] Tryz.func75 Tryz.ntmps75 k<|sR<|ae (wb k) k<|aT k2<|sQ<|sR<|lp k8<|am k k<|oB h λv1 hv1 h=>ae (aS (aCW a0 a1 v1 hv1) k (aX (iL k) (dF k aU))) k<|ae (fB k) k<|am k k<|kI h (λq2 h=>aH 14 k q2<|aK k4<|aK k4<|pk k3<|an<|tn<|dO k k<|sR<|aT k2<|aG<|aM<|xQ h k2) λq2 h=>?_;refine aH 14 k q2<|lp k8<|am k k<|oB h λv3 hv3 h=>ae (aS (aCW a0 a2 v3 hv3) k (aX (iL k) (dF k aU))) k<|ae (fB k) k<|pk k3<|an<|tn<|dC k h (λ_ h=>sR<|aT k2<|aG<|aM<|xQ h k2) λ_ h=>?_;refine aI<|tn<|sR<|aT k2<|sQ<|sR<|aT k2<|aE<|oB h λy8 hy8 h=>cH (body:=(pY a0 a1 a2)) hy8 (λ(x1:(Int×Int))=>mN [(1,.list 1 (a1.map eI)),(2,.list 1 (a2.map eI)),(3,.ptr 0 0 0),(7,.int x1.1),(8,.int x1.2)] [(0,⟨3,[eQ a0]⟩)] 1) (λr e t=>e= .exit 0/\Ent t (mN [(1,.list 1 (a1.map eI)),(2,.list 1 (a2.map eI)),(3,.ptr 0 0 0),(7,.int r)] [(0,⟨3,[eQ a0]⟩)] 1)) (bO (bN k2) (bS k<|aR) k4) ?_ ?_
 ·intro x1 o h;exact sQ<|sR<|am k k<|fp k8<|lp k8<|cm k4<|an<|tn<|dC k h (λ_ h=>aI<|tn<|sQ<|aE<|aQ fW<|am k k<|am k k<|am k k<|oB h λv6 hv6 h=>ae (xl hv6 k) k<|lr k7<|am k k<|am k k<|oB h λv7 hv7 h=>ae (xl hv7 k) k<|lr k7<|ae (gC k k) k<|ae (bJ k k) k<|aa k k<|an<|nH (by kernel_rfl)<|aZ<|tn<|rg<|am k k<|ae (bJ k k) k<|aT k2<|sp h ⟨_,k,(bO (bN k2) (bS k<|aR) k4)⟩) λ_ h=>bA<|aB<|aB<|sp h ⟨_,k,k,(bO (bN k2) (bS k<|aR) k4)⟩
 ·rintro e t ⟨rfl,hent⟩;refine aP<|tn<|aN hent<|sQ<|sR<|aT k2<|aE<|oB h λy14 hy14 h=>cH (body:=(pZ a0 a1 a2)) hy14 (λ(x2:(Int×Int))=>mN [(1,.list 1 (a1.map eI)),(2,.list 1 (a2.map eI)),(3,.ptr 0 0 0),(7,.int x2.1),(9,.int x2.2)] [(0,⟨3,[eQ a0]⟩)] 1) (λr e t=>e= .exit 2/\Ent t (mN [(7,.int r)] [] 0)) (bO (bN k2) (bS k<|aR) k4) ?_ ?_
  ·intro x2 o h;refine sQ<|sR<|am k k<|fp k8<|lp k8<|ln k4<|cm k4<|an<|tn<|dC k h (λ_ h=>?_) λ_ h=>bA<|aB<|aB<|sp h ⟨_,k,k,(bO (bN k2) aR k4)⟩;refine aI<|tn<|sQ<|aE<|aQ fW<|am k k<|am k k<|fp k8<|lp k8<|am k k<|oB h λv10 hv10 h=>ae (xl hv10 k) k<|lr k7<|oB h λv11 hv11 h=>ae (xl hv11 k) k<|lr k7<|am k k<|fp k8<|lp k8<|am k k<|oB h λv12 hv12 h=>ae (xl hv12 k) k<|lr k7<|oB h λv13 hv13 h=>ae (xl hv13 k) k<|lr k7<|ae (gC k k) k<|ae (gK k k) k<|aa k k<|an<|nH (by kernel_rfl)<|aZ<|tn ?_;exact aN (t:=mN [(1,.list 1 (a1.map eI)),(2,.list 1 (a2.map eI)),(3,.ptr 0 0 0),(7,.int (wr (x2.1 - (wr (v11*v13))))),(9,.int x2.2)] [(0,⟨3,[eQ a0]⟩)] 1) (bO (bN k2) (bS k<|aR) k4)<|rg<|am k k<|ae (bJ k k) k<|aT k2<|sp h ⟨_,k,(bO (bN k2) (bS k<|aR) k4)⟩
  ·rintro e t ⟨rfl,hent⟩;exact aP<|tn<|aN hent<|sR<|am k k<|aT k2<|aG<|xQ h k2
def aAJ (a0:Qv) (a1:aA):Option Int:=
 (fA a0 a1 a1).bind λv1=>
 some (v1)
theorem aIU (a0:Qv) (a1:aA) (r:Int) (h:aAJ a0 a1=some r):HasC Tryz.prog 93 [.agg (eQ a0),.list 1 (a1.map eI)] (.int r):=by
 exact hM [.tmp 4] Tryz.func93 Tryz.ntmps93 k<|sR<|ae (wb k) k<|aT k2<|sR<|lp k8<|am k k<|am k k<|oB h λv1 hv1 h=>ae (aS (kN a0 a1 a1 v1 hv1) k (aX (iL k) (dF k (dF k aU)))) k<|aT k2<|aG<|xQ h k2
def tP (a0:aA) (a1:aA) (x1:(Int×Int×Int)):Option ((Int×Int×Int) ⊕ (Int×Int)):=
 bif decide (x1.2.2<(a0.length:Int)) then
 ((cO a0 x1.2.2).bind λv2=>
 (cO a1 x1.2.2).bind λv3=>
 some (.inl (wr (x1.1+v2),wr (x1.2.1+v3),wr (x1.2.2+1))))
 else
 (some (.inr (x1.1,x1.2.1)))
def jM (a0:aA) (a1:aA) (x2:Int):Option (Int ⊕ (Unit ⊕ Bool)):=
 bif decide (x2<(a0.length:Int)) then
 ((cO a0 x2).bind λv7=>
 (cO a1 x2).bind λv8=>
 bif !decide (v7=v8) then
 ((cO a0 x2).bind λv10=>
 (cO a1 x2).bind λv11=>
 some (.inr (.inr (decide (v10<v11)))))
 else
 (some (.inl (wr (x2+1)))))
 else
 (some (.inr (.inl ())))
def yA (a0:aA) (a1:aA):Option Bool:=
 (Lp (tP a0 a1) (0,0,0)).bind λy4=>
 bif !decide (y4.1=y4.2) then
 (some (decide (y4.1<y4.2)))
 else
 ((Lp (jM a0 a1) 0).bind λy12=>
 Sum.elim (λy13=>
 some (false)
 )
 (λy14=>
 some y14
 )
 y12)
theorem aJp (a0:aA) (a1:aA) (r:Bool) (h:yA a0 a1=some r):HasC Tryz.prog 94 [.list 1 (a0.map eI),.list 1 (a1.map eI)] (.bl r):=by
 refine hM [.tmp 4] Tryz.func94 Tryz.ntmps94 k<|sR<|aT k2<|sR<|aT k2<|sR<|aT k2<|sQ<|sR<|aT k2<|aE<|oB h λy4 hy4 h=>cH (body:=(tP a0 a1)) hy4 (λ(x1:(Int×Int×Int))=>mN [(0,.list 1 (a0.map eI)),(1,.list 1 (a1.map eI)),(5,.int x1.1),(6,.int x1.2.1),(7,.int x1.2.2)] [] 0) (λr e t=>e= .exit 0/\Ent t (mN [(0,.list 1 (a0.map eI)),(1,.list 1 (a1.map eI)),(5,.int r.1),(6,.int r.2)] [] 0)) (bO (bN k2) aR k4) ?_ ?_
 ·intro x1 o h;refine sQ<|sR<|am k k<|am k k<|ln k4<|cm k4<|an<|tn<|dC k h (λ_ h=>?_) λ_ h=>bA<|aB<|aB<|sp h ⟨_,k,k,(bO (bN k2) aR k4)⟩;refine aI<|tn<|sQ<|aE<|sR<|am k k<|am k k<|am k k<|oB h λv2 hv2 h=>ae (xl hv2 k) k<|lr k7<|ae (bJ k k) k<|aT k2<|rg<|am k k<|am k k<|am k k<|oB h λv3 hv3 h=>ae (xl hv3 k) k<|lr k7<|ae (bJ k k) k<|aa k k<|an<|aZ<|tn<|rg<|am k k<|ae (bJ k k) k ?_;exact aT k2<|sp h ⟨_,k,(bO (bN k2) aR k4)⟩
 ·rintro e t ⟨rfl,hent⟩;refine aP<|tn<|aN hent<|sQ<|sR<|am k k<|am k k<|cm k4<|an<|tn<|dC k h (λ_ h=>sR<|am k k<|am k k<|cm k4<|aT k2<|aG<|aM<|kD h k2) λ_ h=>?_;refine aI<|tn<|sQ<|sR<|aT k2<|aE<|oB h λy12 hy12 h=>cH (body:=(jM a0 a1)) hy12 (λ(x2:Int)=>mN [(0,.list 1 (a0.map eI)),(1,.list 1 (a1.map eI)),(8,.int x2)] [] 0) (λr e t=>Sum.elim (λa=>(λr e t=>e= .exit 2/\Ent t (mN [] [] 0)) a e t) (λb=>(λr e t=>e= .ret/\uI TT [.tmp 4] (.bl r) .ret t) b e t) r) (bO (bN k2) aR k4) ?_ ?_
  ·intro x2 o h;exact sQ<|sR<|am k k<|am k k<|ln k4<|cm k4<|an<|tn<|dC k h (λ_ h=>aI<|tn<|sQ<|aE<|sQ<|aQ fW<|am k k<|am k k<|oB h λv7 hv7 h=>ae (xl hv7 k) k<|lr k7<|am k k<|am k k<|oB h λv8 hv8 h=>ae (xl hv8 k) k<|lr k7<|cm k4<|an<|nH (by kernel_rfl)<|tn<|dC k h (λ_ h=>sQ<|aQ fW<|am k k<|am k k<|oB h λv10 hv10 h=>ae (xl hv10 k) k<|lr k7<|am k k<|am k k<|oB h λv11 hv11 h=>ae (xl hv11 k) k<|lr k7<|cm k4<|aa k k<|an<|nH (by kernel_rfl)<|tn<|aG<|bX<|aM<|aM<|sp h ⟨_,k,k,cA k k k (qM k)⟩) λ_ h=>aI<|aZ<|tn<|rg<|am k k<|ae (bJ k k) k<|aT k2<|sp h ⟨_,k,(bO (bN k2) aR k4)⟩) λ_ h=>bA<|aB<|aB<|sp h ⟨_,k,k,(bO aR aR k4)⟩
  ·intro e t hX;rcases y12 with y13|y14
   ·obtain ⟨rfl,hent⟩:=hX;exact aP<|tn<|aN hent<|sR<|aT k2<|aG<|kD h k2
   ·obtain ⟨rfl,hent⟩:=hX;exact bX<|aM<|sp h hent
def pC (a0:aD) (a1:aA) (a2:Int) (x1:(Int×Int)):Option ((Int×Int) ⊕ Int):=
 bif decide (x1.2<(a1.length:Int)) then
 ((cO a0 a2).bind λv3=>
 (cO v3 x1.2).bind λv4=>
 (cO a1 x1.2).bind λv5=>
 some (.inl (wr (x1.1+(wr (v4*v5))),wr (x1.2+1))))
 else
 (some (.inr x1.1))
def tQ (a0:aD) (a1:aA) (a2:Int):Option aA:=
 bif decide (([]:aA).length +a1.length<=4294967296) then
 ((Lp (pC a0 a1 a2) (0,0)).bind λy6=>
 (cO (([]:aA)++a1) a2).bind λv7=>
 (cO (([]:aA)++a1) a2).bind λv8=>
 some (((([]:aA)++a1).set a2.toNat (wr (v7 - y6)))))
 else none
theorem aGH (a0:aD) (a1:aA) (a2:Int) (r:aA) (h:tQ a0 a1 a2=some r):HasC Tryz.prog 91 [.list 1 (a0.map (bU 1 eI)),.list 1 (a1.map eI),.int a2] (.list 1 (r.map eI)):=by
 refine hM [.tmp 6] Tryz.func91 Tryz.ntmps91 k<|sR<|aT k2<|sR<|ae (wl k) k<|am k k<|cG h λq1 h=>ae (lO aL (l:=([]:aA)) (m:=a1) jZ q1 k k k k k k k k k k k k) k<|aT k2<|sR<|aT k2<|sQ<|sR<|aT k2<|aE<|oB h λy6 hy6 h=>cH (body:=(pC a0 a1 a2)) hy6 (λ(x1:(Int×Int))=>mN [(0,.list 1 (a0.map (bU 1 eI))),(1,.list 1 (a1.map eI)),(2,.int a2),(7,.own 0 0 ((([]:aA)++a1).length)),(8,.int x1.1),(9,.int x1.2)] [(0,⟨1,List.map (ow eI) (([]:aA)++a1)⟩)] 1) (λr e t=>e= .exit 0/\Ent t (mN [(2,.int a2),(7,.own 0 0 ((([]:aA)++a1).length)),(8,.int r)] [(0,⟨1,List.map (ow eI) (([]:aA)++a1)⟩)] 1)) (kE [1] (bN k2) (cD k<|aR) k4) ?_ ?_
 ·intro x1 o h;refine sQ<|sR<|am k k<|am k k<|ln k4<|cm k4<|an<|tn<|dC k h (λ_ h=>?_) λ_ h=>bA<|aB<|aB<|sp h ⟨_,k,k,(bO (bN k2) (cD k<|aR) k4)⟩;refine aI<|tn<|sQ<|aE<|aQ fW<|am k k<|am k k<|am k k<|oB h λv3 hv3 h=>ae (xl hv3 k) k<|lr k7<|am k k<|oB h λv4 hv4 h=>ae (xl hv4 k) k<|lr k7<|am k k<|am k k<|oB h λv5 hv5 h=>ae (xl hv5 k) k<|lr k7<|ae (gC k k) k<|ae (bJ k k) k<|aa k k<|an<|nH (by kernel_rfl)<|aZ<|tn<|rg<|am k k<|ae (bJ k k) k<|aa k k<|an ?_;exact tn<|sp h ⟨_,k,(bO (bN k2) (cD k<|aR) k4)⟩
 ·rintro e t ⟨rfl,hent⟩;exact aP<|tn<|aN hent<|sR<|am k k<|am k k<|am k k<|am k k<|oB h λv7 hv7 h=>ae (xo hv7 k) k<|ae (wp hv7 k) k<|am k k<|ae (gK k k) k<|oB h λv8 hv8 h=>ae (xo hv8 k) k<|ae (gE aL jZ (u:=wr (v7 - y6)) (fC hv8) k k k k k k) k<|an<|tn<|sR<|am k k<|aT k2<|aG<|sp h (cA k k k (pS (gF cW k (by first|rfl|simp only [List.length_set]))))
def kK (a0:aD) (x1:(Int×Int×Int)) (x2:(aD×Int)):Option ((aD×Int) ⊕ aD):=
 bif decide (x2.2<(((a0.drop (1:Int).toNat).take ((a0.length:Int).toNat - (1:Int).toNat)).length:Int)) then
 ((cO ((a0.drop (1:Int).toNat).take ((a0.length:Int).toNat - (1:Int).toNat)) x2.2).bind λv7=>
 bif (decide (0<=0)&&(decide (0<=x1.2.2)&&decide (x1.2.2<=(v7.length:Int)))) then
 (bif (decide (0<=wr (x1.2.2+1))&&(decide (wr (x1.2.2+1)<=(v7.length:Int))&&decide ((v7.length:Int)<=(v7.length:Int)))) then
 ((kV [((v7.drop (0:Int).toNat).take (x1.2.2.toNat - (0:Int).toNat)),((v7.drop (wr (x1.2.2+1)).toNat).take ((v7.length:Int).toNat - (wr (x1.2.2+1)).toNat))]).bind λv10=>
 bif decide (x2.1.length+1<=4294967296) then
 (some (.inl ((x2.1++[v10]),wr (x2.2+1))))
 else none)
 else none)
 else none)
 else
 (some (.inr x2.1))
def oG (self:(aD->Option Int)) (a0:aD) (v2:aA) (x1:(Int×Int×Int)):Option ((Int×Int×Int) ⊕ Int):=
 bif decide (x1.2.2<(v2.length:Int)) then
 ((cO v2 x1.2.2).bind λv4=>
 bif (decide (0<=1)&&(decide (1<=(a0.length:Int))&&decide ((a0.length:Int)<=(a0.length:Int)))) then
 ((Lp (kK a0 x1) ([],0)).bind λy12=>
 (self y12).bind λv13=>
 some (.inl (wr (x1.1+(wr ((wr (x1.2.1*v4))*v13))),wr (-x1.2.1),wr (x1.2.2+1))))
 else none)
 else
 (some (.inr x1.1))
def pD (self:aD->Option Int) (a0:aD):Option Int:=
 bif decide ((a0.length:Int)=0) then
 (some (1))
 else
 ((cO a0 0).bind λv2=>
 (Lp (oG self a0 v2) (0,1,0)).bind λy14=>
 some (y14))
def iO:Nat->aD->Option Int
 |0,_=>none
 |n+1,a0=>pD (iO n) a0
theorem aDq (self:aD->Option Int) (a0:aD) (ih: ∀ (a0:aD) (r:Int),self a0=some r->HasC Tryz.prog 98 [.list 1 (a0.map (bU 1 eI))] (.int r)) (r:Int) (h:pD self a0=some r):HasC Tryz.prog 98 [.list 1 (a0.map (bU 1 eI))] (.int r):=by
 refine hM [.tmp 2] Tryz.func98 Tryz.ntmps98 k<|sR<|aT k2<|sQ<|sR<|am k k<|ln k4<|cm k4<|an<|tn<|dC k h (λ_ h=>sR<|aT k2<|aG<|aM<|xQ h k2) λ_ h=>?_;refine aI<|tn<|sR<|aa k k<|aT k2<|sQ<|sR<|am k k<|oB h λv2 hv2 h=>ae (xl hv2 k) k<|lr k7<|ln k4<|am k k<|an<|tn<|aE<|oB h λy14 hy14 h=>cH (body:=(oG self a0 v2)) hy14 (λ(x1:(Int×Int×Int))=>mN [(0,.list 1 (a0.map (bU 1 eI))),(3,.int x1.1),(4,.int x1.2.1),(15,.list 1 (v2.map eI)),(16,.int (v2.length:Int)),(17,.int x1.2.2)] [] 0) (λr e t=>e= .exit 0/\Ent t (mN [(3,.int r)] [] 0)) (bO (bN k2) aR k4) ?_ ?_
 ·intro x1 o h;refine sR<|cm k4<|an<|tn<|sQ<|dC k h (λ_ h=>?_) λ_ h=>bA<|aB<|aB<|sp h ⟨_,k,k,(bO (bN k2) aR k4)⟩;refine aI<|tn<|sQ<|aE<|sR<|am k k<|oB h λv4 hv4 h=>ae (xl hv4 k) k<|lr k7<|aa k k<|aT k2<|sR<|aT k2<|sQ<|sR<|am k k<|cG h λq5 h=>ae (mR aL (l0:=a0) (l:=1) (h:=(a0.length:Int)) q5 k k k k k k k) k<|ae (AEff.val (yI aL k k k) (v':= .int (((a0.drop (1:Int).toNat).take ((a0.length:Int).toNat - (1:Int).toNat)).length:Int)) (by first|rw [aO]|rw [aJJ])) k<|am k k<|an<|tn<|aE<|oB h λy12 hy12 h=>cH (body:=(kK a0 x1)) hy12 (λ(x2:(aD×Int))=>mN [(0,.list 1 (a0.map (bU 1 eI))),(3,.int x1.1),(4,.int x1.2.1),(5,.int x1.2.2),(6,.int v4),(7,.own 0 0 x2.1.length),(15,.list 1 (v2.map eI)),(16,.int (v2.length:Int)),(17,.int x1.2.2),(23,.list 1 (List.map (bU 1 eI) ((a0.drop (1:Int).toNat).take ((a0.length:Int).toNat - (1:Int).toNat)))),(24,.int (((a0.drop (1:Int).toNat).take ((a0.length:Int).toNat - (1:Int).toNat)).length:Int)),(25,.int x2.2)] [(0,⟨1,x2.1.map (ow (bU 1 eI))⟩)] 1) (λr e t=>e= .exit 2/\Ent t (mN [(0,.list 1 (a0.map (bU 1 eI))),(3,.int x1.1),(4,.int x1.2.1),(6,.int v4),(7,.own 0 0 r.length),(15,.list 1 (v2.map eI)),(16,.int (v2.length:Int)),(17,.int x1.2.2)] [(0,⟨1,r.map (ow (bU 1 eI))⟩)] 1)) (kB (σ:=sg []) (pP 5 k2 (mO ⟨_,k,⟨k,k,k,k⟩⟩ (bN k2))) (hX k k<|aR) k) ?_ ?_
  ·intro x2 o h;refine sR<|cm k4<|an<|tn<|sQ<|dC k h (λ_ h=>?_) λ_ h=>bA<|aB<|aB<|sp h ⟨_,k,k,(bO (bN k2) (cF (aV.plainO _) k<|aR) k4)⟩;refine aI<|tn<|sQ<|aE<|sR<|oB h λv7 hv7 h=>ae (xl hv7 k) k<|lr k7<|aT k2<|aQ fW<|am k k<|am k k<|am k k<|cG h λq8 h=>ae (mR aL (l0:=v7) (l:=0) (h:=x1.2.2) q8 k k k k k k k) k<|am k k<|am k k<|ae (bJ k k) k<|cG h λq9 h=>ae (mR aL (l0:=v7) (l:=wr (x1.2.2+1)) (h:=(v7.length:Int)) q9 k k k k k k k) k<|ae (wl k) k<|oB h λv10 hv10 h=>ae (cL cW (aBt [((v7.drop (0:Int).toNat).take (x1.2.2.toNat - (0:Int).toNat)),((v7.drop (wr (x1.2.2+1)).toNat).take ((v7.length:Int).toNat - (wr (x1.2.2+1)).toNat))] v10 hv10) k3 (aX (aTu k k ⟨_,_,k,⟨_,_,k,⟨k,k⟩,k⟩,⟨_,_,k,⟨_,_,k,⟨k,k⟩,k⟩,k⟩⟩) aU)) k<|ae (wl k) k<|cG h λq11 h=>ae (kZ aL (l:=x2.1) (c:=[.own 2 0 v10.length]) q11 k k k k k k k k k k k k k k) k<|aa k k<|an<|nH (by kernel_rfl)<|aZ<|tn ?_;exact aN (t:=mN [(0,.list 1 (a0.map (bU 1 eI))),(3,.int x1.1),(4,.int x1.2.1),(5,.int x1.2.2),(6,.int v4),(7,.own 4 0 ((x2.1++[v10]).length)),(15,.list 1 (v2.map eI)),(16,.int (v2.length:Int)),(17,.int x1.2.2),(23,.list 1 (List.map (bU 1 eI) ((a0.drop (1:Int).toNat).take ((a0.length:Int).toNat - (1:Int).toNat)))),(24,.int (((a0.drop (1:Int).toNat).take ((a0.length:Int).toNat - (1:Int).toNat)).length:Int)),(25,.int x2.2)] [(4,⟨1,List.map (ow (bU 1 eI)) (x2.1++[v10])⟩)] 5) (Ent.trans (iS (b:=4) (b':=2) (j:=0) (es':=v10.map eI) k k k k (aO _ _) (cW.frzs _)) (bO (pP 5 k2 (mO ⟨_,k,⟨k,k,(by simp only [aO,lA,lT,lR,lC,lN]),k⟩⟩ (bN k2))) (hX ⟨_,k,k,.inl ⟨qP v10 k,aV.plainO _⟩⟩ k<|aR) k4))<|rg<|ae (bJ k k) k<|am k k<|an<|tn<|sp h ⟨_,k,(kE [4] (bN k2) (cF (aV.plainO _) k<|aR) k4)⟩
  ·rintro e t ⟨rfl,hent⟩;exact aP<|tn<|aN hent<|sR<|am k k<|am k k<|am k k<|ae (gC k k) k<|am k k<|oB h λv13 hv13 h=>ae (aS (ih y12 v13 hv13) k (aX (aCM aV k k) aU)) k<|ae (gC k k) k<|ae (bJ k k) k<|aT k2<|rg<|am k k<|ae (aLR k) k<|aa k k<|an<|aZ<|tn<|rg<|ae (bJ k k) k<|am k k<|an<|tn<|sp h ⟨_,k,(bO (bN k2) aR k4)⟩
 ·rintro e t ⟨rfl,hent⟩;exact aP<|tn<|aN hent<|sR<|am k k<|aT k2<|aG<|xQ h k2
theorem wZ: ∀ (n:Nat) (a0:aD) (r:Int),iO n a0=some r->HasC Tryz.prog 98 [.list 1 (a0.map (bU 1 eI))] (.int r)
 |0,a0,r,h=>by cases h
 |n+1,a0,r,h=>aDq (iO n) a0 (wZ n) r h
def qW (a0:aD) (x1:(Int×Int×Int)) (x2:(aD×Int)):Option ((aD×Int) ⊕ aD):=
 bif decide (x2.2<(a0.length:Int)) then
 ((cO a0 x2.2).bind λv4=>
 bif (decide (0<=0)&&(decide (0<=x1.2.2)&&decide (x1.2.2<=(v4.length:Int)))) then
 (bif decide (([]:aA).length +((v4.drop (0:Int).toNat).take (x1.2.2.toNat - (0:Int).toNat)).length <=4294967296) then
 ((cO a0 x2.2).bind λv7=>
 bif (decide (0<=wr (x1.2.2+1))&&(decide (wr (x1.2.2+1)<=(v7.length:Int))&&decide ((v7.length:Int)<=(v7.length:Int)))) then
 (bif decide ((([]:aA)++((v4.drop (0:Int).toNat).take (x1.2.2.toNat - (0:Int).toNat))).length +((v7.drop (wr (x1.2.2+1)).toNat).take ((v7.length:Int).toNat - (wr (x1.2.2+1)).toNat)).length <=4294967296) then
 (bif decide (x2.1.length+1<=4294967296) then
 (some (.inl ((x2.1++[((([]:aA)++((v4.drop (0:Int).toNat).take (x1.2.2.toNat - (0:Int).toNat)))++((v7.drop (wr (x1.2.2+1)).toNat).take ((v7.length:Int).toNat - (wr (x1.2.2+1)).toNat)))]),wr (x2.2+1))))
 else none)
 else none)
 else none)
 else none)
 else none)
 else
 (some (.inr x2.1))
def uQ (self:(aD->Option Int)) (a0:aD) (x1:(Int×Int×Int)):Option ((Int×Int×Int) ⊕ Int):=
 bif decide (x1.2.2<(a0.length:Int)) then
 ((Lp (qW a0 x1) (([]:aD),1)).bind λy11=>
 (cO a0 0).bind λv12=>
 (cO v12 x1.2.2).bind λv13=>
 (self y11).bind λv14=>
 some (.inl (wr (x1.1+(wr ((wr (x1.2.1*v13))*v14))),wr (-x1.2.1),wr (x1.2.2+1))))
 else
 (some (.inr x1.1))
def wQ (self:aD->Option Int) (a0:aD):Option Int:=
 bif decide ((a0.length:Int)=0) then
 (some (1))
 else
 ((Lp (uQ self a0) (0,1,0)).bind λy15=>
 some (y15))
def tD:Nat->aD->Option Int
 |0,_=>none
 |n+1,a0=>wQ (tD n) a0
theorem aIV (self:aD->Option Int) (a0:aD) (ih: ∀ (a0:aD) (r:Int),self a0=some r->HasC Tryz.prog 109 [.list 1 (a0.map (bU 1 eI))] (.int r)) (r:Int) (h:wQ self a0=some r):HasC Tryz.prog 109 [.list 1 (a0.map (bU 1 eI))] (.int r):=by
 refine hM [.tmp 2] Tryz.func109 Tryz.ntmps109 k<|sR<|aT k2<|sQ<|sR<|am k k<|ln k4<|cm k4<|an<|tn<|dC k h (λ_ h=>sR<|aT k2<|aG<|aM<|xQ h k2) λ_ h=>?_;refine aI<|tn<|sR<|aT k2<|sR<|aT k2<|sQ<|sR<|aT k2<|aE<|oB h λy15 hy15 h=>cH (body:=(uQ self a0)) hy15 (λ(x1:(Int×Int×Int))=>mN [(0,.list 1 (a0.map (bU 1 eI))),(3,.int x1.1),(4,.int x1.2.1),(5,.int x1.2.2)] [] 0) (λr e t=>e= .exit 0/\Ent t (mN [(3,.int r)] [] 0)) (bO (bN k2) aR k4) ?_ ?_
 ·intro x1 o h;refine sQ<|sR<|am k k<|am k k<|ln k4<|cm k4<|an<|tn<|dC k h (λ_ h=>?_) λ_ h=>bA<|aB<|aB<|sp h ⟨_,k,k,(bO (bN k2) aR k4)⟩;refine aI<|tn<|sQ<|aE<|sR<|ae (wl k) k<|aT k2<|aN (t:=mN [(0,.list 1 (a0.map (bU 1 eI))),(3,.int x1.1),(4,.int x1.2.1),(5,.int x1.2.2),(6,.own 0 0 (([]:aD).length))] [(0,⟨1,List.map (ow (bU 1 eI)) ([]:aD)⟩)] 1) (bO (pP 4 k2 (mO ⟨_,k,⟨k,k,(by simp only [aO,lA,lT,lR,lC,lN]),k⟩⟩ aR)) (cF (aV.plainO _) k<|aR) k4)<|sQ<|sR<|aT k2<|aE<|oB h λy11 hy11 h=>cH (body:=(qW a0 x1)) hy11 (λ(x2:(aD×Int))=>mN [(0,.list 1 (a0.map (bU 1 eI))),(3,.int x1.1),(4,.int x1.2.1),(5,.int x1.2.2),(6,.own 0 0 x2.1.length),(7,.int x2.2)] [(0,⟨1,x2.1.map (ow (bU 1 eI))⟩)] 1) (λr e t=>e= .exit 2/\Ent t (mN [(0,.list 1 (a0.map (bU 1 eI))),(3,.int x1.1),(4,.int x1.2.1),(5,.int x1.2.2),(6,.own 0 0 r.length)] [(0,⟨1,r.map (ow (bU 1 eI))⟩)] 1)) (bO (bN k2) (cF (aV.plainO _) k<|aR) k4) ?_ ?_
  ·intro x2 o h;refine sQ<|sR<|am k k<|am k k<|ln k4<|cm k4<|an<|tn<|dC k h (λ_ h=>?_) λ_ h=>bA<|aB<|aB<|sp h ⟨_,k,k,(bO (bN k2) (cF (aV.plainO _) k<|aR) k4)⟩;refine aI<|tn<|sQ<|aE<|aQ fW<|am k k<|ae (wl k) k<|am k k<|am k k<|oB h λv4 hv4 h=>ae (xl hv4 k) k<|lr k7<|am k k<|cG h λq5 h=>ae (mR aL (l0:=v4) (l:=0) (h:=x1.2.2) q5 k k k k k k k) k<|cG h λq6 h=>ae (lO aL (l:=([]:aA)) (m:=((v4.drop (0:Int).toNat).take (x1.2.2.toNat - (0:Int).toNat))) jZ q6 k k k k k k k k k k k k) k<|am k k<|am k k<|oB h λv7 hv7 h=>ae (xl hv7 k) k<|lr k7<|am k k<|ae (bJ k k) k<|cG h λq8 h=>ae (mR aL (l0:=v7) (l:=wr (x1.2.2+1)) (h:=(v7.length:Int)) q8 k k k k k k k) k<|cG h λq9 h=>ae (lO aL (l:=(([]:aA)++((v4.drop (0:Int).toNat).take (x1.2.2.toNat - (0:Int).toNat)))) (m:=((v7.drop (wr (x1.2.2+1)).toNat).take ((v7.length:Int).toNat - (wr (x1.2.2+1)).toNat))) jZ q9 k k k k k k k k k k k k) k<|ae (wl k) k<|cG h λq10 h=>ae (kZ aL (l:=x2.1) (c:=[.own 3 0 (((([]:aA)++((v4.drop (0:Int).toNat).take (x1.2.2.toNat - (0:Int).toNat)))++((v7.drop (wr (x1.2.2+1)).toNat).take ((v7.length:Int).toNat - (wr (x1.2.2+1)).toNat))).length)]) q10 k k k k k k k k k k k k k k) k<|aa k k<|an<|nH (by kernel_rfl)<|aZ<|tn ?_;exact aN (t:=mN [(0,.list 1 (a0.map (bU 1 eI))),(3,.int x1.1),(4,.int x1.2.1),(5,.int x1.2.2),(6,.own 5 0 ((x2.1++[((([]:aA)++((v4.drop (0:Int).toNat).take (x1.2.2.toNat - (0:Int).toNat)))++((v7.drop (wr (x1.2.2+1)).toNat).take ((v7.length:Int).toNat - (wr (x1.2.2+1)).toNat)))]).length)),(7,.int x2.2)] [(5,⟨1,List.map (ow (bU 1 eI)) (x2.1++[((([]:aA)++((v4.drop (0:Int).toNat).take (x1.2.2.toNat - (0:Int).toNat)))++((v7.drop (wr (x1.2.2+1)).toNat).take ((v7.length:Int).toNat - (wr (x1.2.2+1)).toNat)))])⟩)] 6) (Ent.trans (iS (b:=5) (b':=3) (j:=0) (es':=List.map eI ((([]:aA)++((v4.drop (0:Int).toNat).take (x1.2.2.toNat - (0:Int).toNat)))++((v7.drop (wr (x1.2.2+1)).toNat).take ((v7.length:Int).toNat - (wr (x1.2.2+1)).toNat)))) k k k k (aO _ _) (cW.frzs _)) (bO (pP 4 k2 (mO ⟨_,k,⟨k,k,(by simp only [aO,lA,lT,lR,lC,lN]),k⟩⟩ (bN k2))) (hX ⟨_,k,k,.inl ⟨qP ((([]:aA)++((v4.drop (0:Int).toNat).take (x1.2.2.toNat - (0:Int).toNat)))++((v7.drop (wr (x1.2.2+1)).toNat).take ((v7.length:Int).toNat - (wr (x1.2.2+1)).toNat))) k,aV.plainO _⟩⟩ k<|aR) k4))<|rg<|am k k<|ae (bJ k k) k<|aT k2<|sp h ⟨_,k,(kE [5] (bN k2) (cF (aV.plainO _) k<|aR) k4)⟩
  ·rintro e t ⟨rfl,hent⟩;refine aP<|tn<|aN hent<|sQ<|aQ fW<|am k k<|am k k<|am k k<|oB h λv12 hv12 h=>ae (xl hv12 k) k<|lr k7<|am k k<|oB h λv13 hv13 h=>ae (xl hv13 k) k<|lr k7<|ae (gC k k) k<|am k k<|oB h λv14 hv14 h=>ae (aS (ih y11 v14 hv14) k (aX (aCM aV k k) aU)) k<|ae (gC k k) k<|ae (bJ k k) k<|aa k k<|an<|nH (by kernel_rfl)<|tn<|rg<|am k k<|ae (aLR k) k<|aa k k<|an<|aZ<|tn<|rg ?_;exact am k k<|ae (bJ k k) k<|aT k2<|sp h ⟨_,k,(bO (bN k2) aR k4)⟩
 ·rintro e t ⟨rfl,hent⟩;exact aP<|tn<|aN hent<|sR<|am k k<|aT k2<|aG<|xQ h k2
theorem aEu: ∀ (n:Nat) (a0:aD) (r:Int),tD n a0=some r->HasC Tryz.prog 109 [.list 1 (a0.map (bU 1 eI))] (.int r)
 |0,a0,r,h=>by cases h
 |n+1,a0,r,h=>aIV (tD n) a0 (aEu n) r h
def iU (a0:Qv) (x1:(aD×Int)) (x2:(aA×Int)):Option ((aA×Int) ⊕ aA):=
 bif decide (x2.2<(a0.src.length:Int)) then
 ((cO a0.src x2.2).bind λv6=>
 bif decide (v6=x1.2) then
 ((cO a0.tgt x2.2).bind λv8=>
 (cO a0.tgt x2.2).bind λv9=>
 (cO x2.1 v9).bind λv10=>
 (cO x2.1 v8).bind λv11=>
 (cO a0.tgt x2.2).bind λv12=>
 bif decide (v12=x1.2) then
 ((cO a0.src x2.2).bind λv14=>
 (cO a0.src x2.2).bind λv15=>
 (cO (x2.1.set v8.toNat (wr (v10 - 1))) v15).bind λv16=>
 (cO (x2.1.set v8.toNat (wr (v10 - 1))) v14).bind λv17=>
 some (.inl (((x2.1.set v8.toNat (wr (v10 - 1))).set v14.toNat (wr (v16 - 1))),wr (x2.2+1))))
 else
 (some (.inl ((x2.1.set v8.toNat (wr (v10 - 1))),wr (x2.2+1)))))
 else
 ((cO a0.tgt x2.2).bind λv18=>
 bif decide (v18=x1.2) then
 ((cO a0.src x2.2).bind λv20=>
 (cO a0.src x2.2).bind λv21=>
 (cO x2.1 v21).bind λv22=>
 (cO x2.1 v20).bind λv23=>
 some (.inl ((x2.1.set v20.toNat (wr (v22 - 1))),wr (x2.2+1))))
 else
 (some (.inl (x2.1,wr (x2.2+1))))))
 else
 (some (.inr x2.1))
def lY (a0:Qv) (x1:(aD×Int)):Option ((aD×Int) ⊕ aD):=
 bif decide (x1.2<a0.n) then
 ((fS a0).bind λv2=>
 bif v2 then
 (bif (decide (0<=a0.n)&&decide (a0.n<=1048576)) then
 ((cO (List.replicate a0.n.toNat (0:Int)) x1.2).bind λv4=>
 (Lp (iU a0 x1) (((List.replicate a0.n.toNat (0:Int)).set x1.2.toNat 2),0)).bind λy24=>
 bif decide (x1.1.length+1<=4294967296) then
 (some (.inl ((x1.1++[y24]),wr (x1.2+1))))
 else none)
 else none)
 else
 (some (.inr x1.1)))
 else
 (some (.inr x1.1))
def lF (a0:Qv):Option aD:=
 (Lp (lY a0) (([]:aD),0)).bind λy27=>
 some (y27)
theorem zW (a0:Qv) (r:aD) (h:lF a0=some r):HasC Tryz.prog 90 [.agg (eQ a0)] (.list 1 (r.map (bU 1 eI))):=by
 refine hM [.tmp 2] Tryz.func90 Tryz.ntmps90 k<|sR<|ae (wb k) k<|aT k2<|sR<|ae (wl k) k<|aT k2<|aN (t:=mN [(1,.ptr 0 0 0),(3,.own 1 0 (([]:aD).length))] [(0,⟨3,[eQ a0]⟩),(1,⟨1,List.map (ow (bU 1 eI)) ([]:aD)⟩)] 2) (bO (pP 1 k2 (mO ⟨_,k,⟨k,k,(by simp only [aO,lA,lT,lR,lC,lN]),k⟩⟩ aR)) (bS k<|cF (aV.plainO _) k<|aR) k4)<|sQ<|sR<|aT k2<|aE<|oB h λy27 hy27 h=>cH (body:=(lY a0)) hy27 (λ(x1:(aD×Int))=>mN [(1,.ptr 0 0 0),(3,.own 1 0 x1.1.length),(4,.int x1.2)] [(0,⟨3,[eQ a0]⟩),(1,⟨1,x1.1.map (ow (bU 1 eI))⟩)] 2) (λr e t=>e= .exit 0/\Ent t (mN [(3,.own 0 0 r.length)] [(0,⟨1,r.map (ow (bU 1 eI))⟩)] 1)) (bO (bN k2) (bS k<|cF (aV.plainO _) k<|aR) k4) ?_ ?_
 ·intro x1 o h;refine sQ<|sR<|am k k<|fp k8<|lp k8<|cm k4<|am k k<|kI h (λq1 h=>?_) λq1 h=>aH 12 k q1<|aK k4<|pk k3<|an<|tn<|fK k k<|bA<|aB<|aB<|sp h ⟨_,k,k,(kE [1] (bN k2) (cF (aV.plainO _) k<|aR) k4)⟩;refine aH 12 k q1<|lp k8<|oB h λv2 hv2 h=>ae (aS (oM a0 v2 hv2) k (aX (iL k) aU)) k<|pk k3<|an<|tn<|dC k h (λ_ h=>?_) λ_ h=>bA<|aB<|aB<|sp h ⟨_,k,k,(kE [1] (bN k2) (cF (aV.plainO _) k<|aR) k4)⟩;refine aI<|tn<|sQ<|aE<|sR<|fp k8<|lp k8<|cG h λq26 h=>ae (aAD aL q26 k k k k k k k k) k<|aT k2<|aN (t:=mN [(1,.ptr 0 0 0),(3,.own 1 0 x1.1.length),(4,.int x1.2),(5,.own 2 0 ((List.replicate a0.n.toNat (0:Int)).length))] [(0,⟨3,[eQ a0]⟩),(1,⟨1,x1.1.map (ow (bU 1 eI))⟩),(2,⟨1,List.map (ow eI) (List.replicate a0.n.toNat (0:Int))⟩)] 3) (bO (pP 3 k2 (mO ⟨_,k,⟨k,k,(by simp only [aO,lA,lT,lR,lC,lN]),k⟩⟩ aR)) (bS k<|cF (aV.plainO _) k<|hX ⟨_,k,k,.inl ⟨aAy (e:=eI) (z:=0) _,cW.plainO _⟩⟩ k<|aR) k4)<|sR<|am k k<|am k k<|oB h λv4 hv4 h=>ae (xo hv4 k) k<|ae (gE aL jZ (u:=2) (fC hv4) k k k k k k) k<|an<|tn<|sQ<|sR<|aT k2<|aE<|oB h λy24 hy24 h=>cH (body:=(iU a0 x1)) hy24 (λ(x2:(aA×Int))=>mN [(1,.ptr 0 0 0),(3,.own 1 0 x1.1.length),(4,.int x1.2),(5,.own 2 0 x2.1.length),(6,.int x2.2)] [(0,⟨3,[eQ a0]⟩),(1,⟨1,x1.1.map (ow (bU 1 eI))⟩),(2,⟨1,x2.1.map (ow eI)⟩)] 3) (λr e t=>e= .exit 2/\Ent t (mN [(1,.ptr 0 0 0),(3,.own 1 0 x1.1.length),(4,.int x1.2),(5,.own 2 0 r.length)] [(0,⟨3,[eQ a0]⟩),(1,⟨1,x1.1.map (ow (bU 1 eI))⟩),(2,⟨1,r.map (ow eI)⟩)] 3)) (bO (pP 3 k2 (mO ⟨_,k,⟨k,k,(by simp only [aO,lA,lT,lR,lC,lN]),k⟩⟩ (bN k2))) (bS k<|cF (aV.plainO _) k<|cD k<|aR) k4) ?_ ?_
  ·intro x2 o h;refine sQ<|sR<|am k k<|fp k8<|lp k8<|ln k4<|cm k4<|an<|tn<|dC k h (λ_ h=>?_) λ_ h=>bA<|aB<|aB<|sp h ⟨_,k,k,(bO (bN k2) (bS k<|cF (aV.plainO _) k<|cD k<|aR) k4)⟩;refine aI<|tn<|sQ<|aE<|sQ<|sR<|fp k8<|lp k8<|am k k<|oB h λv6 hv6 h=>ae (xl hv6 k) k<|lr k7<|am k k<|cm k4<|an<|tn<|dC k h (λ_ h=>?_) λ_ h=>?_
   ·refine aQ fW<|am k k<|fp k8<|lp k8<|am k k<|oB h λv8 hv8 h=>ae (xl hv8 k) k<|lr k7<|am k k<|fp k8<|lp k8<|am k k<|oB h λv9 hv9 h=>ae (xl hv9 k) k<|lr k7<|oB h λv10 hv10 h=>ae (xo hv10 k) k<|ae (wp hv10 k) k<|ae (gK k k) k<|oB h λv11 hv11 h=>ae (xo hv11 k) k<|ae (gE aL jZ (u:=wr (v10 - 1)) (fC hv11) k k k k k k) k<|an<|nH (by kernel_rfl)<|tn<|aN (t:=mN [(1,.ptr 0 0 0),(3,.own 1 0 x1.1.length),(4,.int x1.2),(5,.own 2 0 ((x2.1.set v8.toNat (wr (v10 - 1))).length)),(6,.int x2.2)] [(0,⟨3,[eQ a0]⟩),(1,⟨1,x1.1.map (ow (bU 1 eI))⟩),(2,⟨1,List.map (ow eI) (x2.1.set v8.toNat (wr (v10 - 1)))⟩)] 3) (bO (pP 3 k2 (mO ⟨_,k,⟨k,k,(by simp only [aO,lA,lT,lR,lC,lN]),k⟩⟩ (bN k2))) (bS k<|cF (aV.plainO _) k<|cD k<|aR) k4)<|sR<|fp k8<|lp k8<|am k k<|oB h λv12 hv12 h=>ae (xl hv12 k) k<|lr k7 ?_;exact am k k<|cm k4<|an<|tn<|dC k h (λ_ h=>aQ fW<|am k k<|fp k8<|lp k8<|am k k<|oB h λv14 hv14 h=>ae (xl hv14 k) k<|lr k7<|am k k<|fp k8<|lp k8<|am k k<|oB h λv15 hv15 h=>ae (xl hv15 k) k<|lr k7<|oB h λv16 hv16 h=>ae (xo hv16 k) k<|ae (wp hv16 k) k<|ae (gK k k) k<|oB h λv17 hv17 h=>ae (xo hv17 k) k<|ae (gE aL jZ (u:=wr (v16 - 1)) (fC hv17) k k k k k k) k<|an<|nH (by kernel_rfl)<|aZ<|tn<|aN (t:=mN [(1,.ptr 0 0 0),(3,.own 1 0 x1.1.length),(4,.int x1.2),(5,.own 2 0 (((x2.1.set v8.toNat (wr (v10 - 1))).set v14.toNat (wr (v16 - 1))).length)),(6,.int x2.2)] [(0,⟨3,[eQ a0]⟩),(1,⟨1,x1.1.map (ow (bU 1 eI))⟩),(2,⟨1,List.map (ow eI) ((x2.1.set v8.toNat (wr (v10 - 1))).set v14.toNat (wr (v16 - 1)))⟩)] 3) (bO (pP 3 k2 (mO ⟨_,k,⟨k,k,(by simp only [aO,lA,lT,lR,lC,lN]),k⟩⟩ (bN k2))) (bS k<|cF (aV.plainO _) k<|cD k<|aR) k4)<|rg<|am k k<|ae (bJ k k) k<|aT k2<|sp h ⟨_,k,(bO (bN k2) (bS k<|cF (aV.plainO _) k<|cD k<|aR) k4)⟩) λ_ h=>aI<|aZ<|tn<|rg<|am k k<|ae (bJ k k) k<|aT k2<|sp h ⟨_,k,(bO (bN k2) (bS k<|cF (aV.plainO _) k<|cD k<|aR) k4)⟩
   ·exact aI<|tn<|sR<|fp k8<|lp k8<|am k k<|oB h λv18 hv18 h=>ae (xl hv18 k) k<|lr k7<|am k k<|cm k4<|an<|tn<|dC k h (λ_ h=>aQ fW<|am k k<|fp k8<|lp k8<|am k k<|oB h λv20 hv20 h=>ae (xl hv20 k) k<|lr k7<|am k k<|fp k8<|lp k8<|am k k<|oB h λv21 hv21 h=>ae (xl hv21 k) k<|lr k7<|oB h λv22 hv22 h=>ae (xo hv22 k) k<|ae (wp hv22 k) k<|ae (gK k k) k<|oB h λv23 hv23 h=>ae (xo hv23 k) k<|ae (gE aL jZ (u:=wr (v22 - 1)) (fC hv23) k k k k k k) k<|an<|nH (by kernel_rfl)<|aZ<|tn<|aN (t:=mN [(1,.ptr 0 0 0),(3,.own 1 0 x1.1.length),(4,.int x1.2),(5,.own 2 0 ((x2.1.set v20.toNat (wr (v22 - 1))).length)),(6,.int x2.2)] [(0,⟨3,[eQ a0]⟩),(1,⟨1,x1.1.map (ow (bU 1 eI))⟩),(2,⟨1,List.map (ow eI) (x2.1.set v20.toNat (wr (v22 - 1)))⟩)] 3) (bO (pP 3 k2 (mO ⟨_,k,⟨k,k,(by simp only [aO,lA,lT,lR,lC,lN]),k⟩⟩ (bN k2))) (bS k<|cF (aV.plainO _) k<|cD k<|aR) k4)<|rg<|am k k<|ae (bJ k k) k<|aT k2<|sp h ⟨_,k,(bO (bN k2) (bS k<|cF (aV.plainO _) k<|cD k<|aR) k4)⟩) λ_ h=>aI<|aZ<|tn<|rg<|am k k<|ae (bJ k k) k<|aT k2<|sp h ⟨_,k,(bO (bN k2) (bS k<|cF (aV.plainO _) k<|cD k<|aR) k4)⟩
  ·rintro e t ⟨rfl,hent⟩;exact aP<|tn<|aN hent<|rg<|am k k<|am k k<|ae (wl k) k<|cG h λq25 h=>ae (kZ aL (l:=x1.1) (c:=[.own 2 0 y24.length]) q25 k k k k k k k k k k k k k k) k<|aa k k<|an<|aZ<|tn<|aN (t:=mN [(1,.ptr 0 0 0),(3,.own 4 0 ((x1.1++[y24]).length)),(4,.int x1.2)] [(0,⟨3,[eQ a0]⟩),(4,⟨1,List.map (ow (bU 1 eI)) (x1.1++[y24])⟩)] 5) (Ent.trans (iS (b:=4) (b':=2) (j:=0) (es':=y24.map eI) k k k k (aO _ _) (cW.frzs _)) (bO (pP 1 k2 (mO ⟨_,k,⟨k,k,(by simp only [aO,lA,lT,lR,lC,lN]),k⟩⟩ (bN k2))) (bS k<|hX ⟨_,k,k,.inl ⟨qP y24 k,aV.plainO _⟩⟩ k<|aR) k4))<|rg<|am k k<|ae (bJ k k) k<|aT k2<|sp h ⟨_,k,(kE [0,4] (bN k2) (bS k<|cF (aV.plainO _) k<|aR) k4)⟩
 ·rintro e t ⟨rfl,hent⟩;exact aP<|tn<|aN hent<|sR<|am k k<|aT k2<|aG<|sp h (cA k k k (pS (gF aV k k)))
def nU (a0:aD) (a1:Int) (x1:(Int×aD)) (x2:(aA×Int)):Option ((aA×Int) ⊕ aA):=
 bif decide (x2.2<(a0.length:Int)) then
 (bif !decide (x2.2<0) then
 (bif decide (aCU (aBw a1 x2.2) 1=1) then
 ((cO a0 x1.1).bind λv5=>
 (cO v5 x2.2).bind λv6=>
 bif decide (x2.1.length+[v6].length <=4294967296) then
 (some (.inl ((x2.1++[v6]),wr (x2.2+1))))
 else none)
 else
 (some (.inl (x2.1,wr (x2.2+1)))))
 else none)
 else
 (some (.inr x2.1))
def sH (a0:aD) (a1:Int) (x1:(Int×aD)):Option ((Int×aD) ⊕ aD):=
 bif decide (x1.1<(a0.length:Int)) then
 (bif !decide (x1.1<0) then
 (bif decide (aCU (aBw a1 x1.1) 1=0) then
 (some (.inl (wr (x1.1+1),x1.2)))
 else
 ((Lp (nU a0 a1 x1) (([]:aA),0)).bind λy9=>
 bif decide (x1.2.length+1<=4294967296) then
 (some (.inl (wr (x1.1+1),(x1.2++[y9]))))
 else none))
 else none)
 else
 (some (.inr x1.2))
def wR (a0:aD) (a1:Int):Option aD:=
 (Lp (sH a0 a1) (0,([]:aD))).bind λy12=>
 some (y12)
theorem aIW (a0:aD) (a1:Int) (r:aD) (h:wR a0 a1=some r):HasC Tryz.prog 110 [.list 1 (a0.map (bU 1 eI)),.int a1] (.list 1 (r.map (bU 1 eI))):=by
 refine hM [.tmp 4] Tryz.func110 Tryz.ntmps110 k<|sR<|aT k2<|sR<|ae (wl k) k<|aT k2<|aN (t:=mN [(0,.list 1 (a0.map (bU 1 eI))),(1,.int a1),(5,.own 0 0 (([]:aD).length))] [(0,⟨1,List.map (ow (bU 1 eI)) ([]:aD)⟩)] 1) (bO (pP 2 k2 (mO ⟨_,k,⟨k,k,(by simp only [aO,lA,lT,lR,lC,lN]),k⟩⟩ aR)) (cF (aV.plainO _) k<|aR) k4)<|sQ<|sR<|aT k2<|aE<|oB h λy12 hy12 h=>cH (body:=(sH a0 a1)) hy12 (λ(x1:(Int×aD))=>mN [(0,.list 1 (a0.map (bU 1 eI))),(1,.int a1),(5,.own 0 0 x1.2.length),(6,.int x1.1)] [(0,⟨1,x1.2.map (ow (bU 1 eI))⟩)] 1) (λr e t=>e= .exit 0/\Ent t (mN [(5,.own 0 0 r.length)] [(0,⟨1,r.map (ow (bU 1 eI))⟩)] 1)) (bO (bN k2) (cF (aV.plainO _) k<|aR) k4) ?_ ?_
 ·intro x1 o h;refine sQ<|sR<|am k k<|am k k<|ln k4<|cm k4<|an<|tn<|dC k h (λ_ h=>?_) λ_ h=>bA<|aB<|aB<|sp h ⟨_,k,k,(bO (bN k2) (cF (aV.plainO _) k<|aR) k4)⟩;refine aI<|tn<|sQ<|aE<|sQ<|sR<|am k k<|am k k<|cG h λq11 h=>ae (aRK k k q11) k<|ae (aJm k k) k<|cm k4<|an<|tn<|dC k h (λ_ h=>bA<|aB<|aP<|tn<|rg<|am k k<|ae (bJ k k) k<|aT k2<|sp h ⟨_,k,(bO (bN k2) (cF (aV.plainO _) k<|aR) k4)⟩) λ_ h=>?_;refine aI<|tn<|sR<|ae (wl k) k<|aT k2<|aN (t:=mN [(0,.list 1 (a0.map (bU 1 eI))),(1,.int a1),(5,.own 0 0 x1.2.length),(6,.int x1.1),(7,.own 1 0 (([]:aA).length))] [(0,⟨1,x1.2.map (ow (bU 1 eI))⟩),(1,⟨1,List.map (ow eI) ([]:aA)⟩)] 2) (bO (pP 4 k2 (mO ⟨_,k,⟨k,k,(by simp only [aO,lA,lT,lR,lC,lN]),k⟩⟩ aR)) (cF (aV.plainO _) k<|cD k<|aR) k4)<|sQ<|sR<|aT k2<|aE<|oB h λy9 hy9 h=>cH (body:=(nU a0 a1 x1)) hy9 (λ(x2:(aA×Int))=>mN [(0,.list 1 (a0.map (bU 1 eI))),(1,.int a1),(5,.own 0 0 x1.2.length),(6,.int x1.1),(7,.own 1 0 x2.1.length),(8,.int x2.2)] [(0,⟨1,x1.2.map (ow (bU 1 eI))⟩),(1,⟨1,x2.1.map (ow eI)⟩)] 2) (λr e t=>e= .exit 2/\Ent t (mN [(0,.list 1 (a0.map (bU 1 eI))),(1,.int a1),(5,.own 0 0 x1.2.length),(6,.int x1.1),(7,.own 1 0 r.length)] [(0,⟨1,x1.2.map (ow (bU 1 eI))⟩),(1,⟨1,r.map (ow eI)⟩)] 2)) (bO (bN k2) (cF (aV.plainO _) k<|cD k<|aR) k4) ?_ ?_
  ·intro x2 o h;exact sQ<|sR<|am k k<|am k k<|ln k4<|cm k4<|an<|tn<|dC k h (λ_ h=>aI<|tn<|sQ<|aE<|sR<|am k k<|am k k<|cG h λq8 h=>ae (aRK k k q8) k<|ae (aJm k k) k<|cm k4<|an<|tn<|dC k h (λ_ h=>rg<|am k k<|am k k<|am k k<|oB h λv5 hv5 h=>ae (xl hv5 k) k<|lr k7<|am k k<|oB h λv6 hv6 h=>ae (xl hv6 k) k<|lr k7<|ae (wl k) k<|cG h λq7 h=>ae (lO aL (l:=x2.1) (m:=[v6]) jZ q7 k k k k k k k k k k k k) k<|aa k k<|an<|aZ<|tn<|rg<|am k k<|ae (bJ k k) k<|aT k2<|sp h ⟨_,k,(kE [0,3] (bN k2) (cF (aV.plainO _) k<|cD k<|aR) k4)⟩) λ_ h=>aI<|aZ<|tn<|rg<|am k k<|ae (bJ k k) k<|aT k2<|sp h ⟨_,k,(bO (bN k2) (cF (aV.plainO _) k<|cD k<|aR) k4)⟩) λ_ h=>bA<|aB<|aB<|sp h ⟨_,k,k,(bO (bN k2) (cF (aV.plainO _) k<|cD k<|aR) k4)⟩
  ·rintro e t ⟨rfl,hent⟩;exact aP<|tn<|aN hent<|rg<|am k k<|am k k<|ae (wl k) k<|cG h λq10 h=>ae (kZ aL (l:=x1.2) (c:=[.own 1 0 y9.length]) q10 k k k k k k k k k k k k k k) k<|aa k k<|an<|aZ<|tn<|aN (t:=mN [(0,.list 1 (a0.map (bU 1 eI))),(1,.int a1),(5,.own 3 0 ((x1.2++[y9]).length)),(6,.int x1.1)] [(3,⟨1,List.map (ow (bU 1 eI)) (x1.2++[y9])⟩)] 4) (Ent.trans (iS (b:=3) (b':=1) (j:=0) (es':=y9.map eI) k k k k (aO _ _) (cW.frzs _)) (bO (pP 2 k2 (mO ⟨_,k,⟨k,k,(by simp only [aO,lA,lT,lR,lC,lN]),k⟩⟩ (bN k2))) (hX ⟨_,k,k,.inl ⟨qP y9 k,aV.plainO _⟩⟩ k<|aR) k4))<|rg<|am k k<|ae (bJ k k) k<|aT k2<|sp h ⟨_,k,(kE [3] (bN k2) (cF (aV.plainO _) k<|aR) k4)⟩
 ·rintro e t ⟨rfl,hent⟩;exact aP<|tn<|aN hent<|sR<|am k k<|aT k2<|aG<|sp h (cA k k k (pS (gF aV k k)))
def mW (a0:Qv) (v3:aD) (x1:(Int×Int)):Option ((Int×Int) ⊕ (Int ⊕ Int)):=
 bif !decide (a0.n<0) then
 (bif decide (x1.2<aQI 1 a0.n) then
 ((wR v3 x1.2).bind λv5=>
 (tD 8 v5).bind λv6=>
 bif decide (v6<0) then
 (some (.inr (.inr (3))))
 else
 (bif decide (v6=0) then
 (some (.inl (2,wr (x1.2+1))))
 else
 (some (.inl (x1.1,wr (x1.2+1))))))
 else
 (some (.inr (.inl x1.1))))
 else none
def fQ (a0:Qv):Option Int:=
 (fS a0).bind λv1=>
 bif !v1 then
 (some (0))
 else
 ((lF a0).bind λv3=>
 (Lp (mW a0 v3) (1,1)).bind λy10=>
 Sum.elim (λy11=>
 some (y11)
 )
 (λy12=>
 some y12
 )
 y10)
theorem aAS (a0:Qv) (r:Int) (h:fQ a0=some r):HasC Tryz.prog 30 [.agg (eQ a0)] (.int r):=by
 refine hM [.tmp 2] Tryz.func30 Tryz.ntmps30 k<|sR<|ae (wb k) k<|aT k2<|sQ<|sR<|lp k8<|oB h λv1 hv1 h=>ae (aS (oM a0 v1 hv1) k (aX (iL k) aU)) k<|ae (fB k) k<|an<|tn<|dC k h (λ_ h=>sR<|aT k2<|aG<|aM<|xQ h k2) λ_ h=>?_;refine aI<|tn<|sR<|lp k8<|oB h λv3 hv3 h=>ae (cL aV (zW a0 v3 hv3) k3 (aX (iL k) aU)) k<|aT k2<|sR<|aT k2<|sQ<|sR<|aT k2<|aE<|oB h λy10 hy10 h=>cH (body:=(mW a0 v3)) hy10 (λ(x1:(Int×Int))=>mN [(1,.ptr 0 0 0),(3,.own 1 0 v3.length),(4,.int x1.1),(5,.int x1.2)] [(0,⟨3,[eQ a0]⟩),(1,⟨1,v3.map (ow (bU 1 eI))⟩)] 2) (λr e t=>Sum.elim (λa=>(λr e t=>e= .exit 0/\Ent t (mN [(4,.int r)] [] 0)) a e t) (λb=>(λr e t=>e= .ret/\uI TT [.tmp 2] (.int r) .ret t) b e t) r) (bO (bN k2) (bS k<|cF (aV.plainO _) k<|aR) k4) ?_ ?_
 ·intro x1 o h;exact sQ<|sR<|am k k<|fp k8<|lp k8<|cG h λq9 h=>ae (aUa k k q9) k<|cm k4<|an<|tn<|dC k h (λ_ h=>aI<|tn<|sQ<|aE<|sR<|am k k<|am k k<|oB h λv5 hv5 h=>ae (cL aV (aIW v3 x1.2 v5 hv5) k3 (aX (aCM aV k k) (dF k aU))) k<|oB h λv6 hv6 h=>ae (aS (aEu 8 v5 v6 hv6) k (aX (aCM aV k k) aU)) k<|aT k2<|sQ<|sR<|am k k<|cm k4<|an<|tn<|dC k h (λ_ h=>sR<|aT k2<|aG<|aM<|bX<|aM<|aM<|sp h ⟨_,k,k,cA k k k (aGj k)⟩) λ_ h=>aI<|tn<|sR<|am k k<|cm k4<|an<|tn<|dC k h (λ_ h=>rg<|aa k k<|an<|aZ<|tn<|rg<|am k k<|ae (bJ k k) k<|aT k2<|sp h ⟨_,k,(bO (bN k2) (bS k<|cF (aV.plainO _) k<|aR) k4)⟩) λ_ h=>aI<|aZ<|tn<|rg<|am k k<|ae (bJ k k) k<|aT k2<|sp h ⟨_,k,(bO (bN k2) (bS k<|cF (aV.plainO _) k<|aR) k4)⟩) λ_ h=>bA<|aB<|aB<|sp h ⟨_,k,k,(bO (bN k2) aR k4)⟩
 ·intro e t hX;rcases y10 with y11|y12
  ·obtain ⟨rfl,hent⟩:=hX;exact aP<|tn<|aN hent<|sR<|am k k<|aT k2<|aG<|xQ h k2
  ·obtain ⟨rfl,hent⟩:=hX;exact bX<|aM<|sp h hent
end
section
set_option maxHeartbeats 1000000 in
theorem aWS (x y:Nat) (hx:x<18446744073709551616) (hy:y<18446744073709551616) (w:World):
  Calls Tryz.prog 270 #[.int .u64 x,.int .u64 y] w λe w'=>e= .returned (.tuple #[.int .u64 ((x*y / 18446744073709551616:Nat):Int),.int .u64 ((x*y % 18446744073709551616:Nat):Int)])/\w'=w:=by
 obtain ⟨bd,bt,bw,hhi⟩:=Lib.mul64_hi x y hx hy;have ba:=Lib.half_mul_le (a:=x / 4294967296) (b:=y / 4294967296) (by omega) (by omega);have bb:=Lib.half_mul_le (a:=x / 4294967296) (b:=y % 4294967296) (by omega) (by omega);have bc:=Lib.half_mul_le (a:=x % 4294967296) (b:=y / 4294967296) (by omega) (by omega);have ba':x / 4294967296*(y / 4294967296)<18446744073709551616:=by omega
 have bb':x / 4294967296*(y % 4294967296)<18446744073709551616:=by omega
 have bc':x % 4294967296*(y / 4294967296)<18446744073709551616:=by omega
 have bh1:x / 4294967296*(y / 4294967296)+(x / 4294967296*(y % 4294967296)+x % 4294967296*(y % 4294967296) / 4294967296) / 4294967296<18446744073709551616:=by omega
 have bh:x / 4294967296*(y / 4294967296)+(x / 4294967296*(y % 4294967296)+x % 4294967296*(y % 4294967296) / 4294967296) / 4294967296+((x / 4294967296*(y % 4294967296)+x % 4294967296*(y % 4294967296) / 4294967296) % 4294967296+x % 4294967296*(y / 4294967296)) / 4294967296<18446744073709551616:=by omega
 go_enter Tryz.func270,Tryz.ntmps270
 go_wp2
 simp only [Mul64.maskN x hx,Mul64.maskN y hy,Mul64.divN,Mul64.mulN,Mul64.addN,Mul64.wrapN _ bd,Mul64.wrapN _ bb',Mul64.wrapN _ bt,Mul64.maskN _ bt,Mul64.wrapN _ bc',Mul64.wrapN _ bw,Mul64.wrapN _ ba',Mul64.wrapN _ bh1,Mul64.wrapN _ bh,Mul64.wrapM (x*y)];rw [hhi]
 go_ret2
 exact ⟨rfl,rfl⟩
set_option maxHeartbeats 1000000 in
theorem aZR (x y:Nat) (hx:x<18446744073709551616) (hy:y<18446744073709551616) (w:World):
  Calls Tryz.prog 259 #[.int .u64 x,.int .u64 y] w λe w'=>e= .returned (.tuple #[.int .u64 ((x*y / 18446744073709551616:Nat):Int),.int .u64 ((x*y % 18446744073709551616:Nat):Int)])/\w'=w:=by
 have c64:=aWS x y hx hy w
 go_enter Tryz.func259,Tryz.ntmps259
 go_wp2_with (go_at_call 270;refine c64.mono ?_;rintro e w' ⟨rfl,hw⟩;rw [hw])
 go_ret2
 exact ⟨rfl,rfl⟩
theorem aXZ (x y:Nat) (hx:x<18446744073709551616) (hy:y<18446744073709551616) (hxy:x*y<18446744073709551616):HasC Tryz.prog 259 [.sc (.int .u64 x),.sc (.int .u64 y)] (.tuple [.sc (.int .u64 0),.sc (.int .u64 ((x*y:Nat):Int))]):=by
 refine ⟨Enters.mk Tryz.func259 (by kernel_rfl) (by kernel_rfl),λw args S hargs=>?_⟩;obtain ⟨args⟩:=args;simp only [RepVs] at hargs;obtain ⟨v,r,S1,S2,h1,rfl,h3,v2,r2,S3,S4,h4,rfl,h6,rfl,rfl⟩:=hargs;simp only [RepD] at h3 h6;obtain ⟨rfl,_,rfl⟩:=h3;obtain ⟨rfl,_,rfl⟩:=h6;subst h4;subst h1;refine (aZR x y hx hy w).mono λe w' ⟨he,hw⟩=>?_;subst hw;refine ⟨_,[],he,Below.refl _ _,⟨_,rfl,?_⟩,New.nil _⟩;have e1:x*y / 18446744073709551616=0:=Nat.div_eq_of_lt hxy;have e2:x*y % 18446744073709551616=x*y:=Nat.mod_eq_of_lt hxy;rw [e1,e2];exact ⟨_,_,[],[],rfl,rfl,⟨rfl,rfl,rfl⟩,_,_,[],[],rfl,rfl,⟨rfl,rfl,rfl⟩,rfl,rfl⟩
theorem aIj (n:Nat) (hn:n<9223372036854775808) (w:World):(convert 3 177 (.int .i64 n)).run Tryz.prog w= .ok (.int .u64 n) w:=by
 have e:IntKind.u64.wrap (n:Int)=(n:Int):=by rw [IntKind.wrap_u64];omega
 simp [convert,go_sem,Tryz.underlying3,Tryz.underlying177,e]
theorem aRM (n:Nat) (hn:n<9223372036854775808) (w:World):(convert 177 3 (.int .u64 n)).run Tryz.prog w= .ok (.int .i64 n) w:=by
 have e:IntKind.i64.wrap (n:Int)=(n:Int):=by rw [IntKind.wrap_i64];omega
 simp [convert,go_sem,Tryz.underlying3,Tryz.underlying177,e]
theorem aUg (c:Int) (n:Nat) (h0:0<n) (hn:n<=1048576):HasC Tryz.prog 227 [.list 1 ([c].map eI),.int n] (.list 1 ((List.replicate n c).map eI)):=by
 refine aBY aL (ns:=[0,1,2,3,4,5,6,7]) Tryz.func227 rfl rfl Tryz.ntmps227 rfl rfl rfl ?_
 repeat (first|refine gD ?_|refine mB ?_|refine fM ?_|refine tH ?_|refine bG (fF rfl) rfl rfl rfl ?_|refine bG (gH rfl) rfl rfl rfl ?_|refine bG (aDO rfl rfl rfl) rfl rfl rfl ?_)
 refine vT rfl (λh=>?_) (λh=>?_)
 ·simp at h;omega
 repeat (first|refine mB ?_|refine fM ?_|refine aI ?_|refine bG (fF rfl) rfl rfl rfl ?_|refine bG (yI aL rfl rfl rfl) rfl rfl rfl ?_)
 refine bG (rJ (u:= .int .i64 ((1:Nat):Int)) rfl rfl (aIj 1 (by omega))) rfl rfl rfl ?_
 repeat (first|refine bG (fF rfl) rfl rfl rfl ?_)
 refine bG (rJ (u:= .int .i64 (n:Int)) rfl rfl (aIj n (by omega))) rfl rfl rfl ?_;refine bG (gJ (aXZ 1 n (by omega) (by omega) (by omega)) rfl rfl rfl rfl (cV trivial (cV trivial kM)) (aX (aEN rfl) (aX (aEN rfl) aU))) rfl rfl rfl ?_
 repeat (first|refine gD ?_|refine mB ?_|refine fM ?_|refine tH ?_|refine bG (fF rfl) rfl rfl rfl ?_|refine bG (gH rfl) rfl rfl rfl ?_|refine bG (aDO rfl rfl rfl) rfl rfl rfl ?_|refine bG (aCC rfl rfl) rfl rfl rfl ?_|refine bG (aW rfl rfl (by intro _ h;cases h)) rfl rfl rfl ?_)
 refine vT rfl (λh=>?_) (λh=>?_)
 ·have:=of_decide_eq_true h;omega
 repeat (first|refine mB ?_|refine fM ?_|refine aI ?_|refine bG (fF rfl) rfl rfl rfl ?_)
 refine bG (rJ (u:= .int .u64 ((1*n:Nat):Int)) rfl rfl (aRM (1*n) (by omega))) rfl rfl rfl ?_;refine bG (AEff.conv (aAD aL (n:=((1*n:Nat):Int)) (by simp;omega) rfl rfl rfl rfl rfl rfl rfl rfl) (v':= .own 0 0 n) (ed':=[(0,some ⟨1,(List.replicate n (0:Int)).map (ow eI)⟩)]) (by simp) (by rw [←aAy];simp only [dX,Nat.one_mul];rfl)) rfl rfl rfl ?_
 repeat (first|refine gD ?_|refine mB ?_|refine fM ?_|refine bG (fF rfl) rfl rfl rfl ?_|refine bG (gH rfl) rfl rfl rfl ?_)
 refine bG (AEff.conv (aUf aL (i:=0) (l:=List.replicate n (0:Int)) (m:=[c]) (by simp;omega) (by simp) rfl rfl rfl rfl rfl rfl rfl rfl) (v':= .int ((1:Nat):Int)) (ed':=[(0,some ⟨1,(List.replicate 1 c++List.replicate (n - 1) 0).map (ow eI)⟩)])
  (by rw [show min [c].length n=1 by simp;omega]) (by rw [show min [c].length n=1 by simp;omega];simp [List.drop_replicate])) rfl rfl rfl ?_
 repeat (first|refine gD ?_|refine mB ?_|refine aE ?_|refine bG (gH rfl) rfl rfl rfl ?_)
 refine aIa (ι:=Nat) (λk=>mkS [(7,.own 0 0 n),(8,.int k)] [(0,⟨1,(List.replicate k c++List.replicate (n - k) 0).map (ow eI)⟩)] 1 [1,2,3,4]) (λk=>1<=k/\k<=n) (λk=>n - k) 1 ⟨bP _,h0⟩ ?_ ?_
 ·refine kB (σ:=sg [(0,0)]) ⟨⟨_,rfl,⟨rfl,rfl,rfl,rfl⟩⟩,⟨_,rfl,rfl⟩,trivial⟩ ⟨⟨_,rfl,rfl,.inl ⟨rfl,aAj _⟩⟩,rfl,trivial⟩ rfl
 ·rintro k ⟨hk1,hkn⟩
  repeat (first|refine gD ?_|refine mB ?_|refine fM ?_|refine tH ?_|refine bG (fF rfl) rfl rfl rfl ?_|refine bG (aDO rfl rfl rfl) rfl rfl rfl ?_|refine bG (cN aL rfl rfl rfl rfl) rfl rfl rfl ?_)
  refine vT rfl (λh=>?_) (λh=>?_)
  ·have hlt:k<n:=by have:=of_decide_eq_true h;omega
   clear h
   repeat (first|refine tH ?_|refine aQ MIX ?_|refine aE ?_|refine aI ?_|refine bG (fF rfl) rfl rfl rfl ?_)
   refine bG (AEff.val (zP aL (l:=(k:Int)) (h:=(n:Int)) (by simp;omega) rfl rfl rfl rfl rfl rfl rfl rfl) (v':= .own 0 k (n - k)) (by simp)) rfl rfl rfl ?_
   repeat (first|refine bG (fF rfl) rfl rfl rfl ?_)
   refine bG (AEff.val (zP aL (l:=(0:Int)) (h:=(k:Int)) (by simp;omega) rfl rfl rfl rfl rfl rfl rfl rfl) (v':= .own 0 0 k) (by simp)) rfl rfl rfl ?_
   refine bG (AEff.conv (aUf aL (i:=k) (nd:=n - k) (l:=List.replicate k c++List.replicate (n - k) 0) (m:=(((List.replicate k c++List.replicate (n - k) 0).drop 0).take k)) (by simp;omega) (by simp;omega) rfl rfl rfl (aXu cW rfl) rfl rfl rfl rfl) (v':= .int ((min k (n - k):Nat):Int)) (ed':=[(0,some ⟨1,(List.replicate (k+min k (n - k)) c++List.replicate (n - (k+min k (n - k))) 0).map (ow eI)⟩)])
    (by congr 3;simp) ?_) rfl rfl rfl ?_
   ·have e1:(((List.replicate k c++List.replicate (n - k) 0).drop 0).take k)=List.replicate k c:=by simp
    rw [e1,List.length_replicate];congr 4;rw [List.take_left' (by simp),List.take_replicate,List.drop_append,List.drop_of_length_le (by simp),List.nil_append,List.drop_replicate,List.length_replicate,List.replicate_append_replicate,show min (min k (n - k)) k=min k (n - k) by omega,show n - k - (k+min k (n - k) - k)=n - (k+min k (n - k)) by omega]
   refine bG (bJ rfl rfl) rfl rfl rfl ?_
   repeat (first|refine gD ?_|refine bG (gH rfl) rfl rfl rfl ?_)
   refine ⟨by kernel_rfl,?_⟩
   repeat (first|refine tH ?_|refine aZ ?_)
   refine ⟨k+min k (n - k),⟨by omega,by omega⟩,by omega,?_⟩;refine kB (σ:=sg [(0,0)]) ⟨⟨_,rfl,⟨rfl,rfl,rfl,rfl⟩⟩,⟨_,rfl,?_⟩,trivial⟩ ⟨⟨_,rfl,rfl,.inl ⟨rfl,aAj _⟩⟩,rfl,trivial⟩ rfl;show Value.int .i64 (wr ((k:Int)+((min k (n - k):Nat):Int)))=_;rw [aNt (by omega)];rfl
  ·have hlt:k=n:=by have:=of_decide_eq_false h;omega
   subst hlt;clear h
   repeat (first|refine gD ?_|refine mB ?_|refine fM ?_|refine tH ?_|refine bA ?_|refine aG ?_|refine bG (fF rfl) rfl rfl rfl ?_|refine bG (gH rfl) rfl rfl rfl ?_)
   refine cA rfl rfl rfl ?_;have e1:(List.replicate k c++List.replicate (k - k) (0:Int))=List.replicate k c:=by simp
   refine pS (gF cW (l:=List.replicate k c) ?_ (by simp));show some (⟨1,(List.replicate k c++List.replicate (k - k) (0:Int)).map (ow eI)⟩:Blk)=some ⟨1,(List.replicate k c).map (ow eI)⟩;rw [e1]
end
end Go.Proofs.YtgkfbfiiaphgoaaGreat

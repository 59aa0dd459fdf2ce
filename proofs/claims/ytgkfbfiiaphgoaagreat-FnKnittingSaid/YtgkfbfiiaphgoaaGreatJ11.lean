/-
  Several texts of the claim in one.
-/
import Derived.Shelf.Bits.Mul64
import Derived.Test.YtgkfbfiiaphgoaaGreatJ10
set_option linter.unusedVariables false
set_option linter.unusedSimpArgs false
namespace Go.Proofs.YtgkfbfiiaphgoaaGreat
open Go.RowKit
noncomputable section
set_option maxRecDepth 10000
theorem aEJ {w:World} {h:Hp} {u:Us} {ν:Nu} : ∀ {x:List Int} {vs:List Value} {S:List Nat},CellsRep w h u ν (x.map (ow eI)).flatten vs S→vs=x.map (Value.int .i64)
 | [],vs,S,h=>h.1
 |z::x,vs,S,h=>by
  simp only [List.map_cons,List.flatten_cons] at h;obtain ⟨v,r,S1,S2,rfl,rfl,h3,h4⟩:=h;have h5:v=Value.int .i64 z:=h3.1.1;rw [h5,aEJ h4];rfl
theorem aNz {w:World} {h:Hp} {u:Us} {ν:Nu} : ∀ {x:List Int} {vs:List Value},All2 (Rep1 w h u ν) (x.map eI).flatten vs→vs=x.map (Value.int .i64)
 | [],vs,h=>h
 |z::x,vs,h=>by
  simp only [List.map_cons,List.flatten_cons] at h;obtain ⟨v,r,rfl,h3,h4⟩:=h;have h5:v=Value.int .i64 z:=h3.1;rw [h5,aNz h4];rfl
theorem aEK {w:World} {h:Hp} {u:Us} {ν:Nu} : ∀ {x:List Int},CellsRep w h u ν (x.map (ow eI)).flatten (x.map (Value.int .i64)) []
 | []=>⟨rfl,rfl⟩
 |z::x=>⟨_,_,[],[],rfl,rfl,⟨⟨rfl,rfl⟩,rfl⟩,aEK⟩
theorem aLk {hp:Hp} {x:List Int} :(x.map eI).flatten.all (okCell hp)=true:=by
 rw [List.all_eq_true];intro c hc;obtain ⟨cs,hcs,hc⟩:=List.mem_flatten.1 hc;obtain ⟨z,_,rfl⟩:=List.mem_map.1 hcs;simp only [eI,List.mem_singleton] at hc;subst hc;rfl
theorem aOA {P:Program} {T:List (Nat×Ty)} (hT:TyOk P T) {dst:Option Tmp} {dty:TypeId} {pos:String} {aft:Array Edge} {g:Option (Nat×Bool)} {s:AState} {xd xs:Operand} {t et:Nat} {y ye:Ty} {b i nd:Nat} {l m:List Int} {sv:AV} {ts:List Nat}
  (hin:i<l.length) (hm:0<m.length) (hx:s.ev xd=some (.own b i nd)) (hb:s.heap b=some ⟨1,l.map (ow eI)⟩) (hz:s.ev xs=some sv) (hsrc:uJ s.heap sv=some (1,m.map eI,ts)) (hy:eG T t=some y) (hd:y.desc= .slice et) (hye:eG T et=some ye) (hk1:ye.size=1):
  AEff P ⟨dst,.call ⟨.builtin .copy,#[xd,xs],#[t,t]⟩,dty,pos,aft,g⟩ s.ev s.heap s.kp ⟨.int (min m.length nd:Nat),b::ts,[(b,some ⟨1,(l.take i++m.take (min m.length nd)++l.drop (i+min m.length nd)).map (ow eI)⟩)],[]⟩:=by
 refine ⟨λC s' ν a w Q K {hκ} hi' ht hnw hd' hs hK=>?_⟩;have h1:=hs.ev ((hi' xd (by simp [Op.operands,Call.operands])).trans hx);have h2:=hs.ev ((hi' xs (by simp [Op.operands,Call.operands])).trans hz);have hb':s'.heap b=some ⟨1,l.map (ow eI)⟩:=(ht b (by simp)).trans hb;obtain ⟨ao,c0,vs,e1,e2,e3,e4,e5⟩:=hs.src h2 hsrc (λb hb=>ht b (by simp [hb])) aLk;have hvs:=aNz e4;simp only [RepA,RepB,Rep1] at h1;obtain ⟨hfit,hnn,hsl⟩:=h1.2 _ hb';obtain ⟨φ,hh⟩:=hs.heap;obtain ⟨hub,⟨hk,hx2⟩,hnd,hB⟩:=hh.blk b _ hb';simp only [jG] at hfit;rcases hx2 with ⟨q1,q2,_⟩|⟨β,c,arr,ty',T',vs',q1,q2,q3,q4,q5,q6,q7,q8⟩
 ·have:l=[]:=by simpa using q2
  rw [this] at hin;simp at hin
 simp only [jG,Nat.mul_one] at q3 q4 q7;have hT':=aBv q8;have hv':=aEJ q8;subst hT';have hsl':=(hsl β c q1).pos (by omega);simp only [Nat.mul_one] at hsl';obtain ⟨k,hk0⟩: ∃ k,k=min m.length nd:=⟨_,rfl⟩;rw [←hk0] at hK;have hkm:k≤m.length:=by omega
 have hkn:k≤nd:=by omega
 obtain ⟨i1,z1,d1,y1⟩:=hT.is hy;obtain ⟨i2,z2,d2,y2⟩:=hT.is hye
 obtain ⟨ad,rfl,e6⟩: ∃ ad,ao=some ad∧ ∀ j u,vs[j]? =some u→w.cell? (ad.add j)=some u:=by
  rcases e5 with h|h
  ·rw [jG] at h;omega
  ·exact h
 have hcl:((m.take k).map (Value.int .i64)).length=k:=by simp;omega
 have hrun:=run_copy_row (P:=P) w t t dty et β i nd (c - i) ad (m.map eI).length c0 arr ty' ((m.take k).map (Value.int .i64)) (y1.slice hd) (by rw [y2.info];simp [y2.size,hk1]) q2 (by rw [hcl,jG,hk0])
  (λj v hj=>e6 j v (by
   rw [hvs];have hjk:j<k:=by have:=(List.getElem?_eq_some_iff.1 hj).1;omega
   rw [List.map_take,List.getElem?_take_of_lt hjk] at hj
   exact hj)) (by omega) (λv hv=>by obtain ⟨z,_,rfl⟩:=List.mem_map.1 hv;rfl)
 rw [hcl] at hrun;generalize hw':w.setRow β (arr.toList.take i++(m.take k).map (Value.int .i64)++arr.toList.drop (i+k)).toArray=w' at hrun
 have hexec:(execOp a.eval ⟨dst,.call ⟨.builtin .copy,#[xd,xs],#[t,t]⟩,dty,pos,aft,g⟩).run P w= .ok (.value (.int .i64 k)) w':=by
  have h0:execOp a.eval ⟨dst,.call ⟨.builtin .copy,#[xd,xs],#[t,t]⟩,dty,pos,aft,g⟩=(do let v ←Builtin.copy_ #[t,t] dty #[a.eval xd,a.eval xs];pure (.value v):Sem Next):=by
   simp [execOp,resolve,invoke,builtin]
  rw [h0,hsl',e1,Sem.run_bind,hrun];simp [goInt]
 unfold Oper.wp;rw [hexec];simp only [Oper.upon];have hothers: ∀ x,x≠β→w'.heap[x]? =w.heap[x]? :=λx hx=>by rw [←hw'];exact nX hx
 have hβ:w'.heap[β]? =some (.cells (arr.toList.take i++(m.take k).map (Value.int .i64)++arr.toList.drop (i+k)).toArray ty' (0,0)):=by rw [←hw'];exact setRow_heap w β arr _ ty' (0,0) q2
 have hll:(l.take i++m.take k++l.drop (i+k)).length=l.length:=by simp;omega
 have ext:Ext w s'.heap s'.used ν w' (aY [(b,some ⟨1,(l.take i++m.take k++l.drop (i+k)).map (ow eI)⟩)] s'.heap) s'.used ν:=by
  refine ⟨λ_ h=>h,λb2 blk2 _ hb2=>?_,λx hx hf=>⟨hothers x (λe=>hf b _ β c hb' q1 e.symm),λb2 blk2 β2 c2 hb2 hν2=>?_⟩,rfl⟩
  ·by_cases e:b2=b
   ·subst e;simp only [aY,bP,aM,Option.some.injEq] at hb2;subst hb2;exact ⟨_,hb',rfl,by simp only [jG];exact hll.symm,rfl⟩
   ·simp only [aY,bR e,aU] at hb2;exact ⟨blk2,hb2,rfl,rfl,rfl⟩
  ·by_cases e:b2=b
   ·subst e;exact hf b2 _ β2 c2 hb' hν2
   ·simp only [aY,bR e,aU] at hb2;exact hf b2 blk2 β2 c2 hb2 hν2
 refine hK ν _ _ (hs.step (x:= .int (k:Nat)) (v:= .int .i64 k) hd' (s':=s'.app dst _) (by exact ext) (by rw [←hw'];exact tP (C.low _ (hB β (by rw [q6];simp)))) ⟨φ,?_,?_⟩ rfl (qJ rfl))
 ·intro x blk2 hx2;by_cases e:x=b
  ·subst e;simp only [AState.app,aY,bP,aM,Option.some.injEq] at hx2;subst hx2;refine ⟨hub,⟨?_,.inr ⟨β,c,_,ty',[],_,q1,hβ,?_,by simp only [jG];omega,q5,q6,rfl,?_⟩⟩,hnd,hB⟩
   ·intro cs hcs;obtain ⟨z,_,rfl⟩:=List.mem_map.1 hcs;rfl
   ·simp;omega
   ·have harr:arr.toList.take l.length=l.map (Value.int .i64):=by rw [q7,hv']
    have h5:(arr.toList.take i++(m.take k).map (Value.int .i64)++arr.toList.drop (i+k)).toArray.toList.take ((l.take i++m.take k++l.drop (i+k)).map (ow eI)).length=(l.take i++m.take k++l.drop (i+k)).map (Value.int .i64):=by
     rw [jG,hll];simp only [List.map_append,List.map_take,List.map_drop,←harr];have hal:arr.toList.length=c:=by simpa using q3
     rw [List.take_append,List.take_append,List.take_take,List.take_take];simp only [List.length_append,List.length_take,jG,hal,List.take_drop];rw [show min i c=i by omega,show min (l.length - i) k=k by omega,show i+k+(l.length - (i+min k m.length))=l.length by omega,List.take_take];simp only [show min l.length i=i by omega,show min i l.length=i by omega]
    rw [Nat.mul_one,h5];exact aEK
  ·simp only [AState.app,aY,bR e,aU] at hx2;obtain ⟨p1,p2,p3,p4⟩:=hh.blk x blk2 hx2;refine ⟨p1,p2.ext ext rfl (λy hy=>hothers y ?_),p3,p4⟩;rintro rfl;exact hh.apart x b y (by rw [hx2];simp) (by rw [hb'];simp) e hy (by rw [q6];simp)
 ·intro x1 x2 yy hx1 hx2 hne hy1 hy2
  have hlive: ∀ x,(s'.app dst ⟨.int (k:Nat),b::ts,[(b,some ⟨1,(l.take i++m.take k++l.drop (i+k)).map (ow eI)⟩)],[]⟩).heap x≠none→s'.heap x≠none:=by
   intro x hx;by_cases e:x=b
   ·subst e;rw [hb'];simp
   ·simpa only [AState.app,aY,bR e,aU] using hx
  exact hh.apart x1 x2 yy (hlive x1 hx1) (hlive x2 hx2) hne hy1 hy2
end
noncomputable section
theorem k2 {αa:Sort _} {a:αa} {αb:Sort _} {b:αb} :a=a∧b=b:=⟨rfl,rfl⟩
theorem k3 {αa:Sort _} {a:αa} {αb:Sort _} {b:αb} {αc:Sort _} {c:αc} :a=a∧b=b∧c=c:=⟨rfl,rfl,rfl⟩
theorem k4 {αa:Sort _} {a:αa} {αb:Sort _} {b:αb} {αc:Sort _} {c:αc} {αd:Sort _} {d:αd} :a=a∧b=b∧c=c∧d=d:=⟨rfl,rfl,rfl,rfl⟩
theorem k7 {αa:Sort _} {a:αa} {αb:Sort _} {b:αb} {αc:Sort _} {c:αc} {αd:Sort _} {d:αd} {αe:Sort _} {e:αe} {αf:Sort _} {f:αf} {αg:Sort _} {g:αg} :a=a∧b=b∧c=c∧d=d∧e=e∧f=f∧g=g:=⟨rfl,rfl,rfl,rfl,rfl,rfl,rfl⟩
theorem k8 {αa:Sort _} {a:αa} {αb:Sort _} {b:αb} {αc:Sort _} {c:αc} {αd:Sort _} {d:αd} {αe:Sort _} {e:αe} {αf:Sort _} {f:αf} {αg:Sort _} {g:αg} {αh:Sort _} {h:αh} :a=a∧b=b∧c=c∧d=d∧e=e∧f=f∧g=g∧h=h:=⟨rfl,rfl,rfl,rfl,rfl,rfl,rfl,rfl⟩
section
variable {ops:Array Oper} {nt:Nat} {r:List Oper} {s:AState} {tr:List Tr} {K:List Tr→AState→Prop} {K':AState→Prop} {d:Option Tmp} {ty:TypeId} {pos:String} {aft:Array Edge} {g:Option (Nat×Bool)}
theorem lp {x:Operand} {t:Nat} {y:Ty} {b i j:Nat} {blk:Blk} {cs:List AV} {v:AV} (h:s.ev x=some (.ptr b i j)∧s.heap b=some blk∧eG TT t=some y∧(y.desc.isAgg||Nat.beq y.size 1)=true∧blk.es[i]? =some cs∧Nat.ble (j+y.size) cs.length=true∧yJ y.desc.isAgg (((cs.drop j).take y.size).map yQ)=v∧opB ops nt s ⟨d,.load t x,ty,pos,aft,g⟩ []=true) (g2:AOps Tryz.prog ops nt r (s.app d ⟨v,[b],[],[]⟩) (yS ⟨v,[b],[],[]⟩::tr) K):AOps Tryz.prog ops nt (⟨d,.load t x,ty,pos,aft,g⟩::r) s tr K:=by
 obtain ⟨h0,h1,h2,h3,h4,h5,h6,h7⟩:=h;exact ae (qU aV h0 h1 h2 h3 h4 h5 h6) h7 g2
theorem fp {x:Operand} {st f off ft:Nat} {b i j:Nat} {blk:Blk} {y yf:Ty} {fs:List (Nat×Nat)} (h:s.ev x=some (.ptr b i j)∧s.heap b=some blk∧eG TT st=some y∧y.desc= .struct fs∧fs[f]? =some (off,ft)∧eG TT ft=some yf∧Nat.beq yf.size 0=false∧opB ops nt s ⟨d,.fieldAddr st x f,ty,pos,aft,g⟩ []=true) (g2:AOps Tryz.prog ops nt r (s.app d ⟨.ptr b i (j+off),[b],[],[]⟩) (yS ⟨.ptr b i (j+off),[b],[],[]⟩::tr) K):AOps Tryz.prog ops nt (⟨d,.fieldAddr st x f,ty,pos,aft,g⟩::r) s tr K:=by
 obtain ⟨h0,h1,h2,h3,h4,h5,h6,h7⟩:=h;exact ae (aEF aV h0 h1 h2 h3 h4 h5 h6) h7 g2
theorem lr {x:Operand} {t:Nat} {y:Ty} {cs:List AV} {v:AV} (h:s.ev x=some (.ref cs)∧eG TT t=some y∧(y.desc.isAgg||Nat.beq y.size 1)=true∧Nat.ble y.size cs.length=true∧(cs.take y.size).all eS=true∧yJ y.desc.isAgg (cs.take y.size)=v∧opB ops nt s ⟨d,.load t x,ty,pos,aft,g⟩ []=true) (g2:AOps Tryz.prog ops nt r (s.app d ⟨v,[],[],[]⟩) (yS ⟨v,[],[],[]⟩::tr) K):AOps Tryz.prog ops nt (⟨d,.load t x,ty,pos,aft,g⟩::r) s tr K:=by
 obtain ⟨h0,h1,h2,h3,h4,h5,h6⟩:=h;exact ae (aFN aV h0 h1 h2 h3 h4 h5) h6 g2
theorem cm {op:BinOp} {t t':TypeId} {x y:Operand} {q:IntKind} {a b:Int} {c:Bool} (h:s.ev x=some (.sc (.int q a))∧s.ev y=some (.sc (.int q b))∧aPT op a b=some c∧opB ops nt s ⟨d,.binOp op t x y t',ty,pos,aft,g⟩ []=true) (g2:AOps Tryz.prog ops nt r (s.app d ⟨.bl c,[],[],[]⟩) (yS ⟨.bl c,[],[],[]⟩::tr) K):AOps Tryz.prog ops nt (⟨d,.binOp op t x y t',ty,pos,aft,g⟩::r) s tr K:=by
 obtain ⟨h0,h1,h2,h3⟩:=h;exact ae (aAQ h0 h1 h2) h3 g2
theorem pk {c x y:Operand} {t:Bool} {v:AV} (h:s.ev c=some (.sc (.bool t))∧s.ev (if t then x else y)=some v∧opB ops nt s ⟨d,.pick c x y,ty,pos,aft,g⟩ []=true) (g2:AOps Tryz.prog ops nt r (s.app d ⟨v,[],[],[]⟩) (yS ⟨v,[],[],[]⟩::tr) K):AOps Tryz.prog ops nt (⟨d,.pick c x y,ty,pos,aft,g⟩::r) s tr K:=by
 obtain ⟨h0,h1,h2⟩:=h;exact ae (yR h0 h1) h2 g2
theorem ln {x:Operand} {t e q:Nat} {y:Ty} {α:Type} {f:α→List AV} {l:List α} (h:s.ev x=some (.list q (List.map f l))∧eG TT t=some y∧y.desc= .slice e∧opB ops nt s ⟨d,.call ⟨.builtin .len,#[x],#[t]⟩,ty,pos,aft,g⟩ []=true) (g2:AOps Tryz.prog ops nt r (s.app d ⟨.int l.length,[],[],[]⟩) (yS ⟨.int l.length,[],[],[]⟩::tr) K):AOps Tryz.prog ops nt (⟨d,.call ⟨.builtin .len,#[x],#[t]⟩,ty,pos,aft,g⟩::r) s tr K:=by
 obtain ⟨h0,h1,h2,h3⟩:=h;exact ae (aSe aV h0 h1 h2) h3 g2
theorem lpS {x:Operand} {t:Nat} {y:Ty} {b i j:Nat} {blk:Blk} {cs:List AV} {v:AV} (h:s.ev x=some (.ptr b i j)∧s.heap b=some blk∧eG TT t=some y∧(y.desc.isAgg||Nat.beq y.size 1)=true∧blk.es[i]? =some cs∧Nat.ble (j+y.size) cs.length=true∧yJ y.desc.isAgg (((cs.drop j).take y.size).map yQ)=v∧opB ops nt s ⟨d,.load t x,ty,pos,aft,g⟩ []=true) (g2:SOps Tryz.prog ops nt r (s.app d ⟨v,[b],[],[]⟩) K'):SOps Tryz.prog ops nt (⟨d,.load t x,ty,pos,aft,g⟩::r) s K':=by
 obtain ⟨h0,h1,h2,h3,h4,h5,h6,h7⟩:=h;exact se (qU aV h0 h1 h2 h3 h4 h5 h6) h7 g2
theorem fpS {x:Operand} {st f off ft:Nat} {b i j:Nat} {blk:Blk} {y yf:Ty} {fs:List (Nat×Nat)} (h:s.ev x=some (.ptr b i j)∧s.heap b=some blk∧eG TT st=some y∧y.desc= .struct fs∧fs[f]? =some (off,ft)∧eG TT ft=some yf∧Nat.beq yf.size 0=false∧opB ops nt s ⟨d,.fieldAddr st x f,ty,pos,aft,g⟩ []=true) (g2:SOps Tryz.prog ops nt r (s.app d ⟨.ptr b i (j+off),[b],[],[]⟩) K'):SOps Tryz.prog ops nt (⟨d,.fieldAddr st x f,ty,pos,aft,g⟩::r) s K':=by
 obtain ⟨h0,h1,h2,h3,h4,h5,h6,h7⟩:=h;exact se (aEF aV h0 h1 h2 h3 h4 h5 h6) h7 g2
theorem cmS {op:BinOp} {t t':TypeId} {x y:Operand} {q:IntKind} {a b:Int} {c:Bool} (h:s.ev x=some (.sc (.int q a))∧s.ev y=some (.sc (.int q b))∧aPT op a b=some c∧opB ops nt s ⟨d,.binOp op t x y t',ty,pos,aft,g⟩ []=true) (g2:SOps Tryz.prog ops nt r (s.app d ⟨.bl c,[],[],[]⟩) K'):SOps Tryz.prog ops nt (⟨d,.binOp op t x y t',ty,pos,aft,g⟩::r) s K':=by
 obtain ⟨h0,h1,h2,h3⟩:=h;exact se (aAQ h0 h1 h2) h3 g2
theorem pkS {c x y:Operand} {t:Bool} {v:AV} (h:s.ev c=some (.sc (.bool t))∧s.ev (if t then x else y)=some v∧opB ops nt s ⟨d,.pick c x y,ty,pos,aft,g⟩ []=true) (g2:SOps Tryz.prog ops nt r (s.app d ⟨v,[],[],[]⟩) K'):SOps Tryz.prog ops nt (⟨d,.pick c x y,ty,pos,aft,g⟩::r) s K':=by
 obtain ⟨h0,h1,h2⟩:=h;exact se (yR h0 h1) h2 g2
theorem tM {x:Operand} {v:AV} (h:s.ev x=some v∧opB ops nt s ⟨d,.assign x,ty,pos,aft,g⟩ []=true) (g2:SOps Tryz.prog ops nt r (s.app d ⟨v,[],[],[]⟩) K'):SOps Tryz.prog ops nt (⟨d,.assign x,ty,pos,aft,g⟩::r) s K':=by
 obtain ⟨h0,h1⟩:=h;exact se (gL h0) h1 g2
theorem kS {x:Operand} {v:AV} (h:s.ev x=some v∧opB ops nt s ⟨d,.move x,ty,pos,aft,g⟩ []=true) (g2:SOps Tryz.prog ops nt r (s.app d ⟨v,[],[],[]⟩) K'):SOps Tryz.prog ops nt (⟨d,.move x,ty,pos,aft,g⟩::r) s K':=by
 obtain ⟨h0,h1⟩:=h;exact se (eR h0) h1 g2
theorem aO:True:=trivial
theorem aT {x:Operand} {v:AV} {Q:Exit→AState→Prop} {T:AState→Prop} (h:s.ev x=some v∧opB ops nt s ⟨d,.assign x,ty,pos,aft,g⟩ []=true) (g2:T (s.app d ⟨v,[],[],[]⟩)):AOps Tryz.prog ops nt [⟨d,.assign x,ty,pos,aft,g⟩] s tr (λ_ s'=>xW T Q .normal s'):=aa h.1 h.2 (an (tn g2))
theorem aK {o1 o2:Oper} (h:(nJ ops s.env o1=some false∧aFF o1 nt=true∧nJ ops (upd o1.dst (.tuple []) s.env) o2=some false∧aFF o2 nt=true)) (g2:AOps Tryz.prog ops nt r ⟨upd o2.dst (.tuple []) (upd o1.dst (.tuple []) s.env),s.heap,s.used,s.ns,s.kp⟩ (⟨[],[]⟩::⟨[],[]⟩::tr) K):AOps Tryz.prog ops nt (o1::o2::r) s tr K:=ak h.1 h.2.1 (ak h.2.2.1 h.2.2.2 g2)
theorem sR {id:Nat} {l:List Oper} {y:Code} {Q:Exit→AState→Prop} (h:AOps Tryz.prog l.toArray nt l s [] (λ_ s'=>xW (λs'=>AC Tryz.prog nt y s' Q) Q .normal s')):AC Tryz.prog nt (.seq (.region id l.toArray false) y) s Q:=sQ (rg h)
theorem sS {id:Nat} {l:List Oper} {y:Code} {Q:Exit→AState→Prop} (h:SOps Tryz.prog l.toArray nt l s (xW (λs'=>AC Tryz.prog nt y s' Q) Q .normal)):AC Tryz.prog nt (.seq (.region id l.toArray false) y) s Q:=sQ (rgS h)
end
end
noncomputable section
theorem oB {α β:Type} {o:Option α} {k:α→Option β} {r:β} {p:Prop} (h:o.bind k=some r) (f: ∀ a,o=some a→k a=some r→p):p:=by
 obtain ⟨a,h1,h2⟩:=ob h;exact f a h1 h2
theorem fP {h:Hp} {cs:List AV} (hp:cs.all eS=true):viewA h (.agg cs) (.agg cs):=aLe (aJD hp)
theorem mS {T:List (Nat×Ty)} {rvs:List ResultVar} {e:Exit} {s:AState} {u v:Bool} (h:some u=some v) (p:wF T s rvs=some [.bl u]∧aEE e=true):nF T rvs (.bl v) e s:=by
 cases h;exact bD p.2 p.1 rfl (mQ rfl)
theorem rtI {T:List (Nat×Ty)} {rvs:List ResultVar} {e:Exit} {s:AState} {u v:Int} (h:some u=some v) (p:wF T s rvs=some [.int u]∧aEE e=true):nF T rvs (.int v) e s:=by
 cases h;exact bD p.2 p.1 rfl (aBp rfl)
theorem cL {d:Option Tmp} {ty:TypeId} {pos:String} {aft:Array Edge} {g:Option (Nat×Bool)} {s:AState} {f:FuncId} {xs:Array Operand} {ats:Array TypeId} {avs ds:List AV} {ns':List Nat} {α:Type} {e:α→List AV} {q b:Nat} {l:List α} (ok:EOk q e) (hc:HasC Tryz.prog f ds (.list q (List.map e l))) (h:evs s.ev xs.toList=some avs∧s.ns=b::ns'∧zT s.ns=true) (hv:All2 (viewA s.heap) avs ds):AEff Tryz.prog ⟨d,.call ⟨.value (.func f),xs,ats⟩,ty,pos,aft,g⟩ s.ev s.heap s.kp ⟨.own b 0 l.length,avs.flatMap (vP s.heap)++[].flatMap (sA s.heap),[(b,some ⟨q,List.map (ow e) l⟩)],[b]⟩:=
 AEff.conv (gV (x:= .own b 0 (List.map e l).length) (nb:=[(b,⟨q,dT (List.map e l)⟩)]) hc h.1 (by rw [h.2.1];rfl) rfl h.2.2 (ok.good _) hv) (by simp only [aR]) (qX (nb':=[(b,⟨q,List.map (ow e) l⟩)]) (by simp only [jD]))
theorem cQ {d:Option Tmp} {ty:TypeId} {pos:String} {aft:Array Edge} {g:Option (Nat×Bool)} {s:AState} {f:FuncId} {xs:Array Operand} {ats:Array TypeId} {avs ds:List AV} {ns':List Nat} {b c:Nat} {v:Qv} (hc:HasC Tryz.prog f ds (.agg (eQ v))) (h:evs s.ev xs.toList=some avs∧s.ns=b::c::ns'∧zT s.ns=true) (hv:All2 (viewA s.heap) avs ds):AEff Tryz.prog ⟨d,.call ⟨.value (.func f),xs,ats⟩,ty,pos,aft,g⟩ s.ev s.heap s.kp ⟨.agg [.int v.n,.own b 0 v.src.length,.own c 0 v.tgt.length],avs.flatMap (vP s.heap)++[].flatMap (sA s.heap),[(b,some ⟨1,List.map (ow eI) v.src⟩),(c,some ⟨1,List.map (ow eI) v.tgt⟩)],[b,c]⟩:=
 AEff.conv (gV (x:= .agg [.int v.n,.own b 0 (List.map eI v.src).length,.own c 0 (List.map eI v.tgt).length]) (nb:=[(b,⟨1,dT (List.map eI v.src)⟩),(c,⟨1,dT (List.map eI v.tgt)⟩)]) hc h.1 (by rw [h.2.1];rfl) rfl h.2.2 (cJ trivial (cJ (cA.good _) (cJ (cA.good _) qY))) hv) (by simp only [aR]) (qX (nb':=[(b,⟨1,List.map (ow eI) v.src⟩),(c,⟨1,List.map (ow eI) v.tgt⟩)]) (by simp only [jD]))
def re1 (σ:Nat→Option Nat):AV→AV
 | .own b i m=>match σ b with|some b0=> .own b0 i m|none=> .dead
 | .ptr b i j=>match σ b with|some b0=> .ptr b0 i j|none=> .dead
 |x=>x
def reA (σ:Nat→Option Nat):AV→AV
 | .agg cs=> .agg (cs.map (re1 σ))
 |x=>re1 σ x
def ok1 (σ:Nat→Option Nat) (n:Nat):AV→Bool
 | .own b _ _=>(σ b).isSome &&Nat.blt b n
 | .ptr b _ _=>(σ b).isSome &&Nat.blt b n
 | .sc _=>true
 | .nil _=>true
 | .list _ _=>true
 | .ref _=>true
 |_=>false
def okA (σ:Nat→Option Nat) (n:Nat):AV→Bool
 | .agg cs=>cs.all (ok1 σ n)
 |x=>ok1 σ n x
def aJZ (e:Nat→Option AV):List (Nat×AV)→List (Option AV)
 | []=>[]
 |(t,_)::r=>e t::aJZ e r
def aJa (σ:Nat→Option Nat):List (Nat×AV)→List (Option AV)
 | []=>[]
 |(_,y)::r=>some (reA σ y)::aJa σ r
theorem zB {σ:Nat→Option Nat} {n:Nat} {y:AV} (h:ok1 σ n y=true):fT σ n (re1 σ y) y:=by
 cases y <;> simp only [ok1,gQ] at h
 ·rfl
 ·trivial
 ·exact ⟨rfl,rfl⟩
 ·rfl
 all_goals
  rename_i b i j
  simp only [dJ] at h
  obtain ⟨b0,hb⟩:=Option.isSome_iff_exists.1 h.1
  simp only [re1,hb]
  exact ⟨hb,rfl,rfl,h.2⟩
theorem aQW {σ:Nat→Option Nat} {n:Nat} : ∀ {cs:List AV},cs.all (ok1 σ n)=true→All2 (fT σ n) (cs.map (re1 σ)) cs
 | [],_=>rfl
 |c::cs,h=>by
  simp only [List.all_cons,dJ] at h;exact ⟨c,cs,rfl,zB h.1,aQW h.2⟩
theorem aRn {σ:Nat→Option Nat} {n:Nat} {y:AV} (h:okA σ n y=true):xA σ n (reA σ y) y:=by
 cases y with
 |agg cs=>exact aQW h
 |fn f cs=>simp [okA,ok1] at h
 |tuple cs=>simp [okA,ok1] at h
 |dead=>simp [okA,ok1] at h
 |abs q es=>simp [okA,ok1] at h
 |sc u=>exact zB (σ:=σ) (n:=n) (y:= .sc u) h
 |nil q=>exact zB (σ:=σ) (n:=n) (y:= .nil q) h
 |list q es=>exact zB (σ:=σ) (n:=n) (y:= .list q es) h
 |ref cs=>exact zB (σ:=σ) (n:=n) (y:= .ref cs) h
 |own b i m=>
  have:=zB (σ:=σ) (n:=n) (y:= .own b i m) h;simp only [reA];generalize re1 σ (.own b i m)=z at*;cases z <;> first|exact this|exact this.elim
 |ptr b i j=>
  have:=zB (σ:=σ) (n:=n) (y:= .ptr b i j) h;simp only [reA];generalize re1 σ (.ptr b i j)=z at*;cases z <;> first|exact this|exact this.elim
theorem aRo {σ:Nat→Option Nat} {n:Nat} {e:Nat→Option AV} : ∀ {tl:List (Nat×AV)},aJZ e tl=aJa σ tl→(tl.all λp=>okA σ n p.2)=true→aCS σ n e tl
 | [],_,_=>trivial
 |(t,y)::r,h,q=>by
  simp only [aJZ,aJa,List.cons.injEq] at h;simp only [List.all_cons,dJ] at q;exact ⟨⟨_,h.1,aRn q.1⟩,aRo h.2 q.2⟩
theorem bK {σ:Nat→Option Nat} {n:Nat} {e:Nat→Option AV} {tl:List (Nat×AV)} (h:aJZ e tl=aJa σ tl∧(tl.all λp=>okA σ n p.2)=true):aCS σ n e tl:=aRo h.1 h.2
end
noncomputable section
def nmA:List Nat:=[0,1,2,3,4,5,6,7,8,9,10,11,12,13,14,15,16,17,18,19]++[20,21,22,23,24,25,26,27,28,29,30,31,32,33,34,35,36,37,38,39]++([40,41,42,43,44,45,46,47,48,49,50,51,52,53,54,55,56,57,58,59]++([60,61,62,63,64,65,66,67,68,69,70,71,72,73,74,75,76,77,78,79]++[80,81,82,83,84,85,86,87,88,89,90,91,92,93,94,95,96,97,98,99]))
abbrev mN (e:List (Nat×AV)) (h:List (Nat×Blk)) (n:Nat) (kp:Kp:=0):AState:=mkS e h n (nmA.drop n) kp
def iSg:List (Nat×Blk)→Nat→Option Nat
 | [],_=>none
 |(q,_)::r,t=>bif Nat.beq t q then some t else iSg r t
def zSg:List (Nat×Blk)→List Nat→Nat→Option Nat
 |(q,_)::r,b::bs,t=>bif Nat.beq t q then some b else zSg r bs t
 |_,_,_=>none
theorem bO {s:AState} {n:Nat} {kp:Kp} {tl:List (Nat×AV)} {hl:List (Nat×Blk)} (he:aCS (iSg hl) n s.env tl) (hh:tD (iSg hl) n s.heap hl) (p:aDH (iSg hl) hl=true∧s.kp=kp∧aGk (iSg hl) kp.n hl=true∧Nat.ble kp.n n=true):Ent s (mN tl hl n kp):=kP he hh p.1 p.2.1 p.2.2.1 p.2.2.2
theorem kV (bs:List Nat) {s:AState} {n:Nat} {kp:Kp} {tl:List (Nat×AV)} {hl:List (Nat×Blk)} (he:aCS (zSg hl bs) n s.env tl) (hh:tD (zSg hl bs) n s.heap hl) (p:aDH (zSg hl bs) hl=true∧s.kp=kp∧aGk (zSg hl bs) kp.n hl=true∧Nat.ble kp.n n=true):Ent s (mN tl hl n kp):=kP he hh p.1 p.2.1 p.2.2.1 p.2.2.2
section
variable {σ:Nat→Option Nat} {n:Nat}
theorem aJb {e:Nat→Option AV} : ∀ {m:Nat} {tl:List (Nat×AV)},aCS σ n e (tl.take m)→aCS σ n e (tl.drop m)→aCS σ n e tl
 |0,_,_,h=>h
 |m+1,[],_,_=>trivial
 |m+1,(t,y)::r,h1,h2=>⟨h1.1,aJb h1.2 h2⟩
theorem qQ (m:Nat) {e:Nat→Option AV} {tl:List (Nat×AV)} (h:aJZ e (tl.take m)=aJa σ (tl.take m)∧((tl.take m).all λp=>okA σ n p.2)=true) (h2:aCS σ n e (tl.drop m)):aCS σ n e tl:=aJb (bK h) h2
theorem kE {e:Nat→Option AV} {t:Nat} {y:AV} {r:List (Nat×AV)} (h: ∃ x,e t=some x∧xA σ n x y) (h2:aCS σ n e r):aCS σ n e ((t,y)::r):=⟨h,h2⟩
variable {b b0 q:Nat} {h:Hp} {r:List (Nat×Blk)}
theorem cX {l:List Int} (p:(σ b,h b0,Nat.blt b n)=(some b0,some ⟨1,List.map (ow eI) l⟩,true)) (hr:tD σ n h r):tD σ n h ((b,⟨1,List.map (ow eI) l⟩)::r):=by
 obtain ⟨p1,p⟩:=Prod.mk.inj p;obtain ⟨p2,p3⟩:=Prod.mk.inj p;exact hB (cA.plainO _) p1 p2 p3 hr
theorem bX {y:Blk} (p:(σ b,h b0,Nat.blt b n,y.es.all λcs=>cs.all sL)=(some b0,some y,true,true)) (hr:tD σ n h r):tD σ n h ((b,y)::r):=by
 obtain ⟨p1,p⟩:=Prod.mk.inj p;obtain ⟨p2,p⟩:=Prod.mk.inj p;obtain ⟨p3,p4⟩:=Prod.mk.inj p;exact hB (aNU p4) p1 p2 p3 hr
theorem cR {y:Blk} (hp:xX y.es) (p:(σ b,h b0,Nat.blt b n)=(some b0,some y,true)) (hr:tD σ n h r):tD σ n h ((b,y)::r):=by
 obtain ⟨p1,p⟩:=Prod.mk.inj p;obtain ⟨p2,p3⟩:=Prod.mk.inj p;exact hB hp p1 p2 p3 hr
def reC (σ:Nat→Option Nat):AV→AV
 | .own b i m=>match σ b with|some b0=> .own b0 i m|none=> .dead
 | .ptr b i j=>match σ b with|some b0=> .ptr b0 i j|none=> .dead
 |x=>x
def okC (σ:Nat→Option Nat) (n:Nat):AV→Bool
 | .own b _ _=>(σ b).isSome &&Nat.blt b n
 | .ptr b _ _=>(σ b).isSome &&Nat.blt b n
 | .sc _=>true
 | .nil _=>true
 | .list _ _=>true
 | .abs _ _=>true
 | .ref _=>true
 |_=>false
theorem aRr {y:AV} (h:okC σ n y=true):lV σ n (reC σ y) y:=by
 cases y with
 |sc u=>exact zB (σ:=σ) (n:=n) (y:= .sc u) h
 |nil q=>exact zB (σ:=σ) (n:=n) (y:= .nil q) h
 |list q es=>exact zB (σ:=σ) (n:=n) (y:= .list q es) h
 |ref cs=>exact zB (σ:=σ) (n:=n) (y:= .ref cs) h
 |abs q es=>exact ⟨rfl,rfl⟩
 |own b i m=>
  have:=zB (σ:=σ) (n:=n) (y:= .own b i m) h;show lV σ n (re1 σ (.own b i m)) _;generalize re1 σ (.own b i m)=z at*;cases z <;> first|exact this|exact this.elim
 |ptr b i j=>
  have:=zB (σ:=σ) (n:=n) (y:= .ptr b i j) h;show lV σ n (re1 σ (.ptr b i j)) _;generalize re1 σ (.ptr b i j)=z at*;cases z <;> first|exact this|exact this.elim
 |agg cs=>simp [okC] at h
 |fn f cs=>simp [okC] at h
 |tuple cs=>simp [okC] at h
 |dead=>simp [okC] at h
theorem aOD: ∀ {cs:List AV},cs.all (okC σ n)=true→All2 (lV σ n) (cs.map (reC σ)) cs
 | [],_=>rfl
 |c::cs,h=>by
  simp only [List.all_cons,dJ] at h;exact ⟨c,cs,rfl,aRr h.1,aOD h.2⟩
theorem aOE: ∀ {es:List (List AV)},(es.all λcs=>cs.all (okC σ n))=true→All2 (All2 (lV σ n)) (es.map (List.map (reC σ))) es
 | [],_=>rfl
 |c::cs,h=>by
  simp only [List.all_cons,dJ] at h;exact ⟨c,cs,rfl,aOD h.1,aOE h.2⟩
theorem wI {es:List (List AV)} (p:(σ b,h b0,Nat.blt b n,es.all λcs=>cs.all (okC σ n))=(some b0,some ⟨q,es.map (List.map (reC σ))⟩,true,true)) (hr:tD σ n h r):tD σ n h ((b,⟨q,es⟩)::r):=by
 obtain ⟨p1,p⟩:=Prod.mk.inj p;obtain ⟨p2,p⟩:=Prod.mk.inj p;obtain ⟨p3,p4⟩:=Prod.mk.inj p;refine hX ?_ p3 hr;rw [p1];exact ⟨_,p2,rfl,.inr (aOE p4)⟩
end
theorem cG {α:Type} {c:Bool} {A:Option α} {r:α} {p:Prop} (h:cond c A none=some r) (f:c=true→A=some r→p):p:=f (cg h).1 (cg h).2
section
variable {h:Hp} {x:AV} {xs ds:List AV}
theorem eC (q:eS x=true) (b:All2 (viewA h) xs ds):All2 (viewA h) (x::xs) (x::ds):=aL (aCW q) b
theorem rH {b m:Nat} {l:List Int} (hb:h b=some ⟨1,List.map (ow eI) l⟩) (hn:l.length=m) (q:All2 (viewA h) xs ds):All2 (viewA h) (.own b 0 m::xs) (.list 1 (List.map eI l)::ds):=aL (wG cA hb hn) q
end
theorem cT {d:Option Tmp} {ty:TypeId} {pos:String} {aft:Array Edge} {g:Option (Nat×Bool)} {s:AState} {f:FuncId} {xs:Array Operand} {ats:Array TypeId} {avs ds:List AV} {ns':List Nat} {α:Type} {e:α→List AV} {q b:Nat} {l:List α} {z:Bool} {c0:Nat} (ok:EOk q e) (hc:HasC Tryz.prog f ds (.tuple [.list q (List.map e l),.bl z])) (h:evs s.ev xs.toList=some avs∧s.ns=b::c0::ns'∧zT s.ns=true) (hv:All2 (viewA s.heap) avs ds):AEff Tryz.prog ⟨d,.call ⟨.value (.func f),xs,ats⟩,ty,pos,aft,g⟩ s.ev s.heap s.kp ⟨.tuple [.own b 0 l.length,.bl z],avs.flatMap (vP s.heap)++[].flatMap (sA s.heap),[(b,some ⟨q,List.map (ow e) l⟩)],[b]⟩:=
 AEff.conv (gV (x:= .tuple [.own b 0 (List.map e l).length,.bl z]) (nb:=[(b,⟨q,dT (List.map e l)⟩)]) hc h.1 (by rw [h.2.1];rfl) rfl h.2.2 (cP (ok.good _) (cP trivial lX)) hv) (by simp only [aR]) (qX (nb':=[(b,⟨q,List.map (ow e) l⟩)]) (by simp only [jD]))
section
variable {h:Hp} {κ:Kp}
theorem vaQ {b1 b2 m1 m2:Nat} {v:Qv} (p:h b1=some ⟨1,List.map (ow eI) v.src⟩∧v.src.length=m1∧h b2=some ⟨1,List.map (ow eI) v.tgt⟩∧v.tgt.length=m2):viewA h (.agg [.int v.n,.own b1 0 m1,.own b2 0 m2]) (.agg (eQ v)):=aLe (pC (pB rfl) (pC (aAW cA p.1 p.2.1) (pC (aAW cA p.2.2.1 p.2.2.2) zV)))
variable {x:AV} {xs ds:List AV}
end
section
variable {dst:Option Tmp} {ty:TypeId} {pos:String} {aft:Array Edge} {g:Option (Nat×Bool)} {s:AState}
theorem wl {t e:TypeId} {n:Nat} {parts:Array (Nat×Operand)} {y ye:Ty} {ps:List (Nat×List AV)} {cs:List AV} {b:Nat}
  (h:(s.ns.head?,eG TT t,y.desc,eG TT e,ye.zero.length,Nat.ble (n*ye.size) 16777216,Nat.ble n 16777216,wD s.ev parts.toList,aAN (λi=>some (i*ye.size,ye.size)) (List.replicate n ye.zero).flatten ps,(ps.all λp=>p.2.all (okCell s.heap)),cs.all (okCell s.heap),(ps.flatMap (λp=>dL p.2)++dL cs).contains b)=(some b,some y,.slice e,some ye,ye.size,true,true,some ps,some cs,true,true,false)):
  AEff Tryz.prog ⟨dst,.buildSlice t n parts,ty,pos,aft,g⟩ s.ev s.heap s.kp ⟨.own b 0 n,ps.flatMap (λp=>dL p.2)++dL cs,[(b,some ⟨ye.size,aAc ye.size n cs⟩)],[b]⟩:=by
 simp only [Prod.mk.injEq] at h;obtain ⟨h1,h2,h3,h4,h5,h6,h7,h8,h9,h10,h11,h12⟩:=h;exact aRf aV h1 h2 h3 h4 h5 h6 h7 h8 h9 h10 h11 h12
theorem ws {t:TypeId} {y:Ty} {x z:Operand} {val:AV} {b i j kk:Nat} {ees:List (List AV)} {cs:List AV}
  (h:(s.ev x,s.heap b,s.ev z,eG TT t,Nat.beq (dB val).length y.size,(dB val).all (okCell s.heap),ees[i]?,Nat.ble (j+y.size) cs.length)=(some (.ptr b i j),some ⟨kk,ees⟩,some val,some y,true,true,some cs,true)):
  AEff Tryz.prog ⟨dst,.store t x z,ty,pos,aft,g⟩ s.ev s.heap s.kp ⟨.dead,b::dL (dB val),[(b,some ⟨kk,ees.set i (aAV cs j (dB val))⟩)],[]⟩:=by
 simp only [Prod.mk.injEq] at h;obtain ⟨h1,h2,h3,h4,h5,h6,h7,h8⟩:=h;exact aHt aV h1 h2 h3 h4 h5 h6 h7 h8
theorem wb {t:TypeId} {x:Operand} {v:AV} {b:Nat} (h:(s.ns.head?,s.ev x,(dB v).all (okCell s.heap),(dL (dB v)).contains b)=(some b,some v,true,false)):
  AEff Tryz.prog ⟨dst,.box t x,ty,pos,aft,g⟩ s.ev s.heap s.kp ⟨.ptr b 0 0,dL (dB v),[(b,some ⟨(dB v).length,[dB v]⟩)],[b]⟩:=by
 simp only [Prod.mk.injEq] at h;obtain ⟨h1,h2,h3,h4⟩:=h;exact aRe h1 h2 h3 h4
theorem xl {α:Type} {k:Nat} {e:α→List AV} {x ix:Operand} {t et:Nat} {y ye:Ty} {l:List α} {kk:IntKind} {i:Int} {v:α} (hm:dY l i=some v)
  (h:(s.ev x,s.ev ix,eG TT t,y.desc,eG TT et,ye.size)=(some (.list k (l.map e)),some (.sc (.int kk i)),some y,.slice et,some ye,k)):
  AEff Tryz.prog ⟨dst,.indexAddr t x ix,ty,pos,aft,g⟩ s.ev s.heap s.kp ⟨.ref (e v),[],[],[]⟩:=by
 simp only [Prod.mk.injEq] at h;obtain ⟨h1,h2,h3,h4,h5,h6⟩:=h;exact aMR aV hm h1 h2 h3 h4 h5 h6
theorem xo {α:Type} {l:List α} {v:α} {x ix:Operand} {t et:Nat} {y ye:Ty} {b kz:Nat} {es:List (List AV)} {kk:IntKind} {i:Int} (hm:dY l i=some v)
  (h:(s.ev x,s.heap b,s.ev ix,eG TT t,y.desc,eG TT et,ye.size)=(some (.own b 0 l.length),some ⟨kz,es⟩,some (.sc (.int kk i)),some y,.slice et,some ye,kz)):
  AEff Tryz.prog ⟨dst,.indexAddr t x ix,ty,pos,aft,g⟩ s.ev s.heap s.kp ⟨.ptr b i.toNat 0,[b],[],[]⟩:=by
 simp only [Prod.mk.injEq] at h;obtain ⟨h1,h2,h3,h4,h5,h6,h7⟩:=h;exact xD aV (aFO hm) (uK hm) h1 h2 h3 h4 h5 h6 h7
theorem wp {α:Type} {e:α→List AV} {l:List α} {u:α} {x:Operand} {t:Nat} {y:Ty} {b j k:Nat} {i:Int} {v:AV} (hm:dY l i=some u)
  (h:(s.ev x,s.heap b,eG TT t,(y.desc.isAgg||Nat.beq y.size 1),Nat.ble (j+y.size) (e u).length,yJ y.desc.isAgg ((((e u).drop j).take y.size).map yQ))=(some (.ptr b i.toNat j),some ⟨k,l.map e⟩,some y,true,true,v)):
  AEff Tryz.prog ⟨dst,.load t x,ty,pos,aft,g⟩ s.ev s.heap s.kp ⟨v,[b],[],[]⟩:=by
 simp only [Prod.mk.injEq] at h;obtain ⟨h1,h2,h3,h4,h5,h6⟩:=h;exact qU aV h1 h2 h3 h4 (aNT (gN hm)) h5 h6
end
theorem hM {f:FuncId} {fn:Func} {c:Code} {nt:Nat} {ds:List AV} {r:AV} (rvs:List ResultVar) (hf:Tryz.prog.funcs[f]? =some fn) (hnt:fn.ntmps=nt) (h':(fn.body,(fn.name== "runtime.NumGoroutine"),fn.results.toList,Nat.ble ds.length nt,ds.all tR)=(some c,false,rvs,true,true)) (h:AC Tryz.prog nt c (s0 ds nmA) (nF TT rvs r)):HasC Tryz.prog f ds r:=by
 simp only [Prod.mk.injEq] at h';exact xZ aV hf h'.1 h'.2.1 hnt h'.2.2.1 h'.2.2.2.1 h'.2.2.2.2 h
@[elab_as_elim] theorem sp {α:Type} {a:α} {P:α→Prop} {o:α} (h:some a=some o) (p:P a):P o:=so h▸p
theorem kQ {α:Type} {t:Bool} {A B:Option α} {r:α} {G:Prop} (h:cond t A B=some r) (p:t=true→A=some r→G) (q:t=false→B=some r→G):G:=by
 rcases cb h with ⟨e,h⟩|⟨e,h⟩
 ·exact p e h
 ·exact q e h
theorem dC {P:Program} {nt:Nat} {Q:Exit→AState→Prop} {s:AState} {c:Operand} {x y:Code} {α:Type} {t:Bool} {A B:Option α} {r:α} (hc:s.ev c=some (.sc (.bool t))) (h:cond t A B=some r) (p:t=true→A=some r→AC P nt x s Q) (q:t=false→B=some r→AC P nt y s Q):AC P nt (.cond c x y) s Q:=kQ h (λe h=>cM hc e (p e h)) λe h=>fB hc e (q e h)
theorem oT {p q:Prop} (a:p) (b:q):p∧q:=⟨a,b⟩
def oQv (v:Qv) (a b:Nat):List AV:=[.int v.n,.own a 0 v.src.length,.own b 0 v.tgt.length]
end
noncomputable section
set_option maxRecDepth 10000
set_option maxHeartbeats 4000000
def pU (a0:Int) (a1:Int) (a2:Int):Option Bool:=
 bif decide (a1≤a0) then
 (some (decide (a0≤a2)))
 else
 (some (false))
theorem uZ (a0:Int) (a1:Int) (a2:Int) (r:Bool) (h:pU a0 a1 a2=some r):HasC Tryz.prog 117 [.int a0,.int a1,.int a2] (.bl r):=by
 exact hM [.tmp 6] Tryz.func117 Tryz.ntmps117 k<|sR<|aT k2<|sR<|am k k<|am k k<|cm k4<|am k k<|kQ h (λq1 h=>aH 10 k q1<|am k k<|am k k<|cm k4<|pk k3<|aT k2<|aE<|mS h k2) λq1 h=>aH 10 k q1<|aK k4<|ak k k<|pk k3<|aT k2<|aE<|mS h k2
def fR (a0:Int) (a1:Int) (a2:Int):Option Bool:=
 bif decide (a1≤a0) then
 (some (decide (a0≤a2)))
 else
 (some (false))
theorem hZ (a0:Int) (a1:Int) (a2:Int) (r:Bool) (h:fR a0 a1 a2=some r):HasC Tryz.prog 111 [.int a0,.int a1,.int a2] (.bl r):=by
 exact hM [.tmp 6] Tryz.func111 Tryz.ntmps111 k<|sR<|aT k2<|sR<|am k k<|am k k<|cm k4<|am k k<|kQ h (λq1 h=>aH 10 k q1<|am k k<|am k k<|cm k4<|pk k3<|aT k2<|aE<|mS h k2) λq1 h=>aH 10 k q1<|aK k4<|ak k k<|pk k3<|aT k2<|aE<|mS h k2
def sV (a0:(List Int)) (x1:(Int×Int)):Option ((Int×Int) ⊕ Int):=
 bif decide (x1.2<(a0.length:Int)) then
 ((dY a0 x1.2).bind λv2=>
 some (.inl (wr (x1.1+v2),wr (x1.2+1))))
 else
 (some (.inr x1.1))
def tW (a0:(List Int)):Option Int:=
 (Lp (sV a0) (0,0)).bind λy3=>
 some (y3)
theorem aCf (a0:(List Int)) (r:Int) (h:tW a0=some r):HasC Tryz.prog 230 [.list 1 (a0.map eI)] (.int r):=by
 refine hM [.tmp 2] Tryz.func230 Tryz.ntmps230 k<|sR<|aT k2<|sR<|aT k2<|sQ<|sR<|am k k<|ln k4<|am k k<|an<|tn<|aG<|oB h λy3 hy3 h=>bY (body:=(sV a0)) hy3 (λ(x1:(Int×Int))=>mN [(3,.int x1.1),(6,.list 1 (a0.map eI)),(7,.int (a0.length:Int)),(8,.int x1.2)] [] 0) (λr e t=>e= .exit 0∧Ent t (mN [(3,.int r)] [] 0)) (bO (bK k2) aO k4) ?_ ?_
 ·intro x1 o h;exact sR<|cm k4<|an<|tn<|sQ<|dC k h (λ_ h=>aI<|tn<|sQ<|aG<|sR<|oB h λv2 hv2 h=>ae (xl hv2 k) k<|lr k7<|aT k2<|rg<|am k k<|am k k<|ae (bN k k) k<|aa k k<|an<|aW<|tn<|rg<|ae (bN k k) k<|am k k<|an<|tn<|sp h ⟨_,k,(bO (bK k2) aO k4)⟩) λ_ h=>bB<|aB<|aB<|sp h ⟨_,k,k,(bO (bK k2) aO k4)⟩
 ·rintro e t ⟨rfl,hent⟩;exact aS<|tn<|aN hent<|sR<|am k k<|aT k2<|aE<|rtI h k2
def uN (a0:(List Int)) (a1:(List Int)) (x1:Int):Option (Int ⊕ (Unit ⊕ Bool)):=
 bif decide (x1<(a0.length:Int)) then
 ((dY a0 x1).bind λv3=>
 (dY a1 x1).bind λv4=>
 bif !decide (v3=v4) then
 (some (.inr (.inr (false))))
 else
 (some (.inl (wr (x1+1)))))
 else
 (some (.inr (.inl ())))
def pV (a0:(List Int)) (a1:(List Int)):Option Bool:=
 bif !decide ((a0.length:Int)=(a1.length:Int)) then
 (some (false))
 else
 ((Lp (uN a0 a1) 0).bind λy6=>
 Sum.elim (λy7=>
 some (true)
 )
 (λy8=>
 some y8
 )
 y6)
theorem vA (a0:(List Int)) (a1:(List Int)) (r:Bool) (h:pV a0 a1=some r):HasC Tryz.prog 114 [.list 1 (a0.map eI),.list 1 (a1.map eI)] (.bl r):=by
 refine hM [.tmp 4] Tryz.func114 Tryz.ntmps114 k<|sR<|aT k2<|sQ<|sR<|am k k<|ln k4<|am k k<|ln k4<|cm k4<|an<|tn<|dC k h (λ_ h=>sR<|aT k2<|aE<|aD<|mS h k2) λ_ h=>?_;refine aI<|tn<|sQ<|sR<|aT k2<|aG<|oB h λy6 hy6 h=>bY (body:=(uN a0 a1)) hy6 (λ(x1:Int)=>mN [(0,.list 1 (a0.map eI)),(1,.list 1 (a1.map eI)),(5,.int x1)] [] 0) (λr e t=>Sum.elim (λa=>(λr e t=>e= .exit 0∧Ent t (mN [] [] 0)) a e t) (λb=>(λr e t=>e= .ret∧nF TT [.tmp 4] (.bl r) .ret t) b e t) r) (bO (bK k2) aO k4) ?_ ?_
 ·intro x1 o h;exact sQ<|sR<|am k k<|am k k<|ln k4<|cm k4<|an<|tn<|dC k h (λ_ h=>aI<|tn<|sQ<|aG<|sQ<|aX iZ<|am k k<|am k k<|oB h λv3 hv3 h=>ae (xl hv3 k) k<|lr k7<|am k k<|am k k<|oB h λv4 hv4 h=>ae (xl hv4 k) k<|lr k7<|cm k4<|an<|oT (by kernel_rfl)<|tn<|dC k h (λ_ h=>sR<|aT k2<|aE<|aZ<|aD<|aD<|sp h ⟨_,k,k,bD k k k (mQ k)⟩) λ_ h=>aI<|aW<|tn<|rg<|am k k<|ae (bN k k) k<|aT k2<|sp h ⟨_,k,(bO (bK k2) aO k4)⟩) λ_ h=>bB<|aB<|aB<|sp h ⟨_,k,k,(bO aO aO k4)⟩
 ·intro e t hX;rcases y6 with y7|y8
  ·obtain ⟨rfl,hent⟩:=hX;exact aS<|tn<|aN hent<|sR<|aT k2<|aE<|mS h k2
  ·obtain ⟨rfl,hent⟩:=hX;exact aZ<|aD<|sp h hent
def lY (a0:(List Int)) (a1:(List Int)) (x1:Int):Option (Int ⊕ (Unit ⊕ Bool)):=
 bif decide (x1<(a0.length:Int)) then
 ((dY a0 x1).bind λv3=>
 (dY a1 x1).bind λv4=>
 bif !decide (v3=v4) then
 (some (.inr (.inr (false))))
 else
 (some (.inl (wr (x1+1)))))
 else
 (some (.inr (.inl ())))
def fU (a0:(List Int)) (a1:(List Int)):Option Bool:=
 bif !decide ((a0.length:Int)=(a1.length:Int)) then
 (some (false))
 else
 ((Lp (lY a0 a1) 0).bind λy6=>
 Sum.elim (λy7=>
 some (true)
 )
 (λy8=>
 some y8
 )
 y6)
theorem kG (a0:(List Int)) (a1:(List Int)) (r:Bool) (h:fU a0 a1=some r):HasC Tryz.prog 100 [.list 1 (a0.map eI),.list 1 (a1.map eI)] (.bl r):=by
 refine hM [.tmp 4] Tryz.func100 Tryz.ntmps100 k<|sR<|aT k2<|sQ<|sR<|am k k<|ln k4<|am k k<|ln k4<|cm k4<|an<|tn<|dC k h (λ_ h=>sR<|aT k2<|aE<|aD<|mS h k2) λ_ h=>?_;refine aI<|tn<|sQ<|sR<|am k k<|ln k4<|am k k<|an<|tn<|aG<|oB h λy6 hy6 h=>bY (body:=(lY a0 a1)) hy6 (λ(x1:Int)=>mN [(0,.list 1 (a0.map eI)),(1,.list 1 (a1.map eI)),(12,.int (a0.length:Int)),(13,.int x1)] [] 0) (λr e t=>Sum.elim (λa=>(λr e t=>e= .exit 0∧Ent t (mN [] [] 0)) a e t) (λb=>(λr e t=>e= .ret∧nF TT [.tmp 4] (.bl r) .ret t) b e t) r) (bO (bK k2) aO k4) ?_ ?_
 ·intro x1 o h;exact sR<|cm k4<|an<|tn<|sQ<|dC k h (λ_ h=>aI<|tn<|sQ<|aG<|sR<|am k k<|aT k2<|sQ<|aX iZ<|am k k<|am k k<|oB h λv3 hv3 h=>ae (xl hv3 k) k<|lr k7<|am k k<|am k k<|oB h λv4 hv4 h=>ae (xl hv4 k) k<|lr k7<|cm k4<|an<|oT (by kernel_rfl)<|tn<|dC k h (λ_ h=>sR<|aT k2<|aE<|aZ<|aD<|aD<|sp h ⟨_,k,k,bD k k k (mQ k)⟩) λ_ h=>aI<|aW<|tn<|rg<|ae (bN k k) k<|am k k<|an<|tn<|sp h ⟨_,k,(bO (bK k2) aO k4)⟩) λ_ h=>bB<|aB<|aB<|sp h ⟨_,k,k,(bO aO aO k4)⟩
 ·intro e t hX;rcases y6 with y7|y8
  ·obtain ⟨rfl,hent⟩:=hX;exact aS<|tn<|aN hent<|sR<|aT k2<|aE<|mS h k2
  ·obtain ⟨rfl,hent⟩:=hX;exact aZ<|aD<|sp h hent
def lZ (a0:Qv) (x1:Int):Option (Int ⊕ (Unit ⊕ Bool)):=
 bif decide (x1<(a0.src.length:Int)) then
 (bif decide (x1<(a0.tgt.length:Int)) then
 ((dY a0.src x1).bind λv3=>
 (fR v3 0 (wr (a0.n - 1))).bind λv4=>
 bif !v4 then
 (some (.inr (.inr (false))))
 else
 ((dY a0.tgt x1).bind λv6=>
 (fR v6 0 (wr (a0.n - 1))).bind λv7=>
 bif !v7 then
 (some (.inr (.inr (false))))
 else
 (some (.inl (wr (x1+1))))))
 else
 (some (.inr (.inl ()))))
 else
 (some (.inr (.inl ())))
def eO (a0:Qv):Option Bool:=
 (Lp (lZ a0) 0).bind λy9=>
 Sum.elim (λy10=>
 (fR a0.n 1 5).bind λv11=>
 bif v11 then
 (bif decide ((a0.src.length:Int)≤6) then
 (some (decide ((a0.tgt.length:Int)=(a0.src.length:Int))))
 else
 (some (false)))
 else
 (some (false))
 )
 (λy14=>
 some y14
 )
 y9
theorem kR (a0:Qv) (r:Bool) (h:eO a0=some r):HasC Tryz.prog 108 [.agg (eQ a0)] (.bl r):=by
 refine hM [.tmp 2] Tryz.func108 Tryz.ntmps108 k<|sR<|ae (wb k) k<|aT k2<|sQ<|sR<|aT k2<|aG<|oB h λy9 hy9 h=>bY (body:=(lZ a0)) hy9 (λ(x1:Int)=>mN [(1,.ptr 0 0 0),(3,.int x1)] [(0,⟨3,[eQ a0]⟩)] 1) (λr e t=>Sum.elim (λa=>(λr e t=>e= .exit 0∧Ent t (mN [(1,.ptr 0 0 0)] [(0,⟨3,[eQ a0]⟩)] 1)) a e t) (λb=>(λr e t=>e= .ret∧nF TT [.tmp 2] (.bl r) .ret t) b e t) r) (bO (bK k2) (bX k<|aO) k4) ?_ ?_
 ·intro x1 o h;refine sQ<|sR<|am k k<|fp k8<|lp k8<|ln k4<|cm k4<|am k k<|kQ h (λq1 h=>?_) λq1 h=>aH 9 k q1<|aK k4<|aK k4<|ak k k<|pk k3<|an<|tn<|fB k k<|bB<|aB<|aB<|sp h ⟨_,k,k,(bO (bK k2) (bX k<|aO) k4)⟩;exact aH 9 k q1<|am k k<|fp k8<|lp k8<|ln k4<|cm k4<|pk k3<|an<|tn<|dC k h (λ_ h=>aI<|tn<|sQ<|aG<|sQ<|aX iZ<|fp k8<|lp k8<|am k k<|oB h λv3 hv3 h=>ae (xl hv3 k) k<|lr k7<|fp k8<|lp k8<|ae (fA k k) k<|oB h λv4 hv4 h=>ae (aP (hZ v3 0 (wr (a0.n - 1)) v4 hv4) k (eC k (eC k (eC k aJ)))) k<|ae (dV k) k<|am k k<|kQ h (λq5 h=>aH 28 k q5<|aK k4<|aK k4<|aK k4<|aK k4<|aK k4<|pk k3<|an<|oT (by kernel_rfl)<|tn<|aN (t:=mN [(1,.ptr 0 0 0),(3,.int x1),(39,.bl true)] [(0,⟨3,[eQ a0]⟩)] 1) (bO (bK k2) (bX k<|aO) k4)<|cM k k<|sR<|aT k2<|aE<|aZ<|aD<|aD<|sp h ⟨_,k,k,bD k k k (mQ k)⟩) λq5 h=>aH 28 k q5<|fp k8<|lp k8<|am k k<|oB h λv6 hv6 h=>ae (xl hv6 k) k<|lr k7<|fp k8<|lp k8<|ae (fA k k) k<|oB h λv7 hv7 h=>ae (aP (hZ v6 0 (wr (a0.n - 1)) v7 hv7) k (eC k (eC k (eC k aJ)))) k<|ae (dV k) k<|pk k3<|an<|oT (by kernel_rfl)<|tn<|aN (t:=mN [(1,.ptr 0 0 0),(3,.int x1),(39,.bl (!v7))] [(0,⟨3,[eQ a0]⟩)] 1) (bO (bK k2) (bX k<|aO) k4)<|dC k h (λ_ h=>sR<|aT k2<|aE<|aZ<|aD<|aD<|sp h ⟨_,k,k,bD k k k (mQ k)⟩) λ_ h=>aI<|aW<|tn<|rg<|am k k<|ae (bN k k) k<|aT k2<|sp h ⟨_,k,(bO (bK k2) (bX k<|aO) k4)⟩) λ_ h=>bB<|aB<|aB<|sp h ⟨_,k,k,(bO (bK k2) (bX k<|aO) k4)⟩
 ·intro e t hX;rcases y9 with y10|y14
  ·obtain ⟨rfl,hent⟩:=hX;exact aS<|tn<|aN hent<|sR<|fp k8<|lp k8<|oB h λv11 hv11 h=>ae (aP (hZ a0.n 1 5 v11 hv11) k (eC k (eC k (eC k aJ)))) k<|am k k<|kQ h (λq12 h=>aH 43 k q12<|fp k8<|lp k8<|ln k4<|cm k4<|pk k3<|am k k<|kQ h (λq13 h=>aH 49 k q13<|fp k8<|lp k8<|ln k4<|fp k8<|lp k8<|ln k4<|cm k4<|pk k3<|aT k2<|aE<|mS h k2) λq13 h=>aH 49 k q13<|aK k4<|aK k4<|aK k4<|ak k k<|pk k3<|aT k2<|aE<|mS h k2) λq12 h=>aH 43 k q12<|aK k4<|aK k4<|pk k3<|am k k<|aK k4<|aK k4<|aK k4<|ak k k<|pk k3<|aT k2<|aE<|mS h k2
  ·obtain ⟨rfl,hent⟩:=hX;exact aZ<|aD<|sp h hent
def gG (a0:(List Int)) (a1:(Int→Option Bool)) (x1:Int):Option (Int ⊕ (Unit ⊕ Int)):=
 bif decide (x1<(a0.length:Int)) then
 ((dY a0 x1).bind λv2=>
 (a1 v2).bind λv3=>
 bif v3 then
 (some (.inr (.inr (x1))))
 else
 (some (.inl (wr (x1+1)))))
 else
 (some (.inr (.inl ())))
def iI (a0:(List Int)) (a1:(Int→Option Bool)):Option Int:=
 (Lp (gG a0 a1) 0).bind λy5=>
 Sum.elim (λy6=>
 some ((-1))
 )
 (λy7=>
 some y7
 )
 y5
theorem wJ (a0:(List Int)) (a1:(Int→Option Bool)) {f1:FuncId} {c1:List AV} (hc1:c1.all eS=true) (hf1: ∀ b0 r,a1 b0=some r→HasC Tryz.prog f1 ([.int b0]++c1) (.bl r)) (r:Int) (h:iI a0 a1=some r):HasC Tryz.prog 170 [.list 1 (a0.map eI),.fn f1 c1] (.int r):=by
 refine xZ aV (rvs:=[.tmp 4]) (ns:=nmA) Tryz.func170 k k Tryz.ntmps170 k k (tV k (tV hc1 aFf))<|sR<|aT k2<|sQ<|sR<|am k k<|ln k4<|am k k<|an<|tn<|aG<|oB h λy5 hy5 h=>bY (body:=(gG a0 a1)) hy5 (λ(x1:Int)=>mN [(0,.list 1 (a0.map eI)),(1,.fn f1 c1),(7,.int (a0.length:Int)),(8,.int x1)] [] 0) (λr e t=>Sum.elim (λa=>(λr e t=>e= .exit 0∧Ent t (mN [] [] 0)) a e t) (λb=>(λr e t=>e= .ret∧nF TT [.tmp 4] (.int r) .ret t) b e t) r) (bO (qQ 1 k2 (kE ⟨_,k,⟨k,nY _ hc1⟩⟩ (bK k2))) aO k4) ?_ ?_
 ·intro x1 o h;exact sR<|cm k4<|an<|tn<|sQ<|dC k h (λ_ h=>aI<|tn<|sQ<|aG<|sR<|am k k<|aT k2<|sR<|am k k<|am k k<|am k k<|oB h λv2 hv2 h=>ae (xl hv2 k) k<|lr k7<|oB h λv3 hv3 h=>ae (aBL hc1 (hf1 v2 v3 hv3) k k (eC k aJ)) k<|an<|tn<|dC k h (λ_ h=>sR<|am k k<|aT k2<|aE<|aZ<|aD<|aD<|sp h ⟨_,k,k,bD k k k (aBp k)⟩) λ_ h=>aI<|aW<|tn<|rg<|ae (bN k k) k<|am k k<|an<|tn<|sp h ⟨_,k,(bO (qQ 1 k2 (kE ⟨_,k,⟨k,nY _ hc1⟩⟩ (bK k2))) aO k4)⟩) λ_ h=>bB<|aB<|aB<|sp h ⟨_,k,k,(bO aO aO k4)⟩
 ·intro e t hX;rcases y5 with y6|y7
  ·obtain ⟨rfl,hent⟩:=hX;exact aS<|tn<|aN hent<|sR<|aT k2<|aE<|rtI h k2
  ·obtain ⟨rfl,hent⟩:=hX;exact aZ<|aD<|sp h hent
def jP (a0:(List Int)) (a1:(Int→Option Bool)):Option Bool:=
 (iI a0 a1).bind λv1=>
 some (decide (0≤v1))
theorem uO (a0:(List Int)) (a1:(Int→Option Bool)) {f1:FuncId} {c1:List AV} (hc1:c1.all eS=true) (hf1: ∀ b0 r,a1 b0=some r→HasC Tryz.prog f1 ([.int b0]++c1) (.bl r)) (r:Bool) (h:jP a0 a1=some r):HasC Tryz.prog 88 [.list 1 (a0.map eI),.fn f1 c1] (.bl r):=by
 exact xZ aV (rvs:=[.tmp 4]) (ns:=nmA) Tryz.func88 k k Tryz.ntmps88 k k (tV k (tV hc1 aFf))<|sR<|aT k2<|sR<|am k k<|am k k<|oB h λv1 hv1 h=>ae (aP (wJ a0 a1 hc1 hf1 v1 hv1) k (eC k (aL (aNe hc1) aJ))) k<|cm k4<|aT k2<|aE<|mS h k2
def dZ (a0:(List (List Int))) (a1:((List Int)→Option Bool)) (x1:Int):Option (Int ⊕ (Unit ⊕ Int)):=
 bif decide (x1<(a0.length:Int)) then
 ((dY a0 x1).bind λv2=>
 (a1 v2).bind λv3=>
 bif v3 then
 (some (.inr (.inr (x1))))
 else
 (some (.inl (wr (x1+1)))))
 else
 (some (.inr (.inl ())))
def dU (a0:(List (List Int))) (a1:((List Int)→Option Bool)):Option Int:=
 (Lp (dZ a0 a1) 0).bind λy5=>
 Sum.elim (λy6=>
 some ((-1))
 )
 (λy7=>
 some y7
 )
 y5
theorem oY (a0:(List (List Int))) (a1:((List Int)→Option Bool)) {f1:FuncId} {c1:List AV} (hc1:c1.all eS=true) (hf1: ∀ b0 r,a1 b0=some r→HasC Tryz.prog f1 ([.list 1 (b0.map eI)]++c1) (.bl r)) (r:Int) (h:dU a0 a1=some r):HasC Tryz.prog 144 [.list 1 (a0.map (dE 1 eI)),.fn f1 c1] (.int r):=by
 refine xZ aV (rvs:=[.tmp 4]) (ns:=nmA) Tryz.func144 k k Tryz.ntmps144 k k (tV k (tV hc1 aFf))<|sR<|aT k2<|sQ<|sR<|am k k<|ln k4<|am k k<|an<|tn<|aG<|oB h λy5 hy5 h=>bY (body:=(dZ a0 a1)) hy5 (λ(x1:Int)=>mN [(0,.list 1 (a0.map (dE 1 eI))),(1,.fn f1 c1),(7,.int (a0.length:Int)),(8,.int x1)] [] 0) (λr e t=>Sum.elim (λa=>(λr e t=>e= .exit 0∧Ent t (mN [] [] 0)) a e t) (λb=>(λr e t=>e= .ret∧nF TT [.tmp 4] (.int r) .ret t) b e t) r) (bO (qQ 1 k2 (kE ⟨_,k,⟨k,nY _ hc1⟩⟩ (bK k2))) aO k4) ?_ ?_
 ·intro x1 o h;exact sR<|cm k4<|an<|tn<|sQ<|dC k h (λ_ h=>aI<|tn<|sQ<|aG<|sR<|am k k<|aT k2<|sR<|am k k<|am k k<|am k k<|oB h λv2 hv2 h=>ae (xl hv2 k) k<|lr k7<|oB h λv3 hv3 h=>ae (aBL hc1 (hf1 v2 v3 hv3) k k (eC k aJ)) k<|an<|tn<|dC k h (λ_ h=>sR<|am k k<|aT k2<|aE<|aZ<|aD<|aD<|sp h ⟨_,k,k,bD k k k (aBp k)⟩) λ_ h=>aI<|aW<|tn<|rg<|ae (bN k k) k<|am k k<|an<|tn<|sp h ⟨_,k,(bO (qQ 1 k2 (kE ⟨_,k,⟨k,nY _ hc1⟩⟩ (bK k2))) aO k4)⟩) λ_ h=>bB<|aB<|aB<|sp h ⟨_,k,k,(bO aO aO k4)⟩
 ·intro e t hX;rcases y5 with y6|y7
  ·obtain ⟨rfl,hent⟩:=hX;exact aS<|tn<|aN hent<|sR<|aT k2<|aE<|rtI h k2
  ·obtain ⟨rfl,hent⟩:=hX;exact aZ<|aD<|sp h hent
def mA (a0:Int) (a1:Int) (a2:Int):Option Bool:=
 (pU a0 a1 a2).bind λv1=>
 some (!v1)
theorem aBw (a0:Int) (a1:Int) (a2:Int) (r:Bool) (h:mA a0 a1 a2=some r):HasC Tryz.prog 171 [.int a0,.ref (eI a1),.ref (eI a2)] (.bl r):=by
 exact hM [.tmp 4] Tryz.func171 Tryz.ntmps171 k<|sR<|aT k2<|sR<|am k k<|lr k7<|lr k7<|oB h λv1 hv1 h=>ae (aP (uZ a0 a1 a2 v1 hv1) k (eC k (eC k (eC k aJ)))) k<|ae (dV k) k<|aT k2<|aE<|mS h k2
def lP (a0:(List Int)) (a1:Int) (a2:Int):Option Bool:=
 (jP a0 (λb0=>mA b0 a1 a2)).bind λv1=>
 some (!v1)
theorem uP (a0:(List Int)) (a1:Int) (a2:Int) (r:Bool) (h:lP a0 a1 a2=some r):HasC Tryz.prog 97 [.list 1 (a0.map eI),.int a1,.int a2] (.bl r):=by
 exact hM [.tmp 6] Tryz.func97 Tryz.ntmps97 k<|sR<|ae (wb k) k<|ae (wb k) k<|aT k2<|sR<|am k k<|ae (rI (vs:=[.ptr 0 0 0,.ptr 1 0 0]) k (by simp)) k<|oB h λv1 hv1 h=>ae (aP (uO a0 (λb0=>mA b0 a1 a2) k (λb0 r h=>aBw b0 a1 a2 r h) v1 hv1) k (eC k (aL (aJL (yC (aAg k k (pC (pB k) zV)) (yC (aAg k k (pC (pB k) zV)) aCX))) aJ))) k<|ae (dV k) k<|aT k2<|aE<|mS h k2
def mT (a0:Qv):Option Bool:=
 (pU a0.n 1 5).bind λv1=>
 bif v1 then
 (bif decide ((a0.src.length:Int)=(a0.tgt.length:Int)) then
 (bif decide ((a0.src.length:Int)≤6) then
 ((lP a0.src 0 (wr (a0.n - 1))).bind λv5=>
 bif v5 then
 ((lP a0.tgt 0 (wr (a0.n - 1))).bind λv7=>
 some (v7))
 else
 (some (false)))
 else
 (some (false)))
 else
 (some (false)))
 else
 (some (false))
theorem vS (a0:Qv) (r:Bool) (h:mT a0=some r):HasC Tryz.prog 99 [.agg (eQ a0)] (.bl r):=by
 refine hM [.tmp 2] Tryz.func99 Tryz.ntmps99 k<|sR<|ae (wb k) k<|aT k2<|sR<|fp k8<|lp k8<|oB h λv1 hv1 h=>ae (aP (uZ a0.n 1 5 v1 hv1) k (eC k (eC k (eC k aJ)))) k<|am k k<|kQ h (λq2 h=>aH 6 k q2<|fp k8<|lp k8<|ln k4<|fp k8<|lp k8<|ln k4<|cm k4<|pk k3<|am k k<|kQ h (λq3 h=>aH 15 k q3<|fp k8<|lp k8<|ln k4<|cm k4<|pk k3<|am k k<|kQ h (λq4 h=>aH 21 k q4<|fp k8<|lp k8<|fp k8<|lp k8<|ae (fA k k) k<|oB h λv5 hv5 h=>ae (aP (uP a0.src 0 (wr (a0.n - 1)) v5 hv5) k (eC k (eC k (eC k aJ)))) k<|pk k3<|am k k<|kQ h (λq6 h=>aH 29 k q6<|fp k8<|lp k8<|fp k8<|lp k8<|ae (fA k k) k<|oB h λv7 hv7 h=>ae (aP (uP a0.tgt 0 (wr (a0.n - 1)) v7 hv7) k (eC k (eC k (eC k aJ)))) k<|pk k3<|aT k2<|aE<|mS h k2) λq6 h=>aH 29 k q6<|aK k4<|aK k4<|aK k4<|pk k3<|aT k2<|aE<|mS h k2) λq4 h=>aH 21 k q4<|aK k4<|aK k4<|aK k4<|pk k3<|am k k<|aK k4<|aK k4<|aK k4<|pk k3<|aT k2<|aE<|mS h k2) λq3 h=>aH 15 k q3<|aK k4<|aK k4<|pk k3<|am k k<|aK k4<|aK k4<|aK k4<|pk k3<|am k k<|aK k4<|aK k4<|aK k4<|pk k3<|aT k2<|aE<|mS h k2) λq2 h=>?_;refine aH 6 k q2<|aK k4<|aK k4<|aK k4<|ak k k<|pk k3<|am k k<|aK k4<|aK k4<|pk k3<|am k k<|aK k4<|aK k4<|aK k4<|pk k3<|am k k<|aK k4<|aK k4<|aK k4 ?_;exact pk k3<|aT k2<|aE<|mS h k2
def dM (a0:(List (List Int))) (x1:(Int×Int)):Option ((Int×Int) ⊕ Int):=
 bif decide (x1.2<(a0.length:Int)) then
 ((dY a0 x1.2).bind λv2=>
 bif decide (wr (x1.1+(v2.length:Int))<0) then
 (none)
 else
 (some (.inl (wr (x1.1+(v2.length:Int)),wr (x1.2+1)))))
 else
 (some (.inr x1.1))
def dN (a0:(List (List Int))) (x2:((List Int)×Int)):Option (((List Int)×Int) ⊕ (List Int)):=
 bif decide (x2.2<(a0.length:Int)) then
 ((dY a0 x2.2).bind λv7=>
 bif decide (x2.1.length+v7.length≤4294967296) then
 (some (.inl ((x2.1++v7),wr (x2.2+1))))
 else none)
 else
 (some (.inr x2.1))
def jV (a0:(List (List Int))):Option (List Int):=
 (Lp (dM a0) (0,0)).bind λy4=>
 (aKn y4).bind λv5=>
 (Lp (dN a0) (v5,0)).bind λy9=>
 some (y9)
theorem yO (a0:(List (List Int))) (r:(List Int)) (h:jV a0=some r):HasC Tryz.prog 172 [.list 1 (a0.map (dE 1 eI))] (.list 1 (r.map eI)):=by
 refine hM [.tmp 2] Tryz.func172 Tryz.ntmps172 k<|sR<|aT k2<|sR<|aT k2<|sQ<|sR<|am k k<|ln k4<|am k k<|an<|tn<|aG<|oB h λy4 hy4 h=>bY (body:=(dM a0)) hy4 (λ(x1:(Int×Int))=>mN [(0,.list 1 (a0.map (dE 1 eI))),(3,.int x1.1),(9,.list 1 (a0.map (dE 1 eI))),(10,.int (a0.length:Int)),(11,.int x1.2)] [] 0) (λr e t=>e= .exit 0∧Ent t (mN [(0,.list 1 (a0.map (dE 1 eI))),(3,.int r)] [] 0)) (bO (bK k2) aO k4) ?_ ?_
 ·intro x1 o h;refine sR<|cm k4<|an<|tn<|sQ<|dC k h (λ_ h=>?_) λ_ h=>bB<|aB<|aB<|sp h ⟨_,k,k,(bO (bK k2) aO k4)⟩;refine aI<|tn<|sQ<|aG<|sR<|oB h λv2 hv2 h=>ae (xl hv2 k) k<|lr k7<|aT k2<|sR<|am k k<|am k k<|ln k4<|ae (bN k k) k<|aT k2<|sR<|am k k<|cm k4<|an<|tn<|dC k h (λ_ h=>?_) λ_ h=>aI<|aW<|tn<|rg<|ae (bN k k) k<|am k k<|an<|tn<|sp h ⟨_,k,(bO (bK k2) aO k4)⟩;refine rg ?_;cases h
 ·rintro e t ⟨rfl,hent⟩;refine aS<|tn<|aN hent<|sR<|am k k<|oB h λv5 hv5 h=>ae (cL cA (aRF y4 v5 hv5) k3 (aL aPj (eC k aJ))) k<|aT k2<|sQ<|sR<|am k k<|ln k4<|am k k<|an<|tn<|aG<|oB h λy9 hy9 h=>bY (body:=(dN a0)) hy9 (λ(x2:((List Int)×Int))=>mN [(6,.own 0 0 x2.1.length),(25,.list 1 (a0.map (dE 1 eI))),(26,.int (a0.length:Int)),(27,.int x2.2)] [(0,⟨1,x2.1.map (ow eI)⟩)] 1) (λr e t=>e= .exit 2∧Ent t (mN [(6,.own 0 0 r.length)] [(0,⟨1,r.map (ow eI)⟩)] 1)) (bO (bK k2) (cX k<|aO) k4) ?_ ?_
  ·intro x2 o h;exact sR<|cm k4<|an<|tn<|sQ<|dC k h (λ_ h=>aI<|tn<|sQ<|aG<|sR<|oB h λv7 hv7 h=>ae (xl hv7 k) k<|lr k7<|aT k2<|rg<|am k k<|am k k<|cG h λq8 h=>ae (mR aV (l:=x2.1) (m:=v7) pF q8 k k k k k k k k k k k k) k<|aa k k<|an<|aW<|tn<|rg<|ae (bN k k) k<|am k k<|an<|tn<|sp h ⟨_,k,(kV [1] (bK k2) (cX k<|aO) k4)⟩) λ_ h=>bB<|aB<|aB<|sp h ⟨_,k,k,(bO (bK k2) (cX k<|aO) k4)⟩
  ·rintro e t ⟨rfl,hent⟩;exact aS<|tn<|aN hent<|sR<|am k k<|aT k2<|aE<|sp h (bD k k k (mX (eY cA k k)))
def sW (a1:(List Int)) (a2:(List Int)) (x1:(Int×Int)):Option ((Int×Int) ⊕ Int):=
 bif decide (x1.2<(a1.length:Int)) then
 ((dY a1 x1.2).bind λv2=>
 (dY a2 x1.2).bind λv3=>
 some (.inl (wr (x1.1+(wr (v2*v3))),wr (x1.2+1))))
 else
 (some (.inr x1.1))
def sX (a0:Qv) (a1:(List Int)) (a2:(List Int)) (x2:(Int×Int)):Option ((Int×Int) ⊕ Int):=
 bif decide (x2.2<(a0.src.length:Int)) then
 ((dY a0.src x2.2).bind λv6=>
 (dY a1 v6).bind λv7=>
 (dY a0.tgt x2.2).bind λv8=>
 (dY a2 v8).bind λv9=>
 some (.inl (wr (x2.1 - (wr (v7*v9))),wr (x2.2+1))))
 else
 (some (.inr x2.1))
def wK (a0:Qv) (a1:(List Int)) (a2:(List Int)):Option Int:=
 (Lp (sW a1 a2) (0,0)).bind λy4=>
 (Lp (sX a0 a1 a2) (y4,0)).bind λy10=>
 some (y10)
theorem aIG (a0:Qv) (a1:(List Int)) (a2:(List Int)) (r:Int) (h:wK a0 a1 a2=some r):HasC Tryz.prog 73 [.agg (eQ a0),.list 1 (a1.map eI),.list 1 (a2.map eI)] (.int r):=by
 refine hM [.tmp 6] Tryz.func73 Tryz.ntmps73 k<|sR<|ae (wb k) k<|aT k2<|sR<|aT k2<|sQ<|sR<|am k k<|ln k4<|am k k<|an<|tn<|aG<|oB h λy4 hy4 h=>bY (body:=(sW a1 a2)) hy4 (λ(x1:(Int×Int))=>mN [(1,.list 1 (a1.map eI)),(2,.list 1 (a2.map eI)),(3,.ptr 0 0 0),(7,.int x1.1),(12,.list 1 (a1.map eI)),(13,.int (a1.length:Int)),(14,.int x1.2)] [(0,⟨3,[eQ a0]⟩)] 1) (λr e t=>e= .exit 0∧Ent t (mN [(1,.list 1 (a1.map eI)),(2,.list 1 (a2.map eI)),(3,.ptr 0 0 0),(7,.int r)] [(0,⟨3,[eQ a0]⟩)] 1)) (bO (bK k2) (bX k<|aO) k4) ?_ ?_
 ·intro x1 o h;refine sR<|cm k4<|an<|tn<|sQ<|dC k h (λ_ h=>?_) λ_ h=>bB<|aB<|aB<|sp h ⟨_,k,k,(bO (bK k2) (bX k<|aO) k4)⟩;refine aI<|tn<|sQ<|aG<|sR<|am k k<|oB h λv2 hv2 h=>ae (xl hv2 k) k<|lr k7<|aa k k<|aT k2<|rg<|am k k<|am k k<|am k k<|am k k<|oB h λv3 hv3 h=>ae (xl hv3 k) k<|lr k7<|ae (vH k k) k<|ae (bN k k) k<|aa k k<|an<|aW<|tn<|rg<|ae (bN k k) k<|am k k ?_;exact an<|tn<|sp h ⟨_,k,(bO (bK k2) (bX k<|aO) k4)⟩
 ·rintro e t ⟨rfl,hent⟩;refine aS<|tn<|aN hent<|sQ<|sR<|fp k8<|lp k8<|ln k4<|am k k<|an<|tn<|aG<|oB h λy10 hy10 h=>bY (body:=(sX a0 a1 a2)) hy10 (λ(x2:(Int×Int))=>mN [(1,.list 1 (a1.map eI)),(2,.list 1 (a2.map eI)),(3,.ptr 0 0 0),(7,.int x2.1),(29,.list 1 (a0.src.map eI)),(30,.int (a0.src.length:Int)),(31,.int x2.2)] [(0,⟨3,[eQ a0]⟩)] 1) (λr e t=>e= .exit 2∧Ent t (mN [(7,.int r)] [] 0)) (bO (bK k2) (bX k<|aO) k4) ?_ ?_
  ·intro x2 o h;refine sR<|cm k4<|an<|tn<|sQ<|dC k h (λ_ h=>?_) λ_ h=>bB<|aB<|aB<|sp h ⟨_,k,k,(bO (bK k2) aO k4)⟩;refine aI<|tn<|sQ<|aG<|sR<|am k k<|oB h λv6 hv6 h=>ae (xl hv6 k) k<|lr k7<|aa k k<|aT k2<|aX iZ<|am k k<|am k k<|am k k<|oB h λv7 hv7 h=>ae (xl hv7 k) k<|lr k7<|am k k<|fp k8<|lp k8<|am k k<|oB h λv8 hv8 h=>ae (xl hv8 k) k<|lr k7<|oB h λv9 hv9 h=>ae (xl hv9 k) k<|lr k7<|ae (vH k k) k<|ae (fA k k) k ?_;exact aa k k<|an<|oT (by kernel_rfl)<|aW<|tn<|rg<|ae (bN k k) k<|am k k<|an<|tn<|sp h ⟨_,k,(bO (bK k2) (bX k<|aO) k4)⟩
  ·rintro e t ⟨rfl,hent⟩;exact aS<|tn<|aN hent<|sR<|am k k<|aT k2<|aE<|rtI h k2
def rM (a0:(List (List Int))) (a1:(List Int)) (x1:Int):Option (Int ⊕ (Unit ⊕ Bool)):=
 bif decide (x1<(a0.length:Int)) then
 ((dY a0 x1).bind λv2=>
 (pV v2 a1).bind λv3=>
 bif v3 then
 (some (.inr (.inr (true))))
 else
 (some (.inl (wr (x1+1)))))
 else
 (some (.inr (.inl ())))
def pW (a0:(List (List Int))) (a1:(List Int)):Option Bool:=
 (Lp (rM a0 a1) 0).bind λy5=>
 Sum.elim (λy6=>
 some (false)
 )
 (λy7=>
 some y7
 )
 y5
theorem aBd (a0:(List (List Int))) (a1:(List Int)) (r:Bool) (h:pW a0 a1=some r):HasC Tryz.prog 92 [.list 1 (a0.map (dE 1 eI)),.list 1 (a1.map eI)] (.bl r):=by
 refine hM [.tmp 4] Tryz.func92 Tryz.ntmps92 k<|sR<|aT k2<|sQ<|sR<|aT k2<|aG<|oB h λy5 hy5 h=>bY (body:=(rM a0 a1)) hy5 (λ(x1:Int)=>mN [(0,.list 1 (a0.map (dE 1 eI))),(1,.list 1 (a1.map eI)),(5,.int x1)] [] 0) (λr e t=>Sum.elim (λa=>(λr e t=>e= .exit 0∧Ent t (mN [] [] 0)) a e t) (λb=>(λr e t=>e= .ret∧nF TT [.tmp 4] (.bl r) .ret t) b e t) r) (bO (bK k2) aO k4) ?_ ?_
 ·intro x1 o h;exact sQ<|sR<|am k k<|am k k<|ln k4<|cm k4<|an<|tn<|dC k h (λ_ h=>aI<|tn<|sQ<|aG<|sR<|am k k<|am k k<|oB h λv2 hv2 h=>ae (xl hv2 k) k<|lr k7<|am k k<|oB h λv3 hv3 h=>ae (aP (vA v2 a1 v3 hv3) k (eC k (eC k aJ))) k<|an<|tn<|dC k h (λ_ h=>sR<|aT k2<|aE<|aZ<|aD<|aD<|sp h ⟨_,k,k,bD k k k (mQ k)⟩) λ_ h=>aI<|aW<|tn<|rg<|am k k<|ae (bN k k) k<|aT k2<|sp h ⟨_,k,(bO (bK k2) aO k4)⟩) λ_ h=>bB<|aB<|aB<|sp h ⟨_,k,k,(bO aO aO k4)⟩
 ·intro e t hX;rcases y5 with y6|y7
  ·obtain ⟨rfl,hent⟩:=hX;exact aS<|tn<|aN hent<|sR<|aT k2<|aE<|mS h k2
  ·obtain ⟨rfl,hent⟩:=hX;exact aZ<|aD<|sp h hent
def nK (a1:(List Int)) (x1:Int):Option (Int ⊕ (Unit ⊕ Bool)):=
 bif decide (x1<(a1.length:Int)) then
 ((dY a1 x1).bind λv2=>
 (fR v2 (-100) 100).bind λv3=>
 bif !v3 then
 (some (.inr (.inr (false))))
 else
 (some (.inl (wr (x1+1)))))
 else
 (some (.inr (.inl ())))
def gH (a0:Qv) (a1:(List Int)):Option Bool:=
 (Lp (nK a1) 0).bind λy5=>
 Sum.elim (λy6=>
 (eO a0).bind λv7=>
 bif v7 then
 (some (decide ((a1.length:Int)=a0.n)))
 else
 (some (false))
 )
 (λy9=>
 some y9
 )
 y5
theorem nZ (a0:Qv) (a1:(List Int)) (r:Bool) (h:gH a0 a1=some r):HasC Tryz.prog 163 [.agg (eQ a0),.list 1 (a1.map eI)] (.bl r):=by
 refine hM [.tmp 4] Tryz.func163 Tryz.ntmps163 k<|sR<|ae (wb k) k<|aT k2<|sQ<|sR<|aT k2<|aG<|oB h λy5 hy5 h=>bY (body:=(nK a1)) hy5 (λ(x1:Int)=>mN [(1,.list 1 (a1.map eI)),(2,.ptr 0 0 0),(5,.int x1)] [(0,⟨3,[eQ a0]⟩)] 1) (λr e t=>Sum.elim (λa=>(λr e t=>e= .exit 0∧Ent t (mN [(1,.list 1 (a1.map eI)),(2,.ptr 0 0 0)] [(0,⟨3,[eQ a0]⟩)] 1)) a e t) (λb=>(λr e t=>e= .ret∧nF TT [.tmp 4] (.bl r) .ret t) b e t) r) (bO (bK k2) (bX k<|aO) k4) ?_ ?_
 ·intro x1 o h;exact sQ<|sR<|am k k<|am k k<|ln k4<|cm k4<|an<|tn<|dC k h (λ_ h=>aI<|tn<|sQ<|aG<|sR<|am k k<|am k k<|oB h λv2 hv2 h=>ae (xl hv2 k) k<|lr k7<|oB h λv3 hv3 h=>ae (aP (hZ v2 (-100) 100 v3 hv3) k (eC k (eC k (eC k aJ)))) k<|ae (dV k) k<|an<|tn<|dC k h (λ_ h=>sR<|aT k2<|aE<|aZ<|aD<|aD<|sp h ⟨_,k,k,bD k k k (mQ k)⟩) λ_ h=>aI<|aW<|tn<|rg<|am k k<|ae (bN k k) k<|aT k2<|sp h ⟨_,k,(bO (bK k2) (bX k<|aO) k4)⟩) λ_ h=>bB<|aB<|aB<|sp h ⟨_,k,k,(bO (bK k2) (bX k<|aO) k4)⟩
 ·intro e t hX;rcases y5 with y6|y9
  ·obtain ⟨rfl,hent⟩:=hX;exact aS<|tn<|aN hent<|sR<|lp k8<|oB h λv7 hv7 h=>ae (aP (kR a0 v7 hv7) k (aL (fP k) aJ)) k<|am k k<|kQ h (λq8 h=>aH 20 k q8<|am k k<|ln k4<|fp k8<|lp k8<|cm k4<|pk k3<|aT k2<|aE<|mS h k2) λq8 h=>aH 20 k q8<|aK k4<|aK k4<|ak k k<|pk k3<|aT k2<|aE<|mS h k2
  ·obtain ⟨rfl,hent⟩:=hX;exact aZ<|aD<|sp h hent
def nL (a0:Qv) (a1:(List Int)) (a2:(List Int)) (x1:(Int×Int)):Option ((Int×Int) ⊕ Int):=
 bif decide (x1.2<a0.n) then
 ((dY a1 x1.2).bind λv6=>
 (dY a2 x1.2).bind λv7=>
 some (.inl (wr (x1.1+(wr (v6*v7))),wr (x1.2+1))))
 else
 (some (.inr x1.1))
def nM (a0:Qv) (a1:(List Int)) (a2:(List Int)) (x2:(Int×Int)):Option ((Int×Int) ⊕ Int):=
 bif decide (x2.2<(a0.src.length:Int)) then
 ((dY a0.src x2.2).bind λv10=>
 (dY a1 v10).bind λv11=>
 (dY a0.tgt x2.2).bind λv12=>
 (dY a2 v12).bind λv13=>
 some (.inl (wr (x2.1 - (wr (v11*v13))),wr (x2.2+1))))
 else
 (some (.inr x2.1))
def oA (a0:Qv) (a1:(List Int)) (a2:(List Int)):Option Int:=
 (gH a0 a1).bind λv1=>
 bif !v1 then
 (some (0))
 else
 ((gH a0 a2).bind λv3=>
 bif !v3 then
 (some (0))
 else
 ((Lp (nL a0 a1 a2) (0,0)).bind λy8=>
 (Lp (nM a0 a1 a2) (y8,0)).bind λy14=>
 some (y14)))
theorem aDW (a0:Qv) (a1:(List Int)) (a2:(List Int)) (r:Int) (h:oA a0 a1 a2=some r):HasC Tryz.prog 75 [.agg (eQ a0),.list 1 (a1.map eI),.list 1 (a2.map eI)] (.int r):=by
 refine hM [.tmp 6] Tryz.func75 Tryz.ntmps75 k<|sR<|ae (wb k) k<|aT k2<|sQ<|sR<|lp k8<|am k k<|oB h λv1 hv1 h=>ae (aP (nZ a0 a1 v1 hv1) k (aL (fP k) (eC k aJ))) k<|ae (dV k) k<|am k k<|kQ h (λq2 h=>aH 14 k q2<|aK k4<|aK k4<|pk k3<|an<|tn<|cM k k<|sR<|aT k2<|aE<|aD<|rtI h k2) λq2 h=>?_;refine aH 14 k q2<|lp k8<|am k k<|oB h λv3 hv3 h=>ae (aP (nZ a0 a2 v3 hv3) k (aL (fP k) (eC k aJ))) k<|ae (dV k) k<|pk k3<|an<|tn<|dC k h (λ_ h=>sR<|aT k2<|aE<|aD<|rtI h k2) λ_ h=>?_;refine aI<|tn<|sR<|aT k2<|sQ<|sR<|aT k2<|aG<|oB h λy8 hy8 h=>bY (body:=(nL a0 a1 a2)) hy8 (λ(x1:(Int×Int))=>mN [(1,.list 1 (a1.map eI)),(2,.list 1 (a2.map eI)),(3,.ptr 0 0 0),(7,.int x1.1),(8,.int x1.2)] [(0,⟨3,[eQ a0]⟩)] 1) (λr e t=>e= .exit 0∧Ent t (mN [(1,.list 1 (a1.map eI)),(2,.list 1 (a2.map eI)),(3,.ptr 0 0 0),(7,.int r)] [(0,⟨3,[eQ a0]⟩)] 1)) (bO (bK k2) (bX k<|aO) k4) ?_ ?_
 ·intro x1 o h;exact sQ<|sR<|am k k<|fp k8<|lp k8<|cm k4<|an<|tn<|dC k h (λ_ h=>aI<|tn<|sQ<|aG<|aX iZ<|am k k<|am k k<|am k k<|oB h λv6 hv6 h=>ae (xl hv6 k) k<|lr k7<|am k k<|am k k<|oB h λv7 hv7 h=>ae (xl hv7 k) k<|lr k7<|ae (vH k k) k<|ae (bN k k) k<|aa k k<|an<|oT (by kernel_rfl)<|aW<|tn<|rg<|am k k<|ae (bN k k) k<|aT k2<|sp h ⟨_,k,(bO (bK k2) (bX k<|aO) k4)⟩) λ_ h=>bB<|aB<|aB<|sp h ⟨_,k,k,(bO (bK k2) (bX k<|aO) k4)⟩
 ·rintro e t ⟨rfl,hent⟩;refine aS<|tn<|aN hent<|sQ<|sR<|aT k2<|aG<|oB h λy14 hy14 h=>bY (body:=(nM a0 a1 a2)) hy14 (λ(x2:(Int×Int))=>mN [(1,.list 1 (a1.map eI)),(2,.list 1 (a2.map eI)),(3,.ptr 0 0 0),(7,.int x2.1),(9,.int x2.2)] [(0,⟨3,[eQ a0]⟩)] 1) (λr e t=>e= .exit 2∧Ent t (mN [(7,.int r)] [] 0)) (bO (bK k2) (bX k<|aO) k4) ?_ ?_
  ·intro x2 o h;refine sQ<|sR<|am k k<|fp k8<|lp k8<|ln k4<|cm k4<|an<|tn<|dC k h (λ_ h=>?_) λ_ h=>bB<|aB<|aB<|sp h ⟨_,k,k,(bO (bK k2) aO k4)⟩;refine aI<|tn<|sQ<|aG<|aX iZ<|am k k<|am k k<|fp k8<|lp k8<|am k k<|oB h λv10 hv10 h=>ae (xl hv10 k) k<|lr k7<|oB h λv11 hv11 h=>ae (xl hv11 k) k<|lr k7<|am k k<|fp k8<|lp k8<|am k k<|oB h λv12 hv12 h=>ae (xl hv12 k) k<|lr k7<|oB h λv13 hv13 h=>ae (xl hv13 k) k<|lr k7<|ae (vH k k) k<|ae (fA k k) k<|aa k k<|an<|oT (by kernel_rfl)<|aW<|tn ?_;exact aN (t:=mN [(1,.list 1 (a1.map eI)),(2,.list 1 (a2.map eI)),(3,.ptr 0 0 0),(7,.int (wr (x2.1 - (wr (v11*v13))))),(9,.int x2.2)] [(0,⟨3,[eQ a0]⟩)] 1) (bO (bK k2) (bX k<|aO) k4)<|rg<|am k k<|ae (bN k k) k<|aT k2<|sp h ⟨_,k,(bO (bK k2) (bX k<|aO) k4)⟩
  ·rintro e t ⟨rfl,hent⟩;exact aS<|tn<|aN hent<|sR<|am k k<|aT k2<|aE<|rtI h k2
def vT (a0:Qv) (a1:(List Int)):Option Int:=
 (oA a0 a1 a1).bind λv1=>
 some (v1)
theorem aEa (a0:Qv) (a1:(List Int)) (r:Int) (h:vT a0 a1=some r):HasC Tryz.prog 93 [.agg (eQ a0),.list 1 (a1.map eI)] (.int r):=by
 exact hM [.tmp 4] Tryz.func93 Tryz.ntmps93 k<|sR<|ae (wb k) k<|aT k2<|sR<|lp k8<|am k k<|am k k<|oB h λv1 hv1 h=>ae (aP (aDW a0 a1 a1 v1 hv1) k (aL (fP k) (eC k (eC k aJ)))) k<|aT k2<|aE<|rtI h k2
def qL (a0:(List Int)) (a1:(List Int)) (x1:(Int×Int×Int)):Option ((Int×Int×Int) ⊕ (Int×Int)):=
 bif decide (x1.2.2<(a0.length:Int)) then
 ((dY a0 x1.2.2).bind λv2=>
 (dY a1 x1.2.2).bind λv3=>
 some (.inl (wr (x1.1+v2),wr (x1.2.1+v3),wr (x1.2.2+1))))
 else
 (some (.inr (x1.1,x1.2.1)))
def iN (a0:(List Int)) (a1:(List Int)) (x2:Int):Option (Int ⊕ (Unit ⊕ Bool)):=
 bif decide (x2<(a0.length:Int)) then
 ((dY a0 x2).bind λv7=>
 (dY a1 x2).bind λv8=>
 bif !decide (v7=v8) then
 ((dY a0 x2).bind λv10=>
 (dY a1 x2).bind λv11=>
 some (.inr (.inr (decide (v10<v11)))))
 else
 (some (.inl (wr (x2+1)))))
 else
 (some (.inr (.inl ())))
def tX (a0:(List Int)) (a1:(List Int)):Option Bool:=
 (Lp (qL a0 a1) (0,0,0)).bind λy4=>
 bif !decide (y4.1=y4.2) then
 (some (decide (y4.1<y4.2)))
 else
 ((Lp (iN a0 a1) 0).bind λy12=>
 Sum.elim (λy13=>
 some (false)
 )
 (λy14=>
 some y14
 )
 y12)
theorem aFj (a0:(List Int)) (a1:(List Int)) (r:Bool) (h:tX a0 a1=some r):HasC Tryz.prog 94 [.list 1 (a0.map eI),.list 1 (a1.map eI)] (.bl r):=by
 refine hM [.tmp 4] Tryz.func94 Tryz.ntmps94 k<|sR<|aT k2<|sR<|aT k2<|sR<|aT k2<|sQ<|sR<|aT k2<|aG<|oB h λy4 hy4 h=>bY (body:=(qL a0 a1)) hy4 (λ(x1:(Int×Int×Int))=>mN [(0,.list 1 (a0.map eI)),(1,.list 1 (a1.map eI)),(5,.int x1.1),(6,.int x1.2.1),(7,.int x1.2.2)] [] 0) (λr e t=>e= .exit 0∧Ent t (mN [(0,.list 1 (a0.map eI)),(1,.list 1 (a1.map eI)),(5,.int r.1),(6,.int r.2)] [] 0)) (bO (bK k2) aO k4) ?_ ?_
 ·intro x1 o h;refine sQ<|sR<|am k k<|am k k<|ln k4<|cm k4<|an<|tn<|dC k h (λ_ h=>?_) λ_ h=>bB<|aB<|aB<|sp h ⟨_,k,k,(bO (bK k2) aO k4)⟩;refine aI<|tn<|sQ<|aG<|sR<|am k k<|am k k<|am k k<|oB h λv2 hv2 h=>ae (xl hv2 k) k<|lr k7<|ae (bN k k) k<|aT k2<|rg<|am k k<|am k k<|am k k<|oB h λv3 hv3 h=>ae (xl hv3 k) k<|lr k7<|ae (bN k k) k<|aa k k<|an<|aW<|tn<|rg<|am k k<|ae (bN k k) k ?_;exact aT k2<|sp h ⟨_,k,(bO (bK k2) aO k4)⟩
 ·rintro e t ⟨rfl,hent⟩;refine aS<|tn<|aN hent<|sQ<|sR<|am k k<|am k k<|cm k4<|an<|tn<|dC k h (λ_ h=>sR<|am k k<|am k k<|cm k4<|aT k2<|aE<|aD<|mS h k2) λ_ h=>?_;refine aI<|tn<|sQ<|sR<|aT k2<|aG<|oB h λy12 hy12 h=>bY (body:=(iN a0 a1)) hy12 (λ(x2:Int)=>mN [(0,.list 1 (a0.map eI)),(1,.list 1 (a1.map eI)),(8,.int x2)] [] 0) (λr e t=>Sum.elim (λa=>(λr e t=>e= .exit 2∧Ent t (mN [] [] 0)) a e t) (λb=>(λr e t=>e= .ret∧nF TT [.tmp 4] (.bl r) .ret t) b e t) r) (bO (bK k2) aO k4) ?_ ?_
  ·intro x2 o h;exact sQ<|sR<|am k k<|am k k<|ln k4<|cm k4<|an<|tn<|dC k h (λ_ h=>aI<|tn<|sQ<|aG<|sQ<|aX iZ<|am k k<|am k k<|oB h λv7 hv7 h=>ae (xl hv7 k) k<|lr k7<|am k k<|am k k<|oB h λv8 hv8 h=>ae (xl hv8 k) k<|lr k7<|cm k4<|an<|oT (by kernel_rfl)<|tn<|dC k h (λ_ h=>sQ<|aX iZ<|am k k<|am k k<|oB h λv10 hv10 h=>ae (xl hv10 k) k<|lr k7<|am k k<|am k k<|oB h λv11 hv11 h=>ae (xl hv11 k) k<|lr k7<|cm k4<|aa k k<|an<|oT (by kernel_rfl)<|tn<|aE<|aZ<|aD<|aD<|sp h ⟨_,k,k,bD k k k (mQ k)⟩) λ_ h=>aI<|aW<|tn<|rg<|am k k<|ae (bN k k) k<|aT k2<|sp h ⟨_,k,(bO (bK k2) aO k4)⟩) λ_ h=>bB<|aB<|aB<|sp h ⟨_,k,k,(bO aO aO k4)⟩
  ·intro e t hX;rcases y12 with y13|y14
   ·obtain ⟨rfl,hent⟩:=hX;exact aS<|tn<|aN hent<|sR<|aT k2<|aE<|mS h k2
   ·obtain ⟨rfl,hent⟩:=hX;exact aZ<|aD<|sp h hent
def iA (a0:(List (List Int))) (a1:(List Int)) (a2:Int) (x1:(Int×Int)):Option ((Int×Int) ⊕ Int):=
 bif decide (x1.2<(a1.length:Int)) then
 ((dY a0 a2).bind λv3=>
 (dY v3 x1.2).bind λv4=>
 (dY a1 x1.2).bind λv5=>
 some (.inl (wr (x1.1+(wr (v4*v5))),wr (x1.2+1))))
 else
 (some (.inr x1.1))
def iO (a0:(List (List Int))) (a1:(List Int)) (a2:Int):Option (List Int):=
 bif decide (([]:(List Int)).length +a1.length≤4294967296) then
 ((Lp (iA a0 a1 a2) (0,0)).bind λy6=>
 (dY (([]:(List Int))++a1) a2).bind λv7=>
 (dY (([]:(List Int))++a1) a2).bind λv8=>
 some (((([]:(List Int))++a1).set a2.toNat (wr (v7 - y6)))))
 else none
theorem yD (a0:(List (List Int))) (a1:(List Int)) (a2:Int) (r:(List Int)) (h:iO a0 a1 a2=some r):HasC Tryz.prog 91 [.list 1 (a0.map (dE 1 eI)),.list 1 (a1.map eI),.int a2] (.list 1 (r.map eI)):=by
 refine hM [.tmp 6] Tryz.func91 Tryz.ntmps91 k<|sR<|aT k2<|sR<|ae (wl k) k<|am k k<|cG h λq1 h=>ae (mR aV (l:=([]:(List Int))) (m:=a1) pF q1 k k k k k k k k k k k k) k<|aT k2<|sR<|aT k2<|sQ<|sR<|aT k2<|aG<|oB h λy6 hy6 h=>bY (body:=(iA a0 a1 a2)) hy6 (λ(x1:(Int×Int))=>mN [(0,.list 1 (a0.map (dE 1 eI))),(1,.list 1 (a1.map eI)),(2,.int a2),(7,.own 0 0 ((([]:(List Int))++a1).length)),(8,.int x1.1),(9,.int x1.2)] [(0,⟨1,List.map (ow eI) (([]:(List Int))++a1)⟩)] 1) (λr e t=>e= .exit 0∧Ent t (mN [(2,.int a2),(7,.own 0 0 ((([]:(List Int))++a1).length)),(8,.int r)] [(0,⟨1,List.map (ow eI) (([]:(List Int))++a1)⟩)] 1)) (kV [1] (bK k2) (cX k<|aO) k4) ?_ ?_
 ·intro x1 o h;refine sQ<|sR<|am k k<|am k k<|ln k4<|cm k4<|an<|tn<|dC k h (λ_ h=>?_) λ_ h=>bB<|aB<|aB<|sp h ⟨_,k,k,(bO (bK k2) (cX k<|aO) k4)⟩;refine aI<|tn<|sQ<|aG<|aX iZ<|am k k<|am k k<|am k k<|oB h λv3 hv3 h=>ae (xl hv3 k) k<|lr k7<|am k k<|oB h λv4 hv4 h=>ae (xl hv4 k) k<|lr k7<|am k k<|am k k<|oB h λv5 hv5 h=>ae (xl hv5 k) k<|lr k7<|ae (vH k k) k<|ae (bN k k) k<|aa k k<|an<|oT (by kernel_rfl)<|aW<|tn<|rg<|am k k<|ae (bN k k) k<|aa k k<|an ?_;exact tn<|sp h ⟨_,k,(bO (bK k2) (cX k<|aO) k4)⟩
 ·rintro e t ⟨rfl,hent⟩;exact aS<|tn<|aN hent<|sR<|am k k<|am k k<|am k k<|am k k<|oB h λv7 hv7 h=>ae (xo hv7 k) k<|ae (wp hv7 k) k<|am k k<|ae (fA k k) k<|oB h λv8 hv8 h=>ae (xo hv8 k) k<|ae (mW aV pF (u:=wr (v7 - y6)) (gN hv8) k k k k k k) k<|an<|tn<|sR<|am k k<|aT k2<|aE<|sp h (bD k k k (mX (eY cA k (by first|rfl|simp only [List.length_set]))))
def eM (a0:Qv) (a1:Int):Option Bool:=
 (pU a1 0 (wr (a0.n - 1))).bind λv1=>
 some (v1)
theorem iB (a0:Qv) (a1:Int) (r:Bool) (h:eM a0 a1=some r):HasC Tryz.prog 152 [.agg (eQ a0),.int a1] (.bl r):=by
 exact hM [.tmp 4] Tryz.func152 Tryz.ntmps152 k<|sR<|ae (wb k) k<|aT k2<|sR<|am k k<|fp k8<|lp k8<|ae (fA k k) k<|oB h λv1 hv1 h=>ae (aP (uZ a1 0 (wr (a0.n - 1)) v1 hv1) k (eC k (eC k (eC k aJ)))) k<|aT k2<|aE<|mS h k2
def jJ (a0:(List (List Int))) (x1:(Int×Int×Int)) (x2:((List (List Int))×Int)):Option (((List (List Int))×Int) ⊕ (List (List Int))):=
 bif decide (x2.2<(((a0.drop (1:Int).toNat).take ((a0.length:Int).toNat - (1:Int).toNat)).length:Int)) then
 ((dY ((a0.drop (1:Int).toNat).take ((a0.length:Int).toNat - (1:Int).toNat)) x2.2).bind λv7=>
 bif (decide (0≤0)&&(decide (0≤x1.2.2)&&decide (x1.2.2≤(v7.length:Int)))) then
 (bif (decide (0≤wr (x1.2.2+1))&&(decide (wr (x1.2.2+1)≤(v7.length:Int))&&decide ((v7.length:Int)≤(v7.length:Int)))) then
 ((jV [((v7.drop (0:Int).toNat).take (x1.2.2.toNat - (0:Int).toNat)),((v7.drop (wr (x1.2.2+1)).toNat).take ((v7.length:Int).toNat - (wr (x1.2.2+1)).toNat))]).bind λv10=>
 bif decide (x2.1.length+1≤4294967296) then
 (some (.inl ((x2.1++[v10]),wr (x2.2+1))))
 else none)
 else none)
 else none)
 else
 (some (.inr x2.1))
def mJ (self:((List (List Int))→Option Int)) (a0:(List (List Int))) (v2:(List Int)) (x1:(Int×Int×Int)):Option ((Int×Int×Int) ⊕ Int):=
 bif decide (x1.2.2<(v2.length:Int)) then
 ((dY v2 x1.2.2).bind λv4=>
 bif (decide (0≤1)&&(decide (1≤(a0.length:Int))&&decide ((a0.length:Int)≤(a0.length:Int)))) then
 ((Lp (jJ a0 x1) ([],0)).bind λy12=>
 (self y12).bind λv13=>
 some (.inl (wr (x1.1+(wr ((wr (x1.2.1*v4))*v13))),wr (-x1.2.1),wr (x1.2.2+1))))
 else none)
 else
 (some (.inr x1.1))
def mY (self:(List (List Int))→Option Int) (a0:(List (List Int))):Option Int:=
 bif decide ((a0.length:Int)=0) then
 (some (1))
 else
 ((dY a0 0).bind λv2=>
 (Lp (mJ self a0 v2) (0,1,0)).bind λy14=>
 some (y14))
def jQ:Nat→(List (List Int))→Option Int
 |0,_=>none
 |n+1,a0=>mY (jQ n) a0
theorem aAi (self:(List (List Int))→Option Int) (a0:(List (List Int))) (ih: ∀ (a0:(List (List Int))) (r:Int),self a0=some r→HasC Tryz.prog 98 [.list 1 (a0.map (dE 1 eI))] (.int r)) (r:Int) (h:mY self a0=some r):HasC Tryz.prog 98 [.list 1 (a0.map (dE 1 eI))] (.int r):=by
 refine hM [.tmp 2] Tryz.func98 Tryz.ntmps98 k<|sR<|aT k2<|sQ<|sR<|am k k<|ln k4<|cm k4<|an<|tn<|dC k h (λ_ h=>sR<|aT k2<|aE<|aD<|rtI h k2) λ_ h=>?_;refine aI<|tn<|sR<|aa k k<|aT k2<|sQ<|sR<|am k k<|oB h λv2 hv2 h=>ae (xl hv2 k) k<|lr k7<|ln k4<|am k k<|an<|tn<|aG<|oB h λy14 hy14 h=>bY (body:=(mJ self a0 v2)) hy14 (λ(x1:(Int×Int×Int))=>mN [(0,.list 1 (a0.map (dE 1 eI))),(3,.int x1.1),(4,.int x1.2.1),(15,.list 1 (v2.map eI)),(16,.int (v2.length:Int)),(17,.int x1.2.2)] [] 0) (λr e t=>e= .exit 0∧Ent t (mN [(3,.int r)] [] 0)) (bO (bK k2) aO k4) ?_ ?_
 ·intro x1 o h;refine sR<|cm k4<|an<|tn<|sQ<|dC k h (λ_ h=>?_) λ_ h=>bB<|aB<|aB<|sp h ⟨_,k,k,(bO (bK k2) aO k4)⟩;refine aI<|tn<|sQ<|aG<|sR<|am k k<|oB h λv4 hv4 h=>ae (xl hv4 k) k<|lr k7<|aa k k<|aT k2<|sR<|aT k2<|sQ<|sR<|am k k<|cG h λq5 h=>ae (tU aV (l0:=a0) (l:=1) (h:=(a0.length:Int)) q5 k k k k k k k) k<|ae (AEff.val (xB aV k k k) (v':= .int (((a0.drop (1:Int).toNat).take ((a0.length:Int).toNat - (1:Int).toNat)).length:Int)) (by first|rw [aR]|rw [encI_len])) k<|am k k<|an<|tn<|aG<|oB h λy12 hy12 h=>bY (body:=(jJ a0 x1)) hy12 (λ(x2:((List (List Int))×Int))=>mN [(0,.list 1 (a0.map (dE 1 eI))),(3,.int x1.1),(4,.int x1.2.1),(5,.int x1.2.2),(6,.int v4),(7,.own 0 0 x2.1.length),(15,.list 1 (v2.map eI)),(16,.int (v2.length:Int)),(17,.int x1.2.2),(23,.list 1 (List.map (dE 1 eI) ((a0.drop (1:Int).toNat).take ((a0.length:Int).toNat - (1:Int).toNat)))),(24,.int (((a0.drop (1:Int).toNat).take ((a0.length:Int).toNat - (1:Int).toNat)).length:Int)),(25,.int x2.2)] [(0,⟨1,x2.1.map (ow (dE 1 eI))⟩)] 1) (λr e t=>e= .exit 2∧Ent t (mN [(0,.list 1 (a0.map (dE 1 eI))),(3,.int x1.1),(4,.int x1.2.1),(6,.int v4),(7,.own 0 0 r.length),(15,.list 1 (v2.map eI)),(16,.int (v2.length:Int)),(17,.int x1.2.2)] [(0,⟨1,r.map (ow (dE 1 eI))⟩)] 1)) (kP (σ:=sg []) (qQ 5 k2 (kE ⟨_,k,⟨k,k,k,k⟩⟩ (bK k2))) (hX k k<|aO) k) ?_ ?_
  ·intro x2 o h;refine sR<|cm k4<|an<|tn<|sQ<|dC k h (λ_ h=>?_) λ_ h=>bB<|aB<|aB<|sp h ⟨_,k,k,(bO (bK k2) (cR (bA.plainO _) k<|aO) k4)⟩;refine aI<|tn<|sQ<|aG<|sR<|oB h λv7 hv7 h=>ae (xl hv7 k) k<|lr k7<|aT k2<|aX iZ<|am k k<|am k k<|am k k<|cG h λq8 h=>ae (tU aV (l0:=v7) (l:=0) (h:=x1.2.2) q8 k k k k k k k) k<|am k k<|am k k<|ae (bN k k) k<|cG h λq9 h=>ae (tU aV (l0:=v7) (l:=wr (x1.2.2+1)) (h:=(v7.length:Int)) q9 k k k k k k k) k<|ae (wl k) k<|oB h λv10 hv10 h=>ae (cL cA (yO [((v7.drop (0:Int).toNat).take (x1.2.2.toNat - (0:Int).toNat)),((v7.drop (wr (x1.2.2+1)).toNat).take ((v7.length:Int).toNat - (wr (x1.2.2+1)).toNat))] v10 hv10) k3 (aL (aNd k k ⟨_,_,k,⟨_,_,k,⟨k,k⟩,k⟩,⟨_,_,k,⟨_,_,k,⟨k,k⟩,k⟩,k⟩⟩) aJ)) k<|ae (wl k) k<|cG h λq11 h=>ae (uM aV (l:=x2.1) (c:=[.own 2 0 v10.length]) q11 k k k k k k k k k k k k k k) k<|aa k k<|an<|oT (by kernel_rfl)<|aW<|tn ?_;exact aN (t:=mN [(0,.list 1 (a0.map (dE 1 eI))),(3,.int x1.1),(4,.int x1.2.1),(5,.int x1.2.2),(6,.int v4),(7,.own 4 0 ((x2.1++[v10]).length)),(15,.list 1 (v2.map eI)),(16,.int (v2.length:Int)),(17,.int x1.2.2),(23,.list 1 (List.map (dE 1 eI) ((a0.drop (1:Int).toNat).take ((a0.length:Int).toNat - (1:Int).toNat)))),(24,.int (((a0.drop (1:Int).toNat).take ((a0.length:Int).toNat - (1:Int).toNat)).length:Int)),(25,.int x2.2)] [(4,⟨1,List.map (ow (dE 1 eI)) (x2.1++[v10])⟩)] 5) (Ent.trans (qW (b:=4) (b':=2) (j:=0) (es':=v10.map eI) k k k k (aR _ _) (cA.frzs _)) (bO (qQ 5 k2 (kE ⟨_,k,⟨k,k,(by simp only [aR,lA,lT,lR,lC,lN]),k⟩⟩ (bK k2))) (hX ⟨_,k,k,.inl ⟨xE v10 k,bA.plainO _⟩⟩ k<|aO) k4))<|rg<|ae (bN k k) k<|am k k<|an<|tn<|sp h ⟨_,k,(kV [4] (bK k2) (cR (bA.plainO _) k<|aO) k4)⟩
  ·rintro e t ⟨rfl,hent⟩;exact aS<|tn<|aN hent<|sR<|am k k<|am k k<|am k k<|ae (vH k k) k<|am k k<|oB h λv13 hv13 h=>ae (aP (ih y12 v13 hv13) k (aL (wG bA k k) aJ)) k<|ae (vH k k) k<|ae (bN k k) k<|aT k2<|rg<|am k k<|ae (aGv k) k<|aa k k<|an<|aW<|tn<|rg<|ae (bN k k) k<|am k k<|an<|tn<|sp h ⟨_,k,(bO (bK k2) aO k4)⟩
 ·rintro e t ⟨rfl,hent⟩;exact aS<|tn<|aN hent<|sR<|am k k<|aT k2<|aE<|rtI h k2
theorem xG: ∀ (n:Nat) (a0:(List (List Int))) (r:Int),jQ n a0=some r→HasC Tryz.prog 98 [.list 1 (a0.map (dE 1 eI))] (.int r)
 |0,a0,r,h=>by cases h
 |n+1,a0,r,h=>aAi (jQ n) a0 (xG n) r h
def oC (a0:(List (List Int))) (x1:(Int×Int×Int)) (x2:((List (List Int))×Int)):Option (((List (List Int))×Int) ⊕ (List (List Int))):=
 bif decide (x2.2<(a0.length:Int)) then
 ((dY a0 x2.2).bind λv4=>
 bif (decide (0≤0)&&(decide (0≤x1.2.2)&&decide (x1.2.2≤(v4.length:Int)))) then
 (bif decide (([]:(List Int)).length +((v4.drop (0:Int).toNat).take (x1.2.2.toNat - (0:Int).toNat)).length ≤4294967296) then
 ((dY a0 x2.2).bind λv7=>
 bif (decide (0≤wr (x1.2.2+1))&&(decide (wr (x1.2.2+1)≤(v7.length:Int))&&decide ((v7.length:Int)≤(v7.length:Int)))) then
 (bif decide ((([]:(List Int))++((v4.drop (0:Int).toNat).take (x1.2.2.toNat - (0:Int).toNat))).length +((v7.drop (wr (x1.2.2+1)).toNat).take ((v7.length:Int).toNat - (wr (x1.2.2+1)).toNat)).length ≤4294967296) then
 (bif decide (x2.1.length+1≤4294967296) then
 (some (.inl ((x2.1++[((([]:(List Int))++((v4.drop (0:Int).toNat).take (x1.2.2.toNat - (0:Int).toNat)))++((v7.drop (wr (x1.2.2+1)).toNat).take ((v7.length:Int).toNat - (wr (x1.2.2+1)).toNat)))]),wr (x2.2+1))))
 else none)
 else none)
 else none)
 else none)
 else none)
 else
 (some (.inr x2.1))
def rN (self:((List (List Int))→Option Int)) (a0:(List (List Int))) (x1:(Int×Int×Int)):Option ((Int×Int×Int) ⊕ Int):=
 bif decide (x1.2.2<(a0.length:Int)) then
 ((Lp (oC a0 x1) (([]:(List (List Int))),1)).bind λy11=>
 (dY a0 0).bind λv12=>
 (dY v12 x1.2.2).bind λv13=>
 (self y11).bind λv14=>
 some (.inl (wr (x1.1+(wr ((wr (x1.2.1*v13))*v14))),wr (-x1.2.1),wr (x1.2.2+1))))
 else
 (some (.inr x1.1))
def sY (self:(List (List Int))→Option Int) (a0:(List (List Int))):Option Int:=
 bif decide ((a0.length:Int)=0) then
 (some (1))
 else
 ((Lp (rN self a0) (0,1,0)).bind λy15=>
 some (y15))
def pX:Nat→(List (List Int))→Option Int
 |0,_=>none
 |n+1,a0=>sY (pX n) a0
theorem aEb (self:(List (List Int))→Option Int) (a0:(List (List Int))) (ih: ∀ (a0:(List (List Int))) (r:Int),self a0=some r→HasC Tryz.prog 109 [.list 1 (a0.map (dE 1 eI))] (.int r)) (r:Int) (h:sY self a0=some r):HasC Tryz.prog 109 [.list 1 (a0.map (dE 1 eI))] (.int r):=by
 refine hM [.tmp 2] Tryz.func109 Tryz.ntmps109 k<|sR<|aT k2<|sQ<|sR<|am k k<|ln k4<|cm k4<|an<|tn<|dC k h (λ_ h=>sR<|aT k2<|aE<|aD<|rtI h k2) λ_ h=>?_;refine aI<|tn<|sR<|aT k2<|sR<|aT k2<|sQ<|sR<|aT k2<|aG<|oB h λy15 hy15 h=>bY (body:=(rN self a0)) hy15 (λ(x1:(Int×Int×Int))=>mN [(0,.list 1 (a0.map (dE 1 eI))),(3,.int x1.1),(4,.int x1.2.1),(5,.int x1.2.2)] [] 0) (λr e t=>e= .exit 0∧Ent t (mN [(3,.int r)] [] 0)) (bO (bK k2) aO k4) ?_ ?_
 ·intro x1 o h;refine sQ<|sR<|am k k<|am k k<|ln k4<|cm k4<|an<|tn<|dC k h (λ_ h=>?_) λ_ h=>bB<|aB<|aB<|sp h ⟨_,k,k,(bO (bK k2) aO k4)⟩;refine aI<|tn<|sQ<|aG<|sR<|ae (wl k) k<|aT k2<|aN (t:=mN [(0,.list 1 (a0.map (dE 1 eI))),(3,.int x1.1),(4,.int x1.2.1),(5,.int x1.2.2),(6,.own 0 0 (([]:(List (List Int))).length))] [(0,⟨1,List.map (ow (dE 1 eI)) ([]:(List (List Int)))⟩)] 1) (bO (qQ 4 k2 (kE ⟨_,k,⟨k,k,(by simp only [aR,lA,lT,lR,lC,lN]),k⟩⟩ aO)) (cR (bA.plainO _) k<|aO) k4)<|sQ<|sR<|aT k2<|aG<|oB h λy11 hy11 h=>bY (body:=(oC a0 x1)) hy11 (λ(x2:((List (List Int))×Int))=>mN [(0,.list 1 (a0.map (dE 1 eI))),(3,.int x1.1),(4,.int x1.2.1),(5,.int x1.2.2),(6,.own 0 0 x2.1.length),(7,.int x2.2)] [(0,⟨1,x2.1.map (ow (dE 1 eI))⟩)] 1) (λr e t=>e= .exit 2∧Ent t (mN [(0,.list 1 (a0.map (dE 1 eI))),(3,.int x1.1),(4,.int x1.2.1),(5,.int x1.2.2),(6,.own 0 0 r.length)] [(0,⟨1,r.map (ow (dE 1 eI))⟩)] 1)) (bO (bK k2) (cR (bA.plainO _) k<|aO) k4) ?_ ?_
  ·intro x2 o h;refine sQ<|sR<|am k k<|am k k<|ln k4<|cm k4<|an<|tn<|dC k h (λ_ h=>?_) λ_ h=>bB<|aB<|aB<|sp h ⟨_,k,k,(bO (bK k2) (cR (bA.plainO _) k<|aO) k4)⟩;refine aI<|tn<|sQ<|aG<|aX iZ<|am k k<|ae (wl k) k<|am k k<|am k k<|oB h λv4 hv4 h=>ae (xl hv4 k) k<|lr k7<|am k k<|cG h λq5 h=>ae (tU aV (l0:=v4) (l:=0) (h:=x1.2.2) q5 k k k k k k k) k<|cG h λq6 h=>ae (mR aV (l:=([]:(List Int))) (m:=((v4.drop (0:Int).toNat).take (x1.2.2.toNat - (0:Int).toNat))) pF q6 k k k k k k k k k k k k) k<|am k k<|am k k<|oB h λv7 hv7 h=>ae (xl hv7 k) k<|lr k7<|am k k<|ae (bN k k) k<|cG h λq8 h=>ae (tU aV (l0:=v7) (l:=wr (x1.2.2+1)) (h:=(v7.length:Int)) q8 k k k k k k k) k<|cG h λq9 h=>ae (mR aV (l:=(([]:(List Int))++((v4.drop (0:Int).toNat).take (x1.2.2.toNat - (0:Int).toNat)))) (m:=((v7.drop (wr (x1.2.2+1)).toNat).take ((v7.length:Int).toNat - (wr (x1.2.2+1)).toNat))) pF q9 k k k k k k k k k k k k) k<|ae (wl k) k<|cG h λq10 h=>ae (uM aV (l:=x2.1) (c:=[.own 3 0 (((([]:(List Int))++((v4.drop (0:Int).toNat).take (x1.2.2.toNat - (0:Int).toNat)))++((v7.drop (wr (x1.2.2+1)).toNat).take ((v7.length:Int).toNat - (wr (x1.2.2+1)).toNat))).length)]) q10 k k k k k k k k k k k k k k) k<|aa k k<|an<|oT (by kernel_rfl)<|aW<|tn ?_;exact aN (t:=mN [(0,.list 1 (a0.map (dE 1 eI))),(3,.int x1.1),(4,.int x1.2.1),(5,.int x1.2.2),(6,.own 5 0 ((x2.1++[((([]:(List Int))++((v4.drop (0:Int).toNat).take (x1.2.2.toNat - (0:Int).toNat)))++((v7.drop (wr (x1.2.2+1)).toNat).take ((v7.length:Int).toNat - (wr (x1.2.2+1)).toNat)))]).length)),(7,.int x2.2)] [(5,⟨1,List.map (ow (dE 1 eI)) (x2.1++[((([]:(List Int))++((v4.drop (0:Int).toNat).take (x1.2.2.toNat - (0:Int).toNat)))++((v7.drop (wr (x1.2.2+1)).toNat).take ((v7.length:Int).toNat - (wr (x1.2.2+1)).toNat)))])⟩)] 6) (Ent.trans (qW (b:=5) (b':=3) (j:=0) (es':=List.map eI ((([]:(List Int))++((v4.drop (0:Int).toNat).take (x1.2.2.toNat - (0:Int).toNat)))++((v7.drop (wr (x1.2.2+1)).toNat).take ((v7.length:Int).toNat - (wr (x1.2.2+1)).toNat)))) k k k k (aR _ _) (cA.frzs _)) (bO (qQ 4 k2 (kE ⟨_,k,⟨k,k,(by simp only [aR,lA,lT,lR,lC,lN]),k⟩⟩ (bK k2))) (hX ⟨_,k,k,.inl ⟨xE ((([]:(List Int))++((v4.drop (0:Int).toNat).take (x1.2.2.toNat - (0:Int).toNat)))++((v7.drop (wr (x1.2.2+1)).toNat).take ((v7.length:Int).toNat - (wr (x1.2.2+1)).toNat))) k,bA.plainO _⟩⟩ k<|aO) k4))<|rg<|am k k<|ae (bN k k) k<|aT k2<|sp h ⟨_,k,(kV [5] (bK k2) (cR (bA.plainO _) k<|aO) k4)⟩
  ·rintro e t ⟨rfl,hent⟩;refine aS<|tn<|aN hent<|sQ<|aX iZ<|am k k<|am k k<|am k k<|oB h λv12 hv12 h=>ae (xl hv12 k) k<|lr k7<|am k k<|oB h λv13 hv13 h=>ae (xl hv13 k) k<|lr k7<|ae (vH k k) k<|am k k<|oB h λv14 hv14 h=>ae (aP (ih y11 v14 hv14) k (aL (wG bA k k) aJ)) k<|ae (vH k k) k<|ae (bN k k) k<|aa k k<|an<|oT (by kernel_rfl)<|tn<|rg<|am k k<|ae (aGv k) k<|aa k k<|an<|aW<|tn<|rg ?_;exact am k k<|ae (bN k k) k<|aT k2<|sp h ⟨_,k,(bO (bK k2) aO k4)⟩
 ·rintro e t ⟨rfl,hent⟩;exact aS<|tn<|aN hent<|sR<|am k k<|aT k2<|aE<|rtI h k2
theorem aBe: ∀ (n:Nat) (a0:(List (List Int))) (r:Int),pX n a0=some r→HasC Tryz.prog 109 [.list 1 (a0.map (dE 1 eI))] (.int r)
 |0,a0,r,h=>by cases h
 |n+1,a0,r,h=>aEb (pX n) a0 (aBe n) r h
def iC (a0:Qv) (x1:((List (List Int))×Int)) (x2:((List Int)×Int)):Option (((List Int)×Int) ⊕ (List Int)):=
 bif decide (x2.2<(a0.src.length:Int)) then
 ((dY a0.src x2.2).bind λv6=>
 bif decide (v6=x1.2) then
 ((dY a0.tgt x2.2).bind λv8=>
 (dY a0.tgt x2.2).bind λv9=>
 (dY x2.1 v9).bind λv10=>
 (dY x2.1 v8).bind λv11=>
 (dY a0.tgt x2.2).bind λv12=>
 bif decide (v12=x1.2) then
 ((dY a0.src x2.2).bind λv14=>
 (dY a0.src x2.2).bind λv15=>
 (dY (x2.1.set v8.toNat (wr (v10 - 1))) v15).bind λv16=>
 (dY (x2.1.set v8.toNat (wr (v10 - 1))) v14).bind λv17=>
 some (.inl (((x2.1.set v8.toNat (wr (v10 - 1))).set v14.toNat (wr (v16 - 1))),wr (x2.2+1))))
 else
 (some (.inl ((x2.1.set v8.toNat (wr (v10 - 1))),wr (x2.2+1)))))
 else
 ((dY a0.tgt x2.2).bind λv18=>
 bif decide (v18=x1.2) then
 ((dY a0.src x2.2).bind λv20=>
 (dY a0.src x2.2).bind λv21=>
 (dY x2.1 v21).bind λv22=>
 (dY x2.1 v20).bind λv23=>
 some (.inl ((x2.1.set v20.toNat (wr (v22 - 1))),wr (x2.2+1))))
 else
 (some (.inl (x2.1,wr (x2.2+1))))))
 else
 (some (.inr x2.1))
def kH (a0:Qv) (x1:((List (List Int))×Int)):Option (((List (List Int))×Int) ⊕ (List (List Int))):=
 bif decide (x1.2<a0.n) then
 ((eO a0).bind λv2=>
 bif v2 then
 (bif (decide (0≤a0.n)&&decide (a0.n≤1048576)) then
 ((dY (List.replicate a0.n.toNat (0:Int)) x1.2).bind λv4=>
 (Lp (iC a0 x1) (((List.replicate a0.n.toNat (0:Int)).set x1.2.toNat 2),0)).bind λy24=>
 bif decide (x1.1.length+1≤4294967296) then
 (some (.inl ((x1.1++[y24]),wr (x1.2+1))))
 else none)
 else none)
 else
 (some (.inr x1.1)))
 else
 (some (.inr x1.1))
def iD (a0:Qv):Option (List (List Int)):=
 (Lp (kH a0) (([]:(List (List Int))),0)).bind λy27=>
 some (y27)
theorem qZ (a0:Qv) (r:(List (List Int))) (h:iD a0=some r):HasC Tryz.prog 90 [.agg (eQ a0)] (.list 1 (r.map (dE 1 eI))):=by
 refine hM [.tmp 2] Tryz.func90 Tryz.ntmps90 k<|sR<|ae (wb k) k<|aT k2<|sR<|ae (wl k) k<|aT k2<|aN (t:=mN [(1,.ptr 0 0 0),(3,.own 1 0 (([]:(List (List Int))).length))] [(0,⟨3,[eQ a0]⟩),(1,⟨1,List.map (ow (dE 1 eI)) ([]:(List (List Int)))⟩)] 2) (bO (qQ 1 k2 (kE ⟨_,k,⟨k,k,(by simp only [aR,lA,lT,lR,lC,lN]),k⟩⟩ aO)) (bX k<|cR (bA.plainO _) k<|aO) k4)<|sQ<|sR<|aT k2<|aG<|oB h λy27 hy27 h=>bY (body:=(kH a0)) hy27 (λ(x1:((List (List Int))×Int))=>mN [(1,.ptr 0 0 0),(3,.own 1 0 x1.1.length),(4,.int x1.2)] [(0,⟨3,[eQ a0]⟩),(1,⟨1,x1.1.map (ow (dE 1 eI))⟩)] 2) (λr e t=>e= .exit 0∧Ent t (mN [(3,.own 0 0 r.length)] [(0,⟨1,r.map (ow (dE 1 eI))⟩)] 1)) (bO (bK k2) (bX k<|cR (bA.plainO _) k<|aO) k4) ?_ ?_
 ·intro x1 o h;refine sQ<|sR<|am k k<|fp k8<|lp k8<|cm k4<|am k k<|kQ h (λq1 h=>?_) λq1 h=>aH 12 k q1<|aK k4<|pk k3<|an<|tn<|fB k k<|bB<|aB<|aB<|sp h ⟨_,k,k,(kV [1] (bK k2) (cR (bA.plainO _) k<|aO) k4)⟩;refine aH 12 k q1<|lp k8<|oB h λv2 hv2 h=>ae (aP (kR a0 v2 hv2) k (aL (fP k) aJ)) k<|pk k3<|an<|tn<|dC k h (λ_ h=>?_) λ_ h=>bB<|aB<|aB<|sp h ⟨_,k,k,(kV [1] (bK k2) (cR (bA.plainO _) k<|aO) k4)⟩;refine aI<|tn<|sQ<|aG<|sR<|fp k8<|lp k8<|cG h λq26 h=>ae (aBr aV q26 k k k k k k k k) k<|aT k2<|aN (t:=mN [(1,.ptr 0 0 0),(3,.own 1 0 x1.1.length),(4,.int x1.2),(5,.own 2 0 ((List.replicate a0.n.toNat (0:Int)).length))] [(0,⟨3,[eQ a0]⟩),(1,⟨1,x1.1.map (ow (dE 1 eI))⟩),(2,⟨1,List.map (ow eI) (List.replicate a0.n.toNat (0:Int))⟩)] 3) (bO (qQ 3 k2 (kE ⟨_,k,⟨k,k,(by simp only [aR,lA,lT,lR,lC,lN]),k⟩⟩ aO)) (bX k<|cR (bA.plainO _) k<|hX ⟨_,k,k,.inl ⟨aDO (e:=eI) (z:=0) _,cA.plainO _⟩⟩ k<|aO) k4)<|sR<|am k k<|am k k<|oB h λv4 hv4 h=>ae (xo hv4 k) k<|ae (mW aV pF (u:=2) (gN hv4) k k k k k k) k<|an<|tn<|sQ<|sR<|aT k2<|aG<|oB h λy24 hy24 h=>bY (body:=(iC a0 x1)) hy24 (λ(x2:((List Int)×Int))=>mN [(1,.ptr 0 0 0),(3,.own 1 0 x1.1.length),(4,.int x1.2),(5,.own 2 0 x2.1.length),(6,.int x2.2)] [(0,⟨3,[eQ a0]⟩),(1,⟨1,x1.1.map (ow (dE 1 eI))⟩),(2,⟨1,x2.1.map (ow eI)⟩)] 3) (λr e t=>e= .exit 2∧Ent t (mN [(1,.ptr 0 0 0),(3,.own 1 0 x1.1.length),(4,.int x1.2),(5,.own 2 0 r.length)] [(0,⟨3,[eQ a0]⟩),(1,⟨1,x1.1.map (ow (dE 1 eI))⟩),(2,⟨1,r.map (ow eI)⟩)] 3)) (bO (qQ 3 k2 (kE ⟨_,k,⟨k,k,(by simp only [aR,lA,lT,lR,lC,lN]),k⟩⟩ (bK k2))) (bX k<|cR (bA.plainO _) k<|cX k<|aO) k4) ?_ ?_
  ·intro x2 o h;refine sQ<|sR<|am k k<|fp k8<|lp k8<|ln k4<|cm k4<|an<|tn<|dC k h (λ_ h=>?_) λ_ h=>bB<|aB<|aB<|sp h ⟨_,k,k,(bO (bK k2) (bX k<|cR (bA.plainO _) k<|cX k<|aO) k4)⟩;refine aI<|tn<|sQ<|aG<|sQ<|sR<|fp k8<|lp k8<|am k k<|oB h λv6 hv6 h=>ae (xl hv6 k) k<|lr k7<|am k k<|cm k4<|an<|tn<|dC k h (λ_ h=>?_) λ_ h=>?_
   ·refine aX iZ<|am k k<|fp k8<|lp k8<|am k k<|oB h λv8 hv8 h=>ae (xl hv8 k) k<|lr k7<|am k k<|fp k8<|lp k8<|am k k<|oB h λv9 hv9 h=>ae (xl hv9 k) k<|lr k7<|oB h λv10 hv10 h=>ae (xo hv10 k) k<|ae (wp hv10 k) k<|ae (fA k k) k<|oB h λv11 hv11 h=>ae (xo hv11 k) k<|ae (mW aV pF (u:=wr (v10 - 1)) (gN hv11) k k k k k k) k<|an<|oT (by kernel_rfl)<|tn<|aN (t:=mN [(1,.ptr 0 0 0),(3,.own 1 0 x1.1.length),(4,.int x1.2),(5,.own 2 0 ((x2.1.set v8.toNat (wr (v10 - 1))).length)),(6,.int x2.2)] [(0,⟨3,[eQ a0]⟩),(1,⟨1,x1.1.map (ow (dE 1 eI))⟩),(2,⟨1,List.map (ow eI) (x2.1.set v8.toNat (wr (v10 - 1)))⟩)] 3) (bO (qQ 3 k2 (kE ⟨_,k,⟨k,k,(by simp only [aR,lA,lT,lR,lC,lN]),k⟩⟩ (bK k2))) (bX k<|cR (bA.plainO _) k<|cX k<|aO) k4)<|sR<|fp k8<|lp k8<|am k k<|oB h λv12 hv12 h=>ae (xl hv12 k) k<|lr k7 ?_;exact am k k<|cm k4<|an<|tn<|dC k h (λ_ h=>aX iZ<|am k k<|fp k8<|lp k8<|am k k<|oB h λv14 hv14 h=>ae (xl hv14 k) k<|lr k7<|am k k<|fp k8<|lp k8<|am k k<|oB h λv15 hv15 h=>ae (xl hv15 k) k<|lr k7<|oB h λv16 hv16 h=>ae (xo hv16 k) k<|ae (wp hv16 k) k<|ae (fA k k) k<|oB h λv17 hv17 h=>ae (xo hv17 k) k<|ae (mW aV pF (u:=wr (v16 - 1)) (gN hv17) k k k k k k) k<|an<|oT (by kernel_rfl)<|aW<|tn<|aN (t:=mN [(1,.ptr 0 0 0),(3,.own 1 0 x1.1.length),(4,.int x1.2),(5,.own 2 0 (((x2.1.set v8.toNat (wr (v10 - 1))).set v14.toNat (wr (v16 - 1))).length)),(6,.int x2.2)] [(0,⟨3,[eQ a0]⟩),(1,⟨1,x1.1.map (ow (dE 1 eI))⟩),(2,⟨1,List.map (ow eI) ((x2.1.set v8.toNat (wr (v10 - 1))).set v14.toNat (wr (v16 - 1)))⟩)] 3) (bO (qQ 3 k2 (kE ⟨_,k,⟨k,k,(by simp only [aR,lA,lT,lR,lC,lN]),k⟩⟩ (bK k2))) (bX k<|cR (bA.plainO _) k<|cX k<|aO) k4)<|rg<|am k k<|ae (bN k k) k<|aT k2<|sp h ⟨_,k,(bO (bK k2) (bX k<|cR (bA.plainO _) k<|cX k<|aO) k4)⟩) λ_ h=>aI<|aW<|tn<|rg<|am k k<|ae (bN k k) k<|aT k2<|sp h ⟨_,k,(bO (bK k2) (bX k<|cR (bA.plainO _) k<|cX k<|aO) k4)⟩
   ·exact aI<|tn<|sR<|fp k8<|lp k8<|am k k<|oB h λv18 hv18 h=>ae (xl hv18 k) k<|lr k7<|am k k<|cm k4<|an<|tn<|dC k h (λ_ h=>aX iZ<|am k k<|fp k8<|lp k8<|am k k<|oB h λv20 hv20 h=>ae (xl hv20 k) k<|lr k7<|am k k<|fp k8<|lp k8<|am k k<|oB h λv21 hv21 h=>ae (xl hv21 k) k<|lr k7<|oB h λv22 hv22 h=>ae (xo hv22 k) k<|ae (wp hv22 k) k<|ae (fA k k) k<|oB h λv23 hv23 h=>ae (xo hv23 k) k<|ae (mW aV pF (u:=wr (v22 - 1)) (gN hv23) k k k k k k) k<|an<|oT (by kernel_rfl)<|aW<|tn<|aN (t:=mN [(1,.ptr 0 0 0),(3,.own 1 0 x1.1.length),(4,.int x1.2),(5,.own 2 0 ((x2.1.set v20.toNat (wr (v22 - 1))).length)),(6,.int x2.2)] [(0,⟨3,[eQ a0]⟩),(1,⟨1,x1.1.map (ow (dE 1 eI))⟩),(2,⟨1,List.map (ow eI) (x2.1.set v20.toNat (wr (v22 - 1)))⟩)] 3) (bO (qQ 3 k2 (kE ⟨_,k,⟨k,k,(by simp only [aR,lA,lT,lR,lC,lN]),k⟩⟩ (bK k2))) (bX k<|cR (bA.plainO _) k<|cX k<|aO) k4)<|rg<|am k k<|ae (bN k k) k<|aT k2<|sp h ⟨_,k,(bO (bK k2) (bX k<|cR (bA.plainO _) k<|cX k<|aO) k4)⟩) λ_ h=>aI<|aW<|tn<|rg<|am k k<|ae (bN k k) k<|aT k2<|sp h ⟨_,k,(bO (bK k2) (bX k<|cR (bA.plainO _) k<|cX k<|aO) k4)⟩
  ·rintro e t ⟨rfl,hent⟩;exact aS<|tn<|aN hent<|rg<|am k k<|am k k<|ae (wl k) k<|cG h λq25 h=>ae (uM aV (l:=x1.1) (c:=[.own 2 0 y24.length]) q25 k k k k k k k k k k k k k k) k<|aa k k<|an<|aW<|tn<|aN (t:=mN [(1,.ptr 0 0 0),(3,.own 4 0 ((x1.1++[y24]).length)),(4,.int x1.2)] [(0,⟨3,[eQ a0]⟩),(4,⟨1,List.map (ow (dE 1 eI)) (x1.1++[y24])⟩)] 5) (Ent.trans (qW (b:=4) (b':=2) (j:=0) (es':=y24.map eI) k k k k (aR _ _) (cA.frzs _)) (bO (qQ 1 k2 (kE ⟨_,k,⟨k,k,(by simp only [aR,lA,lT,lR,lC,lN]),k⟩⟩ (bK k2))) (bX k<|hX ⟨_,k,k,.inl ⟨xE y24 k,bA.plainO _⟩⟩ k<|aO) k4))<|rg<|am k k<|ae (bN k k) k<|aT k2<|sp h ⟨_,k,(kV [0,4] (bK k2) (bX k<|cR (bA.plainO _) k<|aO) k4)⟩
 ·rintro e t ⟨rfl,hent⟩;exact aS<|tn<|aN hent<|sR<|am k k<|aT k2<|aE<|sp h (bD k k k (mX (eY bA k k)))
def mB (a0:(List (List Int))) (a1:Int) (x1:(Int×(List (List Int)))) (x2:((List Int)×Int)):Option (((List Int)×Int) ⊕ (List Int)):=
 bif decide (x2.2<(a0.length:Int)) then
 (bif !decide (x2.2<0) then
 (bif decide (yZ (yN a1 x2.2) 1=1) then
 ((dY a0 x1.1).bind λv5=>
 (dY v5 x2.2).bind λv6=>
 bif decide (x2.1.length+[v6].length ≤4294967296) then
 (some (.inl ((x2.1++[v6]),wr (x2.2+1))))
 else none)
 else
 (some (.inl (x2.1,wr (x2.2+1)))))
 else none)
 else
 (some (.inr x2.1))
def pG (a0:(List (List Int))) (a1:Int) (x1:(Int×(List (List Int)))):Option ((Int×(List (List Int))) ⊕ (List (List Int))):=
 bif decide (x1.1<(a0.length:Int)) then
 (bif !decide (x1.1<0) then
 (bif decide (yZ (yN a1 x1.1) 1=0) then
 (some (.inl (wr (x1.1+1),x1.2)))
 else
 ((Lp (mB a0 a1 x1) (([]:(List Int)),0)).bind λy9=>
 bif decide (x1.2.length+1≤4294967296) then
 (some (.inl (wr (x1.1+1),(x1.2++[y9]))))
 else none))
 else none)
 else
 (some (.inr x1.2))
def sZ (a0:(List (List Int))) (a1:Int):Option (List (List Int)):=
 (Lp (pG a0 a1) (0,([]:(List (List Int))))).bind λy12=>
 some (y12)
theorem aEc (a0:(List (List Int))) (a1:Int) (r:(List (List Int))) (h:sZ a0 a1=some r):HasC Tryz.prog 110 [.list 1 (a0.map (dE 1 eI)),.int a1] (.list 1 (r.map (dE 1 eI))):=by
 refine hM [.tmp 4] Tryz.func110 Tryz.ntmps110 k<|sR<|aT k2<|sR<|ae (wl k) k<|aT k2<|aN (t:=mN [(0,.list 1 (a0.map (dE 1 eI))),(1,.int a1),(5,.own 0 0 (([]:(List (List Int))).length))] [(0,⟨1,List.map (ow (dE 1 eI)) ([]:(List (List Int)))⟩)] 1) (bO (qQ 2 k2 (kE ⟨_,k,⟨k,k,(by simp only [aR,lA,lT,lR,lC,lN]),k⟩⟩ aO)) (cR (bA.plainO _) k<|aO) k4)<|sQ<|sR<|aT k2<|aG<|oB h λy12 hy12 h=>bY (body:=(pG a0 a1)) hy12 (λ(x1:(Int×(List (List Int))))=>mN [(0,.list 1 (a0.map (dE 1 eI))),(1,.int a1),(5,.own 0 0 x1.2.length),(6,.int x1.1)] [(0,⟨1,x1.2.map (ow (dE 1 eI))⟩)] 1) (λr e t=>e= .exit 0∧Ent t (mN [(5,.own 0 0 r.length)] [(0,⟨1,r.map (ow (dE 1 eI))⟩)] 1)) (bO (bK k2) (cR (bA.plainO _) k<|aO) k4) ?_ ?_
 ·intro x1 o h;refine sQ<|sR<|am k k<|am k k<|ln k4<|cm k4<|an<|tn<|dC k h (λ_ h=>?_) λ_ h=>bB<|aB<|aB<|sp h ⟨_,k,k,(bO (bK k2) (cR (bA.plainO _) k<|aO) k4)⟩;refine aI<|tn<|sQ<|aG<|sQ<|sR<|am k k<|am k k<|cG h λq11 h=>ae (aLj k k q11) k<|ae (aFg k k) k<|cm k4<|an<|tn<|dC k h (λ_ h=>bB<|aB<|aS<|tn<|rg<|am k k<|ae (bN k k) k<|aT k2<|sp h ⟨_,k,(bO (bK k2) (cR (bA.plainO _) k<|aO) k4)⟩) λ_ h=>?_;refine aI<|tn<|sR<|ae (wl k) k<|aT k2<|aN (t:=mN [(0,.list 1 (a0.map (dE 1 eI))),(1,.int a1),(5,.own 0 0 x1.2.length),(6,.int x1.1),(7,.own 1 0 (([]:(List Int)).length))] [(0,⟨1,x1.2.map (ow (dE 1 eI))⟩),(1,⟨1,List.map (ow eI) ([]:(List Int))⟩)] 2) (bO (qQ 4 k2 (kE ⟨_,k,⟨k,k,(by simp only [aR,lA,lT,lR,lC,lN]),k⟩⟩ aO)) (cR (bA.plainO _) k<|cX k<|aO) k4)<|sQ<|sR<|aT k2<|aG<|oB h λy9 hy9 h=>bY (body:=(mB a0 a1 x1)) hy9 (λ(x2:((List Int)×Int))=>mN [(0,.list 1 (a0.map (dE 1 eI))),(1,.int a1),(5,.own 0 0 x1.2.length),(6,.int x1.1),(7,.own 1 0 x2.1.length),(8,.int x2.2)] [(0,⟨1,x1.2.map (ow (dE 1 eI))⟩),(1,⟨1,x2.1.map (ow eI)⟩)] 2) (λr e t=>e= .exit 2∧Ent t (mN [(0,.list 1 (a0.map (dE 1 eI))),(1,.int a1),(5,.own 0 0 x1.2.length),(6,.int x1.1),(7,.own 1 0 r.length)] [(0,⟨1,x1.2.map (ow (dE 1 eI))⟩),(1,⟨1,r.map (ow eI)⟩)] 2)) (bO (bK k2) (cR (bA.plainO _) k<|cX k<|aO) k4) ?_ ?_
  ·intro x2 o h;exact sQ<|sR<|am k k<|am k k<|ln k4<|cm k4<|an<|tn<|dC k h (λ_ h=>aI<|tn<|sQ<|aG<|sR<|am k k<|am k k<|cG h λq8 h=>ae (aLj k k q8) k<|ae (aFg k k) k<|cm k4<|an<|tn<|dC k h (λ_ h=>rg<|am k k<|am k k<|am k k<|oB h λv5 hv5 h=>ae (xl hv5 k) k<|lr k7<|am k k<|oB h λv6 hv6 h=>ae (xl hv6 k) k<|lr k7<|ae (wl k) k<|cG h λq7 h=>ae (mR aV (l:=x2.1) (m:=[v6]) pF q7 k k k k k k k k k k k k) k<|aa k k<|an<|aW<|tn<|rg<|am k k<|ae (bN k k) k<|aT k2<|sp h ⟨_,k,(kV [0,3] (bK k2) (cR (bA.plainO _) k<|cX k<|aO) k4)⟩) λ_ h=>aI<|aW<|tn<|rg<|am k k<|ae (bN k k) k<|aT k2<|sp h ⟨_,k,(bO (bK k2) (cR (bA.plainO _) k<|cX k<|aO) k4)⟩) λ_ h=>bB<|aB<|aB<|sp h ⟨_,k,k,(bO (bK k2) (cR (bA.plainO _) k<|cX k<|aO) k4)⟩
  ·rintro e t ⟨rfl,hent⟩;exact aS<|tn<|aN hent<|rg<|am k k<|am k k<|ae (wl k) k<|cG h λq10 h=>ae (uM aV (l:=x1.2) (c:=[.own 1 0 y9.length]) q10 k k k k k k k k k k k k k k) k<|aa k k<|an<|aW<|tn<|aN (t:=mN [(0,.list 1 (a0.map (dE 1 eI))),(1,.int a1),(5,.own 3 0 ((x1.2++[y9]).length)),(6,.int x1.1)] [(3,⟨1,List.map (ow (dE 1 eI)) (x1.2++[y9])⟩)] 4) (Ent.trans (qW (b:=3) (b':=1) (j:=0) (es':=y9.map eI) k k k k (aR _ _) (cA.frzs _)) (bO (qQ 2 k2 (kE ⟨_,k,⟨k,k,(by simp only [aR,lA,lT,lR,lC,lN]),k⟩⟩ (bK k2))) (hX ⟨_,k,k,.inl ⟨xE y9 k,bA.plainO _⟩⟩ k<|aO) k4))<|rg<|am k k<|ae (bN k k) k<|aT k2<|sp h ⟨_,k,(kV [3] (bK k2) (cR (bA.plainO _) k<|aO) k4)⟩
 ·rintro e t ⟨rfl,hent⟩;exact aS<|tn<|aN hent<|sR<|am k k<|aT k2<|aE<|sp h (bD k k k (mX (eY bA k k)))
def kX (a0:Qv) (v3:(List (List Int))) (x1:(Int×Int)):Option ((Int×Int) ⊕ (Int ⊕ Int)):=
 bif !decide (a0.n<0) then
 (bif decide (x1.2<aNv 1 a0.n) then
 ((sZ v3 x1.2).bind λv5=>
 (pX 8 v5).bind λv6=>
 bif decide (v6<0) then
 (some (.inr (.inr (3))))
 else
 (bif decide (v6=0) then
 (some (.inl (2,wr (x1.2+1))))
 else
 (some (.inl (x1.1,wr (x1.2+1))))))
 else
 (some (.inr (.inl x1.1))))
 else none
def bV (a0:Qv):Option Int:=
 (eO a0).bind λv1=>
 bif !v1 then
 (some (0))
 else
 ((iD a0).bind λv3=>
 (Lp (kX a0 v3) (1,1)).bind λy10=>
 Sum.elim (λy11=>
 some (y11)
 )
 (λy12=>
 some y12
 )
 y10)
theorem nN (a0:Qv) (r:Int) (h:bV a0=some r):HasC Tryz.prog 30 [.agg (eQ a0)] (.int r):=by
 refine hM [.tmp 2] Tryz.func30 Tryz.ntmps30 k<|sR<|ae (wb k) k<|aT k2<|sQ<|sR<|lp k8<|oB h λv1 hv1 h=>ae (aP (kR a0 v1 hv1) k (aL (fP k) aJ)) k<|ae (dV k) k<|an<|tn<|dC k h (λ_ h=>sR<|aT k2<|aE<|aD<|rtI h k2) λ_ h=>?_;refine aI<|tn<|sR<|lp k8<|oB h λv3 hv3 h=>ae (cL bA (qZ a0 v3 hv3) k3 (aL (fP k) aJ)) k<|aT k2<|sR<|aT k2<|sQ<|sR<|aT k2<|aG<|oB h λy10 hy10 h=>bY (body:=(kX a0 v3)) hy10 (λ(x1:(Int×Int))=>mN [(1,.ptr 0 0 0),(3,.own 1 0 v3.length),(4,.int x1.1),(5,.int x1.2)] [(0,⟨3,[eQ a0]⟩),(1,⟨1,v3.map (ow (dE 1 eI))⟩)] 2) (λr e t=>Sum.elim (λa=>(λr e t=>e= .exit 0∧Ent t (mN [(4,.int r)] [] 0)) a e t) (λb=>(λr e t=>e= .ret∧nF TT [.tmp 2] (.int r) .ret t) b e t) r) (bO (bK k2) (bX k<|cR (bA.plainO _) k<|aO) k4) ?_ ?_
 ·intro x1 o h;exact sQ<|sR<|am k k<|fp k8<|lp k8<|cG h λq9 h=>ae (aQR k k q9) k<|cm k4<|an<|tn<|dC k h (λ_ h=>aI<|tn<|sQ<|aG<|sR<|am k k<|am k k<|oB h λv5 hv5 h=>ae (cL bA (aEc v3 x1.2 v5 hv5) k3 (aL (wG bA k k) (eC k aJ))) k<|oB h λv6 hv6 h=>ae (aP (aBe 8 v5 v6 hv6) k (aL (wG bA k k) aJ)) k<|aT k2<|sQ<|sR<|am k k<|cm k4<|an<|tn<|dC k h (λ_ h=>sR<|aT k2<|aE<|aD<|aZ<|aD<|aD<|sp h ⟨_,k,k,bD k k k (aBp k)⟩) λ_ h=>aI<|tn<|sR<|am k k<|cm k4<|an<|tn<|dC k h (λ_ h=>rg<|aa k k<|an<|aW<|tn<|rg<|am k k<|ae (bN k k) k<|aT k2<|sp h ⟨_,k,(bO (bK k2) (bX k<|cR (bA.plainO _) k<|aO) k4)⟩) λ_ h=>aI<|aW<|tn<|rg<|am k k<|ae (bN k k) k<|aT k2<|sp h ⟨_,k,(bO (bK k2) (bX k<|cR (bA.plainO _) k<|aO) k4)⟩) λ_ h=>bB<|aB<|aB<|sp h ⟨_,k,k,(bO (bK k2) aO k4)⟩
 ·intro e t hX;rcases y10 with y11|y12
  ·obtain ⟨rfl,hent⟩:=hX;exact aS<|tn<|aN hent<|sR<|am k k<|aT k2<|aE<|rtI h k2
  ·obtain ⟨rfl,hent⟩:=hX;exact aZ<|aD<|sp h hent
end
noncomputable section
set_option maxRecDepth 10000
set_option maxHeartbeats 4000000
end
noncomputable section
def bI (l:List Int):Prop:=l.length≤1048576
def bQ (q:Qv):Prop:=bI q.src∧bI q.tgt∧True
theorem aOF {α:Type} [DecidableEq α] {body:Int→Option (Int ⊕ (Unit ⊕ Bool))} {a b:List α} (hl:a.length≤4611686018427387904) (hab:a.length=b.length)
  (hs: ∀ (k:Nat) (h1:k<a.length) (h2:k<b.length),body k=some (bif decide (a[k]=b[k]) then .inl (wr (k+1)) else .inr (.inr false))) (he:body a.length=some (.inr (.inl ()))):
  Option.bind (Lp body 0) (λy=>Sum.elim (λ_=>some true) (λy=>some y) y)=some (decide (a=b)):=by
 have key: ∀ (P:Nat→Bool),(∀ (k:Nat) (h1:k<a.length) (h2:k<b.length),P k=decide (a[k]=b[k]))→Lp body 0=some (bif (List.range a.length).all P then .inl () else .inr false)→Option.bind (Lp body 0) (λy=>Sum.elim (λ_=>some true) (λy=>some y) y)=some (decide (a=b)):=by
  intro P hP e;rw [e,aC]
  have:(List.range a.length).all P=decide (a=b):=by
   rw [Bool.eq_iff_iff,yW,jU];constructor
   ·intro h;refine List.ext_getElem hab λk h1 h2=>?_;have:=h k h1;rw [hP k h1 h2] at this;exact of_decide_eq_true this
   ·rintro rfl k hk;rw [hP k hk hk];simp
  rw [this];cases decide (a=b) <;> rfl
 refine key (λk=>if h:k<a.length then if h2:k<b.length then decide (a[k]=b[k]) else false else false) (λk h1 h2=>by rw [dif_pos h1,dif_pos h2]) (aAf _ _ hl (λk hk=>?_) (λ_=>he));rw [dif_pos hk,dif_pos (hab▸hk)];exact hs k hk (hab▸hk)
theorem aOG {α β:Type} {a:List α} {b:List β} :decide ((a.length:Int)=(b.length:Int))=decide (a.length=b.length):=by
 rw [Bool.eq_iff_iff,jU,jU];omega
theorem aIH {body:Int→Option (Int ⊕ (Unit ⊕ Bool))} {a b:List Int} (hl:a.length≤4611686018427387904)
  (hb:body=λx=>bif decide (x<(a.length:Int)) then (Option.bind (dY a x) λv3=>Option.bind (dY b x) λv4=>bif !decide (v3=v4) then (some (.inr (.inr (false)))) else (some (.inl (wr (x+1))))) else (some (.inr (.inl ())))):
  (bif !decide ((a.length:Int)=(b.length:Int)) then some false else Option.bind (Lp body 0) (λy=>Sum.elim (λ_=>some true) (λy=>some y) y))=some (decide (a=b)):=by
 rw [aOG];by_cases h:a.length=b.length
 ·rw [bF h,eH,aU];refine aOF hl h (λk h1 h2=>?_) ?_
  ·rw [hb];simp only;rw [qB h1,aM,jC h1,aC,jC h2,aC];cases decide (a[k]=b[k]) <;> rfl
  ·rw [hb];simp only;rw [qS (bT _),aU]
 ·rw [cK h,Bool.not_false,aM,cK (by rintro rfl;exact h rfl)]
end
noncomputable section
theorem aEn {c d:Bool} {o:Option Bool} (h:c=true→o=some d):(bif c then o else some false)=some (c&&d):=by cases c with|false=>rfl|true=>exact h rfl
theorem aAj {c d:Bool} :(bif c then some d else some false)=some (c&&d):=by cases c <;> rfl
theorem aLl {x a b:Int} :(bif decide (a≤x) then some (decide (x≤b)) else some false)=some (yK x a b):=by
 rw [aAj];unfold yK;by_cases h1:a≤x <;> by_cases h2:x≤b <;> simp [h1,h2]
theorem aCg (x a b:Int):pU x a b=some (yK x a b):=aLl
theorem rA (x a b:Int):fR x a b=some (yK x a b):=aLl
theorem aCh {a b:List Int} (h:bI a):pV a b=some (decide (a=b)):=by
 unfold bI at h;exact aIH (body:=uN a b) (by omega) rfl
theorem aBO {a b:List Int} (h:bI a):fU a b=some (decide (a=b)):=by
 unfold bI at h;exact aIH (body:=lY a b) (by omega) rfl
theorem aJc {v:List Int} {f:Int→Option Bool} (P:Int→Bool) (hf: ∀ x,f x=some (P x)) (h:bI v): ∃ i:Int,iI v f=some i∧decide (0≤i)=v.any P:=by
 unfold bI at h;unfold iI;rw [uL (s0:=0) (s:=0) (n:=v.length) (λk=>bif P (v[k]?.getD 0) then some (k:Int) else none) rfl (by omega) (Nat.zero_le _) (λk _ hk=>?_) (λ_=>?_)]
 ·rw [aC];cases e:(List.range' 0 (v.length - 0)).findSome? (λk:Nat=>bif P (v[k]?.getD 0) then some (k:Int) else none) with
  |none=>
   refine ⟨-1,rfl,?_⟩;rw [List.findSome?_eq_none_iff] at e
   have:v.any P=false:=by
    rw [List.any_eq_false];intro x hx;obtain ⟨k,hk,rfl⟩:=List.mem_iff_getElem.1 hx;have:=e k (by simp;omega);simp only [jA hk,oV] at this;cases hp:P v[k] with
    |false=>simp
    |true=>rw [hp] at this;cases this
   rw [this];rfl
  |some i=>
   refine ⟨i,rfl,?_⟩;obtain ⟨k,hk,he⟩:=List.exists_of_findSome?_eq_some e;simp at hk;have hkl:k<v.length:=by omega
   rw [jA hkl] at he;simp only [oV] at he;cases hp:P v[k] with
   |false=>rw [hp] at he;cases he
   |true=>
    rw [hp] at he;cases he;rw [bF (by omega),eq_comm,List.any_eq_true];exact ⟨_,List.getElem_mem hkl,hp⟩
 ·unfold gG;rw [qB hk,aM,atG 0 hk,aC,hf,aC];cases P _ <;> rfl
 ·unfold gG;rw [qS (bT _),aU]
theorem aAk {v:List Int} (h:bI v) (a b:Int):lP v a b=some (v.all λx=>yK x a b):=by
 unfold lP jP;obtain ⟨i,h1,h2⟩:=aJc (f:=λb0=>mA b0 a b) (λx=> !yK x a b) (λx=>by simp only [mA];rw [aCg,aC]) h;rw [h1,aC,aC,h2,List.not_any_eq_all_not];simp
def aRs (p:Int) (m:Mt):Bool:=yK m.rows 0 8&&(yK m.cols 0 8&&(decide ((m.cells.length:Int)=wr (m.rows*m.cols))&&(isF p&&decide (m.cells.length≤64)&&m.cells.all λx=>yK x 0 (wr (p - 1)))))
theorem aRL {p:Int} {m:Mt} (h:aRs p m=true):isF p=true∧ ∃ (r c:Nat) (F:Nat→Nat→Int),r≤8∧c≤8∧m=⟨r,c,aNW r c F⟩∧ ∀ i j,i<r→j<c→0≤F i j∧F i j<p:=by
 unfold aRs at h;simp only [dJ,jU,List.all_eq_true] at h;obtain ⟨h1,h2,h3,⟨h4,h5⟩,h6⟩:=h;have h1:=sN h1;have h2:=sN h2;refine ⟨h4,m.rows.toNat,m.cols.toNat,λi j=>m.cells[i*m.cols.toNat+j]?.getD 0,by omega,by omega,?_,?_⟩
 ·obtain ⟨a,b,l⟩:=m;simp only at*;obtain ⟨r,rfl⟩:=Int.eq_ofNat_of_zero_le h1.1;obtain ⟨c,rfl⟩:=Int.eq_ofNat_of_zero_le h2.1;have hb:r*c≤64:=Nat.mul_le_mul (by omega:r≤8) (by omega:c≤8);rw [aSW (by omega)] at h3;simp only [dX];rw [←aPW (by omega)]
 ·intro i j hi hj;show 0≤m.cells[i*m.cols.toNat+j]?.getD 0∧m.cells[i*m.cols.toNat+j]?.getD 0<p;have hx:=aRh hi hj
  have e:((m.rows.toNat*m.cols.toNat:Nat):Int)=m.rows*m.cols:=by
   rw [Int.natCast_mul,Int.toNat_of_nonneg h1.1,Int.toNat_of_nonneg h2.1]
  have hb:m.rows.toNat*m.cols.toNat≤64:=Nat.mul_le_mul (by omega:m.rows.toNat≤8) (by omega:m.cols.toNat≤8);rw [dP (by omega)] at h3;have hl:i*m.cols.toNat+j<m.cells.length:=by omega
  have:=sN (h6 _ (List.getElem_mem hl));rw [jA hl,oV];have hp:=aQo h4;rw [dP (by omega)] at this;omega
def vJ (q:Qv):Bool:=yK q.n 1 5&&(decide ((q.src.length:Int)=(q.tgt.length:Int))&&(decide ((q.src.length:Int)≤6)&&((q.src.all λx=>yK x 0 (wr (q.n - 1)))&&(q.tgt.all λx=>yK x 0 (wr (q.n - 1))))))
theorem aBP {q:Qv} (h:bQ q):mT q=some (vJ q):=by
 unfold mT vJ;rw [aCg,aC];refine aEn λ_=>aEn λ_=>aEn λ_=>?_;rw [aAk h.1,aC];refine aEn λ_=>?_;rw [aAk h.2.1,aC]
theorem tY {q:Qv} (h:bQ q):eO q=some (vJ q):=by
 obtain ⟨h1,h2,_⟩:=h;unfold bI at h1 h2;unfold eO;rw [aAf (n:=min q.src.length q.tgt.length) (λk=>yK (q.src[k]?.getD 0) 0 (wr (q.n - 1))&&yK (q.tgt[k]?.getD 0) 0 (wr (q.n - 1))) false (by omega) (λk hk=>?_) (λ_=>?_)]
 ·rw [aC];unfold vJ;by_cases e:q.src.length=q.tgt.length
  ·have e2:min q.src.length q.tgt.length=q.src.length:=by omega
   have hall:(List.range q.src.length).all (λk=>yK (q.src[k]?.getD 0) 0 (wr (q.n - 1))&&yK (q.tgt[k]?.getD 0) 0 (wr (q.n - 1)))=((q.src.all λx=>yK x 0 (wr (q.n - 1)))&&(q.tgt.all λx=>yK x 0 (wr (q.n - 1)))):=by
    rw [←aDM 0 q.src,←aDM 0 q.tgt,←e];rw [Bool.eq_iff_iff,dJ,yW,yW,yW];simp only [dJ];exact ⟨λh=>⟨λk hk=>(h k hk).1,λk hk=>(h k hk).2⟩,λh k hk=>⟨h.1 k hk,h.2 k hk⟩⟩
   rw [e2,hall,bF (by omega:(q.src.length:Int)=(q.tgt.length:Int))];cases (q.src.all λx=>yK x 0 (wr (q.n - 1)))&&(q.tgt.all λx=>yK x 0 (wr (q.n - 1))) with
   |false=>simp
   |true=>
    simp only [aM,Sum.elim_inl];rw [rA,aC,bF (by omega:(q.tgt.length:Int)=(q.src.length:Int)),aAj,aAj];simp
  ·rw [cK (by omega: ¬ (q.src.length:Int)=(q.tgt.length:Int))];simp only [Bool.false_and,Bool.and_false];cases (List.range (min q.src.length q.tgt.length)).all _ with
   |false=>rfl
   |true=>
    simp only [aM,Sum.elim_inl];rw [rA,aC,cK (by omega: ¬ (q.tgt.length:Int)=(q.src.length:Int)),aAj,aAj];simp
 ·unfold lZ;rw [qB (by omega),aM,qB (by omega),aM,atG 0 (by omega),aC,rA,aC,atG 0 (by omega),aC,rA,aC];cases yK (q.src[k]?.getD 0) 0 (wr (q.n - 1)) <;> cases yK (q.tgt[k]?.getD 0) 0 (wr (q.n - 1)) <;> rfl
 ·unfold lZ;by_cases e:q.src.length≤q.tgt.length
  ·rw [qS (by omega),aU]
  ·rw [qB (by omega),aM,qS (by omega),aU]
theorem aJd {q:Qv} (h:vJ q=true): ∃ n:Nat,q.n=n∧1≤n∧n≤5∧q.src.length=q.tgt.length∧q.src.length≤6∧(∀ x∈q.src,0≤x∧x<n)∧ ∀ x∈q.tgt,0≤x∧x<n:=by
 unfold vJ at h;simp only [dJ,jU,List.all_eq_true] at h;obtain ⟨h1,h2,h3,h4,h5⟩:=h;have h1:=sN h1;rw [dP (by omega)] at h4 h5;refine ⟨q.n.toNat,by omega,by omega,by omega,by omega,by omega,λx hx=>?_,λx hx=>?_⟩
 ·have:=sN (h4 x hx);omega
 ·have:=sN (h5 x hx);omega
theorem aOH {d:List Int} (h: ∀ x∈d,0≤x∧x≤4):0≤d.sum∧d.sum≤4*d.length:=by
 induction d with
 |nil=>simp
 |cons x d ih=>
  have h1:=h x (by simp);have h2:=ih λy hy=>h y (by simp [hy]);simp only [List.sum_cons,List.length_cons];omega
theorem aOI {d:List Int} {k:Nat} (hk:k<d.length):(d.take (k+1)).sum=(d.take k).sum +d[k]?.getD 0:=by
 rw [aDx hk,List.sum_append];simp [hk]
theorem aLm {d:List Int} (h: ∀ x∈d,0≤x∧x≤4) (hl:d.length≤1048576):tW d=some d.sum:=by
 unfold tW;rw [kF (r:=d.sum) (λk=>((d.take k).sum,(k:Int))) d.length (by simp) (λk hk=>?_) (λ_=>?_)];rfl
 ·unfold sV;simp only;rw [qB hk,aM,atG 0 hk,aC,dF hk (by omega)];have h1:=aOH (d:=d.take (k+1)) λx hx=>h x (List.mem_of_mem_take hx);rw [←aOI hk,dP (by simp at h1;omega)]
 ·unfold sV;simp only;rw [qS (bT _),aU,List.take_length]
theorem wL {α:Type} {l:List α} {k:Nat} (d:α) (h:k<l.length):l[k]?.getD d∈l:=by rw [jA h];exact List.getElem_mem h
end
noncomputable section
set_option maxRecDepth 10000
set_option maxHeartbeats 1000000 in
theorem aPq (x y:Nat) (hx:x<18446744073709551616) (hy:y<18446744073709551616) (w:World):
  Calls Tryz.prog 270 #[.int .u64 x,.int .u64 y] w λe w'=>e= .returned (.tuple #[.int .u64 ((x*y / 18446744073709551616:Nat):Int),.int .u64 ((x*y % 18446744073709551616:Nat):Int)])∧w'=w:=by
 obtain ⟨bd,bt,bw,hhi⟩:=Lib.mul64_hi x y hx hy;have ba:=Lib.half_mul_le (a:=x / 4294967296) (b:=y / 4294967296) (by omega) (by omega);have bb:=Lib.half_mul_le (a:=x / 4294967296) (b:=y % 4294967296) (by omega) (by omega);have bc:=Lib.half_mul_le (a:=x % 4294967296) (b:=y / 4294967296) (by omega) (by omega);have ba':x / 4294967296*(y / 4294967296)<18446744073709551616:=by omega
 have bb':x / 4294967296*(y % 4294967296)<18446744073709551616:=by omega
 have bc':x % 4294967296*(y / 4294967296)<18446744073709551616:=by omega
 have bh1:x / 4294967296*(y / 4294967296)+(x / 4294967296*(y % 4294967296)+x % 4294967296*(y % 4294967296) / 4294967296) / 4294967296<18446744073709551616:=by omega
 have bh:x / 4294967296*(y / 4294967296)+(x / 4294967296*(y % 4294967296)+x % 4294967296*(y % 4294967296) / 4294967296) / 4294967296+((x / 4294967296*(y % 4294967296)+x % 4294967296*(y % 4294967296) / 4294967296) % 4294967296+x % 4294967296*(y / 4294967296)) / 4294967296<18446744073709551616:=by omega
 go_enter Tryz.func270,Tryz.ntmps270
 go_wp2
 simp only [Mul64.maskN x hx,Mul64.maskN y hy,Mul64.divN,Mul64.mulN,Mul64.addN,Mul64.wrapN _ bd,Mul64.wrapN _ bb',Mul64.wrapN _ bt,Mul64.maskN _ bt,Mul64.wrapN _ bc',Mul64.wrapN _ bw,Mul64.wrapN _ ba',Mul64.wrapN _ bh1,Mul64.wrapN _ bh,Mul64.wrapM (x*y)];rw [hhi]
 go_ret2
 exact ⟨rfl,rfl⟩
set_option maxHeartbeats 1000000 in
theorem aRt (x y:Nat) (hx:x<18446744073709551616) (hy:y<18446744073709551616) (w:World):
  Calls Tryz.prog 259 #[.int .u64 x,.int .u64 y] w λe w'=>e= .returned (.tuple #[.int .u64 ((x*y / 18446744073709551616:Nat):Int),.int .u64 ((x*y % 18446744073709551616:Nat):Int)])∧w'=w:=by
 have c64:=aPq x y hx hy w
 go_enter Tryz.func259,Tryz.ntmps259
 go_wp2_with (go_at_call 270;refine c64.mono ?_;rintro e w' ⟨rfl,hw⟩;rw [hw])
 go_ret2
 exact ⟨rfl,rfl⟩
theorem aQY (x y:Nat) (hx:x<18446744073709551616) (hy:y<18446744073709551616) (hxy:x*y<18446744073709551616):HasC Tryz.prog 259 [.sc (.int .u64 x),.sc (.int .u64 y)] (.tuple [.sc (.int .u64 0),.sc (.int .u64 ((x*y:Nat):Int))]):=by
 refine ⟨Enters.mk Tryz.func259 (by kernel_rfl) (by kernel_rfl),λw args S hargs=>?_⟩;obtain ⟨args⟩:=args;simp only [RepVs] at hargs;obtain ⟨v,r,S1,S2,h1,rfl,h3,v2,r2,S3,S4,h4,rfl,h6,rfl,rfl⟩:=hargs;simp only [RepD] at h3 h6;obtain ⟨rfl,_,rfl⟩:=h3;obtain ⟨rfl,_,rfl⟩:=h6;subst h4;subst h1;refine (aRt x y hx hy w).mono λe w' ⟨he,hw⟩=>?_;subst hw;refine ⟨_,[],he,Below.refl _ _,⟨_,rfl,?_⟩,New.nil _⟩;have e1:x*y / 18446744073709551616=0:=Nat.div_eq_of_lt hxy;have e2:x*y % 18446744073709551616=x*y:=Nat.mod_eq_of_lt hxy;rw [e1,e2];exact ⟨_,_,[],[],rfl,rfl,⟨rfl,rfl,rfl⟩,_,_,[],[],rfl,rfl,⟨rfl,rfl,rfl⟩,rfl,rfl⟩
theorem aEo (n:Nat) (hn:n<9223372036854775808) (w:World):(convert 3 177 (.int .i64 n)).run Tryz.prog w= .ok (.int .u64 n) w:=by
 have e:IntKind.u64.wrap (n:Int)=(n:Int):=by rw [IntKind.wrap_u64];omega
 simp [convert,go_sem,Tryz.underlying3,Tryz.underlying177,e]
theorem aLn (n:Nat) (hn:n<9223372036854775808) (w:World):(convert 177 3 (.int .u64 n)).run Tryz.prog w= .ok (.int .i64 n) w:=by
 have e:IntKind.i64.wrap (n:Int)=(n:Int):=by rw [IntKind.wrap_i64];omega
 simp [convert,go_sem,Tryz.underlying3,Tryz.underlying177,e]
theorem aOJ (c:Int) (n:Nat) (h0:0<n) (hn:n≤1048576):HasC Tryz.prog 227 [.list 1 ([c].map eI),.int n] (.list 1 ((List.replicate n c).map eI)):=by
 refine xZ aV (ns:=[0,1,2,3,4,5,6,7]) Tryz.func227 rfl rfl Tryz.ntmps227 rfl rfl rfl ?_
 repeat (first|refine gB ?_|refine lU ?_|refine fH ?_|refine sB ?_|refine bE (eR rfl) rfl rfl rfl ?_|refine bE (gL rfl) rfl rfl rfl ?_|refine bE (aAQ rfl rfl rfl) rfl rfl rfl ?_)
 refine sU rfl (λh=>?_) (λh=>?_)
 ·simp at h;omega
 repeat (first|refine lU ?_|refine fH ?_|refine aI ?_|refine bE (eR rfl) rfl rfl rfl ?_|refine bE (xB aV rfl rfl rfl) rfl rfl rfl ?_)
 refine bE (oW (u:= .int .i64 ((1:Nat):Int)) rfl rfl (aEo 1 (by omega))) rfl rfl rfl ?_
 repeat (first|refine bE (eR rfl) rfl rfl rfl ?_)
 refine bE (oW (u:= .int .i64 (n:Int)) rfl rfl (aEo n (by omega))) rfl rfl rfl ?_;refine bE (gV (aQY 1 n (by omega) (by omega) (by omega)) rfl rfl rfl rfl (cP trivial (cP trivial lX)) (aL (aCW rfl) (aL (aCW rfl) aJ))) rfl rfl rfl ?_
 repeat (first|refine gB ?_|refine lU ?_|refine fH ?_|refine sB ?_|refine bE (eR rfl) rfl rfl rfl ?_|refine bE (gL rfl) rfl rfl rfl ?_|refine bE (aAQ rfl rfl rfl) rfl rfl rfl ?_|refine bE (yR rfl rfl) rfl rfl rfl ?_|refine bE (aA rfl rfl (by intro _ h;cases h)) rfl rfl rfl ?_)
 refine sU rfl (λh=>?_) (λh=>?_)
 ·have:=of_decide_eq_true h;omega
 repeat (first|refine lU ?_|refine fH ?_|refine aI ?_|refine bE (eR rfl) rfl rfl rfl ?_)
 refine bE (oW (u:= .int .u64 ((1*n:Nat):Int)) rfl rfl (aLn (1*n) (by omega))) rfl rfl rfl ?_;refine bE (AEff.conv (aBr aV (n:=((1*n:Nat):Int)) (by simp;omega) rfl rfl rfl rfl rfl rfl rfl rfl) (v':= .own 0 0 n) (ed':=[(0,some ⟨1,(List.replicate n (0:Int)).map (ow eI)⟩)]) (by simp) (by rw [←aDO];simp only [dX,Nat.one_mul];rfl)) rfl rfl rfl ?_
 repeat (first|refine gB ?_|refine lU ?_|refine fH ?_|refine bE (eR rfl) rfl rfl rfl ?_|refine bE (gL rfl) rfl rfl rfl ?_)
 refine bE (AEff.conv (aOA aV (i:=0) (l:=List.replicate n (0:Int)) (m:=[c]) (by simp;omega) (by simp) rfl rfl rfl rfl rfl rfl rfl rfl) (v':= .int ((1:Nat):Int)) (ed':=[(0,some ⟨1,(List.replicate 1 c++List.replicate (n - 1) 0).map (ow eI)⟩)])
  (by rw [show min [c].length n=1 by simp;omega]) (by rw [show min [c].length n=1 by simp;omega];simp [List.drop_replicate])) rfl rfl rfl ?_
 repeat (first|refine gB ?_|refine lU ?_|refine aG ?_|refine bE (gL rfl) rfl rfl rfl ?_)
 refine aEi (ι:=Nat) (λk=>mkS [(7,.own 0 0 n),(8,.int k)] [(0,⟨1,(List.replicate k c++List.replicate (n - k) 0).map (ow eI)⟩)] 1 [1,2,3,4]) (λk=>1≤k∧k≤n) (λk=>n - k) 1 ⟨bT _,h0⟩ ?_ ?_
 ·refine kP (σ:=sg [(0,0)]) ⟨⟨_,rfl,⟨rfl,rfl,rfl,rfl⟩⟩,⟨_,rfl,rfl⟩,trivial⟩ ⟨⟨_,rfl,rfl,.inl ⟨rfl,wH _⟩⟩,rfl,trivial⟩ rfl
 ·rintro k ⟨hk1,hkn⟩
  repeat (first|refine gB ?_|refine lU ?_|refine fH ?_|refine sB ?_|refine bE (eR rfl) rfl rfl rfl ?_|refine bE (aAQ rfl rfl rfl) rfl rfl rfl ?_|refine bE (eD aV rfl rfl rfl rfl) rfl rfl rfl ?_)
  refine sU rfl (λh=>?_) (λh=>?_)
  ·have hlt:k<n:=by have:=of_decide_eq_true h;omega
   clear h
   repeat (first|refine sB ?_|refine aX MIX ?_|refine aG ?_|refine aI ?_|refine bE (eR rfl) rfl rfl rfl ?_)
   refine bE (AEff.val (tL aV (l:=(k:Int)) (h:=(n:Int)) (by simp;omega) rfl rfl rfl rfl rfl rfl rfl rfl) (v':= .own 0 k (n - k)) (by simp)) rfl rfl rfl ?_
   repeat (first|refine bE (eR rfl) rfl rfl rfl ?_)
   refine bE (AEff.val (tL aV (l:=(0:Int)) (h:=(k:Int)) (by simp;omega) rfl rfl rfl rfl rfl rfl rfl rfl) (v':= .own 0 0 k) (by simp)) rfl rfl rfl ?_
   refine bE (AEff.conv (aOA aV (i:=k) (nd:=n - k) (l:=List.replicate k c++List.replicate (n - k) 0) (m:=(((List.replicate k c++List.replicate (n - k) 0).drop 0).take k)) (by simp;omega) (by simp;omega) rfl rfl rfl (aRG cA rfl) rfl rfl rfl rfl) (v':= .int ((min k (n - k):Nat):Int)) (ed':=[(0,some ⟨1,(List.replicate (k+min k (n - k)) c++List.replicate (n - (k+min k (n - k))) 0).map (ow eI)⟩)])
    (by congr 3;simp) ?_) rfl rfl rfl ?_
   ·have e1:(((List.replicate k c++List.replicate (n - k) 0).drop 0).take k)=List.replicate k c:=by simp
    rw [e1,List.length_replicate];congr 4;rw [List.take_left' (by simp),List.take_replicate,List.drop_append,List.drop_of_length_le (by simp),List.nil_append,List.drop_replicate,List.length_replicate,List.replicate_append_replicate,show min (min k (n - k)) k=min k (n - k) by omega,show n - k - (k+min k (n - k) - k)=n - (k+min k (n - k)) by omega]
   refine bE (bN rfl rfl) rfl rfl rfl ?_
   repeat (first|refine gB ?_|refine bE (gL rfl) rfl rfl rfl ?_)
   refine ⟨by kernel_rfl,?_⟩
   repeat (first|refine sB ?_|refine aW ?_)
   refine ⟨k+min k (n - k),⟨by omega,by omega⟩,by omega,?_⟩;refine kP (σ:=sg [(0,0)]) ⟨⟨_,rfl,⟨rfl,rfl,rfl,rfl⟩⟩,⟨_,rfl,?_⟩,trivial⟩ ⟨⟨_,rfl,rfl,.inl ⟨rfl,wH _⟩⟩,rfl,trivial⟩ rfl;show Value.int .i64 (wr ((k:Int)+((min k (n - k):Nat):Int)))=_;rw [aJF (by omega)];rfl
  ·have hlt:k=n:=by have:=of_decide_eq_false h;omega
   subst hlt;clear h
   repeat (first|refine gB ?_|refine lU ?_|refine fH ?_|refine sB ?_|refine bB ?_|refine aE ?_|refine bE (eR rfl) rfl rfl rfl ?_|refine bE (gL rfl) rfl rfl rfl ?_)
   refine bD rfl rfl rfl ?_;have e1:(List.replicate k c++List.replicate (k - k) (0:Int))=List.replicate k c:=by simp
   refine mX (eY cA (l:=List.replicate k c) ?_ (by simp));show some (⟨1,(List.replicate k c++List.replicate (k - k) (0:Int)).map (ow eI)⟩:Blk)=some ⟨1,(List.replicate k c).map (ow eI)⟩;rw [e1]
end
end Go.Proofs.YtgkfbfiiaphgoaaGreat

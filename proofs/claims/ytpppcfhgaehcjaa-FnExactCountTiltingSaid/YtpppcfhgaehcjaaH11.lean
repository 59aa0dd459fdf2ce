/-
  Several texts of the claim in one.
-/
import Derived.Shelf.Bits.Mul64
import Derived.Test.YtpppcfhgaehcjaaProg
import Derived.Test.YtpppcfhgaehcjaaH10
set_option linter.unusedVariables false
set_option linter.unusedSimpArgs false
namespace Go.Proofs.Ytpppcfhgaehcjaa
open Go.RowKit
noncomputable section
set_option maxRecDepth 10000
theorem wP {w:World} {h:Hp} {u:Us} {ν:Nu} : ∀ {x:List Int} {vs:List Value} {S:List Nat},CellsRep w h u ν (x.map (ow eI)).flatten vs S→vs=x.map (Value.int .i64)
 | [],vs,S,h=>h.1
 |z::x,vs,S,h=>by
  simp only [List.map_cons,List.flatten_cons] at h;obtain ⟨v,r,S1,S2,rfl,rfl,h3,h4⟩:=h;have h5:v=Value.int .i64 z:=h3.1.1;rw [h5,wP h4];rfl
theorem aGq {w:World} {h:Hp} {u:Us} {ν:Nu} : ∀ {x:List Int} {vs:List Value},All2 (Rep1 w h u ν) (x.map eI).flatten vs→vs=x.map (Value.int .i64)
 | [],vs,h=>h
 |z::x,vs,h=>by
  simp only [List.map_cons,List.flatten_cons] at h;obtain ⟨v,r,rfl,h3,h4⟩:=h;have h5:v=Value.int .i64 z:=h3.1;rw [h5,aGq h4];rfl
theorem wQ {w:World} {h:Hp} {u:Us} {ν:Nu} : ∀ {x:List Int},CellsRep w h u ν (x.map (ow eI)).flatten (x.map (Value.int .i64)) []
 | []=>⟨rfl,rfl⟩
 |z::x=>⟨_,_,[],[],rfl,rfl,⟨⟨rfl,rfl⟩,rfl⟩,wQ⟩
theorem aEk {hp:Hp} {x:List Int} :(x.map eI).flatten.all (okCell hp)=true:=by
 rw [List.all_eq_true];intro c hc;obtain ⟨cs,hcs,hc⟩:=List.mem_flatten.1 hc;obtain ⟨z,_,rfl⟩:=List.mem_map.1 hcs;simp only [eI,List.mem_singleton] at hc;subst hc;rfl
theorem aGr {P:Program} {T:List (Nat×Ty)} (hT:TyOk P T) {dst:Option Tmp} {dty:TypeId} {pos:String} {aft:Array Edge} {g:Option (Nat×Bool)} {s:AState} {xd xs:Operand} {t et:Nat} {y ye:Ty} {b i nd:Nat} {l m:List Int} {sv:AV} {ts:List Nat}
  (hin:i<l.length) (hm:0<m.length) (hx:s.ev xd=some (.own b i nd)) (hb:s.heap b=some ⟨1,l.map (ow eI)⟩) (hz:s.ev xs=some sv) (hsrc:kI s.heap sv=some (1,m.map eI,ts)) (hy:cF T t=some y) (hd:y.desc= .slice et) (hye:cF T et=some ye) (hk1:ye.size=1):
  AEff P ⟨dst,.call ⟨.builtin .copy,#[xd,xs],#[t,t]⟩,dty,pos,aft,g⟩ s.ev s.heap s.kp ⟨.int (min m.length nd:Nat),b::ts,[(b,some ⟨1,(l.take i++m.take (min m.length nd)++l.drop (i+min m.length nd)).map (ow eI)⟩)],[]⟩:=by
 refine ⟨λC s' ν a w Q K {hκ} hi' ht hnw hd' hs hK=>?_⟩;have h1:=hs.ev ((hi' xd (by simp [Op.operands,Call.operands])).trans hx);have h2:=hs.ev ((hi' xs (by simp [Op.operands,Call.operands])).trans hz);have hb':s'.heap b=some ⟨1,l.map (ow eI)⟩:=(ht b (by simp)).trans hb;obtain ⟨ao,c0,vs,e1,e2,e3,e4,e5⟩:=hs.src h2 hsrc (λb hb=>ht b (by simp [hb])) aEk;have hvs:=aGq e4;simp only [RepA,RepB,Rep1] at h1;obtain ⟨hfit,hnn,hsl⟩:=h1.2 _ hb';obtain ⟨φ,hh⟩:=hs.heap;obtain ⟨hub,⟨hk,hx2⟩,hnd,hB⟩:=hh.blk b _ hb';simp only [fH] at hfit;rcases hx2 with ⟨q1,q2,_⟩|⟨β,c,arr,ty',T',vs',q1,q2,q3,q4,q5,q6,q7,q8⟩
 ·have:l=[]:=by simpa using q2
  rw [this] at hin;simp at hin
 simp only [fH,Nat.mul_one] at q3 q4 q7;have hT':=tD q8;have hv':=wP q8;subst hT';have hsl':=(hsl β c q1).pos (by omega);simp only [Nat.mul_one] at hsl';obtain ⟨k,hk0⟩: ∃ k,k=min m.length nd:=⟨_,rfl⟩;rw [←hk0] at hK;have hkm:k≤m.length:=by omega
 have hkn:k≤nd:=by omega
 obtain ⟨i1,z1,d1,y1⟩:=hT.is hy;obtain ⟨i2,z2,d2,y2⟩:=hT.is hye
 obtain ⟨ad,rfl,e6⟩: ∃ ad,ao=some ad∧ ∀ j u,vs[j]? =some u→w.cell? (ad.add j)=some u:=by
  rcases e5 with h|h
  ·rw [fH] at h;omega
  ·exact h
 have hcl:((m.take k).map (Value.int .i64)).length=k:=by simp;omega
 have hrun:=run_copy_row (P:=P) w t t dty et β i nd (c - i) ad (m.map eI).length c0 arr ty' ((m.take k).map (Value.int .i64)) (y1.slice hd) (by rw [y2.info];simp [y2.size,hk1]) q2 (by rw [hcl,fH,hk0])
  (λj v hj=>e6 j v (by
   rw [hvs];have hjk:j<k:=by have:=(List.getElem?_eq_some_iff.1 hj).1;omega
   rw [List.map_take,List.getElem?_take_of_lt hjk] at hj
   exact hj)) (by omega) (λv hv=>by obtain ⟨z,_,rfl⟩:=List.mem_map.1 hv;rfl)
 rw [hcl] at hrun;generalize hw':w.setRow β (arr.toList.take i++(m.take k).map (Value.int .i64)++arr.toList.drop (i+k)).toArray=w' at hrun
 have hexec:(execOp a.eval ⟨dst,.call ⟨.builtin .copy,#[xd,xs],#[t,t]⟩,dty,pos,aft,g⟩).run P w= .ok (.value (.int .i64 k)) w':=by
  have h0:execOp a.eval ⟨dst,.call ⟨.builtin .copy,#[xd,xs],#[t,t]⟩,dty,pos,aft,g⟩=(do let v ←Builtin.copy_ #[t,t] dty #[a.eval xd,a.eval xs];pure (.value v):Sem Next):=by
   simp [execOp,resolve,invoke,builtin]
  rw [h0,hsl',e1,Sem.run_bind,hrun];simp [goInt]
 unfold Oper.wp;rw [hexec];simp only [Oper.upon];have hothers: ∀ x,x≠β→w'.heap[x]? =w.heap[x]? :=λx hx=>by rw [←hw'];exact iH hx
 have hβ:w'.heap[β]? =some (.cells (arr.toList.take i++(m.take k).map (Value.int .i64)++arr.toList.drop (i+k)).toArray ty' (0,0)):=by rw [←hw'];exact setRow_heap w β arr _ ty' (0,0) q2
 have hll:(l.take i++m.take k++l.drop (i+k)).length=l.length:=by simp;omega
 have ext:Ext w s'.heap s'.used ν w' (aD [(b,some ⟨1,(l.take i++m.take k++l.drop (i+k)).map (ow eI)⟩)] s'.heap) s'.used ν:=by
  refine ⟨λ_ h=>h,λb2 blk2 _ hb2=>?_,λx hx hf=>⟨hothers x (λe=>hf b _ β c hb' q1 e.symm),λb2 blk2 β2 c2 hb2 hν2=>?_⟩,rfl⟩
  ·by_cases e:b2=b
   ·subst e;simp only [aD,aS,aG,Option.some.injEq] at hb2;subst hb2;exact ⟨_,hb',rfl,by simp only [fH];exact hll.symm,rfl⟩
   ·simp only [aD,aX e,aL] at hb2;exact ⟨blk2,hb2,rfl,rfl,rfl⟩
  ·by_cases e:b2=b
   ·subst e;exact hf b2 _ β2 c2 hb' hν2
   ·simp only [aD,aX e,aL] at hb2;exact hf b2 blk2 β2 c2 hb2 hν2
 refine hK ν _ _ (hs.step (x:= .int (k:Nat)) (v:= .int .i64 k) hd' (s':=s'.app dst _) (by exact ext) (by rw [←hw'];exact mQ (C.low _ (hB β (by rw [q6];simp)))) ⟨φ,?_,?_⟩ rfl (nP rfl))
 ·intro x blk2 hx2;by_cases e:x=b
  ·subst e;simp only [AState.app,aD,aS,aG,Option.some.injEq] at hx2;subst hx2;refine ⟨hub,⟨?_,.inr ⟨β,c,_,ty',[],_,q1,hβ,?_,by simp only [fH];omega,q5,q6,rfl,?_⟩⟩,hnd,hB⟩
   ·intro cs hcs;obtain ⟨z,_,rfl⟩:=List.mem_map.1 hcs;rfl
   ·simp;omega
   ·have harr:arr.toList.take l.length=l.map (Value.int .i64):=by rw [q7,hv']
    have h5:(arr.toList.take i++(m.take k).map (Value.int .i64)++arr.toList.drop (i+k)).toArray.toList.take ((l.take i++m.take k++l.drop (i+k)).map (ow eI)).length=(l.take i++m.take k++l.drop (i+k)).map (Value.int .i64):=by
     rw [fH,hll];simp only [List.map_append,List.map_take,List.map_drop,←harr];have hal:arr.toList.length=c:=by simpa using q3
     rw [List.take_append,List.take_append,List.take_take,List.take_take];simp only [List.length_append,List.length_take,fH,hal,List.take_drop];rw [show min i c=i by omega,show min (l.length - i) k=k by omega,show i+k+(l.length - (i+min k m.length))=l.length by omega,List.take_take];simp only [show min l.length i=i by omega,show min i l.length=i by omega]
    rw [Nat.mul_one,h5];exact wQ
  ·simp only [AState.app,aD,aX e,aL] at hx2;obtain ⟨p1,p2,p3,p4⟩:=hh.blk x blk2 hx2;refine ⟨p1,p2.ext ext rfl (λy hy=>hothers y ?_),p3,p4⟩;rintro rfl;exact hh.apart x b y (by rw [hx2];simp) (by rw [hb'];simp) e hy (by rw [q6];simp)
 ·intro x1 x2 yy hx1 hx2 hne hy1 hy2
  have hlive: ∀ x,(s'.app dst ⟨.int (k:Nat),b::ts,[(b,some ⟨1,(l.take i++m.take k++l.drop (i+k)).map (ow eI)⟩)],[]⟩).heap x≠none→s'.heap x≠none:=by
   intro x hx;by_cases e:x=b
   ·subst e;rw [hb'];simp
   ·simpa only [AState.app,aD,aX e,aL] using hx
  exact hh.apart x1 x2 yy (hlive x1 hx1) (hlive x2 hx2) hne hy1 hy2
end
noncomputable section
theorem k2 {αa:Sort _} {a:αa} {αb:Sort _} {b:αb} :a=a∧b=b:=⟨rfl,rfl⟩
theorem k3 {αa:Sort _} {a:αa} {αb:Sort _} {b:αb} {αc:Sort _} {c:αc} :a=a∧b=b∧c=c:=⟨rfl,rfl,rfl⟩
theorem k4 {αa:Sort _} {a:αa} {αb:Sort _} {b:αb} {αc:Sort _} {c:αc} {αd:Sort _} {d:αd} :a=a∧b=b∧c=c∧d=d:=⟨rfl,rfl,rfl,rfl⟩
theorem k7 {αa:Sort _} {a:αa} {αb:Sort _} {b:αb} {αc:Sort _} {c:αc} {αd:Sort _} {d:αd} {αe:Sort _} {e:αe} {αf:Sort _} {f:αf} {αg:Sort _} {g:αg} :a=a∧b=b∧c=c∧d=d∧e=e∧f=f∧g=g:=⟨rfl,rfl,rfl,rfl,rfl,rfl,rfl⟩
theorem k8 {αa:Sort _} {a:αa} {αb:Sort _} {b:αb} {αc:Sort _} {c:αc} {αd:Sort _} {d:αd} {αe:Sort _} {e:αe} {αf:Sort _} {f:αf} {αg:Sort _} {g:αg} {αh:Sort _} {h:αh} :a=a∧b=b∧c=c∧d=d∧e=e∧f=f∧g=g∧h=h:=⟨rfl,rfl,rfl,rfl,rfl,rfl,rfl,rfl⟩
section
variable {ops:Array Oper} {nt:Nat} {r:List Oper} {s:AState} {tr:List Tr} {K:List Tr→AState→Prop} {K':AState→Prop} {d:Option Tmp} {ty:TypeId} {pos:String} {aft:Array Edge} {g:Option (Nat×Bool)}
theorem lp {x:Operand} {t:Nat} {y:Ty} {b i j:Nat} {blk:Blk} {cs:List AV} {v:AV} (h:s.ev x=some (.ptr b i j)∧s.heap b=some blk∧cF TT t=some y∧(y.desc.isAgg||Nat.beq y.size 1)=true∧blk.es[i]? =some cs∧Nat.ble (j+y.size) cs.length=true∧oH y.desc.isAgg (((cs.drop j).take y.size).map oP)=v∧opB ops nt s ⟨d,.load t x,ty,pos,aft,g⟩ []=true) (g2:AOps Try.prog ops nt r (s.app d ⟨v,[b],[],[]⟩) (oT ⟨v,[b],[],[]⟩::tr) K):AOps Try.prog ops nt (⟨d,.load t x,ty,pos,aft,g⟩::r) s tr K:=by
 obtain ⟨h0,h1,h2,h3,h4,h5,h6,h7⟩:=h;exact ae (iI aJ h0 h1 h2 h3 h4 h5 h6) h7 g2
theorem fp {x:Operand} {st f off ft:Nat} {b i j:Nat} {blk:Blk} {y yf:Ty} {fs:List (Nat×Nat)} (h:s.ev x=some (.ptr b i j)∧s.heap b=some blk∧cF TT st=some y∧y.desc= .struct fs∧fs[f]? =some (off,ft)∧cF TT ft=some yf∧Nat.beq yf.size 0=false∧opB ops nt s ⟨d,.fieldAddr st x f,ty,pos,aft,g⟩ []=true) (g2:AOps Try.prog ops nt r (s.app d ⟨.ptr b i (j+off),[b],[],[]⟩) (oT ⟨.ptr b i (j+off),[b],[],[]⟩::tr) K):AOps Try.prog ops nt (⟨d,.fieldAddr st x f,ty,pos,aft,g⟩::r) s tr K:=by
 obtain ⟨h0,h1,h2,h3,h4,h5,h6,h7⟩:=h;exact ae (wL aJ h0 h1 h2 h3 h4 h5 h6) h7 g2
theorem lr {x:Operand} {t:Nat} {y:Ty} {cs:List AV} {v:AV} (h:s.ev x=some (.ref cs)∧cF TT t=some y∧(y.desc.isAgg||Nat.beq y.size 1)=true∧Nat.ble y.size cs.length=true∧(cs.take y.size).all cK=true∧oH y.desc.isAgg (cs.take y.size)=v∧opB ops nt s ⟨d,.load t x,ty,pos,aft,g⟩ []=true) (g2:AOps Try.prog ops nt r (s.app d ⟨v,[],[],[]⟩) (oT ⟨v,[],[],[]⟩::tr) K):AOps Try.prog ops nt (⟨d,.load t x,ty,pos,aft,g⟩::r) s tr K:=by
 obtain ⟨h0,h1,h2,h3,h4,h5,h6⟩:=h;exact ae (yP aJ h0 h1 h2 h3 h4 h5) h6 g2
theorem cm {op:BinOp} {t t':TypeId} {x y:Operand} {q:IntKind} {a b:Int} {c:Bool} (h:s.ev x=some (.sc (.int q a))∧s.ev y=some (.sc (.int q b))∧aHp op a b=some c∧opB ops nt s ⟨d,.binOp op t x y t',ty,pos,aft,g⟩ []=true) (g2:AOps Try.prog ops nt r (s.app d ⟨.bl c,[],[],[]⟩) (oT ⟨.bl c,[],[],[]⟩::tr) K):AOps Try.prog ops nt (⟨d,.binOp op t x y t',ty,pos,aft,g⟩::r) s tr K:=by
 obtain ⟨h0,h1,h2,h3⟩:=h;exact ae (qF h0 h1 h2) h3 g2
theorem pk {c x y:Operand} {t:Bool} {v:AV} (h:s.ev c=some (.sc (.bool t))∧s.ev (if t then x else y)=some v∧opB ops nt s ⟨d,.pick c x y,ty,pos,aft,g⟩ []=true) (g2:AOps Try.prog ops nt r (s.app d ⟨v,[],[],[]⟩) (oT ⟨v,[],[],[]⟩::tr) K):AOps Try.prog ops nt (⟨d,.pick c x y,ty,pos,aft,g⟩::r) s tr K:=by
 obtain ⟨h0,h1,h2⟩:=h;exact ae (oS h0 h1) h2 g2
theorem ln {x:Operand} {t e q:Nat} {y:Ty} {α:Type} {f:α→List AV} {l:List α} (h:s.ev x=some (.list q (List.map f l))∧cF TT t=some y∧y.desc= .slice e∧opB ops nt s ⟨d,.call ⟨.builtin .len,#[x],#[t]⟩,ty,pos,aft,g⟩ []=true) (g2:AOps Try.prog ops nt r (s.app d ⟨.int l.length,[],[],[]⟩) (oT ⟨.int l.length,[],[],[]⟩::tr) K):AOps Try.prog ops nt (⟨d,.call ⟨.builtin .len,#[x],#[t]⟩,ty,pos,aft,g⟩::r) s tr K:=by
 obtain ⟨h0,h1,h2,h3⟩:=h;exact ae (aKb aJ h0 h1 h2) h3 g2
theorem lpS {x:Operand} {t:Nat} {y:Ty} {b i j:Nat} {blk:Blk} {cs:List AV} {v:AV} (h:s.ev x=some (.ptr b i j)∧s.heap b=some blk∧cF TT t=some y∧(y.desc.isAgg||Nat.beq y.size 1)=true∧blk.es[i]? =some cs∧Nat.ble (j+y.size) cs.length=true∧oH y.desc.isAgg (((cs.drop j).take y.size).map oP)=v∧opB ops nt s ⟨d,.load t x,ty,pos,aft,g⟩ []=true) (g2:SOps Try.prog ops nt r (s.app d ⟨v,[b],[],[]⟩) K'):SOps Try.prog ops nt (⟨d,.load t x,ty,pos,aft,g⟩::r) s K':=by
 obtain ⟨h0,h1,h2,h3,h4,h5,h6,h7⟩:=h;exact se (iI aJ h0 h1 h2 h3 h4 h5 h6) h7 g2
theorem fpS {x:Operand} {st f off ft:Nat} {b i j:Nat} {blk:Blk} {y yf:Ty} {fs:List (Nat×Nat)} (h:s.ev x=some (.ptr b i j)∧s.heap b=some blk∧cF TT st=some y∧y.desc= .struct fs∧fs[f]? =some (off,ft)∧cF TT ft=some yf∧Nat.beq yf.size 0=false∧opB ops nt s ⟨d,.fieldAddr st x f,ty,pos,aft,g⟩ []=true) (g2:SOps Try.prog ops nt r (s.app d ⟨.ptr b i (j+off),[b],[],[]⟩) K'):SOps Try.prog ops nt (⟨d,.fieldAddr st x f,ty,pos,aft,g⟩::r) s K':=by
 obtain ⟨h0,h1,h2,h3,h4,h5,h6,h7⟩:=h;exact se (wL aJ h0 h1 h2 h3 h4 h5 h6) h7 g2
theorem cmS {op:BinOp} {t t':TypeId} {x y:Operand} {q:IntKind} {a b:Int} {c:Bool} (h:s.ev x=some (.sc (.int q a))∧s.ev y=some (.sc (.int q b))∧aHp op a b=some c∧opB ops nt s ⟨d,.binOp op t x y t',ty,pos,aft,g⟩ []=true) (g2:SOps Try.prog ops nt r (s.app d ⟨.bl c,[],[],[]⟩) K'):SOps Try.prog ops nt (⟨d,.binOp op t x y t',ty,pos,aft,g⟩::r) s K':=by
 obtain ⟨h0,h1,h2,h3⟩:=h;exact se (qF h0 h1 h2) h3 g2
theorem pkS {c x y:Operand} {t:Bool} {v:AV} (h:s.ev c=some (.sc (.bool t))∧s.ev (if t then x else y)=some v∧opB ops nt s ⟨d,.pick c x y,ty,pos,aft,g⟩ []=true) (g2:SOps Try.prog ops nt r (s.app d ⟨v,[],[],[]⟩) K'):SOps Try.prog ops nt (⟨d,.pick c x y,ty,pos,aft,g⟩::r) s K':=by
 obtain ⟨h0,h1,h2⟩:=h;exact se (oS h0 h1) h2 g2
theorem lP {x:Operand} {v:AV} (h:s.ev x=some v∧opB ops nt s ⟨d,.assign x,ty,pos,aft,g⟩ []=true) (g2:SOps Try.prog ops nt r (s.app d ⟨v,[],[],[]⟩) K'):SOps Try.prog ops nt (⟨d,.assign x,ty,pos,aft,g⟩::r) s K':=by
 obtain ⟨h0,h1⟩:=h;exact se (dI h0) h1 g2
theorem fL {x:Operand} {v:AV} (h:s.ev x=some v∧opB ops nt s ⟨d,.move x,ty,pos,aft,g⟩ []=true) (g2:SOps Try.prog ops nt r (s.app d ⟨v,[],[],[]⟩) K'):SOps Try.prog ops nt (⟨d,.move x,ty,pos,aft,g⟩::r) s K':=by
 obtain ⟨h0,h1⟩:=h;exact se (cI h0) h1 g2
theorem aY:True:=trivial
theorem aT {x:Operand} {v:AV} {Q:Exit→AState→Prop} {T:AState→Prop} (h:s.ev x=some v∧opB ops nt s ⟨d,.assign x,ty,pos,aft,g⟩ []=true) (g2:T (s.app d ⟨v,[],[],[]⟩)):AOps Try.prog ops nt [⟨d,.assign x,ty,pos,aft,g⟩] s tr (λ_ s'=>nV T Q .normal s'):=aa h.1 h.2 (an (tn g2))
theorem aK {o1 o2:Oper} (h:(gB ops s.env o1=some false∧yG o1 nt=true∧gB ops (xV o1.dst (.tuple []) s.env) o2=some false∧yG o2 nt=true)) (g2:AOps Try.prog ops nt r ⟨xV o2.dst (.tuple []) (xV o1.dst (.tuple []) s.env),s.heap,s.used,s.ns,s.kp⟩ (⟨[],[]⟩::⟨[],[]⟩::tr) K):AOps Try.prog ops nt (o1::o2::r) s tr K:=ak h.1 h.2.1 (ak h.2.2.1 h.2.2.2 g2)
theorem sR {id:Nat} {l:List Oper} {y:Code} {Q:Exit→AState→Prop} (h:AOps Try.prog l.toArray nt l s [] (λ_ s'=>nV (λs'=>AC Try.prog nt y s' Q) Q .normal s')):AC Try.prog nt (.seq (.region id l.toArray false) y) s Q:=sQ (rg h)
theorem sS {id:Nat} {l:List Oper} {y:Code} {Q:Exit→AState→Prop} (h:SOps Try.prog l.toArray nt l s (nV (λs'=>AC Try.prog nt y s' Q) Q .normal)):AC Try.prog nt (.seq (.region id l.toArray false) y) s Q:=sQ (rgS h)
end
end
noncomputable section
theorem oB {α β:Type} {o:Option α} {k:α→Option β} {r:β} {p:Prop} (h:o.bind k=some r) (f: ∀ a,o=some a→k a=some r→p):p:=by
 obtain ⟨a,h1,h2⟩:=ob h;exact f a h1 h2
theorem wR {h:Hp} {cs:List AV} (hp:cs.all cK=true):viewA h (.agg cs) (.agg cs):=aEc (aCZ hp)
theorem rY {T:List (Nat×Ty)} {rvs:List ResultVar} {e:Exit} {s:AState} {u v:Bool} (h:some u=some v) (p:mR T s rvs=some [.bl u]∧wK e=true):sX T rvs (.bl v) e s:=by
 cases h;exact eJ p.2 p.1 rfl (wM rfl)
theorem xC {T:List (Nat×Ty)} {rvs:List ResultVar} {e:Exit} {s:AState} {u v:Int} (h:some u=some v) (p:mR T s rvs=some [.int u]∧wK e=true):sX T rvs (.int v) e s:=by
 cases h;exact eJ p.2 p.1 rfl (aBf rfl)
theorem cL {d:Option Tmp} {ty:TypeId} {pos:String} {aft:Array Edge} {g:Option (Nat×Bool)} {s:AState} {f:FuncId} {xs:Array Operand} {ats:Array TypeId} {avs ds:List AV} {ns':List Nat} {α:Type} {e:α→List AV} {q b:Nat} {l:List α} (ok:EOk q e) (hc:HasC Try.prog f ds (.list q (List.map e l))) (h:evs s.ev xs.toList=some avs∧s.ns=b::ns'∧pQ s.ns=true) (hv:All2 (viewA s.heap) avs ds):AEff Try.prog ⟨d,.call ⟨.value (.func f),xs,ats⟩,ty,pos,aft,g⟩ s.ev s.heap s.kp ⟨.own b 0 l.length,avs.flatMap (lY s.heap)++[].flatMap (jA s.heap),[(b,some ⟨q,List.map (ow e) l⟩)],[b]⟩:=
 AEff.conv (uA (x:= .own b 0 (List.map e l).length) (nb:=[(b,⟨q,dT (List.map e l)⟩)]) hc h.1 (by rw [h.2.1];rfl) rfl h.2.2 (ok.good _) hv) (by simp only [aQ]) (aGV (nb':=[(b,⟨q,List.map (ow e) l⟩)]) (by simp only [rR]))
theorem cQ {d:Option Tmp} {ty:TypeId} {pos:String} {aft:Array Edge} {g:Option (Nat×Bool)} {s:AState} {f:FuncId} {xs:Array Operand} {ats:Array TypeId} {avs ds:List AV} {ns':List Nat} {b c:Nat} {v:Qv} (hc:HasC Try.prog f ds (.agg (eQ v))) (h:evs s.ev xs.toList=some avs∧s.ns=b::c::ns'∧pQ s.ns=true) (hv:All2 (viewA s.heap) avs ds):AEff Try.prog ⟨d,.call ⟨.value (.func f),xs,ats⟩,ty,pos,aft,g⟩ s.ev s.heap s.kp ⟨.agg [.int v.n,.own b 0 v.src.length,.own c 0 v.tgt.length],avs.flatMap (lY s.heap)++[].flatMap (jA s.heap),[(b,some ⟨1,List.map (ow eI) v.src⟩),(c,some ⟨1,List.map (ow eI) v.tgt⟩)],[b,c]⟩:=
 AEff.conv (uA (x:= .agg [.int v.n,.own b 0 (List.map eI v.src).length,.own c 0 (List.map eI v.tgt).length]) (nb:=[(b,⟨1,dT (List.map eI v.src)⟩),(c,⟨1,dT (List.map eI v.tgt)⟩)]) hc h.1 (by rw [h.2.1];rfl) rfl h.2.2 (aBk trivial (aBk (mK.good _) (aBk (mK.good _) aIx))) hv) (by simp only [aQ]) (aGV (nb':=[(b,⟨1,List.map (ow eI) v.src⟩),(c,⟨1,List.map (ow eI) v.tgt⟩)]) (by simp only [rR]))
def re1 (σ:Nat→Option Nat):AV→AV
 | .own b i m=>match σ b with|some b0=> .own b0 i m|none=> .dead
 | .ptr b i j=>match σ b with|some b0=> .ptr b0 i j|none=> .dead
 |x=>x
def reA (σ:Nat→Option Nat):AV→AV
 | .agg cs=> .agg (cs.map (re1 σ))
 |x=>re1 σ x
def ok1 (σ:Nat→Option Nat) (n:Nat):AV→Bool
 | .own b _ _=>(σ b).isSome &&Nat.blt b n
 | .ptr b _ _=>(σ b).isSome &&Nat.blt b n
 | .sc _=>true
 | .nil _=>true
 | .list _ _=>true
 | .ref _=>true
 |_=>false
def okA (σ:Nat→Option Nat) (n:Nat):AV→Bool
 | .agg cs=>cs.all (ok1 σ n)
 |x=>ok1 σ n x
def aCq (e:Nat→Option AV):List (Nat×AV)→List (Option AV)
 | []=>[]
 |(t,_)::r=>e t::aCq e r
def aCr (σ:Nat→Option Nat):List (Nat×AV)→List (Option AV)
 | []=>[]
 |(_,y)::r=>some (reA σ y)::aCr σ r
theorem pD {σ:Nat→Option Nat} {n:Nat} {y:AV} (h:ok1 σ n y=true):cW σ n (re1 σ y) y:=by
 cases y <;> simp only [ok1,dJ] at h
 ·rfl
 ·trivial
 ·exact ⟨rfl,rfl⟩
 ·rfl
 all_goals
  rename_i b i j
  simp only [bW] at h
  obtain ⟨b0,hb⟩:=Option.isSome_iff_exists.1 h.1
  simp only [re1,hb]
  exact ⟨hb,rfl,rfl,h.2⟩
theorem aIh {σ:Nat→Option Nat} {n:Nat} : ∀ {cs:List AV},cs.all (ok1 σ n)=true→All2 (cW σ n) (cs.map (re1 σ)) cs
 | [],_=>rfl
 |c::cs,h=>by
  simp only [List.all_cons,bW] at h;exact ⟨c,cs,rfl,pD h.1,aIh h.2⟩
theorem aJq {σ:Nat→Option Nat} {n:Nat} {y:AV} (h:okA σ n y=true):iZ σ n (reA σ y) y:=by
 cases y with
 |agg cs=>exact aIh h
 |fn f cs=>simp [okA,ok1] at h
 |tuple cs=>simp [okA,ok1] at h
 |dead=>simp [okA,ok1] at h
 |abs q es=>simp [okA,ok1] at h
 |sc u=>exact pD (σ:=σ) (n:=n) (y:= .sc u) h
 |nil q=>exact pD (σ:=σ) (n:=n) (y:= .nil q) h
 |list q es=>exact pD (σ:=σ) (n:=n) (y:= .list q es) h
 |ref cs=>exact pD (σ:=σ) (n:=n) (y:= .ref cs) h
 |own b i m=>
  have:=pD (σ:=σ) (n:=n) (y:= .own b i m) h;simp only [reA];generalize re1 σ (.own b i m)=z at*;cases z <;> first|exact this|exact this.elim
 |ptr b i j=>
  have:=pD (σ:=σ) (n:=n) (y:= .ptr b i j) h;simp only [reA];generalize re1 σ (.ptr b i j)=z at*;cases z <;> first|exact this|exact this.elim
theorem aJr {σ:Nat→Option Nat} {n:Nat} {e:Nat→Option AV} : ∀ {tl:List (Nat×AV)},aCq e tl=aCr σ tl→(tl.all λp=>okA σ n p.2)=true→tV σ n e tl
 | [],_,_=>trivial
 |(t,y)::r,h,q=>by
  simp only [aCq,aCr,List.cons.injEq] at h;simp only [List.all_cons,bW] at q;exact ⟨⟨_,h.1,aJq q.1⟩,aJr h.2 q.2⟩
theorem bX {σ:Nat→Option Nat} {n:Nat} {e:Nat→Option AV} {tl:List (Nat×AV)} (h:aCq e tl=aCr σ tl∧(tl.all λp=>okA σ n p.2)=true):tV σ n e tl:=aJr h.1 h.2
end
noncomputable section
def nmA:List Nat:=[0,1,2,3,4,5,6,7,8,9,10,11,12,13,14,15,16,17,18,19]++[20,21,22,23,24,25,26,27,28,29,30,31,32,33,34,35,36,37,38,39]++([40,41,42,43,44,45,46,47,48,49,50,51,52,53,54,55,56,57,58,59]++([60,61,62,63,64,65,66,67,68,69,70,71,72,73,74,75,76,77,78,79]++[80,81,82,83,84,85,86,87,88,89,90,91,92,93,94,95,96,97,98,99]))
abbrev mN (e:List (Nat×AV)) (h:List (Nat×Blk)) (n:Nat) (kp:Kp:=0):AState:=mkS e h n (nmA.drop n) kp
def iSg:List (Nat×Blk)→Nat→Option Nat
 | [],_=>none
 |(q,_)::r,t=>bif Nat.beq t q then some t else iSg r t
def zSg:List (Nat×Blk)→List Nat→Nat→Option Nat
 |(q,_)::r,b::bs,t=>bif Nat.beq t q then some b else zSg r bs t
 |_,_,_=>none
theorem cB {s:AState} {n:Nat} {kp:Kp} {tl:List (Nat×AV)} {hl:List (Nat×Blk)} (he:tV (iSg hl) n s.env tl) (hh:iF (iSg hl) n s.heap hl) (p:qN (iSg hl) hl=true∧s.kp=kp∧aAW (iSg hl) kp.n hl=true∧Nat.ble kp.n n=true):Ent s (mN tl hl n kp):=iA he hh p.1 p.2.1 p.2.2.1 p.2.2.2
theorem uP (bs:List Nat) {s:AState} {n:Nat} {kp:Kp} {tl:List (Nat×AV)} {hl:List (Nat×Blk)} (he:tV (zSg hl bs) n s.env tl) (hh:iF (zSg hl bs) n s.heap hl) (p:qN (zSg hl bs) hl=true∧s.kp=kp∧aAW (zSg hl bs) kp.n hl=true∧Nat.ble kp.n n=true):Ent s (mN tl hl n kp):=iA he hh p.1 p.2.1 p.2.2.1 p.2.2.2
section
variable {σ:Nat→Option Nat} {n:Nat}
theorem aCs {e:Nat→Option AV} : ∀ {m:Nat} {tl:List (Nat×AV)},tV σ n e (tl.take m)→tV σ n e (tl.drop m)→tV σ n e tl
 |0,_,_,h=>h
 |m+1,[],_,_=>trivial
 |m+1,(t,y)::r,h1,h2=>⟨h1.1,aCs h1.2 h2⟩
theorem mM (m:Nat) {e:Nat→Option AV} {tl:List (Nat×AV)} (h:aCq e (tl.take m)=aCr σ (tl.take m)∧((tl.take m).all λp=>okA σ n p.2)=true) (h2:tV σ n e (tl.drop m)):tV σ n e tl:=aCs (bX h) h2
theorem kN {e:Nat→Option AV} {t:Nat} {y:AV} {r:List (Nat×AV)} (h: ∃ x,e t=some x∧iZ σ n x y) (h2:tV σ n e r):tV σ n e ((t,y)::r):=⟨h,h2⟩
variable {b b0 q:Nat} {h:Hp} {r:List (Nat×Blk)}
theorem kH {l:List Int} (p:(σ b,h b0,Nat.blt b n)=(some b0,some ⟨1,List.map (ow eI) l⟩,true)) (hr:iF σ n h r):iF σ n h ((b,⟨1,List.map (ow eI) l⟩)::r):=by
 obtain ⟨p1,p⟩:=Prod.mk.inj p;obtain ⟨p2,p3⟩:=Prod.mk.inj p;exact hB (mK.plainO _) p1 p2 p3 hr
theorem eE {y:Blk} (p:(σ b,h b0,Nat.blt b n,y.es.all λcs=>cs.all jG)=(some b0,some y,true,true)) (hr:iF σ n h r):iF σ n h ((b,y)::r):=by
 obtain ⟨p1,p⟩:=Prod.mk.inj p;obtain ⟨p2,p⟩:=Prod.mk.inj p;obtain ⟨p3,p4⟩:=Prod.mk.inj p;exact hB (aGP p4) p1 p2 p3 hr
theorem cC {y:Blk} (hp:nW y.es) (p:(σ b,h b0,Nat.blt b n)=(some b0,some y,true)) (hr:iF σ n h r):iF σ n h ((b,y)::r):=by
 obtain ⟨p1,p⟩:=Prod.mk.inj p;obtain ⟨p2,p3⟩:=Prod.mk.inj p;exact hB hp p1 p2 p3 hr
def reC (σ:Nat→Option Nat):AV→AV
 | .own b i m=>match σ b with|some b0=> .own b0 i m|none=> .dead
 | .ptr b i j=>match σ b with|some b0=> .ptr b0 i j|none=> .dead
 |x=>x
def okC (σ:Nat→Option Nat) (n:Nat):AV→Bool
 | .own b _ _=>(σ b).isSome &&Nat.blt b n
 | .ptr b _ _=>(σ b).isSome &&Nat.blt b n
 | .sc _=>true
 | .nil _=>true
 | .list _ _=>true
 | .abs _ _=>true
 | .ref _=>true
 |_=>false
theorem aJu {y:AV} (h:okC σ n y=true):fK σ n (reC σ y) y:=by
 cases y with
 |sc u=>exact pD (σ:=σ) (n:=n) (y:= .sc u) h
 |nil q=>exact pD (σ:=σ) (n:=n) (y:= .nil q) h
 |list q es=>exact pD (σ:=σ) (n:=n) (y:= .list q es) h
 |ref cs=>exact pD (σ:=σ) (n:=n) (y:= .ref cs) h
 |abs q es=>exact ⟨rfl,rfl⟩
 |own b i m=>
  have:=pD (σ:=σ) (n:=n) (y:= .own b i m) h;show fK σ n (re1 σ (.own b i m)) _;generalize re1 σ (.own b i m)=z at*;cases z <;> first|exact this|exact this.elim
 |ptr b i j=>
  have:=pD (σ:=σ) (n:=n) (y:= .ptr b i j) h;show fK σ n (re1 σ (.ptr b i j)) _;generalize re1 σ (.ptr b i j)=z at*;cases z <;> first|exact this|exact this.elim
 |agg cs=>simp [okC] at h
 |fn f cs=>simp [okC] at h
 |tuple cs=>simp [okC] at h
 |dead=>simp [okC] at h
theorem aGu: ∀ {cs:List AV},cs.all (okC σ n)=true→All2 (fK σ n) (cs.map (reC σ)) cs
 | [],_=>rfl
 |c::cs,h=>by
  simp only [List.all_cons,bW] at h;exact ⟨c,cs,rfl,aJu h.1,aGu h.2⟩
theorem aGv: ∀ {es:List (List AV)},(es.all λcs=>cs.all (okC σ n))=true→All2 (All2 (fK σ n)) (es.map (List.map (reC σ))) es
 | [],_=>rfl
 |c::cs,h=>by
  simp only [List.all_cons,bW] at h;exact ⟨c,cs,rfl,aGu h.1,aGv h.2⟩
theorem uQ {es:List (List AV)} (p:(σ b,h b0,Nat.blt b n,es.all λcs=>cs.all (okC σ n))=(some b0,some ⟨q,es.map (List.map (reC σ))⟩,true,true)) (hr:iF σ n h r):iF σ n h ((b,⟨q,es⟩)::r):=by
 obtain ⟨p1,p⟩:=Prod.mk.inj p;obtain ⟨p2,p⟩:=Prod.mk.inj p;obtain ⟨p3,p4⟩:=Prod.mk.inj p;refine hX ?_ p3 hr;rw [p1];exact ⟨_,p2,rfl,.inr (aGv p4)⟩
end
theorem cG {α:Type} {c:Bool} {A:Option α} {r:α} {p:Prop} (h:cond c A none=some r) (f:c=true→A=some r→p):p:=f (cg h).1 (cg h).2
section
variable {h:Hp} {x:AV} {xs ds:List AV}
theorem iN (q:cK x=true) (b:All2 (viewA h) xs ds):All2 (viewA h) (x::xs) (x::ds):=bH (uC q) b
theorem vcT {b m:Nat} {l:List Int} (hb:h b=some ⟨1,List.map (ow eI) l⟩) (hn:l.length=m) (q:All2 (viewA h) xs ds):All2 (viewA h) (.own b 0 m::xs) (.list 1 (List.map eI l)::ds):=bH (yR mK hb hn) q
end
theorem cT {d:Option Tmp} {ty:TypeId} {pos:String} {aft:Array Edge} {g:Option (Nat×Bool)} {s:AState} {f:FuncId} {xs:Array Operand} {ats:Array TypeId} {avs ds:List AV} {ns':List Nat} {α:Type} {e:α→List AV} {q b:Nat} {l:List α} {z:Bool} {c0:Nat} (ok:EOk q e) (hc:HasC Try.prog f ds (.tuple [.list q (List.map e l),.bl z])) (h:evs s.ev xs.toList=some avs∧s.ns=b::c0::ns'∧pQ s.ns=true) (hv:All2 (viewA s.heap) avs ds):AEff Try.prog ⟨d,.call ⟨.value (.func f),xs,ats⟩,ty,pos,aft,g⟩ s.ev s.heap s.kp ⟨.tuple [.own b 0 l.length,.bl z],avs.flatMap (lY s.heap)++[].flatMap (jA s.heap),[(b,some ⟨q,List.map (ow e) l⟩)],[b]⟩:=
 AEff.conv (uA (x:= .tuple [.own b 0 (List.map e l).length,.bl z]) (nb:=[(b,⟨q,dT (List.map e l)⟩)]) hc h.1 (by rw [h.2.1];rfl) rfl h.2.2 (rT (ok.good _) (rT trivial aDo)) hv) (by simp only [aQ]) (aGV (nb':=[(b,⟨q,List.map (ow e) l⟩)]) (by simp only [rR]))
section
variable {h:Hp} {κ:Kp}
theorem vaQ {b1 b2 m1 m2:Nat} {v:Qv} (p:h b1=some ⟨1,List.map (ow eI) v.src⟩∧v.src.length=m1∧h b2=some ⟨1,List.map (ow eI) v.tgt⟩∧v.tgt.length=m2):viewA h (.agg [.int v.n,.own b1 0 m1,.own b2 0 m2]) (.agg (eQ v)):=aEc (rQ (uB rfl) (rQ (aHt mK p.1 p.2.1) (rQ (aHt mK p.2.2.1 p.2.2.2) aBe)))
variable {x:AV} {xs ds:List AV}
end
section
variable {dst:Option Tmp} {ty:TypeId} {pos:String} {aft:Array Edge} {g:Option (Nat×Bool)} {s:AState}
theorem wl {t e:TypeId} {n:Nat} {parts:Array (Nat×Operand)} {y ye:Ty} {ps:List (Nat×List AV)} {cs:List AV} {b:Nat}
  (h:(s.ns.head?,cF TT t,y.desc,cF TT e,ye.zero.length,Nat.ble (n*ye.size) 16777216,Nat.ble n 16777216,pO s.ev parts.toList,sJ (λi=>some (i*ye.size,ye.size)) (List.replicate n ye.zero).flatten ps,(ps.all λp=>p.2.all (okCell s.heap)),cs.all (okCell s.heap),(ps.flatMap (λp=>bT p.2)++bT cs).contains b)=(some b,some y,.slice e,some ye,ye.size,true,true,some ps,some cs,true,true,false)):
  AEff Try.prog ⟨dst,.buildSlice t n parts,ty,pos,aft,g⟩ s.ev s.heap s.kp ⟨.own b 0 n,ps.flatMap (λp=>bT p.2)++bT cs,[(b,some ⟨ye.size,qM ye.size n cs⟩)],[b]⟩:=by
 simp only [Prod.mk.injEq] at h;obtain ⟨h1,h2,h3,h4,h5,h6,h7,h8,h9,h10,h11,h12⟩:=h;exact aJi aJ h1 h2 h3 h4 h5 h6 h7 h8 h9 h10 h11 h12
theorem ws {t:TypeId} {y:Ty} {x z:Operand} {val:AV} {b i j kk:Nat} {ees:List (List AV)} {cs:List AV}
  (h:(s.ev x,s.heap b,s.ev z,cF TT t,Nat.beq (bN val).length y.size,(bN val).all (okCell s.heap),ees[i]?,Nat.ble (j+y.size) cs.length)=(some (.ptr b i j),some ⟨kk,ees⟩,some val,some y,true,true,some cs,true)):
  AEff Try.prog ⟨dst,.store t x z,ty,pos,aft,g⟩ s.ev s.heap s.kp ⟨.dead,b::bT (bN val),[(b,some ⟨kk,ees.set i (qJ cs j (bN val))⟩)],[]⟩:=by
 simp only [Prod.mk.injEq] at h;obtain ⟨h1,h2,h3,h4,h5,h6,h7,h8⟩:=h;exact aBd aJ h1 h2 h3 h4 h5 h6 h7 h8
theorem wb {t:TypeId} {x:Operand} {v:AV} {b:Nat} (h:(s.ns.head?,s.ev x,(bN v).all (okCell s.heap),(bT (bN v)).contains b)=(some b,some v,true,false)):
  AEff Try.prog ⟨dst,.box t x,ty,pos,aft,g⟩ s.ev s.heap s.kp ⟨.ptr b 0 0,bT (bN v),[(b,some ⟨(bN v).length,[bN v]⟩)],[b]⟩:=by
 simp only [Prod.mk.injEq] at h;obtain ⟨h1,h2,h3,h4⟩:=h;exact aJh h1 h2 h3 h4
theorem xl {α:Type} {k:Nat} {e:α→List AV} {x ix:Operand} {t et:Nat} {y ye:Ty} {l:List α} {kk:IntKind} {i:Int} {v:α} (hm:cR l i=some v)
  (h:(s.ev x,s.ev ix,cF TT t,y.desc,cF TT et,ye.size)=(some (.list k (l.map e)),some (.sc (.int kk i)),some y,.slice et,some ye,k)):
  AEff Try.prog ⟨dst,.indexAddr t x ix,ty,pos,aft,g⟩ s.ev s.heap s.kp ⟨.ref (e v),[],[],[]⟩:=by
 simp only [Prod.mk.injEq] at h;obtain ⟨h1,h2,h3,h4,h5,h6⟩:=h;exact aFQ aJ hm h1 h2 h3 h4 h5 h6
theorem xo {α:Type} {l:List α} {v:α} {x ix:Operand} {t et:Nat} {y ye:Ty} {b kz:Nat} {es:List (List AV)} {kk:IntKind} {i:Int} (hm:cR l i=some v)
  (h:(s.ev x,s.heap b,s.ev ix,cF TT t,y.desc,cF TT et,ye.size)=(some (.own b 0 l.length),some ⟨kz,es⟩,some (.sc (.int kk i)),some y,.slice et,some ye,kz)):
  AEff Try.prog ⟨dst,.indexAddr t x ix,ty,pos,aft,g⟩ s.ev s.heap s.kp ⟨.ptr b i.toNat 0,[b],[],[]⟩:=by
 simp only [Prod.mk.injEq] at h;obtain ⟨h1,h2,h3,h4,h5,h6,h7⟩:=h;exact oY aJ (aBg hm) (lZ hm) h1 h2 h3 h4 h5 h6 h7
theorem wp {α:Type} {e:α→List AV} {l:List α} {u:α} {x:Operand} {t:Nat} {y:Ty} {b j k:Nat} {i:Int} {v:AV} (hm:cR l i=some u)
  (h:(s.ev x,s.heap b,cF TT t,(y.desc.isAgg||Nat.beq y.size 1),Nat.ble (j+y.size) (e u).length,oH y.desc.isAgg ((((e u).drop j).take y.size).map oP))=(some (.ptr b i.toNat j),some ⟨k,l.map e⟩,some y,true,true,v)):
  AEff Try.prog ⟨dst,.load t x,ty,pos,aft,g⟩ s.ev s.heap s.kp ⟨v,[b],[],[]⟩:=by
 simp only [Prod.mk.injEq] at h;obtain ⟨h1,h2,h3,h4,h5,h6⟩:=h;exact iI aJ h1 h2 h3 h4 (aGO (dU hm)) h5 h6
end
theorem hM {f:FuncId} {fn:Func} {c:Code} {nt:Nat} {ds:List AV} {r:AV} (rvs:List ResultVar) (hf:Try.prog.funcs[f]? =some fn) (hnt:fn.ntmps=nt) (h':(fn.body,(fn.name== "runtime.NumGoroutine"),fn.results.toList,Nat.ble ds.length nt,ds.all kK)=(some c,false,rvs,true,true)) (h:AC Try.prog nt c (s0 ds nmA) (sX TT rvs r)):HasC Try.prog f ds r:=by
 simp only [Prod.mk.injEq] at h';exact tZ aJ hf h'.1 h'.2.1 hnt h'.2.2.1 h'.2.2.2.1 h'.2.2.2.2 h
@[elab_as_elim] theorem sp {α:Type} {a:α} {P:α→Prop} {o:α} (h:some a=some o) (p:P a):P o:=so h▸p
theorem xD {α:Type} {t:Bool} {A B:Option α} {r:α} {G:Prop} (h:cond t A B=some r) (p:t=true→A=some r→G) (q:t=false→B=some r→G):G:=by
 rcases cb h with ⟨e,h⟩|⟨e,h⟩
 ·exact p e h
 ·exact q e h
theorem fG {P:Program} {nt:Nat} {Q:Exit→AState→Prop} {s:AState} {c:Operand} {x y:Code} {α:Type} {t:Bool} {A B:Option α} {r:α} (hc:s.ev c=some (.sc (.bool t))) (h:cond t A B=some r) (p:t=true→A=some r→AC P nt x s Q) (q:t=false→B=some r→AC P nt y s Q):AC P nt (.cond c x y) s Q:=xD h (λe h=>qP hc e (p e h)) λe h=>nF hc e (q e h)
theorem qK {p q:Prop} (a:p) (b:q):p∧q:=⟨a,b⟩
end
noncomputable section
set_option maxRecDepth 10000
set_option maxHeartbeats 4000000
def lJ (a0:Int) (a1:Int) (a2:Int):Option Bool:=
 bif decide (a1≤a0) then
 (some (decide (a0≤a2)))
 else
 (some (false))
theorem sM (a0:Int) (a1:Int) (a2:Int) (r:Bool) (h:lJ a0 a1 a2=some r):HasC Try.prog 69 [.int a0,.int a1,.int a2] (.bl r):=by
 exact hM [.tmp 6] Try.func69 Try.ntmps69 k<|sR<|aT k2<|sR<|am k k<|am k k<|cm k4<|am k k<|xD h (λq1 h=>bD 10 k q1<|am k k<|am k k<|cm k4<|pk k3<|aT k2<|aO<|rY h k2) λq1 h=>bD 10 k q1<|aK k4<|ak k k<|pk k3<|aT k2<|aO<|rY h k2
def kE (a0:Int) (a1:Int) (a2:Int):Option Bool:=
 bif decide (a1≤a0) then
 (some (decide (a0≤a2)))
 else
 (some (false))
theorem oD (a0:Int) (a1:Int) (a2:Int) (r:Bool) (h:kE a0 a1 a2=some r):HasC Try.prog 65 [.int a0,.int a1,.int a2] (.bl r):=by
 exact hM [.tmp 6] Try.func65 Try.ntmps65 k<|sR<|aT k2<|sR<|am k k<|am k k<|cm k4<|am k k<|xD h (λq1 h=>bD 10 k q1<|am k k<|am k k<|cm k4<|pk k3<|aT k2<|aO<|rY h k2) λq1 h=>bD 10 k q1<|aK k4<|ak k k<|pk k3<|aT k2<|aO<|rY h k2
def jP (a0:(List Int)) (x1:(Int×Int)):Option ((Int×Int) ⊕ Int):=
 bif decide (x1.2<(a0.length:Int)) then
 ((cR a0 x1.2).bind λv2=>
 some (.inl (wr (x1.1+v2),wr (x1.2+1))))
 else
 (some (.inr x1.1))
def kO (a0:(List Int)):Option Int:=
 (Lp (jP a0) (0,0)).bind λy3=>
 some (y3)
theorem uR (a0:(List Int)) (r:Int) (h:kO a0=some r):HasC Try.prog 64 [.list 1 (a0.map eI)] (.int r):=by
 refine hM [.tmp 2] Try.func64 Try.ntmps64 k<|sR<|aT k2<|sR<|aT k2<|sQ<|sR<|am k k<|ln k4<|am k k<|an<|tn<|aC<|oB h λy3 hy3 h=>dF (body:=(jP a0)) hy3 (λ(x1:(Int×Int))=>mN [(3,.int x1.1),(6,.list 1 (a0.map eI)),(7,.int (a0.length:Int)),(8,.int x1.2)] [] 0) (λr e t=>e= .exit 0∧Ent t (mN [(3,.int r)] [] 0)) (cB (bX k2) aY k4) ?_ ?_
 ·intro x1 o h;exact sR<|cm k4<|an<|tn<|sQ<|fG k h (λ_ h=>aI<|tn<|sQ<|aC<|sR<|oB h λv2 hv2 h=>ae (xl hv2 k) k<|lr k7<|aT k2<|rg<|am k k<|am k k<|ae (bO k k) k<|aa k k<|an<|aV<|tn<|rg<|ae (bO k k) k<|am k k<|an<|tn<|sp h ⟨_,k,(cB (bX k2) aY k4)⟩) λ_ h=>bC<|aA<|aA<|sp h ⟨_,k,k,(cB (bX k2) aY k4)⟩
 ·rintro e t ⟨rfl,hent⟩;exact aM<|tn<|aP hent<|sR<|am k k<|aT k2<|aO<|xC h k2
def kZ (a0:(List Int)) (a1:(List Int)) (x1:Int):Option (Int ⊕ (Unit ⊕ Bool)):=
 bif decide (x1<(a0.length:Int)) then
 ((cR a0 x1).bind λv3=>
 (cR a1 x1).bind λv4=>
 bif !decide (v3=v4) then
 (some (.inr (.inr (false))))
 else
 (some (.inl (wr (x1+1)))))
 else
 (some (.inr (.inl ())))
def oM (a0:(List Int)) (a1:(List Int)):Option Bool:=
 bif !decide ((a0.length:Int)=(a1.length:Int)) then
 (some (false))
 else
 ((Lp (kZ a0 a1) 0).bind λy6=>
 Sum.elim (λy7=>
 some (true)
 )
 (λy8=>
 some y8
 )
 y6)
theorem aAI (a0:(List Int)) (a1:(List Int)) (r:Bool) (h:oM a0 a1=some r):HasC Try.prog 55 [.list 1 (a0.map eI),.list 1 (a1.map eI)] (.bl r):=by
 refine hM [.tmp 4] Try.func55 Try.ntmps55 k<|sR<|aT k2<|sQ<|sR<|am k k<|ln k4<|am k k<|ln k4<|cm k4<|an<|tn<|fG k h (λ_ h=>sR<|aT k2<|aO<|aU<|rY h k2) λ_ h=>?_;refine aI<|tn<|sQ<|sR<|aT k2<|aC<|oB h λy6 hy6 h=>dF (body:=(kZ a0 a1)) hy6 (λ(x1:Int)=>mN [(0,.list 1 (a0.map eI)),(1,.list 1 (a1.map eI)),(5,.int x1)] [] 0) (λr e t=>Sum.elim (λa=>(λr e t=>e= .exit 0∧Ent t (mN [] [] 0)) a e t) (λb=>(λr e t=>e= .ret∧sX TT [.tmp 4] (.bl r) .ret t) b e t) r) (cB (bX k2) aY k4) ?_ ?_
 ·intro x1 o h;exact sQ<|sR<|am k k<|am k k<|ln k4<|cm k4<|an<|tn<|fG k h (λ_ h=>aI<|tn<|sQ<|aC<|sQ<|aN kF<|am k k<|am k k<|oB h λv3 hv3 h=>ae (xl hv3 k) k<|lr k7<|am k k<|am k k<|oB h λv4 hv4 h=>ae (xl hv4 k) k<|lr k7<|cm k4<|an<|qK (by kernel_rfl)<|tn<|fG k h (λ_ h=>sR<|aT k2<|aO<|cS<|aU<|aU<|sp h ⟨_,k,k,eJ k k k (wM k)⟩) λ_ h=>aI<|aV<|tn<|rg<|am k k<|ae (bO k k) k<|aT k2<|sp h ⟨_,k,(cB (bX k2) aY k4)⟩) λ_ h=>bC<|aA<|aA<|sp h ⟨_,k,k,(cB aY aY k4)⟩
 ·intro e t hX;rcases y6 with y7|y8
  ·obtain ⟨rfl,hent⟩:=hX;exact aM<|tn<|aP hent<|sR<|aT k2<|aO<|rY h k2
  ·obtain ⟨rfl,hent⟩:=hX;exact cS<|aU<|sp h hent
def gW (a0:Qv) (x1:Int):Option (Int ⊕ (Unit ⊕ Bool)):=
 bif decide (x1<(a0.src.length:Int)) then
 (bif decide (x1<(a0.tgt.length:Int)) then
 ((cR a0.src x1).bind λv3=>
 (kE v3 0 (wr (a0.n - 1))).bind λv4=>
 bif !v4 then
 (some (.inr (.inr (false))))
 else
 ((cR a0.tgt x1).bind λv6=>
 (kE v6 0 (wr (a0.n - 1))).bind λv7=>
 bif !v7 then
 (some (.inr (.inr (false))))
 else
 (some (.inl (wr (x1+1))))))
 else
 (some (.inr (.inl ()))))
 else
 (some (.inr (.inl ())))
def eU (a0:Qv):Option Bool:=
 (Lp (gW a0) 0).bind λy9=>
 Sum.elim (λy10=>
 (kE a0.n 1 5).bind λv11=>
 bif v11 then
 (bif decide ((a0.src.length:Int)≤6) then
 (some (decide ((a0.tgt.length:Int)=(a0.src.length:Int))))
 else
 (some (false)))
 else
 (some (false))
 )
 (λy14=>
 some y14
 )
 y9
theorem mD (a0:Qv) (r:Bool) (h:eU a0=some r):HasC Try.prog 52 [.agg (eQ a0)] (.bl r):=by
 refine hM [.tmp 2] Try.func52 Try.ntmps52 k<|sR<|ae (wb k) k<|aT k2<|sQ<|sR<|aT k2<|aC<|oB h λy9 hy9 h=>dF (body:=(gW a0)) hy9 (λ(x1:Int)=>mN [(1,.ptr 0 0 0),(3,.int x1)] [(0,⟨3,[eQ a0]⟩)] 1) (λr e t=>Sum.elim (λa=>(λr e t=>e= .exit 0∧Ent t (mN [(1,.ptr 0 0 0)] [(0,⟨3,[eQ a0]⟩)] 1)) a e t) (λb=>(λr e t=>e= .ret∧sX TT [.tmp 2] (.bl r) .ret t) b e t) r) (cB (bX k2) (eE k<|aY) k4) ?_ ?_
 ·intro x1 o h;refine sQ<|sR<|am k k<|fp k8<|lp k8<|ln k4<|cm k4<|am k k<|xD h (λq1 h=>?_) λq1 h=>bD 9 k q1<|aK k4<|aK k4<|ak k k<|pk k3<|an<|tn<|nF k k<|bC<|aA<|aA<|sp h ⟨_,k,k,(cB (bX k2) (eE k<|aY) k4)⟩;exact bD 9 k q1<|am k k<|fp k8<|lp k8<|ln k4<|cm k4<|pk k3<|an<|tn<|fG k h (λ_ h=>aI<|tn<|sQ<|aC<|sQ<|aN kF<|fp k8<|lp k8<|am k k<|oB h λv3 hv3 h=>ae (xl hv3 k) k<|lr k7<|fp k8<|lp k8<|ae (iJ k k) k<|oB h λv4 hv4 h=>ae (bE (oD v3 0 (wr (a0.n - 1)) v4 hv4) k (iN k (iN k (iN k bF)))) k<|ae (kX k) k<|am k k<|xD h (λq5 h=>bD 28 k q5<|aK k4<|aK k4<|aK k4<|aK k4<|aK k4<|pk k3<|an<|qK (by kernel_rfl)<|tn<|aP (t:=mN [(1,.ptr 0 0 0),(3,.int x1),(39,.bl true)] [(0,⟨3,[eQ a0]⟩)] 1) (cB (bX k2) (eE k<|aY) k4)<|qP k k<|sR<|aT k2<|aO<|cS<|aU<|aU<|sp h ⟨_,k,k,eJ k k k (wM k)⟩) λq5 h=>bD 28 k q5<|fp k8<|lp k8<|am k k<|oB h λv6 hv6 h=>ae (xl hv6 k) k<|lr k7<|fp k8<|lp k8<|ae (iJ k k) k<|oB h λv7 hv7 h=>ae (bE (oD v6 0 (wr (a0.n - 1)) v7 hv7) k (iN k (iN k (iN k bF)))) k<|ae (kX k) k<|pk k3<|an<|qK (by kernel_rfl)<|tn<|aP (t:=mN [(1,.ptr 0 0 0),(3,.int x1),(39,.bl (!v7))] [(0,⟨3,[eQ a0]⟩)] 1) (cB (bX k2) (eE k<|aY) k4)<|fG k h (λ_ h=>sR<|aT k2<|aO<|cS<|aU<|aU<|sp h ⟨_,k,k,eJ k k k (wM k)⟩) λ_ h=>aI<|aV<|tn<|rg<|am k k<|ae (bO k k) k<|aT k2<|sp h ⟨_,k,(cB (bX k2) (eE k<|aY) k4)⟩) λ_ h=>bC<|aA<|aA<|sp h ⟨_,k,k,(cB (bX k2) (eE k<|aY) k4)⟩
 ·intro e t hX;rcases y9 with y10|y14
  ·obtain ⟨rfl,hent⟩:=hX;exact aM<|tn<|aP hent<|sR<|fp k8<|lp k8<|oB h λv11 hv11 h=>ae (bE (oD a0.n 1 5 v11 hv11) k (iN k (iN k (iN k bF)))) k<|am k k<|xD h (λq12 h=>bD 43 k q12<|fp k8<|lp k8<|ln k4<|cm k4<|pk k3<|am k k<|xD h (λq13 h=>bD 49 k q13<|fp k8<|lp k8<|ln k4<|fp k8<|lp k8<|ln k4<|cm k4<|pk k3<|aT k2<|aO<|rY h k2) λq13 h=>bD 49 k q13<|aK k4<|aK k4<|aK k4<|ak k k<|pk k3<|aT k2<|aO<|rY h k2) λq12 h=>bD 43 k q12<|aK k4<|aK k4<|pk k3<|am k k<|aK k4<|aK k4<|aK k4<|ak k k<|pk k3<|aT k2<|aO<|rY h k2
  ·obtain ⟨rfl,hent⟩:=hX;exact cS<|aU<|sp h hent
def bZ (a0:(List Int)) (a1:(Int→Option Bool)) (x1:Int):Option (Int ⊕ (Unit ⊕ Int)):=
 bif decide (x1<(a0.length:Int)) then
 ((cR a0 x1).bind λv2=>
 (a1 v2).bind λv3=>
 bif v3 then
 (some (.inr (.inr (x1))))
 else
 (some (.inl (wr (x1+1)))))
 else
 (some (.inr (.inl ())))
def cV (a0:(List Int)) (a1:(Int→Option Bool)):Option Int:=
 (Lp (bZ a0 a1) 0).bind λy5=>
 Sum.elim (λy6=>
 some ((-1))
 )
 (λy7=>
 some y7
 )
 y5
theorem mU (a0:(List Int)) (a1:(Int→Option Bool)) {f1:FuncId} {c1:List AV} (hc1:c1.all cK=true) (hf1: ∀ b0 r,a1 b0=some r→HasC Try.prog f1 ([.int b0]++c1) (.bl r)) (r:Int) (h:cV a0 a1=some r):HasC Try.prog 46 [.list 1 (a0.map eI),.fn f1 c1] (.int r):=by
 refine tZ aJ (rvs:=[.tmp 4]) (ns:=nmA) Try.func46 k k Try.ntmps46 k k (xP k (xP hc1 aGl))<|sR<|aT k2<|sQ<|sR<|am k k<|ln k4<|am k k<|an<|tn<|aC<|oB h λy5 hy5 h=>dF (body:=(bZ a0 a1)) hy5 (λ(x1:Int)=>mN [(0,.list 1 (a0.map eI)),(1,.fn f1 c1),(7,.int (a0.length:Int)),(8,.int x1)] [] 0) (λr e t=>Sum.elim (λa=>(λr e t=>e= .exit 0∧Ent t (mN [] [] 0)) a e t) (λb=>(λr e t=>e= .ret∧sX TT [.tmp 4] (.int r) .ret t) b e t) r) (cB (mM 1 k2 (kN ⟨_,k,⟨k,aAg _ hc1⟩⟩ (bX k2))) aY k4) ?_ ?_
 ·intro x1 o h;exact sR<|cm k4<|an<|tn<|sQ<|fG k h (λ_ h=>aI<|tn<|sQ<|aC<|sR<|am k k<|aT k2<|sR<|am k k<|am k k<|am k k<|oB h λv2 hv2 h=>ae (xl hv2 k) k<|lr k7<|oB h λv3 hv3 h=>ae (aEf hc1 (hf1 v2 v3 hv3) k k (iN k bF)) k<|an<|tn<|fG k h (λ_ h=>sR<|am k k<|aT k2<|aO<|cS<|aU<|aU<|sp h ⟨_,k,k,eJ k k k (aBf k)⟩) λ_ h=>aI<|aV<|tn<|rg<|ae (bO k k) k<|am k k<|an<|tn<|sp h ⟨_,k,(cB (mM 1 k2 (kN ⟨_,k,⟨k,aAg _ hc1⟩⟩ (bX k2))) aY k4)⟩) λ_ h=>bC<|aA<|aA<|sp h ⟨_,k,k,(cB aY aY k4)⟩
 ·intro e t hX;rcases y5 with y6|y7
  ·obtain ⟨rfl,hent⟩:=hX;exact aM<|tn<|aP hent<|sR<|aT k2<|aO<|xC h k2
  ·obtain ⟨rfl,hent⟩:=hX;exact cS<|aU<|sp h hent
def cA (a0:(List Int)) (a1:(Int→Option Bool)):Option Bool:=
 (cV a0 a1).bind λv1=>
 some (decide (0≤v1))
theorem gO (a0:(List Int)) (a1:(Int→Option Bool)) {f1:FuncId} {c1:List AV} (hc1:c1.all cK=true) (hf1: ∀ b0 r,a1 b0=some r→HasC Try.prog f1 ([.int b0]++c1) (.bl r)) (r:Bool) (h:cA a0 a1=some r):HasC Try.prog 31 [.list 1 (a0.map eI),.fn f1 c1] (.bl r):=by
 exact tZ aJ (rvs:=[.tmp 4]) (ns:=nmA) Try.func31 k k Try.ntmps31 k k (xP k (xP hc1 aGl))<|sR<|aT k2<|sR<|am k k<|am k k<|oB h λv1 hv1 h=>ae (bE (mU a0 a1 hc1 hf1 v1 hv1) k (iN k (bH (aIw hc1) bF))) k<|cm k4<|aT k2<|aO<|rY h k2
def fM (a0:Int) (a1:Int) (a2:Int):Option Bool:=
 (lJ a0 a1 a2).bind λv1=>
 some (!v1)
theorem tE (a0:Int) (a1:Int) (a2:Int) (r:Bool) (h:fM a0 a1 a2=some r):HasC Try.prog 74 [.int a0,.ref (eI a1),.ref (eI a2)] (.bl r):=by
 exact hM [.tmp 4] Try.func74 Try.ntmps74 k<|sR<|aT k2<|sR<|am k k<|lr k7<|lr k7<|oB h λv1 hv1 h=>ae (bE (sM a0 a1 a2 v1 hv1) k (iN k (iN k (iN k bF)))) k<|ae (kX k) k<|aT k2<|aO<|rY h k2
def gP (a0:(List Int)) (a1:Int) (a2:Int):Option Bool:=
 (cA a0 (λb0=>fM b0 a1 a2)).bind λv1=>
 some (!v1)
theorem pE (a0:(List Int)) (a1:Int) (a2:Int) (r:Bool) (h:gP a0 a1 a2=some r):HasC Try.prog 67 [.list 1 (a0.map eI),.int a1,.int a2] (.bl r):=by
 exact hM [.tmp 6] Try.func67 Try.ntmps67 k<|sR<|ae (wb k) k<|ae (wb k) k<|aT k2<|sR<|am k k<|ae (pN (vs:=[.ptr 0 0 0,.ptr 1 0 0]) k (by simp)) k<|oB h λv1 hv1 h=>ae (bE (gO a0 (λb0=>fM b0 a1 a2) k (λb0 r h=>tE b0 a1 a2 r h) v1 hv1) k (iN k (bH (aIa (uE (aDn k k (rQ (uB k) aBe)) (uE (aDn k k (rQ (uB k) aBe)) aEe))) bF))) k<|ae (kX k) k<|aT k2<|aO<|rY h k2
def jQ (a0:Qv):Option Bool:=
 (lJ a0.n 1 5).bind λv1=>
 bif v1 then
 (bif decide ((a0.src.length:Int)=(a0.tgt.length:Int)) then
 (bif decide ((a0.src.length:Int)≤6) then
 ((gP a0.src 0 (wr (a0.n - 1))).bind λv5=>
 bif v5 then
 ((gP a0.tgt 0 (wr (a0.n - 1))).bind λv7=>
 some (v7))
 else
 (some (false)))
 else
 (some (false)))
 else
 (some (false)))
 else
 (some (false))
theorem xE (a0:Qv) (r:Bool) (h:jQ a0=some r):HasC Try.prog 57 [.agg (eQ a0)] (.bl r):=by
 refine hM [.tmp 2] Try.func57 Try.ntmps57 k<|sR<|ae (wb k) k<|aT k2<|sR<|fp k8<|lp k8<|oB h λv1 hv1 h=>ae (bE (sM a0.n 1 5 v1 hv1) k (iN k (iN k (iN k bF)))) k<|am k k<|xD h (λq2 h=>bD 6 k q2<|fp k8<|lp k8<|ln k4<|fp k8<|lp k8<|ln k4<|cm k4<|pk k3<|am k k<|xD h (λq3 h=>bD 15 k q3<|fp k8<|lp k8<|ln k4<|cm k4<|pk k3<|am k k<|xD h (λq4 h=>bD 21 k q4<|fp k8<|lp k8<|fp k8<|lp k8<|ae (iJ k k) k<|oB h λv5 hv5 h=>ae (bE (pE a0.src 0 (wr (a0.n - 1)) v5 hv5) k (iN k (iN k (iN k bF)))) k<|pk k3<|am k k<|xD h (λq6 h=>bD 29 k q6<|fp k8<|lp k8<|fp k8<|lp k8<|ae (iJ k k) k<|oB h λv7 hv7 h=>ae (bE (pE a0.tgt 0 (wr (a0.n - 1)) v7 hv7) k (iN k (iN k (iN k bF)))) k<|pk k3<|aT k2<|aO<|rY h k2) λq6 h=>bD 29 k q6<|aK k4<|aK k4<|aK k4<|pk k3<|aT k2<|aO<|rY h k2) λq4 h=>bD 21 k q4<|aK k4<|aK k4<|aK k4<|pk k3<|am k k<|aK k4<|aK k4<|aK k4<|pk k3<|aT k2<|aO<|rY h k2) λq3 h=>bD 15 k q3<|aK k4<|aK k4<|pk k3<|am k k<|aK k4<|aK k4<|aK k4<|pk k3<|am k k<|aK k4<|aK k4<|aK k4<|pk k3<|aT k2<|aO<|rY h k2) λq2 h=>?_;refine bD 6 k q2<|aK k4<|aK k4<|aK k4<|ak k k<|pk k3<|am k k<|aK k4<|aK k4<|pk k3<|am k k<|aK k4<|aK k4<|aK k4<|pk k3<|am k k<|aK k4<|aK k4<|aK k4 ?_;exact pk k3<|aT k2<|aO<|rY h k2
def bR (a0:(List (List Int))) (x1:(Int×Int)):Option ((Int×Int) ⊕ Int):=
 bif decide (x1.2<(a0.length:Int)) then
 ((cR a0 x1.2).bind λv2=>
 bif decide (wr (x1.1+(v2.length:Int))<0) then
 (none)
 else
 (some (.inl (wr (x1.1+(v2.length:Int)),wr (x1.2+1)))))
 else
 (some (.inr x1.1))
def bS (a0:(List (List Int))) (x2:((List Int)×Int)):Option (((List Int)×Int) ⊕ (List Int)):=
 bif decide (x2.2<(a0.length:Int)) then
 ((cR a0 x2.2).bind λv7=>
 bif decide (x2.1.length+v7.length≤4294967296) then
 (some (.inl ((x2.1++v7),wr (x2.2+1))))
 else none)
 else
 (some (.inr x2.1))
def eN (a0:(List (List Int))):Option (List Int):=
 (Lp (bR a0) (0,0)).bind λy4=>
 (aDt y4).bind λv5=>
 (Lp (bS a0) (v5,0)).bind λy9=>
 some (y9)
theorem oN (a0:(List (List Int))) (r:(List Int)) (h:eN a0=some r):HasC Try.prog 70 [.list 1 (a0.map (bG 1 eI))] (.list 1 (r.map eI)):=by
 refine hM [.tmp 2] Try.func70 Try.ntmps70 k<|sR<|aT k2<|sR<|aT k2<|sQ<|sR<|am k k<|ln k4<|am k k<|an<|tn<|aC<|oB h λy4 hy4 h=>dF (body:=(bR a0)) hy4 (λ(x1:(Int×Int))=>mN [(0,.list 1 (a0.map (bG 1 eI))),(3,.int x1.1),(9,.list 1 (a0.map (bG 1 eI))),(10,.int (a0.length:Int)),(11,.int x1.2)] [] 0) (λr e t=>e= .exit 0∧Ent t (mN [(0,.list 1 (a0.map (bG 1 eI))),(3,.int r)] [] 0)) (cB (bX k2) aY k4) ?_ ?_
 ·intro x1 o h;refine sR<|cm k4<|an<|tn<|sQ<|fG k h (λ_ h=>?_) λ_ h=>bC<|aA<|aA<|sp h ⟨_,k,k,(cB (bX k2) aY k4)⟩;refine aI<|tn<|sQ<|aC<|sR<|oB h λv2 hv2 h=>ae (xl hv2 k) k<|lr k7<|aT k2<|sR<|am k k<|am k k<|ln k4<|ae (bO k k) k<|aT k2<|sR<|am k k<|cm k4<|an<|tn<|fG k h (λ_ h=>?_) λ_ h=>aI<|aV<|tn<|rg<|ae (bO k k) k<|am k k<|an<|tn<|sp h ⟨_,k,(cB (bX k2) aY k4)⟩;refine rg ?_;cases h
 ·rintro e t ⟨rfl,hent⟩;refine aM<|tn<|aP hent<|sR<|am k k<|oB h λv5 hv5 h=>ae (cL mK (aJA y4 v5 hv5) k3 (bH aHw (iN k bF))) k<|aT k2<|sQ<|sR<|am k k<|ln k4<|am k k<|an<|tn<|aC<|oB h λy9 hy9 h=>dF (body:=(bS a0)) hy9 (λ(x2:((List Int)×Int))=>mN [(6,.own 0 0 x2.1.length),(25,.list 1 (a0.map (bG 1 eI))),(26,.int (a0.length:Int)),(27,.int x2.2)] [(0,⟨1,x2.1.map (ow eI)⟩)] 1) (λr e t=>e= .exit 2∧Ent t (mN [(6,.own 0 0 r.length)] [(0,⟨1,r.map (ow eI)⟩)] 1)) (cB (bX k2) (kH k<|aY) k4) ?_ ?_
  ·intro x2 o h;exact sR<|cm k4<|an<|tn<|sQ<|fG k h (λ_ h=>aI<|tn<|sQ<|aC<|sR<|oB h λv7 hv7 h=>ae (xl hv7 k) k<|lr k7<|aT k2<|rg<|am k k<|am k k<|cG h λq8 h=>ae (oZ aJ (l:=x2.1) (m:=v7) nG q8 k k k k k k k k k k k k) k<|aa k k<|an<|aV<|tn<|rg<|ae (bO k k) k<|am k k<|an<|tn<|sp h ⟨_,k,(uP [1] (bX k2) (kH k<|aY) k4)⟩) λ_ h=>bC<|aA<|aA<|sp h ⟨_,k,k,(cB (bX k2) (kH k<|aY) k4)⟩
  ·rintro e t ⟨rfl,hent⟩;exact aM<|tn<|aP hent<|sR<|am k k<|aT k2<|aO<|sp h (eJ k k k (nZ (uD mK k k)))
def jR (a1:(List Int)) (a2:(List Int)) (x1:(Int×Int)):Option ((Int×Int) ⊕ Int):=
 bif decide (x1.2<(a1.length:Int)) then
 ((cR a1 x1.2).bind λv2=>
 (cR a2 x1.2).bind λv3=>
 some (.inl (wr (x1.1+(wr (v2*v3))),wr (x1.2+1))))
 else
 (some (.inr x1.1))
def jS (a0:Qv) (a1:(List Int)) (a2:(List Int)) (x2:(Int×Int)):Option ((Int×Int) ⊕ Int):=
 bif decide (x2.2<(a0.src.length:Int)) then
 ((cR a0.src x2.2).bind λv6=>
 (cR a1 v6).bind λv7=>
 (cR a0.tgt x2.2).bind λv8=>
 (cR a2 v8).bind λv9=>
 some (.inl (wr (x2.1 - (wr (v7*v9))),wr (x2.2+1))))
 else
 (some (.inr x2.1))
def gX (a0:Qv) (a1:(List Int)) (a2:(List Int)):Option Int:=
 (Lp (jR a1 a2) (0,0)).bind λy4=>
 (Lp (jS a0 a1 a2) (y4,0)).bind λy10=>
 some (y10)
theorem pW (a0:Qv) (a1:(List Int)) (a2:(List Int)) (r:Int) (h:gX a0 a1 a2=some r):HasC Try.prog 30 [.agg (eQ a0),.list 1 (a1.map eI),.list 1 (a2.map eI)] (.int r):=by
 refine hM [.tmp 6] Try.func30 Try.ntmps30 k<|sR<|ae (wb k) k<|aT k2<|sR<|aT k2<|sQ<|sR<|am k k<|ln k4<|am k k<|an<|tn<|aC<|oB h λy4 hy4 h=>dF (body:=(jR a1 a2)) hy4 (λ(x1:(Int×Int))=>mN [(1,.list 1 (a1.map eI)),(2,.list 1 (a2.map eI)),(3,.ptr 0 0 0),(7,.int x1.1),(12,.list 1 (a1.map eI)),(13,.int (a1.length:Int)),(14,.int x1.2)] [(0,⟨3,[eQ a0]⟩)] 1) (λr e t=>e= .exit 0∧Ent t (mN [(1,.list 1 (a1.map eI)),(2,.list 1 (a2.map eI)),(3,.ptr 0 0 0),(7,.int r)] [(0,⟨3,[eQ a0]⟩)] 1)) (cB (bX k2) (eE k<|aY) k4) ?_ ?_
 ·intro x1 o h;refine sR<|cm k4<|an<|tn<|sQ<|fG k h (λ_ h=>?_) λ_ h=>bC<|aA<|aA<|sp h ⟨_,k,k,(cB (bX k2) (eE k<|aY) k4)⟩;refine aI<|tn<|sQ<|aC<|sR<|am k k<|oB h λv2 hv2 h=>ae (xl hv2 k) k<|lr k7<|aa k k<|aT k2<|rg<|am k k<|am k k<|am k k<|am k k<|oB h λv3 hv3 h=>ae (xl hv3 k) k<|lr k7<|ae (qR k k) k<|ae (bO k k) k<|aa k k<|an<|aV<|tn<|rg<|ae (bO k k) k<|am k k ?_;exact an<|tn<|sp h ⟨_,k,(cB (bX k2) (eE k<|aY) k4)⟩
 ·rintro e t ⟨rfl,hent⟩;refine aM<|tn<|aP hent<|sQ<|sR<|fp k8<|lp k8<|ln k4<|am k k<|an<|tn<|aC<|oB h λy10 hy10 h=>dF (body:=(jS a0 a1 a2)) hy10 (λ(x2:(Int×Int))=>mN [(1,.list 1 (a1.map eI)),(2,.list 1 (a2.map eI)),(3,.ptr 0 0 0),(7,.int x2.1),(29,.list 1 (a0.src.map eI)),(30,.int (a0.src.length:Int)),(31,.int x2.2)] [(0,⟨3,[eQ a0]⟩)] 1) (λr e t=>e= .exit 2∧Ent t (mN [(7,.int r)] [] 0)) (cB (bX k2) (eE k<|aY) k4) ?_ ?_
  ·intro x2 o h;refine sR<|cm k4<|an<|tn<|sQ<|fG k h (λ_ h=>?_) λ_ h=>bC<|aA<|aA<|sp h ⟨_,k,k,(cB (bX k2) aY k4)⟩;refine aI<|tn<|sQ<|aC<|sR<|am k k<|oB h λv6 hv6 h=>ae (xl hv6 k) k<|lr k7<|aa k k<|aT k2<|aN kF<|am k k<|am k k<|am k k<|oB h λv7 hv7 h=>ae (xl hv7 k) k<|lr k7<|am k k<|fp k8<|lp k8<|am k k<|oB h λv8 hv8 h=>ae (xl hv8 k) k<|lr k7<|oB h λv9 hv9 h=>ae (xl hv9 k) k<|lr k7<|ae (qR k k) k<|ae (iJ k k) k ?_;exact aa k k<|an<|qK (by kernel_rfl)<|aV<|tn<|rg<|ae (bO k k) k<|am k k<|an<|tn<|sp h ⟨_,k,(cB (bX k2) (eE k<|aY) k4)⟩
  ·rintro e t ⟨rfl,hent⟩;exact aM<|tn<|aP hent<|sR<|am k k<|aT k2<|aO<|xC h k2
def iQ (a0:(List (List Int))) (a1:(List Int)) (x1:Int):Option (Int ⊕ (Unit ⊕ Bool)):=
 bif decide (x1<(a0.length:Int)) then
 ((cR a0 x1).bind λv2=>
 (oM v2 a1).bind λv3=>
 bif v3 then
 (some (.inr (.inr (true))))
 else
 (some (.inl (wr (x1+1)))))
 else
 (some (.inr (.inl ())))
def jI (a0:(List (List Int))) (a1:(List Int)):Option Bool:=
 (Lp (iQ a0 a1) 0).bind λy5=>
 Sum.elim (λy6=>
 some (false)
 )
 (λy7=>
 some y7
 )
 y5
theorem aAJ (a0:(List (List Int))) (a1:(List Int)) (r:Bool) (h:jI a0 a1=some r):HasC Try.prog 40 [.list 1 (a0.map (bG 1 eI)),.list 1 (a1.map eI)] (.bl r):=by
 refine hM [.tmp 4] Try.func40 Try.ntmps40 k<|sR<|aT k2<|sQ<|sR<|aT k2<|aC<|oB h λy5 hy5 h=>dF (body:=(iQ a0 a1)) hy5 (λ(x1:Int)=>mN [(0,.list 1 (a0.map (bG 1 eI))),(1,.list 1 (a1.map eI)),(5,.int x1)] [] 0) (λr e t=>Sum.elim (λa=>(λr e t=>e= .exit 0∧Ent t (mN [] [] 0)) a e t) (λb=>(λr e t=>e= .ret∧sX TT [.tmp 4] (.bl r) .ret t) b e t) r) (cB (bX k2) aY k4) ?_ ?_
 ·intro x1 o h;exact sQ<|sR<|am k k<|am k k<|ln k4<|cm k4<|an<|tn<|fG k h (λ_ h=>aI<|tn<|sQ<|aC<|sR<|am k k<|am k k<|oB h λv2 hv2 h=>ae (xl hv2 k) k<|lr k7<|am k k<|oB h λv3 hv3 h=>ae (bE (aAI v2 a1 v3 hv3) k (iN k (iN k bF))) k<|an<|tn<|fG k h (λ_ h=>sR<|aT k2<|aO<|cS<|aU<|aU<|sp h ⟨_,k,k,eJ k k k (wM k)⟩) λ_ h=>aI<|aV<|tn<|rg<|am k k<|ae (bO k k) k<|aT k2<|sp h ⟨_,k,(cB (bX k2) aY k4)⟩) λ_ h=>bC<|aA<|aA<|sp h ⟨_,k,k,(cB aY aY k4)⟩
 ·intro e t hX;rcases y5 with y6|y7
  ·obtain ⟨rfl,hent⟩:=hX;exact aM<|tn<|aP hent<|sR<|aT k2<|aO<|rY h k2
  ·obtain ⟨rfl,hent⟩:=hX;exact cS<|aU<|sp h hent
def gE (a1:(List Int)) (x1:Int):Option (Int ⊕ (Unit ⊕ Bool)):=
 bif decide (x1<(a1.length:Int)) then
 ((cR a1 x1).bind λv2=>
 (kE v2 (-100) 100).bind λv3=>
 bif !v3 then
 (some (.inr (.inr (false))))
 else
 (some (.inl (wr (x1+1)))))
 else
 (some (.inr (.inl ())))
def gQ (a0:Qv) (a1:(List Int)):Option Bool:=
 (Lp (gE a1) 0).bind λy5=>
 Sum.elim (λy6=>
 (eU a0).bind λv7=>
 bif v7 then
 (some (decide ((a1.length:Int)=a0.n)))
 else
 (some (false))
 )
 (λy9=>
 some y9
 )
 y5
theorem pF (a0:Qv) (a1:(List Int)) (r:Bool) (h:gQ a0 a1=some r):HasC Try.prog 56 [.agg (eQ a0),.list 1 (a1.map eI)] (.bl r):=by
 refine hM [.tmp 4] Try.func56 Try.ntmps56 k<|sR<|ae (wb k) k<|aT k2<|sQ<|sR<|aT k2<|aC<|oB h λy5 hy5 h=>dF (body:=(gE a1)) hy5 (λ(x1:Int)=>mN [(1,.list 1 (a1.map eI)),(2,.ptr 0 0 0),(5,.int x1)] [(0,⟨3,[eQ a0]⟩)] 1) (λr e t=>Sum.elim (λa=>(λr e t=>e= .exit 0∧Ent t (mN [(1,.list 1 (a1.map eI)),(2,.ptr 0 0 0)] [(0,⟨3,[eQ a0]⟩)] 1)) a e t) (λb=>(λr e t=>e= .ret∧sX TT [.tmp 4] (.bl r) .ret t) b e t) r) (cB (bX k2) (eE k<|aY) k4) ?_ ?_
 ·intro x1 o h;exact sQ<|sR<|am k k<|am k k<|ln k4<|cm k4<|an<|tn<|fG k h (λ_ h=>aI<|tn<|sQ<|aC<|sR<|am k k<|am k k<|oB h λv2 hv2 h=>ae (xl hv2 k) k<|lr k7<|oB h λv3 hv3 h=>ae (bE (oD v2 (-100) 100 v3 hv3) k (iN k (iN k (iN k bF)))) k<|ae (kX k) k<|an<|tn<|fG k h (λ_ h=>sR<|aT k2<|aO<|cS<|aU<|aU<|sp h ⟨_,k,k,eJ k k k (wM k)⟩) λ_ h=>aI<|aV<|tn<|rg<|am k k<|ae (bO k k) k<|aT k2<|sp h ⟨_,k,(cB (bX k2) (eE k<|aY) k4)⟩) λ_ h=>bC<|aA<|aA<|sp h ⟨_,k,k,(cB (bX k2) (eE k<|aY) k4)⟩
 ·intro e t hX;rcases y5 with y6|y9
  ·obtain ⟨rfl,hent⟩:=hX;exact aM<|tn<|aP hent<|sR<|lp k8<|oB h λv7 hv7 h=>ae (bE (mD a0 v7 hv7) k (bH (wR k) bF)) k<|am k k<|xD h (λq8 h=>bD 20 k q8<|am k k<|ln k4<|fp k8<|lp k8<|cm k4<|pk k3<|aT k2<|aO<|rY h k2) λq8 h=>bD 20 k q8<|aK k4<|aK k4<|ak k k<|pk k3<|aT k2<|aO<|rY h k2
  ·obtain ⟨rfl,hent⟩:=hX;exact cS<|aU<|sp h hent
def gF (a0:Qv) (a1:(List Int)) (a2:(List Int)) (x1:(Int×Int)):Option ((Int×Int) ⊕ Int):=
 bif decide (x1.2<a0.n) then
 ((cR a1 x1.2).bind λv6=>
 (cR a2 x1.2).bind λv7=>
 some (.inl (wr (x1.1+(wr (v6*v7))),wr (x1.2+1))))
 else
 (some (.inr x1.1))
def gG (a0:Qv) (a1:(List Int)) (a2:(List Int)) (x2:(Int×Int)):Option ((Int×Int) ⊕ Int):=
 bif decide (x2.2<(a0.src.length:Int)) then
 ((cR a0.src x2.2).bind λv10=>
 (cR a1 v10).bind λv11=>
 (cR a0.tgt x2.2).bind λv12=>
 (cR a2 v12).bind λv13=>
 some (.inl (wr (x2.1 - (wr (v11*v13))),wr (x2.2+1))))
 else
 (some (.inr x2.1))
def cU (a0:Qv) (a1:(List Int)) (a2:(List Int)):Option Int:=
 (gQ a0 a1).bind λv1=>
 bif !v1 then
 (some (0))
 else
 ((gQ a0 a2).bind λv3=>
 bif !v3 then
 (some (0))
 else
 ((Lp (gF a0 a1 a2) (0,0)).bind λy8=>
 (Lp (gG a0 a1 a2) (y8,0)).bind λy14=>
 some (y14)))
theorem gR (a0:Qv) (a1:(List Int)) (a2:(List Int)) (r:Int) (h:cU a0 a1 a2=some r):HasC Try.prog 43 [.agg (eQ a0),.list 1 (a1.map eI),.list 1 (a2.map eI)] (.int r):=by
 refine hM [.tmp 6] Try.func43 Try.ntmps43 k<|sR<|ae (wb k) k<|aT k2<|sQ<|sR<|lp k8<|am k k<|oB h λv1 hv1 h=>ae (bE (pF a0 a1 v1 hv1) k (bH (wR k) (iN k bF))) k<|ae (kX k) k<|am k k<|xD h (λq2 h=>bD 14 k q2<|aK k4<|aK k4<|pk k3<|an<|tn<|qP k k<|sR<|aT k2<|aO<|aU<|xC h k2) λq2 h=>?_;refine bD 14 k q2<|lp k8<|am k k<|oB h λv3 hv3 h=>ae (bE (pF a0 a2 v3 hv3) k (bH (wR k) (iN k bF))) k<|ae (kX k) k<|pk k3<|an<|tn<|fG k h (λ_ h=>sR<|aT k2<|aO<|aU<|xC h k2) λ_ h=>?_;refine aI<|tn<|sR<|aT k2<|sQ<|sR<|aT k2<|aC<|oB h λy8 hy8 h=>dF (body:=(gF a0 a1 a2)) hy8 (λ(x1:(Int×Int))=>mN [(1,.list 1 (a1.map eI)),(2,.list 1 (a2.map eI)),(3,.ptr 0 0 0),(7,.int x1.1),(8,.int x1.2)] [(0,⟨3,[eQ a0]⟩)] 1) (λr e t=>e= .exit 0∧Ent t (mN [(1,.list 1 (a1.map eI)),(2,.list 1 (a2.map eI)),(3,.ptr 0 0 0),(7,.int r)] [(0,⟨3,[eQ a0]⟩)] 1)) (cB (bX k2) (eE k<|aY) k4) ?_ ?_
 ·intro x1 o h;exact sQ<|sR<|am k k<|fp k8<|lp k8<|cm k4<|an<|tn<|fG k h (λ_ h=>aI<|tn<|sQ<|aC<|aN kF<|am k k<|am k k<|am k k<|oB h λv6 hv6 h=>ae (xl hv6 k) k<|lr k7<|am k k<|am k k<|oB h λv7 hv7 h=>ae (xl hv7 k) k<|lr k7<|ae (qR k k) k<|ae (bO k k) k<|aa k k<|an<|qK (by kernel_rfl)<|aV<|tn<|rg<|am k k<|ae (bO k k) k<|aT k2<|sp h ⟨_,k,(cB (bX k2) (eE k<|aY) k4)⟩) λ_ h=>bC<|aA<|aA<|sp h ⟨_,k,k,(cB (bX k2) (eE k<|aY) k4)⟩
 ·rintro e t ⟨rfl,hent⟩;refine aM<|tn<|aP hent<|sQ<|sR<|aT k2<|aC<|oB h λy14 hy14 h=>dF (body:=(gG a0 a1 a2)) hy14 (λ(x2:(Int×Int))=>mN [(1,.list 1 (a1.map eI)),(2,.list 1 (a2.map eI)),(3,.ptr 0 0 0),(7,.int x2.1),(9,.int x2.2)] [(0,⟨3,[eQ a0]⟩)] 1) (λr e t=>e= .exit 2∧Ent t (mN [(7,.int r)] [] 0)) (cB (bX k2) (eE k<|aY) k4) ?_ ?_
  ·intro x2 o h;refine sQ<|sR<|am k k<|fp k8<|lp k8<|ln k4<|cm k4<|an<|tn<|fG k h (λ_ h=>?_) λ_ h=>bC<|aA<|aA<|sp h ⟨_,k,k,(cB (bX k2) aY k4)⟩;refine aI<|tn<|sQ<|aC<|aN kF<|am k k<|am k k<|fp k8<|lp k8<|am k k<|oB h λv10 hv10 h=>ae (xl hv10 k) k<|lr k7<|oB h λv11 hv11 h=>ae (xl hv11 k) k<|lr k7<|am k k<|fp k8<|lp k8<|am k k<|oB h λv12 hv12 h=>ae (xl hv12 k) k<|lr k7<|oB h λv13 hv13 h=>ae (xl hv13 k) k<|lr k7<|ae (qR k k) k<|ae (iJ k k) k<|aa k k<|an<|qK (by kernel_rfl)<|aV<|tn ?_;exact aP (t:=mN [(1,.list 1 (a1.map eI)),(2,.list 1 (a2.map eI)),(3,.ptr 0 0 0),(7,.int (wr (x2.1 - (wr (v11*v13))))),(9,.int x2.2)] [(0,⟨3,[eQ a0]⟩)] 1) (cB (bX k2) (eE k<|aY) k4)<|rg<|am k k<|ae (bO k k) k<|aT k2<|sp h ⟨_,k,(cB (bX k2) (eE k<|aY) k4)⟩
  ·rintro e t ⟨rfl,hent⟩;exact aM<|tn<|aP hent<|sR<|am k k<|aT k2<|aO<|xC h k2
def mE (a0:Qv) (a1:(List Int)):Option Int:=
 (cU a0 a1 a1).bind λv1=>
 some (v1)
theorem xF (a0:Qv) (a1:(List Int)) (r:Int) (h:mE a0 a1=some r):HasC Try.prog 41 [.agg (eQ a0),.list 1 (a1.map eI)] (.int r):=by
 exact hM [.tmp 4] Try.func41 Try.ntmps41 k<|sR<|ae (wb k) k<|aT k2<|sR<|lp k8<|am k k<|am k k<|oB h λv1 hv1 h=>ae (bE (gR a0 a1 a1 v1 hv1) k (bH (wR k) (iN k (iN k bF)))) k<|aT k2<|aO<|xC h k2
def iD (a0:(List Int)) (a1:(List Int)) (x1:(Int×Int×Int)):Option ((Int×Int×Int) ⊕ (Int×Int)):=
 bif decide (x1.2.2<(a0.length:Int)) then
 ((cR a0 x1.2.2).bind λv2=>
 (cR a1 x1.2.2).bind λv3=>
 some (.inl (wr (x1.1+v2),wr (x1.2.1+v3),wr (x1.2.2+1))))
 else
 (some (.inr (x1.1,x1.2.1)))
def dW (a0:(List Int)) (a1:(List Int)) (x2:Int):Option (Int ⊕ (Unit ⊕ Bool)):=
 bif decide (x2<(a0.length:Int)) then
 ((cR a0 x2).bind λv7=>
 (cR a1 x2).bind λv8=>
 bif !decide (v7=v8) then
 ((cR a0 x2).bind λv10=>
 (cR a1 x2).bind λv11=>
 some (.inr (.inr (decide (v10<v11)))))
 else
 (some (.inl (wr (x2+1)))))
 else
 (some (.inr (.inl ())))
def kP (a0:(List Int)) (a1:(List Int)):Option Bool:=
 (Lp (iD a0 a1) (0,0,0)).bind λy4=>
 bif !decide (y4.1=y4.2) then
 (some (decide (y4.1<y4.2)))
 else
 ((Lp (dW a0 a1) 0).bind λy12=>
 Sum.elim (λy13=>
 some (false)
 )
 (λy14=>
 some y14
 )
 y12)
theorem zD (a0:(List Int)) (a1:(List Int)) (r:Bool) (h:kP a0 a1=some r):HasC Try.prog 42 [.list 1 (a0.map eI),.list 1 (a1.map eI)] (.bl r):=by
 refine hM [.tmp 4] Try.func42 Try.ntmps42 k<|sR<|aT k2<|sR<|aT k2<|sR<|aT k2<|sQ<|sR<|aT k2<|aC<|oB h λy4 hy4 h=>dF (body:=(iD a0 a1)) hy4 (λ(x1:(Int×Int×Int))=>mN [(0,.list 1 (a0.map eI)),(1,.list 1 (a1.map eI)),(5,.int x1.1),(6,.int x1.2.1),(7,.int x1.2.2)] [] 0) (λr e t=>e= .exit 0∧Ent t (mN [(0,.list 1 (a0.map eI)),(1,.list 1 (a1.map eI)),(5,.int r.1),(6,.int r.2)] [] 0)) (cB (bX k2) aY k4) ?_ ?_
 ·intro x1 o h;refine sQ<|sR<|am k k<|am k k<|ln k4<|cm k4<|an<|tn<|fG k h (λ_ h=>?_) λ_ h=>bC<|aA<|aA<|sp h ⟨_,k,k,(cB (bX k2) aY k4)⟩;refine aI<|tn<|sQ<|aC<|sR<|am k k<|am k k<|am k k<|oB h λv2 hv2 h=>ae (xl hv2 k) k<|lr k7<|ae (bO k k) k<|aT k2<|rg<|am k k<|am k k<|am k k<|oB h λv3 hv3 h=>ae (xl hv3 k) k<|lr k7<|ae (bO k k) k<|aa k k<|an<|aV<|tn<|rg<|am k k<|ae (bO k k) k ?_;exact aT k2<|sp h ⟨_,k,(cB (bX k2) aY k4)⟩
 ·rintro e t ⟨rfl,hent⟩;refine aM<|tn<|aP hent<|sQ<|sR<|am k k<|am k k<|cm k4<|an<|tn<|fG k h (λ_ h=>sR<|am k k<|am k k<|cm k4<|aT k2<|aO<|aU<|rY h k2) λ_ h=>?_;refine aI<|tn<|sQ<|sR<|aT k2<|aC<|oB h λy12 hy12 h=>dF (body:=(dW a0 a1)) hy12 (λ(x2:Int)=>mN [(0,.list 1 (a0.map eI)),(1,.list 1 (a1.map eI)),(8,.int x2)] [] 0) (λr e t=>Sum.elim (λa=>(λr e t=>e= .exit 2∧Ent t (mN [] [] 0)) a e t) (λb=>(λr e t=>e= .ret∧sX TT [.tmp 4] (.bl r) .ret t) b e t) r) (cB (bX k2) aY k4) ?_ ?_
  ·intro x2 o h;exact sQ<|sR<|am k k<|am k k<|ln k4<|cm k4<|an<|tn<|fG k h (λ_ h=>aI<|tn<|sQ<|aC<|sQ<|aN kF<|am k k<|am k k<|oB h λv7 hv7 h=>ae (xl hv7 k) k<|lr k7<|am k k<|am k k<|oB h λv8 hv8 h=>ae (xl hv8 k) k<|lr k7<|cm k4<|an<|qK (by kernel_rfl)<|tn<|fG k h (λ_ h=>sQ<|aN kF<|am k k<|am k k<|oB h λv10 hv10 h=>ae (xl hv10 k) k<|lr k7<|am k k<|am k k<|oB h λv11 hv11 h=>ae (xl hv11 k) k<|lr k7<|cm k4<|aa k k<|an<|qK (by kernel_rfl)<|tn<|aO<|cS<|aU<|aU<|sp h ⟨_,k,k,eJ k k k (wM k)⟩) λ_ h=>aI<|aV<|tn<|rg<|am k k<|ae (bO k k) k<|aT k2<|sp h ⟨_,k,(cB (bX k2) aY k4)⟩) λ_ h=>bC<|aA<|aA<|sp h ⟨_,k,k,(cB aY aY k4)⟩
  ·intro e t hX;rcases y12 with y13|y14
   ·obtain ⟨rfl,hent⟩:=hX;exact aM<|tn<|aP hent<|sR<|aT k2<|aO<|rY h k2
   ·obtain ⟨rfl,hent⟩:=hX;exact cS<|aU<|sp h hent
def fW (a0:(List (List Int))) (a1:(List Int)) (a2:Int) (x1:(Int×Int)):Option ((Int×Int) ⊕ Int):=
 bif decide (x1.2<(a1.length:Int)) then
 ((cR a0 a2).bind λv3=>
 (cR v3 x1.2).bind λv4=>
 (cR a1 x1.2).bind λv5=>
 some (.inl (wr (x1.1+(wr (v4*v5))),wr (x1.2+1))))
 else
 (some (.inr x1.1))
def iE (a0:(List (List Int))) (a1:(List Int)) (a2:Int):Option (List Int):=
 bif decide (([]:(List Int)).length +a1.length≤4294967296) then
 ((Lp (fW a0 a1 a2) (0,0)).bind λy6=>
 (cR (([]:(List Int))++a1) a2).bind λv7=>
 (cR (([]:(List Int))++a1) a2).bind λv8=>
 some (((([]:(List Int))++a1).set a2.toNat (wr (v7 - y6)))))
 else none
theorem uS (a0:(List (List Int))) (a1:(List Int)) (a2:Int) (r:(List Int)) (h:iE a0 a1 a2=some r):HasC Try.prog 39 [.list 1 (a0.map (bG 1 eI)),.list 1 (a1.map eI),.int a2] (.list 1 (r.map eI)):=by
 refine hM [.tmp 6] Try.func39 Try.ntmps39 k<|sR<|aT k2<|sR<|ae (wl k) k<|am k k<|cG h λq1 h=>ae (oZ aJ (l:=([]:(List Int))) (m:=a1) nG q1 k k k k k k k k k k k k) k<|aT k2<|sR<|aT k2<|sQ<|sR<|aT k2<|aC<|oB h λy6 hy6 h=>dF (body:=(fW a0 a1 a2)) hy6 (λ(x1:(Int×Int))=>mN [(0,.list 1 (a0.map (bG 1 eI))),(1,.list 1 (a1.map eI)),(2,.int a2),(7,.own 0 0 ((([]:(List Int))++a1).length)),(8,.int x1.1),(9,.int x1.2)] [(0,⟨1,List.map (ow eI) (([]:(List Int))++a1)⟩)] 1) (λr e t=>e= .exit 0∧Ent t (mN [(2,.int a2),(7,.own 0 0 ((([]:(List Int))++a1).length)),(8,.int r)] [(0,⟨1,List.map (ow eI) (([]:(List Int))++a1)⟩)] 1)) (uP [1] (bX k2) (kH k<|aY) k4) ?_ ?_
 ·intro x1 o h;refine sQ<|sR<|am k k<|am k k<|ln k4<|cm k4<|an<|tn<|fG k h (λ_ h=>?_) λ_ h=>bC<|aA<|aA<|sp h ⟨_,k,k,(cB (bX k2) (kH k<|aY) k4)⟩;refine aI<|tn<|sQ<|aC<|aN kF<|am k k<|am k k<|am k k<|oB h λv3 hv3 h=>ae (xl hv3 k) k<|lr k7<|am k k<|oB h λv4 hv4 h=>ae (xl hv4 k) k<|lr k7<|am k k<|am k k<|oB h λv5 hv5 h=>ae (xl hv5 k) k<|lr k7<|ae (qR k k) k<|ae (bO k k) k<|aa k k<|an<|qK (by kernel_rfl)<|aV<|tn<|rg<|am k k<|ae (bO k k) k<|aa k k<|an ?_;exact tn<|sp h ⟨_,k,(cB (bX k2) (kH k<|aY) k4)⟩
 ·rintro e t ⟨rfl,hent⟩;exact aM<|tn<|aP hent<|sR<|am k k<|am k k<|am k k<|am k k<|oB h λv7 hv7 h=>ae (xo hv7 k) k<|ae (wp hv7 k) k<|am k k<|ae (iJ k k) k<|oB h λv8 hv8 h=>ae (xo hv8 k) k<|ae (iC aJ nG (u:=wr (v7 - y6)) (dU hv8) k k k k k k) k<|an<|tn<|sR<|am k k<|aT k2<|aO<|sp h (eJ k k k (nZ (uD mK k (by first|rfl|simp only [List.length_set]))))
def eG (a0:(List (List Int))) (x1:(Int×Int×Int)) (x2:((List (List Int))×Int)):Option (((List (List Int))×Int) ⊕ (List (List Int))):=
 bif decide (x2.2<(((a0.drop (1:Int).toNat).take ((a0.length:Int).toNat - (1:Int).toNat)).length:Int)) then
 ((cR ((a0.drop (1:Int).toNat).take ((a0.length:Int).toNat - (1:Int).toNat)) x2.2).bind λv7=>
 bif (decide (0≤0)&&(decide (0≤x1.2.2)&&decide (x1.2.2≤(v7.length:Int)))) then
 (bif (decide (0≤wr (x1.2.2+1))&&(decide (wr (x1.2.2+1)≤(v7.length:Int))&&decide ((v7.length:Int)≤(v7.length:Int)))) then
 ((eN [((v7.drop (0:Int).toNat).take (x1.2.2.toNat - (0:Int).toNat)),((v7.drop (wr (x1.2.2+1)).toNat).take ((v7.length:Int).toNat - (wr (x1.2.2+1)).toNat))]).bind λv10=>
 bif decide (x2.1.length+1≤4294967296) then
 (some (.inl ((x2.1++[v10]),wr (x2.2+1))))
 else none)
 else none)
 else none)
 else
 (some (.inr x2.1))
def fT (self:((List (List Int))→Option Int)) (a0:(List (List Int))) (v2:(List Int)) (x1:(Int×Int×Int)):Option ((Int×Int×Int) ⊕ Int):=
 bif decide (x1.2.2<(v2.length:Int)) then
 ((cR v2 x1.2.2).bind λv4=>
 bif (decide (0≤1)&&(decide (1≤(a0.length:Int))&&decide ((a0.length:Int)≤(a0.length:Int)))) then
 ((Lp (eG a0 x1) ([],0)).bind λy12=>
 (self y12).bind λv13=>
 some (.inl (wr (x1.1+(wr ((wr (x1.2.1*v4))*v13))),wr (-x1.2.1),wr (x1.2.2+1))))
 else none)
 else
 (some (.inr x1.1))
def fX (self:(List (List Int))→Option Int) (a0:(List (List Int))):Option Int:=
 bif decide ((a0.length:Int)=0) then
 (some (1))
 else
 ((cR a0 0).bind λv2=>
 (Lp (fT self a0 v2) (0,1,0)).bind λy14=>
 some (y14))
def eK:Nat→(List (List Int))→Option Int
 |0,_=>none
 |n+1,a0=>fX (eK n) a0
theorem qV (self:(List (List Int))→Option Int) (a0:(List (List Int))) (ih: ∀ (a0:(List (List Int))) (r:Int),self a0=some r→HasC Try.prog 59 [.list 1 (a0.map (bG 1 eI))] (.int r)) (r:Int) (h:fX self a0=some r):HasC Try.prog 59 [.list 1 (a0.map (bG 1 eI))] (.int r):=by
 refine hM [.tmp 2] Try.func59 Try.ntmps59 k<|sR<|aT k2<|sQ<|sR<|am k k<|ln k4<|cm k4<|an<|tn<|fG k h (λ_ h=>sR<|aT k2<|aO<|aU<|xC h k2) λ_ h=>?_;refine aI<|tn<|sR<|aa k k<|aT k2<|sQ<|sR<|am k k<|oB h λv2 hv2 h=>ae (xl hv2 k) k<|lr k7<|ln k4<|am k k<|an<|tn<|aC<|oB h λy14 hy14 h=>dF (body:=(fT self a0 v2)) hy14 (λ(x1:(Int×Int×Int))=>mN [(0,.list 1 (a0.map (bG 1 eI))),(3,.int x1.1),(4,.int x1.2.1),(15,.list 1 (v2.map eI)),(16,.int (v2.length:Int)),(17,.int x1.2.2)] [] 0) (λr e t=>e= .exit 0∧Ent t (mN [(3,.int r)] [] 0)) (cB (bX k2) aY k4) ?_ ?_
 ·intro x1 o h;refine sR<|cm k4<|an<|tn<|sQ<|fG k h (λ_ h=>?_) λ_ h=>bC<|aA<|aA<|sp h ⟨_,k,k,(cB (bX k2) aY k4)⟩;refine aI<|tn<|sQ<|aC<|sR<|am k k<|oB h λv4 hv4 h=>ae (xl hv4 k) k<|lr k7<|aa k k<|aT k2<|sR<|aT k2<|sQ<|sR<|am k k<|cG h λq5 h=>ae (kM aJ (l0:=a0) (l:=1) (h:=(a0.length:Int)) q5 k k k k k k k) k<|ae (AEff.val (nE aJ k k k) (v':= .int (((a0.drop (1:Int).toNat).take ((a0.length:Int).toNat - (1:Int).toNat)).length:Int)) (by first|rw [aQ]|rw [encI_len])) k<|am k k<|an<|tn<|aC<|oB h λy12 hy12 h=>dF (body:=(eG a0 x1)) hy12 (λ(x2:((List (List Int))×Int))=>mN [(0,.list 1 (a0.map (bG 1 eI))),(3,.int x1.1),(4,.int x1.2.1),(5,.int x1.2.2),(6,.int v4),(7,.own 0 0 x2.1.length),(15,.list 1 (v2.map eI)),(16,.int (v2.length:Int)),(17,.int x1.2.2),(23,.list 1 (List.map (bG 1 eI) ((a0.drop (1:Int).toNat).take ((a0.length:Int).toNat - (1:Int).toNat)))),(24,.int (((a0.drop (1:Int).toNat).take ((a0.length:Int).toNat - (1:Int).toNat)).length:Int)),(25,.int x2.2)] [(0,⟨1,x2.1.map (ow (bG 1 eI))⟩)] 1) (λr e t=>e= .exit 2∧Ent t (mN [(0,.list 1 (a0.map (bG 1 eI))),(3,.int x1.1),(4,.int x1.2.1),(6,.int v4),(7,.own 0 0 r.length),(15,.list 1 (v2.map eI)),(16,.int (v2.length:Int)),(17,.int x1.2.2)] [(0,⟨1,r.map (ow (bG 1 eI))⟩)] 1)) (iA (σ:=sg []) (mM 5 k2 (kN ⟨_,k,⟨k,k,k,k⟩⟩ (bX k2))) (hX k k<|aY) k) ?_ ?_
  ·intro x2 o h;refine sR<|cm k4<|an<|tn<|sQ<|fG k h (λ_ h=>?_) λ_ h=>bC<|aA<|aA<|sp h ⟨_,k,k,(cB (bX k2) (cC (aH.plainO _) k<|aY) k4)⟩;refine aI<|tn<|sQ<|aC<|sR<|oB h λv7 hv7 h=>ae (xl hv7 k) k<|lr k7<|aT k2<|aN kF<|am k k<|am k k<|am k k<|cG h λq8 h=>ae (kM aJ (l0:=v7) (l:=0) (h:=x1.2.2) q8 k k k k k k k) k<|am k k<|am k k<|ae (bO k k) k<|cG h λq9 h=>ae (kM aJ (l0:=v7) (l:=wr (x1.2.2+1)) (h:=(v7.length:Int)) q9 k k k k k k k) k<|ae (wl k) k<|oB h λv10 hv10 h=>ae (cL mK (oN [((v7.drop (0:Int).toNat).take (x1.2.2.toNat - (0:Int).toNat)),((v7.drop (wr (x1.2.2+1)).toNat).take ((v7.length:Int).toNat - (wr (x1.2.2+1)).toNat))] v10 hv10) k3 (bH (aGW k k ⟨_,_,k,⟨_,_,k,⟨k,k⟩,k⟩,⟨_,_,k,⟨_,_,k,⟨k,k⟩,k⟩,k⟩⟩) bF)) k<|ae (wl k) k<|cG h λq11 h=>ae (oK aJ (l:=x2.1) (c:=[.own 2 0 v10.length]) q11 k k k k k k k k k k k k k k) k<|aa k k<|an<|qK (by kernel_rfl)<|aV<|tn ?_;exact aP (t:=mN [(0,.list 1 (a0.map (bG 1 eI))),(3,.int x1.1),(4,.int x1.2.1),(5,.int x1.2.2),(6,.int v4),(7,.own 4 0 ((x2.1++[v10]).length)),(15,.list 1 (v2.map eI)),(16,.int (v2.length:Int)),(17,.int x1.2.2),(23,.list 1 (List.map (bG 1 eI) ((a0.drop (1:Int).toNat).take ((a0.length:Int).toNat - (1:Int).toNat)))),(24,.int (((a0.drop (1:Int).toNat).take ((a0.length:Int).toNat - (1:Int).toNat)).length:Int)),(25,.int x2.2)] [(4,⟨1,List.map (ow (bG 1 eI)) (x2.1++[v10])⟩)] 5) (Ent.trans (kL (b:=4) (b':=2) (j:=0) (es':=v10.map eI) k k k k (aQ _ _) (mK.frzs _)) (cB (mM 5 k2 (kN ⟨_,k,⟨k,k,(by simp only [aQ,lA,lT,lR,lC,lN]),k⟩⟩ (bX k2))) (hX ⟨_,k,k,.inl ⟨pS v10 k,aH.plainO _⟩⟩ k<|aY) k4))<|rg<|ae (bO k k) k<|am k k<|an<|tn<|sp h ⟨_,k,(uP [4] (bX k2) (cC (aH.plainO _) k<|aY) k4)⟩
  ·rintro e t ⟨rfl,hent⟩;exact aM<|tn<|aP hent<|sR<|am k k<|am k k<|am k k<|ae (qR k k) k<|am k k<|oB h λv13 hv13 h=>ae (bE (ih y12 v13 hv13) k (bH (yR aH k k) bF)) k<|ae (qR k k) k<|ae (bO k k) k<|aT k2<|rg<|am k k<|ae (aIX k) k<|aa k k<|an<|aV<|tn<|rg<|ae (bO k k) k<|am k k<|an<|tn<|sp h ⟨_,k,(cB (bX k2) aY k4)⟩
 ·rintro e t ⟨rfl,hent⟩;exact aM<|tn<|aP hent<|sR<|am k k<|aT k2<|aO<|xC h k2
theorem nK: ∀ (n:Nat) (a0:(List (List Int))) (r:Int),eK n a0=some r→HasC Try.prog 59 [.list 1 (a0.map (bG 1 eI))] (.int r)
 |0,a0,r,h=>by cases h
 |n+1,a0,r,h=>qV (eK n) a0 (nK n) r h
def gS (a0:(List (List Int))) (x1:(Int×Int×Int)) (x2:((List (List Int))×Int)):Option (((List (List Int))×Int) ⊕ (List (List Int))):=
 bif decide (x2.2<(a0.length:Int)) then
 ((cR a0 x2.2).bind λv4=>
 bif (decide (0≤0)&&(decide (0≤x1.2.2)&&decide (x1.2.2≤(v4.length:Int)))) then
 (bif decide (([]:(List Int)).length +((v4.drop (0:Int).toNat).take (x1.2.2.toNat - (0:Int).toNat)).length ≤4294967296) then
 ((cR a0 x2.2).bind λv7=>
 bif (decide (0≤wr (x1.2.2+1))&&(decide (wr (x1.2.2+1)≤(v7.length:Int))&&decide ((v7.length:Int)≤(v7.length:Int)))) then
 (bif decide ((([]:(List Int))++((v4.drop (0:Int).toNat).take (x1.2.2.toNat - (0:Int).toNat))).length +((v7.drop (wr (x1.2.2+1)).toNat).take ((v7.length:Int).toNat - (wr (x1.2.2+1)).toNat)).length ≤4294967296) then
 (bif decide (x2.1.length+1≤4294967296) then
 (some (.inl ((x2.1++[((([]:(List Int))++((v4.drop (0:Int).toNat).take (x1.2.2.toNat - (0:Int).toNat)))++((v7.drop (wr (x1.2.2+1)).toNat).take ((v7.length:Int).toNat - (wr (x1.2.2+1)).toNat)))]),wr (x2.2+1))))
 else none)
 else none)
 else none)
 else none)
 else none)
 else
 (some (.inr x2.1))
def iR (self:((List (List Int))→Option Int)) (a0:(List (List Int))) (x1:(Int×Int×Int)):Option ((Int×Int×Int) ⊕ Int):=
 bif decide (x1.2.2<(a0.length:Int)) then
 ((Lp (gS a0 x1) (([]:(List (List Int))),1)).bind λy11=>
 (cR a0 0).bind λv12=>
 (cR v12 x1.2.2).bind λv13=>
 (self y11).bind λv14=>
 some (.inl (wr (x1.1+(wr ((wr (x1.2.1*v13))*v14))),wr (-x1.2.1),wr (x1.2.2+1))))
 else
 (some (.inr x1.1))
def jT (self:(List (List Int))→Option Int) (a0:(List (List Int))):Option Int:=
 bif decide ((a0.length:Int)=0) then
 (some (1))
 else
 ((Lp (iR self a0) (0,1,0)).bind λy15=>
 some (y15))
def hZ:Nat→(List (List Int))→Option Int
 |0,_=>none
 |n+1,a0=>jT (hZ n) a0
theorem xG (self:(List (List Int))→Option Int) (a0:(List (List Int))) (ih: ∀ (a0:(List (List Int))) (r:Int),self a0=some r→HasC Try.prog 53 [.list 1 (a0.map (bG 1 eI))] (.int r)) (r:Int) (h:jT self a0=some r):HasC Try.prog 53 [.list 1 (a0.map (bG 1 eI))] (.int r):=by
 refine hM [.tmp 2] Try.func53 Try.ntmps53 k<|sR<|aT k2<|sQ<|sR<|am k k<|ln k4<|cm k4<|an<|tn<|fG k h (λ_ h=>sR<|aT k2<|aO<|aU<|xC h k2) λ_ h=>?_;refine aI<|tn<|sR<|aT k2<|sR<|aT k2<|sQ<|sR<|aT k2<|aC<|oB h λy15 hy15 h=>dF (body:=(iR self a0)) hy15 (λ(x1:(Int×Int×Int))=>mN [(0,.list 1 (a0.map (bG 1 eI))),(3,.int x1.1),(4,.int x1.2.1),(5,.int x1.2.2)] [] 0) (λr e t=>e= .exit 0∧Ent t (mN [(3,.int r)] [] 0)) (cB (bX k2) aY k4) ?_ ?_
 ·intro x1 o h;refine sQ<|sR<|am k k<|am k k<|ln k4<|cm k4<|an<|tn<|fG k h (λ_ h=>?_) λ_ h=>bC<|aA<|aA<|sp h ⟨_,k,k,(cB (bX k2) aY k4)⟩;refine aI<|tn<|sQ<|aC<|sR<|ae (wl k) k<|aT k2<|aP (t:=mN [(0,.list 1 (a0.map (bG 1 eI))),(3,.int x1.1),(4,.int x1.2.1),(5,.int x1.2.2),(6,.own 0 0 (([]:(List (List Int))).length))] [(0,⟨1,List.map (ow (bG 1 eI)) ([]:(List (List Int)))⟩)] 1) (cB (mM 4 k2 (kN ⟨_,k,⟨k,k,(by simp only [aQ,lA,lT,lR,lC,lN]),k⟩⟩ aY)) (cC (aH.plainO _) k<|aY) k4)<|sQ<|sR<|aT k2<|aC<|oB h λy11 hy11 h=>dF (body:=(gS a0 x1)) hy11 (λ(x2:((List (List Int))×Int))=>mN [(0,.list 1 (a0.map (bG 1 eI))),(3,.int x1.1),(4,.int x1.2.1),(5,.int x1.2.2),(6,.own 0 0 x2.1.length),(7,.int x2.2)] [(0,⟨1,x2.1.map (ow (bG 1 eI))⟩)] 1) (λr e t=>e= .exit 2∧Ent t (mN [(0,.list 1 (a0.map (bG 1 eI))),(3,.int x1.1),(4,.int x1.2.1),(5,.int x1.2.2),(6,.own 0 0 r.length)] [(0,⟨1,r.map (ow (bG 1 eI))⟩)] 1)) (cB (bX k2) (cC (aH.plainO _) k<|aY) k4) ?_ ?_
  ·intro x2 o h;refine sQ<|sR<|am k k<|am k k<|ln k4<|cm k4<|an<|tn<|fG k h (λ_ h=>?_) λ_ h=>bC<|aA<|aA<|sp h ⟨_,k,k,(cB (bX k2) (cC (aH.plainO _) k<|aY) k4)⟩;refine aI<|tn<|sQ<|aC<|aN kF<|am k k<|ae (wl k) k<|am k k<|am k k<|oB h λv4 hv4 h=>ae (xl hv4 k) k<|lr k7<|am k k<|cG h λq5 h=>ae (kM aJ (l0:=v4) (l:=0) (h:=x1.2.2) q5 k k k k k k k) k<|cG h λq6 h=>ae (oZ aJ (l:=([]:(List Int))) (m:=((v4.drop (0:Int).toNat).take (x1.2.2.toNat - (0:Int).toNat))) nG q6 k k k k k k k k k k k k) k<|am k k<|am k k<|oB h λv7 hv7 h=>ae (xl hv7 k) k<|lr k7<|am k k<|ae (bO k k) k<|cG h λq8 h=>ae (kM aJ (l0:=v7) (l:=wr (x1.2.2+1)) (h:=(v7.length:Int)) q8 k k k k k k k) k<|cG h λq9 h=>ae (oZ aJ (l:=(([]:(List Int))++((v4.drop (0:Int).toNat).take (x1.2.2.toNat - (0:Int).toNat)))) (m:=((v7.drop (wr (x1.2.2+1)).toNat).take ((v7.length:Int).toNat - (wr (x1.2.2+1)).toNat))) nG q9 k k k k k k k k k k k k) k<|ae (wl k) k<|cG h λq10 h=>ae (oK aJ (l:=x2.1) (c:=[.own 3 0 (((([]:(List Int))++((v4.drop (0:Int).toNat).take (x1.2.2.toNat - (0:Int).toNat)))++((v7.drop (wr (x1.2.2+1)).toNat).take ((v7.length:Int).toNat - (wr (x1.2.2+1)).toNat))).length)]) q10 k k k k k k k k k k k k k k) k<|aa k k<|an<|qK (by kernel_rfl)<|aV<|tn ?_;exact aP (t:=mN [(0,.list 1 (a0.map (bG 1 eI))),(3,.int x1.1),(4,.int x1.2.1),(5,.int x1.2.2),(6,.own 5 0 ((x2.1++[((([]:(List Int))++((v4.drop (0:Int).toNat).take (x1.2.2.toNat - (0:Int).toNat)))++((v7.drop (wr (x1.2.2+1)).toNat).take ((v7.length:Int).toNat - (wr (x1.2.2+1)).toNat)))]).length)),(7,.int x2.2)] [(5,⟨1,List.map (ow (bG 1 eI)) (x2.1++[((([]:(List Int))++((v4.drop (0:Int).toNat).take (x1.2.2.toNat - (0:Int).toNat)))++((v7.drop (wr (x1.2.2+1)).toNat).take ((v7.length:Int).toNat - (wr (x1.2.2+1)).toNat)))])⟩)] 6) (Ent.trans (kL (b:=5) (b':=3) (j:=0) (es':=List.map eI ((([]:(List Int))++((v4.drop (0:Int).toNat).take (x1.2.2.toNat - (0:Int).toNat)))++((v7.drop (wr (x1.2.2+1)).toNat).take ((v7.length:Int).toNat - (wr (x1.2.2+1)).toNat)))) k k k k (aQ _ _) (mK.frzs _)) (cB (mM 4 k2 (kN ⟨_,k,⟨k,k,(by simp only [aQ,lA,lT,lR,lC,lN]),k⟩⟩ (bX k2))) (hX ⟨_,k,k,.inl ⟨pS ((([]:(List Int))++((v4.drop (0:Int).toNat).take (x1.2.2.toNat - (0:Int).toNat)))++((v7.drop (wr (x1.2.2+1)).toNat).take ((v7.length:Int).toNat - (wr (x1.2.2+1)).toNat))) k,aH.plainO _⟩⟩ k<|aY) k4))<|rg<|am k k<|ae (bO k k) k<|aT k2<|sp h ⟨_,k,(uP [5] (bX k2) (cC (aH.plainO _) k<|aY) k4)⟩
  ·rintro e t ⟨rfl,hent⟩;refine aM<|tn<|aP hent<|sQ<|aN kF<|am k k<|am k k<|am k k<|oB h λv12 hv12 h=>ae (xl hv12 k) k<|lr k7<|am k k<|oB h λv13 hv13 h=>ae (xl hv13 k) k<|lr k7<|ae (qR k k) k<|am k k<|oB h λv14 hv14 h=>ae (bE (ih y11 v14 hv14) k (bH (yR aH k k) bF)) k<|ae (qR k k) k<|ae (bO k k) k<|aa k k<|an<|qK (by kernel_rfl)<|tn<|rg<|am k k<|ae (aIX k) k<|aa k k<|an<|aV<|tn<|rg ?_;exact am k k<|ae (bO k k) k<|aT k2<|sp h ⟨_,k,(cB (bX k2) aY k4)⟩
 ·rintro e t ⟨rfl,hent⟩;exact aM<|tn<|aP hent<|sR<|am k k<|aT k2<|aO<|xC h k2
theorem sN: ∀ (n:Nat) (a0:(List (List Int))) (r:Int),hZ n a0=some r→HasC Try.prog 53 [.list 1 (a0.map (bG 1 eI))] (.int r)
 |0,a0,r,h=>by cases h
 |n+1,a0,r,h=>xG (hZ n) a0 (sN n) r h
def dO (a0:Qv) (x1:((List (List Int))×Int)) (x2:((List Int)×Int)):Option (((List Int)×Int) ⊕ (List Int)):=
 bif decide (x2.2<(a0.src.length:Int)) then
 ((cR a0.src x2.2).bind λv6=>
 bif decide (v6=x1.2) then
 ((cR a0.tgt x2.2).bind λv8=>
 (cR a0.tgt x2.2).bind λv9=>
 (cR x2.1 v9).bind λv10=>
 (cR x2.1 v8).bind λv11=>
 (cR a0.tgt x2.2).bind λv12=>
 bif decide (v12=x1.2) then
 ((cR a0.src x2.2).bind λv14=>
 (cR a0.src x2.2).bind λv15=>
 (cR (x2.1.set v8.toNat (wr (v10 - 1))) v15).bind λv16=>
 (cR (x2.1.set v8.toNat (wr (v10 - 1))) v14).bind λv17=>
 some (.inl (((x2.1.set v8.toNat (wr (v10 - 1))).set v14.toNat (wr (v16 - 1))),wr (x2.2+1))))
 else
 (some (.inl ((x2.1.set v8.toNat (wr (v10 - 1))),wr (x2.2+1)))))
 else
 ((cR a0.tgt x2.2).bind λv18=>
 bif decide (v18=x1.2) then
 ((cR a0.src x2.2).bind λv20=>
 (cR a0.src x2.2).bind λv21=>
 (cR x2.1 v21).bind λv22=>
 (cR x2.1 v20).bind λv23=>
 some (.inl ((x2.1.set v20.toNat (wr (v22 - 1))),wr (x2.2+1))))
 else
 (some (.inl (x2.1,wr (x2.2+1))))))
 else
 (some (.inr x2.1))
def eS (a0:Qv) (x1:((List (List Int))×Int)):Option (((List (List Int))×Int) ⊕ (List (List Int))):=
 bif decide (x1.2<a0.n) then
 ((eU a0).bind λv2=>
 bif v2 then
 (bif (decide (0≤a0.n)&&decide (a0.n≤1048576)) then
 ((cR (List.replicate a0.n.toNat (0:Int)) x1.2).bind λv4=>
 (Lp (dO a0 x1) (((List.replicate a0.n.toNat (0:Int)).set x1.2.toNat 2),0)).bind λy24=>
 bif decide (x1.1.length+1≤4294967296) then
 (some (.inl ((x1.1++[y24]),wr (x1.2+1))))
 else none)
 else none)
 else
 (some (.inr x1.1)))
 else
 (some (.inr x1.1))
def eP (a0:Qv):Option (List (List Int)):=
 (Lp (eS a0) (([]:(List (List Int))),0)).bind λy27=>
 some (y27)
theorem lQ (a0:Qv) (r:(List (List Int))) (h:eP a0=some r):HasC Try.prog 38 [.agg (eQ a0)] (.list 1 (r.map (bG 1 eI))):=by
 refine hM [.tmp 2] Try.func38 Try.ntmps38 k<|sR<|ae (wb k) k<|aT k2<|sR<|ae (wl k) k<|aT k2<|aP (t:=mN [(1,.ptr 0 0 0),(3,.own 1 0 (([]:(List (List Int))).length))] [(0,⟨3,[eQ a0]⟩),(1,⟨1,List.map (ow (bG 1 eI)) ([]:(List (List Int)))⟩)] 2) (cB (mM 1 k2 (kN ⟨_,k,⟨k,k,(by simp only [aQ,lA,lT,lR,lC,lN]),k⟩⟩ aY)) (eE k<|cC (aH.plainO _) k<|aY) k4)<|sQ<|sR<|aT k2<|aC<|oB h λy27 hy27 h=>dF (body:=(eS a0)) hy27 (λ(x1:((List (List Int))×Int))=>mN [(1,.ptr 0 0 0),(3,.own 1 0 x1.1.length),(4,.int x1.2)] [(0,⟨3,[eQ a0]⟩),(1,⟨1,x1.1.map (ow (bG 1 eI))⟩)] 2) (λr e t=>e= .exit 0∧Ent t (mN [(3,.own 0 0 r.length)] [(0,⟨1,r.map (ow (bG 1 eI))⟩)] 1)) (cB (bX k2) (eE k<|cC (aH.plainO _) k<|aY) k4) ?_ ?_
 ·intro x1 o h;refine sQ<|sR<|am k k<|fp k8<|lp k8<|cm k4<|am k k<|xD h (λq1 h=>?_) λq1 h=>bD 12 k q1<|aK k4<|pk k3<|an<|tn<|nF k k<|bC<|aA<|aA<|sp h ⟨_,k,k,(uP [1] (bX k2) (cC (aH.plainO _) k<|aY) k4)⟩;refine bD 12 k q1<|lp k8<|oB h λv2 hv2 h=>ae (bE (mD a0 v2 hv2) k (bH (wR k) bF)) k<|pk k3<|an<|tn<|fG k h (λ_ h=>?_) λ_ h=>bC<|aA<|aA<|sp h ⟨_,k,k,(uP [1] (bX k2) (cC (aH.plainO _) k<|aY) k4)⟩;refine aI<|tn<|sQ<|aC<|sR<|fp k8<|lp k8<|cG h λq26 h=>ae (qS aJ q26 k k k k k k k k) k<|aT k2<|aP (t:=mN [(1,.ptr 0 0 0),(3,.own 1 0 x1.1.length),(4,.int x1.2),(5,.own 2 0 ((List.replicate a0.n.toNat (0:Int)).length))] [(0,⟨3,[eQ a0]⟩),(1,⟨1,x1.1.map (ow (bG 1 eI))⟩),(2,⟨1,List.map (ow eI) (List.replicate a0.n.toNat (0:Int))⟩)] 3) (cB (mM 3 k2 (kN ⟨_,k,⟨k,k,(by simp only [aQ,lA,lT,lR,lC,lN]),k⟩⟩ aY)) (eE k<|cC (aH.plainO _) k<|hX ⟨_,k,k,.inl ⟨sZ (e:=eI) (z:=0) _,mK.plainO _⟩⟩ k<|aY) k4)<|sR<|am k k<|am k k<|oB h λv4 hv4 h=>ae (xo hv4 k) k<|ae (iC aJ nG (u:=2) (dU hv4) k k k k k k) k<|an<|tn<|sQ<|sR<|aT k2<|aC<|oB h λy24 hy24 h=>dF (body:=(dO a0 x1)) hy24 (λ(x2:((List Int)×Int))=>mN [(1,.ptr 0 0 0),(3,.own 1 0 x1.1.length),(4,.int x1.2),(5,.own 2 0 x2.1.length),(6,.int x2.2)] [(0,⟨3,[eQ a0]⟩),(1,⟨1,x1.1.map (ow (bG 1 eI))⟩),(2,⟨1,x2.1.map (ow eI)⟩)] 3) (λr e t=>e= .exit 2∧Ent t (mN [(1,.ptr 0 0 0),(3,.own 1 0 x1.1.length),(4,.int x1.2),(5,.own 2 0 r.length)] [(0,⟨3,[eQ a0]⟩),(1,⟨1,x1.1.map (ow (bG 1 eI))⟩),(2,⟨1,r.map (ow eI)⟩)] 3)) (cB (mM 3 k2 (kN ⟨_,k,⟨k,k,(by simp only [aQ,lA,lT,lR,lC,lN]),k⟩⟩ (bX k2))) (eE k<|cC (aH.plainO _) k<|kH k<|aY) k4) ?_ ?_
  ·intro x2 o h;refine sQ<|sR<|am k k<|fp k8<|lp k8<|ln k4<|cm k4<|an<|tn<|fG k h (λ_ h=>?_) λ_ h=>bC<|aA<|aA<|sp h ⟨_,k,k,(cB (bX k2) (eE k<|cC (aH.plainO _) k<|kH k<|aY) k4)⟩;refine aI<|tn<|sQ<|aC<|sQ<|sR<|fp k8<|lp k8<|am k k<|oB h λv6 hv6 h=>ae (xl hv6 k) k<|lr k7<|am k k<|cm k4<|an<|tn<|fG k h (λ_ h=>?_) λ_ h=>?_
   ·refine aN kF<|am k k<|fp k8<|lp k8<|am k k<|oB h λv8 hv8 h=>ae (xl hv8 k) k<|lr k7<|am k k<|fp k8<|lp k8<|am k k<|oB h λv9 hv9 h=>ae (xl hv9 k) k<|lr k7<|oB h λv10 hv10 h=>ae (xo hv10 k) k<|ae (wp hv10 k) k<|ae (iJ k k) k<|oB h λv11 hv11 h=>ae (xo hv11 k) k<|ae (iC aJ nG (u:=wr (v10 - 1)) (dU hv11) k k k k k k) k<|an<|qK (by kernel_rfl)<|tn<|aP (t:=mN [(1,.ptr 0 0 0),(3,.own 1 0 x1.1.length),(4,.int x1.2),(5,.own 2 0 ((x2.1.set v8.toNat (wr (v10 - 1))).length)),(6,.int x2.2)] [(0,⟨3,[eQ a0]⟩),(1,⟨1,x1.1.map (ow (bG 1 eI))⟩),(2,⟨1,List.map (ow eI) (x2.1.set v8.toNat (wr (v10 - 1)))⟩)] 3) (cB (mM 3 k2 (kN ⟨_,k,⟨k,k,(by simp only [aQ,lA,lT,lR,lC,lN]),k⟩⟩ (bX k2))) (eE k<|cC (aH.plainO _) k<|kH k<|aY) k4)<|sR<|fp k8<|lp k8<|am k k<|oB h λv12 hv12 h=>ae (xl hv12 k) k<|lr k7 ?_;exact am k k<|cm k4<|an<|tn<|fG k h (λ_ h=>aN kF<|am k k<|fp k8<|lp k8<|am k k<|oB h λv14 hv14 h=>ae (xl hv14 k) k<|lr k7<|am k k<|fp k8<|lp k8<|am k k<|oB h λv15 hv15 h=>ae (xl hv15 k) k<|lr k7<|oB h λv16 hv16 h=>ae (xo hv16 k) k<|ae (wp hv16 k) k<|ae (iJ k k) k<|oB h λv17 hv17 h=>ae (xo hv17 k) k<|ae (iC aJ nG (u:=wr (v16 - 1)) (dU hv17) k k k k k k) k<|an<|qK (by kernel_rfl)<|aV<|tn<|aP (t:=mN [(1,.ptr 0 0 0),(3,.own 1 0 x1.1.length),(4,.int x1.2),(5,.own 2 0 (((x2.1.set v8.toNat (wr (v10 - 1))).set v14.toNat (wr (v16 - 1))).length)),(6,.int x2.2)] [(0,⟨3,[eQ a0]⟩),(1,⟨1,x1.1.map (ow (bG 1 eI))⟩),(2,⟨1,List.map (ow eI) ((x2.1.set v8.toNat (wr (v10 - 1))).set v14.toNat (wr (v16 - 1)))⟩)] 3) (cB (mM 3 k2 (kN ⟨_,k,⟨k,k,(by simp only [aQ,lA,lT,lR,lC,lN]),k⟩⟩ (bX k2))) (eE k<|cC (aH.plainO _) k<|kH k<|aY) k4)<|rg<|am k k<|ae (bO k k) k<|aT k2<|sp h ⟨_,k,(cB (bX k2) (eE k<|cC (aH.plainO _) k<|kH k<|aY) k4)⟩) λ_ h=>aI<|aV<|tn<|rg<|am k k<|ae (bO k k) k<|aT k2<|sp h ⟨_,k,(cB (bX k2) (eE k<|cC (aH.plainO _) k<|kH k<|aY) k4)⟩
   ·exact aI<|tn<|sR<|fp k8<|lp k8<|am k k<|oB h λv18 hv18 h=>ae (xl hv18 k) k<|lr k7<|am k k<|cm k4<|an<|tn<|fG k h (λ_ h=>aN kF<|am k k<|fp k8<|lp k8<|am k k<|oB h λv20 hv20 h=>ae (xl hv20 k) k<|lr k7<|am k k<|fp k8<|lp k8<|am k k<|oB h λv21 hv21 h=>ae (xl hv21 k) k<|lr k7<|oB h λv22 hv22 h=>ae (xo hv22 k) k<|ae (wp hv22 k) k<|ae (iJ k k) k<|oB h λv23 hv23 h=>ae (xo hv23 k) k<|ae (iC aJ nG (u:=wr (v22 - 1)) (dU hv23) k k k k k k) k<|an<|qK (by kernel_rfl)<|aV<|tn<|aP (t:=mN [(1,.ptr 0 0 0),(3,.own 1 0 x1.1.length),(4,.int x1.2),(5,.own 2 0 ((x2.1.set v20.toNat (wr (v22 - 1))).length)),(6,.int x2.2)] [(0,⟨3,[eQ a0]⟩),(1,⟨1,x1.1.map (ow (bG 1 eI))⟩),(2,⟨1,List.map (ow eI) (x2.1.set v20.toNat (wr (v22 - 1)))⟩)] 3) (cB (mM 3 k2 (kN ⟨_,k,⟨k,k,(by simp only [aQ,lA,lT,lR,lC,lN]),k⟩⟩ (bX k2))) (eE k<|cC (aH.plainO _) k<|kH k<|aY) k4)<|rg<|am k k<|ae (bO k k) k<|aT k2<|sp h ⟨_,k,(cB (bX k2) (eE k<|cC (aH.plainO _) k<|kH k<|aY) k4)⟩) λ_ h=>aI<|aV<|tn<|rg<|am k k<|ae (bO k k) k<|aT k2<|sp h ⟨_,k,(cB (bX k2) (eE k<|cC (aH.plainO _) k<|kH k<|aY) k4)⟩
  ·rintro e t ⟨rfl,hent⟩;exact aM<|tn<|aP hent<|rg<|am k k<|am k k<|ae (wl k) k<|cG h λq25 h=>ae (oK aJ (l:=x1.1) (c:=[.own 2 0 y24.length]) q25 k k k k k k k k k k k k k k) k<|aa k k<|an<|aV<|tn<|aP (t:=mN [(1,.ptr 0 0 0),(3,.own 4 0 ((x1.1++[y24]).length)),(4,.int x1.2)] [(0,⟨3,[eQ a0]⟩),(4,⟨1,List.map (ow (bG 1 eI)) (x1.1++[y24])⟩)] 5) (Ent.trans (kL (b:=4) (b':=2) (j:=0) (es':=y24.map eI) k k k k (aQ _ _) (mK.frzs _)) (cB (mM 1 k2 (kN ⟨_,k,⟨k,k,(by simp only [aQ,lA,lT,lR,lC,lN]),k⟩⟩ (bX k2))) (eE k<|hX ⟨_,k,k,.inl ⟨pS y24 k,aH.plainO _⟩⟩ k<|aY) k4))<|rg<|am k k<|ae (bO k k) k<|aT k2<|sp h ⟨_,k,(uP [0,4] (bX k2) (eE k<|cC (aH.plainO _) k<|aY) k4)⟩
 ·rintro e t ⟨rfl,hent⟩;exact aM<|tn<|aP hent<|sR<|am k k<|aT k2<|aO<|sp h (eJ k k k (nZ (uD aH k k)))
def fN (a0:(List (List Int))) (a1:Int) (x1:(Int×(List (List Int)))) (x2:((List Int)×Int)):Option (((List Int)×Int) ⊕ (List Int)):=
 bif decide (x2.2<(a0.length:Int)) then
 (bif !decide (x2.2<0) then
 (bif decide (aEA (aDz a1 x2.2) 1=1) then
 ((cR a0 x1.1).bind λv5=>
 (cR v5 x2.2).bind λv6=>
 bif decide (x2.1.length+[v6].length ≤4294967296) then
 (some (.inl ((x2.1++[v6]),wr (x2.2+1))))
 else none)
 else
 (some (.inl (x2.1,wr (x2.2+1)))))
 else none)
 else
 (some (.inr x2.1))
def gY (a0:(List (List Int))) (a1:Int) (x1:(Int×(List (List Int)))):Option ((Int×(List (List Int))) ⊕ (List (List Int))):=
 bif decide (x1.1<(a0.length:Int)) then
 (bif !decide (x1.1<0) then
 (bif decide (aEA (aDz a1 x1.1) 1=0) then
 (some (.inl (wr (x1.1+1),x1.2)))
 else
 ((Lp (fN a0 a1 x1) (([]:(List Int)),0)).bind λy9=>
 bif decide (x1.2.length+1≤4294967296) then
 (some (.inl (wr (x1.1+1),(x1.2++[y9]))))
 else none))
 else none)
 else
 (some (.inr x1.2))
def jU (a0:(List (List Int))) (a1:Int):Option (List (List Int)):=
 (Lp (gY a0 a1) (0,([]:(List (List Int))))).bind λy12=>
 some (y12)
theorem xH (a0:(List (List Int))) (a1:Int) (r:(List (List Int))) (h:jU a0 a1=some r):HasC Try.prog 54 [.list 1 (a0.map (bG 1 eI)),.int a1] (.list 1 (r.map (bG 1 eI))):=by
 refine hM [.tmp 4] Try.func54 Try.ntmps54 k<|sR<|aT k2<|sR<|ae (wl k) k<|aT k2<|aP (t:=mN [(0,.list 1 (a0.map (bG 1 eI))),(1,.int a1),(5,.own 0 0 (([]:(List (List Int))).length))] [(0,⟨1,List.map (ow (bG 1 eI)) ([]:(List (List Int)))⟩)] 1) (cB (mM 2 k2 (kN ⟨_,k,⟨k,k,(by simp only [aQ,lA,lT,lR,lC,lN]),k⟩⟩ aY)) (cC (aH.plainO _) k<|aY) k4)<|sQ<|sR<|aT k2<|aC<|oB h λy12 hy12 h=>dF (body:=(gY a0 a1)) hy12 (λ(x1:(Int×(List (List Int))))=>mN [(0,.list 1 (a0.map (bG 1 eI))),(1,.int a1),(5,.own 0 0 x1.2.length),(6,.int x1.1)] [(0,⟨1,x1.2.map (ow (bG 1 eI))⟩)] 1) (λr e t=>e= .exit 0∧Ent t (mN [(5,.own 0 0 r.length)] [(0,⟨1,r.map (ow (bG 1 eI))⟩)] 1)) (cB (bX k2) (cC (aH.plainO _) k<|aY) k4) ?_ ?_
 ·intro x1 o h;refine sQ<|sR<|am k k<|am k k<|ln k4<|cm k4<|an<|tn<|fG k h (λ_ h=>?_) λ_ h=>bC<|aA<|aA<|sp h ⟨_,k,k,(cB (bX k2) (cC (aH.plainO _) k<|aY) k4)⟩;refine aI<|tn<|sQ<|aC<|sQ<|sR<|am k k<|am k k<|cG h λq11 h=>ae (aEi k k q11) k<|ae (aEj k k) k<|cm k4<|an<|tn<|fG k h (λ_ h=>bC<|aA<|aM<|tn<|rg<|am k k<|ae (bO k k) k<|aT k2<|sp h ⟨_,k,(cB (bX k2) (cC (aH.plainO _) k<|aY) k4)⟩) λ_ h=>?_;refine aI<|tn<|sR<|ae (wl k) k<|aT k2<|aP (t:=mN [(0,.list 1 (a0.map (bG 1 eI))),(1,.int a1),(5,.own 0 0 x1.2.length),(6,.int x1.1),(7,.own 1 0 (([]:(List Int)).length))] [(0,⟨1,x1.2.map (ow (bG 1 eI))⟩),(1,⟨1,List.map (ow eI) ([]:(List Int))⟩)] 2) (cB (mM 4 k2 (kN ⟨_,k,⟨k,k,(by simp only [aQ,lA,lT,lR,lC,lN]),k⟩⟩ aY)) (cC (aH.plainO _) k<|kH k<|aY) k4)<|sQ<|sR<|aT k2<|aC<|oB h λy9 hy9 h=>dF (body:=(fN a0 a1 x1)) hy9 (λ(x2:((List Int)×Int))=>mN [(0,.list 1 (a0.map (bG 1 eI))),(1,.int a1),(5,.own 0 0 x1.2.length),(6,.int x1.1),(7,.own 1 0 x2.1.length),(8,.int x2.2)] [(0,⟨1,x1.2.map (ow (bG 1 eI))⟩),(1,⟨1,x2.1.map (ow eI)⟩)] 2) (λr e t=>e= .exit 2∧Ent t (mN [(0,.list 1 (a0.map (bG 1 eI))),(1,.int a1),(5,.own 0 0 x1.2.length),(6,.int x1.1),(7,.own 1 0 r.length)] [(0,⟨1,x1.2.map (ow (bG 1 eI))⟩),(1,⟨1,r.map (ow eI)⟩)] 2)) (cB (bX k2) (cC (aH.plainO _) k<|kH k<|aY) k4) ?_ ?_
  ·intro x2 o h;exact sQ<|sR<|am k k<|am k k<|ln k4<|cm k4<|an<|tn<|fG k h (λ_ h=>aI<|tn<|sQ<|aC<|sR<|am k k<|am k k<|cG h λq8 h=>ae (aEi k k q8) k<|ae (aEj k k) k<|cm k4<|an<|tn<|fG k h (λ_ h=>rg<|am k k<|am k k<|am k k<|oB h λv5 hv5 h=>ae (xl hv5 k) k<|lr k7<|am k k<|oB h λv6 hv6 h=>ae (xl hv6 k) k<|lr k7<|ae (wl k) k<|cG h λq7 h=>ae (oZ aJ (l:=x2.1) (m:=[v6]) nG q7 k k k k k k k k k k k k) k<|aa k k<|an<|aV<|tn<|rg<|am k k<|ae (bO k k) k<|aT k2<|sp h ⟨_,k,(uP [0,3] (bX k2) (cC (aH.plainO _) k<|kH k<|aY) k4)⟩) λ_ h=>aI<|aV<|tn<|rg<|am k k<|ae (bO k k) k<|aT k2<|sp h ⟨_,k,(cB (bX k2) (cC (aH.plainO _) k<|kH k<|aY) k4)⟩) λ_ h=>bC<|aA<|aA<|sp h ⟨_,k,k,(cB (bX k2) (cC (aH.plainO _) k<|kH k<|aY) k4)⟩
  ·rintro e t ⟨rfl,hent⟩;exact aM<|tn<|aP hent<|rg<|am k k<|am k k<|ae (wl k) k<|cG h λq10 h=>ae (oK aJ (l:=x1.2) (c:=[.own 1 0 y9.length]) q10 k k k k k k k k k k k k k k) k<|aa k k<|an<|aV<|tn<|aP (t:=mN [(0,.list 1 (a0.map (bG 1 eI))),(1,.int a1),(5,.own 3 0 ((x1.2++[y9]).length)),(6,.int x1.1)] [(3,⟨1,List.map (ow (bG 1 eI)) (x1.2++[y9])⟩)] 4) (Ent.trans (kL (b:=3) (b':=1) (j:=0) (es':=y9.map eI) k k k k (aQ _ _) (mK.frzs _)) (cB (mM 2 k2 (kN ⟨_,k,⟨k,k,(by simp only [aQ,lA,lT,lR,lC,lN]),k⟩⟩ (bX k2))) (hX ⟨_,k,k,.inl ⟨pS y9 k,aH.plainO _⟩⟩ k<|aY) k4))<|rg<|am k k<|ae (bO k k) k<|aT k2<|sp h ⟨_,k,(uP [3] (bX k2) (cC (aH.plainO _) k<|aY) k4)⟩
 ·rintro e t ⟨rfl,hent⟩;exact aM<|tn<|aP hent<|sR<|am k k<|aT k2<|aO<|sp h (eJ k k k (nZ (uD aH k k)))
def eY (a0:Qv) (v3:(List (List Int))) (x1:(Int×Int)):Option ((Int×Int) ⊕ (Int ⊕ Int)):=
 bif !decide (a0.n<0) then
 (bif decide (x1.2<aGm 1 a0.n) then
 ((jU v3 x1.2).bind λv5=>
 (hZ 8 v5).bind λv6=>
 bif decide (v6<0) then
 (some (.inr (.inr (3))))
 else
 (bif decide (v6=0) then
 (some (.inl (2,wr (x1.2+1))))
 else
 (some (.inl (x1.1,wr (x1.2+1))))))
 else
 (some (.inr (.inl x1.1))))
 else none
def eW (a0:Qv):Option Int:=
 (eU a0).bind λv1=>
 bif !v1 then
 (some (0))
 else
 ((eP a0).bind λv3=>
 (Lp (eY a0 v3) (1,1)).bind λy10=>
 Sum.elim (λy11=>
 some (y11)
 )
 (λy12=>
 some y12
 )
 y10)
theorem sC (a0:Qv) (r:Int) (h:eW a0=some r):HasC Try.prog 37 [.agg (eQ a0)] (.int r):=by
 refine hM [.tmp 2] Try.func37 Try.ntmps37 k<|sR<|ae (wb k) k<|aT k2<|sQ<|sR<|lp k8<|oB h λv1 hv1 h=>ae (bE (mD a0 v1 hv1) k (bH (wR k) bF)) k<|ae (kX k) k<|an<|tn<|fG k h (λ_ h=>sR<|aT k2<|aO<|aU<|xC h k2) λ_ h=>?_;refine aI<|tn<|sR<|lp k8<|oB h λv3 hv3 h=>ae (cL aH (lQ a0 v3 hv3) k3 (bH (wR k) bF)) k<|aT k2<|sR<|aT k2<|sQ<|sR<|aT k2<|aC<|oB h λy10 hy10 h=>dF (body:=(eY a0 v3)) hy10 (λ(x1:(Int×Int))=>mN [(1,.ptr 0 0 0),(3,.own 1 0 v3.length),(4,.int x1.1),(5,.int x1.2)] [(0,⟨3,[eQ a0]⟩),(1,⟨1,v3.map (ow (bG 1 eI))⟩)] 2) (λr e t=>Sum.elim (λa=>(λr e t=>e= .exit 0∧Ent t (mN [(4,.int r)] [] 0)) a e t) (λb=>(λr e t=>e= .ret∧sX TT [.tmp 2] (.int r) .ret t) b e t) r) (cB (bX k2) (eE k<|cC (aH.plainO _) k<|aY) k4) ?_ ?_
 ·intro x1 o h;exact sQ<|sR<|am k k<|fp k8<|lp k8<|cG h λq9 h=>ae (aIc k k q9) k<|cm k4<|an<|tn<|fG k h (λ_ h=>aI<|tn<|sQ<|aC<|sR<|am k k<|am k k<|oB h λv5 hv5 h=>ae (cL aH (xH v3 x1.2 v5 hv5) k3 (bH (yR aH k k) (iN k bF))) k<|oB h λv6 hv6 h=>ae (bE (sN 8 v5 v6 hv6) k (bH (yR aH k k) bF)) k<|aT k2<|sQ<|sR<|am k k<|cm k4<|an<|tn<|fG k h (λ_ h=>sR<|aT k2<|aO<|aU<|cS<|aU<|aU<|sp h ⟨_,k,k,eJ k k k (aBf k)⟩) λ_ h=>aI<|tn<|sR<|am k k<|cm k4<|an<|tn<|fG k h (λ_ h=>rg<|aa k k<|an<|aV<|tn<|rg<|am k k<|ae (bO k k) k<|aT k2<|sp h ⟨_,k,(cB (bX k2) (eE k<|cC (aH.plainO _) k<|aY) k4)⟩) λ_ h=>aI<|aV<|tn<|rg<|am k k<|ae (bO k k) k<|aT k2<|sp h ⟨_,k,(cB (bX k2) (eE k<|cC (aH.plainO _) k<|aY) k4)⟩) λ_ h=>bC<|aA<|aA<|sp h ⟨_,k,k,(cB (bX k2) aY k4)⟩
 ·intro e t hX;rcases y10 with y11|y12
  ·obtain ⟨rfl,hent⟩:=hX;exact aM<|tn<|aP hent<|sR<|am k k<|aT k2<|aO<|xC h k2
  ·obtain ⟨rfl,hent⟩:=hX;exact cS<|aU<|sp h hent
end
noncomputable section
set_option maxRecDepth 10000
set_option maxHeartbeats 4000000
def jJ (a0:(List Int)) (a1:Int):Option Int:=
 bif decide (wr (a1 - (a0.length:Int))<0) then
 (some ((-1)))
 else
 (some (wr (a1 - (a0.length:Int))))
theorem sO (a0:(List Int)) (a1:Int) (r:Int) (h:jJ a0 a1=some r):HasC Try.prog 23 [.list 1 (a0.map eI),.int a1] (.int r):=by
 exact hM [.tmp 4] Try.func23 Try.ntmps23 k<|sR<|aT k2<|sR<|am k k<|am k k<|ln k4<|ae (iJ k k) k<|aT k2<|sQ<|sR<|am k k<|cm k4<|an<|tn<|fG k h (λ_ h=>sR<|aT k2<|aO<|aU<|xC h k2) λ_ h=>aI<|tn<|sR<|am k k<|aT k2<|aO<|xC h k2
def jV (a0:Qv) (a1:Int):Option Int:=
 (jJ a0.src a1).bind λv1=>
 bif decide (v1<0) then
 (some ((-1)))
 else
 ((jJ a0.tgt v1).bind λv3=>
 bif decide (v3<0) then
 (some ((-1)))
 else
 (some (v3)))
theorem xI (a0:Qv) (a1:Int) (r:Int) (h:jV a0 a1=some r):HasC Try.prog 6 [.agg (eQ a0),.int a1] (.int r):=by
 exact hM [.tmp 4] Try.func6 Try.ntmps6 k<|sR<|ae (wb k) k<|aT k2<|sR<|fp k8<|lp k8<|am k k<|oB h λv1 hv1 h=>ae (bE (sO a0.src a1 v1 hv1) k (iN k (iN k bF))) k<|aT k2<|sQ<|sR<|am k k<|cm k4<|an<|tn<|fG k h (λ_ h=>sR<|aT k2<|aO<|aU<|xC h k2) λ_ h=>aI<|tn<|sR<|fp k8<|lp k8<|am k k<|oB h λv3 hv3 h=>ae (bE (sO a0.tgt v1 v3 hv3) k (iN k (iN k bF))) k<|aT k2<|sQ<|sR<|am k k<|cm k4<|an<|tn<|fG k h (λ_ h=>sR<|aT k2<|aO<|aU<|xC h k2) λ_ h=>aI<|tn<|sR<|am k k<|aT k2<|aO<|xC h k2
def iS (a0:(List Int)) (x1:((List Int)×Int)):Option (((List Int)×Int) ⊕ (List Int)):=
 bif decide (x1.2<(a0.length:Int)) then
 ((cR a0 x1.2).bind λv2=>
 (cR x1.1 x1.2).bind λv3=>
 some (.inl ((x1.1.set x1.2.toNat v2),wr (x1.2+1))))
 else
 (some (.inr x1.1))
def jK (a0:(List Int)):Option (List Int):=
 bif (decide (0≤(a0.length:Int))&&decide ((a0.length:Int)≤1048576)) then
 ((Lp (iS a0) ((List.replicate ((a0.length:Int).toNat) (0:Int)),0)).bind λy4=>
 some (y4))
 else none
theorem sP (a0:(List Int)) (r:(List Int)) (h:jK a0=some r):HasC Try.prog 18 [.list 1 (a0.map eI)] (.list 1 (r.map eI)):=by
 refine hM [.tmp 2] Try.func18 Try.ntmps18 k<|sR<|aT k2<|sR<|am k k<|ln k4<|cG h λq5 h=>ae (qS aJ q5 k k k k k k k k) k<|aT k2<|aP (t:=mN [(0,.list 1 (a0.map eI)),(3,.own 0 0 ((List.replicate ((a0.length:Int).toNat) (0:Int)).length))] [(0,⟨1,List.map (ow eI) (List.replicate ((a0.length:Int).toNat) (0:Int))⟩)] 1) (cB (mM 1 k2 (kN ⟨_,k,⟨k,k,(by simp only [aQ,lA,lT,lR,lC,lN]),k⟩⟩ aY)) (hX ⟨_,k,k,.inl ⟨sZ (e:=eI) (z:=0) _,mK.plainO _⟩⟩ k<|aY) k4)<|sQ<|sR<|aT k2<|aC<|oB h λy4 hy4 h=>dF (body:=(iS a0)) hy4 (λ(x1:((List Int)×Int))=>mN [(0,.list 1 (a0.map eI)),(3,.own 0 0 x1.1.length),(4,.int x1.2)] [(0,⟨1,x1.1.map (ow eI)⟩)] 1) (λr e t=>e= .exit 0∧Ent t (mN [(3,.own 0 0 r.length)] [(0,⟨1,r.map (ow eI)⟩)] 1)) (cB (bX k2) (kH k<|aY) k4) ?_ ?_
 ·intro x1 o h;exact sQ<|sR<|am k k<|am k k<|ln k4<|cm k4<|an<|tn<|fG k h (λ_ h=>aI<|tn<|sQ<|aC<|rg<|am k k<|am k k<|am k k<|am k k<|oB h λv2 hv2 h=>ae (xl hv2 k) k<|lr k7<|oB h λv3 hv3 h=>ae (xo hv3 k) k<|ae (iC aJ nG (u:=v2) (dU hv3) k k k k k k) k<|an<|aV<|tn<|rg<|am k k<|ae (bO k k) k<|aT k2<|sp h ⟨_,k,(cB (mM 1 k2 (kN ⟨_,k,⟨k,k,(by simp only [aQ,lA,lT,lR,lC,lN]),k⟩⟩ (bX k2))) (kH k<|aY) k4)⟩) λ_ h=>bC<|aA<|aA<|sp h ⟨_,k,k,(cB (bX k2) (kH k<|aY) k4)⟩
 ·rintro e t ⟨rfl,hent⟩;exact aM<|tn<|aP hent<|sR<|am k k<|aT k2<|aO<|sp h (eJ k k k (nZ (uD mK k k)))
def dE (a0:Qv):Option Qv:=
 (jK a0.src).bind λv1=>
 (jK a0.tgt).bind λv2=>
 some ((⟨a0.n,v1,v2⟩:Qv))
theorem mG (a0:Qv) (r:Qv) (h:dE a0=some r):HasC Try.prog 8 [.agg (eQ a0)] (.agg (eQ r)):=by
 refine hM [.cell 2 27] Try.func8 Try.ntmps8 k<|sR<|ae (wb k) k<|ae (lI aJ k k) k<|an<|tn<|sR<|ae (lI aJ k k) k<|an<|tn<|sR<|fp k8<|lp k8<|fp k8<|ae (ws k) k<|an<|tn<|sR<|fp k8<|lp k8<|oB h λv1 hv1 h=>ae (cL mK (sP a0.src v1 hv1) k3 (iN k bF)) k<|fp k8<|ae (ws k) k<|an<|tn<|sQ ?_;exact rg<|fp k8<|lp k8<|oB h λv2 hv2 h=>ae (cL mK (sP a0.tgt v2 hv2) k3 (iN k bF)) k<|fp k8<|ae (ws k) k<|an<|tn<|sR<|lp k8<|ae (ws k) k<|an<|tn<|aO<|sp h (eJ k k k (aIu (aBi (k) (aBi (uD mK k k) (aBi (uD mK k k) aIt)))))
def lB (a0:(List Int)) (a1:(List Int)) (x1:Int):Option (Int ⊕ (Unit ⊕ Bool)):=
 bif decide (x1<(a0.length:Int)) then
 ((cR a0 x1).bind λv3=>
 (cR a1 x1).bind λv4=>
 bif !decide (v3=v4) then
 (some (.inr (.inr (false))))
 else
 (some (.inl (wr (x1+1)))))
 else
 (some (.inr (.inl ())))
def jL (a0:(List Int)) (a1:(List Int)):Option Bool:=
 bif !decide ((a0.length:Int)=(a1.length:Int)) then
 (some (false))
 else
 ((Lp (lB a0 a1) 0).bind λy6=>
 Sum.elim (λy7=>
 some (true)
 )
 (λy8=>
 some y8
 )
 y6)
theorem sT (a0:(List Int)) (a1:(List Int)) (r:Bool) (h:jL a0 a1=some r):HasC Try.prog 20 [.list 1 (a0.map eI),.list 1 (a1.map eI)] (.bl r):=by
 refine hM [.tmp 4] Try.func20 Try.ntmps20 k<|sR<|aT k2<|sQ<|sR<|am k k<|ln k4<|am k k<|ln k4<|cm k4<|an<|tn<|fG k h (λ_ h=>sR<|aT k2<|aO<|aU<|rY h k2) λ_ h=>?_;refine aI<|tn<|sQ<|sR<|aT k2<|aC<|oB h λy6 hy6 h=>dF (body:=(lB a0 a1)) hy6 (λ(x1:Int)=>mN [(0,.list 1 (a0.map eI)),(1,.list 1 (a1.map eI)),(5,.int x1)] [] 0) (λr e t=>Sum.elim (λa=>(λr e t=>e= .exit 0∧Ent t (mN [] [] 0)) a e t) (λb=>(λr e t=>e= .ret∧sX TT [.tmp 4] (.bl r) .ret t) b e t) r) (cB (bX k2) aY k4) ?_ ?_
 ·intro x1 o h;exact sQ<|sR<|am k k<|am k k<|ln k4<|cm k4<|an<|tn<|fG k h (λ_ h=>aI<|tn<|sQ<|aC<|sQ<|aN kF<|am k k<|am k k<|oB h λv3 hv3 h=>ae (xl hv3 k) k<|lr k7<|am k k<|am k k<|oB h λv4 hv4 h=>ae (xl hv4 k) k<|lr k7<|cm k4<|an<|qK (by kernel_rfl)<|tn<|fG k h (λ_ h=>sR<|aT k2<|aO<|cS<|aU<|aU<|sp h ⟨_,k,k,eJ k k k (wM k)⟩) λ_ h=>aI<|aV<|tn<|rg<|am k k<|ae (bO k k) k<|aT k2<|sp h ⟨_,k,(cB (bX k2) aY k4)⟩) λ_ h=>bC<|aA<|aA<|sp h ⟨_,k,k,(cB aY aY k4)⟩
 ·intro e t hX;rcases y6 with y7|y8
  ·obtain ⟨rfl,hent⟩:=hX;exact aM<|tn<|aP hent<|sR<|aT k2<|aO<|rY h k2
  ·obtain ⟨rfl,hent⟩:=hX;exact cS<|aU<|sp h hent
def gZ (a0:Qv) (a1:Qv):Option Bool:=
 bif !decide (a0.n=a1.n) then
 (some (false))
 else
 ((jL a0.src a1.src).bind λv2=>
 bif !v2 then
 (some (false))
 else
 ((jL a0.tgt a1.tgt).bind λv4=>
 bif !v4 then
 (some (false))
 else
 (some (true))))
theorem xJ (a0:Qv) (a1:Qv) (r:Bool) (h:gZ a0 a1=some r):HasC Try.prog 10 [.agg (eQ a0),.agg (eQ a1)] (.bl r):=by
 exact hM [.tmp 4] Try.func10 Try.ntmps10 k<|sR<|ae (wb k) k<|ae (wb k) k<|aT k2<|sQ<|sR<|fp k8<|lp k8<|fp k8<|lp k8<|cm k4<|an<|tn<|fG k h (λ_ h=>sR<|aT k2<|aO<|aU<|rY h k2) λ_ h=>aI<|tn<|sQ<|sR<|fp k8<|lp k8<|fp k8<|lp k8<|oB h λv2 hv2 h=>ae (bE (sT a0.src a1.src v2 hv2) k (iN k (iN k bF))) k<|ae (kX k) k<|an<|tn<|fG k h (λ_ h=>sR<|aT k2<|aO<|aU<|rY h k2) λ_ h=>aI<|tn<|sQ<|sR<|fp k8<|lp k8<|fp k8<|lp k8<|oB h λv4 hv4 h=>ae (bE (sT a0.tgt a1.tgt v4 hv4) k (iN k (iN k bF))) k<|ae (kX k) k<|an<|tn<|fG k h (λ_ h=>sR<|aT k2<|aO<|aU<|rY h k2) λ_ h=>aI<|tn<|sR<|aT k2<|aO<|rY h k2
def kQ (a0:(List (List Int))) (a1:(List (List Int))) (x1:Int):Option (Int ⊕ (Unit ⊕ Bool)):=
 bif decide (x1<(a0.length:Int)) then
 ((cR a0 x1).bind λv3=>
 (cR a1 x1).bind λv4=>
 (jL v3 v4).bind λv5=>
 bif !v5 then
 (some (.inr (.inr (false))))
 else
 (some (.inl (wr (x1+1)))))
 else
 (some (.inr (.inl ())))
def iK (a0:(List (List Int))) (a1:(List (List Int))):Option Bool:=
 bif !decide ((a0.length:Int)=(a1.length:Int)) then
 (some (false))
 else
 ((Lp (kQ a0 a1) 0).bind λy7=>
 Sum.elim (λy8=>
 some (true)
 )
 (λy9=>
 some y9
 )
 y7)
end
noncomputable section
def zI (n:Nat) (left:Int):Int:=if left - n<0 then -1 else left - n
def zC:List (Int→Int)→Int→Int
 | [],left=>left
 |f::fs,left=>if f left<0 then -1 else zC fs (f left)
def zQ (q:Qv):Int→Int:=zC [zI q.src.length,zI q.tgt.length]
def zE (f:Int→Int) (b:Prop):Prop:= ∀ left,0≤left→left≤1048576→f left= -1∨(0≤f left∧f left≤left∧b)
theorem xQ (n:Nat):zE (zI n) (n≤1048576):=by
 intro left h0 h1;unfold zI;by_cases h:left - n<0
 ·rw [aW h];exact .inl rfl
 ·rw [aR h];exact .inr ⟨by omega,by omega,by omega⟩
theorem aFY:zE (zC []) True:=λleft h0 _=> .inr ⟨h0,Int.le_refl _,trivial⟩
theorem zF {f:Int→Int} {fs:List (Int→Int)} {b bs:Prop} (h:zE f b) (k:zE (zC fs) bs):zE (zC (f::fs)) (b∧bs):=by
 intro left h0 h1;unfold zC;rcases h left h0 h1 with e|⟨e1,e2,e3⟩
 ·rw [e,aW (by decide)];exact .inl rfl
 ·rw [aR (by omega)];rcases k (f left) e1 (by omega) with g|⟨g1,g2,g3⟩
  ·exact .inl g
  ·exact .inr ⟨g1,by omega,e3,g3⟩
def bI (l:List Int):Prop:=l.length≤1048576
def bQ (q:Qv):Prop:=bI q.src∧bI q.tgt∧True
theorem aEl (q:Qv):zE (zQ q) (bQ q):=zF (xQ _) (zF (xQ _) aFY)
def fI {α:Type} (l:List α):Prop:=l.length≤9223372036854775807
theorem aEm {o:Option Int} {z:Int→Int} {zs:List (Int→Int)} {b:Prop} {left:Int} {k:Int→Option Int} (ho:o=some (z left)) (hf:zE z b) (h0:0≤left) (h1:left≤1048576) (hk: ∀ v,0≤v→v≤1048576→k v=some (zC zs v)):
  Option.bind o (λv=>bif decide (v<0) then some (-1) else k v)=some (zC (z::zs) left):=by
 rw [ho,aB];unfold zC;rcases hf left h0 h1 with e|⟨e1,e2,_⟩
 ·rw [e];rfl
 ·rw [aR (by omega),dH (by omega: ¬ z left<0),aL];exact hk _ e1 (by omega)
theorem aJv {l:List Int} {left:Int} (hl:fI l) (h0:0≤left) (h1:left≤1048576):jJ l left=some (zI l.length left):=by
 unfold fI at hl;unfold jJ zI;rw [aAe (by omega)];by_cases h:left - l.length<0
 ·rw [bB h,aW h];rfl
 ·rw [dH h,aR h];rfl
def fQ (q:Qv):Prop:=fI q.src∧fI q.tgt
theorem aJw {q:Qv} {left:Int} (hl:fQ q) (h0:0≤left) (h1:left≤1048576):jV q left=some (zQ q left):=
 aEm (aJv hl.1 h0 h1) (xQ _) h0 h1 λv g0 g1=>aEm (aJv hl.2 g0 g1) (xQ _) g0 g1 λv _ _=>rfl
theorem aFZ {α:Type} {body:List α×Int→Option ((List α×Int) ⊕ List α)} {l:List α} (z:α) (hl:l.length≤4611686018427387904)
  (hs: ∀ (k:Nat) (hk:k<l.length) (r:List α),r.length=l.length→body (r,k)=some (.inl (r.set k l[k],wr (k+1)))) (he: ∀ r,body (r,l.length)=some (.inr r)):Lp body (List.replicate ((l.length:Int).toNat) z,0)=some l:=by
 refine aGQ (λk=>(l.take k++List.replicate (l.length - k) z,(k:Int))) l.length (by simp) (λk hk=>?_) ?_
 ·rw [hs k hk _ (by simp;omega),cO hk hl];congr 3;rw [show l.length - k=(l.length - (k+1))+1 by omega,List.replicate_succ,List.set_append_right _ _ (by simp;omega)];rw [sI hk,List.length_take,Nat.min_eq_left (Nat.le_of_lt hk),Nat.sub_self,List.set_cons_zero,List.append_assoc];rfl
 ·rw [he];simp
theorem aJx {l:List Int} (h:bI l):jK l=some l:=by
 unfold bI at h;unfold jK;rw [bB (by omega),bB (by omega:(l.length:Int)≤1048576),Bool.and_self,aG];rw [aFZ 0 (by omega) (λk hk r hr=>?_) (λr=>?_)];rfl
 ·unfold iS;simp only;rw [nY hk,aG,gD hk,aB,gD (hr▸hk),aB,eC]
 ·unfold iS;simp only;rw [oJ (bP _),aL]
theorem aJy {q:Qv} (h:bQ q):dE q=some q:=by
 unfold dE;rw [aJx h.1,aB,aJx h.2.1,aB]
theorem aCt {α:Type} [DecidableEq α] {body:Int→Option (Int ⊕ (Unit ⊕ Bool))} {a b:List α} (hl:a.length≤4611686018427387904) (hab:a.length=b.length)
  (hs: ∀ (k:Nat) (h1:k<a.length) (h2:k<b.length),body k=some (bif decide (a[k]=b[k]) then .inl (wr (k+1)) else .inr (.inr false))) (he:body a.length=some (.inr (.inl ()))):
  Option.bind (Lp body 0) (λy=>Sum.elim (λ_=>some true) (λy=>some y) y)=some (decide (a=b)):=by
 have key: ∀ (P:Nat→Bool),(∀ (k:Nat) (h1:k<a.length) (h2:k<b.length),P k=decide (a[k]=b[k]))→Lp body 0=some (bif (List.range a.length).all P then .inl () else .inr false)→Option.bind (Lp body 0) (λy=>Sum.elim (λ_=>some true) (λy=>some y) y)=some (decide (a=b)):=by
  intro P hP e;rw [e,aB]
  have:(List.range a.length).all P=decide (a=b):=by
   rw [Bool.eq_iff_iff,rS,iW];constructor
   ·intro h;refine List.ext_getElem hab λk h1 h2=>?_;have:=h k h1;rw [hP k h1 h2] at this;exact of_decide_eq_true this
   ·rintro rfl k hk;rw [hP k hk hk];simp
  rw [this];cases decide (a=b) <;> rfl
 refine key (λk=>if h:k<a.length then if h2:k<b.length then decide (a[k]=b[k]) else false else false) (λk h1 h2=>by rw [dif_pos h1,dif_pos h2]) (aBh _ _ hl (λk hk=>?_) (λ_=>he));rw [dif_pos hk,dif_pos (hab▸hk)];exact hs k hk (hab▸hk)
theorem aCu {α β:Type} {a:List α} {b:List β} :decide ((a.length:Int)=(b.length:Int))=decide (a.length=b.length):=by
 rw [Bool.eq_iff_iff,iW,iW];omega
theorem aEn {body:Int→Option (Int ⊕ (Unit ⊕ Bool))} {a b:List Int} (hl:a.length≤4611686018427387904)
  (hb:body=λx=>bif decide (x<(a.length:Int)) then (Option.bind (cR a x) λv3=>Option.bind (cR b x) λv4=>bif !decide (v3=v4) then (some (.inr (.inr (false)))) else (some (.inl (wr (x+1))))) else (some (.inr (.inl ())))):
  (bif !decide ((a.length:Int)=(b.length:Int)) then some false else Option.bind (Lp body 0) (λy=>Sum.elim (λ_=>some true) (λy=>some y) y))=some (decide (a=b)):=by
 rw [aCu];by_cases h:a.length=b.length
 ·rw [bB h,lL,aL];refine aCt hl h (λk h1 h2=>?_) ?_
  ·rw [hb];simp only;rw [nY h1,aG,gD h1,aB,gD h2,aB];cases decide (a[k]=b[k]) <;> rfl
  ·rw [hb];simp only;rw [oJ (bP _),aL]
 ·rw [dH h,Bool.not_false,aG,dH (by rintro rfl;exact h rfl)]
theorem aCv {c d:Bool} {o:Option Bool} (h:c=true→o=some d):(bif !c then some false else o)=some (c&&d):=by cases c with|false=>rfl|true=>exact h rfl
theorem aJF {a b:List Int} (h:bI a):jL a b=some (decide (a=b)):=by
 unfold bI at h;exact aEn (body:=lB a b) (by omega) rfl
theorem aIC {d:Bool} :(bif !d then some false else some true)=some d:=by cases d <;> rfl
theorem aJz {a b:Qv} (h:bQ a):gZ a b=some (decide (a=b)):=by
 unfold gZ;rw [aCv (d:=decide (a.src=b.src)&&decide (a.tgt=b.tgt)) (λ_=>?_)]
 ·cases a;cases b;simp [Bool.and_assoc]
 ·rw [aJF h.1,aB];refine aCv λ_=>?_;rw [aJF h.2.1,aB,aIC]
end
noncomputable section
open Go.ChangeShapes Go.WideShapes Go.ChangeAt Go.RowKit
theorem oI:qG Try.prog 3 (qT 1 eI):=aDs Try.underlying3
theorem oL:qG Try.prog 22 (qT 1 eL):=aBm Try.underlying22 (by decide) (by kernel_rfl) oI
theorem oQ:qG Try.prog 24 (qT 3 eQ):=by
 intro H enc w fuel cs d ps h hf;obtain ⟨x0,T0,u0⟩:=vN Try.underlying24 h hf aGY (i:=0) (ft:=3) rfl (k:=1) (by kernel_rfl) oI;obtain ⟨x1,T1,u1⟩:=vN Try.underlying24 h hf u0 (i:=1) (ft:=22) rfl (k:=1) (by kernel_rfl) oL;obtain ⟨x2,T2,u2⟩:=vN Try.underlying24 h hf u1 (i:=2) (ft:=22) rfl (k:=1) (by kernel_rfl) oL;exact ⟨⟨x0,x1,x2⟩,_,aGZ Try.underlying24 h hf u2 (by kernel_rfl) _ rfl⟩
end
noncomputable section
theorem aEo {w:World} : ∀ {ds:List AV} {vs:List Value} {S:List Nat},RepVs w ds vs S→ ∀ d∈ds,∃ v S',RepD w d v S'
 | [],_,_,_,d,hd=>by cases hd
 |c::cs,vs,S,h,d,hd=>by
  simp only [RepVs] at h;obtain ⟨v,r,S1,S2,_,_,h3,h4⟩:=h;rcases bU.1 hd with rfl|h'
  ·exact ⟨v,S1,h3⟩
  ·exact aEo h4 d h'
theorem aEp {w:World} {b:Nat} : ∀ {ds:List AV} {o:Nat} {S:List Nat},RepCs w b o ds S→ ∀ d∈ds,∃ v S',RepD w d v S'
 | [],_,_,_,d,hd=>by cases hd
 |c::cs,o,S,h,d,hd=>by
  simp only [RepCs] at h;obtain ⟨v,S1,S2,_,_,_,_,h3,h4⟩:=h;rcases bU.1 hd with rfl|h'
  ·exact ⟨v,S1,h3⟩
  ·exact aEp h4 d h'
theorem aEq {w:World} {k b:Nat} : ∀ {es:List (List AV)} {o:Nat} {S:List Nat},RepEs w k b o es S→ ∀ cs∈es,∀ d∈cs,∃ v S',RepD w d v S'
 | [],_,_,_,cs,hc=>by cases hc
 |c::es,o,S,h,cs,hc=>by
  simp only [RepEs] at h;obtain ⟨S1,S2,_,_,h3,h4⟩:=h;rcases bU.1 hc with rfl|h'
  ·exact aEp h3
  ·exact aEq h4 cs h'
theorem aID {w:World} {k:Nat} {es:List (List AV)} {v:Value} {S:List Nat} (h:RepD w (.list k es) v S):es.length≤9223372036854775807∧ ∀ cs∈es,∀ d∈cs,∃ v S',RepD w d v S':=by
 unfold RepD at h;obtain ⟨a,c,_,h2,h3,h4⟩:=h;have hm:maxLen≤9223372036854775807:=by decide
 refine ⟨by omega,?_⟩;rcases h4 with ⟨rfl,_⟩|⟨b,o,T,_,_,_,h5⟩
 ·intro cs hcs;cases hcs
 ·exact aEq h5
theorem aKA {w:World} {l:List Int} {v:Value} {S:List Nat} (h:RepD w (aGN l) v S):fI l:=by
 have:=(aID (k:=1) (es:=List.map eI l) h).1
 rwa [fH] at this
theorem aGw {w:World} {ds:List AV} (h: ∀ d∈ds,∃ v S',RepD w d v S') {l:List Int} (hl:aGN l∈ds):fI l:=by
 obtain ⟨v,S,h⟩:=h _ hl;exact aKA h
theorem aKB {w:World} {q:Qv} (h: ∀ d∈eQ q,∃ v S',RepD w d v S'):fQ q:=⟨aGw h (by simp [eQ]),aGw h (by simp [eQ])⟩
theorem aGx {w0 w:World} {v:Value} {S:List Nat} (h:aCR w (.bl true) v S):Ending.returned v= .returned (.bool true):=by rw [h.1]
end
noncomputable section
set_option maxRecDepth 100000
def cH:Nat→(Nat→Int)→Int
 |0,_=>0
 |n+1,f=>cH n f+f n
def aBu (k:Nat) (row:List Int):List Int:=row.take k++row.drop (k+1)
def sgK (k:Nat):Int:=if Nat.beq (k % 2) 0 then 1 else -1
def aAK (det:List (List Int)→Int) (r0:List Int) (rest:List (List Int)):Nat→Int
 |0=>0
 |k+1=>wr (aAK det r0 rest k+wr (wr (sgK k*r0[k]?.getD 0)*det (rest.map (aBu k))))
def lS:Nat→List (List Int)→Int
 |0,_=>0
 |_+1,[]=>1
 |d+1,r0::rest=>aAK (lS d) r0 rest r0.length
def pX (s v:Nat):Bool:=Nat.beq (s / 2 ^ v % 2) 1
def gU (n s:Nat):List Nat:=(List.range n).filter (pX s)
def eZ (n:Nat) (T:List (List Int)) (s:Nat):List (List Int):=(gU n s).map λv=>(gU n s).map λw=>eO T v w
def pdF:Nat→(Nat→Nat→Int)→Bool
 |0,_=>true
 |n+1,m=>decide (0<m 0 0)&&pdF n (λi j=>m 0 0*m (i+1) (j+1) - m (i+1) 0*m 0 (j+1))
def mvT (n:Nat) (T:List (List Int)) (x:List Int) (v:Nat):Int:=cH n λw=>eO T v w*x[w]?.getD 0
def aIE (x:List Int) (v:Nat):List Int:=x.set v (x[v]?.getD 0+1)
def kR (n v:Nat):List Int:=(List.replicate n (0:Int)).set v 1
def aBv (x:List Int) (l:List (List Int)):List (List Int):=if x∈l then l else x::l
def wS (n:Nat) (T:List (List Int)) (l:List (List Int)):List (List Int):=(l.flatMap λx=>((List.range n).filter λv=>decide (mvT n T x v= -1)).map (aIE x)).foldr aBv []
def aEG (n:Nat) (T:List (List Int)):Nat→List (List Int)→List (List Int)→List (List Int)×Bool
 |0,cur,acc=>(acc++cur,cur.isEmpty)
 |k+1,cur,acc=>aEG n T k (wS n T cur) (acc++cur)
def tF (n:Nat) (T:List (List Int)):List (List Int)×Bool:=aEG n T 8 ((List.range n).map (kR n)) []
def aAu (n:Nat) (T:List (List Int)):Bool:=pdF n (eO T)&&(match tF n T with|(l,e)=>e&&decide (l.length≤20)&&l.all λx=>x.all λa=>decide (a≤4))
def nL (n:Nat) (T:List (List Int)):Bool:=aAu n T||[7,11,13,14,19,21,22,25,26,28,15,23,27,29,30,31].any λs=>Nat.blt s (2 ^ n)&&decide (lS 8 (eZ n T s)≤0)
def bi (b:Bool):Int:=if b then -1 else 0
theorem aKc:nL 1 [[2]]=true:=by decide+kernel
theorem aKd: ∀ a:Bool,nL 2 [[2,bi a],[bi a,2]]=true:=by decide+kernel
theorem aKe: ∀ a b c:Bool,nL 3 [[2,bi a,bi b],[bi a,2,bi c],[bi b,bi c,2]]=true:=by decide+kernel
theorem aKf: ∀ a b c d e f:Bool,nL 4 [[2,bi a,bi b,bi c],[bi a,2,bi d,bi e],[bi b,bi d,2,bi f],[bi c,bi e,bi f,2]]=true:=by decide+kernel
theorem aJG: ∀ e f g h i j:Bool,nL 5 [[2,bi false,bi false,bi false,bi false],[bi false,2,bi e,bi f,bi g],[bi false,bi e,2,bi h,bi i],[bi false,bi f,bi h,2,bi j],[bi false,bi g,bi i,bi j,2]]=true:=by decide+kernel
theorem aJH: ∀ e f g h i j:Bool,nL 5 [[2,bi true,bi false,bi false,bi false],[bi true,2,bi e,bi f,bi g],[bi false,bi e,2,bi h,bi i],[bi false,bi f,bi h,2,bi j],[bi false,bi g,bi i,bi j,2]]=true:=by decide+kernel
theorem aJI: ∀ e f g h i j:Bool,nL 5 [[2,bi false,bi true,bi false,bi false],[bi false,2,bi e,bi f,bi g],[bi true,bi e,2,bi h,bi i],[bi false,bi f,bi h,2,bi j],[bi false,bi g,bi i,bi j,2]]=true:=by decide+kernel
theorem aJJ: ∀ e f g h i j:Bool,nL 5 [[2,bi true,bi true,bi false,bi false],[bi true,2,bi e,bi f,bi g],[bi true,bi e,2,bi h,bi i],[bi false,bi f,bi h,2,bi j],[bi false,bi g,bi i,bi j,2]]=true:=by decide+kernel
theorem aJK: ∀ e f g h i j:Bool,nL 5 [[2,bi false,bi false,bi true,bi false],[bi false,2,bi e,bi f,bi g],[bi false,bi e,2,bi h,bi i],[bi true,bi f,bi h,2,bi j],[bi false,bi g,bi i,bi j,2]]=true:=by decide+kernel
theorem aJL: ∀ e f g h i j:Bool,nL 5 [[2,bi true,bi false,bi true,bi false],[bi true,2,bi e,bi f,bi g],[bi false,bi e,2,bi h,bi i],[bi true,bi f,bi h,2,bi j],[bi false,bi g,bi i,bi j,2]]=true:=by decide+kernel
theorem aJM: ∀ e f g h i j:Bool,nL 5 [[2,bi false,bi true,bi true,bi false],[bi false,2,bi e,bi f,bi g],[bi true,bi e,2,bi h,bi i],[bi true,bi f,bi h,2,bi j],[bi false,bi g,bi i,bi j,2]]=true:=by decide+kernel
theorem aJN: ∀ e f g h i j:Bool,nL 5 [[2,bi true,bi true,bi true,bi false],[bi true,2,bi e,bi f,bi g],[bi true,bi e,2,bi h,bi i],[bi true,bi f,bi h,2,bi j],[bi false,bi g,bi i,bi j,2]]=true:=by decide+kernel
theorem aJO: ∀ e f g h i j:Bool,nL 5 [[2,bi false,bi false,bi false,bi true],[bi false,2,bi e,bi f,bi g],[bi false,bi e,2,bi h,bi i],[bi false,bi f,bi h,2,bi j],[bi true,bi g,bi i,bi j,2]]=true:=by decide+kernel
theorem aJP: ∀ e f g h i j:Bool,nL 5 [[2,bi true,bi false,bi false,bi true],[bi true,2,bi e,bi f,bi g],[bi false,bi e,2,bi h,bi i],[bi false,bi f,bi h,2,bi j],[bi true,bi g,bi i,bi j,2]]=true:=by decide+kernel
theorem aIF: ∀ e f g h i j:Bool,nL 5 [[2,bi false,bi true,bi false,bi true],[bi false,2,bi e,bi f,bi g],[bi true,bi e,2,bi h,bi i],[bi false,bi f,bi h,2,bi j],[bi true,bi g,bi i,bi j,2]]=true:=by decide+kernel
theorem aIG: ∀ e f g h i j:Bool,nL 5 [[2,bi true,bi true,bi false,bi true],[bi true,2,bi e,bi f,bi g],[bi true,bi e,2,bi h,bi i],[bi false,bi f,bi h,2,bi j],[bi true,bi g,bi i,bi j,2]]=true:=by decide+kernel
theorem aIH: ∀ e f g h i j:Bool,nL 5 [[2,bi false,bi false,bi true,bi true],[bi false,2,bi e,bi f,bi g],[bi false,bi e,2,bi h,bi i],[bi true,bi f,bi h,2,bi j],[bi true,bi g,bi i,bi j,2]]=true:=by decide+kernel
theorem aII: ∀ e f g h i j:Bool,nL 5 [[2,bi true,bi false,bi true,bi true],[bi true,2,bi e,bi f,bi g],[bi false,bi e,2,bi h,bi i],[bi true,bi f,bi h,2,bi j],[bi true,bi g,bi i,bi j,2]]=true:=by decide+kernel
theorem aIJ: ∀ e f g h i j:Bool,nL 5 [[2,bi false,bi true,bi true,bi true],[bi false,2,bi e,bi f,bi g],[bi true,bi e,2,bi h,bi i],[bi true,bi f,bi h,2,bi j],[bi true,bi g,bi i,bi j,2]]=true:=by decide+kernel
theorem aIK: ∀ e f g h i j:Bool,nL 5 [[2,bi true,bi true,bi true,bi true],[bi true,2,bi e,bi f,bi g],[bi true,bi e,2,bi h,bi i],[bi true,bi f,bi h,2,bi j],[bi true,bi g,bi i,bi j,2]]=true:=by decide+kernel
theorem aKg (a b c d e f g h i j:Bool):nL 5 [[2,bi a,bi b,bi c,bi d],[bi a,2,bi e,bi f,bi g],[bi b,bi e,2,bi h,bi i],[bi c,bi f,bi h,2,bi j],[bi d,bi g,bi i,bi j,2]]=true:=by
 cases a <;> cases b <;> cases c <;> cases d
 ·exact aJG e f g h i j
 ·exact aJO e f g h i j
 ·exact aJK e f g h i j
 ·exact aIH e f g h i j
 ·exact aJI e f g h i j
 ·exact aIF e f g h i j
 ·exact aJM e f g h i j
 ·exact aIJ e f g h i j
 ·exact aJH e f g h i j
 ·exact aJP e f g h i j
 ·exact aJL e f g h i j
 ·exact aII e f g h i j
 ·exact aJJ e f g h i j
 ·exact aIG e f g h i j
 ·exact aJN e f g h i j
 ·exact aIK e f g h i j
end
noncomputable section
theorem bY {f g:Nat→Int} : ∀ {n:Nat},(∀ i,i<n→f i=g i)→cH n f=cH n g
 |0,_=>rfl
 |n+1,h=>by simp only [cH];rw [bY (n:=n) λi hi=>h i (by omega),h n (by omega)]
theorem nM (f:Nat→Int): ∀ n,cH (n+1) f=f 0+cH n λi=>f (i+1)
 |0=>by simp [cH]
 |n+1=>by rw [cH,nM f n];simp only [cH];omega
theorem hJ (f g:Nat→Int): ∀ n,(cH n λi=>f i+g i)=cH n f+cH n g
 |0=>by simp [cH]
 |n+1=>by simp only [cH];rw [hJ f g n];omega
theorem fY (c:Int) (f:Nat→Int): ∀ n,(cH n λi=>c*f i)=c*cH n f
 |0=>by simp [cH]
 |n+1=>by simp only [cH];rw [fY c f n,Int.mul_add]
theorem lD: ∀ n,(cH n λ_=>(0:Int))=0
 |0=>rfl
 |n+1=>by simp only [cH];rw [lD n];rfl
theorem wT {f:Nat→Int} : ∀ {n:Nat},(∀ i,i<n→0≤f i)→0≤cH n f
 |0,_=>Int.le_refl 0
 |n+1,h=>by simp only [cH];have:=wT (n:=n) λi hi=>h i (by omega);have:=h n (by omega);omega
theorem qW {f:Nat→Int} : ∀ {n:Nat},0<cH n f→ ∃ i,i<n∧0<f i
 |0,h=>absurd h (by simp [cH])
 |n+1,h=>by
  simp only [cH] at h;by_cases h1:0<f n
  ·exact ⟨n,by omega,h1⟩
  ·obtain ⟨i,h2,h3⟩:=qW (f:=f) (n:=n) (by omega);exact ⟨i,by omega,h3⟩
theorem aKV {f:Nat→Int} {n i:Nat} (h: ∀ i,i<n→0≤f i) (hi:i<n):f i≤cH n f:=by
 induction n with
 |zero=>omega
 |succ n ih=>
  simp only [cH];have h1:=wT (f:=f) (n:=n) λi hi=>h i (by omega);by_cases e:i=n
  ·subst e;omega
  ·have:=ih (λi hi=>h i (by omega)) (by omega);have:=h n (by omega);omega
theorem pG {n v:Nat} (f:Nat→Int) (hv:v<n):(cH n λi=>if i=v then f i else 0)=f v:=by
 induction n with
 |zero=>omega
 |succ n ih=>
  simp only [cH];by_cases e:v=n
  ·subst e;rw [aW rfl,bY (g:=λ_=>0) (λi hi=>aR (by omega)),lD];omega
  ·rw [ih (by omega),aR (λh=>e h.symm)];omega
def qf (n:Nat) (m:Nat→Nat→Int) (x:Nat→Int):Int:=cH n λi=>cH n λj=>m i j*(x i*x j)
def mv (n:Nat) (m:Nat→Nat→Int) (x:Nat→Int) (v:Nat):Int:=cH n λw=>m v w*x w
theorem aCw (n:Nat) (m:Nat→Nat→Int) (x:Nat→Int):qf n m x=cH n λi=>x i*mv n m x i:=by
 unfold qf mv;refine bY λi _=>?_;rw [←fY];exact bY λj _=>by grind
theorem aIL (n:Nat) (m:Nat→Nat→Int) (x:Nat→Int) (hs: ∀ i,i<n→m (i+1) 0=m 0 (i+1)):
  m 0 0*qf (n+1) m x=(m 0 0*x 0+cH n λj=>m 0 (j+1)*x (j+1))*(m 0 0*x 0+cH n λj=>m 0 (j+1)*x (j+1))+qf n (λi j=>m 0 0*m (i+1) (j+1) - m (i+1) 0*m 0 (j+1)) (λi=>x (i+1)):=by
 have e1:qf (n+1) m x=(m 0 0*(x 0*x 0)+x 0*cH n λj=>m 0 (j+1)*x (j+1))+(x 0*(cH n λj=>m 0 (j+1)*x (j+1))+cH n λi=>cH n λj=>m (i+1) (j+1)*(x (i+1)*x (j+1))):=by
  unfold qf;rw [nM];congr 1
  ·rw [nM,←fY];congr 1;exact bY λj _=>by grind
  ·rw [←fY,←hJ];refine bY λi hi=>?_;rw [nM,hs i hi];congr 1
   grind
 have e2:qf n (λi j=>m 0 0*m (i+1) (j+1) - m (i+1) 0*m 0 (j+1)) (λi=>x (i+1))=m 0 0*(cH n λi=>cH n λj=>m (i+1) (j+1)*(x (i+1)*x (j+1)))+(-(cH n λj=>m 0 (j+1)*x (j+1)))*cH n λj=>m 0 (j+1)*x (j+1):=by
  unfold qf;rw [←fY,←fY,←hJ];refine bY λi hi=>?_;rw [←fY,show -(cH n λj=>m 0 (j+1)*x (j+1))*(m 0 (i+1)*x (i+1))=(-(m 0 (i+1)*x (i+1)))*cH n λj=>m 0 (j+1)*x (j+1) by grind,←fY,←hJ];refine bY λj hj=>?_;dsimp only;rw [hs i hi]
  grind
 rw [e1,e2];generalize (cH n λj=>m 0 (j+1)*x (j+1))=L;generalize (cH n λi=>cH n λj=>m (i+1) (j+1)*(x (i+1)*x (j+1)))=R
 grind
theorem aFa (a:Int):0≤a*a:=by
 rcases Int.le_total 0 a with h|h
 ·exact Int.mul_nonneg h h
 ·have:=Int.mul_nonneg (Int.neg_nonneg_of_nonpos h) (Int.neg_nonneg_of_nonpos h);rwa [Int.neg_mul_neg] at this
theorem aJQ {a:Int} (h:a≠0):0<a*a:=by
 rcases Int.lt_or_gt_of_ne h with h|h
 ·have:=Int.mul_pos (Int.neg_pos_of_neg h) (Int.neg_pos_of_neg h);rwa [Int.neg_mul_neg] at this
 ·exact Int.mul_pos h h
theorem aGy: ∀ (n:Nat) (m:Nat→Nat→Int),pdF n m=true→(∀ i j,i<n→j<n→m i j=m j i)→ ∀ x:Nat→Int,0≤qf n m x∧((∃ i,i<n∧x i≠0)→0<qf n m x)
 |0,m,_,_,x=>⟨by simp [qf,cH],λ⟨i,h,_⟩=>by omega⟩
 |n+1,m,hp,hs,x=>by
  simp only [pdF,bW,iW] at hp;obtain ⟨ha,hp⟩:=hp;have ih:=aGy n _ hp (λi j hi hj=>by rw [hs (i+1) (j+1) (by omega) (by omega),hs (i+1) 0 (by omega) (by omega),hs 0 (j+1) (by omega) (by omega)];grind) (λi=>x (i+1));have id:=aIL n m x (λi hi=>hs _ _ (by omega) (by omega));generalize hL:(cH n λj=>m 0 (j+1)*x (j+1))=L at id;have hsq:=aFa (m 0 0*x 0+L);refine ⟨?_,?_⟩
  ·rcases Int.lt_or_le (qf (n+1) m x) 0 with h|h
   ·have:=Int.mul_neg_of_pos_of_neg ha h;omega
   ·exact h
  ·rintro ⟨i,hi,hx⟩
   have hpos:0<m 0 0*qf (n+1) m x:=by
    by_cases hex: ∃ i,i<n∧x (i+1)≠0
    ·have:=ih.2 hex;omega
    ·have hz: ∀ i,i<n→x (i+1)=0:=λi hi=>Classical.byContradiction λh=>hex ⟨i,hi,h⟩
     have hL0:L=0:=by
      rw [←hL,bY (g:=λ_=>0) (λj hj=>by rw [hz j hj,Int.mul_zero]),lD]
     have hx0:x 0≠0:=by
      cases i with
      |zero=>exact hx
      |succ i=>exact absurd (hz i (by omega)) hx
     have:m 0 0*x 0+L≠0:=by
      rw [hL0,Int.add_zero];exact Int.mul_ne_zero (by omega) hx0
     have:=aJQ this;have:=ih.1;omega
   rcases Int.lt_or_le 0 (qf (n+1) m x) with h|h
   ·exact h
   ·have:=Int.mul_nonpos_of_nonneg_of_nonpos (Int.le_of_lt ha) h;omega
theorem aEH {n v:Nat} (m:Nat→Nat→Int) (x:Nat→Int) (d:Int) (w:Nat) (hv:v<n):mv n m (λi=>x i+if i=v then d else 0) w=mv n m x w+d*m w v:=by
 unfold mv;rw [←pG (n:=n) (v:=v) (λi=>d*m w i) hv,←hJ];refine bY λi _=>?_;by_cases e:i=v
 ·simp only [aW e];grind
 ·simp only [aR e];grind
theorem aEI {n v:Nat} (m:Nat→Nat→Int) (x:Nat→Int) (d:Int) (hv:v<n) (hs: ∀ i j,i<n→j<n→m i j=m j i):qf n m (λi=>x i+if i=v then d else 0)=qf n m x+2*d*mv n m x v+d*d*m v v:=by
 rw [aCw,aCw]
 have e1:(cH n λi=>(x i+if i=v then d else 0)*mv n m (λi=>x i+if i=v then d else 0) i)=cH n λi=>(x i*mv n m x i+d*(m v i*x i))+if i=v then d*(mv n m x i+d*m i v) else 0:=by
  refine bY λi hi=>?_;rw [aEH m x d i hv,hs i v hi hv];by_cases e:i=v
  ·simp only [aW e];grind
  ·simp only [aR e];grind
 rw [e1,hJ,hJ,fY,pG (λi=>d*(mv n m x i+d*m i v)) hv];change _+d*mv n m x v+_=_
 grind
def gx (x:List Int) (i:Nat):Int:=x[i]?.getD 0
theorem qX {x:List Int} {v:Nat} (a:Int) (hv:v<x.length) (i:Nat):gx (x.set v a) i=if i=v then a else gx x i:=by
 unfold gx;rw [List.getElem?_set];by_cases e:v=i
 ·subst e;simp [hv]
 ·rw [aR e,aR (λh=>e h.symm)]
theorem vR {x:List Int} {v:Nat} (d:Int) (hv:v<x.length):gx (x.set v (gx x v+d))=λi=>gx x i+if i=v then d else 0:=by
 funext i;rw [qX _ hv];by_cases e:i=v
 ·subst e;simp
 ·simp [e]
theorem aGz {x y:List Int} (hl:x.length=y.length) (h: ∀ i,i<x.length→gx x i=gx y i):x=y:=by
 refine List.ext_getElem hl λi h1 h2=>?_;have:=h i h1;simpa [gx,h1,h2] using this
theorem pH: ∀ x:List Int,x.sum=cH x.length (gx x)
 | []=>rfl
 |a::x=>by
  rw [List.length_cons,nM,List.sum_cons,pH x];rfl
theorem aBw {x:List Int} {v:Nat} (d:Int) (hv:v<x.length):(x.set v (gx x v+d)).sum=x.sum+d:=by
 rw [pH,pH,List.length_set,vR d hv,hJ,pG (λ_=>d) hv]
theorem aEJ {x:List Int} (h: ∀ a∈x,0≤a):0≤x.sum:=by
 induction x with
 |nil=>simp
 |cons a x ih=>rw [List.sum_cons];have:=h a (by simp);have:=ih λb hb=>h b (by simp [hb]);omega
theorem zG: ∀ {x:List Int},(∀ a∈x,0≤a)→x.sum=0→x=List.replicate x.length 0
 | [],_,_=>rfl
 |a::x,h,hs=>by
  rw [List.sum_cons] at hs;have h1:=h a (by simp);have h2:=aEJ (x:=x) λb hb=>h b (by simp [hb]);have h3:=zG (x:=x) (λb hb=>h b (by simp [hb])) (by omega);have h4:a=0:=by omega
  rw [h4,List.length_cons,List.replicate_succ,←h3]
theorem zH: ∀ {x:List Int},(∀ a∈x,0≤a)→x.sum=1→ ∃ v,v<x.length∧x=kR x.length v
 | [],_,hs=>by simp at hs
 |a::x,h,hs=>by
  rw [List.sum_cons] at hs;have h1:=h a (by simp);have h2:=aEJ (x:=x) λb hb=>h b (by simp [hb]);by_cases e:a=0
  ·obtain ⟨v,g1,g2⟩:=zH (x:=x) (λb hb=>h b (by simp [hb])) (by omega);refine ⟨v+1,by simpa using g1,?_⟩;rw [e,List.length_cons];show _=0::kR x.length v;rw [←g2]
  ·have h3:=zG (x:=x) (λb hb=>h b (by simp [hb])) (by omega);refine ⟨0,by simp,?_⟩;have h4:a=1:=by omega
   rw [h4,List.length_cons];show _=1::List.replicate x.length 0;rw [←h3]
theorem lE {x:List Int} {i:Nat} (h:i<x.length):gx x i∈x:=by
 unfold gx;rw [kW h];exact List.getElem_mem h
theorem oO {x:List Int} {v:Nat} {a b:Int} (h:b∈x.set v a):b=a∨b∈x:=by
 rcases List.mem_or_eq_of_mem_set h with h|h
 ·exact .inr h
 ·exact .inl h
structure GForm (n:Nat) (T:List (List Int)):Prop where
 sym: ∀ i j,i<n→j<n→eO T i j=eO T j i
 diag: ∀ i,i<n→eO T i i=2
 pd:pdF n (eO T)=true
structure Rt0 (n:Nat) (T:List (List Int)) (x:List Int):Prop where
 len:x.length=n
 nn: ∀ a∈x,0≤a
 two:qf n (eO T) (gx x)=2
theorem aJR (n:Nat) (T:List (List Int)) (x:List Int) (v:Nat):mvT n T x v=mv n (eO T) (gx x) v:=rfl
theorem Rt0.pos {n:Nat} {T:List (List Int)} {x:List Int} (F:GForm n T) (r:Rt0 n T x):1≤x.sum:=by
 have h:=aEJ r.nn;rcases Int.lt_or_le x.sum 1 with h1|h1
 ·have h2:=zG r.nn (by omega);have h3:=r.two;rw [aCw,bY (g:=λ_=>0) (λi hi=>?_),lD] at h3
  ·omega
  ·rw [h2];unfold gx;rw [List.getElem?_replicate];split <;> simp
 ·exact h1
theorem Rt0.down {n:Nat} {T:List (List Int)} {x:List Int} (F:GForm n T) (r:Rt0 n T x) (h:2≤x.sum): ∃ v,v<n∧mv n (eO T) (gx x) v=1∧Rt0 n T (x.set v (gx x v+ -1)):=by
 have h1:=r.two;rw [aCw] at h1;obtain ⟨v,hv,h2⟩:=qW (n:=n) (f:=λi=>gx x i*mv n (eO T) (gx x) i) (by omega);have hvl:v<x.length:=by rw [r.len];exact hv
 have h3:=r.nn _ (lE hvl)
 have h4:0<gx x v:=by
  rcases Int.lt_or_le 0 (gx x v) with h|h
  ·exact h
  ·have:gx x v=0:=by omega
   rw [this] at h2;simp at h2
 have h5:0<mv n (eO T) (gx x) v:=by
  rcases Int.lt_or_le 0 (mv n (eO T) (gx x) v) with h|h
  ·exact h
  ·have:=Int.mul_nonpos_of_nonneg_of_nonpos h3 h;omega
 have hnn: ∀ a∈x.set v (gx x v+ -1),0≤a:=λa ha=>by
  rcases oO ha with rfl|ha
  ·omega
  ·exact r.nn a ha
 have hq:qf n (eO T) (gx (x.set v (gx x v+ -1)))=4 - 2*mv n (eO T) (gx x) v:=by
  rw [vR _ hvl,aEI _ _ _ hv F.sym,r.two,F.diag v hv];omega
 have hs:=aBw (-1) hvl
 have hpos:0<qf n (eO T) (gx (x.set v (gx x v+ -1))):=by
  refine (aGy n _ F.pd F.sym _).2 ?_;rw [pH,List.length_set,r.len] at hs;obtain ⟨i,hi,h6⟩:=qW (n:=n) (f:=gx (x.set v (gx x v+ -1))) (by omega);exact ⟨i,hi,by omega⟩
 have h7:mv n (eO T) (gx x) v=1:=by omega
 exact ⟨v,hv,h7,by rw [List.length_set];exact r.len,hnn,by omega⟩
def lvl (n:Nat) (T:List (List Int)):Nat→List (List Int)
 |0=>(List.range n).map (kR n)
 |k+1=>wS n T (lvl n T k)
theorem aEK {x y:List Int} {l:List (List Int)} :y∈aBv x l↔y=x∨y∈l:=by
 unfold aBv;split
 ·rename_i h;exact ⟨.inr,λh'=>h'.elim (λe=>e▸h) id⟩
 ·simp
theorem aAv {y:List Int} : ∀ {l:List (List Int)},y∈l.foldr aBv []↔y∈l
 | []=>by simp
 |x::l=>by rw [List.foldr_cons,aEK,aAv (l:=l),bU]
theorem aFb {n:Nat} {T:List (List Int)} {l:List (List Int)} {x:List Int} {v:Nat} (hx:x∈l) (hv:v<n) (h:mvT n T x v= -1):aIE x v∈wS n T l:=by
 unfold wS;rw [aAv,List.mem_flatMap];exact ⟨x,hx,List.mem_map.2 ⟨v,List.mem_filter.2 ⟨List.mem_range.2 hv,bB h⟩,rfl⟩⟩
theorem Rt0.lvl {n:Nat} {T:List (List Int)} (F:GForm n T): ∀ (h:Nat) {x:List Int},Rt0 n T x→x.sum=h+1→x∈lvl n T h
 |0,x,r,hs=>by
  obtain ⟨v,hv,e⟩:=zH r.nn (by omega);rw [r.len] at e hv;exact List.mem_map.2 ⟨v,List.mem_range.2 hv,e.symm⟩
 |h+1,x,r,hs=>by
  obtain ⟨v,hv,h1,h2⟩:=r.down F (by omega);have hvl:v<x.length:=by rw [r.len];exact hv
  have ih:=Rt0.lvl F h h2 (by rw [aBw _ hvl];omega)
  have h3:mvT n T (x.set v (gx x v+ -1)) v= -1:=by
   rw [aJR,vR _ hvl,aEH _ _ _ _ hv,h1,F.diag v hv];rfl
  have h4:=aFb ih hv h3
  have h5:aIE (x.set v (gx x v+ -1)) v=x:=by
   unfold aIE;change (x.set v (gx x v+ -1)).set v (gx (x.set v (gx x v+ -1)) v+1)=x;rw [qX _ hvl,aW rfl,List.set_set];refine aGz (by simp) λi _=>?_;rw [qX _ hvl];by_cases e:i=v
   ·subst e;rw [aW rfl];omega
   ·rw [aR e]
  rw [h5] at h4;exact h4
def itL (n:Nat) (T:List (List Int)) (l:List (List Int)):Nat→List (List Int)
 |0=>l
 |k+1=>itL n T (wS n T l) k
theorem zJ (n:Nat) (T:List (List Int)): ∀ (k:Nat) (l:List (List Int)),itL n T l (k+1)=wS n T (itL n T l k)
 |0,l=>rfl
 |k+1,l=>zJ n T k (wS n T l)
theorem aHB (n:Nat) (T:List (List Int)): ∀ k,lvl n T k=itL n T ((List.range n).map (kR n)) k
 |0=>rfl
 |k+1=>by rw [zJ,←aHB n T k];rfl
theorem aAw (n:Nat) (T:List (List Int)): ∀ (k:Nat) (cur acc:List (List Int)),(∀ x∈acc,x∈(aEG n T k cur acc).1)∧(∀ j x,j≤k→x∈itL n T cur j→x∈(aEG n T k cur acc).1)∧(aEG n T k cur acc).2=(itL n T cur k).isEmpty
 |0,cur,acc=>⟨λx h=>by simp [aEG,h],λj x hj hx=>by
   have:j=0:=by omega
   subst this;simp only [aEG,itL] at hx ⊢;simp [hx],rfl⟩
 |k+1,cur,acc=>by
  obtain ⟨h1,h2,h3⟩:=aAw n T k (wS n T cur) (acc++cur);refine ⟨λx h=>h1 x (by simp [h]),λj x hj hx=>?_,h3⟩;cases j with
  |zero=>exact h1 x (by simp only [itL] at hx;simp [hx])
  |succ j=>exact h2 j x (by omega) hx
theorem aCx (n:Nat) (T:List (List Int)): ∀ (d k:Nat) (l:List (List Int)),itL n T l k=[]→itL n T l (k+d)=[]
 |0,k,l,h=>h
 |d+1,k,l,h=>by
  rw [←Nat.add_assoc,zJ,aCx n T d k l h];rfl
theorem Rt0.mem {n:Nat} {T:List (List Int)} (F:GForm n T) (he:(tF n T).2=true) {x:List Int} (r:Rt0 n T x):x∈(tF n T).1:=by
 have h1:=r.pos F;obtain ⟨h,hh⟩: ∃ h:Nat,x.sum=h+1:=⟨(x.sum - 1).toNat,by omega⟩;have h2:=Rt0.lvl F h r hh;rw [aHB] at h2;obtain ⟨g1,g2,g3⟩:=aAw n T 8 ((List.range n).map (kR n)) [];unfold tF at he ⊢;rw [he] at g3;have h8:itL n T ((List.range n).map (kR n)) 8=[]:=by simpa using g3.symm
 rcases cJ 8 h with h3|h3
 ·have:=aCx n T (h - 8) 8 _ h8;rw [show 8+(h - 8)=h by omega] at this;rw [this] at h2;cases h2
 ·exact g2 h x h3 h2
theorem aAx {α:Type} [DecidableEq α]: ∀ {l m:List α},l.Nodup→(∀ x∈l,x∈m)→l.length≤m.length
 | [],m,_,_=>Nat.zero_le _
 |a::l,m,hn,hs=>by
  have h1:=hs a (by simp);have hn':=List.nodup_cons.1 hn;have h2:=aAx (l:=l) (m:=m.erase a) hn'.2 λx hx=>(List.mem_erase_of_ne (by rintro rfl;exact hn'.1 hx)).2 (hs x (by simp [hx]));have h3:=List.length_erase_of_mem h1;have h4:=List.length_pos_of_mem h1;simp only [List.length_cons];omega
theorem oE {n:Nat} {T:List (List Int)} (h:aAu n T=true):pdF n (eO T)=true∧(tF n T).2=true∧(tF n T).1.length ≤20∧ ∀ x∈(tF n T).1,∀ a∈x,a≤4:=by
 simp only [aAu,bW] at h;obtain ⟨h1,⟨h2,h3⟩,h4⟩:=h;refine ⟨h1,h2,of_decide_eq_true h3,λx hx a ha=>?_⟩;exact of_decide_eq_true (List.all_eq_true.1 (List.all_eq_true.1 h4 x hx) a ha)
theorem mO {x:List Int} {i:Nat} (h:i<x.length):cR x (i:Int)=some (gx x i):=by rw [atG 0 h];rfl
end
noncomputable section
theorem xR {c d:Bool} {o:Option Bool} (h:c=true→o=some d):(bif c then o else some false)=some (c&&d):=by cases c with|false=>rfl|true=>exact h rfl
theorem qY {c d:Bool} :(bif c then some d else some false)=some (c&&d):=by cases c <;> rfl
theorem aEr {x a b:Int} :(bif decide (a≤x) then some (decide (x≤b)) else some false)=some (sK x a b):=by
 rw [qY];unfold sK;by_cases h1:a≤x <;> by_cases h2:x≤b <;> simp [h1,h2]
theorem aCy (x a b:Int):lJ x a b=some (sK x a b):=aEr
theorem zK (x a b:Int):kE x a b=some (sK x a b):=aEr
theorem aHC {a b:List Int} (h:bI a):oM a b=some (decide (a=b)):=by
 unfold bI at h;exact aEn (body:=kZ a b) (by omega) rfl
theorem aCz {v:List Int} {f:Int→Option Bool} (P:Int→Bool) (hf: ∀ x,f x=some (P x)) (h:bI v): ∃ i:Int,cV v f=some i∧decide (0≤i)=v.any P:=by
 unfold bI at h;unfold cV;rw [aAf (s0:=0) (s:=0) (n:=v.length) (λk=>bif P (v[k]?.getD 0) then some (k:Int) else none) rfl (by omega) (Nat.zero_le _) (λk _ hk=>?_) (λ_=>?_)]
 ·rw [aB];cases e:(List.range' 0 (v.length - 0)).findSome? (λk:Nat=>bif P (v[k]?.getD 0) then some (k:Int) else none) with
  |none=>
   refine ⟨-1,rfl,?_⟩;rw [List.findSome?_eq_none_iff] at e
   have:v.any P=false:=by
    rw [List.any_eq_false];intro x hx;obtain ⟨k,hk,rfl⟩:=List.mem_iff_getElem.1 hx;have:=e k (by simp;omega);simp only [kW hk,mZ] at this;cases hp:P v[k] with
    |false=>simp
    |true=>rw [hp] at this;cases this
   rw [this];rfl
  |some i=>
   refine ⟨i,rfl,?_⟩;obtain ⟨k,hk,he⟩:=List.exists_of_findSome?_eq_some e;simp at hk;have hkl:k<v.length:=by omega
   rw [kW hkl] at he;simp only [mZ] at he;cases hp:P v[k] with
   |false=>rw [hp] at he;cases he
   |true=>
    rw [hp] at he;cases he;rw [bB (by omega),eq_comm,List.any_eq_true];exact ⟨_,List.getElem_mem hkl,hp⟩
 ·unfold bZ;rw [nY hk,aG,atG 0 hk,aB,hf,aB];cases P _ <;> rfl
 ·unfold bZ;rw [oJ (bP _),aL]
theorem wU {v:List Int} (h:bI v) (a b:Int):gP v a b=some (v.all λx=>sK x a b):=by
 unfold gP cA;obtain ⟨i,h1,h2⟩:=aCz (f:=λb0=>fM b0 a b) (λx=> !sK x a b) (λx=>by simp only [fM];rw [aCy,aB]) h;rw [h1,aB,aB,h2,List.not_any_eq_all_not];simp
def aKC (p:Int) (m:Mt):Bool:=sK m.rows 0 8&&(sK m.cols 0 8&&(decide ((m.cells.length:Int)=wr (m.rows*m.cols))&&(isF p&&decide (m.cells.length≤64)&&m.cells.all λx=>sK x 0 (wr (p - 1)))))
theorem aJS {p:Int} {m:Mt} (h:aKC p m=true):isF p=true∧ ∃ (r c:Nat) (F:Nat→Nat→Int),r≤8∧c≤8∧m=⟨r,c,aGS r c F⟩∧ ∀ i j,i<r→j<c→0≤F i j∧F i j<p:=by
 unfold aKC at h;simp only [bW,iW,List.all_eq_true] at h;obtain ⟨h1,h2,h3,⟨h4,h5⟩,h6⟩:=h;have h1:=oX h1;have h2:=oX h2;refine ⟨h4,m.rows.toNat,m.cols.toNat,λi j=>m.cells[i*m.cols.toNat+j]?.getD 0,by omega,by omega,?_,?_⟩
 ·obtain ⟨a,b,l⟩:=m;simp only at*;obtain ⟨r,rfl⟩:=Int.eq_ofNat_of_zero_le h1.1;obtain ⟨c,rfl⟩:=Int.eq_ofNat_of_zero_le h2.1;have hb:r*c≤64:=Nat.mul_le_mul (by omega:r≤8) (by omega:c≤8);rw [aKZ (by omega)] at h3;simp only [eC];rw [←aHs (by omega)]
 ·intro i j hi hj;show 0≤m.cells[i*m.cols.toNat+j]?.getD 0∧m.cells[i*m.cols.toNat+j]?.getD 0<p;have hx:=aJk hi hj
  have e:((m.rows.toNat*m.cols.toNat:Nat):Int)=m.rows*m.cols:=by
   rw [Int.natCast_mul,Int.toNat_of_nonneg h1.1,Int.toNat_of_nonneg h2.1]
  have hb:m.rows.toNat*m.cols.toNat≤64:=Nat.mul_le_mul (by omega:m.rows.toNat≤8) (by omega:m.cols.toNat≤8);rw [eD (by omega)] at h3;have hl:i*m.cols.toNat+j<m.cells.length:=by omega
  have:=oX (h6 _ (List.getElem_mem hl));rw [kW hl,mZ];have hp:=aIr h4;rw [eD (by omega)] at this;omega
def qH (q:Qv):Bool:=sK q.n 1 5&&(decide ((q.src.length:Int)=(q.tgt.length:Int))&&(decide ((q.src.length:Int)≤6)&&((q.src.all λx=>sK x 0 (wr (q.n - 1)))&&(q.tgt.all λx=>sK x 0 (wr (q.n - 1))))))
theorem aEs {q:Qv} (h:bQ q):jQ q=some (qH q):=by
 unfold jQ qH;rw [aCy,aB];refine xR λ_=>xR λ_=>xR λ_=>?_;rw [wU h.1,aB];refine xR λ_=>?_;rw [wU h.2.1,aB]
theorem xS {q:Qv} (h:bQ q):eU q=some (qH q):=by
 obtain ⟨h1,h2,_⟩:=h;unfold bI at h1 h2;unfold eU;rw [aBh (n:=min q.src.length q.tgt.length) (λk=>sK (q.src[k]?.getD 0) 0 (wr (q.n - 1))&&sK (q.tgt[k]?.getD 0) 0 (wr (q.n - 1))) false (by omega) (λk hk=>?_) (λ_=>?_)]
 ·rw [aB];unfold qH;by_cases e:q.src.length=q.tgt.length
  ·have e2:min q.src.length q.tgt.length=q.src.length:=by omega
   have hall:(List.range q.src.length).all (λk=>sK (q.src[k]?.getD 0) 0 (wr (q.n - 1))&&sK (q.tgt[k]?.getD 0) 0 (wr (q.n - 1)))=((q.src.all λx=>sK x 0 (wr (q.n - 1)))&&(q.tgt.all λx=>sK x 0 (wr (q.n - 1)))):=by
    rw [←vI 0 q.src,←vI 0 q.tgt,←e];rw [Bool.eq_iff_iff,bW,rS,rS,rS];simp only [bW];exact ⟨λh=>⟨λk hk=>(h k hk).1,λk hk=>(h k hk).2⟩,λh k hk=>⟨h.1 k hk,h.2 k hk⟩⟩
   rw [e2,hall,bB (by omega:(q.src.length:Int)=(q.tgt.length:Int))];cases (q.src.all λx=>sK x 0 (wr (q.n - 1)))&&(q.tgt.all λx=>sK x 0 (wr (q.n - 1))) with
   |false=>simp
   |true=>
    simp only [aG,Sum.elim_inl];rw [zK,aB,bB (by omega:(q.tgt.length:Int)=(q.src.length:Int)),qY,qY];simp
  ·rw [dH (by omega: ¬ (q.src.length:Int)=(q.tgt.length:Int))];simp only [Bool.false_and,Bool.and_false];cases (List.range (min q.src.length q.tgt.length)).all _ with
   |false=>rfl
   |true=>
    simp only [aG,Sum.elim_inl];rw [zK,aB,dH (by omega: ¬ (q.tgt.length:Int)=(q.src.length:Int)),qY,qY];simp
 ·unfold gW;rw [nY (by omega),aG,nY (by omega),aG,atG 0 (by omega),aB,zK,aB,atG 0 (by omega),aB,zK,aB];cases sK (q.src[k]?.getD 0) 0 (wr (q.n - 1)) <;> cases sK (q.tgt[k]?.getD 0) 0 (wr (q.n - 1)) <;> rfl
 ·unfold gW;by_cases e:q.src.length≤q.tgt.length
  ·rw [oJ (by omega),aL]
  ·rw [nY (by omega),aG,oJ (by omega),aL]
theorem aDA {q:Qv} (h:qH q=true): ∃ n:Nat,q.n=n∧1≤n∧n≤5∧q.src.length=q.tgt.length∧q.src.length≤6∧(∀ x∈q.src,0≤x∧x<n)∧ ∀ x∈q.tgt,0≤x∧x<n:=by
 unfold qH at h;simp only [bW,iW,List.all_eq_true] at h;obtain ⟨h1,h2,h3,h4,h5⟩:=h;have h1:=oX h1;rw [eD (by omega)] at h4 h5;refine ⟨q.n.toNat,by omega,by omega,by omega,by omega,by omega,λx hx=>?_,λx hx=>?_⟩
 ·have:=oX (h4 x hx);omega
 ·have:=oX (h5 x hx);omega
theorem aHD {d:List Int} (h: ∀ x∈d,0≤x∧x≤4):0≤d.sum∧d.sum≤4*d.length:=by
 induction d with
 |nil=>simp
 |cons x d ih=>
  have h1:=h x (by simp);have h2:=ih λy hy=>h y (by simp [hy]);simp only [List.sum_cons,List.length_cons];omega
theorem aHE {d:List Int} {k:Nat} (hk:k<d.length):(d.take (k+1)).sum=(d.take k).sum +d[k]?.getD 0:=by
 rw [sI hk,List.sum_append];simp [hk]
theorem aEt {d:List Int} (h: ∀ x∈d,0≤x∧x≤4) (hl:d.length≤1048576):kO d=some d.sum:=by
 unfold kO;rw [iX (r:=d.sum) (λk=>((d.take k).sum,(k:Int))) d.length (by simp) (λk hk=>?_) (λ_=>?_)];rfl
 ·unfold jP;simp only;rw [nY hk,aG,atG 0 hk,aB,cO hk (by omega)];have h1:=aHD (d:=d.take (k+1)) λx hx=>h x (List.mem_of_mem_take hx);rw [←aHE hk,eD (by simp at h1;omega)]
 ·unfold jP;simp only;rw [oJ (bP _),aL,List.take_length]
end
noncomputable section
set_option maxRecDepth 10000
set_option maxHeartbeats 1000000 in
theorem aIM (x y:Nat) (hx:x<18446744073709551616) (hy:y<18446744073709551616) (w:World):
  Calls Try.prog 77 #[.int .u64 x,.int .u64 y] w λe w'=>e= .returned (.tuple #[.int .u64 ((x*y / 18446744073709551616:Nat):Int),.int .u64 ((x*y % 18446744073709551616:Nat):Int)])∧w'=w:=by
 obtain ⟨bd,bt,bw,hhi⟩:=Lib.mul64_hi x y hx hy;have ba:=Lib.half_mul_le (a:=x / 4294967296) (b:=y / 4294967296) (by omega) (by omega);have bb:=Lib.half_mul_le (a:=x / 4294967296) (b:=y % 4294967296) (by omega) (by omega);have bc:=Lib.half_mul_le (a:=x % 4294967296) (b:=y / 4294967296) (by omega) (by omega);have ba':x / 4294967296*(y / 4294967296)<18446744073709551616:=by omega
 have bb':x / 4294967296*(y % 4294967296)<18446744073709551616:=by omega
 have bc':x % 4294967296*(y / 4294967296)<18446744073709551616:=by omega
 have bh1:x / 4294967296*(y / 4294967296)+(x / 4294967296*(y % 4294967296)+x % 4294967296*(y % 4294967296) / 4294967296) / 4294967296<18446744073709551616:=by omega
 have bh:x / 4294967296*(y / 4294967296)+(x / 4294967296*(y % 4294967296)+x % 4294967296*(y % 4294967296) / 4294967296) / 4294967296+((x / 4294967296*(y % 4294967296)+x % 4294967296*(y % 4294967296) / 4294967296) % 4294967296+x % 4294967296*(y / 4294967296)) / 4294967296<18446744073709551616:=by omega
 go_enter Try.func77,Try.ntmps77
 go_wp2
 simp only [Mul64.maskN x hx,Mul64.maskN y hy,Mul64.divN,Mul64.mulN,Mul64.addN,Mul64.wrapN _ bd,Mul64.wrapN _ bb',Mul64.wrapN _ bt,Mul64.maskN _ bt,Mul64.wrapN _ bc',Mul64.wrapN _ bw,Mul64.wrapN _ ba',Mul64.wrapN _ bh1,Mul64.wrapN _ bh,Mul64.wrapM (x*y)];rw [hhi]
 go_ret2
 exact ⟨rfl,rfl⟩
set_option maxHeartbeats 1000000 in
theorem aKD (x y:Nat) (hx:x<18446744073709551616) (hy:y<18446744073709551616) (w:World):
  Calls Try.prog 72 #[.int .u64 x,.int .u64 y] w λe w'=>e= .returned (.tuple #[.int .u64 ((x*y / 18446744073709551616:Nat):Int),.int .u64 ((x*y % 18446744073709551616:Nat):Int)])∧w'=w:=by
 have c64:=aIM x y hx hy w
 go_enter Try.func72,Try.ntmps72
 go_wp2_with (go_at_call 77;refine c64.mono ?_;rintro e w' ⟨rfl,hw⟩;rw [hw])
 go_ret2
 exact ⟨rfl,rfl⟩
theorem aIk (x y:Nat) (hx:x<18446744073709551616) (hy:y<18446744073709551616) (hxy:x*y<18446744073709551616):HasC Try.prog 72 [.sc (.int .u64 x),.sc (.int .u64 y)] (.tuple [.sc (.int .u64 0),.sc (.int .u64 ((x*y:Nat):Int))]):=by
 refine ⟨Enters.mk Try.func72 (by kernel_rfl) (by kernel_rfl),λw args S hargs=>?_⟩;obtain ⟨args⟩:=args;simp only [RepVs] at hargs;obtain ⟨v,r,S1,S2,h1,rfl,h3,v2,r2,S3,S4,h4,rfl,h6,rfl,rfl⟩:=hargs;simp only [RepD] at h3 h6;obtain ⟨rfl,_,rfl⟩:=h3;obtain ⟨rfl,_,rfl⟩:=h6;subst h4;subst h1;refine (aKD x y hx hy w).mono λe w' ⟨he,hw⟩=>?_;subst hw;refine ⟨_,[],he,Below.refl _ _,⟨_,rfl,?_⟩,New.nil _⟩;have e1:x*y / 18446744073709551616=0:=Nat.div_eq_of_lt hxy;have e2:x*y % 18446744073709551616=x*y:=Nat.mod_eq_of_lt hxy;rw [e1,e2];exact ⟨_,_,[],[],rfl,rfl,⟨rfl,rfl,rfl⟩,_,_,[],[],rfl,rfl,⟨rfl,rfl,rfl⟩,rfl,rfl⟩
theorem xT (n:Nat) (hn:n<9223372036854775808) (w:World):(convert 3 73 (.int .i64 n)).run Try.prog w= .ok (.int .u64 n) w:=by
 have e:IntKind.u64.wrap (n:Int)=(n:Int):=by rw [IntKind.wrap_u64];omega
 simp [convert,go_sem,Try.underlying3,Try.underlying73,e]
theorem aEu (n:Nat) (hn:n<9223372036854775808) (w:World):(convert 73 3 (.int .u64 n)).run Try.prog w= .ok (.int .i64 n) w:=by
 have e:IntKind.i64.wrap (n:Int)=(n:Int):=by rw [IntKind.wrap_i64];omega
 simp [convert,go_sem,Try.underlying3,Try.underlying73,e]
theorem aHF (c:Int) (n:Nat) (h0:0<n) (hn:n≤1048576):HasC Try.prog 61 [.list 1 ([c].map eI),.int n] (.list 1 ((List.replicate n c).map eI)):=by
 refine tZ aJ (ns:=[0,1,2,3,4,5,6,7]) Try.func61 rfl rfl Try.ntmps61 rfl rfl rfl ?_
 repeat (first|refine dD ?_|refine fJ ?_|refine cN ?_|refine jB ?_|refine aE (cI rfl) rfl rfl rfl ?_|refine aE (dI rfl) rfl rfl rfl ?_|refine aE (qF rfl rfl rfl) rfl rfl rfl ?_)
 refine jN rfl (λh=>?_) (λh=>?_)
 ·simp at h;omega
 repeat (first|refine fJ ?_|refine cN ?_|refine aI ?_|refine aE (cI rfl) rfl rfl rfl ?_|refine aE (nE aJ rfl rfl rfl) rfl rfl rfl ?_)
 refine aE (kC (u:= .int .i64 ((1:Nat):Int)) rfl rfl (xT 1 (by omega))) rfl rfl rfl ?_
 repeat (first|refine aE (cI rfl) rfl rfl rfl ?_)
 refine aE (kC (u:= .int .i64 (n:Int)) rfl rfl (xT n (by omega))) rfl rfl rfl ?_;refine aE (uA (aIk 1 n (by omega) (by omega) (by omega)) rfl rfl rfl rfl (rT trivial (rT trivial aDo)) (bH (uC rfl) (bH (uC rfl) bF))) rfl rfl rfl ?_
 repeat (first|refine dD ?_|refine fJ ?_|refine cN ?_|refine jB ?_|refine aE (cI rfl) rfl rfl rfl ?_|refine aE (dI rfl) rfl rfl rfl ?_|refine aE (qF rfl rfl rfl) rfl rfl rfl ?_|refine aE (oS rfl rfl) rfl rfl rfl ?_|refine aE (fC rfl rfl (by intro _ h;cases h)) rfl rfl rfl ?_)
 refine jN rfl (λh=>?_) (λh=>?_)
 ·have:=of_decide_eq_true h;omega
 repeat (first|refine fJ ?_|refine cN ?_|refine aI ?_|refine aE (cI rfl) rfl rfl rfl ?_)
 refine aE (kC (u:= .int .u64 ((1*n:Nat):Int)) rfl rfl (aEu (1*n) (by omega))) rfl rfl rfl ?_;refine aE (AEff.conv (qS aJ (n:=((1*n:Nat):Int)) (by simp;omega) rfl rfl rfl rfl rfl rfl rfl rfl) (v':= .own 0 0 n) (ed':=[(0,some ⟨1,(List.replicate n (0:Int)).map (ow eI)⟩)]) (by simp) (by rw [←sZ];simp only [eC,Nat.one_mul];rfl)) rfl rfl rfl ?_
 repeat (first|refine dD ?_|refine fJ ?_|refine cN ?_|refine aE (cI rfl) rfl rfl rfl ?_|refine aE (dI rfl) rfl rfl rfl ?_)
 refine aE (AEff.conv (aGr aJ (i:=0) (l:=List.replicate n (0:Int)) (m:=[c]) (by simp;omega) (by simp) rfl rfl rfl rfl rfl rfl rfl rfl) (v':= .int ((1:Nat):Int)) (ed':=[(0,some ⟨1,(List.replicate 1 c++List.replicate (n - 1) 0).map (ow eI)⟩)])
  (by rw [show min [c].length n=1 by simp;omega]) (by rw [show min [c].length n=1 by simp;omega];simp [List.drop_replicate])) rfl rfl rfl ?_
 repeat (first|refine dD ?_|refine fJ ?_|refine aC ?_|refine aE (dI rfl) rfl rfl rfl ?_)
 refine xL (ι:=Nat) (λk=>mkS [(7,.own 0 0 n),(8,.int k)] [(0,⟨1,(List.replicate k c++List.replicate (n - k) 0).map (ow eI)⟩)] 1 [1,2,3,4]) (λk=>1≤k∧k≤n) (λk=>n - k) 1 ⟨bP _,h0⟩ ?_ ?_
 ·refine iA (σ:=sg [(0,0)]) ⟨⟨_,rfl,⟨rfl,rfl,rfl,rfl⟩⟩,⟨_,rfl,rfl⟩,trivial⟩ ⟨⟨_,rfl,rfl,.inl ⟨rfl,mT _⟩⟩,rfl,trivial⟩ rfl
 ·rintro k ⟨hk1,hkn⟩
  repeat (first|refine dD ?_|refine fJ ?_|refine cN ?_|refine jB ?_|refine aE (cI rfl) rfl rfl rfl ?_|refine aE (qF rfl rfl rfl) rfl rfl rfl ?_|refine aE (eB aJ rfl rfl rfl rfl) rfl rfl rfl ?_)
  refine jN rfl (λh=>?_) (λh=>?_)
  ·have hlt:k<n:=by have:=of_decide_eq_true h;omega
   clear h
   repeat (first|refine jB ?_|refine aN MIX ?_|refine aC ?_|refine aI ?_|refine aE (cI rfl) rfl rfl rfl ?_)
   refine aE (AEff.val (oC aJ (l:=(k:Int)) (h:=(n:Int)) (by simp;omega) rfl rfl rfl rfl rfl rfl rfl rfl) (v':= .own 0 k (n - k)) (by simp)) rfl rfl rfl ?_
   repeat (first|refine aE (cI rfl) rfl rfl rfl ?_)
   refine aE (AEff.val (oC aJ (l:=(0:Int)) (h:=(k:Int)) (by simp;omega) rfl rfl rfl rfl rfl rfl rfl rfl) (v':= .own 0 0 k) (by simp)) rfl rfl rfl ?_
   refine aE (AEff.conv (aGr aJ (i:=k) (nd:=n - k) (l:=List.replicate k c++List.replicate (n - k) 0) (m:=(((List.replicate k c++List.replicate (n - k) 0).drop 0).take k)) (by simp;omega) (by simp;omega) rfl rfl rfl (aJB mK rfl) rfl rfl rfl rfl) (v':= .int ((min k (n - k):Nat):Int)) (ed':=[(0,some ⟨1,(List.replicate (k+min k (n - k)) c++List.replicate (n - (k+min k (n - k))) 0).map (ow eI)⟩)])
    (by congr 3;simp) ?_) rfl rfl rfl ?_
   ·have e1:(((List.replicate k c++List.replicate (n - k) 0).drop 0).take k)=List.replicate k c:=by simp
    rw [e1,List.length_replicate];congr 4;rw [List.take_left' (by simp),List.take_replicate,List.drop_append,List.drop_of_length_le (by simp),List.nil_append,List.drop_replicate,List.length_replicate,List.replicate_append_replicate,show min (min k (n - k)) k=min k (n - k) by omega,show n - k - (k+min k (n - k) - k)=n - (k+min k (n - k)) by omega]
   refine aE (bO rfl rfl) rfl rfl rfl ?_
   repeat (first|refine dD ?_|refine aE (dI rfl) rfl rfl rfl ?_)
   refine ⟨by kernel_rfl,?_⟩
   repeat (first|refine jB ?_|refine aV ?_)
   refine ⟨k+min k (n - k),⟨by omega,by omega⟩,by omega,?_⟩;refine iA (σ:=sg [(0,0)]) ⟨⟨_,rfl,⟨rfl,rfl,rfl,rfl⟩⟩,⟨_,rfl,?_⟩,trivial⟩ ⟨⟨_,rfl,rfl,.inl ⟨rfl,mT _⟩⟩,rfl,trivial⟩ rfl;show Value.int .i64 (wr ((k:Int)+((min k (n - k):Nat):Int)))=_;rw [aAe (by omega)];rfl
  ·have hlt:k=n:=by have:=of_decide_eq_false h;omega
   subst hlt;clear h
   repeat (first|refine dD ?_|refine fJ ?_|refine cN ?_|refine jB ?_|refine bC ?_|refine aO ?_|refine aE (cI rfl) rfl rfl rfl ?_|refine aE (dI rfl) rfl rfl rfl ?_)
   refine eJ rfl rfl rfl ?_;have e1:(List.replicate k c++List.replicate (k - k) (0:Int))=List.replicate k c:=by simp
   refine nZ (uD mK (l:=List.replicate k c) ?_ (by simp));show some (⟨1,(List.replicate k c++List.replicate (k - k) (0:Int)).map (ow eI)⟩:Blk)=some ⟨1,(List.replicate k c).map (ow eI)⟩;rw [e1]
end
end Go.Proofs.Ytpppcfhgaehcjaa

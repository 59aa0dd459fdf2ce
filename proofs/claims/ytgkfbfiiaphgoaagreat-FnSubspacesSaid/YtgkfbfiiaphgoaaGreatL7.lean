/-
  Several texts of the claim in one.
-/
import Derived.Lib.AppendZerosOnto
import Derived.Test.YtgkfbfiiaphgoaaGreatProg
import Derived.Test.YtgkfbfiiaphgoaaGreatL6
set_option linter.unusedVariables false
set_option linter.unusedSimpArgs false
namespace Go.Proofs.YtgkfbfiiaphgoaaGreat
open Go.RowKit
noncomputable section
set_option maxRecDepth 10000
def aLf (hp:Hp) (touch:List Nat):List (Nat×Option Blk)→Prop
 | []=>True
 |(b,x)::r=>hp b=x∧touch.contains b=true∧aLf hp touch r
theorem aCe {hp h:Hp} {touch:List Nat} (ht: ∀ b∈touch,h b=hp b): ∀ {ed:List (Nat×Option Blk)},aLf hp touch ed→bU ed h=h
 | [],_=>rfl
 |(b,x)::r,⟨h1,h2,h3⟩=>by
  funext c;simp only [bU];by_cases e:c=b
  ·subst e;rw [cE,aQ,←h1,ht c (by simpa using h2)]
  ·rw [cN e,aV,aCe ht h3]
theorem AEff.pureE {P:Program} {o:Oper} {ins:Operand→Option AV} {hp:Hp} {κ:Kp} {v:AV} {tc:List Nat} {ed:List (Nat×Option Blk)} (h:AEff P o ins hp κ ⟨v,tc,ed,[]⟩) (hs:aLf hp tc ed):AEff P o ins hp κ ⟨v,tc,[],[]⟩:=by
 refine ⟨λC s ν a w Q K {hκ} hi ht hn hd hsim hK=>h.out C s ν a w Q K (hκ:=hκ) hi ht hn hd hsim λν' a' w' hs'=>hK ν' a' w' ?_⟩
 have e:s.app o.dst ⟨v,tc,ed,[]⟩=s.app o.dst ⟨v,tc,[],[]⟩:=by
  unfold AState.app;rw [aCe ht hs];rfl
 rw [←e];exact hs'
theorem aBW {P:Program} {t tn e bytes:Nat} {size:Nat} (et:ElemTy P t e size bytes) (htn:P.underlying tn=some (.int .i64)) (hs:0<size) (w:World) (n:Nat) (h0:0<n) (hn:n≤1048576) (hb:n*bytes≤140737488355328) (ty:Nat):
  ∃ G cur,n≤G∧G≤maxLen∧cur.size=G*size∧(Builtin.append_ #[t,tn] ty #[.slice none 0 0,.int .i64 n]).run P w= .ok (.slice (some ⟨w.heap.size,0,none⟩) n G) (w.drew.alloc (.cells cur e)):=by
 obtain ⟨i,z,h1,h2,h3,h4,h5⟩:=et.hi;have hold:(Builtin.firstCells i.size 0 (.slice none 0 0)).run P w.drew= .ok ([]:List Value).toArray w.drew:=run_firstCells_none w.drew i.size 0 0 0;have h:=Lib.run_append_grow_zeros w t tn ty e i z .i64 .i64 et.ht htn h1 h2 none 0 0 [] hold n h0 (by rw [h3];exact hs) (by omega) (by omega) (by rw [h4];omega) (growslice_fits (by omega) (by rw [h4];simpa using hb));have hG:=grownCap_ge w (0+n) 0 e;have hM:=grownCap_le_maxLen w (0+n) 0 e (by unfold maxLen;omega);rw [Nat.zero_add] at h hG hM;refine ⟨grownCap w n 0 e,_,hG,hM,?_,h⟩;simp only [Array.size_append,List.size_toArray,List.length_nil,Nat.zero_add];unfold Builtin.zeroCells;simp only [Array.size_map,Array.size_range,h5];rw [←Nat.add_mul];congr 1;omega
set_option maxRecDepth 100000 in
set_option maxHeartbeats 1000000 in
theorem aMl (n:Nat) (w:World) (hn:n≤1048576):
  Calls Tryz.prog 231 #[.slice none 0 0,.int .i64 n] w (Ret w λv w'=> ∃ S,Own 3 aCm w' w.heap.size v [] S):=by
 by_cases h0:n=0
 ·subst h0;show Calls Tryz.prog 231 #[.slice none 0 0,.int .i64 0] w _
  go_enter Tryz.func231,Tryz.ntmps231
  go_wp2
  go_ret
  exact ⟨_,rfl,Below.refl _ _,[],Own.nil _ _ _ _⟩
 ·have h1: ¬ ((n:Int)<0):=by omega
  have h4:(n:Int)>0:=by omega
  have key: ∀ ty,∃ G cur,n≤G∧G≤maxLen∧cur.size=G*1∧(Builtin.append_ #[24,3] ty #[.slice none 0 0,.int .i64 n]).run Tryz.prog w= .ok (.slice (some ⟨w.heap.size,0,none⟩) n G) (w.drew.alloc (.cells cur 3)):=λty=>
   aBW aON Tryz.underlying3 (by decide) w n (by omega) hn (by omega) ty
  obtain ⟨G,cur,hG,hM,hc,hr0⟩:=key 24;have hG63:G≤9223372036854775807:=by unfold maxLen at hM;omega
  have HE:Hid (Own 3 aCm (w.drew.alloc (.cells cur 3)) w.heap.size (.slice (some ⟨w.heap.size,0,none⟩) 0 G) [] [w.heap.size]∧Below w.heap.size w (w.drew.alloc (.cells cur 3))):=
   ⟨⟨[],[],World.ownsRow_made w.drew cur G (bY _) hM hc,⟨rfl,rfl⟩,rfl,⟨by simp,by simp⟩⟩,((aCU 1 (Below.refl _ _):Below w.heap.size w (w.drewN 1))).alloc (bY _) _⟩
  clear key hM hc
  go_enter Tryz.func231,Tryz.ntmps231
  go_wp2_with (at_builtin;refine Lib.wpList_append_run _ rfl _ _ _ _ rfl _ _ rfl rfl _ _ hr0 ?_)
  all_goals (go_ret;exact ⟨_,rfl,HE.out.2,_,HE.out.1⟩)
def aIZ (n:Int):Option (List Int):=bif (decide (0≤n)&&decide (n≤1048576)) then some [] else none
theorem aJP {h:Hp} {k:Nat} :viewA h (.nil k) (.sc (.slice none 0 0)):=rfl
theorem aNk (n:Int) (r:List Int) (h:aIZ n=some r):HasC Tryz.prog 231 [.sc (.slice none 0 0),.int n] (.list 1 (List.map eI r)):=by
 obtain ⟨q,h⟩:=cg h;obtain rfl:=so h;simp only [cY,iT] at q;refine ⟨Enters.mk Tryz.func231 (by kernel_rfl) (by kernel_rfl),λw args S hargs=>?_⟩;obtain ⟨args⟩:=args;simp only [RepVs,RepD] at hargs;obtain ⟨v,r,S1,S2,h1,rfl,⟨rfl,_,rfl⟩,v2,r2,S3,S4,rfl,rfl,⟨rfl,_,rfl⟩,rfl,rfl⟩:=hargs;subst h1;have hc:=aMl n.toNat w (by omega);rw [show ((n.toNat:Nat):Int)=n by omega] at hc;refine hc.mono λe w' ⟨v,he,hb,S2,ho⟩=>?_;obtain ⟨g1,g2⟩:=aDj ho;exact ⟨v,S2,he,hb,g1,g2⟩
end
noncomputable section
theorem aNl {α:Type} {k:Nat} {e:α→List AV} {hp:Hp} {b i n:Nat} {l:List α} (E:EOk k e) (hb:hp b=some ⟨k,l.map (ow e)⟩):yW hp (.own b i n)=some (k,((l.drop i).take n).map e,[b]):=by
 simp only [yW,hb,←List.map_drop,←List.map_take];rw [aNh E]
end
noncomputable section
theorem k {α:Sort _} {a:α} :a=a:=rfl
section
variable {P:Program} {ops:Array Oper} {nt:Nat} {r:List Oper} {s:AState} {tr:List Tr} {K:List Tr→AState→Prop} {K':AState→Prop}
def opB (ops:Array Oper) (nt:Nat) (s:AState) (o:Oper) (news:List Nat):Bool:=aFx o nt&&((match nX ops s.env o with|some true=>true|_=>false)&&news.all λb=> !s.used b)
theorem aIa {o:Oper} {news:List Nat} (h:opB ops nt s o news=true):aFx o nt=true∧nX ops s.env o=some true∧(news.all λb=> !s.used b)=true:=by
 simp only [opB,cY] at h;obtain ⟨h1,h2,h3⟩:=h;refine ⟨h1,?_,h3⟩;split at h2
 ·assumption
 ·cases h2
theorem ae {d:Option Tmp} {op:Op} {ty:TypeId} {pos:String} {aft:Array Edge} {g:Option (Nat×Bool)} {e:Eff} (he:AEff P ⟨d,op,ty,pos,aft,g⟩ s.ev s.heap s.kp e) (hb:opB ops nt s ⟨d,op,ty,pos,aft,g⟩ e.news=true) (h:AOps P ops nt r (s.app d e) (wW e::tr) K):AOps P ops nt (⟨d,op,ty,pos,aft,g⟩::r) s tr K:=
 aLC he (aIa hb).1 (aIa hb).2.1 (aIa hb).2.2 h
theorem am {d:Option Tmp} {ty:TypeId} {pos:String} {aft:Array Edge} {g:Option (Nat×Bool)} {x:Operand} {v:AV} (hx:s.ev x=some v) (hb:opB ops nt s ⟨d,.move x,ty,pos,aft,g⟩ []=true) (h:AOps P ops nt r (s.app d ⟨v,[],[],[]⟩) (wW ⟨v,[],[],[]⟩::tr) K):AOps P ops nt (⟨d,.move x,ty,pos,aft,g⟩::r) s tr K:=ae (aKr hx) hb h
theorem aa {d:Option Tmp} {ty:TypeId} {pos:String} {aft:Array Edge} {g:Option (Nat×Bool)} {x:Operand} {v:AV} (hx:s.ev x=some v) (hb:opB ops nt s ⟨d,.assign x,ty,pos,aft,g⟩ []=true) (h:AOps P ops nt r (s.app d ⟨v,[],[],[]⟩) (wW ⟨v,[],[],[]⟩::tr) K):AOps P ops nt (⟨d,.assign x,ty,pos,aft,g⟩::r) s tr K:=ae (aIB hx) hb h
theorem an (h:K tr s):AOps P ops nt [] s tr K:=aLB h
variable {Q:Exit→AState→Prop}
theorem sQ {x y:Code} (h:AC P nt x s (yF (λs'=>AC P nt y s' Q) Q)):AC P nt (.seq x y) s Q:=aNV h
theorem rg {id:Nat} {l:List Oper} (h:AOps P l.toArray nt l s [] (λ_ s'=>Q .normal s')):AC P nt (.region id l.toArray false) s Q:=aJt h
theorem tn (h:K' s):yF K' Q .normal s:=h
end
theorem ak {P:Program} {ops:Array Oper} {nt:Nat} {r:List Oper} {s:AState} {tr:List Tr} {K:List Tr→AState→Prop} {d:Option Tmp} {op:Op} {ty:TypeId} {pos:String} {aft:Array Edge} {g:Option (Nat×Bool)} (hg:nX ops s.env ⟨d,op,ty,pos,aft,g⟩=some false) (hd:aFx ⟨d,op,ty,pos,aft,g⟩ nt=true) (h:AOps P ops nt r ⟨upd d (.tuple []) s.env,s.heap,s.used,s.ns,s.kp⟩ (⟨[],[]⟩::tr) K):AOps P ops nt (⟨d,op,ty,pos,aft,g⟩::r) s tr K:=aJu hg hd h
section
variable {σ:Nat→Option Nat} {n b b0 k:Nat} {h:Hp} {r:List (Nat×Blk)}
theorem hB {y:Blk} (hp:zR y.es) (hs:σ b=some b0) (hb:h b0=some y) (hn:Nat.blt b n=true) (hr:pZ σ n h r):pZ σ n h ((b,y)::r):=by
 simp only [pZ];rw [hs];exact ⟨⟨y,hb,rfl,.inl ⟨rfl,hp⟩⟩,hn,hr⟩
theorem hX {y:Blk} (hm:match σ b with|some b0=> ∃ x,h b0=some x∧aAe σ n x y|none=>y.es=[]) (hn:Nat.blt b n=true) (hr:pZ σ n h r):pZ σ n h ((b,y)::r):=⟨hm,hn,hr⟩
end
theorem aOq {P:Program} {T:List (Nat×Ty)} (hT:TyOk P T) {dst:Option Tmp} {pos:String} {aft:Array Edge} {g:Option (Nat×Bool)} {s:AState} {x:Operand} {t e k:Nat} {y:Ty} {dty:TypeId} {α:Type} {f:α→List AV} {l:List α} (hx:s.ev x=some (.list k (List.map f l))) (hy:dZ T t=some y) (hd:y.desc= .slice e):
  AEff P ⟨dst,.call ⟨.builtin .len,#[x],#[t]⟩,dty,pos,aft,g⟩ s.ev s.heap s.kp ⟨.int l.length,[],[],[]⟩:=AEff.val (aIJ hT hx hy hd) (by rw [jS])
theorem lA {α:Type} {a b:List α} :(a++b).length=a.length+b.length:=List.length_append
theorem lT {α:Type} {a:List α} {i:Nat} {x:α} :(a.set i x).length=a.length:=List.length_set
theorem lR {α:Type} {n:Nat} {x:α} :(List.replicate n x).length=n:=List.length_replicate
theorem lC {α:Type} {a:α} {b:List α} :(a::b).length=b.length+1:=List.length_cons
theorem lN {α:Type} :([]:List α).length=0:=List.length_nil
theorem aDk:([]:List AV).all yG=true:=rfl
theorem rW {d:AV} {ds:List AV} (h1:yG d=true) (h2:ds.all yG=true):(d::ds).all yG=true:=by
 rw [List.all_cons,h1,h2];rfl
end
noncomputable section
theorem k2 {αa:Sort _} {a:αa} {αb:Sort _} {b:αb} :a=a∧b=b:=⟨rfl,rfl⟩
theorem k3 {αa:Sort _} {a:αa} {αb:Sort _} {b:αb} {αc:Sort _} {c:αc} :a=a∧b=b∧c=c:=⟨rfl,rfl,rfl⟩
theorem k4 {αa:Sort _} {a:αa} {αb:Sort _} {b:αb} {αc:Sort _} {c:αc} {αd:Sort _} {d:αd} :a=a∧b=b∧c=c∧d=d:=⟨rfl,rfl,rfl,rfl⟩
theorem k7 {αa:Sort _} {a:αa} {αb:Sort _} {b:αb} {αc:Sort _} {c:αc} {αd:Sort _} {d:αd} {αe:Sort _} {e:αe} {αf:Sort _} {f:αf} {αg:Sort _} {g:αg} :a=a∧b=b∧c=c∧d=d∧e=e∧f=f∧g=g:=⟨rfl,rfl,rfl,rfl,rfl,rfl,rfl⟩
theorem k8 {αa:Sort _} {a:αa} {αb:Sort _} {b:αb} {αc:Sort _} {c:αc} {αd:Sort _} {d:αd} {αe:Sort _} {e:αe} {αf:Sort _} {f:αf} {αg:Sort _} {g:αg} {αh:Sort _} {h:αh} :a=a∧b=b∧c=c∧d=d∧e=e∧f=f∧g=g∧h=h:=⟨rfl,rfl,rfl,rfl,rfl,rfl,rfl,rfl⟩
section
variable {ops:Array Oper} {nt:Nat} {r:List Oper} {s:AState} {tr:List Tr} {K:List Tr→AState→Prop} {K':AState→Prop} {d:Option Tmp} {ty:TypeId} {pos:String} {aft:Array Edge} {g:Option (Nat×Bool)}
theorem lp {x:Operand} {t:Nat} {y:Ty} {b i j:Nat} {blk:Blk} {cs:List AV} {v:AV} (h:s.ev x=some (.ptr b i j)∧s.heap b=some blk∧dZ TT t=some y∧(y.desc.isAgg||Nat.beq y.size 1)=true∧blk.es[i]? =some cs∧Nat.ble (j+y.size) cs.length=true∧aBJ y.desc.isAgg (((cs.drop j).take y.size).map yQ)=v∧opB ops nt s ⟨d,.load t x,ty,pos,aft,g⟩ []=true) (g2:AOps Tryz.prog ops nt r (s.app d ⟨v,[b],[],[]⟩) (wW ⟨v,[b],[],[]⟩::tr) K):AOps Tryz.prog ops nt (⟨d,.load t x,ty,pos,aft,g⟩::r) s tr K:=by
 obtain ⟨h0,h1,h2,h3,h4,h5,h6,h7⟩:=h;exact ae (iZ aH h0 h1 h2 h3 h4 h5 h6) h7 g2
theorem fp {x:Operand} {st f off ft:Nat} {b i j:Nat} {blk:Blk} {y yf:Ty} {fs:List (Nat×Nat)} (h:s.ev x=some (.ptr b i j)∧s.heap b=some blk∧dZ TT st=some y∧y.desc= .struct fs∧fs[f]? =some (off,ft)∧dZ TT ft=some yf∧Nat.beq yf.size 0=false∧opB ops nt s ⟨d,.fieldAddr st x f,ty,pos,aft,g⟩ []=true) (g2:AOps Tryz.prog ops nt r (s.app d ⟨.ptr b i (j+off),[b],[],[]⟩) (wW ⟨.ptr b i (j+off),[b],[],[]⟩::tr) K):AOps Tryz.prog ops nt (⟨d,.fieldAddr st x f,ty,pos,aft,g⟩::r) s tr K:=by
 obtain ⟨h0,h1,h2,h3,h4,h5,h6,h7⟩:=h;exact ae (aGy aH h0 h1 h2 h3 h4 h5 h6) h7 g2
theorem lr {x:Operand} {t:Nat} {y:Ty} {cs:List AV} {v:AV} (h:s.ev x=some (.ref cs)∧dZ TT t=some y∧(y.desc.isAgg||Nat.beq y.size 1)=true∧Nat.ble y.size cs.length=true∧(cs.take y.size).all fD=true∧aBJ y.desc.isAgg (cs.take y.size)=v∧opB ops nt s ⟨d,.load t x,ty,pos,aft,g⟩ []=true) (g2:AOps Tryz.prog ops nt r (s.app d ⟨v,[],[],[]⟩) (wW ⟨v,[],[],[]⟩::tr) K):AOps Tryz.prog ops nt (⟨d,.load t x,ty,pos,aft,g⟩::r) s tr K:=by
 obtain ⟨h0,h1,h2,h3,h4,h5,h6⟩:=h;exact ae (aII aH h0 h1 h2 h3 h4 h5) h6 g2
theorem cm {op:BinOp} {t t':TypeId} {x y:Operand} {q:IntKind} {a b:Int} {c:Bool} (h:s.ev x=some (.sc (.int q a))∧s.ev y=some (.sc (.int q b))∧aNW op a b=some c∧opB ops nt s ⟨d,.binOp op t x y t',ty,pos,aft,g⟩ []=true) (g2:AOps Tryz.prog ops nt r (s.app d ⟨.bl c,[],[],[]⟩) (wW ⟨.bl c,[],[],[]⟩::tr) K):AOps Tryz.prog ops nt (⟨d,.binOp op t x y t',ty,pos,aft,g⟩::r) s tr K:=by
 obtain ⟨h0,h1,h2,h3⟩:=h;exact ae (aOH h0 h1 h2) h3 g2
theorem pk {c x y:Operand} {t:Bool} {v:AV} (h:s.ev c=some (.sc (.bool t))∧s.ev (if t then x else y)=some v∧opB ops nt s ⟨d,.pick c x y,ty,pos,aft,g⟩ []=true) (g2:AOps Tryz.prog ops nt r (s.app d ⟨v,[],[],[]⟩) (wW ⟨v,[],[],[]⟩::tr) K):AOps Tryz.prog ops nt (⟨d,.pick c x y,ty,pos,aft,g⟩::r) s tr K:=by
 obtain ⟨h0,h1,h2⟩:=h;exact ae (aKs h0 h1) h2 g2
theorem ln {x:Operand} {t e q:Nat} {y:Ty} {α:Type} {f:α→List AV} {l:List α} (h:s.ev x=some (.list q (List.map f l))∧dZ TT t=some y∧y.desc= .slice e∧opB ops nt s ⟨d,.call ⟨.builtin .len,#[x],#[t]⟩,ty,pos,aft,g⟩ []=true) (g2:AOps Tryz.prog ops nt r (s.app d ⟨.int l.length,[],[],[]⟩) (wW ⟨.int l.length,[],[],[]⟩::tr) K):AOps Tryz.prog ops nt (⟨d,.call ⟨.builtin .len,#[x],#[t]⟩,ty,pos,aft,g⟩::r) s tr K:=by
 obtain ⟨h0,h1,h2,h3⟩:=h;exact ae (aOq aH h0 h1 h2) h3 g2
theorem aO:True:=trivial
theorem aT {x:Operand} {v:AV} {Q:Exit→AState→Prop} {T:AState→Prop} (h:s.ev x=some v∧opB ops nt s ⟨d,.assign x,ty,pos,aft,g⟩ []=true) (g2:T (s.app d ⟨v,[],[],[]⟩)):AOps Tryz.prog ops nt [⟨d,.assign x,ty,pos,aft,g⟩] s tr (λ_ s'=>yF T Q .normal s'):=aa h.1 h.2 (an (tn g2))
theorem aK {o1 o2:Oper} (h:(nX ops s.env o1=some false∧aFx o1 nt=true∧nX ops (upd o1.dst (.tuple []) s.env) o2=some false∧aFx o2 nt=true)) (g2:AOps Tryz.prog ops nt r ⟨upd o2.dst (.tuple []) (upd o1.dst (.tuple []) s.env),s.heap,s.used,s.ns,s.kp⟩ (⟨[],[]⟩::⟨[],[]⟩::tr) K):AOps Tryz.prog ops nt (o1::o2::r) s tr K:=ak h.1 h.2.1 (ak h.2.2.1 h.2.2.2 g2)
theorem sR {id:Nat} {l:List Oper} {y:Code} {Q:Exit→AState→Prop} (h:AOps Tryz.prog l.toArray nt l s [] (λ_ s'=>yF (λs'=>AC Tryz.prog nt y s' Q) Q .normal s')):AC Tryz.prog nt (.seq (.region id l.toArray false) y) s Q:=sQ (rg h)
end
end
noncomputable section
theorem oB {α β:Type} {o:Option α} {k:α→Option β} {r:β} {p:Prop} (h:o.bind k=some r) (f: ∀ a,o=some a→k a=some r→p):p:=by
 obtain ⟨a,h1,h2⟩:=ob h;exact f a h1 h2
theorem fK {h:Hp} {cs:List AV} (hp:cs.all fD=true):viewA h (.agg cs) (.agg cs):=uL (aGz hp)
theorem fS {T:List (Nat×Ty)} {rvs:List ResultVar} {e:Exit} {s:AState} {u v:Bool} (h:some u=some v) (p:uK T s rvs=some [.bl u]∧aDV e=true):sK T rvs (.bl v) e s:=by
 cases h;exact bB p.2 p.1 rfl (oK rfl)
theorem rtI {T:List (Nat×Ty)} {rvs:List ResultVar} {e:Exit} {s:AState} {u v:Int} (h:some u=some v) (p:uK T s rvs=some [.int u]∧aDV e=true):sK T rvs (.int v) e s:=by
 cases h;exact bB p.2 p.1 rfl (aDX rfl)
theorem cL {d:Option Tmp} {ty:TypeId} {pos:String} {aft:Array Edge} {g:Option (Nat×Bool)} {s:AState} {f:FuncId} {xs:Array Operand} {ats:Array TypeId} {avs ds:List AV} {ns':List Nat} {α:Type} {e:α→List AV} {q b:Nat} {l:List α} (ok:EOk q e) (hc:HasC Tryz.prog f ds (.list q (List.map e l))) (h:evs s.ev xs.toList=some avs∧s.ns=b::ns'∧tW s.ns=true) (hv:All2 (viewA s.heap) avs ds):AEff Tryz.prog ⟨d,.call ⟨.value (.func f),xs,ats⟩,ty,pos,aft,g⟩ s.ev s.heap s.kp ⟨.own b 0 l.length,avs.flatMap (sU s.heap)++[].flatMap (nQ s.heap),[(b,some ⟨q,List.map (ow e) l⟩)],[b]⟩:=
 AEff.conv (cH (x:= .own b 0 (List.map e l).length) (nb:=[(b,⟨q,bZ (List.map e l)⟩)]) hc h.1 (by rw [h.2.1];rfl) rfl h.2.2 (ok.good _) hv) (by simp only [aN]) (eG (nb':=[(b,⟨q,List.map (ow e) l⟩)]) (by simp only [cI]))
theorem cM {d:Option Tmp} {ty:TypeId} {pos:String} {aft:Array Edge} {g:Option (Nat×Bool)} {s:AState} {f:FuncId} {xs:Array Operand} {ats:Array TypeId} {avs ds:List AV} {ns':List Nat} {b:Nat} {v:Mt} (hc:HasC Tryz.prog f ds (.agg (eM v))) (h:evs s.ev xs.toList=some avs∧s.ns=b::ns'∧tW s.ns=true) (hv:All2 (viewA s.heap) avs ds):AEff Tryz.prog ⟨d,.call ⟨.value (.func f),xs,ats⟩,ty,pos,aft,g⟩ s.ev s.heap s.kp ⟨.agg [.int v.rows,.int v.cols,.own b 0 v.cells.length],avs.flatMap (sU s.heap)++[].flatMap (nQ s.heap),[(b,some ⟨1,List.map (ow eI) v.cells⟩)],[b]⟩:=
 AEff.conv (cH (x:= .agg [.int v.rows,.int v.cols,.own b 0 (List.map eI v.cells).length]) (nb:=[(b,⟨1,bZ (List.map eI v.cells)⟩)]) hc h.1 (by rw [h.2.1];rfl) rfl h.2.2 (aR trivial (aR trivial (aR (cJ.good _) dJ))) hv) (by simp only [aN]) (eG (nb':=[(b,⟨1,List.map (ow eI) v.cells⟩)]) (by simp only [cI]))
theorem cQ {d:Option Tmp} {ty:TypeId} {pos:String} {aft:Array Edge} {g:Option (Nat×Bool)} {s:AState} {f:FuncId} {xs:Array Operand} {ats:Array TypeId} {avs ds:List AV} {ns':List Nat} {b c:Nat} {v:Qv} (hc:HasC Tryz.prog f ds (.agg (eQ v))) (h:evs s.ev xs.toList=some avs∧s.ns=b::c::ns'∧tW s.ns=true) (hv:All2 (viewA s.heap) avs ds):AEff Tryz.prog ⟨d,.call ⟨.value (.func f),xs,ats⟩,ty,pos,aft,g⟩ s.ev s.heap s.kp ⟨.agg [.int v.n,.own b 0 v.src.length,.own c 0 v.tgt.length],avs.flatMap (sU s.heap)++[].flatMap (nQ s.heap),[(b,some ⟨1,List.map (ow eI) v.src⟩),(c,some ⟨1,List.map (ow eI) v.tgt⟩)],[b,c]⟩:=
 AEff.conv (cH (x:= .agg [.int v.n,.own b 0 (List.map eI v.src).length,.own c 0 (List.map eI v.tgt).length]) (nb:=[(b,⟨1,bZ (List.map eI v.src)⟩),(c,⟨1,bZ (List.map eI v.tgt)⟩)]) hc h.1 (by rw [h.2.1];rfl) rfl h.2.2 (aR trivial (aR (cJ.good _) (aR (cJ.good _) dJ))) hv) (by simp only [aN]) (eG (nb':=[(b,⟨1,List.map (ow eI) v.src⟩),(c,⟨1,List.map (ow eI) v.tgt⟩)]) (by simp only [cI]))
theorem cR {d:Option Tmp} {ty:TypeId} {pos:String} {aft:Array Edge} {g:Option (Nat×Bool)} {s:AState} {f:FuncId} {xs:Array Operand} {ats:Array TypeId} {avs ds:List AV} {ns':List Nat} {b c b3 b4:Nat} {v:Rp} (hc:HasC Tryz.prog f ds (.agg (eR v))) (h:evs s.ev xs.toList=some avs∧s.ns=b::c::b3::b4::ns'∧tW s.ns=true) (hv:All2 (viewA s.heap) avs ds):AEff Tryz.prog ⟨d,.call ⟨.value (.func f),xs,ats⟩,ty,pos,aft,g⟩ s.ev s.heap s.kp ⟨.agg [.int v.p,.int v.q.n,.own b 0 v.q.src.length,.own c 0 v.q.tgt.length,.own b3 0 v.dims.length,.own b4 0 v.maps.length],avs.flatMap (sU s.heap)++[].flatMap (nQ s.heap),[(b,some ⟨1,List.map (ow eI) v.q.src⟩),(c,some ⟨1,List.map (ow eI) v.q.tgt⟩),(b3,some ⟨1,List.map (ow eI) v.dims⟩),(b4,some ⟨3,List.map (ow eM) v.maps⟩)],[b,c,b3,b4]⟩:=
 AEff.conv (cH (x:= .agg [.int v.p,.int v.q.n,.own b 0 (List.map eI v.q.src).length,.own c 0 (List.map eI v.q.tgt).length,.own b3 0 (List.map eI v.dims).length,.own b4 0 (List.map eM v.maps).length]) (nb:=[(b,⟨1,bZ (List.map eI v.q.src)⟩),(c,⟨1,bZ (List.map eI v.q.tgt)⟩),(b3,⟨1,bZ (List.map eI v.dims)⟩),(b4,⟨3,bZ (List.map eM v.maps)⟩)]) hc h.1 (by rw [h.2.1];rfl) rfl h.2.2 (aR trivial (aR trivial (aR (cJ.good _) (aR (cJ.good _) (aR (cJ.good _) (aR (fT.good _) dJ)))))) hv) (by simp only [aN]) (eG (nb':=[(b,⟨1,List.map (ow eI) v.q.src⟩),(c,⟨1,List.map (ow eI) v.q.tgt⟩),(b3,⟨1,List.map (ow eI) v.dims⟩),(b4,⟨3,List.map (ow eM) v.maps⟩)]) (by simp only [cI]))
theorem cS {d:Option Tmp} {ty:TypeId} {pos:String} {aft:Array Edge} {g:Option (Nat×Bool)} {s:AState} {f:FuncId} {xs:Array Operand} {ats:Array TypeId} {avs ds:List AV} {ns':List Nat} {b:Nat} {v:Sc} (hc:HasC Tryz.prog f ds (.agg (eS v))) (h:evs s.ev xs.toList=some avs∧s.ns=b::ns'∧tW s.ns=true) (hv:All2 (viewA s.heap) avs ds):AEff Tryz.prog ⟨d,.call ⟨.value (.func f),xs,ats⟩,ty,pos,aft,g⟩ s.ev s.heap s.kp ⟨.agg [.int v.size,.own b 0 v.basis.length],avs.flatMap (sU s.heap)++[].flatMap (nQ s.heap),[(b,some ⟨1,List.map (ow (cW 1 eI)) v.basis⟩)],[b]⟩:=
 AEff.conv (cH (x:= .agg [.int v.size,.own b 0 (List.map (cW 1 eI) v.basis).length]) (nb:=[(b,⟨1,bZ (List.map (cW 1 eI) v.basis)⟩)]) hc h.1 (by rw [h.2.1];rfl) rfl h.2.2 (aR trivial (aR (cA.good _) dJ)) hv) (by simp only [aN]) (eG (nb':=[(b,⟨1,List.map (ow (cW 1 eI)) v.basis⟩)]) (by simp only [cI]))
def re1 (σ:Nat→Option Nat):AV→AV
 | .own b i m=>match σ b with|some b0=> .own b0 i m|none=> .dead
 | .ptr b i j=>match σ b with|some b0=> .ptr b0 i j|none=> .dead
 |x=>x
def reA (σ:Nat→Option Nat):AV→AV
 | .agg cs=> .agg (cs.map (re1 σ))
 |x=>re1 σ x
def ok1 (σ:Nat→Option Nat) (n:Nat):AV→Bool
 | .own b _ _=>(σ b).isSome &&Nat.blt b n
 | .ptr b _ _=>(σ b).isSome &&Nat.blt b n
 | .sc _=>true
 | .nil _=>true
 | .list _ _=>true
 | .ref _=>true
 |_=>false
def okA (σ:Nat→Option Nat) (n:Nat):AV→Bool
 | .agg cs=>cs.all (ok1 σ n)
 |x=>ok1 σ n x
def aHO (e:Nat→Option AV):List (Nat×AV)→List (Option AV)
 | []=>[]
 |(t,_)::r=>e t::aHO e r
def aHP (σ:Nat→Option Nat):List (Nat×AV)→List (Option AV)
 | []=>[]
 |(_,y)::r=>some (reA σ y)::aHP σ r
theorem xH {σ:Nat→Option Nat} {n:Nat} {y:AV} (h:ok1 σ n y=true):eX σ n (re1 σ y) y:=by
 cases y <;> simp only [ok1,jC] at h
 ·rfl
 ·trivial
 ·exact ⟨rfl,rfl⟩
 ·rfl
 all_goals
  rename_i b i j
  simp only [cY] at h
  obtain ⟨b0,hb⟩:=Option.isSome_iff_exists.1 h.1
  simp only [re1,hb]
  exact ⟨hb,rfl,rfl,h.2⟩
theorem aNP {σ:Nat→Option Nat} {n:Nat} : ∀ {cs:List AV},cs.all (ok1 σ n)=true→All2 (eX σ n) (cs.map (re1 σ)) cs
 | [],_=>rfl
 |c::cs,h=>by
  simp only [List.all_cons,cY] at h;exact ⟨c,cs,rfl,xH h.1,aNP h.2⟩
theorem aOO {σ:Nat→Option Nat} {n:Nat} {y:AV} (h:okA σ n y=true):qZ σ n (reA σ y) y:=by
 cases y with
 |agg cs=>exact aNP h
 |fn f cs=>simp [okA,ok1] at h
 |tuple cs=>simp [okA,ok1] at h
 |dead=>simp [okA,ok1] at h
 |abs q es=>simp [okA,ok1] at h
 |sc u=>exact xH (σ:=σ) (n:=n) (y:= .sc u) h
 |nil q=>exact xH (σ:=σ) (n:=n) (y:= .nil q) h
 |list q es=>exact xH (σ:=σ) (n:=n) (y:= .list q es) h
 |ref cs=>exact xH (σ:=σ) (n:=n) (y:= .ref cs) h
 |own b i m=>
  have:=xH (σ:=σ) (n:=n) (y:= .own b i m) h;simp only [reA];generalize re1 σ (.own b i m)=z at*;cases z <;> first|exact this|exact this.elim
 |ptr b i j=>
  have:=xH (σ:=σ) (n:=n) (y:= .ptr b i j) h;simp only [reA];generalize re1 σ (.ptr b i j)=z at*;cases z <;> first|exact this|exact this.elim
theorem aOP {σ:Nat→Option Nat} {n:Nat} {e:Nat→Option AV} : ∀ {tl:List (Nat×AV)},aHO e tl=aHP σ tl→(tl.all λp=>okA σ n p.2)=true→aBO σ n e tl
 | [],_,_=>trivial
 |(t,y)::r,h,q=>by
  simp only [aHO,aHP,List.cons.injEq] at h;simp only [List.all_cons,cY] at q;exact ⟨⟨_,h.1,aOO q.1⟩,aOP h.2 q.2⟩
theorem bK {σ:Nat→Option Nat} {n:Nat} {e:Nat→Option AV} {tl:List (Nat×AV)} (h:aHO e tl=aHP σ tl∧(tl.all λp=>okA σ n p.2)=true):aBO σ n e tl:=aOP h.1 h.2
end
noncomputable section
def nmA:List Nat:=[0,1,2,3,4,5,6,7,8,9,10,11,12,13,14,15,16,17,18,19]++[20,21,22,23,24,25,26,27,28,29,30,31,32,33,34,35,36,37,38,39]++([40,41,42,43,44,45,46,47,48,49,50,51,52,53,54,55,56,57,58,59]++([60,61,62,63,64,65,66,67,68,69,70,71,72,73,74,75,76,77,78,79]++[80,81,82,83,84,85,86,87,88,89,90,91,92,93,94,95,96,97,98,99]))
abbrev mN (e:List (Nat×AV)) (h:List (Nat×Blk)) (n:Nat) (kp:Kp:=0):AState:=mkS e h n (nmA.drop n) kp
def iSg:List (Nat×Blk)→Nat→Option Nat
 | [],_=>none
 |(q,_)::r,t=>bif Nat.beq t q then some t else iSg r t
def zSg:List (Nat×Blk)→List Nat→Nat→Option Nat
 |(q,_)::r,b::bs,t=>bif Nat.beq t q then some b else zSg r bs t
 |_,_,_=>none
theorem bW {s:AState} {n:Nat} {kp:Kp} {tl:List (Nat×AV)} {hl:List (Nat×Blk)} (he:aBO (iSg hl) n s.env tl) (hh:pZ (iSg hl) n s.heap hl) (p:aAf (iSg hl) hl=true∧s.kp=kp∧aEt (iSg hl) kp.n hl=true∧Nat.ble kp.n n=true):Ent s (mN tl hl n kp):=rA he hh p.1 p.2.1 p.2.2.1 p.2.2.2
theorem mP (bs:List Nat) {s:AState} {n:Nat} {kp:Kp} {tl:List (Nat×AV)} {hl:List (Nat×Blk)} (he:aBO (zSg hl bs) n s.env tl) (hh:pZ (zSg hl bs) n s.heap hl) (p:aAf (zSg hl bs) hl=true∧s.kp=kp∧aEt (zSg hl bs) kp.n hl=true∧Nat.ble kp.n n=true):Ent s (mN tl hl n kp):=rA he hh p.1 p.2.1 p.2.2.1 p.2.2.2
section
variable {σ:Nat→Option Nat} {n:Nat}
theorem aHQ {e:Nat→Option AV} : ∀ {m:Nat} {tl:List (Nat×AV)},aBO σ n e (tl.take m)→aBO σ n e (tl.drop m)→aBO σ n e tl
 |0,_,_,h=>h
 |m+1,[],_,_=>trivial
 |m+1,(t,y)::r,h1,h2=>⟨h1.1,aHQ h1.2 h2⟩
theorem uA (m:Nat) {e:Nat→Option AV} {tl:List (Nat×AV)} (h:aHO e (tl.take m)=aHP σ (tl.take m)∧((tl.take m).all λp=>okA σ n p.2)=true) (h2:aBO σ n e (tl.drop m)):aBO σ n e tl:=aHQ (bK h) h2
theorem sJ {e:Nat→Option AV} {t:Nat} {y:AV} {r:List (Nat×AV)} (h: ∃ x,e t=some x∧qZ σ n x y) (h2:aBO σ n e r):aBO σ n e ((t,y)::r):=⟨h,h2⟩
variable {b b0 q:Nat} {h:Hp} {r:List (Nat×Blk)}
theorem bN {l:List Int} (p:(σ b,h b0,Nat.blt b n)=(some b0,some ⟨1,List.map (ow eI) l⟩,true)) (hr:pZ σ n h r):pZ σ n h ((b,⟨1,List.map (ow eI) l⟩)::r):=by
 obtain ⟨p1,p⟩:=Prod.mk.inj p;obtain ⟨p2,p3⟩:=Prod.mk.inj p;exact hB (cJ.plainO _) p1 p2 p3 hr
theorem bT {y:Blk} (p:(σ b,h b0,Nat.blt b n,y.es.all λcs=>cs.all rP)=(some b0,some y,true,true)) (hr:pZ σ n h r):pZ σ n h ((b,y)::r):=by
 obtain ⟨p1,p⟩:=Prod.mk.inj p;obtain ⟨p2,p⟩:=Prod.mk.inj p;obtain ⟨p3,p4⟩:=Prod.mk.inj p;exact hB (aLJ p4) p1 p2 p3 hr
theorem eD {y:Blk} (hp:zR y.es) (p:(σ b,h b0,Nat.blt b n)=(some b0,some y,true)) (hr:pZ σ n h r):pZ σ n h ((b,y)::r):=by
 obtain ⟨p1,p⟩:=Prod.mk.inj p;obtain ⟨p2,p3⟩:=Prod.mk.inj p;exact hB hp p1 p2 p3 hr
def reC (σ:Nat→Option Nat):AV→AV
 | .own b i m=>match σ b with|some b0=> .own b0 i m|none=> .dead
 | .ptr b i j=>match σ b with|some b0=> .ptr b0 i j|none=> .dead
 |x=>x
def okC (σ:Nat→Option Nat) (n:Nat):AV→Bool
 | .own b _ _=>(σ b).isSome &&Nat.blt b n
 | .ptr b _ _=>(σ b).isSome &&Nat.blt b n
 | .sc _=>true
 | .nil _=>true
 | .list _ _=>true
 | .abs _ _=>true
 | .ref _=>true
 |_=>false
theorem aOS {y:AV} (h:okC σ n y=true):kS σ n (reC σ y) y:=by
 cases y with
 |sc u=>exact xH (σ:=σ) (n:=n) (y:= .sc u) h
 |nil q=>exact xH (σ:=σ) (n:=n) (y:= .nil q) h
 |list q es=>exact xH (σ:=σ) (n:=n) (y:= .list q es) h
 |ref cs=>exact xH (σ:=σ) (n:=n) (y:= .ref cs) h
 |abs q es=>exact ⟨rfl,rfl⟩
 |own b i m=>
  have:=xH (σ:=σ) (n:=n) (y:= .own b i m) h;show kS σ n (re1 σ (.own b i m)) _;generalize re1 σ (.own b i m)=z at*;cases z <;> first|exact this|exact this.elim
 |ptr b i j=>
  have:=xH (σ:=σ) (n:=n) (y:= .ptr b i j) h;show kS σ n (re1 σ (.ptr b i j)) _;generalize re1 σ (.ptr b i j)=z at*;cases z <;> first|exact this|exact this.elim
 |agg cs=>simp [okC] at h
 |fn f cs=>simp [okC] at h
 |tuple cs=>simp [okC] at h
 |dead=>simp [okC] at h
theorem aLh: ∀ {cs:List AV},cs.all (okC σ n)=true→All2 (kS σ n) (cs.map (reC σ)) cs
 | [],_=>rfl
 |c::cs,h=>by
  simp only [List.all_cons,cY] at h;exact ⟨c,cs,rfl,aOS h.1,aLh h.2⟩
theorem aLi: ∀ {es:List (List AV)},(es.all λcs=>cs.all (okC σ n))=true→All2 (All2 (kS σ n)) (es.map (List.map (reC σ))) es
 | [],_=>rfl
 |c::cs,h=>by
  simp only [List.all_cons,cY] at h;exact ⟨c,cs,rfl,aLh h.1,aLi h.2⟩
theorem eB {es:List (List AV)} (p:(σ b,h b0,Nat.blt b n,es.all λcs=>cs.all (okC σ n))=(some b0,some ⟨q,es.map (List.map (reC σ))⟩,true,true)) (hr:pZ σ n h r):pZ σ n h ((b,⟨q,es⟩)::r):=by
 obtain ⟨p1,p⟩:=Prod.mk.inj p;obtain ⟨p2,p⟩:=Prod.mk.inj p;obtain ⟨p3,p4⟩:=Prod.mk.inj p;refine hX ?_ p3 hr;rw [p1];exact ⟨_,p2,rfl,.inr (aLi p4)⟩
end
theorem cG {α:Type} {c:Bool} {A:Option α} {r:α} {p:Prop} (h:cond c A none=some r) (f:c=true→A=some r→p):p:=f (cg h).1 (cg h).2
section
variable {h:Hp} {x:AV} {xs ds:List AV}
theorem cD (q:fD x=true) (b:All2 (viewA h) xs ds):All2 (viewA h) (x::xs) (x::ds):=aJ (aMZ q) b
theorem vcT {b m:Nat} {l:List Int} (hb:h b=some ⟨1,List.map (ow eI) l⟩) (hn:l.length=m) (q:All2 (viewA h) xs ds):All2 (viewA h) (.own b 0 m::xs) (.list 1 (List.map eI l)::ds):=aJ (aAF cJ hb hn) q
end
theorem cT {d:Option Tmp} {ty:TypeId} {pos:String} {aft:Array Edge} {g:Option (Nat×Bool)} {s:AState} {f:FuncId} {xs:Array Operand} {ats:Array TypeId} {avs ds:List AV} {ns':List Nat} {α:Type} {e:α→List AV} {q b:Nat} {l:List α} {z:Bool} {c0:Nat} (ok:EOk q e) (hc:HasC Tryz.prog f ds (.tuple [.list q (List.map e l),.bl z])) (h:evs s.ev xs.toList=some avs∧s.ns=b::c0::ns'∧tW s.ns=true) (hv:All2 (viewA s.heap) avs ds):AEff Tryz.prog ⟨d,.call ⟨.value (.func f),xs,ats⟩,ty,pos,aft,g⟩ s.ev s.heap s.kp ⟨.tuple [.own b 0 l.length,.bl z],avs.flatMap (sU s.heap)++[].flatMap (nQ s.heap),[(b,some ⟨q,List.map (ow e) l⟩)],[b]⟩:=
 AEff.conv (cH (x:= .tuple [.own b 0 (List.map e l).length,.bl z]) (nb:=[(b,⟨q,bZ (List.map e l)⟩)]) hc h.1 (by rw [h.2.1];rfl) rfl h.2.2 (bC (ok.good _) (bC trivial dS)) hv) (by simp only [aN]) (eG (nb':=[(b,⟨q,List.map (ow e) l⟩)]) (by simp only [cI]))
section
variable {h:Hp} {κ:Kp}
theorem vaR {b1 b2 b3 b4 m1 m2 m3 m4:Nat} {v:Rp} (p:h b1=some ⟨1,List.map (ow eI) v.q.src⟩∧v.q.src.length=m1∧h b2=some ⟨1,List.map (ow eI) v.q.tgt⟩∧v.q.tgt.length=m2∧h b3=some ⟨1,List.map (ow eI) v.dims⟩∧v.dims.length=m3∧h b4=some ⟨3,List.map (ow eM) v.maps⟩∧v.maps.length=m4):viewA h (.agg [.int v.p,.int v.q.n,.own b1 0 m1,.own b2 0 m2,.own b3 0 m3,.own b4 0 m4]) (.agg (eR v)):=
 uL (dH (eJ rfl) (dH (eJ rfl) (dH (qC cJ p.1 p.2.1) (dH (qC cJ p.2.2.1 p.2.2.2.1) (dH (qC cJ p.2.2.2.2.1 p.2.2.2.2.2.1) (dH (qC fT p.2.2.2.2.2.2.1 p.2.2.2.2.2.2.2) tX))))))
theorem vaM {b m:Nat} {v:Mt} (p:h b=some ⟨1,List.map (ow eI) v.cells⟩∧v.cells.length=m):viewA h (.agg [.int v.rows,.int v.cols,.own b 0 m]) (.agg (eM v)):=uL (dH (eJ rfl) (dH (eJ rfl) (dH (qC cJ p.1 p.2) tX)))
theorem vaC {b m:Nat} {v:Sc} (p:h b=some ⟨1,List.map (ow (cW 1 eI)) v.basis⟩∧v.basis.length=m):viewA h (.agg [.int v.size,.own b 0 m]) (.agg (eS v)):=uL (dH (eJ rfl) (dH (qC cA p.1 p.2) tX))
theorem vaQ {b1 b2 m1 m2:Nat} {v:Qv} (p:h b1=some ⟨1,List.map (ow eI) v.src⟩∧v.src.length=m1∧h b2=some ⟨1,List.map (ow eI) v.tgt⟩∧v.tgt.length=m2):viewA h (.agg [.int v.n,.own b1 0 m1,.own b2 0 m2]) (.agg (eQ v)):=uL (dH (eJ rfl) (dH (qC cJ p.1 p.2.1) (dH (qC cJ p.2.2.1 p.2.2.2) tX)))
variable {x:AV} {xs ds:List AV}
end
section
variable {dst:Option Tmp} {ty:TypeId} {pos:String} {aft:Array Edge} {g:Option (Nat×Bool)} {s:AState}
theorem wl {t e:TypeId} {n:Nat} {parts:Array (Nat×Operand)} {y ye:Ty} {ps:List (Nat×List AV)} {cs:List AV} {b:Nat}
  (h:(s.ns.head?,dZ TT t,y.desc,dZ TT e,ye.zero.length,Nat.ble (n*ye.size) 16777216,Nat.ble n 16777216,tC s.ev parts.toList,wA (λi=>some (i*ye.size,ye.size)) (List.replicate n ye.zero).flatten ps,(ps.all λp=>p.2.all (okCell s.heap)),cs.all (okCell s.heap),(ps.flatMap (λp=>cV p.2)++cV cs).contains b)=(some b,some y,.slice e,some ye,ye.size,true,true,some ps,some cs,true,true,false)):
  AEff Tryz.prog ⟨dst,.buildSlice t n parts,ty,pos,aft,g⟩ s.ev s.heap s.kp ⟨.own b 0 n,ps.flatMap (λp=>cV p.2)++cV cs,[(b,some ⟨ye.size,yD ye.size n cs⟩)],[b]⟩:=by
 simp only [Prod.mk.injEq] at h;obtain ⟨h1,h2,h3,h4,h5,h6,h7,h8,h9,h10,h11,h12⟩:=h;exact aOJ aH h1 h2 h3 h4 h5 h6 h7 h8 h9 h10 h11 h12
theorem ws {t:TypeId} {y:Ty} {x z:Operand} {val:AV} {b i j kk:Nat} {ees:List (List AV)} {cs:List AV}
  (h:(s.ev x,s.heap b,s.ev z,dZ TT t,Nat.beq (cX val).length y.size,(cX val).all (okCell s.heap),ees[i]?,Nat.ble (j+y.size) cs.length)=(some (.ptr b i j),some ⟨kk,ees⟩,some val,some y,true,true,some cs,true)):
  AEff Tryz.prog ⟨dst,.store t x z,ty,pos,aft,g⟩ s.ev s.heap s.kp ⟨.dead,b::cV (cX val),[(b,some ⟨kk,ees.set i (yR cs j (cX val))⟩)],[]⟩:=by
 simp only [Prod.mk.injEq] at h;obtain ⟨h1,h2,h3,h4,h5,h6,h7,h8⟩:=h;exact zX aH h1 h2 h3 h4 h5 h6 h7 h8
theorem wb {t:TypeId} {x:Operand} {v:AV} {b:Nat} (h:(s.ns.head?,s.ev x,(cX v).all (okCell s.heap),(cV (cX v)).contains b)=(some b,some v,true,false)):
  AEff Tryz.prog ⟨dst,.box t x,ty,pos,aft,g⟩ s.ev s.heap s.kp ⟨.ptr b 0 0,cV (cX v),[(b,some ⟨(cX v).length,[cX v]⟩)],[b]⟩:=by
 simp only [Prod.mk.injEq] at h;obtain ⟨h1,h2,h3,h4⟩:=h;exact aOI h1 h2 h3 h4
theorem xl {α:Type} {k:Nat} {e:α→List AV} {x ix:Operand} {t et:Nat} {y ye:Ty} {l:List α} {kk:IntKind} {i:Int} {v:α} (hm:eF l i=some v)
  (h:(s.ev x,s.ev ix,dZ TT t,y.desc,dZ TT et,ye.size)=(some (.list k (l.map e)),some (.sc (.int kk i)),some y,.slice et,some ye,k)):
  AEff Tryz.prog ⟨dst,.indexAddr t x ix,ty,pos,aft,g⟩ s.ev s.heap s.kp ⟨.ref (e v),[],[],[]⟩:=by
 simp only [Prod.mk.injEq] at h;obtain ⟨h1,h2,h3,h4,h5,h6⟩:=h;exact aKC aH hm h1 h2 h3 h4 h5 h6
theorem xo {α:Type} {l:List α} {v:α} {x ix:Operand} {t et:Nat} {y ye:Ty} {b kz:Nat} {es:List (List AV)} {kk:IntKind} {i:Int} (hm:eF l i=some v)
  (h:(s.ev x,s.heap b,s.ev ix,dZ TT t,y.desc,dZ TT et,ye.size)=(some (.own b 0 l.length),some ⟨kz,es⟩,some (.sc (.int kk i)),some y,.slice et,some ye,kz)):
  AEff Tryz.prog ⟨dst,.indexAddr t x ix,ty,pos,aft,g⟩ s.ev s.heap s.kp ⟨.ptr b i.toNat 0,[b],[],[]⟩:=by
 simp only [Prod.mk.injEq] at h;obtain ⟨h1,h2,h3,h4,h5,h6,h7⟩:=h;exact aLW aH (aLK hm) (aGA hm) h1 h2 h3 h4 h5 h6 h7
theorem wp {α:Type} {e:α→List AV} {l:List α} {u:α} {x:Operand} {t:Nat} {y:Ty} {b j k:Nat} {i:Int} {v:AV} (hm:eF l i=some u)
  (h:(s.ev x,s.heap b,dZ TT t,(y.desc.isAgg||Nat.beq y.size 1),Nat.ble (j+y.size) (e u).length,aBJ y.desc.isAgg ((((e u).drop j).take y.size).map yQ))=(some (.ptr b i.toNat j),some ⟨k,l.map e⟩,some y,true,true,v)):
  AEff Tryz.prog ⟨dst,.load t x,ty,pos,aft,g⟩ s.ev s.heap s.kp ⟨v,[b],[],[]⟩:=by
 simp only [Prod.mk.injEq] at h;obtain ⟨h1,h2,h3,h4,h5,h6⟩:=h;exact iZ aH h1 h2 h3 h4 (rB (gW hm)) h5 h6
end
theorem hM {f:FuncId} {fn:Func} {c:Code} {nt:Nat} {ds:List AV} {r:AV} (rvs:List ResultVar) (hf:Tryz.prog.funcs[f]? =some fn) (hnt:fn.ntmps=nt) (h':(fn.body,(fn.name== "runtime.NumGoroutine"),fn.results.toList,Nat.ble ds.length nt,ds.all yG)=(some c,false,rvs,true,true)) (h:AC Tryz.prog nt c (s0 ds nmA) (sK TT rvs r)):HasC Tryz.prog f ds r:=by
 simp only [Prod.mk.injEq] at h';exact zV aH hf h'.1 h'.2.1 hnt h'.2.2.1 h'.2.2.2.1 h'.2.2.2.2 h
@[elab_as_elim] theorem sp {α:Type} {a:α} {P:α→Prop} {o:α} (h:some a=some o) (p:P a):P o:=so h▸p
theorem iS {α:Type} {t:Bool} {A B:Option α} {r:α} {G:Prop} (h:cond t A B=some r) (p:t=true→A=some r→G) (q:t=false→B=some r→G):G:=by
 rcases cb h with ⟨e,h⟩|⟨e,h⟩
 ·exact p e h
 ·exact q e h
theorem dQ {P:Program} {nt:Nat} {Q:Exit→AState→Prop} {s:AState} {c:Operand} {x y:Code} {α:Type} {t:Bool} {A B:Option α} {r:α} (hc:s.ev c=some (.sc (.bool t))) (h:cond t A B=some r) (p:t=true→A=some r→AC P nt x s Q) (q:t=false→B=some r→AC P nt y s Q):AC P nt (.cond c x y) s Q:=iS h (λe h=>cB hc e (p e h)) λe h=>oL hc e (q e h)
theorem sO {p q:Prop} (a:p) (b:q):p∧q:=⟨a,b⟩
def oMt (v:Mt) (a:Nat):List AV:=[.int v.rows,.int v.cols,.own a 0 v.cells.length]
def oQv (v:Qv) (a b:Nat):List AV:=[.int v.n,.own a 0 v.src.length,.own b 0 v.tgt.length]
def oSc (v:Sc) (a:Nat):List AV:=[.int v.size,.own a 0 v.basis.length]
def oRp (v:Rp) (a b c d:Nat):List AV:=[.int v.p,.int v.q.n,.own a 0 v.q.src.length,.own b 0 v.q.tgt.length,.own c 0 v.dims.length,.own d 0 v.maps.length]
def mD:List AV:=[.int 0,.int 0,.nil 1]
def rL:List AV:=[.int 0,.int 0,.nil 1,.nil 1,.nil 1,.nil 3]
end
noncomputable section
set_option maxRecDepth 10000
set_option maxHeartbeats 4000000
def gK (a0:Int) (a1:Int) (a2:Int):Option Bool:=
 bif decide (a1≤a0) then
 (some (decide (a0≤a2)))
 else
 (some (false))
theorem jL (a0:Int) (a1:Int) (a2:Int) (r:Bool) (h:gK a0 a1 a2=some r):HasC Tryz.prog 117 [.int a0,.int a1,.int a2] (.bl r):=by
 exact hM [.tmp 6] Tryz.func117 Tryz.ntmps117 k<|sR<|aT k2<|sR<|am k k<|am k k<|cm k4<|am k k<|iS h (λq1 h=>aD 10 k q1<|am k k<|am k k<|cm k4<|pk k3<|aT k2<|aB<|fS h k2) λq1 h=>aD 10 k q1<|aK k4<|ak k k<|pk k3<|aT k2<|aB<|fS h k2
def gA (a0:Int) (a1:Int) (a2:Int):Option Bool:=
 bif decide (a1≤a0) then
 (some (decide (a0≤a2)))
 else
 (some (false))
theorem jM (a0:Int) (a1:Int) (a2:Int) (r:Bool) (h:gA a0 a1 a2=some r):HasC Tryz.prog 111 [.int a0,.int a1,.int a2] (.bl r):=by
 exact hM [.tmp 6] Tryz.func111 Tryz.ntmps111 k<|sR<|aT k2<|sR<|am k k<|am k k<|cm k4<|am k k<|iS h (λq1 h=>aD 10 k q1<|am k k<|am k k<|cm k4<|pk k3<|aT k2<|aB<|fS h k2) λq1 h=>aD 10 k q1<|aK k4<|ak k k<|pk k3<|aT k2<|aB<|fS h k2
def qL (a0:(List Int)) (x1:(Int×Int)):Option ((Int×Int) ⊕ Int):=
 bif decide (x1.2<(a0.length:Int)) then
 ((eF a0 x1.2).bind λv2=>
 some (.inl (wr (x1.1+v2),wr (x1.2+1))))
 else
 (some (.inr x1.1))
def uM (a0:(List Int)):Option Int:=
 (Lp (qL a0) (0,0)).bind λy3=>
 some (y3)
theorem aGK (a0:(List Int)) (r:Int) (h:uM a0=some r):HasC Tryz.prog 230 [.list 1 (a0.map eI)] (.int r):=by
 refine hM [.tmp 2] Tryz.func230 Tryz.ntmps230 k<|sR<|aT k2<|sR<|aT k2<|sQ<|sR<|am k k<|ln k4<|am k k<|an<|tn<|aI<|oB h λy3 hy3 h=>cU (body:=(qL a0)) hy3 (λ(x1:(Int×Int))=>mN [(3,.int x1.1),(6,.list 1 (a0.map eI)),(7,.int (a0.length:Int)),(8,.int x1.2)] [] 0) (λr e t=>e= .exit 0∧Ent t (mN [(3,.int r)] [] 0)) (bW (bK k2) aO k4) ?_ ?_
 ·intro x1 o h;exact sR<|cm k4<|an<|tn<|sQ<|dQ k h (λ_ h=>aP<|tn<|sQ<|aI<|sR<|oB h λv2 hv2 h=>ae (xl hv2 k) k<|lr k7<|aT k2<|rg<|am k k<|am k k<|ae (bL k k) k<|aa k k<|an<|aZ<|tn<|rg<|ae (bL k k) k<|am k k<|an<|tn<|sp h ⟨_,k,(bW (bK k2) aO k4)⟩) λ_ h=>bE<|aC<|aC<|sp h ⟨_,k,k,(bW (bK k2) aO k4)⟩
 ·rintro e t ⟨rfl,hent⟩;exact aU<|tn<|aM hent<|sR<|am k k<|aT k2<|aB<|rtI h k2
def sW (a0:(List Int)) (a1:(List Int)) (x1:Int):Option (Int ⊕ (Unit ⊕ Bool)):=
 bif decide (x1<(a0.length:Int)) then
 ((eF a0 x1).bind λv3=>
 (eF a1 x1).bind λv4=>
 bif !decide (v3=v4) then
 (some (.inr (.inr (false))))
 else
 (some (.inl (wr (x1+1)))))
 else
 (some (.inr (.inl ())))
def qE (a0:(List Int)) (a1:(List Int)):Option Bool:=
 bif !decide ((a0.length:Int)=(a1.length:Int)) then
 (some (false))
 else
 ((Lp (sW a0 a1) 0).bind λy6=>
 Sum.elim (λy7=>
 some (true)
 )
 (λy8=>
 some y8
 )
 y6)
theorem wQ (a0:(List Int)) (a1:(List Int)) (r:Bool) (h:qE a0 a1=some r):HasC Tryz.prog 114 [.list 1 (a0.map eI),.list 1 (a1.map eI)] (.bl r):=by
 refine hM [.tmp 4] Tryz.func114 Tryz.ntmps114 k<|sR<|aT k2<|sQ<|sR<|am k k<|ln k4<|am k k<|ln k4<|cm k4<|an<|tn<|dQ k h (λ_ h=>sR<|aT k2<|aB<|aF<|fS h k2) λ_ h=>?_;refine aP<|tn<|sQ<|sR<|aT k2<|aI<|oB h λy6 hy6 h=>cU (body:=(sW a0 a1)) hy6 (λ(x1:Int)=>mN [(0,.list 1 (a0.map eI)),(1,.list 1 (a1.map eI)),(5,.int x1)] [] 0) (λr e t=>Sum.elim (λa=>(λr e t=>e= .exit 0∧Ent t (mN [] [] 0)) a e t) (λb=>(λr e t=>e= .ret∧sK TT [.tmp 4] (.bl r) .ret t) b e t) r) (bW (bK k2) aO k4) ?_ ?_
 ·intro x1 o h;exact sQ<|sR<|am k k<|am k k<|ln k4<|cm k4<|an<|tn<|dQ k h (λ_ h=>aP<|tn<|sQ<|aI<|sQ<|aW iR<|am k k<|am k k<|oB h λv3 hv3 h=>ae (xl hv3 k) k<|lr k7<|am k k<|am k k<|oB h λv4 hv4 h=>ae (xl hv4 k) k<|lr k7<|cm k4<|an<|sO (by kernel_rfl)<|tn<|dQ k h (λ_ h=>sR<|aT k2<|aB<|bO<|aF<|aF<|sp h ⟨_,k,k,bB k k k (oK k)⟩) λ_ h=>aP<|aZ<|tn<|rg<|am k k<|ae (bL k k) k<|aT k2<|sp h ⟨_,k,(bW (bK k2) aO k4)⟩) λ_ h=>bE<|aC<|aC<|sp h ⟨_,k,k,(bW aO aO k4)⟩
 ·intro e t hX;rcases y6 with y7|y8
  ·obtain ⟨rfl,hent⟩:=hX;exact aU<|tn<|aM hent<|sR<|aT k2<|aB<|fS h k2
  ·obtain ⟨rfl,hent⟩:=hX;exact bO<|aF<|sp h hent
def qM (a0:(List Int)) (a1:Int) (x1:Int):Option (Int ⊕ (Unit ⊕ Bool)):=
 bif decide (x1<(a0.length:Int)) then
 ((eF a0 x1).bind λv2=>
 bif decide (v2=a1) then
 (some (.inr (.inr (true))))
 else
 (some (.inl (wr (x1+1)))))
 else
 (some (.inr (.inl ())))
def uN (a0:(List Int)) (a1:Int):Option Bool:=
 (Lp (qM a0 a1) 0).bind λy4=>
 Sum.elim (λy5=>
 some (false)
 )
 (λy6=>
 some y6
 )
 y4
theorem aGL (a0:(List Int)) (a1:Int) (r:Bool) (h:uN a0 a1=some r):HasC Tryz.prog 242 [.list 1 (a0.map eI),.int a1] (.bl r):=by
 refine hM [.tmp 4] Tryz.func242 Tryz.ntmps242 k<|sR<|aT k2<|sQ<|sR<|aT k2<|aI<|oB h λy4 hy4 h=>cU (body:=(qM a0 a1)) hy4 (λ(x1:Int)=>mN [(0,.list 1 (a0.map eI)),(1,.int a1),(5,.int x1)] [] 0) (λr e t=>Sum.elim (λa=>(λr e t=>e= .exit 0∧Ent t (mN [] [] 0)) a e t) (λb=>(λr e t=>e= .ret∧sK TT [.tmp 4] (.bl r) .ret t) b e t) r) (bW (bK k2) aO k4) ?_ ?_
 ·intro x1 o h;exact sQ<|sR<|am k k<|am k k<|ln k4<|cm k4<|an<|tn<|dQ k h (λ_ h=>aP<|tn<|sQ<|aI<|sR<|am k k<|am k k<|oB h λv2 hv2 h=>ae (xl hv2 k) k<|lr k7<|am k k<|cm k4<|an<|tn<|dQ k h (λ_ h=>sR<|aT k2<|aB<|bO<|aF<|aF<|sp h ⟨_,k,k,bB k k k (oK k)⟩) λ_ h=>aP<|aZ<|tn<|rg<|am k k<|ae (bL k k) k<|aT k2<|sp h ⟨_,k,(bW (bK k2) aO k4)⟩) λ_ h=>bE<|aC<|aC<|sp h ⟨_,k,k,(bW aO aO k4)⟩
 ·intro e t hX;rcases y4 with y5|y6
  ·obtain ⟨rfl,hent⟩:=hX;exact aU<|tn<|aM hent<|sR<|aT k2<|aB<|fS h k2
  ·obtain ⟨rfl,hent⟩:=hX;exact bO<|aF<|sp h hent
def jU (a0:(List Int)) (a1:(List Int)) (x1:Int):Option (Int ⊕ (Unit ⊕ Bool)):=
 bif decide (x1<(a0.length:Int)) then
 ((eF a0 x1).bind λv3=>
 (eF a1 x1).bind λv4=>
 bif !decide (v3=v4) then
 (some (.inr (.inr (false))))
 else
 (some (.inl (wr (x1+1)))))
 else
 (some (.inr (.inl ())))
def gB (a0:(List Int)) (a1:(List Int)):Option Bool:=
 bif !decide ((a0.length:Int)=(a1.length:Int)) then
 (some (false))
 else
 ((Lp (jU a0 a1) 0).bind λy6=>
 Sum.elim (λy7=>
 some (true)
 )
 (λy8=>
 some y8
 )
 y6)
theorem mE (a0:(List Int)) (a1:(List Int)) (r:Bool) (h:gB a0 a1=some r):HasC Tryz.prog 100 [.list 1 (a0.map eI),.list 1 (a1.map eI)] (.bl r):=by
 refine hM [.tmp 4] Tryz.func100 Tryz.ntmps100 k<|sR<|aT k2<|sQ<|sR<|am k k<|ln k4<|am k k<|ln k4<|cm k4<|an<|tn<|dQ k h (λ_ h=>sR<|aT k2<|aB<|aF<|fS h k2) λ_ h=>?_;refine aP<|tn<|sQ<|sR<|am k k<|ln k4<|am k k<|an<|tn<|aI<|oB h λy6 hy6 h=>cU (body:=(jU a0 a1)) hy6 (λ(x1:Int)=>mN [(0,.list 1 (a0.map eI)),(1,.list 1 (a1.map eI)),(12,.int (a0.length:Int)),(13,.int x1)] [] 0) (λr e t=>Sum.elim (λa=>(λr e t=>e= .exit 0∧Ent t (mN [] [] 0)) a e t) (λb=>(λr e t=>e= .ret∧sK TT [.tmp 4] (.bl r) .ret t) b e t) r) (bW (bK k2) aO k4) ?_ ?_
 ·intro x1 o h;exact sR<|cm k4<|an<|tn<|sQ<|dQ k h (λ_ h=>aP<|tn<|sQ<|aI<|sR<|am k k<|aT k2<|sQ<|aW iR<|am k k<|am k k<|oB h λv3 hv3 h=>ae (xl hv3 k) k<|lr k7<|am k k<|am k k<|oB h λv4 hv4 h=>ae (xl hv4 k) k<|lr k7<|cm k4<|an<|sO (by kernel_rfl)<|tn<|dQ k h (λ_ h=>sR<|aT k2<|aB<|bO<|aF<|aF<|sp h ⟨_,k,k,bB k k k (oK k)⟩) λ_ h=>aP<|aZ<|tn<|rg<|ae (bL k k) k<|am k k<|an<|tn<|sp h ⟨_,k,(bW (bK k2) aO k4)⟩) λ_ h=>bE<|aC<|aC<|sp h ⟨_,k,k,(bW aO aO k4)⟩
 ·intro e t hX;rcases y6 with y7|y8
  ·obtain ⟨rfl,hent⟩:=hX;exact aU<|tn<|aM hent<|sR<|aT k2<|aB<|fS h k2
  ·obtain ⟨rfl,hent⟩:=hX;exact bO<|aF<|sp h hent
def jV (a0:Int):Option Bool:=
 bif decide (a0=2) then
 (some (true))
 else
 (bif decide (a0=3) then
 (some (true))
 else
 (some (decide (a0=5))))
theorem oR (a0:Int) (r:Bool) (h:jV a0=some r):HasC Tryz.prog 76 [.int a0] (.bl r):=by
 exact hM [.tmp 2] Tryz.func76 Tryz.ntmps76 k<|sR<|aT k2<|sR<|am k k<|cm k4<|am k k<|iS h (λq1 h=>aD 5 k q1<|aK k4<|pk k3<|am k k<|aK k4<|pk k3<|aT k2<|aB<|fS h k2) λq1 h=>aD 5 k q1<|am k k<|cm k4<|pk k3<|am k k<|iS h (λq2 h=>aD 9 k q2<|aK k4<|pk k3<|aT k2<|aB<|fS h k2) λq2 h=>aD 9 k q2<|am k k<|cm k4<|pk k3<|aT k2<|aB<|fS h k2
def gO (a0:Int):Option Bool:=
 bif decide (a0=2) then
 (some (true))
 else
 (bif decide (a0=3) then
 (some (true))
 else
 (some (decide (a0=5))))
theorem jW (a0:Int) (r:Bool) (h:gO a0=some r):HasC Tryz.prog 116 [.int a0] (.bl r):=by
 exact hM [.tmp 2] Tryz.func116 Tryz.ntmps116 k<|sR<|aT k2<|sR<|am k k<|cm k4<|am k k<|iS h (λq1 h=>aD 5 k q1<|aK k4<|pk k3<|am k k<|aK k4<|pk k3<|aT k2<|aB<|fS h k2) λq1 h=>aD 5 k q1<|am k k<|cm k4<|pk k3<|am k k<|iS h (λq2 h=>aD 9 k q2<|aK k4<|pk k3<|aT k2<|aB<|fS h k2) λq2 h=>aD 9 k q2<|am k k<|cm k4<|pk k3<|aT k2<|aB<|fS h k2
def jX (a0:Qv) (x1:Int):Option (Int ⊕ (Unit ⊕ Bool)):=
 bif decide (x1<(a0.src.length:Int)) then
 (bif decide (x1<(a0.tgt.length:Int)) then
 ((eF a0.src x1).bind λv3=>
 (gA v3 0 (wr (a0.n - 1))).bind λv4=>
 bif !v4 then
 (some (.inr (.inr (false))))
 else
 ((eF a0.tgt x1).bind λv6=>
 (gA v6 0 (wr (a0.n - 1))).bind λv7=>
 bif !v7 then
 (some (.inr (.inr (false))))
 else
 (some (.inl (wr (x1+1))))))
 else
 (some (.inr (.inl ()))))
 else
 (some (.inr (.inl ())))
def gV (a0:Qv):Option Bool:=
 (Lp (jX a0) 0).bind λy9=>
 Sum.elim (λy10=>
 (gA a0.n 1 5).bind λv11=>
 bif v11 then
 (bif decide ((a0.src.length:Int)≤6) then
 (some (decide ((a0.tgt.length:Int)=(a0.src.length:Int))))
 else
 (some (false)))
 else
 (some (false))
 )
 (λy14=>
 some y14
 )
 y9
theorem uB (a0:Qv) (r:Bool) (h:gV a0=some r):HasC Tryz.prog 108 [.agg (eQ a0)] (.bl r):=by
 refine hM [.tmp 2] Tryz.func108 Tryz.ntmps108 k<|sR<|ae (wb k) k<|aT k2<|sQ<|sR<|aT k2<|aI<|oB h λy9 hy9 h=>cU (body:=(jX a0)) hy9 (λ(x1:Int)=>mN [(1,.ptr 0 0 0),(3,.int x1)] [(0,⟨3,[eQ a0]⟩)] 1) (λr e t=>Sum.elim (λa=>(λr e t=>e= .exit 0∧Ent t (mN [(1,.ptr 0 0 0)] [(0,⟨3,[eQ a0]⟩)] 1)) a e t) (λb=>(λr e t=>e= .ret∧sK TT [.tmp 2] (.bl r) .ret t) b e t) r) (bW (bK k2) (bT k<|aO) k4) ?_ ?_
 ·intro x1 o h;refine sQ<|sR<|am k k<|fp k8<|lp k8<|ln k4<|cm k4<|am k k<|iS h (λq1 h=>?_) λq1 h=>aD 9 k q1<|aK k4<|aK k4<|ak k k<|pk k3<|an<|tn<|oL k k<|bE<|aC<|aC<|sp h ⟨_,k,k,(bW (bK k2) (bT k<|aO) k4)⟩;exact aD 9 k q1<|am k k<|fp k8<|lp k8<|ln k4<|cm k4<|pk k3<|an<|tn<|dQ k h (λ_ h=>aP<|tn<|sQ<|aI<|sQ<|aW iR<|fp k8<|lp k8<|am k k<|oB h λv3 hv3 h=>ae (xl hv3 k) k<|lr k7<|fp k8<|lp k8<|ae (lK k k) k<|oB h λv4 hv4 h=>ae (aS (jM v3 0 (wr (a0.n - 1)) v4 hv4) k (cD k (cD k (cD k aL)))) k<|ae (dD k) k<|am k k<|iS h (λq5 h=>aD 28 k q5<|aK k4<|aK k4<|aK k4<|aK k4<|aK k4<|pk k3<|an<|sO (by kernel_rfl)<|tn<|aM (t:=mN [(1,.ptr 0 0 0),(3,.int x1),(39,.bl true)] [(0,⟨3,[eQ a0]⟩)] 1) (bW (bK k2) (bT k<|aO) k4)<|cB k k<|sR<|aT k2<|aB<|bO<|aF<|aF<|sp h ⟨_,k,k,bB k k k (oK k)⟩) λq5 h=>aD 28 k q5<|fp k8<|lp k8<|am k k<|oB h λv6 hv6 h=>ae (xl hv6 k) k<|lr k7<|fp k8<|lp k8<|ae (lK k k) k<|oB h λv7 hv7 h=>ae (aS (jM v6 0 (wr (a0.n - 1)) v7 hv7) k (cD k (cD k (cD k aL)))) k<|ae (dD k) k<|pk k3<|an<|sO (by kernel_rfl)<|tn<|aM (t:=mN [(1,.ptr 0 0 0),(3,.int x1),(39,.bl (!v7))] [(0,⟨3,[eQ a0]⟩)] 1) (bW (bK k2) (bT k<|aO) k4)<|dQ k h (λ_ h=>sR<|aT k2<|aB<|bO<|aF<|aF<|sp h ⟨_,k,k,bB k k k (oK k)⟩) λ_ h=>aP<|aZ<|tn<|rg<|am k k<|ae (bL k k) k<|aT k2<|sp h ⟨_,k,(bW (bK k2) (bT k<|aO) k4)⟩) λ_ h=>bE<|aC<|aC<|sp h ⟨_,k,k,(bW (bK k2) (bT k<|aO) k4)⟩
 ·intro e t hX;rcases y9 with y10|y14
  ·obtain ⟨rfl,hent⟩:=hX;exact aU<|tn<|aM hent<|sR<|fp k8<|lp k8<|oB h λv11 hv11 h=>ae (aS (jM a0.n 1 5 v11 hv11) k (cD k (cD k (cD k aL)))) k<|am k k<|iS h (λq12 h=>aD 43 k q12<|fp k8<|lp k8<|ln k4<|cm k4<|pk k3<|am k k<|iS h (λq13 h=>aD 49 k q13<|fp k8<|lp k8<|ln k4<|fp k8<|lp k8<|ln k4<|cm k4<|pk k3<|aT k2<|aB<|fS h k2) λq13 h=>aD 49 k q13<|aK k4<|aK k4<|aK k4<|ak k k<|pk k3<|aT k2<|aB<|fS h k2) λq12 h=>aD 43 k q12<|aK k4<|aK k4<|pk k3<|am k k<|aK k4<|aK k4<|aK k4<|ak k k<|pk k3<|aT k2<|aB<|fS h k2
  ·obtain ⟨rfl,hent⟩:=hX;exact bO<|aF<|sp h hent
def wI (a0:Int) (a1:Int):Option Mt:=
 bif (decide (0≤wr (a0*a1))&&decide (wr (a0*a1)≤1048576)) then
 (some ((⟨a0,a1,(List.replicate ((wr (a0*a1)).toNat) (0:Int))⟩:Mt)))
 else none
theorem aHR (a0:Int) (a1:Int) (r:Mt) (h:wI a0 a1=some r):HasC Tryz.prog 182 [.int a0,.int a1] (.agg (eM r)):=by
 exact hM [.cell 4 81] Tryz.func182 Tryz.ntmps182 k<|sR<|ae (aY aH k k) k<|an<|tn<|sR<|am k k<|am k k<|am k k<|am k k<|ae (gN k k) k<|cG h λq1 h=>ae (aAo aH q1 k k k k k k k k) k<|ae (dM aH k k k k k k) k<|ae (ws k) k<|an<|tn<|aM (t:=mN [(4,.ptr 0 0 0)] [(0,⟨3,[[.int a0,.int a1,.own 1 0 ((List.replicate ((wr (a0*a1)).toNat) (0:Int)).length)]]⟩),(1,⟨1,List.map (ow eI) (List.replicate ((wr (a0*a1)).toNat) (0:Int))⟩)] 2) (bW (bK k2) (hX ⟨_,k,k,.inr ⟨_,_,k,⟨_,_,k,k,⟨_,_,k,k,⟨_,_,k,⟨k,k,(by simp only [aN,lA,lT,lR,lC,lN]),k⟩,k⟩⟩⟩,k⟩⟩ k<|hX ⟨_,k,k,.inl ⟨aAn (e:=eI) (z:=0) _,cJ.plainO _⟩⟩ k<|aO) k4)<|aB<|sp h (bB k k k (rT (aG (k) (aG (k) (aG (dY cJ k k) cO)))))
def nL (a0:Int) (a1:Int):Option Mt:=
 bif (decide (0≤wr (a0*a1))&&decide (wr (a0*a1)≤1048576)) then
 (some ((⟨a0,a1,(List.replicate ((wr (a0*a1)).toNat) (0:Int))⟩:Mt)))
 else none
theorem wR (a0:Int) (a1:Int) (r:Mt) (h:nL a0 a1=some r):HasC Tryz.prog 165 [.int a0,.int a1] (.agg (eM r)):=by
 exact hM [.cell 4 81] Tryz.func165 Tryz.ntmps165 k<|sR<|ae (aY aH k k) k<|an<|tn<|sR<|am k k<|am k k<|am k k<|am k k<|ae (gN k k) k<|cG h λq1 h=>ae (aAo aH q1 k k k k k k k k) k<|ae (dM aH k k k k k k) k<|ae (ws k) k<|an<|tn<|aM (t:=mN [(4,.ptr 0 0 0)] [(0,⟨3,[[.int a0,.int a1,.own 1 0 ((List.replicate ((wr (a0*a1)).toNat) (0:Int)).length)]]⟩),(1,⟨1,List.map (ow eI) (List.replicate ((wr (a0*a1)).toNat) (0:Int))⟩)] 2) (bW (bK k2) (hX ⟨_,k,k,.inr ⟨_,_,k,⟨_,_,k,k,⟨_,_,k,k,⟨_,_,k,⟨k,k,(by simp only [aN,lA,lT,lR,lC,lN]),k⟩,k⟩⟩⟩,k⟩⟩ k<|hX ⟨_,k,k,.inl ⟨aAn (e:=eI) (z:=0) _,cJ.plainO _⟩⟩ k<|aO) k4)<|aB<|sp h (bB k k k (rT (aG (k) (aG (k) (aG (dY cJ k k) cO)))))
def dX (a0:Mt) (a1:Int):Option Unit:=
 bif (decide (0≤wr (a1*a0.cols))&&(decide (wr (a1*a0.cols)≤wr ((wr (a1+1))*a0.cols))&&decide (wr ((wr (a1+1))*a0.cols)≤((a0.cells.length:Nat):Int)))) then
 (some ())
 else none
theorem fJ (a0:Mt) (a1:Int) (r:Unit) (h:dX a0 a1=some r):HasE Tryz.prog 237 [.agg [.int a0.rows,.int a0.cols,.own 0 0 a0.cells.length],.int a1] [(0,⟨1,a0.cells.map (ow eI)⟩)] 1 (.own 0 (0+(wr (a1*a0.cols)).toNat) ((wr ((wr (a1+1))*a0.cols)).toNat - (wr (a1*a0.cols)).toNat)) [(0,⟨1,a0.cells.map (ow eI)⟩)]:=by
 exact fU aH (rvs:=[.tmp 4]) (ns:=nmA.drop 1) Tryz.func237 k k Tryz.ntmps237 k k<|sR<|ae (wb k) k<|aT k2<|sR<|fp k8<|lp k8<|am k k<|fp k8<|lp k8<|ae (gN k k) k<|am k k<|ae (bL k k) k<|fp k8<|lp k8<|ae (gN k k) k<|cG h λq1 h=>ae (aCd aH (l:=wr (a1*a0.cols)) (h:=wr ((wr (a1+1))*a0.cols)) q1 k k k k k k k k) k<|aT k2<|aB<|sp h ⟨mN [(4,.own 0 (0+(wr (a1*a0.cols)).toNat) ((wr ((wr (a1+1))*a0.cols)).toNat - (wr (a1*a0.cols)).toNat))] [(0,⟨1,a0.cells.map (ow eI)⟩)] 1 1,(bW (bK k2) (bN k<|aO) k4),k,⟨_,k,.inl k⟩,⟨k,aO⟩⟩
def kI (a0:Int) (a2:Int) (a3:(List Int)) (n1:Nat) (s1:Nat) (x1:((List Int)×Int)):Option (((List Int)×Int) ⊕ (List Int)):=
 bif decide (x1.2<(a3.length:Int)) then
 ((eF a3 x1.2).bind λv2=>
 bif (decide (0≤x1.2)&&decide (x1.2<((n1:Nat):Int))) then
 ((x1.1[(s1+x1.2.toNat)]?).bind λv3=>
 bif !decide (a0=0) then
 (bif (decide (0≤x1.2)&&decide (x1.2<((n1:Nat):Int))) then
 ((x1.1[(s1+x1.2.toNat)]?).bind λv5=>
 some (.inl ((x1.1.set (s1+x1.2.toNat) ((wr (v3+(wr (a2*v2)))).tmod a0)),wr (x1.2+1)))
 )
 else none)
 else none
 )
 else none)
 else
 (some (.inr x1.1))
def jY (a0:Int) (c0:(List Int)) (s1:Nat) (n1:Nat) (a2:Int) (a3:(List Int)):Option (List Int):=
 (Lp (kI a0 a2 a3 n1 s1) (c0,0)).bind λy8=>
 some y8
theorem aAs (a0:Int) (c0:(List Int)) (s1:Nat) (n1:Nat) (a2:Int) (a3:(List Int)) (r:(List Int)) (h:jY a0 c0 s1 n1 a2 a3=some r):HasE Tryz.prog 190 [.int a0,.own 0 s1 n1,.int a2,.list 1 (a3.map eI)] [(0,⟨1,c0.map (ow eI)⟩)] 1 (.own 0 s1 n1) [(0,⟨1,r.map (ow eI)⟩)]:=by
 refine fU aH (rvs:=[.tmp 8]) (ns:=nmA.drop 1) Tryz.func190 k k Tryz.ntmps190 k k<|sR<|aT k2<|sQ<|sR<|am k k<|ln k4<|am k k<|an<|tn<|aI<|oB h λy8 hy8 h=>cU (body:=(kI a0 a2 a3 n1 s1)) hy8 (λ(x1:((List Int)×Int))=>mN [(0,.int a0),(1,.own 0 s1 n1),(2,.int a2),(11,.list 1 (a3.map eI)),(12,.int (a3.length:Int)),(13,.int x1.2)] [(0,⟨1,x1.1.map (ow eI)⟩)] 1 1) (λr e t=>e= .exit 0∧Ent t (mN [(1,.own 0 s1 n1)] [(0,⟨1,r.map (ow eI)⟩)] 1 1)) (bW (bK k2) (bN k<|aO) k4) ?_ ?_
 ·intro x1 o h;refine sR<|cm k4<|an<|tn<|sQ<|dQ k h (λ_ h=>?_) λ_ h=>bE<|aC<|aC<|sp h ⟨_,k,k,(bW (bK k2) (bN k<|aO) k4)⟩;refine aP<|tn<|sQ<|aI<|sR<|am k k<|oB h λv2 hv2 h=>ae (xl hv2 k) k<|lr k7<|aa k k<|aT k2<|rg<|am k k<|am k k<|am k k<|am k k<|cG h λq4 h=>oB h λv3 hv3 h=>ae (hY aH q4 k k k k k k k) k<|ae (iZ aH k k k k (rB (hv3)) k k) k<|am k k<|am k k<|ae (gN k k) k<|ae (bL k k) k<|am k k<|cG h λq7 h=>ae (zG k k q7) k<|cG h λq6 h=>oB h λv5 hv5 h=>ae (hY aH q6 k k k k k k k) k<|ae (iU aH jF (u:=(wr (v3+(wr (a2*v2)))).tmod a0) (hv5) k k k k k k) k<|an ?_;exact aZ<|tn<|rg<|ae (bL k k) k<|am k k<|an<|tn<|sp h ⟨_,k,(bW (bK k2) (bN k<|aO) k4)⟩
 ·rintro e t ⟨rfl,hent⟩;exact aU<|tn<|aM hent<|sR<|am k k<|aT k2<|aB<|sp h ⟨mN [(8,.own 0 s1 n1)] [(0,⟨1,y8.map (ow eI)⟩)] 1 1,(bW (bK k2) (bN k<|aO) k4),k,⟨_,k,.inl k⟩,⟨k,aO⟩⟩
def gP (a0:Int) (a2:Int) (n1:Nat) (n3:Nat) (s1:Nat) (s3:Nat) (x1:((List Int)×Int)):Option (((List Int)×Int) ⊕ (List Int)):=
 bif decide (x1.2<((n3:Nat):Int)) then
 (bif (decide (0≤x1.2)&&decide (x1.2<((n3:Nat):Int))) then
 ((x1.1[(s3+x1.2.toNat)]?).bind λv2=>
 bif (decide (0≤x1.2)&&decide (x1.2<((n1:Nat):Int))) then
 ((x1.1[(s1+x1.2.toNat)]?).bind λv4=>
 bif !decide (a0=0) then
 (bif (decide (0≤x1.2)&&decide (x1.2<((n1:Nat):Int))) then
 ((x1.1[(s1+x1.2.toNat)]?).bind λv6=>
 some (.inl ((x1.1.set (s1+x1.2.toNat) ((wr (v4+(wr (a2*v2)))).tmod a0)),wr (x1.2+1)))
 )
 else none)
 else none
 )
 else none
 )
 else none)
 else
 (some (.inr x1.1))
def iV (a0:Int) (c0:(List Int)) (s1:Nat) (n1:Nat) (a2:Int) (s3:Nat) (n3:Nat):Option (List Int):=
 (Lp (gP a0 a2 n1 n3 s1 s3) (c0,0)).bind λy9=>
 some y9
theorem xI (a0:Int) (c0:(List Int)) (s1:Nat) (n1:Nat) (a2:Int) (s3:Nat) (n3:Nat) (r:(List Int)) (h:iV a0 c0 s1 n1 a2 s3 n3=some r):HasE Tryz.prog 190 [.int a0,.own 0 s1 n1,.int a2,.own 0 s3 n3] [(0,⟨1,c0.map (ow eI)⟩)] 1 (.own 0 s1 n1) [(0,⟨1,r.map (ow eI)⟩)]:=by
 refine fU aH (rvs:=[.tmp 8]) (ns:=nmA.drop 1) Tryz.func190 k k Tryz.ntmps190 k k<|sR<|aT k2<|sQ<|sR<|am k k<|ae (dK aH k k k k) k<|am k k<|an<|tn<|aI<|oB h λy9 hy9 h=>cU (body:=(gP a0 a2 n1 n3 s1 s3)) hy9 (λ(x1:((List Int)×Int))=>mN [(0,.int a0),(1,.own 0 s1 n1),(2,.int a2),(11,.own 0 s3 n3),(12,.int ((n3:Nat):Int)),(13,.int x1.2)] [(0,⟨1,x1.1.map (ow eI)⟩)] 1 1) (λr e t=>e= .exit 0∧Ent t (mN [(1,.own 0 s1 n1)] [(0,⟨1,r.map (ow eI)⟩)] 1 1)) (bW (bK k2) (bN k<|aO) k4) ?_ ?_
 ·intro x1 o h;refine sR<|cm k4<|an<|tn<|sQ<|dQ k h (λ_ h=>?_) λ_ h=>bE<|aC<|aC<|sp h ⟨_,k,k,(bW (bK k2) (bN k<|aO) k4)⟩;refine aP<|tn<|sQ<|aI<|sR<|am k k<|cG h λq3 h=>oB h λv2 hv2 h=>ae (hY aH q3 k k k k k k k) k<|ae (iZ aH k k k k (rB (hv2)) k k) k<|aa k k<|aT k2<|rg<|am k k<|am k k<|am k k<|am k k<|cG h λq5 h=>oB h λv4 hv4 h=>ae (hY aH q5 k k k k k k k) k<|ae (iZ aH k k k k (rB (hv4)) k k) k<|am k k<|am k k<|ae (gN k k) k<|ae (bL k k) k<|am k k<|cG h λq8 h=>ae (zG k k q8) k<|cG h λq7 h=>oB h λv6 hv6 h=>ae (hY aH q7 k k k k k k k) k<|ae (iU aH jF (u:=(wr (v4+(wr (a2*v2)))).tmod a0) (hv6) k k k k k k) k<|an ?_;exact aZ<|tn<|rg<|ae (bL k k) k<|am k k<|an<|tn<|sp h ⟨_,k,(bW (bK k2) (bN k<|aO) k4)⟩
 ·rintro e t ⟨rfl,hent⟩;exact aU<|tn<|aM hent<|sR<|am k k<|aT k2<|aB<|sp h ⟨mN [(8,.own 0 s1 n1)] [(0,⟨1,y9.map (ow eI)⟩)] 1 1,(bW (bK k2) (bN k<|aO) k4),k,⟨_,k,.inl k⟩,⟨k,aO⟩⟩
def jG (a0:Int) (a1:Int):Option Int:=
 bif !decide (a0=0) then
 (bif decide (a1.tmod a0<0) then
 (some (wr ((a1.tmod a0)+a0)))
 else
 (some (a1.tmod a0)))
 else none
theorem pD (a0:Int) (a1:Int) (r:Int) (h:jG a0 a1=some r):HasC Tryz.prog 192 [.int a0,.int a1] (.int r):=by
 exact hM [.tmp 4] Tryz.func192 Tryz.ntmps192 k<|sR<|aT k2<|sR<|am k k<|am k k<|cG h λq2 h=>ae (zG k k q2) k<|aT k2<|sQ<|sR<|am k k<|cm k4<|an<|tn<|dQ k h (λ_ h=>rg<|am k k<|am k k<|ae (bL k k) k<|aT k2<|sR<|am k k<|aT k2<|aB<|rtI h k2) λ_ h=>aP<|tn<|sR<|am k k<|aT k2<|aB<|rtI h k2
def kX (a0:Int) (a1:Int) (x1:Int):Option (Int ⊕ (Unit ⊕ Int)):=
 bif decide (x1<a0) then
 ((jV a0).bind λv2=>
 bif v2 then
 ((jG a0 a1).bind λv4=>
 (jG a0 (wr (v4*x1))).bind λv5=>
 bif decide (v5=1) then
 (some (.inr (.inr (x1))))
 else
 (some (.inl (wr (x1+1)))))
 else
 (some (.inr (.inl ()))))
 else
 (some (.inr (.inl ())))
def nZ (a0:Int) (a1:Int):Option Int:=
 (Lp (kX a0 a1) 1).bind λy7=>
 Sum.elim (λy8=>
 some (0)
 )
 (λy9=>
 some y9
 )
 y7
theorem aBX (a0:Int) (a1:Int) (r:Int) (h:nZ a0 a1=some r):HasC Tryz.prog 245 [.int a0,.int a1] (.int r):=by
 refine hM [.tmp 4] Tryz.func245 Tryz.ntmps245 k<|sR<|aT k2<|sQ<|sR<|aT k2<|aI<|oB h λy7 hy7 h=>cU (body:=(kX a0 a1)) hy7 (λ(x1:Int)=>mN [(0,.int a0),(1,.int a1),(5,.int x1)] [] 0) (λr e t=>Sum.elim (λa=>(λr e t=>e= .exit 0∧Ent t (mN [] [] 0)) a e t) (λb=>(λr e t=>e= .ret∧sK TT [.tmp 4] (.int r) .ret t) b e t) r) (bW (bK k2) aO k4) ?_ ?_
 ·intro x1 o h;exact sQ<|sR<|am k k<|am k k<|cm k4<|am k k<|iS h (λq1 h=>aD 9 k q1<|am k k<|oB h λv2 hv2 h=>ae (aS (oR a0 v2 hv2) k (cD k aL)) k<|pk k3<|an<|tn<|dQ k h (λ_ h=>aP<|tn<|sQ<|aI<|sR<|am k k<|am k k<|am k k<|oB h λv4 hv4 h=>ae (aS (pD a0 a1 v4 hv4) k (cD k (cD k aL))) k<|am k k<|ae (gN k k) k<|oB h λv5 hv5 h=>ae (aS (pD a0 (wr (v4*x1)) v5 hv5) k (cD k (cD k aL))) k<|cm k4<|an<|tn<|dQ k h (λ_ h=>sR<|am k k<|aT k2<|aB<|bO<|aF<|aF<|sp h ⟨_,k,k,bB k k k (aDX k)⟩) λ_ h=>aP<|aZ<|tn<|rg<|am k k<|ae (bL k k) k<|aT k2<|sp h ⟨_,k,(bW (bK k2) aO k4)⟩) λ_ h=>bE<|aC<|aC<|sp h ⟨_,k,k,(bW aO aO k4)⟩) λq1 h=>aD 9 k q1<|aK k4<|pk k3<|an<|tn<|oL k k<|bE<|aC<|aC<|sp h ⟨_,k,k,(bW aO aO k4)⟩
 ·intro e t hX;rcases y7 with y8|y9
  ·obtain ⟨rfl,hent⟩:=hX;exact aU<|tn<|aM hent<|sR<|aT k2<|aB<|rtI h k2
  ·obtain ⟨rfl,hent⟩:=hX;exact bO<|aF<|sp h hent
def mS (a0:Int) (a1:(List Int)) (x1:Int):Option (Int ⊕ (Unit ⊕ Bool)):=
 bif decide (x1<(a1.length:Int)) then
 ((eF a1 x1).bind λv5=>
 (gA v5 0 (wr (a0 - 1))).bind λv6=>
 bif !v6 then
 (some (.inr (.inr (false))))
 else
 (some (.inl (wr (x1+1)))))
 else
 (some (.inr (.inl ())))
def nH (a0:Int) (a1:(List Int)):Option Bool:=
 (jV a0).bind λv1=>
 bif !v1 then
 (some (false))
 else
 (bif decide (64<(a1.length:Int)) then
 (some (false))
 else
 ((Lp (mS a0 a1) 0).bind λy8=>
 Sum.elim (λy9=>
 some (true)
 )
 (λy10=>
 some y10
 )
 y8))
theorem yI (a0:Int) (a1:(List Int)) (r:Bool) (h:nH a0 a1=some r):HasC Tryz.prog 238 [.int a0,.list 1 (a1.map eI)] (.bl r):=by
 refine hM [.tmp 4] Tryz.func238 Tryz.ntmps238 k<|sR<|aT k2<|sQ<|sR<|am k k<|oB h λv1 hv1 h=>ae (aS (oR a0 v1 hv1) k (cD k aL)) k<|ae (dD k) k<|am k k<|iS h (λq2 h=>aD 9 k q2<|aK k4<|ak k k<|pk k3<|an<|tn<|cB k k<|sR<|aT k2<|aB<|aF<|fS h k2) λq2 h=>?_;refine aD 9 k q2<|am k k<|ln k4<|cm k4<|pk k3<|an<|tn<|dQ k h (λ_ h=>sR<|aT k2<|aB<|aF<|fS h k2) λ_ h=>?_;refine aP<|tn<|sQ<|sR<|aT k2<|aI<|oB h λy8 hy8 h=>cU (body:=(mS a0 a1)) hy8 (λ(x1:Int)=>mN [(0,.int a0),(1,.list 1 (a1.map eI)),(5,.int x1)] [] 0) (λr e t=>Sum.elim (λa=>(λr e t=>e= .exit 0∧Ent t (mN [] [] 0)) a e t) (λb=>(λr e t=>e= .ret∧sK TT [.tmp 4] (.bl r) .ret t) b e t) r) (bW (bK k2) aO k4) ?_ ?_
 ·intro x1 o h;exact sQ<|sR<|am k k<|am k k<|ln k4<|cm k4<|an<|tn<|dQ k h (λ_ h=>aP<|tn<|sQ<|aI<|sR<|am k k<|am k k<|oB h λv5 hv5 h=>ae (xl hv5 k) k<|lr k7<|am k k<|ae (lK k k) k<|oB h λv6 hv6 h=>ae (aS (jM v5 0 (wr (a0 - 1)) v6 hv6) k (cD k (cD k (cD k aL)))) k<|ae (dD k) k<|an<|tn<|dQ k h (λ_ h=>sR<|aT k2<|aB<|bO<|aF<|aF<|sp h ⟨_,k,k,bB k k k (oK k)⟩) λ_ h=>aP<|aZ<|tn<|rg<|am k k<|ae (bL k k) k<|aT k2<|sp h ⟨_,k,(bW (bK k2) aO k4)⟩) λ_ h=>bE<|aC<|aC<|sp h ⟨_,k,k,(bW aO aO k4)⟩
 ·intro e t hX;rcases y8 with y9|y10
  ·obtain ⟨rfl,hent⟩:=hX;exact aU<|tn<|aM hent<|sR<|aT k2<|aB<|fS h k2
  ·obtain ⟨rfl,hent⟩:=hX;exact bO<|aF<|sp h hent
def qN (a0:Int) (a1:Mt):Option Bool:=
 (gA a1.rows 0 8).bind λv1=>
 bif v1 then
 ((gA a1.cols 0 8).bind λv3=>
 bif v3 then
 (bif decide ((a1.cells.length:Int)=wr (a1.rows*a1.cols)) then
 ((nH a0 a1.cells).bind λv6=>
 some (v6))
 else
 (some (false)))
 else
 (some (false)))
 else
 (some (false))
theorem aCn (a0:Int) (a1:Mt) (r:Bool) (h:qN a0 a1=some r):HasC Tryz.prog 200 [.int a0,.agg (eM a1)] (.bl r):=by
 exact hM [.tmp 4] Tryz.func200 Tryz.ntmps200 k<|sR<|ae (wb k) k<|aT k2<|sR<|fp k8<|lp k8<|oB h λv1 hv1 h=>ae (aS (jM a1.rows 0 8 v1 hv1) k (cD k (cD k (cD k aL)))) k<|am k k<|iS h (λq2 h=>aD 8 k q2<|fp k8<|lp k8<|oB h λv3 hv3 h=>ae (aS (jM a1.cols 0 8 v3 hv3) k (cD k (cD k (cD k aL)))) k<|pk k3<|am k k<|iS h (λq4 h=>aD 13 k q4<|fp k8<|lp k8<|ln k4<|fp k8<|lp k8<|fp k8<|lp k8<|ae (gN k k) k<|cm k4<|pk k3<|am k k<|iS h (λq5 h=>aD 24 k q5<|am k k<|fp k8<|lp k8<|oB h λv6 hv6 h=>ae (aS (yI a0 a1.cells v6 hv6) k (cD k (cD k aL))) k<|pk k3<|aT k2<|aB<|fS h k2) λq5 h=>aD 24 k q5<|aK k4<|aK k4<|pk k3<|aT k2<|aB<|fS h k2) λq4 h=>aD 13 k q4<|aK k4<|aK k4<|aK k4<|aK k4<|ak k k<|pk k3<|am k k<|aK k4<|aK k4<|pk k3<|aT k2<|aB<|fS h k2) λq2 h=>aD 8 k q2<|aK k4<|ak k k<|pk k3<|am k k<|aK k4<|aK k4<|aK k4<|aK k4<|ak k k<|pk k3<|am k k<|aK k4<|aK k4<|pk k3<|aT k2<|aB<|fS h k2
def wS (a0:Mt):Option Mt:=
 bif decide (([]:(List Int)).length +a0.cells.length≤4294967296) then
 (some ((⟨a0.rows,a0.cols,(([]:(List Int))++a0.cells)⟩:Mt)))
 else none
theorem aET (a0:Mt) (r:Mt) (h:wS a0=some r):HasC Tryz.prog 244 [.agg (eM a0)] (.agg (eM r)):=by
 exact hM [.cell 2 81] Tryz.func244 Tryz.ntmps244 k<|sR<|ae (wb k) k<|ae (aY aH k k) k<|an<|tn<|sQ<|aW iR<|fp k8<|lp k8<|fp k8<|lp k8<|ae (wl k) k<|fp k8<|lp k8<|cG h λq1 h=>ae (iJ aH (l:=([]:(List Int))) (m:=a0.cells) jF q1 k k k k k k k k k k k k) k<|ae (dM aH k k k k k k) k<|ae (ws k) k<|an<|sO (by kernel_rfl)<|tn<|aB<|sp h (bB k k k (rT (aG (k) (aG (k) (aG (dY cJ k k) cO)))))
end
noncomputable section
set_option maxRecDepth 10000
set_option maxHeartbeats 4000000
def jZ (v1:Mt) (x1:(Int×(List Int)×(List Int)×Int)) (x2:(Int×Int)):Option ((Int×Int) ⊕ Int):=
 bif decide (x1.2.2.2≤x2.2) then
 ((eF x1.2.1 (wr ((wr (x2.2*v1.cols))+x1.1))).bind λv5=>
 bif !decide (v5=0) then
 (some (.inl (x2.2,wr (x2.2 - 1))))
 else
 (some (.inl (x2.1,wr (x2.2 - 1)))))
 else
 (some (.inr x2.1))
def mT (v1:Mt) (x1:(Int×(List Int)×(List Int)×Int)) (y7:Int) (x3:((List Int)×Int)):Option (((List Int)×Int) ⊕ (List Int)):=
 bif decide (x3.2<v1.cols) then
 ((eF x3.1 (wr ((wr (x1.2.2.2*v1.cols))+x3.2))).bind λv10=>
 (eF x3.1 (wr ((wr (y7*v1.cols))+x3.2))).bind λv11=>
 (eF x3.1 (wr ((wr (x1.2.2.2*v1.cols))+x3.2))).bind λv12=>
 (eF (x3.1.set ((wr ((wr (x1.2.2.2*v1.cols))+x3.2)).toNat) v11) (wr ((wr (y7*v1.cols))+x3.2))).bind λv13=>
 some (.inl (((x3.1.set ((wr ((wr (x1.2.2.2*v1.cols))+x3.2)).toNat) v11).set ((wr ((wr (y7*v1.cols))+x3.2)).toNat) v10),wr (x3.2+1))))
 else
 (some (.inr x3.1))
def mU (a0:Int) (v1:Mt) (v16:Int) (x1:(Int×(List Int)×(List Int)×Int)) (x4:((List Int)×Int)):Option (((List Int)×Int) ⊕ (List Int)):=
 bif decide (x4.2<v1.cols) then
 ((eF x4.1 (wr ((wr (x1.2.2.2*v1.cols))+x4.2))).bind λv18=>
 (jG a0 (wr (v16*v18))).bind λv19=>
 (eF x4.1 (wr ((wr (x1.2.2.2*v1.cols))+x4.2))).bind λv20=>
 some (.inl ((x4.1.set ((wr ((wr (x1.2.2.2*v1.cols))+x4.2)).toNat) v19),wr (x4.2+1))))
 else
 (some (.inr x4.1))
def kA (a0:Int) (v1:Mt) (v23:Int) (x1:(Int×(List Int)×(List Int)×Int)) (x5:((List Int)×Int)) (x6:((List Int)×Int)):Option (((List Int)×Int) ⊕ (List Int)):=
 bif decide (x6.2<v1.cols) then
 (bif !decide (x5.2=x1.2.2.2) then
 ((eF x6.1 (wr ((wr (x5.2*v1.cols))+x6.2))).bind λv26=>
 (eF x6.1 (wr ((wr (x1.2.2.2*v1.cols))+x6.2))).bind λv27=>
 (jG a0 (wr (v26 - (wr (v23*v27))))).bind λv28=>
 (eF x6.1 (wr ((wr (x5.2*v1.cols))+x6.2))).bind λv29=>
 some (.inl ((x6.1.set ((wr ((wr (x5.2*v1.cols))+x6.2)).toNat) v28),wr (x6.2+1))))
 else
 (some (.inr x6.1)))
 else
 (some (.inr x6.1))
def mV (a0:Int) (v1:Mt) (x1:(Int×(List Int)×(List Int)×Int)) (x5:((List Int)×Int)):Option (((List Int)×Int) ⊕ (List Int)):=
 bif decide (x5.2<v1.rows) then
 ((eF x5.1 (wr ((wr (x5.2*v1.cols))+x1.1))).bind λv23=>
 (Lp (kA a0 v1 v23 x1 x5) (x5.1,0)).bind λy30=>
 some (.inl (y30,wr (x5.2+1))))
 else
 (some (.inr x5.1))
def fX (a0:Int) (v1:Mt) (x1:(Int×(List Int)×(List Int)×Int)):Option ((Int×(List Int)×(List Int)×Int) ⊕ ((List Int)×(List Int))):=
 bif decide (x1.1<v1.cols) then
 (bif decide (x1.2.2.2<v1.rows) then
 ((Lp (jZ v1 x1) ((-1),wr (v1.rows - 1))).bind λy7=>
 bif decide (y7<0) then
 (some (.inl (wr (x1.1+1),x1.2.1,x1.2.2.1,x1.2.2.2)))
 else
 ((Lp (mT v1 x1 y7) (x1.2.1,0)).bind λy14=>
 (eF y14 (wr ((wr (x1.2.2.2*v1.cols))+x1.1))).bind λv15=>
 (nZ a0 v15).bind λv16=>
 (Lp (mU a0 v1 v16 x1) (y14,0)).bind λy21=>
 (Lp (mV a0 v1 x1) (y21,0)).bind λy31=>
 bif decide (x1.2.2.1.length+[x1.1].length ≤4294967296) then
 (some (.inl (wr (x1.1+1),y31,(x1.2.2.1++[x1.1]),wr (x1.2.2.2+1))))
 else none))
 else
 (some (.inr (x1.2.1,x1.2.2.1))))
 else
 (some (.inr (x1.2.1,x1.2.2.1)))
def kT (a0:Int) (a1:Mt):Option (Mt×(List Int)):=
 (wS a1).bind λv1=>
 (Lp (fX a0 v1) (0,v1.cells,([]:(List Int)),0)).bind λy33=>
 some (((⟨v1.rows,v1.cols,y33.1⟩:Mt),y33.2))
theorem uC (a0:Int) (a1:Mt) (r:(Mt×(List Int))) (h:kT a0 a1=some r):HasC Tryz.prog 201 [.int a0,.agg (eM a1)] (.tuple [.agg (eM r.1),.list 1 (r.2.map eI)]):=by
 refine hM [.cell 4 81,.tmp 5] Tryz.func201 Tryz.ntmps201 k<|sR<|ae (wb k) k<|ae (aY aH k k) k<|aT k2<|sR<|lp k8<|oB h λv1 hv1 h=>ae (cM (aET a1 v1 hv1) k3 (aJ (fK k) aL)) k<|ae (aY aH k k) k<|ae (ws k) k<|an<|tn<|sR<|ae (wl k) k<|aT k2<|aM (t:=mN [(0,.int a0),(4,.ptr 1 0 0),(6,.ptr 3 0 0),(7,.own 4 0 (([]:(List Int)).length))] [(1,⟨3,[mD]⟩),(2,⟨1,v1.cells.map (ow eI)⟩),(3,⟨3,[oMt v1 2]⟩),(4,⟨1,List.map (ow eI) ([]:(List Int))⟩)] 5) (bW (uA 3 k2 (sJ ⟨_,k,⟨k,k,(by simp only [aN,lA,lT,lR,lC,lN]),k⟩⟩ aO)) (bT k<|bN k<|eB k<|bN k<|aO) k4)<|sR<|aT k2<|sQ<|sQ ?_;refine rg<|aT k2<|aI<|oB h λy33 hy33 h=>cU (body:=(fX a0 v1)) hy33 (λ(x1:(Int×(List Int)×(List Int)×Int))=>mN [(0,.int a0),(4,.ptr 0 0 0),(6,.ptr 1 0 0),(7,.own 3 0 x1.2.2.1.length),(8,.int x1.2.2.2),(9,.int x1.1)] [(0,⟨3,[mD]⟩),(1,⟨3,[[.int v1.rows,.int v1.cols,.own 2 0 x1.2.1.length]]⟩),(2,⟨1,x1.2.1.map (ow eI)⟩),(3,⟨1,x1.2.2.1.map (ow eI)⟩)] 4) (λr e t=>e= .exit 0∧Ent t (mN [(4,.ptr 0 0 0),(6,.ptr 1 0 0),(7,.own 3 0 r.2.length)] [(0,⟨3,[mD]⟩),(1,⟨3,[[.int v1.rows,.int v1.cols,.own 2 0 r.1.length]]⟩),(2,⟨1,r.1.map (ow eI)⟩),(3,⟨1,r.2.map (ow eI)⟩)] 4)) (mP [1,3,2,4] (bK k2) (bT k<|eB k<|bN k<|bN k<|aO) k4) ?_ ?_
 ·intro x1 o h;refine sQ<|sR<|am k k<|fp k8<|lp k8<|cm k4<|am k k<|iS h (λq2 h=>?_) λq2 h=>aD 26 k q2<|aK k4<|aK k4<|pk k3<|an<|tn<|oL k k<|bE<|aC<|aC<|sp h ⟨_,k,k,(bW (bK k2) (bT k<|eB k<|bN k<|bN k<|aO) k4)⟩;refine aD 26 k q2<|am k k<|fp k8<|lp k8<|cm k4<|pk k3<|an<|tn<|dQ k h (λ_ h=>?_) λ_ h=>bE<|aC<|aC<|sp h ⟨_,k,k,(bW (bK k2) (bT k<|eB k<|bN k<|bN k<|aO) k4)⟩;refine aP<|tn<|sQ<|aI<|sR<|aT k2<|sQ<|sR<|fp k8<|lp k8<|ae (lK k k) k<|aT k2<|aI<|oB h λy7 hy7 h=>cU (body:=(jZ v1 x1)) hy7 (λ(x2:(Int×Int))=>mN [(0,.int a0),(4,.ptr 0 0 0),(6,.ptr 1 0 0),(7,.own 3 0 x1.2.2.1.length),(8,.int x1.2.2.2),(9,.int x1.1),(10,.int x2.1),(11,.int x2.2)] [(0,⟨3,[mD]⟩),(1,⟨3,[[.int v1.rows,.int v1.cols,.own 2 0 x1.2.1.length]]⟩),(2,⟨1,x1.2.1.map (ow eI)⟩),(3,⟨1,x1.2.2.1.map (ow eI)⟩)] 4) (λr e t=>e= .exit 2∧Ent t (mN [(0,.int a0),(4,.ptr 0 0 0),(6,.ptr 1 0 0),(7,.own 3 0 x1.2.2.1.length),(8,.int x1.2.2.2),(9,.int x1.1),(10,.int r)] [(0,⟨3,[mD]⟩),(1,⟨3,[[.int v1.rows,.int v1.cols,.own 2 0 x1.2.1.length]]⟩),(2,⟨1,x1.2.1.map (ow eI)⟩),(3,⟨1,x1.2.2.1.map (ow eI)⟩)] 4)) (bW (bK k2) (bT k<|eB k<|bN k<|bN k<|aO) k4) ?_ ?_
  ·intro x2 o h;exact sQ<|sR<|am k k<|am k k<|cm k4<|an<|tn<|dQ k h (λ_ h=>aP<|tn<|sQ<|aI<|sR<|fp k8<|lp k8<|am k k<|fp k8<|lp k8<|ae (gN k k) k<|am k k<|ae (bL k k) k<|oB h λv5 hv5 h=>ae (xo hv5 k) k<|ae (wp hv5 k) k<|cm k4<|an<|tn<|dQ k h (λ_ h=>rg<|am k k<|aa k k<|an<|aZ<|tn<|rg<|am k k<|ae (lK k k) k<|aT k2<|sp h ⟨_,k,(bW (bK k2) (bT k<|eB k<|bN k<|bN k<|aO) k4)⟩) λ_ h=>aP<|aZ<|tn<|rg<|am k k<|ae (lK k k) k<|aT k2<|sp h ⟨_,k,(bW (bK k2) (bT k<|eB k<|bN k<|bN k<|aO) k4)⟩) λ_ h=>bE<|aC<|aC<|sp h ⟨_,k,k,(bW (bK k2) (bT k<|eB k<|bN k<|bN k<|aO) k4)⟩
  ·rintro e t ⟨rfl,hent⟩;refine aU<|tn<|aM hent<|sQ<|sR<|am k k<|cm k4<|an<|tn<|dQ k h (λ_ h=>bE<|aC<|aU<|tn<|rg<|am k k<|ae (bL k k) k<|aT k2<|sp h ⟨_,k,(bW (bK k2) (bT k<|eB k<|bN k<|bN k<|aO) k4)⟩) λ_ h=>?_;refine aP<|tn<|sQ<|sR<|aT k2<|aI<|oB h λy14 hy14 h=>cU (body:=(mT v1 x1 y7)) hy14 (λ(x3:((List Int)×Int))=>mN [(0,.int a0),(4,.ptr 0 0 0),(6,.ptr 1 0 0),(7,.own 3 0 x1.2.2.1.length),(8,.int x1.2.2.2),(9,.int x1.1),(10,.int y7),(12,.int x3.2)] [(0,⟨3,[mD]⟩),(1,⟨3,[[.int v1.rows,.int v1.cols,.own 2 0 x3.1.length]]⟩),(2,⟨1,x3.1.map (ow eI)⟩),(3,⟨1,x1.2.2.1.map (ow eI)⟩)] 4) (λr e t=>e= .exit 4∧Ent t (mN [(0,.int a0),(4,.ptr 0 0 0),(6,.ptr 1 0 0),(7,.own 3 0 x1.2.2.1.length),(8,.int x1.2.2.2),(9,.int x1.1)] [(0,⟨3,[mD]⟩),(1,⟨3,[[.int v1.rows,.int v1.cols,.own 2 0 r.length]]⟩),(2,⟨1,r.map (ow eI)⟩),(3,⟨1,x1.2.2.1.map (ow eI)⟩)] 4)) (bW (bK k2) (bT k<|eB k<|bN k<|bN k<|aO) k4) ?_ ?_
   ·intro x3 o h;refine sQ<|sR<|am k k<|fp k8<|lp k8<|cm k4<|an<|tn<|dQ k h (λ_ h=>?_) λ_ h=>bE<|aC<|aC<|sp h ⟨_,k,k,(bW (bK k2) (bT k<|eB k<|bN k<|bN k<|aO) k4)⟩;refine aP<|tn<|sQ<|aI<|sR<|fp k8<|lp k8<|am k k<|fp k8<|lp k8<|ae (gN k k) k<|am k k<|ae (bL k k) k<|oB h λv10 hv10 h=>ae (xo hv10 k) k<|ae (wp hv10 k) k<|aT k2<|sQ<|aW iR<|fp k8<|lp k8<|am k k<|fp k8<|lp k8<|ae (gN k k) k<|am k k<|ae (bL k k) k ?_;refine fp k8<|lp k8<|am k k<|fp k8<|lp k8<|ae (gN k k) k<|am k k<|ae (bL k k) k<|oB h λv11 hv11 h=>ae (xo hv11 k) k<|ae (wp hv11 k) k<|oB h λv12 hv12 h=>ae (xo hv12 k) k<|ae (iU aH jF (u:=v11) (gW hv12) k k k k k k) k<|an<|sO (by kernel_rfl)<|tn<|aM (t:=mN [(0,.int a0),(4,.ptr 0 0 0),(6,.ptr 1 0 0),(7,.own 3 0 x1.2.2.1.length),(8,.int x1.2.2.2),(9,.int x1.1),(10,.int y7),(12,.int x3.2),(13,.int v10)] [(0,⟨3,[mD]⟩),(1,⟨3,[[.int v1.rows,.int v1.cols,.own 2 0 ((x3.1.set ((wr ((wr (x1.2.2.2*v1.cols))+x3.2)).toNat) v11).length)]]⟩),(2,⟨1,List.map (ow eI) (x3.1.set ((wr ((wr (x1.2.2.2*v1.cols))+x3.2)).toNat) v11)⟩),(3,⟨1,x1.2.2.1.map (ow eI)⟩)] 4) (bW (bK k2) (bT k<|hX ⟨_,k,k,.inr ⟨_,_,k,⟨_,_,k,k,⟨_,_,k,k,⟨_,_,k,⟨k,k,(by simp only [aN,lA,lT,lR,lC,lN]),k⟩,k⟩⟩⟩,k⟩⟩ k<|bN k<|bN k<|aO) k4)<|rg<|fp k8<|lp k8<|am k k<|fp k8<|lp k8<|ae (gN k k) k<|am k k<|ae (bL k k) k<|am k k<|oB h λv13 hv13 h=>ae (xo hv13 k) k<|ae (iU aH jF (u:=v10) (gW hv13) k k k k k k) k<|an<|aZ ?_;exact tn<|rg<|am k k<|ae (bL k k) k<|aT k2<|sp h ⟨_,k,(bW (bK k2) (bT k<|hX ⟨_,k,k,.inr ⟨_,_,k,⟨_,_,k,k,⟨_,_,k,k,⟨_,_,k,⟨k,k,(by simp only [aN,lA,lT,lR,lC,lN]),k⟩,k⟩⟩⟩,k⟩⟩ k<|bN k<|bN k<|aO) k4)⟩
   ·rintro e t ⟨rfl,hent⟩;refine aU<|tn<|aM hent<|sR<|am k k<|fp k8<|lp k8<|am k k<|fp k8<|lp k8<|ae (gN k k) k<|am k k<|ae (bL k k) k<|oB h λv15 hv15 h=>ae (xo hv15 k) k<|ae (wp hv15 k) k<|oB h λv16 hv16 h=>ae (aS (aBX a0 v15 v16 hv16) k (cD k (cD k aL))) k<|aT k2<|sQ<|sR<|aT k2<|aI<|oB h λy21 hy21 h=>cU (body:=(mU a0 v1 v16 x1)) hy21 (λ(x4:((List Int)×Int))=>mN [(0,.int a0),(4,.ptr 0 0 0),(6,.ptr 1 0 0),(7,.own 3 0 x1.2.2.1.length),(8,.int x1.2.2.2),(9,.int x1.1),(14,.int v16),(15,.int x4.2)] [(0,⟨3,[mD]⟩),(1,⟨3,[[.int v1.rows,.int v1.cols,.own 2 0 x4.1.length]]⟩),(2,⟨1,x4.1.map (ow eI)⟩),(3,⟨1,x1.2.2.1.map (ow eI)⟩)] 4) (λr e t=>e= .exit 6∧Ent t (mN [(0,.int a0),(4,.ptr 0 0 0),(6,.ptr 1 0 0),(7,.own 3 0 x1.2.2.1.length),(8,.int x1.2.2.2),(9,.int x1.1)] [(0,⟨3,[mD]⟩),(1,⟨3,[[.int v1.rows,.int v1.cols,.own 2 0 r.length]]⟩),(2,⟨1,r.map (ow eI)⟩),(3,⟨1,x1.2.2.1.map (ow eI)⟩)] 4)) (bW (bK k2) (bT k<|eB k<|bN k<|bN k<|aO) k4) ?_ ?_
    ·intro x4 o h;refine sQ<|sR<|am k k<|fp k8<|lp k8<|cm k4<|an<|tn<|dQ k h (λ_ h=>?_) λ_ h=>bE<|aC<|aC<|sp h ⟨_,k,k,(bW (bK k2) (bT k<|eB k<|bN k<|bN k<|aO) k4)⟩;refine aP<|tn<|sQ<|aI<|aW iR<|fp k8<|lp k8<|am k k<|fp k8<|lp k8<|ae (gN k k) k<|am k k<|ae (bL k k) k<|am k k<|am k k<|fp k8<|lp k8<|am k k<|fp k8<|lp k8<|ae (gN k k) k<|am k k<|ae (bL k k) k<|oB h λv18 hv18 h=>ae (xo hv18 k) k<|ae (wp hv18 k) k<|ae (gN k k) k<|oB h λv19 hv19 h=>ae (aS (pD a0 (wr (v16*v18)) v19 hv19) k (cD k (cD k aL))) k<|oB h λv20 hv20 h=>ae (xo hv20 k) k<|ae (iU aH jF (u:=v19) (gW hv20) k k k k k k) k ?_;exact an<|sO (by kernel_rfl)<|aZ<|tn<|aM (t:=mN [(0,.int a0),(4,.ptr 0 0 0),(6,.ptr 1 0 0),(7,.own 3 0 x1.2.2.1.length),(8,.int x1.2.2.2),(9,.int x1.1),(14,.int v16),(15,.int x4.2)] [(0,⟨3,[mD]⟩),(1,⟨3,[[.int v1.rows,.int v1.cols,.own 2 0 ((x4.1.set ((wr ((wr (x1.2.2.2*v1.cols))+x4.2)).toNat) v19).length)]]⟩),(2,⟨1,List.map (ow eI) (x4.1.set ((wr ((wr (x1.2.2.2*v1.cols))+x4.2)).toNat) v19)⟩),(3,⟨1,x1.2.2.1.map (ow eI)⟩)] 4) (bW (bK k2) (bT k<|hX ⟨_,k,k,.inr ⟨_,_,k,⟨_,_,k,k,⟨_,_,k,k,⟨_,_,k,⟨k,k,(by simp only [aN,lA,lT,lR,lC,lN]),k⟩,k⟩⟩⟩,k⟩⟩ k<|bN k<|bN k<|aO) k4)<|rg<|am k k<|ae (bL k k) k<|aT k2<|sp h ⟨_,k,(bW (bK k2) (bT k<|eB k<|bN k<|bN k<|aO) k4)⟩
    ·rintro e t ⟨rfl,hent⟩;refine aU<|tn<|aM hent<|sQ<|sR<|aT k2<|aI<|oB h λy31 hy31 h=>cU (body:=(mV a0 v1 x1)) hy31 (λ(x5:((List Int)×Int))=>mN [(0,.int a0),(4,.ptr 0 0 0),(6,.ptr 1 0 0),(7,.own 3 0 x1.2.2.1.length),(8,.int x1.2.2.2),(9,.int x1.1),(16,.int x5.2)] [(0,⟨3,[mD]⟩),(1,⟨3,[[.int v1.rows,.int v1.cols,.own 2 0 x5.1.length]]⟩),(2,⟨1,x5.1.map (ow eI)⟩),(3,⟨1,x1.2.2.1.map (ow eI)⟩)] 4) (λr e t=>e= .exit 8∧Ent t (mN [(0,.int a0),(4,.ptr 0 0 0),(6,.ptr 1 0 0),(7,.own 3 0 x1.2.2.1.length),(8,.int x1.2.2.2),(9,.int x1.1)] [(0,⟨3,[mD]⟩),(1,⟨3,[[.int v1.rows,.int v1.cols,.own 2 0 r.length]]⟩),(2,⟨1,r.map (ow eI)⟩),(3,⟨1,x1.2.2.1.map (ow eI)⟩)] 4)) (bW (bK k2) (bT k<|eB k<|bN k<|bN k<|aO) k4) ?_ ?_
     ·intro x5 o h;refine sQ<|sR<|am k k<|fp k8<|lp k8<|cm k4<|an<|tn<|dQ k h (λ_ h=>?_) λ_ h=>bE<|aC<|aC<|sp h ⟨_,k,k,(bW (bK k2) (bT k<|eB k<|bN k<|bN k<|aO) k4)⟩;refine aP<|tn<|sQ<|aI<|sR<|fp k8<|lp k8<|am k k<|fp k8<|lp k8<|ae (gN k k) k<|am k k<|ae (bL k k) k<|oB h λv23 hv23 h=>ae (xo hv23 k) k<|ae (wp hv23 k) k<|aT k2<|sR<|aT k2<|aI<|oB h λy30 hy30 h=>cU (body:=(kA a0 v1 v23 x1 x5)) hy30 (λ(x6:((List Int)×Int))=>mN [(0,.int a0),(4,.ptr 0 0 0),(6,.ptr 1 0 0),(7,.own 3 0 x1.2.2.1.length),(8,.int x1.2.2.2),(9,.int x1.1),(16,.int x5.2),(17,.int v23),(18,.int x6.2)] [(0,⟨3,[mD]⟩),(1,⟨3,[[.int v1.rows,.int v1.cols,.own 2 0 x6.1.length]]⟩),(2,⟨1,x6.1.map (ow eI)⟩),(3,⟨1,x1.2.2.1.map (ow eI)⟩)] 4) (λr e t=>e= .exit 10∧Ent t (mN [(0,.int a0),(4,.ptr 0 0 0),(6,.ptr 1 0 0),(7,.own 3 0 x1.2.2.1.length),(8,.int x1.2.2.2),(9,.int x1.1),(16,.int x5.2)] [(0,⟨3,[mD]⟩),(1,⟨3,[[.int v1.rows,.int v1.cols,.own 2 0 r.length]]⟩),(2,⟨1,r.map (ow eI)⟩),(3,⟨1,x1.2.2.1.map (ow eI)⟩)] 4)) (bW (bK k2) (bT k<|eB k<|bN k<|bN k<|aO) k4) ?_ ?_
      ·intro x6 o h;refine sQ<|sR<|am k k<|fp k8<|lp k8<|cm k4<|am k k<|iS h (λq24 h=>?_) λq24 h=>aD 162 k q24<|aK k4<|ak k k<|pk k3<|an<|tn<|oL k k<|bE<|aC<|aC<|sp h ⟨_,k,k,(bW (bK k2) (bT k<|eB k<|bN k<|bN k<|aO) k4)⟩;refine aD 162 k q24<|am k k<|am k k<|cm k4<|pk k3<|an<|tn<|dQ k h (λ_ h=>?_) λ_ h=>bE<|aC<|aC<|sp h ⟨_,k,k,(bW (bK k2) (bT k<|eB k<|bN k<|bN k<|aO) k4)⟩;refine aP<|tn<|sQ<|aI<|aW iR<|fp k8<|lp k8<|am k k<|fp k8<|lp k8<|ae (gN k k) k<|am k k<|ae (bL k k) k<|am k k<|fp k8<|lp k8<|am k k<|fp k8<|lp k8<|ae (gN k k) k<|am k k<|ae (bL k k) k<|oB h λv26 hv26 h=>ae (xo hv26 k) k<|ae (wp hv26 k) k<|am k k<|fp k8<|lp k8<|am k k<|fp k8 ?_;exact lp k8<|ae (gN k k) k<|am k k<|ae (bL k k) k<|oB h λv27 hv27 h=>ae (xo hv27 k) k<|ae (wp hv27 k) k<|ae (gN k k) k<|ae (lK k k) k<|oB h λv28 hv28 h=>ae (aS (pD a0 (wr (v26 - (wr (v23*v27)))) v28 hv28) k (cD k (cD k aL))) k<|oB h λv29 hv29 h=>ae (xo hv29 k) k<|ae (iU aH jF (u:=v28) (gW hv29) k k k k k k) k<|an<|sO (by kernel_rfl)<|aZ<|tn<|aM (t:=mN [(0,.int a0),(4,.ptr 0 0 0),(6,.ptr 1 0 0),(7,.own 3 0 x1.2.2.1.length),(8,.int x1.2.2.2),(9,.int x1.1),(16,.int x5.2),(17,.int v23),(18,.int x6.2)] [(0,⟨3,[mD]⟩),(1,⟨3,[[.int v1.rows,.int v1.cols,.own 2 0 ((x6.1.set ((wr ((wr (x5.2*v1.cols))+x6.2)).toNat) v28).length)]]⟩),(2,⟨1,List.map (ow eI) (x6.1.set ((wr ((wr (x5.2*v1.cols))+x6.2)).toNat) v28)⟩),(3,⟨1,x1.2.2.1.map (ow eI)⟩)] 4) (bW (bK k2) (bT k<|hX ⟨_,k,k,.inr ⟨_,_,k,⟨_,_,k,k,⟨_,_,k,k,⟨_,_,k,⟨k,k,(by simp only [aN,lA,lT,lR,lC,lN]),k⟩,k⟩⟩⟩,k⟩⟩ k<|bN k<|bN k<|aO) k4)<|rg<|am k k<|ae (bL k k) k<|aT k2<|sp h ⟨_,k,(bW (bK k2) (bT k<|eB k<|bN k<|bN k<|aO) k4)⟩
      ·rintro e t ⟨rfl,hent⟩;exact aU<|aZ<|tn<|aM hent<|rg<|am k k<|ae (bL k k) k<|aT k2<|sp h ⟨_,k,(bW (bK k2) (bT k<|eB k<|bN k<|bN k<|aO) k4)⟩
     ·rintro e t ⟨rfl,hent⟩;exact aU<|tn<|aM hent<|sR<|am k k<|am k k<|ae (wl k) k<|cG h λq32 h=>ae (iJ aH (l:=x1.2.2.1) (m:=[x1.1]) jF q32 k k k k k k k k k k k k) k<|aT k2<|rg<|am k k<|ae (bL k k) k<|aa k k<|an<|aZ<|tn<|rg<|am k k<|ae (bL k k) k<|aT k2<|sp h ⟨_,k,(mP [0,1,2,5] (bK k2) (bT k<|eB k<|bN k<|bN k<|aO) k4)⟩
 ·rintro e t ⟨rfl,hent⟩;exact aU<|tn<|aM hent<|sR<|lp k8<|am k k<|ae (ws k) k<|aT k2<|aB<|sp h (bB k k k (bV k (aX (dO (aG (k) (aG (k) (aG (dY cJ k k) cO)))) (aX (oQ (dY cJ k k)) cP))))
def pE (a0:Int) (a1:Int):Option Int:=
 (gO a0).bind λv1=>
 bif !v1 then
 (some (0))
 else
 (bif !decide (a0=0) then
 (bif !decide (a0=0) then
 (some ((wr ((a1.tmod a0)+a0)).tmod a0))
 else none)
 else none)
theorem aCJ (a0:Int) (a1:Int) (r:Int) (h:pE a0 a1=some r):HasC Tryz.prog 278 [.int a0,.int a1] (.int r):=by
 exact hM [.tmp 4] Tryz.func278 Tryz.ntmps278 k<|sR<|aT k2<|sQ<|sR<|am k k<|oB h λv1 hv1 h=>ae (aS (jW a0 v1 hv1) k (cD k aL)) k<|ae (dD k) k<|an<|tn<|dQ k h (λ_ h=>sR<|aT k2<|aB<|aF<|rtI h k2) λ_ h=>aP<|tn<|sR<|am k k<|am k k<|cG h λq4 h=>ae (zG k k q4) k<|am k k<|ae (bL k k) k<|am k k<|cG h λq3 h=>ae (zG k k q3) k<|aT k2<|aB<|rtI h k2
def mW (a0:Int) (a1:Int) (a2:Int) (x1:(Int×Int)):Option ((Int×Int) ⊕ Int):=
 bif decide (x1.2<a2) then
 ((pE a0 a1).bind λv6=>
 bif !decide (a0=0) then
 (some (.inl ((wr (x1.1*v6)).tmod a0,wr (x1.2+1))))
 else none)
 else
 (some (.inr x1.1))
def qO (a0:Int) (a1:Int) (a2:Int):Option Int:=
 (gO a0).bind λv1=>
 bif !v1 then
 (some (0))
 else
 ((gK a2 0 1000).bind λv3=>
 bif !v3 then
 (some (0))
 else
 ((Lp (mW a0 a1 a2) (1,0)).bind λy8=>
 some (y8)))
theorem aCo (a0:Int) (a1:Int) (a2:Int) (r:Int) (h:qO a0 a1 a2=some r):HasC Tryz.prog 268 [.int a0,.int a1,.int a2] (.int r):=by
 refine hM [.tmp 6] Tryz.func268 Tryz.ntmps268 k<|sR<|aT k2<|sQ<|sR<|am k k<|oB h λv1 hv1 h=>ae (aS (jW a0 v1 hv1) k (cD k aL)) k<|ae (dD k) k<|am k k<|iS h (λq2 h=>aD 11 k q2<|aK k4<|ak k k<|pk k3<|an<|tn<|cB k k<|sR<|aT k2<|aB<|aF<|rtI h k2) λq2 h=>?_;refine aD 11 k q2<|am k k<|oB h λv3 hv3 h=>ae (aS (jL a2 0 1000 v3 hv3) k (cD k (cD k (cD k aL)))) k<|ae (dD k) k<|pk k3<|an<|tn<|dQ k h (λ_ h=>sR<|aT k2<|aB<|aF<|rtI h k2) λ_ h=>?_;refine aP<|tn<|sR<|aT k2<|sQ<|sR<|am k k<|am k k<|an<|tn<|aI<|oB h λy8 hy8 h=>cU (body:=(mW a0 a1 a2)) hy8 (λ(x1:(Int×Int))=>mN [(0,.int a0),(1,.int a1),(7,.int x1.1),(16,.int a2),(17,.int x1.2)] [] 0) (λr e t=>e= .exit 0∧Ent t (mN [(7,.int r)] [] 0)) (bW (bK k2) aO k4) ?_ ?_
 ·intro x1 o h;exact sR<|cm k4<|an<|tn<|sQ<|dQ k h (λ_ h=>aP<|tn<|sQ<|aI<|rg<|am k k<|am k k<|am k k<|oB h λv6 hv6 h=>ae (aS (aCJ a0 a1 v6 hv6) k (cD k (cD k aL))) k<|ae (gN k k) k<|am k k<|cG h λq7 h=>ae (zG k k q7) k<|aa k k<|an<|aZ<|tn<|rg<|ae (bL k k) k<|am k k<|an<|tn<|sp h ⟨_,k,(bW (bK k2) aO k4)⟩) λ_ h=>bE<|aC<|aC<|sp h ⟨_,k,k,(bW (bK k2) aO k4)⟩
 ·rintro e t ⟨rfl,hent⟩;exact aU<|tn<|aM hent<|sR<|am k k<|aT k2<|aB<|rtI h k2
def oA (a0:Int) (a1:Int):Option Int:=
 (gO a0).bind λv1=>
 bif !v1 then
 (some (0))
 else
 ((qO a0 a1 (max (wr (a0 - 2)) 1)).bind λv3=>
 some (v3))
theorem aBY (a0:Int) (a1:Int) (r:Int) (h:oA a0 a1=some r):HasC Tryz.prog 257 [.int a0,.int a1] (.int r):=by
 exact hM [.tmp 4] Tryz.func257 Tryz.ntmps257 k<|sR<|aT k2<|sQ<|sR<|am k k<|oB h λv1 hv1 h=>ae (aS (jW a0 v1 hv1) k (cD k aL)) k<|ae (dD k) k<|an<|tn<|dQ k h (λ_ h=>sR<|aT k2<|aB<|aF<|rtI h k2) λ_ h=>aP<|tn<|sR<|am k k<|am k k<|am k k<|ae (lK k k) k<|ae (aNM k k) k<|oB h λv3 hv3 h=>ae (aS (aCo a0 a1 (max (wr (a0 - 2)) 1) v3 hv3) k (cD k (cD k (cD k aL)))) k<|aT k2<|aB<|rtI h k2
def gQ (a0:(List Int)) (a1:Int) (x1:Int):Option (Int ⊕ (Unit ⊕ Int)):=
 bif decide (x1<(a0.length:Int)) then
 ((eF a0 x1).bind λv2=>
 bif decide (a1=v2) then
 (some (.inr (.inr (x1))))
 else
 (some (.inl (wr (x1+1)))))
 else
 (some (.inr (.inl ())))
def mF (a0:(List Int)) (a1:Int):Option Int:=
 (Lp (gQ a0 a1) 0).bind λy4=>
 Sum.elim (λy5=>
 some ((-1))
 )
 (λy6=>
 some y6
 )
 y4
theorem xJ (a0:(List Int)) (a1:Int) (r:Int) (h:mF a0 a1=some r):HasC Tryz.prog 267 [.list 1 (a0.map eI),.int a1] (.int r):=by
 refine hM [.tmp 4] Tryz.func267 Tryz.ntmps267 k<|sR<|aT k2<|sQ<|sR<|am k k<|ln k4<|am k k<|an<|tn<|aI<|oB h λy4 hy4 h=>cU (body:=(gQ a0 a1)) hy4 (λ(x1:Int)=>mN [(0,.list 1 (a0.map eI)),(1,.int a1),(7,.int (a0.length:Int)),(8,.int x1)] [] 0) (λr e t=>Sum.elim (λa=>(λr e t=>e= .exit 0∧Ent t (mN [] [] 0)) a e t) (λb=>(λr e t=>e= .ret∧sK TT [.tmp 4] (.int r) .ret t) b e t) r) (bW (bK k2) aO k4) ?_ ?_
 ·intro x1 o h;exact sR<|cm k4<|an<|tn<|sQ<|dQ k h (λ_ h=>aP<|tn<|sQ<|aI<|sR<|am k k<|aT k2<|sR<|am k k<|am k k<|am k k<|oB h λv2 hv2 h=>ae (xl hv2 k) k<|lr k7<|cm k4<|an<|tn<|dQ k h (λ_ h=>sR<|am k k<|aT k2<|aB<|bO<|aF<|aF<|sp h ⟨_,k,k,bB k k k (aDX k)⟩) λ_ h=>aP<|aZ<|tn<|rg<|ae (bL k k) k<|am k k<|an<|tn<|sp h ⟨_,k,(bW (bK k2) aO k4)⟩) λ_ h=>bE<|aC<|aC<|sp h ⟨_,k,k,(bW aO aO k4)⟩
 ·intro e t hX;rcases y4 with y5|y6
  ·obtain ⟨rfl,hent⟩:=hX;exact aU<|tn<|aM hent<|sR<|aT k2<|aB<|rtI h k2
  ·obtain ⟨rfl,hent⟩:=hX;exact bO<|aF<|sp h hent
def gR (a0:(List Int)) (a1:Int):Option Bool:=
 (mF a0 a1).bind λv1=>
 some (decide (0≤v1))
theorem vI (a0:(List Int)) (a1:Int) (r:Bool) (h:gR a0 a1=some r):HasC Tryz.prog 250 [.list 1 (a0.map eI),.int a1] (.bl r):=by
 exact hM [.tmp 4] Tryz.func250 Tryz.ntmps250 k<|sR<|aT k2<|sR<|am k k<|am k k<|oB h λv1 hv1 h=>ae (aS (xJ a0 a1 v1 hv1) k (cD k (cD k aL))) k<|cm k4<|aT k2<|aB<|fS h k2
def kJ (a0:Int) (a1:(List Int)) (x1:((List Int)×Int)):Option (((List Int)×Int) ⊕ (List Int)):=
 bif decide (x1.2<a0) then
 ((gR a1 x1.2).bind λv2=>
 bif !v2 then
 (bif decide (x1.1.length+[x1.2].length ≤4294967296) then
 (some (.inl ((x1.1++[x1.2]),wr (x1.2+1))))
 else none)
 else
 (some (.inl (x1.1,wr (x1.2+1)))))
 else
 (some (.inr x1.1))
def mX (a0:Int) (a1:(List Int)):Option (List Int):=
 (Lp (kJ a0 a1) ([],0)).bind λy5=>
 some (y5)
theorem aAt (a0:Int) (a1:(List Int)) (r:(List Int)) (h:mX a0 a1=some r):HasC Tryz.prog 241 [.int a0,.list 1 (a1.map eI)] (.list 1 (r.map eI)):=by
 refine hM [.tmp 4] Tryz.func241 Tryz.ntmps241 k<|sR<|aT k2<|sR<|aT k2<|sQ<|sR<|am k k<|am k k<|an<|tn<|aI<|oB h λy5 hy5 h=>cU (body:=(kJ a0 a1)) hy5 (λ(x1:((List Int)×Int))=>mN [(1,.list 1 (a1.map eI)),(5,.own 0 0 x1.1.length),(7,.int a0),(8,.int x1.2)] [(0,⟨1,x1.1.map (ow eI)⟩)] 1) (λr e t=>e= .exit 0∧Ent t (mN [(5,.own 0 0 r.length)] [(0,⟨1,r.map (ow eI)⟩)] 1)) (rA (σ:=sg []) (uA 1 k2 (sJ ⟨_,k,⟨k,k,k,k⟩⟩ (bK k2))) (hX k k<|aO) k) ?_ ?_
 ·intro x1 o h;exact sR<|cm k4<|an<|tn<|sQ<|dQ k h (λ_ h=>aP<|tn<|sQ<|aI<|sR<|am k k<|aT k2<|sR<|am k k<|am k k<|oB h λv2 hv2 h=>ae (aS (vI a1 x1.2 v2 hv2) k (cD k (cD k aL))) k<|ae (dD k) k<|an<|tn<|dQ k h (λ_ h=>rg<|am k k<|am k k<|ae (wl k) k<|cG h λq4 h=>ae (iJ aH (l:=x1.1) (m:=[x1.2]) jF q4 k k k k k k k k k k k k) k<|aa k k<|an<|aZ<|tn<|rg<|ae (bL k k) k<|am k k<|an<|tn<|sp h ⟨_,k,(mP [2] (bK k2) (bN k<|aO) k4)⟩) λ_ h=>aP<|aZ<|tn<|rg<|ae (bL k k) k<|am k k<|an<|tn<|sp h ⟨_,k,(bW (bK k2) (bN k<|aO) k4)⟩) λ_ h=>bE<|aC<|aC<|sp h ⟨_,k,k,(bW (bK k2) (bN k<|aO) k4)⟩
 ·rintro e t ⟨rfl,hent⟩;exact aU<|tn<|aM hent<|sR<|am k k<|aT k2<|aB<|sp h (bB k k k (qK (dY cJ k k)))
def iW (a1:(List Int)) (x1:(Int×Int)):Option ((Int×Int) ⊕ (Int ⊕ Bool)):=
 bif decide (x1.2<(a1.length:Int)) then
 ((eF a1 x1.2).bind λv5=>
 (gA v5 0 4).bind λv6=>
 bif !v6 then
 (some (.inr (.inr (false))))
 else
 ((eF a1 x1.2).bind λv8=>
 some (.inl (wr (x1.1+v8),wr (x1.2+1)))))
 else
 (some (.inr (.inl x1.1)))
def oS (a0:Qv) (a1:(List Int)):Option Bool:=
 (gV a0).bind λv1=>
 bif !v1 then
 (some (false))
 else
 (bif !decide ((a1.length:Int)=a0.n) then
 (some (false))
 else
 ((Lp (iW a1) (0,0)).bind λy9=>
 Sum.elim (λy10=>
 some (decide (y10≤8))
 )
 (λy11=>
 some y11
 )
 y9))
theorem zH (a0:Qv) (a1:(List Int)) (r:Bool) (h:oS a0 a1=some r):HasC Tryz.prog 31 [.agg (eQ a0),.list 1 (a1.map eI)] (.bl r):=by
 refine hM [.tmp 4] Tryz.func31 Tryz.ntmps31 k<|sR<|ae (wb k) k<|aT k2<|sQ<|sR<|lp k8<|oB h λv1 hv1 h=>ae (aS (uB a0 v1 hv1) k (aJ (fK k) aL)) k<|ae (dD k) k<|am k k<|iS h (λq2 h=>aD 10 k q2<|aK k4<|aK k4<|ak k k<|pk k3<|an<|tn<|cB k k<|sR<|aT k2<|aB<|aF<|fS h k2) λq2 h=>?_;refine aD 10 k q2<|am k k<|ln k4<|fp k8<|lp k8<|cm k4<|pk k3<|an<|tn<|dQ k h (λ_ h=>sR<|aT k2<|aB<|aF<|fS h k2) λ_ h=>?_;refine aP<|tn<|sR<|aT k2<|sQ<|sR<|aT k2<|aI<|oB h λy9 hy9 h=>cU (body:=(iW a1)) hy9 (λ(x1:(Int×Int))=>mN [(1,.list 1 (a1.map eI)),(5,.int x1.1),(6,.int x1.2)] [] 0) (λr e t=>Sum.elim (λa=>(λr e t=>e= .exit 0∧Ent t (mN [(5,.int r)] [] 0)) a e t) (λb=>(λr e t=>e= .ret∧sK TT [.tmp 4] (.bl r) .ret t) b e t) r) (bW (bK k2) aO k4) ?_ ?_
 ·intro x1 o h;exact sQ<|sR<|am k k<|am k k<|ln k4<|cm k4<|an<|tn<|dQ k h (λ_ h=>aP<|tn<|sQ<|aI<|sQ<|sR<|am k k<|am k k<|oB h λv5 hv5 h=>ae (xl hv5 k) k<|lr k7<|oB h λv6 hv6 h=>ae (aS (jM v5 0 4 v6 hv6) k (cD k (cD k (cD k aL)))) k<|ae (dD k) k<|an<|tn<|dQ k h (λ_ h=>sR<|aT k2<|aB<|aF<|bO<|aF<|aF<|sp h ⟨_,k,k,bB k k k (oK k)⟩) λ_ h=>aP<|tn<|rg<|am k k<|am k k<|am k k<|oB h λv8 hv8 h=>ae (xl hv8 k) k<|lr k7<|ae (bL k k) k<|aa k k<|an<|aZ<|tn<|rg<|am k k<|ae (bL k k) k<|aT k2<|sp h ⟨_,k,(bW (bK k2) aO k4)⟩) λ_ h=>bE<|aC<|aC<|sp h ⟨_,k,k,(bW (bK k2) aO k4)⟩
 ·intro e t hX;rcases y9 with y10|y11
  ·obtain ⟨rfl,hent⟩:=hX;exact aU<|tn<|aM hent<|sR<|am k k<|cm k4<|aT k2<|aB<|fS h k2
  ·obtain ⟨rfl,hent⟩:=hX;exact bO<|aF<|sp h hent
def qP (a0:Rp) (x1:Int):Option (Int ⊕ (Unit ⊕ Bool)):=
 bif decide (x1<(a0.maps.length:Int)) then
 ((eF a0.maps x1).bind λv7=>
 (qN a0.p v7).bind λv8=>
 bif !v8 then
 (some (.inr (.inr (false))))
 else
 ((eF a0.maps x1).bind λv10=>
 (eF a0.q.src x1).bind λv11=>
 (eF a0.dims v11).bind λv12=>
 bif !decide (v10.cols=v12) then
 (some (.inr (.inr (false))))
 else
 ((eF a0.maps x1).bind λv14=>
 (eF a0.q.tgt x1).bind λv15=>
 (eF a0.dims v15).bind λv16=>
 bif !decide (v14.rows=v16) then
 (some (.inr (.inr (false))))
 else
 (some (.inl (wr (x1+1)))))))
 else
 (some (.inr (.inl ())))
def uO (a0:Rp):Option Bool:=
 (jV a0.p).bind λv1=>
 bif !v1 then
 (some (false))
 else
 ((oS a0.q a0.dims).bind λv3=>
 bif !v3 then
 (some (false))
 else
 (bif !decide ((a0.maps.length:Int)=(a0.q.src.length:Int)) then
 (some (false))
 else
 ((Lp (qP a0) 0).bind λy18=>
 Sum.elim (λy19=>
 some (true)
 )
 (λy20=>
 some y20
 )
 y18)))
theorem aGM (a0:Rp) (r:Bool) (h:uO a0=some r):HasC Tryz.prog 139 [.agg (eR a0)] (.bl r):=by
 refine hM [.tmp 2] Tryz.func139 Tryz.ntmps139 k<|sR<|ae (wb k) k<|aT k2<|sQ<|sR<|fp k8<|lp k8<|oB h λv1 hv1 h=>ae (aS (oR a0.p v1 hv1) k (cD k aL)) k<|ae (dD k) k<|am k k<|iS h (λq2 h=>aD 8 k q2<|aK k4<|aK k4<|aK k4<|pk k3<|am k k<|aK k4<|aK k4<|aK k4<|aK k4<|pk k3<|an<|tn<|aM (t:=mN [(1,.ptr 0 0 0),(25,.bl true)] [(0,⟨6,[eR a0]⟩)] 1) (bW (bK k2) (bT k<|aO) k4)<|cB k k<|sR<|aT k2<|aB<|aF<|fS h k2) λq2 h=>?_;refine aD 8 k q2<|fp k8<|lp k8<|fp k8<|lp k8<|oB h λv3 hv3 h=>ae (aS (zH a0.q a0.dims v3 hv3) k (aJ (fK k) (cD k aL))) k<|ae (dD k) k<|pk k3<|am k k<|iS h (λq4 h=>aD 16 k q4<|aK k4<|aK k4<|aK k4<|aK k4<|pk k3<|an<|tn<|aM (t:=mN [(1,.ptr 0 0 0),(25,.bl true)] [(0,⟨6,[eR a0]⟩)] 1) (bW (bK k2) (bT k<|aO) k4)<|cB k k<|sR<|aT k2<|aB<|aF<|fS h k2) λq4 h=>?_;refine aD 16 k q4<|fp k8<|lp k8<|ln k4<|fp k8<|fp k8<|lp k8<|ln k4<|cm k4<|pk k3<|an<|tn<|aM (t:=mN [(1,.ptr 0 0 0),(25,.bl (!decide ((a0.maps.length:Int)=(a0.q.src.length:Int))))] [(0,⟨6,[eR a0]⟩)] 1) (bW (bK k2) (bT k<|aO) k4)<|dQ k h (λ_ h=>sR<|aT k2<|aB<|aF<|fS h k2) λ_ h=>?_;refine aP<|tn<|sQ<|sR<|aT k2<|aI<|oB h λy18 hy18 h=>cU (body:=(qP a0)) hy18 (λ(x1:Int)=>mN [(1,.ptr 0 0 0),(3,.int x1)] [(0,⟨6,[eR a0]⟩)] 1) (λr e t=>Sum.elim (λa=>(λr e t=>e= .exit 0∧Ent t (mN [] [] 0)) a e t) (λb=>(λr e t=>e= .ret∧sK TT [.tmp 2] (.bl r) .ret t) b e t) r) (bW (bK k2) (bT k<|aO) k4) ?_ ?_
 ·intro x1 o h;refine sQ<|sR<|am k k<|fp k8<|lp k8<|ln k4<|cm k4<|an<|tn<|dQ k h (λ_ h=>?_) λ_ h=>bE<|aC<|aC<|sp h ⟨_,k,k,(bW aO aO k4)⟩;refine aP<|tn<|sQ<|aI<|sQ<|aW iR<|fp k8<|lp k8<|fp k8<|lp k8<|am k k<|oB h λv7 hv7 h=>ae (xl hv7 k) k<|lr k7<|oB h λv8 hv8 h=>ae (aS (aCn a0.p v7 v8 hv8) k (cD k (aJ (fK k) aL))) k<|ae (dD k) k<|am k k<|iS h (λq9 h=>?_) λq9 h=>?_
  ·refine aD 42 k q9<|aK k4<|aK k4<|aK k4<|aK k4<|aK k4<|aK k4<|aK k4<|aK k4<|ak k k<|pk k3<|am k k<|aK k4<|aK k4<|aK k4<|aK k4<|aK k4 ?_;exact aK k4<|aK k4<|aK k4<|ak k k<|pk k3<|an<|sO (by kernel_rfl)<|tn<|aM (t:=mN [(1,.ptr 0 0 0),(3,.int x1),(79,.bl true)] [(0,⟨6,[eR a0]⟩)] 1) (bW (bK k2) (bT k<|aO) k4)<|cB k k<|sR<|aT k2<|aB<|bO<|aF<|aF<|sp h ⟨_,k,k,bB k k k (oK k)⟩
  ·refine aD 42 k q9<|fp k8<|lp k8<|am k k<|oB h λv10 hv10 h=>ae (xl hv10 k) k<|ae (rI aH k k k k k k) k<|lr k7<|fp k8<|lp k8<|fp k8<|fp k8<|lp k8<|am k k<|oB h λv11 hv11 h=>ae (xl hv11 k) k<|lr k7<|oB h λv12 hv12 h=>ae (xl hv12 k) k<|lr k7<|cm k4<|pk k3<|am k k<|iS h (λq13 h=>?_) λq13 h=>aD 61 k q13<|fp k8<|lp k8<|am k k<|oB h λv14 hv14 h=>ae (xl hv14 k) k<|ae (rI aH k k k k k k) k<|lr k7<|fp k8<|lp k8<|fp k8<|fp k8<|lp k8<|am k k<|oB h λv15 hv15 h=>ae (xl hv15 k) k<|lr k7<|oB h λv16 hv16 h=>ae (xl hv16 k) k<|lr k7<|cm k4<|pk k3<|an<|sO (by kernel_rfl)<|tn<|aM (t:=mN [(1,.ptr 0 0 0),(3,.int x1),(79,.bl (!decide (v14.rows=v16)))] [(0,⟨6,[eR a0]⟩)] 1) (bW (bK k2) (bT k<|aO) k4)<|dQ k h (λ_ h=>sR<|aT k2<|aB<|bO<|aF<|aF<|sp h ⟨_,k,k,bB k k k (oK k)⟩) λ_ h=>aP<|aZ<|tn<|rg<|am k k<|ae (bL k k) k<|aT k2<|sp h ⟨_,k,(bW (bK k2) (bT k<|aO) k4)⟩;refine aD 61 k q13<|aK k4<|aK k4<|aK k4<|aK k4<|aK k4<|aK k4<|aK k4<|aK k4<|ak k k<|pk k3<|an<|sO (by kernel_rfl)<|tn<|aM (t:=mN [(1,.ptr 0 0 0),(3,.int x1),(79,.bl true)] [(0,⟨6,[eR a0]⟩)] 1) (bW (bK k2) (bT k<|aO) k4)<|cB k k<|sR<|aT k2<|aB ?_;exact bO<|aF<|aF<|sp h ⟨_,k,k,bB k k k (oK k)⟩
 ·intro e t hX;rcases y18 with y19|y20
  ·obtain ⟨rfl,hent⟩:=hX;exact aU<|tn<|aM hent<|sR<|aT k2<|aB<|fS h k2
  ·obtain ⟨rfl,hent⟩:=hX;exact bO<|aF<|sp h hent
def fI (a0:Qv) (a1:Qv):Option Bool:=
 bif decide (a0.n=a1.n) then
 ((qE a0.src a1.src).bind λv2=>
 bif v2 then
 ((qE a0.tgt a1.tgt).bind λv4=>
 some (v4))
 else
 (some (false)))
 else
 (some (false))
theorem lM (a0:Qv) (a1:Qv) (r:Bool) (h:fI a0 a1=some r):HasC Tryz.prog 51 [.agg (eQ a0),.agg (eQ a1)] (.bl r):=by
 exact hM [.tmp 4] Tryz.func51 Tryz.ntmps51 k<|sR<|ae (wb k) k<|ae (wb k) k<|aT k2<|sR<|fp k8<|lp k8<|fp k8<|lp k8<|cm k4<|am k k<|iS h (λq1 h=>aD 10 k q1<|fp k8<|lp k8<|fp k8<|lp k8<|oB h λv2 hv2 h=>ae (aS (wQ a0.src a1.src v2 hv2) k (cD k (cD k aL))) k<|pk k3<|am k k<|iS h (λq3 h=>aD 17 k q3<|fp k8<|lp k8<|fp k8<|lp k8<|oB h λv4 hv4 h=>ae (aS (wQ a0.tgt a1.tgt v4 hv4) k (cD k (cD k aL))) k<|pk k3<|aT k2<|aB<|fS h k2) λq3 h=>aD 17 k q3<|aK k4<|aK k4<|ak k k<|pk k3<|aT k2<|aB<|fS h k2) λq1 h=>aD 10 k q1<|aK k4<|aK k4<|ak k k<|pk k3<|am k k<|aK k4<|aK k4<|ak k k<|pk k3<|aT k2<|aB<|fS h k2
def lO (a0:Qv) (a1:Qv):Option Bool:=
 bif decide (a0.n=a1.n) then
 ((gB a0.src a1.src).bind λv2=>
 bif v2 then
 ((gB a0.tgt a1.tgt).bind λv4=>
 some (v4))
 else
 (some (false)))
 else
 (some (false))
theorem aAG (a0:Qv) (a1:Qv) (r:Bool) (h:lO a0 a1=some r):HasC Tryz.prog 125 [.agg (eQ a0),.agg (eQ a1)] (.bl r):=by
 exact hM [.tmp 4] Tryz.func125 Tryz.ntmps125 k<|sR<|ae (wb k) k<|ae (wb k) k<|aT k2<|sR<|fp k8<|lp k8<|fp k8<|lp k8<|cm k4<|am k k<|iS h (λq1 h=>aD 10 k q1<|fp k8<|lp k8<|fp k8<|lp k8<|oB h λv2 hv2 h=>ae (aS (mE a0.src a1.src v2 hv2) k (cD k (cD k aL))) k<|pk k3<|am k k<|iS h (λq3 h=>aD 17 k q3<|fp k8<|lp k8<|fp k8<|lp k8<|oB h λv4 hv4 h=>ae (aS (mE a0.tgt a1.tgt v4 hv4) k (cD k (cD k aL))) k<|pk k3<|aT k2<|aB<|fS h k2) λq3 h=>aD 17 k q3<|aK k4<|aK k4<|ak k k<|pk k3<|aT k2<|aB<|fS h k2) λq1 h=>aD 10 k q1<|aK k4<|aK k4<|ak k k<|pk k3<|am k k<|aK k4<|aK k4<|ak k k<|pk k3<|aT k2<|aB<|fS h k2
def iX (a0:Mt) (a1:Mt) (x1:Int):Option (Int ⊕ (Unit ⊕ Bool)):=
 bif decide (x1<(a0.cells.length:Int)) then
 ((eF a0.cells x1).bind λv5=>
 (eF a1.cells x1).bind λv6=>
 bif !decide (v5=v6) then
 (some (.inr (.inr (false))))
 else
 (some (.inl (wr (x1+1)))))
 else
 (some (.inr (.inl ())))
def kY (a0:Mt) (a1:Mt):Option Bool:=
 bif !decide (a0.rows=a1.rows) then
 (some (false))
 else
 (bif !decide (a0.cols=a1.cols) then
 (some (false))
 else
 (bif !decide ((a0.cells.length:Int)=(a1.cells.length:Int)) then
 (some (false))
 else
 ((Lp (iX a0 a1) 0).bind λy8=>
 Sum.elim (λy9=>
 some (true)
 )
 (λy10=>
 some y10
 )
 y8)))
theorem zI (a0:Mt) (a1:Mt) (r:Bool) (h:kY a0 a1=some r):HasC Tryz.prog 124 [.agg (eM a0),.agg (eM a1)] (.bl r):=by
 refine hM [.tmp 4] Tryz.func124 Tryz.ntmps124 k<|sR<|ae (wb k) k<|ae (wb k) k<|aT k2<|sQ<|sR<|fp k8<|lp k8<|fp k8<|lp k8<|cm k4<|am k k<|iS h (λq1 h=>aD 11 k q1<|aK k4<|aK k4<|ak k k<|pk k3<|am k k<|aK k4<|aK k4<|aK k4<|ak k k<|pk k3<|an<|tn<|aM (t:=mN [(2,.ptr 0 0 0),(3,.ptr 1 0 0),(26,.bl true)] [(0,⟨3,[eM a0]⟩),(1,⟨3,[eM a1]⟩)] 2) (bW (bK k2) (bT k<|bT k<|aO) k4)<|cB k k<|sR<|aT k2<|aB<|aF<|fS h k2) λq1 h=>?_;refine aD 11 k q1<|fp k8<|lp k8<|fp k8<|lp k8<|cm k4<|pk k3<|am k k<|iS h (λq2 h=>aD 18 k q2<|aK k4<|aK k4<|aK k4<|ak k k<|pk k3<|an<|tn<|aM (t:=mN [(2,.ptr 0 0 0),(3,.ptr 1 0 0),(26,.bl true)] [(0,⟨3,[eM a0]⟩),(1,⟨3,[eM a1]⟩)] 2) (bW (bK k2) (bT k<|bT k<|aO) k4)<|cB k k<|sR<|aT k2<|aB<|aF<|fS h k2) λq2 h=>?_;refine aD 18 k q2<|fp k8<|lp k8<|ln k4<|fp k8<|lp k8<|ln k4<|cm k4<|pk k3<|an<|tn<|aM (t:=mN [(2,.ptr 0 0 0),(3,.ptr 1 0 0),(26,.bl (!decide ((a0.cells.length:Int)=(a1.cells.length:Int))))] [(0,⟨3,[eM a0]⟩),(1,⟨3,[eM a1]⟩)] 2) (bW (bK k2) (bT k<|bT k<|aO) k4)<|dQ k h (λ_ h=>sR<|aT k2<|aB<|aF<|fS h k2) λ_ h=>?_;refine aP<|tn<|sQ<|sR<|aT k2<|aI<|oB h λy8 hy8 h=>cU (body:=(iX a0 a1)) hy8 (λ(x1:Int)=>mN [(2,.ptr 0 0 0),(3,.ptr 1 0 0),(5,.int x1)] [(0,⟨3,[eM a0]⟩),(1,⟨3,[eM a1]⟩)] 2) (λr e t=>Sum.elim (λa=>(λr e t=>e= .exit 0∧Ent t (mN [] [] 0)) a e t) (λb=>(λr e t=>e= .ret∧sK TT [.tmp 4] (.bl r) .ret t) b e t) r) (bW (bK k2) (bT k<|bT k<|aO) k4) ?_ ?_
 ·intro x1 o h;exact sQ<|sR<|am k k<|fp k8<|lp k8<|ln k4<|cm k4<|an<|tn<|dQ k h (λ_ h=>aP<|tn<|sQ<|aI<|sQ<|aW iR<|fp k8<|lp k8<|am k k<|oB h λv5 hv5 h=>ae (xl hv5 k) k<|lr k7<|fp k8<|lp k8<|am k k<|oB h λv6 hv6 h=>ae (xl hv6 k) k<|lr k7<|cm k4<|an<|sO (by kernel_rfl)<|tn<|dQ k h (λ_ h=>sR<|aT k2<|aB<|bO<|aF<|aF<|sp h ⟨_,k,k,bB k k k (oK k)⟩) λ_ h=>aP<|aZ<|tn<|rg<|am k k<|ae (bL k k) k<|aT k2<|sp h ⟨_,k,(bW (bK k2) (bT k<|bT k<|aO) k4)⟩) λ_ h=>bE<|aC<|aC<|sp h ⟨_,k,k,(bW aO aO k4)⟩
 ·intro e t hX;rcases y8 with y9|y10
  ·obtain ⟨rfl,hent⟩:=hX;exact aU<|tn<|aM hent<|sR<|aT k2<|aB<|fS h k2
  ·obtain ⟨rfl,hent⟩:=hX;exact bO<|aF<|sp h hent
end
noncomputable section
set_option maxRecDepth 10000
set_option maxHeartbeats 4000000
def fE (a0:(List Int)) (a1:(Int→Option Bool)) (x1:Int):Option (Int ⊕ (Unit ⊕ Int)):=
 bif decide (x1<(a0.length:Int)) then
 ((eF a0 x1).bind λv2=>
 (a1 v2).bind λv3=>
 bif v3 then
 (some (.inr (.inr (x1))))
 else
 (some (.inl (wr (x1+1)))))
 else
 (some (.inr (.inl ())))
def gG (a0:(List Int)) (a1:(Int→Option Bool)):Option Int:=
 (Lp (fE a0 a1) 0).bind λy5=>
 Sum.elim (λy6=>
 some ((-1))
 )
 (λy7=>
 some y7
 )
 y5
theorem uP (a0:(List Int)) (a1:(Int→Option Bool)) {f1:FuncId} {c1:List AV} (hc1:c1.all fD=true) (hf1: ∀ b0 r,a1 b0=some r→HasC Tryz.prog f1 ([.int b0]++c1) (.bl r)) (r:Int) (h:gG a0 a1=some r):HasC Tryz.prog 170 [.list 1 (a0.map eI),.fn f1 c1] (.int r):=by
 refine zV aH (rvs:=[.tmp 4]) (ns:=nmA) Tryz.func170 k k Tryz.ntmps170 k k (rW k (rW hc1 aDk))<|sR<|aT k2<|sQ<|sR<|am k k<|ln k4<|am k k<|an<|tn<|aI<|oB h λy5 hy5 h=>cU (body:=(fE a0 a1)) hy5 (λ(x1:Int)=>mN [(0,.list 1 (a0.map eI)),(1,.fn f1 c1),(7,.int (a0.length:Int)),(8,.int x1)] [] 0) (λr e t=>Sum.elim (λa=>(λr e t=>e= .exit 0∧Ent t (mN [] [] 0)) a e t) (λb=>(λr e t=>e= .ret∧sK TT [.tmp 4] (.int r) .ret t) b e t) r) (bW (uA 1 k2 (sJ ⟨_,k,⟨k,uX _ hc1⟩⟩ (bK k2))) aO k4) ?_ ?_
 ·intro x1 o h;exact sR<|cm k4<|an<|tn<|sQ<|dQ k h (λ_ h=>aP<|tn<|sQ<|aI<|sR<|am k k<|aT k2<|sR<|am k k<|am k k<|am k k<|oB h λv2 hv2 h=>ae (xl hv2 k) k<|lr k7<|oB h λv3 hv3 h=>ae (aGH hc1 (hf1 v2 v3 hv3) k k (cD k aL)) k<|an<|tn<|dQ k h (λ_ h=>sR<|am k k<|aT k2<|aB<|bO<|aF<|aF<|sp h ⟨_,k,k,bB k k k (aDX k)⟩) λ_ h=>aP<|aZ<|tn<|rg<|ae (bL k k) k<|am k k<|an<|tn<|sp h ⟨_,k,(bW (uA 1 k2 (sJ ⟨_,k,⟨k,uX _ hc1⟩⟩ (bK k2))) aO k4)⟩) λ_ h=>bE<|aC<|aC<|sp h ⟨_,k,k,(bW aO aO k4)⟩
 ·intro e t hX;rcases y5 with y6|y7
  ·obtain ⟨rfl,hent⟩:=hX;exact aU<|tn<|aM hent<|sR<|aT k2<|aB<|rtI h k2
  ·obtain ⟨rfl,hent⟩:=hX;exact bO<|aF<|sp h hent
def hZ (a0:(List Int)) (a1:(Int→Option Bool)):Option Bool:=
 (gG a0 a1).bind λv1=>
 some (decide (0≤v1))
theorem sX (a0:(List Int)) (a1:(Int→Option Bool)) {f1:FuncId} {c1:List AV} (hc1:c1.all fD=true) (hf1: ∀ b0 r,a1 b0=some r→HasC Tryz.prog f1 ([.int b0]++c1) (.bl r)) (r:Bool) (h:hZ a0 a1=some r):HasC Tryz.prog 88 [.list 1 (a0.map eI),.fn f1 c1] (.bl r):=by
 exact zV aH (rvs:=[.tmp 4]) (ns:=nmA) Tryz.func88 k k Tryz.ntmps88 k k (rW k (rW hc1 aDk))<|sR<|aT k2<|sR<|am k k<|am k k<|oB h λv1 hv1 h=>ae (aS (uP a0 a1 hc1 hf1 v1 hv1) k (cD k (aJ (aLZ hc1) aL))) k<|cm k4<|aT k2<|aB<|fS h k2
def eV (a0:(List (List Int))) (a1:((List Int)→Option Bool)) (x1:Int):Option (Int ⊕ (Unit ⊕ Int)):=
 bif decide (x1<(a0.length:Int)) then
 ((eF a0 x1).bind λv2=>
 (a1 v2).bind λv3=>
 bif v3 then
 (some (.inr (.inr (x1))))
 else
 (some (.inl (wr (x1+1)))))
 else
 (some (.inr (.inl ())))
def iO (a0:(List (List Int))) (a1:((List Int)→Option Bool)):Option Int:=
 (Lp (eV a0 a1) 0).bind λy5=>
 Sum.elim (λy6=>
 some ((-1))
 )
 (λy7=>
 some y7
 )
 y5
theorem tP (a0:(List (List Int))) (a1:((List Int)→Option Bool)) {f1:FuncId} {c1:List AV} (hc1:c1.all fD=true) (hf1: ∀ b0 r,a1 b0=some r→HasC Tryz.prog f1 ([.list 1 (b0.map eI)]++c1) (.bl r)) (r:Int) (h:iO a0 a1=some r):HasC Tryz.prog 144 [.list 1 (a0.map (cW 1 eI)),.fn f1 c1] (.int r):=by
 refine zV aH (rvs:=[.tmp 4]) (ns:=nmA) Tryz.func144 k k Tryz.ntmps144 k k (rW k (rW hc1 aDk))<|sR<|aT k2<|sQ<|sR<|am k k<|ln k4<|am k k<|an<|tn<|aI<|oB h λy5 hy5 h=>cU (body:=(eV a0 a1)) hy5 (λ(x1:Int)=>mN [(0,.list 1 (a0.map (cW 1 eI))),(1,.fn f1 c1),(7,.int (a0.length:Int)),(8,.int x1)] [] 0) (λr e t=>Sum.elim (λa=>(λr e t=>e= .exit 0∧Ent t (mN [] [] 0)) a e t) (λb=>(λr e t=>e= .ret∧sK TT [.tmp 4] (.int r) .ret t) b e t) r) (bW (uA 1 k2 (sJ ⟨_,k,⟨k,uX _ hc1⟩⟩ (bK k2))) aO k4) ?_ ?_
 ·intro x1 o h;exact sR<|cm k4<|an<|tn<|sQ<|dQ k h (λ_ h=>aP<|tn<|sQ<|aI<|sR<|am k k<|aT k2<|sR<|am k k<|am k k<|am k k<|oB h λv2 hv2 h=>ae (xl hv2 k) k<|lr k7<|oB h λv3 hv3 h=>ae (aGH hc1 (hf1 v2 v3 hv3) k k (cD k aL)) k<|an<|tn<|dQ k h (λ_ h=>sR<|am k k<|aT k2<|aB<|bO<|aF<|aF<|sp h ⟨_,k,k,bB k k k (aDX k)⟩) λ_ h=>aP<|aZ<|tn<|rg<|ae (bL k k) k<|am k k<|an<|tn<|sp h ⟨_,k,(bW (uA 1 k2 (sJ ⟨_,k,⟨k,uX _ hc1⟩⟩ (bK k2))) aO k4)⟩) λ_ h=>bE<|aC<|aC<|sp h ⟨_,k,k,(bW aO aO k4)⟩
 ·intro e t hX;rcases y5 with y6|y7
  ·obtain ⟨rfl,hent⟩:=hX;exact aU<|tn<|aM hent<|sR<|aT k2<|aB<|rtI h k2
  ·obtain ⟨rfl,hent⟩:=hX;exact bO<|aF<|sp h hent
def eW (a0:(List (List Int))) (a1:((List Int)→Option Bool)):Option Bool:=
 (iO a0 a1).bind λv1=>
 some (decide (0≤v1))
theorem rX (a0:(List (List Int))) (a1:((List Int)→Option Bool)) {f1:FuncId} {c1:List AV} (hc1:c1.all fD=true) (hf1: ∀ b0 r,a1 b0=some r→HasC Tryz.prog f1 ([.list 1 (b0.map eI)]++c1) (.bl r)) (r:Bool) (h:eW a0 a1=some r):HasC Tryz.prog 95 [.list 1 (a0.map (cW 1 eI)),.fn f1 c1] (.bl r):=by
 exact zV aH (rvs:=[.tmp 4]) (ns:=nmA) Tryz.func95 k k Tryz.ntmps95 k k (rW k (rW hc1 aDk))<|sR<|aT k2<|sR<|am k k<|am k k<|oB h λv1 hv1 h=>ae (aS (tP a0 a1 hc1 hf1 v1 hv1) k (cD k (aJ (aLZ hc1) aL))) k<|cm k4<|aT k2<|aB<|fS h k2
def kB (a0:Int) (a1:Int) (a2:Int):Option Bool:=
 (gK a0 a1 a2).bind λv1=>
 some (!v1)
theorem aAu (a0:Int) (a1:Int) (a2:Int) (r:Bool) (h:kB a0 a1 a2=some r):HasC Tryz.prog 171 [.int a0,.ref (eI a1),.ref (eI a2)] (.bl r):=by
 exact hM [.tmp 4] Tryz.func171 Tryz.ntmps171 k<|sR<|aT k2<|sR<|am k k<|lr k7<|lr k7<|oB h λv1 hv1 h=>ae (aS (jL a0 a1 a2 v1 hv1) k (cD k (cD k (cD k aL)))) k<|ae (dD k) k<|aT k2<|aB<|fS h k2
def iA (a0:(List Int)) (a1:Int) (a2:Int):Option Bool:=
 (hZ a0 (λb0=>kB b0 a1 a2)).bind λv1=>
 some (!v1)
theorem pF (a0:(List Int)) (a1:Int) (a2:Int) (r:Bool) (h:iA a0 a1 a2=some r):HasC Tryz.prog 97 [.list 1 (a0.map eI),.int a1,.int a2] (.bl r):=by
 exact hM [.tmp 6] Tryz.func97 Tryz.ntmps97 k<|sR<|ae (wb k) k<|ae (wb k) k<|aT k2<|sR<|am k k<|ae (aBG (vs:=[.ptr 0 0 0,.ptr 1 0 0]) k (by simp)) k<|oB h λv1 hv1 h=>ae (aS (sX a0 (λb0=>kB b0 a1 a2) k (λb0 r h=>aAu b0 a1 a2 r h) v1 hv1) k (cD k (aJ (aLY (aDA (aGG k k (dH (eJ k) tX)) (aDA (aGG k k (dH (eJ k) tX)) aGF))) aL))) k<|ae (dD k) k<|aT k2<|aB<|fS h k2
def nI (a0:Int) (a1:(List Int)):Option Bool:=
 (gO a0).bind λv1=>
 bif v1 then
 (bif decide ((a1.length:Int)≤64) then
 ((iA a1 0 (wr (a0 - 1))).bind λv4=>
 some (v4))
 else
 (some (false)))
 else
 (some (false))
theorem yJ (a0:Int) (a1:(List Int)) (r:Bool) (h:nI a0 a1=some r):HasC Tryz.prog 235 [.int a0,.list 1 (a1.map eI)] (.bl r):=by
 exact hM [.tmp 4] Tryz.func235 Tryz.ntmps235 k<|sR<|aT k2<|sR<|am k k<|oB h λv1 hv1 h=>ae (aS (jW a0 v1 hv1) k (cD k aL)) k<|am k k<|iS h (λq2 h=>aD 7 k q2<|am k k<|ln k4<|cm k4<|pk k3<|am k k<|iS h (λq3 h=>aD 12 k q3<|am k k<|am k k<|ae (lK k k) k<|oB h λv4 hv4 h=>ae (aS (pF a1 0 (wr (a0 - 1)) v4 hv4) k (cD k (cD k (cD k aL)))) k<|pk k3<|aT k2<|aB<|fS h k2) λq3 h=>aD 12 k q3<|aK k4<|aK k4<|pk k3<|aT k2<|aB<|fS h k2) λq2 h=>aD 7 k q2<|aK k4<|ak k k<|pk k3<|am k k<|aK k4<|aK k4<|pk k3<|aT k2<|aB<|fS h k2
def qQ (a0:Int) (a1:Mt):Option Bool:=
 (gK a1.rows 0 8).bind λv1=>
 bif v1 then
 ((gK a1.cols 0 8).bind λv3=>
 bif v3 then
 (bif decide ((a1.cells.length:Int)=wr (a1.rows*a1.cols)) then
 ((nI a0 a1.cells).bind λv6=>
 some (v6))
 else
 (some (false)))
 else
 (some (false)))
 else
 (some (false))
theorem aCp (a0:Int) (a1:Mt) (r:Bool) (h:qQ a0 a1=some r):HasC Tryz.prog 183 [.int a0,.agg (eM a1)] (.bl r):=by
 exact hM [.tmp 4] Tryz.func183 Tryz.ntmps183 k<|sR<|ae (wb k) k<|aT k2<|sR<|fp k8<|lp k8<|oB h λv1 hv1 h=>ae (aS (jL a1.rows 0 8 v1 hv1) k (cD k (cD k (cD k aL)))) k<|am k k<|iS h (λq2 h=>aD 8 k q2<|fp k8<|lp k8<|oB h λv3 hv3 h=>ae (aS (jL a1.cols 0 8 v3 hv3) k (cD k (cD k (cD k aL)))) k<|pk k3<|am k k<|iS h (λq4 h=>aD 13 k q4<|fp k8<|lp k8<|ln k4<|fp k8<|lp k8<|fp k8<|lp k8<|ae (gN k k) k<|cm k4<|pk k3<|am k k<|iS h (λq5 h=>aD 24 k q5<|am k k<|fp k8<|lp k8<|oB h λv6 hv6 h=>ae (aS (yJ a0 a1.cells v6 hv6) k (cD k (cD k aL))) k<|pk k3<|aT k2<|aB<|fS h k2) λq5 h=>aD 24 k q5<|aK k4<|aK k4<|pk k3<|aT k2<|aB<|fS h k2) λq4 h=>aD 13 k q4<|aK k4<|aK k4<|aK k4<|aK k4<|ak k k<|pk k3<|am k k<|aK k4<|aK k4<|pk k3<|aT k2<|aB<|fS h k2) λq2 h=>aD 8 k q2<|aK k4<|ak k k<|pk k3<|am k k<|aK k4<|aK k4<|aK k4<|aK k4<|ak k k<|pk k3<|am k k<|aK k4<|aK k4<|pk k3<|aT k2<|aB<|fS h k2
def qR (a0:Qv):Option Bool:=
 (gK a0.n 1 5).bind λv1=>
 bif v1 then
 (bif decide ((a0.src.length:Int)=(a0.tgt.length:Int)) then
 (bif decide ((a0.src.length:Int)≤6) then
 ((iA a0.src 0 (wr (a0.n - 1))).bind λv5=>
 bif v5 then
 ((iA a0.tgt 0 (wr (a0.n - 1))).bind λv7=>
 some (v7))
 else
 (some (false)))
 else
 (some (false)))
 else
 (some (false)))
 else
 (some (false))
theorem aCq (a0:Qv) (r:Bool) (h:qR a0=some r):HasC Tryz.prog 99 [.agg (eQ a0)] (.bl r):=by
 refine hM [.tmp 2] Tryz.func99 Tryz.ntmps99 k<|sR<|ae (wb k) k<|aT k2<|sR<|fp k8<|lp k8<|oB h λv1 hv1 h=>ae (aS (jL a0.n 1 5 v1 hv1) k (cD k (cD k (cD k aL)))) k<|am k k<|iS h (λq2 h=>aD 6 k q2<|fp k8<|lp k8<|ln k4<|fp k8<|lp k8<|ln k4<|cm k4<|pk k3<|am k k<|iS h (λq3 h=>aD 15 k q3<|fp k8<|lp k8<|ln k4<|cm k4<|pk k3<|am k k<|iS h (λq4 h=>aD 21 k q4<|fp k8<|lp k8<|fp k8<|lp k8<|ae (lK k k) k<|oB h λv5 hv5 h=>ae (aS (pF a0.src 0 (wr (a0.n - 1)) v5 hv5) k (cD k (cD k (cD k aL)))) k<|pk k3<|am k k<|iS h (λq6 h=>aD 29 k q6<|fp k8<|lp k8<|fp k8<|lp k8<|ae (lK k k) k<|oB h λv7 hv7 h=>ae (aS (pF a0.tgt 0 (wr (a0.n - 1)) v7 hv7) k (cD k (cD k (cD k aL)))) k<|pk k3<|aT k2<|aB<|fS h k2) λq6 h=>aD 29 k q6<|aK k4<|aK k4<|aK k4<|pk k3<|aT k2<|aB<|fS h k2) λq4 h=>aD 21 k q4<|aK k4<|aK k4<|aK k4<|pk k3<|am k k<|aK k4<|aK k4<|aK k4<|pk k3<|aT k2<|aB<|fS h k2) λq3 h=>aD 15 k q3<|aK k4<|aK k4<|pk k3<|am k k<|aK k4<|aK k4<|aK k4<|pk k3<|am k k<|aK k4<|aK k4<|aK k4<|pk k3<|aT k2<|aB<|fS h k2) λq2 h=>?_;refine aD 6 k q2<|aK k4<|aK k4<|aK k4<|ak k k<|pk k3<|am k k<|aK k4<|aK k4<|pk k3<|am k k<|aK k4<|aK k4<|aK k4<|pk k3<|am k k<|aK k4<|aK k4<|aK k4 ?_;exact pk k3<|aT k2<|aB<|fS h k2
def rY (a0:Qv) (a1:(List Int)):Option Bool:=
 (qR a0).bind λv1=>
 bif v1 then
 (bif decide ((a1.length:Int)=a0.n) then
 ((iA a1 0 4).bind λv4=>
 bif v4 then
 ((uM a1).bind λv6=>
 some (decide (v6≤8)))
 else
 (some (false)))
 else
 (some (false)))
 else
 (some (false))
theorem aDl (a0:Qv) (a1:(List Int)) (r:Bool) (h:rY a0 a1=some r):HasC Tryz.prog 174 [.agg (eQ a0),.list 1 (a1.map eI)] (.bl r):=by
 exact hM [.tmp 4] Tryz.func174 Tryz.ntmps174 k<|sR<|ae (wb k) k<|aT k2<|sR<|lp k8<|oB h λv1 hv1 h=>ae (aS (aCq a0 v1 hv1) k (aJ (fK k) aL)) k<|am k k<|iS h (λq2 h=>aD 7 k q2<|am k k<|ln k4<|fp k8<|lp k8<|cm k4<|pk k3<|am k k<|iS h (λq3 h=>aD 14 k q3<|am k k<|oB h λv4 hv4 h=>ae (aS (pF a1 0 4 v4 hv4) k (cD k (cD k (cD k aL)))) k<|pk k3<|am k k<|iS h (λq5 h=>aD 18 k q5<|am k k<|oB h λv6 hv6 h=>ae (aS (aGK a1 v6 hv6) k (cD k aL)) k<|cm k4<|pk k3<|aT k2<|aB<|fS h k2) λq5 h=>aD 18 k q5<|aK k4<|ak k k<|pk k3<|aT k2<|aB<|fS h k2) λq3 h=>aD 14 k q3<|aK k4<|pk k3<|am k k<|aK k4<|ak k k<|pk k3<|aT k2<|aB<|fS h k2) λq2 h=>aD 7 k q2<|aK k4<|aK k4<|ak k k<|pk k3<|am k k<|aK k4<|pk k3<|am k k<|aK k4<|ak k k<|pk k3<|aT k2<|aB<|fS h k2
def qS (a0:Rp) (x1:Int):Option (Int ⊕ (Unit ⊕ Bool)):=
 bif decide (x1<(a0.maps.length:Int)) then
 ((eF a0.maps x1).bind λv7=>
 (qQ a0.p v7).bind λv8=>
 bif !v8 then
 (some (.inr (.inr (false))))
 else
 ((eF a0.q.src x1).bind λv10=>
 (eF a0.dims v10).bind λv11=>
 bif !decide (v7.cols=v11) then
 (some (.inr (.inr (false))))
 else
 ((eF a0.q.tgt x1).bind λv13=>
 (eF a0.dims v13).bind λv14=>
 bif !decide (v7.rows=v14) then
 (some (.inr (.inr (false))))
 else
 (some (.inl (wr (x1+1)))))))
 else
 (some (.inr (.inl ())))
def rZ (a0:Rp):Option Bool:=
 (gO a0.p).bind λv1=>
 bif !v1 then
 (some (false))
 else
 ((rY a0.q a0.dims).bind λv3=>
 bif !v3 then
 (some (false))
 else
 (bif !decide ((a0.maps.length:Int)=(a0.q.src.length:Int)) then
 (some (false))
 else
 ((Lp (qS a0) 0).bind λy16=>
 Sum.elim (λy17=>
 some (true)
 )
 (λy18=>
 some y18
 )
 y16)))
theorem aBZ (a0:Rp) (r:Bool) (h:rZ a0=some r):HasC Tryz.prog 120 [.agg (eR a0)] (.bl r):=by
 refine hM [.tmp 2] Tryz.func120 Tryz.ntmps120 k<|sR<|ae (wb k) k<|aT k2<|sQ<|sR<|fp k8<|lp k8<|oB h λv1 hv1 h=>ae (aS (jW a0.p v1 hv1) k (cD k aL)) k<|ae (dD k) k<|am k k<|iS h (λq2 h=>aD 9 k q2<|aK k4<|aK k4<|aK k4<|pk k3<|am k k<|aK k4<|aK k4<|aK k4<|aK k4<|pk k3<|an<|tn<|aM (t:=mN [(1,.ptr 0 0 0),(26,.bl true)] [(0,⟨6,[eR a0]⟩)] 1) (bW (bK k2) (bT k<|aO) k4)<|cB k k<|sR<|aT k2<|aB<|aF<|fS h k2) λq2 h=>?_;refine aD 9 k q2<|fp k8<|lp k8<|fp k8<|lp k8<|oB h λv3 hv3 h=>ae (aS (aDl a0.q a0.dims v3 hv3) k (aJ (fK k) (cD k aL))) k<|ae (dD k) k<|pk k3<|am k k<|iS h (λq4 h=>aD 17 k q4<|aK k4<|aK k4<|aK k4<|aK k4<|pk k3<|an<|tn<|aM (t:=mN [(1,.ptr 0 0 0),(26,.bl true)] [(0,⟨6,[eR a0]⟩)] 1) (bW (bK k2) (bT k<|aO) k4)<|cB k k<|sR<|aT k2<|aB<|aF<|fS h k2) λq4 h=>?_;refine aD 17 k q4<|fp k8<|lp k8<|ln k4<|fp k8<|fp k8<|lp k8<|ln k4<|cm k4<|pk k3<|an<|tn<|aM (t:=mN [(1,.ptr 0 0 0),(26,.bl (!decide ((a0.maps.length:Int)=(a0.q.src.length:Int))))] [(0,⟨6,[eR a0]⟩)] 1) (bW (bK k2) (bT k<|aO) k4)<|dQ k h (λ_ h=>sR<|aT k2<|aB<|aF<|fS h k2) λ_ h=>?_;refine aP<|tn<|sQ<|sR<|fp k8<|lp k8<|ln k4<|am k k<|an<|tn<|aI<|oB h λy16 hy16 h=>cU (body:=(qS a0)) hy16 (λ(x1:Int)=>mN [(1,.ptr 0 0 0),(28,.list 3 (a0.maps.map eM)),(29,.int (a0.maps.length:Int)),(30,.int x1)] [(0,⟨6,[eR a0]⟩)] 1) (λr e t=>Sum.elim (λa=>(λr e t=>e= .exit 0∧Ent t (mN [] [] 0)) a e t) (λb=>(λr e t=>e= .ret∧sK TT [.tmp 2] (.bl r) .ret t) b e t) r) (bW (bK k2) (bT k<|aO) k4) ?_ ?_
 ·intro x1 o h;refine sR<|cm k4<|an<|tn<|sQ<|dQ k h (λ_ h=>?_) λ_ h=>bE<|aC<|aC<|sp h ⟨_,k,k,(bW aO aO k4)⟩;refine aP<|tn<|sQ<|aI<|sR<|am k k<|oB h λv7 hv7 h=>ae (xl hv7 k) k<|lr k7<|ae (aY aH k k) k<|aa k k<|ae (ws k) k<|an<|tn<|sQ<|aW iR<|fp k8<|lp k8<|lp k8<|oB h λv8 hv8 h=>ae (aS (aCp a0.p v7 v8 hv8) k (cD k (aJ (fK k) aL))) k<|ae (dD k) k<|am k k<|iS h (λq9 h=>?_) λq9 h=>?_
  ·refine aD 40 k q9<|aK k4<|aK k4<|aK k4<|aK k4<|aK k4<|aK k4<|ak k k<|pk k3<|am k k<|aK k4<|aK k4<|aK k4<|aK k4<|aK k4<|aK k4<|ak k k<|pk k3 ?_;exact an<|sO (by kernel_rfl)<|tn<|aM (t:=mN [(1,.ptr 0 0 0),(28,.list 3 (a0.maps.map eM)),(29,.int (a0.maps.length:Int)),(30,.int x1),(69,.bl true)] [(0,⟨6,[eR a0]⟩)] 2) (bW (bK k2) (bT k<|aO) k4)<|cB k k<|sR<|aT k2<|aB<|bO<|aF<|aF<|sp h ⟨_,k,k,bB k k k (oK k)⟩
  ·exact aD 40 k q9<|fp k8<|lp k8<|fp k8<|lp k8<|fp k8<|fp k8<|lp k8<|am k k<|oB h λv10 hv10 h=>ae (xl hv10 k) k<|lr k7<|oB h λv11 hv11 h=>ae (xl hv11 k) k<|lr k7<|cm k4<|pk k3<|am k k<|iS h (λq12 h=>aD 55 k q12<|aK k4<|aK k4<|aK k4<|aK k4<|aK k4<|aK k4<|ak k k<|pk k3<|an<|sO (by kernel_rfl)<|tn<|aM (t:=mN [(1,.ptr 0 0 0),(28,.list 3 (a0.maps.map eM)),(29,.int (a0.maps.length:Int)),(30,.int x1),(69,.bl true)] [(0,⟨6,[eR a0]⟩)] 2) (bW (bK k2) (bT k<|aO) k4)<|cB k k<|sR<|aT k2<|aB<|bO<|aF<|aF<|sp h ⟨_,k,k,bB k k k (oK k)⟩) λq12 h=>aD 55 k q12<|fp k8<|lp k8<|fp k8<|lp k8<|fp k8<|fp k8<|lp k8<|am k k<|oB h λv13 hv13 h=>ae (xl hv13 k) k<|lr k7<|oB h λv14 hv14 h=>ae (xl hv14 k) k<|lr k7<|cm k4<|pk k3<|an<|sO (by kernel_rfl)<|tn<|aM (t:=mN [(1,.ptr 0 0 0),(28,.list 3 (a0.maps.map eM)),(29,.int (a0.maps.length:Int)),(30,.int x1),(69,.bl (!decide (v7.rows=v14)))] [(0,⟨6,[eR a0]⟩)] 2) (bW (bK k2) (bT k<|aO) k4)<|dQ k h (λ_ h=>sR<|aT k2<|aB<|bO<|aF<|aF<|sp h ⟨_,k,k,bB k k k (oK k)⟩) λ_ h=>aP<|aZ<|tn<|rg<|ae (bL k k) k<|am k k<|an<|tn<|sp h ⟨_,k,(bW (bK k2) (bT k<|aO) k4)⟩
 ·intro e t hX;rcases y16 with y17|y18
  ·obtain ⟨rfl,hent⟩:=hX;exact aU<|tn<|aM hent<|sR<|aT k2<|aB<|fS h k2
  ·obtain ⟨rfl,hent⟩:=hX;exact bO<|aF<|sp h hent
def pW (a0:Mt):Option Mt:=
 (aBV a0.cells).bind λv1=>
 some ((⟨a0.rows,a0.cols,v1⟩:Mt))
theorem aAH (a0:Mt) (r:Mt) (h:pW a0=some r):HasC Tryz.prog 256 [.agg (eM a0)] (.agg (eM r)):=by
 exact hM [.cell 2 81] Tryz.func256 Tryz.ntmps256 k<|sR<|ae (wb k) k<|ae (aY aH k k) k<|an<|tn<|sR<|fp k8<|lp k8<|oB h λv1 hv1 h=>ae (cL cJ (aJO a0.cells v1 hv1) k3 (cD k aL)) k<|fp k8<|ae (ws k) k<|an<|tn<|sR<|lp k8<|ae (ws k) k<|an<|tn<|aB<|sp h (bB k k k (rT (aG (k) (aG (k) (aG (dY cJ k k) cO)))))
def mG (v1:Mt) (x1:(Int×(List Int)×(List Int))) (x2:Int):Option (Int ⊕ Int):=
 bif decide (x2<v1.rows) then
 ((dX (⟨v1.rows,v1.cols,x1.2.1⟩:Mt) x2).bind λv4=>
 bif (decide (0≤x1.1)&&decide (x1.1<((((wr ((wr (x2+1))*v1.cols)).toNat - (wr (x2*v1.cols)).toNat):Nat):Int))) then
 ((x1.2.1[((0+(wr (x2*v1.cols)).toNat)+x1.1.toNat)]?).bind λv5=>
 bif decide (v5=0) then
 (some (.inl (wr (x2+1))))
 else
 (some (.inr x2))
 )
 else none)
 else
 (some (.inr x2))
def pG (v1:Mt) (x1:(Int×(List Int)×(List Int))) (y8:Int) (x3:((List Int)×Int)):Option (((List Int)×Int) ⊕ (List Int)):=
 bif decide (x3.2<v1.cols) then
 ((dX (⟨v1.rows,v1.cols,x3.1⟩:Mt) y8).bind λv12=>
 (dX (⟨v1.rows,v1.cols,x3.1⟩:Mt) y8).bind λv13=>
 bif (decide (0≤x3.2)&&decide (x3.2<((((wr ((wr (y8+1))*v1.cols)).toNat - (wr (y8*v1.cols)).toNat):Nat):Int))) then
 ((x3.1[((0+(wr (y8*v1.cols)).toNat)+x3.2.toNat)]?).bind λv14=>
 bif (decide (0≤x3.2)&&decide (x3.2<((((wr ((wr (((x1.2.2.length:Nat):Int)+1))*v1.cols)).toNat - (wr (((x1.2.2.length:Nat):Int)*v1.cols)).toNat):Nat):Int))) then
 ((x3.1[((0+(wr (((x1.2.2.length:Nat):Int)*v1.cols)).toNat)+x3.2.toNat)]?).bind λv16=>
 bif (decide (0≤x3.2)&&decide (x3.2<((((wr ((wr (((x1.2.2.length:Nat):Int)+1))*v1.cols)).toNat - (wr (((x1.2.2.length:Nat):Int)*v1.cols)).toNat):Nat):Int))) then
 ((x3.1[((0+(wr (((x1.2.2.length:Nat):Int)*v1.cols)).toNat)+x3.2.toNat)]?).bind λv18=>
 bif (decide (0≤x3.2)&&decide (x3.2<((((wr ((wr (y8+1))*v1.cols)).toNat - (wr (y8*v1.cols)).toNat):Nat):Int))) then
 (((x3.1.set ((0+(wr (((x1.2.2.length:Nat):Int)*v1.cols)).toNat)+x3.2.toNat) v14)[((0+(wr (y8*v1.cols)).toNat)+x3.2.toNat)]?).bind λv20=>
 some (.inl (((x3.1.set ((0+(wr (((x1.2.2.length:Nat):Int)*v1.cols)).toNat)+x3.2.toNat) v14).set ((0+(wr (y8*v1.cols)).toNat)+x3.2.toNat) v16),wr (x3.2+1)))
 )
 else none
 )
 else none
 )
 else none
 )
 else none)
 else
 (some (.inr x3.1))
def pH (a0:Int) (v1:Mt) (v25:Int) (x1:(Int×(List Int)×(List Int))) (x4:((List Int)×Int)):Option (((List Int)×Int) ⊕ (List Int)):=
 bif decide (x4.2<((((wr ((wr (((x1.2.2.length:Nat):Int)+1))*v1.cols)).toNat - (wr (((x1.2.2.length:Nat):Int)*v1.cols)).toNat):Nat):Int)) then
 (bif (decide (0≤x4.2)&&decide (x4.2<((((wr ((wr (((x1.2.2.length:Nat):Int)+1))*v1.cols)).toNat - (wr (((x1.2.2.length:Nat):Int)*v1.cols)).toNat):Nat):Int))) then
 ((x4.1[((0+(wr (((x1.2.2.length:Nat):Int)*v1.cols)).toNat)+x4.2.toNat)]?).bind λv27=>
 bif !decide (a0=0) then
 (bif (decide (0≤x4.2)&&decide (x4.2<((((wr ((wr (((x1.2.2.length:Nat):Int)+1))*v1.cols)).toNat - (wr (((x1.2.2.length:Nat):Int)*v1.cols)).toNat):Nat):Int))) then
 ((x4.1[((0+(wr (((x1.2.2.length:Nat):Int)*v1.cols)).toNat)+x4.2.toNat)]?).bind λv29=>
 some (.inl ((x4.1.set ((0+(wr (((x1.2.2.length:Nat):Int)*v1.cols)).toNat)+x4.2.toNat) ((wr (v27*v25)).tmod a0)),wr (x4.2+1)))
 )
 else none)
 else none
 )
 else none)
 else
 (some (.inr x4.1))
def pI (a0:Int) (v1:Mt) (x1:(Int×(List Int)×(List Int))) (x5:((List Int)×Int)):Option (((List Int)×Int) ⊕ (List Int)):=
 bif decide (x5.2<v1.rows) then
 (bif !decide (x5.2=((x1.2.2.length:Nat):Int)) then
 ((dX (⟨v1.rows,v1.cols,x5.1⟩:Mt) x5.2).bind λv35=>
 (dX (⟨v1.rows,v1.cols,x5.1⟩:Mt) x5.2).bind λv36=>
 bif (decide (0≤x1.1)&&decide (x1.1<((((wr ((wr (x5.2+1))*v1.cols)).toNat - (wr (x5.2*v1.cols)).toNat):Nat):Int))) then
 ((x5.1[((0+(wr (x5.2*v1.cols)).toNat)+x1.1.toNat)]?).bind λv37=>
 (iV a0 x5.1 (0+(wr (x5.2*v1.cols)).toNat) ((wr ((wr (x5.2+1))*v1.cols)).toNat - (wr (x5.2*v1.cols)).toNat) (wr (a0 - v37)) (0+(wr (((x1.2.2.length:Nat):Int)*v1.cols)).toNat) ((wr ((wr (((x1.2.2.length:Nat):Int)+1))*v1.cols)).toNat - (wr (((x1.2.2.length:Nat):Int)*v1.cols)).toNat)).bind λv39=>
 bif decide (v39.length=x5.1.length) then
 (some (.inl (v39,wr (x5.2+1))))
 else none
 )
 else none)
 else
 (some (.inl (x5.1,wr (x5.2+1)))))
 else
 (some (.inr x5.1))
def mH (a0:Int) (v1:Mt) (x1:(Int×(List Int)×(List Int))):Option ((Int×(List Int)×(List Int)) ⊕ ((List Int)×(List Int))):=
 bif decide (x1.1<v1.cols) then
 ((Lp (mG v1 x1) ((x1.2.2.length:Nat):Int)).bind λy8=>
 bif decide (y8=v1.rows) then
 (some (.inl (wr (x1.1+1),x1.2.1,x1.2.2)))
 else
 ((dX (⟨v1.rows,v1.cols,x1.2.1⟩:Mt) ((x1.2.2.length:Nat):Int)).bind λv10=>
 (Lp (pG v1 x1 y8) (x1.2.1,0)).bind λy22=>
 bif (decide (0≤x1.1)&&decide (x1.1<((((wr ((wr (((x1.2.2.length:Nat):Int)+1))*v1.cols)).toNat - (wr (((x1.2.2.length:Nat):Int)*v1.cols)).toNat):Nat):Int))) then
 ((y22[((0+(wr (((x1.2.2.length:Nat):Int)*v1.cols)).toNat)+x1.1.toNat)]?).bind λv23=>
 (oA a0 v23).bind λv25=>
 (Lp (pH a0 v1 v25 x1) (y22,0)).bind λy32=>
 (Lp (pI a0 v1 x1) (y32,0)).bind λy41=>
 bif decide (x1.2.2.length+[x1.1].length ≤4294967296) then
 (some (.inl (wr (x1.1+1),y41,(x1.2.2++[x1.1]))))
 else none
 )
 else none))
 else
 (some (.inr (x1.2.1,x1.2.2)))
def qF (a0:Int) (a1:Mt):Option (Mt×(List Int)):=
 (pW a1).bind λv1=>
 (Lp (mH a0 v1) (0,v1.cells,[])).bind λy43=>
 some (((⟨v1.rows,v1.cols,y43.1⟩:Mt),y43.2))
theorem aAQ (a0:Int) (a1:Mt) (r:(Mt×(List Int))) (h:qF a0 a1=some r):HasC Tryz.prog 225 [.int a0,.agg (eM a1)] (.tuple [.agg (eM r.1),.list 1 (r.2.map eI)]):=by
 refine hM [.cell 4 81,.tmp 5] Tryz.func225 Tryz.ntmps225 k<|sR<|ae (wb k) k<|ae (aY aH k k) k<|aT k2<|sR<|lp k8<|oB h λv1 hv1 h=>ae (cM (aAH a1 v1 hv1) k3 (aJ (fK k) aL)) k<|ae (ws k) k<|an<|tn<|sR<|aT k2<|sQ<|sR<|fp k8<|lp k8<|am k k<|an<|tn<|aI<|oB h λy43 hy43 h=>cU (body:=(mH a0 v1)) hy43 (λ(x1:(Int×(List Int)×(List Int)))=>mN [(0,.int a0),(3,.ptr 0 0 0),(4,.ptr 2 0 0),(6,.own 3 0 x1.2.2.length),(17,.int v1.cols),(18,.int x1.1)] [(0,⟨3,[[.int v1.rows,.int v1.cols,.own 1 0 x1.2.1.length]]⟩),(1,⟨1,x1.2.1.map (ow eI)⟩),(2,⟨3,[mD]⟩),(3,⟨1,x1.2.2.map (ow eI)⟩)] 4) (λr e t=>e= .exit 0∧Ent t (mN [(3,.ptr 0 0 0),(4,.ptr 2 0 0),(6,.own 3 0 r.2.length)] [(0,⟨3,[[.int v1.rows,.int v1.cols,.own 1 0 r.1.length]]⟩),(1,⟨1,r.1.map (ow eI)⟩),(2,⟨3,[mD]⟩),(3,⟨1,r.2.map (ow eI)⟩)] 4)) (rA (σ:=sg [(0,0),(1,2),(2,1)]) (uA 3 k2 (sJ ⟨_,k,⟨k,k,k,k⟩⟩ (bK k2))) (eB k<|bN k<|bT k<|hX k k<|aO) k) ?_ ?_
 ·intro x1 o h;refine sR<|cm k4<|an<|tn<|sQ<|dQ k h (λ_ h=>?_) λ_ h=>bE<|aC<|aC<|sp h ⟨_,k,k,(bW (bK k2) (eB k<|bN k<|bT k<|bN k<|aO) k4)⟩;refine aP<|tn<|sQ<|aI<|sR<|am k k<|aT k2<|sR<|am k k<|ae (dK aH k k k k) k<|aT k2<|sQ<|aI<|oB h λy8 hy8 h=>cU (body:=(mG v1 x1)) hy8 (λ(x2:Int)=>mN [(0,.int a0),(3,.ptr 0 0 0),(4,.ptr 2 0 0),(6,.own 3 0 x1.2.2.length),(7,.int x1.1),(8,.int x2),(17,.int v1.cols),(18,.int x1.1)] [(0,⟨3,[[.int v1.rows,.int v1.cols,.own 1 0 x1.2.1.length]]⟩),(1,⟨1,x1.2.1.map (ow eI)⟩),(2,⟨3,[mD]⟩),(3,⟨1,x1.2.2.map (ow eI)⟩)] 4) (λr e t=>e= .exit 2∧Ent t (mN [(0,.int a0),(3,.ptr 0 0 0),(4,.ptr 2 0 0),(6,.own 3 0 x1.2.2.length),(7,.int x1.1),(8,.int r),(17,.int v1.cols),(18,.int x1.1)] [(0,⟨3,[[.int v1.rows,.int v1.cols,.own 1 0 x1.2.1.length]]⟩),(1,⟨1,x1.2.1.map (ow eI)⟩),(2,⟨3,[mD]⟩),(3,⟨1,x1.2.2.map (ow eI)⟩)] 4)) (bW (bK k2) (eB k<|bN k<|bT k<|bN k<|aO) k4) ?_ ?_
  ·intro x2 o h;exact sQ<|sR<|am k k<|fp k8<|lp k8<|cm k4<|am k k<|iS h (λq3 h=>aD 27 k q3<|lp k8<|am k k<|oB h λv4 hv4 h=>ae (AEff.pureE (qD (σ:=sg [(0,1)]) (σ':=sg [(1,0)]) (touch:=[1]) (news:=[]) (hl2:=[(1,⟨1,x1.2.1.map (ow eI)⟩)]) (n':=4) (r2:= .own 1 (0+(wr (x2*v1.cols)).toNat) ((wr ((wr (x2+1))*v1.cols)).toNat - (wr (x2*v1.cols)).toNat)) (fJ (⟨v1.rows,v1.cols,x1.2.1⟩:Mt) x2 v4 hv4) k k ⟨_,_,k,⟨_,_,k,k,⟨_,_,k,k,⟨_,_,k,⟨k,k,k,k⟩,k⟩⟩⟩,⟨_,_,k,k,k⟩⟩ ⟨⟨_,k,k,.inl ⟨k,cJ.plainO _⟩⟩,k,aO⟩ k k k ⟨⟨_,k,k,.inl ⟨k,cJ.plainO _⟩⟩,k,aO⟩ k ⟨k,k,(by simp only [aN,lA,lT,lR,lC,lN]),k⟩ k ⟨k,cJ.tame _ _,aO⟩ k k) ⟨k,k,aO⟩) k<|am k k<|cG h λq6 h=>oB h λv5 hv5 h=>ae (hY aH q6 k k k k k k k) k<|ae (iZ aH k k k k (rB (hv5)) k k) k<|cm k4<|pk k3<|an<|tn<|dQ k h (λ_ h=>aP<|tn<|aI<|rg<|am k k<|ae (bL k k) k<|aa k k<|an<|aZ<|tn<|sp h ⟨_,k,(bW (bK k2) (eB k<|bN k<|bT k<|bN k<|aO) k4)⟩) λ_ h=>bE<|aC<|aC<|sp h ⟨_,k,k,(bW (bK k2) (eB k<|bN k<|bT k<|bN k<|aO) k4)⟩) λq3 h=>aD 27 k q3<|aK k4<|aK k4<|aK k4<|ak k k<|pk k3<|an<|tn<|oL k k<|bE<|aC<|aC<|sp h ⟨_,k,k,(bW (bK k2) (eB k<|bN k<|bT k<|bN k<|aO) k4)⟩
  ·rintro e t ⟨rfl,hent⟩;refine aU<|tn<|aM hent<|sQ<|sR<|am k k<|fp k8<|lp k8<|cm k4<|an<|tn<|dQ k h (λ_ h=>bE<|aC<|aU<|tn<|rg<|ae (bL k k) k<|am k k<|an<|tn<|sp h ⟨_,k,(bW (bK k2) (eB k<|bN k<|bT k<|bN k<|aO) k4)⟩) λ_ h=>?_;refine aP<|tn<|sR<|lp k8<|am k k<|ae (dK aH k k k k) k<|oB h λv10 hv10 h=>ae (AEff.pureE (qD (σ:=sg [(0,1)]) (σ':=sg [(1,0)]) (touch:=[1]) (news:=[]) (hl2:=[(1,⟨1,x1.2.1.map (ow eI)⟩)]) (n':=4) (r2:= .own 1 (0+(wr (((x1.2.2.length:Nat):Int)*v1.cols)).toNat) ((wr ((wr (((x1.2.2.length:Nat):Int)+1))*v1.cols)).toNat - (wr (((x1.2.2.length:Nat):Int)*v1.cols)).toNat)) (fJ (⟨v1.rows,v1.cols,x1.2.1⟩:Mt) ((x1.2.2.length:Nat):Int) v10 hv10) k k ⟨_,_,k,⟨_,_,k,k,⟨_,_,k,k,⟨_,_,k,⟨k,k,k,k⟩,k⟩⟩⟩,⟨_,_,k,k,k⟩⟩ ⟨⟨_,k,k,.inl ⟨k,cJ.plainO _⟩⟩,k,aO⟩ k k k ⟨⟨_,k,k,.inl ⟨k,cJ.plainO _⟩⟩,k,aO⟩ k ⟨k,k,(by simp only [aN,lA,lT,lR,lC,lN]),k⟩ k ⟨k,cJ.tame _ _,aO⟩ k k) ⟨k,k,aO⟩) k<|aT k2<|sQ<|sR<|fp k8<|lp k8<|am k k<|an<|tn<|aI<|oB h λy22 hy22 h=>cU (body:=(pG v1 x1 y8)) hy22 (λ(x3:((List Int)×Int))=>mN [(0,.int a0),(3,.ptr 0 0 0),(4,.ptr 2 0 0),(6,.own 3 0 x1.2.2.length),(7,.int x1.1),(8,.int y8),(9,.own 1 (0+(wr (((x1.2.2.length:Nat):Int)*v1.cols)).toNat) ((wr ((wr (((x1.2.2.length:Nat):Int)+1))*v1.cols)).toNat - (wr (((x1.2.2.length:Nat):Int)*v1.cols)).toNat)),(17,.int v1.cols),(18,.int x1.1),(47,.int v1.cols),(48,.int x3.2)] [(0,⟨3,[[.int v1.rows,.int v1.cols,.own 1 0 x3.1.length]]⟩),(1,⟨1,x3.1.map (ow eI)⟩),(2,⟨3,[mD]⟩),(3,⟨1,x1.2.2.map (ow eI)⟩)] 4) (λr e t=>e= .exit 4∧Ent t (mN [(0,.int a0),(3,.ptr 0 0 0),(4,.ptr 2 0 0),(6,.own 3 0 x1.2.2.length),(7,.int x1.1),(9,.own 1 (0+(wr (((x1.2.2.length:Nat):Int)*v1.cols)).toNat) ((wr ((wr (((x1.2.2.length:Nat):Int)+1))*v1.cols)).toNat - (wr (((x1.2.2.length:Nat):Int)*v1.cols)).toNat)),(17,.int v1.cols),(18,.int x1.1)] [(0,⟨3,[[.int v1.rows,.int v1.cols,.own 1 0 r.length]]⟩),(1,⟨1,r.map (ow eI)⟩),(2,⟨3,[mD]⟩),(3,⟨1,x1.2.2.map (ow eI)⟩)] 4)) (bW (bK k2) (eB k<|bN k<|bT k<|bN k<|aO) k4) ?_ ?_
   ·intro x3 o h;refine sR<|cm k4<|an<|tn<|sQ<|dQ k h (λ_ h=>?_) λ_ h=>bE<|aC<|aC<|sp h ⟨_,k,k,(bW (bK k2) (eB k<|bN k<|bT k<|bN k<|aO) k4)⟩;refine aP<|tn<|sQ<|aI<|sR<|am k k<|aT k2<|aW iR<|am k k<|am k k<|lp k8<|am k k<|oB h λv12 hv12 h=>ae (AEff.pureE (qD (σ:=sg [(0,1)]) (σ':=sg [(1,0)]) (touch:=[1]) (news:=[]) (hl2:=[(1,⟨1,x3.1.map (ow eI)⟩)]) (n':=4) (r2:= .own 1 (0+(wr (y8*v1.cols)).toNat) ((wr ((wr (y8+1))*v1.cols)).toNat - (wr (y8*v1.cols)).toNat)) (fJ (⟨v1.rows,v1.cols,x3.1⟩:Mt) y8 v12 hv12) k k ⟨_,_,k,⟨_,_,k,k,⟨_,_,k,k,⟨_,_,k,⟨k,k,k,k⟩,k⟩⟩⟩,⟨_,_,k,k,k⟩⟩ ⟨⟨_,k,k,.inl ⟨k,cJ.plainO _⟩⟩,k,aO⟩ k k k ⟨⟨_,k,k,.inl ⟨k,cJ.plainO _⟩⟩,k,aO⟩ k ⟨k,k,(by simp only [aN,lA,lT,lR,lC,lN]),k⟩ k ⟨k,cJ.tame _ _,aO⟩ k k) ⟨k,k,aO⟩) k<|am k k<|lp k8<|am k k<|oB h λv13 hv13 h=>ae (AEff.pureE (qD (σ:=sg [(0,1)]) (σ':=sg [(1,0)]) (touch:=[1]) (news:=[]) (hl2:=[(1,⟨1,x3.1.map (ow eI)⟩)]) (n':=4) (r2:= .own 1 (0+(wr (y8*v1.cols)).toNat) ((wr ((wr (y8+1))*v1.cols)).toNat - (wr (y8*v1.cols)).toNat)) (fJ (⟨v1.rows,v1.cols,x3.1⟩:Mt) y8 v13 hv13) k k ⟨_,_,k,⟨_,_,k,k,⟨_,_,k,k,⟨_,_,k,⟨k,k,k,k⟩,k⟩⟩⟩,⟨_,_,k,k,k⟩⟩ ⟨⟨_,k,k,.inl ⟨k,cJ.plainO _⟩⟩,k,aO⟩ k k k ⟨⟨_,k,k,.inl ⟨k,cJ.plainO _⟩⟩,k,aO⟩ k ⟨k,k,(by simp only [aN,lA,lT,lR,lC,lN]),k⟩ k ⟨k,cJ.tame _ _,aO⟩ k k) ⟨k,k,aO⟩) k<|am k k<|cG h λq15 h=>oB h λv14 hv14 h=>ae (hY aH q15 k k k k k k k) k<|ae (iZ aH k k k k (rB (hv14)) k k) k<|am k k<|am k k<|cG h λq17 h=>oB h λv16 hv16 h=>ae (hY aH q17 k k k k k k k) k<|ae (iZ aH k k k k (rB (hv16)) k k) k<|cG h λq19 h=>oB h λv18 hv18 h=>ae (hY aH q19 k k k k k k k) k<|ae (iU aH jF (u:=v14) (hv18) k k k k k k) k ?_;exact cG h λq21 h=>oB h λv20 hv20 h=>ae (hY aH q21 k k k k k k k) k<|ae (iU aH jF (u:=v16) (hv20) k k k k k k) k<|an<|sO (by kernel_rfl)<|aZ<|tn<|rg<|ae (bL k k) k<|am k k<|an<|tn<|sp h ⟨_,k,(bW (bK k2) (hX ⟨_,k,k,.inr ⟨_,_,k,⟨_,_,k,k,⟨_,_,k,k,⟨_,_,k,⟨k,k,(by simp only [aN,lA,lT,lR,lC,lN]),k⟩,k⟩⟩⟩,k⟩⟩ k<|bN k<|bT k<|bN k<|aO) k4)⟩
   ·rintro e t ⟨rfl,hent⟩;refine aU<|tn<|aM hent<|sR<|am k k<|am k k<|am k k<|cG h λq24 h=>oB h λv23 hv23 h=>ae (hY aH q24 k k k k k k k) k<|ae (iZ aH k k k k (rB (hv23)) k k) k<|oB h λv25 hv25 h=>ae (aS (aBY a0 v23 v25 hv25) k (cD k (cD k aL))) k<|aT k2<|sQ<|sR<|am k k<|ae (dK aH k k k k) k<|am k k<|an<|tn<|aI<|oB h λy32 hy32 h=>cU (body:=(pH a0 v1 v25 x1)) hy32 (λ(x4:((List Int)×Int))=>mN [(0,.int a0),(3,.ptr 0 0 0),(4,.ptr 2 0 0),(6,.own 3 0 x1.2.2.length),(7,.int x1.1),(9,.own 1 (0+(wr (((x1.2.2.length:Nat):Int)*v1.cols)).toNat) ((wr ((wr (((x1.2.2.length:Nat):Int)+1))*v1.cols)).toNat - (wr (((x1.2.2.length:Nat):Int)*v1.cols)).toNat)),(11,.int v25),(17,.int v1.cols),(18,.int x1.1),(77,.int ((((wr ((wr (((x1.2.2.length:Nat):Int)+1))*v1.cols)).toNat - (wr (((x1.2.2.length:Nat):Int)*v1.cols)).toNat):Nat):Int)),(78,.int x4.2)] [(0,⟨3,[[.int v1.rows,.int v1.cols,.own 1 0 x4.1.length]]⟩),(1,⟨1,x4.1.map (ow eI)⟩),(2,⟨3,[mD]⟩),(3,⟨1,x1.2.2.map (ow eI)⟩)] 4) (λr e t=>e= .exit 6∧Ent t (mN [(0,.int a0),(3,.ptr 0 0 0),(4,.ptr 2 0 0),(6,.own 3 0 x1.2.2.length),(7,.int x1.1),(9,.own 1 (0+(wr (((x1.2.2.length:Nat):Int)*v1.cols)).toNat) ((wr ((wr (((x1.2.2.length:Nat):Int)+1))*v1.cols)).toNat - (wr (((x1.2.2.length:Nat):Int)*v1.cols)).toNat)),(17,.int v1.cols),(18,.int x1.1)] [(0,⟨3,[[.int v1.rows,.int v1.cols,.own 1 0 r.length]]⟩),(1,⟨1,r.map (ow eI)⟩),(2,⟨3,[mD]⟩),(3,⟨1,x1.2.2.map (ow eI)⟩)] 4)) (bW (bK k2) (eB k<|bN k<|bT k<|bN k<|aO) k4) ?_ ?_
    ·intro x4 o h;refine sR<|cm k4<|an<|tn<|sQ<|dQ k h (λ_ h=>?_) λ_ h=>bE<|aC<|aC<|sp h ⟨_,k,k,(bW (bK k2) (eB k<|bN k<|bT k<|bN k<|aO) k4)⟩;refine aP<|tn<|sQ<|aI<|sR<|am k k<|aT k2<|rg<|am k k<|am k k<|am k k<|am k k<|cG h λq28 h=>oB h λv27 hv27 h=>ae (hY aH q28 k k k k k k k) k<|ae (iZ aH k k k k (rB (hv27)) k k) k<|am k k<|ae (gN k k) k<|am k k<|cG h λq31 h=>ae (zG k k q31) k<|cG h λq30 h=>oB h λv29 hv29 h=>ae (hY aH q30 k k k k k k k) k<|ae (iU aH jF (u:=(wr (v27*v25)).tmod a0) (hv29) k k k k k k) k<|an<|aZ<|tn<|rg<|ae (bL k k) k<|am k k ?_;exact an<|tn<|sp h ⟨_,k,(bW (bK k2) (hX ⟨_,k,k,.inr ⟨_,_,k,⟨_,_,k,k,⟨_,_,k,k,⟨_,_,k,⟨k,k,(by simp only [aN,lA,lT,lR,lC,lN]),k⟩,k⟩⟩⟩,k⟩⟩ k<|bN k<|bT k<|bN k<|aO) k4)⟩
    ·rintro e t ⟨rfl,hent⟩;refine aU<|tn<|aM hent<|sQ<|sR<|fp k8<|lp k8<|am k k<|an<|tn<|aI<|oB h λy41 hy41 h=>cU (body:=(pI a0 v1 x1)) hy41 (λ(x5:((List Int)×Int))=>mN [(0,.int a0),(3,.ptr 0 0 0),(4,.ptr 2 0 0),(6,.own 3 0 x1.2.2.length),(7,.int x1.1),(9,.own 1 (0+(wr (((x1.2.2.length:Nat):Int)*v1.cols)).toNat) ((wr ((wr (((x1.2.2.length:Nat):Int)+1))*v1.cols)).toNat - (wr (((x1.2.2.length:Nat):Int)*v1.cols)).toNat)),(17,.int v1.cols),(18,.int x1.1),(94,.int v1.rows),(95,.int x5.2)] [(0,⟨3,[[.int v1.rows,.int v1.cols,.own 1 0 x5.1.length]]⟩),(1,⟨1,x5.1.map (ow eI)⟩),(2,⟨3,[mD]⟩),(3,⟨1,x1.2.2.map (ow eI)⟩)] 4) (λr e t=>e= .exit 8∧Ent t (mN [(0,.int a0),(3,.ptr 0 0 0),(4,.ptr 2 0 0),(6,.own 3 0 x1.2.2.length),(7,.int x1.1),(17,.int v1.cols),(18,.int x1.1)] [(0,⟨3,[[.int v1.rows,.int v1.cols,.own 1 0 r.length]]⟩),(1,⟨1,r.map (ow eI)⟩),(2,⟨3,[mD]⟩),(3,⟨1,x1.2.2.map (ow eI)⟩)] 4)) (bW (bK k2) (eB k<|bN k<|bT k<|bN k<|aO) k4) ?_ ?_
     ·intro x5 o h;refine sR<|cm k4<|an<|tn<|sQ<|dQ k h (λ_ h=>?_) λ_ h=>bE<|aC<|aC<|sp h ⟨_,k,k,(bW (bK k2) (eB k<|bN k<|bT k<|bN k<|aO) k4)⟩;refine aP<|tn<|sQ<|aI<|sR<|am k k<|aT k2<|sR<|am k k<|am k k<|ae (dK aH k k k k) k<|cm k4<|an<|tn<|dQ k h (λ_ h=>?_) λ_ h=>aP<|aZ<|tn<|rg<|ae (bL k k) k<|am k k<|an<|tn<|sp h ⟨_,k,(bW (bK k2) (eB k<|bN k<|bT k<|bN k<|aO) k4)⟩;exact aW iR<|am k k<|lp k8<|am k k<|oB h λv35 hv35 h=>ae (AEff.pureE (qD (σ:=sg [(0,1)]) (σ':=sg [(1,0)]) (touch:=[1]) (news:=[]) (hl2:=[(1,⟨1,x5.1.map (ow eI)⟩)]) (n':=4) (r2:= .own 1 (0+(wr (x5.2*v1.cols)).toNat) ((wr ((wr (x5.2+1))*v1.cols)).toNat - (wr (x5.2*v1.cols)).toNat)) (fJ (⟨v1.rows,v1.cols,x5.1⟩:Mt) x5.2 v35 hv35) k k ⟨_,_,k,⟨_,_,k,k,⟨_,_,k,k,⟨_,_,k,⟨k,k,k,k⟩,k⟩⟩⟩,⟨_,_,k,k,k⟩⟩ ⟨⟨_,k,k,.inl ⟨k,cJ.plainO _⟩⟩,k,aO⟩ k k k ⟨⟨_,k,k,.inl ⟨k,cJ.plainO _⟩⟩,k,aO⟩ k ⟨k,k,(by simp only [aN,lA,lT,lR,lC,lN]),k⟩ k ⟨k,cJ.tame _ _,aO⟩ k k) ⟨k,k,aO⟩) k<|am k k<|lp k8<|am k k<|oB h λv36 hv36 h=>ae (AEff.pureE (qD (σ:=sg [(0,1)]) (σ':=sg [(1,0)]) (touch:=[1]) (news:=[]) (hl2:=[(1,⟨1,x5.1.map (ow eI)⟩)]) (n':=4) (r2:= .own 1 (0+(wr (x5.2*v1.cols)).toNat) ((wr ((wr (x5.2+1))*v1.cols)).toNat - (wr (x5.2*v1.cols)).toNat)) (fJ (⟨v1.rows,v1.cols,x5.1⟩:Mt) x5.2 v36 hv36) k k ⟨_,_,k,⟨_,_,k,k,⟨_,_,k,k,⟨_,_,k,⟨k,k,k,k⟩,k⟩⟩⟩,⟨_,_,k,k,k⟩⟩ ⟨⟨_,k,k,.inl ⟨k,cJ.plainO _⟩⟩,k,aO⟩ k k k ⟨⟨_,k,k,.inl ⟨k,cJ.plainO _⟩⟩,k,aO⟩ k ⟨k,k,(by simp only [aN,lA,lT,lR,lC,lN]),k⟩ k ⟨k,cJ.tame _ _,aO⟩ k k) ⟨k,k,aO⟩) k<|am k k<|cG h λq38 h=>oB h λv37 hv37 h=>ae (hY aH q38 k k k k k k k) k<|ae (iZ aH k k k k (rB (hv37)) k k) k<|ae (lK k k) k<|am k k<|oB h λv39 hv39 h=>ae (qD (σ:=sg [(0,1)]) (σ':=sg [(1,0)]) (touch:=[1]) (news:=[]) (hl2:=[(1,⟨1,v39.map (ow eI)⟩)]) (n':=4) (r2:= .own 1 (0+(wr (x5.2*v1.cols)).toNat) ((wr ((wr (x5.2+1))*v1.cols)).toNat - (wr (x5.2*v1.cols)).toNat)) (xI a0 x5.1 (0+(wr (x5.2*v1.cols)).toNat) ((wr ((wr (x5.2+1))*v1.cols)).toNat - (wr (x5.2*v1.cols)).toNat) (wr (a0 - v37)) (0+(wr (((x1.2.2.length:Nat):Int)*v1.cols)).toNat) ((wr ((wr (((x1.2.2.length:Nat):Int)+1))*v1.cols)).toNat - (wr (((x1.2.2.length:Nat):Int)*v1.cols)).toNat) v39 hv39) k k ⟨_,_,k,k,⟨_,_,k,⟨k,k,k,k⟩,⟨_,_,k,k,⟨_,_,k,⟨k,k,k,k⟩,k⟩⟩⟩⟩ ⟨⟨_,k,k,.inl ⟨k,cJ.plainO _⟩⟩,k,aO⟩ k k k ⟨⟨_,k,k,.inl ⟨k,cJ.plainO _⟩⟩,k,aO⟩ k ⟨k,k,(by simp only [aN,lA,lT,lR,lC,lN]),k⟩ k ⟨k,cJ.tame _ _,aO⟩ k k) k<|cG h λq40 h=>an<|sO (by kernel_rfl)<|aZ<|tn<|rg<|ae (bL k k) k<|am k k<|an<|tn<|sp h ⟨_,k,(bW (bK k2) (hX ⟨_,k,k,.inr ⟨_,_,k,⟨_,_,k,k,⟨_,_,k,k,⟨_,_,k,⟨k,k,(by simp only [aN,lA,lT,lR,lC,lN,of_decide_eq_true q40]),k⟩,k⟩⟩⟩,k⟩⟩ k<|bN k<|bT k<|bN k<|aO) k4)⟩
     ·rintro e t ⟨rfl,hent⟩;exact aU<|tn<|aM hent<|rg<|am k k<|am k k<|ae (wl k) k<|cG h λq42 h=>ae (iJ aH (l:=x1.2.2) (m:=[x1.1]) jF q42 k k k k k k k k k k k k) k<|aa k k<|an<|aZ<|tn<|rg<|ae (bL k k) k<|am k k<|an<|tn<|sp h ⟨_,k,(mP [0,1,2,5] (bK k2) (eB k<|bN k<|bT k<|bN k<|aO) k4)⟩
 ·rintro e t ⟨rfl,hent⟩;exact aU<|tn<|aM hent<|sR<|lp k8<|am k k<|ae (ws k) k<|aT k2<|aB<|sp h (bB k k k (bV k (aX (dO (aG (k) (aG (k) (aG (dY cJ k k) cO)))) (aX (oQ (dY cJ k k)) cP))))
def gH (a0:(List (List Int))) (x1:(Int×Int)):Option ((Int×Int) ⊕ Int):=
 bif decide (x1.2<(a0.length:Int)) then
 ((eF a0 x1.2).bind λv2=>
 bif decide (wr (x1.1+(v2.length:Int))<0) then
 (none)
 else
 (some (.inl (wr (x1.1+(v2.length:Int)),wr (x1.2+1)))))
 else
 (some (.inr x1.1))
def gI (a0:(List (List Int))) (x2:((List Int)×Int)):Option (((List Int)×Int) ⊕ (List Int)):=
 bif decide (x2.2<(a0.length:Int)) then
 ((eF a0 x2.2).bind λv7=>
 bif decide (x2.1.length+v7.length≤4294967296) then
 (some (.inl ((x2.1++v7),wr (x2.2+1))))
 else none)
 else
 (some (.inr x2.1))
def iK (a0:(List (List Int))):Option (List Int):=
 (Lp (gH a0) (0,0)).bind λy4=>
 (aIZ y4).bind λv5=>
 (Lp (gI a0) (v5,0)).bind λy9=>
 some (y9)
theorem wT (a0:(List (List Int))) (r:(List Int)) (h:iK a0=some r):HasC Tryz.prog 172 [.list 1 (a0.map (cW 1 eI))] (.list 1 (r.map eI)):=by
 refine hM [.tmp 2] Tryz.func172 Tryz.ntmps172 k<|sR<|aT k2<|sR<|aT k2<|sQ<|sR<|am k k<|ln k4<|am k k<|an<|tn<|aI<|oB h λy4 hy4 h=>cU (body:=(gH a0)) hy4 (λ(x1:(Int×Int))=>mN [(0,.list 1 (a0.map (cW 1 eI))),(3,.int x1.1),(9,.list 1 (a0.map (cW 1 eI))),(10,.int (a0.length:Int)),(11,.int x1.2)] [] 0) (λr e t=>e= .exit 0∧Ent t (mN [(0,.list 1 (a0.map (cW 1 eI))),(3,.int r)] [] 0)) (bW (bK k2) aO k4) ?_ ?_
 ·intro x1 o h;refine sR<|cm k4<|an<|tn<|sQ<|dQ k h (λ_ h=>?_) λ_ h=>bE<|aC<|aC<|sp h ⟨_,k,k,(bW (bK k2) aO k4)⟩;refine aP<|tn<|sQ<|aI<|sR<|oB h λv2 hv2 h=>ae (xl hv2 k) k<|lr k7<|aT k2<|sR<|am k k<|am k k<|ln k4<|ae (bL k k) k<|aT k2<|sR<|am k k<|cm k4<|an<|tn<|dQ k h (λ_ h=>?_) λ_ h=>aP<|aZ<|tn<|rg<|ae (bL k k) k<|am k k<|an<|tn<|sp h ⟨_,k,(bW (bK k2) aO k4)⟩;refine rg ?_;cases h
 ·rintro e t ⟨rfl,hent⟩;refine aU<|tn<|aM hent<|sR<|am k k<|oB h λv5 hv5 h=>ae (cL cJ (aNk y4 v5 hv5) k3 (aJ aJP (cD k aL))) k<|aT k2<|sQ<|sR<|am k k<|ln k4<|am k k<|an<|tn<|aI<|oB h λy9 hy9 h=>cU (body:=(gI a0)) hy9 (λ(x2:((List Int)×Int))=>mN [(6,.own 0 0 x2.1.length),(25,.list 1 (a0.map (cW 1 eI))),(26,.int (a0.length:Int)),(27,.int x2.2)] [(0,⟨1,x2.1.map (ow eI)⟩)] 1) (λr e t=>e= .exit 2∧Ent t (mN [(6,.own 0 0 r.length)] [(0,⟨1,r.map (ow eI)⟩)] 1)) (bW (bK k2) (bN k<|aO) k4) ?_ ?_
  ·intro x2 o h;exact sR<|cm k4<|an<|tn<|sQ<|dQ k h (λ_ h=>aP<|tn<|sQ<|aI<|sR<|oB h λv7 hv7 h=>ae (xl hv7 k) k<|lr k7<|aT k2<|rg<|am k k<|am k k<|cG h λq8 h=>ae (iJ aH (l:=x2.1) (m:=v7) jF q8 k k k k k k k k k k k k) k<|aa k k<|an<|aZ<|tn<|rg<|ae (bL k k) k<|am k k<|an<|tn<|sp h ⟨_,k,(mP [1] (bK k2) (bN k<|aO) k4)⟩) λ_ h=>bE<|aC<|aC<|sp h ⟨_,k,k,(bW (bK k2) (bN k<|aO) k4)⟩
  ·rintro e t ⟨rfl,hent⟩;exact aU<|tn<|aM hent<|sR<|am k k<|aT k2<|aB<|sp h (bB k k k (qK (dY cJ k k)))
end
noncomputable section
set_option maxRecDepth 10000
set_option maxHeartbeats 4000000
end
noncomputable section
def bI (l:List Int):Prop:=l.length≤1048576
def bQ (q:Qv):Prop:=bI q.src∧bI q.tgt∧True
def bM (m:Mt):Prop:=bI m.cells∧True
def bR (r:Rp):Prop:=bQ r.q∧bI r.dims∧(r.maps.length≤1048576∧ ∀ m∈r.maps,bM m)∧True
def bS (s:Sc):Prop:=(s.basis.length≤1048576∧ ∀ v∈s.basis,bI v)∧True
theorem aDm {α:Type} [DecidableEq α] {body:Int→Option (Int ⊕ (Unit ⊕ Bool))} {a b:List α} (hl:a.length≤4611686018427387904) (hab:a.length=b.length)
  (hs: ∀ (k:Nat) (h1:k<a.length) (h2:k<b.length),body k=some (bif decide (a[k]=b[k]) then .inl (wr (k+1)) else .inr (.inr false))) (he:body a.length=some (.inr (.inl ()))):
  Option.bind (Lp body 0) (λy=>Sum.elim (λ_=>some true) (λy=>some y) y)=some (decide (a=b)):=by
 have key: ∀ (P:Nat→Bool),(∀ (k:Nat) (h1:k<a.length) (h2:k<b.length),P k=decide (a[k]=b[k]))→Lp body 0=some (bif (List.range a.length).all P then .inl () else .inr false)→Option.bind (Lp body 0) (λy=>Sum.elim (λ_=>some true) (λy=>some y) y)=some (decide (a=b)):=by
  intro P hP e;rw [e,aA]
  have:(List.range a.length).all P=decide (a=b):=by
   rw [Bool.eq_iff_iff,nK,iT];constructor
   ·intro h;refine List.ext_getElem hab λk h1 h2=>?_;have:=h k h1;rw [hP k h1 h2] at this;exact of_decide_eq_true this
   ·rintro rfl k hk;rw [hP k hk hk];simp
  rw [this];cases decide (a=b) <;> rfl
 refine key (λk=>if h:k<a.length then if h2:k<b.length then decide (a[k]=b[k]) else false else false) (λk h1 h2=>by rw [dif_pos h1,dif_pos h2]) (vF _ _ hl (λk hk=>?_) (λ_=>he));rw [dif_pos hk,dif_pos (hab▸hk)];exact hs k hk (hab▸hk)
theorem aBa {α β:Type} {a:List α} {b:List β} :decide ((a.length:Int)=(b.length:Int))=decide (a.length=b.length):=by
 rw [Bool.eq_iff_iff,iT,iT];omega
theorem aGN {body:Int→Option (Int ⊕ (Unit ⊕ Bool))} {a b:List Int} (hl:a.length≤4611686018427387904)
  (hb:body=λx=>bif decide (x<(a.length:Int)) then (Option.bind (eF a x) λv3=>Option.bind (eF b x) λv4=>bif !decide (v3=v4) then (some (.inr (.inr (false)))) else (some (.inl (wr (x+1))))) else (some (.inr (.inl ())))):
  (bif !decide ((a.length:Int)=(b.length:Int)) then some false else Option.bind (Lp body 0) (λy=>Sum.elim (λ_=>some true) (λy=>some y) y))=some (decide (a=b)):=by
 rw [aBa];by_cases h:a.length=b.length
 ·rw [bG h,dC,aV];refine aDm hl h (λk h1 h2=>?_) ?_
  ·rw [hb];simp only;rw [nR h1,aQ,eA h1,aA,eA h2,aA];cases decide (a[k]=b[k]) <;> rfl
  ·rw [hb];simp only;rw [qA (bY _),aV]
 ·rw [dU h,Bool.not_false,aQ,dU (by rintro rfl;exact h rfl)]
theorem tQ {c d:Bool} {o:Option Bool} (h:c=true→o=some d):(bif !c then some false else o)=some (c&&d):=by cases c with|false=>rfl|true=>exact h rfl
end
noncomputable section
theorem gX {c d:Bool} {o:Option Bool} (h:c=true→o=some d):(bif c then o else some false)=some (c&&d):=by cases c with|false=>rfl|true=>exact h rfl
theorem vJ {c d:Bool} :(bif c then some d else some false)=some (c&&d):=by cases c <;> rfl
theorem aJR {x a b:Int} :(bif decide (a≤x) then some (decide (x≤b)) else some false)=some (rR x a b):=by
 rw [vJ];unfold rR;by_cases h1:a≤x <;> by_cases h2:x≤b <;> simp [h1,h2]
theorem tR (x a b:Int):gK x a b=some (rR x a b):=aJR
theorem uD (x a b:Int):gA x a b=some (rR x a b):=aJR
theorem aHS (p:Int):(bif decide (p=2) then some true else bif decide (p=3) then some true else some (decide (p=5)))=some (iI p):=by
 unfold iI;by_cases h2:p=2 <;> by_cases h3:p=3 <;> by_cases h5:p=5 <;> simp [h2,h3,h5]
theorem aBb (p:Int):jV p=some (iI p):=aHS p
theorem xV (p:Int):gO p=some (iI p):=aHS p
theorem aDn {a b:List Int} (h:bI a):qE a b=some (decide (a=b)):=by
 unfold bI at h;exact aGN (body:=sW a b) (by omega) rfl
theorem aCK {a b:List Int} (h:bI a):gB a b=some (decide (a=b)):=by
 unfold bI at h;exact aGN (body:=jU a b) (by omega) rfl
theorem aCL {a b:Qv} (h:bQ a):fI a b=some (decide (a=b)):=by
 unfold fI;rw [gX (d:=decide (a.src=b.src)&&decide (a.tgt=b.tgt)) (λ_=>?_)]
 ·cases a;cases b;simp
 ·rw [aDn h.1,aA];refine gX λ_=>?_;rw [aDn h.2.1,aA]
theorem aKI {a b:Qv} (h:bQ a):lO a b=some (decide (a=b)):=by
 unfold lO;rw [gX (d:=decide (a.src=b.src)&&decide (a.tgt=b.tgt)) (λ_=>?_)]
 ·cases a;cases b;simp
 ·rw [aCK h.1,aA];refine gX λ_=>?_;rw [aCK h.2.1,aA]
theorem aFQ (p:Int) {v:List Int} (h:bI v):nH p v=some (iI p&&decide (v.length≤64)&&v.all λx=>rR x 0 (wr (p - 1))):=by
 unfold bI at h;unfold nH;rw [aBb,aA];cases iI p with
 |false=>rfl
 |true=>
  rw [dC,aV,Bool.true_and];by_cases h64:v.length≤64
  ·rw [dU (by omega),aV,bG h64,Bool.true_and];rw [vF (λk=>rR (v[k]?.getD 0) 0 (wr (p - 1))) false (n:=v.length) (by omega) (λk hk=>?_) (λ_=>?_),uV 0 v (λx=>rR x 0 (wr (p - 1))),aA]
   ·cases v.all _ <;> rfl
   ·unfold mS;rw [nR hk,aQ,atG 0 hk,aA,uD,aA];cases rR _ 0 _ <;> rfl
   ·unfold mS;rw [qA (bY _),aV]
  ·rw [bG (by omega),aQ,dU h64,Bool.false_and]
theorem aHT {v:List Int} {f:Int→Option Bool} (P:Int→Bool) (hf: ∀ x,f x=some (P x)) (h:bI v): ∃ i:Int,gG v f=some i∧decide (0≤i)=v.any P:=by
 unfold bI at h;unfold gG;rw [zY (s0:=0) (s:=0) (n:=v.length) (λk=>bif P (v[k]?.getD 0) then some (k:Int) else none) rfl (by omega) (Nat.zero_le _) (λk _ hk=>?_) (λ_=>?_)]
 ·rw [aA];cases e:(List.range' 0 (v.length - 0)).findSome? (λk:Nat=>bif P (v[k]?.getD 0) then some (k:Int) else none) with
  |none=>
   refine ⟨-1,rfl,?_⟩;rw [List.findSome?_eq_none_iff] at e
   have:v.any P=false:=by
    rw [List.any_eq_false];intro x hx;obtain ⟨k,hk,rfl⟩:=List.mem_iff_getElem.1 hx;have:=e k (by simp;omega);simp only [gZ hk,jJ] at this;cases hp:P v[k] with
    |false=>simp
    |true=>rw [hp] at this;cases this
   rw [this];rfl
  |some i=>
   refine ⟨i,rfl,?_⟩;obtain ⟨k,hk,he⟩:=List.exists_of_findSome?_eq_some e;simp at hk;have hkl:k<v.length:=by omega
   rw [gZ hkl] at he;simp only [jJ] at he;cases hp:P v[k] with
   |false=>rw [hp] at he;cases he
   |true=>
    rw [hp] at he;cases he;rw [bG (by omega),eq_comm,List.any_eq_true];exact ⟨_,List.getElem_mem hkl,hp⟩
 ·unfold fE;rw [nR hk,aQ,atG 0 hk,aA,hf,aA];cases P _ <;> rfl
 ·unfold fE;rw [qA (bY _),aV]
theorem wJ {v:List Int} (h:bI v) (a b:Int):iA v a b=some (v.all λx=>rR x a b):=by
 unfold iA hZ;obtain ⟨i,h1,h2⟩:=aHT (f:=λb0=>kB b0 a b) (λx=> !rR x a b) (λx=>by simp only [kB];rw [tR,aA]) h;rw [h1,aA,aA,h2,List.not_any_eq_all_not];simp
theorem aFR (p:Int) {v:List Int} (h:bI v):nI p v=some (iI p&&decide (v.length≤64)&&v.all λx=>rR x 0 (wr (p - 1))):=by
 unfold nI;rw [xV,aA,wJ h,aA,vJ,vJ,Bool.and_assoc];congr 3;rw [Bool.eq_iff_iff,iT,iT];omega
def aAI (p:Int) (m:Mt):Bool:=rR m.rows 0 8&&(rR m.cols 0 8&&(decide ((m.cells.length:Int)=wr (m.rows*m.cols))&&(iI p&&decide (m.cells.length≤64)&&m.cells.all λx=>rR x 0 (wr (p - 1)))))
theorem aKJ (p:Int) {m:Mt} (h:bM m):qN p m=some (aAI p m):=by
 unfold qN aAI;rw [uD,aA];refine gX λ_=>?_;rw [uD,aA];refine gX λ_=>?_;refine gX λ_=>?_;rw [aFQ p h.1,aA]
theorem aKK (p:Int) {m:Mt} (h:bM m):qQ p m=some (aAI p m):=by
 unfold qQ aAI;rw [tR,aA];refine gX λ_=>?_;rw [tR,aA];refine gX λ_=>?_;refine gX λ_=>?_;rw [aFR p h.1,aA]
theorem aAv {p:Int} {m:Mt} (h:aAI p m=true):iI p=true∧ ∃ (r c:Nat) (F:Nat→Nat→Int),r≤8∧c≤8∧m=⟨r,c,dE r c F⟩∧ ∀ i j,i<r→j<c→0≤F i j∧F i j<p:=by
 unfold aAI at h;simp only [cY,iT,List.all_eq_true] at h;obtain ⟨h1,h2,h3,⟨h4,h5⟩,h6⟩:=h;have h1:=fG h1;have h2:=fG h2;refine ⟨h4,m.rows.toNat,m.cols.toNat,λi j=>m.cells[i*m.cols.toNat+j]?.getD 0,by omega,by omega,?_,?_⟩
 ·obtain ⟨a,b,l⟩:=m;simp only at*;obtain ⟨r,rfl⟩:=Int.eq_ofNat_of_zero_le h1.1;obtain ⟨c,rfl⟩:=Int.eq_ofNat_of_zero_le h2.1;have hb:r*c≤64:=Nat.mul_le_mul (by omega:r≤8) (by omega:c≤8);rw [aIP (by omega)] at h3;simp only [fL];rw [←aMd (by omega)]
 ·intro i j hi hj;show 0≤m.cells[i*m.cols.toNat+j]?.getD 0∧m.cells[i*m.cols.toNat+j]?.getD 0<p;have hx:=aJI hi hj
  have e:((m.rows.toNat*m.cols.toNat:Nat):Int)=m.rows*m.cols:=by
   rw [Int.natCast_mul,Int.toNat_of_nonneg h1.1,Int.toNat_of_nonneg h2.1]
  have hb:m.rows.toNat*m.cols.toNat≤64:=Nat.mul_le_mul (by omega:m.rows.toNat≤8) (by omega:m.cols.toNat≤8);rw [dV (by omega)] at h3;have hl:i*m.cols.toNat+j<m.cells.length:=by omega
  have:=fG (h6 _ (List.getElem_mem hl));rw [gZ hl,jJ];have hp:=eP h4;rw [dV (by omega)] at this;omega
def yK (q:Qv):Bool:=rR q.n 1 5&&(decide ((q.src.length:Int)=(q.tgt.length:Int))&&(decide ((q.src.length:Int)≤6)&&((q.src.all λx=>rR x 0 (wr (q.n - 1)))&&(q.tgt.all λx=>rR x 0 (wr (q.n - 1))))))
theorem aMp {q:Qv} (h:bQ q):qR q=some (yK q):=by
 unfold qR yK;rw [tR,aA];refine gX λ_=>gX λ_=>gX λ_=>?_;rw [wJ h.1,aA];refine gX λ_=>?_;rw [wJ h.2.1,aA]
theorem aJS {q:Qv} (h:bQ q):gV q=some (yK q):=by
 obtain ⟨h1,h2,_⟩:=h;unfold bI at h1 h2;unfold gV;rw [vF (n:=min q.src.length q.tgt.length) (λk=>rR (q.src[k]?.getD 0) 0 (wr (q.n - 1))&&rR (q.tgt[k]?.getD 0) 0 (wr (q.n - 1))) false (by omega) (λk hk=>?_) (λ_=>?_)]
 ·rw [aA];unfold yK;by_cases e:q.src.length=q.tgt.length
  ·have e2:min q.src.length q.tgt.length=q.src.length:=by omega
   have hall:(List.range q.src.length).all (λk=>rR (q.src[k]?.getD 0) 0 (wr (q.n - 1))&&rR (q.tgt[k]?.getD 0) 0 (wr (q.n - 1)))=((q.src.all λx=>rR x 0 (wr (q.n - 1)))&&(q.tgt.all λx=>rR x 0 (wr (q.n - 1)))):=by
    rw [←uV 0 q.src,←uV 0 q.tgt,←e];rw [Bool.eq_iff_iff,cY,nK,nK,nK];simp only [cY];exact ⟨λh=>⟨λk hk=>(h k hk).1,λk hk=>(h k hk).2⟩,λh k hk=>⟨h.1 k hk,h.2 k hk⟩⟩
   rw [e2,hall,bG (by omega:(q.src.length:Int)=(q.tgt.length:Int))];cases (q.src.all λx=>rR x 0 (wr (q.n - 1)))&&(q.tgt.all λx=>rR x 0 (wr (q.n - 1))) with
   |false=>simp
   |true=>
    simp only [aQ,Sum.elim_inl];rw [uD,aA,bG (by omega:(q.tgt.length:Int)=(q.src.length:Int)),vJ,vJ];simp
  ·rw [dU (by omega: ¬ (q.src.length:Int)=(q.tgt.length:Int))];simp only [Bool.false_and,Bool.and_false];cases (List.range (min q.src.length q.tgt.length)).all _ with
   |false=>rfl
   |true=>
    simp only [aQ,Sum.elim_inl];rw [uD,aA,dU (by omega: ¬ (q.tgt.length:Int)=(q.src.length:Int)),vJ,vJ];simp
 ·unfold jX;rw [nR (by omega),aQ,nR (by omega),aQ,atG 0 (by omega),aA,uD,aA,atG 0 (by omega),aA,uD,aA];cases rR (q.src[k]?.getD 0) 0 (wr (q.n - 1)) <;> cases rR (q.tgt[k]?.getD 0) 0 (wr (q.n - 1)) <;> rfl
 ·unfold jX;by_cases e:q.src.length≤q.tgt.length
  ·rw [qA (by omega),aV]
  ·rw [nR (by omega),aQ,qA (by omega),aV]
theorem tS {q:Qv} (h:yK q=true): ∃ n:Nat,q.n=n∧1≤n∧n≤5∧q.src.length=q.tgt.length∧q.src.length≤6∧(∀ x∈q.src,0≤x∧x<n)∧ ∀ x∈q.tgt,0≤x∧x<n:=by
 unfold yK at h;simp only [cY,iT,List.all_eq_true] at h;obtain ⟨h1,h2,h3,h4,h5⟩:=h;have h1:=fG h1;rw [dV (by omega)] at h4 h5;refine ⟨q.n.toNat,by omega,by omega,by omega,by omega,by omega,λx hx=>?_,λx hx=>?_⟩
 ·have:=fG (h4 x hx);omega
 ·have:=fG (h5 x hx);omega
def tT (q:Qv) (d:List Int):Bool:=yK q&&(decide ((d.length:Int)=q.n)&&((d.all λx=>rR x 0 4)&&decide (d.sum≤8)))
theorem aLj {d:List Int} (h: ∀ x∈d,0≤x∧x≤4):0≤d.sum∧d.sum≤4*d.length:=by
 induction d with
 |nil=>simp
 |cons x d ih=>
  have h1:=h x (by simp);have h2:=ih λy hy=>h y (by simp [hy]);simp only [List.sum_cons,List.length_cons];omega
theorem aHU {d:List Int} {k:Nat} (hk:k<d.length):(d.take (k+1)).sum=(d.take k).sum +d[k]?.getD 0:=by
 rw [aBE hk,List.sum_append];simp [hk]
theorem aMq {d:List Int} (h: ∀ x∈d,0≤x∧x≤4) (hl:d.length≤1048576):uM d=some d.sum:=by
 unfold uM;rw [fV (r:=d.sum) (λk=>((d.take k).sum,(k:Int))) d.length (by simp) (λk hk=>?_) (λ_=>?_)];rfl
 ·unfold qL;simp only;rw [nR hk,aQ,atG 0 hk,aA,dI hk (by omega)];have h1:=aLj (d:=d.take (k+1)) λx hx=>h x (List.mem_of_mem_take hx);rw [←aHU hk,dV (by simp at h1;omega)]
 ·unfold qL;simp only;rw [qA (bY _),aV,List.take_length]
theorem aIb {q:Qv} {d:List Int} (hq:bQ q) (hd:bI d):rY q d=some (tT q d):=by
 unfold rY tT;rw [aMp hq,aA];refine gX λ_=>gX λ_=>?_;rw [wJ hd,aA];refine gX λh=>?_;rw [aMq (λx hx=>fG (List.all_eq_true.1 h x hx)) hd,aA]
theorem aDo {q:Qv} {d:List Int} (hq:bQ q) (hd:bI d):oS q d=some (tT q d):=by
 unfold bI at hd;unfold oS tT;rw [aJS hq,aA];refine tQ λ_=>tQ λ_=>?_;cases hall:d.all (λx=>rR x 0 4) with
 |true=>
  have hb: ∀ x∈d,0≤x∧x≤4:=λx hx=>fG (List.all_eq_true.1 hall x hx);rw [fV (r:= .inl d.sum) (λk=>((d.take k).sum,(k:Int))) d.length (by simp) (λk hk=>?_) (λ_=>?_)];rfl
  ·unfold iW;simp only;rw [nR hk,aQ,atG 0 hk,aA,uD,aA];have hin:rR (d[k]?.getD 0) 0 4=true:=by rw [gZ hk];exact List.all_eq_true.1 hall _ (List.getElem_mem hk)
   rw [hin,dC,aV,aA,dI hk (by omega)];have h1:=aLj (d:=d.take (k+1)) λx hx=>hb x (List.mem_of_mem_take hx);rw [←aHU hk,dV (by simp at h1;omega)]
  ·unfold iW;simp only;rw [qA (bY _),aV,List.take_length]
 |false=>
  have key:=tD (body:=iW d) (s:=(0,0)) (λs=> ∃ k:Nat,s.2=k∧k≤d.length∧ ∀ j,j<k→rR (d[j]?.getD 0) 0 4=true) (λs=>d.length - s.2.toNat) (λr=>r= .inr false)
   ⟨0,rfl,Nat.zero_le _,λj hj=>absurd hj (Nat.not_lt_zero _)⟩ (λs ⟨k,hs,hk,hj⟩=>?_)
  ·obtain ⟨r,h1,h2⟩:=key;rw [h1,h2];rfl
  ·obtain ⟨t,s2⟩:=s;simp only at hs;subst hs;rcases fA k d.length with hlt|hge
   ·unfold iW;simp only;rw [nR hlt,aQ,atG 0 hlt,aA,uD,aA];cases hin:rR (d[k]?.getD 0) 0 4 with
    |false=>exact .inr ⟨_,rfl,rfl⟩
    |true=>
     rw [dC,aV,aA,dI hlt (by omega)];refine .inl ⟨_,rfl,⟨k+1,rfl,hlt,λj hj2=>?_⟩,by simp;omega⟩;by_cases e:j=k
     ·subst e;exact hin
     ·exact hj j (by omega)
   ·exfalso
    have:d.all (λx=>rR x 0 4)=true:=by
     rw [←uV 0 d,nK];exact λj hj'=>hj j (by omega)
    rw [hall] at this;cases this
theorem zJ {q:Qv} {d:List Int} (h:tT q d=true):yK q=true∧(d.length:Int)=q.n∧(∀ x∈d,0≤x∧x≤4)∧d.sum≤8:=by
 unfold tT at h;simp only [cY,iT,List.all_eq_true] at h;exact ⟨h.1,h.2.1,λx hx=>fG (h.2.2.1 x hx),h.2.2.2⟩
def aAJ (r:Rp):Bool:=iI r.p&&(tT r.q r.dims&&(decide ((r.maps.length:Int)=(r.q.src.length:Int))&&(List.range r.maps.length).all λk=>
 aAI r.p (r.maps[k]?.getD ⟨0,0,[]⟩)&&(decide ((r.maps[k]?.getD ⟨0,0,[]⟩).cols=r.dims[(r.q.src[k]?.getD 0).toNat]?.getD 0)&&decide ((r.maps[k]?.getD ⟨0,0,[]⟩).rows=r.dims[(r.q.tgt[k]?.getD 0).toNat]?.getD 0))))
theorem eK {α:Type} {l:List α} {k:Nat} (d:α) (h:k<l.length):l[k]?.getD d∈l:=by rw [gZ h];exact List.getElem_mem h
theorem aKL {r:Rp} (h:bR r):uO r=some (aAJ r):=by
 obtain ⟨h1,h2,⟨h3,h4⟩,_⟩:=h;unfold uO aAJ;rw [aBb,aA];refine tQ λhF=>?_;rw [aDo h1 h2,aA];refine tQ λhD=>?_;obtain ⟨hQ,hd1,hd2,_⟩:=zJ hD;obtain ⟨n,hn,_,_,hq1,hq2,hq3,hq4⟩:=tS hQ;refine tQ λhL=>?_;have hL:=of_decide_eq_true hL;rw [vF (λk=>aAI r.p (r.maps[k]?.getD ⟨0,0,[]⟩)&&(decide ((r.maps[k]?.getD ⟨0,0,[]⟩).cols=r.dims[(r.q.src[k]?.getD 0).toNat]?.getD 0)&&decide ((r.maps[k]?.getD ⟨0,0,[]⟩).rows=r.dims[(r.q.tgt[k]?.getD 0).toNat]?.getD 0))) false (n:=r.maps.length) (by omega) (λk hk=>?_) (λ_=>?_),aA]
 ·cases (List.range r.maps.length).all _ <;> rfl
 ·have hs:=hq3 _ (eK 0 (show k<r.q.src.length by omega));have ht:=hq4 _ (eK 0 (show k<r.q.tgt.length by omega));unfold qP;rw [nR hk,aQ,atG ⟨0,0,[]⟩ hk,aA,aKJ _ (h4 _ (eK _ hk)),aA,aA,atG 0 (by omega),aA,atI 0 hs.1 (by omega),aA,aA,atG 0 (by omega),aA,atI 0 ht.1 (by omega),aA];cases aAI r.p _ <;> cases decide ((r.maps[k]?.getD _).cols=_) <;> cases decide ((r.maps[k]?.getD _).rows=_) <;> rfl
 ·unfold qP;rw [qA (bY _),aV]
theorem aFS {r:Rp} (h:bR r):rZ r=some (aAJ r):=by
 obtain ⟨h1,h2,⟨h3,h4⟩,_⟩:=h;unfold rZ aAJ;rw [xV,aA];refine tQ λhF=>?_;rw [aIb h1 h2,aA];refine tQ λhD=>?_;obtain ⟨hQ,hd1,hd2,_⟩:=zJ hD;obtain ⟨n,hn,_,_,hq1,hq2,hq3,hq4⟩:=tS hQ;refine tQ λhL=>?_;have hL:=of_decide_eq_true hL;rw [vF (λk=>aAI r.p (r.maps[k]?.getD ⟨0,0,[]⟩)&&(decide ((r.maps[k]?.getD ⟨0,0,[]⟩).cols=r.dims[(r.q.src[k]?.getD 0).toNat]?.getD 0)&&decide ((r.maps[k]?.getD ⟨0,0,[]⟩).rows=r.dims[(r.q.tgt[k]?.getD 0).toNat]?.getD 0))) false (n:=r.maps.length) (by omega) (λk hk=>?_) (λ_=>?_),aA]
 ·cases (List.range r.maps.length).all _ <;> rfl
 ·have hs:=hq3 _ (eK 0 (show k<r.q.src.length by omega));have ht:=hq4 _ (eK 0 (show k<r.q.tgt.length by omega));unfold qS;rw [nR hk,aQ,atG ⟨0,0,[]⟩ hk,aA,aKK _ (h4 _ (eK _ hk)),aA,atG 0 (by omega),aA,atI 0 hs.1 (by omega),aA,atG 0 (by omega),aA,atI 0 ht.1 (by omega),aA];cases aAI r.p _ <;> cases decide ((r.maps[k]?.getD _).cols=_) <;> cases decide ((r.maps[k]?.getD _).rows=_) <;> rfl
 ·unfold qS;rw [qA (bY _),aV]
end
noncomputable section
theorem aIc {a b:Int} (ha:0≤a∧a≤5) (hb:0≤b∧b≤5):0≤a*b∧a*b≤25:=by
 refine ⟨Int.mul_nonneg ha.1 hb.1,?_⟩;have:=Int.mul_le_mul ha.2 hb.2 hb.1 (by decide:(0:Int)≤5);omega
theorem aBc {x p:Int} (hp:iI p=true):0≤x % p∧x % p<p:=by
 have:=eP hp;exact ⟨Int.emod_nonneg _ (by omega),Int.emod_lt_of_pos _ (by omega)⟩
theorem aAC {p x:Int} (hp:iI p=true) (hx: -4611686018427387904≤x∧x≤4611686018427387904):jG p x=some (x % p):=by
 have hb:=eP hp;have hr:=aDa x p (by omega);unfold jG;rw [dU (by omega),Bool.not_false,aQ];rcases aDb x p (by omega) with ⟨h,e⟩|⟨h,e⟩
 ·rw [dU (by omega),aV,e]
 ·rw [bG h,aQ,dV (by omega),e];congr 1;omega
theorem aHV {p x:Int} (hp:iI p=true):pE p x=some (x % p):=by
 have hb:=eP hp;have hr:=aDa x p (by omega);unfold pE;rw [xV,hp,aA,dC,aV,dU (by omega),Bool.not_false,aQ,aQ,dV (by omega),aKB _ _ (by omega)]
theorem aId {p x:Int} (hp:iI p=true) {k:Nat} (hk:k≤1000):qO p x k=some (aGB p (x % p) k):=by
 have hb:=eP hp;unfold qO;rw [xV,hp,aA,dC,aV,tR,wP (by omega) (by omega),aA,dC,aV];rw [fV (r:=aGB p (x % p) k) (λt=>(aGB p (x % p) t,(t:Int))) k (by rfl) (λt ht=>?_) (λ_=>?_),aA]
 ·unfold mW;simp only;have h1:=aJH hp (aBc (x:=x) hp) t;have h2:=aBc (x:=x) hp;have h3:=aIc (a:=aGB p (x % p) t) (b:=x % p) (by omega) (by omega);rw [nR ht,aQ,aHV hp,aA,dU (by omega),Bool.not_false,aQ,dI ht (by omega),dV (by omega),Int.tmod_eq_emod_of_nonneg h3.1];rfl
 ·unfold mW;simp only;rw [qA (bY _),aV]
theorem aKM {p x:Int} (hp:iI p=true):oA p x=some (xC p (x % p)):=by
 have hb:=eP hp;unfold oA xC;rw [xV,hp,aA,dC,aV,dV (by omega)];have e:max (p - 2) 1=(((max (p - 2) 1).toNat:Nat):Int):=by omega
 rw [e,aId hp (by omega),aA,fL]
theorem aKN {p x:Int} (hp:iI p=true) (hx: -4611686018427387904≤x∧x≤4611686018427387904):nZ p x=some (xC p (x % p)):=by
 have hb:=eP hp;have h2:=aBc (x:=x) hp;obtain ⟨n,hn⟩: ∃ n:Nat,p=n:=⟨p.toNat,by omega⟩;unfold nZ;rw [zY (s0:=1) (s:=1) (n:=n) (λk:Nat=>bif decide ((x % p*k) % p=1) then some (k:Int) else none) rfl (by omega) (by omega) (λk h1 hk=>?_) (λ_=>?_),aA]
 ·cases e:(List.range' 1 (n - 1)).findSome? (λk:Nat=>bif decide ((x % p*k) % p=1) then some (k:Int) else none) with
  |none=>
   rw [List.findSome?_eq_none_iff] at e;rw [aLM hp h2 λy h3 h4 h5=>?_];rfl;have:=e y (by simp;omega);rw [bG h5] at this;cases this
  |some i=>
   obtain ⟨k,hk,he⟩:=List.exists_of_findSome?_eq_some e;simp at hk;cases hd:decide ((x % p*k) % p=1) with
   |false=>rw [hd] at he;cases he
   |true=>
    rw [hd] at he;cases he;rw [aMb hp h2 (y:=k) (by omega) (of_decide_eq_true hd)];rfl
 ·unfold kX;have h3:=aIc (a:=x % p) (b:=k) (by omega) (by omega);rw [bG (by omega),aQ,aBb,hp,aA,aQ,aAC hp hx,aA,dV (by omega),aAC hp (by omega),aA];cases decide (x % p*k % p=1) <;> rfl
 ·unfold kX;rw [dU (by omega),aV]
theorem aFT {r c i:Nat} (hi:i<r):(i+1)*c≤r*c:=Nat.mul_le_mul_right c hi
theorem ixw {r c i j:Nat} (hN:r*c≤1048576) (hi:i<r) (hj:j<c):wr (wr ((i:Int)*(c:Int))+(j:Int))=((i*c+j:Nat):Int):=wix (by have:=aJI hi hj;omega)
theorem atT {r c i j:Nat} (hN:r*c≤1048576) (hi:i<r) (hj:j<c) (F:Nat→Nat→Int):eF (dE r c F) (wr (wr ((i:Int)*(c:Int))+(j:Int)))=some (F i j):=by rw [ixw hN hi hj,aMc F hi hj]
theorem aKO {r c i j:Nat} (hN:r*c≤1048576) (hi:i<r) (hj:j<c) (F:Nat→Nat→Int) (v:Int):(dE r c F).set (wr (wr ((i:Int)*(c:Int))+(j:Int))).toNat v=dE r c (aCB F i j v):=by rw [ixw hN hi hj,fL,xD F v hi hj]
theorem sA {r c i:Nat} (hN:r*c≤1048576) (hi:i<r):wr ((i:Int)*(c:Int))=((i*c:Nat):Int):=aIP (by have:= @aFT r c i hi;rw [Nat.succ_mul] at this;omega)
theorem uE {r c i:Nat} (hN:r*c≤1048576) (hr:r≤1048576) (hi:i<r):wr (wr ((i:Int)+1)*(c:Int))=((i*c+c:Nat):Int):=by
 have:= @aFT r c i hi;rw [dI hi (by omega),aIP (by omega),Nat.succ_mul]
def jE (c:Nat) (f:Nat→Int):List Int:=(List.range c).map f
theorem kC (c:Nat) (f:Nat→Int):(jE c f).length=c:=by simp [jE]
theorem aDC {c:Nat} (f:Nat→Int) {j:Nat} (h:j<c):eF (jE c f) (j:Int)=some (f j):=by rw [eA (by rw [kC];exact h)];simp [jE]
theorem aDp {r c i:Nat} (hN:r*c≤1048576) (hr:r≤1048576) (hi:i<r) (F:Nat→Nat→Int):dX ⟨r,c,dE r c F⟩ i=some ():=by
 have:= @aFT r c i hi;rw [Nat.succ_mul] at this;unfold dX;simp only;rw [sA hN hi,uE hN hr hi,jT,bG (by omega),bG (by omega:((i*c:Nat):Int)≤((i*c+c:Nat):Int)),bG (by omega:((i*c+c:Nat):Int)≤((r*c:Nat):Int))];rfl
def aGO (p:Int) (F:Nat→Nat→Int) (i:Nat) (k:Int) (g:Nat→Int):Nat→Nat→Int:=λa b=>if a=i then (F i b+k*g b) % p else F a b
theorem gd (x:Nat):(decide (0≤(x:Int))&&true)=true:=by rw [bG (by omega)];rfl
theorem aMr {p:Int} (hp:iI p=true):(!decide (p=0))=true:=by have:=eP hp;rw [dU (by omega)];rfl
theorem aLk {p:Int} (hp:iI p=true) {r c i:Nat} (hc:c≤1048576) (hi:i<r) {F:Nat→Nat→Int} {g:Nat→Int} {k:Int} (hk:0≤k∧k≤5) (hF: ∀ b,b<c→0≤F i b∧F i b<p) (hg: ∀ b,b<c→0≤g b∧g b<p):
  jY p (dE r c F) (i*c) c k (jE c g)=some (dE r c (aGO p F i k g)):=by
 have hb:=eP hp;unfold jY;rw [fV (r:=dE r c (aGO p F i k g)) (λx=>(dE r c (λa b=>if a=i∧b<x then (F i b+k*g b) % p else F a b),(x:Int))) c (by simp) (λx hx=>?_) (λ_=>?_)];rfl
 ·have h1:=hF x hx;have h2:=hg x hx;have h3:=aIc hk (show 0≤g x∧g x≤5 by omega);unfold kI;simp only;rw [kC,nR hx,aQ,aDC _ hx,aA,gd x,aQ,fL,kV _ hi hx,aA,aMr hp,aQ,aQ,aA,xD _ _ hi hx,dI hx (by omega)];rw [bJ (by omega),dV (x:=k*g x) (by omega),dV (by omega),Int.tmod_eq_emod_of_nonneg (by omega)];congr 3;refine dR λa b ha hb=>?_;simp only [aCB];by_cases e1:a=i∧b=x
  ·obtain ⟨rfl,rfl⟩:=e1;rw [bF ⟨rfl,rfl⟩,bF ⟨rfl,by omega⟩]
  ·rw [bJ e1];by_cases e2:a=i∧b<x
   ·rw [bF e2,bF ⟨e2.1,by omega⟩]
   ·rw [bJ e2,bJ (by omega)]
 ·unfold kI;simp only;rw [kC,qA (bY _),aV];congr 2;refine dR λa b ha hb=>?_;simp only [aGO];by_cases e:a=i
  ·rw [bF ⟨e,hb⟩,bF e]
  ·rw [bJ (by omega),bJ e]
theorem aKP {p:Int} (hp:iI p=true) {r c i j:Nat} (hc:c≤1048576) (hi:i<r) (hj:j<r) (hij:i≠j) {F:Nat→Nat→Int} {k:Int} (hk:0≤k∧k≤5) (hF: ∀ b,b<c→0≤F i b∧F i b<p) (hg: ∀ b,b<c→0≤F j b∧F j b<p):
  iV p (dE r c F) (i*c) c k (j*c) c=some (dE r c (aGO p F i k (F j))):=by
 have hb:=eP hp;unfold iV;rw [fV (r:=dE r c (aGO p F i k (F j))) (λx=>(dE r c (λa b=>if a=i∧b<x then (F i b+k*F j b) % p else F a b),(x:Int))) c (by simp) (λx hx=>?_) (λ_=>?_)];rfl
 ·have h1:=hF x hx;have h2:=hg x hx;have h3:=aIc hk (show 0≤F j x∧F j x≤5 by omega);unfold gP;simp only;rw [nR hx,aQ,gd x,aQ,fL,kV _ hj hx,aA,aQ,kV _ hi hx,aA,aMr hp,aQ,aQ,aA,xD _ _ hi hx,dI hx (by omega)];rw [bJ (by omega),bJ (by omega),dV (x:=k*F j x) (by omega),dV (by omega),Int.tmod_eq_emod_of_nonneg (by omega)];congr 3;refine dR λa b ha hb=>?_;simp only [aCB];by_cases e1:a=i∧b=x
  ·obtain ⟨rfl,rfl⟩:=e1;rw [bF ⟨rfl,rfl⟩,bF ⟨rfl,by omega⟩]
  ·rw [bJ e1];by_cases e2:a=i∧b<x
   ·rw [bF e2,bF ⟨e2.1,by omega⟩]
   ·rw [bJ e2,bJ (by omega)]
 ·unfold gP;simp only;rw [qA (bY _),aV];congr 2;refine dR λa b ha hb=>?_;simp only [aGO];by_cases e:a=i
  ·rw [bF ⟨e,hb⟩,bF e]
  ·rw [bJ (by omega),bJ e]
theorem aLl {r c:Nat} (hN:r*c≤1048576):(decide (0≤wr ((r:Int)*(c:Int)))&&decide (wr ((r:Int)*(c:Int))≤1048576))=true:=by
 rw [aIP (by omega),bG (by omega),bG (by omega)];rfl
theorem aNn {r c:Nat} (hN:r*c≤1048576):wI r c=some ⟨r,c,dE r c λ_ _=>0⟩:=by
 unfold wI;rw [aLl hN,aQ,aIP (by omega),fL,aFC]
theorem aBd {r c:Nat} (hN:r*c≤1048576):nL r c=some ⟨r,c,dE r c λ_ _=>0⟩:=by
 unfold nL;rw [aLl hN,aQ,aIP (by omega),fL,aFC]
end
noncomputable section
def gJ (L:List Nat):List Int:=L.map λt:Nat=>(t:Int)
theorem dP (L:List Nat):(gJ L).length=L.length:=by simp [gJ]
theorem aDq {p:Int} {m:Nat} {F:Nat→Nat→Int} {j:Nat} (h:(bA p m F j).2.length=m): ∀ d,bA p m F (j+d)=bA p m F j
 |0=>rfl
 |d+1=>by
  show gF p m (bA p m F (j+d)) (j+d)=_;rw [aDq h d];unfold gF;rw [bF];rw [h,Nat.sub_self];rfl
def xW (F:Nat→Nat→Int) (a b x:Nat):Nat→Nat→Int:=λi y=>if y<x then rJ F a b i y else F i y
def uQ (p:Int) (F:Nat→Nat→Int) (a:Nat) (s:Int) (x:Nat):Nat→Nat→Int:=λi y=>if y<x then oN p F a s i y else F i y
def jA (p:Int) (F:Nat→Nat→Int) (a j x:Nat):Nat→Nat→Int:=λi c=>if i<x then sP p F a j i c else F i c
theorem aFU {r c a b x:Nat} (F:Nat→Nat→Int):dE r c (aCB (aCB (xW F a b x) a x (F b x)) b x (F a x))=dE r c (xW F a b (x+1)):=by
 refine dR λi y hi hy=>?_;simp only [aCB,xW,rJ];by_cases e:y=x
 ·subst e;simp only [and_true,Nat.lt_irrefl,if_false,Nat.lt_succ_self,if_true];by_cases e1:i=b
  ·rw [bF e1];by_cases e2:i=a
   ·rw [bF e2];subst e1;rw [e2]
   ·rw [bJ e2,bF e1]
  ·rw [bJ e1];by_cases e2:i=a
   ·rw [bF e2,bF e2]
   ·rw [bJ e2,bJ e2,bJ e1]
 ·rw [bJ (by omega),bJ (by omega)];by_cases e1:y<x
  ·rw [bF e1,bF (show y<x+1 by omega)]
  ·rw [bJ e1,bJ (show ¬ y<x+1 by omega)]
theorem aAD {F:Nat→Nat→Int} {a b x i:Nat} :xW F a b x i x=F i x:=by simp [xW]
theorem aDr {p:Int} {F:Nat→Nat→Int} {a x i:Nat} {s:Int} :uQ p F a s x i x=F i x:=by simp [uQ]
theorem aDs {p:Int} {r c a x:Nat} {s:Int} (F:Nat→Nat→Int):dE r c (aCB (uQ p F a s x) a x ((F a x*s) % p))=dE r c (uQ p F a s (x+1)):=by
 refine dR λi y hi hy=>?_;simp only [aCB,uQ,oN];by_cases e:y=x
 ·subst e;simp only [and_true,Nat.lt_irrefl,if_false,Nat.lt_succ_self,if_true]
 ·rw [bJ (by omega)];by_cases e1:y<x
  ·rw [bF e1,bF (show y<x+1 by omega)]
  ·rw [bJ e1,bJ (show ¬ y<x+1 by omega)]
theorem aJT {p r:Int} (hp:iI p=true) (hr:0≤r∧r<p):0≤xC p r∧xC p r<p:=aJH hp hr _
theorem aHW {p:Int} {m n k r:Nat} {F:Nat→Nat→Int} (h:uW p m n F) (hk:k<m) (hr:r<m):uW p m n (rJ F k r):=by
 intro i c hi hc;unfold rJ;split
 ·exact h r c hr hc
 ·split
  ·exact h k c hk hc
  ·exact h i c hi hc
theorem aFV {p:Int} (hp:iI p=true) {m n k:Nat} {s:Int} {F:Nat→Nat→Int} (h:uW p m n F):uW p m n (oN p F k s):=by
 intro i c hi hc;unfold oN;split
 ·exact aBc hp
 ·exact h i c hi hc
theorem aKQ {p:Int} (hp:iI p=true) {m n k j x:Nat} {F:Nat→Nat→Int} (h:uW p m n F):uW p m n (jA p F k j x):=by
 intro i c hi hc;unfold jA sP;split
 ·split
  ·rename_i h1 h2;subst h2;exact h _ c hi hc
  ·exact aBc hp
 ·exact h i c hi hc
theorem aLm {p:Int} (hp:iI p=true) {m n k j x:Nat} {F:Nat→Nat→Int} (hx:x≠k):dE m n (aGO p (jA p F k j x) x (p - F x j) (jA p F k j x k))=dE m n (jA p F k j (x+1)):=by
 refine dR λi c hi hc=>?_;simp only [aGO,jA,sP];by_cases e:i=x
 ·subst e;rw [bF rfl,bJ (Nat.lt_irrefl _),bF (Nat.lt_succ_self _),bJ hx];simp only [if_true,ite_self];rw [show F i c+(p - F i j)*F k c=(F i c - F i j*F k c)+p*F k c by rw [Int.sub_mul];omega,Int.add_mul_emod_self_left]
 ·rw [bJ e];by_cases e1:i<x
  ·rw [bF e1,bF (show i<x+1 by omega)]
  ·rw [bJ e1,bJ (show ¬ i<x+1 by omega)]
theorem aFW {p:Int} {m n k j:Nat} {F:Nat→Nat→Int} :dE m n (jA p F k j k)=dE m n (jA p F k j (k+1)):=by
 refine dR λi c hi hc=>?_;simp only [jA,sP];by_cases e:i<k
 ·rw [bF e,bF (show i<k+1 by omega)]
 ·rw [bJ e];by_cases e1:i=k
  ·subst e1;simp
  ·rw [bJ (show ¬ i<k+1 by omega)]
theorem aDt {p:Int} {F:Nat→Nat→Int} {k r j:Nat} :eT p F k r j=sP p (oN p (rJ F k r) k (xC p (F r j))) k j:=rfl
structure Tb (p:Int) (m n:Nat) (F:Nat→Nat→Int):Prop where
 hp:iI p=true
 hN:m*n≤1048576
 hm:m≤1048576
 hn:n≤1048576
 hi:uW p m n F
theorem aNo {p:Int} {m n:Nat} {F:Nat→Nat→Int} (T:Tb p m n F) {j:Nat} (hj:j<n) (L:List Nat) (hL:L.length≤m) (l:List Int):
  Lp (mG ⟨m,n,l⟩ ((j:Int),dE m n F,gJ L)) (((gJ L).length:Nat):Int)=some ((jK F j (m - L.length) L.length:Nat):Int):=by
 obtain ⟨hp,hN,hm,hn,hi⟩:=T;have hle:= @vG F j (m - L.length) L.length;have hz:= @aAl F j (m - L.length) L.length;have hh:= @zZ F j (m - L.length) L.length;generalize jK F j (m - L.length) L.length=r at*;rw [dP];refine fV (λt=>((L.length+t:Nat):Int)) (r - L.length) (by simp) (λt ht=>?_) (λ_=>?_)
 ·unfold mG;simp only
  rw [nR (by omega),aQ,aDp hN hm (by omega),aA,sA hN (by omega),uE hN hm (by omega),fL,fL,Nat.add_sub_cancel_left,nR hj,gd,aQ,Nat.zero_add,fL,kV _ (by omega) hj,aA,
   hz _ (by omega) (by omega),bG rfl,aQ,dI (n:=m) (by omega) (by omega),Nat.add_assoc]
 ·rw [show L.length+(r - L.length)=r by omega];unfold mG;simp only;rcases fA r m with h|h
  ·rw [nR h,aQ,aDp hN hm h,aA,sA hN h,uE hN hm h,fL,fL,Nat.add_sub_cancel_left,nR hj,gd,aQ,Nat.zero_add,fL,kV _ h hj,aA,
    dU (hh (by omega)),aV]
  ·rw [qA h,aV]
theorem aMs {p:Int} {m n:Nat} {F:Nat→Nat→Int} (T:Tb p m n F) {j:Nat} (hj:j<n) (L:List Nat) (hL:L.length≤m) (l:List Int):
  mH p ⟨m,n,l⟩ ((j:Int),dE m n F,gJ L)=some (.inl (((j+1:Nat):Int),dE m n (gF p m (F,L) j).1,gJ (gF p m (F,L) j).2)):=by
 have hpv:=aNo T hj L hL l;obtain ⟨hp,hN,hm,hn,hi⟩:=T;have hb:=eP hp;have hle:= @vG F j (m - L.length) L.length;unfold mH gF;simp only;rw [nR hj,aQ,hpv,aA,dI hj (by omega)];clear hpv;generalize jK F j (m - L.length) L.length=r at*;by_cases hr:r=m
 ·rw [bG (by omega),aQ,bF hr]
 ·rw [dU (by omega),aV,bJ hr];have hk:L.length<m:=by omega
  have hrm:r<m:=by omega
  simp only [dP];rw [aDp hN hm hk,aA,sA hN hk,uE hN hm hk];simp only [fL,Nat.add_sub_cancel_left,Nat.zero_add];rw [fV (r:=dE m n (rJ F L.length r)) (λx=>(dE m n (xW F L.length r x),(x:Int))) n ?_ (λx hx=>?_) (λ_=>?_),aA,nR hj,gd,aQ,kV _ hk hj,aA]
  ·have e1:rJ F L.length r L.length j=F r j:=by simp [rJ]
   have hrj:=hi r j hrm hj;rw [e1,aKM hp,aA,Int.emod_eq_of_lt hrj.1 hrj.2];have hs:=aJT hp hrj;rw [aDt];generalize xC p (F r j)=s at*;have h1:=aHW hi hk hrm;generalize rJ F L.length r=F1 at*;rw [fV (r:=dE m n (oN p F1 L.length s)) (λx=>(dE m n (uQ p F1 L.length s x),(x:Int))) n ?_ (λx hx=>?_) (λ_=>?_),aA]
   ·have h2:=aFV hp (k:=L.length) (s:=s) h1;generalize oN p F1 L.length s=F2 at*;rw [fV (r:=dE m n (sP p F2 L.length j)) (λx=>(dE m n (jA p F2 L.length j x),(x:Int))) m ?_ (λx hx=>?_) (λ_=>?_),aA]
    ·rw [bG (by simp;omega),aQ];simp [gJ]
    ·congr 1
    ·unfold pI;simp only [dP];rw [nR hx,aQ];by_cases hxk:x=L.length
     ·rw [bG (by omega),dC,aV,dI hx (by omega),hxk,aFW]
     ·rw [dU (by omega),Bool.not_false,aQ,aDp hN hm hx,aA,aA,sA hN hx,uE hN hm hx,sA hN hk,uE hN hm hk];simp only [fL,Nat.add_sub_cancel_left,Nat.zero_add];rw [nR hj,gd,aQ,kV _ hx hj,aA];have e2:jA p F2 L.length j x x j=F2 x j:=by simp [jA]
      have h3:=h2 x j hx hj;have h4:=aKQ hp (k:=L.length) (j:=j) (x:=x) h2;rw [e2,dV (by omega),aKP hp hn hx hk hxk (by omega) (λb hb=>h4 _ b hx hb) (λb hb=>h4 _ b hk hb),aA,jT,jT,bG rfl,aQ,dI hx (by omega),aLm hp hxk]
    ·unfold pI;simp only;rw [qA (bY _),aV];congr 2;exact dR λa b ha hb=>by simp only [jA];rw [bF ha]
   ·congr 1
   ·unfold pH;simp only [dP];rw [sA hN hk,uE hN hm hk];simp only [fL,Nat.add_sub_cancel_left,Nat.zero_add];have g1:=h1 _ x hk hx;have g2:=aIc (a:=F1 L.length x) (b:=s) (by omega) (by omega);rw [nR hx,aQ,gd,aQ,kV _ hk hx,aA,aMr hp,aQ,aQ,aA,aDr,dV (by omega),Int.tmod_eq_emod_of_nonneg g2.1,xD _ _ hk hx,dI hx (by omega),aDs]
   ·unfold pH;simp only [dP];rw [sA hN hk,uE hN hm hk];simp only [fL,Nat.add_sub_cancel_left,Nat.zero_add];rw [qA (bY _),aV];congr 2;exact dR λa b ha hb=>by simp only [uQ];rw [bF hb]
  ·congr 1
  ·unfold pG;simp only [dP];rw [nR hx,aQ,aDp hN hm hrm,aA,aA,sA hN hk,uE hN hm hk,sA hN hrm,uE hN hm hrm];simp only [fL,Nat.add_sub_cancel_left,Nat.zero_add];rw [nR hx,gd,aQ,kV _ hrm hx,aA,aQ,kV _ hk hx,aA,aQ,aA,aQ,xD _ _ hk hx,kV _ hrm hx,aA,xD _ _ hrm hx,aAD,aAD,dI hx (by omega),aFU]
  ·unfold pG;simp only;rw [qA (bY _),aV];congr 2;exact dR λa b ha hb=>by simp only [xW];rw [bF hb]
theorem aBe {p:Int} {m n:Nat} {F:Nat→Nat→Int} (T:Tb p m n F):qF p ⟨m,n,dE m n F⟩=some (⟨m,n,dE m n (bA p m F n).1⟩,gJ (bA p m F n).2):=by
 have hN:=T.hN;have hn:=T.hn;unfold qF pW aBV;simp only;rw [jT,bG hN,aQ,aA,aA];simp only;rw [fV (r:=(dE m n (bA p m F n).1,gJ (bA p m F n).2)) (λj=>((j:Int),dE m n (bA p m F j).1,gJ (bA p m F j).2)) n (by simp [bA,gJ]) (λj hj=>?_) (λ_=>?_),aA]
 ·show _=some (Sum.inl (((j+1:Nat):Int),dE m n (gF p m (bA p m F j) j).1,gJ (gF p m (bA p m F j) j).2):(Int×List Int×List Int) ⊕ (List Int×List Int));exact aMs ⟨T.hp,T.hN,T.hm,T.hn,oO (by have:=eP T.hp;omega) T.hi j⟩ hj _ (mB j) _
 ·unfold mH;simp only;rw [qA (bY _),aV]
theorem aNp {p:Int} {m n:Nat} {F:Nat→Nat→Int} (T:Tb p m n F) {j:Nat} (hj:j<n) (L:List Nat) (hL:L.length<m) (l:List Int):
  Lp (jZ ⟨m,n,l⟩ ((j:Int),dE m n F,gJ L,(L.length:Int))) (-1,wr ((m:Int) - 1))=some (if jK F j (m - L.length) L.length=m then -1 else ((jK F j (m - L.length) L.length:Nat):Int)):=by
 obtain ⟨hp,hN,hm,hn,hi⟩:=T;refine fV (λt=>(if jK F j t (m - t)=m then -1 else ((jK F j t (m - t):Nat):Int),((m - t:Nat):Int) - 1)) (m - L.length) ?_ (λt ht=>?_) (λ_=>?_)
 ·simp only [jK,Nat.sub_zero,if_true];rw [dV (by omega)]
 ·unfold jZ;simp only;have e:((m - t:Nat):Int) - 1=((m - (t+1):Nat):Int):=by omega
  have hi2:m - (t+1)<m:=by omega
  rw [e,bG (by omega),aQ,atT hN hi2 hj,aA,dV (x:=((m - (t+1):Nat):Int) - 1) (by omega)]
  have ep:jK F j (t+1) (m - (t+1))=if F (m - (t+1)) j=0 then jK F j t (m - t) else m - (t+1):=by
   rw [jK,show m - (t+1)+1=m - t by omega]
  rw [ep];by_cases h:F (m - (t+1)) j=0
  ·rw [bG h,dC,aV,bF h]
  ·rw [dU h,Bool.not_false,aQ,bJ h,bJ (by omega)]
 ·rw [show m - (m - L.length)=L.length by omega];unfold jZ;simp only;rw [dU (by omega),aV]
theorem aMt {p:Int} {m n:Nat} {F:Nat→Nat→Int} (T:Tb p m n F) {j:Nat} (hj:j<n) (L:List Nat) (hL:L.length<m) (l:List Int):
  fX p ⟨m,n,l⟩ ((j:Int),dE m n F,gJ L,(L.length:Int))=some (.inl (((j+1:Nat):Int),dE m n (gF p m (F,L) j).1,gJ (gF p m (F,L) j).2,((gF p m (F,L) j).2.length:Int))):=by
 have hpv:=aNp T hj L hL l;obtain ⟨hp,hN,hm,hn,hi⟩:=T;have hb:=eP hp;have hle:= @vG F j (m - L.length) L.length;unfold fX gF;simp only;rw [nR hj,aQ,nR hL,aQ,hpv,aA,dI hj (by omega)];clear hpv;generalize jK F j (m - L.length) L.length=r at*;have hk:L.length<m:=hL;by_cases hr:r=m
 ·rw [bF hr,bF hr,bG (by omega),aQ]
 ·rw [bJ hr,bJ hr,dU (by omega),aV];have hrm:r<m:=by omega
  rw [fV (r:=dE m n (rJ F L.length r)) (λx=>(dE m n (xW F L.length r x),(x:Int))) n ?_ (λx hx=>?_) (λ_=>?_),aA,atT hN hk hj,aA]
  ·have e1:rJ F L.length r L.length j=F r j:=by simp [rJ]
   have hrj:=hi r j hrm hj;rw [e1,aKN hp (by omega),aA,Int.emod_eq_of_lt hrj.1 hrj.2];have hs:=aJT hp hrj;rw [aDt];generalize xC p (F r j)=s at*;have h1:=aHW hi hk hrm;generalize rJ F L.length r=F1 at*;rw [fV (r:=dE m n (oN p F1 L.length s)) (λx=>(dE m n (uQ p F1 L.length s x),(x:Int))) n ?_ (λx hx=>?_) (λ_=>?_),aA]
   ·have h2:=aFV hp (k:=L.length) (s:=s) h1;generalize oN p F1 L.length s=F2 at*;rw [fV (r:=dE m n (sP p F2 L.length j)) (λx=>(dE m n (jA p F2 L.length j x),(x:Int))) m ?_ (λx hx=>?_) (λ_=>?_),aA]
    ·rw [dP,bG (by simp;omega),aQ,dI hk (by omega)];simp [gJ]
    ·congr 1
    ·unfold mV;simp only;rw [nR hx,aQ,atT hN hx hj,aA,dI hx (by omega)];have e2:jA p F2 L.length j x x j=F2 x j:=by simp [jA]
     rw [e2];by_cases hxk:x=L.length
     ·rw [pB (r:=dE m n (jA p F2 L.length j x)) ?_,aA,hxk,aFW];unfold kA;simp only;rcases Nat.eq_zero_or_pos n with h0|h0
      ·omega
      ·rw [bG (by omega),aQ,bG (by omega),dC,aV]
     ·rw [fV (r:=dE m n (jA p F2 L.length j (x+1))) (λy=>(dE m n (λa c=>if a=x∧c<y then sP p F2 L.length j x c else jA p F2 L.length j x a c),(y:Int))) n (by simp) (λy hy=>?_) (λ_=>?_),aA]
      ·unfold kA;simp only;rw [nR hy,aQ,dU (by omega),Bool.not_false,aQ,atT hN hx hy,aA,atT hN hk hy,aA];have e3:jA p F2 L.length j x x y=F2 x y:=by simp [jA]
       have e4:jA p F2 L.length j x L.length y=F2 L.length y:=by simp [jA,sP]
       rw [bJ (by omega),bJ (by omega),e3,e4];have g1:=h2 x j hx hj;have g2:=h2 L.length y hk hy;have g3:=h2 x y hx hy;have g4:=aIc (a:=F2 x j) (b:=F2 L.length y) (by omega) (by omega);rw [dV (x:=F2 x j*F2 L.length y) (by omega),dV (x:=F2 x y - F2 x j*F2 L.length y) (by omega),aAC hp (by omega),aA,aA,aKO hN hx hy,dI hy (by omega)];congr 3;refine dR λa c ha hc=>?_;simp only [aCB];by_cases e5:a=x∧c=y
       ·rw [bF e5,bF (by omega),e5.2];simp only [sP];rw [bJ hxk]
       ·rw [bJ e5];by_cases e6:a=x∧c<y
        ·rw [bF e6,bF (by omega)]
        ·rw [bJ e6,bJ (by omega)]
      ·unfold kA;simp only;rw [qA (bY _),aV];congr 2;refine dR λa c ha hc=>?_;simp only [jA];by_cases e5:a=x
       ·rw [bF ⟨e5,hc⟩,bF (by omega),e5]
       ·rw [bJ (by omega)];by_cases e6:a<x
        ·rw [bF e6,bF (by omega)]
        ·rw [bJ e6,bJ (by omega)]
    ·unfold mV;simp only;rw [qA (bY _),aV];congr 2;exact dR λa b ha hb=>by simp only [jA];rw [bF ha]
   ·congr 1
   ·unfold mU;simp only;have g1:=h1 _ x hk hx;have g2:=aIc (a:=F1 L.length x) (b:=s) (by omega) (by omega);rw [nR hx,aQ,atT hN hk hx,aA,aDr,Int.mul_comm,dV (by omega),aAC hp (by omega),aA,aA,aKO hN hk hx,dI hx (by omega),aDs]
   ·unfold mU;simp only;rw [qA (bY _),aV];congr 2;exact dR λa b ha hb=>by simp only [uQ];rw [bF hb]
  ·congr 1
  ·unfold mT;simp only;rw [nR hx,aQ,atT hN hk hx,aA,atT hN hrm hx,aA,aA,aKO hN hk hx,atT hN hrm hx,aA,aKO hN hrm hx,aAD,aAD,dI hx (by omega),aFU]
  ·unfold mT;simp only;rw [qA (bY _),aV];congr 2;exact dR λa b ha hb=>by simp only [xW];rw [bF hb]
theorem xX {p:Int} {m n:Nat} {F:Nat→Nat→Int} (T:Tb p m n F):kT p ⟨m,n,dE m n F⟩=some (⟨m,n,dE m n (bA p m F n).1⟩,gJ (bA p m F n).2):=by
 have hN:=T.hN;have hn:=T.hn;unfold kT wS;simp only;rw [jT,bG (by simp;omega),aQ,aA];simp only [List.nil_append]
 obtain ⟨r,h1,h2⟩: ∃ r,Lp (fX p ⟨m,n,dE m n F⟩) (0,dE m n F,[],0)=some r∧r=(dE m n (bA p m F n).1,gJ (bA p m F n).2):=by
  refine tD (λs=> ∃ j:Nat,j≤n∧s=((j:Int),dE m n (bA p m F j).1,gJ (bA p m F j).2,((bA p m F j).2.length:Int))) (λs=>n - s.1.toNat) _ ⟨0,Nat.zero_le _,by simp [bA,gJ]⟩ ?_;rintro s ⟨j,hj,rfl⟩;rcases fA j n with hlt|hge
  ·have hlen:= @mB p m F j;rcases fA (bA p m F j).2.length m with hl|hl
   ·refine .inl ⟨_,aMt ⟨T.hp,T.hN,T.hm,T.hn,oO (by have:=eP T.hp;omega) T.hi j⟩ hlt _ hl _,⟨j+1,hlt,rfl⟩,?_⟩;simp;omega
   ·refine .inr ⟨_,?_,rfl⟩;unfold fX;simp only;have e:=aDq (p:=p) (F:=F) (j:=j) (by omega:(bA p m F j).2.length=m) (n - j);rw [show j+(n - j)=n by omega] at e;rw [nR hlt,aQ,qA hl,aV,e]
  ·have e:j=n:=by omega
   subst e;refine .inr ⟨_,?_,rfl⟩;unfold fX;simp only;rw [qA (bY _),aV]
 rw [h1,h2,aA]
end
noncomputable section
set_option maxRecDepth 10000
set_option maxHeartbeats 4000000
def kK (v1:Mt) (v3:(List Int)) (x1:((List Int)×Int)) (x2:((List Int)×Int)):Option (((List Int)×Int) ⊕ (List Int)):=
 bif decide (x2.2<(v3.length:Int)) then
 ((eF v3 x2.2).bind λv5=>
 (eF x2.1 (wr ((wr (x2.2*v1.cols))+x1.2))).bind λv6=>
 some (.inl ((x2.1.set ((wr ((wr (x2.2*v1.cols))+x1.2)).toNat) v5),wr (x2.2+1))))
 else
 (some (.inr x2.1))
def kL (a1:(List (List Int))) (v1:Mt) (x1:((List Int)×Int)):Option (((List Int)×Int) ⊕ (List Int)):=
 bif decide (x1.2<(a1.length:Int)) then
 ((eF a1 x1.2).bind λv3=>
 (Lp (kK v1 v3 x1) (x1.1,0)).bind λy7=>
 some (.inl (y7,wr (x1.2+1))))
 else
 (some (.inr x1.1))
def iB (a0:Int) (a1:(List (List Int))):Option Mt:=
 (wI a0 (a1.length:Int)).bind λv1=>
 (Lp (kL a1 v1) (v1.cells,0)).bind λy8=>
 some ((⟨v1.rows,v1.cols,y8⟩:Mt))
theorem vK (a0:Int) (a1:(List (List Int))) (r:Mt) (h:iB a0 a1=some r):HasC Tryz.prog 119 [.int a0,.list 1 (a1.map (cW 1 eI))] (.agg (eM r)):=by
 refine hM [.cell 4 81] Tryz.func119 Tryz.ntmps119 k<|sR<|ae (aY aH k k) k<|an<|tn<|sR<|am k k<|am k k<|ln k4<|oB h λv1 hv1 h=>ae (cM (aHR a0 (a1.length:Int) v1 hv1) k3 (cD k (cD k aL))) k<|ae (aY aH k k) k<|ae (ws k) k<|an<|tn<|sQ<|sR<|am k k<|ln k4<|am k k<|an<|tn<|aI<|oB h λy8 hy8 h=>cU (body:=(kL a1 v1)) hy8 (λ(x1:((List Int)×Int))=>mN [(4,.ptr 0 0 0),(5,.ptr 1 0 0),(14,.list 1 (a1.map (cW 1 eI))),(15,.int (a1.length:Int)),(16,.int x1.2)] [(0,⟨3,[mD]⟩),(1,⟨3,[[.int v1.rows,.int v1.cols,.own 2 0 x1.1.length]]⟩),(2,⟨1,x1.1.map (ow eI)⟩)] 3) (λr e t=>e= .exit 0∧Ent t (mN [(4,.ptr 0 0 0),(5,.ptr 1 0 0)] [(0,⟨3,[mD]⟩),(1,⟨3,[[.int v1.rows,.int v1.cols,.own 2 0 r.length]]⟩),(2,⟨1,r.map (ow eI)⟩)] 3)) (mP [0,2,1] (bK k2) (bT k<|eB k<|bN k<|aO) k4) ?_ ?_
 ·intro x1 o h;refine sR<|cm k4<|an<|tn<|sQ<|dQ k h (λ_ h=>?_) λ_ h=>bE<|aC<|aC<|sp h ⟨_,k,k,(bW (bK k2) (bT k<|eB k<|bN k<|aO) k4)⟩;refine aP<|tn<|sQ<|aI<|sR<|am k k<|oB h λv3 hv3 h=>ae (xl hv3 k) k<|lr k7<|aa k k<|aT k2<|sR<|am k k<|ln k4<|am k k<|an<|tn<|aI<|oB h λy7 hy7 h=>cU (body:=(kK v1 v3 x1)) hy7 (λ(x2:((List Int)×Int))=>mN [(4,.ptr 0 0 0),(5,.ptr 1 0 0),(6,.int x1.2),(14,.list 1 (a1.map (cW 1 eI))),(15,.int (a1.length:Int)),(16,.int x1.2),(21,.list 1 (v3.map eI)),(22,.int (v3.length:Int)),(23,.int x2.2)] [(0,⟨3,[mD]⟩),(1,⟨3,[[.int v1.rows,.int v1.cols,.own 2 0 x2.1.length]]⟩),(2,⟨1,x2.1.map (ow eI)⟩)] 3) (λr e t=>e= .exit 2∧Ent t (mN [(4,.ptr 0 0 0),(5,.ptr 1 0 0),(14,.list 1 (a1.map (cW 1 eI))),(15,.int (a1.length:Int)),(16,.int x1.2)] [(0,⟨3,[mD]⟩),(1,⟨3,[[.int v1.rows,.int v1.cols,.own 2 0 r.length]]⟩),(2,⟨1,r.map (ow eI)⟩)] 3)) (bW (bK k2) (bT k<|eB k<|bN k<|aO) k4) ?_ ?_
  ·intro x2 o h;refine sR<|cm k4<|an<|tn<|sQ<|dQ k h (λ_ h=>?_) λ_ h=>bE<|aC<|aC<|sp h ⟨_,k,k,(bW (bK k2) (bT k<|eB k<|bN k<|aO) k4)⟩;refine aP<|tn<|sQ<|aI<|sR<|am k k<|oB h λv5 hv5 h=>ae (xl hv5 k) k<|lr k7<|aa k k<|aT k2<|rg<|fp k8<|lp k8<|am k k<|fp k8<|lp k8<|ae (gN k k) k<|am k k<|ae (bL k k) k<|am k k<|oB h λv6 hv6 h=>ae (xo hv6 k) k<|ae (iU aH jF (u:=v5) (gW hv6) k k k k k k) k<|an<|aZ<|tn<|rg ?_;exact ae (bL k k) k<|am k k<|an<|tn<|sp h ⟨_,k,(bW (bK k2) (bT k<|hX ⟨_,k,k,.inr ⟨_,_,k,⟨_,_,k,k,⟨_,_,k,k,⟨_,_,k,⟨k,k,(by simp only [aN,lA,lT,lR,lC,lN]),k⟩,k⟩⟩⟩,k⟩⟩ k<|bN k<|aO) k4)⟩
  ·rintro e t ⟨rfl,hent⟩;exact aU<|aZ<|tn<|aM hent<|rg<|ae (bL k k) k<|am k k<|an<|tn<|sp h ⟨_,k,(bW (bK k2) (bT k<|eB k<|bN k<|aO) k4)⟩
 ·rintro e t ⟨rfl,hent⟩;exact aU<|tn<|aM hent<|sR<|lp k8<|ae (ws k) k<|an<|tn<|aB<|sp h (bB k k k (rT (aG (k) (aG (k) (aG (dY cJ k k) cO)))))
def mY (a0:Int) (v1:(Mt×(List Int))) (x1:(Int×(List (List Int)))) (x2:((List Int)×Int)):Option (((List Int)×Int) ⊕ (List Int)):=
 bif decide (x2.2<((v1.2.length:Nat):Int)) then
 ((eF v1.2 x2.2).bind λv7=>
 (eF v1.1.cells (wr ((wr (x2.2*v1.1.cols))+x1.1))).bind λv8=>
 (jG a0 (wr (-v8))).bind λv9=>
 (eF x2.1 v7).bind λv10=>
 some (.inl ((x2.1.set v7.toNat v9),wr (x2.2+1))))
 else
 (some (.inr x2.1))
def mZ (a0:Int) (v1:(Mt×(List Int))) (x1:(Int×(List (List Int)))):Option ((Int×(List (List Int))) ⊕ (List (List Int))):=
 bif decide (x1.1<v1.1.cols) then
 ((uN v1.2 x1.1).bind λv3=>
 bif v3 then
 (some (.inl (wr (x1.1+1),x1.2)))
 else
 (bif (decide (0≤v1.1.cols)&&decide (v1.1.cols≤1048576)) then
 ((eF (List.replicate v1.1.cols.toNat (0:Int)) x1.1).bind λv5=>
 (Lp (mY a0 v1 x1) (((List.replicate v1.1.cols.toNat (0:Int)).set x1.1.toNat 1),0)).bind λy11=>
 bif decide (x1.2.length+1≤4294967296) then
 (some (.inl (wr (x1.1+1),(x1.2++[y11]))))
 else none)
 else none))
 else
 (some (.inr x1.2))
def qT (a0:Int) (a1:Mt):Option (List (List Int)):=
 (kT a0 a1).bind λv1=>
 (Lp (mZ a0 v1) (0,([]:(List (List Int))))).bind λy14=>
 some (y14)
theorem aCr (a0:Int) (a1:Mt) (r:(List (List Int))) (h:qT a0 a1=some r):HasC Tryz.prog 191 [.int a0,.agg (eM a1)] (.list 1 (r.map (cW 1 eI))):=by
 refine hM [.tmp 4] Tryz.func191 Tryz.ntmps191 k<|sR<|ae (wb k) k<|aT k2<|sR<|am k k<|lp k8<|oB h λv1 hv1 h=>ae (AEff.conv (cH (x:= .tuple [.agg [.int v1.1.rows,.int v1.1.cols,.own 1 0 (v1.1.cells.map eI).length],.own 2 0 (v1.2.map eI).length]) (nb:=[(1,⟨1,bZ (v1.1.cells.map eI)⟩),(2,⟨1,bZ (v1.2.map eI)⟩)]) (uC a0 a1 v1 hv1) k (by rfl) k k (bC (aR aO (aR aO (aR (cJ.good _) dJ))) (bC (cJ.good _) dS)) (cD k (aJ (fK k) aL))) (v':= .tuple [.agg [.int v1.1.rows,.int v1.1.cols,.own 1 0 v1.1.cells.length],.own 2 0 v1.2.length]) (ed':=[(1,some ⟨1,v1.1.cells.map (ow eI)⟩),(2,some ⟨1,v1.2.map (ow eI)⟩)]) (by simp only [aN]) (eG (nb':=[(1,⟨1,v1.1.cells.map (ow eI)⟩),(2,⟨1,v1.2.map (ow eI)⟩)]) (by simp only [cI]))) k<|am k k<|ae (aE k k (by intro _ h;cases h)) k<|ae (aE k k (by intro _ h;cases h)) k<|ae (aY aH k k) k<|ae (ws k) k<|aT k2<|sR<|ae (wl k) k<|aT k2<|aM (t:=mN [(0,.int a0),(5,.ptr 3 0 0),(6,.own 2 0 v1.2.length),(7,.own 4 0 (([]:(List (List Int))).length))] [(1,⟨1,v1.1.cells.map (ow eI)⟩),(2,⟨1,v1.2.map (ow eI)⟩),(3,⟨3,[oMt v1.1 1]⟩),(4,⟨1,List.map (ow (cW 1 eI)) ([]:(List (List Int)))⟩)] 5) (bW (uA 3 k2 (sJ ⟨_,k,⟨k,k,(by simp only [aN,lA,lT,lR,lC,lN]),k⟩⟩ aO)) (bN k<|bN k<|eB k<|eD (cA.plainO _) k<|aO) k4)<|sQ<|sR ?_;refine aT k2<|aI<|oB h λy14 hy14 h=>cU (body:=(mZ a0 v1)) hy14 (λ(x1:(Int×(List (List Int))))=>mN [(0,.int a0),(5,.ptr 0 0 0),(6,.own 2 0 v1.2.length),(7,.own 3 0 x1.2.length),(8,.int x1.1)] [(0,⟨3,[oMt v1.1 1]⟩),(1,⟨1,v1.1.cells.map (ow eI)⟩),(2,⟨1,v1.2.map (ow eI)⟩),(3,⟨1,x1.2.map (ow (cW 1 eI))⟩)] 4) (λr e t=>e= .exit 0∧Ent t (mN [(7,.own 0 0 r.length)] [(0,⟨1,r.map (ow (cW 1 eI))⟩)] 1)) (mP [3,1,2,4] (bK k2) (eB k<|bN k<|bN k<|eD (cA.plainO _) k<|aO) k4) ?_ ?_
 ·intro x1 o h;refine sQ<|sR<|am k k<|fp k8<|lp k8<|cm k4<|an<|tn<|dQ k h (λ_ h=>?_) λ_ h=>bE<|aC<|aC<|sp h ⟨_,k,k,(mP [3] (bK k2) (eD (cA.plainO _) k<|aO) k4)⟩;refine aP<|tn<|sQ<|aI<|sQ<|sR<|am k k<|am k k<|oB h λv3 hv3 h=>ae (aS (aGL v1.2 x1.1 v3 hv3) k (vcT k k (cD k aL))) k<|an<|tn<|dQ k h (λ_ h=>bE<|aC<|aU<|tn<|rg<|am k k<|ae (bL k k) k<|aT k2<|sp h ⟨_,k,(bW (bK k2) (eB k<|bN k<|bN k<|eD (cA.plainO _) k<|aO) k4)⟩) λ_ h=>?_;refine aP<|tn<|sR<|fp k8<|lp k8<|cG h λq13 h=>ae (aAo aH q13 k k k k k k k k) k<|aT k2<|aM (t:=mN [(0,.int a0),(5,.ptr 0 0 0),(6,.own 2 0 v1.2.length),(7,.own 3 0 x1.2.length),(8,.int x1.1),(9,.own 4 0 ((List.replicate v1.1.cols.toNat (0:Int)).length))] [(0,⟨3,[oMt v1.1 1]⟩),(1,⟨1,v1.1.cells.map (ow eI)⟩),(2,⟨1,v1.2.map (ow eI)⟩),(3,⟨1,x1.2.map (ow (cW 1 eI))⟩),(4,⟨1,List.map (ow eI) (List.replicate v1.1.cols.toNat (0:Int))⟩)] 5) (bW (uA 5 k2 (sJ ⟨_,k,⟨k,k,(by simp only [aN,lA,lT,lR,lC,lN]),k⟩⟩ aO)) (eB k<|bN k<|bN k<|eD (cA.plainO _) k<|hX ⟨_,k,k,.inl ⟨aAn (e:=eI) (z:=0) _,cJ.plainO _⟩⟩ k<|aO) k4)<|sR<|am k k<|am k k<|oB h λv5 hv5 h=>ae (xo hv5 k) k<|ae (iU aH jF (u:=1) (gW hv5) k k k k k k) k<|an<|tn<|sQ<|sR<|aT k2<|aI<|oB h λy11 hy11 h=>cU (body:=(mY a0 v1 x1)) hy11 (λ(x2:((List Int)×Int))=>mN [(0,.int a0),(5,.ptr 0 0 0),(6,.own 2 0 v1.2.length),(7,.own 3 0 x1.2.length),(8,.int x1.1),(9,.own 4 0 x2.1.length),(10,.int x2.2)] [(0,⟨3,[oMt v1.1 1]⟩),(1,⟨1,v1.1.cells.map (ow eI)⟩),(2,⟨1,v1.2.map (ow eI)⟩),(3,⟨1,x1.2.map (ow (cW 1 eI))⟩),(4,⟨1,x2.1.map (ow eI)⟩)] 5) (λr e t=>e= .exit 2∧Ent t (mN [(0,.int a0),(5,.ptr 0 0 0),(6,.own 2 0 v1.2.length),(7,.own 3 0 x1.2.length),(8,.int x1.1),(9,.own 4 0 r.length)] [(0,⟨3,[oMt v1.1 1]⟩),(1,⟨1,v1.1.cells.map (ow eI)⟩),(2,⟨1,v1.2.map (ow eI)⟩),(3,⟨1,x1.2.map (ow (cW 1 eI))⟩),(4,⟨1,r.map (ow eI)⟩)] 5)) (bW (uA 5 k2 (sJ ⟨_,k,⟨k,k,(by simp only [aN,lA,lT,lR,lC,lN]),k⟩⟩ (bK k2))) (eB k<|bN k<|bN k<|eD (cA.plainO _) k<|bN k<|aO) k4) ?_ ?_
  ·intro x2 o h;refine sQ<|sR<|am k k<|am k k<|ae (dK aH k k k k) k<|cm k4<|an<|tn<|dQ k h (λ_ h=>?_) λ_ h=>bE<|aC<|aC<|sp h ⟨_,k,k,(bW (bK k2) (eB k<|bN k<|bN k<|eD (cA.plainO _) k<|bN k<|aO) k4)⟩;refine aP<|tn<|sQ<|aI<|aW iR<|am k k<|am k k<|am k k<|oB h λv7 hv7 h=>ae (xo hv7 k) k<|ae (wp hv7 k) k<|am k k<|fp k8<|lp k8<|am k k<|fp k8<|lp k8<|ae (gN k k) k<|am k k<|ae (bL k k) k<|oB h λv8 hv8 h=>ae (xo hv8 k) k<|ae (wp hv8 k) k<|ae (aNK k) k<|oB h λv9 hv9 h=>ae (aS (pD a0 (wr (-v8)) v9 hv9) k (cD k (cD k aL))) k<|oB h λv10 hv10 h=>ae (xo hv10 k) k<|ae (iU aH jF (u:=v9) (gW hv10) k k k k k k) k<|an<|sO (by kernel_rfl)<|aZ<|tn ?_;exact aM (t:=mN [(0,.int a0),(5,.ptr 0 0 0),(6,.own 2 0 v1.2.length),(7,.own 3 0 x1.2.length),(8,.int x1.1),(9,.own 4 0 ((x2.1.set v7.toNat v9).length)),(10,.int x2.2)] [(0,⟨3,[oMt v1.1 1]⟩),(1,⟨1,v1.1.cells.map (ow eI)⟩),(2,⟨1,v1.2.map (ow eI)⟩),(3,⟨1,x1.2.map (ow (cW 1 eI))⟩),(4,⟨1,List.map (ow eI) (x2.1.set v7.toNat v9)⟩)] 5) (bW (uA 5 k2 (sJ ⟨_,k,⟨k,k,(by simp only [aN,lA,lT,lR,lC,lN]),k⟩⟩ (bK k2))) (eB k<|bN k<|bN k<|eD (cA.plainO _) k<|bN k<|aO) k4)<|rg<|am k k<|ae (bL k k) k<|aT k2<|sp h ⟨_,k,(bW (bK k2) (eB k<|bN k<|bN k<|eD (cA.plainO _) k<|bN k<|aO) k4)⟩
  ·rintro e t ⟨rfl,hent⟩;exact aU<|tn<|aM hent<|rg<|am k k<|am k k<|ae (wl k) k<|cG h λq12 h=>ae (rU aH (l:=x1.2) (c:=[.own 4 0 y11.length]) q12 k k k k k k k k k k k k k k) k<|aa k k<|an<|aZ<|tn<|aM (t:=mN [(0,.int a0),(5,.ptr 0 0 0),(6,.own 2 0 v1.2.length),(7,.own 6 0 ((x1.2++[y11]).length)),(8,.int x1.1)] [(0,⟨3,[oMt v1.1 1]⟩),(1,⟨1,v1.1.cells.map (ow eI)⟩),(2,⟨1,v1.2.map (ow eI)⟩),(6,⟨1,List.map (ow (cW 1 eI)) (x1.2++[y11])⟩)] 7) (Ent.trans (kW (b:=6) (b':=4) (j:=0) (es':=y11.map eI) k k k k (aN _ _) (cJ.frzs _)) (bW (uA 3 k2 (sJ ⟨_,k,⟨k,k,(by simp only [aN,lA,lT,lR,lC,lN]),k⟩⟩ (bK k2))) (eB k<|bN k<|bN k<|hX ⟨_,k,k,.inl ⟨rV y11 k,cA.plainO _⟩⟩ k<|aO) k4))<|rg<|am k k<|ae (bL k k) k<|aT k2<|sp h ⟨_,k,(mP [0,1,2,6] (bK k2) (eB k<|bN k<|bN k<|eD (cA.plainO _) k<|aO) k4)⟩
 ·rintro e t ⟨rfl,hent⟩;exact aU<|tn<|aM hent<|sR<|am k k<|aT k2<|aB<|sp h (bB k k k (qK (dY cA k k)))
end
noncomputable section
set_option maxRecDepth 10000
set_option maxHeartbeats 4000000
end
noncomputable section
theorem aMu {p:Int} (hp:iI p=true) {r c:Nat} (hr:r≤8) (hc:c≤8) {F:Nat→Nat→Int} (hF:uW p r c F):aAI p ⟨r,c,dE r c F⟩=true:=by
 have hb:=eP hp;have h64:r*c≤64:=Nat.mul_le_mul hr hc;unfold aAI;simp only [cY,iT,List.all_eq_true];refine ⟨wP (by omega) (by omega),wP (by omega) (by omega),?_,⟨hp,by rw [jT];exact h64⟩,λx hx=>?_⟩
 ·rw [jT,aIP (by omega)]
 ·unfold dE at hx;obtain ⟨t,ht,rfl⟩:=List.mem_map.1 hx;have ht:=List.mem_range.1 ht;have hc0:0<c:=by rcases Nat.eq_zero_or_pos c with rfl|h';simp at ht;exact h'
  have:=hF (t / c) (t % c) (Nat.div_lt_of_lt_mul (by rw [Nat.mul_comm];exact ht)) (Nat.mod_lt _ hc0);rw [dV (by omega)];exact wP this.1 (by omega)
theorem aHX {r:Rp} (h:aAJ r=true):iI r.p=true∧tT r.q r.dims=true∧r.maps.length=r.q.src.length∧ ∀ k,k<r.maps.length→aAI r.p (r.maps[k]?.getD ⟨0,0,[]⟩)=true∧(r.maps[k]?.getD ⟨0,0,[]⟩).cols=r.dims[(r.q.src[k]?.getD 0).toNat]?.getD 0∧(r.maps[k]?.getD ⟨0,0,[]⟩).rows=r.dims[(r.q.tgt[k]?.getD 0).toNat]?.getD 0:=by
 unfold aAJ at h;simp only [cY,iT,nK] at h;exact ⟨h.1,h.2.1,by omega,h.2.2.2⟩
theorem vL {c:Nat} {f g:Nat→Int} (h: ∀ j,j<c→f j=g j):jE c f=jE c g:=yC λj hj=>h j (List.mem_range.1 hj)
theorem aHY {c j:Nat} (hj:j<c) (f:Nat→Int) (v:Int):(jE c f).set j v=jE c (λb=>if b=j then v else f b):=by
 refine List.ext_getElem (by simp [jE]) λt h1 h2=>?_;rw [kC] at h2;rw [List.getElem_set];simp only [jE,List.getElem_map,List.getElem_range];by_cases e:j=t
 ·rw [bF e,bF e.symm]
 ·rw [bJ e,bJ (by omega)]
theorem aKR (c:Nat):List.replicate c (0:Int)=jE c (λ_=>0):=by
 refine List.ext_getElem (by simp [jE]) λt h1 h2=>?_;simp [jE]
theorem aHZ (c:Nat) (f:Nat→Nat→Int): ∀ n,((List.range n).map λi=>jE c (f i)).flatten=dE n c f
 |0=>by simp [dE]
 |n+1=>by
  rw [List.range_succ,List.map_append,List.flatten_append,aHZ c f n];unfold dE;rw [Nat.succ_mul,List.range_add,List.map_append];congr 1;simp only [List.map_cons,List.map_nil,List.flatten_cons,List.flatten_nil,List.append_nil,List.map_map,jE];refine yC λj hj=>?_;have hj:=List.mem_range.1 hj;simp only [Function.comp];rw [aGC hj,aGD hj]
theorem aFX {l:List (List Int)} (h: ∀ x∈l,x.length≤1024):l.flatten.length≤1024*l.length:=by
 induction l with
 |nil=>simp
 |cons x l ih=>
  have h1:=h x (by simp);have h2:=ih λy hy=>h y (by simp [hy]);simp only [List.flatten_cons,List.length_append,List.length_cons];omega
theorem uY {l:List (List Int)} {k:Nat} (hk:k<l.length):(l.take (k+1)).flatten=(l.take k).flatten++l[k]:=by
 rw [aBE hk,List.flatten_append];simp
theorem aLn {l:List (List Int)} (hl:l.length≤512) (h: ∀ x∈l,x.length≤1024):iK l=some l.flatten:=by
 have hb: ∀ k,(l.take k).flatten.length ≤1024*512:=λk=>by
  have:=aFX (l:=l.take k) λx hx=>h x (List.mem_of_mem_take hx);have h2:(l.take k).length ≤512:=by simp;omega
  omega
 unfold iK;rw [fV (r:=(l.flatten.length:Int)) (λk=>(((l.take k).flatten.length:Int),(k:Int))) l.length (by simp) (λk hk=>?_) (λ_=>?_),aA]
 ·have e:=hb l.length;rw [List.take_length] at e;unfold aIZ;rw [bG (by omega),bG (by omega:(l.flatten.length:Int)≤1048576),Bool.and_self,aQ,aA];rw [fV (r:=l.flatten) (λk=>((l.take k).flatten,(k:Int))) l.length (by simp) (λk hk=>?_) (λ_=>?_),aA]
  ·unfold gI;simp only;have e2:=hb (k+1);rw [uY hk,List.length_append] at e2;rw [nR hk,aQ,eA hk,aA,bG (by omega),aQ,dI hk (by omega),uY hk]
  ·unfold gI;simp only;rw [qA (bY _),aV,List.take_length]
 ·unfold gH;simp only;have e2:=hb (k+1);rw [uY hk,List.length_append] at e2;rw [nR hk,aQ,eA hk,aA,dV (x:=_+_) (by omega),dU (by omega),aV,dI hk (by omega),uY hk,List.length_append,Int.natCast_add (List.take k l).flatten.length l[k].length]
 ·unfold gH;simp only;rw [qA (bY _),aV,List.take_length]
end
noncomputable section
open Go.ChangeShapes Go.WideShapes Go.ChangeAt Go.RowKit
end
noncomputable section
theorem aLo {w0 w:World} {v:Value} {S:List Nat} (h:aJv w (.bl true) v S):Ending.returned v= .returned (.bool true):=by rw [h.1]
end
noncomputable section
set_option maxRecDepth 10000
set_option maxHeartbeats 4000000
end
noncomputable section
set_option maxRecDepth 10000
set_option maxHeartbeats 4000000
def pJ (a0:Int) (x1:((List Int)×(List Int)×Int)):Option (((List Int)×(List Int)×Int) ⊕ ((List Int)×(List Int))):=
 bif decide (x1.2.2<a0) then
 (bif decide (x1.1.length+[x1.2.2].length ≤4294967296) then
 (bif decide (x1.2.1.length+[a0].length ≤4294967296) then
 (some (.inl ((x1.1++[x1.2.2]),(x1.2.1++[a0]),wr (x1.2.2+1))))
 else none)
 else none)
 else
 (some (.inr (x1.1,x1.2.1)))
def gL (a0:Int):Option (Qv×Bool):=
 (gA a0 1 4).bind λv1=>
 bif !v1 then
 (some (((⟨0,[],[]⟩:Qv),false)))
 else
 ((Lp (pJ a0) (([]:(List Int)),([]:(List Int)),0)).bind λy6=>
 some (((⟨wr (a0+1),y6.1,y6.2⟩:Qv),true)))
theorem nM (a0:Int) (r:(Qv×Bool)) (h:gL a0=some r):HasC Tryz.prog 50 [.int a0] (.tuple [.agg (eQ r.1),.bl r.2]):=by
 refine hM [.cell 2 26,.tmp 3] Tryz.func50 Tryz.ntmps50 k<|sR<|ae (aY aH k k) k<|aT k2<|sQ<|sR<|am k k<|oB h λv1 hv1 h=>ae (aS (jM a0 1 4 v1 hv1) k (cD k (cD k (cD k aL)))) k<|ae (dD k) k<|an<|tn<|dQ k h (λ_ h=>sR<|ae (dM aH k k k k k k) k<|ae (ws k) k<|aT k2<|aB<|aF<|sp h (bB k k k (bV k (aX (dO (aG (k) (aG (k) (aG (k) cO)))) (aX (k) cP))))) λ_ h=>?_;refine aP<|tn<|sR<|am k k<|ae (bL k k) k<|ae (wl k) k<|ae (wl k) k<|ae (dM aH k k k k k k) k<|ae (aY aH k k) k<|ae (ws k) k<|an<|tn<|aM (t:=mN [(0,.int a0),(2,.ptr 0 0 0),(4,.ptr 3 0 0)] [(0,⟨3,[[.int 0,.nil 1,.nil 1]]⟩),(1,⟨1,List.map (ow eI) ([]:(List Int))⟩),(2,⟨1,List.map (ow eI) ([]:(List Int))⟩),(3,⟨3,[[.int (wr (a0+1)),.own 1 0 (([]:(List Int)).length),.own 2 0 (([]:(List Int)).length)]]⟩)] 4) (bW (bK k2) (bT k<|bN k<|bN k<|hX ⟨_,k,k,.inr ⟨_,_,k,⟨_,_,k,k,⟨_,_,k,⟨k,k,(by simp only [aN,lA,lT,lR,lC,lN]),k⟩,⟨_,_,k,⟨k,k,(by simp only [aN,lA,lT,lR,lC,lN]),k⟩,k⟩⟩⟩,k⟩⟩ k<|aO) k4)<|sQ<|sR<|aT k2<|aI<|oB h λy6 hy6 h=>cU (body:=(pJ a0)) hy6 (λ(x1:((List Int)×(List Int)×Int))=>mN [(0,.int a0),(2,.ptr 0 0 0),(4,.ptr 1 0 0),(5,.int x1.2.2)] [(0,⟨3,[[.int 0,.nil 1,.nil 1]]⟩),(1,⟨3,[[.int (wr (a0+1)),.own 2 0 x1.1.length,.own 3 0 x1.2.1.length]]⟩),(2,⟨1,x1.1.map (ow eI)⟩),(3,⟨1,x1.2.1.map (ow eI)⟩)] 4) (λr e t=>e= .exit 0∧Ent t (mN [(2,.ptr 0 0 0),(4,.ptr 1 0 0)] [(0,⟨3,[[.int 0,.nil 1,.nil 1]]⟩),(1,⟨3,[[.int (wr (a0+1)),.own 2 0 r.1.length,.own 3 0 r.2.length]]⟩),(2,⟨1,r.1.map (ow eI)⟩),(3,⟨1,r.2.map (ow eI)⟩)] 4)) (mP [0,3,1,2] (bK k2) (bT k<|eB k<|bN k<|bN k<|aO) k4) ?_ ?_
 ·intro x1 o h;refine sQ<|sR<|am k k<|am k k<|cm k4<|an<|tn<|dQ k h (λ_ h=>?_) λ_ h=>bE<|aC<|aC<|sp h ⟨_,k,k,(bW (bK k2) (bT k<|eB k<|bN k<|bN k<|aO) k4)⟩;refine aP<|tn<|sQ<|aI<|sR<|fp k8<|lp k8<|am k k<|ae (wl k) k<|cG h λq4 h=>ae (iJ aH (l:=x1.1) (m:=[x1.2.2]) jF q4 k k k k k k k k k k k k) k<|fp k8<|ae (ws k) k<|an<|tn<|rg<|fp k8<|lp k8<|am k k<|ae (wl k) k<|cG h λq5 h=>ae (iJ aH (l:=x1.2.1) (m:=[a0]) jF q5 k k k k k k k k k k k k) k<|fp k8<|ae (ws k) k<|an<|aZ<|tn<|rg<|am k k<|ae (bL k k) k ?_;exact aT k2<|sp h ⟨_,k,(mP [0,1,5,7] (bK k2) (bT k<|eB k<|bN k<|bN k<|aO) k4)⟩
 ·rintro e t ⟨rfl,hent⟩;exact aU<|tn<|aM hent<|sR<|lp k8<|ae (ws k) k<|aT k2<|aB<|sp h (bB k k k (bV k (aX (dO (aG (k) (aG (dY cJ k k) (aG (dY cJ k k) cO)))) (aX (k) cP))))
def pK (a0:Int) (x1:((List Int)×(List Int)×Int)):Option (((List Int)×(List Int)×Int) ⊕ ((List Int)×(List Int))):=
 bif decide (x1.2.2<a0) then
 (bif decide (x1.1.length+[x1.2.2].length ≤4294967296) then
 (bif decide (x1.2.1.length+[a0].length ≤4294967296) then
 (some (.inl ((x1.1++[x1.2.2]),(x1.2.1++[a0]),wr (x1.2.2+1))))
 else none)
 else none)
 else
 (some (.inr (x1.1,x1.2.1)))
def lG (a0:Int):Option (Qv×Bool):=
 (gK a0 1 4).bind λv1=>
 bif !v1 then
 (some (((⟨0,[],[]⟩:Qv),false)))
 else
 ((Lp (pK a0) ([],[],0)).bind λy6=>
 some (((⟨wr (a0+1),y6.1,y6.2⟩:Qv),true)))
theorem tE (a0:Int) (r:(Qv×Bool)) (h:lG a0=some r):HasC Tryz.prog 49 [.int a0] (.tuple [.agg (eQ r.1),.bl r.2]):=by
 refine hM [.cell 2 26,.tmp 3] Tryz.func49 Tryz.ntmps49 k<|sR<|ae (aY aH k k) k<|aT k2<|sQ<|sR<|am k k<|oB h λv1 hv1 h=>ae (aS (jL a0 1 4 v1 hv1) k (cD k (cD k (cD k aL)))) k<|ae (dD k) k<|an<|tn<|dQ k h (λ_ h=>sR<|ae (dM aH k k k k k k) k<|ae (ws k) k<|aT k2<|aB<|aF<|sp h (bB k k k (bV k (aX (dO (aG (k) (aG (k) (aG (k) cO)))) (aX (k) cP))))) λ_ h=>?_;refine aP<|tn<|sR<|am k k<|ae (bL k k) k<|ae (dM aH k k k k k k) k<|ae (aY aH k k) k<|ae (ws k) k<|an<|tn<|sQ<|sR<|am k k<|am k k<|an<|tn<|aI<|oB h λy6 hy6 h=>cU (body:=(pK a0)) hy6 (λ(x1:((List Int)×(List Int)×Int))=>mN [(0,.int a0),(2,.ptr 0 0 0),(4,.ptr 1 0 0),(13,.int a0),(14,.int x1.2.2)] [(0,⟨3,[[.int 0,.nil 1,.nil 1]]⟩),(1,⟨3,[[.int (wr (a0+1)),.own 2 0 x1.1.length,.own 3 0 x1.2.1.length]]⟩),(2,⟨1,x1.1.map (ow eI)⟩),(3,⟨1,x1.2.1.map (ow eI)⟩)] 4) (λr e t=>e= .exit 0∧Ent t (mN [(2,.ptr 0 0 0),(4,.ptr 1 0 0)] [(0,⟨3,[[.int 0,.nil 1,.nil 1]]⟩),(1,⟨3,[[.int (wr (a0+1)),.own 2 0 r.1.length,.own 3 0 r.2.length]]⟩),(2,⟨1,r.1.map (ow eI)⟩),(3,⟨1,r.2.map (ow eI)⟩)] 4)) (rA (σ:=sg [(0,0),(1,1)]) (bK k2) (bT k<|hX ⟨_,k,k,.inr ⟨_,_,k,⟨_,_,k,k,⟨_,_,k,⟨k,k,k,k⟩,⟨_,_,k,⟨k,k,k,k⟩,k⟩⟩⟩,k⟩⟩ k<|hX k k<|hX k k<|aO) k) ?_ ?_
 ·intro x1 o h;refine sR<|cm k4<|an<|tn<|sQ<|dQ k h (λ_ h=>?_) λ_ h=>bE<|aC<|aC<|sp h ⟨_,k,k,(bW (bK k2) (bT k<|eB k<|bN k<|bN k<|aO) k4)⟩;refine aP<|tn<|sQ<|aI<|sR<|am k k<|aT k2<|sR<|fp k8<|lp k8<|am k k<|ae (wl k) k<|cG h λq4 h=>ae (iJ aH (l:=x1.1) (m:=[x1.2.2]) jF q4 k k k k k k k k k k k k) k<|fp k8<|ae (ws k) k<|an<|tn<|rg<|fp k8<|lp k8<|am k k<|ae (wl k) k<|cG h λq5 h=>ae (iJ aH (l:=x1.2.1) (m:=[a0]) jF q5 k k k k k k k k k k k k) k<|fp k8<|ae (ws k) k ?_;exact an<|aZ<|tn<|rg<|ae (bL k k) k<|am k k<|an<|tn<|sp h ⟨_,k,(mP [0,1,5,7] (bK k2) (bT k<|eB k<|bN k<|bN k<|aO) k4)⟩
 ·rintro e t ⟨rfl,hent⟩;exact aU<|tn<|aM hent<|sR<|lp k8<|ae (ws k) k<|aT k2<|aB<|sp h (bB k k k (bV k (aX (dO (aG (k) (aG (dY cJ k k) (aG (dY cJ k k) cO)))) (aX (k) cP))))
def iY (a0:Mt) (a1:Int) (x1:((List Int)×Int)):Option (((List Int)×Int) ⊕ (List Int)):=
 bif decide (x1.2<(((List.replicate a0.rows.toNat (0:Int)).length:Nat):Int)) then
 ((eF a0.cells (wr ((wr (x1.2*a0.cols))+a1))).bind λv2=>
 (eF x1.1 x1.2).bind λv3=>
 some (.inl ((x1.1.set x1.2.toNat v2),wr (x1.2+1))))
 else
 (some (.inr x1.1))
def kZ (a0:Mt) (a1:Int):Option (List Int):=
 bif (decide (0≤a0.rows)&&decide (a0.rows≤1048576)) then
 ((Lp (iY a0 a1) ((List.replicate a0.rows.toNat (0:Int)),0)).bind λy4=>
 some (y4))
 else none
theorem zK (a0:Mt) (a1:Int) (r:(List Int)) (h:kZ a0 a1=some r):HasC Tryz.prog 239 [.agg (eM a0),.int a1] (.list 1 (r.map eI)):=by
 refine hM [.tmp 4] Tryz.func239 Tryz.ntmps239 k<|sR<|ae (wb k) k<|aT k2<|sR<|fp k8<|lp k8<|cG h λq5 h=>ae (aAo aH q5 k k k k k k k k) k<|aT k2<|aM (t:=mN [(1,.int a1),(2,.ptr 0 0 0),(5,.own 1 0 ((List.replicate a0.rows.toNat (0:Int)).length))] [(0,⟨3,[eM a0]⟩),(1,⟨1,List.map (ow eI) (List.replicate a0.rows.toNat (0:Int))⟩)] 2) (bW (uA 2 k2 (sJ ⟨_,k,⟨k,k,(by simp only [aN,lA,lT,lR,lC,lN]),k⟩⟩ aO)) (bT k<|hX ⟨_,k,k,.inl ⟨aAn (e:=eI) (z:=0) _,cJ.plainO _⟩⟩ k<|aO) k4)<|sQ<|sR<|am k k<|ae (dK aH k k k k) k<|am k k<|an<|tn<|aI<|oB h λy4 hy4 h=>cU (body:=(iY a0 a1)) hy4 (λ(x1:((List Int)×Int))=>mN [(1,.int a1),(2,.ptr 0 0 0),(5,.own 1 0 x1.1.length),(11,.int (((List.replicate a0.rows.toNat (0:Int)).length:Nat):Int)),(12,.int x1.2)] [(0,⟨3,[eM a0]⟩),(1,⟨1,x1.1.map (ow eI)⟩)] 2) (λr e t=>e= .exit 0∧Ent t (mN [(5,.own 0 0 r.length)] [(0,⟨1,r.map (ow eI)⟩)] 1)) (bW (bK k2) (bT k<|bN k<|aO) k4) ?_ ?_
 ·intro x1 o h;refine sR<|cm k4<|an<|tn<|sQ<|dQ k h (λ_ h=>?_) λ_ h=>bE<|aC<|aC<|sp h ⟨_,k,k,(mP [1] (bK k2) (bN k<|aO) k4)⟩;refine aP<|tn<|sQ<|aI<|sR<|am k k<|aT k2<|rg<|am k k<|am k k<|fp k8<|lp k8<|am k k<|fp k8<|lp k8<|ae (gN k k) k<|am k k<|ae (bL k k) k<|oB h λv2 hv2 h=>ae (xl hv2 k) k<|lr k7<|oB h λv3 hv3 h=>ae (xo hv3 k) k<|ae (iU aH jF (u:=v2) (gW hv3) k k k k k k) k<|an<|aZ<|tn<|rg ?_;exact ae (bL k k) k<|am k k<|an<|tn<|sp h ⟨_,k,(bW (uA 2 k2 (sJ ⟨_,k,⟨k,k,(by simp only [aN,lA,lT,lR,lC,lN]),k⟩⟩ (bK k2))) (bT k<|bN k<|aO) k4)⟩
 ·rintro e t ⟨rfl,hent⟩;exact aU<|tn<|aM hent<|sR<|am k k<|aT k2<|aB<|sp h (bB k k k (qK (dY cJ k k)))
def iL (a0:Mt) (x1:((List (List Int))×Int)):Option (((List (List Int))×Int) ⊕ (List (List Int))):=
 bif decide (x1.2<a0.cols) then
 ((kZ a0 x1.2).bind λv2=>
 bif decide (x1.1.length+1≤4294967296) then
 (some (.inl ((x1.1++[v2]),wr (x1.2+1))))
 else none)
 else
 (some (.inr x1.1))
def kM (a0:Mt):Option (List (List Int)):=
 (Lp (iL a0) ([],0)).bind λy4=>
 some (y4)
theorem yS (a0:Mt) (r:(List (List Int))) (h:kM a0=some r):HasC Tryz.prog 187 [.agg (eM a0)] (.list 1 (r.map (cW 1 eI))):=by
 refine hM [.tmp 2] Tryz.func187 Tryz.ntmps187 k<|sR<|ae (wb k) k<|aT k2<|sR<|aT k2<|sQ<|sR<|fp k8<|lp k8<|am k k<|an<|tn<|aI<|oB h λy4 hy4 h=>cU (body:=(iL a0)) hy4 (λ(x1:((List (List Int))×Int))=>mN [(1,.ptr 0 0 0),(3,.own 1 0 x1.1.length),(6,.int a0.cols),(7,.int x1.2)] [(0,⟨3,[eM a0]⟩),(1,⟨1,x1.1.map (ow (cW 1 eI))⟩)] 2) (λr e t=>e= .exit 0∧Ent t (mN [(3,.own 0 0 r.length)] [(0,⟨1,r.map (ow (cW 1 eI))⟩)] 1)) (rA (σ:=sg [(0,0)]) (uA 1 k2 (sJ ⟨_,k,⟨k,k,k,k⟩⟩ (bK k2))) (bT k<|hX k k<|aO) k) ?_ ?_
 ·intro x1 o h;exact sR<|cm k4<|an<|tn<|sQ<|dQ k h (λ_ h=>aP<|tn<|sQ<|aI<|sR<|am k k<|aT k2<|rg<|am k k<|lp k8<|am k k<|oB h λv2 hv2 h=>ae (cL cJ (zK a0 x1.2 v2 hv2) k3 (aJ (fK k) (cD k aL))) k<|ae (wl k) k<|cG h λq3 h=>ae (rU aH (l:=x1.1) (c:=[.own 2 0 v2.length]) q3 k k k k k k k k k k k k k k) k<|aa k k<|an<|aZ<|tn<|aM (t:=mN [(1,.ptr 0 0 0),(3,.own 4 0 ((x1.1++[v2]).length)),(6,.int a0.cols),(7,.int x1.2)] [(0,⟨3,[eM a0]⟩),(4,⟨1,List.map (ow (cW 1 eI)) (x1.1++[v2])⟩)] 5) (Ent.trans (kW (b:=4) (b':=2) (j:=0) (es':=v2.map eI) k k k k (aN _ _) (cJ.frzs _)) (bW (uA 1 k2 (sJ ⟨_,k,⟨k,k,(by simp only [aN,lA,lT,lR,lC,lN]),k⟩⟩ (bK k2))) (bT k<|hX ⟨_,k,k,.inl ⟨rV v2 k,cA.plainO _⟩⟩ k<|aO) k4))<|rg<|ae (bL k k) k<|am k k<|an<|tn<|sp h ⟨_,k,(mP [0,4] (bK k2) (bT k<|eD (cA.plainO _) k<|aO) k4)⟩) λ_ h=>bE<|aC<|aC<|sp h ⟨_,k,k,(mP [1] (bK k2) (eD (cA.plainO _) k<|aO) k4)⟩
 ·rintro e t ⟨rfl,hent⟩;exact aU<|tn<|aM hent<|sR<|am k k<|aT k2<|aB<|sp h (bB k k k (qK (dY cA k k)))
def qU (a0:Int) (a1:(List (List Int))):Option Mt:=
 (iK a1).bind λv1=>
 some ((⟨(a1.length:Int),a0,v1⟩:Mt))
theorem aCs (a0:Int) (a1:(List (List Int))) (r:Mt) (h:qU a0 a1=some r):HasC Tryz.prog 236 [.int a0,.list 1 (a1.map (cW 1 eI))] (.agg (eM r)):=by
 exact hM [.cell 4 81] Tryz.func236 Tryz.ntmps236 k<|sR<|ae (aY aH k k) k<|an<|tn<|sR<|am k k<|ln k4<|am k k<|am k k<|oB h λv1 hv1 h=>ae (cL cJ (wT a1 v1 hv1) k3 (cD k aL)) k<|ae (dM aH k k k k k k) k<|ae (ws k) k<|an<|tn<|aB<|sp h (bB k k k (rT (aG (k) (aG (k) (aG (dY cJ k k) cO)))))
def sB (v2:(Mt×(List Int))) (x1:((List (List Int))×Int)):Option (((List (List Int))×Int) ⊕ (List (List Int))):=
 bif decide (x1.2<((v2.2.length:Nat):Int)) then
 ((dX v2.1 x1.2).bind λv4=>
 (aBV ((v2.1.cells.drop (0+(wr (x1.2*v2.1.cols)).toNat)).take ((wr ((wr (x1.2+1))*v2.1.cols)).toNat - (wr (x1.2*v2.1.cols)).toNat))).bind λv5=>
 bif decide (x1.1.length+1≤4294967296) then
 (some (.inl ((x1.1++[v5]),wr (x1.2+1))))
 else none)
 else
 (some (.inr x1.1))
def oT (a0:Int) (a1:Int) (a2:(List (List Int))):Option Sc:=
 (qU a1 a2).bind λv1=>
 (qF a0 v1).bind λv2=>
 (Lp (sB v2) ([],0)).bind λy7=>
 some ((⟨a1,y7⟩:Sc))
theorem wK (a0:Int) (a1:Int) (a2:(List (List Int))) (r:Sc) (h:oT a0 a1 a2=some r):HasC Tryz.prog 181 [.int a0,.int a1,.list 1 (a2.map (cW 1 eI))] (.agg (eS r)):=by
 refine hM [.cell 6 62] Tryz.func181 Tryz.ntmps181 k<|sR<|ae (aY aH k k) k<|an<|tn<|sR<|am k k<|am k k<|am k k<|oB h λv1 hv1 h=>ae (cM (aCs a1 a2 v1 hv1) k3 (cD k (cD k aL))) k<|oB h λv2 hv2 h=>ae (AEff.conv (cH (x:= .tuple [.agg [.int v2.1.rows,.int v2.1.cols,.own 2 0 (v2.1.cells.map eI).length],.own 3 0 (v2.2.map eI).length]) (nb:=[(2,⟨1,bZ (v2.1.cells.map eI)⟩),(3,⟨1,bZ (v2.2.map eI)⟩)]) (aAQ a0 v1 v2 hv2) k (by rfl) k k (bC (aR aO (aR aO (aR (cJ.good _) dJ))) (bC (cJ.good _) dS)) (cD k (aJ (vaM k2) aL))) (v':= .tuple [.agg [.int v2.1.rows,.int v2.1.cols,.own 2 0 v2.1.cells.length],.own 3 0 v2.2.length]) (ed':=[(2,some ⟨1,v2.1.cells.map (ow eI)⟩),(3,some ⟨1,v2.2.map (ow eI)⟩)]) (by simp only [aN]) (eG (nb':=[(2,⟨1,v2.1.cells.map (ow eI)⟩),(3,⟨1,v2.2.map (ow eI)⟩)]) (by simp only [cI]))) k<|am k k<|ae (aE k k (by intro _ h;cases h)) k<|ae (aE k k (by intro _ h;cases h)) k<|ae (aY aH k k) k<|ae (ws k) k<|aT k2<|sR<|aT k2<|sQ<|sR<|am k k ?_;refine ae (dK aH k k k k) k<|am k k<|an<|tn<|aI<|oB h λy7 hy7 h=>cU (body:=(sB v2)) hy7 (λ(x1:((List (List Int))×Int))=>mN [(1,.int a1),(6,.ptr 0 0 0),(7,.ptr 1 0 0),(9,.own 3 0 x1.1.length),(20,.int ((v2.2.length:Nat):Int)),(21,.int x1.2)] [(0,⟨2,[[.int 0,.nil 1]]⟩),(1,⟨3,[oMt v2.1 2]⟩),(2,⟨1,v2.1.cells.map (ow eI)⟩),(3,⟨1,x1.1.map (ow (cW 1 eI))⟩)] 4) (λr e t=>e= .exit 0∧Ent t (mN [(1,.int a1),(6,.ptr 0 0 0),(9,.own 1 0 r.length)] [(0,⟨2,[[.int 0,.nil 1]]⟩),(1,⟨1,r.map (ow (cW 1 eI))⟩)] 2)) (rA (σ:=sg [(0,0),(1,4),(2,2)]) (uA 3 k2 (sJ ⟨_,k,⟨k,k,k,k⟩⟩ (bK k2))) (bT k<|eB k<|bN k<|hX k k<|aO) k) ?_ ?_
 ·intro x1 o h;refine sR<|cm k4<|an<|tn<|sQ<|dQ k h (λ_ h=>?_) λ_ h=>bE<|aC<|aC<|sp h ⟨_,k,k,(mP [0,3] (bK k2) (bT k<|eD (cA.plainO _) k<|aO) k4)⟩;exact aP<|tn<|sQ<|aI<|sR<|am k k<|aT k2<|rg<|am k k<|lp k8<|am k k<|oB h λv4 hv4 h=>ae (AEff.pureE (qD (σ:=sg [(0,2)]) (σ':=sg [(2,0)]) (touch:=[2]) (news:=[]) (hl2:=[(2,⟨1,v2.1.cells.map (ow eI)⟩)]) (n':=4) (r2:= .own 2 (0+(wr (x1.2*v2.1.cols)).toNat) ((wr ((wr (x1.2+1))*v2.1.cols)).toNat - (wr (x1.2*v2.1.cols)).toNat)) (fJ v2.1 x1.2 v4 hv4) k k ⟨_,_,k,⟨_,_,k,k,⟨_,_,k,k,⟨_,_,k,⟨k,k,k,k⟩,k⟩⟩⟩,⟨_,_,k,k,k⟩⟩ ⟨⟨_,k,k,.inl ⟨k,cJ.plainO _⟩⟩,k,aO⟩ k k k ⟨⟨_,k,k,.inl ⟨k,cJ.plainO _⟩⟩,k,aO⟩ k ⟨k,k,(by simp only [aN,lA,lT,lR,lC,lN]),k⟩ k ⟨k,cJ.tame _ _,aO⟩ k k) ⟨k,k,aO⟩) k<|oB h λv5 hv5 h=>ae (cL cJ (aJO ((v2.1.cells.drop (0+(wr (x1.2*v2.1.cols)).toNat)).take ((wr ((wr (x1.2+1))*v2.1.cols)).toNat - (wr (x1.2*v2.1.cols)).toNat)) v5 hv5) k3 (aJ (aMi cJ k) aL)) k<|ae (wl k) k<|cG h λq6 h=>ae (rU aH (l:=x1.1) (c:=[.own 4 0 v5.length]) q6 k k k k k k k k k k k k k k) k<|aa k k<|an<|aZ<|tn<|aM (t:=mN [(1,.int a1),(6,.ptr 0 0 0),(7,.ptr 1 0 0),(9,.own 6 0 ((x1.1++[v5]).length)),(20,.int ((v2.2.length:Nat):Int)),(21,.int x1.2)] [(0,⟨2,[[.int 0,.nil 1]]⟩),(1,⟨3,[oMt v2.1 2]⟩),(2,⟨1,v2.1.cells.map (ow eI)⟩),(6,⟨1,List.map (ow (cW 1 eI)) (x1.1++[v5])⟩)] 7) (Ent.trans (kW (b:=6) (b':=4) (j:=0) (es':=v5.map eI) k k k k (aN _ _) (cJ.frzs _)) (bW (uA 3 k2 (sJ ⟨_,k,⟨k,k,(by simp only [aN,lA,lT,lR,lC,lN]),k⟩⟩ (bK k2))) (bT k<|eB k<|bN k<|hX ⟨_,k,k,.inl ⟨rV v5 k,cA.plainO _⟩⟩ k<|aO) k4))<|rg<|ae (bL k k) k<|am k k<|an<|tn<|sp h ⟨_,k,(mP [0,1,2,6] (bK k2) (bT k<|eB k<|bN k<|eD (cA.plainO _) k<|aO) k4)⟩
 ·rintro e t ⟨rfl,hent⟩;exact aU<|tn<|aM hent<|sR<|am k k<|am k k<|ae (dM aH k k k k k k) k<|ae (ws k) k<|an<|tn<|aB<|sp h (bB k k k (rT (aG (k) (aG (dY cA k k) cO))))
def nA (a0:Int) (a1:(List Mt)) (x1:((List Sc)×Int)):Option (((List Sc)×Int) ⊕ (List Sc)):=
 bif decide (x1.2<(a1.length:Int)) then
 ((eF a1 x1.2).bind λv2=>
 (kM v2).bind λv3=>
 (oT a0 v2.rows v3).bind λv4=>
 bif decide (x1.1.length+1≤4294967296) then
 (some (.inl ((x1.1++[v4]),wr (x1.2+1))))
 else none)
 else
 (some (.inr x1.1))
def uF (a0:Int) (a1:(List Mt)):Option (List Sc):=
 (Lp (nA a0 a1) ([],0)).bind λy6=>
 some (y6)
theorem aCt (a0:Int) (a1:(List Mt)) (r:(List Sc)) (h:uF a0 a1=some r):HasC Tryz.prog 126 [.int a0,.list 3 (a1.map eM)] (.list 2 (r.map eS)):=by
 refine hM [.tmp 4] Tryz.func126 Tryz.ntmps126 k<|sR<|aT k2<|sR<|aT k2<|sQ<|sR<|am k k<|ln k4<|am k k<|an<|tn<|aI<|oB h λy6 hy6 h=>cU (body:=(nA a0 a1)) hy6 (λ(x1:((List Sc)×Int))=>mN [(0,.int a0),(5,.own 0 0 x1.1.length),(8,.list 3 (a1.map eM)),(9,.int (a1.length:Int)),(10,.int x1.2)] [(0,⟨2,x1.1.map (ow eS)⟩)] 1) (λr e t=>e= .exit 0∧Ent t (mN [(5,.own 0 0 r.length)] [(0,⟨2,r.map (ow eS)⟩)] 1)) (rA (σ:=sg []) (uA 1 k2 (sJ ⟨_,k,⟨k,k,k,k⟩⟩ (bK k2))) (hX k k<|aO) k) ?_ ?_
 ·intro x1 o h;refine sR<|cm k4<|an<|tn<|sQ<|dQ k h (λ_ h=>?_) λ_ h=>bE<|aC<|aC<|sp h ⟨_,k,k,(bW (bK k2) (eD (fZ.plainO _) k<|aO) k4)⟩;refine aP<|tn<|sQ<|aI<|sR<|oB h λv2 hv2 h=>ae (xl hv2 k) k<|lr k7<|ae (aY aH k k) k<|ae (ws k) k<|an<|tn<|aW iR<|am k k<|am k k<|fp k8<|lp k8<|lp k8<|oB h λv3 hv3 h=>ae (cL cA (yS v2 v3 hv3) k3 (aJ (fK k) aL)) k<|oB h λv4 hv4 h=>ae (cS (wK a0 v2.rows v3 v4 hv4) k3 (cD k (cD k (aJ (aAF cA k k) aL)))) k<|ae (wl k) k<|cG h λq5 h=>ae (rU aH (l:=x1.1) (c:=[.int v4.size,.own 3 0 v4.basis.length]) q5 k k k k k k k k k k k k k k) k<|aa k k<|an<|sO (by kernel_rfl)<|aZ<|tn<|aM (t:=mN [(0,.int a0),(5,.own 5 0 ((x1.1++[v4]).length)),(8,.list 3 (a1.map eM)),(9,.int (a1.length:Int)),(10,.int x1.2)] [(5,⟨2,List.map (ow eS) (x1.1++[v4])⟩)] 6) (Ent.trans (kW (b:=5) (b':=3) (j:=1) (es':=v4.basis.map (cW 1 eI)) k k k k (aN _ _) (cA.frzs _)) (bW (uA 1 k2 (sJ ⟨_,k,⟨k,k,(by simp only [aN,lA,lT,lR,lC,lN]),k⟩⟩ (bK k2))) (hX ⟨_,k,k,.inl ⟨rV v4 k,fZ.plainO _⟩⟩ k<|aO) k4))<|rg ?_;exact ae (bL k k) k<|am k k<|an<|tn<|sp h ⟨_,k,(mP [5] (bK k2) (eD (fZ.plainO _) k<|aO) k4)⟩
 ·rintro e t ⟨rfl,hent⟩;exact aU<|tn<|aM hent<|sR<|am k k<|aT k2<|aB<|sp h (bB k k k (qK (dY fZ k k)))
def iC (a0:Rp):Option ((List Sc)×Bool):=
 (lG (wr (a0.q.n - 1))).bind λv1=>
 bif !v1.2 then
 (some (([],false)))
 else
 ((rZ a0).bind λv3=>
 bif !v3 then
 (some (([],false)))
 else
 ((lO v1.1 a0.q).bind λv5=>
 bif !v5 then
 (some (([],false)))
 else
 ((uF a0.p a0.maps).bind λv7=>
 some ((v7,true)))))
theorem rC (a0:Rp) (r:((List Sc)×Bool)) (h:iC a0=some r):HasC Tryz.prog 38 [.agg (eR a0)] (.tuple [.list 2 (r.1.map eS),.bl r.2]):=by
 exact hM [.tmp 2,.tmp 3] Tryz.func38 Tryz.ntmps38 k<|sR<|ae (wb k) k<|aa k k<|aT k2<|sR<|fp k8<|fp k8<|lp k8<|ae (lK k k) k<|oB h λv1 hv1 h=>ae (AEff.conv (cH (x:= .tuple [.agg [.int v1.1.n,.own 1 0 (v1.1.src.map eI).length,.own 2 0 (v1.1.tgt.map eI).length],.bl v1.2]) (nb:=[(1,⟨1,bZ (v1.1.src.map eI)⟩),(2,⟨1,bZ (v1.1.tgt.map eI)⟩)]) (tE (wr (a0.q.n - 1)) v1 hv1) k (by rfl) k k (bC (aR aO (aR (cJ.good _) (aR (cJ.good _) dJ))) (bC aO dS)) (cD k aL)) (v':= .tuple [.agg [.int v1.1.n,.own 1 0 v1.1.src.length,.own 2 0 v1.1.tgt.length],.bl v1.2]) (ed':=[(1,some ⟨1,v1.1.src.map (ow eI)⟩),(2,some ⟨1,v1.1.tgt.map (ow eI)⟩)]) (by simp only [aN]) (eG (nb':=[(1,⟨1,v1.1.src.map (ow eI)⟩),(2,⟨1,v1.1.tgt.map (ow eI)⟩)]) (by simp only [cI]))) k<|am k k<|ae (aE k k (by intro _ h;cases h)) k<|ae (aE k k (by intro _ h;cases h)) k<|ae (aY aH k k) k<|ae (ws k) k<|aT k2<|sQ<|sR<|am k k<|ae (dD k) k<|am k k<|iS h (λq2 h=>aD 16 k q2<|aK k4<|ak k k<|pk k3<|am k k<|aK k4<|aK k4<|ak k k<|pk k3<|an<|tn<|aM (t:=mN [(1,.ptr 0 0 0),(27,.bl true)] [(0,⟨6,[eR a0]⟩)] 4) (bW (bK k2) (bT k<|aO) k4)<|cB k k<|sR<|aa k k<|aT k2<|aB<|aF<|sp h (bB k k k (bV k (aX (oQ (k)) (aX (k) cP))))) λq2 h=>aD 16 k q2<|lp k8<|oB h λv3 hv3 h=>ae (aS (aBZ a0 v3 hv3) k (aJ (fK k) aL)) k<|ae (dD k) k<|pk k3<|am k k<|iS h (λq4 h=>aD 21 k q4<|aK k4<|aK k4<|ak k k<|pk k3<|an<|tn<|aM (t:=mN [(1,.ptr 0 0 0),(27,.bl true)] [(0,⟨6,[eR a0]⟩)] 4) (bW (bK k2) (bT k<|aO) k4)<|cB k k<|sR<|aa k k<|aT k2<|aB<|aF<|sp h (bB k k k (bV k (aX (oQ (k)) (aX (k) cP))))) λq4 h=>aD 21 k q4<|lp k8<|fp k8<|lp k8<|oB h λv5 hv5 h=>ae (aS (aAG v1.1 a0.q v5 hv5) k (aJ (vaQ k4) (aJ (fK k) aL))) k<|ae (dD k) k<|pk k3<|an<|tn<|aM (t:=mN [(1,.ptr 0 0 0),(27,.bl (!v5))] [(0,⟨6,[eR a0]⟩)] 4) (bW (bK k2) (bT k<|aO) k4)<|dQ k h (λ_ h=>sR<|aa k k<|aT k2<|aB<|aF<|sp h (bB k k k (bV k (aX (oQ (k)) (aX (k) cP))))) λ_ h=>aP<|tn<|sR<|fp k8<|lp k8<|fp k8<|lp k8<|oB h λv7 hv7 h=>ae (cL fZ (aCt a0.p a0.maps v7 hv7) k3 (cD k (cD k aL))) k<|aa k k<|aT k2<|aB<|sp h (bB k k k (bV k (aX (oQ (dY fZ k k)) (aX (k) cP))))
def oC (a1:Mt) (v1:(Mt×(List Int))) (x1:((List (List Int))×Int)) (x2:((List Int)×Int)):Option (((List Int)×Int) ⊕ (List Int)):=
 bif decide (x2.2<a1.rows) then
 ((eF v1.2 x1.2).bind λv4=>
 (eF a1.cells (wr ((wr (x2.2*a1.cols))+v4))).bind λv5=>
 bif decide (x2.1.length+[v5].length ≤4294967296) then
 (some (.inl ((x2.1++[v5]),wr (x2.2+1))))
 else none)
 else
 (some (.inr x2.1))
def oD (a1:Mt) (v1:(Mt×(List Int))) (x1:((List (List Int))×Int)):Option (((List (List Int))×Int) ⊕ (List (List Int))):=
 bif decide (x1.2<((v1.2.length:Nat):Int)) then
 ((Lp (oC a1 v1 x1) (([]:(List Int)),0)).bind λy7=>
 bif decide (x1.1.length+1≤4294967296) then
 (some (.inl ((x1.1++[y7]),wr (x1.2+1))))
 else none)
 else
 (some (.inr x1.1))
def sC (a0:Int) (a1:Mt):Option (List (List Int)):=
 (kT a0 a1).bind λv1=>
 (Lp (oD a1 v1) (([]:(List (List Int))),0)).bind λy9=>
 some (y9)
theorem aDu (a0:Int) (a1:Mt) (r:(List (List Int))) (h:sC a0 a1=some r):HasC Tryz.prog 141 [.int a0,.agg (eM a1)] (.list 1 (r.map (cW 1 eI))):=by
 refine hM [.tmp 4] Tryz.func141 Tryz.ntmps141 k<|sR<|ae (wb k) k<|aT k2<|sR<|am k k<|lp k8<|oB h λv1 hv1 h=>ae (AEff.conv (cH (x:= .tuple [.agg [.int v1.1.rows,.int v1.1.cols,.own 1 0 (v1.1.cells.map eI).length],.own 2 0 (v1.2.map eI).length]) (nb:=[(1,⟨1,bZ (v1.1.cells.map eI)⟩),(2,⟨1,bZ (v1.2.map eI)⟩)]) (uC a0 a1 v1 hv1) k (by rfl) k k (bC (aR aO (aR aO (aR (cJ.good _) dJ))) (bC (cJ.good _) dS)) (cD k (aJ (fK k) aL))) (v':= .tuple [.agg [.int v1.1.rows,.int v1.1.cols,.own 1 0 v1.1.cells.length],.own 2 0 v1.2.length]) (ed':=[(1,some ⟨1,v1.1.cells.map (ow eI)⟩),(2,some ⟨1,v1.2.map (ow eI)⟩)]) (by simp only [aN]) (eG (nb':=[(1,⟨1,v1.1.cells.map (ow eI)⟩),(2,⟨1,v1.2.map (ow eI)⟩)]) (by simp only [cI]))) k<|am k k<|ae (aE k k (by intro _ h;cases h)) k<|ae (aE k k (by intro _ h;cases h)) k<|ae (aY aH k k) k<|ae (ws k) k<|aT k2<|sR<|ae (wl k) k<|aT k2<|aM (t:=mN [(3,.ptr 0 0 0),(6,.own 2 0 v1.2.length),(7,.own 4 0 (([]:(List (List Int))).length))] [(0,⟨3,[eM a1]⟩),(2,⟨1,v1.2.map (ow eI)⟩),(4,⟨1,List.map (ow (cW 1 eI)) ([]:(List (List Int)))⟩)] 5) (bW (uA 2 k2 (sJ ⟨_,k,⟨k,k,(by simp only [aN,lA,lT,lR,lC,lN]),k⟩⟩ aO)) (bT k<|bN k<|eD (cA.plainO _) k<|aO) k4)<|sQ<|sR ?_;refine aT k2<|aI<|oB h λy9 hy9 h=>cU (body:=(oD a1 v1)) hy9 (λ(x1:((List (List Int))×Int))=>mN [(3,.ptr 0 0 0),(6,.own 1 0 v1.2.length),(7,.own 2 0 x1.1.length),(8,.int x1.2)] [(0,⟨3,[eM a1]⟩),(1,⟨1,v1.2.map (ow eI)⟩),(2,⟨1,x1.1.map (ow (cW 1 eI))⟩)] 3) (λr e t=>e= .exit 0∧Ent t (mN [(7,.own 0 0 r.length)] [(0,⟨1,r.map (ow (cW 1 eI))⟩)] 1)) (mP [0,2,4] (bK k2) (bT k<|bN k<|eD (cA.plainO _) k<|aO) k4) ?_ ?_
 ·intro x1 o h;refine sQ<|sR<|am k k<|am k k<|ae (dK aH k k k k) k<|cm k4<|an<|tn<|dQ k h (λ_ h=>?_) λ_ h=>bE<|aC<|aC<|sp h ⟨_,k,k,(mP [2] (bK k2) (eD (cA.plainO _) k<|aO) k4)⟩;refine aP<|tn<|sQ<|aI<|sR<|ae (wl k) k<|aT k2<|aM (t:=mN [(3,.ptr 0 0 0),(6,.own 1 0 v1.2.length),(7,.own 2 0 x1.1.length),(8,.int x1.2),(9,.own 3 0 (([]:(List Int)).length))] [(0,⟨3,[eM a1]⟩),(1,⟨1,v1.2.map (ow eI)⟩),(2,⟨1,x1.1.map (ow (cW 1 eI))⟩),(3,⟨1,List.map (ow eI) ([]:(List Int))⟩)] 4) (bW (uA 4 k2 (sJ ⟨_,k,⟨k,k,(by simp only [aN,lA,lT,lR,lC,lN]),k⟩⟩ aO)) (bT k<|bN k<|eD (cA.plainO _) k<|bN k<|aO) k4)<|sQ<|sR<|aT k2<|aI<|oB h λy7 hy7 h=>cU (body:=(oC a1 v1 x1)) hy7 (λ(x2:((List Int)×Int))=>mN [(3,.ptr 0 0 0),(6,.own 1 0 v1.2.length),(7,.own 2 0 x1.1.length),(8,.int x1.2),(9,.own 3 0 x2.1.length),(10,.int x2.2)] [(0,⟨3,[eM a1]⟩),(1,⟨1,v1.2.map (ow eI)⟩),(2,⟨1,x1.1.map (ow (cW 1 eI))⟩),(3,⟨1,x2.1.map (ow eI)⟩)] 4) (λr e t=>e= .exit 2∧Ent t (mN [(3,.ptr 0 0 0),(6,.own 1 0 v1.2.length),(7,.own 2 0 x1.1.length),(8,.int x1.2),(9,.own 3 0 r.length)] [(0,⟨3,[eM a1]⟩),(1,⟨1,v1.2.map (ow eI)⟩),(2,⟨1,x1.1.map (ow (cW 1 eI))⟩),(3,⟨1,r.map (ow eI)⟩)] 4)) (bW (bK k2) (bT k<|bN k<|eD (cA.plainO _) k<|bN k<|aO) k4) ?_ ?_
  ·intro x2 o h;refine sQ<|sR<|am k k<|fp k8<|lp k8<|cm k4<|an<|tn<|dQ k h (λ_ h=>?_) λ_ h=>bE<|aC<|aC<|sp h ⟨_,k,k,(bW (bK k2) (bT k<|bN k<|eD (cA.plainO _) k<|bN k<|aO) k4)⟩;refine aP<|tn<|sQ<|aI<|aW iR<|am k k<|fp k8<|lp k8<|am k k<|fp k8<|lp k8<|ae (gN k k) k<|am k k<|am k k<|oB h λv4 hv4 h=>ae (xo hv4 k) k<|ae (wp hv4 k) k<|ae (bL k k) k<|oB h λv5 hv5 h=>ae (xl hv5 k) k<|lr k7<|ae (wl k) k<|cG h λq6 h=>ae (iJ aH (l:=x2.1) (m:=[v5]) jF q6 k k k k k k k k k k k k) k<|aa k k<|an<|sO (by kernel_rfl)<|aZ<|tn<|rg<|am k k<|ae (bL k k) k ?_;exact aT k2<|sp h ⟨_,k,(mP [0,1,2,5] (bK k2) (bT k<|bN k<|eD (cA.plainO _) k<|bN k<|aO) k4)⟩
  ·rintro e t ⟨rfl,hent⟩;exact aU<|tn<|aM hent<|rg<|am k k<|am k k<|ae (wl k) k<|cG h λq8 h=>ae (rU aH (l:=x1.1) (c:=[.own 3 0 y7.length]) q8 k k k k k k k k k k k k k k) k<|aa k k<|an<|aZ<|tn<|aM (t:=mN [(3,.ptr 0 0 0),(6,.own 1 0 v1.2.length),(7,.own 5 0 ((x1.1++[y7]).length)),(8,.int x1.2)] [(0,⟨3,[eM a1]⟩),(1,⟨1,v1.2.map (ow eI)⟩),(5,⟨1,List.map (ow (cW 1 eI)) (x1.1++[y7])⟩)] 6) (Ent.trans (kW (b:=5) (b':=3) (j:=0) (es':=y7.map eI) k k k k (aN _ _) (cJ.frzs _)) (bW (uA 2 k2 (sJ ⟨_,k,⟨k,k,(by simp only [aN,lA,lT,lR,lC,lN]),k⟩⟩ (bK k2))) (bT k<|bN k<|hX ⟨_,k,k,.inl ⟨rV y7 k,cA.plainO _⟩⟩ k<|aO) k4))<|rg<|am k k<|ae (bL k k) k<|aT k2<|sp h ⟨_,k,(mP [0,1,5] (bK k2) (bT k<|bN k<|eD (cA.plainO _) k<|aO) k4)⟩
 ·rintro e t ⟨rfl,hent⟩;exact aU<|tn<|aM hent<|sR<|am k k<|aT k2<|aB<|sp h (bB k k k (qK (dY cA k k)))
def pL (a1:(List (List Int))) (x1:((List Int)×Int)):Option (((List Int)×Int) ⊕ (List Int)):=
 bif decide (x1.2<(a1.length:Int)) then
 ((eF a1 x1.2).bind λv2=>
 bif decide (x1.1.length+v2.length≤4294967296) then
 (some (.inl ((x1.1++v2),wr (x1.2+1))))
 else none)
 else
 (some (.inr x1.1))
def lH (a0:Int) (a1:(List (List Int))):Option Mt:=
 (Lp (pL a1) ([],0)).bind λy4=>
 some ((⟨(a1.length:Int),a0,y4⟩:Mt))
theorem tF (a0:Int) (a1:(List (List Int))) (r:Mt) (h:lH a0 a1=some r):HasC Tryz.prog 123 [.int a0,.list 1 (a1.map (cW 1 eI))] (.agg (eM r)):=by
 refine hM [.cell 4 81] Tryz.func123 Tryz.ntmps123 k<|sR<|ae (aY aH k k) k<|an<|tn<|sR<|am k k<|ln k4<|am k k<|ae (dM aH k k k k k k) k<|ae (aY aH k k) k<|ae (ws k) k<|an<|tn<|sQ<|sR<|aT k2<|aI<|oB h λy4 hy4 h=>cU (body:=(pL a1)) hy4 (λ(x1:((List Int)×Int))=>mN [(1,.list 1 (a1.map (cW 1 eI))),(4,.ptr 0 0 0),(5,.ptr 1 0 0),(6,.int x1.2)] [(0,⟨3,[mD]⟩),(1,⟨3,[[.int (a1.length:Int),.int a0,.own 2 0 x1.1.length]]⟩),(2,⟨1,x1.1.map (ow eI)⟩)] 3) (λr e t=>e= .exit 0∧Ent t (mN [(4,.ptr 0 0 0),(5,.ptr 1 0 0)] [(0,⟨3,[mD]⟩),(1,⟨3,[[.int (a1.length:Int),.int a0,.own 2 0 r.length]]⟩),(2,⟨1,r.map (ow eI)⟩)] 3)) (rA (σ:=sg [(0,0),(1,1)]) (bK k2) (bT k<|hX ⟨_,k,k,.inr ⟨_,_,k,⟨_,_,k,k,⟨_,_,k,k,⟨_,_,k,⟨k,k,k,k⟩,k⟩⟩⟩,k⟩⟩ k<|hX k k<|aO) k) ?_ ?_
 ·intro x1 o h;exact sQ<|sR<|am k k<|am k k<|ln k4<|cm k4<|an<|tn<|dQ k h (λ_ h=>aP<|tn<|sQ<|aI<|aW iR<|fp k8<|lp k8<|am k k<|am k k<|oB h λv2 hv2 h=>ae (xl hv2 k) k<|lr k7<|cG h λq3 h=>ae (iJ aH (l:=x1.1) (m:=v2) jF q3 k k k k k k k k k k k k) k<|fp k8<|ae (ws k) k<|an<|sO (by kernel_rfl)<|aZ<|tn<|rg<|am k k<|ae (bL k k) k<|aT k2<|sp h ⟨_,k,(mP [0,1,3] (bK k2) (bT k<|eB k<|bN k<|aO) k4)⟩) λ_ h=>bE<|aC<|aC<|sp h ⟨_,k,k,(bW (bK k2) (bT k<|eB k<|bN k<|aO) k4)⟩
 ·rintro e t ⟨rfl,hent⟩;exact aU<|tn<|aM hent<|sR<|lp k8<|ae (ws k) k<|an<|tn<|aB<|sp h (bB k k k (rT (aG (k) (aG (k) (aG (dY cJ k k) cO)))))
def oE (v1:(Mt×(List Int))) (x1:((List (List Int))×Int)):Option (((List (List Int))×Int) ⊕ (List (List Int))):=
 bif decide (x1.2<((v1.2.length:Nat):Int)) then
 (bif (decide (0≤wr (x1.2*v1.1.cols))&&(decide (wr (x1.2*v1.1.cols)≤wr ((wr (x1.2*v1.1.cols))+v1.1.cols))&&decide (wr ((wr (x1.2*v1.1.cols))+v1.1.cols)≤((v1.1.cells.length:Nat):Int)))) then
 (bif decide (([]:(List Int)).length +((v1.1.cells.drop (0+(wr (x1.2*v1.1.cols)).toNat)).take ((wr ((wr (x1.2*v1.1.cols))+v1.1.cols)).toNat - (wr (x1.2*v1.1.cols)).toNat)).length ≤4294967296) then
 (bif decide (x1.1.length+1≤4294967296) then
 (some (.inl ((x1.1++[(([]:(List Int))++((v1.1.cells.drop (0+(wr (x1.2*v1.1.cols)).toNat)).take ((wr ((wr (x1.2*v1.1.cols))+v1.1.cols)).toNat - (wr (x1.2*v1.1.cols)).toNat)))]),wr (x1.2+1))))
 else none)
 else none)
 else none)
 else
 (some (.inr x1.1))
def oV (a0:Int) (a1:Mt):Option (List (List Int)):=
 (kT a0 a1).bind λv1=>
 (Lp (oE v1) (([]:(List (List Int))),0)).bind λy6=>
 some (y6)
theorem zL (a0:Int) (a1:Mt) (r:(List (List Int))) (h:oV a0 a1=some r):HasC Tryz.prog 186 [.int a0,.agg (eM a1)] (.list 1 (r.map (cW 1 eI))):=by
 refine hM [.tmp 4] Tryz.func186 Tryz.ntmps186 k<|sR<|ae (wb k) k<|aT k2<|sR<|am k k<|lp k8<|oB h λv1 hv1 h=>ae (AEff.conv (cH (x:= .tuple [.agg [.int v1.1.rows,.int v1.1.cols,.own 1 0 (v1.1.cells.map eI).length],.own 2 0 (v1.2.map eI).length]) (nb:=[(1,⟨1,bZ (v1.1.cells.map eI)⟩),(2,⟨1,bZ (v1.2.map eI)⟩)]) (uC a0 a1 v1 hv1) k (by rfl) k k (bC (aR aO (aR aO (aR (cJ.good _) dJ))) (bC (cJ.good _) dS)) (cD k (aJ (fK k) aL))) (v':= .tuple [.agg [.int v1.1.rows,.int v1.1.cols,.own 1 0 v1.1.cells.length],.own 2 0 v1.2.length]) (ed':=[(1,some ⟨1,v1.1.cells.map (ow eI)⟩),(2,some ⟨1,v1.2.map (ow eI)⟩)]) (by simp only [aN]) (eG (nb':=[(1,⟨1,v1.1.cells.map (ow eI)⟩),(2,⟨1,v1.2.map (ow eI)⟩)]) (by simp only [cI]))) k<|am k k<|ae (aE k k (by intro _ h;cases h)) k<|ae (aE k k (by intro _ h;cases h)) k<|ae (aY aH k k) k<|ae (ws k) k<|aT k2<|sR<|ae (wl k) k<|aT k2<|aM (t:=mN [(5,.ptr 3 0 0),(6,.own 2 0 v1.2.length),(7,.own 4 0 (([]:(List (List Int))).length))] [(1,⟨1,v1.1.cells.map (ow eI)⟩),(2,⟨1,v1.2.map (ow eI)⟩),(3,⟨3,[oMt v1.1 1]⟩),(4,⟨1,List.map (ow (cW 1 eI)) ([]:(List (List Int)))⟩)] 5) (bW (uA 2 k2 (sJ ⟨_,k,⟨k,k,(by simp only [aN,lA,lT,lR,lC,lN]),k⟩⟩ aO)) (bN k<|bN k<|eB k<|eD (cA.plainO _) k<|aO) k4)<|sQ<|sR ?_;refine aT k2<|aI<|oB h λy6 hy6 h=>cU (body:=(oE v1)) hy6 (λ(x1:((List (List Int))×Int))=>mN [(5,.ptr 0 0 0),(6,.own 2 0 v1.2.length),(7,.own 3 0 x1.1.length),(8,.int x1.2)] [(0,⟨3,[oMt v1.1 1]⟩),(1,⟨1,v1.1.cells.map (ow eI)⟩),(2,⟨1,v1.2.map (ow eI)⟩),(3,⟨1,x1.1.map (ow (cW 1 eI))⟩)] 4) (λr e t=>e= .exit 0∧Ent t (mN [(7,.own 0 0 r.length)] [(0,⟨1,r.map (ow (cW 1 eI))⟩)] 1)) (mP [3,1,2,4] (bK k2) (eB k<|bN k<|bN k<|eD (cA.plainO _) k<|aO) k4) ?_ ?_
 ·intro x1 o h;refine sQ<|sR<|am k k<|am k k<|ae (dK aH k k k k) k<|cm k4<|an<|tn<|dQ k h (λ_ h=>?_) λ_ h=>bE<|aC<|aC<|sp h ⟨_,k,k,(mP [3] (bK k2) (eD (cA.plainO _) k<|aO) k4)⟩;refine aP<|tn<|sQ<|aI<|rg<|am k k<|ae (wl k) k<|fp k8<|lp k8<|am k k<|fp k8<|lp k8<|ae (gN k k) k<|am k k<|fp k8<|lp k8<|ae (gN k k) k<|fp k8<|lp k8<|ae (bL k k) k<|cG h λq3 h=>ae (aCd aH (l:=wr (x1.2*v1.1.cols)) (h:=wr ((wr (x1.2*v1.1.cols))+v1.1.cols)) q3 k k k k k k k k) k<|cG h λq4 h=>ae (iJ aH (l:=([]:(List Int))) (m:=((v1.1.cells.drop (0+(wr (x1.2*v1.1.cols)).toNat)).take ((wr ((wr (x1.2*v1.1.cols))+v1.1.cols)).toNat - (wr (x1.2*v1.1.cols)).toNat))) jF q4 k k k k k (aNl cJ k) k k k k k k) k<|ae (wl k) k<|cG h λq5 h=>ae (rU aH (l:=x1.1) (c:=[.own 5 0 ((([]:(List Int))++((v1.1.cells.drop (0+(wr (x1.2*v1.1.cols)).toNat)).take ((wr ((wr (x1.2*v1.1.cols))+v1.1.cols)).toNat - (wr (x1.2*v1.1.cols)).toNat))).length)]) q5 k k k k k k k k k k k k k k) k<|aa k k<|an<|aZ<|tn<|aM (t:=mN [(5,.ptr 0 0 0),(6,.own 2 0 v1.2.length),(7,.own 7 0 ((x1.1++[(([]:(List Int))++((v1.1.cells.drop (0+(wr (x1.2*v1.1.cols)).toNat)).take ((wr ((wr (x1.2*v1.1.cols))+v1.1.cols)).toNat - (wr (x1.2*v1.1.cols)).toNat)))]).length)),(8,.int x1.2)] [(0,⟨3,[oMt v1.1 1]⟩),(1,⟨1,v1.1.cells.map (ow eI)⟩),(2,⟨1,v1.2.map (ow eI)⟩),(7,⟨1,List.map (ow (cW 1 eI)) (x1.1++[(([]:(List Int))++((v1.1.cells.drop (0+(wr (x1.2*v1.1.cols)).toNat)).take ((wr ((wr (x1.2*v1.1.cols))+v1.1.cols)).toNat - (wr (x1.2*v1.1.cols)).toNat)))])⟩)] 8) (Ent.trans (kW (b:=7) (b':=5) (j:=0) (es':=List.map eI (([]:(List Int))++((v1.1.cells.drop (0+(wr (x1.2*v1.1.cols)).toNat)).take ((wr ((wr (x1.2*v1.1.cols))+v1.1.cols)).toNat - (wr (x1.2*v1.1.cols)).toNat)))) k k k k (aN _ _) (cJ.frzs _)) (bW (uA 2 k2 (sJ ⟨_,k,⟨k,k,(by simp only [aN,lA,lT,lR,lC,lN]),k⟩⟩ (bK k2))) (eB k<|bN k<|bN k<|hX ⟨_,k,k,.inl ⟨rV (([]:(List Int))++((v1.1.cells.drop (0+(wr (x1.2*v1.1.cols)).toNat)).take ((wr ((wr (x1.2*v1.1.cols))+v1.1.cols)).toNat - (wr (x1.2*v1.1.cols)).toNat))) k,cA.plainO _⟩⟩ k<|aO) k4)) ?_;exact rg<|am k k<|ae (bL k k) k<|aT k2<|sp h ⟨_,k,(mP [0,1,2,7] (bK k2) (eB k<|bN k<|bN k<|eD (cA.plainO _) k<|aO) k4)⟩
 ·rintro e t ⟨rfl,hent⟩;exact aU<|tn<|aM hent<|sR<|am k k<|aT k2<|aB<|sp h (bB k k k (qK (dY cA k k)))
def lI (a0:Int) (a1:Int) (a2:(List (List Int))):Option Sc:=
 (lH a1 a2).bind λv1=>
 (oV a0 v1).bind λv2=>
 some ((⟨a1,v2⟩:Sc))
theorem tG (a0:Int) (a1:Int) (a2:(List (List Int))) (r:Sc) (h:lI a0 a1 a2=some r):HasC Tryz.prog 140 [.int a0,.int a1,.list 1 (a2.map (cW 1 eI))] (.agg (eS r)):=by
 exact hM [.cell 6 62] Tryz.func140 Tryz.ntmps140 k<|sR<|ae (aY aH k k) k<|an<|tn<|sR<|am k k<|am k k<|am k k<|am k k<|oB h λv1 hv1 h=>ae (cM (tF a1 a2 v1 hv1) k3 (cD k (cD k aL))) k<|oB h λv2 hv2 h=>ae (cL cA (zL a0 v1 v2 hv2) k3 (cD k (aJ (vaM k2) aL))) k<|ae (dM aH k k k k k k) k<|ae (ws k) k<|an<|tn<|aB<|sp h (bB k k k (rT (aG (k) (aG (dY cA k k) cO))))
def kO (a0:Rp) (x1:((List Sc)×Int)):Option (((List Sc)×Int) ⊕ (List Sc)):=
 bif decide (x1.2<(a0.maps.length:Int)) then
 ((eF a0.maps x1.2).bind λv8=>
 (eF a0.maps x1.2).bind λv9=>
 (sC a0.p v9).bind λv10=>
 (lI a0.p v8.rows v10).bind λv11=>
 bif decide (x1.1.length+1≤4294967296) then
 (some (.inl ((x1.1++[v11]),wr (x1.2+1))))
 else none)
 else
 (some (.inr x1.1))
def kD (a0:Rp):Option ((List Sc)×Bool):=
 (uO a0).bind λv1=>
 bif !v1 then
 (some ((([]:(List Sc)),false)))
 else
 ((gL (wr (a0.q.n - 1))).bind λv3=>
 bif !v3.2 then
 (some ((([]:(List Sc)),false)))
 else
 ((fI v3.1 a0.q).bind λv5=>
 bif !v5 then
 (some ((([]:(List Sc)),false)))
 else
 ((Lp (kO a0) (([]:(List Sc)),0)).bind λy13=>
 some ((y13,true)))))
theorem vN (a0:Rp) (r:((List Sc)×Bool)) (h:kD a0=some r):HasC Tryz.prog 47 [.agg (eR a0)] (.tuple [.list 2 (r.1.map eS),.bl r.2]):=by
 refine hM [.tmp 2,.tmp 3] Tryz.func47 Tryz.ntmps47 k<|sR<|ae (wb k) k<|aa k k<|aT k2<|sR<|ae (wl k) k<|aT k2<|aM (t:=mN [(1,.ptr 0 0 0),(4,.own 1 0 (([]:(List Sc)).length))] [(0,⟨6,[eR a0]⟩),(1,⟨2,List.map (ow eS) ([]:(List Sc))⟩)] 2) (bW (uA 1 k2 (sJ ⟨_,k,⟨k,k,(by simp only [aN,lA,lT,lR,lC,lN]),k⟩⟩ aO)) (bT k<|eD (fZ.plainO _) k<|aO) k4)<|sQ<|sR<|lp k8<|oB h λv1 hv1 h=>ae (aS (aGM a0 v1 hv1) k (aJ (fK k) aL)) k<|ae (dD k) k<|an<|tn<|dQ k h (λ_ h=>sR<|am k k<|aa k k<|aT k2<|aB<|aF<|sp h (bB k k k (bV k (aX (oQ (dY fZ k k)) (aX (k) cP))))) λ_ h=>?_;refine aP<|tn<|sR<|fp k8<|fp k8<|lp k8<|ae (lK k k) k<|oB h λv3 hv3 h=>ae (AEff.conv (cH (x:= .tuple [.agg [.int v3.1.n,.own 2 0 (v3.1.src.map eI).length,.own 3 0 (v3.1.tgt.map eI).length],.bl v3.2]) (nb:=[(2,⟨1,bZ (v3.1.src.map eI)⟩),(3,⟨1,bZ (v3.1.tgt.map eI)⟩)]) (nM (wr (a0.q.n - 1)) v3 hv3) k (by rfl) k k (bC (aR aO (aR (cJ.good _) (aR (cJ.good _) dJ))) (bC aO dS)) (cD k aL)) (v':= .tuple [.agg [.int v3.1.n,.own 2 0 v3.1.src.length,.own 3 0 v3.1.tgt.length],.bl v3.2]) (ed':=[(2,some ⟨1,v3.1.src.map (ow eI)⟩),(3,some ⟨1,v3.1.tgt.map (ow eI)⟩)]) (by simp only [aN]) (eG (nb':=[(2,⟨1,v3.1.src.map (ow eI)⟩),(3,⟨1,v3.1.tgt.map (ow eI)⟩)]) (by simp only [cI]))) k<|am k k<|ae (aE k k (by intro _ h;cases h)) k<|ae (aE k k (by intro _ h;cases h)) k<|ae (aY aH k k) k<|ae (ws k) k<|aT k2<|sQ<|sR<|am k k<|ae (dD k) k<|am k k<|iS h (λq4 h=>aD 23 k q4<|aK k4<|aK k4<|ak k k<|pk k3<|an<|tn<|cB k k<|sR<|am k k<|aa k k<|aT k2<|aM (t:=mN [(2,.own 1 0 (([]:(List Sc)).length)),(3,.bl false)] [(1,⟨2,List.map (ow eS) ([]:(List Sc))⟩)] 5) (bW (bK k2) (eD (fZ.plainO _) k<|aO) k4)<|aB<|aF<|sp h (bB k k k (bV k (aX (oQ (dY fZ k k)) (aX (k) cP))))) λq4 h=>?_;refine aD 23 k q4<|lp k8<|fp k8<|lp k8<|oB h λv5 hv5 h=>ae (aS (lM v3.1 a0.q v5 hv5) k (aJ (vaQ k4) (aJ (fK k) aL))) k<|ae (dD k) k<|pk k3<|an<|tn<|dQ k h (λ_ h=>sR<|am k k<|aa k k<|aT k2<|aM (t:=mN [(2,.own 1 0 (([]:(List Sc)).length)),(3,.bl false)] [(1,⟨2,List.map (ow eS) ([]:(List Sc))⟩)] 5) (bW (bK k2) (eD (fZ.plainO _) k<|aO) k4)<|aB<|aF<|sp h (bB k k k (bV k (aX (oQ (dY fZ k k)) (aX (k) cP))))) λ_ h=>?_;refine aP<|tn<|sQ<|sR<|aT k2<|aM (t:=mN [(1,.ptr 0 0 0),(4,.own 1 0 (([]:(List Sc)).length)),(7,.int 0)] [(0,⟨6,[eR a0]⟩),(1,⟨2,List.map (ow eS) ([]:(List Sc))⟩)] 5) (bW (bK k2) (bT k<|eD (fZ.plainO _) k<|aO) k4)<|aI<|oB h λy13 hy13 h=>cU (body:=(kO a0)) hy13 (λ(x1:((List Sc)×Int))=>mN [(1,.ptr 0 0 0),(4,.own 1 0 x1.1.length),(7,.int x1.2)] [(0,⟨6,[eR a0]⟩),(1,⟨2,x1.1.map (ow eS)⟩)] 2) (λr e t=>e= .exit 0∧Ent t (mN [(4,.own 0 0 r.length)] [(0,⟨2,r.map (ow eS)⟩)] 1)) (bW (bK k2) (bT k<|eD (fZ.plainO _) k<|aO) k4) ?_ ?_
 ·intro x1 o h;refine sQ<|sR<|am k k<|fp k8<|lp k8<|ln k4<|cm k4<|an<|tn<|dQ k h (λ_ h=>?_) λ_ h=>bE<|aC<|aC<|sp h ⟨_,k,k,(mP [1] (bK k2) (eD (fZ.plainO _) k<|aO) k4)⟩;refine aP<|tn<|sQ<|aI<|aW iR<|am k k<|fp k8<|lp k8<|fp k8<|lp k8<|am k k<|oB h λv8 hv8 h=>ae (xl hv8 k) k<|ae (rI aH k k k k k k) k<|lr k7<|fp k8<|lp k8<|fp k8<|lp k8<|am k k<|oB h λv9 hv9 h=>ae (xl hv9 k) k<|lr k7<|oB h λv10 hv10 h=>ae (cL cA (aDu a0.p v9 v10 hv10) k3 (cD k (aJ (fK k) aL))) k<|oB h λv11 hv11 h=>ae (cS (tG a0.p v8.rows v10 v11 hv11) k3 (cD k (cD k (aJ (aAF cA k k) aL)))) k<|ae (wl k) k<|cG h λq12 h=>ae (rU aH (l:=x1.1) (c:=[.int v11.size,.own 3 0 v11.basis.length]) q12 k k k k k k k k k k k k k k) k<|aa k k<|an<|sO (by kernel_rfl)<|aZ ?_;exact tn<|aM (t:=mN [(1,.ptr 0 0 0),(4,.own 5 0 ((x1.1++[v11]).length)),(7,.int x1.2)] [(0,⟨6,[eR a0]⟩),(5,⟨2,List.map (ow eS) (x1.1++[v11])⟩)] 6) (Ent.trans (kW (b:=5) (b':=3) (j:=1) (es':=v11.basis.map (cW 1 eI)) k k k k (aN _ _) (cA.frzs _)) (bW (uA 1 k2 (sJ ⟨_,k,⟨k,k,(by simp only [aN,lA,lT,lR,lC,lN]),k⟩⟩ (bK k2))) (bT k<|hX ⟨_,k,k,.inl ⟨rV v11 k,fZ.plainO _⟩⟩ k<|aO) k4))<|rg<|am k k<|ae (bL k k) k<|aT k2<|sp h ⟨_,k,(mP [0,5] (bK k2) (bT k<|eD (fZ.plainO _) k<|aO) k4)⟩
 ·rintro e t ⟨rfl,hent⟩;exact aU<|tn<|aM hent<|sR<|am k k<|aa k k<|aT k2<|aB<|sp h (bB k k k (bV k (aX (oQ (dY fZ k k)) (aX (k) cP))))
def lP (a0:(List Int)) (a1:Int) (a2:Int):Option Bool:=
 bif !decide ((a0.length:Int)=a1) then
 (some (true))
 else
 ((nI a2 a0).bind λv2=>
 some (!v2))
theorem aAK (a0:(List Int)) (a1:Int) (a2:Int) (r:Bool) (h:lP a0 a1 a2=some r):HasC Tryz.prog 234 [.list 1 (a0.map eI),.ref (eI a1),.ref (eI a2)] (.bl r):=by
 exact hM [.tmp 4] Tryz.func234 Tryz.ntmps234 k<|sR<|aT k2<|sR<|am k k<|ln k4<|lr k7<|cm k4<|am k k<|iS h (λq1 h=>aD 9 k q1<|aK k4<|aK k4<|pk k3<|aT k2<|aB<|fS h k2) λq1 h=>aD 9 k q1<|lr k7<|am k k<|oB h λv2 hv2 h=>ae (aS (yJ a2 a0 v2 hv2) k (cD k (cD k aL))) k<|ae (dD k) k<|pk k3<|aT k2<|aB<|fS h k2
def oF (a0:Int) (a1:Int) (a2:(List (List Int))):Option Bool:=
 (gK a1 0 8).bind λv1=>
 bif v1 then
 (bif decide ((a2.length:Int)≤16) then
 ((eW a2 (λb0=>lP b0 a1 a0)).bind λv4=>
 some (!v4))
 else
 (some (false)))
 else
 (some (false))
theorem aBf (a0:Int) (a1:Int) (a2:(List (List Int))) (r:Bool) (h:oF a0 a1 a2=some r):HasC Tryz.prog 180 [.int a0,.int a1,.list 1 (a2.map (cW 1 eI))] (.bl r):=by
 exact hM [.tmp 6] Tryz.func180 Tryz.ntmps180 k<|sR<|ae (wb k) k<|ae (wb k) k<|aT k2<|sR<|lp k8<|oB h λv1 hv1 h=>ae (aS (jL a1 0 8 v1 hv1) k (cD k (cD k (cD k aL)))) k<|am k k<|iS h (λq2 h=>aD 9 k q2<|am k k<|ln k4<|cm k4<|pk k3<|am k k<|iS h (λq3 h=>aD 14 k q3<|am k k<|ae (aBG (vs:=[.ptr 1 0 0,.ptr 0 0 0]) k (by simp)) k<|oB h λv4 hv4 h=>ae (aS (rX a2 (λb0=>lP b0 a1 a0) k (λb0 r h=>aAK b0 a1 a0 r h) v4 hv4) k (cD k (aJ (aLY (aDA (aGG k k (dH (eJ k) tX)) (aDA (aGG k k (dH (eJ k) tX)) aGF))) aL))) k<|ae (dD k) k<|pk k3<|aT k2<|aB<|fS h k2) λq3 h=>aD 14 k q3<|aK k4<|aK k4<|pk k3<|aT k2<|aB<|fS h k2) λq2 h=>aD 9 k q2<|aK k4<|ak k k<|pk k3<|am k k<|aK k4<|aK k4<|pk k3<|aT k2<|aB<|fS h k2
def iP (a0:(List Int)) (a1:(List Int)):Option Bool:=
 (gB a0 a1).bind λv1=>
 some (v1)
theorem zM (a0:(List Int)) (a1:(List Int)) (r:Bool) (h:iP a0 a1=some r):HasC Tryz.prog 194 [.list 1 (a0.map eI),.list 1 (a1.map eI)] (.bl r):=by
 exact hM [.tmp 4] Tryz.func194 Tryz.ntmps194 k<|sR<|aT k2<|sR<|am k k<|am k k<|oB h λv1 hv1 h=>ae (aS (mE a0 a1 v1 hv1) k (cD k (cD k aL))) k<|aT k2<|aB<|fS h k2
def dN (a0:(List (List Int))) (a1:(List (List Int))) (a2:((List Int)→(List Int)→Option Bool)) (x1:Int):Option (Int ⊕ (Unit ⊕ Bool)):=
 bif decide (x1<(a0.length:Int)) then
 ((eF a0 x1).bind λv3=>
 (eF a1 x1).bind λv4=>
 (a2 v3 v4).bind λv5=>
 bif !v5 then
 (some (.inr (.inr (false))))
 else
 (some (.inl (wr (x1+1)))))
 else
 (some (.inr (.inl ())))
def dT (a0:(List (List Int))) (a1:(List (List Int))) (a2:((List Int)→(List Int)→Option Bool)):Option Bool:=
 bif !decide ((a0.length:Int)=(a1.length:Int)) then
 (some (false))
 else
 ((Lp (dN a0 a1 a2) 0).bind λy7=>
 Sum.elim (λy8=>
 some (true)
 )
 (λy9=>
 some y9
 )
 y7)
theorem nT (a0:(List (List Int))) (a1:(List (List Int))) (a2:((List Int)→(List Int)→Option Bool)) {f2:FuncId} {c2:List AV} (hc2:c2.all fD=true) (hf2: ∀ b0 b1 r,a2 b0 b1=some r→HasC Tryz.prog f2 ([.list 1 (b0.map eI),.list 1 (b1.map eI)]++c2) (.bl r)) (r:Bool) (h:dT a0 a1 a2=some r):HasC Tryz.prog 193 [.list 1 (a0.map (cW 1 eI)),.list 1 (a1.map (cW 1 eI)),.fn f2 c2] (.bl r):=by
 refine zV aH (rvs:=[.tmp 6]) (ns:=nmA) Tryz.func193 k k Tryz.ntmps193 k k (rW k (rW k (rW hc2 aDk)))<|sR<|aT k2<|sQ<|sR<|am k k<|ln k4<|am k k<|ln k4<|cm k4<|an<|tn<|dQ k h (λ_ h=>sR<|aT k2<|aB<|aF<|fS h k2) λ_ h=>?_;refine aP<|tn<|sQ<|sR<|am k k<|ln k4<|am k k<|an<|tn<|aI<|oB h λy7 hy7 h=>cU (body:=(dN a0 a1 a2)) hy7 (λ(x1:Int)=>mN [(1,.list 1 (a1.map (cW 1 eI))),(2,.fn f2 c2),(15,.list 1 (a0.map (cW 1 eI))),(16,.int (a0.length:Int)),(17,.int x1)] [] 0) (λr e t=>Sum.elim (λa=>(λr e t=>e= .exit 0∧Ent t (mN [] [] 0)) a e t) (λb=>(λr e t=>e= .ret∧sK TT [.tmp 6] (.bl r) .ret t) b e t) r) (bW (uA 1 k2 (sJ ⟨_,k,⟨k,uX _ hc2⟩⟩ (bK k2))) aO k4) ?_ ?_
 ·intro x1 o h;refine sR<|cm k4<|an<|tn<|sQ<|dQ k h (λ_ h=>?_) λ_ h=>bE<|aC<|aC<|sp h ⟨_,k,k,(bW aO aO k4)⟩;refine aP<|tn<|sQ<|aI<|sR<|am k k<|oB h λv3 hv3 h=>ae (xl hv3 k) k<|lr k7<|aa k k<|aT k2<|sR<|am k k<|am k k<|oB h λv4 hv4 h=>ae (xl hv4 k) k<|lr k7<|aT k2<|sR<|am k k<|am k k<|am k k<|oB h λv5 hv5 h=>ae (aGH hc2 (hf2 v3 v4 v5 hv5) k k (cD k (cD k aL))) k<|ae (dD k) k ?_;exact an<|tn<|dQ k h (λ_ h=>sR<|aT k2<|aB<|bO<|aF<|aF<|sp h ⟨_,k,k,bB k k k (oK k)⟩) λ_ h=>aP<|aZ<|tn<|rg<|ae (bL k k) k<|am k k<|an<|tn<|sp h ⟨_,k,(bW (uA 1 k2 (sJ ⟨_,k,⟨k,uX _ hc2⟩⟩ (bK k2))) aO k4)⟩
 ·intro e t hX;rcases y7 with y8|y9
  ·obtain ⟨rfl,hent⟩:=hX;exact aU<|tn<|aM hent<|sR<|aT k2<|aB<|fS h k2
  ·obtain ⟨rfl,hent⟩:=hX;exact bO<|aF<|sp h hent
def kE (a0:Sc) (a1:Sc):Option Bool:=
 bif decide (a0.size=a1.size) then
 ((dT a0.basis a1.basis (λb0 b1=>iP b0 b1)).bind λv2=>
 some (v2))
 else
 (some (false))
theorem vO (a0:Sc) (a1:Sc) (r:Bool) (h:kE a0 a1=some r):HasC Tryz.prog 136 [.agg (eS a0),.agg (eS a1)] (.bl r):=by
 exact hM [.tmp 4] Tryz.func136 Tryz.ntmps136 k<|sR<|ae (wb k) k<|ae (wb k) k<|aT k2<|sR<|fp k8<|lp k8<|fp k8<|lp k8<|cm k4<|am k k<|iS h (λq1 h=>aD 10 k q1<|fp k8<|lp k8<|fp k8<|lp k8<|oB h λv2 hv2 h=>ae (aS (nT a0.basis a1.basis (λb0 b1=>iP b0 b1) k (λb0 b1 r h=>zM b0 b1 r h) v2 hv2) k (cD k (cD k (aJ (aLY aGF) aL)))) k<|pk k3<|aT k2<|aB<|fS h k2) λq1 h=>aD 10 k q1<|aK k4<|aK k4<|ak k k<|pk k3<|aT k2<|aB<|fS h k2
def mI (a0:Int) (a1:Sc):Option Bool:=
 (gO a0).bind λv1=>
 bif !v1 then
 (some (false))
 else
 ((oF a0 a1.size a1.basis).bind λv3=>
 bif !v3 then
 (some (false))
 else
 ((oT a0 a1.size a1.basis).bind λv5=>
 (kE v5 a1).bind λv6=>
 some (v6)))
theorem vP (a0:Int) (a1:Sc) (r:Bool) (h:mI a0 a1=some r):HasC Tryz.prog 118 [.int a0,.agg (eS a1)] (.bl r):=by
 exact hM [.tmp 4] Tryz.func118 Tryz.ntmps118 k<|sR<|ae (wb k) k<|aT k2<|sQ<|sR<|am k k<|oB h λv1 hv1 h=>ae (aS (jW a0 v1 hv1) k (cD k aL)) k<|ae (dD k) k<|am k k<|iS h (λq2 h=>aD 8 k q2<|aK k4<|aK k4<|aK k4<|ak k k<|pk k3<|an<|tn<|cB k k<|sR<|aT k2<|aB<|aF<|fS h k2) λq2 h=>aD 8 k q2<|am k k<|fp k8<|lp k8<|fp k8<|lp k8<|oB h λv3 hv3 h=>ae (aS (aBf a0 a1.size a1.basis v3 hv3) k (cD k (cD k (cD k aL)))) k<|ae (dD k) k<|pk k3<|an<|tn<|dQ k h (λ_ h=>sR<|aT k2<|aB<|aF<|fS h k2) λ_ h=>aP<|tn<|sQ<|aW iR<|am k k<|fp k8<|lp k8<|fp k8<|lp k8<|oB h λv5 hv5 h=>ae (cS (wK a0 a1.size a1.basis v5 hv5) k3 (cD k (cD k (cD k aL)))) k<|lp k8<|oB h λv6 hv6 h=>ae (aS (vO v5 a1 v6 hv6) k (aJ (vaC k2) (aJ (fK k) aL))) k<|aa k k<|an<|sO (by kernel_rfl)<|tn<|aB<|fS h k2
def fN (a0:Int) (a1:Int) (a2:(List Sc)) (x1:((List Int)×(List Mt)×Int)):Option (((List Int)×(List Mt)×Int) ⊕ (((List Int)×(List Mt)) ⊕ (Rp×Bool))):=
 bif decide (x1.2.2<(a2.length:Int)) then
 ((eF a2 x1.2.2).bind λv8=>
 (mI a0 v8).bind λv9=>
 bif !v9 then
 (some (.inr (.inr (((⟨0,(⟨0,[],[]⟩:Qv),[],[]⟩:Rp),false)))))
 else
 (bif !decide (v8.size=a1) then
 (some (.inr (.inr (((⟨0,(⟨0,[],[]⟩:Qv),[],[]⟩:Rp),false)))))
 else
 (bif decide (x1.1.length+[(v8.basis.length:Int)].length ≤4294967296) then
 ((iB a1 v8.basis).bind λv13=>
 bif decide (x1.2.1.length+1≤4294967296) then
 (some (.inl ((x1.1++[(v8.basis.length:Int)]),(x1.2.1++[v13]),wr (x1.2.2+1))))
 else none)
 else none)))
 else
 (some (.inr (.inl (x1.1,x1.2.1))))
def kP (a0:Int) (a1:Int) (a2:(List Sc)):Option (Rp×Bool):=
 (lG (a2.length:Int)).bind λv1=>
 bif !v1.2 then
 (some (((⟨0,(⟨0,[],[]⟩:Qv),[],[]⟩:Rp),false)))
 else
 ((gO a0).bind λv3=>
 bif !v3 then
 (some (((⟨0,(⟨0,[],[]⟩:Qv),[],[]⟩:Rp),false)))
 else
 ((gK a1 0 4).bind λv5=>
 bif !v5 then
 (some (((⟨0,(⟨0,[],[]⟩:Qv),[],[]⟩:Rp),false)))
 else
 ((Lp (fN a0 a1 a2) ([],[],0)).bind λy15=>
 Sum.elim (λy16=>
 bif decide (y16.1.length+[a1].length ≤4294967296) then
 ((rZ (⟨a0,v1.1,(y16.1++[a1]),y16.2⟩:Rp)).bind λv18=>
 bif !v18 then
 (some (((⟨0,(⟨0,[],[]⟩:Qv),[],[]⟩:Rp),false)))
 else
 (some (((⟨a0,v1.1,(y16.1++[a1]),y16.2⟩:Rp),true))))
 else none
 )
 (λy20=>
 some y20
 )
 y15)))
theorem yT (a0:Int) (a1:Int) (a2:(List Sc)) (r:(Rp×Bool)) (h:kP a0 a1 a2=some r):HasC Tryz.prog 35 [.int a0,.int a1,.list 2 (a2.map eS)] (.tuple [.agg (eR r.1),.bl r.2]):=by
 refine hM [.cell 6 33,.tmp 7] Tryz.func35 Tryz.ntmps35 k<|sR<|ae (aY aH k k) k<|aT k2<|sR<|am k k<|ln k4<|oB h λv1 hv1 h=>ae (AEff.conv (cH (x:= .tuple [.agg [.int v1.1.n,.own 1 0 (v1.1.src.map eI).length,.own 2 0 (v1.1.tgt.map eI).length],.bl v1.2]) (nb:=[(1,⟨1,bZ (v1.1.src.map eI)⟩),(2,⟨1,bZ (v1.1.tgt.map eI)⟩)]) (tE (a2.length:Int) v1 hv1) k (by rfl) k k (bC (aR aO (aR (cJ.good _) (aR (cJ.good _) dJ))) (bC aO dS)) (cD k aL)) (v':= .tuple [.agg [.int v1.1.n,.own 1 0 v1.1.src.length,.own 2 0 v1.1.tgt.length],.bl v1.2]) (ed':=[(1,some ⟨1,v1.1.src.map (ow eI)⟩),(2,some ⟨1,v1.1.tgt.map (ow eI)⟩)]) (by simp only [aN]) (eG (nb':=[(1,⟨1,v1.1.src.map (ow eI)⟩),(2,⟨1,v1.1.tgt.map (ow eI)⟩)]) (by simp only [cI]))) k<|am k k<|ae (aE k k (by intro _ h;cases h)) k<|ae (aE k k (by intro _ h;cases h)) k<|ae (aY aH k k) k<|ae (ws k) k<|aT k2<|sQ<|sR<|am k k<|ae (dD k) k<|am k k<|iS h (λq2 h=>aD 21 k q2<|aK k4<|ak k k<|pk k3<|am k k<|aK k4<|ak k k<|pk k3<|an<|tn<|cB k k<|sR<|ae (dM aH k k k k k k) k<|ae (ws k) k<|aT k2<|aM (t:=mN [(6,.ptr 0 0 0),(7,.bl false)] [(0,⟨6,[rL]⟩)] 4) (bW (bK k2) (bT k<|aO) k4)<|aB<|aF<|sp h (bB k k k (bV k (aX (dO (aG (k) (aG (k) (aG (k) (aG (k) (aG (k) (aG (k) cO))))))) (aX (k) cP))))) λq2 h=>?_;refine aD 21 k q2<|am k k<|oB h λv3 hv3 h=>ae (aS (jW a0 v3 hv3) k (cD k aL)) k<|ae (dD k) k<|pk k3<|am k k<|iS h (λq4 h=>aD 26 k q4<|aK k4<|ak k k<|pk k3<|an<|tn<|cB k k<|sR<|ae (dM aH k k k k k k) k<|ae (ws k) k<|aT k2<|aM (t:=mN [(6,.ptr 0 0 0),(7,.bl false)] [(0,⟨6,[rL]⟩)] 4) (bW (bK k2) (bT k<|aO) k4)<|aB<|aF<|sp h (bB k k k (bV k (aX (dO (aG (k) (aG (k) (aG (k) (aG (k) (aG (k) (aG (k) cO))))))) (aX (k) cP))))) λq4 h=>?_;refine aD 26 k q4<|am k k<|oB h λv5 hv5 h=>ae (aS (jL a1 0 4 v5 hv5) k (cD k (cD k (cD k aL)))) k<|ae (dD k) k<|pk k3<|an<|tn<|dQ k h (λ_ h=>sR<|ae (dM aH k k k k k k) k<|ae (ws k) k<|aT k2<|aM (t:=mN [(6,.ptr 0 0 0),(7,.bl false)] [(0,⟨6,[rL]⟩)] 4) (bW (bK k2) (bT k<|aO) k4)<|aB<|aF<|sp h (bB k k k (bV k (aX (dO (aG (k) (aG (k) (aG (k) (aG (k) (aG (k) (aG (k) cO))))))) (aX (k) cP))))) λ_ h=>?_;refine aP<|tn<|sR<|am k k<|lp k8<|ae (dM aH k k k k k k) k<|ae (aY aH k k) k<|ae (ws k) k<|an<|tn<|aM (t:=mN [(0,.int a0),(1,.int a1),(2,.list 2 (a2.map eS)),(6,.ptr 0 0 0),(10,.ptr 4 0 0)] [(0,⟨6,[rL]⟩),(1,⟨1,v1.1.src.map (ow eI)⟩),(2,⟨1,v1.1.tgt.map (ow eI)⟩),(4,⟨6,[[.int a0,.int v1.1.n,.own 1 0 v1.1.src.length,.own 2 0 v1.1.tgt.length,.nil 1,.nil 3]]⟩)] 5) (bW (bK k2) (bT k<|bN k<|bN k<|eB k<|aO) k4)<|sQ<|sR<|am k k<|ln k4<|am k k<|an<|tn<|aI<|oB h λy15 hy15 h=>cU (body:=(fN a0 a1 a2)) hy15 (λ(x1:((List Int)×(List Mt)×Int))=>mN [(0,.int a0),(1,.int a1),(6,.ptr 0 0 0),(10,.ptr 1 0 0),(35,.list 2 (a2.map eS)),(36,.int (a2.length:Int)),(37,.int x1.2.2)] [(0,⟨6,[rL]⟩),(1,⟨6,[[.int a0,.int v1.1.n,.own 2 0 v1.1.src.length,.own 3 0 v1.1.tgt.length,.own 4 0 x1.1.length,.own 5 0 x1.2.1.length]]⟩),(2,⟨1,v1.1.src.map (ow eI)⟩),(3,⟨1,v1.1.tgt.map (ow eI)⟩),(4,⟨1,x1.1.map (ow eI)⟩),(5,⟨3,x1.2.1.map (ow eM)⟩)] 6) (λr e t=>Sum.elim (λa=>(λr e t=>e= .exit 0∧Ent t (mN [(1,.int a1),(6,.ptr 0 0 0),(10,.ptr 1 0 0)] [(0,⟨6,[rL]⟩),(1,⟨6,[[.int a0,.int v1.1.n,.own 2 0 v1.1.src.length,.own 3 0 v1.1.tgt.length,.own 4 0 r.1.length,.own 5 0 r.2.length]]⟩),(2,⟨1,v1.1.src.map (ow eI)⟩),(3,⟨1,v1.1.tgt.map (ow eI)⟩),(4,⟨1,r.1.map (ow eI)⟩),(5,⟨3,r.2.map (ow eM)⟩)] 6)) a e t) (λb=>(λr e t=>e= .ret∧sK TT [.cell 6 33,.tmp 7] (.tuple [.agg (eR r.1),.bl r.2]) .ret t) b e t) r) (rA (σ:=sg [(0,0),(1,4),(2,1),(3,2)]) (bK k2) (bT k<|hX ⟨_,k,k,.inr ⟨_,_,k,⟨_,_,k,k,⟨_,_,k,k,⟨_,_,k,⟨k,k,k,k⟩,⟨_,_,k,⟨k,k,k,k⟩,⟨_,_,k,⟨k,k,k,k⟩,⟨_,_,k,⟨k,k,k,k⟩,k⟩⟩⟩⟩⟩⟩,k⟩⟩ k<|bN k<|bN k<|hX k k<|hX k k<|aO) k) ?_ ?_
 ·intro x1 o h;refine sR<|cm k4<|an<|tn<|sQ<|dQ k h (λ_ h=>?_) λ_ h=>bE<|aC<|aC<|sp h ⟨_,k,k,(bW (bK k2) (bT k<|eB k<|bN k<|bN k<|bN k<|eD (fT.plainO _) k<|aO) k4)⟩;refine aP<|tn<|sQ<|aI<|sR<|oB h λv8 hv8 h=>ae (xl hv8 k) k<|lr k7<|ae (aY aH k k) k<|ae (ws k) k<|an<|tn<|sQ<|sR<|am k k<|lp k8<|oB h λv9 hv9 h=>ae (aS (vP a0 v8 v9 hv9) k (cD k (aJ (fK k) aL))) k<|ae (dD k) k<|am k k<|iS h (λq10 h=>aD 45 k q10<|aK k4<|aK k4<|pk k3<|an<|tn<|cB k k<|sR<|ae (dM aH k k k k k k) k<|ae (ws k) k<|aT k2<|aB<|aF<|bO<|aF<|aF<|sp h ⟨_,k,k,bB k k k (bV k (aX (dO (aG (k) (aG (k) (aG (k) (aG (k) (aG (k) (aG (k) cO))))))) (aX (k) cP)))⟩) λq10 h=>?_;refine aD 45 k q10<|fp k8<|lp k8<|am k k<|cm k4<|pk k3<|an<|tn<|dQ k h (λ_ h=>sR<|ae (dM aH k k k k k k) k<|ae (ws k) k<|aT k2<|aB<|aF<|bO<|aF<|aF<|sp h ⟨_,k,k,bB k k k (bV k (aX (dO (aG (k) (aG (k) (aG (k) (aG (k) (aG (k) (aG (k) cO))))))) (aX (k) cP)))⟩) λ_ h=>?_;refine aP<|tn<|sR<|fp k8<|lp k8<|fp k8<|lp k8<|ln k4<|ae (wl k) k<|cG h λq12 h=>ae (iJ aH (l:=x1.1) (m:=[(v8.basis.length:Int)]) jF q12 k k k k k k k k k k k k) k<|fp k8<|ae (ws k) k<|an<|tn<|aM (t:=mN [(0,.int a0),(1,.int a1),(6,.ptr 0 0 0),(10,.ptr 1 0 0),(12,.ptr 6 0 0),(35,.list 2 (a2.map eS)),(36,.int (a2.length:Int)),(37,.int x1.2.2)] [(0,⟨6,[rL]⟩),(1,⟨6,[[.int a0,.int v1.1.n,.own 2 0 v1.1.src.length,.own 3 0 v1.1.tgt.length,.own 8 0 ((x1.1++[(v8.basis.length:Int)]).length),.own 5 0 x1.2.1.length]]⟩),(2,⟨1,v1.1.src.map (ow eI)⟩),(3,⟨1,v1.1.tgt.map (ow eI)⟩),(5,⟨3,x1.2.1.map (ow eM)⟩),(6,⟨2,[eS v8]⟩),(8,⟨1,List.map (ow eI) (x1.1++[(v8.basis.length:Int)])⟩)] 9) (bW (bK k2) (bT k<|eB k<|bN k<|bN k<|eD (fT.plainO _) k<|bT k<|bN k<|aO) k4)<|aW iR<|fp k8<|lp k8<|am k k<|fp k8<|lp k8<|oB h λv13 hv13 h=>ae (cM (vK a1 v8.basis v13 hv13) k3 (cD k (cD k aL))) k<|ae (wl k) k<|cG h λq14 h=>ae (rU aH (l:=x1.2.1) (c:=[.int v13.rows,.int v13.cols,.own 9 0 v13.cells.length]) q14 k k k k k k k k k k k k k k) k<|fp k8<|ae (ws k) k<|an<|sO (by kernel_rfl) ?_;exact aZ<|tn<|aM (t:=mN [(0,.int a0),(1,.int a1),(6,.ptr 0 0 0),(10,.ptr 1 0 0),(35,.list 2 (a2.map eS)),(36,.int (a2.length:Int)),(37,.int x1.2.2)] [(0,⟨6,[rL]⟩),(1,⟨6,[[.int a0,.int v1.1.n,.own 2 0 v1.1.src.length,.own 3 0 v1.1.tgt.length,.own 8 0 ((x1.1++[(v8.basis.length:Int)]).length),.own 11 0 ((x1.2.1++[v13]).length)]]⟩),(2,⟨1,v1.1.src.map (ow eI)⟩),(3,⟨1,v1.1.tgt.map (ow eI)⟩),(8,⟨1,List.map (ow eI) (x1.1++[(v8.basis.length:Int)])⟩),(11,⟨3,List.map (ow eM) (x1.2.1++[v13])⟩)] 12) (Ent.trans (kW (b:=11) (b':=9) (j:=2) (es':=v13.cells.map eI) k k k k (aN _ _) (cJ.frzs _)) (bW (bK k2) (bT k<|hX ⟨_,k,k,.inr ⟨_,_,k,⟨_,_,k,k,⟨_,_,k,k,⟨_,_,k,⟨k,k,k,k⟩,⟨_,_,k,⟨k,k,k,k⟩,⟨_,_,k,⟨k,k,k,k⟩,⟨_,_,k,⟨k,k,(by simp only [aN,lA,lT,lR,lC,lN]),k⟩,k⟩⟩⟩⟩⟩⟩,k⟩⟩ k<|bN k<|bN k<|bN k<|hX ⟨_,k,k,.inl ⟨rV v13 k,fT.plainO _⟩⟩ k<|aO) k4))<|rg<|ae (bL k k) k<|am k k<|an<|tn<|sp h ⟨_,k,(mP [0,1,2,3,8,11] (bK k2) (bT k<|eB k<|bN k<|bN k<|bN k<|eD (fT.plainO _) k<|aO) k4)⟩
 ·intro e t hX;rcases y15 with y16|y20
  ·obtain ⟨rfl,hent⟩:=hX;exact aU<|tn<|aM hent<|sR<|fp k8<|lp k8<|am k k<|ae (wl k) k<|cG h λq17 h=>ae (iJ aH (l:=y16.1) (m:=[a1]) jF q17 k k k k k k k k k k k k) k<|fp k8<|ae (ws k) k<|an<|tn<|sQ<|sR<|lp k8<|oB h λv18 hv18 h=>ae (aS (aBZ (⟨a0,v1.1,(y16.1++[a1]),y16.2⟩:Rp) v18 hv18) k (aJ (vaR k8) aL)) k<|ae (dD k) k<|an<|tn<|dQ k h (λ_ h=>sR<|ae (dM aH k k k k k k) k<|ae (ws k) k<|aT k2<|aB<|aF<|sp h (bB k k k (bV k (aX (dO (aG (k) (aG (k) (aG (k) (aG (k) (aG (k) (aG (k) cO))))))) (aX (k) cP))))) λ_ h=>aP<|tn<|sR<|lp k8<|ae (ws k) k<|aT k2<|aB<|sp h (bB k k k (bV k (aX (dO (aG (k) (aG (k) (aG (dY cJ k k) (aG (dY cJ k k) (aG (dY cJ k k) (aG (dY fT k k) cO))))))) (aX (k) cP))))
  ·obtain ⟨rfl,hent⟩:=hX;exact bO<|aF<|sp h hent
def kQ (a0:Mt) (x1:((List Int)×Int)) (x2:((List Int)×Int)):Option (((List Int)×Int) ⊕ (List Int)):=
 bif decide (x2.2<a0.cols) then
 ((eF a0.cells (wr ((wr (x1.2*a0.cols))+x2.2))).bind λv4=>
 (eF x2.1 (wr ((wr (x2.2*a0.rows))+x1.2))).bind λv5=>
 some (.inl ((x2.1.set ((wr ((wr (x2.2*a0.rows))+x1.2)).toNat) v4),wr (x2.2+1))))
 else
 (some (.inr x2.1))
def kR (a0:Mt) (x1:((List Int)×Int)):Option (((List Int)×Int) ⊕ (List Int)):=
 bif decide (x1.2<a0.rows) then
 ((Lp (kQ a0 x1) (x1.1,0)).bind λy6=>
 some (.inl (y6,wr (x1.2+1))))
 else
 (some (.inr x1.1))
def kF (a0:Mt):Option Mt:=
 (nL a0.cols a0.rows).bind λv1=>
 (Lp (kR a0) (v1.cells,0)).bind λy7=>
 some ((⟨v1.rows,v1.cols,y7⟩:Mt))
theorem vQ (a0:Mt) (r:Mt) (h:kF a0=some r):HasC Tryz.prog 122 [.agg (eM a0)] (.agg (eM r)):=by
 refine hM [.cell 2 81] Tryz.func122 Tryz.ntmps122 k<|sR<|ae (wb k) k<|ae (aY aH k k) k<|an<|tn<|sR<|fp k8<|lp k8<|fp k8<|lp k8<|oB h λv1 hv1 h=>ae (cM (wR a0.cols a0.rows v1 hv1) k3 (cD k (cD k aL))) k<|ae (aY aH k k) k<|ae (ws k) k<|an<|tn<|sQ<|sR<|aT k2<|aI<|oB h λy7 hy7 h=>cU (body:=(kR a0)) hy7 (λ(x1:((List Int)×Int))=>mN [(1,.ptr 0 0 0),(2,.ptr 1 0 0),(3,.ptr 2 0 0),(4,.int x1.2)] [(0,⟨3,[eM a0]⟩),(1,⟨3,[mD]⟩),(2,⟨3,[[.int v1.rows,.int v1.cols,.own 3 0 x1.1.length]]⟩),(3,⟨1,x1.1.map (ow eI)⟩)] 4) (λr e t=>e= .exit 0∧Ent t (mN [(2,.ptr 0 0 0),(3,.ptr 1 0 0)] [(0,⟨3,[mD]⟩),(1,⟨3,[[.int v1.rows,.int v1.cols,.own 2 0 r.length]]⟩),(2,⟨1,r.map (ow eI)⟩)] 3)) (mP [0,1,3,2] (bK k2) (bT k<|bT k<|eB k<|bN k<|aO) k4) ?_ ?_
 ·intro x1 o h;refine sQ<|sR<|am k k<|fp k8<|lp k8<|cm k4<|an<|tn<|dQ k h (λ_ h=>?_) λ_ h=>bE<|aC<|aC<|sp h ⟨_,k,k,(mP [1,2,3] (bK k2) (bT k<|eB k<|bN k<|aO) k4)⟩;refine aP<|tn<|sQ<|aI<|sR<|aT k2<|aI<|oB h λy6 hy6 h=>cU (body:=(kQ a0 x1)) hy6 (λ(x2:((List Int)×Int))=>mN [(1,.ptr 0 0 0),(2,.ptr 1 0 0),(3,.ptr 2 0 0),(4,.int x1.2),(5,.int x2.2)] [(0,⟨3,[eM a0]⟩),(1,⟨3,[mD]⟩),(2,⟨3,[[.int v1.rows,.int v1.cols,.own 3 0 x2.1.length]]⟩),(3,⟨1,x2.1.map (ow eI)⟩)] 4) (λr e t=>e= .exit 2∧Ent t (mN [(1,.ptr 0 0 0),(2,.ptr 1 0 0),(3,.ptr 2 0 0),(4,.int x1.2)] [(0,⟨3,[eM a0]⟩),(1,⟨3,[mD]⟩),(2,⟨3,[[.int v1.rows,.int v1.cols,.own 3 0 r.length]]⟩),(3,⟨1,r.map (ow eI)⟩)] 4)) (bW (bK k2) (bT k<|bT k<|eB k<|bN k<|aO) k4) ?_ ?_
  ·intro x2 o h;refine sQ<|sR<|am k k<|fp k8<|lp k8<|cm k4<|an<|tn<|dQ k h (λ_ h=>?_) λ_ h=>bE<|aC<|aC<|sp h ⟨_,k,k,(bW (bK k2) (bT k<|bT k<|eB k<|bN k<|aO) k4)⟩;refine aP<|tn<|sQ<|aI<|aW iR<|fp k8<|lp k8<|am k k<|fp k8<|lp k8<|ae (gN k k) k<|am k k<|ae (bL k k) k<|fp k8<|lp k8<|am k k<|fp k8<|lp k8<|ae (gN k k) k<|am k k<|ae (bL k k) k<|oB h λv4 hv4 h=>ae (xl hv4 k) k<|lr k7<|oB h λv5 hv5 h=>ae (xo hv5 k) k<|ae (iU aH jF (u:=v4) (gW hv5) k k k k k k) k<|an<|sO (by kernel_rfl)<|aZ<|tn ?_;exact aM (t:=mN [(1,.ptr 0 0 0),(2,.ptr 1 0 0),(3,.ptr 2 0 0),(4,.int x1.2),(5,.int x2.2)] [(0,⟨3,[eM a0]⟩),(1,⟨3,[mD]⟩),(2,⟨3,[[.int v1.rows,.int v1.cols,.own 3 0 ((x2.1.set ((wr ((wr (x2.2*a0.rows))+x1.2)).toNat) v4).length)]]⟩),(3,⟨1,List.map (ow eI) (x2.1.set ((wr ((wr (x2.2*a0.rows))+x1.2)).toNat) v4)⟩)] 4) (bW (bK k2) (bT k<|bT k<|hX ⟨_,k,k,.inr ⟨_,_,k,⟨_,_,k,k,⟨_,_,k,k,⟨_,_,k,⟨k,k,(by simp only [aN,lA,lT,lR,lC,lN]),k⟩,k⟩⟩⟩,k⟩⟩ k<|bN k<|aO) k4)<|rg<|am k k<|ae (bL k k) k<|aT k2<|sp h ⟨_,k,(bW (bK k2) (bT k<|bT k<|eB k<|bN k<|aO) k4)⟩
  ·rintro e t ⟨rfl,hent⟩;exact aU<|aZ<|tn<|aM hent<|rg<|am k k<|ae (bL k k) k<|aT k2<|sp h ⟨_,k,(bW (bK k2) (bT k<|bT k<|eB k<|bN k<|aO) k4)⟩
 ·rintro e t ⟨rfl,hent⟩;exact aU<|tn<|aM hent<|sR<|lp k8<|ae (ws k) k<|an<|tn<|aB<|sp h (bB k k k (rT (aG (k) (aG (k) (aG (dY cJ k k) cO)))))
def pM (a0:Int) (a1:Int) (a2:(List (List Int))) (x1:Int):Option (Int ⊕ (Unit ⊕ Bool)):=
 bif decide (x1<(a2.length:Int)) then
 ((eF a2 x1).bind λv2=>
 bif !decide ((v2.length:Int)=a1) then
 (some (.inr (.inr (false))))
 else
 ((eF a2 x1).bind λv4=>
 (nH a0 v4).bind λv5=>
 bif !v5 then
 (some (.inr (.inr (false))))
 else
 (some (.inl (wr (x1+1))))))
 else
 (some (.inr (.inl ())))
def tH (a0:Int) (a1:Int) (a2:(List (List Int))):Option Bool:=
 (Lp (pM a0 a1 a2) 0).bind λy7=>
 Sum.elim (λy8=>
 (jV a0).bind λv9=>
 bif v9 then
 ((gA a1 0 8).bind λv11=>
 bif v11 then
 (some (decide ((a2.length:Int)≤16)))
 else
 (some (false)))
 else
 (some (false))
 )
 (λy13=>
 some y13
 )
 y7
theorem aEU (a0:Int) (a1:Int) (a2:(List (List Int))) (r:Bool) (h:tH a0 a1 a2=some r):HasC Tryz.prog 184 [.int a0,.int a1,.list 1 (a2.map (cW 1 eI))] (.bl r):=by
 refine hM [.tmp 6] Tryz.func184 Tryz.ntmps184 k<|sR<|aT k2<|sQ<|sR<|aT k2<|aI<|oB h λy7 hy7 h=>cU (body:=(pM a0 a1 a2)) hy7 (λ(x1:Int)=>mN [(0,.int a0),(1,.int a1),(2,.list 1 (a2.map (cW 1 eI))),(7,.int x1)] [] 0) (λr e t=>Sum.elim (λa=>(λr e t=>e= .exit 0∧Ent t (mN [(0,.int a0),(1,.int a1),(2,.list 1 (a2.map (cW 1 eI)))] [] 0)) a e t) (λb=>(λr e t=>e= .ret∧sK TT [.tmp 6] (.bl r) .ret t) b e t) r) (bW (bK k2) aO k4) ?_ ?_
 ·intro x1 o h;exact sQ<|sR<|am k k<|am k k<|ln k4<|cm k4<|an<|tn<|dQ k h (λ_ h=>aP<|tn<|sQ<|aI<|sR<|am k k<|am k k<|oB h λv2 hv2 h=>ae (xl hv2 k) k<|lr k7<|ln k4<|am k k<|cm k4<|am k k<|iS h (λq3 h=>aD 21 k q3<|aK k4<|aK k4<|aK k4<|ak k k<|pk k3<|an<|tn<|cB k k<|sR<|aT k2<|aB<|bO<|aF<|aF<|sp h ⟨_,k,k,bB k k k (oK k)⟩) λq3 h=>aD 21 k q3<|am k k<|am k k<|am k k<|oB h λv4 hv4 h=>ae (xl hv4 k) k<|lr k7<|oB h λv5 hv5 h=>ae (aS (yI a0 v4 v5 hv5) k (cD k (cD k aL))) k<|ae (dD k) k<|pk k3<|an<|tn<|dQ k h (λ_ h=>sR<|aT k2<|aB<|bO<|aF<|aF<|sp h ⟨_,k,k,bB k k k (oK k)⟩) λ_ h=>aP<|aZ<|tn<|rg<|am k k<|ae (bL k k) k<|aT k2<|sp h ⟨_,k,(bW (bK k2) aO k4)⟩) λ_ h=>bE<|aC<|aC<|sp h ⟨_,k,k,(bW (bK k2) aO k4)⟩
 ·intro e t hX;rcases y7 with y8|y13
  ·obtain ⟨rfl,hent⟩:=hX;exact aU<|tn<|aM hent<|sR<|am k k<|oB h λv9 hv9 h=>ae (aS (oR a0 v9 hv9) k (cD k aL)) k<|am k k<|iS h (λq10 h=>aD 32 k q10<|am k k<|oB h λv11 hv11 h=>ae (aS (jM a1 0 8 v11 hv11) k (cD k (cD k (cD k aL)))) k<|pk k3<|am k k<|iS h (λq12 h=>aD 36 k q12<|am k k<|ln k4<|cm k4<|pk k3<|aT k2<|aB<|fS h k2) λq12 h=>aD 36 k q12<|aK k4<|ak k k<|pk k3<|aT k2<|aB<|fS h k2) λq10 h=>aD 32 k q10<|aK k4<|pk k3<|am k k<|aK k4<|ak k k<|pk k3<|aT k2<|aB<|fS h k2
  ·obtain ⟨rfl,hent⟩:=hX;exact bO<|aF<|sp h hent
def mJ (a0:(List (List Int))) (a1:(List (List Int))) (x1:Int) (x2:Int):Option (Int ⊕ (Unit ⊕ Bool)):=
 (eF a0 x1).bind λv6=>
 bif decide (x2<(v6.length:Int)) then
 ((eF a0 x1).bind λv8=>
 (eF v8 x2).bind λv9=>
 (eF a1 x1).bind λv10=>
 (eF v10 x2).bind λv11=>
 bif !decide (v9=v11) then
 (some (.inr (.inr (false))))
 else
 (some (.inl (wr (x2+1)))))
 else
 (some (.inr (.inl ())))
def pN (a0:(List (List Int))) (a1:(List (List Int))) (x1:Int):Option (Int ⊕ (Unit ⊕ Bool)):=
 bif decide (x1<(a0.length:Int)) then
 ((eF a0 x1).bind λv3=>
 (eF a1 x1).bind λv4=>
 bif !decide ((v3.length:Int)=(v4.length:Int)) then
 (some (.inr (.inr (false))))
 else
 ((Lp (mJ a0 a1 x1) 0).bind λy13=>
 Sum.elim (λy14=>
 some (.inl (wr (x1+1)))
 )
 (λy15=>
 some (.inr (.inr y15))
 )
 y13))
 else
 (some (.inr (.inl ())))
def qG (a0:(List (List Int))) (a1:(List (List Int))):Option Bool:=
 bif !decide ((a0.length:Int)=(a1.length:Int)) then
 (some (false))
 else
 ((Lp (pN a0 a1) 0).bind λy16=>
 Sum.elim (λy17=>
 some (true)
 )
 (λy18=>
 some y18
 )
 y16)
theorem aAR (a0:(List (List Int))) (a1:(List (List Int))) (r:Bool) (h:qG a0 a1=some r):HasC Tryz.prog 185 [.list 1 (a0.map (cW 1 eI)),.list 1 (a1.map (cW 1 eI))] (.bl r):=by
 refine hM [.tmp 4] Tryz.func185 Tryz.ntmps185 k<|sR<|aT k2<|sQ<|sR<|am k k<|ln k4<|am k k<|ln k4<|cm k4<|an<|tn<|dQ k h (λ_ h=>sR<|aT k2<|aB<|aF<|fS h k2) λ_ h=>?_;refine aP<|tn<|sQ<|sR<|aT k2<|aI<|oB h λy16 hy16 h=>cU (body:=(pN a0 a1)) hy16 (λ(x1:Int)=>mN [(0,.list 1 (a0.map (cW 1 eI))),(1,.list 1 (a1.map (cW 1 eI))),(5,.int x1)] [] 0) (λr e t=>Sum.elim (λa=>(λr e t=>e= .exit 0∧Ent t (mN [] [] 0)) a e t) (λb=>(λr e t=>e= .ret∧sK TT [.tmp 4] (.bl r) .ret t) b e t) r) (bW (bK k2) aO k4) ?_ ?_
 ·intro x1 o h;refine sQ<|sR<|am k k<|am k k<|ln k4<|cm k4<|an<|tn<|dQ k h (λ_ h=>?_) λ_ h=>bE<|aC<|aC<|sp h ⟨_,k,k,(bW aO aO k4)⟩;refine aP<|tn<|sQ<|aI<|sQ<|sQ<|aW iR<|am k k<|am k k<|oB h λv3 hv3 h=>ae (xl hv3 k) k<|lr k7<|ln k4<|am k k<|am k k<|oB h λv4 hv4 h=>ae (xl hv4 k) k<|lr k7<|ln k4<|cm k4<|an<|sO (by kernel_rfl)<|tn<|dQ k h (λ_ h=>sR<|aT k2<|aB<|aF<|bO<|aF<|aF<|sp h ⟨_,k,k,bB k k k (oK k)⟩) λ_ h=>?_;refine aP<|tn<|sR<|aT k2<|aI<|oB h λy13 hy13 h=>cU (body:=(mJ a0 a1 x1)) hy13 (λ(x2:Int)=>mN [(0,.list 1 (a0.map (cW 1 eI))),(1,.list 1 (a1.map (cW 1 eI))),(5,.int x1),(6,.int x2)] [] 0) (λr e t=>Sum.elim (λa=>(λr e t=>e= .exit 2∧Ent t (mN [(0,.list 1 (a0.map (cW 1 eI))),(1,.list 1 (a1.map (cW 1 eI))),(5,.int x1)] [] 0)) a e t) (λb=>(λr e t=>e= .ret∧sK TT [.tmp 4] (.bl r) .ret t) b e t) r) (bW (bK k2) aO k4) ?_ ?_
  ·intro x2 o h;exact sQ<|sR<|am k k<|am k k<|am k k<|oB h λv6 hv6 h=>ae (xl hv6 k) k<|lr k7<|ln k4<|cm k4<|an<|tn<|dQ k h (λ_ h=>aP<|tn<|sQ<|aI<|sQ<|aW iR<|am k k<|am k k<|oB h λv8 hv8 h=>ae (xl hv8 k) k<|lr k7<|am k k<|oB h λv9 hv9 h=>ae (xl hv9 k) k<|lr k7<|am k k<|am k k<|oB h λv10 hv10 h=>ae (xl hv10 k) k<|lr k7<|am k k<|oB h λv11 hv11 h=>ae (xl hv11 k) k<|lr k7<|cm k4<|an<|sO (by kernel_rfl)<|tn<|dQ k h (λ_ h=>sR<|aT k2<|aB<|bO<|aF<|aF<|sp h ⟨_,k,k,bB k k k (oK k)⟩) λ_ h=>aP<|aZ<|tn<|rg<|am k k<|ae (bL k k) k<|aT k2<|sp h ⟨_,k,(bW (bK k2) aO k4)⟩) λ_ h=>bE<|aC<|aC<|sp h ⟨_,k,k,(bW (bK k2) aO k4)⟩
  ·intro e t hX;rcases y13 with y14|y15
   ·obtain ⟨rfl,hent⟩:=hX;exact aU<|aZ<|tn<|aM hent<|rg<|am k k<|ae (bL k k) k<|aT k2<|sp h ⟨_,k,(bW (bK k2) aO k4)⟩
   ·obtain ⟨rfl,hent⟩:=hX;exact bO<|bO<|aF<|aF<|sp h ⟨_,k,k,hent⟩
 ·intro e t hX;rcases y16 with y17|y18
  ·obtain ⟨rfl,hent⟩:=hX;exact aU<|tn<|aM hent<|sR<|aT k2<|aB<|fS h k2
  ·obtain ⟨rfl,hent⟩:=hX;exact bO<|aF<|sp h hent
def iQ (a0:Int) (a1:Sc):Option Bool:=
 (tH a0 a1.size a1.basis).bind λv1=>
 bif !v1 then
 (some (false))
 else
 ((lH a1.size a1.basis).bind λv3=>
 (oV a0 v3).bind λv4=>
 (qG v4 a1.basis).bind λv5=>
 some (v5))
theorem oW (a0:Int) (a1:Sc) (r:Bool) (h:iQ a0 a1=some r):HasC Tryz.prog 121 [.int a0,.agg (eS a1)] (.bl r):=by
 exact hM [.tmp 4] Tryz.func121 Tryz.ntmps121 k<|sR<|ae (wb k) k<|aT k2<|sQ<|sR<|am k k<|fp k8<|lp k8<|fp k8<|lp k8<|oB h λv1 hv1 h=>ae (aS (aEU a0 a1.size a1.basis v1 hv1) k (cD k (cD k (cD k aL)))) k<|ae (dD k) k<|an<|tn<|dQ k h (λ_ h=>sR<|aT k2<|aB<|aF<|fS h k2) λ_ h=>aP<|tn<|sQ<|aW iR<|am k k<|fp k8<|lp k8<|fp k8<|lp k8<|oB h λv3 hv3 h=>ae (cM (tF a1.size a1.basis v3 hv3) k3 (cD k (cD k aL))) k<|oB h λv4 hv4 h=>ae (cL cA (zL a0 v3 v4 hv4) k3 (cD k (aJ (vaM k2) aL))) k<|fp k8<|lp k8<|oB h λv5 hv5 h=>ae (aS (aAR v4 a1.basis v5 hv5) k (aJ (aAF cA k k) (cD k aL))) k<|aa k k<|an<|sO (by kernel_rfl)<|tn<|aB<|fS h k2
def tI (a0:Qv):Option Qv:=
 bif decide (([]:(List Int)).length +a0.src.length≤4294967296) then
 (bif decide (([]:(List Int)).length +a0.tgt.length≤4294967296) then
 (some ((⟨a0.n,(([]:(List Int))++a0.src),(([]:(List Int))++a0.tgt)⟩:Qv)))
 else none)
 else none
theorem aEV (a0:Qv) (r:Qv) (h:tI a0=some r):HasC Tryz.prog 164 [.agg (eQ a0)] (.agg (eQ r)):=by
 exact hM [.cell 2 26] Tryz.func164 Tryz.ntmps164 k<|sR<|ae (wb k) k<|ae (aY aH k k) k<|an<|tn<|sQ<|aW iR<|fp k8<|lp k8<|ae (wl k) k<|fp k8<|lp k8<|cG h λq1 h=>ae (iJ aH (l:=([]:(List Int))) (m:=a0.src) jF q1 k k k k k k k k k k k k) k<|ae (wl k) k<|fp k8<|lp k8<|cG h λq2 h=>ae (iJ aH (l:=([]:(List Int))) (m:=a0.tgt) jF q2 k k k k k k k k k k k k) k<|ae (dM aH k k k k k k) k<|ae (ws k) k<|an<|sO (by kernel_rfl)<|tn<|aB<|sp h (bB k k k (rT (aG (k) (aG (dY cJ k k) (aG (dY cJ k k) cO)))))
def iD (a1:Qv) (a2:(List Int)) (x1:((List Mt)×Int)):Option (((List Mt)×Int) ⊕ (List Mt)):=
 bif decide (x1.2<(a1.src.length:Int)) then
 ((eF a1.tgt x1.2).bind λv4=>
 (eF a2 v4).bind λv5=>
 (eF a1.src x1.2).bind λv6=>
 (eF a2 v6).bind λv7=>
 (nL v5 v7).bind λv8=>
 bif decide (x1.1.length+1≤4294967296) then
 (some (.inl ((x1.1++[v8]),wr (x1.2+1))))
 else none)
 else
 (some (.inr x1.1))
def nN (a0:Int) (a1:Qv) (a2:(List Int)):Option Rp:=
 (tI a1).bind λv1=>
 bif decide (([]:(List Int)).length +a2.length≤4294967296) then
 ((Lp (iD a1 a2) (([]:(List Mt)),0)).bind λy10=>
 some ((⟨a0,v1,(([]:(List Int))++a2),y10⟩:Rp)))
 else none
theorem aAS (a0:Int) (a1:Qv) (a2:(List Int)) (r:Rp) (h:nN a0 a1 a2=some r):HasC Tryz.prog 77 [.int a0,.agg (eQ a1),.list 1 (a2.map eI)] (.agg (eR r)):=by
 refine hM [.cell 6 33] Tryz.func77 Tryz.ntmps77 k<|sR<|ae (wb k) k<|ae (aY aH k k) k<|an<|tn<|sR<|am k k<|lp k8<|oB h λv1 hv1 h=>ae (cQ (aEV a1 v1 hv1) k3 (aJ (fK k) aL)) k<|ae (wl k) k<|am k k<|cG h λq2 h=>ae (iJ aH (l:=([]:(List Int))) (m:=a2) jF q2 k k k k k k k k k k k k) k<|ae (wl k) k<|ae (dM aH k k k k k k) k<|ae (aY aH k k) k<|ae (ws k) k<|an<|tn<|aM (t:=mN [(2,.list 1 (a2.map eI)),(4,.ptr 0 0 0),(6,.ptr 1 0 0),(7,.ptr 7 0 0)] [(0,⟨3,[eQ a1]⟩),(1,⟨6,[rL]⟩),(2,⟨1,v1.src.map (ow eI)⟩),(3,⟨1,v1.tgt.map (ow eI)⟩),(5,⟨1,List.map (ow eI) (([]:(List Int))++a2)⟩),(6,⟨3,List.map (ow eM) ([]:(List Mt))⟩),(7,⟨6,[[.int a0,.int v1.n,.own 2 0 v1.src.length,.own 3 0 v1.tgt.length,.own 5 0 ((([]:(List Int))++a2).length),.own 6 0 (([]:(List Mt)).length)]]⟩)] 8) (bW (bK k2) (bT k<|bT k<|bN k<|bN k<|bN k<|eD (fT.plainO _) k<|hX ⟨_,k,k,.inr ⟨_,_,k,⟨_,_,k,k,⟨_,_,k,k,⟨_,_,k,⟨k,k,k,k⟩,⟨_,_,k,⟨k,k,k,k⟩,⟨_,_,k,⟨k,k,k,k⟩,⟨_,_,k,⟨k,k,(by simp only [aN,lA,lT,lR,lC,lN]),k⟩,k⟩⟩⟩⟩⟩⟩,k⟩⟩ k<|aO) k4)<|sQ<|sR<|aT k2<|aI<|oB h λy10 hy10 h=>cU (body:=(iD a1 a2)) hy10 (λ(x1:((List Mt)×Int))=>mN [(2,.list 1 (a2.map eI)),(4,.ptr 0 0 0),(6,.ptr 1 0 0),(7,.ptr 2 0 0),(8,.int x1.2)] [(0,⟨3,[eQ a1]⟩),(1,⟨6,[rL]⟩),(2,⟨6,[[.int a0,.int v1.n,.own 3 0 v1.src.length,.own 4 0 v1.tgt.length,.own 5 0 ((([]:(List Int))++a2).length),.own 6 0 x1.1.length]]⟩),(3,⟨1,v1.src.map (ow eI)⟩),(4,⟨1,v1.tgt.map (ow eI)⟩),(5,⟨1,List.map (ow eI) (([]:(List Int))++a2)⟩),(6,⟨3,x1.1.map (ow eM)⟩)] 7) (λr e t=>e= .exit 0∧Ent t (mN [(6,.ptr 0 0 0),(7,.ptr 1 0 0)] [(0,⟨6,[rL]⟩),(1,⟨6,[[.int a0,.int v1.n,.own 2 0 v1.src.length,.own 3 0 v1.tgt.length,.own 4 0 ((([]:(List Int))++a2).length),.own 5 0 r.length]]⟩),(2,⟨1,v1.src.map (ow eI)⟩),(3,⟨1,v1.tgt.map (ow eI)⟩),(4,⟨1,List.map (ow eI) (([]:(List Int))++a2)⟩),(5,⟨3,r.map (ow eM)⟩)] 6)) (mP [0,1,7,2,3,5,6] (bK k2) (bT k<|bT k<|eB k<|bN k<|bN k<|bN k<|eD (fT.plainO _) k<|aO) k4) ?_ ?_
 ·intro x1 o h;refine sQ<|sR<|am k k<|fp k8<|lp k8<|ln k4<|cm k4<|an<|tn<|dQ k h (λ_ h=>?_) λ_ h=>bE<|aC<|aC<|sp h ⟨_,k,k,(mP [1,2,3,4,5,6] (bK k2) (bT k<|eB k<|bN k<|bN k<|bN k<|eD (fT.plainO _) k<|aO) k4)⟩;refine aP<|tn<|sQ<|aI<|aW iR<|fp k8<|lp k8<|am k k<|fp k8<|lp k8<|am k k<|oB h λv4 hv4 h=>ae (xl hv4 k) k<|lr k7<|oB h λv5 hv5 h=>ae (xl hv5 k) k<|lr k7<|am k k<|fp k8<|lp k8<|am k k<|oB h λv6 hv6 h=>ae (xl hv6 k) k<|lr k7<|oB h λv7 hv7 h=>ae (xl hv7 k) k<|lr k7<|oB h λv8 hv8 h=>ae (cM (wR v5 v7 v8 hv8) k3 (cD k (cD k aL))) k<|ae (wl k) k<|cG h λq9 h=>ae (rU aH (l:=x1.1) (c:=[.int v8.rows,.int v8.cols,.own 7 0 v8.cells.length]) q9 k k k k k k k k k k k k k k) k<|fp k8<|ae (ws k) k<|an ?_;exact sO (by kernel_rfl)<|aZ<|tn<|aM (t:=mN [(2,.list 1 (a2.map eI)),(4,.ptr 0 0 0),(6,.ptr 1 0 0),(7,.ptr 2 0 0),(8,.int x1.2)] [(0,⟨3,[eQ a1]⟩),(1,⟨6,[rL]⟩),(2,⟨6,[[.int a0,.int v1.n,.own 3 0 v1.src.length,.own 4 0 v1.tgt.length,.own 5 0 ((([]:(List Int))++a2).length),.own 9 0 ((x1.1++[v8]).length)]]⟩),(3,⟨1,v1.src.map (ow eI)⟩),(4,⟨1,v1.tgt.map (ow eI)⟩),(5,⟨1,List.map (ow eI) (([]:(List Int))++a2)⟩),(9,⟨3,List.map (ow eM) (x1.1++[v8])⟩)] 10) (Ent.trans (kW (b:=9) (b':=7) (j:=2) (es':=v8.cells.map eI) k k k k (aN _ _) (cJ.frzs _)) (bW (bK k2) (bT k<|bT k<|hX ⟨_,k,k,.inr ⟨_,_,k,⟨_,_,k,k,⟨_,_,k,k,⟨_,_,k,⟨k,k,k,k⟩,⟨_,_,k,⟨k,k,k,k⟩,⟨_,_,k,⟨k,k,k,k⟩,⟨_,_,k,⟨k,k,(by simp only [aN,lA,lT,lR,lC,lN]),k⟩,k⟩⟩⟩⟩⟩⟩,k⟩⟩ k<|bN k<|bN k<|bN k<|hX ⟨_,k,k,.inl ⟨rV v8 k,fT.plainO _⟩⟩ k<|aO) k4))<|rg<|am k k<|ae (bL k k) k<|aT k2<|sp h ⟨_,k,(mP [0,1,2,3,4,5,9] (bK k2) (bT k<|bT k<|eB k<|bN k<|bN k<|bN k<|eD (fT.plainO _) k<|aO) k4)⟩
 ·rintro e t ⟨rfl,hent⟩;exact aU<|tn<|aM hent<|sR<|lp k8<|ae (ws k) k<|an<|tn<|aB<|sp h (bB k k k (rT (aG (k) (aG (k) (aG (dY cJ k k) (aG (dY cJ k k) (aG (dY cJ k k) (aG (dY fT k k) cO))))))))
def fP (a0:Int) (a1:Int) (a2:(List Sc)) (x1:((List Int)×Int)):Option (((List Int)×Int) ⊕ ((List Int) ⊕ (Rp×Bool))):=
 bif decide (x1.2<(a2.length:Int)) then
 ((eF a2 x1.2).bind λv8=>
 (iQ a0 v8).bind λv9=>
 bif !v9 then
 (some (.inr (.inr (((⟨0,(⟨0,[],[]⟩:Qv),[],[]⟩:Rp),false)))))
 else
 ((eF a2 x1.2).bind λv11=>
 bif !decide (v11.size=a1) then
 (some (.inr (.inr (((⟨0,(⟨0,[],[]⟩:Qv),[],[]⟩:Rp),false)))))
 else
 ((eF a2 x1.2).bind λv13=>
 bif decide (x1.1.length+[(v13.basis.length:Int)].length ≤4294967296) then
 (some (.inl ((x1.1++[(v13.basis.length:Int)]),wr (x1.2+1))))
 else none)))
 else
 (some (.inr (.inl x1.1)))
def iM (a1:Int) (a2:(List Sc)) (x2:((List Mt)×Int)):Option (((List Mt)×Int) ⊕ (List Mt)):=
 bif decide (x2.2<(a2.length:Int)) then
 ((eF a2 x2.2).bind λv22=>
 (lH a1 v22.basis).bind λv23=>
 (kF v23).bind λv24=>
 (eF x2.1 x2.2).bind λv25=>
 some (.inl ((x2.1.set x2.2.toNat v24),wr (x2.2+1))))
 else
 (some (.inr x2.1))
def hJ (a0:Int) (a1:Int) (a2:(List Sc)):Option (Rp×Bool):=
 (gL (a2.length:Int)).bind λv1=>
 bif !v1.2 then
 (some (((⟨0,(⟨0,[],[]⟩:Qv),[],[]⟩:Rp),false)))
 else
 ((jV a0).bind λv3=>
 bif !v3 then
 (some (((⟨0,(⟨0,[],[]⟩:Qv),[],[]⟩:Rp),false)))
 else
 ((gA a1 0 4).bind λv5=>
 bif !v5 then
 (some (((⟨0,(⟨0,[],[]⟩:Qv),[],[]⟩:Rp),false)))
 else
 ((Lp (fP a0 a1 a2) (([]:(List Int)),0)).bind λy15=>
 Sum.elim (λy16=>
 bif decide (y16.length+[a1].length ≤4294967296) then
 ((oS v1.1 (y16++[a1])).bind λv18=>
 bif !v18 then
 (some (((⟨0,(⟨0,[],[]⟩:Qv),[],[]⟩:Rp),false)))
 else
 ((nN a0 v1.1 (y16++[a1])).bind λv20=>
 (Lp (iM a1 a2) (v20.maps,0)).bind λy26=>
 some (((⟨v20.p,v20.q,v20.dims,y26⟩:Rp),true))))
 else none
 )
 (λy27=>
 some y27
 )
 y15)))
theorem sS (a0:Int) (a1:Int) (a2:(List Sc)) (r:(Rp×Bool)) (h:hJ a0 a1 a2=some r):HasC Tryz.prog 36 [.int a0,.int a1,.list 2 (a2.map eS)] (.tuple [.agg (eR r.1),.bl r.2]):=by
 refine hM [.cell 6 33,.tmp 7] Tryz.func36 Tryz.ntmps36 k<|sR<|ae (aY aH k k) k<|aT k2<|sR<|am k k<|ln k4<|oB h λv1 hv1 h=>ae (AEff.conv (cH (x:= .tuple [.agg [.int v1.1.n,.own 1 0 (v1.1.src.map eI).length,.own 2 0 (v1.1.tgt.map eI).length],.bl v1.2]) (nb:=[(1,⟨1,bZ (v1.1.src.map eI)⟩),(2,⟨1,bZ (v1.1.tgt.map eI)⟩)]) (nM (a2.length:Int) v1 hv1) k (by rfl) k k (bC (aR aO (aR (cJ.good _) (aR (cJ.good _) dJ))) (bC aO dS)) (cD k aL)) (v':= .tuple [.agg [.int v1.1.n,.own 1 0 v1.1.src.length,.own 2 0 v1.1.tgt.length],.bl v1.2]) (ed':=[(1,some ⟨1,v1.1.src.map (ow eI)⟩),(2,some ⟨1,v1.1.tgt.map (ow eI)⟩)]) (by simp only [aN]) (eG (nb':=[(1,⟨1,v1.1.src.map (ow eI)⟩),(2,⟨1,v1.1.tgt.map (ow eI)⟩)]) (by simp only [cI]))) k<|am k k<|ae (aE k k (by intro _ h;cases h)) k<|ae (aE k k (by intro _ h;cases h)) k<|ae (aY aH k k) k<|ae (ws k) k<|aT k2<|sQ<|sR<|am k k<|ae (dD k) k<|am k k<|iS h (λq2 h=>aD 22 k q2<|aK k4<|ak k k<|pk k3<|am k k<|aK k4<|ak k k<|pk k3<|an<|tn<|cB k k<|sR<|ae (dM aH k k k k k k) k<|ae (ws k) k<|aT k2<|aM (t:=mN [(6,.ptr 0 0 0),(7,.bl false)] [(0,⟨6,[rL]⟩)] 4) (bW (bK k2) (bT k<|aO) k4)<|aB<|aF<|sp h (bB k k k (bV k (aX (dO (aG (k) (aG (k) (aG (k) (aG (k) (aG (k) (aG (k) cO))))))) (aX (k) cP))))) λq2 h=>?_;refine aD 22 k q2<|am k k<|oB h λv3 hv3 h=>ae (aS (oR a0 v3 hv3) k (cD k aL)) k<|ae (dD k) k<|pk k3<|am k k<|iS h (λq4 h=>aD 27 k q4<|aK k4<|ak k k<|pk k3<|an<|tn<|cB k k<|sR<|ae (dM aH k k k k k k) k<|ae (ws k) k<|aT k2<|aM (t:=mN [(6,.ptr 0 0 0),(7,.bl false)] [(0,⟨6,[rL]⟩)] 4) (bW (bK k2) (bT k<|aO) k4)<|aB<|aF<|sp h (bB k k k (bV k (aX (dO (aG (k) (aG (k) (aG (k) (aG (k) (aG (k) (aG (k) cO))))))) (aX (k) cP))))) λq4 h=>?_;refine aD 27 k q4<|am k k<|oB h λv5 hv5 h=>ae (aS (jM a1 0 4 v5 hv5) k (cD k (cD k (cD k aL)))) k<|ae (dD k) k<|pk k3<|an<|tn<|dQ k h (λ_ h=>sR<|ae (dM aH k k k k k k) k<|ae (ws k) k<|aT k2<|aM (t:=mN [(6,.ptr 0 0 0),(7,.bl false)] [(0,⟨6,[rL]⟩)] 4) (bW (bK k2) (bT k<|aO) k4)<|aB<|aF<|sp h (bB k k k (bV k (aX (dO (aG (k) (aG (k) (aG (k) (aG (k) (aG (k) (aG (k) cO))))))) (aX (k) cP))))) λ_ h=>?_;refine aP<|tn<|sR<|ae (wl k) k<|aT k2<|aM (t:=mN [(0,.int a0),(1,.int a1),(2,.list 2 (a2.map eS)),(6,.ptr 0 0 0),(8,.ptr 3 0 0),(10,.own 4 0 (([]:(List Int)).length))] [(0,⟨6,[rL]⟩),(1,⟨1,v1.1.src.map (ow eI)⟩),(2,⟨1,v1.1.tgt.map (ow eI)⟩),(3,⟨3,[oQv v1.1 1 2]⟩),(4,⟨1,List.map (ow eI) ([]:(List Int))⟩)] 5) (bW (uA 5 k2 (sJ ⟨_,k,⟨k,k,(by simp only [aN,lA,lT,lR,lC,lN]),k⟩⟩ aO)) (bT k<|bN k<|bN k<|eB k<|bN k<|aO) k4)<|sQ<|sR<|aT k2<|aI<|oB h λy15 hy15 h=>cU (body:=(fP a0 a1 a2)) hy15 (λ(x1:((List Int)×Int))=>mN [(0,.int a0),(1,.int a1),(2,.list 2 (a2.map eS)),(6,.ptr 0 0 0),(8,.ptr 1 0 0),(10,.own 4 0 x1.1.length),(11,.int x1.2)] [(0,⟨6,[rL]⟩),(1,⟨3,[oQv v1.1 2 3]⟩),(2,⟨1,v1.1.src.map (ow eI)⟩),(3,⟨1,v1.1.tgt.map (ow eI)⟩),(4,⟨1,x1.1.map (ow eI)⟩)] 5) (λr e t=>Sum.elim (λa=>(λr e t=>e= .exit 0∧Ent t (mN [(0,.int a0),(1,.int a1),(2,.list 2 (a2.map eS)),(6,.ptr 0 0 0),(8,.ptr 1 0 0),(10,.own 4 0 r.length)] [(0,⟨6,[rL]⟩),(1,⟨3,[oQv v1.1 2 3]⟩),(2,⟨1,v1.1.src.map (ow eI)⟩),(3,⟨1,v1.1.tgt.map (ow eI)⟩),(4,⟨1,r.map (ow eI)⟩)] 5)) a e t) (λb=>(λr e t=>e= .ret∧sK TT [.cell 6 33,.tmp 7] (.tuple [.agg (eR r.1),.bl r.2]) .ret t) b e t) r) (mP [0,3,1,2,4] (bK k2) (bT k<|eB k<|bN k<|bN k<|bN k<|aO) k4) ?_ ?_
 ·intro x1 o h;refine sQ<|sR<|am k k<|am k k<|ln k4<|cm k4<|an<|tn<|dQ k h (λ_ h=>?_) λ_ h=>bE<|aC<|aC<|sp h ⟨_,k,k,(bW (bK k2) (bT k<|eB k<|bN k<|bN k<|bN k<|aO) k4)⟩;refine aP<|tn<|sQ<|aI<|sQ<|sR<|am k k<|am k k<|am k k<|oB h λv8 hv8 h=>ae (xl hv8 k) k<|lr k7<|oB h λv9 hv9 h=>ae (aS (oW a0 v8 v9 hv9) k (cD k (aJ (fK k) aL))) k<|ae (dD k) k<|am k k<|iS h (λq10 h=>aD 47 k q10<|aK k4<|aK k4<|aK k4<|ak k k<|pk k3<|an<|tn<|cB k k<|sR<|ae (dM aH k k k k k k) k<|ae (ws k) k<|aT k2<|aB<|aF<|bO<|aF<|aF<|sp h ⟨_,k,k,bB k k k (bV k (aX (dO (aG (k) (aG (k) (aG (k) (aG (k) (aG (k) (aG (k) cO))))))) (aX (k) cP)))⟩) λq10 h=>?_;exact aD 47 k q10<|am k k<|am k k<|oB h λv11 hv11 h=>ae (xl hv11 k) k<|ae (rI aH k k k k k k) k<|lr k7<|am k k<|cm k4<|pk k3<|an<|tn<|dQ k h (λ_ h=>sR<|ae (dM aH k k k k k k) k<|ae (ws k) k<|aT k2<|aB<|aF<|bO<|aF<|aF<|sp h ⟨_,k,k,bB k k k (bV k (aX (dO (aG (k) (aG (k) (aG (k) (aG (k) (aG (k) (aG (k) cO))))))) (aX (k) cP)))⟩) λ_ h=>aP<|tn<|rg<|am k k<|am k k<|am k k<|oB h λv13 hv13 h=>ae (xl hv13 k) k<|ae (rI aH k k k k k k) k<|lr k7<|ln k4<|ae (wl k) k<|cG h λq14 h=>ae (iJ aH (l:=x1.1) (m:=[(v13.basis.length:Int)]) jF q14 k k k k k k k k k k k k) k<|aa k k<|an<|aZ<|tn<|aM (t:=mN [(0,.int a0),(1,.int a1),(2,.list 2 (a2.map eS)),(6,.ptr 0 0 0),(8,.ptr 1 0 0),(10,.own 6 0 ((x1.1++[(v13.basis.length:Int)]).length)),(11,.int x1.2)] [(0,⟨6,[rL]⟩),(1,⟨3,[oQv v1.1 2 3]⟩),(2,⟨1,v1.1.src.map (ow eI)⟩),(3,⟨1,v1.1.tgt.map (ow eI)⟩),(6,⟨1,List.map (ow eI) (x1.1++[(v13.basis.length:Int)])⟩)] 7) (bW (bK k2) (bT k<|eB k<|bN k<|bN k<|bN k<|aO) k4)<|rg<|am k k<|ae (bL k k) k<|aT k2<|sp h ⟨_,k,(mP [0,1,2,3,6] (bK k2) (bT k<|eB k<|bN k<|bN k<|bN k<|aO) k4)⟩
 ·intro e t hX;rcases y15 with y16|y27
  ·obtain ⟨rfl,hent⟩:=hX;refine aU<|tn<|aM hent<|sR<|am k k<|am k k<|ae (wl k) k<|cG h λq17 h=>ae (iJ aH (l:=y16) (m:=[a1]) jF q17 k k k k k k k k k k k k) k<|aT k2<|sQ<|sR<|lp k8<|am k k<|oB h λv18 hv18 h=>ae (aS (zH v1.1 (y16++[a1]) v18 hv18) k (aJ (vaQ k4) (vcT k k aL))) k<|ae (dD k) k<|an<|tn<|dQ k h (λ_ h=>sR<|ae (dM aH k k k k k k) k<|ae (ws k) k<|aT k2<|aB<|aF<|sp h (bB k k k (bV k (aX (dO (aG (k) (aG (k) (aG (k) (aG (k) (aG (k) (aG (k) cO))))))) (aX (k) cP))))) λ_ h=>?_;refine aP<|tn<|sR<|am k k<|lp k8<|am k k<|oB h λv20 hv20 h=>ae (cR (aAS a0 v1.1 (y16++[a1]) v20 hv20) k3 (cD k (aJ (vaQ k4) (vcT k k aL)))) k<|ae (aY aH k k) k<|ae (ws k) k<|an<|tn<|sQ<|sR<|aT k2<|aI<|oB h λy26 hy26 h=>cU (body:=(iM a1 a2)) hy26 (λ(x2:((List Mt)×Int))=>mN [(1,.int a1),(2,.list 2 (a2.map eS)),(6,.ptr 0 0 0),(12,.ptr 1 0 0),(13,.int x2.2)] [(0,⟨6,[rL]⟩),(1,⟨6,[[.int v20.p,.int v20.q.n,.own 2 0 v20.q.src.length,.own 3 0 v20.q.tgt.length,.own 4 0 v20.dims.length,.own 5 0 x2.1.length]]⟩),(2,⟨1,v20.q.src.map (ow eI)⟩),(3,⟨1,v20.q.tgt.map (ow eI)⟩),(4,⟨1,v20.dims.map (ow eI)⟩),(5,⟨3,x2.1.map (ow eM)⟩)] 6) (λr e t=>e= .exit 2∧Ent t (mN [(6,.ptr 0 0 0),(12,.ptr 1 0 0)] [(0,⟨6,[rL]⟩),(1,⟨6,[[.int v20.p,.int v20.q.n,.own 2 0 v20.q.src.length,.own 3 0 v20.q.tgt.length,.own 4 0 v20.dims.length,.own 5 0 r.length]]⟩),(2,⟨1,v20.q.src.map (ow eI)⟩),(3,⟨1,v20.q.tgt.map (ow eI)⟩),(4,⟨1,v20.dims.map (ow eI)⟩),(5,⟨3,r.map (ow eM)⟩)] 6)) (mP [0,11,7,8,9,10] (bK k2) (bT k<|eB k<|bN k<|bN k<|bN k<|eD (fT.plainO _) k<|aO) k4) ?_ ?_
   ·intro x2 o h;refine sQ<|sR<|am k k<|am k k<|ln k4<|cm k4<|an<|tn<|dQ k h (λ_ h=>?_) λ_ h=>bE<|aC<|aC<|sp h ⟨_,k,k,(bW (bK k2) (bT k<|eB k<|bN k<|bN k<|bN k<|eD (fT.plainO _) k<|aO) k4)⟩;exact aP<|tn<|sQ<|aI<|aW iR<|fp k8<|lp k8<|am k k<|am k k<|am k k<|am k k<|oB h λv22 hv22 h=>ae (xl hv22 k) k<|ae (rI aH k k k k k k) k<|lr k7<|oB h λv23 hv23 h=>ae (cM (tF a1 v22.basis v23 hv23) k3 (cD k (cD k aL))) k<|oB h λv24 hv24 h=>ae (cM (vQ v23 v24 hv24) k3 (aJ (vaM k2) aL)) k<|oB h λv25 hv25 h=>ae (xo hv25 k) k<|ae (zX aH k k k k k k (rB (gW hv25)) k) k<|an<|sO (by kernel_rfl)<|aZ<|tn<|rg<|am k k<|ae (bL k k) k<|aT k2<|sp h ⟨_,k,(Ent.trans (show Ent _ (mN [(1,.int a1),(2,.list 2 (a2.map eS)),(6,.ptr 0 0 0),(12,.ptr 1 0 0),(13,.int (wr (x2.2+1)))] [(0,⟨6,[rL]⟩),(1,⟨6,[[.int v20.p,.int v20.q.n,.own 2 0 v20.q.src.length,.own 3 0 v20.q.tgt.length,.own 4 0 v20.dims.length,.own 5 0 ((x2.1.set x2.2.toNat v24).length)]]⟩),(2,⟨1,v20.q.src.map (ow eI)⟩),(3,⟨1,v20.q.tgt.map (ow eI)⟩),(4,⟨1,v20.dims.map (ow eI)⟩),(5,⟨3,List.map (ow eM) (x2.1.set x2.2.toNat v24)⟩)] 8) from (Ent.trans (aDe (b:=5) (b':=7) (j:=2) (es':=v24.cells.map eI) (by rw [jS];exact aGA hv25) k k k k (aN _ _) (cJ.frzs _)) (bW (bK k2) (bT k<|hX ⟨_,k,k,.inr ⟨_,_,k,⟨_,_,k,k,⟨_,_,k,k,⟨_,_,k,⟨k,k,k,k⟩,⟨_,_,k,⟨k,k,k,k⟩,⟨_,_,k,⟨k,k,k,k⟩,⟨_,_,k,⟨k,k,(by simp only [aN,lA,lT,lR,lC,lN]),k⟩,k⟩⟩⟩⟩⟩⟩,k⟩⟩ k<|bN k<|bN k<|bN k<|hX ⟨_,k,k,.inl ⟨aGI v24 k,fT.plainO _⟩⟩ k<|aO) k4))) (bW (bK k2) (bT k<|eB k<|bN k<|bN k<|bN k<|eD (fT.plainO _) k<|aO) k4))⟩
   ·rintro e t ⟨rfl,hent⟩;exact aU<|tn<|aM hent<|sR<|lp k8<|ae (ws k) k<|aT k2<|aB<|sp h (bB k k k (bV k (aX (dO (aG (k) (aG (k) (aG (dY cJ k k) (aG (dY cJ k k) (aG (dY cJ k k) (aG (dY fT k k) cO))))))) (aX (k) cP))))
  ·obtain ⟨rfl,hent⟩:=hX;exact bO<|aF<|sp h hent
end
noncomputable section
theorem aBg {l:List (List Int)} {n:Nat} (h: ∀ v∈l,v.length=n):l=(List.range l.length).map λi=>jE n (bD l i):=by
 refine List.ext_getElem (by simp) λi h1 h2=>?_;simp only [List.getElem_map,List.getElem_range];refine List.ext_getElem (by rw [kC];exact h _ (List.getElem_mem h1)) λj h3 h4=>?_;simp [jE,bD,h1,h3]
theorem aFY {l:List (List Int)} {n:Nat} (h: ∀ v∈l,v.length=n):l.flatten=dE l.length n (bD l):=by
 have e:l.flatten=((List.range l.length).map λi=>jE n (bD l i)).flatten:=by rw [←aBg h]
 rw [e,aHZ]
theorem aGP {p:Int} (hp:iI p=true) {n:Nat} {l:List (List Int)} (hn:n≤1024) (hl:l.length≤512) (h:VecsP p n l):Tb p l.length n (bD l):=by
 refine ⟨hp,?_,by omega,by omega,h.inP⟩;have:=Nat.mul_le_mul hl hn;omega
theorem aHa {r c i:Nat} (hN:r*c≤1048576) (hr:r≤1048576) (hi:i<r) (F:Nat→Nat→Int):((dE r c F).drop (0+(i*c))).take ((i*c+c) - i*c)=jE c (F i):=by
 have h:= @aFT r c i hi;rw [Nat.succ_mul] at h;refine List.ext_getElem (by simp [jT,kC];omega) λt h1 h2=>?_;rw [kC] at h2;rw [List.getElem_take,List.getElem_drop];simp [dE,jE,aGC h2,aGD h2]
theorem aAT (F:Nat→Nat→Int) (r n:Nat):fH F r n=(List.range r).map λi=>jE n (F i):=rfl
theorem aAU (F:Nat→Nat→Int) (r n:Nat):fH F r n++[jE n (F r)]=fH F (r+1) n:=by
 rw [aAT,aAT,List.range_succ,List.map_append];rfl
theorem aIf {n:Nat} {l:List (List Int)} (hn:n≤1024) (hl:l.length≤512) (h: ∀ v∈l,v.length=n):qU n l=some ⟨l.length,n,dE l.length n (bD l)⟩:=by
 unfold qU;rw [aLn hl (λv hv=>by rw [h v hv];exact hn),aA,aFY h]
theorem xY {p:Int} (hp:iI p=true) {n:Nat} {l:List (List Int)} (hn:n≤1024) (hl:l.length≤512) (h:VecsP p n l):oT p n l=some ⟨n,dW p n l⟩:=by
 have T:=aGP hp hn hl h;have hL:= @mB p l.length (bD l) n;have h1:=T.hN;unfold oT;rw [aIf hn hl (λv hv=>(h v hv).1),aA,aBe T,aA];rw [fV (r:=dW p n l) (λk=>(fH (bA p l.length (bD l) n).1 k n,(k:Int))) (bA p l.length (bD l) n).2.length (by simp [fH]) (λk hk=>?_) (λ_=>?_),aA]
 ·have hkl:k<l.length:=by omega
  have h3:= @aFT l.length n k hkl;rw [Nat.succ_mul] at h3;unfold sB;simp only;rw [dP,nR hk,aQ,aDp T.hN T.hm hkl,aA,sA T.hN hkl,uE T.hN T.hm hkl];simp only [fL];rw [aHa T.hN T.hm hkl];unfold aBV;rw [kC,bG (by omega),aQ,aA,mR,bG (by omega),aQ,aAU,dI hk (by omega)]
 ·unfold sB;simp only;rw [dP,qA (bY _),aV];rfl
theorem aBh {n:Nat} {l:List (List Int)} (hn:n≤1024) (hl:l.length≤512) (h: ∀ v∈l,v.length=n):lH n l=some ⟨l.length,n,dE l.length n (bD l)⟩:=by
 have hb: ∀ k,(l.take k).flatten.length ≤1024*512:=λk=>by
  have:=aFX (l:=l.take k) λx hx=>by rw [h x (List.mem_of_mem_take hx)];exact hn
  have h2:(l.take k).length ≤512:=by simp;omega
  omega
 unfold lH;rw [fV (r:=l.flatten) (λk=>((l.take k).flatten,(k:Int))) l.length (by simp) (λk hk=>?_) (λ_=>?_),aA,aFY h]
 ·unfold pL;simp only;have e2:=hb (k+1);rw [uY hk,List.length_append] at e2;rw [nR hk,aQ,eA hk,aA,bG (by omega),aQ,dI hk (by omega),uY hk]
 ·unfold pL;simp only;rw [qA (bY _),aV,List.take_length]
theorem aFZ {p:Int} {m n:Nat} {F:Nat→Nat→Int} (T:Tb p m n F):oV p ⟨m,n,dE m n F⟩=some (fH (bA p m F n).1 (bA p m F n).2.length n):=by
 have hL:= @mB p m F n;have hm:=T.hm;have hn:=T.hn;unfold oV;rw [xX T,aA];rw [fV (r:=fH (bA p m F n).1 (bA p m F n).2.length n) (λk=>(fH (bA p m F n).1 k n,(k:Int))) (bA p m F n).2.length (by simp [fH]) (λk hk=>?_) (λ_=>?_),aA]
 ·have hkl:k<m:=by omega
  have h3:= @aFT m n k hkl;rw [Nat.succ_mul] at h3;have h4:=T.hN;have e:wr (wr ((k:Int)*(n:Int))+(n:Int))=((k*n+n:Nat):Int):=by rw [sA T.hN hkl,dV (by omega)];omega
  unfold oE;simp only;rw [dP,nR hk,aQ,e,sA T.hN hkl,jT,bG (by omega),bG (by omega:((k*n:Nat):Int)≤((k*n+n:Nat):Int)),bG (by omega:((k*n+n:Nat):Int)≤((m*n:Nat):Int))];simp only [fL,Bool.and_self,aQ,aHa T.hN T.hm hkl];rw [kC,bG (by simp;omega),aQ,mR,bG (by omega),aQ,List.nil_append,aAU,dI hk (by omega)]
 ·unfold oE;simp only;rw [dP,qA (bY _),aV]
theorem aBi {p:Int} (hp:iI p=true) {n:Nat} {l:List (List Int)} (hn:n≤1024) (hl:l.length≤512) (h:VecsP p n l):lI p n l=some ⟨n,dW p n l⟩:=by
 unfold lI;rw [aBh hn hl (λv hv=>(h v hv).1),aA,aFZ (aGP hp hn hl h),aA];rfl
def bLs (l:List (List Int)):Prop:=l.length≤1048576∧ ∀ v∈l,bI v
theorem aLp (p:Int) (v:List Int):(iI p&&decide (v.length≤64)&&v.all λx=>rR x 0 (wr (p - 1)))=aAj p v:=by
 unfold aAj;cases h:iI p with
 |false=>rfl
 |true=>rw [dV (by have:=eP h;omega)]
theorem aDD (p size:Int) (l:List (List Int)):aBS p size l=(iI p&&rR size 0 8&&decide (l.length≤16)&&l.all λv=>decide ((v.length:Int)=size)&&aAj p v):=rfl
theorem aGQ {l:List (List Int)} {f:List Int→Option Bool} (P:List Int→Bool) (hf: ∀ x∈l,f x=some (P x)) (h:l.length≤1048576):eW l f=some (l.any P):=by
 unfold eW iO;rw [zY (s0:=0) (s:=0) (n:=l.length) (λk=>bif P (l[k]?.getD []) then some (k:Int) else none) rfl (by omega) (Nat.zero_le _) (λk _ hk=>?_) (λ_=>?_)]
 ·rw [aA];cases e:(List.range' 0 (l.length - 0)).findSome? (λk:Nat=>bif P (l[k]?.getD []) then some (k:Int) else none) with
  |none=>
   rw [List.findSome?_eq_none_iff] at e
   have:l.any P=false:=by
    rw [List.any_eq_false];intro x hx;obtain ⟨k,hk,rfl⟩:=List.mem_iff_getElem.1 hx;have:=e k (by simp;omega);simp only [gZ hk,jJ] at this;cases hp:P l[k] with
    |false=>simp
    |true=>rw [hp] at this;cases this
   rw [this];rfl
  |some i=>
   obtain ⟨k,hk,he⟩:=List.exists_of_findSome?_eq_some e;simp at hk;have hkl:k<l.length:=by omega
   rw [gZ hkl] at he;simp only [jJ] at he;cases hp:P l[k] with
   |false=>rw [hp] at he;cases he
   |true=>
    rw [hp] at he;cases he;have:l.any P=true:=List.any_eq_true.2 ⟨_,List.getElem_mem hkl,hp⟩;rw [this];simp only [Sum.elim_inr,aA];rw [bG (by omega)]
 ·unfold eV;rw [nR hk,aQ,atG [] hk,aA,hf _ (eK [] hk),aA];cases P _ <;> rfl
 ·unfold eV;rw [qA (bY _),aV]
theorem aGR (p n:Int) {l:List (List Int)} (h:bLs l):oF p n l=some (rR n 0 8&&(decide (l.length≤16)&&l.all λv=>decide ((v.length:Int)=n)&&aAj p v)):=by
 unfold oF;rw [tR,aA];refine gX λ_=>?_;rw [show decide ((l.length:Int)≤16)=decide (l.length≤16) by rw [Bool.eq_iff_iff,iT,iT];omega];refine gX λ_=>?_;rw [aGQ (λv=> !(decide ((v.length:Int)=n)&&aAj p v)) (λv hv=>?_) h.1,aA,List.not_any_eq_all_not]
 ·simp
 ·unfold lP;cases decide ((v.length:Int)=n) with
  |false=>rfl
  |true=>rw [dC,aV,aFR p (h.2 v hv),aA,aLp,Bool.true_and]
theorem aKS {a b:List (List Int)} (h:bLs a):dT a b (λb0 b1=>iP b0 b1)=some (decide (a=b)):=by
 obtain ⟨h,hb⟩:=h;unfold dT;rw [aBa];by_cases e:a.length=b.length
 ·rw [bG e,dC,aV];refine aDm (by omega) e (λk h1 h2=>?_) ?_
  ·unfold dN iP;simp only;rw [nR h1,aQ,eA h1,aA,eA h2,aA,aCK (hb _ (List.getElem_mem h1)),aA,aA];cases decide (a[k]=b[k]) <;> rfl
  ·unfold dN;rw [qA (bY _),aV]
 ·rw [dU e,Bool.not_false,aQ,dU (by rintro rfl;exact e rfl)]
theorem aAV {a b:Sc} (h:bLs a.basis):kE a b=some (decide (a.size=b.size)&&decide (a.basis=b.basis)):=by
 unfold kE;refine gX λ_=>?_;rw [aKS h,aA]
theorem aNr {p:Int} {n:Nat} {l:List (List Int)} (hl:l.length≤1048576) (hn:n≤1048576) (h:VecsP p n l):bLs l:=⟨hl,λv hv=>by unfold bI;rw [(h v hv).1];exact hn⟩
theorem aBj {p:Int} (hp:iI p=true) {n:Nat} {l:List (List Int)} (hn:n≤1048576) (h:VecsP p n l):bLs (dW p n l):=aNr (by have:=(@xF p n l).1;omega) hn (aCC hp h.inP)
theorem wU (p:Int) {s:Sc} (h:bS s):mI p s=some (fW p s.size s.basis):=by
 unfold mI fW;rw [xV,aA,aGR p s.size h.1,aA,aDD];cases hf:iI p with
 |false=>simp
 |true=>
  rw [dC,aV];cases hv:(rR s.size 0 8&&(decide (s.basis.length≤16)&&s.basis.all λv=>decide ((v.length:Int)=s.size)&&aAj p v)) with
  |false=>
   have hx:(true&&rR s.size 0 8&&decide (s.basis.length≤16)&&s.basis.all λv=>decide ((v.length:Int)=s.size)&&aAj p v)=false:=by rw [Bool.true_and,Bool.and_assoc];exact hv
   rw [hx];rfl
  |true=>
   have hfine:aBS p s.size s.basis=true:=by rw [aDD,hf];simp only [Bool.true_and,Bool.and_assoc];exact hv
   obtain ⟨_,n,e,hn,hl,hv2⟩:=zE hfine;rw [dC,aV,e,xY hf (by omega) (by omega) hv2,aA,aAV (aBj hf (by omega) hv2),aA];rw [e] at hfine;rw [aDD,hf] at hfine;rw [hfine];simp [e]
theorem aLq (p n:Int) {l:List (List Int)} (h:bLs l):tH p n l=some (aBS p n l):=by
 unfold tH;have hall:=uV ([]:List Int) l (λv=>decide ((v.length:Int)=n)&&aAj p v);have hb:=h.1;rw [vF (λk=>decide ((((l[k]?.getD []).length:Nat):Int)=n)&&aAj p (l[k]?.getD [])) false (n:=l.length) (by omega) (λk hk=>?_) (λ_=>?_),aA,hall,aDD]
 ·cases l.all λv=>decide ((v.length:Int)=n)&&aAj p v with
  |false=>simp
  |true=>
   simp only [aQ,Sum.elim_inl];rw [aBb,aA,uD,aA,Bool.and_true,Bool.and_assoc];refine gX λ_=>?_;refine gX λ_=>?_;congr 1;rw [Bool.eq_iff_iff,iT,iT];omega
 ·unfold pM;rw [nR hk,aQ,atG [] hk,aA,aA,aFQ p (h.2 _ (eK [] hk)),aA,aLp];cases decide ((((l[k]?.getD []).length:Nat):Int)=n) <;> cases aAj p (l[k]?.getD []) <;> rfl
 ·unfold pM;rw [qA (bY _),aV]
theorem aHb {a b:List (List Int)} (h:bLs a):qG a b=some (decide (a=b)):=by
 obtain ⟨h,hb⟩:=h;unfold qG;rw [aBa];by_cases e:a.length=b.length
 ·rw [bG e,dC,aV];refine aDm (by omega) e (λk h1 h2=>?_) ?_
  ·have hbk:=hb _ (List.getElem_mem h1);unfold bI at hbk;unfold pN;rw [nR h1,aQ,eA h1,aA,eA h2,aA,aBa];by_cases e2:a[k].length=b[k].length
   ·rw [bG e2,dC,aV];have h3:=vF (body:=mJ a b k) (λj=>decide (a[k][j]?.getD 0=b[k][j]?.getD 0)) false (n:=a[k].length) (by omega) (λj hj=>?_) ?_
    ·rw [h3,aHD e2,aA];cases decide (a[k]=b[k]) <;> rfl
    ·unfold mJ;rw [eA h1,aA,nR hj,aQ,aA,atG 0 hj,aA,eA h2,aA,atG 0 (e2▸hj),aA];cases decide (a[k][j]?.getD 0=b[k][j]?.getD 0) <;> rfl
    ·intro _;unfold mJ;rw [eA h1,aA,qA (bY _),aV]
   ·rw [dU e2,Bool.not_false,aQ,dU (λe3=>e2 (by rw [e3])),aV]
  ·unfold pN;rw [qA (bY _),aV]
 ·rw [dU e,Bool.not_false,aQ,dU (by rintro rfl;exact e rfl)]
theorem iN (p:Int) {s:Sc} (h:bS s):iQ p s=some (fW p s.size s.basis):=by
 unfold iQ fW;rw [aLq p s.size h.1,aA];cases hf:aBS p s.size s.basis with
 |false=>rfl
 |true=>
  obtain ⟨hp,n,e,hn,hl,hv⟩:=zE hf;rw [dC,aV,e,aBh (by omega) (by omega) (λv hv'=>(hv v hv').1),aA,aFZ (aGP hp (by omega) (by omega) hv),aA,show fH (bA p s.basis.length (bD s.basis) n).1 (bA p s.basis.length (bD s.basis) n).2.length n=dW p n s.basis from rfl,aHb (aBj hp (by omega) hv),aA];simp
end
noncomputable section
set_option maxRecDepth 10000
set_option maxHeartbeats 4000000
end
noncomputable section
set_option maxRecDepth 10000
set_option maxHeartbeats 4000000
end
end Go.Proofs.YtgkfbfiiaphgoaaGreat

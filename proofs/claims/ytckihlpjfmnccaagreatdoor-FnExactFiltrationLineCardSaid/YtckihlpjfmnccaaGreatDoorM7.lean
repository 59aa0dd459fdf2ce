/- Several texts. -/
import Derived.Lib.AppendZerosOnto
import Derived.Test.YtckihlpjfmnccaaGreatDoorProg
import Derived.Test.YtckihlpjfmnccaaGreatDoorM6
set_option linter.unusedVariables false
set_option linter.unusedSimpArgs false
set_option maxRecDepth 10000
set_option maxHeartbeats 4000000
namespace Go.Proofs.YtckihlpjfmnccaaGreatDoor
open Go.RowKit
section
theorem k {α:Sort _} {a:α} :a=a:=rfl
section
variable {P:Program} {ops:Array Oper} {nt:Nat} {r:List Oper} {s:AState} {tr:List Tr} {K:List Tr->AState->Prop} {K':AState->Prop}
def opB (ops:Array Oper) (nt:Nat) (s:AState) (o:Oper) (news:List Nat):Bool:=aAj o nt&&((match iT ops s.env o with|some true=>true|_=>false)&&news.all λb=> !s.used b)
theorem aCm {o:Oper} {news:List Nat} (h:opB ops nt s o news=true):aAj o nt=true/\iT ops s.env o=some true/\(news.all λb=> !s.used b)=true:=by
 simp only [opB,cD] at h;obtain ⟨h1,h2,h3⟩:=h;refine ⟨h1,?_,h3⟩;split at h2
 ·assumption
 ·cases h2
theorem ae {d:Option Tmp} {op:Op} {ty:TypeId} {pos:String} {aft:Array Edge} {g:Option (Nat×Bool)} {e:Eff} (he:AEff P ⟨d,op,ty,pos,aft,g⟩ s.ev s.heap s.kp e) (hb:opB ops nt s ⟨d,op,ty,pos,aft,g⟩ e.news=true) (h:AOps P ops nt r (s.app d e) (nZ e::tr) K):AOps P ops nt (⟨d,op,ty,pos,aft,g⟩::r) s tr K:=
 aEw he (aCm hb).1 (aCm hb).2.1 (aCm hb).2.2 h
theorem am {d:Option Tmp} {ty:TypeId} {pos:String} {aft:Array Edge} {g:Option (Nat×Bool)} {x:Operand} {v:AV} (hx:s.ev x=some v) (hb:opB ops nt s ⟨d,.move x,ty,pos,aft,g⟩ []=true) (h:AOps P ops nt r (s.app d ⟨v,[],[],[]⟩) (nZ ⟨v,[],[],[]⟩::tr) K):AOps P ops nt (⟨d,.move x,ty,pos,aft,g⟩::r) s tr K:=ae (aEl hx) hb h
theorem aa {d:Option Tmp} {ty:TypeId} {pos:String} {aft:Array Edge} {g:Option (Nat×Bool)} {x:Operand} {v:AV} (hx:s.ev x=some v) (hb:opB ops nt s ⟨d,.assign x,ty,pos,aft,g⟩ []=true) (h:AOps P ops nt r (s.app d ⟨v,[],[],[]⟩) (nZ ⟨v,[],[],[]⟩::tr) K):AOps P ops nt (⟨d,.assign x,ty,pos,aft,g⟩::r) s tr K:=ae (aCV hx) hb h
theorem an (h:K tr s):AOps P ops nt [] s tr K:=aEv h
variable {Q:Exit->AState->Prop}
theorem sQ {x y:Code} (h:AC P nt x s (pN (λs'=>AC P nt y s' Q) Q)):AC P nt (.seq x y) s Q:=aHM h
theorem rg {id:Nat} {l:List Oper} (h:AOps P l.toArray nt l s [] (λ_ s'=>Q .normal s')):AC P nt (.region id l.toArray false) s Q:=aDq h
theorem tn (h:K' s):pN K' Q .normal s:=h
end
theorem ak {P:Program} {ops:Array Oper} {nt:Nat} {r:List Oper} {s:AState} {tr:List Tr} {K:List Tr->AState->Prop} {d:Option Tmp} {op:Op} {ty:TypeId} {pos:String} {aft:Array Edge} {g:Option (Nat×Bool)} (hg:iT ops s.env ⟨d,op,ty,pos,aft,g⟩=some false) (hd:aAj ⟨d,op,ty,pos,aft,g⟩ nt=true) (h:AOps P ops nt r ⟨zE d (.tuple []) s.env,s.heap,s.used,s.ns,s.kp⟩ (⟨[],[]⟩::tr) K):AOps P ops nt (⟨d,op,ty,pos,aft,g⟩::r) s tr K:=aDr hg hd h
section
variable {σ:Nat->Option Nat} {n b b0 k:Nat} {h:Hp} {r:List (Nat×Blk)}
theorem hB {y:Blk} (hp:qV y.es) (hs:σ b=some b0) (hb:h b0=some y) (hn:Nat.blt b n=true) (hr:kX σ n h r):kX σ n h ((b,y)::r):=by
 simp only [kX];rw [hs];exact ⟨⟨y,hb,rfl,.inl ⟨rfl,hp⟩⟩,hn,hr⟩
theorem hX {y:Blk} (hm:match σ b with|some b0=> ∃ x,h b0=some x/\rY σ n x y|none=>y.es=[]) (hn:Nat.blt b n=true) (hr:kX σ n h r):kX σ n h ((b,y)::r):=⟨hm,hn,hr⟩
end
theorem aIc {P:Program} {T:List (Nat×Ty)} (hT:TyOk P T) {dst:Option Tmp} {pos:String} {aft:Array Edge} {g:Option (Nat×Bool)} {s:AState} {x:Operand} {t e k:Nat} {y:Ty} {dty:TypeId} {α:Type} {f:α->List AV} {l:List α} (hx:s.ev x=some (.list k (List.map f l))) (hy:cI T t=some y) (hd:y.desc= .slice e):
  AEff P ⟨dst,.call ⟨.builtin .len,#[x],#[t]⟩,dty,pos,aft,g⟩ s.ev s.heap s.kp ⟨.int l.length,[],[],[]⟩:=AEff.val (aCd hT hx hy hd) (by rw [dD])
theorem lA {α:Type} {a b:List α} :(a++b).length=a.length+b.length:=List.length_append
theorem lT {α:Type} {a:List α} {i:Nat} {x:α} :(a.set i x).length=a.length:=List.length_set
theorem lR {α:Type} {n:Nat} {x:α} :(List.replicate n x).length=n:=List.length_replicate
theorem lC {α:Type} {a:α} {b:List α} :(a::b).length=b.length+1:=List.length_cons
theorem lN {α:Type} :([]:List α).length=0:=List.length_nil
theorem aCn:([]:List AV).all pO=true:=rfl
theorem pE {d:AV} {ds:List AV} (h1:pO d=true) (h2:ds.all pO=true):(d::ds).all pO=true:=by
 rw [List.all_cons,h1,h2];rfl
theorem k2 {αa:Sort _} {a:αa} {αb:Sort _} {b:αb} :a=a/\b=b:=⟨rfl,rfl⟩
theorem k3 {αa:Sort _} {a:αa} {αb:Sort _} {b:αb} {αc:Sort _} {c:αc} :a=a/\b=b/\c=c:=⟨rfl,rfl,rfl⟩
theorem k4 {αa:Sort _} {a:αa} {αb:Sort _} {b:αb} {αc:Sort _} {c:αc} {αd:Sort _} {d:αd} :a=a/\b=b/\c=c/\d=d:=⟨rfl,rfl,rfl,rfl⟩
theorem k7 {αa:Sort _} {a:αa} {αb:Sort _} {b:αb} {αc:Sort _} {c:αc} {αd:Sort _} {d:αd} {αe:Sort _} {e:αe} {αf:Sort _} {f:αf} {αg:Sort _} {g:αg} :a=a/\b=b/\c=c/\d=d/\e=e/\f=f/\g=g:=⟨rfl,rfl,rfl,rfl,rfl,rfl,rfl⟩
theorem k8 {αa:Sort _} {a:αa} {αb:Sort _} {b:αb} {αc:Sort _} {c:αc} {αd:Sort _} {d:αd} {αe:Sort _} {e:αe} {αf:Sort _} {f:αf} {αg:Sort _} {g:αg} {αh:Sort _} {h:αh} :a=a/\b=b/\c=c/\d=d/\e=e/\f=f/\g=g/\h=h:=⟨rfl,rfl,rfl,rfl,rfl,rfl,rfl,rfl⟩
section
variable {ops:Array Oper} {nt:Nat} {r:List Oper} {s:AState} {tr:List Tr} {K:List Tr->AState->Prop} {K':AState->Prop} {d:Option Tmp} {ty:TypeId} {pos:String} {aft:Array Edge} {g:Option (Nat×Bool)}
theorem lp {x:Operand} {t:Nat} {y:Ty} {b i j:Nat} {blk:Blk} {cs:List AV} {v:AV} (h:s.ev x=some (.ptr b i j)/\s.heap b=some blk/\cI TT t=some y/\(y.desc.isAgg||Nat.beq y.size 1)=true/\blk.es[i]? =some cs/\Nat.ble (j+y.size) cs.length=true/\tL y.desc.isAgg (((cs.drop j).take y.size).map rW)=v/\opB ops nt s ⟨d,.load t x,ty,pos,aft,g⟩ []=true) (g2:AOps Tryz.prog ops nt r (s.app d ⟨v,[b],[],[]⟩) (nZ ⟨v,[b],[],[]⟩::tr) K):AOps Tryz.prog ops nt (⟨d,.load t x,ty,pos,aft,g⟩::r) s tr K:=by
 obtain ⟨h0,h1,h2,h3,h4,h5,h6,h7⟩:=h;exact ae (nF aP h0 h1 h2 h3 h4 h5 h6) h7 g2
theorem fp {x:Operand} {st f off ft:Nat} {b i j:Nat} {blk:Blk} {y yf:Ty} {fs:List (Nat×Nat)} (h:s.ev x=some (.ptr b i j)/\s.heap b=some blk/\cI TT st=some y/\y.desc= .struct fs/\fs[f]? =some (off,ft)/\cI TT ft=some yf/\Nat.beq yf.size 0=false/\opB ops nt s ⟨d,.fieldAddr st x f,ty,pos,aft,g⟩ []=true) (g2:AOps Tryz.prog ops nt r (s.app d ⟨.ptr b i (j+off),[b],[],[]⟩) (nZ ⟨.ptr b i (j+off),[b],[],[]⟩::tr) K):AOps Tryz.prog ops nt (⟨d,.fieldAddr st x f,ty,pos,aft,g⟩::r) s tr K:=by
 obtain ⟨h0,h1,h2,h3,h4,h5,h6,h7⟩:=h;exact ae (aBe aP h0 h1 h2 h3 h4 h5 h6) h7 g2
theorem lr {x:Operand} {t:Nat} {y:Ty} {cs:List AV} {v:AV} (h:s.ev x=some (.ref cs)/\cI TT t=some y/\(y.desc.isAgg||Nat.beq y.size 1)=true/\Nat.ble y.size cs.length=true/\(cs.take y.size).all dI=true/\tL y.desc.isAgg (cs.take y.size)=v/\opB ops nt s ⟨d,.load t x,ty,pos,aft,g⟩ []=true) (g2:AOps Tryz.prog ops nt r (s.app d ⟨v,[],[],[]⟩) (nZ ⟨v,[],[],[]⟩::tr) K):AOps Tryz.prog ops nt (⟨d,.load t x,ty,pos,aft,g⟩::r) s tr K:=by
 obtain ⟨h0,h1,h2,h3,h4,h5,h6⟩:=h;exact ae (aCc aP h0 h1 h2 h3 h4 h5) h6 g2
theorem cm {op:BinOp} {t t':TypeId} {x y:Operand} {q:IntKind} {a b:Int} {c:Bool} (h:s.ev x=some (.sc (.int q a))/\s.ev y=some (.sc (.int q b))/\aHN op a b=some c/\opB ops nt s ⟨d,.binOp op t x y t',ty,pos,aft,g⟩ []=true) (g2:AOps Tryz.prog ops nt r (s.app d ⟨.bl c,[],[],[]⟩) (nZ ⟨.bl c,[],[],[]⟩::tr) K):AOps Tryz.prog ops nt (⟨d,.binOp op t x y t',ty,pos,aft,g⟩::r) s tr K:=by
 obtain ⟨h0,h1,h2,h3⟩:=h;exact ae (aHu h0 h1 h2) h3 g2
theorem pk {c x y:Operand} {t:Bool} {v:AV} (h:s.ev c=some (.sc (.bool t))/\s.ev (if t then x else y)=some v/\opB ops nt s ⟨d,.pick c x y,ty,pos,aft,g⟩ []=true) (g2:AOps Tryz.prog ops nt r (s.app d ⟨v,[],[],[]⟩) (nZ ⟨v,[],[],[]⟩::tr) K):AOps Tryz.prog ops nt (⟨d,.pick c x y,ty,pos,aft,g⟩::r) s tr K:=by
 obtain ⟨h0,h1,h2⟩:=h;exact ae (aEm h0 h1) h2 g2
theorem ln {x:Operand} {t e q:Nat} {y:Ty} {α:Type} {f:α->List AV} {l:List α} (h:s.ev x=some (.list q (List.map f l))/\cI TT t=some y/\y.desc= .slice e/\opB ops nt s ⟨d,.call ⟨.builtin .len,#[x],#[t]⟩,ty,pos,aft,g⟩ []=true) (g2:AOps Tryz.prog ops nt r (s.app d ⟨.int l.length,[],[],[]⟩) (nZ ⟨.int l.length,[],[],[]⟩::tr) K):AOps Tryz.prog ops nt (⟨d,.call ⟨.builtin .len,#[x],#[t]⟩,ty,pos,aft,g⟩::r) s tr K:=by
 obtain ⟨h0,h1,h2,h3⟩:=h;exact ae (aIc aP h0 h1 h2) h3 g2
theorem aU:True:=trivial
theorem aT {x:Operand} {v:AV} {Q:Exit->AState->Prop} {T:AState->Prop} (h:s.ev x=some v/\opB ops nt s ⟨d,.assign x,ty,pos,aft,g⟩ []=true) (g2:T (s.app d ⟨v,[],[],[]⟩)):AOps Tryz.prog ops nt [⟨d,.assign x,ty,pos,aft,g⟩] s tr (λ_ s'=>pN T Q .normal s'):=aa h.1 h.2 (an (tn g2))
theorem aK {o1 o2:Oper} (h:(iT ops s.env o1=some false/\aAj o1 nt=true/\iT ops (zE o1.dst (.tuple []) s.env) o2=some false/\aAj o2 nt=true)) (g2:AOps Tryz.prog ops nt r ⟨zE o2.dst (.tuple []) (zE o1.dst (.tuple []) s.env),s.heap,s.used,s.ns,s.kp⟩ (⟨[],[]⟩::⟨[],[]⟩::tr) K):AOps Tryz.prog ops nt (o1::o2::r) s tr K:=ak h.1 h.2.1 (ak h.2.2.1 h.2.2.2 g2)
theorem sR {id:Nat} {l:List Oper} {y:Code} {Q:Exit->AState->Prop} (h:AOps Tryz.prog l.toArray nt l s [] (λ_ s'=>pN (λs'=>AC Tryz.prog nt y s' Q) Q .normal s')):AC Tryz.prog nt (.seq (.region id l.toArray false) y) s Q:=sQ (rg h)
end
theorem oB {α β:Type} {o:Option α} {k:α->Option β} {r:β} {p:Prop} (h:o.bind k=some r) (f: ∀ a,o=some a->k a=some r->p):p:=by
 obtain ⟨a,h1,h2⟩:=ob h;exact f a h1 h2
theorem wC {h:Hp} {cs:List AV} (hp:cs.all dI=true):viewA h (.agg cs) (.agg cs):=tX (aBf hp)
theorem qJ {T:List (Nat×Ty)} {rvs:List ResultVar} {e:Exit} {s:AState} {u v:Bool} (h:some u=some v) (p:mS T s rvs=some [.bl u]/\xU e=true):uZ T rvs (.bl v) e s:=by
 cases h;exact cB p.2 p.1 rfl (oF rfl)
theorem sJ {T:List (Nat×Ty)} {rvs:List ResultVar} {e:Exit} {s:AState} {u v:Int} (h:some u=some v) (p:mS T s rvs=some [.int u]/\xU e=true):uZ T rvs (.int v) e s:=by
 cases h;exact cB p.2 p.1 rfl (aAm rfl)
theorem cL {d:Option Tmp} {ty:TypeId} {pos:String} {aft:Array Edge} {g:Option (Nat×Bool)} {s:AState} {f:FuncId} {xs:Array Operand} {ats:Array TypeId} {avs ds:List AV} {ns':List Nat} {α:Type} {e:α->List AV} {q b:Nat} {l:List α} (ok:EOk q e) (hc:HasC Tryz.prog f ds (.list q (List.map e l))) (h:evs s.ev xs.toList=some avs/\s.ns=b::ns'/\qH s.ns=true) (hv:All2 (viewA s.heap) avs ds):AEff Tryz.prog ⟨d,.call ⟨.value (.func f),xs,ats⟩,ty,pos,aft,g⟩ s.ev s.heap s.kp ⟨.own b 0 l.length,avs.flatMap (nV s.heap)++[].flatMap (kP s.heap),[(b,some ⟨q,List.map (ow e) l⟩)],[b]⟩:=
 AEff.conv (qZ (x:= .own b 0 (List.map e l).length) (nb:=[(b,⟨q,iU (List.map e l)⟩)]) hc h.1 (by rw [h.2.1];rfl) rfl h.2.2 (ok.good _) hv) (by simp only [aY]) (aAC (nb':=[(b,⟨q,List.map (ow e) l⟩)]) (by simp only [tY]))
def re1 (σ:Nat->Option Nat):AV->AV
 | .own b i m=>match σ b with|some b0=> .own b0 i m|none=> .dead
 | .ptr b i j=>match σ b with|some b0=> .ptr b0 i j|none=> .dead
 |x=>x
def reA (σ:Nat->Option Nat):AV->AV
 | .agg cs=> .agg (cs.map (re1 σ))
 |x=>re1 σ x
def ok1 (σ:Nat->Option Nat) (n:Nat):AV->Bool
 | .own b _ _=>(σ b).isSome &&Nat.blt b n
 | .ptr b _ _=>(σ b).isSome &&Nat.blt b n
 | .sc _=>true
 | .nil _=>true
 | .list _ _=>true
 | .ref _=>true
 |_=>false
def okA (σ:Nat->Option Nat) (n:Nat):AV->Bool
 | .agg cs=>cs.all (ok1 σ n)
 |x=>ok1 σ n x
def aBr (e:Nat->Option AV):List (Nat×AV)->List (Option AV)
 | []=>[]
 |(t,_)::r=>e t::aBr e r
def aBs (σ:Nat->Option Nat):List (Nat×AV)->List (Option AV)
 | []=>[]
 |(_,y)::r=>some (reA σ y)::aBs σ r
theorem yE {σ:Nat->Option Nat} {n:Nat} {y:AV} (h:ok1 σ n y=true):cZ σ n (re1 σ y) y:=by
 cases y <;> simp only [ok1,eC] at h
 ·rfl
 ·trivial
 ·exact ⟨rfl,rfl⟩
 ·rfl
 all_goals
  rename_i b i j
  simp only [cD] at h
  obtain ⟨b0,hb⟩:=Option.isSome_iff_exists.1 h.1
  simp only [re1,hb]
  exact ⟨hb,rfl,rfl,h.2⟩
theorem aHC {σ:Nat->Option Nat} {n:Nat} : ∀ {cs:List AV},cs.all (ok1 σ n)=true->All2 (cZ σ n) (cs.map (re1 σ)) cs
 | [],_=>rfl
 |c::cs,h=>by
  simp only [List.all_cons,cD] at h;exact ⟨c,cs,rfl,yE h.1,aHC h.2⟩
theorem aIA {σ:Nat->Option Nat} {n:Nat} {y:AV} (h:okA σ n y=true):kN σ n (reA σ y) y:=by
 cases y with
 |agg cs=>exact aHC h
 |fn f cs=>simp [okA,ok1] at h
 |tuple cs=>simp [okA,ok1] at h
 |dead=>simp [okA,ok1] at h
 |abs q es=>simp [okA,ok1] at h
 |sc u=>exact yE (σ:=σ) (n:=n) (y:= .sc u) h
 |nil q=>exact yE (σ:=σ) (n:=n) (y:= .nil q) h
 |list q es=>exact yE (σ:=σ) (n:=n) (y:= .list q es) h
 |ref cs=>exact yE (σ:=σ) (n:=n) (y:= .ref cs) h
 |own b i m=>
  have:=yE (σ:=σ) (n:=n) (y:= .own b i m) h;simp only [reA];generalize re1 σ (.own b i m)=z at*;cases z <;> first|exact this|exact this.elim
 |ptr b i j=>
  have:=yE (σ:=σ) (n:=n) (y:= .ptr b i j) h;simp only [reA];generalize re1 σ (.ptr b i j)=z at*;cases z <;> first|exact this|exact this.elim
theorem aIB {σ:Nat->Option Nat} {n:Nat} {e:Nat->Option AV} : ∀ {tl:List (Nat×AV)},aBr e tl=aBs σ tl->(tl.all λp=>okA σ n p.2)=true->tQ σ n e tl
 | [],_,_=>trivial
 |(t,y)::r,h,q=>by
  simp only [aBr,aBs,List.cons.injEq] at h;simp only [List.all_cons,cD] at q;exact ⟨⟨_,h.1,aIA q.1⟩,aIB h.2 q.2⟩
theorem bB {σ:Nat->Option Nat} {n:Nat} {e:Nat->Option AV} {tl:List (Nat×AV)} (h:aBr e tl=aBs σ tl/\(tl.all λp=>okA σ n p.2)=true):tQ σ n e tl:=aIB h.1 h.2
def nmA:List Nat:=[0,1,2,3,4,5,6,7,8,9,10,11,12,13,14,15,16,17,18,19]++[20,21,22,23,24,25,26,27,28,29,30,31,32,33,34,35,36,37,38,39]++([40,41,42,43,44,45,46,47,48,49,50,51,52,53,54,55,56,57,58,59]++([60,61,62,63,64,65,66,67,68,69,70,71,72,73,74,75,76,77,78,79]++[80,81,82,83,84,85,86,87,88,89,90,91,92,93,94,95,96,97,98,99]))
abbrev mN (e:List (Nat×AV)) (h:List (Nat×Blk)) (n:Nat) (kp:Kp:=0):AState:=mkS e h n (nmA.drop n) kp
def iSg:List (Nat×Blk)->Nat->Option Nat
 | [],_=>none
 |(q,_)::r,t=>bif Nat.beq t q then some t else iSg r t
def zSg:List (Nat×Blk)->List Nat->Nat->Option Nat
 |(q,_)::r,b::bs,t=>bif Nat.beq t q then some b else zSg r bs t
 |_,_,_=>none
theorem bE {s:AState} {n:Nat} {kp:Kp} {tl:List (Nat×AV)} {hl:List (Nat×Blk)} (he:tQ (iSg hl) n s.env tl) (hh:kX (iSg hl) n s.heap hl) (p:rZ (iSg hl) hl=true/\s.kp=kp/\zU (iSg hl) kp.n hl=true/\Nat.ble kp.n n=true):Ent s (mN tl hl n kp):=sA he hh p.1 p.2.1 p.2.2.1 p.2.2.2
theorem yF (bs:List Nat) {s:AState} {n:Nat} {kp:Kp} {tl:List (Nat×AV)} {hl:List (Nat×Blk)} (he:tQ (zSg hl bs) n s.env tl) (hh:kX (zSg hl bs) n s.heap hl) (p:rZ (zSg hl bs) hl=true/\s.kp=kp/\zU (zSg hl bs) kp.n hl=true/\Nat.ble kp.n n=true):Ent s (mN tl hl n kp):=sA he hh p.1 p.2.1 p.2.2.1 p.2.2.2
section
variable {σ:Nat->Option Nat} {n:Nat}
theorem aBt {e:Nat->Option AV} : ∀ {m:Nat} {tl:List (Nat×AV)},tQ σ n e (tl.take m)->tQ σ n e (tl.drop m)->tQ σ n e tl
 |0,_,_,h=>h
 |m+1,[],_,_=>trivial
 |m+1,(t,y)::r,h1,h2=>⟨h1.1,aBt h1.2 h2⟩
theorem kB (m:Nat) {e:Nat->Option AV} {tl:List (Nat×AV)} (h:aBr e (tl.take m)=aBs σ (tl.take m)/\((tl.take m).all λp=>okA σ n p.2)=true) (h2:tQ σ n e (tl.drop m)):tQ σ n e tl:=aBt (bB h) h2
theorem gZ {e:Nat->Option AV} {t:Nat} {y:AV} {r:List (Nat×AV)} (h: ∃ x,e t=some x/\kN σ n x y) (h2:tQ σ n e r):tQ σ n e ((t,y)::r):=⟨h,h2⟩
variable {b b0 q:Nat} {h:Hp} {r:List (Nat×Blk)}
theorem bP {l:aA} (p:(σ b,h b0,Nat.blt b n)=(some b0,some ⟨1,List.map (ow eI) l⟩,true)) (hr:kX σ n h r):kX σ n h ((b,⟨1,List.map (ow eI) l⟩)::r):=by
 obtain ⟨p1,p⟩:=Prod.mk.inj p;obtain ⟨p2,p3⟩:=Prod.mk.inj p;exact hB (nJ.plainO _) p1 p2 p3 hr
theorem cJ {y:Blk} (p:(σ b,h b0,Nat.blt b n,y.es.all λcs=>cs.all lE)=(some b0,some y,true,true)) (hr:kX σ n h r):kX σ n h ((b,y)::r):=by
 obtain ⟨p1,p⟩:=Prod.mk.inj p;obtain ⟨p2,p⟩:=Prod.mk.inj p;obtain ⟨p3,p4⟩:=Prod.mk.inj p;exact hB (aFF p4) p1 p2 p3 hr
theorem cS {y:Blk} (hp:qV y.es) (p:(σ b,h b0,Nat.blt b n)=(some b0,some y,true)) (hr:kX σ n h r):kX σ n h ((b,y)::r):=by
 obtain ⟨p1,p⟩:=Prod.mk.inj p;obtain ⟨p2,p3⟩:=Prod.mk.inj p;exact hB hp p1 p2 p3 hr
end
theorem cG {α:Type} {c:Bool} {A:Option α} {r:α} {p:Prop} (h:cond c A none=some r) (f:c=true->A=some r->p):p:=f (cg h).1 (cg h).2
section
variable {h:Hp} {x:AV} {xs ds:List AV}
theorem eO (q:dI x=true) (b:All2 (viewA h) xs ds):All2 (viewA h) (x::xs) (x::ds):=bL (aGZ q) b
theorem vcT {b m:Nat} {l:aA} (hb:h b=some ⟨1,List.map (ow eI) l⟩) (hn:l.length=m) (q:All2 (viewA h) xs ds):All2 (viewA h) (.own b 0 m::xs) (.list 1 (List.map eI l)::ds):=bL (aEC nJ hb hn) q
end
theorem cT {d:Option Tmp} {ty:TypeId} {pos:String} {aft:Array Edge} {g:Option (Nat×Bool)} {s:AState} {f:FuncId} {xs:Array Operand} {ats:Array TypeId} {avs ds:List AV} {ns':List Nat} {α:Type} {e:α->List AV} {q b:Nat} {l:List α} {z:Bool} {c0:Nat} (ok:EOk q e) (hc:HasC Tryz.prog f ds (.tuple [.list q (List.map e l),.bl z])) (h:evs s.ev xs.toList=some avs/\s.ns=b::c0::ns'/\qH s.ns=true) (hv:All2 (viewA s.heap) avs ds):AEff Tryz.prog ⟨d,.call ⟨.value (.func f),xs,ats⟩,ty,pos,aft,g⟩ s.ev s.heap s.kp ⟨.tuple [.own b 0 l.length,.bl z],avs.flatMap (nV s.heap)++[].flatMap (kP s.heap),[(b,some ⟨q,List.map (ow e) l⟩)],[b]⟩:=
 AEff.conv (qZ (x:= .tuple [.own b 0 (List.map e l).length,.bl z]) (nb:=[(b,⟨q,iU (List.map e l)⟩)]) hc h.1 (by rw [h.2.1];rfl) rfl h.2.2 (wW (ok.good _) (wW trivial aFM)) hv) (by simp only [aY]) (aAC (nb':=[(b,⟨q,List.map (ow e) l⟩)]) (by simp only [tY]))
section
variable {dst:Option Tmp} {ty:TypeId} {pos:String} {aft:Array Edge} {g:Option (Nat×Bool)} {s:AState}
theorem wl {t e:TypeId} {n:Nat} {parts:Array (Nat×Operand)} {y ye:Ty} {ps:List (Nat×List AV)} {cs:List AV} {b:Nat}
  (h:(s.ns.head?,cI TT t,y.desc,cI TT e,ye.zero.length,Nat.ble (n*ye.size) 16777216,Nat.ble n 16777216,mR s.ev parts.toList,pL (λi=>some (i*ye.size,ye.size)) (List.replicate n ye.zero).flatten ps,(ps.all λp=>p.2.all (okCell s.heap)),cs.all (okCell s.heap),(ps.flatMap (λp=>bN p.2)++bN cs).contains b)=(some b,some y,.slice e,some ye,ye.size,true,true,some ps,some cs,true,true,false)):
  AEff Tryz.prog ⟨dst,.buildSlice t n parts,ty,pos,aft,g⟩ s.ev s.heap s.kp ⟨.own b 0 n,ps.flatMap (λp=>bN p.2)++bN cs,[(b,some ⟨ye.size,qF ye.size n cs⟩)],[b]⟩:=by
 simp only [Prod.mk.injEq] at h;obtain ⟨h1,h2,h3,h4,h5,h6,h7,h8,h9,h10,h11,h12⟩:=h;exact aHw aP h1 h2 h3 h4 h5 h6 h7 h8 h9 h10 h11 h12
theorem ws {t:TypeId} {y:Ty} {x z:Operand} {val:AV} {b i j kk:Nat} {ees:List (List AV)} {cs:List AV}
  (h:(s.ev x,s.heap b,s.ev z,cI TT t,Nat.beq (bJ val).length y.size,(bJ val).all (okCell s.heap),ees[i]?,Nat.ble (j+y.size) cs.length)=(some (.ptr b i j),some ⟨kk,ees⟩,some val,some y,true,true,some cs,true)):
  AEff Tryz.prog ⟨dst,.store t x z,ty,pos,aft,g⟩ s.ev s.heap s.kp ⟨.dead,b::bN (bJ val),[(b,some ⟨kk,ees.set i (vA cs j (bJ val))⟩)],[]⟩:=by
 simp only [Prod.mk.injEq] at h;obtain ⟨h1,h2,h3,h4,h5,h6,h7,h8⟩:=h;exact tW aP h1 h2 h3 h4 h5 h6 h7 h8
theorem wb {t:TypeId} {x:Operand} {v:AV} {b:Nat} (h:(s.ns.head?,s.ev x,(bJ v).all (okCell s.heap),(bN (bJ v)).contains b)=(some b,some v,true,false)):
  AEff Tryz.prog ⟨dst,.box t x,ty,pos,aft,g⟩ s.ev s.heap s.kp ⟨.ptr b 0 0,bN (bJ v),[(b,some ⟨(bJ v).length,[bJ v]⟩)],[b]⟩:=by
 simp only [Prod.mk.injEq] at h;obtain ⟨h1,h2,h3,h4⟩:=h;exact aHv h1 h2 h3 h4
theorem xl {α:Type} {k:Nat} {e:α->List AV} {x ix:Operand} {t et:Nat} {y ye:Ty} {l:List α} {kk:IntKind} {i:Int} {v:α} (hm:bO l i=some v)
  (h:(s.ev x,s.ev ix,cI TT t,y.desc,cI TT et,ye.size)=(some (.list k (l.map e)),some (.sc (.int kk i)),some y,.slice et,some ye,k)):
  AEff Tryz.prog ⟨dst,.indexAddr t x ix,ty,pos,aft,g⟩ s.ev s.heap s.kp ⟨.ref (e v),[],[],[]⟩:=by
 simp only [Prod.mk.injEq] at h;obtain ⟨h1,h2,h3,h4,h5,h6⟩:=h;exact aEB aP hm h1 h2 h3 h4 h5 h6
theorem xo {α:Type} {l:List α} {v:α} {x ix:Operand} {t et:Nat} {y ye:Ty} {b kz:Nat} {es:List (List AV)} {kk:IntKind} {i:Int} (hm:bO l i=some v)
  (h:(s.ev x,s.heap b,s.ev ix,cI TT t,y.desc,cI TT et,ye.size)=(some (.own b 0 l.length),some ⟨kz,es⟩,some (.sc (.int kk i)),some y,.slice et,some ye,kz)):
  AEff Tryz.prog ⟨dst,.indexAddr t x ix,ty,pos,aft,g⟩ s.ev s.heap s.kp ⟨.ptr b i.toNat 0,[b],[],[]⟩:=by
 simp only [Prod.mk.injEq] at h;obtain ⟨h1,h2,h3,h4,h5,h6,h7⟩:=h;exact oG aP (sD hm) (sE hm) h1 h2 h3 h4 h5 h6 h7
theorem wp {α:Type} {e:α->List AV} {l:List α} {u:α} {x:Operand} {t:Nat} {y:Ty} {b j k:Nat} {i:Int} {v:AV} (hm:bO l i=some u)
  (h:(s.ev x,s.heap b,cI TT t,(y.desc.isAgg||Nat.beq y.size 1),Nat.ble (j+y.size) (e u).length,tL y.desc.isAgg ((((e u).drop j).take y.size).map rW))=(some (.ptr b i.toNat j),some ⟨k,l.map e⟩,some y,true,true,v)):
  AEff Tryz.prog ⟨dst,.load t x,ty,pos,aft,g⟩ s.ev s.heap s.kp ⟨v,[b],[],[]⟩:=by
 simp only [Prod.mk.injEq] at h;obtain ⟨h1,h2,h3,h4,h5,h6⟩:=h;exact nF aP h1 h2 h3 h4 (sC (cA hm)) h5 h6
end
theorem hM {f:FuncId} {fn:Func} {c:Code} {nt:Nat} {ds:List AV} {r:AV} (rvs:List ResultVar) (hf:Tryz.prog.funcs[f]? =some fn) (hnt:fn.ntmps=nt) (h':(fn.body,(fn.name== "runtime.NumGoroutine"),fn.results.toList,Nat.ble ds.length nt,ds.all pO)=(some c,false,rvs,true,true)) (h:AC Tryz.prog nt c (s0 ds nmA) (uZ TT rvs r)):HasC Tryz.prog f ds r:=by
 simp only [Prod.mk.injEq] at h';exact wS aP hf h'.1 h'.2.1 hnt h'.2.2.1 h'.2.2.2.1 h'.2.2.2.2 h
@[elab_as_elim] theorem sp {α:Type} {a:α} {P:α->Prop} {o:α} (h:some a=some o) (p:P a):P o:=so h▸p
theorem uE {α:Type} {t:Bool} {A B:Option α} {r:α} {G:Prop} (h:cond t A B=some r) (p:t=true->A=some r->G) (q:t=false->B=some r->G):G:=by
 rcases cb h with ⟨e,h⟩|⟨e,h⟩
 ·exact p e h
 ·exact q e h
theorem cY {P:Program} {nt:Nat} {Q:Exit->AState->Prop} {s:AState} {c:Operand} {x y:Code} {α:Type} {t:Bool} {A B:Option α} {r:α} (hc:s.ev c=some (.sc (.bool t))) (h:cond t A B=some r) (p:t=true->A=some r->AC P nt x s Q) (q:t=false->B=some r->AC P nt y s Q):AC P nt (.cond c x y) s Q:=uE h (λe h=>fY hc e (p e h)) λe h=>iI hc e (q e h)
theorem nA {p q:Prop} (a:p) (b:q):p/\q:=⟨a,b⟩
def fP (a0:Int) (a1:Int) (a2:Int):Option Bool:=
 bif decide (a1<=a0) then
 (some (decide (a0<=a2)))
 else
 (some (false))
theorem iN (a0:Int) (a1:Int) (a2:Int) (r:Bool) (h:fP a0 a1 a2=some r):HasC Tryz.prog 42 [.int a0,.int a1,.int a2] (.bl r):=by
 exact hM [.tmp 6] Tryz.func42 Tryz.ntmps42 k<|sR<|aT k2<|sR<|am k k<|am k k<|cm k4<|am k k<|uE h (λq1 h=>aX 10 k q1<|am k k<|am k k<|cm k4<|pk k3<|aT k2<|aJ<|qJ h k2) λq1 h=>aX 10 k q1<|aK k4<|ak k k<|pk k3<|aT k2<|aJ<|qJ h k2
def gA (a0:Int) (a1:Int) (a2:Int):Option Bool:=
 bif decide (a1<=a0) then
 (some (decide (a0<=a2)))
 else
 (some (false))
theorem jE (a0:Int) (a1:Int) (a2:Int) (r:Bool) (h:gA a0 a1 a2=some r):HasC Tryz.prog 43 [.int a0,.int a1,.int a2] (.bl r):=by
 exact hM [.tmp 6] Tryz.func43 Tryz.ntmps43 k<|sR<|aT k2<|sR<|am k k<|am k k<|cm k4<|am k k<|uE h (λq1 h=>aX 10 k q1<|am k k<|am k k<|cm k4<|pk k3<|aT k2<|aJ<|qJ h k2) λq1 h=>aX 10 k q1<|aK k4<|ak k k<|pk k3<|aT k2<|aJ<|qJ h k2
end
noncomputable section
def bW (a0:aA) (a1:(Int->Option Bool)) (x1:Int):Option (Int ⊕ (Unit ⊕ Int)):=
 bif decide (x1<(a0.length:Int)) then
 ((bO a0 x1).bind λv2=>
 (a1 v2).bind λv3=>
 bif v3 then
 (some (.inr (.inr (x1))))
 else
 (some (.inl (wr (x1+1)))))
 else
 (some (.inr (.inl ())))
def bU (a0:aA) (a1:(Int->Option Bool)):Option Int:=
 (Lp (bW a0 a1) 0).bind λy5=>
 Sum.elim (λy6=>
 some ((-1))
 )
 (λy7=>
 some y7
 )
 y5
theorem iW (a0:aA) (a1:(Int->Option Bool)) {f1:FuncId} {c1:List AV} (hc1:c1.all dI=true) (hf1: ∀ b0 r,a1 b0=some r->HasC Tryz.prog f1 ([.int b0]++c1) (.bl r)) (r:Int) (h:bU a0 a1=some r):HasC Tryz.prog 68 [.list 1 (a0.map eI),.fn f1 c1] (.int r):=by
 refine wS aP (rvs:=[.tmp 4]) (ns:=nmA) Tryz.func68 k k Tryz.ntmps68 k k (pE k (pE hc1 aCn))<|sR<|aT k2<|sQ<|sR<|am k k<|ln k4<|am k k<|an<|tn<|aE<|oB h λy5 hy5 h=>cC (body:=(bW a0 a1)) hy5 (λ(x1:Int)=>mN [(0,.list 1 (a0.map eI)),(1,.fn f1 c1),(7,.int (a0.length:Int)),(8,.int x1)] [] 0) (λr e t=>Sum.elim (λa=>(λr e t=>e= .exit 0/\Ent t (mN [] [] 0)) a e t) (λb=>(λr e t=>e= .ret/\uZ TT [.tmp 4] (.int r) .ret t) b e t) r) (bE (kB 1 k2 (gZ ⟨_,k,⟨k,mZ _ hc1⟩⟩ (bB k2))) aU k4) ?_ ?_
 ·intro x1 o h;exact sR<|cm k4<|an<|tn<|sQ<|cY k h (λ_ h=>aD<|tn<|sQ<|aE<|sR<|am k k<|aT k2<|sR<|am k k<|am k k<|am k k<|oB h λv2 hv2 h=>ae (xl hv2 k) k<|lr k7<|oB h λv3 hv3 h=>ae (wX hc1 (hf1 v2 v3 hv3) k k (eO k aS)) k<|an<|tn<|cY k h (λ_ h=>sR<|am k k<|aT k2<|aJ<|bV<|aG<|aG<|sp h ⟨_,k,k,cB k k k (aAm k)⟩) λ_ h=>aD<|aI<|tn<|rg<|ae (aR k k) k<|am k k<|an<|tn<|sp h ⟨_,k,(bE (kB 1 k2 (gZ ⟨_,k,⟨k,mZ _ hc1⟩⟩ (bB k2))) aU k4)⟩) λ_ h=>aV<|aB<|aB<|sp h ⟨_,k,k,(bE aU aU k4)⟩
 ·intro e t hX;rcases y5 with y6|y7
  ·obtain ⟨rfl,hent⟩:=hX;exact aF<|tn<|aM hent<|sR<|aT k2<|aJ<|sJ h k2
  ·obtain ⟨rfl,hent⟩:=hX;exact bV<|aG<|sp h hent
def eG (a0:aA) (a1:(Int->Option Bool)):Option Bool:=
 (bU a0 a1).bind λv1=>
 some (decide (0<=v1))
theorem lP (a0:aA) (a1:(Int->Option Bool)) {f1:FuncId} {c1:List AV} (hc1:c1.all dI=true) (hf1: ∀ b0 r,a1 b0=some r->HasC Tryz.prog f1 ([.int b0]++c1) (.bl r)) (r:Bool) (h:eG a0 a1=some r):HasC Tryz.prog 58 [.list 1 (a0.map eI),.fn f1 c1] (.bl r):=by
 exact wS aP (rvs:=[.tmp 4]) (ns:=nmA) Tryz.func58 k k Tryz.ntmps58 k k (pE k (pE hc1 aCn))<|sR<|aT k2<|sR<|am k k<|am k k<|oB h λv1 hv1 h=>ae (aO (iW a0 a1 hc1 hf1 v1 hv1) k (eO k (bL (aHS hc1) aS))) k<|cm k4<|aT k2<|aJ<|qJ h k2
def fR (a0:Int) (a1:Int) (a2:Int):Option Bool:=
 (fP a0 a1 a2).bind λv1=>
 some (!v1)
theorem sK (a0:Int) (a1:Int) (a2:Int) (r:Bool) (h:fR a0 a1 a2=some r):HasC Tryz.prog 59 [.int a0,.ref (eI a1),.ref (eI a2)] (.bl r):=by
 exact hM [.tmp 4] Tryz.func59 Tryz.ntmps59 k<|sR<|aT k2<|sR<|am k k<|lr k7<|lr k7<|oB h λv1 hv1 h=>ae (aO (iN a0 a1 a2 v1 hv1) k (eO k (eO k (eO k aS)))) k<|ae (gG k) k<|aT k2<|aJ<|qJ h k2
def gQ (a0:aA) (a1:Int) (a2:Int):Option Bool:=
 (eG a0 (λb0=>fR b0 a1 a2)).bind λv1=>
 some (!v1)
theorem oK (a0:aA) (a1:Int) (a2:Int) (r:Bool) (h:gQ a0 a1 a2=some r):HasC Tryz.prog 44 [.list 1 (a0.map eI),.int a1,.int a2] (.bl r):=by
 exact hM [.tmp 6] Tryz.func44 Tryz.ntmps44 k<|sR<|ae (wb k) k<|ae (wb k) k<|aT k2<|sR<|am k k<|ae (aAd (vs:=[.ptr 0 0 0,.ptr 1 0 0]) k (by simp)) k<|oB h λv1 hv1 h=>ae (aO (lP a0 (λb0=>fR b0 a1 a2) k (λb0 r h=>sK b0 a1 a2 r h) v1 hv1) k (eO k (bL (aFL (aDP (aFK k k (iV (oZ k) vB)) (aDP (aFK k k (iV (oZ k) vB)) aAr))) aS))) k<|ae (gG k) k<|aT k2<|aJ<|qJ h k2
def iO (a0:aA) (a1:Int):Option Int:=
 bif decide (wr (a1 - (a0.length:Int))<0) then
 (some ((-1)))
 else
 (some (wr (a1 - (a0.length:Int))))
theorem rP (a0:aA) (a1:Int) (r:Int) (h:iO a0 a1=some r):HasC Tryz.prog 9 [.list 1 (a0.map eI),.int a1] (.int r):=by
 exact hM [.tmp 4] Tryz.func9 Tryz.ntmps9 k<|sR<|aT k2<|sR<|am k k<|am k k<|ln k4<|ae (dX k k) k<|aT k2<|sQ<|sR<|am k k<|cm k4<|an<|tn<|cY k h (λ_ h=>sR<|aT k2<|aJ<|aG<|sJ h k2) λ_ h=>aD<|tn<|sR<|am k k<|aT k2<|aJ<|sJ h k2
def jJ (a0:aA) (x1:(aA×Int)):Option ((aA×Int) ⊕ aA):=
 bif decide (x1.2<(a0.length:Int)) then
 ((bO a0 x1.2).bind λv2=>
 (bO x1.1 x1.2).bind λv3=>
 some (.inl ((x1.1.set x1.2.toNat v2),wr (x1.2+1))))
 else
 (some (.inr x1.1))
def kD (a0:aA):Option aA:=
 bif (decide (0<=(a0.length:Int))&&decide ((a0.length:Int)<=1048576)) then
 ((Lp (jJ a0) ((List.replicate ((a0.length:Int).toNat) (0:Int)),0)).bind λy4=>
 some (y4))
 else none
theorem rQ (a0:aA) (r:aA) (h:kD a0=some r):HasC Tryz.prog 16 [.list 1 (a0.map eI)] (.list 1 (r.map eI)):=by
 refine hM [.tmp 2] Tryz.func16 Tryz.ntmps16 k<|sR<|aT k2<|sR<|am k k<|ln k4<|cG h λq5 h=>ae (xZ aP q5 k k k k k k k k) k<|aT k2<|aM (t:=mN [(0,.list 1 (a0.map eI)),(3,.own 0 0 ((List.replicate ((a0.length:Int).toNat) (0:Int)).length))] [(0,⟨1,List.map (ow eI) (List.replicate ((a0.length:Int).toNat) (0:Int))⟩)] 1) (bE (kB 1 k2 (gZ ⟨_,k,⟨k,k,(by simp only [aY,lA,lT,lR,lC,lN]),k⟩⟩ aU)) (hX ⟨_,k,k,.inl ⟨aAq (e:=eI) (z:=0) _,nJ.plainO _⟩⟩ k<|aU) k4)<|sQ<|sR<|aT k2<|aE<|oB h λy4 hy4 h=>cC (body:=(jJ a0)) hy4 (λ(x1:(aA×Int))=>mN [(0,.list 1 (a0.map eI)),(3,.own 0 0 x1.1.length),(4,.int x1.2)] [(0,⟨1,x1.1.map (ow eI)⟩)] 1) (λr e t=>e= .exit 0/\Ent t (mN [(3,.own 0 0 r.length)] [(0,⟨1,r.map (ow eI)⟩)] 1)) (bE (bB k2) (bP k<|aU) k4) ?_ ?_
 ·intro x1 o h;exact sQ<|sR<|am k k<|am k k<|ln k4<|cm k4<|an<|tn<|cY k h (λ_ h=>aD<|tn<|sQ<|aE<|rg<|am k k<|am k k<|am k k<|am k k<|oB h λv2 hv2 h=>ae (xl hv2 k) k<|lr k7<|oB h λv3 hv3 h=>ae (xo hv3 k) k<|ae (cR aP jD (u:=v2) (cA hv3) k k k k k k) k<|an<|aI<|tn<|rg<|am k k<|ae (aR k k) k<|aT k2<|sp h ⟨_,k,(bE (kB 1 k2 (gZ ⟨_,k,⟨k,k,(by simp only [aY,lA,lT,lR,lC,lN]),k⟩⟩ (bB k2))) (bP k<|aU) k4)⟩) λ_ h=>aV<|aB<|aB<|sp h ⟨_,k,k,(bE (bB k2) (bP k<|aU) k4)⟩
 ·rintro e t ⟨rfl,hent⟩;exact aF<|tn<|aM hent<|sR<|am k k<|aT k2<|aJ<|sp h (cB k k k (mT (vE nJ k k)))
def lQ (a0:aA) (a1:aA) (x1:Int):Option (Int ⊕ (Unit ⊕ Bool)):=
 bif decide (x1<(a0.length:Int)) then
 ((bO a0 x1).bind λv3=>
 (bO a1 x1).bind λv4=>
 bif !decide (v3=v4) then
 (some (.inr (.inr (false))))
 else
 (some (.inl (wr (x1+1)))))
 else
 (some (.inr (.inl ())))
def lU (a0:aA) (a1:aA):Option Bool:=
 bif !decide ((a0.length:Int)=(a1.length:Int)) then
 (some (false))
 else
 ((Lp (lQ a0 a1) 0).bind λy6=>
 Sum.elim (λy7=>
 some (true)
 )
 (λy8=>
 some y8
 )
 y6)
theorem rR (a0:aA) (a1:aA) (r:Bool) (h:lU a0 a1=some r):HasC Tryz.prog 25 [.list 1 (a0.map eI),.list 1 (a1.map eI)] (.bl r):=by
 refine hM [.tmp 4] Tryz.func25 Tryz.ntmps25 k<|sR<|aT k2<|sQ<|sR<|am k k<|ln k4<|am k k<|ln k4<|cm k4<|an<|tn<|cY k h (λ_ h=>sR<|aT k2<|aJ<|aG<|qJ h k2) λ_ h=>?_;refine aD<|tn<|sQ<|sR<|aT k2<|aE<|oB h λy6 hy6 h=>cC (body:=(lQ a0 a1)) hy6 (λ(x1:Int)=>mN [(0,.list 1 (a0.map eI)),(1,.list 1 (a1.map eI)),(5,.int x1)] [] 0) (λr e t=>Sum.elim (λa=>(λr e t=>e= .exit 0/\Ent t (mN [] [] 0)) a e t) (λb=>(λr e t=>e= .ret/\uZ TT [.tmp 4] (.bl r) .ret t) b e t) r) (bE (bB k2) aU k4) ?_ ?_
 ·intro x1 o h;exact sQ<|sR<|am k k<|am k k<|ln k4<|cm k4<|an<|tn<|cY k h (λ_ h=>aD<|tn<|sQ<|aE<|sQ<|aN iR<|am k k<|am k k<|oB h λv3 hv3 h=>ae (xl hv3 k) k<|lr k7<|am k k<|am k k<|oB h λv4 hv4 h=>ae (xl hv4 k) k<|lr k7<|cm k4<|an<|nA (by kernel_rfl)<|tn<|cY k h (λ_ h=>sR<|aT k2<|aJ<|bV<|aG<|aG<|sp h ⟨_,k,k,cB k k k (oF k)⟩) λ_ h=>aD<|aI<|tn<|rg<|am k k<|ae (aR k k) k<|aT k2<|sp h ⟨_,k,(bE (bB k2) aU k4)⟩) λ_ h=>aV<|aB<|aB<|sp h ⟨_,k,k,(bE aU aU k4)⟩
 ·intro e t hX;rcases y6 with y7|y8
  ·obtain ⟨rfl,hent⟩:=hX;exact aF<|tn<|aM hent<|sR<|aT k2<|aJ<|qJ h k2
  ·obtain ⟨rfl,hent⟩:=hX;exact bV<|aG<|sp h hent
end
section
def zI (n:Nat) (left:Int):Int:=if left - n<0 then -1 else left - n
def zC:List (Int->Int)->Int->Int
 | [],left=>left
 |f::fs,left=>if f left<0 then -1 else zC fs (f left)
def zS {α:Type} (f:α->Int->Int) (l:List α) (left:Int):Int:=if left - l.length<0 then -1 else zC (l.map f) (left - l.length)
def aEK (l:aA):Int->Int:=zI l.length
def oM (f:Int->Int) (b:Prop):Prop:= ∀ left,0<=left->left<=1048576->f left= -1∨(0<=f left/\f left<=left/\b)
theorem aAu (n:Nat):oM (zI n) (n<=1048576):=by
 intro left h0 h1;unfold zI;by_cases h:left - n<0
 ·rw [bT h];exact .inl rfl
 ·rw [bM h];exact .inr ⟨by omega,by omega,by omega⟩
theorem aEL:oM (zC []) True:=λleft h0 _=> .inr ⟨h0,Int.le_refl _,trivial⟩
theorem sL {f:Int->Int} {fs:List (Int->Int)} {b bs:Prop} (h:oM f b) (k:oM (zC fs) bs):oM (zC (f::fs)) (b/\bs):=by
 intro left h0 h1;unfold zC;rcases h left h0 h1 with e|⟨e1,e2,e3⟩
 ·rw [e,bT (by decide)];exact .inl rfl
 ·rw [bM (by omega)];rcases k (f left) e1 (by omega) with g|⟨g1,g2,g3⟩
  ·exact .inl g
  ·exact .inr ⟨g1,by omega,e3,g3⟩
theorem aAL {α:Type} {f:α->Int->Int} {b:α->Prop} (h: ∀ x,oM (f x) (b x)): ∀ l:List α,oM (zC (l.map f)) (∀ x∈l,b x)
 | []=>λleft h0 _=> .inr ⟨h0,Int.le_refl _,by simp⟩
 |x::l=>λleft h0 h1=>by
  rcases sL (h x) (aAL h l) left h0 h1 with e|⟨e1,e2,e3,e4⟩
  ·exact .inl e
  ·exact .inr ⟨e1,e2,λy hy=>by rcases bX.1 hy with rfl|h';exact e3;exact e4 y h'⟩
theorem aDR {α:Type} {f:α->Int->Int} {b:α->Prop} (h: ∀ x,oM (f x) (b x)) (l:List α):oM (zS f l) (l.length<=1048576/\ ∀ x∈l,b x):=by
 intro left h0 h1;unfold zS;by_cases e:left - l.length<0
 ·rw [bT e];exact .inl rfl
 ·rw [bM e];rcases aAL h l (left - l.length) (by omega) (by omega) with g|⟨g1,g2,g3⟩
  ·exact .inl g
  ·exact .inr ⟨g1,by omega,by omega,g3⟩
def bI (l:aA):Prop:=l.length<=1048576
theorem vK (l:aA):oM (aEK l) (bI l):=aAu _
def fI {α:Type} (l:List α):Prop:=l.length<=9223372036854775807
theorem aDS {o:Option Int} {z:Int->Int} {zs:List (Int->Int)} {b:Prop} {left:Int} {k:Int->Option Int} (ho:o=some (z left)) (hf:oM z b) (h0:0<=left) (h1:left<=1048576) (hk: ∀ v,0<=v->v<=1048576->k v=some (zC zs v)):
  Option.bind o (λv=>bif decide (v<0) then some (-1) else k v)=some (zC (z::zs) left):=by
 rw [ho,aC];unfold zC;rcases hf left h0 h1 with e|⟨e1,e2,_⟩
 ·rw [e];rfl
 ·rw [bM (by omega),bH (by omega: ¬ z left<0),aL];exact hk _ e1 (by omega)
theorem aGg {α:Type} {body:Int×Int->Option ((Int×Int) ⊕ (Int ⊕ Int))} {f:α->Int->Int} {b:α->Prop} {l:List α} (hf: ∀ x,oM (f x) (b x)) (hl:l.length<=1048576)
  (hs: ∀ (v:Int) (k:Nat) (hk:k<l.length),0<=v->v<=1048576->body (v,k)=some (bif decide (f l[k] v<0) then .inr (.inr (-1)) else .inl (f l[k] v,wr (k+1)))) (he: ∀ v,body (v,l.length)=some (.inr (.inl v))) (v:Int) (h0:0<=v) (h1:v<=1048576):
  Option.bind (Lp body (v,0)) (λy=>Sum.elim (λy=>some y) (λy=>some y) y)=some (zC (l.map f) v):=by
 have key: ∀ d k:Nat,k+d=l.length-> ∀ v:Int,0<=v->v<=1048576->Option.bind (Lp body (v,(k:Int))) (λy=>Sum.elim (λy=>some y) (λy=>some y) y)=some (zC ((l.drop k).map f) v):=by
  intro d;induction d with
  |zero=>
   intro k hk v _ _;rw [Nat.add_zero] at hk;subst hk;rw [gI (he v)];simp [zC]
  |succ d ih=>
   intro k hk v h0 h1;have h:=hs v k (by omega) h0 h1;rw [List.drop_eq_getElem_cons (by omega:k<l.length),List.map_cons];unfold zC;rcases hf l[k] v h0 h1 with e|⟨e1,e2,_⟩
   ·rw [e] at h ⊢;rw [gI (r:= .inr (-1)) (by rw [h];rfl)];rfl
   ·rw [bM (by omega)];rw [bH (by omega: ¬ f l[k] v<0),aL,dJ (n:=l.length) (by omega) (by omega)] at h;rw [kH h];exact ih (k+1) (by omega) _ e1 (by omega)
 have:=key l.length 0 (by omega) v h0 h1;simpa using this
theorem aIE {l:aA} {left:Int} (hl:fI l) (h0:0<=left) (h1:left<=1048576):iO l left=some (zI l.length left):=by
 unfold fI at hl;unfold iO zI;rw [aFG (by omega)];by_cases h:left - l.length<0
 ·rw [aW h,bT h];rfl
 ·rw [bH h,bM h];rfl
theorem aAM {α:Type} {body:List α×Int->Option ((List α×Int) ⊕ List α)} {l:List α} (z:α) (hl:l.length<=4611686018427387904)
  (hs: ∀ (k:Nat) (hk:k<l.length) (r:List α),r.length=l.length->body (r,k)=some (.inl (r.set k l[k],wr (k+1)))) (he: ∀ r,body (r,l.length)=some (.inr r)):Lp body (List.replicate ((l.length:Int).toNat) z,0)=some l:=by
 refine aFH (λk=>(l.take k++List.replicate (l.length - k) z,(k:Int))) l.length (by simp) (λk hk=>?_) ?_
 ·rw [hs k hk _ (by simp;omega),dJ hk hl];congr 3;rw [show l.length - k=(l.length - (k+1))+1 by omega,List.replicate_succ,List.set_append_right _ _ (by simp;omega)];rw [rM hk,List.length_take,Nat.min_eq_left (Nat.le_of_lt hk),Nat.sub_self,List.set_cons_zero,List.append_assoc];rfl
 ·rw [he];simp
theorem aIF {l:aA} (h:bI l):kD l=some l:=by
 unfold bI at h;unfold kD;rw [aW (by omega),aW (by omega:(l.length:Int)<=1048576),Bool.and_self,aH];rw [aAM 0 (by omega) (λk hk r hr=>?_) (λr=>?_)];rfl
 ·unfold jJ;simp only;rw [pP hk,aH,cM hk,aC,cM (hr▸hk),aC,kC]
 ·unfold jJ;simp only;rw [pQ (bQ _),aL]
theorem aBu {α:Type} [DecidableEq α] {body:Int->Option (Int ⊕ (Unit ⊕ Bool))} {a b:List α} (hl:a.length<=4611686018427387904) (hab:a.length=b.length)
  (hs: ∀ (k:Nat) (h1:k<a.length) (h2:k<b.length),body k=some (bif decide (a[k]=b[k]) then .inl (wr (k+1)) else .inr (.inr false))) (he:body a.length=some (.inr (.inl ()))):
  Option.bind (Lp body 0) (λy=>Sum.elim (λ_=>some true) (λy=>some y) y)=some (decide (a=b)):=by
 have key: ∀ (P:Nat->Bool),(∀ (k:Nat) (h1:k<a.length) (h2:k<b.length),P k=decide (a[k]=b[k]))->Lp body 0=some (bif (List.range a.length).all P then .inl () else .inr false)->Option.bind (Lp body 0) (λy=>Sum.elim (λ_=>some true) (λy=>some y) y)=some (decide (a=b)):=by
  intro P hP e;rw [e,aC]
  have:(List.range a.length).all P=decide (a=b):=by
   rw [Bool.eq_iff_iff,aEA,fW];constructor
   ·intro h;refine List.ext_getElem hab λk h1 h2=>?_;have:=h k h1;rw [hP k h1 h2] at this;exact of_decide_eq_true this
   ·rintro rfl k hk;rw [hP k hk hk];simp
  rw [this];cases decide (a=b) <;> rfl
 refine key (λk=>if h:k<a.length then if h2:k<b.length then decide (a[k]=b[k]) else false else false) (λk h1 h2=>by rw [dif_pos h1,dif_pos h2]) (aAn _ _ hl (λk hk=>?_) (λ_=>he));rw [dif_pos hk,dif_pos (hab▸hk)];exact hs k hk (hab▸hk)
theorem aBv {α β:Type} {a:List α} {b:List β} :decide ((a.length:Int)=(b.length:Int))=decide (a.length=b.length):=by
 rw [Bool.eq_iff_iff,fW,fW];omega
theorem aGh {body:Int->Option (Int ⊕ (Unit ⊕ Bool))} {a b:aA} (hl:a.length<=4611686018427387904)
  (hb:body=λx=>bif decide (x<(a.length:Int)) then (Option.bind (bO a x) λv3=>Option.bind (bO b x) λv4=>bif !decide (v3=v4) then (some (.inr (.inr (false)))) else (some (.inl (wr (x+1))))) else (some (.inr (.inl ())))):
  (bif !decide ((a.length:Int)=(b.length:Int)) then some false else Option.bind (Lp body 0) (λy=>Sum.elim (λ_=>some true) (λy=>some y) y))=some (decide (a=b)):=by
 rw [aBv];by_cases h:a.length=b.length
 ·rw [aW h,iH,aL];refine aBu hl h (λk h1 h2=>?_) ?_
  ·rw [hb];simp only;rw [pP h1,aH,cM h1,aC,cM h2,aC];cases decide (a[k]=b[k]) <;> rfl
  ·rw [hb];simp only;rw [pQ (bQ _),aL]
 ·rw [bH h,Bool.not_false,aH,bH (by rintro rfl;exact h rfl)]
theorem aIG {a b:aA} (h:bI a):lU a b=some (decide (a=b)):=by
 unfold bI at h;exact aGh (body:=lQ a b) (by omega) rfl
open Go.ChangeShapes Go.WideShapes Go.ChangeAt Go.RowKit
theorem oI:oJ Tryz.prog 3 (pV 1 eI):=aCl Tryz.underlying3
theorem oL:oJ Tryz.prog 22 (pV 1 eL):=uD Tryz.underlying22 (by decide) (by kernel_rfl) oI
theorem aIH:oJ Tryz.prog 23 (pV 1 (λl:bG=>[.list 1 (l.map eL)])):=uD Tryz.underlying23 (by decide) (by kernel_rfl) oL
end
section
theorem aDT {w:World} : ∀ {ds:List AV} {vs:List Value} {S:List Nat},RepVs w ds vs S-> ∀ d∈ds,∃ v S',RepD w d v S'
 | [],_,_,_,d,hd=>by cases hd
 |c::cs,vs,S,h,d,hd=>by
  simp only [RepVs] at h;obtain ⟨v,r,S1,S2,_,_,h3,h4⟩:=h;rcases bX.1 hd with rfl|h'
  ·exact ⟨v,S1,h3⟩
  ·exact aDT h4 d h'
theorem aDU {w:World} {b:Nat} : ∀ {ds:List AV} {o:Nat} {S:List Nat},RepCs w b o ds S-> ∀ d∈ds,∃ v S',RepD w d v S'
 | [],_,_,_,d,hd=>by cases hd
 |c::cs,o,S,h,d,hd=>by
  simp only [RepCs] at h;obtain ⟨v,S1,S2,_,_,_,_,h3,h4⟩:=h;rcases bX.1 hd with rfl|h'
  ·exact ⟨v,S1,h3⟩
  ·exact aDU h4 d h'
theorem aDV {w:World} {k b:Nat} : ∀ {es:List (List AV)} {o:Nat} {S:List Nat},RepEs w k b o es S-> ∀ cs∈es,∀ d∈cs,∃ v S',RepD w d v S'
 | [],_,_,_,cs,hc=>by cases hc
 |c::es,o,S,h,cs,hc=>by
  simp only [RepEs] at h;obtain ⟨S1,S2,_,_,h3,h4⟩:=h;rcases bX.1 hc with rfl|h'
  ·exact aDU h3
  ·exact aDV h4 cs h'
theorem aDW {w:World} {k:Nat} {es:List (List AV)} {v:Value} {S:List Nat} (h:RepD w (.list k es) v S):es.length<=9223372036854775807/\ ∀ cs∈es,∀ d∈cs,∃ v S',RepD w d v S':=by
 unfold RepD at h;obtain ⟨a,c,_,h2,h3,h4⟩:=h;have hm:maxLen<=9223372036854775807:=by decide
 refine ⟨by omega,?_⟩;rcases h4 with ⟨rfl,_⟩|⟨b,o,T,_,_,_,h5⟩
 ·intro cs hcs;cases hcs
 ·exact aDV h5
theorem aHD {w:World} {l:aA} {v:Value} {S:List Nat} (h:RepD w (aFD l) v S):fI l:=by
 have:=(aDW (k:=1) (es:=List.map eI l) h).1
 rwa [dD] at this
theorem aHW {w:World} {ds:List AV} (h: ∀ d∈ds,∃ v S',RepD w d v S') {l:aA} (hl:aFD l∈ds):fI l:=by
 obtain ⟨v,S,h⟩:=h _ hl;exact aHD h
theorem aFT {w:World} {ds:List AV} (h: ∀ d∈ds,∃ v S',RepD w d v S') {α:Type} {k:Nat} {e:α->List AV} {l:List α} (hl:AV.list k (l.map e)∈ds):fI l/\ ∀ x∈l,∀ d∈e x,∃ v S',RepD w d v S':=by
 obtain ⟨v,S,h⟩:=h _ hl;have:=aDW h;rw [dD] at this;exact ⟨this.1,λx hx=>this.2 _ (List.mem_map.2 ⟨x,hx,rfl⟩)⟩
theorem aFU {w0 w:World} {v:Value} {S:List Nat} (h:aDs w (.bl true) v S):Ending.returned v= .returned (.bool true):=by rw [h.1]
theorem aHX (n:Nat) (P:Nat->Nat->Prop) (mono: ∀ k i,P k i->P (k+1) i)
  (st: ∀ k,(∀ i,i<n->P (k+1) i->P k i)-> ∀ i,i<n->P (k+2) i->P (k+1) i):
  ∀ k i,i<n->P k i->P n i:=by
 classical
 have stl: ∀ a,(∀ i,i<n->P (a+1) i->P a i)-> ∀ d i,i<n->P (a+d) i->P a i:=by
  intro a ha
  have all: ∀ d,∀ i,i<n->P (a+d+1) i->P (a+d) i:=by
   intro d;induction d with
   |zero=>exact ha
   |succ d ih=>exact st (a+d) ih
  intro d;induction d with
  |zero=>intro i _ h;exact h
  |succ d ih=>intro i hi h;exact ih i hi (all d i hi h)
 have mon: ∀ d k i,P k i->P (k+d) i:=by
  intro d;induction d with
  |zero=>intro k i h;exact h
  |succ d ih=>intro k i h;exact mono _ _ (ih k i h)
 have key: ∃ a,a<=n/\ ∀ i,i<n->P (a+1) i->P a i:=by
  refine Classical.byContradiction λhn=>?_
  have hs: ∀ a,a<=n-> ∃ i,i<n/\P (a+1) i/\ ¬ P a i:=by
   intro a ha;refine Classical.byContradiction λhc=>hn ⟨a,ha,λi hi h=>?_⟩;exact Classical.byContradiction λhp=>hc ⟨i,hi,h,hp⟩
  let c:=λk=>(List.range n).countP (λi=>decide (P k i))
  have hc: ∀ a,a<=n->c a+1<=c (a+1):=by
   intro a ha;obtain ⟨i,hi,h1,h2⟩:=hs a ha
   have: ∀ L:List Nat,i∈L->L.countP (λi=>decide (P a i))+1<=L.countP (λi=>decide (P (a+1) i)):=by
    intro L;induction L with
    |nil=>intro h;cases h
    |cons x L ih=>
     intro hm;have hle:L.countP (λi=>decide (P a i))<=L.countP (λi=>decide (P (a+1) i)):=List.countP_mono_left (λx _ h=>by simp only [fW] at h ⊢;exact mono _ _ h);simp only [List.countP_cons];by_cases hx:x=i
     ·subst hx;simp only [h1,h2,decide_true,decide_false];simp;exact hle
     ·have:=ih (by cases hm with|head=>exact absurd rfl hx|tail _ h=>exact h);by_cases p:P a x
      ·have q:=mono _ _ p;simp only [p,q,decide_true];simp;omega
      ·simp only [p,decide_false];simp;omega
   exact this _ (List.mem_range.2 hi)
  have: ∀ a,a<=n->a+1<=c (a+1):=by
   intro a;induction a with
   |zero=>intro _;have:=hc 0 (Nat.zero_le _);omega
   |succ a ih=>intro h;have:=ih (by omega);have:=hc (a+1) h;omega
  have h1:=this n (bQ _);have h2:c (n+1)<=n:=by have:=List.countP_le_length (p:=λi=>decide (P (n+1) i)) (l:=List.range n);simpa using this
  omega
 obtain ⟨a,ha,hst⟩:=key;intro k i hi h;have h1:P a i:=stl a hst k i hi (by rw [Nat.add_comm];exact mon a k i h);have:=mon (n-a) a i h1
 rwa [show a+(n-a)=n by omega] at this
def bA (l:aA) (i:Nat):Int:=l.getD i 0
theorem aAv (l:aA) (a:Nat) (v:Int) (i:Nat):bA (l.set a v) i=if a=i/\i<l.length then v else bA l i:=by
 unfold bA;simp only [List.getD_eq_getElem?_getD,List.getElem?_set];split <;> rename_i h
 ·subst h;split <;> rename_i h2
  ·simp [h2]
  ·simp [h2]
 ·simp [h]
def flS (c:aA) (p:Nat×Nat):aA:=(c.set p.1 (min (bA c p.1) (bA c p.2))).set p.2 (min (bA c p.1) (bA c p.2))
theorem nS (c p):(flS c p).length=c.length:=by simp [flS]
theorem aDX (c:aA) (p:Nat×Nat) (i:Nat) (hi:i<c.length):bA (flS c p) i=if i=p.1∨i=p.2 then min (bA c p.1) (bA c p.2) else bA c i:=by
 unfold flS;rw [aAv,aAv];simp only [List.length_set];by_cases h2:p.2=i
 ·rw [bT ⟨h2,hi⟩,bT (.inr h2.symm)]
 ·rw [bM (λh=>h2 h.1)];by_cases h1:p.1=i
  ·rw [bT ⟨h1,hi⟩,bT (.inl h1.symm)]
  ·rw [bM (λh=>h1 h.1),bM (by rintro (h|h);exact h1 h.symm;exact h2 h.symm)]
def flR (ps:List (Nat×Nat)) (c:aA):aA:=ps.foldl flS c
def qK (ps:List (Nat×Nat)):Nat->aA->aA
 |0,c=>c
 |k+1,c=>flR ps (qK ps k c)
theorem aGi (ps c):(flR ps c).length=c.length:=by
 unfold flR;induction ps generalizing c with
 |nil=>rfl
 |cons p ps ih=>rw [List.foldl_cons,ih,nS]
theorem jF (ps k c):(qK ps k c).length=c.length:=by
 induction k with
 |zero=>rfl
 |succ k ih=>rw [qK,aGi,ih]
theorem aCo (c p i) (hi:i<c.length):bA (flS c p) i<=bA c i:=by
 rw [aDX c p i hi];split
 ·rename_i h;rcases h with h|h <;> subst h <;> omega
 ·omega
theorem aCp (ps c i) (hi:i<c.length):bA (flR ps c) i<=bA c i:=by
 unfold flR;induction ps generalizing c with
 |nil=>exact Int.le_refl _
 |cons p ps ih=>rw [List.foldl_cons];exact Int.le_trans (ih _ (by rw [nS];exact hi)) (aCo c p i hi)
theorem aBw (ps:List (Nat×Nat)) (c:aA) (p:Nat×Nat) (hp:p∈ps) (h1:p.1<c.length) (h2:p.2<c.length):bA (flR ps c) p.1<=bA c p.2/\bA (flR ps c) p.2<=bA c p.1:=by
 unfold flR;induction ps generalizing c with
 |nil=>cases hp
 |cons q ps ih=>
  rw [List.foldl_cons];rcases bX.1 hp with rfl|hp
  ·have a:=aCp ps (flS c p) p.1 (by rw [nS];exact h1);have b:=aCp ps (flS c p) p.2 (by rw [nS];exact h2);unfold flR at a b;rw [aDX c p p.1 h1,bT (.inl rfl)] at a;rw [aDX c p p.2 h2,bT (.inr rfl)] at b;constructor <;> omega
  ·have:=ih (flS c q) hp (by rw [nS];exact h1) (by rw [nS];exact h2);have a:=aCo c q p.1 h1;have b:=aCo c q p.2 h2;constructor <;> omega
def aII (ps:List (Nat×Nat)) (i l:Nat):Prop:=l=i∨(i,l)∈ps∨(l,i)∈ps
def flW (ps:List (Nat×Nat)):Nat->Nat->Nat->Prop
 |0,i,j=>i=j
 |k+1,i,j=> ∃ l,aII ps i l/\flW ps k l j
theorem aFV (ps k i j) (h:flW ps k i j):flW ps (k+1) i j:=⟨i,.inl rfl,h⟩
theorem aAw (ps:List (Nat×Nat)) (n j:Nat) (hj:j<n) (hp: ∀ p∈ps,p.1<n/\p.2<n) (k i:Nat) (h:flW ps k i j):flW ps n i j:=by
 have lt: ∀ k i,flW ps k i j->i<n:=by
  intro k;induction k with
  |zero=>intro i h;exact h▸hj
  |succ k ih=>rintro i ⟨l,ha,h⟩;rcases ha with rfl|ha|ha
              ·exact ih _ h
              ·exact (hp _ ha).1
              ·exact (hp _ ha).2
 refine aHX n (λk i=>flW ps k i j) (λk i h=>aFV ps k i j h) ?_ k i (lt k i h) h;rintro k hs i hi ⟨l,ha,h⟩;exact ⟨l,ha,hs l (lt _ _ h) h⟩
theorem rC (ps:List (Nat×Nat)): ∀ a i j b l,flW ps a i j->flW ps b j l->flW ps (a+b) i l
 |0,i,j,b,l,h,h2=>by cases h;simpa using h2
 |a+1,i,j,b,l,⟨m,hm,h⟩,h2=>by rw [show a+1+b=(a+b)+1 by omega];exact ⟨m,hm,rC ps a m j b l h h2⟩
theorem aBx (ps:List (Nat×Nat)): ∀ a i j,flW ps a i j->flW ps a j i
 |0,_,_,h=>h.symm
 |a+1,i,j,⟨m,hm,h⟩=>rC ps a j m 1 i (aBx ps a m j h) ⟨i,(by rcases hm with h|h|h;exact .inl h.symm;exact .inr (.inr h);exact .inr (.inl h)),rfl⟩
theorem aAx (ps:List (Nat×Nat)) (c:aA) (hp: ∀ p∈ps,p.1<c.length/\p.2<c.length): ∀ k i j,i<c.length->flW ps k i j->bA (qK ps k c) i<=bA c j
 |0,i,j,_,h=>by cases h;exact Int.le_refl _
 |k+1,i,j,hi,⟨l,ha,h⟩=>by
  have hl:l<c.length:=by rcases ha with rfl|ha|ha;exact hi;exact (hp _ ha).2;exact (hp _ ha).1
  have ih:=aAx ps c hp k l j hl h;refine Int.le_trans ?_ ih;rcases ha with rfl|ha|ha
  ·exact aCp _ _ _ (by rw [jF];exact hi)
  ·exact (aBw ps (qK ps k c) (i,l) ha (by rw [jF];exact hi) (by rw [jF];exact hl)).1
  ·exact (aBw ps (qK ps k c) (l,i) ha (by rw [jF];exact hl) (by rw [jF];exact hi)).2
def flC (ps:List (Nat×Nat)) (i j:Nat):Prop:= ∃ k,flW ps k i j
theorem flC.trans {ps i j l} (h:flC ps i j) (h2:flC ps j l):flC ps i l:=by obtain ⟨a,h⟩:=h;obtain ⟨b,h2⟩:=h2;exact ⟨a+b,rC ps a i j b l h h2⟩
theorem flC.symm {ps i j} (h:flC ps i j):flC ps j i:=by obtain ⟨a,h⟩:=h;exact ⟨a,aBx ps a i j h⟩
theorem flC.refl (ps i):flC ps i i:=⟨0,rfl⟩
def aFW (ps:List (Nat×Nat)) (c0 c:aA):Prop:= ∀ i,i<c0.length-> ∃ j,j<c0.length/\flC ps i j/\bA c i=bA c0 j
theorem aGj (ps:List (Nat×Nat)) (c0 c:aA) (p:Nat×Nat) (hp:p∈ps) (h1:p.1<c0.length) (h2:p.2<c0.length) (hl:c.length=c0.length) (h:aFW ps c0 c):aFW ps c0 (flS c p):=by
 intro i hi;rw [aDX c p i (by omega)];have e12:flC ps p.1 p.2:=⟨1,p.2,.inr (.inl hp),rfl⟩;split
 ·rename_i hq;obtain ⟨j1,a1,b1,d1⟩:=h p.1 h1;obtain ⟨j2,a2,b2,d2⟩:=h p.2 h2;have i1:flC ps i p.1:=by rcases hq with rfl|rfl;exact .refl _ _;exact e12.symm
  rcases Int.le_total (bA c p.1) (bA c p.2) with hm|hm
  ·exact ⟨j1,a1,i1.trans b1,by rw [←d1];omega⟩
  ·exact ⟨j2,a2,(i1.trans e12).trans b2,by rw [←d2];omega⟩
 ·exact h i hi
theorem aAy (ps:List (Nat×Nat)) (c0:aA) (hp: ∀ p∈ps,p.1<c0.length/\p.2<c0.length) (k:Nat):aFW ps c0 (qK ps k c0):=by
 induction k with
 |zero=>exact λi hi=>⟨i,hi,.refl _ _,rfl⟩
 |succ k ih=>
  have: ∀ qs:List (Nat×Nat),(∀ p∈qs,p∈ps)-> ∀ c:aA,c.length=c0.length->aFW ps c0 c->aFW ps c0 (qs.foldl flS c):=by
   intro qs;induction qs with
   |nil=>intro _ c _ h;exact h
   |cons q qs ih2=>intro hq c hl h;exact ih2 (λp h=>hq p (.tail _ h)) _ (by rw [nS];exact hl) (aGj ps c0 c q (hq q (.head _)) (hp q (hq q (.head _))).1 (hp q (hq q (.head _))).2 hl h)
  exact this ps (λ_ h=>h) _ (jF _ _ _) ih
def aHY (bn:Nat->Prop) (c0:aA):Prop:= ∀ i,i<c0.length->(bn i/\bA c0 i=i)∨(¬ bn i/\bA c0 i= -1)
theorem aFX (ps:List (Nat×Nat)) (c0:aA) (bn:Nat->Prop) (h0:aHY bn c0) (hp: ∀ p∈ps,p.1<c0.length/\p.2<c0.length) (hb: ∀ p∈ps,bn p.1/\bn p.2) (i:Nat) (hi:i<c0.length):
  (¬ bn i/\bA (qK ps c0.length c0) i= -1)∨(bn i/\ ∃ v:Nat,v<c0.length/\bA (qK ps c0.length c0) i=v/\bA (qK ps c0.length c0) v=v):=by
 have bc: ∀ k i j,flW ps k i j->(bn i↔bn j):=by
  intro k;induction k with
  |zero=>intro i j h;cases h;exact Iff.rfl
  |succ k ih=>rintro i j ⟨l,ha,h⟩;rw [←ih l j h];rcases ha with rfl|ha|ha
              ·exact Iff.rfl
              ·exact ⟨λ_=>(hb _ ha).2,λ_=>(hb _ ha).1⟩
              ·exact ⟨λ_=>(hb _ ha).1,λ_=>(hb _ ha).2⟩
 obtain ⟨j,hj,⟨k,hk⟩,e⟩:=aAy ps c0 hp c0.length i hi;rcases h0 j hj with ⟨b,hv⟩|⟨b,hv⟩
 ·refine .inr ⟨(bc k i j hk).2 b,j,hj,by rw [e,hv],?_⟩;obtain ⟨j',hj',⟨k',hk'⟩,e'⟩:=aAy ps c0 hp c0.length j hj;have a1:=aAx ps c0 hp _ i j' hi (aAw ps _ j' hj' hp _ i (rC ps _ _ _ _ _ hk hk'));have a2:=aAx ps c0 hp _ j j hj (aAw ps _ j hj hp 0 j rfl);rw [e,hv] at a1;rw [hv] at a2;rw [←e'] at a1;omega
 ·exact .inl ⟨λh=>b ((bc k i j hk).1 h),by rw [e,hv]⟩
def pF (ps:List (Nat×Nat)) (n i:Nat):Prop:= ∀ j,j<n->flC ps i j->i<=j
theorem aFY {p:Nat×Nat} {qs:List (Nat×Nat)} {i j:Nat} (h:flC (p::qs) i j):flC qs i j∨(flC qs i p.1/\flC qs p.2 j)∨(flC qs i p.2/\flC qs p.1 j):=by
 obtain ⟨k,h⟩:=h;induction k generalizing i with
 |zero=>cases h;exact .inl (.refl _ _)
 |succ k ih=>
  obtain ⟨l,ha,h⟩:=h;have h2:=ih h;have one: ∀ {x y},(x,y)∈qs->flC qs x y:=λ{x y} h=>⟨1,y,.inr (.inl h),rfl⟩;rcases ha with rfl|ha|ha
  ·exact h2
  ·rcases bX.1 ha with rfl|ha
   ·rcases h2 with h2|⟨_,h3⟩|⟨_,h3⟩
    ·exact .inr (.inl ⟨.refl _ _,h2⟩)
    ·exact .inr (.inl ⟨.refl _ _,h3⟩)
    ·exact .inl h3
   ·rcases h2 with h2|⟨h2,h3⟩|⟨h2,h3⟩
    ·exact .inl ((one ha).trans h2)
    ·exact .inr (.inl ⟨(one ha).trans h2,h3⟩)
    ·exact .inr (.inr ⟨(one ha).trans h2,h3⟩)
  ·rcases bX.1 ha with rfl|ha
   ·rcases h2 with h2|⟨_,h3⟩|⟨_,h3⟩
    ·exact .inr (.inr ⟨.refl _ _,h2⟩)
    ·exact .inl h3
    ·exact .inr (.inr ⟨.refl _ _,h3⟩)
   ·rcases h2 with h2|⟨h2,h3⟩|⟨h2,h3⟩
    ·exact .inl ((one ha).symm.trans h2)
    ·exact .inr (.inl ⟨(one ha).symm.trans h2,h3⟩)
    ·exact .inr (.inr ⟨(one ha).symm.trans h2,h3⟩)
theorem aDZ {P Q:Nat->Bool} : ∀ {L:List Nat},L.Nodup->(∀ i∈L,∀ j∈L,P i=true->Q i=false->P j=true->Q j=false->i=j)->L.countP P<=L.countP Q+1
 | [],_,_=>by simp
 |x::L,hn,h=>by
  have hn2:=List.nodup_cons.1 hn;have ih:=aDZ hn2.2 (λi hi j hj=>h i (.tail _ hi) j (.tail _ hj));rw [List.countP_cons,List.countP_cons];by_cases hx:P x=true/\Q x=false
  ·have hz: ∀ i∈L,P i=true->Q i=true:=λi hi hp=>by
    cases hq:Q i with
    |true=>rfl
    |false=>exact absurd (h x (.head _) i (.tail _ hi) hx.1 hx.2 hp hq▸hi) hn2.1
   have:=List.countP_mono_left hz;rw [hx.1,hx.2];simp only [eC,if_false,if_true];omega
  ·cases hp:P x <;> cases hq:Q x <;> simp only [hp,hq,eC,if_false,if_true] <;> first|omega|exact absurd ⟨hp,hq⟩ hx
open Classical in
theorem aDa (n:Nat): ∀ ps:List (Nat×Nat),(∀ p∈ps,p.1<n/\p.2<n)->n<=(List.range n).countP (λi=>decide (pF ps n i))+ps.length
 | [],_=>by
  have: ∀ k i j,flW [] k i j->i=j:=by
   intro k;induction k with
   |zero=>intro i j h;exact h
   |succ k ih=>rintro i j ⟨l,ha,h⟩;rcases ha with rfl|ha|ha
               ·exact ih _ _ h
               ·cases ha
               ·cases ha
  have hr: ∀ i,pF [] n i:=λi j _ ⟨k,h⟩=>Nat.le_of_eq (this k i j h);have:=List.countP_eq_length (p:=λi=>decide (pF [] n i)) (l:=List.range n);rw [this.2 (λi _=>aW (hr i)),List.length_range];simp
 |p::qs,hp=>by
  have ih:=aDa n qs (λq h=>hp q (.tail _ h))
  have:=aDZ (P:=λi=>decide (pF qs n i)) (Q:=λi=>decide (pF (p::qs) n i)) (L:=List.range n) List.nodup_range (λi hi j hj h1 h2 h3 h4=>by
   simp only [fW,decide_eq_false_iff_not] at h1 h2 h3 h4
   have g: ∀ {x},pF qs n x-> ¬ pF (p::qs) n x-> ∃ y,y<x/\y<n/\((flC qs x p.1/\flC qs p.2 y)∨(flC qs x p.2/\flC qs p.1 y)):=λ{x} hr hn=>by
    refine Classical.byContradiction λhc=>hn λy hy hxy=>?_;rcases dR y x with hlt|hge
    ·rcases aFY hxy with h|h|h
     ·exact hr y hy h
     ·exact absurd ⟨y,hlt,hy,.inl h⟩ hc
     ·exact absurd ⟨y,hlt,hy,.inr h⟩ hc
    ·exact hge
   have hi':=List.mem_range.1 hi;have hj':=List.mem_range.1 hj;obtain ⟨y,a1,a2,a3⟩:=g h1 h2;obtain ⟨z,b1,b2,b3⟩:=g h3 h4;rcases a3 with ⟨a3,a4⟩|⟨a3,a4⟩ <;> rcases b3 with ⟨b3,b4⟩|⟨b3,b4⟩
   ·have c1:=h1 j hj' (a3.trans b3.symm);have c2:=h3 i hi' (b3.trans a3.symm);omega
   ·have c1:=h1 z b2 (a3.trans b4);have c2:=h3 y a2 (b3.trans a4);omega
   ·have c1:=h1 z b2 (a3.trans b4);have c2:=h3 y a2 (b3.trans a4);omega
   ·have c1:=h1 j hj' (a3.trans b3.symm);have c2:=h3 i hi' (b3.trans a3.symm);omega)
  rw [List.length_cons];omega
theorem aFZ (ps:List (Nat×Nat)) (c0:aA) (bn:Nat->Bool) (h0:aHY (λi=>bn i=true) c0) (hp: ∀ p∈ps,p.1<c0.length/\p.2<c0.length) (hb: ∀ p∈ps,bn p.1=true/\bn p.2=true):
  (List.range c0.length).countP bn<=(List.range c0.length).countP (λi=>decide (bA (qK ps c0.length c0) i=i))+ps.length/\(List.range c0.length).countP (λi=>decide (bA (qK ps c0.length c0) i=i))<=(List.range c0.length).countP bn:=by
 have hl:=λi hi=>aFX ps c0 (λi=>bn i=true) h0 hp hb i hi;constructor
 ·have hr:=aDa c0.length ps hp
  have key: ∀ L:List Nat,(∀ i∈L,i<c0.length)->(@List.countP Nat (λi=> @decide (pF ps c0.length i) (Classical.propDecidable _)) L)+L.countP bn<=L.countP (λi=>decide (bA (qK ps c0.length c0) i=i))+L.length:=by
   intro L;induction L with
   |nil=>intro _;simp
   |cons x L ih=>
    intro hL;have ih:=ih (λi hi=>hL i (.tail _ hi));have hx:=hL x (.head _);rw [List.countP_cons,List.countP_cons,List.countP_cons,List.length_cons];by_cases hr:pF ps c0.length x
    ·by_cases hbx:bn x=true
     ·have:bA (qK ps c0.length c0) x=x:=by
       rcases hl x hx with ⟨h,_⟩|⟨_,v,hv,e1,e2⟩
       ·exact absurd hbx h
       ·obtain ⟨j,hj,hc,e⟩:=aAy ps c0 hp c0.length x hx;rcases h0 j hj with ⟨_,hv2⟩|⟨_,hv2⟩
        ·have h1:=hr j hj hc;obtain ⟨k,hk⟩:=hc;have h2:=aAx ps c0 hp _ x x hx (aAw ps _ x hx hp 0 x rfl);rcases h0 x hx with ⟨_,h3⟩|⟨h3,_⟩
         ·omega
         ·exact absurd hbx h3
        ·omega
      rw [aW this];simp only [hr,hbx,decide_true,if_true];omega
     ·have hbf:bn x=false:=by simpa using hbx
      simp only [hr,hbf,decide_true,if_true,eC,if_false];omega
    ·simp only [hr,decide_false,eC,if_false];split <;> split <;> omega
  have:=key (List.range c0.length) (λi hi=>List.mem_range.1 hi);rw [List.length_range] at this;omega
 ·refine List.countP_mono_left λi hi h=>?_;have hi':=List.mem_range.1 hi;rcases hl i hi' with ⟨_,e⟩|⟨h,_⟩
  ·simp only [fW] at h;omega
  ·exact h
theorem aFa {c d:Bool} :(bif c then some d else some false)=some (c&&d):=by cases c <;> rfl
theorem aDb {x a b:Int} :(bif decide (a<=x) then some (decide (x<=b)) else some false)=some (sF x a b):=by
 rw [aFa];unfold sF;by_cases h1:a<=x <;> by_cases h2:x<=b <;> simp [h1,h2]
theorem oN (x a b:Int):fP x a b=some (sF x a b):=aDb
theorem sM (x a b:Int):gA x a b=some (sF x a b):=aDb
theorem aBy {v:aA} {f:Int->Option Bool} (P:Int->Bool) (hf: ∀ x,f x=some (P x)) (h:bI v): ∃ i:Int,bU v f=some i/\decide (0<=i)=v.any P:=by
 unfold bI at h;unfold bU;rw [aDz (s0:=0) (s:=0) (n:=v.length) (λk=>bif P (v[k]?.getD 0) then some (k:Int) else none) rfl (by omega) (Nat.zero_le _) (λk _ hk=>?_) (λ_=>?_)]
 ·rw [aC];cases e:(List.range' 0 (v.length - 0)).findSome? (λk:Nat=>bif P (v[k]?.getD 0) then some (k:Int) else none) with
  |none=>
   refine ⟨-1,rfl,?_⟩;rw [List.findSome?_eq_none_iff] at e
   have:v.any P=false:=by
    rw [List.any_eq_false];intro x hx;obtain ⟨k,hk,rfl⟩:=List.mem_iff_getElem.1 hx;have:=e k (by simp;omega);simp only [qE hk,rN] at this;cases hp:P v[k] with
    |false=>simp
    |true=>rw [hp] at this;cases this
   rw [this];rfl
  |some i=>
   refine ⟨i,rfl,?_⟩;obtain ⟨k,hk,he⟩:=List.exists_of_findSome?_eq_some e;simp at hk;have hkl:k<v.length:=by omega
   rw [qE hkl] at he;simp only [rN] at he;cases hp:P v[k] with
   |false=>rw [hp] at he;cases he
   |true=>
    rw [hp] at he;cases he;rw [aW (by omega),eq_comm,List.any_eq_true];exact ⟨_,List.getElem_mem hkl,hp⟩
 ·unfold bW;rw [pP hk,aH,atG 0 hk,aC,hf,aC];cases P _ <;> rfl
 ·unfold bW;rw [pQ (bQ _),aL]
theorem wD {v:aA} (h:bI v) (a b:Int):gQ v a b=some (v.all λx=>sF x a b):=by
 unfold gQ eG;obtain ⟨i,h1,h2⟩:=aBy (f:=λb0=>fR b0 a b) (λx=> !sF x a b) (λx=>by simp only [fR];rw [oN,aC]) h;rw [h1,aC,aC,h2,List.not_any_eq_all_not];simp
end
end Go.Proofs.YtckihlpjfmnccaaGreatDoor

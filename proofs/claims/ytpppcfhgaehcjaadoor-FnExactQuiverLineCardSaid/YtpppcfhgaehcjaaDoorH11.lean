/-
  Several texts of the claim in one.
-/
import Derived.Shelf.Bits.Mul64
import Derived.Test.YtpppcfhgaehcjaaDoorProg
import Derived.Test.YtpppcfhgaehcjaaDoorH10
set_option linter.unusedVariables false
set_option linter.unusedSimpArgs false
namespace Go.Proofs.YtpppcfhgaehcjaaDoor
open Go.RowKit
noncomputable section
set_option maxRecDepth 10000
end
noncomputable section
theorem k2 {αa:Sort _} {a:αa} {αb:Sort _} {b:αb} :a=a∧b=b:=⟨rfl,rfl⟩
theorem k3 {αa:Sort _} {a:αa} {αb:Sort _} {b:αb} {αc:Sort _} {c:αc} :a=a∧b=b∧c=c:=⟨rfl,rfl,rfl⟩
theorem k4 {αa:Sort _} {a:αa} {αb:Sort _} {b:αb} {αc:Sort _} {c:αc} {αd:Sort _} {d:αd} :a=a∧b=b∧c=c∧d=d:=⟨rfl,rfl,rfl,rfl⟩
theorem k7 {αa:Sort _} {a:αa} {αb:Sort _} {b:αb} {αc:Sort _} {c:αc} {αd:Sort _} {d:αd} {αe:Sort _} {e:αe} {αf:Sort _} {f:αf} {αg:Sort _} {g:αg} :a=a∧b=b∧c=c∧d=d∧e=e∧f=f∧g=g:=⟨rfl,rfl,rfl,rfl,rfl,rfl,rfl⟩
theorem k8 {αa:Sort _} {a:αa} {αb:Sort _} {b:αb} {αc:Sort _} {c:αc} {αd:Sort _} {d:αd} {αe:Sort _} {e:αe} {αf:Sort _} {f:αf} {αg:Sort _} {g:αg} {αh:Sort _} {h:αh} :a=a∧b=b∧c=c∧d=d∧e=e∧f=f∧g=g∧h=h:=⟨rfl,rfl,rfl,rfl,rfl,rfl,rfl,rfl⟩
section
variable {ops:Array Oper} {nt:Nat} {r:List Oper} {s:AState} {tr:List Tr} {K:List Tr→AState→Prop} {K':AState→Prop} {d:Option Tmp} {ty:TypeId} {pos:String} {aft:Array Edge} {g:Option (Nat×Bool)}
theorem lp {x:Operand} {t:Nat} {y:Ty} {b i j:Nat} {blk:Blk} {cs:List AV} {v:AV} (h:s.ev x=some (.ptr b i j)∧s.heap b=some blk∧bV TT t=some y∧(y.desc.isAgg||Nat.beq y.size 1)=true∧blk.es[i]? =some cs∧Nat.ble (j+y.size) cs.length=true∧kJ y.desc.isAgg (((cs.drop j).take y.size).map lP)=v∧wZ ops nt s ⟨d,.load t x,ty,pos,aft,g⟩ []=true) (g2:AOps Tryd.prog ops nt r (s.app d ⟨v,[b],[],[]⟩) (kL ⟨v,[b],[],[]⟩::tr) K):AOps Tryd.prog ops nt (⟨d,.load t x,ty,pos,aft,g⟩::r) s tr K:=by
 obtain ⟨h0,h1,h2,h3,h4,h5,h6,h7⟩:=h;exact ae (iC aR h0 h1 h2 h3 h4 h5 h6) h7 g2
theorem fp {x:Operand} {st f off ft:Nat} {b i j:Nat} {blk:Blk} {y yf:Ty} {fs:List (Nat×Nat)} (h:s.ev x=some (.ptr b i j)∧s.heap b=some blk∧bV TT st=some y∧y.desc= .struct fs∧fs[f]? =some (off,ft)∧bV TT ft=some yf∧Nat.beq yf.size 0=false∧wZ ops nt s ⟨d,.fieldAddr st x f,ty,pos,aft,g⟩ []=true) (g2:AOps Tryd.prog ops nt r (s.app d ⟨.ptr b i (j+off),[b],[],[]⟩) (kL ⟨.ptr b i (j+off),[b],[],[]⟩::tr) K):AOps Tryd.prog ops nt (⟨d,.fieldAddr st x f,ty,pos,aft,g⟩::r) s tr K:=by
 obtain ⟨h0,h1,h2,h3,h4,h5,h6,h7⟩:=h;exact ae (qO aR h0 h1 h2 h3 h4 h5 h6) h7 g2
theorem lr {x:Operand} {t:Nat} {y:Ty} {cs:List AV} {v:AV} (h:s.ev x=some (.ref cs)∧bV TT t=some y∧(y.desc.isAgg||Nat.beq y.size 1)=true∧Nat.ble y.size cs.length=true∧(cs.take y.size).all cE=true∧kJ y.desc.isAgg (cs.take y.size)=v∧wZ ops nt s ⟨d,.load t x,ty,pos,aft,g⟩ []=true) (g2:AOps Tryd.prog ops nt r (s.app d ⟨v,[],[],[]⟩) (kL ⟨v,[],[],[]⟩::tr) K):AOps Tryd.prog ops nt (⟨d,.load t x,ty,pos,aft,g⟩::r) s tr K:=by
 obtain ⟨h0,h1,h2,h3,h4,h5,h6⟩:=h;exact ae (zN aR h0 h1 h2 h3 h4 h5) h6 g2
theorem cm {op:BinOp} {t t':TypeId} {x y:Operand} {q:IntKind} {a b:Int} {c:Bool} (h:s.ev x=some (.sc (.int q a))∧s.ev y=some (.sc (.int q b))∧aDL op a b=some c∧wZ ops nt s ⟨d,.binOp op t x y t',ty,pos,aft,g⟩ []=true) (g2:AOps Tryd.prog ops nt r (s.app d ⟨.bl c,[],[],[]⟩) (kL ⟨.bl c,[],[],[]⟩::tr) K):AOps Tryd.prog ops nt (⟨d,.binOp op t x y t',ty,pos,aft,g⟩::r) s tr K:=by
 obtain ⟨h0,h1,h2,h3⟩:=h;exact ae (aDg h0 h1 h2) h3 g2
theorem pk {c x y:Operand} {t:Bool} {v:AV} (h:s.ev c=some (.sc (.bool t))∧s.ev (if t then x else y)=some v∧wZ ops nt s ⟨d,.pick c x y,ty,pos,aft,g⟩ []=true) (g2:AOps Tryd.prog ops nt r (s.app d ⟨v,[],[],[]⟩) (kL ⟨v,[],[],[]⟩::tr) K):AOps Tryd.prog ops nt (⟨d,.pick c x y,ty,pos,aft,g⟩::r) s tr K:=by
 obtain ⟨h0,h1,h2⟩:=h;exact ae (aBn h0 h1) h2 g2
theorem ln {x:Operand} {t e q:Nat} {y:Ty} {α:Type} {f:α→List AV} {l:List α} (h:s.ev x=some (.list q (List.map f l))∧bV TT t=some y∧y.desc= .slice e∧wZ ops nt s ⟨d,.call ⟨.builtin .len,#[x],#[t]⟩,ty,pos,aft,g⟩ []=true) (g2:AOps Tryd.prog ops nt r (s.app d ⟨.int l.length,[],[],[]⟩) (kL ⟨.int l.length,[],[],[]⟩::tr) K):AOps Tryd.prog ops nt (⟨d,.call ⟨.builtin .len,#[x],#[t]⟩,ty,pos,aft,g⟩::r) s tr K:=by
 obtain ⟨h0,h1,h2,h3⟩:=h;exact ae (aFG aR h0 h1 h2) h3 g2
theorem lpS {x:Operand} {t:Nat} {y:Ty} {b i j:Nat} {blk:Blk} {cs:List AV} {v:AV} (h:s.ev x=some (.ptr b i j)∧s.heap b=some blk∧bV TT t=some y∧(y.desc.isAgg||Nat.beq y.size 1)=true∧blk.es[i]? =some cs∧Nat.ble (j+y.size) cs.length=true∧kJ y.desc.isAgg (((cs.drop j).take y.size).map lP)=v∧wZ ops nt s ⟨d,.load t x,ty,pos,aft,g⟩ []=true) (g2:SOps Tryd.prog ops nt r (s.app d ⟨v,[b],[],[]⟩) K'):SOps Tryd.prog ops nt (⟨d,.load t x,ty,pos,aft,g⟩::r) s K':=by
 obtain ⟨h0,h1,h2,h3,h4,h5,h6,h7⟩:=h;exact se (iC aR h0 h1 h2 h3 h4 h5 h6) h7 g2
theorem fpS {x:Operand} {st f off ft:Nat} {b i j:Nat} {blk:Blk} {y yf:Ty} {fs:List (Nat×Nat)} (h:s.ev x=some (.ptr b i j)∧s.heap b=some blk∧bV TT st=some y∧y.desc= .struct fs∧fs[f]? =some (off,ft)∧bV TT ft=some yf∧Nat.beq yf.size 0=false∧wZ ops nt s ⟨d,.fieldAddr st x f,ty,pos,aft,g⟩ []=true) (g2:SOps Tryd.prog ops nt r (s.app d ⟨.ptr b i (j+off),[b],[],[]⟩) K'):SOps Tryd.prog ops nt (⟨d,.fieldAddr st x f,ty,pos,aft,g⟩::r) s K':=by
 obtain ⟨h0,h1,h2,h3,h4,h5,h6,h7⟩:=h;exact se (qO aR h0 h1 h2 h3 h4 h5 h6) h7 g2
theorem cmS {op:BinOp} {t t':TypeId} {x y:Operand} {q:IntKind} {a b:Int} {c:Bool} (h:s.ev x=some (.sc (.int q a))∧s.ev y=some (.sc (.int q b))∧aDL op a b=some c∧wZ ops nt s ⟨d,.binOp op t x y t',ty,pos,aft,g⟩ []=true) (g2:SOps Tryd.prog ops nt r (s.app d ⟨.bl c,[],[],[]⟩) K'):SOps Tryd.prog ops nt (⟨d,.binOp op t x y t',ty,pos,aft,g⟩::r) s K':=by
 obtain ⟨h0,h1,h2,h3⟩:=h;exact se (aDg h0 h1 h2) h3 g2
theorem saS {x:Operand} {v:AV} (h:s.ev x=some v∧wZ ops nt s ⟨d,.assign x,ty,pos,aft,g⟩ []=true) (g2:SOps Tryd.prog ops nt r (s.app d ⟨v,[],[],[]⟩) K'):SOps Tryd.prog ops nt (⟨d,.assign x,ty,pos,aft,g⟩::r) s K':=by
 obtain ⟨h0,h1⟩:=h;exact se (rS h0) h1 g2
theorem zG {x:Operand} {v:AV} (h:s.ev x=some v∧wZ ops nt s ⟨d,.move x,ty,pos,aft,g⟩ []=true) (g2:SOps Tryd.prog ops nt r (s.app d ⟨v,[],[],[]⟩) K'):SOps Tryd.prog ops nt (⟨d,.move x,ty,pos,aft,g⟩::r) s K':=by
 obtain ⟨h0,h1⟩:=h;exact se (xD h0) h1 g2
theorem bA:True:=trivial
theorem aT {x:Operand} {v:AV} {Q:Exit→AState→Prop} {T:AState→Prop} (h:s.ev x=some v∧wZ ops nt s ⟨d,.assign x,ty,pos,aft,g⟩ []=true) (g2:T (s.app d ⟨v,[],[],[]⟩)):AOps Tryd.prog ops nt [⟨d,.assign x,ty,pos,aft,g⟩] s tr (λ_ s'=>kM T Q .normal s'):=aa h.1 h.2 (an (tn g2))
theorem aK {o1 o2:Oper} (h:(fL ops s.env o1=some false∧uC o1 nt=true∧fL ops (vQ o1.dst (.tuple []) s.env) o2=some false∧uC o2 nt=true)) (g2:AOps Tryd.prog ops nt r ⟨vQ o2.dst (.tuple []) (vQ o1.dst (.tuple []) s.env),s.heap,s.used,s.ns,s.kp⟩ (⟨[],[]⟩::⟨[],[]⟩::tr) K):AOps Tryd.prog ops nt (o1::o2::r) s tr K:=ak h.1 h.2.1 (ak h.2.2.1 h.2.2.2 g2)
theorem sR {id:Nat} {l:List Oper} {y:Code} {Q:Exit→AState→Prop} (h:AOps Tryd.prog l.toArray nt l s [] (λ_ s'=>kM (λs'=>AC Tryd.prog nt y s' Q) Q .normal s')):AC Tryd.prog nt (.seq (.region id l.toArray false) y) s Q:=sQ (rg h)
theorem sS {id:Nat} {l:List Oper} {y:Code} {Q:Exit→AState→Prop} (h:SOps Tryd.prog l.toArray nt l s (kM (λs'=>AC Tryd.prog nt y s' Q) Q .normal)):AC Tryd.prog nt (.seq (.region id l.toArray false) y) s Q:=sQ (rgS h)
end
end
noncomputable section
theorem oB {α β:Type} {o:Option α} {k:α→Option β} {r:β} {p:Prop} (h:o.bind k=some r) (f: ∀ a,o=some a→k a=some r→p):p:=by
 obtain ⟨a,h1,h2⟩:=ob h;exact f a h1 h2
theorem lI {h:Hp} {cs:List AV} (hp:cs.all cE=true):viewA h (.agg cs) (.agg cs):=aAh (xW hp)
theorem nC {T:List (Nat×Ty)} {rvs:List ResultVar} {e:Exit} {s:AState} {u v:Bool} (h:some u=some v) (p:jY T s rvs=some [.bl u]∧uX e=true):nG T rvs (.bl v) e s:=by
 cases h;exact aX p.2 p.1 rfl (vA rfl)
theorem rtI {T:List (Nat×Ty)} {rvs:List ResultVar} {e:Exit} {s:AState} {u v:Int} (h:some u=some v) (p:jY T s rvs=some [.int u]∧uX e=true):nG T rvs (.int v) e s:=by
 cases h;exact aX p.2 p.1 rfl (sN rfl)
theorem cL {d:Option Tmp} {ty:TypeId} {pos:String} {aft:Array Edge} {g:Option (Nat×Bool)} {s:AState} {f:FuncId} {xs:Array Operand} {ats:Array TypeId} {avs ds:List AV} {ns':List Nat} {α:Type} {e:α→List AV} {q b:Nat} {l:List α} (ok:EOk q e) (hc:HasC Tryd.prog f ds (.list q (List.map e l))) (h:evs s.ev xs.toList=some avs∧s.ns=b::ns'∧lE s.ns=true) (hv:All2 (viewA s.heap) avs ds):AEff Tryd.prog ⟨d,.call ⟨.value (.func f),xs,ats⟩,ty,pos,aft,g⟩ s.ev s.heap s.kp ⟨.own b 0 l.length,avs.flatMap (kF s.heap)++[].flatMap (iB s.heap),[(b,some ⟨q,List.map (ow e) l⟩)],[b]⟩:=
 AEff.conv (wC (x:= .own b 0 (List.map e l).length) (nb:=[(b,⟨q,cU (List.map e l)⟩)]) hc h.1 (by rw [h.2.1];rfl) rfl h.2.2 (ok.good _) hv) (by simp only [aZ]) (aCS (nb':=[(b,⟨q,List.map (ow e) l⟩)]) (by simp only [pA]))
theorem cQ {d:Option Tmp} {ty:TypeId} {pos:String} {aft:Array Edge} {g:Option (Nat×Bool)} {s:AState} {f:FuncId} {xs:Array Operand} {ats:Array TypeId} {avs ds:List AV} {ns':List Nat} {b c:Nat} {v:Qv} (hc:HasC Tryd.prog f ds (.agg (eQ v))) (h:evs s.ev xs.toList=some avs∧s.ns=b::c::ns'∧lE s.ns=true) (hv:All2 (viewA s.heap) avs ds):AEff Tryd.prog ⟨d,.call ⟨.value (.func f),xs,ats⟩,ty,pos,aft,g⟩ s.ev s.heap s.kp ⟨.agg [.int v.n,.own b 0 v.src.length,.own c 0 v.tgt.length],avs.flatMap (kF s.heap)++[].flatMap (iB s.heap),[(b,some ⟨1,List.map (ow eI) v.src⟩),(c,some ⟨1,List.map (ow eI) v.tgt⟩)],[b,c]⟩:=
 AEff.conv (wC (x:= .agg [.int v.n,.own b 0 (List.map eI v.src).length,.own c 0 (List.map eI v.tgt).length]) (nb:=[(b,⟨1,cU (List.map eI v.src)⟩),(c,⟨1,cU (List.map eI v.tgt)⟩)]) hc h.1 (by rw [h.2.1];rfl) rfl h.2.2 (wI trivial (wI (kQ.good _) (wI (kQ.good _) aED))) hv) (by simp only [aZ]) (aCS (nb':=[(b,⟨1,List.map (ow eI) v.src⟩),(c,⟨1,List.map (ow eI) v.tgt⟩)]) (by simp only [pA]))
def re1 (σ:Nat→Option Nat):AV→AV
 | .own b i m=>match σ b with|some b0=> .own b0 i m|none=> .dead
 | .ptr b i j=>match σ b with|some b0=> .ptr b0 i j|none=> .dead
 |x=>x
def reA (σ:Nat→Option Nat):AV→AV
 | .agg cs=> .agg (cs.map (re1 σ))
 |x=>re1 σ x
def ok1 (σ:Nat→Option Nat) (n:Nat):AV→Bool
 | .own b _ _=>(σ b).isSome &&Nat.blt b n
 | .ptr b _ _=>(σ b).isSome &&Nat.blt b n
 | .sc _=>true
 | .nil _=>true
 | .list _ _=>true
 | .ref _=>true
 |_=>false
def okA (σ:Nat→Option Nat) (n:Nat):AV→Bool
 | .agg cs=>cs.all (ok1 σ n)
 |x=>ok1 σ n x
def yK (e:Nat→Option AV):List (Nat×AV)→List (Option AV)
 | []=>[]
 |(t,_)::r=>e t::yK e r
def yL (σ:Nat→Option Nat):List (Nat×AV)→List (Option AV)
 | []=>[]
 |(_,y)::r=>some (reA σ y)::yL σ r
theorem tB {σ:Nat→Option Nat} {n:Nat} {y:AV} (h:ok1 σ n y=true):eR σ n (re1 σ y) y:=by
 cases y <;> simp only [ok1,fE] at h
 ·rfl
 ·trivial
 ·exact ⟨rfl,rfl⟩
 ·rfl
 all_goals
  rename_i b i j
  simp only [bY] at h
  obtain ⟨b0,hb⟩:=Option.isSome_iff_exists.1 h.1
  simp only [re1,hb]
  exact ⟨hb,rfl,rfl,h.2⟩
theorem aDl {σ:Nat→Option Nat} {n:Nat} : ∀ {cs:List AV},cs.all (ok1 σ n)=true→All2 (eR σ n) (cs.map (re1 σ)) cs
 | [],_=>rfl
 |c::cs,h=>by
  simp only [List.all_cons,bY] at h;exact ⟨c,cs,rfl,tB h.1,aDl h.2⟩
theorem aEd {σ:Nat→Option Nat} {n:Nat} {y:AV} (h:okA σ n y=true):sD σ n (reA σ y) y:=by
 cases y with
 |agg cs=>exact aDl h
 |fn f cs=>simp [okA,ok1] at h
 |tuple cs=>simp [okA,ok1] at h
 |dead=>simp [okA,ok1] at h
 |abs q es=>simp [okA,ok1] at h
 |sc u=>exact tB (σ:=σ) (n:=n) (y:= .sc u) h
 |nil q=>exact tB (σ:=σ) (n:=n) (y:= .nil q) h
 |list q es=>exact tB (σ:=σ) (n:=n) (y:= .list q es) h
 |ref cs=>exact tB (σ:=σ) (n:=n) (y:= .ref cs) h
 |own b i m=>
  have:=tB (σ:=σ) (n:=n) (y:= .own b i m) h;simp only [reA];generalize re1 σ (.own b i m)=z at*;cases z <;> first|exact this|exact this.elim
 |ptr b i j=>
  have:=tB (σ:=σ) (n:=n) (y:= .ptr b i j) h;simp only [reA];generalize re1 σ (.ptr b i j)=z at*;cases z <;> first|exact this|exact this.elim
theorem aEe {σ:Nat→Option Nat} {n:Nat} {e:Nat→Option AV} : ∀ {tl:List (Nat×AV)},yK e tl=yL σ tl→(tl.all λp=>okA σ n p.2)=true→oS σ n e tl
 | [],_,_=>trivial
 |(t,y)::r,h,q=>by
  simp only [yK,yL,List.cons.injEq] at h;simp only [List.all_cons,bY] at q;exact ⟨⟨_,h.1,aEd q.1⟩,aEe h.2 q.2⟩
theorem bM {σ:Nat→Option Nat} {n:Nat} {e:Nat→Option AV} {tl:List (Nat×AV)} (h:yK e tl=yL σ tl∧(tl.all λp=>okA σ n p.2)=true):oS σ n e tl:=aEe h.1 h.2
end
noncomputable section
def nmA:List Nat:=[0,1,2,3,4,5,6,7,8,9,10,11,12,13,14,15,16,17,18,19]++[20,21,22,23,24,25,26,27,28,29,30,31,32,33,34,35,36,37,38,39]++([40,41,42,43,44,45,46,47,48,49,50,51,52,53,54,55,56,57,58,59]++([60,61,62,63,64,65,66,67,68,69,70,71,72,73,74,75,76,77,78,79]++[80,81,82,83,84,85,86,87,88,89,90,91,92,93,94,95,96,97,98,99]))
abbrev mN (e:List (Nat×AV)) (h:List (Nat×Blk)) (n:Nat) (kp:Kp:=0):AState:=mkS e h n (nmA.drop n) kp
def iSg:List (Nat×Blk)→Nat→Option Nat
 | [],_=>none
 |(q,_)::r,t=>bif Nat.beq t q then some t else iSg r t
def zSg:List (Nat×Blk)→List Nat→Nat→Option Nat
 |(q,_)::r,b::bs,t=>bif Nat.beq t q then some b else zSg r bs t
 |_,_,_=>none
theorem bT {s:AState} {n:Nat} {kp:Kp} {tl:List (Nat×AV)} {hl:List (Nat×Blk)} (he:oS (iSg hl) n s.env tl) (hh:nE (iSg hl) n s.heap hl) (p:aBJ (iSg hl) hl=true∧s.kp=kp∧uR (iSg hl) kp.n hl=true∧Nat.ble kp.n n=true):Ent s (mN tl hl n kp):=kE he hh p.1 p.2.1 p.2.2.1 p.2.2.2
theorem pV (bs:List Nat) {s:AState} {n:Nat} {kp:Kp} {tl:List (Nat×AV)} {hl:List (Nat×Blk)} (he:oS (zSg hl bs) n s.env tl) (hh:nE (zSg hl bs) n s.heap hl) (p:aBJ (zSg hl bs) hl=true∧s.kp=kp∧uR (zSg hl bs) kp.n hl=true∧Nat.ble kp.n n=true):Ent s (mN tl hl n kp):=kE he hh p.1 p.2.1 p.2.2.1 p.2.2.2
section
variable {σ:Nat→Option Nat} {n:Nat}
theorem yM {e:Nat→Option AV} : ∀ {m:Nat} {tl:List (Nat×AV)},oS σ n e (tl.take m)→oS σ n e (tl.drop m)→oS σ n e tl
 |0,_,_,h=>h
 |m+1,[],_,_=>trivial
 |m+1,(t,y)::r,h1,h2=>⟨h1.1,yM h1.2 h2⟩
theorem mI (m:Nat) {e:Nat→Option AV} {tl:List (Nat×AV)} (h:yK e (tl.take m)=yL σ (tl.take m)∧((tl.take m).all λp=>okA σ n p.2)=true) (h2:oS σ n e (tl.drop m)):oS σ n e tl:=yM (bM h) h2
theorem lQ {e:Nat→Option AV} {t:Nat} {y:AV} {r:List (Nat×AV)} (h: ∃ x,e t=some x∧sD σ n x y) (h2:oS σ n e r):oS σ n e ((t,y)::r):=⟨h,h2⟩
variable {b b0 q:Nat} {h:Hp} {r:List (Nat×Blk)}
theorem dQ {l:List Int} (p:(σ b,h b0,Nat.blt b n)=(some b0,some ⟨1,List.map (ow eI) l⟩,true)) (hr:nE σ n h r):nE σ n h ((b,⟨1,List.map (ow eI) l⟩)::r):=by
 obtain ⟨p1,p⟩:=Prod.mk.inj p;obtain ⟨p2,p3⟩:=Prod.mk.inj p;exact hB (kQ.plainO _) p1 p2 p3 hr
theorem cK {y:Blk} (p:(σ b,h b0,Nat.blt b n,y.es.all λcs=>cs.all jA)=(some b0,some y,true,true)) (hr:nE σ n h r):nE σ n h ((b,y)::r):=by
 obtain ⟨p1,p⟩:=Prod.mk.inj p;obtain ⟨p2,p⟩:=Prod.mk.inj p;obtain ⟨p3,p4⟩:=Prod.mk.inj p;exact hB (aCJ p4) p1 p2 p3 hr
theorem gG {y:Blk} (hp:mV y.es) (p:(σ b,h b0,Nat.blt b n)=(some b0,some y,true)) (hr:nE σ n h r):nE σ n h ((b,y)::r):=by
 obtain ⟨p1,p⟩:=Prod.mk.inj p;obtain ⟨p2,p3⟩:=Prod.mk.inj p;exact hB hp p1 p2 p3 hr
end
theorem cG {α:Type} {c:Bool} {A:Option α} {r:α} {p:Prop} (h:cond c A none=some r) (f:c=true→A=some r→p):p:=f (cg h).1 (cg h).2
section
variable {h:Hp} {x:AV} {xs ds:List AV}
theorem fJ (q:cE x=true) (b:All2 (viewA h) xs ds):All2 (viewA h) (x::xs) (x::ds):=aP (aDM q) b
theorem vcT {b m:Nat} {l:List Int} (hb:h b=some ⟨1,List.map (ow eI) l⟩) (hn:l.length=m) (q:All2 (viewA h) xs ds):All2 (viewA h) (.own b 0 m::xs) (.list 1 (List.map eI l)::ds):=aP (uE kQ hb hn) q
end
theorem cT {d:Option Tmp} {ty:TypeId} {pos:String} {aft:Array Edge} {g:Option (Nat×Bool)} {s:AState} {f:FuncId} {xs:Array Operand} {ats:Array TypeId} {avs ds:List AV} {ns':List Nat} {α:Type} {e:α→List AV} {q b:Nat} {l:List α} {z:Bool} {c0:Nat} (ok:EOk q e) (hc:HasC Tryd.prog f ds (.tuple [.list q (List.map e l),.bl z])) (h:evs s.ev xs.toList=some avs∧s.ns=b::c0::ns'∧lE s.ns=true) (hv:All2 (viewA s.heap) avs ds):AEff Tryd.prog ⟨d,.call ⟨.value (.func f),xs,ats⟩,ty,pos,aft,g⟩ s.ev s.heap s.kp ⟨.tuple [.own b 0 l.length,.bl z],avs.flatMap (kF s.heap)++[].flatMap (iB s.heap),[(b,some ⟨q,List.map (ow e) l⟩)],[b]⟩:=
 AEff.conv (wC (x:= .tuple [.own b 0 (List.map e l).length,.bl z]) (nb:=[(b,⟨q,cU (List.map e l)⟩)]) hc h.1 (by rw [h.2.1];rfl) rfl h.2.2 (aAk (ok.good _) (aAk trivial aEE)) hv) (by simp only [aZ]) (aCS (nb':=[(b,⟨q,List.map (ow e) l⟩)]) (by simp only [pA]))
section
variable {h:Hp} {κ:Kp}
theorem vaQ {b1 b2 m1 m2:Nat} {v:Qv} (p:h b1=some ⟨1,List.map (ow eI) v.src⟩∧v.src.length=m1∧h b2=some ⟨1,List.map (ow eI) v.tgt⟩∧v.tgt.length=m2):viewA h (.agg [.int v.n,.own b1 0 m1,.own b2 0 m2]) (.agg (eQ v)):=aAh (oZ (rJ rfl) (oZ (aDP kQ p.1 p.2.1) (oZ (aDP kQ p.2.2.1 p.2.2.2) zO)))
variable {x:AV} {xs ds:List AV}
end
section
variable {dst:Option Tmp} {ty:TypeId} {pos:String} {aft:Array Edge} {g:Option (Nat×Bool)} {s:AState}
theorem wl {t e:TypeId} {n:Nat} {parts:Array (Nat×Operand)} {y ye:Ty} {ps:List (Nat×List AV)} {cs:List AV} {b:Nat}
  (h:(s.ns.head?,bV TT t,y.desc,bV TT e,ye.zero.length,Nat.ble (n*ye.size) 16777216,Nat.ble n 16777216,jU s.ev parts.toList,lY (λi=>some (i*ye.size,ye.size)) (List.replicate n ye.zero).flatten ps,(ps.all λp=>p.2.all (okCell s.heap)),cs.all (okCell s.heap),(ps.flatMap (λp=>bG p.2)++bG cs).contains b)=(some b,some y,.slice e,some ye,ye.size,true,true,some ps,some cs,true,true,false)):
  AEff Tryd.prog ⟨dst,.buildSlice t n parts,ty,pos,aft,g⟩ s.ev s.heap s.kp ⟨.own b 0 n,ps.flatMap (λp=>bG p.2)++bG cs,[(b,some ⟨ye.size,lZ ye.size n cs⟩)],[b]⟩:=by
 simp only [Prod.mk.injEq] at h;obtain ⟨h1,h2,h3,h4,h5,h6,h7,h8,h9,h10,h11,h12⟩:=h;exact aET aR h1 h2 h3 h4 h5 h6 h7 h8 h9 h10 h11 h12
theorem ws {t:TypeId} {y:Ty} {x z:Operand} {val:AV} {b i j kk:Nat} {ees:List (List AV)} {cs:List AV}
  (h:(s.ev x,s.heap b,s.ev z,bV TT t,Nat.beq (bH val).length y.size,(bH val).all (okCell s.heap),ees[i]?,Nat.ble (j+y.size) cs.length)=(some (.ptr b i j),some ⟨kk,ees⟩,some val,some y,true,true,some cs,true)):
  AEff Tryd.prog ⟨dst,.store t x z,ty,pos,aft,g⟩ s.ev s.heap s.kp ⟨.dead,b::bG (bH val),[(b,some ⟨kk,ees.set i (mD cs j (bH val))⟩)],[]⟩:=by
 simp only [Prod.mk.injEq] at h;obtain ⟨h1,h2,h3,h4,h5,h6,h7,h8⟩:=h;exact wB aR h1 h2 h3 h4 h5 h6 h7 h8
theorem wb {t:TypeId} {x:Operand} {v:AV} {b:Nat} (h:(s.ns.head?,s.ev x,(bH v).all (okCell s.heap),(bG (bH v)).contains b)=(some b,some v,true,false)):
  AEff Tryd.prog ⟨dst,.box t x,ty,pos,aft,g⟩ s.ev s.heap s.kp ⟨.ptr b 0 0,bG (bH v),[(b,some ⟨(bH v).length,[bH v]⟩)],[b]⟩:=by
 simp only [Prod.mk.injEq] at h;obtain ⟨h1,h2,h3,h4⟩:=h;exact aES h1 h2 h3 h4
theorem xl {α:Type} {k:Nat} {e:α→List AV} {x ix:Operand} {t et:Nat} {y ye:Ty} {l:List α} {kk:IntKind} {i:Int} {v:α} (hm:cR l i=some v)
  (h:(s.ev x,s.ev ix,bV TT t,y.desc,bV TT et,ye.size)=(some (.list k (l.map e)),some (.sc (.int kk i)),some y,.slice et,some ye,k)):
  AEff Tryd.prog ⟨dst,.indexAddr t x ix,ty,pos,aft,g⟩ s.ev s.heap s.kp ⟨.ref (e v),[],[],[]⟩:=by
 simp only [Prod.mk.injEq] at h;obtain ⟨h1,h2,h3,h4,h5,h6⟩:=h;exact aBP aR hm h1 h2 h3 h4 h5 h6
theorem xo {α:Type} {l:List α} {v:α} {x ix:Operand} {t et:Nat} {y ye:Ty} {b kz:Nat} {es:List (List AV)} {kk:IntKind} {i:Int} (hm:cR l i=some v)
  (h:(s.ev x,s.heap b,s.ev ix,bV TT t,y.desc,bV TT et,ye.size)=(some (.own b 0 l.length),some ⟨kz,es⟩,some (.sc (.int kk i)),some y,.slice et,some ye,kz)):
  AEff Tryd.prog ⟨dst,.indexAddr t x ix,ty,pos,aft,g⟩ s.ev s.heap s.kp ⟨.ptr b i.toNat 0,[b],[],[]⟩:=by
 simp only [Prod.mk.injEq] at h;obtain ⟨h1,h2,h3,h4,h5,h6,h7⟩:=h;exact yA aR (wD hm) (jN hm) h1 h2 h3 h4 h5 h6 h7
theorem wp {α:Type} {e:α→List AV} {l:List α} {u:α} {x:Operand} {t:Nat} {y:Ty} {b j k:Nat} {i:Int} {v:AV} (hm:cR l i=some u)
  (h:(s.ev x,s.heap b,bV TT t,(y.desc.isAgg||Nat.beq y.size 1),Nat.ble (j+y.size) (e u).length,kJ y.desc.isAgg ((((e u).drop j).take y.size).map lP))=(some (.ptr b i.toNat j),some ⟨k,l.map e⟩,some y,true,true,v)):
  AEff Tryd.prog ⟨dst,.load t x,ty,pos,aft,g⟩ s.ev s.heap s.kp ⟨v,[b],[],[]⟩:=by
 simp only [Prod.mk.injEq] at h;obtain ⟨h1,h2,h3,h4,h5,h6⟩:=h;exact iC aR h1 h2 h3 h4 (zP (dR hm)) h5 h6
end
theorem hM {f:FuncId} {fn:Func} {c:Code} {nt:Nat} {ds:List AV} {r:AV} (rvs:List ResultVar) (hf:Tryd.prog.funcs[f]? =some fn) (hnt:fn.ntmps=nt) (h':(fn.body,(fn.name== "runtime.NumGoroutine"),fn.results.toList,Nat.ble ds.length nt,ds.all oX)=(some c,false,rvs,true,true)) (h:AC Tryd.prog nt c (s0 ds nmA) (nG TT rvs r)):HasC Tryd.prog f ds r:=by
 simp only [Prod.mk.injEq] at h';exact wA aR hf h'.1 h'.2.1 hnt h'.2.2.1 h'.2.2.2.1 h'.2.2.2.2 h
@[elab_as_elim] theorem sp {α:Type} {a:α} {P:α→Prop} {o:α} (h:some a=some o) (p:P a):P o:=so h▸p
theorem qQ {α:Type} {t:Bool} {A B:Option α} {r:α} {G:Prop} (h:cond t A B=some r) (p:t=true→A=some r→G) (q:t=false→B=some r→G):G:=by
 rcases cb h with ⟨e,h⟩|⟨e,h⟩
 ·exact p e h
 ·exact q e h
theorem dI {P:Program} {nt:Nat} {Q:Exit→AState→Prop} {s:AState} {c:Operand} {x y:Code} {α:Type} {t:Bool} {A B:Option α} {r:α} (hc:s.ev c=some (.sc (.bool t))) (h:cond t A B=some r) (p:t=true→A=some r→AC P nt x s Q) (q:t=false→B=some r→AC P nt y s Q):AC P nt (.cond c x y) s Q:=qQ h (λe h=>xX hc e (p e h)) λe h=>eG hc e (q e h)
theorem qW {p q:Prop} (a:p) (b:q):p∧q:=⟨a,b⟩
end
noncomputable section
set_option maxRecDepth 10000
set_option maxHeartbeats 4000000
def iX (a0:Int) (a1:Int) (a2:Int):Option Bool:=
 bif decide (a1≤a0) then
 (some (decide (a0≤a2)))
 else
 (some (false))
theorem nO (a0:Int) (a1:Int) (a2:Int) (r:Bool) (h:iX a0 a1 a2=some r):HasC Tryd.prog 40 [.int a0,.int a1,.int a2] (.bl r):=by
 exact hM [.tmp 6] Tryd.func40 Tryd.ntmps40 k<|sR<|aT k2<|sR<|am k k<|am k k<|cm k4<|am k k<|qQ h (λq1 h=>aO 10 k q1<|am k k<|am k k<|cm k4<|pk k3<|aT k2<|aG<|nC h k2) λq1 h=>aO 10 k q1<|aK k4<|ak k k<|pk k3<|aT k2<|aG<|nC h k2
def iE (a0:Int) (a1:Int) (a2:Int):Option Bool:=
 bif decide (a1≤a0) then
 (some (decide (a0≤a2)))
 else
 (some (false))
theorem jZ (a0:Int) (a1:Int) (a2:Int) (r:Bool) (h:iE a0 a1 a2=some r):HasC Tryd.prog 32 [.int a0,.int a1,.int a2] (.bl r):=by
 exact hM [.tmp 6] Tryd.func32 Tryd.ntmps32 k<|sR<|aT k2<|sR<|am k k<|am k k<|cm k4<|am k k<|qQ h (λq1 h=>aO 10 k q1<|am k k<|am k k<|cm k4<|pk k3<|aT k2<|aG<|nC h k2) λq1 h=>aO 10 k q1<|aK k4<|ak k k<|pk k3<|aT k2<|aG<|nC h k2
def fM (a0:Qv) (x1:Int):Option (Int ⊕ (Unit ⊕ Bool)):=
 bif decide (x1<(a0.src.length:Int)) then
 (bif decide (x1<(a0.tgt.length:Int)) then
 ((cR a0.src x1).bind λv3=>
 (iE v3 0 (wr (a0.n - 1))).bind λv4=>
 bif !v4 then
 (some (.inr (.inr (false))))
 else
 ((cR a0.tgt x1).bind λv6=>
 (iE v6 0 (wr (a0.n - 1))).bind λv7=>
 bif !v7 then
 (some (.inr (.inr (false))))
 else
 (some (.inl (wr (x1+1))))))
 else
 (some (.inr (.inl ()))))
 else
 (some (.inr (.inl ())))
def bO (a0:Qv):Option Bool:=
 (Lp (fM a0) 0).bind λy9=>
 Sum.elim (λy10=>
 (iE a0.n 1 5).bind λv11=>
 bif v11 then
 (bif decide ((a0.src.length:Int)≤6) then
 (some (decide ((a0.tgt.length:Int)=(a0.src.length:Int))))
 else
 (some (false)))
 else
 (some (false))
 )
 (λy14=>
 some y14
 )
 y9
theorem cA (a0:Qv) (r:Bool) (h:bO a0=some r):HasC Tryd.prog 10 [.agg (eQ a0)] (.bl r):=by
 refine hM [.tmp 2] Tryd.func10 Tryd.ntmps10 k<|sR<|ae (wb k) k<|aT k2<|sQ<|sR<|aT k2<|aD<|oB h λy9 hy9 h=>cJ (body:=(fM a0)) hy9 (λ(x1:Int)=>mN [(1,.ptr 0 0 0),(3,.int x1)] [(0,⟨3,[eQ a0]⟩)] 1) (λr e t=>Sum.elim (λa=>(λr e t=>e= .exit 0∧Ent t (mN [(1,.ptr 0 0 0)] [(0,⟨3,[eQ a0]⟩)] 1)) a e t) (λb=>(λr e t=>e= .ret∧nG TT [.tmp 2] (.bl r) .ret t) b e t) r) (bT (bM k2) (cK k<|bA) k4) ?_ ?_
 ·intro x1 o h;refine sQ<|sR<|am k k<|fp k8<|lp k8<|ln k4<|cm k4<|am k k<|qQ h (λq1 h=>?_) λq1 h=>aO 9 k q1<|aK k4<|aK k4<|ak k k<|pk k3<|an<|tn<|eG k k<|aU<|aA<|aA<|sp h ⟨_,k,k,(bT (bM k2) (cK k<|bA) k4)⟩;exact aO 9 k q1<|am k k<|fp k8<|lp k8<|ln k4<|cm k4<|pk k3<|an<|tn<|dI k h (λ_ h=>aC<|tn<|sQ<|aD<|sQ<|aW lG<|fp k8<|lp k8<|am k k<|oB h λv3 hv3 h=>ae (xl hv3 k) k<|lr k7<|fp k8<|lp k8<|ae (iQ k k) k<|oB h λv4 hv4 h=>ae (aE (jZ v3 0 (wr (a0.n - 1)) v4 hv4) k (fJ k (fJ k (fJ k aH)))) k<|ae (eE k) k<|am k k<|qQ h (λq5 h=>aO 28 k q5<|aK k4<|aK k4<|aK k4<|aK k4<|aK k4<|pk k3<|an<|qW (by kernel_rfl)<|tn<|aM (t:=mN [(1,.ptr 0 0 0),(3,.int x1),(39,.bl true)] [(0,⟨3,[eQ a0]⟩)] 1) (bT (bM k2) (cK k<|bA) k4)<|xX k k<|sR<|aT k2<|aG<|bN<|aI<|aI<|sp h ⟨_,k,k,aX k k k (vA k)⟩) λq5 h=>aO 28 k q5<|fp k8<|lp k8<|am k k<|oB h λv6 hv6 h=>ae (xl hv6 k) k<|lr k7<|fp k8<|lp k8<|ae (iQ k k) k<|oB h λv7 hv7 h=>ae (aE (jZ v6 0 (wr (a0.n - 1)) v7 hv7) k (fJ k (fJ k (fJ k aH)))) k<|ae (eE k) k<|pk k3<|an<|qW (by kernel_rfl)<|tn<|aM (t:=mN [(1,.ptr 0 0 0),(3,.int x1),(39,.bl (!v7))] [(0,⟨3,[eQ a0]⟩)] 1) (bT (bM k2) (cK k<|bA) k4)<|dI k h (λ_ h=>sR<|aT k2<|aG<|bN<|aI<|aI<|sp h ⟨_,k,k,aX k k k (vA k)⟩) λ_ h=>aC<|aL<|tn<|rg<|am k k<|ae (bJ k k) k<|aT k2<|sp h ⟨_,k,(bT (bM k2) (cK k<|bA) k4)⟩) λ_ h=>aU<|aA<|aA<|sp h ⟨_,k,k,(bT (bM k2) (cK k<|bA) k4)⟩
 ·intro e t hX;rcases y9 with y10|y14
  ·obtain ⟨rfl,hent⟩:=hX;exact aN<|tn<|aM hent<|sR<|fp k8<|lp k8<|oB h λv11 hv11 h=>ae (aE (jZ a0.n 1 5 v11 hv11) k (fJ k (fJ k (fJ k aH)))) k<|am k k<|qQ h (λq12 h=>aO 43 k q12<|fp k8<|lp k8<|ln k4<|cm k4<|pk k3<|am k k<|qQ h (λq13 h=>aO 49 k q13<|fp k8<|lp k8<|ln k4<|fp k8<|lp k8<|ln k4<|cm k4<|pk k3<|aT k2<|aG<|nC h k2) λq13 h=>aO 49 k q13<|aK k4<|aK k4<|aK k4<|ak k k<|pk k3<|aT k2<|aG<|nC h k2) λq12 h=>aO 43 k q12<|aK k4<|aK k4<|pk k3<|am k k<|aK k4<|aK k4<|aK k4<|ak k k<|pk k3<|aT k2<|aG<|nC h k2
  ·obtain ⟨rfl,hent⟩:=hX;exact bN<|aI<|sp h hent
def cC (a0:(List Int)) (a1:(Int→Option Bool)) (x1:Int):Option (Int ⊕ (Unit ⊕ Int)):=
 bif decide (x1<(a0.length:Int)) then
 ((cR a0 x1).bind λv2=>
 (a1 v2).bind λv3=>
 bif v3 then
 (some (.inr (.inr (x1))))
 else
 (some (.inl (wr (x1+1)))))
 else
 (some (.inr (.inl ())))
def cN (a0:(List Int)) (a1:(Int→Option Bool)):Option Int:=
 (Lp (cC a0 a1) 0).bind λy5=>
 Sum.elim (λy6=>
 some ((-1))
 )
 (λy7=>
 some y7
 )
 y5
theorem jJ (a0:(List Int)) (a1:(Int→Option Bool)) {f1:FuncId} {c1:List AV} (hc1:c1.all cE=true) (hf1: ∀ b0 r,a1 b0=some r→HasC Tryd.prog f1 ([.int b0]++c1) (.bl r)) (r:Int) (h:cN a0 a1=some r):HasC Tryd.prog 60 [.list 1 (a0.map eI),.fn f1 c1] (.int r):=by
 refine wA aR (rvs:=[.tmp 4]) (ns:=nmA) Tryd.func60 k k Tryd.ntmps60 k k (rL k (rL hc1 aCj))<|sR<|aT k2<|sQ<|sR<|am k k<|ln k4<|am k k<|an<|tn<|aD<|oB h λy5 hy5 h=>cJ (body:=(cC a0 a1)) hy5 (λ(x1:Int)=>mN [(0,.list 1 (a0.map eI)),(1,.fn f1 c1),(7,.int (a0.length:Int)),(8,.int x1)] [] 0) (λr e t=>Sum.elim (λa=>(λr e t=>e= .exit 0∧Ent t (mN [] [] 0)) a e t) (λb=>(λr e t=>e= .ret∧nG TT [.tmp 4] (.int r) .ret t) b e t) r) (bT (mI 1 k2 (lQ ⟨_,k,⟨k,vD _ hc1⟩⟩ (bM k2))) bA k4) ?_ ?_
 ·intro x1 o h;exact sR<|cm k4<|an<|tn<|sQ<|dI k h (λ_ h=>aC<|tn<|sQ<|aD<|sR<|am k k<|aT k2<|sR<|am k k<|am k k<|am k k<|oB h λv2 hv2 h=>ae (xl hv2 k) k<|lr k7<|oB h λv3 hv3 h=>ae (aDS hc1 (hf1 v2 v3 hv3) k k (fJ k aH)) k<|an<|tn<|dI k h (λ_ h=>sR<|am k k<|aT k2<|aG<|bN<|aI<|aI<|sp h ⟨_,k,k,aX k k k (sN k)⟩) λ_ h=>aC<|aL<|tn<|rg<|ae (bJ k k) k<|am k k<|an<|tn<|sp h ⟨_,k,(bT (mI 1 k2 (lQ ⟨_,k,⟨k,vD _ hc1⟩⟩ (bM k2))) bA k4)⟩) λ_ h=>aU<|aA<|aA<|sp h ⟨_,k,k,(bT bA bA k4)⟩
 ·intro e t hX;rcases y5 with y6|y7
  ·obtain ⟨rfl,hent⟩:=hX;exact aN<|tn<|aM hent<|sR<|aT k2<|aG<|rtI h k2
  ·obtain ⟨rfl,hent⟩:=hX;exact bN<|aI<|sp h hent
def dB (a0:(List Int)) (a1:(Int→Option Bool)):Option Bool:=
 (cN a0 a1).bind λv1=>
 some (decide (0≤v1))
theorem iT (a0:(List Int)) (a1:(Int→Option Bool)) {f1:FuncId} {c1:List AV} (hc1:c1.all cE=true) (hf1: ∀ b0 r,a1 b0=some r→HasC Tryd.prog f1 ([.int b0]++c1) (.bl r)) (r:Bool) (h:dB a0 a1=some r):HasC Tryd.prog 52 [.list 1 (a0.map eI),.fn f1 c1] (.bl r):=by
 exact wA aR (rvs:=[.tmp 4]) (ns:=nmA) Tryd.func52 k k Tryd.ntmps52 k k (rL k (rL hc1 aCj))<|sR<|aT k2<|sR<|am k k<|am k k<|oB h λv1 hv1 h=>ae (aE (jJ a0 a1 hc1 hf1 v1 hv1) k (fJ k (aP (aEC hc1) aH))) k<|cm k4<|aT k2<|aG<|nC h k2
def dX (a0:Int) (a1:Int) (a2:Int):Option Bool:=
 (iX a0 a1 a2).bind λv1=>
 some (!v1)
theorem oF (a0:Int) (a1:Int) (a2:Int) (r:Bool) (h:dX a0 a1 a2=some r):HasC Tryd.prog 53 [.int a0,.ref (eI a1),.ref (eI a2)] (.bl r):=by
 exact hM [.tmp 4] Tryd.func53 Tryd.ntmps53 k<|sR<|aT k2<|sR<|am k k<|lr k7<|lr k7<|oB h λv1 hv1 h=>ae (aE (nO a0 a1 a2 v1 hv1) k (fJ k (fJ k (fJ k aH)))) k<|ae (eE k) k<|aT k2<|aG<|nC h k2
def fF (a0:(List Int)) (a1:Int) (a2:Int):Option Bool:=
 (dB a0 (λb0=>dX b0 a1 a2)).bind λv1=>
 some (!v1)
theorem kR (a0:(List Int)) (a1:Int) (a2:Int) (r:Bool) (h:fF a0 a1 a2=some r):HasC Tryd.prog 41 [.list 1 (a0.map eI),.int a1,.int a2] (.bl r):=by
 exact hM [.tmp 6] Tryd.func41 Tryd.ntmps41 k<|sR<|ae (wb k) k<|ae (wb k) k<|aT k2<|sR<|am k k<|ae (vR (vs:=[.ptr 0 0 0,.ptr 1 0 0]) k (by simp)) k<|oB h λv1 hv1 h=>ae (aE (iT a0 (λb0=>dX b0 a1 a2) k (λb0 r h=>oF b0 a1 a2 r h) v1 hv1) k (fJ k (aP (aEX (aAj (aCU k k (oZ (rJ k) zO)) (aAj (aCU k k (oZ (rJ k) zO)) aDQ))) aH))) k<|ae (eE k) k<|aT k2<|aG<|nC h k2
def cB (a0:Qv):Option Bool:=
 (iX a0.n 1 5).bind λv1=>
 bif v1 then
 (bif decide ((a0.src.length:Int)=(a0.tgt.length:Int)) then
 (bif decide ((a0.src.length:Int)≤6) then
 ((fF a0.src 0 (wr (a0.n - 1))).bind λv5=>
 bif v5 then
 ((fF a0.tgt 0 (wr (a0.n - 1))).bind λv7=>
 some (v7))
 else
 (some (false)))
 else
 (some (false)))
 else
 (some (false)))
 else
 (some (false))
theorem dP (a0:Qv) (r:Bool) (h:cB a0=some r):HasC Tryd.prog 21 [.agg (eQ a0)] (.bl r):=by
 refine hM [.tmp 2] Tryd.func21 Tryd.ntmps21 k<|sR<|ae (wb k) k<|aT k2<|sR<|fp k8<|lp k8<|oB h λv1 hv1 h=>ae (aE (nO a0.n 1 5 v1 hv1) k (fJ k (fJ k (fJ k aH)))) k<|am k k<|qQ h (λq2 h=>aO 6 k q2<|fp k8<|lp k8<|ln k4<|fp k8<|lp k8<|ln k4<|cm k4<|pk k3<|am k k<|qQ h (λq3 h=>aO 15 k q3<|fp k8<|lp k8<|ln k4<|cm k4<|pk k3<|am k k<|qQ h (λq4 h=>aO 21 k q4<|fp k8<|lp k8<|fp k8<|lp k8<|ae (iQ k k) k<|oB h λv5 hv5 h=>ae (aE (kR a0.src 0 (wr (a0.n - 1)) v5 hv5) k (fJ k (fJ k (fJ k aH)))) k<|pk k3<|am k k<|qQ h (λq6 h=>aO 29 k q6<|fp k8<|lp k8<|fp k8<|lp k8<|ae (iQ k k) k<|oB h λv7 hv7 h=>ae (aE (kR a0.tgt 0 (wr (a0.n - 1)) v7 hv7) k (fJ k (fJ k (fJ k aH)))) k<|pk k3<|aT k2<|aG<|nC h k2) λq6 h=>aO 29 k q6<|aK k4<|aK k4<|aK k4<|pk k3<|aT k2<|aG<|nC h k2) λq4 h=>aO 21 k q4<|aK k4<|aK k4<|aK k4<|pk k3<|am k k<|aK k4<|aK k4<|aK k4<|pk k3<|aT k2<|aG<|nC h k2) λq3 h=>aO 15 k q3<|aK k4<|aK k4<|pk k3<|am k k<|aK k4<|aK k4<|aK k4<|pk k3<|am k k<|aK k4<|aK k4<|aK k4<|pk k3<|aT k2<|aG<|nC h k2) λq2 h=>?_;refine aO 6 k q2<|aK k4<|aK k4<|aK k4<|ak k k<|pk k3<|am k k<|aK k4<|aK k4<|pk k3<|am k k<|aK k4<|aK k4<|aK k4<|pk k3<|am k k<|aK k4<|aK k4<|aK k4 ?_;exact pk k3<|aT k2<|aG<|nC h k2
def bB (a0:(List (List Int))) (x1:(Int×Int)):Option ((Int×Int) ⊕ Int):=
 bif decide (x1.2<(a0.length:Int)) then
 ((cR a0 x1.2).bind λv2=>
 bif decide (wr (x1.1+(v2.length:Int))<0) then
 (none)
 else
 (some (.inl (wr (x1.1+(v2.length:Int)),wr (x1.2+1)))))
 else
 (some (.inr x1.1))
def bC (a0:(List (List Int))) (x2:((List Int)×Int)):Option (((List Int)×Int) ⊕ (List Int)):=
 bif decide (x2.2<(a0.length:Int)) then
 ((cR a0 x2.2).bind λv7=>
 bif decide (x2.1.length+v7.length≤4294967296) then
 (some (.inl ((x2.1++v7),wr (x2.2+1))))
 else none)
 else
 (some (.inr x2.1))
def dF (a0:(List (List Int))):Option (List Int):=
 (Lp (bB a0) (0,0)).bind λy4=>
 (aAB y4).bind λv5=>
 (Lp (bC a0) (v5,0)).bind λy9=>
 some (y9)
theorem kG (a0:(List (List Int))) (r:(List Int)) (h:dF a0=some r):HasC Tryd.prog 55 [.list 1 (a0.map (eP 1 eI))] (.list 1 (r.map eI)):=by
 refine hM [.tmp 2] Tryd.func55 Tryd.ntmps55 k<|sR<|aT k2<|sR<|aT k2<|sQ<|sR<|am k k<|ln k4<|am k k<|an<|tn<|aD<|oB h λy4 hy4 h=>cJ (body:=(bB a0)) hy4 (λ(x1:(Int×Int))=>mN [(0,.list 1 (a0.map (eP 1 eI))),(3,.int x1.1),(9,.list 1 (a0.map (eP 1 eI))),(10,.int (a0.length:Int)),(11,.int x1.2)] [] 0) (λr e t=>e= .exit 0∧Ent t (mN [(0,.list 1 (a0.map (eP 1 eI))),(3,.int r)] [] 0)) (bT (bM k2) bA k4) ?_ ?_
 ·intro x1 o h;refine sR<|cm k4<|an<|tn<|sQ<|dI k h (λ_ h=>?_) λ_ h=>aU<|aA<|aA<|sp h ⟨_,k,k,(bT (bM k2) bA k4)⟩;refine aC<|tn<|sQ<|aD<|sR<|oB h λv2 hv2 h=>ae (xl hv2 k) k<|lr k7<|aT k2<|sR<|am k k<|am k k<|ln k4<|ae (bJ k k) k<|aT k2<|sR<|am k k<|cm k4<|an<|tn<|dI k h (λ_ h=>?_) λ_ h=>aC<|aL<|tn<|rg<|ae (bJ k k) k<|am k k<|an<|tn<|sp h ⟨_,k,(bT (bM k2) bA k4)⟩;refine rg ?_;cases h
 ·rintro e t ⟨rfl,hent⟩;refine aN<|tn<|aM hent<|sR<|am k k<|oB h λv5 hv5 h=>ae (cL kQ (aEF y4 v5 hv5) k3 (aP aDV (fJ k aH))) k<|aT k2<|sQ<|sR<|am k k<|ln k4<|am k k<|an<|tn<|aD<|oB h λy9 hy9 h=>cJ (body:=(bC a0)) hy9 (λ(x2:((List Int)×Int))=>mN [(6,.own 0 0 x2.1.length),(25,.list 1 (a0.map (eP 1 eI))),(26,.int (a0.length:Int)),(27,.int x2.2)] [(0,⟨1,x2.1.map (ow eI)⟩)] 1) (λr e t=>e= .exit 2∧Ent t (mN [(6,.own 0 0 r.length)] [(0,⟨1,r.map (ow eI)⟩)] 1)) (bT (bM k2) (dQ k<|bA) k4) ?_ ?_
  ·intro x2 o h;exact sR<|cm k4<|an<|tn<|sQ<|dI k h (λ_ h=>aC<|tn<|sQ<|aD<|sR<|oB h λv7 hv7 h=>ae (xl hv7 k) k<|lr k7<|aT k2<|rg<|am k k<|am k k<|cG h λq8 h=>ae (iR aR (l:=x2.1) (m:=v7) jO q8 k k k k k k k k k k k k) k<|aa k k<|an<|aL<|tn<|rg<|ae (bJ k k) k<|am k k<|an<|tn<|sp h ⟨_,k,(pV [1] (bM k2) (dQ k<|bA) k4)⟩) λ_ h=>aU<|aA<|aA<|sp h ⟨_,k,k,(bT (bM k2) (dQ k<|bA) k4)⟩
  ·rintro e t ⟨rfl,hent⟩;exact aN<|tn<|aM hent<|sR<|am k k<|aT k2<|aG<|sp h (aX k k k (hJ (oD kQ k k)))
def dA (a0:(List (List Int))) (x1:(Int×Int×Int)) (x2:((List (List Int))×Int)):Option (((List (List Int))×Int) ⊕ (List (List Int))):=
 bif decide (x2.2<(((a0.drop (1:Int).toNat).take ((a0.length:Int).toNat - (1:Int).toNat)).length:Int)) then
 ((cR ((a0.drop (1:Int).toNat).take ((a0.length:Int).toNat - (1:Int).toNat)) x2.2).bind λv7=>
 bif (decide (0≤0)&&(decide (0≤x1.2.2)&&decide (x1.2.2≤(v7.length:Int)))) then
 (bif (decide (0≤wr (x1.2.2+1))&&(decide (wr (x1.2.2+1)≤(v7.length:Int))&&decide ((v7.length:Int)≤(v7.length:Int)))) then
 ((dF [((v7.drop (0:Int).toNat).take (x1.2.2.toNat - (0:Int).toNat)),((v7.drop (wr (x1.2.2+1)).toNat).take ((v7.length:Int).toNat - (wr (x1.2.2+1)).toNat))]).bind λv10=>
 bif decide (x2.1.length+1≤4294967296) then
 (some (.inl ((x2.1++[v10]),wr (x2.2+1))))
 else none)
 else none)
 else none)
 else
 (some (.inr x2.1))
def eA (self:((List (List Int))→Option Int)) (a0:(List (List Int))) (v2:(List Int)) (x1:(Int×Int×Int)):Option ((Int×Int×Int) ⊕ Int):=
 bif decide (x1.2.2<(v2.length:Int)) then
 ((cR v2 x1.2.2).bind λv4=>
 bif (decide (0≤1)&&(decide (1≤(a0.length:Int))&&decide ((a0.length:Int)≤(a0.length:Int)))) then
 ((Lp (dA a0 x1) ([],0)).bind λy12=>
 (self y12).bind λv13=>
 some (.inl (wr (x1.1+(wr ((wr (x1.2.1*v4))*v13))),wr (-x1.2.1),wr (x1.2.2+1))))
 else none)
 else
 (some (.inr x1.1))
def eH (self:(List (List Int))→Option Int) (a0:(List (List Int))):Option Int:=
 bif decide ((a0.length:Int)=0) then
 (some (1))
 else
 ((cR a0 0).bind λv2=>
 (Lp (eA self a0 v2) (0,1,0)).bind λy14=>
 some (y14))
def dC:Nat→(List (List Int))→Option Int
 |0,_=>none
 |n+1,a0=>eH (dC n) a0
theorem mJ (self:(List (List Int))→Option Int) (a0:(List (List Int))) (ih: ∀ (a0:(List (List Int))) (r:Int),self a0=some r→HasC Tryd.prog 46 [.list 1 (a0.map (eP 1 eI))] (.int r)) (r:Int) (h:eH self a0=some r):HasC Tryd.prog 46 [.list 1 (a0.map (eP 1 eI))] (.int r):=by
 refine hM [.tmp 2] Tryd.func46 Tryd.ntmps46 k<|sR<|aT k2<|sQ<|sR<|am k k<|ln k4<|cm k4<|an<|tn<|dI k h (λ_ h=>sR<|aT k2<|aG<|aI<|rtI h k2) λ_ h=>?_;refine aC<|tn<|sR<|aa k k<|aT k2<|sQ<|sR<|am k k<|oB h λv2 hv2 h=>ae (xl hv2 k) k<|lr k7<|ln k4<|am k k<|an<|tn<|aD<|oB h λy14 hy14 h=>cJ (body:=(eA self a0 v2)) hy14 (λ(x1:(Int×Int×Int))=>mN [(0,.list 1 (a0.map (eP 1 eI))),(3,.int x1.1),(4,.int x1.2.1),(15,.list 1 (v2.map eI)),(16,.int (v2.length:Int)),(17,.int x1.2.2)] [] 0) (λr e t=>e= .exit 0∧Ent t (mN [(3,.int r)] [] 0)) (bT (bM k2) bA k4) ?_ ?_
 ·intro x1 o h;refine sR<|cm k4<|an<|tn<|sQ<|dI k h (λ_ h=>?_) λ_ h=>aU<|aA<|aA<|sp h ⟨_,k,k,(bT (bM k2) bA k4)⟩;refine aC<|tn<|sQ<|aD<|sR<|am k k<|oB h λv4 hv4 h=>ae (xl hv4 k) k<|lr k7<|aa k k<|aT k2<|sR<|aT k2<|sQ<|sR<|am k k<|cG h λq5 h=>ae (iI aR (l0:=a0) (l:=1) (h:=(a0.length:Int)) q5 k k k k k k k) k<|ae (AEff.val (sM aR k k k) (v':= .int (((a0.drop (1:Int).toNat).take ((a0.length:Int).toNat - (1:Int).toNat)).length:Int)) (by first|rw [aZ]|rw [encI_len])) k<|am k k<|an<|tn<|aD<|oB h λy12 hy12 h=>cJ (body:=(dA a0 x1)) hy12 (λ(x2:((List (List Int))×Int))=>mN [(0,.list 1 (a0.map (eP 1 eI))),(3,.int x1.1),(4,.int x1.2.1),(5,.int x1.2.2),(6,.int v4),(7,.own 0 0 x2.1.length),(15,.list 1 (v2.map eI)),(16,.int (v2.length:Int)),(17,.int x1.2.2),(23,.list 1 (List.map (eP 1 eI) ((a0.drop (1:Int).toNat).take ((a0.length:Int).toNat - (1:Int).toNat)))),(24,.int (((a0.drop (1:Int).toNat).take ((a0.length:Int).toNat - (1:Int).toNat)).length:Int)),(25,.int x2.2)] [(0,⟨1,x2.1.map (ow (eP 1 eI))⟩)] 1) (λr e t=>e= .exit 2∧Ent t (mN [(0,.list 1 (a0.map (eP 1 eI))),(3,.int x1.1),(4,.int x1.2.1),(6,.int v4),(7,.own 0 0 r.length),(15,.list 1 (v2.map eI)),(16,.int (v2.length:Int)),(17,.int x1.2.2)] [(0,⟨1,r.map (ow (eP 1 eI))⟩)] 1)) (kE (σ:=sg []) (mI 5 k2 (lQ ⟨_,k,⟨k,k,k,k⟩⟩ (bM k2))) (hX k k<|bA) k) ?_ ?_
  ·intro x2 o h;refine sR<|cm k4<|an<|tn<|sQ<|dI k h (λ_ h=>?_) λ_ h=>aU<|aA<|aA<|sp h ⟨_,k,k,(bT (bM k2) (gG (bS.plainO _) k<|bA) k4)⟩;refine aC<|tn<|sQ<|aD<|sR<|oB h λv7 hv7 h=>ae (xl hv7 k) k<|lr k7<|aT k2<|aW lG<|am k k<|am k k<|am k k<|cG h λq8 h=>ae (iI aR (l0:=v7) (l:=0) (h:=x1.2.2) q8 k k k k k k k) k<|am k k<|am k k<|ae (bJ k k) k<|cG h λq9 h=>ae (iI aR (l0:=v7) (l:=wr (x1.2.2+1)) (h:=(v7.length:Int)) q9 k k k k k k k) k<|ae (wl k) k<|oB h λv10 hv10 h=>ae (cL kQ (kG [((v7.drop (0:Int).toNat).take (x1.2.2.toNat - (0:Int).toNat)),((v7.drop (wr (x1.2.2+1)).toNat).take ((v7.length:Int).toNat - (wr (x1.2.2+1)).toNat))] v10 hv10) k3 (aP (aCT k k ⟨_,_,k,⟨_,_,k,⟨k,k⟩,k⟩,⟨_,_,k,⟨_,_,k,⟨k,k⟩,k⟩,k⟩⟩) aH)) k<|ae (wl k) k<|cG h λq11 h=>ae (sW aR (l:=x2.1) (c:=[.own 2 0 v10.length]) q11 k k k k k k k k k k k k k k) k<|aa k k<|an<|qW (by kernel_rfl)<|aL<|tn ?_;exact aM (t:=mN [(0,.list 1 (a0.map (eP 1 eI))),(3,.int x1.1),(4,.int x1.2.1),(5,.int x1.2.2),(6,.int v4),(7,.own 4 0 ((x2.1++[v10]).length)),(15,.list 1 (v2.map eI)),(16,.int (v2.length:Int)),(17,.int x1.2.2),(23,.list 1 (List.map (eP 1 eI) ((a0.drop (1:Int).toNat).take ((a0.length:Int).toNat - (1:Int).toNat)))),(24,.int (((a0.drop (1:Int).toNat).take ((a0.length:Int).toNat - (1:Int).toNat)).length:Int)),(25,.int x2.2)] [(4,⟨1,List.map (ow (eP 1 eI)) (x2.1++[v10])⟩)] 5) (Ent.trans (mH (b:=4) (b':=2) (j:=0) (es':=v10.map eI) k k k k (aZ _ _) (kQ.frzs _)) (bT (mI 5 k2 (lQ ⟨_,k,⟨k,k,(by simp only [aZ,lA,lT,lR,lC,lN]),k⟩⟩ (bM k2))) (hX ⟨_,k,k,.inl ⟨sX v10 k,bS.plainO _⟩⟩ k<|bA) k4))<|rg<|ae (bJ k k) k<|am k k<|an<|tn<|sp h ⟨_,k,(pV [4] (bM k2) (gG (bS.plainO _) k<|bA) k4)⟩
  ·rintro e t ⟨rfl,hent⟩;exact aN<|tn<|aM hent<|sR<|am k k<|am k k<|am k k<|ae (aAi k k) k<|am k k<|oB h λv13 hv13 h=>ae (aE (ih y12 v13 hv13) k (aP (uE bS k k) aH)) k<|ae (aAi k k) k<|ae (bJ k k) k<|aT k2<|rg<|am k k<|ae (aCR k) k<|aa k k<|an<|aL<|tn<|rg<|ae (bJ k k) k<|am k k<|an<|tn<|sp h ⟨_,k,(bT (bM k2) bA k4)⟩
 ·rintro e t ⟨rfl,hent⟩;exact aN<|tn<|aM hent<|sR<|am k k<|aT k2<|aG<|rtI h k2
theorem jP: ∀ (n:Nat) (a0:(List (List Int))) (r:Int),dC n a0=some r→HasC Tryd.prog 46 [.list 1 (a0.map (eP 1 eI))] (.int r)
 |0,a0,r,h=>by cases h
 |n+1,a0,r,h=>mJ (dC n) a0 (jP n) r h
def fG (a0:(List (List Int))) (x1:(Int×Int×Int)) (x2:((List (List Int))×Int)):Option (((List (List Int))×Int) ⊕ (List (List Int))):=
 bif decide (x2.2<(a0.length:Int)) then
 ((cR a0 x2.2).bind λv4=>
 bif (decide (0≤0)&&(decide (0≤x1.2.2)&&decide (x1.2.2≤(v4.length:Int)))) then
 (bif decide (([]:(List Int)).length +((v4.drop (0:Int).toNat).take (x1.2.2.toNat - (0:Int).toNat)).length ≤4294967296) then
 ((cR a0 x2.2).bind λv7=>
 bif (decide (0≤wr (x1.2.2+1))&&(decide (wr (x1.2.2+1)≤(v7.length:Int))&&decide ((v7.length:Int)≤(v7.length:Int)))) then
 (bif decide ((([]:(List Int))++((v4.drop (0:Int).toNat).take (x1.2.2.toNat - (0:Int).toNat))).length +((v7.drop (wr (x1.2.2+1)).toNat).take ((v7.length:Int).toNat - (wr (x1.2.2+1)).toNat)).length ≤4294967296) then
 (bif decide (x2.1.length+1≤4294967296) then
 (some (.inl ((x2.1++[((([]:(List Int))++((v4.drop (0:Int).toNat).take (x1.2.2.toNat - (0:Int).toNat)))++((v7.drop (wr (x1.2.2+1)).toNat).take ((v7.length:Int).toNat - (wr (x1.2.2+1)).toNat)))]),wr (x2.2+1))))
 else none)
 else none)
 else none)
 else none)
 else none)
 else
 (some (.inr x2.1))
def gH (self:((List (List Int))→Option Int)) (a0:(List (List Int))) (x1:(Int×Int×Int)):Option ((Int×Int×Int) ⊕ Int):=
 bif decide (x1.2.2<(a0.length:Int)) then
 ((Lp (fG a0 x1) (([]:(List (List Int))),1)).bind λy11=>
 (cR a0 0).bind λv12=>
 (cR v12 x1.2.2).bind λv13=>
 (self y11).bind λv14=>
 some (.inl (wr (x1.1+(wr ((wr (x1.2.1*v13))*v14))),wr (-x1.2.1),wr (x1.2.2+1))))
 else
 (some (.inr x1.1))
def hL (self:(List (List Int))→Option Int) (a0:(List (List Int))):Option Int:=
 bif decide ((a0.length:Int)=0) then
 (some (1))
 else
 ((Lp (gH self a0) (0,1,0)).bind λy15=>
 some (y15))
def fT:Nat→(List (List Int))→Option Int
 |0,_=>none
 |n+1,a0=>hL (fT n) a0
theorem qX (self:(List (List Int))→Option Int) (a0:(List (List Int))) (ih: ∀ (a0:(List (List Int))) (r:Int),self a0=some r→HasC Tryd.prog 37 [.list 1 (a0.map (eP 1 eI))] (.int r)) (r:Int) (h:hL self a0=some r):HasC Tryd.prog 37 [.list 1 (a0.map (eP 1 eI))] (.int r):=by
 refine hM [.tmp 2] Tryd.func37 Tryd.ntmps37 k<|sR<|aT k2<|sQ<|sR<|am k k<|ln k4<|cm k4<|an<|tn<|dI k h (λ_ h=>sR<|aT k2<|aG<|aI<|rtI h k2) λ_ h=>?_;refine aC<|tn<|sR<|aT k2<|sR<|aT k2<|sQ<|sR<|aT k2<|aD<|oB h λy15 hy15 h=>cJ (body:=(gH self a0)) hy15 (λ(x1:(Int×Int×Int))=>mN [(0,.list 1 (a0.map (eP 1 eI))),(3,.int x1.1),(4,.int x1.2.1),(5,.int x1.2.2)] [] 0) (λr e t=>e= .exit 0∧Ent t (mN [(3,.int r)] [] 0)) (bT (bM k2) bA k4) ?_ ?_
 ·intro x1 o h;refine sQ<|sR<|am k k<|am k k<|ln k4<|cm k4<|an<|tn<|dI k h (λ_ h=>?_) λ_ h=>aU<|aA<|aA<|sp h ⟨_,k,k,(bT (bM k2) bA k4)⟩;refine aC<|tn<|sQ<|aD<|sR<|ae (wl k) k<|aT k2<|aM (t:=mN [(0,.list 1 (a0.map (eP 1 eI))),(3,.int x1.1),(4,.int x1.2.1),(5,.int x1.2.2),(6,.own 0 0 (([]:(List (List Int))).length))] [(0,⟨1,List.map (ow (eP 1 eI)) ([]:(List (List Int)))⟩)] 1) (bT (mI 4 k2 (lQ ⟨_,k,⟨k,k,(by simp only [aZ,lA,lT,lR,lC,lN]),k⟩⟩ bA)) (gG (bS.plainO _) k<|bA) k4)<|sQ<|sR<|aT k2<|aD<|oB h λy11 hy11 h=>cJ (body:=(fG a0 x1)) hy11 (λ(x2:((List (List Int))×Int))=>mN [(0,.list 1 (a0.map (eP 1 eI))),(3,.int x1.1),(4,.int x1.2.1),(5,.int x1.2.2),(6,.own 0 0 x2.1.length),(7,.int x2.2)] [(0,⟨1,x2.1.map (ow (eP 1 eI))⟩)] 1) (λr e t=>e= .exit 2∧Ent t (mN [(0,.list 1 (a0.map (eP 1 eI))),(3,.int x1.1),(4,.int x1.2.1),(5,.int x1.2.2),(6,.own 0 0 r.length)] [(0,⟨1,r.map (ow (eP 1 eI))⟩)] 1)) (bT (bM k2) (gG (bS.plainO _) k<|bA) k4) ?_ ?_
  ·intro x2 o h;refine sQ<|sR<|am k k<|am k k<|ln k4<|cm k4<|an<|tn<|dI k h (λ_ h=>?_) λ_ h=>aU<|aA<|aA<|sp h ⟨_,k,k,(bT (bM k2) (gG (bS.plainO _) k<|bA) k4)⟩;refine aC<|tn<|sQ<|aD<|aW lG<|am k k<|ae (wl k) k<|am k k<|am k k<|oB h λv4 hv4 h=>ae (xl hv4 k) k<|lr k7<|am k k<|cG h λq5 h=>ae (iI aR (l0:=v4) (l:=0) (h:=x1.2.2) q5 k k k k k k k) k<|cG h λq6 h=>ae (iR aR (l:=([]:(List Int))) (m:=((v4.drop (0:Int).toNat).take (x1.2.2.toNat - (0:Int).toNat))) jO q6 k k k k k k k k k k k k) k<|am k k<|am k k<|oB h λv7 hv7 h=>ae (xl hv7 k) k<|lr k7<|am k k<|ae (bJ k k) k<|cG h λq8 h=>ae (iI aR (l0:=v7) (l:=wr (x1.2.2+1)) (h:=(v7.length:Int)) q8 k k k k k k k) k<|cG h λq9 h=>ae (iR aR (l:=(([]:(List Int))++((v4.drop (0:Int).toNat).take (x1.2.2.toNat - (0:Int).toNat)))) (m:=((v7.drop (wr (x1.2.2+1)).toNat).take ((v7.length:Int).toNat - (wr (x1.2.2+1)).toNat))) jO q9 k k k k k k k k k k k k) k<|ae (wl k) k<|cG h λq10 h=>ae (sW aR (l:=x2.1) (c:=[.own 3 0 (((([]:(List Int))++((v4.drop (0:Int).toNat).take (x1.2.2.toNat - (0:Int).toNat)))++((v7.drop (wr (x1.2.2+1)).toNat).take ((v7.length:Int).toNat - (wr (x1.2.2+1)).toNat))).length)]) q10 k k k k k k k k k k k k k k) k<|aa k k<|an<|qW (by kernel_rfl)<|aL<|tn ?_;exact aM (t:=mN [(0,.list 1 (a0.map (eP 1 eI))),(3,.int x1.1),(4,.int x1.2.1),(5,.int x1.2.2),(6,.own 5 0 ((x2.1++[((([]:(List Int))++((v4.drop (0:Int).toNat).take (x1.2.2.toNat - (0:Int).toNat)))++((v7.drop (wr (x1.2.2+1)).toNat).take ((v7.length:Int).toNat - (wr (x1.2.2+1)).toNat)))]).length)),(7,.int x2.2)] [(5,⟨1,List.map (ow (eP 1 eI)) (x2.1++[((([]:(List Int))++((v4.drop (0:Int).toNat).take (x1.2.2.toNat - (0:Int).toNat)))++((v7.drop (wr (x1.2.2+1)).toNat).take ((v7.length:Int).toNat - (wr (x1.2.2+1)).toNat)))])⟩)] 6) (Ent.trans (mH (b:=5) (b':=3) (j:=0) (es':=List.map eI ((([]:(List Int))++((v4.drop (0:Int).toNat).take (x1.2.2.toNat - (0:Int).toNat)))++((v7.drop (wr (x1.2.2+1)).toNat).take ((v7.length:Int).toNat - (wr (x1.2.2+1)).toNat)))) k k k k (aZ _ _) (kQ.frzs _)) (bT (mI 4 k2 (lQ ⟨_,k,⟨k,k,(by simp only [aZ,lA,lT,lR,lC,lN]),k⟩⟩ (bM k2))) (hX ⟨_,k,k,.inl ⟨sX ((([]:(List Int))++((v4.drop (0:Int).toNat).take (x1.2.2.toNat - (0:Int).toNat)))++((v7.drop (wr (x1.2.2+1)).toNat).take ((v7.length:Int).toNat - (wr (x1.2.2+1)).toNat))) k,bS.plainO _⟩⟩ k<|bA) k4))<|rg<|am k k<|ae (bJ k k) k<|aT k2<|sp h ⟨_,k,(pV [5] (bM k2) (gG (bS.plainO _) k<|bA) k4)⟩
  ·rintro e t ⟨rfl,hent⟩;refine aN<|tn<|aM hent<|sQ<|aW lG<|am k k<|am k k<|am k k<|oB h λv12 hv12 h=>ae (xl hv12 k) k<|lr k7<|am k k<|oB h λv13 hv13 h=>ae (xl hv13 k) k<|lr k7<|ae (aAi k k) k<|am k k<|oB h λv14 hv14 h=>ae (aE (ih y11 v14 hv14) k (aP (uE bS k k) aH)) k<|ae (aAi k k) k<|ae (bJ k k) k<|aa k k<|an<|qW (by kernel_rfl)<|tn<|rg<|am k k<|ae (aCR k) k<|aa k k<|an<|aL<|tn<|rg ?_;exact am k k<|ae (bJ k k) k<|aT k2<|sp h ⟨_,k,(bT (bM k2) bA k4)⟩
 ·rintro e t ⟨rfl,hent⟩;exact aN<|tn<|aM hent<|sR<|am k k<|aT k2<|aG<|rtI h k2
theorem nP: ∀ (n:Nat) (a0:(List (List Int))) (r:Int),fT n a0=some r→HasC Tryd.prog 37 [.list 1 (a0.map (eP 1 eI))] (.int r)
 |0,a0,r,h=>by cases h
 |n+1,a0,r,h=>qX (fT n) a0 (nP n) r h
def cM (a0:Qv) (x1:((List (List Int))×Int)) (x2:((List Int)×Int)):Option (((List Int)×Int) ⊕ (List Int)):=
 bif decide (x2.2<(a0.src.length:Int)) then
 ((cR a0.src x2.2).bind λv6=>
 bif decide (v6=x1.2) then
 ((cR a0.tgt x2.2).bind λv8=>
 (cR a0.tgt x2.2).bind λv9=>
 (cR x2.1 v9).bind λv10=>
 (cR x2.1 v8).bind λv11=>
 (cR a0.tgt x2.2).bind λv12=>
 bif decide (v12=x1.2) then
 ((cR a0.src x2.2).bind λv14=>
 (cR a0.src x2.2).bind λv15=>
 (cR (x2.1.set v8.toNat (wr (v10 - 1))) v15).bind λv16=>
 (cR (x2.1.set v8.toNat (wr (v10 - 1))) v14).bind λv17=>
 some (.inl (((x2.1.set v8.toNat (wr (v10 - 1))).set v14.toNat (wr (v16 - 1))),wr (x2.2+1))))
 else
 (some (.inl ((x2.1.set v8.toNat (wr (v10 - 1))),wr (x2.2+1)))))
 else
 ((cR a0.tgt x2.2).bind λv18=>
 bif decide (v18=x1.2) then
 ((cR a0.src x2.2).bind λv20=>
 (cR a0.src x2.2).bind λv21=>
 (cR x2.1 v21).bind λv22=>
 (cR x2.1 v20).bind λv23=>
 some (.inl ((x2.1.set v20.toNat (wr (v22 - 1))),wr (x2.2+1))))
 else
 (some (.inl (x2.1,wr (x2.2+1))))))
 else
 (some (.inr x2.1))
def dL (a0:Qv) (x1:((List (List Int))×Int)):Option (((List (List Int))×Int) ⊕ (List (List Int))):=
 bif decide (x1.2<a0.n) then
 ((bO a0).bind λv2=>
 bif v2 then
 (bif (decide (0≤a0.n)&&decide (a0.n≤1048576)) then
 ((cR (List.replicate a0.n.toNat (0:Int)) x1.2).bind λv4=>
 (Lp (cM a0 x1) (((List.replicate a0.n.toNat (0:Int)).set x1.2.toNat 2),0)).bind λy24=>
 bif decide (x1.1.length+1≤4294967296) then
 (some (.inl ((x1.1++[y24]),wr (x1.2+1))))
 else none)
 else none)
 else
 (some (.inr x1.1)))
 else
 (some (.inr x1.1))
def eJ (a0:Qv):Option (List (List Int)):=
 (Lp (dL a0) (([]:(List (List Int))),0)).bind λy27=>
 some (y27)
theorem mK (a0:Qv) (r:(List (List Int))) (h:eJ a0=some r):HasC Tryd.prog 36 [.agg (eQ a0)] (.list 1 (r.map (eP 1 eI))):=by
 refine hM [.tmp 2] Tryd.func36 Tryd.ntmps36 k<|sR<|ae (wb k) k<|aT k2<|sR<|ae (wl k) k<|aT k2<|aM (t:=mN [(1,.ptr 0 0 0),(3,.own 1 0 (([]:(List (List Int))).length))] [(0,⟨3,[eQ a0]⟩),(1,⟨1,List.map (ow (eP 1 eI)) ([]:(List (List Int)))⟩)] 2) (bT (mI 1 k2 (lQ ⟨_,k,⟨k,k,(by simp only [aZ,lA,lT,lR,lC,lN]),k⟩⟩ bA)) (cK k<|gG (bS.plainO _) k<|bA) k4)<|sQ<|sR<|aT k2<|aD<|oB h λy27 hy27 h=>cJ (body:=(dL a0)) hy27 (λ(x1:((List (List Int))×Int))=>mN [(1,.ptr 0 0 0),(3,.own 1 0 x1.1.length),(4,.int x1.2)] [(0,⟨3,[eQ a0]⟩),(1,⟨1,x1.1.map (ow (eP 1 eI))⟩)] 2) (λr e t=>e= .exit 0∧Ent t (mN [(3,.own 0 0 r.length)] [(0,⟨1,r.map (ow (eP 1 eI))⟩)] 1)) (bT (bM k2) (cK k<|gG (bS.plainO _) k<|bA) k4) ?_ ?_
 ·intro x1 o h;refine sQ<|sR<|am k k<|fp k8<|lp k8<|cm k4<|am k k<|qQ h (λq1 h=>?_) λq1 h=>aO 12 k q1<|aK k4<|pk k3<|an<|tn<|eG k k<|aU<|aA<|aA<|sp h ⟨_,k,k,(pV [1] (bM k2) (gG (bS.plainO _) k<|bA) k4)⟩;refine aO 12 k q1<|lp k8<|oB h λv2 hv2 h=>ae (aE (cA a0 v2 hv2) k (aP (lI k) aH)) k<|pk k3<|an<|tn<|dI k h (λ_ h=>?_) λ_ h=>aU<|aA<|aA<|sp h ⟨_,k,k,(pV [1] (bM k2) (gG (bS.plainO _) k<|bA) k4)⟩;refine aC<|tn<|sQ<|aD<|sR<|fp k8<|lp k8<|cG h λq26 h=>ae (sV aR q26 k k k k k k k k) k<|aT k2<|aM (t:=mN [(1,.ptr 0 0 0),(3,.own 1 0 x1.1.length),(4,.int x1.2),(5,.own 2 0 ((List.replicate a0.n.toNat (0:Int)).length))] [(0,⟨3,[eQ a0]⟩),(1,⟨1,x1.1.map (ow (eP 1 eI))⟩),(2,⟨1,List.map (ow eI) (List.replicate a0.n.toNat (0:Int))⟩)] 3) (bT (mI 3 k2 (lQ ⟨_,k,⟨k,k,(by simp only [aZ,lA,lT,lR,lC,lN]),k⟩⟩ bA)) (cK k<|gG (bS.plainO _) k<|hX ⟨_,k,k,.inl ⟨wH (e:=eI) (z:=0) _,kQ.plainO _⟩⟩ k<|bA) k4)<|sR<|am k k<|am k k<|oB h λv4 hv4 h=>ae (xo hv4 k) k<|ae (jI aR jO (u:=2) (dR hv4) k k k k k k) k<|an<|tn<|sQ<|sR<|aT k2<|aD<|oB h λy24 hy24 h=>cJ (body:=(cM a0 x1)) hy24 (λ(x2:((List Int)×Int))=>mN [(1,.ptr 0 0 0),(3,.own 1 0 x1.1.length),(4,.int x1.2),(5,.own 2 0 x2.1.length),(6,.int x2.2)] [(0,⟨3,[eQ a0]⟩),(1,⟨1,x1.1.map (ow (eP 1 eI))⟩),(2,⟨1,x2.1.map (ow eI)⟩)] 3) (λr e t=>e= .exit 2∧Ent t (mN [(1,.ptr 0 0 0),(3,.own 1 0 x1.1.length),(4,.int x1.2),(5,.own 2 0 r.length)] [(0,⟨3,[eQ a0]⟩),(1,⟨1,x1.1.map (ow (eP 1 eI))⟩),(2,⟨1,r.map (ow eI)⟩)] 3)) (bT (mI 3 k2 (lQ ⟨_,k,⟨k,k,(by simp only [aZ,lA,lT,lR,lC,lN]),k⟩⟩ (bM k2))) (cK k<|gG (bS.plainO _) k<|dQ k<|bA) k4) ?_ ?_
  ·intro x2 o h;refine sQ<|sR<|am k k<|fp k8<|lp k8<|ln k4<|cm k4<|an<|tn<|dI k h (λ_ h=>?_) λ_ h=>aU<|aA<|aA<|sp h ⟨_,k,k,(bT (bM k2) (cK k<|gG (bS.plainO _) k<|dQ k<|bA) k4)⟩;refine aC<|tn<|sQ<|aD<|sQ<|sR<|fp k8<|lp k8<|am k k<|oB h λv6 hv6 h=>ae (xl hv6 k) k<|lr k7<|am k k<|cm k4<|an<|tn<|dI k h (λ_ h=>?_) λ_ h=>?_
   ·refine aW lG<|am k k<|fp k8<|lp k8<|am k k<|oB h λv8 hv8 h=>ae (xl hv8 k) k<|lr k7<|am k k<|fp k8<|lp k8<|am k k<|oB h λv9 hv9 h=>ae (xl hv9 k) k<|lr k7<|oB h λv10 hv10 h=>ae (xo hv10 k) k<|ae (wp hv10 k) k<|ae (iQ k k) k<|oB h λv11 hv11 h=>ae (xo hv11 k) k<|ae (jI aR jO (u:=wr (v10 - 1)) (dR hv11) k k k k k k) k<|an<|qW (by kernel_rfl)<|tn<|aM (t:=mN [(1,.ptr 0 0 0),(3,.own 1 0 x1.1.length),(4,.int x1.2),(5,.own 2 0 ((x2.1.set v8.toNat (wr (v10 - 1))).length)),(6,.int x2.2)] [(0,⟨3,[eQ a0]⟩),(1,⟨1,x1.1.map (ow (eP 1 eI))⟩),(2,⟨1,List.map (ow eI) (x2.1.set v8.toNat (wr (v10 - 1)))⟩)] 3) (bT (mI 3 k2 (lQ ⟨_,k,⟨k,k,(by simp only [aZ,lA,lT,lR,lC,lN]),k⟩⟩ (bM k2))) (cK k<|gG (bS.plainO _) k<|dQ k<|bA) k4)<|sR<|fp k8<|lp k8<|am k k<|oB h λv12 hv12 h=>ae (xl hv12 k) k<|lr k7 ?_;exact am k k<|cm k4<|an<|tn<|dI k h (λ_ h=>aW lG<|am k k<|fp k8<|lp k8<|am k k<|oB h λv14 hv14 h=>ae (xl hv14 k) k<|lr k7<|am k k<|fp k8<|lp k8<|am k k<|oB h λv15 hv15 h=>ae (xl hv15 k) k<|lr k7<|oB h λv16 hv16 h=>ae (xo hv16 k) k<|ae (wp hv16 k) k<|ae (iQ k k) k<|oB h λv17 hv17 h=>ae (xo hv17 k) k<|ae (jI aR jO (u:=wr (v16 - 1)) (dR hv17) k k k k k k) k<|an<|qW (by kernel_rfl)<|aL<|tn<|aM (t:=mN [(1,.ptr 0 0 0),(3,.own 1 0 x1.1.length),(4,.int x1.2),(5,.own 2 0 (((x2.1.set v8.toNat (wr (v10 - 1))).set v14.toNat (wr (v16 - 1))).length)),(6,.int x2.2)] [(0,⟨3,[eQ a0]⟩),(1,⟨1,x1.1.map (ow (eP 1 eI))⟩),(2,⟨1,List.map (ow eI) ((x2.1.set v8.toNat (wr (v10 - 1))).set v14.toNat (wr (v16 - 1)))⟩)] 3) (bT (mI 3 k2 (lQ ⟨_,k,⟨k,k,(by simp only [aZ,lA,lT,lR,lC,lN]),k⟩⟩ (bM k2))) (cK k<|gG (bS.plainO _) k<|dQ k<|bA) k4)<|rg<|am k k<|ae (bJ k k) k<|aT k2<|sp h ⟨_,k,(bT (bM k2) (cK k<|gG (bS.plainO _) k<|dQ k<|bA) k4)⟩) λ_ h=>aC<|aL<|tn<|rg<|am k k<|ae (bJ k k) k<|aT k2<|sp h ⟨_,k,(bT (bM k2) (cK k<|gG (bS.plainO _) k<|dQ k<|bA) k4)⟩
   ·exact aC<|tn<|sR<|fp k8<|lp k8<|am k k<|oB h λv18 hv18 h=>ae (xl hv18 k) k<|lr k7<|am k k<|cm k4<|an<|tn<|dI k h (λ_ h=>aW lG<|am k k<|fp k8<|lp k8<|am k k<|oB h λv20 hv20 h=>ae (xl hv20 k) k<|lr k7<|am k k<|fp k8<|lp k8<|am k k<|oB h λv21 hv21 h=>ae (xl hv21 k) k<|lr k7<|oB h λv22 hv22 h=>ae (xo hv22 k) k<|ae (wp hv22 k) k<|ae (iQ k k) k<|oB h λv23 hv23 h=>ae (xo hv23 k) k<|ae (jI aR jO (u:=wr (v22 - 1)) (dR hv23) k k k k k k) k<|an<|qW (by kernel_rfl)<|aL<|tn<|aM (t:=mN [(1,.ptr 0 0 0),(3,.own 1 0 x1.1.length),(4,.int x1.2),(5,.own 2 0 ((x2.1.set v20.toNat (wr (v22 - 1))).length)),(6,.int x2.2)] [(0,⟨3,[eQ a0]⟩),(1,⟨1,x1.1.map (ow (eP 1 eI))⟩),(2,⟨1,List.map (ow eI) (x2.1.set v20.toNat (wr (v22 - 1)))⟩)] 3) (bT (mI 3 k2 (lQ ⟨_,k,⟨k,k,(by simp only [aZ,lA,lT,lR,lC,lN]),k⟩⟩ (bM k2))) (cK k<|gG (bS.plainO _) k<|dQ k<|bA) k4)<|rg<|am k k<|ae (bJ k k) k<|aT k2<|sp h ⟨_,k,(bT (bM k2) (cK k<|gG (bS.plainO _) k<|dQ k<|bA) k4)⟩) λ_ h=>aC<|aL<|tn<|rg<|am k k<|ae (bJ k k) k<|aT k2<|sp h ⟨_,k,(bT (bM k2) (cK k<|gG (bS.plainO _) k<|dQ k<|bA) k4)⟩
  ·rintro e t ⟨rfl,hent⟩;exact aN<|tn<|aM hent<|rg<|am k k<|am k k<|ae (wl k) k<|cG h λq25 h=>ae (sW aR (l:=x1.1) (c:=[.own 2 0 y24.length]) q25 k k k k k k k k k k k k k k) k<|aa k k<|an<|aL<|tn<|aM (t:=mN [(1,.ptr 0 0 0),(3,.own 4 0 ((x1.1++[y24]).length)),(4,.int x1.2)] [(0,⟨3,[eQ a0]⟩),(4,⟨1,List.map (ow (eP 1 eI)) (x1.1++[y24])⟩)] 5) (Ent.trans (mH (b:=4) (b':=2) (j:=0) (es':=y24.map eI) k k k k (aZ _ _) (kQ.frzs _)) (bT (mI 1 k2 (lQ ⟨_,k,⟨k,k,(by simp only [aZ,lA,lT,lR,lC,lN]),k⟩⟩ (bM k2))) (cK k<|hX ⟨_,k,k,.inl ⟨sX y24 k,bS.plainO _⟩⟩ k<|bA) k4))<|rg<|am k k<|ae (bJ k k) k<|aT k2<|sp h ⟨_,k,(pV [0,4] (bM k2) (cK k<|gG (bS.plainO _) k<|bA) k4)⟩
 ·rintro e t ⟨rfl,hent⟩;exact aN<|tn<|aM hent<|sR<|am k k<|aT k2<|aG<|sp h (aX k k k (hJ (oD bS k k)))
def dY (a0:(List (List Int))) (a1:Int) (x1:(Int×(List (List Int)))) (x2:((List Int)×Int)):Option (((List Int)×Int) ⊕ (List Int)):=
 bif decide (x2.2<(a0.length:Int)) then
 (bif !decide (x2.2<0) then
 (bif decide (aAI (aAH a1 x2.2) 1=1) then
 ((cR a0 x1.1).bind λv5=>
 (cR v5 x2.2).bind λv6=>
 bif decide (x2.1.length+[v6].length ≤4294967296) then
 (some (.inl ((x2.1++[v6]),wr (x2.2+1))))
 else none)
 else
 (some (.inl (x2.1,wr (x2.2+1)))))
 else none)
 else
 (some (.inr x2.1))
def fN (a0:(List (List Int))) (a1:Int) (x1:(Int×(List (List Int)))):Option ((Int×(List (List Int))) ⊕ (List (List Int))):=
 bif decide (x1.1<(a0.length:Int)) then
 (bif !decide (x1.1<0) then
 (bif decide (aAI (aAH a1 x1.1) 1=0) then
 (some (.inl (wr (x1.1+1),x1.2)))
 else
 ((Lp (dY a0 a1 x1) (([]:(List Int)),0)).bind λy9=>
 bif decide (x1.2.length+1≤4294967296) then
 (some (.inl (wr (x1.1+1),(x1.2++[y9]))))
 else none))
 else none)
 else
 (some (.inr x1.2))
def hO (a0:(List (List Int))) (a1:Int):Option (List (List Int)):=
 (Lp (fN a0 a1) (0,([]:(List (List Int))))).bind λy12=>
 some (y12)
theorem qY (a0:(List (List Int))) (a1:Int) (r:(List (List Int))) (h:hO a0 a1=some r):HasC Tryd.prog 38 [.list 1 (a0.map (eP 1 eI)),.int a1] (.list 1 (r.map (eP 1 eI))):=by
 refine hM [.tmp 4] Tryd.func38 Tryd.ntmps38 k<|sR<|aT k2<|sR<|ae (wl k) k<|aT k2<|aM (t:=mN [(0,.list 1 (a0.map (eP 1 eI))),(1,.int a1),(5,.own 0 0 (([]:(List (List Int))).length))] [(0,⟨1,List.map (ow (eP 1 eI)) ([]:(List (List Int)))⟩)] 1) (bT (mI 2 k2 (lQ ⟨_,k,⟨k,k,(by simp only [aZ,lA,lT,lR,lC,lN]),k⟩⟩ bA)) (gG (bS.plainO _) k<|bA) k4)<|sQ<|sR<|aT k2<|aD<|oB h λy12 hy12 h=>cJ (body:=(fN a0 a1)) hy12 (λ(x1:(Int×(List (List Int))))=>mN [(0,.list 1 (a0.map (eP 1 eI))),(1,.int a1),(5,.own 0 0 x1.2.length),(6,.int x1.1)] [(0,⟨1,x1.2.map (ow (eP 1 eI))⟩)] 1) (λr e t=>e= .exit 0∧Ent t (mN [(5,.own 0 0 r.length)] [(0,⟨1,r.map (ow (eP 1 eI))⟩)] 1)) (bT (bM k2) (gG (bS.plainO _) k<|bA) k4) ?_ ?_
 ·intro x1 o h;refine sQ<|sR<|am k k<|am k k<|ln k4<|cm k4<|an<|tn<|dI k h (λ_ h=>?_) λ_ h=>aU<|aA<|aA<|sp h ⟨_,k,k,(bT (bM k2) (gG (bS.plainO _) k<|bA) k4)⟩;refine aC<|tn<|sQ<|aD<|sQ<|sR<|am k k<|am k k<|cG h λq11 h=>ae (aAn k k q11) k<|ae (aAo k k) k<|cm k4<|an<|tn<|dI k h (λ_ h=>aU<|aA<|aN<|tn<|rg<|am k k<|ae (bJ k k) k<|aT k2<|sp h ⟨_,k,(bT (bM k2) (gG (bS.plainO _) k<|bA) k4)⟩) λ_ h=>?_;refine aC<|tn<|sR<|ae (wl k) k<|aT k2<|aM (t:=mN [(0,.list 1 (a0.map (eP 1 eI))),(1,.int a1),(5,.own 0 0 x1.2.length),(6,.int x1.1),(7,.own 1 0 (([]:(List Int)).length))] [(0,⟨1,x1.2.map (ow (eP 1 eI))⟩),(1,⟨1,List.map (ow eI) ([]:(List Int))⟩)] 2) (bT (mI 4 k2 (lQ ⟨_,k,⟨k,k,(by simp only [aZ,lA,lT,lR,lC,lN]),k⟩⟩ bA)) (gG (bS.plainO _) k<|dQ k<|bA) k4)<|sQ<|sR<|aT k2<|aD<|oB h λy9 hy9 h=>cJ (body:=(dY a0 a1 x1)) hy9 (λ(x2:((List Int)×Int))=>mN [(0,.list 1 (a0.map (eP 1 eI))),(1,.int a1),(5,.own 0 0 x1.2.length),(6,.int x1.1),(7,.own 1 0 x2.1.length),(8,.int x2.2)] [(0,⟨1,x1.2.map (ow (eP 1 eI))⟩),(1,⟨1,x2.1.map (ow eI)⟩)] 2) (λr e t=>e= .exit 2∧Ent t (mN [(0,.list 1 (a0.map (eP 1 eI))),(1,.int a1),(5,.own 0 0 x1.2.length),(6,.int x1.1),(7,.own 1 0 r.length)] [(0,⟨1,x1.2.map (ow (eP 1 eI))⟩),(1,⟨1,r.map (ow eI)⟩)] 2)) (bT (bM k2) (gG (bS.plainO _) k<|dQ k<|bA) k4) ?_ ?_
  ·intro x2 o h;exact sQ<|sR<|am k k<|am k k<|ln k4<|cm k4<|an<|tn<|dI k h (λ_ h=>aC<|tn<|sQ<|aD<|sR<|am k k<|am k k<|cG h λq8 h=>ae (aAn k k q8) k<|ae (aAo k k) k<|cm k4<|an<|tn<|dI k h (λ_ h=>rg<|am k k<|am k k<|am k k<|oB h λv5 hv5 h=>ae (xl hv5 k) k<|lr k7<|am k k<|oB h λv6 hv6 h=>ae (xl hv6 k) k<|lr k7<|ae (wl k) k<|cG h λq7 h=>ae (iR aR (l:=x2.1) (m:=[v6]) jO q7 k k k k k k k k k k k k) k<|aa k k<|an<|aL<|tn<|rg<|am k k<|ae (bJ k k) k<|aT k2<|sp h ⟨_,k,(pV [0,3] (bM k2) (gG (bS.plainO _) k<|dQ k<|bA) k4)⟩) λ_ h=>aC<|aL<|tn<|rg<|am k k<|ae (bJ k k) k<|aT k2<|sp h ⟨_,k,(bT (bM k2) (gG (bS.plainO _) k<|dQ k<|bA) k4)⟩) λ_ h=>aU<|aA<|aA<|sp h ⟨_,k,k,(bT (bM k2) (gG (bS.plainO _) k<|dQ k<|bA) k4)⟩
  ·rintro e t ⟨rfl,hent⟩;exact aN<|tn<|aM hent<|rg<|am k k<|am k k<|ae (wl k) k<|cG h λq10 h=>ae (sW aR (l:=x1.2) (c:=[.own 1 0 y9.length]) q10 k k k k k k k k k k k k k k) k<|aa k k<|an<|aL<|tn<|aM (t:=mN [(0,.list 1 (a0.map (eP 1 eI))),(1,.int a1),(5,.own 3 0 ((x1.2++[y9]).length)),(6,.int x1.1)] [(3,⟨1,List.map (ow (eP 1 eI)) (x1.2++[y9])⟩)] 4) (Ent.trans (mH (b:=3) (b':=1) (j:=0) (es':=y9.map eI) k k k k (aZ _ _) (kQ.frzs _)) (bT (mI 2 k2 (lQ ⟨_,k,⟨k,k,(by simp only [aZ,lA,lT,lR,lC,lN]),k⟩⟩ (bM k2))) (hX ⟨_,k,k,.inl ⟨sX y9 k,bS.plainO _⟩⟩ k<|bA) k4))<|rg<|am k k<|ae (bJ k k) k<|aT k2<|sp h ⟨_,k,(pV [3] (bM k2) (gG (bS.plainO _) k<|bA) k4)⟩
 ·rintro e t ⟨rfl,hent⟩;exact aN<|tn<|aM hent<|sR<|am k k<|aT k2<|aG<|sp h (aX k k k (hJ (oD bS k k)))
def dT (a0:Qv) (v3:(List (List Int))) (x1:(Int×Int)):Option ((Int×Int) ⊕ (Int ⊕ Int)):=
 bif !decide (a0.n<0) then
 (bif decide (x1.2<aCk 1 a0.n) then
 ((hO v3 x1.2).bind λv5=>
 (fT 8 v5).bind λv6=>
 bif decide (v6<0) then
 (some (.inr (.inr (3))))
 else
 (bif decide (v6=0) then
 (some (.inl (2,wr (x1.2+1))))
 else
 (some (.inl (x1.1,wr (x1.2+1))))))
 else
 (some (.inr (.inl x1.1))))
 else none
def eV (a0:Qv):Option Int:=
 (bO a0).bind λv1=>
 bif !v1 then
 (some (0))
 else
 ((eJ a0).bind λv3=>
 (Lp (dT a0 v3) (1,1)).bind λy10=>
 Sum.elim (λy11=>
 some (y11)
 )
 (λy12=>
 some y12
 )
 y10)
theorem nH (a0:Qv) (r:Int) (h:eV a0=some r):HasC Tryd.prog 16 [.agg (eQ a0)] (.int r):=by
 refine hM [.tmp 2] Tryd.func16 Tryd.ntmps16 k<|sR<|ae (wb k) k<|aT k2<|sQ<|sR<|lp k8<|oB h λv1 hv1 h=>ae (aE (cA a0 v1 hv1) k (aP (lI k) aH)) k<|ae (eE k) k<|an<|tn<|dI k h (λ_ h=>sR<|aT k2<|aG<|aI<|rtI h k2) λ_ h=>?_;refine aC<|tn<|sR<|lp k8<|oB h λv3 hv3 h=>ae (cL bS (mK a0 v3 hv3) k3 (aP (lI k) aH)) k<|aT k2<|sR<|aT k2<|sQ<|sR<|aT k2<|aD<|oB h λy10 hy10 h=>cJ (body:=(dT a0 v3)) hy10 (λ(x1:(Int×Int))=>mN [(1,.ptr 0 0 0),(3,.own 1 0 v3.length),(4,.int x1.1),(5,.int x1.2)] [(0,⟨3,[eQ a0]⟩),(1,⟨1,v3.map (ow (eP 1 eI))⟩)] 2) (λr e t=>Sum.elim (λa=>(λr e t=>e= .exit 0∧Ent t (mN [(4,.int r)] [] 0)) a e t) (λb=>(λr e t=>e= .ret∧nG TT [.tmp 2] (.int r) .ret t) b e t) r) (bT (bM k2) (cK k<|gG (bS.plainO _) k<|bA) k4) ?_ ?_
 ·intro x1 o h;exact sQ<|sR<|am k k<|fp k8<|lp k8<|cG h λq9 h=>ae (aDj k k q9) k<|cm k4<|an<|tn<|dI k h (λ_ h=>aC<|tn<|sQ<|aD<|sR<|am k k<|am k k<|oB h λv5 hv5 h=>ae (cL bS (qY v3 x1.2 v5 hv5) k3 (aP (uE bS k k) (fJ k aH))) k<|oB h λv6 hv6 h=>ae (aE (nP 8 v5 v6 hv6) k (aP (uE bS k k) aH)) k<|aT k2<|sQ<|sR<|am k k<|cm k4<|an<|tn<|dI k h (λ_ h=>sR<|aT k2<|aG<|aI<|bN<|aI<|aI<|sp h ⟨_,k,k,aX k k k (sN k)⟩) λ_ h=>aC<|tn<|sR<|am k k<|cm k4<|an<|tn<|dI k h (λ_ h=>rg<|aa k k<|an<|aL<|tn<|rg<|am k k<|ae (bJ k k) k<|aT k2<|sp h ⟨_,k,(bT (bM k2) (cK k<|gG (bS.plainO _) k<|bA) k4)⟩) λ_ h=>aC<|aL<|tn<|rg<|am k k<|ae (bJ k k) k<|aT k2<|sp h ⟨_,k,(bT (bM k2) (cK k<|gG (bS.plainO _) k<|bA) k4)⟩) λ_ h=>aU<|aA<|aA<|sp h ⟨_,k,k,(bT (bM k2) bA k4)⟩
 ·intro e t hX;rcases y10 with y11|y12
  ·obtain ⟨rfl,hent⟩:=hX;exact aN<|tn<|aM hent<|sR<|am k k<|aT k2<|aG<|rtI h k2
  ·obtain ⟨rfl,hent⟩:=hX;exact bN<|aI<|sp h hent
end
noncomputable section
set_option maxRecDepth 10000
set_option maxHeartbeats 4000000
def gW (a0:(List Int)) (a1:Int):Option Int:=
 bif decide (wr (a1 - (a0.length:Int))<0) then
 (some ((-1)))
 else
 (some (wr (a1 - (a0.length:Int))))
theorem nQ (a0:(List Int)) (a1:Int) (r:Int) (h:gW a0 a1=some r):HasC Tryd.prog 9 [.list 1 (a0.map eI),.int a1] (.int r):=by
 exact hM [.tmp 4] Tryd.func9 Tryd.ntmps9 k<|sR<|aT k2<|sR<|am k k<|am k k<|ln k4<|ae (iQ k k) k<|aT k2<|sQ<|sR<|am k k<|cm k4<|an<|tn<|dI k h (λ_ h=>sR<|aT k2<|aG<|aI<|rtI h k2) λ_ h=>aC<|tn<|sR<|am k k<|aT k2<|aG<|rtI h k2
def jE (a0:Qv) (a1:Int):Option Int:=
 (gW a0.src a1).bind λv1=>
 bif decide (v1<0) then
 (some ((-1)))
 else
 ((gW a0.tgt v1).bind λv3=>
 bif decide (v3<0) then
 (some ((-1)))
 else
 (some (v3)))
theorem qZ (a0:Qv) (a1:Int) (r:Int) (h:jE a0 a1=some r):HasC Tryd.prog 4 [.agg (eQ a0),.int a1] (.int r):=by
 exact hM [.tmp 4] Tryd.func4 Tryd.ntmps4 k<|sR<|ae (wb k) k<|aT k2<|sR<|fp k8<|lp k8<|am k k<|oB h λv1 hv1 h=>ae (aE (nQ a0.src a1 v1 hv1) k (fJ k (fJ k aH))) k<|aT k2<|sQ<|sR<|am k k<|cm k4<|an<|tn<|dI k h (λ_ h=>sR<|aT k2<|aG<|aI<|rtI h k2) λ_ h=>aC<|tn<|sR<|fp k8<|lp k8<|am k k<|oB h λv3 hv3 h=>ae (aE (nQ a0.tgt v1 v3 hv3) k (fJ k (fJ k aH))) k<|aT k2<|sQ<|sR<|am k k<|cm k4<|an<|tn<|dI k h (λ_ h=>sR<|aT k2<|aG<|aI<|rtI h k2) λ_ h=>aC<|tn<|sR<|am k k<|aT k2<|aG<|rtI h k2
def gI (a0:(List Int)) (x1:((List Int)×Int)):Option (((List Int)×Int) ⊕ (List Int)):=
 bif decide (x1.2<(a0.length:Int)) then
 ((cR a0 x1.2).bind λv2=>
 (cR x1.1 x1.2).bind λv3=>
 some (.inl ((x1.1.set x1.2.toNat v2),wr (x1.2+1))))
 else
 (some (.inr x1.1))
def gX (a0:(List Int)):Option (List Int):=
 bif (decide (0≤(a0.length:Int))&&decide ((a0.length:Int)≤1048576)) then
 ((Lp (gI a0) ((List.replicate ((a0.length:Int).toNat) (0:Int)),0)).bind λy4=>
 some (y4))
 else none
theorem nR (a0:(List Int)) (r:(List Int)) (h:gX a0=some r):HasC Tryd.prog 20 [.list 1 (a0.map eI)] (.list 1 (r.map eI)):=by
 refine hM [.tmp 2] Tryd.func20 Tryd.ntmps20 k<|sR<|aT k2<|sR<|am k k<|ln k4<|cG h λq5 h=>ae (sV aR q5 k k k k k k k k) k<|aT k2<|aM (t:=mN [(0,.list 1 (a0.map eI)),(3,.own 0 0 ((List.replicate ((a0.length:Int).toNat) (0:Int)).length))] [(0,⟨1,List.map (ow eI) (List.replicate ((a0.length:Int).toNat) (0:Int))⟩)] 1) (bT (mI 1 k2 (lQ ⟨_,k,⟨k,k,(by simp only [aZ,lA,lT,lR,lC,lN]),k⟩⟩ bA)) (hX ⟨_,k,k,.inl ⟨wH (e:=eI) (z:=0) _,kQ.plainO _⟩⟩ k<|bA) k4)<|sQ<|sR<|aT k2<|aD<|oB h λy4 hy4 h=>cJ (body:=(gI a0)) hy4 (λ(x1:((List Int)×Int))=>mN [(0,.list 1 (a0.map eI)),(3,.own 0 0 x1.1.length),(4,.int x1.2)] [(0,⟨1,x1.1.map (ow eI)⟩)] 1) (λr e t=>e= .exit 0∧Ent t (mN [(3,.own 0 0 r.length)] [(0,⟨1,r.map (ow eI)⟩)] 1)) (bT (bM k2) (dQ k<|bA) k4) ?_ ?_
 ·intro x1 o h;exact sQ<|sR<|am k k<|am k k<|ln k4<|cm k4<|an<|tn<|dI k h (λ_ h=>aC<|tn<|sQ<|aD<|rg<|am k k<|am k k<|am k k<|am k k<|oB h λv2 hv2 h=>ae (xl hv2 k) k<|lr k7<|oB h λv3 hv3 h=>ae (xo hv3 k) k<|ae (jI aR jO (u:=v2) (dR hv3) k k k k k k) k<|an<|aL<|tn<|rg<|am k k<|ae (bJ k k) k<|aT k2<|sp h ⟨_,k,(bT (mI 1 k2 (lQ ⟨_,k,⟨k,k,(by simp only [aZ,lA,lT,lR,lC,lN]),k⟩⟩ (bM k2))) (dQ k<|bA) k4)⟩) λ_ h=>aU<|aA<|aA<|sp h ⟨_,k,k,(bT (bM k2) (dQ k<|bA) k4)⟩
 ·rintro e t ⟨rfl,hent⟩;exact aN<|tn<|aM hent<|sR<|am k k<|aT k2<|aG<|sp h (aX k k k (hJ (oD kQ k k)))
def eD (a0:Qv):Option Qv:=
 (gX a0.src).bind λv1=>
 (gX a0.tgt).bind λv2=>
 some ((⟨a0.n,v1,v2⟩:Qv))
theorem jF (a0:Qv) (r:Qv) (h:eD a0=some r):HasC Tryd.prog 6 [.agg (eQ a0)] (.agg (eQ r)):=by
 refine hM [.cell 2 27] Tryd.func6 Tryd.ntmps6 k<|sR<|ae (wb k) k<|ae (rI aR k k) k<|an<|tn<|sR<|ae (rI aR k k) k<|an<|tn<|sR<|fp k8<|lp k8<|fp k8<|ae (ws k) k<|an<|tn<|sR<|fp k8<|lp k8<|oB h λv1 hv1 h=>ae (cL kQ (nR a0.src v1 hv1) k3 (fJ k aH)) k<|fp k8<|ae (ws k) k<|an<|tn<|sQ ?_;exact rg<|fp k8<|lp k8<|oB h λv2 hv2 h=>ae (cL kQ (nR a0.tgt v2 hv2) k3 (fJ k aH)) k<|fp k8<|ae (ws k) k<|an<|tn<|sR<|lp k8<|ae (ws k) k<|an<|tn<|aG<|sp h (aX k k k (aEB (wG (k) (wG (oD kQ k k) (wG (oD kQ k k) aEA)))))
def iU (a0:(List Int)) (a1:(List Int)) (x1:Int):Option (Int ⊕ (Unit ⊕ Bool)):=
 bif decide (x1<(a0.length:Int)) then
 ((cR a0 x1).bind λv3=>
 (cR a1 x1).bind λv4=>
 bif !decide (v3=v4) then
 (some (.inr (.inr (false))))
 else
 (some (.inl (wr (x1+1)))))
 else
 (some (.inr (.inl ())))
def iY (a0:(List Int)) (a1:(List Int)):Option Bool:=
 bif !decide ((a0.length:Int)=(a1.length:Int)) then
 (some (false))
 else
 ((Lp (iU a0 a1) 0).bind λy6=>
 Sum.elim (λy7=>
 some (true)
 )
 (λy8=>
 some y8
 )
 y6)
theorem nS (a0:(List Int)) (a1:(List Int)) (r:Bool) (h:iY a0 a1=some r):HasC Tryd.prog 31 [.list 1 (a0.map eI),.list 1 (a1.map eI)] (.bl r):=by
 refine hM [.tmp 4] Tryd.func31 Tryd.ntmps31 k<|sR<|aT k2<|sQ<|sR<|am k k<|ln k4<|am k k<|ln k4<|cm k4<|an<|tn<|dI k h (λ_ h=>sR<|aT k2<|aG<|aI<|nC h k2) λ_ h=>?_;refine aC<|tn<|sQ<|sR<|aT k2<|aD<|oB h λy6 hy6 h=>cJ (body:=(iU a0 a1)) hy6 (λ(x1:Int)=>mN [(0,.list 1 (a0.map eI)),(1,.list 1 (a1.map eI)),(5,.int x1)] [] 0) (λr e t=>Sum.elim (λa=>(λr e t=>e= .exit 0∧Ent t (mN [] [] 0)) a e t) (λb=>(λr e t=>e= .ret∧nG TT [.tmp 4] (.bl r) .ret t) b e t) r) (bT (bM k2) bA k4) ?_ ?_
 ·intro x1 o h;exact sQ<|sR<|am k k<|am k k<|ln k4<|cm k4<|an<|tn<|dI k h (λ_ h=>aC<|tn<|sQ<|aD<|sQ<|aW lG<|am k k<|am k k<|oB h λv3 hv3 h=>ae (xl hv3 k) k<|lr k7<|am k k<|am k k<|oB h λv4 hv4 h=>ae (xl hv4 k) k<|lr k7<|cm k4<|an<|qW (by kernel_rfl)<|tn<|dI k h (λ_ h=>sR<|aT k2<|aG<|bN<|aI<|aI<|sp h ⟨_,k,k,aX k k k (vA k)⟩) λ_ h=>aC<|aL<|tn<|rg<|am k k<|ae (bJ k k) k<|aT k2<|sp h ⟨_,k,(bT (bM k2) bA k4)⟩) λ_ h=>aU<|aA<|aA<|sp h ⟨_,k,k,(bT bA bA k4)⟩
 ·intro e t hX;rcases y6 with y7|y8
  ·obtain ⟨rfl,hent⟩:=hX;exact aN<|tn<|aM hent<|sR<|aT k2<|aG<|nC h k2
  ·obtain ⟨rfl,hent⟩:=hX;exact bN<|aI<|sp h hent
def hR (a0:Qv) (a1:Qv):Option Bool:=
 bif !decide (a0.n=a1.n) then
 (some (false))
 else
 ((iY a0.src a1.src).bind λv2=>
 bif !v2 then
 (some (false))
 else
 ((iY a0.tgt a1.tgt).bind λv4=>
 bif !v4 then
 (some (false))
 else
 (some (true))))
theorem rA (a0:Qv) (a1:Qv) (r:Bool) (h:hR a0 a1=some r):HasC Tryd.prog 8 [.agg (eQ a0),.agg (eQ a1)] (.bl r):=by
 exact hM [.tmp 4] Tryd.func8 Tryd.ntmps8 k<|sR<|ae (wb k) k<|ae (wb k) k<|aT k2<|sQ<|sR<|fp k8<|lp k8<|fp k8<|lp k8<|cm k4<|an<|tn<|dI k h (λ_ h=>sR<|aT k2<|aG<|aI<|nC h k2) λ_ h=>aC<|tn<|sQ<|sR<|fp k8<|lp k8<|fp k8<|lp k8<|oB h λv2 hv2 h=>ae (aE (nS a0.src a1.src v2 hv2) k (fJ k (fJ k aH))) k<|ae (eE k) k<|an<|tn<|dI k h (λ_ h=>sR<|aT k2<|aG<|aI<|nC h k2) λ_ h=>aC<|tn<|sQ<|sR<|fp k8<|lp k8<|fp k8<|lp k8<|oB h λv4 hv4 h=>ae (aE (nS a0.tgt a1.tgt v4 hv4) k (fJ k (fJ k aH))) k<|ae (eE k) k<|an<|tn<|dI k h (λ_ h=>sR<|aT k2<|aG<|aI<|nC h k2) λ_ h=>aC<|tn<|sR<|aT k2<|aG<|nC h k2
end
noncomputable section
def zI (n:Nat) (left:Int):Int:=if left - n<0 then -1 else left - n
def zC:List (Int→Int)→Int→Int
 | [],left=>left
 |f::fs,left=>if f left<0 then -1 else zC fs (f left)
def zQ (q:Qv):Int→Int:=zC [zI q.src.length,zI q.tgt.length]
def tC (f:Int→Int) (b:Prop):Prop:= ∀ left,0≤left→left≤1048576→f left= -1∨(0≤f left∧f left≤left∧b)
theorem rM (n:Nat):tC (zI n) (n≤1048576):=by
 intro left h0 h1;unfold zI;by_cases h:left - n<0
 ·rw [bK h];exact .inl rfl
 ·rw [aY h];exact .inr ⟨by omega,by omega,by omega⟩
theorem aBV:tC (zC []) True:=λleft h0 _=> .inr ⟨h0,Int.le_refl _,trivial⟩
theorem tD {f:Int→Int} {fs:List (Int→Int)} {b bs:Prop} (h:tC f b) (k:tC (zC fs) bs):tC (zC (f::fs)) (b∧bs):=by
 intro left h0 h1;unfold zC;rcases h left h0 h1 with e|⟨e1,e2,e3⟩
 ·rw [e,bK (by decide)];exact .inl rfl
 ·rw [aY (by omega)];rcases k (f left) e1 (by omega) with g|⟨g1,g2,g3⟩
  ·exact .inl g
  ·exact .inr ⟨g1,by omega,e3,g3⟩
def bI (l:List Int):Prop:=l.length≤1048576
def bQ (q:Qv):Prop:=bI q.src∧bI q.tgt∧True
theorem aDa (q:Qv):tC (zQ q) (bQ q):=tD (rM _) (tD (rM _) aBV)
def fI {α:Type} (l:List α):Prop:=l.length≤9223372036854775807
theorem aAp {o:Option Int} {z:Int→Int} {zs:List (Int→Int)} {b:Prop} {left:Int} {k:Int→Option Int} (ho:o=some (z left)) (hf:tC z b) (h0:0≤left) (h1:left≤1048576) (hk: ∀ v,0≤v→v≤1048576→k v=some (zC zs v)):
  Option.bind o (λv=>bif decide (v<0) then some (-1) else k v)=some (zC (z::zs) left):=by
 rw [ho,aB];unfold zC;rcases hf left h0 h1 with e|⟨e1,e2,_⟩
 ·rw [e];rfl
 ·rw [aY (by omega),bX (by omega: ¬ z left<0),aJ];exact hk _ e1 (by omega)
theorem aEi {l:List Int} {left:Int} (hl:fI l) (h0:0≤left) (h1:left≤1048576):gW l left=some (zI l.length left):=by
 unfold fI at hl;unfold gW zI;rw [aDh (by omega)];by_cases h:left - l.length<0
 ·rw [aS h,bK h];rfl
 ·rw [bX h,aY h];rfl
def fQ (q:Qv):Prop:=fI q.src∧fI q.tgt
theorem aFH {q:Qv} {left:Int} (hl:fQ q) (h0:0≤left) (h1:left≤1048576):jE q left=some (zQ q left):=
 aAp (aEi hl.1 h0 h1) (rM _) h0 h1 λv g0 g1=>aAp (aEi hl.2 g0 g1) (rM _) g0 g1 λv _ _=>rfl
theorem aBW {α:Type} {body:List α×Int→Option ((List α×Int) ⊕ List α)} {l:List α} (z:α) (hl:l.length≤4611686018427387904)
  (hs: ∀ (k:Nat) (hk:k<l.length) (r:List α),r.length=l.length→body (r,k)=some (.inl (r.set k l[k],wr (k+1)))) (he: ∀ r,body (r,l.length)=some (.inr r)):Lp body (List.replicate ((l.length:Int).toNat) z,0)=some l:=by
 refine aCK (λk=>(l.take k++List.replicate (l.length - k) z,(k:Int))) l.length (by simp) (λk hk=>?_) ?_
 ·rw [hs k hk _ (by simp;omega),cF hk hl];congr 3;rw [show l.length - k=(l.length - (k+1))+1 by omega,List.replicate_succ,List.set_append_right _ _ (by simp;omega)];rw [uH hk,List.length_take,Nat.min_eq_left (Nat.le_of_lt hk),Nat.sub_self,List.set_cons_zero,List.append_assoc];rfl
 ·rw [he];simp
theorem aEj {l:List Int} (h:bI l):gX l=some l:=by
 unfold bI at h;unfold gX;rw [aS (by omega),aS (by omega:(l.length:Int)≤1048576),Bool.and_self,aF];rw [aBW 0 (by omega) (λk hk r hr=>?_) (λr=>?_)];rfl
 ·unfold gI;simp only;rw [mE hk,aF,jH hk,aB,jH (hr▸hk),aB,fR]
 ·unfold gI;simp only;rw [lW (bU _),aJ]
theorem aFI {q:Qv} (h:bQ q):eD q=some q:=by
 unfold eD;rw [aEj h.1,aB,aEj h.2.1,aB]
theorem aCl {α:Type} [DecidableEq α] {body:Int→Option (Int ⊕ (Unit ⊕ Bool))} {a b:List α} (hl:a.length≤4611686018427387904) (hab:a.length=b.length)
  (hs: ∀ (k:Nat) (h1:k<a.length) (h2:k<b.length),body k=some (bif decide (a[k]=b[k]) then .inl (wr (k+1)) else .inr (.inr false))) (he:body a.length=some (.inr (.inl ()))):
  Option.bind (Lp body 0) (λy=>Sum.elim (λ_=>some true) (λy=>some y) y)=some (decide (a=b)):=by
 have key: ∀ (P:Nat→Bool),(∀ (k:Nat) (h1:k<a.length) (h2:k<b.length),P k=decide (a[k]=b[k]))→Lp body 0=some (bif (List.range a.length).all P then .inl () else .inr false)→Option.bind (Lp body 0) (λy=>Sum.elim (λ_=>some true) (λy=>some y) y)=some (decide (a=b)):=by
  intro P hP e;rw [e,aB]
  have:(List.range a.length).all P=decide (a=b):=by
   rw [Bool.eq_iff_iff,nB,lX];constructor
   ·intro h;refine List.ext_getElem hab λk h1 h2=>?_;have:=h k h1;rw [hP k h1 h2] at this;exact of_decide_eq_true this
   ·rintro rfl k hk;rw [hP k hk hk];simp
  rw [this];cases decide (a=b) <;> rfl
 refine key (λk=>if h:k<a.length then if h2:k<b.length then decide (a[k]=b[k]) else false else false) (λk h1 h2=>by rw [dif_pos h1,dif_pos h2]) (wF _ _ hl (λk hk=>?_) (λ_=>he));rw [dif_pos hk,dif_pos (hab▸hk)];exact hs k hk (hab▸hk)
theorem aCm {α β:Type} {a:List α} {b:List β} :decide ((a.length:Int)=(b.length:Int))=decide (a.length=b.length):=by
 rw [Bool.eq_iff_iff,lX,lX];omega
theorem aDb {body:Int→Option (Int ⊕ (Unit ⊕ Bool))} {a b:List Int} (hl:a.length≤4611686018427387904)
  (hb:body=λx=>bif decide (x<(a.length:Int)) then (Option.bind (cR a x) λv3=>Option.bind (cR b x) λv4=>bif !decide (v3=v4) then (some (.inr (.inr (false)))) else (some (.inl (wr (x+1))))) else (some (.inr (.inl ())))):
  (bif !decide ((a.length:Int)=(b.length:Int)) then some false else Option.bind (Lp body 0) (λy=>Sum.elim (λ_=>some true) (λy=>some y) y))=some (decide (a=b)):=by
 rw [aCm];by_cases h:a.length=b.length
 ·rw [aS h,gS,aJ];refine aCl hl h (λk h1 h2=>?_) ?_
  ·rw [hb];simp only;rw [mE h1,aF,jH h1,aB,jH h2,aB];cases decide (a[k]=b[k]) <;> rfl
  ·rw [hb];simp only;rw [lW (bU _),aJ]
 ·rw [bX h,Bool.not_false,aF,bX (by rintro rfl;exact h rfl)]
theorem yN {c d:Bool} {o:Option Bool} (h:c=true→o=some d):(bif !c then some false else o)=some (c&&d):=by cases c with|false=>rfl|true=>exact h rfl
theorem aEk {a b:List Int} (h:bI a):iY a b=some (decide (a=b)):=by
 unfold bI at h;exact aDb (body:=iU a b) (by omega) rfl
theorem aDc {d:Bool} :(bif !d then some false else some true)=some d:=by cases d <;> rfl
theorem aFJ {a b:Qv} (h:bQ a):hR a b=some (decide (a=b)):=by
 unfold hR;rw [yN (d:=decide (a.src=b.src)&&decide (a.tgt=b.tgt)) (λ_=>?_)]
 ·cases a;cases b;simp [Bool.and_assoc]
 ·rw [aEk h.1,aB];refine yN λ_=>?_;rw [aEk h.2.1,aB,aDc]
end
noncomputable section
open Go.ChangeShapes Go.WideShapes Go.ChangeAt Go.RowKit
theorem oI:lO Tryd.prog 3 (oE 1 eI):=aAA Tryd.underlying3
theorem oL:lO Tryd.prog 22 (oE 1 eL):=wK Tryd.underlying22 (by decide) (by kernel_rfl) oI
theorem oQ:lO Tryd.prog 24 (oE 3 eQ):=by
 intro H enc w fuel cs d ps h hf;obtain ⟨x0,T0,u0⟩:=pT Tryd.underlying24 h hf aCV (i:=0) (ft:=3) rfl (k:=1) (by kernel_rfl) oI;obtain ⟨x1,T1,u1⟩:=pT Tryd.underlying24 h hf u0 (i:=1) (ft:=22) rfl (k:=1) (by kernel_rfl) oL;obtain ⟨x2,T2,u2⟩:=pT Tryd.underlying24 h hf u1 (i:=2) (ft:=22) rfl (k:=1) (by kernel_rfl) oL;exact ⟨⟨x0,x1,x2⟩,_,aCW Tryd.underlying24 h hf u2 (by kernel_rfl) _ rfl⟩
end
noncomputable section
theorem aAq {w:World} : ∀ {ds:List AV} {vs:List Value} {S:List Nat},RepVs w ds vs S→ ∀ d∈ds,∃ v S',RepD w d v S'
 | [],_,_,_,d,hd=>by cases hd
 |c::cs,vs,S,h,d,hd=>by
  simp only [RepVs] at h;obtain ⟨v,r,S1,S2,_,_,h3,h4⟩:=h;rcases cP.1 hd with rfl|h'
  ·exact ⟨v,S1,h3⟩
  ·exact aAq h4 d h'
theorem aAr {w:World} {b:Nat} : ∀ {ds:List AV} {o:Nat} {S:List Nat},RepCs w b o ds S→ ∀ d∈ds,∃ v S',RepD w d v S'
 | [],_,_,_,d,hd=>by cases hd
 |c::cs,o,S,h,d,hd=>by
  simp only [RepCs] at h;obtain ⟨v,S1,S2,_,_,_,_,h3,h4⟩:=h;rcases cP.1 hd with rfl|h'
  ·exact ⟨v,S1,h3⟩
  ·exact aAr h4 d h'
theorem aAs {w:World} {k b:Nat} : ∀ {es:List (List AV)} {o:Nat} {S:List Nat},RepEs w k b o es S→ ∀ cs∈es,∀ d∈cs,∃ v S',RepD w d v S'
 | [],_,_,_,cs,hc=>by cases hc
 |c::es,o,S,h,cs,hc=>by
  simp only [RepEs] at h;obtain ⟨S1,S2,_,_,h3,h4⟩:=h;rcases cP.1 hc with rfl|h'
  ·exact aAr h3
  ·exact aAs h4 cs h'
theorem aDd {w:World} {k:Nat} {es:List (List AV)} {v:Value} {S:List Nat} (h:RepD w (.list k es) v S):es.length≤9223372036854775807∧ ∀ cs∈es,∀ d∈cs,∃ v S',RepD w d v S':=by
 unfold RepD at h;obtain ⟨a,c,_,h2,h3,h4⟩:=h;have hm:maxLen≤9223372036854775807:=by decide
 refine ⟨by omega,?_⟩;rcases h4 with ⟨rfl,_⟩|⟨b,o,T,_,_,_,h5⟩
 ·intro cs hcs;cases hcs
 ·exact aAs h5
theorem aEl {w:World} {l:List Int} {v:Value} {S:List Nat} (h:RepD w (aCH l) v S):fI l:=by
 have:=(aDd (k:=1) (es:=List.map eI l) h).1
 rwa [fD] at this
theorem aCn {w:World} {ds:List AV} (h: ∀ d∈ds,∃ v S',RepD w d v S') {l:List Int} (hl:aCH l∈ds):fI l:=by
 obtain ⟨v,S,h⟩:=h _ hl;exact aEl h
theorem aEm {w:World} {q:Qv} (h: ∀ d∈eQ q,∃ v S',RepD w d v S'):fQ q:=⟨aCn h (by simp [eQ]),aCn h (by simp [eQ])⟩
theorem aCo {w0 w:World} {v:Value} {S:List Nat} (h:xQ w (.bl true) v S):Ending.returned v= .returned (.bool true):=by rw [h.1]
end
noncomputable section
set_option maxRecDepth 100000
def aBX:Nat→(Nat→Int)→Int
 |0,_=>0
 |n+1,f=>aBX n f+f n
def wO (k:Nat) (row:List Int):List Int:=row.take k++row.drop (k+1)
def sgK (k:Nat):Int:=if Nat.beq (k % 2) 0 then 1 else -1
def uF (det:List (List Int)→Int) (r0:List Int) (rest:List (List Int)):Nat→Int
 |0=>0
 |k+1=>wr (uF det r0 rest k+wr (wr (sgK k*r0[k]?.getD 0)*det (rest.map (wO k))))
def kS:Nat→List (List Int)→Int
 |0,_=>0
 |_+1,[]=>1
 |d+1,r0::rest=>uF (kS d) r0 rest r0.length
def lJ (s v:Nat):Bool:=Nat.beq (s / 2 ^ v % 2) 1
def fX (n s:Nat):List Nat:=(List.range n).filter (lJ s)
def gT (n:Nat) (T:List (List Int)) (s:Nat):List (List Int):=(fX n s).map λv=>(fX n s).map λw=>aCQ T v w
end
noncomputable section
def gx (x:List Int) (i:Nat):Int:=x[i]?.getD 0
theorem wP {x:List Int} {i:Nat} (h:i<x.length):gx x i∈x:=by
 unfold gx;rw [nN h];exact List.getElem_mem h
theorem vI {α:Type} [DecidableEq α]: ∀ {l m:List α},l.Nodup→(∀ x∈l,x∈m)→l.length≤m.length
 | [],m,_,_=>Nat.zero_le _
 |a::l,m,hn,hs=>by
  have h1:=hs a (by simp);have hn':=List.nodup_cons.1 hn;have h2:=vI (l:=l) (m:=m.erase a) hn'.2 λx hx=>(List.mem_erase_of_ne (by rintro rfl;exact hn'.1 hx)).2 (hs x (by simp [hx]));have h3:=List.length_erase_of_mem h1;have h4:=List.length_pos_of_mem h1;simp only [List.length_cons];omega
theorem vJ {x:List Int} {i:Nat} (h:i<x.length):cR x (i:Int)=some (gx x i):=by rw [atG 0 h];rfl
end
noncomputable section
theorem rN {c d:Bool} {o:Option Bool} (h:c=true→o=some d):(bif c then o else some false)=some (c&&d):=by cases c with|false=>rfl|true=>exact h rfl
theorem mM {c d:Bool} :(bif c then some d else some false)=some (c&&d):=by cases c <;> rfl
theorem aAt {x a b:Int} :(bif decide (a≤x) then some (decide (x≤b)) else some false)=some (pJ x a b):=by
 rw [mM];unfold pJ;by_cases h1:a≤x <;> by_cases h2:x≤b <;> simp [h1,h2]
theorem yO (x a b:Int):iX x a b=some (pJ x a b):=aAt
theorem tE (x a b:Int):iE x a b=some (pJ x a b):=aAt
theorem yP {v:List Int} {f:Int→Option Bool} (P:Int→Bool) (hf: ∀ x,f x=some (P x)) (h:bI v): ∃ i:Int,cN v f=some i∧decide (0≤i)=v.any P:=by
 unfold bI at h;unfold cN;rw [vB (s0:=0) (s:=0) (n:=v.length) (λk=>bif P (v[k]?.getD 0) then some (k:Int) else none) rfl (by omega) (Nat.zero_le _) (λk _ hk=>?_) (λ_=>?_)]
 ·rw [aB];cases e:(List.range' 0 (v.length - 0)).findSome? (λk:Nat=>bif P (v[k]?.getD 0) then some (k:Int) else none) with
  |none=>
   refine ⟨-1,rfl,?_⟩;rw [List.findSome?_eq_none_iff] at e
   have:v.any P=false:=by
    rw [List.any_eq_false];intro x hx;obtain ⟨k,hk,rfl⟩:=List.mem_iff_getElem.1 hx;have:=e k (by simp;omega);simp only [nN hk,jR] at this;cases hp:P v[k] with
    |false=>simp
    |true=>rw [hp] at this;cases this
   rw [this];rfl
  |some i=>
   refine ⟨i,rfl,?_⟩;obtain ⟨k,hk,he⟩:=List.exists_of_findSome?_eq_some e;simp at hk;have hkl:k<v.length:=by omega
   rw [nN hkl] at he;simp only [jR] at he;cases hp:P v[k] with
   |false=>rw [hp] at he;cases he
   |true=>
    rw [hp] at he;cases he;rw [aS (by omega),eq_comm,List.any_eq_true];exact ⟨_,List.getElem_mem hkl,hp⟩
 ·unfold cC;rw [mE hk,aF,atG 0 hk,aB,hf,aB];cases P _ <;> rfl
 ·unfold cC;rw [lW (bU _),aJ]
theorem qR {v:List Int} (h:bI v) (a b:Int):fF v a b=some (v.all λx=>pJ x a b):=by
 unfold fF dB;obtain ⟨i,h1,h2⟩:=yP (f:=λb0=>dX b0 a b) (λx=> !pJ x a b) (λx=>by simp only [dX];rw [yO,aB]) h;rw [h1,aB,aB,h2,List.not_any_eq_all_not];simp
def aEn (p:Int) (m:Mt):Bool:=pJ m.rows 0 8&&(pJ m.cols 0 8&&(decide ((m.cells.length:Int)=wr (m.rows*m.cols))&&(isF p&&decide (m.cells.length≤64)&&m.cells.all λx=>pJ x 0 (wr (p - 1)))))
theorem aEI {p:Int} {m:Mt} (h:aEn p m=true):isF p=true∧ ∃ (r c:Nat) (F:Nat→Nat→Int),r≤8∧c≤8∧m=⟨r,c,aCO r c F⟩∧ ∀ i j,i<r→j<c→0≤F i j∧F i j<p:=by
 unfold aEn at h;simp only [bY,lX,List.all_eq_true] at h;obtain ⟨h1,h2,h3,⟨h4,h5⟩,h6⟩:=h;have h1:=kP h1;have h2:=kP h2;refine ⟨h4,m.rows.toNat,m.cols.toNat,λi j=>m.cells[i*m.cols.toNat+j]?.getD 0,by omega,by omega,?_,?_⟩
 ·obtain ⟨a,b,l⟩:=m;simp only at*;obtain ⟨r,rfl⟩:=Int.eq_ofNat_of_zero_le h1.1;obtain ⟨c,rfl⟩:=Int.eq_ofNat_of_zero_le h2.1;have hb:r*c≤64:=Nat.mul_le_mul (by omega:r≤8) (by omega:c≤8);rw [aFE (by omega)] at h3;simp only [fR];rw [←aDO (by omega)]
 ·intro i j hi hj;show 0≤m.cells[i*m.cols.toNat+j]?.getD 0∧m.cells[i*m.cols.toNat+j]?.getD 0<p;have hx:=aEV hi hj
  have e:((m.rows.toNat*m.cols.toNat:Nat):Int)=m.rows*m.cols:=by
   rw [Int.natCast_mul,Int.toNat_of_nonneg h1.1,Int.toNat_of_nonneg h2.1]
  have hb:m.rows.toNat*m.cols.toNat≤64:=Nat.mul_le_mul (by omega:m.rows.toNat≤8) (by omega:m.cols.toNat≤8);rw [eT (by omega)] at h3;have hl:i*m.cols.toNat+j<m.cells.length:=by omega
  have:=kP (h6 _ (List.getElem_mem hl));rw [nN hl,jR];have hp:=aDy h4;rw [eT (by omega)] at this;omega
def nT (q:Qv):Bool:=pJ q.n 1 5&&(decide ((q.src.length:Int)=(q.tgt.length:Int))&&(decide ((q.src.length:Int)≤6)&&((q.src.all λx=>pJ x 0 (wr (q.n - 1)))&&(q.tgt.all λx=>pJ x 0 (wr (q.n - 1))))))
theorem kA {q:Qv} (h:bQ q):cB q=some (nT q):=by
 unfold cB nT;rw [yO,aB];refine rN λ_=>rN λ_=>rN λ_=>?_;rw [qR h.1,aB];refine rN λ_=>?_;rw [qR h.2.1,aB]
theorem hU {q:Qv} (h:bQ q):bO q=some (nT q):=by
 obtain ⟨h1,h2,_⟩:=h;unfold bI at h1 h2;unfold bO;rw [wF (n:=min q.src.length q.tgt.length) (λk=>pJ (q.src[k]?.getD 0) 0 (wr (q.n - 1))&&pJ (q.tgt[k]?.getD 0) 0 (wr (q.n - 1))) false (by omega) (λk hk=>?_) (λ_=>?_)]
 ·rw [aB];unfold nT;by_cases e:q.src.length=q.tgt.length
  ·have e2:min q.src.length q.tgt.length=q.src.length:=by omega
   have hall:(List.range q.src.length).all (λk=>pJ (q.src[k]?.getD 0) 0 (wr (q.n - 1))&&pJ (q.tgt[k]?.getD 0) 0 (wr (q.n - 1)))=((q.src.all λx=>pJ x 0 (wr (q.n - 1)))&&(q.tgt.all λx=>pJ x 0 (wr (q.n - 1)))):=by
    rw [←vC 0 q.src,←vC 0 q.tgt,←e];rw [Bool.eq_iff_iff,bY,nB,nB,nB];simp only [bY];exact ⟨λh=>⟨λk hk=>(h k hk).1,λk hk=>(h k hk).2⟩,λh k hk=>⟨h.1 k hk,h.2 k hk⟩⟩
   rw [e2,hall,aS (by omega:(q.src.length:Int)=(q.tgt.length:Int))];cases (q.src.all λx=>pJ x 0 (wr (q.n - 1)))&&(q.tgt.all λx=>pJ x 0 (wr (q.n - 1))) with
   |false=>simp
   |true=>
    simp only [aF,Sum.elim_inl];rw [tE,aB,aS (by omega:(q.tgt.length:Int)=(q.src.length:Int)),mM,mM];simp
  ·rw [bX (by omega: ¬ (q.src.length:Int)=(q.tgt.length:Int))];simp only [Bool.false_and,Bool.and_false];cases (List.range (min q.src.length q.tgt.length)).all _ with
   |false=>rfl
   |true=>
    simp only [aF,Sum.elim_inl];rw [tE,aB,bX (by omega: ¬ (q.tgt.length:Int)=(q.src.length:Int)),mM,mM];simp
 ·unfold fM;rw [mE (by omega),aF,mE (by omega),aF,atG 0 (by omega),aB,tE,aB,atG 0 (by omega),aB,tE,aB];cases pJ (q.src[k]?.getD 0) 0 (wr (q.n - 1)) <;> cases pJ (q.tgt[k]?.getD 0) 0 (wr (q.n - 1)) <;> rfl
 ·unfold fM;by_cases e:q.src.length≤q.tgt.length
  ·rw [lW (by omega),aJ]
  ·rw [mE (by omega),aF,lW (by omega),aJ]
theorem yQ {q:Qv} (h:nT q=true): ∃ n:Nat,q.n=n∧1≤n∧n≤5∧q.src.length=q.tgt.length∧q.src.length≤6∧(∀ x∈q.src,0≤x∧x<n)∧ ∀ x∈q.tgt,0≤x∧x<n:=by
 unfold nT at h;simp only [bY,lX,List.all_eq_true] at h;obtain ⟨h1,h2,h3,h4,h5⟩:=h;have h1:=kP h1;rw [eT (by omega)] at h4 h5;refine ⟨q.n.toNat,by omega,by omega,by omega,by omega,by omega,λx hx=>?_,λx hx=>?_⟩
 ·have:=kP (h4 x hx);omega
 ·have:=kP (h5 x hx);omega
end
noncomputable section
set_option maxRecDepth 10000
end
end Go.Proofs.YtpppcfhgaehcjaaDoor

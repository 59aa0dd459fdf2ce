/- Several texts. -/
import Derived.RangeFuncSeq
import Derived.Test.YtgkfbfiiaphgoaaGreatM9
set_option linter.unusedVariables false
set_option linter.unusedSimpArgs false
namespace Go.Proofs.YtgkfbfiiaphgoaaGreat
open Go.RowKit
section
theorem aXX {C:Ctx} {s:AState} {ν:Nu} {a:Act} {w:World} (hs:Sim C s ν a w) {hl:List (Nat×Blk)} {kp:Nat} {σ:Nat->Option Nat} {touch news:List Nat} {dst:Option Tmp} (hd: ∀ d,dst=some d->d<C.nt) (hnw: ∀ b∈news,s.used b=false)
  (hh:tR σ kp s.heap hl) (hi:aDZ σ hl=true) (hit:aAa σ touch hl=true) (hlive:(touch.all λb=>(s.heap b).isSome)=true):
  ∃ (M:Nat->Prop) (φ0:Nat->List Nat),(∀ x,M x->C.M x)/\(∀ x,w.heap.size<=x->M x)/\HeapOk M w (hJ hl) (uF kp) (nG σ ν) φ0/\(∀ x,tF s.heap ν x->tF (hJ hl) (nG σ ν) x)/\
   ∀ (w':World) (v:Value) (u1:Us) (ν1:Nu) (φ1:Nat->List Nat) (hl' hl2:List (Nat×Blk)) (n':Nat) (r r2:AV) (σ':Nat->Option Nat) (ed:List (Nat×Option Blk)),Below C.B w w'->Ext w (hJ hl) (uF kp) (nG σ ν) w' (hJ hl') u1 ν1->HeapOk M w' (hJ hl') u1 ν1 φ1->RepA w' (hJ hl') u1 ν1 r v->
    tR σ' n' (hJ hl') hl2->aDZ σ' hl2=true->tG σ' n' r r2->aDh σ σ' kp news hl2=true->aLW (touch++news) hl2->aOD (touch++news) r2=true->yP (touch++news) hl2=ed->
    ∃ ν',Sim C (s.app dst ⟨r2,touch,ed,news⟩) ν' (a.put dst v) w'/\Ext w s.heap s.used ν w' (bF ed s.heap) (gB news s.used) ν':=by
 obtain ⟨φ,hφ⟩:=hs.heap;let h3:Hp:=λb=>if b∈touch then s.heap b else none
 have sub: ∀ b blk,h3 b=some blk->s.heap b=some blk/\b∈touch:=by
  intro b blk hb;by_cases e:b∈touch
  ·simp only [h3,bD e] at hb;exact ⟨hb,e⟩
  ·simp only [h3,bB e] at hb;cases hb
 let M2:Nat->Prop:=λx=>(∃ b,b∈touch/\s.heap b≠none/\x∈φ b)∨w.heap.size<=x
 have hM2: ∀ x,M2 x->C.M x:=by
  rintro x (⟨b,_,hb,hx⟩|hx)
  ·obtain ⟨blk,hb⟩:=Option.ne_none_iff_exists'.1 hb;exact (hφ.blk b blk hb).2.2.2 x hx
  ·exact hs.fresh x hx
 have hk3:HeapOk M2 w h3 s.used ν φ:=hφ.shrink (λb blk hb=>(sub b blk hb).1) (λb x hb hx _=>by
  obtain ⟨blk,hb⟩:=Option.ne_none_iff_exists'.1 hb;obtain ⟨e1,e2⟩:=sub b blk hb
  exact .inl ⟨b,e2,by rw [e1];simp,hx⟩)
 have hent:tR σ kp h3 hl:=aAz (h:=s.heap) (touch:=touch) (λb hb=>by simp only [h3,bD hb]) hit hh;have cv1:=aEQ (w:=w) (u:=s.used) (ν:=ν) hent hi;have hk4:=cv1.heap hk3;have shr3:Ext w s.heap s.used ν w h3 s.used ν:=(Ext.refl _ _ _ _).shrink (λb blk hb=>(sub b blk hb).1);refine ⟨M2,_,hM2,λx hx=> .inr hx,hk4,λx hf=>cv1.free x λb blk β c hb hν=>hf b blk β c (sub b blk hb).1 hν,?_⟩;intro w' v u1 ν1 φ1 hl' hl2 n' r r2 σ' ed hbel hext hh1 hrep hh' hi' hr hbk htl htr he;have cv2:=aEQ (w:=w') (u:=u1) (ν:=ν1) hh' hi';have hh2:=cv2.heap hh1;generalize hrl:touch++news=rl at*;let ν':Nu:=⟨λb=>if b∈rl then nG σ' ν1 b else ν b,ν.ok⟩;have hν1: ∀ b,b∈rl->ν' b=nG σ' ν1 b:=λb hb=>bD hb;have hν2: ∀ b,b ∉ rl->ν' b=ν b:=λb hb=>bB hb;have hheq: ∀ b,bF ed s.heap b=if b∈rl then hJ hl2 b else s.heap b:=λb=>by rw [←he];exact aFn
 have hhe1: ∀ b,b∈rl->bF ed s.heap b=hJ hl2 b:=λb hb=>by rw [hheq,bD hb]
 have hhe2: ∀ b,b ∉ rl->bF ed s.heap b=s.heap b:=λb hb=>by rw [hheq,bB hb]
 have hused: ∀ b,b∈rl->gB news s.used b=true:=by
  intro b hb;rw [←hrl] at hb;rw [jD];rcases eH.1 hb with h|h
  ·have h5:=List.all_eq_true.1 hlive b h;cases hq:s.heap b with
   |none=>rw [hq] at h5;cases h5
   |some blk=>rw [(hφ.blk b blk hq).1,Bool.or_true]
  ·have:news.contains b=true:=by simpa using h
   rw [this,Bool.true_or]
 have hfree3: ∀ x,tF s.heap ν x->tF (hJ hl) (nG σ ν) x:=λx hf=>cv1.free x λb blk β c hb hν=>hf b blk β c (sub b blk hb).1 hν
 have extc:Ext w s.heap s.used ν w' (bF ed s.heap) (gB news s.used) ν':=by
  refine ⟨λb hb=>by rw [jD,hb,Bool.or_true],λb blk' hu hb=>?_,λx hx hfr=>?_,rfl⟩
  ·by_cases e:b∈rl
   ·rw [hhe1 b e] at hb;obtain ⟨i,e1,e2⟩:=aER hbk (oQ hb);obtain ⟨x,f1,f2,f3⟩:=(cv2.look b blk' hb).1 i e1;rcases e2 with e2|⟨e2,e3⟩
    ·rw [hnw b e2] at hu;cases hu
    ·obtain ⟨blk0,g1,g2,g3,g4⟩:=hext.old i x e2 f1;obtain ⟨z,k1,k2,k3⟩:=(cv1.look i blk0 g1).1 b e3;refine ⟨z,(sub b z k1).1,k2.trans (g2.trans f2),k3.trans (g3.trans f3),?_⟩;rw [hν1 b e];simp only [nG,e1];rw [g4];simp only [nG,e3]
   ·rw [hhe2 b e] at hb;exact ⟨blk',hb,rfl,rfl,hν2 b e⟩
  ·obtain ⟨p1,p2⟩:=hext.free x hx (hfree3 x hfr);refine ⟨p1,λb blk β c hb hν=>?_⟩;by_cases e:b∈rl
   ·rw [hhe1 b e] at hb;rw [hν1 b e] at hν;exact cv2.free x p2 b blk β c hb hν
   ·rw [hhe2 b e] at hb;rw [hν2 b e] at hν;exact hfr b blk β c hb hν
 have hout: ∀ b blk x,s.heap b=some blk->b ∉ rl->x∈φ b->w'.heap[x]? =w.heap[x]? :=by
  intro b blk x hb hbr hx;refine (hext.free x ((hφ.blk b blk hb).2.1.lt x hx) (cv1.free x λb2 blk2 β c hb2 hν2=>?_)).1;rintro rfl;obtain ⟨e1,e2⟩:=sub b2 blk2 hb2;have hne:b2≠b:=by rintro rfl;exact hbr (by rw [←hrl];exact List.mem_append_left _ e2)
  exact hφ.apart b2 b β (by rw [e1];simp) (by rw [hb];simp) hne (oW (hφ.blk b2 blk2 e1).2.1 hν2) hx
 have hcross: ∀ b c x,hJ hl2 b≠none->s.heap c≠none->c ∉ rl->x∈(match σ' b with|some b0=>φ1 b0|none=>[])->x ∉ φ c:=by
  intro b c x hb hc' hcr hx hx2;obtain ⟨y1,hy1⟩:=Option.ne_none_iff_exists'.1 hb;obtain ⟨y2,hy2⟩:=Option.ne_none_iff_exists'.1 hc';rcases (hh2.blk b y1 hy1).2.2.2 x hx with ⟨b2,e1,e2,e3⟩|e1
  ·have hne:b2≠c:=by rintro rfl;exact hcr (by rw [←hrl];exact List.mem_append_left _ e1)
   exact hφ.apart b2 c x e2 hc' hne e3 hx2
  ·have:=(hφ.blk c y2 hy2).2.1.lt x hx2;omega
 refine ⟨ν',hs.step hd (s':=s.app dst ⟨r2,touch,ed,news⟩) extc hbel ⟨λb=>if b∈rl then (match σ' b with|some b0=>φ1 b0|none=>[]) else φ b,?_,?_⟩ rfl ?_,extc⟩
 ·intro b blk' hb;replace hb:bF ed s.heap b=some blk':=hb;by_cases e:b∈rl
  ·rw [hhe1 b e] at hb;simp only [bD e];obtain ⟨_,g2,g3,g4⟩:=hh2.blk b blk' hb;exact ⟨hused b e,aHr (h1:=hJ hl2) (u1:=uF n') (ν1:=nG σ' ν1) hhe1 hν1 hused e g2 (aGn htl (oQ hb)).2,g3,λx hx=>hM2 x (g4 x hx)⟩
  ·rw [hhe2 b e] at hb;simp only [bB e];obtain ⟨g1,g2,g3,g4⟩:=hφ.blk b blk' hb;exact ⟨extc.used b g1,g2.ext extc (hν2 b e) (λx hx=>hout b blk' x hb e hx),g3,g4⟩
 ·intro b c x hb hc' hne hxb hxc;replace hb:bF ed s.heap b≠none:=hb;replace hc':bF ed s.heap c≠none:=hc';by_cases e1:b∈rl <;> by_cases e2:c∈rl
  ·simp only [bD e1] at hxb;simp only [bD e2] at hxc;rw [hhe1 b e1] at hb;rw [hhe1 c e2] at hc';exact hh2.apart b c x hb hc' hne hxb hxc
  ·simp only [bD e1] at hxb;simp only [bB e2] at hxc;rw [hhe1 b e1] at hb;rw [hhe2 c e2] at hc';exact hcross b c x hb hc' e2 hxb hxc
  ·simp only [bB e1] at hxb;simp only [bD e2] at hxc;rw [hhe2 b e1] at hb;rw [hhe1 c e2] at hc';exact hcross c b x hc' hb e1 hxc hxb
  ·simp only [bB e1] at hxb;simp only [bB e2] at hxc;rw [hhe2 b e1] at hb;rw [hhe2 c e2] at hc';exact hφ.apart b c x hb hc' hne hxb hxc
 ·exact aLY (h1:=hJ hl2) (u1:=uF n') (ν1:=nG σ' ν1) hhe1 hν1 hused (cv2.rep hrep hr) htr
theorem aCy {P:Program} {T:List (Nat×Ty)} (hT:TyOk P T) {dst:Option Tmp} {ty:TypeId} {pos:String} {aft:Array Edge} {g:Option (Nat×Bool)} {ins:Operand->Option AV} {hp:Hp} {κ:Kp} {x:Operand} {t:Nat} {y:Ty} {cs:List AV} {W:World} {G:Nat->Prop} {vb:Value} {S:List Nat}
  (hfx:κ.fx=some (W,G)) (hrep:RepD W (.ref cs) vb S) (hS: ∀ y∈S,G y) (hx:ins x=some (.sc vb)) (hy:dY T t=some y) (h1:(y.desc.isAgg||Nat.beq y.size 1)=true) (hn:y.size<=cs.length) (hpl:(cs.take y.size).all fI=true):
  AEff P ⟨dst,.load t x,ty,pos,aft,g⟩ ins hp κ ⟨aBL y.desc.isAgg (cs.take y.size),[],[],[]⟩:=by
 refine ⟨λC s ν a w Q K {hκ} hi' ht hnw hd hs hK=>?_⟩;have hp1:=hs.ev ((hi' x (by simp [Op.operands])).trans hx)
 have key:RepA w s.heap s.used ν (.ref cs) (a.eval x):=by
  simp only [RepA,RepB,Rep1] at hp1 ⊢;rw [hp1.1];exact ⟨S,hrep.keep λb hm=>(hs.stays hκ hfx (hS b hm)).1,λz hz=>(hs.stays hκ hfx (hS z hz)).2⟩
 have hrun: ∃ v,(execOp a.eval ⟨dst,.load t x,ty,pos,aft,g⟩).run P w= .ok (.value v) w/\RepA w s.heap s.used ν (aBL y.desc.isAgg (cs.take y.size)) v:=by
  clear hp1;simp only [RepA,RepB,Rep1,RepD] at key;obtain ⟨S,⟨b,o,S',h3,h4,rfl,h5⟩,h2⟩:=key;obtain ⟨us,g1,g2,g3,g4⟩:=h5.vals;obtain ⟨S2,g5,g6⟩:=g1.take y.size;obtain ⟨ii,z,d,hy'⟩:=hT.is hy;have hl:(us.take y.size).length=y.size:=by simp;omega
  have hr:=oP (P:=P) hy' (w:=w) (b:=b) (o:=o) (vs:=us.take y.size) hl (λhg=>by rw [hg] at h1;simpa using Nat.eq_of_beq_eq_true h1) (λm u hu=>by
   have hm:m<y.size:=by
    rcases dV m y.size with h'|h'
    ·exact h'
    ·rw [gS (by omega)] at hu;cases hu
   rw [List.getElem?_take_of_lt hm] at hu
   exact (g4 m u hu).1)
  refine ⟨_,by simp only [execOp,Instr.loadAt,h3,Instr.sureAddr,Sem.run_bind,Sem.run_pure,Result.andThen_ok];rw [hr];rfl,?_⟩;have e3:=g5.rep1 (u:=s.used) hpl (λy hy=>h2 y (by simp [g6 y hy]));cases hg:y.desc.isAgg with
  |true=>
   simp only [aBL,aJ,if_true,RepA,RepB];exact ⟨_,rfl,e3⟩
  |false=>
   rw [hg] at h1;have hs1:y.size=1:=Nat.eq_of_beq_eq_true (by simpa using h1);simp only [aBL,aY];revert e3 hl;generalize us.take y.size=vs;generalize cs.take y.size=ds;intro hl e3
   match ds,vs,e3 with
   | [],vs,e3=>simp only [All2] at e3;subst e3;simp [hs1] at hl
   |d::ds,vs,e3=>
    obtain ⟨v,r,rfl,e6,e7⟩:=e3;simp only [List.headD_cons,List.getElem?_cons_zero,kS];exact e6.repA
 obtain ⟨v,e1,e2⟩:=hrun;unfold Oper.wp;rw [e1];simp only [Oper.upon];exact hK ν _ w (hs.step hd (Ext.refl _ _ _ _) (Below.refl _ _) hs.heap rfl e2)
end
end Go.Proofs.YtgkfbfiiaphgoaaGreat

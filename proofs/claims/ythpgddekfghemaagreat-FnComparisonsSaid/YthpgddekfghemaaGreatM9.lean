/- Several texts. -/
import Derived.RangeFuncFrom
import Derived.Test.YthpgddekfghemaaGreatM8
set_option linter.unusedVariables false
set_option linter.unusedSimpArgs false
set_option linter.defProp false
set_option maxRecDepth 10000
namespace Go.Proofs.YthpgddekfghemaaGreat
open Go.RowKit
variable{wE:World}{w:World}{w':World}{hE:Hp}{h:Hp}{h':Hp}{u:Us}{u':Us}{νE:Nu}{ν:Nu}{ν':Nu}{n:Nat}{m:Nat}{M:Nat->Prop}{M':Nat->Prop}{φ:Nat->List Nat}{σ:Nat->Option Nat}{b:Nat}{c:Nat}{α:Type}{β:Type}{ρ:Type}{C:Ctx}{s:AState}{b':Nat}{blk:Blk}{blk':Blk}{v:Value}{ns:List Nat}{ns':List Nat}{l:List α}{o':Obj}{P:Program}{nt:Nat}{gid:FuncId}{most:aA}{Q:Exit->Act->World->Prop}{v':Value}{fn:Func}{ats:Array TypeId}{o:Oper}{d:Option Tmp}{ty:TypeId}{aft:Array Edge}{g:Option (Nat×Bool)}{x:Operand}{T:List (Nat×Ty)}{dst:Option Tmp}{y:Ty}{dty:TypeId}{i:Nat}{ds:List AV}{cs:List AV}{W:World}{vb:Value}{S:List Nat}
section
def Fl{α σ ρ:Type}(f:α->σ->Option (σ ⊕ ρ)):List α->σ->Option (σ ⊕ ρ)
 | [],s=>some (.inl s)
 |x::xs,s=>match f x s with
  |none=>none
  |some (.inl s')=>Fl f xs s'
  |some (.inr r)=>some (.inr r)
def fM:aA->aL
 | []=>[[]]
 |m::ms=>(List.range (m.toNat+1)).flatMap λ(i:Nat)=>(fM ms).map λx=>(i:Int)::x
def GF(n:Nat):aA:=List.replicate n 0
def lb(x:aA):Blk:=⟨1,x.map (ow eI)⟩
structure BoxIt(P:Program)(gid:FuncId)(most:aA):Prop where
 enters:Enters P gid
 calls:∀(okp:Nat->Prop)(w0:World)(l:Nat)(vb:Value)(S:List Nat)(X:World->Prop),RepD w0 (.ref [.list 1 (most.map eI)]) vb S->(∀x,w0.heap.size<=x->okp x)->(∀x∈S,okp x)->
  (∀(w1:World)(v:Value)(u1:Us)(ν1:Nu)(φ1:Nat->List Nat),Below w0.heap.size w0 w1->Ext w0 (iJ []) (yT 0) ⟨λ_=>none,okp⟩ w1 (iJ [(0,lb (GF most.length))]) u1 ν1->HeapOk (λx=>w0.heap.size<=x) w1 (iJ [(0,lb (GF most.length))]) u1 ν1 φ1->RepA w1 (iJ [(0,lb (GF most.length))]) u1 ν1 (.own 0 0 most.length) v->
   ∃(I I':Nat->World->Prop),I 0 w1/\
    (∀k w,k<(fM most).length->I k w->YieldAt (fw none) 0 P l #[v] w (λe w'=>(e= .returned (.bool true)/\I' k w')∨(e= .returned (.bool false)/\X w')))/\
    (∀k x w,(fM most)[k]? =some x->I' k w->∃(M:Nat->Prop)(ν:Nu)(φ:Nat->List Nat),w1.heap.size<=w.heap.size/\(∀y,w.heap.size<=y->M y)/\HeapOk M w (iJ [(0,lb x)]) (yT 1) ν φ/\ν 0=ν1 0/\(∀y∈S,w.heap[y]? =w1.heap[y]?)/\(∀y,M y->ν.ok y)/\(∀y∈S,ν.ok y)/\
     ∀(x':aA)(w':World)(u':Us)(ν':Nu)(φ':Nat->List Nat),Below w0.heap.size w w'->Ext w (iJ [(0,lb x)]) (yT 1) ν w' (iJ [(0,lb x')]) u' ν'->HeapOk M w' (iJ [(0,lb x')]) u' ν' φ'->
      (∀z,(fM most)[k+1]? =some z->x'=z->I (k+1) w')/\((fM most)[k+1]? =none->X w')))->
  Calls P gid #[.func (.yield l) #[] #[],vb] w0 (λe w'=>∃v,e= .returned v/\X w')
def ExtF.trans2{F}(a:ExtF F wE hE (λb=>Nat.blt b n) νE w h u ν)(b:ExtF (wS h ν) w h (λb=>Nat.blt b m) ν w' h' u' ν')(hnm:n<=m):ExtF F wE hE (λb=>Nat.blt b n) νE w' h' u' ν':=by
 have hlt:∀x,Nat.blt x n=true->Nat.blt x m=true:=λx hx=>by simp only[Nat.blt_eq]at hx ⊢;omega
 refine⟨λx hx=>b.used x (hlt x hx),λx blk2 hx h=>?_,λx hx hf=>?_,b.okE.trans a.okE⟩
 .obtain⟨blk1,e1,e2,e3,e4⟩:=b.old x blk2 (hlt x hx) h;obtain⟨blk0,f1,f2,f3,f4⟩:=a.old x blk1 hx e1;exact⟨blk0,f1,f2.trans e2,f3.trans e3,e4.trans f4⟩
 .obtain⟨e1,e2⟩:=a.free x hx hf;obtain⟨f1,f2⟩:=b.free x (Dz hx e1) e2;exact⟨f1.trans e1,f2⟩
def ExtF.around{F l o oR}(a:ExtF F wE hE (λb=>Nat.blt b n) νE w h u ν)(b:ExtF (wS h ν) (w.putObj l o) h (λb=>Nat.blt b n) ν w' h' u' ν')(h0:w.heap[l]? =some oR)(h1:l<w'.heap.size):ExtF F wE hE (λb=>Nat.blt b n) νE (w'.putObj l oR) h' u' ν':=by
 refine⟨λx hx=>b.used x hx,λx blk2 hx h=>?_,λx hx hf=>?_,b.okE.trans a.okE⟩
 .obtain⟨blk1,e1,e2,e3,e4⟩:=b.old x blk2 hx h;obtain⟨blk0,f1,f2,f3,f4⟩:=a.old x blk1 hx e1;exact⟨blk0,f1,f2.trans e2,f3.trans e3,e4.trans f4⟩
 .obtain⟨e1,e2⟩:=a.free x hx hf;have hx1:=Dz hx e1;obtain⟨f1,f2⟩:=b.free x (by simpa using hx1) e2;refine⟨?_,f2⟩;by_cases e:x=l
  .subst e;rw[World.putObj_heap_same h1,←e1,h0]
  .rw[World.putObj_heap_other e,f1,World.putObj_heap_other e,e1]
def HeapOk.wider(r:HeapOk M w h u ν φ)(hM:∀b blk x,h b=some blk->x∈φ b->M x->M' x):HeapOk M' w h u ν φ:=
 ⟨λb blk hb=>by obtain⟨g1,g2,g3,g4⟩:=r.blk b blk hb;exact⟨g1,g2,g3,λx hx=>hM b blk x hb hx (g4 x hx)⟩,r.apart⟩
def Jm(b):Nat.blt b (b+1)=true:=by simp[Nat.blt_eq]
def SA(b):Nat.blt b b=false:=by
 cases h:Nat.blt b b with
 |false=>rfl
 |true=>rw[Nat.blt_eq]at h;omega
def De(x:aA):DW (x.map (ow eI)):=λcs hcs c hc=>by
 obtain⟨z,_,rfl⟩:=List.mem_map.1 hcs;simp only[ow,eI,List.map_cons,List.map_nil,List.mem_singleton]at hc;subst hc;rfl
def QK{x}(hσ:σ b=some c)(hc:h c=some (lb x))(hb:Nat.blt b n=true):rL σ n h [(b,lb x)]:=by
 refine⟨?_,hb,trivial⟩;rw[hσ];exact⟨lb x,hc,rfl,.inl ⟨rfl,De x⟩⟩
def SB(b)(rl)(h:rl.contains b=true)(x):My rl [(b,lb x)]:=⟨h,cI.tame rl x,trivial⟩
def Gw(b c):sg [(b,c)] b=some c:=by simp[sg]
def LpF{σ ρ:Type}:Nat->(σ->Option (σ ⊕ ρ))->σ->Option ρ
 |0,_,_=>none
 |n+1,body,s=>match body s with
  |none=>none
  |some (.inl s')=>LpF n body s'
  |some (.inr r)=>some r
def Le{α:Type}(a b:Option α):Prop:=∀r,a=some r->b=some r
def Le.rfl{a:Option α}:Le a a:=λ_ h=>h
def Le.none{b:Option α}:Le Option.none b:=λ_ h=>by cases h
def Le.bind{a b}{f g:α->Option β}(h:Le a b)(k:∀x,Le (f x) (g x)):Le (a.bind f) (b.bind g):=λr e=>by
 obtain⟨x,h1,h2⟩:=ob e;rw[h x h1];exact k x r h2
def Le.elim{γ:Type}{f f':α->Option γ}{g g':β->Option γ}{x:α ⊕ β}(h:∀a,Le (f a) (f' a))(k:∀b,Le (g b) (g' b)):Le (Sum.elim f g x) (Sum.elim f' g' x):=by
 cases x with
 |inl a=>exact h a
 |inr b=>exact k b
def Le.lp{σ:Type}{f g:σ->Option (σ ⊕ ρ)}(h:∀s,Le (f s) (g s)):∀{n s},Le (LpF n f s) (Lp g s)
 |0,s=>Le.none
 |n+1,s=>λr e=>by
  simp only[LpF]at e;cases hb:f s with
  |none=>rw[hb]at e;cases e
  |some x=>
   rw[hb]at e;cases x with
   |inl s'=>rw[Bg (h s _ hb)];exact Le.lp h r e
   |inr r'=>cases e;exact oG (h s _ hb)
def Le.fl{σ:Type}{f g:α->σ->Option (σ ⊕ ρ)}(h:∀a s,Le (f a s) (g a s)):∀(l:List α)(s:σ),Le (Fl f l s) (Fl g l s)
 | [],s=>Le.rfl
 |x::xs,s=>λr e=>by
  simp only[Fl]at e ⊢;cases hb:f x s with
  |none=>rw[hb]at e;cases e
  |some y=>
   rw[hb]at e;rw[h x s _ hb];cases y with
   |inl s'=>exact Le.fl h xs s' r e
   |inr r'=>exact e
def QL:Exit->Bool
 | .ret=>true
 | .exit _=>true
 |_=>false
def Ke:Exit->Code
 | .ret=>.ret
 | .exit id=>.exit id
 |_=>.skip
def Xm(t bL n:Nat)(E:List (Nat×AV))(H:List (Nat×Blk))(N:Nat)(ns:List Nat)(kp:Kp)(x:aA):AState:=Mj ((t,.own bL 0 n)::E) ((bL,lb x)::H) N ns kp
def YT(bL:Nat)(κ:Kp):Kp:=⟨bL+1,false,none,false⟩
def Sim.putL{a l r o}(hs:Sim C s ν a w)(hl:w.heap[l]? =some (.loop r))(h1:C.wE.heap.size<=l)(h2:C.B<=l):Sim C s ν a (w.putObj l o):=by
 refine hs.turn (He hl rfl) (Hd hs.below h2) (λx hx=>World.putObj_heap_other (by omega)) rfl ?_;obtain⟨Ds,q1,q2,q3⟩:=hs.defers;refine⟨Ds,q1,q2,λD hD=>?_⟩;obtain⟨p1,p2,p3⟩:=q3 D hD;exact⟨p1,p2,(World.putObj_heap_other (by rintro rfl;rw[hl]at p3;cases p3)).trans p3⟩
def aAJ(hh:HeapOk M w h u ν φ){z o}(hz:w.heap[z]? =some o)(hc:o.isCells=false):wS h ν z:=by
 rintro b blk β c hb hν rfl;obtain⟨_,g2,_,_⟩:=hh.blk b blk hb;rcases g2.2 with ⟨q1,_⟩|⟨β',c',arr,ty,T,vs,q1,q2,_⟩
 .rw[hν]at q1;cases q1
 .rw[hν]at q1;cases q1;rw[hz]at q2;cases q2;cases hc
def aBx(r:Rep1 w h u ν (.own b 0 n) v)(r':Rep1 w' h' u' ν' (.own b' 0 n) v)(hb:h b=some blk)(hb':h' b'=some blk'):ν b=ν' b':=by
 simp only[Rep1]at r r';obtain⟨_,p2,p3⟩:=r.2 blk hb;obtain⟨_,q2,q3⟩:=r'.2 blk' hb';cases h1:ν b with
 |none=>
  cases h2:ν' b' with
  |none=>rfl
  |some p=>
   have e1:=p2 h1;have e2:=(q3 p.1 p.2 h2).zero;rw[e1]at e2;cases e2
 |some p=>
  obtain⟨β,c⟩:=p;have e1:=(p3 β c h1).zero;cases h2:ν' b' with
  |none=>have e2:=q2 h2;rw[e1]at e2;cases e2
  |some p'=>
   obtain⟨β',c'⟩:=p';have e2:=(q3 β' c' h2).zero;rw[e1]at e2;cases e2;rfl
def Sim.shrink{e g kp a}(hs:Sim C ⟨e,h,u,ns,kp⟩ ν a w)(hg:∀b blk,g b=some blk->h b=some blk):Sim C ⟨e,g,u,ns',kp⟩ ν a w:=by
 have shr:=(Ext.refl w h u ν).shrink hg;obtain⟨φ,hφ⟩:=hs.heap;exact⟨hs.below,hs.base,hs.fresh,hs.defers,hs.size,λt x hx=>by obtain⟨v,h1,h2⟩:=hs.env t x hx;exact⟨v,h1,RepA.ext shr h2⟩,⟨φ,hφ.shrink hg λ_ _ _ _ h=>h⟩,hs.kp,⟨hs.ext.used,λb blk hb hgb=>hs.ext.old b blk hb (hg b blk hgb),λx hx hf=>⟨(hs.ext.free x hx hf).1,λb blk β c hb hν=>(hs.ext.free x hx hf).2 b blk β c (hg b blk hb) hν⟩,hs.ext.okE⟩,hs.szE,hs.okM,hs.okF⟩
def Jn{k x}(h:l[k]? =some x):l.drop k=x::l.drop (k+1):=by
 obtain⟨h1,h2⟩:=List.getElem?_eq_some_iff.1 h;rw[←h2];exact List.drop_eq_getElem_cons h1
def Cw:∀most:aA,(fM most)[0]? =some (GF most.length)
 | []=>rfl
 |m::ms=>by
  have ih:=Cw ms;simp only[fM];rw[List.range_succ_eq_map];simp only[List.flatMap_cons]
  rw[List.getElem?_append_left (by
   rw[eD];rcases eG 0 (fM ms).length with h|h
   .exact h
   .rw[iM h]at ih;cases ih)]
  rw[List.getElem?_map,ih];simp[GF,List.replicate_succ]
def QM{l o}:(w.putObj l o).putObj l o'=w.putObj l o':=by simp[World.putObj]
def SC{g t assign body Q}{σ ρ:Type}(f)(y)(σ0)(E)(H0)(bL)(ns0)(H:σ->List (Nat×Blk))(N)(ns)(Xr:ρ->Exit->AState->Prop)(hit:BoxIt P gid most)(hy:Fl f (fM most) σ0=some y)(hrd:s.kp.rd0=true)(htn:Nat.blt t nt=true)(hEt:uD E t=none)(hHb:∀σ,iJ (H σ) bL=none)(e0:Ent s (Mj E H0 bL ns0 s.kp))(hg:(Mj E H0 bL ns0 s.kp).ev g=some (.fn gid [.ref [.list 1 (most.map eI)]]))(e1:Ent (Xm t bL most.length E H0 (bL+1) ns (YT bL s.kp) (GF most.length)) (Xm t bL most.length E (H σ0) N ns (YT bL s.kp) (GF most.length)))(hround:∀(σ1:σ)(x:aA)(y1:σ ⊕ ρ),x∈fM most->f x σ1=some y1->AC P nt assign (Xm t bL most.length E (H σ1) N ns (YT bL s.kp) x) (λe s1=>e= .normal/\AC P nt body s1 (λe' s'=>match (generalizing:=false) y1 with| .inl σ2=>e'= .normal/\Ent ⟨uD ((t,.own bL 0 most.length)::E),s'.heap,s'.used,s'.ns,s'.kp⟩ (Xm t bL most.length E (H σ2) N ns (YT bL s.kp) x)| .inr r=>QL e'=true/\Xr r e' s')))(hQ:match (generalizing:=false) y with| .inl σ2=>Q .normal (Mj E (H σ2) N ns s.kp)| .inr r=>∀e s',Xr r e s'->Q e ⟨uD E,s'.heap,s'.used,s'.ns,s.kp⟩):AC P nt (.rangeFunc g #[t] assign body) s Q:=by
 refine⟨λC hC ν a w hs n=>?_⟩;obtain⟨ν0,hs0⟩:=e0 C ν a w hs;have hrd0:C.rd=none:=C.rdp (by rw[←hs.kp];exact hrd);have hkp:C.kp=s.kp:=hs.kp.symm;have htn':t<nt:=by simpa [Nat.blt_eq]using htn
 have hgv:=hs0.ev hg;simp only[RepA,RepB]at hgv;obtain⟨vs,hfv,vb,q,rfl,hvb,hq⟩:=hgv;simp only[All2]at hq;subst hq;simp only[Rep1]at hvb;obtain⟨S,hvS,hvF⟩:=hvb;rw[hrd0];refine wpIn_rangeFunc λfn hfn=>?_;obtain⟨rec,hrec⟩:∃rec:LoopState->Option Code->Loop,rec=λst pe=> { state:=st,pending:=pe,fn,tmps:=a.tmps,params:= #[t],assign,body,defers:=w.heap.size } :=⟨_,rfl⟩;obtain⟨W1,hW1⟩:∃W1,(w.alloc (.deferred (some []))).alloc (.loop (rec .ready none))=W1:=⟨_,rfl⟩;have hsz1:W1.heap.size=w.heap.size+2:=by rw[←hW1];simp
 have hL1:W1.heap[w.heap.size+1]? =some (.loop (rec .ready none)):=by
  rw[←hW1];have:=World.alloc_heap_new (w.alloc (.deferred (some []))) (.loop (rec .ready none));rwa [World.size_alloc]at this
 have hK1:W1.heap[w.heap.size]? =some (.deferred (some [])):=by
  rw[←hW1];exact(Below.heap_alloc _ _ _ (by simp)).trans (World.alloc_heap_new w _)
 have hb1:Below w.heap.size w W1:=by
  rw[←hW1];exact((Below.refl _ w).alloc (bG _) _).alloc (by simp) _
 have hold:∀x,x<w.heap.size->W1.heap[x]? =w.heap[x]? :=hb1.block
 refine⟨w.heap.size+1,[{ target:=.collected w.heap.size,args:= #[] }],W1,{ target:=.fn (.func gid) #[vb],args:= #[.func (.yield (w.heap.size+1)) #[] #[]] },W1,gid,
  #[.func (.yield (w.heap.size+1)) #[] #[]]++ #[vb],W1,?_,?_,?_,?_,λh=>(by cases h),?_⟩
 .rw[←hW1,hrec];exact run_enterLoop_outer _ _ _ _ _
 .simp only[resolve,hfv];simp[go_sem]
 .intro f' _;exact trivial
 .simp only[invoke];exact hit.enters _ _
 refine RV ?_;have kA:KeepC w W1:=⟨hb1.size,λb o hb _=>(hold b (lH hb)).trans hb⟩;let C1:Ctx:=⟨C.B,C.w0,C.nt,λx=>C.M x/\x≠w.heap.size/\x≠w.heap.size+1,λx h=>C.low x h.1,C.kp,C.wE,C.hE,C.νE,C.F,λhT x hx hm=>C.tm hT x hx hm.1,C.fxp,C.rd,C.rdp⟩
 have hs1:Sim C1 (Mj E H0 bL ns0 s.kp) ν0 ⟨a.tmps,[]⟩ W1:=by
  obtain⟨φ,hφ⟩:=hs0.heap;refine⟨hs0.below.trans (hb1.mono hs0.base),Nat.le_trans hs0.base hb1.size,λx hx=>⟨hs0.fresh x (by omega),by omega,by omega⟩,yV,hs0.size,λt x hx=>by obtain⟨v,h1,h2⟩:=hs0.env t x hx;exact⟨v,h1,h2.keepC kA⟩,⟨φ,?_⟩,hs0.kp,⟨hs0.ext.used,hs0.ext.old,λx hx hF=>⟨(hold x (Nat.lt_of_lt_of_le hx hs0.szE)).trans (hs0.ext.free x hx hF).1,(hs0.ext.free x hx hF).2⟩,hs0.ext.okE⟩,Nat.le_trans hs0.szE hb1.size,λx h=>hs0.okM x h.1,hs0.okF⟩;refine(HeapOk.wider hφ λb blk x hb hx hm=>⟨hm,?_,?_⟩).keepC kA
  .have:=(hφ.blk b blk hb).2.1.lt x hx;omega
  .have:=(hφ.blk b blk hb).2.1.lt x hx;omega
 obtain⟨M0,φ0,hM0,hM0f,_,_,hpost⟩:=aBQ hs1 (hl:=[]) (kp:=0) (σ:=λ_=>none) (touch:=[]) (news:=[bL]) (dst:=some t) (λd hd=>by cases hd;show t<C.nt;omega) (λb hb=>by rw[List.mem_singleton]at hb;subst hb;exact SA b) trivial rfl rfl rfl;let aF:Act:= { a with defers:= { target:=.collected w.heap.size,args:= #[] } ::a.defers };let X:World->Prop:=λW=>∃(j:Option Code)(e:Exit)(sF:AState)(νF:Nu)(st:LoopState),st≠ .busy/\W.heap[w.heap.size+1]? =some (.loop (rec st j))/\Q e sF/\Sim C sF νF aF W/\((e= .normal/\j=none)∨(QL e=true/\j=some (Ke e)));have hDl:C.wE.heap.size<=w.heap.size:=hs0.szE;have hBl:C.B<=w.heap.size:=hs0.base;refine(hit.calls ν0.ok W1 (w.heap.size+1) vb S X (hvS.keep λb hb=>hold b (hvS.lt b hb)) (λx hx=>hs1.okM x (hs1.fresh x hx)) (λx hx=>(hvF x hx).2) λw2 v u1 ν1 φ1 hbel hext hheap hrep=>?_).mono ?_
 rotate_left
 .rintro e W ⟨v,rfl,j,e,sF,νF,st,hst,hl,hq,hsF,hj⟩;have hend:=run_endLoop (P:=P) hl (by rw[hrec];exact hst);refine⟨j,_,by rw[hrec]at hend;exact hend,?_⟩;have hsF':=hsF.putL (o:=.loop { rec st j with state:=.exhausted }) hl (by omega) (by omega);rw[hrec]at hsF';rcases hj with ⟨rfl,rfl⟩|⟨h1,rfl⟩
  .exact⟨sF,νF,hq,hsF'⟩
  .cases e<;>simp only[QL,fK]at h1<;>simp only[Ke]
   .exact wpIn_exit ⟨sF,νF,hq,hsF'⟩
   .exact wpIn_ret ⟨sF,νF,hq,hsF'⟩
 .obtain⟨ν2,hs2,hx2⟩:=hpost w2 v u1 ν1 φ1 [(0,lb (GF most.length))] [(bL,lb (GF most.length))] (bL+1) (.own 0 0 most.length) (.own bL 0 most.length) (sg [(bL,0)]) _ (hbel.mono (by show C.B<=_;omega)) hext (hheap.wider λb blk x _ _ hm=>hM0f x hm) hrep
   (QK (Gw bL 0) rfl (Jm bL)) rfl ⟨Gw bL 0,rfl,rfl,Jm bL⟩ (by simp[FV,Gw]) (SB bL _ (by simp) _) (by simp[Oy,Ox,Jg]) rfl
  have hH:aY (zV ([]++[bL]) [(bL,lb (GF most.length))]) (iJ H0)=iJ ((bL,lb (GF most.length))::H0):=by
   funext c;simp only[List.nil_append,zV,List.map_cons,List.map_nil,aY,iJ];cases h:Nat.beq c bL
   .rfl
   .simp
  have hU:gS [bL] (yT bL)=yT (bL+1):=by
   funext c;simp only[gS,yT];rw[Bool.eq_iff_iff];simp only[Bool.or_eq_true,Nat.beq_eq,Nat.blt_eq];omega
  generalize ha2:(⟨a.tmps,[]⟩:Act).put (some t) v=a2 at hs2;have hd2:a2.defers=[]:=by rw[←ha2];rfl
  have ht2:a2.tmps=a.tmps.setIfInBounds t v:=by rw[←ha2];rfl
  replace hx2:Ext W1 (iJ H0) (yT bL) ν0 w2 (iJ ((bL,lb (GF most.length))::H0)) (yT (bL+1)) ν2:=by
   have h:=hx2;simp only[Mj]at h;rw[hH,hU]at h;exact h
  replace hs2:Sim C1 ⟨uD ((t,.own bL 0 most.length)::E),iJ ((bL,lb (GF most.length))::H0),yT (bL+1),ns0.drop 1,s.kp⟩ ν2 a2 w2:=by
   have h:=hs2;simp only[AState.app,Mj]at h;rw[hH,hU]at h;exact h
  have hB2:W1.heap.size<=w2.heap.size:=hbel.size
  have hFl:∀z,(z=w.heap.size∨z=w.heap.size+1)->wS (iJ ((bL,lb (GF most.length))::H0)) ν2 z:=by
   intro z hz b blk β c hb hν hbz;obtain⟨φ,hφ⟩:=hs2.heap;obtain⟨_,g2,_,g4⟩:=hφ.blk b blk hb;have h5:=(g4 β (rY g2 hν)).2;omega
  have hFS:∀z∈S,wS (iJ ((bL,lb (GF most.length))::H0)) ν2 z:=λz hz=>(hx2.free z (Nat.lt_of_lt_of_le (hvS.lt z hz) hb1.size) (hvF z hz).1).2;let C2:Ctx:=⟨C.B,C.w0,C.nt,C1.M,C1.low,YT bL s.kp,w2,iJ ((bL,lb (GF most.length))::H0),ν2,wS (iJ ((bL,lb (GF most.length))::H0)) ν2,(λh=>by cases h),(λ_ h=>by cases h),some (w.heap.size+1),(λh=>by cases h)⟩
  have hs3:Sim C2 (Xm t bL most.length E H0 (bL+1) ns (YT bL s.kp) (GF most.length)) ν2 a2 w2:=
   ⟨hs2.below,hs2.base,hs2.fresh,by rw[hd2];exact yV,hs2.size,hs2.env,hs2.heap,rfl,ExtF.refl λ_ _ h=>h,bG _,hs2.okM,λ_ h=>by cases h⟩
  have hkn:C.kp.n<=bL+1:=by
   rcases eG bL C.kp.n with h|h
   .have h1:=hs0.ext.used bL (by simpa [Nat.blt_eq]using h);have h2:yT bL bL=true:=h1;rw[show yT bL bL=Nat.blt bL bL from rfl,SA]at h2;cases h2
   .omega
  have hlen:most.length=(GF most.length).length:=by simp[GF]
  have hrecAt:∀{s':AState}{ν':Nu}{a':Act}{W:World},Sim C2 s' ν' a' W->W.heap[w.heap.size+1]? =some (.loop (rec .ready none)):=λh=>(h.ext.free _ (by show _<w2.heap.size;omega) (hFl _ (.inr rfl))).1.trans ((hbel.block _ (by omega)).trans hL1)
  have hfin:∀{s':AState}{ν':Nu}{a':Act}{W:World},Sim C2 s' ν' a' W->Sim C ⟨uD E,s'.heap,s'.used,s'.ns,s.kp⟩ ν' aF W:=by
   intro s' ν' a' W h
   have hK:∀(z:Nat)(o:Obj),W1.heap[z]? =some o->o.isCells=false->W.heap[z]? =some o:=by
    intro z o hz hc;obtain⟨φ,hφ⟩:=hs1.heap;have g1:=hx2.free z (lH hz) (aAJ hφ hz hc);have g2:=h.ext.free z (Nat.lt_of_lt_of_le (lH hz) hB2) g1.2;exact g2.1.trans (g1.1.trans hz)
   refine⟨h.below,h.base,λx hx=>(h.fresh x hx).1,?_,hs0.size,?_,?_,hkp.symm,hs2.ext.trans2 h.ext hkn,Nat.le_trans hDl (Nat.le_trans (by omega) (Nat.le_trans hB2 h.szE)),λx hx=>by rw[h.ext.okE,hx2.okE];exact hs0.okM x hx,λp hp x hx=>by rw[h.ext.okE,hx2.okE];exact hs0.okF p hp x hx⟩
   .obtain⟨Ds,q1,q2,q3⟩:=hs0.defers;refine⟨w.heap.size::Ds,by show _::a.defers=_;rw[q1];rfl,⟨List.nodup_cons.2 ⟨λhm=>?_,q2.1⟩,λhr=>(by rw[hkp,hrd]at hr;cases hr)⟩,λD hD=>?_⟩
    .have:=lH (q3 _ hm).2.2;omega
    .rcases dR.1 hD with rfl|hD
     .exact⟨hDl,hBl,hK _ _ hK1 rfl⟩
     .obtain⟨p1,p2,p3⟩:=q3 D hD;exact⟨p1,p2,hK _ _ ((hold D (lH p3)).trans p3) rfl⟩
   .intro t' x hx;replace hx:uD E t'=some x:=hx;have hne:t'≠t:=by rintro rfl;rw[hEt]at hx;cases hx
    obtain⟨u,g1,g2⟩:=hs3.env t' x (by show uD ((t,.own bL 0 most.length)::E) t'=some x;simp only[uD];rw[bW hne];exact hx);rw[ht2,Array.getElem?_setIfInBounds_ne (λe=>hne e.symm)]at g1;exact⟨u,g1,RepA.ext h.ext.ext g2⟩
   .obtain⟨φ,hφ⟩:=h.heap;exact⟨φ,hφ.wider λ_ _ _ _ _ hm=>hm.1⟩
  have hν1:ν2 bL=ν1 0:=by
   obtain⟨u,g1,g2⟩:=hs3.env t (.own bL 0 most.length) (by show uD ((t,.own bL 0 most.length)::E) t=_;simp[uD]);rw[ht2,Array.getElem?_setIfInBounds_self_of_lt (by rw[hs0.size,hC];exact htn')]at g1;cases g1;exact aBx (w:=w2) (w':=w2) (blk:=lb (GF most.length)) (blk':=lb (GF most.length)) g2 hrep (by simp[Xm,Mj,iJ]) rfl
  refine⟨λk W=>∃σ1 x νk,(fM most)[k]? =some x/\Fl f ((fM most).drop k) σ1=some y/\Sim C2 (Xm t bL most.length E (H σ1) N ns (YT bL s.kp) x) νk a2 W,
   λk W=>∃σ1 x νk,(fM most)[k]? =some x/\Fl f ((fM most).drop (k+1)) σ1=some y/\Sim C2 (Xm t bL most.length E (H σ1) N ns (YT bL s.kp) x) νk a2 W,?_,?_,?_⟩
  .obtain⟨ν3,hs4⟩:=e1 C2 ν2 a2 w2 hs3;exact⟨σ0,_,ν3,Cw most,hy,hs4⟩
  .rintro k W hk ⟨σ1,x,νk,hx,hfl,hsim⟩
   obtain⟨y1,hf1,hf2,hf3⟩:∃y1,f x σ1=some y1/\(∀σ2,y1= .inl σ2->Fl f ((fM most).drop (k+1)) σ2=some y)/\(∀r,y1= .inr r->y= .inr r):=by
    rw[Jn hx,Fl]at hfl;split at hfl
    .cases hfl
    .rename_i s' h1;exact⟨_,h1,λσ2 e=>(by cases e;exact hfl),λr e=>(by cases e)⟩
    .rename_i r h1;exact⟨_,h1,λσ2 e=>(by cases e),λr e=>(by cases e;cases hfl;rfl)⟩
   have hlW:=hrecAt hsim;have hyld:=run_yield (P:=P) (args:= #[v]) hlW (by rw[hrec];rfl);rw[hrec]at hyld;refine⟨fn,_,assign,body,hyld,roundIn_of_wpIn hfn ?_⟩;have hact:(⟨(#[t].zip #[v]).foldl (λtmps (t,a)=>tmps.setIfInBounds t a) a.tmps,[]⟩:Act)=a2:=by rw[←ha2];simp[Act.put]
   rw[hact];refine wpIn_mono ((hround σ1 x y1 (List.mem_of_getElem? hx) hf1).out C2 hC νk a2 W hsim 0) ?_;rintro e a1 w1 ⟨s1,νa,⟨rfl,hbody⟩,hs1a⟩;have hl1:=hrecAt hs1a;refine⟨_,run_beginRound hl1 (by rw[hrec]),?_⟩;have hlt1:=lH hl1
   have ha1:a1.defers=[]:=by
    obtain⟨Ds,q1,q2,_⟩:=hs1a.defers;rw[q1,q2.2 rfl];rfl
   have hF1:wS s1.heap νa (w.heap.size+1):=(hs1a.ext.free _ (by show _<w2.heap.size;omega) (hFl _ (.inr rfl))).2;generalize hbu:Obj.loop { rec .ready none with state:=.busy } =busy;have hbc:busy.isCells=false:=by rw[←hbu];rfl
   let C3:Ctx:=⟨C.B,C.w0,C.nt,C1.M,C1.low,YT bL s.kp,w1.putObj (w.heap.size+1) busy,s1.heap,νa,wS s1.heap νa,(λh=>by cases h),(λ_ h=>by cases h),some (w.heap.size+1),(λh=>by cases h)⟩
   have hs1b:Sim C3 s1 νa a1 (w1.putObj (w.heap.size+1) busy):=by
    have kp1:KeepC w1 (w1.putObj (w.heap.size+1) busy):=He hl1 rfl;refine⟨Hd hs1a.below (by show C.B<=_;omega),Nat.le_trans hs1a.base kp1.size,λx hx=>hs1a.fresh x (Nat.le_trans kp1.size hx),by rw[ha1];exact yV,hs1a.size,λt x hx=>by obtain⟨v,h1,h2⟩:=hs1a.env t x hx;exact⟨v,h1,h2.keepC kp1⟩,by obtain⟨φ,hh⟩:=hs1a.heap;exact⟨φ,hh.keepC kp1⟩,hs1a.kp,⟨hs1a.ext.used,λb blk _ h=>⟨blk,h,rfl,rfl,rfl⟩,λx _ h=>⟨rfl,h⟩,rfl⟩,bG _,hs1a.okM,λ_ h=>by cases h⟩
   refine wpIn_mono (hbody.out C3 hC νa a1 _ hs1b 0) ?_;rintro e a3 w3 ⟨s3,ν3,hq,hs3b⟩
   have hl3:w3.heap[w.heap.size+1]? =some (.loop { rec .ready none with state:=.busy }):=by
    rw[hbu];exact(hs3b.ext.free _ (by show _<(w1.putObj _ _).heap.size;simpa using hlt1) hF1).1.trans (World.putObj_heap_same hlt1)
   have hlt3:=lH hl3;have ext2:=hs1a.ext.around hs3b.ext hl1 hlt3
   have hback:Sim C2 ⟨uD ((t,.own bL 0 most.length)::E),s3.heap,s3.used,s3.ns,s3.kp⟩ ν3 a2 (w3.putObj (w.heap.size+1) (.loop (rec .ready none))):=by
    have kp3:KeepC w3 (w3.putObj (w.heap.size+1) (.loop (rec .ready none))):=He hl3 rfl;refine⟨Hd hs3b.below (by show C.B<=_;omega),Nat.le_trans hs3b.base kp3.size,λx hx=>hs3b.fresh x (Nat.le_trans kp3.size hx),by rw[hd2];exact yV,hs3.size,λt x hx=>by obtain⟨v,h1,h2⟩:=hs3.env t x hx;exact⟨v,h1,RepA.ext ext2.ext h2⟩,by obtain⟨φ,hh⟩:=hs3b.heap;exact⟨φ,hh.keepC kp3⟩,hs3b.kp,ext2,?_,hs3b.okM,λ_ h=>by cases h⟩;have h1:=hs1a.szE;have h2:=hs3b.szE;have h3:(w1.putObj (w.heap.size+1) busy).heap.size=w1.heap.size:=by simp
    have h4:w2.heap.size<=w1.heap.size:=h1;have h5:(w1.putObj (w.heap.size+1) busy).heap.size <=w3.heap.size:=h2;show w2.heap.size<=_;simp only[World.putObj_size];omega
   cases y1 with
   |inl σ2=>
    obtain⟨rfl,hent⟩:=hq;have hend:=run_endRound (P:=P) none hl3;rw[hrec]at hend hback;refine⟨_,_,hend,.inl ⟨rfl,?_⟩⟩;obtain⟨ν4,hs4⟩:=hent C2 ν3 a2 _ hback;exact⟨σ2,x,ν4,hx,hf2 σ2 rfl,hs4⟩
   |inr r=>
    obtain⟨hj,hxr⟩:=hq;have hyr:=hf3 r rfl;subst hyr;have hend:=run_endRound (P:=P) (some (Ke e)) hl3;have hsF:=(hfin hback).putL (o:=.loop (rec .done (some (Ke e)))) (r:=rec .ready none) (World.putObj_heap_same hlt3) (by omega) (by omega);rw[QM]at hsF;have hXX:X (w3.putObj (w.heap.size+1) (.loop (rec .done (some (Ke e))))):=⟨some (Ke e),e,_,ν3,.done,(by intro h;cases h),World.putObj_heap_same hlt3,hQ e s3 hxr,hsF,.inr ⟨hj,rfl⟩⟩;rw[hrec]at hend hXX;cases e<;>simp only[QL,fK]at hj
    .exact⟨_,_,hend,.inr ⟨rfl,hXX⟩⟩
    .exact⟨_,_,hend,.inr ⟨rfl,hXX⟩⟩
  .rintro k x W hk ⟨σ1,x1,νk,hx,hfl,hsim⟩;rw[hk]at hx;cases hx;have hbl:(Xm t bL most.length E (H σ1) N ns (YT bL s.kp) x).heap bL=some (lb x):=by simp[Xm,Mj,iJ]
   obtain⟨M,φ,g1,g2,g3,_,g5⟩:=aBQ hsim (hl:=[(0,lb x)]) (kp:=1) (σ:=sg [(0,bL)]) (touch:=[bL]) (news:=[]) (dst:=none) (λd h=>by cases h) (λb h=>by cases h) (QK (Gw 0 bL) hbl rfl) rfl (by simp[Bh,Gw]) (by simp[hbl]);refine⟨M,_,φ,hsim.szE,g2,g3,?_,λz hz=>(hsim.ext.free z (Nat.lt_of_lt_of_le (hvS.lt z hz) (by show w.heap.size<=w2.heap.size;omega)) (hFS z hz)).1,λy hy=>hsim.okM y (g1 y hy),λz hz=>(by show νk.ok z;rw[hsim.ext.okE];show ν2.ok z;rw[hx2.okE];exact(hvF z hz).2),?_⟩
   .show qE (sg [(0,bL)]) νk 0=ν1 0;simp only[qE,Gw];obtain⟨_,_,_,_,q4⟩:=hsim.ext.old bL (lb x) (Jm bL) hbl;exact q4.trans hν1
   .intro x' w' u' ν' φ' hbel' hext' hheap'
    obtain⟨ν5,hs5,_⟩:=g5 w' (.bool true) u' ν' φ' [(0,lb x')] [(bL,lb x')] (bL+1) (.sc (.bool true)) (.sc (.bool true)) (sg [(bL,0)]) _ (hbel'.mono (by show C.B<=_;omega)) hext' hheap' ⟨rfl,rfl⟩
     (QK (Gw bL 0) rfl (Jm bL)) rfl rfl (by simp[FV,Gw]) (SB bL _ (by simp) _) rfl rfl
    have hH':aY (zV ([bL]++[]) [(bL,lb x')]) (iJ ((bL,lb x)::H σ1))=iJ ((bL,lb x')::H σ1):=by
     funext c;simp only[List.append_nil,zV,List.map_cons,List.map_nil,aY,iJ];cases h:Nat.beq c bL
     .rfl
     .simp
    have hs6:Sim C2 (Xm t bL most.length E (H σ1) N ns (YT bL s.kp) x') ν5 a2 w':=by
     have h:=hs5;simp only[AState.app,Xm,Mj]at h;rw[hH']at h;exact h
    refine⟨λz hz e=>?_,λhno=>?_⟩
    .subst e;exact⟨σ1,x',ν5,hz,hfl,hs6⟩
    .have hnil:(fM most).drop (k+1)=[]:=List.drop_eq_nil_of_le (List.getElem?_eq_none_iff.1 hno);rw[hnil,Fl]at hfl;cases hfl;refine⟨none,.normal,Mj E (H σ1) N ns s.kp,ν5,.ready,(by intro h;cases h),hrecAt hs6,hQ,?_,.inl ⟨rfl,rfl⟩⟩;refine(hfin hs6).shrink λb blk hb=>?_;show iJ ((bL,lb x')::H σ1) b=some blk;have hne:b≠bL:=by rintro rfl;rw[hHb σ1]at hb;cases hb
     simp only[iJ];rw[bW hne];exact hb
def UA{ρ c}{ι:Type}(I:ι->Act->World->Prop)(μ:ι->Nat)(i0){a}(h0:I i0 a w)(round:∀i a w,I i a w->c.wpIn (fw ρ) n P (Exit.then (λa' w'=>∃j,μ j<μ i/\I j a' w') Q) a w):(Code.loop c).wpIn (fw ρ) n P Q a w:=by
 intro b k cs hro hb hr
 have key:∀m i,μ i=m->∀a w,I i a w->∃e a' w',Q e a' w'/\ArrivesIn (Machine.fenced P (fw ρ)) P (lone (b.atR a (.code c:: .inLoop c::k)) cs w) b k cs e a' w':=by
  intro m;induction m using Nat.strongRecOn with
  |_ m ih=>
   intro i hn a w hI;obtain⟨e,a1,w1,hq,harr⟩:=round i a w hI b (.inLoop c::k) cs hro hb hr;cases e with
   |normal=>
    obtain⟨j,hlt,hj⟩:=hq;obtain⟨e2,a2,w2,hq2,harr2⟩:=ih (μ j) (hn▸hlt) j rfl a1 w1 hj;exact⟨e2,a2,w2,hq2,.of_steps (StepsIn.trans harr (.one (fenced_calm hb hr rfl) stepR_inLoop)) harr2⟩
   |exit id=>exact⟨_,a1,w1,hq,.pass (x:=.inLoop c) rfl (λ_ _=>.inl (by simp)) harr⟩
   |goto l=>exact⟨_,a1,w1,hq,.pass (x:=.inLoop c) rfl (λ_ _=>.inl (by simp)) harr⟩
   |ret=>exact⟨_,a1,w1,hq,.pass (x:=.inLoop c) rfl (λ_ _=>.inl (by simp)) harr⟩
   |panic ch=>exact⟨_,a1,w1,hq,.pass (x:=.inLoop c) rfl (λ_ _=>.inl (by simp)) harr⟩
   |outgrown=>exact⟨_,a1,w1,hq,.pass (x:=.inLoop c) rfl (λ_ _=>.inl (by simp)) harr⟩
 obtain⟨e,a',w',hq,harr⟩:=key _ i0 rfl a w h0;exact⟨e,a',w',hq,.of_steps (.one (fenced_calm hb hr rfl) stepR_loop) harr⟩
def Iy:∀{x:aA}{vs S},CellsRep w h u ν (x.map (ow eI)).flatten vs S->S=[]
 | [],vs,S,h=>h.2
 |z::x,vs,S,h=>by
  simp only[List.map_cons,List.flatten_cons]at h;obtain⟨v,r,S1,S2,rfl,rfl,h3,h4⟩:=h;have h5:S1=[]:=h3.2;rw[h5,Iy h4];rfl
def aBy{x}(hh:HeapOk M w h u ν φ)(hb:h b=some (lb x)):∀z∈φ b,∃c,ν b=some (z,c):=by
 intro z hz;obtain⟨_,g2,_,_⟩:=hh.blk b _ hb;rcases g2.2 with ⟨q1,q2,q3⟩|⟨β,c,arr,ty,T,vs,q1,q2,q3,q4,q5,q6,q7,q8⟩
 .rw[q3]at hz;cases hz
 .rw[Iy q8]at q6;rw[q6]at hz;rw[List.mem_singleton]at hz;subst hz;exact⟨c,q1⟩
def aAK(r:Rep1 w h u ν (.own b 0 n) v)(r':Rep1 w' h' u' ν' (.own b' 0 n) v')(hb:h b=some blk)(hb':h' b'=some blk')(hν:ν b=ν' b'):v=v':=by
 simp only[Rep1]at r r';obtain⟨_,p2,p3⟩:=r.2 blk hb;obtain⟨_,q2,q3⟩:=r'.2 blk' hb';cases h1:ν b with
 |none=>rw[p2 h1,q2 (hν▸h1)]
 |some p=>
  obtain⟨β,c⟩:=p;rw[(p3 β c h1).zero,(q3 β c (hν▸h1)).zero]
def aBz{x}(r:Rep1 w h u ν (.own b 0 n) v)(hb:h b=some blk)(hb':h' b'=some (lb x))(hu:u' b'=true)(hk:blk.k=1)(hν:ν' b'=ν b)(hl:n=x.length):Rep1 w' h' u' ν' (.own b' 0 n) v:=by
 simp only[Rep1]at r ⊢;obtain⟨_,p2,p3⟩:=r.2 blk hb;refine⟨hu,λblk' e=>?_⟩;rw[hb']at e;cases e;refine⟨by simp[lb,hl],λe=>p2 (hν▸e),λβ c e=>?_⟩;have:=p3 β c (hν▸e);rw[hk]at this;exact this
def CR:∀{most x},x∈fM most->x.length=most.length
 | [],x,h=>by simp only[fM,List.mem_singleton]at h;rw[h]
 |m::ms,x,h=>by
  simp only[fM,List.mem_flatMap,List.mem_map]at h;obtain⟨i,_,y,hy,rfl⟩:=h;simp[CR hy]
def itS(yv vb:Value)(n:Nat)(x:aA)(κ:Kp):AState:=Mj [(0,.sc yv),(1,.sc vb),(3,.own 0 0 n)] [(0,lb x)] 1 [1,2,3] κ
def YU{R0 B1 i1}{ty8 ty9 ty10:TypeId}{p8 p9 p10 af8 af9 af10}(hf:P.funcs[gid]? =some fn)(hb:fn.body=some (.seq R0 (.block 0 (.loop (.seq (.seq (.region i1 #[⟨some 8,.move (.tmp 0),ty8,p8,af8,none⟩,⟨some 9,.move (.tmp 3),ty9,p9,af9,none⟩,⟨some 10,.call ⟨.value (.tmp 8),#[.tmp 9],ats⟩,ty10,p10,af10,none⟩] false) (.cond (.tmp 10) .skip (.exit 0))) B1)))))(hname:(fn.name== "runtime.NumGoroutine")=false)(hnt:fn.ntmps=40)(hres:fn.results= #[])(most)(h0:∀(yv vb:Value)(W:World)(S:List Nat),yv.oneCell'=true->RepD W (.ref [.list 1 (most.map eI)]) vb S->AC P 40 R0 ⟨Gp [.sc yv,.sc vb],iJ [],yT 0,[0,1,2,3],⟨0,false,some (W,(· ∈S)),false⟩⟩ (λe s'=>e= .normal/\Ent s' (itS yv vb most.length (GF most.length) ⟨0,false,some (W,(· ∈S)),false⟩)))(h1:∀(yv vb:Value)(W:World)(S:List Nat),yv.oneCell'=true->RepD W (.ref [.list 1 (most.map eI)]) vb S->∀(k:Nat)(x:aA),(fM most)[k]? =some x->AC P 40 B1 (itS yv vb most.length x ⟨1,false,some (W,(· ∈S)),false⟩) (λe s'=>∃x',((e= .normal/\(fM most)[k+1]? =some x')∨(e= .ret/\(fM most)[k+1]? =none))/\Ent s' (itS yv vb most.length x' ⟨1,false,some (W,(· ∈S)),false⟩))):BoxIt P gid most:=by
 refine⟨Enters.mk hf (by rw[hb];rfl) hname,λokp w0 l vb S X hrep hokN hokS hcont=>?_⟩;refine(callsIn_wide (n:=0)).1 (callsIn_of_wp_marks (F:=fw none) hf hb trivial ?_);generalize hyv:Value.func (.yield l) #[] #[]=yv;have hyc:yv.oneCell'=true:=by rw[←hyv];rfl
 have hvc:vb.oneCell'=true:=by simp only[RepD]at hrep;obtain⟨b,o,S',e,_⟩:=hrep;rw[e];rfl
 have hSlt:=hrep.lt;let C:Ctx:=⟨w0.heap.size,w0,40,λx=>w0.heap.size<=x,λ_ h=>h,⟨0,false,some (w0,(· ∈S)),false⟩,w0,iJ [],⟨λ_=>none,okp⟩,wS (iJ []) ⟨λ_=>none,okp⟩,(λh=>by cases h),(λp hp=>by cases hp;exact⟨rfl,λx hx=>⟨hSlt x hx,λb blk β c hb=>by cases hb⟩⟩),none,λ_=>rfl⟩
 have hsim:Sim C ⟨Gp [.sc yv,.sc vb],iJ [],yT 0,[0,1,2,3],⟨0,false,some (w0,(· ∈S)),false⟩⟩ ⟨λ_=>none,okp⟩ ⟨#[yv,vb]++Array.replicate (fn.ntmps-2) undef,[]⟩ w0:=by
  refine⟨Below.refl _ _,bG _,λ_ hx=>hx,yV,by show(#[yv,vb]++Array.replicate (fn.ntmps-2) undef).size=40;simp[hnt],?_,⟨λ_=>[],λb blk hb=>(by cases hb),λb c x hb=>absurd rfl hb⟩,rfl,ExtF.refl λ_ _ h=>h,bG _,λx hx=>hokN x hx,λp hp x hx=>by cases hp;exact hokS x hx⟩;intro t x hx
  match t,hx with
  |0,hx=>cases hx;exact⟨yv,by rw[Array.getElem?_append_left (by simp)];rfl,rfl,hyc⟩
  |1,hx=>cases hx;exact⟨vb,by rw[Array.getElem?_append_left (by simp)];rfl,rfl,hvc⟩
  |t+2,hx=>cases hx
 refine wpIn_seq (wpIn_mono ((h0 yv vb w0 S hyc hrep).out C rfl _ _ w0 hsim 0) ?_);rintro e a1 w1 ⟨s1,ν0,⟨rfl,hent⟩,hs1⟩;obtain⟨ν1,hs1⟩:=hent C ν0 a1 w1 hs1
 have hdef:∀{C:Ctx}{w:World}{ds:List Deferred},C.kp.rd0=false->OkD C w ds->ds=[]:=by
  rintro C w ds h ⟨Ds,q1,q2,_⟩;rw[q1,q2.2 h];rfl
 obtain⟨v0,ha0,q0,_⟩:=hs1.env 0 (.sc yv) rfl;obtain⟨v1,ha1,q1,_⟩:=hs1.env 1 (.sc vb) rfl;obtain⟨v,ha3,hv⟩:=hs1.env 3 (.own 0 0 most.length) rfl;rw[q0]at ha0;rw[q1]at ha1;obtain⟨φ1,hφ1⟩:=hs1.heap
 have hlen0:0<(fM most).length:=by
  rcases eG 0 (fM most).length with h|h
  .exact h
  .have:=Cw most;rw[iM h]at this;cases this
 obtain⟨I,I',hI0,hY,hStep⟩:=hcont w1 v (yT 1) ν1 φ1 hs1.below hs1.ext.ext hφ1 hv
 have hleave:∀(a:Act)(w:World),a.defers=[]->X w->LeavesInM (fw none) 0 P fn a.tmps (λe w'=>∃v,e= .returned v/\X w') a.defers .returning w:=by
  intro a w hd hX;rw[hd];exact⟨.tuple #[],by simp[results,hres],_,rfl,hX⟩
 refine wpIn_block ?_;refine UA (ι:=Nat) (λk a w=>k<(fM most).length/\I k w/\a.tmps[0]? =some yv/\a.tmps[1]? =some vb/\a.tmps[3]? =some v/\a.tmps.size=40/\a.defers=[]) (λk=>(fM most).length - k) 0 ⟨hlen0,hI0,ha0,ha1,ha3,hs1.size,hdef rfl hs1.defers⟩ ?_;rintro k a w ⟨hk,hI,t0,t1,t3,hsz,hd⟩;refine wpIn_seq (wpIn_seq (wpIn_region_lit (l:=[_,_,_]) ?_));have ev0:a.eval (.tmp 0)=yv:=by simp[Act.eval,t0]
 refine wpListIn_plain rfl λK hK=>⟨λ_ _=>trivial,?_⟩;rw[Oper.semAt_eq _ _ _ (by intro c h;cases h)];rw[show(execOp a.eval ⟨some 8,.move (.tmp 0),ty8,p8,af8,none⟩).run P w= .ok (.value yv) w by simp[execOp,ev0]];refine hK _ _ ?_;generalize hA1:a.put (some 8) yv=a8;have h8:∀t:Nat,t≠8->a8.tmps[t]? =a.tmps[t]? :=λt ht=>by rw[←hA1];simp only[Act.put];rw[Array.getElem?_setIfInBounds_ne (λe=>ht e.symm)]
 have h88:a8.tmps[8]? =some yv:=by rw[←hA1];simp only[Act.put];rw[Array.getElem?_setIfInBounds_self_of_lt (by omega)]
 have ev3:a8.eval (.tmp 3)=v:=by simp[Act.eval,h8 3 (by omega),t3]
 refine wpListIn_plain rfl λK hK=>⟨λ_ _=>trivial,?_⟩;rw[Oper.semAt_eq _ _ _ (by intro c h;cases h)];rw[show(execOp a8.eval ⟨some 9,.move (.tmp 3),ty9,p9,af9,none⟩).run P w= .ok (.value v) w by simp[execOp,ev3]];refine hK _ _ ?_;generalize hA2:a8.put (some 9) v=a9;have sz9:a9.tmps.size=40:=by rw[←hA2,←hA1];simp[Act.put,hsz]
 have h9:∀t:Nat,t≠9->a9.tmps[t]? =a8.tmps[t]? :=λt ht=>by rw[←hA2];simp only[Act.put];rw[Array.getElem?_setIfInBounds_ne (λe=>ht e.symm)]
 have h99:a9.tmps[9]? =some v:=by rw[←hA2];simp only[Act.put];rw[Array.getElem?_setIfInBounds_self_of_lt (by rw[←hA1];simp[Act.put,hsz])]
 have ev8:a9.eval (.tmp 8)= .func (.yield l) #[] #[]:=by simp[Act.eval,h9 8 (by omega),h88,hyv]
 have ev9:a9.eval (.tmp 9)=v:=by simp[Act.eval,h99]
 have d9:a9.defers=[]:=by rw[←hA2,←hA1];exact hd
 obtain⟨fn',tmps',assign',body',hyr,hround⟩:=hY k w hk hI;refine wpListIn_plain rfl λK hK=>⟨λ_ _=>trivial,?_⟩;rw[Oper.semAt_eq _ _ _ (by intro c h;cases h)]
 rw[show(execOp a9.eval ⟨some 10,.call ⟨.value (.tmp 8),#[.tmp 9],ats⟩,ty10,p10,af10,none⟩).run P w= .ok (.round l fn' tmps' assign' body') w by
  have:execOp a9.eval ⟨some 10,.call ⟨.value (.tmp 8),#[.tmp 9],ats⟩,ty10,p10,af10,none⟩=Instr.yield l #[v]:=by
   simp[execOp,resolve,ev8,ev9,Deferred.ofValue,invoke]
  rw[this]
  exact hyr]
 refine⟨λh=>(by cases h),hround.mono λe w' hR=>?_⟩;obtain⟨x,hx⟩:∃x,(fM most)[k]? =some x:=⟨_,iL hk⟩;rcases hR with ⟨rfl,hI'⟩|⟨rfl,hX⟩
 .refine hK _ _ ?_;generalize hA3:a9.put (some 10) (.bool true)=a10;have ev10:a10.eval (.tmp 10)= .bool true:=by rw[←hA3];simp only[Act.eval,Act.put];rw[Array.getD_eq_getD_getElem?,Array.getElem?_setIfInBounds_self_of_lt (by omega)];rfl
  have h10:∀t:Nat,t≠10->a10.tmps[t]? =a9.tmps[t]? :=λt ht=>by rw[←hA3];simp only[Act.put];rw[Array.getElem?_setIfInBounds_ne (λe=>ht e.symm)]
  have sz10:a10.tmps.size=40:=by rw[←hA3];simp[Act.put,sz9]
  have d10:a10.defers=[]:=by rw[←hA3];exact d9
  have u0:a10.tmps[0]? =some yv:=by rw[h10 0 (by omega),h9 0 (by omega),h8 0 (by omega),t0]
  have u1:a10.tmps[1]? =some vb:=by rw[h10 1 (by omega),h9 1 (by omega),h8 1 (by omega),t1]
  have u3:a10.tmps[3]? =some v:=by rw[h10 3 (by omega),h9 3 (by omega),h8 3 (by omega),t3]
  refine wpIn_cond_split (t:=true) ev10 (λ_=>wpIn_skip ?_) (λh=>by cases h);show B1.wpIn _ _ _ _ a10 w';obtain⟨M,ν,φ,c1,c2,c3,c4,c5,o1,o2,c6⟩:=hStep k x w' hx hI';have hw01:w0.heap.size<=w1.heap.size:=hs1.below.size
  have c3':HeapOk (λy=>M y/\w0.heap.size<=y) w' (iJ [(0,lb x)]) (yT 1) ν φ:=c3.wider λb blk z hb hz hm=>by
   refine⟨hm,?_⟩
   have hb0:b=0:=by
    cases hq:Nat.beq b 0 with
    |true=>exact Nat.eq_of_beq_eq_true hq
    |false=>simp only[iJ,hq,aW]at hb;cases hb
   subst hb0;obtain⟨c,hc⟩:=aBy c3 (b:=0) (x:=x) rfl z hz;rw[c4]at hc;obtain⟨_,g2,_,g4⟩:=hφ1.blk 0 _ rfl;exact g4 z (rY g2 hc)
  have hrep':RepD w' (.ref [.list 1 (most.map eI)]) vb S:=hrep.keep λb hb=>(c5 b hb).trans (hs1.below.block b (hSlt b hb))
  have hSF:∀y∈S,wS (iJ [(0,lb x)]) ν y:=by
   rintro y hy b blk β c hb hν rfl;obtain⟨_,g2,_,g4⟩:=c3'.blk b blk hb;have:=(g4 β (rY g2 hν)).2;have:=hSlt β hy;omega
  let C3:Ctx:=⟨w0.heap.size,w',40,λy=>M y/\w0.heap.size<=y,λ_ h=>h.2,⟨1,false,some (w',(· ∈S)),false⟩,w',iJ [(0,lb x)],ν,wS (iJ [(0,lb x)]) ν,(λh=>by cases h),(λp hp=>by cases hp;exact⟨rfl,λy hy=>⟨hrep'.lt y hy,hSF y hy⟩⟩),none,λ_=>rfl⟩
  have hsim3:Sim C3 (itS yv vb most.length x ⟨1,false,some (w',(· ∈S)),false⟩) ν a10 w':=by
   refine⟨Below.refl _ _,Nat.le_trans hw01 c1,λy hy=>⟨c2 y hy,Nat.le_trans (Nat.le_trans hw01 c1) hy⟩,by rw[d10];exact yV,sz10,?_,⟨φ,c3'⟩,rfl,ExtF.refl λ_ _ h=>h,bG _,λy hy=>o1 y hy.1,λp hp y hy=>by cases hp;exact o2 y hy⟩;intro t z hz;replace hz:uD [(0,.sc yv),(1,.sc vb),(3,.own 0 0 most.length)] t=some z:=hz;rcases dR.1 (Gm hz)with e|hz
   .cases e;exact⟨yv,u0,rfl,hyc⟩
   .rcases dR.1 hz with e|hz
    .cases e;exact⟨vb,u1,rfl,hvc⟩
    .rcases dR.1 hz with e|hz
     .cases e;exact⟨v,u3,aBz (w:=w1) (w':=w') (blk:=lb (GF most.length)) (x:=x) hv rfl rfl rfl rfl c4 (CR (List.mem_of_getElem? hx)).symm⟩
     .cases hz
  refine wpIn_mono ((h1 yv vb w' S hyc hrep' k x hx).out C3 rfl ν a10 w' hsim3 0) ?_;rintro e a4 w4 ⟨s4,ν4,⟨x',hcase,hent⟩,hs4⟩;obtain⟨ν5,hs5⟩:=hent C3 ν4 a4 w4 hs4;obtain⟨φ5,hφ5⟩:=hs5.heap;have hd5:a4.defers=[]:=hdef rfl hs5.defers;obtain⟨k1,k2⟩:=c6 x' w4 (yT 1) ν5 φ5 hs5.below hs5.ext.ext (hφ5.wider λ_ _ _ _ _ hm=>hm.1);rcases hcase with ⟨rfl,hx'⟩|⟨rfl,hno⟩
  .refine⟨k+1,?_,?_,k1 x' hx' rfl,?_,?_,?_,hs5.size,hd5⟩
   .have:=(List.getElem?_eq_some_iff.1 hx').1;omega
   .exact(List.getElem?_eq_some_iff.1 hx').1
   .obtain⟨z,z1,z2,_⟩:=hs5.env 0 (.sc yv) rfl;rw[z1,z2]
   .obtain⟨z,z1,z2,_⟩:=hs5.env 1 (.sc vb) rfl;rw[z1,z2]
   .obtain⟨z,z1,z2⟩:=hs5.env 3 (.own 0 0 most.length) rfl;obtain⟨_,_,_,_,q4⟩:=hs5.ext.old 0 (lb x') rfl rfl;rw[z1,aAK (w:=w4) (w':=w1) (blk:=lb x') (blk':=lb (GF most.length)) z2 hv rfl rfl (q4.trans c4)]
  .exact hleave a4 w4 hd5 (k2 hno)
 .refine hK _ _ ?_;have ev10:(a9.put (some 10) (.bool false)).eval (.tmp 10)= .bool false:=by simp only[Act.eval,Act.put];rw[Array.getD_eq_getD_getElem?,Array.getElem?_setIfInBounds_self_of_lt (by omega)];rfl
  refine wpIn_cond_split (t:=false) ev10 (λh=>by cases h) (λ_=>wpIn_exit ?_);exact hleave _ w' d9 hX
def k{α:Sort _}{a:α}:a=a:=rfl
section
variable {P:Program}{ops:Array Oper}{nt:Nat}{r:List Oper}{s:AState}{tr:List Tr}{K:List Tr->AState->Prop}{K':AState->Prop}
def MQ(ops:Array Oper)(nt:Nat)(s:AState)(o:Oper)(news:List Nat):Bool:=Io o nt&&((match oF ops s.env o with|some true=>true|_=>false)&&news.all λb=> !s.used b)
def Kf{news}(h:MQ ops nt s o news=true):Io o nt=true/\oF ops s.env o=some true/\(news.all λb=> !s.used b)=true:=by
 simp only[MQ,cB]at h;obtain⟨h1,h2,h3⟩:=h;refine⟨h1,?_,h3⟩;split at h2
 .assumption
 .cases h2
def ae{op}{pos:String}{e}(he:AEff P ⟨d,op,ty,pos,aft,g⟩ s.ev s.heap s.kp e)(hb:MQ ops nt s ⟨d,op,ty,pos,aft,g⟩ e.news=true)(h:AOps P ops nt r (s.app d e) (CH e::tr) K):AOps P ops nt (⟨d,op,ty,pos,aft,g⟩::r) s tr K:=
 aO he (Kf hb).1 (Kf hb).2.1 (Kf hb).2.2 h
def se{op}{pos:String}{e}(he:AEff P ⟨d,op,ty,pos,aft,g⟩ s.ev s.heap s.kp e)(hb:MQ ops nt s ⟨d,op,ty,pos,aft,g⟩ e.news=true)(h:SOps P ops nt r (s.app d e) K'):SOps P ops nt (⟨d,op,ty,pos,aft,g⟩::r) s K':=
 Rt he (Kf hb).1 (Kf hb).2.1 (Kf hb).2.2 h
def am{pos:String}{v}(hx:s.ev x=some v)(hb:MQ ops nt s ⟨d,.move x,ty,pos,aft,g⟩ []=true)(h:AOps P ops nt r (s.app d ⟨v,[],[],[]⟩) (CH ⟨v,[],[],[]⟩::tr) K):AOps P ops nt (⟨d,.move x,ty,pos,aft,g⟩::r) s tr K:=ae (cY hx) hb h
def aa{pos:String}{v}(hx:s.ev x=some v)(hb:MQ ops nt s ⟨d,.assign x,ty,pos,aft,g⟩ []=true)(h:AOps P ops nt r (s.app d ⟨v,[],[],[]⟩) (CH ⟨v,[],[],[]⟩::tr) K):AOps P ops nt (⟨d,.assign x,ty,pos,aft,g⟩::r) s tr K:=ae (dU hx) hb h
def an(h:K tr s):AOps P ops nt [] s tr K:=dY h
def sn(h:K' s):SOps P ops nt [] s K':=YM h
variable {Q:Exit->AState->Prop}
def sQ{x y}(h:AC P nt x s (lJ (λs'=>AC P nt y s' Q) Q)):AC P nt (.seq x y) s Q:=gU h
def rg{id:Nat}{l}(h:AOps P l.toArray nt l s [] (λ_ s'=>Q .normal s')):AC P nt (.region id l.toArray false) s Q:=dF h
def Gx{id:Nat}{l}(h:SOps P l.toArray nt l s (Q .normal)):AC P nt (.region id l.toArray false) s Q:=Tt h
def tn(h:K' s):lJ K' Q .normal s:=h
end
def e1{e:Nat->Option AV}{σ n t x y}(h:e t=some x)(m:rK σ n x y):∃x,e t=some x/\rK σ n x y:=⟨x,h,m⟩
def ak{P ops nt r s tr K op}{pos:String}(hg:oF ops s.env ⟨d,op,ty,pos,aft,g⟩=some false)(hd:Io ⟨d,op,ty,pos,aft,g⟩ nt=true)(h:AOps P ops nt r ⟨KS d (.tuple []) s.env,s.heap,s.used,s.ns,s.kp⟩ (⟨[],[]⟩::tr) K):AOps P ops nt (⟨d,op,ty,pos,aft,g⟩::r) s tr K:=Ha hg hd h
section
variable {σ:Nat->Option Nat}{n b b0 k:Nat}{h:Hp}{r:List (Nat×Blk)}
def hB{y}(hp:DW y.es)(hs:σ b=some b0)(hb:h b0=some y)(hn:Nat.blt b n=true)(hr:rL σ n h r):rL σ n h ((b,y)::r):=by
 simp only[rL];rw[hs];exact⟨⟨y,hb,rfl,.inl ⟨rfl,hp⟩⟩,hn,hr⟩
def hX{y}(hm:match σ b with|some b0=>∃x,h b0=some x/\Ip σ n x y|none=>y.es=[])(hn:Nat.blt b n=true)(hr:rL σ n h r):rL σ n h ((b,y)::r):=⟨hm,hn,hr⟩
end
def aEs{P}(hT:TyOk P T){pos:String}{s:AState}{t e k f}{l:List α}(hx:s.ev x=some (.list k (List.map f l)))(hy:dB T t=some y)(hd:y.desc= .slice e):AEff P ⟨dst,.call ⟨.builtin .len,#[x],#[t]⟩,dty,pos,aft,g⟩ s.ev s.heap s.kp ⟨.int l.length,[],[],[]⟩:=AEff.val (CO hT hx hy hd) (by rw[eD])
def lA{a b:List α}:(a++b).length=a.length+b.length:=List.length_append
def lT{a:List α}{x}:(a.set i x).length=a.length:=List.length_set
def lR{n}{x:α}:(List.replicate n x).length=n:=List.length_replicate
def lC{a:α}{b:List α}:(a::b).length=b.length+1:=List.length_cons
def lN:([]:List α).length=0:=List.length_nil
def UB:([]:bN).all AL=true:=rfl
def Ho{d}(h1:AL d=true)(h2:ds.all AL=true):(d::ds).all AL=true:=by
 rw[List.all_cons,h1,h2];rfl
def Jo:aA->aA->Option aA
 |m::ms,a::t=>match Jo ms t with
  |some t'=>some (a::t')
  |none=>if a=m then none else some ((a+1)::GF t.length)
 |_,_=>none
def Kg:∀m:aA,Jo m m=none
 | []=>rfl
 |m::ms=>by simp[Jo,Kg ms]
def SD:∀{mp p:aA}{m a:Int}{s:aA},p.length=mp.length->a≠m->Jo (mp++m::s) (p++a::s)=some (p++(a+1)::GF s.length)
 | [],[],m,a,s,_,h=>by simp[Jo,Kg,h]
 |b::mp,c::p,m,a,s,hl,h=>by
  have ih:=SD (mp:=mp) (p:=p) (s:=s) (by simpa using hl) h;simp[Jo,ih]
def UC:∀most:aA,0<(fM most).length:=λmost=>by
 rcases eG 0 (fM most).length with h|h
 .exact h
 .have:=Cw most;rw[iM h]at this;cases this
def FX{f:Nat->List α}{L}(hL:∀i,(f i).length=L):∀n,((List.range n).flatMap f).length=n*L
 |0=>by simp
 |n+1=>by rw[List.range_succ,List.flatMap_append,List.length_append,FX hL n];simp[hL,Nat.succ_mul]
def Jp{f:Nat->List α}{L}(hL:∀i,(f i).length=L):∀n i k,k<L->i<n->((List.range n).flatMap f)[i*L+k]? =(f i)[k]?
 |0,i,k,_,h=>absurd h (Nat.not_lt_zero i)
 |n+1,i,k,hk,h=>by
  rw[List.range_succ,List.flatMap_append];rcases eG i n with h'|h'
  .have h1:(i+1)*L<=n*L:=Nat.mul_le_mul_right L h';rw[Nat.succ_mul]at h1;rw[List.getElem?_append_left (by rw[FX hL];omega)];exact Jp hL n i k hk h'
  .have e:i=n:=by omega
   subst e;rw[List.getElem?_append_right (by rw[FX hL];omega),FX hL];simp
def LP:∀{most x k},(∀m∈most,0<=m)->(fM most)[k]? =some x->(fM most)[k+1]? =Jo most x
 | [],x,k,_,h=>by
  have hk:=(List.getElem?_eq_some_iff.1 h).1;simp only[fM,List.length_singleton]at hk;have:k=0:=by omega
  subst this;cases x<;>rfl
 |m::ms,x,k,hm,h=>by
  have hL:∀i:Nat,((fM ms).map λx=>(i:Int)::x).length=(fM ms).length:=λi=>by simp
  have hp:=UC ms;have hk:=(List.getElem?_eq_some_iff.1 h).1;simp only[fM]at h hk ⊢;rw[FX hL]at hk;generalize hLe:(fM ms).length=L at*;have hdm:=Nat.div_add_mod k L;have hkm:=Nat.mod_lt k hp;generalize hi:k/L=i at*;generalize hr:k%L=r at*;rw[Nat.mul_comm]at hdm
  have him:i<m.toNat+1:=by
   rcases eG i (m.toNat+1)with h'|h'
   .exact h'
   .have:=Nat.mul_le_mul_right L h';omega
  rw[←hdm]at h ⊢;rw[Jp hL _ _ _ hkm him,List.getElem?_map]at h;cases hy:(fM ms)[r]? with
  |none=>rw[hy]at h;cases h
  |some y=>
   rw[hy]at h;simp only[Option.map_some,Option.some.injEq]at h;subst h;have ih:=LP (λz hz=>hm z (by simp[hz])) hy;have hyl:=CR (List.mem_of_getElem? hy);simp only[Jo];cases hs:Jo ms y with
   |some y'=>
    rw[hs]at ih;have h1:=(List.getElem?_eq_some_iff.1 ih).1;rw[Nat.add_assoc,Jp hL _ _ _ (by omega) him,List.getElem?_map,ih];rfl
   |none=>
    rw[hs]at ih;have h1:=List.getElem?_eq_none_iff.1 ih;have hrL:r+1=L:=by omega
    have e1:i*L+r+1=(i+1)*L+0:=by rw[Nat.succ_mul];omega
    rw[e1];have hm0:=hm m (by simp);rcases eG (i+1) (m.toNat+1)with h2|h2
    .rw[Jp hL _ _ _ hp h2,List.getElem?_map,Cw];have:¬ (i:Int)=m:=by omega
     simp[this,hyl]
    .have:(i:Int)=m:=by omega
     rw[aM this,iM];rw[FX hL];have:=Nat.mul_le_mul_right L h2;omega
def NF:∀{most x},x∈fM most->∀(i:Nat)(a m:Int),x[i]? =some a->most[i]? =some m->0<=a/\(0<=m->a<=m)
 | [],x,h,i,a,m,h1,h2=>by simp at h2
 |m::ms,x,h,i,a,m',h1,h2=>by
  simp only[fM,List.mem_flatMap,List.mem_map,List.mem_range]at h;obtain⟨j,hj,y,hy,rfl⟩:=h;cases i with
  |zero=>
   simp only[List.getElem?_cons_zero,Option.some.injEq]at h1 h2;omega
  |succ i=>exact NF hy i a m' (by simpa using h1) (by simpa using h2)
set_option maxHeartbeats 4000000
def MIX:Tryz.prog.follows .mixedOrders=true:=dO
def NG(hT:TyOk P T){pos:String}{t v G}(hrep:RepD W (.ref cs) vb S)(hS:∀y∈S,G y)(hfx:s.kp.fx=some (W,G))(hx:s.ev x=some (.sc vb))(hy:dB T t=some y)(h1:(y.desc.isAgg||Nat.beq y.size 1)=true)(hn:Nat.ble y.size cs.length=true)(hpl:(cs.take y.size).all fF=true)(hv:AJ y.desc.isAgg (cs.take y.size)=v):AEff P ⟨dst,.load t x,ty,pos,aft,g⟩ s.ev s.heap s.kp ⟨v,[],[],[]⟩:=hv▸Dd hT hfx hrep hS hx hy h1 (Nat.le_of_ble_eq_true hn) hpl
def aBR{x a}(h:x[i]? =some a):(lb x).es[i]? =some [.int a]:=by
 simp only[lb,List.getElem?_map,h];rfl
def aDp(most)(hm:∀m∈most,0<=m/\m<=1048576)(hn:most.length<=1048576):BoxIt Tryz.prog 175 most:=by
 refine YU Tryz.func175 rfl rfl Tryz.ntmps175 rfl most ?_ ?_
 .intro yv vb W S hy hr
  repeat (first|refine dF ?_)
  refine aO (NG aH hr (λ_ h=>h) rfl rfl rfl rfl rfl rfl rfl) rfl rfl rfl ?_
  repeat (first|refine aO (CO aH rfl rfl rfl) rfl rfl rfl ?_)
  refine aO (nU aH (n:=(List.map eI most).length) (by simp;omega) rfl rfl rfl rfl rfl rfl rfl rfl) rfl rfl rfl ?_
  repeat (first|refine dY ?_|refine aO (dU rfl) rfl rfl rfl ?_)
  refine⟨rfl,?_⟩;refine iU (σ:=sg [(0,0)]) ⟨⟨_,rfl,rfl⟩,⟨_,rfl,rfl⟩,⟨_,rfl,⟨rfl,rfl,by simp,rfl⟩⟩,trivial⟩ ⟨⟨_,rfl,rfl,.inl ⟨?_,De _⟩⟩,rfl,trivial⟩ rfl;show List.replicate _ (ow eI 0)=_;rw[Gs];simp[lb,GF]
 .intro yv vb W S hy hr k0 x hx;have hmem:=List.mem_of_getElem? hx;have hlen:=CR hmem;have hsucc:=LP (λm h=>(hm m h).1) hx
  repeat (first|refine gU ?_|refine dF ?_|refine bA ?_|refine aO (cY rfl) rfl rfl rfl ?_|refine aO (gV aH rfl rfl rfl rfl) rfl rfl rfl ?_)
  refine aO (uY rfl rfl) rfl rfl rfl ?_
  repeat (first|refine dY ?_|refine gU ?_|refine bA ?_|refine aO (dU rfl) rfl rfl rfl ?_)
  refine HZ (ι:=Nat) (λj=>Mj [(0,.sc yv),(1,.sc vb),(3,.own 0 0 most.length),(4,.int ((most.length:Int)-1-(j:Int)))] [(0,lb (x.take (most.length-j)++GF j))] 1 [1,2,3] ⟨1,false,some (W,(· ∈S)),false⟩) (λj=>j<=most.length/\x.drop (most.length-j)=most.drop (most.length-j)) (λj=>most.length-j) 0 ⟨by omega,by simp[hlen]⟩ ?_ ?_
  .refine iU (σ:=sg [(0,0)]) ⟨⟨_,rfl,rfl⟩,⟨_,rfl,rfl⟩,⟨_,rfl,⟨rfl,rfl,rfl,rfl⟩⟩,⟨_,rfl,?_⟩,trivial⟩ ⟨⟨_,rfl,rfl,.inl ⟨?_,De _⟩⟩,rfl,trivial⟩ rfl
   .show Value.int .i64 (wr ((most.length:Int)-1))=_;rw[LM (by omega)];simp
   .show(lb x).es=_;rw[←hlen];simp[GF]
  .rintro j ⟨hj,hdr⟩
   repeat (first|refine gU ?_|refine aG MIX ?_|refine aO (cY rfl) rfl rfl rfl ?_|refine aO (Ct rfl rfl rfl) rfl rfl rfl ?_)
   rcases eG j most.length with hjn|hjn
   .obtain⟨p,hp⟩:∃p,p=most.length-1-j:=⟨_,rfl⟩;have hat:(most.length:Int)-1-(j:Int)=(p:Int):=by omega
    obtain⟨a,ha⟩:∃a,x[p]? =some a:=⟨_,iL (by omega)⟩;obtain⟨m,hmp⟩:∃m,most[p]? =some m:=⟨_,iL (by omega)⟩
    have hla:(x.take (most.length-j)++GF j)[p]? =some a:=by
     rw[List.getElem?_append_left (by simp;omega),List.getElem?_take_of_lt (by omega),ha]
    have hla':(x.take (most.length-j)++GF j)[((p:Int)).toNat]? =some a:=by simpa using hla
    have hml:bY most (p:Int)=some m:=by simp[bY,hmp]
    have hmb:=hm m (List.mem_of_getElem? hmp);have hab:=NF hmem p a m ha hmp;have hpn:p<most.length:=by omega
    rw[hat];refine aE 16 rfl (u:=true) (by simp) ?_
    repeat (first|refine aO (cY rfl) rfl rfl rfl ?_)
    refine aO (FT aH (i:=(p:Int)) (by omega) (by simpa using hpn) rfl rfl rfl rfl rfl rfl rfl) rfl rfl rfl ?_;refine aO (dM aH rfl rfl rfl rfl (aBR (by simpa using hla)) rfl rfl) rfl rfl rfl ?_;refine aO (NG aH hr (λ_ h=>h) rfl rfl rfl rfl rfl rfl rfl) rfl rfl rfl ?_
    repeat (first|refine dY ?_|refine aO (cY rfl) rfl rfl rfl ?_|refine aO (Is aH rfl rfl rfl rfl rfl rfl) rfl rfl rfl ?_|refine aO (Ct rfl rfl rfl) rfl rfl rfl ?_|refine aO (EB aH rfl rfl rfl rfl rfl rfl (aAC (by omega))) rfl rfl rfl ?_|refine aO (Bc rfl rfl) rfl rfl rfl ?_)
    refine⟨by kernel_rfl,?_⟩
    repeat (first|refine nT ?_)
    refine tM rfl (λh=>?_) (λh=>?_)
    .have ham:a=m:=by have:=of_decide_eq_true h;rw[hmp]at this;simpa using this
     clear h
     repeat (first|refine gU ?_|refine dF ?_|refine nT ?_|refine bA ?_|refine bC ?_|refine aO (cY rfl) rfl rfl rfl ?_)
     refine aO (FT aH (i:=(p:Int)) (by omega) (by simpa using hpn) rfl rfl rfl rfl rfl rfl rfl) rfl rfl rfl ?_;refine ae (dE aH gT (u:=(0:Int)) hla' k k k k k k) k ?_
     repeat (first|refine dY ?_|refine dF ?_|refine aO (cY rfl) rfl rfl rfl ?_)
     refine aO (uY rfl rfl) rfl rfl rfl ?_
     repeat (first|refine dY ?_|refine nT ?_|refine aU ?_|refine aO (dU rfl) rfl rfl rfl ?_)
     refine⟨j+1,⟨by omega,?_⟩,by omega,?_⟩
     .rw[show most.length-(j+1)=p by omega,Jn ha,Jn hmp,ham,show p+1=most.length-j by omega,hdr]
     .refine iU (σ:=sg [(0,0)]) ⟨⟨_,rfl,rfl⟩,⟨_,rfl,rfl⟩,⟨_,rfl,⟨rfl,rfl,rfl,rfl⟩⟩,⟨_,rfl,?_⟩,trivial⟩ ⟨⟨_,rfl,rfl,.inl ⟨?_,De _⟩⟩,rfl,trivial⟩ rfl
      .show Value.int .i64 (wr ((p:Int)-1))=_;rw[LM (by omega)];congr 1;omega
      .show(((x.take (most.length-j)++GF j).set ((p:Int)).toNat 0).map (ow eI))=(x.take (most.length-(j+1))++GF (j+1)).map (ow eI);congr 1
       have e1:x.take (most.length-j)=x.take p++[a]:=by
        rw[show most.length-j=p+1 by omega,List.take_add_one,ha];rfl
       rw[e1,show most.length-(j+1)=p by omega];have hpl:(x.take p).length=p:=by simp;omega
       rw[List.append_assoc,List.set_append_right _ _ (by rw[hpl];simp),hpl];simp[GF,List.replicate_succ]
    .have ham:a≠m:=by have:=of_decide_eq_false h;rw[hmp]at this;simpa using this
     clear h
     repeat (first|refine dY ?_|refine gU ?_|refine dF ?_|refine nT ?_|refine aS ?_|refine aO (cY rfl) rfl rfl rfl ?_|refine aO (Ct rfl rfl rfl) rfl rfl rfl ?_)
     refine tM rfl (λh=>?_) (λh=>?_)
     .have:=of_decide_eq_true h;omega
     repeat (first|refine dF ?_|refine bC ?_|refine aO (cY rfl) rfl rfl rfl ?_)
     refine aO (FT aH (i:=(p:Int)) (by omega) (by simpa using hpn) rfl rfl rfl rfl rfl rfl rfl) rfl rfl rfl ?_;refine aO (dM aH rfl rfl rfl rfl (aBR (by simpa using hla)) rfl rfl) rfl rfl rfl ?_;refine aO (dC rfl rfl) rfl rfl rfl ?_;refine aO (FT aH (i:=(p:Int)) (by omega) (by simpa using hpn) rfl rfl rfl rfl rfl rfl rfl) rfl rfl rfl ?_;refine ae (dE aH gT (u:=wr (a+1)) hla' k k k k k k) k ?_
     repeat (first|refine dY ?_|refine aU ?_)
     refine⟨x.take p++(a+1)::GF j,.inl ⟨rfl,?_⟩,?_⟩
     .rw[hsucc];have e1:x=x.take p++a::x.drop (p+1):=by rw[←Jn ha,List.take_append_drop]
      have e2:most=most.take p++m::most.drop (p+1):=by rw[←Jn hmp,List.take_append_drop]
      have e3:x.drop (p+1)=most.drop (p+1):=by rw[show p+1=most.length-j by omega];exact hdr
      have e4:=SD (mp:=most.take p) (p:=x.take p) (m:=m) (a:=a) (s:=most.drop (p+1)) (by simp;omega) ham;rw[←e2]at e4;rw[←e3,←e1]at e4;rw[e4,show(x.drop (p+1)).length=j by simp;omega]
     .refine iU (σ:=sg [(0,0)]) ⟨⟨_,rfl,rfl⟩,⟨_,rfl,rfl⟩,⟨_,rfl,⟨rfl,rfl,rfl,rfl⟩⟩,trivial⟩ ⟨⟨_,rfl,rfl,.inl ⟨?_,De _⟩⟩,rfl,trivial⟩ rfl;show(((x.take (most.length-j)++GF j).set ((p:Int)).toNat (wr (a+1))).map (ow eI))=(x.take p++(a+1)::GF j).map (ow eI);congr 1
      have e1:x.take (most.length-j)=x.take p++[a]:=by
       rw[show most.length-j=p+1 by omega,List.take_add_one,ha];rfl
      have hpl:(x.take p).length=p:=by simp;omega
      rw[LM (by omega),e1,List.append_assoc,List.set_append_right _ _ (by rw[hpl];simp),hpl];simp
   .have hjj:j=most.length:=by omega
    have hat:(most.length:Int)-1-(j:Int)= -1:=by omega
    have hxm:x=most:=by rw[hjj]at hdr;simpa using hdr
    rw[hat];refine aE 16 rfl (u:=false) (by simp) ?_
    repeat (first|refine dY ?_|refine Ha rfl rfl ?_|refine aO (Bc rfl rfl) rfl rfl rfl ?_)
    refine⟨by kernel_rfl,?_⟩
    repeat (first|refine nT ?_)
    refine tM rfl (λh=>?_) (λh=>?_)
    .cases h
    repeat (first|refine dY ?_|refine gU ?_|refine dF ?_|refine nT ?_|refine aS ?_|refine aO (cY rfl) rfl rfl rfl ?_|refine aO (Ct rfl rfl rfl) rfl rfl rfl ?_)
    refine tM rfl (λh=>?_) (λh=>?_)
    .repeat (first|refine aX ?_|refine dJ ?_|refine bS ?_)
     refine⟨x.take (most.length-j)++GF j,.inr ⟨rfl,by rw[hsucc,hxm,Kg]⟩,?_⟩;refine iU (σ:=sg [(0,0)]) ⟨⟨_,rfl,rfl⟩,⟨_,rfl,rfl⟩,⟨_,rfl,⟨rfl,rfl,rfl,rfl⟩⟩,trivial⟩ ⟨⟨_,rfl,rfl,.inl ⟨rfl,De _⟩⟩,rfl,trivial⟩ rfl
    .cases h
end
end Go.Proofs.YthpgddekfghemaaGreat

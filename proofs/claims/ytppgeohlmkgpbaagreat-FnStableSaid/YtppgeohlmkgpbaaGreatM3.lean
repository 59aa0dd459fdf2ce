/- Several texts. -/
import Derived.RangeFuncOwn
import Derived.Test.YtppgeohlmkgpbaaGreatM2
set_option linter.unusedVariables false
set_option linter.unusedSimpArgs false
namespace Go.Proofs.YtppgeohlmkgpbaaGreat
open Go.RowKit
section
structure KeepC(w w':World):Prop where
 size:w.heap.size<=w'.heap.size
 same:∀(b:Nat)(o:Obj),w.heap[b]? =some o->o.isCells=true->w'.heap[b]? =some o
theorem KeepC.cell{w w':World}(k:KeepC w w'){b o:Nat}{v:Value}(h:w.cell? ⟨b,o,none⟩=some v):w'.heap[b]? =w.heap[b]? :=by
 obtain⟨x,h1,h2⟩:=cells_of_cell h;rw[k.same b x h1 h2];exact h1.symm
mutual
theorem RepD.keepC{w w':World}(k:KeepC w w'):∀{x:AV}{v:Value}{S:List Nat},RepD w x v S->RepD w' x v S
 | .sc _,_,_,h=>by simpa only[RepD]using h
 | .list kk es,v,S,h=>by
  simp only[RepD]at h ⊢;obtain⟨a,c,h1,h2,h3,h4⟩:=h;refine⟨a,c,h1,h2,h3,?_⟩;rcases h4 with h4|⟨b,o,T,e1,e2,rfl,e4⟩
  .exact .inl h4
  .exact .inr ⟨b,o,T,e1,Nat.lt_of_lt_of_le e2 k.size,rfl,e4.keepC k⟩
 | .ref cs,v,S,h=>by
  simp only[RepD]at h ⊢;obtain⟨b,o,T,h1,h2,rfl,h4⟩:=h;exact⟨b,o,T,h1,Nat.lt_of_lt_of_le h2 k.size,rfl,h4.keepC k⟩
 | .agg cs,v,S,h=>by
  simp only[RepD]at h ⊢;obtain⟨vs,h1,h2⟩:=h;exact⟨vs,h1,h2.keepC k⟩
 | .tuple cs,v,S,h=>by
  simp only[RepD]at h ⊢;obtain⟨vs,h1,h2⟩:=h;exact⟨vs,h1,h2.keepC k⟩
 | .fn f cs,v,S,h=>by
  simp only[RepD]at h ⊢;obtain⟨vs,h1,h2⟩:=h;exact⟨vs,h1,h2.keepC k⟩
 | .nil _,_,_,h=>by simp only[RepD]at h
 | .abs _ _,_,_,h=>by simp only[RepD]at h
 | .own _ _ _,_,_,h=>by simp only[RepD]at h
 | .ptr _ _ _,_,_,h=>by simp only[RepD]at h
 | .dead,_,_,h=>by simp only[RepD]at h
theorem RepVs.keepC{w w':World}(k:KeepC w w'):∀{cs:aH}{vs:List Value}{S:List Nat},RepVs w cs vs S->RepVs w' cs vs S
 | [],_,_,h=>by simpa only[RepVs]using h
 |c::cs,vs,S,h=>by
  simp only[RepVs]at h ⊢;obtain⟨v,r,S1,S2,h1,rfl,h3,h4⟩:=h;exact⟨v,r,S1,S2,h1,rfl,h3.keepC k,h4.keepC k⟩
theorem RepCs.keepC{w w':World}(k:KeepC w w'){b:Nat}:∀{o:Nat}{cs:aH}{S:List Nat},RepCs w b o cs S->RepCs w' b o cs S
 |_,[],_,h=>by simpa only[RepCs]using h
 |o,c::cs,S,h=>by
  simp only[RepCs]at h ⊢;obtain⟨v,S1,S2,h1,h2,h3,rfl,h5,h6⟩:=h;have hb:=k.cell h1;exact⟨v,S1,S2,(TW hb).trans h1,(SD hb).trans h2,h3,rfl,h5.keepC k,h6.keepC k⟩
theorem RepEs.keepC{w w':World}(k:KeepC w w'){kk b:Nat}:∀{o:Nat}{es:List aH}{S:List Nat},RepEs w kk b o es S->RepEs w' kk b o es S
 |_,[],_,h=>by simpa only[RepEs]using h
 |o,cs::es,S,h=>by
  simp only[RepEs]at h ⊢;obtain⟨S1,S2,rfl,h2,h3,h4⟩:=h;exact⟨S1,S2,rfl,h2,h3.keepC k,h4.keepC k⟩
end
section
variable {w w':World}{h:Hp}{u:Us}{ν:Nu}(k:KeepC w w')
include k
theorem Rep1.keepC:∀{x:AV}{v:Value},Rep1 w h u ν x v->Rep1 w' h u ν x v
 | .sc _,_,r=>r
 | .nil _,_,r=>r
 | .dead,_,_=>trivial
 | .list _ _,v,⟨S,r,f⟩=>⟨S,RepD.keepC k r,f⟩
 | .ref _,v,⟨S,r,f⟩=>⟨S,RepD.keepC k r,f⟩
 | .own _ _ _,v,r=>r
 | .ptr _ _ _,v,r=>r
theorem RepB.keepC{x:AV}{v:Value}(r:RepB w h u ν x v):RepB w' h u ν x v:=by
 cases x<;>simp only[RepB]at r ⊢ <;>first
  |exact Rep1.keepC k r
  |(obtain⟨vs,h1,h2⟩:=r;exact⟨vs,h1,h2.mono (λ_ _ h=>Rep1.keepC k h)⟩)
theorem RepA.keepC{x:AV}{v:Value}(r:RepA w h u ν x v):RepA w' h u ν x v:=by
 cases x<;>simp only[RepA]at r ⊢ <;>first
  |exact RepB.keepC k r
  |(obtain⟨vs,h1,h2⟩:=r;exact⟨vs,h1,h2.mono (λ_ _ h=>RepB.keepC k h)⟩)
end
def InC(w:World)(S:List Nat):Prop:=∀b∈S,∃o,w.heap[b]? =some o/\o.isCells=true
theorem InC.app{w:World}{S T:List Nat}(h:InC w S)(k:InC w T):InC w (S++T):=λb hb=>by
 rcases fB.1 hb with h'|h'
 .exact h b h'
 .exact k b h'
theorem JU{w:World}:InC w []:=λ_ h=>by cases h
theorem aBX{w:World}{β:Nat}{T:List Nat}{o:Obj}(h:w.heap[β]? =some o)(hc:o.isCells=true)(k:InC w T):InC w (β::T):=λb hb=>by
 rcases eO.1 hb with rfl|h'
 .exact⟨o,h,hc⟩
 .exact k b h'
mutual
theorem RepO.inC{w:World}:∀{x:AV}{v:Value}{S:List Nat},RepO w x v S->InC w S
 | .sc _,_,_,h=>by simp only[RepO]at h;rw[h.2.2];exact JU
 | .list k es,v,S,h=>by
  simp only[RepO]at h;rcases h with ⟨_,_,rfl⟩|⟨β,c,arr,ty,T,vs,_,h2,_,_,_,_,rfl,_,h9⟩
  .exact JU
  .exact aBX h2 rfl h9.inC
 | .nil _,_,_,h=>by simp only[RepO]at h
 | .abs _ _,_,_,h=>by simp only[RepO]at h
 | .ref _,_,_,h=>by simp only[RepO]at h
 | .agg _,_,_,h=>by simp only[RepO]at h
 | .tuple _,_,_,h=>by simp only[RepO]at h
 | .fn _ _,_,_,h=>by simp only[RepO]at h
 | .own _ _ _,_,_,h=>by simp only[RepO]at h
 | .ptr _ _ _,_,_,h=>by simp only[RepO]at h
 | .dead,_,_,h=>by simp only[RepO]at h
theorem RepOV.inC{w:World}:∀{cs:aH}{vs:List Value}{S:List Nat},RepOV w cs vs S->InC w S
 | [],_,_,h=>by simp only[RepOV]at h;rw[h.2];exact JU
 |c::cs,vs,S,h=>by
  simp only[RepOV]at h;obtain⟨v,r,S1,S2,_,rfl,_,h4,h5⟩:=h;exact h4.inC.app h5.inC
theorem RepOE.inC{w:World}:∀{es:List aH}{vs:List Value}{S:List Nat},RepOE w es vs S->InC w S
 | [],_,_,h=>by simp only[RepOE]at h;rw[h.2];exact JU
 |cs::es,vs,S,h=>by
  simp only[RepOE]at h;obtain⟨v1,v2,S1,S2,_,rfl,h3,h4⟩:=h;exact h3.inC.app h4.inC
end
theorem CellRep.inC{w:World}{h:Hp}{u:Us}{ν:Nu}{x:AV}{v:Value}{S:List Nat}(r:CellRep w h u ν x v S):InC w S:=by
 cases x<;>simp only[CellRep]at r<;>first
  |exact RepO.inC r
  |(rw[r.2];exact JU)
theorem CellsRep.inC{w:World}{h:Hp}{u:Us}{ν:Nu}:∀{cs:aH}{vs:List Value}{S:List Nat},CellsRep w h u ν cs vs S->InC w S
 | [],_,_,r=>by rw[r.2];exact JU
 |c::cs,vs,S,⟨v,r,S1,S2,h1,h2,h3,h4⟩=>by subst h2;exact h3.inC.app h4.inC
theorem CellRep.keepC{w w':World}(k:KeepC w w'){h:Hp}{u:Us}{ν:Nu}{x:AV}{v:Value}{S:List Nat}(r:CellRep w h u ν x v S):CellRep w' h u ν x v S:=by
 have hk:∀b∈S,w'.heap[b]? =w.heap[b]? :=λb hb=>by obtain⟨o,h1,h2⟩:=r.inC b hb;rw[k.same b o h1 h2];exact h1.symm
 cases x<;>simp only[CellRep]at r ⊢ <;>first
  |exact⟨Rep1.keepC k r.1,r.2⟩
  |(obtain⟨⟨vs,h1,h2⟩,h3⟩:=r;exact⟨⟨vs,h1,h2.mono (λ_ _ h=>Rep1.keepC k h)⟩,h3⟩)
  |exact r.keep hk
  |exact r
theorem CellsRep.keepC{w w':World}(k:KeepC w w'){h:Hp}{u:Us}{ν:Nu}:∀{cs:aH}{vs:List Value}{S:List Nat},CellsRep w h u ν cs vs S->CellsRep w' h u ν cs vs S
 | [],_,_,r=>r
 |c::cs,vs,S,⟨v,r,S1,S2,h1,h2,h3,h4⟩=>by subst h2;exact⟨v,r,S1,S2,h1,rfl,h3.keepC k,h4.keepC k⟩
theorem BlkOk.keepC{w w':World}(k:KeepC w w'){h:Hp}{u:Us}{ν:Nu}{b:Nat}{blk:Blk}{S:List Nat}(r:BlkOk w h u ν b blk S):BlkOk w' h u ν b blk S:=by
 refine⟨r.1,?_⟩;rcases r.2 with ⟨h1,h2,h3⟩|⟨β,c,arr,ty,T,vs,h1,h2,h3,h4,h5,rfl,h7,h8⟩
 .exact .inl ⟨h1,h2,h3⟩
 .exact .inr ⟨β,c,arr,ty,T,vs,h1,k.same _ _ h2 rfl,h3,h4,h5,rfl,h7,h8.keepC k⟩
theorem HeapOk.keepC{w w':World}(k:KeepC w w'){M:Nat->Prop}{h:Hp}{u:Us}{ν:Nu}{φ:Nat->List Nat}(r:HeapOk M w h u ν φ):HeapOk M w' h u ν φ:=
 ⟨λb blk hb=>by obtain⟨g1,g2,g3,g4⟩:=r.blk b blk hb;exact⟨g1,g2.keepC k,g3,g4⟩,r.apart⟩
theorem Sim.turn{C:Ctx}{s:AState}{ν:Nu}{a a':Act}{w w':World}(hs:Sim C s ν a w)(k:KeepC w w')(hb:Below C.B C.w0 w')(hE:∀x,x<C.wE.heap.size->w'.heap[x]? =w.heap[x]?)(ht:a'.tmps=a.tmps)(hd:OkD C w' a'.defers):Sim C s ν a' w':=
 ⟨hb,Nat.le_trans hs.base k.size,λx hx=>hs.fresh x (Nat.le_trans k.size hx),hd,by rw[ht];exact hs.size,λt x hx=>by obtain⟨v,h1,h2⟩:=hs.env t x hx;exact⟨v,by rw[ht];exact h1,h2.keepC k⟩,by obtain⟨φ,hh⟩:=hs.heap;exact⟨φ,hh.keepC k⟩,hs.kp,⟨hs.ext.used,hs.ext.old,λx hx hF=>⟨(hE x hx).trans (hs.ext.free x hx hF).1,(hs.ext.free x hx hF).2⟩,hs.ext.okE⟩,Nat.le_trans hs.szE k.size,hs.okM,hs.okF⟩
theorem JV{B D:Nat}{w0 w:World}{o:Obj}(h:Below B w0 w)(hD:B<=D):Below B w0 (w.putObj D o):=
 ⟨h.os,h.tape,h.output,by rw[World.putObj_size];exact h.size,λb hb=>(World.putObj_heap_other (by omega)).trans (h.block b hb)⟩
theorem JW{w:World}{D:Nat}{o o':Obj}(h:w.heap[D]? =some o')(hc:o'.isCells=false):KeepC w (w.putObj D o):=
 ⟨by rw[World.putObj_size];exact bD _,λb x hb hx=>by
  have:b≠D:=by rintro rfl;rw[h]at hb;cases hb;rw[hc]at hx;cases hx
  rw[World.putObj_heap_other this];exact hb⟩
theorem Sim.leave{P:Program}{C:Ctx}{s:AState}{ν:Nu}{n:Nat}:∀{Ds:List Nat}{a:Act}{w:World},Sim C s ν a w->a.defers=Ds.map (λD=> { target:=.collected D,args:= #[] })->(Ds.Nodup/\(C.kp.rd0=false->Ds=[]))->(∀D∈Ds,C.wE.heap.size<=D/\C.B<=D/\w.heap[D]? =some (.deferred (some [])))->
  ∃w',Sim C s ν { a with defers:=[] } w'/\∀(fn:Func)(R:Ending->World->Prop),(∃v,(results fn a.tmps).run P w'= .ok v w'/\R (.returned v) w')->LeavesInM (fw none) n P fn a.tmps R a.defers .returning w
 | [],a,w,hs,ha,_,_=>by
  refine⟨w,hs.turn ⟨bD _,λ_ _ h _=>h⟩ hs.below (λ_ _=>rfl) rfl yE,λfn R h=>?_⟩;rw[ha];exact h
 |D::Ds,a,w,hs,ha,hn,hD=>by
  obtain⟨d1,d2,d3⟩:=hD D (by simp);obtain⟨n1,n2⟩:=List.nodup_cons.1 hn.1;have n3:Ds.Nodup/\(C.kp.rd0=false->Ds=[]):=⟨n2,λh=>by cases hn.2 h⟩
  have hrest:∀x∈Ds,C.wE.heap.size<=x/\C.B<=x/\(w.putObj D (.deferred none)).heap[x]? =some (.deferred (some [])):=λx hx=>by
   obtain⟨q1,q2,q3⟩:=hD x (by simp[hx]);exact⟨q1,q2,(World.putObj_heap_other (by rintro rfl;exact n1 hx)).trans q3⟩
  have hs2:Sim C s ν { a with defers:=Ds.map (λD=> { target:=.collected D,args:= #[] }) } (w.putObj D (.deferred none)):=
   hs.turn (JW d3 rfl) (JV hs.below d2) (λx hx=>World.putObj_heap_other (by omega)) rfl ⟨Ds,rfl,n3,hrest⟩
  obtain⟨w',h1,h2⟩:=Sim.leave (P:=P) (n:=n) hs2 rfl n3 hrest;refine⟨w',h1,λfn R h=>?_⟩;rw[ha];exact⟨by simp,.inl ⟨D,_,rfl,run_takeDeferred d3,h2 fn R h⟩⟩
end
section
def Tg(T:List (Nat×Ty))(s:AState):ResultVar->Option AV
 | .tmp t=>s.env t
 | .cell a ty=>match s.env a with
  |some (.ptr b i j)=>match s.heap b with
   |some blk=>match blk.es[i]? with
    |some cs=>match dD T ty with
     |some y=>bif(y.desc.isAgg||Nat.beq y.size 1)&&Nat.ble (j+y.size) cs.length then some (BP y.desc.isAgg (((cs.drop j).take y.size).map Ge))else none
     |none=>none
    |none=>none
   |none=>none
  |_=>none
def DG(T:List (Nat×Ty))(s:AState):List ResultVar->Option aH
 | []=>some []
 |x::r=>match Tg T s x,DG T s r with
  |some v,some vs=>some (v::vs)
  |_,_=>none
theorem XH{P:Program}{T:List (Nat×Ty)}(hT:TyOk P T){C:Ctx}{s:AState}{ν:Nu}{a:Act}{w:World}(hs:Sim C s ν a w){x:ResultVar}{v:AV}(h:Tg T s x=some v):
  ∃u,(match x with| .tmp t=>pure (a.tmps.getD t undef)| .cell b t=>do loadVar t (←asAddr (a.tmps.getD b undef)):Sem Value).run P w= .ok u w/\RepA w s.heap s.used ν v u:=by
 cases x with
 |tmp t=>
  obtain⟨u,h1,h2⟩:=hs.env t v h;refine⟨u,?_,h2⟩;simp[Array.getD_eq_getD_getElem?,h1]
 |cell b0 ty=>
  simp only[Tg]at h;split at h<;>first|cases h|skip
  rename_i b i j he;split at h<;>first|cases h|skip
  rename_i blk hb;split at h<;>first|cases h|skip
  rename_i cs hi;split at h<;>first|cases h|skip
  rename_i y hy;obtain⟨u0,h1,h2⟩:=hs.env b0 _ he;simp only[RepA,RepB,Rep1]at h2;obtain⟨β,c,h3,h4⟩:=h2.2 blk hb;cases hc:((y.desc.isAgg||Nat.beq y.size 1)&&Nat.ble (j+y.size) cs.length)with
  |false=>rw[hc]at h;cases h
  |true=>
   rw[hc]at h;simp only[aG,Option.some.injEq]at h;subst h;simp only[bX]at hc;obtain⟨g1,g2⟩:=hc;have g2':=Nat.le_of_ble_eq_true g2;have hl:=Lo (P:=P) (T:=T) hT (dst:=none) (ty:=0) (pos:= "") (aft:= #[]) (g:=none) (ins:=λo=>s.ev o) (hp:=s.heap) (κ:=s.kp) (x:=.tmp b0) (t:=ty) hy g1 he hb hi g2';obtain⟨φ,hh⟩:=hs.heap;obtain⟨β',c',vs,e1,e2,e3,e4⟩:=hh.cells hs.okM hb hi g2';rw[h3]at e1;cases e1;obtain⟨ii,z,d,hy'⟩:=hT.is hy;have hr:=qA (P:=P) hy' (w:=w) (b:=β) (o:=i*blk.k+j) (vs:=vs) e2 (λhg=>by rw[hg]at g1;simpa using Nat.eq_of_beq_eq_true g1) (λm u hu=>(e4 m u hu).1);refine⟨_,by simp only[Array.getD_eq_getD_getElem?,h1,dI,h4,asAddr,Sem.run_bind,Sem.run_pure,Result.andThen_ok];exact hr,?_⟩;cases hg:y.desc.isAgg with
   |true=>
    simp only[BP,aG,if_true,RepA,RepB];exact⟨vs,rfl,e3⟩
   |false=>
    rw[hg]at g1;have hs1:y.size=1:=Nat.eq_of_beq_eq_true (by simpa using g1);simp only[BP,aN];revert e2 e3;generalize ((cs.drop j).take y.size).map Ge=ds;intro e2 e3
    match ds,vs,e3 with
    | [],vs,e3=>simp only[All2]at e3;subst e3;simp[hs1]at e2
    |d::ds,vs,e3=>
     obtain⟨v,r,rfl,e6,e7⟩:=e3;simp only[List.headD_cons,List.getElem?_cons_zero,dI];exact e6.repA
theorem DV{P:Program}{T:List (Nat×Ty)}(hT:TyOk P T){C:Ctx}{s:AState}{ν:Nu}{a:Act}{w:World}(hs:Sim C s ν a w):∀{xs:List ResultVar}{vs:aH},DG T s xs=some vs->
  ∃us,(xs.mapM λ| .tmp t=>pure (a.tmps.getD t undef)| .cell b t=>do loadVar t (←asAddr (a.tmps.getD b undef)):Sem (List Value)).run P w= .ok us w/\All2 (RepA w s.heap s.used ν) vs us
 | [],vs,h=>by simp only[DG,Option.some.injEq]at h;subst h;exact⟨[],by simp,rfl⟩
 |x::xs,vs,h=>by
  simp only[DG]at h;split at h
  .rename_i v vs' h1 h2;cases h;obtain⟨u,e1,e2⟩:=XH hT hs h1;obtain⟨us,e3,e4⟩:=DV hT hs h2;refine⟨u::us,?_,u,us,rfl,e2,e4⟩;rw[List.mapM_cons,Sem.run_bind,e1,Result.andThen_ok,Sem.run_bind,e3];simp
  .cases h
def Ig:AV->AV->Prop
 | .sc u,.sc v=>u=v
 | .abs k es,.list k' es'=>k=k'/\es=es'
 | .nil _,.list _ es=>es=[]
 |_,_=>False
def Ku(h:Hp):AV->AV->Prop
 | .sc u,.sc v=>u=v
 | .nil _,.list _ es=>es=[]
 | .own b i n,.list k es=>i=0/\∃blk,h b=some blk/\blk.es.length=n/\blk.k=k/\All2 (All2 Ig) blk.es es
 |_,_=>False
def Oc(h:Hp):AV->AV->Prop
 | .agg cs,.agg ds=>All2 (Ku h) cs ds
 |x,d=>Ku h x d
def SP:AV->List Nat
 | .own b _ _=>[b]
 |_=>[]
def SQ:AV->List Nat
 | .agg cs=>cs.flatMap SP
 |x=>SP x
def Pz(h:Hp)(vs:aH)(r:AV):Prop:=
 match vs,r with
 | [v],r=>Oc h v r/\∀cs,r≠ .tuple cs
 |vs,.tuple rs=>vs.length≠1/\All2 (Oc h) vs rs
 |_,_=>False
def pK:List Nat->Bool
 | []=>true
 |x::r=>(r.all λy=> !Nat.beq x y)&&pK r
theorem Cc:∀{l:List Nat},pK l=true->l.Nodup
 | [],_=>by simp
 |x::r,h=>by
  simp only[pK,bX,List.all_eq_true]at h;refine List.nodup_cons.2 ⟨λhm=>?_,Cc h.2⟩;have:=h.1 x hm;simp at this
theorem Kv{w:World}{h:Hp}{u:Us}{ν:Nu}:∀{cs ds:aH}{vs:List Value}{S:List Nat},CellsRep w h u ν cs vs S->All2 Ig cs ds->RepOV w ds vs S
 | [],ds,vs,S,r,m=>by simp only[All2]at m;subst m;obtain⟨rfl,rfl⟩:=r;simp[RepOV]
 |c::cs,ds,vs,S,⟨v,q,S1,S2,h1,h2,h3,h4⟩,⟨d,p,hp,m1,m2⟩=>by
  subst h1;subst h2;subst hp;have e1:=Kv h4 m2
  have key:RepO w d v S1/\v.oneCell'=true:=by
   cases c<;>cases d<;>simp only[Ig]at m1
   .obtain⟨⟨rfl,h5⟩,rfl⟩:=h3;subst m1;exact⟨Yd h5,h5⟩
   .obtain⟨h5,rfl⟩:=h3;subst m1;simp only[Rep1]at h5;subst h5;exact⟨Ll,rfl⟩
   .obtain⟨rfl,rfl⟩:=m1;refine⟨h3,?_⟩;have h3':=RepO.repD h3;simp only[RepD]at h3';obtain⟨a,c,rfl,_⟩:=h3';rfl
  simp only[RepOV];exact⟨v,q,S1,S2,rfl,rfl,key.2,key.1,e1⟩
theorem HU{R:AV->AV->Prop}:∀{es fs:List aH},All2 (All2 R) es fs->All2 R es.flatten fs.flatten
 | [],fs,h=>by simp only[All2]at h;subst h;rfl
 |c::es,fs,⟨d,q,h1,h2,h3⟩=>by
  subst h1;rw[List.flatten_cons,List.flatten_cons];exact h2.append (HU h3)
theorem NE{R:AV->AV->Prop}{k:Nat}:∀{es fs:List aH},All2 (All2 R) es fs->(∀c∈es,c.length=k)->∀c∈fs,c.length=k
 | [],fs,h,_,c,hc=>by simp only[All2]at h;subst h;cases hc
 |e::es,fs,⟨d,q,h1,h2,h3⟩,hk,c,hc=>by
  subst h1;rcases eO.1 hc with rfl|h
  .rw[h2.len];exact hk e (by simp)
  .exact NE h3 (λx hx=>hk x (by simp[hx])) c h
theorem QA{B:Nat->Prop}{w:World}{h:Hp}{u:Us}{ν:Nu}{φ:Nat->List Nat}(hh:HeapOk B w h u ν φ){x d:AV}{v:Value}(r:Rep1 w h u ν x v)(m:Ku h x d):
  ∃S,Eb w d v S/\S.Nodup/\(∀y∈S,B y)/\∀y∈S,∃b∈SP x,h b≠none/\y∈φ b:=by
 cases x<;>cases d<;>simp only[Ku]at m
 .subst m;exact⟨[],⟨r.1,r.2,rfl⟩,by simp,by simp,by simp⟩
 .subst m;exact⟨[],.inl ⟨rfl,r,rfl⟩,by simp,by simp,by simp⟩
 .rename_i b i n k es;obtain⟨rfl,blk,hb,rfl,rfl,m⟩:=m;obtain⟨r1,r2,r3⟩:=r.2 blk hb;obtain⟨_,⟨hk,hx⟩,hnd,hB⟩:=hh.blk b blk hb;rcases hx with ⟨q1,q2,q3⟩|⟨β,c,arr,ty,T,vs,q1,q2,q3,q4,q5,q6,q7,q8⟩
  .rw[q2]at m;simp only[All2]at m;subst m;exact⟨[],.inl ⟨rfl,r2 q1,rfl⟩,by simp,by simp,by simp⟩
  .have hl:es.length=blk.es.length:=m.len;have e1:=Kv q8 (HU m);have e3:=(r3 β c q1).zero;refine⟨φ b,.inr ⟨β,c,arr,ty,T,vs,by rw[hl];exact e3,q2,q3,by rw[hl];exact q4,q5,NE m hk,q6,by rw[hl];exact q7,e1⟩,hnd,hB,λy hy=>⟨b,by simp[SP],by rw[hb];simp,hy⟩⟩
theorem Yk{B:Nat->Prop}{w:World}{h:Hp}{u:Us}{ν:Nu}{φ:Nat->List Nat}(hh:HeapOk B w h u ν φ){S1 S2 o1 o2:List Nat}(hn:(o1++o2).Nodup)(h1:∀y∈S1,∃b∈o1,h b≠none/\y∈φ b)(h2:∀y∈S2,∃b∈o2,h b≠none/\y∈φ b):∀y∈S1,y ∉ S2:=by
 intro y hy hy2;obtain⟨b,g1,g2,g3⟩:=h1 y hy;obtain⟨c,k1,k2,k3⟩:=h2 y hy2;exact hh.apart b c y g2 k2 (λe=>(List.nodup_append.1 hn).2.2 b g1 c k1 e) g3 k3
theorem SR{B:Nat->Prop}{w:World}{h:Hp}{u:Us}{ν:Nu}{φ:Nat->List Nat}(hh:HeapOk B w h u ν φ):∀{xs ds:aH}{vs:List Value},All2 (Rep1 w h u ν) xs vs->All2 (Ku h) xs ds->(xs.flatMap SP).Nodup->
  ∃S,Lv w ds vs S/\S.Nodup/\(∀y∈S,B y)/\∀y∈S,∃b∈xs.flatMap SP,h b≠none/\y∈φ b
 | [],ds,vs,r,m,_=>by simp only[All2]at r m;subst r;subst m;exact⟨[],⟨rfl,rfl⟩,by simp,by simp,by simp⟩
 |x::xs,ds,vs,⟨v,q,h1,h2,h3⟩,⟨d,p,g1,g2,g3⟩,hn=>by
  subst h1;subst g1;rw[List.flatMap_cons]at hn;obtain⟨S1,a1,a2,a3,a4⟩:=QA hh h2 g2;obtain⟨S2,b1,b2,b3,b4⟩:=SR hh h3 g3 (List.nodup_append.1 hn).2.1;have hap:=Yk hh hn a4 b4;refine⟨S1++S2,⟨v,q,S1,S2,rfl,rfl,a1,b1⟩,List.nodup_append.2 ⟨a2,b2,λx hx y hy e=>hap x hx (e▸hy)⟩,?_,?_⟩
  .intro y hy;rcases fB.1 hy with h|h
   .exact a3 y h
   .exact b3 y h
  .intro y hy;rw[List.flatMap_cons];rcases fB.1 hy with h|h
   .obtain⟨b,c1,c2⟩:=a4 y h;exact⟨b,List.mem_append_left _ c1,c2⟩
   .obtain⟨b,c1,c2⟩:=b4 y h;exact⟨b,List.mem_append_right _ c1,c2⟩
theorem Lx{B:Nat->Prop}{w:World}{h:Hp}{u:Us}{ν:Nu}{φ:Nat->List Nat}(hh:HeapOk B w h u ν φ){x d:AV}{v:Value}(r:RepA w h u ν x v)(m:Oc h x d)(hn:(SQ x).Nodup):
  ∃S,Zh w d v S/\S.Nodup/\(∀y∈S,B y)/\∀y∈S,∃b∈SQ x,h b≠none/\y∈φ b:=by
 by_cases ho:∃cs ds,x= .agg cs/\d= .agg ds
 .obtain⟨cs,ds,rfl,rfl⟩:=ho;obtain⟨vs,rfl,r⟩:=r;obtain⟨S,a1,a2,a3,a4⟩:=SR hh r m hn;exact⟨S,⟨vs,rfl,a1⟩,a2,a3,a4⟩
 .have m':Ku h x d:=by cases x<;>cases d<;>first|exact m|exact absurd ⟨_,_,rfl,rfl⟩ ho
  have r':Rep1 w h u ν x v:=by cases x<;>first|exact r|(cases d<;>exact m'.elim)
  obtain⟨S,a1,a2,a3,a4⟩:=QA hh r' m';refine⟨S,?_,a2,a3,?_⟩
  .cases d<;>first|exact a1|(cases x<;>exact m'.elim)
  .cases x<;>first|exact a4|(cases d<;>exact m'.elim)
theorem JX{B:Nat->Prop}{w:World}{h:Hp}{u:Us}{ν:Nu}{φ:Nat->List Nat}(hh:HeapOk B w h u ν φ):∀{xs ds:aH}{vs:List Value},All2 (RepA w h u ν) xs vs->All2 (Oc h) xs ds->(xs.flatMap SQ).Nodup->
  ∃S,Yg w ds vs S/\S.Nodup/\(∀y∈S,B y)/\∀y∈S,∃b∈xs.flatMap SQ,h b≠none/\y∈φ b
 | [],ds,vs,r,m,_=>by simp only[All2]at r m;subst r;subst m;exact⟨[],⟨rfl,rfl⟩,by simp,by simp,by simp⟩
 |x::xs,ds,vs,⟨v,q,h1,h2,h3⟩,⟨d,p,g1,g2,g3⟩,hn=>by
  subst h1;subst g1;rw[List.flatMap_cons]at hn;obtain⟨S1,a1,a2,a3,a4⟩:=Lx hh h2 g2 (List.nodup_append.1 hn).1;obtain⟨S2,b1,b2,b3,b4⟩:=JX hh h3 g3 (List.nodup_append.1 hn).2.1;have hap:=Yk hh hn a4 b4;refine⟨S1++S2,⟨v,q,S1,S2,rfl,rfl,a1,b1⟩,List.nodup_append.2 ⟨a2,b2,λx hx y hy e=>hap x hx (e▸hy)⟩,?_,?_⟩
  .intro y hy;rcases fB.1 hy with h|h
   .exact a3 y h
   .exact b3 y h
  .intro y hy;rw[List.flatMap_cons];rcases fB.1 hy with h|h
   .obtain⟨b,c1,c2⟩:=a4 y h;exact⟨b,List.mem_append_left _ c1,c2⟩
   .obtain⟨b,c1,c2⟩:=b4 y h;exact⟨b,List.mem_append_right _ c1,c2⟩
def Ih:Exit->Bool
 | .ret=>true
 | .normal=>true
 |_=>false
def Od(T:List (Nat×Ty))(rvs:List ResultVar)(r:AV)(e:Exit)(s:AState):Prop:=Ih e=true/\∃vs,DG T s rvs=some vs/\pK (vs.flatMap SQ)=true/\Pz s.heap vs r
def Ii:aH->Nat->Option AV
 | [],_=>none
 |d::_,0=>some d
 |_::r,n+1=>Ii r n
def zQ:AV->Bool
 | .agg cs=>cs.all eC
 | .fn _ cs=>cs.all eC
 |x=>eC x
def s0(ds:aH)(ns:List Nat):AState:=⟨Ii ds,λ_=>none,λ_=>false,ns,0⟩
theorem SS{ν:Nu}(ho:∀x,ν.ok x)(x:Nat):mM (λ_=>none) ν x:=⟨λ_ _ _ _ h=>(by cases h),ho x⟩
theorem aEF{w:World}{u:Us}{ν:Nu}{d:AV}{v:Value}{S:List Nat}(r:RepD w d v S)(ok:zQ d=true)(ho:∀x,ν.ok x):RepA w (λ_=>none) u ν d v:=by
 cases d<;>simp only[zQ]at ok<;>first
  |(simp only[RepD]at r
    obtain⟨vs,h1,h2⟩:=r
    exact⟨vs,h1,h2.rep1 ok (λy _=>SS ho y)⟩)
  |exact(r.rep1 ok (λy _=>SS ho y)).repA
theorem VM{w:World}{u:Us}{ν:Nu}(ho:∀x,ν.ok x):∀{ds:aH}{vs:List Value}{S:List Nat},RepVs w ds vs S->ds.all zQ=true->∀t x,Ii ds t=some x->∃v,vs[t]? =some v/\RepA w (λ_=>none) u ν x v
 | [],_,_,_,_,t,x,h=>by cases h
 |d::ds,vs,S,r,ok,t,x,h=>by
  simp only[RepVs]at r;obtain⟨v,q,S1,S2,rfl,rfl,h3,h4⟩:=r;simp only[List.all_cons,bX]at ok;cases t with
  |zero=>simp only[Ii,Option.some.injEq]at h;subst h;exact⟨v,rfl,aEF h3 ok.1 ho⟩
  |succ t=>simpa using VM ho h4 ok.2 t x (by simpa only[Ii]using h)
theorem AG{P:Program}{T:List (Nat×Ty)}(hT:TyOk P T){f:FuncId}{fn:Func}{c:Code}{nt:Nat}{ds:aH}{r:AV}{rvs:List ResultVar}{ns:List Nat}(hf:P.funcs[f]? =some fn)(hb:fn.body=some c)(hname:(fn.name== "runtime.NumGoroutine")=false)(hnt:fn.ntmps=nt)(hres:fn.results.toList=rvs)
  (hlen:Nat.ble ds.length nt=true) (hok:ds.all zQ=true) (h:AC P nt c (s0 ds ns) (Od T rvs r)):HasC P f ds r:=by
 refine⟨Enters.mk hf (by rw[hb];rfl) hname,λw args S hargs=>?_⟩;refine(callsIn_wide (n:=0)).1 (callsIn_of_wp_marks (F:=fw none) hf hb trivial ?_);have hlen':=Nat.le_of_ble_eq_true hlen;have hal:args.size=ds.length:=by have:=hargs.len;simpa using this
 let C:Ctx:=⟨w.heap.size,w,nt,λx=>w.heap.size<=x,λ_ h=>h,0,w,λ_=>none,Nu.none,λ_=>True,λ_ x hx hm=>absurd hx (Nat.not_lt.2 hm),(λ_ h=>by cases h),none,λ_=>rfl⟩
 have hsim:Sim C (s0 ds ns) Nu.none ⟨args++Array.replicate (fn.ntmps-args.size) undef,[]⟩ w:=by
  refine⟨Below.refl _ _,bD _,λ_ hx=>hx,yE,by show(args++Array.replicate (fn.ntmps-args.size) undef).size=nt;simp[hnt];omega,?_,⟨λ_=>[],λb blk hb=>(by cases hb),λb c x hb=>absurd rfl hb⟩,rfl,⟨λb hb=>absurd (Nat.le_of_ble_eq_true (n:=b+1) (m:=0) hb) (Nat.not_succ_le_zero b),λb blk' hb=>absurd (Nat.le_of_ble_eq_true (n:=b+1) (m:=0) hb) (Nat.not_succ_le_zero b),λx _ _=>⟨rfl,λb blk β c hb=>by cases hb⟩,rfl⟩,bD _,λ_ _=>trivial,λ_ _ _ _=>trivial⟩;intro t x hx;obtain⟨v,h1,h2⟩:=VM (u:=λ_=>false) (ν:=Nu.none) (λ_=>trivial) hargs hok t x hx;refine⟨v,?_,h2⟩
  have hlt:t<args.size:=by
   rcases dX t args.size with h'|h'
   .exact h'
   .rw[jX (by simpa using h')]at h1;cases h1
  show(args++Array.replicate (fn.ntmps-args.size) undef)[t]? =some v;rw[Array.getElem?_append_left hlt];simpa using h1
 refine wpIn_mono (h.out C rfl _ _ w hsim 0) λe a' w0 ⟨s',ν',hq,hs0⟩=>?_;obtain⟨Ds,d1,d2,d3⟩:=hs0.defers;obtain⟨w',hs',hleave⟩:=hs0.leave (P:=P) (n:=0) d1 d2 d3;obtain⟨he,avs,hv,hn,hfz⟩:=hq;obtain⟨us,h1,h2⟩:=DV hT hs' hv;obtain⟨φ,hh⟩:=hs'.heap;have hn':=Cc hn
 have hrun:(results fn a'.tmps).run P w'= .ok (if hh:us.toArray.size=1 then us.toArray[0]else .tuple us.toArray) w':=by
  unfold results;rw[Sem.run_bind,Array.mapM_eq_mapM_toList,Sem.run_map,hres];have h1':=h1;generalize hq:(List.mapM _ rvs:Sem (List Value))=m;rw[show Sem.run P m w'= .ok us w' by rw[←hq];exact h1'];simp
 have hres2:∃S',Pw w' r (if hh:us.toArray.size=1 then us.toArray[0]else .tuple us.toArray) S'/\New w.heap.size S':=by
  have hul:us.length=avs.length:=h2.len;unfold Pz at hfz;split at hfz
  .rename_i v r';obtain⟨u,q,rfl,g1,g2⟩:=h2;simp only[All2]at g2;subst g2;simp only[List.flatMap_cons,List.flatMap_nil,List.append_nil]at hn';obtain⟨S',a1,a2,a3,a4⟩:=Lx hh g1 hfz.1 hn';refine⟨S',?_,a2,a3⟩;simp only[List.size_toArray,List.length_cons,List.length_nil,Nat.zero_add,dite_true];have hnt:=hfz.2;cases r<;>first|exact a1|exact absurd rfl (hnt _)
  .rename_i vs rs _;obtain⟨S',a1,a2,a3,a4⟩:=JX hh h2 hfz.2 hn';refine⟨S',?_,a2,a3⟩;rw[dif_neg (by simp;rw[hul];exact hfz.1)];exact⟨us,rfl,a1⟩
  .exact hfz.elim
 obtain⟨S',hr1,hr2⟩:=hres2;have hend:=hleave fn (λe w'=>∃v S',e= .returned v/\Below w.heap.size w w'/\Pw w' r v S'/\New w.heap.size S') ⟨_,hrun,_,S',rfl,hs'.below,hr1,hr2⟩;cases e<;>simp only[Ih,gC]at he<;>exact hend
abbrev AV.int(n:Int):AV:=.sc (.int .i64 n)
abbrev AV.bl(b:Bool):AV:=.sc (.bool b)
abbrev AV.str(b:ByteArray):AV:=.sc (.string b)
def GO:aH->Nat->aH->aH
 | [],_,_=>[]
 |c::cs,0,[]=>c::cs
 |_::cs,0,v::vs=>v::GO cs 0 vs
 |c::cs,j+1,vs=>c::GO cs j vs
section
variable {P:Program}{T:List (Nat×Ty)}(hT:TyOk P T){dst:Option Tmp}{ty:TypeId}{pos:String}{aft:Array Edge}{g:Option (Nat×Bool)}{s:AState}
def aEG:BinOp->Int->Int->Option Bool
 | .eql,a,b=>some (decide (a=b))
 | .neq,a,b=>some (!decide (a=b))
 | .lss,a,b=>some (decide (a<b))
 | .leq,a,b=>some (decide (a<=b))
 | .gtr,a,b=>some (decide (b<a))
 | .geq,a,b=>some (decide (b<=a))
 |_,_,_=>none
theorem IC{op:BinOp}{t t':TypeId}{x y:Operand}{k:IntKind}{a b:Int}{c:Bool}(hx:s.ev x=some (.sc (.int k a)))(hy:s.ev y=some (.sc (.int k b)))(hc:aEG op a b=some c):AEff P ⟨dst,.binOp op t x y t',ty,pos,aft,g⟩ s.ev s.heap s.kp ⟨.bl c,[],[],[]⟩:=
 rI hx hy rfl λw=>by
  have e1:decide (a=b)=(a==b):=by by_cases h:a=b<;>simp[h]
  cases op<;>simp only[aEG]at hc<;>cases hc
  .rw[e1];simp[eqGuard,binOp,Op.intCmp]
  .rw[e1];simp[eqGuard,binOp,Op.intCmp];rfl
  all_goals simp[eqGuard,binOp,Op.intCmp]
theorem dY{t:TypeId}{x:Operand}{b:Bool}(hx:s.ev x=some (.bl b)):AEff P ⟨dst,.unOp .not t x,ty,pos,aft,g⟩ s.ev s.heap s.kp ⟨.bl (!b),[],[],[]⟩:=
 aBP hx rfl λw=>by simp[Op.unary]
include hT
theorem Zj{x ix:Operand}{t e k:Nat}{y ye:Ty}{es:List aH}{kk:IntKind}{i:Int}{cs:aH}(hy:dD T t=some y)(hd:y.desc= .slice e)(hye:dD T e=some ye)(hk:ye.size=k)
  (hx:s.ev x=some (.list k es)) (hix:s.ev ix=some (.sc (.int kk i))) (h0:0<=i) (hm:es[i.toNat]? =some cs):AEff P ⟨dst,.indexAddr t x ix,ty,pos,aft,g⟩ s.ev s.heap s.kp ⟨.ref cs,[],[],[]⟩:=
 FA hT hy hd hye hk hx (by rw[hix,show((i.toNat:Nat):Int)=i by omega]) hm
theorem VN{x ix:Operand}{t e:Nat}{y ye:Ty}{b i n:Nat}{blk:Blk}{kk:IntKind}{j:Int}(hy:dD T t=some y)(hd:y.desc= .slice e)(hye:dD T e=some ye)(hx:s.ev x=some (.own b i n))(hb:s.heap b=some blk)(hk:ye.size=blk.k)
  (hix:s.ev ix=some (.sc (.int kk j))) (h0:0<=j) (hm:j<n):AEff P ⟨dst,.indexAddr t x ix,ty,pos,aft,g⟩ s.ev s.heap s.kp ⟨.ptr b (i+j.toNat) 0,[b],[],[]⟩:=
 Lq hT hy hd hye hb hk hx (by rw[hix,show((j.toNat:Nat):Int)=j by omega]) (by omega)
theorem eT{x:Operand}{t:Nat}{y:Ty}{b i j:Nat}{blk:Blk}{cs:aH}{v:AV}(hx:s.ev x=some (.ptr b i j))(hb:s.heap b=some blk)(hy:dD T t=some y)(h1:(y.desc.isAgg||Nat.beq y.size 1)=true)(hi:blk.es[i]? =some cs)(hn:Nat.ble (j+y.size) cs.length=true)
  (hv:BP y.desc.isAgg (((cs.drop j).take y.size).map Ge)=v):
  AEff P ⟨dst,.load t x,ty,pos,aft,g⟩ s.ev s.heap s.kp ⟨v,[b],[],[]⟩:=hv▸Lo hT hy h1 hx hb hi (Nat.le_of_ble_eq_true hn)
theorem QB{x:Operand}{t:Nat}{y:Ty}{cs:aH}{v:AV}(hx:s.ev x=some (.ref cs))(hy:dD T t=some y)(h1:(y.desc.isAgg||Nat.beq y.size 1)=true)(hn:Nat.ble y.size cs.length=true)(hpl:(cs.take y.size).all eC=true)(hv:BP y.desc.isAgg (cs.take y.size)=v):
  AEff P ⟨dst,.load t x,ty,pos,aft,g⟩ s.ev s.heap s.kp ⟨v,[],[],[]⟩:=hv▸TY hT hy h1 hx (Nat.le_of_ble_eq_true hn) hpl
theorem DW{x:Operand}{st f jL ft b i j:Nat}{blk:Blk}{y yf:Ty}{fs:List (Nat×Nat)}(hx:s.ev x=some (.ptr b i j))(hb:s.heap b=some blk)(hy:dD T st=some y)(hd:y.desc= .struct fs)(hf:fs[f]? =some (jL,ft))(hft:dD T ft=some yf)(hsz:Nat.beq yf.size 0=false):
  AEff P ⟨dst,.fieldAddr st x f,ty,pos,aft,g⟩ s.ev s.heap s.kp ⟨.ptr b i (j+jL),[b],[],[]⟩:=Lm hT hy hd hf hft (λe=>by rw[e]at hsz;cases hsz) hx hb
theorem wZ{x:Operand}{st f jL ft:Nat}{cs:aH}{y yf:Ty}{fs:List (Nat×Nat)}(hx:s.ev x=some (.ref cs))(hy:dD T st=some y)(hd:y.desc= .struct fs)(hf:fs[f]? =some (jL,ft))(hft:dD T ft=some yf)(hsz:Nat.beq yf.size 0=false):
  AEff P ⟨dst,.fieldAddr st x f,ty,pos,aft,g⟩ s.ev s.heap s.kp ⟨.ref (cs.drop jL),[],[],[]⟩:=Ln hT hy hd hf hft (λe=>by rw[e]at hsz;cases hsz) hx
theorem HV{x:Operand}{t e k:Nat}{y:Ty}{es:List aH}{dty:TypeId}(hx:s.ev x=some (.list k es))(hy:dD T t=some y)(hd:y.desc= .slice e):
  AEff P ⟨dst,.call ⟨.builtin .len,#[x],#[t]⟩,dty,pos,aft,g⟩ s.ev s.heap s.kp ⟨.int es.length,[],[],[]⟩:=TZ hT hy hd hx
theorem rS{x:Operand}{t e:Nat}{y:Ty}{b i n:Nat}{blk:Blk}{dty:TypeId}(hx:s.ev x=some (.own b i n))(hb:s.heap b=some blk)(hy:dD T t=some y)(hd:y.desc= .slice e):
  AEff P ⟨dst,.call ⟨.builtin .len,#[x],#[t]⟩,dty,pos,aft,g⟩ s.ev s.heap s.kp ⟨.int n,[b],[],[]⟩:=VA hT hy hd hb hx
omit hT in
theorem aFi{t:TypeId}{x:Operand}{v:AV}{b:Nat}(hns:s.ns.head?=some b)(hx:s.ev x=some v)(ok:(dK v).all (okCell s.heap)=true)(hb:(dS (dK v)).contains b=false):
  AEff P ⟨dst,.box t x,ty,pos,aft,g⟩ s.ev s.heap s.kp ⟨.ptr b 0 0,dS (dK v),[(b,some ⟨(dK v).length,[dK v]⟩)],[b]⟩:=aEB hx ok hb
theorem Fy{t:TypeId}{y:Ty}{b:Nat}(hns:s.ns.head?=some b)(hy:dD T t=some y):AEff P ⟨dst,.alloc t,ty,pos,aft,g⟩ s.ev s.heap s.kp ⟨.ptr b 0 0,[],[(b,some ⟨y.zero.length,[y.zero]⟩)],[b]⟩:=Zc hT hy
theorem aGD{t e:TypeId}{y ye:Ty}{l c:Operand}{kl kc:IntKind}{n:Int}{b:Nat}(hns:s.ns.head?=some b)(hl:s.ev l=some (.sc (.int kl n)))(hc:s.ev c=some (.sc (.int kc n)))(hy:dD T t=some y)(hd:y.desc= .slice e)(hye:dD T e=some ye)(hz:ye.zero.length=ye.size)(h0:0<=n)(hn:n<=4294967296)(hb:n.toNat*ye.bytes<=140737488355328):
  AEff P ⟨dst,.makeSlice t l c,ty,pos,aft,g⟩ s.ev s.heap s.kp ⟨.own b 0 n.toNat,[],[(b,some ⟨ye.size,List.replicate n.toNat ye.zero⟩)],[b]⟩:=
 Re hT hy hd hye (by rw[hl,show((n.toNat:Nat):Int)=n by omega]) (by rw[hc,show((n.toNat:Nat):Int)=n by omega]) hb (by omega) hz
theorem aHP{t e:TypeId}{n:Nat}{parts:Array (Nat×Operand)}{y ye:Ty}{ps:List (Nat×aH)}{cs:aH}{b:Nat}(hns:s.ns.head?=some b)(hy:dD T t=some y)(hd:y.desc= .slice e)(hye:dD T e=some ye)(hz:ye.zero.length=ye.size)(hn:Nat.ble (n*ye.size) 16777216=true)(hnn:Nat.ble n 16777216=true)
  (hps:DE s.ev parts.toList=some ps) (hfill:Gf (λi=>some (i*ye.size,ye.size)) (List.replicate n ye.zero).flatten ps=some cs) (ok:(ps.all λp=>p.2.all (okCell s.heap))=true) (hcs:cs.all (okCell s.heap)=true) (hb:(ps.flatMap (λp=>dS p.2)++dS cs).contains b=false):
  AEff P ⟨dst,.buildSlice t n parts,ty,pos,aft,g⟩ s.ev s.heap s.kp ⟨.own b 0 n,ps.flatMap (λp=>dS p.2)++dS cs,[(b,some ⟨ye.size,Ic ye.size n cs⟩)],[b]⟩:=Pj hT hy hd hye hz hn hnn hps hfill ok hcs hb
theorem fV{t:TypeId}{parts:Array (Nat×Operand)}{y:Ty}{fs:List (Nat×Nat)}{ps:List (Nat×aH)}{cs:aH}(hy:dD T t=some y)(hd:y.desc= .struct fs)(hf:(fs.all λf=>(dD T f.2).isSome)=true)
  (hps:DE s.ev parts.toList=some ps) (hfill:Gf (Fr T fs) y.zero ps=some cs) (ok:(ps.all λp=>p.2.all (okCell s.heap))=true):
  AEff P ⟨dst,.build t parts,ty,pos,aft,g⟩ s.ev s.heap s.kp ⟨.agg cs,ps.flatMap (λp=>dS p.2),[],[]⟩:=Zd hT hy hd hf hps hfill ok
omit hT in
theorem JY:∀{cs:aH}{j:Nat}{vs:aH},j+vs.length<=cs.length->cs.take j++vs++cs.drop (j+vs.length)=GO cs j vs
 | [],j,vs,h=>by
  have:vs=[]:=List.eq_nil_of_length_eq_zero (by rw[List.length_nil]at h;omega);subst this;simp[GO]
 |c::cs,0,[],h=>by simp[GO]
 |c::cs,0,v::vs,h=>by
  have ih:=JY (cs:=cs) (j:=0) (vs:=vs) (by simp at h ⊢;omega);simp only[Nat.zero_add,List.take_zero,List.nil_append]at ih;simp only[Nat.zero_add,List.take_zero,List.nil_append,List.length_cons,List.drop_succ_cons,List.cons_append,GO,ih]
 |c::cs,j+1,vs,h=>by
  have ih:=JY (cs:=cs) (j:=j) (vs:=vs) (by simp at h;omega);rw[show j+1+vs.length=(j+vs.length)+1 by omega,List.take_succ_cons,List.drop_succ_cons];simp only[List.cons_append,GO,ih]
theorem JZ{t:TypeId}{y:Ty}{x z:Operand}{val:AV}{b i j kk:Nat}{ees:List aH}{cs:aH}(hx:s.ev x=some (.ptr b i j))(hb:s.heap b=some ⟨kk,ees⟩)(hz:s.ev z=some val)(hy:dD T t=some y)(hsz:Nat.beq (dK val).length y.size=true)(ok:(dK val).all (okCell s.heap)=true)(hi:ees[i]? =some cs)(hn:Nat.ble (j+y.size) cs.length=true):
  AEff P ⟨dst,.store t x z,ty,pos,aft,g⟩ s.ev s.heap s.kp ⟨.dead,b::dS (dK val),[(b,some ⟨kk,ees.set i (GO cs j (dK val))⟩)],[]⟩:=by
 have h1:=Nat.eq_of_beq_eq_true hsz;have h2:=Nat.le_of_ble_eq_true hn;have h3:=Ze (P:=P) hT (κ:=s.kp) (dst:=dst) (ty:=ty) (pos:=pos) (aft:=aft) (g:=g) hy hx hz h1 hb hi h2 ok;rw[←h1,JY (by omega)]at h3;exact h3
theorem SU{x z:Operand}{t e:Nat}{y ye:Ty}{b b' n k:Nat}{blk:Blk}{sv:AV}{news:List aH}{ts:List Nat}{dty:TypeId}(hns:s.ns.head?=some b')(hx:s.ev x=some (.own b 0 n))(hb:s.heap b=some blk)(hxz:s.ev z=some sv)(hsrc:Ca s.heap sv=some (k,news,ts))(hy:dD T t=some y)(hd:y.desc= .slice e)(hye:dD T e=some ye)(hz:ye.zero.length=ye.size)(hk:blk.k=ye.size)
  (hk2:k=ye.size) (hn:blk.es.length=n) (ok:news.flatten.all (okCell s.heap)=true) (hb1:n+news.length<=4294967296) (hb2:(n+news.length)*ye.bytes<=140737488355328):
  AEff P ⟨dst,.call ⟨.builtin .append,#[x,z],#[t,t]⟩,dty,pos,aft,g⟩ s.ev s.heap s.kp ⟨.own b' 0 (n+news.length),b::(ts++dS news.flatten),[(b,none),(b',some ⟨ye.size,blk.es++news⟩)],[b']⟩:=Pm hT hy hd hye hz hx hb hn hk hxz hsrc hk2 ok hb1 hb2
omit hT in
theorem Ti(ns:List Nat)(u:Value):XG ns (.sc u)=(.sc u,[],ns):=by cases ns<;>rfl
omit hT in
theorem mP{f:FuncId}{xs:Array Operand}{ats:Array TypeId}{avs ds:aH}{u:Value}(hc:HasC P f ds (.sc u))(hx:Ia s.ev xs.toList=some avs)(hv1:All2 (viewA s.heap) avs ds):
  AEff P ⟨dst,.call ⟨.value (.func f),xs,ats⟩,ty,pos,aft,g⟩ s.ev s.heap s.kp ⟨.sc u,avs.flatMap (lX s.heap)++[].flatMap (nP s.heap),[],[]⟩:=
 Py (ds1:=ds) (ds2:=[]) (caps:=[]) (ns:=[]) (nb:=[]) (r:=.sc u) (x:=.sc u) rfl hx (by rw[List.append_nil];exact hc) hv1 rfl trivial (Ti [] u) rfl (by simp)
omit hT in
theorem qE{f:FuncId}{xs:Array Operand}{ats:Array TypeId}{avs ds:aH}{r x:AV}{nb:List (Nat×Blk)}{ns':List Nat}(hc:HasC P f ds r)(hx:Ia s.ev xs.toList=some avs)(hi:XG s.ns r=(x,nb,ns'))(hfl:VL x=true)(hn:pK s.ns=true)(hg:ON r)(hv1:All2 (viewA s.heap) avs ds):
  AEff P ⟨dst,.call ⟨.value (.func f),xs,ats⟩,ty,pos,aft,g⟩ s.ev s.heap s.kp ⟨x,avs.flatMap (lX s.heap)++[].flatMap (nP s.heap),tE nb,nb.map (·.1)⟩:=by
 exact Py (ds1:=ds) (ds2:=[]) (caps:=[]) rfl hx (by rw[List.append_nil];exact hc) hv1 rfl hg hi hfl (Cc hn)
end
section
variable {K:AState->Prop}{Q:Exit->AState->Prop}{s:AState}{id:Nat}
theorem vK(h:K s):uP K Q .normal s:=h
theorem bZ(h:Q .ret s):uP K Q .ret s:=h
theorem aD(h:Q (.exit id) s):uP K Q (.exit id) s:=h
theorem aZ(h:Q .normal s):Ks id Q .normal s:=h
theorem pQ(h:Q .ret s):Ks id Q .ret s:=h
theorem tF(h:Q .normal s):Ks id Q (.exit id) s:=by simp only[Ks,bU,aG];exact h
theorem bT{T:List (Nat×Ty)}{rvs:List ResultVar}{r:AV}{e:Exit}{vs:aH}(he:Ih e=true)(hv:DG T s rvs=some vs)(hn:pK (vs.flatMap SQ)=true)(hf:Pz s.heap vs r):Od T rvs r e s:=⟨he,vs,hv,hn,hf⟩
end
def Zk(l:aA):List aH:=l.map λx=>[.int x]
abbrev XI(l:aA):AV:=.list 1 (Zk l)
theorem aBY(l:aA):(Zk l).length=l.length:=by simp[Zk]
theorem aEH{l:aA}{k:Nat}(h:k<l.length):(Zk l)[k]? =some [.int (l[k]?.getD 0)]:=by simp[Zk,h]
structure Qv where
 n:Int
 src:aA
 tgt:aA
 deriving DecidableEq
structure Mt where
 rows:Int
 cols:Int
 cells:aA
 deriving DecidableEq
structure Rp where
 p:Int
 q:Qv
 dims:aA
 maps:List Mt
 deriving DecidableEq
structure Sc where
 size:Int
 basis:aV
 deriving DecidableEq
abbrev eI(x:Int):aH:=[.int x]
abbrev eL(l:aA):aH:=[XI l]
def eQ(q:Qv):aH:=[.int q.n,XI q.src,XI q.tgt]
def eM(m:Mt):aH:=[.int m.rows,.int m.cols,XI m.cells]
def eR(r:Rp):aH:=[.int r.p,.int r.q.n,XI r.q.src,XI r.q.tgt,XI r.dims,.list 3 (r.maps.map eM)]
def eS(s:Sc):aH:=[.int s.size,.list 1 (s.basis.map eL)]
theorem aW{h:Hp}:All2 (viewA h) [] []:=rfl
theorem aS{h:Hp}{x d:AV}{xs ds:aH}(a:viewA h x d)(b:All2 (viewA h) xs ds):All2 (viewA h) (x::xs) (d::ds):=⟨d,ds,rfl,a,b⟩
theorem gL{h:Hp}{c:AV}(p:eC c=true):view1 h c c:=by cases c<;>simp only[eC,gC]at p<;>simp[view1,view0]
theorem Ja{h:Hp}{c:AV}(p:eC c=true):viewA h c c:=by cases c<;>simp only[eC,gC]at p<;>simp[viewA,viewP,view1,view0]
theorem VO{h:Hp}:∀{cs:aH},cs.all eC=true->All2 (view1 h) cs cs
 | [],_=>rfl
 |c::cs,p=>by simp only[List.all_cons,bX]at p;exact⟨c,cs,rfl,gL p.1,VO p.2⟩
theorem Ly{h:Hp}{cs ds:aH}(p:All2 (view1 h) cs ds):viewA h (.agg cs) (.agg ds):=p
theorem BS{h:Hp}:All2 (view1 h) [] []:=rfl
theorem fE{h:Hp}{x d:AV}{xs ds:aH}(a:view1 h x d)(b:All2 (view1 h) xs ds):All2 (view1 h) (x::xs) (d::ds):=⟨d,ds,rfl,a,b⟩
theorem XJ{h:Hp}{b n k:Nat}{blk:Blk}{es:List aH}(hb:h b=some blk)(hk:blk.k=k)(hn:n=blk.es.length)(v:All2 (All2 view0) blk.es es):view1 h (.own b 0 n) (.list k es):=by
 refine⟨blk,hb,hk,?_⟩;rw[List.drop_zero,hn,List.take_length];exact v
theorem aFj{h:Hp}{u v:Value}(e:u=v)(hn:∀cs,AV.sc v≠ .tuple cs:=by intro _ h;cases h):Pz h [.sc u] (.sc v):=⟨e,hn⟩
theorem aFk{h:Hp}{u v:Bool}(e:u=v):Pz h [.bl u] (.bl v):=⟨by rw[e];rfl,by intro _ h;cases h⟩
theorem aBZ{h:Hp}{u v:Int}(e:u=v):Pz h [.int u] (.int v):=⟨by rw[e];rfl,by intro _ h;cases h⟩
theorem Af{α:Type}{f:α->aH}{l:List α}{k:Nat}{x:α}(h:l[k]? =some x):(l.map f)[k]? =some (f x):=by simp[h]
abbrev aI:=List Sc
abbrev bJ:=List Mt
theorem XK{s:AState}{b b' i j n k':Nat}{blk blk':Blk}{cs:aH}{es':List aH}(hb:s.heap b=some blk)(hi:blk.es[i]? =some cs)(hj:cs[j]? =some (.own b' 0 n))(hb':s.heap b'=some blk')(hne:Nat.beq b b'=false)(hn:blk'.es.length=n)(hk:blk'.k=k')(hf:All2 (All2 Ig) blk'.es es'):
  Ent s ⟨s.env,bB [(b',none),(b,some ⟨blk.k,blk.es.set i (cs.take j++[.abs k' es']++cs.drop (j+1))⟩)] s.heap,s.used,s.ns,s.kp⟩:=by
 intro C ν a w hs;have hne':b≠b':=by rintro rfl;rw[bU]at hne;cases hne
 obtain⟨φ,hh⟩:=hs.heap;obtain⟨hub,⟨hk1,hx1⟩,hnd1,hB1⟩:=hh.blk b blk hb;obtain⟨hub',⟨hk2,hx2⟩,hnd2,hB2⟩:=hh.blk b' blk' hb';have hcs:=hk1 cs (List.mem_of_getElem? hi)
 have hjl:j<cs.length:=by
  rcases dX j cs.length with h'|h'
  .exact h'
  .rw[jX h']at hj;cases hj
 rcases hx1 with ⟨q1,q2,_⟩|⟨β,c,arr,ty,T,vs,q1,q2,q3,q4,q5,q6,q7,q8⟩
 .rw[q2]at hi;simp at hi
 .have hext:Ext w s.heap s.used ν w (bB [(b',none),(b,some ⟨blk.k,blk.es.set i (cs.take j++[.abs k' es']++cs.drop (j+1))⟩)] s.heap) s.used ν:=by
   refine⟨λ_ h=>h,λb2 blk2 _ hb2=>?_,λx hx hfr=>⟨rfl,λb2 blk2 β2 c2 hb2 hν2=>?_⟩,rfl⟩
   .simp only[bB]at hb2;by_cases e:b2=b'
    .subst e;rw[bU]at hb2;cases hb2
    .rw[cA e]at hb2;by_cases e2:b2=b
     .subst e2;simp only[aN,bU,aG,Option.some.injEq]at hb2;subst hb2;exact⟨blk,hb,rfl,by simp,rfl⟩
     .rw[cA e2]at hb2;exact⟨blk2,hb2,rfl,rfl,rfl⟩
   .simp only[bB]at hb2;by_cases e:b2=b'
    .subst e;rw[bU]at hb2;cases hb2
    .rw[cA e]at hb2;by_cases e2:b2=b
     .subst e2;exact hfr b2 blk β2 c2 hb hν2
     .rw[cA e2]at hb2;exact hfr b2 blk2 β2 c2 hb2 hν2
  have hdrop:blk.es.flatten.drop (i*blk.k+j)= .own b' 0 n::blk.es.flatten.drop (i*blk.k+j+1):=by
   obtain⟨r,hr⟩:=CZ hk1 hi;have h1:blk.es.flatten.drop (i*blk.k+j)=(cs++r).drop j:=by rw[←hr,List.drop_drop]
   have h2:blk.es.flatten.drop (i*blk.k+j+1)=(cs++r).drop (j+1):=by rw[←hr,List.drop_drop,Nat.add_assoc]
   rw[h1,h2,List.drop_append_of_le_length (by omega),List.drop_append_of_le_length (by omega),List.drop_eq_getElem_cons hjl];have:cs[j]= .own b' 0 n:=by simpa [hjl]using hj
   rw[this];rfl
  have hfl:blk.es.flatten=blk.es.flatten.take (i*blk.k+j)++([.own b' 0 n]++blk.es.flatten.drop (i*blk.k+j+1)):=by
   rw[List.singleton_append,←hdrop,List.take_append_drop]
  rw[hfl]at q8;obtain⟨v1,v2,S1,S2,e1,e2,e3,e4,e5⟩:=q8.append_inv;obtain⟨v3,v4,S3,S4,f1,f2,f3,f4,f5⟩:=e5.append_inv;subst f1 f2;obtain⟨v,r0,S5,S6,rfl,rfl,g1,⟨rfl,rfl⟩⟩:=f4;simp only[CellRep,Rep1]at g1;obtain⟨⟨_,g2⟩,rfl⟩:=g1;obtain⟨g3,g4,g5⟩:=g2 blk' hb';have hlen':es'.length=n:=by rw[hf.len,hn]
  have hdata:RepO w (.list k' es') v (φ b'):=by
   rcases hx2 with ⟨p1,p2,p3⟩|⟨β',c',arr',ty',T',vs',p1,p2,p3,p4,p5,p6,p7,p8⟩
   .rw[p2]at hf;simp only[All2]at hf;subst hf;rw[g4 p1,p3];exact Ll
   .have r1:=Kv p8 (HU hf);have h0:=(g5 β' c' p1).zero;rw[h0,p6];exact SE.2 (.inr ⟨β',c',arr',ty',T',vs',by rw[hlen'],p2,by rw[←hk];exact p3,by rw[hlen',←hn];exact p4,p5,by rw[←hk];exact NE hf hk2,rfl,by rw[hlen',←hn,←hk];exact p7,r1⟩)
  have hφ:φ b=β::(S1++S4):=by rw[q6,e2];simp
  have hapart:∀y∈φ b',y ∉ φ b:=λy hy hy2=>hh.apart b b' y (by rw[hb];simp) (by rw[hb'];simp) hne' hy2 hy;refine⟨ν,hs.below,hs.base,hs.fresh,hs.defers,hs.size,λt x hx=>by obtain⟨v,h1,h2⟩:=hs.env t x hx;exact⟨v,h1,h2.ext hext⟩,⟨λx=>bif Nat.beq x b then β::(S1++(φ b'++S4))else φ x,?_,?_⟩,hs.kp,hs.ext.trans hext,hs.szE,hs.okM,hs.okF⟩
  .intro x blk2 hx;simp only[bB]at hx;by_cases e:x=b'
   .subst e;rw[bU]at hx;cases hx
   .rw[cA e]at hx;by_cases e0:x=b
    .subst e0;simp only[aN,bU,aG,Option.some.injEq]at hx;subst hx;simp only[bU,aG];refine⟨hub,⟨?_,.inr ⟨β,c,arr,ty,S1++(φ b'++S4),vs,q1,q2,q3,by simpa using q4,q5,rfl,by simpa using q7,?_⟩⟩,?_,?_⟩
     .intro d hd;rcases List.mem_or_eq_of_mem_set hd with h|h
      .exact hk1 d h
      .rw[h];simp;omega
     .rw[DF (n:=1) hk1 hi rfl (by omega),e1];have m1:∀g:Hp,CellsRep w g s.used ν [.abs k' es'] [v] (φ b'):=λg=>⟨v,[],φ b',[],rfl,by simp,hdata,rfl,rfl⟩;have m2:=(e4.ext hext (λ_ _=>rfl)).append ((m1 _).append (f5.ext hext (λ_ _=>rfl)));rw[List.append_assoc (List.take (i*blk.k+j) blk.es.flatten)];exact m2
     .rw[hφ]at hnd1;have hn1:=List.nodup_cons.1 hnd1;have hn2:=List.nodup_append.1 hn1.2;refine List.nodup_cons.2 ⟨λhm=>?_,List.nodup_append.2 ⟨hn2.1,List.nodup_append.2 ⟨hnd2,hn2.2.1,λx hx y hy e=>?_⟩,λx hx y hy e=>?_⟩⟩
      .rcases fB.1 hm with h|h
       .exact hn1.1 (List.mem_append_left _ h)
       .rcases fB.1 h with h|h
        .exact hapart β h (by rw[hφ];simp)
        .exact hn1.1 (List.mem_append_right _ h)
      .subst e;exact hapart x hx (by rw[hφ];simp[hy])
      .subst e;rcases fB.1 hy with h|h
       .exact hapart x h (by rw[hφ];simp[hx])
       .exact hn2.2.2 x hx x h rfl
     .intro y hy;rcases eO.1 hy with rfl|h
      .exact hB1 y (by rw[hφ];simp)
      .rcases fB.1 h with h|h
       .exact hB1 y (by rw[hφ];simp[h])
       .rcases fB.1 h with h|h
        .exact hB2 y h
        .exact hB1 y (by rw[hφ];simp[h])
    .rw[cA e0]at hx;simp only[cA e0,aN];obtain⟨p1,p2,p3,p4⟩:=hh.blk x blk2 hx;exact⟨p1,p2.ext hext rfl (λ_ _=>rfl),p3,p4⟩
  .have hsub:∀x y,bB [(b',none),(b,some ⟨blk.k,blk.es.set i (cs.take j++[.abs k' es']++cs.drop (j+1))⟩)] s.heap x≠none->y∈(bif Nat.beq x b then β::(S1++(φ b'++S4))else φ x)->x≠b'/\s.heap x≠none/\(y∈φ x∨(x=b/\y∈φ b')):=by
    intro x y hx hy;have hxb':x≠b':=by rintro rfl;simp[bB]at hx
    simp only[bB,cA hxb',aN]at hx;by_cases e0:x=b
    .subst e0;simp only[bU,aG]at hy;refine⟨hxb',by rw[hb];simp,?_⟩;rcases eO.1 hy with rfl|h
     .exact .inl (by rw[hφ];simp)
     .rcases fB.1 h with h|h
      .exact .inl (by rw[hφ];simp[h])
      .rcases fB.1 h with h|h
       .exact .inr ⟨rfl,h⟩
       .exact .inl (by rw[hφ];simp[h])
    .rw[cA e0]at hx;simp only[cA e0,aN]at hy;exact⟨hxb',hx,.inl hy⟩
   intro x1 x2 y hx1 hx2 hne2 hy1 hy2;obtain⟨a1,a2,a3⟩:=hsub x1 y hx1 hy1;obtain⟨c1,c2,c3⟩:=hsub x2 y hx2 hy2;have hb'n:s.heap b'≠none:=by rw[hb'];simp
   rcases a3 with a3|⟨rfl,a3⟩<;>rcases c3 with c3|⟨rfl,c3⟩
   .exact hh.apart x1 x2 y a2 c2 hne2 a3 c3
   .exact hh.apart x1 b' y a2 hb'n a1 a3 c3
   .exact hh.apart b' x2 y hb'n c2 (Ne.symm c1) a3 c3
   .exact hne2 rfl
theorem Fz{s:AState}{b b' i j n k':Nat}{blk blk':Blk}{cs:aH}{es':List aH}(hb:s.heap b=some blk)(hi:blk.es[i]? =some cs)(hj:cs[j]? =some (.own b' 0 n))(hb':s.heap b'=some blk')(hne:Nat.beq b b'=false)(hn:blk'.es.length=n)(hk:blk'.k=k')(hf:All2 (All2 Ig) blk'.es es'):
  Ent s ⟨s.env,bB [(b',none),(b,some ⟨blk.k,blk.es.set i (GO cs j [.abs k' es'])⟩)] s.heap,s.used,s.ns,s.kp⟩:=by
 have hjl:j<cs.length:=by
  rcases dX j cs.length with h'|h'
  .exact h'
  .rw[jX h']at hj;cases hj
 rw[←JY (by simp;omega)];exact XK hb hi hj hb' hne hn hk hf
theorem aBa{es:List aH}(h:(es.all λcs=>cs.all zP)=true):Fv es:=λcs hcs c hc=>List.all_eq_true.1 (List.all_eq_true.1 h cs hcs) c hc
section
variable {P:Program}{dst:Option Tmp}{ty:TypeId}{pos:String}{aft:Array Edge}{g:Option (Nat×Bool)}{s:AState}
theorem aEI{t:TypeId}(hu:P.underlying t=some .bool)(a b:Bool)(w:World):(Op.equal t (.bool a) (.bool b)).run P w= .ok (a==b) w:=by
 have key:∀d,(Op.equalIn (d+1) t (.bool a) (.bool b)).run P w= .ok (a==b) w:=λd=>by simp[Op.equalIn,kP hu]
 exact key 9999
theorem QC{t t':TypeId}{x y:Operand}{a b:Bool}(hu:P.underlying t=some .bool)(hx:s.ev x=some (.bl a))(hy:s.ev y=some (.bl b)):AEff P ⟨dst,.binOp .neq t x y t',ty,pos,aft,g⟩ s.ev s.heap s.kp ⟨.bl (!(a==b)),[],[],[]⟩:=
 rI hx hy rfl λw=>by simp[eqGuard,binOp,aEI hu]
end
end
end Go.Proofs.YtppgeohlmkgpbaaGreat

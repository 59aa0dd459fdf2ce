/- Several texts. -/
import Derived.RangeFuncOwn
import Derived.Test.YthpgddekfghemaaGreatM2
set_option linter.unusedVariables false
set_option linter.unusedSimpArgs false
set_option linter.defProp false
namespace Go.Proofs.YthpgddekfghemaaGreat
open Go.RowKit
variable{b:Nat}{v:Value}{S:List Nat}{blk:Blk}{M:Nat->Prop}{φ:Nat->List Nat}{C:Ctx}{s:AState}{w0:World}{o':Obj}
section
structure KeepC(w w':World):Prop where
 size:w.heap.size<=w'.heap.size
 same:∀(b:Nat)(o:Obj),w.heap[b]? =some o->o.isCells=true->w'.heap[b]? =some o
def KeepC.cell{w w'}(k:KeepC w w'){o}(h:w.cell? ⟨b,o,none⟩=some v):w'.heap[b]? =w.heap[b]? :=by
 obtain⟨x,h1,h2⟩:=cells_of_cell h;rw[k.same b x h1 h2];exact h1.symm
mutual
theorem RepD.keepC{w w':World}(k:KeepC w w'):∀{x:AV}{v:Value}{S:List Nat},RepD w x v S->RepD w' x v S
 | .sc _,_,_,h=>by simpa only[RepD]using h
 | .list kk es,v,S,h=>by
  simp only[RepD]at h ⊢;obtain⟨a,c,h1,h2,h3,h4⟩:=h;refine⟨a,c,h1,h2,h3,?_⟩;rcases h4 with h4|⟨b,o,T,e1,e2,rfl,e4⟩
  .exact .inl h4
  .exact .inr ⟨b,o,T,e1,Nat.lt_of_lt_of_le e2 k.size,rfl,e4.keepC k⟩
 | .ref cs,v,S,h=>by
  simp only[RepD]at h ⊢;obtain⟨b,o,T,h1,h2,rfl,h4⟩:=h;exact⟨b,o,T,h1,Nat.lt_of_lt_of_le h2 k.size,rfl,h4.keepC k⟩
 | .agg cs,v,S,h=>by
  simp only[RepD]at h ⊢;obtain⟨vs,h1,h2⟩:=h;exact⟨vs,h1,h2.keepC k⟩
 | .tuple cs,v,S,h=>by
  simp only[RepD]at h ⊢;obtain⟨vs,h1,h2⟩:=h;exact⟨vs,h1,h2.keepC k⟩
 | .fn f cs,v,S,h=>by
  simp only[RepD]at h ⊢;obtain⟨vs,h1,h2⟩:=h;exact⟨vs,h1,h2.keepC k⟩
 | .nil _,_,_,h=>by simp only[RepD]at h
 | .abs _ _,_,_,h=>by simp only[RepD]at h
 | .own _ _ _,_,_,h=>by simp only[RepD]at h
 | .ptr _ _ _,_,_,h=>by simp only[RepD]at h
 | .dead,_,_,h=>by simp only[RepD]at h
theorem RepVs.keepC{w w':World}(k:KeepC w w'):∀{cs:bN}{vs:List Value}{S:List Nat},RepVs w cs vs S->RepVs w' cs vs S
 | [],_,_,h=>by simpa only[RepVs]using h
 |c::cs,vs,S,h=>by
  simp only[RepVs]at h ⊢;obtain⟨v,r,S1,S2,h1,rfl,h3,h4⟩:=h;exact⟨v,r,S1,S2,h1,rfl,h3.keepC k,h4.keepC k⟩
theorem RepCs.keepC{w w':World}(k:KeepC w w'){b:Nat}:∀{o:Nat}{cs:bN}{S:List Nat},RepCs w b o cs S->RepCs w' b o cs S
 |_,[],_,h=>by simpa only[RepCs]using h
 |o,c::cs,S,h=>by
  simp only[RepCs]at h ⊢;obtain⟨v,S1,S2,h1,h2,h3,rfl,h5,h6⟩:=h;have hb:=k.cell h1;exact⟨v,S1,S2,(Pp hb).trans h1,(Ob hb).trans h2,h3,rfl,h5.keepC k,h6.keepC k⟩
theorem RepEs.keepC{w w':World}(k:KeepC w w'){kk b:Nat}:∀{o:Nat}{es:List bN}{S:List Nat},RepEs w kk b o es S->RepEs w' kk b o es S
 |_,[],_,h=>by simpa only[RepEs]using h
 |o,cs::es,S,h=>by
  simp only[RepEs]at h ⊢;obtain⟨S1,S2,rfl,h2,h3,h4⟩:=h;exact⟨S1,S2,rfl,h2,h3.keepC k,h4.keepC k⟩
end
section
variable {w w':World}{h:Hp}{u:Us}{ν:Nu}(k:KeepC w w')
include k
def Rep1.keepC:∀{x v},Rep1 w h u ν x v->Rep1 w' h u ν x v
 | .sc _,_,r=>r
 | .nil _,_,r=>r
 | .dead,_,_=>trivial
 | .list _ _,v,⟨S,r,f⟩=>⟨S,RepD.keepC k r,f⟩
 | .ref _,v,⟨S,r,f⟩=>⟨S,RepD.keepC k r,f⟩
 | .own _ _ _,v,r=>r
 | .ptr _ _ _,v,r=>r
def RepB.keepC{x}(r:RepB w h u ν x v):RepB w' h u ν x v:=by
 cases x<;>simp only[RepB]at r ⊢ <;>first
  |exact Rep1.keepC k r
  |(obtain⟨vs,h1,h2⟩:=r;exact⟨vs,h1,h2.mono (λ_ _ h=>Rep1.keepC k h)⟩)
def RepA.keepC{x}(r:RepA w h u ν x v):RepA w' h u ν x v:=by
 cases x<;>simp only[RepA]at r ⊢ <;>first
  |exact RepB.keepC k r
  |(obtain⟨vs,h1,h2⟩:=r;exact⟨vs,h1,h2.mono (λ_ _ h=>RepB.keepC k h)⟩)
end
def InC(w:World)(S:List Nat):Prop:=∀b∈S,∃o,w.heap[b]? =some o/\o.isCells=true
def InC.app{w T}(h:InC w S)(k:InC w T):InC w (S++T):=λb hb=>by
 rcases eY.1 hb with h'|h'
 .exact h b h'
 .exact k b h'
def Hc{w}:InC w []:=λ_ h=>by cases h
def YC{w β T o}(h:w.heap[β]? =some o)(hc:o.isCells=true)(k:InC w T):InC w (β::T):=λb hb=>by
 rcases dR.1 hb with rfl|h'
 .exact⟨o,h,hc⟩
 .exact k b h'
mutual
theorem RepO.inC{w:World}:∀{x:AV}{v:Value}{S:List Nat},RepO w x v S->InC w S
 | .sc _,_,_,h=>by simp only[RepO]at h;rw[h.2.2];exact Hc
 | .list k es,v,S,h=>by
  simp only[RepO]at h;rcases h with ⟨_,_,rfl⟩|⟨β,c,arr,ty,T,vs,_,h2,_,_,_,_,rfl,_,h9⟩
  .exact Hc
  .exact YC h2 rfl h9.inC
 | .nil _,_,_,h=>by simp only[RepO]at h
 | .abs _ _,_,_,h=>by simp only[RepO]at h
 | .ref _,_,_,h=>by simp only[RepO]at h
 | .agg _,_,_,h=>by simp only[RepO]at h
 | .tuple _,_,_,h=>by simp only[RepO]at h
 | .fn _ _,_,_,h=>by simp only[RepO]at h
 | .own _ _ _,_,_,h=>by simp only[RepO]at h
 | .ptr _ _ _,_,_,h=>by simp only[RepO]at h
 | .dead,_,_,h=>by simp only[RepO]at h
theorem RepOV.inC{w:World}:∀{cs:bN}{vs:List Value}{S:List Nat},RepOV w cs vs S->InC w S
 | [],_,_,h=>by simp only[RepOV]at h;rw[h.2];exact Hc
 |c::cs,vs,S,h=>by
  simp only[RepOV]at h;obtain⟨v,r,S1,S2,_,rfl,_,h4,h5⟩:=h;exact h4.inC.app h5.inC
theorem RepOE.inC{w:World}:∀{es:List bN}{vs:List Value}{S:List Nat},RepOE w es vs S->InC w S
 | [],_,_,h=>by simp only[RepOE]at h;rw[h.2];exact Hc
 |cs::es,vs,S,h=>by
  simp only[RepOE]at h;obtain⟨v1,v2,S1,S2,_,rfl,h3,h4⟩:=h;exact h3.inC.app h4.inC
end
def CellRep.inC{w h u ν x}(r:CellRep w h u ν x v S):InC w S:=by
 cases x<;>simp only[CellRep]at r<;>first
  |exact RepO.inC r
  |(rw[r.2];exact Hc)
def CellsRep.inC{w h u ν}:∀{cs vs S},CellsRep w h u ν cs vs S->InC w S
 | [],_,_,r=>by rw[r.2];exact Hc
 |c::cs,vs,S,⟨v,r,S1,S2,h1,h2,h3,h4⟩=>by subst h2;exact h3.inC.app h4.inC
def CellRep.keepC{w w'}(k:KeepC w w'){h u ν x}(r:CellRep w h u ν x v S):CellRep w' h u ν x v S:=by
 have hk:∀b∈S,w'.heap[b]? =w.heap[b]? :=λb hb=>by obtain⟨o,h1,h2⟩:=r.inC b hb;rw[k.same b o h1 h2];exact h1.symm
 cases x<;>simp only[CellRep]at r ⊢ <;>first
  |exact⟨Rep1.keepC k r.1,r.2⟩
  |(obtain⟨⟨vs,h1,h2⟩,h3⟩:=r;exact⟨⟨vs,h1,h2.mono (λ_ _ h=>Rep1.keepC k h)⟩,h3⟩)
  |exact r.keep hk
  |exact r
def CellsRep.keepC{w w'}(k:KeepC w w'){h u ν}:∀{cs vs S},CellsRep w h u ν cs vs S->CellsRep w' h u ν cs vs S
 | [],_,_,r=>r
 |c::cs,vs,S,⟨v,r,S1,S2,h1,h2,h3,h4⟩=>by subst h2;exact⟨v,r,S1,S2,h1,rfl,h3.keepC k,h4.keepC k⟩
def BlkOk.keepC{w w'}(k:KeepC w w'){h u ν}(r:BlkOk w h u ν b blk S):BlkOk w' h u ν b blk S:=by
 refine⟨r.1,?_⟩;rcases r.2 with ⟨h1,h2,h3⟩|⟨β,c,arr,ty,T,vs,h1,h2,h3,h4,h5,rfl,h7,h8⟩
 .exact .inl ⟨h1,h2,h3⟩
 .exact .inr ⟨β,c,arr,ty,T,vs,h1,k.same _ _ h2 rfl,h3,h4,h5,rfl,h7,h8.keepC k⟩
def HeapOk.keepC{w w'}(k:KeepC w w'){h u ν}(r:HeapOk M w h u ν φ):HeapOk M w' h u ν φ:=
 ⟨λb blk hb=>by obtain⟨g1,g2,g3,g4⟩:=r.blk b blk hb;exact⟨g1,g2.keepC k,g3,g4⟩,r.apart⟩
def Sim.turn{ν a a' w w'}(hs:Sim C s ν a w)(k:KeepC w w')(hb:Below C.B C.w0 w')(hE:∀x,x<C.wE.heap.size->w'.heap[x]? =w.heap[x]?)(ht:a'.tmps=a.tmps)(hd:OkD C w' a'.defers):Sim C s ν a' w':=
 ⟨hb,Nat.le_trans hs.base k.size,λx hx=>hs.fresh x (Nat.le_trans k.size hx),hd,by rw[ht];exact hs.size,λt x hx=>by obtain⟨v,h1,h2⟩:=hs.env t x hx;exact⟨v,by rw[ht];exact h1,h2.keepC k⟩,by obtain⟨φ,hh⟩:=hs.heap;exact⟨φ,hh.keepC k⟩,hs.kp,⟨hs.ext.used,hs.ext.old,λx hx hF=>⟨(hE x hx).trans (hs.ext.free x hx hF).1,(hs.ext.free x hx hF).2⟩,hs.ext.okE⟩,Nat.le_trans hs.szE k.size,hs.okM,hs.okF⟩
def Hd{B D w o}(h:Below B w0 w)(hD:B<=D):Below B w0 (w.putObj D o):=
 ⟨h.os,h.tape,h.output,by rw[World.putObj_size];exact h.size,λb hb=>(World.putObj_heap_other (by omega)).trans (h.block b hb)⟩
def He{w D o}(h:w.heap[D]? =some o')(hc:o'.isCells=false):KeepC w (w.putObj D o):=
 ⟨by rw[World.putObj_size];exact bG _,λb x hb hx=>by
  have:b≠D:=by rintro rfl;rw[h]at hb;cases hb;rw[hc]at hx;cases hx
  rw[World.putObj_heap_other this];exact hb⟩
def Sim.leave{P:Program}{C:Ctx}{s:AState}{ν:Nu}{n:Nat}:∀{Ds:List Nat}{a:Act}{w:World},Sim C s ν a w->a.defers=Ds.map (λD=> { target:=.collected D,args:= #[] })->(Ds.Nodup/\(C.kp.rd0=false->Ds=[]))->(∀D∈Ds,C.wE.heap.size<=D/\C.B<=D/\w.heap[D]? =some (.deferred (some [])))->
  ∃w',Sim C s ν { a with defers:=[] } w'/\∀(fn:Func)(R:Ending->World->Prop),(∃v,(results fn a.tmps).run P w'= .ok v w'/\R (.returned v) w')->LeavesInM (fw none) n P fn a.tmps R a.defers .returning w
 | [],a,w,hs,ha,_,_=>by
  refine⟨w,hs.turn ⟨bG _,λ_ _ h _=>h⟩ hs.below (λ_ _=>rfl) rfl yV,λfn R h=>?_⟩;rw[ha];exact h
 |D::Ds,a,w,hs,ha,hn,hD=>by
  obtain⟨d1,d2,d3⟩:=hD D (by simp);obtain⟨n1,n2⟩:=List.nodup_cons.1 hn.1;have n3:Ds.Nodup/\(C.kp.rd0=false->Ds=[]):=⟨n2,λh=>by cases hn.2 h⟩
  have hrest:∀x∈Ds,C.wE.heap.size<=x/\C.B<=x/\(w.putObj D (.deferred none)).heap[x]? =some (.deferred (some [])):=λx hx=>by
   obtain⟨q1,q2,q3⟩:=hD x (by simp[hx]);exact⟨q1,q2,(World.putObj_heap_other (by rintro rfl;exact n1 hx)).trans q3⟩
  have hs2:Sim C s ν { a with defers:=Ds.map (λD=> { target:=.collected D,args:= #[] }) } (w.putObj D (.deferred none)):=
   hs.turn (He d3 rfl) (Hd hs.below d2) (λx hx=>World.putObj_heap_other (by omega)) rfl ⟨Ds,rfl,n3,hrest⟩
  obtain⟨w',h1,h2⟩:=Sim.leave (P:=P) (n:=n) hs2 rfl n3 hrest;refine⟨w',h1,λfn R h=>?_⟩;rw[ha];exact⟨by simp,.inl ⟨D,_,rfl,run_takeDeferred d3,h2 fn R h⟩⟩
end
variable{P:Program}{T:List (Nat×Ty)}{ν:Nu}{w:World}{h:Hp}{u:Us}{B:Nat->Prop}{S1:List Nat}{S2:List Nat}{f:FuncId}{fn:Func}{nt:Nat}{rvs:List ResultVar}{ns:List Nat}{t:TypeId}{t':TypeId}{x:Operand}{ix:Operand}{y:Ty}{ye:Ty}{kk:IntKind}{i:Nat}{n:Nat}{j:Nat}{ft:Nat}{yf:Ty}{fs:List (Nat×Nat)}{dty:TypeId}{kl:IntKind}{kc:IntKind}{parts:Array (Nat×Operand)}{z:Operand}{b':Nat}{ts:List Nat}{xs:Array Operand}{ats:Array TypeId}{nb:List (Nat×Blk)}{ns':List Nat}{α:Type}{k':Nat}{blk':Blk}
section
def Pz(T:List (Nat×Ty))(s:AState):ResultVar->Option AV
 | .tmp t=>s.env t
 | .cell a ty=>match s.env a with
  |some (.ptr b i j)=>match s.heap b with
   |some blk=>match blk.es[i]? with
    |some cs=>match dB T ty with
     |some y=>bif(y.desc.isAgg||Nat.beq y.size 1)&&Nat.ble (j+y.size) cs.length then some (AJ y.desc.isAgg (((cs.drop j).take y.size).map Ec))else none
     |none=>none
    |none=>none
   |none=>none
  |_=>none
def Cl(T:List (Nat×Ty))(s:AState):List ResultVar->Option bN
 | []=>some []
 |x::r=>match Pz T s x,Cl T s r with
  |some v,some vs=>some (v::vs)
  |_,_=>none
def Tm(hT:TyOk P T){a}(hs:Sim C s ν a w){x v}(h:Pz T s x=some v):∃u,(match x with| .tmp t=>pure (a.tmps.getD t undef)| .cell b t=>do loadVar t (←asAddr (a.tmps.getD b undef)):Sem Value).run P w= .ok u w/\RepA w s.heap s.used ν v u:=by
 cases x with
 |tmp t=>
  obtain⟨u,h1,h2⟩:=hs.env t v h;refine⟨u,?_,h2⟩;simp[Array.getD_eq_getD_getElem?,h1]
 |cell b0 ty=>
  simp only[Pz]at h;split at h<;>first|cases h|skip
  rename_i b i j he;split at h<;>first|cases h|skip
  rename_i blk hb;split at h<;>first|cases h|skip
  rename_i cs hi;split at h<;>first|cases h|skip
  rename_i y hy;obtain⟨u0,h1,h2⟩:=hs.env b0 _ he;simp only[RepA,RepB,Rep1]at h2;obtain⟨β,c,h3,h4⟩:=h2.2 blk hb;cases hc:((y.desc.isAgg||Nat.beq y.size 1)&&Nat.ble (j+y.size) cs.length)with
  |false=>rw[hc]at h;cases h
  |true=>
   rw[hc]at h;simp only[aJ,Option.some.injEq]at h;subst h;simp only[cB]at hc;obtain⟨g1,g2⟩:=hc;have g2':=Nat.le_of_ble_eq_true g2;have hl:=JW (P:=P) (T:=T) hT (dst:=none) (ty:=0) (pos:= "") (aft:= #[]) (g:=none) (ins:=λo=>s.ev o) (hp:=s.heap) (κ:=s.kp) (x:=.tmp b0) (t:=ty) hy g1 he hb hi g2';obtain⟨φ,hh⟩:=hs.heap;obtain⟨β',c',vs,e1,e2,e3,e4⟩:=hh.cells hs.okM hb hi g2';rw[h3]at e1;cases e1;obtain⟨ii,z,d,hy'⟩:=hT.is hy;have hr:=rU (P:=P) hy' (w:=w) (b:=β) (o:=i*blk.k+j) (vs:=vs) e2 (λhg=>by rw[hg]at g1;simpa using Nat.eq_of_beq_eq_true g1) (λm u hu=>(e4 m u hu).1);refine⟨_,by simp only[Array.getD_eq_getD_getElem?,h1,iN,h4,asAddr,Sem.run_bind,Sem.run_pure,Result.andThen_ok];exact hr,?_⟩;cases hg:y.desc.isAgg with
   |true=>
    simp only[AJ,aJ,if_true,RepA,RepB];exact⟨vs,rfl,e3⟩
   |false=>
    rw[hg]at g1;have hs1:y.size=1:=Nat.eq_of_beq_eq_true (by simpa using g1);simp only[AJ,aW];revert e2 e3;generalize ((cs.drop j).take y.size).map Ec=ds;intro e2 e3
    match ds,vs,e3 with
    | [],vs,e3=>simp only[All2]at e3;subst e3;simp[hs1]at e2
    |d::ds,vs,e3=>
     obtain⟨v,r,rfl,e6,e7⟩:=e3;simp only[List.headD_cons,List.getElem?_cons_zero,iN];exact e6.repA
def Cs(hT:TyOk P T){a}(hs:Sim C s ν a w):∀{xs vs},Cl T s xs=some vs->
  ∃us,(xs.mapM λ| .tmp t=>pure (a.tmps.getD t undef)| .cell b t=>do loadVar t (←asAddr (a.tmps.getD b undef)):Sem (List Value)).run P w= .ok us w/\All2 (RepA w s.heap s.used ν) vs us
 | [],vs,h=>by simp only[Cl,Option.some.injEq]at h;subst h;exact⟨[],by simp,rfl⟩
 |x::xs,vs,h=>by
  simp only[Cl]at h;split at h
  .rename_i v vs' h1 h2;cases h;obtain⟨u,e1,e2⟩:=Tm hT hs h1;obtain⟨us,e3,e4⟩:=Cs hT hs h2;refine⟨u::us,?_,u,us,rfl,e2,e4⟩;rw[List.mapM_cons,Sem.run_bind,e1,Result.andThen_ok,Sem.run_bind,e3];simp
  .cases h
def Gn:AV->AV->Prop
 | .sc u,.sc v=>u=v
 | .abs k es,.list k' es'=>k=k'/\es=es'
 | .nil _,.list _ es=>es=[]
 |_,_=>False
def Iq(h:Hp):AV->AV->Prop
 | .sc u,.sc v=>u=v
 | .nil _,.list _ es=>es=[]
 | .own b i n,.list k es=>i=0/\∃blk,h b=some blk/\blk.es.length=n/\blk.k=k/\All2 (All2 Gn) blk.es es
 |_,_=>False
def Lb(h:Hp):AV->AV->Prop
 | .agg cs,.agg ds=>All2 (Iq h) cs ds
 |x,d=>Iq h x d
def Om:AV->List Nat
 | .own b _ _=>[b]
 |_=>[]
def On:AV->List Nat
 | .agg cs=>cs.flatMap Om
 |x=>Om x
def Mr(h:Hp)(vs:bN)(r:AV):Prop:=
 match vs,r with
 | [v],r=>Lb h v r/\∀cs,r≠ .tuple cs
 |vs,.tuple rs=>vs.length≠1/\All2 (Lb h) vs rs
 |_,_=>False
def tC:List Nat->Bool
 | []=>true
 |x::r=>(r.all λy=> !Nat.beq x y)&&tC r
def CN:∀{l},tC l=true->l.Nodup
 | [],_=>by simp
 |x::r,h=>by
  simp only[tC,cB,List.all_eq_true]at h;refine List.nodup_cons.2 ⟨λhm=>?_,CN h.2⟩;have:=h.1 x hm;simp at this
def Ir:∀{cs ds vs S},CellsRep w h u ν cs vs S->All2 Gn cs ds->RepOV w ds vs S
 | [],ds,vs,S,r,m=>by simp only[All2]at m;subst m;obtain⟨rfl,rfl⟩:=r;simp[RepOV]
 |c::cs,ds,vs,S,⟨v,q,S1,S2,h1,h2,h3,h4⟩,⟨d,p,hp,m1,m2⟩=>by
  subst h1;subst h2;subst hp;have e1:=Ir h4 m2
  have key:RepO w d v S1/\v.oneCell'=true:=by
   cases c<;>cases d<;>simp only[Gn]at m1
   .obtain⟨⟨rfl,h5⟩,rfl⟩:=h3;subst m1;exact⟨VA h5,h5⟩
   .obtain⟨h5,rfl⟩:=h3;subst m1;simp only[Rep1]at h5;subst h5;exact⟨Gj,rfl⟩
   .obtain⟨rfl,rfl⟩:=m1;refine⟨h3,?_⟩;have h3':=RepO.repD h3;simp only[RepD]at h3';obtain⟨a,c,rfl,_⟩:=h3';rfl
  simp only[RepOV];exact⟨v,q,S1,S2,rfl,rfl,key.2,key.1,e1⟩
def Fz{R:AV->AV->Prop}:∀{es fs},All2 (All2 R) es fs->All2 R es.flatten fs.flatten
 | [],fs,h=>by simp only[All2]at h;subst h;rfl
 |c::es,fs,⟨d,q,h1,h2,h3⟩=>by
  subst h1;rw[List.flatten_cons,List.flatten_cons];exact h2.append (Fz h3)
def KX{R k}:∀{es fs:List bN},All2 (All2 R) es fs->(∀c∈es,c.length=k)->∀c∈fs,c.length=k
 | [],fs,h,_,c,hc=>by simp only[All2]at h;subst h;cases hc
 |e::es,fs,⟨d,q,h1,h2,h3⟩,hk,c,hc=>by
  subst h1;rcases dR.1 hc with rfl|h
  .rw[h2.len];exact hk e (by simp)
  .exact KX h3 (λx hx=>hk x (by simp[hx])) c h
def Ms(hh:HeapOk B w h u ν φ){x d}(r:Rep1 w h u ν x v)(m:Iq h x d):∃S,DY w d v S/\S.Nodup/\(∀y∈S,B y)/\∀y∈S,∃b∈Om x,h b≠none/\y∈φ b:=by
 cases x<;>cases d<;>simp only[Iq]at m
 .subst m;exact⟨[],⟨r.1,r.2,rfl⟩,by simp,by simp,by simp⟩
 .subst m;exact⟨[],.inl ⟨rfl,r,rfl⟩,by simp,by simp,by simp⟩
 .rename_i b i n k es;obtain⟨rfl,blk,hb,rfl,rfl,m⟩:=m;obtain⟨r1,r2,r3⟩:=r.2 blk hb;obtain⟨_,⟨hk,hx⟩,hnd,hB⟩:=hh.blk b blk hb;rcases hx with ⟨q1,q2,q3⟩|⟨β,c,arr,ty,T,vs,q1,q2,q3,q4,q5,q6,q7,q8⟩
  .rw[q2]at m;simp only[All2]at m;subst m;exact⟨[],.inl ⟨rfl,r2 q1,rfl⟩,by simp,by simp,by simp⟩
  .have hl:es.length=blk.es.length:=m.len;have e1:=Ir q8 (Fz m);have e3:=(r3 β c q1).zero;refine⟨φ b,.inr ⟨β,c,arr,ty,T,vs,by rw[hl];exact e3,q2,q3,by rw[hl];exact q4,q5,KX m hk,q6,by rw[hl];exact q7,e1⟩,hnd,hB,λy hy=>⟨b,by simp[Om],by rw[hb];simp,hy⟩⟩
def VG(hh:HeapOk B w h u ν φ){o1 o2:List Nat}(hn:(o1++o2).Nodup)(h1:∀y∈S1,∃b∈o1,h b≠none/\y∈φ b)(h2:∀y∈S2,∃b∈o2,h b≠none/\y∈φ b):∀y∈S1,y ∉ S2:=by
 intro y hy hy2;obtain⟨b,g1,g2,g3⟩:=h1 y hy;obtain⟨c,k1,k2,k3⟩:=h2 y hy2;exact hh.apart b c y g2 k2 (λe=>(List.nodup_append.1 hn).2.2 b g1 c k1 e) g3 k3
def Oo(hh:HeapOk B w h u ν φ):∀{xs ds vs},All2 (Rep1 w h u ν) xs vs->All2 (Iq h) xs ds->(xs.flatMap Om).Nodup->
  ∃S,Ja w ds vs S/\S.Nodup/\(∀y∈S,B y)/\∀y∈S,∃b∈xs.flatMap Om,h b≠none/\y∈φ b
 | [],ds,vs,r,m,_=>by simp only[All2]at r m;subst r;subst m;exact⟨[],⟨rfl,rfl⟩,by simp,by simp,by simp⟩
 |x::xs,ds,vs,⟨v,q,h1,h2,h3⟩,⟨d,p,g1,g2,g3⟩,hn=>by
  subst h1;subst g1;rw[List.flatMap_cons]at hn;obtain⟨S1,a1,a2,a3,a4⟩:=Ms hh h2 g2;obtain⟨S2,b1,b2,b3,b4⟩:=Oo hh h3 g3 (List.nodup_append.1 hn).2.1;have hap:=VG hh hn a4 b4;refine⟨S1++S2,⟨v,q,S1,S2,rfl,rfl,a1,b1⟩,List.nodup_append.2 ⟨a2,b2,λx hx y hy e=>hap x hx (e▸hy)⟩,?_,?_⟩
  .intro y hy;rcases eY.1 hy with h|h
   .exact a3 y h
   .exact b3 y h
  .intro y hy;rw[List.flatMap_cons];rcases eY.1 hy with h|h
   .obtain⟨b,c1,c2⟩:=a4 y h;exact⟨b,List.mem_append_left _ c1,c2⟩
   .obtain⟨b,c1,c2⟩:=b4 y h;exact⟨b,List.mem_append_right _ c1,c2⟩
def Jc(hh:HeapOk B w h u ν φ){x d}(r:RepA w h u ν x v)(m:Lb h x d)(hn:(On x).Nodup):∃S,WV w d v S/\S.Nodup/\(∀y∈S,B y)/\∀y∈S,∃b∈On x,h b≠none/\y∈φ b:=by
 by_cases ho:∃cs ds,x= .agg cs/\d= .agg ds
 .obtain⟨cs,ds,rfl,rfl⟩:=ho;obtain⟨vs,rfl,r⟩:=r;obtain⟨S,a1,a2,a3,a4⟩:=Oo hh r m hn;exact⟨S,⟨vs,rfl,a1⟩,a2,a3,a4⟩
 .have m':Iq h x d:=by cases x<;>cases d<;>first|exact m|exact absurd ⟨_,_,rfl,rfl⟩ ho
  have r':Rep1 w h u ν x v:=by cases x<;>first|exact r|(cases d<;>exact m'.elim)
  obtain⟨S,a1,a2,a3,a4⟩:=Ms hh r' m';refine⟨S,?_,a2,a3,?_⟩
  .cases d<;>first|exact a1|(cases x<;>exact m'.elim)
  .cases x<;>first|exact a4|(cases d<;>exact m'.elim)
def Hf(hh:HeapOk B w h u ν φ):∀{xs ds vs},All2 (RepA w h u ν) xs vs->All2 (Lb h) xs ds->(xs.flatMap On).Nodup->
  ∃S,VD w ds vs S/\S.Nodup/\(∀y∈S,B y)/\∀y∈S,∃b∈xs.flatMap On,h b≠none/\y∈φ b
 | [],ds,vs,r,m,_=>by simp only[All2]at r m;subst r;subst m;exact⟨[],⟨rfl,rfl⟩,by simp,by simp,by simp⟩
 |x::xs,ds,vs,⟨v,q,h1,h2,h3⟩,⟨d,p,g1,g2,g3⟩,hn=>by
  subst h1;subst g1;rw[List.flatMap_cons]at hn;obtain⟨S1,a1,a2,a3,a4⟩:=Jc hh h2 g2 (List.nodup_append.1 hn).1;obtain⟨S2,b1,b2,b3,b4⟩:=Hf hh h3 g3 (List.nodup_append.1 hn).2.1;have hap:=VG hh hn a4 b4;refine⟨S1++S2,⟨v,q,S1,S2,rfl,rfl,a1,b1⟩,List.nodup_append.2 ⟨a2,b2,λx hx y hy e=>hap x hx (e▸hy)⟩,?_,?_⟩
  .intro y hy;rcases eY.1 hy with h|h
   .exact a3 y h
   .exact b3 y h
  .intro y hy;rw[List.flatMap_cons];rcases eY.1 hy with h|h
   .obtain⟨b,c1,c2⟩:=a4 y h;exact⟨b,List.mem_append_left _ c1,c2⟩
   .obtain⟨b,c1,c2⟩:=b4 y h;exact⟨b,List.mem_append_right _ c1,c2⟩
def GS:Exit->Bool
 | .ret=>true
 | .normal=>true
 |_=>false
def FQ(T:List (Nat×Ty))(rvs:List ResultVar)(r:AV)(e:Exit)(s:AState):Prop:=GS e=true/\∃vs,Cl T s rvs=some vs/\tC (vs.flatMap On)=true/\Mr s.heap vs r
def Gp:bN->Nat->Option AV
 | [],_=>none
 |d::_,0=>some d
 |_::r,n+1=>Gp r n
def AL:AV->Bool
 | .agg cs=>cs.all fF
 | .fn _ cs=>cs.all fF
 |x=>fF x
def s0(ds:bN)(ns:List Nat):AState:=⟨Gp ds,λ_=>none,λ_=>false,ns,0⟩
def Oq(ho:∀x,ν.ok x)(x):mU (λ_=>none) ν x:=⟨λ_ _ _ _ h=>(by cases h),ho x⟩
def aAB{d}(r:RepD w d v S)(ok:AL d=true)(ho:∀x,ν.ok x):RepA w (λ_=>none) u ν d v:=by
 cases d<;>simp only[AL]at ok<;>first
  |(simp only[RepD]at r
    obtain⟨vs,h1,h2⟩:=r
    exact⟨vs,h1,h2.rep1 ok (λy _=>Oq ho y)⟩)
  |exact(r.rep1 ok (λy _=>Oq ho y)).repA
def Rg(ho:∀x,ν.ok x):∀{ds vs S},RepVs w ds vs S->ds.all AL=true->∀t x,Gp ds t=some x->∃v,vs[t]? =some v/\RepA w (λ_=>none) u ν x v
 | [],_,_,_,_,t,x,h=>by cases h
 |d::ds,vs,S,r,ok,t,x,h=>by
  simp only[RepVs]at r;obtain⟨v,q,S1,S2,rfl,rfl,h3,h4⟩:=r;simp only[List.all_cons,cB]at ok;cases t with
  |zero=>simp only[Gp,Option.some.injEq]at h;subst h;exact⟨v,rfl,aAB h3 ok.1 ho⟩
  |succ t=>simpa using Rg ho h4 ok.2 t x (by simpa only[Gp]using h)
variable{ds:List AV}
def GA(hT:TyOk P T){c r}(hf:P.funcs[f]? =some fn)(hb:fn.body=some c)(hname:(fn.name== "runtime.NumGoroutine")=false)(hnt:fn.ntmps=nt)(hres:fn.results.toList=rvs)(hlen:Nat.ble ds.length nt=true)(hok:ds.all AL=true)(h:AC P nt c (s0 ds ns) (FQ T rvs r)):HasC P f ds r:=by
 refine⟨Enters.mk hf (by rw[hb];rfl) hname,λw args S hargs=>?_⟩;refine(callsIn_wide (n:=0)).1 (callsIn_of_wp_marks (F:=fw none) hf hb trivial ?_);have hlen':=Nat.le_of_ble_eq_true hlen;have hal:args.size=ds.length:=by have:=hargs.len;simpa using this
 let C:Ctx:=⟨w.heap.size,w,nt,λx=>w.heap.size<=x,λ_ h=>h,0,w,λ_=>none,Nu.none,λ_=>True,λ_ x hx hm=>absurd hx (Nat.not_lt.2 hm),(λ_ h=>by cases h),none,λ_=>rfl⟩
 have hsim:Sim C (s0 ds ns) Nu.none ⟨args++Array.replicate (fn.ntmps-args.size) undef,[]⟩ w:=by
  refine⟨Below.refl _ _,bG _,λ_ hx=>hx,yV,by show(args++Array.replicate (fn.ntmps-args.size) undef).size=nt;simp[hnt];omega,?_,⟨λ_=>[],λb blk hb=>(by cases hb),λb c x hb=>absurd rfl hb⟩,rfl,⟨λb hb=>absurd (Nat.le_of_ble_eq_true (n:=b+1) (m:=0) hb) (Nat.not_succ_le_zero b),λb blk' hb=>absurd (Nat.le_of_ble_eq_true (n:=b+1) (m:=0) hb) (Nat.not_succ_le_zero b),λx _ _=>⟨rfl,λb blk β c hb=>by cases hb⟩,rfl⟩,bG _,λ_ _=>trivial,λ_ _ _ _=>trivial⟩;intro t x hx;obtain⟨v,h1,h2⟩:=Rg (u:=λ_=>false) (ν:=Nu.none) (λ_=>trivial) hargs hok t x hx;refine⟨v,?_,h2⟩
  have hlt:t<args.size:=by
   rcases eG t args.size with h'|h'
   .exact h'
   .rw[iM (by simpa using h')]at h1;cases h1
  show(args++Array.replicate (fn.ntmps-args.size) undef)[t]? =some v;rw[Array.getElem?_append_left hlt];simpa using h1
 refine wpIn_mono (h.out C rfl _ _ w hsim 0) λe a' w0 ⟨s',ν',hq,hs0⟩=>?_;obtain⟨Ds,d1,d2,d3⟩:=hs0.defers;obtain⟨w',hs',hleave⟩:=hs0.leave (P:=P) (n:=0) d1 d2 d3;obtain⟨he,avs,hv,hn,hfz⟩:=hq;obtain⟨us,h1,h2⟩:=Cs hT hs' hv;obtain⟨φ,hh⟩:=hs'.heap;have hn':=CN hn
 have hrun:(results fn a'.tmps).run P w'= .ok (if hh:us.toArray.size=1 then us.toArray[0]else .tuple us.toArray) w':=by
  unfold results;rw[Sem.run_bind,Array.mapM_eq_mapM_toList,Sem.run_map,hres];have h1':=h1;generalize hq:(List.mapM _ rvs:Sem (List Value))=m;rw[show Sem.run P m w'= .ok us w' by rw[←hq];exact h1'];simp
 have hres2:∃S',Mn w' r (if hh:us.toArray.size=1 then us.toArray[0]else .tuple us.toArray) S'/\New w.heap.size S':=by
  have hul:us.length=avs.length:=h2.len;unfold Mr at hfz;split at hfz
  .rename_i v r';obtain⟨u,q,rfl,g1,g2⟩:=h2;simp only[All2]at g2;subst g2;simp only[List.flatMap_cons,List.flatMap_nil,List.append_nil]at hn';obtain⟨S',a1,a2,a3,a4⟩:=Jc hh g1 hfz.1 hn';refine⟨S',?_,a2,a3⟩;simp only[List.size_toArray,List.length_cons,List.length_nil,Nat.zero_add,dite_true];have hnt:=hfz.2;cases r<;>first|exact a1|exact absurd rfl (hnt _)
  .rename_i vs rs _;obtain⟨S',a1,a2,a3,a4⟩:=Hf hh h2 hfz.2 hn';refine⟨S',?_,a2,a3⟩;rw[dif_neg (by simp;rw[hul];exact hfz.1)];exact⟨us,rfl,a1⟩
  .exact hfz.elim
 obtain⟨S',hr1,hr2⟩:=hres2;have hend:=hleave fn (λe w'=>∃v S',e= .returned v/\Below w.heap.size w w'/\Mn w' r v S'/\New w.heap.size S') ⟨_,hrun,_,S',rfl,hs'.below,hr1,hr2⟩;cases e<;>simp only[GS,fK]at he<;>exact hend
abbrev AV.int(n:Int):AV:=.sc (.int .i64 n)
abbrev AV.bl(b:Bool):AV:=.sc (.bool b)
abbrev AV.str(b:ByteArray):AV:=.sc (.string b)
def Ew:bN->Nat->bN->bN
 | [],_,_=>[]
 |c::cs,0,[]=>c::cs
 |_::cs,0,v::vs=>v::Ew cs 0 vs
 |c::cs,j+1,vs=>c::Ew cs j vs
section
variable {P:Program}{T:List (Nat×Ty)}(hT:TyOk P T){dst:Option Tmp}{ty:TypeId}{pos:String}{aft:Array Edge}{g:Option (Nat×Bool)}{s:AState}
def YD:BinOp->Int->Int->Option Bool
 | .eql,a,b=>some (decide (a=b))
 | .neq,a,b=>some (!decide (a=b))
 | .lss,a,b=>some (decide (a<b))
 | .leq,a,b=>some (decide (a<=b))
 | .gtr,a,b=>some (decide (b<a))
 | .geq,a,b=>some (decide (b<=a))
 |_,_,_=>none
def Ct{op y k a b c}(hx:s.ev x=some (.sc (.int k a)))(hy:s.ev y=some (.sc (.int k b)))(hc:YD op a b=some c):AEff P ⟨dst,.binOp op t x y t',ty,pos,aft,g⟩ s.ev s.heap s.kp ⟨.bl c,[],[],[]⟩:=
 tK hx hy rfl λw=>by
  have e1:decide (a=b)=(a==b):=by by_cases h:a=b<;>simp[h]
  cases op<;>simp only[YD]at hc<;>cases hc
  .rw[e1];simp[eqGuard,binOp,Op.intCmp]
  .rw[e1];simp[eqGuard,binOp,Op.intCmp];rfl
  all_goals simp[eqGuard,binOp,Op.intCmp]
def rX{b}(hx:s.ev x=some (.bl b)):AEff P ⟨dst,.unOp .not t x,ty,pos,aft,g⟩ s.ev s.heap s.kp ⟨.bl (!b),[],[],[]⟩:=
 Xu hx rfl λw=>by simp[Op.unary]
include hT
variable{es:List (List AV)}{cs:List AV}
def WX{t e k i}(hy:dB T t=some y)(hd:y.desc= .slice e)(hye:dB T e=some ye)(hk:ye.size=k)(hx:s.ev x=some (.list k es))(hix:s.ev ix=some (.sc (.int kk i)))(h0:0<=i)(hm:es[i.toNat]? =some cs):AEff P ⟨dst,.indexAddr t x ix,ty,pos,aft,g⟩ s.ev s.heap s.kp ⟨.ref cs,[],[],[]⟩:=
 EB hT hy hd hye hk hx (by rw[hix,show((i.toNat:Nat):Int)=i by omega]) hm
def Rh{t e j}(hy:dB T t=some y)(hd:y.desc= .slice e)(hye:dB T e=some ye)(hx:s.ev x=some (.own b i n))(hb:s.heap b=some blk)(hk:ye.size=blk.k)(hix:s.ev ix=some (.sc (.int kk j)))(h0:0<=j)(hm:j<n):AEff P ⟨dst,.indexAddr t x ix,ty,pos,aft,g⟩ s.ev s.heap s.kp ⟨.ptr b (i+j.toNat) 0,[b],[],[]⟩:=
 JX hT hy hd hye hb hk hx (by rw[hix,show((j.toNat:Nat):Int)=j by omega]) (by omega)
def dM{t v}(hx:s.ev x=some (.ptr b i j))(hb:s.heap b=some blk)(hy:dB T t=some y)(h1:(y.desc.isAgg||Nat.beq y.size 1)=true)(hi:blk.es[i]? =some cs)(hn:Nat.ble (j+y.size) cs.length=true)(hv:AJ y.desc.isAgg (((cs.drop j).take y.size).map Ec)=v):AEff P ⟨dst,.load t x,ty,pos,aft,g⟩ s.ev s.heap s.kp ⟨v,[b],[],[]⟩:=hv▸JW hT hy h1 hx hb hi (Nat.le_of_ble_eq_true hn)
def Is{t v}(hx:s.ev x=some (.ref cs))(hy:dB T t=some y)(h1:(y.desc.isAgg||Nat.beq y.size 1)=true)(hn:Nat.ble y.size cs.length=true)(hpl:(cs.take y.size).all fF=true)(hv:AJ y.desc.isAgg (cs.take y.size)=v):AEff P ⟨dst,.load t x,ty,pos,aft,g⟩ s.ev s.heap s.kp ⟨v,[],[],[]⟩:=hv▸Pr hT hy h1 hx (Nat.le_of_ble_eq_true hn) hpl
def BW{st f fD}(hx:s.ev x=some (.ptr b i j))(hb:s.heap b=some blk)(hy:dB T st=some y)(hd:y.desc= .struct fs)(hf:fs[f]? =some (fD,ft))(hft:dB T ft=some yf)(hsz:Nat.beq yf.size 0=false):AEff P ⟨dst,.fieldAddr st x f,ty,pos,aft,g⟩ s.ev s.heap s.kp ⟨.ptr b i (j+fD),[b],[],[]⟩:=JU hT hy hd hf hft (λe=>by rw[e]at hsz;cases hsz) hx hb
def Ej{st f fD}(hx:s.ev x=some (.ref cs))(hy:dB T st=some y)(hd:y.desc= .struct fs)(hf:fs[f]? =some (fD,ft))(hft:dB T ft=some yf)(hsz:Nat.beq yf.size 0=false):AEff P ⟨dst,.fieldAddr st x f,ty,pos,aft,g⟩ s.ev s.heap s.kp ⟨.ref (cs.drop fD),[],[],[]⟩:=JV hT hy hd hf hft (λe=>by rw[e]at hsz;cases hsz) hx
def CO{t e k}(hx:s.ev x=some (.list k es))(hy:dB T t=some y)(hd:y.desc= .slice e):AEff P ⟨dst,.call ⟨.builtin .len,#[x],#[t]⟩,dty,pos,aft,g⟩ s.ev s.heap s.kp ⟨.int es.length,[],[],[]⟩:=Ps hT hy hd hx
def gV{t e}(hx:s.ev x=some (.own b i n))(hb:s.heap b=some blk)(hy:dB T t=some y)(hd:y.desc= .slice e):AEff P ⟨dst,.call ⟨.builtin .len,#[x],#[t]⟩,dty,pos,aft,g⟩ s.ev s.heap s.kp ⟨.int n,[b],[],[]⟩:=RU hT hy hd hb hx
omit hT in
def YE{v}(hns:s.ns.head?=some b)(hx:s.ev x=some v)(ok:(cN v).all (okCell s.heap)=true)(hb:(dD (cN v)).contains b=false):AEff P ⟨dst,.box t x,ty,pos,aft,g⟩ s.ev s.heap s.kp ⟨.ptr b 0 0,dD (cN v),[(b,some ⟨(cN v).length,[cN v]⟩)],[b]⟩:=Zx hx ok hb
def Bf(hns:s.ns.head?=some b)(hy:dB T t=some y):AEff P ⟨dst,.alloc t,ty,pos,aft,g⟩ s.ev s.heap s.kp ⟨.ptr b 0 0,[],[(b,some ⟨y.zero.length,[y.zero]⟩)],[b]⟩:=WQ hT hy
def aBn{e:TypeId}{l c n}(hns:s.ns.head?=some b)(hl:s.ev l=some (.sc (.int kl n)))(hc:s.ev c=some (.sc (.int kc n)))(hy:dB T t=some y)(hd:y.desc= .slice e)(hye:dB T e=some ye)(hz:ye.zero.length=ye.size)(h0:0<=n)(hn:n<=4294967296)(hb:n.toNat*ye.bytes<=140737488355328):AEff P ⟨dst,.makeSlice t l c,ty,pos,aft,g⟩ s.ev s.heap s.kp ⟨.own b 0 n.toNat,[],[(b,some ⟨ye.size,List.replicate n.toNat ye.zero⟩)],[b]⟩:=
 OK hT hy hd hye (by rw[hl,show((n.toNat:Nat):Int)=n by omega]) (by rw[hc,show((n.toNat:Nat):Int)=n by omega]) hb (by omega) hz
variable{ps:List (Nat×List AV)}
def aDj{e:TypeId}(hns:s.ns.head?=some b)(hy:dB T t=some y)(hd:y.desc= .slice e)(hye:dB T e=some ye)(hz:ye.zero.length=ye.size)(hn:Nat.ble (n*ye.size) 16777216=true)(hnn:Nat.ble n 16777216=true)(hps:Ck s.ev parts.toList=some ps)(hfill:FN (λi=>some (i*ye.size,ye.size)) (List.replicate n ye.zero).flatten ps=some cs)(ok:(ps.all λp=>p.2.all (okCell s.heap))=true)(hcs:cs.all (okCell s.heap)=true)(hb:(ps.flatMap (λp=>dD p.2)++dD cs).contains b=false):AEff P ⟨dst,.buildSlice t n parts,ty,pos,aft,g⟩ s.ev s.heap s.kp ⟨.own b 0 n,ps.flatMap (λp=>dD p.2)++dD cs,[(b,some ⟨ye.size,Gk ye.size n cs⟩)],[b]⟩:=Mb hT hy hd hye hz hn hnn hps hfill ok hcs hb
def Jd(hy:dB T t=some y)(hd:y.desc= .struct fs)(hf:(fs.all λf=>(dB T f.2).isSome)=true)(hps:Ck s.ev parts.toList=some ps)(hfill:FN (Cr T fs) y.zero ps=some cs)(ok:(ps.all λp=>p.2.all (okCell s.heap))=true):AEff P ⟨dst,.build t parts,ty,pos,aft,g⟩ s.ev s.heap s.kp ⟨.agg cs,ps.flatMap (λp=>dD p.2),[],[]⟩:=WR hT hy hd hf hps hfill ok
omit hT in
def GB:∀{cs:bN}{j:Nat}{vs:bN},j+vs.length<=cs.length->cs.take j++vs++cs.drop (j+vs.length)=Ew cs j vs
 | [],j,vs,h=>by
  have:vs=[]:=List.eq_nil_of_length_eq_zero (by rw[List.length_nil]at h;omega);subst this;simp[Ew]
 |c::cs,0,[],h=>by simp[Ew]
 |c::cs,0,v::vs,h=>by
  have ih:=GB (cs:=cs) (j:=0) (vs:=vs) (by simp at h ⊢;omega);simp only[Nat.zero_add,List.take_zero,List.nil_append]at ih;simp only[Nat.zero_add,List.take_zero,List.nil_append,List.length_cons,List.drop_succ_cons,List.cons_append,Ew,ih]
 |c::cs,j+1,vs,h=>by
  have ih:=GB (cs:=cs) (j:=j) (vs:=vs) (by simp at h;omega);rw[show j+1+vs.length=(j+vs.length)+1 by omega,List.take_succ_cons,List.drop_succ_cons];simp only[List.cons_append,Ew,ih]
variable{ees:List (List AV)}
def Da{val:AV}{kk}(hx:s.ev x=some (.ptr b i j))(hb:s.heap b=some ⟨kk,ees⟩)(hz:s.ev z=some val)(hy:dB T t=some y)(hsz:Nat.beq (cN val).length y.size=true)(ok:(cN val).all (okCell s.heap)=true)(hi:ees[i]? =some cs)(hn:Nat.ble (j+y.size) cs.length=true):AEff P ⟨dst,.store t x z,ty,pos,aft,g⟩ s.ev s.heap s.kp ⟨.dead,b::dD (cN val),[(b,some ⟨kk,ees.set i (Ew cs j (cN val))⟩)],[]⟩:=by
 have h1:=Nat.eq_of_beq_eq_true hsz;have h2:=Nat.le_of_ble_eq_true hn;have h3:=WS (P:=P) hT (κ:=s.kp) (dst:=dst) (ty:=ty) (pos:=pos) (aft:=aft) (g:=g) hy hx hz h1 hb hi h2 ok;rw[←h1,GB (by omega)]at h3;exact h3
variable{sv:AV}{news:List (List AV)}
def Os{t e k}(hns:s.ns.head?=some b')(hx:s.ev x=some (.own b 0 n))(hb:s.heap b=some blk)(hxz:s.ev z=some sv)(hsrc:xR s.heap sv=some (k,news,ts))(hy:dB T t=some y)(hd:y.desc= .slice e)(hye:dB T e=some ye)(hz:ye.zero.length=ye.size)(hk:blk.k=ye.size)(hk2:k=ye.size)(hn:blk.es.length=n)(ok:news.flatten.all (okCell s.heap)=true)(hb1:n+news.length<=4294967296)(hb2:(n+news.length)*ye.bytes<=140737488355328):AEff P ⟨dst,.call ⟨.builtin .append,#[x,z],#[t,t]⟩,dty,pos,aft,g⟩ s.ev s.heap s.kp ⟨.own b' 0 (n+news.length),b::(ts++dD news.flatten),[(b,none),(b',some ⟨ye.size,blk.es++news⟩)],[b']⟩:=Md hT hy hd hye hz hx hb hn hk hxz hsrc hk2 ok hb1 hb2
omit hT in
def MN(ns)(u):Tl ns (.sc u)=(.sc u,[],ns):=by cases ns<;>rfl
variable{avs:List AV}
omit hT in
def bZ{u}(hc:HasC P f ds (.sc u))(hx:Gh s.ev xs.toList=some avs)(hv1:All2 (viewA s.heap) avs ds):AEff P ⟨dst,.call ⟨.value (.func f),xs,ats⟩,ty,pos,aft,g⟩ s.ev s.heap s.kp ⟨.sc u,avs.flatMap (lK s.heap)++[].flatMap (pJ s.heap),[],[]⟩:=
 Mp (ds1:=ds) (ds2:=[]) (caps:=[]) (ns:=[]) (nb:=[]) (r:=.sc u) (x:=.sc u) rfl hx (by rw[List.append_nil];exact hc) hv1 rfl trivial (MN [] u) rfl (by simp)
omit hT in
def Ad{r x}(hc:HasC P f ds r)(hx:Gh s.ev xs.toList=some avs)(hi:Tl s.ns r=(x,nb,ns'))(hfl:Rf x=true)(hn:tC s.ns=true)(hg:LL r)(hv1:All2 (viewA s.heap) avs ds):AEff P ⟨dst,.call ⟨.value (.func f),xs,ats⟩,ty,pos,aft,g⟩ s.ev s.heap s.kp ⟨x,avs.flatMap (lK s.heap)++[].flatMap (pJ s.heap),vC nb,nb.map (·.1)⟩:=by
 exact Mp (ds1:=ds) (ds2:=[]) (caps:=[]) rfl hx (by rw[List.append_nil];exact hc) hv1 rfl hg hi hfl (CN hn)
end
section
variable {K:AState->Prop}{Q:Exit->AState->Prop}{s:AState}{id:Nat}
def nT(h:K s):lJ K Q .normal s:=h
def aX(h:Q .ret s):lJ K Q .ret s:=h
def aB(h:Q (.exit id) s):lJ K Q (.exit id) s:=h
def aU(h:Q .normal s):Ev id Q .normal s:=h
def dJ(h:Q .ret s):Ev id Q .ret s:=h
def bU(h:Q .normal s):Ev id Q (.exit id) s:=by simp only[Ev,bO,aJ];exact h
def bD{T r e vs}(he:GS e=true)(hv:Cl T s rvs=some vs)(hn:tC (vs.flatMap On)=true)(hf:Mr s.heap vs r):FQ T rvs r e s:=⟨he,vs,hv,hn,hf⟩
end
def WY(l:aA):List bN:=l.map λx=>[.int x]
abbrev WZ(l:aA):AV:=.list 1 (WY l)
def Ri(l):(WY l).length=l.length:=by simp[WY]
def aAC{l k}(h:k<l.length):(WY l)[k]? =some [.int (l[k]?.getD 0)]:=by simp[WY,h]
structure Qv where
 n:Int
 src:aA
 tgt:aA
 deriving DecidableEq
structure Mt where
 rows:Int
 cols:Int
 cells:aA
 deriving DecidableEq
structure Rp where
 p:Int
 q:Qv
 dims:aA
 maps:List Mt
 deriving DecidableEq
abbrev eI(x:Int):bN:=[.int x]
def eQ(q:Qv):bN:=[.int q.n,WZ q.src,WZ q.tgt]
def eM(m:Mt):bN:=[.int m.rows,.int m.cols,WZ m.cells]
def eR(r:Rp):bN:=[.int r.p,.int r.q.n,WZ r.q.src,WZ r.q.tgt,WZ r.dims,.list 3 (r.maps.map eM)]
def aQ:All2 (viewA h) [] []:=rfl
def aI{x d xs}(a:viewA h x d)(b:All2 (viewA h) xs ds):All2 (viewA h) (x::xs) (d::ds):=⟨d,ds,rfl,a,b⟩
def iC{c}(p:fF c=true):view1 h c c:=by cases c<;>simp only[fF,fK]at p<;>simp[view1,view0]
def Ek{c}(p:fF c=true):viewA h c c:=by cases c<;>simp only[fF,fK]at p<;>simp[viewA,viewP,view1,view0]
def Rj:∀{cs},cs.all fF=true->All2 (view1 h) cs cs
 | [],_=>rfl
 |c::cs,p=>by simp only[List.all_cons,cB]at p;exact⟨c,cs,rfl,iC p.1,Rj p.2⟩
variable{cs:List AV}
def El(p:All2 (view1 h) cs ds):viewA h (.agg cs) (.agg ds):=p
def ED:All2 (view1 h) [] []:=rfl
def eX{x d xs}(a:view1 h x d)(b:All2 (view1 h) xs ds):All2 (view1 h) (x::xs) (d::ds):=⟨d,ds,rfl,a,b⟩
variable{es:List (List AV)}
def QA{k}(hb:h b=some blk)(hk:blk.k=k)(hn:n=blk.es.length)(v:All2 (All2 view0) blk.es es):view1 h (.own b 0 n) (.list k es):=by
 refine⟨blk,hb,hk,?_⟩;rw[List.drop_zero,hn,List.take_length];exact v
def aBN{u}(e:u=v)(hn:∀cs,AV.sc v≠ .tuple cs:=by intro _ h;cases h):Mr h [.sc u] (.sc v):=⟨e,hn⟩
def Rk{u v}(e:u=v):Mr h [.bl u] (.bl v):=⟨by rw[e];rfl,by intro _ h;cases h⟩
def QB{u v}(e:u=v):Mr h [.int u] (.int v):=⟨by rw[e];rfl,by intro _ h;cases h⟩
def zU{f:α->bN}{l:List α}{k:Nat}{x}(h:l[k]? =some x):(l.map f)[k]? =some (f x):=by simp[h]
abbrev bK:=List Mt
variable{es':List (List AV)}
def Tn(hb:s.heap b=some blk)(hi:blk.es[i]? =some cs)(hj:cs[j]? =some (.own b' 0 n))(hb':s.heap b'=some blk')(hne:Nat.beq b b'=false)(hn:blk'.es.length=n)(hk:blk'.k=k')(hf:All2 (All2 Gn) blk'.es es'):Ent s ⟨s.env,aY [(b',none),(b,some ⟨blk.k,blk.es.set i (cs.take j++[.abs k' es']++cs.drop (j+1))⟩)] s.heap,s.used,s.ns,s.kp⟩:=by
 intro C ν a w hs;have hne':b≠b':=by rintro rfl;rw[bO]at hne;cases hne
 obtain⟨φ,hh⟩:=hs.heap;obtain⟨hub,⟨hk1,hx1⟩,hnd1,hB1⟩:=hh.blk b blk hb;obtain⟨hub',⟨hk2,hx2⟩,hnd2,hB2⟩:=hh.blk b' blk' hb';have hcs:=hk1 cs (List.mem_of_getElem? hi)
 have hjl:j<cs.length:=by
  rcases eG j cs.length with h'|h'
  .exact h'
  .rw[iM h']at hj;cases hj
 rcases hx1 with ⟨q1,q2,_⟩|⟨β,c,arr,ty,T,vs,q1,q2,q3,q4,q5,q6,q7,q8⟩
 .rw[q2]at hi;simp at hi
 .have hext:Ext w s.heap s.used ν w (aY [(b',none),(b,some ⟨blk.k,blk.es.set i (cs.take j++[.abs k' es']++cs.drop (j+1))⟩)] s.heap) s.used ν:=by
   refine⟨λ_ h=>h,λb2 blk2 _ hb2=>?_,λx hx hfr=>⟨rfl,λb2 blk2 β2 c2 hb2 hν2=>?_⟩,rfl⟩
   .simp only[aY]at hb2;by_cases e:b2=b'
    .subst e;rw[bO]at hb2;cases hb2
    .rw[bW e]at hb2;by_cases e2:b2=b
     .subst e2;simp only[aW,bO,aJ,Option.some.injEq]at hb2;subst hb2;exact⟨blk,hb,rfl,by simp,rfl⟩
     .rw[bW e2]at hb2;exact⟨blk2,hb2,rfl,rfl,rfl⟩
   .simp only[aY]at hb2;by_cases e:b2=b'
    .subst e;rw[bO]at hb2;cases hb2
    .rw[bW e]at hb2;by_cases e2:b2=b
     .subst e2;exact hfr b2 blk β2 c2 hb hν2
     .rw[bW e2]at hb2;exact hfr b2 blk2 β2 c2 hb2 hν2
  have hdrop:blk.es.flatten.drop (i*blk.k+j)= .own b' 0 n::blk.es.flatten.drop (i*blk.k+j+1):=by
   obtain⟨r,hr⟩:=Az hk1 hi;have h1:blk.es.flatten.drop (i*blk.k+j)=(cs++r).drop j:=by rw[←hr,List.drop_drop]
   have h2:blk.es.flatten.drop (i*blk.k+j+1)=(cs++r).drop (j+1):=by rw[←hr,List.drop_drop,Nat.add_assoc]
   rw[h1,h2,List.drop_append_of_le_length (by omega),List.drop_append_of_le_length (by omega),List.drop_eq_getElem_cons hjl];have:cs[j]= .own b' 0 n:=by simpa [hjl]using hj
   rw[this];rfl
  have hfl:blk.es.flatten=blk.es.flatten.take (i*blk.k+j)++([.own b' 0 n]++blk.es.flatten.drop (i*blk.k+j+1)):=by
   rw[List.singleton_append,←hdrop,List.take_append_drop]
  rw[hfl]at q8;obtain⟨v1,v2,S1,S2,e1,e2,e3,e4,e5⟩:=q8.append_inv;obtain⟨v3,v4,S3,S4,f1,f2,f3,f4,f5⟩:=e5.append_inv;subst f1 f2;obtain⟨v,r0,S5,S6,rfl,rfl,g1,⟨rfl,rfl⟩⟩:=f4;simp only[CellRep,Rep1]at g1;obtain⟨⟨_,g2⟩,rfl⟩:=g1;obtain⟨g3,g4,g5⟩:=g2 blk' hb';have hlen':es'.length=n:=by rw[hf.len,hn]
  have hdata:RepO w (.list k' es') v (φ b'):=by
   rcases hx2 with ⟨p1,p2,p3⟩|⟨β',c',arr',ty',T',vs',p1,p2,p3,p4,p5,p6,p7,p8⟩
   .rw[p2]at hf;simp only[All2]at hf;subst hf;rw[g4 p1,p3];exact Gj
   .have r1:=Ir p8 (Fz hf);have h0:=(g5 β' c' p1).zero;rw[h0,p6];exact Oc.2 (.inr ⟨β',c',arr',ty',T',vs',by rw[hlen'],p2,by rw[←hk];exact p3,by rw[hlen',←hn];exact p4,p5,by rw[←hk];exact KX hf hk2,rfl,by rw[hlen',←hn,←hk];exact p7,r1⟩)
  have hφ:φ b=β::(S1++S4):=by rw[q6,e2];simp
  have hapart:∀y∈φ b',y ∉ φ b:=λy hy hy2=>hh.apart b b' y (by rw[hb];simp) (by rw[hb'];simp) hne' hy2 hy;refine⟨ν,hs.below,hs.base,hs.fresh,hs.defers,hs.size,λt x hx=>by obtain⟨v,h1,h2⟩:=hs.env t x hx;exact⟨v,h1,h2.ext hext⟩,⟨λx=>bif Nat.beq x b then β::(S1++(φ b'++S4))else φ x,?_,?_⟩,hs.kp,hs.ext.trans hext,hs.szE,hs.okM,hs.okF⟩
  .intro x blk2 hx;simp only[aY]at hx;by_cases e:x=b'
   .subst e;rw[bO]at hx;cases hx
   .rw[bW e]at hx;by_cases e0:x=b
    .subst e0;simp only[aW,bO,aJ,Option.some.injEq]at hx;subst hx;simp only[bO,aJ];refine⟨hub,⟨?_,.inr ⟨β,c,arr,ty,S1++(φ b'++S4),vs,q1,q2,q3,by simpa using q4,q5,rfl,by simpa using q7,?_⟩⟩,?_,?_⟩
     .intro d hd;rcases List.mem_or_eq_of_mem_set hd with h|h
      .exact hk1 d h
      .rw[h];simp;omega
     .rw[AK (n:=1) hk1 hi rfl (by omega),e1];have m1:∀g:Hp,CellsRep w g s.used ν [.abs k' es'] [v] (φ b'):=λg=>⟨v,[],φ b',[],rfl,by simp,hdata,rfl,rfl⟩;have m2:=(e4.ext hext (λ_ _=>rfl)).append ((m1 _).append (f5.ext hext (λ_ _=>rfl)));rw[List.append_assoc (List.take (i*blk.k+j) blk.es.flatten)];exact m2
     .rw[hφ]at hnd1;have hn1:=List.nodup_cons.1 hnd1;have hn2:=List.nodup_append.1 hn1.2;refine List.nodup_cons.2 ⟨λhm=>?_,List.nodup_append.2 ⟨hn2.1,List.nodup_append.2 ⟨hnd2,hn2.2.1,λx hx y hy e=>?_⟩,λx hx y hy e=>?_⟩⟩
      .rcases eY.1 hm with h|h
       .exact hn1.1 (List.mem_append_left _ h)
       .rcases eY.1 h with h|h
        .exact hapart β h (by rw[hφ];simp)
        .exact hn1.1 (List.mem_append_right _ h)
      .subst e;exact hapart x hx (by rw[hφ];simp[hy])
      .subst e;rcases eY.1 hy with h|h
       .exact hapart x h (by rw[hφ];simp[hx])
       .exact hn2.2.2 x hx x h rfl
     .intro y hy;rcases dR.1 hy with rfl|h
      .exact hB1 y (by rw[hφ];simp)
      .rcases eY.1 h with h|h
       .exact hB1 y (by rw[hφ];simp[h])
       .rcases eY.1 h with h|h
        .exact hB2 y h
        .exact hB1 y (by rw[hφ];simp[h])
    .rw[bW e0]at hx;simp only[bW e0,aW];obtain⟨p1,p2,p3,p4⟩:=hh.blk x blk2 hx;exact⟨p1,p2.ext hext rfl (λ_ _=>rfl),p3,p4⟩
  .have hsub:∀x y,aY [(b',none),(b,some ⟨blk.k,blk.es.set i (cs.take j++[.abs k' es']++cs.drop (j+1))⟩)] s.heap x≠none->y∈(bif Nat.beq x b then β::(S1++(φ b'++S4))else φ x)->x≠b'/\s.heap x≠none/\(y∈φ x∨(x=b/\y∈φ b')):=by
    intro x y hx hy;have hxb':x≠b':=by rintro rfl;simp[aY]at hx
    simp only[aY,bW hxb',aW]at hx;by_cases e0:x=b
    .subst e0;simp only[bO,aJ]at hy;refine⟨hxb',by rw[hb];simp,?_⟩;rcases dR.1 hy with rfl|h
     .exact .inl (by rw[hφ];simp)
     .rcases eY.1 h with h|h
      .exact .inl (by rw[hφ];simp[h])
      .rcases eY.1 h with h|h
       .exact .inr ⟨rfl,h⟩
       .exact .inl (by rw[hφ];simp[h])
    .rw[bW e0]at hx;simp only[bW e0,aW]at hy;exact⟨hxb',hx,.inl hy⟩
   intro x1 x2 y hx1 hx2 hne2 hy1 hy2;obtain⟨a1,a2,a3⟩:=hsub x1 y hx1 hy1;obtain⟨c1,c2,c3⟩:=hsub x2 y hx2 hy2;have hb'n:s.heap b'≠none:=by rw[hb'];simp
   rcases a3 with a3|⟨rfl,a3⟩<;>rcases c3 with c3|⟨rfl,c3⟩
   .exact hh.apart x1 x2 y a2 c2 hne2 a3 c3
   .exact hh.apart x1 b' y a2 hb'n a1 a3 c3
   .exact hh.apart b' x2 y hb'n c2 (Ne.symm c1) a3 c3
   .exact hne2 rfl
def Gq(hb:s.heap b=some blk)(hi:blk.es[i]? =some cs)(hj:cs[j]? =some (.own b' 0 n))(hb':s.heap b'=some blk')(hne:Nat.beq b b'=false)(hn:blk'.es.length=n)(hk:blk'.k=k')(hf:All2 (All2 Gn) blk'.es es'):Ent s ⟨s.env,aY [(b',none),(b,some ⟨blk.k,blk.es.set i (Ew cs j [.abs k' es'])⟩)] s.heap,s.used,s.ns,s.kp⟩:=by
 have hjl:j<cs.length:=by
  rcases eG j cs.length with h'|h'
  .exact h'
  .rw[iM h']at hj;cases hj
 rw[←GB (by simp;omega)];exact Tn hb hi hj hb' hne hn hk hf
def YF(h:(es.all λcs=>cs.all vU)=true):DW es:=λcs hcs c hc=>List.all_eq_true.1 (List.all_eq_true.1 h cs hcs) c hc
section
variable {P:Program}{dst:Option Tmp}{ty:TypeId}{pos:String}{aft:Array Edge}{g:Option (Nat×Bool)}{s:AState}
def VH(hu:P.underlying t=some .bool)(a b)(w):(Op.equal t (.bool a) (.bool b)).run P w= .ok (a==b) w:=by
 have key:∀d,(Op.equalIn (d+1) t (.bool a) (.bool b)).run P w= .ok (a==b) w:=λd=>by simp[Op.equalIn,nI hu]
 exact key 9999
def QC{y a b}(hu:P.underlying t=some .bool)(hx:s.ev x=some (.bl a))(hy:s.ev y=some (.bl b)):AEff P ⟨dst,.binOp .neq t x y t',ty,pos,aft,g⟩ s.ev s.heap s.kp ⟨.bl (!(a==b)),[],[],[]⟩:=
 tK hx hy rfl λw=>by simp[eqGuard,binOp,VH hu]
def aBO{y a b}(hu:P.underlying t=some .bool)(hx:s.ev x=some (.bl a))(hy:s.ev y=some (.bl b)):AEff P ⟨dst,.binOp .eql t x y t',ty,pos,aft,g⟩ s.ev s.heap s.kp ⟨.bl (a==b),[],[],[]⟩:=
 tK hx hy rfl λw=>by simp[eqGuard,binOp,VH hu]
end
end
end Go.Proofs.YthpgddekfghemaaGreat

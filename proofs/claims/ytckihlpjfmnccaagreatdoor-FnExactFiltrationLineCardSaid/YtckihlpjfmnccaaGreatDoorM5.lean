/- Several texts. -/
import Derived.OpenShut
import Derived.ShutString
import Derived.ChangeOld
import Derived.Test.YtckihlpjfmnccaaGreatDoorM4
set_option linter.unusedVariables false
set_option linter.unusedSimpArgs false
namespace Go.Proofs.YtckihlpjfmnccaaGreatDoor
open Go.RowKit
section
open Go.ChangeShapes Go.WideShapes Go.ChangeAt Go.RowKit
def oJ {α:Type} (P:Program) (t:TypeId) (s:Shp α):Prop:=
 ∀ (H:Type) (enc:TypeId×Value->H) (w:World) (fuel:Nat) (cs:List Value) (d:DataW H) (ps:List MemPlace),DataW.trod enc P w 0 (λ_=>true) true fuel t cs=some (d,ps)->w.noneFrozen ps-> ∃ x S,s.rd w cs x S
theorem aCk {n:Int} (h:(Lit.int .i64 n).wf=true):aHL n:=by
 have:=bounds_i64 h;unfold aHL;omega
theorem aEH {P:Program} {t:TypeId} (ht:P.underlying t=some (.int .i64)):oJ P t Shp.int:=by
 intro H enc w fuel cs d ps h _;obtain ⟨n,rfl,_,hw⟩:=DataW.trod_int ht h;exact ⟨n,[],rfl,rfl,aCk hw⟩
theorem aBp {P:Program} {t e:TypeId} {α:Type} {s:Shp α} (ht:P.underlying t=some (.slice e)) (hc:P.cellsOf e=s.size) (g:s.Good) (ho:oJ P e s):oJ P t (Shp.slice s):=by
 intro H enc w fuel cs d ps h hf;rcases Deep.open_slice ht h with ⟨rfl,_⟩|⟨a,len,cap,m,n,D,Pl,rfl,_,hl,hm,hmm,hx,hel⟩
 ·exact ⟨[],[],none,0,0,rfl,rfl,bQ _,Nat.zero_le _,.inl ⟨rfl,rfl⟩⟩
 ·simp only [if_true] at hmm;subst hmm;rw [hc] at hx hel;have hps:ps=MemPlace.row a (m*s.size)++(List.range m).flatMap Pl:=by injection hx
  have key: ∀ k,k<=m-> ∃ xs l T,l.length=k/\CellsRd s w xs l T/\ ∀ j u,xs[j]? =some u->w.cell? (a.add j)=some u/\w.frozen? ⟨a.block,a.off+j,none⟩=false:=by
   intro k;induction k with
   |zero=>intro _;exact ⟨[],[],[],rfl,⟨rfl,rfl⟩,by simp⟩
   |succ k ih=>
    intro hk;obtain ⟨xs,l,T,h1,h2,h3⟩:=ih (by omega);obtain ⟨cs',hcs,htr⟩:=hel k (by omega);obtain ⟨x,S,hr⟩:=ho H enc w n cs' (D k) (Pl k) htr (λb off hm=>hf b off (by rw [hps];exact List.mem_append_right _ (List.mem_flatMap.2 ⟨k,by simp;omega,hm⟩)));refine ⟨xs++cs',l++[x],T++S,by simp [h1],h2.append (CellsRd.single hr),?_⟩;intro j u hu;have hxl:xs.length=k*s.size:=by rw [h2.len g,h1]
    rcases dR j xs.length with hj|hj
    ·exact h3 j u (by rw [List.getElem?_append_left hj] at hu;exact hu)
    ·rw [List.getElem?_append_right hj,hxl] at hu;have hlen:=g.len hr
     have hj2:j - k*s.size<s.size:=by
      rcases dR (j - k*s.size) s.size with h'|h'
      ·exact h'
      ·rw [gW (by omega)] at hu;cases hu
     have hcell:=(World.cells?_some hcs).2.2 (j - k*s.size) (by omega);rw [Deep.add_add,show k*s.size+(j - k*s.size)=j by omega,hu] at hcell;refine ⟨hcell,hf _ _ ?_⟩;rw [hps];refine List.mem_append_left _ ?_;unfold MemPlace.row;refine List.mem_map.2 ⟨j,?_,rfl⟩;rw [List.mem_range];have:(k+1)*s.size<=m*s.size:=Nat.mul_le_mul_right _ (by omega);rw [Nat.add_mul] at this;omega
  obtain ⟨xs,l,T,h1,h2,h3⟩:=key len hl;by_cases h0:l=[]
  ·exact ⟨[],[],some a,len,m,rfl,by simpa [h0] using h1,hl,hm,.inl ⟨rfl,rfl⟩⟩
  ·have hpos:0<xs.length:=by
    rw [h2.len g];exact Nat.mul_pos (List.length_pos_iff.2 h0) g.pos
   have hfirst:=(h3 0 xs[0] (by simp [hpos])).1;rw [Addr.add_zero'] at hfirst
   have hspot:a.spot=none:=by
    cases hs:a.spot with
    |none=>rfl
    |some _=>
     unfold World.cell? at hfirst;split at hfirst
     ·simp [hs] at hfirst
     ·cases hfirst
   have ha:a=⟨a.block,a.off,none⟩:=by cases a;simp_all
   refine ⟨l,a.block::T,some a,len,m,rfl,h1,hl,hm,.inr ⟨a.block,a.off,xs,T,h0,by rw [←ha],World.block_lt_of_cell? _ _ hfirst,rfl,?_,h2⟩⟩;intro j u hu;refine ⟨?_,(h3 j u hu).2⟩;have:=(h3 j u hu).1;rw [ha,Addr.add_lit] at this;exact this
theorem uC {P:Program} {t:TypeId} {fs:Array Field} (ht:P.underlying t=some (.struct fs)) (H:Type) (enc:TypeId×Value->H) (w:World) (fuel:Nat) (cs:List Value) (d:DataW H) (ps:List MemPlace)
  (h:DataW.trod enc P w 0 (λ_=>true) true fuel t cs=some (d,ps)) (hf:w.noneFrozen ps):
  cs.length=P.cellsOf t/\ ∀ (i:Nat) (f:Field),fs[i]? =some f-> ∀ {α:Type} {s:Shp α},oJ P f.type s-> ∃ x S,s.rd w ((cs.drop f.offset).take (P.cellsOf f.type)) x S:=by
 obtain ⟨xs,n,_,hx,hl,hlen,hfs⟩:=DataW.trod_struct ht h;refine ⟨hl,λi f hi α s ho=>?_⟩
 have hi':i<xs.length:=by
  rw [hlen];rcases dR i fs.size with h'|h'
  ·exact h'
  ·rw [Array.getElem?_eq_none h'] at hi;cases hi
 have hg:=hfs i f hi;rw [qE hi'] at hg;have hps:ps=xs.flatMap (·.2):=by injection hx
 exact ho H enc w n _ (xs[i]).1 (xs[i]).2 hg (λb off hm=>hf b off (by rw [hps];exact List.mem_flatMap.2 ⟨xs[i],List.getElem_mem _,hm⟩))
end
section
open Go.ChangeShapes Go.WideShapes Go.ChangeAt Go.RowKit
def pV {α:Type} (k:Nat) (f:α->List AV):Shp α:=⟨k,λw cs x S=>RepVs w (f x) cs S/\(∀ u∈cs,u.oneCell'=true)/\cs.length=k⟩
theorem aAH {α:Type} {k:Nat} {f:α->List AV} (hk:0<k):(pV k f).Good where
 pos:=hk
 len:=λh=>h.2.2
 one:=λh=>h.2.1
 keep:=λh hk=>⟨h.1.keep hk,h.2⟩
 lt:=λh=>h.1.lt
theorem aAI {α:Type} {k:Nat} {f:α->List AV} {w:World} {b:Nat} : ∀ {l:List α} {xs:List Value} {S:List Nat} {o:Nat},CellsRd (pV k f) w xs l S->(∀ j u,xs[j]? =some u->w.cell? ⟨b,o+j,none⟩=some u/\w.frozen? ⟨b,o+j,none⟩=false)->RepEs w k b o (l.map f) S
 | [],xs,S,o,h,_=>by simp only [CellsRd] at h;simp [RepEs,h.2]
 |x::l,xs,S,o,⟨cs,ys,S1,S2,hx,hS,hr,ht⟩,hc=>by
  subst hx;subst hS;obtain ⟨h1,h2,h3⟩:=hr;simp only [List.map_cons,RepEs];refine ⟨S1,S2,rfl,by rw [←h1.len];exact h3,h1.cells h2 (λj y hy=>hc j y ?_),aAI ht (λj y hy=>?_)⟩
  ·have hj:j<cs.length:=by
    rcases dR j cs.length with h'|h'
    ·exact h'
    ·rw [gW h'] at hy;cases hy
   rw [List.getElem?_append_left hj];exact hy
  ·have:=hc (k+j) y (by rw [List.getElem?_append_right (by omega)];rw [show k+j - cs.length=j by omega];exact hy);rw [←Nat.add_assoc] at this;exact this
theorem aGd {α:Type} {k:Nat} {f:α->List AV} {w:World} {a:Option Addr} {n c:Nat} {l:List α} {S:List Nat} (h:SliceRd (pV k f) w a n c l S):RepD w (.list k (l.map f)) (.slice a n c) S:=by
 obtain ⟨h1,h2,h3,h4⟩:=h;unfold RepD;refine ⟨a,c,by rw [dD,h1],by rw [dD,h1];exact h2,h3,?_⟩;rcases h4 with ⟨rfl,rfl⟩|⟨b,o,xs,T,hne,ha,hb,rfl,hat,he⟩
 ·exact .inl ⟨rfl,rfl⟩
 ·exact .inr ⟨b,o,T,ha,hb,rfl,aAI he (λj u hu=>hat j u hu)⟩
theorem aCl {P:Program} {t:TypeId} (ht:P.underlying t=some (.int .i64)):oJ P t (pV 1 eI):=by
 intro H enc w fuel cs d ps h hf;obtain ⟨x,S,rfl,rfl,_⟩:=aEH ht H enc w fuel cs d ps h hf;exact ⟨x,[],⟨_,_,[],[],rfl,rfl,tR rfl,rfl,rfl⟩,by simp [Value.oneCell'],rfl⟩
theorem uD {P:Program} {t e:TypeId} {α:Type} {k:Nat} {f:α->List AV} (ht:P.underlying t=some (.slice e)) (hk:0<k) (hc:P.cellsOf e=k) (ho:oJ P e (pV k f)):oJ P t (pV 1 (λl:List α=>[.list k (l.map f)])):=by
 intro H enc w fuel cs d ps h hf;obtain ⟨l,S,a,n,c,rfl,hs⟩:=aBp ht (s:=pV k f) hc (aAH hk) ho H enc w fuel cs d ps h hf;exact ⟨l,S,⟨_,_,S,[],rfl,by simp,aGd hs,rfl,rfl⟩,by simp [Value.oneCell'],rfl⟩
structure Upto (w:World) (cs:List Value) (off:Nat) (ds:List AV) (S:List Nat):Prop where
 rd:RepVs w ds (cs.take off) S
 one: ∀ u∈cs.take off,u.oneCell'=true
theorem aFP {w:World} {cs:List Value} :Upto w cs 0 [] []:=⟨by simp [RepVs],by simp⟩
theorem vJ {P:Program} {t:TypeId} {fs:Array Field} {H:Type} {enc:TypeId×Value->H} {w:World} {fuel:Nat} {cs:List Value} {d:DataW H} {ps:List MemPlace} (ht:P.underlying t=some (.struct fs)) (h:DataW.trod enc P w 0 (λ_=>true) true fuel t cs=some (d,ps)) (hf:w.noneFrozen ps)
  {off k:Nat} {ds:List AV} {S:List Nat} (u:Upto w cs off ds S) {i ft:Nat} (hi:(fs[i]?).map (λf=>(f.offset,f.type))=some (off,ft)) (hk:P.cellsOf ft=k) {α:Type} {f:α->List AV} (ho:oJ P ft (pV k f)): ∃ (x:α) (T:List Nat),Upto w cs (off+k) (ds++f x) (S++T):=by
 obtain ⟨hl,hs⟩:=uC ht H enc w fuel cs d ps h hf;cases hq:fs[i]? with
 |none=>rw [hq] at hi;cases hi
 |some fd=>
  rw [hq] at hi;simp only [Option.map_some,Option.some.injEq,Prod.mk.injEq] at hi;obtain ⟨h1,h2⟩:=hi;have ho':oJ P fd.type (pV k f):=by rw [h2];exact ho
  obtain ⟨x,T,g1,g2,g3⟩:=hs i fd hq ho';rw [h1,h2,hk] at g1 g2;refine ⟨x,T,?_,?_⟩
  ·rw [List.take_add];exact u.rd.append g1
  ·intro y hy;rw [List.take_add] at hy;rcases cP.1 hy with h'|h'
   ·exact u.one y h'
   ·exact g2 y h'
theorem aFQ {P:Program} {t:TypeId} {fs:Array Field} {H:Type} {enc:TypeId×Value->H} {w:World} {fuel:Nat} {cs:List Value} {d:DataW H} {ps:List MemPlace} (ht:P.underlying t=some (.struct fs)) (h:DataW.trod enc P w 0 (λ_=>true) true fuel t cs=some (d,ps)) (hf:w.noneFrozen ps)
  {k:Nat} {ds:List AV} {S:List Nat} (u:Upto w cs k ds S) (hk:P.cellsOf t=k) {α:Type} {f:α->List AV} (x:α) (hx:f x=ds):(pV k f).rd w cs x S:=by
 obtain ⟨hl,_⟩:=uC ht H enc w fuel cs d ps h hf;have ht:cs.take k=cs:=List.take_of_length_le (by omega);have h1:=u.rd;have h2:=u.one;rw [ht] at h1 h2;exact ⟨by rw [hx];exact h1,h2,by omega⟩
end
end Go.Proofs.YtckihlpjfmnccaaGreatDoor

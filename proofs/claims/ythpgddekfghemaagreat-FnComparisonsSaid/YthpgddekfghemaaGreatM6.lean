/- Several texts. -/
import Derived.OpenShut
import Derived.ShutString
import Derived.ChangeOld
import Derived.Test.YthpgddekfghemaaGreatM5
set_option linter.unusedVariables false
set_option linter.unusedSimpArgs false
set_option linter.defProp false
namespace Go.Proofs.YthpgddekfghemaaGreat
open Go.RowKit
variable{P:Program}{t:TypeId}{α:Type}
section
open Go.ChangeShapes Go.WideShapes Go.ChangeAt Go.RowKit
def YQ{α:Type}(P:Program)(t:TypeId)(s:Shp α):Prop:=
 ∀(H:Type)(enc:TypeId×Value->H)(w:World)(fuel:Nat)(cs:List Value)(d:DataW H)(ps:List MemPlace),DataW.trod enc P w 0 (λ_=>true) true fuel t cs=some (d,ps)->w.noneFrozen ps->∃x S,s.rd w cs x S
def Rx{e:TypeId}{s:Shp α}(ht:P.underlying t=some (.slice e))(hc:P.cellsOf e=s.size)(g:s.Good)(ho:YQ P e s):YQ P t (Shp.slice s):=by
 intro H enc w fuel cs d ps h hf;rcases Deep.open_slice ht h with ⟨rfl,_⟩|⟨a,len,cap,m,n,D,Pl,rfl,_,hl,hm,hmm,hx,hel⟩
 .exact⟨[],[],none,0,0,rfl,rfl,bG _,Nat.zero_le _,.inl ⟨rfl,rfl⟩⟩
 .simp only[if_true]at hmm;subst hmm;rw[hc]at hx hel;have hps:ps=MemPlace.row a (m*s.size)++(List.range m).flatMap Pl:=by injection hx
  have key:∀k,k<=m->∃xs l T,l.length=k/\CellsRd s w xs l T/\∀j u,xs[j]? =some u->w.cell? (a.add j)=some u/\w.frozen? ⟨a.block,a.off+j,none⟩=false:=by
   intro k;induction k with
   |zero=>intro _;exact⟨[],[],[],rfl,⟨rfl,rfl⟩,by simp⟩
   |succ k ih=>
    intro hk;obtain⟨xs,l,T,h1,h2,h3⟩:=ih (by omega);obtain⟨cs',hcs,htr⟩:=hel k (by omega);obtain⟨x,S,hr⟩:=ho H enc w n cs' (D k) (Pl k) htr (λb fD hm=>hf b fD (by rw[hps];exact List.mem_append_right _ (List.mem_flatMap.2 ⟨k,by simp;omega,hm⟩)));refine⟨xs++cs',l++[x],T++S,by simp[h1],h2.append (CellsRd.single hr),?_⟩;intro j u hu;have hxl:xs.length=k*s.size:=by rw[h2.len g,h1]
    rcases eG j xs.length with hj|hj
    .exact h3 j u (by rw[List.getElem?_append_left hj]at hu;exact hu)
    .rw[List.getElem?_append_right hj,hxl]at hu;have hlen:=g.len hr
     have hj2:j-k*s.size<s.size:=by
      rcases eG (j-k*s.size) s.size with h'|h'
      .exact h'
      .rw[iM (by omega)]at hu;cases hu
     have hcell:=(World.cells?_some hcs).2.2 (j-k*s.size) (by omega);rw[Deep.add_add,show k*s.size+(j-k*s.size)=j by omega,hu]at hcell;refine⟨hcell,hf _ _ ?_⟩;rw[hps];refine List.mem_append_left _ ?_;unfold MemPlace.row;refine List.mem_map.2 ⟨j,?_,rfl⟩;rw[List.mem_range];have:(k+1)*s.size<=m*s.size:=Nat.mul_le_mul_right _ (by omega);rw[Nat.add_mul]at this;omega
  obtain⟨xs,l,T,h1,h2,h3⟩:=key len hl;by_cases h0:l=[]
  .exact⟨[],[],some a,len,m,rfl,by simpa [h0]using h1,hl,hm,.inl ⟨rfl,rfl⟩⟩
  .have hpos:0<xs.length:=by
    rw[h2.len g];exact Nat.mul_pos (List.length_pos_iff.2 h0) g.pos
   have hfirst:=(h3 0 xs[0] (by simp[hpos])).1;rw[Addr.add_zero']at hfirst
   have hspot:a.spot=none:=by
    cases hs:a.spot with
    |none=>rfl
    |some _=>
     unfold World.cell? at hfirst;split at hfirst
     .simp[hs]at hfirst
     .cases hfirst
   have ha:a=⟨a.block,a.off,none⟩:=by cases a;simp_all
   refine⟨l,a.block::T,some a,len,m,rfl,h1,hl,hm,.inr ⟨a.block,a.off,xs,T,h0,by rw[←ha],World.block_lt_of_cell? _ _ hfirst,rfl,?_,h2⟩⟩;intro j u hu;refine⟨?_,(h3 j u hu).2⟩;have:=(h3 j u hu).1;rw[ha,Addr.add_lit]at this;exact this
end
variable{w:World}{b:Nat}{n:Nat}{c:Nat}{S:List Nat}
section
open Go.ChangeShapes Go.WideShapes Go.ChangeAt Go.RowKit
def Ry{α:Type}(k:Nat)(f:α->bN):Shp α:=⟨k,λw cs x S=>RepVs w (f x) cs S/\(∀u∈cs,u.oneCell'=true)/\cs.length=k⟩
def PE{α:Type}{k:Nat}{f:α->bN}(hk:0<k):(Ry k f).Good where
 pos:=hk
 len:=λh=>h.2.2
 one:=λh=>h.2.1
 keep:=λh hk=>⟨h.1.keep hk,h.2⟩
 lt:=λh=>h.1.lt
def PF{k:Nat}{f:α->bN}:∀{l xs S o},CellsRd (Ry k f) w xs l S->(∀j u,xs[j]? =some u->w.cell? ⟨b,o+j,none⟩=some u/\w.frozen? ⟨b,o+j,none⟩=false)->RepEs w k b o (l.map f) S
 | [],xs,S,o,h,_=>by simp only[CellsRd]at h;simp[RepEs,h.2]
 |x::l,xs,S,o,⟨cs,ys,S1,S2,hx,hS,hr,ht⟩,hc=>by
  subst hx;subst hS;obtain⟨h1,h2,h3⟩:=hr;simp only[List.map_cons,RepEs];refine⟨S1,S2,rfl,by rw[←h1.len];exact h3,h1.cells h2 (λj y hy=>hc j y ?_),PF ht (λj y hy=>?_)⟩
  .have hj:j<cs.length:=by
    rcases eG j cs.length with h'|h'
    .exact h'
    .rw[iM h']at hy;cases hy
   rw[List.getElem?_append_left hj];exact hy
  .have:=hc (k+j) y (by rw[List.getElem?_append_right (by omega)];rw[show k+j-cs.length=j by omega];exact hy);rw[←Nat.add_assoc]at this;exact this
def aAG{k f a}{l:List α}(h:SliceRd (Ry k f) w a n c l S):RepD w (.list k (l.map f)) (.slice a n c) S:=by
 obtain⟨h1,h2,h3,h4⟩:=h;unfold RepD;refine⟨a,c,by rw[eD,h1],by rw[eD,h1];exact h2,h3,?_⟩;rcases h4 with ⟨rfl,rfl⟩|⟨b,o,xs,T,hne,ha,hb,rfl,hat,he⟩
 .exact .inl ⟨rfl,rfl⟩
 .exact .inr ⟨b,o,T,ha,hb,rfl,PF he (λj u hu=>hat j u hu)⟩
end
end Go.Proofs.YthpgddekfghemaaGreat

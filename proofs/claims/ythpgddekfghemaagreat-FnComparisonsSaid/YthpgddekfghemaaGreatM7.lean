/- Several texts. -/
import Derived.Deep.RegionHeld3
import Derived.Test.YthpgddekfghemaaGreatM6
set_option linter.unusedVariables false
set_option linter.unusedSimpArgs false
set_option linter.defProp false
namespace Go.Proofs.YthpgddekfghemaaGreat
open Go.RowKit
variable{α:Type}{w:World}{b:Nat}{n:Nat}{c:Nat}{S:List Nat}{v:Value}
section
abbrev OL:Shp Int:=Ry 1 eI
def PG:OL.Good:=PE (by decide)
def Tryz.infoI:(Tryz.prog.info? 3).map (λi=>(i.zero,i.size,i.bytes))=some (some (.int .i64 0),1,8):=by kernel_rfl
def aDn:ElemTy Tryz.prog 24 3 OL.size 8:=ElemTy.mk' Tryz.underlying24 Tryz.infoI rfl
def PH{k}{e:α->bN}(E:EOk k e):∀{l o S},RepEs w k b o (l.map e) S->∃xs,CellsRd (Ry k e) w xs l S/\∀j u,xs[j]? =some u->w.cell? ⟨b,o+j,none⟩=some u/\w.frozen? ⟨b,o+j,none⟩=false
 | [],o,S,h=>by simp only[List.map_nil,RepEs]at h;exact⟨[],⟨rfl,h⟩,by simp⟩
 |x::l,o,S,h=>by
  simp only[List.map_cons,RepEs]at h;obtain⟨S1,S2,rfl,h2,h3,h4⟩:=h;obtain⟨vs,e1,e2,e3,e4⟩:=h3.vals;obtain⟨xs,f1,f2⟩:=PH E h4;have hl:vs.length=k:=by rw[e2,E.len]
  refine⟨vs++xs,⟨vs,xs,S1,S2,rfl,rfl,⟨e1,e3,hl⟩,f1⟩,λj u hu=>?_⟩;rcases eG j vs.length with h'|h'
  .rw[List.getElem?_append_left h']at hu;exact e4 j u hu
  .rw[List.getElem?_append_right h']at hu;have:=f2 _ u hu;rw[hl]at this h';rw[show o+k+(j-k)=o+j by omega]at this;exact this
def Wf{k}{e:α->bN}(E:EOk k e){a}{l:List α}(h:RepD w (.list k (l.map e)) (.slice a n c) S):∃S',SliceRd (Ry k e) w a n c l S':=by
 simp only[RepD,eD]at h;obtain⟨a',c',h1,h2,h3,h4⟩:=h;cases h1;by_cases hl:l=[]
 .exact⟨[],rfl,h2,h3,.inl ⟨hl,rfl⟩⟩
 .rcases h4 with ⟨h4,_⟩|⟨b,o,T,h5,h6,rfl,h8⟩
  .exact absurd (by simpa using h4) hl
  .obtain⟨xs,f1,f2⟩:=PH E h8;exact⟨b::T,rfl,h2,h3,.inr ⟨b,o,xs,T,hl,h5,h6,rfl,f2,f1⟩⟩
def Iv:∀{xs l S},CellsRd OL w xs l S->S=[]/\xs=l.map (Value.int .i64)
 |xs,[],S,⟨h1,h2⟩=>⟨h2,by rw[h1];rfl⟩
 |xs,x::l,S,⟨cs,ys,S1,S2,h1,h2,h3,h4⟩=>by
  obtain⟨e1,e2⟩:=Iv h4;subst e1 e2;obtain⟨g1,g2,g3⟩:=h3;simp only[RepVs]at g1;obtain⟨v,r,T1,T2,rfl,rfl,g4,rfl,rfl⟩:=g1;simp only[RepD]at g4;obtain⟨rfl,_,rfl⟩:=g4;exact⟨by simpa using h2,by rw[h1];rfl⟩
def Rz{t B l}(h:Own t OL w B v l S):DY w (.list 1 (l.map eI)) v S/\New B S:=by
 obtain⟨xs,T,h1,h2,h3,h4⟩:=h;obtain⟨rfl,h5⟩:=Iv h2;refine⟨?_,h4⟩;rw[List.append_nil]at h3
 have hov:∀{l:aA}{o:Nat},RepOV w (l.map eI).flatten (l.map (Value.int .i64)) []:=by
  intro l o;induction l with
  |nil=>simp[RepOV]
  |cons x l ih=>
   simp only[List.map_cons,List.flatten_cons,List.singleton_append,RepOV];exact⟨_,_,[],[],rfl,rfl,rfl,VA rfl,ih⟩
 rcases h1.2 with ⟨rfl,hx⟩|⟨g,cap,cur,rfl,hb,hg,g1,g2,g3,g4⟩
 .have hl:l=[]:=List.eq_nil_of_length_eq_zero hx;subst hl;subst h3;exact .inl ⟨rfl,rfl,rfl⟩
 .subst h3;refine .inr ⟨g,cap,cur,t,[],xs,by simp,hg,g3,by simpa using g1,g2,?_,rfl,by rw[eD];exact g4,by rw[h5];exact hov (o:=0)⟩;intro cs hcs;obtain⟨x,_,rfl⟩:=List.mem_map.1 hcs;rfl
def nJ(l:aA):Option aA:=bif decide (l.length<=1048576)then some l else none
set_option maxHeartbeats 400000 in
def YR(a)(n c)(l)(S0)(w)(h:SliceRd OL w a n c l S0)(hn:n<=1048576):Calls Tryz.prog 83 #[.slice a n c] w (Ret w λv w'=>∃S,Own 3 OL w' w.heap.size v l S):=by
 have hlen:=h.1;cases a with
 |none=>
  have hl:l=[]:=by
   obtain⟨_,_,_,h4⟩:=h;rcases h4 with ⟨h,_⟩|⟨b,o,xs,T,_,ha,_⟩
   .exact h
   .cases ha
  clear h;have hnil:=λwx=>Lib.run_eql_slice_nil (P:=Tryz.prog) wx 24 3 none n c 0 0 Tryz.underlying24
  go_enter Tryz.func83,Tryz.ntmps83
  go_wp2
  go_ret
  exact⟨_,rfl,Below.refl _ _,[],by rw[hl];exact Own.nil _ _ _ _⟩
 |some x=>
  have hnil:=λwx=>Lib.run_eql_slice_nil (P:=Tryz.prog) wx 24 3 (some x) n c 0 0 Tryz.underlying24;have b1:Below w.heap.size w (w.alloc (.cells #[] 3)):=(Below.refl _ _).alloc (bG _) _
  have HS:Hid (∃xs T,(∀j u,xs[j]? =some u->(w.alloc (.cells #[] 3)).cell? (x.add j)=some u)/\CellsRd OL (w.alloc (.cells #[] 3)) xs l T/\T=[]):=by
   obtain⟨_,_,_,h4⟩:=h.below PG b1;rcases h4 with ⟨rfl,_⟩|⟨b,o,xs,T,_,ha,_,_,hat,hc⟩
   .exact⟨[],[],by simp,⟨rfl,rfl⟩,rfl⟩
   .cases ha;exact⟨xs,T,λj u hu=>by rw[Addr.add_lit];exact(hat j u hu).1,hc,(Iv hc).1⟩
  obtain⟨xs,T,hx,hc,rfl⟩:=HS.out;have HX:=Lib.hid (And.intro hx hc);have HL:=Lib.hid hlen;have HO:=Lib.hid (Own.lit0 OL 3 w (bG _));have B1:=Lib.hid b1;clear h hx hc hlen HS b1
  go_enter Tryz.func83,Tryz.ntmps83
  go_wp2_with (at_builtin;refine Tg aDn PG rfl (.tmp 5) (.tmp 6) rfl rfl HO.out (by simp) rfl HL.out HX.out.1 HX.out.2 (New.nil _) (by simp) (by simp;omega) (by simp;omega) ?_;intro v1 w1 S1 hO1 hF1 hS1;obtain⟨a1,n1,c1,rfl⟩:=hO1.form;have X1:=Lib.hid (And.intro hO1 hF1);clear hO1 hF1 hS1)
  go_ret
  exact⟨_,rfl,B1.out.trans (X1.out.2.to_below (by simp) (by simp)),_,X1.out.1⟩
def Af(l)(r)(h:nJ l=some r):HasC Tryz.prog 83 [.list 1 (List.map eI l)] (.list 1 (List.map eI r)):=by
 obtain⟨hn,h⟩:=cg h;obtain rfl:=so h;refine⟨Enters.mk Tryz.func83 (by kernel_rfl) (by kernel_rfl),λw args S hargs=>?_⟩;obtain⟨args⟩:=args;simp only[RepVs]at hargs;obtain⟨v,r,S1,S2,h1,rfl,h3,rfl,rfl⟩:=hargs;have hv:∃a n c,v= .slice a n c:=by simp only[RepD]at h3;obtain⟨a,c,rfl,_⟩:=h3;exact⟨_,_,_,rfl⟩
 obtain⟨a,n,c,rfl⟩:=hv;obtain⟨S',hs⟩:=Wf cI h3;have hnl:=hs.1;subst h1;refine(YR a n c l S' w hs (by rw[←hnl];exact of_decide_eq_true hn)).mono λe w' ⟨v,he,hb,S2,ho⟩=>?_;obtain⟨g1,g2⟩:=Rz ho;exact⟨v,S2,he,hb,g1,g2⟩
end
end Go.Proofs.YthpgddekfghemaaGreat

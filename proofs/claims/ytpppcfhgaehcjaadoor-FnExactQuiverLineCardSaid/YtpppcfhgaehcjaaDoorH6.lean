/-
  Several texts of the claim in one.
-/
import Derived.Deep.RegionHeld3
import Derived.Test.YtpppcfhgaehcjaaDoorH5
set_option linter.unusedVariables false
set_option linter.unusedSimpArgs false
namespace Go.Proofs.YtpppcfhgaehcjaaDoor
open Go.RowKit
noncomputable section
abbrev aCX:Shp Int:=oE 1 eI
theorem Tryd.infoI:(Tryd.prog.info? 3).map (λi=>(i.zero,i.size,i.bytes))=some (some (.int .i64 0),1,8):=by kernel_rfl
theorem aFF:ElemTy Tryd.prog 22 3 aCX.size 8:=ElemTy.mk' Tryd.underlying22 Tryd.infoI rfl
theorem sY {w:World} : ∀ {xs:List Value} {l:List Int} {S:List Nat},CellsRd aCX w xs l S→S=[]∧xs=l.map (Value.int .i64)
 |xs,[],S,⟨h1,h2⟩=>⟨h2,by rw [h1];rfl⟩
 |xs,x::l,S,⟨cs,ys,S1,S2,h1,h2,h3,h4⟩=>by
  obtain ⟨e1,e2⟩:=sY h4;subst e1 e2;obtain ⟨g1,g2,g3⟩:=h3;simp only [RepVs] at g1;obtain ⟨v,r,T1,T2,rfl,rfl,g4,rfl,rfl⟩:=g1;simp only [RepD] at g4;obtain ⟨rfl,_,rfl⟩:=g4;exact ⟨by simpa using h2,by rw [h1];rfl⟩
theorem aCY {t:Nat} {w:World} {B:Nat} {v:Value} {l:List Int} {S:List Nat} (h:Own t aCX w B v l S):mW w (.list 1 (l.map eI)) v S∧New B S:=by
 obtain ⟨xs,T,h1,h2,h3,h4⟩:=h;obtain ⟨rfl,h5⟩:=sY h2;refine ⟨?_,h4⟩;rw [List.append_nil] at h3
 have hov: ∀ {l:List Int} {o:Nat},RepOV w (l.map eI).flatten (l.map (Value.int .i64)) []:=by
  intro l o;induction l with
  |nil=>simp [RepOV]
  |cons x l ih=>
   simp only [List.map_cons,List.flatten_cons,List.singleton_append,RepOV];exact ⟨_,_,[],[],rfl,rfl,rfl,aAW rfl,ih⟩
 rcases h1.2 with ⟨rfl,hx⟩|⟨g,cap,cur,rfl,hb,hg,g1,g2,g3,g4⟩
 ·have hl:l=[]:=List.eq_nil_of_length_eq_zero hx;subst hl;subst h3;exact .inl ⟨rfl,rfl,rfl⟩
 ·subst h3;refine .inr ⟨g,cap,cur,t,[],xs,by simp,hg,g3,by simpa using g1,g2,?_,rfl,by rw [fD];exact g4,by rw [h5];exact hov (o:=0)⟩;intro cs hcs;obtain ⟨x,_,rfl⟩:=List.mem_map.1 hcs;rfl
end
end Go.Proofs.YtpppcfhgaehcjaaDoor

/- Several texts. -/
import Derived.Deep.Upon
import Derived.Test.YtckihlpjfmnccaaGreatDoorM13
set_option linter.unusedVariables false
set_option linter.unusedSimpArgs false
namespace Go.Proofs.YtckihlpjfmnccaaGreatDoor
open Go.RowKit
section
set_option maxHeartbeats 4000000 in
set_option maxRecDepth 100000 in
theorem aGl (n c:Nat) (w:World):Calls Tryz.prog 31 #[.slice none n c] w λe w'=>e= .returned (.slice none 0 0)/\w'=w:=by
 have hnil:=λwx=>Lib.run_eql_slice_nil (P:=Tryz.prog) wx 23 22 none n c 0 0 Tryz.underlying23
 go_enter Tryz.func31,Tryz.ntmps31
 go_wp2
 go_ret
 exact ⟨rfl,rfl⟩
theorem aGm {w:World} {x:Addr} {n c:Nat} {vs:List Value} (hl:vs.length=n) (hx: ∀ j u,vs[j]? =some u->w.cell? (x.add j)=some u) (h1: ∀ u∈vs,u.oneCell'=true) {i0:TypeInfo} (hs0:i0.size=1) {w':World} (hw: ∀ a u,w.cell? a=some u->w'.cell? a=some u):
  Src Tryz.prog i0.size 23 (.slice (some x) n c) n vs w':=
 Src.ofSlice w' Tryz.underlying23 x n c _ (by rw [hl,hs0,Nat.mul_one]) (λj u hj=>hw _ _ (hx j u hj)) h1
set_option maxHeartbeats 4000000 in
set_option maxRecDepth 100000 in
theorem aFi (x:Addr) (c:Nat) (w:World):Calls Tryz.prog 31 #[.slice (some x) 0 c] w λe w'=>e= .returned (.slice (some ⟨w.heap.size,0,none⟩) 0 0)/\w'=w.alloc (.cells #[] 22):=by
 obtain ⟨i0,z0,hi0,hz0,hs0,hb0,hz5⟩:=aIK.hi;have hnil:=λwx=>Lib.run_eql_slice_nil (P:=Tryz.prog) wx 23 22 (some x) 0 c 0 0 Tryz.underlying23
 have hrun:=λty'=>run_append_nothing (P:=Tryz.prog) (w.alloc (.cells #[] 22)) 23 23 ty' 22 i0 Tryz.underlying23 hi0 (some ⟨w.heap.size,0,none⟩) 0 0 (bQ _) (.slice (some x) 0 c)
  (Src.ofSlice _ Tryz.underlying23 x 0 c [] (by simp) (by simp) (by simp))
 go_enter Tryz.func31,Tryz.ntmps31
 go_wp2_with (at_builtin;refine Lib.wpList_append_run _ rfl _ _ _ _ rfl _ _ rfl rfl _ _ (hrun _) ?_)
 go_ret
 exact ⟨rfl,rfl⟩
set_option maxHeartbeats 4000000 in
set_option maxRecDepth 100000 in
theorem aGn (x:Addr) (n c:Nat) (vs:List Value) (w:World) (h0:0<n) (hn:n<=1048576) (hl:vs.length=n) (hx: ∀ j u,vs[j]? =some u->(w.alloc (.cells #[] 22)).cell? (x.add j)=some u) (h1: ∀ u∈vs,u.oneCell'=true):
  ∃ (G:Nat) (A:Array Value),(n<=G/\G<=maxLen/\A.size=G*1/\A.toList.take (n*1)=vs)/\Calls Tryz.prog 31 #[.slice (some x) n c] w λe w'=>e= .returned (.slice (some ⟨w.heap.size+1,0,none⟩) n G)/\w'=(w.alloc (.cells #[] 22)).drew.alloc (.cells A 22):=by
 obtain ⟨i0,z0,hi0,hz0,hs0,hb0,hz5⟩:=aIK.hi;have hnil:=λwx=>Lib.run_eql_slice_nil (P:=Tryz.prog) wx 23 22 (some x) n c 0 0 Tryz.underlying23;obtain ⟨W,hW⟩: ∃ W,W=w.alloc (.cells #[] 22):=⟨_,rfl⟩;have hWs:W.heap.size=w.heap.size+1:=by rw [hW];exact Array.size_push ..
 rw [←hW] at hx;have hsrc:=aGm (i0:=i0) (c:=c) hl hx h1 hs0 (w':=W) (λ_ _ h=>h);have hold:(Builtin.firstCells i0.size 0 (.slice (some ⟨w.heap.size,0,none⟩) 0 0)).run Tryz.prog W.drew= .ok ([]:List Value).toArray W.drew:=run_firstCells_some W.drew i0.size 0 ⟨w.heap.size,0,none⟩ 0 0 [] (by simp) (by simp);have hrun: ∀ ty',_:=λty'=>run_append_grow_src W 23 23 ty' 22 i0 z0 Tryz.underlying23 hi0 hz0 (some ⟨w.heap.size,0,none⟩) 0 0 [] hold _ n _ hsrc (by omega) (by omega) (by rw [hb0];exact growslice_fits (by omega) (by omega));rw [Nat.zero_add,List.nil_append] at hrun;have hG:=grownCap_ge W n 0 22;have hM:=grownCap_le_maxLen W n 0 22 (by unfold maxLen;omega);generalize grownCap W n 0 22=G at hrun hG hM;obtain ⟨A,hA⟩: ∃ A,A=vs.toArray++Builtin.zeroCells z0.cells (G - n):=⟨_,rfl⟩;rw [←hA,hWs] at hrun
 have hA1:A.size=G*1:=by
  rw [hA];unfold Builtin.zeroCells;simp only [Array.size_append,List.size_toArray,hl,Array.size_map,Array.size_range,hz5];omega
 have hA2:A.toList.take (n*1)=vs:=by
  rw [hA,Array.toList_append,List.take_append_of_le_length (by show n*1<=vs.length;omega),List.take_of_length_le (by show vs.length<=n*1;omega)]
 refine ⟨G,A,⟨hG,hM,hA1,hA2⟩,?_⟩;rw [hW] at hrun;clear hA hA1 hA2 hsrc hold hx hW hWs
 go_enter Tryz.func31,Tryz.ntmps31
 go_wp2_with (at_builtin;refine Lib.wpList_append_run _ rfl _ _ _ _ rfl _ _ rfl rfl _ _ (hrun _) ?_)
 go_ret
 exact ⟨rfl,rfl⟩
theorem aHE (l:bG):(List.map eL l).flatten.all yK=true:=by
 rw [List.all_eq_true];intro x hx;obtain ⟨c,hc,hx⟩:=List.mem_flatten.1 hx;obtain ⟨b,_,rfl⟩:=List.mem_map.1 hc;have:(eL b).all yK=true:=rfl;exact List.all_eq_true.1 this x hx
theorem aIL (l:bG): ∀ cs∈List.map eL l,cs.length=1:=by
 intro cs h;obtain ⟨x,_,rfl⟩:=List.mem_map.1 h;rfl
theorem aFj (a:bG) (hn:a.length<=1048576):HasE Tryz.prog 31 [.list 1 (List.map eL a)] [] 0 (.own 0 0 a.length) [(0,⟨1,List.map eL a⟩)]:=by
 refine ⟨Enters.mk Tryz.func31 (by kernel_rfl) (by kernel_rfl),λB M w args ν φ hMB hB hM hMo hargs hheap=>?_⟩;obtain ⟨args⟩:=args;simp only [All2] at hargs;obtain ⟨v0,_,h0,r0,rfl⟩:=hargs;subst h0;have hal:(List.map eL a).length=a.length:=dD ..;have hfin:=λ(w':World) (β' c':Nat) (ty':TypeId) (A:Array Value)=>aAz (w:=w) (w':=w') (hl:=[]) (kp:=0) (ν:=ν) (M:=M) (B:=B) (k:=1) (es:=List.map eL a) (β:=β') (c:=c') (ty:=ty') (arr:=A);rw [hal] at hfin;simp only [RepA,RepB,Rep1,RepD,dD] at r0;obtain ⟨S,⟨ao,c,rfl,h4,h5,h6⟩,h7⟩:=r0;rcases Nat.eq_zero_or_pos a.length with hz|hz
 ·have ha:a=[]:=List.eq_nil_of_length_eq_zero hz;subst ha;cases ao with
  |none=>
   refine (aGl _ c w).mono λe w' ⟨he,hw⟩=>?_;subst hw
   have hh: ∀ b blk,gF [(0,(⟨1,List.map eL []⟩:Blk))] b=some blk->b=0/\blk=⟨1,[]⟩:=by
    intro b blk h;have:=gH h;simp only [List.mem_singleton,Prod.mk.injEq] at this;exact this
   refine ⟨_,λ_=>true,⟨λ_=>none,ν.ok⟩,λ_=>[],he,Below.refl _ _,⟨λ_ _=>rfl,λb blk hb _=>by (simp [nK] at hb),λx hx hf=>⟨rfl,λb blk β2 c2 _ h=>by cases h⟩,rfl⟩,⟨λb blk hb=>?_,λb b2 x _ _ _ h=>by cases h⟩,⟨rfl,λblk hb=>?_⟩⟩
   ·obtain ⟨rfl,rfl⟩:=hh b blk hb;exact ⟨rfl,⟨by simp,.inl ⟨rfl,rfl,rfl⟩⟩,by simp,by simp⟩
   ·obtain ⟨_,rfl⟩:=hh _ _ hb;exact ⟨by simp,λ_=>rfl,λ_ _ h=>by cases h⟩
  |some x=>
   refine (aFi x c w).mono λe w' ⟨he,hw⟩=>?_;subst hw
   obtain ⟨v',u',ν',φ',f1,f2⟩:=hfin (w.alloc (.cells #[] 22)) w.heap.size 0 22 #[] ((Below.refl _ _).alloc hB _) (hM _ (bQ _)) (by show (w.heap.push _)[w.heap.size]? =_;exact Array.getElem?_push_size) rfl (bQ _) (by unfold maxLen;omega)
    (λx hx _=>by show (w.heap.push _)[x]? =_;rw [Array.getElem?_push_lt hx,Array.getElem?_eq_getElem hx]) (λx hx _=>by omega) (aIL _) (aHE _) (by simp [All2])
   exact ⟨v',u',ν',φ',by rw [he,f1];rfl,f2⟩
 ·rcases h6 with ⟨h6,_⟩|⟨b,o,S',rfl,h8,rfl,h9⟩
  ·have:a=[]:=by simpa using h6
   rw [this] at hz;simp at hz
  obtain ⟨vs,e1,e2,e3,e4,e5⟩:=h9.vals;have hvl:vs.length=a.length:=by rw [e2,dD,Nat.mul_one]
  have hcells:All2 (Rep1 w (gF []) (nK 0) ν) (List.map eL a).flatten vs:=by
   refine e1.rep1 ?_ (λy hy=>h7 y (by simp [hy]));rw [List.all_eq_true];intro y hy;obtain ⟨c,hc,hy⟩:=List.mem_flatten.1 hy;obtain ⟨z,_,rfl⟩:=List.mem_map.1 hc;have:(eL z).all dI=true:=rfl;exact List.all_eq_true.1 this y hy
  obtain ⟨G,A,⟨g1,g2,g3,g4⟩,hcall⟩:=aGn ⟨b,o,none⟩ a.length c vs w hz hn hvl (λj u hu=>by
   rw [Addr.add_lit,aAa (w:=w) (by show (w.heap.push _)[b]? =_;rw [Array.getElem?_push_lt h8,Array.getElem?_eq_getElem h8])]
   exact (e5 j u hu).1) e4
  refine hcall.mono λe w' ⟨he,hw⟩=>?_;subst hw;have hs1:(w.alloc (.cells #[] 22)).heap.size=w.heap.size+1:=Array.size_push ..
  obtain ⟨v',u',ν',φ',f1,f2⟩:=hfin ((w.alloc (.cells #[] 22)).drew.alloc (.cells A 22)) (w.heap.size+1) G 22 A ((oO ((Below.refl _ _).alloc hB _)).alloc (by show B<=(w.alloc (.cells #[] 22)).heap.size;omega) _) (hM _ (by omega)) (by rw [←hs1];show (Array.push (w.alloc (.cells #[] 22)).heap _)[(w.alloc (.cells #[] 22)).heap.size]? =_;exact Array.getElem?_push_size) g3 g1 g2
   (λx hx _=>by
    show (Array.push (w.alloc (.cells #[] 22)).heap _)[x]? =_;rw [Array.getElem?_push_lt (by omega),←Array.getElem?_eq_getElem];show (w.heap.push _)[x]? =_
    rw [Array.getElem?_push_lt hx,Array.getElem?_eq_getElem hx]) (λx hx _=>by omega) (aIL _) (aHE _) (by rw [g4];exact hcells)
  exact ⟨v',u',ν',φ',by rw [he,f1],f2⟩
def yM (a0:bG):Option bG:=bif decide (a0.length<=1048576) then some a0 else none
theorem aFk (a0 r:bG) (h:yM a0=some r):HasE Tryz.prog 31 [.list 1 (List.map eL a0)] [] 0 (.own 0 0 r.length) [(0,⟨1,List.map eL r⟩)]:=by
 obtain ⟨q,h⟩:=cg h;obtain rfl:=so h;exact aFj a0 (of_decide_eq_true q)
end
end Go.Proofs.YtckihlpjfmnccaaGreatDoor

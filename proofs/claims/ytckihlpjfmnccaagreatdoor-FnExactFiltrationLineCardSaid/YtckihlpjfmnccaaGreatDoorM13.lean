/- Several texts. -/
import Derived.Shelf.Spec.SlicesInsert
import Derived.Test.YtckihlpjfmnccaaGreatDoorM12
set_option linter.unusedVariables false
set_option linter.unusedSimpArgs false
namespace Go.Proofs.YtckihlpjfmnccaaGreatDoor
open Go.RowKit
section
structure Fa where
 stages:Int
 birth:aA
 ends:bG
def dW (f:Fa):List AV:=[.int f.stages,aFD f.birth,.list 1 (f.ends.map eL)]
theorem aFd (k:Nat):nK k k=false:=by
 unfold nK;cases h:Nat.blt k k with
 |false=>rfl
 |true=>simp [Nat.blt_eq] at h
theorem aAz {B:Nat} {M:Nat->Prop} {w w':World} {hl:List (Nat×Blk)} {kp:Nat} {ν:Nu} {k:Nat} {es:List (List AV)} {β c:Nat} {ty:TypeId} {arr:Array Value} (hbel:Below B w w')
  (hM:M β) (hcell:w'.heap[β]? =some (.cells arr ty (0,0))) (hsz:arr.size=c*k) (hn:es.length<=c) (hc:c<=maxLen)
  (hkeep: ∀ x,x<w.heap.size->x≠β->w'.heap[x]? =w.heap[x]?) (hown: ∀ x,x<w.heap.size->pU (gF hl) ν x->x≠β)
  (hk: ∀ cs∈es,cs.length=k) (hpl:es.flatten.all yK=true) (hvs:All2 (Rep1 w (gF hl) (nK kp) ν) es.flatten (arr.toList.take (es.length*k))):
  ∃ v u' ν' φ',v=Value.slice (some ⟨β,0,none⟩) es.length c/\Below B w w'/\Ext w (gF hl) (nK kp) ν w' (gF [(kp,⟨k,es⟩)]) u' ν'/\HeapOk M w' (gF [(kp,⟨k,es⟩)]) u' ν' φ'/\RepA w' (gF [(kp,⟨k,es⟩)]) u' ν' (.own kp 0 es.length) v:=by
 have hh: ∀ b blk,gF [(kp,(⟨k,es⟩:Blk))] b=some blk->b=kp/\blk=⟨k,es⟩:=by
  intro b blk h;have:=gH h;simp only [List.mem_singleton,Prod.mk.injEq] at this;exact this
 have hkk:gF [(kp,(⟨k,es⟩:Blk))] kp=some ⟨k,es⟩:=by simp [gF]
 obtain ⟨ν',hν'⟩: ∃ ν':Nu,ν'=⟨λb=>bif Nat.beq b kp then some (β,c) else ν b,ν.ok⟩:=⟨_,rfl⟩;have hνk:ν' kp=some (β,c):=by rw [hν'];simp
 obtain ⟨u',hu'⟩: ∃ u':Us,u'=λb=>nK kp b||Nat.beq b kp:=⟨_,rfl⟩;have huk:u' kp=true:=by rw [hu'];simp
 have ext:Ext w (gF hl) (nK kp) ν w' (gF [(kp,⟨k,es⟩)]) u' ν':=by
  refine ⟨λb hb=>by rw [hu'];simp [hb],λb blk hb h=>?_,λx hx hf=>⟨hkeep x hx (hown x hx hf),λb blk β2 c2 hb hν e=>?_⟩,by rw [hν']⟩
  ·obtain ⟨rfl,_⟩:=hh b blk h;rw [aFd] at hb;cases hb
  ·obtain ⟨rfl,_⟩:=hh b blk hb;rw [hνk] at hν;cases hν;exact hown x hx hf e.symm
 refine ⟨_,u',ν',λ_=>[β],rfl,hbel,ext,⟨λb blk hb=>?_,λb b2 x h1 h2 hne=>?_⟩,?_⟩
 ·obtain ⟨rfl,rfl⟩:=hh b blk hb;refine ⟨huk,⟨hk,.inr ⟨β,c,arr,ty,[],_,hνk,hcell,hsz,hn,hc,rfl,rfl,?_⟩⟩,by simp,by simpa using hM⟩;exact aCE (hvs.mono λ_ _ r=>r.ext ext) hpl
 ·obtain ⟨y1,e1⟩:=Option.ne_none_iff_exists'.1 h1;obtain ⟨y2,e2⟩:=Option.ne_none_iff_exists'.1 h2;exact absurd ((hh _ _ e1).1.trans (hh _ _ e2).1.symm) hne
 ·refine ⟨huk,λblk hb=>?_⟩;obtain ⟨_,rfl⟩:=hh _ _ hb;refine ⟨by simp,λh=>by (rw [hνk] at h;cases h),λβ2 c2 h=>?_⟩;rw [hνk] at h;cases h;exact uR
theorem aGk:ElemTy Tryz.prog 34 49 3 24:=ElemTy.mk' Tryz.underlying34 (by kernel_rfl:(Tryz.prog.info? 49).map (λi=>(i.zero,i.size,i.bytes))=some (some (.agg #[.int .i64 0,.int .i64 0,.int .i64 0]),3,24)) rfl
theorem pH {w:World} {β o:Nat} {arr:Array Value} {ty:TypeId} {v:Value} (h:w.heap[β]? =some (.cells arr ty (0,0))) (hv:arr.toList[o]? =some v):w.cell? ⟨β,o,none⟩=some v:=by
 have hv':arr[o]? =some v:=by simpa using hv
 simp [World.cell?,h,hv']
theorem uF {P:Program} (w:World) (t tx ty e:TypeId) (i:TypeInfo) (ht:P.underlying t=some (.slice e)) (hi:P.info? e=some i) (b sLen sCap:Nat) (x:Value) (n:Nat) (news:List Value) (hs:Src P i.size tx x n news w)
  {cur:Array Value} {et:TypeId} (hb:w.heap[b]? =some (.cells cur et (0,0))) (hroom:sLen+n<=sCap) (hc:sLen*i.size+news.length<=cur.size):
  (Builtin.append_ #[t,tx] ty #[.slice (some ⟨b,0,none⟩) sLen sCap,x]).run P w= .ok (.slice (some ⟨b,0,none⟩) (sLen+n) sCap) (w.setRow b (cur.toList.take (sLen*i.size)++news++cur.toList.drop (sLen*i.size+news.length)).toArray):=by
 have hst:=run_storeCells_at P b (sLen*i.size) et news 0 cur w hb (by simpa using hc) hs.one;simp only [Nat.add_zero] at hst;rcases hs.kind with ⟨e',hk⟩|hk <;> simp [Builtin.append_,run_underlying ht,run_underlying hk,sizeOf,typeInfo,hi,hs.len,hroom,hs.cells,Addr.add_lit,hst]
set_option maxHeartbeats 4000000 in
set_option maxRecDepth 100000 in
theorem aBA (β n c:Nat) (arr:Array Value) (ty:TypeId) (β1 c1:Nat) (arr1:Array Value) (ty1:TypeId) (w:World) (h0:w.heap[β]? =some (.cells arr ty (0,0))) (ha:arr.size=c*3) (h1:w.heap[β1]? =some (.cells arr1 ty1 (0,0))) (ha1:3<=arr1.size)
  (hroom:n+1<=c) (hc63:c<=9223372036854775807) (ho1: ∀ v∈arr1.toList.take 3,v.oneCell'=true):
  Calls Tryz.prog 48 #[.slice (some ⟨β,0,none⟩) n c,.int .i64 n,.slice (some ⟨β1,0,none⟩) 1 c1] w λe w'=>
   e= .returned (.slice (some ⟨β,0,none⟩) (n+1) c)/\w'=w.setRow β (arr.toList.take (n*3)++arr1.toList.take 3++arr.toList.drop (n*3+3)).toArray:=by
 obtain ⟨i0,z0,hi0,hz0,hs0,hb0,hz5⟩:=aGk.hi;have hl1:(arr1.toList.take 3).length=3:=by rw [List.length_take,Array.length_toList];omega
 have hsrc:Src Tryz.prog i0.size 34 (.slice (some ⟨β1,0,none⟩) 1 c1) 1 (arr1.toList.take 3) w:=
  Src.ofSlice w Tryz.underlying34 ⟨β1,0,none⟩ 1 c1 _ (by rw [hl1,hs0]) (λj u hj=>by
   rw [Addr.add_lit,Nat.zero_add];have:j<3:=by have:=(List.getElem?_eq_some_iff.1 hj).1;omega
   rw [List.getElem?_take_of_lt this] at hj
   exact pH h1 hj) ho1
 have hrun:=λty'=>uF (P:=Tryz.prog) w 34 34 ty' 49 i0 Tryz.underlying34 hi0 β n c _ 1 _ hsrc h0 hroom (by rw [hl1,hs0,ha];omega);rw [hl1,hs0] at hrun
 go_enter Tryz.func48,Tryz.ntmps48
 go_wp2_with (at_builtin;refine Lib.wpList_append_run _ rfl _ _ _ _ rfl _ _ rfl rfl _ _ (hrun _) ?_)
 go_ret
 exact ⟨rfl,by rw [List.append_assoc]⟩
def grC (w:World) (n c:Nat):Nat:=grownCap w (n+1) c 49
theorem aHa {w:World} {β1 c1:Nat} {arr1:Array Value} {ty1:TypeId} (h1:w.heap[β1]? =some (.cells arr1 ty1 (0,0))) (ha1:3<=arr1.size) (ho1: ∀ v∈arr1.toList.take 3,v.oneCell'=true) {i0:TypeInfo} (hs0:i0.size=3):
  Src Tryz.prog i0.size 34 (.slice (some ⟨β1,0,none⟩) 1 c1) 1 (arr1.toList.take 3) w:=by
 have hl1:(arr1.toList.take 3).length=3:=by rw [List.length_take,Array.length_toList];omega
 exact Src.ofSlice w Tryz.underlying34 ⟨β1,0,none⟩ 1 c1 _ (by rw [hl1,hs0]) (λj u hj=>by
   rw [Addr.add_lit,Nat.zero_add];have:j<3:=by have:=(List.getElem?_eq_some_iff.1 hj).1;omega
   rw [List.getElem?_take_of_lt this] at hj
   exact pH h1 hj) ho1
theorem aFe {w:World} {β c:Nat} {arr:Array Value} {ty:TypeId} (h0:w.heap[β]? =some (.cells arr ty (0,0))) (m:Nat) (hm:m*3<=arr.size):(Builtin.firstCells 3 m (.slice (some ⟨β,0,none⟩) m c)).run Tryz.prog w= .ok (arr.toList.take (m*3)).toArray w:=
 run_firstCells_some w 3 m ⟨β,0,none⟩ m c _ (by rw [List.length_take,Array.length_toList];omega) (λj v hj=>by
  rw [Addr.add_lit,Nat.zero_add];have:j<m*3:=by have:=(List.getElem?_eq_some_iff.1 hj).1;rw [List.length_take,Array.length_toList] at this;omega
  rw [List.getElem?_take_of_lt this] at hj
  exact pH h0 hj)
set_option maxHeartbeats 4000000 in
set_option maxRecDepth 100000 in
theorem uG (base:Option Addr) (n c:Nat) (olds:List Value) (β1 c1:Nat) (arr1:Array Value) (ty1:TypeId) (w:World) (hold:(Builtin.firstCells 3 n (.slice base n c)).run Tryz.prog w.drew= .ok olds.toArray w.drew) (hnil:base=none->n=0/\c=0) (hol:olds.length=n*3) (h1:w.heap[β1]? =some (.cells arr1 ty1 (0,0))) (ha1:3<=arr1.size)
  (hnc:n<=c) (hroom:c<n+1) (hn:n<=1048576) (ho1: ∀ v∈arr1.toList.take 3,v.oneCell'=true):
  ∃ A:Array Value,(A.size=grC w n c*3/\A.toList.take ((n+1)*3)=olds++arr1.toList.take 3)/\Calls Tryz.prog 48 #[.slice base n c,.int .i64 n,.slice (some ⟨β1,0,none⟩) 1 c1] w λe w'=>
   e= .returned (.slice (some ⟨w.heap.size,0,none⟩) (n+1) (grC w n c))/\w'=w.drew.alloc (.cells A 49):=by
 obtain ⟨i0,z0,hi0,hz0,hs0,hb0,hz5⟩:=aGk.hi;have hl1:(arr1.toList.take 3).length=3:=by rw [List.length_take,Array.length_toList];omega
 have hsrc:=aHa (c1:=c1) h1 ha1 ho1 hs0;have hG:n+1<=grC w n c:=grownCap_ge w (n+1) c 49;rw [←hs0] at hold;have hrun: ∀ ty',_:=λty'=>run_append_grow_src w 34 34 ty' 49 i0 z0 Tryz.underlying34 hi0 hz0 base n c olds hold _ 1 _ hsrc hroom (by omega) (by rw [hb0];exact growslice_fits hroom (by omega));obtain ⟨A,hA⟩: ∃ A,A=(olds++arr1.toList.take 3).toArray++Builtin.zeroCells z0.cells (grownCap w (n+1) c 49 - (n+1)):=⟨_,rfl⟩;rw [←hA] at hrun
 have hA1:A.size=grC w n c*3:=by
  rw [hA];unfold Builtin.zeroCells;simp only [Array.size_append,List.size_toArray,List.length_append,hol,hl1,Array.size_map,Array.size_range];rw [hz5,←show n*3+3+(grC w n c - (n+1))*3=grC w n c*3 by omega];rfl
 have hA2:A.toList.take ((n+1)*3)=olds++arr1.toList.take 3:=by
  rw [hA,Array.toList_append,List.take_append_of_le_length (by simp only [List.length_append,hol,hl1];omega),List.take_of_length_le (by simp only [List.length_append,hol,hl1];omega)]
 refine ⟨A,⟨hA1,hA2⟩,?_⟩;clear hA hA1 hA2 hsrc h1 hold
 go_enter Tryz.func48,Tryz.ntmps48
 cases base with
 |none=>
  obtain ⟨rfl,rfl⟩:=hnil rfl
  go_wp2_with (at_builtin;refine Lib.wpList_append_run _ rfl _ _ _ _ rfl _ _ rfl rfl _ _ (hrun _) ?_)
  go_ret
  exact ⟨rfl,rfl⟩
 |some a=>
  obtain ⟨ab,ao,asp⟩:=a
  go_wp2_with (at_builtin;refine Lib.wpList_append_run _ rfl _ _ _ _ rfl _ _ rfl rfl _ _ (hrun _) ?_)
  all_goals (go_ret;exact ⟨rfl,rfl⟩)
theorem aFf {α:Type} (a v V:List α) (n i:Nat) {c:Nat} (hal:a.length=c*3) (hi:i<n) (hroom:n+1<=c) (hl1:v.length=3) (hV:V=(a.take (n*3)).drop (i*3)):
  ((((a.take ((i+1)*3)++V++a.drop ((i+1)*3+V.length)).toArray.toList.take (i*3)++v++(a.take ((i+1)*3)++V++a.drop ((i+1)*3+V.length)).toArray.toList.drop (i*3+3)).toArray).toList).take ((n+1)*3)=a.take (i*3)++v++(a.take (n*3)).drop (i*3):=by
 have hVl:V.length=(n - i)*3:=by rw [hV,List.length_drop,List.length_take,hal];omega
 rw [←hV]
 have e1:(a.take ((i+1)*3)++V++a.drop ((i+1)*3+V.length)).take (i*3)=a.take (i*3):=by
  rw [List.append_assoc,List.take_append_of_le_length (by rw [List.length_take,hal];omega),List.take_take,Nat.min_eq_left (by omega)]
 have e2:(a.take ((i+1)*3)++V++a.drop ((i+1)*3+V.length)).drop (i*3+3)=V++a.drop ((i+1)*3+V.length):=by
  rw [List.append_assoc,List.drop_append,List.drop_of_length_le (by rw [List.length_take,hal];omega),List.nil_append,List.length_take,hal,show i*3+3 - min ((i+1)*3) (c*3)=0 by omega,List.drop_zero]
 rw [List.toList_toArray,List.toList_toArray,e1,e2,←List.append_assoc,List.take_append_of_le_length (by simp only [List.length_append,List.length_take,hal,hl1,hVl];omega),List.take_of_length_le (by simp only [List.length_append,List.length_take,hal,hl1,hVl];omega)]
set_option maxHeartbeats 4000000 in
set_option maxRecDepth 100000 in
theorem aEP (β n c i:Nat) (arr:Array Value) (ty:TypeId) (β1 c1:Nat) (arr1:Array Value) (ty1:TypeId) (w:World) (h0:w.heap[β]? =some (.cells arr ty (0,0))) (ha:arr.size=c*3) (h1:w.heap[β1]? =some (.cells arr1 ty1 (0,0))) (ha1:3<=arr1.size) (hne:β1≠β)
  (hi:i<n) (hroom:n+1<=c) (hc63:c<=9223372036854775807) (ho: ∀ v∈arr.toList.take (n*3),v.oneCell'=true) (ho1: ∀ v∈arr1.toList.take 3,v.oneCell'=true):
  ∃ A B:Array Value,(A.size=c*3/\B.size=c*3/\B.toList.take ((n+1)*3)=arr.toList.take (i*3)++arr1.toList.take 3++(arr.toList.take (n*3)).drop (i*3))/\Calls Tryz.prog 48 #[.slice (some ⟨β,0,none⟩) n c,.int .i64 i,.slice (some ⟨β1,0,none⟩) 1 c1] w λe w'=>
   e= .returned (.slice (some ⟨β,0,none⟩) (n+1) c)/\w'=(w.drew.setRow β A).setRow β B:=by
 obtain ⟨i0,z0,hi0,hz0,hs0,hb0,hz5⟩:=aGk.hi;have hsz:(Tryz.prog.info? 49).map (·.size)=some 3:=by rw [hi0];simp [hs0]
 have hl1:(arr1.toList.take 3).length=3:=by rw [List.length_take,Array.length_toList];omega
 have hal:arr.toList.length=c*3:=by rw [Array.length_toList,ha]
 have hz2: ¬ ((i:Int)=(n:Int)):=by omega
 have hw1:IntKind.i64.wrap ((i:Int)+1)=(i:Int)+1:=by rw [IntKind.wrap_i64];omega
 have hb1:(0:Int)<=(i:Int)+1:=by omega
 have hin:i<=n:=by omega
 have htn:((i:Int)+1).toNat=i+1:=by omega
 have hb2: ¬ (c=i+1):=by omega
 have hb3:(i:Int)<=(n:Int)+1:=by omega
 have hb4: ¬ (c=i):=by omega
 have hmn1:Nat.min (n+1 - i) (n - i)=n - i:=by
  have:min (n+1 - i) (n - i)=n - i:=by omega
  exact this
 have hmn2:Nat.min 1 (n+1 - i)=1:=by
  have:min 1 (n+1 - i)=1:=by omega
  exact this
 obtain ⟨V,hV⟩: ∃ V,V=(arr.toList.take (n*3)).drop (i*3):=⟨_,rfl⟩;have hVl:V.length=(n - i)*3:=by rw [hV,List.length_drop,List.length_take,hal];omega
 obtain ⟨A,hA⟩: ∃ A,A=(arr.toList.take ((i+1)*3)++V++arr.toList.drop ((i+1)*3+V.length)).toArray:=⟨_,rfl⟩;have hAs:A.size=c*3:=by rw [hA];simp only [List.size_toArray,List.length_append,List.length_take,List.length_drop,hal,hVl];omega
 have hcp1: ∀ ty' dc sc,(Builtin.copy_ #[34,34] ty' #[.slice (some ⟨β,(i+1)*3,none⟩) (n - i) dc,.slice (some ⟨β,i*3,none⟩) (n+1 - i) sc]).run Tryz.prog w.drew= .ok (goInt ((n - i:Nat):Int)) (w.drew.setRow β A):=λty' dc sc=>by
  have:=pG (P:=Tryz.prog) w.drew 34 34 ty' 49 β ((i+1)*3) (n - i) dc ⟨β,i*3,none⟩ (n+1 - i) sc arr ty V 3 Tryz.underlying34 hsz h0 (by rw [hVl,hmn1])
   (λj v hj=>by
    rw [Addr.add_lit];rw [hV,List.getElem?_drop] at hj;have:i*3+j<n*3:=by have:=(List.getElem?_eq_some_iff.1 hj).1;rw [List.length_take,hal] at this;omega
    rw [List.getElem?_take_of_lt this] at hj
    exact pH (w:=w.drew) h0 hj) (by rw [hVl,ha];omega) (λv hv=>ho v (by rw [hV] at hv;exact List.mem_of_mem_drop hv))
  rw [this,hA,hmn1]
 obtain ⟨W1,hW1⟩: ∃ W1,W1=w.drew.setRow β A:=⟨_,rfl⟩;have hW1b:W1.heap[β]? =some (.cells A ty (0,0)):=by rw [hW1];exact setRow_heap w.drew β arr A ty (0,0) h0
 have hW11:W1.heap[β1]? =some (.cells arr1 ty1 (0,0)):=by rw [hW1,dC hne];exact h1
 obtain ⟨B,hB⟩: ∃ B,B=(A.toList.take (i*3)++arr1.toList.take 3++A.toList.drop (i*3+3)).toArray:=⟨_,rfl⟩
 have hcp2: ∀ ty' dc,(Builtin.copy_ #[34,34] ty' #[.slice (some ⟨β,i*3,none⟩) (n+1 - i) dc,.slice (some ⟨β1,0,none⟩) 1 c1]).run Tryz.prog W1= .ok (goInt ((1:Nat):Int)) (W1.setRow β B):=λty' dc=>by
  have:=pG (P:=Tryz.prog) W1 34 34 ty' 49 β (i*3) (n+1 - i) dc ⟨β1,0,none⟩ 1 c1 A ty (arr1.toList.take 3) 3 Tryz.underlying34 hsz hW1b (by rw [hl1,hmn2,Nat.one_mul])
   (λj v hj=>by
    rw [Addr.add_lit,Nat.zero_add];have:j<3:=by have:=(List.getElem?_eq_some_iff.1 hj).1;omega
    rw [List.getElem?_take_of_lt this] at hj
    exact pH hW11 hj) (by rw [hl1,hAs];omega) ho1
  rw [this,hB,hl1,hmn2]
 have hov: ∀ lb cb,(callFunc 64 #[.slice (some ⟨β1,0,none⟩) 1 c1,.slice (some ⟨β,(i+1)*3,none⟩) lb cb]).run Tryz.prog w= .ok (.value (.bool false)) w:=λlb cb=>by
  rw [run_callFunc_extern Tryz.func64 (by kernel_rfl) (by kernel_rfl) (by kernel_rfl) (e:=Extern.SlicesOverlaps.overlaps #[34,34] #[4]) (by kernel_rfl),
   Lib.run_overlaps_apart w 34 4 49 Tryz.underlying34 3 (λw=>by rw [gP hi0,hs0]) ⟨β1,0,none⟩ ⟨β,(i+1)*3,none⟩ 1 c1 lb cb hne ty1 ty arr1.size arr.size (by simp [World.shape?,h1]) (by simp [World.shape?,h0]) (by omega) (by simp [World.frozen?,h1]) (by simp [World.frozen?,h1])]
  rfl
 have hBs:B.size=c*3:=by
  have:A.toList.length=c*3:=by rw [Array.length_toList,hAs]
  rw [hB];simp only [List.size_toArray,List.length_append,List.length_take,List.length_drop,this,hl1];rw [Array.length_toList] at hl1;omega
 have hBt:B.toList.take ((n+1)*3)=arr.toList.take (i*3)++arr1.toList.take 3++(arr.toList.take (n*3)).drop (i*3):=by
  rw [hB,hA];exact aFf _ _ _ _ _ hal hi hroom hl1 hV
 rw [hW1] at hcp2;refine ⟨A,B,⟨hAs,hBs,hBt⟩,?_⟩;clear hA hB hBs hBt hW1b hW11 hW1 h0 h1;have mixed:=iR
 go_enter Tryz.func48,Tryz.ntmps48
 go_wp2_with (simp only [hov])
 go_region_law_o (refine step_copy_runI rfl _ _ 34 34 rfl _ _ (by simp [Act.eval,Act.put]) (by simp [Act.eval,Act.put]) (hcp1 _ _ _) ?_)
 go_wp2_with (at_builtin;refine wpList_copy_runI _ rfl _ _ 34 34 rfl _ _ rfl rfl (hcp2 _ _) ?_)
 go_ret
 exact ⟨rfl,rfl⟩
set_option maxHeartbeats 4000000 in
set_option maxRecDepth 100000 in
theorem aFg (β n c i:Nat) (arr:Array Value) (ty:TypeId) (β1 c1:Nat) (arr1:Array Value) (ty1:TypeId) (w:World) (h0:w.heap[β]? =some (.cells arr ty (0,0))) (ha:arr.size=c*3) (h1:w.heap[β1]? =some (.cells arr1 ty1 (0,0))) (ha1:3<=arr1.size)
  (hi:i<n) (hnc:n<=c) (hroom:c<n+1) (hn:n<=1048576) (ho: ∀ v∈arr.toList.take (n*3),v.oneCell'=true) (ho1: ∀ v∈arr1.toList.take 3,v.oneCell'=true):
  ∃ C A B:Array Value,(C.size=grC w n c*3/\A.size=grC w n c*3/\B.size=grC w n c*3/\B.toList.take ((n+1)*3)=arr.toList.take (i*3)++arr1.toList.take 3++(arr.toList.take (n*3)).drop (i*3))/\Calls Tryz.prog 48 #[.slice (some ⟨β,0,none⟩) n c,.int .i64 i,.slice (some ⟨β1,0,none⟩) 1 c1] w λe w'=>
   e= .returned (.slice (some ⟨w.heap.size,0,none⟩) (n+1) (grC w n c))/\w'=((w.alloc (.cells C 49)).drew.setRow w.heap.size A).drew.setRow w.heap.size B:=by
 obtain ⟨i0,z0,hi0,hz0,hs0,hb0,hz5⟩:=aGk.hi;have hsz:(Tryz.prog.info? 49).map (·.size)=some 3:=by rw [hi0];simp [hs0]
 have hl1:(arr1.toList.take 3).length=3:=by rw [List.length_take,Array.length_toList];omega
 have hal:arr.toList.length=c*3:=by rw [Array.length_toList,ha]
 obtain ⟨G,hG⟩: ∃ G,G=grC w n c:=⟨_,rfl⟩;have hGn:n+1<=G:=by rw [hG];exact grownCap_ge w (n+1) c 49
 have hGm:G<=maxLen:=by rw [hG];exact grownCap_le_maxLen w (n+1) c 49 (by unfold maxLen;omega)
 have hG63:G<=9223372036854775807:=by unfold maxLen at hGm;omega
 rw [←hG];have hlt:β<w.heap.size:=hR h0;have hlt1:β1<w.heap.size:=hR h1;have hz2: ¬ ((i:Int)=(n:Int)):=by omega
 have hw1:IntKind.i64.wrap ((i:Int)+1)=(i:Int)+1:=by rw [IntKind.wrap_i64];omega
 have hw2:IntKind.i64.wrap ((n:Int)+1)=(n:Int)+1:=by rw [IntKind.wrap_i64];omega
 obtain ⟨k,hk⟩: ∃ k,k=n+1 - i:=⟨_,rfl⟩;have hw3:IntKind.i64.wrap ((n:Int)+1 - (i:Int))=(k:Int):=by rw [IntKind.wrap_i64];omega
 have hb1:(0:Int)<=(i:Int)+1:=by omega
 have hin:i<=n:=by omega
 have hic:i<=c:=by omega
 have htn:((i:Int)+1).toNat=i+1:=by omega
 have hb2: ¬ (G=i+1):=by omega
 have hb3:(i:Int)<=(n:Int)+1:=by omega
 have hb4: ¬ (G=i):=by omega
 have hb5: ¬ (c=i):=by omega
 have hmn1:Nat.min (n - i) (n - i)=n - i:=Nat.min_self _
 have hmn2:Nat.min 1 (n+1 - i)=1:=by
  have:min 1 (n+1 - i)=1:=by omega
  exact this
 have hold:(Builtin.firstCells i0.size i (.slice (some ⟨β,0,none⟩) i c)).run Tryz.prog w.drew= .ok (arr.toList.take (i*3)).toArray w.drew:=by rw [hs0];exact aFe (w:=w.drew) h0 i (by rw [ha];omega)
 obtain ⟨C,hC⟩: ∃ C,C=(arr.toList.take (i*3)).toArray++Builtin.zeroCells z0.cells k++Builtin.zeroCells z0.cells (G - (n+1)):=⟨_,rfl⟩
 have hCs:C.size=G*3:=by
  rw [hC];unfold Builtin.zeroCells;simp only [Array.size_append,List.size_toArray,List.length_take,hal,Array.size_map,Array.size_range,hz5];omega
 have hCt:C.toList.take (i*3)=arr.toList.take (i*3):=by
  rw [hC,Array.toList_append,Array.toList_append,List.append_assoc,List.take_append_of_le_length (by simp only [List.length_take,hal];omega),List.take_of_length_le (by simp only [List.length_take,hal];omega)]
 have hrun: ∀ ty',(Builtin.append_ #[34,3] ty' #[.slice (some ⟨β,0,none⟩) i c,.int .i64 k]).run Tryz.prog w= .ok (.slice (some ⟨w.heap.size,0,none⟩) (n+1) G) ((w.alloc (.cells C 49)).drew):=λty'=>by
  have:=Lib.run_append_grow_zeros (P:=Tryz.prog) w 34 3 ty' 49 i0 z0 .i64 .i64 Tryz.underlying34 Tryz.underlying3 hi0 hz0 (some ⟨β,0,none⟩) i c _ hold k (by omega) (by omega) (by omega) (by omega) (by rw [hb0];omega) (by rw [hb0];exact growslice_fits (by omega) (by omega));rw [show i+k=n+1 by omega] at this;rw [this,hC,hG];rfl
 have hHb:(w.alloc (.cells C 49)).drew.heap[w.heap.size]? =some (.cells C 49 (0,0)):=by
  show (w.heap.push _)[w.heap.size]? =_;exact Array.getElem?_push_size
 have hH1:(w.alloc (.cells C 49)).drew.heap[β1]? =some (.cells arr1 ty1 (0,0)):=by
  show (w.heap.push _)[β1]? =_;rw [Array.getElem?_push_lt hlt1,←h1,Array.getElem?_eq_getElem hlt1]
 have hH0:(w.alloc (.cells C 49)).drew.heap[β]? =some (.cells arr ty (0,0)):=by
  show (w.heap.push _)[β]? =_;rw [Array.getElem?_push_lt hlt,←h0,Array.getElem?_eq_getElem hlt]
 obtain ⟨W0,hW0⟩: ∃ W0,W0=(w.alloc (.cells C 49)).drew:=⟨_,rfl⟩;rw [←hW0] at hHb hH1 hH0;obtain ⟨A,hA⟩: ∃ A,A=(C.toList.take (i*3)++arr1.toList.take 3++C.toList.drop (i*3+3)).toArray:=⟨_,rfl⟩;have hCl:C.toList.length=G*3:=by rw [Array.length_toList,hCs]
 have hl1':=hl1
 have hAs:A.size=G*3:=by
  rw [hA];simp only [List.size_toArray,List.length_append,List.length_take,List.length_drop,hCl];rw [List.length_take] at hl1';omega
 have hcp2: ∀ ty' dc,(Builtin.copy_ #[34,34] ty' #[.slice (some ⟨w.heap.size,i*3,none⟩) (n+1 - i) dc,.slice (some ⟨β1,0,none⟩) 1 c1]).run Tryz.prog W0= .ok (goInt ((1:Nat):Int)) (W0.setRow w.heap.size A):=λty' dc=>by
  have:=pG (P:=Tryz.prog) W0 34 34 ty' 49 w.heap.size (i*3) (n+1 - i) dc ⟨β1,0,none⟩ 1 c1 C 49 (arr1.toList.take 3) 3 Tryz.underlying34 hsz hHb (by rw [hl1,hmn2,Nat.one_mul])
   (λj v hj=>by
    rw [Addr.add_lit,Nat.zero_add];have:j<3:=by have:=(List.getElem?_eq_some_iff.1 hj).1;omega
    rw [List.getElem?_take_of_lt this] at hj
    exact pH hH1 hj) (by rw [hl1,hCs];omega) ho1
  rw [this,hA,hl1,hmn2]
 obtain ⟨W1,hW1⟩: ∃ W1,W1=W0.setRow w.heap.size A:=⟨_,rfl⟩;have hW1b:W1.heap[w.heap.size]? =some (.cells A 49 (0,0)):=by rw [hW1];exact setRow_heap W0 _ C A _ (0,0) hHb
 have hW10:W1.heap[β]? =some (.cells arr ty (0,0)):=by rw [hW1,dC (by omega)];exact hH0
 obtain ⟨V,hV⟩: ∃ V,V=(arr.toList.take (n*3)).drop (i*3):=⟨_,rfl⟩;have hVl:V.length=(n - i)*3:=by rw [hV,List.length_drop,List.length_take,hal];omega
 obtain ⟨B,hB⟩: ∃ B,B=(A.toList.take ((i+1)*3)++V++A.toList.drop ((i+1)*3+V.length)).toArray:=⟨_,rfl⟩;have hAl:A.toList.length=G*3:=by rw [Array.length_toList,hAs]
 have hcp1: ∀ ty' dc sc,(Builtin.copy_ #[34,34] ty' #[.slice (some ⟨w.heap.size,(i+1)*3,none⟩) (n - i) dc,.slice (some ⟨β,i*3,none⟩) (n - i) sc]).run Tryz.prog W1.drew= .ok (goInt ((n - i:Nat):Int)) (W1.drew.setRow w.heap.size B):=λty' dc sc=>by
  have:=pG (P:=Tryz.prog) W1.drew 34 34 ty' 49 w.heap.size ((i+1)*3) (n - i) dc ⟨β,i*3,none⟩ (n - i) sc A 49 V 3 Tryz.underlying34 hsz hW1b (by rw [hVl,hmn1])
   (λj v hj=>by
    rw [Addr.add_lit];rw [hV,List.getElem?_drop] at hj;have:i*3+j<n*3:=by have:=(List.getElem?_eq_some_iff.1 hj).1;rw [List.length_take,hal] at this;omega
    rw [List.getElem?_take_of_lt this] at hj
    exact pH (w:=W1.drew) hW10 hj) (by rw [hVl,hAs];omega) (λv hv=>ho v (by rw [hV] at hv;exact List.mem_of_mem_drop hv))
  rw [this,hB,hmn1]
 have hBs:B.size=G*3:=by rw [hB];simp only [List.size_toArray,List.length_append,List.length_take,List.length_drop,hAl,hVl];omega
 have hBt:B.toList.take ((n+1)*3)=arr.toList.take (i*3)++arr1.toList.take 3++(arr.toList.take (n*3)).drop (i*3):=by
  have e1:A.toList.take ((i+1)*3)=arr.toList.take (i*3)++arr1.toList.take 3:=by
   rw [hA,List.toList_toArray,hCt,List.take_append_of_le_length (by simp only [List.length_append,hl1,List.length_take,hal];omega),List.take_of_length_le (by simp only [List.length_append,hl1,List.length_take,hal];omega)]
  rw [hB,List.toList_toArray,e1,←hV,List.take_append_of_le_length (by simp only [List.length_append,hl1,List.length_take,hal,hVl];omega),List.take_of_length_le (by simp only [List.length_append,hl1,List.length_take,hal,hVl];omega)]
 rw [hW1,hW0] at hcp1;rw [hW0] at hcp2;refine ⟨C,A,B,⟨hCs,hAs,hBs,hBt⟩,?_⟩;have mixed:=iR;subst hk;clear hA hB hBs hBt hW1b hW10 hW1 hW0 h0 h1 hC hCs hCt hCl hAs hAl hV hVl hHb hH1 hH0 hold hG hl1' hl1
 go_enter Tryz.func48,Tryz.ntmps48
 go_wp2_with (at_builtin;first|refine Lib.wpList_append_run _ rfl _ _ _ _ rfl _ _ rfl rfl _ _ (hrun _) ?_|refine wpList_copy_runI _ rfl _ _ 34 34 rfl _ _ rfl rfl (hcp2 _ _) ?_)
 go_region_law_o (refine step_copy_runI rfl _ _ 34 34 rfl _ _ (by simp [Act.eval,Act.put]) (by simp [Act.eval,Act.put]) (hcp1 _ _ _) ?_)
 go_wp2
 go_ret
 exact ⟨rfl,rfl⟩
theorem oO {B:Nat} {a w:World} (h:Below B a w):Below B a w.drew:=h.trans ⟨rfl,rfl,rfl,bQ _,λ_ _=>rfl⟩
theorem aEQ {R:AV->Value->Prop} {a:List Br} {v:Br} {i:Nat} {vs vs1:List Value} (hva:All2 R (List.map (ow eB) a).flatten vs) (hvb:All2 R (List.map (ow eB) [v]).flatten vs1):All2 R (List.map (ow eB) (a.take i++v::a.drop i)).flatten (vs.take (i*3)++vs1++vs.drop (i*3)):=by
 have hk: ∀ cs∈List.map (ow eB) a,cs.length=3:=by
  intro cs h;obtain ⟨x,_,rfl⟩:=List.mem_map.1 h;rfl
 rw [show List.map (ow eB) (a.take i++v::a.drop i)=(List.map (ow eB) a).take i++List.map (ow eB) [v]++(List.map (ow eB) a).drop i by simp,List.flatten_append,List.flatten_append,aEO hk,aAR hk];exact ((hva.take _).append hvb).append (hva.drop _)
theorem uH (l:List Br):(List.map (ow eB) l).flatten.all yK=true:=by
 rw [List.all_eq_true];intro x hx;obtain ⟨c,hc,hx⟩:=List.mem_flatten.1 hx;obtain ⟨b,_,rfl⟩:=List.mem_map.1 hc;have:(ow eB b).all yK=true:=rfl;exact List.all_eq_true.1 this x hx
theorem aFh (l:List Br): ∀ cs∈List.map (ow eB) l,cs.length=3:=by
 intro cs h;obtain ⟨x,_,rfl⟩:=List.mem_map.1 h;rfl
theorem aER (a:List Br) (i:Nat) (v:Br) (hi:i<=a.length) (hn:a.length<=1048576):HasE Tryz.prog 48 [.own 0 0 a.length,.int i,.own 1 0 1] [(0,⟨3,List.map (ow eB) a⟩),(1,⟨3,List.map (ow eB) [v]⟩)] 2 (.own 2 0 (a.take i++v::a.drop i).length) [(2,⟨3,List.map (ow eB) (a.take i++v::a.drop i)⟩)]:=by
 refine ⟨Enters.mk Tryz.func48 (by kernel_rfl) (by kernel_rfl),λB M w args ν φ hMB hB hM hMo hargs hheap=>?_⟩;obtain ⟨args⟩:=args;simp only [All2] at hargs;obtain ⟨v0,_,h0,r0,v1,_,rfl,r1,v2,_,rfl,r2,rfl⟩:=hargs;subst h0;have r1':v1= .int .i64 i:=r1.1;subst r1';have k0:gF [(0,(⟨3,List.map (ow eB) a⟩:Blk)),(1,⟨3,List.map (ow eB) [v]⟩)] 0=some ⟨3,List.map (ow eB) a⟩:=rfl;have k1:gF [(0,(⟨3,List.map (ow eB) a⟩:Blk)),(1,⟨3,List.map (ow eB) [v]⟩)] 1=some ⟨3,List.map (ow eB) [v]⟩:=rfl;obtain ⟨-,⟨-,hx1⟩, -,hM1⟩:=hheap.blk 1 _ k1;obtain ⟨-,⟨-,hx0⟩, -,hM0⟩:=hheap.blk 0 _ k0;obtain ⟨-, -,hs0⟩:=r0.2 _ k0;have hnil:=(r0.2 _ k0).2.1;obtain ⟨-, -,hs1⟩:=r2.2 _ k1;rcases hx1 with ⟨_,q2,_⟩|⟨β1,c1,arr1,ty1,T1,vs1,p1,p2,p3,p4,p5,p6,p7,p8⟩
 ·cases q2
 obtain ⟨-,hv1⟩:=yL p8 (uH _);have e2:=(hs1 β1 c1 p1).zero;subst e2;have p4':1<=c1:=p4;have p3':arr1.size=c1*3:=p3;have p7':arr1.toList.take 3=vs1:=p7;have ho1: ∀ u∈arr1.toList.take 3,u.oneCell'=true:=by rw [p7'];exact aCs hv1 (uH _)
 have hl:(a.take i++v::a.drop i).length=a.length+1:=by simp;omega
 have hel:(List.map (ow eB) (a.take i++v::a.drop i)).length=a.length+1:=by rw [dD,hl]
 have hG:a.length+1<=grC w a.length 0:=grownCap_ge w (a.length+1) 0 49;have hlt1:β1<w.heap.size:=hR p2;rw [hl];rcases hx0 with ⟨q1,q2,_⟩|⟨β,c,arr,ty,T,vs,q1,q2,q3,q4,q5,q6,q7,q8⟩
 ·have ha:a=[]:=by simpa using q2
  subst ha;have hi0:i=0:=by simpa using hi
  subst hi0;rw [hnil q1];obtain ⟨A,⟨hA1,hA2⟩,hcall⟩:=uG none 0 0 [] β1 c1 arr1 ty1 w (run_firstCells_none w.drew 3 0 0 0) (λ_=>⟨rfl,rfl⟩) rfl p2 (by omega) (bQ _) (by omega) (by omega) ho1;refine hcall.mono λe w' ⟨he,hw⟩=>?_;subst hw
  obtain ⟨v',u',ν',φ',g1,g2⟩:=aAz (w:=w) (w':=w.drew.alloc (.cells A 49)) (hl:=[(0,⟨3,List.map (ow eB) []⟩),(1,⟨3,List.map (ow eB) [v]⟩)]) (kp:=2) (ν:=ν) (M:=M) (B:=B) (k:=3) (es:=List.map (ow eB) [v]) (β:=w.heap.size) (c:=grC w 0 0) (ty:=49) (arr:=A)
   ((oO (Below.refl _ _)).alloc hB _) (hM _ (bQ _)) (by show (w.drew.heap.push _)[w.drew.heap.size]? =_;exact Array.getElem?_push_size) hA1 hG (grownCap_le_maxLen w 1 0 49 (by unfold maxLen;omega))
   (λx hx _=>by show (w.heap.push _)[x]? =_;rw [Array.getElem?_push_lt hx,Array.getElem?_eq_getElem hx]) (λx hx _=>by omega) (aFh _) (uH _) (by
    show All2 _ _ (A.toList.take ((0+1)*3))
    rw [hA2,p7'];exact hv1)
  exact ⟨v',u',ν',φ',by rw [he,g1];rfl,g2⟩
 ·obtain ⟨-,hv0⟩:=yL q8 (uH _);have e0:=(hs0 β c q1).zero;subst e0;simp only [dD] at q4 q7;have q3':arr.size=c*3:=q3;have ho0: ∀ u∈arr.toList.take (a.length*3),u.oneCell'=true:=by rw [q7];exact aCs hv0 (uH _)
  have hlt:β<w.heap.size:=hR q2;have hMβ:M β:=hM0 β (by rw [q6];simp);have hne:β1≠β:=λe=>hheap.apart 0 1 β (by rw [k0];simp) (by rw [k1];simp) (by omega) (by rw [q6];simp) (by rw [p6,e];simp);have hal0:arr.toList.length=c*3:=by rw [Array.length_toList];exact q3'
  have hal:vs.length=a.length*3:=by rw [←q7,List.length_take,hal0];omega
  have hfin:=λ(w':World) (β' c':Nat) (ty':TypeId) (A:Array Value)=>aAz (w:=w) (w':=w') (hl:=[(0,⟨3,List.map (ow eB) a⟩),(1,⟨3,List.map (ow eB) [v]⟩)]) (kp:=2) (ν:=ν) (M:=M) (B:=B) (k:=3) (es:=List.map (ow eB) (a.take i++v::a.drop i)) (β:=β') (c:=c') (ty:=ty') (arr:=A);have hcells:All2 (Rep1 w (gF [(0,⟨3,List.map (ow eB) a⟩),(1,⟨3,List.map (ow eB) [v]⟩)]) (nK 2) ν) (List.map (ow eB) (a.take i++v::a.drop i)).flatten (vs.take (i*3)++vs1++vs.drop (i*3)):=aEQ hv0 hv1;rw [hel] at hfin;have hc63:c<=9223372036854775807:=by unfold maxLen at q5;omega
  have hG:a.length+1<=grC w a.length c:=grownCap_ge w (a.length+1) c 49;have hGm:grC w a.length c<=maxLen:=grownCap_le_maxLen w (a.length+1) c 49 (by unfold maxLen;omega)
  have hcv: ∀ D:Array Value,D.toList.take ((a.length+1)*3)=arr.toList.take (i*3)++arr1.toList.take 3++(arr.toList.take (a.length*3)).drop (i*3)->All2 (Rep1 w (gF [(0,⟨3,List.map (ow eB) a⟩),(1,⟨3,List.map (ow eB) [v]⟩)]) (nK 2) ν) (List.map (ow eB) (a.take i++v::a.drop i)).flatten (D.toList.take ((a.length+1)*3)):=λD hD=>by
   rw [hD,p7',q7,show arr.toList.take (i*3)=vs.take (i*3) by rw [←q7,List.take_take,Nat.min_eq_left (by omega)]];exact hcells
  have htk: ∀ m,vs.drop (a.length*3+m)=[]:=λm=>List.drop_of_length_le (by omega);rcases dR c (a.length+1) with hroom|hroom <;> rcases dR i a.length with hin|hin
  ·obtain ⟨C,A,D,⟨g0,g1,g2,g3⟩,hcall⟩:=aFg β a.length c i arr ty β1 c1 arr1 ty1 w q2 q3' p2 (by omega) hin q4 hroom hn ho0 ho1;refine hcall.mono λe w' ⟨he,hw⟩=>?_
   have hpush: ∀ x,x<w.heap.size->w'.heap[x]? =w.heap[x]? :=λx hx=>by
    rw [hw,dC (by omega)];show ((w.alloc (.cells C 49)).drew.setRow w.heap.size A).heap[x]? =_;rw [dC (by omega)];show (w.heap.push _)[x]? =_;rw [Array.getElem?_push_lt hx,Array.getElem?_eq_getElem hx]
   have hb:(((w.alloc (.cells C 49)).drew.setRow w.heap.size A).drew).heap[w.heap.size]? =some (.cells A 49 (0,0)):=setRow_heap _ _ C A _ (0,0) (by show (w.heap.push _)[w.heap.size]? =_;exact Array.getElem?_push_size)
   obtain ⟨v',u',ν',φ',f1,f2⟩:=hfin w' w.heap.size (grC w a.length c) 49 D (by rw [hw];exact (((oO ((Below.refl _ _).alloc hB _)).trans (fX hB)).trans (oO (Below.refl _ _))).trans (fX hB)) (hM _ (bQ _)) (by rw [hw];exact setRow_heap _ _ A D _ (0,0) hb) g2 hG hGm
    (λx hx _=>hpush x hx) (λx hx _=>by omega) (aFh _) (uH _) (hcv _ g3)
   exact ⟨v',u',ν',φ',by rw [he,f1],f2⟩
  ·have hin':i=a.length:=by omega
   subst hin';obtain ⟨A,⟨hA1,hA2⟩,hcall⟩:=uG (some ⟨β,0,none⟩) a.length c (arr.toList.take (a.length*3)) β1 c1 arr1 ty1 w (aFe (w:=w.drew) q2 _ (by omega)) (λh=>by cases h) (by rw [List.length_take,hal0];omega) p2 (by omega) q4 hroom hn ho1;refine hcall.mono λe w' ⟨he,hw⟩=>?_;subst hw
   obtain ⟨v',u',ν',φ',f1,f2⟩:=hfin _ w.heap.size (grC w a.length c) 49 A ((oO (Below.refl _ _)).alloc hB _) (hM _ (bQ _)) (by show (w.drew.heap.push _)[w.drew.heap.size]? =_;exact Array.getElem?_push_size) hA1 hG hGm
    (λx hx _=>by show (w.heap.push _)[x]? =_;rw [Array.getElem?_push_lt hx,Array.getElem?_eq_getElem hx]) (λx hx _=>by omega) (aFh _) (uH _) (hcv _ (by rw [hA2,List.drop_of_length_le (by rw [List.length_take];omega),List.append_nil]))
   exact ⟨v',u',ν',φ',by rw [he,f1],f2⟩
  ·obtain ⟨A,D,⟨g1,g2,g3⟩,hcall⟩:=aEP β a.length c i arr ty β1 c1 arr1 ty1 w q2 q3' p2 (by omega) hne hin hroom hc63 ho0 ho1;refine hcall.mono λe w' ⟨he,hw⟩=>?_;have hb:(w.drew.setRow β A).heap[β]? =some (.cells A ty (0,0)):=setRow_heap _ _ arr A _ (0,0) q2
   obtain ⟨v',u',ν',φ',f1,f2⟩:=hfin w' β c ty D (by rw [hw];exact ((oO (Below.refl _ _)).trans (fX (hMB _ hMβ))).trans (fX (hMB _ hMβ))) hMβ (by rw [hw];exact setRow_heap _ _ A D _ (0,0) hb) g2 hroom q5
    (λx hx hne=>by rw [hw,dC hne,dC hne];rfl) (λx hx hf=>(hf 0 _ β c k0 q1).symm) (aFh _) (uH _) (hcv _ g3)
   exact ⟨v',u',ν',φ',by rw [he,f1],f2⟩
  ·have hin':i=a.length:=by omega
   subst hin';have hcall:=aBA β a.length c arr ty β1 c1 arr1 ty1 w q2 q3' p2 (by omega) hroom hc63 ho1;refine hcall.mono λe w' ⟨he,hw⟩=>?_;have hl3:(arr1.toList.take 3).length=3:=by rw [List.length_take,Array.length_toList];omega
   obtain ⟨v',u',ν',φ',f1,f2⟩:=hfin w' β c ty (arr.toList.take (a.length*3)++arr1.toList.take 3++arr.toList.drop (a.length*3+3)).toArray (by rw [hw];exact fX (hMB _ hMβ)) hMβ (by rw [hw];exact setRow_heap _ _ arr _ _ (0,0) q2) (by simp only [List.size_toArray,List.length_append,List.length_take,List.length_drop,hal0];rw [List.length_take] at hl3;omega) hroom q5
    (λx hx hne=>by rw [hw,dC hne]) (λx hx hf=>(hf 0 _ β c k0 q1).symm) (aFh _) (uH _) (hcv _ (by
     rw [List.toList_toArray,List.take_append_of_le_length (by rw [List.length_append,hl3,List.length_take,hal0];omega),List.take_of_length_le (by rw [List.length_append,hl3,List.length_take,hal0];omega),List.drop_of_length_le (by rw [List.length_take];omega),List.append_nil]))
   exact ⟨v',u',ν',φ',by rw [he,f1],f2⟩
def nB (a0:List Br) (a1:Int) (a2:List Br):Option (List Br):=
 match a2 with
 | [v]=>bif (decide (0<=a1)&&(decide (a1<=(a0.length:Int))&&decide (a0.length<=1048576))) then some (a0.take a1.toNat++v::a0.drop a1.toNat) else none
 |_=>none
theorem aES (a0:List Br) (a1:Int) (a2 r:List Br) (h:nB a0 a1 a2=some r):HasE Tryz.prog 48 [.own 0 0 a0.length,.int a1,.own 1 0 a2.length] [(0,⟨3,List.map (ow eB) a0⟩),(1,⟨3,List.map (ow eB) a2⟩)] 2 (.own 2 0 r.length) [(2,⟨3,List.map (ow eB) r⟩)]:=by
 obtain ⟨v,rfl⟩: ∃ v,a2=[v]:=by
  unfold nB at h;split at h
  ·exact ⟨_,rfl⟩
  ·cases h
 simp only [nB] at h;obtain ⟨q,h⟩:=cg h;obtain rfl:=so h;simp only [cD,fW] at q;obtain ⟨n,rfl⟩: ∃ n:Nat,a1=n:=⟨a1.toNat,by omega⟩;rw [kC];exact aER a0 n v (by omega) q.2.2
end
end Go.Proofs.YtckihlpjfmnccaaGreatDoor

/-
  Several texts of the claim in one.
-/
import Derived.Test.YtpppcfhgaehcjaaDoorProg
import Derived.Test.YtpppcfhgaehcjaaDoorH3
set_option linter.unusedVariables false
set_option linter.unusedSimpArgs false
namespace Go.Proofs.YtpppcfhgaehcjaaDoor
open Go.RowKit
noncomputable section
def TT:List (Nat×Ty):=[
 (1,⟨.sc,1,8,[.sc .nilFunc]⟩),
 (2,⟨.sc,1,8,[.sc (.int .i64 0)]⟩),
 (3,⟨.sc,1,8,[.sc (.int .i64 0)]⟩),
 (4,⟨.sc,1,1,[.sc (.bool false)]⟩),
 (5,⟨.sc,1,1,[.sc (.int .u8 0)]⟩),
 (6,⟨.sc,1,1,[.sc (.int .u8 0)]⟩),
 (7,⟨.struct [(0,2),(1,3),(2,4),(3,6)],4,24,[.sc (.int .i64 0),.sc (.int .i64 0),.sc (.bool false),.sc (.int .u8 0)]⟩),
 (8,⟨.struct [(0,2),(1,3),(2,4),(3,6)],4,24,[.sc (.int .i64 0),.sc (.int .i64 0),.sc (.bool false),.sc (.int .u8 0)]⟩),
 (9,⟨.sc,1,16,[.sc (.string ⟨#[]⟩)]⟩),
 (10,⟨.sc,1,16,[.sc (.string ⟨#[]⟩)]⟩),
 (11,⟨.sc,1,16,[.sc (.string ⟨#[]⟩)]⟩),
 (12,⟨.sc,1,8,[.sc (.int .u64 0)]⟩),
 (13,⟨.struct [(0,9),(1,12)],2,24,[.sc (.string ⟨#[]⟩),.sc (.int .u64 0)]⟩),
 (14,⟨.struct [(0,9),(1,12)],2,24,[.sc (.string ⟨#[]⟩),.sc (.int .u64 0)]⟩),
 (21,⟨.sc,1,4,[.sc (.int .i32 0)]⟩),
 (22,⟨.slice 3,1,24,[.nil 1]⟩),
 (23,⟨.struct [(0,3),(1,22),(2,22)],3,56,[.sc (.int .i64 0),.nil 1,.nil 1]⟩),
 (24,⟨.struct [(0,3),(1,22),(2,22)],3,56,[.sc (.int .i64 0),.nil 1,.nil 1]⟩),
 (25,⟨.sc,1,8,[.sc .nilFunc]⟩),
 (26,⟨.sc,1,8,[.sc .nilFunc]⟩),
 (27,⟨.struct [(0,3),(1,22),(2,22)],3,56,[.sc (.int .i64 0),.nil 1,.nil 1]⟩),
 (28,⟨.sc,1,8,[.sc .nilFunc]⟩),
 (29,⟨.sc,1,8,[.sc .nilFunc]⟩),
 (30,⟨.sc,1,8,[.sc .nilFunc]⟩),
 (31,⟨.sc,1,8,[.sc .nilFunc]⟩),
 (32,⟨.sc,1,8,[.sc .nilFunc]⟩),
 (33,⟨.sc,1,8,[.sc .nilFunc]⟩),
 (34,⟨.sc,1,8,[.sc .nilFunc]⟩),
 (35,⟨.sc,1,8,[.sc .nilFunc]⟩),
 (36,⟨.sc,1,8,[.sc .nilFunc]⟩),
 (37,⟨.sc,1,8,[.sc .nilFunc]⟩),
 (38,⟨.sc,1,8,[.sc .nilFunc]⟩),
 (39,⟨.slice 9,1,24,[.nil 1]⟩),
 (40,⟨.sc,1,8,[.sc .nilFunc]⟩),
 (41,⟨.sc,1,8,[.sc .nilFunc]⟩),
 (42,⟨.sc,1,8,[.sc .nilFunc]⟩),
 (43,⟨.sc,1,8,[.sc .nilFunc]⟩),
 (44,⟨.slice 22,1,24,[.nil 1]⟩),
 (45,⟨.sc,1,8,[.sc .nilFunc]⟩),
 (46,⟨.sc,1,8,[.sc .nilFunc]⟩),
 (47,⟨.sc,1,8,[.sc .nilFunc]⟩),
 (49,⟨.sc,1,8,[.sc .nilFunc]⟩),
 (50,⟨.sc,1,8,[.sc .nilFunc]⟩),
 (51,⟨.sc,1,8,[.sc .nilFunc]⟩),
 (52,⟨.array 2 3,2,16,[.sc (.int .i64 0),.sc (.int .i64 0)]⟩),
 (53,⟨.slice 52,1,24,[.nil 2]⟩),
 (55,⟨.slice 5,1,24,[.nil 1]⟩),
 (58,⟨.sc,1,8,[.sc .nilFunc]⟩),
 (62,⟨.sc,1,8,[.sc .nilFunc]⟩),
 (63,⟨.sc,1,8,[.sc .nilFunc]⟩),
 (64,⟨.sc,1,8,[.sc .nilFunc]⟩),
 (65,⟨.sc,1,8,[.sc .nilFunc]⟩),
 (66,⟨.sc,1,8,[.sc .nilFunc]⟩),
 (67,⟨.sc,1,8,[.sc .nilFunc]⟩),
 (69,⟨.sc,1,8,[.sc .nilFunc]⟩),
 (70,⟨.sc,1,8,[.sc .nilFunc]⟩),
 (72,⟨.sc,1,8,[.sc .nilFunc]⟩),
 (73,⟨.sc,1,8,[.sc .nilFunc]⟩),
 (74,⟨.sc,1,8,[.sc .nilFunc]⟩),
 (75,⟨.array 24 5,24,24,[.sc (.int .u8 0),.sc (.int .u8 0),.sc (.int .u8 0),.sc (.int .u8 0),.sc (.int .u8 0),.sc (.int .u8 0),.sc (.int .u8 0),.sc (.int .u8 0),.sc (.int .u8 0),.sc (.int .u8 0),.sc (.int .u8 0),.sc (.int .u8 0),.sc (.int .u8 0),.sc (.int .u8 0),.sc (.int .u8 0),.sc (.int .u8 0),.sc (.int .u8 0),.sc (.int .u8 0),.sc (.int .u8 0),.sc (.int .u8 0),.sc (.int .u8 0),.sc (.int .u8 0),.sc (.int .u8 0),.sc (.int .u8 0)]⟩),
 (76,⟨.sc,1,8,[.sc (.int .u64 0)]⟩),
 (77,⟨.sc,1,8,[.sc .nilFunc]⟩),
 (78,⟨.sc,1,8,[.sc .nilFunc]⟩),
 (80,⟨.sc,1,8,[.sc .nilFunc]⟩),
 (81,⟨.sc,1,8,[.sc .nilFunc]⟩),
 (82,⟨.sc,1,8,[.sc .nilFunc]⟩),
 (83,⟨.array 20 76,20,160,[.sc (.int .u64 0),.sc (.int .u64 0),.sc (.int .u64 0),.sc (.int .u64 0),.sc (.int .u64 0),.sc (.int .u64 0),.sc (.int .u64 0),.sc (.int .u64 0),.sc (.int .u64 0),.sc (.int .u64 0),.sc (.int .u64 0),.sc (.int .u64 0),.sc (.int .u64 0),.sc (.int .u64 0),.sc (.int .u64 0),.sc (.int .u64 0),.sc (.int .u64 0),.sc (.int .u64 0),.sc (.int .u64 0),.sc (.int .u64 0)]⟩),
 (84,⟨.sc,1,4,[.sc (.int .u32 0)]⟩),
 (86,⟨.sc,1,8,[.sc (.int .u64 0)]⟩),
 (87,⟨.sc,1,8,[.sc .nilFunc]⟩),
 (88,⟨.sc,1,8,[.sc .nilFunc]⟩),
 (89,⟨.array 32 5,32,32,[.sc (.int .u8 0),.sc (.int .u8 0),.sc (.int .u8 0),.sc (.int .u8 0),.sc (.int .u8 0),.sc (.int .u8 0),.sc (.int .u8 0),.sc (.int .u8 0),.sc (.int .u8 0),.sc (.int .u8 0),.sc (.int .u8 0),.sc (.int .u8 0),.sc (.int .u8 0),.sc (.int .u8 0),.sc (.int .u8 0),.sc (.int .u8 0),.sc (.int .u8 0),.sc (.int .u8 0),.sc (.int .u8 0),.sc (.int .u8 0),.sc (.int .u8 0),.sc (.int .u8 0),.sc (.int .u8 0),.sc (.int .u8 0),.sc (.int .u8 0),.sc (.int .u8 0),.sc (.int .u8 0),.sc (.int .u8 0),.sc (.int .u8 0),.sc (.int .u8 0),.sc (.int .u8 0),.sc (.int .u8 0)]⟩),
 (90,⟨.array 64 5,64,64,[.sc (.int .u8 0),.sc (.int .u8 0),.sc (.int .u8 0),.sc (.int .u8 0),.sc (.int .u8 0),.sc (.int .u8 0),.sc (.int .u8 0),.sc (.int .u8 0),.sc (.int .u8 0),.sc (.int .u8 0),.sc (.int .u8 0),.sc (.int .u8 0),.sc (.int .u8 0),.sc (.int .u8 0),.sc (.int .u8 0),.sc (.int .u8 0),.sc (.int .u8 0),.sc (.int .u8 0),.sc (.int .u8 0),.sc (.int .u8 0),.sc (.int .u8 0),.sc (.int .u8 0),.sc (.int .u8 0),.sc (.int .u8 0),.sc (.int .u8 0),.sc (.int .u8 0),.sc (.int .u8 0),.sc (.int .u8 0),.sc (.int .u8 0),.sc (.int .u8 0),.sc (.int .u8 0),.sc (.int .u8 0),.sc (.int .u8 0),.sc (.int .u8 0),.sc (.int .u8 0),.sc (.int .u8 0),.sc (.int .u8 0),.sc (.int .u8 0),.sc (.int .u8 0),.sc (.int .u8 0),.sc (.int .u8 0),.sc (.int .u8 0),.sc (.int .u8 0),.sc (.int .u8 0),.sc (.int .u8 0),.sc (.int .u8 0),.sc (.int .u8 0),.sc (.int .u8 0),.sc (.int .u8 0),.sc (.int .u8 0),.sc (.int .u8 0),.sc (.int .u8 0),.sc (.int .u8 0),.sc (.int .u8 0),.sc (.int .u8 0),.sc (.int .u8 0),.sc (.int .u8 0),.sc (.int .u8 0),.sc (.int .u8 0),.sc (.int .u8 0),.sc (.int .u8 0),.sc (.int .u8 0),.sc (.int .u8 0),.sc (.int .u8 0)]⟩),
 (96,⟨.sc,1,8,[.sc .nilFunc]⟩),
 (97,⟨.sc,1,1,[.sc (.int .u8 0)]⟩),
 (98,⟨.sc,1,1,[.sc (.int .u8 0)]⟩),
 (99,⟨.sc,1,8,[.sc .nilFunc]⟩),
 (100,⟨.sc,1,4,[.sc (.int .i32 0)]⟩),
 (101,⟨.sc,1,4,[.sc (.int .i32 0)]⟩)]
set_option maxRecDepth 100000 in
theorem aR:TyOk Tryd.prog TT:=aAY (by kernel_rfl)
end
noncomputable section
theorem ob {α β:Type} {o:Option α} {k:α→Option β} {r:β} (h:o.bind k=some r): ∃ a,o=some a∧k a=some r:=by
 cases o with
 |none=>cases h
 |some a=>exact ⟨a,rfl,h⟩
theorem cb {α:Type} {c:Bool} {A B:Option α} {r:α} (h:cond c A B=some r):(c=true∧A=some r)∨(c=false∧B=some r):=by
 cases c
 ·exact .inr ⟨rfl,h⟩
 ·exact .inl ⟨rfl,h⟩
theorem cg {α:Type} {c:Bool} {A:Option α} {r:α} (h:cond c A none=some r):c=true∧A=some r:=by
 cases c
 ·cases h
 ·exact ⟨rfl,h⟩
theorem so {α:Type} {x r:α} (h:some x=some r):x=r:=Option.some.inj h
def cR {α:Type} (l:List α) (i:Int):Option α:=bif decide (0≤i) then l[i.toNat]? else none
theorem dR {α:Type} {l:List α} {i:Int} {v:α} (h:cR l i=some v):l[i.toNat]? =some v:=(cg h).2
theorem wD {α:Type} {l:List α} {i:Int} {v:α} (h:cR l i=some v):0≤i:=of_decide_eq_true (cg h).1
theorem jN {α:Type} {l:List α} {i:Int} {v:α} (h:cR l i=some v):i.toNat<l.length:=by
 rcases dJ i.toNat l.length with h'|h'
 ·exact h'
 ·have:=dR h;rw [fK h'] at this;cases this
theorem aDN {α β:Type} {f:α→β} {l:List α} {i:Int} {v:α} (h:cR l i=some v):(l.map f)[i.toNat]? =some (f v):=by rw [List.getElem?_map,dR h];rfl
theorem jH {α:Type} {l:List α} {n:Nat} (h:n<l.length):cR l (n:Int)=some l[n]:=by simp [cR,h]
def wr (x:Int):Int:=IntKind.i64.wrap x
theorem aDh {x:Int} (h: -9223372036854775808≤x∧x≤9223372036854775807):wr x=x:=by unfold wr;rw [IntKind.wrap_i64];omega
def LpN {σ ρ:Type} (body:σ→Option (σ ⊕ ρ)):Nat→σ→ρ→Prop
 |0,s,r=>body s=some (.inr r)
 |n+1,s,r=> ∃ s',body s=some (.inl s')∧LpN body n s' r
theorem LpN.det {σ ρ:Type} {body:σ→Option (σ ⊕ ρ)} : ∀ {n m:Nat} {s:σ} {r r':ρ},LpN body n s r→LpN body m s r'→r=r'
 |0,0,s,r,r',h,k=>by rw [LpN] at h k;rw [h] at k;cases k;rfl
 |0,m+1,s,r,r',h,⟨s',k,_⟩=>by rw [LpN] at h;rw [h] at k;cases k
 |n+1,0,s,r,r',⟨s',h,_⟩,k=>by rw [LpN] at k;rw [h] at k;cases k
 |n+1,m+1,s,r,r',⟨s',h,h2⟩,⟨s'',k,k2⟩=>by rw [h] at k;cases k;exact LpN.det h2 k2
open Classical in
def Lp {σ ρ:Type} (body:σ→Option (σ ⊕ ρ)) (s:σ):Option ρ:=if h: ∃ r n,LpN body n s r then some h.choose else none
theorem rK {σ ρ:Type} {body:σ→Option (σ ⊕ ρ)} {s:σ} {r:ρ} :Lp body s=some r↔ ∃ n,LpN body n s r:=by
 unfold Lp;split
 ·rename_i h;obtain ⟨n,hn⟩:=h.choose_spec;constructor
  ·intro e;cases e;exact ⟨n,hn⟩
  ·rintro ⟨m,hm⟩;rw [hn.det hm]
 ·rename_i h;constructor
  ·intro e;cases e
  ·rintro ⟨m,hm⟩;exact absurd ⟨r,m,hm⟩ h
theorem cZ {σ ρ:Type} {body:σ→Option (σ ⊕ ρ)} {s:σ} {r:ρ} (h:body s=some (.inr r)):Lp body s=some r:=rK.2 ⟨0,h⟩
theorem dS {σ ρ:Type} {body:σ→Option (σ ⊕ ρ)} {s s':σ} (h:body s=some (.inl s')):Lp body s=Lp body s':=by
 apply Option.ext;intro r;rw [rK,rK];constructor
 ·rintro ⟨n,hn⟩;cases n with
  |zero=>rw [LpN] at hn;rw [h] at hn;cases hn
  |succ n=>obtain ⟨s'',h1,h2⟩:=hn;rw [h] at h1;cases h1;exact ⟨n,h2⟩
 ·rintro ⟨n,hn⟩;exact ⟨n+1,s',h,hn⟩
theorem aCK {σ ρ:Type} {body:σ→Option (σ ⊕ ρ)} {s:σ} {r:ρ} (I:Nat→σ) (N:Nat) (h0:s=I 0) (hs: ∀ k,k<N→body (I k)=some (.inl (I (k+1)))) (hr:body (I N)=some (.inr r)):Lp body s=some r:=by
 subst h0
 have key: ∀ d k,k+d=N→Lp body (I k)=some r:=by
  intro d;induction d with
  |zero=>intro k hk;rw [Nat.add_zero] at hk;subst hk;exact cZ hr
  |succ d ih=>intro k hk;rw [dS (hs k (by omega))];exact ih (k+1) (by omega)
 exact key N 0 (by omega)
section
variable {P:Program} {nt:Nat} {s:AState} {Q:Exit→AState→Prop}
theorem cJ {c:Code} {σ ρ:Type} {body:σ→Option (σ ⊕ ρ)} {x0:σ} {r0:ρ} (h:Lp body x0=some r0) (S:σ→AState) (X:ρ→Exit→AState→Prop) (e0:Ent s (S x0))
  (round: ∀ x o,body x=some o→AC P nt c (S x) (kM (λt=> ∃ x',o= .inl x'∧Ent t (S x')) (λe t=> ∃ r,o= .inr r∧X r e t))) (hX: ∀ e t,X r0 e t→Q e t):AC P nt (.loop c) s Q:=by
 obtain ⟨n,hn⟩:=rK.1 h;refine aDI (ι:=σ×Nat) (λp=>S p.1) (λp=>LpN body p.2 p.1 r0) (λp=>p.2) (x0,n) hn e0 ?_;rintro ⟨x,m⟩ hm;cases m with
 |zero=>
  refine aAa (round x _ hm) λe t hq=>?_;cases e <;> simp only [kM] at hq ⊢
  ·obtain ⟨x',h1,_⟩:=hq;cases h1
  all_goals (obtain ⟨r,h1,h2⟩:=hq;cases h1;exact hX _ _ h2)
 |succ m=>
  obtain ⟨x',h1,h2⟩:=hm;refine aAa (round x _ h1) λe t hq=>?_;cases e <;> simp only [kM] at hq ⊢
  ·obtain ⟨x'',h3,h4⟩:=hq;cases h3;exact ⟨(x',m),h2,Nat.lt_succ_self _,h4⟩
  all_goals (obtain ⟨r,h3,_⟩:=hq;cases h3)
theorem xX {c:Operand} {x y:Code} {t:Bool} (hc:s.ev c=some (.sc (.bool t))) (q:t=true) (h:AC P nt x s Q):AC P nt (.cond c x y) s Q:=aAZ hc (λ_=>h) (λe=>by rw [q] at e;cases e)
theorem eG {c:Operand} {x y:Code} {t:Bool} (hc:s.ev c=some (.sc (.bool t))) (q:t=false) (h:AC P nt y s Q):AC P nt (.cond c x y) s Q:=aAZ hc (λe=>by rw [q] at e;cases e) (λ_=>h)
theorem aCL {i:Nat} {v:AV} {e:Nat→Option AV} (h:e i=some v):vQ (some i) v e=e:=by
 funext t;simp only [vQ];cases hb:Nat.beq t i with
 |false=>rfl
 |true=>rw [Nat.eq_of_beq_eq_true hb,h];rfl
theorem aO {ops:Array Oper} {r:List Oper} {tr:List Tr} {K:List Tr→AState→Prop} {t u:Bool} (i:Nat) (hi:s.env i=some (.sc (.bool t))) (q:t=u) (h:AOps P ops nt r ⟨vQ (some i) (.sc (.bool u)) s.env,s.heap,s.used,s.ns,s.kp⟩ tr K):AOps P ops nt r s tr K:=by
 subst q;rw [aCL hi] at h;exact h
end
def gU:AV→Bool
 | .sc v=>v.oneCell'
 | .list _ _=>true
 |_=>false
structure EOk {α:Type} (k:Nat) (e:α→List AV):Prop where
 len: ∀ x,(e x).length=k
 cell: ∀ x,(e x).all gU=true
def ow {α:Type} (e:α→List AV) (x:α):List AV:=(e x).map jB
theorem pA {α:Type} (e:α→List AV) (l:List α):cU (l.map e)=l.map (ow e):=by
 unfold cU;rw [List.map_map];rfl
section
variable {α:Type} {k:Nat} {e:α→List AV}
theorem zS {c:AV} (h:gU c=true):view0 (jB c) c:=by cases c <;> simp only [gU,fE] at h <;> simp [jB,view0]
theorem aBO {c:AV} (h:gU c=true):qU (jB c) c:=by cases c <;> simp only [gU,fE] at h <;> simp [jB,qU]
theorem xY {c:AV} (h:gU c=true) (hp:Hp):okCell hp c=true:=by cases c <;> simp only [gU,fE] at h <;> rfl
theorem xZ {c:AV} (h:gU c=true):cE c=true∧ ∀ ds,c≠ .ref ds:=by cases c <;> simp only [gU,fE] at h <;> exact ⟨rfl,λ_ e=>by cases e⟩
theorem zT {c:AV} (h:gU c=true):jA c=true∧jA (jB c)=true:=by cases c <;> simp only [gU,fE] at h <;> exact ⟨rfl,rfl⟩
theorem pB {R:AV→AV→Prop} {f g:AV→AV} : ∀ {cs:List AV},(∀ c∈cs,R (f c) (g c))→All2 R (cs.map f) (cs.map g)
 | [],_=>rfl
 |c::cs,h=>⟨g c,_,rfl,h c (by simp),pB λd hd=>h d (by simp [hd])⟩
theorem nA {β:Type} {R:List AV→List AV→Prop} {f g:β→List AV} : ∀ {l:List β},(∀ x,R (f x) (g x))→All2 R (l.map f) (l.map g)
 | [],_=>rfl
 |x::l,h=>⟨g x,_,rfl,h x,nA h⟩
theorem EOk.mem (E:EOk k e) (x:α): ∀ c∈e x,gU c=true:=List.all_eq_true.1 (E.cell x)
theorem EOk.view (E:EOk k e) (x:α):All2 view0 (ow e x) (e x):=by have:=pB (R:=view0) (f:=jB) (g:=id) (λc hc=>zS (E.mem x c hc));simpa [ow] using this
theorem EOk.frz (E:EOk k e) (x:α):All2 qU (ow e x) (e x):=by have:=pB (R:=qU) (f:=jB) (g:=id) (λc hc=>aBO (E.mem x c hc));simpa [ow] using this
theorem EOk.views (E:EOk k e) (l:List α):All2 (All2 view0) (l.map (ow e)) (l.map e):=nA E.view
theorem EOk.frzs (E:EOk k e) (l:List α):All2 (All2 qU) (l.map (ow e)) (l.map e):=nA E.frz
theorem EOk.good (E:EOk k e) (l:List α):aCC (l.map e):=by
 intro cs hcs c hc;obtain ⟨x,_,rfl⟩:=List.mem_map.1 hcs;exact xZ (E.mem x c hc)
theorem EOk.plainO (E:EOk k e) (l:List α):mV (l.map (ow e)):=by
 intro cs hcs c hc;obtain ⟨x,_,rfl⟩:=List.mem_map.1 hcs;obtain ⟨d,hd,rfl⟩:=List.mem_map.1 hc;exact (zT (E.mem x d hd)).2
theorem EOk.okE (E:EOk k e) (hp:Hp) (l:List α):(l.map e).flatten.all (okCell hp)=true:=by
 rw [List.all_eq_true];intro c hc;obtain ⟨cs,hcs,hc⟩:=List.mem_flatten.1 hc;obtain ⟨x,_,rfl⟩:=List.mem_map.1 hcs;exact xY (E.mem x c hc) hp
theorem pS: ∀ {cs:List AV},(∀ c∈cs,gU c=true)→bG cs=[]
 | [],_=>rfl
 |c::cs,h=>by
  have h1:=h c (by simp);have h2:=pS (cs:=cs) (λd hd=>h d (by simp [hd]));cases c <;> simp only [gU,fE] at h1 <;> exact h2
theorem EOk.namesE (E:EOk k e) (l:List α):bG (l.map e).flatten=[]:=by
 refine pS λc hc=>?_;obtain ⟨cs,hcs,hc⟩:=List.mem_flatten.1 hc;obtain ⟨x,_,rfl⟩:=List.mem_map.1 hcs;exact E.mem x c hc
end
end
noncomputable section
def pJ (n lo hi:Int):Bool:=decide (lo≤n∧n≤hi)
theorem kP {n lo hi:Int} (h:pJ n lo hi=true):lo≤n∧n≤hi:=by simpa [pJ] using h
theorem aDx {n lo hi:Int} (h1:lo≤n) (h2:n≤hi):pJ n lo hi=true:=by simp [pJ,h1,h2]
def isF (p:Int):Bool:=decide (p=2∨p=3∨p=5)
theorem aCM {p:Int} (h:isF p=true):p=2∨p=3∨p=5:=by simpa [isF] using h
theorem aDy {p:Int} (h:isF p=true):2≤p∧p≤5:=by have:=aCM h;omega
theorem eT {x:Int} (h: -4611686018427387904≤x∧x≤4611686018427387904):wr x=x:=aDh (by omega)
theorem cF {k n:Nat} (hk:k<n) (hn:n≤4611686018427387904):wr ((k:Int)+1)=((k+1:Nat):Int):=by rw [eT (by omega)];omega
theorem atG {α:Type} {l:List α} {k:Nat} (d:α) (h:k<l.length):cR l (k:Int)=some (l[k]?.getD d):=by rw [jH h];simp [h]
theorem mE {k n:Nat} (h:k<n):decide ((k:Int)<(n:Int))=true:=aS (by omega)
theorem lW {k n:Nat} (h:n≤k):decide ((k:Int)<(n:Int))=false:=bX (by omega)
theorem vB {β:Type} {body:Int→Option (Int ⊕ (Unit ⊕ β))} {s0:Int} {s n:Nat} (f:Nat→Option β) (hs0:s0=(s:Int)) (hn:n≤4611686018427387904) (hsn:s≤n) (hs: ∀ k:Nat,s≤k→k<n→body k=some (match f k with|none=> .inl (wr (k+1))|some b=> .inr (.inr b)))
  (he:True→body n=some (.inr (.inl ()))):Lp body s0=some (match (List.range' s (n - s)).findSome? f with|none=> .inl ()|some b=> .inr b):=by
 have key: ∀ d k:Nat,s≤k→k+d=n→Lp body k=some (match (List.range' k d).findSome? f with|none=> .inl ()|some b=> .inr b):=by
  intro d;induction d with
  |zero=>intro k _ hk;rw [Nat.add_zero] at hk;subst hk;exact cZ (he trivial)
  |succ d ih=>
   intro k h1 hk;have h:=hs k h1 (by omega);rw [List.range'_succ,List.findSome?_cons];cases hf:f k with
   |none=>rw [hf] at h;rw [dS h,cF (n:=n) (by omega) hn];exact ih (k+1) (by omega) (by omega)
   |some b=>rw [hf] at h;exact cZ h
 subst hs0;exact key (n - s) s (bU _) (by omega)
theorem gV {σ ρ:Type} {body:σ→Option (σ ⊕ ρ)} {s:σ} {r:ρ} (I:Nat→σ) (N:Nat) (h0:s=I 0) (hs: ∀ k,k<N→body (I k)=some (.inl (I (k+1)))) (hr:True→body (I N)=some (.inr r)):Lp body s=some r:=aCK I N h0 hs (hr trivial)
theorem wF {β:Type} {body:Int→Option (Int ⊕ (Unit ⊕ β))} {n:Nat} (P:Nat→Bool) (b:β) (hn:n≤4611686018427387904) (hs: ∀ k:Nat,k<n→body k=some (bif P k then .inl (wr (k+1)) else .inr (.inr b)))
  (he:True→body n=some (.inr (.inl ()))):Lp body 0=some (bif (List.range n).all P then .inl () else .inr b):=by
 have key: ∀ d k:Nat,k+d=n→Lp body k=some (bif (List.range' k d).all P then .inl () else .inr b):=by
  intro d;induction d with
  |zero=>intro k hk;rw [Nat.add_zero] at hk;subst hk;exact cZ (he trivial)
  |succ d ih=>
   intro k hk;have h:=hs k (by omega);rw [List.range'_succ,List.all_cons];cases hf:P k with
   |true=>rw [hf] at h;rw [dS h,cF (n:=n) (by omega) hn];exact ih (k+1) (by omega)
   |false=>rw [hf] at h;exact cZ h
 have:=key n 0 (by omega)
 rwa [List.range_eq_range']
theorem aDz {β:Type} {body:Int→Option (Int ⊕ (Unit ⊕ β))} {n:Nat} (P:Nat→Bool) (b:β) (hn:n≤4611686018427387904) (hs: ∀ k:Nat,k<n→body k=some (bif P k then .inr (.inr b) else .inl (wr (k+1))))
  (he:True→body n=some (.inr (.inl ()))):Lp body 0=some (bif (List.range n).any P then .inr b else .inl ()):=by
 rw [wF (λk=> !P k) b hn (λk hk=>by rw [hs k hk];cases P k <;> rfl) he,←List.not_any_eq_all_not];cases (List.range n).any P <;> rfl
theorem vC {α:Type} (d:α) (l:List α) (P:α→Bool):(List.range l.length).all (λk=>P (l[k]?.getD d))=l.all P:=by
 rw [Bool.eq_iff_iff,List.all_eq_true,List.all_eq_true];constructor
 ·intro h x hx;obtain ⟨k,hk,rfl⟩:=List.mem_iff_getElem.1 hx;have:=h k (List.mem_range.2 hk);simpa [hk] using this
 ·intro h k hk;have hk:=List.mem_range.1 hk;simp only [nN hk,jR];exact h _ (List.getElem_mem hk)
theorem nB {n:Nat} {P:Nat→Bool} :(List.range n).all P=true↔ ∀ k,k<n→P k=true:=by simp [List.all_eq_true]
def aCO (r c:Nat) (F:Nat→Nat→Int):List Int:=(List.range (r*c)).map λt=>F (t / c) (t % c)
theorem aCP (r c:Nat) (F:Nat→Nat→Int):(aCO r c F).length=r*c:=by simp [aCO]
theorem aEV {r c i j:Nat} (hi:i<r) (hj:j<c):i*c+j<r*c:=by
 have:=Nat.mul_le_mul_right c (Nat.succ_le_of_lt hi);rw [Nat.succ_mul] at this;omega
theorem aDO {r c:Nat} {l:List Int} (h:l.length=r*c):l=aCO r c (λi j=>l[i*c+j]?.getD 0):=by
 refine List.ext_getElem (by rw [aCP,h]) λt h1 h2=>?_;simp only [aCO,List.getElem_map,List.getElem_range];have e:t / c*c+t % c=t:=by rw [Nat.mul_comm];exact Nat.div_add_mod t c
 rw [e];simp [h1]
theorem aFE {i c:Nat} (h:i*c≤4611686018427387904):wr ((i:Int)*(c:Int))=((i*c:Nat):Int):=by
 have e:(i:Int)*(c:Int)=((i*c:Nat):Int):=by simp
 rw [e,eT (by omega)]
def aCQ (l:List (List Int)):Nat→Nat→Int:=λi j=>(l[i]?.getD [])[j]?.getD 0
end
noncomputable section
theorem AEff.conv {P:Program} {o:Oper} {ins:Operand→Option AV} {hp:Hp} {κ:Kp} {v v':AV} {tc:List Nat} {ed ed':List (Nat×Option Blk)} {n:List Nat} (h:AEff P o ins hp κ ⟨v,tc,ed,n⟩) (hv:v=v') (he:ed=ed'):AEff P o ins hp κ ⟨v',tc,ed',n⟩:=by subst hv;subst he;exact h
theorem AEff.val {P:Program} {o:Oper} {ins:Operand→Option AV} {hp:Hp} {κ:Kp} {v v':AV} {tc:List Nat} {ed:List (Nat×Option Blk)} {n:List Nat} (h:AEff P o ins hp κ ⟨v,tc,ed,n⟩) (hv:v=v'):AEff P o ins hp κ ⟨v',tc,ed,n⟩:=by subst hv;exact h
section
variable {P:Program} {T:List (Nat×Ty)} (hT:TyOk P T) {dst:Option Tmp} {ty:TypeId} {pos:String} {aft:Array Edge} {g:Option (Nat×Bool)} {s:AState}
theorem bJ {t t':TypeId} {x y:Operand} {a b:Int} (hx:s.ev x=some (.int a)) (hy:s.ev y=some (.int b)):AEff P ⟨dst,.binOp .add t x y t',ty,pos,aft,g⟩ s.ev s.heap s.kp ⟨.int (wr (a+b)),[],[],[]⟩:=
 iG hx hy rfl λw=>by simp [eqGuard,binOp,Op.intArith,wr]
theorem iQ {t t':TypeId} {x y:Operand} {a b:Int} (hx:s.ev x=some (.int a)) (hy:s.ev y=some (.int b)):AEff P ⟨dst,.binOp .sub t x y t',ty,pos,aft,g⟩ s.ev s.heap s.kp ⟨.int (wr (a - b)),[],[],[]⟩:=
 iG hx hy rfl λw=>by simp [eqGuard,binOp,Op.intArith,wr]
theorem aAi {t t':TypeId} {x y:Operand} {a b:Int} (hx:s.ev x=some (.int a)) (hy:s.ev y=some (.int b)):AEff P ⟨dst,.binOp .mul t x y t',ty,pos,aft,g⟩ s.ev s.heap s.kp ⟨.int (wr (a*b)),[],[],[]⟩:=
 iG hx hy rfl λw=>by simp [eqGuard,binOp,Op.intArith,wr]
theorem aCR {t:TypeId} {x:Operand} {a:Int} (hx:s.ev x=some (.int a)):AEff P ⟨dst,.unOp .neg t x,ty,pos,aft,g⟩ s.ev s.heap s.kp ⟨.int (wr (-a)),[],[],[]⟩:=
 aBo hx rfl λw=>by simp [Op.unary,Op.intArith,wr]
theorem aDi {t t':TypeId} {x y:Operand} {a b:Int} (hx:s.ev x=some (.int a)) (hy:s.ev y=some (.int b)) (h:(!decide (b=0))=true):AEff P ⟨dst,.binOp .quo t x y t',ty,pos,aft,g⟩ s.ev s.heap s.kp ⟨.int (wr (a.tdiv b)),[],[],[]⟩:=
 iG hx hy rfl λw=>by
  have h':b≠0:=by simpa using h
  simp [eqGuard,binOp,Op.intDiv,h',wr]
theorem aEW {t t':TypeId} {x y:Operand} {a b:Int} (hx:s.ev x=some (.int a)) (hy:s.ev y=some (.int b)) (h:(!decide (b=0))=true):AEff P ⟨dst,.binOp .rem t x y t',ty,pos,aft,g⟩ s.ev s.heap s.kp ⟨.int (a.tmod b),[],[],[]⟩:=
 iG hx hy rfl λw=>by
  have h':b≠0:=by simpa using h
  simp [eqGuard,binOp,Op.intDiv,h']
variable {α:Type} {k:Nat} {e:α→List AV}
include hT
theorem aBP {x ix:Operand} {t et:Nat} {y ye:Ty} {l:List α} {kk:IntKind} {i:Int} {v:α} (hm:cR l i=some v) (hx:s.ev x=some (.list k (l.map e))) (hix:s.ev ix=some (.sc (.int kk i))) (hy:bV T t=some y) (hd:y.desc= .slice et) (hye:bV T et=some ye) (hk:ye.size=k):
  AEff P ⟨dst,.indexAddr t x ix,ty,pos,aft,g⟩ s.ev s.heap s.kp ⟨.ref (e v),[],[],[]⟩:=aBN hT hy hd hye hk hx hix (wD hm) (aDN hm)
theorem yA {x ix:Operand} {t et:Nat} {y ye:Ty} {b n kz:Nat} {es:List (List AV)} {kk:IntKind} {i:Int} (h0:0≤i) (hn:i.toNat<n) (hx:s.ev x=some (.own b 0 n)) (hb:s.heap b=some ⟨kz,es⟩) (hix:s.ev ix=some (.sc (.int kk i))) (hy:bV T t=some y) (hd:y.desc= .slice et) (hye:bV T et=some ye) (hk:ye.size=kz):
  AEff P ⟨dst,.indexAddr t x ix,ty,pos,aft,g⟩ s.ev s.heap s.kp ⟨.ptr b i.toNat 0,[b],[],[]⟩:=by
 have:=aCG (P:=P) hT (dst:=dst) (ty:=ty) (pos:=pos) (aft:=aft) (g:=g) hy hd hye hx hb hk hix h0 (by omega);rw [Nat.zero_add] at this;exact this
omit hT in
theorem yB: ∀ {cs vs:List AV},cs.length=vs.length→mD cs 0 vs=vs
 | [],[],_=>rfl
 |c::cs,v::vs,h=>by simp only [mD];rw [yB (by simpa using h)]
theorem jI {t:TypeId} {y:Ty} {x z:Operand} {val:AV} {b i:Nat} {l:List α} {v u:α} (E:EOk k e) (hm:l[i]? =some v) (hc:bH val=e u) (hx:s.ev x=some (.ptr b i 0)) (hb:s.heap b=some ⟨k,l.map e⟩) (hz:s.ev z=some val) (hy:bV T t=some y) (hk:y.size=k):
  AEff P ⟨dst,.store t x z,ty,pos,aft,g⟩ s.ev s.heap s.kp ⟨.dead,[b],[(b,some ⟨k,(l.set i u).map e⟩)],[]⟩:=by
 have h1:=wB (P:=P) hT (dst:=dst) (ty:=ty) (pos:=pos) (aft:=aft) (g:=g) hx hb hz hy (by rw [hc,E.len,hk];simp) (by rw [hc,List.all_eq_true];exact λc h=>xY (E.mem u c h) _) (cs:=e v) (by rw [List.getElem?_map,hm];rfl) (by rw [E.len,hk,Nat.zero_add];simp);rw [hc,pS (E.mem u),yB (by rw [E.len,E.len]),←List.map_set] at h1;exact h1
theorem iR {x z:Operand} {t et:Nat} {y ye:Ty} {b b' n:Nat} {l m:List α} {sv:AV} {ts:List Nat} {dty:TypeId} (E:EOk k e) (hf:decide (l.length+m.length≤4294967296)=true) (hns:s.ns.head?=some b') (hx:s.ev x=some (.own b 0 n)) (hb:s.heap b=some ⟨k,l.map e⟩) (hl:l.length=n) (hz:s.ev z=some sv) (hsrc:pM s.heap sv=some (k,m.map e,ts))
  (hy:bV T t=some y) (hd:y.desc= .slice et) (hye:bV T et=some ye) (hzl:ye.zero.length=ye.size) (hk:ye.size=k) (hby:Nat.ble ye.bytes 32768=true):
  AEff P ⟨dst,.call ⟨.builtin .append,#[x,z],#[t,t]⟩,dty,pos,aft,g⟩ s.ev s.heap s.kp ⟨.own b' 0 (l++m).length,b::ts,[(b,none),(b',some ⟨k,(l++m).map e⟩)],[b']⟩:=by
 have hf:=of_decide_eq_true hf;have hby:=Nat.le_of_ble_eq_true hby
 have h1:=uZ (P:=P) hT (dst:=dst) (pos:=pos) (aft:=aft) (g:=g) (dty:=dty) hns hx hb hz hsrc hy hd hye hzl hk.symm hk.symm (by simpa using hl) (E.okE _ m) (by simp;omega) (by simp only [fD];calc (n+m.length)*ye.bytes≤4294967296*32768:=Nat.mul_le_mul (by omega) hby
                                                                                                                                                               _≤140737488355328:=by decide)
 rw [E.namesE,List.append_nil,hk,fD] at h1;rw [List.length_append,List.map_append,hl];exact h1
omit hT in
theorem aDP {h:Hp} {b n:Nat} {l:List α} (E:EOk k e) (hb:h b=some ⟨k,l.map (ow e)⟩) (hl:l.length=n):view1 h (.own b 0 n) (.list k (l.map e)):=aCI hb rfl (by simp [hl]) (E.views l)
omit hT in
theorem uE {h:Hp} {b n:Nat} {l:List α} (E:EOk k e) (hb:h b=some ⟨k,l.map (ow e)⟩) (hl:l.length=n):viewA h (.own b 0 n) (.list k (l.map e)):=aDP E hb hl
omit hT in
theorem oD {h:Hp} {b n:Nat} {l:List α} (E:EOk k e) (hb:h b=some ⟨k,l.map (ow e)⟩) (hl:l.length=n):oW h (.own b 0 n) (.list k (l.map e)):=⟨rfl,_,hb,by simp [hl],rfl,E.frzs l⟩
end
theorem aEA {h:Hp} :All2 (oW h) [] []:=rfl
theorem wG {h:Hp} {x d:AV} {xs ds:List AV} (a:oW h x d) (b:All2 (oW h) xs ds):All2 (oW h) (x::xs) (d::ds):=⟨d,ds,rfl,a,b⟩
theorem aEB {h:Hp} {cs ds:List AV} (a:All2 (oW h) cs ds):uD h [.agg cs] (.agg ds):=⟨a,by intro _ h;cases h⟩
theorem hJ {h:Hp} {x:AV} {k:Nat} {es:List (List AV)} (a:oW h x (.list k es)):uD h [x] (.list k es):=by
 refine ⟨?_,by intro _ h;cases h⟩;cases x <;> exact a
theorem sO {h:Hp} {x d:AV} (a:oW h x d):sJ h x d:=by
 unfold sJ;split
 ·exact a.elim
 ·exact a
theorem sP {h:Hp} :All2 (sJ h) [] []:=rfl
theorem iW {h:Hp} {x d:AV} {xs ds:List AV} (a:sJ h x d) (b:All2 (sJ h) xs ds):All2 (sJ h) (x::xs) (d::ds):=⟨d,ds,rfl,a,b⟩
theorem mG {h:Hp} {vs rs:List AV} (hl:Nat.beq vs.length 1=false) (a:All2 (sJ h) vs rs):uD h vs (.tuple rs):=by
 have h1:vs.length≠1:=by intro e;rw [e] at hl;cases hl
 cases vs with
 |nil=>exact ⟨h1,a⟩
 |cons v vs=>
  cases vs with
  |nil=>exact absurd rfl h1
  |cons u vs=>exact ⟨h1,a⟩
section
variable {s:AState}
theorem mH {b b' j n k k':Nat} {A es es':List (List AV)} {c:List AV} (hb:s.heap b=some ⟨k,A++[c]⟩) (hj:c[j]? =some (.own b' 0 n)) (hb':s.heap b'=some ⟨k',es⟩) (hne:Nat.beq b b'=false) (hn:es.length=n) (hf:All2 (All2 qU) es es'):
  Ent s ⟨s.env,aQ [(b',none),(b,some ⟨k,A++[mD c j [.abs k' es']]⟩)] s.heap,s.used,s.ns,s.kp⟩:=by
 have h:=qP (i:=A.length) hb (by simp) hj hb' hne hn rfl hf;have e:(A++[c]).set A.length (mD c j [.abs k' es'])=A++[mD c j [.abs k' es']]:=by rw [List.set_append_right _ _ (bU _),Nat.sub_self];rfl
 simp only [e] at h;exact h
theorem sT {b b' i j n k k':Nat} {A es es':List (List AV)} {c:List AV} (hi:i<A.length) (hb:s.heap b=some ⟨k,A.set i c⟩) (hj:c[j]? =some (.own b' 0 n)) (hb':s.heap b'=some ⟨k',es⟩) (hne:Nat.beq b b'=false) (hn:es.length=n) (hf:All2 (All2 qU) es es'):
  Ent s ⟨s.env,aQ [(b',none),(b,some ⟨k,A.set i (mD c j [.abs k' es'])⟩)] s.heap,s.used,s.ns,s.kp⟩:=by
 have h:=qP (i:=i) hb (by simp [hi]) hj hb' hne hn rfl hf;simp only [List.set_set] at h;exact h
end
theorem aZ {α β:Type} (f:α→β) (l:List α):(l.map f).length=l.length:=fD ..
end
noncomputable section
theorem lG:Tryd.prog.follows .mixedOrders=true:=by kernel_rfl
abbrev zU (b:ByteArray):List AV:=[.str b]
def eP {α:Type} (k:Nat) (e:α→List AV) (l:List α):List AV:=[.list k (l.map e)]
theorem kQ:EOk 1 eI:=⟨λ_=>rfl,λ_=>rfl⟩
theorem yC:EOk 1 zU:=⟨λ_=>rfl,λ_=>rfl⟩
theorem bS {α:Type} {k:Nat} {e:α→List AV} :EOk 1 (eP k e):=⟨λ_=>rfl,λ_=>rfl⟩
theorem jO:EOk 1 (ow eI):=⟨λ_=>rfl,λ_=>rfl⟩
theorem zV:EOk 1 (ow zU):=⟨λ_=>rfl,λ_=>rfl⟩
theorem aCS {nb nb':List (Nat×Blk)} {ed:List (Nat×Option Blk)} (h:nb=nb') (e:gE nb'=ed:=by rfl):gE nb=ed:=by rw [h];exact e
theorem vD (σ:Nat→Option Nat) {n:Nat} {cs:List AV} (h:cs.all cE=true):All2 (eR σ n) cs cs:=by
 induction cs with
 |nil=>rfl
 |cons c cs ih=>
  simp only [List.all_cons,bY] at h;refine ⟨c,cs,rfl,?_,ih h.2⟩;cases c <;> simp only [cE,fE,false_and] at h <;> simp [eR]
theorem aBQ {σ:Nat→Option Nat} {n:Nat} {α:Type} {k k':Nat} {e:α→List AV} (m:Nat):All2 (All2 (iS σ n)) (List.replicate m [.nil k']) ((List.replicate m ([]:List α)).map (ow (eP k e))):=by
 induction m with
 |zero=>rfl
 |succ m ih=>exact ⟨_,_,rfl,⟨_,_,rfl,rfl,rfl⟩,ih⟩
theorem wH {α:Type} {e:α→List AV} {z:α} (n:Nat):List.replicate n (ow e z)=(List.replicate n z).map (ow e):=(List.map_replicate ..).symm
section
variable {h:Hp}
theorem zW {k b n:Nat} {es fs:List (List AV)} (hb:h b=some ⟨k,es⟩) (hn:n=es.length) (v:All2 (All2 view0) es fs):view1 h (.own b 0 n) (.list k fs):=aCI hb rfl hn v
theorem aCT {k b n:Nat} {es fs:List (List AV)} (hb:h b=some ⟨k,es⟩) (hn:n=es.length) (v:All2 (All2 view0) es fs):viewA h (.own b 0 n) (.list k fs):=zW hb hn v
theorem aDQ:All2 (viewP h) [] []:=rfl
theorem aAj {x d:AV} {xs ds:List AV} (a:viewP h x d) (b:All2 (viewP h) xs ds):All2 (viewP h) (x::xs) (d::ds):=⟨d,ds,rfl,a,b⟩
theorem aDR {c:AV} (p:cE c=true):viewP h c c:=by cases c <;> simp only [cE,fE] at p <;> simp [viewP,view1,view0]
theorem aCU {b:Nat} {blk:Blk} {c cs:List AV} (hb:h b=some blk) (hi:blk.es[0]? =some c) (v:All2 (view1 h) c cs):viewP h (.ptr b 0 0) (.ref cs):=⟨blk,c,hb,hi,v⟩
theorem aEX {f:FuncId} {cs ds:List AV} (v:All2 (viewP h) cs ds):viewA h (.fn f cs) (.fn f ds):=⟨rfl,v⟩
theorem sU: ∀ {cs:List AV},cs.all cE=true→All2 (viewP h) cs cs
 | [],_=>rfl
 |c::cs,p=>by simp only [List.all_cons,bY] at p;exact ⟨c,cs,rfl,aDR p.1,sU p.2⟩
theorem aEC {f:FuncId} {cs:List AV} (p:cs.all cE=true):viewA h (.fn f cs) (.fn f cs):=⟨rfl,sU p⟩
end
theorem aED:qM (.agg []):=by intro _ h;cases h
theorem wI {c:AV} {cs:List AV} (a:xR c) (b:qM (.agg cs)):qM (.agg (c::cs)):=by
 intro d hd;rcases cP.1 hd with rfl|h
 ·exact a
 ·exact b d h
theorem aEE:uT (.tuple []):=by intro _ h;cases h
theorem aAk {c:AV} {cs:List AV} (a:qM c) (b:uT (.tuple cs)):uT (.tuple (c::cs)):=by
 intro d hd;rcases cP.1 hd with rfl|h
 ·exact a
 ·exact b d h
section
variable {P:Program} {T:List (Nat×Ty)} {dst:Option Tmp} {ty:TypeId} {pos:String} {aft:Array Edge} {g:Option (Nat×Bool)} {s:AState}
theorem sV (hT:TyOk P T) {t e:TypeId} {y ye:Ty} {l c:Operand} {kl kc:IntKind} {n:Int} {b:Nat} (q:(decide (0≤n)&&decide (n≤1048576))=true) (hns:s.ns.head?=some b) (hl:s.ev l=some (.sc (.int kl n))) (hc:s.ev c=some (.sc (.int kc n))) (hy:bV T t=some y) (hd:y.desc= .slice e) (hye:bV T e=some ye) (hz:ye.zero.length=ye.size) (hb:Nat.ble ye.bytes 32768=true):
  AEff P ⟨dst,.makeSlice t l c,ty,pos,aft,g⟩ s.ev s.heap s.kp ⟨.own b 0 n.toNat,[],[(b,some ⟨ye.size,List.replicate n.toNat ye.zero⟩)],[b]⟩:=by
 simp only [bY,lX] at q;refine aDw hT hns hl hc hy hd hye hz q.1 (by omega) ?_;have hb:=Nat.le_of_ble_eq_true hb
 calc n.toNat*ye.bytes≤1048576*32768:=Nat.mul_le_mul (by omega) hb
  _≤140737488355328:=by decide
theorem aDS {fo:Operand} {xs:Array Operand} {ats:Array TypeId} {f:FuncId} {caps avs ds1:List AV} {u:Value} (hcap:caps.all cE=true) (hc:HasC P f (ds1++caps) (.sc u)) (hf:s.ev fo=some (.fn f caps)) (hx:evs s.ev xs.toList=some avs) (hv1:All2 (viewA s.heap) avs ds1):
  AEff P ⟨dst,.call ⟨.value fo,xs,ats⟩,ty,pos,aft,g⟩ s.ev s.heap s.kp ⟨.sc u,avs.flatMap (kF s.heap)++caps.flatMap (iB s.heap),[],[]⟩:=
 sI (ds1:=ds1) (ds2:=caps) (ns:=[]) (nb:=[]) (r:= .sc u) (x:= .sc u) hf hx hc hv1 (sU hcap) trivial (aAg [] u) rfl (by simp)
end
end
noncomputable section
theorem yD: ∀ {l:List AV} {t:Nat},sL l t=l[t]?
 | [],_=>by simp [sL]
 |_::_,0=>by simp [sL]
 |_::r,t+1=>by simpa [sL] using yD (l:=r) (t:=t)
end
noncomputable section
section
variable {P:Program} {T:List (Nat×Ty)} (hT:TyOk P T) {dst:Option Tmp} {ty:TypeId} {pos:String} {aft:Array Edge} {g:Option (Nat×Bool)} {s:AState}
def bnd (s:AState) (d:Nat):Option Operand→Option Int
 |none=>some d
 |some x=>match s.ev x with|some (.sc (.int _ n))=>some n|_=>none
theorem qV {lo hi:Option Value} {len cap:Nat} {l h:Int} (w:World) (hl:(lo=none∧l=0)∨ ∃ k,lo=some (.int k l)) (hh:(hi=none∧h=len)∨ ∃ k,hi=some (.int k h)) (h0:0≤l) (h1:l≤h) (h2:h≤len) (h3:len≤cap):
  (Instr.sliceBounds true len cap lo hi none).run P w= .ok (l.toNat,h.toNat,cap) w:=by
 have eh:(h.toNat:Int)=h:=by omega
 have hhc:0≤h∧h≤(cap:Int):=by omega
 rcases hl with ⟨rfl,rfl⟩|⟨k,rfl⟩ <;> rcases hh with ⟨rfl,rfl⟩|⟨k',rfl⟩ <;> simp [Instr.sliceBounds,Instr.sliceBound,asIntOf,h0,hhc,eh,Int.not_lt.2 h1,h1]
include hT
omit hT in
theorem RepEs.dropT {w:World} {k b:Nat} : ∀ {m o:Nat} {es:List (List AV)} {S:List Nat},RepEs w k b o es S→ ∃ U,RepEs w k b (o+m*k) (es.drop m) U∧ ∀ x∈U,x∈S
 |0,o,es,S,h=>⟨S,by simpa using h,λ_ h=>h⟩
 |m+1,o,[],S,h=>⟨[],by simp [RepEs],by simp⟩
 |m+1,o,c::es,S,h=>by
  simp only [RepEs] at h;obtain ⟨S1,S2,rfl,h2,h3,h4⟩:=h;obtain ⟨U,h5,h6⟩:=h4.dropT (m:=m);exact ⟨U,by rw [List.drop_succ_cons,show o+(m+1)*k=o+k+m*k by rw [Nat.add_mul];omega];exact h5,λx hx=>by simp [h6 x hx]⟩
omit hT in
theorem RepEs.takeT {w:World} {k b:Nat} : ∀ {m o:Nat} {es:List (List AV)} {S:List Nat},RepEs w k b o es S→ ∃ U,RepEs w k b o (es.take m) U∧ ∀ x∈U,x∈S
 |0,o,es,S,h=>⟨[],by simp [RepEs],by simp⟩
 |m+1,o,[],S,h=>⟨[],by simp [RepEs],by simp⟩
 |m+1,o,c::es,S,h=>by
  simp only [RepEs] at h;obtain ⟨S1,S2,rfl,h2,h3,h4⟩:=h;obtain ⟨U,h5,h6⟩:=h4.takeT (m:=m);refine ⟨S1++U,by rw [List.take_succ_cons];simp only [RepEs];exact ⟨S1,U,rfl,h2,h3,h5⟩,λx hx=>?_⟩;rcases cS.1 hx with h|h
  ·simp [h]
  ·simp [h6 x h]
theorem iI {α:Type} {k:Nat} {en:α→List AV} {x:Operand} {lo hi:Option Operand} {t e:Nat} {y ye:Ty} {l0:List α} {l h:Int} (q:(decide (0≤l)&&(decide (l≤h)&&decide (h≤(l0.length:Int))))=true) (hx:s.ev x=some (.list k (l0.map en))) (hlo:bnd s 0 lo=some l) (hhi:bnd s l0.length hi=some h) (hy:bV T t=some y) (hd:y.desc= .slice e) (hye:bV T e=some ye) (hk:ye.size=k):
  AEff P ⟨dst,.slice t x lo hi none,ty,pos,aft,g⟩ s.ev s.heap s.kp ⟨.list k (((l0.drop l.toNat).take (h.toNat - l.toNat)).map en),[],[],[]⟩:=by
 simp only [bY,lX] at q;refine AEff.pure λC s' ν a w hi' ht hs=>?_;have h1:=hs.ev ((hi' x (by simp [Op.operands])).trans hx);simp only [RepA,RepB,Rep1,RepD] at h1;obtain ⟨S,⟨ao,c,h3,h4,h5,h6⟩,h7⟩:=h1;rw [fD] at h3 h4;obtain ⟨i1,z1,d1,y1⟩:=hT.is hy;obtain ⟨i2,z2,d2,y2⟩:=hT.is hye
 have hlo':((lo.map a.eval)=none∧l=0)∨ ∃ k,lo.map a.eval=some (.int k l):=by
  cases lo with
  |none=>simp only [bnd,Option.some.injEq] at hlo;exact .inl ⟨rfl,by omega⟩
  |some z=>
   simp only [bnd] at hlo;split at hlo
   ·rename_i kk m hz;cases hlo;have:=hs.ev ((hi' z (by simp [Op.operands])).trans hz);simp only [RepA,RepB,Rep1] at this;exact .inr ⟨kk,by simp [this.1]⟩
   ·cases hlo
 have hhi':((hi.map a.eval)=none∧h=(l0.length:Nat))∨ ∃ k,hi.map a.eval=some (.int k h):=by
  cases hi with
  |none=>simp only [bnd,Option.some.injEq] at hhi;exact .inl ⟨rfl,by omega⟩
  |some z=>
   simp only [bnd] at hhi;split at hhi
   ·rename_i kk m hz;cases hhi;have:=hs.ev ((hi' z (by simp [Op.operands])).trans hz);simp only [RepA,RepB,Rep1] at this;exact .inr ⟨kk,by simp [this.1]⟩
   ·cases hhi
 have hsb:=qV (P:=P) (len:=l0.length) (cap:=c) w hlo' hhi' q.1 q.2.1 q.2.2 (by omega);have hlen:((l0.drop l.toNat).take (h.toNat - l.toNat)).length=h.toNat - l.toNat:=by simp;omega
 refine ⟨.slice (if c=l.toNat then ao else ao.map (·.add (l.toNat*ye.size))) (h.toNat - l.toNat) (c - l.toNat),?_,?_⟩
 ·simp only [execOp,Instr.sliceAt,Instr.slice,h3,Sem.run_bind,fV (y1.slice hd),Result.andThen_ok,gB y2.info,y2.size,Option.map_none];rw [hsb];by_cases e:c=l.toNat <;> simp [e]
 ·simp only [RepA,RepB,Rep1,RepD,fD,hlen];by_cases hz:h.toNat - l.toNat=0
  ·refine ⟨[],⟨_,_,rfl,by omega,by omega,.inl ⟨?_,rfl⟩⟩,by simp⟩;rw [hz];simp
  ·rcases h6 with ⟨h6,_⟩|⟨b,o,S',rfl,h8,rfl,h9⟩
   ·have:l0.length=0:=by simpa using h6
    omega
   ·rw [aY (by omega)];obtain ⟨U1,g1,g2⟩:=h9.dropT (m:=l.toNat);obtain ⟨U2,g3,g4⟩:=g1.takeT (m:=h.toNat - l.toNat);refine ⟨b::U2,⟨_,_,rfl,by omega,by omega,.inr ⟨b,o+l.toNat*k,U2,by simp [Addr.add_lit,hk],h8,rfl,?_⟩⟩,?_⟩
    ·rw [List.map_take,List.map_drop];exact g3
    ·intro y hy;rcases cP.1 hy with rfl|h'
     ·exact h7 y (by simp)
     ·exact h7 y (by simp [g2 y (g4 y h')])
omit hT in
theorem zX {α:Type} {f:α→List AV} {l:List α} {i:Nat} {c:List AV} (h:i<l.length):((l.map f).set i c)[i]? =some c:=by simp [h]
omit hT in
theorem wJ {σ:Nat→Option Nat} {m:Nat} {α:Type} {k:Nat} {e:α→List AV} {c d:List AV} {i:Nat} (E:EOk k e) (h:All2 (iS σ m) c d): ∀ {l:List α} {i:Nat},All2 (All2 (iS σ m)) ((l.map (ow e)).set i c) ((l.map (ow e)).set i d):=by
 have hs: ∀ x,All2 (iS σ m) (ow e x) (ow e x):=by
  intro x
  have:=pB (R:=iS σ m) (f:=jB) (g:=jB) (cs:=e x) (λc hc=>by
   have:=E.mem x c hc
   cases c <;> simp only [gU,fE] at this <;> simp [jB,iS,eR])
  exact this
 have hl: ∀ l:List α,All2 (All2 (iS σ m)) (l.map (ow e)) (l.map (ow e)):=λl=>nA hs;intro l;induction l with
 |nil=>intro i;rfl
 |cons x l ih=>
  intro i;cases i with
  |zero=>exact ⟨_,_,rfl,h,hl l⟩
  |succ i=>exact ⟨_,_,rfl,hs x,ih⟩
omit hT in
theorem aEY {t:TypeId} {x z:Operand} {a b:Int} {dty:TypeId} (hx:s.ev x=some (.int a)) (hz:s.ev z=some (.int b)):
  AEff P ⟨dst,.call ⟨.builtin .max,#[x,z],#[t,t]⟩,dty,pos,aft,g⟩ s.ev s.heap s.kp ⟨.int (max a b),[],[],[]⟩:=
 AEff.pure λC s' ν ac w hi ht hs=>by
  have h1:=hs.ev ((hi x (by simp [Op.operands,Call.operands])).trans hx);have h2:=hs.ev ((hi z (by simp [Op.operands,Call.operands])).trans hz);simp only [RepA,RepB,Rep1] at h1 h2;refine ⟨.int .i64 (max a b),?_,jG rfl⟩;simp [execOp,resolve,invoke,builtin,h1.1,h2.1,Builtin.max_,Builtin.max2];rw [Int.max_def];split <;> split <;> omega
omit hT in
theorem aEZ {t:TypeId} {x z:Operand} {a b:Int} {dty:TypeId} (hx:s.ev x=some (.int a)) (hz:s.ev z=some (.int b)):
  AEff P ⟨dst,.call ⟨.builtin .min,#[x,z],#[t,t]⟩,dty,pos,aft,g⟩ s.ev s.heap s.kp ⟨.int (min a b),[],[],[]⟩:=
 AEff.pure λC s' ν ac w hi ht hs=>by
  have h1:=hs.ev ((hi x (by simp [Op.operands,Call.operands])).trans hx);have h2:=hs.ev ((hi z (by simp [Op.operands,Call.operands])).trans hz);simp only [RepA,RepB,Rep1] at h1 h2;refine ⟨.int .i64 (min a b),?_,jG rfl⟩;simp [execOp,resolve,invoke,builtin,h1.1,h2.1,Builtin.min_,Builtin.min2];rw [Int.min_def];split <;> split <;> omega
theorem sW {α:Type} {e:α→List AV} {x z:Operand} {t et:Nat} {y ye:Ty} {b b' n k:Nat} {l:List α} {c:List AV} {sv:AV} {ts nm:List Nat} {dty:TypeId} (hf:decide (l.length+1≤4294967296)=true) (hns:s.ns.head?=some b') (hx:s.ev x=some (.own b 0 n)) (hb:s.heap b=some ⟨k,l.map e⟩) (hl:l.length=n) (hz:s.ev z=some sv) (hsrc:pM s.heap sv=some (k,[c],ts)) (hnm:bG c=nm)
  (ok:c.all (okCell s.heap)=true) (hy:bV T t=some y) (hd:y.desc= .slice et) (hye:bV T et=some ye) (hzl:ye.zero.length=ye.size) (hk:ye.size=k) (hby:Nat.ble ye.bytes 32768=true):
  AEff P ⟨dst,.call ⟨.builtin .append,#[x,z],#[t,t]⟩,dty,pos,aft,g⟩ s.ev s.heap s.kp ⟨.own b' 0 (l.length+1),b::(ts++nm),[(b,none),(b',some ⟨k,l.map e++[c]⟩)],[b']⟩:=by
 have hf:=of_decide_eq_true hf;have hby:=Nat.le_of_ble_eq_true hby
 have h1:=uZ (P:=P) hT (dst:=dst) (pos:=pos) (aft:=aft) (g:=g) (dty:=dty) hns hx hb hz hsrc hy hd hye hzl hk.symm hk.symm (by simpa using hl) (by simpa using ok) (by simp;omega) (by simp only [List.length_singleton];calc (n+1)*ye.bytes≤4294967296*32768:=Nat.mul_le_mul (by omega) hby
                                                                                                                                                   _≤140737488355328:=by decide)
 rw [List.flatten_singleton,hnm,hk] at h1;rw [hl];exact h1
omit hT in
theorem sX {α β:Type} {f:α→β} {l:List α} {c:β} (x:α) (h:c=f x):l.map f++[c]=(l++[x]).map f:=by rw [h,List.map_append];rfl
omit hT in
theorem zY {α β:Type} {f:α→β} {l:List α} {i:Nat} {c:β} (x:α) (h:c=f x):(l.map f).set i c=(l.set i x).map f:=by rw [h,List.map_set]
end
end
end Go.Proofs.YtpppcfhgaehcjaaDoor

/- Several texts. -/
import Derived.Test.YtckihlpjfmnccaaGreatDoorProg
import Derived.Test.YtckihlpjfmnccaaGreatDoorM3
set_option linter.unusedVariables false
set_option linter.unusedSimpArgs false
namespace Go.Proofs.YtckihlpjfmnccaaGreatDoor
open Go.RowKit
section
def TT:List (Nat×Ty):=[
 (1,⟨.sc,1,8,[.sc .nilFunc]⟩),
 (2,⟨.sc,1,8,[.sc (.int .i64 0)]⟩),
 (3,⟨.sc,1,8,[.sc (.int .i64 0)]⟩),
 (4,⟨.sc,1,1,[.sc (.bool false)]⟩),
 (5,⟨.sc,1,1,[.sc (.int .u8 0)]⟩),
 (6,⟨.sc,1,1,[.sc (.int .u8 0)]⟩),
 (7,⟨.struct [(0,2),(1,3),(2,4),(3,6)],4,24,[.sc (.int .i64 0),.sc (.int .i64 0),.sc (.bool false),.sc (.int .u8 0)]⟩),
 (8,⟨.struct [(0,2),(1,3),(2,4),(3,6)],4,24,[.sc (.int .i64 0),.sc (.int .i64 0),.sc (.bool false),.sc (.int .u8 0)]⟩),
 (9,⟨.sc,1,16,[.sc (.string ⟨#[]⟩)]⟩),
 (10,⟨.sc,1,16,[.sc (.string ⟨#[]⟩)]⟩),
 (11,⟨.sc,1,16,[.sc (.string ⟨#[]⟩)]⟩),
 (12,⟨.sc,1,8,[.sc (.int .u64 0)]⟩),
 (13,⟨.struct [(0,9),(1,12)],2,24,[.sc (.string ⟨#[]⟩),.sc (.int .u64 0)]⟩),
 (14,⟨.struct [(0,9),(1,12)],2,24,[.sc (.string ⟨#[]⟩),.sc (.int .u64 0)]⟩),
 (21,⟨.sc,1,4,[.sc (.int .i32 0)]⟩),
 (22,⟨.slice 3,1,24,[.nil 1]⟩),
 (23,⟨.slice 22,1,24,[.nil 1]⟩),
 (24,⟨.struct [(0,3),(1,22),(2,23)],3,56,[.sc (.int .i64 0),.nil 1,.nil 1]⟩),
 (25,⟨.struct [(0,3),(1,22),(2,23)],3,56,[.sc (.int .i64 0),.nil 1,.nil 1]⟩),
 (26,⟨.sc,1,8,[.sc .nilFunc]⟩),
 (27,⟨.sc,1,8,[.sc .nilFunc]⟩),
 (28,⟨.struct [(0,3),(1,22),(2,23)],3,56,[.sc (.int .i64 0),.nil 1,.nil 1]⟩),
 (29,⟨.sc,1,8,[.sc .nilFunc]⟩),
 (30,⟨.sc,1,8,[.sc .nilFunc]⟩),
 (31,⟨.sc,1,8,[.sc .nilFunc]⟩),
 (32,⟨.sc,1,8,[.sc .nilFunc]⟩),
 (33,⟨.sc,1,8,[.sc .nilFunc]⟩),
 (34,⟨.slice 49,1,24,[.nil 3]⟩),
 (36,⟨.sc,1,8,[.sc .nilFunc]⟩),
 (37,⟨.sc,1,8,[.sc .nilFunc]⟩),
 (38,⟨.sc,1,8,[.sc .nilFunc]⟩),
 (39,⟨.sc,1,8,[.sc .nilFunc]⟩),
 (40,⟨.sc,1,8,[.sc .nilFunc]⟩),
 (41,⟨.sc,1,8,[.sc .nilFunc]⟩),
 (42,⟨.sc,1,8,[.sc .nilFunc]⟩),
 (43,⟨.sc,1,8,[.sc .nilFunc]⟩),
 (44,⟨.slice 9,1,24,[.nil 1]⟩),
 (45,⟨.sc,1,8,[.sc .nilFunc]⟩),
 (46,⟨.sc,1,8,[.sc .nilFunc]⟩),
 (47,⟨.sc,1,8,[.sc .nilFunc]⟩),
 (48,⟨.struct [(0,3),(1,3),(2,3)],3,24,[.sc (.int .i64 0),.sc (.int .i64 0),.sc (.int .i64 0)]⟩),
 (49,⟨.struct [(0,3),(1,3),(2,3)],3,24,[.sc (.int .i64 0),.sc (.int .i64 0),.sc (.int .i64 0)]⟩),
 (50,⟨.slice 5,1,24,[.nil 1]⟩),
 (51,⟨.sc,1,8,[.sc .nilFunc]⟩),
 (52,⟨.sc,1,8,[.sc .nilFunc]⟩),
 (53,⟨.sc,1,8,[.sc .nilFunc]⟩),
 (54,⟨.sc,1,8,[.sc .nilFunc]⟩),
 (55,⟨.sc,1,8,[.sc .nilFunc]⟩),
 (59,⟨.sc,1,8,[.sc .nilFunc]⟩),
 (63,⟨.sc,1,8,[.sc .nilFunc]⟩),
 (64,⟨.sc,1,8,[.sc .nilFunc]⟩),
 (65,⟨.sc,1,8,[.sc .nilFunc]⟩),
 (66,⟨.sc,1,8,[.sc .nilFunc]⟩),
 (67,⟨.sc,1,8,[.sc .nilFunc]⟩),
 (69,⟨.sc,1,8,[.sc .nilFunc]⟩),
 (70,⟨.sc,1,8,[.sc .nilFunc]⟩),
 (71,⟨.sc,1,8,[.sc .nilFunc]⟩),
 (72,⟨.sc,1,8,[.sc .nilFunc]⟩),
 (73,⟨.sc,1,8,[.sc .nilFunc]⟩),
 (74,⟨.sc,1,8,[.sc .nilFunc]⟩),
 (76,⟨.sc,1,8,[.sc .nilFunc]⟩),
 (77,⟨.sc,1,8,[.sc .nilFunc]⟩),
 (78,⟨.sc,1,8,[.sc .nilFunc]⟩),
 (79,⟨.sc,1,8,[.sc (.int .u64 0)]⟩),
 (80,⟨.sc,1,8,[.sc .nilFunc]⟩),
 (81,⟨.sc,1,8,[.sc .nilFunc]⟩),
 (82,⟨.sc,1,8,[.sc .nilFunc]⟩),
 (83,⟨.sc,1,8,[.sc .nilFunc]⟩),
 (84,⟨.sc,1,8,[.sc .nilFunc]⟩),
 (85,⟨.sc,1,8,[.sc .nilFunc]⟩),
 (86,⟨.sc,1,8,[.sc .nilFunc]⟩),
 (88,⟨.sc,1,8,[.sc .nilFunc]⟩),
 (89,⟨.sc,1,8,[.sc .nilFunc]⟩),
 (90,⟨.sc,1,8,[.sc .nilFunc]⟩),
 (91,⟨.sc,1,8,[.sc .nilFunc]⟩),
 (92,⟨.sc,1,8,[.sc (.int .i64 0)]⟩),
 (94,⟨.sc,1,8,[.sc .nilFunc]⟩),
 (95,⟨.sc,1,8,[.sc .nilFunc]⟩),
 (96,⟨.sc,1,8,[.sc .nilFunc]⟩),
 (97,⟨.sc,1,8,[.sc .nilFunc]⟩),
 (98,⟨.sc,1,8,[.sc .nilFunc]⟩),
 (99,⟨.sc,1,4,[.sc (.int .u32 0)]⟩),
 (100,⟨.sc,1,8,[.sc .nilFunc]⟩),
 (101,⟨.sc,1,8,[.sc (.int .u64 0)]⟩),
 (102,⟨.array 24 5,24,24,[.sc (.int .u8 0),.sc (.int .u8 0),.sc (.int .u8 0),.sc (.int .u8 0),.sc (.int .u8 0),.sc (.int .u8 0),.sc (.int .u8 0),.sc (.int .u8 0),.sc (.int .u8 0),.sc (.int .u8 0),.sc (.int .u8 0),.sc (.int .u8 0),.sc (.int .u8 0),.sc (.int .u8 0),.sc (.int .u8 0),.sc (.int .u8 0),.sc (.int .u8 0),.sc (.int .u8 0),.sc (.int .u8 0),.sc (.int .u8 0),.sc (.int .u8 0),.sc (.int .u8 0),.sc (.int .u8 0),.sc (.int .u8 0)]⟩),
 (103,⟨.sc,1,8,[.sc .nilFunc]⟩),
 (105,⟨.sc,1,8,[.sc .nilFunc]⟩),
 (106,⟨.sc,1,8,[.sc .nilFunc]⟩),
 (107,⟨.sc,1,8,[.sc (.int .u64 0)]⟩),
 (108,⟨.sc,1,8,[.sc .nilFunc]⟩),
 (109,⟨.sc,1,8,[.sc .nilFunc]⟩),
 (110,⟨.sc,1,8,[.sc .nilFunc]⟩),
 (112,⟨.sc,1,8,[.sc .nilFunc]⟩),
 (113,⟨.sc,1,8,[.sc .nilFunc]⟩),
 (114,⟨.sc,1,8,[.sc .nilFunc]⟩),
 (115,⟨.array 20 101,20,160,[.sc (.int .u64 0),.sc (.int .u64 0),.sc (.int .u64 0),.sc (.int .u64 0),.sc (.int .u64 0),.sc (.int .u64 0),.sc (.int .u64 0),.sc (.int .u64 0),.sc (.int .u64 0),.sc (.int .u64 0),.sc (.int .u64 0),.sc (.int .u64 0),.sc (.int .u64 0),.sc (.int .u64 0),.sc (.int .u64 0),.sc (.int .u64 0),.sc (.int .u64 0),.sc (.int .u64 0),.sc (.int .u64 0),.sc (.int .u64 0)]⟩),
 (119,⟨.sc,1,8,[.sc .nilFunc]⟩),
 (120,⟨.array 32 5,32,32,[.sc (.int .u8 0),.sc (.int .u8 0),.sc (.int .u8 0),.sc (.int .u8 0),.sc (.int .u8 0),.sc (.int .u8 0),.sc (.int .u8 0),.sc (.int .u8 0),.sc (.int .u8 0),.sc (.int .u8 0),.sc (.int .u8 0),.sc (.int .u8 0),.sc (.int .u8 0),.sc (.int .u8 0),.sc (.int .u8 0),.sc (.int .u8 0),.sc (.int .u8 0),.sc (.int .u8 0),.sc (.int .u8 0),.sc (.int .u8 0),.sc (.int .u8 0),.sc (.int .u8 0),.sc (.int .u8 0),.sc (.int .u8 0),.sc (.int .u8 0),.sc (.int .u8 0),.sc (.int .u8 0),.sc (.int .u8 0),.sc (.int .u8 0),.sc (.int .u8 0),.sc (.int .u8 0),.sc (.int .u8 0)]⟩),
 (121,⟨.array 64 5,64,64,[.sc (.int .u8 0),.sc (.int .u8 0),.sc (.int .u8 0),.sc (.int .u8 0),.sc (.int .u8 0),.sc (.int .u8 0),.sc (.int .u8 0),.sc (.int .u8 0),.sc (.int .u8 0),.sc (.int .u8 0),.sc (.int .u8 0),.sc (.int .u8 0),.sc (.int .u8 0),.sc (.int .u8 0),.sc (.int .u8 0),.sc (.int .u8 0),.sc (.int .u8 0),.sc (.int .u8 0),.sc (.int .u8 0),.sc (.int .u8 0),.sc (.int .u8 0),.sc (.int .u8 0),.sc (.int .u8 0),.sc (.int .u8 0),.sc (.int .u8 0),.sc (.int .u8 0),.sc (.int .u8 0),.sc (.int .u8 0),.sc (.int .u8 0),.sc (.int .u8 0),.sc (.int .u8 0),.sc (.int .u8 0),.sc (.int .u8 0),.sc (.int .u8 0),.sc (.int .u8 0),.sc (.int .u8 0),.sc (.int .u8 0),.sc (.int .u8 0),.sc (.int .u8 0),.sc (.int .u8 0),.sc (.int .u8 0),.sc (.int .u8 0),.sc (.int .u8 0),.sc (.int .u8 0),.sc (.int .u8 0),.sc (.int .u8 0),.sc (.int .u8 0),.sc (.int .u8 0),.sc (.int .u8 0),.sc (.int .u8 0),.sc (.int .u8 0),.sc (.int .u8 0),.sc (.int .u8 0),.sc (.int .u8 0),.sc (.int .u8 0),.sc (.int .u8 0),.sc (.int .u8 0),.sc (.int .u8 0),.sc (.int .u8 0),.sc (.int .u8 0),.sc (.int .u8 0),.sc (.int .u8 0),.sc (.int .u8 0),.sc (.int .u8 0)]⟩),
 (127,⟨.sc,1,8,[.sc .nilFunc]⟩),
 (128,⟨.sc,1,1,[.sc (.int .u8 0)]⟩),
 (129,⟨.sc,1,1,[.sc (.int .u8 0)]⟩),
 (130,⟨.sc,1,8,[.sc .nilFunc]⟩),
 (131,⟨.sc,1,4,[.sc (.int .i32 0)]⟩),
 (132,⟨.sc,1,4,[.sc (.int .i32 0)]⟩)]
set_option maxRecDepth 100000 in
theorem aP:TyOk Tryz.prog TT:=aDE (by kernel_rfl)
end
noncomputable section
theorem ob {α β:Type} {o:Option α} {k:α->Option β} {r:β} (h:o.bind k=some r): ∃ a,o=some a/\k a=some r:=by
 cases o with
 |none=>cases h
 |some a=>exact ⟨a,rfl,h⟩
theorem cb {α:Type} {c:Bool} {A B:Option α} {r:α} (h:cond c A B=some r):(c=true/\A=some r)∨(c=false/\B=some r):=by
 cases c
 ·exact .inr ⟨rfl,h⟩
 ·exact .inl ⟨rfl,h⟩
theorem cg {α:Type} {c:Bool} {A:Option α} {r:α} (h:cond c A none=some r):c=true/\A=some r:=by
 cases c
 ·cases h
 ·exact ⟨rfl,h⟩
theorem so {α:Type} {x r:α} (h:some x=some r):x=r:=Option.some.inj h
def bO {α:Type} (l:List α) (i:Int):Option α:=bif decide (0<=i) then l[i.toNat]? else none
theorem cA {α:Type} {l:List α} {i:Int} {v:α} (h:bO l i=some v):l[i.toNat]? =some v:=(cg h).2
theorem sD {α:Type} {l:List α} {i:Int} {v:α} (h:bO l i=some v):0<=i:=of_decide_eq_true (cg h).1
theorem sE {α:Type} {l:List α} {i:Int} {v:α} (h:bO l i=some v):i.toNat<l.length:=by
 rcases dR i.toNat l.length with h'|h'
 ·exact h'
 ·have:=cA h;rw [gW h'] at this;cases this
theorem aGa {α β:Type} {f:α->β} {l:List α} {i:Int} {v:α} (h:bO l i=some v):(l.map f)[i.toNat]? =some (f v):=by rw [List.getElem?_map,cA h];rfl
theorem cM {α:Type} {l:List α} {n:Nat} (h:n<l.length):bO l (n:Int)=some l[n]:=by simp [bO,h]
def wr (x:Int):Int:=IntKind.i64.wrap x
theorem aFG {x:Int} (h: -9223372036854775808<=x/\x<=9223372036854775807):wr x=x:=by unfold wr;rw [IntKind.wrap_i64];omega
def LpN {σ ρ:Type} (body:σ->Option (σ ⊕ ρ)):Nat->σ->ρ->Prop
 |0,s,r=>body s=some (.inr r)
 |n+1,s,r=> ∃ s',body s=some (.inl s')/\LpN body n s' r
theorem LpN.det {σ ρ:Type} {body:σ->Option (σ ⊕ ρ)} : ∀ {n m:Nat} {s:σ} {r r':ρ},LpN body n s r->LpN body m s r'->r=r'
 |0,0,s,r,r',h,k=>by rw [LpN] at h k;rw [h] at k;cases k;rfl
 |0,m+1,s,r,r',h,⟨s',k,_⟩=>by rw [LpN] at h;rw [h] at k;cases k
 |n+1,0,s,r,r',⟨s',h,_⟩,k=>by rw [LpN] at k;rw [h] at k;cases k
 |n+1,m+1,s,r,r',⟨s',h,h2⟩,⟨s'',k,k2⟩=>by rw [h] at k;cases k;exact LpN.det h2 k2
open Classical in
def Lp {σ ρ:Type} (body:σ->Option (σ ⊕ ρ)) (s:σ):Option ρ:=if h: ∃ r n,LpN body n s r then some h.choose else none
theorem wU {σ ρ:Type} {body:σ->Option (σ ⊕ ρ)} {s:σ} {r:ρ} :Lp body s=some r↔ ∃ n,LpN body n s r:=by
 unfold Lp;split
 ·rename_i h;obtain ⟨n,hn⟩:=h.choose_spec;constructor
  ·intro e;cases e;exact ⟨n,hn⟩
  ·rintro ⟨m,hm⟩;rw [hn.det hm]
 ·rename_i h;constructor
  ·intro e;cases e
  ·rintro ⟨m,hm⟩;exact absurd ⟨r,m,hm⟩ h
theorem gI {σ ρ:Type} {body:σ->Option (σ ⊕ ρ)} {s:σ} {r:ρ} (h:body s=some (.inr r)):Lp body s=some r:=wU.2 ⟨0,h⟩
theorem kH {σ ρ:Type} {body:σ->Option (σ ⊕ ρ)} {s s':σ} (h:body s=some (.inl s')):Lp body s=Lp body s':=by
 apply Option.ext;intro r;rw [wU,wU];constructor
 ·rintro ⟨n,hn⟩;cases n with
  |zero=>rw [LpN] at hn;rw [h] at hn;cases hn
  |succ n=>obtain ⟨s'',h1,h2⟩:=hn;rw [h] at h1;cases h1;exact ⟨n,h2⟩
 ·rintro ⟨n,hn⟩;exact ⟨n+1,s',h,hn⟩
theorem aFH {σ ρ:Type} {body:σ->Option (σ ⊕ ρ)} {s:σ} {r:ρ} (I:Nat->σ) (N:Nat) (h0:s=I 0) (hs: ∀ k,k<N->body (I k)=some (.inl (I (k+1)))) (hr:body (I N)=some (.inr r)):Lp body s=some r:=by
 subst h0
 have key: ∀ d k,k+d=N->Lp body (I k)=some r:=by
  intro d;induction d with
  |zero=>intro k hk;rw [Nat.add_zero] at hk;subst hk;exact gI hr
  |succ d ih=>intro k hk;rw [kH (hs k (by omega))];exact ih (k+1) (by omega)
 exact key N 0 (by omega)
theorem wV {σ ρ:Type} {body:σ->Option (σ ⊕ ρ)} {s:σ} (I:σ->Prop) (μ:σ->Nat) (R:ρ->Prop) (h0:I s) (hs: ∀ x,I x->(∃ x',body x=some (.inl x')/\I x'/\μ x'<μ x)∨ ∃ r,body x=some (.inr r)/\R r): ∃ r,Lp body s=some r/\R r:=by
 have key: ∀ n x,μ x=n->I x-> ∃ r,Lp body x=some r/\R r:=by
  intro n;induction n using Nat.strongRecOn with
  |_ n ih=>
   intro x hn hx;rcases hs x hx with ⟨x',h1,h2,h3⟩|⟨r,h1,h2⟩
   ·rw [kH h1];exact ih (μ x') (hn▸h3) x' rfl h2
   ·exact ⟨r,gI h1,h2⟩
 exact key _ s rfl h0
section
variable {P:Program} {nt:Nat} {s:AState} {Q:Exit->AState->Prop}
theorem cC {c:Code} {σ ρ:Type} {body:σ->Option (σ ⊕ ρ)} {x0:σ} {r0:ρ} (h:Lp body x0=some r0) (S:σ->AState) (X:ρ->Exit->AState->Prop) (e0:Ent s (S x0))
  (round: ∀ x o,body x=some o->AC P nt c (S x) (pN (λt=> ∃ x',o= .inl x'/\Ent t (S x')) (λe t=> ∃ r,o= .inr r/\X r e t))) (hX: ∀ e t,X r0 e t->Q e t):AC P nt (.loop c) s Q:=by
 obtain ⟨n,hn⟩:=wU.1 h;refine aGV (ι:=σ×Nat) (λp=>S p.1) (λp=>LpN body p.2 p.1 r0) (λp=>p.2) (x0,n) hn e0 ?_;rintro ⟨x,m⟩ hm;cases m with
 |zero=>
  refine aDG (round x _ hm) λe t hq=>?_;cases e <;> simp only [pN] at hq ⊢
  ·obtain ⟨x',h1,_⟩:=hq;cases h1
  all_goals (obtain ⟨r,h1,h2⟩:=hq;cases h1;exact hX _ _ h2)
 |succ m=>
  obtain ⟨x',h1,h2⟩:=hm;refine aDG (round x _ h1) λe t hq=>?_;cases e <;> simp only [pN] at hq ⊢
  ·obtain ⟨x'',h3,h4⟩:=hq;cases h3;exact ⟨(x',m),h2,Nat.lt_succ_self _,h4⟩
  all_goals (obtain ⟨r,h3,_⟩:=hq;cases h3)
theorem fY {c:Operand} {x y:Code} {t:Bool} (hc:s.ev c=some (.sc (.bool t))) (q:t=true) (h:AC P nt x s Q):AC P nt (.cond c x y) s Q:=aDF hc (λ_=>h) (λe=>by rw [q] at e;cases e)
theorem iI {c:Operand} {x y:Code} {t:Bool} (hc:s.ev c=some (.sc (.bool t))) (q:t=false) (h:AC P nt y s Q):AC P nt (.cond c x y) s Q:=aDF hc (λe=>by rw [q] at e;cases e) (λ_=>h)
theorem aFI {i:Nat} {v:AV} {e:Nat->Option AV} (h:e i=some v):zE (some i) v e=e:=by
 funext t;simp only [zE];cases hb:Nat.beq t i with
 |false=>rfl
 |true=>rw [Nat.eq_of_beq_eq_true hb,h];rfl
theorem aX {ops:Array Oper} {r:List Oper} {tr:List Tr} {K:List Tr->AState->Prop} {t u:Bool} (i:Nat) (hi:s.env i=some (.sc (.bool t))) (q:t=u) (h:AOps P ops nt r ⟨zE (some i) (.sc (.bool u)) s.env,s.heap,s.used,s.ns,s.kp⟩ tr K):AOps P ops nt r s tr K:=by
 subst q;rw [aFI hi] at h;exact h
end
def lF:AV->Bool
 | .sc v=>v.oneCell'
 | .list _ _=>true
 |_=>false
structure EOk {α:Type} (k:Nat) (e:α->List AV):Prop where
 len: ∀ x,(e x).length=k
 cell: ∀ x,(e x).all lF=true
def ow {α:Type} (e:α->List AV) (x:α):List AV:=(e x).map nE
theorem tY {α:Type} (e:α->List AV) (l:List α):iU (l.map e)=l.map (ow e):=by
 unfold iU;rw [List.map_map];rfl
section
variable {α:Type} {k:Nat} {e:α->List AV}
theorem aCf {c:AV} (h:lF c=true):view0 (nE c) c:=by cases c <;> simp only [lF,eC] at h <;> simp [nE,view0]
theorem aDy {c:AV} (h:lF c=true):xS (nE c) c:=by cases c <;> simp only [lF,eC] at h <;> simp [nE,xS]
theorem aBh {c:AV} (h:lF c=true) (hp:Hp):okCell hp c=true:=by cases c <;> simp only [lF,eC] at h <;> rfl
theorem aBi {c:AV} (h:lF c=true):dI c=true/\ ∀ ds,c≠ .ref ds:=by cases c <;> simp only [lF,eC] at h <;> exact ⟨rfl,λ_ e=>by cases e⟩
theorem xW {c:AV} (h:lF c=true):lE c=true/\lE (nE c)=true:=by cases c <;> simp only [lF,eC] at h <;> exact ⟨rfl,rfl⟩
theorem tZ {R:AV->AV->Prop} {f g:AV->AV} : ∀ {cs:List AV},(∀ c∈cs,R (f c) (g c))->All2 R (cs.map f) (cs.map g)
 | [],_=>rfl
 |c::cs,h=>⟨g c,_,rfl,h c (by simp),tZ λd hd=>h d (by simp [hd])⟩
theorem rA {β:Type} {R:List AV->List AV->Prop} {f g:β->List AV} : ∀ {l:List β},(∀ x,R (f x) (g x))->All2 R (l.map f) (l.map g)
 | [],_=>rfl
 |x::l,h=>⟨g x,_,rfl,h x,rA h⟩
theorem EOk.mem (E:EOk k e) (x:α): ∀ c∈e x,lF c=true:=List.all_eq_true.1 (E.cell x)
theorem EOk.view (E:EOk k e) (x:α):All2 view0 (ow e x) (e x):=by have:=tZ (R:=view0) (f:=nE) (g:=id) (λc hc=>aCf (E.mem x c hc));simpa [ow] using this
theorem EOk.frz (E:EOk k e) (x:α):All2 xS (ow e x) (e x):=by have:=tZ (R:=xS) (f:=nE) (g:=id) (λc hc=>aDy (E.mem x c hc));simpa [ow] using this
theorem EOk.views (E:EOk k e) (l:List α):All2 (All2 view0) (l.map (ow e)) (l.map e):=rA E.view
theorem EOk.frzs (E:EOk k e) (l:List α):All2 (All2 xS) (l.map (ow e)) (l.map e):=rA E.frz
theorem EOk.good (E:EOk k e) (l:List α):aFA (l.map e):=by
 intro cs hcs c hc;obtain ⟨x,_,rfl⟩:=List.mem_map.1 hcs;exact aBi (E.mem x c hc)
theorem EOk.plainO (E:EOk k e) (l:List α):qV (l.map (ow e)):=by
 intro cs hcs c hc;obtain ⟨x,_,rfl⟩:=List.mem_map.1 hcs;obtain ⟨d,hd,rfl⟩:=List.mem_map.1 hc;exact (xW (E.mem x d hd)).2
theorem EOk.plainE (E:EOk k e) (l:List α):qV (l.map e):=by
 intro cs hcs c hc;obtain ⟨x,_,rfl⟩:=List.mem_map.1 hcs;exact (xW (E.mem x c hc)).1
theorem EOk.okE (E:EOk k e) (hp:Hp) (l:List α):(l.map e).flatten.all (okCell hp)=true:=by
 rw [List.all_eq_true];intro c hc;obtain ⟨cs,hcs,hc⟩:=List.mem_flatten.1 hc;obtain ⟨x,_,rfl⟩:=List.mem_map.1 hcs;exact aBh (E.mem x c hc) hp
theorem vC: ∀ {cs:List AV},(∀ c∈cs,lF c=true)->bN cs=[]
 | [],_=>rfl
 |c::cs,h=>by
  have h1:=h c (by simp);have h2:=vC (cs:=cs) (λd hd=>h d (by simp [hd]));cases c <;> simp only [lF,eC] at h1 <;> exact h2
theorem EOk.namesE (E:EOk k e) (l:List α):bN (l.map e).flatten=[]:=by
 refine vC λc hc=>?_;obtain ⟨cs,hcs,hc⟩:=List.mem_flatten.1 hc;obtain ⟨x,_,rfl⟩:=List.mem_map.1 hcs;exact E.mem x c hc
end
end
section
def sF (n lo hi:Int):Bool:=decide (lo<=n/\n<=hi)
theorem fZ {n lo hi:Int} (h:sF n lo hi=true):lo<=n/\n<=hi:=by simpa [sF] using h
theorem aCg {n lo hi:Int} (h1:lo<=n) (h2:n<=hi):sF n lo hi=true:=by simp [sF,h1,h2]
theorem iJ {x:Int} (h: -4611686018427387904<=x/\x<=4611686018427387904):wr x=x:=aFG (by omega)
theorem dJ {k n:Nat} (hk:k<n) (hn:n<=4611686018427387904):wr ((k:Int)+1)=((k+1:Nat):Int):=by rw [iJ (by omega)];omega
theorem atG {α:Type} {l:List α} {k:Nat} (d:α) (h:k<l.length):bO l (k:Int)=some (l[k]?.getD d):=by rw [cM h];simp [h]
theorem atI {α:Type} {l:List α} {i:Int} (d:α) (h0:0<=i) (h:i<l.length):bO l i=some (l[i.toNat]?.getD d):=by
 have:=atG (l:=l) (k:=i.toNat) d (by omega)
 rwa [Int.toNat_of_nonneg h0] at this
theorem pP {k n:Nat} (h:k<n):decide ((k:Int)<(n:Int))=true:=aW (by omega)
theorem pQ {k n:Nat} (h:n<=k):decide ((k:Int)<(n:Int))=false:=bH (by omega)
theorem aDz {β:Type} {body:Int->Option (Int ⊕ (Unit ⊕ β))} {s0:Int} {s n:Nat} (f:Nat->Option β) (hs0:s0=(s:Int)) (hn:n<=4611686018427387904) (hsn:s<=n) (hs: ∀ k:Nat,s<=k->k<n->body k=some (match f k with|none=> .inl (wr (k+1))|some b=> .inr (.inr b)))
  (he:True->body n=some (.inr (.inl ()))):Lp body s0=some (match (List.range' s (n - s)).findSome? f with|none=> .inl ()|some b=> .inr b):=by
 have key: ∀ d k:Nat,s<=k->k+d=n->Lp body k=some (match (List.range' k d).findSome? f with|none=> .inl ()|some b=> .inr b):=by
  intro d;induction d with
  |zero=>intro k _ hk;rw [Nat.add_zero] at hk;subst hk;exact gI (he trivial)
  |succ d ih=>
   intro k h1 hk;have h:=hs k h1 (by omega);rw [List.range'_succ,List.findSome?_cons];cases hf:f k with
   |none=>rw [hf] at h;rw [kH h,dJ (n:=n) (by omega) hn];exact ih (k+1) (by omega) (by omega)
   |some b=>rw [hf] at h;exact gI h
 subst hs0;exact key (n - s) s (bQ _) (by omega)
theorem gY {σ ρ:Type} {body:σ->Option (σ ⊕ ρ)} {s:σ} {r:ρ} (I:Nat->σ) (N:Nat) (h0:s=I 0) (hs: ∀ k,k<N->body (I k)=some (.inl (I (k+1)))) (hr:True->body (I N)=some (.inr r)):Lp body s=some r:=aFH I N h0 hs (hr trivial)
theorem aAn {β:Type} {body:Int->Option (Int ⊕ (Unit ⊕ β))} {n:Nat} (P:Nat->Bool) (b:β) (hn:n<=4611686018427387904) (hs: ∀ k:Nat,k<n->body k=some (bif P k then .inl (wr (k+1)) else .inr (.inr b)))
  (he:True->body n=some (.inr (.inl ()))):Lp body 0=some (bif (List.range n).all P then .inl () else .inr b):=by
 have key: ∀ d k:Nat,k+d=n->Lp body k=some (bif (List.range' k d).all P then .inl () else .inr b):=by
  intro d;induction d with
  |zero=>intro k hk;rw [Nat.add_zero] at hk;subst hk;exact gI (he trivial)
  |succ d ih=>
   intro k hk;have h:=hs k (by omega);rw [List.range'_succ,List.all_cons];cases hf:P k with
   |true=>rw [hf] at h;rw [kH h,dJ (n:=n) (by omega) hn];exact ih (k+1) (by omega)
   |false=>rw [hf] at h;exact gI h
 have:=key n 0 (by omega)
 rwa [List.range_eq_range']
theorem vD {α:Type} (d:α) (l:List α) (P:α->Bool):(List.range l.length).all (λk=>P (l[k]?.getD d))=l.all P:=by
 rw [Bool.eq_iff_iff,List.all_eq_true,List.all_eq_true];constructor
 ·intro h x hx;obtain ⟨k,hk,rfl⟩:=List.mem_iff_getElem.1 hx;have:=h k (List.mem_range.2 hk);simpa [hk] using this
 ·intro h k hk;have hk:=List.mem_range.1 hk;simp only [qE hk,rN];exact h _ (List.getElem_mem hk)
theorem aEA {n:Nat} {P:Nat->Bool} :(List.range n).all P=true↔ ∀ k,k<n->P k=true:=by simp [List.all_eq_true]
theorem AEff.conv {P:Program} {o:Oper} {ins:Operand->Option AV} {hp:Hp} {κ:Kp} {v v':AV} {tc:List Nat} {ed ed':List (Nat×Option Blk)} {n:List Nat} (h:AEff P o ins hp κ ⟨v,tc,ed,n⟩) (hv:v=v') (he:ed=ed'):AEff P o ins hp κ ⟨v',tc,ed',n⟩:=by subst hv;subst he;exact h
theorem AEff.val {P:Program} {o:Oper} {ins:Operand->Option AV} {hp:Hp} {κ:Kp} {v v':AV} {tc:List Nat} {ed:List (Nat×Option Blk)} {n:List Nat} (h:AEff P o ins hp κ ⟨v,tc,ed,n⟩) (hv:v=v'):AEff P o ins hp κ ⟨v',tc,ed,n⟩:=by subst hv;exact h
section
variable {P:Program} {T:List (Nat×Ty)} (hT:TyOk P T) {dst:Option Tmp} {ty:TypeId} {pos:String} {aft:Array Edge} {g:Option (Nat×Bool)} {s:AState}
theorem aR {t t':TypeId} {x y:Operand} {a b:Int} (hx:s.ev x=some (.int a)) (hy:s.ev y=some (.int b)):AEff P ⟨dst,.binOp .add t x y t',ty,pos,aft,g⟩ s.ev s.heap s.kp ⟨.int (wr (a+b)),[],[],[]⟩:=
 lS hx hy rfl λw=>by simp [eqGuard,binOp,Op.intArith,wr]
theorem dX {t t':TypeId} {x y:Operand} {a b:Int} (hx:s.ev x=some (.int a)) (hy:s.ev y=some (.int b)):AEff P ⟨dst,.binOp .sub t x y t',ty,pos,aft,g⟩ s.ev s.heap s.kp ⟨.int (wr (a - b)),[],[],[]⟩:=
 lS hx hy rfl λw=>by simp [eqGuard,binOp,Op.intArith,wr]
theorem aGz {t t':TypeId} {x y:Operand} {a b:Int} (hx:s.ev x=some (.int a)) (hy:s.ev y=some (.int b)):AEff P ⟨dst,.binOp .mul t x y t',ty,pos,aft,g⟩ s.ev s.heap s.kp ⟨.int (wr (a*b)),[],[],[]⟩:=
 lS hx hy rfl λw=>by simp [eqGuard,binOp,Op.intArith,wr]
theorem aHy {t:TypeId} {x:Operand} {a:Int} (hx:s.ev x=some (.int a)):AEff P ⟨dst,.unOp .neg t x,ty,pos,aft,g⟩ s.ev s.heap s.kp ⟨.int (wr (-a)),[],[],[]⟩:=
 aEn hx rfl λw=>by simp [Op.unary,Op.intArith,wr]
theorem aHA {t t':TypeId} {x y:Operand} {a b:Int} (hx:s.ev x=some (.int a)) (hy:s.ev y=some (.int b)) (h:(!decide (b=0))=true):AEff P ⟨dst,.binOp .quo t x y t',ty,pos,aft,g⟩ s.ev s.heap s.kp ⟨.int (wr (a.tdiv b)),[],[],[]⟩:=
 lS hx hy rfl λw=>by
  have h':b≠0:=by simpa using h
  simp [eqGuard,binOp,Op.intDiv,h',wr]
theorem aHz {t t':TypeId} {x y:Operand} {a b:Int} (hx:s.ev x=some (.int a)) (hy:s.ev y=some (.int b)) (h:(!decide (b=0))=true):AEff P ⟨dst,.binOp .rem t x y t',ty,pos,aft,g⟩ s.ev s.heap s.kp ⟨.int (a.tmod b),[],[],[]⟩:=
 lS hx hy rfl λw=>by
  have h':b≠0:=by simpa using h
  simp [eqGuard,binOp,Op.intDiv,h']
variable {α:Type} {k:Nat} {e:α->List AV}
include hT
theorem aEB {x ix:Operand} {t et:Nat} {y ye:Ty} {l:List α} {kk:IntKind} {i:Int} {v:α} (hm:bO l i=some v) (hx:s.ev x=some (.list k (l.map e))) (hix:s.ev ix=some (.sc (.int kk i))) (hy:cI T t=some y) (hd:y.desc= .slice et) (hye:cI T et=some ye) (hk:ye.size=k):
  AEff P ⟨dst,.indexAddr t x ix,ty,pos,aft,g⟩ s.ev s.heap s.kp ⟨.ref (e v),[],[],[]⟩:=aDw hT hy hd hye hk hx hix (sD hm) (aGa hm)
theorem oG {x ix:Operand} {t et:Nat} {y ye:Ty} {b n kz:Nat} {es:List (List AV)} {kk:IntKind} {i:Int} (h0:0<=i) (hn:i.toNat<n) (hx:s.ev x=some (.own b 0 n)) (hb:s.heap b=some ⟨kz,es⟩) (hix:s.ev ix=some (.sc (.int kk i))) (hy:cI T t=some y) (hd:y.desc= .slice et) (hye:cI T et=some ye) (hk:ye.size=kz):
  AEff P ⟨dst,.indexAddr t x ix,ty,pos,aft,g⟩ s.ev s.heap s.kp ⟨.ptr b i.toNat 0,[b],[],[]⟩:=by
 have:=aBd (P:=P) hT (dst:=dst) (ty:=ty) (pos:=pos) (aft:=aft) (g:=g) hy hd hye hx hb hk hix h0 (by omega);rw [Nat.zero_add] at this;exact this
omit hT in
theorem aBj: ∀ {cs vs:List AV},cs.length=vs.length->vA cs 0 vs=vs
 | [],[],_=>rfl
 |c::cs,v::vs,h=>by simp only [vA];rw [aBj (by simpa using h)]
theorem cR {t:TypeId} {y:Ty} {x z:Operand} {val:AV} {b i:Nat} {l:List α} {v u:α} (E:EOk k e) (hm:l[i]? =some v) (hc:bJ val=e u) (hx:s.ev x=some (.ptr b i 0)) (hb:s.heap b=some ⟨k,l.map e⟩) (hz:s.ev z=some val) (hy:cI T t=some y) (hk:y.size=k):
  AEff P ⟨dst,.store t x z,ty,pos,aft,g⟩ s.ev s.heap s.kp ⟨.dead,[b],[(b,some ⟨k,(l.set i u).map e⟩)],[]⟩:=by
 have h1:=tW (P:=P) hT (dst:=dst) (ty:=ty) (pos:=pos) (aft:=aft) (g:=g) hx hb hz hy (by rw [hc,E.len,hk];simp) (by rw [hc,List.all_eq_true];exact λc h=>aBh (E.mem u c h) _) (cs:=e v) (by rw [List.getElem?_map,hm];rfl) (by rw [E.len,hk,Nat.zero_add];simp);rw [hc,vC (E.mem u),aBj (by rw [E.len,E.len]),←List.map_set] at h1;exact h1
theorem nQ {x z:Operand} {t et:Nat} {y ye:Ty} {b b' n:Nat} {l m:List α} {sv:AV} {ts:List Nat} {dty:TypeId} (E:EOk k e) (hf:decide (l.length+m.length<=4294967296)=true) (hns:s.ns.head?=some b') (hx:s.ev x=some (.own b 0 n)) (hb:s.heap b=some ⟨k,l.map e⟩) (hl:l.length=n) (hz:s.ev z=some sv) (hsrc:xE s.heap sv=some (k,m.map e,ts))
  (hy:cI T t=some y) (hd:y.desc= .slice et) (hye:cI T et=some ye) (hzl:ye.zero.length=ye.size) (hk:ye.size=k) (hby:Nat.ble ye.bytes 32768=true):
  AEff P ⟨dst,.call ⟨.builtin .append,#[x,z],#[t,t]⟩,dty,pos,aft,g⟩ s.ev s.heap s.kp ⟨.own b' 0 (l++m).length,b::ts,[(b,none),(b',some ⟨k,(l++m).map e⟩)],[b']⟩:=by
 have hf:=of_decide_eq_true hf;have hby:=Nat.le_of_ble_eq_true hby
 have h1:=aDx (P:=P) hT (dst:=dst) (pos:=pos) (aft:=aft) (g:=g) (dty:=dty) hns hx hb hz hsrc hy hd hye hzl hk.symm hk.symm (by simpa using hl) (E.okE _ m) (by simp;omega) (by simp only [dD];calc (n+m.length)*ye.bytes<=4294967296*32768:=Nat.mul_le_mul (by omega) hby
                                                                                                                                                                _<=140737488355328:=by decide)
 rw [E.namesE,List.append_nil,hk,dD] at h1;rw [List.length_append,List.map_append,hl];exact h1
omit hT in
theorem zG {h:Hp} {b n:Nat} {l:List α} (E:EOk k e) (hb:h b=some ⟨k,l.map (ow e)⟩) (hl:l.length=n):view1 h (.own b 0 n) (.list k (l.map e)):=aFE hb rfl (by simp [hl]) (E.views l)
omit hT in
theorem aEC {h:Hp} {b n:Nat} {l:List α} (E:EOk k e) (hb:h b=some ⟨k,l.map (ow e)⟩) (hl:l.length=n):viewA h (.own b 0 n) (.list k (l.map e)):=zG E hb hl
omit hT in
theorem vE {h:Hp} {b n:Nat} {l:List α} (E:EOk k e) (hb:h b=some ⟨k,l.map (ow e)⟩) (hl:l.length=n):tU h (.own b 0 n) (.list k (l.map e)):=⟨rfl,_,hb,by simp [hl],rfl,E.frzs l⟩
end
theorem aHP {h:Hp} :All2 (tU h) [] []:=rfl
theorem aAo {h:Hp} {x d:AV} {xs ds:List AV} (a:tU h x d) (b:All2 (tU h) xs ds):All2 (tU h) (x::xs) (d::ds):=⟨d,ds,rfl,a,b⟩
theorem aHQ {h:Hp} {cs ds:List AV} (a:All2 (tU h) cs ds):aAl h [.agg cs] (.agg ds):=⟨a,by intro _ h;cases h⟩
theorem mT {h:Hp} {x:AV} {k:Nat} {es:List (List AV)} (a:tU h x (.list k es)):aAl h [x] (.list k es):=by
 refine ⟨?_,by intro _ h;cases h⟩;cases x <;> exact a
theorem aAp {h:Hp} {x d:AV} (a:tU h x d):xT h x d:=by
 unfold xT;split
 ·exact a.elim
 ·exact a
theorem vF {h:Hp} :All2 (xT h) [] []:=rfl
theorem kI {h:Hp} {x d:AV} {xs ds:List AV} (a:xT h x d) (b:All2 (xT h) xs ds):All2 (xT h) (x::xs) (d::ds):=⟨d,ds,rfl,a,b⟩
theorem oH {h:Hp} {vs rs:List AV} (hl:Nat.beq vs.length 1=false) (a:All2 (xT h) vs rs):aAl h vs (.tuple rs):=by
 have h1:vs.length≠1:=by intro e;rw [e] at hl;cases hl
 cases vs with
 |nil=>exact ⟨h1,a⟩
 |cons v vs=>
  cases vs with
  |nil=>exact absurd rfl h1
  |cons u vs=>exact ⟨h1,a⟩
section
variable {s:AState}
theorem aFJ {b b' i j n k k':Nat} {A es es':List (List AV)} {c:List AV} (hi:i<A.length) (hb:s.heap b=some ⟨k,A.set i c⟩) (hj:c[j]? =some (.own b' 0 n)) (hb':s.heap b'=some ⟨k',es⟩) (hne:Nat.beq b b'=false) (hn:es.length=n) (hf:All2 (All2 xS) es es'):
  Ent s ⟨s.env,aQ [(b',none),(b,some ⟨k,A.set i (vA c j [.abs k' es'])⟩)] s.heap,s.used,s.ns,s.kp⟩:=by
 have h:=aBg (i:=i) hb (by simp [hi]) hj hb' hne hn rfl hf;simp only [List.set_set] at h;exact h
end
theorem aY {α β:Type} (f:α->β) (l:List α):(l.map f).length=l.length:=dD ..
theorem iR:Tryz.prog.follows .mixedOrders=true:=by kernel_rfl
abbrev aBk (b:ByteArray):List AV:=[.str b]
def fT {α:Type} (k:Nat) (e:α->List AV) (l:List α):List AV:=[.list k (l.map e)]
theorem nJ:EOk 1 eI:=⟨λ_=>rfl,λ_=>rfl⟩
theorem aDO:EOk 1 aBk:=⟨λ_=>rfl,λ_=>rfl⟩
theorem bR {α:Type} {k:Nat} {e:α->List AV} :EOk 1 (fT k e):=⟨λ_=>rfl,λ_=>rfl⟩
theorem bS:EOk 3 eB:=⟨λ_=>rfl,λ_=>rfl⟩
theorem jD:EOk 1 (ow eI):=⟨λ_=>rfl,λ_=>rfl⟩
theorem aHR:EOk 1 (ow aBk):=⟨λ_=>rfl,λ_=>rfl⟩
theorem EOk.own {α:Type} {k:Nat} {e:α->List AV} (E:EOk k e) (h: ∀ x,(ow e x).all lF=true):EOk k (ow e):=⟨λx=>by simp [ow,E.len],h⟩
theorem aAC {nb nb':List (Nat×Blk)} {ed:List (Nat×Option Blk)} (h:nb=nb') (e:jI nb'=ed:=by rfl):jI nb=ed:=by rw [h];exact e
theorem mZ (σ:Nat->Option Nat) {n:Nat} {cs:List AV} (h:cs.all dI=true):All2 (cZ σ n) cs cs:=by
 induction cs with
 |nil=>rfl
 |cons c cs ih=>
  simp only [List.all_cons,cD] at h;refine ⟨c,cs,rfl,?_,ih h.2⟩;cases c <;> simp only [dI,eC,false_and] at h <;> simp [cZ]
theorem aED {σ:Nat->Option Nat} {n:Nat} {α:Type} {k k':Nat} {e:α->List AV} (m:Nat):All2 (All2 (iQ σ n)) (List.replicate m [.nil k']) ((List.replicate m ([]:List α)).map (ow (fT k e))):=by
 induction m with
 |zero=>rfl
 |succ m ih=>exact ⟨_,_,rfl,⟨_,_,rfl,rfl,rfl⟩,ih⟩
theorem aAq {α:Type} {e:α->List AV} {z:α} (n:Nat):List.replicate n (ow e z)=(List.replicate n z).map (ow e):=(List.map_replicate ..).symm
section
variable {h:Hp}
theorem aCh {k b n:Nat} {es fs:List (List AV)} (hb:h b=some ⟨k,es⟩) (hn:n=es.length) (v:All2 (All2 view0) es fs):view1 h (.own b 0 n) (.list k fs):=aFE hb rfl hn v
theorem xX {k b n:Nat} {es fs:List (List AV)} (hb:h b=some ⟨k,es⟩) (hn:n=es.length) (v:All2 (All2 view0) es fs):viewA h (.own b 0 n) (.list k fs):=aCh hb hn v
theorem aAr:All2 (viewP h) [] []:=rfl
theorem aDP {x d:AV} {xs ds:List AV} (a:viewP h x d) (b:All2 (viewP h) xs ds):All2 (viewP h) (x::xs) (d::ds):=⟨d,ds,rfl,a,b⟩
theorem aGb {c:AV} (p:dI c=true):viewP h c c:=by cases c <;> simp only [dI,eC] at p <;> simp [viewP,view1,view0]
theorem aFK {b:Nat} {blk:Blk} {c cs:List AV} (hb:h b=some blk) (hi:blk.es[0]? =some c) (v:All2 (view1 h) c cs):viewP h (.ptr b 0 0) (.ref cs):=⟨blk,c,hb,hi,v⟩
theorem aFL {f:FuncId} {cs ds:List AV} (v:All2 (viewP h) cs ds):viewA h (.fn f cs) (.fn f ds):=⟨rfl,v⟩
theorem xY: ∀ {cs:List AV},cs.all dI=true->All2 (viewP h) cs cs
 | [],_=>rfl
 |c::cs,p=>by simp only [List.all_cons,cD] at p;exact ⟨c,cs,rfl,aGb p.1,xY p.2⟩
theorem aHS {f:FuncId} {cs:List AV} (p:cs.all dI=true):viewA h (.fn f cs) (.fn f cs):=⟨rfl,xY p⟩
end
theorem aCi:vZ (.agg []):=by intro _ h;cases h
theorem mU {c:AV} {cs:List AV} (a:aBX c) (b:vZ (.agg cs)):vZ (.agg (c::cs)):=by
 intro d hd;rcases bX.1 hd with rfl|h
 ·exact a
 ·exact b d h
theorem aFM:zW (.tuple []):=by intro _ h;cases h
theorem wW {c:AV} {cs:List AV} (a:vZ c) (b:zW (.tuple cs)):zW (.tuple (c::cs)):=by
 intro d hd;rcases bX.1 hd with rfl|h
 ·exact a
 ·exact b d h
section
variable {P:Program} {T:List (Nat×Ty)} {dst:Option Tmp} {ty:TypeId} {pos:String} {aft:Array Edge} {g:Option (Nat×Bool)} {s:AState}
theorem xZ (hT:TyOk P T) {t e:TypeId} {y ye:Ty} {l c:Operand} {kl kc:IntKind} {n:Int} {b:Nat} (q:(decide (0<=n)&&decide (n<=1048576))=true) (hns:s.ns.head?=some b) (hl:s.ev l=some (.sc (.int kl n))) (hc:s.ev c=some (.sc (.int kc n))) (hy:cI T t=some y) (hd:y.desc= .slice e) (hye:cI T e=some ye) (hz:ye.zero.length=ye.size) (hb:Nat.ble ye.bytes 32768=true):
  AEff P ⟨dst,.makeSlice t l c,ty,pos,aft,g⟩ s.ev s.heap s.kp ⟨.own b 0 n.toNat,[],[(b,some ⟨ye.size,List.replicate n.toNat ye.zero⟩)],[b]⟩:=by
 simp only [cD,fW] at q;refine aHO hT hns hl hc hy hd hye hz q.1 (by omega) ?_;have hb:=Nat.le_of_ble_eq_true hb
 calc n.toNat*ye.bytes<=1048576*32768:=Nat.mul_le_mul (by omega) hb
  _<=140737488355328:=by decide
theorem wX {fo:Operand} {xs:Array Operand} {ats:Array TypeId} {f:FuncId} {caps avs ds1:List AV} {u:Value} (hcap:caps.all dI=true) (hc:HasC P f (ds1++caps) (.sc u)) (hf:s.ev fo=some (.fn f caps)) (hx:evs s.ev xs.toList=some avs) (hv1:All2 (viewA s.heap) avs ds1):
  AEff P ⟨dst,.call ⟨.value fo,xs,ats⟩,ty,pos,aft,g⟩ s.ev s.heap s.kp ⟨.sc u,avs.flatMap (nV s.heap)++caps.flatMap (kP s.heap),[],[]⟩:=
 xR (ds1:=ds1) (ds2:=caps) (ns:=[]) (nb:=[]) (r:= .sc u) (x:= .sc u) hf hx hc hv1 (xY hcap) trivial (aDN [] u) rfl (by simp)
end
def jC (σ:Nat->Option Nat) (ν:Nu):Nu:=⟨λb=>match σ b with|some b0=>ν b0|none=>none,ν.ok⟩
structure Conv (σ:Nat->Option Nat) (n:Nat) (w:World) (h:Hp) (u:Us) (ν:Nu) (hl:List (Nat×Blk)):Prop where
 free: ∀ x,pU h ν x->pU (gF hl) (jC σ ν) x
 rep: ∀ {x y:AV} {v:Value},RepA w h u ν x v->kN σ n x y->RepA w (gF hl) (nK n) (jC σ ν) y v
 heap: ∀ {M:Nat->Prop} {φ:Nat->List Nat},HeapOk M w h u ν φ->HeapOk M w (gF hl) (nK n) (jC σ ν) (λb=>match σ b with|some b0=>φ b0|none=>[])
 look: ∀ b y,gF hl b=some y->(∀ b0,σ b=some b0-> ∃ x,h b0=some x/\x.k=y.k/\x.es.length=y.es.length)/\Nat.blt b n=true
theorem wY {σ:Nat->Option Nat} {n:Nat} {w:World} {h:Hp} {u:Us} {ν:Nu} {hl:List (Nat×Blk)} (hh:kX σ n h hl) (hi:rZ σ hl=true):Conv σ n w h u ν hl:=by
 generalize hν':jC σ ν=ν';have hνok:ν'.ok=ν.ok:=by rw [←hν'];rfl
 have hνb: ∀ b,ν' b=match σ b with|some b0=>ν b0|none=>none:=λb=>by rw [←hν'];rfl
 have hlive: ∀ b y,gF hl b=some y->(match σ b with|some b0=> ∃ x,h b0=some x/\rY σ n x y|none=>y.es=[])/\Nat.blt b n=true:=λb y h=>xN hh (gH h)
 have hlen: ∀ {x y:Blk},rY σ n x y->x.k=y.k/\x.es.length=y.es.length:=by
  rintro x y ⟨h1,h2|h2⟩
  ·exact ⟨h1,by rw [h2.1]⟩
  ·exact ⟨h1,h2.len.symm⟩
 have hfree: ∀ x,pU h ν x->pU (gF hl) ν' x:=by
  intro x hf b y β c hb hν;have h1:=(hlive b y hb).1;cases hσ:σ b with
  |none=>simp only [hνb,hσ] at hν;cases hν
  |some b0=>
   rw [hσ] at h1;simp only [hνb,hσ] at hν;obtain ⟨z,h2,_⟩:=h1;exact hf b0 z β c h2 hν
 have m1: ∀ {x y:AV} {v:Value},Rep1 w h u ν x v->cZ σ n x y->Rep1 w (gF hl) (nK n) ν' y v:=by
  intro x y v r m;cases y
  case dead=>trivial
  case sc u=>cases x <;> simp only [cZ] at m <;> first|exact m.elim|(subst m;exact r)
  case nil k=>cases x <;> simp only [cZ] at m <;> first|exact m.elim|exact r
  case list k es=>
   cases x <;> simp only [cZ] at m <;> first|exact m.elim|skip
   ·subst m;simp only [Rep1] at r ⊢;exact ⟨[],by rw [r];exact oA,by simp⟩
   ·obtain ⟨rfl,rfl⟩:=m;obtain ⟨S,r1,r2⟩:=r;exact ⟨S,r1,λx hx=>⟨hfree x (r2 x hx).1,by rw [hνok];exact (r2 x hx).2⟩⟩
  case ref cs=>
   cases x <;> simp only [cZ] at m <;> first|exact m.elim|skip
   subst m;obtain ⟨S,r1,r2⟩:=r;exact ⟨S,r1,λx hx=>⟨hfree x (r2 x hx).1,by rw [hνok];exact (r2 x hx).2⟩⟩
  case own b i q=>
   cases x <;> simp only [cZ] at m <;> first|exact m.elim|skip
   ·obtain ⟨m1,rfl,rfl,m4⟩:=m;simp only [Rep1] at r ⊢;refine ⟨m4,λblk hb=>?_⟩;have h1:=(hlive b blk hb).1;rw [m1] at h1;refine ⟨by simp,λ_=>r,λβ c hν=>?_⟩;simp only [hνb,m1] at hν;cases hν
   ·rename_i b0 i0 q0;obtain ⟨m1,rfl,rfl,m4⟩:=m;simp only [Rep1] at r ⊢;refine ⟨m4,λblk hb=>?_⟩;have h1:=(hlive b blk hb).1;rw [m1] at h1;obtain ⟨z,h2,h3⟩:=h1;obtain ⟨k1,k2⟩:=hlen h3;obtain ⟨r1,r2,r3⟩:=r.2 z h2;refine ⟨by rw [←k2];exact r1,λhν=>r2 (by simpa only [hνb,m1] using hν),λβ c hν=>?_⟩;rw [←k1];exact r3 β c (by simpa only [hνb,m1] using hν)
  case ptr b i q=>
   cases x <;> simp only [cZ] at m <;> first|exact m.elim|skip
   rename_i b0 i0 q0;obtain ⟨m1,rfl,rfl,m4⟩:=m;simp only [Rep1] at r ⊢;refine ⟨m4,λblk hb=>?_⟩;have h1:=(hlive b blk hb).1;rw [m1] at h1;obtain ⟨z,h2,h3⟩:=h1;obtain ⟨k1,k2⟩:=hlen h3;obtain ⟨β,c,r1,r2⟩:=r.2 z h2;exact ⟨β,c,by simpa only [hνb,m1] using r1,by rw [←k1];exact r2⟩
  all_goals (cases x <;> simp only [cZ] at m)
 have mL: ∀ {xs ys:List AV} {vs:List Value},All2 (Rep1 w h u ν) xs vs->All2 (cZ σ n) xs ys->All2 (Rep1 w (gF hl) (nK n) ν') ys vs:=by
  intro xs;induction xs with
  |nil=>intro ys vs r m;simp only [All2] at r m;subst r m;rfl
  |cons x xs ih=>
   rintro ys vs ⟨v,r,rfl,h1,h2⟩ ⟨y,q,rfl,k1,k2⟩;exact ⟨v,r,rfl,m1 h1 k1,ih h2 k2⟩
 have mC: ∀ {x y:AV} {v:Value} {S:List Nat},CellRep w h u ν x v S->iQ σ n x y->CellRep w (gF hl) (nK n) ν' y v S:=by
  intro x y v S r m
  cases x <;> cases y <;> simp only [iQ] at m <;> simp only [CellRep] at r ⊢ <;> first
   |exact m.elim
   |exact r.elim
   |exact ⟨m1 r.1 m,r.2⟩
   |(obtain ⟨rfl,m⟩:=m;obtain ⟨⟨vs,r1,r2⟩,r3⟩:=r;exact ⟨⟨vs,r1,mL r2 m⟩,r3⟩)
   |(obtain ⟨rfl,rfl⟩:=m;exact r)
   |(obtain ⟨r1,rfl⟩:=r;subst m;simp only [Rep1] at r1;rw [r1];exact tI)
   |(simp only [cZ] at m)
 have mCs: ∀ {xs ys:List AV} {vs:List Value} {S:List Nat},CellsRep w h u ν xs vs S->All2 (iQ σ n) xs ys->CellsRep w (gF hl) (nK n) ν' ys vs S:=by
  intro xs;induction xs with
  |nil=>intro ys vs S r m;simp only [All2] at m;subst m;exact r
  |cons x xs ih=>
   rintro ys vs S ⟨v,r,S1,S2,rfl,rfl,h1,h2⟩ ⟨y,q,rfl,k1,k2⟩;exact ⟨v,r,S1,S2,rfl,rfl,mC h1 k1,ih h2 k2⟩
 have mSelf: ∀ {xs:List AV} {vs:List Value} {S:List Nat},CellsRep w h u ν xs vs S->(∀ c∈xs,lE c=true)->CellsRep w (gF hl) (nK n) ν' xs vs S:=by
  intro xs vs S r hp;refine mCs r ?_;clear r;induction xs with
  |nil=>rfl
  |cons x xs ih=>
   refine ⟨x,xs,rfl,?_,ih (λc hc=>hp c (by simp [hc]))⟩;have:=hp x (by simp);cases x <;> simp only [lE,eC] at this <;> simp [iQ,cZ]
 have mFlat: ∀ {es fs:List (List AV)} {R:AV->AV->Prop},All2 (All2 R) es fs->All2 R es.flatten fs.flatten:=by
  intro es;induction es with
  |nil=>intro fs R h;simp only [All2] at h;subst h;rfl
  |cons c es ih=>
   rintro fs R ⟨d,fs',rfl,h1,h2⟩;rw [List.flatten_cons,List.flatten_cons];exact h1.append (ih h2)
 have mlens: ∀ {es fs:List (List AV)} {k:Nat},All2 (All2 (iQ σ n)) es fs->(∀ cs∈es,cs.length=k)-> ∀ cs∈fs,cs.length=k:=by
  intro es;induction es with
  |nil=>intro fs k h _ cs hcs;simp only [All2] at h;subst h;cases hcs
  |cons c es ih=>
   rintro fs k ⟨d,fs',rfl,h1,h2⟩ hk cs hcs;rcases bX.1 hcs with rfl|h
   ·rw [h1.len];exact hk c (by simp)
   ·exact ih h2 (λx hx=>hk x (by simp [hx])) cs h
 subst hν';refine ⟨hfree,?_,?_,λb y hb=>⟨λb0 e=>?_,(hlive b y hb).2⟩⟩
 ·intro x y v h4 h2
  cases x <;> cases y <;> simp only [kN] at h2 <;> simp only [RepA,RepB] at h4 ⊢ <;> first
   |exact m1 h4 h2
   |(obtain ⟨vs,e1,e2⟩:=h4;exact ⟨vs,e1,mL e2 h2⟩)
   |(obtain ⟨vs,e1,e2⟩:=h4;obtain ⟨rfl,h2⟩:=h2;exact ⟨vs,e1,mL e2 h2⟩)
   |trivial
   |(simp only [cZ] at h2)
 ·intro M φ hφ;refine ⟨?_,?_⟩
  ·intro b y hb;obtain ⟨h1,h2⟩:=hlive b y hb;refine ⟨h2,?_⟩;cases hσ:σ b with
   |none=>
    rw [hσ] at h1;simp only;exact ⟨⟨by rw [h1];simp,.inl ⟨by simp only [hνb,hσ],h1,rfl⟩⟩,by simp,by simp⟩
   |some b0=>
    rw [hσ] at h1;simp only;obtain ⟨x,h3,h4⟩:=h1;obtain ⟨g1,⟨g2,g3⟩,g4,g5⟩:=hφ.blk b0 x h3;obtain ⟨k1,k2⟩:=hlen h4;refine ⟨⟨?_,?_⟩,g4,g5⟩
    ·rcases h4.2 with ⟨e1,_⟩|e1
     ·rw [←e1,←k1];exact g2
     ·rw [←k1];exact mlens e1 g2
    ·rcases g3 with ⟨q1,q2,q3⟩|⟨β,c,arr,ty,T,vs,q1,q2,q3,q4,q5,q6,q7,q8⟩
     ·exact .inl ⟨by simp only [hνb,hσ];exact q1,by rw [q2] at k2;exact List.eq_nil_of_length_eq_zero k2.symm,q3⟩
     ·refine .inr ⟨β,c,arr,ty,T,vs,by simp only [hνb,hσ];exact q1,q2,by rw [←k1];exact q3,by rw [←k2];exact q4,q5,q6,by rw [←k1,←k2];exact q7,?_⟩;rcases h4.2 with ⟨e1,e2⟩|e1
      ·rw [e1] at q8;exact mSelf q8 (λc hc=>by obtain ⟨cs,hcs,hc'⟩:=List.mem_flatten.1 hc;exact e2 cs hcs c hc')
      ·exact mCs q8 (mFlat e1)
  ·intro b c z hb hc hne hzb hzc;obtain ⟨y1,hy1⟩:=Option.ne_none_iff_exists'.1 hb;obtain ⟨y2,hy2⟩:=Option.ne_none_iff_exists'.1 hc;have i1:=(xO hi (gH hy1) (gH hy2)).2 hne;have l1:=(hlive b y1 hy1).1;have l2:=(hlive c y2 hy2).1;cases h1:σ b with
   |none=>rw [h1] at hzb;cases hzb
   |some b0=>
    cases h2:σ c with
    |none=>rw [h2] at hzc;cases hzc
    |some c0=>
     rw [h1] at hzb l1;rw [h2] at hzc l2;obtain ⟨x1,p1,_⟩:=l1;obtain ⟨x2,p2,_⟩:=l2;exact hφ.apart b0 c0 z (by rw [p1];simp) (by rw [p2];simp) (λe=>i1 b0 h1 (by rw [h2,e])) hzb hzc
 ·have h1:=(hlive b y hb).1;rw [e] at h1;obtain ⟨x,h2,h3⟩:=h1;exact ⟨x,h2,(hlen h3).1,(hlen h3).2⟩
structure HasE (P:Program) (f:FuncId) (ds:List AV) (hl:List (Nat×Blk)) (kp:Nat) (r:AV) (hl':List (Nat×Blk)):Prop where
 enters:Enters P f
 calls: ∀ (B:Nat) (M:Nat->Prop) (w:World) (args:Array Value) (ν:Nu) (φ:Nat->List Nat),(∀ x,M x->B<=x)->B<=w.heap.size->(∀ x,w.heap.size<=x->M x)->(∀ x,M x->ν.ok x)->All2 (RepA w (gF hl) (nK kp) ν) ds args.toList->HeapOk M w (gF hl) (nK kp) ν φ->
  Calls P f args w λe w'=> ∃ v u' ν' φ',e= .returned v/\Below B w w'/\Ext w (gF hl) (nK kp) ν w' (gF hl') u' ν'/\HeapOk M w' (gF hl') u' ν' φ'/\RepA w' (gF hl') u' ν' r v
def aBl:AV->Bool
 | .tuple _=>false
 |_=>true
def aHT (vs:List AV) (r:AV):Prop:=(vs=[r])∨(vs.length≠1/\vs.all aBl=true/\r= .tuple vs)
def aFN (h:Hp):List (Nat×Blk)->Prop
 | []=>True
 |(b,y)::r=>h b=some y/\aFN h r
theorem aAD {h:Hp} : ∀ {l:List (Nat×Blk)},aFN h l-> ∀ {b:Nat} {y:Blk},(b,y)∈l->h b=some y
 |(c,z)::r,⟨h1,h2⟩,b,y,hm=>by
  rcases bX.1 hm with e|hm'
  ·obtain ⟨rfl,rfl⟩:=Prod.mk.inj e;exact h1
  ·exact aAD h2 hm'
def aIa (T:List (Nat×Ty)) (rvs:List ResultVar) (r:AV) (hl':List (Nat×Blk)) (e:Exit) (t:AState):Prop:=xU e=true/\(∃ vs,mS T t rvs=some vs/\aHT vs r)/\aFN t.heap hl'
theorem Ext.shrink {w w':World} {h h' g:Hp} {u u':Us} {ν ν':Nu} (e:Ext w h u ν w' h' u' ν') (hg: ∀ b blk,g b=some blk->h' b=some blk):Ext w h u ν w' g u' ν':=
 ⟨e.used,λb blk hb hgb=>e.old b blk hb (hg b blk hgb),λx hx hf=>⟨(e.free x hx hf).1,λb blk β c hb hν=>(e.free x hx hf).2 b blk β c (hg b blk hb) hν⟩,e.okE⟩
theorem HeapOk.shrink {M M':Nat->Prop} {w:World} {h g:Hp} {u:Us} {ν:Nu} {φ:Nat->List Nat} (hh:HeapOk M w h u ν φ) (hg: ∀ b blk,g b=some blk->h b=some blk) (hM: ∀ b x,g b≠none->x∈φ b->M x->M' x):HeapOk M' w g u ν φ where
 blk:=λb blk hb=>by
  obtain ⟨g1,g2,g3,g4⟩:=hh.blk b blk (hg b blk hb);exact ⟨g1,g2.ext ((Ext.refl w h u ν).shrink hg) rfl (λ_ _=>rfl),g3,λx hx=>hM b x (by rw [hb];simp) hx (g4 x hx)⟩
 apart:=λb c x hb hc hne hxb hxc=>by
  obtain ⟨y1,h1⟩:=Option.ne_none_iff_exists'.1 hb;obtain ⟨y2,h2⟩:=Option.ne_none_iff_exists'.1 hc;exact hh.apart b c x (by rw [hg b y1 h1];simp) (by rw [hg c y2 h2];simp) hne hxb hxc
theorem aBm: ∀ {l:List AV} {t:Nat},xV l t=l[t]?
 | [],_=>by simp [xV]
 |_::_,0=>by simp [xV]
 |_::r,t+1=>by simpa [xV] using aBm (l:=r) (t:=t)
theorem aHU {w:World} {h:Hp} {u:Us} {ν:Nu} {x:AV} {v:Value} (r:RepA w h u ν x v) (hx:aBl x=true):RepB w h u ν x v:=by
 cases x <;> first|exact r|cases hx
theorem nR {P:Program} {T:List (Nat×Ty)} (hT:TyOk P T) {f:FuncId} {fn:Func} {c:Code} {nt kp:Nat} {ds:List AV} {hl hl':List (Nat×Blk)} {r:AV} {rvs:List ResultVar} {ns:List Nat} (hf:P.funcs[f]? =some fn) (hb:fn.body=some c) (hname:(fn.name== "runtime.NumGoroutine")=false) (hnt:fn.ntmps=nt) (hres:fn.results.toList=rvs)
  (hlen:Nat.ble ds.length nt=true) (h:AC P nt c ⟨xV ds,gF hl,nK kp,ns,⟨kp,false,none,true⟩⟩ (λe t=> ∃ t',Ent t t'/\aIa T rvs r hl' e t')):HasE P f ds hl kp r hl':=by
 refine ⟨Enters.mk hf (by rw [hb];rfl) hname,λB M w args ν φ hMB hB hM hMo hargs hheap=>?_⟩;refine (callsIn_wide (n:=0)).1 (callsIn_of_wp_marks (F:=fw none) hf hb trivial ?_);have hlen':=Nat.le_of_ble_eq_true hlen;have hal:args.size=ds.length:=by have:=hargs.len;simpa using this
 let C:Ctx:=⟨B,w,nt,M,hMB,⟨kp,false,none,true⟩,w,gF hl,ν,pU (gF hl) ν,(λh=>by cases h),(λ_ h=>by cases h),none,λ_=>rfl⟩
 have hsim:Sim C ⟨xV ds,gF hl,nK kp,ns,⟨kp,false,none,true⟩⟩ ν ⟨args++Array.replicate (fn.ntmps - args.size) undef,[]⟩ w:=by
  refine ⟨Below.refl _ _,hB,hM,aAb,by show (args++Array.replicate (fn.ntmps - args.size) undef).size=nt;simp [hnt];omega,?_,⟨φ,hheap⟩,rfl,ExtF.refl λ_ _ h=>h,bQ _,hMo,λ_ h=>by cases h⟩;intro t x hx;have hx':ds[t]? =some x:=by rw [←aBm];exact hx
  obtain ⟨v,h1,h2⟩:=hargs.get hx';refine ⟨v,?_,h2⟩
  have hlt:t<args.size:=by
   rcases dR t args.size with h'|h'
   ·exact h'
   ·rw [gW (by simpa using h')] at h1;cases h1
  show (args++Array.replicate (fn.ntmps - args.size) undef)[t]? =some v;rw [Array.getElem?_append_left hlt];simpa using h1
 refine wpIn_mono (h.out C rfl _ _ w hsim 0) λe a' w0 ⟨s1,ν1,⟨s',hent,hq⟩,hs1⟩=>?_;obtain ⟨ν',hs0⟩:=hent C ν1 a' w0 hs1;obtain ⟨Ds,d1,d2,d3⟩:=hs0.defers;obtain ⟨w',hs',hleave⟩:=hs0.leave (P:=P) (n:=0) d1 d2 d3;obtain ⟨he,⟨avs,hv,hone⟩,hsame⟩:=hq;have hsub: ∀ b blk,gF hl' b=some blk->s'.heap b=some blk:=λb blk hb=>aAD hsame (gH hb);obtain ⟨us,h1,h2⟩:=qG hT hs' hv;obtain ⟨φ',hh⟩:=hs'.heap
 have hrun:(results fn a'.tmps).run P w'= .ok (if hh:us.toArray.size=1 then us.toArray[0] else .tuple us.toArray) w':=by
  unfold results;rw [Sem.run_bind,Array.mapM_eq_mapM_toList,Sem.run_map,hres];have h1':=h1;generalize hq:(List.mapM _ rvs:Sem (List Value))=m;rw [show Sem.run P m w'= .ok us w' by rw [←hq];exact h1'];simp
 have shr:=(Ext.refl w' s'.heap s'.used ν').shrink hsub
 have hrep:RepA w' (gF hl') s'.used ν' r (if hh:us.toArray.size=1 then us.toArray[0] else .tuple us.toArray):=by
  rcases hone with rfl|⟨g1,g2,rfl⟩
  ·obtain ⟨u,q,rfl,k1,k2⟩:=h2;simp only [All2] at k2;subst k2;exact k1.ext shr
  ·have hul:us.length=avs.length:=h2.len;rw [dif_neg (by simp;rw [hul];exact g1)];refine ⟨us,rfl,h2.congrM λx hx v hr=>?_⟩;exact aHU (hr.ext shr) (List.all_eq_true.1 g2 x hx)
 have hend:=hleave fn (λe w'=> ∃ v u' ν' φ',e= .returned v/\Below B w w'/\Ext w (gF hl) (nK kp) ν w' (gF hl') u' ν'/\HeapOk M w' (gF hl') u' ν' φ'/\RepA w' (gF hl') u' ν' r v)
  ⟨_,hrun,_,s'.used,ν',φ',rfl,hs'.below,hs'.ext.ext.shrink hsub,hh.shrink hsub (λ_ _ _ _ h=>h),hrep⟩
 cases e <;> simp only [xU,eC] at he <;> exact hend
def wB (rl:List Nat):AV->Bool
 | .sc _=>true
 | .nil _=>true
 | .own b _ _=>rl.contains b
 | .ptr b _ _=>rl.contains b
 |_=>false
def aAE (rl:List Nat):AV->Bool
 | .abs _ _=>true
 | .fn _ cs=>cs.all (wB rl)
 |x=>wB rl x
def aBn (rl:List Nat):AV->Bool
 | .agg cs=>cs.all (wB rl)
 |x=>wB rl x
def aFO (rl:List Nat):AV->Bool
 | .tuple cs=>cs.all (aBn rl)
 |x=>aBn rl x
def aDQ (rl:List Nat):List (Nat×Blk)->Prop
 | []=>True
 |(b,y)::r=>rl.contains b=true/\(∀ cs∈y.es,∀ c∈cs,aAE rl c=true)/\aDQ rl r
theorem aAF {rl:List Nat} : ∀ {l:List (Nat×Blk)},aDQ rl l-> ∀ {b:Nat} {y:Blk},(b,y)∈l->rl.contains b=true/\ ∀ cs∈y.es,∀ c∈cs,aAE rl c=true
 |(c,z)::r,⟨h1,h2,h3⟩,b,y,hm=>by
  rcases bX.1 hm with e|hm'
  ·obtain ⟨rfl,rfl⟩:=Prod.mk.inj e;exact ⟨h1,h2⟩
  ·exact aAF h3 hm'
theorem EOk.tame {α:Type} {k:Nat} {e:α->List AV} (E:EOk k e) (rl:List Nat) (l:List α): ∀ cs∈l.map (ow e),∀ c∈cs,aAE rl c=true:=by
 intro cs hcs c hc;obtain ⟨x,_,rfl⟩:=List.mem_map.1 hcs;obtain ⟨d,hd,rfl⟩:=List.mem_map.1 hc;have:=E.mem x d hd;cases d <;> simp only [lF,eC] at this <;> rfl
def pC (σ:Nat->Option Nat) (touch:List Nat):List (Nat×Blk)->Bool
 | []=>true
 |(b,_)::r=>(match σ b with|some x=>touch.contains x|none=>true)&&pC σ touch r
theorem pD {σ:Nat->Option Nat} {n:Nat} {touch:List Nat} {h h':Hp} (hc: ∀ b∈touch,h' b=h b): ∀ {l:List (Nat×Blk)},pC σ touch l=true->kX σ n h l->kX σ n h' l
 | [],_,_=>trivial
 |(b,y)::r,ht,⟨h1,h2,h3⟩=>by
  simp only [pC,cD] at ht;refine ⟨?_,h2,pD hc ht.2 h3⟩;cases hσ:σ b with
  |none=>rw [hσ] at h1;exact h1
  |some x=>
   have h4:=ht.1;rw [hσ] at h1 h4;simp only at h1 h4 ⊢;obtain ⟨z,e1,e2⟩:=h1;exact ⟨z,by rw [hc x (by simpa using h4)];exact e1,e2⟩
def yA (σ σ':Nat->Option Nat) (kp:Nat) (news:List Nat):List (Nat×Blk)->Bool
 | []=>true
 |(b,_)::r=>(match σ' b with|some i=>news.contains b||(Nat.blt i kp&&(match σ i with|some x=>Nat.beq x b|none=>false))|none=>false)&&yA σ σ' kp news r
theorem vG {σ σ':Nat->Option Nat} {kp:Nat} {news:List Nat} : ∀ {l:List (Nat×Blk)},yA σ σ' kp news l=true-> ∀ {b:Nat} {y:Blk},(b,y)∈l-> ∃ i,σ' b=some i/\(b∈news∨(Nat.blt i kp=true/\σ i=some b))
 |(c,z)::r,h,b,y,hm=>by
  simp only [yA,cD] at h;rcases bX.1 hm with e|hm'
  ·obtain ⟨rfl,rfl⟩:=Prod.mk.inj e;have h1:=h.1;cases hσ:σ' b with
   |none=>rw [hσ] at h1;cases h1
   |some i=>
    rw [hσ] at h1;simp only [Bool.or_eq_true,cD] at h1;refine ⟨i,rfl,?_⟩;rcases h1 with h1|⟨h1,h2⟩
    ·exact .inl (by simpa using h1)
    ·refine .inr ⟨h1,?_⟩;cases hσ2:σ i with
     |none=>rw [hσ2] at h2;cases h2
     |some x=>rw [hσ2] at h2;rw [Nat.eq_of_beq_eq_true h2]
  ·exact vG h.2 hm'
def sG (rl:List Nat) (hl2:List (Nat×Blk)):List (Nat×Option Blk):=rl.map λb=>(b,gF hl2 b)
theorem yB {h:Hp} {hl2:List (Nat×Blk)} {b:Nat} : ∀ {rl:List Nat},aQ (sG rl hl2) h b=if b∈rl then gF hl2 b else h b
 | []=>by simp [sG,aQ]
 |c::rl=>by
  have ih:=yB (h:=h) (hl2:=hl2) (b:=b) (rl:=rl);simp only [sG,List.map_cons,aQ] at ih ⊢;by_cases e:b=c
  ·subst e;simp
  ·rw [bF e,aL,ih];simp [e]
section
variable {w:World} {h1 h2:Hp} {u1 u2:Us} {ν1 ν2:Nu} {rl:List Nat} (H: ∀ b∈rl,h2 b=h1 b) (N: ∀ b∈rl,ν2 b=ν1 b) (U: ∀ b∈rl,u2 b=true)
include H N U
theorem vH {x:AV} {v:Value} (r:Rep1 w h1 u1 ν1 x v) (t:wB rl x=true):Rep1 w h2 u2 ν2 x v:=by
 cases x <;> simp only [wB,eC] at t <;> simp only [Rep1] at r ⊢
 ·exact r
 ·exact r
 ·rename_i b i n;have hb:b∈rl:=by simpa using t
  refine ⟨U b hb,λblk hbl=>?_⟩;rw [H b hb] at hbl;rw [N b hb];exact r.2 blk hbl
 ·rename_i b i n;have hb:b∈rl:=by simpa using t
  refine ⟨U b hb,λblk hbl=>?_⟩;rw [H b hb] at hbl;rw [N b hb];exact r.2 blk hbl
theorem sH: ∀ {xs:List AV} {vs:List Value},All2 (Rep1 w h1 u1 ν1) xs vs->xs.all (wB rl)=true->All2 (Rep1 w h2 u2 ν2) xs vs
 | [],vs,r,_=>r
 |x::xs,vs,⟨v,q,e,h,k⟩,t=>by
  simp only [List.all_cons,cD] at t;exact ⟨v,q,e,vH H N U h t.1,sH k t.2⟩
theorem aAG {x:AV} {v:Value} (r:RepB w h1 u1 ν1 x v) (t:aBn rl x=true):RepB w h2 u2 ν2 x v:=by
 cases x <;> simp only [RepB] at r ⊢ <;> first
  |exact vH H N U r t
  |(obtain ⟨vs,e,r⟩:=r;exact ⟨vs,e,sH H N U r t⟩)
  |(simp only [aBn,wB,eC] at t)
theorem aEE {x:AV} {v:Value} (r:RepA w h1 u1 ν1 x v) (t:aFO rl x=true):RepA w h2 u2 ν2 x v:=by
 by_cases ht: ∃ cs,x= .tuple cs
 ·obtain ⟨cs,rfl⟩:=ht;obtain ⟨vs,e,r⟩:=r;refine ⟨vs,e,r.congrM λy hy d hd=>aAG H N U hd ?_⟩;exact List.all_eq_true.1 t y hy
 ·have r':RepB w h1 u1 ν1 x v:=by cases x <;> first|exact r|exact absurd ⟨_,rfl⟩ ht
  have t':aBn rl x=true:=by cases x <;> first|exact t|exact absurd ⟨_,rfl⟩ ht
  have:=aAG H N U r' t';cases x <;> first|exact this|exact absurd ⟨_,rfl⟩ ht
theorem aEF {x:AV} {v:Value} {S:List Nat} (r:CellRep w h1 u1 ν1 x v S) (t:aAE rl x=true):CellRep w h2 u2 ν2 x v S:=by
 cases x <;> simp only [CellRep] at r ⊢ <;> first
  |exact ⟨vH H N U r.1 t,r.2⟩
  |(obtain ⟨⟨vs,e,q⟩,q2⟩:=r;exact ⟨⟨vs,e,sH H N U q t⟩,q2⟩)
  |exact r
theorem yC: ∀ {xs:List AV} {vs:List Value} {S:List Nat},CellsRep w h1 u1 ν1 xs vs S->(∀ c∈xs,aAE rl c=true)->CellsRep w h2 u2 ν2 xs vs S
 | [],_,_,r,_=>r
 |x::xs,vs,S,⟨v,q,S1,S2,e1,e2,h,k⟩,t=>⟨v,q,S1,S2,e1,e2,aEF H N U h (t x (by simp)),yC k (λc hc=>t c (by simp [hc]))⟩
theorem aBo {b:Nat} {blk:Blk} {S:List Nat} (hb:b∈rl) (r:BlkOk w h1 u1 ν1 b blk S) (t: ∀ cs∈blk.es,∀ c∈cs,aAE rl c=true):BlkOk w h2 u2 ν2 b blk S:=by
 refine ⟨r.1,?_⟩;rcases r.2 with ⟨q1,q2,q3⟩|⟨β,c,arr,ty,T,vs,q1,q2,q3,q4,q5,q6,q7,q8⟩
 ·exact .inl ⟨(N b hb).trans q1,q2,q3⟩
 ·refine .inr ⟨β,c,arr,ty,T,vs,(N b hb).trans q1,q2,q3,q4,q5,q6,q7,yC H N U q8 λc hc=>?_⟩;obtain ⟨cs,hcs,hc⟩:=List.mem_flatten.1 hc;exact t cs hcs c hc
end
theorem rB {α β γ:Type} {R:α->γ->Prop} {Mt:α->β->Prop} {R':β->γ->Prop} (hc: ∀ x y v,R x v->Mt x y->R' y v): ∀ {xs:List α} {ys:List β} {vs:List γ},All2 R xs vs->All2 Mt xs ys->All2 R' ys vs
 | [],ys,vs,h,m=>by simp only [All2] at h m;subst h m;rfl
 |x::xs,ys,vs,⟨v,q,e,h,k⟩,⟨y,p,e2,m,m2⟩=>by
  subst e e2;exact ⟨v,q,rfl,hc x y v h m,rB hc k m2⟩
theorem qI {w:World} {h:Hp} {u:Us} {ν:Nu} {b:Nat} {blk:Blk} {S:List Nat} (r:BlkOk w h u ν b blk S) {β c:Nat} (hν:ν b=some (β,c)):β∈S:=by
 rcases r.2 with ⟨q1,_,_⟩|⟨β',c',arr,ty,T,vs,q1,q2,q3,q4,q5,q6,q7,q8⟩
 ·rw [hν] at q1;cases q1
 ·rw [hν] at q1;cases q1;rw [q6];simp
section
variable {P:Program} {dst:Option Tmp} {ty:TypeId} {pos:String} {aft:Array Edge} {g:Option (Nat×Bool)} {ins:Operand->Option AV} {hp:Hp} {κ:Kp}
theorem aEG {fo:Operand} {xs:Array Operand} {ats:Array TypeId} {f:FuncId} {caps avs av2 ds:List AV} {hl hl' hl2:List (Nat×Blk)} {kp n':Nat} {r r2:AV} {σ σ':Nat->Option Nat} {touch news:List Nat} {ed:List (Nat×Option Blk)}
  (hc:HasE P f ds hl kp r hl') (hf:ins fo=some (.fn f caps)) (hx:evs ins xs.toList=some avs) (href: ∀ (C:Ctx) (s:AState) (ν:Nu) (a:Act) (w:World) (vs:List Value),s.kp=κ->Sim C s ν a w->All2 (RepA w s.heap s.used ν) (avs++caps) vs->All2 (RepA w s.heap s.used ν) av2 vs) (hav:All2 (kN σ kp) av2 ds) (hh:kX σ kp hp hl) (hi:rZ σ hl=true) (hit:pC σ touch hl=true) (hlive:(touch.all λb=>(hp b).isSome)=true)
  (hh':kX σ' n' (gF hl') hl2) (hi':rZ σ' hl2=true) (hr:kN σ' n' r r2) (hbk:yA σ σ' kp news hl2=true) (htl:aDQ (touch++news) hl2) (htr:aFO (touch++news) r2=true) (he:sG (touch++news) hl2=ed):
  AEff P ⟨dst,.call ⟨.value fo,xs,ats⟩,ty,pos,aft,g⟩ ins hp κ ⟨r2,touch,ed,news⟩:=by
 refine ⟨λC s ν a w Q K {hκ} hi0 ht hnw hd hs hK=>?_⟩;have hfn:=hs.ev ((hi0 fo (by simp [Op.operands,Call.operands])).trans hf);simp only [RepA,RepB] at hfn;obtain ⟨cv,hfv,hcap⟩:=hfn;have hval:=wR hs (xs:=xs.toList) (λy hy=>hi0 y (by simp [Op.operands,Call.operands];exact .inr (Array.mem_toList_iff.1 hy))) hx;obtain ⟨φ,hφ⟩:=hs.heap;let h3:Hp:=λb=>if b∈touch then s.heap b else none
 have sub: ∀ b blk,h3 b=some blk->s.heap b=some blk/\b∈touch:=by
  intro b blk hb;by_cases e:b∈touch
  ·simp only [h3,bT e] at hb;exact ⟨hb,e⟩
  ·simp only [h3,bM e] at hb;cases hb
 let M2:Nat->Prop:=λx=>(∃ b,b∈touch/\s.heap b≠none/\x∈φ b)∨w.heap.size<=x
 have hM2: ∀ x,M2 x->C.M x:=by
  rintro x (⟨b,_,hb,hx⟩|hx)
  ·obtain ⟨blk,hb⟩:=Option.ne_none_iff_exists'.1 hb;exact (hφ.blk b blk hb).2.2.2 x hx
  ·exact hs.fresh x hx
 have hk3:HeapOk M2 w h3 s.used ν φ:=hφ.shrink (λb blk hb=>(sub b blk hb).1) (λb x hb hx _=>by
  obtain ⟨blk,hb⟩:=Option.ne_none_iff_exists'.1 hb;obtain ⟨e1,e2⟩:=sub b blk hb
  exact .inl ⟨b,e2,by rw [e1];simp,hx⟩)
 have hent:kX σ kp h3 hl:=pD (h:=hp) (touch:=touch) (λb hb=>by simp only [h3,bT hb];exact ht b hb) hit hh;have cv1:=wY (w:=w) (u:=s.used) (ν:=ν) hent hi;have hk4:=cv1.heap hk3;have shr3:Ext w s.heap s.used ν w h3 s.used ν:=(Ext.refl _ _ _ _).shrink (λb blk hb=>(sub b blk hb).1)
 have hargs:All2 (RepA w (gF hl) (nK kp) (jC σ ν)) ds (xs.toList.map a.eval++cv):=
  rB (R:=RepA w s.heap s.used ν) (Mt:=kN σ kp) (R':=RepA w (gF hl) (nK kp) (jC σ ν)) (λx y v hx hm=>cv1.rep (RepA.ext shr3 hx) hm) (href C s ν a w _ hκ hs (hval.append (hcap.mono λx v h=>Rep1.repA h))) hav
 have hcall:=hc.calls C.B M2 w ((xs.map a.eval)++cv.toArray) (jC σ ν) _ (λx hx=>C.low x (hM2 x hx)) hs.base (λx hx=> .inr hx) (λx hx=>hs.okM x (hM2 x hx)) (by simpa using hargs) hk4;unfold Oper.wp
 have hex:(execOp a.eval ⟨dst,.call ⟨.value fo,xs,ats⟩,ty,pos,aft,g⟩).run P w= .ok (.enter f ((xs.map a.eval)++cv.toArray)) w:=by
  have:execOp a.eval ⟨dst,.call ⟨.value fo,xs,ats⟩,ty,pos,aft,g⟩=callFunc f ((xs.map a.eval)++cv.toArray):=by
   simp [execOp,resolve,hfv,Deferred.ofValue,invoke]
  rw [this];exact hc.enters _ _
 rw [hex];simp only [Oper.upon];refine hcall.mono λe w' ⟨v,u1,ν1,φ1,hev,hbel,hext,hh1,hrep⟩=>?_;subst hev;simp only;have cv2:=wY (w:=w') (u:=u1) (ν:=ν1) hh' hi';have hh2:=cv2.heap hh1;generalize hrl:touch++news=rl at*;let ν':Nu:=⟨λb=>if b∈rl then jC σ' ν1 b else ν b,ν.ok⟩;have hν1: ∀ b,b∈rl->ν' b=jC σ' ν1 b:=λb hb=>bT hb;have hν2: ∀ b,b ∉ rl->ν' b=ν b:=λb hb=>bM hb;have hheq: ∀ b,aQ ed s.heap b=if b∈rl then gF hl2 b else s.heap b:=λb=>by rw [←he];exact yB
 have hhe1: ∀ b,b∈rl->aQ ed s.heap b=gF hl2 b:=λb hb=>by rw [hheq,bT hb]
 have hhe2: ∀ b,b ∉ rl->aQ ed s.heap b=s.heap b:=λb hb=>by rw [hheq,bM hb]
 have hused: ∀ b,b∈rl->dS news s.used b=true:=by
  intro b hb;rw [←hrl] at hb;rw [hU];rcases cP.1 hb with h|h
  ·have h5:=List.all_eq_true.1 hlive b h;rw [←ht b h] at h5;cases hq:s.heap b with
   |none=>rw [hq] at h5;cases h5
   |some blk=>rw [(hφ.blk b blk hq).1,Bool.or_true]
  ·have:news.contains b=true:=by simpa using h
   rw [this,Bool.true_or]
 have hfree3: ∀ x,pU s.heap ν x->pU (gF hl) (jC σ ν) x:=λx hf=>cv1.free x λb blk β c hb hν=>hf b blk β c (sub b blk hb).1 hν
 have extc:Ext w s.heap s.used ν w' (aQ ed s.heap) (dS news s.used) ν':=by
  refine ⟨λb hb=>by rw [hU,hb,Bool.or_true],λb blk' hu hb=>?_,λx hx hfr=>?_,rfl⟩
  ·by_cases e:b∈rl
   ·rw [hhe1 b e] at hb;obtain ⟨i,e1,e2⟩:=vG hbk (gH hb);obtain ⟨x,f1,f2,f3⟩:=(cv2.look b blk' hb).1 i e1;rcases e2 with e2|⟨e2,e3⟩
    ·rw [hnw b e2] at hu;cases hu
    ·obtain ⟨blk0,g1,g2,g3,g4⟩:=hext.old i x e2 f1;obtain ⟨z,k1,k2,k3⟩:=(cv1.look i blk0 g1).1 b e3;refine ⟨z,(sub b z k1).1,k2.trans (g2.trans f2),k3.trans (g3.trans f3),?_⟩;rw [hν1 b e];simp only [jC,e1];rw [g4];simp only [jC,e3]
   ·rw [hhe2 b e] at hb;exact ⟨blk',hb,rfl,rfl,hν2 b e⟩
  ·obtain ⟨p1,p2⟩:=hext.free x hx (hfree3 x hfr);refine ⟨p1,λb blk β c hb hν=>?_⟩;by_cases e:b∈rl
   ·rw [hhe1 b e] at hb;rw [hν1 b e] at hν;exact cv2.free x p2 b blk β c hb hν
   ·rw [hhe2 b e] at hb;rw [hν2 b e] at hν;exact hfr b blk β c hb hν
 have hout: ∀ b blk x,s.heap b=some blk->b ∉ rl->x∈φ b->w'.heap[x]? =w.heap[x]? :=by
  intro b blk x hb hbr hx;refine (hext.free x ((hφ.blk b blk hb).2.1.lt x hx) (cv1.free x λb2 blk2 β c hb2 hν2=>?_)).1;rintro rfl;obtain ⟨e1,e2⟩:=sub b2 blk2 hb2;have hne:b2≠b:=by rintro rfl;exact hbr (by rw [←hrl];exact List.mem_append_left _ e2)
  exact hφ.apart b2 b β (by rw [e1];simp) (by rw [hb];simp) hne (qI (hφ.blk b2 blk2 e1).2.1 hν2) hx
 have hcross: ∀ b c x,gF hl2 b≠none->s.heap c≠none->c ∉ rl->x∈(match σ' b with|some b0=>φ1 b0|none=>[])->x ∉ φ c:=by
  intro b c x hb hc' hcr hx hx2;obtain ⟨y1,hy1⟩:=Option.ne_none_iff_exists'.1 hb;obtain ⟨y2,hy2⟩:=Option.ne_none_iff_exists'.1 hc';rcases (hh2.blk b y1 hy1).2.2.2 x hx with ⟨b2,e1,e2,e3⟩|e1
  ·have hne:b2≠c:=by rintro rfl;exact hcr (by rw [←hrl];exact List.mem_append_left _ e1)
   exact hφ.apart b2 c x e2 hc' hne e3 hx2
  ·have:=(hφ.blk c y2 hy2).2.1.lt x hx2;omega
 refine hK ν' _ _ (hs.step hd (s':=s.app dst ⟨r2,touch,ed,news⟩) extc hbel ⟨λb=>if b∈rl then (match σ' b with|some b0=>φ1 b0|none=>[]) else φ b,?_,?_⟩ rfl ?_)
 ·intro b blk' hb;replace hb:aQ ed s.heap b=some blk':=hb;by_cases e:b∈rl
  ·rw [hhe1 b e] at hb;simp only [bT e];obtain ⟨_,g2,g3,g4⟩:=hh2.blk b blk' hb;exact ⟨hused b e,aBo (h1:=gF hl2) (u1:=nK n') (ν1:=jC σ' ν1) hhe1 hν1 hused e g2 (aAF htl (gH hb)).2,g3,λx hx=>hM2 x (g4 x hx)⟩
  ·rw [hhe2 b e] at hb;simp only [bM e];obtain ⟨g1,g2,g3,g4⟩:=hφ.blk b blk' hb;exact ⟨extc.used b g1,g2.ext extc (hν2 b e) (λx hx=>hout b blk' x hb e hx),g3,g4⟩
 ·intro b c x hb hc' hne hxb hxc;replace hb:aQ ed s.heap b≠none:=hb;replace hc':aQ ed s.heap c≠none:=hc';by_cases e1:b∈rl <;> by_cases e2:c∈rl
  ·simp only [bT e1] at hxb;simp only [bT e2] at hxc;rw [hhe1 b e1] at hb;rw [hhe1 c e2] at hc';exact hh2.apart b c x hb hc' hne hxb hxc
  ·simp only [bT e1] at hxb;simp only [bM e2] at hxc;rw [hhe1 b e1] at hb;rw [hhe2 c e2] at hc';exact hcross b c x hb hc' e2 hxb hxc
  ·simp only [bM e1] at hxb;simp only [bT e2] at hxc;rw [hhe2 b e1] at hb;rw [hhe1 c e2] at hc';exact hcross c b x hc' hb e1 hxc hxb
  ·simp only [bM e1] at hxb;simp only [bM e2] at hxc;rw [hhe2 b e1] at hb;rw [hhe2 c e2] at hc';exact hφ.apart b c x hb hc' hne hxb hxc
 ·exact aEE (h1:=gF hl2) (u1:=nK n') (ν1:=jC σ' ν1) hhe1 hν1 hused (cv2.rep hrep hr) htr
theorem yD {fo:Operand} {xs:Array Operand} {ats:Array TypeId} {f:FuncId} {caps avs ds:List AV} {hl hl' hl2:List (Nat×Blk)} {kp n':Nat} {r r2:AV} {σ σ':Nat->Option Nat} {touch news:List Nat} {ed:List (Nat×Option Blk)}
  (hc:HasE P f ds hl kp r hl') (hf:ins fo=some (.fn f caps)) (hx:evs ins xs.toList=some avs) (hav:All2 (kN σ kp) (avs++caps) ds) (hh:kX σ kp hp hl) (hi:rZ σ hl=true) (hit:pC σ touch hl=true) (hlive:(touch.all λb=>(hp b).isSome)=true)
  (hh':kX σ' n' (gF hl') hl2) (hi':rZ σ' hl2=true) (hr:kN σ' n' r r2) (hbk:yA σ σ' kp news hl2=true) (htl:aDQ (touch++news) hl2) (htr:aFO (touch++news) r2=true) (he:sG (touch++news) hl2=ed):
  AEff P ⟨dst,.call ⟨.value fo,xs,ats⟩,ty,pos,aft,g⟩ ins hp κ ⟨r2,touch,ed,news⟩:=
 aEG hc hf hx (λ_ _ _ _ _ _ _ _ h=>h) hav hh hi hit hlive hh' hi' hr hbk htl htr he
end
section
variable {P:Program} {T:List (Nat×Ty)} (hT:TyOk P T) {dst:Option Tmp} {ty:TypeId} {pos:String} {aft:Array Edge} {g:Option (Nat×Bool)} {s:AState}
def bnd (s:AState) (d:Nat):Option Operand->Option Int
 |none=>some d
 |some x=>match s.ev x with|some (.sc (.int _ n))=>some n|_=>none
theorem mB {lo hi:Option Value} {len cap:Nat} {l h:Int} (w:World) (hl:(lo=none/\l=0)∨ ∃ k,lo=some (.int k l)) (hh:(hi=none/\h=len)∨ ∃ k,hi=some (.int k h)) (h0:0<=l) (h1:l<=h) (h2:h<=len) (h3:len<=cap):
  (Instr.sliceBounds true len cap lo hi none).run P w= .ok (l.toNat,h.toNat,cap) w:=by
 have eh:(h.toNat:Int)=h:=by omega
 have hhc:0<=h/\h<=(cap:Int):=by omega
 rcases hl with ⟨rfl,rfl⟩|⟨k,rfl⟩ <;> rcases hh with ⟨rfl,rfl⟩|⟨k',rfl⟩ <;> simp [Instr.sliceBounds,Instr.sliceBound,asIntOf,h0,hhc,eh,Int.not_lt.2 h1,h1]
include hT
theorem lW {x:Operand} {lo hi:Option Operand} {t e:Nat} {y ye:Ty} {b i n:Nat} {blk:Blk} {l h:Int} (q:(decide (0<=l)&&(decide (l<=h)&&decide (h<=(n:Int))))=true) (hx:s.ev x=some (.own b i n)) (hb:s.heap b=some blk) (hlo:bnd s 0 lo=some l) (hhi:bnd s n hi=some h) (hy:cI T t=some y) (hd:y.desc= .slice e) (hye:cI T e=some ye) (hk:ye.size=blk.k):
  AEff P ⟨dst,.slice t x lo hi none,ty,pos,aft,g⟩ s.ev s.heap s.kp ⟨.own b (i+l.toNat) (h.toNat - l.toNat),[b],[],[]⟩:=by
 simp only [cD,fW] at q;refine AEff.pure λC s' ν a w hi' ht hs=>?_;have hb':s'.heap b=some blk:=(ht b (by simp)).trans hb;have h1:=hs.ev ((hi' x (by simp [Op.operands])).trans hx);simp only [RepA,RepB,Rep1] at h1;obtain ⟨h3,h4,h5⟩:=h1.2 blk hb';obtain ⟨φ,hh⟩:=hs.heap;obtain ⟨_,⟨_,hx2⟩,_,_⟩:=hh.blk b blk hb';obtain ⟨i1,z1,d1,y1⟩:=hT.is hy;obtain ⟨i2,z2,d2,y2⟩:=hT.is hye
 have hlo':((lo.map a.eval)=none/\l=0)∨ ∃ k,lo.map a.eval=some (.int k l):=by
  cases lo with
  |none=>simp only [bnd,Option.some.injEq] at hlo;exact .inl ⟨rfl,by omega⟩
  |some z=>
   simp only [bnd] at hlo;split at hlo
   ·rename_i kk m hz;cases hlo;have:=hs.ev ((hi' z (by simp [Op.operands])).trans hz);simp only [RepA,RepB,Rep1] at this;exact .inr ⟨kk,by simp [this.1]⟩
   ·cases hlo
 have hhi':((hi.map a.eval)=none/\h=n)∨ ∃ k,hi.map a.eval=some (.int k h):=by
  cases hi with
  |none=>simp only [bnd,Option.some.injEq] at hhi;exact .inl ⟨rfl,by omega⟩
  |some z=>
   simp only [bnd] at hhi;split at hhi
   ·rename_i kk m hz;cases hhi;have:=hs.ev ((hi' z (by simp [Op.operands])).trans hz);simp only [RepA,RepB,Rep1] at this;exact .inr ⟨kk,by simp [this.1]⟩
   ·cases hhi
 rcases hx2 with ⟨q1,q2,_⟩|⟨β,c,arr,ty',T',vs,q1,q2,q3,q4,q5,q6,q7,q8⟩
 ·rw [q2] at h3;have hn:n=0:=by simp at h3;omega
  have hi0:i=0:=by simp at h3;omega
  subst hn hi0;have hl0:l=0:=by omega
  have hh0:h=0:=by omega
  subst hl0 hh0;refine ⟨.slice none 0 0,?_,?_⟩
  ·have hsb:=mB (P:=P) (len:=0) (cap:=0) w hlo' hhi' (by omega) (by omega) (by omega) (by omega);simp only [execOp,Instr.sliceAt,Instr.slice,h4 q1,Sem.run_bind,iS (y1.slice hd),Result.andThen_ok,gP y2.info,Option.map_none];rw [hsb];simp
  ·simp only [RepA,RepB,Rep1];refine ⟨h1.1,λblk2 hb2=>?_⟩;rw [hb'] at hb2;cases hb2;exact ⟨by simp,λ_=>by first|rfl|trivial,λβ c hν=>by rw [q1] at hν;cases hν⟩
 ·obtain ⟨o,ho,ho2⟩:=h5 β c q1;have hsb:=mB (P:=P) (len:=n) (cap:=c - i) w hlo' hhi' q.1 q.2.1 q.2.2 (by omega);refine ⟨.slice (if c - i=l.toNat then some ⟨β,o,none⟩ else some ⟨β,o+l.toNat*ye.size,none⟩) (h.toNat - l.toNat) (c - i - l.toNat),?_,?_⟩
  ·simp only [execOp,Instr.sliceAt,Instr.slice,ho,Sem.run_bind,iS (y1.slice hd),Result.andThen_ok,gP y2.info,y2.size,Option.map_none];rw [hsb];by_cases e:c - i=l.toNat <;> simp [e,Addr.add]
  ·simp only [RepA,RepB,Rep1];refine ⟨h1.1,λblk2 hb2=>?_⟩;rw [hb'] at hb2;cases hb2;refine ⟨by omega,λhν=>(by rw [q1] at hν;cases hν),λβ' c' hν=>?_⟩;rw [q1] at hν;cases hν;by_cases e:c - i=l.toNat
   ·rw [bT e];by_cases hz:i+l.toNat=0
    ·have hi0:i=0:=by omega
     have hl0:l.toNat=0:=by omega
     refine ⟨o,by congr 1;omega,.inl ?_⟩;rcases ho2 with rfl|ho2
     ·rw [hi0,hl0]
     ·omega
    ·exact ⟨o,by congr 1;omega,.inr ⟨by omega,by omega⟩⟩
   ·rw [bM e];refine ⟨o+l.toNat*ye.size,by congr 1;omega,.inl ?_⟩;rcases ho2 with rfl|ho2
    ·rw [hk,Nat.add_mul]
    ·omega
omit hT in
theorem RepEs.dropT {w:World} {k b:Nat} : ∀ {m o:Nat} {es:List (List AV)} {S:List Nat},RepEs w k b o es S-> ∃ U,RepEs w k b (o+m*k) (es.drop m) U/\ ∀ x∈U,x∈S
 |0,o,es,S,h=>⟨S,by simpa using h,λ_ h=>h⟩
 |m+1,o,[],S,h=>⟨[],by simp [RepEs],by simp⟩
 |m+1,o,c::es,S,h=>by
  simp only [RepEs] at h;obtain ⟨S1,S2,rfl,h2,h3,h4⟩:=h;obtain ⟨U,h5,h6⟩:=h4.dropT (m:=m);exact ⟨U,by rw [List.drop_succ_cons,show o+(m+1)*k=o+k+m*k by rw [Nat.add_mul];omega];exact h5,λx hx=>by simp [h6 x hx]⟩
omit hT in
theorem RepEs.takeT {w:World} {k b:Nat} : ∀ {m o:Nat} {es:List (List AV)} {S:List Nat},RepEs w k b o es S-> ∃ U,RepEs w k b o (es.take m) U/\ ∀ x∈U,x∈S
 |0,o,es,S,h=>⟨[],by simp [RepEs],by simp⟩
 |m+1,o,[],S,h=>⟨[],by simp [RepEs],by simp⟩
 |m+1,o,c::es,S,h=>by
  simp only [RepEs] at h;obtain ⟨S1,S2,rfl,h2,h3,h4⟩:=h;obtain ⟨U,h5,h6⟩:=h4.takeT (m:=m);refine ⟨S1++U,by rw [List.take_succ_cons];simp only [RepEs];exact ⟨S1,U,rfl,h2,h3,h5⟩,λx hx=>?_⟩;rcases cP.1 hx with h|h
  ·simp [h]
  ·simp [h6 x h]
theorem aAs {α:Type} {k:Nat} {en:α->List AV} {x:Operand} {lo hi:Option Operand} {t e:Nat} {y ye:Ty} {l0:List α} {l h:Int} (q:(decide (0<=l)&&(decide (l<=h)&&decide (h<=(l0.length:Int))))=true) (hx:s.ev x=some (.list k (l0.map en))) (hlo:bnd s 0 lo=some l) (hhi:bnd s l0.length hi=some h) (hy:cI T t=some y) (hd:y.desc= .slice e) (hye:cI T e=some ye) (hk:ye.size=k):
  AEff P ⟨dst,.slice t x lo hi none,ty,pos,aft,g⟩ s.ev s.heap s.kp ⟨.list k (((l0.drop l.toNat).take (h.toNat - l.toNat)).map en),[],[],[]⟩:=by
 simp only [cD,fW] at q;refine AEff.pure λC s' ν a w hi' ht hs=>?_;have h1:=hs.ev ((hi' x (by simp [Op.operands])).trans hx);simp only [RepA,RepB,Rep1,RepD] at h1;obtain ⟨S,⟨ao,c,h3,h4,h5,h6⟩,h7⟩:=h1;rw [dD] at h3 h4;obtain ⟨i1,z1,d1,y1⟩:=hT.is hy;obtain ⟨i2,z2,d2,y2⟩:=hT.is hye
 have hlo':((lo.map a.eval)=none/\l=0)∨ ∃ k,lo.map a.eval=some (.int k l):=by
  cases lo with
  |none=>simp only [bnd,Option.some.injEq] at hlo;exact .inl ⟨rfl,by omega⟩
  |some z=>
   simp only [bnd] at hlo;split at hlo
   ·rename_i kk m hz;cases hlo;have:=hs.ev ((hi' z (by simp [Op.operands])).trans hz);simp only [RepA,RepB,Rep1] at this;exact .inr ⟨kk,by simp [this.1]⟩
   ·cases hlo
 have hhi':((hi.map a.eval)=none/\h=(l0.length:Nat))∨ ∃ k,hi.map a.eval=some (.int k h):=by
  cases hi with
  |none=>simp only [bnd,Option.some.injEq] at hhi;exact .inl ⟨rfl,by omega⟩
  |some z=>
   simp only [bnd] at hhi;split at hhi
   ·rename_i kk m hz;cases hhi;have:=hs.ev ((hi' z (by simp [Op.operands])).trans hz);simp only [RepA,RepB,Rep1] at this;exact .inr ⟨kk,by simp [this.1]⟩
   ·cases hhi
 have hsb:=mB (P:=P) (len:=l0.length) (cap:=c) w hlo' hhi' q.1 q.2.1 q.2.2 (by omega);have hlen:((l0.drop l.toNat).take (h.toNat - l.toNat)).length=h.toNat - l.toNat:=by simp;omega
 refine ⟨.slice (if c=l.toNat then ao else ao.map (·.add (l.toNat*ye.size))) (h.toNat - l.toNat) (c - l.toNat),?_,?_⟩
 ·simp only [execOp,Instr.sliceAt,Instr.slice,h3,Sem.run_bind,iS (y1.slice hd),Result.andThen_ok,gP y2.info,y2.size,Option.map_none];rw [hsb];by_cases e:c=l.toNat <;> simp [e]
 ·simp only [RepA,RepB,Rep1,RepD,dD,hlen];by_cases hz:h.toNat - l.toNat=0
  ·refine ⟨[],⟨_,_,rfl,by omega,by omega,.inl ⟨?_,rfl⟩⟩,by simp⟩;rw [hz];simp
  ·rcases h6 with ⟨h6,_⟩|⟨b,o,S',rfl,h8,rfl,h9⟩
   ·have:l0.length=0:=by simpa using h6
    omega
   ·rw [bM (by omega)];obtain ⟨U1,g1,g2⟩:=h9.dropT (m:=l.toNat);obtain ⟨U2,g3,g4⟩:=g1.takeT (m:=h.toNat - l.toNat);refine ⟨b::U2,⟨_,_,rfl,by omega,by omega,.inr ⟨b,o+l.toNat*k,U2,by simp [Addr.add_lit,hk],h8,rfl,?_⟩⟩,?_⟩
    ·rw [List.map_take,List.map_drop];exact g3
    ·intro y hy;rcases bX.1 hy with rfl|h'
     ·exact h7 y (by simp)
     ·exact h7 y (by simp [g2 y (g4 y h')])
theorem vI {x ix:Operand} {t et:Nat} {y ye:Ty} {b i n kz:Nat} {es:List (List AV)} {kk:IntKind} {j:Int} (q:(decide (0<=j)&&decide (j<(n:Int)))=true) (hx:s.ev x=some (.own b i n)) (hb:s.heap b=some ⟨kz,es⟩) (hix:s.ev ix=some (.sc (.int kk j))) (hy:cI T t=some y) (hd:y.desc= .slice et) (hye:cI T et=some ye) (hk:ye.size=kz):
  AEff P ⟨dst,.indexAddr t x ix,ty,pos,aft,g⟩ s.ev s.heap s.kp ⟨.ptr b (i+j.toNat) 0,[b],[],[]⟩:=by
 simp only [cD,fW] at q;exact aBd hT hy hd hye hx hb hk hix q.1 q.2
omit hT in
theorem aGc {σ:Nat->Option Nat} {m:Nat} {α:Type} {k:Nat} {e:α->List AV} {c d:List AV} {i:Nat} (E:EOk k e) (h:All2 (iQ σ m) c d): ∀ {l:List α} {i:Nat},All2 (All2 (iQ σ m)) ((l.map (ow e)).set i c) ((l.map (ow e)).set i d):=by
 have hs: ∀ x,All2 (iQ σ m) (ow e x) (ow e x):=by
  intro x
  have:=tZ (R:=iQ σ m) (f:=nE) (g:=nE) (cs:=e x) (λc hc=>by
   have:=E.mem x c hc
   cases c <;> simp only [lF,eC] at this <;> simp [nE,iQ,cZ])
  exact this
 have hl: ∀ l:List α,All2 (All2 (iQ σ m)) (l.map (ow e)) (l.map (ow e)):=λl=>rA hs;intro l;induction l with
 |nil=>intro i;rfl
 |cons x l ih=>
  intro i;cases i with
  |zero=>exact ⟨_,_,rfl,h,hl l⟩
  |succ i=>exact ⟨_,_,rfl,hs x,ih⟩
omit hT in
theorem uA {t:TypeId} {x z:Operand} {a b:Int} {dty:TypeId} (hx:s.ev x=some (.int a)) (hz:s.ev z=some (.int b)):
  AEff P ⟨dst,.call ⟨.builtin .max,#[x,z],#[t,t]⟩,dty,pos,aft,g⟩ s.ev s.heap s.kp ⟨.int (max a b),[],[],[]⟩:=
 AEff.pure λC s' ν ac w hi ht hs=>by
  have h1:=hs.ev ((hi x (by simp [Op.operands,Call.operands])).trans hx);have h2:=hs.ev ((hi z (by simp [Op.operands,Call.operands])).trans hz);simp only [RepA,RepB,Rep1] at h1 h2;refine ⟨.int .i64 (max a b),?_,mQ rfl⟩;simp [execOp,resolve,invoke,builtin,h1.1,h2.1,Builtin.max_,Builtin.max2];rw [Int.max_def];split <;> split <;> omega
omit hT in
theorem uB {t:TypeId} {x z:Operand} {a b:Int} {dty:TypeId} (hx:s.ev x=some (.int a)) (hz:s.ev z=some (.int b)):
  AEff P ⟨dst,.call ⟨.builtin .min,#[x,z],#[t,t]⟩,dty,pos,aft,g⟩ s.ev s.heap s.kp ⟨.int (min a b),[],[],[]⟩:=
 AEff.pure λC s' ν ac w hi ht hs=>by
  have h1:=hs.ev ((hi x (by simp [Op.operands,Call.operands])).trans hx);have h2:=hs.ev ((hi z (by simp [Op.operands,Call.operands])).trans hz);simp only [RepA,RepB,Rep1] at h1 h2;refine ⟨.int .i64 (min a b),?_,mQ rfl⟩;simp [execOp,resolve,invoke,builtin,h1.1,h2.1,Builtin.min_,Builtin.min2];rw [Int.min_def];split <;> split <;> omega
omit hT in
theorem aCj {α β:Type} {f:α->β} {l:List α} {i:Nat} {c:β} (x:α) (h:c=f x):(l.map f).set i c=(l.set i x).map f:=by rw [h,List.map_set]
end
end
end Go.Proofs.YtckihlpjfmnccaaGreatDoor

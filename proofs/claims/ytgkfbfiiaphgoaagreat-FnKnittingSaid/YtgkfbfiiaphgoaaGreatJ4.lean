/-
  Several texts of the claim in one.
-/
import Derived.Test.YtgkfbfiiaphgoaaGreatProg
import Derived.Test.YtgkfbfiiaphgoaaGreatJ3
set_option linter.unusedVariables false
set_option linter.unusedSimpArgs false
namespace Go.Proofs.YtgkfbfiiaphgoaaGreat
open Go.RowKit
noncomputable section
def TT:List (Nat×Ty):=[
 (1,⟨.sc,1,8,[.sc .nilFunc]⟩),
 (2,⟨.sc,1,8,[.sc (.int .i64 0)]⟩),
 (3,⟨.sc,1,8,[.sc (.int .i64 0)]⟩),
 (4,⟨.sc,1,1,[.sc (.bool false)]⟩),
 (5,⟨.sc,1,1,[.sc (.int .u8 0)]⟩),
 (6,⟨.sc,1,1,[.sc (.int .u8 0)]⟩),
 (7,⟨.struct [(0,2),(1,3),(2,4),(3,6)],4,24,[.sc (.int .i64 0),.sc (.int .i64 0),.sc (.bool false),.sc (.int .u8 0)]⟩),
 (8,⟨.struct [(0,2),(1,3),(2,4),(3,6)],4,24,[.sc (.int .i64 0),.sc (.int .i64 0),.sc (.bool false),.sc (.int .u8 0)]⟩),
 (9,⟨.sc,1,16,[.sc (.string ⟨#[]⟩)]⟩),
 (10,⟨.sc,1,16,[.sc (.string ⟨#[]⟩)]⟩),
 (11,⟨.sc,1,16,[.sc (.string ⟨#[]⟩)]⟩),
 (12,⟨.sc,1,8,[.sc (.int .u64 0)]⟩),
 (13,⟨.struct [(0,9),(1,12)],2,24,[.sc (.string ⟨#[]⟩),.sc (.int .u64 0)]⟩),
 (14,⟨.struct [(0,9),(1,12)],2,24,[.sc (.string ⟨#[]⟩),.sc (.int .u64 0)]⟩),
 (21,⟨.sc,1,4,[.sc (.int .i32 0)]⟩),
 (22,⟨.slice 5,1,24,[.nil 1]⟩),
 (23,⟨.sc,1,8,[.sc .nilFunc]⟩),
 (24,⟨.slice 3,1,24,[.nil 1]⟩),
 (25,⟨.struct [(0,3),(1,24),(2,24)],3,56,[.sc (.int .i64 0),.nil 1,.nil 1]⟩),
 (26,⟨.struct [(0,3),(1,24),(2,24)],3,56,[.sc (.int .i64 0),.nil 1,.nil 1]⟩),
 (28,⟨.sc,1,8,[.sc .nilFunc]⟩),
 (29,⟨.sc,1,8,[.sc .nilFunc]⟩),
 (30,⟨.sc,1,8,[.sc .nilFunc]⟩),
 (31,⟨.slice 81,1,24,[.nil 3]⟩),
 (32,⟨.struct [(0,3),(1,26),(4,24),(5,31)],6,112,[.sc (.int .i64 0),.sc (.int .i64 0),.nil 1,.nil 1,.nil 1,.nil 3]⟩),
 (33,⟨.struct [(0,3),(1,26),(4,24),(5,31)],6,112,[.sc (.int .i64 0),.sc (.int .i64 0),.nil 1,.nil 1,.nil 1,.nil 3]⟩),
 (35,⟨.sc,1,8,[.sc .nilFunc]⟩),
 (36,⟨.sc,1,8,[.sc .nilFunc]⟩),
 (37,⟨.sc,1,8,[.sc .nilFunc]⟩),
 (38,⟨.slice 24,1,24,[.nil 1]⟩),
 (40,⟨.sc,1,8,[.sc .nilFunc]⟩),
 (41,⟨.sc,1,8,[.sc .nilFunc]⟩),
 (42,⟨.sc,1,8,[.sc .nilFunc]⟩),
 (43,⟨.sc,1,8,[.sc .nilFunc]⟩),
 (44,⟨.sc,1,8,[.sc .nilFunc]⟩),
 (46,⟨.sc,1,8,[.sc .nilFunc]⟩),
 (48,⟨.sc,1,8,[.sc .nilFunc]⟩),
 (49,⟨.sc,1,8,[.sc .nilFunc]⟩),
 (50,⟨.sc,1,8,[.sc .nilFunc]⟩),
 (52,⟨.sc,1,8,[.sc .nilFunc]⟩),
 (53,⟨.slice 62,1,24,[.nil 2]⟩),
 (55,⟨.sc,1,8,[.sc .nilFunc]⟩),
 (56,⟨.sc,1,8,[.sc .nilFunc]⟩),
 (57,⟨.sc,1,8,[.sc .nilFunc]⟩),
 (59,⟨.sc,1,8,[.sc .nilFunc]⟩),
 (60,⟨.sc,1,8,[.sc .nilFunc]⟩),
 (61,⟨.struct [(0,3),(1,38)],2,32,[.sc (.int .i64 0),.nil 1]⟩),
 (62,⟨.struct [(0,3),(1,38)],2,32,[.sc (.int .i64 0),.nil 1]⟩),
 (64,⟨.sc,1,8,[.sc .nilFunc]⟩),
 (65,⟨.sc,1,8,[.sc .nilFunc]⟩),
 (66,⟨.sc,1,8,[.sc .nilFunc]⟩),
 (67,⟨.sc,1,8,[.sc .nilFunc]⟩),
 (68,⟨.sc,1,8,[.sc .nilFunc]⟩),
 (69,⟨.sc,1,8,[.sc .nilFunc]⟩),
 (71,⟨.sc,1,8,[.sc .nilFunc]⟩),
 (72,⟨.sc,1,8,[.sc .nilFunc]⟩),
 (74,⟨.sc,1,8,[.sc .nilFunc]⟩),
 (76,⟨.sc,1,8,[.sc .nilFunc]⟩),
 (77,⟨.sc,1,8,[.sc .nilFunc]⟩),
 (78,⟨.sc,1,8,[.sc .nilFunc]⟩),
 (79,⟨.sc,1,8,[.sc .nilFunc]⟩),
 (80,⟨.struct [(0,3),(1,3),(2,24)],3,40,[.sc (.int .i64 0),.sc (.int .i64 0),.nil 1]⟩),
 (81,⟨.struct [(0,3),(1,3),(2,24)],3,40,[.sc (.int .i64 0),.sc (.int .i64 0),.nil 1]⟩),
 (82,⟨.sc,1,8,[.sc .nilFunc]⟩),
 (84,⟨.sc,1,8,[.sc .nilFunc]⟩),
 (85,⟨.sc,1,8,[.sc .nilFunc]⟩),
 (86,⟨.sc,1,8,[.sc .nilFunc]⟩),
 (87,⟨.sc,1,8,[.sc .nilFunc]⟩),
 (88,⟨.sc,1,8,[.sc .nilFunc]⟩),
 (89,⟨.sc,1,8,[.sc .nilFunc]⟩),
 (90,⟨.sc,1,8,[.sc .nilFunc]⟩),
 (91,⟨.sc,1,8,[.sc .nilFunc]⟩),
 (92,⟨.sc,1,8,[.sc .nilFunc]⟩),
 (93,⟨.sc,1,8,[.sc .nilFunc]⟩),
 (94,⟨.sc,1,8,[.sc .nilFunc]⟩),
 (95,⟨.sc,1,8,[.sc .nilFunc]⟩),
 (96,⟨.sc,1,8,[.sc .nilFunc]⟩),
 (97,⟨.sc,1,8,[.sc .nilFunc]⟩),
 (98,⟨.sc,1,8,[.sc .nilFunc]⟩),
 (99,⟨.slice 9,1,24,[.nil 1]⟩),
 (100,⟨.sc,1,8,[.sc .nilFunc]⟩),
 (101,⟨.sc,1,8,[.sc .nilFunc]⟩),
 (102,⟨.sc,1,8,[.sc .nilFunc]⟩),
 (103,⟨.sc,1,8,[.sc .nilFunc]⟩),
 (104,⟨.sc,1,8,[.sc .nilFunc]⟩),
 (105,⟨.sc,1,8,[.sc .nilFunc]⟩),
 (106,⟨.sc,1,8,[.sc .nilFunc]⟩),
 (107,⟨.sc,1,8,[.sc .nilFunc]⟩),
 (108,⟨.sc,1,8,[.sc .nilFunc]⟩),
 (109,⟨.sc,1,8,[.sc .nilFunc]⟩),
 (110,⟨.sc,1,8,[.sc .nilFunc]⟩),
 (111,⟨.sc,1,8,[.sc .nilFunc]⟩),
 (112,⟨.sc,1,8,[.sc .nilFunc]⟩),
 (113,⟨.sc,1,8,[.sc .nilFunc]⟩),
 (114,⟨.sc,1,8,[.sc .nilFunc]⟩),
 (115,⟨.sc,1,8,[.sc .nilFunc]⟩),
 (116,⟨.sc,1,8,[.sc .nilFunc]⟩),
 (118,⟨.sc,1,8,[.sc .nilFunc]⟩),
 (120,⟨.sc,1,8,[.sc .nilFunc]⟩),
 (121,⟨.sc,1,8,[.sc .nilFunc]⟩),
 (122,⟨.sc,1,8,[.sc .nilFunc]⟩),
 (123,⟨.sc,1,8,[.sc .nilFunc]⟩),
 (124,⟨.sc,1,8,[.sc .nilFunc]⟩),
 (125,⟨.sc,1,8,[.sc .nilFunc]⟩),
 (126,⟨.sc,1,8,[.sc .nilFunc]⟩),
 (127,⟨.sc,1,8,[.sc .nilFunc]⟩),
 (128,⟨.sc,1,8,[.sc .nilFunc]⟩),
 (129,⟨.sc,1,8,[.sc .nilFunc]⟩),
 (130,⟨.sc,1,8,[.sc .nilFunc]⟩),
 (131,⟨.sc,1,8,[.sc .nilFunc]⟩),
 (132,⟨.slice 31,1,24,[.nil 1]⟩),
 (134,⟨.sc,1,8,[.sc .nilFunc]⟩),
 (135,⟨.sc,1,8,[.sc .nilFunc]⟩),
 (136,⟨.sc,1,8,[.sc .nilFunc]⟩),
 (137,⟨.struct [(0,22),(1,3),(2,3)],3,40,[.nil 1,.sc (.int .i64 0),.sc (.int .i64 0)]⟩),
 (138,⟨.struct [(0,22),(1,3),(2,3)],3,40,[.nil 1,.sc (.int .i64 0),.sc (.int .i64 0)]⟩),
 (139,⟨.sc,1,8,[.sc .nilFunc]⟩),
 (140,⟨.sc,1,8,[.sc .nilFunc]⟩),
 (141,⟨.sc,1,8,[.sc .nilFunc]⟩),
 (143,⟨.sc,1,8,[.sc .nilFunc]⟩),
 (144,⟨.sc,1,8,[.sc .nilFunc]⟩),
 (145,⟨.sc,1,8,[.sc .nilFunc]⟩),
 (146,⟨.sc,1,8,[.sc .nilFunc]⟩),
 (147,⟨.sc,1,8,[.sc .nilFunc]⟩),
 (148,⟨.sc,1,8,[.sc .nilFunc]⟩),
 (149,⟨.sc,1,8,[.sc .nilFunc]⟩),
 (150,⟨.sc,1,8,[.sc .nilFunc]⟩),
 (151,⟨.sc,1,8,[.sc .nilFunc]⟩),
 (152,⟨.sc,1,8,[.sc .nilFunc]⟩),
 (153,⟨.sc,1,8,[.sc .nilFunc]⟩),
 (154,⟨.sc,1,8,[.sc .nilFunc]⟩),
 (155,⟨.sc,1,8,[.sc .nilFunc]⟩),
 (157,⟨.sc,1,8,[.sc .nilFunc]⟩),
 (158,⟨.sc,1,8,[.sc .nilFunc]⟩),
 (159,⟨.sc,1,8,[.sc .nilFunc]⟩),
 (160,⟨.sc,1,8,[.sc .nilFunc]⟩),
 (161,⟨.sc,1,8,[.sc .nilFunc]⟩),
 (162,⟨.sc,1,8,[.sc .nilFunc]⟩),
 (163,⟨.sc,1,8,[.sc .nilFunc]⟩),
 (164,⟨.sc,1,8,[.sc .nilFunc]⟩),
 (165,⟨.sc,1,8,[.sc .nilFunc]⟩),
 (166,⟨.sc,1,8,[.sc .nilFunc]⟩),
 (167,⟨.sc,1,8,[.sc .nilFunc]⟩),
 (168,⟨.sc,1,8,[.sc .nilFunc]⟩),
 (169,⟨.sc,1,8,[.sc .nilFunc]⟩),
 (170,⟨.sc,1,8,[.sc .nilFunc]⟩),
 (171,⟨.sc,1,8,[.sc .nilFunc]⟩),
 (172,⟨.sc,1,8,[.sc .nilFunc]⟩),
 (173,⟨.sc,1,8,[.sc .nilFunc]⟩),
 (174,⟨.sc,1,8,[.sc .nilFunc]⟩),
 (175,⟨.sc,1,8,[.sc .nilFunc]⟩),
 (176,⟨.sc,1,8,[.sc .nilFunc]⟩),
 (177,⟨.sc,1,8,[.sc (.int .u64 0)]⟩),
 (178,⟨.sc,1,8,[.sc .nilFunc]⟩),
 (179,⟨.sc,1,8,[.sc .nilFunc]⟩),
 (180,⟨.slice 38,1,24,[.nil 1]⟩),
 (181,⟨.sc,1,8,[.sc .nilFunc]⟩),
 (182,⟨.sc,1,8,[.sc .nilFunc]⟩),
 (183,⟨.slice 200,1,24,[.nil 2]⟩),
 (185,⟨.sc,1,8,[.sc .nilFunc]⟩),
 (186,⟨.sc,1,8,[.sc .nilFunc]⟩),
 (187,⟨.sc,1,8,[.sc .nilFunc]⟩),
 (188,⟨.sc,1,8,[.sc .nilFunc]⟩),
 (189,⟨.sc,1,8,[.sc .nilFunc]⟩),
 (191,⟨.sc,1,8,[.sc .nilFunc]⟩),
 (192,⟨.sc,1,8,[.sc .nilFunc]⟩),
 (193,⟨.sc,1,8,[.sc .nilFunc]⟩),
 (194,⟨.sc,1,8,[.sc .nilFunc]⟩),
 (195,⟨.sc,1,8,[.sc .nilFunc]⟩),
 (196,⟨.sc,1,8,[.sc .nilFunc]⟩),
 (197,⟨.sc,1,8,[.sc .nilFunc]⟩),
 (198,⟨.sc,1,8,[.sc .nilFunc]⟩),
 (199,⟨.struct [(0,3),(1,24)],2,32,[.sc (.int .i64 0),.nil 1]⟩),
 (200,⟨.struct [(0,3),(1,24)],2,32,[.sc (.int .i64 0),.nil 1]⟩),
 (201,⟨.sc,1,8,[.sc .nilFunc]⟩),
 (202,⟨.sc,1,8,[.sc .nilFunc]⟩),
 (203,⟨.sc,1,4,[.sc (.int .u32 0)]⟩),
 (205,⟨.sc,1,8,[.sc .nilFunc]⟩),
 (206,⟨.sc,1,8,[.sc (.int .u64 0)]⟩),
 (208,⟨.sc,1,8,[.sc .nilFunc]⟩),
 (209,⟨.sc,1,8,[.sc .nilFunc]⟩),
 (210,⟨.sc,1,8,[.sc .nilFunc]⟩),
 (211,⟨.sc,1,8,[.sc .nilFunc]⟩),
 (212,⟨.sc,1,8,[.sc .nilFunc]⟩),
 (213,⟨.sc,1,8,[.sc .nilFunc]⟩),
 (214,⟨.sc,1,8,[.sc .nilFunc]⟩),
 (215,⟨.sc,1,8,[.sc .nilFunc]⟩),
 (216,⟨.sc,1,8,[.sc .nilFunc]⟩),
 (217,⟨.sc,1,8,[.sc .nilFunc]⟩),
 (223,⟨.sc,1,8,[.sc .nilFunc]⟩),
 (224,⟨.sc,1,1,[.sc (.int .u8 0)]⟩),
 (225,⟨.sc,1,1,[.sc (.int .u8 0)]⟩),
 (226,⟨.sc,1,8,[.sc .nilFunc]⟩),
 (228,⟨.sc,1,4,[.sc (.int .i32 0)]⟩),
 (229,⟨.sc,1,4,[.sc (.int .i32 0)]⟩),
 (232,⟨.sc,1,8,[.sc .nilFunc]⟩),
 (233,⟨.sc,1,8,[.sc .nilFunc]⟩),
 (234,⟨.sc,1,8,[.sc .nilFunc]⟩)]
set_option maxRecDepth 100000 in
theorem aV:TyOk Tryz.prog TT:=aLX (by kernel_rfl)
end
noncomputable section
theorem ob {α β:Type} {o:Option α} {k:α→Option β} {r:β} (h:o.bind k=some r): ∃ a,o=some a∧k a=some r:=by
 cases o with
 |none=>cases h
 |some a=>exact ⟨a,rfl,h⟩
theorem cb {α:Type} {c:Bool} {A B:Option α} {r:α} (h:cond c A B=some r):(c=true∧A=some r)∨(c=false∧B=some r):=by
 cases c
 ·exact .inr ⟨rfl,h⟩
 ·exact .inl ⟨rfl,h⟩
theorem cg {α:Type} {c:Bool} {A:Option α} {r:α} (h:cond c A none=some r):c=true∧A=some r:=by
 cases c
 ·cases h
 ·exact ⟨rfl,h⟩
theorem so {α:Type} {x r:α} (h:some x=some r):x=r:=Option.some.inj h
def dY {α:Type} (l:List α) (i:Int):Option α:=bif decide (0≤i) then l[i.toNat]? else none
theorem gN {α:Type} {l:List α} {i:Int} {v:α} (h:dY l i=some v):l[i.toNat]? =some v:=(cg h).2
theorem aFO {α:Type} {l:List α} {i:Int} {v:α} (h:dY l i=some v):0≤i:=of_decide_eq_true (cg h).1
theorem uK {α:Type} {l:List α} {i:Int} {v:α} (h:dY l i=some v):i.toNat<l.length:=by
 rcases eW i.toNat l.length with h'|h'
 ·exact h'
 ·have:=gN h;rw [gJ h'] at this;cases this
theorem aPV {α β:Type} {f:α→β} {l:List α} {i:Int} {v:α} (h:dY l i=some v):(l.map f)[i.toNat]? =some (f v):=by rw [List.getElem?_map,gN h];rfl
theorem jC {α:Type} {l:List α} {n:Nat} (h:n<l.length):dY l (n:Int)=some l[n]:=by simp [dY,h]
def wr (x:Int):Int:=IntKind.i64.wrap x
theorem aJF {x:Int} (h: -9223372036854775808≤x∧x≤9223372036854775807):wr x=x:=by unfold wr;rw [IntKind.wrap_i64];omega
def LpN {σ ρ:Type} (body:σ→Option (σ ⊕ ρ)):Nat→σ→ρ→Prop
 |0,s,r=>body s=some (.inr r)
 |n+1,s,r=> ∃ s',body s=some (.inl s')∧LpN body n s' r
theorem LpN.det {σ ρ:Type} {body:σ→Option (σ ⊕ ρ)} : ∀ {n m:Nat} {s:σ} {r r':ρ},LpN body n s r→LpN body m s r'→r=r'
 |0,0,s,r,r',h,k=>by rw [LpN] at h k;rw [h] at k;cases k;rfl
 |0,m+1,s,r,r',h,⟨s',k,_⟩=>by rw [LpN] at h;rw [h] at k;cases k
 |n+1,0,s,r,r',⟨s',h,_⟩,k=>by rw [LpN] at k;rw [h] at k;cases k
 |n+1,m+1,s,r,r',⟨s',h,h2⟩,⟨s'',k,k2⟩=>by rw [h] at k;cases k;exact LpN.det h2 k2
open Classical in
def Lp {σ ρ:Type} (body:σ→Option (σ ⊕ ρ)) (s:σ):Option ρ:=if h: ∃ r n,LpN body n s r then some h.choose else none
theorem aEl {σ ρ:Type} {body:σ→Option (σ ⊕ ρ)} {s:σ} {r:ρ} :Lp body s=some r↔ ∃ n,LpN body n s r:=by
 unfold Lp;split
 ·rename_i h;obtain ⟨n,hn⟩:=h.choose_spec;constructor
  ·intro e;cases e;exact ⟨n,hn⟩
  ·rintro ⟨m,hm⟩;rw [hn.det hm]
 ·rename_i h;constructor
  ·intro e;cases e
  ·rintro ⟨m,hm⟩;exact absurd ⟨r,m,hm⟩ h
theorem cI {σ ρ:Type} {body:σ→Option (σ ⊕ ρ)} {s:σ} {r:ρ} (h:body s=some (.inr r)):Lp body s=some r:=aEl.2 ⟨0,h⟩
theorem gW {σ ρ:Type} {body:σ→Option (σ ⊕ ρ)} {s s':σ} (h:body s=some (.inl s')):Lp body s=Lp body s':=by
 apply Option.ext;intro r;rw [aEl,aEl];constructor
 ·rintro ⟨n,hn⟩;cases n with
  |zero=>rw [LpN] at hn;rw [h] at hn;cases hn
  |succ n=>obtain ⟨s'',h1,h2⟩:=hn;rw [h] at h1;cases h1;exact ⟨n,h2⟩
 ·rintro ⟨n,hn⟩;exact ⟨n+1,s',h,hn⟩
theorem aQn {σ ρ:Type} {body:σ→Option (σ ⊕ ρ)} {s:σ} {r:ρ} (I:Nat→σ) (N:Nat) (h0:s=I 0) (hs: ∀ k,k<N→body (I k)=some (.inl (I (k+1)))) (hr:body (I N)=some (.inr r)):Lp body s=some r:=by
 subst h0
 have key: ∀ d k,k+d=N→Lp body (I k)=some r:=by
  intro d;induction d with
  |zero=>intro k hk;rw [Nat.add_zero] at hk;subst hk;exact cI hr
  |succ d ih=>intro k hk;rw [gW (hs k (by omega))];exact ih (k+1) (by omega)
 exact key N 0 (by omega)
theorem zW {σ ρ:Type} {body:σ→Option (σ ⊕ ρ)} {s:σ} (I:σ→Prop) (μ:σ→Nat) (R:ρ→Prop) (h0:I s) (hs: ∀ x,I x→(∃ x',body x=some (.inl x')∧I x'∧μ x'<μ x)∨ ∃ r,body x=some (.inr r)∧R r): ∃ r,Lp body s=some r∧R r:=by
 have key: ∀ n x,μ x=n→I x→ ∃ r,Lp body x=some r∧R r:=by
  intro n;induction n using Nat.strongRecOn with
  |_ n ih=>
   intro x hn hx;rcases hs x hx with ⟨x',h1,h2,h3⟩|⟨r,h1,h2⟩
   ·rw [gW h1];exact ih (μ x') (hn▸h3) x' rfl h2
   ·exact ⟨r,cI h1,h2⟩
 exact key _ s rfl h0
section
variable {P:Program} {nt:Nat} {s:AState} {Q:Exit→AState→Prop}
theorem bY {c:Code} {σ ρ:Type} {body:σ→Option (σ ⊕ ρ)} {x0:σ} {r0:ρ} (h:Lp body x0=some r0) (S:σ→AState) (X:ρ→Exit→AState→Prop) (e0:Ent s (S x0))
  (round: ∀ x o,body x=some o→AC P nt c (S x) (xW (λt=> ∃ x',o= .inl x'∧Ent t (S x')) (λe t=> ∃ r,o= .inr r∧X r e t))) (hX: ∀ e t,X r0 e t→Q e t):AC P nt (.loop c) s Q:=by
 obtain ⟨n,hn⟩:=aEl.1 h;refine aEi (ι:=σ×Nat) (λp=>S p.1) (λp=>LpN body p.2 p.1 r0) (λp=>p.2) (x0,n) hn e0 ?_;rintro ⟨x,m⟩ hm;cases m with
 |zero=>
  refine aLY (round x _ hm) λe t hq=>?_;cases e <;> simp only [xW] at hq ⊢
  ·obtain ⟨x',h1,_⟩:=hq;cases h1
  all_goals (obtain ⟨r,h1,h2⟩:=hq;cases h1;exact hX _ _ h2)
 |succ m=>
  obtain ⟨x',h1,h2⟩:=hm;refine aLY (round x _ h1) λe t hq=>?_;cases e <;> simp only [xW] at hq ⊢
  ·obtain ⟨x'',h3,h4⟩:=hq;cases h3;exact ⟨(x',m),h2,Nat.lt_succ_self _,h4⟩
  all_goals (obtain ⟨r,h3,_⟩:=hq;cases h3)
theorem cM {c:Operand} {x y:Code} {t:Bool} (hc:s.ev c=some (.sc (.bool t))) (q:t=true) (h:AC P nt x s Q):AC P nt (.cond c x y) s Q:=sU hc (λ_=>h) (λe=>by rw [q] at e;cases e)
theorem fB {c:Operand} {x y:Code} {t:Bool} (hc:s.ev c=some (.sc (.bool t))) (q:t=false) (h:AC P nt y s Q):AC P nt (.cond c x y) s Q:=sU hc (λe=>by rw [q] at e;cases e) (λ_=>h)
theorem aJG {i:Nat} {v:AV} {e:Nat→Option AV} (h:e i=some v):upd (some i) v e=e:=by
 funext t;simp only [upd];cases hb:Nat.beq t i with
 |false=>rfl
 |true=>rw [Nat.eq_of_beq_eq_true hb,h];rfl
theorem aH {ops:Array Oper} {r:List Oper} {tr:List Tr} {K:List Tr→AState→Prop} {t u:Bool} (i:Nat) (hi:s.env i=some (.sc (.bool t))) (q:t=u) (h:AOps P ops nt r ⟨upd (some i) (.sc (.bool u)) s.env,s.heap,s.used,s.ns,s.kp⟩ tr K):AOps P ops nt r s tr K:=by
 subst q;rw [aJG hi] at h;exact h
end
def lK:AV→Bool
 | .sc v=>v.oneCell'
 | .list _ _=>true
 |_=>false
structure EOk {α:Type} (k:Nat) (e:α→List AV):Prop where
 len: ∀ x,(e x).length=k
 cell: ∀ x,(e x).all lK=true
def ow {α:Type} (e:α→List AV) (x:α):List AV:=(e x).map sM
theorem jD {α:Type} (e:α→List AV) (l:List α):dT (l.map e)=l.map (ow e):=by
 unfold dT;rw [List.map_map];rfl
section
variable {α:Type} {k:Nat} {e:α→List AV}
theorem aKf {c:AV} (h:lK c=true):view0 (sM c) c:=by cases c <;> simp only [lK,gQ] at h <;> simp [sM,view0]
theorem aKg {c:AV} (h:lK c=true):view0 c c:=by cases c <;> simp only [lK,gQ] at h <;> simp [view0]
theorem aMO {c:AV} (h:lK c=true):aEX (sM c) c:=by cases c <;> simp only [lK,gQ] at h <;> simp [sM,aEX]
theorem aJH {c:AV} (h:lK c=true) (hp:Hp):okCell hp c=true:=by cases c <;> simp only [lK,gQ] at h <;> rfl
theorem aJI {c:AV} (h:lK c=true):eS c=true∧ ∀ ds,c≠ .ref ds:=by cases c <;> simp only [lK,gQ] at h <;> exact ⟨rfl,λ_ e=>by cases e⟩
theorem aFP {c:AV} (h:lK c=true):sL c=true∧sL (sM c)=true:=by cases c <;> simp only [lK,gQ] at h <;> exact ⟨rfl,rfl⟩
theorem aAe {R:AV→AV→Prop} {f g:AV→AV} : ∀ {cs:List AV},(∀ c∈cs,R (f c) (g c))→All2 R (cs.map f) (cs.map g)
 | [],_=>rfl
 |c::cs,h=>⟨g c,_,rfl,h c (by simp),aAe λd hd=>h d (by simp [hd])⟩
theorem yV {β:Type} {R:List AV→List AV→Prop} {f g:β→List AV} : ∀ {l:List β},(∀ x,R (f x) (g x))→All2 R (l.map f) (l.map g)
 | [],_=>rfl
 |x::l,h=>⟨g x,_,rfl,h x,yV h⟩
theorem EOk.mem (E:EOk k e) (x:α): ∀ c∈e x,lK c=true:=List.all_eq_true.1 (E.cell x)
theorem EOk.view (E:EOk k e) (x:α):All2 view0 (ow e x) (e x):=by have:=aAe (R:=view0) (f:=sM) (g:=id) (λc hc=>aKf (E.mem x c hc));simpa [ow] using this
theorem EOk.same (E:EOk k e) (x:α):All2 view0 (e x) (e x):=by have:=aAe (R:=view0) (f:=id) (g:=id) (λc hc=>aKg (E.mem x c hc));simpa using this
theorem EOk.frz (E:EOk k e) (x:α):All2 aEX (ow e x) (e x):=by have:=aAe (R:=aEX) (f:=sM) (g:=id) (λc hc=>aMO (E.mem x c hc));simpa [ow] using this
theorem EOk.views (E:EOk k e) (l:List α):All2 (All2 view0) (l.map (ow e)) (l.map e):=yV E.view
theorem EOk.sames (E:EOk k e) (l:List α):All2 (All2 view0) (l.map e) (l.map e):=yV E.same
theorem EOk.frzs (E:EOk k e) (l:List α):All2 (All2 aEX) (l.map (ow e)) (l.map e):=yV E.frz
theorem EOk.good (E:EOk k e) (l:List α):aNP (l.map e):=by
 intro cs hcs c hc;obtain ⟨x,_,rfl⟩:=List.mem_map.1 hcs;exact aJI (E.mem x c hc)
theorem EOk.plainO (E:EOk k e) (l:List α):xX (l.map (ow e)):=by
 intro cs hcs c hc;obtain ⟨x,_,rfl⟩:=List.mem_map.1 hcs;obtain ⟨d,hd,rfl⟩:=List.mem_map.1 hc;exact (aFP (E.mem x d hd)).2
theorem EOk.plainE (E:EOk k e) (l:List α):xX (l.map e):=by
 intro cs hcs c hc;obtain ⟨x,_,rfl⟩:=List.mem_map.1 hcs;exact (aFP (E.mem x c hc)).1
theorem EOk.okE (E:EOk k e) (hp:Hp) (l:List α):(l.map e).flatten.all (okCell hp)=true:=by
 rw [List.all_eq_true];intro c hc;obtain ⟨cs,hcs,hc⟩:=List.mem_flatten.1 hc;obtain ⟨x,_,rfl⟩:=List.mem_map.1 hcs;exact aJH (E.mem x c hc) hp
theorem aDK: ∀ {cs:List AV},(∀ c∈cs,lK c=true)→dL cs=[]
 | [],_=>rfl
 |c::cs,h=>by
  have h1:=h c (by simp);have h2:=aDK (cs:=cs) (λd hd=>h d (by simp [hd]));cases c <;> simp only [lK,gQ] at h1 <;> exact h2
theorem EOk.namesE (E:EOk k e) (l:List α):dL (l.map e).flatten=[]:=by
 refine aDK λc hc=>?_;obtain ⟨cs,hcs,hc⟩:=List.mem_flatten.1 hc;obtain ⟨x,_,rfl⟩:=List.mem_map.1 hcs;exact E.mem x c hc
end
end
noncomputable section
def yK (n lo hi:Int):Bool:=decide (lo≤n∧n≤hi)
theorem sN {n lo hi:Int} (h:yK n lo hi=true):lo≤n∧n≤hi:=by simpa [yK] using h
theorem qV {n lo hi:Int} (h1:lo≤n) (h2:n≤hi):yK n lo hi=true:=by simp [yK,h1,h2]
def isF (p:Int):Bool:=decide (p=2∨p=3∨p=5)
theorem aNV {p:Int} (h:isF p=true):p=2∨p=3∨p=5:=by simpa [isF] using h
theorem aQo {p:Int} (h:isF p=true):2≤p∧p≤5:=by have:=aNV h;omega
theorem dP {x:Int} (h: -4611686018427387904≤x∧x≤4611686018427387904):wr x=x:=aJF (by omega)
theorem dF {k n:Nat} (hk:k<n) (hn:n≤4611686018427387904):wr ((k:Int)+1)=((k+1:Nat):Int):=by rw [dP (by omega)];omega
theorem atG {α:Type} {l:List α} {k:Nat} (d:α) (h:k<l.length):dY l (k:Int)=some (l[k]?.getD d):=by rw [jC h];simp [h]
theorem atI {α:Type} {l:List α} {i:Int} (d:α) (h0:0≤i) (h:i<l.length):dY l i=some (l[i.toNat]?.getD d):=by
 have:=atG (l:=l) (k:=i.toNat) d (by omega)
 rwa [Int.toNat_of_nonneg h0] at this
theorem qB {k n:Nat} (h:k<n):decide ((k:Int)<(n:Int))=true:=bF (by omega)
theorem qS {k n:Nat} (h:n≤k):decide ((k:Int)<(n:Int))=false:=cK (by omega)
theorem uL {β:Type} {body:Int→Option (Int ⊕ (Unit ⊕ β))} {s0:Int} {s n:Nat} (f:Nat→Option β) (hs0:s0=(s:Int)) (hn:n≤4611686018427387904) (hsn:s≤n) (hs: ∀ k:Nat,s≤k→k<n→body k=some (match f k with|none=> .inl (wr (k+1))|some b=> .inr (.inr b)))
  (he:True→body n=some (.inr (.inl ()))):Lp body s0=some (match (List.range' s (n - s)).findSome? f with|none=> .inl ()|some b=> .inr b):=by
 have key: ∀ d k:Nat,s≤k→k+d=n→Lp body k=some (match (List.range' k d).findSome? f with|none=> .inl ()|some b=> .inr b):=by
  intro d;induction d with
  |zero=>intro k _ hk;rw [Nat.add_zero] at hk;subst hk;exact cI (he trivial)
  |succ d ih=>
   intro k h1 hk;have h:=hs k h1 (by omega);rw [List.range'_succ,List.findSome?_cons];cases hf:f k with
   |none=>rw [hf] at h;rw [gW h,dF (n:=n) (by omega) hn];exact ih (k+1) (by omega) (by omega)
   |some b=>rw [hf] at h;exact cI h
 subst hs0;exact key (n - s) s (bT _) (by omega)
theorem kF {σ ρ:Type} {body:σ→Option (σ ⊕ ρ)} {s:σ} {r:ρ} (I:Nat→σ) (N:Nat) (h0:s=I 0) (hs: ∀ k,k<N→body (I k)=some (.inl (I (k+1)))) (hr:True→body (I N)=some (.inr r)):Lp body s=some r:=aQn I N h0 hs (hr trivial)
theorem aAf {β:Type} {body:Int→Option (Int ⊕ (Unit ⊕ β))} {n:Nat} (P:Nat→Bool) (b:β) (hn:n≤4611686018427387904) (hs: ∀ k:Nat,k<n→body k=some (bif P k then .inl (wr (k+1)) else .inr (.inr b)))
  (he:True→body n=some (.inr (.inl ()))):Lp body 0=some (bif (List.range n).all P then .inl () else .inr b):=by
 have key: ∀ d k:Nat,k+d=n→Lp body k=some (bif (List.range' k d).all P then .inl () else .inr b):=by
  intro d;induction d with
  |zero=>intro k hk;rw [Nat.add_zero] at hk;subst hk;exact cI (he trivial)
  |succ d ih=>
   intro k hk;have h:=hs k (by omega);rw [List.range'_succ,List.all_cons];cases hf:P k with
   |true=>rw [hf] at h;rw [gW h,dF (n:=n) (by omega) hn];exact ih (k+1) (by omega)
   |false=>rw [hf] at h;exact cI h
 have:=key n 0 (by omega)
 rwa [List.range_eq_range']
theorem aDL {β:Type} {body:Int→Option (Int ⊕ (Unit ⊕ β))} {n:Nat} (P:Nat→Bool) (b:β) (hn:n≤4611686018427387904) (hs: ∀ k:Nat,k<n→body k=some (bif P k then .inr (.inr b) else .inl (wr (k+1))))
  (he:True→body n=some (.inr (.inl ()))):Lp body 0=some (bif (List.range n).any P then .inr b else .inl ()):=by
 rw [aAf (λk=> !P k) b hn (λk hk=>by rw [hs k hk];cases P k <;> rfl) he,←List.not_any_eq_all_not];cases (List.range n).any P <;> rfl
theorem aDM {α:Type} (d:α) (l:List α) (P:α→Bool):(List.range l.length).all (λk=>P (l[k]?.getD d))=l.all P:=by
 rw [Bool.eq_iff_iff,List.all_eq_true,List.all_eq_true];constructor
 ·intro h x hx;obtain ⟨k,hk,rfl⟩:=List.mem_iff_getElem.1 hx;have:=h k (List.mem_range.2 hk);simpa [hk] using this
 ·intro h k hk;have hk:=List.mem_range.1 hk;simp only [jA hk,oV];exact h _ (List.getElem_mem hk)
theorem yW {n:Nat} {P:Nat→Bool} :(List.range n).all P=true↔ ∀ k,k<n→P k=true:=by simp [List.all_eq_true]
def aNW (r c:Nat) (F:Nat→Nat→Int):List Int:=(List.range (r*c)).map λt=>F (t / c) (t % c)
theorem aNX (r c:Nat) (F:Nat→Nat→Int):(aNW r c F).length=r*c:=by simp [aNW]
theorem aRh {r c i j:Nat} (hi:i<r) (hj:j<c):i*c+j<r*c:=by
 have:=Nat.mul_le_mul_right c (Nat.succ_le_of_lt hi);rw [Nat.succ_mul] at this;omega
theorem aPW {r c:Nat} {l:List Int} (h:l.length=r*c):l=aNW r c (λi j=>l[i*c+j]?.getD 0):=by
 refine List.ext_getElem (by rw [aNX,h]) λt h1 h2=>?_;simp only [aNW,List.getElem_map,List.getElem_range];have e:t / c*c+t % c=t:=by rw [Nat.mul_comm];exact Nat.div_add_mod t c
 rw [e];simp [h1]
theorem aSW {i c:Nat} (h:i*c≤4611686018427387904):wr ((i:Int)*(c:Int))=((i*c:Nat):Int):=by
 have e:(i:Int)*(c:Int)=((i*c:Nat):Int):=by simp
 rw [e,dP (by omega)]
def cH (l:List (List Int)):Nat→Nat→Int:=λi j=>(l[i]?.getD [])[j]?.getD 0
end
noncomputable section
set_option maxRecDepth 100000
def bS:Nat→(Nat→Int)→Int
 |0,_=>0
 |n+1,f=>bS n f+f n
def aHu (k:Nat) (row:List Int):List Int:=row.take k++row.drop (k+1)
def sgK (k:Nat):Int:=if Nat.beq (k % 2) 0 then 1 else -1
def aGT (det:List (List Int)→Int) (r0:List Int) (rest:List (List Int)):Nat→Int
 |0=>0
 |k+1=>wr (aGT det r0 rest k+wr (wr (sgK k*r0[k]?.getD 0)*det (rest.map (aHu k))))
def vD:Nat→List (List Int)→Int
 |0,_=>0
 |_+1,[]=>1
 |d+1,r0::rest=>aGT (vD d) r0 rest r0.length
def zX (s v:Nat):Bool:=Nat.beq (s / 2 ^ v % 2) 1
def oX (n s:Nat):List Nat:=(List.range n).filter (zX s)
def kW (n:Nat) (T:List (List Int)) (s:Nat):List (List Int):=(oX n s).map λv=>(oX n s).map λw=>cH T v w
def pdF:Nat→(Nat→Nat→Int)→Bool
 |0,_=>true
 |n+1,m=>decide (0<m 0 0)&&pdF n (λi j=>m 0 0*m (i+1) (j+1) - m (i+1) 0*m 0 (j+1))
def mvT (n:Nat) (T:List (List Int)) (x:List Int) (v:Nat):Int:=bS n λw=>cH T v w*x[w]?.getD 0
def aPX (x:List Int) (v:Nat):List Int:=x.set v (x[v]?.getD 0+1)
def tT (n v:Nat):List Int:=(List.replicate n (0:Int)).set v 1
def aHv (x:List Int) (l:List (List Int)):List (List Int):=if x∈l then l else x::l
def aEG (n:Nat) (T:List (List Int)) (l:List (List Int)):List (List Int):=(l.flatMap λx=>((List.range n).filter λv=>decide (mvT n T x v= -1)).map (aPX x)).foldr aHv []
def aKh (n:Nat) (T:List (List Int)):Nat→List (List Int)→List (List Int)→List (List Int)×Bool
 |0,cur,acc=>(acc++cur,cur.isEmpty)
 |k+1,cur,acc=>aKh n T k (aEG n T cur) (acc++cur)
def aBq (n:Nat) (T:List (List Int)):List (List Int)×Bool:=aKh n T 8 ((List.range n).map (tT n)) []
def aGs (n:Nat) (T:List (List Int)):Bool:=pdF n (cH T)&&(match aBq n T with|(l,e)=>e&&decide (l.length≤20)&&l.all λx=>x.all λa=>decide (a≤4))
def xC (n:Nat) (T:List (List Int)):Bool:=aGs n T||[7,11,13,14,19,21,22,25,26,28,15,23,27,29,30,31].any λs=>Nat.blt s (2 ^ n)&&decide (vD 8 (kW n T s)≤0)
def bi (b:Bool):Int:=if b then -1 else 0
theorem aSX:xC 1 [[2]]=true:=by decide+kernel
theorem aSY: ∀ a:Bool,xC 2 [[2,bi a],[bi a,2]]=true:=by decide+kernel
theorem aSZ: ∀ a b c:Bool,xC 3 [[2,bi a,bi b],[bi a,2,bi c],[bi b,bi c,2]]=true:=by decide+kernel
theorem aSa: ∀ a b c d e f:Bool,xC 4 [[2,bi a,bi b,bi c],[bi a,2,bi d,bi e],[bi b,bi d,2,bi f],[bi c,bi e,bi f,2]]=true:=by decide+kernel
theorem aQp: ∀ e f g h i j:Bool,xC 5 [[2,bi false,bi false,bi false,bi false],[bi false,2,bi e,bi f,bi g],[bi false,bi e,2,bi h,bi i],[bi false,bi f,bi h,2,bi j],[bi false,bi g,bi i,bi j,2]]=true:=by decide+kernel
theorem aQq: ∀ e f g h i j:Bool,xC 5 [[2,bi true,bi false,bi false,bi false],[bi true,2,bi e,bi f,bi g],[bi false,bi e,2,bi h,bi i],[bi false,bi f,bi h,2,bi j],[bi false,bi g,bi i,bi j,2]]=true:=by decide+kernel
theorem aQr: ∀ e f g h i j:Bool,xC 5 [[2,bi false,bi true,bi false,bi false],[bi false,2,bi e,bi f,bi g],[bi true,bi e,2,bi h,bi i],[bi false,bi f,bi h,2,bi j],[bi false,bi g,bi i,bi j,2]]=true:=by decide+kernel
theorem aQs: ∀ e f g h i j:Bool,xC 5 [[2,bi true,bi true,bi false,bi false],[bi true,2,bi e,bi f,bi g],[bi true,bi e,2,bi h,bi i],[bi false,bi f,bi h,2,bi j],[bi false,bi g,bi i,bi j,2]]=true:=by decide+kernel
theorem aQt: ∀ e f g h i j:Bool,xC 5 [[2,bi false,bi false,bi true,bi false],[bi false,2,bi e,bi f,bi g],[bi false,bi e,2,bi h,bi i],[bi true,bi f,bi h,2,bi j],[bi false,bi g,bi i,bi j,2]]=true:=by decide+kernel
theorem aQu: ∀ e f g h i j:Bool,xC 5 [[2,bi true,bi false,bi true,bi false],[bi true,2,bi e,bi f,bi g],[bi false,bi e,2,bi h,bi i],[bi true,bi f,bi h,2,bi j],[bi false,bi g,bi i,bi j,2]]=true:=by decide+kernel
theorem aQv: ∀ e f g h i j:Bool,xC 5 [[2,bi false,bi true,bi true,bi false],[bi false,2,bi e,bi f,bi g],[bi true,bi e,2,bi h,bi i],[bi true,bi f,bi h,2,bi j],[bi false,bi g,bi i,bi j,2]]=true:=by decide+kernel
theorem aQw: ∀ e f g h i j:Bool,xC 5 [[2,bi true,bi true,bi true,bi false],[bi true,2,bi e,bi f,bi g],[bi true,bi e,2,bi h,bi i],[bi true,bi f,bi h,2,bi j],[bi false,bi g,bi i,bi j,2]]=true:=by decide+kernel
theorem aQx: ∀ e f g h i j:Bool,xC 5 [[2,bi false,bi false,bi false,bi true],[bi false,2,bi e,bi f,bi g],[bi false,bi e,2,bi h,bi i],[bi false,bi f,bi h,2,bi j],[bi true,bi g,bi i,bi j,2]]=true:=by decide+kernel
theorem aQy: ∀ e f g h i j:Bool,xC 5 [[2,bi true,bi false,bi false,bi true],[bi true,2,bi e,bi f,bi g],[bi false,bi e,2,bi h,bi i],[bi false,bi f,bi h,2,bi j],[bi true,bi g,bi i,bi j,2]]=true:=by decide+kernel
theorem aPY: ∀ e f g h i j:Bool,xC 5 [[2,bi false,bi true,bi false,bi true],[bi false,2,bi e,bi f,bi g],[bi true,bi e,2,bi h,bi i],[bi false,bi f,bi h,2,bi j],[bi true,bi g,bi i,bi j,2]]=true:=by decide+kernel
theorem aPZ: ∀ e f g h i j:Bool,xC 5 [[2,bi true,bi true,bi false,bi true],[bi true,2,bi e,bi f,bi g],[bi true,bi e,2,bi h,bi i],[bi false,bi f,bi h,2,bi j],[bi true,bi g,bi i,bi j,2]]=true:=by decide+kernel
theorem aPa: ∀ e f g h i j:Bool,xC 5 [[2,bi false,bi false,bi true,bi true],[bi false,2,bi e,bi f,bi g],[bi false,bi e,2,bi h,bi i],[bi true,bi f,bi h,2,bi j],[bi true,bi g,bi i,bi j,2]]=true:=by decide+kernel
theorem aPb: ∀ e f g h i j:Bool,xC 5 [[2,bi true,bi false,bi true,bi true],[bi true,2,bi e,bi f,bi g],[bi false,bi e,2,bi h,bi i],[bi true,bi f,bi h,2,bi j],[bi true,bi g,bi i,bi j,2]]=true:=by decide+kernel
theorem aPc: ∀ e f g h i j:Bool,xC 5 [[2,bi false,bi true,bi true,bi true],[bi false,2,bi e,bi f,bi g],[bi true,bi e,2,bi h,bi i],[bi true,bi f,bi h,2,bi j],[bi true,bi g,bi i,bi j,2]]=true:=by decide+kernel
theorem aPd: ∀ e f g h i j:Bool,xC 5 [[2,bi true,bi true,bi true,bi true],[bi true,2,bi e,bi f,bi g],[bi true,bi e,2,bi h,bi i],[bi true,bi f,bi h,2,bi j],[bi true,bi g,bi i,bi j,2]]=true:=by decide+kernel
theorem aSb (a b c d e f g h i j:Bool):xC 5 [[2,bi a,bi b,bi c,bi d],[bi a,2,bi e,bi f,bi g],[bi b,bi e,2,bi h,bi i],[bi c,bi f,bi h,2,bi j],[bi d,bi g,bi i,bi j,2]]=true:=by
 cases a <;> cases b <;> cases c <;> cases d
 ·exact aQp e f g h i j
 ·exact aQx e f g h i j
 ·exact aQt e f g h i j
 ·exact aPa e f g h i j
 ·exact aQr e f g h i j
 ·exact aPY e f g h i j
 ·exact aQv e f g h i j
 ·exact aPc e f g h i j
 ·exact aQq e f g h i j
 ·exact aQy e f g h i j
 ·exact aQu e f g h i j
 ·exact aPb e f g h i j
 ·exact aQs e f g h i j
 ·exact aPZ e f g h i j
 ·exact aQw e f g h i j
 ·exact aPd e f g h i j
end
noncomputable section
theorem bJ {f g:Nat→Int} : ∀ {n:Nat},(∀ i,i<n→f i=g i)→bS n f=bS n g
 |0,_=>rfl
 |n+1,h=>by simp only [bS];rw [bJ (n:=n) λi hi=>h i (by omega),h n (by omega)]
theorem pD (f:Nat→Int): ∀ n,bS (n+1) f=f 0+bS n λi=>f (i+1)
 |0=>by simp [bS]
 |n+1=>by rw [bS,pD f n];simp only [bS];omega
theorem jI (f g:Nat→Int): ∀ n,(bS n λi=>f i+g i)=bS n f+bS n g
 |0=>by simp [bS]
 |n+1=>by simp only [bS];rw [jI f g n];omega
theorem iM (c:Int) (f:Nat→Int): ∀ n,(bS n λi=>c*f i)=c*bS n f
 |0=>by simp [bS]
 |n+1=>by simp only [bS];rw [iM c f n,Int.mul_add]
theorem jN: ∀ n,(bS n λ_=>(0:Int))=0
 |0=>rfl
 |n+1=>by simp only [bS];rw [jN n];rfl
theorem vE {f:Nat→Int} : ∀ {n:Nat},(∀ i,i<n→0≤f i)→0≤bS n f
 |0,_=>Int.le_refl 0
 |n+1,h=>by simp only [bS];have:=vE (n:=n) λi hi=>h i (by omega);have:=h n (by omega);omega
theorem vF {f:Nat→Int} : ∀ {n:Nat},0<bS n f→ ∃ i,i<n∧0<f i
 |0,h=>absurd h (by simp [bS])
 |n+1,h=>by
  simp only [bS] at h;by_cases h1:0<f n
  ·exact ⟨n,by omega,h1⟩
  ·obtain ⟨i,h2,h3⟩:=vF (f:=f) (n:=n) (by omega);exact ⟨i,by omega,h3⟩
theorem aPe {f:Nat→Int} {n i:Nat} (h: ∀ i,i<n→0≤f i) (hi:i<n):f i≤bS n f:=by
 induction n with
 |zero=>omega
 |succ n ih=>
  simp only [bS];have h1:=vE (f:=f) (n:=n) λi hi=>h i (by omega);by_cases e:i=n
  ·subst e;omega
  ·have:=ih (λi hi=>h i (by omega)) (by omega);have:=h n (by omega);omega
theorem lW {n v:Nat} (f:Nat→Int) (hv:v<n):(bS n λi=>if i=v then f i else 0)=f v:=by
 induction n with
 |zero=>omega
 |succ n ih=>
  simp only [bS];by_cases e:v=n
  ·subst e;rw [bG rfl,bJ (g:=λ_=>0) (λi hi=>bC (by omega)),jN];omega
  ·rw [ih (by omega),bC (λh=>e h.symm)];omega
def qf (n:Nat) (m:Nat→Nat→Int) (x:Nat→Int):Int:=bS n λi=>bS n λj=>m i j*(x i*x j)
def mv (n:Nat) (m:Nat→Nat→Int) (x:Nat→Int) (v:Nat):Int:=bS n λw=>m v w*x w
theorem aFR (n:Nat) (m:Nat→Nat→Int) (x:Nat→Int):qf n m x=bS n λi=>x i*mv n m x i:=by
 unfold qf mv;refine bJ λi _=>?_;rw [←iM];exact bJ λj _=>by grind
theorem aPf (n:Nat) (m:Nat→Nat→Int) (x:Nat→Int) (hs: ∀ i,i<n→m (i+1) 0=m 0 (i+1)):
  m 0 0*qf (n+1) m x=(m 0 0*x 0+bS n λj=>m 0 (j+1)*x (j+1))*(m 0 0*x 0+bS n λj=>m 0 (j+1)*x (j+1))+qf n (λi j=>m 0 0*m (i+1) (j+1) - m (i+1) 0*m 0 (j+1)) (λi=>x (i+1)):=by
 have e1:qf (n+1) m x=(m 0 0*(x 0*x 0)+x 0*bS n λj=>m 0 (j+1)*x (j+1))+(x 0*(bS n λj=>m 0 (j+1)*x (j+1))+bS n λi=>bS n λj=>m (i+1) (j+1)*(x (i+1)*x (j+1))):=by
  unfold qf;rw [pD];congr 1
  ·rw [pD,←iM];congr 1;exact bJ λj _=>by grind
  ·rw [←iM,←jI];refine bJ λi hi=>?_;rw [pD,hs i hi];congr 1
   grind
 have e2:qf n (λi j=>m 0 0*m (i+1) (j+1) - m (i+1) 0*m 0 (j+1)) (λi=>x (i+1))=m 0 0*(bS n λi=>bS n λj=>m (i+1) (j+1)*(x (i+1)*x (j+1)))+(-(bS n λj=>m 0 (j+1)*x (j+1)))*bS n λj=>m 0 (j+1)*x (j+1):=by
  unfold qf;rw [←iM,←iM,←jI];refine bJ λi hi=>?_;rw [←iM,show -(bS n λj=>m 0 (j+1)*x (j+1))*(m 0 (i+1)*x (i+1))=(-(m 0 (i+1)*x (i+1)))*bS n λj=>m 0 (j+1)*x (j+1) by grind,←iM,←jI];refine bJ λj hj=>?_;dsimp only;rw [hs i hi]
  grind
 rw [e1,e2];generalize (bS n λj=>m 0 (j+1)*x (j+1))=L;generalize (bS n λi=>bS n λj=>m (i+1) (j+1)*(x (i+1)*x (j+1)))=R
 grind
theorem aMP (a:Int):0≤a*a:=by
 rcases Int.le_total 0 a with h|h
 ·exact Int.mul_nonneg h h
 ·have:=Int.mul_nonneg (Int.neg_nonneg_of_nonpos h) (Int.neg_nonneg_of_nonpos h);rwa [Int.neg_mul_neg] at this
theorem aQz {a:Int} (h:a≠0):0<a*a:=by
 rcases Int.lt_or_gt_of_ne h with h|h
 ·have:=Int.mul_pos (Int.neg_pos_of_neg h) (Int.neg_pos_of_neg h);rwa [Int.neg_mul_neg] at this
 ·exact Int.mul_pos h h
theorem aFS: ∀ (n:Nat) (m:Nat→Nat→Int),pdF n m=true→(∀ i j,i<n→j<n→m i j=m j i)→ ∀ x:Nat→Int,0≤qf n m x∧((∃ i,i<n∧x i≠0)→0<qf n m x)
 |0,m,_,_,x=>⟨by simp [qf,bS],λ⟨i,h,_⟩=>by omega⟩
 |n+1,m,hp,hs,x=>by
  simp only [pdF,dJ,jU] at hp;obtain ⟨ha,hp⟩:=hp;have ih:=aFS n _ hp (λi j hi hj=>by rw [hs (i+1) (j+1) (by omega) (by omega),hs (i+1) 0 (by omega) (by omega),hs 0 (j+1) (by omega) (by omega)];grind) (λi=>x (i+1));have id:=aPf n m x (λi hi=>hs _ _ (by omega) (by omega));generalize hL:(bS n λj=>m 0 (j+1)*x (j+1))=L at id;have hsq:=aMP (m 0 0*x 0+L);refine ⟨?_,?_⟩
  ·rcases Int.lt_or_le (qf (n+1) m x) 0 with h|h
   ·have:=Int.mul_neg_of_pos_of_neg ha h;omega
   ·exact h
  ·rintro ⟨i,hi,hx⟩
   have hpos:0<m 0 0*qf (n+1) m x:=by
    by_cases hex: ∃ i,i<n∧x (i+1)≠0
    ·have:=ih.2 hex;omega
    ·have hz: ∀ i,i<n→x (i+1)=0:=λi hi=>Classical.byContradiction λh=>hex ⟨i,hi,h⟩
     have hL0:L=0:=by
      rw [←hL,bJ (g:=λ_=>0) (λj hj=>by rw [hz j hj,Int.mul_zero]),jN]
     have hx0:x 0≠0:=by
      cases i with
      |zero=>exact hx
      |succ i=>exact absurd (hz i (by omega)) hx
     have:m 0 0*x 0+L≠0:=by
      rw [hL0,Int.add_zero];exact Int.mul_ne_zero (by omega) hx0
     have:=aQz this;have:=ih.1;omega
   rcases Int.lt_or_le 0 (qf (n+1) m x) with h|h
   ·exact h
   ·have:=Int.mul_nonpos_of_nonneg_of_nonpos (Int.le_of_lt ha) h;omega
theorem aHw {n v:Nat} (m:Nat→Nat→Int) (x:Nat→Int) (d:Int) (w:Nat) (hv:v<n):mv n m (λi=>x i+if i=v then d else 0) w=mv n m x w+d*m w v:=by
 unfold mv;rw [←lW (n:=n) (v:=v) (λi=>d*m w i) hv,←jI];refine bJ λi _=>?_;by_cases e:i=v
 ·simp only [bG e];grind
 ·simp only [bC e];grind
theorem aDN {n v:Nat} (m:Nat→Nat→Int) (x:Nat→Int) (d:Int) (hv:v<n) (hs: ∀ i j,i<n→j<n→m i j=m j i):qf n m (λi=>x i+if i=v then d else 0)=qf n m x+2*d*mv n m x v+d*d*m v v:=by
 rw [aFR,aFR]
 have e1:(bS n λi=>(x i+if i=v then d else 0)*mv n m (λi=>x i+if i=v then d else 0) i)=bS n λi=>(x i*mv n m x i+d*(m v i*x i))+if i=v then d*(mv n m x i+d*m i v) else 0:=by
  refine bJ λi hi=>?_;rw [aHw m x d i hv,hs i v hi hv];by_cases e:i=v
  ·simp only [bG e];grind
  ·simp only [bC e];grind
 rw [e1,jI,jI,iM,lW (λi=>d*(mv n m x i+d*m i v)) hv];change _+d*mv n m x v+_=_
 grind
def gx (x:List Int) (i:Nat):Int:=x[i]?.getD 0
theorem vQ {x:List Int} {v:Nat} (a:Int) (hv:v<x.length) (i:Nat):gx (x.set v a) i=if i=v then a else gx x i:=by
 unfold gx;rw [List.getElem?_set];by_cases e:v=i
 ·subst e;simp [hv]
 ·rw [bC e,bC (λh=>e h.symm)]
theorem zY {x:List Int} {v:Nat} (d:Int) (hv:v<x.length):gx (x.set v (gx x v+d))=λi=>gx x i+if i=v then d else 0:=by
 funext i;rw [vQ _ hv];by_cases e:i=v
 ·subst e;simp
 ·simp [e]
theorem aHx {x y:List Int} (hl:x.length=y.length) (h: ∀ i,i<x.length→gx x i=gx y i):x=y:=by
 refine List.ext_getElem hl λi h1 h2=>?_;have:=h i h1;simpa [gx,h1,h2] using this
theorem vG: ∀ x:List Int,x.sum=bS x.length (gx x)
 | []=>rfl
 |a::x=>by
  rw [List.length_cons,pD,List.sum_cons,vG x];rfl
theorem aHy {x:List Int} {v:Nat} (d:Int) (hv:v<x.length):(x.set v (gx x v+d)).sum=x.sum+d:=by
 rw [vG,vG,List.length_set,zY d hv,jI,lW (λ_=>d) hv]
theorem aKi {x:List Int} (h: ∀ a∈x,0≤a):0≤x.sum:=by
 induction x with
 |nil=>simp
 |cons a x ih=>rw [List.sum_cons];have:=h a (by simp);have:=ih λb hb=>h b (by simp [hb]);omega
theorem aFT: ∀ {x:List Int},(∀ a∈x,0≤a)→x.sum=0→x=List.replicate x.length 0
 | [],_,_=>rfl
 |a::x,h,hs=>by
  rw [List.sum_cons] at hs;have h1:=h a (by simp);have h2:=aKi (x:=x) λb hb=>h b (by simp [hb]);have h3:=aFT (x:=x) (λb hb=>h b (by simp [hb])) (by omega);have h4:a=0:=by omega
  rw [h4,List.length_cons,List.replicate_succ,←h3]
theorem aFU: ∀ {x:List Int},(∀ a∈x,0≤a)→x.sum=1→ ∃ v,v<x.length∧x=tT x.length v
 | [],_,hs=>by simp at hs
 |a::x,h,hs=>by
  rw [List.sum_cons] at hs;have h1:=h a (by simp);have h2:=aKi (x:=x) λb hb=>h b (by simp [hb]);by_cases e:a=0
  ·obtain ⟨v,g1,g2⟩:=aFU (x:=x) (λb hb=>h b (by simp [hb])) (by omega);refine ⟨v+1,by simpa using g1,?_⟩;rw [e,List.length_cons];show _=0::tT x.length v;rw [←g2]
  ·have h3:=aFT (x:=x) (λb hb=>h b (by simp [hb])) (by omega);refine ⟨0,by simp,?_⟩;have h4:a=1:=by omega
   rw [h4,List.length_cons];show _=1::List.replicate x.length 0;rw [←h3]
theorem qC {x:List Int} {i:Nat} (h:i<x.length):gx x i∈x:=by
 unfold gx;rw [jA h];exact List.getElem_mem h
theorem yL {x:List Int} {v:Nat} {a b:Int} (h:b∈x.set v a):b=a∨b∈x:=by
 rcases List.mem_or_eq_of_mem_set h with h|h
 ·exact .inr h
 ·exact .inl h
structure GForm (n:Nat) (T:List (List Int)):Prop where
 sym: ∀ i j,i<n→j<n→cH T i j=cH T j i
 diag: ∀ i,i<n→cH T i i=2
 pd:pdF n (cH T)=true
structure Rt0 (n:Nat) (T:List (List Int)) (x:List Int):Prop where
 len:x.length=n
 nn: ∀ a∈x,0≤a
 two:qf n (cH T) (gx x)=2
theorem aRA (n:Nat) (T:List (List Int)) (x:List Int) (v:Nat):mvT n T x v=mv n (cH T) (gx x) v:=rfl
theorem Rt0.pos {n:Nat} {T:List (List Int)} {x:List Int} (F:GForm n T) (r:Rt0 n T x):1≤x.sum:=by
 have h:=aKi r.nn;rcases Int.lt_or_le x.sum 1 with h1|h1
 ·have h2:=aFT r.nn (by omega);have h3:=r.two;rw [aFR,bJ (g:=λ_=>0) (λi hi=>?_),jN] at h3
  ·omega
  ·rw [h2];unfold gx;rw [List.getElem?_replicate];split <;> simp
 ·exact h1
theorem Rt0.down {n:Nat} {T:List (List Int)} {x:List Int} (F:GForm n T) (r:Rt0 n T x) (h:2≤x.sum): ∃ v,v<n∧mv n (cH T) (gx x) v=1∧Rt0 n T (x.set v (gx x v+ -1)):=by
 have h1:=r.two;rw [aFR] at h1;obtain ⟨v,hv,h2⟩:=vF (n:=n) (f:=λi=>gx x i*mv n (cH T) (gx x) i) (by omega);have hvl:v<x.length:=by rw [r.len];exact hv
 have h3:=r.nn _ (qC hvl)
 have h4:0<gx x v:=by
  rcases Int.lt_or_le 0 (gx x v) with h|h
  ·exact h
  ·have:gx x v=0:=by omega
   rw [this] at h2;simp at h2
 have h5:0<mv n (cH T) (gx x) v:=by
  rcases Int.lt_or_le 0 (mv n (cH T) (gx x) v) with h|h
  ·exact h
  ·have:=Int.mul_nonpos_of_nonneg_of_nonpos h3 h;omega
 have hnn: ∀ a∈x.set v (gx x v+ -1),0≤a:=λa ha=>by
  rcases yL ha with rfl|ha
  ·omega
  ·exact r.nn a ha
 have hq:qf n (cH T) (gx (x.set v (gx x v+ -1)))=4 - 2*mv n (cH T) (gx x) v:=by
  rw [zY _ hvl,aDN _ _ _ hv F.sym,r.two,F.diag v hv];omega
 have hs:=aHy (-1) hvl
 have hpos:0<qf n (cH T) (gx (x.set v (gx x v+ -1))):=by
  refine (aFS n _ F.pd F.sym _).2 ?_;rw [vG,List.length_set,r.len] at hs;obtain ⟨i,hi,h6⟩:=vF (n:=n) (f:=gx (x.set v (gx x v+ -1))) (by omega);exact ⟨i,hi,by omega⟩
 have h7:mv n (cH T) (gx x) v=1:=by omega
 exact ⟨v,hv,h7,by rw [List.length_set];exact r.len,hnn,by omega⟩
def lvl (n:Nat) (T:List (List Int)):Nat→List (List Int)
 |0=>(List.range n).map (tT n)
 |k+1=>aEG n T (lvl n T k)
theorem aKj {x y:List Int} {l:List (List Int)} :y∈aHv x l↔y=x∨y∈l:=by
 unfold aHv;split
 ·rename_i h;exact ⟨.inr,λh'=>h'.elim (λe=>e▸h) id⟩
 ·simp
theorem aGt {y:List Int} : ∀ {l:List (List Int)},y∈l.foldr aHv []↔y∈l
 | []=>by simp
 |x::l=>by rw [List.foldr_cons,aKj,aGt (l:=l),cY]
theorem aMQ {n:Nat} {T:List (List Int)} {l:List (List Int)} {x:List Int} {v:Nat} (hx:x∈l) (hv:v<n) (h:mvT n T x v= -1):aPX x v∈aEG n T l:=by
 unfold aEG;rw [aGt,List.mem_flatMap];exact ⟨x,hx,List.mem_map.2 ⟨v,List.mem_filter.2 ⟨List.mem_range.2 hv,bF h⟩,rfl⟩⟩
theorem Rt0.lvl {n:Nat} {T:List (List Int)} (F:GForm n T): ∀ (h:Nat) {x:List Int},Rt0 n T x→x.sum=h+1→x∈lvl n T h
 |0,x,r,hs=>by
  obtain ⟨v,hv,e⟩:=aFU r.nn (by omega);rw [r.len] at e hv;exact List.mem_map.2 ⟨v,List.mem_range.2 hv,e.symm⟩
 |h+1,x,r,hs=>by
  obtain ⟨v,hv,h1,h2⟩:=r.down F (by omega);have hvl:v<x.length:=by rw [r.len];exact hv
  have ih:=Rt0.lvl F h h2 (by rw [aHy _ hvl];omega)
  have h3:mvT n T (x.set v (gx x v+ -1)) v= -1:=by
   rw [aRA,zY _ hvl,aHw _ _ _ _ hv,h1,F.diag v hv];rfl
  have h4:=aMQ ih hv h3
  have h5:aPX (x.set v (gx x v+ -1)) v=x:=by
   unfold aPX;change (x.set v (gx x v+ -1)).set v (gx (x.set v (gx x v+ -1)) v+1)=x;rw [vQ _ hvl,bG rfl,List.set_set];refine aHx (by simp) λi _=>?_;rw [vQ _ hvl];by_cases e:i=v
   ·subst e;rw [bG rfl];omega
   ·rw [bC e]
  rw [h5] at h4;exact h4
def itL (n:Nat) (T:List (List Int)) (l:List (List Int)):Nat→List (List Int)
 |0=>l
 |k+1=>itL n T (aEG n T l) k
theorem aFV (n:Nat) (T:List (List Int)): ∀ (k:Nat) (l:List (List Int)),itL n T l (k+1)=aEG n T (itL n T l k)
 |0,l=>rfl
 |k+1,l=>aFV n T k (aEG n T l)
theorem aNZ (n:Nat) (T:List (List Int)): ∀ k,lvl n T k=itL n T ((List.range n).map (tT n)) k
 |0=>rfl
 |k+1=>by rw [aFV,←aNZ n T k];rfl
theorem aGu (n:Nat) (T:List (List Int)): ∀ (k:Nat) (cur acc:List (List Int)),(∀ x∈acc,x∈(aKh n T k cur acc).1)∧(∀ j x,j≤k→x∈itL n T cur j→x∈(aKh n T k cur acc).1)∧(aKh n T k cur acc).2=(itL n T cur k).isEmpty
 |0,cur,acc=>⟨λx h=>by simp [aKh,h],λj x hj hx=>by
   have:j=0:=by omega
   subst this;simp only [aKh,itL] at hx ⊢;simp [hx],rfl⟩
 |k+1,cur,acc=>by
  obtain ⟨h1,h2,h3⟩:=aGu n T k (aEG n T cur) (acc++cur);refine ⟨λx h=>h1 x (by simp [h]),λj x hj hx=>?_,h3⟩;cases j with
  |zero=>exact h1 x (by simp only [itL] at hx;simp [hx])
  |succ j=>exact h2 j x (by omega) hx
theorem aJJ (n:Nat) (T:List (List Int)): ∀ (d k:Nat) (l:List (List Int)),itL n T l k=[]→itL n T l (k+d)=[]
 |0,k,l,h=>h
 |d+1,k,l,h=>by
  rw [←Nat.add_assoc,aFV,aJJ n T d k l h];rfl
theorem Rt0.mem {n:Nat} {T:List (List Int)} (F:GForm n T) (he:(aBq n T).2=true) {x:List Int} (r:Rt0 n T x):x∈(aBq n T).1:=by
 have h1:=r.pos F;obtain ⟨h,hh⟩: ∃ h:Nat,x.sum=h+1:=⟨(x.sum - 1).toNat,by omega⟩;have h2:=Rt0.lvl F h r hh;rw [aNZ] at h2;obtain ⟨g1,g2,g3⟩:=aGu n T 8 ((List.range n).map (tT n)) [];unfold aBq at he ⊢;rw [he] at g3;have h8:itL n T ((List.range n).map (tT n)) 8=[]:=by simpa using g3.symm
 rcases eW 8 h with h3|h3
 ·have:=aJJ n T (h - 8) 8 _ h8;rw [show 8+(h - 8)=h by omega] at this;rw [this] at h2;cases h2
 ·exact g2 h x h3 h2
theorem wU {α:Type} [DecidableEq α]: ∀ {l m:List α},l.Nodup→(∀ x∈l,x∈m)→l.length≤m.length
 | [],m,_,_=>Nat.zero_le _
 |a::l,m,hn,hs=>by
  have h1:=hs a (by simp);have hn':=List.nodup_cons.1 hn;have h2:=wU (l:=l) (m:=m.erase a) hn'.2 λx hx=>(List.mem_erase_of_ne (by rintro rfl;exact hn'.1 hx)).2 (hs x (by simp [hx]));have h3:=List.length_erase_of_mem h1;have h4:=List.length_pos_of_mem h1;simp only [List.length_cons];omega
theorem yA {n:Nat} {T:List (List Int)} (h:aGs n T=true):pdF n (cH T)=true∧(aBq n T).2=true∧(aBq n T).1.length ≤20∧ ∀ x∈(aBq n T).1,∀ a∈x,a≤4:=by
 simp only [aGs,dJ] at h;obtain ⟨h1,⟨h2,h3⟩,h4⟩:=h;refine ⟨h1,h2,of_decide_eq_true h3,λx hx a ha=>?_⟩;exact of_decide_eq_true (List.all_eq_true.1 (List.all_eq_true.1 h4 x hx) a ha)
theorem lL {x:List Int} {i:Nat} (h:i<x.length):dY x (i:Int)=some (gx x i):=by rw [atG 0 h];rfl
end
noncomputable section
theorem AEff.conv {P:Program} {o:Oper} {ins:Operand→Option AV} {hp:Hp} {κ:Kp} {v v':AV} {tc:List Nat} {ed ed':List (Nat×Option Blk)} {n:List Nat} (h:AEff P o ins hp κ ⟨v,tc,ed,n⟩) (hv:v=v') (he:ed=ed'):AEff P o ins hp κ ⟨v',tc,ed',n⟩:=by subst hv;subst he;exact h
theorem AEff.val {P:Program} {o:Oper} {ins:Operand→Option AV} {hp:Hp} {κ:Kp} {v v':AV} {tc:List Nat} {ed:List (Nat×Option Blk)} {n:List Nat} (h:AEff P o ins hp κ ⟨v,tc,ed,n⟩) (hv:v=v'):AEff P o ins hp κ ⟨v',tc,ed,n⟩:=by subst hv;exact h
section
variable {P:Program} {T:List (Nat×Ty)} (hT:TyOk P T) {dst:Option Tmp} {ty:TypeId} {pos:String} {aft:Array Edge} {g:Option (Nat×Bool)} {s:AState}
theorem bN {t t':TypeId} {x y:Operand} {a b:Int} (hx:s.ev x=some (.int a)) (hy:s.ev y=some (.int b)):AEff P ⟨dst,.binOp .add t x y t',ty,pos,aft,g⟩ s.ev s.heap s.kp ⟨.int (wr (a+b)),[],[],[]⟩:=
 nI hx hy rfl λw=>by simp [eqGuard,binOp,Op.intArith,wr]
theorem fA {t t':TypeId} {x y:Operand} {a b:Int} (hx:s.ev x=some (.int a)) (hy:s.ev y=some (.int b)):AEff P ⟨dst,.binOp .sub t x y t',ty,pos,aft,g⟩ s.ev s.heap s.kp ⟨.int (wr (a - b)),[],[],[]⟩:=
 nI hx hy rfl λw=>by simp [eqGuard,binOp,Op.intArith,wr]
theorem vH {t t':TypeId} {x y:Operand} {a b:Int} (hx:s.ev x=some (.int a)) (hy:s.ev y=some (.int b)):AEff P ⟨dst,.binOp .mul t x y t',ty,pos,aft,g⟩ s.ev s.heap s.kp ⟨.int (wr (a*b)),[],[],[]⟩:=
 nI hx hy rfl λw=>by simp [eqGuard,binOp,Op.intArith,wr]
theorem aGv {t:TypeId} {x:Operand} {a:Int} (hx:s.ev x=some (.int a)):AEff P ⟨dst,.unOp .neg t x,ty,pos,aft,g⟩ s.ev s.heap s.kp ⟨.int (wr (-a)),[],[],[]⟩:=
 aNF hx rfl λw=>by simp [Op.unary,Op.intArith,wr]
theorem aQP {t t':TypeId} {x y:Operand} {a b:Int} (hx:s.ev x=some (.int a)) (hy:s.ev y=some (.int b)) (h:(!decide (b=0))=true):AEff P ⟨dst,.binOp .quo t x y t',ty,pos,aft,g⟩ s.ev s.heap s.kp ⟨.int (wr (a.tdiv b)),[],[],[]⟩:=
 nI hx hy rfl λw=>by
  have h':b≠0:=by simpa using h
  simp [eqGuard,binOp,Op.intDiv,h',wr]
theorem aNa {t t':TypeId} {x y:Operand} {a b:Int} (hx:s.ev x=some (.int a)) (hy:s.ev y=some (.int b)) (h:(!decide (b=0))=true):AEff P ⟨dst,.binOp .rem t x y t',ty,pos,aft,g⟩ s.ev s.heap s.kp ⟨.int (a.tmod b),[],[],[]⟩:=
 nI hx hy rfl λw=>by
  have h':b≠0:=by simpa using h
  simp [eqGuard,binOp,Op.intDiv,h']
variable {α:Type} {k:Nat} {e:α→List AV}
include hT
theorem aMR {x ix:Operand} {t et:Nat} {y ye:Ty} {l:List α} {kk:IntKind} {i:Int} {v:α} (hm:dY l i=some v) (hx:s.ev x=some (.list k (l.map e))) (hix:s.ev ix=some (.sc (.int kk i))) (hy:eG T t=some y) (hd:y.desc= .slice et) (hye:eG T et=some ye) (hk:ye.size=k):
  AEff P ⟨dst,.indexAddr t x ix,ty,pos,aft,g⟩ s.ev s.heap s.kp ⟨.ref (e v),[],[],[]⟩:=aMN hT hy hd hye hk hx hix (aFO hm) (aPV hm)
theorem xD {x ix:Operand} {t et:Nat} {y ye:Ty} {b n kz:Nat} {es:List (List AV)} {kk:IntKind} {i:Int} (h0:0≤i) (hn:i.toNat<n) (hx:s.ev x=some (.own b 0 n)) (hb:s.heap b=some ⟨kz,es⟩) (hix:s.ev ix=some (.sc (.int kk i))) (hy:eG T t=some y) (hd:y.desc= .slice et) (hye:eG T et=some ye) (hk:ye.size=kz):
  AEff P ⟨dst,.indexAddr t x ix,ty,pos,aft,g⟩ s.ev s.heap s.kp ⟨.ptr b i.toNat 0,[b],[],[]⟩:=by
 have:=aNS (P:=P) hT (dst:=dst) (ty:=ty) (pos:=pos) (aft:=aft) (g:=g) hy hd hye hx hb hk hix h0 (by omega);rw [Nat.zero_add] at this;exact this
omit hT in
theorem aJK: ∀ {cs vs:List AV},cs.length=vs.length→aAV cs 0 vs=vs
 | [],[],_=>rfl
 |c::cs,v::vs,h=>by simp only [aAV];rw [aJK (by simpa using h)]
theorem mW {t:TypeId} {y:Ty} {x z:Operand} {val:AV} {b i:Nat} {l:List α} {v u:α} (E:EOk k e) (hm:l[i]? =some v) (hc:dB val=e u) (hx:s.ev x=some (.ptr b i 0)) (hb:s.heap b=some ⟨k,l.map e⟩) (hz:s.ev z=some val) (hy:eG T t=some y) (hk:y.size=k):
  AEff P ⟨dst,.store t x z,ty,pos,aft,g⟩ s.ev s.heap s.kp ⟨.dead,[b],[(b,some ⟨k,(l.set i u).map e⟩)],[]⟩:=by
 have h1:=aHt (P:=P) hT (dst:=dst) (ty:=ty) (pos:=pos) (aft:=aft) (g:=g) hx hb hz hy (by rw [hc,E.len,hk];simp) (by rw [hc,List.all_eq_true];exact λc h=>aJH (E.mem u c h) _) (cs:=e v) (by rw [List.getElem?_map,hm];rfl) (by rw [E.len,hk,Nat.zero_add];simp);rw [hc,aDK (E.mem u),aJK (by rw [E.len,E.len]),←List.map_set] at h1;exact h1
theorem mR {x z:Operand} {t et:Nat} {y ye:Ty} {b b' n:Nat} {l m:List α} {sv:AV} {ts:List Nat} {dty:TypeId} (E:EOk k e) (hf:decide (l.length+m.length≤4294967296)=true) (hns:s.ns.head?=some b') (hx:s.ev x=some (.own b 0 n)) (hb:s.heap b=some ⟨k,l.map e⟩) (hl:l.length=n) (hz:s.ev z=some sv) (hsrc:uJ s.heap sv=some (k,m.map e,ts))
  (hy:eG T t=some y) (hd:y.desc= .slice et) (hye:eG T et=some ye) (hzl:ye.zero.length=ye.size) (hk:ye.size=k) (hby:Nat.ble ye.bytes 32768=true):
  AEff P ⟨dst,.call ⟨.builtin .append,#[x,z],#[t,t]⟩,dty,pos,aft,g⟩ s.ev s.heap s.kp ⟨.own b' 0 (l++m).length,b::ts,[(b,none),(b',some ⟨k,(l++m).map e⟩)],[b']⟩:=by
 have hf:=of_decide_eq_true hf;have hby:=Nat.le_of_ble_eq_true hby
 have h1:=aGr (P:=P) hT (dst:=dst) (pos:=pos) (aft:=aft) (g:=g) (dty:=dty) hns hx hb hz hsrc hy hd hye hzl hk.symm hk.symm (by simpa using hl) (E.okE _ m) (by simp;omega) (by simp only [jG];calc (n+m.length)*ye.bytes≤4294967296*32768:=Nat.mul_le_mul (by omega) hby
                                                                                                                                                                _≤140737488355328:=by decide)
 rw [E.namesE,List.append_nil,hk,jG] at h1;rw [List.length_append,List.map_append,hl];exact h1
omit hT in
theorem aKk {c:AV} (h:lK c=true):yQ (sM c)=c:=by cases c <;> simp only [lK,gQ] at h <;> rfl
omit hT in
theorem aRB (E:EOk k e) (l:List α):(l.map (ow e)).map (List.map yQ)=l.map e:=by
 rw [List.map_map];refine aAM λx _=>?_;simp only [Function.comp,ow,List.map_map]
 have: ∀ {cs:List AV},(∀ c∈cs,lK c=true)→cs.map (yQ∘sM)=cs:=by
  intro cs;induction cs with
  |nil=>intro _;rfl
  |cons c cs ih=>intro h;rw [List.map_cons,ih λd hd=>h d (by simp [hd])];simp only [Function.comp];rw [aKk (h c (by simp))]
 exact this (E.mem x)
omit hT in
theorem aAW {h:Hp} {b n:Nat} {l:List α} (E:EOk k e) (hb:h b=some ⟨k,l.map (ow e)⟩) (hl:l.length=n):view1 h (.own b 0 n) (.list k (l.map e)):=aKc hb rfl (by simp [hl]) (E.views l)
omit hT in
theorem wG {h:Hp} {b n:Nat} {l:List α} (E:EOk k e) (hb:h b=some ⟨k,l.map (ow e)⟩) (hl:l.length=n):viewA h (.own b 0 n) (.list k (l.map e)):=aAW E hb hl
omit hT in
theorem aRi {h:Hp} {b n:Nat} {l:List α} (E:EOk k e) (hb:h b=some ⟨k,l.map e⟩) (hl:l.length=n):view1 h (.own b 0 n) (.list k (l.map e)):=aKc hb rfl (by simp [hl]) (E.sames l)
omit hT in
theorem aNb {h:Hp} {b n:Nat} {l:List α} (E:EOk k e) (hb:h b=some ⟨k,l.map e⟩) (hl:l.length=n):viewA h (.own b 0 n) (.list k (l.map e)):=aRi E hb hl
omit hT in
theorem eY {h:Hp} {b n:Nat} {l:List α} (E:EOk k e) (hb:h b=some ⟨k,l.map (ow e)⟩) (hl:l.length=n):aBm h (.own b 0 n) (.list k (l.map e)):=⟨rfl,_,hb,by simp [hl],rfl,E.frzs l⟩
end
theorem pE {h:Hp} :All2 (aBm h) [] []:=rfl
theorem bZ {h:Hp} {x d:AV} {xs ds:List AV} (a:aBm h x d) (b:All2 (aBm h) xs ds):All2 (aBm h) (x::xs) (d::ds):=⟨d,ds,rfl,a,b⟩
theorem aRC {h:Hp} {cs ds:List AV} (a:All2 (aBm h) cs ds):aGS h [.agg cs] (.agg ds):=⟨a,by intro _ h;cases h⟩
theorem mX {h:Hp} {x:AV} {k:Nat} {es:List (List AV)} (a:aBm h x (.list k es)):aGS h [x] (.list k es):=by
 refine ⟨?_,by intro _ h;cases h⟩;cases x <;> exact a
theorem cU {h:Hp} {x d:AV} (a:aBm h x d):aEY h x d:=by
 unfold aEY;split
 ·exact a.elim
 ·exact a
theorem qD {h:Hp} {cs ds:List AV} (a:All2 (aBm h) cs ds):aEY h (.agg cs) (.agg ds):=a
theorem bU {h:Hp} :All2 (aEY h) [] []:=rfl
theorem aQ {h:Hp} {x d:AV} {xs ds:List AV} (a:aEY h x d) (b:All2 (aEY h) xs ds):All2 (aEY h) (x::xs) (d::ds):=⟨d,ds,rfl,a,b⟩
theorem bH {h:Hp} {vs rs:List AV} (hl:Nat.beq vs.length 1=false) (a:All2 (aEY h) vs rs):aGS h vs (.tuple rs):=by
 have h1:vs.length≠1:=by intro e;rw [e] at hl;cases hl
 cases vs with
 |nil=>exact ⟨h1,a⟩
 |cons v vs=>
  cases vs with
  |nil=>exact absurd rfl h1
  |cons u vs=>exact ⟨h1,a⟩
section
variable {s:AState}
theorem qW {b b' j n k k':Nat} {A es es':List (List AV)} {c:List AV} (hb:s.heap b=some ⟨k,A++[c]⟩) (hj:c[j]? =some (.own b' 0 n)) (hb':s.heap b'=some ⟨k',es⟩) (hne:Nat.beq b b'=false) (hn:es.length=n) (hf:All2 (All2 aEX) es es'):
  Ent s ⟨s.env,aY [(b',none),(b,some ⟨k,A++[aAV c j [.abs k' es']]⟩)] s.heap,s.used,s.ns,s.kp⟩:=by
 have h:=aAd (i:=A.length) hb (by simp) hj hb' hne hn rfl hf;have e:(A++[c]).set A.length (aAV c j [.abs k' es'])=A++[aAV c j [.abs k' es']]:=by rw [List.set_append_right _ _ (bT _),Nat.sub_self];rfl
 simp only [e] at h;exact h
theorem aFW {b b' i j n k k':Nat} {A es es':List (List AV)} {c:List AV} (hi:i<A.length) (hb:s.heap b=some ⟨k,A.set i c⟩) (hj:c[j]? =some (.own b' 0 n)) (hb':s.heap b'=some ⟨k',es⟩) (hne:Nat.beq b b'=false) (hn:es.length=n) (hf:All2 (All2 aEX) es es'):
  Ent s ⟨s.env,aY [(b',none),(b,some ⟨k,A.set i (aAV c j [.abs k' es'])⟩)] s.heap,s.used,s.ns,s.kp⟩:=by
 have h:=aAd (i:=i) hb (by simp [hi]) hj hb' hne hn rfl hf;simp only [List.set_set] at h;exact h
end
theorem aR {α β:Type} (f:α→β) (l:List α):(l.map f).length=l.length:=jG ..
end
noncomputable section
theorem iZ:Tryz.prog.follows .mixedOrders=true:=by kernel_rfl
structure Pa where
 start:Int
 arrows:List Int
 deriving DecidableEq
def pT (p:Pa):List AV:=[.int p.start,aQm p.arrows]
abbrev aEZ (b:ByteArray):List AV:=[.str b]
def dE {α:Type} (k:Nat) (e:α→List AV) (l:List α):List AV:=[.list k (l.map e)]
theorem cA:EOk 1 eI:=⟨λ_=>rfl,λ_=>rfl⟩
theorem yB:EOk 1 aEZ:=⟨λ_=>rfl,λ_=>rfl⟩
theorem bA {α:Type} {k:Nat} {e:α→List AV} :EOk 1 (dE k e):=⟨λ_=>rfl,λ_=>rfl⟩
theorem gR:EOk 2 pT:=⟨λ_=>rfl,λ_=>rfl⟩
theorem pF:EOk 1 (ow eI):=⟨λ_=>rfl,λ_=>rfl⟩
theorem aNc:EOk 1 (ow aEZ):=⟨λ_=>rfl,λ_=>rfl⟩
theorem qX {nb nb':List (Nat×Blk)} {ed:List (Nat×Option Blk)} (h:nb=nb') (e:rK nb'=ed:=by rfl):rK nb=ed:=by rw [h];exact e
theorem nY (σ:Nat→Option Nat) {n:Nat} {cs:List AV} (h:cs.all eS=true):All2 (fT σ n) cs cs:=by
 induction cs with
 |nil=>rfl
 |cons c cs ih=>
  simp only [List.all_cons,dJ] at h;refine ⟨c,cs,rfl,?_,ih h.2⟩;cases c <;> simp only [eS,gQ,false_and] at h <;> simp [fT]
theorem aMS {σ:Nat→Option Nat} {n:Nat} {α:Type} {k k':Nat} {e:α→List AV} (m:Nat):All2 (All2 (lV σ n)) (List.replicate m [.nil k']) ((List.replicate m ([]:List α)).map (ow (dE k e))):=by
 induction m with
 |zero=>rfl
 |succ m ih=>exact ⟨_,_,rfl,⟨_,_,rfl,rfl,rfl⟩,ih⟩
theorem aDO {α:Type} {e:α→List AV} {z:α} (n:Nat):List.replicate n (ow e z)=(List.replicate n z).map (ow e):=(List.map_replicate ..).symm
section
variable {h:Hp}
theorem aDP {k b n:Nat} {es fs:List (List AV)} (hb:h b=some ⟨k,es⟩) (hn:n=es.length) (v:All2 (All2 view0) es fs):view1 h (.own b 0 n) (.list k fs):=aKc hb rfl hn v
theorem aNd {k b n:Nat} {es fs:List (List AV)} (hb:h b=some ⟨k,es⟩) (hn:n=es.length) (v:All2 (All2 view0) es fs):viewA h (.own b 0 n) (.list k fs):=aDP hb hn v
theorem aCX:All2 (viewP h) [] []:=rfl
theorem yC {x d:AV} {xs ds:List AV} (a:viewP h x d) (b:All2 (viewP h) xs ds):All2 (viewP h) (x::xs) (d::ds):=⟨d,ds,rfl,a,b⟩
theorem aPg {c:AV} (p:eS c=true):viewP h c c:=by cases c <;> simp only [eS,gQ] at p <;> simp [viewP,view1,view0]
theorem aAg {b:Nat} {blk:Blk} {c cs:List AV} (hb:h b=some blk) (hi:blk.es[0]? =some c) (v:All2 (view1 h) c cs):viewP h (.ptr b 0 0) (.ref cs):=⟨blk,c,hb,hi,v⟩
theorem aJL {f:FuncId} {cs ds:List AV} (v:All2 (viewP h) cs ds):viewA h (.fn f cs) (.fn f ds):=⟨rfl,v⟩
theorem aFX: ∀ {cs:List AV},cs.all eS=true→All2 (viewP h) cs cs
 | [],_=>rfl
 |c::cs,p=>by simp only [List.all_cons,dJ] at p;exact ⟨c,cs,rfl,aPg p.1,aFX p.2⟩
theorem aNe {f:FuncId} {cs:List AV} (p:cs.all eS=true):viewA h (.fn f cs) (.fn f cs):=⟨rfl,aFX p⟩
end
theorem qY:aEC (.agg []):=by intro _ h;cases h
theorem cJ {c:AV} {cs:List AV} (a:aIy c) (b:aEC (.agg cs)):aEC (.agg (c::cs)):=by
 intro d hd;rcases cY.1 hd with rfl|h
 ·exact a
 ·exact b d h
theorem lX:aGm (.tuple []):=by intro _ h;cases h
theorem cP {c:AV} {cs:List AV} (a:aEC c) (b:aGm (.tuple cs)):aGm (.tuple (c::cs)):=by
 intro d hd;rcases cY.1 hd with rfl|h
 ·exact a
 ·exact b d h
section
variable {P:Program} {T:List (Nat×Ty)} {dst:Option Tmp} {ty:TypeId} {pos:String} {aft:Array Edge} {g:Option (Nat×Bool)} {s:AState}
theorem aBr (hT:TyOk P T) {t e:TypeId} {y ye:Ty} {l c:Operand} {kl kc:IntKind} {n:Int} {b:Nat} (q:(decide (0≤n)&&decide (n≤1048576))=true) (hns:s.ns.head?=some b) (hl:s.ev l=some (.sc (.int kl n))) (hc:s.ev c=some (.sc (.int kc n))) (hy:eG T t=some y) (hd:y.desc= .slice e) (hye:eG T e=some ye) (hz:ye.zero.length=ye.size) (hb:Nat.ble ye.bytes 32768=true):
  AEff P ⟨dst,.makeSlice t l c,ty,pos,aft,g⟩ s.ev s.heap s.kp ⟨.own b 0 n.toNat,[],[(b,some ⟨ye.size,List.replicate n.toNat ye.zero⟩)],[b]⟩:=by
 simp only [dJ,jU] at q;refine aQk hT hns hl hc hy hd hye hz q.1 (by omega) ?_;have hb:=Nat.le_of_ble_eq_true hb
 calc n.toNat*ye.bytes≤1048576*32768:=Nat.mul_le_mul (by omega) hb
  _≤140737488355328:=by decide
theorem aBL {fo:Operand} {xs:Array Operand} {ats:Array TypeId} {f:FuncId} {caps avs ds1:List AV} {u:Value} (hcap:caps.all eS=true) (hc:HasC P f (ds1++caps) (.sc u)) (hf:s.ev fo=some (.fn f caps)) (hx:evs s.ev xs.toList=some avs) (hv1:All2 (viewA s.heap) avs ds1):
  AEff P ⟨dst,.call ⟨.value fo,xs,ats⟩,ty,pos,aft,g⟩ s.ev s.heap s.kp ⟨.sc u,avs.flatMap (vP s.heap)++caps.flatMap (sA s.heap),[],[]⟩:=
 aFL (ds1:=ds1) (ds2:=caps) (ns:=[]) (nb:=[]) (r:= .sc u) (x:= .sc u) hf hx hc hv1 (aFX hcap) trivial (aLd [] u) rfl (by simp)
end
end
noncomputable section
def pQ (σ:Nat→Option Nat) (ν:Nu):Nu:=⟨λb=>match σ b with|some b0=>ν b0|none=>none,ν.ok⟩
structure Conv (σ:Nat→Option Nat) (n:Nat) (w:World) (h:Hp) (u:Us) (ν:Nu) (hl:List (Nat×Blk)):Prop where
 free: ∀ x,rY h ν x→rY (jB hl) (pQ σ ν) x
 rep: ∀ {x y:AV} {v:Value},RepA w h u ν x v→xA σ n x y→RepA w (jB hl) (uY n) (pQ σ ν) y v
 heap: ∀ {M:Nat→Prop} {φ:Nat→List Nat},HeapOk M w h u ν φ→HeapOk M w (jB hl) (uY n) (pQ σ ν) (λb=>match σ b with|some b0=>φ b0|none=>[])
 look: ∀ b y,jB hl b=some y→(∀ b0,σ b=some b0→ ∃ x,h b0=some x∧x.k=y.k∧x.es.length=y.es.length)∧Nat.blt b n=true
theorem aEm {σ:Nat→Option Nat} {n:Nat} {w:World} {h:Hp} {u:Us} {ν:Nu} {hl:List (Nat×Blk)} (hh:tD σ n h hl) (hi:aDH σ hl=true):Conv σ n w h u ν hl:=by
 generalize hν':pQ σ ν=ν';have hνok:ν'.ok=ν.ok:=by rw [←hν'];rfl
 have hνb: ∀ b,ν' b=match σ b with|some b0=>ν b0|none=>none:=λb=>by rw [←hν'];rfl
 have hlive: ∀ b y,jB hl b=some y→(match σ b with|some b0=> ∃ x,h b0=some x∧aBl σ n x y|none=>y.es=[])∧Nat.blt b n=true:=λb y h=>aFH hh (qK h)
 have hlen: ∀ {x y:Blk},aBl σ n x y→x.k=y.k∧x.es.length=y.es.length:=by
  rintro x y ⟨h1,h2|h2⟩
  ·exact ⟨h1,by rw [h2.1]⟩
  ·exact ⟨h1,h2.len.symm⟩
 have hfree: ∀ x,rY h ν x→rY (jB hl) ν' x:=by
  intro x hf b y β c hb hν;have h1:=(hlive b y hb).1;cases hσ:σ b with
  |none=>simp only [hνb,hσ] at hν;cases hν
  |some b0=>
   rw [hσ] at h1;simp only [hνb,hσ] at hν;obtain ⟨z,h2,_⟩:=h1;exact hf b0 z β c h2 hν
 have m1: ∀ {x y:AV} {v:Value},Rep1 w h u ν x v→fT σ n x y→Rep1 w (jB hl) (uY n) ν' y v:=by
  intro x y v r m;cases y
  case dead=>trivial
  case sc u=>cases x <;> simp only [fT] at m <;> first|exact m.elim|(subst m;exact r)
  case nil k=>cases x <;> simp only [fT] at m <;> first|exact m.elim|exact r
  case list k es=>
   cases x <;> simp only [fT] at m <;> first|exact m.elim|skip
   ·subst m;simp only [Rep1] at r ⊢;exact ⟨[],by rw [r];exact yT,by simp⟩
   ·obtain ⟨rfl,rfl⟩:=m;obtain ⟨S,r1,r2⟩:=r;exact ⟨S,r1,λx hx=>⟨hfree x (r2 x hx).1,by rw [hνok];exact (r2 x hx).2⟩⟩
  case ref cs=>
   cases x <;> simp only [fT] at m <;> first|exact m.elim|skip
   subst m;obtain ⟨S,r1,r2⟩:=r;exact ⟨S,r1,λx hx=>⟨hfree x (r2 x hx).1,by rw [hνok];exact (r2 x hx).2⟩⟩
  case own b i q=>
   cases x <;> simp only [fT] at m <;> first|exact m.elim|skip
   ·obtain ⟨m1,rfl,rfl,m4⟩:=m;simp only [Rep1] at r ⊢;refine ⟨m4,λblk hb=>?_⟩;have h1:=(hlive b blk hb).1;rw [m1] at h1;refine ⟨by simp,λ_=>r,λβ c hν=>?_⟩;simp only [hνb,m1] at hν;cases hν
   ·rename_i b0 i0 q0;obtain ⟨m1,rfl,rfl,m4⟩:=m;simp only [Rep1] at r ⊢;refine ⟨m4,λblk hb=>?_⟩;have h1:=(hlive b blk hb).1;rw [m1] at h1;obtain ⟨z,h2,h3⟩:=h1;obtain ⟨k1,k2⟩:=hlen h3;obtain ⟨r1,r2,r3⟩:=r.2 z h2;refine ⟨by rw [←k2];exact r1,λhν=>r2 (by simpa only [hνb,m1] using hν),λβ c hν=>?_⟩;rw [←k1];exact r3 β c (by simpa only [hνb,m1] using hν)
  case ptr b i q=>
   cases x <;> simp only [fT] at m <;> first|exact m.elim|skip
   rename_i b0 i0 q0;obtain ⟨m1,rfl,rfl,m4⟩:=m;simp only [Rep1] at r ⊢;refine ⟨m4,λblk hb=>?_⟩;have h1:=(hlive b blk hb).1;rw [m1] at h1;obtain ⟨z,h2,h3⟩:=h1;obtain ⟨k1,k2⟩:=hlen h3;obtain ⟨β,c,r1,r2⟩:=r.2 z h2;exact ⟨β,c,by simpa only [hνb,m1] using r1,by rw [←k1];exact r2⟩
  all_goals (cases x <;> simp only [fT] at m)
 have mL: ∀ {xs ys:List AV} {vs:List Value},All2 (Rep1 w h u ν) xs vs→All2 (fT σ n) xs ys→All2 (Rep1 w (jB hl) (uY n) ν') ys vs:=by
  intro xs;induction xs with
  |nil=>intro ys vs r m;simp only [All2] at r m;subst r m;rfl
  |cons x xs ih=>
   rintro ys vs ⟨v,r,rfl,h1,h2⟩ ⟨y,q,rfl,k1,k2⟩;exact ⟨v,r,rfl,m1 h1 k1,ih h2 k2⟩
 have mC: ∀ {x y:AV} {v:Value} {S:List Nat},CellRep w h u ν x v S→lV σ n x y→CellRep w (jB hl) (uY n) ν' y v S:=by
  intro x y v S r m
  cases x <;> cases y <;> simp only [lV] at m <;> simp only [CellRep] at r ⊢ <;> first
   |exact m.elim
   |exact r.elim
   |exact ⟨m1 r.1 m,r.2⟩
   |(obtain ⟨rfl,m⟩:=m;obtain ⟨⟨vs,r1,r2⟩,r3⟩:=r;exact ⟨⟨vs,r1,mL r2 m⟩,r3⟩)
   |(obtain ⟨rfl,rfl⟩:=m;exact r)
   |(obtain ⟨r1,rfl⟩:=r;subst m;simp only [Rep1] at r1;rw [r1];exact aCN)
   |(simp only [fT] at m)
 have mCs: ∀ {xs ys:List AV} {vs:List Value} {S:List Nat},CellsRep w h u ν xs vs S→All2 (lV σ n) xs ys→CellsRep w (jB hl) (uY n) ν' ys vs S:=by
  intro xs;induction xs with
  |nil=>intro ys vs S r m;simp only [All2] at m;subst m;exact r
  |cons x xs ih=>
   rintro ys vs S ⟨v,r,S1,S2,rfl,rfl,h1,h2⟩ ⟨y,q,rfl,k1,k2⟩;exact ⟨v,r,S1,S2,rfl,rfl,mC h1 k1,ih h2 k2⟩
 have mSelf: ∀ {xs:List AV} {vs:List Value} {S:List Nat},CellsRep w h u ν xs vs S→(∀ c∈xs,sL c=true)→CellsRep w (jB hl) (uY n) ν' xs vs S:=by
  intro xs vs S r hp;refine mCs r ?_;clear r;induction xs with
  |nil=>rfl
  |cons x xs ih=>
   refine ⟨x,xs,rfl,?_,ih (λc hc=>hp c (by simp [hc]))⟩;have:=hp x (by simp);cases x <;> simp only [sL,gQ] at this <;> simp [lV,fT]
 have mFlat: ∀ {es fs:List (List AV)} {R:AV→AV→Prop},All2 (All2 R) es fs→All2 R es.flatten fs.flatten:=by
  intro es;induction es with
  |nil=>intro fs R h;simp only [All2] at h;subst h;rfl
  |cons c es ih=>
   rintro fs R ⟨d,fs',rfl,h1,h2⟩;rw [List.flatten_cons,List.flatten_cons];exact h1.append (ih h2)
 have mlens: ∀ {es fs:List (List AV)} {k:Nat},All2 (All2 (lV σ n)) es fs→(∀ cs∈es,cs.length=k)→ ∀ cs∈fs,cs.length=k:=by
  intro es;induction es with
  |nil=>intro fs k h _ cs hcs;simp only [All2] at h;subst h;cases hcs
  |cons c es ih=>
   rintro fs k ⟨d,fs',rfl,h1,h2⟩ hk cs hcs;rcases cY.1 hcs with rfl|h
   ·rw [h1.len];exact hk c (by simp)
   ·exact ih h2 (λx hx=>hk x (by simp [hx])) cs h
 subst hν';refine ⟨hfree,?_,?_,λb y hb=>⟨λb0 e=>?_,(hlive b y hb).2⟩⟩
 ·intro x y v h4 h2
  cases x <;> cases y <;> simp only [xA] at h2 <;> simp only [RepA,RepB] at h4 ⊢ <;> first
   |exact m1 h4 h2
   |(obtain ⟨vs,e1,e2⟩:=h4;exact ⟨vs,e1,mL e2 h2⟩)
   |(obtain ⟨vs,e1,e2⟩:=h4;obtain ⟨rfl,h2⟩:=h2;exact ⟨vs,e1,mL e2 h2⟩)
   |trivial
   |(simp only [fT] at h2)
 ·intro M φ hφ;refine ⟨?_,?_⟩
  ·intro b y hb;obtain ⟨h1,h2⟩:=hlive b y hb;refine ⟨h2,?_⟩;cases hσ:σ b with
   |none=>
    rw [hσ] at h1;simp only;exact ⟨⟨by rw [h1];simp,.inl ⟨by simp only [hνb,hσ],h1,rfl⟩⟩,by simp,by simp⟩
   |some b0=>
    rw [hσ] at h1;simp only;obtain ⟨x,h3,h4⟩:=h1;obtain ⟨g1,⟨g2,g3⟩,g4,g5⟩:=hφ.blk b0 x h3;obtain ⟨k1,k2⟩:=hlen h4;refine ⟨⟨?_,?_⟩,g4,g5⟩
    ·rcases h4.2 with ⟨e1,_⟩|e1
     ·rw [←e1,←k1];exact g2
     ·rw [←k1];exact mlens e1 g2
    ·rcases g3 with ⟨q1,q2,q3⟩|⟨β,c,arr,ty,T,vs,q1,q2,q3,q4,q5,q6,q7,q8⟩
     ·exact .inl ⟨by simp only [hνb,hσ];exact q1,by rw [q2] at k2;exact List.eq_nil_of_length_eq_zero k2.symm,q3⟩
     ·refine .inr ⟨β,c,arr,ty,T,vs,by simp only [hνb,hσ];exact q1,q2,by rw [←k1];exact q3,by rw [←k2];exact q4,q5,q6,by rw [←k1,←k2];exact q7,?_⟩;rcases h4.2 with ⟨e1,e2⟩|e1
      ·rw [e1] at q8;exact mSelf q8 (λc hc=>by obtain ⟨cs,hcs,hc'⟩:=List.mem_flatten.1 hc;exact e2 cs hcs c hc')
      ·exact mCs q8 (mFlat e1)
  ·intro b c z hb hc hne hzb hzc;obtain ⟨y1,hy1⟩:=Option.ne_none_iff_exists'.1 hb;obtain ⟨y2,hy2⟩:=Option.ne_none_iff_exists'.1 hc;have i1:=(aFI hi (qK hy1) (qK hy2)).2 hne;have l1:=(hlive b y1 hy1).1;have l2:=(hlive c y2 hy2).1;cases h1:σ b with
   |none=>rw [h1] at hzb;cases hzb
   |some b0=>
    cases h2:σ c with
    |none=>rw [h2] at hzc;cases hzc
    |some c0=>
     rw [h1] at hzb l1;rw [h2] at hzc l2;obtain ⟨x1,p1,_⟩:=l1;obtain ⟨x2,p2,_⟩:=l2;exact hφ.apart b0 c0 z (by rw [p1];simp) (by rw [p2];simp) (λe=>i1 b0 h1 (by rw [h2,e])) hzb hzc
 ·have h1:=(hlive b y hb).1;rw [e] at h1;obtain ⟨x,h2,h3⟩:=h1;exact ⟨x,h2,(hlen h3).1,(hlen h3).2⟩
end
noncomputable section
structure HasE (P:Program) (f:FuncId) (ds:List AV) (hl:List (Nat×Blk)) (kp:Nat) (r:AV) (hl':List (Nat×Blk)):Prop where
 enters:Enters P f
 calls: ∀ (B:Nat) (M:Nat→Prop) (w:World) (args:Array Value) (ν:Nu) (φ:Nat→List Nat),(∀ x,M x→B≤x)→B≤w.heap.size→(∀ x,w.heap.size≤x→M x)→(∀ x,M x→ν.ok x)→All2 (RepA w (jB hl) (uY kp) ν) ds args.toList→HeapOk M w (jB hl) (uY kp) ν φ→
  Calls P f args w λe w'=> ∃ v u' ν' φ',e= .returned v∧Below B w w'∧Ext w (jB hl) (uY kp) ν w' (jB hl') u' ν'∧HeapOk M w' (jB hl') u' ν' φ'∧RepA w' (jB hl') u' ν' r v
def aJM:AV→Bool
 | .tuple _=>false
 |_=>true
def aRD (vs:List AV) (r:AV):Prop:=(vs=[r])∨(vs.length≠1∧vs.all aJM=true∧r= .tuple vs)
def aNf (h:Hp):List (Nat×Blk)→Prop
 | []=>True
 |(b,y)::r=>h b=some y∧aNf h r
theorem aGw {h:Hp} : ∀ {l:List (Nat×Blk)},aNf h l→ ∀ {b:Nat} {y:Blk},(b,y)∈l→h b=some y
 |(c,z)::r,⟨h1,h2⟩,b,y,hm=>by
  rcases cY.1 hm with e|hm'
  ·obtain ⟨rfl,rfl⟩:=Prod.mk.inj e;exact h1
  ·exact aGw h2 hm'
def aSd (T:List (Nat×Ty)) (rvs:List ResultVar) (r:AV) (hl':List (Nat×Blk)) (e:Exit) (t:AState):Prop:=aEE e=true∧(∃ vs,wF T t rvs=some vs∧aRD vs r)∧aNf t.heap hl'
theorem Ext.shrink {w w':World} {h h' g:Hp} {u u':Us} {ν ν':Nu} (e:Ext w h u ν w' h' u' ν') (hg: ∀ b blk,g b=some blk→h' b=some blk):Ext w h u ν w' g u' ν':=
 ⟨e.used,λb blk hb hgb=>e.old b blk hb (hg b blk hgb),λx hx hf=>⟨(e.free x hx hf).1,λb blk β c hb hν=>(e.free x hx hf).2 b blk β c (hg b blk hb) hν⟩,e.okE⟩
theorem HeapOk.shrink {M M':Nat→Prop} {w:World} {h g:Hp} {u:Us} {ν:Nu} {φ:Nat→List Nat} (hh:HeapOk M w h u ν φ) (hg: ∀ b blk,g b=some blk→h b=some blk) (hM: ∀ b x,g b≠none→x∈φ b→M x→M' x):HeapOk M' w g u ν φ where
 blk:=λb blk hb=>by
  obtain ⟨g1,g2,g3,g4⟩:=hh.blk b blk (hg b blk hb);exact ⟨g1,g2.ext ((Ext.refl w h u ν).shrink hg) rfl (λ_ _=>rfl),g3,λx hx=>hM b x (by rw [hb];simp) hx (g4 x hx)⟩
 apart:=λb c x hb hc hne hxb hxc=>by
  obtain ⟨y1,h1⟩:=Option.ne_none_iff_exists'.1 hb;obtain ⟨y2,h2⟩:=Option.ne_none_iff_exists'.1 hc;exact hh.apart b c x (by rw [hg b y1 h1];simp) (by rw [hg c y2 h2];simp) hne hxb hxc
theorem aFY: ∀ {l:List AV} {t:Nat},aBo l t=l[t]?
 | [],_=>by simp [aBo]
 |_::_,0=>by simp [aBo]
 |_::r,t+1=>by simpa [aBo] using aFY (l:=r) (t:=t)
theorem aRE {w:World} {h:Hp} {u:Us} {ν:Nu} {x:AV} {v:Value} (r:RepA w h u ν x v) (hx:aJM x=true):RepB w h u ν x v:=by
 cases x <;> first|exact r|cases hx
theorem fS {P:Program} {T:List (Nat×Ty)} (hT:TyOk P T) {f:FuncId} {fn:Func} {c:Code} {nt kp:Nat} {ds:List AV} {hl hl':List (Nat×Blk)} {r:AV} {rvs:List ResultVar} {ns:List Nat} (hf:P.funcs[f]? =some fn) (hb:fn.body=some c) (hname:(fn.name== "runtime.NumGoroutine")=false) (hnt:fn.ntmps=nt) (hres:fn.results.toList=rvs)
  (hlen:Nat.ble ds.length nt=true) (h:AC P nt c ⟨aBo ds,jB hl,uY kp,ns,⟨kp,false,none,true⟩⟩ (λe t=> ∃ t',Ent t t'∧aSd T rvs r hl' e t')):HasE P f ds hl kp r hl':=by
 refine ⟨Enters.mk hf (by rw [hb];rfl) hname,λB M w args ν φ hMB hB hM hMo hargs hheap=>?_⟩;refine (callsIn_wide (n:=0)).1 (callsIn_of_wp_marks (F:=fw none) hf hb trivial ?_);have hlen':=Nat.le_of_ble_eq_true hlen;have hal:args.size=ds.length:=by have:=hargs.len;simpa using this
 let C:Ctx:=⟨B,w,nt,M,hMB,⟨kp,false,none,true⟩,w,jB hl,ν,rY (jB hl) ν,(λh=>by cases h),(λ_ h=>by cases h),none,λ_=>rfl⟩
 have hsim:Sim C ⟨aBo ds,jB hl,uY kp,ns,⟨kp,false,none,true⟩⟩ ν ⟨args++Array.replicate (fn.ntmps - args.size) undef,[]⟩ w:=by
  refine ⟨Below.refl _ _,hB,hM,uW,by show (args++Array.replicate (fn.ntmps - args.size) undef).size=nt;simp [hnt];omega,?_,⟨φ,hheap⟩,rfl,ExtF.refl λ_ _ h=>h,bT _,hMo,λ_ h=>by cases h⟩;intro t x hx;have hx':ds[t]? =some x:=by rw [←aFY];exact hx
  obtain ⟨v,h1,h2⟩:=hargs.get hx';refine ⟨v,?_,h2⟩
  have hlt:t<args.size:=by
   rcases eW t args.size with h'|h'
   ·exact h'
   ·rw [gJ (by simpa using h')] at h1;cases h1
  show (args++Array.replicate (fn.ntmps - args.size) undef)[t]? =some v;rw [Array.getElem?_append_left hlt];simpa using h1
 refine wpIn_mono (h.out C rfl _ _ w hsim 0) λe a' w0 ⟨s1,ν1,⟨s',hent,hq⟩,hs1⟩=>?_;obtain ⟨ν',hs0⟩:=hent C ν1 a' w0 hs1;obtain ⟨Ds,d1,d2,d3⟩:=hs0.defers;obtain ⟨w',hs',hleave⟩:=hs0.leave (P:=P) (n:=0) d1 d2 d3;obtain ⟨he,⟨avs,hv,hone⟩,hsame⟩:=hq;have hsub: ∀ b blk,jB hl' b=some blk→s'.heap b=some blk:=λb blk hb=>aGw hsame (qK hb);obtain ⟨us,h1,h2⟩:=xY hT hs' hv;obtain ⟨φ',hh⟩:=hs'.heap
 have hrun:(results fn a'.tmps).run P w'= .ok (if hh:us.toArray.size=1 then us.toArray[0] else .tuple us.toArray) w':=by
  unfold results;rw [Sem.run_bind,Array.mapM_eq_mapM_toList,Sem.run_map,hres];have h1':=h1;generalize hq:(List.mapM _ rvs:Sem (List Value))=m;rw [show Sem.run P m w'= .ok us w' by rw [←hq];exact h1'];simp
 have shr:=(Ext.refl w' s'.heap s'.used ν').shrink hsub
 have hrep:RepA w' (jB hl') s'.used ν' r (if hh:us.toArray.size=1 then us.toArray[0] else .tuple us.toArray):=by
  rcases hone with rfl|⟨g1,g2,rfl⟩
  ·obtain ⟨u,q,rfl,k1,k2⟩:=h2;simp only [All2] at k2;subst k2;exact k1.ext shr
  ·have hul:us.length=avs.length:=h2.len;rw [dif_neg (by simp;rw [hul];exact g1)];refine ⟨us,rfl,h2.congrM λx hx v hr=>?_⟩;exact aRE (hr.ext shr) (List.all_eq_true.1 g2 x hx)
 have hend:=hleave fn (λe w'=> ∃ v u' ν' φ',e= .returned v∧Below B w w'∧Ext w (jB hl) (uY kp) ν w' (jB hl') u' ν'∧HeapOk M w' (jB hl') u' ν' φ'∧RepA w' (jB hl') u' ν' r v)
  ⟨_,hrun,_,s'.used,ν',φ',rfl,hs'.below,hs'.ext.ext.shrink hsub,hh.shrink hsub (λ_ _ _ _ h=>h),hrep⟩
 cases e <;> simp only [aEE,gQ] at he <;> exact hend
def aCY (rl:List Nat):AV→Bool
 | .sc _=>true
 | .nil _=>true
 | .own b _ _=>rl.contains b
 | .ptr b _ _=>rl.contains b
 |_=>false
def aGx (rl:List Nat):AV→Bool
 | .abs _ _=>true
 | .fn _ cs=>cs.all (aCY rl)
 |x=>aCY rl x
def aGy (rl:List Nat):AV→Bool
 | .agg cs=>cs.all (aCY rl)
 |x=>aCY rl x
def aNg (rl:List Nat):AV→Bool
 | .tuple cs=>cs.all (aGy rl)
 |x=>aGy rl x
def aLg (rl:List Nat):List (Nat×Blk)→Prop
 | []=>True
 |(b,y)::r=>rl.contains b=true∧(∀ cs∈y.es,∀ c∈cs,aGx rl c=true)∧aLg rl r
theorem aGz {rl:List Nat} : ∀ {l:List (Nat×Blk)},aLg rl l→ ∀ {b:Nat} {y:Blk},(b,y)∈l→rl.contains b=true∧ ∀ cs∈y.es,∀ c∈cs,aGx rl c=true
 |(c,z)::r,⟨h1,h2,h3⟩,b,y,hm=>by
  rcases cY.1 hm with e|hm'
  ·obtain ⟨rfl,rfl⟩:=Prod.mk.inj e;exact ⟨h1,h2⟩
  ·exact aGz h3 hm'
theorem EOk.tame {α:Type} {k:Nat} {e:α→List AV} (E:EOk k e) (rl:List Nat) (l:List α): ∀ cs∈l.map (ow e),∀ c∈cs,aGx rl c=true:=by
 intro cs hcs c hc;obtain ⟨x,_,rfl⟩:=List.mem_map.1 hcs;obtain ⟨d,hd,rfl⟩:=List.mem_map.1 hc;have:=E.mem x d hd;cases d <;> simp only [lK,gQ] at this <;> rfl
def zZ (σ:Nat→Option Nat) (touch:List Nat):List (Nat×Blk)→Bool
 | []=>true
 |(b,_)::r=>(match σ b with|some x=>touch.contains x|none=>true)&&zZ σ touch r
theorem aAA {σ:Nat→Option Nat} {n:Nat} {touch:List Nat} {h h':Hp} (hc: ∀ b∈touch,h' b=h b): ∀ {l:List (Nat×Blk)},zZ σ touch l=true→tD σ n h l→tD σ n h' l
 | [],_,_=>trivial
 |(b,y)::r,ht,⟨h1,h2,h3⟩=>by
  simp only [zZ,dJ] at ht;refine ⟨?_,h2,aAA hc ht.2 h3⟩;cases hσ:σ b with
  |none=>rw [hσ] at h1;exact h1
  |some x=>
   have h4:=ht.1;rw [hσ] at h1 h4;simp only at h1 h4 ⊢;obtain ⟨z,e1,e2⟩:=h1;exact ⟨z,by rw [hc x (by simpa using h4)];exact e1,e2⟩
def aEH (σ σ':Nat→Option Nat) (kp:Nat) (news:List Nat):List (Nat×Blk)→Bool
 | []=>true
 |(b,_)::r=>(match σ' b with|some i=>news.contains b||(Nat.blt i kp&&(match σ i with|some x=>Nat.beq x b|none=>false))|none=>false)&&aEH σ σ' kp news r
theorem aDQ {σ σ':Nat→Option Nat} {kp:Nat} {news:List Nat} : ∀ {l:List (Nat×Blk)},aEH σ σ' kp news l=true→ ∀ {b:Nat} {y:Blk},(b,y)∈l→ ∃ i,σ' b=some i∧(b∈news∨(Nat.blt i kp=true∧σ i=some b))
 |(c,z)::r,h,b,y,hm=>by
  simp only [aEH,dJ] at h;rcases cY.1 hm with e|hm'
  ·obtain ⟨rfl,rfl⟩:=Prod.mk.inj e;have h1:=h.1;cases hσ:σ' b with
   |none=>rw [hσ] at h1;cases h1
   |some i=>
    rw [hσ] at h1;simp only [Bool.or_eq_true,dJ] at h1;refine ⟨i,rfl,?_⟩;rcases h1 with h1|⟨h1,h2⟩
    ·exact .inl (by simpa using h1)
    ·refine .inr ⟨h1,?_⟩;cases hσ2:σ i with
     |none=>rw [hσ2] at h2;cases h2
     |some x=>rw [hσ2] at h2;rw [Nat.eq_of_beq_eq_true h2]
  ·exact aDQ h.2 hm'
def yM (rl:List Nat) (hl2:List (Nat×Blk)):List (Nat×Option Blk):=rl.map λb=>(b,jB hl2 b)
theorem aFZ {h:Hp} {hl2:List (Nat×Blk)} {b:Nat} : ∀ {rl:List Nat},aY (yM rl hl2) h b=if b∈rl then jB hl2 b else h b
 | []=>by simp [yM,aY]
 |c::rl=>by
  have ih:=aFZ (h:=h) (hl2:=hl2) (b:=b) (rl:=rl);simp only [yM,List.map_cons,aY] at ih ⊢;by_cases e:b=c
  ·subst e;simp
  ·rw [bR e,aU,ih];simp [e]
end
noncomputable section
section
variable {w:World} {h1 h2:Hp} {u1 u2:Us} {ν1 ν2:Nu} {rl:List Nat} (H: ∀ b∈rl,h2 b=h1 b) (N: ∀ b∈rl,ν2 b=ν1 b) (U: ∀ b∈rl,u2 b=true)
include H N U
theorem aDR {x:AV} {v:Value} (r:Rep1 w h1 u1 ν1 x v) (t:aCY rl x=true):Rep1 w h2 u2 ν2 x v:=by
 cases x <;> simp only [aCY,gQ] at t <;> simp only [Rep1] at r ⊢
 ·exact r
 ·exact r
 ·rename_i b i n;have hb:b∈rl:=by simpa using t
  refine ⟨U b hb,λblk hbl=>?_⟩;rw [H b hb] at hbl;rw [N b hb];exact r.2 blk hbl
 ·rename_i b i n;have hb:b∈rl:=by simpa using t
  refine ⟨U b hb,λblk hbl=>?_⟩;rw [H b hb] at hbl;rw [N b hb];exact r.2 blk hbl
theorem aBs: ∀ {xs:List AV} {vs:List Value},All2 (Rep1 w h1 u1 ν1) xs vs→xs.all (aCY rl)=true→All2 (Rep1 w h2 u2 ν2) xs vs
 | [],vs,r,_=>r
 |x::xs,vs,⟨v,q,e,h,k⟩,t=>by
  simp only [List.all_cons,dJ] at t;exact ⟨v,q,e,aDR H N U h t.1,aBs k t.2⟩
theorem aHA {x:AV} {v:Value} (r:RepB w h1 u1 ν1 x v) (t:aGy rl x=true):RepB w h2 u2 ν2 x v:=by
 cases x <;> simp only [RepB] at r ⊢ <;> first
  |exact aDR H N U r t
  |(obtain ⟨vs,e,r⟩:=r;exact ⟨vs,e,aBs H N U r t⟩)
  |(simp only [aGy,aCY,gQ] at t)
theorem aMT {x:AV} {v:Value} (r:RepA w h1 u1 ν1 x v) (t:aNg rl x=true):RepA w h2 u2 ν2 x v:=by
 by_cases ht: ∃ cs,x= .tuple cs
 ·obtain ⟨cs,rfl⟩:=ht;obtain ⟨vs,e,r⟩:=r;refine ⟨vs,e,r.congrM λy hy d hd=>aHA H N U hd ?_⟩;exact List.all_eq_true.1 t y hy
 ·have r':RepB w h1 u1 ν1 x v:=by cases x <;> first|exact r|exact absurd ⟨_,rfl⟩ ht
  have t':aGy rl x=true:=by cases x <;> first|exact t|exact absurd ⟨_,rfl⟩ ht
  have:=aHA H N U r' t';cases x <;> first|exact this|exact absurd ⟨_,rfl⟩ ht
theorem aMU {x:AV} {v:Value} {S:List Nat} (r:CellRep w h1 u1 ν1 x v S) (t:aGx rl x=true):CellRep w h2 u2 ν2 x v S:=by
 cases x <;> simp only [CellRep] at r ⊢ <;> first
  |exact ⟨aDR H N U r.1 t,r.2⟩
  |(obtain ⟨⟨vs,e,q⟩,q2⟩:=r;exact ⟨⟨vs,e,aBs H N U q t⟩,q2⟩)
  |exact r
theorem aFa: ∀ {xs:List AV} {vs:List Value} {S:List Nat},CellsRep w h1 u1 ν1 xs vs S→(∀ c∈xs,aGx rl c=true)→CellsRep w h2 u2 ν2 xs vs S
 | [],_,_,r,_=>r
 |x::xs,vs,S,⟨v,q,S1,S2,e1,e2,h,k⟩,t=>⟨v,q,S1,S2,e1,e2,aMU H N U h (t x (by simp)),aFa k (λc hc=>t c (by simp [hc]))⟩
theorem aJN {b:Nat} {blk:Blk} {S:List Nat} (hb:b∈rl) (r:BlkOk w h1 u1 ν1 b blk S) (t: ∀ cs∈blk.es,∀ c∈cs,aGx rl c=true):BlkOk w h2 u2 ν2 b blk S:=by
 refine ⟨r.1,?_⟩;rcases r.2 with ⟨q1,q2,q3⟩|⟨β,c,arr,ty,T,vs,q1,q2,q3,q4,q5,q6,q7,q8⟩
 ·exact .inl ⟨(N b hb).trans q1,q2,q3⟩
 ·refine .inr ⟨β,c,arr,ty,T,vs,(N b hb).trans q1,q2,q3,q4,q5,q6,q7,aFa H N U q8 λc hc=>?_⟩;obtain ⟨cs,hcs,hc⟩:=List.mem_flatten.1 hc;exact t cs hcs c hc
end
theorem aDS {α β γ:Type} {R:α→γ→Prop} {Mt:α→β→Prop} {R':β→γ→Prop} (hc: ∀ x y v,R x v→Mt x y→R' y v): ∀ {xs:List α} {ys:List β} {vs:List γ},All2 R xs vs→All2 Mt xs ys→All2 R' ys vs
 | [],ys,vs,h,m=>by simp only [All2] at h m;subst h m;rfl
 |x::xs,ys,vs,⟨v,q,e,h,k⟩,⟨y,p,e2,m,m2⟩=>by
  subst e e2;exact ⟨v,q,rfl,hc x y v h m,aDS hc k m2⟩
theorem pR {w:World} {h:Hp} {u:Us} {ν:Nu} {b:Nat} {blk:Blk} {S:List Nat} (r:BlkOk w h u ν b blk S) {β c:Nat} (hν:ν b=some (β,c)):β∈S:=by
 rcases r.2 with ⟨q1,_,_⟩|⟨β',c',arr,ty,T,vs,q1,q2,q3,q4,q5,q6,q7,q8⟩
 ·rw [hν] at q1;cases q1
 ·rw [hν] at q1;cases q1;rw [q6];simp
end
noncomputable section
section
variable {P:Program} {T:List (Nat×Ty)} (hT:TyOk P T) {dst:Option Tmp} {ty:TypeId} {pos:String} {aft:Array Edge} {g:Option (Nat×Bool)} {s:AState}
def bnd (s:AState) (d:Nat):Option Operand→Option Int
 |none=>some d
 |some x=>match s.ev x with|some (.sc (.int _ n))=>some n|_=>none
theorem vR {lo hi:Option Value} {len cap:Nat} {l h:Int} (w:World) (hl:(lo=none∧l=0)∨ ∃ k,lo=some (.int k l)) (hh:(hi=none∧h=len)∨ ∃ k,hi=some (.int k h)) (h0:0≤l) (h1:l≤h) (h2:h≤len) (h3:len≤cap):
  (Instr.sliceBounds true len cap lo hi none).run P w= .ok (l.toNat,h.toNat,cap) w:=by
 have eh:(h.toNat:Int)=h:=by omega
 have hhc:0≤h∧h≤(cap:Int):=by omega
 rcases hl with ⟨rfl,rfl⟩|⟨k,rfl⟩ <;> rcases hh with ⟨rfl,rfl⟩|⟨k',rfl⟩ <;> simp [Instr.sliceBounds,Instr.sliceBound,asIntOf,h0,hhc,eh,Int.not_lt.2 h1,h1]
include hT
theorem tL {x:Operand} {lo hi:Option Operand} {t e:Nat} {y ye:Ty} {b i n:Nat} {blk:Blk} {l h:Int} (q:(decide (0≤l)&&(decide (l≤h)&&decide (h≤(n:Int))))=true) (hx:s.ev x=some (.own b i n)) (hb:s.heap b=some blk) (hlo:bnd s 0 lo=some l) (hhi:bnd s n hi=some h) (hy:eG T t=some y) (hd:y.desc= .slice e) (hye:eG T e=some ye) (hk:ye.size=blk.k):
  AEff P ⟨dst,.slice t x lo hi none,ty,pos,aft,g⟩ s.ev s.heap s.kp ⟨.own b (i+l.toNat) (h.toNat - l.toNat),[b],[],[]⟩:=by
 simp only [dJ,jU] at q;refine AEff.pure λC s' ν a w hi' ht hs=>?_;have hb':s'.heap b=some blk:=(ht b (by simp)).trans hb;have h1:=hs.ev ((hi' x (by simp [Op.operands])).trans hx);simp only [RepA,RepB,Rep1] at h1;obtain ⟨h3,h4,h5⟩:=h1.2 blk hb';obtain ⟨φ,hh⟩:=hs.heap;obtain ⟨_,⟨_,hx2⟩,_,_⟩:=hh.blk b blk hb';obtain ⟨i1,z1,d1,y1⟩:=hT.is hy;obtain ⟨i2,z2,d2,y2⟩:=hT.is hye
 have hlo':((lo.map a.eval)=none∧l=0)∨ ∃ k,lo.map a.eval=some (.int k l):=by
  cases lo with
  |none=>simp only [bnd,Option.some.injEq] at hlo;exact .inl ⟨rfl,by omega⟩
  |some z=>
   simp only [bnd] at hlo;split at hlo
   ·rename_i kk m hz;cases hlo;have:=hs.ev ((hi' z (by simp [Op.operands])).trans hz);simp only [RepA,RepB,Rep1] at this;exact .inr ⟨kk,by simp [this.1]⟩
   ·cases hlo
 have hhi':((hi.map a.eval)=none∧h=n)∨ ∃ k,hi.map a.eval=some (.int k h):=by
  cases hi with
  |none=>simp only [bnd,Option.some.injEq] at hhi;exact .inl ⟨rfl,by omega⟩
  |some z=>
   simp only [bnd] at hhi;split at hhi
   ·rename_i kk m hz;cases hhi;have:=hs.ev ((hi' z (by simp [Op.operands])).trans hz);simp only [RepA,RepB,Rep1] at this;exact .inr ⟨kk,by simp [this.1]⟩
   ·cases hhi
 rcases hx2 with ⟨q1,q2,_⟩|⟨β,c,arr,ty',T',vs,q1,q2,q3,q4,q5,q6,q7,q8⟩
 ·rw [q2] at h3;have hn:n=0:=by simp at h3;omega
  have hi0:i=0:=by simp at h3;omega
  subst hn hi0;have hl0:l=0:=by omega
  have hh0:h=0:=by omega
  subst hl0 hh0;refine ⟨.slice none 0 0,?_,?_⟩
  ·have hsb:=vR (P:=P) (len:=0) (cap:=0) w hlo' hhi' (by omega) (by omega) (by omega) (by omega);simp only [execOp,Instr.sliceAt,Instr.slice,h4 q1,Sem.run_bind,mV (y1.slice hd),Result.andThen_ok,nW y2.info,Option.map_none];rw [hsb];simp
  ·simp only [RepA,RepB,Rep1];refine ⟨h1.1,λblk2 hb2=>?_⟩;rw [hb'] at hb2;cases hb2;exact ⟨by simp,λ_=>by first|rfl|trivial,λβ c hν=>by rw [q1] at hν;cases hν⟩
 ·obtain ⟨o,ho,ho2⟩:=h5 β c q1;have hsb:=vR (P:=P) (len:=n) (cap:=c - i) w hlo' hhi' q.1 q.2.1 q.2.2 (by omega);refine ⟨.slice (if c - i=l.toNat then some ⟨β,o,none⟩ else some ⟨β,o+l.toNat*ye.size,none⟩) (h.toNat - l.toNat) (c - i - l.toNat),?_,?_⟩
  ·simp only [execOp,Instr.sliceAt,Instr.slice,ho,Sem.run_bind,mV (y1.slice hd),Result.andThen_ok,nW y2.info,y2.size,Option.map_none];rw [hsb];by_cases e:c - i=l.toNat <;> simp [e,Addr.add]
  ·simp only [RepA,RepB,Rep1];refine ⟨h1.1,λblk2 hb2=>?_⟩;rw [hb'] at hb2;cases hb2;refine ⟨by omega,λhν=>(by rw [q1] at hν;cases hν),λβ' c' hν=>?_⟩;rw [q1] at hν;cases hν;by_cases e:c - i=l.toNat
   ·rw [bG e];by_cases hz:i+l.toNat=0
    ·have hi0:i=0:=by omega
     have hl0:l.toNat=0:=by omega
     refine ⟨o,by congr 1;omega,.inl ?_⟩;rcases ho2 with rfl|ho2
     ·rw [hi0,hl0]
     ·omega
    ·exact ⟨o,by congr 1;omega,.inr ⟨by omega,by omega⟩⟩
   ·rw [bC e];refine ⟨o+l.toNat*ye.size,by congr 1;omega,.inl ?_⟩;rcases ho2 with rfl|ho2
    ·rw [hk,Nat.add_mul]
    ·omega
omit hT in
theorem RepEs.dropT {w:World} {k b:Nat} : ∀ {m o:Nat} {es:List (List AV)} {S:List Nat},RepEs w k b o es S→ ∃ U,RepEs w k b (o+m*k) (es.drop m) U∧ ∀ x∈U,x∈S
 |0,o,es,S,h=>⟨S,by simpa using h,λ_ h=>h⟩
 |m+1,o,[],S,h=>⟨[],by simp [RepEs],by simp⟩
 |m+1,o,c::es,S,h=>by
  simp only [RepEs] at h;obtain ⟨S1,S2,rfl,h2,h3,h4⟩:=h;obtain ⟨U,h5,h6⟩:=h4.dropT (m:=m);exact ⟨U,by rw [List.drop_succ_cons,show o+(m+1)*k=o+k+m*k by rw [Nat.add_mul];omega];exact h5,λx hx=>by simp [h6 x hx]⟩
omit hT in
theorem RepEs.takeT {w:World} {k b:Nat} : ∀ {m o:Nat} {es:List (List AV)} {S:List Nat},RepEs w k b o es S→ ∃ U,RepEs w k b o (es.take m) U∧ ∀ x∈U,x∈S
 |0,o,es,S,h=>⟨[],by simp [RepEs],by simp⟩
 |m+1,o,[],S,h=>⟨[],by simp [RepEs],by simp⟩
 |m+1,o,c::es,S,h=>by
  simp only [RepEs] at h;obtain ⟨S1,S2,rfl,h2,h3,h4⟩:=h;obtain ⟨U,h5,h6⟩:=h4.takeT (m:=m);refine ⟨S1++U,by rw [List.take_succ_cons];simp only [RepEs];exact ⟨S1,U,rfl,h2,h3,h5⟩,λx hx=>?_⟩;rcases dK.1 hx with h|h
  ·simp [h]
  ·simp [h6 x h]
theorem tU {α:Type} {k:Nat} {en:α→List AV} {x:Operand} {lo hi:Option Operand} {t e:Nat} {y ye:Ty} {l0:List α} {l h:Int} (q:(decide (0≤l)&&(decide (l≤h)&&decide (h≤(l0.length:Int))))=true) (hx:s.ev x=some (.list k (l0.map en))) (hlo:bnd s 0 lo=some l) (hhi:bnd s l0.length hi=some h) (hy:eG T t=some y) (hd:y.desc= .slice e) (hye:eG T e=some ye) (hk:ye.size=k):
  AEff P ⟨dst,.slice t x lo hi none,ty,pos,aft,g⟩ s.ev s.heap s.kp ⟨.list k (((l0.drop l.toNat).take (h.toNat - l.toNat)).map en),[],[],[]⟩:=by
 simp only [dJ,jU] at q;refine AEff.pure λC s' ν a w hi' ht hs=>?_;have h1:=hs.ev ((hi' x (by simp [Op.operands])).trans hx);simp only [RepA,RepB,Rep1,RepD] at h1;obtain ⟨S,⟨ao,c,h3,h4,h5,h6⟩,h7⟩:=h1;rw [jG] at h3 h4;obtain ⟨i1,z1,d1,y1⟩:=hT.is hy;obtain ⟨i2,z2,d2,y2⟩:=hT.is hye
 have hlo':((lo.map a.eval)=none∧l=0)∨ ∃ k,lo.map a.eval=some (.int k l):=by
  cases lo with
  |none=>simp only [bnd,Option.some.injEq] at hlo;exact .inl ⟨rfl,by omega⟩
  |some z=>
   simp only [bnd] at hlo;split at hlo
   ·rename_i kk m hz;cases hlo;have:=hs.ev ((hi' z (by simp [Op.operands])).trans hz);simp only [RepA,RepB,Rep1] at this;exact .inr ⟨kk,by simp [this.1]⟩
   ·cases hlo
 have hhi':((hi.map a.eval)=none∧h=(l0.length:Nat))∨ ∃ k,hi.map a.eval=some (.int k h):=by
  cases hi with
  |none=>simp only [bnd,Option.some.injEq] at hhi;exact .inl ⟨rfl,by omega⟩
  |some z=>
   simp only [bnd] at hhi;split at hhi
   ·rename_i kk m hz;cases hhi;have:=hs.ev ((hi' z (by simp [Op.operands])).trans hz);simp only [RepA,RepB,Rep1] at this;exact .inr ⟨kk,by simp [this.1]⟩
   ·cases hhi
 have hsb:=vR (P:=P) (len:=l0.length) (cap:=c) w hlo' hhi' q.1 q.2.1 q.2.2 (by omega);have hlen:((l0.drop l.toNat).take (h.toNat - l.toNat)).length=h.toNat - l.toNat:=by simp;omega
 refine ⟨.slice (if c=l.toNat then ao else ao.map (·.add (l.toNat*ye.size))) (h.toNat - l.toNat) (c - l.toNat),?_,?_⟩
 ·simp only [execOp,Instr.sliceAt,Instr.slice,h3,Sem.run_bind,mV (y1.slice hd),Result.andThen_ok,nW y2.info,y2.size,Option.map_none];rw [hsb];by_cases e:c=l.toNat <;> simp [e]
 ·simp only [RepA,RepB,Rep1,RepD,jG,hlen];by_cases hz:h.toNat - l.toNat=0
  ·refine ⟨[],⟨_,_,rfl,by omega,by omega,.inl ⟨?_,rfl⟩⟩,by simp⟩;rw [hz];simp
  ·rcases h6 with ⟨h6,_⟩|⟨b,o,S',rfl,h8,rfl,h9⟩
   ·have:l0.length=0:=by simpa using h6
    omega
   ·rw [bC (by omega)];obtain ⟨U1,g1,g2⟩:=h9.dropT (m:=l.toNat);obtain ⟨U2,g3,g4⟩:=g1.takeT (m:=h.toNat - l.toNat);refine ⟨b::U2,⟨_,_,rfl,by omega,by omega,.inr ⟨b,o+l.toNat*k,U2,by simp [Addr.add_lit,hk],h8,rfl,?_⟩⟩,?_⟩
    ·rw [List.map_take,List.map_drop];exact g3
    ·intro y hy;rcases cY.1 hy with rfl|h'
     ·exact h7 y (by simp)
     ·exact h7 y (by simp [g2 y (g4 y h')])
omit hT in
theorem aKl {α:Type} {f:α→List AV} {l:List α} {i:Nat} {c:List AV} (h:i<l.length):((l.map f).set i c)[i]? =some c:=by simp [h]
omit hT in
theorem aHz {σ:Nat→Option Nat} {m:Nat} {α:Type} {k:Nat} {e:α→List AV} {c d:List AV} {i:Nat} (E:EOk k e) (h:All2 (lV σ m) c d): ∀ {l:List α} {i:Nat},All2 (All2 (lV σ m)) ((l.map (ow e)).set i c) ((l.map (ow e)).set i d):=by
 have hs: ∀ x,All2 (lV σ m) (ow e x) (ow e x):=by
  intro x
  have:=aAe (R:=lV σ m) (f:=sM) (g:=sM) (cs:=e x) (λc hc=>by
   have:=E.mem x c hc
   cases c <;> simp only [lK,gQ] at this <;> simp [sM,lV,fT])
  exact this
 have hl: ∀ l:List α,All2 (All2 (lV σ m)) (l.map (ow e)) (l.map (ow e)):=λl=>yV hs;intro l;induction l with
 |nil=>intro i;rfl
 |cons x l ih=>
  intro i;cases i with
  |zero=>exact ⟨_,_,rfl,h,hl l⟩
  |succ i=>exact ⟨_,_,rfl,hs x,ih⟩
omit hT in
theorem aNh {t:TypeId} {x z:Operand} {a b:Int} {dty:TypeId} (hx:s.ev x=some (.int a)) (hz:s.ev z=some (.int b)):
  AEff P ⟨dst,.call ⟨.builtin .max,#[x,z],#[t,t]⟩,dty,pos,aft,g⟩ s.ev s.heap s.kp ⟨.int (max a b),[],[],[]⟩:=
 AEff.pure λC s' ν ac w hi ht hs=>by
  have h1:=hs.ev ((hi x (by simp [Op.operands,Call.operands])).trans hx);have h2:=hs.ev ((hi z (by simp [Op.operands,Call.operands])).trans hz);simp only [RepA,RepB,Rep1] at h1 h2;refine ⟨.int .i64 (max a b),?_,qJ rfl⟩;simp [execOp,resolve,invoke,builtin,h1.1,h2.1,Builtin.max_,Builtin.max2];rw [Int.max_def];split <;> split <;> omega
omit hT in
theorem aNi {t:TypeId} {x z:Operand} {a b:Int} {dty:TypeId} (hx:s.ev x=some (.int a)) (hz:s.ev z=some (.int b)):
  AEff P ⟨dst,.call ⟨.builtin .min,#[x,z],#[t,t]⟩,dty,pos,aft,g⟩ s.ev s.heap s.kp ⟨.int (min a b),[],[],[]⟩:=
 AEff.pure λC s' ν ac w hi ht hs=>by
  have h1:=hs.ev ((hi x (by simp [Op.operands,Call.operands])).trans hx);have h2:=hs.ev ((hi z (by simp [Op.operands,Call.operands])).trans hz);simp only [RepA,RepB,Rep1] at h1 h2;refine ⟨.int .i64 (min a b),?_,qJ rfl⟩;simp [execOp,resolve,invoke,builtin,h1.1,h2.1,Builtin.min_,Builtin.min2];rw [Int.min_def];split <;> split <;> omega
theorem uM {α:Type} {e:α→List AV} {x z:Operand} {t et:Nat} {y ye:Ty} {b b' n k:Nat} {l:List α} {c:List AV} {sv:AV} {ts nm:List Nat} {dty:TypeId} (hf:decide (l.length+1≤4294967296)=true) (hns:s.ns.head?=some b') (hx:s.ev x=some (.own b 0 n)) (hb:s.heap b=some ⟨k,l.map e⟩) (hl:l.length=n) (hz:s.ev z=some sv) (hsrc:uJ s.heap sv=some (k,[c],ts)) (hnm:dL c=nm)
  (ok:c.all (okCell s.heap)=true) (hy:eG T t=some y) (hd:y.desc= .slice et) (hye:eG T et=some ye) (hzl:ye.zero.length=ye.size) (hk:ye.size=k) (hby:Nat.ble ye.bytes 32768=true):
  AEff P ⟨dst,.call ⟨.builtin .append,#[x,z],#[t,t]⟩,dty,pos,aft,g⟩ s.ev s.heap s.kp ⟨.own b' 0 (l.length+1),b::(ts++nm),[(b,none),(b',some ⟨k,l.map e++[c]⟩)],[b']⟩:=by
 have hf:=of_decide_eq_true hf;have hby:=Nat.le_of_ble_eq_true hby
 have h1:=aGr (P:=P) hT (dst:=dst) (pos:=pos) (aft:=aft) (g:=g) (dty:=dty) hns hx hb hz hsrc hy hd hye hzl hk.symm hk.symm (by simpa using hl) (by simpa using ok) (by simp;omega) (by simp only [List.length_singleton];calc (n+1)*ye.bytes≤4294967296*32768:=Nat.mul_le_mul (by omega) hby
                                                                                                                                                    _≤140737488355328:=by decide)
 rw [List.flatten_singleton,hnm,hk] at h1;rw [hl];exact h1
omit hT in
theorem xE {α β:Type} {f:α→β} {l:List α} {c:β} (x:α) (h:c=f x):l.map f++[c]=(l++[x]).map f:=by rw [h,List.map_append];rfl
omit hT in
theorem aKm {α β:Type} {f:α→β} {l:List α} {i:Nat} {c:β} (x:α) (h:c=f x):(l.map f).set i c=(l.set i x).map f:=by rw [h,List.map_set]
end
end
end Go.Proofs.YtgkfbfiiaphgoaaGreat

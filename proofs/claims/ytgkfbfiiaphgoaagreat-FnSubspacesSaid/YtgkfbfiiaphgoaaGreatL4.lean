/-
  Several texts of the claim in one.
-/
import Derived.Test.YtgkfbfiiaphgoaaGreatProg
import Derived.Test.YtgkfbfiiaphgoaaGreatL3
set_option linter.unusedVariables false
set_option linter.unusedSimpArgs false
namespace Go.Proofs.YtgkfbfiiaphgoaaGreat
open Go.RowKit
noncomputable section
def TT:List (Nat×Ty):=[
 (1,⟨.sc,1,8,[.sc .nilFunc]⟩),
 (2,⟨.sc,1,8,[.sc (.int .i64 0)]⟩),
 (3,⟨.sc,1,8,[.sc (.int .i64 0)]⟩),
 (4,⟨.sc,1,1,[.sc (.bool false)]⟩),
 (5,⟨.sc,1,1,[.sc (.int .u8 0)]⟩),
 (6,⟨.sc,1,1,[.sc (.int .u8 0)]⟩),
 (7,⟨.struct [(0,2),(1,3),(2,4),(3,6)],4,24,[.sc (.int .i64 0),.sc (.int .i64 0),.sc (.bool false),.sc (.int .u8 0)]⟩),
 (8,⟨.struct [(0,2),(1,3),(2,4),(3,6)],4,24,[.sc (.int .i64 0),.sc (.int .i64 0),.sc (.bool false),.sc (.int .u8 0)]⟩),
 (9,⟨.sc,1,16,[.sc (.string ⟨#[]⟩)]⟩),
 (10,⟨.sc,1,16,[.sc (.string ⟨#[]⟩)]⟩),
 (11,⟨.sc,1,16,[.sc (.string ⟨#[]⟩)]⟩),
 (12,⟨.sc,1,8,[.sc (.int .u64 0)]⟩),
 (13,⟨.struct [(0,9),(1,12)],2,24,[.sc (.string ⟨#[]⟩),.sc (.int .u64 0)]⟩),
 (14,⟨.struct [(0,9),(1,12)],2,24,[.sc (.string ⟨#[]⟩),.sc (.int .u64 0)]⟩),
 (21,⟨.sc,1,4,[.sc (.int .i32 0)]⟩),
 (22,⟨.slice 5,1,24,[.nil 1]⟩),
 (23,⟨.sc,1,8,[.sc .nilFunc]⟩),
 (24,⟨.slice 3,1,24,[.nil 1]⟩),
 (25,⟨.struct [(0,3),(1,24),(2,24)],3,56,[.sc (.int .i64 0),.nil 1,.nil 1]⟩),
 (26,⟨.struct [(0,3),(1,24),(2,24)],3,56,[.sc (.int .i64 0),.nil 1,.nil 1]⟩),
 (28,⟨.sc,1,8,[.sc .nilFunc]⟩),
 (29,⟨.sc,1,8,[.sc .nilFunc]⟩),
 (30,⟨.sc,1,8,[.sc .nilFunc]⟩),
 (31,⟨.slice 81,1,24,[.nil 3]⟩),
 (32,⟨.struct [(0,3),(1,26),(4,24),(5,31)],6,112,[.sc (.int .i64 0),.sc (.int .i64 0),.nil 1,.nil 1,.nil 1,.nil 3]⟩),
 (33,⟨.struct [(0,3),(1,26),(4,24),(5,31)],6,112,[.sc (.int .i64 0),.sc (.int .i64 0),.nil 1,.nil 1,.nil 1,.nil 3]⟩),
 (35,⟨.sc,1,8,[.sc .nilFunc]⟩),
 (36,⟨.sc,1,8,[.sc .nilFunc]⟩),
 (37,⟨.sc,1,8,[.sc .nilFunc]⟩),
 (38,⟨.slice 24,1,24,[.nil 1]⟩),
 (40,⟨.sc,1,8,[.sc .nilFunc]⟩),
 (41,⟨.sc,1,8,[.sc .nilFunc]⟩),
 (42,⟨.sc,1,8,[.sc .nilFunc]⟩),
 (43,⟨.sc,1,8,[.sc .nilFunc]⟩),
 (44,⟨.sc,1,8,[.sc .nilFunc]⟩),
 (46,⟨.sc,1,8,[.sc .nilFunc]⟩),
 (48,⟨.sc,1,8,[.sc .nilFunc]⟩),
 (49,⟨.sc,1,8,[.sc .nilFunc]⟩),
 (50,⟨.sc,1,8,[.sc .nilFunc]⟩),
 (52,⟨.sc,1,8,[.sc .nilFunc]⟩),
 (53,⟨.slice 62,1,24,[.nil 2]⟩),
 (55,⟨.sc,1,8,[.sc .nilFunc]⟩),
 (56,⟨.sc,1,8,[.sc .nilFunc]⟩),
 (57,⟨.sc,1,8,[.sc .nilFunc]⟩),
 (59,⟨.sc,1,8,[.sc .nilFunc]⟩),
 (60,⟨.sc,1,8,[.sc .nilFunc]⟩),
 (61,⟨.struct [(0,3),(1,38)],2,32,[.sc (.int .i64 0),.nil 1]⟩),
 (62,⟨.struct [(0,3),(1,38)],2,32,[.sc (.int .i64 0),.nil 1]⟩),
 (64,⟨.sc,1,8,[.sc .nilFunc]⟩),
 (65,⟨.sc,1,8,[.sc .nilFunc]⟩),
 (66,⟨.sc,1,8,[.sc .nilFunc]⟩),
 (67,⟨.sc,1,8,[.sc .nilFunc]⟩),
 (68,⟨.sc,1,8,[.sc .nilFunc]⟩),
 (69,⟨.sc,1,8,[.sc .nilFunc]⟩),
 (71,⟨.sc,1,8,[.sc .nilFunc]⟩),
 (72,⟨.sc,1,8,[.sc .nilFunc]⟩),
 (74,⟨.sc,1,8,[.sc .nilFunc]⟩),
 (76,⟨.sc,1,8,[.sc .nilFunc]⟩),
 (77,⟨.sc,1,8,[.sc .nilFunc]⟩),
 (78,⟨.sc,1,8,[.sc .nilFunc]⟩),
 (79,⟨.sc,1,8,[.sc .nilFunc]⟩),
 (80,⟨.struct [(0,3),(1,3),(2,24)],3,40,[.sc (.int .i64 0),.sc (.int .i64 0),.nil 1]⟩),
 (81,⟨.struct [(0,3),(1,3),(2,24)],3,40,[.sc (.int .i64 0),.sc (.int .i64 0),.nil 1]⟩),
 (82,⟨.sc,1,8,[.sc .nilFunc]⟩),
 (84,⟨.sc,1,8,[.sc .nilFunc]⟩),
 (85,⟨.sc,1,8,[.sc .nilFunc]⟩),
 (86,⟨.sc,1,8,[.sc .nilFunc]⟩),
 (87,⟨.sc,1,8,[.sc .nilFunc]⟩),
 (88,⟨.sc,1,8,[.sc .nilFunc]⟩),
 (89,⟨.sc,1,8,[.sc .nilFunc]⟩),
 (90,⟨.sc,1,8,[.sc .nilFunc]⟩),
 (91,⟨.sc,1,8,[.sc .nilFunc]⟩),
 (92,⟨.sc,1,8,[.sc .nilFunc]⟩),
 (93,⟨.sc,1,8,[.sc .nilFunc]⟩),
 (94,⟨.sc,1,8,[.sc .nilFunc]⟩),
 (95,⟨.sc,1,8,[.sc .nilFunc]⟩),
 (96,⟨.sc,1,8,[.sc .nilFunc]⟩),
 (97,⟨.sc,1,8,[.sc .nilFunc]⟩),
 (98,⟨.sc,1,8,[.sc .nilFunc]⟩),
 (99,⟨.slice 9,1,24,[.nil 1]⟩),
 (100,⟨.sc,1,8,[.sc .nilFunc]⟩),
 (101,⟨.sc,1,8,[.sc .nilFunc]⟩),
 (102,⟨.sc,1,8,[.sc .nilFunc]⟩),
 (103,⟨.sc,1,8,[.sc .nilFunc]⟩),
 (104,⟨.sc,1,8,[.sc .nilFunc]⟩),
 (105,⟨.sc,1,8,[.sc .nilFunc]⟩),
 (106,⟨.sc,1,8,[.sc .nilFunc]⟩),
 (107,⟨.sc,1,8,[.sc .nilFunc]⟩),
 (108,⟨.sc,1,8,[.sc .nilFunc]⟩),
 (109,⟨.sc,1,8,[.sc .nilFunc]⟩),
 (110,⟨.sc,1,8,[.sc .nilFunc]⟩),
 (111,⟨.sc,1,8,[.sc .nilFunc]⟩),
 (112,⟨.sc,1,8,[.sc .nilFunc]⟩),
 (113,⟨.sc,1,8,[.sc .nilFunc]⟩),
 (114,⟨.sc,1,8,[.sc .nilFunc]⟩),
 (115,⟨.sc,1,8,[.sc .nilFunc]⟩),
 (116,⟨.sc,1,8,[.sc .nilFunc]⟩),
 (118,⟨.sc,1,8,[.sc .nilFunc]⟩),
 (120,⟨.sc,1,8,[.sc .nilFunc]⟩),
 (121,⟨.sc,1,8,[.sc .nilFunc]⟩),
 (122,⟨.sc,1,8,[.sc .nilFunc]⟩),
 (123,⟨.sc,1,8,[.sc .nilFunc]⟩),
 (124,⟨.sc,1,8,[.sc .nilFunc]⟩),
 (125,⟨.sc,1,8,[.sc .nilFunc]⟩),
 (126,⟨.sc,1,8,[.sc .nilFunc]⟩),
 (127,⟨.sc,1,8,[.sc .nilFunc]⟩),
 (128,⟨.sc,1,8,[.sc .nilFunc]⟩),
 (129,⟨.sc,1,8,[.sc .nilFunc]⟩),
 (130,⟨.sc,1,8,[.sc .nilFunc]⟩),
 (131,⟨.sc,1,8,[.sc .nilFunc]⟩),
 (132,⟨.slice 31,1,24,[.nil 1]⟩),
 (134,⟨.sc,1,8,[.sc .nilFunc]⟩),
 (135,⟨.sc,1,8,[.sc .nilFunc]⟩),
 (136,⟨.sc,1,8,[.sc .nilFunc]⟩),
 (137,⟨.struct [(0,22),(1,3),(2,3)],3,40,[.nil 1,.sc (.int .i64 0),.sc (.int .i64 0)]⟩),
 (138,⟨.struct [(0,22),(1,3),(2,3)],3,40,[.nil 1,.sc (.int .i64 0),.sc (.int .i64 0)]⟩),
 (139,⟨.sc,1,8,[.sc .nilFunc]⟩),
 (140,⟨.sc,1,8,[.sc .nilFunc]⟩),
 (141,⟨.sc,1,8,[.sc .nilFunc]⟩),
 (143,⟨.sc,1,8,[.sc .nilFunc]⟩),
 (144,⟨.sc,1,8,[.sc .nilFunc]⟩),
 (145,⟨.sc,1,8,[.sc .nilFunc]⟩),
 (146,⟨.sc,1,8,[.sc .nilFunc]⟩),
 (147,⟨.sc,1,8,[.sc .nilFunc]⟩),
 (148,⟨.sc,1,8,[.sc .nilFunc]⟩),
 (149,⟨.sc,1,8,[.sc .nilFunc]⟩),
 (150,⟨.sc,1,8,[.sc .nilFunc]⟩),
 (151,⟨.sc,1,8,[.sc .nilFunc]⟩),
 (152,⟨.sc,1,8,[.sc .nilFunc]⟩),
 (153,⟨.sc,1,8,[.sc .nilFunc]⟩),
 (154,⟨.sc,1,8,[.sc .nilFunc]⟩),
 (155,⟨.sc,1,8,[.sc .nilFunc]⟩),
 (157,⟨.sc,1,8,[.sc .nilFunc]⟩),
 (158,⟨.sc,1,8,[.sc .nilFunc]⟩),
 (159,⟨.sc,1,8,[.sc .nilFunc]⟩),
 (160,⟨.sc,1,8,[.sc .nilFunc]⟩),
 (161,⟨.sc,1,8,[.sc .nilFunc]⟩),
 (162,⟨.sc,1,8,[.sc .nilFunc]⟩),
 (163,⟨.sc,1,8,[.sc .nilFunc]⟩),
 (164,⟨.sc,1,8,[.sc .nilFunc]⟩),
 (165,⟨.sc,1,8,[.sc .nilFunc]⟩),
 (166,⟨.sc,1,8,[.sc .nilFunc]⟩),
 (167,⟨.sc,1,8,[.sc .nilFunc]⟩),
 (168,⟨.sc,1,8,[.sc .nilFunc]⟩),
 (169,⟨.sc,1,8,[.sc .nilFunc]⟩),
 (170,⟨.sc,1,8,[.sc .nilFunc]⟩),
 (171,⟨.sc,1,8,[.sc .nilFunc]⟩),
 (172,⟨.sc,1,8,[.sc .nilFunc]⟩),
 (173,⟨.sc,1,8,[.sc .nilFunc]⟩),
 (174,⟨.sc,1,8,[.sc .nilFunc]⟩),
 (175,⟨.sc,1,8,[.sc .nilFunc]⟩),
 (176,⟨.sc,1,8,[.sc .nilFunc]⟩),
 (177,⟨.sc,1,8,[.sc (.int .u64 0)]⟩),
 (178,⟨.sc,1,8,[.sc .nilFunc]⟩),
 (179,⟨.sc,1,8,[.sc .nilFunc]⟩),
 (180,⟨.slice 38,1,24,[.nil 1]⟩),
 (181,⟨.sc,1,8,[.sc .nilFunc]⟩),
 (182,⟨.sc,1,8,[.sc .nilFunc]⟩),
 (183,⟨.slice 200,1,24,[.nil 2]⟩),
 (185,⟨.sc,1,8,[.sc .nilFunc]⟩),
 (186,⟨.sc,1,8,[.sc .nilFunc]⟩),
 (187,⟨.sc,1,8,[.sc .nilFunc]⟩),
 (188,⟨.sc,1,8,[.sc .nilFunc]⟩),
 (189,⟨.sc,1,8,[.sc .nilFunc]⟩),
 (191,⟨.sc,1,8,[.sc .nilFunc]⟩),
 (192,⟨.sc,1,8,[.sc .nilFunc]⟩),
 (193,⟨.sc,1,8,[.sc .nilFunc]⟩),
 (194,⟨.sc,1,8,[.sc .nilFunc]⟩),
 (195,⟨.sc,1,8,[.sc .nilFunc]⟩),
 (196,⟨.sc,1,8,[.sc .nilFunc]⟩),
 (197,⟨.sc,1,8,[.sc .nilFunc]⟩),
 (198,⟨.sc,1,8,[.sc .nilFunc]⟩),
 (199,⟨.struct [(0,3),(1,24)],2,32,[.sc (.int .i64 0),.nil 1]⟩),
 (200,⟨.struct [(0,3),(1,24)],2,32,[.sc (.int .i64 0),.nil 1]⟩),
 (201,⟨.sc,1,8,[.sc .nilFunc]⟩),
 (202,⟨.sc,1,8,[.sc .nilFunc]⟩),
 (203,⟨.sc,1,4,[.sc (.int .u32 0)]⟩),
 (205,⟨.sc,1,8,[.sc .nilFunc]⟩),
 (206,⟨.sc,1,8,[.sc (.int .u64 0)]⟩),
 (208,⟨.sc,1,8,[.sc .nilFunc]⟩),
 (209,⟨.sc,1,8,[.sc .nilFunc]⟩),
 (210,⟨.sc,1,8,[.sc .nilFunc]⟩),
 (211,⟨.sc,1,8,[.sc .nilFunc]⟩),
 (212,⟨.sc,1,8,[.sc .nilFunc]⟩),
 (213,⟨.sc,1,8,[.sc .nilFunc]⟩),
 (214,⟨.sc,1,8,[.sc .nilFunc]⟩),
 (215,⟨.sc,1,8,[.sc .nilFunc]⟩),
 (216,⟨.sc,1,8,[.sc .nilFunc]⟩),
 (217,⟨.sc,1,8,[.sc .nilFunc]⟩),
 (223,⟨.sc,1,8,[.sc .nilFunc]⟩),
 (224,⟨.sc,1,1,[.sc (.int .u8 0)]⟩),
 (225,⟨.sc,1,1,[.sc (.int .u8 0)]⟩),
 (226,⟨.sc,1,8,[.sc .nilFunc]⟩),
 (228,⟨.sc,1,4,[.sc (.int .i32 0)]⟩),
 (229,⟨.sc,1,4,[.sc (.int .i32 0)]⟩),
 (232,⟨.sc,1,8,[.sc .nilFunc]⟩),
 (233,⟨.sc,1,8,[.sc .nilFunc]⟩),
 (234,⟨.sc,1,8,[.sc .nilFunc]⟩)]
set_option maxRecDepth 100000 in
theorem aH:TyOk Tryz.prog TT:=aIw (by kernel_rfl)
end
noncomputable section
theorem ob {α β:Type} {o:Option α} {k:α→Option β} {r:β} (h:o.bind k=some r): ∃ a,o=some a∧k a=some r:=by
 cases o with
 |none=>cases h
 |some a=>exact ⟨a,rfl,h⟩
theorem cb {α:Type} {c:Bool} {A B:Option α} {r:α} (h:cond c A B=some r):(c=true∧A=some r)∨(c=false∧B=some r):=by
 cases c
 ·exact .inr ⟨rfl,h⟩
 ·exact .inl ⟨rfl,h⟩
theorem cg {α:Type} {c:Bool} {A:Option α} {r:α} (h:cond c A none=some r):c=true∧A=some r:=by
 cases c
 ·cases h
 ·exact ⟨rfl,h⟩
theorem so {α:Type} {x r:α} (h:some x=some r):x=r:=Option.some.inj h
def eF {α:Type} (l:List α) (i:Int):Option α:=bif decide (0≤i) then l[i.toNat]? else none
theorem gW {α:Type} {l:List α} {i:Int} {v:α} (h:eF l i=some v):l[i.toNat]? =some v:=(cg h).2
theorem aLK {α:Type} {l:List α} {i:Int} {v:α} (h:eF l i=some v):0≤i:=of_decide_eq_true (cg h).1
theorem aGA {α:Type} {l:List α} {i:Int} {v:α} (h:eF l i=some v):i.toNat<l.length:=by
 rcases fA i.toNat l.length with h'|h'
 ·exact h'
 ·have:=gW h;rw [lJ h'] at this;cases this
theorem aMa {α β:Type} {f:α→β} {l:List α} {i:Int} {v:α} (h:eF l i=some v):(l.map f)[i.toNat]? =some (f v):=by rw [List.getElem?_map,gW h];rfl
theorem eA {α:Type} {l:List α} {n:Nat} (h:n<l.length):eF l (n:Int)=some l[n]:=by simp [eF,h]
def wr (x:Int):Int:=IntKind.i64.wrap x
theorem aOK {x:Int} (h: -9223372036854775808≤x∧x≤9223372036854775807):wr x=x:=by unfold wr;rw [IntKind.wrap_i64];omega
def LpN {σ ρ:Type} (body:σ→Option (σ ⊕ ρ)):Nat→σ→ρ→Prop
 |0,s,r=>body s=some (.inr r)
 |n+1,s,r=> ∃ s',body s=some (.inl s')∧LpN body n s' r
theorem LpN.det {σ ρ:Type} {body:σ→Option (σ ⊕ ρ)} : ∀ {n m:Nat} {s:σ} {r r':ρ},LpN body n s r→LpN body m s r'→r=r'
 |0,0,s,r,r',h,k=>by rw [LpN] at h k;rw [h] at k;cases k;rfl
 |0,m+1,s,r,r',h,⟨s',k,_⟩=>by rw [LpN] at h;rw [h] at k;cases k
 |n+1,0,s,r,r',⟨s',h,_⟩,k=>by rw [LpN] at k;rw [h] at k;cases k
 |n+1,m+1,s,r,r',⟨s',h,h2⟩,⟨s'',k,k2⟩=>by rw [h] at k;cases k;exact LpN.det h2 k2
open Classical in
def Lp {σ ρ:Type} (body:σ→Option (σ ⊕ ρ)) (s:σ):Option ρ:=if h: ∃ r n,LpN body n s r then some h.choose else none
theorem aCz {σ ρ:Type} {body:σ→Option (σ ⊕ ρ)} {s:σ} {r:ρ} :Lp body s=some r↔ ∃ n,LpN body n s r:=by
 unfold Lp;split
 ·rename_i h;obtain ⟨n,hn⟩:=h.choose_spec;constructor
  ·intro e;cases e;exact ⟨n,hn⟩
  ·rintro ⟨m,hm⟩;rw [hn.det hm]
 ·rename_i h;constructor
  ·intro e;cases e
  ·rintro ⟨m,hm⟩;exact absurd ⟨r,m,hm⟩ h
theorem pB {σ ρ:Type} {body:σ→Option (σ ⊕ ρ)} {s:σ} {r:ρ} (h:body s=some (.inr r)):Lp body s=some r:=aCz.2 ⟨0,h⟩
theorem rQ {σ ρ:Type} {body:σ→Option (σ ⊕ ρ)} {s s':σ} (h:body s=some (.inl s')):Lp body s=Lp body s':=by
 apply Option.ext;intro r;rw [aCz,aCz];constructor
 ·rintro ⟨n,hn⟩;cases n with
  |zero=>rw [LpN] at hn;rw [h] at hn;cases hn
  |succ n=>obtain ⟨s'',h1,h2⟩:=hn;rw [h] at h1;cases h1;exact ⟨n,h2⟩
 ·rintro ⟨n,hn⟩;exact ⟨n+1,s',h,hn⟩
theorem aNY {σ ρ:Type} {body:σ→Option (σ ⊕ ρ)} {s:σ} {r:ρ} (I:Nat→σ) (N:Nat) (h0:s=I 0) (hs: ∀ k,k<N→body (I k)=some (.inl (I (k+1)))) (hr:body (I N)=some (.inr r)):Lp body s=some r:=by
 subst h0
 have key: ∀ d k,k+d=N→Lp body (I k)=some r:=by
  intro d;induction d with
  |zero=>intro k hk;rw [Nat.add_zero] at hk;subst hk;exact pB hr
  |succ d ih=>intro k hk;rw [rQ (hs k (by omega))];exact ih (k+1) (by omega)
 exact key N 0 (by omega)
theorem tD {σ ρ:Type} {body:σ→Option (σ ⊕ ρ)} {s:σ} (I:σ→Prop) (μ:σ→Nat) (R:ρ→Prop) (h0:I s) (hs: ∀ x,I x→(∃ x',body x=some (.inl x')∧I x'∧μ x'<μ x)∨ ∃ r,body x=some (.inr r)∧R r): ∃ r,Lp body s=some r∧R r:=by
 have key: ∀ n x,μ x=n→I x→ ∃ r,Lp body x=some r∧R r:=by
  intro n;induction n using Nat.strongRecOn with
  |_ n ih=>
   intro x hn hx;rcases hs x hx with ⟨x',h1,h2,h3⟩|⟨r,h1,h2⟩
   ·rw [rQ h1];exact ih (μ x') (hn▸h3) x' rfl h2
   ·exact ⟨r,pB h1,h2⟩
 exact key _ s rfl h0
section
variable {P:Program} {nt:Nat} {s:AState} {Q:Exit→AState→Prop}
theorem cU {c:Code} {σ ρ:Type} {body:σ→Option (σ ⊕ ρ)} {x0:σ} {r0:ρ} (h:Lp body x0=some r0) (S:σ→AState) (X:ρ→Exit→AState→Prop) (e0:Ent s (S x0))
  (round: ∀ x o,body x=some o→AC P nt c (S x) (yF (λt=> ∃ x',o= .inl x'∧Ent t (S x')) (λe t=> ∃ r,o= .inr r∧X r e t))) (hX: ∀ e t,X r0 e t→Q e t):AC P nt (.loop c) s Q:=by
 obtain ⟨n,hn⟩:=aCz.1 h;refine aMV (ι:=σ×Nat) (λp=>S p.1) (λp=>LpN body p.2 p.1 r0) (λp=>p.2) (x0,n) hn e0 ?_;rintro ⟨x,m⟩ hm;cases m with
 |zero=>
  refine aIy (round x _ hm) λe t hq=>?_;cases e <;> simp only [yF] at hq ⊢
  ·obtain ⟨x',h1,_⟩:=hq;cases h1
  all_goals (obtain ⟨r,h1,h2⟩:=hq;cases h1;exact hX _ _ h2)
 |succ m=>
  obtain ⟨x',h1,h2⟩:=hm;refine aIy (round x _ h1) λe t hq=>?_;cases e <;> simp only [yF] at hq ⊢
  ·obtain ⟨x'',h3,h4⟩:=hq;cases h3;exact ⟨(x',m),h2,Nat.lt_succ_self _,h4⟩
  all_goals (obtain ⟨r,h3,_⟩:=hq;cases h3)
theorem cB {c:Operand} {x y:Code} {t:Bool} (hc:s.ev c=some (.sc (.bool t))) (q:t=true) (h:AC P nt x s Q):AC P nt (.cond c x y) s Q:=aIx hc (λ_=>h) (λe=>by rw [q] at e;cases e)
theorem oL {c:Operand} {x y:Code} {t:Bool} (hc:s.ev c=some (.sc (.bool t))) (q:t=false) (h:AC P nt y s Q):AC P nt (.cond c x y) s Q:=aIx hc (λe=>by rw [q] at e;cases e) (λ_=>h)
theorem aLL {i:Nat} {v:AV} {e:Nat→Option AV} (h:e i=some v):upd (some i) v e=e:=by
 funext t;simp only [upd];cases hb:Nat.beq t i with
 |false=>rfl
 |true=>rw [Nat.eq_of_beq_eq_true hb,h];rfl
theorem aD {ops:Array Oper} {r:List Oper} {tr:List Tr} {K:List Tr→AState→Prop} {t u:Bool} (i:Nat) (hi:s.env i=some (.sc (.bool t))) (q:t=u) (h:AOps P ops nt r ⟨upd (some i) (.sc (.bool u)) s.env,s.heap,s.used,s.ns,s.kp⟩ tr K):AOps P ops nt r s tr K:=by
 subst q;rw [aLL hi] at h;exact h
end
def oM:AV→Bool
 | .sc v=>v.oneCell'
 | .list _ _=>true
 |_=>false
structure EOk {α:Type} (k:Nat) (e:α→List AV):Prop where
 len: ∀ x,(e x).length=k
 cell: ∀ x,(e x).all oM=true
def ow {α:Type} (e:α→List AV) (x:α):List AV:=(e x).map tM
theorem cI {α:Type} (e:α→List AV) (l:List α):bZ (l.map e)=l.map (ow e):=by
 unfold bZ;rw [List.map_map];rfl
section
variable {α:Type} {k:Nat} {e:α→List AV}
theorem aIN {c:AV} (h:oM c=true):view0 (tM c) c:=by cases c <;> simp only [oM,jC] at h <;> simp [tM,view0]
theorem aIO {c:AV} (h:oM c=true):view0 c c:=by cases c <;> simp only [oM,jC] at h <;> simp [view0]
theorem aKA {c:AV} (h:oM c=true):aCj (tM c) c:=by cases c <;> simp only [oM,jC] at h <;> simp [tM,aCj]
theorem aHB {c:AV} (h:oM c=true) (hp:Hp):okCell hp c=true:=by cases c <;> simp only [oM,jC] at h <;> rfl
theorem aHC {c:AV} (h:oM c=true):fD c=true∧ ∀ ds,c≠ .ref ds:=by cases c <;> simp only [oM,jC] at h <;> exact ⟨rfl,λ_ e=>by cases e⟩
theorem aDZ {c:AV} (h:oM c=true):rP c=true∧rP (tM c)=true:=by cases c <;> simp only [oM,jC] at h <;> exact ⟨rfl,rfl⟩
theorem yZ {R:AV→AV→Prop} {f g:AV→AV} : ∀ {cs:List AV},(∀ c∈cs,R (f c) (g c))→All2 R (cs.map f) (cs.map g)
 | [],_=>rfl
 |c::cs,h=>⟨g c,_,rfl,h c (by simp),yZ λd hd=>h d (by simp [hd])⟩
theorem xA {β:Type} {R:List AV→List AV→Prop} {f g:β→List AV} : ∀ {l:List β},(∀ x,R (f x) (g x))→All2 R (l.map f) (l.map g)
 | [],_=>rfl
 |x::l,h=>⟨g x,_,rfl,h x,xA h⟩
theorem EOk.mem (E:EOk k e) (x:α): ∀ c∈e x,oM c=true:=List.all_eq_true.1 (E.cell x)
theorem EOk.view (E:EOk k e) (x:α):All2 view0 (ow e x) (e x):=by have:=yZ (R:=view0) (f:=tM) (g:=id) (λc hc=>aIN (E.mem x c hc));simpa [ow] using this
theorem EOk.same (E:EOk k e) (x:α):All2 view0 (e x) (e x):=by have:=yZ (R:=view0) (f:=id) (g:=id) (λc hc=>aIO (E.mem x c hc));simpa using this
theorem EOk.frz (E:EOk k e) (x:α):All2 aCj (ow e x) (e x):=by have:=yZ (R:=aCj) (f:=tM) (g:=id) (λc hc=>aKA (E.mem x c hc));simpa [ow] using this
theorem EOk.views (E:EOk k e) (l:List α):All2 (All2 view0) (l.map (ow e)) (l.map e):=xA E.view
theorem EOk.sames (E:EOk k e) (l:List α):All2 (All2 view0) (l.map e) (l.map e):=xA E.same
theorem EOk.frzs (E:EOk k e) (l:List α):All2 (All2 aCj) (l.map (ow e)) (l.map e):=xA E.frz
theorem EOk.good (E:EOk k e) (l:List α):aLG (l.map e):=by
 intro cs hcs c hc;obtain ⟨x,_,rfl⟩:=List.mem_map.1 hcs;exact aHC (E.mem x c hc)
theorem EOk.plainO (E:EOk k e) (l:List α):zR (l.map (ow e)):=by
 intro cs hcs c hc;obtain ⟨x,_,rfl⟩:=List.mem_map.1 hcs;obtain ⟨d,hd,rfl⟩:=List.mem_map.1 hc;exact (aDZ (E.mem x d hd)).2
theorem EOk.plainE (E:EOk k e) (l:List α):zR (l.map e):=by
 intro cs hcs c hc;obtain ⟨x,_,rfl⟩:=List.mem_map.1 hcs;exact (aDZ (E.mem x c hc)).1
theorem EOk.okE (E:EOk k e) (hp:Hp) (l:List α):(l.map e).flatten.all (okCell hp)=true:=by
 rw [List.all_eq_true];intro c hc;obtain ⟨cs,hcs,hc⟩:=List.mem_flatten.1 hc;obtain ⟨x,_,rfl⟩:=List.mem_map.1 hcs;exact aHB (E.mem x c hc) hp
theorem aCA: ∀ {cs:List AV},(∀ c∈cs,oM c=true)→cV cs=[]
 | [],_=>rfl
 |c::cs,h=>by
  have h1:=h c (by simp);have h2:=aCA (cs:=cs) (λd hd=>h d (by simp [hd]));cases c <;> simp only [oM,jC] at h1 <;> exact h2
theorem EOk.namesE (E:EOk k e) (l:List α):cV (l.map e).flatten=[]:=by
 refine aCA λc hc=>?_;obtain ⟨cs,hcs,hc⟩:=List.mem_flatten.1 hc;obtain ⟨x,_,rfl⟩:=List.mem_map.1 hcs;exact E.mem x c hc
end
end
noncomputable section
def rR (n lo hi:Int):Bool:=decide (lo≤n∧n≤hi)
theorem fG {n lo hi:Int} (h:rR n lo hi=true):lo≤n∧n≤hi:=by simpa [rR] using h
theorem wP {n lo hi:Int} (h1:lo≤n) (h2:n≤hi):rR n lo hi=true:=by simp [rR,h1,h2]
theorem aDa (x p:Int) (hp:0<p): -p<x.tmod p∧x.tmod p<p:=⟨Int.lt_tmod_of_pos x hp,Int.tmod_lt_of_pos x hp⟩
theorem aDb (x p:Int) (hp:0<p):(0≤x.tmod p∧x.tmod p=x % p)∨(x.tmod p<0∧x.tmod p=x % p - p):=by
 have h:= @Int.tmod_eq_emod x p;have h0:=Int.emod_nonneg x (by omega:p≠0);have h1:=Int.emod_lt_of_pos x hp;have h2:(p.natAbs:Int)=p:=by omega
 split at h
 ·exact .inl ⟨by omega,by omega⟩
 ·exact .inr ⟨by omega,by omega⟩
theorem aKB (x p:Int) (hp:0<p):(x.tmod p+p).tmod p=x % p:=by
 have h0:=Int.emod_nonneg x (by omega:p≠0);have h1:=Int.emod_lt_of_pos x hp;rcases aDb x p hp with ⟨h,e⟩|⟨h,e⟩
 ·rw [e,Int.tmod_eq_emod_of_nonneg (by omega),Int.add_emod_right,Int.emod_emod_of_dvd _ (Int.dvd_refl p)]
 ·rw [e,show x % p - p+p=x % p by omega,Int.tmod_eq_emod_of_nonneg h0,Int.emod_emod_of_dvd _ (Int.dvd_refl p)]
def iI (p:Int):Bool:=decide (p=2∨p=3∨p=5)
theorem xB {p:Int} (h:iI p=true):p=2∨p=3∨p=5:=by simpa [iI] using h
def aGB (p r:Int):Nat→Int
 |0=>1
 |n+1=>(aGB p r n*r) % p
theorem aJH {p r:Int} (hp:iI p=true) (hr:0≤r∧r<p): ∀ n,0≤aGB p r n∧aGB p r n<p:=by
 intro n;have:=xB hp;cases n with
 |zero=>simp [aGB];omega
 |succ n=>exact ⟨Int.emod_nonneg _ (by omega),Int.emod_lt_of_pos _ (by omega)⟩
def xC (p r:Int):Int:=aGB p r (max (p - 2) 1).toNat
theorem aMb {p r y:Int} (hp:iI p=true) (hr:0≤r∧r<p) (hy:1≤y∧y<p) (h:(r*y) % p=1):xC p r=y:=by
 rcases xB hp with rfl|rfl|rfl
 ·have h1:r=0∨r=1:=by omega
  have h2:y=1:=by omega
  subst h2;rcases h1 with rfl|rfl <;> first|(exfalso;revert h;decide)|decide
 ·have h1:r=0∨r=1∨r=2:=by omega
  have h2:y=1∨y=2:=by omega
  rcases h1 with rfl|rfl|rfl <;> rcases h2 with rfl|rfl <;> first|(exfalso;revert h;decide)|decide
 ·have h1:r=0∨r=1∨r=2∨r=3∨r=4:=by omega
  have h2:y=1∨y=2∨y=3∨y=4:=by omega
  rcases h1 with rfl|rfl|rfl|rfl|rfl <;> rcases h2 with rfl|rfl|rfl|rfl <;> first|(exfalso;revert h;decide)|decide
theorem aLM {p r:Int} (hp:iI p=true) (hr:0≤r∧r<p) (h: ∀ y:Nat,1≤y→(y:Int)<p→(r*y) % p≠1):xC p r=0:=by
 have h1:=h 1 (by omega);have h2:=h 2 (by omega);have h3:=h 3 (by omega);have h4:=h 4 (by omega);rcases xB hp with rfl|rfl|rfl
 ·have h1:r=0∨r=1:=by omega
  rcases h1 with rfl|rfl <;> first|decide|(exfalso;revert h1 h2 h3 h4;decide)
 ·have h1:r=0∨r=1∨r=2:=by omega
  rcases h1 with rfl|rfl|rfl <;> first|decide|(exfalso;revert h1 h2 h3 h4;decide)
 ·have h1:r=0∨r=1∨r=2∨r=3∨r=4:=by omega
  rcases h1 with rfl|rfl|rfl|rfl|rfl <;> first|decide|(exfalso;revert h1 h2 h3 h4;decide)
theorem aLN {p r:Int} (hp:iI p=true) (hr:1≤r∧r<p):1≤xC p r∧xC p r<p∧(r*xC p r) % p=1:=by
 rcases xB hp with rfl|rfl|rfl
 ·have h1:r=1:=by omega
  subst h1;decide
 ·have h1:r=1∨r=2:=by omega
  rcases h1 with rfl|rfl <;> decide
 ·have h1:r=1∨r=2∨r=3∨r=4:=by omega
  rcases h1 with rfl|rfl|rfl|rfl <;> decide
theorem eP {p:Int} (h:iI p=true):2≤p∧p≤5:=by have:=xB h;omega
theorem aNZ {p:Int} (h:p=2∨p=3∨p=5):iI p=true:=by simpa [iI] using h
theorem dV {x:Int} (h: -4611686018427387904≤x∧x≤4611686018427387904):wr x=x:=aOK (by omega)
theorem dI {k n:Nat} (hk:k<n) (hn:n≤4611686018427387904):wr ((k:Int)+1)=((k+1:Nat):Int):=by rw [dV (by omega)];omega
theorem atG {α:Type} {l:List α} {k:Nat} (d:α) (h:k<l.length):eF l (k:Int)=some (l[k]?.getD d):=by rw [eA h];simp [h]
theorem atI {α:Type} {l:List α} {i:Int} (d:α) (h0:0≤i) (h:i<l.length):eF l i=some (l[i.toNat]?.getD d):=by
 have:=atG (l:=l) (k:=i.toNat) d (by omega)
 rwa [Int.toNat_of_nonneg h0] at this
theorem nR {k n:Nat} (h:k<n):decide ((k:Int)<(n:Int))=true:=bG (by omega)
theorem qA {k n:Nat} (h:n≤k):decide ((k:Int)<(n:Int))=false:=dU (by omega)
theorem zY {β:Type} {body:Int→Option (Int ⊕ (Unit ⊕ β))} {s0:Int} {s n:Nat} (f:Nat→Option β) (hs0:s0=(s:Int)) (hn:n≤4611686018427387904) (hsn:s≤n) (hs: ∀ k:Nat,s≤k→k<n→body k=some (match f k with|none=> .inl (wr (k+1))|some b=> .inr (.inr b)))
  (he:True→body n=some (.inr (.inl ()))):Lp body s0=some (match (List.range' s (n - s)).findSome? f with|none=> .inl ()|some b=> .inr b):=by
 have key: ∀ d k:Nat,s≤k→k+d=n→Lp body k=some (match (List.range' k d).findSome? f with|none=> .inl ()|some b=> .inr b):=by
  intro d;induction d with
  |zero=>intro k _ hk;rw [Nat.add_zero] at hk;subst hk;exact pB (he trivial)
  |succ d ih=>
   intro k h1 hk;have h:=hs k h1 (by omega);rw [List.range'_succ,List.findSome?_cons];cases hf:f k with
   |none=>rw [hf] at h;rw [rQ h,dI (n:=n) (by omega) hn];exact ih (k+1) (by omega) (by omega)
   |some b=>rw [hf] at h;exact pB h
 subst hs0;exact key (n - s) s (bY _) (by omega)
theorem fV {σ ρ:Type} {body:σ→Option (σ ⊕ ρ)} {s:σ} {r:ρ} (I:Nat→σ) (N:Nat) (h0:s=I 0) (hs: ∀ k,k<N→body (I k)=some (.inl (I (k+1)))) (hr:True→body (I N)=some (.inr r)):Lp body s=some r:=aNY I N h0 hs (hr trivial)
theorem vF {β:Type} {body:Int→Option (Int ⊕ (Unit ⊕ β))} {n:Nat} (P:Nat→Bool) (b:β) (hn:n≤4611686018427387904) (hs: ∀ k:Nat,k<n→body k=some (bif P k then .inl (wr (k+1)) else .inr (.inr b)))
  (he:True→body n=some (.inr (.inl ()))):Lp body 0=some (bif (List.range n).all P then .inl () else .inr b):=by
 have key: ∀ d k:Nat,k+d=n→Lp body k=some (bif (List.range' k d).all P then .inl () else .inr b):=by
  intro d;induction d with
  |zero=>intro k hk;rw [Nat.add_zero] at hk;subst hk;exact pB (he trivial)
  |succ d ih=>
   intro k hk;have h:=hs k (by omega);rw [List.range'_succ,List.all_cons];cases hf:P k with
   |true=>rw [hf] at h;rw [rQ h,dI (n:=n) (by omega) hn];exact ih (k+1) (by omega)
   |false=>rw [hf] at h;exact pB h
 have:=key n 0 (by omega)
 rwa [List.range_eq_range']
theorem aNa {β:Type} {body:Int→Option (Int ⊕ (Unit ⊕ β))} {n:Nat} (P:Nat→Bool) (b:β) (hn:n≤4611686018427387904) (hs: ∀ k:Nat,k<n→body k=some (bif P k then .inr (.inr b) else .inl (wr (k+1))))
  (he:True→body n=some (.inr (.inl ()))):Lp body 0=some (bif (List.range n).any P then .inr b else .inl ()):=by
 rw [vF (λk=> !P k) b hn (λk hk=>by rw [hs k hk];cases P k <;> rfl) he,←List.not_any_eq_all_not];cases (List.range n).any P <;> rfl
theorem uV {α:Type} (d:α) (l:List α) (P:α→Bool):(List.range l.length).all (λk=>P (l[k]?.getD d))=l.all P:=by
 rw [Bool.eq_iff_iff,List.all_eq_true,List.all_eq_true];constructor
 ·intro h x hx;obtain ⟨k,hk,rfl⟩:=List.mem_iff_getElem.1 hx;have:=h k (List.mem_range.2 hk);simpa [hk] using this
 ·intro h k hk;have hk:=List.mem_range.1 hk;simp only [gZ hk,jJ];exact h _ (List.getElem_mem hk)
theorem nK {n:Nat} {P:Nat→Bool} :(List.range n).all P=true↔ ∀ k,k<n→P k=true:=by simp [List.all_eq_true]
theorem aHD {l m:List Int} (hl:l.length=m.length):(List.range l.length).all (λk=>decide (l[k]?.getD 0=m[k]?.getD 0))=decide (l=m):=by
 rw [Bool.eq_iff_iff,nK,iT];constructor
 ·intro h;refine List.ext_getElem hl λk h1 h2=>?_;have:=of_decide_eq_true (h k h1);simpa [h1,h2] using this
 ·rintro rfl k _;simp
def dE (r c:Nat) (F:Nat→Nat→Int):List Int:=(List.range (r*c)).map λt=>F (t / c) (t % c)
theorem jT (r c:Nat) (F:Nat→Nat→Int):(dE r c F).length=r*c:=by simp [dE]
theorem aJI {r c i j:Nat} (hi:i<r) (hj:j<c):i*c+j<r*c:=by
 have:=Nat.mul_le_mul_right c (Nat.succ_le_of_lt hi);rw [Nat.succ_mul] at this;omega
theorem aGC {c i j:Nat} (hj:j<c):(i*c+j) / c=i:=by rw [Nat.mul_comm,Nat.mul_add_div (by omega),Nat.div_eq_of_lt hj,Nat.add_zero]
theorem aGD {c i j:Nat} (hj:j<c):(i*c+j) % c=j:=by rw [Nat.mul_comm,Nat.mul_add_mod,Nat.mod_eq_of_lt hj]
theorem kV {r c:Nat} (F:Nat→Nat→Int) {i j:Nat} (hi:i<r) (hj:j<c):(dE r c F)[i*c+j]? =some (F i j):=by
 have h:=aJI hi hj;simp [dE,h,aGC hj,aGD hj]
theorem aMc {r c:Nat} (F:Nat→Nat→Int) {i j:Nat} (hi:i<r) (hj:j<c):eF (dE r c F) ((i*c+j:Nat):Int)=some (F i j):=by
 rw [eA (by rw [jT];exact aJI hi hj),←kV F hi hj,gZ]
theorem dR {r c:Nat} {F G:Nat→Nat→Int} (h: ∀ i j,i<r→j<c→F i j=G i j):dE r c F=dE r c G:=by
 unfold dE;refine yC λt ht=>?_;have ht:=List.mem_range.1 ht;have hc:0<c:=by rcases Nat.eq_zero_or_pos c with rfl|h';simp at ht;exact h'
 exact h _ _ (Nat.div_lt_of_lt_mul (by rw [Nat.mul_comm];exact ht)) (Nat.mod_lt _ hc)
def aCB (F:Nat→Nat→Int) (i j:Nat) (v:Int):Nat→Nat→Int:=λa b=>if a=i∧b=j then v else F a b
theorem xD {r c:Nat} (F:Nat→Nat→Int) {i j:Nat} (v:Int) (hi:i<r) (hj:j<c):(dE r c F).set (i*c+j) v=dE r c (aCB F i j v):=by
 refine List.ext_getElem (by simp [dE]) λt h1 h2=>?_;rw [jT] at h2;have hc:0<c:=by omega
 rw [List.getElem_set];simp only [dE,List.getElem_map,List.getElem_range,aCB];have e:=Nat.div_add_mod t c;by_cases ht:i*c+j=t
 ·subst ht;rw [bF rfl,aGC hj,aGD hj,bF ⟨rfl,rfl⟩]
 ·rw [bJ ht,bJ];rintro ⟨rfl,rfl⟩;rw [Nat.mul_comm] at e;exact ht e
theorem aMd {r c:Nat} {l:List Int} (h:l.length=r*c):l=dE r c (λi j=>l[i*c+j]?.getD 0):=by
 refine List.ext_getElem (by rw [jT,h]) λt h1 h2=>?_;simp only [dE,List.getElem_map,List.getElem_range];have e:t / c*c+t % c=t:=by rw [Nat.mul_comm];exact Nat.div_add_mod t c
 rw [e];simp [h1]
theorem aFC (r c:Nat):List.replicate (r*c) (0:Int)=dE r c (λ_ _=>0):=by
 refine List.ext_getElem (by simp [dE]) λt h1 h2=>?_;simp [dE]
theorem wix {i c j:Nat} (h:i*c+j≤4611686018427387904):wr (wr ((i:Int)*(c:Int))+(j:Int))=((i*c+j:Nat):Int):=by
 have e:(i:Int)*(c:Int)=((i*c:Nat):Int):=by simp
 rw [e,dV (x:=((i*c:Nat):Int)) (by omega),dV (by omega)];omega
theorem aIP {i c:Nat} (h:i*c≤4611686018427387904):wr ((i:Int)*(c:Int))=((i*c:Nat):Int):=by
 have e:(i:Int)*(c:Int)=((i*c:Nat):Int):=by simp
 rw [e,dV (by omega)]
def aAj (p:Int) (v:List Int):Bool:=iI p&&decide (v.length≤64)&&v.all (λx=>rR x 0 (p - 1))
theorem aIQ {p:Int} {v:List Int} (h:aAj p v=true):iI p=true∧v.length≤64∧v.all (λx=>rR x 0 (p - 1))=true:=by
 simp only [aAj,cY,iT] at h;exact ⟨h.1.1,h.1.2,h.2⟩
def jK (F:Nat→Nat→Int) (j:Nat):Nat→Nat→Nat
 |0,k=>k
 |d+1,k=>if F k j=0 then jK F j d (k+1) else k
theorem aDc {F:Nat→Nat→Int} {j:Nat} : ∀ {d k r:Nat},k≤r→r≤k+d→(∀ i,k≤i→i<r→F i j=0)→(r<k+d→F r j≠0)→jK F j d k=r
 |0,k,r,h1,h2,_,_=>by simp [jK];omega
 |d+1,k,r,h1,h2,h3,h4=>by
  unfold jK;by_cases e:F k j=0
  ·rw [bF e];have hne:k≠r:=by rintro rfl;exact h4 (by omega) e
   exact aDc (by omega) (by omega) (λi a b=>h3 i (by omega) b) (λh=>h4 (by omega))
  ·rw [bJ e];rcases fA k r with h|h
   ·exact absurd (h3 k (bY _) h) e
   ·omega
theorem vG {F:Nat→Nat→Int} {j:Nat} : ∀ {d k:Nat},k≤jK F j d k∧jK F j d k≤k+d
 |0,k=>by simp [jK]
 |d+1,k=>by
  unfold jK;split
  ·have:= @vG F j d (k+1);omega
  ·omega
def rJ (F:Nat→Nat→Int) (a b:Nat):Nat→Nat→Int:=λi c=>if i=a then F b c else if i=b then F a c else F i c
def oN (p:Int) (F:Nat→Nat→Int) (a:Nat) (s:Int):Nat→Nat→Int:=λi c=>if i=a then (F a c*s) % p else F i c
def sP (p:Int) (F:Nat→Nat→Int) (a j:Nat):Nat→Nat→Int:=λi c=>if i=a then F a c else (F i c - F i j*F a c) % p
def eT (p:Int) (F:Nat→Nat→Int) (k r j:Nat):Nat→Nat→Int:=sP p (oN p (rJ F k r) k (xC p (F r j))) k j
def gF (p:Int) (m:Nat) (st:(Nat→Nat→Int)×List Nat) (j:Nat):(Nat→Nat→Int)×List Nat:=
 if jK st.1 j (m - st.2.length) st.2.length=m then st else (eT p st.1 st.2.length (jK st.1 j (m - st.2.length) st.2.length) j,st.2++[j])
def bA (p:Int) (m:Nat) (F:Nat→Nat→Int):Nat→(Nat→Nat→Int)×List Nat
 |0=>(F,[])
 |t+1=>gF p m (bA p m F t) t
def uW (p:Int) (m n:Nat) (F:Nat→Nat→Int):Prop:= ∀ i j,i<m→j<n→0≤F i j∧F i j<p
theorem aIR {p:Int} (hp:0<p) {m n:Nat} {F:Nat→Nat→Int} (_h:uW p m n F) (k r j:Nat):uW p m n (eT p F k r j):=by
 intro i c hi hc;unfold eT sP oN;split
 ·simp only [bF];exact ⟨Int.emod_nonneg _ (by omega),Int.emod_lt_of_pos _ hp⟩
 ·exact ⟨Int.emod_nonneg _ (by omega),Int.emod_lt_of_pos _ hp⟩
theorem aIS {p:Int} (hp:0<p) {m n:Nat} {st:(Nat→Nat→Int)×List Nat} (h:uW p m n st.1) (j:Nat):uW p m n (gF p m st j).1:=by
 unfold gF;split
 ·exact h
 ·exact aIR hp h _ _ _
theorem aHE {p:Int} {m:Nat} {st:(Nat→Nat→Int)×List Nat} (h:st.2.length≤m) (j:Nat):(gF p m st j).2.length ≤m:=by
 unfold gF;split
 ·exact h
 ·rename_i h1;have:= @vG st.1 j (m - st.2.length) st.2.length;simp;omega
theorem oO {p:Int} (hp:0<p) {m n:Nat} {F:Nat→Nat→Int} (h:uW p m n F): ∀ t,uW p m n (bA p m F t).1
 |0=>h
 |t+1=>aIS hp (oO hp h t) t
theorem mB {p:Int} {m:Nat} {F:Nat→Nat→Int} : ∀ t,(bA p m F t).2.length ≤m
 |0=>Nat.zero_le _
 |t+1=>aHE (mB t) t
theorem zA {p:Int} {m:Nat} {F:Nat→Nat→Int} : ∀ t,∀ x∈(bA p m F t).2,x<t
 |0,x,h=>by simp [bA] at h
 |t+1,x,h=>by
  unfold bA gF at h;split at h
  ·have:=zA t x h;omega
  ·rcases eH.1 h with h|h
   ·have:=zA t x h;omega
   ·simp at h;omega
theorem vH {p:Int} {m:Nat} {F:Nat→Nat→Int} : ∀ t,(bA p m F t).2.length ≤t
 |0=>Nat.zero_le _
 |t+1=>by
  have:= @vH p m F t;unfold bA gF;split
  ·omega
  ·simp;omega
def bD (l:List (List Int)):Nat→Nat→Int:=λi j=>(l[i]?.getD [])[j]?.getD 0
def fH (F:Nat→Nat→Int) (r n:Nat):List (List Int):=(List.range r).map λi=>(List.range n).map λj=>F i j
theorem mR (F:Nat→Nat→Int) (r n:Nat):(fH F r n).length=r:=by simp [fH]
theorem aAk (F:Nat→Nat→Int) (r n i j:Nat) (hi:i<r) (hj:j<n):bD (fH F r n) i j=F i j:=by
 simp [bD,fH,hi,hj]
theorem zB {F G:Nat→Nat→Int} {r n:Nat} (h: ∀ i j,i<r→j<n→F i j=G i j):fH F r n=fH G r n:=by
 unfold fH;refine yC λi hi=>yC λj hj=>h i j (by simpa using hi) (by simpa using hj)
def dW (p:Int) (n:Nat) (l:List (List Int)):List (List Int):=fH (bA p l.length (bD l) n).1 (bA p l.length (bD l) n).2.length n
structure Red (m t:Nat) (F:Nat→Nat→Int) (L:List Nat):Prop where
 lt: ∀ i,i<L.length→L[i]?.getD 0<t
 inc: ∀ i k,i<k→k<L.length→L[i]?.getD 0<L[k]?.getD 0
 len:L.length≤m
 one: ∀ i,i<L.length→F i (L[i]?.getD 0)=1
 col: ∀ i k,i<L.length→k<m→k≠i→F k (L[i]?.getD 0)=0
 low: ∀ i j,L.length≤i→i<m→j<t→F i j=0
 left: ∀ i j,i<L.length→j<L[i]?.getD 0→F i j=0
theorem xE {L:List Nat} {t i:Nat} :(L++[t])[i]?.getD 0=if i<L.length then L[i]?.getD 0 else if i=L.length then t else 0:=by
 by_cases h:i<L.length
 ·rw [bF h,List.getElem?_append_left h]
 ·rw [bJ h,List.getElem?_append_right (by omega)];by_cases h2:i=L.length
  ·subst h2;simp
  ·rw [bJ h2,lJ (by simp;omega)];rfl
theorem aAl {F:Nat→Nat→Int} {j:Nat} : ∀ {d k:Nat} i,k≤i→i<jK F j d k→F i j=0
 |0,k,i,h1,h2=>by simp [jK] at h2;omega
 |d+1,k,i,h1,h2=>by
  unfold jK at h2;by_cases e:F k j=0
  ·rw [bF e] at h2;by_cases e2:i=k
   ·subst e2;exact e
   ·exact aAl i (by omega) h2
  ·rw [bJ e] at h2;omega
theorem zZ {F:Nat→Nat→Int} {j:Nat} : ∀ {d k:Nat},jK F j d k<k+d→F (jK F j d k) j≠0
 |0,k,h=>by simp [jK] at h
 |d+1,k,h=>by
  unfold jK at h ⊢;by_cases e:F k j=0
  ·rw [bF e] at h ⊢;exact zZ (by omega)
  ·rw [bJ e];exact e
theorem aLO {p:Int} (hp:iI p=true) {m n t:Nat} (ht:t<n) {st:(Nat→Nat→Int)×List Nat} (hin:uW p m n st.1) (h:Red m t st.1 st.2):Red m (t+1) (gF p m st t).1 (gF p m st t).2:=by
 obtain ⟨F,L⟩:=st;simp only at hin h;have hb:=eP hp;unfold gF;simp only;have hle:= @vG F t (m - L.length) L.length;have hz:= @aAl F t (m - L.length) L.length;have hh:= @zZ F t (m - L.length) L.length;have hlen:=h.len;split
 ·rename_i hm;show Red m (t+1) F L;refine ⟨λi hi=>by have:=h.lt i hi;omega,h.inc,h.len,h.one,h.col,λi j h1 h2 h3=>?_,h.left⟩;by_cases e:j=t
  ·subst e;exact hz i h1 (by omega)
  ·exact h.low i j h1 h2 (by omega)
 ·rename_i hm;generalize jK F t (m - L.length) L.length=r at*;have hrm:r<m:=by omega
  have hr0:=hh (by omega);have hrb:=hin r t hrm ht;have hiv:=aLN hp (r:=F r t) ⟨by omega,by omega⟩
  have hG: ∀ c,eT p F L.length r t L.length c=(F r c*xC p (F r t)) % p:=by
   intro c;simp [eT,sP,oN,rJ]
  have hrow: ∀ c,F r c=0→eT p F L.length r t L.length c=0:=by
   intro c hc;rw [hG,hc];simp
  have hE: ∀ i c,i≠L.length→eT p F L.length r t i c=((if i=r then F L.length c else F i c) - (if i=r then F L.length t else F i t)*eT p F L.length r t L.length c) % p:=by
   intro i c hi;simp [eT,sP,oN,rJ,hi]
  have hT:eT p F L.length r t L.length t=1:=by rw [hG];exact hiv.2.2
  have hlow: ∀ j,j<t→F r j=0:=λj hj=>h.low r j hle.1 hrm hj;show Red m (t+1) (eT p F L.length r t) (L++[t]);refine ⟨λi hi=>?_,λi k hik hk=>?_,by simp;omega,λi hi=>?_,λi k hi hk hki=>?_,λi j h1 h2 h3=>?_,λi j hi hj=>?_⟩
  ·rw [xE];simp at hi;split
   ·rename_i h1;have:=h.lt i h1;omega
   ·split <;> omega
  ·simp at hk;rw [xE,xE,bF (by omega)];split
   ·rename_i h1;exact h.inc i k hik h1
   ·rw [bF (by omega)];exact h.lt i (by omega)
  ·simp at hi;rw [xE];by_cases e:i<L.length
   ·rw [bF e,hE i _ (by omega),bJ (by omega),hrow _ (hlow _ (h.lt i e)),h.one i e];simp;exact Int.emod_eq_of_lt (by omega) (by omega)
   ·have e2:i=L.length:=by omega
    subst e2;simp [hT]
  ·simp at hi;rw [xE];by_cases e:i<L.length
   ·rw [bF e];by_cases ek:k=L.length
    ·subst ek;exact hrow _ (hlow _ (h.lt i e))
    ·rw [hE k _ ek,hrow _ (hlow _ (h.lt i e))];by_cases er:k=r
     ·rw [bF er,h.col i L.length e (by omega) (by omega)];simp
     ·rw [bJ er,h.col i k e hk hki];simp
   ·have e2:i=L.length:=by omega
    subst e2;rw [bJ e,bF rfl,hE k _ hki,hT];simp
  ·simp at h1;rw [hE i _ (by omega)];by_cases e:j=t
   ·subst e;rw [hT];simp
   ·rw [hrow _ (hlow j (by omega)),h.low L.length j (bY _) (by omega) (by omega),h.low i j (by omega) h2 (by omega)];simp
  ·simp at hi;rw [xE] at hj;by_cases e:i<L.length
   ·rw [bF e] at hj;have:=h.lt i e;rw [hE i _ (by omega),bJ (by omega),hrow _ (hlow j (by omega)),h.left i j e hj];simp
   ·have e2:i=L.length:=by omega
    subst e2;rw [bJ e,bF rfl] at hj;exact hrow _ (hlow j hj)
theorem tY {p:Int} (hp:iI p=true) {m n:Nat} {F:Nat→Nat→Int} (hin:uW p m n F): ∀ t,t≤n→Red m t (bA p m F t).1 (bA p m F t).2
 |0,_=>⟨by simp [bA],by simp [bA],by simp [bA],by simp [bA],by simp [bA],by simp,by simp [bA]⟩
 |t+1,ht=>aLO hp (by omega) (oO (by have:=eP hp;omega) hin t) (tY hp hin t (by omega))
theorem aLP {p:Int} (hp:iI p=true):xC p 1=1:=by
 rcases xB hp with rfl|rfl|rfl <;> decide
theorem aFD {p:Int} (hp:iI p=true) {n:Nat} {R G:Nat→Nat→Int} {L:List Nat} {m:Nat} (h:Red m n R L) (hin:uW p m n R) (hG: ∀ i j,i<L.length→j<n→G i j=R i j):
  ∀ t,t≤n→(∃ k,k≤L.length∧(bA p L.length G t).2=L.take k∧(∀ i,i<k→L[i]?.getD 0<t)∧(∀ i,k≤i→i<L.length→t≤L[i]?.getD 0))∧ ∀ i j,i<L.length→j<n→(bA p L.length G t).1 i j=R i j
 |0,_=>⟨⟨0,Nat.zero_le _,rfl,λi hi=>absurd hi (Nat.not_lt_zero _),λi _ _=>Nat.zero_le _⟩,hG⟩
 |t+1,ht=>by
  obtain ⟨⟨k,hk,e1,h1,h2⟩,h3⟩:=aFD hp h hin hG t (by omega);have hlen:=h.len;have hkl:(L.take k).length=k:=by simp;omega
  unfold bA gF;rw [e1,hkl];obtain ⟨H,hH⟩: ∃ H,H=(bA p L.length G t).1:=⟨_,rfl⟩;rw [←hH] at h3 ⊢;by_cases hlt:k<L.length∧L[k]?.getD 0=t
  ·obtain ⟨hk2,hkt⟩:=hlt;have hone:H k t=1:=by rw [h3 k t hk2 (by omega),←hkt];exact h.one k hk2
   have hpv:jK H t (L.length - k) k=k:=aDc (bY _) (by omega) (λi a b=>absurd b (by omega)) (λ_=>by rw [hone];decide);rw [hpv,bJ (by omega)];refine ⟨⟨k+1,by omega,?_,λi hi=>?_,λi hi hi2=>?_⟩,λi j hi hj=>?_⟩
   ·show L.take k++[t]=_;rw [aBE hk2];have:L[k]=t:=by simpa [hk2] using hkt
    rw [this]
   ·by_cases e:i=k
    ·subst e;omega
    ·have:=h1 i (by omega);omega
   ·have:=h.inc k i (by omega) hi2;omega
   ·show eT p H k k t i j=_;have e2: ∀ c,(H k c*xC p (H k t)) % p=H k c % p:=by intro c;rw [hone,aLP hp];simp
    have hb:=hin i j (by omega) hj;have hb2:=hin k j (by omega) hj;by_cases e:i=k
    ·subst e;have e3:eT p H i i t i j=(H i j*xC p (H i t)) % p:=by simp [eT,sP,oN,rJ]
     rw [e3,e2,h3 i j hi hj];exact Int.emod_eq_of_lt hb.1 hb.2
    ·have hz:H i t=0:=by rw [h3 i t hi (by omega),←hkt];exact h.col k i hk2 (by omega) e
     have e3:eT p H k k t i j=(H i j - H i t*((H k j*xC p (H k t)) % p)) % p:=by simp [eT,sP,oN,rJ,e]
     rw [e3,hz,h3 i j hi hj];simp;exact Int.emod_eq_of_lt hb.1 hb.2
  ·have hz: ∀ i,k≤i→i<L.length→H i t=0:=by
    intro i hi hi2;rw [h3 i t hi2 (by omega)];refine h.left i t hi2 ?_;have a:=h2 i hi hi2;by_cases e:i=k
    ·subst e;have:L[i]?.getD 0≠t:=λe=>hlt ⟨hi2,e⟩;omega
    ·have b:=h2 k (bY _) (by omega);have c:=h.inc k i (by omega) hi2;omega
   have hpv:jK H t (L.length - k) k=L.length:=aDc hk (by omega) (λi a b=>hz i a b) (λh=>absurd h (by omega));rw [hpv,bF rfl];refine ⟨⟨k,hk,e1,λi hi=>by have:=h1 i hi;omega,λi hi hi2=>?_⟩,by rw [←hH];exact h3⟩;have a:=h2 i hi hi2;by_cases e:i=k
   ·subst e;have:L[i]?.getD 0≠t:=λe=>hlt ⟨hi2,e⟩;omega
   ·have b:=h2 k (bY _) (by omega);have c:=h.inc k i (by omega) hi2;omega
def VecsP (p:Int) (n:Nat) (l:List (List Int)):Prop:= ∀ v∈l,v.length=n∧ ∀ x∈v,0≤x∧x<p
theorem VecsP.inP {p:Int} {n:Nat} {l:List (List Int)} (h:VecsP p n l):uW p l.length n (bD l):=by
 intro i j hi hj;have h1:=h l[i] (List.getElem_mem hi);have h2:=h1.2 ((l[i])[j]'(by omega)) (List.getElem_mem _);simpa [bD,hi,show j<(l[i]).length by omega] using h2
theorem aCC {p:Int} (hp:iI p=true) {n:Nat} {l:List (List Int)} (h:uW p l.length n (bD l)):VecsP p n (dW p n l):=by
 intro v hv;unfold dW fH at hv;simp only [List.mem_map,List.mem_range] at hv;obtain ⟨i,hi,rfl⟩:=hv;refine ⟨by simp,λx hx=>?_⟩;simp only [List.mem_map,List.mem_range] at hx;obtain ⟨j,hj,rfl⟩:=hx;have:= @mB p l.length (bD l) n;exact oO (by have:=eP hp;omega) h n i j (by omega) hj
theorem xF {p:Int} {n:Nat} {l:List (List Int)} :(dW p n l).length ≤n∧(dW p n l).length ≤l.length:=by
 unfold dW;rw [mR];exact ⟨vH n,mB n⟩
theorem aFE {p:Int} (hp:iI p=true) {n:Nat} {l:List (List Int)} (h:uW p l.length n (bD l)):dW p n (dW p n l)=dW p n l:=by
 have h1:=tY hp h n (bY _);have h2:=oO (by have:=eP hp;omega) h n;have hl:(dW p n l).length=(bA p l.length (bD l) n).2.length:=by unfold dW;rw [mR]
 obtain ⟨⟨k,hk,e1,h3,h4⟩,h5⟩:=aFD hp (G:=bD (dW p n l)) h1 h2 (λi j hi hj=>by unfold dW;exact aAk _ _ _ i j hi hj) n (bY _)
 have hk2:k=(bA p l.length (bD l) n).2.length:=by
  rcases fA k (bA p l.length (bD l) n).2.length with h6|h6
  ·have a:=h4 k (bY _) h6;have b:=h1.lt k h6;omega
  ·omega
 have e2:(bA p (dW p n l).length (bD (dW p n l)) n).2.length=(bA p l.length (bD l) n).2.length:=by
  rw [hl,e1,hk2,List.take_length]
 show fH (bA p (dW p n l).length (bD (dW p n l)) n).1 (bA p (dW p n l).length (bD (dW p n l)) n).2.length n=fH (bA p l.length (bD l) n).1 (bA p l.length (bD l) n).2.length n;rw [e2];refine zB λi j hi hj=>?_;rw [hl];exact h5 i j hi hj
def xR (p:Int) (n:Nat) (F:Nat→Nat→Int) (L:List Nat) (k:Nat):Nat→List Int
 |0=>(List.replicate n 0).set k 1
 |i+1=>(xR p n F L k i).set (L[i]?.getD 0) ((-F i k) % p)
theorem zC (p:Int) (n:Nat) (F:Nat→Nat→Int) (L:List Nat) (k:Nat): ∀ i,(xR p n F L k i).length=n
 |0=>by simp [xR]
 |i+1=>by simp [xR,zC p n F L k i]
theorem aJJ {p:Int} (hp:iI p=true) (n:Nat) (F:Nat→Nat→Int) (L:List Nat) (k:Nat): ∀ i,∀ x∈xR p n F L k i,0≤x∧x<p
 |0,x,hx=>by
  have:=eP hp;rcases List.mem_or_eq_of_mem_set hx with h|h
  ·rw [List.eq_of_mem_replicate h];omega
  ·omega
 |i+1,x,hx=>by
  have:=eP hp;rcases List.mem_or_eq_of_mem_set hx with h|h
  ·exact aJJ hp n F L k i x h
  ·rw [h];exact ⟨Int.emod_nonneg _ (by omega),Int.emod_lt_of_pos _ (by omega)⟩
def fM (n:Nat) (L:List Nat):List Nat:=(List.range n).filter λk=> !L.contains k
def tN (p:Int) (n:Nat) (F:Nat→Nat→Int) (L:List Nat):List (List Int):=(fM n L).map λk=>xR p n F L k L.length
def fB (l:List (List Int)):Nat→Nat→Int:=λi j=>bD l j i
def mO (p:Int) (n:Nat) (a:List (List Int)) (k:List Int):Nat→List Int
 |0=>List.replicate n 0
 |t+1=>(List.range n).map λx=>((mO p n a k t)[x]?.getD 0+k[t]?.getD 0*bD a t x) % p
theorem aAA (p:Int) (n:Nat) (a:List (List Int)) (k:List Int): ∀ t,(mO p n a k t).length=n
 |0=>by simp [mO]
 |t+1=>by simp [mO]
theorem aHF {p:Int} (hp:iI p=true) (n:Nat) (a:List (List Int)) (k:List Int): ∀ t,∀ x∈mO p n a k t,0≤x∧x<p
 |0,x,hx=>by
  have:=eP hp;rw [List.eq_of_mem_replicate hx];omega
 |t+1,x,hx=>by
  have:=eP hp;simp only [mO,List.mem_map] at hx;obtain ⟨j,_,rfl⟩:=hx;exact ⟨Int.emod_nonneg _ (by omega),Int.emod_lt_of_pos _ (by omega)⟩
def nS (p:Int) (n:Nat) (a b:List (List Int)):List (List Int):=dW p n (a++b)
def oP (p:Int) (n:Nat) (a b:List (List Int)):List (List Int):=
 (tN p (a++b).length (bA p n (fB (a++b)) (a++b).length).1 (bA p n (fB (a++b)) (a++b).length).2).map λk=>mO p n a k a.length
def eE (p:Int) (n:Nat) (a b:List (List Int)):List (List Int):=dW p n (oP p n a b)
theorem zD {p:Int} (hp:iI p=true) (n:Nat) (a b:List (List Int)):VecsP p n (oP p n a b):=by
 intro v hv;unfold oP at hv;simp only [List.mem_map] at hv;obtain ⟨k,_,rfl⟩:=hv;exact ⟨aAA _ _ _ _ _,aHF hp _ _ _ _⟩
theorem aFF (n:Nat) (L:List Nat):(fM n L).length ≤n:=by
 unfold fM;have:=List.length_filter_le (λk=> !L.contains k) (List.range n);simpa using this
def aBS (p size:Int) (l:List (List Int)):Bool:=iI p&&rR size 0 8&&decide (l.length≤16)&&l.all λv=>decide ((v.length:Int)=size)&&aAj p v
def fW (p size:Int) (l:List (List Int)):Bool:=aBS p size l&&decide (dW p size.toNat l=l)
theorem zE {p size:Int} {l:List (List Int)} (h:aBS p size l=true):iI p=true∧ ∃ n:Nat,size=n∧n≤8∧l.length≤16∧VecsP p n l:=by
 simp only [aBS,cY,iT,List.all_eq_true] at h;obtain ⟨⟨⟨h1,h2⟩,h3⟩,h4⟩:=h;have h5:=fG h2;refine ⟨h1,size.toNat,by omega,by omega,h3,λv hv=>?_⟩;have h6:=h4 v hv;have h7:=aIQ h6.2;refine ⟨by have:=h6.1;omega,λx hx=>?_⟩;have h8:=h7.2.2;rw [List.all_eq_true] at h8;have:=fG (h8 x hx);omega
theorem aLQ {p:Int} {n:Nat} {l:List (List Int)} (hp:iI p=true) (hn:n≤8) (hl:l.length≤16) (h:VecsP p n l):aBS p n l=true:=by
 simp only [aBS,cY,iT,List.all_eq_true];refine ⟨⟨⟨hp,wP (by omega) (by omega)⟩,hl⟩,λv hv=>⟨by rw [(h v hv).1],?_⟩⟩;simp only [aAj,cY,iT,List.all_eq_true];exact ⟨⟨hp,by rw [(h v hv).1];omega⟩,λx hx=>wP (by have:=(h v hv).2 x hx;omega) (by have:=(h v hv).2 x hx;omega)⟩
theorem pC {p size:Int} {l:List (List Int)} (h:fW p size l=true):iI p=true∧ ∃ n:Nat,size=n∧n≤8∧l.length≤n∧VecsP p n l∧dW p n l=l:=by
 simp only [fW,cY,iT] at h;obtain ⟨hp,n,rfl,hn,_,hv⟩:=zE h.1;have h2:dW p n l=l:=by simpa using h.2
 exact ⟨hp,n,rfl,hn,by have:=(@xF p n l).1;rw [h2] at this;exact this,hv,h2⟩
theorem aIT {p:Int} {n:Nat} {l:List (List Int)} (hp:iI p=true) (hn:n≤8) (h:VecsP p n l):fW p n (dW p n l)=true:=by
 simp only [fW,cY,iT];exact ⟨aLQ hp hn (by have:=(@xF p n l).1;omega) (aCC hp h.inP),by simpa using aFE hp h.inP⟩
theorem VecsP.append {p:Int} {n:Nat} {a b:List (List Int)} (ha:VecsP p n a) (hb:VecsP p n b):VecsP p n (a++b):=by
 intro v hv;rcases eH.1 hv with h|h
 ·exact ha v h
 ·exact hb v h
end
noncomputable section
def sN (f:Nat→Int):Nat→Int
 |0=>0
 |k+1=>sN f k+f k
theorem dB {f g:Nat→Int} : ∀ {n:Nat},(∀ k,k<n→f k=g k)→sN f n=sN g n
 |0,_=>rfl
 |n+1,h=>by rw [sN,sN,dB λk hk=>h k (by omega),h n (by omega)]
theorem aDd (f g:Nat→Int): ∀ n,sN (λk=>f k+g k) n=sN f n+sN g n
 |0=>rfl
 |n+1=>by rw [sN,sN,sN,aDd f g n];omega
theorem aCD (c:Int) (f:Nat→Int): ∀ n,sN (λk=>c*f k) n=c*sN f n
 |0=>by simp [sN]
 |n+1=>by rw [sN,sN,aCD c f n,Int.mul_add]
theorem rS: ∀ n,sN (λ_=>0) n=0
 |0=>rfl
 |n+1=>by rw [sN,rS n];rfl
theorem xS {f:Nat→Int} {j:Nat} : ∀ {n:Nat},j<n→(∀ k,k<n→k≠j→f k=0)→sN f n=f j
 |0,h,_=>absurd h (Nat.not_lt_zero _)
 |n+1,h,hz=>by
  rw [sN];by_cases e:j=n
  ·subst e;rw [dB (g:=λ_=>0) λk hk=>hz k (by omega) (by omega),rS];omega
  ·rw [xS (j:=j) (by omega) λk hk hj=>hz k (by omega) hj,hz n (by omega) (by omega)];omega
def Z0 (p x:Int):Prop:=x % p=0
theorem aAm {p x y:Int} (h:Z0 p x) (k:Z0 p y):Z0 p (x+y):=by unfold Z0 at*;rw [Int.add_emod,h,k];simp
theorem sV {p x:Int} (c:Int) (h:Z0 p x):Z0 p (c*x):=by unfold Z0 at*;rw [Int.mul_emod,h];simp
theorem aJK {p:Int} {f g:Nat→Int} : ∀ {n:Nat},(∀ k,k<n→f k % p=g k % p)→sN f n % p=sN g n % p
 |0,_=>rfl
 |n+1,h=>by rw [sN,sN,Int.add_emod,aJK λk hk=>h k (by omega),h n (by omega),←Int.add_emod]
theorem qB {p x y:Int} (h:x % p=y % p) (k:Z0 p x):Z0 p y:=by unfold Z0 at*;rw [←h];exact k
def dt (n:Nat) (f x:Nat→Int):Int:=sN (λk=>f k*x k) n
def Kr (p:Int) (m n:Nat) (F:Nat→Nat→Int) (x:Nat→Int):Prop:= ∀ i,i<m→Z0 p (dt n (F i) x)
theorem aCE {p:Int} {n:Nat} {f g x:Nat→Int} (h: ∀ k,k<n→f k % p=g k % p):dt n f x % p=dt n g x % p:=by
 unfold dt;refine aJK λk hk=>?_;rw [Int.mul_emod,h k hk,←Int.mul_emod]
theorem aIU {n:Nat} {f g x:Nat→Int} (c:Int):dt n (λk=>f k+c*g k) x=dt n f x+c*dt n g x:=by
 unfold dt;rw [←aCD,←aDd];refine dB λk hk=>?_;rw [Int.add_mul,Int.mul_assoc]
theorem aJL {n:Nat} {f x:Nat→Int} (c:Int):dt n (λk=>c*f k) x=c*dt n f x:=by
 unfold dt;rw [←aCD];refine dB λk hk=>?_;rw [Int.mul_assoc]
theorem aLR {p:Int} (hp:iI p=true) {m n k r j:Nat} (hj:j<n) (hk:k<m) (hr:r<m) {F:Nat→Nat→Int} (hin:uW p m n F) (hrj:F r j≠0) (x:Nat→Int):Kr p m n (eT p F k r j) x↔Kr p m n F x:=by
 have hb:=eP hp;have hrb:=hin r j hr hj;have hiv:=aLN hp (r:=F r j) ⟨by omega,by omega⟩;generalize hs:xC p (F r j)=s at*;have hrow: ∀ c,eT p F k r j k c=(F r c*s) % p:=by intro c;simp [eT,sP,oN,rJ,hs]
 have hoth: ∀ i c,i≠k→eT p F k r j i c=((if i=r then F k c else F i c) - (if i=r then F k j else F i j)*eT p F k r j k c) % p:=by
  intro i c hi;simp [eT,sP,oN,rJ,hi,hs]
 have e1:dt n (eT p F k r j k) x % p=(s*dt n (F r) x) % p:=by
  rw [←aJL];refine aCE λc hc=>?_;rw [hrow,Int.mul_comm,Int.emod_emod_of_dvd _ (Int.dvd_refl p)]
 have e2:dt n (F r) x % p=(F r j*dt n (eT p F k r j k) x) % p:=by
  rw [←aJL];refine aCE λc hc=>?_;rw [hrow,Int.mul_emod,Int.emod_emod_of_dvd _ (Int.dvd_refl p),←Int.mul_emod,show F r j*(F r c*s)=(F r j*s)*F r c by rw [Int.mul_comm (F r c),Int.mul_assoc],Int.mul_emod,hiv.2.2];simp
 have e3: ∀ i,i≠k→ ∀ G:Nat→Int,(∀ c,G c=if i=r then F k c else F i c)→dt n (eT p F k r j i) x % p=(dt n G x+ -(G j)*dt n (eT p F k r j k) x) % p:=by
  intro i hi G hG;rw [←aIU];refine aCE λc hc=>?_;rw [hoth i c hi,Int.emod_emod_of_dvd _ (Int.dvd_refl p),←hG,←hG,Int.neg_mul,Int.sub_eq_add_neg]
 constructor
 ·intro h;have hkk:=h k hk;have hrr:Z0 p (dt n (F r) x):=by unfold Z0;rw [e2];exact sV _ hkk
  have key: ∀ i,i<m→i≠k→Z0 p (dt n (λc=>if i=r then F k c else F i c) x):=by
   intro i hi hik;have h1:=h i hi;unfold Z0 at h1;rw [e3 i hik (λc=>if i=r then F k c else F i c) (λc=>rfl)] at h1;have h2:=aAm (y:=(if i=r then F k j else F i j)*dt n (eT p F k r j k) x) h1 (sV _ hkk);refine qB (congrArg (· % p) ?_) h2;rw [Int.neg_mul];omega
  intro i hi;by_cases e:i=r
  ·subst e;exact hrr
  ·by_cases e4:i=k
   ·subst e4;have:=key r hr (λh=>e h.symm);simpa using this
   ·have:=key i hi e4;simpa [e] using this
 ·intro h;have hkk:Z0 p (dt n (eT p F k r j k) x):=by unfold Z0;rw [e1];exact sV _ (h r hr)
  intro i hi;by_cases e:i=k
  ·subst e;exact hkk
  ·unfold Z0;rw [e3 i e (λc=>if i=r then F k c else F i c) (λc=>rfl)];refine aAm ?_ (sV _ hkk);by_cases e4:i=r
   ·simp only [e4,if_true];exact h k hk
   ·simp only [e4,if_false];exact h i hi
theorem wG {p:Int} (hp:iI p=true) {m n:Nat} {F:Nat→Nat→Int} (hin:uW p m n F) (x:Nat→Int): ∀ t,t≤n→(Kr p m n (bA p m F t).1 x↔Kr p m n F x)
 |0,_=>Iff.rfl
 |t+1,ht=>by
  have ih:=wG hp hin x t (by omega);have hin2:=oO (by have:=eP hp;omega:0<p) hin t;have hlen:= @mB p m F t;show Kr p m n (gF p m (bA p m F t) t).1 x↔_;unfold gF;split
  ·exact ih
  ·rename_i h1;have hle:= @vG (bA p m F t).1 t (m - (bA p m F t).2.length) (bA p m F t).2.length;have hh:= @zZ (bA p m F t).1 t (m - (bA p m F t).2.length) (bA p m F t).2.length (by omega);refine Iff.trans ?_ ih;exact aLR hp (by omega) (by omega) (by omega) hin2 hh x
def kx (F:Nat→Nat→Int) (L:List Nat) (k:Nat):Nat→Int:=λc=>if c=k then 1 else -(sN (λi=>if L[i]?.getD 0=c then F i k else 0) L.length)
theorem aNb {F:Nat→Nat→Int} {L:List Nat} {k c:Nat} (hc:c≠k) (hL: ∀ i,i<L.length→L[i]?.getD 0≠c):kx F L k c=0:=by
 unfold kx;rw [bJ hc,dB (g:=λ_=>0) λi hi=>bJ (hL i hi),rS];rfl
theorem aJM {F:Nat→Nat→Int} {L:List Nat} {k:Nat} :kx F L k k=1:=bF rfl
theorem aFG {m n:Nat} {F:Nat→Nat→Int} {L:List Nat} (h:Red m n F L) {k:Nat} (hk:k<n) (hL: ∀ i,i<L.length→L[i]?.getD 0≠k) (g:Nat→Int):dt n g (kx F L k)=g k - sN (λi=>g (L[i]?.getD 0)*F i k) L.length:=by
 have key: ∀ a,a≤L.length→sN (λc=>g c*(if c=k then 1 else -(sN (λi=>if L[i]?.getD 0=c then F i k else 0) a))) n=g k - sN (λi=>g (L[i]?.getD 0)*F i k) a:=by
  intro a;induction a with
  |zero=>
   intro _;rw [xS (j:=k) hk]
   ·rw [bF rfl];simp [sN]
   ·intro c hc hck;rw [bJ hck];simp [sN]
  |succ a ih=>
   intro ha;have ih:=ih (by omega);have hlt:=h.lt a (by omega);have hne:=hL a (by omega)
   have e:sN (λc=>g c*(if c=k then 1 else -(sN (λi=>if L[i]?.getD 0=c then F i k else 0) (a+1)))) n
     =sN (λc=>g c*(if c=k then 1 else -(sN (λi=>if L[i]?.getD 0=c then F i k else 0) a))+(if c=L[a]?.getD 0 then -(g c*F a k) else 0)) n:=by
    refine dB λc hc=>?_;by_cases e1:c=k
    ·rw [bF e1,bF e1,bJ (by omega)];omega
    ·rw [bJ e1,bJ e1];simp only [sN];by_cases e2:c=L[a]?.getD 0
     ·rw [bF e2,bF e2.symm,Int.neg_add,Int.mul_add,Int.mul_neg (g c) (F a k)]
     ·rw [bJ e2,bJ (λh=>e2 h.symm)];simp
   rw [e,aDd,ih,xS (j:=L[a]?.getD 0) hlt (λc _ hc=>bJ hc),bF rfl];simp only [sN];omega
 have:=key L.length (bY _);exact this
theorem zF {p:Int} {m n:Nat} {F:Nat→Nat→Int} {L:List Nat} (h:Red m n F L) {k:Nat} (hk:k<n) (hL: ∀ i,i<L.length→L[i]?.getD 0≠k):Kr p m n F (kx F L k):=by
 intro i hi;rw [aFG h hk hL];rcases fA i L.length with hl|hl
 ·rw [xS (j:=i) hl]
  ·rw [h.one i hl];unfold Z0;rw [Int.one_mul,Int.sub_self];simp
  ·intro t ht hti;rw [h.col t i ht hi (λe=>hti e.symm)];simp
 ·rw [h.low i k hl hi hk,dB (g:=λ_=>0) λt ht=>by rw [h.low i _ hl hi (h.lt t ht)];simp];rw [rS];unfold Z0;simp
theorem aGE {p:Int} (hp:iI p=true) {m m' n:Nat} {F G:Nat→Nat→Int} {L M:List Nat} (hF:Red m n F L) (hG:Red m' n G M) (hK: ∀ x,Kr p m n F x→Kr p m' n G x) {t:Nat} (ht:t<M.length): ∃ i,i<L.length∧L[i]?.getD 0=M[t]?.getD 0:=by
 have hb:=eP hp;refine Classical.byContradiction λhn=>?_;have hL: ∀ i,i<L.length→L[i]?.getD 0≠M[t]?.getD 0:=λi hi e=>hn ⟨i,hi,e⟩;have hk:=hG.lt t ht;have h1:=hK _ (zF (p:=p) hF hk hL) t (by have:=hG.len;omega);rw [aFG hF hk hL,hG.one t ht,dB (g:=λ_=>0) λi hi=>?_,rS] at h1
 ·unfold Z0 at h1;rw [Int.sub_zero,Int.emod_eq_of_lt (by omega) (by omega)] at h1;cases h1
 ·rcases fA (L[i]?.getD 0) (M[t]?.getD 0) with e|e
  ·rw [hG.left t _ ht e];simp
  ·have:=hL i hi;rw [hF.left i _ hi (by omega)];simp
theorem aCF: ∀ {L M:List Nat},(∀ i k,i<k→k<L.length→L[i]?.getD 0<L[k]?.getD 0)→(∀ i k,i<k→k<M.length→M[i]?.getD 0<M[k]?.getD 0)→(∀ i,i<L.length→ ∃ j,j<M.length∧M[j]?.getD 0=L[i]?.getD 0)→(∀ j,j<M.length→ ∃ i,i<L.length∧L[i]?.getD 0=M[j]?.getD 0)→L=M
 | [],[],_,_,_,_=>rfl
 | [],y::M,_,_,_,h=>by obtain ⟨i,hi,_⟩:=h 0 (by simp);simp at hi
 |x::L,[],_,_,h,_=>by obtain ⟨i,hi,_⟩:=h 0 (by simp);simp at hi
 |x::L,y::M,hL,hM,h1,h2=>by
  have sL: ∀ i k,i<k→k<L.length→L[i]?.getD 0<L[k]?.getD 0:=λi k hik hk=>by have:=hL (i+1) (k+1) (by omega) (by simp;omega);simpa using this
  have sM: ∀ i k,i<k→k<M.length→M[i]?.getD 0<M[k]?.getD 0:=λi k hik hk=>by have:=hM (i+1) (k+1) (by omega) (by simp;omega);simpa using this
  have xL: ∀ i,i<L.length→x<L[i]?.getD 0:=λi hi=>by have:=hL 0 (i+1) (by omega) (by simp;omega);simpa using this
  have yM: ∀ i,i<M.length→y<M[i]?.getD 0:=λi hi=>by have:=hM 0 (i+1) (by omega) (by simp;omega);simpa using this
  have exy:x=y:=by
   obtain ⟨j,hj,e1⟩:=h1 0 (by simp);obtain ⟨i,hi,e2⟩:=h2 0 (by simp);simp at e1 e2
   have b1:y≤x:=by
    cases j with
    |zero=>simp at e1;omega
    |succ j=>simp at e1 hj;have:=yM j hj;omega
   have b2:x≤y:=by
    cases i with
    |zero=>simp at e2;omega
    |succ i=>simp at e2 hi;have:=xL i hi;omega
   omega
  subst exy;congr 1;refine aCF sL sM (λi hi=>?_) (λj hj=>?_)
  ·obtain ⟨j,hj,e⟩:=h1 (i+1) (by simp;omega);simp at e;have:=xL i hi;cases j with
   |zero=>simp at e;omega
   |succ j=>simp at e hj;exact ⟨j,hj,e⟩
  ·obtain ⟨i,hi,e⟩:=h2 (j+1) (by simp;omega);simp at e;have:=yM j hj;cases i with
   |zero=>simp at e;omega
   |succ i=>simp at e hi;exact ⟨i,hi,e⟩
theorem aIV {p:Int} (hp:iI p=true) {m m' n:Nat} {F G:Nat→Nat→Int} {L M:List Nat} (hF:Red m n F L) (hG:Red m' n G M) (iF:uW p m n F) (iG:uW p m' n G) (hK: ∀ x,Kr p m n F x↔Kr p m' n G x):L=M∧ ∀ i j,i<L.length→j<n→F i j=G i j:=by
 have e:L=M:=aCF hF.inc hG.inc (λi hi=>aGE hp hG hF (λx=>(hK x).2) hi) (λj hj=>aGE hp hF hG (λx=>(hK x).1) hj);subst e;refine ⟨rfl,λi k hi hk=>?_⟩;have hm:=hF.len;have hm':=hG.len;by_cases hL: ∃ t,t<L.length∧L[t]?.getD 0=k
 ·obtain ⟨t,ht,rfl⟩:=hL;by_cases e:i=t
  ·subst e;rw [hF.one i hi,hG.one i hi]
  ·rw [hF.col t i ht (by omega) e,hG.col t i ht (by omega) e]
 ·have hL: ∀ t,t<L.length→L[t]?.getD 0≠k:=λt ht e=>hL ⟨t,ht,e⟩;have h1:=(hK _).1 (zF (p:=p) hF hk hL) i (by omega);rw [aFG hF hk hL,xS (j:=i) hi (λt ht hti=>by rw [hG.col t i ht (by omega) (λe=>hti e.symm)];simp),hG.one i hi,Int.one_mul] at h1;unfold Z0 at h1;have b1:=iF i k (by omega) hk;have b2:=iG i k (by omega) hk;have hd:=Int.dvd_of_emod_eq_zero h1;obtain ⟨c,hc⟩:=hd
  have hc0:c=0:=by
   rcases Int.lt_trichotomy c 0 with h|h|h
   ·have:=Int.mul_le_mul_of_nonneg_left (show c≤ -1 by omega) (by omega:0≤p);omega
   ·exact h
   ·have:=Int.mul_le_mul_of_nonneg_left (show 1≤c by omega) (by omega:0≤p);omega
  subst hc0;simp at hc;omega
theorem aBT {p:Int} (hp:iI p=true) {m m' n:Nat} {F G:Nat→Nat→Int} (iF:uW p m n F) (iG:uW p m' n G) (hK: ∀ x,Kr p m n F x↔Kr p m' n G x):(bA p m F n).2=(bA p m' G n).2∧ ∀ i j,i<(bA p m F n).2.length→j<n→(bA p m F n).1 i j=(bA p m' G n).1 i j:=by
 have hb:=eP hp;refine aIV hp (tY hp iF n (bY _)) (tY hp iG n (bY _)) (oO (by omega) iF n) (oO (by omega) iG n) λx=>?_;rw [wG hp iF x n (bY _),hK,wG hp iG x n (bY _)]
end
noncomputable section
theorem aLS {n:Nat} {L:List Nat} (hinc: ∀ i k,i<k→k<L.length→L[i]?.getD 0<L[k]?.getD 0) (hlt: ∀ x∈L,x<n):(fM n L).length +L.length=n:=by
 have key: ∀ t,((List.range t).filter λk=> !L.contains k).length +((List.range t).filter λk=>L.contains k).length=t:=by
  intro t;induction t with
  |zero=>simp
  |succ t ih=>
   rw [List.range_succ,List.filter_append,List.filter_append,List.length_append,List.length_append];cases h:L.contains t <;> simp only [List.filter_cons,List.filter_nil,h,dC,Bool.not_false,jC,if_true,if_false,List.length_cons,List.length_nil] <;> omega
 have e:(List.range n).filter (λk=>L.contains k)=L:=by
  have hL: ∀ i,i<L.length→L[i]?.getD 0<n:=λi hi=>hlt _ (by rw [gZ hi];exact List.getElem_mem hi);have hS:((List.range n).filter λk=>L.contains k).Pairwise (· < ·):=List.Pairwise.filter _ List.pairwise_lt_range;refine aCF (λi k hik hk=>?_) hinc (λi hi=>?_) (λj hj=>?_)
  ·have:=List.pairwise_iff_getElem.1 hS i k (by omega) hk hik;rw [gZ (by omega),gZ hk];exact this
  ·have hm:=List.getElem_mem hi;rw [List.mem_filter] at hm;have h2:=List.contains_iff_mem.1 hm.2;obtain ⟨j,hj,he⟩:=List.mem_iff_getElem.1 h2;refine ⟨j,hj,?_⟩;rw [gZ hj,gZ hi];exact he
  ·have hm:L[j]∈(List.range n).filter λk=>L.contains k:=by
    rw [List.mem_filter];exact ⟨List.mem_range.2 (hlt _ (List.getElem_mem hj)),List.contains_iff_mem.2 (List.getElem_mem hj)⟩
   obtain ⟨i,hi,he⟩:=List.mem_iff_getElem.1 hm;refine ⟨i,hi,?_⟩;rw [gZ hj,gZ hi];exact he
 have:=key n;rw [e] at this;exact this
end
noncomputable section
theorem pig: ∀ (n:Nat) (L:List Nat),L.length<n→ ∃ k,k<n∧k ∉ L
 |0,L,h=>absurd h (Nat.not_lt_zero _)
 |n+1,L,h=>by
  by_cases hm:n∈L
  ·obtain ⟨k,hk,hkL⟩:=pig n (L.filter λx=>decide (x≠n)) (by
    have h1:(L.filter λx=>decide (x≠n)).length +1≤L.length:=by
     clear h;induction L with
     |nil=>cases hm
     |cons a L ih=>
      by_cases ha:a=n
      ·rw [List.filter_cons_of_neg (by simp [ha])];have:=List.length_filter_le (λx=>decide (x≠n)) L;simp only [List.length_cons];omega
      ·rcases eY.1 hm with h|h
       ·exact absurd h.symm ha
       ·rw [List.filter_cons_of_pos (by simp [ha])];have:=ih h;simp only [List.length_cons];omega
    omega)
   refine ⟨k,by omega,λhkm=>hkL ?_⟩;rw [List.mem_filter];exact ⟨hkm,by simp;omega⟩
  ·exact ⟨n,by omega,hm⟩
theorem aIW {p:Int} (hp:iI p=true) {m n:Nat} {F:Nat→Nat→Int} (hin:uW p m n F) (h:(bA p m F n).2.length <n): ∃ x,Kr p m n F x∧ ∃ k,k<n∧x k=1:=by
 obtain ⟨k,hk,hL⟩:=pig n _ h;have R:=tY hp hin n (bY _);refine ⟨kx (bA p m F n).1 (bA p m F n).2 k,(wG hp hin _ n (bY _)).1 (zF R hk λi hi e=>hL ?_),k,hk,aJM⟩;rw [←e,gZ hi,jJ];exact List.getElem_mem hi
def vW (c:Nat→Int) (l:Nat→Nat→Int) (s:Nat):Nat→Int:=λk=>sN (λi=>c i*l i k) s
def Ind (p:Int) (n s:Nat) (l:Nat→Nat→Int):Prop:= ∀ c,(∀ k,k<n→Z0 p (vW c l s k))→ ∀ i,i<s→Z0 p (c i)
theorem aCG {n:Nat} (f:Nat→Int) (c:Nat→Int) (l:Nat→Nat→Int): ∀ s,dt n f (vW c l s)=sN (λi=>c i*dt n f (l i)) s
 |0=>by
  unfold dt vW;simp only [sN];have:=rS n;refine Eq.trans ?_ this;exact dB λk _=>Int.mul_zero _
 |s+1=>by
  have ih:=aCG (n:=n) f c l s;unfold dt vW at ih ⊢;simp only [sN];rw [←ih,←aCD,←aDd];exact dB λk _=>by rw [Int.mul_add,←Int.mul_assoc,←Int.mul_assoc,Int.mul_comm (f k) (c s)]
theorem aLT {p:Int} {f:Nat→Int} : ∀ {n:Nat},(∀ k,k<n→Z0 p (f k))→Z0 p (sN f n)
 |0,_=>by simp [sN,Z0]
 |n+1,h=>by
  simp only [sN];exact aAm (aLT λk hk=>h k (by omega)) (h n (by omega))
theorem aNc {p:Int} {m n:Nat} {F:Nat→Nat→Int} {c:Nat→Int} {l:Nat→Nat→Int} {s:Nat} (h: ∀ i,i<s→Kr p m n F (l i)):Kr p m n F (vW c l s):=by
 intro j hj;rw [aCG];exact aLT λi hi=>sV _ (h i hi j hj)
theorem aNd {m n:Nat} {F:Nat→Nat→Int} {L:List Nat} (R:Red m n F L):(fM n L).length +L.length=n:=aLS R.inc λx hx=>by
 obtain ⟨i,hi,rfl⟩:=List.mem_iff_getElem.1 hx;have:=R.lt i hi
 rwa [gZ hi,jJ] at this
theorem aNe {n k:Nat} {L:List Nat} :k∈fM n L↔k<n∧k ∉ L:=by
 unfold fM;rw [List.mem_filter,List.mem_range];simp
theorem aBU (f:Nat→Int) (a:Nat): ∀ b,sN f (a+b)=sN f a+sN (λj=>f (a+j)) b
 |0=>by simp [sN]
 |b+1=>by
  show sN f (a+b)+f (a+b)=_;rw [aBU f a b];simp only [sN];omega
def bas (p:Int) (m n:Nat) (F:Nat→Nat→Int) (i:Nat):Nat→Int:=kx (bA p m F n).1 (bA p m F n).2 ((fM n (bA p m F n).2)[i]?.getD 0)
def nul (p:Int) (m n:Nat) (F:Nat→Nat→Int):Nat:=(fM n (bA p m F n).2).length
theorem aFH {n:Nat} {L:List Nat} {i:Nat} (hi:i<(fM n L).length):(fM n L)[i]?.getD 0<n∧(fM n L)[i]?.getD 0 ∉ L:=by
 rw [gZ hi,jJ];exact aNe.1 (List.getElem_mem hi)
theorem aIX {L:List Nat} {k:Nat} (h:k ∉ L): ∀ i,i<L.length→L[i]?.getD 0≠k:=λi hi e=>h (by rw [←e,gZ hi,jJ];exact List.getElem_mem hi)
theorem aNg {n:Nat} {L:List Nat} {i j:Nat} (hi:i<(fM n L).length) (hj:j<(fM n L).length) (e:(fM n L)[i]?.getD 0=(fM n L)[j]?.getD 0):i=j:=by
 rw [gZ hi,gZ hj,jJ,jJ] at e
 have hnd:(fM n L).Nodup:=by
  unfold fM;exact List.Pairwise.filter _ List.nodup_range
 exact (List.getElem_inj hnd).1 e
theorem aLU {p:Int} {m n:Nat} {F:Nat→Nat→Int} {i j:Nat} (hi:i<nul p m n F) (hj:j<nul p m n F):bas p m n F i ((fM n (bA p m F n).2)[j]?.getD 0)=if i=j then 1 else 0:=by
 unfold bas;by_cases h:i=j
 ·subst h;rw [bF rfl,aJM]
 ·rw [bJ h];exact aNb (λe=>h (aNg hj hi e).symm) (aIX (aFH hj).2)
theorem aMe {p:Int} {m n:Nat} {F:Nat→Nat→Int} (c:Nat→Int) {j:Nat} (hj:j<nul p m n F):vW c (bas p m n F) (nul p m n F) ((fM n (bA p m F n).2)[j]?.getD 0)=c j:=by
 unfold vW;rw [xS hj λi hi hij=>by rw [aLU hi hj,bJ hij,Int.mul_zero],aLU hj hj,bF rfl,Int.mul_one]
theorem aLV (x:Nat→Int) (g:Nat→Nat→Int) (t k:Nat):vW x g t k=dt t (λi=>g i k) x:=dB λi _=>Int.mul_comm _ _
theorem aMf (d:Nat→Int) (h g:Nat→Nat→Int) (e t k:Nat):vW d (λa=>vW (h a) g t) e k=vW (vW d h e) g t k:=by
 rw [aLV (vW d h e),aCG]
 exact dB λa _=>by
  show d a*vW (h a) g t k=_;rw [aLV]
end
noncomputable section
theorem AEff.conv {P:Program} {o:Oper} {ins:Operand→Option AV} {hp:Hp} {κ:Kp} {v v':AV} {tc:List Nat} {ed ed':List (Nat×Option Blk)} {n:List Nat} (h:AEff P o ins hp κ ⟨v,tc,ed,n⟩) (hv:v=v') (he:ed=ed'):AEff P o ins hp κ ⟨v',tc,ed',n⟩:=by subst hv;subst he;exact h
theorem AEff.val {P:Program} {o:Oper} {ins:Operand→Option AV} {hp:Hp} {κ:Kp} {v v':AV} {tc:List Nat} {ed:List (Nat×Option Blk)} {n:List Nat} (h:AEff P o ins hp κ ⟨v,tc,ed,n⟩) (hv:v=v'):AEff P o ins hp κ ⟨v',tc,ed,n⟩:=by subst hv;exact h
section
variable {P:Program} {T:List (Nat×Ty)} (hT:TyOk P T) {dst:Option Tmp} {ty:TypeId} {pos:String} {aft:Array Edge} {g:Option (Nat×Bool)} {s:AState}
theorem bL {t t':TypeId} {x y:Operand} {a b:Int} (hx:s.ev x=some (.int a)) (hy:s.ev y=some (.int b)):AEff P ⟨dst,.binOp .add t x y t',ty,pos,aft,g⟩ s.ev s.heap s.kp ⟨.int (wr (a+b)),[],[],[]⟩:=
 nW hx hy rfl λw=>by simp [eqGuard,binOp,Op.intArith,wr]
theorem lK {t t':TypeId} {x y:Operand} {a b:Int} (hx:s.ev x=some (.int a)) (hy:s.ev y=some (.int b)):AEff P ⟨dst,.binOp .sub t x y t',ty,pos,aft,g⟩ s.ev s.heap s.kp ⟨.int (wr (a - b)),[],[],[]⟩:=
 nW hx hy rfl λw=>by simp [eqGuard,binOp,Op.intArith,wr]
theorem gN {t t':TypeId} {x y:Operand} {a b:Int} (hx:s.ev x=some (.int a)) (hy:s.ev y=some (.int b)):AEff P ⟨dst,.binOp .mul t x y t',ty,pos,aft,g⟩ s.ev s.heap s.kp ⟨.int (wr (a*b)),[],[],[]⟩:=
 nW hx hy rfl λw=>by simp [eqGuard,binOp,Op.intArith,wr]
theorem aNK {t:TypeId} {x:Operand} {a:Int} (hx:s.ev x=some (.int a)):AEff P ⟨dst,.unOp .neg t x,ty,pos,aft,g⟩ s.ev s.heap s.kp ⟨.int (wr (-a)),[],[],[]⟩:=
 aKt hx rfl λw=>by simp [Op.unary,Op.intArith,wr]
theorem aNL {t t':TypeId} {x y:Operand} {a b:Int} (hx:s.ev x=some (.int a)) (hy:s.ev y=some (.int b)) (h:(!decide (b=0))=true):AEff P ⟨dst,.binOp .quo t x y t',ty,pos,aft,g⟩ s.ev s.heap s.kp ⟨.int (wr (a.tdiv b)),[],[],[]⟩:=
 nW hx hy rfl λw=>by
  have h':b≠0:=by simpa using h
  simp [eqGuard,binOp,Op.intDiv,h',wr]
theorem zG {t t':TypeId} {x y:Operand} {a b:Int} (hx:s.ev x=some (.int a)) (hy:s.ev y=some (.int b)) (h:(!decide (b=0))=true):AEff P ⟨dst,.binOp .rem t x y t',ty,pos,aft,g⟩ s.ev s.heap s.kp ⟨.int (a.tmod b),[],[],[]⟩:=
 nW hx hy rfl λw=>by
  have h':b≠0:=by simpa using h
  simp [eqGuard,binOp,Op.intDiv,h']
variable {α:Type} {k:Nat} {e:α→List AV}
include hT
theorem aKC {x ix:Operand} {t et:Nat} {y ye:Ty} {l:List α} {kk:IntKind} {i:Int} {v:α} (hm:eF l i=some v) (hx:s.ev x=some (.list k (l.map e))) (hix:s.ev ix=some (.sc (.int kk i))) (hy:dZ T t=some y) (hd:y.desc= .slice et) (hye:dZ T et=some ye) (hk:ye.size=k):
  AEff P ⟨dst,.indexAddr t x ix,ty,pos,aft,g⟩ s.ev s.heap s.kp ⟨.ref (e v),[],[],[]⟩:=aJz hT hy hd hye hk hx hix (aLK hm) (aMa hm)
theorem aLW {x ix:Operand} {t et:Nat} {y ye:Ty} {b n kz:Nat} {es:List (List AV)} {kk:IntKind} {i:Int} (h0:0≤i) (hn:i.toNat<n) (hx:s.ev x=some (.own b 0 n)) (hb:s.heap b=some ⟨kz,es⟩) (hix:s.ev ix=some (.sc (.int kk i))) (hy:dZ T t=some y) (hd:y.desc= .slice et) (hye:dZ T et=some ye) (hk:ye.size=kz):
  AEff P ⟨dst,.indexAddr t x ix,ty,pos,aft,g⟩ s.ev s.heap s.kp ⟨.ptr b i.toNat 0,[b],[],[]⟩:=by
 have:=aGx (P:=P) hT (dst:=dst) (ty:=ty) (pos:=pos) (aft:=aft) (g:=g) hy hd hye hx hb hk hix h0 (by omega);rw [Nat.zero_add] at this;exact this
omit hT in
theorem aHG: ∀ {cs vs:List AV},cs.length=vs.length→yR cs 0 vs=vs
 | [],[],_=>rfl
 |c::cs,v::vs,h=>by simp only [yR];rw [aHG (by simpa using h)]
theorem iU {t:TypeId} {y:Ty} {x z:Operand} {val:AV} {b i:Nat} {l:List α} {v u:α} (E:EOk k e) (hm:l[i]? =some v) (hc:cX val=e u) (hx:s.ev x=some (.ptr b i 0)) (hb:s.heap b=some ⟨k,l.map e⟩) (hz:s.ev z=some val) (hy:dZ T t=some y) (hk:y.size=k):
  AEff P ⟨dst,.store t x z,ty,pos,aft,g⟩ s.ev s.heap s.kp ⟨.dead,[b],[(b,some ⟨k,(l.set i u).map e⟩)],[]⟩:=by
 have h1:=zX (P:=P) hT (dst:=dst) (ty:=ty) (pos:=pos) (aft:=aft) (g:=g) hx hb hz hy (by rw [hc,E.len,hk];simp) (by rw [hc,List.all_eq_true];exact λc h=>aHB (E.mem u c h) _) (cs:=e v) (by rw [List.getElem?_map,hm];rfl) (by rw [E.len,hk,Nat.zero_add];simp);rw [hc,aCA (E.mem u),aHG (by rw [E.len,E.len]),←List.map_set] at h1;exact h1
theorem iJ {x z:Operand} {t et:Nat} {y ye:Ty} {b b' n:Nat} {l m:List α} {sv:AV} {ts:List Nat} {dty:TypeId} (E:EOk k e) (hf:decide (l.length+m.length≤4294967296)=true) (hns:s.ns.head?=some b') (hx:s.ev x=some (.own b 0 n)) (hb:s.heap b=some ⟨k,l.map e⟩) (hl:l.length=n) (hz:s.ev z=some sv) (hsrc:yW s.heap sv=some (k,m.map e,ts))
  (hy:dZ T t=some y) (hd:y.desc= .slice et) (hye:dZ T et=some ye) (hzl:ye.zero.length=ye.size) (hk:ye.size=k) (hby:Nat.ble ye.bytes 32768=true):
  AEff P ⟨dst,.call ⟨.builtin .append,#[x,z],#[t,t]⟩,dty,pos,aft,g⟩ s.ev s.heap s.kp ⟨.own b' 0 (l++m).length,b::ts,[(b,none),(b',some ⟨k,(l++m).map e⟩)],[b']⟩:=by
 have hf:=of_decide_eq_true hf;have hby:=Nat.le_of_ble_eq_true hby
 have h1:=aFB (P:=P) hT (dst:=dst) (pos:=pos) (aft:=aft) (g:=g) (dty:=dty) hns hx hb hz hsrc hy hd hye hzl hk.symm hk.symm (by simpa using hl) (E.okE _ m) (by simp;omega) (by simp only [jS];calc (n+m.length)*ye.bytes≤4294967296*32768:=Nat.mul_le_mul (by omega) hby
                                                                                                                                                                _≤140737488355328:=by decide)
 rw [E.namesE,List.append_nil,hk,jS] at h1;rw [List.length_append,List.map_append,hl];exact h1
omit hT in
theorem aIY {c:AV} (h:oM c=true):yQ (tM c)=c:=by cases c <;> simp only [oM,jC] at h <;> rfl
omit hT in
theorem aNh (E:EOk k e) (l:List α):(l.map (ow e)).map (List.map yQ)=l.map e:=by
 rw [List.map_map];refine yC λx _=>?_;simp only [Function.comp,ow,List.map_map]
 have: ∀ {cs:List AV},(∀ c∈cs,oM c=true)→cs.map (yQ∘tM)=cs:=by
  intro cs;induction cs with
  |nil=>intro _;rfl
  |cons c cs ih=>intro h;rw [List.map_cons,ih λd hd=>h d (by simp [hd])];simp only [Function.comp];rw [aIY (h c (by simp))]
 exact this (E.mem x)
omit hT in
theorem qC {h:Hp} {b n:Nat} {l:List α} (E:EOk k e) (hb:h b=some ⟨k,l.map (ow e)⟩) (hl:l.length=n):view1 h (.own b 0 n) (.list k (l.map e)):=aIL hb rfl (by simp [hl]) (E.views l)
omit hT in
theorem aAF {h:Hp} {b n:Nat} {l:List α} (E:EOk k e) (hb:h b=some ⟨k,l.map (ow e)⟩) (hl:l.length=n):viewA h (.own b 0 n) (.list k (l.map e)):=qC E hb hl
omit hT in
theorem aOM {h:Hp} {b n:Nat} {l:List α} (E:EOk k e) (hb:h b=some ⟨k,l.map e⟩) (hl:l.length=n):view1 h (.own b 0 n) (.list k (l.map e)):=aIL hb rfl (by simp [hl]) (E.sames l)
omit hT in
theorem aHH {h:Hp} {b n:Nat} {l:List α} (E:EOk k e) (hb:h b=some ⟨k,l.map e⟩) (hl:l.length=n):viewA h (.own b 0 n) (.list k (l.map e)):=aOM E hb hl
omit hT in
theorem dY {h:Hp} {b n:Nat} {l:List α} (E:EOk k e) (hb:h b=some ⟨k,l.map (ow e)⟩) (hl:l.length=n):aAg h (.own b 0 n) (.list k (l.map e)):=⟨rfl,_,hb,by simp [hl],rfl,E.frzs l⟩
end
theorem cO {h:Hp} :All2 (aAg h) [] []:=rfl
theorem aG {h:Hp} {x d:AV} {xs ds:List AV} (a:aAg h x d) (b:All2 (aAg h) xs ds):All2 (aAg h) (x::xs) (d::ds):=⟨d,ds,rfl,a,b⟩
theorem rT {h:Hp} {cs ds:List AV} (a:All2 (aAg h) cs ds):aFz h [.agg cs] (.agg ds):=⟨a,by intro _ h;cases h⟩
theorem qK {h:Hp} {x:AV} {k:Nat} {es:List (List AV)} (a:aAg h x (.list k es)):aFz h [x] (.list k es):=by
 refine ⟨?_,by intro _ h;cases h⟩;cases x <;> exact a
theorem oQ {h:Hp} {x d:AV} (a:aAg h x d):aCk h x d:=by
 unfold aCk;split
 ·exact a.elim
 ·exact a
theorem dO {h:Hp} {cs ds:List AV} (a:All2 (aAg h) cs ds):aCk h (.agg cs) (.agg ds):=a
theorem cP {h:Hp} :All2 (aCk h) [] []:=rfl
theorem aX {h:Hp} {x d:AV} {xs ds:List AV} (a:aCk h x d) (b:All2 (aCk h) xs ds):All2 (aCk h) (x::xs) (d::ds):=⟨d,ds,rfl,a,b⟩
theorem bV {h:Hp} {vs rs:List AV} (hl:Nat.beq vs.length 1=false) (a:All2 (aCk h) vs rs):aFz h vs (.tuple rs):=by
 have h1:vs.length≠1:=by intro e;rw [e] at hl;cases hl
 cases vs with
 |nil=>exact ⟨h1,a⟩
 |cons v vs=>
  cases vs with
  |nil=>exact absurd rfl h1
  |cons u vs=>exact ⟨h1,a⟩
section
variable {s:AState}
theorem kW {b b' j n k k':Nat} {A es es':List (List AV)} {c:List AV} (hb:s.heap b=some ⟨k,A++[c]⟩) (hj:c[j]? =some (.own b' 0 n)) (hb':s.heap b'=some ⟨k',es⟩) (hne:Nat.beq b b'=false) (hn:es.length=n) (hf:All2 (All2 aCj) es es'):
  Ent s ⟨s.env,bU [(b',none),(b,some ⟨k,A++[yR c j [.abs k' es']]⟩)] s.heap,s.used,s.ns,s.kp⟩:=by
 have h:=aCb (i:=A.length) hb (by simp) hj hb' hne hn rfl hf;have e:(A++[c]).set A.length (yR c j [.abs k' es'])=A++[yR c j [.abs k' es']]:=by rw [List.set_append_right _ _ (bY _),Nat.sub_self];rfl
 simp only [e] at h;exact h
theorem aDe {b b' i j n k k':Nat} {A es es':List (List AV)} {c:List AV} (hi:i<A.length) (hb:s.heap b=some ⟨k,A.set i c⟩) (hj:c[j]? =some (.own b' 0 n)) (hb':s.heap b'=some ⟨k',es⟩) (hne:Nat.beq b b'=false) (hn:es.length=n) (hf:All2 (All2 aCj) es es'):
  Ent s ⟨s.env,bU [(b',none),(b,some ⟨k,A.set i (yR c j [.abs k' es'])⟩)] s.heap,s.used,s.ns,s.kp⟩:=by
 have h:=aCb (i:=i) hb (by simp [hi]) hj hb' hne hn rfl hf;simp only [List.set_set] at h;exact h
end
theorem aN {α β:Type} (f:α→β) (l:List α):(l.map f).length=l.length:=jS ..
end
noncomputable section
theorem iR:Tryz.prog.follows .mixedOrders=true:=by kernel_rfl
abbrev aCl (b:ByteArray):List AV:=[.str b]
def cW {α:Type} (k:Nat) (e:α→List AV) (l:List α):List AV:=[.list k (l.map e)]
theorem cJ:EOk 1 eI:=⟨λ_=>rfl,λ_=>rfl⟩
theorem wH:EOk 1 aCl:=⟨λ_=>rfl,λ_=>rfl⟩
theorem cA {α:Type} {k:Nat} {e:α→List AV} :EOk 1 (cW k e):=⟨λ_=>rfl,λ_=>rfl⟩
theorem fT:EOk 3 eM:=⟨λ_=>rfl,λ_=>rfl⟩
theorem fZ:EOk 2 eS:=⟨λ_=>rfl,λ_=>rfl⟩
theorem jF:EOk 1 (ow eI):=⟨λ_=>rfl,λ_=>rfl⟩
theorem aLX:EOk 1 (ow aCl):=⟨λ_=>rfl,λ_=>rfl⟩
theorem eG {nb nb':List (Nat×Blk)} {ed:List (Nat×Option Blk)} (h:nb=nb') (e:pA nb'=ed:=by rfl):pA nb=ed:=by rw [h];exact e
theorem uX (σ:Nat→Option Nat) {n:Nat} {cs:List AV} (h:cs.all fD=true):All2 (eX σ n) cs cs:=by
 induction cs with
 |nil=>rfl
 |cons c cs ih=>
  simp only [List.all_cons,cY] at h;refine ⟨c,cs,rfl,?_,ih h.2⟩;cases c <;> simp only [fD,jC,false_and] at h <;> simp [eX]
theorem aAn {α:Type} {e:α→List AV} {z:α} (n:Nat):List.replicate n (ow e z)=(List.replicate n z).map (ow e):=(List.map_replicate ..).symm
section
variable {h:Hp}
theorem tZ {k b n:Nat} {es fs:List (List AV)} (hb:h b=some ⟨k,es⟩) (hn:n=es.length) (v:All2 (All2 view0) es fs):view1 h (.own b 0 n) (.list k fs):=aIL hb rfl hn v
theorem aGF:All2 (viewP h) [] []:=rfl
theorem aDA {x d:AV} {xs ds:List AV} (a:viewP h x d) (b:All2 (viewP h) xs ds):All2 (viewP h) (x::xs) (d::ds):=⟨d,ds,rfl,a,b⟩
theorem aMg {c:AV} (p:fD c=true):viewP h c c:=by cases c <;> simp only [fD,jC] at p <;> simp [viewP,view1,view0]
theorem aGG {b:Nat} {blk:Blk} {c cs:List AV} (hb:h b=some blk) (hi:blk.es[0]? =some c) (v:All2 (view1 h) c cs):viewP h (.ptr b 0 0) (.ref cs):=⟨blk,c,hb,hi,v⟩
theorem aLY {f:FuncId} {cs ds:List AV} (v:All2 (viewP h) cs ds):viewA h (.fn f cs) (.fn f ds):=⟨rfl,v⟩
theorem aDf: ∀ {cs:List AV},cs.all fD=true→All2 (viewP h) cs cs
 | [],_=>rfl
 |c::cs,p=>by simp only [List.all_cons,cY] at p;exact ⟨c,cs,rfl,aMg p.1,aDf p.2⟩
theorem aLZ {f:FuncId} {cs:List AV} (p:cs.all fD=true):viewA h (.fn f cs) (.fn f cs):=⟨rfl,aDf p⟩
end
theorem dJ:aCZ (.agg []):=by intro _ h;cases h
theorem aR {c:AV} {cs:List AV} (a:aGq c) (b:aCZ (.agg cs)):aCZ (.agg (c::cs)):=by
 intro d hd;rcases eY.1 hd with rfl|h
 ·exact a
 ·exact b d h
theorem dS:aEv (.tuple []):=by intro _ h;cases h
theorem bC {c:AV} {cs:List AV} (a:aCZ c) (b:aEv (.tuple cs)):aEv (.tuple (c::cs)):=by
 intro d hd;rcases eY.1 hd with rfl|h
 ·exact a
 ·exact b d h
section
variable {P:Program} {T:List (Nat×Ty)} {dst:Option Tmp} {ty:TypeId} {pos:String} {aft:Array Edge} {g:Option (Nat×Bool)} {s:AState}
theorem aAo (hT:TyOk P T) {t e:TypeId} {y ye:Ty} {l c:Operand} {kl kc:IntKind} {n:Int} {b:Nat} (q:(decide (0≤n)&&decide (n≤1048576))=true) (hns:s.ns.head?=some b) (hl:s.ev l=some (.sc (.int kl n))) (hc:s.ev c=some (.sc (.int kc n))) (hy:dZ T t=some y) (hd:y.desc= .slice e) (hye:dZ T e=some ye) (hz:ye.zero.length=ye.size) (hb:Nat.ble ye.bytes 32768=true):
  AEff P ⟨dst,.makeSlice t l c,ty,pos,aft,g⟩ s.ev s.heap s.kp ⟨.own b 0 n.toNat,[],[(b,some ⟨ye.size,List.replicate n.toNat ye.zero⟩)],[b]⟩:=by
 simp only [cY,iT] at q;refine aNX hT hns hl hc hy hd hye hz q.1 (by omega) ?_;have hb:=Nat.le_of_ble_eq_true hb
 calc n.toNat*ye.bytes≤1048576*32768:=Nat.mul_le_mul (by omega) hb
  _≤140737488355328:=by decide
theorem aGH {fo:Operand} {xs:Array Operand} {ats:Array TypeId} {f:FuncId} {caps avs ds1:List AV} {u:Value} (hcap:caps.all fD=true) (hc:HasC P f (ds1++caps) (.sc u)) (hf:s.ev fo=some (.fn f caps)) (hx:evs s.ev xs.toList=some avs) (hv1:All2 (viewA s.heap) avs ds1):
  AEff P ⟨dst,.call ⟨.value fo,xs,ats⟩,ty,pos,aft,g⟩ s.ev s.heap s.kp ⟨.sc u,avs.flatMap (sU s.heap)++caps.flatMap (nQ s.heap),[],[]⟩:=
 aDU (ds1:=ds1) (ds2:=caps) (ns:=[]) (nb:=[]) (r:= .sc u) (x:= .sc u) hf hx hc hv1 (aDf hcap) trivial (aJE [] u) rfl (by simp)
end
end
noncomputable section
def oH (σ:Nat→Option Nat) (ν:Nu):Nu:=⟨λb=>match σ b with|some b0=>ν b0|none=>none,ν.ok⟩
structure Conv (σ:Nat→Option Nat) (n:Nat) (w:World) (h:Hp) (u:Us) (ν:Nu) (hl:List (Nat×Blk)):Prop where
 free: ∀ x,yV h ν x→yV (oJ hl) (oH σ ν) x
 rep: ∀ {x y:AV} {v:Value},RepA w h u ν x v→qZ σ n x y→RepA w (oJ hl) (yX n) (oH σ ν) y v
 heap: ∀ {M:Nat→Prop} {φ:Nat→List Nat},HeapOk M w h u ν φ→HeapOk M w (oJ hl) (yX n) (oH σ ν) (λb=>match σ b with|some b0=>φ b0|none=>[])
 look: ∀ b y,oJ hl b=some y→(∀ b0,σ b=some b0→ ∃ x,h b0=some x∧x.k=y.k∧x.es.length=y.es.length)∧Nat.blt b n=true
theorem aDB {σ:Nat→Option Nat} {n:Nat} {w:World} {h:Hp} {u:Us} {ν:Nu} {hl:List (Nat×Blk)} (hh:pZ σ n h hl) (hi:aAf σ hl=true):Conv σ n w h u ν hl:=by
 generalize hν':oH σ ν=ν';have hνok:ν'.ok=ν.ok:=by rw [←hν'];rfl
 have hνb: ∀ b,ν' b=match σ b with|some b0=>ν b0|none=>none:=λb=>by rw [←hν'];rfl
 have hlive: ∀ b y,oJ hl b=some y→(match σ b with|some b0=> ∃ x,h b0=some x∧aAe σ n x y|none=>y.es=[])∧Nat.blt b n=true:=λb y h=>aDQ hh (nY h)
 have hlen: ∀ {x y:Blk},aAe σ n x y→x.k=y.k∧x.es.length=y.es.length:=by
  rintro x y ⟨h1,h2|h2⟩
  ·exact ⟨h1,by rw [h2.1]⟩
  ·exact ⟨h1,h2.len.symm⟩
 have hfree: ∀ x,yV h ν x→yV (oJ hl) ν' x:=by
  intro x hf b y β c hb hν;have h1:=(hlive b y hb).1;cases hσ:σ b with
  |none=>simp only [hνb,hσ] at hν;cases hν
  |some b0=>
   rw [hσ] at h1;simp only [hνb,hσ] at hν;obtain ⟨z,h2,_⟩:=h1;exact hf b0 z β c h2 hν
 have m1: ∀ {x y:AV} {v:Value},Rep1 w h u ν x v→eX σ n x y→Rep1 w (oJ hl) (yX n) ν' y v:=by
  intro x y v r m;cases y
  case dead=>trivial
  case sc u=>cases x <;> simp only [eX] at m <;> first|exact m.elim|(subst m;exact r)
  case nil k=>cases x <;> simp only [eX] at m <;> first|exact m.elim|exact r
  case list k es=>
   cases x <;> simp only [eX] at m <;> first|exact m.elim|skip
   ·subst m;simp only [Rep1] at r ⊢;exact ⟨[],by rw [r];exact wX,by simp⟩
   ·obtain ⟨rfl,rfl⟩:=m;obtain ⟨S,r1,r2⟩:=r;exact ⟨S,r1,λx hx=>⟨hfree x (r2 x hx).1,by rw [hνok];exact (r2 x hx).2⟩⟩
  case ref cs=>
   cases x <;> simp only [eX] at m <;> first|exact m.elim|skip
   subst m;obtain ⟨S,r1,r2⟩:=r;exact ⟨S,r1,λx hx=>⟨hfree x (r2 x hx).1,by rw [hνok];exact (r2 x hx).2⟩⟩
  case own b i q=>
   cases x <;> simp only [eX] at m <;> first|exact m.elim|skip
   ·obtain ⟨m1,rfl,rfl,m4⟩:=m;simp only [Rep1] at r ⊢;refine ⟨m4,λblk hb=>?_⟩;have h1:=(hlive b blk hb).1;rw [m1] at h1;refine ⟨by simp,λ_=>r,λβ c hν=>?_⟩;simp only [hνb,m1] at hν;cases hν
   ·rename_i b0 i0 q0;obtain ⟨m1,rfl,rfl,m4⟩:=m;simp only [Rep1] at r ⊢;refine ⟨m4,λblk hb=>?_⟩;have h1:=(hlive b blk hb).1;rw [m1] at h1;obtain ⟨z,h2,h3⟩:=h1;obtain ⟨k1,k2⟩:=hlen h3;obtain ⟨r1,r2,r3⟩:=r.2 z h2;refine ⟨by rw [←k2];exact r1,λhν=>r2 (by simpa only [hνb,m1] using hν),λβ c hν=>?_⟩;rw [←k1];exact r3 β c (by simpa only [hνb,m1] using hν)
  case ptr b i q=>
   cases x <;> simp only [eX] at m <;> first|exact m.elim|skip
   rename_i b0 i0 q0;obtain ⟨m1,rfl,rfl,m4⟩:=m;simp only [Rep1] at r ⊢;refine ⟨m4,λblk hb=>?_⟩;have h1:=(hlive b blk hb).1;rw [m1] at h1;obtain ⟨z,h2,h3⟩:=h1;obtain ⟨k1,k2⟩:=hlen h3;obtain ⟨β,c,r1,r2⟩:=r.2 z h2;exact ⟨β,c,by simpa only [hνb,m1] using r1,by rw [←k1];exact r2⟩
  all_goals (cases x <;> simp only [eX] at m)
 have mL: ∀ {xs ys:List AV} {vs:List Value},All2 (Rep1 w h u ν) xs vs→All2 (eX σ n) xs ys→All2 (Rep1 w (oJ hl) (yX n) ν') ys vs:=by
  intro xs;induction xs with
  |nil=>intro ys vs r m;simp only [All2] at r m;subst r m;rfl
  |cons x xs ih=>
   rintro ys vs ⟨v,r,rfl,h1,h2⟩ ⟨y,q,rfl,k1,k2⟩;exact ⟨v,r,rfl,m1 h1 k1,ih h2 k2⟩
 have mC: ∀ {x y:AV} {v:Value} {S:List Nat},CellRep w h u ν x v S→kS σ n x y→CellRep w (oJ hl) (yX n) ν' y v S:=by
  intro x y v S r m
  cases x <;> cases y <;> simp only [kS] at m <;> simp only [CellRep] at r ⊢ <;> first
   |exact m.elim
   |exact r.elim
   |exact ⟨m1 r.1 m,r.2⟩
   |(obtain ⟨rfl,m⟩:=m;obtain ⟨⟨vs,r1,r2⟩,r3⟩:=r;exact ⟨⟨vs,r1,mL r2 m⟩,r3⟩)
   |(obtain ⟨rfl,rfl⟩:=m;exact r)
   |(obtain ⟨r1,rfl⟩:=r;subst m;simp only [Rep1] at r1;rw [r1];exact aBF)
   |(simp only [eX] at m)
 have mCs: ∀ {xs ys:List AV} {vs:List Value} {S:List Nat},CellsRep w h u ν xs vs S→All2 (kS σ n) xs ys→CellsRep w (oJ hl) (yX n) ν' ys vs S:=by
  intro xs;induction xs with
  |nil=>intro ys vs S r m;simp only [All2] at m;subst m;exact r
  |cons x xs ih=>
   rintro ys vs S ⟨v,r,S1,S2,rfl,rfl,h1,h2⟩ ⟨y,q,rfl,k1,k2⟩;exact ⟨v,r,S1,S2,rfl,rfl,mC h1 k1,ih h2 k2⟩
 have mSelf: ∀ {xs:List AV} {vs:List Value} {S:List Nat},CellsRep w h u ν xs vs S→(∀ c∈xs,rP c=true)→CellsRep w (oJ hl) (yX n) ν' xs vs S:=by
  intro xs vs S r hp;refine mCs r ?_;clear r;induction xs with
  |nil=>rfl
  |cons x xs ih=>
   refine ⟨x,xs,rfl,?_,ih (λc hc=>hp c (by simp [hc]))⟩;have:=hp x (by simp);cases x <;> simp only [rP,jC] at this <;> simp [kS,eX]
 have mFlat: ∀ {es fs:List (List AV)} {R:AV→AV→Prop},All2 (All2 R) es fs→All2 R es.flatten fs.flatten:=by
  intro es;induction es with
  |nil=>intro fs R h;simp only [All2] at h;subst h;rfl
  |cons c es ih=>
   rintro fs R ⟨d,fs',rfl,h1,h2⟩;rw [List.flatten_cons,List.flatten_cons];exact h1.append (ih h2)
 have mlens: ∀ {es fs:List (List AV)} {k:Nat},All2 (All2 (kS σ n)) es fs→(∀ cs∈es,cs.length=k)→ ∀ cs∈fs,cs.length=k:=by
  intro es;induction es with
  |nil=>intro fs k h _ cs hcs;simp only [All2] at h;subst h;cases hcs
  |cons c es ih=>
   rintro fs k ⟨d,fs',rfl,h1,h2⟩ hk cs hcs;rcases eY.1 hcs with rfl|h
   ·rw [h1.len];exact hk c (by simp)
   ·exact ih h2 (λx hx=>hk x (by simp [hx])) cs h
 subst hν';refine ⟨hfree,?_,?_,λb y hb=>⟨λb0 e=>?_,(hlive b y hb).2⟩⟩
 ·intro x y v h4 h2
  cases x <;> cases y <;> simp only [qZ] at h2 <;> simp only [RepA,RepB] at h4 ⊢ <;> first
   |exact m1 h4 h2
   |(obtain ⟨vs,e1,e2⟩:=h4;exact ⟨vs,e1,mL e2 h2⟩)
   |(obtain ⟨vs,e1,e2⟩:=h4;obtain ⟨rfl,h2⟩:=h2;exact ⟨vs,e1,mL e2 h2⟩)
   |trivial
   |(simp only [eX] at h2)
 ·intro M φ hφ;refine ⟨?_,?_⟩
  ·intro b y hb;obtain ⟨h1,h2⟩:=hlive b y hb;refine ⟨h2,?_⟩;cases hσ:σ b with
   |none=>
    rw [hσ] at h1;simp only;exact ⟨⟨by rw [h1];simp,.inl ⟨by simp only [hνb,hσ],h1,rfl⟩⟩,by simp,by simp⟩
   |some b0=>
    rw [hσ] at h1;simp only;obtain ⟨x,h3,h4⟩:=h1;obtain ⟨g1,⟨g2,g3⟩,g4,g5⟩:=hφ.blk b0 x h3;obtain ⟨k1,k2⟩:=hlen h4;refine ⟨⟨?_,?_⟩,g4,g5⟩
    ·rcases h4.2 with ⟨e1,_⟩|e1
     ·rw [←e1,←k1];exact g2
     ·rw [←k1];exact mlens e1 g2
    ·rcases g3 with ⟨q1,q2,q3⟩|⟨β,c,arr,ty,T,vs,q1,q2,q3,q4,q5,q6,q7,q8⟩
     ·exact .inl ⟨by simp only [hνb,hσ];exact q1,by rw [q2] at k2;exact List.eq_nil_of_length_eq_zero k2.symm,q3⟩
     ·refine .inr ⟨β,c,arr,ty,T,vs,by simp only [hνb,hσ];exact q1,q2,by rw [←k1];exact q3,by rw [←k2];exact q4,q5,q6,by rw [←k1,←k2];exact q7,?_⟩;rcases h4.2 with ⟨e1,e2⟩|e1
      ·rw [e1] at q8;exact mSelf q8 (λc hc=>by obtain ⟨cs,hcs,hc'⟩:=List.mem_flatten.1 hc;exact e2 cs hcs c hc')
      ·exact mCs q8 (mFlat e1)
  ·intro b c z hb hc hne hzb hzc;obtain ⟨y1,hy1⟩:=Option.ne_none_iff_exists'.1 hb;obtain ⟨y2,hy2⟩:=Option.ne_none_iff_exists'.1 hc;have i1:=(aDR hi (nY hy1) (nY hy2)).2 hne;have l1:=(hlive b y1 hy1).1;have l2:=(hlive c y2 hy2).1;cases h1:σ b with
   |none=>rw [h1] at hzb;cases hzb
   |some b0=>
    cases h2:σ c with
    |none=>rw [h2] at hzc;cases hzc
    |some c0=>
     rw [h1] at hzb l1;rw [h2] at hzc l2;obtain ⟨x1,p1,_⟩:=l1;obtain ⟨x2,p2,_⟩:=l2;exact hφ.apart b0 c0 z (by rw [p1];simp) (by rw [p2];simp) (λe=>i1 b0 h1 (by rw [h2,e])) hzb hzc
 ·have h1:=(hlive b y hb).1;rw [e] at h1;obtain ⟨x,h2,h3⟩:=h1;exact ⟨x,h2,(hlen h3).1,(hlen h3).2⟩
end
noncomputable section
structure HasE (P:Program) (f:FuncId) (ds:List AV) (hl:List (Nat×Blk)) (kp:Nat) (r:AV) (hl':List (Nat×Blk)):Prop where
 enters:Enters P f
 calls: ∀ (B:Nat) (M:Nat→Prop) (w:World) (args:Array Value) (ν:Nu) (φ:Nat→List Nat),(∀ x,M x→B≤x)→B≤w.heap.size→(∀ x,w.heap.size≤x→M x)→(∀ x,M x→ν.ok x)→All2 (RepA w (oJ hl) (yX kp) ν) ds args.toList→HeapOk M w (oJ hl) (yX kp) ν φ→
  Calls P f args w λe w'=> ∃ v u' ν' φ',e= .returned v∧Below B w w'∧Ext w (oJ hl) (yX kp) ν w' (oJ hl') u' ν'∧HeapOk M w' (oJ hl') u' ν' φ'∧RepA w' (oJ hl') u' ν' r v
def aHI:AV→Bool
 | .tuple _=>false
 |_=>true
def aNi (vs:List AV) (r:AV):Prop:=(vs=[r])∨(vs.length≠1∧vs.all aHI=true∧r= .tuple vs)
def aLa (h:Hp):List (Nat×Blk)→Prop
 | []=>True
 |(b,y)::r=>h b=some y∧aLa h r
theorem aFI {h:Hp} : ∀ {l:List (Nat×Blk)},aLa h l→ ∀ {b:Nat} {y:Blk},(b,y)∈l→h b=some y
 |(c,z)::r,⟨h1,h2⟩,b,y,hm=>by
  rcases eY.1 hm with e|hm'
  ·obtain ⟨rfl,rfl⟩:=Prod.mk.inj e;exact h1
  ·exact aFI h2 hm'
def aOp (T:List (Nat×Ty)) (rvs:List ResultVar) (r:AV) (hl':List (Nat×Blk)) (e:Exit) (t:AState):Prop:=aDV e=true∧(∃ vs,uK T t rvs=some vs∧aNi vs r)∧aLa t.heap hl'
theorem Ext.shrink {w w':World} {h h' g:Hp} {u u':Us} {ν ν':Nu} (e:Ext w h u ν w' h' u' ν') (hg: ∀ b blk,g b=some blk→h' b=some blk):Ext w h u ν w' g u' ν':=
 ⟨e.used,λb blk hb hgb=>e.old b blk hb (hg b blk hgb),λx hx hf=>⟨(e.free x hx hf).1,λb blk β c hb hν=>(e.free x hx hf).2 b blk β c (hg b blk hb) hν⟩,e.okE⟩
theorem HeapOk.shrink {M M':Nat→Prop} {w:World} {h g:Hp} {u:Us} {ν:Nu} {φ:Nat→List Nat} (hh:HeapOk M w h u ν φ) (hg: ∀ b blk,g b=some blk→h b=some blk) (hM: ∀ b x,g b≠none→x∈φ b→M x→M' x):HeapOk M' w g u ν φ where
 blk:=λb blk hb=>by
  obtain ⟨g1,g2,g3,g4⟩:=hh.blk b blk (hg b blk hb);exact ⟨g1,g2.ext ((Ext.refl w h u ν).shrink hg) rfl (λ_ _=>rfl),g3,λx hx=>hM b x (by rw [hb];simp) hx (g4 x hx)⟩
 apart:=λb c x hb hc hne hxb hxc=>by
  obtain ⟨y1,h1⟩:=Option.ne_none_iff_exists'.1 hb;obtain ⟨y2,h2⟩:=Option.ne_none_iff_exists'.1 hc;exact hh.apart b c x (by rw [hg b y1 h1];simp) (by rw [hg c y2 h2];simp) hne hxb hxc
theorem aHJ: ∀ {l:List AV} {t:Nat},aDW l t=l[t]?
 | [],_=>by simp [aDW]
 |_::_,0=>by simp [aDW]
 |_::r,t+1=>by simpa [aDW] using aHJ (l:=r) (t:=t)
theorem aNj {w:World} {h:Hp} {u:Us} {ν:Nu} {x:AV} {v:Value} (r:RepA w h u ν x v) (hx:aHI x=true):RepB w h u ν x v:=by
 cases x <;> first|exact r|cases hx
theorem fU {P:Program} {T:List (Nat×Ty)} (hT:TyOk P T) {f:FuncId} {fn:Func} {c:Code} {nt kp:Nat} {ds:List AV} {hl hl':List (Nat×Blk)} {r:AV} {rvs:List ResultVar} {ns:List Nat} (hf:P.funcs[f]? =some fn) (hb:fn.body=some c) (hname:(fn.name== "runtime.NumGoroutine")=false) (hnt:fn.ntmps=nt) (hres:fn.results.toList=rvs)
  (hlen:Nat.ble ds.length nt=true) (h:AC P nt c ⟨aDW ds,oJ hl,yX kp,ns,⟨kp,false,none,true⟩⟩ (λe t=> ∃ t',Ent t t'∧aOp T rvs r hl' e t')):HasE P f ds hl kp r hl':=by
 refine ⟨Enters.mk hf (by rw [hb];rfl) hname,λB M w args ν φ hMB hB hM hMo hargs hheap=>?_⟩;refine (callsIn_wide (n:=0)).1 (callsIn_of_wp_marks (F:=fw none) hf hb trivial ?_);have hlen':=Nat.le_of_ble_eq_true hlen;have hal:args.size=ds.length:=by have:=hargs.len;simpa using this
 let C:Ctx:=⟨B,w,nt,M,hMB,⟨kp,false,none,true⟩,w,oJ hl,ν,yV (oJ hl) ν,(λh=>by cases h),(λ_ h=>by cases h),none,λ_=>rfl⟩
 have hsim:Sim C ⟨aDW ds,oJ hl,yX kp,ns,⟨kp,false,none,true⟩⟩ ν ⟨args++Array.replicate (fn.ntmps - args.size) undef,[]⟩ w:=by
  refine ⟨Below.refl _ _,hB,hM,aFp,by show (args++Array.replicate (fn.ntmps - args.size) undef).size=nt;simp [hnt];omega,?_,⟨φ,hheap⟩,rfl,ExtF.refl λ_ _ h=>h,bY _,hMo,λ_ h=>by cases h⟩;intro t x hx;have hx':ds[t]? =some x:=by rw [←aHJ];exact hx
  obtain ⟨v,h1,h2⟩:=hargs.get hx';refine ⟨v,?_,h2⟩
  have hlt:t<args.size:=by
   rcases fA t args.size with h'|h'
   ·exact h'
   ·rw [lJ (by simpa using h')] at h1;cases h1
  show (args++Array.replicate (fn.ntmps - args.size) undef)[t]? =some v;rw [Array.getElem?_append_left hlt];simpa using h1
 refine wpIn_mono (h.out C rfl _ _ w hsim 0) λe a' w0 ⟨s1,ν1,⟨s',hent,hq⟩,hs1⟩=>?_;obtain ⟨ν',hs0⟩:=hent C ν1 a' w0 hs1;obtain ⟨Ds,d1,d2,d3⟩:=hs0.defers;obtain ⟨w',hs',hleave⟩:=hs0.leave (P:=P) (n:=0) d1 d2 d3;obtain ⟨he,⟨avs,hv,hone⟩,hsame⟩:=hq;have hsub: ∀ b blk,oJ hl' b=some blk→s'.heap b=some blk:=λb blk hb=>aFI hsame (nY hb);obtain ⟨us,h1,h2⟩:=yY hT hs' hv;obtain ⟨φ',hh⟩:=hs'.heap
 have hrun:(results fn a'.tmps).run P w'= .ok (if hh:us.toArray.size=1 then us.toArray[0] else .tuple us.toArray) w':=by
  unfold results;rw [Sem.run_bind,Array.mapM_eq_mapM_toList,Sem.run_map,hres];have h1':=h1;generalize hq:(List.mapM _ rvs:Sem (List Value))=m;rw [show Sem.run P m w'= .ok us w' by rw [←hq];exact h1'];simp
 have shr:=(Ext.refl w' s'.heap s'.used ν').shrink hsub
 have hrep:RepA w' (oJ hl') s'.used ν' r (if hh:us.toArray.size=1 then us.toArray[0] else .tuple us.toArray):=by
  rcases hone with rfl|⟨g1,g2,rfl⟩
  ·obtain ⟨u,q,rfl,k1,k2⟩:=h2;simp only [All2] at k2;subst k2;exact k1.ext shr
  ·have hul:us.length=avs.length:=h2.len;rw [dif_neg (by simp;rw [hul];exact g1)];refine ⟨us,rfl,h2.congrM λx hx v hr=>?_⟩;exact aNj (hr.ext shr) (List.all_eq_true.1 g2 x hx)
 have hend:=hleave fn (λe w'=> ∃ v u' ν' φ',e= .returned v∧Below B w w'∧Ext w (oJ hl) (yX kp) ν w' (oJ hl') u' ν'∧HeapOk M w' (oJ hl') u' ν' φ'∧RepA w' (oJ hl') u' ν' r v)
  ⟨_,hrun,_,s'.used,ν',φ',rfl,hs'.below,hs'.ext.ext.shrink hsub,hh.shrink hsub (λ_ _ _ _ h=>h),hrep⟩
 cases e <;> simp only [aDV,jC] at he <;> exact hend
def aCc (rl:List Nat):AV→Bool
 | .sc _=>true
 | .nil _=>true
 | .own b _ _=>rl.contains b
 | .ptr b _ _=>rl.contains b
 |_=>false
def aFJ (rl:List Nat):AV→Bool
 | .abs _ _=>true
 | .fn _ cs=>cs.all (aCc rl)
 |x=>aCc rl x
def aHK (rl:List Nat):AV→Bool
 | .agg cs=>cs.all (aCc rl)
 |x=>aCc rl x
def aLb (rl:List Nat):AV→Bool
 | .tuple cs=>cs.all (aHK rl)
 |x=>aHK rl x
def aJN (rl:List Nat):List (Nat×Blk)→Prop
 | []=>True
 |(b,y)::r=>rl.contains b=true∧(∀ cs∈y.es,∀ c∈cs,aFJ rl c=true)∧aJN rl r
theorem aFK {rl:List Nat} : ∀ {l:List (Nat×Blk)},aJN rl l→ ∀ {b:Nat} {y:Blk},(b,y)∈l→rl.contains b=true∧ ∀ cs∈y.es,∀ c∈cs,aFJ rl c=true
 |(c,z)::r,⟨h1,h2,h3⟩,b,y,hm=>by
  rcases eY.1 hm with e|hm'
  ·obtain ⟨rfl,rfl⟩:=Prod.mk.inj e;exact ⟨h1,h2⟩
  ·exact aFK h3 hm'
theorem EOk.tame {α:Type} {k:Nat} {e:α→List AV} (E:EOk k e) (rl:List Nat) (l:List α): ∀ cs∈l.map (ow e),∀ c∈cs,aFJ rl c=true:=by
 intro cs hcs c hc;obtain ⟨x,_,rfl⟩:=List.mem_map.1 hcs;obtain ⟨d,hd,rfl⟩:=List.mem_map.1 hc;have:=E.mem x d hd;cases d <;> simp only [oM,jC] at this <;> rfl
def xT (σ:Nat→Option Nat) (touch:List Nat):List (Nat×Blk)→Bool
 | []=>true
 |(b,_)::r=>(match σ b with|some x=>touch.contains x|none=>true)&&xT σ touch r
theorem xU {σ:Nat→Option Nat} {n:Nat} {touch:List Nat} {h h':Hp} (hc: ∀ b∈touch,h' b=h b): ∀ {l:List (Nat×Blk)},xT σ touch l=true→pZ σ n h l→pZ σ n h' l
 | [],_,_=>trivial
 |(b,y)::r,ht,⟨h1,h2,h3⟩=>by
  simp only [xT,cY] at ht;refine ⟨?_,h2,xU hc ht.2 h3⟩;cases hσ:σ b with
  |none=>rw [hσ] at h1;exact h1
  |some x=>
   have h4:=ht.1;rw [hσ] at h1 h4;simp only at h1 h4 ⊢;obtain ⟨z,e1,e2⟩:=h1;exact ⟨z,by rw [hc x (by simpa using h4)];exact e1,e2⟩
def aDg (σ σ':Nat→Option Nat) (kp:Nat) (news:List Nat):List (Nat×Blk)→Bool
 | []=>true
 |(b,_)::r=>(match σ' b with|some i=>news.contains b||(Nat.blt i kp&&(match σ i with|some x=>Nat.beq x b|none=>false))|none=>false)&&aDg σ σ' kp news r
theorem aCH {σ σ':Nat→Option Nat} {kp:Nat} {news:List Nat} : ∀ {l:List (Nat×Blk)},aDg σ σ' kp news l=true→ ∀ {b:Nat} {y:Blk},(b,y)∈l→ ∃ i,σ' b=some i∧(b∈news∨(Nat.blt i kp=true∧σ i=some b))
 |(c,z)::r,h,b,y,hm=>by
  simp only [aDg,cY] at h;rcases eY.1 hm with e|hm'
  ·obtain ⟨rfl,rfl⟩:=Prod.mk.inj e;have h1:=h.1;cases hσ:σ' b with
   |none=>rw [hσ] at h1;cases h1
   |some i=>
    rw [hσ] at h1;simp only [Bool.or_eq_true,cY] at h1;refine ⟨i,rfl,?_⟩;rcases h1 with h1|⟨h1,h2⟩
    ·exact .inl (by simpa using h1)
    ·refine .inr ⟨h1,?_⟩;cases hσ2:σ i with
     |none=>rw [hσ2] at h2;cases h2
     |some x=>rw [hσ2] at h2;rw [Nat.eq_of_beq_eq_true h2]
  ·exact aCH h.2 hm'
def aAp (rl:List Nat) (hl2:List (Nat×Blk)):List (Nat×Option Blk):=rl.map λb=>(b,oJ hl2 b)
theorem aDh {h:Hp} {hl2:List (Nat×Blk)} {b:Nat} : ∀ {rl:List Nat},bU (aAp rl hl2) h b=if b∈rl then oJ hl2 b else h b
 | []=>by simp [aAp,bU]
 |c::rl=>by
  have ih:=aDh (h:=h) (hl2:=hl2) (b:=b) (rl:=rl);simp only [aAp,List.map_cons,bU] at ih ⊢;by_cases e:b=c
  ·subst e;simp
  ·rw [cN e,aV,ih];simp [e]
end
noncomputable section
section
variable {w:World} {h1 h2:Hp} {u1 u2:Us} {ν1 ν2:Nu} {rl:List Nat} (H: ∀ b∈rl,h2 b=h1 b) (N: ∀ b∈rl,ν2 b=ν1 b) (U: ∀ b∈rl,u2 b=true)
include H N U
theorem aCI {x:AV} {v:Value} (r:Rep1 w h1 u1 ν1 x v) (t:aCc rl x=true):Rep1 w h2 u2 ν2 x v:=by
 cases x <;> simp only [aCc,jC] at t <;> simp only [Rep1] at r ⊢
 ·exact r
 ·exact r
 ·rename_i b i n;have hb:b∈rl:=by simpa using t
  refine ⟨U b hb,λblk hbl=>?_⟩;rw [H b hb] at hbl;rw [N b hb];exact r.2 blk hbl
 ·rename_i b i n;have hb:b∈rl:=by simpa using t
  refine ⟨U b hb,λblk hbl=>?_⟩;rw [H b hb] at hbl;rw [N b hb];exact r.2 blk hbl
theorem aAq: ∀ {xs:List AV} {vs:List Value},All2 (Rep1 w h1 u1 ν1) xs vs→xs.all (aCc rl)=true→All2 (Rep1 w h2 u2 ν2) xs vs
 | [],vs,r,_=>r
 |x::xs,vs,⟨v,q,e,h,k⟩,t=>by
  simp only [List.all_cons,cY] at t;exact ⟨v,q,e,aCI H N U h t.1,aAq k t.2⟩
theorem aFL {x:AV} {v:Value} (r:RepB w h1 u1 ν1 x v) (t:aHK rl x=true):RepB w h2 u2 ν2 x v:=by
 cases x <;> simp only [RepB] at r ⊢ <;> first
  |exact aCI H N U r t
  |(obtain ⟨vs,e,r⟩:=r;exact ⟨vs,e,aAq H N U r t⟩)
  |(simp only [aHK,aCc,jC] at t)
theorem aKD {x:AV} {v:Value} (r:RepA w h1 u1 ν1 x v) (t:aLb rl x=true):RepA w h2 u2 ν2 x v:=by
 by_cases ht: ∃ cs,x= .tuple cs
 ·obtain ⟨cs,rfl⟩:=ht;obtain ⟨vs,e,r⟩:=r;refine ⟨vs,e,r.congrM λy hy d hd=>aFL H N U hd ?_⟩;exact List.all_eq_true.1 t y hy
 ·have r':RepB w h1 u1 ν1 x v:=by cases x <;> first|exact r|exact absurd ⟨_,rfl⟩ ht
  have t':aHK rl x=true:=by cases x <;> first|exact t|exact absurd ⟨_,rfl⟩ ht
  have:=aFL H N U r' t';cases x <;> first|exact this|exact absurd ⟨_,rfl⟩ ht
theorem aKE {x:AV} {v:Value} {S:List Nat} (r:CellRep w h1 u1 ν1 x v S) (t:aFJ rl x=true):CellRep w h2 u2 ν2 x v S:=by
 cases x <;> simp only [CellRep] at r ⊢ <;> first
  |exact ⟨aCI H N U r.1 t,r.2⟩
  |(obtain ⟨⟨vs,e,q⟩,q2⟩:=r;exact ⟨⟨vs,e,aAq H N U q t⟩,q2⟩)
  |exact r
theorem aDi: ∀ {xs:List AV} {vs:List Value} {S:List Nat},CellsRep w h1 u1 ν1 xs vs S→(∀ c∈xs,aFJ rl c=true)→CellsRep w h2 u2 ν2 xs vs S
 | [],_,_,r,_=>r
 |x::xs,vs,S,⟨v,q,S1,S2,e1,e2,h,k⟩,t=>⟨v,q,S1,S2,e1,e2,aKE H N U h (t x (by simp)),aDi k (λc hc=>t c (by simp [hc]))⟩
theorem aHL {b:Nat} {blk:Blk} {S:List Nat} (hb:b∈rl) (r:BlkOk w h1 u1 ν1 b blk S) (t: ∀ cs∈blk.es,∀ c∈cs,aFJ rl c=true):BlkOk w h2 u2 ν2 b blk S:=by
 refine ⟨r.1,?_⟩;rcases r.2 with ⟨q1,q2,q3⟩|⟨β,c,arr,ty,T,vs,q1,q2,q3,q4,q5,q6,q7,q8⟩
 ·exact .inl ⟨(N b hb).trans q1,q2,q3⟩
 ·refine .inr ⟨β,c,arr,ty,T,vs,(N b hb).trans q1,q2,q3,q4,q5,q6,q7,aDi H N U q8 λc hc=>?_⟩;obtain ⟨cs,hcs,hc⟩:=List.mem_flatten.1 hc;exact t cs hcs c hc
end
theorem aAB {α β γ:Type} {R:α→γ→Prop} {Mt:α→β→Prop} {R':β→γ→Prop} (hc: ∀ x y v,R x v→Mt x y→R' y v): ∀ {xs:List α} {ys:List β} {vs:List γ},All2 R xs vs→All2 Mt xs ys→All2 R' ys vs
 | [],ys,vs,h,m=>by simp only [All2] at h m;subst h m;rfl
 |x::xs,ys,vs,⟨v,q,e,h,k⟩,⟨y,p,e2,m,m2⟩=>by
  subst e e2;exact ⟨v,q,rfl,hc x y v h m,aAB hc k m2⟩
theorem xG {w:World} {h:Hp} {u:Us} {ν:Nu} {b:Nat} {blk:Blk} {S:List Nat} (r:BlkOk w h u ν b blk S) {β c:Nat} (hν:ν b=some (β,c)):β∈S:=by
 rcases r.2 with ⟨q1,_,_⟩|⟨β',c',arr,ty,T,vs,q1,q2,q3,q4,q5,q6,q7,q8⟩
 ·rw [hν] at q1;cases q1
 ·rw [hν] at q1;cases q1;rw [q6];simp
section
variable {P:Program} {dst:Option Tmp} {ty:TypeId} {pos:String} {aft:Array Edge} {g:Option (Nat×Bool)} {ins:Operand→Option AV} {hp:Hp} {κ:Kp}
theorem aKF {fo:Operand} {xs:Array Operand} {ats:Array TypeId} {f:FuncId} {caps avs av2 ds:List AV} {hl hl' hl2:List (Nat×Blk)} {kp n':Nat} {r r2:AV} {σ σ':Nat→Option Nat} {touch news:List Nat} {ed:List (Nat×Option Blk)}
  (hc:HasE P f ds hl kp r hl') (hf:ins fo=some (.fn f caps)) (hx:evs ins xs.toList=some avs) (href: ∀ (C:Ctx) (s:AState) (ν:Nu) (a:Act) (w:World) (vs:List Value),s.kp=κ→Sim C s ν a w→All2 (RepA w s.heap s.used ν) (avs++caps) vs→All2 (RepA w s.heap s.used ν) av2 vs) (hav:All2 (qZ σ kp) av2 ds) (hh:pZ σ kp hp hl) (hi:aAf σ hl=true) (hit:xT σ touch hl=true) (hlive:(touch.all λb=>(hp b).isSome)=true)
  (hh':pZ σ' n' (oJ hl') hl2) (hi':aAf σ' hl2=true) (hr:qZ σ' n' r r2) (hbk:aDg σ σ' kp news hl2=true) (htl:aJN (touch++news) hl2) (htr:aLb (touch++news) r2=true) (he:aAp (touch++news) hl2=ed):
  AEff P ⟨dst,.call ⟨.value fo,xs,ats⟩,ty,pos,aft,g⟩ ins hp κ ⟨r2,touch,ed,news⟩:=by
 refine ⟨λC s ν a w Q K {hκ} hi0 ht hnw hd hs hK=>?_⟩;have hfn:=hs.ev ((hi0 fo (by simp [Op.operands,Call.operands])).trans hf);simp only [RepA,RepB] at hfn;obtain ⟨cv,hfv,hcap⟩:=hfn;have hval:=aCy hs (xs:=xs.toList) (λy hy=>hi0 y (by simp [Op.operands,Call.operands];exact .inr (Array.mem_toList_iff.1 hy))) hx;obtain ⟨φ,hφ⟩:=hs.heap;let h3:Hp:=λb=>if b∈touch then s.heap b else none
 have sub: ∀ b blk,h3 b=some blk→s.heap b=some blk∧b∈touch:=by
  intro b blk hb;by_cases e:b∈touch
  ·simp only [h3,bF e] at hb;exact ⟨hb,e⟩
  ·simp only [h3,bJ e] at hb;cases hb
 let M2:Nat→Prop:=λx=>(∃ b,b∈touch∧s.heap b≠none∧x∈φ b)∨w.heap.size≤x
 have hM2: ∀ x,M2 x→C.M x:=by
  rintro x (⟨b,_,hb,hx⟩|hx)
  ·obtain ⟨blk,hb⟩:=Option.ne_none_iff_exists'.1 hb;exact (hφ.blk b blk hb).2.2.2 x hx
  ·exact hs.fresh x hx
 have hk3:HeapOk M2 w h3 s.used ν φ:=hφ.shrink (λb blk hb=>(sub b blk hb).1) (λb x hb hx _=>by
  obtain ⟨blk,hb⟩:=Option.ne_none_iff_exists'.1 hb;obtain ⟨e1,e2⟩:=sub b blk hb
  exact .inl ⟨b,e2,by rw [e1];simp,hx⟩)
 have hent:pZ σ kp h3 hl:=xU (h:=hp) (touch:=touch) (λb hb=>by simp only [h3,bF hb];exact ht b hb) hit hh;have cv1:=aDB (w:=w) (u:=s.used) (ν:=ν) hent hi;have hk4:=cv1.heap hk3;have shr3:Ext w s.heap s.used ν w h3 s.used ν:=(Ext.refl _ _ _ _).shrink (λb blk hb=>(sub b blk hb).1)
 have hargs:All2 (RepA w (oJ hl) (yX kp) (oH σ ν)) ds (xs.toList.map a.eval++cv):=
  aAB (R:=RepA w s.heap s.used ν) (Mt:=qZ σ kp) (R':=RepA w (oJ hl) (yX kp) (oH σ ν)) (λx y v hx hm=>cv1.rep (RepA.ext shr3 hx) hm) (href C s ν a w _ hκ hs (hval.append (hcap.mono λx v h=>Rep1.repA h))) hav
 have hcall:=hc.calls C.B M2 w ((xs.map a.eval)++cv.toArray) (oH σ ν) _ (λx hx=>C.low x (hM2 x hx)) hs.base (λx hx=> .inr hx) (λx hx=>hs.okM x (hM2 x hx)) (by simpa using hargs) hk4;unfold Oper.wp
 have hex:(execOp a.eval ⟨dst,.call ⟨.value fo,xs,ats⟩,ty,pos,aft,g⟩).run P w= .ok (.enter f ((xs.map a.eval)++cv.toArray)) w:=by
  have:execOp a.eval ⟨dst,.call ⟨.value fo,xs,ats⟩,ty,pos,aft,g⟩=callFunc f ((xs.map a.eval)++cv.toArray):=by
   simp [execOp,resolve,hfv,Deferred.ofValue,invoke]
  rw [this];exact hc.enters _ _
 rw [hex];simp only [Oper.upon];refine hcall.mono λe w' ⟨v,u1,ν1,φ1,hev,hbel,hext,hh1,hrep⟩=>?_;subst hev;simp only;have cv2:=aDB (w:=w') (u:=u1) (ν:=ν1) hh' hi';have hh2:=cv2.heap hh1;generalize hrl:touch++news=rl at*;let ν':Nu:=⟨λb=>if b∈rl then oH σ' ν1 b else ν b,ν.ok⟩;have hν1: ∀ b,b∈rl→ν' b=oH σ' ν1 b:=λb hb=>bF hb;have hν2: ∀ b,b ∉ rl→ν' b=ν b:=λb hb=>bJ hb;have hheq: ∀ b,bU ed s.heap b=if b∈rl then oJ hl2 b else s.heap b:=λb=>by rw [←he];exact aDh
 have hhe1: ∀ b,b∈rl→bU ed s.heap b=oJ hl2 b:=λb hb=>by rw [hheq,bF hb]
 have hhe2: ∀ b,b ∉ rl→bU ed s.heap b=s.heap b:=λb hb=>by rw [hheq,bJ hb]
 have hused: ∀ b,b∈rl→jD news s.used b=true:=by
  intro b hb;rw [←hrl] at hb;rw [mQ];rcases eH.1 hb with h|h
  ·have h5:=List.all_eq_true.1 hlive b h;rw [←ht b h] at h5;cases hq:s.heap b with
   |none=>rw [hq] at h5;cases h5
   |some blk=>rw [(hφ.blk b blk hq).1,Bool.or_true]
  ·have:news.contains b=true:=by simpa using h
   rw [this,Bool.true_or]
 have hfree3: ∀ x,yV s.heap ν x→yV (oJ hl) (oH σ ν) x:=λx hf=>cv1.free x λb blk β c hb hν=>hf b blk β c (sub b blk hb).1 hν
 have extc:Ext w s.heap s.used ν w' (bU ed s.heap) (jD news s.used) ν':=by
  refine ⟨λb hb=>by rw [mQ,hb,Bool.or_true],λb blk' hu hb=>?_,λx hx hfr=>?_,rfl⟩
  ·by_cases e:b∈rl
   ·rw [hhe1 b e] at hb;obtain ⟨i,e1,e2⟩:=aCH hbk (nY hb);obtain ⟨x,f1,f2,f3⟩:=(cv2.look b blk' hb).1 i e1;rcases e2 with e2|⟨e2,e3⟩
    ·rw [hnw b e2] at hu;cases hu
    ·obtain ⟨blk0,g1,g2,g3,g4⟩:=hext.old i x e2 f1;obtain ⟨z,k1,k2,k3⟩:=(cv1.look i blk0 g1).1 b e3;refine ⟨z,(sub b z k1).1,k2.trans (g2.trans f2),k3.trans (g3.trans f3),?_⟩;rw [hν1 b e];simp only [oH,e1];rw [g4];simp only [oH,e3]
   ·rw [hhe2 b e] at hb;exact ⟨blk',hb,rfl,rfl,hν2 b e⟩
  ·obtain ⟨p1,p2⟩:=hext.free x hx (hfree3 x hfr);refine ⟨p1,λb blk β c hb hν=>?_⟩;by_cases e:b∈rl
   ·rw [hhe1 b e] at hb;rw [hν1 b e] at hν;exact cv2.free x p2 b blk β c hb hν
   ·rw [hhe2 b e] at hb;rw [hν2 b e] at hν;exact hfr b blk β c hb hν
 have hout: ∀ b blk x,s.heap b=some blk→b ∉ rl→x∈φ b→w'.heap[x]? =w.heap[x]? :=by
  intro b blk x hb hbr hx;refine (hext.free x ((hφ.blk b blk hb).2.1.lt x hx) (cv1.free x λb2 blk2 β c hb2 hν2=>?_)).1;rintro rfl;obtain ⟨e1,e2⟩:=sub b2 blk2 hb2;have hne:b2≠b:=by rintro rfl;exact hbr (by rw [←hrl];exact List.mem_append_left _ e2)
  exact hφ.apart b2 b β (by rw [e1];simp) (by rw [hb];simp) hne (xG (hφ.blk b2 blk2 e1).2.1 hν2) hx
 have hcross: ∀ b c x,oJ hl2 b≠none→s.heap c≠none→c ∉ rl→x∈(match σ' b with|some b0=>φ1 b0|none=>[])→x ∉ φ c:=by
  intro b c x hb hc' hcr hx hx2;obtain ⟨y1,hy1⟩:=Option.ne_none_iff_exists'.1 hb;obtain ⟨y2,hy2⟩:=Option.ne_none_iff_exists'.1 hc';rcases (hh2.blk b y1 hy1).2.2.2 x hx with ⟨b2,e1,e2,e3⟩|e1
  ·have hne:b2≠c:=by rintro rfl;exact hcr (by rw [←hrl];exact List.mem_append_left _ e1)
   exact hφ.apart b2 c x e2 hc' hne e3 hx2
  ·have:=(hφ.blk c y2 hy2).2.1.lt x hx2;omega
 refine hK ν' _ _ (hs.step hd (s':=s.app dst ⟨r2,touch,ed,news⟩) extc hbel ⟨λb=>if b∈rl then (match σ' b with|some b0=>φ1 b0|none=>[]) else φ b,?_,?_⟩ rfl ?_)
 ·intro b blk' hb;replace hb:bU ed s.heap b=some blk':=hb;by_cases e:b∈rl
  ·rw [hhe1 b e] at hb;simp only [bF e];obtain ⟨_,g2,g3,g4⟩:=hh2.blk b blk' hb;exact ⟨hused b e,aHL (h1:=oJ hl2) (u1:=yX n') (ν1:=oH σ' ν1) hhe1 hν1 hused e g2 (aFK htl (nY hb)).2,g3,λx hx=>hM2 x (g4 x hx)⟩
  ·rw [hhe2 b e] at hb;simp only [bJ e];obtain ⟨g1,g2,g3,g4⟩:=hφ.blk b blk' hb;exact ⟨extc.used b g1,g2.ext extc (hν2 b e) (λx hx=>hout b blk' x hb e hx),g3,g4⟩
 ·intro b c x hb hc' hne hxb hxc;replace hb:bU ed s.heap b≠none:=hb;replace hc':bU ed s.heap c≠none:=hc';by_cases e1:b∈rl <;> by_cases e2:c∈rl
  ·simp only [bF e1] at hxb;simp only [bF e2] at hxc;rw [hhe1 b e1] at hb;rw [hhe1 c e2] at hc';exact hh2.apart b c x hb hc' hne hxb hxc
  ·simp only [bF e1] at hxb;simp only [bJ e2] at hxc;rw [hhe1 b e1] at hb;rw [hhe2 c e2] at hc';exact hcross b c x hb hc' e2 hxb hxc
  ·simp only [bJ e1] at hxb;simp only [bF e2] at hxc;rw [hhe2 b e1] at hb;rw [hhe1 c e2] at hc';exact hcross c b x hc' hb e1 hxc hxb
  ·simp only [bJ e1] at hxb;simp only [bJ e2] at hxc;rw [hhe2 b e1] at hb;rw [hhe2 c e2] at hc';exact hφ.apart b c x hb hc' hne hxb hxc
 ·exact aKD (h1:=oJ hl2) (u1:=yX n') (ν1:=oH σ' ν1) hhe1 hν1 hused (cv2.rep hrep hr) htr
theorem qD {fo:Operand} {xs:Array Operand} {ats:Array TypeId} {f:FuncId} {caps avs ds:List AV} {hl hl' hl2:List (Nat×Blk)} {kp n':Nat} {r r2:AV} {σ σ':Nat→Option Nat} {touch news:List Nat} {ed:List (Nat×Option Blk)}
  (hc:HasE P f ds hl kp r hl') (hf:ins fo=some (.fn f caps)) (hx:evs ins xs.toList=some avs) (hav:All2 (qZ σ kp) (avs++caps) ds) (hh:pZ σ kp hp hl) (hi:aAf σ hl=true) (hit:xT σ touch hl=true) (hlive:(touch.all λb=>(hp b).isSome)=true)
  (hh':pZ σ' n' (oJ hl') hl2) (hi':aAf σ' hl2=true) (hr:qZ σ' n' r r2) (hbk:aDg σ σ' kp news hl2=true) (htl:aJN (touch++news) hl2) (htr:aLb (touch++news) r2=true) (he:aAp (touch++news) hl2=ed):
  AEff P ⟨dst,.call ⟨.value fo,xs,ats⟩,ty,pos,aft,g⟩ ins hp κ ⟨r2,touch,ed,news⟩:=
 aKF hc hf hx (λ_ _ _ _ _ _ _ _ h=>h) hav hh hi hit hlive hh' hi' hr hbk htl htr he
end
end
noncomputable section
section
variable {P:Program} {T:List (Nat×Ty)} (hT:TyOk P T) {dst:Option Tmp} {ty:TypeId} {pos:String} {aft:Array Edge} {g:Option (Nat×Bool)} {s:AState}
def bnd (s:AState) (d:Nat):Option Operand→Option Int
 |none=>some d
 |some x=>match s.ev x with|some (.sc (.int _ n))=>some n|_=>none
theorem yH {lo hi:Option Value} {len cap:Nat} {l h:Int} (w:World) (hl:(lo=none∧l=0)∨ ∃ k,lo=some (.int k l)) (hh:(hi=none∧h=len)∨ ∃ k,hi=some (.int k h)) (h0:0≤l) (h1:l≤h) (h2:h≤len) (h3:len≤cap):
  (Instr.sliceBounds true len cap lo hi none).run P w= .ok (l.toNat,h.toNat,cap) w:=by
 have eh:(h.toNat:Int)=h:=by omega
 have hhc:0≤h∧h≤(cap:Int):=by omega
 rcases hl with ⟨rfl,rfl⟩|⟨k,rfl⟩ <;> rcases hh with ⟨rfl,rfl⟩|⟨k',rfl⟩ <;> simp [Instr.sliceBounds,Instr.sliceBound,asIntOf,h0,hhc,eh,Int.not_lt.2 h1,h1]
include hT
theorem aCd {x:Operand} {lo hi:Option Operand} {t e:Nat} {y ye:Ty} {b i n:Nat} {blk:Blk} {l h:Int} (q:(decide (0≤l)&&(decide (l≤h)&&decide (h≤(n:Int))))=true) (hx:s.ev x=some (.own b i n)) (hb:s.heap b=some blk) (hlo:bnd s 0 lo=some l) (hhi:bnd s n hi=some h) (hy:dZ T t=some y) (hd:y.desc= .slice e) (hye:dZ T e=some ye) (hk:ye.size=blk.k):
  AEff P ⟨dst,.slice t x lo hi none,ty,pos,aft,g⟩ s.ev s.heap s.kp ⟨.own b (i+l.toNat) (h.toNat - l.toNat),[b],[],[]⟩:=by
 simp only [cY,iT] at q;refine AEff.pure λC s' ν a w hi' ht hs=>?_;have hb':s'.heap b=some blk:=(ht b (by simp)).trans hb;have h1:=hs.ev ((hi' x (by simp [Op.operands])).trans hx);simp only [RepA,RepB,Rep1] at h1;obtain ⟨h3,h4,h5⟩:=h1.2 blk hb';obtain ⟨φ,hh⟩:=hs.heap;obtain ⟨_,⟨_,hx2⟩,_,_⟩:=hh.blk b blk hb';obtain ⟨i1,z1,d1,y1⟩:=hT.is hy;obtain ⟨i2,z2,d2,y2⟩:=hT.is hye
 have hlo':((lo.map a.eval)=none∧l=0)∨ ∃ k,lo.map a.eval=some (.int k l):=by
  cases lo with
  |none=>simp only [bnd,Option.some.injEq] at hlo;exact .inl ⟨rfl,by omega⟩
  |some z=>
   simp only [bnd] at hlo;split at hlo
   ·rename_i kk m hz;cases hlo;have:=hs.ev ((hi' z (by simp [Op.operands])).trans hz);simp only [RepA,RepB,Rep1] at this;exact .inr ⟨kk,by simp [this.1]⟩
   ·cases hlo
 have hhi':((hi.map a.eval)=none∧h=n)∨ ∃ k,hi.map a.eval=some (.int k h):=by
  cases hi with
  |none=>simp only [bnd,Option.some.injEq] at hhi;exact .inl ⟨rfl,by omega⟩
  |some z=>
   simp only [bnd] at hhi;split at hhi
   ·rename_i kk m hz;cases hhi;have:=hs.ev ((hi' z (by simp [Op.operands])).trans hz);simp only [RepA,RepB,Rep1] at this;exact .inr ⟨kk,by simp [this.1]⟩
   ·cases hhi
 rcases hx2 with ⟨q1,q2,_⟩|⟨β,c,arr,ty',T',vs,q1,q2,q3,q4,q5,q6,q7,q8⟩
 ·rw [q2] at h3;have hn:n=0:=by simp at h3;omega
  have hi0:i=0:=by simp at h3;omega
  subst hn hi0;have hl0:l=0:=by omega
  have hh0:h=0:=by omega
  subst hl0 hh0;refine ⟨.slice none 0 0,?_,?_⟩
  ·have hsb:=yH (P:=P) (len:=0) (cap:=0) w hlo' hhi' (by omega) (by omega) (by omega) (by omega);simp only [execOp,Instr.sliceAt,Instr.slice,h4 q1,Sem.run_bind,nV (y1.slice hd),Result.andThen_ok,oI y2.info,Option.map_none];rw [hsb];simp
  ·simp only [RepA,RepB,Rep1];refine ⟨h1.1,λblk2 hb2=>?_⟩;rw [hb'] at hb2;cases hb2;exact ⟨by simp,λ_=>by first|rfl|trivial,λβ c hν=>by rw [q1] at hν;cases hν⟩
 ·obtain ⟨o,ho,ho2⟩:=h5 β c q1;have hsb:=yH (P:=P) (len:=n) (cap:=c - i) w hlo' hhi' q.1 q.2.1 q.2.2 (by omega);refine ⟨.slice (if c - i=l.toNat then some ⟨β,o,none⟩ else some ⟨β,o+l.toNat*ye.size,none⟩) (h.toNat - l.toNat) (c - i - l.toNat),?_,?_⟩
  ·simp only [execOp,Instr.sliceAt,Instr.slice,ho,Sem.run_bind,nV (y1.slice hd),Result.andThen_ok,oI y2.info,y2.size,Option.map_none];rw [hsb];by_cases e:c - i=l.toNat <;> simp [e,Addr.add]
  ·simp only [RepA,RepB,Rep1];refine ⟨h1.1,λblk2 hb2=>?_⟩;rw [hb'] at hb2;cases hb2;refine ⟨by omega,λhν=>(by rw [q1] at hν;cases hν),λβ' c' hν=>?_⟩;rw [q1] at hν;cases hν;by_cases e:c - i=l.toNat
   ·rw [bF e];by_cases hz:i+l.toNat=0
    ·have hi0:i=0:=by omega
     have hl0:l.toNat=0:=by omega
     refine ⟨o,by congr 1;omega,.inl ?_⟩;rcases ho2 with rfl|ho2
     ·rw [hi0,hl0]
     ·omega
    ·exact ⟨o,by congr 1;omega,.inr ⟨by omega,by omega⟩⟩
   ·rw [bJ e];refine ⟨o+l.toNat*ye.size,by congr 1;omega,.inl ?_⟩;rcases ho2 with rfl|ho2
    ·rw [hk,Nat.add_mul]
    ·omega
theorem hY {x ix:Operand} {t et:Nat} {y ye:Ty} {b i n kz:Nat} {es:List (List AV)} {kk:IntKind} {j:Int} (q:(decide (0≤j)&&decide (j<(n:Int)))=true) (hx:s.ev x=some (.own b i n)) (hb:s.heap b=some ⟨kz,es⟩) (hix:s.ev ix=some (.sc (.int kk j))) (hy:dZ T t=some y) (hd:y.desc= .slice et) (hye:dZ T et=some ye) (hk:ye.size=kz):
  AEff P ⟨dst,.indexAddr t x ix,ty,pos,aft,g⟩ s.ev s.heap s.kp ⟨.ptr b (i+j.toNat) 0,[b],[],[]⟩:=by
 simp only [cY,iT] at q;exact aGx hT hy hd hye hx hb hk hix q.1 q.2
omit hT in
theorem aLc {α β:Type} {f:α→β} {l:List α} {i n:Nat} :((l.map f).drop i).take n=((l.drop i).take n).map f:=by rw [List.map_take,List.map_drop]
omit hT in
theorem aMh {α:Type} {k:Nat} {e:α→List AV} {h:Hp} {b i n:Nat} {l:List α} (E:EOk k e) (hb:h b=some ⟨k,l.map (ow e)⟩):view1 h (.own b i n) (.list k (((l.drop i).take n).map e)):=
 ⟨_,hb,rfl,by rw [aLc];exact E.views _⟩
omit hT in
theorem aMi {α:Type} {k:Nat} {e:α→List AV} {h:Hp} {b i n:Nat} {l:List α} (E:EOk k e) (hb:h b=some ⟨k,l.map (ow e)⟩):viewA h (.own b i n) (.list k (((l.drop i).take n).map e)):=aMh E hb
omit hT in
theorem aMj {σ:Nat→Option Nat} {m:Nat} {α:Type} {k:Nat} {e:α→List AV} {c d:List AV} {i:Nat} (E:EOk k e) (h:All2 (kS σ m) c d): ∀ {l:List α} {i:Nat},All2 (All2 (kS σ m)) ((l.map (ow e)).set i c) ((l.map (ow e)).set i d):=by
 have hs: ∀ x,All2 (kS σ m) (ow e x) (ow e x):=by
  intro x
  have:=yZ (R:=kS σ m) (f:=tM) (g:=tM) (cs:=e x) (λc hc=>by
   have:=E.mem x c hc
   cases c <;> simp only [oM,jC] at this <;> simp [tM,kS,eX])
  exact this
 have hl: ∀ l:List α,All2 (All2 (kS σ m)) (l.map (ow e)) (l.map (ow e)):=λl=>xA hs;intro l;induction l with
 |nil=>intro i;rfl
 |cons x l ih=>
  intro i;cases i with
  |zero=>exact ⟨_,_,rfl,h,hl l⟩
  |succ i=>exact ⟨_,_,rfl,hs x,ih⟩
omit hT in
theorem aNM {t:TypeId} {x z:Operand} {a b:Int} {dty:TypeId} (hx:s.ev x=some (.int a)) (hz:s.ev z=some (.int b)):
  AEff P ⟨dst,.call ⟨.builtin .max,#[x,z],#[t,t]⟩,dty,pos,aft,g⟩ s.ev s.heap s.kp ⟨.int (max a b),[],[],[]⟩:=
 AEff.pure λC s' ν ac w hi ht hs=>by
  have h1:=hs.ev ((hi x (by simp [Op.operands,Call.operands])).trans hx);have h2:=hs.ev ((hi z (by simp [Op.operands,Call.operands])).trans hz);simp only [RepA,RepB,Rep1] at h1 h2;refine ⟨.int .i64 (max a b),?_,rN rfl⟩;simp [execOp,resolve,invoke,builtin,h1.1,h2.1,Builtin.max_,Builtin.max2];rw [Int.max_def];split <;> split <;> omega
omit hT in
theorem aNN {t:TypeId} {x z:Operand} {a b:Int} {dty:TypeId} (hx:s.ev x=some (.int a)) (hz:s.ev z=some (.int b)):
  AEff P ⟨dst,.call ⟨.builtin .min,#[x,z],#[t,t]⟩,dty,pos,aft,g⟩ s.ev s.heap s.kp ⟨.int (min a b),[],[],[]⟩:=
 AEff.pure λC s' ν ac w hi ht hs=>by
  have h1:=hs.ev ((hi x (by simp [Op.operands,Call.operands])).trans hx);have h2:=hs.ev ((hi z (by simp [Op.operands,Call.operands])).trans hz);simp only [RepA,RepB,Rep1] at h1 h2;refine ⟨.int .i64 (min a b),?_,rN rfl⟩;simp [execOp,resolve,invoke,builtin,h1.1,h2.1,Builtin.min_,Builtin.min2];rw [Int.min_def];split <;> split <;> omega
theorem rU {α:Type} {e:α→List AV} {x z:Operand} {t et:Nat} {y ye:Ty} {b b' n k:Nat} {l:List α} {c:List AV} {sv:AV} {ts nm:List Nat} {dty:TypeId} (hf:decide (l.length+1≤4294967296)=true) (hns:s.ns.head?=some b') (hx:s.ev x=some (.own b 0 n)) (hb:s.heap b=some ⟨k,l.map e⟩) (hl:l.length=n) (hz:s.ev z=some sv) (hsrc:yW s.heap sv=some (k,[c],ts)) (hnm:cV c=nm)
  (ok:c.all (okCell s.heap)=true) (hy:dZ T t=some y) (hd:y.desc= .slice et) (hye:dZ T et=some ye) (hzl:ye.zero.length=ye.size) (hk:ye.size=k) (hby:Nat.ble ye.bytes 32768=true):
  AEff P ⟨dst,.call ⟨.builtin .append,#[x,z],#[t,t]⟩,dty,pos,aft,g⟩ s.ev s.heap s.kp ⟨.own b' 0 (l.length+1),b::(ts++nm),[(b,none),(b',some ⟨k,l.map e++[c]⟩)],[b']⟩:=by
 have hf:=of_decide_eq_true hf;have hby:=Nat.le_of_ble_eq_true hby
 have h1:=aFB (P:=P) hT (dst:=dst) (pos:=pos) (aft:=aft) (g:=g) (dty:=dty) hns hx hb hz hsrc hy hd hye hzl hk.symm hk.symm (by simpa using hl) (by simpa using ok) (by simp;omega) (by simp only [List.length_singleton];calc (n+1)*ye.bytes≤4294967296*32768:=Nat.mul_le_mul (by omega) hby
                                                                                                                                                    _≤140737488355328:=by decide)
 rw [List.flatten_singleton,hnm,hk] at h1;rw [hl];exact h1
omit hT in
theorem rV {α β:Type} {f:α→β} {l:List α} {c:β} (x:α) (h:c=f x):l.map f++[c]=(l++[x]).map f:=by rw [h,List.map_append];rfl
omit hT in
theorem aGI {α β:Type} {f:α→β} {l:List α} {i:Nat} {c:β} (x:α) (h:c=f x):(l.map f).set i c=(l.set i x).map f:=by rw [h,List.map_set]
end
end
end Go.Proofs.YtgkfbfiiaphgoaaGreat

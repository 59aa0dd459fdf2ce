/-
  Several texts of the claim in one.
-/
import Derived.Test.YtghechfdejhapaaGreatProg
import Derived.Test.YtghechfdejhapaaGreatM3
set_option linter.unusedVariables false
set_option linter.unusedSimpArgs false
namespace Go.Proofs.YtghechfdejhapaaGreat
open Go.RowKit
noncomputable section
def TT:List (Nat×Ty):=[
 (1,⟨.sc,1,8,[.sc .nilFunc]⟩),
 (2,⟨.sc,1,8,[.sc (.int .i64 0)]⟩),
 (3,⟨.sc,1,8,[.sc (.int .i64 0)]⟩),
 (4,⟨.sc,1,1,[.sc (.bool false)]⟩),
 (5,⟨.sc,1,1,[.sc (.int .u8 0)]⟩),
 (6,⟨.sc,1,1,[.sc (.int .u8 0)]⟩),
 (7,⟨.struct [(0,2),(1,3),(2,4),(3,6)],4,24,[.sc (.int .i64 0),.sc (.int .i64 0),.sc (.bool false),.sc (.int .u8 0)]⟩),
 (8,⟨.struct [(0,2),(1,3),(2,4),(3,6)],4,24,[.sc (.int .i64 0),.sc (.int .i64 0),.sc (.bool false),.sc (.int .u8 0)]⟩),
 (9,⟨.sc,1,16,[.sc (.string ⟨#[]⟩)]⟩),
 (10,⟨.sc,1,16,[.sc (.string ⟨#[]⟩)]⟩),
 (11,⟨.sc,1,16,[.sc (.string ⟨#[]⟩)]⟩),
 (12,⟨.sc,1,8,[.sc (.int .u64 0)]⟩),
 (13,⟨.struct [(0,9),(1,12)],2,24,[.sc (.string ⟨#[]⟩),.sc (.int .u64 0)]⟩),
 (14,⟨.struct [(0,9),(1,12)],2,24,[.sc (.string ⟨#[]⟩),.sc (.int .u64 0)]⟩),
 (21,⟨.sc,1,4,[.sc (.int .i32 0)]⟩),
 (22,⟨.slice 3,1,24,[.nil 1]⟩),
 (23,⟨.struct [(0,3),(1,22),(2,22)],3,56,[.sc (.int .i64 0),.nil 1,.nil 1]⟩),
 (24,⟨.struct [(0,3),(1,22),(2,22)],3,56,[.sc (.int .i64 0),.nil 1,.nil 1]⟩),
 (25,⟨.slice 111,1,24,[.nil 3]⟩),
 (26,⟨.struct [(0,3),(1,24),(4,22),(5,25)],6,112,[.sc (.int .i64 0),.sc (.int .i64 0),.nil 1,.nil 1,.nil 1,.nil 3]⟩),
 (27,⟨.struct [(0,3),(1,24),(4,22),(5,25)],6,112,[.sc (.int .i64 0),.sc (.int .i64 0),.nil 1,.nil 1,.nil 1,.nil 3]⟩),
 (28,⟨.sc,1,8,[.sc .nilFunc]⟩),
 (29,⟨.struct [(0,3),(1,22),(2,22)],3,56,[.sc (.int .i64 0),.nil 1,.nil 1]⟩),
 (30,⟨.slice 113,1,24,[.nil 3]⟩),
 (31,⟨.struct [(0,3),(1,29),(4,22),(5,30)],6,112,[.sc (.int .i64 0),.sc (.int .i64 0),.nil 1,.nil 1,.nil 1,.nil 3]⟩),
 (32,⟨.struct [(0,3),(1,29),(4,22),(5,30)],6,112,[.sc (.int .i64 0),.sc (.int .i64 0),.nil 1,.nil 1,.nil 1,.nil 3]⟩),
 (33,⟨.slice 32,1,24,[.nil 6]⟩),
 (34,⟨.slice 126,1,24,[.nil 3]⟩),
 (35,⟨.slice 99,1,24,[.nil 2]⟩),
 (36,⟨.struct [(0,3),(1,32),(7,32),(13,33),(14,30),(15,34),(16,22),(17,35)],18,352,[.sc (.int .i64 0),.sc (.int .i64 0),.sc (.int .i64 0),.nil 1,.nil 1,.nil 1,.nil 3,.sc (.int .i64 0),.sc (.int .i64 0),.nil 1,.nil 1,.nil 1,.nil 3,.nil 6,.nil 3,.nil 3,.nil 1,.nil 2]⟩),
 (37,⟨.struct [(0,3),(1,32),(7,32),(13,33),(14,30),(15,34),(16,22),(17,35)],18,352,[.sc (.int .i64 0),.sc (.int .i64 0),.sc (.int .i64 0),.nil 1,.nil 1,.nil 1,.nil 3,.sc (.int .i64 0),.sc (.int .i64 0),.nil 1,.nil 1,.nil 1,.nil 3,.nil 6,.nil 3,.nil 3,.nil 1,.nil 2]⟩),
 (39,⟨.sc,1,8,[.sc .nilFunc]⟩),
 (40,⟨.sc,1,8,[.sc .nilFunc]⟩),
 (41,⟨.sc,1,8,[.sc .nilFunc]⟩),
 (42,⟨.sc,1,8,[.sc .nilFunc]⟩),
 (43,⟨.sc,1,8,[.sc .nilFunc]⟩),
 (44,⟨.sc,1,8,[.sc .nilFunc]⟩),
 (45,⟨.sc,1,8,[.sc .nilFunc]⟩),
 (46,⟨.sc,1,8,[.sc .nilFunc]⟩),
 (47,⟨.sc,1,8,[.sc .nilFunc]⟩),
 (48,⟨.sc,1,8,[.sc .nilFunc]⟩),
 (49,⟨.sc,1,8,[.sc .nilFunc]⟩),
 (50,⟨.sc,1,8,[.sc .nilFunc]⟩),
 (51,⟨.slice 35,1,24,[.nil 1]⟩),
 (53,⟨.sc,1,8,[.sc .nilFunc]⟩),
 (54,⟨.sc,1,8,[.sc .nilFunc]⟩),
 (55,⟨.sc,1,8,[.sc .nilFunc]⟩),
 (56,⟨.sc,1,8,[.sc .nilFunc]⟩),
 (57,⟨.sc,1,8,[.sc .nilFunc]⟩),
 (58,⟨.sc,1,8,[.sc .nilFunc]⟩),
 (60,⟨.sc,1,8,[.sc .nilFunc]⟩),
 (61,⟨.sc,1,8,[.sc .nilFunc]⟩),
 (62,⟨.sc,1,8,[.sc .nilFunc]⟩),
 (63,⟨.slice 22,1,24,[.nil 1]⟩),
 (65,⟨.sc,1,8,[.sc .nilFunc]⟩),
 (66,⟨.sc,1,8,[.sc .nilFunc]⟩),
 (67,⟨.sc,1,8,[.sc .nilFunc]⟩),
 (68,⟨.sc,1,8,[.sc .nilFunc]⟩),
 (69,⟨.sc,1,8,[.sc .nilFunc]⟩),
 (70,⟨.sc,1,8,[.sc .nilFunc]⟩),
 (71,⟨.sc,1,8,[.sc .nilFunc]⟩),
 (72,⟨.sc,1,8,[.sc .nilFunc]⟩),
 (73,⟨.sc,1,8,[.sc .nilFunc]⟩),
 (75,⟨.sc,1,8,[.sc .nilFunc]⟩),
 (76,⟨.sc,1,8,[.sc .nilFunc]⟩),
 (77,⟨.sc,1,8,[.sc .nilFunc]⟩),
 (78,⟨.sc,1,8,[.sc .nilFunc]⟩),
 (79,⟨.sc,1,8,[.sc .nilFunc]⟩),
 (80,⟨.sc,1,8,[.sc .nilFunc]⟩),
 (81,⟨.sc,1,8,[.sc .nilFunc]⟩),
 (82,⟨.sc,1,8,[.sc .nilFunc]⟩),
 (83,⟨.sc,1,8,[.sc .nilFunc]⟩),
 (84,⟨.sc,1,8,[.sc .nilFunc]⟩),
 (85,⟨.sc,1,8,[.sc .nilFunc]⟩),
 (86,⟨.sc,1,8,[.sc .nilFunc]⟩),
 (87,⟨.sc,1,8,[.sc .nilFunc]⟩),
 (88,⟨.sc,1,8,[.sc .nilFunc]⟩),
 (89,⟨.sc,1,8,[.sc .nilFunc]⟩),
 (90,⟨.sc,1,8,[.sc .nilFunc]⟩),
 (91,⟨.sc,1,8,[.sc .nilFunc]⟩),
 (92,⟨.sc,1,8,[.sc .nilFunc]⟩),
 (93,⟨.sc,1,8,[.sc .nilFunc]⟩),
 (94,⟨.sc,1,8,[.sc .nilFunc]⟩),
 (95,⟨.sc,1,8,[.sc .nilFunc]⟩),
 (96,⟨.sc,1,8,[.sc .nilFunc]⟩),
 (97,⟨.sc,1,8,[.sc .nilFunc]⟩),
 (98,⟨.struct [(0,3),(1,63)],2,32,[.sc (.int .i64 0),.nil 1]⟩),
 (99,⟨.struct [(0,3),(1,63)],2,32,[.sc (.int .i64 0),.nil 1]⟩),
 (100,⟨.sc,1,8,[.sc .nilFunc]⟩),
 (101,⟨.sc,1,8,[.sc .nilFunc]⟩),
 (102,⟨.sc,1,8,[.sc .nilFunc]⟩),
 (103,⟨.sc,1,8,[.sc .nilFunc]⟩),
 (105,⟨.sc,1,8,[.sc .nilFunc]⟩),
 (107,⟨.sc,1,8,[.sc .nilFunc]⟩),
 (108,⟨.sc,1,8,[.sc .nilFunc]⟩),
 (109,⟨.sc,1,8,[.sc .nilFunc]⟩),
 (110,⟨.struct [(0,3),(1,3),(2,22)],3,40,[.sc (.int .i64 0),.sc (.int .i64 0),.nil 1]⟩),
 (111,⟨.struct [(0,3),(1,3),(2,22)],3,40,[.sc (.int .i64 0),.sc (.int .i64 0),.nil 1]⟩),
 (112,⟨.sc,1,8,[.sc .nilFunc]⟩),
 (113,⟨.struct [(0,3),(1,3),(2,22)],3,40,[.sc (.int .i64 0),.sc (.int .i64 0),.nil 1]⟩),
 (114,⟨.sc,1,8,[.sc .nilFunc]⟩),
 (116,⟨.sc,1,8,[.sc .nilFunc]⟩),
 (117,⟨.sc,1,8,[.sc .nilFunc]⟩),
 (118,⟨.sc,1,8,[.sc .nilFunc]⟩),
 (119,⟨.sc,1,8,[.sc .nilFunc]⟩),
 (120,⟨.sc,1,8,[.sc .nilFunc]⟩),
 (121,⟨.slice 30,1,24,[.nil 1]⟩),
 (122,⟨.sc,1,8,[.sc .nilFunc]⟩),
 (123,⟨.sc,1,8,[.sc .nilFunc]⟩),
 (124,⟨.sc,1,8,[.sc .nilFunc]⟩),
 (125,⟨.struct [(0,3),(1,3),(2,3)],3,24,[.sc (.int .i64 0),.sc (.int .i64 0),.sc (.int .i64 0)]⟩),
 (126,⟨.struct [(0,3),(1,3),(2,3)],3,24,[.sc (.int .i64 0),.sc (.int .i64 0),.sc (.int .i64 0)]⟩),
 (127,⟨.sc,1,8,[.sc .nilFunc]⟩),
 (128,⟨.sc,1,8,[.sc .nilFunc]⟩),
 (129,⟨.sc,1,8,[.sc .nilFunc]⟩),
 (130,⟨.sc,1,8,[.sc .nilFunc]⟩),
 (131,⟨.sc,1,8,[.sc .nilFunc]⟩),
 (132,⟨.sc,1,8,[.sc .nilFunc]⟩),
 (133,⟨.sc,1,8,[.sc .nilFunc]⟩),
 (134,⟨.sc,1,8,[.sc .nilFunc]⟩),
 (135,⟨.sc,1,8,[.sc .nilFunc]⟩),
 (137,⟨.sc,1,8,[.sc .nilFunc]⟩),
 (138,⟨.sc,1,8,[.sc .nilFunc]⟩),
 (139,⟨.sc,1,8,[.sc .nilFunc]⟩),
 (140,⟨.sc,1,8,[.sc .nilFunc]⟩),
 (141,⟨.sc,1,8,[.sc .nilFunc]⟩),
 (143,⟨.sc,1,8,[.sc .nilFunc]⟩),
 (144,⟨.sc,1,8,[.sc .nilFunc]⟩),
 (145,⟨.sc,1,8,[.sc .nilFunc]⟩),
 (146,⟨.sc,1,8,[.sc .nilFunc]⟩),
 (147,⟨.sc,1,8,[.sc .nilFunc]⟩),
 (148,⟨.sc,1,8,[.sc .nilFunc]⟩),
 (149,⟨.sc,1,8,[.sc .nilFunc]⟩),
 (150,⟨.sc,1,8,[.sc .nilFunc]⟩),
 (151,⟨.sc,1,8,[.sc .nilFunc]⟩),
 (152,⟨.sc,1,8,[.sc .nilFunc]⟩),
 (153,⟨.sc,1,8,[.sc .nilFunc]⟩),
 (154,⟨.sc,1,8,[.sc .nilFunc]⟩),
 (155,⟨.sc,1,8,[.sc .nilFunc]⟩),
 (157,⟨.sc,1,8,[.sc .nilFunc]⟩),
 (158,⟨.sc,1,8,[.sc .nilFunc]⟩),
 (159,⟨.sc,1,8,[.sc .nilFunc]⟩),
 (160,⟨.sc,1,8,[.sc .nilFunc]⟩),
 (161,⟨.sc,1,8,[.sc .nilFunc]⟩),
 (162,⟨.sc,1,8,[.sc .nilFunc]⟩),
 (163,⟨.sc,1,8,[.sc .nilFunc]⟩),
 (164,⟨.sc,1,8,[.sc .nilFunc]⟩),
 (165,⟨.sc,1,8,[.sc .nilFunc]⟩),
 (166,⟨.sc,1,8,[.sc .nilFunc]⟩),
 (168,⟨.sc,1,8,[.sc .nilFunc]⟩),
 (169,⟨.sc,1,8,[.sc .nilFunc]⟩),
 (170,⟨.sc,1,8,[.sc .nilFunc]⟩),
 (171,⟨.sc,1,8,[.sc .nilFunc]⟩),
 (172,⟨.sc,1,8,[.sc .nilFunc]⟩),
 (173,⟨.sc,1,8,[.sc .nilFunc]⟩),
 (174,⟨.slice 175,1,24,[.nil 2]⟩),
 (175,⟨.array 2 3,2,16,[.sc (.int .i64 0),.sc (.int .i64 0)]⟩),
 (176,⟨.sc,1,8,[.sc .nilFunc]⟩),
 (177,⟨.sc,1,8,[.sc .nilFunc]⟩),
 (178,⟨.sc,1,8,[.sc .nilFunc]⟩),
 (179,⟨.sc,1,8,[.sc .nilFunc]⟩),
 (180,⟨.sc,1,8,[.sc .nilFunc]⟩),
 (181,⟨.sc,1,8,[.sc .nilFunc]⟩),
 (182,⟨.sc,1,8,[.sc .nilFunc]⟩),
 (183,⟨.sc,1,8,[.sc .nilFunc]⟩),
 (184,⟨.sc,1,8,[.sc .nilFunc]⟩),
 (185,⟨.sc,1,8,[.sc .nilFunc]⟩),
 (186,⟨.sc,1,8,[.sc .nilFunc]⟩),
 (187,⟨.sc,1,8,[.sc .nilFunc]⟩),
 (188,⟨.sc,1,8,[.sc .nilFunc]⟩),
 (189,⟨.sc,1,8,[.sc .nilFunc]⟩),
 (190,⟨.sc,1,8,[.sc .nilFunc]⟩),
 (192,⟨.sc,1,8,[.sc .nilFunc]⟩),
 (193,⟨.sc,1,8,[.sc .nilFunc]⟩),
 (194,⟨.sc,1,8,[.sc .nilFunc]⟩),
 (195,⟨.sc,1,8,[.sc .nilFunc]⟩),
 (196,⟨.sc,1,8,[.sc .nilFunc]⟩),
 (197,⟨.sc,1,8,[.sc (.int .u64 0)]⟩),
 (199,⟨.sc,1,8,[.sc .nilFunc]⟩),
 (200,⟨.sc,1,8,[.sc .nilFunc]⟩),
 (201,⟨.sc,1,8,[.sc .nilFunc]⟩),
 (202,⟨.sc,1,8,[.sc .nilFunc]⟩),
 (203,⟨.sc,1,8,[.sc .nilFunc]⟩),
 (204,⟨.sc,1,8,[.sc .nilFunc]⟩),
 (205,⟨.sc,1,8,[.sc .nilFunc]⟩),
 (206,⟨.sc,1,4,[.sc (.int .u32 0)]⟩),
 (208,⟨.sc,1,8,[.sc .nilFunc]⟩),
 (209,⟨.sc,1,8,[.sc (.int .u64 0)]⟩),
 (211,⟨.sc,1,8,[.sc .nilFunc]⟩),
 (212,⟨.sc,1,8,[.sc .nilFunc]⟩),
 (213,⟨.sc,1,8,[.sc (.int .i64 0)]⟩),
 (215,⟨.sc,1,8,[.sc .nilFunc]⟩),
 (216,⟨.sc,1,8,[.sc .nilFunc]⟩),
 (217,⟨.sc,1,8,[.sc .nilFunc]⟩),
 (219,⟨.sc,1,8,[.sc .nilFunc]⟩),
 (220,⟨.sc,1,8,[.sc .nilFunc]⟩),
 (221,⟨.sc,1,8,[.sc .nilFunc]⟩),
 (222,⟨.sc,1,8,[.sc .nilFunc]⟩),
 (223,⟨.sc,1,8,[.sc .nilFunc]⟩),
 (224,⟨.sc,1,8,[.sc (.int .u64 0)]⟩),
 (225,⟨.sc,1,8,[.sc .nilFunc]⟩),
 (226,⟨.sc,1,8,[.sc .nilFunc]⟩),
 (227,⟨.sc,1,8,[.sc .nilFunc]⟩),
 (229,⟨.sc,1,8,[.sc .nilFunc]⟩),
 (230,⟨.sc,1,8,[.sc .nilFunc]⟩),
 (232,⟨.sc,1,8,[.sc .nilFunc]⟩),
 (235,⟨.sc,1,8,[.sc .nilFunc]⟩),
 (236,⟨.sc,1,8,[.sc .nilFunc]⟩),
 (242,⟨.sc,1,8,[.sc .nilFunc]⟩),
 (243,⟨.sc,1,1,[.sc (.int .u8 0)]⟩),
 (244,⟨.sc,1,1,[.sc (.int .u8 0)]⟩),
 (245,⟨.sc,1,8,[.sc .nilFunc]⟩),
 (247,⟨.sc,1,4,[.sc (.int .i32 0)]⟩),
 (248,⟨.sc,1,4,[.sc (.int .i32 0)]⟩),
 (251,⟨.sc,1,8,[.sc .nilFunc]⟩)]
set_option maxRecDepth 100000 in
theorem aJ:TyOk Tryz.prog TT:=aQS (by kernel_rfl)
end
noncomputable section
theorem ob {α β:Type} {o:Option α} {k:α→Option β} {r:β} (h:o.bind k=some r): ∃ a,o=some a∧k a=some r:=by
 cases o with
 |none=>cases h
 |some a=>exact ⟨a,rfl,h⟩
theorem cb {α:Type} {c:Bool} {A B:Option α} {r:α} (h:cond c A B=some r):(c=true∧A=some r)∨(c=false∧B=some r):=by
 cases c
 ·exact .inr ⟨rfl,h⟩
 ·exact .inl ⟨rfl,h⟩
theorem cg {α:Type} {c:Bool} {A:Option α} {r:α} (h:cond c A none=some r):c=true∧A=some r:=by
 cases c
 ·cases h
 ·exact ⟨rfl,h⟩
theorem so {α:Type} {x r:α} (h:some x=some r):x=r:=Option.some.inj h
def dG {α:Type} (l:List α) (i:Int):Option α:=bif decide (0≤i) then l[i.toNat]? else none
theorem iO {α:Type} {l:List α} {i:Int} {v:α} (h:dG l i=some v):l[i.toNat]? =some v:=(cg h).2
theorem aJt {α:Type} {l:List α} {i:Int} {v:α} (h:dG l i=some v):0≤i:=of_decide_eq_true (cg h).1
theorem gC {α:Type} {l:List α} {i:Int} {v:α} (h:dG l i=some v):i.toNat<l.length:=by
 rcases dP i.toNat l.length with h'|h'
 ·exact h'
 ·have:=iO h;rw [gM h'] at this;cases this
theorem aUe {α β:Type} {f:α→β} {l:List α} {i:Int} {v:α} (h:dG l i=some v):(l.map f)[i.toNat]? =some (f v):=by rw [List.getElem?_map,iO h];rfl
theorem dY {α:Type} {l:List α} {n:Nat} (h:n<l.length):dG l (n:Int)=some l[n]:=by simp [dG,h]
def wr (x:Int):Int:=IntKind.i64.wrap x
theorem aJu {x:Int} (h: -9223372036854775808≤x∧x≤9223372036854775807):wr x=x:=by unfold wr;rw [IntKind.wrap_i64];omega
def LpN {σ ρ:Type} (body:σ→Option (σ ⊕ ρ)):Nat→σ→ρ→Prop
 |0,s,r=>body s=some (.inr r)
 |n+1,s,r=> ∃ s',body s=some (.inl s')∧LpN body n s' r
theorem LpN.det {σ ρ:Type} {body:σ→Option (σ ⊕ ρ)} : ∀ {n m:Nat} {s:σ} {r r':ρ},LpN body n s r→LpN body m s r'→r=r'
 |0,0,s,r,r',h,k=>by rw [LpN] at h k;rw [h] at k;cases k;rfl
 |0,m+1,s,r,r',h,⟨s',k,_⟩=>by rw [LpN] at h;rw [h] at k;cases k
 |n+1,0,s,r,r',⟨s',h,_⟩,k=>by rw [LpN] at k;rw [h] at k;cases k
 |n+1,m+1,s,r,r',⟨s',h,h2⟩,⟨s'',k,k2⟩=>by rw [h] at k;cases k;exact LpN.det h2 k2
open Classical in
def Lp {σ ρ:Type} (body:σ→Option (σ ⊕ ρ)) (s:σ):Option ρ:=if h: ∃ r n,LpN body n s r then some h.choose else none
theorem aJQ {σ ρ:Type} {body:σ→Option (σ ⊕ ρ)} {s:σ} {r:ρ} :Lp body s=some r↔ ∃ n,LpN body n s r:=by
 unfold Lp;split
 ·rename_i h;obtain ⟨n,hn⟩:=h.choose_spec;constructor
  ·intro e;cases e;exact ⟨n,hn⟩
  ·rintro ⟨m,hm⟩;rw [hn.det hm]
 ·rename_i h;constructor
  ·intro e;cases e
  ·rintro ⟨m,hm⟩;exact absurd ⟨r,m,hm⟩ h
theorem kM {σ ρ:Type} {body:σ→Option (σ ⊕ ρ)} {s:σ} {r:ρ} (h:body s=some (.inr r)):Lp body s=some r:=aJQ.2 ⟨0,h⟩
theorem aBw {σ ρ:Type} {body:σ→Option (σ ⊕ ρ)} {s s':σ} (h:body s=some (.inl s')):Lp body s=Lp body s':=by
 apply Option.ext;intro r;rw [aJQ,aJQ];constructor
 ·rintro ⟨n,hn⟩;cases n with
  |zero=>rw [LpN] at hn;rw [h] at hn;cases hn
  |succ n=>obtain ⟨s'',h1,h2⟩:=hn;rw [h] at h1;cases h1;exact ⟨n,h2⟩
 ·rintro ⟨n,hn⟩;exact ⟨n+1,s',h,hn⟩
theorem aSk {σ ρ:Type} {body:σ→Option (σ ⊕ ρ)} {s:σ} {r:ρ} (I:Nat→σ) (N:Nat) (h0:s=I 0) (hs: ∀ k,k<N→body (I k)=some (.inl (I (k+1)))) (hr:body (I N)=some (.inr r)):Lp body s=some r:=by
 subst h0
 have key: ∀ d k,k+d=N→Lp body (I k)=some r:=by
  intro d;induction d with
  |zero=>intro k hk;rw [Nat.add_zero] at hk;subst hk;exact kM hr
  |succ d ih=>intro k hk;rw [aBw (hs k (by omega))];exact ih (k+1) (by omega)
 exact key N 0 (by omega)
theorem aQZ {σ ρ:Type} {body:σ→Option (σ ⊕ ρ)} {s:σ} (I:σ→Prop) (μ:σ→Nat) (R:ρ→Prop) (h0:I s) (hs: ∀ x,I x→(∃ x',body x=some (.inl x')∧I x'∧μ x'<μ x)∨ ∃ r,body x=some (.inr r)∧R r): ∃ r,Lp body s=some r∧R r:=by
 have key: ∀ n x,μ x=n→I x→ ∃ r,Lp body x=some r∧R r:=by
  intro n;induction n using Nat.strongRecOn with
  |_ n ih=>
   intro x hn hx;rcases hs x hx with ⟨x',h1,h2,h3⟩|⟨r,h1,h2⟩
   ·rw [aBw h1];exact ih (μ x') (hn▸h3) x' rfl h2
   ·exact ⟨r,kM h1,h2⟩
 exact key _ s rfl h0
section
variable {P:Program} {nt:Nat} {s:AState} {Q:Exit→AState→Prop}
theorem bV {c:Code} {σ ρ:Type} {body:σ→Option (σ ⊕ ρ)} {x0:σ} {r0:ρ} (h:Lp body x0=some r0) (S:σ→AState) (X:ρ→Exit→AState→Prop) (e0:Ent s (S x0))
  (round: ∀ x o,body x=some o→AC P nt c (S x) (zD (λt=> ∃ x',o= .inl x'∧Ent t (S x')) (λe t=> ∃ r,o= .inr r∧X r e t))) (hX: ∀ e t,X r0 e t→Q e t):AC P nt (.loop c) s Q:=by
 obtain ⟨n,hn⟩:=aJQ.1 h;refine aJM (ι:=σ×Nat) (λp=>S p.1) (λp=>LpN body p.2 p.1 r0) (λp=>p.2) (x0,n) hn e0 ?_;rintro ⟨x,m⟩ hm;cases m with
 |zero=>
  refine aQT (round x _ hm) λe t hq=>?_;cases e <;> simp only [zD] at hq ⊢
  ·obtain ⟨x',h1,_⟩:=hq;cases h1
  all_goals (obtain ⟨r,h1,h2⟩:=hq;cases h1;exact hX _ _ h2)
 |succ m=>
  obtain ⟨x',h1,h2⟩:=hm;refine aQT (round x _ h1) λe t hq=>?_;cases e <;> simp only [zD] at hq ⊢
  ·obtain ⟨x'',h3,h4⟩:=hq;cases h3;exact ⟨(x',m),h2,Nat.lt_succ_self _,h4⟩
  all_goals (obtain ⟨r,h3,_⟩:=hq;cases h3)
theorem cJ {c:Operand} {x y:Code} {t:Bool} (hc:s.ev c=some (.sc (.bool t))) (q:t=true) (h:AC P nt x s Q):AC P nt (.cond c x y) s Q:=vC hc (λ_=>h) (λe=>by rw [q] at e;cases e)
theorem oJ {c:Operand} {x y:Code} {t:Bool} (hc:s.ev c=some (.sc (.bool t))) (q:t=false) (h:AC P nt y s Q):AC P nt (.cond c x y) s Q:=vC hc (λe=>by rw [q] at e;cases e) (λ_=>h)
theorem aNr {i:Nat} {v:AV} {e:Nat→Option AV} (h:e i=some v):upd (some i) v e=e:=by
 funext t;simp only [upd];cases hb:Nat.beq t i with
 |false=>rfl
 |true=>rw [Nat.eq_of_beq_eq_true hb,h];rfl
theorem aI {ops:Array Oper} {r:List Oper} {tr:List Tr} {K:List Tr→AState→Prop} {t u:Bool} (i:Nat) (hi:s.env i=some (.sc (.bool t))) (q:t=u) (h:AOps P ops nt r ⟨upd (some i) (.sc (.bool u)) s.env,s.heap,s.used,s.ns,s.kp⟩ tr K):AOps P ops nt r s tr K:=by
 subst q;rw [aNr hi] at h;exact h
end
def jC:AV→Bool
 | .sc v=>v.oneCell'
 | .list _ _=>true
 |_=>false
structure EOk {α:Type} (k:Nat) (e:α→List AV):Prop where
 len: ∀ x,(e x).length=k
 cell: ∀ x,(e x).all jC=true
def ow {α:Type} (e:α→List AV) (x:α):List AV:=(e x).map uP
theorem gY {α:Type} (e:α→List AV) (l:List α):cE (l.map e)=l.map (ow e):=by
 unfold cE;rw [List.map_map];rfl
section
variable {α:Type} {k:Nat} {e:α→List AV}
theorem aPL {c:AV} (h:jC c=true):view0 (uP c) c:=by cases c <;> simp only [jC,fK] at h <;> simp [uP,view0]
theorem aPM {c:AV} (h:jC c=true):view0 c c:=by cases c <;> simp only [jC,fK] at h <;> simp [view0]
theorem aRU {c:AV} (h:jC c=true):aDS (uP c) c:=by cases c <;> simp only [jC,fK] at h <;> simp [uP,aDS]
theorem aNs {c:AV} (h:jC c=true) (hp:Hp):okCell hp c=true:=by cases c <;> simp only [jC,fK] at h <;> rfl
theorem aNt {c:AV} (h:jC c=true):dU c=true∧ ∀ ds,c≠ .ref ds:=by cases c <;> simp only [jC,fK] at h <;> exact ⟨rfl,λ_ e=>by cases e⟩
theorem aJv {c:AV} (h:jC c=true):uV c=true∧uV (uP c)=true:=by cases c <;> simp only [jC,fK] at h <;> exact ⟨rfl,rfl⟩
theorem aDa {R:AV→AV→Prop} {f g:AV→AV} : ∀ {cs:List AV},(∀ c∈cs,R (f c) (g c))→All2 R (cs.map f) (cs.map g)
 | [],_=>rfl
 |c::cs,h=>⟨g c,_,rfl,h c (by simp),aDa λd hd=>h d (by simp [hd])⟩
theorem aCS {β:Type} {R:List AV→List AV→Prop} {f g:β→List AV} : ∀ {l:List β},(∀ x,R (f x) (g x))→All2 R (l.map f) (l.map g)
 | [],_=>rfl
 |x::l,h=>⟨g x,_,rfl,h x,aCS h⟩
theorem EOk.mem (E:EOk k e) (x:α): ∀ c∈e x,jC c=true:=List.all_eq_true.1 (E.cell x)
theorem EOk.view (E:EOk k e) (x:α):All2 view0 (ow e x) (e x):=by have:=aDa (R:=view0) (f:=uP) (g:=id) (λc hc=>aPL (E.mem x c hc));simpa [ow] using this
theorem EOk.same (E:EOk k e) (x:α):All2 view0 (e x) (e x):=by have:=aDa (R:=view0) (f:=id) (g:=id) (λc hc=>aPM (E.mem x c hc));simpa using this
theorem EOk.frz (E:EOk k e) (x:α):All2 aDS (ow e x) (e x):=by have:=aDa (R:=aDS) (f:=uP) (g:=id) (λc hc=>aRU (E.mem x c hc));simpa [ow] using this
theorem EOk.views (E:EOk k e) (l:List α):All2 (All2 view0) (l.map (ow e)) (l.map e):=aCS E.view
theorem EOk.sames (E:EOk k e) (l:List α):All2 (All2 view0) (l.map e) (l.map e):=aCS E.same
theorem EOk.frzs (E:EOk k e) (l:List α):All2 (All2 aDS) (l.map (ow e)) (l.map e):=aCS E.frz
theorem EOk.good (E:EOk k e) (l:List α):aHE (l.map e):=by
 intro cs hcs c hc;obtain ⟨x,_,rfl⟩:=List.mem_map.1 hcs;exact aNt (E.mem x c hc)
theorem EOk.plainO (E:EOk k e) (l:List α):aBt (l.map (ow e)):=by
 intro cs hcs c hc;obtain ⟨x,_,rfl⟩:=List.mem_map.1 hcs;obtain ⟨d,hd,rfl⟩:=List.mem_map.1 hc;exact (aJv (E.mem x d hd)).2
theorem EOk.plainE (E:EOk k e) (l:List α):aBt (l.map e):=by
 intro cs hcs c hc;obtain ⟨x,_,rfl⟩:=List.mem_map.1 hcs;exact (aJv (E.mem x c hc)).1
theorem EOk.okE (E:EOk k e) (hp:Hp) (l:List α):(l.map e).flatten.all (okCell hp)=true:=by
 rw [List.all_eq_true];intro c hc;obtain ⟨cs,hcs,hc⟩:=List.mem_flatten.1 hc;obtain ⟨x,_,rfl⟩:=List.mem_map.1 hcs;exact aNs (E.mem x c hc) hp
theorem aHH: ∀ {cs:List AV},(∀ c∈cs,jC c=true)→dD cs=[]
 | [],_=>rfl
 |c::cs,h=>by
  have h1:=h c (by simp);have h2:=aHH (cs:=cs) (λd hd=>h d (by simp [hd]));cases c <;> simp only [jC,fK] at h1 <;> exact h2
theorem EOk.namesE (E:EOk k e) (l:List α):dD (l.map e).flatten=[]:=by
 refine aHH λc hc=>?_;obtain ⟨cs,hcs,hc⟩:=List.mem_flatten.1 hc;obtain ⟨x,_,rfl⟩:=List.mem_map.1 hcs;exact E.mem x c hc
end
end
noncomputable section
def rH (n lo hi:Int):Bool:=decide (lo≤n∧n≤hi)
theorem iR {n lo hi:Int} (h:rH n lo hi=true):lo≤n∧n≤hi:=by simpa [rH] using h
theorem aBO {n lo hi:Int} (h1:lo≤n) (h2:n≤hi):rH n lo hi=true:=by simp [rH,h1,h2]
theorem aJw (x p:Int) (hp:0<p): -p<x.tmod p∧x.tmod p<p:=⟨Int.lt_tmod_of_pos x hp,Int.tmod_lt_of_pos x hp⟩
theorem aJx (x p:Int) (hp:0<p):(0≤x.tmod p∧x.tmod p=x % p)∨(x.tmod p<0∧x.tmod p=x % p - p):=by
 have h:= @Int.tmod_eq_emod x p;have h0:=Int.emod_nonneg x (by omega:p≠0);have h1:=Int.emod_lt_of_pos x hp;have h2:(p.natAbs:Int)=p:=by omega
 split at h
 ·exact .inl ⟨by omega,by omega⟩
 ·exact .inr ⟨by omega,by omega⟩
theorem aRV (x p:Int) (hp:0<p):(x.tmod p+p).tmod p=x % p:=by
 have h0:=Int.emod_nonneg x (by omega:p≠0);have h1:=Int.emod_lt_of_pos x hp;rcases aJx x p hp with ⟨h,e⟩|⟨h,e⟩
 ·rw [e,Int.tmod_eq_emod_of_nonneg (by omega),Int.add_emod_right,Int.emod_emod_of_dvd _ (Int.dvd_refl p)]
 ·rw [e,show x % p - p+p=x % p by omega,Int.tmod_eq_emod_of_nonneg h0,Int.emod_emod_of_dvd _ (Int.dvd_refl p)]
def nS (p:Int):Bool:=decide (p=2∨p=3∨p=5)
theorem aBP {p:Int} (h:nS p=true):p=2∨p=3∨p=5:=by simpa [nS] using h
def aMh (p r:Int):Nat→Int
 |0=>1
 |n+1=>(aMh p r n*r) % p
theorem aQa {p r:Int} (hp:nS p=true) (hr:0≤r∧r<p): ∀ n,0≤aMh p r n∧aMh p r n<p:=by
 intro n;have:=aBP hp;cases n with
 |zero=>simp [aMh];omega
 |succ n=>exact ⟨Int.emod_nonneg _ (by omega),Int.emod_lt_of_pos _ (by omega)⟩
def aCT (p r:Int):Int:=aMh p r (max (p - 2) 1).toNat
theorem aUf {p r y:Int} (hp:nS p=true) (hr:0≤r∧r<p) (hy:1≤y∧y<p) (h:(r*y) % p=1):aCT p r=y:=by
 rcases aBP hp with rfl|rfl|rfl
 ·have h1:r=0∨r=1:=by omega
  have h2:y=1:=by omega
  subst h2;rcases h1 with rfl|rfl <;> first|(exfalso;revert h;decide)|decide
 ·have h1:r=0∨r=1∨r=2:=by omega
  have h2:y=1∨y=2:=by omega
  rcases h1 with rfl|rfl|rfl <;> rcases h2 with rfl|rfl <;> first|(exfalso;revert h;decide)|decide
 ·have h1:r=0∨r=1∨r=2∨r=3∨r=4:=by omega
  have h2:y=1∨y=2∨y=3∨y=4:=by omega
  rcases h1 with rfl|rfl|rfl|rfl|rfl <;> rcases h2 with rfl|rfl|rfl|rfl <;> first|(exfalso;revert h;decide)|decide
theorem aSl {p r:Int} (hp:nS p=true) (hr:0≤r∧r<p) (h: ∀ y:Nat,1≤y→(y:Int)<p→(r*y) % p≠1):aCT p r=0:=by
 have h1:=h 1 (by omega);have h2:=h 2 (by omega);have h3:=h 3 (by omega);have h4:=h 4 (by omega);rcases aBP hp with rfl|rfl|rfl
 ·have h1:r=0∨r=1:=by omega
  rcases h1 with rfl|rfl <;> first|decide|(exfalso;revert h1 h2 h3 h4;decide)
 ·have h1:r=0∨r=1∨r=2:=by omega
  rcases h1 with rfl|rfl|rfl <;> first|decide|(exfalso;revert h1 h2 h3 h4;decide)
 ·have h1:r=0∨r=1∨r=2∨r=3∨r=4:=by omega
  rcases h1 with rfl|rfl|rfl|rfl|rfl <;> first|decide|(exfalso;revert h1 h2 h3 h4;decide)
theorem aSm {p r:Int} (hp:nS p=true) (hr:1≤r∧r<p):1≤aCT p r∧aCT p r<p∧(r*aCT p r) % p=1:=by
 rcases aBP hp with rfl|rfl|rfl
 ·have h1:r=1:=by omega
  subst h1;decide
 ·have h1:r=1∨r=2:=by omega
  rcases h1 with rfl|rfl <;> decide
 ·have h1:r=1∨r=2∨r=3∨r=4:=by omega
  rcases h1 with rfl|rfl|rfl|rfl <;> decide
theorem iD {p:Int} (h:nS p=true):2≤p∧p≤5:=by have:=aBP h;omega
theorem aVs {p:Int} (h:p=2∨p=3∨p=5):nS p=true:=by simpa [nS] using h
theorem eN {x:Int} (h: -4611686018427387904≤x∧x≤4611686018427387904):wr x=x:=aJu (by omega)
theorem cO {k n:Nat} (hk:k<n) (hn:n≤4611686018427387904):wr ((k:Int)+1)=((k+1:Nat):Int):=by rw [eN (by omega)];omega
theorem sP {α:Type} {l:List α} {k:Nat} (d:α) (h:k<l.length):dG l (k:Int)=some (l[k]?.getD d):=by rw [dY h];simp [h]
theorem atI {α:Type} {l:List α} {i:Int} (d:α) (h0:0≤i) (h:i<l.length):dG l i=some (l[i.toNat]?.getD d):=by
 have:=sP (l:=l) (k:=i.toNat) d (by omega)
 rwa [Int.toNat_of_nonneg h0] at this
theorem kV {k n:Nat} (h:k<n):decide ((k:Int)<(n:Int))=true:=bF (by omega)
theorem nT {k n:Nat} (h:n≤k):decide ((k:Int)<(n:Int))=false:=bZ (by omega)
theorem aHI {β:Type} {body:Int→Option (Int ⊕ (Unit ⊕ β))} {s0:Int} {s n:Nat} (f:Nat→Option β) (hs0:s0=(s:Int)) (hn:n≤4611686018427387904) (hsn:s≤n) (hs: ∀ k:Nat,s≤k→k<n→body k=some (match f k with|none=> .inl (wr (k+1))|some b=> .inr (.inr b)))
  (he:True→body n=some (.inr (.inl ()))):Lp body s0=some (match (List.range' s (n - s)).findSome? f with|none=> .inl ()|some b=> .inr b):=by
 have key: ∀ d k:Nat,s≤k→k+d=n→Lp body k=some (match (List.range' k d).findSome? f with|none=> .inl ()|some b=> .inr b):=by
  intro d;induction d with
  |zero=>intro k _ hk;rw [Nat.add_zero] at hk;subst hk;exact kM (he trivial)
  |succ d ih=>
   intro k h1 hk;have h:=hs k h1 (by omega);rw [List.range'_succ,List.findSome?_cons];cases hf:f k with
   |none=>rw [hf] at h;rw [aBw h,cO (n:=n) (by omega) hn];exact ih (k+1) (by omega) (by omega)
   |some b=>rw [hf] at h;exact kM h
 subst hs0;exact key (n - s) s (bK _) (by omega)
theorem eY {σ ρ:Type} {body:σ→Option (σ ⊕ ρ)} {s:σ} {r:ρ} (I:Nat→σ) (N:Nat) (h0:s=I 0) (hs: ∀ k,k<N→body (I k)=some (.inl (I (k+1)))) (hr:True→body (I N)=some (.inr r)):Lp body s=some r:=aSk I N h0 hs (hr trivial)
theorem zJ {β:Type} {body:Int→Option (Int ⊕ (Unit ⊕ β))} {n:Nat} (P:Nat→Bool) (b:β) (hn:n≤4611686018427387904) (hs: ∀ k:Nat,k<n→body k=some (bif P k then .inl (wr (k+1)) else .inr (.inr b)))
  (he:True→body n=some (.inr (.inl ()))):Lp body 0=some (bif (List.range n).all P then .inl () else .inr b):=by
 have key: ∀ d k:Nat,k+d=n→Lp body k=some (bif (List.range' k d).all P then .inl () else .inr b):=by
  intro d;induction d with
  |zero=>intro k hk;rw [Nat.add_zero] at hk;subst hk;exact kM (he trivial)
  |succ d ih=>
   intro k hk;have h:=hs k (by omega);rw [List.range'_succ,List.all_cons];cases hf:P k with
   |true=>rw [hf] at h;rw [aBw h,cO (n:=n) (by omega) hn];exact ih (k+1) (by omega)
   |false=>rw [hf] at h;exact kM h
 have:=key n 0 (by omega)
 rwa [List.range_eq_range']
theorem xQ {α:Type} (d:α) (l:List α) (P:α→Bool):(List.range l.length).all (λk=>P (l[k]?.getD d))=l.all P:=by
 rw [Bool.eq_iff_iff,List.all_eq_true,List.all_eq_true];constructor
 ·intro h x hx;obtain ⟨k,hk,rfl⟩:=List.mem_iff_getElem.1 hx;have:=h k (List.mem_range.2 hk);simpa [hk] using this
 ·intro h k hk;have hk:=List.mem_range.1 hk;simp only [lD hk,kQ];exact h _ (List.getElem_mem hk)
theorem tT {n:Nat} {P:Nat→Bool} :(List.range n).all P=true↔ ∀ k,k<n→P k=true:=by simp [List.all_eq_true]
theorem aNu {n:Nat} {P Q:Nat→Bool} (h: ∀ k,k<n→P k=Q k):(List.range n).all P=(List.range n).all Q:=by
 rw [Bool.eq_iff_iff,tT,tT];exact ⟨λg k hk=>(h k hk)▸g k hk,λg k hk=>(h k hk).symm ▸g k hk⟩
theorem aNv {l m:List Int} (hl:l.length=m.length):(List.range l.length).all (λk=>decide (l[k]?.getD 0=m[k]?.getD 0))=decide (l=m):=by
 rw [Bool.eq_iff_iff,tT,iC];constructor
 ·intro h;refine List.ext_getElem hl λk h1 h2=>?_;have:=of_decide_eq_true (h k h1);simpa [h1,h2] using this
 ·rintro rfl k _;simp
def cX (r c:Nat) (F:Nat→Nat→Int):List Int:=(List.range (r*c)).map λt=>F (t / c) (t % c)
theorem jI (r c:Nat) (F:Nat→Nat→Int):(cX r c F).length=r*c:=by simp [cX]
theorem aQb {r c i j:Nat} (hi:i<r) (hj:j<c):i*c+j<r*c:=by
 have:=Nat.mul_le_mul_right c (Nat.succ_le_of_lt hi);rw [Nat.succ_mul] at this;omega
theorem aJy {c i j:Nat} (hj:j<c):(i*c+j) / c=i:=by rw [Nat.mul_comm,Nat.mul_add_div (by omega),Nat.div_eq_of_lt hj,Nat.add_zero]
theorem aJz {c i j:Nat} (hj:j<c):(i*c+j) % c=j:=by rw [Nat.mul_comm,Nat.mul_add_mod,Nat.mod_eq_of_lt hj]
theorem oK {r c:Nat} (F:Nat→Nat→Int) {i j:Nat} (hi:i<r) (hj:j<c):(cX r c F)[i*c+j]? =some (F i j):=by
 have h:=aQb hi hj;simp [cX,h,aJy hj,aJz hj]
theorem aUg {r c:Nat} (F:Nat→Nat→Int) {i j:Nat} (hi:i<r) (hj:j<c):dG (cX r c F) ((i*c+j:Nat):Int)=some (F i j):=by
 rw [dY (by rw [jI];exact aQb hi hj),←oK F hi hj,lD]
theorem cW {r c:Nat} {F G:Nat→Nat→Int} (h: ∀ i j,i<r→j<c→F i j=G i j):cX r c F=cX r c G:=by
 unfold cX;refine aDI λt ht=>?_;have ht:=List.mem_range.1 ht;have hc:0<c:=by rcases Nat.eq_zero_or_pos c with rfl|h';simp at ht;exact h'
 exact h _ _ (Nat.div_lt_of_lt_mul (by rw [Nat.mul_comm];exact ht)) (Nat.mod_lt _ hc)
def aHJ (F:Nat→Nat→Int) (i j:Nat) (v:Int):Nat→Nat→Int:=λa b=>if a=i∧b=j then v else F a b
theorem aCU {r c:Nat} (F:Nat→Nat→Int) {i j:Nat} (v:Int) (hi:i<r) (hj:j<c):(cX r c F).set (i*c+j) v=cX r c (aHJ F i j v):=by
 refine List.ext_getElem (by simp [cX]) λt h1 h2=>?_;rw [jI] at h2;have hc:0<c:=by omega
 rw [List.getElem_set];simp only [cX,List.getElem_map,List.getElem_range,aHJ];have e:=Nat.div_add_mod t c;by_cases ht:i*c+j=t
 ·subst ht;rw [bB rfl,aJy hj,aJz hj,bB ⟨rfl,rfl⟩]
 ·rw [bA ht,bA];rintro ⟨rfl,rfl⟩;rw [Nat.mul_comm] at e;exact ht e
theorem aUh {r c:Nat} {l:List Int} (h:l.length=r*c):l=cX r c (λi j=>l[i*c+j]?.getD 0):=by
 refine List.ext_getElem (by rw [jI,h]) λt h1 h2=>?_;simp only [cX,List.getElem_map,List.getElem_range];have e:t / c*c+t % c=t:=by rw [Nat.mul_comm];exact Nat.div_add_mod t c
 rw [e];simp [h1]
theorem aLj (r c:Nat):List.replicate (r*c) (0:Int)=cX r c (λ_ _=>0):=by
 refine List.ext_getElem (by simp [cX]) λt h1 h2=>?_;simp [cX]
theorem wix {i c j:Nat} (h:i*c+j≤4611686018427387904):wr (wr ((i:Int)*(c:Int))+(j:Int))=((i*c+j:Nat):Int):=by
 have e:(i:Int)*(c:Int)=((i*c:Nat):Int):=by simp
 rw [e,eN (x:=((i*c:Nat):Int)) (by omega),eN (by omega)];omega
theorem aNw {i c:Nat} (h:i*c≤4611686018427387904):wr ((i:Int)*(c:Int))=((i*c:Nat):Int):=by
 have e:(i:Int)*(c:Int)=((i*c:Nat):Int):=by simp
 rw [e,eN (by omega)]
def aDb (p:Int) (v:List Int):Bool:=nS p&&decide (v.length≤64)&&v.all (λx=>rH x 0 (p - 1))
theorem aPN {p:Int} {v:List Int} (h:aDb p v=true):nS p=true∧v.length≤64∧v.all (λx=>rH x 0 (p - 1))=true:=by
 simp only [aDb,cI,iC] at h;exact ⟨h.1.1,h.1.2,h.2⟩
def kS (F:Nat→Nat→Int) (j:Nat):Nat→Nat→Nat
 |0,k=>k
 |d+1,k=>if F k j=0 then kS F j d (k+1) else k
theorem aKA {F:Nat→Nat→Int} {j:Nat} : ∀ {d k r:Nat},k≤r→r≤k+d→(∀ i,k≤i→i<r→F i j=0)→(r<k+d→F r j≠0)→kS F j d k=r
 |0,k,r,h1,h2,_,_=>by simp [kS];omega
 |d+1,k,r,h1,h2,h3,h4=>by
  unfold kS;by_cases e:F k j=0
  ·rw [bB e];have hne:k≠r:=by rintro rfl;exact h4 (by omega) e
   exact aKA (by omega) (by omega) (λi a b=>h3 i (by omega) b) (λh=>h4 (by omega))
  ·rw [bA e];rcases dP k r with h|h
   ·exact absurd (h3 k (bK _) h) e
   ·omega
theorem aBQ {F:Nat→Nat→Int} {j:Nat} : ∀ {d k:Nat},k≤kS F j d k∧kS F j d k≤k+d
 |0,k=>by simp [kS]
 |d+1,k=>by
  unfold kS;split
  ·have:= @aBQ F j d (k+1);omega
  ·omega
def xR (F:Nat→Nat→Int) (a b:Nat):Nat→Nat→Int:=λi c=>if i=a then F b c else if i=b then F a c else F i c
def sW (p:Int) (F:Nat→Nat→Int) (a:Nat) (s:Int):Nat→Nat→Int:=λi c=>if i=a then (F a c*s) % p else F i c
def zE (p:Int) (F:Nat→Nat→Int) (a j:Nat):Nat→Nat→Int:=λi c=>if i=a then F a c else (F i c - F i j*F a c) % p
def fW (p:Int) (F:Nat→Nat→Int) (k r j:Nat):Nat→Nat→Int:=zE p (sW p (xR F k r) k (aCT p (F r j))) k j
def iE (p:Int) (m:Nat) (st:(Nat→Nat→Int)×List Nat) (j:Nat):(Nat→Nat→Int)×List Nat:=
 if kS st.1 j (m - st.2.length) st.2.length=m then st else (fW p st.1 st.2.length (kS st.1 j (m - st.2.length) st.2.length) j,st.2++[j])
def cU (p:Int) (m:Nat) (F:Nat→Nat→Int):Nat→(Nat→Nat→Int)×List Nat
 |0=>(F,[])
 |t+1=>iE p m (cU p m F t) t
def InP (p:Int) (m n:Nat) (F:Nat→Nat→Int):Prop:= ∀ i j,i<m→j<n→0≤F i j∧F i j<p
theorem aPO {p:Int} (hp:0<p) {m n:Nat} {F:Nat→Nat→Int} (_h:InP p m n F) (k r j:Nat):InP p m n (fW p F k r j):=by
 intro i c hi hc;unfold fW zE sW;split
 ·simp only [bB];exact ⟨Int.emod_nonneg _ (by omega),Int.emod_lt_of_pos _ hp⟩
 ·exact ⟨Int.emod_nonneg _ (by omega),Int.emod_lt_of_pos _ hp⟩
theorem aPP {p:Int} (hp:0<p) {m n:Nat} {st:(Nat→Nat→Int)×List Nat} (h:InP p m n st.1) (j:Nat):InP p m n (iE p m st j).1:=by
 unfold iE;split
 ·exact h
 ·exact aPO hp h _ _ _
theorem aNx {p:Int} {m:Nat} {st:(Nat→Nat→Int)×List Nat} (h:st.2.length≤m) (j:Nat):(iE p m st j).2.length ≤m:=by
 unfold iE;split
 ·exact h
 ·rename_i h1;have:= @aBQ st.1 j (m - st.2.length) st.2.length;simp;omega
theorem uX {p:Int} (hp:0<p) {m n:Nat} {F:Nat→Nat→Int} (h:InP p m n F): ∀ t,InP p m n (cU p m F t).1
 |0=>h
 |t+1=>aPP hp (uX hp h t) t
theorem xS {p:Int} {m:Nat} {F:Nat→Nat→Int} : ∀ t,(cU p m F t).2.length ≤m
 |0=>Nat.zero_le _
 |t+1=>aNx (xS t) t
theorem aKB {p:Int} {m:Nat} {F:Nat→Nat→Int} : ∀ t,(cU p m F t).2.length ≤t
 |0=>Nat.zero_le _
 |t+1=>by
  have:= @aKB p m F t;unfold cU iE;split
  ·omega
  ·simp;omega
def cV (l:List (List Int)):Nat→Nat→Int:=λi j=>(l[i]?.getD [])[j]?.getD 0
def gN (F:Nat→Nat→Int) (r n:Nat):List (List Int):=(List.range r).map λi=>(List.range n).map λj=>F i j
theorem tU (F:Nat→Nat→Int) (r n:Nat):(gN F r n).length=r:=by simp [gN]
theorem aKC (F:Nat→Nat→Int) (r n i j:Nat) (hi:i<r) (hj:j<n):cV (gN F r n) i j=F i j:=by
 simp [cV,gN,hi,hj]
theorem aDc {F G:Nat→Nat→Int} {r n:Nat} (h: ∀ i j,i<r→j<n→F i j=G i j):gN F r n=gN G r n:=by
 unfold gN;refine aDI λi hi=>aDI λj hj=>h i j (by simpa using hi) (by simpa using hj)
def gG (p:Int) (n:Nat) (l:List (List Int)):List (List Int):=gN (cU p l.length (cV l) n).1 (cU p l.length (cV l) n).2.length n
structure Red (m t:Nat) (F:Nat→Nat→Int) (L:List Nat):Prop where
 lt: ∀ i,i<L.length→L[i]?.getD 0<t
 inc: ∀ i k,i<k→k<L.length→L[i]?.getD 0<L[k]?.getD 0
 len:L.length≤m
 one: ∀ i,i<L.length→F i (L[i]?.getD 0)=1
 col: ∀ i k,i<L.length→k<m→k≠i→F k (L[i]?.getD 0)=0
 low: ∀ i j,L.length≤i→i<m→j<t→F i j=0
 left: ∀ i j,i<L.length→j<L[i]?.getD 0→F i j=0
theorem aCV {L:List Nat} {t i:Nat} :(L++[t])[i]?.getD 0=if i<L.length then L[i]?.getD 0 else if i=L.length then t else 0:=by
 by_cases h:i<L.length
 ·rw [bB h,List.getElem?_append_left h]
 ·rw [bA h,List.getElem?_append_right (by omega)];by_cases h2:i=L.length
  ·subst h2;simp
  ·rw [bA h2,gM (by simp;omega)];rfl
theorem aFO {F:Nat→Nat→Int} {j:Nat} : ∀ {d k:Nat} i,k≤i→i<kS F j d k→F i j=0
 |0,k,i,h1,h2=>by simp [kS] at h2;omega
 |d+1,k,i,h1,h2=>by
  unfold kS at h2;by_cases e:F k j=0
  ·rw [bB e] at h2;by_cases e2:i=k
   ·subst e2;exact e
   ·exact aFO i (by omega) h2
  ·rw [bA e] at h2;omega
theorem aER {F:Nat→Nat→Int} {j:Nat} : ∀ {d k:Nat},kS F j d k<k+d→F (kS F j d k) j≠0
 |0,k,h=>by simp [kS] at h
 |d+1,k,h=>by
  unfold kS at h ⊢;by_cases e:F k j=0
  ·rw [bB e] at h ⊢;exact aER (by omega)
  ·rw [bA e];exact e
theorem aSn {p:Int} (hp:nS p=true) {m n t:Nat} (ht:t<n) {st:(Nat→Nat→Int)×List Nat} (hin:InP p m n st.1) (h:Red m t st.1 st.2):Red m (t+1) (iE p m st t).1 (iE p m st t).2:=by
 obtain ⟨F,L⟩:=st;simp only at hin h;have hb:=iD hp;unfold iE;simp only;have hle:= @aBQ F t (m - L.length) L.length;have hz:= @aFO F t (m - L.length) L.length;have hh:= @aER F t (m - L.length) L.length;have hlen:=h.len;split
 ·rename_i hm;show Red m (t+1) F L;refine ⟨λi hi=>by have:=h.lt i hi;omega,h.inc,h.len,h.one,h.col,λi j h1 h2 h3=>?_,h.left⟩;by_cases e:j=t
  ·subst e;exact hz i h1 (by omega)
  ·exact h.low i j h1 h2 (by omega)
 ·rename_i hm;generalize kS F t (m - L.length) L.length=r at*;have hrm:r<m:=by omega
  have hr0:=hh (by omega);have hrb:=hin r t hrm ht;have hiv:=aSm hp (r:=F r t) ⟨by omega,by omega⟩
  have hG: ∀ c,fW p F L.length r t L.length c=(F r c*aCT p (F r t)) % p:=by
   intro c;simp [fW,zE,sW,xR]
  have hrow: ∀ c,F r c=0→fW p F L.length r t L.length c=0:=by
   intro c hc;rw [hG,hc];simp
  have hE: ∀ i c,i≠L.length→fW p F L.length r t i c=((if i=r then F L.length c else F i c) - (if i=r then F L.length t else F i t)*fW p F L.length r t L.length c) % p:=by
   intro i c hi;simp [fW,zE,sW,xR,hi]
  have hT:fW p F L.length r t L.length t=1:=by rw [hG];exact hiv.2.2
  have hlow: ∀ j,j<t→F r j=0:=λj hj=>h.low r j hle.1 hrm hj;show Red m (t+1) (fW p F L.length r t) (L++[t]);refine ⟨λi hi=>?_,λi k hik hk=>?_,by simp;omega,λi hi=>?_,λi k hi hk hki=>?_,λi j h1 h2 h3=>?_,λi j hi hj=>?_⟩
  ·rw [aCV];simp at hi;split
   ·rename_i h1;have:=h.lt i h1;omega
   ·split <;> omega
  ·simp at hk;rw [aCV,aCV,bB (by omega)];split
   ·rename_i h1;exact h.inc i k hik h1
   ·rw [bB (by omega)];exact h.lt i (by omega)
  ·simp at hi;rw [aCV];by_cases e:i<L.length
   ·rw [bB e,hE i _ (by omega),bA (by omega),hrow _ (hlow _ (h.lt i e)),h.one i e];simp;exact Int.emod_eq_of_lt (by omega) (by omega)
   ·have e2:i=L.length:=by omega
    subst e2;simp [hT]
  ·simp at hi;rw [aCV];by_cases e:i<L.length
   ·rw [bB e];by_cases ek:k=L.length
    ·subst ek;exact hrow _ (hlow _ (h.lt i e))
    ·rw [hE k _ ek,hrow _ (hlow _ (h.lt i e))];by_cases er:k=r
     ·rw [bB er,h.col i L.length e (by omega) (by omega)];simp
     ·rw [bA er,h.col i k e hk hki];simp
   ·have e2:i=L.length:=by omega
    subst e2;rw [bA e,bB rfl,hE k _ hki,hT];simp
  ·simp at h1;rw [hE i _ (by omega)];by_cases e:j=t
   ·subst e;rw [hT];simp
   ·rw [hrow _ (hlow j (by omega)),h.low L.length j (bK _) (by omega) (by omega),h.low i j (by omega) h2 (by omega)];simp
  ·simp at hi;rw [aCV] at hj;by_cases e:i<L.length
   ·rw [bB e] at hj;have:=h.lt i e;rw [hE i _ (by omega),bA (by omega),hrow _ (hlow j (by omega)),h.left i j e hj];simp
   ·have e2:i=L.length:=by omega
    subst e2;rw [bA e,bB rfl] at hj;exact hrow _ (hlow j hj)
theorem aHK {p:Int} (hp:nS p=true) {m n:Nat} {F:Nat→Nat→Int} (hin:InP p m n F): ∀ t,t≤n→Red m t (cU p m F t).1 (cU p m F t).2
 |0,_=>⟨by simp [cU],by simp [cU],by simp [cU],by simp [cU],by simp [cU],by simp,by simp [cU]⟩
 |t+1,ht=>aSn hp (by omega) (uX (by have:=iD hp;omega) hin t) (aHK hp hin t (by omega))
theorem aSo {p:Int} (hp:nS p=true):aCT p 1=1:=by
 rcases aBP hp with rfl|rfl|rfl <;> decide
theorem aLk {p:Int} (hp:nS p=true) {n:Nat} {R G:Nat→Nat→Int} {L:List Nat} {m:Nat} (h:Red m n R L) (hin:InP p m n R) (hG: ∀ i j,i<L.length→j<n→G i j=R i j):
  ∀ t,t≤n→(∃ k,k≤L.length∧(cU p L.length G t).2=L.take k∧(∀ i,i<k→L[i]?.getD 0<t)∧(∀ i,k≤i→i<L.length→t≤L[i]?.getD 0))∧ ∀ i j,i<L.length→j<n→(cU p L.length G t).1 i j=R i j
 |0,_=>⟨⟨0,Nat.zero_le _,rfl,λi hi=>absurd hi (Nat.not_lt_zero _),λi _ _=>Nat.zero_le _⟩,hG⟩
 |t+1,ht=>by
  obtain ⟨⟨k,hk,e1,h1,h2⟩,h3⟩:=aLk hp h hin hG t (by omega);have hlen:=h.len;have hkl:(L.take k).length=k:=by simp;omega
  unfold cU iE;rw [e1,hkl];obtain ⟨H,hH⟩: ∃ H,H=(cU p L.length G t).1:=⟨_,rfl⟩;rw [←hH] at h3 ⊢;by_cases hlt:k<L.length∧L[k]?.getD 0=t
  ·obtain ⟨hk2,hkt⟩:=hlt;have hone:H k t=1:=by rw [h3 k t hk2 (by omega),←hkt];exact h.one k hk2
   have hpv:kS H t (L.length - k) k=k:=aKA (bK _) (by omega) (λi a b=>absurd b (by omega)) (λ_=>by rw [hone];decide);rw [hpv,bA (by omega)];refine ⟨⟨k+1,by omega,?_,λi hi=>?_,λi hi hi2=>?_⟩,λi j hi hj=>?_⟩
   ·show L.take k++[t]=_;rw [zB hk2];have:L[k]=t:=by simpa [hk2] using hkt
    rw [this]
   ·by_cases e:i=k
    ·subst e;omega
    ·have:=h1 i (by omega);omega
   ·have:=h.inc k i (by omega) hi2;omega
   ·show fW p H k k t i j=_;have e2: ∀ c,(H k c*aCT p (H k t)) % p=H k c % p:=by intro c;rw [hone,aSo hp];simp
    have hb:=hin i j (by omega) hj;have hb2:=hin k j (by omega) hj;by_cases e:i=k
    ·subst e;have e3:fW p H i i t i j=(H i j*aCT p (H i t)) % p:=by simp [fW,zE,sW,xR]
     rw [e3,e2,h3 i j hi hj];exact Int.emod_eq_of_lt hb.1 hb.2
    ·have hz:H i t=0:=by rw [h3 i t hi (by omega),←hkt];exact h.col k i hk2 (by omega) e
     have e3:fW p H k k t i j=(H i j - H i t*((H k j*aCT p (H k t)) % p)) % p:=by simp [fW,zE,sW,xR,e]
     rw [e3,hz,h3 i j hi hj];simp;exact Int.emod_eq_of_lt hb.1 hb.2
  ·have hz: ∀ i,k≤i→i<L.length→H i t=0:=by
    intro i hi hi2;rw [h3 i t hi2 (by omega)];refine h.left i t hi2 ?_;have a:=h2 i hi hi2;by_cases e:i=k
    ·subst e;have:L[i]?.getD 0≠t:=λe=>hlt ⟨hi2,e⟩;omega
    ·have b:=h2 k (bK _) (by omega);have c:=h.inc k i (by omega) hi2;omega
   have hpv:kS H t (L.length - k) k=L.length:=aKA hk (by omega) (λi a b=>hz i a b) (λh=>absurd h (by omega));rw [hpv,bB rfl];refine ⟨⟨k,hk,e1,λi hi=>by have:=h1 i hi;omega,λi hi hi2=>?_⟩,by rw [←hH];exact h3⟩;have a:=h2 i hi hi2;by_cases e:i=k
   ·subst e;have:L[i]?.getD 0≠t:=λe=>hlt ⟨hi2,e⟩;omega
   ·have b:=h2 k (bK _) (by omega);have c:=h.inc k i (by omega) hi2;omega
def VecsP (p:Int) (n:Nat) (l:List (List Int)):Prop:= ∀ v∈l,v.length=n∧ ∀ x∈v,0≤x∧x<p
theorem VecsP.inP {p:Int} {n:Nat} {l:List (List Int)} (h:VecsP p n l):InP p l.length n (cV l):=by
 intro i j hi hj;have h1:=h l[i] (List.getElem_mem hi);have h2:=h1.2 ((l[i])[j]'(by omega)) (List.getElem_mem _);simpa [cV,hi,show j<(l[i]).length by omega] using h2
theorem aES {p:Int} (hp:nS p=true) {n:Nat} {l:List (List Int)} (h:InP p l.length n (cV l)):VecsP p n (gG p n l):=by
 intro v hv;unfold gG gN at hv;simp only [List.mem_map,List.mem_range] at hv;obtain ⟨i,hi,rfl⟩:=hv;refine ⟨by simp,λx hx=>?_⟩;simp only [List.mem_map,List.mem_range] at hx;obtain ⟨j,hj,rfl⟩:=hx;have:= @xS p l.length (cV l) n;exact uX (by have:=iD hp;omega) h n i j (by omega) hj
theorem aDd {p:Int} {n:Nat} {l:List (List Int)} :(gG p n l).length ≤n∧(gG p n l).length ≤l.length:=by
 unfold gG;rw [tU];exact ⟨aKB n,xS n⟩
theorem aRW {p:Int} (hp:nS p=true) {n:Nat} {l:List (List Int)} (h:InP p l.length n (cV l)):gG p n (gG p n l)=gG p n l:=by
 have h1:=aHK hp h n (bK _);have h2:=uX (by have:=iD hp;omega) h n;have hl:(gG p n l).length=(cU p l.length (cV l) n).2.length:=by unfold gG;rw [tU]
 obtain ⟨⟨k,hk,e1,h3,h4⟩,h5⟩:=aLk hp (G:=cV (gG p n l)) h1 h2 (λi j hi hj=>by unfold gG;exact aKC _ _ _ i j hi hj) n (bK _)
 have hk2:k=(cU p l.length (cV l) n).2.length:=by
  rcases dP k (cU p l.length (cV l) n).2.length with h6|h6
  ·have a:=h4 k (bK _) h6;have b:=h1.lt k h6;omega
  ·omega
 have e2:(cU p (gG p n l).length (cV (gG p n l)) n).2.length=(cU p l.length (cV l) n).2.length:=by
  rw [hl,e1,hk2,List.take_length]
 show gN (cU p (gG p n l).length (cV (gG p n l)) n).1 (cU p (gG p n l).length (cV (gG p n l)) n).2.length n=gN (cU p l.length (cV l) n).1 (cU p l.length (cV l) n).2.length n;rw [e2];refine aDc λi j hi hj=>?_;rw [hl];exact h5 i j hi hj
def aLC (p:Int) (n:Nat) (a b:List (List Int)):List (List Int):=gG p n (a++b)
def aFz (p size:Int) (l:List (List Int)):Bool:=nS p&&rH size 0 8&&decide (l.length≤16)&&l.all λv=>decide ((v.length:Int)=size)&&aDb p v
def qY (p size:Int) (l:List (List Int)):Bool:=aFz p size l&&decide (gG p size.toNat l=l)
theorem aDe {p size:Int} {l:List (List Int)} (h:aFz p size l=true):nS p=true∧ ∃ n:Nat,size=n∧n≤8∧l.length≤16∧VecsP p n l:=by
 simp only [aFz,cI,iC,List.all_eq_true] at h;obtain ⟨⟨⟨h1,h2⟩,h3⟩,h4⟩:=h;have h5:=iR h2;refine ⟨h1,size.toNat,by omega,by omega,h3,λv hv=>?_⟩;have h6:=h4 v hv;have h7:=aPN h6.2;refine ⟨by have:=h6.1;omega,λx hx=>?_⟩;have h8:=h7.2.2;rw [List.all_eq_true] at h8;have:=iR (h8 x hx);omega
theorem aSp {p:Int} {n:Nat} {l:List (List Int)} (hp:nS p=true) (hn:n≤8) (hl:l.length≤16) (h:VecsP p n l):aFz p n l=true:=by
 simp only [aFz,cI,iC,List.all_eq_true];refine ⟨⟨⟨hp,aBO (by omega) (by omega)⟩,hl⟩,λv hv=>⟨by rw [(h v hv).1],?_⟩⟩;simp only [aDb,cI,iC,List.all_eq_true];exact ⟨⟨hp,by rw [(h v hv).1];omega⟩,λx hx=>aBO (by have:=(h v hv).2 x hx;omega) (by have:=(h v hv).2 x hx;omega)⟩
theorem aAu {p size:Int} {l:List (List Int)} (h:qY p size l=true):nS p=true∧ ∃ n:Nat,size=n∧n≤8∧l.length≤n∧VecsP p n l∧gG p n l=l:=by
 simp only [qY,cI,iC] at h;obtain ⟨hp,n,rfl,hn,_,hv⟩:=aDe h.1;have h2:gG p n l=l:=by simpa using h.2
 exact ⟨hp,n,rfl,hn,by have:=(@aDd p n l).1;rw [h2] at this;exact this,hv,h2⟩
theorem aPQ {p:Int} {n:Nat} {l:List (List Int)} (hp:nS p=true) (hn:n≤8) (h:VecsP p n l):qY p n (gG p n l)=true:=by
 simp only [qY,cI,iC];exact ⟨aSp hp hn (by have:=(@aDd p n l).1;omega) (aES hp h.inP),by simpa using aRW hp h.inP⟩
theorem VecsP.append {p:Int} {n:Nat} {a b:List (List Int)} (ha:VecsP p n a) (hb:VecsP p n b):VecsP p n (a++b):=by
 intro v hv;rcases eG.1 hv with h|h
 ·exact ha v h
 ·exact hb v h
end
noncomputable section
def sN (f:Nat→Int):Nat→Int
 |0=>0
 |k+1=>sN f k+f k
theorem sX {f g:Nat→Int} : ∀ {n:Nat},(∀ k,k<n→f k=g k)→sN f n=sN g n
 |0,_=>rfl
 |n+1,h=>by rw [sN,sN,sX λk hk=>h k (by omega),h n (by omega)]
theorem aPR (f g:Nat→Int): ∀ n,sN (λk=>f k+g k) n=sN f n+sN g n
 |0=>rfl
 |n+1=>by rw [sN,sN,sN,aPR f g n];omega
theorem aPS (c:Int) (f:Nat→Int): ∀ n,sN (λk=>c*f k) n=c*sN f n
 |0=>by simp [sN]
 |n+1=>by rw [sN,sN,aPS c f n,Int.mul_add]
theorem aCy: ∀ n,sN (λ_=>0) n=0
 |0=>rfl
 |n+1=>by rw [sN,aCy n];rfl
theorem aHL {f:Nat→Int} {j:Nat} : ∀ {n:Nat},j<n→(∀ k,k<n→k≠j→f k=0)→sN f n=f j
 |0,h,_=>absurd h (Nat.not_lt_zero _)
 |n+1,h,hz=>by
  rw [sN];by_cases e:j=n
  ·subst e;rw [sX (g:=λ_=>0) λk hk=>hz k (by omega) (by omega),aCy];omega
  ·rw [aHL (j:=j) (by omega) λk hk hj=>hz k (by omega) hj,hz n (by omega) (by omega)];omega
def Z0 (p x:Int):Prop:=x % p=0
theorem aPT {p x y:Int} (h:Z0 p x) (k:Z0 p y):Z0 p (x+y):=by unfold Z0 at*;rw [Int.add_emod,h,k];simp
theorem aHM {p x:Int} (c:Int) (h:Z0 p x):Z0 p (c*x):=by unfold Z0 at*;rw [Int.mul_emod,h];simp
theorem aVY {p:Int} {f g:Nat→Int} : ∀ {n:Nat},(∀ k,k<n→f k % p=g k % p)→sN f n % p=sN g n % p
 |0,_=>rfl
 |n+1,h=>by rw [sN,sN,Int.add_emod,aVY λk hk=>h k (by omega),h n (by omega),←Int.add_emod]
theorem aSq {p x y:Int} (h:x % p=y % p) (k:Z0 p x):Z0 p y:=by unfold Z0 at*;rw [←h];exact k
def dt (n:Nat) (f x:Nat→Int):Int:=sN (λk=>f k*x k) n
def Kr (p:Int) (m n:Nat) (F:Nat→Nat→Int) (x:Nat→Int):Prop:= ∀ i,i<m→Z0 p (dt n (F i) x)
theorem aMi {p:Int} {n:Nat} {f g x:Nat→Int} (h: ∀ k,k<n→f k % p=g k % p):dt n f x % p=dt n g x % p:=by
 unfold dt;refine aVY λk hk=>?_;rw [Int.mul_emod,h k hk,←Int.mul_emod]
theorem aSr {n:Nat} {f g x:Nat→Int} (c:Int):dt n (λk=>f k+c*g k) x=dt n f x+c*dt n g x:=by
 unfold dt;rw [←aPS,←aPR];refine sX λk hk=>?_;rw [Int.add_mul,Int.mul_assoc]
theorem aQc {n:Nat} {f x:Nat→Int} (c:Int):dt n (λk=>c*f k) x=c*dt n f x:=by
 unfold dt;rw [←aPS];refine sX λk hk=>?_;rw [Int.mul_assoc]
theorem aSs {p:Int} (hp:nS p=true) {m n k r j:Nat} (hj:j<n) (hk:k<m) (hr:r<m) {F:Nat→Nat→Int} (hin:InP p m n F) (hrj:F r j≠0) (x:Nat→Int):Kr p m n (fW p F k r j) x↔Kr p m n F x:=by
 have hb:=iD hp;have hrb:=hin r j hr hj;have hiv:=aSm hp (r:=F r j) ⟨by omega,by omega⟩;generalize hs:aCT p (F r j)=s at*;have hrow: ∀ c,fW p F k r j k c=(F r c*s) % p:=by intro c;simp [fW,zE,sW,xR,hs]
 have hoth: ∀ i c,i≠k→fW p F k r j i c=((if i=r then F k c else F i c) - (if i=r then F k j else F i j)*fW p F k r j k c) % p:=by
  intro i c hi;simp [fW,zE,sW,xR,hi,hs]
 have e1:dt n (fW p F k r j k) x % p=(s*dt n (F r) x) % p:=by
  rw [←aQc];refine aMi λc hc=>?_;rw [hrow,Int.mul_comm,Int.emod_emod_of_dvd _ (Int.dvd_refl p)]
 have e2:dt n (F r) x % p=(F r j*dt n (fW p F k r j k) x) % p:=by
  rw [←aQc];refine aMi λc hc=>?_;rw [hrow,Int.mul_emod,Int.emod_emod_of_dvd _ (Int.dvd_refl p),←Int.mul_emod,show F r j*(F r c*s)=(F r j*s)*F r c by rw [Int.mul_comm (F r c),Int.mul_assoc],Int.mul_emod,hiv.2.2];simp
 have e3: ∀ i,i≠k→ ∀ G:Nat→Int,(∀ c,G c=if i=r then F k c else F i c)→dt n (fW p F k r j i) x % p=(dt n G x+ -(G j)*dt n (fW p F k r j k) x) % p:=by
  intro i hi G hG;rw [←aSr];refine aMi λc hc=>?_;rw [hoth i c hi,Int.emod_emod_of_dvd _ (Int.dvd_refl p),←hG,←hG,Int.neg_mul,Int.sub_eq_add_neg]
 constructor
 ·intro h;have hkk:=h k hk;have hrr:Z0 p (dt n (F r) x):=by unfold Z0;rw [e2];exact aHM _ hkk
  have key: ∀ i,i<m→i≠k→Z0 p (dt n (λc=>if i=r then F k c else F i c) x):=by
   intro i hi hik;have h1:=h i hi;unfold Z0 at h1;rw [e3 i hik (λc=>if i=r then F k c else F i c) (λc=>rfl)] at h1;have h2:=aPT (y:=(if i=r then F k j else F i j)*dt n (fW p F k r j k) x) h1 (aHM _ hkk);refine aSq (congrArg (· % p) ?_) h2;rw [Int.neg_mul];omega
  intro i hi;by_cases e:i=r
  ·subst e;exact hrr
  ·by_cases e4:i=k
   ·subst e4;have:=key r hr (λh=>e h.symm);simpa using this
   ·have:=key i hi e4;simpa [e] using this
 ·intro h;have hkk:Z0 p (dt n (fW p F k r j k) x):=by unfold Z0;rw [e1];exact aHM _ (h r hr)
  intro i hi;by_cases e:i=k
  ·subst e;exact hkk
  ·unfold Z0;rw [e3 i e (λc=>if i=r then F k c else F i c) (λc=>rfl)];refine aPT ?_ (aHM _ hkk);by_cases e4:i=r
   ·simp only [e4,if_true];exact h k hk
   ·simp only [e4,if_false];exact h i hi
theorem aGA {p:Int} (hp:nS p=true) {m n:Nat} {F:Nat→Nat→Int} (hin:InP p m n F) (x:Nat→Int): ∀ t,t≤n→(Kr p m n (cU p m F t).1 x↔Kr p m n F x)
 |0,_=>Iff.rfl
 |t+1,ht=>by
  have ih:=aGA hp hin x t (by omega);have hin2:=uX (by have:=iD hp;omega:0<p) hin t;have hlen:= @xS p m F t;show Kr p m n (iE p m (cU p m F t) t).1 x↔_;unfold iE;split
  ·exact ih
  ·rename_i h1;have hle:= @aBQ (cU p m F t).1 t (m - (cU p m F t).2.length) (cU p m F t).2.length;have hh:= @aER (cU p m F t).1 t (m - (cU p m F t).2.length) (cU p m F t).2.length (by omega);refine Iff.trans ?_ ih;exact aSs hp (by omega) (by omega) (by omega) hin2 hh x
def kx (F:Nat→Nat→Int) (L:List Nat) (k:Nat):Nat→Int:=λc=>if c=k then 1 else -(sN (λi=>if L[i]?.getD 0=c then F i k else 0) L.length)
theorem aNy {m n:Nat} {F:Nat→Nat→Int} {L:List Nat} (h:Red m n F L) {k:Nat} (hk:k<n) (hL: ∀ i,i<L.length→L[i]?.getD 0≠k) (g:Nat→Int):dt n g (kx F L k)=g k - sN (λi=>g (L[i]?.getD 0)*F i k) L.length:=by
 have key: ∀ a,a≤L.length→sN (λc=>g c*(if c=k then 1 else -(sN (λi=>if L[i]?.getD 0=c then F i k else 0) a))) n=g k - sN (λi=>g (L[i]?.getD 0)*F i k) a:=by
  intro a;induction a with
  |zero=>
   intro _;rw [aHL (j:=k) hk]
   ·rw [bB rfl];simp [sN]
   ·intro c hc hck;rw [bA hck];simp [sN]
  |succ a ih=>
   intro ha;have ih:=ih (by omega);have hlt:=h.lt a (by omega);have hne:=hL a (by omega)
   have e:sN (λc=>g c*(if c=k then 1 else -(sN (λi=>if L[i]?.getD 0=c then F i k else 0) (a+1)))) n
     =sN (λc=>g c*(if c=k then 1 else -(sN (λi=>if L[i]?.getD 0=c then F i k else 0) a))+(if c=L[a]?.getD 0 then -(g c*F a k) else 0)) n:=by
    refine sX λc hc=>?_;by_cases e1:c=k
    ·rw [bB e1,bB e1,bA (by omega)];omega
    ·rw [bA e1,bA e1];simp only [sN];by_cases e2:c=L[a]?.getD 0
     ·rw [bB e2,bB e2.symm,Int.neg_add,Int.mul_add,Int.mul_neg (g c) (F a k)]
     ·rw [bA e2,bA (λh=>e2 h.symm)];simp
   rw [e,aPR,ih,aHL (j:=L[a]?.getD 0) hlt (λc _ hc=>bA hc),bB rfl];simp only [sN];omega
 have:=key L.length (bK _);exact this
theorem aMj {p:Int} {m n:Nat} {F:Nat→Nat→Int} {L:List Nat} (h:Red m n F L) {k:Nat} (hk:k<n) (hL: ∀ i,i<L.length→L[i]?.getD 0≠k):Kr p m n F (kx F L k):=by
 intro i hi;rw [aNy h hk hL];rcases dP i L.length with hl|hl
 ·rw [aHL (j:=i) hl]
  ·rw [h.one i hl];unfold Z0;rw [Int.one_mul,Int.sub_self];simp
  ·intro t ht hti;rw [h.col t i ht hi (λe=>hti e.symm)];simp
 ·rw [h.low i k hl hi hk,sX (g:=λ_=>0) λt ht=>by rw [h.low i _ hl hi (h.lt t ht)];simp];rw [aCy];unfold Z0;simp
theorem aMk {p:Int} (hp:nS p=true) {m m' n:Nat} {F G:Nat→Nat→Int} {L M:List Nat} (hF:Red m n F L) (hG:Red m' n G M) (hK: ∀ x,Kr p m n F x→Kr p m' n G x) {t:Nat} (ht:t<M.length): ∃ i,i<L.length∧L[i]?.getD 0=M[t]?.getD 0:=by
 have hb:=iD hp;refine Classical.byContradiction λhn=>?_;have hL: ∀ i,i<L.length→L[i]?.getD 0≠M[t]?.getD 0:=λi hi e=>hn ⟨i,hi,e⟩;have hk:=hG.lt t ht;have h1:=hK _ (aMj (p:=p) hF hk hL) t (by have:=hG.len;omega);rw [aNy hF hk hL,hG.one t ht,sX (g:=λ_=>0) λi hi=>?_,aCy] at h1
 ·unfold Z0 at h1;rw [Int.sub_zero,Int.emod_eq_of_lt (by omega) (by omega)] at h1;cases h1
 ·rcases dP (L[i]?.getD 0) (M[t]?.getD 0) with e|e
  ·rw [hG.left t _ ht e];simp
  ·have:=hL i hi;rw [hF.left i _ hi (by omega)];simp
theorem aLl: ∀ {L M:List Nat},(∀ i k,i<k→k<L.length→L[i]?.getD 0<L[k]?.getD 0)→(∀ i k,i<k→k<M.length→M[i]?.getD 0<M[k]?.getD 0)→(∀ i,i<L.length→ ∃ j,j<M.length∧M[j]?.getD 0=L[i]?.getD 0)→(∀ j,j<M.length→ ∃ i,i<L.length∧L[i]?.getD 0=M[j]?.getD 0)→L=M
 | [],[],_,_,_,_=>rfl
 | [],y::M,_,_,_,h=>by obtain ⟨i,hi,_⟩:=h 0 (by simp);simp at hi
 |x::L,[],_,_,h,_=>by obtain ⟨i,hi,_⟩:=h 0 (by simp);simp at hi
 |x::L,y::M,hL,hM,h1,h2=>by
  have sL: ∀ i k,i<k→k<L.length→L[i]?.getD 0<L[k]?.getD 0:=λi k hik hk=>by have:=hL (i+1) (k+1) (by omega) (by simp;omega);simpa using this
  have sM: ∀ i k,i<k→k<M.length→M[i]?.getD 0<M[k]?.getD 0:=λi k hik hk=>by have:=hM (i+1) (k+1) (by omega) (by simp;omega);simpa using this
  have xL: ∀ i,i<L.length→x<L[i]?.getD 0:=λi hi=>by have:=hL 0 (i+1) (by omega) (by simp;omega);simpa using this
  have yM: ∀ i,i<M.length→y<M[i]?.getD 0:=λi hi=>by have:=hM 0 (i+1) (by omega) (by simp;omega);simpa using this
  have exy:x=y:=by
   obtain ⟨j,hj,e1⟩:=h1 0 (by simp);obtain ⟨i,hi,e2⟩:=h2 0 (by simp);simp at e1 e2
   have b1:y≤x:=by
    cases j with
    |zero=>simp at e1;omega
    |succ j=>simp at e1 hj;have:=yM j hj;omega
   have b2:x≤y:=by
    cases i with
    |zero=>simp at e2;omega
    |succ i=>simp at e2 hi;have:=xL i hi;omega
   omega
  subst exy;congr 1;refine aLl sL sM (λi hi=>?_) (λj hj=>?_)
  ·obtain ⟨j,hj,e⟩:=h1 (i+1) (by simp;omega);simp at e;have:=xL i hi;cases j with
   |zero=>simp at e;omega
   |succ j=>simp at e hj;exact ⟨j,hj,e⟩
  ·obtain ⟨i,hi,e⟩:=h2 (j+1) (by simp;omega);simp at e;have:=yM j hj;cases i with
   |zero=>simp at e;omega
   |succ i=>simp at e hi;exact ⟨i,hi,e⟩
theorem aPU {p:Int} (hp:nS p=true) {m m' n:Nat} {F G:Nat→Nat→Int} {L M:List Nat} (hF:Red m n F L) (hG:Red m' n G M) (iF:InP p m n F) (iG:InP p m' n G) (hK: ∀ x,Kr p m n F x↔Kr p m' n G x):L=M∧ ∀ i j,i<L.length→j<n→F i j=G i j:=by
 have e:L=M:=aLl hF.inc hG.inc (λi hi=>aMk hp hG hF (λx=>(hK x).2) hi) (λj hj=>aMk hp hF hG (λx=>(hK x).1) hj);subst e;refine ⟨rfl,λi k hi hk=>?_⟩;have hm:=hF.len;have hm':=hG.len;by_cases hL: ∃ t,t<L.length∧L[t]?.getD 0=k
 ·obtain ⟨t,ht,rfl⟩:=hL;by_cases e:i=t
  ·subst e;rw [hF.one i hi,hG.one i hi]
  ·rw [hF.col t i ht (by omega) e,hG.col t i ht (by omega) e]
 ·have hL: ∀ t,t<L.length→L[t]?.getD 0≠k:=λt ht e=>hL ⟨t,ht,e⟩;have h1:=(hK _).1 (aMj (p:=p) hF hk hL) i (by omega);rw [aNy hF hk hL,aHL (j:=i) hi (λt ht hti=>by rw [hG.col t i ht (by omega) (λe=>hti e.symm)];simp),hG.one i hi,Int.one_mul] at h1;unfold Z0 at h1;have b1:=iF i k (by omega) hk;have b2:=iG i k (by omega) hk;have hd:=Int.dvd_of_emod_eq_zero h1;obtain ⟨c,hc⟩:=hd
  have hc0:c=0:=by
   rcases Int.lt_trichotomy c 0 with h|h|h
   ·have:=Int.mul_le_mul_of_nonneg_left (show c≤ -1 by omega) (by omega:0≤p);omega
   ·exact h
   ·have:=Int.mul_le_mul_of_nonneg_left (show 1≤c by omega) (by omega:0≤p);omega
  subst hc0;simp at hc;omega
theorem aMl {p:Int} (hp:nS p=true) {m m' n:Nat} {F G:Nat→Nat→Int} (iF:InP p m n F) (iG:InP p m' n G) (hK: ∀ x,Kr p m n F x↔Kr p m' n G x):(cU p m F n).2=(cU p m' G n).2∧ ∀ i j,i<(cU p m F n).2.length→j<n→(cU p m F n).1 i j=(cU p m' G n).1 i j:=by
 have hb:=iD hp;refine aPU hp (aHK hp iF n (bK _)) (aHK hp iG n (bK _)) (uX (by omega) iF n) (uX (by omega) iG n) λx=>?_;rw [aGA hp iF x n (bK _),hK,aGA hp iG x n (bK _)]
end
noncomputable section
theorem AEff.conv {P:Program} {o:Oper} {ins:Operand→Option AV} {hp:Hp} {κ:Kp} {v v':AV} {tc:List Nat} {ed ed':List (Nat×Option Blk)} {n:List Nat} (h:AEff P o ins hp κ ⟨v,tc,ed,n⟩) (hv:v=v') (he:ed=ed'):AEff P o ins hp κ ⟨v',tc,ed',n⟩:=by subst hv;subst he;exact h
theorem AEff.val {P:Program} {o:Oper} {ins:Operand→Option AV} {hp:Hp} {κ:Kp} {v v':AV} {tc:List Nat} {ed:List (Nat×Option Blk)} {n:List Nat} (h:AEff P o ins hp κ ⟨v,tc,ed,n⟩) (hv:v=v'):AEff P o ins hp κ ⟨v',tc,ed,n⟩:=by subst hv;exact h
section
variable {P:Program} {T:List (Nat×Ty)} (hT:TyOk P T) {dst:Option Tmp} {ty:TypeId} {pos:String} {aft:Array Edge} {g:Option (Nat×Bool)} {s:AState}
theorem bC {t t':TypeId} {x y:Operand} {a b:Int} (hx:s.ev x=some (.int a)) (hy:s.ev y=some (.int b)):AEff P ⟨dst,.binOp .add t x y t',ty,pos,aft,g⟩ s.ev s.heap s.kp ⟨.int (wr (a+b)),[],[],[]⟩:=
 xY hx hy rfl λw=>by simp [eqGuard,binOp,Op.intArith,wr]
theorem kH {t t':TypeId} {x y:Operand} {a b:Int} (hx:s.ev x=some (.int a)) (hy:s.ev y=some (.int b)):AEff P ⟨dst,.binOp .sub t x y t',ty,pos,aft,g⟩ s.ev s.heap s.kp ⟨.int (wr (a - b)),[],[],[]⟩:=
 xY hx hy rfl λw=>by simp [eqGuard,binOp,Op.intArith,wr]
theorem gH {t t':TypeId} {x y:Operand} {a b:Int} (hx:s.ev x=some (.int a)) (hy:s.ev y=some (.int b)):AEff P ⟨dst,.binOp .mul t x y t',ty,pos,aft,g⟩ s.ev s.heap s.kp ⟨.int (wr (a*b)),[],[],[]⟩:=
 xY hx hy rfl λw=>by simp [eqGuard,binOp,Op.intArith,wr]
theorem aSt {t t':TypeId} {x y:Operand} {a b:Int} (hx:s.ev x=some (.int a)) (hy:s.ev y=some (.int b)) (h:(!decide (b=0))=true):AEff P ⟨dst,.binOp .quo t x y t',ty,pos,aft,g⟩ s.ev s.heap s.kp ⟨.int (wr (a.tdiv b)),[],[],[]⟩:=
 xY hx hy rfl λw=>by
  have h':b≠0:=by simpa using h
  simp [eqGuard,binOp,Op.intDiv,h',wr]
theorem aGB {t t':TypeId} {x y:Operand} {a b:Int} (hx:s.ev x=some (.int a)) (hy:s.ev y=some (.int b)) (h:(!decide (b=0))=true):AEff P ⟨dst,.binOp .rem t x y t',ty,pos,aft,g⟩ s.ev s.heap s.kp ⟨.int (a.tmod b),[],[],[]⟩:=
 xY hx hy rfl λw=>by
  have h':b≠0:=by simpa using h
  simp [eqGuard,binOp,Op.intDiv,h']
variable {α:Type} {k:Nat} {e:α→List AV}
include hT
theorem aRX {x ix:Operand} {t et:Nat} {y ye:Ty} {l:List α} {kk:IntKind} {i:Int} {v:α} (hm:dG l i=some v) (hx:s.ev x=some (.list k (l.map e))) (hix:s.ev ix=some (.sc (.int kk i))) (hy:dE T t=some y) (hd:y.desc= .slice et) (hye:dE T et=some ye) (hk:ye.size=k):
  AEff P ⟨dst,.indexAddr t x ix,ty,pos,aft,g⟩ s.ev s.heap s.kp ⟨.ref (e v),[],[],[]⟩:=aRS hT hy hd hye hk hx hix (aJt hm) (aUe hm)
theorem aCW {x ix:Operand} {t et:Nat} {y ye:Ty} {b n kz:Nat} {es:List (List AV)} {kk:IntKind} {i:Int} (h0:0≤i) (hn:i.toNat<n) (hx:s.ev x=some (.own b 0 n)) (hb:s.heap b=some ⟨kz,es⟩) (hix:s.ev ix=some (.sc (.int kk i))) (hy:dE T t=some y) (hd:y.desc= .slice et) (hye:dE T et=some ye) (hk:ye.size=kz):
  AEff P ⟨dst,.indexAddr t x ix,ty,pos,aft,g⟩ s.ev s.heap s.kp ⟨.ptr b i.toNat 0,[b],[],[]⟩:=by
 have:=aNp (P:=P) hT (dst:=dst) (ty:=ty) (pos:=pos) (aft:=aft) (g:=g) hy hd hye hx hb hk hix h0 (by omega);rw [Nat.zero_add] at this;exact this
omit hT in
theorem aNz: ∀ {cs vs:List AV},cs.length=vs.length→aBM cs 0 vs=vs
 | [],[],_=>rfl
 |c::cs,v::vs,h=>by simp only [aBM];rw [aNz (by simpa using h)]
theorem jE {t:TypeId} {y:Ty} {x z:Operand} {val:AV} {b i:Nat} {l:List α} {v u:α} (E:EOk k e) (hm:l[i]? =some v) (hc:cY val=e u) (hx:s.ev x=some (.ptr b i 0)) (hb:s.heap b=some ⟨k,l.map e⟩) (hz:s.ev z=some val) (hy:dE T t=some y) (hk:y.size=k):
  AEff P ⟨dst,.store t x z,ty,pos,aft,g⟩ s.ev s.heap s.kp ⟨.dead,[b],[(b,some ⟨k,(l.set i u).map e⟩)],[]⟩:=by
 have h1:=aJP (P:=P) hT (dst:=dst) (ty:=ty) (pos:=pos) (aft:=aft) (g:=g) hx hb hz hy (by rw [hc,E.len,hk];simp) (by rw [hc,List.all_eq_true];exact λc h=>aNs (E.mem u c h) _) (cs:=e v) (by rw [List.getElem?_map,hm];rfl) (by rw [E.len,hk,Nat.zero_add];simp);rw [hc,aHH (E.mem u),aNz (by rw [E.len,E.len]),←List.map_set] at h1;exact h1
theorem uQ {x z:Operand} {t et:Nat} {y ye:Ty} {b b' n:Nat} {l m:List α} {sv:AV} {ts:List Nat} {dty:TypeId} (E:EOk k e) (hf:decide (l.length+m.length≤4294967296)=true) (hns:s.ns.head?=some b') (hx:s.ev x=some (.own b 0 n)) (hb:s.heap b=some ⟨k,l.map e⟩) (hl:l.length=n) (hz:s.ev z=some sv) (hsrc:zG s.heap sv=some (k,m.map e,ts))
  (hy:dE T t=some y) (hd:y.desc= .slice et) (hye:dE T et=some ye) (hzl:ye.zero.length=ye.size) (hk:ye.size=k) (hby:Nat.ble ye.bytes 32768=true):
  AEff P ⟨dst,.call ⟨.builtin .append,#[x,z],#[t,t]⟩,dty,pos,aft,g⟩ s.ev s.heap s.kp ⟨.own b' 0 (l++m).length,b::ts,[(b,none),(b',some ⟨k,(l++m).map e⟩)],[b']⟩:=by
 have hf:=of_decide_eq_true hf;have hby:=Nat.le_of_ble_eq_true hby
 have h1:=aLi (P:=P) hT (dst:=dst) (pos:=pos) (aft:=aft) (g:=g) (dty:=dty) hns hx hb hz hsrc hy hd hye hzl hk.symm hk.symm (by simpa using hl) (E.okE _ m) (by simp;omega) (by simp only [eE];calc (n+m.length)*ye.bytes≤4294967296*32768:=Nat.mul_le_mul (by omega) hby
                                                                                                                                                                _≤140737488355328:=by decide)
 rw [E.namesE,List.append_nil,hk,eE] at h1;rw [List.length_append,List.map_append,hl];exact h1
omit hT in
theorem aPV {c:AV} (h:jC c=true):aBl (uP c)=c:=by cases c <;> simp only [jC,fK] at h <;> rfl
omit hT in
theorem aVt (E:EOk k e) (l:List α):(l.map (ow e)).map (List.map aBl)=l.map e:=by
 rw [List.map_map];refine aDI λx _=>?_;simp only [Function.comp,ow,List.map_map]
 have: ∀ {cs:List AV},(∀ c∈cs,jC c=true)→cs.map (aBl∘uP)=cs:=by
  intro cs;induction cs with
  |nil=>intro _;rfl
  |cons c cs ih=>intro h;rw [List.map_cons,ih λd hd=>h d (by simp [hd])];simp only [Function.comp];rw [aPV (h c (by simp))]
 exact this (E.mem x)
omit hT in
theorem eP {h:Hp} {b n:Nat} {l:List α} (E:EOk k e) (hb:h b=some ⟨k,l.map (ow e)⟩) (hl:l.length=n):view1 h (.own b 0 n) (.list k (l.map e)):=aPI hb rfl (by simp [hl]) (E.views l)
omit hT in
theorem aPW {h:Hp} {b n:Nat} {l:List α} (E:EOk k e) (hb:h b=some ⟨k,l.map (ow e)⟩) (hl:l.length=n):viewA h (.own b 0 n) (.list k (l.map e)):=eP E hb hl
omit hT in
theorem aQd {h:Hp} {b n:Nat} {l:List α} (E:EOk k e) (hb:h b=some ⟨k,l.map e⟩) (hl:l.length=n):view1 h (.own b 0 n) (.list k (l.map e)):=aPI hb rfl (by simp [hl]) (E.sames l)
omit hT in
theorem aWl {h:Hp} {b n:Nat} {l:List α} (E:EOk k e) (hb:h b=some ⟨k,l.map e⟩) (hl:l.length=n):viewA h (.own b 0 n) (.list k (l.map e)):=aQd E hb hl
omit hT in
theorem gD {h:Hp} {b n:Nat} {l:List α} (E:EOk k e) (hb:h b=some ⟨k,l.map (ow e)⟩) (hl:l.length=n):aEh h (.own b 0 n) (.list k (l.map e)):=⟨rfl,_,hb,by simp [hl],rfl,E.frzs l⟩
end
theorem gO {h:Hp} :All2 (aEh h) [] []:=rfl
theorem aZ {h:Hp} {x d:AV} {xs ds:List AV} (a:aEh h x d) (b:All2 (aEh h) xs ds):All2 (aEh h) (x::xs) (d::ds):=⟨d,ds,rfl,a,b⟩
theorem oN {h:Hp} {cs ds:List AV} (a:All2 (aEh h) cs ds):aIc h [.agg cs] (.agg ds):=⟨a,by intro _ h;cases h⟩
theorem nX {h:Hp} {x:AV} {k:Nat} {es:List (List AV)} (a:aEh h x (.list k es)):aIc h [x] (.list k es):=by
 refine ⟨?_,by intro _ h;cases h⟩;cases x <;> exact a
theorem zK {h:Hp} {x d:AV} (a:aEh h x d):aHF h x d:=by
 unfold aHF;split
 ·exact a.elim
 ·exact a
theorem aAa {h:Hp} {cs ds:List AV} (a:All2 (aEh h) cs ds):aHF h (.agg cs) (.agg ds):=a
theorem lE {h:Hp} :All2 (aHF h) [] []:=rfl
theorem cZ {h:Hp} {x d:AV} {xs ds:List AV} (a:aHF h x d) (b:All2 (aHF h) xs ds):All2 (aHF h) (x::xs) (d::ds):=⟨d,ds,rfl,a,b⟩
theorem gA {h:Hp} {vs rs:List AV} (hl:Nat.beq vs.length 1=false) (a:All2 (aHF h) vs rs):aIc h vs (.tuple rs):=by
 have h1:vs.length≠1:=by intro e;rw [e] at hl;cases hl
 cases vs with
 |nil=>exact ⟨h1,a⟩
 |cons v vs=>
  cases vs with
  |nil=>exact absurd rfl h1
  |cons u vs=>exact ⟨h1,a⟩
section
variable {s:AState}
theorem sY {b b' j n k k':Nat} {A es es':List (List AV)} {c:List AV} (hb:s.heap b=some ⟨k,A++[c]⟩) (hj:c[j]? =some (.own b' 0 n)) (hb':s.heap b'=some ⟨k',es⟩) (hne:Nat.beq b b'=false) (hn:es.length=n) (hf:All2 (All2 aDS) es es'):
  Ent s ⟨s.env,aU [(b',none),(b,some ⟨k,A++[aBM c j [.abs k' es']]⟩)] s.heap,s.used,s.ns,s.kp⟩:=by
 have h:=aBv (i:=A.length) hb (by simp) hj hb' hne hn rfl hf;have e:(A++[c]).set A.length (aBM c j [.abs k' es'])=A++[aBM c j [.abs k' es']]:=by rw [List.set_append_right _ _ (bK _),Nat.sub_self];rfl
 simp only [e] at h;exact h
theorem aAR {b b' i j n k k':Nat} {A es es':List (List AV)} {c:List AV} (hi:i<A.length) (hb:s.heap b=some ⟨k,A.set i c⟩) (hj:c[j]? =some (.own b' 0 n)) (hb':s.heap b'=some ⟨k',es⟩) (hne:Nat.beq b b'=false) (hn:es.length=n) (hf:All2 (All2 aDS) es es'):
  Ent s ⟨s.env,aU [(b',none),(b,some ⟨k,A.set i (aBM c j [.abs k' es'])⟩)] s.heap,s.used,s.ns,s.kp⟩:=by
 have h:=aBv (i:=i) hb (by simp [hi]) hj hb' hne hn rfl hf;simp only [List.set_set] at h;exact h
end
theorem aP {α β:Type} (f:α→β) (l:List α):(l.map f).length=l.length:=eE ..
end
noncomputable section
theorem jJ:Tryz.prog.follows .mixedOrders=true:=by kernel_rfl
def dX {α:Type} (k:Nat) (e:α→List AV) (l:List α):List AV:=[.list k (l.map e)]
theorem bT:EOk 1 eI:=⟨λ_=>rfl,λ_=>rfl⟩
theorem bY {α:Type} {k:Nat} {e:α→List AV} :EOk 1 (dX k e):=⟨λ_=>rfl,λ_=>rfl⟩
theorem cB:EOk 3 eM:=⟨λ_=>rfl,λ_=>rfl⟩
theorem kN:EOk 6 eR:=⟨λ_=>rfl,λ_=>rfl⟩
theorem bX:EOk 2 eS:=⟨λ_=>rfl,λ_=>rfl⟩
theorem qN:EOk 3 eB:=⟨λ_=>rfl,λ_=>rfl⟩
theorem sZ:EOk 1 (ow eI):=⟨λ_=>rfl,λ_=>rfl⟩
theorem EOk.own {α:Type} {k:Nat} {e:α→List AV} (E:EOk k e) (h: ∀ x,(ow e x).all jC=true):EOk k (ow e):=⟨λx=>by simp [ow,E.len],h⟩
theorem aBR {nb nb':List (Nat×Blk)} {ed:List (Nat×Option Blk)} (h:nb=nb') (e:pM nb'=ed:=by rfl):pM nb=ed:=by rw [h];exact e
theorem xT (σ:Nat→Option Nat) {n:Nat} {cs:List AV} (h:cs.all dU=true):All2 (fZ σ n) cs cs:=by
 induction cs with
 |nil=>rfl
 |cons c cs ih=>
  simp only [List.all_cons,cI] at h;refine ⟨c,cs,rfl,?_,ih h.2⟩;cases c <;> simp only [dU,fK,false_and] at h <;> simp [fZ]
theorem aDf {α:Type} {e:α→List AV} {z:α} (n:Nat):List.replicate n (ow e z)=(List.replicate n z).map (ow e):=(List.map_replicate ..).symm
section
variable {h:Hp}
theorem aVu {k b n:Nat} {es fs:List (List AV)} (hb:h b=some ⟨k,es⟩) (hn:n=es.length) (v:All2 (All2 view0) es fs):view1 h (.own b 0 n) (.list k fs):=aPI hb rfl hn v
theorem aPX {k b n:Nat} {es fs:List (List AV)} (hb:h b=some ⟨k,es⟩) (hn:n=es.length) (v:All2 (All2 view0) es fs):viewA h (.own b 0 n) (.list k fs):=aVu hb hn v
theorem aET:All2 (viewP h) [] []:=rfl
theorem aEU {x d:AV} {xs ds:List AV} (a:viewP h x d) (b:All2 (viewP h) xs ds):All2 (viewP h) (x::xs) (d::ds):=⟨d,ds,rfl,a,b⟩
theorem aUi {c:AV} (p:dU c=true):viewP h c c:=by cases c <;> simp only [dU,fK] at p <;> simp [viewP,view1,view0]
theorem aHN {b:Nat} {blk:Blk} {c cs:List AV} (hb:h b=some blk) (hi:blk.es[0]? =some c) (v:All2 (view1 h) c cs):viewP h (.ptr b 0 0) (.ref cs):=⟨blk,c,hb,hi,v⟩
theorem aLm {f:FuncId} {cs ds:List AV} (v:All2 (viewP h) cs ds):viewA h (.fn f cs) (.fn f ds):=⟨rfl,v⟩
theorem aKD: ∀ {cs:List AV},cs.all dU=true→All2 (viewP h) cs cs
 | [],_=>rfl
 |c::cs,p=>by simp only [List.all_cons,cI] at p;exact ⟨c,cs,rfl,aUi p.1,aKD p.2⟩
theorem aSu {f:FuncId} {cs:List AV} (p:cs.all dU=true):viewA h (.fn f cs) (.fn f cs):=⟨rfl,aKD p⟩
end
theorem aBS:aIJ (.agg []):=by intro _ h;cases h
theorem bW {c:AV} {cs:List AV} (a:aNj c) (b:aIJ (.agg cs)):aIJ (.agg (c::cs)):=by
 intro d hd;rcases eH.1 hd with rfl|h
 ·exact a
 ·exact b d h
theorem aCD:aIL (.tuple []):=by intro _ h;cases h
theorem jT {c:AV} {cs:List AV} (a:aIJ c) (b:aIL (.tuple cs)):aIL (.tuple (c::cs)):=by
 intro d hd;rcases eH.1 hd with rfl|h
 ·exact a
 ·exact b d h
section
variable {P:Program} {T:List (Nat×Ty)} {dst:Option Tmp} {ty:TypeId} {pos:String} {aft:Array Edge} {g:Option (Nat×Bool)} {s:AState}
theorem aCz (hT:TyOk P T) {t e:TypeId} {y ye:Ty} {l c:Operand} {kl kc:IntKind} {n:Int} {b:Nat} (q:(decide (0≤n)&&decide (n≤1048576))=true) (hns:s.ns.head?=some b) (hl:s.ev l=some (.sc (.int kl n))) (hc:s.ev c=some (.sc (.int kc n))) (hy:dE T t=some y) (hd:y.desc= .slice e) (hye:dE T e=some ye) (hz:ye.zero.length=ye.size) (hb:Nat.ble ye.bytes 32768=true):
  AEff P ⟨dst,.makeSlice t l c,ty,pos,aft,g⟩ s.ev s.heap s.kp ⟨.own b 0 n.toNat,[],[(b,some ⟨ye.size,List.replicate n.toNat ye.zero⟩)],[b]⟩:=by
 simp only [cI,iC] at q;refine aVr hT hns hl hc hy hd hye hz q.1 (by omega) ?_;have hb:=Nat.le_of_ble_eq_true hb
 calc n.toNat*ye.bytes≤1048576*32768:=Nat.mul_le_mul (by omega) hb
  _≤140737488355328:=by decide
theorem aGC {fo:Operand} {xs:Array Operand} {ats:Array TypeId} {f:FuncId} {caps avs ds1:List AV} {u:Value} (hcap:caps.all dU=true) (hc:HasC P f (ds1++caps) (.sc u)) (hf:s.ev fo=some (.fn f caps)) (hx:evs s.ev xs.toList=some avs) (hv1:All2 (viewA s.heap) avs ds1):
  AEff P ⟨dst,.call ⟨.value fo,xs,ats⟩,ty,pos,aft,g⟩ s.ev s.heap s.kp ⟨.sc u,avs.flatMap (mJ s.heap)++caps.flatMap (pL s.heap),[],[]⟩:=
 aJq (ds1:=ds1) (ds2:=caps) (ns:=[]) (nb:=[]) (r:= .sc u) (x:= .sc u) hf hx hc hv1 (aKD hcap) trivial (aMg [] u) rfl (by simp)
end
end
noncomputable section
def iN (σ:Nat→Option Nat) (ν:Nu):Nu:=⟨λb=>match σ b with|some b0=>ν b0|none=>none,ν.ok⟩
structure Conv (σ:Nat→Option Nat) (n:Nat) (w:World) (h:Hp) (u:Us) (ν:Nu) (hl:List (Nat×Blk)):Prop where
 free: ∀ x,pI h ν x→pI (eV hl) (iN σ ν) x
 rep: ∀ {x y:AV} {v:Value},RepA w h u ν x v→pJ σ n x y→RepA w (eV hl) (nW n) (iN σ ν) y v
 heap: ∀ {M:Nat→Prop} {φ:Nat→List Nat},HeapOk M w h u ν φ→HeapOk M w (eV hl) (nW n) (iN σ ν) (λb=>match σ b with|some b0=>φ b0|none=>[])
 look: ∀ b y,eV hl b=some y→(∀ b0,σ b=some b0→ ∃ x,h b0=some x∧x.k=y.k∧x.es.length=y.es.length)∧Nat.blt b n=true
theorem aBx {σ:Nat→Option Nat} {n:Nat} {w:World} {h:Hp} {u:Us} {ν:Nu} {hl:List (Nat×Blk)} (hh:pK σ n h hl) (hi:aCr σ hl=true):Conv σ n w h u ν hl:=by
 generalize hν':iN σ ν=ν';have hνok:ν'.ok=ν.ok:=by rw [←hν'];rfl
 have hνb: ∀ b,ν' b=match σ b with|some b0=>ν b0|none=>none:=λb=>by rw [←hν'];rfl
 have hlive: ∀ b y,eV hl b=some y→(match σ b with|some b0=> ∃ x,h b0=some x∧aFL σ n x y|none=>y.es=[])∧Nat.blt b n=true:=λb y h=>aJl hh (jS h)
 have hlen: ∀ {x y:Blk},aFL σ n x y→x.k=y.k∧x.es.length=y.es.length:=by
  rintro x y ⟨h1,h2|h2⟩
  ·exact ⟨h1,by rw [h2.1]⟩
  ·exact ⟨h1,h2.len.symm⟩
 have hfree: ∀ x,pI h ν x→pI (eV hl) ν' x:=by
  intro x hf b y β c hb hν;have h1:=(hlive b y hb).1;cases hσ:σ b with
  |none=>simp only [hνb,hσ] at hν;cases hν
  |some b0=>
   rw [hσ] at h1;simp only [hνb,hσ] at hν;obtain ⟨z,h2,_⟩:=h1;exact hf b0 z β c h2 hν
 have m1: ∀ {x y:AV} {v:Value},Rep1 w h u ν x v→fZ σ n x y→Rep1 w (eV hl) (nW n) ν' y v:=by
  intro x y v r m;cases y
  case dead=>trivial
  case sc u=>cases x <;> simp only [fZ] at m <;> first|exact m.elim|(subst m;exact r)
  case nil k=>cases x <;> simp only [fZ] at m <;> first|exact m.elim|exact r
  case list k es=>
   cases x <;> simp only [fZ] at m <;> first|exact m.elim|skip
   ·subst m;simp only [Rep1] at r ⊢;exact ⟨[],by rw [r];exact aCQ,by simp⟩
   ·obtain ⟨rfl,rfl⟩:=m;obtain ⟨S,r1,r2⟩:=r;exact ⟨S,r1,λx hx=>⟨hfree x (r2 x hx).1,by rw [hνok];exact (r2 x hx).2⟩⟩
  case ref cs=>
   cases x <;> simp only [fZ] at m <;> first|exact m.elim|skip
   subst m;obtain ⟨S,r1,r2⟩:=r;exact ⟨S,r1,λx hx=>⟨hfree x (r2 x hx).1,by rw [hνok];exact (r2 x hx).2⟩⟩
  case own b i q=>
   cases x <;> simp only [fZ] at m <;> first|exact m.elim|skip
   ·obtain ⟨m1,rfl,rfl,m4⟩:=m;simp only [Rep1] at r ⊢;refine ⟨m4,λblk hb=>?_⟩;have h1:=(hlive b blk hb).1;rw [m1] at h1;refine ⟨by simp,λ_=>r,λβ c hν=>?_⟩;simp only [hνb,m1] at hν;cases hν
   ·rename_i b0 i0 q0;obtain ⟨m1,rfl,rfl,m4⟩:=m;simp only [Rep1] at r ⊢;refine ⟨m4,λblk hb=>?_⟩;have h1:=(hlive b blk hb).1;rw [m1] at h1;obtain ⟨z,h2,h3⟩:=h1;obtain ⟨k1,k2⟩:=hlen h3;obtain ⟨r1,r2,r3⟩:=r.2 z h2;refine ⟨by rw [←k2];exact r1,λhν=>r2 (by simpa only [hνb,m1] using hν),λβ c hν=>?_⟩;rw [←k1];exact r3 β c (by simpa only [hνb,m1] using hν)
  case ptr b i q=>
   cases x <;> simp only [fZ] at m <;> first|exact m.elim|skip
   rename_i b0 i0 q0;obtain ⟨m1,rfl,rfl,m4⟩:=m;simp only [Rep1] at r ⊢;refine ⟨m4,λblk hb=>?_⟩;have h1:=(hlive b blk hb).1;rw [m1] at h1;obtain ⟨z,h2,h3⟩:=h1;obtain ⟨k1,k2⟩:=hlen h3;obtain ⟨β,c,r1,r2⟩:=r.2 z h2;exact ⟨β,c,by simpa only [hνb,m1] using r1,by rw [←k1];exact r2⟩
  all_goals (cases x <;> simp only [fZ] at m)
 have mL: ∀ {xs ys:List AV} {vs:List Value},All2 (Rep1 w h u ν) xs vs→All2 (fZ σ n) xs ys→All2 (Rep1 w (eV hl) (nW n) ν') ys vs:=by
  intro xs;induction xs with
  |nil=>intro ys vs r m;simp only [All2] at r m;subst r m;rfl
  |cons x xs ih=>
   rintro ys vs ⟨v,r,rfl,h1,h2⟩ ⟨y,q,rfl,k1,k2⟩;exact ⟨v,r,rfl,m1 h1 k1,ih h2 k2⟩
 have mC: ∀ {x y:AV} {v:Value} {S:List Nat},CellRep w h u ν x v S→kL σ n x y→CellRep w (eV hl) (nW n) ν' y v S:=by
  intro x y v S r m
  cases x <;> cases y <;> simp only [kL] at m <;> simp only [CellRep] at r ⊢ <;> first
   |exact m.elim
   |exact r.elim
   |exact ⟨m1 r.1 m,r.2⟩
   |(obtain ⟨rfl,rfl⟩:=m;exact r)
   |(obtain ⟨r1,rfl⟩:=r;subst m;simp only [Rep1] at r1;rw [r1];exact aFm)
   |(simp only [fZ] at m)
 have mCs: ∀ {xs ys:List AV} {vs:List Value} {S:List Nat},CellsRep w h u ν xs vs S→All2 (kL σ n) xs ys→CellsRep w (eV hl) (nW n) ν' ys vs S:=by
  intro xs;induction xs with
  |nil=>intro ys vs S r m;simp only [All2] at m;subst m;exact r
  |cons x xs ih=>
   rintro ys vs S ⟨v,r,S1,S2,rfl,rfl,h1,h2⟩ ⟨y,q,rfl,k1,k2⟩;exact ⟨v,r,S1,S2,rfl,rfl,mC h1 k1,ih h2 k2⟩
 have mSelf: ∀ {xs:List AV} {vs:List Value} {S:List Nat},CellsRep w h u ν xs vs S→(∀ c∈xs,uV c=true)→CellsRep w (eV hl) (nW n) ν' xs vs S:=by
  intro xs vs S r hp;refine mCs r ?_;clear r;induction xs with
  |nil=>rfl
  |cons x xs ih=>
   refine ⟨x,xs,rfl,?_,ih (λc hc=>hp c (by simp [hc]))⟩;have:=hp x (by simp);cases x <;> simp only [uV,fK] at this <;> simp [kL,fZ]
 have mFlat: ∀ {es fs:List (List AV)} {R:AV→AV→Prop},All2 (All2 R) es fs→All2 R es.flatten fs.flatten:=by
  intro es;induction es with
  |nil=>intro fs R h;simp only [All2] at h;subst h;rfl
  |cons c es ih=>
   rintro fs R ⟨d,fs',rfl,h1,h2⟩;rw [List.flatten_cons,List.flatten_cons];exact h1.append (ih h2)
 have mlens: ∀ {es fs:List (List AV)} {k:Nat},All2 (All2 (kL σ n)) es fs→(∀ cs∈es,cs.length=k)→ ∀ cs∈fs,cs.length=k:=by
  intro es;induction es with
  |nil=>intro fs k h _ cs hcs;simp only [All2] at h;subst h;cases hcs
  |cons c es ih=>
   rintro fs k ⟨d,fs',rfl,h1,h2⟩ hk cs hcs;rcases eH.1 hcs with rfl|h
   ·rw [h1.len];exact hk c (by simp)
   ·exact ih h2 (λx hx=>hk x (by simp [hx])) cs h
 subst hν';refine ⟨hfree,?_,?_,λb y hb=>⟨λb0 e=>?_,(hlive b y hb).2⟩⟩
 ·intro x y v h4 h2
  cases x <;> cases y <;> simp only [pJ] at h2 <;> simp only [RepA,RepB] at h4 ⊢ <;> first
   |exact m1 h4 h2
   |(obtain ⟨vs,e1,e2⟩:=h4;exact ⟨vs,e1,mL e2 h2⟩)
   |(obtain ⟨vs,e1,e2⟩:=h4;obtain ⟨rfl,h2⟩:=h2;exact ⟨vs,e1,mL e2 h2⟩)
   |trivial
   |(simp only [fZ] at h2)
 ·intro M φ hφ;refine ⟨?_,?_⟩
  ·intro b y hb;obtain ⟨h1,h2⟩:=hlive b y hb;refine ⟨h2,?_⟩;cases hσ:σ b with
   |none=>
    rw [hσ] at h1;simp only;exact ⟨⟨by rw [h1];simp,.inl ⟨by simp only [hνb,hσ],h1,rfl⟩⟩,by simp,by simp⟩
   |some b0=>
    rw [hσ] at h1;simp only;obtain ⟨x,h3,h4⟩:=h1;obtain ⟨g1,⟨g2,g3⟩,g4,g5⟩:=hφ.blk b0 x h3;obtain ⟨k1,k2⟩:=hlen h4;refine ⟨⟨?_,?_⟩,g4,g5⟩
    ·rcases h4.2 with ⟨e1,_⟩|e1
     ·rw [←e1,←k1];exact g2
     ·rw [←k1];exact mlens e1 g2
    ·rcases g3 with ⟨q1,q2,q3⟩|⟨β,c,arr,ty,T,vs,q1,q2,q3,q4,q5,q6,q7,q8⟩
     ·exact .inl ⟨by simp only [hνb,hσ];exact q1,by rw [q2] at k2;exact List.eq_nil_of_length_eq_zero k2.symm,q3⟩
     ·refine .inr ⟨β,c,arr,ty,T,vs,by simp only [hνb,hσ];exact q1,q2,by rw [←k1];exact q3,by rw [←k2];exact q4,q5,q6,by rw [←k1,←k2];exact q7,?_⟩;rcases h4.2 with ⟨e1,e2⟩|e1
      ·rw [e1] at q8;exact mSelf q8 (λc hc=>by obtain ⟨cs,hcs,hc'⟩:=List.mem_flatten.1 hc;exact e2 cs hcs c hc')
      ·exact mCs q8 (mFlat e1)
  ·intro b c z hb hc hne hzb hzc;obtain ⟨y1,hy1⟩:=Option.ne_none_iff_exists'.1 hb;obtain ⟨y2,hy2⟩:=Option.ne_none_iff_exists'.1 hc;have i1:=(aJm hi (jS hy1) (jS hy2)).2 hne;have l1:=(hlive b y1 hy1).1;have l2:=(hlive c y2 hy2).1;cases h1:σ b with
   |none=>rw [h1] at hzb;cases hzb
   |some b0=>
    cases h2:σ c with
    |none=>rw [h2] at hzc;cases hzc
    |some c0=>
     rw [h1] at hzb l1;rw [h2] at hzc l2;obtain ⟨x1,p1,_⟩:=l1;obtain ⟨x2,p2,_⟩:=l2;exact hφ.apart b0 c0 z (by rw [p1];simp) (by rw [p2];simp) (λe=>i1 b0 h1 (by rw [h2,e])) hzb hzc
 ·have h1:=(hlive b y hb).1;rw [e] at h1;obtain ⟨x,h2,h3⟩:=h1;exact ⟨x,h2,(hlen h3).1,(hlen h3).2⟩
end
noncomputable section
structure HasE (P:Program) (f:FuncId) (ds:List AV) (hl:List (Nat×Blk)) (kp:Nat) (r:AV) (hl':List (Nat×Blk)):Prop where
 enters:Enters P f
 calls: ∀ (B:Nat) (M:Nat→Prop) (w:World) (args:Array Value) (ν:Nu) (φ:Nat→List Nat),(∀ x,M x→B≤x)→B≤w.heap.size→(∀ x,w.heap.size≤x→M x)→(∀ x,M x→ν.ok x)→All2 (RepA w (eV hl) (nW kp) ν) ds args.toList→HeapOk M w (eV hl) (nW kp) ν φ→
  Calls P f args w λe w'=> ∃ v u' ν' φ',e= .returned v∧Below B w w'∧Ext w (eV hl) (nW kp) ν w' (eV hl') u' ν'∧HeapOk M w' (eV hl') u' ν' φ'∧RepA w' (eV hl') u' ν' r v
def aOA:AV→Bool
 | .tuple _=>false
 |_=>true
def aVv (vs:List AV) (r:AV):Prop:=(vs=[r])∨(vs.length≠1∧vs.all aOA=true∧r= .tuple vs)
def aSv (h:Hp):List (Nat×Blk)→Prop
 | []=>True
 |(b,y)::r=>h b=some y∧aSv h r
theorem aHO {h:Hp} : ∀ {l:List (Nat×Blk)},aSv h l→ ∀ {b:Nat} {y:Blk},(b,y)∈l→h b=some y
 |(c,z)::r,⟨h1,h2⟩,b,y,hm=>by
  rcases eH.1 hm with e|hm'
  ·obtain ⟨rfl,rfl⟩:=Prod.mk.inj e;exact h1
  ·exact aHO h2 hm'
def aWm (T:List (Nat×Ty)) (rvs:List ResultVar) (r:AV) (hl':List (Nat×Blk)) (e:Exit) (t:AState):Prop:=aDL e=true∧(∃ vs,vD T t rvs=some vs∧aVv vs r)∧aSv t.heap hl'
theorem Ext.shrink {w w':World} {h h' g:Hp} {u u':Us} {ν ν':Nu} (e:Ext w h u ν w' h' u' ν') (hg: ∀ b blk,g b=some blk→h' b=some blk):Ext w h u ν w' g u' ν':=
 ⟨e.used,λb blk hb hgb=>e.old b blk hb (hg b blk hgb),λx hx hf=>⟨(e.free x hx hf).1,λb blk β c hb hν=>(e.free x hx hf).2 b blk β c (hg b blk hb) hν⟩,e.okE⟩
theorem HeapOk.shrink {M M':Nat→Prop} {w:World} {h g:Hp} {u:Us} {ν:Nu} {φ:Nat→List Nat} (hh:HeapOk M w h u ν φ) (hg: ∀ b blk,g b=some blk→h b=some blk) (hM: ∀ b x,g b≠none→x∈φ b→M x→M' x):HeapOk M' w g u ν φ where
 blk:=λb blk hb=>by
  obtain ⟨g1,g2,g3,g4⟩:=hh.blk b blk (hg b blk hb);exact ⟨g1,g2.ext ((Ext.refl w h u ν).shrink hg) rfl (λ_ _=>rfl),g3,λx hx=>hM b x (by rw [hb];simp) hx (g4 x hx)⟩
 apart:=λb c x hb hc hne hxb hxc=>by
  obtain ⟨y1,h1⟩:=Option.ne_none_iff_exists'.1 hb;obtain ⟨y2,h2⟩:=Option.ne_none_iff_exists'.1 hc;exact hh.apart b c x (by rw [hg b y1 h1];simp) (by rw [hg c y2 h2];simp) hne hxb hxc
theorem aDg: ∀ {l:List AV} {t:Nat},aCu l t=l[t]?
 | [],_=>by simp [aCu]
 |_::_,0=>by simp [aCu]
 |_::r,t+1=>by simpa [aCu] using aDg (l:=r) (t:=t)
theorem aSw {w:World} {h:Hp} {u:Us} {ν:Nu} {x:AV} {v:Value} (r:RepA w h u ν x v) (hx:aOA x=true):RepB w h u ν x v:=by
 cases x <;> first|exact r|cases hx
theorem pO {P:Program} {T:List (Nat×Ty)} (hT:TyOk P T) {f:FuncId} {fn:Func} {c:Code} {nt kp:Nat} {ds:List AV} {hl hl':List (Nat×Blk)} {r:AV} {rvs:List ResultVar} {ns:List Nat} (hf:P.funcs[f]? =some fn) (hb:fn.body=some c) (hname:(fn.name== "runtime.NumGoroutine")=false) (hnt:fn.ntmps=nt) (hres:fn.results.toList=rvs)
  (hlen:Nat.ble ds.length nt=true) (h:AC P nt c ⟨aCu ds,eV hl,nW kp,ns,⟨kp,false,none,true⟩⟩ (λe t=> ∃ t',Ent t t'∧aWm T rvs r hl' e t')):HasE P f ds hl kp r hl':=by
 refine ⟨Enters.mk hf (by rw [hb];rfl) hname,λB M w args ν φ hMB hB hM hMo hargs hheap=>?_⟩;refine (callsIn_wide (n:=0)).1 (callsIn_of_wp_marks (F:=fw none) hf hb trivial ?_);have hlen':=Nat.le_of_ble_eq_true hlen;have hal:args.size=ds.length:=by have:=hargs.len;simpa using this
 let C:Ctx:=⟨B,w,nt,M,hMB,⟨kp,false,none,true⟩,w,eV hl,ν,pI (eV hl) ν,(λh=>by cases h),(λ_ h=>by cases h),none,λ_=>rfl⟩
 have hsim:Sim C ⟨aCu ds,eV hl,nW kp,ns,⟨kp,false,none,true⟩⟩ ν ⟨args++Array.replicate (fn.ntmps - args.size) undef,[]⟩ w:=by
  refine ⟨Below.refl _ _,hB,hM,nU,by show (args++Array.replicate (fn.ntmps - args.size) undef).size=nt;simp [hnt];omega,?_,⟨φ,hheap⟩,rfl,ExtF.refl λ_ _ h=>h,bK _,hMo,λ_ h=>by cases h⟩;intro t x hx;have hx':ds[t]? =some x:=by rw [←aDg];exact hx
  obtain ⟨v,h1,h2⟩:=hargs.get hx';refine ⟨v,?_,h2⟩
  have hlt:t<args.size:=by
   rcases dP t args.size with h'|h'
   ·exact h'
   ·rw [gM (by simpa using h')] at h1;cases h1
  show (args++Array.replicate (fn.ntmps - args.size) undef)[t]? =some v;rw [Array.getElem?_append_left hlt];simpa using h1
 refine wpIn_mono (h.out C rfl _ _ w hsim 0) λe a' w0 ⟨s1,ν1,⟨s',hent,hq⟩,hs1⟩=>?_;obtain ⟨ν',hs0⟩:=hent C ν1 a' w0 hs1;obtain ⟨Ds,d1,d2,d3⟩:=hs0.defers;obtain ⟨w',hs',hleave⟩:=hs0.leave (P:=P) (n:=0) d1 d2 d3;obtain ⟨he,⟨avs,hv,hone⟩,hsame⟩:=hq;have hsub: ∀ b blk,eV hl' b=some blk→s'.heap b=some blk:=λb blk hb=>aHO hsame (jS hb);obtain ⟨us,h1,h2⟩:=xO hT hs' hv;obtain ⟨φ',hh⟩:=hs'.heap
 have hrun:(results fn a'.tmps).run P w'= .ok (if hh:us.toArray.size=1 then us.toArray[0] else .tuple us.toArray) w':=by
  unfold results;rw [Sem.run_bind,Array.mapM_eq_mapM_toList,Sem.run_map,hres];have h1':=h1;generalize hq:(List.mapM _ rvs:Sem (List Value))=m;rw [show Sem.run P m w'= .ok us w' by rw [←hq];exact h1'];simp
 have shr:=(Ext.refl w' s'.heap s'.used ν').shrink hsub
 have hrep:RepA w' (eV hl') s'.used ν' r (if hh:us.toArray.size=1 then us.toArray[0] else .tuple us.toArray):=by
  rcases hone with rfl|⟨g1,g2,rfl⟩
  ·obtain ⟨u,q,rfl,k1,k2⟩:=h2;simp only [All2] at k2;subst k2;exact k1.ext shr
  ·have hul:us.length=avs.length:=h2.len;rw [dif_neg (by simp;rw [hul];exact g1)];refine ⟨us,rfl,h2.congrM λx hx v hr=>?_⟩;exact aSw (hr.ext shr) (List.all_eq_true.1 g2 x hx)
 have hend:=hleave fn (λe w'=> ∃ v u' ν' φ',e= .returned v∧Below B w w'∧Ext w (eV hl) (nW kp) ν w' (eV hl') u' ν'∧HeapOk M w' (eV hl') u' ν' φ'∧RepA w' (eV hl') u' ν' r v)
  ⟨_,hrun,_,s'.used,ν',φ',rfl,hs'.below,hs'.ext.ext.shrink hsub,hh.shrink hsub (λ_ _ _ _ h=>h),hrep⟩
 cases e <;> simp only [aDL,fK] at he <;> exact hend
def aIM (rl:List Nat):AV→Bool
 | .sc _=>true
 | .nil _=>true
 | .own b _ _=>rl.contains b
 | .ptr b _ _=>rl.contains b
 |_=>false
def aLn (rl:List Nat):AV→Bool
 | .abs _ _=>true
 |x=>aIM rl x
def aLo (rl:List Nat):AV→Bool
 | .agg cs=>cs.all (aIM rl)
 |x=>aIM rl x
def aLp (rl:List Nat):AV→Bool
 | .tuple cs=>cs.all (aLo rl)
 |x=>aLo rl x
def aKE (rl:List Nat):List (Nat×Blk)→Prop
 | []=>True
 |(b,y)::r=>rl.contains b=true∧(∀ cs∈y.es,∀ c∈cs,aLn rl c=true)∧aKE rl r
theorem aEV {rl:List Nat} : ∀ {l:List (Nat×Blk)},aKE rl l→ ∀ {b:Nat} {y:Blk},(b,y)∈l→rl.contains b=true∧ ∀ cs∈y.es,∀ c∈cs,aLn rl c=true
 |(c,z)::r,⟨h1,h2,h3⟩,b,y,hm=>by
  rcases eH.1 hm with e|hm'
  ·obtain ⟨rfl,rfl⟩:=Prod.mk.inj e;exact ⟨h1,h2⟩
  ·exact aEV h3 hm'
theorem EOk.tame {α:Type} {k:Nat} {e:α→List AV} (E:EOk k e) (rl:List Nat) (l:List α): ∀ cs∈l.map (ow e),∀ c∈cs,aLn rl c=true:=by
 intro cs hcs c hc;obtain ⟨x,_,rfl⟩:=List.mem_map.1 hcs;obtain ⟨d,hd,rfl⟩:=List.mem_map.1 hc;have:=E.mem x d hd;cases d <;> simp only [jC,fK] at this <;> rfl
def aAF (σ:Nat→Option Nat) (touch:List Nat):List (Nat×Blk)→Bool
 | []=>true
 |(b,_)::r=>(match σ b with|some x=>touch.contains x|none=>true)&&aAF σ touch r
theorem zL {σ:Nat→Option Nat} {n:Nat} {touch:List Nat} {h h':Hp} (hc: ∀ b∈touch,h' b=h b): ∀ {l:List (Nat×Blk)},aAF σ touch l=true→pK σ n h l→pK σ n h' l
 | [],_,_=>trivial
 |(b,y)::r,ht,⟨h1,h2,h3⟩=>by
  simp only [aAF,cI] at ht;refine ⟨?_,h2,zL hc ht.2 h3⟩;cases hσ:σ b with
  |none=>rw [hσ] at h1;exact h1
  |some x=>
   have h4:=ht.1;rw [hσ] at h1 h4;simp only at h1 h4 ⊢;obtain ⟨z,e1,e2⟩:=h1;exact ⟨z,by rw [hc x (by simpa using h4)];exact e1,e2⟩
def aDh (σ σ':Nat→Option Nat) (kp:Nat) (news:List Nat):List (Nat×Blk)→Bool
 | []=>true
 |(b,_)::r=>(match σ' b with|some i=>news.contains b||(Nat.blt i kp&&(match σ i with|some x=>Nat.beq x b|none=>false))|none=>false)&&aDh σ σ' kp news r
theorem aCX {σ σ':Nat→Option Nat} {kp:Nat} {news:List Nat} : ∀ {l:List (Nat×Blk)},aDh σ σ' kp news l=true→ ∀ {b:Nat} {y:Blk},(b,y)∈l→ ∃ i,σ' b=some i∧(b∈news∨(Nat.blt i kp=true∧σ i=some b))
 |(c,z)::r,h,b,y,hm=>by
  simp only [aDh,cI] at h;rcases eH.1 hm with e|hm'
  ·obtain ⟨rfl,rfl⟩:=Prod.mk.inj e;have h1:=h.1;cases hσ:σ' b with
   |none=>rw [hσ] at h1;cases h1
   |some i=>
    rw [hσ] at h1;simp only [Bool.or_eq_true,cI] at h1;refine ⟨i,rfl,?_⟩;rcases h1 with h1|⟨h1,h2⟩
    ·exact .inl (by simpa using h1)
    ·refine .inr ⟨h1,?_⟩;cases hσ2:σ i with
     |none=>rw [hσ2] at h2;cases h2
     |some x=>rw [hσ2] at h2;rw [Nat.eq_of_beq_eq_true h2]
  ·exact aCX h.2 hm'
def zN (rl:List Nat) (hl2:List (Nat×Blk)):List (Nat×Option Blk):=rl.map λb=>(b,eV hl2 b)
theorem aDi {h:Hp} {hl2:List (Nat×Blk)} {b:Nat} : ∀ {rl:List Nat},aU (zN rl hl2) h b=if b∈rl then eV hl2 b else h b
 | []=>by simp [zN,aU]
 |c::rl=>by
  have ih:=aDi (h:=h) (hl2:=hl2) (b:=b) (rl:=rl);simp only [zN,List.map_cons,aU] at ih ⊢;by_cases e:b=c
  ·subst e;simp
  ·rw [bO e,aS,ih];simp [e]
end
noncomputable section
section
variable {w:World} {h1 h2:Hp} {u1 u2:Us} {ν1 ν2:Nu} {rl:List Nat} (H: ∀ b∈rl,h2 b=h1 b) (N: ∀ b∈rl,ν2 b=ν1 b) (U: ∀ b∈rl,u2 b=true)
include H N U
theorem aHP {x:AV} {v:Value} (r:Rep1 w h1 u1 ν1 x v) (t:aIM rl x=true):Rep1 w h2 u2 ν2 x v:=by
 cases x <;> simp only [aIM,fK] at t <;> simp only [Rep1] at r ⊢
 ·exact r
 ·exact r
 ·rename_i b i n;have hb:b∈rl:=by simpa using t
  refine ⟨U b hb,λblk hbl=>?_⟩;rw [H b hb] at hbl;rw [N b hb];exact r.2 blk hbl
 ·rename_i b i n;have hb:b∈rl:=by simpa using t
  refine ⟨U b hb,λblk hbl=>?_⟩;rw [H b hb] at hbl;rw [N b hb];exact r.2 blk hbl
theorem aKF: ∀ {xs:List AV} {vs:List Value},All2 (Rep1 w h1 u1 ν1) xs vs→xs.all (aIM rl)=true→All2 (Rep1 w h2 u2 ν2) xs vs
 | [],vs,r,_=>r
 |x::xs,vs,⟨v,q,e,h,k⟩,t=>by
  simp only [List.all_cons,cI] at t;exact ⟨v,q,e,aHP H N U h t.1,aKF k t.2⟩
theorem aLq {x:AV} {v:Value} (r:RepB w h1 u1 ν1 x v) (t:aLo rl x=true):RepB w h2 u2 ν2 x v:=by
 cases x <;> simp only [RepB] at r ⊢ <;> first
  |exact aHP H N U r t
  |(obtain ⟨vs,e,r⟩:=r;exact ⟨vs,e,aKF H N U r t⟩)
  |(simp only [aLo,aIM,fK] at t)
theorem aHQ {x:AV} {v:Value} (r:RepA w h1 u1 ν1 x v) (t:aLp rl x=true):RepA w h2 u2 ν2 x v:=by
 by_cases ht: ∃ cs,x= .tuple cs
 ·obtain ⟨cs,rfl⟩:=ht;obtain ⟨vs,e,r⟩:=r;refine ⟨vs,e,r.congrM λy hy d hd=>aLq H N U hd ?_⟩;exact List.all_eq_true.1 t y hy
 ·have r':RepB w h1 u1 ν1 x v:=by cases x <;> first|exact r|exact absurd ⟨_,rfl⟩ ht
  have t':aLo rl x=true:=by cases x <;> first|exact t|exact absurd ⟨_,rfl⟩ ht
  have:=aLq H N U r' t';cases x <;> first|exact this|exact absurd ⟨_,rfl⟩ ht
theorem aRY {x:AV} {v:Value} {S:List Nat} (r:CellRep w h1 u1 ν1 x v S) (t:aLn rl x=true):CellRep w h2 u2 ν2 x v S:=by
 cases x <;> simp only [CellRep] at r ⊢ <;> first
  |exact ⟨aHP H N U r.1 t,r.2⟩
  |exact r
theorem aKG: ∀ {xs:List AV} {vs:List Value} {S:List Nat},CellsRep w h1 u1 ν1 xs vs S→(∀ c∈xs,aLn rl c=true)→CellsRep w h2 u2 ν2 xs vs S
 | [],_,_,r,_=>r
 |x::xs,vs,S,⟨v,q,S1,S2,e1,e2,h,k⟩,t=>⟨v,q,S1,S2,e1,e2,aRY H N U h (t x (by simp)),aKG k (λc hc=>t c (by simp [hc]))⟩
theorem aDj {b:Nat} {blk:Blk} {S:List Nat} (hb:b∈rl) (r:BlkOk w h1 u1 ν1 b blk S) (t: ∀ cs∈blk.es,∀ c∈cs,aLn rl c=true):BlkOk w h2 u2 ν2 b blk S:=by
 refine ⟨r.1,?_⟩;rcases r.2 with ⟨q1,q2,q3⟩|⟨β,c,arr,ty,T,vs,q1,q2,q3,q4,q5,q6,q7,q8⟩
 ·exact .inl ⟨(N b hb).trans q1,q2,q3⟩
 ·refine .inr ⟨β,c,arr,ty,T,vs,(N b hb).trans q1,q2,q3,q4,q5,q6,q7,aKG H N U q8 λc hc=>?_⟩;obtain ⟨cs,hcs,hc⟩:=List.mem_flatten.1 hc;exact t cs hcs c hc
end
theorem aCY {α β γ:Type} {R:α→γ→Prop} {Mt:α→β→Prop} {R':β→γ→Prop} (hc: ∀ x y v,R x v→Mt x y→R' y v): ∀ {xs:List α} {ys:List β} {vs:List γ},All2 R xs vs→All2 Mt xs ys→All2 R' ys vs
 | [],ys,vs,h,m=>by simp only [All2] at h m;subst h m;rfl
 |x::xs,ys,vs,⟨v,q,e,h,k⟩,⟨y,p,e2,m,m2⟩=>by
  subst e e2;exact ⟨v,q,rfl,hc x y v h m,aCY hc k m2⟩
theorem lF {w:World} {h:Hp} {u:Us} {ν:Nu} {b:Nat} {blk:Blk} {S:List Nat} (r:BlkOk w h u ν b blk S) {β c:Nat} (hν:ν b=some (β,c)):β∈S:=by
 rcases r.2 with ⟨q1,_,_⟩|⟨β',c',arr,ty,T,vs,q1,q2,q3,q4,q5,q6,q7,q8⟩
 ·rw [hν] at q1;cases q1
 ·rw [hν] at q1;cases q1;rw [q6];simp
section
variable {P:Program} {dst:Option Tmp} {ty:TypeId} {pos:String} {aft:Array Edge} {g:Option (Nat×Bool)} {ins:Operand→Option AV} {hp:Hp} {κ:Kp}
theorem aRZ {fo:Operand} {xs:Array Operand} {ats:Array TypeId} {f:FuncId} {caps avs av2 ds:List AV} {hl hl' hl2:List (Nat×Blk)} {kp n':Nat} {r r2:AV} {σ σ':Nat→Option Nat} {touch news:List Nat} {ed:List (Nat×Option Blk)}
  (hc:HasE P f ds hl kp r hl') (hf:ins fo=some (.fn f caps)) (hx:evs ins xs.toList=some avs) (href: ∀ (C:Ctx) (s:AState) (ν:Nu) (a:Act) (w:World) (vs:List Value),s.kp=κ→Sim C s ν a w→All2 (RepA w s.heap s.used ν) (avs++caps) vs→All2 (RepA w s.heap s.used ν) av2 vs) (hav:All2 (pJ σ kp) av2 ds) (hh:pK σ kp hp hl) (hi:aCr σ hl=true) (hit:aAF σ touch hl=true) (hlive:(touch.all λb=>(hp b).isSome)=true)
  (hh':pK σ' n' (eV hl') hl2) (hi':aCr σ' hl2=true) (hr:pJ σ' n' r r2) (hbk:aDh σ σ' kp news hl2=true) (htl:aKE (touch++news) hl2) (htr:aLp (touch++news) r2=true) (he:zN (touch++news) hl2=ed):
  AEff P ⟨dst,.call ⟨.value fo,xs,ats⟩,ty,pos,aft,g⟩ ins hp κ ⟨r2,touch,ed,news⟩:=by
 refine ⟨λC s ν a w Q K {hκ} hi0 ht hnw hd hs hK=>?_⟩;have hfn:=hs.ev ((hi0 fo (by simp [Op.operands,Call.operands])).trans hf);simp only [RepA,RepB] at hfn;obtain ⟨cv,hfv,hcap⟩:=hfn;have hval:=aAs hs (xs:=xs.toList) (λy hy=>hi0 y (by simp [Op.operands,Call.operands];exact .inr (Array.mem_toList_iff.1 hy))) hx;obtain ⟨φ,hφ⟩:=hs.heap;let h3:Hp:=λb=>if b∈touch then s.heap b else none
 have sub: ∀ b blk,h3 b=some blk→s.heap b=some blk∧b∈touch:=by
  intro b blk hb;by_cases e:b∈touch
  ·simp only [h3,bB e] at hb;exact ⟨hb,e⟩
  ·simp only [h3,bA e] at hb;cases hb
 let M2:Nat→Prop:=λx=>(∃ b,b∈touch∧s.heap b≠none∧x∈φ b)∨w.heap.size≤x
 have hM2: ∀ x,M2 x→C.M x:=by
  rintro x (⟨b,_,hb,hx⟩|hx)
  ·obtain ⟨blk,hb⟩:=Option.ne_none_iff_exists'.1 hb;exact (hφ.blk b blk hb).2.2.2 x hx
  ·exact hs.fresh x hx
 have hk3:HeapOk M2 w h3 s.used ν φ:=hφ.shrink (λb blk hb=>(sub b blk hb).1) (λb x hb hx _=>by
  obtain ⟨blk,hb⟩:=Option.ne_none_iff_exists'.1 hb;obtain ⟨e1,e2⟩:=sub b blk hb
  exact .inl ⟨b,e2,by rw [e1];simp,hx⟩)
 have hent:pK σ kp h3 hl:=zL (h:=hp) (touch:=touch) (λb hb=>by simp only [h3,bB hb];exact ht b hb) hit hh;have cv1:=aBx (w:=w) (u:=s.used) (ν:=ν) hent hi;have hk4:=cv1.heap hk3;have shr3:Ext w s.heap s.used ν w h3 s.used ν:=(Ext.refl _ _ _ _).shrink (λb blk hb=>(sub b blk hb).1)
 have hargs:All2 (RepA w (eV hl) (nW kp) (iN σ ν)) ds (xs.toList.map a.eval++cv):=
  aCY (R:=RepA w s.heap s.used ν) (Mt:=pJ σ kp) (R':=RepA w (eV hl) (nW kp) (iN σ ν)) (λx y v hx hm=>cv1.rep (RepA.ext shr3 hx) hm) (href C s ν a w _ hκ hs (hval.append (hcap.mono λx v h=>Rep1.repA h))) hav
 have hcall:=hc.calls C.B M2 w ((xs.map a.eval)++cv.toArray) (iN σ ν) _ (λx hx=>C.low x (hM2 x hx)) hs.base (λx hx=> .inr hx) (λx hx=>hs.okM x (hM2 x hx)) (by simpa using hargs) hk4;unfold Oper.wp
 have hex:(execOp a.eval ⟨dst,.call ⟨.value fo,xs,ats⟩,ty,pos,aft,g⟩).run P w= .ok (.enter f ((xs.map a.eval)++cv.toArray)) w:=by
  have:execOp a.eval ⟨dst,.call ⟨.value fo,xs,ats⟩,ty,pos,aft,g⟩=callFunc f ((xs.map a.eval)++cv.toArray):=by
   simp [execOp,resolve,hfv,Deferred.ofValue,invoke]
  rw [this];exact hc.enters _ _
 rw [hex];simp only [Oper.upon];refine hcall.mono λe w' ⟨v,u1,ν1,φ1,hev,hbel,hext,hh1,hrep⟩=>?_;subst hev;simp only;have cv2:=aBx (w:=w') (u:=u1) (ν:=ν1) hh' hi';have hh2:=cv2.heap hh1;generalize hrl:touch++news=rl at*;let ν':Nu:=⟨λb=>if b∈rl then iN σ' ν1 b else ν b,ν.ok⟩;have hν1: ∀ b,b∈rl→ν' b=iN σ' ν1 b:=λb hb=>bB hb;have hν2: ∀ b,b ∉ rl→ν' b=ν b:=λb hb=>bA hb;have hheq: ∀ b,aU ed s.heap b=if b∈rl then eV hl2 b else s.heap b:=λb=>by rw [←he];exact aDi
 have hhe1: ∀ b,b∈rl→aU ed s.heap b=eV hl2 b:=λb hb=>by rw [hheq,bB hb]
 have hhe2: ∀ b,b ∉ rl→aU ed s.heap b=s.heap b:=λb hb=>by rw [hheq,bA hb]
 have hused: ∀ b,b∈rl→fA news s.used b=true:=by
  intro b hb;rw [←hrl] at hb;rw [gJ];rcases eG.1 hb with h|h
  ·have h5:=List.all_eq_true.1 hlive b h;rw [←ht b h] at h5;cases hq:s.heap b with
   |none=>rw [hq] at h5;cases h5
   |some blk=>rw [(hφ.blk b blk hq).1,Bool.or_true]
  ·have:news.contains b=true:=by simpa using h
   rw [this,Bool.true_or]
 have hfree3: ∀ x,pI s.heap ν x→pI (eV hl) (iN σ ν) x:=λx hf=>cv1.free x λb blk β c hb hν=>hf b blk β c (sub b blk hb).1 hν
 have extc:Ext w s.heap s.used ν w' (aU ed s.heap) (fA news s.used) ν':=by
  refine ⟨λb hb=>by rw [gJ,hb,Bool.or_true],λb blk' hu hb=>?_,λx hx hfr=>?_,rfl⟩
  ·by_cases e:b∈rl
   ·rw [hhe1 b e] at hb;obtain ⟨i,e1,e2⟩:=aCX hbk (jS hb);obtain ⟨x,f1,f2,f3⟩:=(cv2.look b blk' hb).1 i e1;rcases e2 with e2|⟨e2,e3⟩
    ·rw [hnw b e2] at hu;cases hu
    ·obtain ⟨blk0,g1,g2,g3,g4⟩:=hext.old i x e2 f1;obtain ⟨z,k1,k2,k3⟩:=(cv1.look i blk0 g1).1 b e3;refine ⟨z,(sub b z k1).1,k2.trans (g2.trans f2),k3.trans (g3.trans f3),?_⟩;rw [hν1 b e];simp only [iN,e1];rw [g4];simp only [iN,e3]
   ·rw [hhe2 b e] at hb;exact ⟨blk',hb,rfl,rfl,hν2 b e⟩
  ·obtain ⟨p1,p2⟩:=hext.free x hx (hfree3 x hfr);refine ⟨p1,λb blk β c hb hν=>?_⟩;by_cases e:b∈rl
   ·rw [hhe1 b e] at hb;rw [hν1 b e] at hν;exact cv2.free x p2 b blk β c hb hν
   ·rw [hhe2 b e] at hb;rw [hν2 b e] at hν;exact hfr b blk β c hb hν
 have hout: ∀ b blk x,s.heap b=some blk→b ∉ rl→x∈φ b→w'.heap[x]? =w.heap[x]? :=by
  intro b blk x hb hbr hx;refine (hext.free x ((hφ.blk b blk hb).2.1.lt x hx) (cv1.free x λb2 blk2 β c hb2 hν2=>?_)).1;rintro rfl;obtain ⟨e1,e2⟩:=sub b2 blk2 hb2;have hne:b2≠b:=by rintro rfl;exact hbr (by rw [←hrl];exact List.mem_append_left _ e2)
  exact hφ.apart b2 b β (by rw [e1];simp) (by rw [hb];simp) hne (lF (hφ.blk b2 blk2 e1).2.1 hν2) hx
 have hcross: ∀ b c x,eV hl2 b≠none→s.heap c≠none→c ∉ rl→x∈(match σ' b with|some b0=>φ1 b0|none=>[])→x ∉ φ c:=by
  intro b c x hb hc' hcr hx hx2;obtain ⟨y1,hy1⟩:=Option.ne_none_iff_exists'.1 hb;obtain ⟨y2,hy2⟩:=Option.ne_none_iff_exists'.1 hc';rcases (hh2.blk b y1 hy1).2.2.2 x hx with ⟨b2,e1,e2,e3⟩|e1
  ·have hne:b2≠c:=by rintro rfl;exact hcr (by rw [←hrl];exact List.mem_append_left _ e1)
   exact hφ.apart b2 c x e2 hc' hne e3 hx2
  ·have:=(hφ.blk c y2 hy2).2.1.lt x hx2;omega
 refine hK ν' _ _ (hs.step hd (s':=s.app dst ⟨r2,touch,ed,news⟩) extc hbel ⟨λb=>if b∈rl then (match σ' b with|some b0=>φ1 b0|none=>[]) else φ b,?_,?_⟩ rfl ?_)
 ·intro b blk' hb;replace hb:aU ed s.heap b=some blk':=hb;by_cases e:b∈rl
  ·rw [hhe1 b e] at hb;simp only [bB e];obtain ⟨_,g2,g3,g4⟩:=hh2.blk b blk' hb;exact ⟨hused b e,aDj (h1:=eV hl2) (u1:=nW n') (ν1:=iN σ' ν1) hhe1 hν1 hused e g2 (aEV htl (jS hb)).2,g3,λx hx=>hM2 x (g4 x hx)⟩
  ·rw [hhe2 b e] at hb;simp only [bA e];obtain ⟨g1,g2,g3,g4⟩:=hφ.blk b blk' hb;exact ⟨extc.used b g1,g2.ext extc (hν2 b e) (λx hx=>hout b blk' x hb e hx),g3,g4⟩
 ·intro b c x hb hc' hne hxb hxc;replace hb:aU ed s.heap b≠none:=hb;replace hc':aU ed s.heap c≠none:=hc';by_cases e1:b∈rl <;> by_cases e2:c∈rl
  ·simp only [bB e1] at hxb;simp only [bB e2] at hxc;rw [hhe1 b e1] at hb;rw [hhe1 c e2] at hc';exact hh2.apart b c x hb hc' hne hxb hxc
  ·simp only [bB e1] at hxb;simp only [bA e2] at hxc;rw [hhe1 b e1] at hb;rw [hhe2 c e2] at hc';exact hcross b c x hb hc' e2 hxb hxc
  ·simp only [bA e1] at hxb;simp only [bB e2] at hxc;rw [hhe2 b e1] at hb;rw [hhe1 c e2] at hc';exact hcross c b x hc' hb e1 hxc hxb
  ·simp only [bA e1] at hxb;simp only [bA e2] at hxc;rw [hhe2 b e1] at hb;rw [hhe2 c e2] at hc';exact hφ.apart b c x hb hc' hne hxb hxc
 ·exact aHQ (h1:=eV hl2) (u1:=nW n') (ν1:=iN σ' ν1) hhe1 hν1 hused (cv2.rep hrep hr) htr
theorem fX {fo:Operand} {xs:Array Operand} {ats:Array TypeId} {f:FuncId} {caps avs ds:List AV} {hl hl' hl2:List (Nat×Blk)} {kp n':Nat} {r r2:AV} {σ σ':Nat→Option Nat} {touch news:List Nat} {ed:List (Nat×Option Blk)}
  (hc:HasE P f ds hl kp r hl') (hf:ins fo=some (.fn f caps)) (hx:evs ins xs.toList=some avs) (hav:All2 (pJ σ kp) (avs++caps) ds) (hh:pK σ kp hp hl) (hi:aCr σ hl=true) (hit:aAF σ touch hl=true) (hlive:(touch.all λb=>(hp b).isSome)=true)
  (hh':pK σ' n' (eV hl') hl2) (hi':aCr σ' hl2=true) (hr:pJ σ' n' r r2) (hbk:aDh σ σ' kp news hl2=true) (htl:aKE (touch++news) hl2) (htr:aLp (touch++news) r2=true) (he:zN (touch++news) hl2=ed):
  AEff P ⟨dst,.call ⟨.value fo,xs,ats⟩,ty,pos,aft,g⟩ ins hp κ ⟨r2,touch,ed,news⟩:=
 aRZ hc hf hx (λ_ _ _ _ _ _ _ _ h=>h) hav hh hi hit hlive hh' hi' hr hbk htl htr he
end
end
noncomputable section
section
variable {P:Program} {T:List (Nat×Ty)} (hT:TyOk P T) {dst:Option Tmp} {ty:TypeId} {pos:String} {aft:Array Edge} {g:Option (Nat×Bool)} {s:AState}
def bnd (s:AState) (d:Nat):Option Operand→Option Int
 |none=>some d
 |some x=>match s.ev x with|some (.sc (.int _ n))=>some n|_=>none
theorem aAb {lo hi:Option Value} {len cap:Nat} {l h:Int} (w:World) (hl:(lo=none∧l=0)∨ ∃ k,lo=some (.int k l)) (hh:(hi=none∧h=len)∨ ∃ k,hi=some (.int k h)) (h0:0≤l) (h1:l≤h) (h2:h≤len) (h3:len≤cap):
  (Instr.sliceBounds true len cap lo hi none).run P w= .ok (l.toNat,h.toNat,cap) w:=by
 have eh:(h.toNat:Int)=h:=by omega
 have hhc:0≤h∧h≤(cap:Int):=by omega
 rcases hl with ⟨rfl,rfl⟩|⟨k,rfl⟩ <;> rcases hh with ⟨rfl,rfl⟩|⟨k',rfl⟩ <;> simp [Instr.sliceBounds,Instr.sliceBound,asIntOf,h0,hhc,eh,Int.not_lt.2 h1,h1]
include hT
theorem aBy {x:Operand} {lo hi:Option Operand} {t e:Nat} {y ye:Ty} {b i n:Nat} {blk:Blk} {l h:Int} (q:(decide (0≤l)&&(decide (l≤h)&&decide (h≤(n:Int))))=true) (hx:s.ev x=some (.own b i n)) (hb:s.heap b=some blk) (hlo:bnd s 0 lo=some l) (hhi:bnd s n hi=some h) (hy:dE T t=some y) (hd:y.desc= .slice e) (hye:dE T e=some ye) (hk:ye.size=blk.k):
  AEff P ⟨dst,.slice t x lo hi none,ty,pos,aft,g⟩ s.ev s.heap s.kp ⟨.own b (i+l.toNat) (h.toNat - l.toNat),[b],[],[]⟩:=by
 simp only [cI,iC] at q;refine AEff.pure λC s' ν a w hi' ht hs=>?_;have hb':s'.heap b=some blk:=(ht b (by simp)).trans hb;have h1:=hs.ev ((hi' x (by simp [Op.operands])).trans hx);simp only [RepA,RepB,Rep1] at h1;obtain ⟨h3,h4,h5⟩:=h1.2 blk hb';obtain ⟨φ,hh⟩:=hs.heap;obtain ⟨_,⟨_,hx2⟩,_,_⟩:=hh.blk b blk hb';obtain ⟨i1,z1,d1,y1⟩:=hT.is hy;obtain ⟨i2,z2,d2,y2⟩:=hT.is hye
 have hlo':((lo.map a.eval)=none∧l=0)∨ ∃ k,lo.map a.eval=some (.int k l):=by
  cases lo with
  |none=>simp only [bnd,Option.some.injEq] at hlo;exact .inl ⟨rfl,by omega⟩
  |some z=>
   simp only [bnd] at hlo;split at hlo
   ·rename_i kk m hz;cases hlo;have:=hs.ev ((hi' z (by simp [Op.operands])).trans hz);simp only [RepA,RepB,Rep1] at this;exact .inr ⟨kk,by simp [this.1]⟩
   ·cases hlo
 have hhi':((hi.map a.eval)=none∧h=n)∨ ∃ k,hi.map a.eval=some (.int k h):=by
  cases hi with
  |none=>simp only [bnd,Option.some.injEq] at hhi;exact .inl ⟨rfl,by omega⟩
  |some z=>
   simp only [bnd] at hhi;split at hhi
   ·rename_i kk m hz;cases hhi;have:=hs.ev ((hi' z (by simp [Op.operands])).trans hz);simp only [RepA,RepB,Rep1] at this;exact .inr ⟨kk,by simp [this.1]⟩
   ·cases hhi
 rcases hx2 with ⟨q1,q2,_⟩|⟨β,c,arr,ty',T',vs,q1,q2,q3,q4,q5,q6,q7,q8⟩
 ·rw [q2] at h3;have hn:n=0:=by simp at h3;omega
  have hi0:i=0:=by simp at h3;omega
  subst hn hi0;have hl0:l=0:=by omega
  have hh0:h=0:=by omega
  subst hl0 hh0;refine ⟨.slice none 0 0,?_,?_⟩
  ·have hsb:=aAb (P:=P) (len:=0) (cap:=0) w hlo' hhi' (by omega) (by omega) (by omega) (by omega);simp only [execOp,Instr.sliceAt,Instr.slice,h4 q1,Sem.run_bind,jD (y1.slice hd),Result.andThen_ok,kG y2.info,Option.map_none];rw [hsb];simp
  ·simp only [RepA,RepB,Rep1];refine ⟨h1.1,λblk2 hb2=>?_⟩;rw [hb'] at hb2;cases hb2;exact ⟨by simp,λ_=>by first|rfl|trivial,λβ c hν=>by rw [q1] at hν;cases hν⟩
 ·obtain ⟨o,ho,ho2⟩:=h5 β c q1;have hsb:=aAb (P:=P) (len:=n) (cap:=c - i) w hlo' hhi' q.1 q.2.1 q.2.2 (by omega);refine ⟨.slice (if c - i=l.toNat then some ⟨β,o,none⟩ else some ⟨β,o+l.toNat*ye.size,none⟩) (h.toNat - l.toNat) (c - i - l.toNat),?_,?_⟩
  ·simp only [execOp,Instr.sliceAt,Instr.slice,ho,Sem.run_bind,jD (y1.slice hd),Result.andThen_ok,kG y2.info,y2.size,Option.map_none];rw [hsb];by_cases e:c - i=l.toNat <;> simp [e,Addr.add]
  ·simp only [RepA,RepB,Rep1];refine ⟨h1.1,λblk2 hb2=>?_⟩;rw [hb'] at hb2;cases hb2;refine ⟨by omega,λhν=>(by rw [q1] at hν;cases hν),λβ' c' hν=>?_⟩;rw [q1] at hν;cases hν;by_cases e:c - i=l.toNat
   ·rw [bB e];by_cases hz:i+l.toNat=0
    ·have hi0:i=0:=by omega
     have hl0:l.toNat=0:=by omega
     refine ⟨o,by congr 1;omega,.inl ?_⟩;rcases ho2 with rfl|ho2
     ·rw [hi0,hl0]
     ·omega
    ·exact ⟨o,by congr 1;omega,.inr ⟨by omega,by omega⟩⟩
   ·rw [bA e];refine ⟨o+l.toNat*ye.size,by congr 1;omega,.inl ?_⟩;rcases ho2 with rfl|ho2
    ·rw [hk,Nat.add_mul]
    ·omega
omit hT in
theorem RepEs.dropT {w:World} {k b:Nat} : ∀ {m o:Nat} {es:List (List AV)} {S:List Nat},RepEs w k b o es S→ ∃ U,RepEs w k b (o+m*k) (es.drop m) U∧ ∀ x∈U,x∈S
 |0,o,es,S,h=>⟨S,by simpa using h,λ_ h=>h⟩
 |m+1,o,[],S,h=>⟨[],by simp [RepEs],by simp⟩
 |m+1,o,c::es,S,h=>by
  simp only [RepEs] at h;obtain ⟨S1,S2,rfl,h2,h3,h4⟩:=h;obtain ⟨U,h5,h6⟩:=h4.dropT (m:=m);exact ⟨U,by rw [List.drop_succ_cons,show o+(m+1)*k=o+k+m*k by rw [Nat.add_mul];omega];exact h5,λx hx=>by simp [h6 x hx]⟩
omit hT in
theorem RepEs.takeT {w:World} {k b:Nat} : ∀ {m o:Nat} {es:List (List AV)} {S:List Nat},RepEs w k b o es S→ ∃ U,RepEs w k b o (es.take m) U∧ ∀ x∈U,x∈S
 |0,o,es,S,h=>⟨[],by simp [RepEs],by simp⟩
 |m+1,o,[],S,h=>⟨[],by simp [RepEs],by simp⟩
 |m+1,o,c::es,S,h=>by
  simp only [RepEs] at h;obtain ⟨S1,S2,rfl,h2,h3,h4⟩:=h;obtain ⟨U,h5,h6⟩:=h4.takeT (m:=m);refine ⟨S1++U,by rw [List.take_succ_cons];simp only [RepEs];exact ⟨S1,U,rfl,h2,h3,h5⟩,λx hx=>?_⟩;rcases eG.1 hx with h|h
  ·simp [h]
  ·simp [h6 x h]
theorem iK {x ix:Operand} {t et:Nat} {y ye:Ty} {b i n kz:Nat} {es:List (List AV)} {kk:IntKind} {j:Int} (q:(decide (0≤j)&&decide (j<(n:Int)))=true) (hx:s.ev x=some (.own b i n)) (hb:s.heap b=some ⟨kz,es⟩) (hix:s.ev ix=some (.sc (.int kk j))) (hy:dE T t=some y) (hd:y.desc= .slice et) (hye:dE T et=some ye) (hk:ye.size=kz):
  AEff P ⟨dst,.indexAddr t x ix,ty,pos,aft,g⟩ s.ev s.heap s.kp ⟨.ptr b (i+j.toNat) 0,[b],[],[]⟩:=by
 simp only [cI,iC] at q;exact aNp hT hy hd hye hx hb hk hix q.1 q.2
omit hT in
theorem aSx {α β:Type} {f:α→β} {l:List α} {i n:Nat} :((l.map f).drop i).take n=((l.drop i).take n).map f:=by rw [List.map_take,List.map_drop]
omit hT in
theorem aUj {α:Type} {k:Nat} {e:α→List AV} {h:Hp} {b i n:Nat} {l:List α} (E:EOk k e) (hb:h b=some ⟨k,l.map (ow e)⟩):view1 h (.own b i n) (.list k (((l.drop i).take n).map e)):=
 ⟨_,hb,rfl,by rw [aSx];exact E.views _⟩
omit hT in
theorem aUk {α:Type} {k:Nat} {e:α→List AV} {h:Hp} {b i n:Nat} {l:List α} (E:EOk k e) (hb:h b=some ⟨k,l.map (ow e)⟩):viewA h (.own b i n) (.list k (((l.drop i).take n).map e)):=aUj E hb
omit hT in
theorem aFP {α:Type} {f:α→List AV} {l:List α} {i:Nat} {c:List AV} (h:i<l.length):((l.map f).set i c)[i]? =some c:=by simp [h]
omit hT in
theorem aAG {σ:Nat→Option Nat} {m:Nat} {α:Type} {k:Nat} {e:α→List AV} {c d:List AV} {i:Nat} (E:EOk k e) (h:All2 (kL σ m) c d): ∀ {l:List α} {i:Nat},All2 (All2 (kL σ m)) ((l.map (ow e)).set i c) ((l.map (ow e)).set i d):=by
 have hs: ∀ x,All2 (kL σ m) (ow e x) (ow e x):=by
  intro x
  have:=aDa (R:=kL σ m) (f:=uP) (g:=uP) (cs:=e x) (λc hc=>by
   have:=E.mem x c hc
   cases c <;> simp only [jC,fK] at this <;> simp [uP,kL,fZ])
  exact this
 have hl: ∀ l:List α,All2 (All2 (kL σ m)) (l.map (ow e)) (l.map (ow e)):=λl=>aCS hs;intro l;induction l with
 |nil=>intro i;rfl
 |cons x l ih=>
  intro i;cases i with
  |zero=>exact ⟨_,_,rfl,h,hl l⟩
  |succ i=>exact ⟨_,_,rfl,hs x,ih⟩
omit hT in
theorem aWn {t:TypeId} {x z:Operand} {a b:Int} {dty:TypeId} (hx:s.ev x=some (.int a)) (hz:s.ev z=some (.int b)):
  AEff P ⟨dst,.call ⟨.builtin .max,#[x,z],#[t,t]⟩,dty,pos,aft,g⟩ s.ev s.heap s.kp ⟨.int (max a b),[],[],[]⟩:=
 AEff.pure λC s' ν ac w hi ht hs=>by
  have h1:=hs.ev ((hi x (by simp [Op.operands,Call.operands])).trans hx);have h2:=hs.ev ((hi z (by simp [Op.operands,Call.operands])).trans hz);simp only [RepA,RepB,Rep1] at h1 h2;refine ⟨.int .i64 (max a b),?_,vB rfl⟩;simp [execOp,resolve,invoke,builtin,h1.1,h2.1,Builtin.max_,Builtin.max2];rw [Int.max_def];split <;> split <;> omega
theorem uR {α:Type} {e:α→List AV} {x z:Operand} {t et:Nat} {y ye:Ty} {b b' n k:Nat} {l:List α} {c:List AV} {sv:AV} {ts nm:List Nat} {dty:TypeId} (hf:decide (l.length+1≤4294967296)=true) (hns:s.ns.head?=some b') (hx:s.ev x=some (.own b 0 n)) (hb:s.heap b=some ⟨k,l.map e⟩) (hl:l.length=n) (hz:s.ev z=some sv) (hsrc:zG s.heap sv=some (k,[c],ts)) (hnm:dD c=nm)
  (ok:c.all (okCell s.heap)=true) (hy:dE T t=some y) (hd:y.desc= .slice et) (hye:dE T et=some ye) (hzl:ye.zero.length=ye.size) (hk:ye.size=k) (hby:Nat.ble ye.bytes 32768=true):
  AEff P ⟨dst,.call ⟨.builtin .append,#[x,z],#[t,t]⟩,dty,pos,aft,g⟩ s.ev s.heap s.kp ⟨.own b' 0 (l.length+1),b::(ts++nm),[(b,none),(b',some ⟨k,l.map e++[c]⟩)],[b']⟩:=by
 have hf:=of_decide_eq_true hf;have hby:=Nat.le_of_ble_eq_true hby
 have h1:=aLi (P:=P) hT (dst:=dst) (pos:=pos) (aft:=aft) (g:=g) (dty:=dty) hns hx hb hz hsrc hy hd hye hzl hk.symm hk.symm (by simpa using hl) (by simpa using ok) (by simp;omega) (by simp only [List.length_singleton];calc (n+1)*ye.bytes≤4294967296*32768:=Nat.mul_le_mul (by omega) hby
                                                                                                                                                    _≤140737488355328:=by decide)
 rw [List.flatten_singleton,hnm,hk] at h1;rw [hl];exact h1
omit hT in
theorem aAc {α β:Type} {f:α→β} {l:List α} {c:β} (x:α) (h:c=f x):l.map f++[c]=(l++[x]).map f:=by rw [h,List.map_append];rfl
omit hT in
theorem aHR {α β:Type} {f:α→β} {l:List α} {i:Nat} {c:β} (x:α) (h:c=f x):(l.map f).set i c=(l.set i x).map f:=by rw [h,List.map_set]
end
end
end Go.Proofs.YtghechfdejhapaaGreat

/- Several texts. -/
import Derived.Test.YtpckeblbjdbleaaGreatProg
import Derived.Test.YtpckeblbjdbleaaGreatM3
set_option linter.unusedVariables false
set_option linter.unusedSimpArgs false
namespace Go.Proofs.YtpckeblbjdbleaaGreat
open Go.RowKit
section
def TT:List (Nat×Ty):=[
 (1,⟨.sc,1,8,[.sc .nilFunc]⟩),
 (2,⟨.sc,1,8,[.sc (.int .i64 0)]⟩),
 (3,⟨.sc,1,8,[.sc (.int .i64 0)]⟩),
 (4,⟨.sc,1,1,[.sc (.bool false)]⟩),
 (5,⟨.sc,1,1,[.sc (.int .u8 0)]⟩),
 (6,⟨.sc,1,1,[.sc (.int .u8 0)]⟩),
 (7,⟨.struct [(0,2),(1,3),(2,4),(3,6)],4,24,[.sc (.int .i64 0),.sc (.int .i64 0),.sc (.bool false),.sc (.int .u8 0)]⟩),
 (8,⟨.struct [(0,2),(1,3),(2,4),(3,6)],4,24,[.sc (.int .i64 0),.sc (.int .i64 0),.sc (.bool false),.sc (.int .u8 0)]⟩),
 (9,⟨.sc,1,16,[.sc (.string ⟨#[]⟩)]⟩),
 (10,⟨.sc,1,16,[.sc (.string ⟨#[]⟩)]⟩),
 (11,⟨.sc,1,16,[.sc (.string ⟨#[]⟩)]⟩),
 (12,⟨.sc,1,8,[.sc (.int .u64 0)]⟩),
 (13,⟨.struct [(0,9),(1,12)],2,24,[.sc (.string ⟨#[]⟩),.sc (.int .u64 0)]⟩),
 (14,⟨.struct [(0,9),(1,12)],2,24,[.sc (.string ⟨#[]⟩),.sc (.int .u64 0)]⟩),
 (21,⟨.sc,1,4,[.sc (.int .i32 0)]⟩),
 (22,⟨.slice 5,1,24,[.nil 1]⟩),
 (23,⟨.sc,1,8,[.sc .nilFunc]⟩),
 (24,⟨.slice 3,1,24,[.nil 1]⟩),
 (25,⟨.struct [(0,3),(1,24),(2,24)],3,56,[.sc (.int .i64 0),.nil 1,.nil 1]⟩),
 (26,⟨.struct [(0,3),(1,24),(2,24)],3,56,[.sc (.int .i64 0),.nil 1,.nil 1]⟩),
 (27,⟨.slice 60,1,24,[.nil 3]⟩),
 (28,⟨.struct [(0,3),(1,26),(4,24),(5,27)],6,112,[.sc (.int .i64 0),.sc (.int .i64 0),.nil 1,.nil 1,.nil 1,.nil 3]⟩),
 (29,⟨.struct [(0,3),(1,26),(4,24),(5,27)],6,112,[.sc (.int .i64 0),.sc (.int .i64 0),.nil 1,.nil 1,.nil 1,.nil 3]⟩),
 (31,⟨.sc,1,8,[.sc .nilFunc]⟩),
 (32,⟨.slice 37,1,24,[.nil 1]⟩),
 (34,⟨.sc,1,8,[.sc .nilFunc]⟩),
 (35,⟨.sc,1,8,[.sc .nilFunc]⟩),
 (36,⟨.sc,1,8,[.sc .nilFunc]⟩),
 (37,⟨.slice 56,1,24,[.nil 2]⟩),
 (38,⟨.sc,1,8,[.sc .nilFunc]⟩),
 (39,⟨.sc,1,8,[.sc .nilFunc]⟩),
 (40,⟨.sc,1,8,[.sc .nilFunc]⟩),
 (41,⟨.sc,1,8,[.sc .nilFunc]⟩),
 (42,⟨.sc,1,8,[.sc .nilFunc]⟩),
 (44,⟨.sc,1,8,[.sc .nilFunc]⟩),
 (45,⟨.sc,1,8,[.sc .nilFunc]⟩),
 (47,⟨.sc,1,8,[.sc .nilFunc]⟩),
 (48,⟨.sc,1,8,[.sc .nilFunc]⟩),
 (49,⟨.sc,1,8,[.sc .nilFunc]⟩),
 (50,⟨.sc,1,8,[.sc .nilFunc]⟩),
 (51,⟨.sc,1,8,[.sc .nilFunc]⟩),
 (53,⟨.sc,1,8,[.sc .nilFunc]⟩),
 (54,⟨.slice 24,1,24,[.nil 1]⟩),
 (55,⟨.struct [(0,3),(1,54)],2,32,[.sc (.int .i64 0),.nil 1]⟩),
 (56,⟨.struct [(0,3),(1,54)],2,32,[.sc (.int .i64 0),.nil 1]⟩),
 (57,⟨.sc,1,8,[.sc .nilFunc]⟩),
 (58,⟨.sc,1,8,[.sc .nilFunc]⟩),
 (59,⟨.struct [(0,3),(1,3),(2,24)],3,40,[.sc (.int .i64 0),.sc (.int .i64 0),.nil 1]⟩),
 (60,⟨.struct [(0,3),(1,3),(2,24)],3,40,[.sc (.int .i64 0),.sc (.int .i64 0),.nil 1]⟩),
 (61,⟨.sc,1,8,[.sc .nilFunc]⟩),
 (62,⟨.sc,1,8,[.sc .nilFunc]⟩),
 (63,⟨.sc,1,8,[.sc .nilFunc]⟩),
 (64,⟨.sc,1,8,[.sc .nilFunc]⟩),
 (66,⟨.sc,1,8,[.sc .nilFunc]⟩),
 (67,⟨.sc,1,8,[.sc .nilFunc]⟩),
 (68,⟨.sc,1,8,[.sc .nilFunc]⟩),
 (70,⟨.sc,1,8,[.sc .nilFunc]⟩),
 (71,⟨.sc,1,8,[.sc .nilFunc]⟩),
 (73,⟨.sc,1,8,[.sc .nilFunc]⟩),
 (74,⟨.sc,1,8,[.sc .nilFunc]⟩),
 (76,⟨.sc,1,8,[.sc .nilFunc]⟩),
 (77,⟨.sc,1,8,[.sc .nilFunc]⟩),
 (78,⟨.sc,1,8,[.sc .nilFunc]⟩),
 (79,⟨.sc,1,8,[.sc .nilFunc]⟩),
 (80,⟨.sc,1,8,[.sc .nilFunc]⟩),
 (81,⟨.sc,1,8,[.sc .nilFunc]⟩),
 (82,⟨.sc,1,8,[.sc .nilFunc]⟩),
 (83,⟨.sc,1,8,[.sc .nilFunc]⟩),
 (84,⟨.sc,1,8,[.sc .nilFunc]⟩),
 (85,⟨.sc,1,8,[.sc .nilFunc]⟩),
 (86,⟨.sc,1,8,[.sc .nilFunc]⟩),
 (87,⟨.sc,1,8,[.sc .nilFunc]⟩),
 (88,⟨.sc,1,8,[.sc .nilFunc]⟩),
 (89,⟨.sc,1,8,[.sc .nilFunc]⟩),
 (90,⟨.sc,1,8,[.sc .nilFunc]⟩),
 (91,⟨.sc,1,8,[.sc .nilFunc]⟩),
 (92,⟨.sc,1,8,[.sc .nilFunc]⟩),
 (94,⟨.sc,1,8,[.sc .nilFunc]⟩),
 (95,⟨.sc,1,8,[.sc .nilFunc]⟩),
 (96,⟨.sc,1,8,[.sc .nilFunc]⟩),
 (97,⟨.sc,1,8,[.sc .nilFunc]⟩),
 (98,⟨.sc,1,8,[.sc .nilFunc]⟩),
 (99,⟨.sc,1,8,[.sc .nilFunc]⟩),
 (100,⟨.sc,1,8,[.sc .nilFunc]⟩),
 (101,⟨.sc,1,8,[.sc .nilFunc]⟩),
 (102,⟨.sc,1,8,[.sc .nilFunc]⟩),
 (104,⟨.sc,1,8,[.sc .nilFunc]⟩),
 (105,⟨.sc,1,8,[.sc .nilFunc]⟩),
 (106,⟨.slice 9,1,24,[.nil 1]⟩),
 (107,⟨.sc,1,8,[.sc .nilFunc]⟩),
 (108,⟨.struct [(0,22),(1,3),(2,3)],3,40,[.nil 1,.sc (.int .i64 0),.sc (.int .i64 0)]⟩),
 (109,⟨.struct [(0,22),(1,3),(2,3)],3,40,[.nil 1,.sc (.int .i64 0),.sc (.int .i64 0)]⟩),
 (110,⟨.sc,1,8,[.sc .nilFunc]⟩),
 (111,⟨.sc,1,8,[.sc .nilFunc]⟩),
 (112,⟨.sc,1,8,[.sc .nilFunc]⟩),
 (113,⟨.sc,1,8,[.sc .nilFunc]⟩),
 (115,⟨.sc,1,8,[.sc .nilFunc]⟩),
 (116,⟨.sc,1,8,[.sc .nilFunc]⟩),
 (117,⟨.sc,1,8,[.sc .nilFunc]⟩),
 (118,⟨.sc,1,8,[.sc .nilFunc]⟩),
 (119,⟨.sc,1,8,[.sc .nilFunc]⟩),
 (120,⟨.sc,1,8,[.sc .nilFunc]⟩),
 (121,⟨.slice 27,1,24,[.nil 1]⟩),
 (122,⟨.sc,1,8,[.sc .nilFunc]⟩),
 (124,⟨.sc,1,8,[.sc .nilFunc]⟩),
 (126,⟨.sc,1,8,[.sc .nilFunc]⟩),
 (127,⟨.sc,1,8,[.sc .nilFunc]⟩),
 (128,⟨.sc,1,8,[.sc .nilFunc]⟩),
 (129,⟨.sc,1,8,[.sc .nilFunc]⟩),
 (130,⟨.sc,1,8,[.sc .nilFunc]⟩),
 (131,⟨.sc,1,8,[.sc .nilFunc]⟩),
 (132,⟨.sc,1,8,[.sc .nilFunc]⟩),
 (133,⟨.sc,1,8,[.sc .nilFunc]⟩),
 (134,⟨.sc,1,8,[.sc .nilFunc]⟩),
 (135,⟨.sc,1,8,[.sc .nilFunc]⟩),
 (136,⟨.sc,1,8,[.sc .nilFunc]⟩),
 (138,⟨.sc,1,8,[.sc .nilFunc]⟩),
 (139,⟨.sc,1,8,[.sc .nilFunc]⟩),
 (140,⟨.slice 141,1,24,[.nil 2]⟩),
 (141,⟨.array 2 3,2,16,[.sc (.int .i64 0),.sc (.int .i64 0)]⟩),
 (142,⟨.sc,1,8,[.sc .nilFunc]⟩),
 (143,⟨.sc,1,8,[.sc .nilFunc]⟩),
 (144,⟨.sc,1,8,[.sc .nilFunc]⟩),
 (145,⟨.sc,1,8,[.sc .nilFunc]⟩),
 (146,⟨.sc,1,8,[.sc .nilFunc]⟩),
 (147,⟨.sc,1,8,[.sc .nilFunc]⟩),
 (149,⟨.sc,1,8,[.sc .nilFunc]⟩),
 (150,⟨.sc,1,8,[.sc .nilFunc]⟩),
 (151,⟨.sc,1,8,[.sc .nilFunc]⟩),
 (152,⟨.sc,1,8,[.sc .nilFunc]⟩),
 (153,⟨.sc,1,8,[.sc .nilFunc]⟩),
 (155,⟨.sc,1,8,[.sc .nilFunc]⟩),
 (156,⟨.sc,1,8,[.sc .nilFunc]⟩),
 (157,⟨.sc,1,8,[.sc .nilFunc]⟩),
 (158,⟨.sc,1,8,[.sc (.int .u64 0)]⟩),
 (159,⟨.sc,1,8,[.sc .nilFunc]⟩),
 (160,⟨.sc,1,8,[.sc .nilFunc]⟩),
 (161,⟨.sc,1,8,[.sc .nilFunc]⟩),
 (162,⟨.sc,1,8,[.sc .nilFunc]⟩),
 (163,⟨.sc,1,8,[.sc .nilFunc]⟩),
 (164,⟨.sc,1,8,[.sc .nilFunc]⟩),
 (165,⟨.sc,1,8,[.sc .nilFunc]⟩),
 (166,⟨.sc,1,8,[.sc .nilFunc]⟩),
 (167,⟨.sc,1,8,[.sc .nilFunc]⟩),
 (168,⟨.sc,1,8,[.sc .nilFunc]⟩),
 (169,⟨.sc,1,8,[.sc .nilFunc]⟩),
 (171,⟨.sc,1,8,[.sc .nilFunc]⟩),
 (172,⟨.sc,1,8,[.sc .nilFunc]⟩),
 (173,⟨.sc,1,8,[.sc .nilFunc]⟩),
 (174,⟨.sc,1,8,[.sc .nilFunc]⟩),
 (175,⟨.sc,1,8,[.sc .nilFunc]⟩),
 (176,⟨.sc,1,8,[.sc .nilFunc]⟩),
 (177,⟨.sc,1,8,[.sc .nilFunc]⟩),
 (178,⟨.sc,1,8,[.sc .nilFunc]⟩),
 (179,⟨.sc,1,8,[.sc .nilFunc]⟩),
 (180,⟨.sc,1,8,[.sc .nilFunc]⟩),
 (181,⟨.sc,1,8,[.sc .nilFunc]⟩),
 (182,⟨.sc,1,8,[.sc .nilFunc]⟩),
 (183,⟨.sc,1,8,[.sc .nilFunc]⟩),
 (184,⟨.sc,1,8,[.sc .nilFunc]⟩),
 (185,⟨.sc,1,4,[.sc (.int .u32 0)]⟩),
 (187,⟨.sc,1,8,[.sc .nilFunc]⟩),
 (188,⟨.sc,1,8,[.sc (.int .u64 0)]⟩),
 (190,⟨.sc,1,8,[.sc .nilFunc]⟩),
 (191,⟨.sc,1,8,[.sc .nilFunc]⟩),
 (192,⟨.sc,1,8,[.sc (.int .i64 0)]⟩),
 (194,⟨.sc,1,8,[.sc .nilFunc]⟩),
 (195,⟨.sc,1,8,[.sc .nilFunc]⟩),
 (196,⟨.sc,1,8,[.sc .nilFunc]⟩),
 (198,⟨.sc,1,8,[.sc .nilFunc]⟩),
 (199,⟨.sc,1,8,[.sc .nilFunc]⟩),
 (200,⟨.sc,1,8,[.sc .nilFunc]⟩),
 (201,⟨.sc,1,8,[.sc .nilFunc]⟩),
 (202,⟨.sc,1,8,[.sc .nilFunc]⟩),
 (203,⟨.sc,1,8,[.sc (.int .u64 0)]⟩),
 (204,⟨.sc,1,8,[.sc .nilFunc]⟩),
 (205,⟨.sc,1,8,[.sc .nilFunc]⟩),
 (206,⟨.sc,1,8,[.sc .nilFunc]⟩),
 (208,⟨.sc,1,8,[.sc .nilFunc]⟩),
 (209,⟨.sc,1,8,[.sc .nilFunc]⟩),
 (212,⟨.sc,1,8,[.sc .nilFunc]⟩),
 (214,⟨.sc,1,8,[.sc .nilFunc]⟩),
 (215,⟨.sc,1,8,[.sc .nilFunc]⟩),
 (221,⟨.sc,1,8,[.sc .nilFunc]⟩),
 (222,⟨.sc,1,1,[.sc (.int .u8 0)]⟩),
 (223,⟨.sc,1,1,[.sc (.int .u8 0)]⟩),
 (224,⟨.sc,1,8,[.sc .nilFunc]⟩),
 (226,⟨.sc,1,4,[.sc (.int .i32 0)]⟩),
 (227,⟨.sc,1,4,[.sc (.int .i32 0)]⟩),
 (230,⟨.sc,1,8,[.sc .nilFunc]⟩),
 (231,⟨.sc,1,8,[.sc .nilFunc]⟩)]
set_option maxRecDepth 100000 in
theorem aJ:TyOk Tryz.prog TT:=XS (by kernel_rfl)
end
noncomputable section
theorem ob{α β:Type}{o:Option α}{k:α->Option β}{r:β}(h:o.bind k=some r):∃a,o=some a/\k a=some r:=by
 cases o with
 |none=>cases h
 |some a=>exact⟨a,rfl,h⟩
theorem cb{α:Type}{c:Bool}{A B:Option α}{r:α}(h:cond c A B=some r):(c=true/\A=some r)∨(c=false/\B=some r):=by
 cases c
 .exact .inr ⟨rfl,h⟩
 .exact .inl ⟨rfl,h⟩
theorem cg{α:Type}{c:Bool}{A:Option α}{r:α}(h:cond c A none=some r):c=true/\A=some r:=by
 cases c
 .cases h
 .exact⟨rfl,h⟩
theorem so{α:Type}{x r:α}(h:some x=some r):x=r:=Option.some.inj h
def bP{α:Type}(l:List α)(i:Int):Option α:=bif decide (0<=i)then l[i.toNat]? else none
theorem cJ{α:Type}{l:List α}{i:Int}{v:α}(h:bP l i=some v):l[i.toNat]? =some v:=(cg h).2
theorem PB{α:Type}{l:List α}{i:Int}{v:α}(h:bP l i=some v):0<=i:=of_decide_eq_true (cg h).1
theorem oY{α:Type}{l:List α}{i:Int}{v:α}(h:bP l i=some v):i.toNat<l.length:=by
 rcases dS i.toNat l.length with h'|h'
 .exact h'
 .have:=cJ h;rw[jK h']at this;cases this
theorem aCB{α β:Type}{f:α->β}{l:List α}{i:Int}{v:α}(h:bP l i=some v):(l.map f)[i.toNat]? =some (f v):=by rw[List.getElem?_map,cJ h];rfl
theorem dX{α:Type}{l:List α}{n:Nat}(h:n<l.length):bP l (n:Int)=some l[n]:=by simp[bP,h]
def wr(x:Int):Int:=IntKind.i64.wrap x
theorem UJ{x:Int}(h: -9223372036854775808<=x/\x<=9223372036854775807):wr x=x:=by unfold wr;rw[IntKind.wrap_i64];omega
def LpN{σ ρ:Type}(body:σ->Option (σ ⊕ ρ)):Nat->σ->ρ->Prop
 |0,s,r=>body s=some (.inr r)
 |n+1,s,r=>∃s',body s=some (.inl s')/\LpN body n s' r
theorem LpN.det{σ ρ:Type}{body:σ->Option (σ ⊕ ρ)}:∀{n m:Nat}{s:σ}{r r':ρ},LpN body n s r->LpN body m s r'->r=r'
 |0,0,s,r,r',h,k=>by rw[LpN]at h k;rw[h]at k;cases k;rfl
 |0,m+1,s,r,r',h,⟨s',k,_⟩=>by rw[LpN]at h;rw[h]at k;cases k
 |n+1,0,s,r,r',⟨s',h,_⟩,k=>by rw[LpN]at k;rw[h]at k;cases k
 |n+1,m+1,s,r,r',⟨s',h,h2⟩,⟨s'',k,k2⟩=>by rw[h]at k;cases k;exact LpN.det h2 k2
open Classical in
def Lp{σ ρ:Type}(body:σ->Option (σ ⊕ ρ))(s:σ):Option ρ:=if h:∃r n,LpN body n s r then some h.choose else none
theorem OX{σ ρ:Type}{body:σ->Option (σ ⊕ ρ)}{s:σ}{r:ρ}:Lp body s=some r↔ ∃n,LpN body n s r:=by
 unfold Lp;split
 .rename_i h;obtain⟨n,hn⟩:=h.choose_spec;constructor
  .intro e;cases e;exact⟨n,hn⟩
  .rintro⟨m,hm⟩;rw[hn.det hm]
 .rename_i h;constructor
  .intro e;cases e
  .rintro⟨m,hm⟩;exact absurd ⟨r,m,hm⟩ h
theorem rW{σ ρ:Type}{body:σ->Option (σ ⊕ ρ)}{s:σ}{r:ρ}(h:body s=some (.inr r)):Lp body s=some r:=OX.2 ⟨0,h⟩
theorem EG{σ ρ:Type}{body:σ->Option (σ ⊕ ρ)}{s s':σ}(h:body s=some (.inl s')):Lp body s=Lp body s':=by
 apply Option.ext;intro r;rw[OX,OX];constructor
 .rintro⟨n,hn⟩;cases n with
  |zero=>rw[LpN]at hn;rw[h]at hn;cases hn
  |succ n=>obtain⟨s'',h1,h2⟩:=hn;rw[h]at h1;cases h1;exact⟨n,h2⟩
 .rintro⟨n,hn⟩;exact⟨n+1,s',h,hn⟩
theorem aDZ{σ ρ:Type}{body:σ->Option (σ ⊕ ρ)}{s:σ}{r:ρ}(I:Nat->σ)(N:Nat)(h0:s=I 0)(hs:∀k,k<N->body (I k)=some (.inl (I (k+1))))(hr:body (I N)=some (.inr r)):Lp body s=some r:=by
 subst h0
 have key:∀d k,k+d=N->Lp body (I k)=some r:=by
  intro d;induction d with
  |zero=>intro k hk;rw[Nat.add_zero]at hk;subst hk;exact rW hr
  |succ d ih=>intro k hk;rw[EG (hs k (by omega))];exact ih (k+1) (by omega)
 exact key N 0 (by omega)
theorem EH{σ ρ:Type}{body:σ->Option (σ ⊕ ρ)}{s:σ}(I:σ->Prop)(μ:σ->Nat)(R:ρ->Prop)(h0:I s)(hs:∀x,I x->(∃x',body x=some (.inl x')/\I x'/\μ x'<μ x)∨∃r,body x=some (.inr r)/\R r):∃r,Lp body s=some r/\R r:=by
 have key:∀n x,μ x=n->I x->∃r,Lp body x=some r/\R r:=by
  intro n;induction n using Nat.strongRecOn with
  |_ n ih=>
   intro x hn hx;rcases hs x hx with ⟨x',h1,h2,h3⟩|⟨r,h1,h2⟩
   .rw[EG h1];exact ih (μ x') (hn▸h3) x' rfl h2
   .exact⟨r,rW h1,h2⟩
 exact key _ s rfl h0
section
variable {P:Program}{nt:Nat}{s:AState}{Q:Exit->AState->Prop}
theorem Na{c:Code}{σ ρ:Type}{body:σ->Option (σ ⊕ ρ)}{x0:σ}{r0:ρ}(h:Lp body x0=some r0)(S:σ->AState)(X:ρ->Exit->AState->Prop)(e0:Ent s (S x0))
  (round:∀x o,body x=some o->AC P nt c (S x) (Af (λt=>∃x',o= .inl x'/\Ent t (S x')) (λe t=>∃r,o= .inr r/\X r e t))) (hX:∀e t,X r0 e t->Q e t):AC P nt (.loop c) s Q:=by
 obtain⟨n,hn⟩:=OX.1 h;refine OV (ι:=σ×Nat) (λp=>S p.1) (λp=>LpN body p.2 p.1 r0) (λp=>p.2) (x0,n) hn e0 ?_;rintro⟨x,m⟩ hm;cases m with
 |zero=>
  refine XT (round x _ hm) λe t hq=>?_;cases e<;>simp only[Af]at hq ⊢
  .obtain⟨x',h1,_⟩:=hq;cases h1
  all_goals (obtain⟨r,h1,h2⟩:=hq;cases h1;exact hX _ _ h2)
 |succ m=>
  obtain⟨x',h1,h2⟩:=hm;refine XT (round x _ h1) λe t hq=>?_;cases e<;>simp only[Af]at hq ⊢
  .obtain⟨x'',h3,h4⟩:=hq;cases h3;exact⟨(x',m),h2,Nat.lt_succ_self _,h4⟩
  all_goals (obtain⟨r,h3,_⟩:=hq;cases h3)
theorem kO{c:Operand}{x y:Code}{t:Bool}(hc:s.ev c=some (.sc (.bool t)))(q:t=true)(h:AC P nt x s Q):AC P nt (.cond c x y) s Q:=zC hc (λ_=>h) (λe=>by rw[q]at e;cases e)
theorem nR{c:Operand}{x y:Code}{t:Bool}(hc:s.ev c=some (.sc (.bool t)))(q:t=false)(h:AC P nt y s Q):AC P nt (.cond c x y) s Q:=zC hc (λe=>by rw[q]at e;cases e) (λ_=>h)
theorem Zv{i:Nat}{v:AV}{e:Nat->Option AV}(h:e i=some v):Qf (some i) v e=e:=by
 funext t;simp only[Qf];cases hb:Nat.beq t i with
 |false=>rfl
 |true=>rw[Nat.eq_of_beq_eq_true hb,h];rfl
theorem aE{ops:Array Oper}{r:List Oper}{tr:List Tr}{K:List Tr->AState->Prop}{t u:Bool}(i:Nat)(hi:s.env i=some (.sc (.bool t)))(q:t=u)(h:AOps P ops nt r ⟨Qf (some i) (.sc (.bool u)) s.env,s.heap,s.used,s.ns,s.kp⟩ tr K):AOps P ops nt r s tr K:=by
 subst q;rw[Zv hi]at h;exact h
end
def lD:AV->Bool
 | .sc v=>v.oneCell'
 | .list _ _=>true
 |_=>false
structure EOk{α:Type}(k:Nat)(e:α->List AV):Prop where
 len:∀x,(e x).length=k
 cell:∀x,(e x).all lD=true
def ow{α:Type}(e:α->List AV)(x:α):List AV:=(e x).map yN
theorem jN{α:Type}(e:α->List AV)(l:List α):dQ (l.map e)=l.map (ow e):=by
 unfold dQ;rw[List.map_map];rfl
section
variable {α:Type}{k:Nat}{e:α->List AV}
theorem WJ{c:AV}(h:lD c=true):view0 (yN c) c:=by cases c<;>simp only[lD,gH]at h<;>simp[yN,view0]
theorem WK{c:AV}(h:lD c=true):view0 c c:=by cases c<;>simp only[lD,gH]at h<;>simp[view0]
theorem YU{c:AV}(h:lD c=true):Nv (yN c) c:=by cases c<;>simp only[lD,gH]at h<;>simp[yN,Nv]
theorem UK{c:AV}(h:lD c=true)(hp:Hp):okCell hp c=true:=by cases c<;>simp only[lD,gH]at h<;>rfl
theorem UL{c:AV}(h:lD c=true):eV c=true/\∀ds,c≠ .ref ds:=by cases c<;>simp only[lD,gH]at h<;>exact⟨rfl,λ_ e=>by cases e⟩
theorem PC{c:AV}(h:lD c=true):yL c=true/\yL (yN c)=true:=by cases c<;>simp only[lD,gH]at h<;>exact⟨rfl,rfl⟩
theorem IC{R:AV->AV->Prop}{f g:AV->AV}:∀{cs:List AV},(∀c∈cs,R (f c) (g c))->All2 R (cs.map f) (cs.map g)
 | [],_=>rfl
 |c::cs,h=>⟨g c,_,rfl,h c (by simp),IC λd hd=>h d (by simp[hd])⟩
theorem GN{β:Type}{R:List AV->List AV->Prop}{f g:β->List AV}:∀{l:List β},(∀x,R (f x) (g x))->All2 R (l.map f) (l.map g)
 | [],_=>rfl
 |x::l,h=>⟨g x,_,rfl,h x,GN h⟩
theorem EOk.mem(E:EOk k e)(x:α):∀c∈e x,lD c=true:=List.all_eq_true.1 (E.cell x)
theorem EOk.view(E:EOk k e)(x:α):All2 view0 (ow e x) (e x):=by have:=IC (R:=view0) (f:=yN) (g:=id) (λc hc=>WJ (E.mem x c hc));simpa [ow]using this
theorem EOk.same(E:EOk k e)(x:α):All2 view0 (e x) (e x):=by have:=IC (R:=view0) (f:=id) (g:=id) (λc hc=>WK (E.mem x c hc));simpa using this
theorem EOk.frz(E:EOk k e)(x:α):All2 Nv (ow e x) (e x):=by have:=IC (R:=Nv) (f:=yN) (g:=id) (λc hc=>YU (E.mem x c hc));simpa [ow]using this
theorem EOk.views(E:EOk k e)(l:List α):All2 (All2 view0) (l.map (ow e)) (l.map e):=GN E.view
theorem EOk.sames(E:EOk k e)(l:List α):All2 (All2 view0) (l.map e) (l.map e):=GN E.same
theorem EOk.frzs(E:EOk k e)(l:List α):All2 (All2 Nv) (l.map (ow e)) (l.map e):=GN E.frz
theorem EOk.good(E:EOk k e)(l:List α):Zp (l.map e):=by
 intro cs hcs c hc;obtain⟨x,_,rfl⟩:=List.mem_map.1 hcs;exact UL (E.mem x c hc)
theorem EOk.plainO(E:EOk k e)(l:List α):Fc (l.map (ow e)):=by
 intro cs hcs c hc;obtain⟨x,_,rfl⟩:=List.mem_map.1 hcs;obtain⟨d,hd,rfl⟩:=List.mem_map.1 hc;exact(PC (E.mem x d hd)).2
theorem EOk.plainE(E:EOk k e)(l:List α):Fc (l.map e):=by
 intro cs hcs c hc;obtain⟨x,_,rfl⟩:=List.mem_map.1 hcs;exact(PC (E.mem x c hc)).1
theorem EOk.okE(E:EOk k e)(hp:Hp)(l:List α):(l.map e).flatten.all (okCell hp)=true:=by
 rw[List.all_eq_true];intro c hc;obtain⟨cs,hcs,hc⟩:=List.mem_flatten.1 hc;obtain⟨x,_,rfl⟩:=List.mem_map.1 hcs;exact UK (E.mem x c hc) hp
theorem MZ:∀{cs:List AV},(∀c∈cs,lD c=true)->dF cs=[]
 | [],_=>rfl
 |c::cs,h=>by
  have h1:=h c (by simp);have h2:=MZ (cs:=cs) (λd hd=>h d (by simp[hd]));cases c<;>simp only[lD,gH]at h1<;>exact h2
theorem EOk.namesE(E:EOk k e)(l:List α):dF (l.map e).flatten=[]:=by
 refine MZ λc hc=>?_;obtain⟨cs,hcs,hc⟩:=List.mem_flatten.1 hc;obtain⟨x,_,rfl⟩:=List.mem_map.1 hcs;exact E.mem x c hc
end
end
section
def zD(n lo hi:Int):Bool:=decide (lo<=n/\n<=hi)
theorem kP{n lo hi:Int}(h:zD n lo hi=true):lo<=n/\n<=hi:=by simpa [zD]using h
theorem xY{n lo hi:Int}(h1:lo<=n)(h2:n<=hi):zD n lo hi=true:=by simp[zD,h1,h2]
theorem PD(x p:Int)(hp:0<p): -p<x.tmod p/\x.tmod p<p:=⟨Int.lt_tmod_of_pos x hp,Int.tmod_lt_of_pos x hp⟩
theorem PE(x p:Int)(hp:0<p):(0<=x.tmod p/\x.tmod p=x%p)∨(x.tmod p<0/\x.tmod p=x%p-p):=by
 have h:=@Int.tmod_eq_emod x p;have h0:=Int.emod_nonneg x (by omega:p≠0);have h1:=Int.emod_lt_of_pos x hp;have h2:(p.natAbs:Int)=p:=by omega
 split at h
 .exact .inl ⟨by omega,by omega⟩
 .exact .inr ⟨by omega,by omega⟩
theorem YV(x p:Int)(hp:0<p):(x.tmod p+p).tmod p=x%p:=by
 have h0:=Int.emod_nonneg x (by omega:p≠0);have h1:=Int.emod_lt_of_pos x hp;rcases PE x p hp with ⟨h,e⟩|⟨h,e⟩
 .rw[e,Int.tmod_eq_emod_of_nonneg (by omega),Int.add_emod_right,Int.emod_emod_of_dvd _ (Int.dvd_refl p)]
 .rw[e,show x%p-p+p=x%p by omega,Int.tmod_eq_emod_of_nonneg h0,Int.emod_emod_of_dvd _ (Int.dvd_refl p)]
def mA(p:Int):Bool:=decide (p=2∨p=3∨p=5)
theorem Ej{p:Int}(h:mA p=true):p=2∨p=3∨p=5:=by simpa [mA]using h
def Sn(p r:Int):Nat->Int
 |0=>1
 |n+1=>(Sn p r n*r)%p
theorem XZ{p r:Int}(hp:mA p=true)(hr:0<=r/\r<p):∀n,0<=Sn p r n/\Sn p r n<p:=by
 intro n;have:=Ej hp;cases n with
 |zero=>simp[Sn];omega
 |succ n=>exact⟨Int.emod_nonneg _ (by omega),Int.emod_lt_of_pos _ (by omega)⟩
def GO(p r:Int):Int:=Sn p r (max (p-2) 1).toNat
theorem aCC{p r y:Int}(hp:mA p=true)(hr:0<=r/\r<p)(hy:1<=y/\y<p)(h:(r*y)%p=1):GO p r=y:=by
 rcases Ej hp with rfl|rfl|rfl
 .have h1:r=0∨r=1:=by omega
  have h2:y=1:=by omega
  subst h2;rcases h1 with rfl|rfl<;>first|(exfalso;revert h;decide)|decide
 .have h1:r=0∨r=1∨r=2:=by omega
  have h2:y=1∨y=2:=by omega
  rcases h1 with rfl|rfl|rfl<;>rcases h2 with rfl|rfl<;>first|(exfalso;revert h;decide)|decide
 .have h1:r=0∨r=1∨r=2∨r=3∨r=4:=by omega
  have h2:y=1∨y=2∨y=3∨y=4:=by omega
  rcases h1 with rfl|rfl|rfl|rfl|rfl<;>rcases h2 with rfl|rfl|rfl|rfl<;>first|(exfalso;revert h;decide)|decide
theorem Zw{p r:Int}(hp:mA p=true)(hr:0<=r/\r<p)(h:∀y:Nat,1<=y->(y:Int)<p->(r*y)%p≠1):GO p r=0:=by
 have h1:=h 1 (by omega);have h2:=h 2 (by omega);have h3:=h 3 (by omega);have h4:=h 4 (by omega);rcases Ej hp with rfl|rfl|rfl
 .have h1:r=0∨r=1:=by omega
  rcases h1 with rfl|rfl<;>first|decide|(exfalso;revert h1 h2 h3 h4;decide)
 .have h1:r=0∨r=1∨r=2:=by omega
  rcases h1 with rfl|rfl|rfl<;>first|decide|(exfalso;revert h1 h2 h3 h4;decide)
 .have h1:r=0∨r=1∨r=2∨r=3∨r=4:=by omega
  rcases h1 with rfl|rfl|rfl|rfl|rfl<;>first|decide|(exfalso;revert h1 h2 h3 h4;decide)
theorem Zx{p r:Int}(hp:mA p=true)(hr:1<=r/\r<p):1<=GO p r/\GO p r<p/\(r*GO p r)%p=1:=by
 rcases Ej hp with rfl|rfl|rfl
 .have h1:r=1:=by omega
  subst h1;decide
 .have h1:r=1∨r=2:=by omega
  rcases h1 with rfl|rfl<;>decide
 .have h1:r=1∨r=2∨r=3∨r=4:=by omega
  rcases h1 with rfl|rfl|rfl|rfl<;>decide
theorem eY{p:Int}(h:mA p=true):2<=p/\p<=5:=by have:=Ej h;omega
theorem Zy{p:Int}(h:p=2∨p=3∨p=5):mA p=true:=by simpa [mA]using h
theorem cC{x:Int}(h: -4611686018427387904<=x/\x<=4611686018427387904):wr x=x:=UJ (by omega)
theorem bJ{k n:Nat}(hk:k<n)(hn:n<=4611686018427387904):wr ((k:Int)+1)=((k+1:Nat):Int):=by rw[cC (by omega)];omega
theorem gY{α:Type}{l:List α}{k:Nat}(d:α)(h:k<l.length):bP l (k:Int)=some (l[k]?.getD d):=by rw[dX h];simp[h]
theorem OY{α:Type}{l:List α}{i:Int}(d:α)(h0:0<=i)(h:i<l.length):bP l i=some (l[i.toNat]?.getD d):=by
 have:=gY (l:=l) (k:=i.toNat) d (by omega)
 rwa [Int.toNat_of_nonneg h0]at this
theorem iD{k n:Nat}(h:k<n):decide ((k:Int)<(n:Int))=true:=aS (by omega)
theorem iZ{k n:Nat}(h:n<=k):decide ((k:Int)<(n:Int))=false:=bZ (by omega)
theorem Ag{β:Type}{body:Int->Option (Int ⊕ (Unit ⊕ β))}{s0:Int}{s n:Nat}(f:Nat->Option β)(hs0:s0=(s:Int))(hn:n<=4611686018427387904)(hsn:s<=n)(hs:∀k:Nat,s<=k->k<n->body k=some (match f k with|none=>.inl (wr (k+1))|some b=>.inr (.inr b)))
  (he:True->body n=some (.inr (.inl ()))):Lp body s0=some (match (List.range' s (n-s)).findSome? f with|none=>.inl ()|some b=>.inr b):=by
 have key:∀d k:Nat,s<=k->k+d=n->Lp body k=some (match (List.range' k d).findSome? f with|none=>.inl ()|some b=>.inr b):=by
  intro d;induction d with
  |zero=>intro k _ hk;rw[Nat.add_zero]at hk;subst hk;exact rW (he trivial)
  |succ d ih=>
   intro k h1 hk;have h:=hs k h1 (by omega);rw[List.range'_succ,List.findSome?_cons];cases hf:f k with
   |none=>rw[hf]at h;rw[EG h,bJ (n:=n) (by omega) hn];exact ih (k+1) (by omega) (by omega)
   |some b=>rw[hf]at h;exact rW h
 subst hs0;exact key (n-s) s (bA _) (by omega)
theorem cB{σ ρ:Type}{body:σ->Option (σ ⊕ ρ)}{s:σ}{r:ρ}(I:Nat->σ)(N:Nat)(h0:s=I 0)(hs:∀k,k<N->body (I k)=some (.inl (I (k+1))))(hr:True->body (I N)=some (.inr r)):Lp body s=some r:=aDZ I N h0 hs (hr trivial)
theorem xZ{β:Type}{body:Int->Option (Int ⊕ (Unit ⊕ β))}{n:Nat}(P:Nat->Bool)(b:β)(hn:n<=4611686018427387904)(hs:∀k:Nat,k<n->body k=some (bif P k then .inl (wr (k+1))else .inr (.inr b)))
  (he:True->body n=some (.inr (.inl ()))):Lp body 0=some (bif(List.range n).all P then .inl ()else .inr b):=by
 have key:∀d k:Nat,k+d=n->Lp body k=some (bif(List.range' k d).all P then .inl ()else .inr b):=by
  intro d;induction d with
  |zero=>intro k hk;rw[Nat.add_zero]at hk;subst hk;exact rW (he trivial)
  |succ d ih=>
   intro k hk;have h:=hs k (by omega);rw[List.range'_succ,List.all_cons];cases hf:P k with
   |true=>rw[hf]at h;rw[EG h,bJ (n:=n) (by omega) hn];exact ih (k+1) (by omega)
   |false=>rw[hf]at h;exact rW h
 have:=key n 0 (by omega)
 rwa [List.range_eq_range']
theorem aDa{β:Type}{body:Int->Option (Int ⊕ (Unit ⊕ β))}{n:Nat}(P:Nat->Bool)(b:β)(hn:n<=4611686018427387904)(hs:∀k:Nat,k<n->body k=some (bif P k then .inr (.inr b)else .inl (wr (k+1))))
  (he:True->body n=some (.inr (.inl ()))):Lp body 0=some (bif(List.range n).any P then .inr b else .inl ()):=by
 rw[xZ (λk=> !P k) b hn (λk hk=>by rw[hs k hk];cases P k<;>rfl) he,←List.not_any_eq_all_not];cases (List.range n).any P<;>rfl
theorem EY{α:Type}(d:α)(l:List α)(P:α->Bool):(List.range l.length).all (λk=>P (l[k]?.getD d))=l.all P:=by
 rw[Bool.eq_iff_iff,List.all_eq_true,List.all_eq_true];constructor
 .intro h x hx;obtain⟨k,hk,rfl⟩:=List.mem_iff_getElem.1 hx;have:=h k (List.mem_range.2 hk);simpa [hk]using this
 .intro h k hk;have hk:=List.mem_range.1 hk;simp only[fK hk,fR];exact h _ (List.getElem_mem hk)
theorem uE{n:Nat}{P:Nat->Bool}:(List.range n).all P=true↔ ∀k,k<n->P k=true:=by simp[List.all_eq_true]
theorem UM{l m:aA}(hl:l.length=m.length):(List.range l.length).all (λk=>decide (l[k]?.getD 0=m[k]?.getD 0))=decide (l=m):=by
 rw[Bool.eq_iff_iff,uE,gG];constructor
 .intro h;refine List.ext_getElem hl λk h1 h2=>?_;have:=of_decide_eq_true (h k h1);simpa [h1,h2]using this
 .rintro rfl k _;simp
def bN(r c:Nat)(F:Nat->Nat->Int):aA:=(List.range (r*c)).map λt=>F (t/c) (t%c)
theorem dU(r c:Nat)(F:Nat->Nat->Int):(bN r c F).length=r*c:=by simp[bN]
theorem Fi{r c i j:Nat}(hi:i<r)(hj:j<c):i*c+j<r*c:=by
 have:=Nat.mul_le_mul_right c (Nat.succ_le_of_lt hi);rw[Nat.succ_mul]at this;omega
theorem Ek{c i j:Nat}(hj:j<c):(i*c+j)/c=i:=by rw[Nat.mul_comm,Nat.mul_add_div (by omega),Nat.div_eq_of_lt hj,Nat.add_zero]
theorem El{c i j:Nat}(hj:j<c):(i*c+j)%c=j:=by rw[Nat.mul_comm,Nat.mul_add_mod,Nat.mod_eq_of_lt hj]
theorem nS{r c:Nat}(F:Nat->Nat->Int){i j:Nat}(hi:i<r)(hj:j<c):(bN r c F)[i*c+j]? =some (F i j):=by
 have h:=Fi hi hj;simp[bN,h,Ek hj,El hj]
theorem aCD{r c:Nat}(F:Nat->Nat->Int){i j:Nat}(hi:i<r)(hj:j<c):bP (bN r c F) ((i*c+j:Nat):Int)=some (F i j):=by
 rw[dX (by rw[dU];exact Fi hi hj),←nS F hi hj,fK]
theorem bX{r c:Nat}{F G:Nat->Nat->Int}(h:∀i j,i<r->j<c->F i j=G i j):bN r c F=bN r c G:=by
 unfold bN;refine oV λt ht=>?_;have ht:=List.mem_range.1 ht;have hc:0<c:=by rcases Nat.eq_zero_or_pos c with rfl|h';simp at ht;exact h'
 exact h _ _ (Nat.div_lt_of_lt_mul (by rw[Nat.mul_comm];exact ht)) (Nat.mod_lt _ hc)
def KU(F:Nat->Nat->Int)(i j:Nat)(v:Int):Nat->Nat->Int:=λa b=>if a=i/\b=j then v else F a b
theorem GP{r c:Nat}(F:Nat->Nat->Int){i j:Nat}(v:Int)(hi:i<r)(hj:j<c):(bN r c F).set (i*c+j) v=bN r c (KU F i j v):=by
 refine List.ext_getElem (by simp[bN]) λt h1 h2=>?_;rw[dU]at h2;have hc:0<c:=by omega
 rw[List.getElem_set];simp only[bN,List.getElem_map,List.getElem_range,KU];have e:=Nat.div_add_mod t c;by_cases ht:i*c+j=t
 .subst ht;rw[aP rfl,Ek hj,El hj,aP ⟨rfl,rfl⟩]
 .rw[aQ ht,aQ];rintro⟨rfl,rfl⟩;rw[Nat.mul_comm]at e;exact ht e
theorem aCE{r c:Nat}{l:aA}(h:l.length=r*c):l=bN r c (λi j=>l[i*c+j]?.getD 0):=by
 refine List.ext_getElem (by rw[dU,h]) λt h1 h2=>?_;simp only[bN,List.getElem_map,List.getElem_range];have e:t/c*c+t%c=t:=by rw[Nat.mul_comm];exact Nat.div_add_mod t c
 rw[e];simp[h1]
theorem RX(r c:Nat):List.replicate (r*c) (0:Int)=bN r c (λ_ _=>0):=by
 refine List.ext_getElem (by simp[bN]) λt h1 h2=>?_;simp[bN]
theorem wix{i c j:Nat}(h:i*c+j<=4611686018427387904):wr (wr ((i:Int)*(c:Int))+(j:Int))=((i*c+j:Nat):Int):=by
 have e:(i:Int)*(c:Int)=((i*c:Nat):Int):=by simp
 rw[e,cC (x:=((i*c:Nat):Int)) (by omega),cC (by omega)];omega
theorem Ma{i c:Nat}(h:i*c<=4611686018427387904):wr ((i:Int)*(c:Int))=((i*c:Nat):Int):=by
 have e:(i:Int)*(c:Int)=((i*c:Nat):Int):=by simp
 rw[e,cC (by omega)]
def ID(p:Int)(v:aA):Bool:=mA p&&decide (v.length<=64)&&v.all (λx=>zD x 0 (p-1))
theorem WL{p:Int}{v:aA}(h:ID p v=true):mA p=true/\v.length<=64/\v.all (λx=>zD x 0 (p-1))=true:=by
 simp only[ID,cF,gG]at h;exact⟨h.1.1,h.1.2,h.2⟩
def nG(F:Nat->Nat->Int)(j:Nat):Nat->Nat->Nat
 |0,k=>k
 |d+1,k=>if F k j=0 then nG F j d (k+1)else k
theorem PF{F:Nat->Nat->Int}{j:Nat}:∀{d k r:Nat},k<=r->r<=k+d->(∀i,k<=i->i<r->F i j=0)->(r<k+d->F r j≠0)->nG F j d k=r
 |0,k,r,h1,h2,_,_=>by simp[nG];omega
 |d+1,k,r,h1,h2,h3,h4=>by
  unfold nG;by_cases e:F k j=0
  .rw[aP e];have hne:k≠r:=by rintro rfl;exact h4 (by omega) e
   exact PF (by omega) (by omega) (λi a b=>h3 i (by omega) b) (λh=>h4 (by omega))
  .rw[aQ e];rcases dS k r with h|h
   .exact absurd (h3 k (bA _) h) e
   .omega
theorem Em{F:Nat->Nat->Int}{j:Nat}:∀{d k:Nat},k<=nG F j d k/\nG F j d k<=k+d
 |0,k=>by simp[nG]
 |d+1,k=>by
  unfold nG;split
  .have:=@Em F j d (k+1);omega
  .omega
def Ah(F:Nat->Nat->Int)(a b:Nat):Nat->Nat->Int:=λi c=>if i=a then F b c else if i=b then F a c else F i c
def wB(p:Int)(F:Nat->Nat->Int)(a:Nat)(s:Int):Nat->Nat->Int:=λi c=>if i=a then(F a c*s)%p else F i c
def Bw(p:Int)(F:Nat->Nat->Int)(a j:Nat):Nat->Nat->Int:=λi c=>if i=a then F a c else(F i c-F i j*F a c)%p
def gN(p:Int)(F:Nat->Nat->Int)(k r j:Nat):Nat->Nat->Int:=Bw p (wB p (Ah F k r) k (GO p (F r j))) k j
def jF(p:Int)(m:Nat)(st:(Nat->Nat->Int)×List Nat)(j:Nat):(Nat->Nat->Int)×List Nat:=
 if nG st.1 j (m-st.2.length) st.2.length=m then st else(gN p st.1 st.2.length (nG st.1 j (m-st.2.length) st.2.length) j,st.2++[j])
def bY(p:Int)(m:Nat)(F:Nat->Nat->Int):Nat->(Nat->Nat->Int)×List Nat
 |0=>(F,[])
 |t+1=>jF p m (bY p m F t) t
def Bx(p:Int)(m n:Nat)(F:Nat->Nat->Int):Prop:=∀i j,i<m->j<n->0<=F i j/\F i j<p
theorem WM{p:Int}(hp:0<p){m n:Nat}{F:Nat->Nat->Int}(_h:Bx p m n F)(k r j:Nat):Bx p m n (gN p F k r j):=by
 intro i c hi hc;unfold gN Bw wB;split
 .simp only[aP];exact⟨Int.emod_nonneg _ (by omega),Int.emod_lt_of_pos _ hp⟩
 .exact⟨Int.emod_nonneg _ (by omega),Int.emod_lt_of_pos _ hp⟩
theorem WN{p:Int}(hp:0<p){m n:Nat}{st:(Nat->Nat->Int)×List Nat}(h:Bx p m n st.1)(j:Nat):Bx p m n (jF p m st j).1:=by
 unfold jF;split
 .exact h
 .exact WM hp h _ _ _
theorem UN{p:Int}{m:Nat}{st:(Nat->Nat->Int)×List Nat}(h:st.2.length<=m)(j:Nat):(jF p m st j).2.length <=m:=by
 unfold jF;split
 .exact h
 .rename_i h1;have:=@Em st.1 j (m-st.2.length) st.2.length;simp;omega
theorem tR{p:Int}(hp:0<p){m n:Nat}{F:Nat->Nat->Int}(h:Bx p m n F):∀t,Bx p m n (bY p m F t).1
 |0=>h
 |t+1=>WN hp (tR hp h t) t
theorem uF{p:Int}{m:Nat}{F:Nat->Nat->Int}:∀t,(bY p m F t).2.length <=m
 |0=>Nat.zero_le _
 |t+1=>UN (uF t) t
theorem LW{p:Int}{m:Nat}{F:Nat->Nat->Int}:∀t,∀x∈(bY p m F t).2,x<t
 |0,x,h=>by simp[bY]at h
 |t+1,x,h=>by
  unfold bY jF at h;split at h
  .have:=LW t x h;omega
  .rcases eO.1 h with h|h
   .have:=LW t x h;omega
   .simp at h;omega
theorem En{p:Int}{m:Nat}{F:Nat->Nat->Int}:∀t,(bY p m F t).2.length <=t
 |0=>Nat.zero_le _
 |t+1=>by
  have:=@En p m F t;unfold bY jF;split
  .omega
  .simp;omega
def cA(l:aZ):Nat->Nat->Int:=λi j=>(l[i]?.getD [])[j]?.getD 0
def iH(F:Nat->Nat->Int)(r n:Nat):aZ:=(List.range r).map λi=>(List.range n).map λj=>F i j
theorem xF(F:Nat->Nat->Int)(r n:Nat):(iH F r n).length=r:=by simp[iH]
theorem PG(F:Nat->Nat->Int)(r n i j:Nat)(hi:i<r)(hj:j<n):cA (iH F r n) i j=F i j:=by
 simp[cA,iH,hi,hj]
theorem IE{F G:Nat->Nat->Int}{r n:Nat}(h:∀i j,i<r->j<n->F i j=G i j):iH F r n=iH G r n:=by
 unfold iH;refine oV λi hi=>oV λj hj=>h i j (by simpa using hi) (by simpa using hj)
def iE(p:Int)(n:Nat)(l:aZ):aZ:=iH (bY p l.length (cA l) n).1 (bY p l.length (cA l) n).2.length n
structure Red(m t:Nat)(F:Nat->Nat->Int)(L:List Nat):Prop where
 lt:∀i,i<L.length->L[i]?.getD 0<t
 inc:∀i k,i<k->k<L.length->L[i]?.getD 0<L[k]?.getD 0
 len:L.length<=m
 one:∀i,i<L.length->F i (L[i]?.getD 0)=1
 col:∀i k,i<L.length->k<m->k≠i->F k (L[i]?.getD 0)=0
 low:∀i j,L.length<=i->i<m->j<t->F i j=0
 left:∀i j,i<L.length->j<L[i]?.getD 0->F i j=0
theorem GQ{L:List Nat}{t i:Nat}:(L++[t])[i]?.getD 0=if i<L.length then L[i]?.getD 0 else if i=L.length then t else 0:=by
 by_cases h:i<L.length
 .rw[aP h,List.getElem?_append_left h]
 .rw[aQ h,List.getElem?_append_right (by omega)];by_cases h2:i=L.length
  .subst h2;simp
  .rw[aQ h2,jK (by simp;omega)];rfl
theorem KV{F:Nat->Nat->Int}{j:Nat}:∀{d k:Nat} i,k<=i->i<nG F j d k->F i j=0
 |0,k,i,h1,h2=>by simp[nG]at h2;omega
 |d+1,k,i,h1,h2=>by
  unfold nG at h2;by_cases e:F k j=0
  .rw[aP e]at h2;by_cases e2:i=k
   .subst e2;exact e
   .exact KV i (by omega) h2
  .rw[aQ e]at h2;omega
theorem Iy{F:Nat->Nat->Int}{j:Nat}:∀{d k:Nat},nG F j d k<k+d->F (nG F j d k) j≠0
 |0,k,h=>by simp[nG]at h
 |d+1,k,h=>by
  unfold nG at h ⊢;by_cases e:F k j=0
  .rw[aP e]at h ⊢;exact Iy (by omega)
  .rw[aQ e];exact e
theorem Zz{p:Int}(hp:mA p=true){m n t:Nat}(ht:t<n){st:(Nat->Nat->Int)×List Nat}(hin:Bx p m n st.1)(h:Red m t st.1 st.2):Red m (t+1) (jF p m st t).1 (jF p m st t).2:=by
 obtain⟨F,L⟩:=st;simp only at hin h;have hb:=eY hp;unfold jF;simp only;have hle:=@Em F t (m-L.length) L.length;have hz:=@KV F t (m-L.length) L.length;have hh:=@Iy F t (m-L.length) L.length;have hlen:=h.len;split
 .rename_i hm;show Red m (t+1) F L;refine⟨λi hi=>by have:=h.lt i hi;omega,h.inc,h.len,h.one,h.col,λi j h1 h2 h3=>?_,h.left⟩;by_cases e:j=t
  .subst e;exact hz i h1 (by omega)
  .exact h.low i j h1 h2 (by omega)
 .rename_i hm;generalize nG F t (m-L.length) L.length=r at*;have hrm:r<m:=by omega
  have hr0:=hh (by omega);have hrb:=hin r t hrm ht;have hiv:=Zx hp (r:=F r t) ⟨by omega,by omega⟩
  have hG:∀c,gN p F L.length r t L.length c=(F r c*GO p (F r t))%p:=by
   intro c;simp[gN,Bw,wB,Ah]
  have hrow:∀c,F r c=0->gN p F L.length r t L.length c=0:=by
   intro c hc;rw[hG,hc];simp
  have hE:∀i c,i≠L.length->gN p F L.length r t i c=((if i=r then F L.length c else F i c)-(if i=r then F L.length t else F i t)*gN p F L.length r t L.length c)%p:=by
   intro i c hi;simp[gN,Bw,wB,Ah,hi]
  have hT:gN p F L.length r t L.length t=1:=by rw[hG];exact hiv.2.2
  have hlow:∀j,j<t->F r j=0:=λj hj=>h.low r j hle.1 hrm hj;show Red m (t+1) (gN p F L.length r t) (L++[t]);refine⟨λi hi=>?_,λi k hik hk=>?_,by simp;omega,λi hi=>?_,λi k hi hk hki=>?_,λi j h1 h2 h3=>?_,λi j hi hj=>?_⟩
  .rw[GQ];simp at hi;split
   .rename_i h1;have:=h.lt i h1;omega
   .split<;>omega
  .simp at hk;rw[GQ,GQ,aP (by omega)];split
   .rename_i h1;exact h.inc i k hik h1
   .rw[aP (by omega)];exact h.lt i (by omega)
  .simp at hi;rw[GQ];by_cases e:i<L.length
   .rw[aP e,hE i _ (by omega),aQ (by omega),hrow _ (hlow _ (h.lt i e)),h.one i e];simp;exact Int.emod_eq_of_lt (by omega) (by omega)
   .have e2:i=L.length:=by omega
    subst e2;simp[hT]
  .simp at hi;rw[GQ];by_cases e:i<L.length
   .rw[aP e];by_cases ek:k=L.length
    .subst ek;exact hrow _ (hlow _ (h.lt i e))
    .rw[hE k _ ek,hrow _ (hlow _ (h.lt i e))];by_cases er:k=r
     .rw[aP er,h.col i L.length e (by omega) (by omega)];simp
     .rw[aQ er,h.col i k e hk hki];simp
   .have e2:i=L.length:=by omega
    subst e2;rw[aQ e,aP rfl,hE k _ hki,hT];simp
  .simp at h1;rw[hE i _ (by omega)];by_cases e:j=t
   .subst e;rw[hT];simp
   .rw[hrow _ (hlow j (by omega)),h.low L.length j (bA _) (by omega) (by omega),h.low i j (by omega) h2 (by omega)];simp
  .simp at hi;rw[GQ]at hj;by_cases e:i<L.length
   .rw[aP e]at hj;have:=h.lt i e;rw[hE i _ (by omega),aQ (by omega),hrow _ (hlow j (by omega)),h.left i j e hj];simp
   .have e2:i=L.length:=by omega
    subst e2;rw[aQ e,aP rfl]at hj;exact hrow _ (hlow j hj)
theorem IF{p:Int}(hp:mA p=true){m n:Nat}{F:Nat->Nat->Int}(hin:Bx p m n F):∀t,t<=n->Red m t (bY p m F t).1 (bY p m F t).2
 |0,_=>⟨by simp[bY],by simp[bY],by simp[bY],by simp[bY],by simp[bY],by simp,by simp[bY]⟩
 |t+1,ht=>Zz hp (by omega) (tR (by have:=eY hp;omega) hin t) (IF hp hin t (by omega))
theorem aAA{p:Int}(hp:mA p=true):GO p 1=1:=by
 rcases Ej hp with rfl|rfl|rfl<;>decide
theorem RY{p:Int}(hp:mA p=true){n:Nat}{R G:Nat->Nat->Int}{L:List Nat}{m:Nat}(h:Red m n R L)(hin:Bx p m n R)(hG:∀i j,i<L.length->j<n->G i j=R i j):
  ∀t,t<=n->(∃k,k<=L.length/\(bY p L.length G t).2=L.take k/\(∀i,i<k->L[i]?.getD 0<t)/\(∀i,k<=i->i<L.length->t<=L[i]?.getD 0))/\∀i j,i<L.length->j<n->(bY p L.length G t).1 i j=R i j
 |0,_=>⟨⟨0,Nat.zero_le _,rfl,λi hi=>absurd hi (Nat.not_lt_zero _),λi _ _=>Nat.zero_le _⟩,hG⟩
 |t+1,ht=>by
  obtain⟨⟨k,hk,e1,h1,h2⟩,h3⟩:=RY hp h hin hG t (by omega);have hlen:=h.len;have hkl:(L.take k).length=k:=by simp;omega
  unfold bY jF;rw[e1,hkl];obtain⟨H,hH⟩:∃H,H=(bY p L.length G t).1:=⟨_,rfl⟩;rw[←hH]at h3 ⊢;by_cases hlt:k<L.length/\L[k]?.getD 0=t
  .obtain⟨hk2,hkt⟩:=hlt;have hone:H k t=1:=by rw[h3 k t hk2 (by omega),←hkt];exact h.one k hk2
   have hpv:nG H t (L.length-k) k=k:=PF (bA _) (by omega) (λi a b=>absurd b (by omega)) (λ_=>by rw[hone];decide);rw[hpv,aQ (by omega)];refine⟨⟨k+1,by omega,?_,λi hi=>?_,λi hi hi2=>?_⟩,λi j hi hj=>?_⟩
   .show L.take k++[t]=_;rw[yK hk2];have:L[k]=t:=by simpa [hk2]using hkt
    rw[this]
   .by_cases e:i=k
    .subst e;omega
    .have:=h1 i (by omega);omega
   .have:=h.inc k i (by omega) hi2;omega
   .show gN p H k k t i j=_;have e2:∀c,(H k c*GO p (H k t))%p=H k c%p:=by intro c;rw[hone,aAA hp];simp
    have hb:=hin i j (by omega) hj;have hb2:=hin k j (by omega) hj;by_cases e:i=k
    .subst e;have e3:gN p H i i t i j=(H i j*GO p (H i t))%p:=by simp[gN,Bw,wB,Ah]
     rw[e3,e2,h3 i j hi hj];exact Int.emod_eq_of_lt hb.1 hb.2
    .have hz:H i t=0:=by rw[h3 i t hi (by omega),←hkt];exact h.col k i hk2 (by omega) e
     have e3:gN p H k k t i j=(H i j-H i t*((H k j*GO p (H k t))%p))%p:=by simp[gN,Bw,wB,Ah,e]
     rw[e3,hz,h3 i j hi hj];simp;exact Int.emod_eq_of_lt hb.1 hb.2
  .have hz:∀i,k<=i->i<L.length->H i t=0:=by
    intro i hi hi2;rw[h3 i t hi2 (by omega)];refine h.left i t hi2 ?_;have a:=h2 i hi hi2;by_cases e:i=k
    .subst e;have:L[i]?.getD 0≠t:=λe=>hlt ⟨hi2,e⟩;omega
    .have b:=h2 k (bA _) (by omega);have c:=h.inc k i (by omega) hi2;omega
   have hpv:nG H t (L.length-k) k=L.length:=PF hk (by omega) (λi a b=>hz i a b) (λh=>absurd h (by omega));rw[hpv,aP rfl];refine⟨⟨k,hk,e1,λi hi=>by have:=h1 i hi;omega,λi hi hi2=>?_⟩,by rw[←hH];exact h3⟩;have a:=h2 i hi hi2;by_cases e:i=k
   .subst e;have:L[i]?.getD 0≠t:=λe=>hlt ⟨hi2,e⟩;omega
   .have b:=h2 k (bA _) (by omega);have c:=h.inc k i (by omega) hi2;omega
def VecsP(p:Int)(n:Nat)(l:aZ):Prop:=∀v∈l,v.length=n/\∀x∈v,0<=x/\x<p
theorem VecsP.inP{p:Int}{n:Nat}{l:aZ}(h:VecsP p n l):Bx p l.length n (cA l):=by
 intro i j hi hj;have h1:=h l[i] (List.getElem_mem hi);have h2:=h1.2 ((l[i])[j]'(by omega)) (List.getElem_mem _);simpa [cA,hi,show j<(l[i]).length by omega]using h2
theorem Iz{p:Int}(hp:mA p=true){n:Nat}{l:aZ}(h:Bx p l.length n (cA l)):VecsP p n (iE p n l):=by
 intro v hv;unfold iE iH at hv;simp only[List.mem_map,List.mem_range]at hv;obtain⟨i,hi,rfl⟩:=hv;refine⟨by simp,λx hx=>?_⟩;simp only[List.mem_map,List.mem_range]at hx;obtain⟨j,hj,rfl⟩:=hx;have:=@uF p l.length (cA l) n;exact tR (by have:=eY hp;omega) h n i j (by omega) hj
theorem IG{p:Int}{n:Nat}{l:aZ}:(iE p n l).length <=n/\(iE p n l).length <=l.length:=by
 unfold iE;rw[xF];exact⟨En n,uF n⟩
theorem YW{p:Int}(hp:mA p=true){n:Nat}{l:aZ}(h:Bx p l.length n (cA l)):iE p n (iE p n l)=iE p n l:=by
 have h1:=IF hp h n (bA _);have h2:=tR (by have:=eY hp;omega) h n;have hl:(iE p n l).length=(bY p l.length (cA l) n).2.length:=by unfold iE;rw[xF]
 obtain⟨⟨k,hk,e1,h3,h4⟩,h5⟩:=RY hp (G:=cA (iE p n l)) h1 h2 (λi j hi hj=>by unfold iE;exact PG _ _ _ i j hi hj) n (bA _)
 have hk2:k=(bY p l.length (cA l) n).2.length:=by
  rcases dS k (bY p l.length (cA l) n).2.length with h6|h6
  .have a:=h4 k (bA _) h6;have b:=h1.lt k h6;omega
  .omega
 have e2:(bY p (iE p n l).length (cA (iE p n l)) n).2.length=(bY p l.length (cA l) n).2.length:=by
  rw[hl,e1,hk2,List.take_length]
 show iH (bY p (iE p n l).length (cA (iE p n l)) n).1 (bY p (iE p n l).length (cA (iE p n l)) n).2.length n=iH (bY p l.length (cA l) n).1 (bY p l.length (cA l) n).2.length n;rw[e2];refine IE λi j hi hj=>?_;rw[hl];exact h5 i j hi hj
def JX(p:Int)(n:Nat)(F:Nat->Nat->Int)(L:List Nat)(k:Nat):Nat->aA
 |0=>(List.replicate n 0).set k 1
 |i+1=>(JX p n F L k i).set (L[i]?.getD 0) ((-F i k)%p)
theorem GR(p:Int)(n:Nat)(F:Nat->Nat->Int)(L:List Nat)(k:Nat):∀i,(JX p n F L k i).length=n
 |0=>by simp[JX]
 |i+1=>by simp[JX,GR p n F L k i]
theorem Xa{p:Int}(hp:mA p=true)(n:Nat)(F:Nat->Nat->Int)(L:List Nat)(k:Nat):∀i,∀x∈JX p n F L k i,0<=x/\x<p
 |0,x,hx=>by
  have:=eY hp;rcases List.mem_or_eq_of_mem_set hx with h|h
  .rw[List.eq_of_mem_replicate h];omega
  .omega
 |i+1,x,hx=>by
  have:=eY hp;rcases List.mem_or_eq_of_mem_set hx with h|h
  .exact Xa hp n F L k i x h
  .rw[h];exact⟨Int.emod_nonneg _ (by omega),Int.emod_lt_of_pos _ (by omega)⟩
def DB(n:Nat)(L:List Nat):List Nat:=(List.range n).filter λk=> !L.contains k
def Mb(p:Int)(n:Nat)(F:Nat->Nat->Int)(L:List Nat):aZ:=(DB n L).map λk=>JX p n F L k L.length
def Qj(p:Int)(n:Nat)(a b:aZ):aZ:=iE p n (a++b)
def LX(p size:Int)(l:aZ):Bool:=mA p&&zD size 0 8&&decide (l.length<=16)&&l.all λv=>decide ((v.length:Int)=size)&&ID p v
def uP(p size:Int)(l:aZ):Bool:=LX p size l&&decide (iE p size.toNat l=l)
theorem IH{p size:Int}{l:aZ}(h:LX p size l=true):mA p=true/\∃n:Nat,size=n/\n<=8/\l.length<=16/\VecsP p n l:=by
 simp only[LX,cF,gG,List.all_eq_true]at h;obtain⟨⟨⟨h1,h2⟩,h3⟩,h4⟩:=h;have h5:=kP h2;refine⟨h1,size.toNat,by omega,by omega,h3,λv hv=>?_⟩;have h6:=h4 v hv;have h7:=WL h6.2;refine⟨by have:=h6.1;omega,λx hx=>?_⟩;have h8:=h7.2.2;rw[List.all_eq_true]at h8;have:=kP (h8 x hx);omega
theorem aAB{p:Int}{n:Nat}{l:aZ}(hp:mA p=true)(hn:n<=8)(hl:l.length<=16)(h:VecsP p n l):LX p n l=true:=by
 simp only[LX,cF,gG,List.all_eq_true];refine⟨⟨⟨hp,xY (by omega) (by omega)⟩,hl⟩,λv hv=>⟨by rw[(h v hv).1],?_⟩⟩;simp only[ID,cF,gG,List.all_eq_true];exact⟨⟨hp,by rw[(h v hv).1];omega⟩,λx hx=>xY (by have:=(h v hv).2 x hx;omega) (by have:=(h v hv).2 x hx;omega)⟩
theorem EI{p size:Int}{l:aZ}(h:uP p size l=true):mA p=true/\∃n:Nat,size=n/\n<=8/\l.length<=n/\VecsP p n l/\iE p n l=l:=by
 simp only[uP,cF,gG]at h;obtain⟨hp,n,rfl,hn,_,hv⟩:=IH h.1;have h2:iE p n l=l:=by simpa using h.2
 exact⟨hp,n,rfl,hn,by have:=(@IG p n l).1;rw[h2]at this;exact this,hv,h2⟩
theorem WO{p:Int}{n:Nat}{l:aZ}(hp:mA p=true)(hn:n<=8)(h:VecsP p n l):uP p n (iE p n l)=true:=by
 simp only[uP,cF,gG];exact⟨aAB hp hn (by have:=(@IG p n l).1;omega) (Iz hp h.inP),by simpa using YW hp h.inP⟩
theorem VecsP.append{p:Int}{n:Nat}{a b:aZ}(ha:VecsP p n a)(hb:VecsP p n b):VecsP p n (a++b):=by
 intro v hv;rcases eO.1 hv with h|h
 .exact ha v h
 .exact hb v h
def sN(f:Nat->Int):Nat->Int
 |0=>0
 |k+1=>sN f k+f k
theorem gO{f g:Nat->Int}:∀{n:Nat},(∀k,k<n->f k=g k)->sN f n=sN g n
 |0,_=>rfl
 |n+1,h=>by rw[sN,sN,gO λk hk=>h k (by omega),h n (by omega)]
theorem PH(f g:Nat->Int):∀n,sN (λk=>f k+g k) n=sN f n+sN g n
 |0=>rfl
 |n+1=>by rw[sN,sN,sN,PH f g n];omega
theorem PI(c:Int)(f:Nat->Int):∀n,sN (λk=>c*f k) n=c*sN f n
 |0=>by simp[sN]
 |n+1=>by rw[sN,sN,PI c f n,Int.mul_add]
theorem Ao:∀n,sN (λ_=>0) n=0
 |0=>rfl
 |n+1=>by rw[sN,Ao n];rfl
theorem Gt{f:Nat->Int}{j:Nat}:∀{n:Nat},j<n->(∀k,k<n->k≠j->f k=0)->sN f n=f j
 |0,h,_=>absurd h (Nat.not_lt_zero _)
 |n+1,h,hz=>by
  rw[sN];by_cases e:j=n
  .subst e;rw[gO (g:=λ_=>0) λk hk=>hz k (by omega) (by omega),Ao];omega
  .rw[Gt (j:=j) (by omega) λk hk hj=>hz k (by omega) hj,hz n (by omega) (by omega)];omega
def Z0(p x:Int):Prop:=x%p=0
theorem So{p x y:Int}(h:Z0 p x)(k:Z0 p y):Z0 p (x+y):=by unfold Z0 at*;rw[Int.add_emod,h,k];simp
theorem KW{p x:Int}(c:Int)(h:Z0 p x):Z0 p (c*x):=by unfold Z0 at*;rw[Int.mul_emod,h];simp
theorem Xb{p:Int}{f g:Nat->Int}:∀{n:Nat},(∀k,k<n->f k%p=g k%p)->sN f n%p=sN g n%p
 |0,_=>rfl
 |n+1,h=>by rw[sN,sN,Int.add_emod,Xb λk hk=>h k (by omega),h n (by omega),←Int.add_emod]
theorem PJ{p x y:Int}(h:x%p=y%p)(k:Z0 p x):Z0 p y:=by unfold Z0 at*;rw[←h];exact k
def dt(n:Nat)(f x:Nat->Int):Int:=sN (λk=>f k*x k) n
def Kr(p:Int)(m n:Nat)(F:Nat->Nat->Int)(x:Nat->Int):Prop:=∀i,i<m->Z0 p (dt n (F i) x)
theorem Sp{p:Int}{n:Nat}{f g x:Nat->Int}(h:∀k,k<n->f k%p=g k%p):dt n f x%p=dt n g x%p:=by
 unfold dt;refine Xb λk hk=>?_;rw[Int.mul_emod,h k hk,←Int.mul_emod]
theorem aAC{n:Nat}{f g x:Nat->Int}(c:Int):dt n (λk=>f k+c*g k) x=dt n f x+c*dt n g x:=by
 unfold dt;rw[←PI,←PH];refine gO λk hk=>?_;rw[Int.add_mul,Int.mul_assoc]
theorem Xc{n:Nat}{f x:Nat->Int}(c:Int):dt n (λk=>c*f k) x=c*dt n f x:=by
 unfold dt;rw[←PI];refine gO λk hk=>?_;rw[Int.mul_assoc]
theorem aAD{p:Int}(hp:mA p=true){m n k r j:Nat}(hj:j<n)(hk:k<m)(hr:r<m){F:Nat->Nat->Int}(hin:Bx p m n F)(hrj:F r j≠0)(x:Nat->Int):Kr p m n (gN p F k r j) x↔Kr p m n F x:=by
 have hb:=eY hp;have hrb:=hin r j hr hj;have hiv:=Zx hp (r:=F r j) ⟨by omega,by omega⟩;generalize hs:GO p (F r j)=s at*;have hrow:∀c,gN p F k r j k c=(F r c*s)%p:=by intro c;simp[gN,Bw,wB,Ah,hs]
 have hoth:∀i c,i≠k->gN p F k r j i c=((if i=r then F k c else F i c)-(if i=r then F k j else F i j)*gN p F k r j k c)%p:=by
  intro i c hi;simp[gN,Bw,wB,Ah,hi,hs]
 have e1:dt n (gN p F k r j k) x%p=(s*dt n (F r) x)%p:=by
  rw[←Xc];refine Sp λc hc=>?_;rw[hrow,Int.mul_comm,Int.emod_emod_of_dvd _ (Int.dvd_refl p)]
 have e2:dt n (F r) x%p=(F r j*dt n (gN p F k r j k) x)%p:=by
  rw[←Xc];refine Sp λc hc=>?_;rw[hrow,Int.mul_emod,Int.emod_emod_of_dvd _ (Int.dvd_refl p),←Int.mul_emod,show F r j*(F r c*s)=(F r j*s)*F r c by rw[Int.mul_comm (F r c),Int.mul_assoc],Int.mul_emod,hiv.2.2];simp
 have e3:∀i,i≠k->∀G:Nat->Int,(∀c,G c=if i=r then F k c else F i c)->dt n (gN p F k r j i) x%p=(dt n G x+ -(G j)*dt n (gN p F k r j k) x)%p:=by
  intro i hi G hG;rw[←aAC];refine Sp λc hc=>?_;rw[hoth i c hi,Int.emod_emod_of_dvd _ (Int.dvd_refl p),←hG,←hG,Int.neg_mul,Int.sub_eq_add_neg]
 constructor
 .intro h;have hkk:=h k hk;have hrr:Z0 p (dt n (F r) x):=by unfold Z0;rw[e2];exact KW _ hkk
  have key:∀i,i<m->i≠k->Z0 p (dt n (λc=>if i=r then F k c else F i c) x):=by
   intro i hi hik;have h1:=h i hi;unfold Z0 at h1;rw[e3 i hik (λc=>if i=r then F k c else F i c) (λc=>rfl)]at h1;have h2:=So (y:=(if i=r then F k j else F i j)*dt n (gN p F k r j k) x) h1 (KW _ hkk);refine PJ (congrArg (· % p) ?_) h2;rw[Int.neg_mul];omega
  intro i hi;by_cases e:i=r
  .subst e;exact hrr
  .by_cases e4:i=k
   .subst e4;have:=key r hr (λh=>e h.symm);simpa using this
   .have:=key i hi e4;simpa [e]using this
 .intro h;have hkk:Z0 p (dt n (gN p F k r j k) x):=by unfold Z0;rw[e1];exact KW _ (h r hr)
  intro i hi;by_cases e:i=k
  .subst e;exact hkk
  .unfold Z0;rw[e3 i e (λc=>if i=r then F k c else F i c) (λc=>rfl)];refine So ?_ (KW _ hkk);by_cases e4:i=r
   .simp only[e4,if_true];exact h k hk
   .simp only[e4,if_false];exact h i hi
theorem JA{p:Int}(hp:mA p=true){m n:Nat}{F:Nat->Nat->Int}(hin:Bx p m n F)(x:Nat->Int):∀t,t<=n->(Kr p m n (bY p m F t).1 x↔Kr p m n F x)
 |0,_=>Iff.rfl
 |t+1,ht=>by
  have ih:=JA hp hin x t (by omega);have hin2:=tR (by have:=eY hp;omega:0<p) hin t;have hlen:=@uF p m F t;show Kr p m n (jF p m (bY p m F t) t).1 x↔_;unfold jF;split
  .exact ih
  .rename_i h1;have hle:=@Em (bY p m F t).1 t (m-(bY p m F t).2.length) (bY p m F t).2.length;have hh:=@Iy (bY p m F t).1 t (m-(bY p m F t).2.length) (bY p m F t).2.length (by omega);refine Iff.trans ?_ ih;exact aAD hp (by omega) (by omega) (by omega) hin2 hh x
def kx(F:Nat->Nat->Int)(L:List Nat)(k:Nat):Nat->Int:=λc=>if c=k then 1 else -(sN (λi=>if L[i]?.getD 0=c then F i k else 0) L.length)
theorem UO{m n:Nat}{F:Nat->Nat->Int}{L:List Nat}(h:Red m n F L){k:Nat}(hk:k<n)(hL:∀i,i<L.length->L[i]?.getD 0≠k)(g:Nat->Int):dt n g (kx F L k)=g k-sN (λi=>g (L[i]?.getD 0)*F i k) L.length:=by
 have key:∀a,a<=L.length->sN (λc=>g c*(if c=k then 1 else -(sN (λi=>if L[i]?.getD 0=c then F i k else 0) a))) n=g k-sN (λi=>g (L[i]?.getD 0)*F i k) a:=by
  intro a;induction a with
  |zero=>
   intro _;rw[Gt (j:=k) hk]
   .rw[aP rfl];simp[sN]
   .intro c hc hck;rw[aQ hck];simp[sN]
  |succ a ih=>
   intro ha;have ih:=ih (by omega);have hlt:=h.lt a (by omega);have hne:=hL a (by omega)
   have e:sN (λc=>g c*(if c=k then 1 else -(sN (λi=>if L[i]?.getD 0=c then F i k else 0) (a+1)))) n
     =sN (λc=>g c*(if c=k then 1 else -(sN (λi=>if L[i]?.getD 0=c then F i k else 0) a))+(if c=L[a]?.getD 0 then -(g c*F a k)else 0)) n:=by
    refine gO λc hc=>?_;by_cases e1:c=k
    .rw[aP e1,aP e1,aQ (by omega)];omega
    .rw[aQ e1,aQ e1];simp only[sN];by_cases e2:c=L[a]?.getD 0
     .rw[aP e2,aP e2.symm,Int.neg_add,Int.mul_add,Int.mul_neg (g c) (F a k)]
     .rw[aQ e2,aQ (λh=>e2 h.symm)];simp
   rw[e,PH,ih,Gt (j:=L[a]?.getD 0) hlt (λc _ hc=>aQ hc),aP rfl];simp only[sN];omega
 have:=key L.length (bA _);exact this
theorem PK{p:Int}{m n:Nat}{F:Nat->Nat->Int}{L:List Nat}(h:Red m n F L){k:Nat}(hk:k<n)(hL:∀i,i<L.length->L[i]?.getD 0≠k):Kr p m n F (kx F L k):=by
 intro i hi;rw[UO h hk hL];rcases dS i L.length with hl|hl
 .rw[Gt (j:=i) hl]
  .rw[h.one i hl];unfold Z0;rw[Int.one_mul,Int.sub_self];simp
  .intro t ht hti;rw[h.col t i ht hi (λe=>hti e.symm)];simp
 .rw[h.low i k hl hi hk,gO (g:=λ_=>0) λt ht=>by rw[h.low i _ hl hi (h.lt t ht)];simp];rw[Ao];unfold Z0;simp
theorem Sq{p:Int}(hp:mA p=true){m m' n:Nat}{F G:Nat->Nat->Int}{L M:List Nat}(hF:Red m n F L)(hG:Red m' n G M)(hK:∀x,Kr p m n F x->Kr p m' n G x){t:Nat}(ht:t<M.length):∃i,i<L.length/\L[i]?.getD 0=M[t]?.getD 0:=by
 have hb:=eY hp;refine Classical.byContradiction λhn=>?_;have hL:∀i,i<L.length->L[i]?.getD 0≠M[t]?.getD 0:=λi hi e=>hn ⟨i,hi,e⟩;have hk:=hG.lt t ht;have h1:=hK _ (PK (p:=p) hF hk hL) t (by have:=hG.len;omega);rw[UO hF hk hL,hG.one t ht,gO (g:=λ_=>0) λi hi=>?_,Ao]at h1
 .unfold Z0 at h1;rw[Int.sub_zero,Int.emod_eq_of_lt (by omega) (by omega)]at h1;cases h1
 .rcases dS (L[i]?.getD 0) (M[t]?.getD 0)with e|e
  .rw[hG.left t _ ht e];simp
  .have:=hL i hi;rw[hF.left i _ hi (by omega)];simp
theorem Mc:∀{L M:List Nat},(∀i k,i<k->k<L.length->L[i]?.getD 0<L[k]?.getD 0)->(∀i k,i<k->k<M.length->M[i]?.getD 0<M[k]?.getD 0)->(∀i,i<L.length->∃j,j<M.length/\M[j]?.getD 0=L[i]?.getD 0)->(∀j,j<M.length->∃i,i<L.length/\L[i]?.getD 0=M[j]?.getD 0)->L=M
 | [],[],_,_,_,_=>rfl
 | [],y::M,_,_,_,h=>by obtain⟨i,hi,_⟩:=h 0 (by simp);simp at hi
 |x::L,[],_,_,h,_=>by obtain⟨i,hi,_⟩:=h 0 (by simp);simp at hi
 |x::L,y::M,hL,hM,h1,h2=>by
  have sL:∀i k,i<k->k<L.length->L[i]?.getD 0<L[k]?.getD 0:=λi k hik hk=>by have:=hL (i+1) (k+1) (by omega) (by simp;omega);simpa using this
  have sM:∀i k,i<k->k<M.length->M[i]?.getD 0<M[k]?.getD 0:=λi k hik hk=>by have:=hM (i+1) (k+1) (by omega) (by simp;omega);simpa using this
  have xL:∀i,i<L.length->x<L[i]?.getD 0:=λi hi=>by have:=hL 0 (i+1) (by omega) (by simp;omega);simpa using this
  have yM:∀i,i<M.length->y<M[i]?.getD 0:=λi hi=>by have:=hM 0 (i+1) (by omega) (by simp;omega);simpa using this
  have exy:x=y:=by
   obtain⟨j,hj,e1⟩:=h1 0 (by simp);obtain⟨i,hi,e2⟩:=h2 0 (by simp);simp at e1 e2
   have b1:y<=x:=by
    cases j with
    |zero=>simp at e1;omega
    |succ j=>simp at e1 hj;have:=yM j hj;omega
   have b2:x<=y:=by
    cases i with
    |zero=>simp at e2;omega
    |succ i=>simp at e2 hi;have:=xL i hi;omega
   omega
  subst exy;congr 1;refine Mc sL sM (λi hi=>?_) (λj hj=>?_)
  .obtain⟨j,hj,e⟩:=h1 (i+1) (by simp;omega);simp at e;have:=xL i hi;cases j with
   |zero=>simp at e;omega
   |succ j=>simp at e hj;exact⟨j,hj,e⟩
  .obtain⟨i,hi,e⟩:=h2 (j+1) (by simp;omega);simp at e;have:=yM j hj;cases i with
   |zero=>simp at e;omega
   |succ i=>simp at e hi;exact⟨i,hi,e⟩
theorem WP{p:Int}(hp:mA p=true){m m' n:Nat}{F G:Nat->Nat->Int}{L M:List Nat}(hF:Red m n F L)(hG:Red m' n G M)(iF:Bx p m n F)(iG:Bx p m' n G)(hK:∀x,Kr p m n F x↔Kr p m' n G x):L=M/\∀i j,i<L.length->j<n->F i j=G i j:=by
 have e:L=M:=Mc hF.inc hG.inc (λi hi=>Sq hp hG hF (λx=>(hK x).2) hi) (λj hj=>Sq hp hF hG (λx=>(hK x).1) hj);subst e;refine⟨rfl,λi k hi hk=>?_⟩;have hm:=hF.len;have hm':=hG.len;by_cases hL:∃t,t<L.length/\L[t]?.getD 0=k
 .obtain⟨t,ht,rfl⟩:=hL;by_cases e:i=t
  .subst e;rw[hF.one i hi,hG.one i hi]
  .rw[hF.col t i ht (by omega) e,hG.col t i ht (by omega) e]
 .have hL:∀t,t<L.length->L[t]?.getD 0≠k:=λt ht e=>hL ⟨t,ht,e⟩;have h1:=(hK _).1 (PK (p:=p) hF hk hL) i (by omega);rw[UO hF hk hL,Gt (j:=i) hi (λt ht hti=>by rw[hG.col t i ht (by omega) (λe=>hti e.symm)];simp),hG.one i hi,Int.one_mul]at h1;unfold Z0 at h1;have b1:=iF i k (by omega) hk;have b2:=iG i k (by omega) hk;have hd:=Int.dvd_of_emod_eq_zero h1;obtain⟨c,hc⟩:=hd
  have hc0:c=0:=by
   rcases Int.lt_trichotomy c 0 with h|h|h
   .have:=Int.mul_le_mul_of_nonneg_left (show c<= -1 by omega) (by omega:0<=p);omega
   .exact h
   .have:=Int.mul_le_mul_of_nonneg_left (show 1<=c by omega) (by omega:0<=p);omega
  subst hc0;simp at hc;omega
theorem Sr{p:Int}(hp:mA p=true){m m' n:Nat}{F G:Nat->Nat->Int}(iF:Bx p m n F)(iG:Bx p m' n G)(hK:∀x,Kr p m n F x↔Kr p m' n G x):(bY p m F n).2=(bY p m' G n).2/\∀i j,i<(bY p m F n).2.length->j<n->(bY p m F n).1 i j=(bY p m' G n).1 i j:=by
 have hb:=eY hp;refine WP hp (IF hp iF n (bA _)) (IF hp iG n (bA _)) (tR (by omega) iF n) (tR (by omega) iG n) λx=>?_;rw[JA hp iF x n (bA _),hK,JA hp iG x n (bA _)]
theorem AEff.conv{P:Program}{o:Oper}{ins:Operand->Option AV}{hp:Hp}{κ:Kp}{v v':AV}{tc:List Nat}{ed ed':List (Nat×Option Blk)}{n:List Nat}(h:AEff P o ins hp κ ⟨v,tc,ed,n⟩)(hv:v=v')(he:ed=ed'):AEff P o ins hp κ ⟨v',tc,ed',n⟩:=by subst hv;subst he;exact h
theorem AEff.val{P:Program}{o:Oper}{ins:Operand->Option AV}{hp:Hp}{κ:Kp}{v v':AV}{tc:List Nat}{ed:List (Nat×Option Blk)}{n:List Nat}(h:AEff P o ins hp κ ⟨v,tc,ed,n⟩)(hv:v=v'):AEff P o ins hp κ ⟨v',tc,ed,n⟩:=by subst hv;exact h
section
variable {P:Program}{T:List (Nat×Ty)}(hT:TyOk P T){dst:Option Tmp}{ty:TypeId}{pos:String}{aft:Array Edge}{g:Option (Nat×Bool)}{s:AState}
theorem bG{t t':TypeId}{x y:Operand}{a b:Int}(hx:s.ev x=some (.int a))(hy:s.ev y=some (.int b)):AEff P ⟨dst,.binOp .add t x y t',ty,pos,aft,g⟩ s.ev s.heap s.kp ⟨.int (wr (a+b)),[],[],[]⟩:=
 qM hx hy rfl λw=>by simp[eqGuard,binOp,Op.intArith,wr]
theorem iI{t t':TypeId}{x y:Operand}{a b:Int}(hx:s.ev x=some (.int a))(hy:s.ev y=some (.int b)):AEff P ⟨dst,.binOp .sub t x y t',ty,pos,aft,g⟩ s.ev s.heap s.kp ⟨.int (wr (a-b)),[],[],[]⟩:=
 qM hx hy rfl λw=>by simp[eqGuard,binOp,Op.intArith,wr]
theorem fF{t t':TypeId}{x y:Operand}{a b:Int}(hx:s.ev x=some (.int a))(hy:s.ev y=some (.int b)):AEff P ⟨dst,.binOp .mul t x y t',ty,pos,aft,g⟩ s.ev s.heap s.kp ⟨.int (wr (a*b)),[],[],[]⟩:=
 qM hx hy rfl λw=>by simp[eqGuard,binOp,Op.intArith,wr]
theorem UP{t:TypeId}{x:Operand}{a:Int}(hx:s.ev x=some (.int a)):AEff P ⟨dst,.unOp .neg t x,ty,pos,aft,g⟩ s.ev s.heap s.kp ⟨.int (wr (-a)),[],[],[]⟩:=
 Zh hx rfl λw=>by simp[Op.unary,Op.intArith,wr]
theorem PL{t t':TypeId}{x y:Operand}{a b:Int}(hx:s.ev x=some (.int a))(hy:s.ev y=some (.int b))(h:(!decide (b=0))=true):AEff P ⟨dst,.binOp .quo t x y t',ty,pos,aft,g⟩ s.ev s.heap s.kp ⟨.int (wr (a.tdiv b)),[],[],[]⟩:=
 qM hx hy rfl λw=>by
  have h':b≠0:=by simpa using h
  simp[eqGuard,binOp,Op.intDiv,h',wr]
theorem Dy{t t':TypeId}{x y:Operand}{a b:Int}(hx:s.ev x=some (.int a))(hy:s.ev y=some (.int b))(h:(!decide (b=0))=true):AEff P ⟨dst,.binOp .rem t x y t',ty,pos,aft,g⟩ s.ev s.heap s.kp ⟨.int (a.tmod b),[],[],[]⟩:=
 qM hx hy rfl λw=>by
  have h':b≠0:=by simpa using h
  simp[eqGuard,binOp,Op.intDiv,h']
variable {α:Type}{k:Nat}{e:α->List AV}
include hT
theorem YX{x ix:Operand}{t et:Nat}{y ye:Ty}{l:List α}{kk:IntKind}{i:Int}{v:α}(hm:bP l i=some v)(hx:s.ev x=some (.list k (l.map e)))(hix:s.ev ix=some (.sc (.int kk i)))(hy:cX T t=some y)(hd:y.desc= .slice et)(hye:cX T et=some ye)(hk:ye.size=k):
  AEff P ⟨dst,.indexAddr t x ix,ty,pos,aft,g⟩ s.ev s.heap s.kp ⟨.ref (e v),[],[],[]⟩:=YS hT hy hd hye hk hx hix (PB hm) (aCB hm)
theorem Eo{x ix:Operand}{t et:Nat}{y ye:Ty}{b n kz:Nat}{es:List (List AV)}{kk:IntKind}{i:Int}(h0:0<=i)(hn:i.toNat<n)(hx:s.ev x=some (.own b 0 n))(hb:s.heap b=some ⟨kz,es⟩)(hix:s.ev ix=some (.sc (.int kk i)))(hy:cX T t=some y)(hd:y.desc= .slice et)(hye:cX T et=some ye)(hk:ye.size=kz):
  AEff P ⟨dst,.indexAddr t x ix,ty,pos,aft,g⟩ s.ev s.heap s.kp ⟨.ptr b i.toNat 0,[b],[],[]⟩:=by
 have:=UH (P:=P) hT (dst:=dst) (ty:=ty) (pos:=pos) (aft:=aft) (g:=g) hy hd hye hx hb hk hix h0 (by omega);rw[Nat.zero_add]at this;exact this
omit hT in
theorem UQ:∀{cs vs:List AV},cs.length=vs.length->Fv cs 0 vs=vs
 | [],[],_=>rfl
 |c::cs,v::vs,h=>by simp only[Fv];rw[UQ (by simpa using h)]
theorem eD{t:TypeId}{y:Ty}{x z:Operand}{val:AV}{b i:Nat}{l:List α}{v u:α}(E:EOk k e)(hm:l[i]? =some v)(hc:dA val=e u)(hx:s.ev x=some (.ptr b i 0))(hb:s.heap b=some ⟨k,l.map e⟩)(hz:s.ev z=some val)(hy:cX T t=some y)(hk:y.size=k):
  AEff P ⟨dst,.store t x z,ty,pos,aft,g⟩ s.ev s.heap s.kp ⟨.dead,[b],[(b,some ⟨k,(l.set i u).map e⟩)],[]⟩:=by
 have h1:=Gs (P:=P) hT (dst:=dst) (ty:=ty) (pos:=pos) (aft:=aft) (g:=g) hx hb hz hy (by rw[hc,E.len,hk];simp) (by rw[hc,List.all_eq_true];exact λc h=>UK (E.mem u c h) _) (cs:=e v) (by rw[List.getElem?_map,hm];rfl) (by rw[E.len,hk,Nat.zero_add];simp);rw[hc,MZ (E.mem u),UQ (by rw[E.len,E.len]),←List.map_set]at h1;exact h1
theorem gZ{x z:Operand}{t et:Nat}{y ye:Ty}{b b' n:Nat}{l m:List α}{sv:AV}{ts:List Nat}{dty:TypeId}(E:EOk k e)(hf:decide (l.length+m.length<=4294967296)=true)(hns:s.ns.head?=some b')(hx:s.ev x=some (.own b 0 n))(hb:s.heap b=some ⟨k,l.map e⟩)(hl:l.length=n)(hz:s.ev z=some sv)(hsrc:zY s.heap sv=some (k,m.map e,ts))
  (hy:cX T t=some y) (hd:y.desc= .slice et) (hye:cX T et=some ye) (hzl:ye.zero.length=ye.size) (hk:ye.size=k) (hby:Nat.ble ye.bytes 32768=true):
  AEff P ⟨dst,.call ⟨.builtin .append,#[x,z],#[t,t]⟩,dty,pos,aft,g⟩ s.ev s.heap s.kp ⟨.own b' 0 (l++m).length,b::ts,[(b,none),(b',some ⟨k,(l++m).map e⟩)],[b']⟩:=by
 have hf:=of_decide_eq_true hf;have hby:=Nat.le_of_ble_eq_true hby
 have h1:=RW (P:=P) hT (dst:=dst) (pos:=pos) (aft:=aft) (g:=g) (dty:=dty) hns hx hb hz hsrc hy hd hye hzl hk.symm hk.symm (by simpa using hl) (E.okE _ m) (by simp;omega) (by simp only[dM];calc (n+m.length)*ye.bytes<=4294967296*32768:=Nat.mul_le_mul (by omega) hby
                                                                                                                                                               _<=140737488355328:=by decide)
 rw[E.namesE,List.append_nil,hk,dM]at h1;rw[List.length_append,List.map_append,hl];exact h1
omit hT in
theorem WQ{c:AV}(h:lD c=true):GI (yN c)=c:=by cases c<;>simp only[lD,gH]at h<;>rfl
omit hT in
theorem aAE(E:EOk k e)(l:List α):(l.map (ow e)).map (List.map GI)=l.map e:=by
 rw[List.map_map];refine oV λx _=>?_;simp only[Function.comp,ow,List.map_map]
 have:∀{cs:List AV},(∀c∈cs,lD c=true)->cs.map (GI∘yN)=cs:=by
  intro cs;induction cs with
  |nil=>intro _;rfl
  |cons c cs ih=>intro h;rw[List.map_cons,ih λd hd=>h d (by simp[hd])];simp only[Function.comp];rw[WQ (h c (by simp))]
 exact this (E.mem x)
omit hT in
theorem aEP{hp:Hp}{b n:Nat}{l:List α}(E:EOk k e)(hb:hp b=some ⟨k,l.map (ow e)⟩)(hl:l.length=n):zY hp (.own b 0 n)=some (k,l.map e,[b]):=by
 simp only[zY,hb,List.drop_zero];rw[List.take_of_length_le (by simp[hl]),aAE E]
omit hT in
theorem qC{h:Hp}{b n:Nat}{l:List α}(E:EOk k e)(hb:h b=some ⟨k,l.map (ow e)⟩)(hl:l.length=n):view1 h (.own b 0 n) (.list k (l.map e)):=WH hb rfl (by simp[hl]) (E.views l)
omit hT in
theorem EJ{h:Hp}{b n:Nat}{l:List α}(E:EOk k e)(hb:h b=some ⟨k,l.map (ow e)⟩)(hl:l.length=n):viewA h (.own b 0 n) (.list k (l.map e)):=qC E hb hl
omit hT in
theorem Xd{h:Hp}{b n:Nat}{l:List α}(E:EOk k e)(hb:h b=some ⟨k,l.map e⟩)(hl:l.length=n):view1 h (.own b 0 n) (.list k (l.map e)):=WH hb rfl (by simp[hl]) (E.sames l)
omit hT in
theorem aEQ{h:Hp}{b n:Nat}{l:List α}(E:EOk k e)(hb:h b=some ⟨k,l.map e⟩)(hl:l.length=n):viewA h (.own b 0 n) (.list k (l.map e)):=Xd E hb hl
omit hT in
theorem cP{h:Hp}{b n:Nat}{l:List α}(E:EOk k e)(hb:h b=some ⟨k,l.map (ow e)⟩)(hl:l.length=n):KR h (.own b 0 n) (.list k (l.map e)):=⟨rfl,_,hb,by simp[hl],rfl,E.frzs l⟩
end
theorem cY{h:Hp}:All2 (KR h) [] []:=rfl
theorem aM{h:Hp}{x d:AV}{xs ds:List AV}(a:KR h x d)(b:All2 (KR h) xs ds):All2 (KR h) (x::xs) (d::ds):=⟨d,ds,rfl,a,b⟩
theorem nT{h:Hp}{cs ds:List AV}(a:All2 (KR h) cs ds):Qh h [.agg cs] (.agg ds):=⟨a,by intro _ h;cases h⟩
theorem kK{h:Hp}{x:AV}{k:Nat}{es:List (List AV)}(a:KR h x (.list k es)):Qh h [x] (.list k es):=by
 refine⟨?_,by intro _ h;cases h⟩;cases x<;>exact a
theorem hO{h:Hp}{x d:AV}(a:KR h x d):Nw h x d:=by
 unfold Nw;split
 .exact a.elim
 .exact a
theorem gF{h:Hp}{cs ds:List AV}(a:All2 (KR h) cs ds):Nw h (.agg cs) (.agg ds):=a
theorem cZ{h:Hp}:All2 (Nw h) [] []:=rfl
theorem aW{h:Hp}{x d:AV}{xs ds:List AV}(a:Nw h x d)(b:All2 (Nw h) xs ds):All2 (Nw h) (x::xs) (d::ds):=⟨d,ds,rfl,a,b⟩
theorem bO{h:Hp}{vs rs:List AV}(hl:Nat.beq vs.length 1=false)(a:All2 (Nw h) vs rs):Qh h vs (.tuple rs):=by
 have h1:vs.length≠1:=by intro e;rw[e]at hl;cases hl
 cases vs with
 |nil=>exact⟨h1,a⟩
 |cons v vs=>
  cases vs with
  |nil=>exact absurd rfl h1
  |cons u vs=>exact⟨h1,a⟩
section
variable {s:AState}
theorem eZ{b b' j n k k':Nat}{A es es':List (List AV)}{c:List AV}(hb:s.heap b=some ⟨k,A++[c]⟩)(hj:c[j]? =some (.own b' 0 n))(hb':s.heap b'=some ⟨k',es⟩)(hne:Nat.beq b b'=false)(hn:es.length=n)(hf:All2 (All2 Nv) es es'):
  Ent s ⟨s.env,bB [(b',none),(b,some ⟨k,A++[Fv c j [.abs k' es']]⟩)] s.heap,s.used,s.ns,s.kp⟩:=by
 have h:=Fh (i:=A.length) hb (by simp) hj hb' hne hn rfl hf;have e:(A++[c]).set A.length (Fv c j [.abs k' es'])=A++[Fv c j [.abs k' es']]:=by rw[List.set_append_right _ _ (bA _),Nat.sub_self];rfl
 simp only[e]at h;exact h
theorem Ap{b b' i j n k k':Nat}{A es es':List (List AV)}{c:List AV}(hi:i<A.length)(hb:s.heap b=some ⟨k,A.set i c⟩)(hj:c[j]? =some (.own b' 0 n))(hb':s.heap b'=some ⟨k',es⟩)(hne:Nat.beq b b'=false)(hn:es.length=n)(hf:All2 (All2 Nv) es es'):
  Ent s ⟨s.env,bB [(b',none),(b,some ⟨k,A.set i (Fv c j [.abs k' es'])⟩)] s.heap,s.used,s.ns,s.kp⟩:=by
 have h:=Fh (i:=i) hb (by simp[hi]) hj hb' hne hn rfl hf;simp only[List.set_set]at h;exact h
end
theorem bF{α β:Type}(f:α->β)(l:List α):(l.map f).length=l.length:=dM ..
theorem dK:Tryz.prog.follows .mixedOrders=true:=by kernel_rfl
abbrev UR(b:ByteArray):List AV:=[.str b]
def dB{α:Type}(k:Nat)(e:α->List AV)(l:List α):List AV:=[.list k (l.map e)]
theorem cD:EOk 1 eI:=⟨λ_=>rfl,λ_=>rfl⟩
theorem US:EOk 1 UR:=⟨λ_=>rfl,λ_=>rfl⟩
theorem fY{α:Type}{k:Nat}{e:α->List AV}:EOk 1 (dB k e):=⟨λ_=>rfl,λ_=>rfl⟩
theorem dC:EOk 3 eM:=⟨λ_=>rfl,λ_=>rfl⟩
theorem FV:EOk 2 eS:=⟨λ_=>rfl,λ_=>rfl⟩
theorem gS:EOk 1 (ow eI):=⟨λ_=>rfl,λ_=>rfl⟩
theorem aAF:EOk 1 (ow UR):=⟨λ_=>rfl,λ_=>rfl⟩
theorem EOk.own{α:Type}{k:Nat}{e:α->List AV}(E:EOk k e)(h:∀x,(ow e x).all lD=true):EOk k (ow e):=⟨λx=>by simp[ow,E.len],h⟩
theorem Bz{nb nb':List (Nat×Blk)}{ed:List (Nat×Option Blk)}(h:nb=nb')(e:rV nb'=ed:=by rfl):rV nb=ed:=by rw[h];exact e
theorem Ai(σ:Nat->Option Nat){n:Nat}{cs:List AV}(h:cs.all eV=true):All2 (gR σ n) cs cs:=by
 induction cs with
 |nil=>rfl
 |cons c cs ih=>
  simp only[List.all_cons,cF]at h;refine⟨c,cs,rfl,?_,ih h.2⟩;cases c<;>simp only[eV,gH,false_and]at h<;>simp[gR]
theorem Ss{α:Type}{e:α->List AV}{z:α}(n:Nat):List.replicate n (ow e z)=(List.replicate n z).map (ow e):=(List.map_replicate ..).symm
section
variable {h:Hp}
theorem St{k b n:Nat}{es fs:List (List AV)}(hb:h b=some ⟨k,es⟩)(hn:n=es.length)(v:All2 (All2 view0) es fs):view1 h (.own b 0 n) (.list k fs):=WH hb rfl hn v
theorem aAG{k b n:Nat}{es fs:List (List AV)}(hb:h b=some ⟨k,es⟩)(hn:n=es.length)(v:All2 (All2 view0) es fs):viewA h (.own b 0 n) (.list k fs):=St hb hn v
theorem JB:All2 (viewP h) [] []:=rfl
theorem JC{x d:AV}{xs ds:List AV}(a:viewP h x d)(b:All2 (viewP h) xs ds):All2 (viewP h) (x::xs) (d::ds):=⟨d,ds,rfl,a,b⟩
theorem aCF{c:AV}(p:eV c=true):viewP h c c:=by cases c<;>simp only[eV,gH]at p<;>simp[viewP,view1,view0]
theorem Md{b:Nat}{blk:Blk}{c cs:List AV}(hb:h b=some blk)(hi:blk.es[0]? =some c)(v:All2 (view1 h) c cs):viewP h (.ptr b 0 0) (.ref cs):=⟨blk,c,hb,hi,v⟩
theorem RZ{f:FuncId}{cs ds:List AV}(v:All2 (viewP h) cs ds):viewA h (.fn f cs) (.fn f ds):=⟨rfl,v⟩
theorem PM:∀{cs:List AV},cs.all eV=true->All2 (viewP h) cs cs
 | [],_=>rfl
 |c::cs,p=>by simp only[List.all_cons,cF]at p;exact⟨c,cs,rfl,aCF p.1,PM p.2⟩
theorem aAH{f:FuncId}{cs:List AV}(p:cs.all eV=true):viewA h (.fn f cs) (.fn f cs):=⟨rfl,PM p⟩
end
theorem AA:NW (.agg []):=by intro _ h;cases h
theorem cK{c:AV}{cs:List AV}(a:UB c)(b:NW (.agg cs)):NW (.agg (c::cs)):=by
 intro d hd;rcases eW.1 hd with rfl|h
 .exact a
 .exact b d h
theorem DP:NY (.tuple []):=by intro _ h;cases h
theorem hZ{c:AV}{cs:List AV}(a:NW c)(b:NY (.tuple cs)):NY (.tuple (c::cs)):=by
 intro d hd;rcases eW.1 hd with rfl|h
 .exact a
 .exact b d h
section
variable {P:Program}{T:List (Nat×Ty)}{dst:Option Tmp}{ty:TypeId}{pos:String}{aft:Array Edge}{g:Option (Nat×Bool)}{s:AState}
theorem Aq(hT:TyOk P T){t e:TypeId}{y ye:Ty}{l c:Operand}{kl kc:IntKind}{n:Int}{b:Nat}(q:(decide (0<=n)&&decide (n<=1048576))=true)(hns:s.ns.head?=some b)(hl:s.ev l=some (.sc (.int kl n)))(hc:s.ev c=some (.sc (.int kc n)))(hy:cX T t=some y)(hd:y.desc= .slice e)(hye:cX T e=some ye)(hz:ye.zero.length=ye.size)(hb:Nat.ble ye.bytes 32768=true):
  AEff P ⟨dst,.makeSlice t l c,ty,pos,aft,g⟩ s.ev s.heap s.kp ⟨.own b 0 n.toNat,[],[(b,some ⟨ye.size,List.replicate n.toNat ye.zero⟩)],[b]⟩:=by
 simp only[cF,gG]at q;refine aDY hT hns hl hc hy hd hye hz q.1 (by omega) ?_;have hb:=Nat.le_of_ble_eq_true hb
 calc n.toNat*ye.bytes<=1048576*32768:=Nat.mul_le_mul (by omega) hb
  _<=140737488355328:=by decide
theorem LY{fo:Operand}{xs:Array Operand}{ats:Array TypeId}{f:FuncId}{caps avs ds1:List AV}{u:Value}(hcap:caps.all eV=true)(hc:HasC P f (ds1++caps) (.sc u))(hf:s.ev fo=some (.fn f caps))(hx:Hz s.ev xs.toList=some avs)(hv1:All2 (viewA s.heap) avs ds1):
  AEff P ⟨dst,.call ⟨.value fo,xs,ats⟩,ty,pos,aft,g⟩ s.ev s.heap s.kp ⟨.sc u,avs.flatMap (kT s.heap)++caps.flatMap (mW s.heap),[],[]⟩:=
 Oy (ds1:=ds1) (ds2:=caps) (ns:=[]) (nb:=[]) (r:=.sc u) (x:=.sc u) hf hx hc hv1 (PM hcap) trivial (Sl [] u) rfl (by simp)
end
def nN(σ:Nat->Option Nat)(ν:Nu):Nu:=⟨λb=>match σ b with|some b0=>ν b0|none=>none,ν.ok⟩
structure Conv(σ:Nat->Option Nat)(n:Nat)(w:World)(h:Hp)(u:Us)(ν:Nu)(hl:List (Nat×Blk)):Prop where
 free:∀x,vY h ν x->vY (iN hl) (nN σ ν) x
 rep:∀{x y:AV}{v:Value},RepA w h u ν x v->rB σ n x y->RepA w (iN hl) (Bt n) (nN σ ν) y v
 heap:∀{M:Nat->Prop}{φ:Nat->List Nat},HeapOk M w h u ν φ->HeapOk M w (iN hl) (Bt n) (nN σ ν) (λb=>match σ b with|some b0=>φ b0|none=>[])
 look:∀b y,iN hl b=some y->(∀b0,σ b=some b0->∃x,h b0=some x/\x.k=y.k/\x.es.length=y.es.length)/\Nat.blt b n=true
theorem JD{σ:Nat->Option Nat}{n:Nat}{w:World}{h:Hp}{u:Us}{ν:Nu}{hl:List (Nat×Blk)}(hh:oX σ n h hl)(hi:EE σ hl=true):Conv σ n w h u ν hl:=by
 generalize hν':nN σ ν=ν';have hνok:ν'.ok=ν.ok:=by rw[←hν'];rfl
 have hνb:∀b,ν' b=match σ b with|some b0=>ν b0|none=>none:=λb=>by rw[←hν'];rfl
 have hlive:∀b y,iN hl b=some y->(match σ b with|some b0=>∃x,h b0=some x/\KQ σ n x y|none=>y.es=[])/\Nat.blt b n=true:=λb y h=>Ou hh (qN h)
 have hlen:∀{x y:Blk},KQ σ n x y->x.k=y.k/\x.es.length=y.es.length:=by
  rintro x y ⟨h1,h2|h2⟩
  .exact⟨h1,by rw[h2.1]⟩
  .exact⟨h1,h2.len.symm⟩
 have hfree:∀x,vY h ν x->vY (iN hl) ν' x:=by
  intro x hf b y β c hb hν;have h1:=(hlive b y hb).1;cases hσ:σ b with
  |none=>simp only[hνb,hσ]at hν;cases hν
  |some b0=>
   rw[hσ]at h1;simp only[hνb,hσ]at hν;obtain⟨z,h2,_⟩:=h1;exact hf b0 z β c h2 hν
 have m1:∀{x y:AV}{v:Value},Rep1 w h u ν x v->gR σ n x y->Rep1 w (iN hl) (Bt n) ν' y v:=by
  intro x y v r m;cases y
  case dead=>trivial
  case sc u=>cases x<;>simp only[gR]at m<;>first|exact m.elim|(subst m;exact r)
  case nil k=>cases x<;>simp only[gR]at m<;>first|exact m.elim|exact r
  case list k es=>
   cases x<;>simp only[gR]at m<;>first|exact m.elim|skip
   .subst m;simp only[Rep1]at r ⊢;exact⟨[],by rw[r];exact GK,by simp⟩
   .obtain⟨rfl,rfl⟩:=m;obtain⟨S,r1,r2⟩:=r;exact⟨S,r1,λx hx=>⟨hfree x (r2 x hx).1,by rw[hνok];exact(r2 x hx).2⟩⟩
  case ref cs=>
   cases x<;>simp only[gR]at m<;>first|exact m.elim|skip
   subst m;obtain⟨S,r1,r2⟩:=r;exact⟨S,r1,λx hx=>⟨hfree x (r2 x hx).1,by rw[hνok];exact(r2 x hx).2⟩⟩
  case own b i q=>
   cases x<;>simp only[gR]at m<;>first|exact m.elim|skip
   .obtain⟨m1,rfl,rfl,m4⟩:=m;simp only[Rep1]at r ⊢;refine⟨m4,λblk hb=>?_⟩;have h1:=(hlive b blk hb).1;rw[m1]at h1;refine⟨by simp,λ_=>r,λβ c hν=>?_⟩;simp only[hνb,m1]at hν;cases hν
   .rename_i b0 i0 q0;obtain⟨m1,rfl,rfl,m4⟩:=m;simp only[Rep1]at r ⊢;refine⟨m4,λblk hb=>?_⟩;have h1:=(hlive b blk hb).1;rw[m1]at h1;obtain⟨z,h2,h3⟩:=h1;obtain⟨k1,k2⟩:=hlen h3;obtain⟨r1,r2,r3⟩:=r.2 z h2;refine⟨by rw[←k2];exact r1,λhν=>r2 (by simpa only[hνb,m1]using hν),λβ c hν=>?_⟩;rw[←k1];exact r3 β c (by simpa only[hνb,m1]using hν)
  case ptr b i q=>
   cases x<;>simp only[gR]at m<;>first|exact m.elim|skip
   rename_i b0 i0 q0;obtain⟨m1,rfl,rfl,m4⟩:=m;simp only[Rep1]at r ⊢;refine⟨m4,λblk hb=>?_⟩;have h1:=(hlive b blk hb).1;rw[m1]at h1;obtain⟨z,h2,h3⟩:=h1;obtain⟨k1,k2⟩:=hlen h3;obtain⟨β,c,r1,r2⟩:=r.2 z h2;exact⟨β,c,by simpa only[hνb,m1]using r1,by rw[←k1];exact r2⟩
  all_goals (cases x<;>simp only[gR]at m)
 have mL:∀{xs ys:List AV}{vs:List Value},All2 (Rep1 w h u ν) xs vs->All2 (gR σ n) xs ys->All2 (Rep1 w (iN hl) (Bt n) ν') ys vs:=by
  intro xs;induction xs with
  |nil=>intro ys vs r m;simp only[All2]at r m;subst r m;rfl
  |cons x xs ih=>
   rintro ys vs ⟨v,r,rfl,h1,h2⟩ ⟨y,q,rfl,k1,k2⟩;exact⟨v,r,rfl,m1 h1 k1,ih h2 k2⟩
 have mC:∀{x y:AV}{v:Value}{S:List Nat},CellRep w h u ν x v S->oW σ n x y->CellRep w (iN hl) (Bt n) ν' y v S:=by
  intro x y v S r m
  cases x<;>cases y<;>simp only[oW]at m<;>simp only[CellRep]at r ⊢ <;>first
   |exact m.elim
   |exact r.elim
   |exact⟨m1 r.1 m,r.2⟩
   |(obtain⟨rfl,m⟩:=m;obtain⟨⟨vs,r1,r2⟩,r3⟩:=r;exact⟨⟨vs,r1,mL r2 m⟩,r3⟩)
   |(obtain⟨rfl,rfl⟩:=m;exact r)
   |(obtain⟨r1,rfl⟩:=r;subst m;simp only[Rep1]at r1;rw[r1];exact LL)
   |(simp only[gR]at m)
 have mCs:∀{xs ys:List AV}{vs:List Value}{S:List Nat},CellsRep w h u ν xs vs S->All2 (oW σ n) xs ys->CellsRep w (iN hl) (Bt n) ν' ys vs S:=by
  intro xs;induction xs with
  |nil=>intro ys vs S r m;simp only[All2]at m;subst m;exact r
  |cons x xs ih=>
   rintro ys vs S ⟨v,r,S1,S2,rfl,rfl,h1,h2⟩ ⟨y,q,rfl,k1,k2⟩;exact⟨v,r,S1,S2,rfl,rfl,mC h1 k1,ih h2 k2⟩
 have mSelf:∀{xs:List AV}{vs:List Value}{S:List Nat},CellsRep w h u ν xs vs S->(∀c∈xs,yL c=true)->CellsRep w (iN hl) (Bt n) ν' xs vs S:=by
  intro xs vs S r hp;refine mCs r ?_;clear r;induction xs with
  |nil=>rfl
  |cons x xs ih=>
   refine⟨x,xs,rfl,?_,ih (λc hc=>hp c (by simp[hc]))⟩;have:=hp x (by simp);cases x<;>simp only[yL,gH]at this<;>simp[oW,gR]
 have mFlat:∀{es fs:List (List AV)}{R:AV->AV->Prop},All2 (All2 R) es fs->All2 R es.flatten fs.flatten:=by
  intro es;induction es with
  |nil=>intro fs R h;simp only[All2]at h;subst h;rfl
  |cons c es ih=>
   rintro fs R ⟨d,fs',rfl,h1,h2⟩;rw[List.flatten_cons,List.flatten_cons];exact h1.append (ih h2)
 have mlens:∀{es fs:List (List AV)}{k:Nat},All2 (All2 (oW σ n)) es fs->(∀cs∈es,cs.length=k)->∀cs∈fs,cs.length=k:=by
  intro es;induction es with
  |nil=>intro fs k h _ cs hcs;simp only[All2]at h;subst h;cases hcs
  |cons c es ih=>
   rintro fs k ⟨d,fs',rfl,h1,h2⟩ hk cs hcs;rcases eW.1 hcs with rfl|h
   .rw[h1.len];exact hk c (by simp)
   .exact ih h2 (λx hx=>hk x (by simp[hx])) cs h
 subst hν';refine⟨hfree,?_,?_,λb y hb=>⟨λb0 e=>?_,(hlive b y hb).2⟩⟩
 .intro x y v h4 h2
  cases x<;>cases y<;>simp only[rB]at h2<;>simp only[RepA,RepB]at h4 ⊢ <;>first
   |exact m1 h4 h2
   |(obtain⟨vs,e1,e2⟩:=h4;exact⟨vs,e1,mL e2 h2⟩)
   |(obtain⟨vs,e1,e2⟩:=h4;obtain⟨rfl,h2⟩:=h2;exact⟨vs,e1,mL e2 h2⟩)
   |trivial
   |(simp only[gR]at h2)
 .intro M φ hφ;refine⟨?_,?_⟩
  .intro b y hb;obtain⟨h1,h2⟩:=hlive b y hb;refine⟨h2,?_⟩;cases hσ:σ b with
   |none=>
    rw[hσ]at h1;simp only;exact⟨⟨by rw[h1];simp,.inl ⟨by simp only[hνb,hσ],h1,rfl⟩⟩,by simp,by simp⟩
   |some b0=>
    rw[hσ]at h1;simp only;obtain⟨x,h3,h4⟩:=h1;obtain⟨g1,⟨g2,g3⟩,g4,g5⟩:=hφ.blk b0 x h3;obtain⟨k1,k2⟩:=hlen h4;refine⟨⟨?_,?_⟩,g4,g5⟩
    .rcases h4.2 with ⟨e1,_⟩|e1
     .rw[←e1,←k1];exact g2
     .rw[←k1];exact mlens e1 g2
    .rcases g3 with ⟨q1,q2,q3⟩|⟨β,c,arr,ty,T,vs,q1,q2,q3,q4,q5,q6,q7,q8⟩
     .exact .inl ⟨by simp only[hνb,hσ];exact q1,by rw[q2]at k2;exact List.eq_nil_of_length_eq_zero k2.symm,q3⟩
     .refine .inr ⟨β,c,arr,ty,T,vs,by simp only[hνb,hσ];exact q1,q2,by rw[←k1];exact q3,by rw[←k2];exact q4,q5,q6,by rw[←k1,←k2];exact q7,?_⟩;rcases h4.2 with ⟨e1,e2⟩|e1
      .rw[e1]at q8;exact mSelf q8 (λc hc=>by obtain⟨cs,hcs,hc'⟩:=List.mem_flatten.1 hc;exact e2 cs hcs c hc')
      .exact mCs q8 (mFlat e1)
  .intro b c z hb hc hne hzb hzc;obtain⟨y1,hy1⟩:=Option.ne_none_iff_exists'.1 hb;obtain⟨y2,hy2⟩:=Option.ne_none_iff_exists'.1 hc;have i1:=(Ov hi (qN hy1) (qN hy2)).2 hne;have l1:=(hlive b y1 hy1).1;have l2:=(hlive c y2 hy2).1;cases h1:σ b with
   |none=>rw[h1]at hzb;cases hzb
   |some b0=>
    cases h2:σ c with
    |none=>rw[h2]at hzc;cases hzc
    |some c0=>
     rw[h1]at hzb l1;rw[h2]at hzc l2;obtain⟨x1,p1,_⟩:=l1;obtain⟨x2,p2,_⟩:=l2;exact hφ.apart b0 c0 z (by rw[p1];simp) (by rw[p2];simp) (λe=>i1 b0 h1 (by rw[h2,e])) hzb hzc
 .have h1:=(hlive b y hb).1;rw[e]at h1;obtain⟨x,h2,h3⟩:=h1;exact⟨x,h2,(hlen h3).1,(hlen h3).2⟩
structure HasE(P:Program)(f:FuncId)(ds:List AV)(hl:List (Nat×Blk))(kp:Nat)(r:AV)(hl':List (Nat×Blk)):Prop where
 enters:Enters P f
 calls:∀(B:Nat)(M:Nat->Prop)(w:World)(args:Array Value)(ν:Nu)(φ:Nat->List Nat),(∀x,M x->B<=x)->B<=w.heap.size->(∀x,w.heap.size<=x->M x)->(∀x,M x->ν.ok x)->All2 (RepA w (iN hl) (Bt kp) ν) ds args.toList->HeapOk M w (iN hl) (Bt kp) ν φ->
  Calls P f args w λe w'=>∃v u' ν' φ',e= .returned v/\Below B w w'/\Ext w (iN hl) (Bt kp) ν w' (iN hl') u' ν'/\HeapOk M w' (iN hl') u' ν' φ'/\RepA w' (iN hl') u' ν' r v
def UT:AV->Bool
 | .tuple _=>false
 |_=>true
def aDb(vs:List AV)(r:AV):Prop:=(vs=[r])∨(vs.length≠1/\vs.all UT=true/\r= .tuple vs)
def aAI(h:Hp):List (Nat×Blk)->Prop
 | []=>True
 |(b,y)::r=>h b=some y/\aAI h r
theorem Ra{h:Hp}:∀{l:List (Nat×Blk)},aAI h l->∀{b:Nat}{y:Blk},(b,y)∈l->h b=some y
 |(c,z)::r,⟨h1,h2⟩,b,y,hm=>by
  rcases eW.1 hm with e|hm'
  .obtain⟨rfl,rfl⟩:=Prod.mk.inj e;exact h1
  .exact Ra h2 hm'
def aFF(T:List (Nat×Ty))(rvs:List ResultVar)(r:AV)(hl':List (Nat×Blk))(e:Exit)(t:AState):Prop:=NZ e=true/\(∃vs,EF T t rvs=some vs/\aDb vs r)/\aAI t.heap hl'
theorem Ext.shrink{w w':World}{h h' g:Hp}{u u':Us}{ν ν':Nu}(e:Ext w h u ν w' h' u' ν')(hg:∀b blk,g b=some blk->h' b=some blk):Ext w h u ν w' g u' ν':=
 ⟨e.used,λb blk hb hgb=>e.old b blk hb (hg b blk hgb),λx hx hf=>⟨(e.free x hx hf).1,λb blk β c hb hν=>(e.free x hx hf).2 b blk β c (hg b blk hb) hν⟩,e.okE⟩
theorem HeapOk.shrink{M M':Nat->Prop}{w:World}{h g:Hp}{u:Us}{ν:Nu}{φ:Nat->List Nat}(hh:HeapOk M w h u ν φ)(hg:∀b blk,g b=some blk->h b=some blk)(hM:∀b x,g b≠none->x∈φ b->M x->M' x):HeapOk M' w g u ν φ where
 blk:=λb blk hb=>by
  obtain⟨g1,g2,g3,g4⟩:=hh.blk b blk (hg b blk hb);exact⟨g1,g2.ext ((Ext.refl w h u ν).shrink hg) rfl (λ_ _=>rfl),g3,λx hx=>hM b x (by rw[hb];simp) hx (g4 x hx)⟩
 apart:=λb c x hb hc hne hxb hxc=>by
  obtain⟨y1,h1⟩:=Option.ne_none_iff_exists'.1 hb;obtain⟨y2,h2⟩:=Option.ne_none_iff_exists'.1 hc;exact hh.apart b c x (by rw[hg b y1 h1];simp) (by rw[hg c y2 h2];simp) hne hxb hxc
theorem PN:∀{l:List AV}{t:Nat},KT l t=l[t]?
 | [],_=>by simp[KT]
 |_::_,0=>by simp[KT]
 |_::r,t+1=>by simpa [KT]using PN (l:=r) (t:=t)
theorem aDc{w:World}{h:Hp}{u:Us}{ν:Nu}{x:AV}{v:Value}(r:RepA w h u ν x v)(hx:UT x=true):RepB w h u ν x v:=by
 cases x<;>first|exact r|cases hx
theorem fI{P:Program}{T:List (Nat×Ty)}(hT:TyOk P T){f:FuncId}{fn:Func}{c:Code}{nt kp:Nat}{ds:List AV}{hl hl':List (Nat×Blk)}{r:AV}{rvs:List ResultVar}{ns:List Nat}(hf:P.funcs[f]? =some fn)(hb:fn.body=some c)(hname:(fn.name== "runtime.NumGoroutine")=false)(hnt:fn.ntmps=nt)(hres:fn.results.toList=rvs)
  (hlen:Nat.ble ds.length nt=true) (h:AC P nt c ⟨KT ds,iN hl,Bt kp,ns,⟨kp,false,none,true⟩⟩ (λe t=>∃t',Ent t t'/\aFF T rvs r hl' e t')):HasE P f ds hl kp r hl':=by
 refine⟨Enters.mk hf (by rw[hb];rfl) hname,λB M w args ν φ hMB hB hM hMo hargs hheap=>?_⟩;refine(callsIn_wide (n:=0)).1 (callsIn_of_wp_marks (F:=fw none) hf hb trivial ?_);have hlen':=Nat.le_of_ble_eq_true hlen;have hal:args.size=ds.length:=by have:=hargs.len;simpa using this
 let C:Ctx:=⟨B,w,nt,M,hMB,⟨kp,false,none,true⟩,w,iN hl,ν,vY (iN hl) ν,(λh=>by cases h),(λ_ h=>by cases h),none,λ_=>rfl⟩
 have hsim:Sim C ⟨KT ds,iN hl,Bt kp,ns,⟨kp,false,none,true⟩⟩ ν ⟨args++Array.replicate (fn.ntmps-args.size) undef,[]⟩ w:=by
  refine⟨Below.refl _ _,hB,hM,Cj,by show(args++Array.replicate (fn.ntmps-args.size) undef).size=nt;simp[hnt];omega,?_,⟨φ,hheap⟩,rfl,ExtF.refl λ_ _ h=>h,bA _,hMo,λ_ h=>by cases h⟩;intro t x hx;have hx':ds[t]? =some x:=by rw[←PN];exact hx
  obtain⟨v,h1,h2⟩:=hargs.get hx';refine⟨v,?_,h2⟩
  have hlt:t<args.size:=by
   rcases dS t args.size with h'|h'
   .exact h'
   .rw[jK (by simpa using h')]at h1;cases h1
  show(args++Array.replicate (fn.ntmps-args.size) undef)[t]? =some v;rw[Array.getElem?_append_left hlt];simpa using h1
 refine wpIn_mono (h.out C rfl _ _ w hsim 0) λe a' w0 ⟨s1,ν1,⟨s',hent,hq⟩,hs1⟩=>?_;obtain⟨ν',hs0⟩:=hent C ν1 a' w0 hs1;obtain⟨Ds,d1,d2,d3⟩:=hs0.defers;obtain⟨w',hs',hleave⟩:=hs0.leave (P:=P) (n:=0) d1 d2 d3;obtain⟨he,⟨avs,hv,hone⟩,hsame⟩:=hq;have hsub:∀b blk,iN hl' b=some blk->s'.heap b=some blk:=λb blk hb=>Ra hsame (qN hb);obtain⟨us,h1,h2⟩:=Ff hT hs' hv;obtain⟨φ',hh⟩:=hs'.heap
 have hrun:(results fn a'.tmps).run P w'= .ok (if hh:us.toArray.size=1 then us.toArray[0]else .tuple us.toArray) w':=by
  unfold results;rw[Sem.run_bind,Array.mapM_eq_mapM_toList,Sem.run_map,hres];have h1':=h1;generalize hq:(List.mapM _ rvs:Sem (List Value))=m;rw[show Sem.run P m w'= .ok us w' by rw[←hq];exact h1'];simp
 have shr:=(Ext.refl w' s'.heap s'.used ν').shrink hsub
 have hrep:RepA w' (iN hl') s'.used ν' r (if hh:us.toArray.size=1 then us.toArray[0]else .tuple us.toArray):=by
  rcases hone with rfl|⟨g1,g2,rfl⟩
  .obtain⟨u,q,rfl,k1,k2⟩:=h2;simp only[All2]at k2;subst k2;exact k1.ext shr
  .have hul:us.length=avs.length:=h2.len;rw[dif_neg (by simp;rw[hul];exact g1)];refine⟨us,rfl,h2.congrM λx hx v hr=>?_⟩;exact aDc (hr.ext shr) (List.all_eq_true.1 g2 x hx)
 have hend:=hleave fn (λe w'=>∃v u' ν' φ',e= .returned v/\Below B w w'/\Ext w (iN hl) (Bt kp) ν w' (iN hl') u' ν'/\HeapOk M w' (iN hl') u' ν' φ'/\RepA w' (iN hl') u' ν' r v)
  ⟨_,hrun,_,s'.used,ν',φ',rfl,hs'.below,hs'.ext.ext.shrink hsub,hh.shrink hsub (λ_ _ _ _ h=>h),hrep⟩
 cases e<;>simp only[NZ,gH]at he<;>exact hend
def LZ(rl:List Nat):AV->Bool
 | .sc _=>true
 | .nil _=>true
 | .own b _ _=>rl.contains b
 | .ptr b _ _=>rl.contains b
 |_=>false
def Rb(rl:List Nat):AV->Bool
 | .abs _ _=>true
 | .fn _ cs=>cs.all (LZ rl)
 |x=>LZ rl x
def Rc(rl:List Nat):AV->Bool
 | .agg cs=>cs.all (LZ rl)
 |x=>LZ rl x
def Rd(rl:List Nat):AV->Bool
 | .tuple cs=>cs.all (Rc rl)
 |x=>Rc rl x
def PO(rl:List Nat):List (Nat×Blk)->Prop
 | []=>True
 |(b,y)::r=>rl.contains b=true/\(∀cs∈y.es,∀c∈cs,Rb rl c=true)/\PO rl r
theorem Me{rl:List Nat}:∀{l:List (Nat×Blk)},PO rl l->∀{b:Nat}{y:Blk},(b,y)∈l->rl.contains b=true/\∀cs∈y.es,∀c∈cs,Rb rl c=true
 |(c,z)::r,⟨h1,h2,h3⟩,b,y,hm=>by
  rcases eW.1 hm with e|hm'
  .obtain⟨rfl,rfl⟩:=Prod.mk.inj e;exact⟨h1,h2⟩
  .exact Me h3 hm'
theorem EOk.tame{α:Type}{k:Nat}{e:α->List AV}(E:EOk k e)(rl:List Nat)(l:List α):∀cs∈l.map (ow e),∀c∈cs,Rb rl c=true:=by
 intro cs hcs c hc;obtain⟨x,_,rfl⟩:=List.mem_map.1 hcs;obtain⟨d,hd,rfl⟩:=List.mem_map.1 hc;have:=E.mem x d hd;cases d<;>simp only[lD,gH]at this<;>rfl
def Ar(σ:Nat->Option Nat)(touch:List Nat):List (Nat×Blk)->Bool
 | []=>true
 |(b,_)::r=>(match σ b with|some x=>touch.contains x|none=>true)&&Ar σ touch r
theorem Ep{σ:Nat->Option Nat}{n:Nat}{touch:List Nat}{h h':Hp}(hc:∀b∈touch,h' b=h b):∀{l:List (Nat×Blk)},Ar σ touch l=true->oX σ n h l->oX σ n h' l
 | [],_,_=>trivial
 |(b,y)::r,ht,⟨h1,h2,h3⟩=>by
  simp only[Ar,cF]at ht;refine⟨?_,h2,Ep hc ht.2 h3⟩;cases hσ:σ b with
  |none=>rw[hσ]at h1;exact h1
  |some x=>
   have h4:=ht.1;rw[hσ]at h1 h4;simp only at h1 h4 ⊢;obtain⟨z,e1,e2⟩:=h1;exact⟨z,by rw[hc x (by simpa using h4)];exact e1,e2⟩
def GS(σ σ':Nat->Option Nat)(kp:Nat)(news:List Nat):List (Nat×Blk)->Bool
 | []=>true
 |(b,_)::r=>(match σ' b with|some i=>news.contains b||(Nat.blt i kp&&(match σ i with|some x=>Nat.beq x b|none=>false))|none=>false)&&GS σ σ' kp news r
theorem JE{σ σ':Nat->Option Nat}{kp:Nat}{news:List Nat}:∀{l:List (Nat×Blk)},GS σ σ' kp news l=true->∀{b:Nat}{y:Blk},(b,y)∈l->∃i,σ' b=some i/\(b∈news∨(Nat.blt i kp=true/\σ i=some b))
 |(c,z)::r,h,b,y,hm=>by
  simp only[GS,cF]at h;rcases eW.1 hm with e|hm'
  .obtain⟨rfl,rfl⟩:=Prod.mk.inj e;have h1:=h.1;cases hσ:σ' b with
   |none=>rw[hσ]at h1;cases h1
   |some i=>
    rw[hσ]at h1;simp only[Bool.or_eq_true,cF]at h1;refine⟨i,rfl,?_⟩;rcases h1 with h1|⟨h1,h2⟩
    .exact .inl (by simpa using h1)
    .refine .inr ⟨h1,?_⟩;cases hσ2:σ i with
     |none=>rw[hσ2]at h2;cases h2
     |some x=>rw[hσ2]at h2;rw[Nat.eq_of_beq_eq_true h2]
  .exact JE h.2 hm'
def yA(rl:List Nat)(mR:List (Nat×Blk)):List (Nat×Option Blk):=rl.map λb=>(b,iN mR b)
theorem La{h:Hp}{mR:List (Nat×Blk)}{b:Nat}:∀{rl:List Nat},bB (yA rl mR) h b=if b∈rl then iN mR b else h b
 | []=>by simp[yA,bB]
 |c::rl=>by
  have ih:=La (h:=h) (mR:=mR) (b:=b) (rl:=rl);simp only[yA,List.map_cons,bB]at ih ⊢;by_cases e:b=c
  .subst e;simp
  .rw[bW e,aN,ih];simp[e]
section
variable {w:World}{h1 h2:Hp}{u1 u2:Us}{ν1 ν2:Nu}{rl:List Nat}(H:∀b∈rl,h2 b=h1 b)(N:∀b∈rl,ν2 b=ν1 b)(U:∀b∈rl,u2 b=true)
include H N U
theorem Mf{x:AV}{v:Value}(r:Rep1 w h1 u1 ν1 x v)(t:LZ rl x=true):Rep1 w h2 u2 ν2 x v:=by
 cases x<;>simp only[LZ,gH]at t<;>simp only[Rep1]at r ⊢
 .exact r
 .exact r
 .rename_i b i n;have hb:b∈rl:=by simpa using t
  refine⟨U b hb,λblk hbl=>?_⟩;rw[H b hb]at hbl;rw[N b hb];exact r.2 blk hbl
 .rename_i b i n;have hb:b∈rl:=by simpa using t
  refine⟨U b hb,λblk hbl=>?_⟩;rw[H b hb]at hbl;rw[N b hb];exact r.2 blk hbl
theorem KX:∀{xs:List AV}{vs:List Value},All2 (Rep1 w h1 u1 ν1) xs vs->xs.all (LZ rl)=true->All2 (Rep1 w h2 u2 ν2) xs vs
 | [],vs,r,_=>r
 |x::xs,vs,⟨v,q,e,h,k⟩,t=>by
  simp only[List.all_cons,cF]at t;exact⟨v,q,e,Mf H N U h t.1,KX k t.2⟩
theorem Re{x:AV}{v:Value}(r:RepB w h1 u1 ν1 x v)(t:Rc rl x=true):RepB w h2 u2 ν2 x v:=by
 cases x<;>simp only[RepB]at r ⊢ <;>first
  |exact Mf H N U r t
  |(obtain⟨vs,e,r⟩:=r;exact⟨vs,e,KX H N U r t⟩)
  |(simp only[Rc,LZ,gH]at t)
theorem Rf{x:AV}{v:Value}(r:RepA w h1 u1 ν1 x v)(t:Rd rl x=true):RepA w h2 u2 ν2 x v:=by
 by_cases ht:∃cs,x= .tuple cs
 .obtain⟨cs,rfl⟩:=ht;obtain⟨vs,e,r⟩:=r;refine⟨vs,e,r.congrM λy hy d hd=>Re H N U hd ?_⟩;exact List.all_eq_true.1 t y hy
 .have r':RepB w h1 u1 ν1 x v:=by cases x<;>first|exact r|exact absurd ⟨_,rfl⟩ ht
  have t':Rc rl x=true:=by cases x<;>first|exact t|exact absurd ⟨_,rfl⟩ ht
  have:=Re H N U r' t';cases x<;>first|exact this|exact absurd ⟨_,rfl⟩ ht
theorem YY{x:AV}{v:Value}{S:List Nat}(r:CellRep w h1 u1 ν1 x v S)(t:Rb rl x=true):CellRep w h2 u2 ν2 x v S:=by
 cases x<;>simp only[CellRep]at r ⊢ <;>first
  |exact⟨Mf H N U r.1 t,r.2⟩
  |(obtain⟨⟨vs,e,q⟩,q2⟩:=r;exact⟨⟨vs,e,KX H N U q t⟩,q2⟩)
  |exact r
theorem PP:∀{xs:List AV}{vs:List Value}{S:List Nat},CellsRep w h1 u1 ν1 xs vs S->(∀c∈xs,Rb rl c=true)->CellsRep w h2 u2 ν2 xs vs S
 | [],_,_,r,_=>r
 |x::xs,vs,S,⟨v,q,S1,S2,e1,e2,h,k⟩,t=>⟨v,q,S1,S2,e1,e2,YY H N U h (t x (by simp)),PP k (λc hc=>t c (by simp[hc]))⟩
theorem Nb{b:Nat}{blk:Blk}{S:List Nat}(hb:b∈rl)(r:BlkOk w h1 u1 ν1 b blk S)(t:∀cs∈blk.es,∀c∈cs,Rb rl c=true):BlkOk w h2 u2 ν2 b blk S:=by
 refine⟨r.1,?_⟩;rcases r.2 with ⟨q1,q2,q3⟩|⟨β,c,arr,ty,T,vs,q1,q2,q3,q4,q5,q6,q7,q8⟩
 .exact .inl ⟨(N b hb).trans q1,q2,q3⟩
 .refine .inr ⟨β,c,arr,ty,T,vs,(N b hb).trans q1,q2,q3,q4,q5,q6,q7,PP H N U q8 λc hc=>?_⟩;obtain⟨cs,hcs,hc⟩:=List.mem_flatten.1 hc;exact t cs hcs c hc
end
theorem JF{α β γ:Type}{R:α->γ->Prop}{Mt:α->β->Prop}{R':β->γ->Prop}(hc:∀x y v,R x v->Mt x y->R' y v):∀{xs:List α}{ys:List β}{vs:List γ},All2 R xs vs->All2 Mt xs ys->All2 R' ys vs
 | [],ys,vs,h,m=>by simp only[All2]at h m;subst h m;rfl
 |x::xs,ys,vs,⟨v,q,e,h,k⟩,⟨y,p,e2,m,m2⟩=>by
  subst e e2;exact⟨v,q,rfl,hc x y v h m,JF hc k m2⟩
theorem rD{w:World}{h:Hp}{u:Us}{ν:Nu}{b:Nat}{blk:Blk}{S:List Nat}(r:BlkOk w h u ν b blk S){β c:Nat}(hν:ν b=some (β,c)):β∈S:=by
 rcases r.2 with ⟨q1,_,_⟩|⟨β',c',arr,ty,T,vs,q1,q2,q3,q4,q5,q6,q7,q8⟩
 .rw[hν]at q1;cases q1
 .rw[hν]at q1;cases q1;rw[q6];simp
section
variable {P:Program}{dst:Option Tmp}{ty:TypeId}{pos:String}{aft:Array Edge}{g:Option (Nat×Bool)}{ins:Operand->Option AV}{hp:Hp}{κ:Kp}
theorem Rg{fo:Operand}{xs:Array Operand}{ats:Array TypeId}{f:FuncId}{caps avs av2 ds:List AV}{hl hl' mR:List (Nat×Blk)}{kp n':Nat}{r r2:AV}{σ σ':Nat->Option Nat}{touch news:List Nat}{ed:List (Nat×Option Blk)}
  (hc:HasE P f ds hl kp r hl') (hf:ins fo=some (.fn f caps)) (hx:Hz ins xs.toList=some avs) (href:∀(C:Ctx)(s:AState)(ν:Nu)(a:Act)(w:World)(vs:List Value),s.kp=κ->Sim C s ν a w->All2 (RepA w s.heap s.used ν) (avs++caps) vs->All2 (RepA w s.heap s.used ν) av2 vs) (hav:All2 (rB σ kp) av2 ds) (hh:oX σ kp hp hl) (hi:EE σ hl=true) (hit:Ar σ touch hl=true) (hlive:(touch.all λb=>(hp b).isSome)=true)
  (hh':oX σ' n' (iN hl') mR) (hi':EE σ' mR=true) (hr:rB σ' n' r r2) (hbk:GS σ σ' kp news mR=true) (htl:PO (touch++news) mR) (htr:Rd (touch++news) r2=true) (he:yA (touch++news) mR=ed):
  AEff P ⟨dst,.call ⟨.value fo,xs,ats⟩,ty,pos,aft,g⟩ ins hp κ ⟨r2,touch,ed,news⟩:=by
 refine⟨λC s ν a w Q K {hκ} hi0 ht hnw hd hs hK=>?_⟩;have hfn:=hs.ev ((hi0 fo (by simp[Op.operands,Call.operands])).trans hf);simp only[RepA,RepB]at hfn;obtain⟨cv,hfv,hcap⟩:=hfn;have hval:=Fe hs (xs:=xs.toList) (λy hy=>hi0 y (by simp[Op.operands,Call.operands];exact .inr (Array.mem_toList_iff.1 hy))) hx;obtain⟨φ,hφ⟩:=hs.heap;let h3:Hp:=λb=>if b∈touch then s.heap b else none
 have sub:∀b blk,h3 b=some blk->s.heap b=some blk/\b∈touch:=by
  intro b blk hb;by_cases e:b∈touch
  .simp only[h3,aP e]at hb;exact⟨hb,e⟩
  .simp only[h3,aQ e]at hb;cases hb
 let M2:Nat->Prop:=λx=>(∃b,b∈touch/\s.heap b≠none/\x∈φ b)∨w.heap.size<=x
 have hM2:∀x,M2 x->C.M x:=by
  rintro x (⟨b,_,hb,hx⟩|hx)
  .obtain⟨blk,hb⟩:=Option.ne_none_iff_exists'.1 hb;exact(hφ.blk b blk hb).2.2.2 x hx
  .exact hs.fresh x hx
 have hk3:HeapOk M2 w h3 s.used ν φ:=hφ.shrink (λb blk hb=>(sub b blk hb).1) (λb x hb hx _=>by
  obtain⟨blk,hb⟩:=Option.ne_none_iff_exists'.1 hb;obtain⟨e1,e2⟩:=sub b blk hb
  exact .inl ⟨b,e2,by rw[e1];simp,hx⟩)
 have hent:oX σ kp h3 hl:=Ep (h:=hp) (touch:=touch) (λb hb=>by simp only[h3,aP hb];exact ht b hb) hit hh;have cv1:=JD (w:=w) (u:=s.used) (ν:=ν) hent hi;have hk4:=cv1.heap hk3;have shr3:Ext w s.heap s.used ν w h3 s.used ν:=(Ext.refl _ _ _ _).shrink (λb blk hb=>(sub b blk hb).1)
 have hargs:All2 (RepA w (iN hl) (Bt kp) (nN σ ν)) ds (xs.toList.map a.eval++cv):=
  JF (R:=RepA w s.heap s.used ν) (Mt:=rB σ kp) (R':=RepA w (iN hl) (Bt kp) (nN σ ν)) (λx y v hx hm=>cv1.rep (RepA.ext shr3 hx) hm) (href C s ν a w _ hκ hs (hval.append (hcap.mono λx v h=>Rep1.repA h))) hav
 have hcall:=hc.calls C.B M2 w ((xs.map a.eval)++cv.toArray) (nN σ ν) _ (λx hx=>C.low x (hM2 x hx)) hs.base (λx hx=>.inr hx) (λx hx=>hs.okM x (hM2 x hx)) (by simpa using hargs) hk4;unfold Oper.wp
 have hex:(execOp a.eval ⟨dst,.call ⟨.value fo,xs,ats⟩,ty,pos,aft,g⟩).run P w= .ok (.enter f ((xs.map a.eval)++cv.toArray)) w:=by
  have:execOp a.eval ⟨dst,.call ⟨.value fo,xs,ats⟩,ty,pos,aft,g⟩=callFunc f ((xs.map a.eval)++cv.toArray):=by
   simp[execOp,resolve,hfv,Deferred.ofValue,invoke]
  rw[this];exact hc.enters _ _
 rw[hex];simp only[Oper.upon];refine hcall.mono λe w' ⟨v,u1,ν1,φ1,hev,hbel,hext,hh1,hrep⟩=>?_;subst hev;simp only;have cv2:=JD (w:=w') (u:=u1) (ν:=ν1) hh' hi';have hh2:=cv2.heap hh1;generalize hrl:touch++news=rl at*;let ν':Nu:=⟨λb=>if b∈rl then nN σ' ν1 b else ν b,ν.ok⟩;have hν1:∀b,b∈rl->ν' b=nN σ' ν1 b:=λb hb=>aP hb;have hν2:∀b,b ∉ rl->ν' b=ν b:=λb hb=>aQ hb;have hheq:∀b,bB ed s.heap b=if b∈rl then iN mR b else s.heap b:=λb=>by rw[←he];exact La
 have hhe1:∀b,b∈rl->bB ed s.heap b=iN mR b:=λb hb=>by rw[hheq,aP hb]
 have hhe2:∀b,b ∉ rl->bB ed s.heap b=s.heap b:=λb hb=>by rw[hheq,aQ hb]
 have hused:∀b,b∈rl->gC news s.used b=true:=by
  intro b hb;rw[←hrl]at hb;rw[jL];rcases eO.1 hb with h|h
  .have h5:=List.all_eq_true.1 hlive b h;rw[←ht b h]at h5;cases hq:s.heap b with
   |none=>rw[hq]at h5;cases h5
   |some blk=>rw[(hφ.blk b blk hq).1,Bool.or_true]
  .have:news.contains b=true:=by simpa using h
   rw[this,Bool.true_or]
 have hfree3:∀x,vY s.heap ν x->vY (iN hl) (nN σ ν) x:=λx hf=>cv1.free x λb blk β c hb hν=>hf b blk β c (sub b blk hb).1 hν
 have extc:Ext w s.heap s.used ν w' (bB ed s.heap) (gC news s.used) ν':=by
  refine⟨λb hb=>by rw[jL,hb,Bool.or_true],λb blk' hu hb=>?_,λx hx hfr=>?_,rfl⟩
  .by_cases e:b∈rl
   .rw[hhe1 b e]at hb;obtain⟨i,e1,e2⟩:=JE hbk (qN hb);obtain⟨x,f1,f2,f3⟩:=(cv2.look b blk' hb).1 i e1;rcases e2 with e2|⟨e2,e3⟩
    .rw[hnw b e2]at hu;cases hu
    .obtain⟨blk0,g1,g2,g3,g4⟩:=hext.old i x e2 f1;obtain⟨z,k1,k2,k3⟩:=(cv1.look i blk0 g1).1 b e3;refine⟨z,(sub b z k1).1,k2.trans (g2.trans f2),k3.trans (g3.trans f3),?_⟩;rw[hν1 b e];simp only[nN,e1];rw[g4];simp only[nN,e3]
   .rw[hhe2 b e]at hb;exact⟨blk',hb,rfl,rfl,hν2 b e⟩
  .obtain⟨p1,p2⟩:=hext.free x hx (hfree3 x hfr);refine⟨p1,λb blk β c hb hν=>?_⟩;by_cases e:b∈rl
   .rw[hhe1 b e]at hb;rw[hν1 b e]at hν;exact cv2.free x p2 b blk β c hb hν
   .rw[hhe2 b e]at hb;rw[hν2 b e]at hν;exact hfr b blk β c hb hν
 have hout:∀b blk x,s.heap b=some blk->b ∉ rl->x∈φ b->w'.heap[x]? =w.heap[x]? :=by
  intro b blk x hb hbr hx;refine(hext.free x ((hφ.blk b blk hb).2.1.lt x hx) (cv1.free x λb2 blk2 β c hb2 hν2=>?_)).1;rintro rfl;obtain⟨e1,e2⟩:=sub b2 blk2 hb2;have hne:b2≠b:=by rintro rfl;exact hbr (by rw[←hrl];exact List.mem_append_left _ e2)
  exact hφ.apart b2 b β (by rw[e1];simp) (by rw[hb];simp) hne (rD (hφ.blk b2 blk2 e1).2.1 hν2) hx
 have hcross:∀b c x,iN mR b≠none->s.heap c≠none->c ∉ rl->x∈(match σ' b with|some b0=>φ1 b0|none=>[])->x ∉ φ c:=by
  intro b c x hb hc' hcr hx hx2;obtain⟨y1,hy1⟩:=Option.ne_none_iff_exists'.1 hb;obtain⟨y2,hy2⟩:=Option.ne_none_iff_exists'.1 hc';rcases (hh2.blk b y1 hy1).2.2.2 x hx with ⟨b2,e1,e2,e3⟩|e1
  .have hne:b2≠c:=by rintro rfl;exact hcr (by rw[←hrl];exact List.mem_append_left _ e1)
   exact hφ.apart b2 c x e2 hc' hne e3 hx2
  .have:=(hφ.blk c y2 hy2).2.1.lt x hx2;omega
 refine hK ν' _ _ (hs.step hd (s':=s.app dst ⟨r2,touch,ed,news⟩) extc hbel ⟨λb=>if b∈rl then(match σ' b with|some b0=>φ1 b0|none=>[])else φ b,?_,?_⟩ rfl ?_)
 .intro b blk' hb;replace hb:bB ed s.heap b=some blk':=hb;by_cases e:b∈rl
  .rw[hhe1 b e]at hb;simp only[aP e];obtain⟨_,g2,g3,g4⟩:=hh2.blk b blk' hb;exact⟨hused b e,Nb (h1:=iN mR) (u1:=Bt n') (ν1:=nN σ' ν1) hhe1 hν1 hused e g2 (Me htl (qN hb)).2,g3,λx hx=>hM2 x (g4 x hx)⟩
  .rw[hhe2 b e]at hb;simp only[aQ e];obtain⟨g1,g2,g3,g4⟩:=hφ.blk b blk' hb;exact⟨extc.used b g1,g2.ext extc (hν2 b e) (λx hx=>hout b blk' x hb e hx),g3,g4⟩
 .intro b c x hb hc' hne hxb hxc;replace hb:bB ed s.heap b≠none:=hb;replace hc':bB ed s.heap c≠none:=hc';by_cases e1:b∈rl<;>by_cases e2:c∈rl
  .simp only[aP e1]at hxb;simp only[aP e2]at hxc;rw[hhe1 b e1]at hb;rw[hhe1 c e2]at hc';exact hh2.apart b c x hb hc' hne hxb hxc
  .simp only[aP e1]at hxb;simp only[aQ e2]at hxc;rw[hhe1 b e1]at hb;rw[hhe2 c e2]at hc';exact hcross b c x hb hc' e2 hxb hxc
  .simp only[aQ e1]at hxb;simp only[aP e2]at hxc;rw[hhe2 b e1]at hb;rw[hhe1 c e2]at hc';exact hcross c b x hc' hb e1 hxc hxb
  .simp only[aQ e1]at hxb;simp only[aQ e2]at hxc;rw[hhe2 b e1]at hb;rw[hhe2 c e2]at hc';exact hφ.apart b c x hb hc' hne hxb hxc
 .exact Rf (h1:=iN mR) (u1:=Bt n') (ν1:=nN σ' ν1) hhe1 hν1 hused (cv2.rep hrep hr) htr
theorem nU{fo:Operand}{xs:Array Operand}{ats:Array TypeId}{f:FuncId}{caps avs ds:List AV}{hl hl' mR:List (Nat×Blk)}{kp n':Nat}{r r2:AV}{σ σ':Nat->Option Nat}{touch news:List Nat}{ed:List (Nat×Option Blk)}
  (hc:HasE P f ds hl kp r hl') (hf:ins fo=some (.fn f caps)) (hx:Hz ins xs.toList=some avs) (hav:All2 (rB σ kp) (avs++caps) ds) (hh:oX σ kp hp hl) (hi:EE σ hl=true) (hit:Ar σ touch hl=true) (hlive:(touch.all λb=>(hp b).isSome)=true)
  (hh':oX σ' n' (iN hl') mR) (hi':EE σ' mR=true) (hr:rB σ' n' r r2) (hbk:GS σ σ' kp news mR=true) (htl:PO (touch++news) mR) (htr:Rd (touch++news) r2=true) (he:yA (touch++news) mR=ed):
  AEff P ⟨dst,.call ⟨.value fo,xs,ats⟩,ty,pos,aft,g⟩ ins hp κ ⟨r2,touch,ed,news⟩:=
 Rg hc hf hx (λ_ _ _ _ _ _ _ _ h=>h) hav hh hi hit hlive hh' hi' hr hbk htl htr he
end
structure SOps(P:Program)(ops:Array Oper)(nt:Nat)(l:List Oper)(s:AState)(K:AState->Prop):Prop where
 out:∀(C:Ctx),C.nt=nt->∀(ν:Nu)(a:Act)(w:World),Sim C s ν a w->∀(n:Nat)(Q:Exit->Act->World->Prop),(∀s' ν' a' w',K s'->Sim C s' ν' a' w'->Q .normal a' w')->wpListIn (fw C.rd) n P ops Q l a w
section
variable {P:Program}{ops:Array Oper}{nt:Nat}{l:List Oper}{s:AState}{K:AState->Prop}
theorem aAJ(h:K s):SOps P ops nt [] s K:=⟨λC hC ν a w hs n Q hQ=>hQ s ν a w h hs⟩
theorem yP{t:AState}(e:Ent s t)(h:SOps P ops nt l t K):SOps P ops nt l s K:=⟨λC hC ν a w hs n Q hQ=>by
 obtain⟨ν',hs'⟩:=e C ν a w hs
 exact h.out C hC ν' a w hs' n Q hQ⟩
theorem UU{d:Option Tmp}{op:Op}{ty:TypeId}{pos:String}{aft:Array Edge}{g:Option (Nat×Bool)}{e:Eff}(he:AEff P ⟨d,op,ty,pos,aft,g⟩ s.ev s.heap s.kp e)(hd:Nt ⟨d,op,ty,pos,aft,g⟩ nt=true)(hg:pI ops s.env ⟨d,op,ty,pos,aft,g⟩=some true)(hn:(e.news.all λb=> !s.used b)=true)
  (h:SOps P ops nt l (s.app d e) K):SOps P ops nt (⟨d,op,ty,pos,aft,g⟩::l) s K:=⟨λC hC ν a w hs n Q hQ=>by
 subst hC;refine wpListIn_step λK' hK'=>?_;have hst:Tt P ops C.nt ⟨d,op,ty,pos,aft,g⟩ s e:=⟨Si hd,.inl ⟨hg,he,λb hb=>by have:=List.all_eq_true.1 hn b hb;simpa using this⟩⟩
 exact KO hst hs λν' a' w' hs'=>hK' _ _ (h.out C rfl ν' a' w' hs' n Q hQ)⟩
theorem WR{Q:Exit->AState->Prop}{id:Nat}(h:SOps P l.toArray nt l s (Q .normal)):AC P nt (.region id l.toArray false) s Q:=by
 refine⟨λC hC ν a w hs n=>?_⟩;exact wpIn_region_lit (h.out C hC ν a w hs n _ λs' ν' a' w' hq hs'=>⟨s',ν',hq,hs'⟩)
end
def df1:AV->Bool
 | .sc _=>true
 | .nil _=>true
 | .dead=>true
 | .own _ _ _=>true
 | .ptr _ _ _=>true
 |_=>false
def dfC:AV->Bool
 | .abs _ _=>true
 | .fn _ cs=>cs.all df1
 |x=>df1 x
def dfB:AV->Bool
 | .agg cs=>cs.all df1
 |x=>df1 x
def dfA:AV->Bool
 | .tuple cs=>cs.all dfB
 |x=>dfB x
section
variable {w w':World}{h h':Hp}{u u':Us}{ν ν':Nu}(U:∀b,u b=true->u' b=true)(O:∀b blk',u b=true->h' b=some blk'->∃blk,h b=some blk/\blk.k=blk'.k/\blk.es.length=blk'.es.length/\ν' b=ν b)
include U O
theorem Sv:∀{x:AV}{v:Value},Rep1 w h u ν x v->df1 x=true->Rep1 w' h' u' ν' x v:=by
 intro x v r t;cases x<;>simp only[df1,gH]at t<;>simp only[Rep1]at r ⊢
 .exact r
 .exact r
 .refine⟨U _ r.1,λblk hb=>?_⟩;obtain⟨blk0,e1,e2,e3,e4⟩:=O _ blk r.1 hb;have:=r.2 blk0 e1;rw[e4,←e3,←e2];exact this
 .refine⟨U _ r.1,λblk hb=>?_⟩;obtain⟨blk0,e1,e2,e3,e4⟩:=O _ blk r.1 hb;have:=r.2 blk0 e1;rw[e4,←e2];exact this
end
section
variable {w w':World}{h h':Hp}{u u':Us}{ν ν':Nu}(U:∀b,u b=true->u' b=true)(O:∀b blk',u b=true->h' b=some blk'->∃blk,h b=some blk/\blk.k=blk'.k/\blk.es.length=blk'.es.length/\ν' b=ν b)
include U O
theorem PQ:∀{xs:List AV}{vs:List Value},All2 (Rep1 w h u ν) xs vs->xs.all df1=true->All2 (Rep1 w' h' u' ν') xs vs
 | [],vs,r,_=>r
 |x::xs,vs,⟨v,q,e,r,k⟩,t=>by
  simp only[List.all_cons,cF]at t;exact⟨v,q,e,Sv U O r t.1,PQ k t.2⟩
theorem Xe{x:AV}{v:Value}(r:RepB w h u ν x v)(t:dfB x=true):RepB w' h' u' ν' x v:=by
 cases x<;>simp only[RepB]at r ⊢ <;>first
  |exact Sv U O r t
  |(obtain⟨vs,e,r⟩:=r;exact⟨vs,e,PQ U O r t⟩)
  |(simp only[dfB,df1,gH]at t)
theorem aCG{x:AV}{v:Value}(r:RepA w h u ν x v)(t:dfA x=true):RepA w' h' u' ν' x v:=by
 by_cases ht:∃cs,x= .tuple cs
 .obtain⟨cs,rfl⟩:=ht;obtain⟨vs,e,r⟩:=r;refine⟨vs,e,r.congrM λy hy d hd=>Xe U O hd ?_⟩;exact List.all_eq_true.1 t y hy
 .have r':RepB w h u ν x v:=by cases x<;>first|exact r|exact absurd ⟨_,rfl⟩ ht
  have t':dfB x=true:=by cases x<;>first|exact t|exact absurd ⟨_,rfl⟩ ht
  have:=Xe (w':=w') U O r' t';cases x<;>first|exact this|exact absurd ⟨_,rfl⟩ ht
theorem aCH{x:AV}{v:Value}{S:List Nat}(hk:∀b∈S,w'.heap[b]? =w.heap[b]?)(r:CellRep w h u ν x v S)(t:dfC x=true):CellRep w' h' u' ν' x v S:=by
 cases x<;>simp only[CellRep]at r ⊢ <;>first
  |exact⟨Sv U O r.1 t,r.2⟩
  |(obtain⟨⟨vs,e,q⟩,q2⟩:=r;exact⟨⟨vs,e,PQ U O q t⟩,q2⟩)
  |exact r.keep hk
  |exact r
theorem Lb:∀{xs:List AV}{vs:List Value}{S:List Nat},(∀b∈S,w'.heap[b]? =w.heap[b]?)->CellsRep w h u ν xs vs S->(∀c∈xs,dfC c=true)->CellsRep w' h' u' ν' xs vs S
 | [],_,_,_,r,_=>r
 |x::xs,vs,S,hk,⟨v,q,S1,S2,e1,e2,r,k⟩,t=>by
  subst e2;exact⟨v,q,S1,S2,e1,rfl,aCH U O (λb hb=>hk b (by simp[hb])) r (t x (by simp)),Lb (λb hb=>hk b (by simp[hb])) k (λc hc=>t c (by simp[hc]))⟩
theorem YZ{b:Nat}{blk:Blk}{S:List Nat}(hν:ν' b=ν b)(hk:∀x∈S,w'.heap[x]? =w.heap[x]?)(r:BlkOk w h u ν b blk S)(t:∀cs∈blk.es,∀c∈cs,dfC c=true):BlkOk w' h' u' ν' b blk S:=by
 refine⟨r.1,?_⟩;rcases r.2 with ⟨q1,q2,q3⟩|⟨β,c,arr,ty,T,vs,q1,q2,q3,q4,q5,q6,q7,q8⟩
 .exact .inl ⟨hν.trans q1,q2,q3⟩
 .subst q6;refine .inr ⟨β,c,arr,ty,T,vs,hν.trans q1,(hk β (by simp)).trans q2,q3,q4,q5,rfl,q7,Lb U O (λx hx=>hk x (by simp[hx])) q8 λc hc=>?_⟩;obtain⟨cs,hcs,hc⟩:=List.mem_flatten.1 hc;exact t cs hcs c hc
end
theorem UV{w:World}{h:Hp}{u:Us}{ν:Nu}:∀{cs:List AV}{vs:List Value}{S:List Nat},RepOV w cs vs S->CellsRep w h u ν (cs.map yN) vs S
 | [],vs,S,r=>by simp only[RepOV]at r;exact r
 |c::cs,vs,S,r=>by
  simp only[RepOV]at r;obtain⟨v,q,S1,S2,e1,e2,_,h3,h4⟩:=r;refine⟨v,q,S1,S2,e1,e2,?_,UV h4⟩;cases c with
  |sc x=>simp only[RepO]at h3;exact⟨⟨h3.1,h3.2.1⟩,h3.2.2⟩
  |list k es=>exact h3
  |_=>simp only[RepO]at h3
theorem WS{k:Nat}{es:List (List AV)}(h:∀cs∈es,cs.length=k):∀cs∈dQ es,cs.length=k:=by
 intro cs hcs;unfold dQ at hcs;obtain⟨d,hd,rfl⟩:=List.mem_map.1 hcs;rw[dM];exact h d hd
theorem PR(es:List (List AV)):(dQ es).flatten=es.flatten.map yN:=by
 unfold dQ;rw[List.map_flatten]
theorem aAK{s:AState}{b c i j k':Nat}{blk:Blk}{cs:List AV}{es':List (List AV)}(hT:s.kp.T=true)(hb:s.heap b=some blk)(hi:blk.es[i]? =some cs)(hj:cs[j]? =some (.abs k' es'))(hc:s.used c=false)(hdf:∀t x,s.env t=some x->dfA x=true)(hdc:∀b blk,s.heap b=some blk->∀cs∈blk.es,∀c∈cs,dfC c=true):
  Ent s ⟨s.env,bB [(c,some ⟨k',dQ es'⟩),(b,some ⟨blk.k,blk.es.set i (cs.take j++[.own c 0 es'.length]++cs.drop (j+1))⟩)] s.heap,gC [c] s.used,s.ns,s.kp⟩:=by
 intro C ν a w hs;obtain⟨φ,hh⟩:=hs.heap;obtain⟨hub,⟨hk1,hx1⟩,hnd1,hB1⟩:=hh.blk b blk hb;have hne:b≠c:=by rintro rfl;rw[hub]at hc;cases hc
 have hcn:s.heap c=none:=hs.unused hc;have hcs:=hk1 cs (List.mem_of_getElem? hi)
 have hjl:j<cs.length:=by
  rcases dS j cs.length with h'|h'
  .exact h'
  .rw[jK h']at hj;cases hj
 rcases hx1 with ⟨q1,q2,_⟩|⟨β,cap,arr,ty,T,vs,q1,q2,q3,q4,q5,q6,q7,q8⟩
 .rw[q2]at hi;simp at hi
 have hdrop:blk.es.flatten.drop (i*blk.k+j)= .abs k' es'::blk.es.flatten.drop (i*blk.k+j+1):=by
  obtain⟨r,hr⟩:=CF hk1 hi;have h1:blk.es.flatten.drop (i*blk.k+j)=(cs++r).drop j:=by rw[←hr,List.drop_drop]
  have h2:blk.es.flatten.drop (i*blk.k+j+1)=(cs++r).drop (j+1):=by rw[←hr,List.drop_drop,Nat.add_assoc]
  rw[h1,h2,List.drop_append_of_le_length (by omega),List.drop_append_of_le_length (by omega),List.drop_eq_getElem_cons hjl];have:cs[j]= .abs k' es':=by simpa [hjl]using hj
  rw[this];rfl
 have hfl:blk.es.flatten=blk.es.flatten.take (i*blk.k+j)++([.abs k' es']++blk.es.flatten.drop (i*blk.k+j+1)):=by
  rw[List.singleton_append,←hdrop,List.take_append_drop]
 rw[hfl]at q8;obtain⟨v1,v2,S1,S2,e1,e2,e3,e4,e5⟩:=q8.append_inv;obtain⟨v3,v4,S3,S4,f1,f2,f3,f4,f5⟩:=e5.append_inv;subst f1 f2;obtain⟨v,r0,S5,S6,rfl,rfl,g1,⟨rfl,rfl⟩⟩:=f4;simp only[CellRep]at g1;rw[List.append_nil]at e2;have hφ:φ b=β::(S1++(S5++S4)):=by rw[q6,e2]
 obtain⟨νc,hνc⟩:∃νc:Option (Nat×Nat),(∀(h:Hp)(u:Us)(ν':Nu),ν' c=νc->BlkOk w h u ν' c ⟨k',dQ es'⟩ S5)/\(νc=none->v= .slice none 0 0)/\(∀β' cap',νc=some (β',cap')->ownV β' 0 k' es'.length cap' v/\β'∈S5):=by
  simp only[RepO]at g1;rcases g1 with ⟨rfl,rfl,rfl⟩|⟨β',cap',arr',ty',T',vs',p1,p2,p3,p4,p5,p6,rfl,p8,p9⟩
  .exact⟨none,λh u ν' hν=>⟨by simp[dQ],.inl ⟨hν,rfl,rfl⟩⟩,λ_=>rfl,λ_ _ e=>by cases e⟩
  .have hl:(dQ es').length=es'.length:=by simp[dQ]
   refine⟨some (β',cap'),λh u ν' hν=>⟨WS p6,.inr ⟨β',cap',arr',ty',T',vs',hν,p2,p3,by show(dQ es').length <=cap';omega,p5,rfl,by show arr'.toList.take ((dQ es').length *k')=vs';rw[hl];exact p8,?_⟩⟩,λe=>by(cases e),λx y e=>?_⟩
   .show CellsRep w h u ν' (dQ es').flatten vs' T';rw[PR];exact UV (Gk.1 p9)
   .cases e;rw[p1];exact⟨MU,by simp⟩
 obtain⟨hB,hn0,hn1⟩:=hνc;let ν':Nu:=⟨λx=>if x=c then νc else ν x,ν.ok⟩;have hν1:ν' c=νc:=aP rfl;have hν2:∀x,x≠c->ν' x=ν x:=λx hx=>aQ hx;have MT:bB [(c,some ⟨k',dQ es'⟩),(b,some ⟨blk.k,blk.es.set i (cs.take j++[.own c 0 es'.length]++cs.drop (j+1))⟩)] s.heap c=some ⟨k',dQ es'⟩:=by simp[bB]
 have mR:bB [(c,some ⟨k',dQ es'⟩),(b,some ⟨blk.k,blk.es.set i (cs.take j++[.own c 0 es'.length]++cs.drop (j+1))⟩)] s.heap b=some ⟨blk.k,blk.es.set i (cs.take j++[.own c 0 es'.length]++cs.drop (j+1))⟩:=by simp[bB,bW hne]
 have hl3:∀x,x≠c->x≠b->bB [(c,some ⟨k',dQ es'⟩),(b,some ⟨blk.k,blk.es.set i (cs.take j++[.own c 0 es'.length]++cs.drop (j+1))⟩)] s.heap x=s.heap x:=λx h1 h2=>by simp[bB,bW h1,bW h2]
 generalize hH:bB [(c,some ⟨k',dQ es'⟩),(b,some ⟨blk.k,blk.es.set i (cs.take j++[.own c 0 es'.length]++cs.drop (j+1))⟩)] s.heap=H at*;have U:∀x,s.used x=true->gC [c] s.used x=true:=λx hx=>by rw[jL,hx,Bool.or_true]
 have O:∀x blk',s.used x=true->H x=some blk'->∃y,s.heap x=some y/\y.k=blk'.k/\y.es.length=blk'.es.length/\ν' x=ν x:=by
  intro x blk' hu hx;have hxc:x≠c:=by rintro rfl;rw[hu]at hc;cases hc
  by_cases e:x=b
  .subst e;rw[mR]at hx;cases hx;exact⟨blk,hb,rfl,by simp,hν2 _ hxc⟩
  .rw[hl3 x hxc e]at hx;exact⟨blk',hx,rfl,rfl,hν2 _ hxc⟩
 have hfl2:∀d∈blk.es.flatten,dfC d=true:=by
  intro d hd;obtain⟨ds,h1,h2⟩:=List.mem_flatten.1 hd;exact hdc b blk hb ds h1 d h2
 refine⟨ν',hs.below,hs.base,hs.fresh,hs.defers,hs.size,λt x hx=>by obtain⟨v,h1,h2⟩:=hs.env t x hx;exact⟨v,h1,aCG U O h2 (hdf t x hx)⟩,⟨λx=>if x=c then S5 else if x=b then β::(S1++S4)else φ x,?_,?_⟩,hs.kp,?_,hs.szE,hs.okM,hs.okF⟩
 .intro x blk2 hx;replace hx:H x=some blk2:=hx;have hnd:=hnd1;rw[hφ]at hnd;have n1:=List.nodup_cons.1 hnd;have n2:=List.nodup_append.1 n1.2;have n3:=List.nodup_append.1 n2.2.1;by_cases e:x=c
  .subst e;rw[MT]at hx;cases hx;simp only[if_true];refine⟨by rw[jL];simp,hB _ _ _ hν1,n3.1,λy hy=>hB1 y (by rw[hφ];simp[hy])⟩
  .by_cases e0:x=b
   .subst e0;rw[mR]at hx;cases hx;simp only[aQ e,if_true];refine⟨U _ hub,⟨?_,.inr ⟨β,cap,arr,ty,S1++S4,vs,(hν2 _ e).trans q1,q2,q3,by simpa using q4,q5,rfl,by simpa using q7,?_⟩⟩,?_,?_⟩
    .intro d hd;rcases List.mem_or_eq_of_mem_set hd with h|h
     .exact hk1 d h
     .rw[h];simp;omega
    .rw[Cl (n:=1) hk1 hi rfl (by omega),e1]
     have m1:CellsRep w H (gC [c] s.used) ν' [.own c 0 es'.length] [v] []:=by
      refine⟨v,[],[],[],rfl,rfl,⟨⟨by rw[jL];simp,λblk3 h3=>?_⟩,rfl⟩,rfl,rfl⟩;rw[MT]at h3;cases h3;refine⟨by simp[dQ],λh4=>hn0 (hν1.symm.trans h4),λβ' c' h4=>(hn1 β' c' (hν1.symm.trans h4)).1⟩
     have m2:=(Lb (w':=w) (h':=H) (u':=gC [c] s.used) (ν':=ν') U O (λ_ _=>rfl) e4 (λd hd=>hfl2 d (List.mem_of_mem_take hd))).append (m1.append (Lb (w':=w) (h':=H) (u':=gC [c] s.used) (ν':=ν') U O (λ_ _=>rfl) f5 (λd hd=>hfl2 d (List.mem_of_mem_drop hd))));rw[List.append_assoc (List.take (i*blk.k+j) blk.es.flatten)];simpa using m2
    .refine List.nodup_cons.2 ⟨λhm=>n1.1 ?_,List.nodup_append.2 ⟨n2.1,n3.2.1,λy hy z hz=>n2.2.2 y hy z (by simp[hz])⟩⟩;rcases eO.1 hm with h|h<;>simp[h]
    .intro y hy;refine hB1 y ?_;rw[hφ];rcases eW.1 hy with rfl|h
     .simp
     .rcases eO.1 h with h|h<;>simp[h]
   .rw[hl3 x e e0]at hx;simp only[aQ e,aQ e0];obtain⟨p1,p2,p3,p4⟩:=hh.blk x blk2 hx;exact⟨U _ p1,YZ U O (hν2 _ e) (λ_ _=>rfl) p2 (hdc x blk2 hx),p3,p4⟩
 .have hnd:=hnd1;rw[hφ]at hnd;have n1:=List.nodup_cons.1 hnd;have n2:=List.nodup_append.1 n1.2;have n3:=List.nodup_append.1 n2.2.1;have hbn:s.heap b≠none:=by rw[hb];simp
  have hS5:∀y,y∈S5->y∈φ b:=λy hy=>by rw[hφ];simp[hy]
  have hSb:∀y,y∈β::(S1++S4)->y∈φ b:=λy hy=>by
   rw[hφ];rcases eW.1 hy with rfl|h
   .simp
   .rcases eO.1 h with h|h<;>simp[h]
  have hcb:∀y,y∈S5->y ∉ β::(S1++S4):=by
   intro y h5 hy;rcases eW.1 hy with rfl|h
   .exact n1.1 (by simp[h5])
   .rcases eO.1 h with h|h
    .exact n2.2.2 y h y (by simp[h5]) rfl
    .exact n3.2.2 y h5 y h rfl
  intro x1 x2 y hx1 hx2 hne2 hy1 hy2;replace hx1:H x1≠none:=hx1;replace hx2:H x2≠none:=hx2;replace hy1:y∈(if x1=c then S5 else if x1=b then β::(S1++S4)else φ x1):=hy1;replace hy2:y∈(if x2=c then S5 else if x2=b then β::(S1++S4)else φ x2):=hy2;by_cases a1:x1=c<;>by_cases a2:x2=c
  .exact hne2 (a1.trans a2.symm)
  .rw[aP a1]at hy1;rw[aQ a2]at hy2;by_cases b2:x2=b
   .rw[aP b2]at hy2;exact hcb y hy1 hy2
   .rw[aQ b2]at hy2;rw[hl3 x2 a2 b2]at hx2;exact hh.apart b x2 y hbn hx2 (Ne.symm b2) (hS5 y hy1) hy2
  .rw[aQ a1]at hy1;rw[aP a2]at hy2;by_cases b1:x1=b
   .rw[aP b1]at hy1;exact hcb y hy2 hy1
   .rw[aQ b1]at hy1;rw[hl3 x1 a1 b1]at hx1;exact hh.apart b x1 y hbn hx1 (Ne.symm b1) (hS5 y hy2) hy1
  .rw[aQ a1]at hy1;rw[aQ a2]at hy2;by_cases b1:x1=b<;>by_cases b2:x2=b
   .exact hne2 (b1.trans b2.symm)
   .rw[aP b1]at hy1;rw[aQ b2]at hy2;rw[hl3 x2 a2 b2]at hx2;exact hh.apart b x2 y hbn hx2 (Ne.symm b2) (hSb y hy1) hy2
   .rw[aQ b1]at hy1;rw[aP b2]at hy2;rw[hl3 x1 a1 b1]at hx1;exact hh.apart b x1 y hbn hx1 (Ne.symm b1) (hSb y hy2) hy1
   .rw[aQ b1]at hy1;rw[aQ b2]at hy2;rw[hl3 x1 a1 b1]at hx1;rw[hl3 x2 a2 b2]at hx2;exact hh.apart x1 x2 y hx1 hx2 hne2 hy1 hy2
 .refine⟨λx hx=>U x (hs.ext.used x hx),λx blk' hx hl'=>?_,λx hx hF=>?_,hs.ext.okE⟩
  .obtain⟨y,g1,g2,g3,g4⟩:=O x blk' (hs.ext.used x hx) hl';obtain⟨z,k1,k2,k3,k4⟩:=hs.ext.old x y hx g1;exact⟨z,k1,k2.trans g2,k3.trans g3,g4.trans k4⟩
  .obtain⟨g1,g2⟩:=hs.ext.free x hx hF;refine⟨g1,λb2 blk2 β2 c2 hb2 h2 e=>?_⟩;replace hb2:H b2=some blk2:=hb2;by_cases a1:b2=c
   .subst a1;rw[hν1]at h2;subst e;exact C.tm (by rw[←hs.kp];exact hT) β2 hx (hB1 β2 (by rw[hφ];simp[(hn1 _ _ h2).2])) hF
   .rw[hν2 _ a1]at h2;by_cases a2:b2=b
    .subst a2;exact g2 b2 blk β2 c2 hb h2 e
    .rw[hl3 b2 a1 a2]at hb2;exact g2 b2 blk2 β2 c2 hb2 h2 e
def Raw1(κ:Kp)(x d:AV):Prop:=∃W G v S,κ.fx=some (W,G)/\x= .sc v/\RepD W d v S/\∀b∈S,G b
def RawK(κ:Kp):AV->AV->Prop
 | .agg xs,.agg ds=>All2 (Raw1 κ) xs ds
 |x,d=>Raw1 κ x d
theorem Sim.stays{C:Ctx}{s:AState}{ν:Nu}{a:Act}{w:World}(hs:Sim C s ν a w){κ:Kp}(hκ:s.kp=κ){W:World}{G:Nat->Prop}(h:κ.fx=some (W,G)){b:Nat}(hb:G b):w.heap[b]? =W.heap[b]? /\lK s.heap ν b:=by
 obtain⟨e1,e2⟩:=C.fxp (W,G) (by rw[←hs.kp,hκ];exact h);obtain⟨e3,e4⟩:=e2 b hb;obtain⟨e5,e6⟩:=hs.ext.free b e3 e4;rw[e1]at e5;exact⟨e5,e6,hs.okF (W,G) (by rw[←hs.kp,hκ];exact h) b hb⟩
theorem Raw1.rep{C:Ctx}{s:AState}{ν ν':Nu}{a:Act}{w:World}{h:Hp}{u:Us}(hs:Sim C s ν a w){κ:Kp}(hκ:s.kp=κ){x d:AV}{v:Value}(r:Rep1 w h u ν' x v)(m:Raw1 κ x d):∃S',RepD w d v S':=by
 obtain⟨W,G,y,S,h1,rfl,h2,h3⟩:=m;rw[r.1];exact⟨S,h2.keep λb hm=>(hs.stays hκ h1 (h3 b hm)).1⟩
theorem RawK.rep{C:Ctx}{s:AState}{ν:Nu}{a:Act}{w:World}(hs:Sim C s ν a w){κ:Kp}(hκ:s.kp=κ){x d:AV}{v:Value}(r:RepA w s.heap s.used ν x v)(m:RawK κ x d):∃S',RepD w d v S':=by
 by_cases ho:∃xs ds,x= .agg xs/\d= .agg ds
 .obtain⟨xs,ds,rfl,rfl⟩:=ho;obtain⟨vs,rfl,r⟩:=r;obtain⟨S,h⟩:=CG (V:=Raw1 κ) (λx d v hr hm=>hm.rep hs hκ hr) r m;exact⟨S,by simp only[RepD];exact⟨vs,rfl,h⟩⟩
 .have m':Raw1 κ x d:=by
   cases x<;>first|exact m|(cases d<;>first|exact m|exact absurd ⟨_,_,rfl,rfl⟩ ho)
  obtain⟨W,G,y,S,h1,rfl,h2,h3⟩:=m';exact Raw1.rep (h:=s.heap) (u:=s.used) (ν':=ν) (x:=.sc y) hs hκ (show Rep1 w s.heap s.used ν (.sc y) v from r) ⟨W,G,y,S,h1,rfl,h2,h3⟩
def rd1:AV->Bool
 | .sc _=>true
 | .list _ _=>true
 | .ref _=>true
 |_=>false
def rdA:AV->Bool
 | .agg ds=>ds.all rd1
 |d=>rd1 d
theorem Raw1.rep1{C:Ctx}{s:AState}{ν:Nu}{a:Act}{w:World}(hs:Sim C s ν a w){κ:Kp}(hκ:s.kp=κ){x d:AV}{v:Value}(r:Rep1 w s.heap s.used ν x v)(m:Raw1 κ x d)(ok:rd1 d=true):Rep1 w s.heap s.used ν d v:=by
 obtain⟨W,G,y,S,h1,rfl,h2,h3⟩:=m;rw[r.1];have h4:=h2.keep λb hm=>(hs.stays hκ h1 (h3 b hm)).1;cases d<;>simp only[rd1,gH]at ok
 .simp only[RepD]at h4;exact⟨h4.1,h4.2.1⟩
 .exact⟨S,h4,λx hx=>(hs.stays hκ h1 (h3 x hx)).2⟩
 .exact⟨S,h4,λx hx=>(hs.stays hκ h1 (h3 x hx)).2⟩
theorem RawK.repA{C:Ctx}{s:AState}{ν:Nu}{a:Act}{w:World}(hs:Sim C s ν a w){κ:Kp}(hκ:s.kp=κ){x d:AV}{v:Value}(r:RepA w s.heap s.used ν x v)(m:RawK κ x d)(ok:rdA d=true):RepA w s.heap s.used ν d v:=by
 by_cases ho:∃xs ds,x= .agg xs/\d= .agg ds
 .obtain⟨xs,ds,rfl,rfl⟩:=ho;obtain⟨vs,rfl,r⟩:=r;refine⟨vs,rfl,?_⟩
  have key:∀{xs ds:List AV}{vs:List Value},All2 (Rep1 w s.heap s.used ν) xs vs->All2 (Raw1 κ) xs ds->ds.all rd1=true->All2 (Rep1 w s.heap s.used ν) ds vs:=by
   intro xs;induction xs with
   |nil=>intro ds vs h1 h2 _;simp only[All2]at h1 h2;subst h1 h2;rfl
   |cons x xs ih=>
    rintro ds vs ⟨v,q,rfl,g1,g2⟩ ⟨d,r,rfl,k1,k2⟩ o;simp only[List.all_cons,cF]at o;exact⟨v,q,rfl,k1.rep1 hs hκ g1 o.1,ih g2 k2 o.2⟩
  exact key r m ok
 .have m':Raw1 κ x d:=by
   cases x<;>first|exact m|(cases d<;>first|exact m|exact absurd ⟨_,_,rfl,rfl⟩ ho)
  have ok':rd1 d=true:=by
   cases d<;>first|exact ok|skip
   obtain⟨W,G,y,S,h1,rfl,h2,h3⟩:=m';have e:RepA w s.heap s.used ν (.sc y) v:=r;exfalso;simp only[RepD]at h2;obtain⟨vs,rfl,_⟩:=h2;exact absurd e.2 (by simp[Value.oneCell'])
  have r1:Rep1 w s.heap s.used ν x v:=by
   obtain⟨W,G,y,S,h1,rfl,h2,h3⟩:=m';exact r
  have:=m'.rep1 hs hκ r1 ok';cases d<;>first|exact this|(simp only[rd1,gH]at ok')
def aFG(σ:Nat->Option Nat)(n:Nat)(κ:Kp)(x d:AV):Prop:=rB σ n x d∨(RawK κ x d/\rdA d=true/\rB σ n d d)
section
variable {P:Program}{dst:Option Tmp}{ty:TypeId}{pos:String}{aft:Array Edge}{g:Option (Nat×Bool)}{ins:Operand->Option AV}{hp:Hp}{κ:Kp}
theorem Ya{fo:Operand}{xs:Array Operand}{ats:Array TypeId}{f:FuncId}{caps avs ds:List AV}{hl hl' mR:List (Nat×Blk)}{kp n':Nat}{r r2:AV}{σ σ':Nat->Option Nat}{touch news:List Nat}{ed:List (Nat×Option Blk)}
  (hc:HasE P f ds hl kp r hl') (hf:ins fo=some (.fn f caps)) (hx:Hz ins xs.toList=some avs) (hav:All2 (aFG σ kp κ) (avs++caps) ds) (hh:oX σ kp hp hl) (hi:EE σ hl=true) (hit:Ar σ touch hl=true) (hlive:(touch.all λb=>(hp b).isSome)=true)
  (hh':oX σ' n' (iN hl') mR) (hi':EE σ' mR=true) (hr:rB σ' n' r r2) (hbk:GS σ σ' kp news mR=true) (htl:PO (touch++news) mR) (htr:Rd (touch++news) r2=true) (he:yA (touch++news) mR=ed):
  AEff P ⟨dst,.call ⟨.value fo,xs,ats⟩,ty,pos,aft,g⟩ ins hp κ ⟨r2,touch,ed,news⟩:=by
 have key:∃av2,All2 (rB σ kp) av2 ds/\∀(C:Ctx)(s:AState)(ν:Nu)(a:Act)(w:World)(vs:List Value),s.kp=κ->Sim C s ν a w->All2 (RepA w s.heap s.used ν) (avs++caps) vs->All2 (RepA w s.heap s.used ν) av2 vs:=by
  clear hx;revert hav;generalize avs++caps=xs;clear hc;intro hav;induction xs generalizing ds with
  |nil=>simp only[All2]at hav;subst hav;exact⟨[],rfl,λ_ _ _ _ _ _ _ _ h=>h⟩
  |cons x xs ih=>
   obtain⟨d,r,rfl,h1,h2⟩:=hav;obtain⟨av2,g1,g2⟩:=ih h2;rcases h1 with h1|⟨k1,k2,k3⟩
   .refine⟨x::av2,⟨d,r,rfl,h1,g1⟩,λC s ν a w vs hκ hs hv=>?_⟩;obtain⟨v,q,rfl,e1,e2⟩:=hv;exact⟨v,q,rfl,e1,g2 C s ν a w q hκ hs e2⟩
   .refine⟨d::av2,⟨d,r,rfl,k3,g1⟩,λC s ν a w vs hκ hs hv=>?_⟩;obtain⟨v,q,rfl,e1,e2⟩:=hv;exact⟨v,q,rfl,k1.repA hs hκ e1 k2,g2 C s ν a w q hκ hs e2⟩
 obtain⟨av2,g1,g2⟩:=key;exact Rg hc hf hx g2 g1 hh hi hit hlive hh' hi' hr hbk htl htr he
end
def HZ(W:World):Option (World×(Nat->Prop)):=some (W,λx=>x<W.heap.size)
theorem Fw{κ:Kp}{W:World}{d:AV}{v:Value}{S:List Nat}(h:κ.fx=HZ W)(r:RepD W d v S):Raw1 κ (.sc v) d:=⟨W,_,v,S,h,rfl,r,r.lt⟩
theorem JG{κ:Kp}{W:World}{u:Value}(h:κ.fx=HZ W)(o:u.oneCell'=true):Raw1 κ (.sc u) (.sc u):=Fw h (Fd o)
theorem aDG{κ:Kp}{W:World}{k:Nat}{es:List (List AV)}{v:Value}{S:List Nat}(h:κ.fx=HZ W)(r:RepD W (.list k es) v S):RawK κ (.sc v) (.list k es):=Fw h r
theorem OZ{κ:Kp}:RawK κ (.agg []) (.agg []):=rfl
theorem pL{κ:Kp}{x d:AV}{xs ds:List AV}(a:Raw1 κ x d)(b:RawK κ (.agg xs) (.agg ds)):RawK κ (.agg (x::xs)) (.agg (d::ds)):=⟨d,ds,rfl,a,b⟩
def As(κ:Kp)(h:Hp)(x d:AV):Prop:=viewA h x d∨RawK κ x d
theorem KY{κ:Kp}{h:Hp}:All2 (As κ h) [] []:=rfl
theorem Au{κ:Kp}{h:Hp}{x d:AV}{xs ds:List AV}(a:As κ h x d)(b:All2 (As κ h) xs ds):All2 (As κ h) (x::xs) (d::ds):=⟨d,ds,rfl,a,b⟩
theorem PS{R:AV->Value->Prop}{V:AV->AV->Prop}{w:World}(hr:∀x d v,R x v->V x d->∃S',RepD w d v S'){xs ds:List AV}{vs:List Value}(r:All2 R xs vs)(m:All2 V xs ds):∃S',RepVs w ds vs S':=CG hr r m
section
variable {P:Program}{dst:Option Tmp}{ty:TypeId}{pos:String}{aft:Array Edge}{g:Option (Nat×Bool)}{ins:Operand->Option AV}{hp:Hp}{κ:Kp}
theorem Rh{fo:Operand}{xs:Array Operand}{ats:Array TypeId}{f:FuncId}{avs ds:List AV}{r x:AV}{nb:List (Nat×Blk)}{ns ns':List Nat}(hf:ins fo=some (.fn f []))(hx:Hz ins xs.toList=some avs)(hc:HasC P f ds r)(hv1:All2 (As κ hp) avs ds)(hg:NY r)
  (hi:WD ns r=(x,nb,ns')) (hfl:UE x=true) (hn:ns.Nodup):
  AEff P ⟨dst,.call ⟨.value fo,xs,ats⟩,ty,pos,aft,g⟩ ins hp κ ⟨x,avs.flatMap (kT hp),rV nb,nb.map (·.1)⟩:=by
 refine⟨λC s ν a w Q K {hκ} hi' ht hnw hd hs hK=>?_⟩;have h1:=hs.ev ((hi' fo (by simp[Op.operands,Call.operands])).trans hf);simp only[RepA,RepB]at h1;obtain⟨cv,h1,h2⟩:=h1;simp only[All2]at h2;subst h2;obtain⟨φ,hh⟩:=hs.heap;have h3:=Fe hs (xs:=xs.toList) (λy hy=>hi' y (by simp[Op.operands,Call.operands];exact .inr (Array.mem_toList_iff.1 hy))) hx;have hv1':All2 (As κ s.heap) avs ds:=hv1.congrM λy hy d hd=>hd.elim (λhd=>.inl (hd.congr λb hb=>ht b (List.mem_flatMap.2 ⟨y,hy,hb⟩))) .inr;obtain⟨S1,e1⟩:=PS (V:=As κ s.heap) (λx d v hr hv=>hv.elim (λhv=>viewA.rep hh hr hv) (λhv=>hv.rep hs hκ hr)) h3 hv1';have hcall:=hc.calls w (xs.map a.eval) S1 (by simpa using e1);unfold Oper.wp
 have hex:(execOp a.eval ⟨dst,.call ⟨.value fo,xs,ats⟩,ty,pos,aft,g⟩).run P w= .ok (.enter f (xs.map a.eval)) w:=by
  have:execOp a.eval ⟨dst,.call ⟨.value fo,xs,ats⟩,ty,pos,aft,g⟩=callFunc f (xs.map a.eval):=by
   simp[execOp,resolve,h1,Deferred.ofValue,invoke]
  rw[this];exact hc.enters _ _
 rw[hex];simp only[Oper.upon];refine hcall.mono λe w' ⟨v,S',he,hb,hr,hnew⟩=>?_;subst he;simp only;obtain⟨g1,X,Sf,g2,g3⟩:=XX (w:=w) hi hfl hr hg hnew.1 hn;have hnn:(nb.map (·.1)).Nodup:=by rw[g1]at hn;exact(List.nodup_append.1 hn).1
 obtain⟨ν',hs'⟩:=hs.call hd hb g2 hnew hnn (λb hb=>hnw b hb) g3 (touch:=avs.flatMap (kT hp));exact hK ν' _ _ hs'
end
section
variable {P:Program}{dst:Option Tmp}{ty:TypeId}{pos:String}{aft:Array Edge}{g:Option (Nat×Bool)}{s:AState}
theorem Yb{f:FuncId}{xs:Array Operand}{ats:Array TypeId}{avs ds:List AV}{u:Value}(hc:HasC P f ds (.sc u))(hx:Hz s.ev xs.toList=some avs)(hv1:All2 (As s.kp s.heap) avs ds):
  AEff P ⟨dst,.call ⟨.value (.func f),xs,ats⟩,ty,pos,aft,g⟩ s.ev s.heap s.kp ⟨.sc u,avs.flatMap (kT s.heap),[],[]⟩:=
 Rh (ns:=[]) (nb:=[]) (r:=.sc u) (x:=.sc u) rfl hx hc hv1 trivial (Sl [] u) rfl (by simp)
theorem PT{f:FuncId}{xs:Array Operand}{ats:Array TypeId}{avs ds:List AV}{r x:AV}{nb:List (Nat×Blk)}{ns':List Nat}(hc:HasC P f ds r)(hx:Hz s.ev xs.toList=some avs)(hi:WD s.ns r=(x,nb,ns'))(hfl:UE x=true)(hn:rC s.ns=true)(hg:NY r)(hv1:All2 (As s.kp s.heap) avs ds):
  AEff P ⟨dst,.call ⟨.value (.func f),xs,ats⟩,ty,pos,aft,g⟩ s.ev s.heap s.kp ⟨x,avs.flatMap (kT s.heap),rV nb,nb.map (·.1)⟩:=
 Rh rfl hx hc hv1 hg hi hfl (GM hn)
end
def Lc(w:World):List AV->(List AV->Prop)->Prop
 | [],K=>K []
 | .sc u::cs,K=>Lc w cs (λxs=>K (.sc u::xs))
 |d::cs,K=>∀v S,RepD w d v S->Lc w cs (λxs=>K (.sc v::xs))
def Er(w:World):List AV->(List AV->Prop)->Prop
 | [],K=>K []
 | .sc u::ds,K=>Er w ds (λxs=>K (.sc u::xs))
 | .agg cs::ds,K=>Lc w cs (λxs=>Er w ds (λys=>K (.agg xs::ys)))
 |d::ds,K=>∀v S,RepD w d v S->Er w ds (λxs=>K (.sc v::xs))
theorem Av{w:World}{K:List AV->Prop}(h:K []):Lc w [] K:=h
theorem Aw{w:World}{u:Value}{cs:List AV}{K:List AV->Prop}(h:Lc w cs (λxs=>K (.sc u::xs))):Lc w (.sc u::cs) K:=h
theorem uQ{w:World}{k:Nat}{es:List (List AV)}{cs:List AV}{K:List AV->Prop}(h:∀v S,RepD w (.list k es) v S->Lc w cs (λxs=>K (.sc v::xs))):Lc w (.list k es::cs) K:=h
theorem UW{w:World}{K:List AV->Prop}(h:K []):Er w [] K:=h
theorem PU{w:World}{xs cs:List AV}{K:List AV->Prop}(h:Lc w xs (λxs=>Er w cs (λys=>K (.agg xs::ys)))):Er w (.agg xs::cs) K:=h
theorem WT{w:World}{k:Nat}{es:List (List AV)}{cs:List AV}{K:List AV->Prop}(h:∀v S,RepD w (.list k es) v S->Er w cs (λxs=>K (.sc v::xs))):Er w (.list k es::cs) K:=h
def aAL:AV->Bool
 | .sc u=>u.oneCell'
 | .agg cs=>cs.all lD
 | .list _ _=>true
 |_=>false
theorem UX{w:World}{d:AV}{v:Value}{S:List Nat}(r:RepD w d v S)(ok:lD d=true):v.oneCell'=true:=by
 cases d<;>simp only[lD,gH]at ok<;>simp only[RepD]at r
 .rw[r.1];exact ok
 .obtain⟨a,c,rfl,_⟩:=r;rfl
theorem Sw{w:World}:∀{cs:List AV}{us:List Value}{S:List Nat}{K:List AV->Prop},RepVs w cs us S->cs.all lD=true->Lc w cs K->∃xs,K xs/\∀(w':World)(h:Hp)(u:Us)(ν:Nu),All2 (Rep1 w' h u ν) xs us
 | [],us,S,K,r,_,k=>by simp only[RepVs]at r;obtain⟨rfl,_⟩:=r;exact⟨[],k,λ_ _ _ _=>rfl⟩
 |c::cs,us,S,K,r,ok,k=>by
  simp only[RepVs]at r;obtain⟨v,q,S1,S2,rfl,rfl,h3,h4⟩:=r;simp only[List.all_cons,cF]at ok
  have key:∀x,Lc w cs (λxs=>K (x::xs))->x= .sc v->∃xs,K xs/\∀(w':World)(h:Hp)(u:Us)(ν:Nu),All2 (Rep1 w' h u ν) xs (v::q):=by
   rintro x k1 rfl;obtain⟨xs,g1,g2⟩:=Sw h4 ok.2 k1;exact⟨.sc v::xs,g1,λw' h u ν=>⟨v,q,rfl,⟨rfl,UX h3 ok.1⟩,g2 w' h u ν⟩⟩
  cases c<;>simp only[lD,gH,false_and]at ok
  .simp only[RepD]at h3;exact key _ k (by rw[h3.1])
  .exact key _ (k v S1 h3) rfl
theorem Ri{w:World}:∀{ds:List AV}{vs:List Value}{S:List Nat}{K:List AV->Prop},RepVs w ds vs S->ds.all aAL=true->Er w ds K->∃xs,K xs/\xs.length=ds.length/\∀(h:Hp)(u:Us)(ν:Nu),All2 (RepA w h u ν) xs vs
 | [],vs,S,K,r,_,k=>by simp only[RepVs]at r;obtain⟨rfl,_⟩:=r;exact⟨[],k,rfl,λ_ _ _=>rfl⟩
 |d::ds,vs,S,K,r,ok,k=>by
  simp only[RepVs]at r;obtain⟨v,q,S1,S2,rfl,rfl,h3,h4⟩:=r;simp only[List.all_cons,cF]at ok
  have key:∀x,Er w ds (λxs=>K (x::xs))->(∀(h:Hp)(u:Us)(ν:Nu),RepA w h u ν x v)->∃xs,K xs/\xs.length=(d::ds).length/\∀(h:Hp)(u:Us)(ν:Nu),All2 (RepA w h u ν) xs (v::q):=by
   intro x k1 hx;obtain⟨xs,g1,g2,g3⟩:=Ri h4 ok.2 k1;exact⟨x::xs,g1,by simp[g2],λh u ν=>⟨v,q,rfl,hx h u ν,g3 h u ν⟩⟩
  cases d<;>simp only[aAL,gH,false_and]at ok
  .simp only[RepD]at h3;exact key _ k λh u ν=>by simp only[RepA,RepB,Rep1];exact⟨h3.1,h3.2.1⟩
  .exact key _ (k v S1 h3) λh u ν=>(show Rep1 w h u ν (.sc v) v from ⟨rfl,UX h3 rfl⟩)
  .have h3':=h3;simp only[RepD]at h3';obtain⟨us,rfl,h5⟩:=h3';obtain⟨xs,g1,g2⟩:=Sw h5 ok.1 k;exact key _ g1 λh u ν=>by simp only[RepA,RepB];exact⟨us,rfl,g2 w h u ν⟩
theorem UY{P:Program}{T:List (Nat×Ty)}(hT:TyOk P T){f:FuncId}{fn:Func}{c:Code}{nt:Nat}{ds:List AV}{r:AV}{rvs:List ResultVar}{ns:List Nat}(hf:P.funcs[f]? =some fn)(hb:fn.body=some c)(hname:(fn.name== "runtime.NumGoroutine")=false)(hnt:fn.ntmps=nt)(hres:fn.results.toList=rvs)
  (hlen:Nat.ble ds.length nt=true) (hok:ds.all aAL=true) (h:∀W:World,Er W ds λxs=>AC P nt c ⟨KT xs,iN [],Bt 0,ns,⟨0,true,HZ W,true⟩⟩ (Qi T rvs r)):HasC P f ds r:=by
 refine⟨Enters.mk hf (by rw[hb];rfl) hname,λw args S hargs=>?_⟩;refine(callsIn_wide (n:=0)).1 (callsIn_of_wp_marks (F:=fw none) hf hb trivial ?_);have hlen':=Nat.le_of_ble_eq_true hlen;have hal:args.size=ds.length:=by have:=hargs.len;simpa using this
 obtain⟨xs,hac,hxl,hxr⟩:=Ri hargs hok (h w);let C:Ctx:=⟨w.heap.size,w,nt,λx=>w.heap.size<=x,λ_ h=>h,⟨0,true,HZ w,true⟩,w,iN [],Nu.none,λx=>x<w.heap.size,λ_ x hx hm=>absurd hx (Nat.not_lt.2 hm),(λp h=>by cases h;exact⟨rfl,λx hx=>⟨hx,hx⟩⟩),none,λ_=>rfl⟩;have hfr:∀x,vY (iN []) Nu.none x:=λx b blk β c hb=>by cases hb
 have hsim:Sim C ⟨KT xs,iN [],Bt 0,ns,⟨0,true,HZ w,true⟩⟩ Nu.none ⟨args++Array.replicate (fn.ntmps-args.size) undef,[]⟩ w:=by
  refine⟨Below.refl _ _,bA _,λ_ hx=>hx,Cj,by show(args++Array.replicate (fn.ntmps-args.size) undef).size=nt;simp[hnt];omega,?_,⟨λ_=>[],λb blk hb=>(by cases hb),λb c x hb=>absurd rfl hb⟩,rfl,ExtF.refl λx _ _=>hfr x,bA _,λ_ _=>trivial,λ_ _ _ _=>trivial⟩;intro t x hx;have hx':xs[t]? =some x:=by rw[←PN];exact hx
  obtain⟨v,h1,h2⟩:=(hxr (iN []) (Bt 0) Nu.none).get hx';refine⟨v,?_,h2⟩
  have hlt:t<args.size:=by
   rcases dS t args.size with h'|h'
   .exact h'
   .rw[jK (by simpa using h')]at h1;cases h1
  show(args++Array.replicate (fn.ntmps-args.size) undef)[t]? =some v;rw[Array.getElem?_append_left hlt];simpa using h1
 refine wpIn_mono (hac.out C rfl _ _ w hsim 0) λe a' w0 ⟨s',ν',hq,hs0⟩=>?_;obtain⟨Ds,d1,d2,d3⟩:=hs0.defers;obtain⟨w',hs',hleave⟩:=hs0.leave (P:=P) (n:=0) d1 d2 d3;obtain⟨he,avs,hv,hn,hfz⟩:=hq;obtain⟨us,h1,h2⟩:=Ff hT hs' hv;obtain⟨φ,hh⟩:=hs'.heap;have hn':=GM hn
 have hrun:(results fn a'.tmps).run P w'= .ok (if hh:us.toArray.size=1 then us.toArray[0]else .tuple us.toArray) w':=by
  unfold results;rw[Sem.run_bind,Array.mapM_eq_mapM_toList,Sem.run_map,hres];have h1':=h1;generalize hq:(List.mapM _ rvs:Sem (List Value))=m;rw[show Sem.run P m w'= .ok us w' by rw[←hq];exact h1'];simp
 have hres2:∃S',Sj w' r (if hh:us.toArray.size=1 then us.toArray[0]else .tuple us.toArray) S'/\New w.heap.size S':=by
  have hul:us.length=avs.length:=h2.len;unfold Qh at hfz;split at hfz
  .rename_i v r';obtain⟨u,q,rfl,g1,g2⟩:=h2;simp only[All2]at g2;subst g2;simp only[List.flatMap_cons,List.flatMap_nil,List.append_nil]at hn';obtain⟨S',a1,a2,a3,a4⟩:=Oz hh g1 hfz.1 hn';refine⟨S',?_,a2,a3⟩;simp only[List.size_toArray,List.length_cons,List.length_nil,Nat.zero_add,dite_true];have hnt:=hfz.2;cases r<;>first|exact a1|exact absurd rfl (hnt _)
  .rename_i vs rs _;obtain⟨S',a1,a2,a3,a4⟩:=MY hh h2 hfz.2 hn';refine⟨S',?_,a2,a3⟩;rw[dif_neg (by simp;rw[hul];exact hfz.1)];exact⟨us,rfl,a1⟩
  .exact hfz.elim
 obtain⟨S',hr1,hr2⟩:=hres2;have hend:=hleave fn (λe w'=>∃v S',e= .returned v/\Below w.heap.size w w'/\Sj w' r v S'/\New w.heap.size S') ⟨_,hrun,_,S',rfl,hs'.below,hr1,hr2⟩;cases e<;>simp only[NZ,gH]at he<;>exact hend
def dfE:List (Nat×AV)->Prop
 | []=>True
 |(_,x)::r=>dfA x=true/\dfE r
theorem PV:∀{l:List (Nat×AV)},dfE l->∀t x,Hq l t=some x->dfA x=true
 | [],_,t,x,h=>by cases h
 |(k,v)::r,⟨h1,h2⟩,t,x,h=>by
  simp only[Hq]at h;cases hb:Nat.beq t k with
  |true=>rw[hb]at h;cases h;exact h1
  |false=>rw[hb]at h;exact PV h2 t x h
def dfR(y:Blk):Prop:=∀cs∈y.es,∀c∈cs,dfC c=true
def dfH(skip:List Nat):List (Nat×Blk)->Prop
 | []=>True
 |(b,y)::r=>(b∈skip∨dfR y)/\dfH skip r
theorem PW{skip:List Nat}:∀{l:List (Nat×Blk)},dfH skip l->∀b blk,iN l b=some blk->b ∉ skip->∀cs∈blk.es,∀c∈cs,dfC c=true
 | [],_,b,x,h=>by cases h
 |(k,v)::r,⟨h1,h2⟩,b,x,h=>by
  simp only[iN]at h;by_cases e:b=k
  .subst e;rw[bT]at h;cases h;intro hn;exact h1.elim (λh=>absurd h hn) id
  .rw[bW e]at h;exact PW h2 b x h
theorem EOk.df{α:Type}{k:Nat}{e:α->List AV}(E:EOk k e)(k':Nat)(l:List α):dfR ⟨k',l.map (ow e)⟩:=by
 intro cs hcs c hc;obtain⟨x,_,rfl⟩:=List.mem_map.1 hcs;obtain⟨d,hd,rfl⟩:=List.mem_map.1 hc;have:=E.mem x d hd;cases d<;>simp only[lD,gH]at this<;>rfl
theorem EOk.dfS{α:Type}{k:Nat}{e:α->List AV}(E:EOk k e)(k':Nat)(l:List α)(i:Nat){c:List AV}(h:c.all dfC=true):dfR ⟨k',(l.map (ow e)).set i c⟩:=by
 intro cs hcs d hd;rcases List.mem_or_eq_of_mem_set hcs with h1|rfl
 .exact E.df k' l cs h1 d hd
 .exact List.all_eq_true.1 h d hd
theorem Ax{k:Nat}{es:List (List AV)}(h:(es.all λcs=>cs.all dfC)=true):dfR ⟨k,es⟩:=λcs hcs c hc=>List.all_eq_true.1 (List.all_eq_true.1 h cs hcs) c hc
theorem Ld{α:Type}{e:α->List AV}{l:List α}{i:Nat}{v:α}(h:l[i]? =some v):l.map (ow e)=(l.map (ow e)).set i (ow e v):=by
 rw[←List.map_set];congr 1;refine List.ext_getElem? λj=>?_;rw[List.getElem?_set];by_cases e:i=j
 .subst e
  have:i<l.length:=by
   rcases dS i l.length with h'|h'
   .exact h'
   .rw[jK h']at h;cases h
  rw[aP rfl,aP this,h]
 .rw[aQ e]
theorem JH{α:Type}{k:Nat}{e:α->List AV}(E:EOk k e){l:List α}{i:Nat}{c:List AV}(h:c.all yL=true):Fc ((l.map (ow e)).set i c):=by
 intro cs hcs d hd;rcases List.mem_or_eq_of_mem_set hcs with h1|rfl
 .exact E.plainO l cs h1 d hd
 .exact List.all_eq_true.1 h d hd
theorem JI{s:AState}{b c i j k k' n:Nat}{A es' fs:List (List AV)}{cs:List AV}(hi:i<A.length)(hT:s.kp.T=true)(hb:s.heap b=some ⟨k,A.set i cs⟩)(hj:cs[j]? =some (.abs k' es'))(hc:s.used c=false)(hn:es'.length=n)(hfs:dQ es'=fs)(hdf:∀t x,s.env t=some x->dfA x=true)(hdc:∀b blk,s.heap b=some blk->b ∉ ([]:List Nat)->∀cs∈blk.es,∀c∈cs,dfC c=true):
  Ent s ⟨s.env,bB [(c,some ⟨k',fs⟩),(b,some ⟨k,A.set i (Fv cs j [.own c 0 n])⟩)] s.heap,gC [c] s.used,s.ns,s.kp⟩:=by
 subst hn hfs
 have hjl:j<cs.length:=by
  rcases dS j cs.length with h'|h'
  .exact h'
  .rw[jK h']at hj;cases hj
 have h:=aAK (c:=c) hT hb (i:=i) (cs:=cs) (by simp[hi]) hj hc hdf (λb blk hb=>hdc b blk hb (by simp));have e:=Iv (cs:=cs) (j:=j) (vs:=[.own c 0 es'.length]) (by simp;omega);simp only[List.length_singleton]at e;rw[e]at h;simp only[List.set_set]at h;exact h
theorem aAM{α:Type}{k:Nat}{e:α->List AV}{hp:Hp}{b i n:Nat}{l:List α}(E:EOk k e)(hb:hp b=some ⟨k,l.map (ow e)⟩):zY hp (.own b i n)=some (k,((l.drop i).take n).map e,[b]):=by
 simp only[zY,hb,←List.map_drop,←List.map_take];rw[aAE E]
theorem k{α:Sort _}{a:α}:a=a:=rfl
section
variable {P:Program}{ops:Array Oper}{nt:Nat}{r:List Oper}{s:AState}{tr:List Tr}{K:List Tr->AState->Prop}{K':AState->Prop}
def PX(ops:Array Oper)(nt:Nat)(s:AState)(o:Oper)(news:List Nat):Bool:=Nt o nt&&((match pI ops s.env o with|some true=>true|_=>false)&&news.all λb=> !s.used b)
theorem Mg{o:Oper}{news:List Nat}(h:PX ops nt s o news=true):Nt o nt=true/\pI ops s.env o=some true/\(news.all λb=> !s.used b)=true:=by
 simp only[PX,cF]at h;obtain⟨h1,h2,h3⟩:=h;refine⟨h1,?_,h3⟩;split at h2
 .assumption
 .cases h2
theorem ae{d:Option Tmp}{op:Op}{ty:TypeId}{pos:String}{aft:Array Edge}{g:Option (Nat×Bool)}{e:Eff}(he:AEff P ⟨d,op,ty,pos,aft,g⟩ s.ev s.heap s.kp e)(hb:PX ops nt s ⟨d,op,ty,pos,aft,g⟩ e.news=true)(h:AOps P ops nt r (s.app d e) (Cz e::tr) K):AOps P ops nt (⟨d,op,ty,pos,aft,g⟩::r) s tr K:=
 aX he (Mg hb).1 (Mg hb).2.1 (Mg hb).2.2 h
theorem se{d:Option Tmp}{op:Op}{ty:TypeId}{pos:String}{aft:Array Edge}{g:Option (Nat×Bool)}{e:Eff}(he:AEff P ⟨d,op,ty,pos,aft,g⟩ s.ev s.heap s.kp e)(hb:PX ops nt s ⟨d,op,ty,pos,aft,g⟩ e.news=true)(h:SOps P ops nt r (s.app d e) K'):SOps P ops nt (⟨d,op,ty,pos,aft,g⟩::r) s K':=
 UU he (Mg hb).1 (Mg hb).2.1 (Mg hb).2.2 h
theorem am{d:Option Tmp}{ty:TypeId}{pos:String}{aft:Array Edge}{g:Option (Nat×Bool)}{x:Operand}{v:AV}(hx:s.ev x=some v)(hb:PX ops nt s ⟨d,.move x,ty,pos,aft,g⟩ []=true)(h:AOps P ops nt r (s.app d ⟨v,[],[],[]⟩) (Cz ⟨v,[],[],[]⟩::tr) K):AOps P ops nt (⟨d,.move x,ty,pos,aft,g⟩::r) s tr K:=ae (dZ hx) hb h
theorem aa{d:Option Tmp}{ty:TypeId}{pos:String}{aft:Array Edge}{g:Option (Nat×Bool)}{x:Operand}{v:AV}(hx:s.ev x=some v)(hb:PX ops nt s ⟨d,.assign x,ty,pos,aft,g⟩ []=true)(h:AOps P ops nt r (s.app d ⟨v,[],[],[]⟩) (Cz ⟨v,[],[],[]⟩::tr) K):AOps P ops nt (⟨d,.assign x,ty,pos,aft,g⟩::r) s tr K:=ae (gI hx) hb h
theorem an(h:K tr s):AOps P ops nt [] s tr K:=gE h
theorem sn(h:K' s):SOps P ops nt [] s K':=aAJ h
variable {Q:Exit->AState->Prop}
theorem sQ{x y:Code}(h:AC P nt x s (Af (λs'=>AC P nt y s' Q) Q)):AC P nt (.seq x y) s Q:=mJ h
theorem rg{id:Nat}{l:List Oper}(h:AOps P l.toArray nt l s [] (λ_ s'=>Q .normal s')):AC P nt (.region id l.toArray false) s Q:=fH h
theorem Nc{id:Nat}{l:List Oper}(h:SOps P l.toArray nt l s (Q .normal)):AC P nt (.region id l.toArray false) s Q:=WR h
theorem tn(h:K' s):Af K' Q .normal s:=h
end
theorem ak{P:Program}{ops:Array Oper}{nt:Nat}{r:List Oper}{s:AState}{tr:List Tr}{K:List Tr->AState->Prop}{d:Option Tmp}{op:Op}{ty:TypeId}{pos:String}{aft:Array Edge}{g:Option (Nat×Bool)}(hg:pI ops s.env ⟨d,op,ty,pos,aft,g⟩=some false)(hd:Nt ⟨d,op,ty,pos,aft,g⟩ nt=true)(h:AOps P ops nt r ⟨Qf d (.tuple []) s.env,s.heap,s.used,s.ns,s.kp⟩ (⟨[],[]⟩::tr) K):AOps P ops nt (⟨d,op,ty,pos,aft,g⟩::r) s tr K:=RQ hg hd h
section
variable {σ:Nat->Option Nat}{n b b0 k:Nat}{h:Hp}{r:List (Nat×Blk)}
theorem hB{y:Blk}(hp:Fc y.es)(hs:σ b=some b0)(hb:h b0=some y)(hn:Nat.blt b n=true)(hr:oX σ n h r):oX σ n h ((b,y)::r):=by
 simp only[oX];rw[hs];exact⟨⟨y,hb,rfl,.inl ⟨rfl,hp⟩⟩,hn,hr⟩
theorem hX{y:Blk}(hm:match σ b with|some b0=>∃x,h b0=some x/\KQ σ n x y|none=>y.es=[])(hn:Nat.blt b n=true)(hr:oX σ n h r):oX σ n h ((b,y)::r):=⟨hm,hn,hr⟩
end
theorem aFH{P:Program}{T:List (Nat×Ty)}(hT:TyOk P T){dst:Option Tmp}{pos:String}{aft:Array Edge}{g:Option (Nat×Bool)}{s:AState}{x:Operand}{t e k:Nat}{y:Ty}{dty:TypeId}{α:Type}{f:α->List AV}{l:List α}(hx:s.ev x=some (.list k (List.map f l)))(hy:cX T t=some y)(hd:y.desc= .slice e):
  AEff P ⟨dst,.call ⟨.builtin .len,#[x],#[t]⟩,dty,pos,aft,g⟩ s.ev s.heap s.kp ⟨.int l.length,[],[],[]⟩:=AEff.val (Gr hT hx hy hd) (by rw[dM])
theorem lA{α:Type}{a b:List α}:(a++b).length=a.length+b.length:=List.length_append
theorem lT{α:Type}{a:List α}{i:Nat}{x:α}:(a.set i x).length=a.length:=List.length_set
theorem lR{α:Type}{n:Nat}{x:α}:(List.replicate n x).length=n:=List.length_replicate
theorem lC{α:Type}{a:α}{b:List α}:(a::b).length=b.length+1:=List.length_cons
theorem lN{α:Type}:([]:List α).length=0:=List.length_nil
theorem Mh:([]:List AV).all yO=true:=rfl
theorem vK{d:AV}{ds:List AV}(h1:yO d=true)(h2:ds.all yO=true):(d::ds).all yO=true:=by
 rw[List.all_cons,h1,h2];rfl
theorem k2{αa:Sort _}{a:αa}{αb:Sort _}{b:αb}:a=a/\b=b:=⟨rfl,rfl⟩
theorem k3{αa:Sort _}{a:αa}{αb:Sort _}{b:αb}{αc:Sort _}{c:αc}:a=a/\b=b/\c=c:=⟨rfl,rfl,rfl⟩
theorem k4{αa:Sort _}{a:αa}{αb:Sort _}{b:αb}{αc:Sort _}{c:αc}{αd:Sort _}{d:αd}:a=a/\b=b/\c=c/\d=d:=⟨rfl,rfl,rfl,rfl⟩
theorem k5{αa:Sort _}{a:αa}{αb:Sort _}{b:αb}{αc:Sort _}{c:αc}{αd:Sort _}{d:αd}{αe:Sort _}{e:αe}:a=a/\b=b/\c=c/\d=d/\e=e:=⟨rfl,rfl,rfl,rfl,rfl⟩
theorem k7{αa:Sort _}{a:αa}{αb:Sort _}{b:αb}{αc:Sort _}{c:αc}{αd:Sort _}{d:αd}{αe:Sort _}{e:αe}{αf:Sort _}{f:αf}{αg:Sort _}{g:αg}:a=a/\b=b/\c=c/\d=d/\e=e/\f=f/\g=g:=⟨rfl,rfl,rfl,rfl,rfl,rfl,rfl⟩
theorem k8{αa:Sort _}{a:αa}{αb:Sort _}{b:αb}{αc:Sort _}{c:αc}{αd:Sort _}{d:αd}{αe:Sort _}{e:αe}{αf:Sort _}{f:αf}{αg:Sort _}{g:αg}{αh:Sort _}{h:αh}:a=a/\b=b/\c=c/\d=d/\e=e/\f=f/\g=g/\h=h:=⟨rfl,rfl,rfl,rfl,rfl,rfl,rfl,rfl⟩
section
variable {ops:Array Oper}{nt:Nat}{r:List Oper}{s:AState}{tr:List Tr}{K:List Tr->AState->Prop}{K':AState->Prop}{d:Option Tmp}{ty:TypeId}{pos:String}{aft:Array Edge}{g:Option (Nat×Bool)}
theorem lp{x:Operand}{t:Nat}{y:Ty}{b i j:Nat}{blk:Blk}{cs:List AV}{v:AV}(h:s.ev x=some (.ptr b i j)/\s.heap b=some blk/\cX TT t=some y/\(y.desc.isAgg||Nat.beq y.size 1)=true/\blk.es[i]? =some cs/\Nat.ble (j+y.size) cs.length=true/\Am y.desc.isAgg (((cs.drop j).take y.size).map GI)=v/\PX ops nt s ⟨d,.load t x,ty,pos,aft,g⟩ []=true)(g2:AOps Tryz.prog ops nt r (s.app d ⟨v,[b],[],[]⟩) (Cz ⟨v,[b],[],[]⟩::tr) K):AOps Tryz.prog ops nt (⟨d,.load t x,ty,pos,aft,g⟩::r) s tr K:=by
 obtain⟨h0,h1,h2,h3,h4,h5,h6,h7⟩:=h;exact ae (dV aJ h0 h1 h2 h3 h4 h5 h6) h7 g2
theorem fp{x:Operand}{st f dD ft:Nat}{b i j:Nat}{blk:Blk}{y yf:Ty}{fs:List (Nat×Nat)}(h:s.ev x=some (.ptr b i j)/\s.heap b=some blk/\cX TT st=some y/\y.desc= .struct fs/\fs[f]? =some (dD,ft)/\cX TT ft=some yf/\Nat.beq yf.size 0=false/\PX ops nt s ⟨d,.fieldAddr st x f,ty,pos,aft,g⟩ []=true)(g2:AOps Tryz.prog ops nt r (s.app d ⟨.ptr b i (j+dD),[b],[],[]⟩) (Cz ⟨.ptr b i (j+dD),[b],[],[]⟩::tr) K):AOps Tryz.prog ops nt (⟨d,.fieldAddr st x f,ty,pos,aft,g⟩::r) s tr K:=by
 obtain⟨h0,h1,h2,h3,h4,h5,h6,h7⟩:=h;exact ae (DA aJ h0 h1 h2 h3 h4 h5 h6) h7 g2
theorem lr{x:Operand}{t:Nat}{y:Ty}{cs:List AV}{v:AV}(h:s.ev x=some (.ref cs)/\cX TT t=some y/\(y.desc.isAgg||Nat.beq y.size 1)=true/\Nat.ble y.size cs.length=true/\(cs.take y.size).all eV=true/\Am y.desc.isAgg (cs.take y.size)=v/\PX ops nt s ⟨d,.load t x,ty,pos,aft,g⟩ []=true)(g2:AOps Tryz.prog ops nt r (s.app d ⟨v,[],[],[]⟩) (Cz ⟨v,[],[],[]⟩::tr) K):AOps Tryz.prog ops nt (⟨d,.load t x,ty,pos,aft,g⟩::r) s tr K:=by
 obtain⟨h0,h1,h2,h3,h4,h5,h6⟩:=h;exact ae (PA aJ h0 h1 h2 h3 h4 h5) h6 g2
theorem cm{op:BinOp}{t t':TypeId}{x y:Operand}{q:IntKind}{a b:Int}{c:Bool}(h:s.ev x=some (.sc (.int q a))/\s.ev y=some (.sc (.int q b))/\aBy op a b=some c/\PX ops nt s ⟨d,.binOp op t x y t',ty,pos,aft,g⟩ []=true)(g2:AOps Tryz.prog ops nt r (s.app d ⟨.bl c,[],[],[]⟩) (Cz ⟨.bl c,[],[],[]⟩::tr) K):AOps Tryz.prog ops nt (⟨d,.binOp op t x y t',ty,pos,aft,g⟩::r) s tr K:=by
 obtain⟨h0,h1,h2,h3⟩:=h;exact ae (HY h0 h1 h2) h3 g2
theorem pk{c x y:Operand}{t:Bool}{v:AV}(h:s.ev c=some (.sc (.bool t))/\s.ev (if t then x else y)=some v/\PX ops nt s ⟨d,.pick c x y,ty,pos,aft,g⟩ []=true)(g2:AOps Tryz.prog ops nt r (s.app d ⟨v,[],[],[]⟩) (Cz ⟨v,[],[],[]⟩::tr) K):AOps Tryz.prog ops nt (⟨d,.pick c x y,ty,pos,aft,g⟩::r) s tr K:=by
 obtain⟨h0,h1,h2⟩:=h;exact ae (IA h0 h1) h2 g2
theorem ln{x:Operand}{t e q:Nat}{y:Ty}{α:Type}{f:α->List AV}{l:List α}(h:s.ev x=some (.list q (List.map f l))/\cX TT t=some y/\y.desc= .slice e/\PX ops nt s ⟨d,.call ⟨.builtin .len,#[x],#[t]⟩,ty,pos,aft,g⟩ []=true)(g2:AOps Tryz.prog ops nt r (s.app d ⟨.int l.length,[],[],[]⟩) (Cz ⟨.int l.length,[],[],[]⟩::tr) K):AOps Tryz.prog ops nt (⟨d,.call ⟨.builtin .len,#[x],#[t]⟩,ty,pos,aft,g⟩::r) s tr K:=by
 obtain⟨h0,h1,h2,h3⟩:=h;exact ae (aFH aJ h0 h1 h2) h3 g2
theorem Oa{x:Operand}{t:Nat}{y:Ty}{b i j:Nat}{blk:Blk}{cs:List AV}{v:AV}(h:s.ev x=some (.ptr b i j)/\s.heap b=some blk/\cX TT t=some y/\(y.desc.isAgg||Nat.beq y.size 1)=true/\blk.es[i]? =some cs/\Nat.ble (j+y.size) cs.length=true/\Am y.desc.isAgg (((cs.drop j).take y.size).map GI)=v/\PX ops nt s ⟨d,.load t x,ty,pos,aft,g⟩ []=true)(g2:SOps Tryz.prog ops nt r (s.app d ⟨v,[b],[],[]⟩) K'):SOps Tryz.prog ops nt (⟨d,.load t x,ty,pos,aft,g⟩::r) s K':=by
 obtain⟨h0,h1,h2,h3,h4,h5,h6,h7⟩:=h;exact se (dV aJ h0 h1 h2 h3 h4 h5 h6) h7 g2
theorem fpS{x:Operand}{st f dD ft:Nat}{b i j:Nat}{blk:Blk}{y yf:Ty}{fs:List (Nat×Nat)}(h:s.ev x=some (.ptr b i j)/\s.heap b=some blk/\cX TT st=some y/\y.desc= .struct fs/\fs[f]? =some (dD,ft)/\cX TT ft=some yf/\Nat.beq yf.size 0=false/\PX ops nt s ⟨d,.fieldAddr st x f,ty,pos,aft,g⟩ []=true)(g2:SOps Tryz.prog ops nt r (s.app d ⟨.ptr b i (j+dD),[b],[],[]⟩) K'):SOps Tryz.prog ops nt (⟨d,.fieldAddr st x f,ty,pos,aft,g⟩::r) s K':=by
 obtain⟨h0,h1,h2,h3,h4,h5,h6,h7⟩:=h;exact se (DA aJ h0 h1 h2 h3 h4 h5 h6) h7 g2
theorem Rj{op:BinOp}{t t':TypeId}{x y:Operand}{q:IntKind}{a b:Int}{c:Bool}(h:s.ev x=some (.sc (.int q a))/\s.ev y=some (.sc (.int q b))/\aBy op a b=some c/\PX ops nt s ⟨d,.binOp op t x y t',ty,pos,aft,g⟩ []=true)(g2:SOps Tryz.prog ops nt r (s.app d ⟨.bl c,[],[],[]⟩) K'):SOps Tryz.prog ops nt (⟨d,.binOp op t x y t',ty,pos,aft,g⟩::r) s K':=by
 obtain⟨h0,h1,h2,h3⟩:=h;exact se (HY h0 h1 h2) h3 g2
theorem CA{x:Operand}{v:AV}(h:s.ev x=some v/\PX ops nt s ⟨d,.assign x,ty,pos,aft,g⟩ []=true)(g2:SOps Tryz.prog ops nt r (s.app d ⟨v,[],[],[]⟩) K'):SOps Tryz.prog ops nt (⟨d,.assign x,ty,pos,aft,g⟩::r) s K':=by
 obtain⟨h0,h1⟩:=h;exact se (gI h0) h1 g2
theorem lY{x:Operand}{v:AV}(h:s.ev x=some v/\PX ops nt s ⟨d,.move x,ty,pos,aft,g⟩ []=true)(g2:SOps Tryz.prog ops nt r (s.app d ⟨v,[],[],[]⟩) K'):SOps Tryz.prog ops nt (⟨d,.move x,ty,pos,aft,g⟩::r) s K':=by
 obtain⟨h0,h1⟩:=h;exact se (dZ h0) h1 g2
theorem dY:True:=trivial
theorem aT{x:Operand}{v:AV}{Q:Exit->AState->Prop}{T:AState->Prop}(h:s.ev x=some v/\PX ops nt s ⟨d,.assign x,ty,pos,aft,g⟩ []=true)(g2:T (s.app d ⟨v,[],[],[]⟩)):AOps Tryz.prog ops nt [⟨d,.assign x,ty,pos,aft,g⟩] s tr (λ_ s'=>Af T Q .normal s'):=aa h.1 h.2 (an (tn g2))
theorem aK{o1 o2:Oper}(h:(pI ops s.env o1=some false/\Nt o1 nt=true/\pI ops (Qf o1.dst (.tuple []) s.env) o2=some false/\Nt o2 nt=true))(g2:AOps Tryz.prog ops nt r ⟨Qf o2.dst (.tuple []) (Qf o1.dst (.tuple []) s.env),s.heap,s.used,s.ns,s.kp⟩ (⟨[],[]⟩::⟨[],[]⟩::tr) K):AOps Tryz.prog ops nt (o1::o2::r) s tr K:=ak h.1 h.2.1 (ak h.2.2.1 h.2.2.2 g2)
theorem sR{id:Nat}{l:List Oper}{y:Code}{Q:Exit->AState->Prop}(h:AOps Tryz.prog l.toArray nt l s [] (λ_ s'=>Af (λs'=>AC Tryz.prog nt y s' Q) Q .normal s')):AC Tryz.prog nt (.seq (.region id l.toArray false) y) s Q:=sQ (rg h)
theorem sS{id:Nat}{l:List Oper}{y:Code}{Q:Exit->AState->Prop}(h:SOps Tryz.prog l.toArray nt l s (Af (λs'=>AC Tryz.prog nt y s' Q) Q .normal)):AC Tryz.prog nt (.seq (.region id l.toArray false) y) s Q:=sQ (Nc h)
end
theorem oB{α β:Type}{o:Option α}{k:α->Option β}{r:β}{p:Prop}(h:o.bind k=some r)(f:∀a,o=some a->k a=some r->p):p:=by
 obtain⟨a,h1,h2⟩:=ob h;exact f a h1 h2
theorem kB{h:Hp}{cs:List AV}(hp:cs.all eV=true):viewA h (.agg cs) (.agg cs):=Ix (UI hp)
theorem rtB{T:List (Nat×Ty)}{rvs:List ResultVar}{e:Exit}{s:AState}{u v:Bool}(h:some u=some v)(p:EF T s rvs=some [.bl u]/\NZ e=true):Qi T rvs (.bl v) e s:=by
 cases h;exact bH p.2 p.1 rfl (aDE rfl)
theorem rtI{T:List (Nat×Ty)}{rvs:List ResultVar}{e:Exit}{s:AState}{u v:Int}(h:some u=some v)(p:EF T s rvs=some [.int u]/\NZ e=true):Qi T rvs (.int v) e s:=by
 cases h;exact bH p.2 p.1 rfl (Zs rfl)
theorem cL{d:Option Tmp}{ty:TypeId}{pos:String}{aft:Array Edge}{g:Option (Nat×Bool)}{s:AState}{f:FuncId}{xs:Array Operand}{ats:Array TypeId}{avs ds:List AV}{ns':List Nat}{α:Type}{e:α->List AV}{q b:Nat}{l:List α}(ok:EOk q e)(hc:HasC Tryz.prog f ds (.list q (List.map e l)))(h:Hz s.ev xs.toList=some avs/\s.ns=b::ns'/\rC s.ns=true)(hv:All2 (viewA s.heap) avs ds):AEff Tryz.prog ⟨d,.call ⟨.value (.func f),xs,ats⟩,ty,pos,aft,g⟩ s.ev s.heap s.kp ⟨.own b 0 l.length,avs.flatMap (kT s.heap)++[].flatMap (mW s.heap),[(b,some ⟨q,List.map (ow e) l⟩)],[b]⟩:=
 AEff.conv (pK (x:=.own b 0 (List.map e l).length) (nb:=[(b,⟨q,dQ (List.map e l)⟩)]) hc h.1 (by rw[h.2.1];rfl) rfl h.2.2 (ok.good _) hv) (by simp only[bF]) (Bz (nb':=[(b,⟨q,List.map (ow e) l⟩)]) (by simp only[jN]))
theorem cLK{d:Option Tmp}{ty:TypeId}{pos:String}{aft:Array Edge}{g:Option (Nat×Bool)}{s:AState}{f:FuncId}{xs:Array Operand}{ats:Array TypeId}{avs ds:List AV}{ns':List Nat}{α:Type}{e:α->List AV}{q b:Nat}{l:List α}(ok:EOk q e)(hc:HasC Tryz.prog f ds (.list q (List.map e l)))(h:Hz s.ev xs.toList=some avs/\s.ns=b::ns'/\rC s.ns=true)(hv:All2 (As s.kp s.heap) avs ds):AEff Tryz.prog ⟨d,.call ⟨.value (.func f),xs,ats⟩,ty,pos,aft,g⟩ s.ev s.heap s.kp ⟨.own b 0 l.length,avs.flatMap (kT s.heap),[(b,some ⟨q,List.map (ow e) l⟩)],[b]⟩:=
 AEff.conv (PT (x:=.own b 0 (List.map e l).length) (nb:=[(b,⟨q,dQ (List.map e l)⟩)]) hc h.1 (by rw[h.2.1];rfl) rfl h.2.2 (ok.good _) hv) (by simp only[bF]) (Bz (nb':=[(b,⟨q,List.map (ow e) l⟩)]) (by simp only[jN]))
theorem cM{d:Option Tmp}{ty:TypeId}{pos:String}{aft:Array Edge}{g:Option (Nat×Bool)}{s:AState}{f:FuncId}{xs:Array Operand}{ats:Array TypeId}{avs ds:List AV}{ns':List Nat}{b:Nat}{v:Mt}(hc:HasC Tryz.prog f ds (.agg (eM v)))(h:Hz s.ev xs.toList=some avs/\s.ns=b::ns'/\rC s.ns=true)(hv:All2 (viewA s.heap) avs ds):AEff Tryz.prog ⟨d,.call ⟨.value (.func f),xs,ats⟩,ty,pos,aft,g⟩ s.ev s.heap s.kp ⟨.agg [.int v.rows,.int v.cols,.own b 0 v.cells.length],avs.flatMap (kT s.heap)++[].flatMap (mW s.heap),[(b,some ⟨1,List.map (ow eI) v.cells⟩)],[b]⟩:=
 AEff.conv (pK (x:=.agg [.int v.rows,.int v.cols,.own b 0 (List.map eI v.cells).length]) (nb:=[(b,⟨1,dQ (List.map eI v.cells)⟩)]) hc h.1 (by rw[h.2.1];rfl) rfl h.2.2 (cK trivial (cK trivial (cK (cD.good _) AA))) hv) (by simp only[bF]) (Bz (nb':=[(b,⟨1,List.map (ow eI) v.cells⟩)]) (by simp only[jN]))
theorem cMK{d:Option Tmp}{ty:TypeId}{pos:String}{aft:Array Edge}{g:Option (Nat×Bool)}{s:AState}{f:FuncId}{xs:Array Operand}{ats:Array TypeId}{avs ds:List AV}{ns':List Nat}{b:Nat}{v:Mt}(hc:HasC Tryz.prog f ds (.agg (eM v)))(h:Hz s.ev xs.toList=some avs/\s.ns=b::ns'/\rC s.ns=true)(hv:All2 (As s.kp s.heap) avs ds):AEff Tryz.prog ⟨d,.call ⟨.value (.func f),xs,ats⟩,ty,pos,aft,g⟩ s.ev s.heap s.kp ⟨.agg [.int v.rows,.int v.cols,.own b 0 v.cells.length],avs.flatMap (kT s.heap),[(b,some ⟨1,List.map (ow eI) v.cells⟩)],[b]⟩:=
 AEff.conv (PT (x:=.agg [.int v.rows,.int v.cols,.own b 0 (List.map eI v.cells).length]) (nb:=[(b,⟨1,dQ (List.map eI v.cells)⟩)]) hc h.1 (by rw[h.2.1];rfl) rfl h.2.2 (cK trivial (cK trivial (cK (cD.good _) AA))) hv) (by simp only[bF]) (Bz (nb':=[(b,⟨1,List.map (ow eI) v.cells⟩)]) (by simp only[jN]))
theorem cQ{d:Option Tmp}{ty:TypeId}{pos:String}{aft:Array Edge}{g:Option (Nat×Bool)}{s:AState}{f:FuncId}{xs:Array Operand}{ats:Array TypeId}{avs ds:List AV}{ns':List Nat}{b c:Nat}{v:Qv}(hc:HasC Tryz.prog f ds (.agg (eQ v)))(h:Hz s.ev xs.toList=some avs/\s.ns=b::c::ns'/\rC s.ns=true)(hv:All2 (viewA s.heap) avs ds):AEff Tryz.prog ⟨d,.call ⟨.value (.func f),xs,ats⟩,ty,pos,aft,g⟩ s.ev s.heap s.kp ⟨.agg [.int v.n,.own b 0 v.src.length,.own c 0 v.tgt.length],avs.flatMap (kT s.heap)++[].flatMap (mW s.heap),[(b,some ⟨1,List.map (ow eI) v.src⟩),(c,some ⟨1,List.map (ow eI) v.tgt⟩)],[b,c]⟩:=
 AEff.conv (pK (x:=.agg [.int v.n,.own b 0 (List.map eI v.src).length,.own c 0 (List.map eI v.tgt).length]) (nb:=[(b,⟨1,dQ (List.map eI v.src)⟩),(c,⟨1,dQ (List.map eI v.tgt)⟩)]) hc h.1 (by rw[h.2.1];rfl) rfl h.2.2 (cK trivial (cK (cD.good _) (cK (cD.good _) AA))) hv) (by simp only[bF]) (Bz (nb':=[(b,⟨1,List.map (ow eI) v.src⟩),(c,⟨1,List.map (ow eI) v.tgt⟩)]) (by simp only[jN]))
theorem cR{d:Option Tmp}{ty:TypeId}{pos:String}{aft:Array Edge}{g:Option (Nat×Bool)}{s:AState}{f:FuncId}{xs:Array Operand}{ats:Array TypeId}{avs ds:List AV}{ns':List Nat}{b c b3 b4:Nat}{v:Rp}(hc:HasC Tryz.prog f ds (.agg (eR v)))(h:Hz s.ev xs.toList=some avs/\s.ns=b::c::b3::b4::ns'/\rC s.ns=true)(hv:All2 (viewA s.heap) avs ds):AEff Tryz.prog ⟨d,.call ⟨.value (.func f),xs,ats⟩,ty,pos,aft,g⟩ s.ev s.heap s.kp ⟨.agg [.int v.p,.int v.q.n,.own b 0 v.q.src.length,.own c 0 v.q.tgt.length,.own b3 0 v.dims.length,.own b4 0 v.maps.length],avs.flatMap (kT s.heap)++[].flatMap (mW s.heap),[(b,some ⟨1,List.map (ow eI) v.q.src⟩),(c,some ⟨1,List.map (ow eI) v.q.tgt⟩),(b3,some ⟨1,List.map (ow eI) v.dims⟩),(b4,some ⟨3,List.map (ow eM) v.maps⟩)],[b,c,b3,b4]⟩:=
 AEff.conv (pK (x:=.agg [.int v.p,.int v.q.n,.own b 0 (List.map eI v.q.src).length,.own c 0 (List.map eI v.q.tgt).length,.own b3 0 (List.map eI v.dims).length,.own b4 0 (List.map eM v.maps).length]) (nb:=[(b,⟨1,dQ (List.map eI v.q.src)⟩),(c,⟨1,dQ (List.map eI v.q.tgt)⟩),(b3,⟨1,dQ (List.map eI v.dims)⟩),(b4,⟨3,dQ (List.map eM v.maps)⟩)]) hc h.1 (by rw[h.2.1];rfl) rfl h.2.2 (cK trivial (cK trivial (cK (cD.good _) (cK (cD.good _) (cK (cD.good _) (cK (dC.good _) AA)))))) hv) (by simp only[bF]) (Bz (nb':=[(b,⟨1,List.map (ow eI) v.q.src⟩),(c,⟨1,List.map (ow eI) v.q.tgt⟩),(b3,⟨1,List.map (ow eI) v.dims⟩),(b4,⟨3,List.map (ow eM) v.maps⟩)]) (by simp only[jN]))
theorem cRK{d:Option Tmp}{ty:TypeId}{pos:String}{aft:Array Edge}{g:Option (Nat×Bool)}{s:AState}{f:FuncId}{xs:Array Operand}{ats:Array TypeId}{avs ds:List AV}{ns':List Nat}{b c b3 b4:Nat}{v:Rp}(hc:HasC Tryz.prog f ds (.agg (eR v)))(h:Hz s.ev xs.toList=some avs/\s.ns=b::c::b3::b4::ns'/\rC s.ns=true)(hv:All2 (As s.kp s.heap) avs ds):AEff Tryz.prog ⟨d,.call ⟨.value (.func f),xs,ats⟩,ty,pos,aft,g⟩ s.ev s.heap s.kp ⟨.agg [.int v.p,.int v.q.n,.own b 0 v.q.src.length,.own c 0 v.q.tgt.length,.own b3 0 v.dims.length,.own b4 0 v.maps.length],avs.flatMap (kT s.heap),[(b,some ⟨1,List.map (ow eI) v.q.src⟩),(c,some ⟨1,List.map (ow eI) v.q.tgt⟩),(b3,some ⟨1,List.map (ow eI) v.dims⟩),(b4,some ⟨3,List.map (ow eM) v.maps⟩)],[b,c,b3,b4]⟩:=
 AEff.conv (PT (x:=.agg [.int v.p,.int v.q.n,.own b 0 (List.map eI v.q.src).length,.own c 0 (List.map eI v.q.tgt).length,.own b3 0 (List.map eI v.dims).length,.own b4 0 (List.map eM v.maps).length]) (nb:=[(b,⟨1,dQ (List.map eI v.q.src)⟩),(c,⟨1,dQ (List.map eI v.q.tgt)⟩),(b3,⟨1,dQ (List.map eI v.dims)⟩),(b4,⟨3,dQ (List.map eM v.maps)⟩)]) hc h.1 (by rw[h.2.1];rfl) rfl h.2.2 (cK trivial (cK trivial (cK (cD.good _) (cK (cD.good _) (cK (cD.good _) (cK (dC.good _) AA)))))) hv) (by simp only[bF]) (Bz (nb':=[(b,⟨1,List.map (ow eI) v.q.src⟩),(c,⟨1,List.map (ow eI) v.q.tgt⟩),(b3,⟨1,List.map (ow eI) v.dims⟩),(b4,⟨3,List.map (ow eM) v.maps⟩)]) (by simp only[jN]))
theorem cS{d:Option Tmp}{ty:TypeId}{pos:String}{aft:Array Edge}{g:Option (Nat×Bool)}{s:AState}{f:FuncId}{xs:Array Operand}{ats:Array TypeId}{avs ds:List AV}{ns':List Nat}{b:Nat}{v:Sc}(hc:HasC Tryz.prog f ds (.agg (eS v)))(h:Hz s.ev xs.toList=some avs/\s.ns=b::ns'/\rC s.ns=true)(hv:All2 (viewA s.heap) avs ds):AEff Tryz.prog ⟨d,.call ⟨.value (.func f),xs,ats⟩,ty,pos,aft,g⟩ s.ev s.heap s.kp ⟨.agg [.int v.size,.own b 0 v.basis.length],avs.flatMap (kT s.heap)++[].flatMap (mW s.heap),[(b,some ⟨1,List.map (ow (dB 1 eI)) v.basis⟩)],[b]⟩:=
 AEff.conv (pK (x:=.agg [.int v.size,.own b 0 (List.map (dB 1 eI) v.basis).length]) (nb:=[(b,⟨1,dQ (List.map (dB 1 eI) v.basis)⟩)]) hc h.1 (by rw[h.2.1];rfl) rfl h.2.2 (cK trivial (cK (fY.good _) AA)) hv) (by simp only[bF]) (Bz (nb':=[(b,⟨1,List.map (ow (dB 1 eI)) v.basis⟩)]) (by simp only[jN]))
def re1(σ:Nat->Option Nat):AV->AV
 | .own b i m=>match σ b with|some b0=>.own b0 i m|none=>.dead
 | .ptr b i j=>match σ b with|some b0=>.ptr b0 i j|none=>.dead
 |x=>x
def reA(σ:Nat->Option Nat):AV->AV
 | .agg cs=>.agg (cs.map (re1 σ))
 |x=>re1 σ x
def ok1(σ:Nat->Option Nat)(n:Nat):AV->Bool
 | .own b _ _=>(σ b).isSome &&Nat.blt b n
 | .ptr b _ _=>(σ b).isSome &&Nat.blt b n
 | .sc _=>true
 | .nil _=>true
 | .list _ _=>true
 | .ref _=>true
 |_=>false
def okA(σ:Nat->Option Nat)(n:Nat):AV->Bool
 | .agg cs=>cs.all (ok1 σ n)
 |x=>ok1 σ n x
def UZ(e:Nat->Option AV):List (Nat×AV)->List (Option AV)
 | []=>[]
 |(t,_)::r=>e t::UZ e r
def Ua(σ:Nat->Option Nat):List (Nat×AV)->List (Option AV)
 | []=>[]
 |(_,y)::r=>some (reA σ y)::Ua σ r
theorem GT{σ:Nat->Option Nat}{n:Nat}{y:AV}(h:ok1 σ n y=true):gR σ n (re1 σ y) y:=by
 cases y<;>simp only[ok1,gH]at h
 .rfl
 .trivial
 .exact⟨rfl,rfl⟩
 .rfl
 all_goals
  rename_i b i j
  simp only[cF]at h
  obtain⟨b0,hb⟩:=Option.isSome_iff_exists.1 h.1
  simp only[re1,hb]
  exact⟨hb,rfl,rfl,h.2⟩
theorem aDI{σ:Nat->Option Nat}{n:Nat}:∀{cs:List AV},cs.all (ok1 σ n)=true->All2 (gR σ n) (cs.map (re1 σ)) cs
 | [],_=>rfl
 |c::cs,h=>by
  simp only[List.all_cons,cF]at h;exact⟨c,cs,rfl,GT h.1,aDI h.2⟩
theorem aET{σ:Nat->Option Nat}{n:Nat}{y:AV}(h:okA σ n y=true):rB σ n (reA σ y) y:=by
 cases y with
 |agg cs=>exact aDI h
 |fn f cs=>simp[okA,ok1]at h
 |tuple cs=>simp[okA,ok1]at h
 |dead=>simp[okA,ok1]at h
 |abs q es=>simp[okA,ok1]at h
 |sc u=>exact GT (σ:=σ) (n:=n) (y:=.sc u) h
 |nil q=>exact GT (σ:=σ) (n:=n) (y:=.nil q) h
 |list q es=>exact GT (σ:=σ) (n:=n) (y:=.list q es) h
 |ref cs=>exact GT (σ:=σ) (n:=n) (y:=.ref cs) h
 |own b i m=>
  have:=GT (σ:=σ) (n:=n) (y:=.own b i m) h;simp only[reA];generalize re1 σ (.own b i m)=z at*;cases z<;>first|exact this|exact this.elim
 |ptr b i j=>
  have:=GT (σ:=σ) (n:=n) (y:=.ptr b i j) h;simp only[reA];generalize re1 σ (.ptr b i j)=z at*;cases z<;>first|exact this|exact this.elim
theorem aEU{σ:Nat->Option Nat}{n:Nat}{e:Nat->Option AV}:∀{tl:List (Nat×AV)},UZ e tl=Ua σ tl->(tl.all λp=>okA σ n p.2)=true->Gn σ n e tl
 | [],_,_=>trivial
 |(t,y)::r,h,q=>by
  simp only[UZ,Ua,List.cons.injEq]at h;simp only[List.all_cons,cF]at q;exact⟨⟨_,h.1,aET q.1⟩,aEU h.2 q.2⟩
theorem Ha{σ:Nat->Option Nat}{n:Nat}{e:Nat->Option AV}{tl:List (Nat×AV)}(h:UZ e tl=Ua σ tl/\(tl.all λp=>okA σ n p.2)=true):Gn σ n e tl:=aEU h.1 h.2
def Dz:List Nat:=[0,1,2,3,4,5,6,7,8,9,10,11,12,13,14,15,16,17,18,19]++[20,21,22,23,24,25,26,27,28,29,30,31,32,33,34,35,36,37,38,39]++([40,41,42,43,44,45,46,47,48,49,50,51,52,53,54,55,56,57,58,59]++([60,61,62,63,64,65,66,67,68,69,70,71,72,73,74,75,76,77,78,79]++[80,81,82,83,84,85,86,87,88,89,90,91,92,93,94,95,96,97,98,99]))
abbrev mN(e:List (Nat×AV))(h:List (Nat×Blk))(n:Nat)(kp:Kp:=0):AState:=Tx e h n (Dz.drop n) kp
def iSg:List (Nat×Blk)->Nat->Option Nat
 | [],_=>none
 |(q,_)::r,t=>bif Nat.beq t q then some t else iSg r t
def zSg:List (Nat×Blk)->List Nat->Nat->Option Nat
 |(q,_)::r,b::bs,t=>bif Nat.beq t q then some b else zSg r bs t
 |_,_,_=>none
theorem KZ{s:AState}{n:Nat}{kp:Kp}{tl:List (Nat×AV)}{hl:List (Nat×Blk)}(he:Gn (iSg hl) n s.env tl)(hh:oX (iSg hl) n s.heap hl)(p:EE (iSg hl) hl=true/\s.kp=kp/\LT (iSg hl) kp.n hl=true/\Nat.ble kp.n n=true):Ent s (mN tl hl n kp):=uN he hh p.1 p.2.1 p.2.2.1 p.2.2.2
theorem ntZ(bs:List Nat){s:AState}{n:Nat}{kp:Kp}{tl:List (Nat×AV)}{hl:List (Nat×Blk)}(he:Gn (zSg hl bs) n s.env tl)(hh:oX (zSg hl bs) n s.heap hl)(p:EE (zSg hl bs) hl=true/\s.kp=kp/\LT (zSg hl bs) kp.n hl=true/\Nat.ble kp.n n=true):Ent s (mN tl hl n kp):=uN he hh p.1 p.2.1 p.2.2.1 p.2.2.2
section
variable {σ:Nat->Option Nat}{n:Nat}
theorem Ub{e:Nat->Option AV}:∀{m:Nat}{tl:List (Nat×AV)},Gn σ n e (tl.take m)->Gn σ n e (tl.drop m)->Gn σ n e tl
 |0,_,_,h=>h
 |m+1,[],_,_=>trivial
 |m+1,(t,y)::r,h1,h2=>⟨h1.1,Ub h1.2 h2⟩
theorem Qe(m:Nat){e:Nat->Option AV}{tl:List (Nat×AV)}(h:UZ e (tl.take m)=Ua σ (tl.take m)/\((tl.take m).all λp=>okA σ n p.2)=true)(h2:Gn σ n e (tl.drop m)):Gn σ n e tl:=Ub (Ha h) h2
theorem JJ{e:Nat->Option AV}{t:Nat}{y:AV}{r:List (Nat×AV)}(h:∃x,e t=some x/\rB σ n x y)(h2:Gn σ n e r):Gn σ n e ((t,y)::r):=⟨h,h2⟩
variable {b b0 q:Nat}{h:Hp}{r:List (Nat×Blk)}
theorem qK{l:aA}(p:(σ b,h b0,Nat.blt b n)=(some b0,some ⟨1,List.map (ow eI) l⟩,true))(hr:oX σ n h r):oX σ n h ((b,⟨1,List.map (ow eI) l⟩)::r):=by
 obtain⟨p1,p⟩:=Prod.mk.inj p;obtain⟨p2,p3⟩:=Prod.mk.inj p;exact hB (cD.plainO _) p1 p2 p3 hr
theorem Cn{y:Blk}(p:(σ b,h b0,Nat.blt b n,y.es.all λcs=>cs.all yL)=(some b0,some y,true,true))(hr:oX σ n h r):oX σ n h ((b,y)::r):=by
 obtain⟨p1,p⟩:=Prod.mk.inj p;obtain⟨p2,p⟩:=Prod.mk.inj p;obtain⟨p3,p4⟩:=Prod.mk.inj p;exact hB (Zt p4) p1 p2 p3 hr
theorem Hr{y:Blk}(hp:Fc y.es)(p:(σ b,h b0,Nat.blt b n)=(some b0,some y,true))(hr:oX σ n h r):oX σ n h ((b,y)::r):=by
 obtain⟨p1,p⟩:=Prod.mk.inj p;obtain⟨p2,p3⟩:=Prod.mk.inj p;exact hB hp p1 p2 p3 hr
def reC(σ:Nat->Option Nat):AV->AV
 | .own b i m=>match σ b with|some b0=>.own b0 i m|none=>.dead
 | .ptr b i j=>match σ b with|some b0=>.ptr b0 i j|none=>.dead
 |x=>x
def okC(σ:Nat->Option Nat)(n:Nat):AV->Bool
 | .own b _ _=>(σ b).isSome &&Nat.blt b n
 | .ptr b _ _=>(σ b).isSome &&Nat.blt b n
 | .sc _=>true
 | .nil _=>true
 | .list _ _=>true
 | .abs _ _=>true
 | .ref _=>true
 |_=>false
theorem aEV{y:AV}(h:okC σ n y=true):oW σ n (reC σ y) y:=by
 cases y with
 |sc u=>exact GT (σ:=σ) (n:=n) (y:=.sc u) h
 |nil q=>exact GT (σ:=σ) (n:=n) (y:=.nil q) h
 |list q es=>exact GT (σ:=σ) (n:=n) (y:=.list q es) h
 |ref cs=>exact GT (σ:=σ) (n:=n) (y:=.ref cs) h
 |abs q es=>exact⟨rfl,rfl⟩
 |own b i m=>
  have:=GT (σ:=σ) (n:=n) (y:=.own b i m) h;show oW σ n (re1 σ (.own b i m)) _;generalize re1 σ (.own b i m)=z at*;cases z<;>first|exact this|exact this.elim
 |ptr b i j=>
  have:=GT (σ:=σ) (n:=n) (y:=.ptr b i j) h;show oW σ n (re1 σ (.ptr b i j)) _;generalize re1 σ (.ptr b i j)=z at*;cases z<;>first|exact this|exact this.elim
 |agg cs=>simp[okC]at h
 |fn f cs=>simp[okC]at h
 |tuple cs=>simp[okC]at h
 |dead=>simp[okC]at h
theorem aAP:∀{cs:List AV},cs.all (okC σ n)=true->All2 (oW σ n) (cs.map (reC σ)) cs
 | [],_=>rfl
 |c::cs,h=>by
  simp only[List.all_cons,cF]at h;exact⟨c,cs,rfl,aEV h.1,aAP h.2⟩
theorem aAQ:∀{es:List (List AV)},(es.all λcs=>cs.all (okC σ n))=true->All2 (All2 (oW σ n)) (es.map (List.map (reC σ))) es
 | [],_=>rfl
 |c::cs,h=>by
  simp only[List.all_cons,cF]at h;exact⟨c,cs,rfl,aAP h.1,aAQ h.2⟩
theorem JK{es:List (List AV)}(p:(σ b,h b0,Nat.blt b n,es.all λcs=>cs.all (okC σ n))=(some b0,some ⟨q,es.map (List.map (reC σ))⟩,true,true))(hr:oX σ n h r):oX σ n h ((b,⟨q,es⟩)::r):=by
 obtain⟨p1,p⟩:=Prod.mk.inj p;obtain⟨p2,p⟩:=Prod.mk.inj p;obtain⟨p3,p4⟩:=Prod.mk.inj p;refine hX ?_ p3 hr;rw[p1];exact⟨_,p2,rfl,.inr (aAQ p4)⟩
end
theorem cG{α:Type}{c:Bool}{A:Option α}{r:α}{p:Prop}(h:cond c A none=some r)(f:c=true->A=some r->p):p:=f (cg h).1 (cg h).2
section
variable {h:Hp}{x:AV}{xs ds:List AV}
theorem fE(q:eV x=true)(b:All2 (viewA h) xs ds):All2 (viewA h) (x::xs) (x::ds):=aO (Iw q) b
theorem vcP{cs:List AV}(q:cs.all eV=true)(b:All2 (viewA h) xs ds):All2 (viewA h) (.agg cs::xs) (.agg cs::ds):=aO (kB q) b
theorem vcT{b m:Nat}{l:aA}(hb:h b=some ⟨1,List.map (ow eI) l⟩)(hn:l.length=m)(q:All2 (viewA h) xs ds):All2 (viewA h) (.own b 0 m::xs) (.list 1 (List.map eI l)::ds):=aO (EJ cD hb hn) q
end
theorem cT{d:Option Tmp}{ty:TypeId}{pos:String}{aft:Array Edge}{g:Option (Nat×Bool)}{s:AState}{f:FuncId}{xs:Array Operand}{ats:Array TypeId}{avs ds:List AV}{ns':List Nat}{α:Type}{e:α->List AV}{q b:Nat}{l:List α}{z:Bool}{c0:Nat}(ok:EOk q e)(hc:HasC Tryz.prog f ds (.tuple [.list q (List.map e l),.bl z]))(h:Hz s.ev xs.toList=some avs/\s.ns=b::c0::ns'/\rC s.ns=true)(hv:All2 (viewA s.heap) avs ds):AEff Tryz.prog ⟨d,.call ⟨.value (.func f),xs,ats⟩,ty,pos,aft,g⟩ s.ev s.heap s.kp ⟨.tuple [.own b 0 l.length,.bl z],avs.flatMap (kT s.heap)++[].flatMap (mW s.heap),[(b,some ⟨q,List.map (ow e) l⟩)],[b]⟩:=
 AEff.conv (pK (x:=.tuple [.own b 0 (List.map e l).length,.bl z]) (nb:=[(b,⟨q,dQ (List.map e l)⟩)]) hc h.1 (by rw[h.2.1];rfl) rfl h.2.2 (hZ (ok.good _) (hZ trivial DP)) hv) (by simp only[bF]) (Bz (nb':=[(b,⟨q,List.map (ow e) l⟩)]) (by simp only[jN]))
section
variable {h:Hp}{κ:Kp}
theorem vaR{b1 b2 b3 b4 m1 m2 m3 m4:Nat}{v:Rp}(p:h b1=some ⟨1,List.map (ow eI) v.q.src⟩/\v.q.src.length=m1/\h b2=some ⟨1,List.map (ow eI) v.q.tgt⟩/\v.q.tgt.length=m2/\h b3=some ⟨1,List.map (ow eI) v.dims⟩/\v.dims.length=m3/\h b4=some ⟨3,List.map (ow eM) v.maps⟩/\v.maps.length=m4):viewA h (.agg [.int v.p,.int v.q.n,.own b1 0 m1,.own b2 0 m2,.own b3 0 m3,.own b4 0 m4]) (.agg (eR v)):=
 Ix (hJ (mX rfl) (hJ (mX rfl) (hJ (qC cD p.1 p.2.1) (hJ (qC cD p.2.2.1 p.2.2.2.1) (hJ (qC cD p.2.2.2.2.1 p.2.2.2.2.2.1) (hJ (qC dC p.2.2.2.2.2.2.1 p.2.2.2.2.2.2.2) Ei))))))
theorem Uc{b m:Nat}{v:Mt}(p:h b=some ⟨1,List.map (ow eI) v.cells⟩/\v.cells.length=m):viewA h (.agg [.int v.rows,.int v.cols,.own b 0 m]) (.agg (eM v)):=Ix (hJ (mX rfl) (hJ (mX rfl) (hJ (qC cD p.1 p.2) Ei)))
theorem vaC{b m:Nat}{v:Sc}(p:h b=some ⟨1,List.map (ow (dB 1 eI)) v.basis⟩/\v.basis.length=m):viewA h (.agg [.int v.size,.own b 0 m]) (.agg (eS v)):=Ix (hJ (mX rfl) (hJ (qC fY p.1 p.2) Ei))
theorem vaQ{b1 b2 m1 m2:Nat}{v:Qv}(p:h b1=some ⟨1,List.map (ow eI) v.src⟩/\v.src.length=m1/\h b2=some ⟨1,List.map (ow eI) v.tgt⟩/\v.tgt.length=m2):viewA h (.agg [.int v.n,.own b1 0 m1,.own b2 0 m2]) (.agg (eQ v)):=Ix (hJ (mX rfl) (hJ (qC cD p.1 p.2.1) (hJ (qC cD p.2.2.1 p.2.2.2) Ei)))
theorem vrR{W:World}{a:Rp}{w2 w3 w4 w5:Value}{S2 S3 S4 S5:List Nat}(hf:κ.fx=HZ W)(r2:RepD W (.list 1 (List.map eI a.q.src)) w2 S2)(r3:RepD W (.list 1 (List.map eI a.q.tgt)) w3 S3)(r4:RepD W (.list 1 (List.map eI a.dims)) w4 S4)(r5:RepD W (.list 3 (List.map eM a.maps)) w5 S5):As κ h (.agg [.int a.p,.int a.q.n,.sc w2,.sc w3,.sc w4,.sc w5]) (.agg (eR a)):=
 .inr (pL (JG hf rfl) (pL (JG hf rfl) (pL (Fw hf r2) (pL (Fw hf r3) (pL (Fw hf r4) (pL (Fw hf r5) OZ))))))
variable {x:AV}{xs ds:List AV}
theorem wkS(q:eV x=true)(b:All2 (As κ h) xs ds):All2 (As κ h) (x::xs) (x::ds):=Au (.inl (Iw q)) b
theorem wkT{b m:Nat}{l:aA}(hb:h b=some ⟨1,List.map (ow eI) l⟩)(hn:l.length=m)(q:All2 (As κ h) xs ds):All2 (As κ h) (.own b 0 m::xs) (.list 1 (List.map eI l)::ds):=Au (.inl (EJ cD hb hn)) q
theorem wkD{W:World}{k:Nat}{es:List (List AV)}{v:Value}{S:List Nat}(hf:κ.fx=HZ W)(r:RepD W (.list k es) v S)(q:All2 (As κ h) xs ds):All2 (As κ h) (.sc v::xs) (.list k es::ds):=Au (.inr (aDG hf r)) q
end
section
variable {dst:Option Tmp}{ty:TypeId}{pos:String}{aft:Array Edge}{g:Option (Nat×Bool)}{s:AState}
theorem wl{t e:TypeId}{n:Nat}{parts:Array (Nat×Operand)}{y ye:Ty}{ps:List (Nat×List AV)}{cs:List AV}{b:Nat}
  (h:(s.ns.head?,cX TT t,y.desc,cX TT e,ye.zero.length,Nat.ble (n*ye.size) 16777216,Nat.ble n 16777216,Ck s.ev parts.toList,GJ (λi=>some (i*ye.size,ye.size)) (List.replicate n ye.zero).flatten ps,(ps.all λp=>p.2.all (okCell s.heap)),cs.all (okCell s.heap),(ps.flatMap (λp=>dF p.2)++dF cs).contains b)=(some b,some y,.slice e,some ye,ye.size,true,true,some ps,some cs,true,true,false)):
  AEff Tryz.prog ⟨dst,.buildSlice t n parts,ty,pos,aft,g⟩ s.ev s.heap s.kp ⟨.own b 0 n,ps.flatMap (λp=>dF p.2)++dF cs,[(b,some ⟨ye.size,IB ye.size n cs⟩)],[b]⟩:=by
 simp only[Prod.mk.injEq]at h;obtain⟨h1,h2,h3,h4,h5,h6,h7,h8,h9,h10,h11,h12⟩:=h;exact aEO aJ h1 h2 h3 h4 h5 h6 h7 h8 h9 h10 h11 h12
theorem ws{t:TypeId}{y:Ty}{x z:Operand}{val:AV}{b i j kk:Nat}{ees:List (List AV)}{cs:List AV}
  (h:(s.ev x,s.heap b,s.ev z,cX TT t,Nat.beq (dA val).length y.size,(dA val).all (okCell s.heap),ees[i]?,Nat.ble (j+y.size) cs.length)=(some (.ptr b i j),some ⟨kk,ees⟩,some val,some y,true,true,some cs,true)):
  AEff Tryz.prog ⟨dst,.store t x z,ty,pos,aft,g⟩ s.ev s.heap s.kp ⟨.dead,b::dF (dA val),[(b,some ⟨kk,ees.set i (Fv cs j (dA val))⟩)],[]⟩:=by
 simp only[Prod.mk.injEq]at h;obtain⟨h1,h2,h3,h4,h5,h6,h7,h8⟩:=h;exact Gs aJ h1 h2 h3 h4 h5 h6 h7 h8
theorem wb{t:TypeId}{x:Operand}{v:AV}{b:Nat}(h:(s.ns.head?,s.ev x,(dA v).all (okCell s.heap),(dF (dA v)).contains b)=(some b,some v,true,false)):
  AEff Tryz.prog ⟨dst,.box t x,ty,pos,aft,g⟩ s.ev s.heap s.kp ⟨.ptr b 0 0,dF (dA v),[(b,some ⟨(dA v).length,[dA v]⟩)],[b]⟩:=by
 simp only[Prod.mk.injEq]at h;obtain⟨h1,h2,h3,h4⟩:=h;exact aDC h1 h2 h3 h4
theorem xl{α:Type}{k:Nat}{e:α->List AV}{x ix:Operand}{t et:Nat}{y ye:Ty}{l:List α}{kk:IntKind}{i:Int}{v:α}(hm:bP l i=some v)
  (h:(s.ev x,s.ev ix,cX TT t,y.desc,cX TT et,ye.size)=(some (.list k (l.map e)),some (.sc (.int kk i)),some y,.slice et,some ye,k)):
  AEff Tryz.prog ⟨dst,.indexAddr t x ix,ty,pos,aft,g⟩ s.ev s.heap s.kp ⟨.ref (e v),[],[],[]⟩:=by
 simp only[Prod.mk.injEq]at h;obtain⟨h1,h2,h3,h4,h5,h6⟩:=h;exact YX aJ hm h1 h2 h3 h4 h5 h6
theorem xo{α:Type}{l:List α}{v:α}{x ix:Operand}{t et:Nat}{y ye:Ty}{b kz:Nat}{es:List (List AV)}{kk:IntKind}{i:Int}(hm:bP l i=some v)
  (h:(s.ev x,s.heap b,s.ev ix,cX TT t,y.desc,cX TT et,ye.size)=(some (.own b 0 l.length),some ⟨kz,es⟩,some (.sc (.int kk i)),some y,.slice et,some ye,kz)):
  AEff Tryz.prog ⟨dst,.indexAddr t x ix,ty,pos,aft,g⟩ s.ev s.heap s.kp ⟨.ptr b i.toNat 0,[b],[],[]⟩:=by
 simp only[Prod.mk.injEq]at h;obtain⟨h1,h2,h3,h4,h5,h6,h7⟩:=h;exact Eo aJ (PB hm) (oY hm) h1 h2 h3 h4 h5 h6 h7
theorem wp{α:Type}{e:α->List AV}{l:List α}{u:α}{x:Operand}{t:Nat}{y:Ty}{b j k:Nat}{i:Int}{v:AV}(hm:bP l i=some u)
  (h:(s.ev x,s.heap b,cX TT t,(y.desc.isAgg||Nat.beq y.size 1),Nat.ble (j+y.size) (e u).length,Am y.desc.isAgg ((((e u).drop j).take y.size).map GI))=(some (.ptr b i.toNat j),some ⟨k,l.map e⟩,some y,true,true,v)):
  AEff Tryz.prog ⟨dst,.load t x,ty,pos,aft,g⟩ s.ev s.heap s.kp ⟨v,[b],[],[]⟩:=by
 simp only[Prod.mk.injEq]at h;obtain⟨h1,h2,h3,h4,h5,h6⟩:=h;exact dV aJ h1 h2 h3 h4 (wA (cJ hm)) h5 h6
end
theorem hM{f:FuncId}{fn:Func}{c:Code}{nt:Nat}{ds:List AV}{r:AV}(rvs:List ResultVar)(hf:Tryz.prog.funcs[f]? =some fn)(hnt:fn.ntmps=nt)(h':(fn.body,(fn.name== "runtime.NumGoroutine"),fn.results.toList,Nat.ble ds.length nt,ds.all yO)=(some c,false,rvs,true,true))(h:AC Tryz.prog nt c (s0 ds Dz) (Qi TT rvs r)):HasC Tryz.prog f ds r:=by
 simp only[Prod.mk.injEq]at h';exact Cm aJ hf h'.1 h'.2.1 hnt h'.2.2.1 h'.2.2.2.1 h'.2.2.2.2 h
@[elab_as_elim] theorem sp {α:Type} {a:α} {P:α->Prop} {o:α} (h:some a=some o) (p:P a):P o:=so h▸p
theorem iR{α:Type}{t:Bool}{A B:Option α}{r:α}{G:Prop}(h:cond t A B=some r)(p:t=true->A=some r->G)(q:t=false->B=some r->G):G:=by
 rcases cb h with ⟨e,h⟩|⟨e,h⟩
 .exact p e h
 .exact q e h
theorem cH{P:Program}{nt:Nat}{Q:Exit->AState->Prop}{s:AState}{c:Operand}{x y:Code}{α:Type}{t:Bool}{A B:Option α}{r:α}(hc:s.ev c=some (.sc (.bool t)))(h:cond t A B=some r)(p:t=true->A=some r->AC P nt x s Q)(q:t=false->B=some r->AC P nt y s Q):AC P nt (.cond c x y) s Q:=iR h (λe h=>kO hc e (p e h)) λe h=>nR hc e (q e h)
theorem lZ{p q:Prop}(a:p)(b:q):p/\q:=⟨a,b⟩
def LJ(v:Mt)(a:Nat):List AV:=[.int v.rows,.int v.cols,.own a 0 v.cells.length]
def oQv(v:Qv)(a b:Nat):List AV:=[.int v.n,.own a 0 v.src.length,.own b 0 v.tgt.length]
def gD:List AV:=[.int 0,.int 0,.nil 1]
def jY:List AV:=[.int 0,.int 0,.nil 1,.nil 1,.nil 1,.nil 3]
end
end Go.Proofs.YtpckeblbjdbleaaGreat

/- Several texts. -/
import Derived.Test.YtppgeohlmkgpbaaGreatProg
import Derived.Test.YtppgeohlmkgpbaaGreatM3
set_option linter.unusedVariables false
set_option linter.unusedSimpArgs false
namespace Go.Proofs.YtppgeohlmkgpbaaGreat
open Go.RowKit
section
def TT:List (Nat×Ty):=[
 (1,⟨.sc,1,8,[.sc .nilFunc]⟩),
 (2,⟨.sc,1,8,[.sc (.int .i64 0)]⟩),
 (3,⟨.sc,1,8,[.sc (.int .i64 0)]⟩),
 (4,⟨.sc,1,1,[.sc (.bool false)]⟩),
 (5,⟨.sc,1,1,[.sc (.int .u8 0)]⟩),
 (6,⟨.sc,1,1,[.sc (.int .u8 0)]⟩),
 (7,⟨.struct [(0,2),(1,3),(2,4),(3,6)],4,24,[.sc (.int .i64 0),.sc (.int .i64 0),.sc (.bool false),.sc (.int .u8 0)]⟩),
 (8,⟨.struct [(0,2),(1,3),(2,4),(3,6)],4,24,[.sc (.int .i64 0),.sc (.int .i64 0),.sc (.bool false),.sc (.int .u8 0)]⟩),
 (9,⟨.sc,1,16,[.sc (.string ⟨#[]⟩)]⟩),
 (10,⟨.sc,1,16,[.sc (.string ⟨#[]⟩)]⟩),
 (11,⟨.sc,1,16,[.sc (.string ⟨#[]⟩)]⟩),
 (12,⟨.sc,1,8,[.sc (.int .u64 0)]⟩),
 (13,⟨.struct [(0,9),(1,12)],2,24,[.sc (.string ⟨#[]⟩),.sc (.int .u64 0)]⟩),
 (14,⟨.struct [(0,9),(1,12)],2,24,[.sc (.string ⟨#[]⟩),.sc (.int .u64 0)]⟩),
 (21,⟨.sc,1,4,[.sc (.int .i32 0)]⟩),
 (22,⟨.slice 5,1,24,[.nil 1]⟩),
 (23,⟨.sc,1,8,[.sc .nilFunc]⟩),
 (24,⟨.slice 3,1,24,[.nil 1]⟩),
 (25,⟨.struct [(0,3),(1,24),(2,24)],3,56,[.sc (.int .i64 0),.nil 1,.nil 1]⟩),
 (26,⟨.struct [(0,3),(1,24),(2,24)],3,56,[.sc (.int .i64 0),.nil 1,.nil 1]⟩),
 (27,⟨.slice 70,1,24,[.nil 3]⟩),
 (28,⟨.struct [(0,3),(1,26),(4,24),(5,27)],6,112,[.sc (.int .i64 0),.sc (.int .i64 0),.nil 1,.nil 1,.nil 1,.nil 3]⟩),
 (29,⟨.struct [(0,3),(1,26),(4,24),(5,27)],6,112,[.sc (.int .i64 0),.sc (.int .i64 0),.nil 1,.nil 1,.nil 1,.nil 3]⟩),
 (31,⟨.sc,1,8,[.sc .nilFunc]⟩),
 (32,⟨.sc,1,8,[.sc .nilFunc]⟩),
 (33,⟨.sc,1,8,[.sc .nilFunc]⟩),
 (34,⟨.slice 24,1,24,[.nil 1]⟩),
 (36,⟨.sc,1,8,[.sc .nilFunc]⟩),
 (37,⟨.sc,1,8,[.sc .nilFunc]⟩),
 (38,⟨.sc,1,8,[.sc .nilFunc]⟩),
 (39,⟨.sc,1,8,[.sc .nilFunc]⟩),
 (40,⟨.slice 67,1,24,[.nil 2]⟩),
 (42,⟨.sc,1,8,[.sc .nilFunc]⟩),
 (43,⟨.sc,1,8,[.sc .nilFunc]⟩),
 (45,⟨.sc,1,8,[.sc .nilFunc]⟩),
 (47,⟨.sc,1,8,[.sc .nilFunc]⟩),
 (49,⟨.sc,1,8,[.sc .nilFunc]⟩),
 (50,⟨.sc,1,8,[.sc .nilFunc]⟩),
 (51,⟨.sc,1,8,[.sc .nilFunc]⟩),
 (52,⟨.slice 40,1,24,[.nil 1]⟩),
 (53,⟨.sc,1,8,[.sc .nilFunc]⟩),
 (54,⟨.sc,1,8,[.sc .nilFunc]⟩),
 (55,⟨.sc,1,8,[.sc .nilFunc]⟩),
 (56,⟨.sc,1,8,[.sc .nilFunc]⟩),
 (58,⟨.sc,1,8,[.sc .nilFunc]⟩),
 (59,⟨.sc,1,8,[.sc .nilFunc]⟩),
 (60,⟨.sc,1,8,[.sc .nilFunc]⟩),
 (61,⟨.sc,1,8,[.sc .nilFunc]⟩),
 (62,⟨.sc,1,8,[.sc .nilFunc]⟩),
 (64,⟨.sc,1,8,[.sc .nilFunc]⟩),
 (65,⟨.sc,1,8,[.sc .nilFunc]⟩),
 (66,⟨.struct [(0,3),(1,34)],2,32,[.sc (.int .i64 0),.nil 1]⟩),
 (67,⟨.struct [(0,3),(1,34)],2,32,[.sc (.int .i64 0),.nil 1]⟩),
 (68,⟨.sc,1,8,[.sc .nilFunc]⟩),
 (69,⟨.struct [(0,3),(1,3),(2,24)],3,40,[.sc (.int .i64 0),.sc (.int .i64 0),.nil 1]⟩),
 (70,⟨.struct [(0,3),(1,3),(2,24)],3,40,[.sc (.int .i64 0),.sc (.int .i64 0),.nil 1]⟩),
 (71,⟨.sc,1,8,[.sc .nilFunc]⟩),
 (72,⟨.sc,1,8,[.sc .nilFunc]⟩),
 (73,⟨.sc,1,8,[.sc .nilFunc]⟩),
 (74,⟨.sc,1,8,[.sc .nilFunc]⟩),
 (75,⟨.sc,1,8,[.sc .nilFunc]⟩),
 (77,⟨.sc,1,8,[.sc .nilFunc]⟩),
 (78,⟨.sc,1,8,[.sc .nilFunc]⟩),
 (79,⟨.sc,1,8,[.sc .nilFunc]⟩),
 (80,⟨.sc,1,8,[.sc .nilFunc]⟩),
 (81,⟨.sc,1,8,[.sc .nilFunc]⟩),
 (82,⟨.sc,1,8,[.sc .nilFunc]⟩),
 (83,⟨.sc,1,8,[.sc .nilFunc]⟩),
 (84,⟨.sc,1,8,[.sc .nilFunc]⟩),
 (85,⟨.sc,1,8,[.sc .nilFunc]⟩),
 (86,⟨.sc,1,8,[.sc .nilFunc]⟩),
 (87,⟨.sc,1,8,[.sc .nilFunc]⟩),
 (88,⟨.sc,1,8,[.sc .nilFunc]⟩),
 (89,⟨.sc,1,8,[.sc .nilFunc]⟩),
 (90,⟨.sc,1,8,[.sc .nilFunc]⟩),
 (91,⟨.sc,1,8,[.sc .nilFunc]⟩),
 (92,⟨.slice 27,1,24,[.nil 1]⟩),
 (93,⟨.sc,1,8,[.sc .nilFunc]⟩),
 (95,⟨.sc,1,8,[.sc .nilFunc]⟩),
 (96,⟨.sc,1,8,[.sc .nilFunc]⟩),
 (97,⟨.sc,1,8,[.sc .nilFunc]⟩),
 (98,⟨.sc,1,8,[.sc .nilFunc]⟩),
 (99,⟨.sc,1,8,[.sc .nilFunc]⟩),
 (100,⟨.sc,1,8,[.sc .nilFunc]⟩),
 (101,⟨.sc,1,8,[.sc .nilFunc]⟩),
 (103,⟨.sc,1,8,[.sc .nilFunc]⟩),
 (104,⟨.sc,1,8,[.sc .nilFunc]⟩),
 (106,⟨.sc,1,8,[.sc .nilFunc]⟩),
 (107,⟨.sc,1,8,[.sc .nilFunc]⟩),
 (108,⟨.sc,1,8,[.sc .nilFunc]⟩),
 (109,⟨.sc,1,8,[.sc .nilFunc]⟩),
 (110,⟨.struct [(0,22),(1,3),(2,3)],3,40,[.nil 1,.sc (.int .i64 0),.sc (.int .i64 0)]⟩),
 (111,⟨.struct [(0,22),(1,3),(2,3)],3,40,[.nil 1,.sc (.int .i64 0),.sc (.int .i64 0)]⟩),
 (112,⟨.sc,1,8,[.sc .nilFunc]⟩),
 (114,⟨.sc,1,8,[.sc .nilFunc]⟩),
 (115,⟨.sc,1,8,[.sc .nilFunc]⟩),
 (116,⟨.slice 9,1,24,[.nil 1]⟩),
 (117,⟨.sc,1,8,[.sc .nilFunc]⟩),
 (118,⟨.sc,1,8,[.sc .nilFunc]⟩),
 (119,⟨.sc,1,8,[.sc .nilFunc]⟩),
 (120,⟨.sc,1,8,[.sc .nilFunc]⟩),
 (121,⟨.sc,1,8,[.sc .nilFunc]⟩),
 (122,⟨.sc,1,8,[.sc .nilFunc]⟩),
 (123,⟨.sc,1,8,[.sc .nilFunc]⟩),
 (124,⟨.sc,1,8,[.sc .nilFunc]⟩),
 (125,⟨.sc,1,8,[.sc .nilFunc]⟩),
 (126,⟨.sc,1,8,[.sc .nilFunc]⟩),
 (127,⟨.sc,1,8,[.sc .nilFunc]⟩),
 (128,⟨.sc,1,8,[.sc .nilFunc]⟩),
 (129,⟨.sc,1,8,[.sc .nilFunc]⟩),
 (130,⟨.sc,1,8,[.sc .nilFunc]⟩),
 (131,⟨.sc,1,8,[.sc .nilFunc]⟩),
 (132,⟨.sc,1,8,[.sc .nilFunc]⟩),
 (133,⟨.sc,1,8,[.sc .nilFunc]⟩),
 (134,⟨.sc,1,8,[.sc .nilFunc]⟩),
 (135,⟨.sc,1,8,[.sc .nilFunc]⟩),
 (136,⟨.sc,1,8,[.sc .nilFunc]⟩),
 (137,⟨.sc,1,8,[.sc .nilFunc]⟩),
 (138,⟨.sc,1,8,[.sc .nilFunc]⟩),
 (139,⟨.sc,1,8,[.sc .nilFunc]⟩),
 (140,⟨.sc,1,8,[.sc .nilFunc]⟩),
 (142,⟨.sc,1,8,[.sc .nilFunc]⟩),
 (143,⟨.sc,1,8,[.sc .nilFunc]⟩),
 (144,⟨.sc,1,8,[.sc .nilFunc]⟩),
 (145,⟨.sc,1,8,[.sc .nilFunc]⟩),
 (146,⟨.sc,1,8,[.sc .nilFunc]⟩),
 (147,⟨.sc,1,8,[.sc .nilFunc]⟩),
 (148,⟨.slice 149,1,24,[.nil 2]⟩),
 (149,⟨.array 2 3,2,16,[.sc (.int .i64 0),.sc (.int .i64 0)]⟩),
 (150,⟨.sc,1,8,[.sc .nilFunc]⟩),
 (151,⟨.sc,1,8,[.sc .nilFunc]⟩),
 (152,⟨.sc,1,8,[.sc .nilFunc]⟩),
 (153,⟨.sc,1,8,[.sc .nilFunc]⟩),
 (154,⟨.sc,1,8,[.sc .nilFunc]⟩),
 (155,⟨.sc,1,8,[.sc .nilFunc]⟩),
 (157,⟨.sc,1,8,[.sc .nilFunc]⟩),
 (158,⟨.sc,1,8,[.sc .nilFunc]⟩),
 (159,⟨.sc,1,8,[.sc .nilFunc]⟩),
 (160,⟨.sc,1,8,[.sc .nilFunc]⟩),
 (161,⟨.sc,1,8,[.sc .nilFunc]⟩),
 (162,⟨.sc,1,8,[.sc .nilFunc]⟩),
 (163,⟨.sc,1,8,[.sc .nilFunc]⟩),
 (164,⟨.sc,1,8,[.sc .nilFunc]⟩),
 (165,⟨.sc,1,8,[.sc .nilFunc]⟩),
 (166,⟨.sc,1,8,[.sc (.int .u64 0)]⟩),
 (167,⟨.sc,1,8,[.sc .nilFunc]⟩),
 (168,⟨.sc,1,8,[.sc .nilFunc]⟩),
 (170,⟨.sc,1,8,[.sc .nilFunc]⟩),
 (171,⟨.sc,1,8,[.sc .nilFunc]⟩),
 (172,⟨.sc,1,8,[.sc .nilFunc]⟩),
 (173,⟨.sc,1,8,[.sc .nilFunc]⟩),
 (174,⟨.sc,1,8,[.sc .nilFunc]⟩),
 (175,⟨.sc,1,8,[.sc .nilFunc]⟩),
 (176,⟨.sc,1,8,[.sc .nilFunc]⟩),
 (177,⟨.sc,1,8,[.sc .nilFunc]⟩),
 (178,⟨.sc,1,8,[.sc .nilFunc]⟩),
 (179,⟨.sc,1,4,[.sc (.int .u32 0)]⟩),
 (181,⟨.sc,1,8,[.sc .nilFunc]⟩),
 (182,⟨.sc,1,8,[.sc (.int .u64 0)]⟩),
 (184,⟨.sc,1,8,[.sc .nilFunc]⟩),
 (185,⟨.sc,1,8,[.sc .nilFunc]⟩),
 (186,⟨.sc,1,8,[.sc (.int .i64 0)]⟩),
 (188,⟨.sc,1,8,[.sc .nilFunc]⟩),
 (189,⟨.sc,1,8,[.sc .nilFunc]⟩),
 (190,⟨.sc,1,8,[.sc .nilFunc]⟩),
 (192,⟨.sc,1,8,[.sc .nilFunc]⟩),
 (193,⟨.sc,1,8,[.sc .nilFunc]⟩),
 (194,⟨.sc,1,8,[.sc .nilFunc]⟩),
 (195,⟨.sc,1,8,[.sc .nilFunc]⟩),
 (196,⟨.sc,1,8,[.sc .nilFunc]⟩),
 (197,⟨.sc,1,8,[.sc (.int .u64 0)]⟩),
 (198,⟨.sc,1,8,[.sc .nilFunc]⟩),
 (199,⟨.sc,1,8,[.sc .nilFunc]⟩),
 (200,⟨.sc,1,8,[.sc .nilFunc]⟩),
 (202,⟨.sc,1,8,[.sc .nilFunc]⟩),
 (203,⟨.sc,1,8,[.sc .nilFunc]⟩),
 (206,⟨.sc,1,8,[.sc .nilFunc]⟩),
 (207,⟨.sc,1,8,[.sc .nilFunc]⟩),
 (213,⟨.sc,1,8,[.sc .nilFunc]⟩),
 (214,⟨.sc,1,1,[.sc (.int .u8 0)]⟩),
 (215,⟨.sc,1,1,[.sc (.int .u8 0)]⟩),
 (216,⟨.sc,1,8,[.sc .nilFunc]⟩),
 (218,⟨.sc,1,4,[.sc (.int .i32 0)]⟩),
 (219,⟨.sc,1,4,[.sc (.int .i32 0)]⟩),
 (222,⟨.sc,1,8,[.sc .nilFunc]⟩),
 (223,⟨.sc,1,8,[.sc .nilFunc]⟩)]
set_option maxRecDepth 100000 in
theorem aL:TyOk Tryz.prog TT:=Yf (by kernel_rfl)
end
noncomputable section
theorem ob{α β:Type}{o:Option α}{k:α->Option β}{r:β}(h:o.bind k=some r):∃a,o=some a/\k a=some r:=by
 cases o with
 |none=>cases h
 |some a=>exact⟨a,rfl,h⟩
theorem cb{α:Type}{c:Bool}{A B:Option α}{r:α}(h:cond c A B=some r):(c=true/\A=some r)∨(c=false/\B=some r):=by
 cases c
 .exact .inr ⟨rfl,h⟩
 .exact .inl ⟨rfl,h⟩
theorem cg{α:Type}{c:Bool}{A:Option α}{r:α}(h:cond c A none=some r):c=true/\A=some r:=by
 cases c
 .cases h
 .exact⟨rfl,h⟩
theorem so{α:Type}{x r:α}(h:some x=some r):x=r:=Option.some.inj h
def cF{α:Type}(l:List α)(i:Int):Option α:=bif decide (0<=i)then l[i.toNat]? else none
theorem dH{α:Type}{l:List α}{i:Int}{v:α}(h:cF l i=some v):l[i.toNat]? =some v:=(cg h).2
theorem QD{α:Type}{l:List α}{i:Int}{v:α}(h:cF l i=some v):0<=i:=of_decide_eq_true (cg h).1
theorem qW{α:Type}{l:List α}{i:Int}{v:α}(h:cF l i=some v):i.toNat<l.length:=by
 rcases dX i.toNat l.length with h'|h'
 .exact h'
 .have:=dH h;rw[jX h']at this;cases this
theorem aEJ{α β:Type}{f:α->β}{l:List α}{i:Int}{v:α}(h:cF l i=some v):(l.map f)[i.toNat]? =some (f v):=by rw[List.getElem?_map,dH h];rfl
theorem gS{α:Type}{l:List α}{n:Nat}(h:n<l.length):cF l (n:Int)=some l[n]:=by simp[cF,h]
def wr(x:Int):Int:=IntKind.i64.wrap x
theorem VP{x:Int}(h: -9223372036854775808<=x/\x<=9223372036854775807):wr x=x:=by unfold wr;rw[IntKind.wrap_i64];omega
def LpN{σ ρ:Type}(body:σ->Option (σ ⊕ ρ)):Nat->σ->ρ->Prop
 |0,s,r=>body s=some (.inr r)
 |n+1,s,r=>∃s',body s=some (.inl s')/\LpN body n s' r
theorem LpN.det{σ ρ:Type}{body:σ->Option (σ ⊕ ρ)}:∀{n m:Nat}{s:σ}{r r':ρ},LpN body n s r->LpN body m s r'->r=r'
 |0,0,s,r,r',h,k=>by rw[LpN]at h k;rw[h]at k;cases k;rfl
 |0,m+1,s,r,r',h,⟨s',k,_⟩=>by rw[LpN]at h;rw[h]at k;cases k
 |n+1,0,s,r,r',⟨s',h,_⟩,k=>by rw[LpN]at k;rw[h]at k;cases k
 |n+1,m+1,s,r,r',⟨s',h,h2⟩,⟨s'',k,k2⟩=>by rw[h]at k;cases k;exact LpN.det h2 k2
open Classical in
def Lp{σ ρ:Type}(body:σ->Option (σ ⊕ ρ))(s:σ):Option ρ:=if h:∃r n,LpN body n s r then some h.choose else none
theorem PP{σ ρ:Type}{body:σ->Option (σ ⊕ ρ)}{s:σ}{r:ρ}:Lp body s=some r↔ ∃n,LpN body n s r:=by
 unfold Lp;split
 .rename_i h;obtain⟨n,hn⟩:=h.choose_spec;constructor
  .intro e;cases e;exact⟨n,hn⟩
  .rintro⟨m,hm⟩;rw[hn.det hm]
 .rename_i h;constructor
  .intro e;cases e
  .rintro⟨m,hm⟩;exact absurd ⟨r,m,hm⟩ h
theorem nA{σ ρ:Type}{body:σ->Option (σ ⊕ ρ)}{s:σ}{r:ρ}(h:body s=some (.inr r)):Lp body s=some r:=PP.2 ⟨0,h⟩
theorem AH{σ ρ:Type}{body:σ->Option (σ ⊕ ρ)}{s s':σ}(h:body s=some (.inl s')):Lp body s=Lp body s':=by
 apply Option.ext;intro r;rw[PP,PP];constructor
 .rintro⟨n,hn⟩;cases n with
  |zero=>rw[LpN]at hn;rw[h]at hn;cases hn
  |succ n=>obtain⟨s'',h1,h2⟩:=hn;rw[h]at h1;cases h1;exact⟨n,h2⟩
 .rintro⟨n,hn⟩;exact⟨n+1,s',h,hn⟩
theorem aGE{σ ρ:Type}{body:σ->Option (σ ⊕ ρ)}{s:σ}{r:ρ}(I:Nat->σ)(N:Nat)(h0:s=I 0)(hs:∀k,k<N->body (I k)=some (.inl (I (k+1))))(hr:body (I N)=some (.inr r)):Lp body s=some r:=by
 subst h0
 have key:∀d k,k+d=N->Lp body (I k)=some r:=by
  intro d;induction d with
  |zero=>intro k hk;rw[Nat.add_zero]at hk;subst hk;exact nA hr
  |succ d ih=>intro k hk;rw[AH (hs k (by omega))];exact ih (k+1) (by omega)
 exact key N 0 (by omega)
theorem GA{σ ρ:Type}{body:σ->Option (σ ⊕ ρ)}{s:σ}(I:σ->Prop)(μ:σ->Nat)(R:ρ->Prop)(h0:I s)(hs:∀x,I x->(∃x',body x=some (.inl x')/\I x'/\μ x'<μ x)∨∃r,body x=some (.inr r)/\R r):∃r,Lp body s=some r/\R r:=by
 have key:∀n x,μ x=n->I x->∃r,Lp body x=some r/\R r:=by
  intro n;induction n using Nat.strongRecOn with
  |_ n ih=>
   intro x hn hx;rcases hs x hx with ⟨x',h1,h2,h3⟩|⟨r,h1,h2⟩
   .rw[AH h1];exact ih (μ x') (hn▸h3) x' rfl h2
   .exact⟨r,nA h1,h2⟩
 exact key _ s rfl h0
section
variable {P:Program}{nt:Nat}{s:AState}{Q:Exit->AState->Prop}
theorem QE{c:Code}{σ ρ:Type}{body:σ->Option (σ ⊕ ρ)}{x0:σ}{r0:ρ}(h:Lp body x0=some r0)(S:σ->AState)(X:ρ->Exit->AState->Prop)(e0:Ent s (S x0))
  (round:∀x o,body x=some o->AC P nt c (S x) (uP (λt=>∃x',o= .inl x'/\Ent t (S x')) (λe t=>∃r,o= .inr r/\X r e t))) (hX:∀e t,X r0 e t->Q e t):AC P nt (.loop c) s Q:=by
 obtain⟨n,hn⟩:=PP.1 h;refine PM (ι:=σ×Nat) (λp=>S p.1) (λp=>LpN body p.2 p.1 r0) (λp=>p.2) (x0,n) hn e0 ?_;rintro⟨x,m⟩ hm;cases m with
 |zero=>
  refine Te (round x _ hm) λe t hq=>?_;cases e<;>simp only[uP]at hq ⊢
  .obtain⟨x',h1,_⟩:=hq;cases h1
  all_goals (obtain⟨r,h1,h2⟩:=hq;cases h1;exact hX _ _ h2)
 |succ m=>
  obtain⟨x',h1,h2⟩:=hm;refine Te (round x _ h1) λe t hq=>?_;cases e<;>simp only[uP]at hq ⊢
  .obtain⟨x'',h3,h4⟩:=hq;cases h3;exact⟨(x',m),h2,Nat.lt_succ_self _,h4⟩
  all_goals (obtain⟨r,h3,_⟩:=hq;cases h3)
theorem gX{c:Operand}{x y:Code}{t:Bool}(hc:s.ev c=some (.sc (.bool t)))(q:t=true)(h:AC P nt x s Q):AC P nt (.cond c x y) s Q:=AF hc (λ_=>h) (λe=>by rw[q]at e;cases e)
theorem mQ{c:Operand}{x y:Code}{t:Bool}(hc:s.ev c=some (.sc (.bool t)))(q:t=false)(h:AC P nt y s Q):AC P nt (.cond c x y) s Q:=AF hc (λe=>by rw[q]at e;cases e) (λ_=>h)
theorem aBb{i:Nat}{v:AV}{e:Nat->Option AV}(h:e i=some v):Rd (some i) v e=e:=by
 funext t;simp only[Rd];cases hb:Nat.beq t i with
 |false=>rfl
 |true=>rw[Nat.eq_of_beq_eq_true hb,h];rfl
theorem aC{ops:Array Oper}{r:List Oper}{tr:List Tr}{K:List Tr->AState->Prop}{t u:Bool}(i:Nat)(hi:s.env i=some (.sc (.bool t)))(q:t=u)(h:AOps P ops nt r ⟨Rd (some i) (.sc (.bool u)) s.env,s.heap,s.used,s.ns,s.kp⟩ tr K):AOps P ops nt r s tr K:=by
 subst q;rw[aBb hi]at h;exact h
end
def kR:AV->Bool
 | .sc v=>v.oneCell'
 | .list _ _=>true
 |_=>false
structure EOk{α:Type}(k:Nat)(e:α->aH):Prop where
 len:∀x,(e x).length=k
 cell:∀x,(e x).all kR=true
def ow{α:Type}(e:α->aH)(x:α):aH:=(e x).map zA
theorem kI{α:Type}(e:α->aH)(l:List α):cY (l.map e)=l.map (ow e):=by
 unfold cY;rw[List.map_map];rfl
section
variable {α:Type}{k:Nat}{e:α->aH}
theorem XL{c:AV}(h:kR c=true):view0 (zA c) c:=by cases c<;>simp only[kR,gC]at h<;>simp[zA,view0]
theorem XM{c:AV}(h:kR c=true):view0 c c:=by cases c<;>simp only[kR,gC]at h<;>simp[view0]
theorem Zl{c:AV}(h:kR c=true):Ig (zA c) c:=by cases c<;>simp only[kR,gC]at h<;>simp[zA,Ig]
theorem VQ{c:AV}(h:kR c=true)(hp:Hp):okCell hp c=true:=by cases c<;>simp only[kR,gC]at h<;>rfl
theorem VR{c:AV}(h:kR c=true):eC c=true/\∀ds,c≠ .ref ds:=by cases c<;>simp only[kR,gC]at h<;>exact⟨rfl,λ_ e=>by cases e⟩
theorem QF{c:AV}(h:kR c=true):zP c=true/\zP (zA c)=true:=by cases c<;>simp only[kR,gC]at h<;>exact⟨rfl,rfl⟩
theorem Ij{R:AV->AV->Prop}{f g:AV->AV}:∀{cs:aH},(∀c∈cs,R (f c) (g c))->All2 R (cs.map f) (cs.map g)
 | [],_=>rfl
 |c::cs,h=>⟨g c,_,rfl,h c (by simp),Ij λd hd=>h d (by simp[hd])⟩
theorem Gi{β:Type}{R:aH->aH->Prop}{f g:β->aH}:∀{l:List β},(∀x,R (f x) (g x))->All2 R (l.map f) (l.map g)
 | [],_=>rfl
 |x::l,h=>⟨g x,_,rfl,h x,Gi h⟩
theorem EOk.mem(E:EOk k e)(x:α):∀c∈e x,kR c=true:=List.all_eq_true.1 (E.cell x)
theorem EOk.view(E:EOk k e)(x:α):All2 view0 (ow e x) (e x):=by have:=Ij (R:=view0) (f:=zA) (g:=id) (λc hc=>XL (E.mem x c hc));simpa [ow]using this
theorem EOk.same(E:EOk k e)(x:α):All2 view0 (e x) (e x):=by have:=Ij (R:=view0) (f:=id) (g:=id) (λc hc=>XM (E.mem x c hc));simpa using this
theorem EOk.frz(E:EOk k e)(x:α):All2 Ig (ow e x) (e x):=by have:=Ij (R:=Ig) (f:=zA) (g:=id) (λc hc=>Zl (E.mem x c hc));simpa [ow]using this
theorem EOk.views(E:EOk k e)(l:List α):All2 (All2 view0) (l.map (ow e)) (l.map e):=Gi E.view
theorem EOk.sames(E:EOk k e)(l:List α):All2 (All2 view0) (l.map e) (l.map e):=Gi E.same
theorem EOk.frzs(E:EOk k e)(l:List α):All2 (All2 Ig) (l.map (ow e)) (l.map e):=Gi E.frz
theorem EOk.good(E:EOk k e)(l:List α):ND (l.map e):=by
 intro cs hcs c hc;obtain⟨x,_,rfl⟩:=List.mem_map.1 hcs;exact VR (E.mem x c hc)
theorem EOk.plainO(E:EOk k e)(l:List α):Fv (l.map (ow e)):=by
 intro cs hcs c hc;obtain⟨x,_,rfl⟩:=List.mem_map.1 hcs;obtain⟨d,hd,rfl⟩:=List.mem_map.1 hc;exact(QF (E.mem x d hd)).2
theorem EOk.plainE(E:EOk k e)(l:List α):Fv (l.map e):=by
 intro cs hcs c hc;obtain⟨x,_,rfl⟩:=List.mem_map.1 hcs;exact(QF (E.mem x c hc)).1
theorem EOk.okE(E:EOk k e)(hp:Hp)(l:List α):(l.map e).flatten.all (okCell hp)=true:=by
 rw[List.all_eq_true];intro c hc;obtain⟨cs,hcs,hc⟩:=List.mem_flatten.1 hc;obtain⟨x,_,rfl⟩:=List.mem_map.1 hcs;exact VQ (E.mem x c hc) hp
theorem NF:∀{cs:aH},(∀c∈cs,kR c=true)->dS cs=[]
 | [],_=>rfl
 |c::cs,h=>by
  have h1:=h c (by simp);have h2:=NF (cs:=cs) (λd hd=>h d (by simp[hd]));cases c<;>simp only[kR,gC]at h1<;>exact h2
theorem EOk.namesE(E:EOk k e)(l:List α):dS (l.map e).flatten=[]:=by
 refine NF λc hc=>?_;obtain⟨cs,hcs,hc⟩:=List.mem_flatten.1 hc;obtain⟨x,_,rfl⟩:=List.mem_map.1 hcs;exact E.mem x c hc
end
end
section
def pL(n lo hi:Int):Bool:=decide (lo<=n/\n<=hi)
theorem jY{n lo hi:Int}(h:pL n lo hi=true):lo<=n/\n<=hi:=by simpa [pL]using h
theorem Dl{n lo hi:Int}(h1:lo<=n)(h2:n<=hi):pL n lo hi=true:=by simp[pL,h1,h2]
theorem QG(x p:Int)(hp:0<p): -p<x.tmod p/\x.tmod p<p:=⟨Int.lt_tmod_of_pos x hp,Int.tmod_lt_of_pos x hp⟩
theorem QH(x p:Int)(hp:0<p):(0<=x.tmod p/\x.tmod p=x%p)∨(x.tmod p<0/\x.tmod p=x%p-p):=by
 have h:=@Int.tmod_eq_emod x p;have h0:=Int.emod_nonneg x (by omega:p≠0);have h1:=Int.emod_lt_of_pos x hp;have h2:(p.natAbs:Int)=p:=by omega
 split at h
 .exact .inl ⟨by omega,by omega⟩
 .exact .inr ⟨by omega,by omega⟩
theorem Zm(x p:Int)(hp:0<p):(x.tmod p+p).tmod p=x%p:=by
 have h0:=Int.emod_nonneg x (by omega:p≠0);have h1:=Int.emod_lt_of_pos x hp;rcases QH x p hp with ⟨h,e⟩|⟨h,e⟩
 .rw[e,Int.tmod_eq_emod_of_nonneg (by omega),Int.add_emod_right,Int.emod_emod_of_dvd _ (Int.dvd_refl p)]
 .rw[e,show x%p-p+p=x%p by omega,Int.tmod_eq_emod_of_nonneg h0,Int.emod_emod_of_dvd _ (Int.dvd_refl p)]
def lL(p:Int):Bool:=decide (p=2∨p=3∨p=5)
theorem FD{p:Int}(h:lL p=true):p=2∨p=3∨p=5:=by simpa [lL]using h
def Tj(p r:Int):Nat->Int
 |0=>1
 |n+1=>(Tj p r n*r)%p
theorem Yl{p r:Int}(hp:lL p=true)(hr:0<=r/\r<p):∀n,0<=Tj p r n/\Tj p r n<p:=by
 intro n;have:=FD hp;cases n with
 |zero=>simp[Tj];omega
 |succ n=>exact⟨Int.emod_nonneg _ (by omega),Int.emod_lt_of_pos _ (by omega)⟩
def Gj(p r:Int):Int:=Tj p r (max (p-2) 1).toNat
theorem aEK{p r y:Int}(hp:lL p=true)(hr:0<=r/\r<p)(hy:1<=y/\y<p)(h:(r*y)%p=1):Gj p r=y:=by
 rcases FD hp with rfl|rfl|rfl
 .have h1:r=0∨r=1:=by omega
  have h2:y=1:=by omega
  subst h2;rcases h1 with rfl|rfl<;>first|(exfalso;revert h;decide)|decide
 .have h1:r=0∨r=1∨r=2:=by omega
  have h2:y=1∨y=2:=by omega
  rcases h1 with rfl|rfl|rfl<;>rcases h2 with rfl|rfl<;>first|(exfalso;revert h;decide)|decide
 .have h1:r=0∨r=1∨r=2∨r=3∨r=4:=by omega
  have h2:y=1∨y=2∨y=3∨y=4:=by omega
  rcases h1 with rfl|rfl|rfl|rfl|rfl<;>rcases h2 with rfl|rfl|rfl|rfl<;>first|(exfalso;revert h;decide)|decide
theorem aBc{p r:Int}(hp:lL p=true)(hr:0<=r/\r<p)(h:∀y:Nat,1<=y->(y:Int)<p->(r*y)%p≠1):Gj p r=0:=by
 have h1:=h 1 (by omega);have h2:=h 2 (by omega);have h3:=h 3 (by omega);have h4:=h 4 (by omega);rcases FD hp with rfl|rfl|rfl
 .have h1:r=0∨r=1:=by omega
  rcases h1 with rfl|rfl<;>first|decide|(exfalso;revert h1 h2 h3 h4;decide)
 .have h1:r=0∨r=1∨r=2:=by omega
  rcases h1 with rfl|rfl|rfl<;>first|decide|(exfalso;revert h1 h2 h3 h4;decide)
 .have h1:r=0∨r=1∨r=2∨r=3∨r=4:=by omega
  rcases h1 with rfl|rfl|rfl|rfl|rfl<;>first|decide|(exfalso;revert h1 h2 h3 h4;decide)
theorem aBd{p r:Int}(hp:lL p=true)(hr:1<=r/\r<p):1<=Gj p r/\Gj p r<p/\(r*Gj p r)%p=1:=by
 rcases FD hp with rfl|rfl|rfl
 .have h1:r=1:=by omega
  subst h1;decide
 .have h1:r=1∨r=2:=by omega
  rcases h1 with rfl|rfl<;>decide
 .have h1:r=1∨r=2∨r=3∨r=4:=by omega
  rcases h1 with rfl|rfl|rfl|rfl<;>decide
theorem fN{p:Int}(h:lL p=true):2<=p/\p<=5:=by have:=FD h;omega
theorem aBe{p:Int}(h:p=2∨p=3∨p=5):lL p=true:=by simpa [lL]using h
theorem dM{x:Int}(h: -4611686018427387904<=x/\x<=4611686018427387904):wr x=x:=VP (by omega)
theorem bW{k n:Nat}(hk:k<n)(hn:n<=4611686018427387904):wr ((k:Int)+1)=((k+1:Nat):Int):=by rw[dM (by omega)];omega
theorem kM{α:Type}{l:List α}{k:Nat}(d:α)(h:k<l.length):cF l (k:Int)=some (l[k]?.getD d):=by rw[gS h];simp[h]
theorem Tk{α:Type}{l:List α}{i:Int}(d:α)(h0:0<=i)(h:i<l.length):cF l i=some (l[i.toNat]?.getD d):=by
 have:=kM (l:=l) (k:=i.toNat) d (by omega)
 rwa [Int.toNat_of_nonneg h0]at this
theorem jW{k n:Nat}(h:k<n):decide ((k:Int)<(n:Int))=true:=aR (by omega)
theorem mG{k n:Nat}(h:n<=k):decide ((k:Int)<(n:Int))=false:=bP (by omega)
theorem Gk{β:Type}{body:Int->Option (Int ⊕ (Unit ⊕ β))}{s0:Int}{s n:Nat}(f:Nat->Option β)(hs0:s0=(s:Int))(hn:n<=4611686018427387904)(hsn:s<=n)(hs:∀k:Nat,s<=k->k<n->body k=some (match f k with|none=>.inl (wr (k+1))|some b=>.inr (.inr b)))
  (he:True->body n=some (.inr (.inl ()))):Lp body s0=some (match (List.range' s (n-s)).findSome? f with|none=>.inl ()|some b=>.inr b):=by
 have key:∀d k:Nat,s<=k->k+d=n->Lp body k=some (match (List.range' k d).findSome? f with|none=>.inl ()|some b=>.inr b):=by
  intro d;induction d with
  |zero=>intro k _ hk;rw[Nat.add_zero]at hk;subst hk;exact nA (he trivial)
  |succ d ih=>
   intro k h1 hk;have h:=hs k h1 (by omega);rw[List.range'_succ,List.findSome?_cons];cases hf:f k with
   |none=>rw[hf]at h;rw[AH h,bW (n:=n) (by omega) hn];exact ih (k+1) (by omega) (by omega)
   |some b=>rw[hf]at h;exact nA h
 subst hs0;exact key (n-s) s (bD _) (by omega)
theorem cO{σ ρ:Type}{body:σ->Option (σ ⊕ ρ)}{s:σ}{r:ρ}(I:Nat->σ)(N:Nat)(h0:s=I 0)(hs:∀k,k<N->body (I k)=some (.inl (I (k+1))))(hr:True->body (I N)=some (.inr r)):Lp body s=some r:=aGE I N h0 hs (hr trivial)
theorem Ag{β:Type}{body:Int->Option (Int ⊕ (Unit ⊕ β))}{n:Nat}(P:Nat->Bool)(b:β)(hn:n<=4611686018427387904)(hs:∀k:Nat,k<n->body k=some (bif P k then .inl (wr (k+1))else .inr (.inr b)))
  (he:True->body n=some (.inr (.inl ()))):Lp body 0=some (bif(List.range n).all P then .inl ()else .inr b):=by
 have key:∀d k:Nat,k+d=n->Lp body k=some (bif(List.range' k d).all P then .inl ()else .inr b):=by
  intro d;induction d with
  |zero=>intro k hk;rw[Nat.add_zero]at hk;subst hk;exact nA (he trivial)
  |succ d ih=>
   intro k hk;have h:=hs k (by omega);rw[List.range'_succ,List.all_cons];cases hf:P k with
   |true=>rw[hf]at h;rw[AH h,bW (n:=n) (by omega) hn];exact ih (k+1) (by omega)
   |false=>rw[hf]at h;exact nA h
 have:=key n 0 (by omega)
 rwa [List.range_eq_range']
theorem vB{α:Type}(d:α)(l:List α)(P:α->Bool):(List.range l.length).all (λk=>P (l[k]?.getD d))=l.all P:=by
 rw[Bool.eq_iff_iff,List.all_eq_true,List.all_eq_true];constructor
 .intro h x hx;obtain⟨k,hk,rfl⟩:=List.mem_iff_getElem.1 hx;have:=h k (List.mem_range.2 hk);simpa [hk]using this
 .intro h k hk;have hk:=List.mem_range.1 hk;simp only[dL hk,dI];exact h _ (List.getElem_mem hk)
theorem rT{n:Nat}{P:Nat->Bool}:(List.range n).all P=true↔ ∀k,k<n->P k=true:=by simp[List.all_eq_true]
theorem VS{n:Nat}{P Q:Nat->Bool}(h:∀k,k<n->P k=Q k):(List.range n).all P=(List.range n).all Q:=by
 rw[Bool.eq_iff_iff,rT,rT];exact⟨λg k hk=>(h k hk)▸g k hk,λg k hk=>(h k hk).symm ▸g k hk⟩
theorem VT{l m:aA}(hl:l.length=m.length):(List.range l.length).all (λk=>decide (l[k]?.getD 0=m[k]?.getD 0))=decide (l=m):=by
 rw[Bool.eq_iff_iff,rT,eD];constructor
 .intro h;refine List.ext_getElem hl λk h1 h2=>?_;have:=of_decide_eq_true (h k h1);simpa [h1,h2]using this
 .rintro rfl k _;simp
def bY(r c:Nat)(F:Nat->Nat->Int):aA:=(List.range (r*c)).map λt=>F (t/c) (t%c)
theorem gJ(r c:Nat)(F:Nat->Nat->Int):(bY r c F).length=r*c:=by simp[bY]
theorem Ik{r c i j:Nat}(hi:i<r)(hj:j<c):i*c+j<r*c:=by
 have:=Nat.mul_le_mul_right c (Nat.succ_le_of_lt hi);rw[Nat.succ_mul]at this;omega
theorem Kw{c i j:Nat}(hj:j<c):(i*c+j)/c=i:=by rw[Nat.mul_comm,Nat.mul_add_div (by omega),Nat.div_eq_of_lt hj,Nat.add_zero]
theorem Kx{c i j:Nat}(hj:j<c):(i*c+j)%c=j:=by rw[Nat.mul_comm,Nat.mul_add_mod,Nat.mod_eq_of_lt hj]
theorem mR{r c:Nat}(F:Nat->Nat->Int){i j:Nat}(hi:i<r)(hj:j<c):(bY r c F)[i*c+j]? =some (F i j):=by
 have h:=Ik hi hj;simp[bY,h,Kw hj,Kx hj]
theorem aEL{r c:Nat}(F:Nat->Nat->Int){i j:Nat}(hi:i<r)(hj:j<c):cF (bY r c F) ((i*c+j:Nat):Int)=some (F i j):=by
 rw[gS (by rw[gJ];exact Ik hi hj),←mR F hi hj,dL]
theorem cC{r c:Nat}{F G:Nat->Nat->Int}(h:∀i j,i<r->j<c->F i j=G i j):bY r c F=bY r c G:=by
 unfold bY;refine rQ λt ht=>?_;have ht:=List.mem_range.1 ht;have hc:0<c:=by rcases Nat.eq_zero_or_pos c with rfl|h';simp at ht;exact h'
 exact h _ _ (Nat.div_lt_of_lt_mul (by rw[Nat.mul_comm];exact ht)) (Nat.mod_lt _ hc)
def Il(F:Nat->Nat->Int)(i j:Nat)(v:Int):Nat->Nat->Int:=λa b=>if a=i/\b=j then v else F a b
theorem Gl{r c:Nat}(F:Nat->Nat->Int){i j:Nat}(v:Int)(hi:i<r)(hj:j<c):(bY r c F).set (i*c+j) v=bY r c (Il F i j v):=by
 refine List.ext_getElem (by simp[bY]) λt h1 h2=>?_;rw[gJ]at h2;have hc:0<c:=by omega
 rw[List.getElem_set];simp only[bY,List.getElem_map,List.getElem_range,Il];have e:=Nat.div_add_mod t c;by_cases ht:i*c+j=t
 .subst ht;rw[aP rfl,Kw hj,Kx hj,aP ⟨rfl,rfl⟩]
 .rw[aQ ht,aQ];rintro⟨rfl,rfl⟩;rw[Nat.mul_comm]at e;exact ht e
theorem aEM{r c:Nat}{l:aA}(h:l.length=r*c):l=bY r c (λi j=>l[i*c+j]?.getD 0):=by
 refine List.ext_getElem (by rw[gJ,h]) λt h1 h2=>?_;simp only[bY,List.getElem_map,List.getElem_range];have e:t/c*c+t%c=t:=by rw[Nat.mul_comm];exact Nat.div_add_mod t c
 rw[e];simp[h1]
theorem SW(r c:Nat):List.replicate (r*c) (0:Int)=bY r c (λ_ _=>0):=by
 refine List.ext_getElem (by simp[bY]) λt h1 h2=>?_;simp[bY]
theorem wix{i c j:Nat}(h:i*c+j<=4611686018427387904):wr (wr ((i:Int)*(c:Int))+(j:Int))=((i*c+j:Nat):Int):=by
 have e:(i:Int)*(c:Int)=((i*c:Nat):Int):=by simp
 rw[e,dM (x:=((i*c:Nat):Int)) (by omega),dM (by omega)];omega
theorem Tl{i c:Nat}(h:i*c<=4611686018427387904):wr ((i:Int)*(c:Int))=((i*c:Nat):Int):=by
 have e:(i:Int)*(c:Int)=((i*c:Nat):Int):=by simp
 rw[e,dM (by omega)]
def Im(p:Int)(v:aA):Bool:=lL p&&decide (v.length<=64)&&v.all (λx=>pL x 0 (p-1))
theorem XN{p:Int}{v:aA}(h:Im p v=true):lL p=true/\v.length<=64/\v.all (λx=>pL x 0 (p-1))=true:=by
 simp only[Im,bX,eD]at h;exact⟨h.1.1,h.1.2,h.2⟩
def nY(F:Nat->Nat->Int)(j:Nat):Nat->Nat->Nat
 |0,k=>k
 |d+1,k=>if F k j=0 then nY F j d (k+1)else k
theorem QI{F:Nat->Nat->Int}{j:Nat}:∀{d k r:Nat},k<=r->r<=k+d->(∀i,k<=i->i<r->F i j=0)->(r<k+d->F r j≠0)->nY F j d k=r
 |0,k,r,h1,h2,_,_=>by simp[nY];omega
 |d+1,k,r,h1,h2,h3,h4=>by
  unfold nY;by_cases e:F k j=0
  .rw[aP e];have hne:k≠r:=by rintro rfl;exact h4 (by omega) e
   exact QI (by omega) (by omega) (λi a b=>h3 i (by omega) b) (λh=>h4 (by omega))
  .rw[aQ e];rcases dX k r with h|h
   .exact absurd (h3 k (bD _) h) e
   .omega
theorem FE{F:Nat->Nat->Int}{j:Nat}:∀{d k:Nat},k<=nY F j d k/\nY F j d k<=k+d
 |0,k=>by simp[nY]
 |d+1,k=>by
  unfold nY;split
  .have:=@FE F j d (k+1);omega
  .omega
def BK(F:Nat->Nat->Int)(a b:Nat):Nat->Nat->Int:=λi c=>if i=a then F b c else if i=b then F a c else F i c
def xA(p:Int)(F:Nat->Nat->Int)(a:Nat)(s:Int):Nat->Nat->Int:=λi c=>if i=a then(F a c*s)%p else F i c
def CT(p:Int)(F:Nat->Nat->Int)(a j:Nat):Nat->Nat->Int:=λi c=>if i=a then F a c else(F i c-F i j*F a c)%p
def gY(p:Int)(F:Nat->Nat->Int)(k r j:Nat):Nat->Nat->Int:=CT p (xA p (BK F k r) k (Gj p (F r j))) k j
def kJ(p:Int)(m:Nat)(st:(Nat->Nat->Int)×List Nat)(j:Nat):(Nat->Nat->Int)×List Nat:=
 if nY st.1 j (m-st.2.length) st.2.length=m then st else(gY p st.1 st.2.length (nY st.1 j (m-st.2.length) st.2.length) j,st.2++[j])
def bK(p:Int)(m:Nat)(F:Nat->Nat->Int):Nat->(Nat->Nat->Int)×List Nat
 |0=>(F,[])
 |t+1=>kJ p m (bK p m F t) t
def wF(p:Int)(m n:Nat)(F:Nat->Nat->Int):Prop:=∀i j,i<m->j<n->0<=F i j/\F i j<p
theorem XO{p:Int}(hp:0<p){m n:Nat}{F:Nat->Nat->Int}(_h:wF p m n F)(k r j:Nat):wF p m n (gY p F k r j):=by
 intro i c hi hc;unfold gY CT xA;split
 .simp only[aP];exact⟨Int.emod_nonneg _ (by omega),Int.emod_lt_of_pos _ hp⟩
 .exact⟨Int.emod_nonneg _ (by omega),Int.emod_lt_of_pos _ hp⟩
theorem XP{p:Int}(hp:0<p){m n:Nat}{st:(Nat->Nat->Int)×List Nat}(h:wF p m n st.1)(j:Nat):wF p m n (kJ p m st j).1:=by
 unfold kJ;split
 .exact h
 .exact XO hp h _ _ _
theorem VU{p:Int}{m:Nat}{st:(Nat->Nat->Int)×List Nat}(h:st.2.length<=m)(j:Nat):(kJ p m st j).2.length <=m:=by
 unfold kJ;split
 .exact h
 .rename_i h1;have:=@FE st.1 j (m-st.2.length) st.2.length;simp;omega
theorem xB{p:Int}(hp:0<p){m n:Nat}{F:Nat->Nat->Int}(h:wF p m n F):∀t,wF p m n (bK p m F t).1
 |0=>h
 |t+1=>XP hp (xB hp h t) t
theorem yH{p:Int}{m:Nat}{F:Nat->Nat->Int}:∀t,(bK p m F t).2.length <=m
 |0=>Nat.zero_le _
 |t+1=>VU (yH t) t
theorem In{p:Int}{m:Nat}{F:Nat->Nat->Int}:∀t,∀x∈(bK p m F t).2,x<t
 |0,x,h=>by simp[bK]at h
 |t+1,x,h=>by
  unfold bK kJ at h;split at h
  .have:=In t x h;omega
  .rcases fB.1 h with h|h
   .have:=In t x h;omega
   .simp at h;omega
theorem HW{p:Int}{m:Nat}{F:Nat->Nat->Int}:∀t,(bK p m F t).2.length <=t
 |0=>Nat.zero_le _
 |t+1=>by
  have:=@HW p m F t;unfold bK kJ;split
  .omega
  .simp;omega
def bN(l:aV):Nat->Nat->Int:=λi j=>(l[i]?.getD [])[j]?.getD 0
def iP(F:Nat->Nat->Int)(r n:Nat):aV:=(List.range r).map λi=>(List.range n).map λj=>F i j
theorem qF(F:Nat->Nat->Int)(r n:Nat):(iP F r n).length=r:=by simp[iP]
theorem Ky(F:Nat->Nat->Int)(r n i j:Nat)(hi:i<r)(hj:j<n):bN (iP F r n) i j=F i j:=by
 simp[bN,iP,hi,hj]
theorem Io{F G:Nat->Nat->Int}{r n:Nat}(h:∀i j,i<r->j<n->F i j=G i j):iP F r n=iP G r n:=by
 unfold iP;refine rQ λi hi=>rQ λj hj=>h i j (by simpa using hi) (by simpa using hj)
def dW(p:Int)(n:Nat)(l:aV):aV:=iP (bK p l.length (bN l) n).1 (bK p l.length (bN l) n).2.length n
structure Red(m t:Nat)(F:Nat->Nat->Int)(L:List Nat):Prop where
 lt:∀i,i<L.length->L[i]?.getD 0<t
 inc:∀i k,i<k->k<L.length->L[i]?.getD 0<L[k]?.getD 0
 len:L.length<=m
 one:∀i,i<L.length->F i (L[i]?.getD 0)=1
 col:∀i k,i<L.length->k<m->k≠i->F k (L[i]?.getD 0)=0
 low:∀i j,L.length<=i->i<m->j<t->F i j=0
 left:∀i j,i<L.length->j<L[i]?.getD 0->F i j=0
theorem Gm{L:List Nat}{t i:Nat}:(L++[t])[i]?.getD 0=if i<L.length then L[i]?.getD 0 else if i=L.length then t else 0:=by
 by_cases h:i<L.length
 .rw[aP h,List.getElem?_append_left h]
 .rw[aQ h,List.getElem?_append_right (by omega)];by_cases h2:i=L.length
  .subst h2;simp
  .rw[aQ h2,jX (by simp;omega)];rfl
theorem Kz{F:Nat->Nat->Int}{j:Nat}:∀{d k:Nat} i,k<=i->i<nY F j d k->F i j=0
 |0,k,i,h1,h2=>by simp[nY]at h2;omega
 |d+1,k,i,h1,h2=>by
  unfold nY at h2;by_cases e:F k j=0
  .rw[aP e]at h2;by_cases e2:i=k
   .subst e2;exact e
   .exact Kz i (by omega) h2
  .rw[aQ e]at h2;omega
theorem Jb{F:Nat->Nat->Int}{j:Nat}:∀{d k:Nat},nY F j d k<k+d->F (nY F j d k) j≠0
 |0,k,h=>by simp[nY]at h
 |d+1,k,h=>by
  unfold nY at h ⊢;by_cases e:F k j=0
  .rw[aP e]at h ⊢;exact Jb (by omega)
  .rw[aQ e];exact e
theorem aBf{p:Int}(hp:lL p=true){m n t:Nat}(ht:t<n){st:(Nat->Nat->Int)×List Nat}(hin:wF p m n st.1)(h:Red m t st.1 st.2):Red m (t+1) (kJ p m st t).1 (kJ p m st t).2:=by
 obtain⟨F,L⟩:=st;simp only at hin h;have hb:=fN hp;unfold kJ;simp only;have hle:=@FE F t (m-L.length) L.length;have hz:=@Kz F t (m-L.length) L.length;have hh:=@Jb F t (m-L.length) L.length;have hlen:=h.len;split
 .rename_i hm;show Red m (t+1) F L;refine⟨λi hi=>by have:=h.lt i hi;omega,h.inc,h.len,h.one,h.col,λi j h1 h2 h3=>?_,h.left⟩;by_cases e:j=t
  .subst e;exact hz i h1 (by omega)
  .exact h.low i j h1 h2 (by omega)
 .rename_i hm;generalize nY F t (m-L.length) L.length=r at*;have hrm:r<m:=by omega
  have hr0:=hh (by omega);have hrb:=hin r t hrm ht;have hiv:=aBd hp (r:=F r t) ⟨by omega,by omega⟩
  have hG:∀c,gY p F L.length r t L.length c=(F r c*Gj p (F r t))%p:=by
   intro c;simp[gY,CT,xA,BK]
  have hrow:∀c,F r c=0->gY p F L.length r t L.length c=0:=by
   intro c hc;rw[hG,hc];simp
  have hE:∀i c,i≠L.length->gY p F L.length r t i c=((if i=r then F L.length c else F i c)-(if i=r then F L.length t else F i t)*gY p F L.length r t L.length c)%p:=by
   intro i c hi;simp[gY,CT,xA,BK,hi]
  have hT:gY p F L.length r t L.length t=1:=by rw[hG];exact hiv.2.2
  have hlow:∀j,j<t->F r j=0:=λj hj=>h.low r j hle.1 hrm hj;show Red m (t+1) (gY p F L.length r t) (L++[t]);refine⟨λi hi=>?_,λi k hik hk=>?_,by simp;omega,λi hi=>?_,λi k hi hk hki=>?_,λi j h1 h2 h3=>?_,λi j hi hj=>?_⟩
  .rw[Gm];simp at hi;split
   .rename_i h1;have:=h.lt i h1;omega
   .split<;>omega
  .simp at hk;rw[Gm,Gm,aP (by omega)];split
   .rename_i h1;exact h.inc i k hik h1
   .rw[aP (by omega)];exact h.lt i (by omega)
  .simp at hi;rw[Gm];by_cases e:i<L.length
   .rw[aP e,hE i _ (by omega),aQ (by omega),hrow _ (hlow _ (h.lt i e)),h.one i e];simp;exact Int.emod_eq_of_lt (by omega) (by omega)
   .have e2:i=L.length:=by omega
    subst e2;simp[hT]
  .simp at hi;rw[Gm];by_cases e:i<L.length
   .rw[aP e];by_cases ek:k=L.length
    .subst ek;exact hrow _ (hlow _ (h.lt i e))
    .rw[hE k _ ek,hrow _ (hlow _ (h.lt i e))];by_cases er:k=r
     .rw[aP er,h.col i L.length e (by omega) (by omega)];simp
     .rw[aQ er,h.col i k e hk hki];simp
   .have e2:i=L.length:=by omega
    subst e2;rw[aQ e,aP rfl,hE k _ hki,hT];simp
  .simp at h1;rw[hE i _ (by omega)];by_cases e:j=t
   .subst e;rw[hT];simp
   .rw[hrow _ (hlow j (by omega)),h.low L.length j (bD _) (by omega) (by omega),h.low i j (by omega) h2 (by omega)];simp
  .simp at hi;rw[Gm]at hj;by_cases e:i<L.length
   .rw[aP e]at hj;have:=h.lt i e;rw[hE i _ (by omega),aQ (by omega),hrow _ (hlow j (by omega)),h.left i j e hj];simp
   .have e2:i=L.length:=by omega
    subst e2;rw[aQ e,aP rfl]at hj;exact hrow _ (hlow j hj)
theorem Cd{p:Int}(hp:lL p=true){m n:Nat}{F:Nat->Nat->Int}(hin:wF p m n F):∀t,t<=n->Red m t (bK p m F t).1 (bK p m F t).2
 |0,_=>⟨by simp[bK],by simp[bK],by simp[bK],by simp[bK],by simp[bK],by simp,by simp[bK]⟩
 |t+1,ht=>aBf hp (by omega) (xB (by have:=fN hp;omega) hin t) (Cd hp hin t (by omega))
theorem aBg{p:Int}(hp:lL p=true):Gj p 1=1:=by
 rcases FD hp with rfl|rfl|rfl<;>decide
theorem SX{p:Int}(hp:lL p=true){n:Nat}{R G:Nat->Nat->Int}{L:List Nat}{m:Nat}(h:Red m n R L)(hin:wF p m n R)(hG:∀i j,i<L.length->j<n->G i j=R i j):
  ∀t,t<=n->(∃k,k<=L.length/\(bK p L.length G t).2=L.take k/\(∀i,i<k->L[i]?.getD 0<t)/\(∀i,k<=i->i<L.length->t<=L[i]?.getD 0))/\∀i j,i<L.length->j<n->(bK p L.length G t).1 i j=R i j
 |0,_=>⟨⟨0,Nat.zero_le _,rfl,λi hi=>absurd hi (Nat.not_lt_zero _),λi _ _=>Nat.zero_le _⟩,hG⟩
 |t+1,ht=>by
  obtain⟨⟨k,hk,e1,h1,h2⟩,h3⟩:=SX hp h hin hG t (by omega);have hlen:=h.len;have hkl:(L.take k).length=k:=by simp;omega
  unfold bK kJ;rw[e1,hkl];obtain⟨H,hH⟩:∃H,H=(bK p L.length G t).1:=⟨_,rfl⟩;rw[←hH]at h3 ⊢;by_cases hlt:k<L.length/\L[k]?.getD 0=t
  .obtain⟨hk2,hkt⟩:=hlt;have hone:H k t=1:=by rw[h3 k t hk2 (by omega),←hkt];exact h.one k hk2
   have hpv:nY H t (L.length-k) k=k:=QI (bD _) (by omega) (λi a b=>absurd b (by omega)) (λ_=>by rw[hone];decide);rw[hpv,aQ (by omega)];refine⟨⟨k+1,by omega,?_,λi hi=>?_,λi hi hi2=>?_⟩,λi j hi hj=>?_⟩
   .show L.take k++[t]=_;rw[wX hk2];have:L[k]=t:=by simpa [hk2]using hkt
    rw[this]
   .by_cases e:i=k
    .subst e;omega
    .have:=h1 i (by omega);omega
   .have:=h.inc k i (by omega) hi2;omega
   .show gY p H k k t i j=_;have e2:∀c,(H k c*Gj p (H k t))%p=H k c%p:=by intro c;rw[hone,aBg hp];simp
    have hb:=hin i j (by omega) hj;have hb2:=hin k j (by omega) hj;by_cases e:i=k
    .subst e;have e3:gY p H i i t i j=(H i j*Gj p (H i t))%p:=by simp[gY,CT,xA,BK]
     rw[e3,e2,h3 i j hi hj];exact Int.emod_eq_of_lt hb.1 hb.2
    .have hz:H i t=0:=by rw[h3 i t hi (by omega),←hkt];exact h.col k i hk2 (by omega) e
     have e3:gY p H k k t i j=(H i j-H i t*((H k j*Gj p (H k t))%p))%p:=by simp[gY,CT,xA,BK,e]
     rw[e3,hz,h3 i j hi hj];simp;exact Int.emod_eq_of_lt hb.1 hb.2
  .have hz:∀i,k<=i->i<L.length->H i t=0:=by
    intro i hi hi2;rw[h3 i t hi2 (by omega)];refine h.left i t hi2 ?_;have a:=h2 i hi hi2;by_cases e:i=k
    .subst e;have:L[i]?.getD 0≠t:=λe=>hlt ⟨hi2,e⟩;omega
    .have b:=h2 k (bD _) (by omega);have c:=h.inc k i (by omega) hi2;omega
   have hpv:nY H t (L.length-k) k=L.length:=QI hk (by omega) (λi a b=>hz i a b) (λh=>absurd h (by omega));rw[hpv,aP rfl];refine⟨⟨k,hk,e1,λi hi=>by have:=h1 i hi;omega,λi hi hi2=>?_⟩,by rw[←hH];exact h3⟩;have a:=h2 i hi hi2;by_cases e:i=k
   .subst e;have:L[i]?.getD 0≠t:=λe=>hlt ⟨hi2,e⟩;omega
   .have b:=h2 k (bD _) (by omega);have c:=h.inc k i (by omega) hi2;omega
def VecsP(p:Int)(n:Nat)(l:aV):Prop:=∀v∈l,v.length=n/\∀x∈v,0<=x/\x<p
theorem VecsP.inP{p:Int}{n:Nat}{l:aV}(h:VecsP p n l):wF p l.length n (bN l):=by
 intro i j hi hj;have h1:=h l[i] (List.getElem_mem hi);have h2:=h1.2 ((l[i])[j]'(by omega)) (List.getElem_mem _);simpa [bN,hi,show j<(l[i]).length by omega]using h2
theorem rU{p:Int}(hp:lL p=true){n:Nat}{l:aV}(h:wF p l.length n (bN l)):VecsP p n (dW p n l):=by
 intro v hv;unfold dW iP at hv;simp only[List.mem_map,List.mem_range]at hv;obtain⟨i,hi,rfl⟩:=hv;refine⟨by simp,λx hx=>?_⟩;simp only[List.mem_map,List.mem_range]at hx;obtain⟨j,hj,rfl⟩:=hx;have:=@yH p l.length (bN l) n;exact xB (by have:=fN hp;omega) h n i j (by omega) hj
theorem DX{p:Int}{n:Nat}{l:aV}:(dW p n l).length <=n/\(dW p n l).length <=l.length:=by
 unfold dW;rw[qF];exact⟨HW n,yH n⟩
theorem Jc{p:Int}(hp:lL p=true){n:Nat}{l:aV}(h:wF p l.length n (bN l)):dW p n (dW p n l)=dW p n l:=by
 have h1:=Cd hp h n (bD _);have h2:=xB (by have:=fN hp;omega) h n;have hl:(dW p n l).length=(bK p l.length (bN l) n).2.length:=by unfold dW;rw[qF]
 obtain⟨⟨k,hk,e1,h3,h4⟩,h5⟩:=SX hp (G:=bN (dW p n l)) h1 h2 (λi j hi hj=>by unfold dW;exact Ky _ _ _ i j hi hj) n (bD _)
 have hk2:k=(bK p l.length (bN l) n).2.length:=by
  rcases dX k (bK p l.length (bN l) n).2.length with h6|h6
  .have a:=h4 k (bD _) h6;have b:=h1.lt k h6;omega
  .omega
 have e2:(bK p (dW p n l).length (bN (dW p n l)) n).2.length=(bK p l.length (bN l) n).2.length:=by
  rw[hl,e1,hk2,List.take_length]
 show iP (bK p (dW p n l).length (bN (dW p n l)) n).1 (bK p (dW p n l).length (bN (dW p n l)) n).2.length n=iP (bK p l.length (bN l) n).1 (bK p l.length (bN l) n).2.length n;rw[e2];refine Io λi j hi hj=>?_;rw[hl];exact h5 i j hi hj
def HY(p:Int)(n:Nat)(F:Nat->Nat->Int)(L:List Nat)(k:Nat):Nat->aA
 |0=>(List.replicate n 0).set k 1
 |i+1=>(HY p n F L k i).set (L[i]?.getD 0) ((-F i k)%p)
theorem FG(p:Int)(n:Nat)(F:Nat->Nat->Int)(L:List Nat)(k:Nat):∀i,(HY p n F L k i).length=n
 |0=>by simp[HY]
 |i+1=>by simp[HY,FG p n F L k i]
theorem PQ{p:Int}(hp:lL p=true)(n:Nat)(F:Nat->Nat->Int)(L:List Nat)(k:Nat):∀i,∀x∈HY p n F L k i,0<=x/\x<p
 |0,x,hx=>by
  have:=fN hp;rcases List.mem_or_eq_of_mem_set hx with h|h
  .rw[List.eq_of_mem_replicate h];omega
  .omega
 |i+1,x,hx=>by
  have:=fN hp;rcases List.mem_or_eq_of_mem_set hx with h|h
  .exact PQ hp n F L k i x h
  .rw[h];exact⟨Int.emod_nonneg _ (by omega),Int.emod_lt_of_pos _ (by omega)⟩
def lP(n:Nat)(L:List Nat):List Nat:=(List.range n).filter λk=> !L.contains k
def GP(p:Int)(n:Nat)(F:Nat->Nat->Int)(L:List Nat):aV:=(lP n L).map λk=>HY p n F L k L.length
def Ym(l:aV):Nat->Nat->Int:=λi j=>bN l j i
def Rg(p:Int)(n:Nat)(a b:aV):aV:=dW p n (a++b)
def Lz(p size:Int)(l:aV):Bool:=lL p&&pL size 0 8&&decide (l.length<=16)&&l.all λv=>decide ((v.length:Int)=size)&&Im p v
def vL(p size:Int)(l:aV):Bool:=Lz p size l&&decide (dW p size.toNat l=l)
theorem Ip{p size:Int}{l:aV}(h:Lz p size l=true):lL p=true/\∃n:Nat,size=n/\n<=8/\l.length<=16/\VecsP p n l:=by
 simp only[Lz,bX,eD,List.all_eq_true]at h;obtain⟨⟨⟨h1,h2⟩,h3⟩,h4⟩:=h;have h5:=jY h2;refine⟨h1,size.toNat,by omega,by omega,h3,λv hv=>?_⟩;have h6:=h4 v hv;have h7:=XN h6.2;refine⟨by have:=h6.1;omega,λx hx=>?_⟩;have h8:=h7.2.2;rw[List.all_eq_true]at h8;have:=jY (h8 x hx);omega
theorem aBh{p:Int}{n:Nat}{l:aV}(hp:lL p=true)(hn:n<=8)(hl:l.length<=16)(h:VecsP p n l):Lz p n l=true:=by
 simp only[Lz,bX,eD,List.all_eq_true];refine⟨⟨⟨hp,Dl (by omega) (by omega)⟩,hl⟩,λv hv=>⟨by rw[(h v hv).1],?_⟩⟩;simp only[Im,bX,eD,List.all_eq_true];exact⟨⟨hp,by rw[(h v hv).1];omega⟩,λx hx=>Dl (by have:=(h v hv).2 x hx;omega) (by have:=(h v hv).2 x hx;omega)⟩
theorem Ec{p size:Int}{l:aV}(h:vL p size l=true):lL p=true/\∃n:Nat,size=n/\n<=8/\l.length<=n/\VecsP p n l/\dW p n l=l:=by
 simp only[vL,bX,eD]at h;obtain⟨hp,n,rfl,hn,_,hv⟩:=Ip h.1;have h2:dW p n l=l:=by simpa using h.2
 exact⟨hp,n,rfl,hn,by have:=(@DX p n l).1;rw[h2]at this;exact this,hv,h2⟩
theorem HZ{p:Int}{n:Nat}{l:aV}(hp:lL p=true)(hn:n<=8)(h:VecsP p n l):vL p n (dW p n l)=true:=by
 simp only[vL,bX,eD];exact⟨aBh hp hn (by have:=(@DX p n l).1;omega) (rU hp h.inP),by simpa using Jc hp h.inP⟩
theorem VecsP.append{p:Int}{n:Nat}{a b:aV}(ha:VecsP p n a)(hb:VecsP p n b):VecsP p n (a++b):=by
 intro v hv;rcases fB.1 hv with h|h
 .exact ha v h
 .exact hb v h
def sN(f:Nat->Int):Nat->Int
 |0=>0
 |k+1=>sN f k+f k
theorem cD{f g:Nat->Int}:∀{n:Nat},(∀k,k<n->f k=g k)->sN f n=sN g n
 |0,_=>rfl
 |n+1,h=>by rw[sN,sN,cD λk hk=>h k (by omega),h n (by omega)]
theorem QJ(f g:Nat->Int):∀n,sN (λk=>f k+g k) n=sN f n+sN g n
 |0=>rfl
 |n+1=>by rw[sN,sN,sN,QJ f g n];omega
theorem QK(c:Int)(f:Nat->Int):∀n,sN (λk=>c*f k) n=c*sN f n
 |0=>by simp[sN]
 |n+1=>by rw[sN,sN,QK c f n,Int.mul_add]
theorem wG:∀n,sN (λ_=>0) n=0
 |0=>rfl
 |n+1=>by rw[sN,wG n];rfl
theorem BT{f:Nat->Int}{j:Nat}:∀{n:Nat},j<n->(∀k,k<n->k≠j->f k=0)->sN f n=f j
 |0,h,_=>absurd h (Nat.not_lt_zero _)
 |n+1,h,hz=>by
  rw[sN];by_cases e:j=n
  .subst e;rw[cD (g:=λ_=>0) λk hk=>hz k (by omega) (by omega),wG];omega
  .rw[BT (j:=j) (by omega) λk hk hj=>hz k (by omega) hj,hz n (by omega) (by omega)];omega
def Z0(p x:Int):Prop:=x%p=0
theorem QL{p x y:Int}(h:Z0 p x)(k:Z0 p y):Z0 p (x+y):=by unfold Z0 at*;rw[Int.add_emod,h,k];simp
theorem Dm{p x:Int}(c:Int)(h:Z0 p x):Z0 p (c*x):=by unfold Z0 at*;rw[Int.mul_emod,h];simp
theorem KV{p:Int}{f g:Nat->Int}:∀{n:Nat},(∀k,k<n->f k%p=g k%p)->sN f n%p=sN g n%p
 |0,_=>rfl
 |n+1,h=>by rw[sN,sN,Int.add_emod,KV λk hk=>h k (by omega),h n (by omega),←Int.add_emod]
theorem xC{p x y:Int}(h:x%p=y%p)(k:Z0 p x):Z0 p y:=by unfold Z0 at*;rw[←h];exact k
def dt(n:Nat)(f x:Nat->Int):Int:=sN (λk=>f k*x k) n
def Kr(p:Int)(m n:Nat)(F:Nat->Nat->Int)(x:Nat->Int):Prop:=∀i,i<m->Z0 p (dt n (F i) x)
theorem NG{p:Int}{n:Nat}{f g x:Nat->Int}(h:∀k,k<n->f k%p=g k%p):dt n f x%p=dt n g x%p:=by
 unfold dt;refine KV λk hk=>?_;rw[Int.mul_emod,h k hk,←Int.mul_emod]
theorem XQ{n:Nat}{f g x:Nat->Int}(c:Int):dt n (λk=>f k+c*g k) x=dt n f x+c*dt n g x:=by
 unfold dt;rw[←QK,←QJ];refine cD λk hk=>?_;rw[Int.add_mul,Int.mul_assoc]
theorem Yn{n:Nat}{f x:Nat->Int}(c:Int):dt n (λk=>c*f k) x=c*dt n f x:=by
 unfold dt;rw[←QK];refine cD λk hk=>?_;rw[Int.mul_assoc]
theorem aBi{p:Int}(hp:lL p=true){m n k r j:Nat}(hj:j<n)(hk:k<m)(hr:r<m){F:Nat->Nat->Int}(hin:wF p m n F)(hrj:F r j≠0)(x:Nat->Int):Kr p m n (gY p F k r j) x↔Kr p m n F x:=by
 have hb:=fN hp;have hrb:=hin r j hr hj;have hiv:=aBd hp (r:=F r j) ⟨by omega,by omega⟩;generalize hs:Gj p (F r j)=s at*;have hrow:∀c,gY p F k r j k c=(F r c*s)%p:=by intro c;simp[gY,CT,xA,BK,hs]
 have hoth:∀i c,i≠k->gY p F k r j i c=((if i=r then F k c else F i c)-(if i=r then F k j else F i j)*gY p F k r j k c)%p:=by
  intro i c hi;simp[gY,CT,xA,BK,hi,hs]
 have e1:dt n (gY p F k r j k) x%p=(s*dt n (F r) x)%p:=by
  rw[←Yn];refine NG λc hc=>?_;rw[hrow,Int.mul_comm,Int.emod_emod_of_dvd _ (Int.dvd_refl p)]
 have e2:dt n (F r) x%p=(F r j*dt n (gY p F k r j k) x)%p:=by
  rw[←Yn];refine NG λc hc=>?_;rw[hrow,Int.mul_emod,Int.emod_emod_of_dvd _ (Int.dvd_refl p),←Int.mul_emod,show F r j*(F r c*s)=(F r j*s)*F r c by rw[Int.mul_comm (F r c),Int.mul_assoc],Int.mul_emod,hiv.2.2];simp
 have e3:∀i,i≠k->∀G:Nat->Int,(∀c,G c=if i=r then F k c else F i c)->dt n (gY p F k r j i) x%p=(dt n G x+ -(G j)*dt n (gY p F k r j k) x)%p:=by
  intro i hi G hG;rw[←XQ];refine NG λc hc=>?_;rw[hoth i c hi,Int.emod_emod_of_dvd _ (Int.dvd_refl p),←hG,←hG,Int.neg_mul,Int.sub_eq_add_neg]
 constructor
 .intro h;have hkk:=h k hk;have hrr:Z0 p (dt n (F r) x):=by unfold Z0;rw[e2];exact Dm _ hkk
  have key:∀i,i<m->i≠k->Z0 p (dt n (λc=>if i=r then F k c else F i c) x):=by
   intro i hi hik;have h1:=h i hi;unfold Z0 at h1;rw[e3 i hik (λc=>if i=r then F k c else F i c) (λc=>rfl)]at h1;have h2:=QL (y:=(if i=r then F k j else F i j)*dt n (gY p F k r j k) x) h1 (Dm _ hkk);refine xC (congrArg (· % p) ?_) h2;rw[Int.neg_mul];omega
  intro i hi;by_cases e:i=r
  .subst e;exact hrr
  .by_cases e4:i=k
   .subst e4;have:=key r hr (λh=>e h.symm);simpa using this
   .have:=key i hi e4;simpa [e]using this
 .intro h;have hkk:Z0 p (dt n (gY p F k r j k) x):=by unfold Z0;rw[e1];exact Dm _ (h r hr)
  intro i hi;by_cases e:i=k
  .subst e;exact hkk
  .unfold Z0;rw[e3 i e (λc=>if i=r then F k c else F i c) (λc=>rfl)];refine QL ?_ (Dm _ hkk);by_cases e4:i=r
   .simp only[e4,if_true];exact h k hk
   .simp only[e4,if_false];exact h i hi
theorem DH{p:Int}(hp:lL p=true){m n:Nat}{F:Nat->Nat->Int}(hin:wF p m n F)(x:Nat->Int):∀t,t<=n->(Kr p m n (bK p m F t).1 x↔Kr p m n F x)
 |0,_=>Iff.rfl
 |t+1,ht=>by
  have ih:=DH hp hin x t (by omega);have hin2:=xB (by have:=fN hp;omega:0<p) hin t;have hlen:=@yH p m F t;show Kr p m n (kJ p m (bK p m F t) t).1 x↔_;unfold kJ;split
  .exact ih
  .rename_i h1;have hle:=@FE (bK p m F t).1 t (m-(bK p m F t).2.length) (bK p m F t).2.length;have hh:=@Jb (bK p m F t).1 t (m-(bK p m F t).2.length) (bK p m F t).2.length (by omega);refine Iff.trans ?_ ih;exact aBi hp (by omega) (by omega) (by omega) hin2 hh x
def kx(F:Nat->Nat->Int)(L:List Nat)(k:Nat):Nat->Int:=λc=>if c=k then 1 else -(sN (λi=>if L[i]?.getD 0=c then F i k else 0) L.length)
theorem aGF{F:Nat->Nat->Int}{L:List Nat}{k c:Nat}(hc:c≠k)(hL:∀i,i<L.length->L[i]?.getD 0≠c):kx F L k c=0:=by
 unfold kx;rw[aQ hc,cD (g:=λ_=>0) λi hi=>aQ (hL i hi),wG];rfl
theorem Yo{F:Nat->Nat->Int}{L:List Nat}{k:Nat}:kx F L k k=1:=aP rfl
theorem QM{m n:Nat}{F:Nat->Nat->Int}{L:List Nat}(h:Red m n F L){k:Nat}(hk:k<n)(hL:∀i,i<L.length->L[i]?.getD 0≠k)(g:Nat->Int):dt n g (kx F L k)=g k-sN (λi=>g (L[i]?.getD 0)*F i k) L.length:=by
 have key:∀a,a<=L.length->sN (λc=>g c*(if c=k then 1 else -(sN (λi=>if L[i]?.getD 0=c then F i k else 0) a))) n=g k-sN (λi=>g (L[i]?.getD 0)*F i k) a:=by
  intro a;induction a with
  |zero=>
   intro _;rw[BT (j:=k) hk]
   .rw[aP rfl];simp[sN]
   .intro c hc hck;rw[aQ hck];simp[sN]
  |succ a ih=>
   intro ha;have ih:=ih (by omega);have hlt:=h.lt a (by omega);have hne:=hL a (by omega)
   have e:sN (λc=>g c*(if c=k then 1 else -(sN (λi=>if L[i]?.getD 0=c then F i k else 0) (a+1)))) n
     =sN (λc=>g c*(if c=k then 1 else -(sN (λi=>if L[i]?.getD 0=c then F i k else 0) a))+(if c=L[a]?.getD 0 then -(g c*F a k)else 0)) n:=by
    refine cD λc hc=>?_;by_cases e1:c=k
    .rw[aP e1,aP e1,aQ (by omega)];omega
    .rw[aQ e1,aQ e1];simp only[sN];by_cases e2:c=L[a]?.getD 0
     .rw[aP e2,aP e2.symm,Int.neg_add,Int.mul_add,Int.mul_neg (g c) (F a k)]
     .rw[aQ e2,aQ (λh=>e2 h.symm)];simp
   rw[e,QJ,ih,BT (j:=L[a]?.getD 0) hlt (λc _ hc=>aQ hc),aP rfl];simp only[sN];omega
 have:=key L.length (bD _);exact this
theorem Iq{p:Int}{m n:Nat}{F:Nat->Nat->Int}{L:List Nat}(h:Red m n F L){k:Nat}(hk:k<n)(hL:∀i,i<L.length->L[i]?.getD 0≠k):Kr p m n F (kx F L k):=by
 intro i hi;rw[QM h hk hL];rcases dX i L.length with hl|hl
 .rw[BT (j:=i) hl]
  .rw[h.one i hl];unfold Z0;rw[Int.one_mul,Int.sub_self];simp
  .intro t ht hti;rw[h.col t i ht hi (λe=>hti e.symm)];simp
 .rw[h.low i k hl hi hk,cD (g:=λ_=>0) λt ht=>by rw[h.low i _ hl hi (h.lt t ht)];simp];rw[wG];unfold Z0;simp
theorem Tm{p:Int}(hp:lL p=true){m m' n:Nat}{F G:Nat->Nat->Int}{L M:List Nat}(hF:Red m n F L)(hG:Red m' n G M)(hK:∀x,Kr p m n F x->Kr p m' n G x){t:Nat}(ht:t<M.length):∃i,i<L.length/\L[i]?.getD 0=M[t]?.getD 0:=by
 have hb:=fN hp;refine Classical.byContradiction λhn=>?_;have hL:∀i,i<L.length->L[i]?.getD 0≠M[t]?.getD 0:=λi hi e=>hn ⟨i,hi,e⟩;have hk:=hG.lt t ht;have h1:=hK _ (Iq (p:=p) hF hk hL) t (by have:=hG.len;omega);rw[QM hF hk hL,hG.one t ht,cD (g:=λ_=>0) λi hi=>?_,wG]at h1
 .unfold Z0 at h1;rw[Int.sub_zero,Int.emod_eq_of_lt (by omega) (by omega)]at h1;cases h1
 .rcases dX (L[i]?.getD 0) (M[t]?.getD 0)with e|e
  .rw[hG.left t _ ht e];simp
  .have:=hL i hi;rw[hF.left i _ hi (by omega)];simp
theorem NH:∀{L M:List Nat},(∀i k,i<k->k<L.length->L[i]?.getD 0<L[k]?.getD 0)->(∀i k,i<k->k<M.length->M[i]?.getD 0<M[k]?.getD 0)->(∀i,i<L.length->∃j,j<M.length/\M[j]?.getD 0=L[i]?.getD 0)->(∀j,j<M.length->∃i,i<L.length/\L[i]?.getD 0=M[j]?.getD 0)->L=M
 | [],[],_,_,_,_=>rfl
 | [],y::M,_,_,_,h=>by obtain⟨i,hi,_⟩:=h 0 (by simp);simp at hi
 |x::L,[],_,_,h,_=>by obtain⟨i,hi,_⟩:=h 0 (by simp);simp at hi
 |x::L,y::M,hL,hM,h1,h2=>by
  have sL:∀i k,i<k->k<L.length->L[i]?.getD 0<L[k]?.getD 0:=λi k hik hk=>by have:=hL (i+1) (k+1) (by omega) (by simp;omega);simpa using this
  have sM:∀i k,i<k->k<M.length->M[i]?.getD 0<M[k]?.getD 0:=λi k hik hk=>by have:=hM (i+1) (k+1) (by omega) (by simp;omega);simpa using this
  have xL:∀i,i<L.length->x<L[i]?.getD 0:=λi hi=>by have:=hL 0 (i+1) (by omega) (by simp;omega);simpa using this
  have yM:∀i,i<M.length->y<M[i]?.getD 0:=λi hi=>by have:=hM 0 (i+1) (by omega) (by simp;omega);simpa using this
  have exy:x=y:=by
   obtain⟨j,hj,e1⟩:=h1 0 (by simp);obtain⟨i,hi,e2⟩:=h2 0 (by simp);simp at e1 e2
   have b1:y<=x:=by
    cases j with
    |zero=>simp at e1;omega
    |succ j=>simp at e1 hj;have:=yM j hj;omega
   have b2:x<=y:=by
    cases i with
    |zero=>simp at e2;omega
    |succ i=>simp at e2 hi;have:=xL i hi;omega
   omega
  subst exy;congr 1;refine NH sL sM (λi hi=>?_) (λj hj=>?_)
  .obtain⟨j,hj,e⟩:=h1 (i+1) (by simp;omega);simp at e;have:=xL i hi;cases j with
   |zero=>simp at e;omega
   |succ j=>simp at e hj;exact⟨j,hj,e⟩
  .obtain⟨i,hi,e⟩:=h2 (j+1) (by simp;omega);simp at e;have:=yM j hj;cases i with
   |zero=>simp at e;omega
   |succ i=>simp at e hi;exact⟨i,hi,e⟩
theorem XR{p:Int}(hp:lL p=true){m m' n:Nat}{F G:Nat->Nat->Int}{L M:List Nat}(hF:Red m n F L)(hG:Red m' n G M)(iF:wF p m n F)(iG:wF p m' n G)(hK:∀x,Kr p m n F x↔Kr p m' n G x):L=M/\∀i j,i<L.length->j<n->F i j=G i j:=by
 have e:L=M:=NH hF.inc hG.inc (λi hi=>Tm hp hG hF (λx=>(hK x).2) hi) (λj hj=>Tm hp hF hG (λx=>(hK x).1) hj);subst e;refine⟨rfl,λi k hi hk=>?_⟩;have hm:=hF.len;have hm':=hG.len;by_cases hL:∃t,t<L.length/\L[t]?.getD 0=k
 .obtain⟨t,ht,rfl⟩:=hL;by_cases e:i=t
  .subst e;rw[hF.one i hi,hG.one i hi]
  .rw[hF.col t i ht (by omega) e,hG.col t i ht (by omega) e]
 .have hL:∀t,t<L.length->L[t]?.getD 0≠k:=λt ht e=>hL ⟨t,ht,e⟩;have h1:=(hK _).1 (Iq (p:=p) hF hk hL) i (by omega);rw[QM hF hk hL,BT (j:=i) hi (λt ht hti=>by rw[hG.col t i ht (by omega) (λe=>hti e.symm)];simp),hG.one i hi,Int.one_mul]at h1;unfold Z0 at h1;have b1:=iF i k (by omega) hk;have b2:=iG i k (by omega) hk;have hd:=Int.dvd_of_emod_eq_zero h1;obtain⟨c,hc⟩:=hd
  have hc0:c=0:=by
   rcases Int.lt_trichotomy c 0 with h|h|h
   .have:=Int.mul_le_mul_of_nonneg_left (show c<= -1 by omega) (by omega:0<=p);omega
   .exact h
   .have:=Int.mul_le_mul_of_nonneg_left (show 1<=c by omega) (by omega:0<=p);omega
  subst hc0;simp at hc;omega
theorem Ha{p:Int}(hp:lL p=true){m m' n:Nat}{F G:Nat->Nat->Int}(iF:wF p m n F)(iG:wF p m' n G)(hK:∀x,Kr p m n F x↔Kr p m' n G x):(bK p m F n).2=(bK p m' G n).2/\∀i j,i<(bK p m F n).2.length->j<n->(bK p m F n).1 i j=(bK p m' G n).1 i j:=by
 have hb:=fN hp;refine XR hp (Cd hp iF n (bD _)) (Cd hp iG n (bD _)) (xB (by omega) iF n) (xB (by omega) iG n) λx=>?_;rw[DH hp iF x n (bD _),hK,DH hp iG x n (bD _)]
theorem AEff.conv{P:Program}{o:Oper}{ins:Operand->Option AV}{hp:Hp}{κ:Kp}{v v':AV}{tc:List Nat}{ed ed':List (Nat×Option Blk)}{n:List Nat}(h:AEff P o ins hp κ ⟨v,tc,ed,n⟩)(hv:v=v')(he:ed=ed'):AEff P o ins hp κ ⟨v',tc,ed',n⟩:=by subst hv;subst he;exact h
theorem AEff.val{P:Program}{o:Oper}{ins:Operand->Option AV}{hp:Hp}{κ:Kp}{v v':AV}{tc:List Nat}{ed:List (Nat×Option Blk)}{n:List Nat}(h:AEff P o ins hp κ ⟨v,tc,ed,n⟩)(hv:v=v'):AEff P o ins hp κ ⟨v',tc,ed,n⟩:=by subst hv;exact h
section
variable {P:Program}{T:List (Nat×Ty)}(hT:TyOk P T){dst:Option Tmp}{ty:TypeId}{pos:String}{aft:Array Edge}{g:Option (Nat×Bool)}{s:AState}
theorem bO{t t':TypeId}{x y:Operand}{a b:Int}(hx:s.ev x=some (.int a))(hy:s.ev y=some (.int b)):AEff P ⟨dst,.binOp .add t x y t',ty,pos,aft,g⟩ s.ev s.heap s.kp ⟨.int (wr (a+b)),[],[],[]⟩:=
 rI hx hy rfl λw=>by simp[eqGuard,binOp,Op.intArith,wr]
theorem iR{t t':TypeId}{x y:Operand}{a b:Int}(hx:s.ev x=some (.int a))(hy:s.ev y=some (.int b)):AEff P ⟨dst,.binOp .sub t x y t',ty,pos,aft,g⟩ s.ev s.heap s.kp ⟨.int (wr (a-b)),[],[],[]⟩:=
 rI hx hy rfl λw=>by simp[eqGuard,binOp,Op.intArith,wr]
theorem fW{t t':TypeId}{x y:Operand}{a b:Int}(hx:s.ev x=some (.int a))(hy:s.ev y=some (.int b)):AEff P ⟨dst,.binOp .mul t x y t',ty,pos,aft,g⟩ s.ev s.heap s.kp ⟨.int (wr (a*b)),[],[],[]⟩:=
 rI hx hy rfl λw=>by simp[eqGuard,binOp,Op.intArith,wr]
theorem aBj{t:TypeId}{x:Operand}{a:Int}(hx:s.ev x=some (.int a)):AEff P ⟨dst,.unOp .neg t x,ty,pos,aft,g⟩ s.ev s.heap s.kp ⟨.int (wr (-a)),[],[],[]⟩:=
 aBP hx rfl λw=>by simp[Op.unary,Op.intArith,wr]
theorem SY{t t':TypeId}{x y:Operand}{a b:Int}(hx:s.ev x=some (.int a))(hy:s.ev y=some (.int b))(h:(!decide (b=0))=true):AEff P ⟨dst,.binOp .quo t x y t',ty,pos,aft,g⟩ s.ev s.heap s.kp ⟨.int (wr (a.tdiv b)),[],[],[]⟩:=
 rI hx hy rfl λw=>by
  have h':b≠0:=by simpa using h
  simp[eqGuard,binOp,Op.intDiv,h',wr]
theorem GB{t t':TypeId}{x y:Operand}{a b:Int}(hx:s.ev x=some (.int a))(hy:s.ev y=some (.int b))(h:(!decide (b=0))=true):AEff P ⟨dst,.binOp .rem t x y t',ty,pos,aft,g⟩ s.ev s.heap s.kp ⟨.int (a.tmod b),[],[],[]⟩:=
 rI hx hy rfl λw=>by
  have h':b≠0:=by simpa using h
  simp[eqGuard,binOp,Op.intDiv,h']
variable {α:Type}{k:Nat}{e:α->aH}
include hT
theorem Zn{x ix:Operand}{t et:Nat}{y ye:Ty}{l:List α}{kk:IntKind}{i:Int}{v:α}(hm:cF l i=some v)(hx:s.ev x=some (.list k (l.map e)))(hix:s.ev ix=some (.sc (.int kk i)))(hy:dD T t=some y)(hd:y.desc= .slice et)(hye:dD T et=some ye)(hk:ye.size=k):
  AEff P ⟨dst,.indexAddr t x ix,ty,pos,aft,g⟩ s.ev s.heap s.kp ⟨.ref (e v),[],[],[]⟩:=Zj hT hy hd hye hk hx hix (QD hm) (aEJ hm)
theorem Gn{x ix:Operand}{t et:Nat}{y ye:Ty}{b n kz:Nat}{es:List aH}{kk:IntKind}{i:Int}(h0:0<=i)(hn:i.toNat<n)(hx:s.ev x=some (.own b 0 n))(hb:s.heap b=some ⟨kz,es⟩)(hix:s.ev ix=some (.sc (.int kk i)))(hy:dD T t=some y)(hd:y.desc= .slice et)(hye:dD T et=some ye)(hk:ye.size=kz):
  AEff P ⟨dst,.indexAddr t x ix,ty,pos,aft,g⟩ s.ev s.heap s.kp ⟨.ptr b i.toNat 0,[b],[],[]⟩:=by
 have:=VN (P:=P) hT (dst:=dst) (ty:=ty) (pos:=pos) (aft:=aft) (g:=g) hy hd hye hx hb hk hix h0 (by omega);rw[Nat.zero_add]at this;exact this
omit hT in
theorem VV:∀{cs vs:aH},cs.length=vs.length->GO cs 0 vs=vs
 | [],[],_=>rfl
 |c::cs,v::vs,h=>by simp only[GO];rw[VV (by simpa using h)]
theorem gD{t:TypeId}{y:Ty}{x z:Operand}{val:AV}{b i:Nat}{l:List α}{v u:α}(E:EOk k e)(hm:l[i]? =some v)(hc:dK val=e u)(hx:s.ev x=some (.ptr b i 0))(hb:s.heap b=some ⟨k,l.map e⟩)(hz:s.ev z=some val)(hy:dD T t=some y)(hk:y.size=k):
  AEff P ⟨dst,.store t x z,ty,pos,aft,g⟩ s.ev s.heap s.kp ⟨.dead,[b],[(b,some ⟨k,(l.set i u).map e⟩)],[]⟩:=by
 have h1:=JZ (P:=P) hT (dst:=dst) (ty:=ty) (pos:=pos) (aft:=aft) (g:=g) hx hb hz hy (by rw[hc,E.len,hk];simp) (by rw[hc,List.all_eq_true];exact λc h=>VQ (E.mem u c h) _) (cs:=e v) (by rw[List.getElem?_map,hm];rfl) (by rw[E.len,hk,Nat.zero_add];simp);rw[hc,NF (E.mem u),VV (by rw[E.len,E.len]),←List.map_set]at h1;exact h1
theorem kL{x z:Operand}{t et:Nat}{y ye:Ty}{b b' n:Nat}{l m:List α}{sv:AV}{ts:List Nat}{dty:TypeId}(E:EOk k e)(hf:decide (l.length+m.length<=4294967296)=true)(hns:s.ns.head?=some b')(hx:s.ev x=some (.own b 0 n))(hb:s.heap b=some ⟨k,l.map e⟩)(hl:l.length=n)(hz:s.ev z=some sv)(hsrc:Ca s.heap sv=some (k,m.map e,ts))
  (hy:dD T t=some y) (hd:y.desc= .slice et) (hye:dD T et=some ye) (hzl:ye.zero.length=ye.size) (hk:ye.size=k) (hby:Nat.ble ye.bytes 32768=true):
  AEff P ⟨dst,.call ⟨.builtin .append,#[x,z],#[t,t]⟩,dty,pos,aft,g⟩ s.ev s.heap s.kp ⟨.own b' 0 (l++m).length,b::ts,[(b,none),(b',some ⟨k,(l++m).map e⟩)],[b']⟩:=by
 have hf:=of_decide_eq_true hf;have hby:=Nat.le_of_ble_eq_true hby
 have h1:=SU (P:=P) hT (dst:=dst) (pos:=pos) (aft:=aft) (g:=g) (dty:=dty) hns hx hb hz hsrc hy hd hye hzl hk.symm hk.symm (by simpa using hl) (E.okE _ m) (by simp;omega) (by simp only[dT];calc (n+m.length)*ye.bytes<=4294967296*32768:=Nat.mul_le_mul (by omega) hby
                                                                                                                                                               _<=140737488355328:=by decide)
 rw[E.namesE,List.append_nil,hk,dT]at h1;rw[List.length_append,List.map_append,hl];exact h1
omit hT in
theorem XS{c:AV}(h:kR c=true):Ge (zA c)=c:=by cases c<;>simp only[kR,gC]at h<;>rfl
omit hT in
theorem aGG(E:EOk k e)(l:List α):(l.map (ow e)).map (List.map Ge)=l.map e:=by
 rw[List.map_map];refine rQ λx _=>?_;simp only[Function.comp,ow,List.map_map]
 have:∀{cs:aH},(∀c∈cs,kR c=true)->cs.map (Ge∘zA)=cs:=by
  intro cs;induction cs with
  |nil=>intro _;rfl
  |cons c cs ih=>intro h;rw[List.map_cons,ih λd hd=>h d (by simp[hd])];simp only[Function.comp];rw[XS (h c (by simp))]
 exact this (E.mem x)
omit hT in
theorem mH{h:Hp}{b n:Nat}{l:List α}(E:EOk k e)(hb:h b=some ⟨k,l.map (ow e)⟩)(hl:l.length=n):view1 h (.own b 0 n) (.list k (l.map e)):=XJ hb rfl (by simp[hl]) (E.views l)
omit hT in
theorem zR{h:Hp}{b n:Nat}{l:List α}(E:EOk k e)(hb:h b=some ⟨k,l.map (ow e)⟩)(hl:l.length=n):viewA h (.own b 0 n) (.list k (l.map e)):=mH E hb hl
omit hT in
theorem Yp{h:Hp}{b n:Nat}{l:List α}(E:EOk k e)(hb:h b=some ⟨k,l.map e⟩)(hl:l.length=n):view1 h (.own b 0 n) (.list k (l.map e)):=XJ hb rfl (by simp[hl]) (E.sames l)
omit hT in
theorem aHQ{h:Hp}{b n:Nat}{l:List α}(E:EOk k e)(hb:h b=some ⟨k,l.map e⟩)(hl:l.length=n):viewA h (.own b 0 n) (.list k (l.map e)):=Yp E hb hl
omit hT in
theorem dF{h:Hp}{b n:Nat}{l:List α}(E:EOk k e)(hb:h b=some ⟨k,l.map (ow e)⟩)(hl:l.length=n):Ku h (.own b 0 n) (.list k (l.map e)):=⟨rfl,_,hb,by simp[hl],rfl,E.frzs l⟩
end
theorem dO{h:Hp}:All2 (Ku h) [] []:=rfl
theorem aO{h:Hp}{x d:AV}{xs ds:aH}(a:Ku h x d)(b:All2 (Ku h) xs ds):All2 (Ku h) (x::xs) (d::ds):=⟨d,ds,rfl,a,b⟩
theorem oI{h:Hp}{cs ds:aH}(a:All2 (Ku h) cs ds):Pz h [.agg cs] (.agg ds):=⟨a,by intro _ h;cases h⟩
theorem mI{h:Hp}{x:AV}{k:Nat}{es:List aH}(a:Ku h x (.list k es)):Pz h [x] (.list k es):=by
 refine⟨?_,by intro _ h;cases h⟩;cases x<;>exact a
theorem hJ{h:Hp}{x d:AV}(a:Ku h x d):Oc h x d:=by
 unfold Oc;split
 .exact a.elim
 .exact a
theorem iB{h:Hp}{cs ds:aH}(a:All2 (Ku h) cs ds):Oc h (.agg cs) (.agg ds):=a
theorem dQ{h:Hp}:All2 (Oc h) [] []:=rfl
theorem bA{h:Hp}{x d:AV}{xs ds:aH}(a:Oc h x d)(b:All2 (Oc h) xs ds):All2 (Oc h) (x::xs) (d::ds):=⟨d,ds,rfl,a,b⟩
theorem cB{h:Hp}{vs rs:aH}(hl:Nat.beq vs.length 1=false)(a:All2 (Oc h) vs rs):Pz h vs (.tuple rs):=by
 have h1:vs.length≠1:=by intro e;rw[e]at hl;cases hl
 cases vs with
 |nil=>exact⟨h1,a⟩
 |cons v vs=>
  cases vs with
  |nil=>exact absurd rfl h1
  |cons u vs=>exact⟨h1,a⟩
section
variable {s:AState}
theorem eV{b b' j n k k':Nat}{A es es':List aH}{c:aH}(hb:s.heap b=some ⟨k,A++[c]⟩)(hj:c[j]? =some (.own b' 0 n))(hb':s.heap b'=some ⟨k',es⟩)(hne:Nat.beq b b'=false)(hn:es.length=n)(hf:All2 (All2 Ig) es es'):
  Ent s ⟨s.env,bB [(b',none),(b,some ⟨k,A++[GO c j [.abs k' es']]⟩)] s.heap,s.used,s.ns,s.kp⟩:=by
 have h:=Fz (i:=A.length) hb (by simp) hj hb' hne hn rfl hf;have e:(A++[c]).set A.length (GO c j [.abs k' es'])=A++[GO c j [.abs k' es']]:=by rw[List.set_append_right _ _ (bD _),Nat.sub_self];rfl
 simp only[e]at h;exact h
theorem DY{b b' i j n k k':Nat}{A es es':List aH}{c:aH}(hi:i<A.length)(hb:s.heap b=some ⟨k,A.set i c⟩)(hj:c[j]? =some (.own b' 0 n))(hb':s.heap b'=some ⟨k',es⟩)(hne:Nat.beq b b'=false)(hn:es.length=n)(hf:All2 (All2 Ig) es es'):
  Ent s ⟨s.env,bB [(b',none),(b,some ⟨k,A.set i (GO c j [.abs k' es'])⟩)] s.heap,s.used,s.ns,s.kp⟩:=by
 have h:=Fz (i:=i) hb (by simp[hi]) hj hb' hne hn rfl hf;simp only[List.set_set]at h;exact h
end
theorem bH{α β:Type}(f:α->β)(l:List α):(l.map f).length=l.length:=dT ..
theorem fC:Tryz.prog.follows .mixedOrders=true:=by kernel_rfl
abbrev VW(b:ByteArray):aH:=[.str b]
def dJ{α:Type}(k:Nat)(e:α->aH)(l:List α):aH:=[.list k (l.map e)]
theorem cH:EOk 1 eI:=⟨λ_=>rfl,λ_=>rfl⟩
theorem VX:EOk 1 VW:=⟨λ_=>rfl,λ_=>rfl⟩
theorem fX{α:Type}{k:Nat}{e:α->aH}:EOk 1 (dJ k e):=⟨λ_=>rfl,λ_=>rfl⟩
theorem eK:EOk 3 eM:=⟨λ_=>rfl,λ_=>rfl⟩
theorem mZ:EOk 2 eS:=⟨λ_=>rfl,λ_=>rfl⟩
theorem kB:EOk 1 (ow eI):=⟨λ_=>rfl,λ_=>rfl⟩
theorem aBk:EOk 1 (ow VW):=⟨λ_=>rfl,λ_=>rfl⟩
theorem EOk.own{α:Type}{k:Nat}{e:α->aH}(E:EOk k e)(h:∀x,(ow e x).all kR=true):EOk k (ow e):=⟨λx=>by simp[ow,E.len],h⟩
theorem CU{nb nb':List (Nat×Blk)}{ed:List (Nat×Option Blk)}(h:nb=nb')(e:tE nb'=ed:=by rfl):tE nb=ed:=by rw[h];exact e
theorem vC(σ:Nat->Option Nat){n:Nat}{cs:aH}(h:cs.all eC=true):All2 (gZ σ n) cs cs:=by
 induction cs with
 |nil=>rfl
 |cons c cs ih=>
  simp only[List.all_cons,bX]at h;refine⟨c,cs,rfl,?_,ih h.2⟩;cases c<;>simp only[eC,gC,false_and]at h<;>simp[gZ]
theorem Tn{α:Type}{e:α->aH}{z:α}(n:Nat):List.replicate n (ow e z)=(List.replicate n z).map (ow e):=(List.map_replicate ..).symm
section
variable {h:Hp}
theorem To{k b n:Nat}{es fs:List aH}(hb:h b=some ⟨k,es⟩)(hn:n=es.length)(v:All2 (All2 view0) es fs):view1 h (.own b 0 n) (.list k fs):=XJ hb rfl hn v
theorem XT{k b n:Nat}{es fs:List aH}(hb:h b=some ⟨k,es⟩)(hn:n=es.length)(v:All2 (All2 view0) es fs):viewA h (.own b 0 n) (.list k fs):=To hb hn v
theorem GC:All2 (viewP h) [] []:=rfl
theorem DI{x d:AV}{xs ds:aH}(a:viewP h x d)(b:All2 (viewP h) xs ds):All2 (viewP h) (x::xs) (d::ds):=⟨d,ds,rfl,a,b⟩
theorem aEN{c:AV}(p:eC c=true):viewP h c c:=by cases c<;>simp only[eC,gC]at p<;>simp[viewP,view1,view0]
theorem GQ{b:Nat}{blk:Blk}{c cs:aH}(hb:h b=some blk)(hi:blk.es[0]? =some c)(v:All2 (view1 h) c cs):viewP h (.ptr b 0 0) (.ref cs):=⟨blk,c,hb,hi,v⟩
theorem OO{f:FuncId}{cs ds:aH}(v:All2 (viewP h) cs ds):viewA h (.fn f cs) (.fn f ds):=⟨rfl,v⟩
theorem QN:∀{cs:aH},cs.all eC=true->All2 (viewP h) cs cs
 | [],_=>rfl
 |c::cs,p=>by simp only[List.all_cons,bX]at p;exact⟨c,cs,rfl,aEN p.1,QN p.2⟩
theorem XU{f:FuncId}{cs:aH}(p:cs.all eC=true):viewA h (.fn f cs) (.fn f cs):=⟨rfl,QN p⟩
end
theorem BU:OL (.agg []):=by intro _ h;cases h
theorem cX{c:AV}{cs:aH}(a:VI c)(b:OL (.agg cs)):OL (.agg (c::cs)):=by
 intro d hd;rcases eO.1 hd with rfl|h
 .exact a
 .exact b d h
theorem Dn:ON (.tuple []):=by intro _ h;cases h
theorem iM{c:AV}{cs:aH}(a:OL c)(b:ON (.tuple cs)):ON (.tuple (c::cs)):=by
 intro d hd;rcases eO.1 hd with rfl|h
 .exact a
 .exact b d h
section
variable {P:Program}{T:List (Nat×Ty)}{dst:Option Tmp}{ty:TypeId}{pos:String}{aft:Array Edge}{g:Option (Nat×Bool)}{s:AState}
theorem FH(hT:TyOk P T){t e:TypeId}{y ye:Ty}{l c:Operand}{kl kc:IntKind}{n:Int}{b:Nat}(q:(decide (0<=n)&&decide (n<=1048576))=true)(hns:s.ns.head?=some b)(hl:s.ev l=some (.sc (.int kl n)))(hc:s.ev c=some (.sc (.int kc n)))(hy:dD T t=some y)(hd:y.desc= .slice e)(hye:dD T e=some ye)(hz:ye.zero.length=ye.size)(hb:Nat.ble ye.bytes 32768=true):
  AEff P ⟨dst,.makeSlice t l c,ty,pos,aft,g⟩ s.ev s.heap s.kp ⟨.own b 0 n.toNat,[],[(b,some ⟨ye.size,List.replicate n.toNat ye.zero⟩)],[b]⟩:=by
 simp only[bX,eD]at q;refine aGD hT hns hl hc hy hd hye hz q.1 (by omega) ?_;have hb:=Nat.le_of_ble_eq_true hb
 calc n.toNat*ye.bytes<=1048576*32768:=Nat.mul_le_mul (by omega) hb
  _<=140737488355328:=by decide
theorem Jd{fo:Operand}{xs:Array Operand}{ats:Array TypeId}{f:FuncId}{caps avs ds1:aH}{u:Value}(hcap:caps.all eC=true)(hc:HasC P f (ds1++caps) (.sc u))(hf:s.ev fo=some (.fn f caps))(hx:Ia s.ev xs.toList=some avs)(hv1:All2 (viewA s.heap) avs ds1):
  AEff P ⟨dst,.call ⟨.value fo,xs,ats⟩,ty,pos,aft,g⟩ s.ev s.heap s.kp ⟨.sc u,avs.flatMap (lX s.heap)++caps.flatMap (nP s.heap),[],[]⟩:=
 Py (ds1:=ds1) (ds2:=caps) (ns:=[]) (nb:=[]) (r:=.sc u) (x:=.sc u) hf hx hc hv1 (QN hcap) trivial (Ti [] u) rfl (by simp)
end
def oF(σ:Nat->Option Nat)(ν:Nu):Nu:=⟨λb=>match σ b with|some b0=>ν b0|none=>none,ν.ok⟩
structure Conv(σ:Nat->Option Nat)(n:Nat)(w:World)(h:Hp)(u:Us)(ν:Nu)(hl:List (Nat×Blk)):Prop where
 free:∀x,vI h ν x->vI (hZ hl) (oF σ ν) x
 rep:∀{x y:AV}{v:Value},RepA w h u ν x v->rR σ n x y->RepA w (hZ hl) (yG n) (oF σ ν) y v
 heap:∀{M:Nat->Prop}{φ:Nat->List Nat},HeapOk M w h u ν φ->HeapOk M w (hZ hl) (yG n) (oF σ ν) (λb=>match σ b with|some b0=>φ b0|none=>[])
 look:∀b y,hZ hl b=some y->(∀b0,σ b=some b0->∃x,h b0=some x/\x.k=y.k/\x.es.length=y.es.length)/\Nat.blt b n=true
theorem Je{σ:Nat->Option Nat}{n:Nat}{w:World}{h:Hp}{u:Us}{ν:Nu}{hl:List (Nat×Blk)}(hh:pJ σ n h hl)(hi:Ea σ hl=true):Conv σ n w h u ν hl:=by
 generalize hν':oF σ ν=ν';have hνok:ν'.ok=ν.ok:=by rw[←hν'];rfl
 have hνb:∀b,ν' b=match σ b with|some b0=>ν b0|none=>none:=λb=>by rw[←hν'];rfl
 have hlive:∀b y,hZ hl b=some y->(match σ b with|some b0=>∃x,h b0=some x/\Kt σ n x y|none=>y.es=[])/\Nat.blt b n=true:=λb y h=>Pt hh (qD h)
 have hlen:∀{x y:Blk},Kt σ n x y->x.k=y.k/\x.es.length=y.es.length:=by
  rintro x y ⟨h1,h2|h2⟩
  .exact⟨h1,by rw[h2.1]⟩
  .exact⟨h1,h2.len.symm⟩
 have hfree:∀x,vI h ν x->vI (hZ hl) ν' x:=by
  intro x hf b y β c hb hν;have h1:=(hlive b y hb).1;cases hσ:σ b with
  |none=>simp only[hνb,hσ]at hν;cases hν
  |some b0=>
   rw[hσ]at h1;simp only[hνb,hσ]at hν;obtain⟨z,h2,_⟩:=h1;exact hf b0 z β c h2 hν
 have m1:∀{x y:AV}{v:Value},Rep1 w h u ν x v->gZ σ n x y->Rep1 w (hZ hl) (yG n) ν' y v:=by
  intro x y v r m;cases y
  case dead=>trivial
  case sc u=>cases x<;>simp only[gZ]at m<;>first|exact m.elim|(subst m;exact r)
  case nil k=>cases x<;>simp only[gZ]at m<;>first|exact m.elim|exact r
  case list k es=>
   cases x<;>simp only[gZ]at m<;>first|exact m.elim|skip
   .subst m;simp only[Rep1]at r ⊢;exact⟨[],by rw[r];exact Gg,by simp⟩
   .obtain⟨rfl,rfl⟩:=m;obtain⟨S,r1,r2⟩:=r;exact⟨S,r1,λx hx=>⟨hfree x (r2 x hx).1,by rw[hνok];exact(r2 x hx).2⟩⟩
  case ref cs=>
   cases x<;>simp only[gZ]at m<;>first|exact m.elim|skip
   subst m;obtain⟨S,r1,r2⟩:=r;exact⟨S,r1,λx hx=>⟨hfree x (r2 x hx).1,by rw[hνok];exact(r2 x hx).2⟩⟩
  case own b i q=>
   cases x<;>simp only[gZ]at m<;>first|exact m.elim|skip
   .obtain⟨m1,rfl,rfl,m4⟩:=m;simp only[Rep1]at r ⊢;refine⟨m4,λblk hb=>?_⟩;have h1:=(hlive b blk hb).1;rw[m1]at h1;refine⟨by simp,λ_=>r,λβ c hν=>?_⟩;simp only[hνb,m1]at hν;cases hν
   .rename_i b0 i0 q0;obtain⟨m1,rfl,rfl,m4⟩:=m;simp only[Rep1]at r ⊢;refine⟨m4,λblk hb=>?_⟩;have h1:=(hlive b blk hb).1;rw[m1]at h1;obtain⟨z,h2,h3⟩:=h1;obtain⟨k1,k2⟩:=hlen h3;obtain⟨r1,r2,r3⟩:=r.2 z h2;refine⟨by rw[←k2];exact r1,λhν=>r2 (by simpa only[hνb,m1]using hν),λβ c hν=>?_⟩;rw[←k1];exact r3 β c (by simpa only[hνb,m1]using hν)
  case ptr b i q=>
   cases x<;>simp only[gZ]at m<;>first|exact m.elim|skip
   rename_i b0 i0 q0;obtain⟨m1,rfl,rfl,m4⟩:=m;simp only[Rep1]at r ⊢;refine⟨m4,λblk hb=>?_⟩;have h1:=(hlive b blk hb).1;rw[m1]at h1;obtain⟨z,h2,h3⟩:=h1;obtain⟨k1,k2⟩:=hlen h3;obtain⟨β,c,r1,r2⟩:=r.2 z h2;exact⟨β,c,by simpa only[hνb,m1]using r1,by rw[←k1];exact r2⟩
  all_goals (cases x<;>simp only[gZ]at m)
 have mL:∀{xs ys:aH}{vs:List Value},All2 (Rep1 w h u ν) xs vs->All2 (gZ σ n) xs ys->All2 (Rep1 w (hZ hl) (yG n) ν') ys vs:=by
  intro xs;induction xs with
  |nil=>intro ys vs r m;simp only[All2]at r m;subst r m;rfl
  |cons x xs ih=>
   rintro ys vs ⟨v,r,rfl,h1,h2⟩ ⟨y,q,rfl,k1,k2⟩;exact⟨v,r,rfl,m1 h1 k1,ih h2 k2⟩
 have mC:∀{x y:AV}{v:Value}{S:List Nat},CellRep w h u ν x v S->pI σ n x y->CellRep w (hZ hl) (yG n) ν' y v S:=by
  intro x y v S r m
  cases x<;>cases y<;>simp only[pI]at m<;>simp only[CellRep]at r ⊢ <;>first
   |exact m.elim
   |exact r.elim
   |exact⟨m1 r.1 m,r.2⟩
   |(obtain⟨rfl,m⟩:=m;obtain⟨⟨vs,r1,r2⟩,r3⟩:=r;exact⟨⟨vs,r1,mL r2 m⟩,r3⟩)
   |(obtain⟨rfl,rfl⟩:=m;exact r)
   |(obtain⟨r1,rfl⟩:=r;subst m;simp only[Rep1]at r1;rw[r1];exact Ll)
   |(simp only[gZ]at m)
 have mCs:∀{xs ys:aH}{vs:List Value}{S:List Nat},CellsRep w h u ν xs vs S->All2 (pI σ n) xs ys->CellsRep w (hZ hl) (yG n) ν' ys vs S:=by
  intro xs;induction xs with
  |nil=>intro ys vs S r m;simp only[All2]at m;subst m;exact r
  |cons x xs ih=>
   rintro ys vs S ⟨v,r,S1,S2,rfl,rfl,h1,h2⟩ ⟨y,q,rfl,k1,k2⟩;exact⟨v,r,S1,S2,rfl,rfl,mC h1 k1,ih h2 k2⟩
 have mSelf:∀{xs:aH}{vs:List Value}{S:List Nat},CellsRep w h u ν xs vs S->(∀c∈xs,zP c=true)->CellsRep w (hZ hl) (yG n) ν' xs vs S:=by
  intro xs vs S r hp;refine mCs r ?_;clear r;induction xs with
  |nil=>rfl
  |cons x xs ih=>
   refine⟨x,xs,rfl,?_,ih (λc hc=>hp c (by simp[hc]))⟩;have:=hp x (by simp);cases x<;>simp only[zP,gC]at this<;>simp[pI,gZ]
 have mFlat:∀{es fs:List aH}{R:AV->AV->Prop},All2 (All2 R) es fs->All2 R es.flatten fs.flatten:=by
  intro es;induction es with
  |nil=>intro fs R h;simp only[All2]at h;subst h;rfl
  |cons c es ih=>
   rintro fs R ⟨d,fs',rfl,h1,h2⟩;rw[List.flatten_cons,List.flatten_cons];exact h1.append (ih h2)
 have mlens:∀{es fs:List aH}{k:Nat},All2 (All2 (pI σ n)) es fs->(∀cs∈es,cs.length=k)->∀cs∈fs,cs.length=k:=by
  intro es;induction es with
  |nil=>intro fs k h _ cs hcs;simp only[All2]at h;subst h;cases hcs
  |cons c es ih=>
   rintro fs k ⟨d,fs',rfl,h1,h2⟩ hk cs hcs;rcases eO.1 hcs with rfl|h
   .rw[h1.len];exact hk c (by simp)
   .exact ih h2 (λx hx=>hk x (by simp[hx])) cs h
 subst hν';refine⟨hfree,?_,?_,λb y hb=>⟨λb0 e=>?_,(hlive b y hb).2⟩⟩
 .intro x y v h4 h2
  cases x<;>cases y<;>simp only[rR]at h2<;>simp only[RepA,RepB]at h4 ⊢ <;>first
   |exact m1 h4 h2
   |(obtain⟨vs,e1,e2⟩:=h4;exact⟨vs,e1,mL e2 h2⟩)
   |(obtain⟨vs,e1,e2⟩:=h4;obtain⟨rfl,h2⟩:=h2;exact⟨vs,e1,mL e2 h2⟩)
   |trivial
   |(simp only[gZ]at h2)
 .intro M φ hφ;refine⟨?_,?_⟩
  .intro b y hb;obtain⟨h1,h2⟩:=hlive b y hb;refine⟨h2,?_⟩;cases hσ:σ b with
   |none=>
    rw[hσ]at h1;simp only;exact⟨⟨by rw[h1];simp,.inl ⟨by simp only[hνb,hσ],h1,rfl⟩⟩,by simp,by simp⟩
   |some b0=>
    rw[hσ]at h1;simp only;obtain⟨x,h3,h4⟩:=h1;obtain⟨g1,⟨g2,g3⟩,g4,g5⟩:=hφ.blk b0 x h3;obtain⟨k1,k2⟩:=hlen h4;refine⟨⟨?_,?_⟩,g4,g5⟩
    .rcases h4.2 with ⟨e1,_⟩|e1
     .rw[←e1,←k1];exact g2
     .rw[←k1];exact mlens e1 g2
    .rcases g3 with ⟨q1,q2,q3⟩|⟨β,c,arr,ty,T,vs,q1,q2,q3,q4,q5,q6,q7,q8⟩
     .exact .inl ⟨by simp only[hνb,hσ];exact q1,by rw[q2]at k2;exact List.eq_nil_of_length_eq_zero k2.symm,q3⟩
     .refine .inr ⟨β,c,arr,ty,T,vs,by simp only[hνb,hσ];exact q1,q2,by rw[←k1];exact q3,by rw[←k2];exact q4,q5,q6,by rw[←k1,←k2];exact q7,?_⟩;rcases h4.2 with ⟨e1,e2⟩|e1
      .rw[e1]at q8;exact mSelf q8 (λc hc=>by obtain⟨cs,hcs,hc'⟩:=List.mem_flatten.1 hc;exact e2 cs hcs c hc')
      .exact mCs q8 (mFlat e1)
  .intro b c z hb hc hne hzb hzc;obtain⟨y1,hy1⟩:=Option.ne_none_iff_exists'.1 hb;obtain⟨y2,hy2⟩:=Option.ne_none_iff_exists'.1 hc;have i1:=(Pu hi (qD hy1) (qD hy2)).2 hne;have l1:=(hlive b y1 hy1).1;have l2:=(hlive c y2 hy2).1;cases h1:σ b with
   |none=>rw[h1]at hzb;cases hzb
   |some b0=>
    cases h2:σ c with
    |none=>rw[h2]at hzc;cases hzc
    |some c0=>
     rw[h1]at hzb l1;rw[h2]at hzc l2;obtain⟨x1,p1,_⟩:=l1;obtain⟨x2,p2,_⟩:=l2;exact hφ.apart b0 c0 z (by rw[p1];simp) (by rw[p2];simp) (λe=>i1 b0 h1 (by rw[h2,e])) hzb hzc
 .have h1:=(hlive b y hb).1;rw[e]at h1;obtain⟨x,h2,h3⟩:=h1;exact⟨x,h2,(hlen h3).1,(hlen h3).2⟩
structure HasE(P:Program)(f:FuncId)(ds:aH)(hl:List (Nat×Blk))(kp:Nat)(r:AV)(hl':List (Nat×Blk)):Prop where
 enters:Enters P f
 calls:∀(B:Nat)(M:Nat->Prop)(w:World)(args:Array Value)(ν:Nu)(φ:Nat->List Nat),(∀x,M x->B<=x)->B<=w.heap.size->(∀x,w.heap.size<=x->M x)->(∀x,M x->ν.ok x)->All2 (RepA w (hZ hl) (yG kp) ν) ds args.toList->HeapOk M w (hZ hl) (yG kp) ν φ->
  Calls P f args w λe w'=>∃v u' ν' φ',e= .returned v/\Below B w w'/\Ext w (hZ hl) (yG kp) ν w' (hZ hl') u' ν'/\HeapOk M w' (hZ hl') u' ν' φ'/\RepA w' (hZ hl') u' ν' r v
def VY:AV->Bool
 | .tuple _=>false
 |_=>true
def aGH(vs:aH)(r:AV):Prop:=(vs=[r])∨(vs.length≠1/\vs.all VY=true/\r= .tuple vs)
def aBl(h:Hp):List (Nat×Blk)->Prop
 | []=>True
 |(b,y)::r=>h b=some y/\aBl h r
theorem SZ{h:Hp}:∀{l:List (Nat×Blk)},aBl h l->∀{b:Nat}{y:Blk},(b,y)∈l->h b=some y
 |(c,z)::r,⟨h1,h2⟩,b,y,hm=>by
  rcases eO.1 hm with e|hm'
  .obtain⟨rfl,rfl⟩:=Prod.mk.inj e;exact h1
  .exact SZ h2 hm'
def aIQ(T:List (Nat×Ty))(rvs:List ResultVar)(r:AV)(hl':List (Nat×Blk))(e:Exit)(t:AState):Prop:=Ih e=true/\(∃vs,DG T t rvs=some vs/\aGH vs r)/\aBl t.heap hl'
theorem Ext.shrink{w w':World}{h h' g:Hp}{u u':Us}{ν ν':Nu}(e:Ext w h u ν w' h' u' ν')(hg:∀b blk,g b=some blk->h' b=some blk):Ext w h u ν w' g u' ν':=
 ⟨e.used,λb blk hb hgb=>e.old b blk hb (hg b blk hgb),λx hx hf=>⟨(e.free x hx hf).1,λb blk β c hb hν=>(e.free x hx hf).2 b blk β c (hg b blk hb) hν⟩,e.okE⟩
theorem HeapOk.shrink{M M':Nat->Prop}{w:World}{h g:Hp}{u:Us}{ν:Nu}{φ:Nat->List Nat}(hh:HeapOk M w h u ν φ)(hg:∀b blk,g b=some blk->h b=some blk)(hM:∀b x,g b≠none->x∈φ b->M x->M' x):HeapOk M' w g u ν φ where
 blk:=λb blk hb=>by
  obtain⟨g1,g2,g3,g4⟩:=hh.blk b blk (hg b blk hb);exact⟨g1,g2.ext ((Ext.refl w h u ν).shrink hg) rfl (λ_ _=>rfl),g3,λx hx=>hM b x (by rw[hb];simp) hx (g4 x hx)⟩
 apart:=λb c x hb hc hne hxb hxc=>by
  obtain⟨y1,h1⟩:=Option.ne_none_iff_exists'.1 hb;obtain⟨y2,h2⟩:=Option.ne_none_iff_exists'.1 hc;exact hh.apart b c x (by rw[hg b y1 h1];simp) (by rw[hg c y2 h2];simp) hne hxb hxc
theorem MA:∀{l:aH}{t:Nat},Ii l t=l[t]?
 | [],_=>by simp[Ii]
 |_::_,0=>by simp[Ii]
 |_::r,t+1=>by simpa [Ii]using MA (l:=r) (t:=t)
theorem aGI{w:World}{h:Hp}{u:Us}{ν:Nu}{x:AV}{v:Value}(r:RepA w h u ν x v)(hx:VY x=true):RepB w h u ν x v:=by
 cases x<;>first|exact r|cases hx
theorem fF{P:Program}{T:List (Nat×Ty)}(hT:TyOk P T){f:FuncId}{fn:Func}{c:Code}{nt kp:Nat}{ds:aH}{hl hl':List (Nat×Blk)}{r:AV}{rvs:List ResultVar}{ns:List Nat}(hf:P.funcs[f]? =some fn)(hb:fn.body=some c)(hname:(fn.name== "runtime.NumGoroutine")=false)(hnt:fn.ntmps=nt)(hres:fn.results.toList=rvs)
  (hlen:Nat.ble ds.length nt=true) (h:AC P nt c ⟨Ii ds,hZ hl,yG kp,ns,⟨kp,false,none,true⟩⟩ (λe t=>∃t',Ent t t'/\aIQ T rvs r hl' e t')):HasE P f ds hl kp r hl':=by
 refine⟨Enters.mk hf (by rw[hb];rfl) hname,λB M w args ν φ hMB hB hM hMo hargs hheap=>?_⟩;refine(callsIn_wide (n:=0)).1 (callsIn_of_wp_marks (F:=fw none) hf hb trivial ?_);have hlen':=Nat.le_of_ble_eq_true hlen;have hal:args.size=ds.length:=by have:=hargs.len;simpa using this
 let C:Ctx:=⟨B,w,nt,M,hMB,⟨kp,false,none,true⟩,w,hZ hl,ν,vI (hZ hl) ν,(λh=>by cases h),(λ_ h=>by cases h),none,λ_=>rfl⟩
 have hsim:Sim C ⟨Ii ds,hZ hl,yG kp,ns,⟨kp,false,none,true⟩⟩ ν ⟨args++Array.replicate (fn.ntmps-args.size) undef,[]⟩ w:=by
  refine⟨Below.refl _ _,hB,hM,yE,by show(args++Array.replicate (fn.ntmps-args.size) undef).size=nt;simp[hnt];omega,?_,⟨φ,hheap⟩,rfl,ExtF.refl λ_ _ h=>h,bD _,hMo,λ_ h=>by cases h⟩;intro t x hx;have hx':ds[t]? =some x:=by rw[←MA];exact hx
  obtain⟨v,h1,h2⟩:=hargs.get hx';refine⟨v,?_,h2⟩
  have hlt:t<args.size:=by
   rcases dX t args.size with h'|h'
   .exact h'
   .rw[jX (by simpa using h')]at h1;cases h1
  show(args++Array.replicate (fn.ntmps-args.size) undef)[t]? =some v;rw[Array.getElem?_append_left hlt];simpa using h1
 refine wpIn_mono (h.out C rfl _ _ w hsim 0) λe a' w0 ⟨s1,ν1,⟨s',hent,hq⟩,hs1⟩=>?_;obtain⟨ν',hs0⟩:=hent C ν1 a' w0 hs1;obtain⟨Ds,d1,d2,d3⟩:=hs0.defers;obtain⟨w',hs',hleave⟩:=hs0.leave (P:=P) (n:=0) d1 d2 d3;obtain⟨he,⟨avs,hv,hone⟩,hsame⟩:=hq;have hsub:∀b blk,hZ hl' b=some blk->s'.heap b=some blk:=λb blk hb=>SZ hsame (qD hb);obtain⟨us,h1,h2⟩:=DV hT hs' hv;obtain⟨φ',hh⟩:=hs'.heap
 have hrun:(results fn a'.tmps).run P w'= .ok (if hh:us.toArray.size=1 then us.toArray[0]else .tuple us.toArray) w':=by
  unfold results;rw[Sem.run_bind,Array.mapM_eq_mapM_toList,Sem.run_map,hres];have h1':=h1;generalize hq:(List.mapM _ rvs:Sem (List Value))=m;rw[show Sem.run P m w'= .ok us w' by rw[←hq];exact h1'];simp
 have shr:=(Ext.refl w' s'.heap s'.used ν').shrink hsub
 have hrep:RepA w' (hZ hl') s'.used ν' r (if hh:us.toArray.size=1 then us.toArray[0]else .tuple us.toArray):=by
  rcases hone with rfl|⟨g1,g2,rfl⟩
  .obtain⟨u,q,rfl,k1,k2⟩:=h2;simp only[All2]at k2;subst k2;exact k1.ext shr
  .have hul:us.length=avs.length:=h2.len;rw[dif_neg (by simp;rw[hul];exact g1)];refine⟨us,rfl,h2.congrM λx hx v hr=>?_⟩;exact aGI (hr.ext shr) (List.all_eq_true.1 g2 x hx)
 have hend:=hleave fn (λe w'=>∃v u' ν' φ',e= .returned v/\Below B w w'/\Ext w (hZ hl) (yG kp) ν w' (hZ hl') u' ν'/\HeapOk M w' (hZ hl') u' ν' φ'/\RepA w' (hZ hl') u' ν' r v)
  ⟨_,hrun,_,s'.used,ν',φ',rfl,hs'.below,hs'.ext.ext.shrink hsub,hh.shrink hsub (λ_ _ _ _ h=>h),hrep⟩
 cases e<;>simp only[Ih,gC]at he<;>exact hend
def MB(rl:List Nat):AV->Bool
 | .sc _=>true
 | .nil _=>true
 | .own b _ _=>rl.contains b
 | .ptr b _ _=>rl.contains b
 |_=>false
def Sa(rl:List Nat):AV->Bool
 | .abs _ _=>true
 | .fn _ cs=>cs.all (MB rl)
 |x=>MB rl x
def Sb(rl:List Nat):AV->Bool
 | .agg cs=>cs.all (MB rl)
 |x=>MB rl x
def Sd(rl:List Nat):AV->Bool
 | .tuple cs=>cs.all (Sb rl)
 |x=>Sb rl x
def QO(rl:List Nat):List (Nat×Blk)->Prop
 | []=>True
 |(b,y)::r=>rl.contains b=true/\(∀cs∈y.es,∀c∈cs,Sa rl c=true)/\QO rl r
theorem NI{rl:List Nat}:∀{l:List (Nat×Blk)},QO rl l->∀{b:Nat}{y:Blk},(b,y)∈l->rl.contains b=true/\∀cs∈y.es,∀c∈cs,Sa rl c=true
 |(c,z)::r,⟨h1,h2,h3⟩,b,y,hm=>by
  rcases eO.1 hm with e|hm'
  .obtain⟨rfl,rfl⟩:=Prod.mk.inj e;exact⟨h1,h2⟩
  .exact NI h3 hm'
theorem EOk.tame{α:Type}{k:Nat}{e:α->aH}(E:EOk k e)(rl:List Nat)(l:List α):∀cs∈l.map (ow e),∀c∈cs,Sa rl c=true:=by
 intro cs hcs c hc;obtain⟨x,_,rfl⟩:=List.mem_map.1 hcs;obtain⟨d,hd,rfl⟩:=List.mem_map.1 hc;have:=E.mem x d hd;cases d<;>simp only[kR,gC]at this<;>rfl
def BV(σ:Nat->Option Nat)(touch:List Nat):List (Nat×Blk)->Bool
 | []=>true
 |(b,_)::r=>(match σ b with|some x=>touch.contains x|none=>true)&&BV σ touch r
theorem FI{σ:Nat->Option Nat}{n:Nat}{touch:List Nat}{h h':Hp}(hc:∀b∈touch,h' b=h b):∀{l:List (Nat×Blk)},BV σ touch l=true->pJ σ n h l->pJ σ n h' l
 | [],_,_=>trivial
 |(b,y)::r,ht,⟨h1,h2,h3⟩=>by
  simp only[BV,bX]at ht;refine⟨?_,h2,FI hc ht.2 h3⟩;cases hσ:σ b with
  |none=>rw[hσ]at h1;exact h1
  |some x=>
   have h4:=ht.1;rw[hσ]at h1 h4;simp only at h1 h4 ⊢;obtain⟨z,e1,e2⟩:=h1;exact⟨z,by rw[hc x (by simpa using h4)];exact e1,e2⟩
def Gp(σ σ':Nat->Option Nat)(kp:Nat)(news:List Nat):List (Nat×Blk)->Bool
 | []=>true
 |(b,_)::r=>(match σ' b with|some i=>news.contains b||(Nat.blt i kp&&(match σ i with|some x=>Nat.beq x b|none=>false))|none=>false)&&Gp σ σ' kp news r
theorem Jf{σ σ':Nat->Option Nat}{kp:Nat}{news:List Nat}:∀{l:List (Nat×Blk)},Gp σ σ' kp news l=true->∀{b:Nat}{y:Blk},(b,y)∈l->∃i,σ' b=some i/\(b∈news∨(Nat.blt i kp=true/\σ i=some b))
 |(c,z)::r,h,b,y,hm=>by
  simp only[Gp,bX]at h;rcases eO.1 hm with e|hm'
  .obtain⟨rfl,rfl⟩:=Prod.mk.inj e;have h1:=h.1;cases hσ:σ' b with
   |none=>rw[hσ]at h1;cases h1
   |some i=>
    rw[hσ]at h1;simp only[Bool.or_eq_true,bX]at h1;refine⟨i,rfl,?_⟩;rcases h1 with h1|⟨h1,h2⟩
    .exact .inl (by simpa using h1)
    .refine .inr ⟨h1,?_⟩;cases hσ2:σ i with
     |none=>rw[hσ2]at h2;cases h2
     |some x=>rw[hσ2]at h2;rw[Nat.eq_of_beq_eq_true h2]
  .exact Jf h.2 hm'
def zD(rl:List Nat)(hl2:List (Nat×Blk)):List (Nat×Option Blk):=rl.map λb=>(b,hZ hl2 b)
theorem MC{h:Hp}{hl2:List (Nat×Blk)}{b:Nat}:∀{rl:List Nat},bB (zD rl hl2) h b=if b∈rl then hZ hl2 b else h b
 | []=>by simp[zD,bB]
 |c::rl=>by
  have ih:=MC (h:=h) (hl2:=hl2) (b:=b) (rl:=rl);simp only[zD,List.map_cons,bB]at ih ⊢;by_cases e:b=c
  .subst e;simp
  .rw[cA e,aN,ih];simp[e]
section
variable {w:World}{h1 h2:Hp}{u1 u2:Us}{ν1 ν2:Nu}{rl:List Nat}(H:∀b∈rl,h2 b=h1 b)(N:∀b∈rl,ν2 b=ν1 b)(U:∀b∈rl,u2 b=true)
include H N U
theorem NJ{x:AV}{v:Value}(r:Rep1 w h1 u1 ν1 x v)(t:MB rl x=true):Rep1 w h2 u2 ν2 x v:=by
 cases x<;>simp only[MB,gC]at t<;>simp only[Rep1]at r ⊢
 .exact r
 .exact r
 .rename_i b i n;have hb:b∈rl:=by simpa using t
  refine⟨U b hb,λblk hbl=>?_⟩;rw[H b hb]at hbl;rw[N b hb];exact r.2 blk hbl
 .rename_i b i n;have hb:b∈rl:=by simpa using t
  refine⟨U b hb,λblk hbl=>?_⟩;rw[H b hb]at hbl;rw[N b hb];exact r.2 blk hbl
theorem LA:∀{xs:aH}{vs:List Value},All2 (Rep1 w h1 u1 ν1) xs vs->xs.all (MB rl)=true->All2 (Rep1 w h2 u2 ν2) xs vs
 | [],vs,r,_=>r
 |x::xs,vs,⟨v,q,e,h,k⟩,t=>by
  simp only[List.all_cons,bX]at t;exact⟨v,q,e,NJ H N U h t.1,LA k t.2⟩
theorem Se{x:AV}{v:Value}(r:RepB w h1 u1 ν1 x v)(t:Sb rl x=true):RepB w h2 u2 ν2 x v:=by
 cases x<;>simp only[RepB]at r ⊢ <;>first
  |exact NJ H N U r t
  |(obtain⟨vs,e,r⟩:=r;exact⟨vs,e,LA H N U r t⟩)
  |(simp only[Sb,MB,gC]at t)
theorem Sg{x:AV}{v:Value}(r:RepA w h1 u1 ν1 x v)(t:Sd rl x=true):RepA w h2 u2 ν2 x v:=by
 by_cases ht:∃cs,x= .tuple cs
 .obtain⟨cs,rfl⟩:=ht;obtain⟨vs,e,r⟩:=r;refine⟨vs,e,r.congrM λy hy d hd=>Se H N U hd ?_⟩;exact List.all_eq_true.1 t y hy
 .have r':RepB w h1 u1 ν1 x v:=by cases x<;>first|exact r|exact absurd ⟨_,rfl⟩ ht
  have t':Sb rl x=true:=by cases x<;>first|exact t|exact absurd ⟨_,rfl⟩ ht
  have:=Se H N U r' t';cases x<;>first|exact this|exact absurd ⟨_,rfl⟩ ht
theorem Zo{x:AV}{v:Value}{S:List Nat}(r:CellRep w h1 u1 ν1 x v S)(t:Sa rl x=true):CellRep w h2 u2 ν2 x v S:=by
 cases x<;>simp only[CellRep]at r ⊢ <;>first
  |exact⟨NJ H N U r.1 t,r.2⟩
  |(obtain⟨⟨vs,e,q⟩,q2⟩:=r;exact⟨⟨vs,e,LA H N U q t⟩,q2⟩)
  |exact r
theorem QP:∀{xs:aH}{vs:List Value}{S:List Nat},CellsRep w h1 u1 ν1 xs vs S->(∀c∈xs,Sa rl c=true)->CellsRep w h2 u2 ν2 xs vs S
 | [],_,_,r,_=>r
 |x::xs,vs,S,⟨v,q,S1,S2,e1,e2,h,k⟩,t=>⟨v,q,S1,S2,e1,e2,Zo H N U h (t x (by simp)),QP k (λc hc=>t c (by simp[hc]))⟩
theorem OP{b:Nat}{blk:Blk}{S:List Nat}(hb:b∈rl)(r:BlkOk w h1 u1 ν1 b blk S)(t:∀cs∈blk.es,∀c∈cs,Sa rl c=true):BlkOk w h2 u2 ν2 b blk S:=by
 refine⟨r.1,?_⟩;rcases r.2 with ⟨q1,q2,q3⟩|⟨β,c,arr,ty,T,vs,q1,q2,q3,q4,q5,q6,q7,q8⟩
 .exact .inl ⟨(N b hb).trans q1,q2,q3⟩
 .refine .inr ⟨β,c,arr,ty,T,vs,(N b hb).trans q1,q2,q3,q4,q5,q6,q7,QP H N U q8 λc hc=>?_⟩;obtain⟨cs,hcs,hc⟩:=List.mem_flatten.1 hc;exact t cs hcs c hc
end
theorem Jg{α β γ:Type}{R:α->γ->Prop}{Mt:α->β->Prop}{R':β->γ->Prop}(hc:∀x y v,R x v->Mt x y->R' y v):∀{xs:List α}{ys:List β}{vs:List γ},All2 R xs vs->All2 Mt xs ys->All2 R' ys vs
 | [],ys,vs,h,m=>by simp only[All2]at h m;subst h m;rfl
 |x::xs,ys,vs,⟨v,q,e,h,k⟩,⟨y,p,e2,m,m2⟩=>by
  subst e e2;exact⟨v,q,rfl,hc x y v h m,Jg hc k m2⟩
theorem rV{w:World}{h:Hp}{u:Us}{ν:Nu}{b:Nat}{blk:Blk}{S:List Nat}(r:BlkOk w h u ν b blk S){β c:Nat}(hν:ν b=some (β,c)):β∈S:=by
 rcases r.2 with ⟨q1,_,_⟩|⟨β',c',arr,ty,T,vs,q1,q2,q3,q4,q5,q6,q7,q8⟩
 .rw[hν]at q1;cases q1
 .rw[hν]at q1;cases q1;rw[q6];simp
section
variable {P:Program}{dst:Option Tmp}{ty:TypeId}{pos:String}{aft:Array Edge}{g:Option (Nat×Bool)}{ins:Operand->Option AV}{hp:Hp}{κ:Kp}
theorem Sh{fo:Operand}{xs:Array Operand}{ats:Array TypeId}{f:FuncId}{caps avs av2 ds:aH}{hl hl' hl2:List (Nat×Blk)}{kp n':Nat}{r r2:AV}{σ σ':Nat->Option Nat}{touch news:List Nat}{ed:List (Nat×Option Blk)}
  (hc:HasE P f ds hl kp r hl') (hf:ins fo=some (.fn f caps)) (hx:Ia ins xs.toList=some avs) (href:∀(C:Ctx)(s:AState)(ν:Nu)(a:Act)(w:World)(vs:List Value),s.kp=κ->Sim C s ν a w->All2 (RepA w s.heap s.used ν) (avs++caps) vs->All2 (RepA w s.heap s.used ν) av2 vs) (hav:All2 (rR σ kp) av2 ds) (hh:pJ σ kp hp hl) (hi:Ea σ hl=true) (hit:BV σ touch hl=true) (hlive:(touch.all λb=>(hp b).isSome)=true)
  (hh':pJ σ' n' (hZ hl') hl2) (hi':Ea σ' hl2=true) (hr:rR σ' n' r r2) (hbk:Gp σ σ' kp news hl2=true) (htl:QO (touch++news) hl2) (htr:Sd (touch++news) r2=true) (he:zD (touch++news) hl2=ed):
  AEff P ⟨dst,.call ⟨.value fo,xs,ats⟩,ty,pos,aft,g⟩ ins hp κ ⟨r2,touch,ed,news⟩:=by
 refine⟨λC s ν a w Q K {hκ} hi0 ht hnw hd hs hK=>?_⟩;have hfn:=hs.ev ((hi0 fo (by simp[Op.operands,Call.operands])).trans hf);simp only[RepA,RepB]at hfn;obtain⟨cv,hfv,hcap⟩:=hfn;have hval:=Fx hs (xs:=xs.toList) (λy hy=>hi0 y (by simp[Op.operands,Call.operands];exact .inr (Array.mem_toList_iff.1 hy))) hx;obtain⟨φ,hφ⟩:=hs.heap;let h3:Hp:=λb=>if b∈touch then s.heap b else none
 have sub:∀b blk,h3 b=some blk->s.heap b=some blk/\b∈touch:=by
  intro b blk hb;by_cases e:b∈touch
  .simp only[h3,aP e]at hb;exact⟨hb,e⟩
  .simp only[h3,aQ e]at hb;cases hb
 let M2:Nat->Prop:=λx=>(∃b,b∈touch/\s.heap b≠none/\x∈φ b)∨w.heap.size<=x
 have hM2:∀x,M2 x->C.M x:=by
  rintro x (⟨b,_,hb,hx⟩|hx)
  .obtain⟨blk,hb⟩:=Option.ne_none_iff_exists'.1 hb;exact(hφ.blk b blk hb).2.2.2 x hx
  .exact hs.fresh x hx
 have hk3:HeapOk M2 w h3 s.used ν φ:=hφ.shrink (λb blk hb=>(sub b blk hb).1) (λb x hb hx _=>by
  obtain⟨blk,hb⟩:=Option.ne_none_iff_exists'.1 hb;obtain⟨e1,e2⟩:=sub b blk hb
  exact .inl ⟨b,e2,by rw[e1];simp,hx⟩)
 have hent:pJ σ kp h3 hl:=FI (h:=hp) (touch:=touch) (λb hb=>by simp only[h3,aP hb];exact ht b hb) hit hh;have cv1:=Je (w:=w) (u:=s.used) (ν:=ν) hent hi;have hk4:=cv1.heap hk3;have shr3:Ext w s.heap s.used ν w h3 s.used ν:=(Ext.refl _ _ _ _).shrink (λb blk hb=>(sub b blk hb).1)
 have hargs:All2 (RepA w (hZ hl) (yG kp) (oF σ ν)) ds (xs.toList.map a.eval++cv):=
  Jg (R:=RepA w s.heap s.used ν) (Mt:=rR σ kp) (R':=RepA w (hZ hl) (yG kp) (oF σ ν)) (λx y v hx hm=>cv1.rep (RepA.ext shr3 hx) hm) (href C s ν a w _ hκ hs (hval.append (hcap.mono λx v h=>Rep1.repA h))) hav
 have hcall:=hc.calls C.B M2 w ((xs.map a.eval)++cv.toArray) (oF σ ν) _ (λx hx=>C.low x (hM2 x hx)) hs.base (λx hx=>.inr hx) (λx hx=>hs.okM x (hM2 x hx)) (by simpa using hargs) hk4;unfold Oper.wp
 have hex:(execOp a.eval ⟨dst,.call ⟨.value fo,xs,ats⟩,ty,pos,aft,g⟩).run P w= .ok (.enter f ((xs.map a.eval)++cv.toArray)) w:=by
  have:execOp a.eval ⟨dst,.call ⟨.value fo,xs,ats⟩,ty,pos,aft,g⟩=callFunc f ((xs.map a.eval)++cv.toArray):=by
   simp[execOp,resolve,hfv,Deferred.ofValue,invoke]
  rw[this];exact hc.enters _ _
 rw[hex];simp only[Oper.upon];refine hcall.mono λe w' ⟨v,u1,ν1,φ1,hev,hbel,hext,hh1,hrep⟩=>?_;subst hev;simp only;have cv2:=Je (w:=w') (u:=u1) (ν:=ν1) hh' hi';have hh2:=cv2.heap hh1;generalize hrl:touch++news=rl at*;let ν':Nu:=⟨λb=>if b∈rl then oF σ' ν1 b else ν b,ν.ok⟩;have hν1:∀b,b∈rl->ν' b=oF σ' ν1 b:=λb hb=>aP hb;have hν2:∀b,b ∉ rl->ν' b=ν b:=λb hb=>aQ hb;have hheq:∀b,bB ed s.heap b=if b∈rl then hZ hl2 b else s.heap b:=λb=>by rw[←he];exact MC
 have hhe1:∀b,b∈rl->bB ed s.heap b=hZ hl2 b:=λb hb=>by rw[hheq,aP hb]
 have hhe2:∀b,b ∉ rl->bB ed s.heap b=s.heap b:=λb hb=>by rw[hheq,aQ hb]
 have hused:∀b,b∈rl->gP news s.used b=true:=by
  intro b hb;rw[←hrl]at hb;rw[kQ];rcases fB.1 hb with h|h
  .have h5:=List.all_eq_true.1 hlive b h;rw[←ht b h]at h5;cases hq:s.heap b with
   |none=>rw[hq]at h5;cases h5
   |some blk=>rw[(hφ.blk b blk hq).1,Bool.or_true]
  .have:news.contains b=true:=by simpa using h
   rw[this,Bool.true_or]
 have hfree3:∀x,vI s.heap ν x->vI (hZ hl) (oF σ ν) x:=λx hf=>cv1.free x λb blk β c hb hν=>hf b blk β c (sub b blk hb).1 hν
 have extc:Ext w s.heap s.used ν w' (bB ed s.heap) (gP news s.used) ν':=by
  refine⟨λb hb=>by rw[kQ,hb,Bool.or_true],λb blk' hu hb=>?_,λx hx hfr=>?_,rfl⟩
  .by_cases e:b∈rl
   .rw[hhe1 b e]at hb;obtain⟨i,e1,e2⟩:=Jf hbk (qD hb);obtain⟨x,f1,f2,f3⟩:=(cv2.look b blk' hb).1 i e1;rcases e2 with e2|⟨e2,e3⟩
    .rw[hnw b e2]at hu;cases hu
    .obtain⟨blk0,g1,g2,g3,g4⟩:=hext.old i x e2 f1;obtain⟨z,k1,k2,k3⟩:=(cv1.look i blk0 g1).1 b e3;refine⟨z,(sub b z k1).1,k2.trans (g2.trans f2),k3.trans (g3.trans f3),?_⟩;rw[hν1 b e];simp only[oF,e1];rw[g4];simp only[oF,e3]
   .rw[hhe2 b e]at hb;exact⟨blk',hb,rfl,rfl,hν2 b e⟩
  .obtain⟨p1,p2⟩:=hext.free x hx (hfree3 x hfr);refine⟨p1,λb blk β c hb hν=>?_⟩;by_cases e:b∈rl
   .rw[hhe1 b e]at hb;rw[hν1 b e]at hν;exact cv2.free x p2 b blk β c hb hν
   .rw[hhe2 b e]at hb;rw[hν2 b e]at hν;exact hfr b blk β c hb hν
 have hout:∀b blk x,s.heap b=some blk->b ∉ rl->x∈φ b->w'.heap[x]? =w.heap[x]? :=by
  intro b blk x hb hbr hx;refine(hext.free x ((hφ.blk b blk hb).2.1.lt x hx) (cv1.free x λb2 blk2 β c hb2 hν2=>?_)).1;rintro rfl;obtain⟨e1,e2⟩:=sub b2 blk2 hb2;have hne:b2≠b:=by rintro rfl;exact hbr (by rw[←hrl];exact List.mem_append_left _ e2)
  exact hφ.apart b2 b β (by rw[e1];simp) (by rw[hb];simp) hne (rV (hφ.blk b2 blk2 e1).2.1 hν2) hx
 have hcross:∀b c x,hZ hl2 b≠none->s.heap c≠none->c ∉ rl->x∈(match σ' b with|some b0=>φ1 b0|none=>[])->x ∉ φ c:=by
  intro b c x hb hc' hcr hx hx2;obtain⟨y1,hy1⟩:=Option.ne_none_iff_exists'.1 hb;obtain⟨y2,hy2⟩:=Option.ne_none_iff_exists'.1 hc';rcases (hh2.blk b y1 hy1).2.2.2 x hx with ⟨b2,e1,e2,e3⟩|e1
  .have hne:b2≠c:=by rintro rfl;exact hcr (by rw[←hrl];exact List.mem_append_left _ e1)
   exact hφ.apart b2 c x e2 hc' hne e3 hx2
  .have:=(hφ.blk c y2 hy2).2.1.lt x hx2;omega
 refine hK ν' _ _ (hs.step hd (s':=s.app dst ⟨r2,touch,ed,news⟩) extc hbel ⟨λb=>if b∈rl then(match σ' b with|some b0=>φ1 b0|none=>[])else φ b,?_,?_⟩ rfl ?_)
 .intro b blk' hb;replace hb:bB ed s.heap b=some blk':=hb;by_cases e:b∈rl
  .rw[hhe1 b e]at hb;simp only[aP e];obtain⟨_,g2,g3,g4⟩:=hh2.blk b blk' hb;exact⟨hused b e,OP (h1:=hZ hl2) (u1:=yG n') (ν1:=oF σ' ν1) hhe1 hν1 hused e g2 (NI htl (qD hb)).2,g3,λx hx=>hM2 x (g4 x hx)⟩
  .rw[hhe2 b e]at hb;simp only[aQ e];obtain⟨g1,g2,g3,g4⟩:=hφ.blk b blk' hb;exact⟨extc.used b g1,g2.ext extc (hν2 b e) (λx hx=>hout b blk' x hb e hx),g3,g4⟩
 .intro b c x hb hc' hne hxb hxc;replace hb:bB ed s.heap b≠none:=hb;replace hc':bB ed s.heap c≠none:=hc';by_cases e1:b∈rl<;>by_cases e2:c∈rl
  .simp only[aP e1]at hxb;simp only[aP e2]at hxc;rw[hhe1 b e1]at hb;rw[hhe1 c e2]at hc';exact hh2.apart b c x hb hc' hne hxb hxc
  .simp only[aP e1]at hxb;simp only[aQ e2]at hxc;rw[hhe1 b e1]at hb;rw[hhe2 c e2]at hc';exact hcross b c x hb hc' e2 hxb hxc
  .simp only[aQ e1]at hxb;simp only[aP e2]at hxc;rw[hhe2 b e1]at hb;rw[hhe1 c e2]at hc';exact hcross c b x hc' hb e1 hxc hxb
  .simp only[aQ e1]at hxb;simp only[aQ e2]at hxc;rw[hhe2 b e1]at hb;rw[hhe2 c e2]at hc';exact hφ.apart b c x hb hc' hne hxb hxc
 .exact Sg (h1:=hZ hl2) (u1:=yG n') (ν1:=oF σ' ν1) hhe1 hν1 hused (cv2.rep hrep hr) htr
theorem oJ{fo:Operand}{xs:Array Operand}{ats:Array TypeId}{f:FuncId}{caps avs ds:aH}{hl hl' hl2:List (Nat×Blk)}{kp n':Nat}{r r2:AV}{σ σ':Nat->Option Nat}{touch news:List Nat}{ed:List (Nat×Option Blk)}
  (hc:HasE P f ds hl kp r hl') (hf:ins fo=some (.fn f caps)) (hx:Ia ins xs.toList=some avs) (hav:All2 (rR σ kp) (avs++caps) ds) (hh:pJ σ kp hp hl) (hi:Ea σ hl=true) (hit:BV σ touch hl=true) (hlive:(touch.all λb=>(hp b).isSome)=true)
  (hh':pJ σ' n' (hZ hl') hl2) (hi':Ea σ' hl2=true) (hr:rR σ' n' r r2) (hbk:Gp σ σ' kp news hl2=true) (htl:QO (touch++news) hl2) (htr:Sd (touch++news) r2=true) (he:zD (touch++news) hl2=ed):
  AEff P ⟨dst,.call ⟨.value fo,xs,ats⟩,ty,pos,aft,g⟩ ins hp κ ⟨r2,touch,ed,news⟩:=
 Sh hc hf hx (λ_ _ _ _ _ _ _ _ h=>h) hav hh hi hit hlive hh' hi' hr hbk htl htr he
end
structure SOps(P:Program)(ops:Array Oper)(nt:Nat)(l:List Oper)(s:AState)(K:AState->Prop):Prop where
 out:∀(C:Ctx),C.nt=nt->∀(ν:Nu)(a:Act)(w:World),Sim C s ν a w->∀(n:Nat)(Q:Exit->Act->World->Prop),(∀s' ν' a' w',K s'->Sim C s' ν' a' w'->Q .normal a' w')->wpListIn (fw C.rd) n P ops Q l a w
section
variable {P:Program}{ops:Array Oper}{nt:Nat}{l:List Oper}{s:AState}{K:AState->Prop}
theorem aBm(h:K s):SOps P ops nt [] s K:=⟨λC hC ν a w hs n Q hQ=>hQ s ν a w h hs⟩
theorem zS{t:AState}(e:Ent s t)(h:SOps P ops nt l t K):SOps P ops nt l s K:=⟨λC hC ν a w hs n Q hQ=>by
 obtain⟨ν',hs'⟩:=e C ν a w hs
 exact h.out C hC ν' a w hs' n Q hQ⟩
theorem VZ{d:Option Tmp}{op:Op}{ty:TypeId}{pos:String}{aft:Array Edge}{g:Option (Nat×Bool)}{e:Eff}(he:AEff P ⟨d,op,ty,pos,aft,g⟩ s.ev s.heap s.kp e)(hd:Ob ⟨d,op,ty,pos,aft,g⟩ nt=true)(hg:qC ops s.env ⟨d,op,ty,pos,aft,g⟩=some true)(hn:(e.news.all λb=> !s.used b)=true)
  (h:SOps P ops nt l (s.app d e) K):SOps P ops nt (⟨d,op,ty,pos,aft,g⟩::l) s K:=⟨λC hC ν a w hs n Q hQ=>by
 subst hC;refine wpListIn_step λK' hK'=>?_;have hst:VC P ops C.nt ⟨d,op,ty,pos,aft,g⟩ s e:=⟨Tf hd,.inl ⟨hg,he,λb hb=>by have:=List.all_eq_true.1 hn b hb;simpa using this⟩⟩
 exact Kq hst hs λν' a' w' hs'=>hK' _ _ (h.out C rfl ν' a' w' hs' n Q hQ)⟩
theorem XV{Q:Exit->AState->Prop}{id:Nat}(h:SOps P l.toArray nt l s (Q .normal)):AC P nt (.region id l.toArray false) s Q:=by
 refine⟨λC hC ν a w hs n=>?_⟩;exact wpIn_region_lit (h.out C hC ν a w hs n _ λs' ν' a' w' hq hs'=>⟨s',ν',hq,hs'⟩)
end
def df1:AV->Bool
 | .sc _=>true
 | .nil _=>true
 | .dead=>true
 | .own _ _ _=>true
 | .ptr _ _ _=>true
 |_=>false
def dfC:AV->Bool
 | .abs _ _=>true
 | .fn _ cs=>cs.all df1
 |x=>df1 x
def dfB:AV->Bool
 | .agg cs=>cs.all df1
 |x=>df1 x
def dfA:AV->Bool
 | .tuple cs=>cs.all dfB
 |x=>dfB x
section
variable {w w':World}{h h':Hp}{u u':Us}{ν ν':Nu}(U:∀b,u b=true->u' b=true)(O:∀b blk',u b=true->h' b=some blk'->∃blk,h b=some blk/\blk.k=blk'.k/\blk.es.length=blk'.es.length/\ν' b=ν b)
include U O
theorem Tp:∀{x:AV}{v:Value},Rep1 w h u ν x v->df1 x=true->Rep1 w' h' u' ν' x v:=by
 intro x v r t;cases x<;>simp only[df1,gC]at t<;>simp only[Rep1]at r ⊢
 .exact r
 .exact r
 .refine⟨U _ r.1,λblk hb=>?_⟩;obtain⟨blk0,e1,e2,e3,e4⟩:=O _ blk r.1 hb;have:=r.2 blk0 e1;rw[e4,←e3,←e2];exact this
 .refine⟨U _ r.1,λblk hb=>?_⟩;obtain⟨blk0,e1,e2,e3,e4⟩:=O _ blk r.1 hb;have:=r.2 blk0 e1;rw[e4,←e2];exact this
end
section
variable {w w':World}{h h':Hp}{u u':Us}{ν ν':Nu}(U:∀b,u b=true->u' b=true)(O:∀b blk',u b=true->h' b=some blk'->∃blk,h b=some blk/\blk.k=blk'.k/\blk.es.length=blk'.es.length/\ν' b=ν b)
include U O
theorem QQ:∀{xs:aH}{vs:List Value},All2 (Rep1 w h u ν) xs vs->xs.all df1=true->All2 (Rep1 w' h' u' ν') xs vs
 | [],vs,r,_=>r
 |x::xs,vs,⟨v,q,e,r,k⟩,t=>by
  simp only[List.all_cons,bX]at t;exact⟨v,q,e,Tp U O r t.1,QQ k t.2⟩
theorem Yq{x:AV}{v:Value}(r:RepB w h u ν x v)(t:dfB x=true):RepB w' h' u' ν' x v:=by
 cases x<;>simp only[RepB]at r ⊢ <;>first
  |exact Tp U O r t
  |(obtain⟨vs,e,r⟩:=r;exact⟨vs,e,QQ U O r t⟩)
  |(simp only[dfB,df1,gC]at t)
theorem aEO{x:AV}{v:Value}(r:RepA w h u ν x v)(t:dfA x=true):RepA w' h' u' ν' x v:=by
 by_cases ht:∃cs,x= .tuple cs
 .obtain⟨cs,rfl⟩:=ht;obtain⟨vs,e,r⟩:=r;refine⟨vs,e,r.congrM λy hy d hd=>Yq U O hd ?_⟩;exact List.all_eq_true.1 t y hy
 .have r':RepB w h u ν x v:=by cases x<;>first|exact r|exact absurd ⟨_,rfl⟩ ht
  have t':dfB x=true:=by cases x<;>first|exact t|exact absurd ⟨_,rfl⟩ ht
  have:=Yq (w':=w') U O r' t';cases x<;>first|exact this|exact absurd ⟨_,rfl⟩ ht
theorem aEP{x:AV}{v:Value}{S:List Nat}(hk:∀b∈S,w'.heap[b]? =w.heap[b]?)(r:CellRep w h u ν x v S)(t:dfC x=true):CellRep w' h' u' ν' x v S:=by
 cases x<;>simp only[CellRep]at r ⊢ <;>first
  |exact⟨Tp U O r.1 t,r.2⟩
  |(obtain⟨⟨vs,e,q⟩,q2⟩:=r;exact⟨⟨vs,e,QQ U O q t⟩,q2⟩)
  |exact r.keep hk
  |exact r
theorem MD:∀{xs:aH}{vs:List Value}{S:List Nat},(∀b∈S,w'.heap[b]? =w.heap[b]?)->CellsRep w h u ν xs vs S->(∀c∈xs,dfC c=true)->CellsRep w' h' u' ν' xs vs S
 | [],_,_,_,r,_=>r
 |x::xs,vs,S,hk,⟨v,q,S1,S2,e1,e2,r,k⟩,t=>by
  subst e2;exact⟨v,q,S1,S2,e1,rfl,aEP U O (λb hb=>hk b (by simp[hb])) r (t x (by simp)),MD (λb hb=>hk b (by simp[hb])) k (λc hc=>t c (by simp[hc]))⟩
theorem Zp{b:Nat}{blk:Blk}{S:List Nat}(hν:ν' b=ν b)(hk:∀x∈S,w'.heap[x]? =w.heap[x]?)(r:BlkOk w h u ν b blk S)(t:∀cs∈blk.es,∀c∈cs,dfC c=true):BlkOk w' h' u' ν' b blk S:=by
 refine⟨r.1,?_⟩;rcases r.2 with ⟨q1,q2,q3⟩|⟨β,c,arr,ty,T,vs,q1,q2,q3,q4,q5,q6,q7,q8⟩
 .exact .inl ⟨hν.trans q1,q2,q3⟩
 .subst q6;refine .inr ⟨β,c,arr,ty,T,vs,hν.trans q1,(hk β (by simp)).trans q2,q3,q4,q5,rfl,q7,MD U O (λx hx=>hk x (by simp[hx])) q8 λc hc=>?_⟩;obtain⟨cs,hcs,hc⟩:=List.mem_flatten.1 hc;exact t cs hcs c hc
end
theorem Va{w:World}{h:Hp}{u:Us}{ν:Nu}:∀{cs:aH}{vs:List Value}{S:List Nat},RepOV w cs vs S->CellsRep w h u ν (cs.map zA) vs S
 | [],vs,S,r=>by simp only[RepOV]at r;exact r
 |c::cs,vs,S,r=>by
  simp only[RepOV]at r;obtain⟨v,q,S1,S2,e1,e2,_,h3,h4⟩:=r;refine⟨v,q,S1,S2,e1,e2,?_,Va h4⟩;cases c with
  |sc x=>simp only[RepO]at h3;exact⟨⟨h3.1,h3.2.1⟩,h3.2.2⟩
  |list k es=>exact h3
  |_=>simp only[RepO]at h3
theorem XW{k:Nat}{es:List aH}(h:∀cs∈es,cs.length=k):∀cs∈cY es,cs.length=k:=by
 intro cs hcs;unfold cY at hcs;obtain⟨d,hd,rfl⟩:=List.mem_map.1 hcs;rw[dT];exact h d hd
theorem QR(es:List aH):(cY es).flatten=es.flatten.map zA:=by
 unfold cY;rw[List.map_flatten]
theorem aBn{s:AState}{b c i j k':Nat}{blk:Blk}{cs:aH}{es':List aH}(hT:s.kp.T=true)(hb:s.heap b=some blk)(hi:blk.es[i]? =some cs)(hj:cs[j]? =some (.abs k' es'))(hc:s.used c=false)(hdf:∀t x,s.env t=some x->dfA x=true)(hdc:∀b blk,s.heap b=some blk->∀cs∈blk.es,∀c∈cs,dfC c=true):
  Ent s ⟨s.env,bB [(c,some ⟨k',cY es'⟩),(b,some ⟨blk.k,blk.es.set i (cs.take j++[.own c 0 es'.length]++cs.drop (j+1))⟩)] s.heap,gP [c] s.used,s.ns,s.kp⟩:=by
 intro C ν a w hs;obtain⟨φ,hh⟩:=hs.heap;obtain⟨hub,⟨hk1,hx1⟩,hnd1,hB1⟩:=hh.blk b blk hb;have hne:b≠c:=by rintro rfl;rw[hub]at hc;cases hc
 have hcn:s.heap c=none:=hs.unused hc;have hcs:=hk1 cs (List.mem_of_getElem? hi)
 have hjl:j<cs.length:=by
  rcases dX j cs.length with h'|h'
  .exact h'
  .rw[jX h']at hj;cases hj
 rcases hx1 with ⟨q1,q2,_⟩|⟨β,cap,arr,ty,T,vs,q1,q2,q3,q4,q5,q6,q7,q8⟩
 .rw[q2]at hi;simp at hi
 have hdrop:blk.es.flatten.drop (i*blk.k+j)= .abs k' es'::blk.es.flatten.drop (i*blk.k+j+1):=by
  obtain⟨r,hr⟩:=CZ hk1 hi;have h1:blk.es.flatten.drop (i*blk.k+j)=(cs++r).drop j:=by rw[←hr,List.drop_drop]
  have h2:blk.es.flatten.drop (i*blk.k+j+1)=(cs++r).drop (j+1):=by rw[←hr,List.drop_drop,Nat.add_assoc]
  rw[h1,h2,List.drop_append_of_le_length (by omega),List.drop_append_of_le_length (by omega),List.drop_eq_getElem_cons hjl];have:cs[j]= .abs k' es':=by simpa [hjl]using hj
  rw[this];rfl
 have hfl:blk.es.flatten=blk.es.flatten.take (i*blk.k+j)++([.abs k' es']++blk.es.flatten.drop (i*blk.k+j+1)):=by
  rw[List.singleton_append,←hdrop,List.take_append_drop]
 rw[hfl]at q8;obtain⟨v1,v2,S1,S2,e1,e2,e3,e4,e5⟩:=q8.append_inv;obtain⟨v3,v4,S3,S4,f1,f2,f3,f4,f5⟩:=e5.append_inv;subst f1 f2;obtain⟨v,r0,S5,S6,rfl,rfl,g1,⟨rfl,rfl⟩⟩:=f4;simp only[CellRep]at g1;rw[List.append_nil]at e2;have hφ:φ b=β::(S1++(S5++S4)):=by rw[q6,e2]
 obtain⟨νc,hνc⟩:∃νc:Option (Nat×Nat),(∀(h:Hp)(u:Us)(ν':Nu),ν' c=νc->BlkOk w h u ν' c ⟨k',cY es'⟩ S5)/\(νc=none->v= .slice none 0 0)/\(∀β' cap',νc=some (β',cap')->ownV β' 0 k' es'.length cap' v/\β'∈S5):=by
  simp only[RepO]at g1;rcases g1 with ⟨rfl,rfl,rfl⟩|⟨β',cap',arr',ty',T',vs',p1,p2,p3,p4,p5,p6,rfl,p8,p9⟩
  .exact⟨none,λh u ν' hν=>⟨by simp[cY],.inl ⟨hν,rfl,rfl⟩⟩,λ_=>rfl,λ_ _ e=>by cases e⟩
  .have hl:(cY es').length=es'.length:=by simp[cY]
   refine⟨some (β',cap'),λh u ν' hν=>⟨XW p6,.inr ⟨β',cap',arr',ty',T',vs',hν,p2,p3,by show(cY es').length <=cap';omega,p5,rfl,by show arr'.toList.take ((cY es').length *k')=vs';rw[hl];exact p8,?_⟩⟩,λe=>by(cases e),λx y e=>?_⟩
   .show CellsRep w h u ν' (cY es').flatten vs' T';rw[QR];exact Va (Ez.1 p9)
   .cases e;rw[p1];exact⟨Mz,by simp⟩
 obtain⟨hB,hn0,hn1⟩:=hνc;let ν':Nu:=⟨λx=>if x=c then νc else ν x,ν.ok⟩;have hν1:ν' c=νc:=aP rfl;have hν2:∀x,x≠c->ν' x=ν x:=λx hx=>aQ hx;have hl1:bB [(c,some ⟨k',cY es'⟩),(b,some ⟨blk.k,blk.es.set i (cs.take j++[.own c 0 es'.length]++cs.drop (j+1))⟩)] s.heap c=some ⟨k',cY es'⟩:=by simp[bB]
 have hl2:bB [(c,some ⟨k',cY es'⟩),(b,some ⟨blk.k,blk.es.set i (cs.take j++[.own c 0 es'.length]++cs.drop (j+1))⟩)] s.heap b=some ⟨blk.k,blk.es.set i (cs.take j++[.own c 0 es'.length]++cs.drop (j+1))⟩:=by simp[bB,cA hne]
 have hl3:∀x,x≠c->x≠b->bB [(c,some ⟨k',cY es'⟩),(b,some ⟨blk.k,blk.es.set i (cs.take j++[.own c 0 es'.length]++cs.drop (j+1))⟩)] s.heap x=s.heap x:=λx h1 h2=>by simp[bB,cA h1,cA h2]
 generalize hH:bB [(c,some ⟨k',cY es'⟩),(b,some ⟨blk.k,blk.es.set i (cs.take j++[.own c 0 es'.length]++cs.drop (j+1))⟩)] s.heap=H at*;have U:∀x,s.used x=true->gP [c] s.used x=true:=λx hx=>by rw[kQ,hx,Bool.or_true]
 have O:∀x blk',s.used x=true->H x=some blk'->∃y,s.heap x=some y/\y.k=blk'.k/\y.es.length=blk'.es.length/\ν' x=ν x:=by
  intro x blk' hu hx;have hxc:x≠c:=by rintro rfl;rw[hu]at hc;cases hc
  by_cases e:x=b
  .subst e;rw[hl2]at hx;cases hx;exact⟨blk,hb,rfl,by simp,hν2 _ hxc⟩
  .rw[hl3 x hxc e]at hx;exact⟨blk',hx,rfl,rfl,hν2 _ hxc⟩
 have hfl2:∀d∈blk.es.flatten,dfC d=true:=by
  intro d hd;obtain⟨ds,h1,h2⟩:=List.mem_flatten.1 hd;exact hdc b blk hb ds h1 d h2
 refine⟨ν',hs.below,hs.base,hs.fresh,hs.defers,hs.size,λt x hx=>by obtain⟨v,h1,h2⟩:=hs.env t x hx;exact⟨v,h1,aEO U O h2 (hdf t x hx)⟩,⟨λx=>if x=c then S5 else if x=b then β::(S1++S4)else φ x,?_,?_⟩,hs.kp,?_,hs.szE,hs.okM,hs.okF⟩
 .intro x blk2 hx;replace hx:H x=some blk2:=hx;have hnd:=hnd1;rw[hφ]at hnd;have n1:=List.nodup_cons.1 hnd;have n2:=List.nodup_append.1 n1.2;have n3:=List.nodup_append.1 n2.2.1;by_cases e:x=c
  .subst e;rw[hl1]at hx;cases hx;simp only[if_true];refine⟨by rw[kQ];simp,hB _ _ _ hν1,n3.1,λy hy=>hB1 y (by rw[hφ];simp[hy])⟩
  .by_cases e0:x=b
   .subst e0;rw[hl2]at hx;cases hx;simp only[aQ e,if_true];refine⟨U _ hub,⟨?_,.inr ⟨β,cap,arr,ty,S1++S4,vs,(hν2 _ e).trans q1,q2,q3,by simpa using q4,q5,rfl,by simpa using q7,?_⟩⟩,?_,?_⟩
    .intro d hd;rcases List.mem_or_eq_of_mem_set hd with h|h
     .exact hk1 d h
     .rw[h];simp;omega
    .rw[DF (n:=1) hk1 hi rfl (by omega),e1]
     have m1:CellsRep w H (gP [c] s.used) ν' [.own c 0 es'.length] [v] []:=by
      refine⟨v,[],[],[],rfl,rfl,⟨⟨by rw[kQ];simp,λblk3 h3=>?_⟩,rfl⟩,rfl,rfl⟩;rw[hl1]at h3;cases h3;refine⟨by simp[cY],λh4=>hn0 (hν1.symm.trans h4),λβ' c' h4=>(hn1 β' c' (hν1.symm.trans h4)).1⟩
     have m2:=(MD (w':=w) (h':=H) (u':=gP [c] s.used) (ν':=ν') U O (λ_ _=>rfl) e4 (λd hd=>hfl2 d (List.mem_of_mem_take hd))).append (m1.append (MD (w':=w) (h':=H) (u':=gP [c] s.used) (ν':=ν') U O (λ_ _=>rfl) f5 (λd hd=>hfl2 d (List.mem_of_mem_drop hd))));rw[List.append_assoc (List.take (i*blk.k+j) blk.es.flatten)];simpa using m2
    .refine List.nodup_cons.2 ⟨λhm=>n1.1 ?_,List.nodup_append.2 ⟨n2.1,n3.2.1,λy hy z hz=>n2.2.2 y hy z (by simp[hz])⟩⟩;rcases fB.1 hm with h|h<;>simp[h]
    .intro y hy;refine hB1 y ?_;rw[hφ];rcases eO.1 hy with rfl|h
     .simp
     .rcases fB.1 h with h|h<;>simp[h]
   .rw[hl3 x e e0]at hx;simp only[aQ e,aQ e0];obtain⟨p1,p2,p3,p4⟩:=hh.blk x blk2 hx;exact⟨U _ p1,Zp U O (hν2 _ e) (λ_ _=>rfl) p2 (hdc x blk2 hx),p3,p4⟩
 .have hnd:=hnd1;rw[hφ]at hnd;have n1:=List.nodup_cons.1 hnd;have n2:=List.nodup_append.1 n1.2;have n3:=List.nodup_append.1 n2.2.1;have hbn:s.heap b≠none:=by rw[hb];simp
  have hS5:∀y,y∈S5->y∈φ b:=λy hy=>by rw[hφ];simp[hy]
  have hSb:∀y,y∈β::(S1++S4)->y∈φ b:=λy hy=>by
   rw[hφ];rcases eO.1 hy with rfl|h
   .simp
   .rcases fB.1 h with h|h<;>simp[h]
  have hcb:∀y,y∈S5->y ∉ β::(S1++S4):=by
   intro y h5 hy;rcases eO.1 hy with rfl|h
   .exact n1.1 (by simp[h5])
   .rcases fB.1 h with h|h
    .exact n2.2.2 y h y (by simp[h5]) rfl
    .exact n3.2.2 y h5 y h rfl
  intro x1 x2 y hx1 hx2 hne2 hy1 hy2;replace hx1:H x1≠none:=hx1;replace hx2:H x2≠none:=hx2;replace hy1:y∈(if x1=c then S5 else if x1=b then β::(S1++S4)else φ x1):=hy1;replace hy2:y∈(if x2=c then S5 else if x2=b then β::(S1++S4)else φ x2):=hy2;by_cases a1:x1=c<;>by_cases a2:x2=c
  .exact hne2 (a1.trans a2.symm)
  .rw[aP a1]at hy1;rw[aQ a2]at hy2;by_cases b2:x2=b
   .rw[aP b2]at hy2;exact hcb y hy1 hy2
   .rw[aQ b2]at hy2;rw[hl3 x2 a2 b2]at hx2;exact hh.apart b x2 y hbn hx2 (Ne.symm b2) (hS5 y hy1) hy2
  .rw[aQ a1]at hy1;rw[aP a2]at hy2;by_cases b1:x1=b
   .rw[aP b1]at hy1;exact hcb y hy2 hy1
   .rw[aQ b1]at hy1;rw[hl3 x1 a1 b1]at hx1;exact hh.apart b x1 y hbn hx1 (Ne.symm b1) (hS5 y hy2) hy1
  .rw[aQ a1]at hy1;rw[aQ a2]at hy2;by_cases b1:x1=b<;>by_cases b2:x2=b
   .exact hne2 (b1.trans b2.symm)
   .rw[aP b1]at hy1;rw[aQ b2]at hy2;rw[hl3 x2 a2 b2]at hx2;exact hh.apart b x2 y hbn hx2 (Ne.symm b2) (hSb y hy1) hy2
   .rw[aQ b1]at hy1;rw[aP b2]at hy2;rw[hl3 x1 a1 b1]at hx1;exact hh.apart b x1 y hbn hx1 (Ne.symm b1) (hSb y hy2) hy1
   .rw[aQ b1]at hy1;rw[aQ b2]at hy2;rw[hl3 x1 a1 b1]at hx1;rw[hl3 x2 a2 b2]at hx2;exact hh.apart x1 x2 y hx1 hx2 hne2 hy1 hy2
 .refine⟨λx hx=>U x (hs.ext.used x hx),λx blk' hx hl'=>?_,λx hx hF=>?_,hs.ext.okE⟩
  .obtain⟨y,g1,g2,g3,g4⟩:=O x blk' (hs.ext.used x hx) hl';obtain⟨z,k1,k2,k3,k4⟩:=hs.ext.old x y hx g1;exact⟨z,k1,k2.trans g2,k3.trans g3,g4.trans k4⟩
  .obtain⟨g1,g2⟩:=hs.ext.free x hx hF;refine⟨g1,λb2 blk2 β2 c2 hb2 h2 e=>?_⟩;replace hb2:H b2=some blk2:=hb2;by_cases a1:b2=c
   .subst a1;rw[hν1]at h2;subst e;exact C.tm (by rw[←hs.kp];exact hT) β2 hx (hB1 β2 (by rw[hφ];simp[(hn1 _ _ h2).2])) hF
   .rw[hν2 _ a1]at h2;by_cases a2:b2=b
    .subst a2;exact g2 b2 blk β2 c2 hb h2 e
    .rw[hl3 b2 a1 a2]at hb2;exact g2 b2 blk2 β2 c2 hb2 h2 e
def Raw1(κ:Kp)(x d:AV):Prop:=∃W G v S,κ.fx=some (W,G)/\x= .sc v/\RepD W d v S/\∀b∈S,G b
def RawK(κ:Kp):AV->AV->Prop
 | .agg xs,.agg ds=>All2 (Raw1 κ) xs ds
 |x,d=>Raw1 κ x d
theorem Sim.stays{C:Ctx}{s:AState}{ν:Nu}{a:Act}{w:World}(hs:Sim C s ν a w){κ:Kp}(hκ:s.kp=κ){W:World}{G:Nat->Prop}(h:κ.fx=some (W,G)){b:Nat}(hb:G b):w.heap[b]? =W.heap[b]? /\mM s.heap ν b:=by
 obtain⟨e1,e2⟩:=C.fxp (W,G) (by rw[←hs.kp,hκ];exact h);obtain⟨e3,e4⟩:=e2 b hb;obtain⟨e5,e6⟩:=hs.ext.free b e3 e4;rw[e1]at e5;exact⟨e5,e6,hs.okF (W,G) (by rw[←hs.kp,hκ];exact h) b hb⟩
theorem Raw1.rep{C:Ctx}{s:AState}{ν ν':Nu}{a:Act}{w:World}{h:Hp}{u:Us}(hs:Sim C s ν a w){κ:Kp}(hκ:s.kp=κ){x d:AV}{v:Value}(r:Rep1 w h u ν' x v)(m:Raw1 κ x d):∃S',RepD w d v S':=by
 obtain⟨W,G,y,S,h1,rfl,h2,h3⟩:=m;rw[r.1];exact⟨S,h2.keep λb hm=>(hs.stays hκ h1 (h3 b hm)).1⟩
theorem RawK.rep{C:Ctx}{s:AState}{ν:Nu}{a:Act}{w:World}(hs:Sim C s ν a w){κ:Kp}(hκ:s.kp=κ){x d:AV}{v:Value}(r:RepA w s.heap s.used ν x v)(m:RawK κ x d):∃S',RepD w d v S':=by
 by_cases ho:∃xs ds,x= .agg xs/\d= .agg ds
 .obtain⟨xs,ds,rfl,rfl⟩:=ho;obtain⟨vs,rfl,r⟩:=r;obtain⟨S,h⟩:=Cb (V:=Raw1 κ) (λx d v hr hm=>hm.rep hs hκ hr) r m;exact⟨S,by simp only[RepD];exact⟨vs,rfl,h⟩⟩
 .have m':Raw1 κ x d:=by
   cases x<;>first|exact m|(cases d<;>first|exact m|exact absurd ⟨_,_,rfl,rfl⟩ ho)
  obtain⟨W,G,y,S,h1,rfl,h2,h3⟩:=m';exact Raw1.rep (h:=s.heap) (u:=s.used) (ν':=ν) (x:=.sc y) hs hκ (show Rep1 w s.heap s.used ν (.sc y) v from r) ⟨W,G,y,S,h1,rfl,h2,h3⟩
def rd1:AV->Bool
 | .sc _=>true
 | .list _ _=>true
 | .ref _=>true
 |_=>false
def rdA:AV->Bool
 | .agg ds=>ds.all rd1
 |d=>rd1 d
theorem Raw1.rep1{C:Ctx}{s:AState}{ν:Nu}{a:Act}{w:World}(hs:Sim C s ν a w){κ:Kp}(hκ:s.kp=κ){x d:AV}{v:Value}(r:Rep1 w s.heap s.used ν x v)(m:Raw1 κ x d)(ok:rd1 d=true):Rep1 w s.heap s.used ν d v:=by
 obtain⟨W,G,y,S,h1,rfl,h2,h3⟩:=m;rw[r.1];have h4:=h2.keep λb hm=>(hs.stays hκ h1 (h3 b hm)).1;cases d<;>simp only[rd1,gC]at ok
 .simp only[RepD]at h4;exact⟨h4.1,h4.2.1⟩
 .exact⟨S,h4,λx hx=>(hs.stays hκ h1 (h3 x hx)).2⟩
 .exact⟨S,h4,λx hx=>(hs.stays hκ h1 (h3 x hx)).2⟩
theorem RawK.repA{C:Ctx}{s:AState}{ν:Nu}{a:Act}{w:World}(hs:Sim C s ν a w){κ:Kp}(hκ:s.kp=κ){x d:AV}{v:Value}(r:RepA w s.heap s.used ν x v)(m:RawK κ x d)(ok:rdA d=true):RepA w s.heap s.used ν d v:=by
 by_cases ho:∃xs ds,x= .agg xs/\d= .agg ds
 .obtain⟨xs,ds,rfl,rfl⟩:=ho;obtain⟨vs,rfl,r⟩:=r;refine⟨vs,rfl,?_⟩
  have key:∀{xs ds:aH}{vs:List Value},All2 (Rep1 w s.heap s.used ν) xs vs->All2 (Raw1 κ) xs ds->ds.all rd1=true->All2 (Rep1 w s.heap s.used ν) ds vs:=by
   intro xs;induction xs with
   |nil=>intro ds vs h1 h2 _;simp only[All2]at h1 h2;subst h1 h2;rfl
   |cons x xs ih=>
    rintro ds vs ⟨v,q,rfl,g1,g2⟩ ⟨d,r,rfl,k1,k2⟩ o;simp only[List.all_cons,bX]at o;exact⟨v,q,rfl,k1.rep1 hs hκ g1 o.1,ih g2 k2 o.2⟩
  exact key r m ok
 .have m':Raw1 κ x d:=by
   cases x<;>first|exact m|(cases d<;>first|exact m|exact absurd ⟨_,_,rfl,rfl⟩ ho)
  have ok':rd1 d=true:=by
   cases d<;>first|exact ok|skip
   obtain⟨W,G,y,S,h1,rfl,h2,h3⟩:=m';have e:RepA w s.heap s.used ν (.sc y) v:=r;exfalso;simp only[RepD]at h2;obtain⟨vs,rfl,_⟩:=h2;exact absurd e.2 (by simp[Value.oneCell'])
  have r1:Rep1 w s.heap s.used ν x v:=by
   obtain⟨W,G,y,S,h1,rfl,h2,h3⟩:=m';exact r
  have:=m'.rep1 hs hκ r1 ok';cases d<;>first|exact this|(simp only[rd1,gC]at ok')
def aIR(σ:Nat->Option Nat)(n:Nat)(κ:Kp)(x d:AV):Prop:=rR σ n x d∨(RawK κ x d/\rdA d=true/\rR σ n d d)
section
variable {P:Program}{dst:Option Tmp}{ty:TypeId}{pos:String}{aft:Array Edge}{g:Option (Nat×Bool)}{ins:Operand->Option AV}{hp:Hp}{κ:Kp}
theorem Zq{fo:Operand}{xs:Array Operand}{ats:Array TypeId}{f:FuncId}{caps avs ds:aH}{hl hl' hl2:List (Nat×Blk)}{kp n':Nat}{r r2:AV}{σ σ':Nat->Option Nat}{touch news:List Nat}{ed:List (Nat×Option Blk)}
  (hc:HasE P f ds hl kp r hl') (hf:ins fo=some (.fn f caps)) (hx:Ia ins xs.toList=some avs) (hav:All2 (aIR σ kp κ) (avs++caps) ds) (hh:pJ σ kp hp hl) (hi:Ea σ hl=true) (hit:BV σ touch hl=true) (hlive:(touch.all λb=>(hp b).isSome)=true)
  (hh':pJ σ' n' (hZ hl') hl2) (hi':Ea σ' hl2=true) (hr:rR σ' n' r r2) (hbk:Gp σ σ' kp news hl2=true) (htl:QO (touch++news) hl2) (htr:Sd (touch++news) r2=true) (he:zD (touch++news) hl2=ed):
  AEff P ⟨dst,.call ⟨.value fo,xs,ats⟩,ty,pos,aft,g⟩ ins hp κ ⟨r2,touch,ed,news⟩:=by
 have key:∃av2,All2 (rR σ kp) av2 ds/\∀(C:Ctx)(s:AState)(ν:Nu)(a:Act)(w:World)(vs:List Value),s.kp=κ->Sim C s ν a w->All2 (RepA w s.heap s.used ν) (avs++caps) vs->All2 (RepA w s.heap s.used ν) av2 vs:=by
  clear hx;revert hav;generalize avs++caps=xs;clear hc;intro hav;induction xs generalizing ds with
  |nil=>simp only[All2]at hav;subst hav;exact⟨[],rfl,λ_ _ _ _ _ _ _ _ h=>h⟩
  |cons x xs ih=>
   obtain⟨d,r,rfl,h1,h2⟩:=hav;obtain⟨av2,g1,g2⟩:=ih h2;rcases h1 with h1|⟨k1,k2,k3⟩
   .refine⟨x::av2,⟨d,r,rfl,h1,g1⟩,λC s ν a w vs hκ hs hv=>?_⟩;obtain⟨v,q,rfl,e1,e2⟩:=hv;exact⟨v,q,rfl,e1,g2 C s ν a w q hκ hs e2⟩
   .refine⟨d::av2,⟨d,r,rfl,k3,g1⟩,λC s ν a w vs hκ hs hv=>?_⟩;obtain⟨v,q,rfl,e1,e2⟩:=hv;exact⟨v,q,rfl,k1.repA hs hκ e1 k2,g2 C s ν a w q hκ hs e2⟩
 obtain⟨av2,g1,g2⟩:=key;exact Sh hc hf hx g2 g1 hh hi hit hlive hh' hi' hr hbk htl htr he
end
def Ce(W:World):Option (World×(Nat->Prop)):=some (W,λx=>x<W.heap.size)
theorem GR{κ:Kp}{W:World}{d:AV}{v:Value}{S:List Nat}(h:κ.fx=Ce W)(r:RepD W d v S):Raw1 κ (.sc v) d:=⟨W,_,v,S,h,rfl,r,r.lt⟩
theorem Jh{κ:Kp}{W:World}{u:Value}(h:κ.fx=Ce W)(o:u.oneCell'=true):Raw1 κ (.sc u) (.sc u):=GR h (Fw o)
theorem aFm{κ:Kp}{W:World}{k:Nat}{es:List aH}{v:Value}{S:List Nat}(h:κ.fx=Ce W)(r:RepD W (.list k es) v S):RawK κ (.sc v) (.list k es):=GR h r
theorem PR{κ:Kp}:RawK κ (.agg []) (.agg []):=rfl
theorem qG{κ:Kp}{x d:AV}{xs ds:aH}(a:Raw1 κ x d)(b:RawK κ (.agg xs) (.agg ds)):RawK κ (.agg (x::xs)) (.agg (d::ds)):=⟨d,ds,rfl,a,b⟩
def BW(κ:Kp)(h:Hp)(x d:AV):Prop:=viewA h x d∨RawK κ x d
theorem zE{κ:Kp}{h:Hp}:All2 (BW κ h) [] []:=rfl
theorem yI{κ:Kp}{h:Hp}{x d:AV}{xs ds:aH}(a:BW κ h x d)(b:All2 (BW κ h) xs ds):All2 (BW κ h) (x::xs) (d::ds):=⟨d,ds,rfl,a,b⟩
theorem QS{R:AV->Value->Prop}{V:AV->AV->Prop}{w:World}(hr:∀x d v,R x v->V x d->∃S',RepD w d v S'){xs ds:aH}{vs:List Value}(r:All2 R xs vs)(m:All2 V xs ds):∃S',RepVs w ds vs S':=Cb hr r m
section
variable {P:Program}{dst:Option Tmp}{ty:TypeId}{pos:String}{aft:Array Edge}{g:Option (Nat×Bool)}{ins:Operand->Option AV}{hp:Hp}{κ:Kp}
theorem Si{fo:Operand}{xs:Array Operand}{ats:Array TypeId}{f:FuncId}{avs ds:aH}{r x:AV}{nb:List (Nat×Blk)}{ns ns':List Nat}(hf:ins fo=some (.fn f []))(hx:Ia ins xs.toList=some avs)(hc:HasC P f ds r)(hv1:All2 (BW κ hp) avs ds)(hg:ON r)
  (hi:XG ns r=(x,nb,ns')) (hfl:VL x=true) (hn:ns.Nodup):
  AEff P ⟨dst,.call ⟨.value fo,xs,ats⟩,ty,pos,aft,g⟩ ins hp κ ⟨x,avs.flatMap (lX hp),tE nb,nb.map (·.1)⟩:=by
 refine⟨λC s ν a w Q K {hκ} hi' ht hnw hd hs hK=>?_⟩;have h1:=hs.ev ((hi' fo (by simp[Op.operands,Call.operands])).trans hf);simp only[RepA,RepB]at h1;obtain⟨cv,h1,h2⟩:=h1;simp only[All2]at h2;subst h2;obtain⟨φ,hh⟩:=hs.heap;have h3:=Fx hs (xs:=xs.toList) (λy hy=>hi' y (by simp[Op.operands,Call.operands];exact .inr (Array.mem_toList_iff.1 hy))) hx;have hv1':All2 (BW κ s.heap) avs ds:=hv1.congrM λy hy d hd=>hd.elim (λhd=>.inl (hd.congr λb hb=>ht b (List.mem_flatMap.2 ⟨y,hy,hb⟩))) .inr;obtain⟨S1,e1⟩:=QS (V:=BW κ s.heap) (λx d v hr hv=>hv.elim (λhv=>viewA.rep hh hr hv) (λhv=>hv.rep hs hκ hr)) h3 hv1';have hcall:=hc.calls w (xs.map a.eval) S1 (by simpa using e1);unfold Oper.wp
 have hex:(execOp a.eval ⟨dst,.call ⟨.value fo,xs,ats⟩,ty,pos,aft,g⟩).run P w= .ok (.enter f (xs.map a.eval)) w:=by
  have:execOp a.eval ⟨dst,.call ⟨.value fo,xs,ats⟩,ty,pos,aft,g⟩=callFunc f (xs.map a.eval):=by
   simp[execOp,resolve,h1,Deferred.ofValue,invoke]
  rw[this];exact hc.enters _ _
 rw[hex];simp only[Oper.upon];refine hcall.mono λe w' ⟨v,S',he,hb,hr,hnew⟩=>?_;subst he;simp only;obtain⟨g1,X,Sf,g2,g3⟩:=Yj (w:=w) hi hfl hr hg hnew.1 hn;have hnn:(nb.map (·.1)).Nodup:=by rw[g1]at hn;exact(List.nodup_append.1 hn).1
 obtain⟨ν',hs'⟩:=hs.call hd hb g2 hnew hnn (λb hb=>hnw b hb) g3 (touch:=avs.flatMap (lX hp));exact hK ν' _ _ hs'
end
section
variable {P:Program}{dst:Option Tmp}{ty:TypeId}{pos:String}{aft:Array Edge}{g:Option (Nat×Bool)}{s:AState}
theorem Cf{f:FuncId}{xs:Array Operand}{ats:Array TypeId}{avs ds:aH}{u:Value}(hc:HasC P f ds (.sc u))(hx:Ia s.ev xs.toList=some avs)(hv1:All2 (BW s.kp s.heap) avs ds):
  AEff P ⟨dst,.call ⟨.value (.func f),xs,ats⟩,ty,pos,aft,g⟩ s.ev s.heap s.kp ⟨.sc u,avs.flatMap (lX s.heap),[],[]⟩:=
 Si (ns:=[]) (nb:=[]) (r:=.sc u) (x:=.sc u) rfl hx hc hv1 trivial (Ti [] u) rfl (by simp)
theorem QT{f:FuncId}{xs:Array Operand}{ats:Array TypeId}{avs ds:aH}{r x:AV}{nb:List (Nat×Blk)}{ns':List Nat}(hc:HasC P f ds r)(hx:Ia s.ev xs.toList=some avs)(hi:XG s.ns r=(x,nb,ns'))(hfl:VL x=true)(hn:pK s.ns=true)(hg:ON r)(hv1:All2 (BW s.kp s.heap) avs ds):
  AEff P ⟨dst,.call ⟨.value (.func f),xs,ats⟩,ty,pos,aft,g⟩ s.ev s.heap s.kp ⟨x,avs.flatMap (lX s.heap),tE nb,nb.map (·.1)⟩:=
 Si rfl hx hc hv1 hg hi hfl (Cc hn)
end
def ME(w:World):aH->(aH->Prop)->Prop
 | [],K=>K []
 | .sc u::cs,K=>ME w cs (λxs=>K (.sc u::xs))
 |d::cs,K=>∀v S,RepD w d v S->ME w cs (λxs=>K (.sc v::xs))
def vN(w:World):aH->(aH->Prop)->Prop
 | [],K=>K []
 | .sc u::ds,K=>vN w ds (λxs=>K (.sc u::xs))
 | .agg cs::ds,K=>ME w cs (λxs=>vN w ds (λys=>K (.agg xs::ys)))
 |d::ds,K=>∀v S,RepD w d v S->vN w ds (λxs=>K (.sc v::xs))
theorem zT{w:World}{K:aH->Prop}(h:K []):ME w [] K:=h
theorem yJ{w:World}{u:Value}{cs:aH}{K:aH->Prop}(h:ME w cs (λxs=>K (.sc u::xs))):ME w (.sc u::cs) K:=h
theorem pM{w:World}{k:Nat}{es:List aH}{cs:aH}{K:aH->Prop}(h:∀v S,RepD w (.list k es) v S->ME w cs (λxs=>K (.sc v::xs))):ME w (.list k es::cs) K:=h
theorem MF{w:World}{K:aH->Prop}(h:K []):vN w [] K:=h
theorem PS{w:World}{u:Value}{cs:aH}{K:aH->Prop}(h:vN w cs (λxs=>K (.sc u::xs))):vN w (.sc u::cs) K:=h
theorem MG{w:World}{xs cs:aH}{K:aH->Prop}(h:ME w xs (λxs=>vN w cs (λys=>K (.agg xs::ys)))):vN w (.agg xs::cs) K:=h
theorem Tq{w:World}{k:Nat}{es:List aH}{cs:aH}{K:aH->Prop}(h:∀v S,RepD w (.list k es) v S->vN w cs (λxs=>K (.sc v::xs))):vN w (.list k es::cs) K:=h
def Yr:AV->Bool
 | .sc u=>u.oneCell'
 | .agg cs=>cs.all kR
 | .list _ _=>true
 |_=>false
theorem QU{w:World}{d:AV}{v:Value}{S:List Nat}(r:RepD w d v S)(ok:kR d=true):v.oneCell'=true:=by
 cases d<;>simp only[kR,gC]at ok<;>simp only[RepD]at r
 .rw[r.1];exact ok
 .obtain⟨a,c,rfl,_⟩:=r;rfl
theorem PT{w:World}:∀{cs:aH}{us:List Value}{S:List Nat}{K:aH->Prop},RepVs w cs us S->cs.all kR=true->ME w cs K->∃xs,K xs/\∀(w':World)(h:Hp)(u:Us)(ν:Nu),All2 (Rep1 w' h u ν) xs us
 | [],us,S,K,r,_,k=>by simp only[RepVs]at r;obtain⟨rfl,_⟩:=r;exact⟨[],k,λ_ _ _ _=>rfl⟩
 |c::cs,us,S,K,r,ok,k=>by
  simp only[RepVs]at r;obtain⟨v,q,S1,S2,rfl,rfl,h3,h4⟩:=r;simp only[List.all_cons,bX]at ok
  have key:∀x,ME w cs (λxs=>K (x::xs))->x= .sc v->∃xs,K xs/\∀(w':World)(h:Hp)(u:Us)(ν:Nu),All2 (Rep1 w' h u ν) xs (v::q):=by
   rintro x k1 rfl;obtain⟨xs,g1,g2⟩:=PT h4 ok.2 k1;exact⟨.sc v::xs,g1,λw' h u ν=>⟨v,q,rfl,⟨rfl,QU h3 ok.1⟩,g2 w' h u ν⟩⟩
  cases c<;>simp only[kR,gC,false_and]at ok
  .simp only[RepD]at h3;exact key _ k (by rw[h3.1])
  .exact key _ (k v S1 h3) rfl
theorem NK{w:World}:∀{ds:aH}{vs:List Value}{S:List Nat}{K:aH->Prop},RepVs w ds vs S->ds.all Yr=true->vN w ds K->∃xs,K xs/\xs.length=ds.length/\∀(h:Hp)(u:Us)(ν:Nu),All2 (RepA w h u ν) xs vs
 | [],vs,S,K,r,_,k=>by simp only[RepVs]at r;obtain⟨rfl,_⟩:=r;exact⟨[],k,rfl,λ_ _ _=>rfl⟩
 |d::ds,vs,S,K,r,ok,k=>by
  simp only[RepVs]at r;obtain⟨v,q,S1,S2,rfl,rfl,h3,h4⟩:=r;simp only[List.all_cons,bX]at ok
  have key:∀x,vN w ds (λxs=>K (x::xs))->(∀(h:Hp)(u:Us)(ν:Nu),RepA w h u ν x v)->∃xs,K xs/\xs.length=(d::ds).length/\∀(h:Hp)(u:Us)(ν:Nu),All2 (RepA w h u ν) xs (v::q):=by
   intro x k1 hx;obtain⟨xs,g1,g2,g3⟩:=NK h4 ok.2 k1;exact⟨x::xs,g1,by simp[g2],λh u ν=>⟨v,q,rfl,hx h u ν,g3 h u ν⟩⟩
  cases d<;>simp only[Yr,gC,false_and]at ok
  .simp only[RepD]at h3;exact key _ k λh u ν=>by simp only[RepA,RepB,Rep1];exact⟨h3.1,h3.2.1⟩
  .exact key _ (k v S1 h3) λh u ν=>(show Rep1 w h u ν (.sc v) v from ⟨rfl,QU h3 rfl⟩)
  .have h3':=h3;simp only[RepD]at h3';obtain⟨us,rfl,h5⟩:=h3';obtain⟨xs,g1,g2⟩:=PT h5 ok.1 k;exact key _ g1 λh u ν=>by simp only[RepA,RepB];exact⟨us,rfl,g2 w h u ν⟩
theorem Vb{P:Program}{T:List (Nat×Ty)}(hT:TyOk P T){f:FuncId}{fn:Func}{c:Code}{nt:Nat}{ds:aH}{r:AV}{rvs:List ResultVar}{ns:List Nat}(hf:P.funcs[f]? =some fn)(hb:fn.body=some c)(hname:(fn.name== "runtime.NumGoroutine")=false)(hnt:fn.ntmps=nt)(hres:fn.results.toList=rvs)
  (hlen:Nat.ble ds.length nt=true) (hok:ds.all Yr=true) (h:∀W:World,vN W ds λxs=>AC P nt c ⟨Ii xs,hZ [],yG 0,ns,⟨0,true,Ce W,true⟩⟩ (Od T rvs r)):HasC P f ds r:=by
 refine⟨Enters.mk hf (by rw[hb];rfl) hname,λw args S hargs=>?_⟩;refine(callsIn_wide (n:=0)).1 (callsIn_of_wp_marks (F:=fw none) hf hb trivial ?_);have hlen':=Nat.le_of_ble_eq_true hlen;have hal:args.size=ds.length:=by have:=hargs.len;simpa using this
 obtain⟨xs,hac,hxl,hxr⟩:=NK hargs hok (h w);let C:Ctx:=⟨w.heap.size,w,nt,λx=>w.heap.size<=x,λ_ h=>h,⟨0,true,Ce w,true⟩,w,hZ [],Nu.none,λx=>x<w.heap.size,λ_ x hx hm=>absurd hx (Nat.not_lt.2 hm),(λp h=>by cases h;exact⟨rfl,λx hx=>⟨hx,hx⟩⟩),none,λ_=>rfl⟩;have hfr:∀x,vI (hZ []) Nu.none x:=λx b blk β c hb=>by cases hb
 have hsim:Sim C ⟨Ii xs,hZ [],yG 0,ns,⟨0,true,Ce w,true⟩⟩ Nu.none ⟨args++Array.replicate (fn.ntmps-args.size) undef,[]⟩ w:=by
  refine⟨Below.refl _ _,bD _,λ_ hx=>hx,yE,by show(args++Array.replicate (fn.ntmps-args.size) undef).size=nt;simp[hnt];omega,?_,⟨λ_=>[],λb blk hb=>(by cases hb),λb c x hb=>absurd rfl hb⟩,rfl,ExtF.refl λx _ _=>hfr x,bD _,λ_ _=>trivial,λ_ _ _ _=>trivial⟩;intro t x hx;have hx':xs[t]? =some x:=by rw[←MA];exact hx
  obtain⟨v,h1,h2⟩:=(hxr (hZ []) (yG 0) Nu.none).get hx';refine⟨v,?_,h2⟩
  have hlt:t<args.size:=by
   rcases dX t args.size with h'|h'
   .exact h'
   .rw[jX (by simpa using h')]at h1;cases h1
  show(args++Array.replicate (fn.ntmps-args.size) undef)[t]? =some v;rw[Array.getElem?_append_left hlt];simpa using h1
 refine wpIn_mono (hac.out C rfl _ _ w hsim 0) λe a' w0 ⟨s',ν',hq,hs0⟩=>?_;obtain⟨Ds,d1,d2,d3⟩:=hs0.defers;obtain⟨w',hs',hleave⟩:=hs0.leave (P:=P) (n:=0) d1 d2 d3;obtain⟨he,avs,hv,hn,hfz⟩:=hq;obtain⟨us,h1,h2⟩:=DV hT hs' hv;obtain⟨φ,hh⟩:=hs'.heap;have hn':=Cc hn
 have hrun:(results fn a'.tmps).run P w'= .ok (if hh:us.toArray.size=1 then us.toArray[0]else .tuple us.toArray) w':=by
  unfold results;rw[Sem.run_bind,Array.mapM_eq_mapM_toList,Sem.run_map,hres];have h1':=h1;generalize hq:(List.mapM _ rvs:Sem (List Value))=m;rw[show Sem.run P m w'= .ok us w' by rw[←hq];exact h1'];simp
 have hres2:∃S',Pw w' r (if hh:us.toArray.size=1 then us.toArray[0]else .tuple us.toArray) S'/\New w.heap.size S':=by
  have hul:us.length=avs.length:=h2.len;unfold Pz at hfz;split at hfz
  .rename_i v r';obtain⟨u,q,rfl,g1,g2⟩:=h2;simp only[All2]at g2;subst g2;simp only[List.flatMap_cons,List.flatMap_nil,List.append_nil]at hn';obtain⟨S',a1,a2,a3,a4⟩:=Lx hh g1 hfz.1 hn';refine⟨S',?_,a2,a3⟩;simp only[List.size_toArray,List.length_cons,List.length_nil,Nat.zero_add,dite_true];have hnt:=hfz.2;cases r<;>first|exact a1|exact absurd rfl (hnt _)
  .rename_i vs rs _;obtain⟨S',a1,a2,a3,a4⟩:=JX hh h2 hfz.2 hn';refine⟨S',?_,a2,a3⟩;rw[dif_neg (by simp;rw[hul];exact hfz.1)];exact⟨us,rfl,a1⟩
  .exact hfz.elim
 obtain⟨S',hr1,hr2⟩:=hres2;have hend:=hleave fn (λe w'=>∃v S',e= .returned v/\Below w.heap.size w w'/\Pw w' r v S'/\New w.heap.size S') ⟨_,hrun,_,S',rfl,hs'.below,hr1,hr2⟩;cases e<;>simp only[Ih,gC]at he<;>exact hend
def dfE:List (Nat×AV)->Prop
 | []=>True
 |(_,x)::r=>dfA x=true/\dfE r
theorem QV:∀{l:List (Nat×AV)},dfE l->∀t x,tA l t=some x->dfA x=true
 | [],_,t,x,h=>by cases h
 |(k,v)::r,⟨h1,h2⟩,t,x,h=>by
  simp only[tA]at h;cases hb:Nat.beq t k with
  |true=>rw[hb]at h;cases h;exact h1
  |false=>rw[hb]at h;exact QV h2 t x h
def dfR(y:Blk):Prop:=∀cs∈y.es,∀c∈cs,dfC c=true
def dfH(skip:List Nat):List (Nat×Blk)->Prop
 | []=>True
 |(b,y)::r=>(b∈skip∨dfR y)/\dfH skip r
theorem QW{skip:List Nat}:∀{l:List (Nat×Blk)},dfH skip l->∀b blk,hZ l b=some blk->b ∉ skip->∀cs∈blk.es,∀c∈cs,dfC c=true
 | [],_,b,x,h=>by cases h
 |(k,v)::r,⟨h1,h2⟩,b,x,h=>by
  simp only[hZ]at h;by_cases e:b=k
  .subst e;rw[bU]at h;cases h;intro hn;exact h1.elim (λh=>absurd h hn) id
  .rw[cA e]at h;exact QW h2 b x h
theorem EOk.df{α:Type}{k:Nat}{e:α->aH}(E:EOk k e)(k':Nat)(l:List α):dfR ⟨k',l.map (ow e)⟩:=by
 intro cs hcs c hc;obtain⟨x,_,rfl⟩:=List.mem_map.1 hcs;obtain⟨d,hd,rfl⟩:=List.mem_map.1 hc;have:=E.mem x d hd;cases d<;>simp only[kR,gC]at this<;>rfl
theorem EOk.dfS{α:Type}{k:Nat}{e:α->aH}(E:EOk k e)(k':Nat)(l:List α)(i:Nat){c:aH}(h:c.all dfC=true):dfR ⟨k',(l.map (ow e)).set i c⟩:=by
 intro cs hcs d hd;rcases List.mem_or_eq_of_mem_set hcs with h1|rfl
 .exact E.df k' l cs h1 d hd
 .exact List.all_eq_true.1 h d hd
theorem BX{k:Nat}{es:List aH}(h:(es.all λcs=>cs.all dfC)=true):dfR ⟨k,es⟩:=λcs hcs c hc=>List.all_eq_true.1 (List.all_eq_true.1 h cs hcs) c hc
theorem MH{α:Type}{e:α->aH}{l:List α}{i:Nat}{v:α}(h:l[i]? =some v):l.map (ow e)=(l.map (ow e)).set i (ow e v):=by
 rw[←List.map_set];congr 1;refine List.ext_getElem? λj=>?_;rw[List.getElem?_set];by_cases e:i=j
 .subst e
  have:i<l.length:=by
   rcases dX i l.length with h'|h'
   .exact h'
   .rw[jX h']at h;cases h
  rw[aP rfl,aP this,h]
 .rw[aQ e]
theorem Ji{α:Type}{k:Nat}{e:α->aH}(E:EOk k e){l:List α}{i:Nat}{c:aH}(h:c.all zP=true):Fv ((l.map (ow e)).set i c):=by
 intro cs hcs d hd;rcases List.mem_or_eq_of_mem_set hcs with h1|rfl
 .exact E.plainO l cs h1 d hd
 .exact List.all_eq_true.1 h d hd
theorem Jj{s:AState}{b c i j k k' n:Nat}{A es' fs:List aH}{cs:aH}(hi:i<A.length)(hT:s.kp.T=true)(hb:s.heap b=some ⟨k,A.set i cs⟩)(hj:cs[j]? =some (.abs k' es'))(hc:s.used c=false)(hn:es'.length=n)(hfs:cY es'=fs)(hdf:∀t x,s.env t=some x->dfA x=true)(hdc:∀b blk,s.heap b=some blk->b ∉ ([]:List Nat)->∀cs∈blk.es,∀c∈cs,dfC c=true):
  Ent s ⟨s.env,bB [(c,some ⟨k',fs⟩),(b,some ⟨k,A.set i (GO cs j [.own c 0 n])⟩)] s.heap,gP [c] s.used,s.ns,s.kp⟩:=by
 subst hn hfs
 have hjl:j<cs.length:=by
  rcases dX j cs.length with h'|h'
  .exact h'
  .rw[jX h']at hj;cases hj
 have h:=aBn (c:=c) hT hb (i:=i) (cs:=cs) (by simp[hi]) hj hc hdf (λb blk hb=>hdc b blk hb (by simp));have e:=JY (cs:=cs) (j:=j) (vs:=[.own c 0 es'.length]) (by simp;omega);simp only[List.length_singleton]at e;rw[e]at h;simp only[List.set_set]at h;exact h
theorem aBo{α:Type}{k:Nat}{e:α->aH}{hp:Hp}{b i n:Nat}{l:List α}(E:EOk k e)(hb:hp b=some ⟨k,l.map (ow e)⟩):Ca hp (.own b i n)=some (k,((l.drop i).take n).map e,[b]):=by
 simp only[Ca,hb,←List.map_drop,←List.map_take];rw[aGG E]
theorem k{α:Sort _}{a:α}:a=a:=rfl
section
variable {P:Program}{ops:Array Oper}{nt:Nat}{r:List Oper}{s:AState}{tr:List Tr}{K:List Tr->AState->Prop}{K':AState->Prop}
def QX(ops:Array Oper)(nt:Nat)(s:AState)(o:Oper)(news:List Nat):Bool:=Ob o nt&&((match qC ops s.env o with|some true=>true|_=>false)&&news.all λb=> !s.used b)
theorem NL{o:Oper}{news:List Nat}(h:QX ops nt s o news=true):Ob o nt=true/\qC ops s.env o=some true/\(news.all λb=> !s.used b)=true:=by
 simp only[QX,bX]at h;obtain⟨h1,h2,h3⟩:=h;refine⟨h1,?_,h3⟩;split at h2
 .assumption
 .cases h2
theorem ae{d:Option Tmp}{op:Op}{ty:TypeId}{pos:String}{aft:Array Edge}{g:Option (Nat×Bool)}{e:Eff}(he:AEff P ⟨d,op,ty,pos,aft,g⟩ s.ev s.heap s.kp e)(hb:QX ops nt s ⟨d,op,ty,pos,aft,g⟩ e.news=true)(h:AOps P ops nt r (s.app d e) (DU e::tr) K):AOps P ops nt (⟨d,op,ty,pos,aft,g⟩::r) s tr K:=
 aY he (NL hb).1 (NL hb).2.1 (NL hb).2.2 h
theorem se{d:Option Tmp}{op:Op}{ty:TypeId}{pos:String}{aft:Array Edge}{g:Option (Nat×Bool)}{e:Eff}(he:AEff P ⟨d,op,ty,pos,aft,g⟩ s.ev s.heap s.kp e)(hb:QX ops nt s ⟨d,op,ty,pos,aft,g⟩ e.news=true)(h:SOps P ops nt r (s.app d e) K'):SOps P ops nt (⟨d,op,ty,pos,aft,g⟩::r) s K':=
 VZ he (NL hb).1 (NL hb).2.1 (NL hb).2.2 h
theorem am{d:Option Tmp}{ty:TypeId}{pos:String}{aft:Array Edge}{g:Option (Nat×Bool)}{x:Operand}{v:AV}(hx:s.ev x=some v)(hb:QX ops nt s ⟨d,.move x,ty,pos,aft,g⟩ []=true)(h:AOps P ops nt r (s.app d ⟨v,[],[],[]⟩) (DU ⟨v,[],[],[]⟩::tr) K):AOps P ops nt (⟨d,.move x,ty,pos,aft,g⟩::r) s tr K:=ae (eP hx) hb h
theorem aa{d:Option Tmp}{ty:TypeId}{pos:String}{aft:Array Edge}{g:Option (Nat×Bool)}{x:Operand}{v:AV}(hx:s.ev x=some v)(hb:QX ops nt s ⟨d,.assign x,ty,pos,aft,g⟩ []=true)(h:AOps P ops nt r (s.app d ⟨v,[],[],[]⟩) (DU ⟨v,[],[],[]⟩::tr) K):AOps P ops nt (⟨d,.assign x,ty,pos,aft,g⟩::r) s tr K:=ae (gU hx) hb h
theorem an(h:K tr s):AOps P ops nt [] s tr K:=gQ h
theorem sn(h:K' s):SOps P ops nt [] s K':=aBm h
variable {Q:Exit->AState->Prop}
theorem sQ{x y:Code}(h:AC P nt x s (uP (λs'=>AC P nt y s' Q) Q)):AC P nt (.seq x y) s Q:=mO h
theorem rg{id:Nat}{l:List Oper}(h:AOps P l.toArray nt l s [] (λ_ s'=>Q .normal s')):AC P nt (.region id l.toArray false) s Q:=fK h
theorem KW{id:Nat}{l:List Oper}(h:SOps P l.toArray nt l s (Q .normal)):AC P nt (.region id l.toArray false) s Q:=XV h
theorem tn(h:K' s):uP K' Q .normal s:=h
end
theorem ak{P:Program}{ops:Array Oper}{nt:Nat}{r:List Oper}{s:AState}{tr:List Tr}{K:List Tr->AState->Prop}{d:Option Tmp}{op:Op}{ty:TypeId}{pos:String}{aft:Array Edge}{g:Option (Nat×Bool)}(hg:qC ops s.env ⟨d,op,ty,pos,aft,g⟩=some false)(hd:Ob ⟨d,op,ty,pos,aft,g⟩ nt=true)(h:AOps P ops nt r ⟨Rd d (.tuple []) s.env,s.heap,s.used,s.ns,s.kp⟩ (⟨[],[]⟩::tr) K):AOps P ops nt (⟨d,op,ty,pos,aft,g⟩::r) s tr K:=SN hg hd h
section
variable {σ:Nat->Option Nat}{n b b0 k:Nat}{h:Hp}{r:List (Nat×Blk)}
theorem hB{y:Blk}(hp:Fv y.es)(hs:σ b=some b0)(hb:h b0=some y)(hn:Nat.blt b n=true)(hr:pJ σ n h r):pJ σ n h ((b,y)::r):=by
 simp only[pJ];rw[hs];exact⟨⟨y,hb,rfl,.inl ⟨rfl,hp⟩⟩,hn,hr⟩
theorem hX{y:Blk}(hm:match σ b with|some b0=>∃x,h b0=some x/\Kt σ n x y|none=>y.es=[])(hn:Nat.blt b n=true)(hr:pJ σ n h r):pJ σ n h ((b,y)::r):=⟨hm,hn,hr⟩
end
theorem aIS{P:Program}{T:List (Nat×Ty)}(hT:TyOk P T){dst:Option Tmp}{pos:String}{aft:Array Edge}{g:Option (Nat×Bool)}{s:AState}{x:Operand}{t e k:Nat}{y:Ty}{dty:TypeId}{α:Type}{f:α->aH}{l:List α}(hx:s.ev x=some (.list k (List.map f l)))(hy:dD T t=some y)(hd:y.desc= .slice e):
  AEff P ⟨dst,.call ⟨.builtin .len,#[x],#[t]⟩,dty,pos,aft,g⟩ s.ev s.heap s.kp ⟨.int l.length,[],[],[]⟩:=AEff.val (HV hT hx hy hd) (by rw[dT])
theorem lA{α:Type}{a b:List α}:(a++b).length=a.length+b.length:=List.length_append
theorem lT{α:Type}{a:List α}{i:Nat}{x:α}:(a.set i x).length=a.length:=List.length_set
theorem lR{α:Type}{n:Nat}{x:α}:(List.replicate n x).length=n:=List.length_replicate
theorem lC{α:Type}{a:α}{b:List α}:(a::b).length=b.length+1:=List.length_cons
theorem lN{α:Type}:([]:List α).length=0:=List.length_nil
theorem Ir:([]:aH).all zQ=true:=rfl
theorem pA{d:AV}{ds:aH}(h1:zQ d=true)(h2:ds.all zQ=true):(d::ds).all zQ=true:=by
 rw[List.all_cons,h1,h2];rfl
theorem k2{αa:Sort _}{a:αa}{αb:Sort _}{b:αb}:a=a/\b=b:=⟨rfl,rfl⟩
theorem k3{αa:Sort _}{a:αa}{αb:Sort _}{b:αb}{αc:Sort _}{c:αc}:a=a/\b=b/\c=c:=⟨rfl,rfl,rfl⟩
theorem k4{αa:Sort _}{a:αa}{αb:Sort _}{b:αb}{αc:Sort _}{c:αc}{αd:Sort _}{d:αd}:a=a/\b=b/\c=c/\d=d:=⟨rfl,rfl,rfl,rfl⟩
theorem k5{αa:Sort _}{a:αa}{αb:Sort _}{b:αb}{αc:Sort _}{c:αc}{αd:Sort _}{d:αd}{αe:Sort _}{e:αe}:a=a/\b=b/\c=c/\d=d/\e=e:=⟨rfl,rfl,rfl,rfl,rfl⟩
theorem k7{αa:Sort _}{a:αa}{αb:Sort _}{b:αb}{αc:Sort _}{c:αc}{αd:Sort _}{d:αd}{αe:Sort _}{e:αe}{αf:Sort _}{f:αf}{αg:Sort _}{g:αg}:a=a/\b=b/\c=c/\d=d/\e=e/\f=f/\g=g:=⟨rfl,rfl,rfl,rfl,rfl,rfl,rfl⟩
theorem k8{αa:Sort _}{a:αa}{αb:Sort _}{b:αb}{αc:Sort _}{c:αc}{αd:Sort _}{d:αd}{αe:Sort _}{e:αe}{αf:Sort _}{f:αf}{αg:Sort _}{g:αg}{αh:Sort _}{h:αh}:a=a/\b=b/\c=c/\d=d/\e=e/\f=f/\g=g/\h=h:=⟨rfl,rfl,rfl,rfl,rfl,rfl,rfl,rfl⟩
section
variable {ops:Array Oper}{nt:Nat}{r:List Oper}{s:AState}{tr:List Tr}{K:List Tr->AState->Prop}{K':AState->Prop}{d:Option Tmp}{ty:TypeId}{pos:String}{aft:Array Edge}{g:Option (Nat×Bool)}
theorem lp{x:Operand}{t:Nat}{y:Ty}{b i j:Nat}{blk:Blk}{cs:aH}{v:AV}(h:s.ev x=some (.ptr b i j)/\s.heap b=some blk/\dD TT t=some y/\(y.desc.isAgg||Nat.beq y.size 1)=true/\blk.es[i]? =some cs/\Nat.ble (j+y.size) cs.length=true/\BP y.desc.isAgg (((cs.drop j).take y.size).map Ge)=v/\QX ops nt s ⟨d,.load t x,ty,pos,aft,g⟩ []=true)(g2:AOps Tryz.prog ops nt r (s.app d ⟨v,[b],[],[]⟩) (DU ⟨v,[b],[],[]⟩::tr) K):AOps Tryz.prog ops nt (⟨d,.load t x,ty,pos,aft,g⟩::r) s tr K:=by
 obtain⟨h0,h1,h2,h3,h4,h5,h6,h7⟩:=h;exact ae (eT aL h0 h1 h2 h3 h4 h5 h6) h7 g2
theorem fp{x:Operand}{st f jL ft b i j:Nat}{blk:Blk}{y yf:Ty}{fs:List (Nat×Nat)}(h:s.ev x=some (.ptr b i j)/\s.heap b=some blk/\dD TT st=some y/\y.desc= .struct fs/\fs[f]? =some (jL,ft)/\dD TT ft=some yf/\Nat.beq yf.size 0=false/\QX ops nt s ⟨d,.fieldAddr st x f,ty,pos,aft,g⟩ []=true)(g2:AOps Tryz.prog ops nt r (s.app d ⟨.ptr b i (j+jL),[b],[],[]⟩) (DU ⟨.ptr b i (j+jL),[b],[],[]⟩::tr) K):AOps Tryz.prog ops nt (⟨d,.fieldAddr st x f,ty,pos,aft,g⟩::r) s tr K:=by
 obtain⟨h0,h1,h2,h3,h4,h5,h6,h7⟩:=h;exact ae (DW aL h0 h1 h2 h3 h4 h5 h6) h7 g2
theorem lr{x:Operand}{t:Nat}{y:Ty}{cs:aH}{v:AV}(h:s.ev x=some (.ref cs)/\dD TT t=some y/\(y.desc.isAgg||Nat.beq y.size 1)=true/\Nat.ble y.size cs.length=true/\(cs.take y.size).all eC=true/\BP y.desc.isAgg (cs.take y.size)=v/\QX ops nt s ⟨d,.load t x,ty,pos,aft,g⟩ []=true)(g2:AOps Tryz.prog ops nt r (s.app d ⟨v,[],[],[]⟩) (DU ⟨v,[],[],[]⟩::tr) K):AOps Tryz.prog ops nt (⟨d,.load t x,ty,pos,aft,g⟩::r) s tr K:=by
 obtain⟨h0,h1,h2,h3,h4,h5,h6⟩:=h;exact ae (QB aL h0 h1 h2 h3 h4 h5) h6 g2
theorem cm{op:BinOp}{t t':TypeId}{x y:Operand}{q:IntKind}{a b:Int}{c:Bool}(h:s.ev x=some (.sc (.int q a))/\s.ev y=some (.sc (.int q b))/\aEG op a b=some c/\QX ops nt s ⟨d,.binOp op t x y t',ty,pos,aft,g⟩ []=true)(g2:AOps Tryz.prog ops nt r (s.app d ⟨.bl c,[],[],[]⟩) (DU ⟨.bl c,[],[],[]⟩::tr) K):AOps Tryz.prog ops nt (⟨d,.binOp op t x y t',ty,pos,aft,g⟩::r) s tr K:=by
 obtain⟨h0,h1,h2,h3⟩:=h;exact ae (IC h0 h1 h2) h3 g2
theorem pk{c x y:Operand}{t:Bool}{v:AV}(h:s.ev c=some (.sc (.bool t))/\s.ev (if t then x else y)=some v/\QX ops nt s ⟨d,.pick c x y,ty,pos,aft,g⟩ []=true)(g2:AOps Tryz.prog ops nt r (s.app d ⟨v,[],[],[]⟩) (DU ⟨v,[],[],[]⟩::tr) K):AOps Tryz.prog ops nt (⟨d,.pick c x y,ty,pos,aft,g⟩::r) s tr K:=by
 obtain⟨h0,h1,h2⟩:=h;exact ae (Ib h0 h1) h2 g2
theorem ln{x:Operand}{t e q:Nat}{y:Ty}{α:Type}{f:α->aH}{l:List α}(h:s.ev x=some (.list q (List.map f l))/\dD TT t=some y/\y.desc= .slice e/\QX ops nt s ⟨d,.call ⟨.builtin .len,#[x],#[t]⟩,ty,pos,aft,g⟩ []=true)(g2:AOps Tryz.prog ops nt r (s.app d ⟨.int l.length,[],[],[]⟩) (DU ⟨.int l.length,[],[],[]⟩::tr) K):AOps Tryz.prog ops nt (⟨d,.call ⟨.builtin .len,#[x],#[t]⟩,ty,pos,aft,g⟩::r) s tr K:=by
 obtain⟨h0,h1,h2,h3⟩:=h;exact ae (aIS aL h0 h1 h2) h3 g2
theorem Oe{x:Operand}{t:Nat}{y:Ty}{b i j:Nat}{blk:Blk}{cs:aH}{v:AV}(h:s.ev x=some (.ptr b i j)/\s.heap b=some blk/\dD TT t=some y/\(y.desc.isAgg||Nat.beq y.size 1)=true/\blk.es[i]? =some cs/\Nat.ble (j+y.size) cs.length=true/\BP y.desc.isAgg (((cs.drop j).take y.size).map Ge)=v/\QX ops nt s ⟨d,.load t x,ty,pos,aft,g⟩ []=true)(g2:SOps Tryz.prog ops nt r (s.app d ⟨v,[b],[],[]⟩) K'):SOps Tryz.prog ops nt (⟨d,.load t x,ty,pos,aft,g⟩::r) s K':=by
 obtain⟨h0,h1,h2,h3,h4,h5,h6,h7⟩:=h;exact se (eT aL h0 h1 h2 h3 h4 h5 h6) h7 g2
theorem fpS{x:Operand}{st f jL ft b i j:Nat}{blk:Blk}{y yf:Ty}{fs:List (Nat×Nat)}(h:s.ev x=some (.ptr b i j)/\s.heap b=some blk/\dD TT st=some y/\y.desc= .struct fs/\fs[f]? =some (jL,ft)/\dD TT ft=some yf/\Nat.beq yf.size 0=false/\QX ops nt s ⟨d,.fieldAddr st x f,ty,pos,aft,g⟩ []=true)(g2:SOps Tryz.prog ops nt r (s.app d ⟨.ptr b i (j+jL),[b],[],[]⟩) K'):SOps Tryz.prog ops nt (⟨d,.fieldAddr st x f,ty,pos,aft,g⟩::r) s K':=by
 obtain⟨h0,h1,h2,h3,h4,h5,h6,h7⟩:=h;exact se (DW aL h0 h1 h2 h3 h4 h5 h6) h7 g2
theorem QY{op:BinOp}{t t':TypeId}{x y:Operand}{q:IntKind}{a b:Int}{c:Bool}(h:s.ev x=some (.sc (.int q a))/\s.ev y=some (.sc (.int q b))/\aEG op a b=some c/\QX ops nt s ⟨d,.binOp op t x y t',ty,pos,aft,g⟩ []=true)(g2:SOps Tryz.prog ops nt r (s.app d ⟨.bl c,[],[],[]⟩) K'):SOps Tryz.prog ops nt (⟨d,.binOp op t x y t',ty,pos,aft,g⟩::r) s K':=by
 obtain⟨h0,h1,h2,h3⟩:=h;exact se (IC h0 h1 h2) h3 g2
theorem AI{x:Operand}{v:AV}(h:s.ev x=some v/\QX ops nt s ⟨d,.assign x,ty,pos,aft,g⟩ []=true)(g2:SOps Tryz.prog ops nt r (s.app d ⟨v,[],[],[]⟩) K'):SOps Tryz.prog ops nt (⟨d,.assign x,ty,pos,aft,g⟩::r) s K':=by
 obtain⟨h0,h1⟩:=h;exact se (gU h0) h1 g2
theorem kK{x:Operand}{v:AV}(h:s.ev x=some v/\QX ops nt s ⟨d,.move x,ty,pos,aft,g⟩ []=true)(g2:SOps Tryz.prog ops nt r (s.app d ⟨v,[],[],[]⟩) K'):SOps Tryz.prog ops nt (⟨d,.move x,ty,pos,aft,g⟩::r) s K':=by
 obtain⟨h0,h1⟩:=h;exact se (eP h0) h1 g2
theorem eN:True:=trivial
theorem aT{x:Operand}{v:AV}{Q:Exit->AState->Prop}{T:AState->Prop}(h:s.ev x=some v/\QX ops nt s ⟨d,.assign x,ty,pos,aft,g⟩ []=true)(g2:T (s.app d ⟨v,[],[],[]⟩)):AOps Tryz.prog ops nt [⟨d,.assign x,ty,pos,aft,g⟩] s tr (λ_ s'=>uP T Q .normal s'):=aa h.1 h.2 (an (tn g2))
theorem aK{o1 o2:Oper}(h:(qC ops s.env o1=some false/\Ob o1 nt=true/\qC ops (Rd o1.dst (.tuple []) s.env) o2=some false/\Ob o2 nt=true))(g2:AOps Tryz.prog ops nt r ⟨Rd o2.dst (.tuple []) (Rd o1.dst (.tuple []) s.env),s.heap,s.used,s.ns,s.kp⟩ (⟨[],[]⟩::⟨[],[]⟩::tr) K):AOps Tryz.prog ops nt (o1::o2::r) s tr K:=ak h.1 h.2.1 (ak h.2.2.1 h.2.2.2 g2)
theorem sR{id:Nat}{l:List Oper}{y:Code}{Q:Exit->AState->Prop}(h:AOps Tryz.prog l.toArray nt l s [] (λ_ s'=>uP (λs'=>AC Tryz.prog nt y s' Q) Q .normal s')):AC Tryz.prog nt (.seq (.region id l.toArray false) y) s Q:=sQ (rg h)
theorem sS{id:Nat}{l:List Oper}{y:Code}{Q:Exit->AState->Prop}(h:SOps Tryz.prog l.toArray nt l s (uP (λs'=>AC Tryz.prog nt y s' Q) Q .normal)):AC Tryz.prog nt (.seq (.region id l.toArray false) y) s Q:=sQ (KW h)
end
theorem oB{α β:Type}{o:Option α}{k:α->Option β}{r:β}{p:Prop}(h:o.bind k=some r)(f:∀a,o=some a->k a=some r->p):p:=by
 obtain⟨a,h1,h2⟩:=ob h;exact f a h1 h2
theorem rF{h:Hp}{cs:aH}(hp:cs.all eC=true):viewA h (.agg cs) (.agg cs):=Ly (VO hp)
theorem rtB{T:List (Nat×Ty)}{rvs:List ResultVar}{e:Exit}{s:AState}{u v:Bool}(h:some u=some v)(p:DG T s rvs=some [.bl u]/\Ih e=true):Od T rvs (.bl v) e s:=by
 cases h;exact bT p.2 p.1 rfl (aFk rfl)
theorem rtI{T:List (Nat×Ty)}{rvs:List ResultVar}{e:Exit}{s:AState}{u v:Int}(h:some u=some v)(p:DG T s rvs=some [.int u]/\Ih e=true):Od T rvs (.int v) e s:=by
 cases h;exact bT p.2 p.1 rfl (aBZ rfl)
theorem cL{d:Option Tmp}{ty:TypeId}{pos:String}{aft:Array Edge}{g:Option (Nat×Bool)}{s:AState}{f:FuncId}{xs:Array Operand}{ats:Array TypeId}{avs ds:aH}{ns':List Nat}{α:Type}{e:α->aH}{q b:Nat}{l:List α}(ok:EOk q e)(hc:HasC Tryz.prog f ds (.list q (List.map e l)))(h:Ia s.ev xs.toList=some avs/\s.ns=b::ns'/\pK s.ns=true)(hv:All2 (viewA s.heap) avs ds):AEff Tryz.prog ⟨d,.call ⟨.value (.func f),xs,ats⟩,ty,pos,aft,g⟩ s.ev s.heap s.kp ⟨.own b 0 l.length,avs.flatMap (lX s.heap)++[].flatMap (nP s.heap),[(b,some ⟨q,List.map (ow e) l⟩)],[b]⟩:=
 AEff.conv (qE (x:=.own b 0 (List.map e l).length) (nb:=[(b,⟨q,cY (List.map e l)⟩)]) hc h.1 (by rw[h.2.1];rfl) rfl h.2.2 (ok.good _) hv) (by simp only[bH]) (CU (nb':=[(b,⟨q,List.map (ow e) l⟩)]) (by simp only[kI]))
theorem cLK{d:Option Tmp}{ty:TypeId}{pos:String}{aft:Array Edge}{g:Option (Nat×Bool)}{s:AState}{f:FuncId}{xs:Array Operand}{ats:Array TypeId}{avs ds:aH}{ns':List Nat}{α:Type}{e:α->aH}{q b:Nat}{l:List α}(ok:EOk q e)(hc:HasC Tryz.prog f ds (.list q (List.map e l)))(h:Ia s.ev xs.toList=some avs/\s.ns=b::ns'/\pK s.ns=true)(hv:All2 (BW s.kp s.heap) avs ds):AEff Tryz.prog ⟨d,.call ⟨.value (.func f),xs,ats⟩,ty,pos,aft,g⟩ s.ev s.heap s.kp ⟨.own b 0 l.length,avs.flatMap (lX s.heap),[(b,some ⟨q,List.map (ow e) l⟩)],[b]⟩:=
 AEff.conv (QT (x:=.own b 0 (List.map e l).length) (nb:=[(b,⟨q,cY (List.map e l)⟩)]) hc h.1 (by rw[h.2.1];rfl) rfl h.2.2 (ok.good _) hv) (by simp only[bH]) (CU (nb':=[(b,⟨q,List.map (ow e) l⟩)]) (by simp only[kI]))
theorem cM{d:Option Tmp}{ty:TypeId}{pos:String}{aft:Array Edge}{g:Option (Nat×Bool)}{s:AState}{f:FuncId}{xs:Array Operand}{ats:Array TypeId}{avs ds:aH}{ns':List Nat}{b:Nat}{v:Mt}(hc:HasC Tryz.prog f ds (.agg (eM v)))(h:Ia s.ev xs.toList=some avs/\s.ns=b::ns'/\pK s.ns=true)(hv:All2 (viewA s.heap) avs ds):AEff Tryz.prog ⟨d,.call ⟨.value (.func f),xs,ats⟩,ty,pos,aft,g⟩ s.ev s.heap s.kp ⟨.agg [.int v.rows,.int v.cols,.own b 0 v.cells.length],avs.flatMap (lX s.heap)++[].flatMap (nP s.heap),[(b,some ⟨1,List.map (ow eI) v.cells⟩)],[b]⟩:=
 AEff.conv (qE (x:=.agg [.int v.rows,.int v.cols,.own b 0 (List.map eI v.cells).length]) (nb:=[(b,⟨1,cY (List.map eI v.cells)⟩)]) hc h.1 (by rw[h.2.1];rfl) rfl h.2.2 (cX trivial (cX trivial (cX (cH.good _) BU))) hv) (by simp only[bH]) (CU (nb':=[(b,⟨1,List.map (ow eI) v.cells⟩)]) (by simp only[kI]))
theorem cMK{d:Option Tmp}{ty:TypeId}{pos:String}{aft:Array Edge}{g:Option (Nat×Bool)}{s:AState}{f:FuncId}{xs:Array Operand}{ats:Array TypeId}{avs ds:aH}{ns':List Nat}{b:Nat}{v:Mt}(hc:HasC Tryz.prog f ds (.agg (eM v)))(h:Ia s.ev xs.toList=some avs/\s.ns=b::ns'/\pK s.ns=true)(hv:All2 (BW s.kp s.heap) avs ds):AEff Tryz.prog ⟨d,.call ⟨.value (.func f),xs,ats⟩,ty,pos,aft,g⟩ s.ev s.heap s.kp ⟨.agg [.int v.rows,.int v.cols,.own b 0 v.cells.length],avs.flatMap (lX s.heap),[(b,some ⟨1,List.map (ow eI) v.cells⟩)],[b]⟩:=
 AEff.conv (QT (x:=.agg [.int v.rows,.int v.cols,.own b 0 (List.map eI v.cells).length]) (nb:=[(b,⟨1,cY (List.map eI v.cells)⟩)]) hc h.1 (by rw[h.2.1];rfl) rfl h.2.2 (cX trivial (cX trivial (cX (cH.good _) BU))) hv) (by simp only[bH]) (CU (nb':=[(b,⟨1,List.map (ow eI) v.cells⟩)]) (by simp only[kI]))
theorem cQ{d:Option Tmp}{ty:TypeId}{pos:String}{aft:Array Edge}{g:Option (Nat×Bool)}{s:AState}{f:FuncId}{xs:Array Operand}{ats:Array TypeId}{avs ds:aH}{ns':List Nat}{b c:Nat}{v:Qv}(hc:HasC Tryz.prog f ds (.agg (eQ v)))(h:Ia s.ev xs.toList=some avs/\s.ns=b::c::ns'/\pK s.ns=true)(hv:All2 (viewA s.heap) avs ds):AEff Tryz.prog ⟨d,.call ⟨.value (.func f),xs,ats⟩,ty,pos,aft,g⟩ s.ev s.heap s.kp ⟨.agg [.int v.n,.own b 0 v.src.length,.own c 0 v.tgt.length],avs.flatMap (lX s.heap)++[].flatMap (nP s.heap),[(b,some ⟨1,List.map (ow eI) v.src⟩),(c,some ⟨1,List.map (ow eI) v.tgt⟩)],[b,c]⟩:=
 AEff.conv (qE (x:=.agg [.int v.n,.own b 0 (List.map eI v.src).length,.own c 0 (List.map eI v.tgt).length]) (nb:=[(b,⟨1,cY (List.map eI v.src)⟩),(c,⟨1,cY (List.map eI v.tgt)⟩)]) hc h.1 (by rw[h.2.1];rfl) rfl h.2.2 (cX trivial (cX (cH.good _) (cX (cH.good _) BU))) hv) (by simp only[bH]) (CU (nb':=[(b,⟨1,List.map (ow eI) v.src⟩),(c,⟨1,List.map (ow eI) v.tgt⟩)]) (by simp only[kI]))
theorem cR{d:Option Tmp}{ty:TypeId}{pos:String}{aft:Array Edge}{g:Option (Nat×Bool)}{s:AState}{f:FuncId}{xs:Array Operand}{ats:Array TypeId}{avs ds:aH}{ns':List Nat}{b c b3 b4:Nat}{v:Rp}(hc:HasC Tryz.prog f ds (.agg (eR v)))(h:Ia s.ev xs.toList=some avs/\s.ns=b::c::b3::b4::ns'/\pK s.ns=true)(hv:All2 (viewA s.heap) avs ds):AEff Tryz.prog ⟨d,.call ⟨.value (.func f),xs,ats⟩,ty,pos,aft,g⟩ s.ev s.heap s.kp ⟨.agg [.int v.p,.int v.q.n,.own b 0 v.q.src.length,.own c 0 v.q.tgt.length,.own b3 0 v.dims.length,.own b4 0 v.maps.length],avs.flatMap (lX s.heap)++[].flatMap (nP s.heap),[(b,some ⟨1,List.map (ow eI) v.q.src⟩),(c,some ⟨1,List.map (ow eI) v.q.tgt⟩),(b3,some ⟨1,List.map (ow eI) v.dims⟩),(b4,some ⟨3,List.map (ow eM) v.maps⟩)],[b,c,b3,b4]⟩:=
 AEff.conv (qE (x:=.agg [.int v.p,.int v.q.n,.own b 0 (List.map eI v.q.src).length,.own c 0 (List.map eI v.q.tgt).length,.own b3 0 (List.map eI v.dims).length,.own b4 0 (List.map eM v.maps).length]) (nb:=[(b,⟨1,cY (List.map eI v.q.src)⟩),(c,⟨1,cY (List.map eI v.q.tgt)⟩),(b3,⟨1,cY (List.map eI v.dims)⟩),(b4,⟨3,cY (List.map eM v.maps)⟩)]) hc h.1 (by rw[h.2.1];rfl) rfl h.2.2 (cX trivial (cX trivial (cX (cH.good _) (cX (cH.good _) (cX (cH.good _) (cX (eK.good _) BU)))))) hv) (by simp only[bH]) (CU (nb':=[(b,⟨1,List.map (ow eI) v.q.src⟩),(c,⟨1,List.map (ow eI) v.q.tgt⟩),(b3,⟨1,List.map (ow eI) v.dims⟩),(b4,⟨3,List.map (ow eM) v.maps⟩)]) (by simp only[kI]))
theorem cRK{d:Option Tmp}{ty:TypeId}{pos:String}{aft:Array Edge}{g:Option (Nat×Bool)}{s:AState}{f:FuncId}{xs:Array Operand}{ats:Array TypeId}{avs ds:aH}{ns':List Nat}{b c b3 b4:Nat}{v:Rp}(hc:HasC Tryz.prog f ds (.agg (eR v)))(h:Ia s.ev xs.toList=some avs/\s.ns=b::c::b3::b4::ns'/\pK s.ns=true)(hv:All2 (BW s.kp s.heap) avs ds):AEff Tryz.prog ⟨d,.call ⟨.value (.func f),xs,ats⟩,ty,pos,aft,g⟩ s.ev s.heap s.kp ⟨.agg [.int v.p,.int v.q.n,.own b 0 v.q.src.length,.own c 0 v.q.tgt.length,.own b3 0 v.dims.length,.own b4 0 v.maps.length],avs.flatMap (lX s.heap),[(b,some ⟨1,List.map (ow eI) v.q.src⟩),(c,some ⟨1,List.map (ow eI) v.q.tgt⟩),(b3,some ⟨1,List.map (ow eI) v.dims⟩),(b4,some ⟨3,List.map (ow eM) v.maps⟩)],[b,c,b3,b4]⟩:=
 AEff.conv (QT (x:=.agg [.int v.p,.int v.q.n,.own b 0 (List.map eI v.q.src).length,.own c 0 (List.map eI v.q.tgt).length,.own b3 0 (List.map eI v.dims).length,.own b4 0 (List.map eM v.maps).length]) (nb:=[(b,⟨1,cY (List.map eI v.q.src)⟩),(c,⟨1,cY (List.map eI v.q.tgt)⟩),(b3,⟨1,cY (List.map eI v.dims)⟩),(b4,⟨3,cY (List.map eM v.maps)⟩)]) hc h.1 (by rw[h.2.1];rfl) rfl h.2.2 (cX trivial (cX trivial (cX (cH.good _) (cX (cH.good _) (cX (cH.good _) (cX (eK.good _) BU)))))) hv) (by simp only[bH]) (CU (nb':=[(b,⟨1,List.map (ow eI) v.q.src⟩),(c,⟨1,List.map (ow eI) v.q.tgt⟩),(b3,⟨1,List.map (ow eI) v.dims⟩),(b4,⟨3,List.map (ow eM) v.maps⟩)]) (by simp only[kI]))
theorem cS{d:Option Tmp}{ty:TypeId}{pos:String}{aft:Array Edge}{g:Option (Nat×Bool)}{s:AState}{f:FuncId}{xs:Array Operand}{ats:Array TypeId}{avs ds:aH}{ns':List Nat}{b:Nat}{v:Sc}(hc:HasC Tryz.prog f ds (.agg (eS v)))(h:Ia s.ev xs.toList=some avs/\s.ns=b::ns'/\pK s.ns=true)(hv:All2 (viewA s.heap) avs ds):AEff Tryz.prog ⟨d,.call ⟨.value (.func f),xs,ats⟩,ty,pos,aft,g⟩ s.ev s.heap s.kp ⟨.agg [.int v.size,.own b 0 v.basis.length],avs.flatMap (lX s.heap)++[].flatMap (nP s.heap),[(b,some ⟨1,List.map (ow (dJ 1 eI)) v.basis⟩)],[b]⟩:=
 AEff.conv (qE (x:=.agg [.int v.size,.own b 0 (List.map (dJ 1 eI) v.basis).length]) (nb:=[(b,⟨1,cY (List.map (dJ 1 eI) v.basis)⟩)]) hc h.1 (by rw[h.2.1];rfl) rfl h.2.2 (cX trivial (cX (fX.good _) BU)) hv) (by simp only[bH]) (CU (nb':=[(b,⟨1,List.map (ow (dJ 1 eI)) v.basis⟩)]) (by simp only[kI]))
def re1(σ:Nat->Option Nat):AV->AV
 | .own b i m=>match σ b with|some b0=>.own b0 i m|none=>.dead
 | .ptr b i j=>match σ b with|some b0=>.ptr b0 i j|none=>.dead
 |x=>x
def reA(σ:Nat->Option Nat):AV->AV
 | .agg cs=>.agg (cs.map (re1 σ))
 |x=>re1 σ x
def Zr(σ:Nat->Option Nat)(n:Nat):AV->Bool
 | .own b _ _=>(σ b).isSome &&Nat.blt b n
 | .ptr b _ _=>(σ b).isSome &&Nat.blt b n
 | .sc _=>true
 | .nil _=>true
 | .list _ _=>true
 | .ref _=>true
 |_=>false
def okA(σ:Nat->Option Nat)(n:Nat):AV->Bool
 | .agg cs=>cs.all (Zr σ n)
 |x=>Zr σ n x
def Vc(e:Nat->Option AV):List (Nat×AV)->List (Option AV)
 | []=>[]
 |(t,_)::r=>e t::Vc e r
def Vd(σ:Nat->Option Nat):List (Nat×AV)->List (Option AV)
 | []=>[]
 |(_,y)::r=>some (reA σ y)::Vd σ r
theorem Gq{σ:Nat->Option Nat}{n:Nat}{y:AV}(h:Zr σ n y=true):gZ σ n (re1 σ y) y:=by
 cases y<;>simp only[Zr,gC]at h
 .rfl
 .trivial
 .exact⟨rfl,rfl⟩
 .rfl
 all_goals
  rename_i b i j
  simp only[bX]at h
  obtain⟨b0,hb⟩:=Option.isSome_iff_exists.1 h.1
  simp only[re1,hb]
  exact⟨hb,rfl,rfl,h.2⟩
theorem aFo{σ:Nat->Option Nat}{n:Nat}:∀{cs:aH},cs.all (Zr σ n)=true->All2 (gZ σ n) (cs.map (re1 σ)) cs
 | [],_=>rfl
 |c::cs,h=>by
  simp only[List.all_cons,bX]at h;exact⟨c,cs,rfl,Gq h.1,aFo h.2⟩
theorem aHU{σ:Nat->Option Nat}{n:Nat}{y:AV}(h:okA σ n y=true):rR σ n (reA σ y) y:=by
 cases y with
 |agg cs=>exact aFo h
 |fn f cs=>simp[okA,Zr]at h
 |tuple cs=>simp[okA,Zr]at h
 |dead=>simp[okA,Zr]at h
 |abs q es=>simp[okA,Zr]at h
 |sc u=>exact Gq (σ:=σ) (n:=n) (y:=.sc u) h
 |nil q=>exact Gq (σ:=σ) (n:=n) (y:=.nil q) h
 |list q es=>exact Gq (σ:=σ) (n:=n) (y:=.list q es) h
 |ref cs=>exact Gq (σ:=σ) (n:=n) (y:=.ref cs) h
 |own b i m=>
  have:=Gq (σ:=σ) (n:=n) (y:=.own b i m) h;simp only[reA];generalize re1 σ (.own b i m)=z at*;cases z<;>first|exact this|exact this.elim
 |ptr b i j=>
  have:=Gq (σ:=σ) (n:=n) (y:=.ptr b i j) h;simp only[reA];generalize re1 σ (.ptr b i j)=z at*;cases z<;>first|exact this|exact this.elim
theorem aHV{σ:Nat->Option Nat}{n:Nat}{e:Nat->Option AV}:∀{tl:List (Nat×AV)},Vc e tl=Vd σ tl->(tl.all λp=>okA σ n p.2)=true->HT σ n e tl
 | [],_,_=>trivial
 |(t,y)::r,h,q=>by
  simp only[Vc,Vd,List.cons.injEq]at h;simp only[List.all_cons,bX]at q;exact⟨⟨_,h.1,aHU q.1⟩,aHV h.2 q.2⟩
theorem HP{σ:Nat->Option Nat}{n:Nat}{e:Nat->Option AV}{tl:List (Nat×AV)}(h:Vc e tl=Vd σ tl/\(tl.all λp=>okA σ n p.2)=true):HT σ n e tl:=aHV h.1 h.2
def Cg:List Nat:=[0,1,2,3,4,5,6,7,8,9,10,11,12,13,14,15,16,17,18,19]++[20,21,22,23,24,25,26,27,28,29,30,31,32,33,34,35,36,37,38,39]++([40,41,42,43,44,45,46,47,48,49,50,51,52,53,54,55,56,57,58,59]++([60,61,62,63,64,65,66,67,68,69,70,71,72,73,74,75,76,77,78,79]++[80,81,82,83,84,85,86,87,88,89,90,91,92,93,94,95,96,97,98,99]))
abbrev mN(e:List (Nat×AV))(h:List (Nat×Blk))(n:Nat)(kp:Kp:=0):AState:=Rf e h n (Cg.drop n) kp
def iSg:List (Nat×Blk)->Nat->Option Nat
 | [],_=>none
 |(q,_)::r,t=>bif Nat.beq t q then some t else iSg r t
def zSg:List (Nat×Blk)->List Nat->Nat->Option Nat
 |(q,_)::r,b::bs,t=>bif Nat.beq t q then some b else zSg r bs t
 |_,_,_=>none
theorem KB{s:AState}{n:Nat}{kp:Kp}{tl:List (Nat×AV)}{hl:List (Nat×Blk)}(he:HT (iSg hl) n s.env tl)(hh:pJ (iSg hl) n s.heap hl)(p:Ea (iSg hl) hl=true/\s.kp=kp/\Lu (iSg hl) kp.n hl=true/\Nat.ble kp.n n=true):Ent s (mN tl hl n kp):=vJ he hh p.1 p.2.1 p.2.2.1 p.2.2.2
theorem ntZ(bs:List Nat){s:AState}{n:Nat}{kp:Kp}{tl:List (Nat×AV)}{hl:List (Nat×Blk)}(he:HT (zSg hl bs) n s.env tl)(hh:pJ (zSg hl bs) n s.heap hl)(p:Ea (zSg hl bs) hl=true/\s.kp=kp/\Lu (zSg hl bs) kp.n hl=true/\Nat.ble kp.n n=true):Ent s (mN tl hl n kp):=vJ he hh p.1 p.2.1 p.2.2.1 p.2.2.2
section
variable {σ:Nat->Option Nat}{n:Nat}
theorem Ve{e:Nat->Option AV}:∀{m:Nat}{tl:List (Nat×AV)},HT σ n e (tl.take m)->HT σ n e (tl.drop m)->HT σ n e tl
 |0,_,_,h=>h
 |m+1,[],_,_=>trivial
 |m+1,(t,y)::r,h1,h2=>⟨h1.1,Ve h1.2 h2⟩
theorem Of(m:Nat){e:Nat->Option AV}{tl:List (Nat×AV)}(h:Vc e (tl.take m)=Vd σ (tl.take m)/\((tl.take m).all λp=>okA σ n p.2)=true)(h2:HT σ n e (tl.drop m)):HT σ n e tl:=Ve (HP h) h2
theorem IP{e:Nat->Option AV}{t:Nat}{y:AV}{r:List (Nat×AV)}(h:∃x,e t=some x/\rR σ n x y)(h2:HT σ n e r):HT σ n e ((t,y)::r):=⟨h,h2⟩
variable {b b0 q:Nat}{h:Hp}{r:List (Nat×Blk)}
theorem rW{l:aA}(p:(σ b,h b0,Nat.blt b n)=(some b0,some ⟨1,List.map (ow eI) l⟩,true))(hr:pJ σ n h r):pJ σ n h ((b,⟨1,List.map (ow eI) l⟩)::r):=by
 obtain⟨p1,p⟩:=Prod.mk.inj p;obtain⟨p2,p3⟩:=Prod.mk.inj p;exact hB (cH.plainO _) p1 p2 p3 hr
theorem EU{y:Blk}(p:(σ b,h b0,Nat.blt b n,y.es.all λcs=>cs.all zP)=(some b0,some y,true,true))(hr:pJ σ n h r):pJ σ n h ((b,y)::r):=by
 obtain⟨p1,p⟩:=Prod.mk.inj p;obtain⟨p2,p⟩:=Prod.mk.inj p;obtain⟨p3,p4⟩:=Prod.mk.inj p;exact hB (aBa p4) p1 p2 p3 hr
theorem IQ{y:Blk}(hp:Fv y.es)(p:(σ b,h b0,Nat.blt b n)=(some b0,some y,true))(hr:pJ σ n h r):pJ σ n h ((b,y)::r):=by
 obtain⟨p1,p⟩:=Prod.mk.inj p;obtain⟨p2,p3⟩:=Prod.mk.inj p;exact hB hp p1 p2 p3 hr
def reC(σ:Nat->Option Nat):AV->AV
 | .own b i m=>match σ b with|some b0=>.own b0 i m|none=>.dead
 | .ptr b i j=>match σ b with|some b0=>.ptr b0 i j|none=>.dead
 |x=>x
def okC(σ:Nat->Option Nat)(n:Nat):AV->Bool
 | .own b _ _=>(σ b).isSome &&Nat.blt b n
 | .ptr b _ _=>(σ b).isSome &&Nat.blt b n
 | .sc _=>true
 | .nil _=>true
 | .list _ _=>true
 | .abs _ _=>true
 | .ref _=>true
 |_=>false
theorem aHW{y:AV}(h:okC σ n y=true):pI σ n (reC σ y) y:=by
 cases y with
 |sc u=>exact Gq (σ:=σ) (n:=n) (y:=.sc u) h
 |nil q=>exact Gq (σ:=σ) (n:=n) (y:=.nil q) h
 |list q es=>exact Gq (σ:=σ) (n:=n) (y:=.list q es) h
 |ref cs=>exact Gq (σ:=σ) (n:=n) (y:=.ref cs) h
 |abs q es=>exact⟨rfl,rfl⟩
 |own b i m=>
  have:=Gq (σ:=σ) (n:=n) (y:=.own b i m) h;show pI σ n (re1 σ (.own b i m)) _;generalize re1 σ (.own b i m)=z at*;cases z<;>first|exact this|exact this.elim
 |ptr b i j=>
  have:=Gq (σ:=σ) (n:=n) (y:=.ptr b i j) h;show pI σ n (re1 σ (.ptr b i j)) _;generalize re1 σ (.ptr b i j)=z at*;cases z<;>first|exact this|exact this.elim
 |agg cs=>simp[okC]at h
 |fn f cs=>simp[okC]at h
 |tuple cs=>simp[okC]at h
 |dead=>simp[okC]at h
theorem aBq:∀{cs:aH},cs.all (okC σ n)=true->All2 (pI σ n) (cs.map (reC σ)) cs
 | [],_=>rfl
 |c::cs,h=>by
  simp only[List.all_cons,bX]at h;exact⟨c,cs,rfl,aHW h.1,aBq h.2⟩
theorem aBr:∀{es:List aH},(es.all λcs=>cs.all (okC σ n))=true->All2 (All2 (pI σ n)) (es.map (List.map (reC σ))) es
 | [],_=>rfl
 |c::cs,h=>by
  simp only[List.all_cons,bX]at h;exact⟨c,cs,rfl,aBq h.1,aBr h.2⟩
theorem Jk{es:List aH}(p:(σ b,h b0,Nat.blt b n,es.all λcs=>cs.all (okC σ n))=(some b0,some ⟨q,es.map (List.map (reC σ))⟩,true,true))(hr:pJ σ n h r):pJ σ n h ((b,⟨q,es⟩)::r):=by
 obtain⟨p1,p⟩:=Prod.mk.inj p;obtain⟨p2,p⟩:=Prod.mk.inj p;obtain⟨p3,p4⟩:=Prod.mk.inj p;refine hX ?_ p3 hr;rw[p1];exact⟨_,p2,rfl,.inr (aBr p4)⟩
end
theorem cG{α:Type}{c:Bool}{A:Option α}{r:α}{p:Prop}(h:cond c A none=some r)(f:c=true->A=some r->p):p:=f (cg h).1 (cg h).2
section
variable {h:Hp}{x:AV}{xs ds:aH}
theorem fP(q:eC x=true)(b:All2 (viewA h) xs ds):All2 (viewA h) (x::xs) (x::ds):=aS (Ja q) b
theorem vcP{cs:aH}(q:cs.all eC=true)(b:All2 (viewA h) xs ds):All2 (viewA h) (.agg cs::xs) (.agg cs::ds):=aS (rF q) b
theorem vcT{b m:Nat}{l:aA}(hb:h b=some ⟨1,List.map (ow eI) l⟩)(hn:l.length=m)(q:All2 (viewA h) xs ds):All2 (viewA h) (.own b 0 m::xs) (.list 1 (List.map eI l)::ds):=aS (zR cH hb hn) q
end
theorem cT{d:Option Tmp}{ty:TypeId}{pos:String}{aft:Array Edge}{g:Option (Nat×Bool)}{s:AState}{f:FuncId}{xs:Array Operand}{ats:Array TypeId}{avs ds:aH}{ns':List Nat}{α:Type}{e:α->aH}{q b:Nat}{l:List α}{z:Bool}{c0:Nat}(ok:EOk q e)(hc:HasC Tryz.prog f ds (.tuple [.list q (List.map e l),.bl z]))(h:Ia s.ev xs.toList=some avs/\s.ns=b::c0::ns'/\pK s.ns=true)(hv:All2 (viewA s.heap) avs ds):AEff Tryz.prog ⟨d,.call ⟨.value (.func f),xs,ats⟩,ty,pos,aft,g⟩ s.ev s.heap s.kp ⟨.tuple [.own b 0 l.length,.bl z],avs.flatMap (lX s.heap)++[].flatMap (nP s.heap),[(b,some ⟨q,List.map (ow e) l⟩)],[b]⟩:=
 AEff.conv (qE (x:=.tuple [.own b 0 (List.map e l).length,.bl z]) (nb:=[(b,⟨q,cY (List.map e l)⟩)]) hc h.1 (by rw[h.2.1];rfl) rfl h.2.2 (iM (ok.good _) (iM trivial Dn)) hv) (by simp only[bH]) (CU (nb':=[(b,⟨q,List.map (ow e) l⟩)]) (by simp only[kI]))
section
variable {h:Hp}{κ:Kp}
theorem Ys{b m:Nat}{v:Mt}(p:h b=some ⟨1,List.map (ow eI) v.cells⟩/\v.cells.length=m):viewA h (.agg [.int v.rows,.int v.cols,.own b 0 m]) (.agg (eM v)):=Ly (fE (gL rfl) (fE (gL rfl) (fE (mH cH p.1 p.2) BS)))
theorem vaC{b m:Nat}{v:Sc}(p:h b=some ⟨1,List.map (ow (dJ 1 eI)) v.basis⟩/\v.basis.length=m):viewA h (.agg [.int v.size,.own b 0 m]) (.agg (eS v)):=Ly (fE (gL rfl) (fE (mH fX p.1 p.2) BS))
theorem vaQ{b1 b2 m1 m2:Nat}{v:Qv}(p:h b1=some ⟨1,List.map (ow eI) v.src⟩/\v.src.length=m1/\h b2=some ⟨1,List.map (ow eI) v.tgt⟩/\v.tgt.length=m2):viewA h (.agg [.int v.n,.own b1 0 m1,.own b2 0 m2]) (.agg (eQ v)):=Ly (fE (gL rfl) (fE (mH cH p.1 p.2.1) (fE (mH cH p.2.2.1 p.2.2.2) BS)))
theorem vrR{W:World}{a:Rp}{w2 w3 w4 w5:Value}{S2 S3 S4 S5:List Nat}(hf:κ.fx=Ce W)(r2:RepD W (.list 1 (List.map eI a.q.src)) w2 S2)(r3:RepD W (.list 1 (List.map eI a.q.tgt)) w3 S3)(r4:RepD W (.list 1 (List.map eI a.dims)) w4 S4)(r5:RepD W (.list 3 (List.map eM a.maps)) w5 S5):BW κ h (.agg [.int a.p,.int a.q.n,.sc w2,.sc w3,.sc w4,.sc w5]) (.agg (eR a)):=
 .inr (qG (Jh hf rfl) (qG (Jh hf rfl) (qG (GR hf r2) (qG (GR hf r3) (qG (GR hf r4) (qG (GR hf r5) PR))))))
variable {x:AV}{xs ds:aH}
theorem wkS(q:eC x=true)(b:All2 (BW κ h) xs ds):All2 (BW κ h) (x::xs) (x::ds):=yI (.inl (Ja q)) b
theorem wkT{b m:Nat}{l:aA}(hb:h b=some ⟨1,List.map (ow eI) l⟩)(hn:l.length=m)(q:All2 (BW κ h) xs ds):All2 (BW κ h) (.own b 0 m::xs) (.list 1 (List.map eI l)::ds):=yI (.inl (zR cH hb hn)) q
theorem wkD{W:World}{k:Nat}{es:List aH}{v:Value}{S:List Nat}(hf:κ.fx=Ce W)(r:RepD W (.list k es) v S)(q:All2 (BW κ h) xs ds):All2 (BW κ h) (.sc v::xs) (.list k es::ds):=yI (.inr (aFm hf r)) q
end
section
variable {dst:Option Tmp}{ty:TypeId}{pos:String}{aft:Array Edge}{g:Option (Nat×Bool)}{s:AState}
theorem wl{t e:TypeId}{n:Nat}{parts:Array (Nat×Operand)}{y ye:Ty}{ps:List (Nat×aH)}{cs:aH}{b:Nat}
  (h:(s.ns.head?,dD TT t,y.desc,dD TT e,ye.zero.length,Nat.ble (n*ye.size) 16777216,Nat.ble n 16777216,DE s.ev parts.toList,Gf (λi=>some (i*ye.size,ye.size)) (List.replicate n ye.zero).flatten ps,(ps.all λp=>p.2.all (okCell s.heap)),cs.all (okCell s.heap),(ps.flatMap (λp=>dS p.2)++dS cs).contains b)=(some b,some y,.slice e,some ye,ye.size,true,true,some ps,some cs,true,true,false)):
  AEff Tryz.prog ⟨dst,.buildSlice t n parts,ty,pos,aft,g⟩ s.ev s.heap s.kp ⟨.own b 0 n,ps.flatMap (λp=>dS p.2)++dS cs,[(b,some ⟨ye.size,Ic ye.size n cs⟩)],[b]⟩:=by
 simp only[Prod.mk.injEq]at h;obtain⟨h1,h2,h3,h4,h5,h6,h7,h8,h9,h10,h11,h12⟩:=h;exact aHP aL h1 h2 h3 h4 h5 h6 h7 h8 h9 h10 h11 h12
theorem ws{t:TypeId}{y:Ty}{x z:Operand}{val:AV}{b i j kk:Nat}{ees:List aH}{cs:aH}
  (h:(s.ev x,s.heap b,s.ev z,dD TT t,Nat.beq (dK val).length y.size,(dK val).all (okCell s.heap),ees[i]?,Nat.ble (j+y.size) cs.length)=(some (.ptr b i j),some ⟨kk,ees⟩,some val,some y,true,true,some cs,true)):
  AEff Tryz.prog ⟨dst,.store t x z,ty,pos,aft,g⟩ s.ev s.heap s.kp ⟨.dead,b::dS (dK val),[(b,some ⟨kk,ees.set i (GO cs j (dK val))⟩)],[]⟩:=by
 simp only[Prod.mk.injEq]at h;obtain⟨h1,h2,h3,h4,h5,h6,h7,h8⟩:=h;exact JZ aL h1 h2 h3 h4 h5 h6 h7 h8
theorem wb{t:TypeId}{x:Operand}{v:AV}{b:Nat}(h:(s.ns.head?,s.ev x,(dK v).all (okCell s.heap),(dS (dK v)).contains b)=(some b,some v,true,false)):
  AEff Tryz.prog ⟨dst,.box t x,ty,pos,aft,g⟩ s.ev s.heap s.kp ⟨.ptr b 0 0,dS (dK v),[(b,some ⟨(dK v).length,[dK v]⟩)],[b]⟩:=by
 simp only[Prod.mk.injEq]at h;obtain⟨h1,h2,h3,h4⟩:=h;exact aFi h1 h2 h3 h4
theorem xl{α:Type}{k:Nat}{e:α->aH}{x ix:Operand}{t et:Nat}{y ye:Ty}{l:List α}{kk:IntKind}{i:Int}{v:α}(hm:cF l i=some v)
  (h:(s.ev x,s.ev ix,dD TT t,y.desc,dD TT et,ye.size)=(some (.list k (l.map e)),some (.sc (.int kk i)),some y,.slice et,some ye,k)):
  AEff Tryz.prog ⟨dst,.indexAddr t x ix,ty,pos,aft,g⟩ s.ev s.heap s.kp ⟨.ref (e v),[],[],[]⟩:=by
 simp only[Prod.mk.injEq]at h;obtain⟨h1,h2,h3,h4,h5,h6⟩:=h;exact Zn aL hm h1 h2 h3 h4 h5 h6
theorem xo{α:Type}{l:List α}{v:α}{x ix:Operand}{t et:Nat}{y ye:Ty}{b kz:Nat}{es:List aH}{kk:IntKind}{i:Int}(hm:cF l i=some v)
  (h:(s.ev x,s.heap b,s.ev ix,dD TT t,y.desc,dD TT et,ye.size)=(some (.own b 0 l.length),some ⟨kz,es⟩,some (.sc (.int kk i)),some y,.slice et,some ye,kz)):
  AEff Tryz.prog ⟨dst,.indexAddr t x ix,ty,pos,aft,g⟩ s.ev s.heap s.kp ⟨.ptr b i.toNat 0,[b],[],[]⟩:=by
 simp only[Prod.mk.injEq]at h;obtain⟨h1,h2,h3,h4,h5,h6,h7⟩:=h;exact Gn aL (QD hm) (qW hm) h1 h2 h3 h4 h5 h6 h7
theorem wp{α:Type}{e:α->aH}{l:List α}{u:α}{x:Operand}{t:Nat}{y:Ty}{b j k:Nat}{i:Int}{v:AV}(hm:cF l i=some u)
  (h:(s.ev x,s.heap b,dD TT t,(y.desc.isAgg||Nat.beq y.size 1),Nat.ble (j+y.size) (e u).length,BP y.desc.isAgg ((((e u).drop j).take y.size).map Ge))=(some (.ptr b i.toNat j),some ⟨k,l.map e⟩,some y,true,true,v)):
  AEff Tryz.prog ⟨dst,.load t x,ty,pos,aft,g⟩ s.ev s.heap s.kp ⟨v,[b],[],[]⟩:=by
 simp only[Prod.mk.injEq]at h;obtain⟨h1,h2,h3,h4,h5,h6⟩:=h;exact eT aL h1 h2 h3 h4 (Af (dH hm)) h5 h6
end
theorem hM{f:FuncId}{fn:Func}{c:Code}{nt:Nat}{ds:aH}{r:AV}(rvs:List ResultVar)(hf:Tryz.prog.funcs[f]? =some fn)(hnt:fn.ntmps=nt)(h':(fn.body,(fn.name== "runtime.NumGoroutine"),fn.results.toList,Nat.ble ds.length nt,ds.all zQ)=(some c,false,rvs,true,true))(h:AC Tryz.prog nt c (s0 ds Cg) (Od TT rvs r)):HasC Tryz.prog f ds r:=by
 simp only[Prod.mk.injEq]at h';exact AG aL hf h'.1 h'.2.1 hnt h'.2.2.1 h'.2.2.2.1 h'.2.2.2.2 h
@[elab_as_elim] theorem sp {α:Type} {a:α} {P:α->Prop} {o:α} (h:some a=some o) (p:P a):P o:=so h▸p
theorem jP{α:Type}{t:Bool}{A B:Option α}{r:α}{G:Prop}(h:cond t A B=some r)(p:t=true->A=some r->G)(q:t=false->B=some r->G):G:=by
 rcases cb h with ⟨e,h⟩|⟨e,h⟩
 .exact p e h
 .exact q e h
theorem cU{P:Program}{nt:Nat}{Q:Exit->AState->Prop}{s:AState}{c:Operand}{x y:Code}{α:Type}{t:Bool}{A B:Option α}{r:α}(hc:s.ev c=some (.sc (.bool t)))(h:cond t A B=some r)(p:t=true->A=some r->AC P nt x s Q)(q:t=false->B=some r->AC P nt y s Q):AC P nt (.cond c x y) s Q:=jP h (λe h=>gX hc e (p e h)) λe h=>mQ hc e (q e h)
theorem rG{p q:Prop}(a:p)(b:q):p/\q:=⟨a,b⟩
def Og(v:Mt)(a:Nat):aH:=[.int v.rows,.int v.cols,.own a 0 v.cells.length]
def oQv(v:Qv)(a b:Nat):aH:=[.int v.n,.own a 0 v.src.length,.own b 0 v.tgt.length]
def iK:aH:=[.int 0,.int 0,.nil 1]
def pN:aH:=[.int 0,.int 0,.nil 1,.nil 1,.nil 1,.nil 3]
end
end Go.Proofs.YtppgeohlmkgpbaaGreat

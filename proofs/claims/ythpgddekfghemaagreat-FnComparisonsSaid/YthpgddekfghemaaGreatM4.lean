/- Several texts. -/
import Derived.Test.YthpgddekfghemaaGreatProg
import Derived.Test.YthpgddekfghemaaGreatM3
set_option linter.unusedVariables false
set_option linter.unusedSimpArgs false
set_option linter.defProp false
namespace Go.Proofs.YthpgddekfghemaaGreat
open Go.RowKit
section
def TT:List (Nat×Ty):=[
 (1,⟨.sc,1,8,[.sc .nilFunc]⟩),
 (2,⟨.sc,1,8,[.sc (.int .i64 0)]⟩),
 (3,⟨.sc,1,8,[.sc (.int .i64 0)]⟩),
 (4,⟨.sc,1,1,[.sc (.bool false)]⟩),
 (5,⟨.sc,1,1,[.sc (.int .u8 0)]⟩),
 (6,⟨.sc,1,1,[.sc (.int .u8 0)]⟩),
 (7,⟨.struct [(0,2),(1,3),(2,4),(3,6)],4,24,[.sc (.int .i64 0),.sc (.int .i64 0),.sc (.bool false),.sc (.int .u8 0)]⟩),
 (8,⟨.struct [(0,2),(1,3),(2,4),(3,6)],4,24,[.sc (.int .i64 0),.sc (.int .i64 0),.sc (.bool false),.sc (.int .u8 0)]⟩),
 (9,⟨.sc,1,16,[.sc (.string ⟨#[]⟩)]⟩),
 (10,⟨.sc,1,16,[.sc (.string ⟨#[]⟩)]⟩),
 (11,⟨.sc,1,16,[.sc (.string ⟨#[]⟩)]⟩),
 (12,⟨.sc,1,8,[.sc (.int .u64 0)]⟩),
 (13,⟨.struct [(0,9),(1,12)],2,24,[.sc (.string ⟨#[]⟩),.sc (.int .u64 0)]⟩),
 (14,⟨.struct [(0,9),(1,12)],2,24,[.sc (.string ⟨#[]⟩),.sc (.int .u64 0)]⟩),
 (21,⟨.sc,1,4,[.sc (.int .i32 0)]⟩),
 (22,⟨.slice 5,1,24,[.nil 1]⟩),
 (23,⟨.sc,1,8,[.sc .nilFunc]⟩),
 (24,⟨.slice 3,1,24,[.nil 1]⟩),
 (25,⟨.struct [(0,3),(1,24),(2,24)],3,56,[.sc (.int .i64 0),.nil 1,.nil 1]⟩),
 (26,⟨.struct [(0,3),(1,24),(2,24)],3,56,[.sc (.int .i64 0),.nil 1,.nil 1]⟩),
 (27,⟨.slice 78,1,24,[.nil 3]⟩),
 (28,⟨.struct [(0,3),(1,26),(4,24),(5,27)],6,112,[.sc (.int .i64 0),.sc (.int .i64 0),.nil 1,.nil 1,.nil 1,.nil 3]⟩),
 (29,⟨.struct [(0,3),(1,26),(4,24),(5,27)],6,112,[.sc (.int .i64 0),.sc (.int .i64 0),.nil 1,.nil 1,.nil 1,.nil 3]⟩),
 (30,⟨.sc,1,8,[.sc .nilFunc]⟩),
 (32,⟨.sc,1,8,[.sc .nilFunc]⟩),
 (33,⟨.sc,1,8,[.sc .nilFunc]⟩),
 (35,⟨.sc,1,8,[.sc .nilFunc]⟩),
 (36,⟨.sc,1,8,[.sc .nilFunc]⟩),
 (38,⟨.sc,1,8,[.sc .nilFunc]⟩),
 (39,⟨.sc,1,8,[.sc .nilFunc]⟩),
 (40,⟨.sc,1,8,[.sc .nilFunc]⟩),
 (42,⟨.sc,1,8,[.sc .nilFunc]⟩),
 (43,⟨.slice 29,1,24,[.nil 6]⟩),
 (45,⟨.sc,1,8,[.sc .nilFunc]⟩),
 (46,⟨.sc,1,8,[.sc .nilFunc]⟩),
 (47,⟨.sc,1,8,[.sc .nilFunc]⟩),
 (49,⟨.sc,1,8,[.sc .nilFunc]⟩),
 (51,⟨.sc,1,8,[.sc .nilFunc]⟩),
 (52,⟨.sc,1,8,[.sc .nilFunc]⟩),
 (53,⟨.sc,1,8,[.sc .nilFunc]⟩),
 (55,⟨.sc,1,8,[.sc .nilFunc]⟩),
 (56,⟨.slice 24,1,24,[.nil 1]⟩),
 (58,⟨.sc,1,8,[.sc .nilFunc]⟩),
 (59,⟨.sc,1,8,[.sc .nilFunc]⟩),
 (60,⟨.sc,1,8,[.sc .nilFunc]⟩),
 (61,⟨.sc,1,8,[.sc .nilFunc]⟩),
 (62,⟨.sc,1,8,[.sc .nilFunc]⟩),
 (63,⟨.sc,1,8,[.sc .nilFunc]⟩),
 (64,⟨.sc,1,8,[.sc .nilFunc]⟩),
 (65,⟨.slice 27,1,24,[.nil 1]⟩),
 (66,⟨.sc,1,8,[.sc .nilFunc]⟩),
 (68,⟨.sc,1,8,[.sc .nilFunc]⟩),
 (69,⟨.sc,1,8,[.sc .nilFunc]⟩),
 (70,⟨.sc,1,8,[.sc .nilFunc]⟩),
 (71,⟨.sc,1,8,[.sc .nilFunc]⟩),
 (72,⟨.sc,1,8,[.sc .nilFunc]⟩),
 (73,⟨.sc,1,8,[.sc .nilFunc]⟩),
 (74,⟨.sc,1,8,[.sc .nilFunc]⟩),
 (75,⟨.sc,1,8,[.sc .nilFunc]⟩),
 (76,⟨.sc,1,8,[.sc .nilFunc]⟩),
 (77,⟨.struct [(0,3),(1,3),(2,24)],3,40,[.sc (.int .i64 0),.sc (.int .i64 0),.nil 1]⟩),
 (78,⟨.struct [(0,3),(1,3),(2,24)],3,40,[.sc (.int .i64 0),.sc (.int .i64 0),.nil 1]⟩),
 (79,⟨.sc,1,8,[.sc .nilFunc]⟩),
 (80,⟨.sc,1,8,[.sc .nilFunc]⟩),
 (81,⟨.sc,1,8,[.sc .nilFunc]⟩),
 (82,⟨.sc,1,8,[.sc .nilFunc]⟩),
 (83,⟨.sc,1,8,[.sc .nilFunc]⟩),
 (84,⟨.sc,1,8,[.sc .nilFunc]⟩),
 (85,⟨.sc,1,8,[.sc .nilFunc]⟩),
 (86,⟨.sc,1,8,[.sc .nilFunc]⟩),
 (87,⟨.sc,1,8,[.sc .nilFunc]⟩),
 (88,⟨.sc,1,8,[.sc .nilFunc]⟩),
 (89,⟨.sc,1,8,[.sc .nilFunc]⟩),
 (90,⟨.struct [(0,22),(1,3),(2,3)],3,40,[.nil 1,.sc (.int .i64 0),.sc (.int .i64 0)]⟩),
 (91,⟨.struct [(0,22),(1,3),(2,3)],3,40,[.nil 1,.sc (.int .i64 0),.sc (.int .i64 0)]⟩),
 (92,⟨.sc,1,8,[.sc .nilFunc]⟩),
 (93,⟨.sc,1,8,[.sc .nilFunc]⟩),
 (95,⟨.sc,1,8,[.sc .nilFunc]⟩),
 (96,⟨.sc,1,8,[.sc .nilFunc]⟩),
 (97,⟨.sc,1,8,[.sc .nilFunc]⟩),
 (98,⟨.sc,1,8,[.sc .nilFunc]⟩),
 (99,⟨.sc,1,8,[.sc .nilFunc]⟩),
 (100,⟨.sc,1,8,[.sc .nilFunc]⟩),
 (101,⟨.sc,1,8,[.sc .nilFunc]⟩),
 (102,⟨.sc,1,8,[.sc (.int .u64 0)]⟩),
 (104,⟨.sc,1,8,[.sc .nilFunc]⟩),
 (105,⟨.sc,1,8,[.sc .nilFunc]⟩),
 (106,⟨.sc,1,8,[.sc .nilFunc]⟩),
 (107,⟨.sc,1,8,[.sc .nilFunc]⟩),
 (108,⟨.sc,1,8,[.sc .nilFunc]⟩),
 (109,⟨.sc,1,8,[.sc .nilFunc]⟩),
 (110,⟨.sc,1,8,[.sc .nilFunc]⟩),
 (111,⟨.sc,1,8,[.sc .nilFunc]⟩),
 (113,⟨.sc,1,8,[.sc .nilFunc]⟩),
 (114,⟨.sc,1,8,[.sc .nilFunc]⟩),
 (115,⟨.slice 9,1,24,[.nil 1]⟩),
 (116,⟨.sc,1,8,[.sc .nilFunc]⟩),
 (117,⟨.sc,1,8,[.sc .nilFunc]⟩),
 (118,⟨.sc,1,8,[.sc .nilFunc]⟩),
 (119,⟨.sc,1,8,[.sc .nilFunc]⟩),
 (120,⟨.sc,1,8,[.sc .nilFunc]⟩),
 (121,⟨.sc,1,8,[.sc .nilFunc]⟩),
 (122,⟨.sc,1,8,[.sc .nilFunc]⟩),
 (123,⟨.sc,1,8,[.sc .nilFunc]⟩),
 (124,⟨.sc,1,8,[.sc .nilFunc]⟩),
 (125,⟨.sc,1,8,[.sc .nilFunc]⟩),
 (126,⟨.sc,1,8,[.sc .nilFunc]⟩),
 (127,⟨.sc,1,8,[.sc .nilFunc]⟩),
 (128,⟨.sc,1,8,[.sc .nilFunc]⟩),
 (129,⟨.sc,1,8,[.sc .nilFunc]⟩),
 (130,⟨.sc,1,8,[.sc .nilFunc]⟩),
 (131,⟨.sc,1,8,[.sc .nilFunc]⟩),
 (132,⟨.sc,1,8,[.sc .nilFunc]⟩),
 (134,⟨.sc,1,8,[.sc .nilFunc]⟩),
 (135,⟨.sc,1,8,[.sc .nilFunc]⟩),
 (136,⟨.sc,1,4,[.sc (.int .u32 0)]⟩),
 (138,⟨.sc,1,8,[.sc .nilFunc]⟩),
 (139,⟨.sc,1,8,[.sc (.int .u64 0)]⟩),
 (141,⟨.sc,1,8,[.sc .nilFunc]⟩),
 (142,⟨.sc,1,8,[.sc .nilFunc]⟩),
 (143,⟨.sc,1,8,[.sc .nilFunc]⟩),
 (144,⟨.sc,1,8,[.sc .nilFunc]⟩),
 (146,⟨.sc,1,8,[.sc .nilFunc]⟩),
 (147,⟨.sc,1,8,[.sc .nilFunc]⟩),
 (148,⟨.sc,1,8,[.sc .nilFunc]⟩),
 (149,⟨.sc,1,8,[.sc .nilFunc]⟩),
 (150,⟨.sc,1,8,[.sc .nilFunc]⟩),
 (151,⟨.sc,1,8,[.sc .nilFunc]⟩),
 (152,⟨.sc,1,8,[.sc .nilFunc]⟩),
 (153,⟨.sc,1,8,[.sc .nilFunc]⟩),
 (154,⟨.sc,1,8,[.sc .nilFunc]⟩),
 (155,⟨.sc,1,8,[.sc .nilFunc]⟩),
 (156,⟨.sc,1,8,[.sc .nilFunc]⟩),
 (157,⟨.sc,1,8,[.sc .nilFunc]⟩),
 (159,⟨.sc,1,8,[.sc .nilFunc]⟩),
 (160,⟨.sc,1,8,[.sc .nilFunc]⟩),
 (161,⟨.sc,1,8,[.sc .nilFunc]⟩),
 (162,⟨.sc,1,8,[.sc .nilFunc]⟩),
 (163,⟨.sc,1,8,[.sc .nilFunc]⟩),
 (164,⟨.sc,1,8,[.sc .nilFunc]⟩),
 (165,⟨.sc,1,8,[.sc .nilFunc]⟩),
 (166,⟨.sc,1,8,[.sc .nilFunc]⟩),
 (167,⟨.sc,1,8,[.sc .nilFunc]⟩),
 (168,⟨.sc,1,8,[.sc .nilFunc]⟩),
 (169,⟨.sc,1,8,[.sc .nilFunc]⟩),
 (170,⟨.sc,1,8,[.sc .nilFunc]⟩),
 (171,⟨.sc,1,8,[.sc .nilFunc]⟩),
 (172,⟨.sc,1,8,[.sc .nilFunc]⟩),
 (173,⟨.sc,1,8,[.sc .nilFunc]⟩),
 (174,⟨.sc,1,8,[.sc .nilFunc]⟩),
 (175,⟨.sc,1,8,[.sc .nilFunc]⟩),
 (176,⟨.sc,1,8,[.sc .nilFunc]⟩),
 (177,⟨.sc,1,8,[.sc .nilFunc]⟩),
 (178,⟨.sc,1,8,[.sc .nilFunc]⟩),
 (179,⟨.sc,1,8,[.sc .nilFunc]⟩),
 (185,⟨.sc,1,8,[.sc .nilFunc]⟩),
 (186,⟨.sc,1,1,[.sc (.int .u8 0)]⟩),
 (187,⟨.sc,1,1,[.sc (.int .u8 0)]⟩),
 (188,⟨.sc,1,8,[.sc .nilFunc]⟩),
 (190,⟨.sc,1,4,[.sc (.int .i32 0)]⟩),
 (191,⟨.sc,1,4,[.sc (.int .i32 0)]⟩),
 (194,⟨.sc,1,8,[.sc .nilFunc]⟩)]
set_option maxRecDepth 100000 in
def aH:TyOk Tryz.prog TT:=VC (by kernel_rfl)
end
variable{β:Type}{n:Nat}{ρ:Type}{i:Nat}{ops:Array Oper}{tr:List Tr}
noncomputable section
def ob{α:Type}{o:Option α}{k:α->Option β}{r:β}(h:o.bind k=some r):∃a,o=some a/\k a=some r:=by
 cases o with
 |none=>cases h
 |some a=>exact⟨a,rfl,h⟩
def cb{α:Type}{c:Bool}{A B}{r:α}(h:cond c A B=some r):(c=true/\A=some r)∨(c=false/\B=some r):=by
 cases c
 .exact .inr ⟨rfl,h⟩
 .exact .inl ⟨rfl,h⟩
def cg{α:Type}{c:Bool}{A}{r:α}(h:cond c A none=some r):c=true/\A=some r:=by
 cases c
 .cases h
 .exact⟨rfl,h⟩
def so{α:Type}{x r:α}(h:some x=some r):x=r:=Option.some.inj h
def bY{α:Type}(l:List α)(i:Int):Option α:=bif decide (0<=i)then l[i.toNat]? else none
def cA{α:Type}{l}{i:Int}{v:α}(h:bY l i=some v):l[i.toNat]? =some v:=(cg h).2
def Mu{α:Type}{l}{i:Int}{v:α}(h:bY l i=some v):0<=i:=of_decide_eq_true (cg h).1
def jK{α:Type}{l}{i:Int}{v:α}(h:bY l i=some v):i.toNat<l.length:=by
 rcases eG i.toNat l.length with h'|h'
 .exact h'
 .have:=cA h;rw[iM h']at this;cases this
def aAD{α:Type}{f:α->β}{l i v}(h:bY l i=some v):(l.map f)[i.toNat]? =some (f v):=by rw[List.getElem?_map,cA h];rfl
def fQ{α:Type}{l:List α}(h:n<l.length):bY l (n:Int)=some l[n]:=by simp[bY,h]
def wr(x:Int):Int:=IntKind.i64.wrap x
def LM{x}(h: -9223372036854775808<=x/\x<=9223372036854775807):wr x=x:=by unfold wr;rw[IntKind.wrap_i64];omega
def LpN{σ ρ:Type}(body:σ->Option (σ ⊕ ρ)):Nat->σ->ρ->Prop
 |0,s,r=>body s=some (.inr r)
 |n+1,s,r=>∃s',body s=some (.inl s')/\LpN body n s' r
def LpN.det{σ:Type}{body}:∀{n m:Nat}{s:σ}{r r':ρ},LpN body n s r->LpN body m s r'->r=r'
 |0,0,s,r,r',h,k=>by rw[LpN]at h k;rw[h]at k;cases k;rfl
 |0,m+1,s,r,r',h,⟨s',k,_⟩=>by rw[LpN]at h;rw[h]at k;cases k
 |n+1,0,s,r,r',⟨s',h,_⟩,k=>by rw[LpN]at k;rw[h]at k;cases k
 |n+1,m+1,s,r,r',⟨s',h,h2⟩,⟨s'',k,k2⟩=>by rw[h]at k;cases k;exact LpN.det h2 k2
open Classical in
def Lp{σ ρ:Type}(body:σ->Option (σ ⊕ ρ))(s:σ):Option ρ:=if h:∃r n,LpN body n s r then some h.choose else none
def MO{σ:Type}{body:σ->Option (σ ⊕ ρ)}{s:σ}{r:ρ}:Lp body s=some r↔ ∃n,LpN body n s r:=by
 unfold Lp;split
 .rename_i h;obtain⟨n,hn⟩:=h.choose_spec;constructor
  .intro e;cases e;exact⟨n,hn⟩
  .rintro⟨m,hm⟩;rw[hn.det hm]
 .rename_i h;constructor
  .intro e;cases e
  .rintro⟨m,hm⟩;exact absurd ⟨r,m,hm⟩ h
def oG{σ:Type}{body:σ->Option (σ ⊕ ρ)}{s:σ}{r:ρ}(h:body s=some (.inr r)):Lp body s=some r:=MO.2 ⟨0,h⟩
def Bg{σ:Type}{body:σ->Option (σ ⊕ ρ)}{s s'}(h:body s=some (.inl s')):Lp body s=Lp body s':=by
 apply Option.ext;intro r;rw[MO,MO];constructor
 .rintro⟨n,hn⟩;cases n with
  |zero=>rw[LpN]at hn;rw[h]at hn;cases hn
  |succ n=>obtain⟨s'',h1,h2⟩:=hn;rw[h]at h1;cases h1;exact⟨n,h2⟩
 .rintro⟨n,hn⟩;exact⟨n+1,s',h,hn⟩
def aBo{σ:Type}{body:σ->Option (σ ⊕ ρ)}{s:σ}{r:ρ}(I:Nat->σ)(N:Nat)(h0:s=I 0)(hs:∀k,k<N->body (I k)=some (.inl (I (k+1))))(hr:body (I N)=some (.inr r)):Lp body s=some r:=by
 subst h0
 have key:∀d k,k+d=N->Lp body (I k)=some r:=by
  intro d;induction d with
  |zero=>intro k hk;rw[Nat.add_zero]at hk;subst hk;exact oG hr
  |succ d ih=>intro k hk;rw[Bg (hs k (by omega))];exact ih (k+1) (by omega)
 exact key N 0 (by omega)
def Db{σ:Type}{body s}(I:σ->Prop)(μ:σ->Nat)(R:ρ->Prop)(h0:I s)(hs:∀x,I x->(∃x',body x=some (.inl x')/\I x'/\μ x'<μ x)∨∃r,body x=some (.inr r)/\R r):∃r,Lp body s=some r/\R r:=by
 have key:∀n x,μ x=n->I x->∃r,Lp body x=some r/\R r:=by
  intro n;induction n using Nat.strongRecOn with
  |_ n ih=>
   intro x hn hx;rcases hs x hx with ⟨x',h1,h2,h3⟩|⟨r,h1,h2⟩
   .rw[Bg h1];exact ih (μ x') (hn▸h3) x' rfl h2
   .exact⟨r,oG h1,h2⟩
 exact key _ s rfl h0
section
variable {P:Program}{nt:Nat}{s:AState}{Q:Exit->AState->Prop}
def iO{c}{σ:Type}{body x0 r0}(h:Lp body x0=some r0)(S:σ->AState)(X:ρ->Exit->AState->Prop)(e0:Ent s (S x0))(round:∀x o,body x=some o->AC P nt c (S x) (lJ (λt=>∃x',o= .inl x'/\Ent t (S x')) (λe t=>∃r,o= .inr r/\X r e t)))(hX:∀e t,X r0 e t->Q e t):AC P nt (.loop c) s Q:=by
 obtain⟨n,hn⟩:=MO.1 h;refine HZ (ι:=σ×Nat) (λp=>S p.1) (λp=>LpN body p.2 p.1 r0) (λp=>p.2) (x0,n) hn e0 ?_;rintro⟨x,m⟩ hm;cases m with
 |zero=>
  refine Px (round x _ hm) λe t hq=>?_;cases e<;>simp only[lJ]at hq ⊢
  .obtain⟨x',h1,_⟩:=hq;cases h1
  all_goals (obtain⟨r,h1,h2⟩:=hq;cases h1;exact hX _ _ h2)
 |succ m=>
  obtain⟨x',h1,h2⟩:=hm;refine Px (round x _ h1) λe t hq=>?_;cases e<;>simp only[lJ]at hq ⊢
  .obtain⟨x'',h3,h4⟩:=hq;cases h3;exact⟨(x',m),h2,Nat.lt_succ_self _,h4⟩
  all_goals (obtain⟨r,h3,_⟩:=hq;cases h3)
def vV{c x y t}(hc:s.ev c=some (.sc (.bool t)))(q:t=true)(h:AC P nt x s Q):AC P nt (.cond c x y) s Q:=tM hc (λ_=>h) (λe=>by rw[q]at e;cases e)
def uE{c x y t}(hc:s.ev c=some (.sc (.bool t)))(q:t=false)(h:AC P nt y s Q):AC P nt (.cond c x y) s Q:=tM hc (λe=>by rw[q]at e;cases e) (λ_=>h)
def Rl{v e}(h:e i=some v):KS (some i) v e=e:=by
 funext t;simp only[KS];cases hb:Nat.beq t i with
 |false=>rfl
 |true=>rw[Nat.eq_of_beq_eq_true hb,h];rfl
def aE{r K t u}(i)(hi:s.env i=some (.sc (.bool t)))(q:t=u)(h:AOps P ops nt r ⟨KS (some i) (.sc (.bool u)) s.env,s.heap,s.used,s.ns,s.kp⟩ tr K):AOps P ops nt r s tr K:=by
 subst q;rw[Rl hi]at h;exact h
end
def mH:AV->Bool
 | .sc v=>v.oneCell'
 | .list _ _=>true
 |_=>false
structure EOk{α:Type}(k:Nat)(e:α->bN):Prop where
 len:∀x,(e x).length=k
 cell:∀x,(e x).all mH=true
def ow{α:Type}(e:α->bN)(x:α):bN:=(e x).map zP
def mS{α:Type}(e)(l:List α):dZ (l.map e)=l.map (ow e):=by
 unfold dZ;rw[List.map_map];rfl
section
variable {α:Type}{k:Nat}{e:α->bN}
def To{c}(h:mH c=true):view0 (zP c) c:=by cases c<;>simp only[mH,fK]at h<;>simp[zP,view0]
def Tp{c}(h:mH c=true):view0 c c:=by cases c<;>simp only[mH,fK]at h<;>simp[view0]
def Wa{c}(h:mH c=true):Gn (zP c) c:=by cases c<;>simp only[mH,fK]at h<;>simp[zP,Gn]
def Rm{c}(h:mH c=true)(hp):okCell hp c=true:=by cases c<;>simp only[mH,fK]at h<;>rfl
def Rn{c}(h:mH c=true):fF c=true/\∀ds,c≠ .ref ds:=by cases c<;>simp only[mH,fK]at h<;>exact⟨rfl,λ_ e=>by cases e⟩
def Mv{c}(h:mH c=true):vU c=true/\vU (zP c)=true:=by cases c<;>simp only[mH,fK]at h<;>exact⟨rfl,rfl⟩
def Gr{R}{f g:AV->AV}:∀{cs:bN},(∀c∈cs,R (f c) (g c))->All2 R (cs.map f) (cs.map g)
 | [],_=>rfl
 |c::cs,h=>⟨g c,_,rfl,h c (by simp),Gr λd hd=>h d (by simp[hd])⟩
def FR{β:Type}{R}{f g:β->bN}:∀{l:List β},(∀x,R (f x) (g x))->All2 R (l.map f) (l.map g)
 | [],_=>rfl
 |x::l,h=>⟨g x,_,rfl,h x,FR h⟩
def EOk.mem(E:EOk k e)(x):∀c∈e x,mH c=true:=List.all_eq_true.1 (E.cell x)
def EOk.view(E:EOk k e)(x):All2 view0 (ow e x) (e x):=by have:=Gr (R:=view0) (f:=zP) (g:=id) (λc hc=>To (E.mem x c hc));simpa [ow]using this
def EOk.same(E:EOk k e)(x):All2 view0 (e x) (e x):=by have:=Gr (R:=view0) (f:=id) (g:=id) (λc hc=>Tp (E.mem x c hc));simpa using this
def EOk.frz(E:EOk k e)(x):All2 Gn (ow e x) (e x):=by have:=Gr (R:=Gn) (f:=zP) (g:=id) (λc hc=>Wa (E.mem x c hc));simpa [ow]using this
def EOk.views(E:EOk k e)(l:List α):All2 (All2 view0) (l.map (ow e)) (l.map e):=FR E.view
def EOk.sames(E:EOk k e)(l:List α):All2 (All2 view0) (l.map e) (l.map e):=FR E.same
def EOk.frzs(E:EOk k e)(l:List α):All2 (All2 Gn) (l.map (ow e)) (l.map e):=FR E.frz
def EOk.good(E:EOk k e)(l:List α):KW (l.map e):=by
 intro cs hcs c hc;obtain⟨x,_,rfl⟩:=List.mem_map.1 hcs;exact Rn (E.mem x c hc)
def EOk.plainO(E:EOk k e)(l:List α):DW (l.map (ow e)):=by
 intro cs hcs c hc;obtain⟨x,_,rfl⟩:=List.mem_map.1 hcs;obtain⟨d,hd,rfl⟩:=List.mem_map.1 hc;exact(Mv (E.mem x d hd)).2
def EOk.plainE(E:EOk k e)(l:List α):DW (l.map e):=by
 intro cs hcs c hc;obtain⟨x,_,rfl⟩:=List.mem_map.1 hcs;exact(Mv (E.mem x c hc)).1
def EOk.okE(E:EOk k e)(hp)(l:List α):(l.map e).flatten.all (okCell hp)=true:=by
 rw[List.all_eq_true];intro c hc;obtain⟨cs,hcs,hc⟩:=List.mem_flatten.1 hc;obtain⟨x,_,rfl⟩:=List.mem_map.1 hcs;exact Rm (E.mem x c hc) hp
def KY:∀{cs:bN},(∀c∈cs,mH c=true)->dD cs=[]
 | [],_=>rfl
 |c::cs,h=>by
  have h1:=h c (by simp);have h2:=KY (cs:=cs) (λd hd=>h d (by simp[hd]));cases c<;>simp only[mH,fK]at h1<;>exact h2
def EOk.namesE(E:EOk k e)(l:List α):dD (l.map e).flatten=[]:=by
 refine KY λc hc=>?_;obtain⟨cs,hcs,hc⟩:=List.mem_flatten.1 hc;obtain⟨x,_,rfl⟩:=List.mem_map.1 hcs;exact E.mem x c hc
end
end
variable{o:Oper}{ins:Operand->Option AV}{hp:Hp}{κ:Kp}{tc:List Nat}{ed:List (Nat×Option Blk)}{t:TypeId}{t':TypeId}{x:Operand}{ix:Operand}{et:Nat}{y:Ty}{ye:Ty}{kk:IntKind}{b:Nat}{kz:Nat}{es:List (List AV)}{z:Operand}{b':Nat}{sv:AV}{ts:List Nat}{dty:TypeId}{h:Hp}{ds:List AV}{cs:List AV}{j:Nat}{k':Nat}{A:List (List AV)}{es':List (List AV)}{α:Type}{e:α->List AV}{nb:List (Nat×Blk)}{σ:Nat->Option Nat}{m:Nat}{blk:Blk}{f:FuncId}{kl:IntKind}{kc:IntKind}{fo:Operand}{xs:Array Operand}{ats:Array TypeId}{caps:List AV}{avs:List AV}{ds1:List AV}{w:World}{u:Us}{ν:Nu}{hl:List (Nat×Blk)}{w':World}{h':Hp}{u':Us}{ν':Nu}{v:Value}{P:Program}{T:List (Nat×Ty)}{fn:Func}{nt:Nat}{kp:Nat}{hl':List (Nat×Blk)}{rvs:List ResultVar}{ns:List Nat}{rl:List Nat}{touch:List Nat}{σ':Nat->Option Nat}{S:List Nat}{c:Nat}{hl2:List (Nat×Blk)}{n':Nat}{r2:AV}{d:Option Tmp}{g:Option (Nat×Bool)}{s:AState}{C:Ctx}{W:World}{V:AV->AV->Prop}{vs:List Value}{ns':List Nat}
section
def AEff.conv{P v v' ed' n}(h:AEff P o ins hp κ ⟨v,tc,ed,n⟩)(hv:v=v')(he:ed=ed'):AEff P o ins hp κ ⟨v',tc,ed',n⟩:=by subst hv;subst he;exact h
def AEff.val{P v v' n}(h:AEff P o ins hp κ ⟨v,tc,ed,n⟩)(hv:v=v'):AEff P o ins hp κ ⟨v',tc,ed,n⟩:=by subst hv;exact h
section
variable {P:Program}{T:List (Nat×Ty)}(hT:TyOk P T){dst:Option Tmp}{ty:TypeId}{pos:String}{aft:Array Edge}{g:Option (Nat×Bool)}{s:AState}
def dC{y a b}(hx:s.ev x=some (.int a))(hy:s.ev y=some (.int b)):AEff P ⟨dst,.binOp .add t x y t',ty,pos,aft,g⟩ s.ev s.heap s.kp ⟨.int (wr (a+b)),[],[],[]⟩:=
 tK hx hy rfl λw=>by simp[eqGuard,binOp,Op.intArith,wr]
def uY{y a b}(hx:s.ev x=some (.int a))(hy:s.ev y=some (.int b)):AEff P ⟨dst,.binOp .sub t x y t',ty,pos,aft,g⟩ s.ev s.heap s.kp ⟨.int (wr (a-b)),[],[],[]⟩:=
 tK hx hy rfl λw=>by simp[eqGuard,binOp,Op.intArith,wr]
def EE{y a b}(hx:s.ev x=some (.int a))(hy:s.ev y=some (.int b)):AEff P ⟨dst,.binOp .mul t x y t',ty,pos,aft,g⟩ s.ev s.heap s.kp ⟨.int (wr (a*b)),[],[],[]⟩:=
 tK hx hy rfl λw=>by simp[eqGuard,binOp,Op.intArith,wr]
def Ot{a}(hx:s.ev x=some (.int a)):AEff P ⟨dst,.unOp .neg t x,ty,pos,aft,g⟩ s.ev s.heap s.kp ⟨.int (wr (-a)),[],[],[]⟩:=
 Xu hx rfl λw=>by simp[Op.unary,Op.intArith,wr]
def VI{y a b}(hx:s.ev x=some (.int a))(hy:s.ev y=some (.int b))(h:(!decide (b=0))=true):AEff P ⟨dst,.binOp .quo t x y t',ty,pos,aft,g⟩ s.ev s.heap s.kp ⟨.int (wr (a.tdiv b)),[],[],[]⟩:=
 tK hx hy rfl λw=>by
  have h':b≠0:=by simpa using h
  simp[eqGuard,binOp,Op.intDiv,h',wr]
def FS{y a b}(hx:s.ev x=some (.int a))(hy:s.ev y=some (.int b))(h:(!decide (b=0))=true):AEff P ⟨dst,.binOp .rem t x y t',ty,pos,aft,g⟩ s.ev s.heap s.kp ⟨.int (a.tmod b),[],[],[]⟩:=
 tK hx hy rfl λw=>by
  have h':b≠0:=by simpa using h
  simp[eqGuard,binOp,Op.intDiv,h']
variable {α:Type}{k:Nat}{e:α->bN}
include hT
def Wb{t}{l:List α}{i v}(hm:bY l i=some v)(hx:s.ev x=some (.list k (l.map e)))(hix:s.ev ix=some (.sc (.int kk i)))(hy:dB T t=some y)(hd:y.desc= .slice et)(hye:dB T et=some ye)(hk:ye.size=k):AEff P ⟨dst,.indexAddr t x ix,ty,pos,aft,g⟩ s.ev s.heap s.kp ⟨.ref (e v),[],[],[]⟩:=WX hT hy hd hye hk hx hix (Mu hm) (aAD hm)
def FT{t i}(h0:0<=i)(hn:i.toNat<n)(hx:s.ev x=some (.own b 0 n))(hb:s.heap b=some ⟨kz,es⟩)(hix:s.ev ix=some (.sc (.int kk i)))(hy:dB T t=some y)(hd:y.desc= .slice et)(hye:dB T et=some ye)(hk:ye.size=kz):AEff P ⟨dst,.indexAddr t x ix,ty,pos,aft,g⟩ s.ev s.heap s.kp ⟨.ptr b i.toNat 0,[b],[],[]⟩:=by
 have:=Rh (P:=P) hT (dst:=dst) (ty:=ty) (pos:=pos) (aft:=aft) (g:=g) hy hd hye hx hb hk hix h0 (by omega);rw[Nat.zero_add]at this;exact this
omit hT in
def Ro:∀{cs vs},cs.length=vs.length->Ew cs 0 vs=vs
 | [],[],_=>rfl
 |c::cs,v::vs,h=>by simp only[Ew];rw[Ro (by simpa using h)]
def dE{t:TypeId}{val:AV}{l:List α}{v u}(E:EOk k e)(hm:l[i]? =some v)(hc:cN val=e u)(hx:s.ev x=some (.ptr b i 0))(hb:s.heap b=some ⟨k,l.map e⟩)(hz:s.ev z=some val)(hy:dB T t=some y)(hk:y.size=k):AEff P ⟨dst,.store t x z,ty,pos,aft,g⟩ s.ev s.heap s.kp ⟨.dead,[b],[(b,some ⟨k,(l.set i u).map e⟩)],[]⟩:=by
 have h1:=Da (P:=P) hT (dst:=dst) (ty:=ty) (pos:=pos) (aft:=aft) (g:=g) hx hb hz hy (by rw[hc,E.len,hk];simp) (by rw[hc,List.all_eq_true];exact λc h=>Rm (E.mem u c h) _) (cs:=e v) (by rw[List.getElem?_map,hm];rfl) (by rw[E.len,hk,Nat.zero_add];simp);rw[hc,KY (E.mem u),Ro (by rw[E.len,E.len]),←List.map_set]at h1;exact h1
def nH{t}{l m:List α}(E:EOk k e)(hf:decide (l.length+m.length<=4294967296)=true)(hns:s.ns.head?=some b')(hx:s.ev x=some (.own b 0 n))(hb:s.heap b=some ⟨k,l.map e⟩)(hl:l.length=n)(hz:s.ev z=some sv)(hsrc:xR s.heap sv=some (k,m.map e,ts))(hy:dB T t=some y)(hd:y.desc= .slice et)(hye:dB T et=some ye)(hzl:ye.zero.length=ye.size)(hk:ye.size=k)(hby:Nat.ble ye.bytes 32768=true):AEff P ⟨dst,.call ⟨.builtin .append,#[x,z],#[t,t]⟩,dty,pos,aft,g⟩ s.ev s.heap s.kp ⟨.own b' 0 (l++m).length,b::ts,[(b,none),(b',some ⟨k,(l++m).map e⟩)],[b']⟩:=by
 have hf:=of_decide_eq_true hf;have hby:=Nat.le_of_ble_eq_true hby
 have h1:=Os (P:=P) hT (dst:=dst) (pos:=pos) (aft:=aft) (g:=g) (dty:=dty) hns hx hb hz hsrc hy hd hye hzl hk.symm hk.symm (by simpa using hl) (E.okE _ m) (by simp;omega) (by simp only[eD];calc (n+m.length)*ye.bytes<=4294967296*32768:=Nat.mul_le_mul (by omega) hby
                                                                                                                                                               _<=140737488355328:=by decide)
 rw[E.namesE,List.append_nil,hk,eD]at h1;rw[List.length_append,List.map_append,hl];exact h1
omit hT in
def Tq{c}(h:mH c=true):Ec (zP c)=c:=by cases c<;>simp only[mH,fK]at h<;>rfl
omit hT in
def YG(E:EOk k e)(l:List α):(l.map (ow e)).map (List.map Ec)=l.map e:=by
 rw[List.map_map];refine tI λx _=>?_;simp only[Function.comp,ow,List.map_map]
 have:∀{cs:bN},(∀c∈cs,mH c=true)->cs.map (Ec∘zP)=cs:=by
  intro cs;induction cs with
  |nil=>intro _;rfl
  |cons c cs ih=>intro h;rw[List.map_cons,ih λd hd=>h d (by simp[hd])];simp only[Function.comp];rw[Tq (h c (by simp))]
 exact this (E.mem x)
omit hT in
def aDk{l:List α}(E:EOk k e)(hb:hp b=some ⟨k,l.map (ow e)⟩)(hl:l.length=n):xR hp (.own b 0 n)=some (k,l.map e,[b]):=by
 simp only[xR,hb,List.drop_zero];rw[List.take_of_length_le (by simp[hl]),YG E]
omit hT in
def mQ{l:List α}(E:EOk k e)(hb:h b=some ⟨k,l.map (ow e)⟩)(hl:l.length=n):view1 h (.own b 0 n) (.list k (l.map e)):=QA hb rfl (by simp[hl]) (E.views l)
omit hT in
def xS{l:List α}(E:EOk k e)(hb:h b=some ⟨k,l.map (ow e)⟩)(hl:l.length=n):viewA h (.own b 0 n) (.list k (l.map e)):=mQ E hb hl
omit hT in
def VJ{l:List α}(E:EOk k e)(hb:h b=some ⟨k,l.map e⟩)(hl:l.length=n):view1 h (.own b 0 n) (.list k (l.map e)):=QA hb rfl (by simp[hl]) (E.sames l)
omit hT in
def YH{l:List α}(E:EOk k e)(hb:h b=some ⟨k,l.map e⟩)(hl:l.length=n):viewA h (.own b 0 n) (.list k (l.map e)):=VJ E hb hl
omit hT in
def cS{l:List α}(E:EOk k e)(hb:h b=some ⟨k,l.map (ow e)⟩)(hl:l.length=n):Iq h (.own b 0 n) (.list k (l.map e)):=⟨rfl,_,hb,by simp[hl],rfl,E.frzs l⟩
end
def cK:All2 (Iq h) [] []:=rfl
def aD{x d xs}(a:Iq h x d)(b:All2 (Iq h) xs ds):All2 (Iq h) (x::xs) (d::ds):=⟨d,ds,rfl,a,b⟩
def qO(a:All2 (Iq h) cs ds):Mr h [.agg cs] (.agg ds):=⟨a,by intro _ h;cases h⟩
def lL{x k}(a:Iq h x (.list k es)):Mr h [x] (.list k es):=by
 refine⟨?_,by intro _ h;cases h⟩;cases x<;>exact a
def hO{x d}(a:Iq h x d):Lb h x d:=by
 unfold Lb;split
 .exact a.elim
 .exact a
def eH(a:All2 (Iq h) cs ds):Lb h (.agg cs) (.agg ds):=a
def cC:All2 (Lb h) [] []:=rfl
def aR{x d xs}(a:Lb h x d)(b:All2 (Lb h) xs ds):All2 (Lb h) (x::xs) (d::ds):=⟨d,ds,rfl,a,b⟩
def bH{vs rs}(hl:Nat.beq vs.length 1=false)(a:All2 (Lb h) vs rs):Mr h vs (.tuple rs):=by
 have h1:vs.length≠1:=by intro e;rw[e]at hl;cases hl
 cases vs with
 |nil=>exact⟨h1,a⟩
 |cons v vs=>
  cases vs with
  |nil=>exact absurd rfl h1
  |cons u vs=>exact⟨h1,a⟩
section
variable {s:AState}
def eJ{k c}(hb:s.heap b=some ⟨k,A++[c]⟩)(hj:c[j]? =some (.own b' 0 n))(hb':s.heap b'=some ⟨k',es⟩)(hne:Nat.beq b b'=false)(hn:es.length=n)(hf:All2 (All2 Gn) es es'):Ent s ⟨s.env,aY [(b',none),(b,some ⟨k,A++[Ew c j [.abs k' es']]⟩)] s.heap,s.used,s.ns,s.kp⟩:=by
 have h:=Gq (i:=A.length) hb (by simp) hj hb' hne hn rfl hf;have e:(A++[c]).set A.length (Ew c j [.abs k' es'])=A++[Ew c j [.abs k' es']]:=by rw[List.set_append_right _ _ (bG _),Nat.sub_self];rfl
 simp only[e]at h;exact h
def vW{k c}(hi:i<A.length)(hb:s.heap b=some ⟨k,A.set i c⟩)(hj:c[j]? =some (.own b' 0 n))(hb':s.heap b'=some ⟨k',es⟩)(hne:Nat.beq b b'=false)(hn:es.length=n)(hf:All2 (All2 Gn) es es'):Ent s ⟨s.env,aY [(b',none),(b,some ⟨k,A.set i (Ew c j [.abs k' es'])⟩)] s.heap,s.used,s.ns,s.kp⟩:=by
 have h:=Gq (i:=i) hb (by simp[hi]) hj hb' hne hn rfl hf;simp only[List.set_set]at h;exact h
end
def aV{α:Type}(f:α->β)(l:List α):(l.map f).length=l.length:=eD ..
def dO:Tryz.prog.follows .mixedOrders=true:=by kernel_rfl
abbrev Rq(b:ByteArray):bN:=[.str b]
def bP{α:Type}(k:Nat)(e:α->bN)(l:List α):bN:=[.list k (l.map e)]
def cI:EOk 1 eI:=⟨λ_=>rfl,λ_=>rfl⟩
def Rr:EOk 1 Rq:=⟨λ_=>rfl,λ_=>rfl⟩
def aZ{k}:EOk 1 (bP k e):=⟨λ_=>rfl,λ_=>rfl⟩
def eZ:EOk 3 eM:=⟨λ_=>rfl,λ_=>rfl⟩
def CI:EOk 6 eR:=⟨λ_=>rfl,λ_=>rfl⟩
def gT:EOk 1 (ow eI):=⟨λ_=>rfl,λ_=>rfl⟩
def YI:EOk 1 (ow Rq):=⟨λ_=>rfl,λ_=>rfl⟩
def FU{nb'}(h:nb=nb')(e:vC nb'=ed:=by rfl):vC nb=ed:=by rw[h];exact e
def Hg(σ)(h:cs.all fF=true):All2 (iK σ n) cs cs:=by
 induction cs with
 |nil=>rfl
 |cons c cs ih=>
  simp only[List.all_cons,cB]at h;refine⟨c,cs,rfl,?_,ih h.2⟩;cases c<;>simp only[fF,fK,false_and]at h<;>simp[iK]
def Ou{k}(m):All2 (All2 (qN σ n)) (List.replicate m [.nil k']) ((List.replicate m ([]:List α)).map (ow (bP k e))):=by
 induction m with
 |zero=>rfl
 |succ m ih=>exact⟨_,_,rfl,⟨_,_,rfl,rfl,rfl⟩,ih⟩
def Gs{z}(n):List.replicate n (ow e z)=(List.replicate n z).map (ow e):=(List.map_replicate ..).symm
section
variable {h:Hp}
def aBp{k}{e:α->bN}{z}(E:EOk k e)(hb:h b=some ⟨k,List.replicate m (ow e z)⟩)(hn:m=n):view1 h (.own b 0 n) (.list k ((List.replicate m z).map e)):=by
 refine QA hb rfl (by simp[hn]) ?_;have:=E.views (List.replicate m z);rw[List.map_replicate]at this;exact this
def YJ{k}{e:α->bN}{z}(E:EOk k e)(hb:h b=some ⟨k,List.replicate m (ow e z)⟩)(hn:m=n):viewA h (.own b 0 n) (.list k ((List.replicate m z).map e)):=aBp E hb hn
def Mw{k fs}(hb:h b=some ⟨k,es⟩)(hn:n=es.length)(v:All2 (All2 view0) es fs):view1 h (.own b 0 n) (.list k fs):=QA hb rfl hn v
def Ts{k fs}(hb:h b=some ⟨k,es⟩)(hn:n=es.length)(v:All2 (All2 view0) es fs):viewA h (.own b 0 n) (.list k fs):=Mw hb hn v
def QD:All2 (viewP h) [] []:=rfl
def Hh{x d xs}(a:viewP h x d)(b:All2 (viewP h) xs ds):All2 (viewP h) (x::xs) (d::ds):=⟨d,ds,rfl,a,b⟩
def Je{c}(p:fF c=true):viewP h c c:=by cases c<;>simp only[fF,fK]at p<;>simp[viewP,view1,view0]
def QE{c}(hb:h b=some blk)(hi:blk.es[0]? =some c)(v:All2 (view1 h) c cs):viewP h (.ptr b 0 0) (.ref cs):=⟨blk,c,hb,hi,v⟩
def YK(v:All2 (viewP h) cs ds):viewA h (.fn f cs) (.fn f ds):=⟨rfl,v⟩
def Mx:∀{cs},cs.all fF=true->All2 (viewP h) cs cs
 | [],_=>rfl
 |c::cs,p=>by simp only[List.all_cons,cB]at p;exact⟨c,cs,rfl,Je p.1,Mx p.2⟩
def aBq(p:cs.all fF=true):viewA h (.fn f cs) (.fn f cs):=⟨rfl,Mx p⟩
end
def GC:LJ (.agg []):=by intro _ h;cases h
def fL{c}(a:Rc c)(b:LJ (.agg cs)):LJ (.agg (c::cs)):=by
 intro d hd;rcases dR.1 hd with rfl|h
 .exact a
 .exact b d h
def GD:LL (.tuple []):=by intro _ h;cases h
def pK{c}(a:LJ c)(b:LL (.tuple cs)):LL (.tuple (c::cs)):=by
 intro d hd;rcases dR.1 hd with rfl|h
 .exact a
 .exact b d h
section
variable {P:Program}{T:List (Nat×Ty)}{dst:Option Tmp}{ty:TypeId}{pos:String}{aft:Array Edge}{g:Option (Nat×Bool)}{s:AState}
def nU(hT:TyOk P T){e:TypeId}{l c n}(q:(decide (0<=n)&&decide (n<=1048576))=true)(hns:s.ns.head?=some b)(hl:s.ev l=some (.sc (.int kl n)))(hc:s.ev c=some (.sc (.int kc n)))(hy:dB T t=some y)(hd:y.desc= .slice e)(hye:dB T e=some ye)(hz:ye.zero.length=ye.size)(hb:Nat.ble ye.bytes 32768=true):AEff P ⟨dst,.makeSlice t l c,ty,pos,aft,g⟩ s.ev s.heap s.kp ⟨.own b 0 n.toNat,[],[(b,some ⟨ye.size,List.replicate n.toNat ye.zero⟩)],[b]⟩:=by
 simp only[cB,iS]at q;refine aBn hT hns hl hc hy hd hye hz q.1 (by omega) ?_;have hb:=Nat.le_of_ble_eq_true hb
 calc n.toNat*ye.bytes<=1048576*32768:=Nat.mul_le_mul (by omega) hb
  _<=140737488355328:=by decide
def QF{u}(hcap:caps.all fF=true)(hc:HasC P f (ds1++caps) (.sc u))(hf:s.ev fo=some (.fn f caps))(hx:Gh s.ev xs.toList=some avs)(hv1:All2 (viewA s.heap) avs ds1):AEff P ⟨dst,.call ⟨.value fo,xs,ats⟩,ty,pos,aft,g⟩ s.ev s.heap s.kp ⟨.sc u,avs.flatMap (lK s.heap)++caps.flatMap (pJ s.heap),[],[]⟩:=
 Mp (ds1:=ds1) (ds2:=caps) (ns:=[]) (nb:=[]) (r:=.sc u) (x:=.sc u) hf hx hc hv1 (Mx hcap) trivial (MN [] u) rfl (by simp)
end
def qE(σ:Nat->Option Nat)(ν:Nu):Nu:=⟨λb=>match σ b with|some b0=>ν b0|none=>none,ν.ok⟩
structure Conv(σ:Nat->Option Nat)(n:Nat)(w:World)(h:Hp)(u:Us)(ν:Nu)(hl:List (Nat×Blk)):Prop where
 free:∀x,wS h ν x->wS (iJ hl) (qE σ ν) x
 rep:∀{x y:AV}{v:Value},RepA w h u ν x v->rK σ n x y->RepA w (iJ hl) (yT n) (qE σ ν) y v
 heap:∀{M:Nat->Prop}{φ:Nat->List Nat},HeapOk M w h u ν φ->HeapOk M w (iJ hl) (yT n) (qE σ ν) (λb=>match σ b with|some b0=>φ b0|none=>[])
 look:∀b y,iJ hl b=some y->(∀b0,σ b=some b0->∃x,h b0=some x/\x.k=y.k/\x.es.length=y.es.length)/\Nat.blt b n=true
def Hi(hh:rL σ n h hl)(hi:DX σ hl=true):Conv σ n w h u ν hl:=by
 generalize hν':qE σ ν=ν';have hνok:ν'.ok=ν.ok:=by rw[←hν'];rfl
 have hνb:∀b,ν' b=match σ b with|some b0=>ν b0|none=>none:=λb=>by rw[←hν'];rfl
 have hlive:∀b y,iJ hl b=some y->(match σ b with|some b0=>∃x,h b0=some x/\Ip σ n x y|none=>y.es=[])/\Nat.blt b n=true:=λb y h=>Mk hh (rW h)
 have hlen:∀{x y:Blk},Ip σ n x y->x.k=y.k/\x.es.length=y.es.length:=by
  rintro x y ⟨h1,h2|h2⟩
  .exact⟨h1,by rw[h2.1]⟩
  .exact⟨h1,h2.len.symm⟩
 have hfree:∀x,wS h ν x->wS (iJ hl) ν' x:=by
  intro x hf b y β c hb hν;have h1:=(hlive b y hb).1;cases hσ:σ b with
  |none=>simp only[hνb,hσ]at hν;cases hν
  |some b0=>
   rw[hσ]at h1;simp only[hνb,hσ]at hν;obtain⟨z,h2,_⟩:=h1;exact hf b0 z β c h2 hν
 have m1:∀{x y:AV}{v:Value},Rep1 w h u ν x v->iK σ n x y->Rep1 w (iJ hl) (yT n) ν' y v:=by
  intro x y v r m;cases y
  case dead=>trivial
  case sc u=>cases x<;>simp only[iK]at m<;>first|exact m.elim|(subst m;exact r)
  case nil k=>cases x<;>simp only[iK]at m<;>first|exact m.elim|exact r
  case list k es=>
   cases x<;>simp only[iK]at m<;>first|exact m.elim|skip
   .subst m;simp only[Rep1]at r ⊢;exact⟨[],by rw[r];exact FO,by simp⟩
   .obtain⟨rfl,rfl⟩:=m;obtain⟨S,r1,r2⟩:=r;exact⟨S,r1,λx hx=>⟨hfree x (r2 x hx).1,by rw[hνok];exact(r2 x hx).2⟩⟩
  case ref cs=>
   cases x<;>simp only[iK]at m<;>first|exact m.elim|skip
   subst m;obtain⟨S,r1,r2⟩:=r;exact⟨S,r1,λx hx=>⟨hfree x (r2 x hx).1,by rw[hνok];exact(r2 x hx).2⟩⟩
  case own b i q=>
   cases x<;>simp only[iK]at m<;>first|exact m.elim|skip
   .obtain⟨m1,rfl,rfl,m4⟩:=m;simp only[Rep1]at r ⊢;refine⟨m4,λblk hb=>?_⟩;have h1:=(hlive b blk hb).1;rw[m1]at h1;refine⟨by simp,λ_=>r,λβ c hν=>?_⟩;simp only[hνb,m1]at hν;cases hν
   .rename_i b0 i0 q0;obtain⟨m1,rfl,rfl,m4⟩:=m;simp only[Rep1]at r ⊢;refine⟨m4,λblk hb=>?_⟩;have h1:=(hlive b blk hb).1;rw[m1]at h1;obtain⟨z,h2,h3⟩:=h1;obtain⟨k1,k2⟩:=hlen h3;obtain⟨r1,r2,r3⟩:=r.2 z h2;refine⟨by rw[←k2];exact r1,λhν=>r2 (by simpa only[hνb,m1]using hν),λβ c hν=>?_⟩;rw[←k1];exact r3 β c (by simpa only[hνb,m1]using hν)
  case ptr b i q=>
   cases x<;>simp only[iK]at m<;>first|exact m.elim|skip
   rename_i b0 i0 q0;obtain⟨m1,rfl,rfl,m4⟩:=m;simp only[Rep1]at r ⊢;refine⟨m4,λblk hb=>?_⟩;have h1:=(hlive b blk hb).1;rw[m1]at h1;obtain⟨z,h2,h3⟩:=h1;obtain⟨k1,k2⟩:=hlen h3;obtain⟨β,c,r1,r2⟩:=r.2 z h2;exact⟨β,c,by simpa only[hνb,m1]using r1,by rw[←k1];exact r2⟩
  all_goals (cases x<;>simp only[iK]at m)
 have mL:∀{xs ys:bN}{vs:List Value},All2 (Rep1 w h u ν) xs vs->All2 (iK σ n) xs ys->All2 (Rep1 w (iJ hl) (yT n) ν') ys vs:=by
  intro xs;induction xs with
  |nil=>intro ys vs r m;simp only[All2]at r m;subst r m;rfl
  |cons x xs ih=>
   rintro ys vs ⟨v,r,rfl,h1,h2⟩ ⟨y,q,rfl,k1,k2⟩;exact⟨v,r,rfl,m1 h1 k1,ih h2 k2⟩
 have mC:∀{x y:AV}{v:Value}{S:List Nat},CellRep w h u ν x v S->qN σ n x y->CellRep w (iJ hl) (yT n) ν' y v S:=by
  intro x y v S r m
  cases x<;>cases y<;>simp only[qN]at m<;>simp only[CellRep]at r ⊢ <;>first
   |exact m.elim
   |exact r.elim
   |exact⟨m1 r.1 m,r.2⟩
   |(obtain⟨rfl,m⟩:=m;obtain⟨⟨vs,r1,r2⟩,r3⟩:=r;exact⟨⟨vs,r1,mL r2 m⟩,r3⟩)
   |(obtain⟨rfl,rfl⟩:=m;exact r)
   |(obtain⟨r1,rfl⟩:=r;subst m;simp only[Rep1]at r1;rw[r1];exact Gj)
   |(simp only[iK]at m)
 have mCs:∀{xs ys:bN}{vs:List Value}{S:List Nat},CellsRep w h u ν xs vs S->All2 (qN σ n) xs ys->CellsRep w (iJ hl) (yT n) ν' ys vs S:=by
  intro xs;induction xs with
  |nil=>intro ys vs S r m;simp only[All2]at m;subst m;exact r
  |cons x xs ih=>
   rintro ys vs S ⟨v,r,S1,S2,rfl,rfl,h1,h2⟩ ⟨y,q,rfl,k1,k2⟩;exact⟨v,r,S1,S2,rfl,rfl,mC h1 k1,ih h2 k2⟩
 have mSelf:∀{xs:bN}{vs:List Value}{S:List Nat},CellsRep w h u ν xs vs S->(∀c∈xs,vU c=true)->CellsRep w (iJ hl) (yT n) ν' xs vs S:=by
  intro xs vs S r hp;refine mCs r ?_;clear r;induction xs with
  |nil=>rfl
  |cons x xs ih=>
   refine⟨x,xs,rfl,?_,ih (λc hc=>hp c (by simp[hc]))⟩;have:=hp x (by simp);cases x<;>simp only[vU,fK]at this<;>simp[qN,iK]
 have mFlat:∀{es fs:List bN}{R:AV->AV->Prop},All2 (All2 R) es fs->All2 R es.flatten fs.flatten:=by
  intro es;induction es with
  |nil=>intro fs R h;simp only[All2]at h;subst h;rfl
  |cons c es ih=>
   rintro fs R ⟨d,fs',rfl,h1,h2⟩;rw[List.flatten_cons,List.flatten_cons];exact h1.append (ih h2)
 have mlens:∀{es fs:List bN}{k:Nat},All2 (All2 (qN σ n)) es fs->(∀cs∈es,cs.length=k)->∀cs∈fs,cs.length=k:=by
  intro es;induction es with
  |nil=>intro fs k h _ cs hcs;simp only[All2]at h;subst h;cases hcs
  |cons c es ih=>
   rintro fs k ⟨d,fs',rfl,h1,h2⟩ hk cs hcs;rcases dR.1 hcs with rfl|h
   .rw[h1.len];exact hk c (by simp)
   .exact ih h2 (λx hx=>hk x (by simp[hx])) cs h
 subst hν';refine⟨hfree,?_,?_,λb y hb=>⟨λb0 e=>?_,(hlive b y hb).2⟩⟩
 .intro x y v h4 h2
  cases x<;>cases y<;>simp only[rK]at h2<;>simp only[RepA,RepB]at h4 ⊢ <;>first
   |exact m1 h4 h2
   |(obtain⟨vs,e1,e2⟩:=h4;exact⟨vs,e1,mL e2 h2⟩)
   |(obtain⟨vs,e1,e2⟩:=h4;obtain⟨rfl,h2⟩:=h2;exact⟨vs,e1,mL e2 h2⟩)
   |trivial
   |(simp only[iK]at h2)
 .intro M φ hφ;refine⟨?_,?_⟩
  .intro b y hb;obtain⟨h1,h2⟩:=hlive b y hb;refine⟨h2,?_⟩;cases hσ:σ b with
   |none=>
    rw[hσ]at h1;simp only;exact⟨⟨by rw[h1];simp,.inl ⟨by simp only[hνb,hσ],h1,rfl⟩⟩,by simp,by simp⟩
   |some b0=>
    rw[hσ]at h1;simp only;obtain⟨x,h3,h4⟩:=h1;obtain⟨g1,⟨g2,g3⟩,g4,g5⟩:=hφ.blk b0 x h3;obtain⟨k1,k2⟩:=hlen h4;refine⟨⟨?_,?_⟩,g4,g5⟩
    .rcases h4.2 with ⟨e1,_⟩|e1
     .rw[←e1,←k1];exact g2
     .rw[←k1];exact mlens e1 g2
    .rcases g3 with ⟨q1,q2,q3⟩|⟨β,c,arr,ty,T,vs,q1,q2,q3,q4,q5,q6,q7,q8⟩
     .exact .inl ⟨by simp only[hνb,hσ];exact q1,by rw[q2]at k2;exact List.eq_nil_of_length_eq_zero k2.symm,q3⟩
     .refine .inr ⟨β,c,arr,ty,T,vs,by simp only[hνb,hσ];exact q1,q2,by rw[←k1];exact q3,by rw[←k2];exact q4,q5,q6,by rw[←k1,←k2];exact q7,?_⟩;rcases h4.2 with ⟨e1,e2⟩|e1
      .rw[e1]at q8;exact mSelf q8 (λc hc=>by obtain⟨cs,hcs,hc'⟩:=List.mem_flatten.1 hc;exact e2 cs hcs c hc')
      .exact mCs q8 (mFlat e1)
  .intro b c z hb hc hne hzb hzc;obtain⟨y1,hy1⟩:=Option.ne_none_iff_exists'.1 hb;obtain⟨y2,hy2⟩:=Option.ne_none_iff_exists'.1 hc;have i1:=(Ml hi (rW hy1) (rW hy2)).2 hne;have l1:=(hlive b y1 hy1).1;have l2:=(hlive c y2 hy2).1;cases h1:σ b with
   |none=>rw[h1]at hzb;cases hzb
   |some b0=>
    cases h2:σ c with
    |none=>rw[h2]at hzc;cases hzc
    |some c0=>
     rw[h1]at hzb l1;rw[h2]at hzc l2;obtain⟨x1,p1,_⟩:=l1;obtain⟨x2,p2,_⟩:=l2;exact hφ.apart b0 c0 z (by rw[p1];simp) (by rw[p2];simp) (λe=>i1 b0 h1 (by rw[h2,e])) hzb hzc
 .have h1:=(hlive b y hb).1;rw[e]at h1;obtain⟨x,h2,h3⟩:=h1;exact⟨x,h2,(hlen h3).1,(hlen h3).2⟩
structure HasE(P:Program)(f:FuncId)(ds:bN)(hl:List (Nat×Blk))(kp:Nat)(r:AV)(hl':List (Nat×Blk)):Prop where
 enters:Enters P f
 calls:∀(B:Nat)(M:Nat->Prop)(w:World)(args:Array Value)(ν:Nu)(φ:Nat->List Nat),(∀x,M x->B<=x)->B<=w.heap.size->(∀x,w.heap.size<=x->M x)->(∀x,M x->ν.ok x)->All2 (RepA w (iJ hl) (yT kp) ν) ds args.toList->HeapOk M w (iJ hl) (yT kp) ν φ->
  Calls P f args w λe w'=>∃v u' ν' φ',e= .returned v/\Below B w w'/\Ext w (iJ hl) (yT kp) ν w' (iJ hl') u' ν'/\HeapOk M w' (iJ hl') u' ν' φ'/\RepA w' (iJ hl') u' ν' r v
def Rs:AV->Bool
 | .tuple _=>false
 |_=>true
def aBr(vs:bN)(r:AV):Prop:=(vs=[r])∨(vs.length≠1/\vs.all Rs=true/\r= .tuple vs)
def YL(h:Hp):List (Nat×Blk)->Prop
 | []=>True
 |(b,y)::r=>h b=some y/\YL h r
def Ov:∀{l},YL h l->∀{b y},(b,y)∈l->h b=some y
 |(c,z)::r,⟨h1,h2⟩,b,y,hm=>by
  rcases dR.1 hm with e|hm'
  .obtain⟨rfl,rfl⟩:=Prod.mk.inj e;exact h1
  .exact Ov h2 hm'
def aEq(T:List (Nat×Ty))(rvs:List ResultVar)(r:AV)(hl':List (Nat×Blk))(e:Exit)(t:AState):Prop:=GS e=true/\(∃vs,Cl T t rvs=some vs/\aBr vs r)/\YL t.heap hl'
def Ext.shrink{g}(e:Ext w h u ν w' h' u' ν')(hg:∀b blk,g b=some blk->h' b=some blk):Ext w h u ν w' g u' ν':=
 ⟨e.used,λb blk hb hgb=>e.old b blk hb (hg b blk hgb),λx hx hf=>⟨(e.free x hx hf).1,λb blk β c hb hν=>(e.free x hx hf).2 b blk β c (hg b blk hb) hν⟩,e.okE⟩
def HeapOk.shrink{M M':Nat->Prop}{w:World}{h g:Hp}{u:Us}{ν:Nu}{φ:Nat->List Nat}(hh:HeapOk M w h u ν φ)(hg:∀b blk,g b=some blk->h b=some blk)(hM:∀b x,g b≠none->x∈φ b->M x->M' x):HeapOk M' w g u ν φ where
 blk:=λb blk hb=>by
  obtain⟨g1,g2,g3,g4⟩:=hh.blk b blk (hg b blk hb);exact⟨g1,g2.ext ((Ext.refl w h u ν).shrink hg) rfl (λ_ _=>rfl),g3,λx hx=>hM b x (by rw[hb];simp) hx (g4 x hx)⟩
 apart:=λb c x hb hc hne hxb hxc=>by
  obtain⟨y1,h1⟩:=Option.ne_none_iff_exists'.1 hb;obtain⟨y2,h2⟩:=Option.ne_none_iff_exists'.1 hc;exact hh.apart b c x (by rw[hg b y1 h1];simp) (by rw[hg c y2 h2];simp) hne hxb hxc
def Jf:∀{l:bN}{t:Nat},Gp l t=l[t]?
 | [],_=>by simp[Gp]
 |_::_,0=>by simp[Gp]
 |_::r,t+1=>by simpa [Gp]using Jf (l:=r) (t:=t)
def aBs{x}(r:RepA w h u ν x v)(hx:Rs x=true):RepB w h u ν x v:=by
 cases x<;>first|exact r|cases hx
def fE(hT:TyOk P T){c r}(hf:P.funcs[f]? =some fn)(hb:fn.body=some c)(hname:(fn.name== "runtime.NumGoroutine")=false)(hnt:fn.ntmps=nt)(hres:fn.results.toList=rvs)(hlen:Nat.ble ds.length nt=true)(h:AC P nt c ⟨Gp ds,iJ hl,yT kp,ns,⟨kp,false,none,true⟩⟩ (λe t=>∃t',Ent t t'/\aEq T rvs r hl' e t')):HasE P f ds hl kp r hl':=by
 refine⟨Enters.mk hf (by rw[hb];rfl) hname,λB M w args ν φ hMB hB hM hMo hargs hheap=>?_⟩;refine(callsIn_wide (n:=0)).1 (callsIn_of_wp_marks (F:=fw none) hf hb trivial ?_);have hlen':=Nat.le_of_ble_eq_true hlen;have hal:args.size=ds.length:=by have:=hargs.len;simpa using this
 let C:Ctx:=⟨B,w,nt,M,hMB,⟨kp,false,none,true⟩,w,iJ hl,ν,wS (iJ hl) ν,(λh=>by cases h),(λ_ h=>by cases h),none,λ_=>rfl⟩
 have hsim:Sim C ⟨Gp ds,iJ hl,yT kp,ns,⟨kp,false,none,true⟩⟩ ν ⟨args++Array.replicate (fn.ntmps-args.size) undef,[]⟩ w:=by
  refine⟨Below.refl _ _,hB,hM,yV,by show(args++Array.replicate (fn.ntmps-args.size) undef).size=nt;simp[hnt];omega,?_,⟨φ,hheap⟩,rfl,ExtF.refl λ_ _ h=>h,bG _,hMo,λ_ h=>by cases h⟩;intro t x hx;have hx':ds[t]? =some x:=by rw[←Jf];exact hx
  obtain⟨v,h1,h2⟩:=hargs.get hx';refine⟨v,?_,h2⟩
  have hlt:t<args.size:=by
   rcases eG t args.size with h'|h'
   .exact h'
   .rw[iM (by simpa using h')]at h1;cases h1
  show(args++Array.replicate (fn.ntmps-args.size) undef)[t]? =some v;rw[Array.getElem?_append_left hlt];simpa using h1
 refine wpIn_mono (h.out C rfl _ _ w hsim 0) λe a' w0 ⟨s1,ν1,⟨s',hent,hq⟩,hs1⟩=>?_;obtain⟨ν',hs0⟩:=hent C ν1 a' w0 hs1;obtain⟨Ds,d1,d2,d3⟩:=hs0.defers;obtain⟨w',hs',hleave⟩:=hs0.leave (P:=P) (n:=0) d1 d2 d3;obtain⟨he,⟨avs,hv,hone⟩,hsame⟩:=hq;have hsub:∀b blk,iJ hl' b=some blk->s'.heap b=some blk:=λb blk hb=>Ov hsame (rW hb);obtain⟨us,h1,h2⟩:=Cs hT hs' hv;obtain⟨φ',hh⟩:=hs'.heap
 have hrun:(results fn a'.tmps).run P w'= .ok (if hh:us.toArray.size=1 then us.toArray[0]else .tuple us.toArray) w':=by
  unfold results;rw[Sem.run_bind,Array.mapM_eq_mapM_toList,Sem.run_map,hres];have h1':=h1;generalize hq:(List.mapM _ rvs:Sem (List Value))=m;rw[show Sem.run P m w'= .ok us w' by rw[←hq];exact h1'];simp
 have shr:=(Ext.refl w' s'.heap s'.used ν').shrink hsub
 have hrep:RepA w' (iJ hl') s'.used ν' r (if hh:us.toArray.size=1 then us.toArray[0]else .tuple us.toArray):=by
  rcases hone with rfl|⟨g1,g2,rfl⟩
  .obtain⟨u,q,rfl,k1,k2⟩:=h2;simp only[All2]at k2;subst k2;exact k1.ext shr
  .have hul:us.length=avs.length:=h2.len;rw[dif_neg (by simp;rw[hul];exact g1)];refine⟨us,rfl,h2.congrM λx hx v hr=>?_⟩;exact aBs (hr.ext shr) (List.all_eq_true.1 g2 x hx)
 have hend:=hleave fn (λe w'=>∃v u' ν' φ',e= .returned v/\Below B w w'/\Ext w (iJ hl) (yT kp) ν w' (iJ hl') u' ν'/\HeapOk M w' (iJ hl') u' ν' φ'/\RepA w' (iJ hl') u' ν' r v)
  ⟨_,hrun,_,s'.used,ν',φ',rfl,hs'.below,hs'.ext.ext.shrink hsub,hh.shrink hsub (λ_ _ _ _ h=>h),hrep⟩
 cases e<;>simp only[GS,fK]at he<;>exact hend
def Jg(rl:List Nat):AV->Bool
 | .sc _=>true
 | .nil _=>true
 | .own b _ _=>rl.contains b
 | .ptr b _ _=>rl.contains b
 |_=>false
def Ow(rl:List Nat):AV->Bool
 | .abs _ _=>true
 | .fn _ cs=>cs.all (Jg rl)
 |x=>Jg rl x
def Ox(rl:List Nat):AV->Bool
 | .agg cs=>cs.all (Jg rl)
 |x=>Jg rl x
def Oy(rl:List Nat):AV->Bool
 | .tuple cs=>cs.all (Ox rl)
 |x=>Ox rl x
def My(rl:List Nat):List (Nat×Blk)->Prop
 | []=>True
 |(b,y)::r=>rl.contains b=true/\(∀cs∈y.es,∀c∈cs,Ow rl c=true)/\My rl r
def KZ:∀{l},My rl l->∀{b y},(b,y)∈l->rl.contains b=true/\∀cs∈y.es,∀c∈cs,Ow rl c=true
 |(c,z)::r,⟨h1,h2,h3⟩,b,y,hm=>by
  rcases dR.1 hm with e|hm'
  .obtain⟨rfl,rfl⟩:=Prod.mk.inj e;exact⟨h1,h2⟩
  .exact KZ h3 hm'
def EOk.tame{k}{e:α->bN}(E:EOk k e)(rl)(l:List α):∀cs∈l.map (ow e),∀c∈cs,Ow rl c=true:=by
 intro cs hcs c hc;obtain⟨x,_,rfl⟩:=List.mem_map.1 hcs;obtain⟨d,hd,rfl⟩:=List.mem_map.1 hc;have:=E.mem x d hd;cases d<;>simp only[mH,fK]at this<;>rfl
def Bh(σ:Nat->Option Nat)(touch:List Nat):List (Nat×Blk)->Bool
 | []=>true
 |(b,_)::r=>(match σ b with|some x=>touch.contains x|none=>true)&&Bh σ touch r
def EF(hc:∀b∈touch,h' b=h b):∀{l},Bh σ touch l=true->rL σ n h l->rL σ n h' l
 | [],_,_=>trivial
 |(b,y)::r,ht,⟨h1,h2,h3⟩=>by
  simp only[Bh,cB]at ht;refine⟨?_,h2,EF hc ht.2 h3⟩;cases hσ:σ b with
  |none=>rw[hσ]at h1;exact h1
  |some x=>
   have h4:=ht.1;rw[hσ]at h1 h4;simp only at h1 h4 ⊢;obtain⟨z,e1,e2⟩:=h1;exact⟨z,by rw[hc x (by simpa using h4)];exact e1,e2⟩
def FV(σ σ':Nat->Option Nat)(kp:Nat)(news:List Nat):List (Nat×Blk)->Bool
 | []=>true
 |(b,_)::r=>(match σ' b with|some i=>news.contains b||(Nat.blt i kp&&(match σ i with|some x=>Nat.beq x b|none=>false))|none=>false)&&FV σ σ' kp news r
def Hj{news}:∀{l},FV σ σ' kp news l=true->∀{b y},(b,y)∈l->∃i,σ' b=some i/\(b∈news∨(Nat.blt i kp=true/\σ i=some b))
 |(c,z)::r,h,b,y,hm=>by
  simp only[FV,cB]at h;rcases dR.1 hm with e|hm'
  .obtain⟨rfl,rfl⟩:=Prod.mk.inj e;have h1:=h.1;cases hσ:σ' b with
   |none=>rw[hσ]at h1;cases h1
   |some i=>
    rw[hσ]at h1;simp only[Bool.or_eq_true,cB]at h1;refine⟨i,rfl,?_⟩;rcases h1 with h1|⟨h1,h2⟩
    .exact .inl (by simpa using h1)
    .refine .inr ⟨h1,?_⟩;cases hσ2:σ i with
     |none=>rw[hσ2]at h2;cases h2
     |some x=>rw[hσ2]at h2;rw[Nat.eq_of_beq_eq_true h2]
  .exact Hj h.2 hm'
def zV(rl:List Nat)(hl2:List (Nat×Blk)):List (Nat×Option Blk):=rl.map λb=>(b,iJ hl2 b)
def Jh{h:Hp}{hl2:List (Nat×Blk)}{b:Nat}:∀{rl:List Nat},aY (zV rl hl2) h b=if b∈rl then iJ hl2 b else h b
 | []=>by simp[zV,aY]
 |c::rl=>by
  have ih:=Jh (h:=h) (hl2:=hl2) (b:=b) (rl:=rl);simp only[zV,List.map_cons,aY]at ih ⊢;by_cases e:b=c
  .subst e;simp
  .rw[bW e,aW,ih];simp[e]
section
variable {w:World}{h1 h2:Hp}{u1 u2:Us}{ν1 ν2:Nu}{rl:List Nat}(H:∀b∈rl,h2 b=h1 b)(N:∀b∈rl,ν2 b=ν1 b)(U:∀b∈rl,u2 b=true)
include H N U
def Ka{x:AV}{v:Value}(r:Rep1 w h1 u1 ν1 x v)(t:Jg rl x=true):Rep1 w h2 u2 ν2 x v:=by
 cases x<;>simp only[Jg,fK]at t<;>simp only[Rep1]at r ⊢
 .exact r
 .exact r
 .rename_i b i n;have hb:b∈rl:=by simpa using t
  refine⟨U b hb,λblk hbl=>?_⟩;rw[H b hb]at hbl;rw[N b hb];exact r.2 blk hbl
 .rename_i b i n;have hb:b∈rl:=by simpa using t
  refine⟨U b hb,λblk hbl=>?_⟩;rw[H b hb]at hbl;rw[N b hb];exact r.2 blk hbl
def It:∀{xs:bN}{vs:List Value},All2 (Rep1 w h1 u1 ν1) xs vs->xs.all (Jg rl)=true->All2 (Rep1 w h2 u2 ν2) xs vs
 | [],vs,r,_=>r
 |x::xs,vs,⟨v,q,e,h,k⟩,t=>by
  simp only[List.all_cons,cB]at t;exact⟨v,q,e,Ka H N U h t.1,It k t.2⟩
def Oz{x:AV}{v:Value}(r:RepB w h1 u1 ν1 x v)(t:Ox rl x=true):RepB w h2 u2 ν2 x v:=by
 cases x<;>simp only[RepB]at r ⊢ <;>first
  |exact Ka H N U r t
  |(obtain⟨vs,e,r⟩:=r;exact⟨vs,e,It H N U r t⟩)
  |(simp only[Ox,Jg,fK]at t)
def PA{x:AV}{v:Value}(r:RepA w h1 u1 ν1 x v)(t:Oy rl x=true):RepA w h2 u2 ν2 x v:=by
 by_cases ht:∃cs,x= .tuple cs
 .obtain⟨cs,rfl⟩:=ht;obtain⟨vs,e,r⟩:=r;refine⟨vs,e,r.congrM λy hy d hd=>Oz H N U hd ?_⟩;exact List.all_eq_true.1 t y hy
 .have r':RepB w h1 u1 ν1 x v:=by cases x<;>first|exact r|exact absurd ⟨_,rfl⟩ ht
  have t':Ox rl x=true:=by cases x<;>first|exact t|exact absurd ⟨_,rfl⟩ ht
  have:=Oz H N U r' t';cases x<;>first|exact this|exact absurd ⟨_,rfl⟩ ht
def Wc{x:AV}{v:Value}{S:List Nat}(r:CellRep w h1 u1 ν1 x v S)(t:Ow rl x=true):CellRep w h2 u2 ν2 x v S:=by
 cases x<;>simp only[CellRep]at r ⊢ <;>first
  |exact⟨Ka H N U r.1 t,r.2⟩
  |(obtain⟨⟨vs,e,q⟩,q2⟩:=r;exact⟨⟨vs,e,It H N U q t⟩,q2⟩)
  |exact r
def Mz:∀{xs:bN}{vs:List Value}{S:List Nat},CellsRep w h1 u1 ν1 xs vs S->(∀c∈xs,Ow rl c=true)->CellsRep w h2 u2 ν2 xs vs S
 | [],_,_,r,_=>r
 |x::xs,vs,S,⟨v,q,S1,S2,e1,e2,h,k⟩,t=>⟨v,q,S1,S2,e1,e2,Wc H N U h (t x (by simp)),Mz k (λc hc=>t c (by simp[hc]))⟩
def LN{b:Nat}{blk:Blk}{S:List Nat}(hb:b∈rl)(r:BlkOk w h1 u1 ν1 b blk S)(t:∀cs∈blk.es,∀c∈cs,Ow rl c=true):BlkOk w h2 u2 ν2 b blk S:=by
 refine⟨r.1,?_⟩;rcases r.2 with ⟨q1,q2,q3⟩|⟨β,c,arr,ty,T,vs,q1,q2,q3,q4,q5,q6,q7,q8⟩
 .exact .inl ⟨(N b hb).trans q1,q2,q3⟩
 .refine .inr ⟨β,c,arr,ty,T,vs,(N b hb).trans q1,q2,q3,q4,q5,q6,q7,Mz H N U q8 λc hc=>?_⟩;obtain⟨cs,hcs,hc⟩:=List.mem_flatten.1 hc;exact t cs hcs c hc
end
def Hk{γ:Type}{R Mt R'}(hc:∀x y v,R x v->Mt x y->R' y v):∀{xs:List α}{ys:List β}{vs:List γ},All2 R xs vs->All2 Mt xs ys->All2 R' ys vs
 | [],ys,vs,h,m=>by simp only[All2]at h m;subst h m;rfl
 |x::xs,ys,vs,⟨v,q,e,h,k⟩,⟨y,p,e2,m,m2⟩=>by
  subst e e2;exact⟨v,q,rfl,hc x y v h m,Hk hc k m2⟩
def rY{w}(r:BlkOk w h u ν b blk S){β}(hν:ν b=some (β,c)):β∈S:=by
 rcases r.2 with ⟨q1,_,_⟩|⟨β',c',arr,ty,T,vs,q1,q2,q3,q4,q5,q6,q7,q8⟩
 .rw[hν]at q1;cases q1
 .rw[hν]at q1;cases q1;rw[q6];simp
section
variable {P:Program}{dst:Option Tmp}{ty:TypeId}{pos:String}{aft:Array Edge}{g:Option (Nat×Bool)}{ins:Operand->Option AV}{hp:Hp}{κ:Kp}
def PB{av2 r news}(hc:HasE P f ds hl kp r hl')(hf:ins fo=some (.fn f caps))(hx:Gh ins xs.toList=some avs)(href:∀(C:Ctx)(s:AState)(ν:Nu)(a:Act)(w:World)(vs:List Value),s.kp=κ->Sim C s ν a w->All2 (RepA w s.heap s.used ν) (avs++caps) vs->All2 (RepA w s.heap s.used ν) av2 vs)(hav:All2 (rK σ kp) av2 ds)(hh:rL σ kp hp hl)(hi:DX σ hl=true)(hit:Bh σ touch hl=true)(hlive:(touch.all λb=>(hp b).isSome)=true)(hh':rL σ' n' (iJ hl') hl2)(hi':DX σ' hl2=true)(hr:rK σ' n' r r2)(hbk:FV σ σ' kp news hl2=true)(htl:My (touch++news) hl2)(htr:Oy (touch++news) r2=true)(he:zV (touch++news) hl2=ed):AEff P ⟨dst,.call ⟨.value fo,xs,ats⟩,ty,pos,aft,g⟩ ins hp κ ⟨r2,touch,ed,news⟩:=by
 refine⟨λC s ν a w Q K {hκ} hi0 ht hnw hd hs hK=>?_⟩;have hfn:=hs.ev ((hi0 fo (by simp[Op.operands,Call.operands])).trans hf);simp only[RepA,RepB]at hfn;obtain⟨cv,hfv,hcap⟩:=hfn;have hval:=DZ hs (xs:=xs.toList) (λy hy=>hi0 y (by simp[Op.operands,Call.operands];exact .inr (Array.mem_toList_iff.1 hy))) hx;obtain⟨φ,hφ⟩:=hs.heap;let h3:Hp:=λb=>if b∈touch then s.heap b else none
 have sub:∀b blk,h3 b=some blk->s.heap b=some blk/\b∈touch:=by
  intro b blk hb;by_cases e:b∈touch
  .simp only[h3,aM e]at hb;exact⟨hb,e⟩
  .simp only[h3,aN e]at hb;cases hb
 let M2:Nat->Prop:=λx=>(∃b,b∈touch/\s.heap b≠none/\x∈φ b)∨w.heap.size<=x
 have hM2:∀x,M2 x->C.M x:=by
  rintro x (⟨b,_,hb,hx⟩|hx)
  .obtain⟨blk,hb⟩:=Option.ne_none_iff_exists'.1 hb;exact(hφ.blk b blk hb).2.2.2 x hx
  .exact hs.fresh x hx
 have hk3:HeapOk M2 w h3 s.used ν φ:=hφ.shrink (λb blk hb=>(sub b blk hb).1) (λb x hb hx _=>by
  obtain⟨blk,hb⟩:=Option.ne_none_iff_exists'.1 hb;obtain⟨e1,e2⟩:=sub b blk hb
  exact .inl ⟨b,e2,by rw[e1];simp,hx⟩)
 have hent:rL σ kp h3 hl:=EF (h:=hp) (touch:=touch) (λb hb=>by simp only[h3,aM hb];exact ht b hb) hit hh;have cv1:=Hi (w:=w) (u:=s.used) (ν:=ν) hent hi;have hk4:=cv1.heap hk3;have shr3:Ext w s.heap s.used ν w h3 s.used ν:=(Ext.refl _ _ _ _).shrink (λb blk hb=>(sub b blk hb).1)
 have hargs:All2 (RepA w (iJ hl) (yT kp) (qE σ ν)) ds (xs.toList.map a.eval++cv):=
  Hk (R:=RepA w s.heap s.used ν) (Mt:=rK σ kp) (R':=RepA w (iJ hl) (yT kp) (qE σ ν)) (λx y v hx hm=>cv1.rep (RepA.ext shr3 hx) hm) (href C s ν a w _ hκ hs (hval.append (hcap.mono λx v h=>Rep1.repA h))) hav
 have hcall:=hc.calls C.B M2 w ((xs.map a.eval)++cv.toArray) (qE σ ν) _ (λx hx=>C.low x (hM2 x hx)) hs.base (λx hx=>.inr hx) (λx hx=>hs.okM x (hM2 x hx)) (by simpa using hargs) hk4;unfold Oper.wp
 have hex:(execOp a.eval ⟨dst,.call ⟨.value fo,xs,ats⟩,ty,pos,aft,g⟩).run P w= .ok (.enter f ((xs.map a.eval)++cv.toArray)) w:=by
  have:execOp a.eval ⟨dst,.call ⟨.value fo,xs,ats⟩,ty,pos,aft,g⟩=callFunc f ((xs.map a.eval)++cv.toArray):=by
   simp[execOp,resolve,hfv,Deferred.ofValue,invoke]
  rw[this];exact hc.enters _ _
 rw[hex];simp only[Oper.upon];refine hcall.mono λe w' ⟨v,u1,ν1,φ1,hev,hbel,hext,hh1,hrep⟩=>?_;subst hev;simp only;have cv2:=Hi (w:=w') (u:=u1) (ν:=ν1) hh' hi';have hh2:=cv2.heap hh1;generalize hrl:touch++news=rl at*;let ν':Nu:=⟨λb=>if b∈rl then qE σ' ν1 b else ν b,ν.ok⟩;have hν1:∀b,b∈rl->ν' b=qE σ' ν1 b:=λb hb=>aM hb;have hν2:∀b,b ∉ rl->ν' b=ν b:=λb hb=>aN hb;have hheq:∀b,aY ed s.heap b=if b∈rl then iJ hl2 b else s.heap b:=λb=>by rw[←he];exact Jh
 have hhe1:∀b,b∈rl->aY ed s.heap b=iJ hl2 b:=λb hb=>by rw[hheq,aM hb]
 have hhe2:∀b,b ∉ rl->aY ed s.heap b=s.heap b:=λb hb=>by rw[hheq,aN hb]
 have hused:∀b,b∈rl->gS news s.used b=true:=by
  intro b hb;rw[←hrl]at hb;rw[lI];rcases eY.1 hb with h|h
  .have h5:=List.all_eq_true.1 hlive b h;rw[←ht b h]at h5;cases hq:s.heap b with
   |none=>rw[hq]at h5;cases h5
   |some blk=>rw[(hφ.blk b blk hq).1,Bool.or_true]
  .have:news.contains b=true:=by simpa using h
   rw[this,Bool.true_or]
 have hfree3:∀x,wS s.heap ν x->wS (iJ hl) (qE σ ν) x:=λx hf=>cv1.free x λb blk β c hb hν=>hf b blk β c (sub b blk hb).1 hν
 have extc:Ext w s.heap s.used ν w' (aY ed s.heap) (gS news s.used) ν':=by
  refine⟨λb hb=>by rw[lI,hb,Bool.or_true],λb blk' hu hb=>?_,λx hx hfr=>?_,rfl⟩
  .by_cases e:b∈rl
   .rw[hhe1 b e]at hb;obtain⟨i,e1,e2⟩:=Hj hbk (rW hb);obtain⟨x,f1,f2,f3⟩:=(cv2.look b blk' hb).1 i e1;rcases e2 with e2|⟨e2,e3⟩
    .rw[hnw b e2]at hu;cases hu
    .obtain⟨blk0,g1,g2,g3,g4⟩:=hext.old i x e2 f1;obtain⟨z,k1,k2,k3⟩:=(cv1.look i blk0 g1).1 b e3;refine⟨z,(sub b z k1).1,k2.trans (g2.trans f2),k3.trans (g3.trans f3),?_⟩;rw[hν1 b e];simp only[qE,e1];rw[g4];simp only[qE,e3]
   .rw[hhe2 b e]at hb;exact⟨blk',hb,rfl,rfl,hν2 b e⟩
  .obtain⟨p1,p2⟩:=hext.free x hx (hfree3 x hfr);refine⟨p1,λb blk β c hb hν=>?_⟩;by_cases e:b∈rl
   .rw[hhe1 b e]at hb;rw[hν1 b e]at hν;exact cv2.free x p2 b blk β c hb hν
   .rw[hhe2 b e]at hb;rw[hν2 b e]at hν;exact hfr b blk β c hb hν
 have hout:∀b blk x,s.heap b=some blk->b ∉ rl->x∈φ b->w'.heap[x]? =w.heap[x]? :=by
  intro b blk x hb hbr hx;refine(hext.free x ((hφ.blk b blk hb).2.1.lt x hx) (cv1.free x λb2 blk2 β c hb2 hν2=>?_)).1;rintro rfl;obtain⟨e1,e2⟩:=sub b2 blk2 hb2;have hne:b2≠b:=by rintro rfl;exact hbr (by rw[←hrl];exact List.mem_append_left _ e2)
  exact hφ.apart b2 b β (by rw[e1];simp) (by rw[hb];simp) hne (rY (hφ.blk b2 blk2 e1).2.1 hν2) hx
 have hcross:∀b c x,iJ hl2 b≠none->s.heap c≠none->c ∉ rl->x∈(match σ' b with|some b0=>φ1 b0|none=>[])->x ∉ φ c:=by
  intro b c x hb hc' hcr hx hx2;obtain⟨y1,hy1⟩:=Option.ne_none_iff_exists'.1 hb;obtain⟨y2,hy2⟩:=Option.ne_none_iff_exists'.1 hc';rcases (hh2.blk b y1 hy1).2.2.2 x hx with ⟨b2,e1,e2,e3⟩|e1
  .have hne:b2≠c:=by rintro rfl;exact hcr (by rw[←hrl];exact List.mem_append_left _ e1)
   exact hφ.apart b2 c x e2 hc' hne e3 hx2
  .have:=(hφ.blk c y2 hy2).2.1.lt x hx2;omega
 refine hK ν' _ _ (hs.step hd (s':=s.app dst ⟨r2,touch,ed,news⟩) extc hbel ⟨λb=>if b∈rl then(match σ' b with|some b0=>φ1 b0|none=>[])else φ b,?_,?_⟩ rfl ?_)
 .intro b blk' hb;replace hb:aY ed s.heap b=some blk':=hb;by_cases e:b∈rl
  .rw[hhe1 b e]at hb;simp only[aM e];obtain⟨_,g2,g3,g4⟩:=hh2.blk b blk' hb;exact⟨hused b e,LN (h1:=iJ hl2) (u1:=yT n') (ν1:=qE σ' ν1) hhe1 hν1 hused e g2 (KZ htl (rW hb)).2,g3,λx hx=>hM2 x (g4 x hx)⟩
  .rw[hhe2 b e]at hb;simp only[aN e];obtain⟨g1,g2,g3,g4⟩:=hφ.blk b blk' hb;exact⟨extc.used b g1,g2.ext extc (hν2 b e) (λx hx=>hout b blk' x hb e hx),g3,g4⟩
 .intro b c x hb hc' hne hxb hxc;replace hb:aY ed s.heap b≠none:=hb;replace hc':aY ed s.heap c≠none:=hc';by_cases e1:b∈rl<;>by_cases e2:c∈rl
  .simp only[aM e1]at hxb;simp only[aM e2]at hxc;rw[hhe1 b e1]at hb;rw[hhe1 c e2]at hc';exact hh2.apart b c x hb hc' hne hxb hxc
  .simp only[aM e1]at hxb;simp only[aN e2]at hxc;rw[hhe1 b e1]at hb;rw[hhe2 c e2]at hc';exact hcross b c x hb hc' e2 hxb hxc
  .simp only[aN e1]at hxb;simp only[aM e2]at hxc;rw[hhe2 b e1]at hb;rw[hhe1 c e2]at hc';exact hcross c b x hc' hb e1 hxc hxb
  .simp only[aN e1]at hxb;simp only[aN e2]at hxc;rw[hhe2 b e1]at hb;rw[hhe2 c e2]at hc';exact hφ.apart b c x hb hc' hne hxb hxc
 .exact PA (h1:=iJ hl2) (u1:=yT n') (ν1:=qE σ' ν1) hhe1 hν1 hused (cv2.rep hrep hr) htr
def xT{r news}(hc:HasE P f ds hl kp r hl')(hf:ins fo=some (.fn f caps))(hx:Gh ins xs.toList=some avs)(hav:All2 (rK σ kp) (avs++caps) ds)(hh:rL σ kp hp hl)(hi:DX σ hl=true)(hit:Bh σ touch hl=true)(hlive:(touch.all λb=>(hp b).isSome)=true)(hh':rL σ' n' (iJ hl') hl2)(hi':DX σ' hl2=true)(hr:rK σ' n' r r2)(hbk:FV σ σ' kp news hl2=true)(htl:My (touch++news) hl2)(htr:Oy (touch++news) r2=true)(he:zV (touch++news) hl2=ed):AEff P ⟨dst,.call ⟨.value fo,xs,ats⟩,ty,pos,aft,g⟩ ins hp κ ⟨r2,touch,ed,news⟩:=
 PB hc hf hx (λ_ _ _ _ _ _ _ _ h=>h) hav hh hi hit hlive hh' hi' hr hbk htl htr he
end
structure SOps(P:Program)(ops:Array Oper)(nt:Nat)(l:List Oper)(s:AState)(K:AState->Prop):Prop where
 out:∀(C:Ctx),C.nt=nt->∀(ν:Nu)(a:Act)(w:World),Sim C s ν a w->∀(n:Nat)(Q:Exit->Act->World->Prop),(∀s' ν' a' w',K s'->Sim C s' ν' a' w'->Q .normal a' w')->wpListIn (fw C.rd) n P ops Q l a w
section
variable {P:Program}{ops:Array Oper}{nt:Nat}{l:List Oper}{s:AState}{K:AState->Prop}
def YM(h:K s):SOps P ops nt [] s K:=⟨λC hC ν a w hs n Q hQ=>hQ s ν a w h hs⟩
def qP{t}(e:Ent s t)(h:SOps P ops nt l t K):SOps P ops nt l s K:=⟨λC hC ν a w hs n Q hQ=>by
 obtain⟨ν',hs'⟩:=e C ν a w hs
 exact h.out C hC ν' a w hs' n Q hQ⟩
def Rt{op}{ty:TypeId}{pos aft e}(he:AEff P ⟨d,op,ty,pos,aft,g⟩ s.ev s.heap s.kp e)(hd:Io ⟨d,op,ty,pos,aft,g⟩ nt=true)(hg:oF ops s.env ⟨d,op,ty,pos,aft,g⟩=some true)(hn:(e.news.all λb=> !s.used b)=true)(h:SOps P ops nt l (s.app d e) K):SOps P ops nt (⟨d,op,ty,pos,aft,g⟩::l) s K:=⟨λC hC ν a w hs n Q hQ=>by
 subst hC;refine wpListIn_step λK' hK'=>?_;have hst:Pv P ops C.nt ⟨d,op,ty,pos,aft,g⟩ s e:=⟨MK hd,.inl ⟨hg,he,λb hb=>by have:=List.all_eq_true.1 hn b hb;simpa using this⟩⟩
 exact Fx hst hs λν' a' w' hs'=>hK' _ _ (h.out C rfl ν' a' w' hs' n Q hQ)⟩
def Tt{Q}{id:Nat}(h:SOps P l.toArray nt l s (Q .normal)):AC P nt (.region id l.toArray false) s Q:=by
 refine⟨λC hC ν a w hs n=>?_⟩;exact wpIn_region_lit (h.out C hC ν a w hs n _ λs' ν' a' w' hq hs'=>⟨s',ν',hq,hs'⟩)
end
def df1:AV->Bool
 | .sc _=>true
 | .nil _=>true
 | .dead=>true
 | .own _ _ _=>true
 | .ptr _ _ _=>true
 |_=>false
def Zt:AV->Bool
 | .abs _ _=>true
 | .fn _ cs=>cs.all df1
 |x=>df1 x
def dfB:AV->Bool
 | .agg cs=>cs.all df1
 |x=>df1 x
def dfA:AV->Bool
 | .tuple cs=>cs.all dfB
 |x=>dfB x
section
variable {w w':World}{h h':Hp}{u u':Us}{ν ν':Nu}(U:∀b,u b=true->u' b=true)(O:∀b blk',u b=true->h' b=some blk'->∃blk,h b=some blk/\blk.k=blk'.k/\blk.es.length=blk'.es.length/\ν' b=ν b)
include U O
def QG:∀{x v},Rep1 w h u ν x v->df1 x=true->Rep1 w' h' u' ν' x v:=by
 intro x v r t;cases x<;>simp only[df1,fK]at t<;>simp only[Rep1]at r ⊢
 .exact r
 .exact r
 .refine⟨U _ r.1,λblk hb=>?_⟩;obtain⟨blk0,e1,e2,e3,e4⟩:=O _ blk r.1 hb;have:=r.2 blk0 e1;rw[e4,←e3,←e2];exact this
 .refine⟨U _ r.1,λblk hb=>?_⟩;obtain⟨blk0,e1,e2,e3,e4⟩:=O _ blk r.1 hb;have:=r.2 blk0 e1;rw[e4,←e2];exact this
end
section
variable {w w':World}{h h':Hp}{u u':Us}{ν ν':Nu}(U:∀b,u b=true->u' b=true)(O:∀b blk',u b=true->h' b=some blk'->∃blk,h b=some blk/\blk.k=blk'.k/\blk.es.length=blk'.es.length/\ν' b=ν b)
include U O
def NA:∀{xs vs},All2 (Rep1 w h u ν) xs vs->xs.all df1=true->All2 (Rep1 w' h' u' ν') xs vs
 | [],vs,r,_=>r
 |x::xs,vs,⟨v,q,e,r,k⟩,t=>by
  simp only[List.all_cons,cB]at t;exact⟨v,q,e,QG U O r t.1,NA k t.2⟩
def VK{x}(r:RepB w h u ν x v)(t:dfB x=true):RepB w' h' u' ν' x v:=by
 cases x<;>simp only[RepB]at r ⊢ <;>first
  |exact QG U O r t
  |(obtain⟨vs,e,r⟩:=r;exact⟨vs,e,NA U O r t⟩)
  |(simp only[dfB,df1,fK]at t)
def aAE{x}(r:RepA w h u ν x v)(t:dfA x=true):RepA w' h' u' ν' x v:=by
 by_cases ht:∃cs,x= .tuple cs
 .obtain⟨cs,rfl⟩:=ht;obtain⟨vs,e,r⟩:=r;refine⟨vs,e,r.congrM λy hy d hd=>VK U O hd ?_⟩;exact List.all_eq_true.1 t y hy
 .have r':RepB w h u ν x v:=by cases x<;>first|exact r|exact absurd ⟨_,rfl⟩ ht
  have t':dfB x=true:=by cases x<;>first|exact t|exact absurd ⟨_,rfl⟩ ht
  have:=VK (w':=w') U O r' t';cases x<;>first|exact this|exact absurd ⟨_,rfl⟩ ht
def aAF{x}(hk:∀b∈S,w'.heap[b]? =w.heap[b]?)(r:CellRep w h u ν x v S)(t:Zt x=true):CellRep w' h' u' ν' x v S:=by
 cases x<;>simp only[CellRep]at r ⊢ <;>first
  |exact⟨QG U O r.1 t,r.2⟩
  |(obtain⟨⟨vs,e,q⟩,q2⟩:=r;exact⟨⟨vs,e,NA U O q t⟩,q2⟩)
  |exact r.keep hk
  |exact r
def Ji:∀{xs vs S},(∀b∈S,w'.heap[b]? =w.heap[b]?)->CellsRep w h u ν xs vs S->(∀c∈xs,Zt c=true)->CellsRep w' h' u' ν' xs vs S
 | [],_,_,_,r,_=>r
 |x::xs,vs,S,hk,⟨v,q,S1,S2,e1,e2,r,k⟩,t=>by
  subst e2;exact⟨v,q,S1,S2,e1,rfl,aAF U O (λb hb=>hk b (by simp[hb])) r (t x (by simp)),Ji (λb hb=>hk b (by simp[hb])) k (λc hc=>t c (by simp[hc]))⟩
def Wd(hν:ν' b=ν b)(hk:∀x∈S,w'.heap[x]? =w.heap[x]?)(r:BlkOk w h u ν b blk S)(t:∀cs∈blk.es,∀c∈cs,Zt c=true):BlkOk w' h' u' ν' b blk S:=by
 refine⟨r.1,?_⟩;rcases r.2 with ⟨q1,q2,q3⟩|⟨β,c,arr,ty,T,vs,q1,q2,q3,q4,q5,q6,q7,q8⟩
 .exact .inl ⟨hν.trans q1,q2,q3⟩
 .subst q6;refine .inr ⟨β,c,arr,ty,T,vs,hν.trans q1,(hk β (by simp)).trans q2,q3,q4,q5,rfl,q7,Ji U O (λx hx=>hk x (by simp[hx])) q8 λc hc=>?_⟩;obtain⟨cs,hcs,hc⟩:=List.mem_flatten.1 hc;exact t cs hcs c hc
end
def Ru:∀{cs vs S},RepOV w cs vs S->CellsRep w h u ν (cs.map zP) vs S
 | [],vs,S,r=>by simp only[RepOV]at r;exact r
 |c::cs,vs,S,r=>by
  simp only[RepOV]at r;obtain⟨v,q,S1,S2,e1,e2,_,h3,h4⟩:=r;refine⟨v,q,S1,S2,e1,e2,?_,Ru h4⟩;cases c with
  |sc x=>simp only[RepO]at h3;exact⟨⟨h3.1,h3.2.1⟩,h3.2.2⟩
  |list k es=>exact h3
  |_=>simp only[RepO]at h3
def Tu{k}(h:∀cs∈es,cs.length=k):∀cs∈dZ es,cs.length=k:=by
 intro cs hcs;unfold dZ at hcs;obtain⟨d,hd,rfl⟩:=List.mem_map.1 hcs;rw[eD];exact h d hd
def NC(es):(dZ es).flatten=es.flatten.map zP:=by
 unfold dZ;rw[List.map_flatten]
def YN(hT:s.kp.T=true)(hb:s.heap b=some blk)(hi:blk.es[i]? =some cs)(hj:cs[j]? =some (.abs k' es'))(hc:s.used c=false)(hdf:∀t x,s.env t=some x->dfA x=true)(hdc:∀b blk,s.heap b=some blk->∀cs∈blk.es,∀c∈cs,Zt c=true):Ent s ⟨s.env,aY [(c,some ⟨k',dZ es'⟩),(b,some ⟨blk.k,blk.es.set i (cs.take j++[.own c 0 es'.length]++cs.drop (j+1))⟩)] s.heap,gS [c] s.used,s.ns,s.kp⟩:=by
 intro C ν a w hs;obtain⟨φ,hh⟩:=hs.heap;obtain⟨hub,⟨hk1,hx1⟩,hnd1,hB1⟩:=hh.blk b blk hb;have hne:b≠c:=by rintro rfl;rw[hub]at hc;cases hc
 have hcn:s.heap c=none:=hs.unused hc;have hcs:=hk1 cs (List.mem_of_getElem? hi)
 have hjl:j<cs.length:=by
  rcases eG j cs.length with h'|h'
  .exact h'
  .rw[iM h']at hj;cases hj
 rcases hx1 with ⟨q1,q2,_⟩|⟨β,cap,arr,ty,T,vs,q1,q2,q3,q4,q5,q6,q7,q8⟩
 .rw[q2]at hi;simp at hi
 have hdrop:blk.es.flatten.drop (i*blk.k+j)= .abs k' es'::blk.es.flatten.drop (i*blk.k+j+1):=by
  obtain⟨r,hr⟩:=Az hk1 hi;have h1:blk.es.flatten.drop (i*blk.k+j)=(cs++r).drop j:=by rw[←hr,List.drop_drop]
  have h2:blk.es.flatten.drop (i*blk.k+j+1)=(cs++r).drop (j+1):=by rw[←hr,List.drop_drop,Nat.add_assoc]
  rw[h1,h2,List.drop_append_of_le_length (by omega),List.drop_append_of_le_length (by omega),List.drop_eq_getElem_cons hjl];have:cs[j]= .abs k' es':=by simpa [hjl]using hj
  rw[this];rfl
 have hfl:blk.es.flatten=blk.es.flatten.take (i*blk.k+j)++([.abs k' es']++blk.es.flatten.drop (i*blk.k+j+1)):=by
  rw[List.singleton_append,←hdrop,List.take_append_drop]
 rw[hfl]at q8;obtain⟨v1,v2,S1,S2,e1,e2,e3,e4,e5⟩:=q8.append_inv;obtain⟨v3,v4,S3,S4,f1,f2,f3,f4,f5⟩:=e5.append_inv;subst f1 f2;obtain⟨v,r0,S5,S6,rfl,rfl,g1,⟨rfl,rfl⟩⟩:=f4;simp only[CellRep]at g1;rw[List.append_nil]at e2;have hφ:φ b=β::(S1++(S5++S4)):=by rw[q6,e2]
 obtain⟨νc,hνc⟩:∃νc:Option (Nat×Nat),(∀(h:Hp)(u:Us)(ν':Nu),ν' c=νc->BlkOk w h u ν' c ⟨k',dZ es'⟩ S5)/\(νc=none->v= .slice none 0 0)/\(∀β' cap',νc=some (β',cap')->ownV β' 0 k' es'.length cap' v/\β'∈S5):=by
  simp only[RepO]at g1;rcases g1 with ⟨rfl,rfl,rfl⟩|⟨β',cap',arr',ty',T',vs',p1,p2,p3,p4,p5,p6,rfl,p8,p9⟩
  .exact⟨none,λh u ν' hν=>⟨by simp[dZ],.inl ⟨hν,rfl,rfl⟩⟩,λ_=>rfl,λ_ _ e=>by cases e⟩
  .have hl:(dZ es').length=es'.length:=by simp[dZ]
   refine⟨some (β',cap'),λh u ν' hν=>⟨Tu p6,.inr ⟨β',cap',arr',ty',T',vs',hν,p2,p3,by show(dZ es').length <=cap';omega,p5,rfl,by show arr'.toList.take ((dZ es').length *k')=vs';rw[hl];exact p8,?_⟩⟩,λe=>by(cases e),λx y e=>?_⟩
   .show CellsRep w h u ν' (dZ es').flatten vs' T';rw[NC];exact Ru (EA.1 p9)
   .cases e;rw[p1];exact⟨KR,by simp⟩
 obtain⟨hB,hn0,hn1⟩:=hνc;let ν':Nu:=⟨λx=>if x=c then νc else ν x,ν.ok⟩;have hν1:ν' c=νc:=aM rfl;have hν2:∀x,x≠c->ν' x=ν x:=λx hx=>aN hx;have hl1:aY [(c,some ⟨k',dZ es'⟩),(b,some ⟨blk.k,blk.es.set i (cs.take j++[.own c 0 es'.length]++cs.drop (j+1))⟩)] s.heap c=some ⟨k',dZ es'⟩:=by simp[aY]
 have hl2:aY [(c,some ⟨k',dZ es'⟩),(b,some ⟨blk.k,blk.es.set i (cs.take j++[.own c 0 es'.length]++cs.drop (j+1))⟩)] s.heap b=some ⟨blk.k,blk.es.set i (cs.take j++[.own c 0 es'.length]++cs.drop (j+1))⟩:=by simp[aY,bW hne]
 have hl3:∀x,x≠c->x≠b->aY [(c,some ⟨k',dZ es'⟩),(b,some ⟨blk.k,blk.es.set i (cs.take j++[.own c 0 es'.length]++cs.drop (j+1))⟩)] s.heap x=s.heap x:=λx h1 h2=>by simp[aY,bW h1,bW h2]
 generalize hH:aY [(c,some ⟨k',dZ es'⟩),(b,some ⟨blk.k,blk.es.set i (cs.take j++[.own c 0 es'.length]++cs.drop (j+1))⟩)] s.heap=H at*;have U:∀x,s.used x=true->gS [c] s.used x=true:=λx hx=>by rw[lI,hx,Bool.or_true]
 have O:∀x blk',s.used x=true->H x=some blk'->∃y,s.heap x=some y/\y.k=blk'.k/\y.es.length=blk'.es.length/\ν' x=ν x:=by
  intro x blk' hu hx;have hxc:x≠c:=by rintro rfl;rw[hu]at hc;cases hc
  by_cases e:x=b
  .subst e;rw[hl2]at hx;cases hx;exact⟨blk,hb,rfl,by simp,hν2 _ hxc⟩
  .rw[hl3 x hxc e]at hx;exact⟨blk',hx,rfl,rfl,hν2 _ hxc⟩
 have hfl2:∀d∈blk.es.flatten,Zt d=true:=by
  intro d hd;obtain⟨ds,h1,h2⟩:=List.mem_flatten.1 hd;exact hdc b blk hb ds h1 d h2
 refine⟨ν',hs.below,hs.base,hs.fresh,hs.defers,hs.size,λt x hx=>by obtain⟨v,h1,h2⟩:=hs.env t x hx;exact⟨v,h1,aAE U O h2 (hdf t x hx)⟩,⟨λx=>if x=c then S5 else if x=b then β::(S1++S4)else φ x,?_,?_⟩,hs.kp,?_,hs.szE,hs.okM,hs.okF⟩
 .intro x blk2 hx;replace hx:H x=some blk2:=hx;have hnd:=hnd1;rw[hφ]at hnd;have n1:=List.nodup_cons.1 hnd;have n2:=List.nodup_append.1 n1.2;have n3:=List.nodup_append.1 n2.2.1;by_cases e:x=c
  .subst e;rw[hl1]at hx;cases hx;simp only[if_true];refine⟨by rw[lI];simp,hB _ _ _ hν1,n3.1,λy hy=>hB1 y (by rw[hφ];simp[hy])⟩
  .by_cases e0:x=b
   .subst e0;rw[hl2]at hx;cases hx;simp only[aN e,if_true];refine⟨U _ hub,⟨?_,.inr ⟨β,cap,arr,ty,S1++S4,vs,(hν2 _ e).trans q1,q2,q3,by simpa using q4,q5,rfl,by simpa using q7,?_⟩⟩,?_,?_⟩
    .intro d hd;rcases List.mem_or_eq_of_mem_set hd with h|h
     .exact hk1 d h
     .rw[h];simp;omega
    .rw[AK (n:=1) hk1 hi rfl (by omega),e1]
     have m1:CellsRep w H (gS [c] s.used) ν' [.own c 0 es'.length] [v] []:=by
      refine⟨v,[],[],[],rfl,rfl,⟨⟨by rw[lI];simp,λblk3 h3=>?_⟩,rfl⟩,rfl,rfl⟩;rw[hl1]at h3;cases h3;refine⟨by simp[dZ],λh4=>hn0 (hν1.symm.trans h4),λβ' c' h4=>(hn1 β' c' (hν1.symm.trans h4)).1⟩
     have m2:=(Ji (w':=w) (h':=H) (u':=gS [c] s.used) (ν':=ν') U O (λ_ _=>rfl) e4 (λd hd=>hfl2 d (List.mem_of_mem_take hd))).append (m1.append (Ji (w':=w) (h':=H) (u':=gS [c] s.used) (ν':=ν') U O (λ_ _=>rfl) f5 (λd hd=>hfl2 d (List.mem_of_mem_drop hd))));rw[List.append_assoc (List.take (i*blk.k+j) blk.es.flatten)];simpa using m2
    .refine List.nodup_cons.2 ⟨λhm=>n1.1 ?_,List.nodup_append.2 ⟨n2.1,n3.2.1,λy hy z hz=>n2.2.2 y hy z (by simp[hz])⟩⟩;rcases eY.1 hm with h|h<;>simp[h]
    .intro y hy;refine hB1 y ?_;rw[hφ];rcases dR.1 hy with rfl|h
     .simp
     .rcases eY.1 h with h|h<;>simp[h]
   .rw[hl3 x e e0]at hx;simp only[aN e,aN e0];obtain⟨p1,p2,p3,p4⟩:=hh.blk x blk2 hx;exact⟨U _ p1,Wd U O (hν2 _ e) (λ_ _=>rfl) p2 (hdc x blk2 hx),p3,p4⟩
 .have hnd:=hnd1;rw[hφ]at hnd;have n1:=List.nodup_cons.1 hnd;have n2:=List.nodup_append.1 n1.2;have n3:=List.nodup_append.1 n2.2.1;have hbn:s.heap b≠none:=by rw[hb];simp
  have hS5:∀y,y∈S5->y∈φ b:=λy hy=>by rw[hφ];simp[hy]
  have hSb:∀y,y∈β::(S1++S4)->y∈φ b:=λy hy=>by
   rw[hφ];rcases dR.1 hy with rfl|h
   .simp
   .rcases eY.1 h with h|h<;>simp[h]
  have hcb:∀y,y∈S5->y ∉ β::(S1++S4):=by
   intro y h5 hy;rcases dR.1 hy with rfl|h
   .exact n1.1 (by simp[h5])
   .rcases eY.1 h with h|h
    .exact n2.2.2 y h y (by simp[h5]) rfl
    .exact n3.2.2 y h5 y h rfl
  intro x1 x2 y hx1 hx2 hne2 hy1 hy2;replace hx1:H x1≠none:=hx1;replace hx2:H x2≠none:=hx2;replace hy1:y∈(if x1=c then S5 else if x1=b then β::(S1++S4)else φ x1):=hy1;replace hy2:y∈(if x2=c then S5 else if x2=b then β::(S1++S4)else φ x2):=hy2;by_cases a1:x1=c<;>by_cases a2:x2=c
  .exact hne2 (a1.trans a2.symm)
  .rw[aM a1]at hy1;rw[aN a2]at hy2;by_cases b2:x2=b
   .rw[aM b2]at hy2;exact hcb y hy1 hy2
   .rw[aN b2]at hy2;rw[hl3 x2 a2 b2]at hx2;exact hh.apart b x2 y hbn hx2 (Ne.symm b2) (hS5 y hy1) hy2
  .rw[aN a1]at hy1;rw[aM a2]at hy2;by_cases b1:x1=b
   .rw[aM b1]at hy1;exact hcb y hy2 hy1
   .rw[aN b1]at hy1;rw[hl3 x1 a1 b1]at hx1;exact hh.apart b x1 y hbn hx1 (Ne.symm b1) (hS5 y hy2) hy1
  .rw[aN a1]at hy1;rw[aN a2]at hy2;by_cases b1:x1=b<;>by_cases b2:x2=b
   .exact hne2 (b1.trans b2.symm)
   .rw[aM b1]at hy1;rw[aN b2]at hy2;rw[hl3 x2 a2 b2]at hx2;exact hh.apart b x2 y hbn hx2 (Ne.symm b2) (hSb y hy1) hy2
   .rw[aN b1]at hy1;rw[aM b2]at hy2;rw[hl3 x1 a1 b1]at hx1;exact hh.apart b x1 y hbn hx1 (Ne.symm b1) (hSb y hy2) hy1
   .rw[aN b1]at hy1;rw[aN b2]at hy2;rw[hl3 x1 a1 b1]at hx1;rw[hl3 x2 a2 b2]at hx2;exact hh.apart x1 x2 y hx1 hx2 hne2 hy1 hy2
 .refine⟨λx hx=>U x (hs.ext.used x hx),λx blk' hx hl'=>?_,λx hx hF=>?_,hs.ext.okE⟩
  .obtain⟨y,g1,g2,g3,g4⟩:=O x blk' (hs.ext.used x hx) hl';obtain⟨z,k1,k2,k3,k4⟩:=hs.ext.old x y hx g1;exact⟨z,k1,k2.trans g2,k3.trans g3,g4.trans k4⟩
  .obtain⟨g1,g2⟩:=hs.ext.free x hx hF;refine⟨g1,λb2 blk2 β2 c2 hb2 h2 e=>?_⟩;replace hb2:H b2=some blk2:=hb2;by_cases a1:b2=c
   .subst a1;rw[hν1]at h2;subst e;exact C.tm (by rw[←hs.kp];exact hT) β2 hx (hB1 β2 (by rw[hφ];simp[(hn1 _ _ h2).2])) hF
   .rw[hν2 _ a1]at h2;by_cases a2:b2=b
    .subst a2;exact g2 b2 blk β2 c2 hb h2 e
    .rw[hl3 b2 a1 a2]at hb2;exact g2 b2 blk2 β2 c2 hb2 h2 e
def Raw1(κ:Kp)(x d:AV):Prop:=∃W G v S,κ.fx=some (W,G)/\x= .sc v/\RepD W d v S/\∀b∈S,G b
def RawK(κ:Kp):AV->AV->Prop
 | .agg xs,.agg ds=>All2 (Raw1 κ) xs ds
 |x,d=>Raw1 κ x d
def Sim.stays{s a}(hs:Sim C s ν a w){κ}(hκ:s.kp=κ){G}(h:κ.fx=some (W,G))(hb:G b):w.heap[b]? =W.heap[b]? /\mU s.heap ν b:=by
 obtain⟨e1,e2⟩:=C.fxp (W,G) (by rw[←hs.kp,hκ];exact h);obtain⟨e3,e4⟩:=e2 b hb;obtain⟨e5,e6⟩:=hs.ext.free b e3 e4;rw[e1]at e5;exact⟨e5,e6,hs.okF (W,G) (by rw[←hs.kp,hκ];exact h) b hb⟩
def Raw1.rep{s a}(hs:Sim C s ν a w){κ}(hκ:s.kp=κ){x d}(r:Rep1 w h u ν' x v)(m:Raw1 κ x d):∃S',RepD w d v S':=by
 obtain⟨W,G,y,S,h1,rfl,h2,h3⟩:=m;rw[r.1];exact⟨S,h2.keep λb hm=>(hs.stays hκ h1 (h3 b hm)).1⟩
def RawK.rep{C:Ctx}{s:AState}{ν:Nu}{a:Act}{w:World}(hs:Sim C s ν a w){κ:Kp}(hκ:s.kp=κ){x d:AV}{v:Value}(r:RepA w s.heap s.used ν x v)(m:RawK κ x d):∃S',RepD w d v S':=by
 by_cases ho:∃xs ds,x= .agg xs/\d= .agg ds
 .obtain⟨xs,ds,rfl,rfl⟩:=ho;obtain⟨vs,rfl,r⟩:=r;obtain⟨S,h⟩:=BV (V:=Raw1 κ) (λx d v hr hm=>hm.rep hs hκ hr) r m;exact⟨S,by simp only[RepD];exact⟨vs,rfl,h⟩⟩
 .have m':Raw1 κ x d:=by
   cases x<;>first|exact m|(cases d<;>first|exact m|exact absurd ⟨_,_,rfl,rfl⟩ ho)
  obtain⟨W,G,y,S,h1,rfl,h2,h3⟩:=m';exact Raw1.rep (h:=s.heap) (u:=s.used) (ν':=ν) (x:=.sc y) hs hκ (show Rep1 w s.heap s.used ν (.sc y) v from r) ⟨W,G,y,S,h1,rfl,h2,h3⟩
def rd1:AV->Bool
 | .sc _=>true
 | .list _ _=>true
 | .ref _=>true
 |_=>false
def rdA:AV->Bool
 | .agg ds=>ds.all rd1
 |d=>rd1 d
def Raw1.rep1{s a}(hs:Sim C s ν a w){κ}(hκ:s.kp=κ){x d}(r:Rep1 w s.heap s.used ν x v)(m:Raw1 κ x d)(ok:rd1 d=true):Rep1 w s.heap s.used ν d v:=by
 obtain⟨W,G,y,S,h1,rfl,h2,h3⟩:=m;rw[r.1];have h4:=h2.keep λb hm=>(hs.stays hκ h1 (h3 b hm)).1;cases d<;>simp only[rd1,fK]at ok
 .simp only[RepD]at h4;exact⟨h4.1,h4.2.1⟩
 .exact⟨S,h4,λx hx=>(hs.stays hκ h1 (h3 x hx)).2⟩
 .exact⟨S,h4,λx hx=>(hs.stays hκ h1 (h3 x hx)).2⟩
def RawK.repA{s a}(hs:Sim C s ν a w){κ}(hκ:s.kp=κ){x d}(r:RepA w s.heap s.used ν x v)(m:RawK κ x d)(ok:rdA d=true):RepA w s.heap s.used ν d v:=by
 by_cases ho:∃xs ds,x= .agg xs/\d= .agg ds
 .obtain⟨xs,ds,rfl,rfl⟩:=ho;obtain⟨vs,rfl,r⟩:=r;refine⟨vs,rfl,?_⟩
  have key:∀{xs ds:bN}{vs:List Value},All2 (Rep1 w s.heap s.used ν) xs vs->All2 (Raw1 κ) xs ds->ds.all rd1=true->All2 (Rep1 w s.heap s.used ν) ds vs:=by
   intro xs;induction xs with
   |nil=>intro ds vs h1 h2 _;simp only[All2]at h1 h2;subst h1 h2;rfl
   |cons x xs ih=>
    rintro ds vs ⟨v,q,rfl,g1,g2⟩ ⟨d,r,rfl,k1,k2⟩ o;simp only[List.all_cons,cB]at o;exact⟨v,q,rfl,k1.rep1 hs hκ g1 o.1,ih g2 k2 o.2⟩
  exact key r m ok
 .have m':Raw1 κ x d:=by
   cases x<;>first|exact m|(cases d<;>first|exact m|exact absurd ⟨_,_,rfl,rfl⟩ ho)
  have ok':rd1 d=true:=by
   cases d<;>first|exact ok|skip
   obtain⟨W,G,y,S,h1,rfl,h2,h3⟩:=m';have e:RepA w s.heap s.used ν (.sc y) v:=r;exfalso;simp only[RepD]at h2;obtain⟨vs,rfl,_⟩:=h2;exact absurd e.2 (by simp[Value.oneCell'])
  have r1:Rep1 w s.heap s.used ν x v:=by
   obtain⟨W,G,y,S,h1,rfl,h2,h3⟩:=m';exact r
  have:=m'.rep1 hs hκ r1 ok';cases d<;>first|exact this|(simp only[rd1,fK]at ok')
def aEr(σ:Nat->Option Nat)(n:Nat)(κ:Kp)(x d:AV):Prop:=rK σ n x d∨(RawK κ x d/\rdA d=true/\rK σ n d d)
section
variable {P:Program}{dst:Option Tmp}{ty:TypeId}{pos:String}{aft:Array Edge}{g:Option (Nat×Bool)}{ins:Operand->Option AV}{hp:Hp}{κ:Kp}
def We{r news}(hc:HasE P f ds hl kp r hl')(hf:ins fo=some (.fn f caps))(hx:Gh ins xs.toList=some avs)(hav:All2 (aEr σ kp κ) (avs++caps) ds)(hh:rL σ kp hp hl)(hi:DX σ hl=true)(hit:Bh σ touch hl=true)(hlive:(touch.all λb=>(hp b).isSome)=true)(hh':rL σ' n' (iJ hl') hl2)(hi':DX σ' hl2=true)(hr:rK σ' n' r r2)(hbk:FV σ σ' kp news hl2=true)(htl:My (touch++news) hl2)(htr:Oy (touch++news) r2=true)(he:zV (touch++news) hl2=ed):AEff P ⟨dst,.call ⟨.value fo,xs,ats⟩,ty,pos,aft,g⟩ ins hp κ ⟨r2,touch,ed,news⟩:=by
 have key:∃av2,All2 (rK σ kp) av2 ds/\∀(C:Ctx)(s:AState)(ν:Nu)(a:Act)(w:World)(vs:List Value),s.kp=κ->Sim C s ν a w->All2 (RepA w s.heap s.used ν) (avs++caps) vs->All2 (RepA w s.heap s.used ν) av2 vs:=by
  clear hx;revert hav;generalize avs++caps=xs;clear hc;intro hav;induction xs generalizing ds with
  |nil=>simp only[All2]at hav;subst hav;exact⟨[],rfl,λ_ _ _ _ _ _ _ _ h=>h⟩
  |cons x xs ih=>
   obtain⟨d,r,rfl,h1,h2⟩:=hav;obtain⟨av2,g1,g2⟩:=ih h2;rcases h1 with h1|⟨k1,k2,k3⟩
   .refine⟨x::av2,⟨d,r,rfl,h1,g1⟩,λC s ν a w vs hκ hs hv=>?_⟩;obtain⟨v,q,rfl,e1,e2⟩:=hv;exact⟨v,q,rfl,e1,g2 C s ν a w q hκ hs e2⟩
   .refine⟨d::av2,⟨d,r,rfl,k3,g1⟩,λC s ν a w vs hκ hs hv=>?_⟩;obtain⟨v,q,rfl,e1,e2⟩:=hv;exact⟨v,q,rfl,k1.repA hs hκ e1 k2,g2 C s ν a w q hκ hs e2⟩
 obtain⟨av2,g1,g2⟩:=key;exact PB hc hf hx g2 g1 hh hi hit hlive hh' hi' hr hbk htl htr he
end
def vD(W:World):Option (World×(Nat->Prop)):=some (W,λx=>x<W.heap.size)
def wT{κ d}(h:κ.fx=vD W)(r:RepD W d v S):Raw1 κ (.sc v) d:=⟨W,_,v,S,h,rfl,r,r.lt⟩
def Dc{κ u}(h:κ.fx=vD W)(o:u.oneCell'=true):Raw1 κ (.sc u) (.sc u):=wT h (Ei o)
def YO{κ k}(h:κ.fx=vD W)(r:RepD W (.list k es) v S):RawK κ (.sc v) (.list k es):=wT h r
def Hl{κ}:RawK κ (.agg []) (.agg []):=rfl
def jX{κ x d xs}(a:Raw1 κ x d)(b:RawK κ (.agg xs) (.agg ds)):RawK κ (.agg (x::xs)) (.agg (d::ds)):=⟨d,ds,rfl,a,b⟩
def Bi(κ:Kp)(h:Hp)(x d:AV):Prop:=viewA h x d∨RawK κ x d
def Ex{κ}:All2 (Bi κ h) [] []:=rfl
def wZ{κ x d xs}(a:Bi κ h x d)(b:All2 (Bi κ h) xs ds):All2 (Bi κ h) (x::xs) (d::ds):=⟨d,ds,rfl,a,b⟩
def Iu{R}(hr:∀x d v,R x v->V x d->∃S',RepD w d v S'){xs}(r:All2 R xs vs)(m:All2 V xs ds):∃S',RepVs w ds vs S':=BV hr r m
section
variable {P:Program}{dst:Option Tmp}{ty:TypeId}{pos:String}{aft:Array Edge}{g:Option (Nat×Bool)}{ins:Operand->Option AV}{hp:Hp}{κ:Kp}
def PC{r x}(hf:ins fo=some (.fn f []))(hx:Gh ins xs.toList=some avs)(hc:HasC P f ds r)(hv1:All2 (Bi κ hp) avs ds)(hg:LL r)(hi:Tl ns r=(x,nb,ns'))(hfl:Rf x=true)(hn:ns.Nodup):AEff P ⟨dst,.call ⟨.value fo,xs,ats⟩,ty,pos,aft,g⟩ ins hp κ ⟨x,avs.flatMap (lK hp),vC nb,nb.map (·.1)⟩:=by
 refine⟨λC s ν a w Q K {hκ} hi' ht hnw hd hs hK=>?_⟩;have h1:=hs.ev ((hi' fo (by simp[Op.operands,Call.operands])).trans hf);simp only[RepA,RepB]at h1;obtain⟨cv,h1,h2⟩:=h1;simp only[All2]at h2;subst h2;obtain⟨φ,hh⟩:=hs.heap;have h3:=DZ hs (xs:=xs.toList) (λy hy=>hi' y (by simp[Op.operands,Call.operands];exact .inr (Array.mem_toList_iff.1 hy))) hx;have hv1':All2 (Bi κ s.heap) avs ds:=hv1.congrM λy hy d hd=>hd.elim (λhd=>.inl (hd.congr λb hb=>ht b (List.mem_flatMap.2 ⟨y,hy,hb⟩))) .inr;obtain⟨S1,e1⟩:=Iu (V:=Bi κ s.heap) (λx d v hr hv=>hv.elim (λhv=>viewA.rep hh hr hv) (λhv=>hv.rep hs hκ hr)) h3 hv1';have hcall:=hc.calls w (xs.map a.eval) S1 (by simpa using e1);unfold Oper.wp
 have hex:(execOp a.eval ⟨dst,.call ⟨.value fo,xs,ats⟩,ty,pos,aft,g⟩).run P w= .ok (.enter f (xs.map a.eval)) w:=by
  have:execOp a.eval ⟨dst,.call ⟨.value fo,xs,ats⟩,ty,pos,aft,g⟩=callFunc f (xs.map a.eval):=by
   simp[execOp,resolve,h1,Deferred.ofValue,invoke]
  rw[this];exact hc.enters _ _
 rw[hex];simp only[Oper.upon];refine hcall.mono λe w' ⟨v,S',he,hb,hr,hnew⟩=>?_;subst he;simp only;obtain⟨g1,X,Sf,g2,g3⟩:=Py (w:=w) hi hfl hr hg hnew.1 hn;have hnn:(nb.map (·.1)).Nodup:=by rw[g1]at hn;exact(List.nodup_append.1 hn).1
 obtain⟨ν',hs'⟩:=hs.call hd hb g2 hnew hnn (λb hb=>hnw b hb) g3 (touch:=avs.flatMap (lK hp));exact hK ν' _ _ hs'
end
section
variable {P:Program}{dst:Option Tmp}{ty:TypeId}{pos:String}{aft:Array Edge}{g:Option (Nat×Bool)}{s:AState}
def Hm{u}(hc:HasC P f ds (.sc u))(hx:Gh s.ev xs.toList=some avs)(hv1:All2 (Bi s.kp s.heap) avs ds):AEff P ⟨dst,.call ⟨.value (.func f),xs,ats⟩,ty,pos,aft,g⟩ s.ev s.heap s.kp ⟨.sc u,avs.flatMap (lK s.heap),[],[]⟩:=
 PC (ns:=[]) (nb:=[]) (r:=.sc u) (x:=.sc u) rfl hx hc hv1 trivial (MN [] u) rfl (by simp)
def Jj{r x}(hc:HasC P f ds r)(hx:Gh s.ev xs.toList=some avs)(hi:Tl s.ns r=(x,nb,ns'))(hfl:Rf x=true)(hn:tC s.ns=true)(hg:LL r)(hv1:All2 (Bi s.kp s.heap) avs ds):AEff P ⟨dst,.call ⟨.value (.func f),xs,ats⟩,ty,pos,aft,g⟩ s.ev s.heap s.kp ⟨x,avs.flatMap (lK s.heap),vC nb,nb.map (·.1)⟩:=
 PC rfl hx hc hv1 hg hi hfl (CN hn)
end
def Jk(w:World):bN->(bN->Prop)->Prop
 | [],K=>K []
 | .sc u::cs,K=>Jk w cs (λxs=>K (.sc u::xs))
 |d::cs,K=>∀v S,RepD w d v S->Jk w cs (λxs=>K (.sc v::xs))
def uF(w:World):bN->(bN->Prop)->Prop
 | [],K=>K []
 | .sc u::ds,K=>uF w ds (λxs=>K (.sc u::xs))
 | .agg cs::ds,K=>Jk w cs (λxs=>uF w ds (λys=>K (.agg xs::ys)))
 |d::ds,K=>∀v S,RepD w d v S->uF w ds (λxs=>K (.sc v::xs))
def xU{K}(h:K []):Jk w [] K:=h
def rZ{u K}(h:Jk w cs (λxs=>K (.sc u::xs))):Jk w (.sc u::cs) K:=h
def nW{k K}(h:∀v S,RepD w (.list k es) v S->Jk w cs (λxs=>K (.sc v::xs))):Jk w (.list k es::cs) K:=h
def FW{K}(h:K []):uF w [] K:=h
def QH{u K}(h:uF w cs (λxs=>K (.sc u::xs))):uF w (.sc u::cs) K:=h
def EG{xs K}(h:Jk w xs (λxs=>uF w cs (λys=>K (.agg xs::ys)))):uF w (.agg xs::cs) K:=h
def QI{k K}(h:∀v S,RepD w (.list k es) v S->uF w cs (λxs=>K (.sc v::xs))):uF w (.list k es::cs) K:=h
def VL:AV->Bool
 | .sc u=>u.oneCell'
 | .agg cs=>cs.all mH
 | .list _ _=>true
 |_=>false
def ND{d}(r:RepD w d v S)(ok:mH d=true):v.oneCell'=true:=by
 cases d<;>simp only[mH,fK]at ok<;>simp only[RepD]at r
 .rw[r.1];exact ok
 .obtain⟨a,c,rfl,_⟩:=r;rfl
def MP:∀{cs us S K},RepVs w cs us S->cs.all mH=true->Jk w cs K->∃xs,K xs/\∀(w':World)(h:Hp)(u:Us)(ν:Nu),All2 (Rep1 w' h u ν) xs us
 | [],us,S,K,r,_,k=>by simp only[RepVs]at r;obtain⟨rfl,_⟩:=r;exact⟨[],k,λ_ _ _ _=>rfl⟩
 |c::cs,us,S,K,r,ok,k=>by
  simp only[RepVs]at r;obtain⟨v,q,S1,S2,rfl,rfl,h3,h4⟩:=r;simp only[List.all_cons,cB]at ok
  have key:∀x,Jk w cs (λxs=>K (x::xs))->x= .sc v->∃xs,K xs/\∀(w':World)(h:Hp)(u:Us)(ν:Nu),All2 (Rep1 w' h u ν) xs (v::q):=by
   rintro x k1 rfl;obtain⟨xs,g1,g2⟩:=MP h4 ok.2 k1;exact⟨.sc v::xs,g1,λw' h u ν=>⟨v,q,rfl,⟨rfl,ND h3 ok.1⟩,g2 w' h u ν⟩⟩
  cases c<;>simp only[mH,fK,false_and]at ok
  .simp only[RepD]at h3;exact key _ k (by rw[h3.1])
  .exact key _ (k v S1 h3) rfl
def Kc:∀{ds vs S K},RepVs w ds vs S->ds.all VL=true->uF w ds K->∃xs,K xs/\xs.length=ds.length/\∀(h:Hp)(u:Us)(ν:Nu),All2 (RepA w h u ν) xs vs
 | [],vs,S,K,r,_,k=>by simp only[RepVs]at r;obtain⟨rfl,_⟩:=r;exact⟨[],k,rfl,λ_ _ _=>rfl⟩
 |d::ds,vs,S,K,r,ok,k=>by
  simp only[RepVs]at r;obtain⟨v,q,S1,S2,rfl,rfl,h3,h4⟩:=r;simp only[List.all_cons,cB]at ok
  have key:∀x,uF w ds (λxs=>K (x::xs))->(∀(h:Hp)(u:Us)(ν:Nu),RepA w h u ν x v)->∃xs,K xs/\xs.length=(d::ds).length/\∀(h:Hp)(u:Us)(ν:Nu),All2 (RepA w h u ν) xs (v::q):=by
   intro x k1 hx;obtain⟨xs,g1,g2,g3⟩:=Kc h4 ok.2 k1;exact⟨x::xs,g1,by simp[g2],λh u ν=>⟨v,q,rfl,hx h u ν,g3 h u ν⟩⟩
  cases d<;>simp only[VL,fK,false_and]at ok
  .simp only[RepD]at h3;exact key _ k λh u ν=>by simp only[RepA,RepB,Rep1];exact⟨h3.1,h3.2.1⟩
  .exact key _ (k v S1 h3) λh u ν=>(show Rep1 w h u ν (.sc v) v from ⟨rfl,ND h3 rfl⟩)
  .have h3':=h3;simp only[RepD]at h3';obtain⟨us,rfl,h5⟩:=h3';obtain⟨xs,g1,g2⟩:=MP h5 ok.1 k;exact key _ g1 λh u ν=>by simp only[RepA,RepB];exact⟨us,rfl,g2 w h u ν⟩
def Jl{P}(hT:TyOk P T){c nt r}(hf:P.funcs[f]? =some fn)(hb:fn.body=some c)(hname:(fn.name== "runtime.NumGoroutine")=false)(hnt:fn.ntmps=nt)(hres:fn.results.toList=rvs)(hlen:Nat.ble ds.length nt=true)(hok:ds.all VL=true)(h:∀W:World,uF W ds λxs=>AC P nt c ⟨Gp xs,iJ [],yT 0,ns,⟨0,true,vD W,true⟩⟩ (FQ T rvs r)):HasC P f ds r:=by
 refine⟨Enters.mk hf (by rw[hb];rfl) hname,λw args S hargs=>?_⟩;refine(callsIn_wide (n:=0)).1 (callsIn_of_wp_marks (F:=fw none) hf hb trivial ?_);have hlen':=Nat.le_of_ble_eq_true hlen;have hal:args.size=ds.length:=by have:=hargs.len;simpa using this
 obtain⟨xs,hac,hxl,hxr⟩:=Kc hargs hok (h w);let C:Ctx:=⟨w.heap.size,w,nt,λx=>w.heap.size<=x,λ_ h=>h,⟨0,true,vD w,true⟩,w,iJ [],Nu.none,λx=>x<w.heap.size,λ_ x hx hm=>absurd hx (Nat.not_lt.2 hm),(λp h=>by cases h;exact⟨rfl,λx hx=>⟨hx,hx⟩⟩),none,λ_=>rfl⟩;have hfr:∀x,wS (iJ []) Nu.none x:=λx b blk β c hb=>by cases hb
 have hsim:Sim C ⟨Gp xs,iJ [],yT 0,ns,⟨0,true,vD w,true⟩⟩ Nu.none ⟨args++Array.replicate (fn.ntmps-args.size) undef,[]⟩ w:=by
  refine⟨Below.refl _ _,bG _,λ_ hx=>hx,yV,by show(args++Array.replicate (fn.ntmps-args.size) undef).size=nt;simp[hnt];omega,?_,⟨λ_=>[],λb blk hb=>(by cases hb),λb c x hb=>absurd rfl hb⟩,rfl,ExtF.refl λx _ _=>hfr x,bG _,λ_ _=>trivial,λ_ _ _ _=>trivial⟩;intro t x hx;have hx':xs[t]? =some x:=by rw[←Jf];exact hx
  obtain⟨v,h1,h2⟩:=(hxr (iJ []) (yT 0) Nu.none).get hx';refine⟨v,?_,h2⟩
  have hlt:t<args.size:=by
   rcases eG t args.size with h'|h'
   .exact h'
   .rw[iM (by simpa using h')]at h1;cases h1
  show(args++Array.replicate (fn.ntmps-args.size) undef)[t]? =some v;rw[Array.getElem?_append_left hlt];simpa using h1
 refine wpIn_mono (hac.out C rfl _ _ w hsim 0) λe a' w0 ⟨s',ν',hq,hs0⟩=>?_;obtain⟨Ds,d1,d2,d3⟩:=hs0.defers;obtain⟨w',hs',hleave⟩:=hs0.leave (P:=P) (n:=0) d1 d2 d3;obtain⟨he,avs,hv,hn,hfz⟩:=hq;obtain⟨us,h1,h2⟩:=Cs hT hs' hv;obtain⟨φ,hh⟩:=hs'.heap;have hn':=CN hn
 have hrun:(results fn a'.tmps).run P w'= .ok (if hh:us.toArray.size=1 then us.toArray[0]else .tuple us.toArray) w':=by
  unfold results;rw[Sem.run_bind,Array.mapM_eq_mapM_toList,Sem.run_map,hres];have h1':=h1;generalize hq:(List.mapM _ rvs:Sem (List Value))=m;rw[show Sem.run P m w'= .ok us w' by rw[←hq];exact h1'];simp
 have hres2:∃S',Mn w' r (if hh:us.toArray.size=1 then us.toArray[0]else .tuple us.toArray) S'/\New w.heap.size S':=by
  have hul:us.length=avs.length:=h2.len;unfold Mr at hfz;split at hfz
  .rename_i v r';obtain⟨u,q,rfl,g1,g2⟩:=h2;simp only[All2]at g2;subst g2;simp only[List.flatMap_cons,List.flatMap_nil,List.append_nil]at hn';obtain⟨S',a1,a2,a3,a4⟩:=Jc hh g1 hfz.1 hn';refine⟨S',?_,a2,a3⟩;simp only[List.size_toArray,List.length_cons,List.length_nil,Nat.zero_add,dite_true];have hnt:=hfz.2;cases r<;>first|exact a1|exact absurd rfl (hnt _)
  .rename_i vs rs _;obtain⟨S',a1,a2,a3,a4⟩:=Hf hh h2 hfz.2 hn';refine⟨S',?_,a2,a3⟩;rw[dif_neg (by simp;rw[hul];exact hfz.1)];exact⟨us,rfl,a1⟩
  .exact hfz.elim
 obtain⟨S',hr1,hr2⟩:=hres2;have hend:=hleave fn (λe w'=>∃v S',e= .returned v/\Below w.heap.size w w'/\Mn w' r v S'/\New w.heap.size S') ⟨_,hrun,_,S',rfl,hs'.below,hr1,hr2⟩;cases e<;>simp only[GS,fK]at he<;>exact hend
def dfE:List (Nat×AV)->Prop
 | []=>True
 |(_,x)::r=>dfA x=true/\dfE r
def Gt:∀{l},dfE l->∀t x,uD l t=some x->dfA x=true
 | [],_,t,x,h=>by cases h
 |(k,v)::r,⟨h1,h2⟩,t,x,h=>by
  simp only[uD]at h;cases hb:Nat.beq t k with
  |true=>rw[hb]at h;cases h;exact h1
  |false=>rw[hb]at h;exact Gt h2 t x h
def dfR(y:Blk):Prop:=∀cs∈y.es,∀c∈cs,Zt c=true
def dfH(skip:List Nat):List (Nat×Blk)->Prop
 | []=>True
 |(b,y)::r=>(b∈skip∨dfR y)/\dfH skip r
def Gu{skip}:∀{l},dfH skip l->∀b blk,iJ l b=some blk->b ∉ skip->∀cs∈blk.es,∀c∈cs,Zt c=true
 | [],_,b,x,h=>by cases h
 |(k,v)::r,⟨h1,h2⟩,b,x,h=>by
  simp only[iJ]at h;by_cases e:b=k
  .subst e;rw[bO]at h;cases h;intro hn;exact h1.elim (λh=>absurd h hn) id
  .rw[bW e]at h;exact Gu h2 b x h
def EOk.df{k}{e:α->bN}(E:EOk k e)(k')(l:List α):dfR ⟨k',l.map (ow e)⟩:=by
 intro cs hcs c hc;obtain⟨x,_,rfl⟩:=List.mem_map.1 hcs;obtain⟨d,hd,rfl⟩:=List.mem_map.1 hc;have:=E.mem x d hd;cases d<;>simp only[mH,fK]at this<;>rfl
def EOk.dfS{k}{e:α->bN}(E:EOk k e)(k')(l:List α)(i){c}(h:c.all Zt=true):dfR ⟨k',(l.map (ow e)).set i c⟩:=by
 intro cs hcs d hd;rcases List.mem_or_eq_of_mem_set hcs with h1|rfl
 .exact E.df k' l cs h1 d hd
 .exact List.all_eq_true.1 h d hd
def Bj{k}(h:(es.all λcs=>cs.all Zt)=true):dfR ⟨k,es⟩:=λcs hcs c hc=>List.all_eq_true.1 (List.all_eq_true.1 h cs hcs) c hc
def EH{e:α->bN}{l:List α}{v}(h:l[i]? =some v):l.map (ow e)=(l.map (ow e)).set i (ow e v):=by
 rw[←List.map_set];congr 1;refine List.ext_getElem? λj=>?_;rw[List.getElem?_set];by_cases e:i=j
 .subst e
  have:i<l.length:=by
   rcases eG i l.length with h'|h'
   .exact h'
   .rw[iM h']at h;cases h
  rw[aM rfl,aM this,h]
 .rw[aN e]
def CP{k}{e:α->bN}(E:EOk k e){l:List α}{c}(h:c.all vU=true):DW ((l.map (ow e)).set i c):=by
 intro cs hcs d hd;rcases List.mem_or_eq_of_mem_set hcs with h1|rfl
 .exact E.plainO l cs h1 d hd
 .exact List.all_eq_true.1 h d hd
def CQ{s k fs}(hi:i<A.length)(hT:s.kp.T=true)(hb:s.heap b=some ⟨k,A.set i cs⟩)(hj:cs[j]? =some (.abs k' es'))(hc:s.used c=false)(hn:es'.length=n)(hfs:dZ es'=fs)(hdf:∀t x,s.env t=some x->dfA x=true)(hdc:∀b blk,s.heap b=some blk->b ∉ ([]:List Nat)->∀cs∈blk.es,∀c∈cs,Zt c=true):Ent s ⟨s.env,aY [(c,some ⟨k',fs⟩),(b,some ⟨k,A.set i (Ew cs j [.own c 0 n])⟩)] s.heap,gS [c] s.used,s.ns,s.kp⟩:=by
 subst hn hfs
 have hjl:j<cs.length:=by
  rcases eG j cs.length with h'|h'
  .exact h'
  .rw[iM h']at hj;cases hj
 have h:=YN (c:=c) hT hb (i:=i) (cs:=cs) (by simp[hi]) hj hc hdf (λb blk hb=>hdc b blk hb (by simp));have e:=GB (cs:=cs) (j:=j) (vs:=[.own c 0 es'.length]) (by simp;omega);simp only[List.length_singleton]at e;rw[e]at h;simp only[List.set_set]at h;exact h
def YP{P dst}{ty:TypeId}{pos aft g}{s:AState}(hT:TyOk P T){val:AV}{kk}(hi:i<A.length)(hx:s.ev x=some (.ptr b i j))(hb:s.heap b=some ⟨kk,A.set i cs⟩)(hz:s.ev z=some val)(hy:dB T t=some y)(hsz:Nat.beq (cN val).length y.size=true)(ok:(cN val).all (okCell s.heap)=true)(hn:Nat.ble (j+y.size) cs.length=true):AEff P ⟨dst,.store t x z,ty,pos,aft,g⟩ s.ev s.heap s.kp ⟨.dead,b::dD (cN val),[(b,some ⟨kk,A.set i (Ew cs j (cN val))⟩)],[]⟩:=by
 have h:=Da (P:=P) hT (dst:=dst) (ty:=ty) (pos:=pos) (aft:=aft) (g:=g) hx hb hz hy hsz ok (i:=i) (cs:=cs) (by simp[hi]) hn;rw[List.set_set]at h;exact h
def aBu{k}{e:α->bN}{hp}{l:List α}(E:EOk k e)(hb:hp b=some ⟨k,l.map (ow e)⟩):xR hp (.own b i n)=some (k,((l.drop i).take n).map e,[b]):=by
 simp only[xR,hb,←List.map_drop,←List.map_take];rw[YG E]
section
variable {P:Program}{ops:Array Oper}{nt:Nat}{l:List Oper}{s:AState}{K:AState->Prop}
def vX{t u}(i)(hi:s.env i=some (.sc (.bool t)))(q:t=u)(h:SOps P ops nt l ⟨KS (some i) (.sc (.bool u)) s.env,s.heap,s.used,s.ns,s.kp⟩ K):SOps P ops nt l s K:=by
 subst q;rw[Rl hi]at h;exact h
def dV{op}{ty:TypeId}{pos aft g}(hg:oF ops s.env ⟨d,op,ty,pos,aft,g⟩=some false)(hd:Io ⟨d,op,ty,pos,aft,g⟩ nt=true)(h:SOps P ops nt l ⟨KS d (.tuple []) s.env,s.heap,s.used,s.ns,s.kp⟩ K):SOps P ops nt (⟨d,op,ty,pos,aft,g⟩::l) s K:=⟨λC hC ν a w hs n Q hQ=>by
 subst hC;refine wpListIn_step λK' hK'=>?_;have hst:Pv P ops C.nt ⟨d,op,ty,pos,aft,g⟩ s Ef:=⟨MK hd,.inr ⟨hg,rfl⟩⟩
 exact Fx hst hs λν' a' w' hs'=>hK' _ _ (h.out C rfl ν' a' w' hs' n Q hQ)⟩
end
end
end Go.Proofs.YthpgddekfghemaaGreat

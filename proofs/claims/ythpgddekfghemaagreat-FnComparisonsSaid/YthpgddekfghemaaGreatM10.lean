/- Several texts. -/
import Derived.Shelf.Bits.Mul64
import Derived.Test.YthpgddekfghemaaGreatM9
set_option linter.unusedVariables false
set_option linter.unusedSimpArgs false
set_option linter.defProp false
set_option maxRecDepth 10000
namespace Go.Proofs.YthpgddekfghemaaGreat
open Go.RowKit
variable{w:World}{h:Hp}{u:Us}{ν:Nu}{hp:Hp}{P:Program}{T:List (Nat×Ty)}{dst:Option Tmp}{dty:TypeId}{aft:Array Edge}{g:Option (Nat×Bool)}{s:AState}{xd:Operand}{et:Nat}{y:Ty}{ye:Ty}{b:Nat}{i:Nat}{nd:Nat}{sv:AV}{ts:List Nat}
section
def LQ:∀{x:aA}{vs S},CellsRep w h u ν (x.map (ow eI)).flatten vs S->vs=x.map (Value.int .i64)
 | [],vs,S,h=>h.1
 |z::x,vs,S,h=>by
  simp only[List.map_cons,List.flatten_cons]at h;obtain⟨v,r,S1,S2,rfl,rfl,h3,h4⟩:=h;have h5:v=Value.int .i64 z:=h3.1.1;rw[h5,LQ h4];rfl
def YV:∀{x:aA}{vs},All2 (Rep1 w h u ν) (x.map eI).flatten vs->vs=x.map (Value.int .i64)
 | [],vs,h=>h
 |z::x,vs,h=>by
  simp only[List.map_cons,List.flatten_cons]at h;obtain⟨v,r,rfl,h3,h4⟩:=h;have h5:v=Value.int .i64 z:=h3.1;rw[h5,YV h4];rfl
def LR:∀{x:aA},CellsRep w h u ν (x.map (ow eI)).flatten (x.map (Value.int .i64)) []
 | []=>⟨rfl,rfl⟩
 |z::x=>⟨_,_,[],[],rfl,rfl,⟨⟨rfl,rfl⟩,rfl⟩,LR⟩
def VM{x:aA}:(x.map eI).flatten.all (okCell hp)=true:=by
 rw[List.all_eq_true];intro c hc;obtain⟨cs,hcs,hc⟩:=List.mem_flatten.1 hc;obtain⟨z,_,rfl⟩:=List.mem_map.1 hcs;simp only[eI,List.mem_singleton]at hc;subst hc;rfl
def YW(hT:TyOk P T){pos:String}{xs t}{l m:aA}(hin:i<l.length)(hm:0<m.length)(hx:s.ev xd=some (.own b i nd))(hb:s.heap b=some ⟨1,l.map (ow eI)⟩)(hz:s.ev xs=some sv)(hsrc:xR s.heap sv=some (1,m.map eI,ts))(hy:dB T t=some y)(hd:y.desc= .slice et)(hye:dB T et=some ye)(hk1:ye.size=1):AEff P ⟨dst,.call ⟨.builtin .copy,#[xd,xs],#[t,t]⟩,dty,pos,aft,g⟩ s.ev s.heap s.kp ⟨.int (min m.length nd:Nat),b::ts,[(b,some ⟨1,(l.take i++m.take (min m.length nd)++l.drop (i+min m.length nd)).map (ow eI)⟩)],[]⟩:=by
 refine⟨λC s' ν a w Q K {hκ} hi' ht hnw hd' hs hK=>?_⟩;have h1:=hs.ev ((hi' xd (by simp[Op.operands,Call.operands])).trans hx);have h2:=hs.ev ((hi' xs (by simp[Op.operands,Call.operands])).trans hz);have hb':s'.heap b=some ⟨1,l.map (ow eI)⟩:=(ht b (by simp)).trans hb;obtain⟨ao,c0,vs,e1,e2,e3,e4,e5⟩:=hs.src h2 hsrc (λb hb=>ht b (by simp[hb])) VM;have hvs:=YV e4;simp only[RepA,RepB,Rep1]at h1;obtain⟨hfit,hnn,hsl⟩:=h1.2 _ hb';obtain⟨φ,hh⟩:=hs.heap;obtain⟨hub,⟨hk,hx2⟩,hnd,hB⟩:=hh.blk b _ hb';simp only[eD]at hfit;rcases hx2 with ⟨q1,q2,_⟩|⟨β,c,arr,ty',T',vs',q1,q2,q3,q4,q5,q6,q7,q8⟩
 .have:l=[]:=by simpa using q2
  rw[this]at hin;simp at hin
 simp only[eD,Nat.mul_one]at q3 q4 q7;have hT':=Iy q8;have hv':=LQ q8;subst hT';have hsl':=(hsl β c q1).pos (by omega);simp only[Nat.mul_one]at hsl';obtain⟨k,hk0⟩:∃k,k=min m.length nd:=⟨_,rfl⟩;rw[←hk0]at hK;have hkm:k<=m.length:=by omega
 have hkn:k<=nd:=by omega
 obtain⟨i1,z1,d1,y1⟩:=hT.is hy;obtain⟨i2,z2,d2,y2⟩:=hT.is hye
 obtain⟨ad,rfl,e6⟩:∃ad,ao=some ad/\∀j u,vs[j]? =some u->w.cell? (ad.add j)=some u:=by
  rcases e5 with h|h
  .rw[eD]at h;omega
  .exact h
 have hcl:((m.take k).map (Value.int .i64)).length=k:=by simp;omega
 have hrun:=run_copy_row (P:=P) w t t dty et β i nd (c-i) ad (m.map eI).length c0 arr ty' ((m.take k).map (Value.int .i64)) (y1.slice hd) (by rw[y2.info];simp[y2.size,hk1]) q2 (by rw[hcl,eD,hk0])
  (λj v hj=>e6 j v (by
   rw[hvs];have hjk:j<k:=by have:=(List.getElem?_eq_some_iff.1 hj).1;omega
   rw[List.map_take,List.getElem?_take_of_lt hjk]at hj
   exact hj)) (by omega) (λv hv=>by obtain⟨z,_,rfl⟩:=List.mem_map.1 hv;rfl)
 rw[hcl]at hrun;generalize hw':w.setRow β (arr.toList.take i++(m.take k).map (Value.int .i64)++arr.toList.drop (i+k)).toArray=w' at hrun
 have hexec:(execOp a.eval ⟨dst,.call ⟨.builtin .copy,#[xd,xs],#[t,t]⟩,dty,pos,aft,g⟩).run P w= .ok (.value (.int .i64 k)) w':=by
  have h0:execOp a.eval ⟨dst,.call ⟨.builtin .copy,#[xd,xs],#[t,t]⟩,dty,pos,aft,g⟩=(do let v ←Builtin.copy_ #[t,t] dty #[a.eval xd,a.eval xs];pure (.value v):Sem Next):=by
   simp[execOp,resolve,invoke,builtin]
  rw[h0,hsl',e1,Sem.run_bind,hrun];simp[goInt]
 unfold Oper.wp;rw[hexec];simp only[Oper.upon];have hothers:∀x,x≠β->w'.heap[x]? =w.heap[x]? :=λx hx=>by rw[←hw'];exact uC hx
 have hβ:w'.heap[β]? =some (.cells (arr.toList.take i++(m.take k).map (Value.int .i64)++arr.toList.drop (i+k)).toArray ty' (0,0)):=by rw[←hw'];exact setRow_heap w β arr _ ty' (0,0) q2
 have hll:(l.take i++m.take k++l.drop (i+k)).length=l.length:=by simp;omega
 have ext:Ext w s'.heap s'.used ν w' (aY [(b,some ⟨1,(l.take i++m.take k++l.drop (i+k)).map (ow eI)⟩)] s'.heap) s'.used ν:=by
  refine⟨λ_ h=>h,λb2 blk2 _ hb2=>?_,λx hx hf=>⟨hothers x (λe=>hf b _ β c hb' q1 e.symm),λb2 blk2 β2 c2 hb2 hν2=>?_⟩,rfl⟩
  .by_cases e:b2=b
   .subst e;simp only[aY,bO,aJ,Option.some.injEq]at hb2;subst hb2;exact⟨_,hb',rfl,by simp only[eD];exact hll.symm,rfl⟩
   .simp only[aY,bW e,aW]at hb2;exact⟨blk2,hb2,rfl,rfl,rfl⟩
  .by_cases e:b2=b
   .subst e;exact hf b2 _ β2 c2 hb' hν2
   .simp only[aY,bW e,aW]at hb2;exact hf b2 blk2 β2 c2 hb2 hν2
 refine hK ν _ _ (hs.step (x:=.int (k:Nat)) (v:=.int .i64 k) hd' (s':=s'.app dst _) (by exact ext) (by rw[←hw'];exact Bd (C.low _ (hB β (by rw[q6];simp)))) ⟨φ,?_,?_⟩ rfl (rV rfl))
 .intro x blk2 hx2;by_cases e:x=b
  .subst e;simp only[AState.app,aY,bO,aJ,Option.some.injEq]at hx2;subst hx2;refine⟨hub,⟨?_,.inr ⟨β,c,_,ty',[],_,q1,hβ,?_,by simp only[eD];omega,q5,q6,rfl,?_⟩⟩,hnd,hB⟩
   .intro cs hcs;obtain⟨z,_,rfl⟩:=List.mem_map.1 hcs;rfl
   .simp;omega
   .have harr:arr.toList.take l.length=l.map (Value.int .i64):=by rw[q7,hv']
    have h5:(arr.toList.take i++(m.take k).map (Value.int .i64)++arr.toList.drop (i+k)).toArray.toList.take ((l.take i++m.take k++l.drop (i+k)).map (ow eI)).length=(l.take i++m.take k++l.drop (i+k)).map (Value.int .i64):=by
     rw[eD,hll];simp only[List.map_append,List.map_take,List.map_drop,←harr];have hal:arr.toList.length=c:=by simpa using q3
     rw[List.take_append,List.take_append,List.take_take,List.take_take];simp only[List.length_append,List.length_take,eD,hal,List.take_drop];rw[show min i c=i by omega,show min (l.length-i) k=k by omega,show i+k+(l.length-(i+min k m.length))=l.length by omega,List.take_take];simp only[show min l.length i=i by omega,show min i l.length=i by omega]
    rw[Nat.mul_one,h5];exact LR
  .simp only[AState.app,aY,bW e,aW]at hx2;obtain⟨p1,p2,p3,p4⟩:=hh.blk x blk2 hx2;refine⟨p1,p2.ext ext rfl (λy hy=>hothers y ?_),p3,p4⟩;rintro rfl;exact hh.apart x b y (by rw[hx2];simp) (by rw[hb'];simp) e hy (by rw[q6];simp)
 .intro x1 x2 yy hx1 hx2 hne hy1 hy2
  have hlive:∀x,(s'.app dst ⟨.int (k:Nat),b::ts,[(b,some ⟨1,(l.take i++m.take k++l.drop (i+k)).map (ow eI)⟩)],[]⟩).heap x≠none->s'.heap x≠none:=by
   intro x hx;by_cases e:x=b
   .subst e;rw[hb'];simp
   .simpa only[AState.app,aY,bW e,aW]using hx
  exact hh.apart x1 x2 yy (hlive x1 hx1) (hlive x2 hx2) hne hy1 hy2
set_option maxHeartbeats 1000000 in
def aAL(x y:Nat)(hx:x<18446744073709551616)(hy:y<18446744073709551616)(w):Calls Tryz.prog 148 #[.int .u64 x,.int .u64 y] w λe w'=>e= .returned (.tuple #[.int .u64 ((x*y/18446744073709551616:Nat):Int),.int .u64 ((x*y%18446744073709551616:Nat):Int)])/\w'=w:=by
 obtain⟨bd,bt,bw,hhi⟩:=Lib.mul64_hi x y hx hy;have ba:=Lib.half_mul_le (a:=x/4294967296) (b:=y/4294967296) (by omega) (by omega);have bb:=Lib.half_mul_le (a:=x/4294967296) (b:=y%4294967296) (by omega) (by omega);have bc:=Lib.half_mul_le (a:=x%4294967296) (b:=y/4294967296) (by omega) (by omega);have ba':x/4294967296*(y/4294967296)<18446744073709551616:=by omega
 have bb':x/4294967296*(y%4294967296)<18446744073709551616:=by omega
 have bc':x%4294967296*(y/4294967296)<18446744073709551616:=by omega
 have bh1:x/4294967296*(y/4294967296)+(x/4294967296*(y%4294967296)+x%4294967296*(y%4294967296)/4294967296)/4294967296<18446744073709551616:=by omega
 have bh:x/4294967296*(y/4294967296)+(x/4294967296*(y%4294967296)+x%4294967296*(y%4294967296)/4294967296)/4294967296+((x/4294967296*(y%4294967296)+x%4294967296*(y%4294967296)/4294967296)%4294967296+x%4294967296*(y/4294967296))/4294967296<18446744073709551616:=by omega
 go_enter Tryz.func148,Tryz.ntmps148
 go_wp2
 simp only[Mul64.maskN x hx,Mul64.maskN y hy,Mul64.divN,Mul64.mulN,Mul64.addN,Mul64.wrapN _ bd,Mul64.wrapN _ bb',Mul64.wrapN _ bt,Mul64.maskN _ bt,Mul64.wrapN _ bc',Mul64.wrapN _ bw,Mul64.wrapN _ ba',Mul64.wrapN _ bh1,Mul64.wrapN _ bh,Mul64.wrapM (x*y)];rw[hhi]
 go_ret2
 exact⟨rfl,rfl⟩
set_option maxHeartbeats 1000000 in
def aDq(x y:Nat)(hx:x<18446744073709551616)(hy:y<18446744073709551616)(w):Calls Tryz.prog 100 #[.int .u64 x,.int .u64 y] w λe w'=>e= .returned (.tuple #[.int .u64 ((x*y/18446744073709551616:Nat):Int),.int .u64 ((x*y%18446744073709551616:Nat):Int)])/\w'=w:=by
 have c64:=aAL x y hx hy w
 go_enter Tryz.func100,Tryz.ntmps100
 go_wp2_with (go_at_call 148;refine c64.mono ?_;rintro e w' ⟨rfl,hw⟩;rw[hw])
 go_ret2
 exact⟨rfl,rfl⟩
def YX(x y:Nat)(hx:x<18446744073709551616)(hy:y<18446744073709551616)(hxy:x*y<18446744073709551616):HasC Tryz.prog 100 [.sc (.int .u64 x),.sc (.int .u64 y)] (.tuple [.sc (.int .u64 0),.sc (.int .u64 ((x*y:Nat):Int))]):=by
 refine⟨Enters.mk Tryz.func100 (by kernel_rfl) (by kernel_rfl),λw args S hargs=>?_⟩;obtain⟨args⟩:=args;simp only[RepVs]at hargs;obtain⟨v,r,S1,S2,h1,rfl,h3,v2,r2,S3,S4,h4,rfl,h6,rfl,rfl⟩:=hargs;simp only[RepD]at h3 h6;obtain⟨rfl,_,rfl⟩:=h3;obtain⟨rfl,_,rfl⟩:=h6;subst h4;subst h1;refine(aDq x y hx hy w).mono λe w' ⟨he,hw⟩=>?_;subst hw;refine⟨_,[],he,Below.refl _ _,⟨_,rfl,?_⟩,New.nil _⟩;have e1:x*y/18446744073709551616=0:=Nat.div_eq_of_lt hxy;have e2:x*y%18446744073709551616=x*y:=Nat.mod_eq_of_lt hxy;rw[e1,e2];exact⟨_,_,[],[],rfl,rfl,⟨rfl,rfl,rfl⟩,_,_,[],[],rfl,rfl,⟨rfl,rfl,rfl⟩,rfl,rfl⟩
def Hq(n:Nat)(hn:n<9223372036854775808)(w):(convert 3 102 (.int .i64 n)).run Tryz.prog w= .ok (.int .u64 n) w:=by
 have e:IntKind.u64.wrap (n:Int)=(n:Int):=by rw[IntKind.wrap_u64];omega
 simp[convert,go_sem,Tryz.underlying3,Tryz.underlying102,e]
def QN(n:Nat)(hn:n<9223372036854775808)(w):(convert 102 3 (.int .u64 n)).run Tryz.prog w= .ok (.int .i64 n) w:=by
 have e:IntKind.i64.wrap (n:Int)=(n:Int):=by rw[IntKind.wrap_i64];omega
 simp[convert,go_sem,Tryz.underlying3,Tryz.underlying102,e]
def YY(c)(n:Nat)(h0:0<n)(hn:n<=1048576):HasC Tryz.prog 135 [.list 1 ([c].map eI),.int n] (.list 1 ((List.replicate n c).map eI)):=by
 refine GA aH (ns:=[0,1,2,3,4,5,6,7]) Tryz.func135 rfl rfl Tryz.ntmps135 rfl rfl rfl ?_
 repeat (first|refine dY ?_|refine gU ?_|refine dF ?_|refine nT ?_|refine aO (cY rfl) rfl rfl rfl ?_|refine aO (dU rfl) rfl rfl rfl ?_|refine aO (Ct rfl rfl rfl) rfl rfl rfl ?_)
 refine tM rfl (λh=>?_) (λh=>?_)
 .simp at h;omega
 repeat (first|refine gU ?_|refine dF ?_|refine bC ?_|refine aO (cY rfl) rfl rfl rfl ?_|refine aO (CO aH rfl rfl rfl) rfl rfl rfl ?_)
 refine aO (nS (u:=.int .i64 ((1:Nat):Int)) rfl rfl (Hq 1 (by omega))) rfl rfl rfl ?_
 repeat (first|refine aO (cY rfl) rfl rfl rfl ?_)
 refine aO (nS (u:=.int .i64 (n:Int)) rfl rfl (Hq n (by omega))) rfl rfl rfl ?_;refine aO (Ad (YX 1 n (by omega) (by omega) (by omega)) rfl rfl rfl rfl (pK trivial (pK trivial GD)) (aI (Ek rfl) (aI (Ek rfl) aQ))) rfl rfl rfl ?_
 repeat (first|refine dY ?_|refine gU ?_|refine dF ?_|refine nT ?_|refine aO (cY rfl) rfl rfl rfl ?_|refine aO (dU rfl) rfl rfl rfl ?_|refine aO (Ct rfl rfl rfl) rfl rfl rfl ?_|refine aO (Bc rfl rfl) rfl rfl rfl ?_|refine aO (fP rfl rfl (by intro _ h;cases h)) rfl rfl rfl ?_)
 refine tM rfl (λh=>?_) (λh=>?_)
 .have:=of_decide_eq_true h;omega
 repeat (first|refine gU ?_|refine dF ?_|refine bC ?_|refine aO (cY rfl) rfl rfl rfl ?_)
 refine aO (nS (u:=.int .u64 ((1*n:Nat):Int)) rfl rfl (QN (1*n) (by omega))) rfl rfl rfl ?_;refine aO (AEff.conv (nU aH (n:=((1*n:Nat):Int)) (by simp;omega) rfl rfl rfl rfl rfl rfl rfl rfl) (v':=.own 0 0 n) (ed':=[(0,some ⟨1,(List.replicate n (0:Int)).map (ow eI)⟩)]) (by simp) (by rw[←Gs];simp only[fU,Nat.one_mul];rfl)) rfl rfl rfl ?_
 repeat (first|refine dY ?_|refine gU ?_|refine dF ?_|refine aO (cY rfl) rfl rfl rfl ?_|refine aO (dU rfl) rfl rfl rfl ?_)
 refine aO (AEff.conv (YW aH (i:=0) (l:=List.replicate n (0:Int)) (m:=[c]) (by simp;omega) (by simp) rfl rfl rfl rfl rfl rfl rfl rfl) (v':=.int ((1:Nat):Int)) (ed':=[(0,some ⟨1,(List.replicate 1 c++List.replicate (n-1) 0).map (ow eI)⟩)])
  (by rw[show min [c].length n=1 by simp;omega]) (by rw[show min [c].length n=1 by simp;omega];simp[List.drop_replicate])) rfl rfl rfl ?_
 repeat (first|refine dY ?_|refine gU ?_|refine bA ?_|refine aO (dU rfl) rfl rfl rfl ?_)
 refine HZ (ι:=Nat) (λk=>Mj [(7,.own 0 0 n),(8,.int k)] [(0,⟨1,(List.replicate k c++List.replicate (n-k) 0).map (ow eI)⟩)] 1 [1,2,3,4]) (λk=>1<=k/\k<=n) (λk=>n-k) 1 ⟨bG _,h0⟩ ?_ ?_
 .refine iU (σ:=sg [(0,0)]) ⟨⟨_,rfl,⟨rfl,rfl,rfl,rfl⟩⟩,⟨_,rfl,rfl⟩,trivial⟩ ⟨⟨_,rfl,rfl,.inl ⟨rfl,De _⟩⟩,rfl,trivial⟩ rfl
 .rintro k ⟨hk1,hkn⟩
  repeat (first|refine dY ?_|refine gU ?_|refine dF ?_|refine nT ?_|refine aO (cY rfl) rfl rfl rfl ?_|refine aO (Ct rfl rfl rfl) rfl rfl rfl ?_|refine aO (gV aH rfl rfl rfl rfl) rfl rfl rfl ?_)
  refine tM rfl (λh=>?_) (λh=>?_)
  .have hlt:k<n:=by have:=of_decide_eq_true h;omega
   clear h
   repeat (first|refine nT ?_|refine aG MIX ?_|refine bA ?_|refine bC ?_|refine aO (cY rfl) rfl rfl rfl ?_)
   refine aO (AEff.val (xV aH (l:=(k:Int)) (h:=(n:Int)) (by simp;omega) rfl rfl rfl rfl rfl rfl rfl rfl) (v':=.own 0 k (n-k)) (by simp)) rfl rfl rfl ?_
   repeat (first|refine aO (cY rfl) rfl rfl rfl ?_)
   refine aO (AEff.val (xV aH (l:=(0:Int)) (h:=(k:Int)) (by simp;omega) rfl rfl rfl rfl rfl rfl rfl rfl) (v':=.own 0 0 k) (by simp)) rfl rfl rfl ?_
   refine aO (AEff.conv (YW aH (i:=k) (nd:=n-k) (l:=List.replicate k c++List.replicate (n-k) 0) (m:=(((List.replicate k c++List.replicate (n-k) 0).drop 0).take k)) (by simp;omega) (by simp;omega) rfl rfl rfl (aBu cI rfl) rfl rfl rfl rfl) (v':=.int ((min k (n-k):Nat):Int)) (ed':=[(0,some ⟨1,(List.replicate (k+min k (n-k)) c++List.replicate (n-(k+min k (n-k))) 0).map (ow eI)⟩)])
    (by congr 3;simp) ?_) rfl rfl rfl ?_
   .have e1:(((List.replicate k c++List.replicate (n-k) 0).drop 0).take k)=List.replicate k c:=by simp
    rw[e1,List.length_replicate];congr 4;rw[List.take_left' (by simp),List.take_replicate,List.drop_append,List.drop_of_length_le (by simp),List.nil_append,List.drop_replicate,List.length_replicate,List.replicate_append_replicate,show min (min k (n-k)) k=min k (n-k) by omega,show n-k-(k+min k (n-k)-k)=n-(k+min k (n-k)) by omega]
   refine aO (dC rfl rfl) rfl rfl rfl ?_
   repeat (first|refine dY ?_|refine aO (dU rfl) rfl rfl rfl ?_)
   refine⟨by kernel_rfl,?_⟩
   repeat (first|refine nT ?_|refine aU ?_)
   refine⟨k+min k (n-k),⟨by omega,by omega⟩,by omega,?_⟩;refine iU (σ:=sg [(0,0)]) ⟨⟨_,rfl,⟨rfl,rfl,rfl,rfl⟩⟩,⟨_,rfl,?_⟩,trivial⟩ ⟨⟨_,rfl,rfl,.inl ⟨rfl,De _⟩⟩,rfl,trivial⟩ rfl;show Value.int .i64 (wr ((k:Int)+((min k (n-k):Nat):Int)))=_;rw[LM (by omega)];rfl
  .have hlt:k=n:=by have:=of_decide_eq_false h;omega
   subst hlt;clear h
   repeat (first|refine dY ?_|refine gU ?_|refine dF ?_|refine nT ?_|refine aS ?_|refine bS ?_|refine aO (cY rfl) rfl rfl rfl ?_|refine aO (dU rfl) rfl rfl rfl ?_)
   refine bD rfl rfl rfl ?_;have e1:(List.replicate k c++List.replicate (k-k) (0:Int))=List.replicate k c:=by simp
   refine lL (cS cI (l:=List.replicate k c) ?_ (by simp));show some (⟨1,(List.replicate k c++List.replicate (k-k) (0:Int)).map (ow eI)⟩:Blk)=some ⟨1,(List.replicate k c).map (ow eI)⟩;rw[e1]
end
end Go.Proofs.YthpgddekfghemaaGreat

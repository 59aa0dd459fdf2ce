/-
  Rules for walking: each operation's effect in the form in which a walk meets it. No program stands in this text.
-/
import Derived.Test.YtjfcjkeghigipaaA13
namespace Go.Proofs.Ytjfcjkeghigipaa
open Go.RowKit

abbrev AV.int (n : Int) : AV := .sc (.int .i64 n)
abbrev AV.bl (b : Bool) : AV := .sc (.bool b)
abbrev AV.str (b : ByteArray) : AV := .sc (.string b)

/-- Cells from j on anew. -/
def setR : List AV → Nat → List AV → List AV
  | [], _, _ => []
  | c :: cs, 0, [] => c :: cs
  | _ :: cs, 0, v :: vs => v :: setR cs 0 vs
  | c :: cs, j + 1, vs => c :: setR cs j vs

section
variable {P : Program} {T : List (Nat × Ty)} (hT : TyOk P T) {dst : Option Tmp} {ty : TypeId} {pos : String} {aft : Array Edge} {g : Option (Nat × Bool)} {s : AState}

/-! ## numbers -/
def cmpI : BinOp → Int → Int → Option Bool
  | .eql, a, b => some (decide (a = b))
  | .neq, a, b => some (!decide (a = b))
  | .lss, a, b => some (decide (a < b))
  | .leq, a, b => some (decide (a ≤ b))
  | .gtr, a, b => some (decide (b < a))
  | .geq, a, b => some (decide (b ≤ a))
  | _, _, _ => none
theorem w_cmp {op : BinOp} {t t' : TypeId} {x y : Operand} {k : IntKind} {a b : Int} {c : Bool} (hx : s.ev x = some (.sc (.int k a))) (hy : s.ev y = some (.sc (.int k b))) (hc : cmpI op a b = some c) : AEff P ⟨dst, .binOp op t x y t', ty, pos, aft, g⟩ s.ev s.heap ⟨.bl c, [], [], []⟩ :=
  eff_bin hx hy rfl fun w => by
    have e1 : decide (a = b) = (a == b) := by by_cases h : a = b <;> simp [h]
    cases op <;> simp only [cmpI] at hc <;> cases hc
    · rw [e1]; simp [eqGuard, binOp, Op.intCmp]
    · rw [e1]; simp [eqGuard, binOp, Op.intCmp]; rfl
    all_goals simp [eqGuard, binOp, Op.intCmp]
theorem w_add {t t' : TypeId} {x y : Operand} {a b : Int} (hx : s.ev x = some (.int a)) (hy : s.ev y = some (.int b)) (h : -9223372036854775808 ≤ a + b ∧ a + b ≤ 9223372036854775807) : AEff P ⟨dst, .binOp .add t x y t', ty, pos, aft, g⟩ s.ev s.heap ⟨.int (a + b), [], [], []⟩ :=
  eff_bin hx hy rfl fun w => by
    have e : IntKind.i64.wrap (a + b) = a + b := by rw [IntKind.wrap_i64]; omega
    simp [eqGuard, binOp, Op.intArith, e]
theorem w_sub {t t' : TypeId} {x y : Operand} {a b : Int} (hx : s.ev x = some (.int a)) (hy : s.ev y = some (.int b)) (h : -9223372036854775808 ≤ a - b ∧ a - b ≤ 9223372036854775807) : AEff P ⟨dst, .binOp .sub t x y t', ty, pos, aft, g⟩ s.ev s.heap ⟨.int (a - b), [], [], []⟩ :=
  eff_bin hx hy rfl fun w => by
    have e : IntKind.i64.wrap (a - b) = a - b := by rw [IntKind.wrap_i64]; omega
    simp [eqGuard, binOp, Op.intArith, e]
theorem w_mul {t t' : TypeId} {x y : Operand} {a b : Int} (hx : s.ev x = some (.int a)) (hy : s.ev y = some (.int b)) (h : -9223372036854775808 ≤ a * b ∧ a * b ≤ 9223372036854775807) : AEff P ⟨dst, .binOp .mul t x y t', ty, pos, aft, g⟩ s.ev s.heap ⟨.int (a * b), [], [], []⟩ :=
  eff_bin hx hy rfl fun w => by
    have e : IntKind.i64.wrap (a * b) = a * b := by rw [IntKind.wrap_i64]; omega
    simp [eqGuard, binOp, Op.intArith, e]
theorem w_rem {t t' : TypeId} {x y : Operand} {a b : Int} (hx : s.ev x = some (.int a)) (hy : s.ev y = some (.int b)) (h : b ≠ 0) : AEff P ⟨dst, .binOp .rem t x y t', ty, pos, aft, g⟩ s.ev s.heap ⟨.int (a.tmod b), [], [], []⟩ :=
  eff_bin hx hy rfl fun w => by simp [eqGuard, binOp, Op.intDiv, h]
theorem w_quo {t t' : TypeId} {x y : Operand} {a b : Int} (hx : s.ev x = some (.int a)) (hy : s.ev y = some (.int b)) (h : b ≠ 0) (hr : -9223372036854775808 ≤ a.tdiv b ∧ a.tdiv b ≤ 9223372036854775807) : AEff P ⟨dst, .binOp .quo t x y t', ty, pos, aft, g⟩ s.ev s.heap ⟨.int (a.tdiv b), [], [], []⟩ :=
  eff_bin hx hy rfl fun w => by
    have e : IntKind.i64.wrap (a.tdiv b) = a.tdiv b := by rw [IntKind.wrap_i64]; omega
    simp [eqGuard, binOp, Op.intDiv, h, e]
theorem w_not {t : TypeId} {x : Operand} {b : Bool} (hx : s.ev x = some (.bl b)) : AEff P ⟨dst, .unOp .not t x, ty, pos, aft, g⟩ s.ev s.heap ⟨.bl (!b), [], [], []⟩ :=
  eff_un hx rfl fun w => by simp [Op.unary]
theorem w_neg {t : TypeId} {x : Operand} {a : Int} (hx : s.ev x = some (.int a)) (h : -9223372036854775808 ≤ -a ∧ -a ≤ 9223372036854775807) : AEff P ⟨dst, .unOp .neg t x, ty, pos, aft, g⟩ s.ev s.heap ⟨.int (-a), [], [], []⟩ :=
  eff_un hx rfl fun w => by
    have e : IntKind.i64.wrap (-a) = -a := by rw [IntKind.wrap_i64]; omega
    simp [Op.unary, Op.intArith, e]

/-! ## places of a list or of a slice of the call's own -/
include hT
theorem w_at_list {x ix : Operand} {t e k : Nat} {y ye : Ty} {es : List (List AV)} {kk : IntKind} {i : Int} {cs : List AV} (hy : tyOf T t = some y) (hd : y.desc = .slice e) (hye : tyOf T e = some ye) (hk : ye.size = k)
    (hx : s.ev x = some (.list k es)) (hix : s.ev ix = some (.sc (.int kk i))) (h0 : 0 ≤ i) (hm : es[i.toNat]? = some cs) : AEff P ⟨dst, .indexAddr t x ix, ty, pos, aft, g⟩ s.ev s.heap ⟨.ref cs, [], [], []⟩ :=
  eff_indexAddr_list hT hy hd hye hk hx (by rw [hix, show ((i.toNat : Nat) : Int) = i by omega]) hm
theorem w_at_own {x ix : Operand} {t e : Nat} {y ye : Ty} {b i n : Nat} {blk : Blk} {kk : IntKind} {j : Int} (hy : tyOf T t = some y) (hd : y.desc = .slice e) (hye : tyOf T e = some ye) (hx : s.ev x = some (.own b i n)) (hb : s.heap b = some blk) (hk : ye.size = blk.k)
    (hix : s.ev ix = some (.sc (.int kk j))) (h0 : 0 ≤ j) (hm : j < n) : AEff P ⟨dst, .indexAddr t x ix, ty, pos, aft, g⟩ s.ev s.heap ⟨.ptr b (i + j.toNat) 0, [b], [], []⟩ :=
  eff_indexAddr_own hT hy hd hye hb hk hx (by rw [hix, show ((j.toNat : Nat) : Int) = j by omega]) (by omega)

theorem w_load_ptr {x : Operand} {t : Nat} {y : Ty} {b i j : Nat} {blk : Blk} {cs : List AV} {v : AV} (hx : s.ev x = some (.ptr b i j)) (hb : s.heap b = some blk) (hy : tyOf T t = some y) (h1 : (y.desc.isAgg || Nat.beq y.size 1) = true) (hi : blk.es[i]? = some cs) (hn : Nat.ble (j + y.size) cs.length = true)
    (hv : pack y.desc.isAgg (((cs.drop j).take y.size).map view) = v) :
    AEff P ⟨dst, .load t x, ty, pos, aft, g⟩ s.ev s.heap ⟨v, [b], [], []⟩ := hv ▸ eff_load_ptr hT hy h1 hx hb hi (Nat.le_of_ble_eq_true hn)
theorem w_load_ref {x : Operand} {t : Nat} {y : Ty} {cs : List AV} {v : AV} (hx : s.ev x = some (.ref cs)) (hy : tyOf T t = some y) (h1 : (y.desc.isAgg || Nat.beq y.size 1) = true) (hn : Nat.ble y.size cs.length = true) (hpl : (cs.take y.size).all plainD = true) (hv : pack y.desc.isAgg (cs.take y.size) = v) :
    AEff P ⟨dst, .load t x, ty, pos, aft, g⟩ s.ev s.heap ⟨v, [], [], []⟩ := hv ▸ eff_load_ref hT hy h1 hx (Nat.le_of_ble_eq_true hn) hpl
theorem w_field_ptr {x : Operand} {st f off ft : Nat} {b i j : Nat} {blk : Blk} {y yf : Ty} {fs : List (Nat × Nat)} (hx : s.ev x = some (.ptr b i j)) (hb : s.heap b = some blk) (hy : tyOf T st = some y) (hd : y.desc = .struct fs) (hf : fs[f]? = some (off, ft)) (hft : tyOf T ft = some yf) (hsz : Nat.beq yf.size 0 = false) :
    AEff P ⟨dst, .fieldAddr st x f, ty, pos, aft, g⟩ s.ev s.heap ⟨.ptr b i (j + off), [b], [], []⟩ := eff_fieldAddr_ptr hT hy hd hf hft (fun e => by rw [e] at hsz; cases hsz) hx hb
theorem w_field_ref {x : Operand} {st f off ft : Nat} {cs : List AV} {y yf : Ty} {fs : List (Nat × Nat)} (hx : s.ev x = some (.ref cs)) (hy : tyOf T st = some y) (hd : y.desc = .struct fs) (hf : fs[f]? = some (off, ft)) (hft : tyOf T ft = some yf) (hsz : Nat.beq yf.size 0 = false) :
    AEff P ⟨dst, .fieldAddr st x f, ty, pos, aft, g⟩ s.ev s.heap ⟨.ref (cs.drop off), [], [], []⟩ := eff_fieldAddr_ref hT hy hd hf hft (fun e => by rw [e] at hsz; cases hsz) hx
theorem w_len_list {x : Operand} {t e k : Nat} {y : Ty} {es : List (List AV)} {dty : TypeId} (hx : s.ev x = some (.list k es)) (hy : tyOf T t = some y) (hd : y.desc = .slice e) :
    AEff P ⟨dst, .call ⟨.builtin .len, #[x], #[t]⟩, dty, pos, aft, g⟩ s.ev s.heap ⟨.int es.length, [], [], []⟩ := eff_len_list hT hy hd hx
theorem w_len_own {x : Operand} {t e : Nat} {y : Ty} {b i n : Nat} {blk : Blk} {dty : TypeId} (hx : s.ev x = some (.own b i n)) (hb : s.heap b = some blk) (hy : tyOf T t = some y) (hd : y.desc = .slice e) :
    AEff P ⟨dst, .call ⟨.builtin .len, #[x], #[t]⟩, dty, pos, aft, g⟩ s.ev s.heap ⟨.int n, [b], [], []⟩ := eff_len_own hT hy hd hb hx
theorem w_len_nil {x : Operand} {t e k : Nat} {y : Ty} {dty : TypeId} (hx : s.ev x = some (.nil k)) (hy : tyOf T t = some y) (hd : y.desc = .slice e) :
    AEff P ⟨dst, .call ⟨.builtin .len, #[x], #[t]⟩, dty, pos, aft, g⟩ s.ev s.heap ⟨.int 0, [], [], []⟩ := eff_len_nil hT hy hd hx

/-! ## new blocks -/
omit hT in
theorem w_box {t : TypeId} {x : Operand} {v : AV} {b : Nat} (hns : s.ns.head? = some b) (hx : s.ev x = some v) (ok : (cellsOf v).all (okCell s.heap) = true) (hb : (namesOf (cellsOf v)).contains b = false) :
    AEff P ⟨dst, .box t x, ty, pos, aft, g⟩ s.ev s.heap ⟨.ptr b 0 0, namesOf (cellsOf v), [(b, some ⟨(cellsOf v).length, [cellsOf v]⟩)], [b]⟩ := eff_box hx ok hb
theorem w_alloc {t : TypeId} {y : Ty} {b : Nat} (hns : s.ns.head? = some b) (hy : tyOf T t = some y) : AEff P ⟨dst, .alloc t, ty, pos, aft, g⟩ s.ev s.heap ⟨.ptr b 0 0, [], [(b, some ⟨y.zero.length, [y.zero]⟩)], [b]⟩ := eff_alloc hT hy
theorem w_make {t e : TypeId} {y ye : Ty} {l c : Operand} {kl kc : IntKind} {n : Int} {b : Nat} (hns : s.ns.head? = some b) (hl : s.ev l = some (.sc (.int kl n))) (hc : s.ev c = some (.sc (.int kc n))) (hy : tyOf T t = some y) (hd : y.desc = .slice e) (hye : tyOf T e = some ye) (hz : ye.zero.length = ye.size) (h0 : 0 ≤ n) (hn : n ≤ 4294967296) (hb : n.toNat * ye.bytes ≤ 140737488355328) :
    AEff P ⟨dst, .makeSlice t l c, ty, pos, aft, g⟩ s.ev s.heap ⟨.own b 0 n.toNat, [], [(b, some ⟨ye.size, List.replicate n.toNat ye.zero⟩)], [b]⟩ :=
  eff_makeSlice hT hy hd hye (by rw [hl, show ((n.toNat : Nat) : Int) = n by omega]) (by rw [hc, show ((n.toNat : Nat) : Int) = n by omega]) hb (by omega) hz
theorem w_lit {t e : TypeId} {n : Nat} {parts : Array (Nat × Operand)} {y ye : Ty} {ps : List (Nat × List AV)} {cs : List AV} {b : Nat} (hns : s.ns.head? = some b) (hy : tyOf T t = some y) (hd : y.desc = .slice e) (hye : tyOf T e = some ye) (hz : ye.zero.length = ye.size) (hn : Nat.ble (n * ye.size) 16777216 = true) (hnn : Nat.ble n 16777216 = true)
    (hps : partsOf s.ev parts.toList = some ps) (hfill : fillA (fun i => some (i * ye.size, ye.size)) (List.replicate n ye.zero).flatten ps = some cs) (ok : (ps.all fun p => p.2.all (okCell s.heap)) = true) (hcs : cs.all (okCell s.heap) = true) (hb : (ps.flatMap (fun p => namesOf p.2) ++ namesOf cs).contains b = false) :
    AEff P ⟨dst, .buildSlice t n parts, ty, pos, aft, g⟩ s.ev s.heap ⟨.own b 0 n, ps.flatMap (fun p => namesOf p.2) ++ namesOf cs, [(b, some ⟨ye.size, chunk ye.size n cs⟩)], [b]⟩ := eff_buildSlice hT hy hd hye hz hn hnn hps hfill ok hcs hb
theorem w_build {t : TypeId} {parts : Array (Nat × Operand)} {y : Ty} {fs : List (Nat × Nat)} {ps : List (Nat × List AV)} {cs : List AV} (hy : tyOf T t = some y) (hd : y.desc = .struct fs) (hf : (fs.all fun f => (tyOf T f.2).isSome) = true)
    (hps : partsOf s.ev parts.toList = some ps) (hfill : fillA (structPlace T fs) y.zero ps = some cs) (ok : (ps.all fun p => p.2.all (okCell s.heap)) = true) :
    AEff P ⟨dst, .build t parts, ty, pos, aft, g⟩ s.ev s.heap ⟨.agg cs, ps.flatMap (fun p => namesOf p.2), [], []⟩ := eff_build hT hy hd hf hps hfill ok

/-! ## stores and append -/
omit hT in
theorem setR_eq : ∀ {cs : List AV} {j : Nat} {vs : List AV}, j + vs.length ≤ cs.length → cs.take j ++ vs ++ cs.drop (j + vs.length) = setR cs j vs
  | [], j, vs, h => by
    have : vs = [] := List.eq_nil_of_length_eq_zero (by rw [List.length_nil] at h; omega)
    subst this; simp [setR]
  | c :: cs, 0, [], h => by simp [setR]
  | c :: cs, 0, v :: vs, h => by
    have ih := setR_eq (cs := cs) (j := 0) (vs := vs) (by simp at h ⊢; omega)
    simp only [Nat.zero_add, List.take_zero, List.nil_append] at ih
    simp only [Nat.zero_add, List.take_zero, List.nil_append, List.length_cons, List.drop_succ_cons, List.cons_append, setR, ih]
  | c :: cs, j + 1, vs, h => by
    have ih := setR_eq (cs := cs) (j := j) (vs := vs) (by simp at h; omega)
    rw [show j + 1 + vs.length = (j + vs.length) + 1 by omega, List.take_succ_cons, List.drop_succ_cons]
    simp only [List.cons_append, setR, ih]
theorem w_store {t : TypeId} {y : Ty} {x z : Operand} {val : AV} {b i j kk : Nat} {ees : List (List AV)} {cs : List AV} (hx : s.ev x = some (.ptr b i j)) (hb : s.heap b = some ⟨kk, ees⟩) (hz : s.ev z = some val) (hy : tyOf T t = some y) (hsz : Nat.beq (cellsOf val).length y.size = true) (ok : (cellsOf val).all (okCell s.heap) = true) (hi : ees[i]? = some cs) (hn : Nat.ble (j + y.size) cs.length = true) :
    AEff P ⟨dst, .store t x z, ty, pos, aft, g⟩ s.ev s.heap ⟨.dead, b :: namesOf (cellsOf val), [(b, some ⟨kk, ees.set i (setR cs j (cellsOf val))⟩)], []⟩ := by
  have h1 := Nat.eq_of_beq_eq_true hsz
  have h2 := Nat.le_of_ble_eq_true hn
  have h3 := eff_store (P := P) hT (dst := dst) (ty := ty) (pos := pos) (aft := aft) (g := g) hy hx hz h1 hb hi h2 ok
  rw [← h1, setR_eq (by omega)] at h3
  exact h3
theorem w_app_own {x z : Operand} {t e : Nat} {y ye : Ty} {b b' n k : Nat} {blk : Blk} {sv : AV} {news : List (List AV)} {ts : List Nat} {dty : TypeId} (hns : s.ns.head? = some b') (hx : s.ev x = some (.own b 0 n)) (hb : s.heap b = some blk) (hxz : s.ev z = some sv) (hsrc : srcEls s.heap sv = some (k, news, ts)) (hy : tyOf T t = some y) (hd : y.desc = .slice e) (hye : tyOf T e = some ye) (hz : ye.zero.length = ye.size) (hk : blk.k = ye.size)
    (hk2 : k = ye.size) (hn : blk.es.length = n) (ok : news.flatten.all (okCell s.heap) = true) (hb1 : n + news.length ≤ 4294967296) (hb2 : (n + news.length) * ye.bytes ≤ 140737488355328) :
    AEff P ⟨dst, .call ⟨.builtin .append, #[x, z], #[t, t]⟩, dty, pos, aft, g⟩ s.ev s.heap ⟨.own b' 0 (n + news.length), b :: (ts ++ namesOf news.flatten), [(b, none), (b', some ⟨ye.size, blk.es ++ news⟩)], [b']⟩ := eff_append_own hT hy hd hye hz hx hb hn hk hxz hsrc hk2 ok hb1 hb2
theorem w_app_nil {x z : Operand} {t e : Nat} {y ye : Ty} {b' k k0 : Nat} {sv : AV} {news : List (List AV)} {ts : List Nat} {dty : TypeId} (hns : s.ns.head? = some b') (hx : s.ev x = some (.nil k0)) (hxz : s.ev z = some sv) (hsrc : srcEls s.heap sv = some (k, news, ts)) (hy : tyOf T t = some y) (hd : y.desc = .slice e) (hye : tyOf T e = some ye) (hz : ye.zero.length = ye.size)
    (hk2 : k = ye.size) (ok : news.flatten.all (okCell s.heap) = true) (hb1 : news.length ≤ 4294967296) (hb2 : news.length * ye.bytes ≤ 140737488355328) :
    AEff P ⟨dst, .call ⟨.builtin .append, #[x, z], #[t, t]⟩, dty, pos, aft, g⟩ s.ev s.heap ⟨.own b' 0 news.length, ts ++ namesOf news.flatten, [(b', some ⟨ye.size, news⟩)], [b']⟩ := eff_append_nil hT hy hd hye hz hx hxz hsrc hk2 ok hb1 hb2

/-! ## calls -/
omit hT in
theorem impA_sc (ns : List Nat) (u : Value) : impA ns (.sc u) = (.sc u, [], ns) := by cases ns <;> rfl
omit hT in
/-- A call that returns a number, a truth value or a text. -/
theorem w_call0s {f : FuncId} {xs : Array Operand} {ats : Array TypeId} {avs ds : List AV} {u : Value} (hc : HasC P f ds (.sc u)) (hx : evs s.ev xs.toList = some avs) (hv1 : All2 (viewA s.heap) avs ds) :
    AEff P ⟨dst, .call ⟨.value (.func f), xs, ats⟩, ty, pos, aft, g⟩ s.ev s.heap ⟨.sc u, avs.flatMap (touchA s.heap) ++ [].flatMap (touchP s.heap), [], []⟩ :=
  eff_call (ds1 := ds) (ds2 := []) (caps := []) (ns := []) (nb := []) (r := .sc u) (x := .sc u) rfl hx (by rw [List.append_nil]; exact hc) hv1 rfl trivial (impA_sc [] u) rfl (by simp)
/-- What a call's result becomes (two forms, so that nothing of it is left to be worked out later). -/
inductive Imp where
  | mk (x : AV) (nb : List (Nat × Blk))
  | bad
def impI (ns : List Nat) (r : AV) : Imp := match impA ns r with | (x, nb, _) => .mk x nb
omit hT in
theorem impI_ok {ns : List Nat} {r x : AV} {nb : List (Nat × Blk)} (h : impI ns r = .mk x nb) : ∃ ns', impA ns r = (x, nb, ns') := by
  unfold impI at h
  rcases e : impA ns r with ⟨x', nb', ns'⟩
  rw [e] at h
  cases h
  exact ⟨ns', rfl⟩
omit hT in
theorem w_call {fo : Operand} {xs : Array Operand} {ats : Array TypeId} {f : FuncId} {caps avs ds1 ds2 ds : List AV} {r x : AV} {nb : List (Nat × Blk)} {ns' : List Nat} (hc : HasC P f ds r) (hf : s.ev fo = some (.fn f caps)) (hx : evs s.ev xs.toList = some avs) (hds : ds1 ++ ds2 = ds) (hi : impA s.ns r = (x, nb, ns')) (hfl : flatA x = true) (hn : nodupB s.ns = true) (hg : goodA r) (hv1 : All2 (viewA s.heap) avs ds1) (hv2 : All2 (viewP s.heap) caps ds2) :
    AEff P ⟨dst, .call ⟨.value fo, xs, ats⟩, ty, pos, aft, g⟩ s.ev s.heap ⟨x, avs.flatMap (touchA s.heap) ++ caps.flatMap (touchP s.heap), editsOf nb, nb.map (·.1)⟩ := by
  exact eff_call hf hx (hds ▸ hc) hv1 hv2 hg hi hfl (nodupB_ok hn)
omit hT in
/-- A call of a function without captured variables. -/
theorem w_call0 {f : FuncId} {xs : Array Operand} {ats : Array TypeId} {avs ds : List AV} {r x : AV} {nb : List (Nat × Blk)} {ns' : List Nat} (hc : HasC P f ds r) (hx : evs s.ev xs.toList = some avs) (hi : impA s.ns r = (x, nb, ns')) (hfl : flatA x = true) (hn : nodupB s.ns = true) (hg : goodA r) (hv1 : All2 (viewA s.heap) avs ds) :
    AEff P ⟨dst, .call ⟨.value (.func f), xs, ats⟩, ty, pos, aft, g⟩ s.ev s.heap ⟨x, avs.flatMap (touchA s.heap) ++ [].flatMap (touchP s.heap), editsOf nb, nb.map (·.1)⟩ := by
  exact eff_call (ds1 := ds) (ds2 := []) (caps := []) rfl hx (by rw [List.append_nil]; exact hc) hv1 rfl hg hi hfl (nodupB_ok hn)
end

/-! ## from one piece of code to the next -/
section
variable {K : AState → Prop} {Q : Exit → AState → Prop} {s : AState} {id : Nat}
theorem then_n (h : K s) : thenA K Q .normal s := h
theorem then_ret (h : Q .ret s) : thenA K Q .ret s := h
theorem then_exit (h : Q (.exit id) s) : thenA K Q (.exit id) s := h
theorem block_n (h : Q .normal s) : blockA id Q .normal s := h
theorem block_ret (h : Q .ret s) : blockA id Q .ret s := h
theorem block_here (h : Q .normal s) : blockA id Q (.exit id) s := by simp only [blockA, beq_self, cond_true]; exact h
theorem block_out {id' : Nat} (e : Nat.beq id' id = false) (h : Q (.exit id') s) : blockA id Q (.exit id') s := by simp only [blockA, e, cond_false]; exact h
theorem ret_mk {T : List (Nat × Ty)} {rvs : List ResultVar} {r : AV} {e : Exit} {vs : List AV} (he : isEnd e = true) (hv : resVars T s rvs = some vs) (hn : nodupB (vs.flatMap ownsB) = true) (hf : frzs s.heap vs r) : RetQ T rvs r e s := ⟨he, vs, hv, hn, hf⟩
end

/-! ## readable data -/
def encI (l : List Int) : List (List AV) := l.map fun x => [.int x]
abbrev ints (l : List Int) : AV := .list 1 (encI l)
theorem encI_len (l : List Int) : (encI l).length = l.length := by simp [encI]
theorem encI_at {l : List Int} {k : Nat} (h : k < l.length) : (encI l)[k]? = some [.int (l[k]?.getD 0)] := by simp [encI, h]
theorem good_sc (r : Value) : goodA (.sc r) := trivial
end Go.Proofs.Ytjfcjkeghigipaa

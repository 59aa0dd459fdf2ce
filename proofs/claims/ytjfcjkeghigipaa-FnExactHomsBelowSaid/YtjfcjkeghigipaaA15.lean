/-
  Readable data: quivers, matrices, representations, spaces, bars, claims as Go's cells hold them; arguments and results. No program stands in this text.
-/
import Derived.Test.YtjfcjkeghigipaaA14
namespace Go.Proofs.Ytjfcjkeghigipaa
open Go.RowKit

structure Qv where
  n : Int
  src : List Int
  tgt : List Int
  deriving DecidableEq
structure Mt where
  rows : Int
  cols : Int
  cells : List Int
  deriving DecidableEq
structure Rp where
  p : Int
  q : Qv
  dims : List Int
  maps : List Mt
  deriving DecidableEq
structure Sc where
  size : Int
  basis : List (List Int)
  deriving DecidableEq
structure Br where
  first : Int
  last : Int
  count : Int
  deriving DecidableEq
structure Cl where
  kind : Int
  rep : Rp
  other : Rp
  parts : List Rp
  maps : List Mt
  bars : List Br
  theta : List Int
  subs : List Sc
  deriving DecidableEq

abbrev eI (x : Int) : List AV := [.int x]
abbrev eL (l : List Int) : List AV := [ints l]
def eQ (q : Qv) : List AV := [.int q.n, ints q.src, ints q.tgt]
def eM (m : Mt) : List AV := [.int m.rows, .int m.cols, ints m.cells]
def eR (r : Rp) : List AV := [.int r.p, .int r.q.n, ints r.q.src, ints r.q.tgt, ints r.dims, .list 3 (r.maps.map eM)]
def eS (s : Sc) : List AV := [.int s.size, .list 1 (s.basis.map eL)]
def eB (b : Br) : List AV := [.int b.first, .int b.last, .int b.count]
def eC (c : Cl) : List AV := [.int c.kind, .int c.rep.p, .int c.rep.q.n, ints c.rep.q.src, ints c.rep.q.tgt, ints c.rep.dims, .list 3 (c.rep.maps.map eM), .int c.other.p, .int c.other.q.n, ints c.other.q.src, ints c.other.q.tgt, ints c.other.dims, .list 3 (c.other.maps.map eM),
  .list 6 (c.parts.map eR), .list 3 (c.maps.map eM), .list 3 (c.bars.map eB), ints c.theta, .list 2 (c.subs.map eS)]

/-- Cells of data. -/
def goodC (cs : List AV) : Prop := ∀ c ∈ cs, plainD c = true ∧ ∀ ds, c ≠ .ref ds
theorem goodEs_map {α : Type} {f : α → List AV} {l : List α} (h : ∀ x, goodC (f x)) : goodEs (l.map f) := by
  intro cs hcs
  obtain ⟨x, _, rfl⟩ := List.mem_map.1 hcs
  exact h x
def goodB1 (c : AV) : Bool := match c with | .sc _ => true | .list _ _ => true | _ => false
theorem goodC_of {cs : List AV} (h : cs.all goodB1 = true) : goodC cs := by
  intro c hc
  have := List.all_eq_true.1 h c hc
  cases c <;> simp only [goodB1, Bool.false_eq_true] at this <;> exact ⟨rfl, fun _ e => by cases e⟩
theorem good_I (x : Int) : goodC (eI x) := goodC_of rfl
theorem good_L (x : List Int) : goodC (eL x) := goodC_of rfl
theorem good_Q (x : Qv) : goodC (eQ x) := goodC_of rfl
theorem good_M (x : Mt) : goodC (eM x) := goodC_of rfl
theorem good_R (x : Rp) : goodC (eR x) := goodC_of rfl
theorem good_S (x : Sc) : goodC (eS x) := goodC_of rfl
theorem good_B (x : Br) : goodC (eB x) := goodC_of rfl
theorem good_C (x : Cl) : goodC (eC x) := goodC_of rfl
theorem goodEs_I (l : List Int) : goodEs (encI l) := goodEs_map good_I

/-! ## arguments -/
theorem va_nil {h : Hp} : All2 (viewA h) [] [] := rfl
theorem va_cons {h : Hp} {x d : AV} {xs ds : List AV} (a : viewA h x d) (b : All2 (viewA h) xs ds) : All2 (viewA h) (x :: xs) (d :: ds) := ⟨d, ds, rfl, a, b⟩
theorem v0_same {c : AV} (h : plainD c = true) : view0 c c := by cases c <;> simp only [plainD, Bool.false_eq_true] at h <;> simp [view0]
theorem v1_same {h : Hp} {c : AV} (p : plainD c = true) : view1 h c c := by cases c <;> simp only [plainD, Bool.false_eq_true] at p <;> simp [view1, view0]
theorem va_same {h : Hp} {c : AV} (p : plainD c = true) : viewA h c c := by cases c <;> simp only [plainD, Bool.false_eq_true] at p <;> simp [viewA, viewP, view1, view0]
theorem v1s_same {h : Hp} : ∀ {cs : List AV}, cs.all plainD = true → All2 (view1 h) cs cs
  | [], _ => rfl
  | c :: cs, p => by simp only [List.all_cons, Bool.and_eq_true] at p; exact ⟨c, cs, rfl, v1_same p.1, v1s_same p.2⟩
theorem va_agg {h : Hp} {cs : List AV} (p : cs.all plainD = true) : viewA h (.agg cs) (.agg cs) := v1s_same p
theorem va_agg' {h : Hp} {cs ds : List AV} (p : All2 (view1 h) cs ds) : viewA h (.agg cs) (.agg ds) := p
theorem v1_nil {h : Hp} : All2 (view1 h) [] [] := rfl
theorem v1_cons {h : Hp} {x d : AV} {xs ds : List AV} (a : view1 h x d) (b : All2 (view1 h) xs ds) : All2 (view1 h) (x :: xs) (d :: ds) := ⟨d, ds, rfl, a, b⟩
theorem v00_same : ∀ {es : List (List AV)}, goodEs es → All2 (All2 view0) es es
  | [], _ => rfl
  | c :: es, p => ⟨c, es, rfl, by
      have hc := p c (by simp)
      have key : ∀ cs : List AV, (∀ x ∈ cs, plainD x = true) → All2 view0 cs cs := by
        intro cs
        induction cs with
        | nil => intro _; rfl
        | cons x cs ih => intro h; exact ⟨x, cs, rfl, v0_same (h x (by simp)), ih (fun y hy => h y (by simp [hy]))⟩
      exact key c (fun x hx => (hc x hx).1), v00_same (fun d hd => p d (by simp [hd]))⟩
theorem v00_abs : ∀ {es : List (List AV)}, goodEs es → All2 (All2 view0) (absEs es) es
  | [], _ => rfl
  | c :: es, p => ⟨c, es, rfl, by
      have hc := p c (by simp)
      have key : ∀ cs : List AV, (∀ x ∈ cs, plainD x = true ∧ ∀ ds, x ≠ .ref ds) → All2 view0 (cs.map toAbs) cs := by
        intro cs
        induction cs with
        | nil => intro _; rfl
        | cons x cs ih =>
          intro h
          refine ⟨x, cs, rfl, ?_, ih (fun y hy => h y (by simp [hy]))⟩
          have := h x (by simp)
          cases x <;> simp only [plainD, Bool.false_eq_true, false_and] at this <;> simp [toAbs, view0]
      exact key c hc, v00_abs (fun d hd => p d (by simp [hd]))⟩
/-- A whole slice of the call's own as an argument. -/
theorem v1_own {h : Hp} {b n k : Nat} {blk : Blk} {es : List (List AV)} (hb : h b = some blk) (hk : blk.k = k) (hn : n = blk.es.length) (v : All2 (All2 view0) blk.es es) : view1 h (.own b 0 n) (.list k es) := by
  refine ⟨blk, hb, hk, ?_⟩
  rw [List.drop_zero, hn, List.take_length]
  exact v
theorem va_own {h : Hp} {b n k : Nat} {blk : Blk} {es : List (List AV)} (hb : h b = some blk) (hk : blk.k = k) (hn : n = blk.es.length) (v : All2 (All2 view0) blk.es es) : viewA h (.own b 0 n) (.list k es) := v1_own hb hk hn v
theorem v1_nilD {h : Hp} {k k' : Nat} : view1 h (.nil k) (.list k' []) := rfl
theorem va_nilD {h : Hp} {k k' : Nat} : viewA h (.nil k) (.list k' []) := rfl

/-! ## results -/
theorem fz_sc {h : Hp} {u v : Value} (e : u = v) (hn : ∀ cs, AV.sc v ≠ .tuple cs := by intro _ h; cases h) : frzs h [.sc u] (.sc v) := ⟨e, hn⟩
theorem fz_bl {h : Hp} {u v : Bool} (e : u = v) : frzs h [.bl u] (.bl v) := ⟨by rw [e]; rfl, by intro _ h; cases h⟩
theorem fz_int {h : Hp} {u v : Int} (e : u = v) : frzs h [.int u] (.int v) := ⟨by rw [e]; rfl, by intro _ h; cases h⟩
theorem f00_same : ∀ {es : List (List AV)}, (es.all fun c => c.all fun x => match x with | .sc _ => true | _ => false) = true → All2 (All2 frz0) es es
  | [], _ => rfl
  | c :: es, p => ⟨c, es, rfl, by
      simp only [List.all_cons, Bool.and_eq_true] at p
      have key : ∀ cs : List AV, (cs.all fun x => match x with | .sc _ => true | _ => false) = true → All2 frz0 cs cs := by
        intro cs
        induction cs with
        | nil => intro _; rfl
        | cons x cs ih =>
          intro h
          simp only [List.all_cons, Bool.and_eq_true] at h
          refine ⟨x, cs, rfl, ?_, ih h.2⟩
          cases x <;> first | (simp [frz0]; done) | (exact absurd h.1 (by simp))
      exact key c p.1, f00_same (by simp only [List.all_cons, Bool.and_eq_true] at p; exact p.2)⟩
theorem f00_I (l : List Int) : All2 (All2 frz0) (encI l) (encI l) := f00_same (by simp [encI])
theorem f00_abs : ∀ {es : List (List AV)}, goodEs es → All2 (All2 frz0) (absEs es) es
  | [], _ => rfl
  | c :: es, p => ⟨c, es, rfl, by
      have hc := p c (by simp)
      have key : ∀ cs : List AV, (∀ x ∈ cs, plainD x = true ∧ ∀ ds, x ≠ .ref ds) → All2 frz0 (cs.map toAbs) cs := by
        intro cs
        induction cs with
        | nil => intro _; rfl
        | cons x cs ih =>
          intro h
          refine ⟨x, cs, rfl, ?_, ih (fun y hy => h y (by simp [hy]))⟩
          have := h x (by simp)
          cases x <;> simp only [plainD, Bool.false_eq_true, false_and] at this <;> first | (simp [toAbs, frz0]; done) | exact absurd rfl (this.2 _)
      exact key c hc, f00_abs (fun d hd => p d (by simp [hd]))⟩
theorem absEs_I (l : List Int) : absEs (encI l) = encI l := by simp [absEs, encI, toAbs]

/-! ## elements -/
theorem map_at {α : Type} {f : α → List AV} {l : List α} {k : Nat} {x : α} (h : l[k]? = some x) : (l.map f)[k]? = some (f x) := by simp [h]
theorem at_lt {α : Type} {l : List α} {k : Nat} (h : k < l.length) : l[k]? = some l[k] := by simp [h]
end Go.Proofs.Ytjfcjkeghigipaa

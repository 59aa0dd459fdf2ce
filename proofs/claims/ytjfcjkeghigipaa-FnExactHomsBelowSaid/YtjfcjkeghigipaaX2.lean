/-
  Rules for walking along a model: places, stores, appends, calls, what is handed back, for lists with an encoding. No program stands in this text.
-/
import Derived.Test.YtjfcjkeghigipaaX1
namespace Go.Proofs.Ytjfcjkeghigipaa
open Go.RowKit
set_option linter.unusedVariables false

theorem AEff.conv {P : Program} {o : Oper} {ins : Operand → Option AV} {hp : Hp} {v v' : AV} {tc : List Nat} {ed ed' : List (Nat × Option Blk)} {n : List Nat} (h : AEff P o ins hp ⟨v, tc, ed, n⟩) (hv : v = v') (he : ed = ed') : AEff P o ins hp ⟨v', tc, ed', n⟩ := by subst hv; subst he; exact h
theorem AEff.val {P : Program} {o : Oper} {ins : Operand → Option AV} {hp : Hp} {v v' : AV} {tc : List Nat} {ed : List (Nat × Option Blk)} {n : List Nat} (h : AEff P o ins hp ⟨v, tc, ed, n⟩) (hv : v = v') : AEff P o ins hp ⟨v', tc, ed, n⟩ := by subst hv; exact h

section
variable {P : Program} {T : List (Nat × Ty)} (hT : TyOk P T) {dst : Option Tmp} {ty : TypeId} {pos : String} {aft : Array Edge} {g : Option (Nat × Bool)} {s : AState}
/-! ## numbers that wrap -/
theorem x_add {t t' : TypeId} {x y : Operand} {a b : Int} (hx : s.ev x = some (.int a)) (hy : s.ev y = some (.int b)) : AEff P ⟨dst, .binOp .add t x y t', ty, pos, aft, g⟩ s.ev s.heap ⟨.int (wr (a + b)), [], [], []⟩ :=
  eff_bin hx hy rfl fun w => by simp [eqGuard, binOp, Op.intArith, wr]
theorem x_sub {t t' : TypeId} {x y : Operand} {a b : Int} (hx : s.ev x = some (.int a)) (hy : s.ev y = some (.int b)) : AEff P ⟨dst, .binOp .sub t x y t', ty, pos, aft, g⟩ s.ev s.heap ⟨.int (wr (a - b)), [], [], []⟩ :=
  eff_bin hx hy rfl fun w => by simp [eqGuard, binOp, Op.intArith, wr]
theorem x_mul {t t' : TypeId} {x y : Operand} {a b : Int} (hx : s.ev x = some (.int a)) (hy : s.ev y = some (.int b)) : AEff P ⟨dst, .binOp .mul t x y t', ty, pos, aft, g⟩ s.ev s.heap ⟨.int (wr (a * b)), [], [], []⟩ :=
  eff_bin hx hy rfl fun w => by simp [eqGuard, binOp, Op.intArith, wr]
theorem x_neg {t : TypeId} {x : Operand} {a : Int} (hx : s.ev x = some (.int a)) : AEff P ⟨dst, .unOp .neg t x, ty, pos, aft, g⟩ s.ev s.heap ⟨.int (wr (-a)), [], [], []⟩ :=
  eff_un hx rfl fun w => by simp [Op.unary, Op.intArith, wr]
theorem x_quo {t t' : TypeId} {x y : Operand} {a b : Int} (hx : s.ev x = some (.int a)) (hy : s.ev y = some (.int b)) (h : (!decide (b = 0)) = true) : AEff P ⟨dst, .binOp .quo t x y t', ty, pos, aft, g⟩ s.ev s.heap ⟨.int (wr (a.tdiv b)), [], [], []⟩ :=
  eff_bin hx hy rfl fun w => by
    have h' : b ≠ 0 := by simpa using h
    simp [eqGuard, binOp, Op.intDiv, h', wr]
theorem x_rem {t t' : TypeId} {x y : Operand} {a b : Int} (hx : s.ev x = some (.int a)) (hy : s.ev y = some (.int b)) (h : (!decide (b = 0)) = true) : AEff P ⟨dst, .binOp .rem t x y t', ty, pos, aft, g⟩ s.ev s.heap ⟨.int (a.tmod b), [], [], []⟩ :=
  eff_bin hx hy rfl fun w => by
    have h' : b ≠ 0 := by simpa using h
    simp [eqGuard, binOp, Op.intDiv, h']

variable {α : Type} {k : Nat} {e : α → List AV}
include hT
/-! ## places -/
theorem x_at_list {x ix : Operand} {t et : Nat} {y ye : Ty} {l : List α} {kk : IntKind} {i : Int} {v : α} (hm : atL l i = some v) (hx : s.ev x = some (.list k (l.map e))) (hix : s.ev ix = some (.sc (.int kk i))) (hy : tyOf T t = some y) (hd : y.desc = .slice et) (hye : tyOf T et = some ye) (hk : ye.size = k) :
    AEff P ⟨dst, .indexAddr t x ix, ty, pos, aft, g⟩ s.ev s.heap ⟨.ref (e v), [], [], []⟩ := w_at_list hT hy hd hye hk hx hix (atL_nn hm) (atL_map hm)
theorem x_at_own {x ix : Operand} {t et : Nat} {y ye : Ty} {b n kz : Nat} {es : List (List AV)} {kk : IntKind} {i : Int} (h0 : 0 ≤ i) (hn : i.toNat < n) (hx : s.ev x = some (.own b 0 n)) (hb : s.heap b = some ⟨kz, es⟩) (hix : s.ev ix = some (.sc (.int kk i))) (hy : tyOf T t = some y) (hd : y.desc = .slice et) (hye : tyOf T et = some ye) (hk : ye.size = kz) :
    AEff P ⟨dst, .indexAddr t x ix, ty, pos, aft, g⟩ s.ev s.heap ⟨.ptr b i.toNat 0, [b], [], []⟩ := by
  have := w_at_own (P := P) hT (dst := dst) (ty := ty) (pos := pos) (aft := aft) (g := g) hy hd hye hx hb hk hix h0 (by omega)
  rw [Nat.zero_add] at this
  exact this

/-! ## stores -/
omit hT in
theorem setR_all : ∀ {cs vs : List AV}, cs.length = vs.length → setR cs 0 vs = vs
  | [], [], _ => rfl
  | c :: cs, v :: vs, h => by simp only [setR]; rw [setR_all (by simpa using h)]
theorem x_store {t : TypeId} {y : Ty} {x z : Operand} {val : AV} {b i : Nat} {l : List α} {v u : α} (E : EOk k e) (hm : l[i]? = some v) (hc : cellsOf val = e u) (hx : s.ev x = some (.ptr b i 0)) (hb : s.heap b = some ⟨k, l.map e⟩) (hz : s.ev z = some val) (hy : tyOf T t = some y) (hk : y.size = k) :
    AEff P ⟨dst, .store t x z, ty, pos, aft, g⟩ s.ev s.heap ⟨.dead, [b], [(b, some ⟨k, (l.set i u).map e⟩)], []⟩ := by
  have h1 := w_store (P := P) hT (dst := dst) (ty := ty) (pos := pos) (aft := aft) (g := g) hx hb hz hy (by rw [hc, E.len, hk]; simp) (by rw [hc, List.all_eq_true]; exact fun c h => cellB_ok (E.mem u c h) _) (cs := e v) (by rw [List.getElem?_map, hm]; rfl) (by rw [E.len, hk, Nat.zero_add]; simp)
  rw [hc, names_nil (E.mem u), setR_all (by rw [E.len, E.len]), ← List.map_set] at h1
  exact h1

/-! ## append -/
theorem x_app {x z : Operand} {t et : Nat} {y ye : Ty} {b b' n : Nat} {l m : List α} {sv : AV} {ts : List Nat} {dty : TypeId} (E : EOk k e) (hf : decide (l.length + m.length ≤ 4294967296) = true) (hns : s.ns.head? = some b') (hx : s.ev x = some (.own b 0 n)) (hb : s.heap b = some ⟨k, l.map e⟩) (hl : l.length = n) (hz : s.ev z = some sv) (hsrc : srcEls s.heap sv = some (k, m.map e, ts))
    (hy : tyOf T t = some y) (hd : y.desc = .slice et) (hye : tyOf T et = some ye) (hzl : ye.zero.length = ye.size) (hk : ye.size = k) (hby : Nat.ble ye.bytes 32768 = true) :
    AEff P ⟨dst, .call ⟨.builtin .append, #[x, z], #[t, t]⟩, dty, pos, aft, g⟩ s.ev s.heap ⟨.own b' 0 (l ++ m).length, b :: ts, [(b, none), (b', some ⟨k, (l ++ m).map e⟩)], [b']⟩ := by
  have hf := of_decide_eq_true hf
  have hby := Nat.le_of_ble_eq_true hby
  have h1 := w_app_own (P := P) hT (dst := dst) (pos := pos) (aft := aft) (g := g) (dty := dty) hns hx hb hz hsrc hy hd hye hzl hk.symm hk.symm (by simpa using hl) (E.okE _ m) (by simp; omega) (by simp only [List.length_map]; calc (n + m.length) * ye.bytes ≤ 4294967296 * 32768 := Nat.mul_le_mul (by omega) hby
                                                                                                                                                                                       _ ≤ 140737488355328 := by decide)
  rw [E.namesE, List.append_nil, hk, List.length_map] at h1
  rw [List.length_append, List.map_append, hl]
  exact h1
theorem x_app_nil {x z : Operand} {t et : Nat} {y ye : Ty} {b' k0 : Nat} {m : List α} {sv : AV} {ts : List Nat} {dty : TypeId} (E : EOk k e) (hf : decide (m.length ≤ 4294967296) = true) (hns : s.ns.head? = some b') (hx : s.ev x = some (.nil k0)) (hz : s.ev z = some sv) (hsrc : srcEls s.heap sv = some (k, m.map e, ts))
    (hy : tyOf T t = some y) (hd : y.desc = .slice et) (hye : tyOf T et = some ye) (hzl : ye.zero.length = ye.size) (hk : ye.size = k) (hby : Nat.ble ye.bytes 32768 = true) :
    AEff P ⟨dst, .call ⟨.builtin .append, #[x, z], #[t, t]⟩, dty, pos, aft, g⟩ s.ev s.heap ⟨.own b' 0 m.length, ts, [(b', some ⟨k, m.map e⟩)], [b']⟩ := by
  have hf := of_decide_eq_true hf
  have hby := Nat.le_of_ble_eq_true hby
  have h1 := w_app_nil (P := P) hT (dst := dst) (pos := pos) (aft := aft) (g := g) (dty := dty) hns hx hz hsrc hy hd hye hzl hk.symm (E.okE _ m) (by simp; omega) (by simp only [List.length_map]; calc m.length * ye.bytes ≤ 4294967296 * 32768 := Nat.mul_le_mul (by omega) hby
                                                                                                                                                                                       _ ≤ 140737488355328 := by decide)
  rw [E.namesE, List.append_nil, hk, List.length_map] at h1
  exact h1
omit hT in
theorem view_toAbs {c : AV} (h : cellB c = true) : view (toAbs c) = c := by cases c <;> simp only [cellB, Bool.false_eq_true] at h <;> rfl
omit hT in
theorem x_seen (E : EOk k e) (l : List α) : (l.map (ow e)).map (List.map view) = l.map e := by
  rw [List.map_map]
  refine List.map_congr_left fun x _ => ?_
  simp only [Function.comp, ow, List.map_map]
  have : ∀ {cs : List AV}, (∀ c ∈ cs, cellB c = true) → cs.map (view ∘ toAbs) = cs := by
    intro cs
    induction cs with
    | nil => intro _; rfl
    | cons c cs ih => intro h; rw [List.map_cons, ih fun d hd => h d (by simp [hd])]; simp only [Function.comp]; rw [view_toAbs (h c (by simp))]
  exact this (E.mem x)
omit hT in
theorem x_src {hp : Hp} {b n : Nat} {l : List α} (E : EOk k e) (hb : hp b = some ⟨k, l.map (ow e)⟩) (hl : l.length = n) : srcEls hp (.own b 0 n) = some (k, l.map e, [b]) := by
  simp only [srcEls, hb, List.drop_zero]
  rw [List.take_of_length_le (by simp [hl]), x_seen E]

/-! ## arguments -/
omit hT in
theorem v1_T {h : Hp} {b n : Nat} {l : List α} (E : EOk k e) (hb : h b = some ⟨k, l.map (ow e)⟩) (hl : l.length = n) : view1 h (.own b 0 n) (.list k (l.map e)) := v1_own hb rfl (by simp [hl]) (E.views l)
omit hT in
theorem va_T {h : Hp} {b n : Nat} {l : List α} (E : EOk k e) (hb : h b = some ⟨k, l.map (ow e)⟩) (hl : l.length = n) : viewA h (.own b 0 n) (.list k (l.map e)) := v1_T E hb hl
omit hT in
theorem v1_TE {h : Hp} {b n : Nat} {l : List α} (E : EOk k e) (hb : h b = some ⟨k, l.map e⟩) (hl : l.length = n) : view1 h (.own b 0 n) (.list k (l.map e)) := v1_own hb rfl (by simp [hl]) (E.sames l)
omit hT in
theorem va_TE {h : Hp} {b n : Nat} {l : List α} (E : EOk k e) (hb : h b = some ⟨k, l.map e⟩) (hl : l.length = n) : viewA h (.own b 0 n) (.list k (l.map e)) := v1_TE E hb hl
/-! ## results -/
omit hT in
theorem x_f1 {h : Hp} {b n : Nat} {l : List α} (E : EOk k e) (hb : h b = some ⟨k, l.map (ow e)⟩) (hl : l.length = n) : frz1 h (.own b 0 n) (.list k (l.map e)) := ⟨rfl, _, hb, by simp [hl], rfl, E.frzs l⟩
end
theorem x1_nil {h : Hp} : All2 (frz1 h) [] [] := rfl
theorem x1_cons {h : Hp} {x d : AV} {xs ds : List AV} (a : frz1 h x d) (b : All2 (frz1 h) xs ds) : All2 (frz1 h) (x :: xs) (d :: ds) := ⟨d, ds, rfl, a, b⟩
theorem xz_agg {h : Hp} {cs ds : List AV} (a : All2 (frz1 h) cs ds) : frzs h [.agg cs] (.agg ds) := ⟨a, by intro _ h; cases h⟩
theorem xz_list {h : Hp} {x : AV} {k : Nat} {es : List (List AV)} (a : frz1 h x (.list k es)) : frzs h [x] (.list k es) := by
  refine ⟨?_, by intro _ h; cases h⟩
  cases x <;> exact a
theorem xB_one {h : Hp} {x d : AV} (a : frz1 h x d) : frzB h x d := by
  unfold frzB
  split
  · exact a.elim
  · exact a
theorem xB_agg {h : Hp} {cs ds : List AV} (a : All2 (frz1 h) cs ds) : frzB h (.agg cs) (.agg ds) := a
theorem xB_nil {h : Hp} : All2 (frzB h) [] [] := rfl
theorem xB_cons {h : Hp} {x d : AV} {xs ds : List AV} (a : frzB h x d) (b : All2 (frzB h) xs ds) : All2 (frzB h) (x :: xs) (d :: ds) := ⟨d, ds, rfl, a, b⟩
theorem xz_tuple {h : Hp} {vs rs : List AV} (hl : Nat.beq vs.length 1 = false) (a : All2 (frzB h) vs rs) : frzs h vs (.tuple rs) := by
  have h1 : vs.length ≠ 1 := by intro e; rw [e] at hl; cases hl
  cases vs with
  | nil => exact ⟨h1, a⟩
  | cons v vs =>
    cases vs with
    | nil => exact absurd rfl h1
    | cons u vs => exact ⟨h1, a⟩

/-! ## taking in -/
section
variable {s : AState}
/-- A slice in the last element of a block becomes that block's own. -/
theorem ent_absL {b b' j n k k' : Nat} {A es es' : List (List AV)} {c : List AV} (hb : s.heap b = some ⟨k, A ++ [c]⟩) (hj : c[j]? = some (.own b' 0 n)) (hb' : s.heap b' = some ⟨k', es⟩) (hne : Nat.beq b b' = false) (hn : es.length = n) (hf : All2 (All2 frz0) es es') :
    Ent s ⟨s.env, editHp [(b', none), (b, some ⟨k, A ++ [setR c j [.abs k' es']]⟩)] s.heap, s.used, s.ns, s.kp⟩ := by
  have h := ent_absorb' (i := A.length) hb (by simp) hj hb' hne hn rfl hf
  have e : (A ++ [c]).set A.length (setR c j [.abs k' es']) = A ++ [setR c j [.abs k' es']] := by rw [List.set_append_right _ _ (Nat.le_refl _), Nat.sub_self]; rfl
  simp only [e] at h
  exact h
/-- The same for an element that has been stored. -/
theorem ent_absS {b b' i j n k k' : Nat} {A es es' : List (List AV)} {c : List AV} (hi : i < A.length) (hb : s.heap b = some ⟨k, A.set i c⟩) (hj : c[j]? = some (.own b' 0 n)) (hb' : s.heap b' = some ⟨k', es⟩) (hne : Nat.beq b b' = false) (hn : es.length = n) (hf : All2 (All2 frz0) es es') :
    Ent s ⟨s.env, editHp [(b', none), (b, some ⟨k, A.set i (setR c j [.abs k' es'])⟩)] s.heap, s.used, s.ns, s.kp⟩ := by
  have h := ent_absorb' (i := i) hb (by simp [hi]) hj hb' hne hn rfl hf
  simp only [List.set_set] at h
  exact h
end
theorem len_map {α β : Type} (f : α → β) (l : List α) : (l.map f).length = l.length := List.length_map ..
end Go.Proofs.Ytjfcjkeghigipaa

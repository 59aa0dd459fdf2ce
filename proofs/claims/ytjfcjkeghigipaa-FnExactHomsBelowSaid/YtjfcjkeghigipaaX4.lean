/-
  Parts of slices: their effects, as arguments, their elements. No program stands in this text.
-/
import Derived.Test.YtjfcjkeghigipaaX3
import Derived.Test.YtjfcjkeghigipaaA22
namespace Go.Proofs.Ytjfcjkeghigipaa
open Go.RowKit
set_option linter.unusedVariables false

section
variable {P : Program} {T : List (Nat × Ty)} (hT : TyOk P T) {dst : Option Tmp} {ty : TypeId} {pos : String} {aft : Array Edge} {g : Option (Nat × Bool)} {s : AState}

/-- The bounds of a part as they are written: none, or a number. -/
def bnd (s : AState) (d : Nat) : Option Operand → Option Int
  | none => some d
  | some x => match s.ev x with | some (.sc (.int _ n)) => some n | _ => none

theorem sliceBounds_run {lo hi : Option Value} {len cap : Nat} {l h : Int} (w : World) (hl : (lo = none ∧ l = 0) ∨ ∃ k, lo = some (.int k l)) (hh : (hi = none ∧ h = len) ∨ ∃ k, hi = some (.int k h)) (h0 : 0 ≤ l) (h1 : l ≤ h) (h2 : h ≤ len) (h3 : len ≤ cap) :
    (Instr.sliceBounds true len cap lo hi none).run P w = .ok (l.toNat, h.toNat, cap) w := by
  have eh : (h.toNat : Int) = h := by omega
  have hhc : 0 ≤ h ∧ h ≤ (cap : Int) := by omega
  rcases hl with ⟨rfl, rfl⟩ | ⟨k, rfl⟩ <;> rcases hh with ⟨rfl, rfl⟩ | ⟨k', rfl⟩ <;> simp [Instr.sliceBounds, Instr.sliceBound, asIntOf, h0, hhc, eh, Int.not_lt.2 h1, h1]

include hT
theorem x_slice_own {x : Operand} {lo hi : Option Operand} {t e : Nat} {y ye : Ty} {b i n : Nat} {blk : Blk} {l h : Int} (q : (decide (0 ≤ l) && (decide (l ≤ h) && decide (h ≤ (n : Int)))) = true) (hx : s.ev x = some (.own b i n)) (hb : s.heap b = some blk) (hlo : bnd s 0 lo = some l) (hhi : bnd s n hi = some h) (hy : tyOf T t = some y) (hd : y.desc = .slice e) (hye : tyOf T e = some ye) (hk : ye.size = blk.k) :
    AEff P ⟨dst, .slice t x lo hi none, ty, pos, aft, g⟩ s.ev s.heap ⟨.own b (i + l.toNat) (h.toNat - l.toNat), [b], [], []⟩ := by
  simp only [Bool.and_eq_true, decide_eq_true_eq] at q
  refine AEff.pure fun C s' ν a w hi' ht hs => ?_
  have hb' : s'.heap b = some blk := (ht b (by simp)).trans hb
  have h1 := hs.ev ((hi' x (by simp [Op.operands])).trans hx)
  simp only [RepA, RepB, Rep1] at h1
  obtain ⟨h3, h4, h5⟩ := h1.2 blk hb'
  obtain ⟨φ, hh⟩ := hs.heap
  obtain ⟨_, ⟨_, hx2⟩, _, _⟩ := hh.blk b blk hb'
  obtain ⟨i1, z1, d1, y1⟩ := hT.is hy
  obtain ⟨i2, z2, d2, y2⟩ := hT.is hye
  have hlo' : ((lo.map a.eval) = none ∧ l = 0) ∨ ∃ k, lo.map a.eval = some (.int k l) := by
    cases lo with
    | none => simp only [bnd, Option.some.injEq] at hlo; exact .inl ⟨rfl, by omega⟩
    | some z =>
      simp only [bnd] at hlo
      split at hlo
      · rename_i kk m hz
        cases hlo
        have := hs.ev ((hi' z (by simp [Op.operands])).trans hz)
        simp only [RepA, RepB, Rep1] at this
        exact .inr ⟨kk, by simp [this.1]⟩
      · cases hlo
  have hhi' : ((hi.map a.eval) = none ∧ h = n) ∨ ∃ k, hi.map a.eval = some (.int k h) := by
    cases hi with
    | none => simp only [bnd, Option.some.injEq] at hhi; exact .inl ⟨rfl, by omega⟩
    | some z =>
      simp only [bnd] at hhi
      split at hhi
      · rename_i kk m hz
        cases hhi
        have := hs.ev ((hi' z (by simp [Op.operands])).trans hz)
        simp only [RepA, RepB, Rep1] at this
        exact .inr ⟨kk, by simp [this.1]⟩
      · cases hhi
  rcases hx2 with ⟨q1, q2, _⟩ | ⟨β, c, arr, ty', T', vs, q1, q2, q3, q4, q5, q6, q7, q8⟩
  · rw [q2] at h3
    have hn : n = 0 := by simp at h3; omega
    have hi0 : i = 0 := by simp at h3; omega
    subst hn hi0
    have hl0 : l = 0 := by omega
    have hh0 : h = 0 := by omega
    subst hl0 hh0
    refine ⟨.slice none 0 0, ?_, ?_⟩
    · have hsb := sliceBounds_run (P := P) (len := 0) (cap := 0) w hlo' hhi' (by omega) (by omega) (by omega) (by omega)
      simp only [execOp, Instr.sliceAt, Instr.slice, h4 q1, Sem.run_bind, run_und (y1.slice hd), Result.andThen_ok, run_size y2.info, Option.map_none]
      rw [hsb]
      simp
    · simp only [RepA, RepB, Rep1]
      refine ⟨h1.1, fun blk2 hb2 => ?_⟩
      rw [hb'] at hb2; cases hb2
      exact ⟨by simp, fun _ => by first | rfl | trivial, fun β c hν => by rw [q1] at hν; cases hν⟩
  · obtain ⟨o, ho, ho2⟩ := h5 β c q1
    have hsb := sliceBounds_run (P := P) (len := n) (cap := c - i) w hlo' hhi' q.1 q.2.1 q.2.2 (by omega)
    refine ⟨.slice (if c - i = l.toNat then some ⟨β, o, none⟩ else some ⟨β, o + l.toNat * ye.size, none⟩) (h.toNat - l.toNat) (c - i - l.toNat), ?_, ?_⟩
    · simp only [execOp, Instr.sliceAt, Instr.slice, ho, Sem.run_bind, run_und (y1.slice hd), Result.andThen_ok, run_size y2.info, y2.size, Option.map_none]
      rw [hsb]
      by_cases e : c - i = l.toNat <;> simp [e, Addr.add]
    · simp only [RepA, RepB, Rep1]
      refine ⟨h1.1, fun blk2 hb2 => ?_⟩
      rw [hb'] at hb2; cases hb2
      refine ⟨by omega, fun hν => (by rw [q1] at hν; cases hν), fun β' c' hν => ?_⟩
      rw [q1] at hν; cases hν
      by_cases e : c - i = l.toNat
      · rw [if_pos e]
        by_cases hz : i + l.toNat = 0
        · have hi0 : i = 0 := by omega
          have hl0 : l.toNat = 0 := by omega
          refine ⟨o, by congr 1; omega, .inl ?_⟩
          rcases ho2 with rfl | ho2
          · rw [hi0, hl0]
          · omega
        · exact ⟨o, by congr 1; omega, .inr ⟨by omega, by omega⟩⟩
      · rw [if_neg e]
        refine ⟨o + l.toNat * ye.size, by congr 1; omega, .inl ?_⟩
        rcases ho2 with rfl | ho2
        · rw [hk, Nat.add_mul]
        · omega

omit hT in
theorem RepEs.dropT {w : World} {k b : Nat} : ∀ {m o : Nat} {es : List (List AV)} {S : List Nat}, RepEs w k b o es S → ∃ U, RepEs w k b (o + m * k) (es.drop m) U ∧ ∀ x ∈ U, x ∈ S
  | 0, o, es, S, h => ⟨S, by simpa using h, fun _ h => h⟩
  | m + 1, o, [], S, h => ⟨[], by simp [RepEs], by simp⟩
  | m + 1, o, c :: es, S, h => by
    simp only [RepEs] at h
    obtain ⟨S1, S2, rfl, h2, h3, h4⟩ := h
    obtain ⟨U, h5, h6⟩ := h4.dropT (m := m)
    exact ⟨U, by rw [List.drop_succ_cons, show o + (m + 1) * k = o + k + m * k by rw [Nat.add_mul]; omega]; exact h5, fun x hx => by simp [h6 x hx]⟩
omit hT in
theorem RepEs.takeT {w : World} {k b : Nat} : ∀ {m o : Nat} {es : List (List AV)} {S : List Nat}, RepEs w k b o es S → ∃ U, RepEs w k b o (es.take m) U ∧ ∀ x ∈ U, x ∈ S
  | 0, o, es, S, h => ⟨[], by simp [RepEs], by simp⟩
  | m + 1, o, [], S, h => ⟨[], by simp [RepEs], by simp⟩
  | m + 1, o, c :: es, S, h => by
    simp only [RepEs] at h
    obtain ⟨S1, S2, rfl, h2, h3, h4⟩ := h
    obtain ⟨U, h5, h6⟩ := h4.takeT (m := m)
    refine ⟨S1 ++ U, by rw [List.take_succ_cons]; simp only [RepEs]; exact ⟨S1, U, rfl, h2, h3, h5⟩, fun x hx => ?_⟩
    rcases List.mem_append.1 hx with h | h
    · simp [h]
    · simp [h6 x h]
theorem x_slice_list {α : Type} {k : Nat} {en : α → List AV} {x : Operand} {lo hi : Option Operand} {t e : Nat} {y ye : Ty} {l0 : List α} {l h : Int} (q : (decide (0 ≤ l) && (decide (l ≤ h) && decide (h ≤ (l0.length : Int)))) = true) (hx : s.ev x = some (.list k (l0.map en))) (hlo : bnd s 0 lo = some l) (hhi : bnd s l0.length hi = some h) (hy : tyOf T t = some y) (hd : y.desc = .slice e) (hye : tyOf T e = some ye) (hk : ye.size = k) :
    AEff P ⟨dst, .slice t x lo hi none, ty, pos, aft, g⟩ s.ev s.heap ⟨.list k (((l0.drop l.toNat).take (h.toNat - l.toNat)).map en), [], [], []⟩ := by
  simp only [Bool.and_eq_true, decide_eq_true_eq] at q
  refine AEff.pure fun C s' ν a w hi' ht hs => ?_
  have h1 := hs.ev ((hi' x (by simp [Op.operands])).trans hx)
  simp only [RepA, RepB, Rep1, RepD] at h1
  obtain ⟨S, ⟨ao, c, h3, h4, h5, h6⟩, h7⟩ := h1
  rw [List.length_map] at h3 h4
  obtain ⟨i1, z1, d1, y1⟩ := hT.is hy
  obtain ⟨i2, z2, d2, y2⟩ := hT.is hye
  have hlo' : ((lo.map a.eval) = none ∧ l = 0) ∨ ∃ k, lo.map a.eval = some (.int k l) := by
    cases lo with
    | none => simp only [bnd, Option.some.injEq] at hlo; exact .inl ⟨rfl, by omega⟩
    | some z =>
      simp only [bnd] at hlo
      split at hlo
      · rename_i kk m hz
        cases hlo
        have := hs.ev ((hi' z (by simp [Op.operands])).trans hz)
        simp only [RepA, RepB, Rep1] at this
        exact .inr ⟨kk, by simp [this.1]⟩
      · cases hlo
  have hhi' : ((hi.map a.eval) = none ∧ h = (l0.length : Nat)) ∨ ∃ k, hi.map a.eval = some (.int k h) := by
    cases hi with
    | none => simp only [bnd, Option.some.injEq] at hhi; exact .inl ⟨rfl, by omega⟩
    | some z =>
      simp only [bnd] at hhi
      split at hhi
      · rename_i kk m hz
        cases hhi
        have := hs.ev ((hi' z (by simp [Op.operands])).trans hz)
        simp only [RepA, RepB, Rep1] at this
        exact .inr ⟨kk, by simp [this.1]⟩
      · cases hhi
  have hsb := sliceBounds_run (P := P) (len := l0.length) (cap := c) w hlo' hhi' q.1 q.2.1 q.2.2 (by omega)
  have hlen : ((l0.drop l.toNat).take (h.toNat - l.toNat)).length = h.toNat - l.toNat := by simp; omega
  refine ⟨.slice (if c = l.toNat then ao else ao.map (·.add (l.toNat * ye.size))) (h.toNat - l.toNat) (c - l.toNat), ?_, ?_⟩
  · simp only [execOp, Instr.sliceAt, Instr.slice, h3, Sem.run_bind, run_und (y1.slice hd), Result.andThen_ok, run_size y2.info, y2.size, Option.map_none]
    rw [hsb]
    by_cases e : c = l.toNat <;> simp [e]
  · simp only [RepA, RepB, Rep1, RepD, List.length_map, hlen]
    by_cases hz : h.toNat - l.toNat = 0
    · refine ⟨[], ⟨_, _, rfl, by omega, by omega, .inl ⟨?_, rfl⟩⟩, by simp⟩
      rw [hz]; simp
    · rcases h6 with ⟨h6, _⟩ | ⟨b, o, S', rfl, h8, rfl, h9⟩
      · have : l0.length = 0 := by simpa using h6
        omega
      · rw [if_neg (by omega)]
        obtain ⟨U1, g1, g2⟩ := h9.dropT (m := l.toNat)
        obtain ⟨U2, g3, g4⟩ := g1.takeT (m := h.toNat - l.toNat)
        refine ⟨b :: U2, ⟨_, _, rfl, by omega, by omega, .inr ⟨b, o + l.toNat * k, U2, by simp [Addr.add_lit, hk], h8, rfl, ?_⟩⟩, ?_⟩
        · rw [List.map_take, List.map_drop]; exact g3
        · intro y hy
          rcases List.mem_cons.1 hy with rfl | h'
          · exact h7 y (by simp)
          · exact h7 y (by simp [g2 y (g4 y h')])

theorem x_at_part {x ix : Operand} {t et : Nat} {y ye : Ty} {b i n kz : Nat} {es : List (List AV)} {kk : IntKind} {j : Int} (q : (decide (0 ≤ j) && decide (j < (n : Int))) = true) (hx : s.ev x = some (.own b i n)) (hb : s.heap b = some ⟨kz, es⟩) (hix : s.ev ix = some (.sc (.int kk j))) (hy : tyOf T t = some y) (hd : y.desc = .slice et) (hye : tyOf T et = some ye) (hk : ye.size = kz) :
    AEff P ⟨dst, .indexAddr t x ix, ty, pos, aft, g⟩ s.ev s.heap ⟨.ptr b (i + j.toNat) 0, [b], [], []⟩ := by
  simp only [Bool.and_eq_true, decide_eq_true_eq] at q
  exact w_at_own hT hy hd hye hx hb hk hix q.1 q.2
omit hT in
theorem map_part {α β : Type} {f : α → β} {l : List α} {i n : Nat} : ((l.map f).drop i).take n = ((l.drop i).take n).map f := by rw [List.map_take, List.map_drop]
omit hT in
theorem v1_part {α : Type} {k : Nat} {e : α → List AV} {h : Hp} {b i n : Nat} {l : List α} (E : EOk k e) (hb : h b = some ⟨k, l.map (ow e)⟩) : view1 h (.own b i n) (.list k (((l.drop i).take n).map e)) :=
  ⟨_, hb, rfl, by rw [map_part]; exact E.views _⟩
omit hT in
theorem va_part {α : Type} {k : Nat} {e : α → List AV} {h : Hp} {b i n : Nat} {l : List α} (E : EOk k e) (hb : h b = some ⟨k, l.map (ow e)⟩) : viewA h (.own b i n) (.list k (((l.drop i).take n).map e)) := v1_part E hb
omit hT in
theorem set_at {α : Type} {f : α → List AV} {l : List α} {i : Nat} {c : List AV} (h : i < l.length) : ((l.map f).set i c)[i]? = some c := by simp [h]
omit hT in
theorem tame_lit {rl : List Nat} {es : List (List AV)} (h : (es.all fun cs => cs.all (tameC rl)) = true) : ∀ cs ∈ es, ∀ c ∈ cs, tameC rl c = true := fun cs hcs c hc => List.all_eq_true.1 (List.all_eq_true.1 h cs hcs) c hc
omit hT in
theorem ent_set {σ : Nat → Option Nat} {m : Nat} {α : Type} {k : Nat} {e : α → List AV} {c d : List AV} {i : Nat} (E : EOk k e) (h : All2 (matchC σ m) c d) : ∀ {l : List α} {i : Nat}, All2 (All2 (matchC σ m)) ((l.map (ow e)).set i c) ((l.map (ow e)).set i d) := by
  have hs : ∀ x, All2 (matchC σ m) (ow e x) (ow e x) := by
    intro x
    have := all2_map (R := matchC σ m) (f := toAbs) (g := toAbs) (cs := e x) (fun c hc => by
      have := E.mem x c hc
      cases c <;> simp only [cellB, Bool.false_eq_true] at this <;> simp [toAbs, matchC, match1])
    exact this
  have hl : ∀ l : List α, All2 (All2 (matchC σ m)) (l.map (ow e)) (l.map (ow e)) := fun l => all2_maps hs
  intro l
  induction l with
  | nil => intro i; rfl
  | cons x l ih =>
    intro i
    cases i with
    | zero => exact ⟨_, _, rfl, h, hl l⟩
    | succ i => exact ⟨_, _, rfl, hs x, ih⟩

omit hT in
theorem x_max {t : TypeId} {x z : Operand} {a b : Int} {dty : TypeId} (hx : s.ev x = some (.int a)) (hz : s.ev z = some (.int b)) :
    AEff P ⟨dst, .call ⟨.builtin .max, #[x, z], #[t, t]⟩, dty, pos, aft, g⟩ s.ev s.heap ⟨.int (max a b), [], [], []⟩ :=
  AEff.pure fun C s' ν ac w hi ht hs => by
    have h1 := hs.ev ((hi x (by simp [Op.operands, Call.operands])).trans hx)
    have h2 := hs.ev ((hi z (by simp [Op.operands, Call.operands])).trans hz)
    simp only [RepA, RepB, Rep1] at h1 h2
    refine ⟨.int .i64 (max a b), ?_, repA_sc rfl⟩
    simp [execOp, resolve, invoke, builtin, h1.1, h2.1, Builtin.max_, Builtin.max2]
    rw [Int.max_def]; split <;> split <;> omega
omit hT in
theorem x_min {t : TypeId} {x z : Operand} {a b : Int} {dty : TypeId} (hx : s.ev x = some (.int a)) (hz : s.ev z = some (.int b)) :
    AEff P ⟨dst, .call ⟨.builtin .min, #[x, z], #[t, t]⟩, dty, pos, aft, g⟩ s.ev s.heap ⟨.int (min a b), [], [], []⟩ :=
  AEff.pure fun C s' ν ac w hi ht hs => by
    have h1 := hs.ev ((hi x (by simp [Op.operands, Call.operands])).trans hx)
    have h2 := hs.ev ((hi z (by simp [Op.operands, Call.operands])).trans hz)
    simp only [RepA, RepB, Rep1] at h1 h2
    refine ⟨.int .i64 (min a b), ?_, repA_sc rfl⟩
    simp [execOp, resolve, invoke, builtin, h1.1, h2.1, Builtin.min_, Builtin.min2]
    rw [Int.min_def]; split <;> split <;> omega

/-- An element that refers to blocks of the call's own. -/
theorem x_app1 {α : Type} {e : α → List AV} {x z : Operand} {t et : Nat} {y ye : Ty} {b b' n k : Nat} {l : List α} {c : List AV} {sv : AV} {ts nm : List Nat} {dty : TypeId} (hf : decide (l.length + 1 ≤ 4294967296) = true) (hns : s.ns.head? = some b') (hx : s.ev x = some (.own b 0 n)) (hb : s.heap b = some ⟨k, l.map e⟩) (hl : l.length = n) (hz : s.ev z = some sv) (hsrc : srcEls s.heap sv = some (k, [c], ts)) (hnm : namesOf c = nm)
    (ok : c.all (okCell s.heap) = true) (hy : tyOf T t = some y) (hd : y.desc = .slice et) (hye : tyOf T et = some ye) (hzl : ye.zero.length = ye.size) (hk : ye.size = k) (hby : Nat.ble ye.bytes 32768 = true) :
    AEff P ⟨dst, .call ⟨.builtin .append, #[x, z], #[t, t]⟩, dty, pos, aft, g⟩ s.ev s.heap ⟨.own b' 0 (l.length + 1), b :: (ts ++ nm), [(b, none), (b', some ⟨k, l.map e ++ [c]⟩)], [b']⟩ := by
  have hf := of_decide_eq_true hf
  have hby := Nat.le_of_ble_eq_true hby
  have h1 := w_app_own (P := P) hT (dst := dst) (pos := pos) (aft := aft) (g := g) (dty := dty) hns hx hb hz hsrc hy hd hye hzl hk.symm hk.symm (by simpa using hl) (by simpa using ok) (by simp; omega) (by simp only [List.length_singleton]; calc (n + 1) * ye.bytes ≤ 4294967296 * 32768 := Nat.mul_le_mul (by omega) hby
                                                                                                                                                                                       _ ≤ 140737488355328 := by decide)
  rw [List.flatten_singleton, hnm, hk] at h1
  rw [hl]
  exact h1
theorem x_app1_nil {x z : Operand} {t et : Nat} {y ye : Ty} {b' k0 k : Nat} {c : List AV} {sv : AV} {ts nm : List Nat} {dty : TypeId} (hns : s.ns.head? = some b') (hx : s.ev x = some (.nil k0)) (hz : s.ev z = some sv) (hsrc : srcEls s.heap sv = some (k, [c], ts)) (hnm : namesOf c = nm)
    (ok : c.all (okCell s.heap) = true) (hy : tyOf T t = some y) (hd : y.desc = .slice et) (hye : tyOf T et = some ye) (hzl : ye.zero.length = ye.size) (hk : ye.size = k) (hby : Nat.ble ye.bytes 32768 = true) :
    AEff P ⟨dst, .call ⟨.builtin .append, #[x, z], #[t, t]⟩, dty, pos, aft, g⟩ s.ev s.heap ⟨.own b' 0 1, ts ++ nm, [(b', some ⟨k, [c]⟩)], [b']⟩ := by
  have hby := Nat.le_of_ble_eq_true hby
  have h1 := w_app_nil (P := P) hT (dst := dst) (pos := pos) (aft := aft) (g := g) (dty := dty) hns hx hz hsrc hy hd hye hzl hk.symm (by simpa using ok) (by simp) (by simp only [List.length_singleton]; omega)
  rw [List.flatten_singleton, hnm, hk] at h1
  exact h1

omit hT in
theorem app_eq {α β : Type} {f : α → β} {l : List α} {c : β} (x : α) (h : c = f x) : l.map f ++ [c] = (l ++ [x]).map f := by rw [h, List.map_append]; rfl
omit hT in
theorem set_eq {α β : Type} {f : α → β} {l : List α} {i : Nat} {c : β} (x : α) (h : c = f x) : (l.map f).set i c = (l.set i x).map f := by rw [h, List.map_set]
end
end Go.Proofs.Ytjfcjkeghigipaa

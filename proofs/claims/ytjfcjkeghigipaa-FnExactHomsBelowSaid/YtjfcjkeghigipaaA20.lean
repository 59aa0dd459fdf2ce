/-
  Contracts of functions that work on what they are handed: a call's slices and pointers as arguments, the blocks behind it, results that share memory with arguments. No program stands in this text.
-/
import Derived.Test.YtjfcjkeghigipaaX3
namespace Go.Proofs.Ytjfcjkeghigipaa
open Go.RowKit
set_option linter.unusedVariables false

/-! ## other names for blocks -/
def nuOf (σ : Nat → Option Nat) (ν : Nu) : Nu := fun b => match σ b with | some b0 => ν b0 | none => none
structure Conv (σ : Nat → Option Nat) (n : Nat) (w : World) (h : Hp) (u : Us) (ν : Nu) (hl : List (Nat × Blk)) : Prop where
  free : ∀ x, Free h ν x → Free (hpL hl) (nuOf σ ν) x
  rep : ∀ {x y : AV} {v : Value}, RepA w h u ν x v → matchA σ n x y → RepA w (hpL hl) (ltb n) (nuOf σ ν) y v
  heap : ∀ {M : Nat → Prop} {φ : Nat → List Nat}, HeapOk M w h u ν φ → HeapOk M w (hpL hl) (ltb n) (nuOf σ ν) (fun b => match σ b with | some b0 => φ b0 | none => [])
  look : ∀ b y, hpL hl b = some y → (∀ b0, σ b = some b0 → ∃ x, h b0 = some x ∧ x.k = y.k ∧ x.es.length = y.es.length) ∧ Nat.blt b n = true
theorem conv_mk {σ : Nat → Option Nat} {n : Nat} {w : World} {h : Hp} {u : Us} {ν : Nu} {hl : List (Nat × Blk)} (hh : EntH σ n h hl) (hi : injB σ hl = true) : Conv σ n w h u ν hl := by
  generalize hν' : nuOf σ ν = ν'
  have hνb : ∀ b, ν' b = match σ b with | some b0 => ν b0 | none => none := fun b => by rw [← hν']; rfl
  have hlive : ∀ b y, hpL hl b = some y → (match σ b with | some b0 => ∃ x, h b0 = some x ∧ matchB σ n x y | none => y.es = []) ∧ Nat.blt b n = true := fun b y h => entH_mem hh (hpL_mem h)
  have hlen : ∀ {x y : Blk}, matchB σ n x y → x.k = y.k ∧ x.es.length = y.es.length := by
    rintro x y ⟨h1, h2 | h2⟩
    · exact ⟨h1, by rw [h2.1]⟩
    · exact ⟨h1, h2.len.symm⟩
  have hfree : ∀ x, Free h ν x → Free (hpL hl) ν' x := by
    intro x hf b y β c hb hν
    have h1 := (hlive b y hb).1
    cases hσ : σ b with
    | none => simp only [hνb, hσ] at hν; cases hν
    | some b0 =>
      rw [hσ] at h1
      simp only [hνb, hσ] at hν
      obtain ⟨z, h2, _⟩ := h1
      exact hf b0 z β c h2 hν
  have m1 : ∀ {x y : AV} {v : Value}, Rep1 w h u ν x v → match1 σ n x y → Rep1 w (hpL hl) (ltb n) ν' y v := by
    intro x y v r m
    cases y
    case dead => trivial
    case sc u => cases x <;> simp only [match1] at m <;> first | exact m.elim | (subst m; exact r)
    case nil k => cases x <;> simp only [match1] at m <;> first | exact m.elim | exact r
    case list k es =>
      cases x <;> simp only [match1] at m <;> first | exact m.elim | skip
      · subst m
        simp only [Rep1] at r ⊢
        exact ⟨[], by rw [r]; exact repD_nil, by simp⟩
      · obtain ⟨rfl, rfl⟩ := m
        obtain ⟨S, r1, r2⟩ := r
        exact ⟨S, r1, fun x hx => hfree x (r2 x hx)⟩
    case ref cs =>
      cases x <;> simp only [match1] at m <;> first | exact m.elim | skip
      subst m
      obtain ⟨S, r1, r2⟩ := r
      exact ⟨S, r1, fun x hx => hfree x (r2 x hx)⟩
    case own b i q =>
      cases x <;> simp only [match1] at m <;> first | exact m.elim | skip
      · obtain ⟨m1, rfl, rfl, m4⟩ := m
        simp only [Rep1] at r ⊢
        refine ⟨m4, fun blk hb => ?_⟩
        have h1 := (hlive b blk hb).1
        rw [m1] at h1
        refine ⟨by simp, fun _ => r, fun β c hν => ?_⟩
        simp only [hνb, m1] at hν
        cases hν
      · rename_i b0 i0 q0
        obtain ⟨m1, rfl, rfl, m4⟩ := m
        simp only [Rep1] at r ⊢
        refine ⟨m4, fun blk hb => ?_⟩
        have h1 := (hlive b blk hb).1
        rw [m1] at h1
        obtain ⟨z, h2, h3⟩ := h1
        obtain ⟨k1, k2⟩ := hlen h3
        obtain ⟨r1, r2, r3⟩ := r.2 z h2
        refine ⟨by rw [← k2]; exact r1, fun hν => r2 (by simpa only [hνb, m1] using hν), fun β c hν => ?_⟩
        rw [← k1]
        exact r3 β c (by simpa only [hνb, m1] using hν)
    case ptr b i q =>
      cases x <;> simp only [match1] at m <;> first | exact m.elim | skip
      rename_i b0 i0 q0
      obtain ⟨m1, rfl, rfl, m4⟩ := m
      simp only [Rep1] at r ⊢
      refine ⟨m4, fun blk hb => ?_⟩
      have h1 := (hlive b blk hb).1
      rw [m1] at h1
      obtain ⟨z, h2, h3⟩ := h1
      obtain ⟨k1, k2⟩ := hlen h3
      obtain ⟨β, c, r1, r2⟩ := r.2 z h2
      exact ⟨β, c, by simpa only [hνb, m1] using r1, by rw [← k1]; exact r2⟩
    all_goals (cases x <;> simp only [match1] at m)
  have mL : ∀ {xs ys : List AV} {vs : List Value}, All2 (Rep1 w h u ν) xs vs → All2 (match1 σ n) xs ys → All2 (Rep1 w (hpL hl) (ltb n) ν') ys vs := by
    intro xs
    induction xs with
    | nil => intro ys vs r m; simp only [All2] at r m; subst r m; rfl
    | cons x xs ih =>
      rintro ys vs ⟨v, r, rfl, h1, h2⟩ ⟨y, q, rfl, k1, k2⟩
      exact ⟨v, r, rfl, m1 h1 k1, ih h2 k2⟩
  have mC : ∀ {x y : AV} {v : Value} {S : List Nat}, CellRep w h u ν x v S → matchC σ n x y → CellRep w (hpL hl) (ltb n) ν' y v S := by
    intro x y v S r m
    cases x <;> cases y <;> simp only [matchC] at m <;> simp only [CellRep] at r ⊢ <;> first
      | exact m.elim
      | exact r.elim
      | exact ⟨m1 r.1 m, r.2⟩
      | (obtain ⟨rfl, rfl⟩ := m; exact r)
      | (obtain ⟨r1, rfl⟩ := r; subst m; simp only [Rep1] at r1; rw [r1]; exact repO_nil)
      | (simp only [match1] at m)
  have mCs : ∀ {xs ys : List AV} {vs : List Value} {S : List Nat}, CellsRep w h u ν xs vs S → All2 (matchC σ n) xs ys → CellsRep w (hpL hl) (ltb n) ν' ys vs S := by
    intro xs
    induction xs with
    | nil => intro ys vs S r m; simp only [All2] at m; subst m; exact r
    | cons x xs ih =>
      rintro ys vs S ⟨v, r, S1, S2, rfl, rfl, h1, h2⟩ ⟨y, q, rfl, k1, k2⟩
      exact ⟨v, r, S1, S2, rfl, rfl, mC h1 k1, ih h2 k2⟩
  have mSelf : ∀ {xs : List AV} {vs : List Value} {S : List Nat}, CellsRep w h u ν xs vs S → (∀ c ∈ xs, nameless c = true) → CellsRep w (hpL hl) (ltb n) ν' xs vs S := by
    intro xs vs S r hp
    refine mCs r ?_
    clear r
    induction xs with
    | nil => rfl
    | cons x xs ih =>
      refine ⟨x, xs, rfl, ?_, ih (fun c hc => hp c (by simp [hc]))⟩
      have := hp x (by simp)
      cases x <;> simp only [nameless, Bool.false_eq_true] at this <;> simp [matchC, match1]
  have mFlat : ∀ {es fs : List (List AV)} {R : AV → AV → Prop}, All2 (All2 R) es fs → All2 R es.flatten fs.flatten := by
    intro es
    induction es with
    | nil => intro fs R h; simp only [All2] at h; subst h; rfl
    | cons c es ih =>
      rintro fs R ⟨d, fs', rfl, h1, h2⟩
      rw [List.flatten_cons, List.flatten_cons]
      exact h1.append (ih h2)
  have mlens : ∀ {es fs : List (List AV)} {k : Nat}, All2 (All2 (matchC σ n)) es fs → (∀ cs ∈ es, cs.length = k) → ∀ cs ∈ fs, cs.length = k := by
    intro es
    induction es with
    | nil => intro fs k h _ cs hcs; simp only [All2] at h; subst h; cases hcs
    | cons c es ih =>
      rintro fs k ⟨d, fs', rfl, h1, h2⟩ hk cs hcs
      rcases List.mem_cons.1 hcs with rfl | h
      · rw [h1.len]; exact hk c (by simp)
      · exact ih h2 (fun x hx => hk x (by simp [hx])) cs h
  subst hν'
  refine ⟨hfree, ?_, ?_, fun b y hb => ⟨fun b0 e => ?_, (hlive b y hb).2⟩⟩
  · intro x y v h4 h2
    cases x <;> cases y <;> simp only [matchA] at h2 <;> simp only [RepA, RepB] at h4 ⊢ <;> first
      | exact m1 h4 h2
      | (obtain ⟨vs, e1, e2⟩ := h4; exact ⟨vs, e1, mL e2 h2⟩)
      | (obtain ⟨vs, e1, e2⟩ := h4; obtain ⟨rfl, h2⟩ := h2; exact ⟨vs, e1, mL e2 h2⟩)
      | trivial
      | (simp only [match1] at h2)
  · intro M φ hφ
    refine ⟨?_, ?_⟩
    · intro b y hb
      obtain ⟨h1, h2⟩ := hlive b y hb
      refine ⟨h2, ?_⟩
      cases hσ : σ b with
      | none =>
        rw [hσ] at h1
        simp only
        exact ⟨⟨by rw [h1]; simp, .inl ⟨by simp only [hνb, hσ], h1, rfl⟩⟩, by simp, by simp⟩
      | some b0 =>
        rw [hσ] at h1
        simp only
        obtain ⟨x, h3, h4⟩ := h1
        obtain ⟨g1, ⟨g2, g3⟩, g4, g5⟩ := hφ.blk b0 x h3
        obtain ⟨k1, k2⟩ := hlen h4
        refine ⟨⟨?_, ?_⟩, g4, g5⟩
        · rcases h4.2 with ⟨e1, _⟩ | e1
          · rw [← e1, ← k1]; exact g2
          · rw [← k1]; exact mlens e1 g2
        · rcases g3 with ⟨q1, q2, q3⟩ | ⟨β, c, arr, ty, T, vs, q1, q2, q3, q4, q5, q6, q7, q8⟩
          · exact .inl ⟨by simp only [hνb, hσ]; exact q1, by rw [q2] at k2; exact List.eq_nil_of_length_eq_zero k2.symm, q3⟩
          · refine .inr ⟨β, c, arr, ty, T, vs, by simp only [hνb, hσ]; exact q1, q2, by rw [← k1]; exact q3, by rw [← k2]; exact q4, q5, q6, by rw [← k1, ← k2]; exact q7, ?_⟩
            rcases h4.2 with ⟨e1, e2⟩ | e1
            · rw [e1] at q8
              exact mSelf q8 (fun c hc => by obtain ⟨cs, hcs, hc'⟩ := List.mem_flatten.1 hc; exact e2 cs hcs c hc')
            · exact mCs q8 (mFlat e1)
    · intro b c z hb hc hne hzb hzc
      obtain ⟨y1, hy1⟩ := Option.ne_none_iff_exists'.1 hb
      obtain ⟨y2, hy2⟩ := Option.ne_none_iff_exists'.1 hc
      have i1 := (injB_mem hi (hpL_mem hy1) (hpL_mem hy2)).2 hne
      have l1 := (hlive b y1 hy1).1
      have l2 := (hlive c y2 hy2).1
      cases h1 : σ b with
      | none => rw [h1] at hzb; cases hzb
      | some b0 =>
        cases h2 : σ c with
        | none => rw [h2] at hzc; cases hzc
        | some c0 =>
          rw [h1] at hzb l1
          rw [h2] at hzc l2
          obtain ⟨x1, p1, _⟩ := l1
          obtain ⟨x2, p2, _⟩ := l2
          exact hφ.apart b0 c0 z (by rw [p1]; simp) (by rw [p2]; simp) (fun e => i1 b0 h1 (by rw [h2, e])) hzb hzc
  · have h1 := (hlive b y hb).1
    rw [e] at h1
    obtain ⟨x, h2, h3⟩ := h1
    exact ⟨x, h2, (hlen h3).1, (hlen h3).2⟩

end Go.Proofs.Ytjfcjkeghigipaa

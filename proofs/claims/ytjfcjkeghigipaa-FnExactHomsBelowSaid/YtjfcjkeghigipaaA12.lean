/-
  Calls over abstract states: arguments, results, contracts. No program stands in this text.
-/
import Derived.Test.YtjfcjkeghigipaaA11
namespace Go.Proofs.Ytjfcjkeghigipaa
open Go.RowKit

/-! ## arguments: what is the call's own, seen as data -/
def view0 : AV → AV → Prop
  | .sc u, .sc v => u = v
  | .abs k es, .list k' es' => k = k' ∧ es = es'
  | .list k es, .list k' es' => k = k' ∧ es = es'
  | .nil _, .list _ es => es = []
  | .nil _, .sc v => v = .slice none 0 0
  | .ref cs, .ref cs' => cs = cs'
  | _, _ => False
def view1 (h : Hp) : AV → AV → Prop
  | .own b i n, .list k es => ∃ blk, h b = some blk ∧ blk.k = k ∧ All2 (All2 view0) ((blk.es.drop i).take n) es
  | x, d => view0 x d
def viewP (h : Hp) : AV → AV → Prop
  | .ptr b i j, .ref cs => ∃ blk c, h b = some blk ∧ blk.es[i]? = some c ∧ All2 (view1 h) (c.drop j) cs
  | x, d => view1 h x d
def viewA (h : Hp) : AV → AV → Prop
  | .agg cs, .agg ds => All2 (view1 h) cs ds
  | .fn f cs, .fn f' ds => f = f' ∧ All2 (viewP h) cs ds
  | x, d => viewP h x d

def touch1 : AV → List Nat
  | .own b _ _ => [b]
  | _ => []
def touchP (h : Hp) : AV → List Nat
  | .ptr b i _ => b :: (match h b with | some blk => (match blk.es[i]? with | some c => c.flatMap touch1 | none => []) | none => [])
  | x => touch1 x
def touchA (h : Hp) : AV → List Nat
  | .agg cs => cs.flatMap touch1
  | .fn _ cs => cs.flatMap (touchP h)
  | x => touchP h x

theorem view1.congr {h h' : Hp} {x d : AV} (v : view1 h x d) (e : ∀ b ∈ touch1 x, h' b = h b) : view1 h' x d := by
  by_cases ho : ∃ b i n k es, x = .own b i n ∧ d = .list k es
  · obtain ⟨b, i, n, k, es, rfl, rfl⟩ := ho
    simp only [view1] at v ⊢
    obtain ⟨blk, h1, h2⟩ := v
    exact ⟨blk, by rw [e b (by simp [touch1]), h1], h2⟩
  · have key : ∀ g : Hp, view1 g x d = view0 x d := by
      intro g
      cases x <;> cases d <;> first | rfl | exact absurd ⟨_, _, _, _, _, rfl, rfl⟩ ho
    rw [key] at v ⊢
    exact v
theorem All2.congrM {α β : Type} {R R' : α → β → Prop} : ∀ {cs : List α} {ds : List β}, All2 R cs ds → (∀ x ∈ cs, ∀ d, R x d → R' x d) → All2 R' cs ds
  | [], _, h, _ => by simpa only [All2] using h
  | c :: cs, ds, ⟨d, r, h1, h2, h3⟩, hr => ⟨d, r, h1, hr c (by simp) d h2, h3.congrM (fun x hx => hr x (by simp [hx]))⟩
theorem viewP.congr {h h' : Hp} {x d : AV} (v : viewP h x d) (e : ∀ b ∈ touchP h x, h' b = h b) : viewP h' x d := by
  by_cases ho : ∃ b i j cs, x = .ptr b i j ∧ d = .ref cs
  · obtain ⟨b, i, j, cs, rfl, rfl⟩ := ho
    simp only [viewP] at v ⊢
    obtain ⟨blk, c, h1, h2, h3⟩ := v
    refine ⟨blk, c, by rw [e b (by simp [touchP]), h1], h2, h3.congrM fun x hx d hd => hd.congr fun b2 hb => e b2 ?_⟩
    simp only [touchP, h1, h2]
    exact List.mem_cons_of_mem _ (List.mem_flatMap.2 ⟨x, List.mem_of_mem_drop hx, hb⟩)
  · have key : ∀ g : Hp, viewP g x d = view1 g x d := by
      intro g
      cases x <;> cases d <;> first | rfl | exact absurd ⟨_, _, _, _, rfl, rfl⟩ ho
    rw [key] at v ⊢
    refine v.congr fun b hb => e b ?_
    cases x <;> simp only [touch1, touchP] at hb ⊢ <;> first | exact hb | cases hb
theorem viewA.congr {h h' : Hp} {x d : AV} (v : viewA h x d) (e : ∀ b ∈ touchA h x, h' b = h b) : viewA h' x d := by
  by_cases ho : ∃ cs ds, x = .agg cs ∧ d = .agg ds
  · obtain ⟨cs, ds, rfl, rfl⟩ := ho
    simp only [viewA] at v ⊢
    exact v.congrM fun x hx d hd => hd.congr fun b hb => e b (List.mem_flatMap.2 ⟨x, hx, hb⟩)
  · by_cases hf : ∃ f cs f' ds, x = .fn f cs ∧ d = .fn f' ds
    · obtain ⟨f, cs, f', ds, rfl, rfl⟩ := hf
      simp only [viewA] at v ⊢
      exact ⟨v.1, v.2.congrM fun x hx d hd => hd.congr fun b hb => e b (List.mem_flatMap.2 ⟨x, hx, hb⟩)⟩
    · have key : ∀ g : Hp, viewA g x d = viewP g x d := by
        intro g
        cases x <;> cases d <;> first | rfl | exact absurd ⟨_, _, rfl, rfl⟩ ho | exact absurd ⟨_, _, _, _, rfl, rfl⟩ hf
      rw [key] at v ⊢
      refine v.congr fun b hb => e b ?_
      cases x <;> simp only [touchP, touch1, touchA] at hb ⊢ <;> first | exact hb | cases hb
theorem repD_sc {w : World} {u : Value} (h : u.oneCell' = true) : RepD w (.sc u) u [] := by
  unfold RepD
  exact ⟨rfl, h, rfl⟩
theorem view0.rep {w : World} {h : Hp} {u : Us} {ν : Nu} {x d : AV} {v : Value} {S : List Nat} (r : CellRep w h u ν x v S) (m : view0 x d) : (∃ S', RepD w d v S') ∧ v.oneCell' = true := by
  have one : ∀ k es S, RepD w (.list k es) v S → v.oneCell' = true := by
    intro k es S r; simp only [RepD] at r; obtain ⟨a, c, rfl, _⟩ := r; rfl
  cases x <;> cases d <;> simp only [view0] at m <;> simp only [CellRep, Rep1] at r
  · obtain ⟨⟨rfl, r2⟩, _⟩ := r
    subst m
    exact ⟨⟨[], repD_sc r2⟩, r2⟩
  · obtain ⟨rfl, _⟩ := r
    subst m
    exact ⟨⟨[], repD_sc rfl⟩, rfl⟩
  · obtain ⟨rfl, _⟩ := r
    subst m
    exact ⟨⟨[], repD_nil⟩, rfl⟩
  · obtain ⟨⟨S', r1, _⟩, _⟩ := r
    obtain ⟨rfl, rfl⟩ := m
    exact ⟨⟨S', r1⟩, one _ _ _ r1⟩
  · obtain ⟨rfl, rfl⟩ := m
    exact ⟨⟨S, r.repD⟩, one _ _ _ r.repD⟩
  · obtain ⟨⟨S', r1, _⟩, _⟩ := r
    subst m
    refine ⟨⟨S', r1⟩, ?_⟩
    simp only [RepD] at r1
    obtain ⟨b, o, T, rfl, _⟩ := r1
    rfl
theorem view0.rep1 {w : World} {h : Hp} {u : Us} {ν : Nu} {x d : AV} {v : Value} (r : Rep1 w h u ν x v) (m : view0 x d) : (∃ S', RepD w d v S') ∧ v.oneCell' = true := by
  refine view0.rep (h := h) (u := u) (ν := ν) (S := []) ?_ m
  cases x <;> first | exact ⟨r, rfl⟩ | exact r.elim | (cases d <;> exact m.elim)

theorem cells_data {w : World} {h : Hp} {u : Us} {ν : Nu} {β : Nat} : ∀ {cs ds : List AV} {vs : List Value} {S : List Nat} {o : Nat}, CellsRep w h u ν cs vs S → All2 view0 cs ds → (∀ j y, vs[j]? = some y → w.cell? ⟨β, o + j, none⟩ = some y ∧ w.frozen? ⟨β, o + j, none⟩ = false) → ∃ S', RepCs w β o ds S'
  | [], ds, vs, S, o, _, m, _ => by simp only [All2] at m; subst m; exact ⟨[], by simp [RepCs]⟩
  | c :: cs, ds, vs, S, o, ⟨v, r, S1, S2, h1, h2, h3, h4⟩, ⟨d, q, hq, m1, m2⟩, hc => by
    subst h1; subst hq
    obtain ⟨⟨S3, e1⟩, e2⟩ := view0.rep h3 m1
    obtain ⟨S4, e3⟩ := cells_data (o := o + 1) h4 m2 (fun j y hy => by have := hc (j + 1) y (by simpa using hy); rw [show o + (j + 1) = o + 1 + j by omega] at this; exact this)
    have h0 := hc 0 v rfl
    rw [Nat.add_zero] at h0
    exact ⟨S3 ++ S4, by simp only [RepCs]; exact ⟨v, S3, S4, h0.1, h0.2, e2, rfl, e1, e3⟩⟩
theorem els_data {w : World} {h : Hp} {u : Us} {ν : Nu} {β k : Nat} : ∀ {els es : List (List AV)} {vs : List Value} {S : List Nat} {o : Nat}, (∀ cs ∈ els, cs.length = k) → CellsRep w h u ν els.flatten vs S → All2 (All2 view0) els es → (∀ j y, vs[j]? = some y → w.cell? ⟨β, o + j, none⟩ = some y ∧ w.frozen? ⟨β, o + j, none⟩ = false) → ∃ S', RepEs w k β o es S'
  | [], es, vs, S, o, _, _, m, _ => by simp only [All2] at m; subst m; exact ⟨[], by simp [RepEs]⟩
  | c :: els, es, vs, S, o, hk, r, ⟨d, q, hq, m1, m2⟩, hc => by
    subst hq
    rw [List.flatten_cons] at r
    obtain ⟨v1, v2, S1, S2, rfl, rfl, e3, e4, e5⟩ := r.append_inv
    have hck := hk c (by simp)
    obtain ⟨S3, g1⟩ := cells_data (o := o) e4 m1 (fun j y hy => hc j y (by
      have hj : j < v1.length := by
        rcases Nat.lt_or_ge j v1.length with h' | h'
        · exact h'
        · rw [List.getElem?_eq_none h'] at hy; cases hy
      rw [List.getElem?_append_left hj]; exact hy))
    obtain ⟨S4, g2⟩ := els_data (o := o + k) (fun x hx => hk x (by simp [hx])) e5 m2 (fun j y hy => by
      have := hc (k + j) y (by rw [List.getElem?_append_right (by omega)]; rw [show k + j - v1.length = j by omega]; exact hy)
      rw [← Nat.add_assoc] at this
      exact this)
    exact ⟨S3 ++ S4, by simp only [RepEs]; exact ⟨S3, S4, rfl, by rw [m1.len]; exact hck, g1, g2⟩⟩

theorem view1.rep {B : Nat → Prop} {w : World} {h : Hp} {u : Us} {ν : Nu} {φ : Nat → List Nat} (hh : HeapOk B w h u ν φ) {x d : AV} {v : Value} (r : Rep1 w h u ν x v) (m : view1 h x d) : (∃ S', RepD w d v S') ∧ v.oneCell' = true := by
  by_cases ho : ∃ b i n, x = .own b i n
  · obtain ⟨b, i, n, rfl⟩ := ho
    cases d <;> simp only [view1, view0] at m
    rename_i k es
    obtain ⟨blk, hb, rfl, m⟩ := m
    simp only [Rep1] at r
    obtain ⟨r1, r2, r3⟩ := r.2 blk hb
    obtain ⟨_, ⟨hk, hx⟩, _, _⟩ := hh.blk b blk hb
    have hlen : es.length = n := by rw [m.len]; simp; omega
    rcases hx with ⟨q1, q2, _⟩ | ⟨β, c, arr, ty, T, vs, q1, q2, q3, q4, q5, q6, q7, q8⟩
    · rw [q2] at r1
      have : n = 0 := by simp at r1; omega
      have hes : es = [] := List.eq_nil_of_length_eq_zero (by omega)
      subst hes
      rw [r2 q1]
      exact ⟨⟨[], repD_nil⟩, rfl⟩
    · by_cases hic : c ≤ i
      · have hn : n = 0 := by omega
        have hes : es = [] := List.eq_nil_of_length_eq_zero (by omega)
        subst hes
        subst hn
        obtain ⟨o, ho, _⟩ := r3 β c q1
        rw [ho]
        refine ⟨⟨[], ?_⟩, rfl⟩
        unfold RepD
        exact ⟨_, _, rfl, by simp, by omega, .inl ⟨rfl, rfl⟩⟩
      obtain ⟨T1, g1, g2⟩ := q8.drop (i * blk.k)
      obtain ⟨T2, g3, g4⟩ := g1.take (n * blk.k)
      rw [← flatten_dt hk] at g3
      obtain ⟨S', g5⟩ := els_data (β := β) (o := i * blk.k) (fun cs hcs => hk cs (List.mem_of_mem_drop (List.mem_of_mem_take hcs))) g3 m (fun j y hy => by
        have hj : j < n * blk.k := by
          rcases Nat.lt_or_ge j (n * blk.k) with h' | h'
          · exact h'
          · rw [List.getElem?_eq_none (by simp; omega)] at hy; cases hy
        rw [List.getElem?_take_of_lt hj, List.getElem?_drop, ← q7] at hy
        have hlt : i * blk.k + j < blk.es.length * blk.k := by
          rcases Nat.lt_or_ge (i * blk.k + j) (blk.es.length * blk.k) with h' | h'
          · exact h'
          · rw [List.getElem?_eq_none (by simp; omega)] at hy; cases hy
        rw [List.getElem?_take_of_lt hlt] at hy
        refine ⟨?_, by simp [World.frozen?, q2]⟩
        simp only [World.cell?, q2]
        simpa using hy)
      rw [(r3 β c q1).pos (by omega)]
      refine ⟨⟨β :: S', ?_⟩, rfl⟩
      simp only [RepD]
      exact ⟨_, c - i, by rw [hlen], by omega, by omega, .inr ⟨β, i * blk.k, S', rfl, lt_of_some q2, rfl, g5⟩⟩
  · have m' : view0 x d := by
      cases x <;> simp only [view1] at m <;> first | exact m | exact absurd ⟨_, _, _, rfl⟩ ho
    exact view0.rep1 r m'

theorem CellRep.rep1c {w : World} {h : Hp} {u : Us} {ν : Nu} {x : AV} {v : Value} {S : List Nat} (r : CellRep w h u ν x v S) : Rep1 w h u ν x v ∨ ∃ k es, x = .abs k es := by
  cases x <;> simp only [CellRep] at r <;> first | exact .inl r.1 | exact .inr ⟨_, _, rfl⟩ | exact r.elim

theorem viewP.rep {B : Nat → Prop} {w : World} {h : Hp} {u : Us} {ν : Nu} {φ : Nat → List Nat} (hh : HeapOk B w h u ν φ) {x d : AV} {v : Value} (r : Rep1 w h u ν x v) (m : viewP h x d) : (∃ S', RepD w d v S') ∧ v.oneCell' = true := by
  by_cases ho : ∃ b i j, x = .ptr b i j
  · obtain ⟨b, i, j, rfl⟩ := ho
    cases d <;> simp only [viewP, view1, view0] at m
    rename_i cs
    obtain ⟨blk, c, hb, hi, m⟩ := m
    simp only [Rep1] at r
    obtain ⟨β, cp, r1, r2⟩ := r.2 blk hb
    obtain ⟨_, ⟨hk, hx⟩, _, _⟩ := hh.blk b blk hb
    rcases hx with ⟨q1, _⟩ | ⟨β', c', arr, ty, T, vs, q1, q2, q3, q4, q5, q6, q7, q8⟩
    · rw [q1] at r1; cases r1
    · rw [r1] at q1
      cases q1
      have hck := hk c (List.mem_of_getElem? hi)
      obtain ⟨r0, hr0⟩ := flatten_at hk hi
      obtain ⟨T1, g1, g2⟩ := q8.drop (i * blk.k)
      rw [hr0] at g1
      obtain ⟨v1, v2, S1, S2, e1, e2, e3, e4, e5⟩ := g1.append_inv
      obtain ⟨T3, g3, _⟩ := e4.drop j
      have hcell : ∀ m y, (v1.drop j)[m]? = some y → w.cell? ⟨β, i * blk.k + j + m, none⟩ = some y ∧ w.frozen? ⟨β, i * blk.k + j + m, none⟩ = false := by
        intro m y hy
        rw [List.getElem?_drop] at hy
        have hlt1 : j + m < v1.length := by
          rcases Nat.lt_or_ge (j + m) v1.length with h' | h'
          · exact h'
          · rw [List.getElem?_eq_none h'] at hy; cases hy
        have hy2 : vs[i * blk.k + (j + m)]? = some y := by
          rw [← List.getElem?_drop, e1, List.getElem?_append_left hlt1]
          exact hy
        rw [← q7] at hy2
        have hlt : i * blk.k + (j + m) < blk.es.length * blk.k := by
          rcases Nat.lt_or_ge (i * blk.k + (j + m)) (blk.es.length * blk.k) with h' | h'
          · exact h'
          · rw [List.getElem?_eq_none (by simp; omega)] at hy2; cases hy2
        rw [List.getElem?_take_of_lt hlt] at hy2
        rw [show i * blk.k + j + m = i * blk.k + (j + m) by omega]
        refine ⟨?_, by simp [World.frozen?, q2]⟩
        simp only [World.cell?, q2]
        simpa using hy2
      have key : ∀ {xs ds : List AV} {us : List Value} {S : List Nat} {o : Nat}, CellsRep w h u ν xs us S → All2 (view1 h) xs ds → (∀ m y, us[m]? = some y → w.cell? ⟨β, o + m, none⟩ = some y ∧ w.frozen? ⟨β, o + m, none⟩ = false) → ∃ S', RepCs w β o ds S' := by
        intro xs
        induction xs with
        | nil => intro ds us S o _ m _; simp only [All2] at m; subst m; exact ⟨[], by simp [RepCs]⟩
        | cons x xs ih =>
          rintro ds us S o ⟨v, r, S1, S2, rfl, rfl, h3, h4⟩ ⟨d, q, rfl, m1, m2⟩ hc
          have hone : (∃ S', RepD w d v S') ∧ v.oneCell' = true := by
            rcases h3.rep1c with h5 | ⟨k, es, rfl⟩
            · exact m1.rep hh h5
            · exact view0.rep h3 (by simpa only [view1] using m1)
          obtain ⟨⟨S3, e1⟩, e2⟩ := hone
          obtain ⟨S4, e3⟩ := ih (o := o + 1) h4 m2 (fun j y hy => by have := hc (j + 1) y (by simpa using hy); rw [show o + (j + 1) = o + 1 + j by omega] at this; exact this)
          have h0 := hc 0 v rfl
          rw [Nat.add_zero] at h0
          exact ⟨S3 ++ S4, by simp only [RepCs]; exact ⟨v, S3, S4, h0.1, h0.2, e2, rfl, e1, e3⟩⟩
      obtain ⟨S', g5⟩ := key g3 m hcell
      refine ⟨⟨β :: S', ?_⟩, by rw [r2]; rfl⟩
      rw [r2]
      simp only [RepD]
      exact ⟨β, i * blk.k + j, S', rfl, lt_of_some q2, rfl, g5⟩
  · have m' : view1 h x d := by
      cases x <;> simp only [viewP] at m <;> first | exact m | exact absurd ⟨_, _, _, rfl⟩ ho
    exact m'.rep hh r

theorem views_rep {w : World} {R : AV → Value → Prop} {V : AV → AV → Prop} (hr : ∀ x d v, R x v → V x d → ∃ S', RepD w d v S') : ∀ {xs ds : List AV} {vs : List Value}, All2 R xs vs → All2 V xs ds → ∃ S', RepVs w ds vs S'
  | [], ds, vs, r, m => by simp only [All2] at r m; subst r; subst m; exact ⟨[], by simp [RepVs]⟩
  | x :: xs, ds, vs, ⟨v, q, h1, h2, h3⟩, ⟨d, p, g1, g2, g3⟩ => by
    subst h1; subst g1
    obtain ⟨S1, e1⟩ := hr x d v h2 g2
    obtain ⟨S2, e2⟩ := views_rep hr h3 g3
    exact ⟨S1 ++ S2, by simp only [RepVs]; exact ⟨v, q, S1, S2, rfl, rfl, e1, e2⟩⟩

theorem viewA.rep {B : Nat → Prop} {w : World} {h : Hp} {u : Us} {ν : Nu} {φ : Nat → List Nat} (hh : HeapOk B w h u ν φ) {x d : AV} {v : Value} (r : RepA w h u ν x v) (m : viewA h x d) : ∃ S', RepD w d v S' := by
  cases x <;> simp only [RepA, RepB] at r
  case agg cs =>
    cases d <;> simp only [viewA, viewP, view1, view0] at m
    obtain ⟨vs, rfl, r⟩ := r
    obtain ⟨S, e⟩ := views_rep (V := view1 h) (fun x d v hr hv => (view1.rep hh hr hv).1) r m
    exact ⟨S, by simp only [RepD]; exact ⟨vs, rfl, e⟩⟩
  case fn f cs =>
    cases d <;> simp only [viewA, viewP, view1, view0] at m
    obtain ⟨rfl, m⟩ := m
    obtain ⟨vs, rfl, r⟩ := r
    obtain ⟨S, e⟩ := views_rep (V := viewP h) (fun x d v hr hv => (viewP.rep hh hr hv).1) r m
    exact ⟨S, by simp only [RepD]; exact ⟨vs, rfl, e⟩⟩
  case tuple cs => cases d <;> exact m.elim
  all_goals
    refine (viewP.rep hh r ?_).1
    cases d <;> exact m

/-! ## results -/
def ResCell (w : World) : AV → Value → List Nat → Prop
  | .sc u, v, S => v = u ∧ u.oneCell' = true ∧ S = []
  | .list k es, v, S => (es = [] ∧ v = .slice none 0 0 ∧ S = []) ∨
      ∃ β c arr ty T vs, v = .slice (some ⟨β, 0, none⟩) es.length c ∧ w.heap[β]? = some (.cells arr ty (0, 0)) ∧ arr.size = c * k ∧ es.length ≤ c ∧ c ≤ maxLen ∧ (∀ cs ∈ es, cs.length = k) ∧ S = β :: T ∧ arr.toList.take (es.length * k) = vs ∧ RepOV w es.flatten vs T
  | _, _, _ => False
def ResCells (w : World) : List AV → List Value → List Nat → Prop
  | [], vs, S => vs = [] ∧ S = []
  | c :: cs, vs, S => ∃ v r S1 S2, vs = v :: r ∧ S = S1 ++ S2 ∧ ResCell w c v S1 ∧ ResCells w cs r S2
def ResB (w : World) : AV → Value → List Nat → Prop
  | .agg cs, v, S => ∃ vs, v = .agg vs.toArray ∧ ResCells w cs vs S
  | x, v, S => ResCell w x v S
def ResBs (w : World) : List AV → List Value → List Nat → Prop
  | [], vs, S => vs = [] ∧ S = []
  | c :: cs, vs, S => ∃ v r S1 S2, vs = v :: r ∧ S = S1 ++ S2 ∧ ResB w c v S1 ∧ ResBs w cs r S2
def ResA (w : World) : AV → Value → List Nat → Prop
  | .tuple cs, v, S => ∃ vs, v = .tuple vs.toArray ∧ ResBs w cs vs S
  | x, v, S => ResB w x v S

/-- The contract of a function: handed data, it returns new data and leaves all that was there. -/
structure HasC (P : Program) (f : FuncId) (ds : List AV) (r : AV) : Prop where
  enters : Enters P f
  calls : ∀ (w : World) (args : Array Value) (S : List Nat), RepVs w ds args.toList S → Calls P f args w fun e w' => ∃ v S', e = .returned v ∧ Below w.heap.size w w' ∧ ResA w' r v S' ∧ New w.heap.size S'

def toAbs : AV → AV
  | .list k es => .abs k es
  | x => x
def absEs (es : List (List AV)) : List (List AV) := es.map (List.map toAbs)
def imp1 : List Nat → AV → AV × List (Nat × Blk) × List Nat
  | b :: ns, .list k es => (.own b 0 es.length, [(b, ⟨k, absEs es⟩)], ns)
  | ns, x => (x, [], ns)
def imp1s : List Nat → List AV → List AV × List (Nat × Blk) × List Nat
  | ns, [] => ([], [], ns)
  | ns, x :: xs =>
    match imp1 ns x with
    | (a, b1, ns1) => match imp1s ns1 xs with
      | (as, b2, ns2) => (a :: as, b1 ++ b2, ns2)
def impB : List Nat → AV → AV × List (Nat × Blk) × List Nat
  | ns, .agg cs => match imp1s ns cs with | (as, b, n) => (.agg as, b, n)
  | ns, x => imp1 ns x
def impBs : List Nat → List AV → List AV × List (Nat × Blk) × List Nat
  | ns, [] => ([], [], ns)
  | ns, x :: xs =>
    match impB ns x with
    | (a, b1, ns1) => match impBs ns1 xs with
      | (as, b2, ns2) => (a :: as, b1 ++ b2, ns2)
def impA : List Nat → AV → AV × List (Nat × Blk) × List Nat
  | ns, .tuple cs => match impBs ns cs with | (as, b, n) => (.tuple as, b, n)
  | ns, x => impB ns x

/-- A value of numbers and of the call's own slices. -/
def flat1 : AV → Bool
  | .sc _ => true
  | .own _ _ _ => true
  | _ => false

theorem vs_abs {w : World} {h : Hp} {u : Us} {ν : Nu} : ∀ {cs : List AV} {vs : List Value} {S : List Nat}, RepOV w cs vs S → (∀ c ∈ cs, plainD c = true) → (∀ c ∈ cs, ∀ ds, c ≠ .ref ds) → CellsRep w h u ν (cs.map toAbs) vs S
  | [], vs, S, r, _, _ => by simp only [RepOV] at r; exact r
  | c :: cs, vs, S, r, hp, hr => by
    simp only [RepOV] at r
    obtain ⟨v, q, S1, S2, rfl, rfl, h2, h3, h4⟩ := r
    refine ⟨v, q, S1, S2, rfl, rfl, ?_, vs_abs h4 (fun c hc => hp c (by simp [hc])) (fun c hc => hr c (by simp [hc]))⟩
    have hc := hp c (by simp)
    have hcr := hr c (by simp)
    cases c <;> simp only [plainD, Bool.false_eq_true] at hc
    · simp only [RepO] at h3; simp only [toAbs, CellRep, Rep1]; exact ⟨⟨h3.1, h3.2.1⟩, h3.2.2⟩
    · exact h3
    · exact absurd rfl (hcr _)

/-- Elements that hold numbers and lists only. -/
def goodEs (es : List (List AV)) : Prop := ∀ cs ∈ es, ∀ c ∈ cs, plainD c = true ∧ ∀ ds, c ≠ .ref ds
def good1 : AV → Prop
  | .list _ es => goodEs es
  | _ => True


/-! ## taking in what a call returns -/
structure NB (w w' : World) (nb : List (Nat × Blk)) (X : Nu) (Sf : Nat → List Nat) (Su : List Nat) : Prop where
  ok : ∀ b blk, (b, blk) ∈ nb → ∀ (h2 : Hp) (u2 : Us) (ν2 : Nu), ν2 b = X b → BlkOk w' h2 u2 ν2 b blk (Sf b)
  sub : ∀ b blk, (b, blk) ∈ nb → ∀ x ∈ Sf b, x ∈ Su
  nd : ∀ b blk, (b, blk) ∈ nb → (Sf b).Nodup
  ap : ∀ b blk c blk', (b, blk) ∈ nb → (c, blk') ∈ nb → b ≠ c → ∀ x ∈ Sf b, x ∉ Sf c
  inS : ∀ b blk, (b, blk) ∈ nb → ∀ β c, X b = some (β, c) → β ∈ Sf b
def IV (nb : List (Nat × Blk)) (X : Nu) : AV → Value → Prop
  | .sc u, v => v = u ∧ u.oneCell' = true
  | .own b i n, v => i = 0 ∧ ∃ blk, (b, blk) ∈ nb ∧ n = blk.es.length ∧ (X b = none → v = .slice none 0 0) ∧ ∀ β c, X b = some (β, c) → v = .slice (some ⟨β, 0, none⟩) n c
  | _, _ => False
def IVB (nb : List (Nat × Blk)) (X : Nu) : AV → Value → Prop
  | .agg cs, v => ∃ vs, v = .agg vs.toArray ∧ All2 (IV nb X) cs vs
  | x, v => IV nb X x v

def sel {α : Type} (nb : List (Nat × Blk)) (f g : Nat → α) : Nat → α := fun b => if b ∈ nb.map (·.1) then f b else g b

theorem key_mem {nb : List (Nat × Blk)} {b : Nat} {blk : Blk} (h : (b, blk) ∈ nb) : b ∈ nb.map (·.1) := List.mem_map.2 ⟨(b, blk), h, rfl⟩
theorem NB.nil (w w' : World) : NB w w' [] (fun _ => none) (fun _ => []) [] := ⟨fun _ _ h => (by cases h), fun _ _ h => (by cases h), fun _ _ h => (by cases h), fun _ _ _ _ h => (by cases h), fun _ _ h => (by cases h)⟩
theorem NB.append {w w' : World} {n1 n2 : List (Nat × Blk)} {X1 X2 : Nu} {f1 f2 : Nat → List Nat} {S1 S2 : List Nat} (a : NB w w' n1 X1 f1 S1) (b : NB w w' n2 X2 f2 S2) (hn : ∀ x ∈ n2.map (·.1), x ∉ n1.map (·.1)) (hS : ∀ x ∈ S1, x ∉ S2) : NB w w' (n1 ++ n2) (sel n1 X1 X2) (sel n1 f1 f2) (S1 ++ S2) := by
  have m1 : ∀ {b blk}, (b, blk) ∈ n1 → b ∈ n1.map (·.1) := fun h => key_mem h
  have m2 : ∀ {b blk}, (b, blk) ∈ n2 → b ∉ n1.map (·.1) := fun h => hn _ (key_mem h)
  refine ⟨fun c blk hc h2 u2 ν2 e => ?_, fun c blk hc x hx => ?_, fun c blk hc => ?_, fun c blk d blk' hc hd hne x hx => ?_, fun c blk hc β cc e => ?_⟩
  · rcases List.mem_append.1 hc with h | h
    · simp only [sel, if_pos (m1 h)] at e ⊢; exact a.ok c blk h h2 u2 ν2 e
    · simp only [sel, if_neg (m2 h)] at e ⊢; exact b.ok c blk h h2 u2 ν2 e
  · rcases List.mem_append.1 hc with h | h
    · simp only [sel, if_pos (m1 h)] at hx; exact List.mem_append_left _ (a.sub c blk h x hx)
    · simp only [sel, if_neg (m2 h)] at hx; exact List.mem_append_right _ (b.sub c blk h x hx)
  · rcases List.mem_append.1 hc with h | h
    · simp only [sel, if_pos (m1 h)]; exact a.nd c blk h
    · simp only [sel, if_neg (m2 h)]; exact b.nd c blk h
  · rcases List.mem_append.1 hc with h | h <;> rcases List.mem_append.1 hd with k | k
    · simp only [sel, if_pos (m1 h), if_pos (m1 k)] at hx ⊢; exact a.ap c blk d blk' h k hne x hx
    · simp only [sel, if_pos (m1 h), if_neg (m2 k)] at hx ⊢; exact fun hm => hS x (a.sub c blk h x hx) (b.sub d blk' k x hm)
    · simp only [sel, if_neg (m2 h), if_pos (m1 k)] at hx ⊢; exact fun hm => hS x (a.sub d blk' k x hm) (b.sub c blk h x hx)
    · simp only [sel, if_neg (m2 h), if_neg (m2 k)] at hx ⊢; exact b.ap c blk d blk' h k hne x hx
  · rcases List.mem_append.1 hc with h | h
    · simp only [sel, if_pos (m1 h)] at e ⊢; exact a.inS c blk h β cc e
    · simp only [sel, if_neg (m2 h)] at e ⊢; exact b.inS c blk h β cc e
theorem IV.left {n1 n2 : List (Nat × Blk)} {X1 X2 : Nu} {x : AV} {v : Value} (h : IV n1 X1 x v) : IV (n1 ++ n2) (sel n1 X1 X2) x v := by
  cases x <;> simp only [IV] at h ⊢ <;> first
    | exact h
    | (obtain ⟨rfl, blk, h1, h2, h3, h4⟩ := h
       have hm := key_mem h1
       refine ⟨rfl, blk, List.mem_append_left _ h1, h2, ?_, ?_⟩
       · simp only [sel]; rw [if_pos hm]; exact h3
       · simp only [sel]; rw [if_pos hm]; exact h4)
theorem IV.right {n1 n2 : List (Nat × Blk)} {X1 X2 : Nu} (hn : ∀ x ∈ n2.map (·.1), x ∉ n1.map (·.1)) {x : AV} {v : Value} (h : IV n2 X2 x v) : IV (n1 ++ n2) (sel n1 X1 X2) x v := by
  cases x <;> simp only [IV] at h ⊢ <;> first
    | exact h
    | (obtain ⟨rfl, blk, h1, h2, h3, h4⟩ := h
       have hm := hn _ (key_mem h1)
       refine ⟨rfl, blk, List.mem_append_right _ h1, h2, ?_, ?_⟩
       · simp only [sel]; rw [if_neg hm]; exact h3
       · simp only [sel]; rw [if_neg hm]; exact h4)
theorem IVB.left {n1 n2 : List (Nat × Blk)} {X1 X2 : Nu} {x : AV} {v : Value} (h : IVB n1 X1 x v) : IVB (n1 ++ n2) (sel n1 X1 X2) x v := by
  cases x <;> simp only [IVB] at h ⊢ <;> first
    | exact h.left
    | (obtain ⟨vs, h1, h2⟩ := h; exact ⟨vs, h1, h2.mono fun _ _ h => h.left⟩)
theorem IVB.right {n1 n2 : List (Nat × Blk)} {X1 X2 : Nu} (hn : ∀ x ∈ n2.map (·.1), x ∉ n1.map (·.1)) {x : AV} {v : Value} (h : IVB n2 X2 x v) : IVB (n1 ++ n2) (sel n1 X1 X2) x v := by
  cases x <;> simp only [IVB] at h ⊢ <;> first
    | exact h.right hn
    | (obtain ⟨vs, h1, h2⟩ := h; exact ⟨vs, h1, h2.mono fun _ _ h => h.right hn⟩)

def flatB : AV → Bool
  | .agg cs => cs.all flat1
  | x => flat1 x
def goodB : AV → Prop
  | .agg cs => ∀ c ∈ cs, good1 c
  | x => good1 x

theorem imp1_ok {w w' : World} {ns ns' : List Nat} {x a : AV} {nb : List (Nat × Blk)} {v : Value} {S : List Nat} (hi : imp1 ns x = (a, nb, ns')) (hf : flat1 a = true) (r : ResCell w' x v S) (hg : good1 x) (hS : S.Nodup) :
    ns = nb.map (·.1) ++ ns' ∧ ∃ X Sf, NB w w' nb X Sf S ∧ IV nb X a v := by
  cases x <;> simp only [ResCell] at r
  · simp only [imp1, Prod.mk.injEq] at hi
    obtain ⟨rfl, rfl, rfl⟩ := hi
    obtain ⟨rfl, r2, rfl⟩ := r
    exact ⟨rfl, _, _, NB.nil w w', rfl, r2⟩
  · rename_i k es
    cases ns with
    | nil => simp only [imp1, Prod.mk.injEq] at hi; obtain ⟨rfl, _, _⟩ := hi; cases hf
    | cons b ns =>
      simp only [imp1, Prod.mk.injEq] at hi
      obtain ⟨rfl, rfl, rfl⟩ := hi
      refine ⟨rfl, ?_⟩
      have hl : (absEs es).length = es.length := by simp [absEs]
      have hblk : ∀ {blk : Blk}, (b, blk) ∈ [(b, (⟨k, absEs es⟩ : Blk))] → blk = ⟨k, absEs es⟩ := by intro blk h; simpa using h
      have hb1 : ∀ {c : Nat} {blk : Blk}, (c, blk) ∈ [(b, (⟨k, absEs es⟩ : Blk))] → c = b ∧ blk = ⟨k, absEs es⟩ := by intro c blk h; simpa using h
      rcases r with ⟨rfl, rfl, rfl⟩ | ⟨β, c, arr, ty, T, vs, rfl, r2, r3, r4, r5, r6, rfl, r8, r9⟩
      · refine ⟨fun _ => none, fun _ => [], ⟨fun c blk hc h2 u2 ν2 e => ?_, fun _ _ _ x hx => (by cases hx), fun _ _ _ => (by simp), fun c blk d blk' hc hd hne => ?_, fun _ _ _ _ _ e => (by cases e)⟩, rfl, _, List.mem_singleton.2 rfl, by simp [absEs], fun _ => rfl, fun _ _ e => (by cases e)⟩
        · obtain ⟨rfl, rfl⟩ := hb1 hc
          exact ⟨by simp [absEs], .inl ⟨e, rfl, rfl⟩⟩
        · obtain ⟨rfl, _⟩ := hb1 hc; obtain ⟨rfl, _⟩ := hb1 hd; exact absurd rfl hne
      · refine ⟨fun _ => some (β, c), fun _ => β :: T, ⟨fun c' blk hc h2 u2 ν2 e => ?_, fun _ _ _ x hx => hx, fun _ _ _ => hS, fun c blk d blk' hc hd hne => ?_, fun _ _ _ β' c' e => ?_⟩, rfl, _, List.mem_singleton.2 rfl, by simp [absEs], fun e => (by cases e), fun β' c' e => ?_⟩
        · obtain ⟨rfl, rfl⟩ := hb1 hc
          refine ⟨?_, .inr ⟨β, c, arr, ty, T, vs, e, r2, r3, by rw [hl]; exact r4, r5, rfl, by rw [hl]; exact r8, ?_⟩⟩
          · intro cs hcs
            simp only [absEs, List.mem_map] at hcs
            obtain ⟨c0, hc0, rfl⟩ := hcs
            rw [List.length_map]; exact r6 c0 hc0
          · have : (absEs es).flatten = es.flatten.map toAbs := by simp only [absEs, List.map_flatten]
            show CellsRep w' h2 u2 ν2 (absEs es).flatten vs T
            rw [this]
            exact vs_abs r9 (fun c hc => by obtain ⟨cs, q1, q2⟩ := List.mem_flatten.1 hc; exact (hg cs q1 c q2).1) (fun c hc => by obtain ⟨cs, q1, q2⟩ := List.mem_flatten.1 hc; exact (hg cs q1 c q2).2)
        · obtain ⟨rfl, _⟩ := hb1 hc; obtain ⟨rfl, _⟩ := hb1 hd; exact absurd rfl hne
        · cases e; simp
        · cases e; rfl

theorem names_apart {n1 n2 : List (Nat × Blk)} {ns ns1 ns2 : List Nat} (h1 : ns = n1.map (·.1) ++ ns1) (h2 : ns1 = n2.map (·.1) ++ ns2) (hn : ns.Nodup) : ∀ x ∈ n2.map (·.1), x ∉ n1.map (·.1) := by
  subst h1
  intro x hx hm
  exact (List.nodup_append.1 hn).2.2 x hm x (by rw [h2]; exact List.mem_append_left _ hx) rfl

theorem imp1s_ok {w w' : World} : ∀ {xs as : List AV} {ns ns' : List Nat} {nb : List (Nat × Blk)} {vs : List Value} {S : List Nat}, imp1s ns xs = (as, nb, ns') → as.all flat1 = true → ResCells w' xs vs S → (∀ c ∈ xs, good1 c) → S.Nodup → ns.Nodup →
    ns = nb.map (·.1) ++ ns' ∧ ∃ X Sf, NB w w' nb X Sf S ∧ All2 (IV nb X) as vs
  | [], as, ns, ns', nb, vs, S, hi, hf, r, hg, hS, hn => by
    simp only [imp1s, Prod.mk.injEq] at hi
    obtain ⟨rfl, rfl, rfl⟩ := hi
    obtain ⟨rfl, rfl⟩ := r
    exact ⟨rfl, _, _, NB.nil w w', rfl⟩
  | x :: xs, as, ns, ns', nb, vs, S, hi, hf, ⟨v, q, S1, S2, h1, h2, h3, h4⟩, hg, hS, hn => by
    subst h1; subst h2
    simp only [imp1s] at hi
    rcases e1 : imp1 ns x with ⟨a, n1, ns1⟩
    rw [e1] at hi
    rcases e2 : imp1s ns1 xs with ⟨as2, n2, ns2⟩
    rw [e2] at hi
    simp only [Prod.mk.injEq] at hi
    obtain ⟨rfl, rfl, rfl⟩ := hi
    simp only [List.all_cons, Bool.and_eq_true] at hf
    have hS' := List.nodup_append.1 hS
    obtain ⟨g1, X1, f1, nb1, iv1⟩ := imp1_ok (w := w) e1 hf.1 h3 (hg x (by simp)) hS'.1
    have hn1 : ns1.Nodup := by rw [g1] at hn; exact (List.nodup_append.1 hn).2.1
    obtain ⟨g2, X2, f2, nb2, iv2⟩ := imp1s_ok (w := w) e2 hf.2 h4 (fun c hc => hg c (by simp [hc])) hS'.2.1 hn1
    have hap := names_apart g1 g2 hn
    exact ⟨by rw [g1, g2]; simp, _, _, nb1.append nb2 hap (fun x hx hm => hS'.2.2 x hx x hm rfl), v, q, rfl, iv1.left, iv2.mono fun _ _ h => h.right hap⟩
theorem impB_ok {w w' : World} {ns ns' : List Nat} {x a : AV} {nb : List (Nat × Blk)} {v : Value} {S : List Nat} (hi : impB ns x = (a, nb, ns')) (hf : flatB a = true) (r : ResB w' x v S) (hg : goodB x) (hS : S.Nodup) (hn : ns.Nodup) :
    ns = nb.map (·.1) ++ ns' ∧ ∃ X Sf, NB w w' nb X Sf S ∧ IVB nb X a v := by
  cases x
  case agg cs =>
    simp only [ResB] at r
    obtain ⟨vs, rfl, r⟩ := r
    simp only [impB] at hi
    rcases e1 : imp1s ns cs with ⟨as, n1, ns1⟩
    rw [e1] at hi
    simp only [Prod.mk.injEq] at hi
    obtain ⟨rfl, rfl, rfl⟩ := hi
    obtain ⟨g1, X, f, g2, g3⟩ := imp1s_ok (w := w) e1 hf r hg hS hn
    exact ⟨g1, X, f, g2, vs, rfl, g3⟩
  case sc u =>
    obtain ⟨g1, X, f, g2, g3⟩ := imp1_ok (w := w) (ns := ns) (x := .sc u) hi (by simp only [impB, imp1, Prod.mk.injEq] at hi; rw [← hi.1]; rfl) r hg hS
    exact ⟨g1, X, f, g2, by simp only [impB, imp1, Prod.mk.injEq] at hi; rw [← hi.1] at g3 ⊢; exact g3⟩
  case list k es =>
    cases ns with
    | nil => simp only [impB, imp1, Prod.mk.injEq] at hi; rw [← hi.1] at hf; cases hf
    | cons b ns =>
      have hi' := hi
      simp only [impB, imp1, Prod.mk.injEq] at hi'
      obtain ⟨g1, X, f, g2, g3⟩ := imp1_ok (w := w) (ns := b :: ns) (x := .list k es) hi (by rw [← hi'.1]; rfl) r hg hS
      exact ⟨g1, X, f, g2, by rw [← hi'.1] at g3 ⊢; exact g3⟩
  all_goals exact r.elim
theorem impBs_ok {w w' : World} : ∀ {xs as : List AV} {ns ns' : List Nat} {nb : List (Nat × Blk)} {vs : List Value} {S : List Nat}, impBs ns xs = (as, nb, ns') → as.all flatB = true → ResBs w' xs vs S → (∀ c ∈ xs, goodB c) → S.Nodup → ns.Nodup →
    ns = nb.map (·.1) ++ ns' ∧ ∃ X Sf, NB w w' nb X Sf S ∧ All2 (IVB nb X) as vs
  | [], as, ns, ns', nb, vs, S, hi, hf, r, hg, hS, hn => by
    simp only [impBs, Prod.mk.injEq] at hi
    obtain ⟨rfl, rfl, rfl⟩ := hi
    obtain ⟨rfl, rfl⟩ := r
    exact ⟨rfl, _, _, NB.nil w w', rfl⟩
  | x :: xs, as, ns, ns', nb, vs, S, hi, hf, ⟨v, q, S1, S2, h1, h2, h3, h4⟩, hg, hS, hn => by
    subst h1; subst h2
    simp only [impBs] at hi
    rcases e1 : impB ns x with ⟨a, n1, ns1⟩
    rw [e1] at hi
    rcases e2 : impBs ns1 xs with ⟨as2, n2, ns2⟩
    rw [e2] at hi
    simp only [Prod.mk.injEq] at hi
    obtain ⟨rfl, rfl, rfl⟩ := hi
    simp only [List.all_cons, Bool.and_eq_true] at hf
    have hS' := List.nodup_append.1 hS
    obtain ⟨g1, X1, f1, nb1, iv1⟩ := impB_ok (w := w) e1 hf.1 h3 (hg x (by simp)) hS'.1 hn
    have hn1 : ns1.Nodup := by rw [g1] at hn; exact (List.nodup_append.1 hn).2.1
    obtain ⟨g2, X2, f2, nb2, iv2⟩ := impBs_ok (w := w) e2 hf.2 h4 (fun c hc => hg c (by simp [hc])) hS'.2.1 hn1
    have hap := names_apart g1 g2 hn
    exact ⟨by rw [g1, g2]; simp, _, _, nb1.append nb2 hap (fun x hx hm => hS'.2.2 x hx x hm rfl), v, q, rfl, iv1.left, iv2.mono fun _ _ h => h.right hap⟩

def flatA : AV → Bool
  | .tuple cs => cs.all flatB
  | x => flatB x
def goodA : AV → Prop
  | .tuple cs => ∀ c ∈ cs, goodB c
  | x => goodB x
def IVA (nb : List (Nat × Blk)) (X : Nu) : AV → Value → Prop
  | .tuple cs, v => ∃ vs, v = .tuple vs.toArray ∧ All2 (IVB nb X) cs vs
  | x, v => IVB nb X x v
theorem impB_notTuple {ns ns' : List Nat} {x a : AV} {nb : List (Nat × Blk)} (hi : impB ns x = (a, nb, ns')) (hf : flatB a = true) : ∀ cs, a ≠ .tuple cs := by
  rintro cs rfl
  cases hf
theorem impA_ok {w w' : World} {ns ns' : List Nat} {x a : AV} {nb : List (Nat × Blk)} {v : Value} {S : List Nat} (hi : impA ns x = (a, nb, ns')) (hf : flatA a = true) (r : ResA w' x v S) (hg : goodA x) (hS : S.Nodup) (hn : ns.Nodup) :
    ns = nb.map (·.1) ++ ns' ∧ ∃ X Sf, NB w w' nb X Sf S ∧ IVA nb X a v := by
  cases x
  case tuple cs =>
    simp only [ResA] at r
    obtain ⟨vs, rfl, r⟩ := r
    simp only [impA] at hi
    rcases e1 : impBs ns cs with ⟨as, n1, ns1⟩
    rw [e1] at hi
    simp only [Prod.mk.injEq] at hi
    obtain ⟨rfl, rfl, rfl⟩ := hi
    obtain ⟨g1, X, f, g2, g3⟩ := impBs_ok (w := w) e1 hf r hg hS hn
    exact ⟨g1, X, f, g2, vs, rfl, g3⟩
  case sc u =>
    have hi' : impB ns (.sc u) = (a, nb, ns') := hi
    have ha : a = .sc u := by have := hi'; simp only [impB, imp1, Prod.mk.injEq] at this; exact this.1.symm
    subst ha
    exact impB_ok (w := w) hi' hf r hg hS hn
  case list k es =>
    have hi' : impB ns (.list k es) = (a, nb, ns') := hi
    cases ns with
    | nil => simp only [impB, imp1, Prod.mk.injEq] at hi'; rw [← hi'.1] at hf; cases hf
    | cons b ns =>
      have ha : a = .own b 0 es.length := by have := hi'; simp only [impB, imp1, Prod.mk.injEq] at this; exact this.1.symm
      subst ha
      exact impB_ok (w := w) hi' hf r hg hS hn
  case agg cs =>
    have hi' : impB ns (.agg cs) = (a, nb, ns') := hi
    rcases e1 : imp1s ns cs with ⟨as, n1, ns1⟩
    have ha : a = .agg as := by have := hi'; simp only [impB, e1, Prod.mk.injEq] at this; exact this.1.symm
    subst ha
    exact impB_ok (w := w) hi' hf r hg hS hn
  all_goals exact r.elim

def editsOf (nb : List (Nat × Blk)) : List (Nat × Option Blk) := nb.map fun p => (p.1, some p.2)
theorem editsOf_keys (nb : List (Nat × Blk)) : (editsOf nb).map (·.1) = nb.map (·.1) := by simp [editsOf]
theorem editHp_of {nb : List (Nat × Blk)} {h : Hp} {b : Nat} {blk : Blk} (e : editHp (editsOf nb) h b = some blk) : (b, blk) ∈ nb ∨ (b ∉ nb.map (·.1) ∧ h b = some blk) := by
  induction nb with
  | nil => exact .inr ⟨by simp, e⟩
  | cons p nb ih =>
    obtain ⟨c, y⟩ := p
    simp only [editsOf, List.map_cons, editHp] at e
    by_cases hb : b = c
    · subst hb
      rw [beq_self] at e
      simp only [cond_true, Option.some.injEq] at e
      exact .inl (by rw [e]; simp)
    · rw [beq_ne hb] at e
      rcases ih e with h' | ⟨h1, h2⟩
      · exact .inl (List.mem_cons_of_mem _ h')
      · exact .inr ⟨by simp only [List.map_cons, List.mem_cons, not_or]; exact ⟨hb, h1⟩, h2⟩
theorem editHp_in {nb : List (Nat × Blk)} (hn : (nb.map (·.1)).Nodup) {h : Hp} {b : Nat} {blk : Blk} (hm : (b, blk) ∈ nb) : editHp (editsOf nb) h b = some blk := by
  induction nb with
  | nil => cases hm
  | cons p nb ih =>
    obtain ⟨c, y⟩ := p
    simp only [List.map_cons, List.nodup_cons] at hn
    simp only [editsOf, List.map_cons, editHp]
    rcases List.mem_cons.1 hm with e | e
    · cases e; rw [beq_self]; rfl
    · have : b ≠ c := by rintro rfl; exact hn.1 (key_mem e)
      rw [beq_ne this]
      exact ih hn.2 e

/-- The state behind a call. -/
theorem Sim.call {C : Ctx} {s : AState} {ν : Nu} {a : Act} {w : World} (hs : Sim C s ν a w) {dst : Option Tmp} (hd : ∀ d, dst = some d → d < C.nt) {w' : World} (hb : Below w.heap.size w w') {nb : List (Nat × Blk)} {X : Nu} {Sf : Nat → List Nat} {S : List Nat} (hnb : NB w w' nb X Sf S) (hS : New w.heap.size S)
    (hn : (nb.map (·.1)).Nodup) (hu : ∀ b ∈ nb.map (·.1), s.used b = false) {x : AV} {v : Value} (hv : IVA nb X x v) {touch : List Nat} :
    ∃ ν', Sim C (s.app dst ⟨x, touch, editsOf nb, nb.map (·.1)⟩) ν' (a.put dst v) w' := by
  obtain ⟨φ, hh⟩ := hs.heap
  have hm : ∀ {b blk}, (b, blk) ∈ nb → b ∈ nb.map (·.1) := fun h => key_mem h
  have hus : ∀ b, addUs (nb.map (·.1)) s.used b = ((nb.map (·.1)).contains b || s.used b) := fun b => addUs_spec
  have hlive : ∀ {b blk}, s.heap b = some blk → b ∉ nb.map (·.1) := by
    intro b blk h hmem
    have := (hh.blk b blk h).1
    rw [hu b hmem] at this
    cases this
  let ν' : Nu := sel nb X ν
  have hν1 : ∀ {b}, b ∈ nb.map (·.1) → ν' b = X b := fun h => by simp only [ν', sel]; rw [if_pos h]
  have hν2 : ∀ {b}, b ∉ nb.map (·.1) → ν' b = ν b := fun h => by simp only [ν', sel]; rw [if_neg h]
  have ext : Ext w s.heap s.used ν w' (editHp (editsOf nb) s.heap) (addUs (nb.map (·.1)) s.used) ν' := by
    refine ⟨fun b h => by rw [hus, h, Bool.or_true], fun b blk' hub hb2 => ?_, fun y hy hf => ⟨hb.block y hy, fun b blk β c hb2 hν => ?_⟩⟩
    · rcases editHp_of hb2 with h | ⟨h1, h2⟩
      · rw [hu b (hm h)] at hub; cases hub
      · exact ⟨blk', h2, rfl, rfl, hν2 h1⟩
    · rcases editHp_of hb2 with h | ⟨h1, h2⟩
      · rw [hν1 (hm h)] at hν
        have := hS.2 β (hnb.sub b blk h β (hnb.inS b blk h β c hν))
        omega
      · rw [hν2 h1] at hν
        exact hf b blk β c h2 hν
  have hSlt : ∀ b blk, (b, blk) ∈ nb → ∀ y ∈ Sf b, w.heap.size ≤ y := fun b blk h y hy => hS.2 y (hnb.sub b blk h y hy)
  have hheap : ∃ φ', HeapOk C.M w' (editHp (editsOf nb) s.heap) (addUs (nb.map (·.1)) s.used) ν' φ' := by
    refine ⟨sel nb Sf φ, fun b blk hb2 => ?_, fun b c y hb2 hc2 hne hy hy2 => ?_⟩
    · rcases editHp_of hb2 with h | ⟨h1, h2⟩
      · simp only [sel, if_pos (hm h)]
        exact ⟨by rw [hus]; simp only [List.contains_eq_mem, hm h, decide_true, Bool.true_or], hnb.ok b blk h _ _ _ (hν1 (hm h)), hnb.nd b blk h, fun y hy => hs.fresh y (hSlt b blk h y hy)⟩
      · simp only [sel, if_neg h1]
        obtain ⟨g1, g2, g3, g4⟩ := hh.blk b blk h2
        exact ⟨ext.used b g1, g2.ext ext (hν2 h1) (fun y hy => hb.block y (g2.lt y hy)), g3, g4⟩
    · obtain ⟨b1, hb1⟩ := Option.ne_none_iff_exists'.1 hb2
      obtain ⟨c1, hc1⟩ := Option.ne_none_iff_exists'.1 hc2
      rcases editHp_of hb1 with h | ⟨h1, h2⟩ <;> rcases editHp_of hc1 with k | ⟨k1, k2⟩
      · simp only [sel, if_pos (hm h)] at hy
        simp only [sel, if_pos (hm k)] at hy2
        exact hnb.ap b b1 c c1 h k hne y hy hy2
      · simp only [sel, if_pos (hm h)] at hy
        simp only [sel, if_neg k1] at hy2
        have := hSlt b b1 h y hy
        have := (hh.blk c c1 k2).2.1.lt y hy2
        omega
      · simp only [sel, if_neg h1] at hy
        simp only [sel, if_pos (hm k)] at hy2
        have := hSlt c c1 k y hy2
        have := (hh.blk b b1 h2).2.1.lt y hy
        omega
      · simp only [sel, if_neg h1] at hy
        simp only [sel, if_neg k1] at hy2
        exact hh.apart b c y (by rw [h2]; simp) (by rw [k2]; simp) hne hy hy2
  have iv1 : ∀ {x : AV} {v : Value}, IV nb X x v → Rep1 w' (editHp (editsOf nb) s.heap) (addUs (nb.map (·.1)) s.used) ν' x v := by
    intro x v h
    cases x <;> simp only [IV] at h
    · exact h
    · rename_i b i n
      obtain ⟨rfl, blk, h1, h2, h3, h4⟩ := h
      simp only [Rep1]
      refine ⟨by rw [hus]; simp only [List.contains_eq_mem, hm h1, decide_true, Bool.true_or], fun blk2 hb2 => ?_⟩
      rw [editHp_in hn h1] at hb2
      cases hb2
      rw [hν1 (hm h1)]
      refine ⟨by omega, h3, fun β c e => ?_⟩
      rw [h4 β c e]
      exact ownV_zero
  have ivB : ∀ {x : AV} {v : Value}, IVB nb X x v → RepB w' (editHp (editsOf nb) s.heap) (addUs (nb.map (·.1)) s.used) ν' x v := by
    intro x v h
    cases x <;> simp only [IVB] at h <;> simp only [RepB] <;> first
      | exact iv1 h
      | (obtain ⟨vs, h1, h2⟩ := h; exact ⟨vs, h1, h2.mono fun _ _ h => iv1 h⟩)
      | exact h.elim
  refine ⟨ν', hs.step hd (s' := s.app dst _) ext (hb.mono hs.base) hheap rfl ?_⟩
  cases x <;> simp only [IVA] at hv <;> simp only [RepA] <;> first
    | exact ivB hv
    | (obtain ⟨vs, h1, h2⟩ := hv; exact ⟨vs, h1, h2.mono fun _ _ h => ivB h⟩)

section
variable {P : Program} {dst : Option Tmp} {ty : TypeId} {pos : String} {aft : Array Edge} {g : Option (Nat × Bool)} {ins : Operand → Option AV} {hp : Hp}

def evs (ins : Operand → Option AV) : List Operand → Option (List AV)
  | [] => some []
  | x :: r => match ins x, evs ins r with
    | some v, some vs => some (v :: vs)
    | _, _ => none
theorem evs_rep {C : Ctx} {s : AState} {ν : Nu} {a : Act} {w : World} (hs : Sim C s ν a w) : ∀ {xs : List Operand} {vs : List AV}, (∀ x ∈ xs, s.ev x = ins x) → evs ins xs = some vs → All2 (RepA w s.heap s.used ν) vs (xs.map a.eval)
  | [], vs, _, h => by simp only [evs, Option.some.injEq] at h; subst h; rfl
  | x :: xs, vs, hi, h => by
    simp only [evs] at h
    split at h
    · rename_i v vs' h1 h2
      cases h
      exact ⟨a.eval x, _, rfl, hs.ev ((hi x (by simp)).trans h1), evs_rep hs (fun y hy => hi y (by simp [hy])) h2⟩
    · cases h

theorem RepVs.app {w : World} {cs ds : List AV} {vs us : List Value} {S T : List Nat} (h : RepVs w cs vs S) (k : RepVs w ds us T) : RepVs w (cs ++ ds) (vs ++ us) (S ++ T) := h.append k

theorem eff_call {fo : Operand} {xs : Array Operand} {ats : Array TypeId} {f : FuncId} {caps avs ds1 ds2 : List AV} {r x : AV} {nb : List (Nat × Blk)} {ns ns' : List Nat} (hf : ins fo = some (.fn f caps)) (hx : evs ins xs.toList = some avs) (hc : HasC P f (ds1 ++ ds2) r) (hv1 : All2 (viewA hp) avs ds1) (hv2 : All2 (viewP hp) caps ds2) (hg : goodA r)
    (hi : impA ns r = (x, nb, ns')) (hfl : flatA x = true) (hn : ns.Nodup) :
    AEff P ⟨dst, .call ⟨.value fo, xs, ats⟩, ty, pos, aft, g⟩ ins hp ⟨x, avs.flatMap (touchA hp) ++ caps.flatMap (touchP hp), editsOf nb, nb.map (·.1)⟩ := by
  refine ⟨fun C s ν a w Q K hi' ht hnw hd hs hK => ?_⟩
  have h1 := hs.ev ((hi' fo (by simp [Op.operands, Call.operands])).trans hf)
  simp only [RepA, RepB] at h1
  obtain ⟨cv, h1, h2⟩ := h1
  obtain ⟨φ, hh⟩ := hs.heap
  have h3 := evs_rep hs (xs := xs.toList) (fun y hy => hi' y (by simp [Op.operands, Call.operands]; exact .inr (Array.mem_toList_iff.1 hy))) hx
  have hv1' : All2 (viewA s.heap) avs ds1 := hv1.congrM fun y hy d hd => hd.congr fun b hb => ht b (List.mem_append_left _ (List.mem_flatMap.2 ⟨y, hy, hb⟩))
  have hv2' : All2 (viewP s.heap) caps ds2 := hv2.congrM fun y hy d hd => hd.congr fun b hb => ht b (List.mem_append_right _ (List.mem_flatMap.2 ⟨y, hy, hb⟩))
  obtain ⟨S1, e1⟩ := views_rep (V := viewA s.heap) (fun x d v hr hv => viewA.rep hh hr hv) h3 hv1'
  obtain ⟨S2, e2⟩ := views_rep (V := viewP s.heap) (fun x d v hr hv => (viewP.rep hh hr hv).1) h2 hv2'
  have hcall := hc.calls w ((xs.map a.eval) ++ cv.toArray) (S1 ++ S2) (by simpa using e1.append e2)
  unfold Oper.wp
  have hex : (execOp a.eval ⟨dst, .call ⟨.value fo, xs, ats⟩, ty, pos, aft, g⟩).run P w = .ok (.enter f ((xs.map a.eval) ++ cv.toArray)) w := by
    have : execOp a.eval ⟨dst, .call ⟨.value fo, xs, ats⟩, ty, pos, aft, g⟩ = callFunc f ((xs.map a.eval) ++ cv.toArray) := by
      simp [execOp, resolve, h1, Deferred.ofValue, invoke]
    rw [this]
    exact hc.enters _ _
  rw [hex]
  simp only [Oper.upon]
  refine hcall.mono fun e w' ⟨v, S', he, hb, hr, hnew⟩ => ?_
  subst he
  simp only
  obtain ⟨g1, X, Sf, g2, g3⟩ := impA_ok (w := w) hi hfl hr hg hnew.1 hn
  have hnn : (nb.map (·.1)).Nodup := by rw [g1] at hn; exact (List.nodup_append.1 hn).1
  obtain ⟨ν', hs'⟩ := hs.call hd hb g2 hnew hnn (fun b hb => hnw b hb) g3 (touch := avs.flatMap (touchA hp) ++ caps.flatMap (touchP hp))
  exact hK ν' _ _ hs'
end
end Go.Proofs.Ytjfcjkeghigipaa

/-
  Several texts of the claim in one: each begins with its own remark.
-/
import Derived.Test.YtahbimogkgfmdaaProg
import Derived.Test.YtahbimogkgfmdaaH12
section
set_option linter.unusedVariables false
set_option linter.unusedSimpArgs false
/-
  Positive roots: spec and impl answer the same list.
-/
namespace Go.Proofs.Ytahbimogkgfmdaa
open Go.RowKit
set_option linter.unusedVariables false

/-! ## order -/
theorem lexB_trans : ∀ {x y z : List Int}, lexB x y = true → lexB y z = true → lexB x z = true
  | [], y, z, h, _ => by simp [lexB] at h
  | a :: x, [], z, h, _ => by simp [lexB] at h
  | a :: x, b :: y, [], _, h => by simp [lexB] at h
  | a :: x, b :: y, c :: z, h, k => by
    simp only [lexB, Bool.or_eq_true, Bool.and_eq_true, decide_eq_true_eq] at h k ⊢
    rcases h with h | ⟨h, h'⟩ <;> rcases k with k | ⟨k, k'⟩
    · exact .inl (by omega)
    · exact .inl (by omega)
    · exact .inl (by omega)
    · exact .inr ⟨by omega, lexB_trans h' k'⟩
theorem lexB_total : ∀ {x y : List Int}, x.length = y.length → x ≠ y → lexB x y = true ∨ lexB y x = true
  | [], [], _, h => absurd rfl h
  | [], _ :: _, h, _ => by simp at h
  | _ :: _, [], h, _ => by simp at h
  | a :: x, b :: y, h, hne => by
    simp only [lexB, Bool.or_eq_true, Bool.and_eq_true, decide_eq_true_eq]
    by_cases e : a = b
    · subst e
      rcases lexB_total (x := x) (y := y) (by simpa using h) (fun e => hne (by rw [e])) with h1 | h1
      · exact .inl (.inr ⟨rfl, h1⟩)
      · exact .inr (.inr ⟨rfl, h1⟩)
    · rcases Int.lt_or_gt_of_ne e with h1 | h1
      · exact .inl (.inl h1)
      · exact .inr (.inl h1)
def LessP (x y : List Int) : Prop := lessR x y = true
theorem lessP_iff {x y : List Int} : LessP x y ↔ x.sum < y.sum ∨ (x.sum = y.sum ∧ lexB x y = true) := by simp [LessP, lessR]
theorem lessP_irr (x : List Int) : ¬ LessP x x := by rw [lessP_iff, lexB_irr]; simp
theorem lessP_trans (x y z : List Int) (h : LessP x y) (k : LessP y z) : LessP x z := by
  rw [lessP_iff] at *
  rcases h with h | ⟨h, h'⟩ <;> rcases k with k | ⟨k, k'⟩
  · exact .inl (by omega)
  · exact .inl (by omega)
  · exact .inl (by omega)
  · exact .inr ⟨by omega, lexB_trans h' k'⟩
theorem sortB_sorted {α : Type} {lt : α → α → Bool} {R : α → α → Prop} (hT : ∀ a b c, R a b → R b c → R a c) {A : List α} (hA : A.Pairwise fun p x => (lt x p = true → R x p) ∧ (lt x p = false → R p x)) : (sortB lt A).Pairwise R := by
  have key : ∀ k, k ≤ A.length → (sortB lt (A.take k)).Pairwise R := by
    intro k
    induction k with
    | zero => intro _; simp [sortB]
    | succ k ih =>
      intro hk
      have hk' : k < A.length := by omega
      rw [List.take_succ_eq_append_getElem hk', sortB_snoc]
      have hpr : ∀ p ∈ sortB lt (A.take k), (lt A[k] p = true → R A[k] p) ∧ (lt A[k] p = false → R p A[k]) := by
        intro p hp
        have h1 := ((sortB_spec lt (A.take k)).2 p).1 hp
        obtain ⟨j, hj, rfl⟩ := List.mem_iff_getElem.1 h1
        have hjk : j < k := by simp at hj; omega
        have := List.pairwise_iff_getElem.1 hA j k (by omega) hk' hjk
        simpa using this
      exact insB_sorted hT (ih (by omega)) (fun p hp => (hpr p hp).1) (fun p hp => (hpr p hp).2)
  have := key A.length (Nat.le_refl _)
  rwa [List.take_length] at this

/-! ## the roots of a quiver of finite kind -/
structure Fin1 (q : Qv) (n : Nat) : Prop where
  Q : QOk q n
  F : GForm n (matQ q n)
  G : goodT n (matQ q n) = true
def RtQ (q : Qv) (n : Nat) (x : List Int) : Prop := Rt0 n (matQ q n) x
theorem Fin1.vec {q : Qv} {n : Nat} (H : Fin1 q n) {x : List Int} (r : RtQ q n x) : Vec5 x ∧ x.length = n := by
  have h := (goodT_parts H.G).2
  have h1 := r.mem H.F h.1
  exact ⟨⟨by rw [r.len]; exact H.Q.n5, fun a ha => ⟨r.nn a ha, h.2.2 x h1 a ha⟩⟩, r.len⟩
theorem Fin1.num {q : Qv} {n : Nat} (H : Fin1 q n) {l : List (List Int)} (hn : l.Nodup) (h : ∀ x ∈ l, RtQ q n x) : l.length ≤ 20 :=
  Nat.le_trans (nodup_len hn fun x hx => (h x hx).mem H.F (goodT_parts H.G).2.1) (goodT_parts H.G).2.2.1
theorem Vec5.sm {x : List Int} (h : Vec5 x) : Sm x := fun a ha => by have := h.2 a ha; omega
theorem rt_iff {q : Qv} {n : Nat} (Q : QOk q n) (x : List Int) : RtQ q n x ↔ x.length = n ∧ (∀ a ∈ x, 0 ≤ a) ∧ eul q n x x = 1 := by
  constructor
  · intro r
    have := r.two
    rw [qf_eul Q] at this
    exact ⟨r.len, r.nn, by omega⟩
  · rintro ⟨h1, h2, h3⟩
    exact ⟨h1, h2, by rw [qf_eul Q]; omega⟩
/-- impl's list ahead of the sort. -/
def listA (q : Qv) (n : Nat) : List (List Int) := (boxesL (List.replicate n 4)).filter fun x => decide (eul q n x x = 1)
theorem gx_rep {n i : Nat} (h : i < n) (z : Int) : gx (List.replicate n z) i = z := by simp [gx, h]
theorem box_mem {n : Nat} {x : List Int} : x ∈ boxesL (List.replicate n 4) ↔ x.length = n ∧ ∀ a ∈ x, 0 ≤ a ∧ a ≤ 4 := by
  rw [mem_boxes, List.length_replicate]
  constructor
  · rintro ⟨h1, h2⟩
    refine ⟨h1, fun a ha => ?_⟩
    obtain ⟨i, hi, rfl⟩ := List.mem_iff_getElem.1 ha
    have := h2 i (by omega)
    rw [gx_rep (by omega), gx_drop0 x hi] at this
    have h4 : (4 : Int).toNat = 4 := rfl
    omega
  · rintro ⟨h1, h2⟩
    refine ⟨h1, fun i hi => ?_⟩
    have := h2 _ (mem_gx (x := x) (i := i) (by omega))
    rw [gx_rep hi]
    have h4 : (4 : Int).toNat = 4 := rfl
    omega
theorem mem_listA {q : Qv} {n : Nat} (H : Fin1 q n) (x : List Int) : x ∈ listA q n ↔ RtQ q n x := by
  unfold listA
  rw [List.mem_filter, box_mem, decide_eq_true_eq, rt_iff H.Q]
  constructor
  · rintro ⟨⟨h1, h2⟩, h3⟩; exact ⟨h1, fun a ha => (h2 a ha).1, h3⟩
  · rintro ⟨h1, h2, h3⟩
    have hv := H.vec ((rt_iff H.Q x).2 ⟨h1, h2, h3⟩)
    exact ⟨⟨h1, hv.1.2⟩, h3⟩
theorem Fl_filter {f : List Int → List (List Int) → Option (List (List Int) ⊕ Unit)} (p : List Int → Bool) : ∀ (l acc : List (List Int)), (∀ x ∈ l, ∀ acc : List (List Int), acc.length ≤ 4000 → f x acc = some (.inl (if p x = true then acc ++ [x] else acc))) → acc.length + l.length ≤ 4000 → Fl f l acc = some (.inl (acc ++ l.filter p))
  | [], acc, _, _ => by simp [Fl]
  | x :: l, acc, h, hl => by
    simp only [List.length_cons] at hl
    simp only [Fl]
    rw [h x (by simp) acc (by omega)]
    simp only
    rw [Fl_filter p l (if p x = true then acc ++ [x] else acc) (fun y hy => h y (by simp [hy])) (by split <;> (try simp) <;> omega)]
    by_cases c : p x = true
    · simp [c]
    · simp [c]
theorem n_implRoots {q : Qv} {n : Nat} (H : Fin1 q n) : m_impl_roots q = some (sortB sumLt (listA q n)) := by
  have Q := H.Q
  have n5 := Q.n5
  have n1 := Q.n1
  unfold m_impl_roots
  have hn := boxes_num n (by omega)
  rw [Q.n0, decide_eq_true (by omega), decide_eq_true (by omega), Bool.and_self, cond_true, Int.toNat_natCast, box_ok n (by omega), cond_true]
  rw [Fl_filter (fun x => decide (eul q n x x = 1)) (boxesL (List.replicate n 4)) [] (fun x hx acc ha => ?_) (by simp; omega), Option.bind_some]
  · have hA : ∀ x ∈ listA q n, Vec5 x := fun x hx => (H.vec ((mem_listA H x).1 hx)).1
    have hnd : (listA q n).Nodup := (boxes_nodup _).filter _
    have hlen := H.num hnd fun x hx => (mem_listA H x).1 hx
    show (Option.bind (m_slices_SortStableFunc_LLint_Lint (listA q n)) fun v9 => bif decide (v9.length = (listA q n).length) then some v9 else none) = _
    rw [n_sortStable hA hlen, Option.bind_some, decide_eq_true (sortB_spec sumLt _).1, cond_true]
  · obtain ⟨h1, h2⟩ := box_mem.1 hx
    have hv : Vec5 x := ⟨by omega, h2⟩
    unfold m_impl_roots_L1
    rw [n_implEul Q h1 h1 hv.sm hv.sm, Option.bind_some]
    by_cases c : eul q n x x = 1
    · rw [decide_eq_true c, cond_true, if_pos rfl]
      unfold m_Clone
      rw [decide_eq_true (by omega), cond_true, Option.bind_some, decide_eq_true (by omega), cond_true]
    · rw [decide_eq_false c, cond_false, if_neg (by simp)]
theorem sorted_implRoots {q : Qv} {n : Nat} : (sortB sumLt (listA q n)).Pairwise LessP := by
  refine sortB_sorted lessP_trans ?_
  refine (List.Pairwise.filter _ (boxes_lex _)).imp fun {p x} h => ?_
  rw [lessP_iff, lessP_iff]
  simp only [sumLt, decide_eq_true_eq, decide_eq_false_iff_not]
  refine ⟨fun h1 => .inl h1, fun h1 => ?_⟩
  by_cases e : p.sum = x.sum
  · exact .inr ⟨e, h⟩
  · exact .inl (by omega)

/-! ## spec's closure -/
theorem n_reflect {q : Qv} {n : Nat} (Q : QOk q n) {x : List Int} (hx : Vec5 x) (hxn : x.length = n) {v : Nat} (hv : v < n) : m_spec_l20Reflect (matQ q n) x (v : Int) = some (x.set v (gx x v + -(mv n (rowsF (matQ q n)) (gx x) v))) := by
  have n5 := Q.n5
  have m6 := Q.m6
  have hbd : ∀ i, -48 ≤ mF q q.src.length v i * gx x i ∧ mF q q.src.length v i * gx x i ≤ 48 := by
    intro i
    have h1 := mF_bd q m6 v i
    have h2 : 0 ≤ gx x i ∧ gx x i ≤ 4 := by
      rcases Nat.lt_or_ge i x.length with h' | h'
      · exact hx.2 _ (mem_gx h')
      · unfold gx; rw [List.getElem?_eq_none h']; simp
    have h3 : gx x i = 0 ∨ gx x i = 1 ∨ gx x i = 2 ∨ gx x i = 3 ∨ gx x i = 4 := by omega
    rcases h3 with h3 | h3 | h3 | h3 | h3 <;> rw [h3] <;> omega
  have hmv : mv n (rowsF (matQ q n)) (gx x) v = sumN n fun i => mF q q.src.length v i * gx x i := sumN_congr fun i hi => by rw [show rowsF (matQ q n) v i = mF q q.src.length v i from rowsF_matL hv hi]
  have hs := sumN_bd (n := n) (f := fun i => mF q q.src.length v i * gx x i) (B := 48) fun i _ => hbd i
  unfold m_spec_l20Reflect
  rw [decide_eq_true (by simp; omega), cond_true, Lp_go (s := ((0 : Int), (0 : Int))) (r := sumN n fun i => mF q q.src.length v i * gx x i) (fun k => (sumN k fun i => mF q q.src.length v i * gx x i, (k : Int))) n rfl (fun k hk => ?_) (fun _ => ?_), Option.bind_some]
  · have hvl : v < x.length := by omega
    rw [List.nil_append, at_gx hvl]
    simp only [Option.bind_some]
    have h2 := hx.2 _ (mem_gx hvl)
    rw [hmv, wr_sm (by omega), Int.toNat_natCast]
    rfl
  · unfold m_spec_l20Reflect_L1
    simp only
    have h2 := sumN_bd (n := k) (f := fun i => mF q q.src.length v i * gx x i) (B := 48) fun i _ => hbd i
    have h3 := hbd k
    rw [hxn, dlt hk, cond_true, show atL (matQ q n) (v : Int) = some (rowL n (mF q q.src.length v)) from rowL_at hv, Option.bind_some, rowL_at hk, Option.bind_some, at_gx (by omega), Option.bind_some, wr_sm (x := mF q q.src.length v k * gx x k) (by omega), wr_sm (by omega), wr_suc hk (by omega)]
    rfl
  · unfold m_spec_l20Reflect_L1
    simp only
    rw [hxn, dnl (Nat.le_refl _), cond_false]
def reflL (q : Qv) (n : Nat) (x : List Int) (v : Nat) : List Int := x.set v (gx x v + -(mv n (rowsF (matQ q n)) (gx x) v))
theorem refl_root {q : Qv} {n : Nat} (H : Fin1 q n) {x : List Int} (r : RtQ q n x) {v : Nat} (hv : v < n) (h : 0 ≤ gx x v + -(mv n (rowsF (matQ q n)) (gx x) v)) : RtQ q n (reflL q n x v) := by
  have hvl : v < x.length := by rw [r.len]; exact hv
  refine ⟨by unfold reflL; rw [List.length_set]; exact r.len, fun a ha => ?_, ?_⟩
  · rcases mem_set_cases ha with rfl | ha
    · exact h
    · exact r.nn a ha
  · unfold reflL
    rw [gx_inc _ hvl, qf_add _ _ _ hv H.F.sym, r.two, H.F.diag v hv]
    generalize mv n (rowsF (matQ q n)) (gx x) v = s
    grind
def Clos (q : Qv) (n : Nat) (all : List (List Int)) (x : List Int) (v : Nat) : Prop := 0 ≤ gx x v + -(mv n (rowsF (matQ q n)) (gx x) v) → reflL q n x v ∈ all
def AllRt (q : Qv) (n : Nat) (all : List (List Int)) : Prop := all.Nodup ∧ ∀ x ∈ all, RtQ q n x
theorem n_l20Has {l : List (List Int)} {x : List Int} (hl : ∀ r ∈ l, bI r) (hn : l.length ≤ 1000) : m_spec_l20Has l x = some (decide (x ∈ l)) := by
  unfold m_spec_l20Has
  rw [Lp_any (fun k => decide (l[k]?.getD [] = x)) true (n := l.length) (by omega) (fun k hk => ?_) (fun _ => ?_), Option.bind_some]
  · have e : ((List.range l.length).any fun k => decide (l[k]?.getD [] = x)) = decide (x ∈ l) := by
      rw [Bool.eq_iff_iff, List.any_eq_true, decide_eq_true_eq]
      constructor
      · rintro ⟨k, hk, h⟩
        have hk' := List.mem_range.1 hk
        rw [decide_eq_true_eq, List.getElem?_eq_getElem hk', Option.getD_some] at h
        rw [← h]; exact List.getElem_mem hk'
      · intro h
        obtain ⟨k, hk, rfl⟩ := List.mem_iff_getElem.1 h
        exact ⟨k, List.mem_range.2 hk, by simp [hk]⟩
    rw [e]
    cases decide (x ∈ l) <;> rfl
  · unfold m_spec_l20Has_L1
    rw [dlt hk, cond_true, atG [] hk, Option.bind_some, n_l6Same (hl _ (by rw [List.getElem?_eq_getElem hk]; exact List.getElem_mem hk)), Option.bind_some]
    cases decide (l[k]?.getD [] = x) <;> rfl
  · unfold m_spec_l20Has_L1
    rw [dnl (Nat.le_refl _), cond_false]
theorem n_specInner {q : Qv} {n : Nat} (H : Fin1 q n) {all0 : List (List Int)} {i : Nat} {x : List Int} (hi : atL all0 (i : Int) = some x) (h0 : AllRt q n all0) :
    ∃ r, Lp (m_spec_PositiveRoots_L3 q (matQ q n) (all0, (i : Int))) (all0, 0) = some r ∧ (all0 <+: r ∧ AllRt q n r ∧ ∀ u, u < n → Clos q n r x u) := by
  have Q := H.Q
  have n5 := Q.n5
  have hxr : RtQ q n x := h0.2 x (List.mem_of_getElem? (atL_get hi))
  have hxv := H.vec hxr
  refine Lp_meas (fun s => ∃ w : Nat, s.2 = (w : Int) ∧ w ≤ n ∧ all0 <+: s.1 ∧ AllRt q n s.1 ∧ ∀ u, u < w → Clos q n s.1 x u) (fun s => n - s.2.toNat) _ ⟨0, rfl, Nat.zero_le _, List.prefix_refl _, h0, fun u hu => by omega⟩ ?_
  rintro ⟨all, sv⟩ ⟨w, hw, hwn, hpre, hall, hcl⟩
  simp only at hw hpre hall hcl
  subst hw
  have hlen := H.num hall.1 hall.2
  by_cases hlt : w < n
  · left
    have hat : atL all (i : Int) = some x := by
      have h1 := atL_get hi
      obtain ⟨t, rfl⟩ := hpre
      have h2 := atL_lt hi
      rw [Int.toNat_natCast] at h1 h2
      simp only [atL]
      rw [decide_eq_true (by omega), cond_true, Int.toNat_natCast, List.getElem?_append_left h2]
      exact h1
    have hrl : (reflL q n x w).length = n := by unfold reflL; rw [List.length_set]; exact hxv.2
    have hgy : gx (reflL q n x w) w = gx x w + -(mv n (rowsF (matQ q n)) (gx x) w) := by unfold reflL; rw [gx_set _ (by omega), if_pos rfl]
    have hb : m_spec_PositiveRoots_L3 q (matQ q n) (all0, (i : Int)) (all, (w : Int)) = some (.inl (if 0 ≤ gx x w + -(mv n (rowsF (matQ q n)) (gx x) w) ∧ ¬ reflL q n x w ∈ all then all ++ [reflL q n x w] else all, ((w + 1 : Nat) : Int))) := by
      unfold m_spec_PositiveRoots_L3
      simp only
      rw [Q.n0, dlt hlt, cond_true, hat, Option.bind_some, n_reflect Q hxv.1 hxv.2 hlt, Option.bind_some]
      change (Option.bind (atL (reflL q n x w) (w : Int)) fun v13 => _) = _
      rw [at_gx (by omega), Option.bind_some, hgy, wr_suc hlt (by omega)]
      by_cases c : 0 ≤ gx x w + -(mv n (rowsF (matQ q n)) (gx x) w)
      · have hy := refl_root H hxr hlt c
        have hyv := H.vec hy
        rw [decide_eq_true c, cond_true]
        change (Option.bind (m_spec_l20Has all (reflL q n x w)) fun v15 => _) = _
        rw [n_l20Has (fun r hr => by have := (H.vec (hall.2 r hr)).1.1; unfold bI; omega) (by omega), Option.bind_some]
        by_cases c2 : reflL q n x w ∈ all
        · rw [decide_eq_true c2, Bool.not_true, cond_false, if_neg (by simp [c2])]
        · rw [decide_eq_false c2, Bool.not_false, cond_true, if_pos ⟨c, c2⟩]
          unfold m_spec_TitsForm
          change (Option.bind (Option.bind (m_spec_EulerForm q (reflL q n x w) (reflL q n x w)) fun v1 => some v1) fun v17 => _) = _
          rw [n_specEul Q hrl hrl hyv.1.sm hyv.1.sm, Option.bind_some, Option.bind_some, ((rt_iff Q _).1 hy).2.2, decide_eq_true rfl, cond_true, decide_eq_true (by omega), cond_true]
          rfl
      · rw [decide_eq_false c, cond_false, if_neg (by simp [c])]
    refine ⟨_, hb, ⟨w + 1, rfl, by omega, ?_, ?_, ?_⟩, by show n - ((w + 1 : Nat) : Int).toNat < n - (w : Int).toNat; omega⟩
    · simp only
      split
      · exact hpre.trans (List.prefix_append _ _)
      · exact hpre
    · simp only
      split
      · rename_i c
        refine ⟨?_, fun y hy => ?_⟩
        · rw [List.nodup_append]
          refine ⟨hall.1, by simp, fun a ha b hb => ?_⟩
          rw [List.mem_singleton] at hb
          subst hb
          rintro rfl
          exact c.2 ha
        · rcases List.mem_append.1 hy with hy | hy
          · exact hall.2 y hy
          · rw [List.mem_singleton] at hy
            subst hy
            exact refl_root H hxr hlt c.1
      · exact hall
    · intro u hu h
      simp only
      by_cases e : u = w
      · subst e
        split
        · simp
        · rename_i c
          exact Classical.byContradiction fun h2 => c ⟨h, h2⟩
      · have := hcl u (by omega) h
        split
        · simp [this]
        · exact this
  · right
    have : w = n := by omega
    subst this
    refine ⟨all, ?_, hpre, hall, hcl⟩
    unfold m_spec_PositiveRoots_L3
    simp only
    rw [Q.n0, dnl (Nat.le_refl _), cond_false]
theorem n_specOuter {q : Qv} {n : Nat} (H : Fin1 q n) {all0 : List (List Int)} (h0 : AllRt q n all0) :
    ∃ r, Lp (m_spec_PositiveRoots_L2 q (matQ q n)) (all0, 0) = some r ∧ (all0 <+: r ∧ AllRt q n r ∧ ∀ x ∈ r, ∀ u, u < n → Clos q n r x u) := by
  refine Lp_meas (fun s => ∃ k : Nat, s.2 = (k : Int) ∧ k ≤ s.1.length ∧ all0 <+: s.1 ∧ AllRt q n s.1 ∧ ∀ j (hj : j < s.1.length), j < k → ∀ u, u < n → Clos q n s.1 s.1[j] u) (fun s => 21 - s.2.toNat) _ ⟨0, rfl, Nat.zero_le _, List.prefix_refl _, h0, fun j _ hj => by omega⟩ ?_
  rintro ⟨all, sv⟩ ⟨k, hk, hkl, hpre, hall, hcl⟩
  simp only at hk hkl hpre hall hcl
  subst hk
  have hlen := H.num hall.1 hall.2
  by_cases hlt : k < all.length
  · left
    obtain ⟨r, g1, g2, g3, g4⟩ := n_specInner H (atL_nat hlt) hall
    have hrl := g2.length_le
    refine ⟨(r, ((k + 1 : Nat) : Int)), ?_, ⟨k + 1, rfl, by show k + 1 ≤ r.length; omega, hpre.trans g2, g3, ?_⟩, by show 21 - ((k + 1 : Nat) : Int).toNat < 21 - (k : Int).toNat; omega⟩
    · unfold m_spec_PositiveRoots_L2
      simp only
      rw [dlt hlt, cond_true, g1, Option.bind_some, wr_suc hlt (by omega)]
    · intro j hj hjk u hu h
      simp only at hj h ⊢
      obtain ⟨t, rfl⟩ := g2
      have hja : j < all.length := by omega
      have e : (all ++ t)[j] = all[j] := List.getElem_append_left hja
      rw [e] at h ⊢
      by_cases c : j = k
      · subst c; exact g4 u hu h
      · have := hcl j hja (by omega) u hu h
        simp [this]
  · right
    refine ⟨all, ?_, hpre, hall, fun x hx u hu => ?_⟩
    · unfold m_spec_PositiveRoots_L2
      simp only
      rw [dnl (by omega), cond_false]
    · obtain ⟨j, hj, rfl⟩ := List.mem_iff_getElem.1 hx
      exact hcl j hj (by omega) u hu
theorem clos_all {q : Qv} {n : Nat} (H : Fin1 q n) {C : List (List Int)} (hu : ∀ v, v < n → unitL n v ∈ C) (hc : ∀ x ∈ C, ∀ u, u < n → Clos q n C x u) : ∀ (h : Nat) {x : List Int}, RtQ q n x → x.sum = h + 1 → x ∈ C
  | 0, x, r, hs => by
    obtain ⟨v, hv, e⟩ := sum_unit r.nn (by omega)
    rw [r.len] at e hv
    rw [e]; exact hu v hv
  | h + 1, x, r, hs => by
    obtain ⟨v, hv, h1, h2⟩ := r.down H.F (by omega)
    have hvl : v < x.length := by rw [r.len]; exact hv
    have ih := clos_all H hu hc h h2 (by rw [sum_set _ hvl]; omega)
    have h3 : mv n (rowsF (matQ q n)) (gx (x.set v (gx x v + -1))) v = -1 := by
      rw [gx_inc _ hvl, mv_add _ _ _ _ hv, h1, H.F.diag v hv]; rfl
    have h4 : gx (x.set v (gx x v + -1)) v = gx x v + -1 := by rw [gx_set _ hvl, if_pos rfl]
    have h5 := r.nn _ (mem_gx hvl)
    have h6 := hc _ ih v hv (by rw [h3, h4]; omega)
    unfold reflL at h6
    rw [h3, h4, List.set_set] at h6
    have e : x.set v (gx x v + -1 + - -1) = x := by
      refine gx_ext (by simp) fun i _ => ?_
      rw [gx_set _ hvl]
      by_cases e : i = v
      · subst e; rw [if_pos rfl]; omega
      · rw [if_neg e]
    rwa [e] at h6
theorem unit_root {q : Qv} {n : Nat} (H : Fin1 q n) {v : Nat} (hv : v < n) : RtQ q n (unitL n v) := by
  have hz : gx (List.replicate n (0 : Int)) = fun _ => 0 := by
    funext i
    unfold gx
    rw [List.getElem?_replicate]
    split <;> simp
  have hvl : v < (List.replicate n (0 : Int)).length := by simpa using hv
  have e : unitL n v = (List.replicate n (0 : Int)).set v (gx (List.replicate n (0 : Int)) v + 1) := by rw [hz]; rfl
  refine ⟨by simp [unitL], fun a ha => ?_, ?_⟩
  · rcases mem_set_cases ha with rfl | ha
    · omega
    · rw [List.eq_of_mem_replicate ha]; omega
  · rw [e, gx_inc _ hvl, qf_add _ _ _ hv H.F.sym, H.F.diag v hv, hz]
    have h1 : mv n (rowsF (matQ q n)) (fun _ => 0) v = 0 := by
      unfold mv
      rw [sumN_congr (g := fun _ => 0) (fun i _ => by rw [Int.mul_zero]), sumN_zero]
    have h2 : qf n (rowsF (matQ q n)) (fun _ => 0) = 0 := by
      rw [qf_mv, sumN_congr (g := fun _ => 0) (fun i _ => by rw [Int.zero_mul]), sumN_zero]
    rw [h1, h2]; rfl
theorem units_nodup (n : Nat) : ((List.range n).map (unitL n)).Nodup := by
  rw [List.nodup_iff_pairwise_ne, List.pairwise_map]
  refine List.Pairwise.imp_of_mem (fun {a b} ha hb h e => ?_) (List.nodup_iff_pairwise_ne.1 List.nodup_range)
  have h1 : gx (unitL n a) a = 1 := by unfold unitL; rw [gx_set _ (by simpa using List.mem_range.1 ha), if_pos rfl]
  have h2 : gx (unitL n b) a = 0 := by unfold unitL; rw [gx_set _ (by simpa using List.mem_range.1 hb), if_neg h, gx_rep (List.mem_range.1 ha)]
  rw [e, h2] at h1
  cases h1
theorem n_specUnits {q : Qv} {n : Nat} (Q : QOk q n) : Lp (m_spec_PositiveRoots_L1 q) (([] : List (List Int)), 0) = some ((List.range n).map (unitL n)) := by
  have n5 := Q.n5
  refine Lp_go (fun k => ((List.range k).map (unitL n), (k : Int))) n rfl (fun k hk => ?_) (fun _ => ?_)
  · unfold m_spec_PositiveRoots_L1
    simp only
    rw [Q.n0, dlt hk, cond_true, decide_eq_true (by omega), decide_eq_true (by omega), Bool.and_self, cond_true, Int.toNat_natCast, atG 0 (by simpa using hk), Option.bind_some, decide_eq_true (by simp; omega), cond_true, wr_suc hk (by omega), List.range_succ, List.map_append, Int.toNat_natCast]
    rfl
  · unfold m_spec_PositiveRoots_L1
    simp only
    rw [Q.n0, dnl (Nat.le_refl _), cond_false]
/-- The roots, in order. -/
def rootsL (q : Qv) (n : Nat) : List (List Int) := sortB sumLt (listA q n)
theorem mem_rootsL {q : Qv} {n : Nat} (H : Fin1 q n) (x : List Int) : x ∈ rootsL q n ↔ RtQ q n x := by unfold rootsL; rw [(sortB_spec _ _).2, mem_listA H]
theorem rootsL_len {q : Qv} {n : Nat} (H : Fin1 q n) : (rootsL q n).length ≤ 20 := by
  unfold rootsL
  rw [(sortB_spec _ _).1]
  exact H.num ((boxes_nodup _).filter _) fun x hx => (mem_listA H x).1 hx
theorem n_specRoots {q : Qv} {n : Nat} (H : Fin1 q n) : (Option.bind (Lp (m_spec_PositiveRoots_L1 q) (([] : List (List Int)), 0)) fun y8 => Option.bind (Lp (m_spec_PositiveRoots_L2 q (matQ q n)) (y8, 0)) fun y21 => Option.bind (Lp (m_spec_PositiveRoots_L4 y21) (([] : List (List Int)), 0)) fun y35 => some (y35, true)) = some (rootsL q n, true) := by
  have hU : AllRt q n ((List.range n).map (unitL n)) := ⟨units_nodup n, fun x hx => by
    obtain ⟨v, hv, rfl⟩ := List.mem_map.1 hx
    exact unit_root H (List.mem_range.1 hv)⟩
  obtain ⟨C, h1, h2, h3, h4⟩ := n_specOuter H hU
  have hC : ∀ x ∈ C, Vec5 x ∧ x.length = n := fun x hx => H.vec (h3.2 x hx)
  have hlen := H.num h3.1 h3.2
  rw [n_specUnits H.Q, Option.bind_some, h1, Option.bind_some, n_sortSpec hC (by omega), Option.bind_some]
  congr 2
  refine sorted_ext lessP_irr lessP_trans ?_ sorted_implRoots fun x => ?_
  · refine sortB_sorted lessP_trans ?_
    refine List.Pairwise.imp_of_mem (fun {p x} hp hx h => ?_) (List.nodup_iff_pairwise_ne.1 h3.1)
    refine ⟨fun h => h, fun h' => ?_⟩
    have h5 : ¬ LessP x p := by unfold LessP; rw [h']; simp
    rw [lessP_iff] at h5 ⊢
    rcases lexB_total (x := p) (y := x) (by rw [(hC p hp).2, (hC x hx).2]) h with h6 | h6
    · by_cases e : p.sum = x.sum
      · exact .inr ⟨e, h6⟩
      · refine .inl ?_
        have : ¬ x.sum < p.sum := fun h => h5 (.inl h)
        omega
    · refine .inl ?_
      have h7 : ¬ x.sum < p.sum := fun h => h5 (.inl h)
      have h8 : ¬ x.sum = p.sum := fun h => h5 (.inr ⟨h, h6⟩)
      omega
  · rw [(sortB_spec _ _).2, mem_rootsL H]
    constructor
    · exact h3.2 x
    · intro r
      have := r.pos H.F
      exact clos_all H (fun v hv => by
        obtain ⟨t, rfl⟩ := h2
        simp only [List.mem_append]
        exact .inl (List.mem_map.2 ⟨v, List.mem_range.2 hv, rfl⟩)) h4 (x.sum - 1).toNat r (by omega)
end Go.Proofs.Ytahbimogkgfmdaa
end

section
set_option linter.unusedVariables false
set_option linter.unusedSimpArgs false
/-
  The laws' structs as arguments: quivers, matrices, representations, spaces, bars, claims.
-/
namespace Go.Proofs.Ytahbimogkgfmdaa
open Go.ChangeShapes Go.WideShapes Go.ChangeAt Go.RowKit
theorem oI : Opens Try.prog 3 (ShpA 1 eI) := opensA_int Try.underlying3
theorem oL : Opens Try.prog 22 (ShpA 1 eL) := opensA_slice Try.underlying22 (by decide) (by kernel_rfl) oI
theorem oQ : Opens Try.prog 24 (ShpA 3 eQ) := by
  intro H enc w fuel cs d ps h hf
  obtain ⟨x0, T0, u0⟩ := upto_cons Try.underlying24 h hf upto_nil (i := 0) (ft := 3) rfl (k := 1) (by kernel_rfl) oI
  obtain ⟨x1, T1, u1⟩ := upto_cons Try.underlying24 h hf u0 (i := 1) (ft := 22) rfl (k := 1) (by kernel_rfl) oL
  obtain ⟨x2, T2, u2⟩ := upto_cons Try.underlying24 h hf u1 (i := 2) (ft := 22) rfl (k := 1) (by kernel_rfl) oL
  exact ⟨⟨x0, x1, x2⟩, _, upto_end Try.underlying24 h hf u2 (by kernel_rfl) _ rfl⟩
end Go.Proofs.Ytahbimogkgfmdaa
end

section
set_option linter.unusedVariables false
set_option linter.unusedSimpArgs false
/-
  A law's arguments: their lists have lengths that fit.
-/
namespace Go.Proofs.Ytahbimogkgfmdaa
open Go.RowKit
set_option linter.unusedVariables false

theorem rvs_mem {w : World} : ∀ {ds : List AV} {vs : List Value} {S : List Nat}, RepVs w ds vs S → ∀ d ∈ ds, ∃ v S', RepD w d v S'
  | [], _, _, _, d, hd => by cases hd
  | c :: cs, vs, S, h, d, hd => by
    simp only [RepVs] at h
    obtain ⟨v, r, S1, S2, _, _, h3, h4⟩ := h
    rcases List.mem_cons.1 hd with rfl | h'
    · exact ⟨v, S1, h3⟩
    · exact rvs_mem h4 d h'
theorem rcs_mem {w : World} {b : Nat} : ∀ {ds : List AV} {o : Nat} {S : List Nat}, RepCs w b o ds S → ∀ d ∈ ds, ∃ v S', RepD w d v S'
  | [], _, _, _, d, hd => by cases hd
  | c :: cs, o, S, h, d, hd => by
    simp only [RepCs] at h
    obtain ⟨v, S1, S2, _, _, _, _, h3, h4⟩ := h
    rcases List.mem_cons.1 hd with rfl | h'
    · exact ⟨v, S1, h3⟩
    · exact rcs_mem h4 d h'
theorem res_mem {w : World} {k b : Nat} : ∀ {es : List (List AV)} {o : Nat} {S : List Nat}, RepEs w k b o es S → ∀ cs ∈ es, ∀ d ∈ cs, ∃ v S', RepD w d v S'
  | [], _, _, _, cs, hc => by cases hc
  | c :: es, o, S, h, cs, hc => by
    simp only [RepEs] at h
    obtain ⟨S1, S2, _, _, h3, h4⟩ := h
    rcases List.mem_cons.1 hc with rfl | h'
    · exact rcs_mem h3
    · exact res_mem h4 cs h'
theorem rd_list {w : World} {k : Nat} {es : List (List AV)} {v : Value} {S : List Nat} (h : RepD w (.list k es) v S) : es.length ≤ 9223372036854775807 ∧ ∀ cs ∈ es, ∀ d ∈ cs, ∃ v S', RepD w d v S' := by
  unfold RepD at h
  obtain ⟨a, c, _, h2, h3, h4⟩ := h
  have hm : maxLen ≤ 9223372036854775807 := by decide
  refine ⟨by omega, ?_⟩
  rcases h4 with ⟨rfl, _⟩ | ⟨b, o, T, _, _, _, h5⟩
  · intro cs hcs; cases hcs
  · exact res_mem h5
theorem fI_of {w : World} {l : List Int} {v : Value} {S : List Nat} (h : RepD w (ints l) v S) : fI l := by
  have := (rd_list (k := 1) (es := List.map eI l) h).1
  rwa [List.length_map] at this
theorem fI_mem {w : World} {ds : List AV} (h : ∀ d ∈ ds, ∃ v S', RepD w d v S') {l : List Int} (hl : ints l ∈ ds) : fI l := by
  obtain ⟨v, S, h⟩ := h _ hl
  exact fI_of h
theorem list_mem {w : World} {ds : List AV} (h : ∀ d ∈ ds, ∃ v S', RepD w d v S') {α : Type} {k : Nat} {e : α → List AV} {l : List α} (hl : AV.list k (l.map e) ∈ ds) : fI l ∧ ∀ x ∈ l, ∀ d ∈ e x, ∃ v S', RepD w d v S' := by
  obtain ⟨v, S, h⟩ := h _ hl
  have := rd_list h
  rw [List.length_map] at this
  exact ⟨this.1, fun x hx => this.2 _ (List.mem_map.2 ⟨x, hx, rfl⟩)⟩
theorem fQ_of {w : World} {q : Qv} (h : ∀ d ∈ eQ q, ∃ v S', RepD w d v S') : fQ q := ⟨fI_mem h (by simp [eQ]), fI_mem h (by simp [eQ])⟩
theorem ret_true {w0 w : World} {v : Value} {S : List Nat} (h : ResA w (.bl true) v S) : Ending.returned v = .returned (.bool true) := by rw [h.1]
end Go.Proofs.Ytahbimogkgfmdaa
end

section
set_option linter.unusedVariables false
set_option linter.unusedSimpArgs false
/-
  Models and contracts of functions, made by the extractor (ex.py).
-/
namespace Go.Proofs.Ytahbimogkgfmdaa
open Go.RowKit
set_option linter.unusedVariables false
set_option linter.unusedSimpArgs false
set_option maxRecDepth 10000
set_option maxHeartbeats 4000000

end Go.Proofs.Ytahbimogkgfmdaa
end

section
set_option linter.unusedVariables false
set_option linter.unusedSimpArgs false
/-
  The laws' sizes, copies and comparisons (2): lists of lists, spaces.
-/
namespace Go.Proofs.Ytahbimogkgfmdaa
open Go.RowKit
set_option linter.unusedVariables false
set_option linter.unusedSimpArgs false

theorem mz_Row {l : List Int} {left : Int} (hl : fI l) (h0 : 0 ≤ left) (h1 : left ≤ 1048576) : m_laws_szIntS l left = some (zRow l left) := mz_I hl h0 h1
end Go.Proofs.Ytahbimogkgfmdaa
end

section
set_option linter.unusedVariables false
set_option linter.unusedSimpArgs false
/-
  Models and contracts of functions, made by the extractor (ex.py).
-/
namespace Go.Proofs.Ytahbimogkgfmdaa
open Go.RowKit
set_option linter.unusedVariables false
set_option linter.unusedSimpArgs false
set_option maxRecDepth 10000
set_option maxHeartbeats 4000000

noncomputable def m_laws_FnExactAreCompatible (a0 : Qv) (a1 : (List Int)) (a2 : (List Int)) : Option Bool :=
  bif decide (1048576 < (a1.length : Int)) then
    (some (true))
  else
    (bif decide (1048576 < (a2.length : Int)) then
      (some (true))
    else
      (Option.bind (m_laws_szQuiver a0 1048576) fun v3 =>
      bif decide (v3 < 0) then
        (some (true))
      else
        (Option.bind (m_laws_toQuiver a0) fun v5 =>
        Option.bind (m_laws_toIntS a1) fun v6 =>
        Option.bind (m_laws_toIntS a2) fun v7 =>
        Option.bind (m_spec_AreCompatible v5 v6 v7) fun v8 =>
        Option.bind (m_laws_toQuiver a0) fun v9 =>
        Option.bind (m_laws_toIntS a1) fun v10 =>
        Option.bind (m_laws_toIntS a2) fun v11 =>
        Option.bind (m_impl_AreCompatible v9 v10 v11) fun v12 =>
        bif !(v12 == v8) then
          (some (false))
        else
          (Option.bind (m_laws_toQuiver a0) fun v14 =>
          Option.bind (m_laws_eqQuiver v9 v14) fun v15 =>
          bif !v15 then
            (some (false))
          else
            (Option.bind (m_laws_toIntS a1) fun v17 =>
            Option.bind (m_laws_eqIntS v10 v17) fun v18 =>
            bif !v18 then
              (some (false))
            else
              (Option.bind (m_laws_toIntS a2) fun v20 =>
              Option.bind (m_laws_eqIntS v11 v20) fun v21 =>
              bif !v21 then
                (some (false))
              else
                (some (true))))))))

theorem c_laws_FnExactAreCompatible (a0 : Qv) (a1 : (List Int)) (a2 : (List Int)) (r : Bool) (h : m_laws_FnExactAreCompatible a0 a1 a2 = some r) : HasC Try.prog 5 [.agg (eQ a0), .list 1 (List.map eI a1), .list 1 (List.map eI a2)] (.bl r) := by
 refine hasC_mk TT_ok (rvs := [.tmp 6]) (ns := [0, 1, 2, 3, 4, 5, 6, 7, 8, 9, 10, 11, 12, 13, 14, 15]) Try.func5 k k Try.ntmps5 k k k <| sQ <| rg <| ae (w_box k k k k) k <| ae (eff_assign k) k <| an <| tn <| sQ <| sQ <| rg ?_
 refine ae (eff_move k) k <| ae (AEff.val (w_len_list TT_ok k k k) (v' := .int (a1.length : Int)) (by first | rw [len_map] | rw [encI_len])) k <| ae (w_cmp k k k) k <| an <| tn ?_
 rcases cb h with ⟨q1, h⟩ | ⟨q1, h⟩
 ·refine ac_condT k q1 <| sQ <| rg <| ae (eff_assign k) k <| an <| tn <| ac_ret <| then_ret ?_
  obtain rfl := so h
  exact ret_mk k k k (fz_bl k)
 ·refine ac_condF k q1 <| ac_skip <| tn <| sQ <| sQ <| rg <| ae (eff_move k) k <| ae (AEff.val (w_len_list TT_ok k k k) (v' := .int (a2.length : Int)) (by first | rw [len_map] | rw [encI_len])) k <| ae (w_cmp k k k) k <| an ?_
  refine tn ?_
  rcases cb h with ⟨q2, h⟩ | ⟨q2, h⟩
  ·refine ac_condT k q2 <| sQ <| rg <| ae (eff_assign k) k <| an <| tn <| ac_ret <| then_ret ?_
   obtain rfl := so h
   exact ret_mk k k k (fz_bl k)
  ·refine ac_condF k q2 <| ac_skip <| tn <| sQ <| rg <| ae (eff_assign k) k <| an <| tn <| sQ <| rg ?_
   refine ae (w_load_ptr TT_ok k k k k k k k) k <| ae (eff_move k) k ?_
   obtain ⟨v3, hv3, h⟩ := ob h
   refine ae (w_call0s (c_laws_szQuiver a0 1048576 v3 hv3) k (va_cons (va_agg' (v1_cons (v1_same k) (v1_cons (v1_same k) (v1_cons (v1_same k) v1_nil)))) (va_cons (va_same k) va_nil))) k <| ae (eff_assign k) k <| an <| tn <| ac_ent (t := mkS [(1, .list 1 (List.map eI a1)), (2, .list 1 (List.map eI a2)), (3, .ptr 0 0 0), (7, .int v3)] [(0, ⟨3, [[.int a0.n, .list 1 (List.map eI a0.src), .list 1 (List.map eI a0.tgt)]]⟩)] 1 [1, 2, 3, 4, 5, 6, 7, 8, 9, 10, 11, 12, 13, 14, 15]) (ent_mk (σ := sg [(0, 0)]) ⟨⟨_, k, ⟨k, k⟩⟩, ⟨_, k, ⟨k, k⟩⟩, ⟨_, k, ⟨k, k, k, k⟩⟩, (e1 k k), trivial⟩ ⟨⟨_, k, k, .inl ⟨k, plain_of k⟩⟩, k, trivial⟩ k) <| sQ <| sQ <| rg <| ae (eff_move k) k <| ae (w_cmp k k k) k ?_
   refine an <| tn ?_
   rcases cb h with ⟨q4, h⟩ | ⟨q4, h⟩
   ·refine ac_condT k q4 <| sQ <| rg <| ae (eff_assign k) k <| an <| tn <| ac_ret <| then_ret ?_
    obtain rfl := so h
    exact ret_mk k k k (fz_bl k)
   ·refine ac_condF k q4 <| ac_skip <| tn <| sQ <| rg <| ae (w_load_ptr TT_ok k k k k k k k) k ?_
    obtain ⟨v5, hv5, h⟩ := ob h
    refine ae (AEff.conv (w_call0 (x := .agg [.int v5.n, .own 1 0 (List.map eI v5.src).length, .own 2 0 (List.map eI v5.tgt).length]) (nb := [(1, ⟨1, absEs (List.map eI v5.src)⟩), (2, ⟨1, absEs (List.map eI v5.tgt)⟩)]) (c_laws_toQuiver a0 v5 hv5) k (by rfl) k k (g1_cons trivial (g1_cons (okI.good _) (g1_cons (okI.good _) g1_nil))) (va_cons (va_agg' (v1_cons (v1_same k) (v1_cons (v1_same k) (v1_cons (v1_same k) v1_nil)))) va_nil)) (v' := .agg [.int v5.n, .own 1 0 v5.src.length, .own 2 0 v5.tgt.length]) (ed' := [(1, some ⟨1, List.map (ow eI) v5.src⟩), (2, some ⟨1, List.map (ow eI) v5.tgt⟩)]) (by simp only [len_map]) (ed_ok (nb' := [(1, ⟨1, List.map (ow eI) v5.src⟩), (2, ⟨1, List.map (ow eI) v5.tgt⟩)]) (by simp only [abs_map]))) k <| ae (eff_move k) k ?_
    obtain ⟨v6, hv6, h⟩ := ob h
    refine ae (AEff.conv (w_call0 (x := .own 3 0 (List.map eI v6).length) (nb := [(3, ⟨1, absEs (List.map eI v6)⟩)]) (c_laws_toIntS a1 v6 hv6) k (by rfl) k k (okI.good _) (va_cons (va_same k) va_nil)) (v' := .own 3 0 v6.length) (ed' := [(3, some ⟨1, List.map (ow eI) v6⟩)]) (by simp only [len_map]) (ed_ok (nb' := [(3, ⟨1, List.map (ow eI) v6⟩)]) (by simp only [abs_map]))) k <| ae (eff_move k) k ?_
    obtain ⟨v7, hv7, h⟩ := ob h
    refine ae (AEff.conv (w_call0 (x := .own 4 0 (List.map eI v7).length) (nb := [(4, ⟨1, absEs (List.map eI v7)⟩)]) (c_laws_toIntS a2 v7 hv7) k (by rfl) k k (okI.good _) (va_cons (va_same k) va_nil)) (v' := .own 4 0 v7.length) (ed' := [(4, some ⟨1, List.map (ow eI) v7⟩)]) (by simp only [len_map]) (ed_ok (nb' := [(4, ⟨1, List.map (ow eI) v7⟩)]) (by simp only [abs_map]))) k ?_
    obtain ⟨v8, hv8, h⟩ := ob h
    refine ae (w_call0s (c_spec_AreCompatible v5 v6 v7 v8 hv8) k (va_cons (va_agg' (v1_cons (v1_same k) (v1_cons (v1_T okI k k) (v1_cons (v1_T okI k k) v1_nil)))) (va_cons (va_T okI k k) (va_cons (va_T okI k k) va_nil)))) k <| ae (eff_assign k) k <| an <| tn <| sQ <| rg <| ae (w_load_ptr TT_ok k k k k k k k) k ?_
    obtain ⟨v9, hv9, h⟩ := ob h
    refine ae (AEff.conv (w_call0 (x := .agg [.int v9.n, .own 5 0 (List.map eI v9.src).length, .own 6 0 (List.map eI v9.tgt).length]) (nb := [(5, ⟨1, absEs (List.map eI v9.src)⟩), (6, ⟨1, absEs (List.map eI v9.tgt)⟩)]) (c_laws_toQuiver a0 v9 hv9) k (by rfl) k k (g1_cons trivial (g1_cons (okI.good _) (g1_cons (okI.good _) g1_nil))) (va_cons (va_agg' (v1_cons (v1_same k) (v1_cons (v1_same k) (v1_cons (v1_same k) v1_nil)))) va_nil)) (v' := .agg [.int v9.n, .own 5 0 v9.src.length, .own 6 0 v9.tgt.length]) (ed' := [(5, some ⟨1, List.map (ow eI) v9.src⟩), (6, some ⟨1, List.map (ow eI) v9.tgt⟩)]) (by simp only [len_map]) (ed_ok (nb' := [(5, ⟨1, List.map (ow eI) v9.src⟩), (6, ⟨1, List.map (ow eI) v9.tgt⟩)]) (by simp only [abs_map]))) k <| ae (w_alloc TT_ok k k) k <| ae (w_store TT_ok k k k k k k k k) k <| an <| tn <| ac_ent (t := mkS [(1, .list 1 (List.map eI a1)), (2, .list 1 (List.map eI a2)), (3, .ptr 0 0 0), (8, .bl v8), (9, .ptr 7 0 0)] [(0, ⟨3, [[.int a0.n, .list 1 (List.map eI a0.src), .list 1 (List.map eI a0.tgt)]]⟩), (5, ⟨1, List.map (ow eI) v9.src⟩), (6, ⟨1, List.map (ow eI) v9.tgt⟩), (7, ⟨3, [[.int v9.n, .own 5 0 v9.src.length, .own 6 0 v9.tgt.length]]⟩)] 8 [8, 9, 10, 11, 12, 13, 14, 15]) (ent_mk (σ := sg [(0, 0), (5, 5), (6, 6), (7, 7)]) ⟨⟨_, k, ⟨k, k⟩⟩, ⟨_, k, ⟨k, k⟩⟩, ⟨_, k, ⟨k, k, k, k⟩⟩, (e1 k k), ⟨_, k, ⟨k, k, k, k⟩⟩, trivial⟩ ⟨⟨_, k, k, .inl ⟨k, plain_of k⟩⟩, k, ⟨_, k, k, .inl ⟨k, okI.plainO _⟩⟩, k, ⟨_, k, k, .inl ⟨k, okI.plainO _⟩⟩, k, ⟨_, k, k, .inr ⟨_, _, k, ⟨_, _, k, k, ⟨_, _, k, ⟨k, k, k, k⟩, ⟨_, _, k, ⟨k, k, k, k⟩, k⟩⟩⟩, k⟩⟩, k, trivial⟩ k) ?_
    refine sQ <| rg <| ae (eff_move k) k ?_
    obtain ⟨v10, hv10, h⟩ := ob h
    refine ae (AEff.conv (w_call0 (x := .own 8 0 (List.map eI v10).length) (nb := [(8, ⟨1, absEs (List.map eI v10)⟩)]) (c_laws_toIntS a1 v10 hv10) k (by rfl) k k (okI.good _) (va_cons (va_same k) va_nil)) (v' := .own 8 0 v10.length) (ed' := [(8, some ⟨1, List.map (ow eI) v10⟩)]) (by simp only [len_map]) (ed_ok (nb' := [(8, ⟨1, List.map (ow eI) v10⟩)]) (by simp only [abs_map]))) k <| ae (eff_assign k) k <| an <| tn <| sQ <| rg <| ae (eff_move k) k ?_
    obtain ⟨v11, hv11, h⟩ := ob h
    refine ae (AEff.conv (w_call0 (x := .own 9 0 (List.map eI v11).length) (nb := [(9, ⟨1, absEs (List.map eI v11)⟩)]) (c_laws_toIntS a2 v11 hv11) k (by rfl) k k (okI.good _) (va_cons (va_same k) va_nil)) (v' := .own 9 0 v11.length) (ed' := [(9, some ⟨1, List.map (ow eI) v11⟩)]) (by simp only [len_map]) (ed_ok (nb' := [(9, ⟨1, List.map (ow eI) v11⟩)]) (by simp only [abs_map]))) k <| ae (eff_assign k) k <| an <| tn <| sQ <| rg <| ae (w_load_ptr TT_ok k k k k k k k) k <| ae (eff_move k) k <| ae (eff_move k) k ?_
    obtain ⟨v12, hv12, h⟩ := ob h
    refine ae (w_call0s (c_impl_AreCompatible v9 v10 v11 v12 hv12) k (va_cons (va_agg' (v1_cons (v1_same k) (v1_cons (v1_T okI k k) (v1_cons (v1_T okI k k) v1_nil)))) (va_cons (va_T okI k k) (va_cons (va_T okI k k) va_nil)))) k <| ae (eff_assign k) k <| an <| tn <| sQ <| sQ <| rg <| ae (eff_move k) k <| ae (eff_move k) k <| ae (w_neqB (by kernel_rfl) k k) k ?_
    refine an <| tn <| ac_ent (t := mkS [(1, .list 1 (List.map eI a1)), (2, .list 1 (List.map eI a2)), (3, .ptr 0 0 0), (9, .ptr 7 0 0), (10, .own 8 0 v10.length), (11, .own 9 0 v11.length), (43, .bl (!(v12 == v8)))] [(0, ⟨3, [[.int a0.n, .list 1 (List.map eI a0.src), .list 1 (List.map eI a0.tgt)]]⟩), (5, ⟨1, List.map (ow eI) v9.src⟩), (6, ⟨1, List.map (ow eI) v9.tgt⟩), (7, ⟨3, [[.int v9.n, .own 5 0 v9.src.length, .own 6 0 v9.tgt.length]]⟩), (8, ⟨1, List.map (ow eI) v10⟩), (9, ⟨1, List.map (ow eI) v11⟩)] 10 [10, 11, 12, 13, 14, 15]) (ent_mk (σ := sg [(0, 0), (5, 5), (6, 6), (7, 7), (8, 8), (9, 9)]) ⟨⟨_, k, ⟨k, k⟩⟩, ⟨_, k, ⟨k, k⟩⟩, ⟨_, k, ⟨k, k, k, k⟩⟩, ⟨_, k, ⟨k, k, k, k⟩⟩, ⟨_, k, ⟨k, k, k, k⟩⟩, ⟨_, k, ⟨k, k, k, k⟩⟩, (e1 k k), trivial⟩ ⟨⟨_, k, k, .inl ⟨k, plain_of k⟩⟩, k, ⟨_, k, k, .inl ⟨k, okI.plainO _⟩⟩, k, ⟨_, k, k, .inl ⟨k, okI.plainO _⟩⟩, k, ⟨_, k, k, .inr ⟨_, _, k, ⟨_, _, k, k, ⟨_, _, k, ⟨k, k, k, k⟩, ⟨_, _, k, ⟨k, k, k, k⟩, k⟩⟩⟩, k⟩⟩, k, ⟨_, k, k, .inl ⟨k, okI.plainO _⟩⟩, k, ⟨_, k, k, .inl ⟨k, okI.plainO _⟩⟩, k, trivial⟩ k) ?_
    rcases cb h with ⟨q13, h⟩ | ⟨q13, h⟩
    ·refine ac_condT k q13 <| sQ <| rg <| ae (eff_assign k) k <| an <| tn <| ac_ret <| then_ret ?_
     obtain rfl := so h
     exact ret_mk k k k (fz_bl k)
    ·refine ac_condF k q13 <| ac_skip <| tn <| sQ <| sQ <| ac_region_draw MIXX <| ae (w_load_ptr TT_ok k k k k k k k) k <| ae (w_load_ptr TT_ok k k k k k k k) k ?_
     obtain ⟨v14, hv14, h⟩ := ob h
     refine ae (AEff.conv (w_call0 (x := .agg [.int v14.n, .own 10 0 (List.map eI v14.src).length, .own 11 0 (List.map eI v14.tgt).length]) (nb := [(10, ⟨1, absEs (List.map eI v14.src)⟩), (11, ⟨1, absEs (List.map eI v14.tgt)⟩)]) (c_laws_toQuiver a0 v14 hv14) k (by rfl) k k (g1_cons trivial (g1_cons (okI.good _) (g1_cons (okI.good _) g1_nil))) (va_cons (va_agg' (v1_cons (v1_same k) (v1_cons (v1_same k) (v1_cons (v1_same k) v1_nil)))) va_nil)) (v' := .agg [.int v14.n, .own 10 0 v14.src.length, .own 11 0 v14.tgt.length]) (ed' := [(10, some ⟨1, List.map (ow eI) v14.src⟩), (11, some ⟨1, List.map (ow eI) v14.tgt⟩)]) (by simp only [len_map]) (ed_ok (nb' := [(10, ⟨1, List.map (ow eI) v14.src⟩), (11, ⟨1, List.map (ow eI) v14.tgt⟩)]) (by simp only [abs_map]))) k ?_
     obtain ⟨v15, hv15, h⟩ := ob h
     refine ae (w_call0s (c_laws_eqQuiver v9 v14 v15 hv15) k (va_cons (va_agg' (v1_cons (v1_same k) (v1_cons (v1_T okI k k) (v1_cons (v1_T okI k k) v1_nil)))) (va_cons (va_agg' (v1_cons (v1_same k) (v1_cons (v1_T okI k k) (v1_cons (v1_T okI k k) v1_nil)))) va_nil))) k <| ae (w_not k) k <| an ?_
     refine ⟨by kernel_rfl, ?_⟩
     refine tn ?_
     rcases cb h with ⟨q16, h⟩ | ⟨q16, h⟩
     ·refine ac_condT k q16 <| sQ <| rg <| ae (eff_assign k) k <| an <| tn <| ac_ret <| then_ret ?_
      obtain rfl := so h
      exact ret_mk k k k (fz_bl k)
     ·refine ac_condF k q16 <| ac_skip <| tn <| sQ <| sQ <| rg <| ae (eff_move k) k <| ae (eff_move k) k ?_
      obtain ⟨v17, hv17, h⟩ := ob h
      refine ae (AEff.conv (w_call0 (x := .own 12 0 (List.map eI v17).length) (nb := [(12, ⟨1, absEs (List.map eI v17)⟩)]) (c_laws_toIntS a1 v17 hv17) k (by rfl) k k (okI.good _) (va_cons (va_same k) va_nil)) (v' := .own 12 0 v17.length) (ed' := [(12, some ⟨1, List.map (ow eI) v17⟩)]) (by simp only [len_map]) (ed_ok (nb' := [(12, ⟨1, List.map (ow eI) v17⟩)]) (by simp only [abs_map]))) k ?_
      obtain ⟨v18, hv18, h⟩ := ob h
      refine ae (w_call0s (c_laws_eqIntS v10 v17 v18 hv18) k (va_cons (va_T okI k k) (va_cons (va_T okI k k) va_nil))) k <| ae (w_not k) k <| an <| tn ?_
      rcases cb h with ⟨q19, h⟩ | ⟨q19, h⟩
      ·refine ac_condT k q19 <| sQ <| rg <| ae (eff_assign k) k <| an <| tn <| ac_ret <| then_ret ?_
       obtain rfl := so h
       exact ret_mk k k k (fz_bl k)
      ·refine ac_condF k q19 <| ac_skip <| tn <| sQ <| sQ <| rg <| ae (eff_move k) k <| ae (eff_move k) k ?_
       obtain ⟨v20, hv20, h⟩ := ob h
       refine ae (AEff.conv (w_call0 (x := .own 13 0 (List.map eI v20).length) (nb := [(13, ⟨1, absEs (List.map eI v20)⟩)]) (c_laws_toIntS a2 v20 hv20) k (by rfl) k k (okI.good _) (va_cons (va_same k) va_nil)) (v' := .own 13 0 v20.length) (ed' := [(13, some ⟨1, List.map (ow eI) v20⟩)]) (by simp only [len_map]) (ed_ok (nb' := [(13, ⟨1, List.map (ow eI) v20⟩)]) (by simp only [abs_map]))) k ?_
       obtain ⟨v21, hv21, h⟩ := ob h
       refine ae (w_call0s (c_laws_eqIntS v11 v20 v21 hv21) k (va_cons (va_T okI k k) (va_cons (va_T okI k k) va_nil))) k <| ae (w_not k) k <| an <| tn <| ac_ent (t := mkS [(58, .bl (!v21))] [] 14 [14, 15]) (ent_mk (σ := sg []) ⟨(e1 k k), trivial⟩ trivial k) ?_
       rcases cb h with ⟨q22, h⟩ | ⟨q22, h⟩
       ·refine ac_condT k q22 <| sQ <| rg <| ae (eff_assign k) k <| an <| tn <| ac_ret <| then_ret ?_
        obtain rfl := so h
        exact ret_mk k k k (fz_bl k)
       ·refine ac_condF k q22 <| ac_skip <| tn <| sQ <| rg <| ae (eff_assign k) k <| an <| tn <| ac_ret ?_
        obtain rfl := so h
        exact ret_mk k k k (fz_bl k)

end Go.Proofs.Ytahbimogkgfmdaa
end

section
set_option linter.unusedVariables false
set_option linter.unusedSimpArgs false
/-
  Roots of a quiver and their forms: the laws RootExt, RootHom, AreCompatible, IsTilting.
-/
namespace Go.Proofs.Ytahbimogkgfmdaa
open Go.RowKit
set_option linter.unusedVariables false

theorem n_pos {q : Qv} (hb : bQ q) : ∃ L b, m_impl_PositiveRoots q = some (L, b) ∧ m_spec_PositiveRoots q = some (L, b) ∧ ((b = false ∧ L = []) ∨ (b = true ∧ ∃ n, Fin1 q n ∧ L = rootsL q n)) := by
  by_cases hv : quivV q = true
  · obtain ⟨n, Q⟩ := qok hb hv
    by_cases hk : kindR n (matQ q n) (2 ^ n - 1) 1 1 = 1
    · obtain ⟨F, G⟩ := fin_form Q fun t h1 h2 => kindR_one hk t h1 (by omega)
      have H : Fin1 q n := ⟨Q, F, G⟩
      refine ⟨rootsL q n, true, ?_, ?_, .inr ⟨rfl, n, H, rfl⟩⟩
      · unfold m_impl_PositiveRoots
        rw [n_implKind Q, Option.bind_some, hk, decide_eq_true rfl, Bool.not_true, cond_false, n_implRoots H, Option.bind_some]
        rfl
      · unfold m_spec_PositiveRoots
        rw [n_specKind Q, Option.bind_some, hk, decide_eq_true rfl, Bool.not_true, cond_false, n_specSym Q, Option.bind_some]
        exact n_specRoots H
    · refine ⟨[], false, ?_, ?_, .inl ⟨rfl, rfl⟩⟩
      · unfold m_impl_PositiveRoots
        rw [n_implKind Q, Option.bind_some, decide_eq_false hk, Bool.not_false, cond_true]
      · unfold m_spec_PositiveRoots
        rw [n_specKind Q, Option.bind_some, decide_eq_false hk, Bool.not_false, cond_true]
  · have hv' : quivV q = false := by simpa using hv
    refine ⟨[], false, ?_, ?_, .inl ⟨rfl, rfl⟩⟩
    · unfold m_impl_PositiveRoots m_impl_KindOfQuiver
      rw [n_implQ hb, hv', Option.bind_some]
      rfl
    · unfold m_spec_PositiveRoots m_spec_KindOfQuiver
      rw [n_specQ hb, hv', Option.bind_some]
      rfl
theorem n_IndexFuncL {v : List (List Int)} {f : List Int → Option Bool} (P : List Int → Bool) (hf : ∀ x ∈ v, f x = some (P x)) (h : v.length ≤ 1048576) : ∃ i : Int, m_slices_IndexFunc_LLint_Lint v f = some i ∧ decide (0 ≤ i) = v.any P := by
  unfold m_slices_IndexFunc_LLint_Lint
  rw [Lp_search (s0 := 0) (s := 0) (n := v.length) (fun k => bif P (v[k]?.getD []) then some (k : Int) else none) rfl (by omega) (Nat.zero_le _) (fun k _ hk => ?_) (fun _ => ?_)]
  · rw [Option.bind_some]
    cases e : (List.range' 0 (v.length - 0)).findSome? (fun k : Nat => bif P (v[k]?.getD []) then some (k : Int) else none) with
    | none =>
      refine ⟨-1, rfl, ?_⟩
      rw [List.findSome?_eq_none_iff] at e
      have : v.any P = false := by
        rw [List.any_eq_false]
        intro x hx
        obtain ⟨k, hk, rfl⟩ := List.mem_iff_getElem.1 hx
        have := e k (by simp; omega)
        simp only [List.getElem?_eq_getElem hk, Option.getD_some] at this
        cases hp : P v[k] with
        | false => simp
        | true => rw [hp] at this; cases this
      rw [this]; rfl
    | some i =>
      refine ⟨i, rfl, ?_⟩
      obtain ⟨k, hk, he⟩ := List.exists_of_findSome?_eq_some e
      simp at hk
      have hkl : k < v.length := by omega
      rw [List.getElem?_eq_getElem hkl] at he
      simp only [Option.getD_some] at he
      cases hp : P v[k] with
      | false => rw [hp] at he; cases he
      | true =>
        rw [hp] at he
        cases he
        rw [decide_eq_true (by omega), eq_comm, List.any_eq_true]
        exact ⟨_, List.getElem_mem hkl, hp⟩
  · unfold m_slices_IndexFunc_LLint_Lint_L1
    rw [dlt hk, cond_true, atG [] hk, Option.bind_some, hf _ (by rw [List.getElem?_eq_getElem hk]; exact List.getElem_mem hk), Option.bind_some]
    cases P _ <;> rfl
  · unfold m_slices_IndexFunc_LLint_Lint_L1
    rw [dnl (Nat.le_refl _), cond_false]
theorem n_isRoot {q : Qv} (hb : bQ q) (x : List Int) : ∃ b, m_impl_IsRoot q x = some b ∧ m_spec_IsRoot q x = some b ∧ (b = true → ∃ n, Fin1 q n ∧ RtQ q n x) := by
  obtain ⟨L, b, h1, h2, h3⟩ := n_pos hb
  have hL : (∀ r ∈ L, bI r) ∧ L.length ≤ 1000 := by
    rcases h3 with ⟨_, rfl⟩ | ⟨_, n, H, rfl⟩
    · exact ⟨fun r hr => (by cases hr), by simp⟩
    · refine ⟨fun r hr => ?_, by have := rootsL_len H; omega⟩
      have := (H.vec ((mem_rootsL H r).1 hr)).1.1
      unfold bI; omega
  obtain ⟨i, g1, g2⟩ := n_IndexFuncL (f := fun b0 => m_impl_rootIndex_1 b0 x) (fun r => decide (r = x)) (fun r hr => by simp only [m_impl_rootIndex_1]; rw [n_SlEqual (hL.1 r hr), Option.bind_some]) (by omega : L.length ≤ 1048576)
  have hany : (L.any fun r => decide (r = x)) = decide (x ∈ L) := by
    rw [Bool.eq_iff_iff, List.any_eq_true, decide_eq_true_eq]
    exact ⟨fun ⟨r, hr, h⟩ => by rw [decide_eq_true_eq] at h; exact h ▸ hr, fun h => ⟨x, h, by simp⟩⟩
  refine ⟨decide (x ∈ L), ?_, ?_, fun h => ?_⟩
  · unfold m_impl_IsRoot m_impl_rootIndex
    rw [h1, Option.bind_some]
    simp only
    rw [g1, Option.bind_some, Option.bind_some, g2, hany]
  · unfold m_spec_IsRoot
    rw [h2, Option.bind_some]
    simp only
    rcases h3 with ⟨rfl, rfl⟩ | ⟨rfl, _⟩
    · simp
    · rw [cond_true, n_l20Has hL.1 hL.2, Option.bind_some]
  · rw [decide_eq_true_eq] at h
    rcases h3 with ⟨_, rfl⟩ | ⟨_, n, H, rfl⟩
    · cases h
    · exact ⟨n, H, (mem_rootsL H x).1 h⟩
theorem n_rootEul {q : Qv} {x y : List Int} {n m : Nat} (H : Fin1 q n) (hx : RtQ q n x) (H' : Fin1 q m) (hy : RtQ q m y) : ∃ e, m_impl_euler q x y = some e ∧ m_spec_EulerForm q x y = some e := by
  have hnm : n = m := by have h1 := H.Q.n0; have h2 := H'.Q.n0; omega
  subst hnm
  obtain ⟨h1, h2⟩ := H.vec hx
  obtain ⟨h3, h4⟩ := H.vec hy
  exact ⟨_, n_implEul H.Q h2 h4 h1.sm h3.sm, n_specEul H.Q h2 h4 h1.sm h3.sm⟩
theorem n_rootExt {q : Qv} (hb : bQ q) (x y : List Int) : ∃ z, m_impl_RootExt q x y = some z ∧ m_spec_RootExt q x y = some z := by
  obtain ⟨b1, h1, h2, h3⟩ := n_isRoot hb x
  obtain ⟨b2, k1, k2, k3⟩ := n_isRoot hb y
  unfold m_impl_RootExt m_spec_RootExt
  rw [h1, h2, k1, k2]
  cases b1 with
  | false => exact ⟨-1, rfl, rfl⟩
  | true =>
    cases b2 with
    | false => exact ⟨-1, rfl, rfl⟩
    | true =>
      obtain ⟨n, H, hx⟩ := h3 rfl
      obtain ⟨m, H', hy⟩ := k3 rfl
      obtain ⟨e, e1, e2⟩ := n_rootEul H hx H' hy
      refine ⟨max (wr (-e)) 0, ?_, ?_⟩
      · simp only [Option.bind_some, Bool.not_true, cond_false]
        rw [e1, Option.bind_some]
      · simp only [Option.bind_some, Bool.not_true, cond_false]
        rw [e2, Option.bind_some, Int.max_comm]
theorem n_compat {q : Qv} (hb : bQ q) (x y : List Int) : ∃ z, m_impl_AreCompatible q x y = some z ∧ m_spec_AreCompatible q x y = some z := by
  obtain ⟨a, h1, h2⟩ := n_rootExt hb x y
  obtain ⟨b, k1, k2⟩ := n_rootExt hb y x
  unfold m_impl_AreCompatible m_spec_AreCompatible
  rw [h1, h2, k1, k2]
  by_cases c : a = 0
  · exact ⟨decide (b = 0), by simp [c], by simp [c]⟩
  · exact ⟨false, by simp [c], by simp [c]⟩

/-! ## the laws -/
theorem plain_AreCompatible {q : Qv} {x y : List Int} (fq : fQ q) (fx : fI x) (fy : fI y) : m_laws_FnExactAreCompatible q x y = some true := by
  unfold m_laws_FnExactAreCompatible
  by_cases c1 : x.length ≤ 1048576
  · rw [decide_eq_false (by omega), cond_false]
    by_cases c2 : y.length ≤ 1048576
    · rw [decide_eq_false (by omega), cond_false, mz_Q fq (by decide) (by decide), Option.bind_some]
      rcases falls_Q q 1048576 (by decide) (by decide) with e | ⟨e1, e2, hb⟩
      · rw [e]; rfl
      · rw [decide_eq_false (by omega), cond_false]
        have hx : bI x := c1
        have hy : bI y := c2
        obtain ⟨z, h1, h2⟩ := n_compat hb x y
        simp only [mt_Q hb, mt_I hx, mt_I hy, Option.bind_some, h1, h2, me_Q hb, me_I hx, me_I hy, decide_true, beq_self_eq_true, Bool.not_true, cond_false]
    · rw [decide_eq_true (by omega), cond_true]
  · rw [decide_eq_true (by omega), cond_true]
end Go.Proofs.Ytahbimogkgfmdaa
end

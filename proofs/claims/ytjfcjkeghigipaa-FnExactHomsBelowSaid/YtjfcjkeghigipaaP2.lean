/-
  The laws' sizes, copies and comparisons: what their models answer.
-/
import Derived.Test.YtjfcjkeghigipaaP1
import Derived.Test.YtjfcjkeghigipaaZ3
namespace Go.Proofs.Ytjfcjkeghigipaa
open Go.RowKit
set_option linter.unusedVariables false

/-! ## sizes -/
def zI (n : Nat) (left : Int) : Int := if left - n < 0 then -1 else left - n
def zC : List (Int → Int) → Int → Int
  | [], left => left
  | f :: fs, left => if f left < 0 then -1 else zC fs (f left)
def zS {α : Type} (f : α → Int → Int) (l : List α) (left : Int) : Int := if left - l.length < 0 then -1 else zC (l.map f) (left - l.length)
def zQ (q : Qv) : Int → Int := zC [zI q.src.length, zI q.tgt.length]
def zM (m : Mt) : Int → Int := zC [zI m.cells.length]
def zR (r : Rp) : Int → Int := zC [zQ r.q, zI r.dims.length, zS zM r.maps]
def zRow (l : List Int) : Int → Int := zI l.length
def zSc (s : Sc) : Int → Int := zC [zS zRow s.basis]
def zB (l : List Br) : Int → Int := zI l.length
def zCl (c : Cl) : Int → Int := zC [zR c.rep, zR c.other, zS zR c.parts, zS zM c.maps, zB c.bars, zI c.theta.length, zS zSc c.subs]

/-- What a size does: it falls, and holds a bound. -/
def Falls (f : Int → Int) (b : Prop) : Prop := ∀ left, 0 ≤ left → left ≤ 1048576 → f left = -1 ∨ (0 ≤ f left ∧ f left ≤ left ∧ b)
theorem falls_I (n : Nat) : Falls (zI n) (n ≤ 1048576) := by
  intro left h0 h1
  unfold zI
  by_cases h : left - n < 0
  · rw [if_pos h]; exact .inl rfl
  · rw [if_neg h]; exact .inr ⟨by omega, by omega, by omega⟩
theorem falls_nil : Falls (zC []) True := fun left h0 _ => .inr ⟨h0, Int.le_refl _, trivial⟩
theorem falls_cons {f : Int → Int} {fs : List (Int → Int)} {b bs : Prop} (h : Falls f b) (k : Falls (zC fs) bs) : Falls (zC (f :: fs)) (b ∧ bs) := by
  intro left h0 h1
  unfold zC
  rcases h left h0 h1 with e | ⟨e1, e2, e3⟩
  · rw [e, if_pos (by decide)]; exact .inl rfl
  · rw [if_neg (by omega)]
    rcases k (f left) e1 (by omega) with g | ⟨g1, g2, g3⟩
    · exact .inl g
    · exact .inr ⟨g1, by omega, e3, g3⟩
theorem falls_map {α : Type} {f : α → Int → Int} {b : α → Prop} (h : ∀ x, Falls (f x) (b x)) : ∀ l : List α, Falls (zC (l.map f)) (∀ x ∈ l, b x)
  | [] => fun left h0 _ => .inr ⟨h0, Int.le_refl _, by simp⟩
  | x :: l => fun left h0 h1 => by
    rcases falls_cons (h x) (falls_map h l) left h0 h1 with e | ⟨e1, e2, e3, e4⟩
    · exact .inl e
    · exact .inr ⟨e1, e2, fun y hy => by rcases List.mem_cons.1 hy with rfl | h'; exact e3; exact e4 y h'⟩
theorem falls_S {α : Type} {f : α → Int → Int} {b : α → Prop} (h : ∀ x, Falls (f x) (b x)) (l : List α) : Falls (zS f l) (l.length ≤ 1048576 ∧ ∀ x ∈ l, b x) := by
  intro left h0 h1
  unfold zS
  by_cases e : left - l.length < 0
  · rw [if_pos e]; exact .inl rfl
  · rw [if_neg e]
    rcases falls_map h l (left - l.length) (by omega) (by omega) with g | ⟨g1, g2, g3⟩
    · exact .inl g
    · exact .inr ⟨g1, by omega, by omega, g3⟩
def bI (l : List Int) : Prop := l.length ≤ 1048576
def bQ (q : Qv) : Prop := bI q.src ∧ bI q.tgt ∧ True
def bM (m : Mt) : Prop := bI m.cells ∧ True
def bR (r : Rp) : Prop := bQ r.q ∧ bI r.dims ∧ (r.maps.length ≤ 1048576 ∧ ∀ m ∈ r.maps, bM m) ∧ True
def bS (s : Sc) : Prop := (s.basis.length ≤ 1048576 ∧ ∀ v ∈ s.basis, bI v) ∧ True
def bC (c : Cl) : Prop := bR c.rep ∧ bR c.other ∧ (c.parts.length ≤ 1048576 ∧ ∀ r ∈ c.parts, bR r) ∧ (c.maps.length ≤ 1048576 ∧ ∀ m ∈ c.maps, bM m) ∧ c.bars.length ≤ 1048576 ∧ bI c.theta ∧ (c.subs.length ≤ 1048576 ∧ ∀ s ∈ c.subs, bS s) ∧ True
theorem falls_Q (q : Qv) : Falls (zQ q) (bQ q) := falls_cons (falls_I _) (falls_cons (falls_I _) falls_nil)
theorem falls_M (m : Mt) : Falls (zM m) (bM m) := falls_cons (falls_I _) falls_nil
theorem falls_R (r : Rp) : Falls (zR r) (bR r) := falls_cons (falls_Q _) (falls_cons (falls_I _) (falls_cons (falls_S falls_M _) falls_nil))
theorem falls_Row (l : List Int) : Falls (zRow l) (bI l) := falls_I _
theorem falls_Sc (s : Sc) : Falls (zSc s) (bS s) := falls_cons (falls_S falls_Row _) falls_nil
theorem falls_B (l : List Br) : Falls (zB l) (l.length ≤ 1048576) := falls_I _
theorem falls_Cl (c : Cl) : Falls (zCl c) (bC c) := falls_cons (falls_R _) (falls_cons (falls_R _) (falls_cons (falls_S falls_R _) (falls_cons (falls_S falls_M _) (falls_cons (falls_B _) (falls_cons (falls_I _) (falls_cons (falls_S falls_Sc _) falls_nil))))))


def fI {α : Type} (l : List α) : Prop := l.length ≤ 9223372036854775807
theorem zs_cons {o : Option Int} {z : Int → Int} {zs : List (Int → Int)} {b : Prop} {left : Int} {k : Int → Option Int} (ho : o = some (z left)) (hf : Falls z b) (h0 : 0 ≤ left) (h1 : left ≤ 1048576) (hk : ∀ v, 0 ≤ v → v ≤ 1048576 → k v = some (zC zs v)) :
    Option.bind o (fun v => bif decide (v < 0) then some (-1) else k v) = some (zC (z :: zs) left) := by
  rw [ho, Option.bind_some]
  unfold zC
  rcases hf left h0 h1 with e | ⟨e1, e2, _⟩
  · rw [e]; rfl
  · rw [if_neg (by omega), decide_eq_false (by omega : ¬ z left < 0), cond_false]; exact hk _ e1 (by omega)
theorem zs_loop {α : Type} {body : Int × Int → Option ((Int × Int) ⊕ (Int ⊕ Int))} {f : α → Int → Int} {b : α → Prop} {l : List α} (hf : ∀ x, Falls (f x) (b x)) (hl : l.length ≤ 1048576)
    (hs : ∀ (v : Int) (k : Nat) (hk : k < l.length), 0 ≤ v → v ≤ 1048576 → body (v, k) = some (bif decide (f l[k] v < 0) then .inr (.inr (-1)) else .inl (f l[k] v, wr (k + 1)))) (he : ∀ v, body (v, l.length) = some (.inr (.inl v))) (v : Int) (h0 : 0 ≤ v) (h1 : v ≤ 1048576) :
    Option.bind (Lp body (v, 0)) (fun y => Sum.elim (fun y => some y) (fun y => some y) y) = some (zC (l.map f) v) := by
  have key : ∀ d k : Nat, k + d = l.length → ∀ v : Int, 0 ≤ v → v ≤ 1048576 → Option.bind (Lp body (v, (k : Int))) (fun y => Sum.elim (fun y => some y) (fun y => some y) y) = some (zC ((l.drop k).map f) v) := by
    intro d
    induction d with
    | zero =>
      intro k hk v _ _
      rw [Nat.add_zero] at hk; subst hk
      rw [Lp_stop (he v)]
      simp [zC]
    | succ d ih =>
      intro k hk v h0 h1
      have h := hs v k (by omega) h0 h1
      rw [List.drop_eq_getElem_cons (by omega : k < l.length), List.map_cons]
      unfold zC
      rcases hf l[k] v h0 h1 with e | ⟨e1, e2, _⟩
      · rw [e] at h ⊢
        rw [Lp_stop (r := .inr (-1)) (by rw [h]; rfl)]; rfl
      · rw [if_neg (by omega)]
        rw [decide_eq_false (by omega : ¬ f l[k] v < 0), cond_false, wr_suc (n := l.length) (by omega) (by omega)] at h
        rw [Lp_step h]
        exact ih (k + 1) (by omega) _ e1 (by omega)
  have := key l.length 0 (by omega) v h0 h1
  simpa using this
theorem mz_I {l : List Int} {left : Int} (hl : fI l) (h0 : 0 ≤ left) (h1 : left ≤ 1048576) : m_laws_szIntS l left = some (zI l.length left) := by
  unfold fI at hl
  unfold m_laws_szIntS zI
  rw [wr_eq (by omega)]
  by_cases h : left - l.length < 0
  · rw [decide_eq_true h, if_pos h]; rfl
  · rw [decide_eq_false h, if_neg h]; rfl
def fQ (q : Qv) : Prop := fI q.src ∧ fI q.tgt
theorem mz_Q {q : Qv} {left : Int} (hl : fQ q) (h0 : 0 ≤ left) (h1 : left ≤ 1048576) : m_laws_szQuiver q left = some (zQ q left) :=
  zs_cons (mz_I hl.1 h0 h1) (falls_I _) h0 h1 fun v g0 g1 => zs_cons (mz_I hl.2 g0 g1) (falls_I _) g0 g1 fun v _ _ => rfl
def fM (m : Mt) : Prop := fI m.cells
theorem mz_M {m : Mt} {left : Int} (hl : fM m) (h0 : 0 ≤ left) (h1 : left ≤ 1048576) : m_laws_szMatrix m left = some (zM m left) :=
  zs_cons (mz_I hl h0 h1) (falls_I _) h0 h1 fun v _ _ => rfl
def fMs (l : List Mt) : Prop := fI l ∧ ∀ m ∈ l, fM m
theorem mz_Ms {l : List Mt} {left : Int} (hl : fMs l) (h0 : 0 ≤ left) (h1 : left ≤ 1048576) : m_laws_szMatrixS l left = some (zS zM l left) := by
  obtain ⟨ha, hb⟩ := hl
  unfold fI at ha
  unfold m_laws_szMatrixS zS
  rw [wr_eq (by omega)]
  by_cases h : left - l.length < 0
  · rw [decide_eq_true h, if_pos h]; rfl
  · rw [decide_eq_false h, if_neg h, cond_false]
    refine zs_loop (f := zM) falls_M (by omega) (fun v k hk g0 g1 => ?_) (fun v => ?_) _ (by omega) (by omega)
    · unfold m_laws_szMatrixS_L1
      simp only
      rw [dlt hk, cond_true, atL_nat hk, Option.bind_some, mz_M (hb _ (List.getElem_mem hk)) g0 g1, Option.bind_some]
      cases decide (zM l[k] v < 0) <;> rfl
    · unfold m_laws_szMatrixS_L1
      simp only
      rw [dnl (Nat.le_refl _), cond_false]
def fR (r : Rp) : Prop := fQ r.q ∧ fI r.dims ∧ fMs r.maps
theorem mz_R {r : Rp} {left : Int} (hl : fR r) (h0 : 0 ≤ left) (h1 : left ≤ 1048576) : m_laws_szRep r left = some (zR r left) :=
  zs_cons (mz_Q hl.1 h0 h1) (falls_Q _) h0 h1 fun v g0 g1 => zs_cons (mz_I hl.2.1 g0 g1) (falls_I _) g0 g1 fun v g2 g3 => zs_cons (mz_Ms hl.2.2 g2 g3) (falls_S falls_M _) g2 g3 fun v _ _ => rfl
def fRs (l : List Rp) : Prop := fI l ∧ ∀ r ∈ l, fR r
theorem mz_Rs {l : List Rp} {left : Int} (hl : fRs l) (h0 : 0 ≤ left) (h1 : left ≤ 1048576) : m_laws_szRepS l left = some (zS zR l left) := by
  obtain ⟨ha, hb⟩ := hl
  unfold fI at ha
  unfold m_laws_szRepS zS
  rw [wr_eq (by omega)]
  by_cases h : left - l.length < 0
  · rw [decide_eq_true h, if_pos h]; rfl
  · rw [decide_eq_false h, if_neg h, cond_false]
    refine zs_loop (f := zR) falls_R (by omega) (fun v k hk g0 g1 => ?_) (fun v => ?_) _ (by omega) (by omega)
    · unfold m_laws_szRepS_L1
      simp only
      rw [dlt hk, cond_true, atL_nat hk, Option.bind_some, mz_R (hb _ (List.getElem_mem hk)) g0 g1, Option.bind_some]
      cases decide (zR l[k] v < 0) <;> rfl
    · unfold m_laws_szRepS_L1
      simp only
      rw [dnl (Nat.le_refl _), cond_false]

/-! ## copies -/
theorem copy_loop {α : Type} {body : List α × Int → Option ((List α × Int) ⊕ List α)} {l : List α} (z : α) (hl : l.length ≤ 4611686018427387904)
    (hs : ∀ (k : Nat) (hk : k < l.length) (r : List α), r.length = l.length → body (r, k) = some (.inl (r.set k l[k], wr (k + 1)))) (he : ∀ r, body (r, l.length) = some (.inr r)) : Lp body (List.replicate ((l.length : Int).toNat) z, 0) = some l := by
  refine Lp_inv (fun k => (l.take k ++ List.replicate (l.length - k) z, (k : Int))) l.length (by simp) (fun k hk => ?_) ?_
  · rw [hs k hk _ (by simp; omega), wr_suc hk hl]
    congr 3
    rw [show l.length - k = (l.length - (k + 1)) + 1 by omega, List.replicate_succ, List.set_append_right _ _ (by simp; omega)]
    rw [List.take_succ_eq_append_getElem hk, List.length_take, Nat.min_eq_left (Nat.le_of_lt hk), Nat.sub_self, List.set_cons_zero, List.append_assoc]; rfl
  · rw [he]; simp
theorem mt_I {l : List Int} (h : bI l) : m_laws_toIntS l = some l := by
  unfold bI at h
  unfold m_laws_toIntS
  rw [decide_eq_true (by omega), decide_eq_true (by omega : (l.length : Int) ≤ 1048576), Bool.and_self, cond_true]
  rw [copy_loop 0 (by omega) (fun k hk r hr => ?_) (fun r => ?_)]; rfl
  · unfold m_laws_toIntS_L1
    simp only
    rw [dlt hk, cond_true, atL_nat hk, Option.bind_some, atL_nat (hr ▸ hk), Option.bind_some, Int.toNat_natCast]
  · unfold m_laws_toIntS_L1
    simp only
    rw [dnl (Nat.le_refl _), cond_false]
theorem mt_Q {q : Qv} (h : bQ q) : m_laws_toQuiver q = some q := by
  unfold m_laws_toQuiver
  rw [mt_I h.1, Option.bind_some, mt_I h.2.1, Option.bind_some]
theorem mt_M {m : Mt} (h : bM m) : m_laws_toMatrix m = some m := by
  unfold m_laws_toMatrix
  rw [mt_I h.1, Option.bind_some]
theorem mt_Ms {l : List Mt} (h : l.length ≤ 1048576 ∧ ∀ m ∈ l, bM m) : m_laws_toMatrixS l = some l := by
  obtain ⟨h, hb⟩ := h
  unfold m_laws_toMatrixS
  rw [decide_eq_true (by omega), decide_eq_true (by omega : (l.length : Int) ≤ 1048576), Bool.and_self, cond_true]
  rw [copy_loop _ (by omega) (fun k hk r hr => ?_) (fun r => ?_)]; rfl
  · unfold m_laws_toMatrixS_L1
    simp only
    rw [dlt hk, cond_true, atL_nat hk, Option.bind_some, mt_M (hb _ (List.getElem_mem hk)), Option.bind_some, atL_nat (hr ▸ hk), Option.bind_some, Int.toNat_natCast]
  · unfold m_laws_toMatrixS_L1
    simp only
    rw [dnl (Nat.le_refl _), cond_false]
theorem mt_R {r : Rp} (h : bR r) : m_laws_toRep r = some r := by
  unfold m_laws_toRep
  rw [mt_Q h.1, Option.bind_some, mt_I h.2.1, Option.bind_some, mt_Ms h.2.2.1, Option.bind_some]
theorem mt_Rs {l : List Rp} (h : l.length ≤ 1048576 ∧ ∀ m ∈ l, bR m) : m_laws_toRepS l = some l := by
  obtain ⟨h, hb⟩ := h
  unfold m_laws_toRepS
  rw [decide_eq_true (by omega), decide_eq_true (by omega : (l.length : Int) ≤ 1048576), Bool.and_self, cond_true]
  rw [copy_loop _ (by omega) (fun k hk r hr => ?_) (fun r => ?_)]; rfl
  · unfold m_laws_toRepS_L1
    simp only
    rw [dlt hk, cond_true, atL_nat hk, Option.bind_some, mt_R (hb _ (List.getElem_mem hk)), Option.bind_some, atL_nat (hr ▸ hk), Option.bind_some, Int.toNat_natCast]
  · unfold m_laws_toRepS_L1
    simp only
    rw [dnl (Nat.le_refl _), cond_false]

/-! ## comparisons -/
theorem eq_lists {α : Type} [DecidableEq α] {body : Int → Option (Int ⊕ (Unit ⊕ Bool))} {a b : List α} (hl : a.length ≤ 4611686018427387904) (hab : a.length = b.length)
    (hs : ∀ (k : Nat) (h1 : k < a.length) (h2 : k < b.length), body k = some (bif decide (a[k] = b[k]) then .inl (wr (k + 1)) else .inr (.inr false))) (he : body a.length = some (.inr (.inl ()))) :
    Option.bind (Lp body 0) (fun y => Sum.elim (fun _ => some true) (fun y => some y) y) = some (decide (a = b)) := by
  have key : ∀ (P : Nat → Bool), (∀ (k : Nat) (h1 : k < a.length) (h2 : k < b.length), P k = decide (a[k] = b[k])) → Lp body 0 = some (bif (List.range a.length).all P then .inl () else .inr false) → Option.bind (Lp body 0) (fun y => Sum.elim (fun _ => some true) (fun y => some y) y) = some (decide (a = b)) := by
    intro P hP e
    rw [e, Option.bind_some]
    have : (List.range a.length).all P = decide (a = b) := by
      rw [Bool.eq_iff_iff, range_all, decide_eq_true_eq]
      constructor
      · intro h
        refine List.ext_getElem hab fun k h1 h2 => ?_
        have := h k h1
        rw [hP k h1 h2] at this
        exact of_decide_eq_true this
      · rintro rfl k hk; rw [hP k hk hk]; simp
    rw [this]
    cases decide (a = b) <;> rfl
  refine key (fun k => if h : k < a.length then if h2 : k < b.length then decide (a[k] = b[k]) else false else false) (fun k h1 h2 => by rw [dif_pos h1, dif_pos h2]) (Lp_all _ _ hl (fun k hk => ?_) (fun _ => he))
  rw [dif_pos hk, dif_pos (hab ▸ hk)]
  exact hs k hk (hab ▸ hk)
theorem len_test {α β : Type} {a : List α} {b : List β} : decide ((a.length : Int) = (b.length : Int)) = decide (a.length = b.length) := by
  rw [Bool.eq_iff_iff, decide_eq_true_eq, decide_eq_true_eq]; omega
/-- A comparison of lists of numbers, as all of them are written. -/
theorem eq_ints {body : Int → Option (Int ⊕ (Unit ⊕ Bool))} {a b : List Int} (hl : a.length ≤ 4611686018427387904)
    (hb : body = fun x => bif decide (x < (a.length : Int)) then (Option.bind (atL a x) fun v3 => Option.bind (atL b x) fun v4 => bif !decide (v3 = v4) then (some (.inr (.inr (false)))) else (some (.inl (wr (x + 1))))) else (some (.inr (.inl ())))) :
    (bif !decide ((a.length : Int) = (b.length : Int)) then some false else Option.bind (Lp body 0) (fun y => Sum.elim (fun _ => some true) (fun y => some y) y)) = some (decide (a = b)) := by
  rw [len_test]
  by_cases h : a.length = b.length
  · rw [decide_eq_true h, Bool.not_true, cond_false]
    refine eq_lists hl h (fun k h1 h2 => ?_) ?_
    · rw [hb]
      simp only
      rw [dlt h1, cond_true, atL_nat h1, Option.bind_some, atL_nat h2, Option.bind_some]
      cases decide (a[k] = b[k]) <;> rfl
    · rw [hb]
      simp only
      rw [dnl (Nat.le_refl _), cond_false]
  · rw [decide_eq_false h, Bool.not_false, cond_true, decide_eq_false (by rintro rfl; exact h rfl)]
theorem and_bif {c d : Bool} : (bif !c then some false else bif !d then some false else some true) = some (c && d) := by cases c <;> cases d <;> rfl
theorem bif_tail {c d : Bool} {o : Option Bool} (h : c = true → o = some d) : (bif !c then some false else o) = some (c && d) := by cases c with | false => rfl | true => exact h rfl
theorem me_I {a b : List Int} (h : bI a) : m_laws_eqIntS a b = some (decide (a = b)) := by
  unfold bI at h
  exact eq_ints (body := m_laws_eqIntS_L1 a b) (by omega) rfl
theorem bif_one {d : Bool} : (bif !d then some false else some true) = some d := by cases d <;> rfl
theorem me_Q {a b : Qv} (h : bQ a) : m_laws_eqQuiver a b = some (decide (a = b)) := by
  unfold m_laws_eqQuiver
  rw [bif_tail (d := decide (a.src = b.src) && decide (a.tgt = b.tgt)) (fun _ => ?_)]
  · cases a; cases b; simp [Bool.and_assoc]
  · rw [me_I h.1, Option.bind_some]
    refine bif_tail fun _ => ?_
    rw [me_I h.2.1, Option.bind_some, bif_one]
theorem me_M {a b : Mt} (h : bM a) : m_laws_eqMatrix a b = some (decide (a = b)) := by
  unfold m_laws_eqMatrix
  rw [bif_tail (d := decide (a.cols = b.cols) && decide (a.cells = b.cells)) (fun _ => ?_)]
  · cases a; cases b; simp [Bool.and_assoc]
  · refine bif_tail fun _ => ?_
    rw [me_I h.1, Option.bind_some, bif_one]
theorem me_Ms {a b : List Mt} (h : a.length ≤ 1048576 ∧ ∀ m ∈ a, bM m) : m_laws_eqMatrixS a b = some (decide (a = b)) := by
  obtain ⟨h, hb⟩ := h
  unfold m_laws_eqMatrixS
  rw [len_test]
  by_cases e : a.length = b.length
  · rw [decide_eq_true e, Bool.not_true, cond_false]
    refine eq_lists (by omega) e (fun k h1 h2 => ?_) ?_
    · unfold m_laws_eqMatrixS_L1
      rw [dlt h1, cond_true, atL_nat h1, Option.bind_some, atL_nat h2, Option.bind_some, me_M (hb _ (List.getElem_mem h1)), Option.bind_some]
      cases decide (a[k] = b[k]) <;> rfl
    · unfold m_laws_eqMatrixS_L1
      rw [dnl (Nat.le_refl _), cond_false]
  · rw [decide_eq_false e, Bool.not_false, cond_true, decide_eq_false (by rintro rfl; exact e rfl)]
theorem me_R {a b : Rp} (h : bR a) : m_laws_eqRep a b = some (decide (a = b)) := by
  unfold m_laws_eqRep
  rw [bif_tail (d := decide (a.q = b.q) && (decide (a.dims = b.dims) && decide (a.maps = b.maps))) (fun _ => ?_)]
  · cases a; cases b; simp [Bool.and_assoc]
  · rw [me_Q h.1, Option.bind_some]
    refine bif_tail fun _ => ?_
    rw [me_I h.2.1, Option.bind_some]
    refine bif_tail fun _ => ?_
    rw [me_Ms h.2.2.1, Option.bind_some, bif_one]
theorem me_Rs {a b : List Rp} (h : a.length ≤ 1048576 ∧ ∀ m ∈ a, bR m) : m_laws_eqRepS a b = some (decide (a = b)) := by
  obtain ⟨h, hb⟩ := h
  unfold m_laws_eqRepS
  rw [len_test]
  by_cases e : a.length = b.length
  · rw [decide_eq_true e, Bool.not_true, cond_false]
    refine eq_lists (by omega) e (fun k h1 h2 => ?_) ?_
    · unfold m_laws_eqRepS_L1
      rw [dlt h1, cond_true, atL_nat h1, Option.bind_some, atL_nat h2, Option.bind_some, me_R (hb _ (List.getElem_mem h1)), Option.bind_some]
      cases decide (a[k] = b[k]) <;> rfl
    · unfold m_laws_eqRepS_L1
      rw [dnl (Nat.le_refl _), cond_false]
  · rw [decide_eq_false e, Bool.not_false, cond_true, decide_eq_false (by rintro rfl; exact e rfl)]
end Go.Proofs.Ytjfcjkeghigipaa

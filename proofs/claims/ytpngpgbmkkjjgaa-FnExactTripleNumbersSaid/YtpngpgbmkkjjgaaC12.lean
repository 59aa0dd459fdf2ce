/-
  Contracts: matrices in place: rows, multiples of rows.
-/
import Derived.Test.YtpngpgbmkkjjgaaC8
namespace Go.Proofs.Ytpngpgbmkkjjgaa
open Go.RowKit

/-! ### a matrix in a block -/

/-- Block g holds the numbers F, row by row, m rows of n. -/
def MatAt (w : World) (g m n : Nat) (F : Nat → Nat → Int) : Prop :=
  g < w.heap.size ∧ ∀ i j, i < m → j < n → w.cell? ⟨g, i * n + j, none⟩ = some (.int .i64 (F i j)) ∧ w.frozen? ⟨g, i * n + j, none⟩ = false

def setF (F : Nat → Nat → Int) (i j : Nat) (v : Int) : Nat → Nat → Int := fun a b => if a = i ∧ b = j then v else F a b

theorem cell_inj {n i j i' j' : Nat} (hj : j < n) (hj' : j' < n) (h : i * n + j = i' * n + j') : i = i' ∧ j = j' := by
  have hn : 0 < n := by omega
  have e1 : (i * n + j) / n = i := by rw [Nat.mul_comm, Nat.mul_add_div hn, Nat.div_eq_of_lt hj]; rfl
  have e2 : (i' * n + j') / n = i' := by rw [Nat.mul_comm, Nat.mul_add_div hn, Nat.div_eq_of_lt hj']; rfl
  have : i = i' := by rw [← e1, ← e2, h]
  subst this
  exact ⟨rfl, by omega⟩
theorem cell_lt {m n i j : Nat} (hi : i < m) (hj : j < n) : i * n + j < m * n := by
  have : (i + 1) * n ≤ m * n := Nat.mul_le_mul_right _ hi
  rw [Nat.add_mul] at this
  omega

theorem MatAt.keep {w w' : World} {g m n : Nat} {F : Nat → Nat → Int} (h : MatAt w g m n F) (hb : w'.heap[g]? = w.heap[g]?) : MatAt w' g m n F := by
  refine ⟨?_, fun i j hi hj => ⟨(World.cell?_of_block (w := w) (a := ⟨g, i * n + j, none⟩) hb).trans (h.2 i j hi hj).1, (World.frozen?_of_block (w := w) (a := ⟨g, i * n + j, none⟩) hb).trans (h.2 i j hi hj).2⟩⟩
  rcases Nat.lt_or_ge g w'.heap.size with h' | h'
  · exact h'
  · rw [Array.getElem?_eq_none h', Array.getElem?_eq_getElem h.1] at hb; cases hb
theorem MatAt.below {w w' : World} {g m n : Nat} {F : Nat → Nat → Int} (h : MatAt w g m n F) (hb : Below w.heap.size w w') : MatAt w' g m n F := h.keep (hb.block _ h.1)
theorem MatAt.frm {w w' : World} {g m n : Nat} {F : Nat → Nat → Int} {S : List Nat} (h : MatAt w g m n F) (hf : Frm S w w') (hg : g ∉ S) : MatAt w' g m n F := h.keep (hf.block _ h.1 hg)
theorem MatAt.set {w : World} {g m n : Nat} {F : Nat → Nat → Int} (h : MatAt w g m n F) {i j : Nat} (hi : i < m) (hj : j < n) (v : Int) : MatAt (w.setCell ⟨g, i * n + j, none⟩ (.int .i64 v)) g m n (setF F i j v) := by
  refine ⟨by simpa using h.1, fun a b ha hb => ⟨?_, ?_⟩⟩
  · by_cases e : a = i ∧ b = j
    · obtain ⟨rfl, rfl⟩ := e
      rw [World.cell?_setCell_same _ _ _ (h.2 a b ha hb).1]
      simp [setF]
    · rw [World.cell?_setCell_other _ _ _ _ (by
        simp only [ne_eq, Addr.mk.injEq, and_true, true_and]
        intro h'
        exact e (cell_inj hb hj h'.symm))]
      rw [(h.2 a b ha hb).1]
      simp [setF, e]
  · rw [World.frozen?_setCell]
    exact (h.2 a b ha hb).2
theorem MatAt.congr {w : World} {g m n : Nat} {F G : Nat → Nat → Int} (h : MatAt w g m n F) (e : ∀ i j, i < m → j < n → G i j = F i j) : MatAt w g m n G :=
  ⟨h.1, fun i j hi hj => by rw [e i j hi hj]; exact h.2 i j hi hj⟩

theorem run_row (w : World) (g N cap l h : Nat) (h1 : l < cap) (h2 : l ≤ h) (h3 : h ≤ cap) :
    (Instr.slice 22 (.slice (some ⟨g, 0, none⟩) N cap) (some (.int .i64 (l : Int))) (some (.int .i64 (h : Int))) none).run Try.prog w = .ok (.slice (some ⟨g, l, none⟩) (h - l) (cap - l)) w := by
  obtain ⟨i0, hi, hz0, hz1, hz2⟩ := info_parts Try.info3
  have e1 : ¬ (cap = l) := by omega
  simp [Instr.slice, run_underlying Try.underlying22, Instr.sliceBounds, run_sliceBound, h2, h3, sizeOf, typeInfo, hi, hz1, e1, Addr.add_lit]

set_option maxHeartbeats 400000 in
theorem c_row (g N cap m n i : Nat) (w : World) (hi : i < m) (hn : 0 < n) (hN : m * n ≤ N) (hc : N ≤ cap) (hm : N ≤ 1048576) :
    Calls Try.prog 148 #[.agg #[.int .i64 m, .int .i64 n, .slice (some ⟨g, 0, none⟩) N cap], .int .i64 i] w (Ret w fun v _ => v = .slice (some ⟨g, i * n, none⟩) n (cap - i * n)) := by
  have h1 : (i + 1) * n ≤ m * n := Nat.mul_le_mul_right _ hi
  have h2 : (i + 1) * n = i * n + n := by rw [Nat.add_mul]; omega
  have hin : i + 1 ≤ (i + 1) * n := Nat.le_mul_of_pos_right _ hn
  have B0 : Hid (Below w.heap.size w (w.alloc (.cells #[.int .i64 m, .int .i64 n, .slice (some ⟨g, 0, none⟩) N cap] 107))) := (Below.refl _ _).alloc (Nat.le_refl _) _
  have hi1 : i ≤ 1048576 := by omega
  obtain ⟨L, hL⟩ : ∃ L, L = i * n := ⟨_, rfl⟩
  obtain ⟨H, hH⟩ : ∃ H, H = i * n + n := ⟨_, rfl⟩
  have hr := run_row (w.alloc (.cells #[.int .i64 m, .int .i64 n, .slice (some ⟨g, 0, none⟩) N cap] 107)) g N cap L H (by omega) (by omega) (by omega)
  rw [show H - L = n by omega] at hr
  have w1 : wrap64 ((i : Int) * (n : Int)) = (L : Int) := by
    have e : (i : Int) * (n : Int) = ((i * n : Nat) : Int) := by push_cast; rfl
    rw [e, hL]
    exact IntWalk.wrap64_in _ ⟨by omega, by omega⟩
  have W1 := Lib.hid w1
  clear w1
  have w2 : wrap64 (((i : Int) + 1) * (n : Int)) = (H : Int) := by
    have e : ((i : Int) + 1) * (n : Int) = ((i * n + n : Nat) : Int) := by push_cast; rw [Int.add_mul, Int.one_mul]
    rw [e, hH]
    exact IntWalk.wrap64_in _ ⟨by omega, by omega⟩
  have w1 := W1.out
  have HL := Lib.hid hL
  clear hL hH W1 h1 h2 hin hi hN
  go_enter Try.func148, Try.ntmps148
  go_wp2
  go_ret
  exact ⟨_, rfl, B0.out, by rw [HL.out]; rfl⟩

/-! ### a row turned in place -/

/-- n cells of block g from offset o on hold A now; all else is as it was. -/
structure RowTo (w w' : World) (g o n : Nat) (A : Nat → Int) : Prop where
  frm : Frm [g] w w'
  size : w'.heap.size = w.heap.size
  cell : ∀ x, w'.cell? ⟨g, x, none⟩ = if o ≤ x ∧ x < o + n then some (.int .i64 (A (x - o))) else w.cell? ⟨g, x, none⟩
  froz : ∀ x, w'.frozen? ⟨g, x, none⟩ = w.frozen? ⟨g, x, none⟩

theorem RowTo.set {w w' : World} {g o n : Nat} {A : Nat → Int} (h : RowTo w w' g o n A) {j : Nat} (hj : j < n) (v : Int) : RowTo w (w'.setCell ⟨g, o + j, none⟩ (.int .i64 v)) g o n (fun i => if i = j then v else A i) where
  frm := h.frm.setCell (by simp) _
  size := by simpa using h.size
  cell := fun x => by
    by_cases e : x = o + j
    · subst e
      have h1 := h.cell (o + j)
      rw [if_pos ⟨by omega, by omega⟩] at h1
      rw [World.cell?_setCell_same _ _ _ h1, if_pos ⟨by omega, by omega⟩, if_pos (by omega)]
    · rw [World.cell?_setCell_other _ _ _ _ (by simp only [ne_eq, Addr.mk.injEq, and_true, true_and]; exact fun e' => e e'.symm), h.cell x]
      by_cases e2 : o ≤ x ∧ x < o + n
      · rw [if_pos e2, if_pos e2, if_neg (by omega)]
      · rw [if_neg e2, if_neg e2]
  froz := fun x => by rw [World.frozen?_setCell]; exact h.froz x
theorem RowTo.congr {w w' : World} {g o n : Nat} {A A' : Nat → Int} (h : RowTo w w' g o n A) (e : ∀ j, j < n → A' j = A j) : RowTo w w' g o n A' where
  frm := h.frm
  size := h.size
  cell := fun x => by
    rw [h.cell x]
    by_cases e2 : o ≤ x ∧ x < o + n
    · rw [if_pos e2, if_pos e2, e _ (by omega)]
    · rw [if_neg e2, if_neg e2]
  froz := h.froz

theorem mul_small {a b : Int} (h1 : 0 ≤ a ∧ a ≤ 1000) (h2 : 0 ≤ b ∧ b ≤ 1000) : 0 ≤ a * b ∧ a * b ≤ 1000000 :=
  ⟨Int.mul_nonneg h1.1 h2.1, Int.mul_le_mul h1.2 h2.2 h2.1 (by omega)⟩

set_option maxHeartbeats 1000000 in
theorem c_addMultiple (p k : Int) (ga oa ca n : Nat) (A : Nat → Int) (gb ob cb : Nat) (B : Nat → Int) (w : World) (hp : 1 ≤ p ∧ p ≤ 1000) (hk : 0 ≤ k ∧ k ≤ 1000)
    (hA : ∀ j, j < n → w.cell? ⟨ga, oa + j, none⟩ = some (.int .i64 (A j)) ∧ w.frozen? ⟨ga, oa + j, none⟩ = false) (bA : ∀ j, j < n → 0 ≤ A j ∧ A j ≤ 1000)
    (hB : ∀ j, j < n → w.cell? ⟨gb, ob + j, none⟩ = some (.int .i64 (B j))) (bB : ∀ j, j < n → 0 ≤ B j ∧ B j ≤ 1000) (hd : gb ≠ ga ∨ ob + n ≤ oa ∨ oa + n ≤ ob) (hlt : n = 0 ∨ gb < w.heap.size) (hn : n ≤ 1048576) :
    Calls Try.prog 123 #[.int .i64 p, .slice (some ⟨ga, oa, none⟩) n ca, .int .i64 k, .slice (some ⟨gb, ob, none⟩) n cb] w fun e w' => e = .returned (.slice (some ⟨ga, oa, none⟩) n ca) ∧ RowTo w w' ga oa n (fun j => (A j + k * B j) % p) := by
  have H : Hid ((∀ j, j < n → w.cell? ⟨ga, oa + j, none⟩ = some (.int .i64 (A j)) ∧ w.frozen? ⟨ga, oa + j, none⟩ = false) ∧ (∀ j, j < n → w.cell? ⟨gb, ob + j, none⟩ = some (.int .i64 (B j)))) := ⟨hA, hB⟩
  have HV : Hid (∀ j, j < n → (wrap64 (A j + wrap64 (k * B j))).tmod p = (A j + k * B j) % p) := by
    intro j hj
    have h1 := mul_small hk (bB j hj)
    have h2 := bA j hj
    have w1 : wrap64 (k * B j) = k * B j := IntWalk.wrap64_in _ ⟨by omega, by omega⟩
    rw [w1]
    clear w1
    rw [IntWalk.wrap64_in _ ⟨by omega, by omega⟩]
    exact Int.tmod_eq_emod_of_nonneg (by omega)
  have hp0 : p ≠ 0 := by omega
  have hpp := hp.1
  clear hA hB bA bB hk
  go_enter Try.func123, Try.ntmps123
  go_wp2
  go_loopw [13] (fun i wr => ∃ j : Nat, j ≤ n ∧ i = .int .i64 j ∧ Hid (RowTo w wr ga oa n (fun x => if x < j then (A x + k * B x) % p else A x))) (fun i _ => n - (intOf i).toNat)
  case atStart =>
    refine ⟨0, Nat.zero_le _, rfl, ⟨Frm.refl _ _, rfl, fun x => ?_, fun _ => rfl⟩⟩
    by_cases e : oa ≤ x ∧ x < oa + n
    · rw [if_pos e]
      have := (H.out.1 (x - oa) (by omega)).1
      rw [show oa + (x - oa) = x by omega] at this
      rw [this, if_neg (by omega)]
    · rw [if_neg e]
  case round =>
    obtain ⟨j, hj, rfl, HR⟩ := hrel
    by_cases hlt' : j < n
    · have k1 : wr.cell? ⟨ga, oa + j, none⟩ = some (.int .i64 (A j)) := by
        rw [HR.out.cell (oa + j), if_pos ⟨by omega, by omega⟩, show oa + j - oa = j by omega, if_neg (by omega)]
      have k2 : wr.frozen? ⟨ga, oa + j, none⟩ = false := by
        rw [HR.out.froz]; exact (H.out.1 j hlt').2
      have k3 : wr.cell? ⟨gb, ob + j, none⟩ = some (.int .i64 (B j)) := by
        rcases hd with h | h
        · rw [HR.out.frm.cell (by show gb < _; omega) (by simpa using h)]
          exact H.out.2 j hlt'
        · by_cases hg : gb = ga
          · subst hg
            rw [HR.out.cell (ob + j), if_neg (by omega)]
            exact H.out.2 j hlt'
          · rw [HR.out.frm.cell (by show gb < _; omega) (by simpa using hg)]
            exact H.out.2 j hlt'
      go_wp2
      go_roundw
      case rel =>
        refine ⟨j + 1, by omega, by go_num, ?_⟩
        refine (HR.out.set hlt' _).congr (fun x hx => ?_)
        by_cases e : x = j
        · subst e
          rw [if_pos rfl, if_pos (by omega), HV.out x hx]
        · rw [if_neg e]
          by_cases e2 : x < j
          · rw [if_pos e2, if_pos (by omega)]
          · rw [if_neg e2, if_neg (by omega)]
      case measure => simp [intOf]; omega
    · go_wp2
      go_ret
      refine ⟨rfl, HR.out.congr (fun x hx => ?_)⟩
      rw [if_pos (by omega)]
end Go.Proofs.Ytpngpgbmkkjjgaa

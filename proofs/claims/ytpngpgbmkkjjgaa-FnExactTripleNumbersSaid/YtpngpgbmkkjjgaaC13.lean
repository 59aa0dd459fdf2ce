/-
  Elimination as plain functions on rows and columns; copies of matrices.
-/
import Derived.Test.YtpngpgbmkkjjgaaC5
import Derived.Test.YtpngpgbmkkjjgaaC6
import Derived.Test.YtpngpgbmkkjjgaaC12
namespace Go.Proofs.Ytpngpgbmkkjjgaa
open Go.RowKit

/-! ### elimination -/

/-- The first row from k on, of d rows, with a number that is not 0 in column j; else the row behind them. -/
def pivot (F : Nat → Nat → Int) (j : Nat) : Nat → Nat → Nat
  | 0, k => k
  | d + 1, k => if F k j = 0 then pivot F j d (k + 1) else k
theorem pivot_eq {F : Nat → Nat → Int} {j : Nat} : ∀ {d k r : Nat}, k ≤ r → r ≤ k + d → (∀ i, k ≤ i → i < r → F i j = 0) → (r < k + d → F r j ≠ 0) → pivot F j d k = r
  | 0, k, r, h1, h2, _, _ => by simp [pivot]; omega
  | d + 1, k, r, h1, h2, h3, h4 => by
    unfold pivot
    by_cases e : F k j = 0
    · rw [if_pos e]
      have hne : k ≠ r := by rintro rfl; exact h4 (by omega) e
      exact pivot_eq (by omega) (by omega) (fun i a b => h3 i (by omega) b) (fun h => h4 (by omega))
    · rw [if_neg e]
      rcases Nat.lt_or_ge k r with h | h
      · exact absurd (h3 k (Nat.le_refl _) h) e
      · omega
theorem pivot_le {F : Nat → Nat → Int} {j : Nat} : ∀ {d k : Nat}, k ≤ pivot F j d k ∧ pivot F j d k ≤ k + d
  | 0, k => by simp [pivot]
  | d + 1, k => by
    unfold pivot
    split
    · have := @pivot_le F j d (k + 1); omega
    · omega

def swapF (F : Nat → Nat → Int) (a b : Nat) : Nat → Nat → Int := fun i c => if i = a then F b c else if i = b then F a c else F i c
def scaleF (p : Int) (F : Nat → Nat → Int) (a : Nat) (s : Int) : Nat → Nat → Int := fun i c => if i = a then (F a c * s) % p else F i c
def elimF (p : Int) (F : Nat → Nat → Int) (a j : Nat) : Nat → Nat → Int := fun i c => if i = a then F a c else (F i c - F i j * F a c) % p

def redPart (p : Int) (F : Nat → Nat → Int) (k r j : Nat) : Nat → Nat → Int := elimF p (scaleF p (swapF F k r) k (invR p (F r j))) k j

def redStep (p : Int) (m : Nat) (st : (Nat → Nat → Int) × List Nat) (j : Nat) : (Nat → Nat → Int) × List Nat :=
  if pivot st.1 j (m - st.2.length) st.2.length = m then st else (redPart p st.1 st.2.length (pivot st.1 j (m - st.2.length) st.2.length) j, st.2 ++ [j])

def redUp (p : Int) (m : Nat) (F : Nat → Nat → Int) : Nat → (Nat → Nat → Int) × List Nat
  | 0 => (F, [])
  | t + 1 => redStep p m (redUp p m F t) t

/-- All numbers are rests. -/
def InP (p : Int) (m n : Nat) (F : Nat → Nat → Int) : Prop := ∀ i j, i < m → j < n → 0 ≤ F i j ∧ F i j < p

theorem redPart_in {p : Int} (hp : 0 < p) {m n : Nat} {F : Nat → Nat → Int} (_h : InP p m n F) (k r j : Nat) : InP p m n (redPart p F k r j) := by
  intro i c hi hc
  unfold redPart elimF scaleF
  split
  · simp only [if_pos]
    exact ⟨Int.emod_nonneg _ (by omega), Int.emod_lt_of_pos _ hp⟩
  · exact ⟨Int.emod_nonneg _ (by omega), Int.emod_lt_of_pos _ hp⟩
theorem redStep_in {p : Int} (hp : 0 < p) {m n : Nat} {st : (Nat → Nat → Int) × List Nat} (h : InP p m n st.1) (j : Nat) : InP p m n (redStep p m st j).1 := by
  unfold redStep
  split
  · exact h
  · exact redPart_in hp h _ _ _
theorem redStep_len {p : Int} {m : Nat} {st : (Nat → Nat → Int) × List Nat} (h : st.2.length ≤ m) (j : Nat) : (redStep p m st j).2.length ≤ m := by
  unfold redStep
  split
  · exact h
  · rename_i h1
    have := @pivot_le st.1 j (m - st.2.length) st.2.length
    simp
    omega
theorem redUp_in {p : Int} (hp : 0 < p) {m n : Nat} {F : Nat → Nat → Int} (h : InP p m n F) : ∀ t, InP p m n (redUp p m F t).1
  | 0 => h
  | t + 1 => redStep_in hp (redUp_in hp h t) t
theorem redUp_len {p : Int} {m : Nat} {F : Nat → Nat → Int} : ∀ t, (redUp p m F t).2.length ≤ m
  | 0 => Nat.zero_le _
  | t + 1 => redStep_len (redUp_len t) t
theorem redUp_lt {p : Int} {m : Nat} {F : Nat → Nat → Int} : ∀ t, ∀ x ∈ (redUp p m F t).2, x < t
  | 0, x, h => by simp [redUp] at h
  | t + 1, x, h => by
    unfold redUp redStep at h
    split at h
    · have := redUp_lt t x h; omega
    · rcases List.mem_append.1 h with h | h
      · have := redUp_lt t x h; omega
      · simp at h; omega
theorem redUp_len' {p : Int} {m : Nat} {F : Nat → Nat → Int} : ∀ t, (redUp p m F t).2.length ≤ t
  | 0 => Nat.zero_le _
  | t + 1 => by
    have := @redUp_len' p m F t
    unfold redUp redStep
    split
    · omega
    · simp; omega

set_option maxHeartbeats 1000000 in
theorem c_Matrix_clone (m n : Int) (a : Option Addr) (N c : Nat) (l : List Int) (S : List Nat) (w : World) (h : SliceRd Shp.int w a N c l S) (hN : N ≤ 1048576) :
    Calls Try.prog 161 #[.agg #[.int .i64 m, .int .i64 n, .slice a N c]] w (Ret w fun v w' => ∃ a' N' c' S', v = .agg #[.int .i64 m, .int .i64 n, .slice a' N' c'] ∧ Own 3 Shp.int w' (w.heap.size + 2) (.slice a' N' c') l S') := by
  have b0 := (Below.refl w.heap.size w).alloc (Nat.le_refl _) (.cells #[.int .i64 m, .int .i64 n, .slice a N c] 107)
  have b1 := (Below.refl _ (w.alloc (.cells #[.int .i64 m, .int .i64 n, .slice a N c] 107))).alloc (Nat.le_refl _) (.cells #[.int .i64 0, .int .i64 0, .slice none 0 0] 107)
  have t1 := At.alloc (w.alloc (.cells #[.int .i64 m, .int .i64 n, .slice a N c] 107)) #[.int .i64 0, .int .i64 0, .slice none 0 0] 107
  rw [World.size_alloc] at t1
  have A0 := Lib.hid (And.intro ((At.alloc w #[.int .i64 m, .int .i64 n, .slice a N c] 107).keep (b1.block _ (by simp))) (And.intro t1 (below_then b0 b1)))
  have HC := Lib.hid (c_Clone_int a N c l S _ ((h.below Shp.int_good b0).below Shp.int_good b1) hN)
  clear b0 b1 t1 h
  go_enter Try.func161, Try.ntmps161
  go_wp2_with fail
  refine HC.out.mono ?_
  rintro e w1 ⟨v, rfl, hb1, S1, hO1⟩
  obtain ⟨a1, N1, c1, rfl⟩ := hO1.form
  have hA := A0.out.1.keep (hb1.block _ (by simp; omega))
  have hR := A0.out.2.1.keep (hb1.block _ (by simp))
  have p0 := hA.c0
  have p1 := hA.c1
  have p2 := hA.c2
  have g2 := hA.f2
  have o0 := hR.c0
  have o1 := hR.c1
  have o2 := hR.c2
  have i0 := hR.f0
  have i1 := hR.f1
  have i2 := hR.f2
  have HE : Hid (∀ u x y z : Value, Below w.heap.size w ((((w1.setCell ⟨w.heap.size, 2, none⟩ u).setCell ⟨w.heap.size + 1, 0, none⟩ x).setCell ⟨w.heap.size + 1, 1, none⟩ y).setCell ⟨w.heap.size + 1, 2, none⟩ z) ∧
      Own 3 Shp.int ((((w1.setCell ⟨w.heap.size, 2, none⟩ u).setCell ⟨w.heap.size + 1, 0, none⟩ x).setCell ⟨w.heap.size + 1, 1, none⟩ y).setCell ⟨w.heap.size + 1, 2, none⟩ z) (w.heap.size + 2) (.slice a1 N1 c1) l S1) := by
    intro u x y z
    have hO : Own 3 Shp.int w1 (w.heap.size + 2) (.slice a1 N1 c1) l S1 := by simpa using hO1
    exact ⟨((((below_then A0.out.2.2 hb1).setCell (Nat.le_refl _) _).setCell (Nat.le_succ _) _).setCell (Nat.le_succ _) _).setCell (Nat.le_succ _) _,
      (((hO.setOff Shp.int_good (hO.off (by show w.heap.size < _; omega)) _).setOff Shp.int_good (hO.off (by show w.heap.size + 1 < _; omega)) _).setOff Shp.int_good (hO.off (by show w.heap.size + 1 < _; omega)) _).setOff Shp.int_good (hO.off (by show w.heap.size + 1 < _; omega)) _⟩
  clear hb1 hO1 A0 HC hA hR
  go_wp2
  have hE := HE.out (.slice a1 N1 c1) (.int .i64 m) (.int .i64 n) (.slice a1 N1 c1)
  exact bodyPost_ret (v := .agg #[.int .i64 m, .int .i64 n, .slice a1 N1 c1]) (by simp [results, Try.results161, go_sem, o0, o1, o2]) rfl ⟨_, rfl, hE.1, _, _, _, _, rfl, hE.2⟩
end Go.Proofs.Ytpngpgbmkkjjgaa

/-
  Contracts: matrices out of rows, impl.reduce for every size, impl.span.
-/
import Derived.Test.YtpngpgbmkkjjgaaC15
namespace Go.Proofs.Ytpngpgbmkkjjgaa
open Go.RowKit

theorem flatten_get {n : Nat} : ∀ {l : List (List Int)}, (∀ v ∈ l, v.length = n) → ∀ i j, i < l.length → j < n → l.flatten[i * n + j]?.getD 0 = rowsF l i j
  | [], _, i, j, hi, _ => by simp at hi
  | v :: l, h, 0, j, hi, hj => by
    have h1 : v.length = n := h v (by simp)
    simp only [List.flatten_cons, Nat.zero_mul, Nat.zero_add]
    rw [List.getElem?_append_left (by omega)]
    simp [rowsF]
  | v :: l, h, i + 1, j, hi, hj => by
    have h1 : v.length = n := h v (by simp)
    simp only [List.flatten_cons]
    rw [List.getElem?_append_right (by rw [h1, Nat.add_mul]; omega), h1, show (i + 1) * n + j - n = i * n + j by rw [Nat.add_mul]; omega]
    have := flatten_get (l := l) (fun v hv => h v (by simp [hv])) i j (by simpa using hi) hj
    rw [this]
    simp [rowsF]
theorem flatten_len {n : Nat} : ∀ {l : List (List Int)}, (∀ v ∈ l, v.length = n) → l.flatten.length = l.length * n
  | [], _ => by simp
  | v :: l, h => by
    have h1 : v.length = n := h v (by simp)
    have := flatten_len (l := l) (fun v hv => h v (by simp [hv]))
    simp only [List.flatten_cons, List.length_append, List.length_cons, this, h1, Nat.add_mul]
    omega

set_option maxHeartbeats 1000000 in
theorem c_fromRows (n : Nat) (a : Option Addr) (m c : Nat) (l : List (List Int)) (S0 : List Nat) (w : World) (h : SliceRd Shp.ints w a m c l S0) (hm : m ≤ 1048576) (hfl : l.flatten.length ≤ 1048576) :
    Calls Try.prog 149 #[.int .i64 n, .slice a m c] w (Ret w fun v w' => ∃ aR nR cR S, v = .agg #[.int .i64 m, .int .i64 n, .slice aR nR cR] ∧ SliceRd Shp.int w' aR nR cR l.flatten S ∧ New w.heap.size S) := by
  have hmx := h.max
  have b0 := (Below.refl w.heap.size w).alloc (Nat.le_refl _) (.cells #[.int .i64 0, .int .i64 0, .slice none 0 0] 107)
  have A0 := Lib.hid (And.intro (At.alloc w #[.int .i64 0, .int .i64 0, .slice none 0 0] 107) b0)
  have HC := Lib.hid (c_Concat_ints a m c l S0 _ (h.below Shp.ints_good b0) hm hfl)
  clear b0 h
  go_enter Try.func149, Try.ntmps149
  go_wp2_with fail
  refine HC.out.mono ?_
  rintro e w1 ⟨v, rfl, hb1, S1, hO1⟩
  obtain ⟨a1, N1, c1, rfl⟩ := hO1.form
  have hA := A0.out.1.keep (hb1.block _ (by simp))
  have o0 := hA.c0
  have o1 := hA.c1
  have o2 := hA.c2
  have i0 := hA.f0
  have i1 := hA.f1
  have i2 := hA.f2
  have HE : Hid (∀ x y z : Value, ∃ S, Below w.heap.size w (((w1.setCell ⟨w.heap.size, 0, none⟩ x).setCell ⟨w.heap.size, 1, none⟩ y).setCell ⟨w.heap.size, 2, none⟩ z) ∧
      SliceRd Shp.int (((w1.setCell ⟨w.heap.size, 0, none⟩ x).setCell ⟨w.heap.size, 1, none⟩ y).setCell ⟨w.heap.size, 2, none⟩ z) a1 N1 c1 l.flatten S ∧ New w.heap.size S) := by
    intro x y z
    obtain ⟨_, _, _, S1', hv1, -, rd1, new1, sub1⟩ := hO1.rd
    cases hv1
    have hn1 : ∀ b ∈ S1', w.heap.size + 1 ≤ b := fun b hb => by have := new1.2 b hb; simpa using this
    have hfr : Frm [w.heap.size] w1 (((w1.setCell ⟨w.heap.size, 0, none⟩ x).setCell ⟨w.heap.size, 1, none⟩ y).setCell ⟨w.heap.size, 2, none⟩ z) := (((Frm.refl _ _).setCell (by simp) _).setCell (by simp) _).setCell (by simp) _
    exact ⟨S1', (((below_then A0.out.2 hb1).setCell (Nat.le_refl _) _).setCell (Nat.le_refl _) _).setCell (Nat.le_refl _) _, rd1.frm Shp.int_good hfr (fun b hb hm => by have := hn1 b hb; simp at hm; omega), new1.1, fun b hb => by have := hn1 b hb; omega⟩
  clear hb1 hO1 A0 HC hA
  go_wp2
  obtain ⟨S, hb, hr, hn⟩ := HE.out (.int .i64 m) (.int .i64 n) (.slice a1 N1 c1)
  exact bodyPost_ret (v := .agg #[.int .i64 m, .int .i64 n, .slice a1 N1 c1]) (by simp [results, Try.results149, go_sem, o0, o1, o2]) rfl ⟨_, rfl, hb, _, _, _, S, rfl, hr, hn⟩

/-! ### reduce: no rows or no columns -/

theorem pivot_zero_rows (F : Nat → Nat → Int) (j k : Nat) : pivot F j 0 k = k := rfl
theorem redUp_none {p : Int} {m : Nat} {F : Nat → Nat → Int} (h : m = 0) : ∀ t, redUp p m F t = (F, [])
  | 0 => rfl
  | t + 1 => by
    unfold redUp
    rw [redUp_none h t]
    subst h
    simp [redStep, pivot]

/-- What is left of a reduced matrix that is read. -/
def RedRet (p : Int) (m n : Nat) (F0 : Nat → Nat → Int) (N : Nat) (B : Nat) (v : Value) (w' : World) : Prop :=
  ∃ aR cR aP nP cP SP, v = .tuple #[.agg #[.int .i64 m, .int .i64 n, .slice aR N cR], .slice aP nP cP] ∧ (N ≤ cR ∧ (0 < m → 0 < n → cR ≤ maxLen)) ∧
    (0 < m → 0 < n → ∃ g, aR = some ⟨g, 0, none⟩ ∧ B ≤ g ∧ MatAt w' g m n (redUp p m F0 n).1) ∧ Own 3 Shp.int w' B (.slice aP nP cP) ((redUp p m F0 n).2.map fun x : Nat => (x : Int)) SP

theorem own_lower {α : Type} {s : Shp α} {e : Nat} {w : World} {B B' : Nat} {v : Value} {l : List α} {S : List Nat} (h : Own e s w B v l S) (hB : B' ≤ B) : Own e s w B' v l S := by
  obtain ⟨xs, T, h1, h2, h3, h4⟩ := h
  exact ⟨xs, T, ⟨h1.1, by rcases h1.2 with h | ⟨g, cap, cur, r1, r2, r3⟩; exact .inl h; exact .inr ⟨g, cap, cur, r1, Nat.le_trans hB r2, r3⟩⟩, h2, h3, h4.mono hB⟩

set_option maxRecDepth 20000 in
set_option maxHeartbeats 2000000 in
theorem reduce_none (p : Int) (m n : Nat) (a : Option Addr) (N c : Nat) (l : List Int) (S : List Nat) (w : World) (h : SliceRd Shp.int w a N c l S) (hN : N = m * n) (h0 : m = 0 ∨ n = 0) (hm : m ≤ 1048576) (hn : n ≤ 1048576) (F0 : Nat → Nat → Int) :
    Calls Try.prog 146 #[.int .i64 p, .agg #[.int .i64 m, .int .i64 n, .slice a N c]] w (Ret w (RedRet p m n F0 N w.heap.size)) := by
  have hN0 : N = 0 := by rcases h0 with rfl | rfl <;> simp at hN <;> exact hN
  have HV : Hid ((redUp p m F0 n).2 = []) := by
    show _ = _
    rcases h0 with rfl | rfl
    · rw [redUp_none rfl]
    · rfl
  subst hN0
  clear hN
  have hl0 : l = [] := List.eq_nil_of_length_eq_zero h.1
  subst hl0
  have b0 := (Below.refl w.heap.size w).alloc (Nat.le_refl _) (.cells #[.int .i64 m, .int .i64 n, .slice a 0 c] 107)
  have b1 := (Below.refl _ (w.alloc (.cells #[.int .i64 m, .int .i64 n, .slice a 0 c] 107))).alloc (Nat.le_refl _) (.cells #[.int .i64 0, .int .i64 0, .slice none 0 0] 107)
  have t1 := At.alloc (w.alloc (.cells #[.int .i64 m, .int .i64 n, .slice a 0 c] 107)) #[.int .i64 0, .int .i64 0, .slice none 0 0] 107
  rw [World.size_alloc] at t1
  have A0 := Lib.hid (And.intro ((At.alloc w #[.int .i64 m, .int .i64 n, .slice a 0 c] 107).keep (b1.block _ (by simp))) (And.intro t1 (below_then b0 b1)))
  have HC := Lib.hid (c_Matrix_clone (m : Int) (n : Int) a 0 c [] S _ ((h.below Shp.int_good b0).below Shp.int_good b1) (by omega))
  have H0 := Lib.hid h0
  clear b0 b1 t1 h h0
  go_enter Try.func146, Try.ntmps146
  go_wp2_with fail
  refine HC.out.mono ?_
  rintro e w1 ⟨v, rfl, hb1, a1, N1, c1, S1, rfl, hO1⟩
  have HN1 : Hid (N1 = 0) := by show _ = _; have := hO1.room.1; simpa using this
  obtain rfl := HN1.out
  clear HN1
  have hA := A0.out.1.keep (hb1.block _ (by simp; omega))
  have hR := A0.out.2.1.keep (hb1.block _ (by simp))
  have hfr : Frm [w.heap.size] w1 (((w1.setCell ⟨w.heap.size, 0, none⟩ (.int .i64 m)).setCell ⟨w.heap.size, 1, none⟩ (.int .i64 n)).setCell ⟨w.heap.size, 2, none⟩ (.slice a1 0 c1)) := (((Frm.refl _ _).setCell (by simp) _).setCell (by simp) _).setCell (by simp) _
  have hz1 : w.heap.size + 1 + 1 ≤ w1.heap.size := by have := hb1.size; simpa using this
  have X0 : Hid (At (((w1.setCell ⟨w.heap.size, 0, none⟩ (.int .i64 m)).setCell ⟨w.heap.size, 1, none⟩ (.int .i64 n)).setCell ⟨w.heap.size, 2, none⟩ (.slice a1 0 c1)) w.heap.size 0 [.int .i64 m, .int .i64 n, .slice a1 0 c1] ∧
      At (((w1.setCell ⟨w.heap.size, 0, none⟩ (.int .i64 m)).setCell ⟨w.heap.size, 1, none⟩ (.int .i64 n)).setCell ⟨w.heap.size, 2, none⟩ (.slice a1 0 c1)) (w.heap.size + 1) 0 [.int .i64 0, .int .i64 0, .slice none 0 0] ∧
      Below w.heap.size w (((w1.setCell ⟨w.heap.size, 0, none⟩ (.int .i64 m)).setCell ⟨w.heap.size, 1, none⟩ (.int .i64 n)).setCell ⟨w.heap.size, 2, none⟩ (.slice a1 0 c1))) :=
    ⟨((hA.set 0 (.int .i64 m) (by simp)).set 1 (.int .i64 n) (by simp)).set 2 (.slice a1 0 c1) (by simp), hR.frm hfr (by omega) (by simp), (((below_then A0.out.2.2 hb1).setCell (Nat.le_refl _) _).setCell (Nat.le_refl _) _).setCell (Nat.le_refl _) _⟩
  have p0 := hA.c0
  have p1 := hA.c1
  have p2 := hA.c2
  have g0 := hA.f0
  have g1 := hA.f1
  have g2 := hA.f2
  have q1 := X0.out.1.c1
  clear hR hfr hb1 hO1 hA A0 HC
  go_wp2
  generalize ((w1.setCell ⟨w.heap.size, 0, none⟩ (.int .i64 m)).setCell ⟨w.heap.size, 1, none⟩ (.int .i64 n)).setCell ⟨w.heap.size, 2, none⟩ (.slice a1 0 c1) = W at *
  clear p0 p1 p2 g0 g1 g2 q1
  go_loop [6, 18] (fun s i => ∃ j : Nat, j ≤ n ∧ i = .int .i64 j ∧ s = .slice none 0 0) (fun _ i => n - (intOf i).toNat)
  case atStart => exact ⟨0, Nat.zero_le _, rfl, rfl⟩
  case round =>
    obtain ⟨j, hj, rfl, rfl⟩ := hrel
    have q0 := X0.out.1.c0
    have q1 := X0.out.1.c1
    have q2 := X0.out.1.c2
    by_cases hlt : j < n
    · have hm0 : m = 0 := by rcases H0.out with h | h; exact h; omega
      have e1 : ¬ (0 < m) := by omega
      have e2 : ((0 : Int) == (m : Int)) = true := by simp [hm0]
      have e3 : ¬ ((0 : Int) < (m : Int)) := by omega
      clear hm0
      go_wp2
      go_loop [8] (fun s => s = .int .i64 0) (fun _ => 0)
      case atStart => rfl
      case round =>
        subst hrel
        go_wp2
        go_round
        case rel => exact ⟨j + 1, by omega, by go_num, rfl⟩
        case measure => simp [intOf]; omega
    · have o0 := X0.out.2.1.c0
      have o1 := X0.out.2.1.c1
      have o2 := X0.out.2.1.c2
      have i0 := X0.out.2.1.f0
      have i1 := X0.out.2.1.f1
      have i2 := X0.out.2.1.f2
      have HE : Hid (∀ x y z : Value, Below w.heap.size w (((W.setCell ⟨w.heap.size + 1, 0, none⟩ x).setCell ⟨w.heap.size + 1, 1, none⟩ y).setCell ⟨w.heap.size + 1, 2, none⟩ z)) := by
        intro x y z
        exact ((X0.out.2.2.setCell (Nat.le_succ _) _).setCell (Nat.le_succ _) _).setCell (Nat.le_succ _) _
      go_wp2
      have hb := HE.out (.int .i64 m) (.int .i64 n) (.slice a1 0 c1)
      exact bodyPost_ret (v := .tuple #[.agg #[.int .i64 m, .int .i64 n, .slice a1 0 c1], .slice none 0 0]) (by simp [results, Try.results146, go_sem, o0, o1, o2]) rfl ⟨_, rfl, hb, a1, c1, none, 0, 0, [], rfl, ⟨Nat.zero_le _, fun h1 h2 => by rcases H0.out with h | h <;> omega⟩, fun h1 h2 => by rcases H0.out with h | h <;> omega, by rw [HV.out]; exact Own.nil _ _ _ _⟩

theorem c_reduce (p : Int) (m n : Nat) (a : Option Addr) (N c : Nat) (l : List Int) (S : List Nat) (w : World) (hp : isF p = true) (h : SliceRd Shp.int w a N c l S) (hN : N = m * n) (hsz : N ≤ 1048576) (hm : m ≤ 1048576) (hn : n ≤ 1048576)
    (F0 : Nat → Nat → Int) (hF : ∀ i j, i < m → j < n → l[i * n + j]?.getD 0 = F0 i j) (hin : InP p m n F0) :
    Calls Try.prog 146 #[.int .i64 p, .agg #[.int .i64 m, .int .i64 n, .slice a N c]] w (Ret w (RedRet p m n F0 N w.heap.size)) := by
  by_cases h0 : m = 0 ∨ n = 0
  · exact reduce_none p m n a N c l S w h hN h0 hm hn F0
  · refine (reduce_walk p m n a N c l S w hp h hN (by omega) (by omega) hsz F0 hF hin).mono ?_
    rintro e w' ⟨v, he, hb, g, cap, aP, nP, cP, SP, hv, h1, h2, h3, h4⟩
    exact ⟨v, he, hb, _, cap, aP, nP, cP, SP, hv, ⟨h1.1, fun _ _ => h1.2⟩, fun _ _ => ⟨g, rfl, h2, h3⟩, own_lower h4 (by omega)⟩
end Go.Proofs.Ytpngpgbmkkjjgaa

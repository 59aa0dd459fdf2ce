/-
  Contracts of the reference: reduced bases, kernels.
-/
import Derived.Test.YtpngpgbmkkjjgaaD3
import Derived.Test.YtpngpgbmkkjjgaaC20
namespace Go.Proofs.Ytpngpgbmkkjjgaa
open Go.RowKit

set_option maxRecDepth 20000 in
set_option maxHeartbeats 2000000 in
theorem l4reduce_none (p : Int) (m n : Nat) (a : Option Addr) (N c : Nat) (l : List Int) (S : List Nat) (w : World) (h : SliceRd Shp.int w a N c l S) (hN : N = m * n) (h0 : m = 0 ∨ n = 0) (hm : m ≤ 1048576) (hn : n ≤ 1048576) (F0 : Nat → Nat → Int) :
    Calls Try.prog 142 #[.int .i64 p, .agg #[.int .i64 m, .int .i64 n, .slice a N c]] w (Ret w (RedRet p m n F0 N w.heap.size)) := by
  have hN0 : N = 0 := by rcases h0 with rfl | rfl <;> simp at hN <;> exact hN
  have HV : Hid ((redUp p m F0 n).2 = []) := by
    show _ = _
    rcases h0 with rfl | rfl
    · rw [redUp_none rfl]
    · rfl
  subst hN0
  clear hN
  have hl0 : l = [] := List.eq_nil_of_length_eq_zero h.1
  subst hl0
  have b0 := (Below.refl w.heap.size w).alloc (Nat.le_refl _) (.cells #[.int .i64 m, .int .i64 n, .slice a 0 c] 107)
  have b1 := (Below.refl _ (w.alloc (.cells #[.int .i64 m, .int .i64 n, .slice a 0 c] 107))).alloc (Nat.le_refl _) (.cells #[.int .i64 0, .int .i64 0, .slice none 0 0] 107)
  have t1 := At.alloc (w.alloc (.cells #[.int .i64 m, .int .i64 n, .slice a 0 c] 107)) #[.int .i64 0, .int .i64 0, .slice none 0 0] 107
  rw [World.size_alloc] at t1
  have A0 := Lib.hid (And.intro ((At.alloc w #[.int .i64 m, .int .i64 n, .slice a 0 c] 107).keep (b1.block _ (by simp))) (And.intro t1 (below_then b0 b1)))
  have HC := Lib.hid (c_l3Copy (m : Int) (n : Int) a 0 c [] S _ ((h.below Shp.int_good b0).below Shp.int_good b1) (by omega))
  have H0 := Lib.hid h0
  clear b0 b1 t1 h h0
  go_enter Try.func142, Try.ntmps142
  go_wp2_with fail
  refine HC.out.mono ?_
  rintro e w1 ⟨v, rfl, hb1, a1, N1, c1, S1, rfl, hO1⟩
  have HN1 : Hid (N1 = 0) := by show _ = _; have := hO1.room.1; simpa using this
  obtain rfl := HN1.out
  clear HN1
  have hb3 := (Below.refl w1.heap.size w1).alloc (Nat.le_refl _) (.cells #[.int .i64 m, .int .i64 n, .slice a1 0 c1] 107)
  have hb4 := (Below.refl _ (w1.alloc (.cells #[.int .i64 m, .int .i64 n, .slice a1 0 c1] 107))).alloc (Nat.le_refl _) (.cells #[] 3)
  have hz : w.heap.size + 1 + 1 ≤ w1.heap.size := by have := hb1.size; simpa using this
  have X0 : Hid (At ((w1.alloc (.cells #[.int .i64 m, .int .i64 n, .slice a1 0 c1] 107)).alloc (.cells #[] 3)) (w.heap.size + 1) 0 [.int .i64 0, .int .i64 0, .slice none 0 0] ∧ At ((w1.alloc (.cells #[.int .i64 m, .int .i64 n, .slice a1 0 c1] 107)).alloc (.cells #[] 3)) w1.heap.size 0 [.int .i64 m, .int .i64 n, .slice a1 0 c1] ∧ Below w.heap.size w ((w1.alloc (.cells #[.int .i64 m, .int .i64 n, .slice a1 0 c1] 107)).alloc (.cells #[] 3)) ∧ w.heap.size + 1 < w1.heap.size) :=
    ⟨((A0.out.2.1.keep (hb1.block _ (by simp))).keep (hb3.block _ (by omega))).keep (hb4.block _ (by simp; omega)), At.bl (At.alloc w1 _ _) (by simp) hb4, below_then (below_then (below_then A0.out.2.2 hb1) hb3) hb4, by omega⟩
  have O0 : Hid (Own 3 Shp.int ((w1.alloc (.cells #[.int .i64 m, .int .i64 n, .slice a1 0 c1] 107)).alloc (.cells #[] 3)) (w1.heap.size + 1) (.slice (some ⟨w1.heap.size + 1, 0, none⟩) 0 0) [] [w1.heap.size + 1]) := by
    have h3 := Own.lit0 Shp.int 3 (w1.alloc (.cells #[.int .i64 m, .int .i64 n, .slice a1 0 c1] 107)) (B := w1.heap.size + 1) (by simp)
    rw [World.size_alloc] at h3
    exact h3
  clear hb1 hO1 A0 HC hb3 hb4 hz
  go_wp2
  generalize (w1.alloc (.cells #[.int .i64 m, .int .i64 n, .slice a1 0 c1] 107)).alloc (.cells #[] 3) = W at *
  have q0 := X0.out.2.1.c0
  have q1 := X0.out.2.1.c1
  have q2 := X0.out.2.1.c2
  have o0 := X0.out.1.c0
  have o1 := X0.out.1.c1
  have o2 := X0.out.1.c2
  have i0 := X0.out.1.f0
  have i1 := X0.out.1.f1
  have i2 := X0.out.1.f2
  have hcs : (0 < n ∧ ¬ (0 < m)) ∨ ¬ (0 < n) := by rcases H0.out with h | h <;> omega
  have HE : Hid (∀ x y z : Value, Below w.heap.size w (((W.setCell ⟨w.heap.size + 1, 0, none⟩ x).setCell ⟨w.heap.size + 1, 1, none⟩ y).setCell ⟨w.heap.size + 1, 2, none⟩ z) ∧ Own 3 Shp.int (((W.setCell ⟨w.heap.size + 1, 0, none⟩ x).setCell ⟨w.heap.size + 1, 1, none⟩ y).setCell ⟨w.heap.size + 1, 2, none⟩ z) w.heap.size (.slice (some ⟨w1.heap.size + 1, 0, none⟩) 0 0) [] [w1.heap.size + 1]) := by
    intro x y z
    have h4 := X0.out.2.2.2
    exact ⟨((X0.out.2.2.1.setCell (Nat.le_succ _) _).setCell (Nat.le_succ _) _).setCell (Nat.le_succ _) _, own_lower (own_one (own_two O0.out Shp.int_good (by omega) _ _ _ _) Shp.int_good (by omega) _ _) (by omega)⟩
  rcases hcs with ⟨hc1, hc2⟩ | hc1
  all_goals
    go_loop [7, 8, 9] (fun u s t => u = .slice (some ⟨w1.heap.size + 1, 0, none⟩) 0 0 ∧ s = .int .i64 0 ∧ t = .int .i64 0) (fun _ _ _ => 0)
    case atStart => exact ⟨rfl, rfl, rfl⟩
    case round =>
      obtain ⟨rfl, rfl, rfl⟩ := hrel
      go_wp2
      have hb := HE.out (.int .i64 m) (.int .i64 n) (.slice a1 0 c1)
      exact bodyPost_ret (v := .tuple #[.agg #[.int .i64 m, .int .i64 n, .slice a1 0 c1], .slice (some ⟨w1.heap.size + 1, 0, none⟩) 0 0]) (by simp [results, Try.results142, go_sem, o0, o1, o2]) rfl ⟨_, rfl, hb.1, a1, c1, _, 0, 0, _, rfl, ⟨Nat.zero_le _, fun h1 h2 => by rcases H0.out with h | h <;> omega⟩, fun h1 h2 => by rcases H0.out with h | h <;> omega, by rw [HV.out]; exact hb.2⟩

theorem c_l4Reduce (p : Int) (m n : Nat) (a : Option Addr) (N c : Nat) (l : List Int) (S : List Nat) (w : World) (hp : isF p = true) (h : SliceRd Shp.int w a N c l S) (hN : N = m * n) (hsz : N ≤ 1048576) (hm : m ≤ 1048576) (hn : n ≤ 1048576)
    (F0 : Nat → Nat → Int) (hF : ∀ i j, i < m → j < n → l[i * n + j]?.getD 0 = F0 i j) (hin : InP p m n F0) :
    Calls Try.prog 142 #[.int .i64 p, .agg #[.int .i64 m, .int .i64 n, .slice a N c]] w (Ret w (RedRet p m n F0 N w.heap.size)) := by
  by_cases h0 : m = 0 ∨ n = 0
  · exact l4reduce_none p m n a N c l S w h hN h0 hm hn F0
  · exact l4reduce_walk p m n a N c l S w hp h hN (by omega) (by omega) hsz F0 hF hin

set_option maxHeartbeats 400000 in
theorem c_l4Has (a : Option Addr) (n c : Nat) (L : List Nat) (k : Nat) (w : World) (h : IntRow w a n (L.map fun x : Nat => (x : Int))) :
    Calls Try.prog 143 #[.slice a n c, .int .i64 k] w fun e w' => e = .returned (.bool (L.contains k)) ∧ w = w' := by
  have hmax := h.max
  have HL : Hid (L.length = n) := by have := h.len; rw [List.length_map] at this; exact this
  have HR := Lib.hid h
  clear h
  go_enter Try.func143, Try.ntmps143
  go_wp2
  go_loop [5] (fun i => ∃ j : Nat, j ≤ n ∧ i = .int .i64 j ∧ Hid (∀ t, t < j → L[t]?.getD 0 ≠ k)) (fun i => n - (intOf i).toNat)
  case atStart => exact ⟨0, Nat.zero_le _, rfl, fun j hj => absurd hj (Nat.not_lt_zero _)⟩
  case round =>
    obtain ⟨j, hj, rfl, hb⟩ := hrel
    by_cases hlt : j < n
    · obtain ⟨b, off, rfl, hb', hc⟩ := HR.out.cell (by omega)
      have hck := (hc j hlt).1
      rw [cast_get] at hck
      have HM : Hid (L[j]?.getD 0 ∈ L) := by
        have h1 : j < L.length := by have := HL.out; omega
        show _ ∈ _
        simp only [h1, List.getElem?_eq_getElem, Option.getD_some]
        exact List.getElem_mem h1
      obtain ⟨y, hy⟩ : ∃ y, y = L[j]?.getD 0 := ⟨_, rfl⟩
      rw [← hy] at hck HM
      have HY := Lib.hid hy
      clear hc hy
      cases hp : ((y : Int) == (k : Int)) with
      | true =>
        have HP : Hid (L.contains k = true) := by
          show _ = _
          have h1 : y = k := by simp at hp; omega
          rw [← h1, List.contains_iff_mem]
          exact HM.out
        go_wp2
        go_ret
        exact ⟨ret_bool (by have h := HP.out; simpa using h), rfl⟩
      | false =>
        have HP : Hid (y ≠ k) := by show _ ≠ _; simp at hp; omega
        go_wp2
        go_round
        case rel =>
          refine ⟨j + 1, by omega, by go_num, fun t ht => ?_⟩
          by_cases e : t = j
          · subst e; rw [← HY.out]; exact HP.out
          · exact hb.out t (by omega)
        case measure => simp [intOf]; omega
    · have e : j = n := by omega
      subst e
      have HP : Hid (L.contains k = false) := by
        show _ = _
        rw [Bool.eq_false_iff]
        intro hc
        rw [List.contains_iff_mem] at hc
        obtain ⟨i, hi, rfl⟩ := List.getElem_of_mem hc
        have := hb.out i (by have := HL.out; omega)
        simp [hi] at this
      go_wp2
      go_ret
      exact ⟨ret_bool (by have h := HP.out; simpa using h), rfl⟩
end Go.Proofs.Ytpngpgbmkkjjgaa

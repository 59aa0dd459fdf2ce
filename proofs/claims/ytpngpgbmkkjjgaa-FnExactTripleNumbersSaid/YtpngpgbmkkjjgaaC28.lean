/-
  Contracts: the laws' copies and comparisons of spaces.
-/
import Derived.Test.YtpngpgbmkkjjgaaC27
namespace Go.Proofs.Ytpngpgbmkkjjgaa
open Go.RowKit

structure Spc where
  size : Int
  basis : List (List Int)

def Shp.spc : Shp Spc := ⟨2, fun w cs x S => ∃ a n c, cs = [.int .i64 x.size, .slice a n c] ∧ fits x.size ∧ SliceRd Shp.ints w a n c x.basis S⟩
theorem Shp.spc_good : Shp.spc.Good where
  pos := by simp [Shp.spc]
  len := by rintro w cs x S ⟨a, n, c, rfl, _⟩; rfl
  one := by rintro w cs x S ⟨a, n, c, rfl, _⟩ u hu; simp at hu; rcases hu with rfl | rfl <;> rfl
  keep := by
    rintro w w' cs x S ⟨a, n, c, h, f1, h1⟩ hk
    exact ⟨a, n, c, h, f1, h1.keep Shp.ints_good hk⟩
  lt := by
    rintro w cs x S ⟨a, n, c, h, f1, h1⟩ b hb
    exact h1.lt Shp.ints_good b hb

set_option maxHeartbeats 1000000 in
theorem c_toSpace (s : Int) (a : Option Addr) (n c : Nat) (l : List (List Int)) (S0 : List Nat) (w : World) (h : SliceRd Shp.ints w a n c l S0) (hn : n ≤ 1048576) (hv : ∀ v ∈ l, v.length ≤ 1048576) :
    Calls Try.prog 18 #[.agg #[.int .i64 s, .slice a n c]] w (Ret w fun v w' => ∃ a' n' c' S, v = .agg #[.int .i64 s, .slice a' n' c'] ∧ SliceRd Shp.ints w' a' n' c' l S ∧ New w.heap.size S) := by
  have b0 := (Below.refl w.heap.size w).alloc (Nat.le_refl _) (.cells #[.int .i64 s, .slice a n c] 35)
  have b1 := (Below.refl _ (w.alloc (.cells #[.int .i64 s, .slice a n c] 35))).alloc (Nat.le_refl _) (.cells #[.int .i64 0, .slice none 0 0] 38)
  have b2 := (Below.refl _ ((w.alloc (.cells #[.int .i64 s, .slice a n c] 35)).alloc (.cells #[.int .i64 0, .slice none 0 0] 38))).alloc (Nat.le_refl _) (.cells #[.int .i64 s, .slice none 0 0] 38)
  have t1 := At.alloc (w.alloc (.cells #[.int .i64 s, .slice a n c] 35)) #[.int .i64 0, .slice none 0 0] 38
  have t2 := At.alloc ((w.alloc (.cells #[.int .i64 s, .slice a n c] 35)).alloc (.cells #[.int .i64 0, .slice none 0 0] 38)) #[.int .i64 s, .slice none 0 0] 38
  rw [World.size_alloc] at t1
  rw [World.size_alloc, World.size_alloc] at t2
  have hbw := below_then (below_then b0 b1) b2
  have X0 := Lib.hid (And.intro (t1.keep (b2.block _ (by simp))) (And.intro t2 hbw))
  have HC := Lib.hid (c_toIntSS a n c l S0 _ (h.below Shp.ints_good hbw) hn hv)
  clear b0 b1 b2 t1 t2 h hbw
  go_enter Try.func18, Try.ntmps18
  go_wp2_with fail
  refine HC.out.mono ?_
  rintro e w1 ⟨v, rfl, hb1, S1, hO1⟩
  obtain ⟨a1, n1, c1, rfl⟩ := hO1.form
  have hz : w.heap.size + 1 + 1 + 1 ≤ w1.heap.size := by have := hb1.size; simpa using this
  have hR := X0.out.1.keep (hb1.block _ (by simp))
  have hP := X0.out.2.1.keep (hb1.block _ (by simp))
  have p0 := hP.c0
  have p1 := hP.c1
  have g1 := hP.f1
  have o0 := hR.c0
  have o1 := hR.c1
  have i0 := hR.f0
  have i1 := hR.f1
  have HE : Hid (∀ u x y : Value, ∃ S, Below w.heap.size w (((w1.setCell ⟨w.heap.size + 1 + 1, 1, none⟩ u).setCell ⟨w.heap.size + 1, 0, none⟩ x).setCell ⟨w.heap.size + 1, 1, none⟩ y) ∧ SliceRd Shp.ints (((w1.setCell ⟨w.heap.size + 1 + 1, 1, none⟩ u).setCell ⟨w.heap.size + 1, 0, none⟩ x).setCell ⟨w.heap.size + 1, 1, none⟩ y) a1 n1 c1 l S ∧ New w.heap.size S) := by
    intro u x y
    have hn1 : w.heap.size + 1 + 1 + 1 ≤ w1.heap.size := hz
    obtain ⟨_, _, _, S', hv', -, rd, nw, -⟩ := hO1.rd
    cases hv'
    have hnw : ∀ b ∈ S', w.heap.size + 1 + 1 + 1 ≤ b := fun b hb => by have := nw.2 b hb; simpa using this
    have hfr : Frm [w.heap.size + 1 + 1, w.heap.size + 1] w1 (((w1.setCell ⟨w.heap.size + 1 + 1, 1, none⟩ u).setCell ⟨w.heap.size + 1, 0, none⟩ x).setCell ⟨w.heap.size + 1, 1, none⟩ y) := (((Frm.refl _ _).setCell (by simp) _).setCell (by simp) _).setCell (by simp) _
    have hbb := below_then X0.out.2.2 hb1
    exact ⟨S', hbb.trans (hfr.to_below hbb.size (fun b hb => by simp at hb; omega)), rd.frm Shp.ints_good hfr (fun b hb hm => by have := hnw b hb; simp at hm; omega), nw.1, fun b hb => by have := hnw b hb; omega⟩
  clear hb1 hO1 HC hR hP
  go_wp2
  obtain ⟨S, hb, hr, hw⟩ := HE.out (.slice a1 n1 c1) (.int .i64 s) (.slice a1 n1 c1)
  exact bodyPost_ret (v := .agg #[.int .i64 s, .slice a1 n1 c1]) (by simp [results, Try.results18, go_sem, o0, o1]) rfl ⟨_, rfl, hb, a1, n1, c1, S, rfl, hr, hw⟩

theorem c_eqIntS_same (a1 : Option Addr) (n1 c1 : Nat) (l : List Int) (a2 : Option Addr) (n2 c2 : Nat) (w : World) (h1 : IntRow w a1 n1 l) (h2 : IntRow w a2 n2 l) :
    Calls Try.prog 15 #[.slice a1 n1 c1, .slice a2 n2 c2] w (Quiet w (.bool true)) := by
  have h := c_eqIntS a1 n1 c1 l a2 n2 c2 l w h1 h2
  rw [decide_eq_true rfl] at h
  exact h

set_option maxHeartbeats 1000000 in
theorem c_eqIntSS_same (a1 : Option Addr) (n1 c1 : Nat) (l : List (List Int)) (S1 : List Nat) (a2 : Option Addr) (n2 c2 : Nat) (S2 : List Nat) (w : World) (h1 : SliceRd Shp.ints w a1 n1 c1 l S1) (h2 : SliceRd Shp.ints w a2 n2 c2 l S2) :
    Calls Try.prog 53 #[.slice a1 n1 c1, .slice a2 n2 c2] w (Quiet w (.bool true)) := by
  have hm1 := h1.max
  obtain rfl : n1 = n2 := by rw [← h1.1, ← h2.1]
  have H1 := Lib.hid h1
  have H2 := Lib.hid h2
  clear h1 h2
  go_enter Try.func53, Try.ntmps53
  go_wp2
  go_loopw [5] (fun i wr => ∃ k : Nat, k ≤ n1 ∧ i = .int .i64 k ∧ ∃ m, wr = w.drewN m) (fun i _ => n1 - (intOf i).toNat)
  case atStart => exact ⟨0, Nat.zero_le _, rfl, 0, rfl⟩
  case round =>
    obtain ⟨k, hk, rfl, m, hw⟩ := hrel
    have hbw : Below w.heap.size w wr := by rw [hw]; exact below_drewN m (Below.refl _ _)
    have HW := Lib.hid hw
    clear hw
    by_cases hlt : k < n1
    · obtain ⟨b1, o1, cs1, T1, rfl, hb1, -, hat1, ⟨a3, n3, c3, rfl, hs3⟩, -⟩ := (H1.out.below Shp.ints_good hbw).at Shp.ints_good [] hlt
      obtain ⟨b2, o2, cs2, T2, rfl, hb2, -, hat2, ⟨a4, n4, c4, rfl, hs4⟩, -⟩ := (H2.out.below Shp.ints_good hbw).at Shp.ints_good [] hlt
      have q1 := (hat1 0 _ rfl).1
      have q2 := (hat2 0 _ rfl).1
      have e3 : Shp.ints.size = 1 := rfl
      rw [e3, Nat.mul_one, Nat.add_zero] at q1 q2
      have HR3 : Hid (∀ j, IntRow (wr.drewN j) a3 n3 (l[k]?.getD [])) := fun j => (hs3.below Shp.int_good (below_drewN j (Below.refl _ _))).row
      have HR4 : Hid (∀ j, IntRow (wr.drewN j) a4 n4 (l[k]?.getD [])) := fun j => (hs4.below Shp.int_good (below_drewN j (Below.refl _ _))).row
      clear hat1 hat2 hs3 hs4 hbw
      go_wp2
      go_quiet ((go_at_call 15; exact Calls.quiet_of (c_eqIntS_same a3 n3 c3 (l[k]?.getD []) a4 n4 c4 _ (HR3.out _) (HR4.out _))))
      go_wp2
      go_roundw
      case rel => exact ⟨k + 1, by omega, by go_num, by rw [HW.out]; exact drewN_two _ _ _⟩
      case measure => simp [intOf]; omega
    · go_wp2
      go_ret
      exact ⟨rfl, m, HW.out⟩

set_option maxHeartbeats 1000000 in
theorem c_eqSpace_same (s : Int) (a1 : Option Addr) (n1 c1 : Nat) (l : List (List Int)) (S1 : List Nat) (a2 : Option Addr) (n2 c2 : Nat) (S2 : List Nat) (w : World) (h1 : SliceRd Shp.ints w a1 n1 c1 l S1) (h2 : SliceRd Shp.ints w a2 n2 c2 l S2) :
    Calls Try.prog 20 #[.agg #[.int .i64 s, .slice a1 n1 c1], .agg #[.int .i64 s, .slice a2 n2 c2]] w (Ret w fun v _ => v = .bool true) := by
  have b0 := (Below.refl w.heap.size w).alloc (Nat.le_refl _) (.cells #[.int .i64 s, .slice a1 n1 c1] 38)
  have b1 := (Below.refl _ (w.alloc (.cells #[.int .i64 s, .slice a1 n1 c1] 38))).alloc (Nat.le_refl _) (.cells #[.int .i64 s, .slice a2 n2 c2] 38)
  have hb := below_then b0 b1
  have HB := Lib.hid hb
  have HC := Lib.hid (c_eqIntSS_same a1 n1 c1 l S1 a2 n2 c2 S2 _ (h1.below Shp.ints_good hb) (h2.below Shp.ints_good hb))
  have e1 : (s != s) = false := by simp
  clear b0 b1 hb h1 h2
  go_enter Try.func20, Try.ntmps20
  go_wp2_with (go_at_call 53; refine HC.out.mono ?_; rintro e w1 ⟨rfl, m, rfl⟩)
  go_ret
  exact ⟨_, rfl, below_drewN m HB.out, rfl⟩
end Go.Proofs.Ytpngpgbmkkjjgaa

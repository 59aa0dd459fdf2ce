/-
  Contracts of the reference: sums and intersections of what is no space; sums of spaces.
-/
import Derived.Test.YtpngpgbmkkjjgaaD7
import Derived.Test.YtpngpgbmkkjjgaaC25
namespace Go.Proofs.Ytpngpgbmkkjjgaa
open Go.RowKit

set_option maxRecDepth 20000 in
set_option maxHeartbeats 2000000 in
theorem c_AddSpaces_no (p : Int) (s1 s2 : Int) (a1 : Option Addr) (n1 c1 : Nat) (l1 : List (List Int)) (S1 : List Nat) (a2 : Option Addr) (n2 c2 : Nat) (l2 : List (List Int)) (S2 : List Nat) (w : World) (hp : fits p) (h1 : SliceRd Shp.ints w a1 n1 c1 l1 S1) (h2 : SliceRd Shp.ints w a2 n2 c2 l2 S2) (hno : areS p s1 l1 s2 l2 = false) :
    Calls Try.prog 48 #[.int .i64 p, .agg #[.int .i64 s1, .slice a1 n1 c1], .agg #[.int .i64 s2, .slice a2 n2 c2]] w (Ret w fun v _ => v = .tuple #[.agg #[.int .i64 0, .slice none 0 0], .bool false]) := by
  have b0 := (Below.refl w.heap.size w).alloc (Nat.le_refl _) (.cells #[.int .i64 s1, .slice a1 n1 c1] 38)
  have b1 := (Below.refl _ (w.alloc (.cells #[.int .i64 s1, .slice a1 n1 c1] 38))).alloc (Nat.le_refl _) (.cells #[.int .i64 s2, .slice a2 n2 c2] 38)
  have b2 := (Below.refl _ ((w.alloc (.cells #[.int .i64 s1, .slice a1 n1 c1] 38)).alloc (.cells #[.int .i64 s2, .slice a2 n2 c2] 38))).alloc (Nat.le_refl _) (.cells #[.int .i64 0, .slice none 0 0] 38)
  have t1 := At.alloc (w.alloc (.cells #[.int .i64 s1, .slice a1 n1 c1] 38)) #[.int .i64 s2, .slice a2 n2 c2] 38
  have t2 := At.alloc ((w.alloc (.cells #[.int .i64 s1, .slice a1 n1 c1] 38)).alloc (.cells #[.int .i64 s2, .slice a2 n2 c2] 38)) #[.int .i64 0, .slice none 0 0] 38
  rw [World.size_alloc] at t1
  rw [World.size_alloc, World.size_alloc] at t2
  have KEY : Hid (∀ wr, Below (((w.alloc (.cells #[.int .i64 s1, .slice a1 n1 c1] 38)).alloc (.cells #[.int .i64 s2, .slice a2 n2 c2] 38)).alloc (.cells #[.int .i64 0, .slice none 0 0] 38)).heap.size (((w.alloc (.cells #[.int .i64 s1, .slice a1 n1 c1] 38)).alloc (.cells #[.int .i64 s2, .slice a2 n2 c2] 38)).alloc (.cells #[.int .i64 0, .slice none 0 0] 38)) wr →
      Below w.heap.size w wr ∧ At wr w.heap.size 0 [.int .i64 s1, .slice a1 n1 c1] ∧ At wr (w.heap.size + 1) 0 [.int .i64 s2, .slice a2 n2 c2] ∧ At wr (w.heap.size + 1 + 1) 0 [.int .i64 0, .slice none 0 0] ∧ SliceRd Shp.ints wr a1 n1 c1 l1 S1 ∧ SliceRd Shp.ints wr a2 n2 c2 l2 S2 ∧ w.heap.size + 3 ≤ wr.heap.size) := by
    intro wr hb
    have hbw := below_then (below_then (below_then b0 b1) b2) hb
    exact ⟨hbw, (((At.alloc w _ _).keep (b1.block _ (by simp))).keep (b2.block _ (by simp; omega))).keep (hb.block _ (by simp; omega)), (t1.keep (b2.block _ (by simp))).keep (hb.block _ (by simp)), t2.keep (hb.block _ (by simp)), h1.below Shp.ints_good hbw, h2.below Shp.ints_good hbw, by have := hb.size; simp at this; omega⟩
  have HWZ : Hid (w.heap.size + 1 + 1 < (((w.alloc (.cells #[.int .i64 s1, .slice a1 n1 c1] 38)).alloc (.cells #[.int .i64 s2, .slice a2 n2 c2] 38)).alloc (.cells #[.int .i64 0, .slice none 0 0] 38)).heap.size) := by show _ < _; simp
  have HP := Lib.hid hp
  have K0 := KEY.out _ (Below.refl _ _)
  have q0 := K0.2.1.c0
  have q1 := K0.2.1.c1
  have HNO := Lib.hid hno
  have hC := c_spec_IsSpace p s1 a1 n1 c1 l1 S1 _ hp K0.2.2.2.2.1
  clear b0 b1 b2 t1 t2 h1 h2 K0 hno hp
  cases e1 : spaceV p s1 l1 with
  | false =>
    rw [e1] at hC
    have HC := Lib.hid hC
    clear hC e1
    go_enter Try.func48, Try.ntmps48
    go_wp2_with fail
    generalize ((w.alloc (.cells #[.int .i64 s1, .slice a1 n1 c1] 38)).alloc (.cells #[.int .i64 s2, .slice a2 n2 c2] 38)).alloc (.cells #[.int .i64 0, .slice none 0 0] 38) = W at *
    refine HC.out.mono ?_
    rintro e w1 ⟨r, rfl, hb1, rfl⟩
    have B1 := Lib.hid hb1
    have o0 := (KEY.out _ hb1).2.2.2.1.c0
    have o1 := (KEY.out _ hb1).2.2.2.1.c1
    have i0 := (KEY.out _ hb1).2.2.2.1.f0
    have i1 := (KEY.out _ hb1).2.2.2.1.f1
    clear hb1 q0 q1 HC
    go_wp2
    have K := KEY.out _ B1.out
    exact bodyPost_ret (v := .tuple #[.agg #[.int .i64 0, .slice none 0 0], .bool false]) (by simp [results, Try.results48, go_sem, o0, o1]) rfl ⟨_, rfl, (K.1.setCell (p := ⟨w.heap.size + 1 + 1, 0, none⟩) (by show w.heap.size ≤ w.heap.size + 1 + 1; omega) _).setCell (p := ⟨w.heap.size + 1 + 1, 1, none⟩) (by show w.heap.size ≤ w.heap.size + 1 + 1; omega) _, rfl⟩
  | true =>
    rw [e1] at hC
    have HC := Lib.hid hC
    have E1 := Lib.hid e1
    clear hC e1
    go_enter Try.func48, Try.ntmps48
    go_wp2_with fail
    generalize ((w.alloc (.cells #[.int .i64 s1, .slice a1 n1 c1] 38)).alloc (.cells #[.int .i64 s2, .slice a2 n2 c2] 38)).alloc (.cells #[.int .i64 0, .slice none 0 0] 38) = W at *
    refine HC.out.mono ?_
    rintro e w1 ⟨r, rfl, hb1, rfl⟩
    have B1 := Lib.hid hb1
    have K1 := KEY.out _ hb1
    have q0 := K1.2.1.c0
    have p0 := K1.2.2.1.c0
    have p1 := K1.2.2.1.c1
    have hC2 := c_spec_IsSpace p s2 a2 n2 c2 l2 S2 _ HP.out K1.2.2.2.2.2.1
    clear hb1 K1 HC q1
    cases e2 : spaceV p s2 l2 with
    | false =>
      rw [e2] at hC2
      have HC2 := Lib.hid hC2
      clear hC2 e2
      go_wp2_with fail
      refine HC2.out.mono ?_
      rintro e w2 ⟨r, rfl, hb2, rfl⟩
      have B2 := Lib.hid (below_then B1.out hb2)
      have o0 := (KEY.out _ B2.out).2.2.2.1.c0
      have o1 := (KEY.out _ B2.out).2.2.2.1.c1
      have i0 := (KEY.out _ B2.out).2.2.2.1.f0
      have i1 := (KEY.out _ B2.out).2.2.2.1.f1
      clear hb2 HC2 q0 p0 p1
      go_wp2
      have K := KEY.out _ B2.out
      exact bodyPost_ret (v := .tuple #[.agg #[.int .i64 0, .slice none 0 0], .bool false]) (by simp [results, Try.results48, go_sem, o0, o1]) rfl ⟨_, rfl, (K.1.setCell (p := ⟨w.heap.size + 1 + 1, 0, none⟩) (by show w.heap.size ≤ w.heap.size + 1 + 1; omega) _).setCell (p := ⟨w.heap.size + 1 + 1, 1, none⟩) (by show w.heap.size ≤ w.heap.size + 1 + 1; omega) _, rfl⟩
    | true =>
      rw [e2] at hC2
      have HC2 := Lib.hid hC2
      have hne : (s1 != s2) = true := by
        have h := HNO.out
        simp only [areS, E1.out, e2, Bool.true_and, decide_eq_false_iff_not] at h
        simpa using h
      clear hC2 e2
      go_wp2_with fail
      refine HC2.out.mono ?_
      rintro e w2 ⟨r, rfl, hb2, rfl⟩
      have B2 := Lib.hid (below_then B1.out hb2)
      have q0 := (KEY.out _ B2.out).2.1.c0
      have p0 := (KEY.out _ B2.out).2.2.1.c0
      have o0 := (KEY.out _ B2.out).2.2.2.1.c0
      have o1 := (KEY.out _ B2.out).2.2.2.1.c1
      have i0 := (KEY.out _ B2.out).2.2.2.1.f0
      have i1 := (KEY.out _ B2.out).2.2.2.1.f1
      clear hb2 HC2 p1
      go_wp2
      have K := KEY.out _ B2.out
      exact bodyPost_ret (v := .tuple #[.agg #[.int .i64 0, .slice none 0 0], .bool false]) (by simp [results, Try.results48, go_sem, o0, o1]) rfl ⟨_, rfl, (K.1.setCell (p := ⟨w.heap.size + 1 + 1, 0, none⟩) (by show w.heap.size ≤ w.heap.size + 1 + 1; omega) _).setCell (p := ⟨w.heap.size + 1 + 1, 1, none⟩) (by show w.heap.size ≤ w.heap.size + 1 + 1; omega) _, rfl⟩

set_option maxRecDepth 20000 in
set_option maxHeartbeats 2000000 in
theorem c_MeetSpaces_no (p : Int) (s1 s2 : Int) (a1 : Option Addr) (n1 c1 : Nat) (l1 : List (List Int)) (S1 : List Nat) (a2 : Option Addr) (n2 c2 : Nat) (l2 : List (List Int)) (S2 : List Nat) (w : World) (hp : fits p) (h1 : SliceRd Shp.ints w a1 n1 c1 l1 S1) (h2 : SliceRd Shp.ints w a2 n2 c2 l2 S2) (hno : areS p s1 l1 s2 l2 = false) :
    Calls Try.prog 49 #[.int .i64 p, .agg #[.int .i64 s1, .slice a1 n1 c1], .agg #[.int .i64 s2, .slice a2 n2 c2]] w (Ret w fun v _ => v = .tuple #[.agg #[.int .i64 0, .slice none 0 0], .bool false]) := by
  have b0 := (Below.refl w.heap.size w).alloc (Nat.le_refl _) (.cells #[.int .i64 s1, .slice a1 n1 c1] 38)
  have b1 := (Below.refl _ (w.alloc (.cells #[.int .i64 s1, .slice a1 n1 c1] 38))).alloc (Nat.le_refl _) (.cells #[.int .i64 s2, .slice a2 n2 c2] 38)
  have b2 := (Below.refl _ ((w.alloc (.cells #[.int .i64 s1, .slice a1 n1 c1] 38)).alloc (.cells #[.int .i64 s2, .slice a2 n2 c2] 38))).alloc (Nat.le_refl _) (.cells #[.int .i64 0, .slice none 0 0] 38)
  have t1 := At.alloc (w.alloc (.cells #[.int .i64 s1, .slice a1 n1 c1] 38)) #[.int .i64 s2, .slice a2 n2 c2] 38
  have t2 := At.alloc ((w.alloc (.cells #[.int .i64 s1, .slice a1 n1 c1] 38)).alloc (.cells #[.int .i64 s2, .slice a2 n2 c2] 38)) #[.int .i64 0, .slice none 0 0] 38
  rw [World.size_alloc] at t1
  rw [World.size_alloc, World.size_alloc] at t2
  have KEY : Hid (∀ wr, Below (((w.alloc (.cells #[.int .i64 s1, .slice a1 n1 c1] 38)).alloc (.cells #[.int .i64 s2, .slice a2 n2 c2] 38)).alloc (.cells #[.int .i64 0, .slice none 0 0] 38)).heap.size (((w.alloc (.cells #[.int .i64 s1, .slice a1 n1 c1] 38)).alloc (.cells #[.int .i64 s2, .slice a2 n2 c2] 38)).alloc (.cells #[.int .i64 0, .slice none 0 0] 38)) wr →
      Below w.heap.size w wr ∧ At wr w.heap.size 0 [.int .i64 s1, .slice a1 n1 c1] ∧ At wr (w.heap.size + 1) 0 [.int .i64 s2, .slice a2 n2 c2] ∧ At wr (w.heap.size + 1 + 1) 0 [.int .i64 0, .slice none 0 0] ∧ SliceRd Shp.ints wr a1 n1 c1 l1 S1 ∧ SliceRd Shp.ints wr a2 n2 c2 l2 S2 ∧ w.heap.size + 3 ≤ wr.heap.size) := by
    intro wr hb
    have hbw := below_then (below_then (below_then b0 b1) b2) hb
    exact ⟨hbw, (((At.alloc w _ _).keep (b1.block _ (by simp))).keep (b2.block _ (by simp; omega))).keep (hb.block _ (by simp; omega)), (t1.keep (b2.block _ (by simp))).keep (hb.block _ (by simp)), t2.keep (hb.block _ (by simp)), h1.below Shp.ints_good hbw, h2.below Shp.ints_good hbw, by have := hb.size; simp at this; omega⟩
  have HWZ : Hid (w.heap.size + 1 + 1 < (((w.alloc (.cells #[.int .i64 s1, .slice a1 n1 c1] 38)).alloc (.cells #[.int .i64 s2, .slice a2 n2 c2] 38)).alloc (.cells #[.int .i64 0, .slice none 0 0] 38)).heap.size) := by show _ < _; simp
  have HP := Lib.hid hp
  have K0 := KEY.out _ (Below.refl _ _)
  have q0 := K0.2.1.c0
  have q1 := K0.2.1.c1
  have HNO := Lib.hid hno
  have hC := c_spec_IsSpace p s1 a1 n1 c1 l1 S1 _ hp K0.2.2.2.2.1
  clear b0 b1 b2 t1 t2 h1 h2 K0 hno hp
  cases e1 : spaceV p s1 l1 with
  | false =>
    rw [e1] at hC
    have HC := Lib.hid hC
    clear hC e1
    go_enter Try.func49, Try.ntmps49
    go_wp2_with fail
    generalize ((w.alloc (.cells #[.int .i64 s1, .slice a1 n1 c1] 38)).alloc (.cells #[.int .i64 s2, .slice a2 n2 c2] 38)).alloc (.cells #[.int .i64 0, .slice none 0 0] 38) = W at *
    refine HC.out.mono ?_
    rintro e w1 ⟨r, rfl, hb1, rfl⟩
    have B1 := Lib.hid hb1
    have o0 := (KEY.out _ hb1).2.2.2.1.c0
    have o1 := (KEY.out _ hb1).2.2.2.1.c1
    have i0 := (KEY.out _ hb1).2.2.2.1.f0
    have i1 := (KEY.out _ hb1).2.2.2.1.f1
    clear hb1 q0 q1 HC
    go_wp2
    have K := KEY.out _ B1.out
    exact bodyPost_ret (v := .tuple #[.agg #[.int .i64 0, .slice none 0 0], .bool false]) (by simp [results, Try.results49, go_sem, o0, o1]) rfl ⟨_, rfl, (K.1.setCell (p := ⟨w.heap.size + 1 + 1, 0, none⟩) (by show w.heap.size ≤ w.heap.size + 1 + 1; omega) _).setCell (p := ⟨w.heap.size + 1 + 1, 1, none⟩) (by show w.heap.size ≤ w.heap.size + 1 + 1; omega) _, rfl⟩
  | true =>
    rw [e1] at hC
    have HC := Lib.hid hC
    have E1 := Lib.hid e1
    clear hC e1
    go_enter Try.func49, Try.ntmps49
    go_wp2_with fail
    generalize ((w.alloc (.cells #[.int .i64 s1, .slice a1 n1 c1] 38)).alloc (.cells #[.int .i64 s2, .slice a2 n2 c2] 38)).alloc (.cells #[.int .i64 0, .slice none 0 0] 38) = W at *
    refine HC.out.mono ?_
    rintro e w1 ⟨r, rfl, hb1, rfl⟩
    have B1 := Lib.hid hb1
    have K1 := KEY.out _ hb1
    have q0 := K1.2.1.c0
    have p0 := K1.2.2.1.c0
    have p1 := K1.2.2.1.c1
    have hC2 := c_spec_IsSpace p s2 a2 n2 c2 l2 S2 _ HP.out K1.2.2.2.2.2.1
    clear hb1 K1 HC q1
    cases e2 : spaceV p s2 l2 with
    | false =>
      rw [e2] at hC2
      have HC2 := Lib.hid hC2
      clear hC2 e2
      go_wp2_with fail
      refine HC2.out.mono ?_
      rintro e w2 ⟨r, rfl, hb2, rfl⟩
      have B2 := Lib.hid (below_then B1.out hb2)
      have o0 := (KEY.out _ B2.out).2.2.2.1.c0
      have o1 := (KEY.out _ B2.out).2.2.2.1.c1
      have i0 := (KEY.out _ B2.out).2.2.2.1.f0
      have i1 := (KEY.out _ B2.out).2.2.2.1.f1
      clear hb2 HC2 q0 p0 p1
      go_wp2
      have K := KEY.out _ B2.out
      exact bodyPost_ret (v := .tuple #[.agg #[.int .i64 0, .slice none 0 0], .bool false]) (by simp [results, Try.results49, go_sem, o0, o1]) rfl ⟨_, rfl, (K.1.setCell (p := ⟨w.heap.size + 1 + 1, 0, none⟩) (by show w.heap.size ≤ w.heap.size + 1 + 1; omega) _).setCell (p := ⟨w.heap.size + 1 + 1, 1, none⟩) (by show w.heap.size ≤ w.heap.size + 1 + 1; omega) _, rfl⟩
    | true =>
      rw [e2] at hC2
      have HC2 := Lib.hid hC2
      have hne : (s1 != s2) = true := by
        have h := HNO.out
        simp only [areS, E1.out, e2, Bool.true_and, decide_eq_false_iff_not] at h
        simpa using h
      clear hC2 e2
      go_wp2_with fail
      refine HC2.out.mono ?_
      rintro e w2 ⟨r, rfl, hb2, rfl⟩
      have B2 := Lib.hid (below_then B1.out hb2)
      have q0 := (KEY.out _ B2.out).2.1.c0
      have p0 := (KEY.out _ B2.out).2.2.1.c0
      have o0 := (KEY.out _ B2.out).2.2.2.1.c0
      have o1 := (KEY.out _ B2.out).2.2.2.1.c1
      have i0 := (KEY.out _ B2.out).2.2.2.1.f0
      have i1 := (KEY.out _ B2.out).2.2.2.1.f1
      clear hb2 HC2 p1
      go_wp2
      have K := KEY.out _ B2.out
      exact bodyPost_ret (v := .tuple #[.agg #[.int .i64 0, .slice none 0 0], .bool false]) (by simp [results, Try.results49, go_sem, o0, o1]) rfl ⟨_, rfl, (K.1.setCell (p := ⟨w.heap.size + 1 + 1, 0, none⟩) (by show w.heap.size ≤ w.heap.size + 1 + 1; omega) _).setCell (p := ⟨w.heap.size + 1 + 1, 1, none⟩) (by show w.heap.size ≤ w.heap.size + 1 + 1; omega) _, rfl⟩
end Go.Proofs.Ytpngpgbmkkjjgaa

/-
  Contracts: valid spaces, sums and intersections of three.
-/
import Derived.Test.YtpngpgbmkkjjgaaC23
namespace Go.Proofs.Ytpngpgbmkkjjgaa
open Go.RowKit

theorem fineV_area {p size : Int} {l : List (List Int)} : fineV p size l = (isF p && areV p size l) := by
  unfold fineV areV vecN
  simp only [Bool.and_assoc]

set_option maxRecDepth 20000 in
set_option maxHeartbeats 1000000 in
theorem c_impl_IsSpace (p size : Int) (a : Option Addr) (n c : Nat) (l : List (List Int)) (S : List Nat) (w : World) (hp : fits p) (h : SliceRd Shp.ints w a n c l S) :
    Calls Try.prog 104 #[.int .i64 p, .agg #[.int .i64 size, .slice a n c]] w (Ret w fun r _ => r = .bool (spaceV p size l)) := by
  have b0 := (Below.refl w.heap.size w).alloc (Nat.le_refl _) (.cells #[.int .i64 size, .slice a n c] 38)
  have KEY : Hid (∀ wr, Below (w.alloc (.cells #[.int .i64 size, .slice a n c] 38)).heap.size (w.alloc (.cells #[.int .i64 size, .slice a n c] 38)) wr → Below w.heap.size w wr ∧ At wr w.heap.size 0 [.int .i64 size, .slice a n c] ∧ SliceRd Shp.ints wr a n c l S) := by
    intro wr hb
    have hbw := below_then b0 hb
    exact ⟨hbw, (At.alloc w _ _).keep (hb.block _ (by simp)), h.below Shp.ints_good hbw⟩
  have q0 := (KEY.out _ (Below.refl _ _)).2.1.c0
  have q1 := (KEY.out _ (Below.refl _ _)).2.1.c1
  have HLn := Lib.hid h.1
  have HAV := Lib.hid (c_areVectors p size a n c l S _ hp (KEY.out _ (Below.refl _ _)).2.2)
  clear b0 h
  cases hf : isF p with
  | false =>
    have HF : Hid (spaceV p size l = false) := by show _ = _; simp [spaceV, fineV, hf]
    have hC := c_impl_IsField p (w.alloc (.cells #[.int .i64 size, .slice a n c] 38))
    rw [hf] at hC
    have HC := Lib.hid hC
    clear hC hf
    go_enter Try.func104, Try.ntmps104
    go_wp2_with (go_at_call 42; refine HC.out.mono ?_; rintro e w' ⟨rfl, rfl⟩)
    go_ret
    exact ⟨_, rfl, (KEY.out _ (Below.refl _ _)).1, by rw [HF.out]; rfl⟩
  | true =>
    have hC := c_impl_IsField p (w.alloc (.cells #[.int .i64 size, .slice a n c] 38))
    rw [hf] at hC
    have HC := Lib.hid hC
    have HP := Lib.hid hf
    clear hC hf
    cases ha : areV p size l with
    | false =>
      rw [ha] at HAV
      have HF : Hid (spaceV p size l = false) := by show _ = _; simp [spaceV, fineV_area, ha]
      clear ha
      go_enter Try.func104, Try.ntmps104
      go_wp2_with (first | (go_at_call 42; refine HC.out.mono ?_; rintro e w' ⟨rfl, rfl⟩) | (go_at_call 144; refine HAV.out.mono ?_; rintro e w1 ⟨r, rfl, hb, rfl⟩; have B1 := Lib.hid hb; clear hb))
      go_ret
      exact ⟨_, rfl, (KEY.out _ (by have : Hid _ := ‹Hid (Below _ _ _)›; exact this.out)).1, by rw [HF.out]; rfl⟩
    | true =>
      rw [ha] at HAV
      have hfine : fineV p size l = true := by rw [fineV_area, HP.out, ha]; rfl
      obtain ⟨-, m, rfl, hm8, hl16, hv⟩ := fineV_parts hfine
      have HSP : Hid (spaceV p (m : Int) l = decide (spanL p m l = l)) := by show _ = _; simp [spaceV, hfine]
      have HVP := Lib.hid hv
      have hn16 : n ≤ 16 := by have := HLn.out; omega
      clear ha hfine hv hl16
      go_enter Try.func104, Try.ntmps104
      go_wp2_with fail
      refine HC.out.mono ?_
      rintro e w' ⟨rfl, rfl⟩
      go_wp2_with fail
      generalize w.alloc (.cells #[.int .i64 m, .slice a n c] 38) = W at *
      refine HAV.out.mono ?_
      rintro e w1 ⟨r, rfl, hb1, rfl⟩
      have B1 := Lib.hid hb1
      have BD : Hid (Below W.heap.size W w1.drew) := below_dr hb1
      have HELD : Hid (∀ w', Below W.heap.size W w' → w'.cell? ⟨w.heap.size, 0, none⟩ = some (.int .i64 m) ∧ w'.cell? ⟨w.heap.size, 1, none⟩ = some (.slice a n c)) :=
        fun w' hb => ⟨(KEY.out _ hb).2.1.c0, (KEY.out _ hb).2.1.c1⟩
      have HSn := Lib.hid (c_span p m n a c l S w1.drew HP.out (KEY.out _ BD.out).2.2 (by omega) (by omega) HVP.out)
      clear hb1 q0 q1 HAV HC
      go_wp2
      go_region_held3 (fun w' => w'.cell? ⟨w.heap.size, 0, none⟩ = some (.int .i64 m) ∧ w'.cell? ⟨w.heap.size, 1, none⟩ = some (.slice a n c))
        (exact HELD.out _ (Hid.out (by assumption)))
        (first
          | (go_at_call 124; refine Calls.mono HSn.out ?_; rintro e w2 ⟨v, rfl, hb2, a4, n4, c4, S4, rfl, hO4⟩; obtain ⟨_, _, _, S5, hv5, -, rd5, -, -⟩ := hO4.rd; cases hv5; have B2 := Lib.hid (below_then BD.out hb2); have R5 := Lib.hid rd5; clear hb2 hO4 rd5)
          | (go_at_call 55; refine Calls.mono (c_impl_EqualSpaces m m _ _ _ (spanL p m l) S5 a n c l S _ R5.out (KEY.out _ B2.out).2.2) ?_; rintro e w3 ⟨v, rfl, hb3, rfl⟩; have B3 := Lib.hid (below_then B2.out hb3); clear hb3))
      go_wp2
      go_ret
      exact ⟨_, rfl, (KEY.out _ B3.out).1, by rw [HSP.out]; simp⟩

def areS (p : Int) (s1 : Int) (l1 : List (List Int)) (s2 : Int) (l2 : List (List Int)) : Bool := spaceV p s1 l1 && spaceV p s2 l2 && decide (s1 = s2)

set_option maxHeartbeats 1000000 in
theorem c_areSpaces (p s1 s2 : Int) (a1 : Option Addr) (n1 c1 : Nat) (l1 : List (List Int)) (S1 : List Nat) (a2 : Option Addr) (n2 c2 : Nat) (l2 : List (List Int)) (S2 : List Nat) (w : World) (hp : fits p) (h1 : SliceRd Shp.ints w a1 n1 c1 l1 S1) (h2 : SliceRd Shp.ints w a2 n2 c2 l2 S2) :
    Calls Try.prog 51 #[.int .i64 p, .agg #[.int .i64 s1, .slice a1 n1 c1], .agg #[.int .i64 s2, .slice a2 n2 c2]] w (Ret w fun r _ => r = .bool (areS p s1 l1 s2 l2)) := by
  have b0 := (Below.refl w.heap.size w).alloc (Nat.le_refl _) (.cells #[.int .i64 s1, .slice a1 n1 c1] 38)
  have b1 := (Below.refl _ (w.alloc (.cells #[.int .i64 s1, .slice a1 n1 c1] 38))).alloc (Nat.le_refl _) (.cells #[.int .i64 s2, .slice a2 n2 c2] 38)
  have t1 := At.alloc (w.alloc (.cells #[.int .i64 s1, .slice a1 n1 c1] 38)) #[.int .i64 s2, .slice a2 n2 c2] 38
  rw [World.size_alloc] at t1
  have KEY : Hid (∀ wr, Below ((w.alloc (.cells #[.int .i64 s1, .slice a1 n1 c1] 38)).alloc (.cells #[.int .i64 s2, .slice a2 n2 c2] 38)).heap.size ((w.alloc (.cells #[.int .i64 s1, .slice a1 n1 c1] 38)).alloc (.cells #[.int .i64 s2, .slice a2 n2 c2] 38)) wr →
      Below w.heap.size w wr ∧ At wr w.heap.size 0 [.int .i64 s1, .slice a1 n1 c1] ∧ At wr (w.heap.size + 1) 0 [.int .i64 s2, .slice a2 n2 c2] ∧ SliceRd Shp.ints wr a1 n1 c1 l1 S1 ∧ SliceRd Shp.ints wr a2 n2 c2 l2 S2) := by
    intro wr hb
    have hbw := below_then (below_then b0 b1) hb
    exact ⟨hbw, ((At.alloc w _ _).keep (b1.block _ (by simp))).keep (hb.block _ (by simp; omega)), t1.keep (hb.block _ (by simp)), h1.below Shp.ints_good hbw, h2.below Shp.ints_good hbw⟩
  have K0 := KEY.out _ (Below.refl _ _)
  have q0 := K0.2.1.c0
  have q1 := K0.2.1.c1
  have HP := Lib.hid hp
  have hC := c_impl_IsSpace p s1 a1 n1 c1 l1 S1 _ hp K0.2.2.2.1
  clear b0 b1 t1 h1 h2 K0
  cases e1 : spaceV p s1 l1 with
  | false =>
    rw [e1] at hC
    have HC := Lib.hid hC
    have HV : Hid (areS p s1 l1 s2 l2 = false) := by show _ = _; simp [areS, e1]
    clear hC e1
    go_enter Try.func51, Try.ntmps51
    go_wp2_with (go_at_call 104; refine HC.out.mono ?_; rintro e w1 ⟨r, rfl, hb, rfl⟩; have B1 := Lib.hid hb; clear hb)
    go_ret
    exact ⟨_, rfl, (KEY.out _ (by have : Hid _ := ‹Hid (Below _ _ _)›; exact this.out)).1, by rw [HV.out]; rfl⟩
  | true =>
    rw [e1] at hC
    have HC := Lib.hid hC
    have E1 := Lib.hid e1
    clear hC e1
    go_enter Try.func51, Try.ntmps51
    go_wp2_with fail
    generalize (w.alloc (.cells #[.int .i64 s1, .slice a1 n1 c1] 38)).alloc (.cells #[.int .i64 s2, .slice a2 n2 c2] 38) = W at *
    refine HC.out.mono ?_
    rintro e w1 ⟨r, rfl, hb1, rfl⟩
    have B1 := Lib.hid hb1
    have K1 := KEY.out _ hb1
    have q0 := K1.2.1.c0
    have p0 := K1.2.2.1.c0
    have p1 := K1.2.2.1.c1
    have hC2 := c_impl_IsSpace p s2 a2 n2 c2 l2 S2 _ HP.out K1.2.2.2.2
    clear hb1 K1 HC
    cases e2 : spaceV p s2 l2 with
    | false =>
      rw [e2] at hC2
      have HC2 := Lib.hid hC2
      have HV : Hid (areS p s1 l1 s2 l2 = false) := by show _ = _; simp [areS, e2]
      clear hC2 e2
      go_wp2_with (go_at_call 104; refine HC2.out.mono ?_; rintro e w2 ⟨r, rfl, hb, rfl⟩; have B2 := Lib.hid (below_then B1.out hb); clear hb)
      go_ret
      exact ⟨_, rfl, (KEY.out _ B2.out).1, by rw [HV.out]; rfl⟩
    | true =>
      rw [e2] at hC2
      have HC2 := Lib.hid hC2
      have HV : Hid (areS p s1 l1 s2 l2 = decide (s1 = s2)) := by show _ = _; simp [areS, e2, E1.out]
      clear hC2 e2
      go_wp2_with fail
      refine HC2.out.mono ?_
      rintro e w2 ⟨r, rfl, hb, rfl⟩
      have B2 := Lib.hid (below_then B1.out hb)
      have K2 := KEY.out _ B2.out
      have q0 := K2.2.1.c0
      have p0 := K2.2.2.1.c0
      clear hb K2
      go_wp2
      go_ret
      exact ⟨_, rfl, (KEY.out _ B2.out).1, by rw [HV.out]; first | rfl | simp⟩
end Go.Proofs.Ytpngpgbmkkjjgaa

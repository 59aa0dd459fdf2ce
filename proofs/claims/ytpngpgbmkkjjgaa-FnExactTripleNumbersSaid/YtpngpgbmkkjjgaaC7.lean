/-
  Contracts: dimensions, powers, zero matrices, counting representations.
-/
import Derived.Test.YtpngpgbmkkjjgaaC6
namespace Go.Proofs.Ytpngpgbmkkjjgaa
open Go.RowKit

theorem dimsV_parts {q : Quiver} {d : List Int} (h : dimsV q d = true) : quivV q = true ∧ (d.length : Int) = q.vertices ∧ d.all (fun x => inR x 0 4) = true ∧ sumW d ≤ 8 := by
  simp only [dimsV, Bool.and_eq_true, decide_eq_true_eq] at h
  exact ⟨h.1.1.1, h.1.1.2, h.1.2, h.2⟩

set_option maxHeartbeats 1000000 in
theorem c_impl_AreDims (cs : Array Value) (q : Quiver) (S : List Nat) (a : Option Addr) (n c : Nat) (d : List Int) (S' : List Nat) (w : World) (h : Shp.quiver.rd w cs.toList q S) (hd : SliceRd Shp.int w a n c d S') :
    Calls Try.prog 43 #[.agg cs, .slice a n c] w (Ret w fun v _ => v = .bool (dimsV q d)) := by
  have h0 := h
  obtain ⟨a1, n1, c1, a2, n2, c2, T1, T2, e1, f1, r1, r2, -⟩ := h
  obtain rfl := arr_of e1
  obtain ⟨qv, qs, qt⟩ := q
  have hl := hd.1
  have hm := hd.max
  have b0 : Below w.heap.size w (w.alloc (.cells #[.int .i64 qv, .slice a1 n1 c1, .slice a2 n2 c2] 27)) := (Below.refl _ _).alloc (Nat.le_refl _) _
  have HV : Hid (dimsV ⟨qv, qs, qt⟩ d = (quivV ⟨qv, qs, qt⟩ && decide ((n : Int) = qv) && d.all (fun x => inR x 0 4) && decide (sumW d ≤ 8))) := by
    show _ = _
    simp only [dimsV, hl]
  have HQ := Lib.hid (c_impl_IsQuiver _ _ _ _ (Shp.quiver_good.below h0 b0))
  have B0 := Lib.hid b0
  have RD := Lib.hid (hd.below Shp.int_good b0)
  have A0 := Lib.hid (At.alloc w #[.int .i64 qv, .slice a1 n1 c1, .slice a2 n2 c2] 27)
  clear r1 r2 e1 f1 b0 h0 hd hl
  have key : ∀ w1, Below (w.alloc (.cells #[.int .i64 qv, .slice a1 n1 c1, .slice a2 n2 c2] 27)).heap.size (w.alloc (.cells #[.int .i64 qv, .slice a1 n1 c1, .slice a2 n2 c2] 27)) w1 → w1.cell? ⟨w.heap.size, 0, none⟩ = some (.int .i64 qv) ∧ Hid (Below w.heap.size w w1 ∧ SliceRd Shp.int w1 a n c d S') := by
    intro w1 hb
    exact ⟨(A0.out.keep (hb.block _ (by simp))).c0, below_then B0.out hb, RD.out.below Shp.int_good hb⟩
  have KEY := Lib.hid key
  clear key
  go_enter Try.func43, Try.ntmps43
  go_wp2_with fail
  refine HQ.out.mono ?_
  rintro e w1 ⟨v, rfl, hb1, rfl⟩
  obtain ⟨q0, X1⟩ := KEY.out w1 hb1
  clear hb1
  cases hq : quivV ⟨qv, qs, qt⟩ with
  | false =>
    go_wp2
    go_ret
    exact ⟨_, rfl, X1.out.1, by rw [HV.out]; simp [hq]⟩
  | true =>
    cases e1 : ((n : Int) == qv) with
    | false =>
      have HN : Hid (¬ (n : Int) = qv) := by intro (h : (n : Int) = qv); simp [h] at e1
      go_wp2
      go_ret
      exact ⟨_, rfl, X1.out.1, by rw [HV.out]; simp [HN.out]⟩
    | true =>
      have HN : Hid ((n : Int) = qv) := by show _ = _; simpa using e1
      have HC := Lib.hid (c_allWithin a n c d 0 4 w1 X1.out.2.row)
      cases h3 : d.all (fun x => inR x 0 4) with
      | false =>
        have E3 := Lib.hid h3
        clear h3
        go_wp2_with (go_at_call 93; refine HC.out.mono ?_; rw [E3.out]; rintro e w2 ⟨v, rfl, hb2, rfl⟩; have X2 := Lib.hid (below_then X1.out.1 hb2); clear hb2)
        go_ret
        exact ⟨_, rfl, X2.out, by rw [HV.out, E3.out]; simp⟩
      | true =>
        have E3 := Lib.hid h3
        clear h3
        by_cases h8 : sumW d ≤ 8 <;> have H8 := Lib.hid h8
        · go_wp2_with (first | (go_at_call 93; refine HC.out.mono ?_; rw [E3.out]; rintro e w2 ⟨v, rfl, hb2, rfl⟩; have X2 := Lib.hid (And.intro (below_then X1.out.1 hb2) (c_sumOf a n c d w2 (X1.out.2.below Shp.int_good hb2).row)); clear hb2) | (go_at_call 94; refine X2.out.2.mono ?_; rintro e w3 ⟨rfl, rfl⟩))
          go_ret
          exact ⟨_, rfl, X2.out.1, by rw [HV.out, E3.out]; simp [hq, h8, HN.out]⟩
        · go_wp2_with (first | (go_at_call 93; refine HC.out.mono ?_; rw [E3.out]; rintro e w2 ⟨v, rfl, hb2, rfl⟩; have X2 := Lib.hid (And.intro (below_then X1.out.1 hb2) (c_sumOf a n c d w2 (X1.out.2.below Shp.int_good hb2).row)); clear hb2) | (go_at_call 94; refine X2.out.2.mono ?_; rintro e w3 ⟨rfl, rfl⟩))
          go_ret
          exact ⟨_, rfl, X2.out.1, by rw [HV.out, decide_eq_false (Int.not_le.2 H8.out)]; simp⟩

set_option maxHeartbeats 1000000 in
theorem c_spec_AreDims (cs : Array Value) (q : Quiver) (S : List Nat) (a : Option Addr) (n c : Nat) (d : List Int) (S' : List Nat) (w : World) (h : Shp.quiver.rd w cs.toList q S) (hd : SliceRd Shp.int w a n c d S') :
    Calls Try.prog 40 #[.agg cs, .slice a n c] w (Ret w fun v _ => v = .bool (dimsV q d)) := by
  have h0 := h
  obtain ⟨a1, n1, c1, a2, n2, c2, T1, T2, e1, f1, r1, r2, -⟩ := h
  obtain rfl := arr_of e1
  obtain ⟨qv, qs, qt⟩ := q
  have hl := hd.1
  have hm := hd.max
  have b0 : Below w.heap.size w (w.alloc (.cells #[.int .i64 qv, .slice a1 n1 c1, .slice a2 n2 c2] 27)) := (Below.refl _ _).alloc (Nat.le_refl _) _
  have HV : Hid (dimsV ⟨qv, qs, qt⟩ d = (quivV ⟨qv, qs, qt⟩ && decide ((n : Int) = qv) && d.all (fun x => inR x 0 4) && decide (sumW d ≤ 8))) := by
    show _ = _
    simp only [dimsV, hl]
  have HQ := Lib.hid (c_spec_IsQuiver _ _ _ _ (Shp.quiver_good.below h0 b0))
  have B0 := Lib.hid b0
  have HL := Lib.hid hl
  have RD := Lib.hid (hd.below Shp.int_good b0)
  have A0 := Lib.hid (At.alloc w #[.int .i64 qv, .slice a1 n1 c1, .slice a2 n2 c2] 27)
  clear r1 r2 e1 f1 b0 h0 hd hl
  have key : ∀ w1, Below (w.alloc (.cells #[.int .i64 qv, .slice a1 n1 c1, .slice a2 n2 c2] 27)).heap.size (w.alloc (.cells #[.int .i64 qv, .slice a1 n1 c1, .slice a2 n2 c2] 27)) w1 → w1.cell? ⟨w.heap.size, 0, none⟩ = some (.int .i64 qv) ∧ Hid (Below w.heap.size w w1 ∧ IntRow w1 a n d) := by
    intro w1 hb
    exact ⟨(A0.out.keep (hb.block _ (by simp))).c0, below_then B0.out hb, (RD.out.below Shp.int_good hb).row⟩
  have KEY := Lib.hid key
  clear key
  go_enter Try.func40, Try.ntmps40
  go_wp2_with fail
  refine HQ.out.mono ?_
  rintro e w1 ⟨v, rfl, hb1, rfl⟩
  obtain ⟨q0, X1⟩ := KEY.out w1 hb1
  clear hb1
  cases hq : quivV ⟨qv, qs, qt⟩ with
  | false =>
    go_wp2
    go_ret
    exact ⟨_, rfl, X1.out.1, by rw [HV.out]; simp [hq]⟩
  | true =>
    cases e1 : ((n : Int) == qv) with
    | false =>
      have HN : Hid (¬ (n : Int) = qv) := by intro (h : (n : Int) = qv); simp [h] at e1
      go_wp2
      go_ret
      exact ⟨_, rfl, X1.out.1, by rw [HV.out]; simp [HN.out]⟩
    | true =>
      have HN : Hid ((n : Int) = qv) := by show _ = _; simpa using e1
      have e1' : ((n : Int) != qv) = false := by simpa using e1
      go_wp2
      go_loop [5, 6] (fun s i => ∃ k : Nat, k ≤ n ∧ i = .int .i64 k ∧ s = .int .i64 (sumW (d.take k)) ∧ Hid (∀ j, j < k → inR (d[j]?.getD 0) 0 4 = true)) (fun _ i => n - (intOf i).toNat)
      case atStart => exact ⟨0, Nat.zero_le _, rfl, rfl, fun j hj => absurd hj (Nat.not_lt_zero _)⟩
      case round =>
        obtain ⟨k, hk, rfl, rfl, hall⟩ := hrel
        by_cases hlt : k < n
        · obtain ⟨b, off, rfl, hb, hc⟩ := X1.out.2.cell (by omega)
          have hck := (hc k hlt).1
          have HS : Hid (sumW (d.take (k + 1)) = wrap64 (sumW (d.take k) + d[k]?.getD 0)) := by rw [take_snoc d k 0 (by have := HL.out; omega)]; exact sumW_snoc _ _
          clear hc
          cases hin : inR (d[k]?.getD 0) 0 4 with
          | false =>
            have HB : Hid (dimsV ⟨qv, qs, qt⟩ d = false) := by show _ = _; rw [HV.out, all_false_get (p := fun x => inR x 0 4) (d := 0) (k := k) (by have := HL.out; omega) hin]; simp
            go_wp2_with (go_at_call 91; refine (c_l1In _ _ _ _).mono ?_; rintro e w' ⟨rfl, rfl⟩)
            go_ret
            exact ⟨_, rfl, X1.out.1, by rw [HB.out]; rfl⟩
          | true =>
            have HI := Lib.hid hin
            go_wp2_with (go_at_call 91; refine (c_l1In _ _ _ _).mono ?_; rintro e w' ⟨rfl, rfl⟩)
            go_round
            case rel =>
              refine ⟨k + 1, by omega, by go_num, by rw [HS.out], fun j hj => ?_⟩
              by_cases e : j = k
              · subst e; exact HI.out
              · exact hall.out j (by omega)
            case measure => simp [intOf]; omega
        · have e : k = n := by omega
          subst e
          have HB : Hid (dimsV ⟨qv, qs, qt⟩ d = decide (sumW (d.take k) ≤ 8)) := by
            show _ = _
            rw [HV.out, all_of_get (p := fun x => inR x 0 4) 0 (fun j hj => hall.out j (by have := HL.out; omega)), List.take_of_length_le (by have := HL.out; omega)]
            simp [hq, HN.out]
          go_wp2
          go_ret
          exact ⟨_, rfl, X1.out.1, by rw [HB.out]; rfl⟩

/-! ### powers -/

def powW (p : Int) : Nat → Int
  | 0 => 1
  | k + 1 => wrap64 (powW p k * p)

set_option maxHeartbeats 400000 in
theorem c_power (p n : Int) (w : World) (hn : fits n) :
    Calls Try.prog 46 #[.int .i64 p, .int .i64 n] w fun e w' => e = .returned (.int .i64 (powW p n.toNat)) ∧ w = w' := by
  obtain ⟨hn1, hn2⟩ := hn
  go_enter Try.func46, Try.ntmps46
  go_wp2
  go_loop [5, 7] (fun s i => ∃ k : Nat, k ≤ n.toNat ∧ i = .int .i64 k ∧ s = .int .i64 (powW p k)) (fun _ i => n.toNat - (intOf i).toNat)
  case atStart => exact ⟨0, Nat.zero_le _, rfl, rfl⟩
  case round =>
    obtain ⟨k, hk, rfl, rfl⟩ := hrel
    by_cases hlt : (k : Int) < n
    · go_wp2
      go_round
      case rel => exact ⟨k + 1, by omega, by go_num, rfl⟩
      case measure => simp [intOf]; omega
    · have HE : Hid (k = n.toNat) := by show _ = _; omega
      go_wp2
      go_ret
      exact ⟨ret_int (by rw [HE.out]), rfl⟩

set_option maxHeartbeats 400000 in
theorem c_l5Power (p n : Int) (w : World) (hn : fits n) :
    Calls Try.prog 41 #[.int .i64 p, .int .i64 n] w fun e w' => e = .returned (.int .i64 (powW p n.toNat)) ∧ w = w' := by
  obtain ⟨hn1, hn2⟩ := hn
  go_enter Try.func41, Try.ntmps41
  go_wp2
  go_loop [5, 6] (fun s i => ∃ k : Nat, k ≤ n.toNat ∧ i = .int .i64 k ∧ s = .int .i64 (powW p k)) (fun _ i => n.toNat - (intOf i).toNat)
  case atStart => exact ⟨0, Nat.zero_le _, rfl, rfl⟩
  case round =>
    obtain ⟨k, hk, rfl, rfl⟩ := hrel
    by_cases hlt : (k : Int) < n
    · go_wp2
      go_round
      case rel => exact ⟨k + 1, by omega, by go_num, rfl⟩
      case measure => simp [intOf]; omega
    · have HE : Hid (k = n.toNat) := by show _ = _; omega
      go_wp2
      go_ret
      exact ⟨ret_int (by rw [HE.out]), rfl⟩
end Go.Proofs.Ytpngpgbmkkjjgaa

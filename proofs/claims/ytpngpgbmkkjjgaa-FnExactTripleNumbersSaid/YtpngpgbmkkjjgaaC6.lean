/-
  Contracts: copies, quivers and dimensions.
-/
import Derived.Test.YtpngpgbmkkjjgaaC4
import Derived.Test.YtpngpgbmkkjjgaaC5
import Derived.Deep.RegionHeld3
namespace Go.Proofs.Ytpngpgbmkkjjgaa
open Go.RowKit

set_option maxHeartbeats 400000 in
theorem c_Clone_int (a : Option Addr) (n c : Nat) (l : List Int) (S0 : List Nat) (w : World) (h : SliceRd Shp.int w a n c l S0) (hn : n ≤ 1048576) :
    Calls Try.prog 96 #[.slice a n c] w (Ret w fun v w' => ∃ S, Own 3 Shp.int w' w.heap.size v l S) := by
  have hlen := h.1
  cases a with
  | none =>
    have hl : l = [] := by
      obtain ⟨_, _, _, h4⟩ := h
      rcases h4 with ⟨h, _⟩ | ⟨b, o, xs, T, _, ha, _⟩
      · exact h
      · cases ha
    clear h
    have hnil := fun wx => Lib.run_eql_slice_nil (P := Try.prog) wx 22 3 none n c 0 0 Try.underlying22
    go_enter Try.func96, Try.ntmps96
    go_wp2
    go_ret
    exact ⟨_, rfl, Below.refl _ _, [], by rw [hl]; exact Own.nil _ _ _ _⟩
  | some x =>
    have hnil := fun wx => Lib.run_eql_slice_nil (P := Try.prog) wx 22 3 (some x) n c 0 0 Try.underlying22
    have b1 : Below w.heap.size w (w.alloc (.cells #[] 3)) := (Below.refl _ _).alloc (Nat.le_refl _) _
    have HS : Hid (∃ xs T, (∀ j u, xs[j]? = some u → (w.alloc (.cells #[] 3)).cell? (x.add j) = some u) ∧ CellsRd Shp.int (w.alloc (.cells #[] 3)) xs l T ∧ T = []) := by
      obtain ⟨_, _, _, h4⟩ := h.below Shp.int_good b1
      rcases h4 with ⟨rfl, _⟩ | ⟨b, o, xs, T, _, ha, _, _, hat, hc⟩
      · exact ⟨[], [], by simp, ⟨rfl, rfl⟩, rfl⟩
      · cases ha
        exact ⟨xs, T, fun j u hu => by rw [Addr.add_lit]; exact (hat j u hu).1, hc, (cells_int_inv hc).2.1⟩
    obtain ⟨xs, T, hx, hc, rfl⟩ := HS.out
    have HX := Lib.hid (And.intro hx hc)
    have HL := Lib.hid hlen
    have HO := Lib.hid (Own.lit0 Shp.int 3 w (Nat.le_refl _))
    have B1 := Lib.hid b1
    clear h hx hc hlen HS b1
    go_enter Try.func96, Try.ntmps96
    go_wp2_with (at_builtin; refine wpList_app et_int Shp.int_good rfl (.tmp 5) (.tmp 6) rfl rfl HO.out (by simp) rfl HL.out HX.out.1 HX.out.2 (New.nil _) (by simp) (by simp; omega) (by simp; omega) ?_; intro v1 w1 S1 hO1 hF1 hS1; obtain ⟨a1, n1, c1, rfl⟩ := hO1.form; have X1 := Lib.hid (And.intro hO1 hF1); clear hO1 hF1 hS1)
    go_ret
    exact ⟨_, rfl, B1.out.trans (X1.out.2.to_below (by simp) (by simp)), _, X1.out.1⟩

/-! ### valid quivers and dimensions -/

def quivV (q : Quiver) : Bool := inR q.vertices 1 5 && decide (q.src.length = q.tgt.length) && decide (q.src.length ≤ 6) && q.src.all (fun x => inR x 0 (q.vertices - 1)) && q.tgt.all (fun x => inR x 0 (q.vertices - 1))
theorem quivV_parts {q : Quiver} (h : quivV q = true) : (1 ≤ q.vertices ∧ q.vertices ≤ 5) ∧ q.src.length = q.tgt.length ∧ q.src.length ≤ 6 ∧ q.src.all (fun x => inR x 0 (q.vertices - 1)) = true ∧ q.tgt.all (fun x => inR x 0 (q.vertices - 1)) = true := by
  simp only [quivV, Bool.and_eq_true, decide_eq_true_eq] at h
  exact ⟨inR_true h.1.1.1.1, h.1.1.1.2, h.1.1.2, h.1.2, h.2⟩

def dimsV (q : Quiver) (d : List Int) : Bool := quivV q && decide ((d.length : Int) = q.vertices) && d.all (fun x => inR x 0 4) && decide (sumW d ≤ 8)

set_option maxHeartbeats 1000000 in
theorem c_impl_IsQuiver (cs : Array Value) (q : Quiver) (S : List Nat) (w : World) (h : Shp.quiver.rd w cs.toList q S) :
    Calls Try.prog 92 #[.agg cs] w (Ret w fun v _ => v = .bool (quivV q)) := by
  obtain ⟨a1, n1, c1, a2, n2, c2, T1, T2, e1, f1, r1, r2, -⟩ := h
  obtain rfl := arr_of e1
  obtain ⟨qv, qs, qt⟩ := q
  simp only at r1 r2 f1
  have b0 : Below w.heap.size w (w.alloc (.cells #[.int .i64 qv, .slice a1 n1 c1, .slice a2 n2 c2] 27)) := (Below.refl _ _).alloc (Nat.le_refl _) _
  have hm1 := r1.max
  have hm2 := r2.max
  have HV : Hid (quivV ⟨qv, qs, qt⟩ = (inR qv 1 5 && decide (n1 = n2) && decide (n1 ≤ 6) && qs.all (fun x => inR x 0 (qv - 1)) && qt.all (fun x => inR x 0 (qv - 1)))) := by
    show _ = _
    simp only [quivV, r1.1, r2.1]
  have B0 := Lib.hid b0
  have R1 := Lib.hid (r1.row.below b0)
  have R2 := Lib.hid (r2.row.below b0)
  have A0 := Lib.hid (At.alloc w #[.int .i64 qv, .slice a1 n1 c1, .slice a2 n2 c2] 27)
  clear r1 r2 e1 f1 b0
  cases hin : inR qv 1 5 with
  | false =>
    go_enter Try.func92, Try.ntmps92
    go_wp2_with (go_at_call 136; refine (c_within _ _ _ _).mono ?_; rintro e w' ⟨rfl, rfl⟩)
    go_ret
    exact ⟨_, rfl, B0.out, by rw [HV.out]; simp [hin]⟩
  | true =>
    have hq1 := (inR_true hin).1
    have hq2 := (inR_true hin).2
    by_cases e1 : n1 = n2
    · subst e1
      by_cases e2 : n1 ≤ 6
      · have HC := Lib.hid (c_allWithin a1 n1 c1 qs 0 (qv - 1) _ R1.out)
        cases h3 : qs.all (fun x => inR x 0 (qv - 1)) with
        | false =>
          have E3 := Lib.hid h3
          clear h3
          go_enter Try.func92, Try.ntmps92
          go_wp2_with (first | (go_at_call 136; refine (c_within _ _ _ _).mono ?_; rintro e w' ⟨rfl, rfl⟩) | (go_at_call 93; refine HC.out.mono ?_; rw [E3.out]; rintro e w1 ⟨v, rfl, hb1, rfl⟩; have B1 := Lib.hid hb1; clear hb1))
          go_ret
          exact ⟨_, rfl, below_then B0.out (by assumption), by rw [HV.out, E3.out]; simp⟩
        | true =>
          have E3 := Lib.hid h3
          clear h3
          go_enter Try.func92, Try.ntmps92
          go_wp2_with (first | (go_at_call 136; refine (c_within _ _ _ _).mono ?_; rintro e w' ⟨rfl, rfl⟩))
          refine HC.out.mono ?_
          rw [E3.out]
          rintro e w1 ⟨v, rfl, hb1, rfl⟩
          have B1 := Lib.hid (below_then B0.out hb1)
          have hA := A0.out.keep (hb1.block _ (by simp))
          have q0 := hA.c0
          have q2 := hA.c2
          have HD := Lib.hid (c_allWithin a2 n1 c2 qt 0 (qv - 1) w1 (R2.out.below hb1))
          clear hb1 hA
          go_wp2_with fail
          refine HD.out.mono ?_
          rintro e w2 ⟨v, rfl, hb2, rfl⟩
          have B2 := Lib.hid (below_then B1.out hb2)
          clear hb2
          go_wp2
          go_ret
          exact ⟨_, rfl, B2.out, by rw [HV.out, E3.out]; simp [e2, hin]⟩
      · go_enter Try.func92, Try.ntmps92
        go_wp2_with (go_at_call 136; refine (c_within _ _ _ _).mono ?_; rintro e w' ⟨rfl, rfl⟩)
        go_ret
        exact ⟨_, rfl, B0.out, by rw [HV.out]; simp [e2]⟩
    · have e1' : ((n1 : Int) == n2) = false := by simp; omega
      go_enter Try.func92, Try.ntmps92
      go_wp2_with (go_at_call 136; refine (c_within _ _ _ _).mono ?_; rintro e w' ⟨rfl, rfl⟩)
      go_ret
      exact ⟨_, rfl, B0.out, by rw [HV.out]; simp [e1]⟩

set_option maxHeartbeats 2000000 in
theorem c_spec_IsQuiver (cs : Array Value) (q : Quiver) (S : List Nat) (w : World) (h : Shp.quiver.rd w cs.toList q S) :
    Calls Try.prog 90 #[.agg cs] w (Ret w fun v _ => v = .bool (quivV q)) := by
  obtain ⟨a1, n1, c1, a2, n2, c2, T1, T2, e1, f1, r1, r2, -⟩ := h
  obtain rfl := arr_of e1
  obtain ⟨qv, qs, qt⟩ := q
  simp only at r1 r2 f1
  have b0 : Below w.heap.size w (w.alloc (.cells #[.int .i64 qv, .slice a1 n1 c1, .slice a2 n2 c2] 27)) := (Below.refl _ _).alloc (Nat.le_refl _) _
  have hm1 := r1.max
  have hm2 := r2.max
  have HV : Hid (quivV ⟨qv, qs, qt⟩ = (inR qv 1 5 && decide (n1 = n2) && decide (n1 ≤ 6) && qs.all (fun x => inR x 0 (qv - 1)) && qt.all (fun x => inR x 0 (qv - 1)))) := by
    show _ = _
    simp only [quivV, r1.1, r2.1]
  have HU : Hid (inR qv 1 5 = true → wrap64 (qv - 1) = qv - 1) := by
    intro h
    have := inR_true h
    exact IntWalk.wrap64_in _ ⟨by omega, by omega⟩
  have L1 := Lib.hid r1.1
  have L2 := Lib.hid r2.1
  have B0 := Lib.hid b0
  have R1 := Lib.hid (r1.row.below b0)
  have R2 := Lib.hid (r2.row.below b0)
  have A0 := At.alloc w #[.int .i64 qv, .slice a1 n1 c1, .slice a2 n2 c2] 27
  have q0 := A0.c0
  have q1 := A0.c1
  have q2 := A0.c2
  clear r1 r2 e1 f1 b0 A0
  go_enter Try.func90, Try.ntmps90
  go_wp2
  generalize hW : w.alloc (.cells #[.int .i64 qv, .slice a1 n1 c1, .slice a2 n2 c2] 27) = W at *
  clear hW
  go_loopw [3] (fun i wr => ∃ k : Nat, k ≤ n1 ∧ k ≤ n2 ∧ i = .int .i64 k ∧ Hid ((∀ j, j < k → inR (qs[j]?.getD 0) 0 (wrap64 (qv - 1)) = true) ∧ (∀ j, j < k → inR (qt[j]?.getD 0) 0 (wrap64 (qv - 1)) = true)) ∧ ∃ m, wr = W.drewN m) (fun i _ => n1 - (intOf i).toNat)
  case atStart => exact ⟨0, Nat.zero_le _, Nat.zero_le _, rfl, ⟨fun j hj => absurd hj (Nat.not_lt_zero _), fun j hj => absurd hj (Nat.not_lt_zero _)⟩, 0, rfl⟩
  case round =>
    obtain ⟨k, hk, hk', rfl, hq, m, rfl⟩ := hrel
    by_cases hlt : k < n1
    · by_cases hlt2 : k < n2
      · obtain ⟨b1, off1, rfl, hb1, hc1⟩ := R1.out.cell (by omega)
        obtain ⟨b2, off2, rfl, hb2, hc2⟩ := R2.out.cell (by omega)
        have hck1 := (hc1 k hlt).1
        have hck2 := (hc2 k hlt2).1
        clear hc1 hc2
        cases hin : inR (qs[k]?.getD 0) 0 (wrap64 (qv - 1)) with
        | false =>
          have HB : Hid (quivV ⟨qv, qs, qt⟩ = false) := by
            show _ = _
            rw [HV.out]
            cases hq5 : inR qv 1 5 with
            | false => simp
            | true =>
              rw [HU.out hq5] at hin
              rw [all_false_get (p := fun x => inR x 0 (qv - 1)) (d := 0) (k := k) (by have := L1.out; omega) hin]
              simp
          go_wp2
          go_quiet ((go_at_call 91; exact (c_l1In _ _ _ _).mono fun _ _ h => ⟨h.1, _, h.2.symm⟩))
          go_wp2
          go_ret
          exact ⟨_, rfl, below_drewN _ (below_drewN _ B0.out), by rw [HB.out]; rfl⟩
        | true =>
          cases hin2 : inR (qt[k]?.getD 0) 0 (wrap64 (qv - 1)) with
          | false =>
            have HB : Hid (quivV ⟨qv, qs, qt⟩ = false) := by
              show _ = _
              rw [HV.out]
              cases hq5 : inR qv 1 5 with
              | false => simp
              | true =>
                rw [HU.out hq5] at hin2
                rw [all_false_get (p := fun x => inR x 0 (qv - 1)) (l := qt) (d := 0) (k := k) (by have := L2.out; omega) hin2]
                simp
            go_wp2
            go_quiet ((go_at_call 91; exact (c_l1In _ _ _ _).mono fun _ _ h => ⟨h.1, _, h.2.symm⟩))
            go_wp2
            go_ret
            exact ⟨_, rfl, below_drewN _ (below_drewN _ B0.out), by rw [HB.out]; rfl⟩
          | true =>
            have HI := Lib.hid hin
            have HI2 := Lib.hid hin2
            go_wp2
            go_quiet ((go_at_call 91; exact (c_l1In _ _ _ _).mono fun _ _ h => ⟨h.1, _, h.2.symm⟩))
            go_wp2
            go_roundw
            case rel =>
              refine ⟨k + 1, by omega, by omega, by go_num, ⟨fun j hj => ?_, fun j hj => ?_⟩, _, rfl⟩
              · by_cases e : j = k
                · subst e; exact HI.out
                · exact hq.out.1 j (by omega)
              · by_cases e : j = k
                · subst e; exact HI2.out
                · exact hq.out.2 j (by omega)
            case measure => simp [intOf]; omega
      · have HB : Hid (quivV ⟨qv, qs, qt⟩ = false) := by
          show _ = _
          rw [HV.out]
          simp [show n1 ≠ n2 by omega]
        have e21 : ((n2 : Int) == n1) = false := by simp; omega
        cases hin5 : inR qv 1 5 with
        | false =>
          go_wp2_with (go_at_call 91; refine (c_l1In _ _ _ _).mono ?_; rintro e w' ⟨rfl, rfl⟩)
          go_ret
          exact ⟨_, rfl, below_drewN _ B0.out, by rw [HB.out]; rfl⟩
        | true =>
          by_cases e6 : n1 ≤ 6
          · go_wp2_with (go_at_call 91; refine (c_l1In _ _ _ _).mono ?_; rintro e w' ⟨rfl, rfl⟩)
            go_ret
            exact ⟨_, rfl, below_drewN _ B0.out, by rw [HB.out]; rfl⟩
          · go_wp2_with (go_at_call 91; refine (c_l1In _ _ _ _).mono ?_; rintro e w' ⟨rfl, rfl⟩)
            go_ret
            exact ⟨_, rfl, below_drewN _ B0.out, by rw [HB.out]; rfl⟩
    · obtain rfl : k = n1 := by omega
      cases hin5 : inR qv 1 5 with
      | false =>
        go_wp2_with (go_at_call 91; refine (c_l1In _ _ _ _).mono ?_; rintro e w' ⟨rfl, rfl⟩)
        go_ret
        exact ⟨_, rfl, below_drewN _ B0.out, by rw [HV.out]; simp [hin5]⟩
      | true =>
        by_cases e6 : k ≤ 6
        · cases e21 : ((n2 : Int) == k) with
          | false =>
            have HB : Hid (k ≠ n2) := by
              show _ ≠ _
              rintro rfl
              simp at e21
            go_wp2_with (go_at_call 91; refine (c_l1In _ _ _ _).mono ?_; rintro e w' ⟨rfl, rfl⟩)
            go_ret
            exact ⟨_, rfl, below_drewN _ B0.out, by rw [HV.out]; simp [HB.out]⟩
          | true =>
            have HB : Hid (quivV ⟨qv, qs, qt⟩ = true) := by
              show _ = _
              have e3 : k = n2 := by simp at e21; omega
              rw [HV.out, hin5]
              have hu := HU.out hin5
              rw [hu] at hq
              have a1 := all_of_get (p := fun x => inR x 0 (qv - 1)) (l := qs) (d := 0) (fun j hj => hq.out.1 j (by have := L1.out; omega))
              have a2 := all_of_get (p := fun x => inR x 0 (qv - 1)) (l := qt) (d := 0) (fun j hj => hq.out.2 j (by have := L2.out; omega))
              rw [a1, a2]
              simp [e3]; omega
            go_wp2_with (go_at_call 91; refine (c_l1In _ _ _ _).mono ?_; rintro e w' ⟨rfl, rfl⟩)
            go_ret
            exact ⟨_, rfl, below_drewN _ B0.out, by rw [HB.out]; rfl⟩
        · go_wp2_with (go_at_call 91; refine (c_l1In _ _ _ _).mono ?_; rintro e w' ⟨rfl, rfl⟩)
          go_ret
          exact ⟨_, rfl, below_drewN _ B0.out, by rw [HV.out]; simp [e6]⟩
end Go.Proofs.Ytpngpgbmkkjjgaa

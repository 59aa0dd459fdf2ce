/-
  Contracts: quivers.
-/
import Derived.Test.YtfnmcjpbknnmjaaC1
namespace Go.Proofs.Ytfnmcjpbknnmjaa
open Go.RowKit

structure Quiver where
  vertices : Int
  src : List Int
  tgt : List Int
deriving DecidableEq

def Shp.quiver : Shp Quiver := ⟨3, fun w cs x S => ∃ a n c a' n' c' S1 S2, cs = [.int .i64 x.vertices, .slice a n c, .slice a' n' c'] ∧ fits x.vertices ∧ SliceRd Shp.int w a n c x.src S1 ∧ SliceRd Shp.int w a' n' c' x.tgt S2 ∧ S = S1 ++ S2⟩
theorem Shp.quiver_good : Shp.quiver.Good where
  pos := by simp [Shp.quiver]
  len := by rintro w cs x S ⟨a, n, c, a', n', c', S1, S2, rfl, _⟩; rfl
  one := by rintro w cs x S ⟨a, n, c, a', n', c', S1, S2, rfl, _⟩ u hu; simp at hu; rcases hu with rfl | rfl | rfl <;> rfl
  keep := by
    rintro w w' cs x S ⟨a, n, c, a', n', c', S1, S2, h, hf, h1, h2, rfl⟩ hk
    exact ⟨a, n, c, a', n', c', S1, S2, h, hf, h1.keep Shp.int_good (fun b hb => hk b (by simp [hb])), h2.keep Shp.int_good (fun b hb => hk b (by simp [hb])), rfl⟩
  lt := by
    rintro w cs x S ⟨a, n, c, a', n', c', S1, S2, h, hf, h1, h2, rfl⟩ b hb
    rcases List.mem_append.1 hb with h' | h'
    · exact h1.lt Shp.int_good b h'
    · exact h2.lt Shp.int_good b h'

/-- What StarOf returns. -/
def starV (n : Int) : Quiver := if inR n 1 4 then ⟨n + 1, (List.range n.toNat).map fun i : Nat => (i : Int), List.replicate n.toNat n⟩ else ⟨0, [], []⟩

set_option maxHeartbeats 1000000 in
theorem c_impl_StarOf (n : Int) (w : World) :
    Calls Try.prog 14 #[.int .i64 n] w (Ret w fun v w' => ∃ cs S, v = .tuple #[.agg cs, .bool (inR n 1 4)] ∧ Shp.quiver.rd w' cs.toList (starV n) S ∧ New w.heap.size S) := by
  cases hin : inR n 1 4 with
  | false =>
    have HV : Hid (starV n = ⟨0, [], []⟩) := by show _ = _; simp [starV, hin]
    go_enter Try.func14, Try.ntmps14
    go_wp2_with (go_at_call 21; refine (c_within _ _ _ _).mono ?_; rintro e w' ⟨rfl, rfl⟩)
    refine bodyPost_ret (v := .tuple #[.agg #[.int .i64 0, .slice none 0 0, .slice none 0 0], .bool false]) (by simp [results, Try.results14, go_sem]) rfl ⟨_, rfl, (Below.refl _ _).alloc (Nat.le_refl _) _, _, [], rfl, ?_, New.nil _⟩
    rw [HV.out]
    exact ⟨_, _, _, _, _, _, _, _, rfl, by simp [fits], ⟨rfl, Nat.le_refl _, Nat.zero_le _, .inl ⟨rfl, rfl⟩⟩, ⟨rfl, Nat.le_refl _, Nat.zero_le _, .inl ⟨rfl, rfl⟩⟩, rfl⟩
  | true =>
    obtain ⟨k, rfl⟩ : ∃ k : Nat, n = k := ⟨n.toNat, by have := inR_true hin; omega⟩
    have hk1 := (inR_true hin).1
    have hk4 := (inR_true hin).2
    go_enter Try.func14, Try.ntmps14
    go_wp2_with (go_at_call 21; refine (c_within _ _ _ _).mono ?_; rintro e w' ⟨rfl, rfl⟩)
    have HI : Hid (At ((w.alloc (.cells #[.int .i64 0, .slice none 0 0, .slice none 0 0] 29)).alloc (.cells #[.int .i64 (k + 1), .slice none 0 0, .slice none 0 0] 29)) w.heap.size 0 [.int .i64 0, .slice none 0 0, .slice none 0 0]) :=
      (At.alloc w #[.int .i64 0, .slice none 0 0, .slice none 0 0] 29).keep (Below.heap_alloc _ _ _ (by simp))
    go_loopw [5, 14] (fun _ i wr => ∃ (j : Nat) (aF aT : Option Addr) (nF cF nT cT : Nat) (SF ST : List Nat), j ≤ k ∧ i = .int .i64 j ∧ w.heap.size + 2 ≤ wr.heap.size ∧
      Hid (At wr (w.heap.size + 1) 0 [.int .i64 (k + 1), .slice aF nF cF, .slice aT nT cT] ∧ At wr w.heap.size 0 [.int .i64 0, .slice none 0 0, .slice none 0 0] ∧
        Own 3 Shp.int wr (w.heap.size + 2) (.slice aF nF cF) ((List.range j).map fun i : Nat => (i : Int)) SF ∧ Own 3 Shp.int wr (w.heap.size + 2) (.slice aT nT cT) (List.replicate j (k : Int)) ST ∧ (∀ b ∈ SF, b ∉ ST) ∧ Below w.heap.size w wr)) (fun _ i _ => k - (intOf i).toNat)
    case atStart =>
      refine ⟨0, none, none, 0, 0, 0, 0, [], [], Nat.zero_le _, rfl, by simp, ?_, HI.out, Own.nil _ _ _ _, Own.nil _ _ _ _, by simp, ((Below.refl _ _).alloc (Nat.le_refl _) _).alloc (by simp) _⟩
      have := At.alloc (w.alloc (.cells #[.int .i64 0, .slice none 0 0, .slice none 0 0] 29)) #[.int .i64 (k + 1), .slice none 0 0, .slice none 0 0] 29
      rw [World.size_alloc] at this
      exact this
    case round =>
      obtain ⟨j, aF, aT, nF, cF, nT, cT, SF, ST, hj, rfl, hsz, H⟩ := hrel
      have hq0 := H.out.1.c0
      have hq1 := H.out.1.c1
      have hq2 := H.out.1.c2
      have hf1 := H.out.1.f1
      have hf2 := H.out.1.f2
      have hfj : fits (j : Int) := by unfold fits; omega
      have hfk : fits (k : Int) := by unfold fits; omega
      by_cases hlt : j < k
      · go_wp2_with (first
          | (at_builtin; refine wpList_app1 et_int Shp.int_good rfl (.tmp 18) (.tmp 20) rfl rfl H.out.2.2.1 hsz rfl (by rfl) ⟨rfl, rfl, hfj⟩ (New.nil _) (by simp) (by simp; omega) (by simp; omega) ?_; intro v1 w1 S1 hO1 hF1 hS1; obtain ⟨a1, n1, c1, rfl⟩ := hO1.form; have hA1 := H.out.1.frm hF1 (by omega) (H.out.2.2.1.off (by omega)); have hR1 := H.out.2.1.frm hF1 (by omega) (H.out.2.2.1.off (by omega)); have hT1 := H.out.2.2.2.1.frm Shp.int_good hF1 (fun b hb hm => H.out.2.2.2.2.1 b hm hb); have hz1 := hF1.size; have hr0 := hA1.c0; have hr1 := hA1.c1; have hr2 := hA1.c2; have hs1 := hA1.f1; have hs2 := hA1.f2; have X1 := Lib.hid (And.intro hO1 (And.intro hF1 (And.intro hS1 (And.intro hA1 (And.intro hR1 hT1))))); clear hO1 hF1 hS1 hA1 hR1 hT1)
          | (at_builtin; go_must (refine wpList_app1 et_int Shp.int_good rfl (.tmp 24) (.tmp 26) rfl rfl (X1.out.2.2.2.2.2.setOff Shp.int_good (p := ⟨w.heap.size + 1, 1, none⟩) (X1.out.2.2.2.2.2.off (Nat.lt_succ_self _)) (.slice a1 n1 c1)) (by simp; omega) rfl (by simp) ⟨rfl, rfl, hfk⟩ (New.nil _) (by simp) (by simp; omega) (by simp; omega) ?_); intro v2 w2 S2 hO2 hF2 hS2; obtain ⟨a2, n2, c2, rfl⟩ := hO2.form; have hA2 : At w2 (w.heap.size + 1) 0 [.int .i64 (k + 1), .slice a1 n1 c1, .slice aT nT cT] := (X1.out.2.2.2.1.set 1 (.slice a1 n1 c1) (by simp)).frm hF2 (by simp; omega) (X1.out.2.2.2.2.2.off (by omega)); have hz2 := hF2.size; have ht0 := hA2.c0; have ht1 := hA2.c1; have ht2 := hA2.c2; have hu1 := hA2.f1; have hu2 := hA2.f2; have X2 := Lib.hid (And.intro hO2 (And.intro hF2 (And.intro hS2 hA2))); clear hO2 hF2 hS2 hA2))
        rw [World.size_setCell] at hz2
        go_roundw
        case rel =>
          obtain ⟨hO1, hF1, hS1, hA1, hR1, hT1⟩ := X1.out
          obtain ⟨hO2, hF2, hS2, hA2⟩ := X2.out
          obtain ⟨hAw, hRw, hFw, hTw, hdw, hbw⟩ := H.out
          have hlt1 : ∀ b ∈ S1, b < w1.heap.size := hO1.lt Shp.int_good
          have hd12 : ∀ b ∈ S1, b ∉ ST := by
            intro b hb hm
            rcases hS1 b hb with h | h | h
            · exact hdw b h hm
            · cases h
            · have := hTw.lt Shp.int_good b hm; omega
          refine ⟨j + 1, a1, a2, n1, c1, n2, c2, S1, S2, by omega, by go_num, by simp; omega, ?_, ?_, ?_, ?_, ?_, ?_⟩
          · exact hA2.set 2 (.slice a2 n2 c2) (by simp)
          · exact (((hR1.setOff (p := ⟨w.heap.size + 1, 1, none⟩) (by simp) _).frm hF2 (by simp; omega) (hT1.off (by omega))).setOff (by simp) _)
          · have := ((hO1.setOff Shp.int_good (p := ⟨w.heap.size + 1, 1, none⟩) (hO1.off (by simp)) (.slice a1 n1 c1)).frm Shp.int_good hF2 hd12).setOff Shp.int_good (p := ⟨w.heap.size + 1, 2, none⟩) (hO1.off (by simp)) (.slice a2 n2 c2)
            rw [List.range_succ, List.map_append]
            exact this
          · have := hO2.setOff Shp.int_good (p := ⟨w.heap.size + 1, 2, none⟩) (hO2.off (by simp)) (.slice a2 n2 c2)
            rw [List.replicate_succ']
            exact this
          · intro b hb hm
            rcases hS2 b hm with h | h | h
            · exact hd12 b hb h
            · cases h
            · have := hlt1 b hb; rw [World.size_setCell] at h; omega
          · refine ((hbw.trans (hF1.to_below (by omega) (fun b hb => by have := hFw.new.2 b hb; omega))).setCell (by simp) _).trans (hF2.to_below (by simp; omega) (fun b hb => by have := hTw.new.2 b hb; omega)) |>.setCell (by simp) _
        case measure => simp [intOf]; omega
      · have hR0 := H.out.2.1.c0
        have hR1 := H.out.2.1.c1
        have hR2 := H.out.2.1.c2
        have gR0 := H.out.2.1.f0
        have gR1 := H.out.2.1.f1
        have gR2 := H.out.2.1.f2
        have e : j = k := by omega
        subst e
        have HV : Hid (starV j = ⟨(j : Int) + 1, (List.range j).map fun i : Nat => (i : Int), List.replicate j (j : Int)⟩) := by show _ = _; simp [starV, hin]
        have HE : Hid (∀ x y z : Value, ∃ S, Below w.heap.size w (((wr.setCell ⟨w.heap.size, 0, none⟩ x).setCell ⟨w.heap.size, 1, none⟩ y).setCell ⟨w.heap.size, 2, none⟩ z) ∧
            Shp.quiver.rd (((wr.setCell ⟨w.heap.size, 0, none⟩ x).setCell ⟨w.heap.size, 1, none⟩ y).setCell ⟨w.heap.size, 2, none⟩ z) [.int .i64 (j + 1), .slice aF nF cF, .slice aT nT cT] (starV j) S ∧ New w.heap.size S) := by
          intro x y z
          obtain ⟨hAw, hRw, hFw, hTw, hdw, hbw⟩ := H.out
          obtain ⟨_, _, _, S1', hv1, -, rd1, new1, sub1⟩ := hFw.rd
          obtain ⟨_, _, _, S2', hv2, -, rd2, new2, sub2⟩ := hTw.rd
          cases hv1
          cases hv2
          have hfr : Frm [w.heap.size] wr (((wr.setCell ⟨w.heap.size, 0, none⟩ x).setCell ⟨w.heap.size, 1, none⟩ y).setCell ⟨w.heap.size, 2, none⟩ z) := (((Frm.refl _ _).setCell (by simp) _).setCell (by simp) _).setCell (by simp) _
          refine ⟨S1' ++ S2', ((hbw.setCell (Nat.le_refl _) _).setCell (Nat.le_refl _) _).setCell (Nat.le_refl _) _, ?_, ?_⟩
          · rw [HV.out]
            refine ⟨_, _, _, _, _, _, S1', S2', rfl, (by show fits ((j : Int) + 1); unfold fits; omega), rd1.frm Shp.int_good hfr (fun b hb hm => ?_), rd2.frm Shp.int_good hfr (fun b hb hm => ?_), rfl⟩
            · have := new1.2 b hb; simp at hm; omega
            · have := new2.2 b hb; simp at hm; omega
          · exact New.append (new1.mono (by omega)) (new2.mono (by omega)) (fun b hb hm => hdw b (sub1 b hb) (sub2 b hm))
        go_wp2
        obtain ⟨S, hb, hr, hn⟩ := HE.out (.int .i64 (j + 1)) (.slice aF nF cF) (.slice aT nT cT)
        exact bodyPost_ret (v := .tuple #[.agg #[.int .i64 (j + 1), .slice aF nF cF, .slice aT nT cT], .bool true]) (by simp [results, Try.results14, go_sem, hR0, hR1, hR2]) rfl ⟨_, rfl, hb, _, S, rfl, hr, hn⟩

set_option maxHeartbeats 1000000 in
theorem c_spec_StarOf (n : Int) (w : World) :
    Calls Try.prog 13 #[.int .i64 n] w (Ret w fun v w' => ∃ cs S, v = .tuple #[.agg cs, .bool (inR n 1 4)] ∧ Shp.quiver.rd w' cs.toList (starV n) S ∧ New w.heap.size S) := by
  cases hin : inR n 1 4 with
  | false =>
    have HV : Hid (starV n = ⟨0, [], []⟩) := by show _ = _; simp [starV, hin]
    go_enter Try.func13, Try.ntmps13
    go_wp2_with (go_at_call 20; refine (c_l1In _ _ _ _).mono ?_; rintro e w' ⟨rfl, rfl⟩)
    refine bodyPost_ret (v := .tuple #[.agg #[.int .i64 0, .slice none 0 0, .slice none 0 0], .bool false]) (by simp [results, Try.results13, go_sem]) rfl ⟨_, rfl, (Below.refl _ _).alloc (Nat.le_refl _) _, _, [], rfl, ?_, New.nil _⟩
    rw [HV.out]
    exact ⟨_, _, _, _, _, _, _, _, rfl, by simp [fits], ⟨rfl, Nat.le_refl _, Nat.zero_le _, .inl ⟨rfl, rfl⟩⟩, ⟨rfl, Nat.le_refl _, Nat.zero_le _, .inl ⟨rfl, rfl⟩⟩, rfl⟩
  | true =>
    obtain ⟨k, rfl⟩ : ∃ k : Nat, n = k := ⟨n.toNat, by have := inR_true hin; omega⟩
    have hk1 := (inR_true hin).1
    have hk4 := (inR_true hin).2
    go_enter Try.func13, Try.ntmps13
    go_wp2_with (go_at_call 20; refine (c_l1In _ _ _ _).mono ?_; rintro e w' ⟨rfl, rfl⟩)
    have HI : Hid (At ((((w.alloc (.cells #[.int .i64 0, .slice none 0 0, .slice none 0 0] 29)).alloc (.cells #[] 3)).alloc (.cells #[] 3)).alloc (.cells #[.int .i64 (k + 1), .slice (some ⟨w.heap.size + 1, 0, none⟩) 0 0, .slice (some ⟨w.heap.size + 1 + 1, 0, none⟩) 0 0] 29)) w.heap.size 0 [.int .i64 0, .slice none 0 0, .slice none 0 0] ∧ Own 3 Shp.int ((((w.alloc (.cells #[.int .i64 0, .slice none 0 0, .slice none 0 0] 29)).alloc (.cells #[] 3)).alloc (.cells #[] 3)).alloc (.cells #[.int .i64 (k + 1), .slice (some ⟨w.heap.size + 1, 0, none⟩) 0 0, .slice (some ⟨w.heap.size + 1 + 1, 0, none⟩) 0 0] 29)) (w.heap.size + 1) (.slice (some ⟨w.heap.size + 1, 0, none⟩) 0 0) [] [w.heap.size + 1] ∧ Own 3 Shp.int ((((w.alloc (.cells #[.int .i64 0, .slice none 0 0, .slice none 0 0] 29)).alloc (.cells #[] 3)).alloc (.cells #[] 3)).alloc (.cells #[.int .i64 (k + 1), .slice (some ⟨w.heap.size + 1, 0, none⟩) 0 0, .slice (some ⟨w.heap.size + 1 + 1, 0, none⟩) 0 0] 29)) (w.heap.size + 1) (.slice (some ⟨w.heap.size + 1 + 1, 0, none⟩) 0 0) [] [w.heap.size + 1 + 1] ∧ Below w.heap.size w ((((w.alloc (.cells #[.int .i64 0, .slice none 0 0, .slice none 0 0] 29)).alloc (.cells #[] 3)).alloc (.cells #[] 3)).alloc (.cells #[.int .i64 (k + 1), .slice (some ⟨w.heap.size + 1, 0, none⟩) 0 0, .slice (some ⟨w.heap.size + 1 + 1, 0, none⟩) 0 0] 29))) := by
      have b0 : Below w.heap.size w (w.alloc (.cells #[.int .i64 0, .slice none 0 0, .slice none 0 0] 29)) := (Below.refl _ _).alloc (Nat.le_refl _) _
      have b1 := (Below.refl (w.alloc (.cells #[.int .i64 0, .slice none 0 0, .slice none 0 0] 29)).heap.size (w.alloc (.cells #[.int .i64 0, .slice none 0 0, .slice none 0 0] 29))).alloc (Nat.le_refl _) (.cells #[] 3)
      have b2 := (Below.refl ((w.alloc (.cells #[.int .i64 0, .slice none 0 0, .slice none 0 0] 29)).alloc (.cells #[] 3)).heap.size ((w.alloc (.cells #[.int .i64 0, .slice none 0 0, .slice none 0 0] 29)).alloc (.cells #[] 3))).alloc (Nat.le_refl _) (.cells #[] 3)
      have b3 := (Below.refl (((w.alloc (.cells #[.int .i64 0, .slice none 0 0, .slice none 0 0] 29)).alloc (.cells #[] 3)).alloc (.cells #[] 3)).heap.size (((w.alloc (.cells #[.int .i64 0, .slice none 0 0, .slice none 0 0] 29)).alloc (.cells #[] 3)).alloc (.cells #[] 3))).alloc (Nat.le_refl _) (.cells #[.int .i64 (k + 1), .slice (some ⟨w.heap.size + 1, 0, none⟩) 0 0, .slice (some ⟨w.heap.size + 1 + 1, 0, none⟩) 0 0] 29)
      have o1 := Own.lit0 Shp.int 3 (w.alloc (.cells #[.int .i64 0, .slice none 0 0, .slice none 0 0] 29)) (B := w.heap.size + 1) (by simp)
      have o2 := Own.lit0 Shp.int 3 ((w.alloc (.cells #[.int .i64 0, .slice none 0 0, .slice none 0 0] 29)).alloc (.cells #[] 3)) (B := w.heap.size + 1) (by simp)
      simp only [World.size_alloc] at o1 o2
      refine ⟨?_, (o1.below Shp.int_good b2).below Shp.int_good b3, o2.below Shp.int_good b3, below_then (below_then (below_then b0 b1) b2) b3⟩
      have h0 := At.alloc w #[.int .i64 0, .slice none 0 0, .slice none 0 0] 29
      exact ((h0.keep (b1.block _ (by simp))).keep (b2.block _ (by simp; omega))).keep (b3.block _ (by simp; omega))
    go_loopw [5] (fun i wr => ∃ (j : Nat) (aF aT : Option Addr) (nF cF nT cT : Nat) (SF ST : List Nat), j ≤ k ∧ i = .int .i64 j ∧ w.heap.size + 1 + 1 + 1 + 1 ≤ wr.heap.size ∧
      Hid (At wr (w.heap.size + 1 + 1 + 1) 0 [.int .i64 (k + 1), .slice aF nF cF, .slice aT nT cT] ∧ At wr w.heap.size 0 [.int .i64 0, .slice none 0 0, .slice none 0 0] ∧
        Own 3 Shp.int wr (w.heap.size + 1) (.slice aF nF cF) ((List.range j).map fun i : Nat => (i : Int)) SF ∧ Own 3 Shp.int wr (w.heap.size + 1) (.slice aT nT cT) (List.replicate j (k : Int)) ST ∧ (∀ b ∈ SF, b ∉ ST) ∧ Below w.heap.size w wr ∧ (w.heap.size + 1 + 1 + 1) ∉ SF ∧ (w.heap.size + 1 + 1 + 1) ∉ ST)) (fun i _ => k - (intOf i).toNat)
    case atStart =>
      refine ⟨0, _, _, _, _, _, _, [w.heap.size + 1], [w.heap.size + 1 + 1], Nat.zero_le _, rfl, by simp, ?_, HI.out.1, HI.out.2.1, HI.out.2.2.1, by simp, HI.out.2.2.2, by simp only [List.mem_singleton]; omega, by simp only [List.mem_singleton]; omega⟩
      have := At.alloc (((w.alloc (.cells #[.int .i64 0, .slice none 0 0, .slice none 0 0] 29)).alloc (.cells #[] 3)).alloc (.cells #[] 3)) #[.int .i64 (k + 1), .slice (some ⟨w.heap.size + 1, 0, none⟩) 0 0, .slice (some ⟨w.heap.size + 1 + 1, 0, none⟩) 0 0] 29
      simp only [World.size_alloc] at this
      exact this
    case round =>
      obtain ⟨j, aF, aT, nF, cF, nT, cT, SF, ST, hj, rfl, hsz, H⟩ := hrel
      have hq0 := H.out.1.c0
      have hq1 := H.out.1.c1
      have hq2 := H.out.1.c2
      have hf1 := H.out.1.f1
      have hf2 := H.out.1.f2
      have hfj : fits (j : Int) := by unfold fits; omega
      have hfk : fits (k : Int) := by unfold fits; omega
      by_cases hlt : j < k
      · go_wp2_with (first
          | (at_builtin; refine wpList_app1 et_int Shp.int_good rfl (.tmp 21) (.tmp 23) rfl rfl H.out.2.2.1 (by omega) rfl (by rfl) ⟨rfl, rfl, hfj⟩ (New.nil _) (by simp) (by simp; omega) (by simp; omega) ?_; intro v1 w1 S1 hO1 hF1 hS1; obtain ⟨a1, n1, c1, rfl⟩ := hO1.form; have hA1 := H.out.1.frm hF1 (by omega) H.out.2.2.2.2.2.2.1; have hR1 := H.out.2.1.frm hF1 (by omega) (H.out.2.2.1.off (by omega)); have hT1 := H.out.2.2.2.1.frm Shp.int_good hF1 (fun b hb hm => H.out.2.2.2.2.1 b hm hb); have hz1 := hF1.size; have hr0 := hA1.c0; have hr1 := hA1.c1; have hr2 := hA1.c2; have hs1 := hA1.f1; have hs2 := hA1.f2; have X1 := Lib.hid (And.intro hO1 (And.intro hF1 (And.intro hS1 (And.intro hA1 (And.intro hR1 hT1))))); clear hO1 hF1 hS1 hA1 hR1 hT1)
          | (at_builtin; go_must (refine wpList_app1 et_int Shp.int_good rfl (.tmp 27) (.tmp 29) rfl rfl (X1.out.2.2.2.2.2.setOff Shp.int_good (p := ⟨w.heap.size + 1 + 1 + 1, 1, none⟩) H.out.2.2.2.2.2.2.2 (.slice a1 n1 c1)) (by simp; omega) rfl (by simp) ⟨rfl, rfl, hfk⟩ (New.nil _) (by simp) (by simp; omega) (by simp; omega) ?_); intro v2 w2 S2 hO2 hF2 hS2; obtain ⟨a2, n2, c2, rfl⟩ := hO2.form; have hA2 : At w2 (w.heap.size + 1 + 1 + 1) 0 [.int .i64 (k + 1), .slice a1 n1 c1, .slice aT nT cT] := (X1.out.2.2.2.1.set 1 (.slice a1 n1 c1) (by simp)).frm hF2 (by simp; omega) H.out.2.2.2.2.2.2.2; have hz2 := hF2.size; have ht0 := hA2.c0; have ht1 := hA2.c1; have ht2 := hA2.c2; have hu1 := hA2.f1; have hu2 := hA2.f2; have X2 := Lib.hid (And.intro hO2 (And.intro hF2 (And.intro hS2 hA2))); clear hO2 hF2 hS2 hA2))
        rw [World.size_setCell] at hz2
        go_roundw
        case rel =>
          obtain ⟨hO1, hF1, hS1, hA1, hR1, hT1⟩ := X1.out
          obtain ⟨hO2, hF2, hS2, hA2⟩ := X2.out
          obtain ⟨hAw, hRw, hFw, hTw, hdw, hbw, hqF, hqT⟩ := H.out
          have hlt1 : ∀ b ∈ S1, b < w1.heap.size := hO1.lt Shp.int_good
          have hd12 : ∀ b ∈ S1, b ∉ ST := by
            intro b hb hm
            rcases hS1 b hb with h | h | h
            · exact hdw b h hm
            · cases h
            · have := hTw.lt Shp.int_good b hm; omega
          have hq1 : (w.heap.size + 1 + 1 + 1) ∉ S1 := by
            intro hm
            rcases hS1 _ hm with h | h | h
            · exact hqF h
            · cases h
            · omega
          have hq2 : (w.heap.size + 1 + 1 + 1) ∉ S2 := by
            intro hm
            rcases hS2 _ hm with h | h | h
            · exact hqT h
            · cases h
            · rw [World.size_setCell] at h; omega
          refine ⟨j + 1, a1, a2, n1, c1, n2, c2, S1, S2, by omega, by go_num, by simp; omega, ?_, ?_, ?_, ?_, ?_, ?_, hq1, hq2⟩
          · exact hA2.set 2 (.slice a2 n2 c2) (by simp)
          · exact (((hR1.setOff (p := ⟨w.heap.size + 1 + 1 + 1, 1, none⟩) (by simp; omega) _).frm hF2 (by simp; omega) (hT1.off (by omega))).setOff (by simp; omega) _)
          · have := ((hO1.setOff Shp.int_good (p := ⟨w.heap.size + 1 + 1 + 1, 1, none⟩) hq1 (.slice a1 n1 c1)).frm Shp.int_good hF2 hd12).setOff Shp.int_good (p := ⟨w.heap.size + 1 + 1 + 1, 2, none⟩) hq1 (.slice a2 n2 c2)
            rw [List.range_succ, List.map_append]
            exact this
          · have := hO2.setOff Shp.int_good (p := ⟨w.heap.size + 1 + 1 + 1, 2, none⟩) hq2 (.slice a2 n2 c2)
            rw [List.replicate_succ']
            exact this
          · intro b hb hm
            rcases hS2 b hm with h | h | h
            · exact hd12 b hb h
            · cases h
            · have := hlt1 b hb; rw [World.size_setCell] at h; omega
          · refine ((hbw.trans (hF1.to_below (by omega) (fun b hb => by have := hFw.new.2 b hb; omega))).setCell (by simp; omega) _).trans (hF2.to_below (by simp; omega) (fun b hb => by have := hTw.new.2 b hb; omega)) |>.setCell (by simp; omega) _
        case measure => simp [intOf]; omega
      · have hR0 := H.out.2.1.c0
        have hR1 := H.out.2.1.c1
        have hR2 := H.out.2.1.c2
        have gR0 := H.out.2.1.f0
        have gR1 := H.out.2.1.f1
        have gR2 := H.out.2.1.f2
        have e : j = k := by omega
        subst e
        have HV : Hid (starV j = ⟨(j : Int) + 1, (List.range j).map fun i : Nat => (i : Int), List.replicate j (j : Int)⟩) := by show _ = _; simp [starV, hin]
        have HE : Hid (∀ x y z : Value, ∃ S, Below w.heap.size w (((wr.setCell ⟨w.heap.size, 0, none⟩ x).setCell ⟨w.heap.size, 1, none⟩ y).setCell ⟨w.heap.size, 2, none⟩ z) ∧
            Shp.quiver.rd (((wr.setCell ⟨w.heap.size, 0, none⟩ x).setCell ⟨w.heap.size, 1, none⟩ y).setCell ⟨w.heap.size, 2, none⟩ z) [.int .i64 (j + 1), .slice aF nF cF, .slice aT nT cT] (starV j) S ∧ New w.heap.size S) := by
          intro x y z
          obtain ⟨hAw, hRw, hFw, hTw, hdw, hbw, -, -⟩ := H.out
          obtain ⟨_, _, _, S1', hv1, -, rd1, new1, sub1⟩ := hFw.rd
          obtain ⟨_, _, _, S2', hv2, -, rd2, new2, sub2⟩ := hTw.rd
          cases hv1
          cases hv2
          have hfr : Frm [w.heap.size] wr (((wr.setCell ⟨w.heap.size, 0, none⟩ x).setCell ⟨w.heap.size, 1, none⟩ y).setCell ⟨w.heap.size, 2, none⟩ z) := (((Frm.refl _ _).setCell (by simp) _).setCell (by simp) _).setCell (by simp) _
          refine ⟨S1' ++ S2', ((hbw.setCell (Nat.le_refl _) _).setCell (Nat.le_refl _) _).setCell (Nat.le_refl _) _, ?_, ?_⟩
          · rw [HV.out]
            refine ⟨_, _, _, _, _, _, S1', S2', rfl, (by show fits ((j : Int) + 1); unfold fits; omega), rd1.frm Shp.int_good hfr (fun b hb hm => ?_), rd2.frm Shp.int_good hfr (fun b hb hm => ?_), rfl⟩
            · have := new1.2 b hb; simp at hm; omega
            · have := new2.2 b hb; simp at hm; omega
          · exact New.append (new1.mono (by omega)) (new2.mono (by omega)) (fun b hb hm => hdw b (sub1 b hb) (sub2 b hm))
        go_wp2
        obtain ⟨S, hb, hr, hn⟩ := HE.out (.int .i64 (j + 1)) (.slice aF nF cF) (.slice aT nT cT)
        exact bodyPost_ret (v := .tuple #[.agg #[.int .i64 (j + 1), .slice aF nF cF, .slice aT nT cT], .bool true]) (by simp [results, Try.results13, go_sem, hR0, hR1, hR2]) rfl ⟨_, rfl, hb, _, S, rfl, hr, hn⟩

/-! ### the laws' own comparisons and marks of quivers -/

set_option maxHeartbeats 400000 in
theorem c_eqQuiver (cs1 cs2 : Array Value) (x : Quiver) (S1 S2 : List Nat) (w : World) (h1 : Shp.quiver.rd w cs1.toList x S1) (h2 : Shp.quiver.rd w cs2.toList x S2) :
    Calls Try.prog 15 #[.agg cs1, .agg cs2] w (Ret w fun v _ => v = .bool true) := by
  obtain ⟨a1, n1, c1, a1', n1', c1', T1, T1', e1, f1, r1, r1', -⟩ := h1
  obtain ⟨a2, n2, c2, a2', n2', c2', T2, T2', e2, f2, r2, r2', -⟩ := h2
  obtain rfl := arr_of e1
  obtain rfl := arr_of e2
  have b0 : Below w.heap.size w ((w.alloc (.cells #[.int .i64 x.vertices, .slice a1 n1 c1, .slice a1' n1' c1'] 29)).alloc (.cells #[.int .i64 x.vertices, .slice a2 n2 c2, .slice a2' n2' c2'] 29)) := ((Below.refl _ _).alloc (Nat.le_refl _) _).alloc (by simp) _
  have B0 := Lib.hid b0
  have R1 := Lib.hid (r1.row.below b0)
  have R2 := Lib.hid (r2.row.below b0)
  have R1' := Lib.hid (r1'.row.below b0)
  have R2' := Lib.hid (r2'.row.below b0)
  clear r1 r2 r1' r2' e1 e2 f1 f2 b0
  go_enter Try.func15, Try.ntmps15
  go_wp2_with fail
  refine (c_eqIntS _ _ _ _ _ _ _ _ _ R1.out R2.out).mono ?_
  rintro e w1 ⟨rfl, q1, rfl⟩
  have R3 := Lib.hid (R1'.out.below (below_drewN q1 (Below.refl _ _)))
  have R4 := Lib.hid (R2'.out.below (below_drewN q1 (Below.refl _ _)))
  go_wp2_with fail
  refine (c_eqIntS _ _ _ _ _ _ _ _ _ R3.out R4.out).mono ?_
  rintro e w1 ⟨rfl, q2, rfl⟩
  go_wp2
  go_ret
  exact ⟨_, rfl, below_drewN _ B0.out, rfl⟩

def Quiver.marked (x : Quiver) (k : Int) : Quiver := ⟨x.vertices, marks k x.src.length, marks (k + x.src.length) x.tgt.length⟩
def Quiver.size (x : Quiver) : Nat := x.src.length + x.tgt.length

set_option maxHeartbeats 400000 in
theorem c_markQuiver (cs : Array Value) (x : Quiver) (S : List Nat) (k : Int) (w : World) (h : Shp.quiver.rd w cs.toList x S) (hn : S.Nodup) (hk0 : 0 ≤ k) (hk1 : k ≤ 1099511627776) (hx : x.src.length ≤ 1048576) (hy : x.tgt.length ≤ 1048576) :
    Calls Try.prog 16 #[.agg cs, .int .i64 k] w fun e w' => e = .returned (.int .i64 (k + x.size)) ∧ Frm S w w' ∧ Shp.quiver.rd w' cs.toList (x.marked k) S := by
  obtain ⟨a1, n1, c1, a2, n2, c2, T1, T2, e1, f1, r1, r2, rfl⟩ := h
  obtain rfl := arr_of e1
  have b0 : Below w.heap.size w (w.alloc (.cells #[.int .i64 x.vertices, .slice a1 n1 c1, .slice a2 n2 c2] 29)) := (Below.refl _ _).alloc (Nat.le_refl _) _
  have hnd := List.nodup_append.1 hn
  have hl1 := r1.1
  have hl2 := r2.1
  have HX : Hid (x.size = n1 + n2 ∧ x.marked k = ⟨x.vertices, marks k n1, marks (k + n1) n2⟩) := by
    show _ ∧ _
    simp [Quiver.size, Quiver.marked, hl1, hl2]
  have L1 := Lib.hid (r1.lt Shp.int_good)
  have L2 := Lib.hid (r2.lt Shp.int_good)
  have R1 := Lib.hid (c_markIntS a1 n1 c1 x.src T1 k _ (r1.below Shp.int_good b0) hk0 (by omega) (by omega))
  have R2 := Lib.hid (r2.below Shp.int_good b0)
  have A0 := Lib.hid (At.alloc w #[.int .i64 x.vertices, .slice a1 n1 c1, .slice a2 n2 c2] 29)
  have B0 := Lib.hid b0
  have hm2 : n2 ≤ 1048576 := by omega
  have hm1 : n1 ≤ 1048576 := by omega
  have ND := Lib.hid hnd
  have F1 := Lib.hid f1
  clear r1 r2 e1 f1 b0 hn hnd hl1 hl2
  go_enter Try.func16, Try.ntmps16
  go_wp2_with fail
  refine R1.out.mono ?_
  rintro e w1 ⟨rfl, hf1, hr1⟩
  have hA : At w1 w.heap.size 0 [.int .i64 x.vertices, .slice a1 n1 c1, .slice a2 n2 c2] := A0.out.frm hf1 (by simp) (fun hm => by have := L1.out _ hm; omega)
  have hc2 := hA.c2
  have R3 := Lib.hid (c_markIntS a2 n2 c2 x.tgt T2 (k + n1) w1 (R2.out.frm Shp.int_good hf1 (fun b hb hm => ND.out.2.2 b hm b hb rfl)) (by omega) (by omega) hm2)
  have X1 := Lib.hid (And.intro hf1 hr1)
  clear hf1 hr1 hA
  go_wp2_with fail
  refine R3.out.mono ?_
  rintro e w2 ⟨rfl, hf2, hr2⟩
  have X2 := Lib.hid (And.intro hf2 hr2)
  clear hf2 hr2
  go_wp2
  go_ret
  obtain ⟨hf1, hr1⟩ := X1.out
  obtain ⟨hf2, hr2⟩ := X2.out
  obtain ⟨hsz, hmk⟩ := HX.out
  refine ⟨ret_int (by rw [hsz]; simp; omega), ?_, ?_⟩
  · exact (((Frm.of_below B0.out).mono (S' := T1 ++ T2) (by simp)).trans hf1 (fun i hi _ => by simp [hi])).trans hf2 (fun i hi _ => by simp [hi])
  · rw [hmk]
    exact ⟨a1, n1, c1, a2, n2, c2, T1, T2, rfl, F1.out, hr1.frm Shp.int_good hf2 (fun b hb hm => ND.out.2.2 b hb b hm rfl), hr2, rfl⟩

set_option maxHeartbeats 400000 in
theorem c_heldQuiver (cs : Array Value) (x : Quiver) (S : List Nat) (k : Int) (w : World) (h : Shp.quiver.rd w cs.toList (x.marked k) S) (hk0 : 0 ≤ k) (hk1 : k ≤ 1099511627776) (hx : x.src.length ≤ 1048576) (hy : x.tgt.length ≤ 1048576) :
    Calls Try.prog 17 #[.agg cs, .int .i64 k] w (Ret w fun v _ => v = .int .i64 (k + x.size)) := by
  obtain ⟨a1, n1, c1, a2, n2, c2, T1, T2, e1, f1, r1, r2, rfl⟩ := h
  obtain rfl := arr_of e1
  have b0 : Below w.heap.size w (w.alloc (.cells #[.int .i64 x.vertices, .slice a1 n1 c1, .slice a2 n2 c2] 29)) := (Below.refl _ _).alloc (Nat.le_refl _) _
  have hl1 : x.src.length = n1 := by have := r1.1; simpa [Quiver.marked, marks_len] using this
  have hl2 : x.tgt.length = n2 := by have := r2.1; simpa [Quiver.marked, marks_len] using this
  have hr1 := r1.row.below b0
  have hr2 := r2.row.below b0
  simp only [Quiver.marked, hl1, hl2] at hr1 hr2
  have R1 := Lib.hid (c_heldIntS a1 n1 c1 k _ hr1 hk0 (by omega) (by omega))
  have R2 := Lib.hid (c_heldIntS a2 n2 c2 (k + n1) _ hr2 (by omega) (by omega) (by omega))
  have HX : Hid (x.size = n1 + n2) := by show _ = _; simp [Quiver.size, hl1, hl2]
  have B0 := Lib.hid b0
  have hm2 : n2 ≤ 1048576 := by omega
  have hm1 : n1 ≤ 1048576 := by omega
  clear r1 r2 e1 f1 b0 hl1 hl2 hr1 hr2
  go_enter Try.func17, Try.ntmps17
  go_wp2_with fail
  refine R1.out.mono ?_
  rintro e w1 ⟨rfl, rfl⟩
  go_wp2_with fail
  refine R2.out.mono ?_
  rintro e w1 ⟨rfl, rfl⟩
  go_wp2
  go_ret
  exact ⟨_, rfl, B0.out, by rw [HX.out]; simp; omega⟩
end Go.Proofs.Ytfnmcjpbknnmjaa

/-
  Contracts of the reference: sums of spaces.
-/
import Derived.Test.YtpngpgbmkkjjgaaD8
namespace Go.Proofs.Ytpngpgbmkkjjgaa
open Go.RowKit

/-- Cells of two lists of vectors behind each other, as they were copied, read as the two lists. -/
theorem cat_rd {w : World} {B : Nat} {v : Value} {xs ys : List Value} {S T T' : List Nat} {l1 l2 : List (List Int)} {e : Nat} (h : Own e Shp.val w B v (([] ++ xs) ++ ys) S) (h1 : CellsRd Shp.ints w xs l1 T) (h2 : CellsRd Shp.ints w ys l2 T') :
    ∃ a n c S', v = .slice a n c ∧ n = (l1 ++ l2).length ∧ SliceRd Shp.ints w a n c (l1 ++ l2) S' := by
  rw [List.nil_append] at h
  exact own_val Shp.ints_good rfl h (h1.append h2)
theorem CellsRd.vlen {w : World} {xs : List Value} {l : List (List Int)} {T : List Nat} (h : CellsRd Shp.ints w xs l T) : xs.length = l.length := by
  have := h.len Shp.ints_good
  have e : Shp.ints.size = 1 := rfl
  rw [e] at this
  omega

set_option maxRecDepth 20000 in
set_option maxHeartbeats 4000000 in
theorem c_AddSpaces (p : Int) (n : Nat) (a1 : Option Addr) (n1 c1 : Nat) (l1 : List (List Int)) (S1 : List Nat) (a2 : Option Addr) (n2 c2 : Nat) (l2 : List (List Int)) (S2 : List Nat) (w : World) (hp : fits p) (h1 : SliceRd Shp.ints w a1 n1 c1 l1 S1) (h2 : SliceRd Shp.ints w a2 n2 c2 l2 S2) (e1 : spaceV p n l1 = true) (e2 : spaceV p n l2 = true) :
    Calls Try.prog 48 #[.int .i64 p, .agg #[.int .i64 n, .slice a1 n1 c1], .agg #[.int .i64 n, .slice a2 n2 c2]] w (Ret w fun v w' => ∃ a' n' c' S, v = .tuple #[.agg #[.int .i64 n, .slice a' n' c'], .bool true] ∧ SliceRd Shp.ints w' a' n' c' (sumL p n l1 l2) S ∧ New w.heap.size S) := by
  have b0 := (Below.refl w.heap.size w).alloc (Nat.le_refl _) (.cells #[.int .i64 n, .slice a1 n1 c1] 38)
  have b1 := (Below.refl _ (w.alloc (.cells #[.int .i64 n, .slice a1 n1 c1] 38))).alloc (Nat.le_refl _) (.cells #[.int .i64 n, .slice a2 n2 c2] 38)
  have b2 := (Below.refl _ ((w.alloc (.cells #[.int .i64 n, .slice a1 n1 c1] 38)).alloc (.cells #[.int .i64 n, .slice a2 n2 c2] 38))).alloc (Nat.le_refl _) (.cells #[.int .i64 0, .slice none 0 0] 38)
  have t1 := At.alloc (w.alloc (.cells #[.int .i64 n, .slice a1 n1 c1] 38)) #[.int .i64 n, .slice a2 n2 c2] 38
  have t2 := At.alloc ((w.alloc (.cells #[.int .i64 n, .slice a1 n1 c1] 38)).alloc (.cells #[.int .i64 n, .slice a2 n2 c2] 38)) #[.int .i64 0, .slice none 0 0] 38
  rw [World.size_alloc] at t1
  rw [World.size_alloc, World.size_alloc] at t2
  have KEY : Hid (∀ wr, Below (((w.alloc (.cells #[.int .i64 n, .slice a1 n1 c1] 38)).alloc (.cells #[.int .i64 n, .slice a2 n2 c2] 38)).alloc (.cells #[.int .i64 0, .slice none 0 0] 38)).heap.size (((w.alloc (.cells #[.int .i64 n, .slice a1 n1 c1] 38)).alloc (.cells #[.int .i64 n, .slice a2 n2 c2] 38)).alloc (.cells #[.int .i64 0, .slice none 0 0] 38)) wr →
      Below w.heap.size w wr ∧ At wr w.heap.size 0 [.int .i64 n, .slice a1 n1 c1] ∧ At wr (w.heap.size + 1) 0 [.int .i64 n, .slice a2 n2 c2] ∧ At wr (w.heap.size + 1 + 1) 0 [.int .i64 0, .slice none 0 0] ∧ SliceRd Shp.ints wr a1 n1 c1 l1 S1 ∧ SliceRd Shp.ints wr a2 n2 c2 l2 S2 ∧ w.heap.size + 3 ≤ wr.heap.size) := by
    intro wr hb
    have hbw := below_then (below_then (below_then b0 b1) b2) hb
    exact ⟨hbw, (((At.alloc w _ _).keep (b1.block _ (by simp))).keep (b2.block _ (by simp; omega))).keep (hb.block _ (by simp; omega)), (t1.keep (b2.block _ (by simp))).keep (hb.block _ (by simp)), t2.keep (hb.block _ (by simp)), h1.below Shp.ints_good hbw, h2.below Shp.ints_good hbw, by have := hb.size; simp at this; omega⟩
  have HWZ : Hid (w.heap.size + 1 + 1 < (((w.alloc (.cells #[.int .i64 n, .slice a1 n1 c1] 38)).alloc (.cells #[.int .i64 n, .slice a2 n2 c2] 38)).alloc (.cells #[.int .i64 0, .slice none 0 0] 38)).heap.size) := by show _ < _; simp
  have HP := Lib.hid hp
  have K0 := KEY.out _ (Below.refl _ _)
  have q0 := K0.2.1.c0
  have q1 := K0.2.1.c1
  have hC := c_spec_IsSpace p n a1 n1 c1 l1 S1 _ hp K0.2.2.2.2.1
  rw [e1] at hC
  have HC := Lib.hid hC
  have HPF := Lib.hid (spaceV_parts e1).1
  have G1 : Hid (Sp p n l1) := Sp.of e1
  have G2 : Hid (Sp p n l2) := Sp.of e2
  have HN8 : Hid (n ≤ 8) := by obtain ⟨_, m, em, hm, _⟩ := spaceV_parts e1; show n ≤ 8; omega
  have E2 := Lib.hid e2
  have HL : Hid (l1.length = n1 ∧ l2.length = n2) := ⟨h1.1, h2.1⟩
  have HLB : Hid (n1 ≤ n ∧ n2 ≤ n) := ⟨by rw [← h1.1]; exact G1.out.len, by rw [← h2.1]; exact G2.out.len⟩
  clear b0 b1 b2 t1 t2 h1 h2 K0 hp hC e1 e2
  go_enter Try.func48, Try.ntmps48
  go_wp2_with fail
  generalize ((w.alloc (.cells #[.int .i64 n, .slice a1 n1 c1] 38)).alloc (.cells #[.int .i64 n, .slice a2 n2 c2] 38)).alloc (.cells #[.int .i64 0, .slice none 0 0] 38) = W at *
  refine HC.out.mono ?_
  rintro e w1 ⟨r, rfl, hb1, rfl⟩
  have B1 := Lib.hid hb1
  have K1 := KEY.out _ hb1
  have q0 := K1.2.1.c0
  have p0 := K1.2.2.1.c0
  have p1 := K1.2.2.1.c1
  have hC2 := c_spec_IsSpace p n a2 n2 c2 l2 S2 _ HP.out K1.2.2.2.2.2.1
  rw [E2.out] at hC2
  have HC2 := Lib.hid hC2
  have hne : ((n : Int) != (n : Int)) = false := by simp
  clear hb1 K1 HC q1 hC2
  go_wp2_with fail
  refine HC2.out.mono ?_
  rintro e w2 ⟨r, rfl, hb2, rfl⟩
  have B2 := Lib.hid (below_then B1.out hb2)
  have q0 := (KEY.out _ B2.out).2.1.c0
  have p0 := (KEY.out _ B2.out).2.2.1.c0
  clear hb2 HC2 p1 B1
  have hzW : W.heap.size ≤ w2.heap.size := B2.out.size
  have BD : Hid (Below (w.heap.size + 1 + 1) W w2.drew) := (below_dr B2.out).mono (Nat.le_of_lt HWZ.out)
  have BE0 : Hid (Below W.heap.size W (w2.alloc (.cells #[] 22)).drew) := below_dr (below_al B2.out (Nat.le_refl _) _)
  have BE : Hid (Below (w.heap.size + 1 + 1) W (w2.alloc (.cells #[] 22)).drew) := BE0.out.mono (Nat.le_of_lt HWZ.out)
  have HELD : Hid (∀ w', Below (w.heap.size + 1 + 1) W w' → w'.cell? ⟨w.heap.size, 0, none⟩ = some (.int .i64 n) ∧ w'.cell? ⟨w.heap.size, 1, none⟩ = some (.slice a1 n1 c1) ∧ w'.cell? ⟨w.heap.size + 1, 1, none⟩ = some (.slice a2 n2 c2)) :=
    fun w' hb => ⟨((KEY.out _ (Below.refl _ _)).2.1.keep (hb.block _ (by omega))).c0, ((KEY.out _ (Below.refl _ _)).2.1.keep (hb.block _ (by omega))).c1, ((KEY.out _ (Below.refl _ _)).2.2.1.keep (hb.block _ (by omega))).c1⟩
  have O0 : Hid (Own 22 Shp.val (w2.alloc (.cells #[] 22)).drew W.heap.size (.slice (some ⟨w2.heap.size, 0, none⟩) 0 0) [] [w2.heap.size]) :=
    (Own.lit0 Shp.val 22 w2 hzW).below Shp.val_good below_drew
  have HSZ : Hid (W.heap.size ≤ (w2.alloc (.cells #[] 22)).drew.heap.size) := BE0.out.size
  have HB63 : Hid (([] : List Value).length + n1 ≤ 4294967296 ∧ (([] : List Value).length + n1) * 24 ≤ 140737488355328) := by show _ ∧ _; have := HLB.out; have := HN8.out; simp; omega
  have HLT1 : Hid (∀ b ∈ S1, b < W.heap.size) := (KEY.out _ (Below.refl _ _)).2.2.2.2.1.lt Shp.ints_good
  have HLT2 : Hid (∀ b ∈ S2, b < W.heap.size) := (KEY.out _ (Below.refl _ _)).2.2.2.2.2.1.lt Shp.ints_good
  go_wp2
  clear q0 p0 hne
  go_region_held3 (fun w' => w'.cell? ⟨w.heap.size, 0, none⟩ = some (.int .i64 n) ∧ w'.cell? ⟨w.heap.size, 1, none⟩ = some (.slice a1 n1 c1) ∧ w'.cell? ⟨w.heap.size + 1, 1, none⟩ = some (.slice a2 n2 c2))
    ((refine HELD.out _ ?_; (repeat (first | exact Hid.out (by assumption) | refine below_st ?_ (by exact Nat.le_refl _) _))))
    (first
      | (refine step_app_vals et_val Shp.ints_good rfl rfl (.tmp 29) (.tmp 31) rfl rfl O0.out HSZ.out rfl (KEY.out _ BE0.out).2.2.2.2.1 HB63.out.1 HB63.out.2 ?_; intro v3 w3 S3 xs3 T3 hC3 hT3 hO3 hF3 hS3; obtain ⟨a3, m3, d3, rfl⟩ := hO3.form
         have B3 : Hid (Below W.heap.size W w3) := BE0.out.trans (hF3.to_below HSZ.out (fun b hb => O0.out.new.2 b hb))
         have Q3 : Hid (Below (w.heap.size + 1 + 1) W w3) := B3.out.mono (Nat.le_of_lt HWZ.out)
         have O3 := Lib.hid hO3
         have C3 : Hid (CellsRd Shp.ints w3 xs3 l1 T3 ∧ (∀ b ∈ T3, b < W.heap.size)) := ⟨hC3.keep Shp.ints_good (fun b hb => hF3.block b (hC3.lt Shp.ints_good b hb) (fun hm => by have h1 := HLT1.out b (hT3 b hb); have h2 := O0.out.new.2 b hm; omega)), fun b hb => HLT1.out b (hT3 b hb)⟩
         have HX3 : Hid (([] ++ xs3).length + n2 ≤ 4294967296 ∧ (([] ++ xs3).length + n2) * 24 ≤ 140737488355328) := by (show _ ∧ _; rw [List.nil_append, hC3.vlen, HL.out.1]; have := HLB.out; have := HN8.out; omega)
         clear hC3 hT3 hO3 hF3 hS3)
      | (refine step_app_vals et_val Shp.ints_good rfl rfl (.tmp 32) (.tmp 34) rfl rfl O3.out B3.out.size rfl (KEY.out _ B3.out).2.2.2.2.2.1 HX3.out.1 HX3.out.2 ?_; intro v4 w4 S4 xs4 T4 hC4 hT4 hO4 hF4 hS4; obtain ⟨a4, m4, d4, S5, rfl, hm4, hr4⟩ := cat_rd hO4 (C3.out.1.keep Shp.ints_good (fun b hb => hF4.block b (C3.out.1.lt Shp.ints_good b hb) (fun hm => by have h1 := C3.out.2 b hb; have h2 := O3.out.new.2 b hm; omega))) (hC4.keep Shp.ints_good (fun b hb => hF4.block b (hC4.lt Shp.ints_good b hb) (fun hm => by have h1 := HLT2.out b (hT4 b hb); have h2 := O3.out.new.2 b hm; omega)))
         have B4 : Hid (Below W.heap.size W w4) := B3.out.trans (hF4.to_below B3.out.size (fun b hb => O3.out.new.2 b hb))
         have Q4 : Hid (Below (w.heap.size + 1 + 1) W w4) := B4.out.mono (Nat.le_of_lt HWZ.out)
         have R4 := Lib.hid hr4
         have HM4 : Hid (m4 ≤ 1024) := by (show m4 ≤ 1024; rw [hm4, List.length_append, HL.out.1, HL.out.2]; have := HLB.out; have := HN8.out; omega)
         clear hC4 hT4 hO4 hF4 hS4 hm4 hr4)
      | (go_at_call 99; refine Calls.mono (c_l5Span p n m4 a4 d4 (l1 ++ l2) S5 w4 HPF.out R4.out (Nat.le_trans HN8.out (by decide)) HM4.out (G1.out.vecs.append G2.out.vecs)) ?_; rintro e w5 ⟨v, rfl, hb5, a6, n6, c6, S6, rfl, hO6⟩
         have B5 : Hid (Below W.heap.size W w5) := below_tr B4.out (Nat.le_refl _) hb5
         have Q5 : Hid (Below (w.heap.size + 1 + 1) W w5) := B5.out.mono (Nat.le_of_lt HWZ.out)
         have O6 := Lib.hid hO6
         have o0 := (KEY.out _ B5.out).2.2.2.1.c0
         have o1 := (KEY.out _ B5.out).2.2.2.1.c1
         have i0 := (KEY.out _ B5.out).2.2.2.1.f0
         have i1 := (KEY.out _ B5.out).2.2.2.1.f1
         clear hb5 hO6))
  all_goals (
    have HE : Hid (∀ x y : Value, Below w.heap.size w ((w5.setCell ⟨w.heap.size + 1 + 1, 0, none⟩ x).setCell ⟨w.heap.size + 1 + 1, 1, none⟩ y) ∧ ∃ S, SliceRd Shp.ints ((w5.setCell ⟨w.heap.size + 1 + 1, 0, none⟩ x).setCell ⟨w.heap.size + 1 + 1, 1, none⟩ y) a6 n6 c6 (sumL p n l1 l2) S ∧ New w.heap.size S) := by
      intro x y
      have hz : w.heap.size + 1 + 1 < w4.heap.size := by have := B4.out.size; have := HWZ.out; omega
      have h2 := own_lower (own_two O6.out Shp.ints_good hz 0 1 x y) (B' := w.heap.size) (by omega)
      obtain ⟨_, _, _, S', hv, -, rd, nw, -⟩ := h2.rd
      cases hv
      exact ⟨((KEY.out _ B5.out).1.setCell (by show w.heap.size ≤ w.heap.size + 1 + 1; omega) _).setCell (by show w.heap.size ≤ w.heap.size + 1 + 1; omega) _, S', rd, nw⟩
    go_wp2
    obtain ⟨hb, S, hr, hw⟩ := HE.out (.int .i64 n) (.slice a6 n6 c6)
    exact bodyPost_ret (v := .tuple #[.agg #[.int .i64 n, .slice a6 n6 c6], .bool true]) (by simp [results, Try.results48, go_sem, o0, o1]) rfl ⟨_, rfl, hb, a6, n6, c6, S, rfl, hr, hw⟩)
end Go.Proofs.Ytpngpgbmkkjjgaa

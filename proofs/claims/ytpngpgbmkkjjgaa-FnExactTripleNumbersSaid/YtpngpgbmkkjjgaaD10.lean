/-
  Contracts of the reference: intersections of spaces.
-/
import Derived.Test.YtpngpgbmkkjjgaaD9
import Derived.Deep.DeepCutAuto
namespace Go.Proofs.Ytpngpgbmkkjjgaa
open Go.RowKit

theorem at_world {P : Program} {ops : Array Oper} {o : Oper} {a : Act} {K : Act → World → Prop} {Q : Exit → Act → World → Prop} {E : Prop} (w0 w : World) (hw : w = w0) (h : if Region.wanted o (yielded ops a.tmps) = true then Oper.wp P o a w0 K Q else E) : if Region.wanted o (yielded ops a.tmps) = true then Oper.wp P o a w K Q else E := by
  subst hw; exact h
theorem size_al (w : World) (o : Obj) : w.heap.size < (w.alloc o).heap.size := by simp

set_option maxRecDepth 20000 in
set_option maxHeartbeats 16000000 in
theorem c_MeetSpaces (p : Int) (n : Nat) (a1 : Option Addr) (n1 c1 : Nat) (l1 : List (List Int)) (S1 : List Nat) (a2 : Option Addr) (n2 c2 : Nat) (l2 : List (List Int)) (S2 : List Nat) (w : World) (hp : fits p) (h1 : SliceRd Shp.ints w a1 n1 c1 l1 S1) (h2 : SliceRd Shp.ints w a2 n2 c2 l2 S2) (e1 : spaceV p n l1 = true) (e2 : spaceV p n l2 = true) :
    Calls Try.prog 49 #[.int .i64 p, .agg #[.int .i64 n, .slice a1 n1 c1], .agg #[.int .i64 n, .slice a2 n2 c2]] w (Ret w fun v w' => ∃ a' n' c' S, v = .tuple #[.agg #[.int .i64 n, .slice a' n' c'], .bool true] ∧ SliceRd Shp.ints w' a' n' c' (meetL p n l1 l2) S ∧ New w.heap.size S) := by
  have b0 := (Below.refl w.heap.size w).alloc (Nat.le_refl _) (.cells #[.int .i64 n, .slice a1 n1 c1] 38)
  have b1 := (Below.refl _ (w.alloc (.cells #[.int .i64 n, .slice a1 n1 c1] 38))).alloc (Nat.le_refl _) (.cells #[.int .i64 n, .slice a2 n2 c2] 38)
  have b2 := (Below.refl _ ((w.alloc (.cells #[.int .i64 n, .slice a1 n1 c1] 38)).alloc (.cells #[.int .i64 n, .slice a2 n2 c2] 38))).alloc (Nat.le_refl _) (.cells #[.int .i64 0, .slice none 0 0] 38)
  have t1 := At.alloc (w.alloc (.cells #[.int .i64 n, .slice a1 n1 c1] 38)) #[.int .i64 n, .slice a2 n2 c2] 38
  have t2 := At.alloc ((w.alloc (.cells #[.int .i64 n, .slice a1 n1 c1] 38)).alloc (.cells #[.int .i64 n, .slice a2 n2 c2] 38)) #[.int .i64 0, .slice none 0 0] 38
  rw [World.size_alloc] at t1
  rw [World.size_alloc, World.size_alloc] at t2
  have KEY : Hid (∀ wr, Below (((w.alloc (.cells #[.int .i64 n, .slice a1 n1 c1] 38)).alloc (.cells #[.int .i64 n, .slice a2 n2 c2] 38)).alloc (.cells #[.int .i64 0, .slice none 0 0] 38)).heap.size (((w.alloc (.cells #[.int .i64 n, .slice a1 n1 c1] 38)).alloc (.cells #[.int .i64 n, .slice a2 n2 c2] 38)).alloc (.cells #[.int .i64 0, .slice none 0 0] 38)) wr →
      Below w.heap.size w wr ∧ At wr w.heap.size 0 [.int .i64 n, .slice a1 n1 c1] ∧ At wr (w.heap.size + 1) 0 [.int .i64 n, .slice a2 n2 c2] ∧ At wr (w.heap.size + 1 + 1) 0 [.int .i64 0, .slice none 0 0] ∧ SliceRd Shp.ints wr a1 n1 c1 l1 S1 ∧ SliceRd Shp.ints wr a2 n2 c2 l2 S2 ∧ w.heap.size + 3 ≤ wr.heap.size) := by
    intro wr hb
    have hbw := below_then (below_then (below_then b0 b1) b2) hb
    exact ⟨hbw, (((At.alloc w _ _).keep (b1.block _ (by simp))).keep (b2.block _ (by simp; omega))).keep (hb.block _ (by simp; omega)), (t1.keep (b2.block _ (by simp))).keep (hb.block _ (by simp)), t2.keep (hb.block _ (by simp)), h1.below Shp.ints_good hbw, h2.below Shp.ints_good hbw, by have := hb.size; simp at this; omega⟩
  have HWZ : Hid (w.heap.size + 1 + 1 < (((w.alloc (.cells #[.int .i64 n, .slice a1 n1 c1] 38)).alloc (.cells #[.int .i64 n, .slice a2 n2 c2] 38)).alloc (.cells #[.int .i64 0, .slice none 0 0] 38)).heap.size) := by show _ < _; simp
  have HP := Lib.hid hp
  have K0 := KEY.out _ (Below.refl _ _)
  have q0 := K0.2.1.c0
  have q1 := K0.2.1.c1
  have hC := c_spec_IsSpace p n a1 n1 c1 l1 S1 _ hp K0.2.2.2.2.1
  rw [e1] at hC
  have HC := Lib.hid hC
  have HPF := Lib.hid (spaceV_parts e1).1
  have G1 : Hid (Sp p n l1) := Sp.of e1
  have G2 : Hid (Sp p n l2) := Sp.of e2
  have HN8 : Hid (n ≤ 8) := by obtain ⟨_, m, em, hm, _⟩ := spaceV_parts e1; show n ≤ 8; omega
  have E2 := Lib.hid e2
  have HL : Hid (l1.length = n1 ∧ l2.length = n2) := ⟨h1.1, h2.1⟩
  have HLB : Hid (n1 ≤ n ∧ n2 ≤ n) := ⟨by rw [← h1.1]; exact G1.out.len, by rw [← h2.1]; exact G2.out.len⟩
  clear b0 b1 b2 t1 t2 h1 h2 K0 hp hC e1 e2
  go_enter Try.func49, Try.ntmps49
  go_wp2_with fail
  generalize ((w.alloc (.cells #[.int .i64 n, .slice a1 n1 c1] 38)).alloc (.cells #[.int .i64 n, .slice a2 n2 c2] 38)).alloc (.cells #[.int .i64 0, .slice none 0 0] 38) = W at *
  refine HC.out.mono ?_
  rintro e w1 ⟨r, rfl, hb1, rfl⟩
  have B1 := Lib.hid hb1
  have K1 := KEY.out _ hb1
  have q0 := K1.2.1.c0
  have p0 := K1.2.2.1.c0
  have p1 := K1.2.2.1.c1
  have hC2 := c_spec_IsSpace p n a2 n2 c2 l2 S2 _ HP.out K1.2.2.2.2.2.1
  rw [E2.out] at hC2
  have HC2 := Lib.hid hC2
  have hne : ((n : Int) != (n : Int)) = false := by simp
  clear hb1 K1 HC q1 hC2
  go_wp2_with fail
  refine HC2.out.mono ?_
  rintro e w2 ⟨r, rfl, hb2, rfl⟩
  have B2 := Lib.hid (below_then B1.out hb2)
  have q0 := (KEY.out _ B2.out).2.1.c0
  have p0 := (KEY.out _ B2.out).2.2.1.c0
  clear hb2 HC2 p1 B1
  obtain ⟨N, hN⟩ : ∃ N, N = n * (n1 + n2) := ⟨_, rfl⟩
  have hNb : N ≤ 1048576 := by
    have h1 := HN8.out
    have h2 := HLB.out
    have h3 : n * (n1 + n2) ≤ n * 16 := Nat.mul_le_mul_left _ (by omega)
    omega
  have HN := Lib.hid hN
  clear hN
  go_upto_region 3 with fail
  clear q0 p0 hne
  go_cut [8] (fun s8 wx => Hid (MeetSt n (n1 + n2) N (l1 ++ l2) W.heap.size W s8 wx))
  case first =>
    have hzW : W.heap.size ≤ w2.heap.size := B2.out.size
    have BD : Hid (Below W.heap.size W w2.drew) := below_dr B2.out
    have HELD : Hid (∀ w', Below W.heap.size W w' → w'.cell? ⟨w.heap.size, 0, none⟩ = some (.int .i64 n) ∧ w'.cell? ⟨w.heap.size, 1, none⟩ = some (.slice a1 n1 c1) ∧ w'.cell? ⟨w.heap.size + 1, 1, none⟩ = some (.slice a2 n2 c2)) :=
      fun w' hb => ⟨(KEY.out _ hb).2.1.c0, (KEY.out _ hb).2.1.c1, (KEY.out _ hb).2.2.1.c1⟩
    have OA : Hid (Own 22 Shp.val (w2.alloc (.cells #[] 22)).drew W.heap.size (.slice (some ⟨w2.heap.size, 0, none⟩) 0 0) [] [w2.heap.size]) :=
      (Own.lit0 Shp.val 22 w2 hzW).below Shp.val_good below_drew
    have BA : Hid (Below W.heap.size W (w2.alloc (.cells #[] 22)).drew) := below_dr (below_al B2.out (Nat.le_refl _) _)
    have SZA : Hid (W.heap.size ≤ (w2.alloc (.cells #[] 22)).drew.heap.size) := BA.out.size
    have OB : Hid (Own 22 Shp.val ((w2.alloc (.cells #[] 22)).alloc (.cells #[.int .i64 0, .int .i64 0, .slice none 0 0] 107)).drew W.heap.size (.slice (some ⟨w2.heap.size, 0, none⟩) 0 0) [] [w2.heap.size]) :=
      ((Own.lit0 Shp.val 22 w2 hzW).below Shp.val_good ((Below.refl _ _).alloc (Nat.le_refl _) _)).below Shp.val_good below_drew
    have BB : Hid (Below W.heap.size W ((w2.alloc (.cells #[] 22)).alloc (.cells #[.int .i64 0, .int .i64 0, .slice none 0 0] 107)).drew) := below_dr (below_al (below_al B2.out (Nat.le_refl _) _) (Nat.le_refl _) _)
    have SZB : Hid (W.heap.size ≤ ((w2.alloc (.cells #[] 22)).alloc (.cells #[.int .i64 0, .int .i64 0, .slice none 0 0] 107)).drew.heap.size) := BB.out.size
    have MB : Hid (At ((w2.alloc (.cells #[] 22)).alloc (.cells #[.int .i64 0, .int .i64 0, .slice none 0 0] 107)).drew (w2.heap.size + 1) 0 [.int .i64 0, .int .i64 0, .slice none 0 0]) := by
      have h3 := At.alloc (w2.alloc (.cells #[] 22)) #[.int .i64 0, .int .i64 0, .slice none 0 0] 107
      rw [World.size_alloc] at h3
      exact h3.keep rfl
    have ZB : Hid (w2.heap.size + 1 < ((w2.alloc (.cells #[] 22)).alloc (.cells #[.int .i64 0, .int .i64 0, .slice none 0 0] 107)).drew.heap.size) := by show _ < _; simp
    have NB : Hid (w2.heap.size + 1 ≠ w2.heap.size) := by show _ ≠ _; omega
    have OC : Hid (Own 22 Shp.val ((w2.alloc (.cells #[.int .i64 0, .int .i64 0, .slice none 0 0] 107)).alloc (.cells #[] 22)).drew W.heap.size (.slice (some ⟨w2.heap.size + 1, 0, none⟩) 0 0) [] [w2.heap.size + 1]) := by
      have h3 := Own.lit0 Shp.val 22 (w2.alloc (.cells #[.int .i64 0, .int .i64 0, .slice none 0 0] 107)) (B := W.heap.size) (by rw [World.size_alloc]; omega)
      rw [World.size_alloc] at h3
      exact h3.below Shp.val_good below_drew
    have BC : Hid (Below W.heap.size W ((w2.alloc (.cells #[.int .i64 0, .int .i64 0, .slice none 0 0] 107)).alloc (.cells #[] 22)).drew) := below_dr (below_al (below_al B2.out (Nat.le_refl _) _) (Nat.le_refl _) _)
    have SZC : Hid (W.heap.size ≤ ((w2.alloc (.cells #[.int .i64 0, .int .i64 0, .slice none 0 0] 107)).alloc (.cells #[] 22)).drew.heap.size) := BC.out.size
    have MC : Hid (At ((w2.alloc (.cells #[.int .i64 0, .int .i64 0, .slice none 0 0] 107)).alloc (.cells #[] 22)).drew w2.heap.size 0 [.int .i64 0, .int .i64 0, .slice none 0 0]) :=
      (At.bl (At.alloc w2 #[.int .i64 0, .int .i64 0, .slice none 0 0] 107) (size_al _ _) ((Below.refl _ _).alloc (Nat.le_refl _) _)).keep rfl
    have ZC : Hid (w2.heap.size < ((w2.alloc (.cells #[.int .i64 0, .int .i64 0, .slice none 0 0] 107)).alloc (.cells #[] 22)).drew.heap.size) := by show _ < _; simp; omega
    have NC : Hid (w2.heap.size ≠ w2.heap.size + 1) := by show _ ≠ _; omega
    have HB63 : Hid (([] : List Value).length + n1 ≤ 4294967296 ∧ (([] : List Value).length + n1) * 24 ≤ 140737488355328) := by show _ ∧ _; have := HLB.out; have := HN8.out; simp; omega
    have HXL : Hid (∀ xs3 : List Value, xs3.length = n1 → ([] ++ xs3).length + n2 ≤ 4294967296 ∧ (([] ++ xs3).length + n2) * 24 ≤ 140737488355328) := by
      intro xs3 h3
      rw [List.nil_append, h3]
      have := HLB.out
      have := HN8.out
      omega
    have HLT1 : Hid (∀ b ∈ S1, b < W.heap.size) := (KEY.out _ (Below.refl _ _)).2.2.2.2.1.lt Shp.ints_good
    have HLT2 : Hid (∀ b ∈ S2, b < W.heap.size) := (KEY.out _ (Below.refl _ _)).2.2.2.2.2.1.lt Shp.ints_good
    have HLL : Hid ((l1 ++ l2).length = n1 + n2) := by show _ = _; rw [List.length_append, HL.out.1, HL.out.2]
    have HVV : Hid (∀ v ∈ l1 ++ l2, v.length = n) := fun v hv => (G1.out.vecs.append G2.out.vecs v hv).1
    have HFe : Hid ((l1 ++ l2).flatten.length = N) := by show _ = _; rw [flatten_len HVV.out, HLL.out, HN.out, Nat.mul_comm]
    have HFL : Hid ((l1 ++ l2).flatten.length ≤ 1048576) := by show _ ≤ _; rw [HFe.out]; exact hNb
    have HM4b : Hid (∀ m4, m4 = n1 + n2 → m4 ≤ 1048576) := by intro m4 h; have := HLB.out; have := HN8.out; omega
    have HNm : Hid (∀ m4, m4 = n1 + n2 → N = m4 * n) := by intro m4 h; rw [h, HN.out, Nat.mul_comm]
    have HGm : Hid (∀ m4, m4 = n1 + n2 → ∀ i j, i < m4 → j < n → (l1 ++ l2).flatten[i * n + j]?.getD 0 = rowsF (l1 ++ l2) i j) := fun m4 h i j hi hj => flatten_get HVV.out i j (by rw [HLL.out]; omega) hj
    have HN5b : Hid (∀ n5, n5 = N → n5 ≤ 1048576) := by rintro n5 rfl; exact hNb
    have hn1024 : n ≤ 1048576 := by have := HN8.out; omega
    go_region_held3 (fun w' => w'.cell? ⟨w.heap.size, 0, none⟩ = some (.int .i64 n) ∧ w'.cell? ⟨w.heap.size, 1, none⟩ = some (.slice a1 n1 c1) ∧ w'.cell? ⟨w.heap.size + 1, 1, none⟩ = some (.slice a2 n2 c2))
      ((refine HELD.out _ ?_; (repeat (first | exact Hid.out (by assumption) | refine below_al ?_ (Nat.le_refl _) _ | refine below_dr ?_ | refine below_st ?_ (by first | exact hzW | exact Nat.le_succ_of_le hzW | exact B3.out.size | exact B4.out.size | exact B5.out.size) _))))
      (first
        | ((refine at_world ((w2.alloc (.cells #[] 22)).drew) _ (by with_reducible rfl) ?_); (refine step_app_vals et_val Shp.ints_good rfl rfl (.tmp 35) (.tmp 37) rfl rfl OA.out SZA.out rfl (KEY.out _ BA.out).2.2.2.2.1 HB63.out.1 HB63.out.2 ?_); intro v3 w3 S3 xs3 T3 hC3 hT3 hO3 hF3 hS3; obtain ⟨a3, m3, d3, rfl⟩ := hO3.form; have B3 : Hid (Below W.heap.size W w3) := BA.out.trans (hF3.to_below SZA.out (fun b hb => OA.out.new.2 b hb)); have O3 := Lib.hid hO3; have C3 : Hid (CellsRd Shp.ints w3 xs3 l1 T3 ∧ (∀ b ∈ T3, b < W.heap.size)) := ⟨hC3.keep Shp.ints_good (fun b hb => hF3.block b (hC3.lt Shp.ints_good b hb) (fun hm => Nat.lt_irrefl _ (Nat.lt_of_lt_of_le (HLT1.out b (hT3 b hb)) (OA.out.new.2 b hm)))), fun b hb => HLT1.out b (hT3 b hb)⟩; have HX3 : Hid (([] ++ xs3).length + n2 ≤ 4294967296 ∧ (([] ++ xs3).length + n2) * 24 ≤ 140737488355328) := (HXL.out xs3 (Eq.trans hC3.vlen HL.out.1)); clear hC3 hT3 hO3 hF3 hS3)
        | ((refine at_world (((w2.alloc (.cells #[] 22)).alloc (.cells #[.int .i64 0, .int .i64 0, .slice none 0 0] 107)).drew) _ (by with_reducible rfl) ?_); (refine step_app_vals et_val Shp.ints_good rfl rfl (.tmp 35) (.tmp 37) rfl rfl OB.out SZB.out rfl (KEY.out _ BB.out).2.2.2.2.1 HB63.out.1 HB63.out.2 ?_); intro v3 w3 S3 xs3 T3 hC3 hT3 hO3 hF3 hS3; obtain ⟨a3, m3, d3, rfl⟩ := hO3.form; have B3 : Hid (Below W.heap.size W w3) := BB.out.trans (hF3.to_below SZB.out (fun b hb => OB.out.new.2 b hb)); have O3 := Lib.hid hO3; have C3 : Hid (CellsRd Shp.ints w3 xs3 l1 T3 ∧ (∀ b ∈ T3, b < W.heap.size)) := ⟨hC3.keep Shp.ints_good (fun b hb => hF3.block b (hC3.lt Shp.ints_good b hb) (fun hm => Nat.lt_irrefl _ (Nat.lt_of_lt_of_le (HLT1.out b (hT3 b hb)) (OB.out.new.2 b hm)))), fun b hb => HLT1.out b (hT3 b hb)⟩; have HX3 : Hid (([] ++ xs3).length + n2 ≤ 4294967296 ∧ (([] ++ xs3).length + n2) * 24 ≤ 140737488355328) := (HXL.out xs3 (Eq.trans hC3.vlen HL.out.1)); have M3 := Lib.hid (MB.out.frm hF3 ZB.out (by rw [List.mem_singleton]; exact NB.out)); have Z3 := Lib.hid (Nat.lt_of_lt_of_le ZB.out hF3.size); have N3 : Hid ((w2.heap.size + 1) ∉ S3) := (fun hm => Or.elim (hS3 _ hm) (fun h => NB.out (List.mem_singleton.1 h)) (fun h => Nat.lt_irrefl _ (Nat.lt_of_lt_of_le ZB.out h))); clear hC3 hT3 hO3 hF3 hS3)
        | ((refine at_world (((w2.alloc (.cells #[.int .i64 0, .int .i64 0, .slice none 0 0] 107)).alloc (.cells #[] 22)).drew) _ (by with_reducible rfl) ?_); (refine step_app_vals et_val Shp.ints_good rfl rfl (.tmp 35) (.tmp 37) rfl rfl OC.out SZC.out rfl (KEY.out _ BC.out).2.2.2.2.1 HB63.out.1 HB63.out.2 ?_); intro v3 w3 S3 xs3 T3 hC3 hT3 hO3 hF3 hS3; obtain ⟨a3, m3, d3, rfl⟩ := hO3.form; have B3 : Hid (Below W.heap.size W w3) := BC.out.trans (hF3.to_below SZC.out (fun b hb => OC.out.new.2 b hb)); have O3 := Lib.hid hO3; have C3 : Hid (CellsRd Shp.ints w3 xs3 l1 T3 ∧ (∀ b ∈ T3, b < W.heap.size)) := ⟨hC3.keep Shp.ints_good (fun b hb => hF3.block b (hC3.lt Shp.ints_good b hb) (fun hm => Nat.lt_irrefl _ (Nat.lt_of_lt_of_le (HLT1.out b (hT3 b hb)) (OC.out.new.2 b hm)))), fun b hb => HLT1.out b (hT3 b hb)⟩; have HX3 : Hid (([] ++ xs3).length + n2 ≤ 4294967296 ∧ (([] ++ xs3).length + n2) * 24 ≤ 140737488355328) := (HXL.out xs3 (Eq.trans hC3.vlen HL.out.1)); have M3 := Lib.hid (MC.out.frm hF3 ZC.out (by rw [List.mem_singleton]; exact NC.out)); have Z3 := Lib.hid (Nat.lt_of_lt_of_le ZC.out hF3.size); have N3 : Hid (w2.heap.size ∉ S3) := (fun hm => Or.elim (hS3 _ hm) (fun h => NC.out (List.mem_singleton.1 h)) (fun h => Nat.lt_irrefl _ (Nat.lt_of_lt_of_le ZC.out h))); clear hC3 hT3 hO3 hF3 hS3)
        | ((refine at_world (w3) _ (by with_reducible rfl) ?_); (refine step_app_vals et_val Shp.ints_good rfl rfl (.tmp 38) (.tmp 40) rfl rfl O3.out B3.out.size rfl (KEY.out _ B3.out).2.2.2.2.2.1 HX3.out.1 HX3.out.2 ?_); intro v4 w4 S4 xs4 T4 hC4 hT4 hO4 hF4 hS4; obtain ⟨a4, m4, d4, S5, rfl, hm4, hr4⟩ := cat_rd hO4 ((C3.out.1).keep Shp.ints_good (fun b hb => hF4.block b ((C3.out.1).lt Shp.ints_good b hb) (fun hm => Nat.lt_irrefl _ (Nat.lt_of_lt_of_le (C3.out.2 b hb) (O3.out.new.2 b hm))))) (hC4.keep Shp.ints_good (fun b hb => hF4.block b (hC4.lt Shp.ints_good b hb) (fun hm => Nat.lt_irrefl _ (Nat.lt_of_lt_of_le (HLT2.out b (hT4 b hb)) (O3.out.new.2 b hm))))); have B4 : Hid (Below W.heap.size W w4) := B3.out.trans (hF4.to_below B3.out.size (fun b hb => O3.out.new.2 b hb)); have R4 := Lib.hid hr4; have HM4 : Hid (m4 = n1 + n2) := Eq.trans hm4 HLL.out; have M4 := Lib.hid ((M3.out).frm hF4 (Z3.out) (N3.out)); have Z4 := Lib.hid (Nat.lt_of_lt_of_le (Z3.out) hF4.size); clear hC4 hT4 hO4 hF4 hS4 hm4 hr4)
        | ((refine at_world (w3) _ (by with_reducible rfl) ?_); (refine step_app_vals et_val Shp.ints_good rfl rfl (.tmp 38) (.tmp 40) rfl rfl O3.out B3.out.size rfl (KEY.out _ B3.out).2.2.2.2.2.1 HX3.out.1 HX3.out.2 ?_); intro v4 w4 S4 xs4 T4 hC4 hT4 hO4 hF4 hS4; obtain ⟨a4, m4, d4, S5, rfl, hm4, hr4⟩ := cat_rd hO4 ((C3.out.1).keep Shp.ints_good (fun b hb => hF4.block b ((C3.out.1).lt Shp.ints_good b hb) (fun hm => Nat.lt_irrefl _ (Nat.lt_of_lt_of_le (C3.out.2 b hb) (O3.out.new.2 b hm))))) (hC4.keep Shp.ints_good (fun b hb => hF4.block b (hC4.lt Shp.ints_good b hb) (fun hm => Nat.lt_irrefl _ (Nat.lt_of_lt_of_le (HLT2.out b (hT4 b hb)) (O3.out.new.2 b hm))))); have B4 : Hid (Below W.heap.size W w4) := B3.out.trans (hF4.to_below B3.out.size (fun b hb => O3.out.new.2 b hb)); have R4 := Lib.hid hr4; have HM4 : Hid (m4 = n1 + n2) := Eq.trans hm4 HLL.out; clear hC4 hT4 hO4 hF4 hS4 hm4 hr4)
        | ((refine at_world ((w3.alloc (.cells #[.int .i64 0, .int .i64 0, .slice none 0 0] 107))) _ (by with_reducible rfl) ?_); (refine step_app_vals et_val Shp.ints_good rfl rfl (.tmp 38) (.tmp 40) rfl rfl (O3.out.below Shp.val_good ((Below.refl w3.heap.size w3).alloc (Nat.le_refl _) (.cells #[.int .i64 0, .int .i64 0, .slice none 0 0] 107))) (below_al B3.out (Nat.le_refl _) (.cells #[.int .i64 0, .int .i64 0, .slice none 0 0] 107)).size rfl (KEY.out _ (below_al B3.out (Nat.le_refl _) (.cells #[.int .i64 0, .int .i64 0, .slice none 0 0] 107))).2.2.2.2.2.1 HX3.out.1 HX3.out.2 ?_); intro v4 w4 S4 xs4 T4 hC4 hT4 hO4 hF4 hS4; obtain ⟨a4, m4, d4, S5, rfl, hm4, hr4⟩ := cat_rd hO4 (((C3.out.1.below Shp.ints_good ((Below.refl w3.heap.size w3).alloc (Nat.le_refl _) (.cells #[.int .i64 0, .int .i64 0, .slice none 0 0] 107)))).keep Shp.ints_good (fun b hb => hF4.block b (((C3.out.1.below Shp.ints_good ((Below.refl w3.heap.size w3).alloc (Nat.le_refl _) (.cells #[.int .i64 0, .int .i64 0, .slice none 0 0] 107)))).lt Shp.ints_good b hb) (fun hm => Nat.lt_irrefl _ (Nat.lt_of_lt_of_le (C3.out.2 b hb) (O3.out.new.2 b hm))))) (hC4.keep Shp.ints_good (fun b hb => hF4.block b (hC4.lt Shp.ints_good b hb) (fun hm => Nat.lt_irrefl _ (Nat.lt_of_lt_of_le (HLT2.out b (hT4 b hb)) (O3.out.new.2 b hm))))); have B4 : Hid (Below W.heap.size W w4) := (below_al B3.out (Nat.le_refl _) (.cells #[.int .i64 0, .int .i64 0, .slice none 0 0] 107)).trans (hF4.to_below (below_al B3.out (Nat.le_refl _) (.cells #[.int .i64 0, .int .i64 0, .slice none 0 0] 107)).size (fun b hb => O3.out.new.2 b hb)); have R4 := Lib.hid hr4; have HM4 : Hid (m4 = n1 + n2) := Eq.trans hm4 HLL.out; have M4 := Lib.hid ((At.alloc w3 #[.int .i64 0, .int .i64 0, .slice none 0 0] 107).frm hF4 (size_al _ _) (fun hm => Nat.lt_irrefl _ (O3.out.lt Shp.val_good _ hm))); have Z4 := Lib.hid (Nat.lt_of_lt_of_le (size_al _ _) hF4.size); clear hC4 hT4 hO4 hF4 hS4 hm4 hr4)
        | (go_at_call 101; first | ((with_reducible refine Calls.mono (c_l5Rows n a4 m4 d4 (l1 ++ l2) S5 w4 (R4.out) (HM4b.out m4 HM4.out) HFL.out) ?_); rintro e w5 ⟨v, rfl, hb5, a5, n5, c5, S6, rfl, hr5, -⟩; have B5 : Hid (Below W.heap.size W w5) := below_tr (B4.out) (Nat.le_refl _) hb5; have R5 := Lib.hid hr5; have HN5 : Hid (n5 = N) := Eq.trans (Eq.symm (And.left hr5)) HFe.out; have M5 := Lib.hid (At.bl (M4.out) (Z4.out) hb5); have Z5 := Lib.hid (Nat.lt_of_lt_of_le (Z4.out) hb5.size); clear hb5 hr5) | ((with_reducible refine Calls.mono (c_l5Rows n a4 m4 d4 (l1 ++ l2) S5 w4 (R4.out) (HM4b.out m4 HM4.out) HFL.out) ?_); rintro e w5 ⟨v, rfl, hb5, a5, n5, c5, S6, rfl, hr5, -⟩; have B5 : Hid (Below W.heap.size W w5) := below_tr (B4.out) (Nat.le_refl _) hb5; have R5 := Lib.hid hr5; have HN5 : Hid (n5 = N) := Eq.trans (Eq.symm (And.left hr5)) HFe.out; clear hb5 hr5) | ((with_reducible refine Calls.mono (c_l5Rows n a4 m4 d4 (l1 ++ l2) S5 (w4.alloc (.cells #[.int .i64 0, .int .i64 0, .slice none 0 0] 107)) (R4.out.below Shp.ints_good ((Below.refl w4.heap.size w4).alloc (Nat.le_refl _) (.cells #[.int .i64 0, .int .i64 0, .slice none 0 0] 107))) (HM4b.out m4 HM4.out) HFL.out) ?_); rintro e w5 ⟨v, rfl, hb5, a5, n5, c5, S6, rfl, hr5, -⟩; have B5 : Hid (Below W.heap.size W w5) := below_tr (below_al B4.out (Nat.le_refl _) (.cells #[.int .i64 0, .int .i64 0, .slice none 0 0] 107)) (Nat.le_refl _) hb5; have R5 := Lib.hid hr5; have HN5 : Hid (n5 = N) := Eq.trans (Eq.symm (And.left hr5)) HFe.out; have M5 := Lib.hid (At.bl (At.alloc w4 #[.int .i64 0, .int .i64 0, .slice none 0 0] 107) (size_al _ _) hb5); have Z5 := Lib.hid (Nat.lt_of_lt_of_le (size_al _ _) hb5.size); clear hb5 hr5))
        | (go_at_call 100; first | ((with_reducible refine Calls.mono (c_l3Transpose m4 n n5 a5 c5 _ S6 (rowsF (l1 ++ l2)) w5 (R5.out) (Eq.trans HN5.out (HNm.out m4 HM4.out)) (HN5b.out n5 HN5.out) (HM4b.out m4 HM4.out) hn1024 (HGm.out m4 HM4.out)) ?_); rintro e w6 ⟨v, rfl, hb6, g, rfl, hg, hm6⟩; have B6 : Hid (Below W.heap.size W w6) := below_tr (B5.out) (Nat.le_refl _) hb6; have MM := Lib.hid hm6; have M6 := Lib.hid (At.bl (M5.out) (Z5.out) hb6); have G6 := Lib.hid (Nat.lt_of_lt_of_le (Z5.out) hg); have o0 := M6.out.c0; have o1 := M6.out.c1; have o2 := M6.out.c2; have i0 := M6.out.f0; have i1 := M6.out.f1; have i2 := M6.out.f2; have G7 : Hid (W.heap.size ≤ g) := Nat.le_trans (B5.out).size hg; clear hb6 hm6 hg) | ((with_reducible refine Calls.mono (c_l3Transpose m4 n n5 a5 c5 _ S6 (rowsF (l1 ++ l2)) w5 (R5.out) (Eq.trans HN5.out (HNm.out m4 HM4.out)) (HN5b.out n5 HN5.out) (HM4b.out m4 HM4.out) hn1024 (HGm.out m4 HM4.out)) ?_); rintro e w6 ⟨v, rfl, hb6, g, rfl, hg, hm6⟩; have B6 : Hid (Below W.heap.size W w6) := below_tr (B5.out) (Nat.le_refl _) hb6; have MM := Lib.hid hm6; have G7 : Hid (W.heap.size ≤ g) := Nat.le_trans (B5.out).size hg; clear hb6 hm6 hg) | ((with_reducible refine Calls.mono (c_l3Transpose m4 n n5 a5 c5 _ S6 (rowsF (l1 ++ l2)) (w5.alloc (.cells #[.int .i64 0, .int .i64 0, .slice none 0 0] 107)) (R5.out.below Shp.int_good ((Below.refl w5.heap.size w5).alloc (Nat.le_refl _) (.cells #[.int .i64 0, .int .i64 0, .slice none 0 0] 107))) (Eq.trans HN5.out (HNm.out m4 HM4.out)) (HN5b.out n5 HN5.out) (HM4b.out m4 HM4.out) hn1024 (HGm.out m4 HM4.out)) ?_); rintro e w6 ⟨v, rfl, hb6, g, rfl, hg, hm6⟩; have B6 : Hid (Below W.heap.size W w6) := below_tr (below_al B5.out (Nat.le_refl _) (.cells #[.int .i64 0, .int .i64 0, .slice none 0 0] 107)) (Nat.le_refl _) hb6; have MM := Lib.hid hm6; have M6 := Lib.hid (At.bl (At.alloc w5 #[.int .i64 0, .int .i64 0, .slice none 0 0] 107) (size_al _ _) hb6); have G6 := Lib.hid (Nat.lt_of_lt_of_le (size_al _ _) hg); have o0 := M6.out.c0; have o1 := M6.out.c1; have o2 := M6.out.c2; have i0 := M6.out.f0; have i1 := M6.out.f1; have i2 := M6.out.f2; have G7 : Hid (W.heap.size ≤ g) := Nat.le_trans (below_al B5.out (Nat.le_refl _) (.cells #[.int .i64 0, .int .i64 0, .slice none 0 0] 107)).size hg; clear hb6 hm6 hg)))
    all_goals (
      go_wp2_with fail
      go_meet
      show MeetSt _ _ _ _ _ _ _ _
      rw [← HN5.out, ← HM4.out]
      first
        | exact meet_set M6.out MM.out B6.out (by first | exact hzW | exact Nat.le_succ_of_le hzW | exact B3.out.size | exact B4.out.size | exact B5.out.size) G6.out
        | exact meet_al MM.out B6.out (Nat.le_refl _) G7.out)
  case rest =>
    obtain ⟨X, g, rfl, hTX, hXs, hTg, hBc, hX, hM⟩ := hcut.out
    obtain ⟨hp2, hp5⟩ := isF_bd HPF.out
    obtain ⟨m, hm⟩ : ∃ m, m = n1 + n2 := ⟨_, rfl⟩
    rw [← hm] at hX hM
    have hn8 := HN8.out
    have hlb := HLB.out
    have HML : Hid ((l1 ++ l2).length = m) := by show _ = _; rw [List.length_append, HL.out.1, HL.out.2, hm]
    have HIc : Hid (InP p n m (colsF (l1 ++ l2))) := by
      intro i j hi hj
      exact (G1.out.vecs.append G2.out.vecs).inP j i (by rw [HML.out]; exact hj) hi
    have HK := Lib.hid (c_l4Kernel p n m (some ⟨g, 0, none⟩) N N _ _ wc HPF.out (hM.rd (HIc.out.fits' hp5) (by rw [HN.out, hm]) (Nat.le_refl _) (by unfold maxLen; omega)) (by rw [HN.out, hm]) hNb (by omega) (by omega) (colsF (l1 ++ l2)) (fun i j hi hj => cellsL_get _ _ _ hi hj) HIc.out)
    have q0 := hX.c0
    have q1 := hX.c1
    have q2 := hX.c2
    have BC := Lib.hid hBc
    have hm1 : n1 ≤ m := by omega
    have hmb : m ≤ 16 := by omega
    have HMe := Lib.hid hm
    have hn1b : n1 ≤ 8 := by omega
    have HV1 : Hid (∀ i j, i < n1 → j < n → 0 ≤ rowsF l1 i j ∧ rowsF l1 i j < p) := fun i j hi hj => G1.out.vecs.inP i j (by rw [HL.out.1]; exact hi) hj
    have HV1l : Hid (∀ i, i < n1 → (l1[i]?.getD []).length = n) := fun i hi => by
      have h3 : i < l1.length := by rw [HL.out.1]; exact hi
      simp only [h3, List.getElem?_eq_getElem, Option.getD_some]
      exact (G1.out.vecs _ (List.getElem_mem h3)).1
    have HLT : Hid (∀ b ∈ S1, b < W.heap.size) := (KEY.out _ (Below.refl _ _)).2.2.2.2.1.lt Shp.ints_good
    clear hX hM hBc hcut hm hTg hlb
    go_wp2_with fail
    refine HK.out.mono ?_
    rintro e w3 ⟨v, rfl, hb3, SK, hOK⟩
    obtain ⟨aK, nK, cK, SK', rfl, hnK, rdK, -, -⟩ := hOK.rd
    have B3 := Lib.hid (below_tr BC.out (Nat.le_refl _) hb3)
    have HKP : Hid (nK = (kerL p m (redUp p n (colsF (l1 ++ l2)) m).1 (redUp p n (colsF (l1 ++ l2)) m).2).length ∧ nK ≤ m ∧ (∀ k, k < nK → ((kerL p m (redUp p n (colsF (l1 ++ l2)) m).1 (redUp p n (colsF (l1 ++ l2)) m).2)[k]?.getD []).length = m ∧ ∀ x ∈ (kerL p m (redUp p n (colsF (l1 ++ l2)) m).1 (redUp p n (colsF (l1 ++ l2)) m).2)[k]?.getD [], 0 ≤ x ∧ x < p)) := by
      refine ⟨hnK, by rw [hnK]; unfold kerL; rw [List.length_map]; exact freeL_len _ _, fun k hk => ?_⟩
      have h1 : k < (kerL p m (redUp p n (colsF (l1 ++ l2)) m).1 (redUp p n (colsF (l1 ++ l2)) m).2).length := by omega
      simp only [h1, List.getElem?_eq_getElem, Option.getD_some]
      have h2 := List.getElem_mem h1
      unfold kerL at h2
      simp only [List.mem_map] at h2
      obtain ⟨f, _, hf⟩ := h2
      have h3 : (kerL p m (redUp p n (colsF (l1 ++ l2)) m).1 (redUp p n (colsF (l1 ++ l2)) m).2)[k] = kerV p m (redUp p n (colsF (l1 ++ l2)) m).1 (redUp p n (colsF (l1 ++ l2)) m).2 f (redUp p n (colsF (l1 ++ l2)) m).2.length := hf.symm
      rw [h3]
      exact ⟨kerV_len _ _ _ _ _ _, kerV_in HPF.out _ _ _ _ _⟩
    have HMV : Hid (meetV p n l1 l2 = (kerL p m (redUp p n (colsF (l1 ++ l2)) m).1 (redUp p n (colsF (l1 ++ l2)) m).2).map fun k => combV p n l1 k n1) := by
      show _ = _
      unfold meetV
      rw [HML.out, HL.out.1]
    have RK := Lib.hid rdK
    generalize kerL p m (redUp p n (colsF (l1 ++ l2)) m).1 (redUp p n (colsF (l1 ++ l2)) m).2 = K at *
    have hnKm : nK ≤ m := HKP.out.2.1
    have O0 : Hid (Own 22 Shp.ints (w3.alloc (.cells #[] 22)) w3.heap.size (.slice (some ⟨w3.heap.size, 0, none⟩) 0 0) [] [w3.heap.size] ∧ Below w3.heap.size w3 (w3.alloc (.cells #[] 22))) := ⟨Own.lit0 Shp.ints 22 w3 (Nat.le_refl _), (Below.refl _ _).alloc (Nat.le_refl _) _⟩
    clear hb3 hOK rdK hnK HK q0 q1 q2
    go_wp2
    generalize w3.alloc (.cells #[] 22) = W4 at *
    go_loopw [10, 11] (fun s i wr => ∃ (k : Nat) (aF : Option Addr) (nF cF : Nat) (SF : List Nat), k ≤ nK ∧ i = .int .i64 k ∧ s = .slice aF nF cF ∧ Hid (Own 22 Shp.ints wr w3.heap.size (.slice aF nF cF) ((K.take k).map fun k => combV p n l1 k n1) SF ∧ Below w3.heap.size w3 wr)) (fun _ i _ => nK - (intOf i).toNat)
    case atStart => exact ⟨0, _, 0, 0, _, Nat.zero_le _, rfl, rfl, O0.out.1, O0.out.2⟩
    clear O0
    case round =>
      obtain ⟨k, aF, nF, cF, SF, hk, rfl, rfl, H⟩ := hrel
      by_cases hlt : k < nK
      · generalize wr = Wo at *
        have HKk := Lib.hid (HKP.out.2.2 k hlt)
        have HTS : Hid (K.take (k + 1) = K.take k ++ [K[k]?.getD []]) := take_snoc K k [] (by have := HKP.out.1; omega)
        have HKR : Hid (∀ wr, Below Wo.heap.size Wo wr → ∃ b o a' c', aK = some ⟨b, o, none⟩ ∧ wr.cell? ⟨b, o + k, none⟩ = some (.slice a' m c') ∧ IntRow wr a' m (K[k]?.getD [])) := by
          intro wr hb
          obtain ⟨b, o, cs, T, hab, -, -, hat, ⟨a', n', c', rfl, hsl⟩, -⟩ := ((RK.out.below Shp.ints_good H.out.2).below Shp.ints_good hb).at Shp.ints_good [] hlt
          have q0 := (hat 0 _ rfl).1
          have e3 : Shp.ints.size = 1 := rfl
          rw [e3, Nat.mul_one, Nat.add_zero] at q0
          have hn' : n' = m := by rw [← hsl.1]; exact HKk.out.1
          subst hn'
          exact ⟨b, o, a', c', hab, q0, hsl.row⟩
        generalize K[k]?.getD [] = kv at *
        have Bo := Lib.hid (below_tr B3.out (Nat.le_refl _) H.out.2)
        have q1 := (KEY.out _ Bo.out).2.1.c0
        obtain ⟨i0, hi, hz0, hz1, hz2⟩ := info_parts Try.info3
        obtain ⟨w4, hmk, hown0, hg0⟩ := run_make_full (P := Try.prog) Wo Wo.heap.size 22 3 i0 (.int .i64 0) 1 Try.underlying22 hi hz0 hz1 .i64 .i64 n (by rw [hz2]; omega) (by unfold maxLen; omega) (Nat.le_refl _)
        have hb4 : Below Wo.heap.size Wo w4 := (Below.refl _ _).grown hg0 (Nat.le_refl _) (fun k hk => by cases hk)
        simp only [Value.cells, toList_madeCells_one] at hown0
        have HO0 : Hid ((Wo.heap.size < w4.heap.size ∧ ∀ j, j < n → w4.cell? ⟨Wo.heap.size, j, none⟩ = some (.int .i64 ((combV p n l1 kv 0)[j]?.getD 0)) ∧ w4.frozen? ⟨Wo.heap.size, j, none⟩ = false) ∧ Below Wo.heap.size Wo w4) := by
          refine ⟨⟨(hown0.lt _ rfl).2, fun j hj => ⟨?_, hown0.frozenAt j⟩⟩, hb4⟩
          rw [hown0.cellAt j (by simp; omega)]
          simp [hj, combV]
        clear hz0 hz1 hz2 hi hg0 hown0 hb4
        go_wp2
        clear hmk q1
        go_loopw [13] (fun j wx => ∃ i : Nat, i ≤ n1 ∧ j = .int .i64 i ∧ Hid ((Wo.heap.size < wx.heap.size ∧ ∀ j, j < n → wx.cell? ⟨Wo.heap.size, j, none⟩ = some (.int .i64 ((combV p n l1 kv i)[j]?.getD 0)) ∧ wx.frozen? ⟨Wo.heap.size, j, none⟩ = false) ∧ Below Wo.heap.size Wo wx)) (fun j _ => n1 - (intOf j).toNat)
        case atStart => exact ⟨0, Nat.zero_le _, rfl, HO0.out⟩
        clear HO0
        case round =>
          obtain ⟨t, ht, rfl, HX⟩ := hrel
          have r1 := (KEY.out _ (below_tr Bo.out (Nat.le_refl _) HX.out.2)).2.1.c1
          by_cases hlt2 : t < n1
          · go_wp2
            clear r1
            go_loopw [14] (fun j wx => ∃ x : Nat, x ≤ n ∧ j = .int .i64 x ∧ Hid ((Wo.heap.size < wx.heap.size ∧ ∀ j, j < n → wx.cell? ⟨Wo.heap.size, j, none⟩ = some (.int .i64 (if j < x then (combV p n l1 kv (t + 1))[j]?.getD 0 else (combV p n l1 kv t)[j]?.getD 0)) ∧ wx.frozen? ⟨Wo.heap.size, j, none⟩ = false) ∧ Below Wo.heap.size Wo wx)) (fun j _ => n - (intOf j).toNat)
            case atStart => exact ⟨0, Nat.zero_le _, rfl, ⟨HX.out.1.1, fun j hj => by rw [if_neg (Nat.not_lt_zero j)]; exact HX.out.1.2 j hj⟩, HX.out.2⟩
            clear HX
            case round =>
              obtain ⟨x, hx', rfl, HX⟩ := hrel
              have hBx := below_tr Bo.out (Nat.le_refl _) HX.out.2
              have K5 := KEY.out _ hBx
              have r0 := K5.2.1.c0
              have r1 := K5.2.1.c1
              by_cases hx : x < n
              · have hzo : W.heap.size ≤ Wo.heap.size := Bo.out.size
                obtain ⟨b2, o2, cs2, T2, rfl, hb2, hbS2, hat2, ⟨aw, nw, cw, rfl, hslw⟩, hsubw⟩ := K5.2.2.2.2.1.at Shp.ints_good [] hlt2
                have q0 := (hat2 0 _ rfl).1
                have e3 : Shp.ints.size = 1 := rfl
                rw [e3, Nat.mul_one, Nat.add_zero] at q0
                have hnw : nw = n := by rw [← hslw.1]; exact HV1l.out t hlt2
                subst hnw
                obtain ⟨gb, ob, rfl, hgb, hcb⟩ := hslw.row.cell (by omega)
                have hB := (hcb x hx).1
                obtain ⟨bk, ok, ak, ck, rfl, hkh, hkr⟩ := HKR.out wr HX.out.2
                obtain ⟨b5, o5, rfl, hb5, hc5⟩ := hkr.cell (by omega)
                have htm : t < m := by omega
                have hck := (hc5 t htm).1
                have hkb := HKk.out.2 (kv[t]?.getD 0) (by
                  have h1 : t < kv.length := by rw [HKk.out.1]; omega
                  simp only [h1, List.getElem?_eq_getElem, Option.getD_some]
                  exact List.getElem_mem h1)
                have hBb := HV1.out t x hlt2 hx
                obtain ⟨hA, hAf⟩ := HX.out.1.2 x hx
                rw [if_neg (Nat.lt_irrefl x)] at hA
                have hAb : 0 ≤ (combV p nw l1 kv t)[x]?.getD 0 ∧ (combV p nw l1 kv t)[x]?.getD 0 < p := by
                  have h1 : x < (combV p nw l1 kv t).length := by rw [combV_len]; exact hx
                  have h2 := combV_in HPF.out nw l1 kv t _ (List.getElem_mem h1)
                  simp only [h1, List.getElem?_eq_getElem, Option.getD_some]
                  exact h2
                have HNV : Hid ((combV p nw l1 kv (t + 1))[x]?.getD 0 = ((combV p nw l1 kv t)[x]?.getD 0 + kv[t]?.getD 0 * rowsF l1 t x) % p) := by show _ = _; simp [combV, hx]
                have hBr : (l1[t]?.getD [])[x]?.getD 0 = rowsF l1 t x := rfl
                rw [hBr] at hB
                obtain ⟨A, hAe⟩ : ∃ A, A = (combV p nw l1 kv t)[x]?.getD 0 := ⟨_, rfl⟩
                obtain ⟨kk, hke⟩ : ∃ kk, kk = kv[t]?.getD 0 := ⟨_, rfl⟩
                obtain ⟨B, hBe⟩ : ∃ B, B = rowsF l1 t x := ⟨_, rfl⟩
                rw [← hAe] at hA hAb HNV
                rw [← hke] at hck hkb HNV
                rw [← hBe] at hB hBb HNV
                obtain ⟨P, hP⟩ : ∃ P, P = kk * B := ⟨_, rfl⟩
                have h1 := @mul_small kk B (by omega) (by omega)
                rw [← hP] at h1 HNV
                have hkP := mulK' hP h1
                have hkS : IntKind.i64.wrap (A + P) = A + P := IntWalk.i64_in _ ⟨by omega, by omega⟩
                have HM2 := Lib.hid (still_of (c_l2Mod p (A + P) HPF.out (by unfold fits; omega) wr.drew))
                have HN3 : Hid ((Wo.heap.size < (wr.setCell ⟨Wo.heap.size, x, none⟩ (.int .i64 ((A + P) % p))).heap.size ∧ ∀ j, j < nw → (wr.setCell ⟨Wo.heap.size, x, none⟩ (.int .i64 ((A + P) % p))).cell? ⟨Wo.heap.size, j, none⟩ = some (.int .i64 (if j < x + 1 then (combV p nw l1 kv (t + 1))[j]?.getD 0 else (combV p nw l1 kv t)[j]?.getD 0)) ∧ (wr.setCell ⟨Wo.heap.size, x, none⟩ (.int .i64 ((A + P) % p))).frozen? ⟨Wo.heap.size, j, none⟩ = false) ∧ Below Wo.heap.size Wo (wr.setCell ⟨Wo.heap.size, x, none⟩ (.int .i64 ((A + P) % p)))) := by
                  refine ⟨⟨by have := HX.out.1.1; simpa using this, fun j hj => ⟨?_, by rw [World.frozen?_setCell]; exact (HX.out.1.2 j hj).2⟩⟩, HX.out.2.setCell (Nat.le_refl _) _⟩
                  by_cases ej : j = x
                  · subst ej
                    rw [World.cell?_setCell_same _ _ _ (HX.out.1.2 j hj).1, if_pos (Nat.lt_succ_self _), HNV.out]
                  · rw [World.cell?_setCell_other _ _ _ _ (by simp only [ne_eq, Addr.mk.injEq, and_true, true_and]; exact fun e' => ej e'.symm), (HX.out.1.2 j hj).1]
                    have h2 : j < x + 1 ↔ j < x := by omega
                    simp only [h2]
                clear hBx K5 hat2 hslw hsubw hbS2 hc5 hcb hkr hkb hBb hAb hb5 hb2 hgb hAe hke hBe hP h1 hBr
                go_wp2
                go_still_tail 26, (by kernel_rfl)
                still_call HM2.out
                repeat still_step
                refine wpStill_nil ?_
                change wpList _ _ _ _ _ wr.drew
                go_wp2
                go_roundw
                case rel =>
                  exact ⟨x + 1, by omega, by go_num, HN3.out.1, below_dr HN3.out.2⟩
                case measure => simp [intOf]; omega
              · obtain rfl : x = n := by omega
                have HN2 : Hid ((Wo.heap.size < wr.heap.size ∧ ∀ j, j < x → wr.cell? ⟨Wo.heap.size, j, none⟩ = some (.int .i64 ((combV p x l1 kv (t + 1))[j]?.getD 0)) ∧ wr.frozen? ⟨Wo.heap.size, j, none⟩ = false) ∧ Below Wo.heap.size Wo wr) :=
                  ⟨⟨HX.out.1.1, fun j hj => by have h := HX.out.1.2 j hj; rw [if_pos hj] at h; exact h⟩, HX.out.2⟩
                clear hBx K5
                go_wp2
                go_roundw
                case rel => exact ⟨t + 1, by omega, by go_num, HN2.out⟩
                case measure => simp [intOf]; omega
          · obtain rfl : t = n1 := by omega
            have hRD : SliceRd Shp.int wr (some ⟨Wo.heap.size, 0, none⟩) n n (combV p n l1 kv t) (iblk (some ⟨Wo.heap.size, 0, none⟩) n) := by
              refine ints_mk ⟨combV_len _ _ _ _ _, by omega, fun _ => ⟨_, 0, rfl, HX.out.1.1, fun j hj => by rw [Nat.zero_add]; exact HX.out.1.2 j hj⟩, fun j hj => ?_⟩ (Nat.le_refl _) (by unfold maxLen; omega)
              have h1 : j < (combV p n l1 kv t).length := by rw [combV_len]; exact hj
              have h2 := combV_in HPF.out n l1 kv t _ (List.getElem_mem h1)
              simp only [h1, List.getElem?_eq_getElem, Option.getD_some]
              unfold fits; omega
            have hIB : ∀ b ∈ iblk (some (⟨Wo.heap.size, 0, none⟩ : Addr)) n, b = Wo.heap.size := by
              intro b hb
              unfold iblk at hb
              split at hb
              · cases hb
              · simpa using hb
            have hND : (iblk (some (⟨Wo.heap.size, 0, none⟩ : Addr)) n).Nodup := by unfold iblk; split <;> simp
            have H5 : Hid (Own 22 Shp.ints wr w3.heap.size (.slice aF nF cF) ((K.take k).map fun k => combV p n l1 k t) SF ∧ Below w3.heap.size w3 wr ∧ Shp.ints.rd wr [.slice (some ⟨Wo.heap.size, 0, none⟩) n n] (combV p n l1 kv t) (iblk (some ⟨Wo.heap.size, 0, none⟩) n) ∧ New w3.heap.size (iblk (some ⟨Wo.heap.size, 0, none⟩) n) ∧ ∀ b ∈ SF, b ∉ iblk (some ⟨Wo.heap.size, 0, none⟩) n) :=
              ⟨H.out.1.below Shp.ints_good HX.out.2, below_tr H.out.2 (Nat.le_refl _) HX.out.2, ⟨_, _, _, rfl, hRD⟩, ⟨hND, fun b hb => by rw [hIB b hb]; exact H.out.2.size⟩, fun b hb hm => by have h1 := H.out.1.lt Shp.ints_good b hb; have h2 := hIB b hm; omega⟩
            have hlF : ((K.take k).map fun k => combV p n l1 k t).length ≤ k := by rw [List.length_map]; exact List.length_take_le _ _
            have HLF := Lib.hid hlF
            have hW5 : w3.heap.size ≤ wr.heap.size := H5.out.2.1.size
            clear hRD hIB hND hlF
            go_wp2_with (at_builtin; refine wpList_app1 et_ints Shp.ints_good rfl (.tmp 96) (.tmp 98) rfl rfl H5.out.1 hW5 rfl rfl H5.out.2.2.1 H5.out.2.2.2.1 H5.out.2.2.2.2 (by have := HLF.out; omega) (by have := HLF.out; omega) ?_; intro v6 w6 S6 hO6 hF6 hS6; obtain ⟨a6, n6, c6, rfl⟩ := hO6.form; have Y := Lib.hid (And.intro hO6 hF6); clear hO6 hF6 hS6)
            go_roundw
            case rel =>
              refine ⟨k + 1, a6, n6, c6, S6, by omega, by go_num, rfl, ?_, H5.out.2.1.trans (Y.out.2.to_below hW5 (fun b hb => H5.out.1.new.2 b hb))⟩
              rw [HTS.out, List.map_append]
              exact Y.out.1
            case measure => simp [intOf]; omega
      · obtain rfl : k = nK := by omega
        have HE : Hid ((K.take k).map (fun k => combV p n l1 k n1) = meetV p n l1 l2) := by
          show _ = _
          rw [HMV.out, HKP.out.1, List.take_length]
        obtain ⟨_, _, _, SF', hv, hnF, rdF, -, -⟩ := H.out.1.rd
        cases hv
        rw [HE.out] at rdF
        have hnF2 : nF ≤ 1024 := by rw [hnF, List.length_map]; have := List.length_take_le k K; omega
        have HSp := Lib.hid (c_l5Span p n nF aF cF _ SF' wr HPF.out rdF (by omega) hnF2 (meetV_in HPF.out n l1 l2))
        have Br := Lib.hid (below_tr B3.out (Nat.le_refl _) H.out.2)
        have q0 := (KEY.out _ Br.out).2.1.c0
        clear rdF hnF hnF2
        go_wp2_with fail
        refine HSp.out.mono ?_
        rintro e w5 ⟨v, rfl, hb5, a5, n5, c5, S5, rfl, hO5⟩
        have B5 := Lib.hid (below_tr Br.out (Nat.le_refl _) hb5)
        have o0 := (KEY.out _ B5.out).2.2.2.1.c0
        have o1 := (KEY.out _ B5.out).2.2.2.1.c1
        have i0 := (KEY.out _ B5.out).2.2.2.1.f0
        have i1 := (KEY.out _ B5.out).2.2.2.1.f1
        have HE : Hid (∀ x y : Value, Below w.heap.size w ((w5.setCell ⟨w.heap.size + 1 + 1, 0, none⟩ x).setCell ⟨w.heap.size + 1 + 1, 1, none⟩ y) ∧ ∃ S, SliceRd Shp.ints ((w5.setCell ⟨w.heap.size + 1 + 1, 0, none⟩ x).setCell ⟨w.heap.size + 1 + 1, 1, none⟩ y) a5 n5 c5 (meetL p n l1 l2) S ∧ New w.heap.size S) := by
          intro x y
          have hz : w.heap.size + 1 + 1 < wr.heap.size := by have := (KEY.out _ Br.out).2.2.2.2.2.2; omega
          have h2 := own_lower (own_two hO5 Shp.ints_good hz 0 1 x y) (B' := w.heap.size) (by omega)
          obtain ⟨_, _, _, S', hv, -, rd, nw, -⟩ := h2.rd
          cases hv
          exact ⟨((KEY.out _ B5.out).1.setCell (by show w.heap.size ≤ w.heap.size + 1 + 1; omega) _).setCell (by show w.heap.size ≤ w.heap.size + 1 + 1; omega) _, S', rd, nw⟩
        clear hb5 hO5 q0
        go_wp2
        obtain ⟨hb, S, hr, hw⟩ := HE.out (.int .i64 n) (.slice a5 n5 c5)
        exact bodyPost_ret (v := .tuple #[.agg #[.int .i64 n, .slice a5 n5 c5], .bool true]) (by simp [results, Try.results49, go_sem, o0, o1]) rfl ⟨_, rfl, hb, a5, n5, c5, S, rfl, hr, hw⟩
end Go.Proofs.Ytpngpgbmkkjjgaa

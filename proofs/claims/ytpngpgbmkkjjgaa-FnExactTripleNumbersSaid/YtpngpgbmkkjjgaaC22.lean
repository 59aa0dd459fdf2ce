/-
  Contracts: intersections of spaces.
-/
import Derived.Test.YtpngpgbmkkjjgaaC21
import Derived.Deep.DeepCutAuto
namespace Go.Proofs.Ytpngpgbmkkjjgaa
open Go.RowKit

theorem below_al {B : Nat} {a w : World} (h : Below B a w) (hB : B ≤ a.heap.size) (o : Obj) : Below B a (w.alloc o) := h.alloc (Nat.le_trans hB h.size) o
theorem below_dr {B : Nat} {a w : World} (h : Below B a w) : Below B a w.drew := ⟨h.os, h.tape, h.output, h.size, h.block⟩
theorem below_st {B : Nat} {a w : World} (h : Below B a w) {p : Addr} (hp : B ≤ p.block) (v : Value) : Below B a (w.setCell p v) := h.setCell hp v
theorem below_tr {B : Nat} {a b c : World} (h : Below B a b) (hB : B ≤ a.heap.size) (k : Below b.heap.size b c) : Below B a c := h.trans (k.mono (Nat.le_trans hB h.size))
theorem At.bl {w w' : World} {b o : Nat} {cs : List Value} (h : At w b o cs) (hlt : b < w.heap.size) (hb : Below w.heap.size w w') : At w' b o cs := h.keep (hb.block _ hlt)

/-- What the first statement of meetSpace leaves. -/
def MeetSt (n m N : Nat) (l : List (List Int)) (T : Nat) (W : World) (v : Value) (wx : World) : Prop :=
  ∃ X g, v = .pointer (some ⟨X, 0, none⟩) ∧ T ≤ X ∧ X < wx.heap.size ∧ T ≤ g ∧ Below T W wx ∧ At wx X 0 [.int .i64 n, .int .i64 m, .slice (some ⟨g, 0, none⟩) N N] ∧ MatAt wx g n m (colsF l)

theorem meet_set {n m N : Nat} {l : List (List Int)} {T : Nat} {W w2 : World} {X g : Nat} (hM : At w2 X 0 [.int .i64 0, .int .i64 0, .slice none 0 0]) (hmat : MatAt w2 g n m (colsF l)) (hB : Below T W w2) (hT : T ≤ X) (hX : X < g) :
    MeetSt n m N l T W (.pointer (some ⟨X, 0, none⟩)) (((w2.setCell ⟨X, 0, none⟩ (.int .i64 n)).setCell ⟨X, 1, none⟩ (.int .i64 m)).setCell ⟨X, 2, none⟩ (.slice (some ⟨g, 0, none⟩) N N)) := by
  have hfr : Frm [X] w2 (((w2.setCell ⟨X, 0, none⟩ (.int .i64 n)).setCell ⟨X, 1, none⟩ (.int .i64 m)).setCell ⟨X, 2, none⟩ (.slice (some ⟨g, 0, none⟩) N N)) := (((Frm.refl _ _).setCell (by simp) _).setCell (by simp) _).setCell (by simp) _
  exact ⟨X, g, rfl, hT, by have := hmat.1; simp; omega, by omega, ((hB.setCell hT _).setCell hT _).setCell hT _, ((hM.set 0 (.int .i64 n) (by simp)).set 1 (.int .i64 m) (by simp)).set 2 (.slice (some ⟨g, 0, none⟩) N N) (by simp), hmat.frm hfr (by rw [List.mem_singleton]; omega)⟩
theorem meet_al {n m N : Nat} {l : List (List Int)} {T : Nat} {W w2 : World} {g e : Nat} (hmat : MatAt w2 g n m (colsF l)) (hB : Below T W w2) (hT : T ≤ W.heap.size) (hg : T ≤ g) :
    MeetSt n m N l T W (.pointer (some ⟨w2.heap.size, 0, none⟩)) (w2.alloc (.cells #[.int .i64 n, .int .i64 m, .slice (some ⟨g, 0, none⟩) N N] e)) :=
  ⟨w2.heap.size, g, rfl, Nat.le_trans hT hB.size, by simp, hg, below_al hB hT _, At.alloc _ _ _, hmat.below ((Below.refl _ _).alloc (Nat.le_refl _) _)⟩

set_option maxRecDepth 20000 in
set_option maxHeartbeats 8000000 in
theorem c_meetSpace (p : Int) (n : Nat) (a1 a2 : Option Addr) (n1 c1 n2 c2 : Nat) (l1 l2 : List (List Int)) (S1 S2 : List Nat) (w : World) (hp : isF p = true) (h1 : SliceRd Shp.ints w a1 n1 c1 l1 S1) (h2 : SliceRd Shp.ints w a2 n2 c2 l2 S2) (hn : n ≤ 512) (hn1 : n1 ≤ 512) (hn2 : n2 ≤ 512) (hnn : n1 ≤ n) (hv1 : VecsP p n l1) (hv2 : VecsP p n l2) :
    Calls Try.prog 80 #[.int .i64 p, .agg #[.int .i64 n, .slice a1 n1 c1], .agg #[.int .i64 n, .slice a2 n2 c2]] w (Ret w fun v w' => ∃ a' n' c' S, v = .agg #[.int .i64 n, .slice a' n' c'] ∧ Own 22 Shp.ints w' w.heap.size (.slice a' n' c') (meetL p n l1 l2) S) := by
  have b0 := (Below.refl w.heap.size w).alloc (Nat.le_refl _) (.cells #[.int .i64 n, .slice a1 n1 c1] 38)
  have b1 := (Below.refl _ (w.alloc (.cells #[.int .i64 n, .slice a1 n1 c1] 38))).alloc (Nat.le_refl _) (.cells #[.int .i64 n, .slice a2 n2 c2] 38)
  have b2 := (Below.refl _ ((w.alloc (.cells #[.int .i64 n, .slice a1 n1 c1] 38)).alloc (.cells #[.int .i64 n, .slice a2 n2 c2] 38))).alloc (Nat.le_refl _) (.cells #[.int .i64 0, .slice none 0 0] 38)
  have t1 := At.alloc (w.alloc (.cells #[.int .i64 n, .slice a1 n1 c1] 38)) #[.int .i64 n, .slice a2 n2 c2] 38
  have t2 := At.alloc ((w.alloc (.cells #[.int .i64 n, .slice a1 n1 c1] 38)).alloc (.cells #[.int .i64 n, .slice a2 n2 c2] 38)) #[.int .i64 0, .slice none 0 0] 38
  rw [World.size_alloc] at t1
  rw [World.size_alloc, World.size_alloc] at t2
  have KEY : Hid (∀ wr, Below (((w.alloc (.cells #[.int .i64 n, .slice a1 n1 c1] 38)).alloc (.cells #[.int .i64 n, .slice a2 n2 c2] 38)).alloc (.cells #[.int .i64 0, .slice none 0 0] 38)).heap.size (((w.alloc (.cells #[.int .i64 n, .slice a1 n1 c1] 38)).alloc (.cells #[.int .i64 n, .slice a2 n2 c2] 38)).alloc (.cells #[.int .i64 0, .slice none 0 0] 38)) wr →
      Below w.heap.size w wr ∧ At wr w.heap.size 0 [.int .i64 n, .slice a1 n1 c1] ∧ At wr (w.heap.size + 1) 0 [.int .i64 n, .slice a2 n2 c2] ∧ At wr (w.heap.size + 1 + 1) 0 [.int .i64 0, .slice none 0 0] ∧ SliceRd Shp.ints wr a1 n1 c1 l1 S1 ∧ SliceRd Shp.ints wr a2 n2 c2 l2 S2 ∧ w.heap.size + 3 ≤ wr.heap.size) := by
    intro wr hb
    have hbw := below_then (below_then (below_then b0 b1) b2) hb
    exact ⟨hbw, (((At.alloc w _ _).keep (b1.block _ (by simp))).keep (b2.block _ (by simp; omega))).keep (hb.block _ (by simp; omega)), (t1.keep (b2.block _ (by simp))).keep (hb.block _ (by simp)), t2.keep (hb.block _ (by simp)), h1.below Shp.ints_good hbw, h2.below Shp.ints_good hbw, by have := hb.size; simp at this; omega⟩
  have HWZ : Hid (w.heap.size + 1 + 1 < (((w.alloc (.cells #[.int .i64 n, .slice a1 n1 c1] 38)).alloc (.cells #[.int .i64 n, .slice a2 n2 c2] 38)).alloc (.cells #[.int .i64 0, .slice none 0 0] 38)).heap.size) := by show _ < _; simp
  have HP := Lib.hid hp
  have HL : Hid (l1.length = n1 ∧ l2.length = n2) := ⟨h1.1, h2.1⟩
  have HV : Hid (VecsP p n (l1 ++ l2)) := hv1.append hv2
  have HLT : Hid (∀ b ∈ S1, b < w.heap.size) := h1.lt Shp.ints_good
  have HV1 : Hid (∀ i j, i < n1 → j < n → 0 ≤ rowsF l1 i j ∧ rowsF l1 i j < p) := fun i j hi hj => hv1.inP i j (by rw [h1.1]; exact hi) hj
  have HV1l : Hid (∀ i, i < n1 → (l1[i]?.getD []).length = n) := fun i hi => by
    have h3 : i < l1.length := by rw [h1.1]; exact hi
    simp only [h3, List.getElem?_eq_getElem, Option.getD_some]
    exact (hv1 _ (List.getElem_mem h3)).1
  clear b0 b1 b2 t1 t2 h1 h2 hv1 hv2 hp
  go_enter Try.func80, Try.ntmps80
  go_upto_region 1 with fail
  generalize ((w.alloc (.cells #[.int .i64 n, .slice a1 n1 c1] 38)).alloc (.cells #[.int .i64 n, .slice a2 n2 c2] 38)).alloc (.cells #[.int .i64 0, .slice none 0 0] 38) = W at *
  obtain ⟨N, hN⟩ : ∃ N, N = n * (n1 + n2) := ⟨_, rfl⟩
  have HN := Lib.hid hN
  clear hN
  go_cut [7] (fun s7 wx => Hid (MeetSt n (n1 + n2) N (l1 ++ l2) W.heap.size W s7 wx))
  case first =>
    have K := KEY.out _ (Below.refl _ _)
    have hzW : w.heap.size + 1 + 1 < W.heap.size := HWZ.out
    have BD : Hid (Below W.heap.size W W.drew) := below_drew
    have HELD : Hid (∀ w', Below W.heap.size W w' → w'.cell? ⟨w.heap.size, 0, none⟩ = some (.int .i64 n) ∧ w'.cell? ⟨w.heap.size, 1, none⟩ = some (.slice a1 n1 c1) ∧ w'.cell? ⟨w.heap.size + 1, 1, none⟩ = some (.slice a2 n2 c2)) :=
      fun w' hb => ⟨(KEY.out _ hb).2.1.c0, (KEY.out _ hb).2.1.c1, (KEY.out _ hb).2.2.1.c1⟩
    obtain ⟨SA, RPA⟩ : ∃ SA, Hid (SliceRd Shp.rows (W.alloc (.cells #[.slice a1 n1 c1, .slice a2 n2 c2] 33)).drew (some ⟨W.heap.size, 0, none⟩) 2 2 [l1, l2] SA) := ⟨_, (pair_rows K.2.2.2.2.1 K.2.2.2.2.2.1).below Shp.rows_good below_drew⟩
    obtain ⟨SB, RPB⟩ : ∃ SB, Hid (SliceRd Shp.rows ((W.alloc (.cells #[.slice a1 n1 c1, .slice a2 n2 c2] 33)).alloc (.cells #[.int .i64 0, .int .i64 0, .slice none 0 0] 107)).drew (some ⟨W.heap.size, 0, none⟩) 2 2 [l1, l2] SB) := ⟨_, ((pair_rows K.2.2.2.2.1 K.2.2.2.2.2.1).below Shp.rows_good ((Below.refl _ _).alloc (Nat.le_refl _) _)).below Shp.rows_good below_drew⟩
    obtain ⟨SC, RPC⟩ : ∃ SC, Hid (SliceRd Shp.rows ((W.alloc (.cells #[.int .i64 0, .int .i64 0, .slice none 0 0] 107)).alloc (.cells #[.slice a1 n1 c1, .slice a2 n2 c2] 33)).drew (some ⟨W.heap.size + 1, 0, none⟩) 2 2 [l1, l2] SC) := by
      have K2 := KEY.out (W.alloc (.cells #[.int .i64 0, .int .i64 0, .slice none 0 0] 107)) ((Below.refl _ _).alloc (Nat.le_refl _) _)
      have h3 := (pair_rows (t := 33) K2.2.2.2.2.1 K2.2.2.2.2.2.1).below Shp.rows_good below_drew
      rw [World.size_alloc] at h3
      exact ⟨_, h3⟩
    have HFL : Hid ([l1, l2].flatten.length = n1 + n2) := by show _ = _; have := HL.out; simp; omega
    have HFV : Hid (∀ v ∈ [l1, l2].flatten, v.length = n) := fun v hv => (HV.out v (by simpa using hv)).1
    have MB : Hid (At ((W.alloc (.cells #[.slice a1 n1 c1, .slice a2 n2 c2] 33)).alloc (.cells #[.int .i64 0, .int .i64 0, .slice none 0 0] 107)).drew (W.heap.size + 1) 0 [.int .i64 0, .int .i64 0, .slice none 0 0]) := by
      have h3 := At.alloc (W.alloc (.cells #[.slice a1 n1 c1, .slice a2 n2 c2] 33)) #[.int .i64 0, .int .i64 0, .slice none 0 0] 107
      rw [World.size_alloc] at h3
      exact At.bl h3 (by simp) below_drew
    have MC : Hid (At ((W.alloc (.cells #[.int .i64 0, .int .i64 0, .slice none 0 0] 107)).alloc (.cells #[.slice a1 n1 c1, .slice a2 n2 c2] 33)).drew W.heap.size 0 [.int .i64 0, .int .i64 0, .slice none 0 0]) := by
      have h3 := At.alloc W #[.int .i64 0, .int .i64 0, .slice none 0 0] 107
      have h4 : At ((W.alloc (.cells #[.int .i64 0, .int .i64 0, .slice none 0 0] 107)).alloc (.cells #[.slice a1 n1 c1, .slice a2 n2 c2] 33)) W.heap.size 0 [.int .i64 0, .int .i64 0, .slice none 0 0] := At.bl h3 (by simp) ((Below.refl _ _).alloc (Nat.le_refl _) _)
      exact At.bl h4 (by simp; omega) below_drew
    have HSB : Hid (W.heap.size + 1 < ((W.alloc (.cells #[.slice a1 n1 c1, .slice a2 n2 c2] 33)).alloc (.cells #[.int .i64 0, .int .i64 0, .slice none 0 0] 107)).drew.heap.size) := by show _ < _; simp
    have HSC : Hid (W.heap.size < ((W.alloc (.cells #[.int .i64 0, .int .i64 0, .slice none 0 0] 107)).alloc (.cells #[.slice a1 n1 c1, .slice a2 n2 c2] 33)).drew.heap.size) := by show _ < _; simp; omega
    have hNb : N ≤ 1048576 := by
      rw [HN.out]
      have h1 : n * (n1 + n2) ≤ n * 1024 := Nat.mul_le_mul_left _ (by omega)
      omega
    clear K
    go_region_held3 (fun w' => w'.cell? ⟨w.heap.size, 0, none⟩ = some (.int .i64 n) ∧ w'.cell? ⟨w.heap.size, 1, none⟩ = some (.slice a1 n1 c1) ∧ w'.cell? ⟨w.heap.size + 1, 1, none⟩ = some (.slice a2 n2 c2))
      ((refine HELD.out _ ?_; (repeat (first | exact Hid.out (by assumption) | exact Below.refl _ _ | refine below_al ?_ (Nat.le_refl _) _ | refine below_dr ?_ | refine below_st ?_ (by first | exact Nat.le_refl _ | exact Nat.le_succ _ | assumption) _))))
      (first
        | (go_at_call 121; first | ((with_reducible refine Calls.mono (c_Concat_rows _ 2 2 [l1, l2] SA (W.alloc (.cells #[.slice a1 n1 c1, .slice a2 n2 c2] 33)).drew RPA.out (by omega) (by have := HFL.out; omega)) ?_); rintro e w1 ⟨v, rfl, hb1, a3, n3, c3, S3, rfl, hr3⟩; have R1 := Lib.hid hr3; have HE3 : Hid (n3 = n1 + n2) := Eq.trans (Eq.symm (And.left hr3)) HFL.out; have hn3 : n3 ≤ 1048576 := (by (have := HE3.out); omega); have B1 := Lib.hid (below_tr (below_dr (below_al (Below.refl _ _) (Nat.le_refl _) _)) (Nat.le_refl _) hb1); have hT1 : W.heap.size ≤ w1.heap.size := B1.out.size; clear hb1 hr3) | ((with_reducible refine Calls.mono (c_Concat_rows _ 2 2 [l1, l2] SB ((W.alloc (.cells #[.slice a1 n1 c1, .slice a2 n2 c2] 33)).alloc (.cells #[.int .i64 0, .int .i64 0, .slice none 0 0] 107)).drew RPB.out (by omega) (by have := HFL.out; omega)) ?_); rintro e w1 ⟨v, rfl, hb1, a3, n3, c3, S3, rfl, hr3⟩; have R1 := Lib.hid hr3; have HE3 : Hid (n3 = n1 + n2) := Eq.trans (Eq.symm (And.left hr3)) HFL.out; have hn3 : n3 ≤ 1048576 := (by (have := HE3.out); omega); have B1 := Lib.hid (below_tr (below_dr (below_al (below_al (Below.refl _ _) (Nat.le_refl _) _) (Nat.le_refl _) _)) (Nat.le_refl _) hb1); have hT1 : W.heap.size ≤ w1.heap.size := B1.out.size; have M1 : Hid (At w1 (W.heap.size + 1) 0 [.int .i64 0, .int .i64 0, .slice none 0 0]) := At.bl MB.out HSB.out hb1; have hX1 : W.heap.size + 1 < w1.heap.size := Nat.lt_of_lt_of_le HSB.out hb1.size; clear hb1 hr3) | ((with_reducible refine Calls.mono (c_Concat_rows _ 2 2 [l1, l2] SC ((W.alloc (.cells #[.int .i64 0, .int .i64 0, .slice none 0 0] 107)).alloc (.cells #[.slice a1 n1 c1, .slice a2 n2 c2] 33)).drew RPC.out (by omega) (by have := HFL.out; omega)) ?_); rintro e w1 ⟨v, rfl, hb1, a3, n3, c3, S3, rfl, hr3⟩; have R1 := Lib.hid hr3; have HE3 : Hid (n3 = n1 + n2) := Eq.trans (Eq.symm (And.left hr3)) HFL.out; have hn3 : n3 ≤ 1048576 := (by (have := HE3.out); omega); have B1 := Lib.hid (below_tr (below_dr (below_al (below_al (Below.refl _ _) (Nat.le_refl _) _) (Nat.le_refl _) _)) (Nat.le_refl _) hb1); have hT1 : W.heap.size ≤ w1.heap.size := B1.out.size; have M1 : Hid (At w1 W.heap.size 0 [.int .i64 0, .int .i64 0, .slice none 0 0]) := At.bl MC.out HSC.out hb1; have hX1 : W.heap.size < w1.heap.size := Nat.lt_of_lt_of_le HSC.out hb1.size; clear hb1 hr3))
        | (go_at_call 120; first | ((with_reducible refine Calls.mono (c_fromColumns n n3 N a3 c3 [l1, l2].flatten S3 w1 R1.out (by rw [HN.out, HE3.out]) hNb (by omega) hn3 HFV.out) ?_); rintro e w2 ⟨v, rfl, hb2, g, rfl, hg, hm2⟩; have B2 := Lib.hid (below_tr B1.out (Nat.le_refl _) hb2); have MM := Lib.hid hm2; have M2 := Lib.hid (At.bl M1.out hX1 hb2); have o0 := M2.out.c0; have o1 := M2.out.c1; have o2 := M2.out.c2; have i0 := M2.out.f0; have i1 := M2.out.f1; have i2 := M2.out.f2; clear hb2 hm2) | ((with_reducible refine Calls.mono (c_fromColumns n n3 N a3 c3 [l1, l2].flatten S3 w1 R1.out (by rw [HN.out, HE3.out]) hNb (by omega) hn3 HFV.out) ?_); rintro e w2 ⟨v, rfl, hb2, g, rfl, hg, hm2⟩; have B2 := Lib.hid (below_tr B1.out (Nat.le_refl _) hb2); have MM := Lib.hid hm2; clear hb2 hm2) | ((with_reducible refine Calls.mono (c_fromColumns n n3 N a3 c3 [l1, l2].flatten S3 (w1.alloc (.cells #[.int .i64 0, .int .i64 0, .slice none 0 0] 107)) (R1.out.below Shp.ints_good ((Below.refl _ _).alloc (Nat.le_refl _) _)) (by rw [HN.out, HE3.out]) hNb (by omega) hn3 HFV.out) ?_); rintro e w2 ⟨v, rfl, hb2, g, rfl, hg, hm2⟩; have B2 := Lib.hid (below_tr (below_al B1.out (Nat.le_refl _) _) (Nat.le_refl _) hb2); have MM := Lib.hid hm2; have M2 : Hid (At w2 w1.heap.size 0 [.int .i64 0, .int .i64 0, .slice none 0 0]) := At.bl (At.alloc w1 _ _) (by simp) hb2; have o0 := M2.out.c0; have o1 := M2.out.c1; have o2 := M2.out.c2; have i0 := M2.out.f0; have i1 := M2.out.f1; have i2 := M2.out.f2; rw [World.size_alloc] at hg; clear hb2 hm2)))
    all_goals (
      go_wp2_with fail
      go_meet
      show MeetSt _ _ _ _ _ _ _ _
      rw [show l1 ++ l2 = [l1, l2].flatten by simp, ← HE3.out]
      first
        | exact meet_set M2.out MM.out B2.out (by omega) (by omega)
        | exact meet_al MM.out B2.out (Nat.le_refl _) (by omega))
  case rest =>
    obtain ⟨X, g, rfl, hTX, hXs, hTg, hBc, hX, hM⟩ := hcut.out
    obtain ⟨hp2, hp5⟩ := isF_bd HP.out
    obtain ⟨m, hm⟩ : ∃ m, m = n1 + n2 := ⟨_, rfl⟩
    rw [← hm] at hX hM
    have hNb : N ≤ 1048576 := by
      rw [HN.out]
      have h1 : n * (n1 + n2) ≤ n * 1024 := Nat.mul_le_mul_left _ (by omega)
      omega
    have HML : Hid ((l1 ++ l2).length = m) := by show _ = _; have := HL.out; rw [List.length_append]; omega
    have HIc : Hid (InP p n m (colsF (l1 ++ l2))) := by
      intro i j hi hj
      exact HV.out.inP j i (by rw [HML.out]; exact hj) hi
    have HK := Lib.hid (c_kernel p n m (some ⟨g, 0, none⟩) N N _ _ wc HP.out (hM.rd (HIc.out.fits' hp5) (by rw [HN.out, hm]) (Nat.le_refl _) (by unfold maxLen; omega)) (by rw [HN.out, hm]) hNb (by omega) (by omega) (colsF (l1 ++ l2)) (fun i j hi hj => cellsL_get _ _ _ hi hj) HIc.out)
    have q0 := hX.c0
    have q1 := hX.c1
    have q2 := hX.c2
    have BC := Lib.hid hBc
    have hm1 : n1 ≤ m := by omega
    have hmb : m ≤ 1024 := by omega
    have HM := Lib.hid hm
    have HTG := Lib.hid hTg
    clear hX hM hBc hcut hm hTg
    go_wp2_with fail
    refine HK.out.mono ?_
    rintro e w3 ⟨v, rfl, hb3, SK, hOK⟩
    obtain ⟨aK, nK, cK, SK', rfl, hnK, rdK, -, -⟩ := hOK.rd
    have B3 := Lib.hid (below_tr BC.out (Nat.le_refl _) hb3)
    have HKP : Hid (nK = (kerL p m (redUp p n (colsF (l1 ++ l2)) m).1 (redUp p n (colsF (l1 ++ l2)) m).2).length ∧ nK ≤ m ∧ (∀ k, k < nK → ((kerL p m (redUp p n (colsF (l1 ++ l2)) m).1 (redUp p n (colsF (l1 ++ l2)) m).2)[k]?.getD []).length = m ∧ ∀ x ∈ (kerL p m (redUp p n (colsF (l1 ++ l2)) m).1 (redUp p n (colsF (l1 ++ l2)) m).2)[k]?.getD [], 0 ≤ x ∧ x < p)) := by
      refine ⟨hnK, by rw [hnK]; unfold kerL; rw [List.length_map]; exact freeL_len _ _, fun k hk => ?_⟩
      have h1 : k < (kerL p m (redUp p n (colsF (l1 ++ l2)) m).1 (redUp p n (colsF (l1 ++ l2)) m).2).length := by omega
      simp only [h1, List.getElem?_eq_getElem, Option.getD_some]
      have h2 := List.getElem_mem h1
      unfold kerL at h2
      simp only [List.mem_map] at h2
      obtain ⟨f, _, hf⟩ := h2
      have h3 : (kerL p m (redUp p n (colsF (l1 ++ l2)) m).1 (redUp p n (colsF (l1 ++ l2)) m).2)[k] = kerV p m (redUp p n (colsF (l1 ++ l2)) m).1 (redUp p n (colsF (l1 ++ l2)) m).2 f (redUp p n (colsF (l1 ++ l2)) m).2.length := hf.symm
      rw [h3]
      exact ⟨kerV_len _ _ _ _ _ _, kerV_in HP.out _ _ _ _ _⟩
    have HMV : Hid (meetV p n l1 l2 = (kerL p m (redUp p n (colsF (l1 ++ l2)) m).1 (redUp p n (colsF (l1 ++ l2)) m).2).map fun k => combV p n l1 k n1) := by
      show _ = _
      unfold meetV
      rw [HML.out, HL.out.1]
    have RK := Lib.hid rdK
    generalize kerL p m (redUp p n (colsF (l1 ++ l2)) m).1 (redUp p n (colsF (l1 ++ l2)) m).2 = K at *
    have hnKm : nK ≤ m := HKP.out.2.1
    clear hb3 hOK rdK hnK HK q0 q1 q2
    go_wp2
    go_loopw [8, 27] (fun s i wr => ∃ (k : Nat) (aF : Option Addr) (nF cF : Nat) (SF : List Nat), k ≤ nK ∧ i = .int .i64 k ∧ s = .slice aF nF cF ∧ Hid (Own 22 Shp.ints wr w3.heap.size (.slice aF nF cF) ((K.take k).map fun k => combV p n l1 k n1) SF ∧ Below w3.heap.size w3 wr)) (fun _ i _ => nK - (intOf i).toNat)
    case atStart => exact ⟨0, none, 0, 0, [], Nat.zero_le _, rfl, rfl, Own.nil _ _ _ _, Below.refl _ _⟩
    case round =>
      obtain ⟨k, aF, nF, cF, SF, hk, rfl, rfl, H⟩ := hrel
      by_cases hlt : k < nK
      · generalize wr = Wo at *
        have HKk := Lib.hid (HKP.out.2.2 k hlt)
        obtain ⟨b, o, cs, T, rfl, hb, hbS, hat, ⟨a', n', c', rfl, hsl⟩, hsub⟩ := (RK.out.below Shp.ints_good H.out.2).at Shp.ints_good [] hlt
        have q0 := (hat 0 _ rfl).1
        have e3 : Shp.ints.size = 1 := rfl
        rw [e3, Nat.mul_one, Nat.add_zero] at q0
        have hn' : n' = m := by rw [← hsl.1]; exact HKk.out.1
        subst hn'
        have HTS : Hid (K.take (k + 1) = K.take k ++ [K[k]?.getD []]) := take_snoc K k [] (by have := HKP.out.1; omega)
        have HSL : Hid (∀ wr, Below Wo.heap.size Wo wr → IntRow wr a' n' (K[k]?.getD [])) := fun wr hb => (hsl.below Shp.int_good hb).row
        generalize K[k]?.getD [] = kv at *
        have Bo := Lib.hid (below_tr B3.out (Nat.le_refl _) H.out.2)
        have q1 := (KEY.out _ Bo.out).2.1.c0
        obtain ⟨i0, hi, hz0, hz1, hz2⟩ := info_parts Try.info3
        obtain ⟨w4, hmk, hown0, hg0⟩ := run_make_full (P := Try.prog) Wo Wo.heap.size 22 3 i0 (.int .i64 0) 1 Try.underlying22 hi hz0 hz1 .i64 .i64 n (by rw [hz2]; omega) (by unfold maxLen; omega) (Nat.le_refl _)
        have hb4 : Below Wo.heap.size Wo w4 := (Below.refl _ _).grown hg0 (Nat.le_refl _) (fun k hk => by cases hk)
        simp only [Value.cells, toList_madeCells_one] at hown0
        have HO0 : Hid ((Wo.heap.size < w4.heap.size ∧ ∀ j, j < n → w4.cell? ⟨Wo.heap.size, j, none⟩ = some (.int .i64 ((combV p n l1 kv 0)[j]?.getD 0)) ∧ w4.frozen? ⟨Wo.heap.size, j, none⟩ = false) ∧ Below Wo.heap.size Wo w4) := by
          refine ⟨⟨(hown0.lt _ rfl).2, fun j hj => ⟨?_, hown0.frozenAt j⟩⟩, hb4⟩
          rw [hown0.cellAt j (by simp; omega)]
          simp [hj, combV]
        have q2 := (KEY.out _ (below_tr Bo.out (Nat.le_refl _) hb4)).2.1.c1
        clear hat hsl hsub hbS hb hz0 hz1 hz2 hi hg0 hown0 hb4
        go_wp2
        clear hmk q0 q1 q2
        go_loopw [37] (fun j wx => ∃ i : Nat, i ≤ n1 ∧ j = .int .i64 i ∧ Hid ((Wo.heap.size < wx.heap.size ∧ ∀ j, j < n → wx.cell? ⟨Wo.heap.size, j, none⟩ = some (.int .i64 ((combV p n l1 kv i)[j]?.getD 0)) ∧ wx.frozen? ⟨Wo.heap.size, j, none⟩ = false) ∧ Below Wo.heap.size Wo wx)) (fun j _ => n1 - (intOf j).toNat)
        case atStart => exact ⟨0, Nat.zero_le _, rfl, HO0.out⟩
        clear HO0
        case round =>
          obtain ⟨i, hi, rfl, HX⟩ := hrel
          by_cases hlt2 : i < n1
          · have hBx := below_tr Bo.out (Nat.le_refl _) HX.out.2
            have hzo : w.heap.size < Wo.heap.size := by have := (KEY.out _ Bo.out).2.2.2.2.2.2; omega
            obtain ⟨b2, o2, cs2, T2, rfl, hb2, hbS2, hat2, ⟨aw, nw, cw, rfl, hslw⟩, hsubw⟩ := (KEY.out _ hBx).2.2.2.2.1.at Shp.ints_good [] hlt2
            have q0 := (hat2 0 _ rfl).1
            rw [e3, Nat.mul_one, Nat.add_zero] at q0
            have hnw : nw = n := by rw [← hslw.1]; exact HV1l.out i hlt2
            subst hnw
            obtain ⟨gb, ob, rfl, hgb, hcb⟩ := hslw.row.cell (by omega)
            have hgbS : gb < w.heap.size := by
              refine HLT.out gb (hsubw gb ?_)
              rw [ints_blk hslw]
              simp [iblk]; omega
            obtain ⟨b5, o5, rfl, hb5, hc5⟩ := (HSL.out wr HX.out.2).cell (by omega)
            have hck := (hc5 i (by omega)).1
            have hkb := HKk.out.2 (kv[i]?.getD 0) (by
              have h1 : i < kv.length := by rw [HKk.out.1]; omega
              simp only [h1, List.getElem?_eq_getElem, Option.getD_some]
              exact List.getElem_mem h1)
            have HAM := Lib.hid (c_addMultiple p (kv[i]?.getD 0) Wo.heap.size 0 nw nw (fun j => (combV p nw l1 kv i)[j]?.getD 0) gb ob cw (fun j => rowsF l1 i j) wr ⟨by omega, by omega⟩ ⟨by omega, by omega⟩
              (fun j hj => by rw [Nat.zero_add]; exact HX.out.1.2 j hj)
              (fun j hj => by
                have h1 : j < (combV p nw l1 kv i).length := by rw [combV_len]; exact hj
                have h2 := combV_in HP.out nw l1 kv i _ (List.getElem_mem h1)
                simp only [h1, List.getElem?_eq_getElem, Option.getD_some]
                omega)
              (fun j hj => (hcb j hj).1)
              (fun j hj => by have := HV1.out i j hlt2 hj; omega)
              (Or.inl (by omega)) (Or.inr hgb) (by omega))
            clear hBx hat2 hslw hsubw hbS2 hc5 hcb hkb hb5 hb2
            go_wp2_with fail
            refine HAM.out.mono ?_
            rintro e w6 ⟨rfl, hRT⟩
            have HN : Hid ((Wo.heap.size < w6.heap.size ∧ ∀ j, j < nw → w6.cell? ⟨Wo.heap.size, j, none⟩ = some (.int .i64 ((combV p nw l1 kv (i + 1))[j]?.getD 0)) ∧ w6.frozen? ⟨Wo.heap.size, j, none⟩ = false) ∧ Below Wo.heap.size Wo w6) := by
              refine ⟨⟨by rw [hRT.size]; exact HX.out.1.1, fun j hj => ⟨?_, by rw [hRT.froz]; exact (HX.out.1.2 j hj).2⟩⟩, HX.out.2.trans (hRT.frm.to_below HX.out.2.size (fun b hb => by simp at hb; omega))⟩
              rw [hRT.cell j, if_pos ⟨by omega, by omega⟩]
              simp [combV, hj]
            clear hRT HAM q0 hck
            go_wp2
            go_roundw
            case rel => exact ⟨i + 1, by omega, by go_num, HN.out⟩
            case measure => simp [intOf]; omega
          · obtain rfl : i = n1 := by omega
            have hRD : SliceRd Shp.int wr (some ⟨Wo.heap.size, 0, none⟩) n n (combV p n l1 kv i) (iblk (some ⟨Wo.heap.size, 0, none⟩) n) := by
              refine ints_mk ⟨combV_len _ _ _ _ _, by omega, fun _ => ⟨_, 0, rfl, HX.out.1.1, fun j hj => by rw [Nat.zero_add]; exact HX.out.1.2 j hj⟩, fun j hj => ?_⟩ (Nat.le_refl _) (by unfold maxLen; omega)
              have h1 : j < (combV p n l1 kv i).length := by rw [combV_len]; exact hj
              have h2 := combV_in HP.out n l1 kv i _ (List.getElem_mem h1)
              simp only [h1, List.getElem?_eq_getElem, Option.getD_some]
              unfold fits; omega
            have hIB : ∀ b ∈ iblk (some (⟨Wo.heap.size, 0, none⟩ : Addr)) n, b = Wo.heap.size := by
              intro b hb
              unfold iblk at hb
              split at hb
              · cases hb
              · simpa using hb
            have hND : (iblk (some (⟨Wo.heap.size, 0, none⟩ : Addr)) n).Nodup := by unfold iblk; split <;> simp
            have H5 : Hid (Own 22 Shp.ints wr w3.heap.size (.slice aF nF cF) ((K.take k).map fun k => combV p n l1 k i) SF ∧ Below w3.heap.size w3 wr ∧ Shp.ints.rd wr [.slice (some ⟨Wo.heap.size, 0, none⟩) n n] (combV p n l1 kv i) (iblk (some ⟨Wo.heap.size, 0, none⟩) n) ∧ New w3.heap.size (iblk (some ⟨Wo.heap.size, 0, none⟩) n) ∧ ∀ b ∈ SF, b ∉ iblk (some ⟨Wo.heap.size, 0, none⟩) n) :=
              ⟨H.out.1.below Shp.ints_good HX.out.2, below_tr H.out.2 (Nat.le_refl _) HX.out.2, ⟨_, _, _, rfl, hRD⟩, ⟨hND, fun b hb => by rw [hIB b hb]; exact H.out.2.size⟩, fun b hb hm => by have h1 := H.out.1.lt Shp.ints_good b hb; have h2 := hIB b hm; omega⟩
            have hlF : ((K.take k).map fun k => combV p n l1 k i).length ≤ k := by rw [List.length_map]; exact List.length_take_le _ _
            have HLF := Lib.hid hlF
            have hW5 : w3.heap.size ≤ wr.heap.size := H5.out.2.1.size
            clear hRD hIB hND hlF
            go_wp2_with (at_builtin; refine wpList_app1 et_ints Shp.ints_good rfl (.tmp 51) (.tmp 53) rfl rfl H5.out.1 hW5 rfl rfl H5.out.2.2.1 H5.out.2.2.2.1 H5.out.2.2.2.2 (by have := HLF.out; omega) (by have := HLF.out; omega) ?_; intro v6 w6 S6 hO6 hF6 hS6; obtain ⟨a6, n6, c6, rfl⟩ := hO6.form; have Y := Lib.hid (And.intro hO6 hF6); clear hO6 hF6 hS6)
            go_roundw
            case rel =>
              refine ⟨k + 1, a6, n6, c6, S6, by omega, by go_num, rfl, ?_, H5.out.2.1.trans (Y.out.2.to_below hW5 (fun b hb => H5.out.1.new.2 b hb))⟩
              rw [HTS.out, List.map_append]
              exact Y.out.1
            case measure => simp [intOf]; omega
      · obtain rfl : k = nK := by omega
        have HE : Hid ((K.take k).map (fun k => combV p n l1 k n1) = meetV p n l1 l2) := by
          show _ = _
          rw [HMV.out, HKP.out.1, List.take_length]
        obtain ⟨_, _, _, SF', hv, hnF, rdF, -, -⟩ := H.out.1.rd
        cases hv
        rw [HE.out] at rdF
        have hnF2 : nF ≤ 1024 := by rw [hnF, List.length_map]; have := List.length_take_le k K; omega
        have HSp := Lib.hid (c_span p n nF aF cF _ SF' wr HP.out rdF (by omega) hnF2 (meetV_in HP.out n l1 l2))
        have Br := Lib.hid (below_tr B3.out (Nat.le_refl _) H.out.2)
        have q0 := (KEY.out _ Br.out).2.1.c0
        clear rdF hnF hnF2
        go_wp2_with fail
        refine HSp.out.mono ?_
        rintro e w5 ⟨v, rfl, hb5, a5, n5, c5, S5, rfl, hO5⟩
        have B5 := Lib.hid (below_tr Br.out (Nat.le_refl _) hb5)
        have o0 := (KEY.out _ B5.out).2.2.2.1.c0
        have o1 := (KEY.out _ B5.out).2.2.2.1.c1
        have i0 := (KEY.out _ B5.out).2.2.2.1.f0
        have i1 := (KEY.out _ B5.out).2.2.2.1.f1
        have HE : Hid (∀ x y : Value, Below w.heap.size w ((w5.setCell ⟨w.heap.size + 1 + 1, 0, none⟩ x).setCell ⟨w.heap.size + 1 + 1, 1, none⟩ y) ∧ Own 22 Shp.ints ((w5.setCell ⟨w.heap.size + 1 + 1, 0, none⟩ x).setCell ⟨w.heap.size + 1 + 1, 1, none⟩ y) w.heap.size (.slice a5 n5 c5) (meetL p n l1 l2) S5) := by
          intro x y
          have hz : w.heap.size + 1 + 1 < wr.heap.size := by have := (KEY.out _ Br.out).2.2.2.2.2.2; omega
          have h1 := (hO5.setOff Shp.ints_good (p := ⟨w.heap.size + 1 + 1, 0, none⟩) (hO5.off hz) x)
          have h2 := (h1.setOff Shp.ints_good (p := ⟨w.heap.size + 1 + 1, 1, none⟩) (h1.off hz) y)
          exact ⟨((KEY.out _ B5.out).1.setCell (by show w.heap.size ≤ w.heap.size + 1 + 1; omega) _).setCell (by show w.heap.size ≤ w.heap.size + 1 + 1; omega) _, own_lower h2 (by omega)⟩
        clear hb5 hO5 q0
        go_wp2
        have hE := HE.out (.int .i64 n) (.slice a5 n5 c5)
        exact bodyPost_ret (v := .agg #[.int .i64 n, .slice a5 n5 c5]) (by simp [results, Try.results80, go_sem, o0, o1]) rfl ⟨_, rfl, hE.1, a5, n5, c5, S5, rfl, hE.2⟩
end Go.Proofs.Ytpngpgbmkkjjgaa

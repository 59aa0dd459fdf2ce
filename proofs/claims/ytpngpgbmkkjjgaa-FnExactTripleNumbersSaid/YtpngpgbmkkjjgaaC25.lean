/-
  Contracts: what is in the first of three spaces and the sum of the others.
-/
import Derived.Test.YtpngpgbmkkjjgaaC24
namespace Go.Proofs.Ytpngpgbmkkjjgaa
open Go.RowKit

/-- A reduced basis in vectors of n numbers. -/
structure Sp (p : Int) (n : Nat) (l : List (List Int)) : Prop where
  vecs : VecsP p n l
  len : l.length ≤ n
theorem Sp.span {p : Int} (hp : isF p = true) {n : Nat} {l : List (List Int)} (h : VecsP p n l) : Sp p n (spanL p n l) := ⟨vecs_span hp h.inP, (@span_len p n l).1⟩
theorem Sp.sum {p : Int} (hp : isF p = true) {n : Nat} {a b : List (List Int)} (ha : Sp p n a) (hb : Sp p n b) : Sp p n (sumL p n a b) := Sp.span hp (ha.vecs.append hb.vecs)
theorem Sp.meet {p : Int} (hp : isF p = true) {n : Nat} {a b : List (List Int)} : Sp p n (meetL p n a b) := Sp.span hp (meetV_in hp n a b)
theorem Sp.of {p : Int} {n : Nat} {l : List (List Int)} (h : spaceV p n l = true) : Sp p n l := by
  obtain ⟨_, m, e, _, h1, h2, _⟩ := spaceV_parts h
  obtain rfl : n = m := by omega
  exact ⟨h2, h1⟩

/-- What a call that returns a space leaves: the slice in the result reads as the basis. -/
def SpRet (B n : Nat) (l : List (List Int)) (v : Value) (w' : World) : Prop := ∃ a' n' c' S, v = .agg #[.int .i64 n, .slice a' n' c'] ∧ SliceRd Shp.ints w' a' n' c' l S ∧ n' ≤ n ∧ New B S

theorem s_sumSpace (p : Int) (n : Nat) (a1 a2 : Option Addr) (n1 c1 n2 c2 : Nat) (l1 l2 : List (List Int)) (S1 S2 : List Nat) (w : World) (hp : isF p = true) (h1 : SliceRd Shp.ints w a1 n1 c1 l1 S1) (h2 : SliceRd Shp.ints w a2 n2 c2 l2 S2) (hn : n ≤ 8) (g1 : Sp p n l1) (g2 : Sp p n l2) :
    Calls Try.prog 81 #[.int .i64 p, .agg #[.int .i64 n, .slice a1 n1 c1], .agg #[.int .i64 n, .slice a2 n2 c2]] w (Ret w (SpRet w.heap.size n (sumL p n l1 l2))) := by
  have e1 := h1.1
  have e2 := h2.1
  refine (c_sumSpace p n a1 a2 n1 c1 n2 c2 l1 l2 S1 S2 w hp h1 h2 (by omega) (by have := g1.len; omega) (by have := g2.len; omega) g1.vecs g2.vecs).mono ?_
  rintro e w' ⟨v, he, hb, a', n', c', S, hv, hO⟩
  obtain ⟨_, _, _, S', hv', hn', rd, nw, -⟩ := hO.rd
  cases hv'
  exact ⟨v, he, hb, a', n', c', S', hv, rd, by rw [hn']; exact (Sp.sum hp g1 g2).len, nw⟩
theorem s_meetSpace (p : Int) (n : Nat) (a1 a2 : Option Addr) (n1 c1 n2 c2 : Nat) (l1 l2 : List (List Int)) (S1 S2 : List Nat) (w : World) (hp : isF p = true) (h1 : SliceRd Shp.ints w a1 n1 c1 l1 S1) (h2 : SliceRd Shp.ints w a2 n2 c2 l2 S2) (hn : n ≤ 8) (g1 : Sp p n l1) (g2 : Sp p n l2) :
    Calls Try.prog 80 #[.int .i64 p, .agg #[.int .i64 n, .slice a1 n1 c1], .agg #[.int .i64 n, .slice a2 n2 c2]] w (Ret w (SpRet w.heap.size n (meetL p n l1 l2))) := by
  have e1 := h1.1
  have e2 := h2.1
  refine (c_meetSpace p n a1 a2 n1 c1 n2 c2 l1 l2 S1 S2 w hp h1 h2 (by omega) (by have := g1.len; omega) (by have := g2.len; omega) (by have := g1.len; omega) g1.vecs g2.vecs).mono ?_
  rintro e w' ⟨v, he, hb, a', n', c', S, hv, hO⟩
  obtain ⟨_, _, _, S', hv', hn', rd, nw, -⟩ := hO.rd
  cases hv'
  exact ⟨v, he, hb, a', n', c', S', hv, rd, by rw [hn']; exact (Sp.meet hp).len, nw⟩

def distM (p : Int) (n : Nat) (l1 l2 l3 : List (List Int)) : List (List Int) := meetL p n l1 (sumL p n l2 l3)
def distS (p : Int) (n : Nat) (l1 l2 l3 : List (List Int)) : List (List Int) := sumL p n (meetL p n l1 l2) (meetL p n l1 l3)

set_option maxRecDepth 20000 in
set_option maxHeartbeats 8000000 in
theorem c_distributed (p : Int) (n : Nat) (a1 a2 a3 : Option Addr) (n1 c1 n2 c2 n3 c3 : Nat) (l1 l2 l3 : List (List Int)) (S1 S2 S3 : List Nat) (w : World) (hp : isF p = true) (h1 : SliceRd Shp.ints w a1 n1 c1 l1 S1) (h2 : SliceRd Shp.ints w a2 n2 c2 l2 S2) (h3 : SliceRd Shp.ints w a3 n3 c3 l3 S3) (hn : n ≤ 8) (g1 : Sp p n l1) (g2 : Sp p n l2) (g3 : Sp p n l3) :
    Calls Try.prog 52 #[.int .i64 p, .agg #[.int .i64 n, .slice a1 n1 c1], .agg #[.int .i64 n, .slice a2 n2 c2], .agg #[.int .i64 n, .slice a3 n3 c3]] w (Ret w fun v w' => ∃ x m d T x' m' d' T', v = .tuple #[.agg #[.int .i64 n, .slice x m d], .agg #[.int .i64 n, .slice x' m' d']] ∧ SliceRd Shp.ints w' x m d (distM p n l1 l2 l3) T ∧ SliceRd Shp.ints w' x' m' d' (distS p n l1 l2 l3) T') := by
  have b0 := (Below.refl w.heap.size w).alloc (Nat.le_refl _) (.cells #[.int .i64 n, .slice a1 n1 c1] 38)
  have b1 := (Below.refl _ (w.alloc (.cells #[.int .i64 n, .slice a1 n1 c1] 38))).alloc (Nat.le_refl _) (.cells #[.int .i64 n, .slice a2 n2 c2] 38)
  have b2 := (Below.refl _ ((w.alloc (.cells #[.int .i64 n, .slice a1 n1 c1] 38)).alloc (.cells #[.int .i64 n, .slice a2 n2 c2] 38))).alloc (Nat.le_refl _) (.cells #[.int .i64 n, .slice a3 n3 c3] 38)
  have t1 := At.alloc (w.alloc (.cells #[.int .i64 n, .slice a1 n1 c1] 38)) #[.int .i64 n, .slice a2 n2 c2] 38
  have t2 := At.alloc ((w.alloc (.cells #[.int .i64 n, .slice a1 n1 c1] 38)).alloc (.cells #[.int .i64 n, .slice a2 n2 c2] 38)) #[.int .i64 n, .slice a3 n3 c3] 38
  rw [World.size_alloc] at t1
  rw [World.size_alloc, World.size_alloc] at t2
  have KEY : Hid (∀ wr, Below (w.heap.size + 1 + 1 + 1) (((w.alloc (.cells #[.int .i64 n, .slice a1 n1 c1] 38)).alloc (.cells #[.int .i64 n, .slice a2 n2 c2] 38)).alloc (.cells #[.int .i64 n, .slice a3 n3 c3] 38)) wr →
      Below w.heap.size w wr ∧ At wr w.heap.size 0 [.int .i64 n, .slice a1 n1 c1] ∧ At wr (w.heap.size + 1) 0 [.int .i64 n, .slice a2 n2 c2] ∧ At wr (w.heap.size + 1 + 1) 0 [.int .i64 n, .slice a3 n3 c3] ∧ SliceRd Shp.ints wr a1 n1 c1 l1 S1 ∧ SliceRd Shp.ints wr a2 n2 c2 l2 S2 ∧ SliceRd Shp.ints wr a3 n3 c3 l3 S3 ∧ w.heap.size + 3 ≤ wr.heap.size) := by
    intro wr hb
    have hbw := (below_then (below_then b0 b1) b2).trans (hb.mono (by omega))
    exact ⟨hbw, (((At.alloc w _ _).keep (b1.block _ (by simp))).keep (b2.block _ (by simp; omega))).keep (hb.block _ (by omega)), (t1.keep (b2.block _ (by simp))).keep (hb.block _ (by omega)), t2.keep (hb.block _ (by omega)), h1.below Shp.ints_good hbw, h2.below Shp.ints_good hbw, h3.below Shp.ints_good hbw, by have := hb.size; simp at this; omega⟩
  have e3 : (((w.alloc (.cells #[.int .i64 n, .slice a1 n1 c1] 38)).alloc (.cells #[.int .i64 n, .slice a2 n2 c2] 38)).alloc (.cells #[.int .i64 n, .slice a3 n3 c3] 38)).heap.size = w.heap.size + 1 + 1 + 1 := by simp
  have e5 : ((((w.alloc (.cells #[.int .i64 n, .slice a1 n1 c1] 38)).alloc (.cells #[.int .i64 n, .slice a2 n2 c2] 38)).alloc (.cells #[.int .i64 n, .slice a3 n3 c3] 38)).alloc (.cells #[.int .i64 0, .slice none 0 0] 38)).heap.size = w.heap.size + 1 + 1 + 1 + 1 := by simp
  have hb5 : Below (w.heap.size + 1 + 1 + 1) (((w.alloc (.cells #[.int .i64 n, .slice a1 n1 c1] 38)).alloc (.cells #[.int .i64 n, .slice a2 n2 c2] 38)).alloc (.cells #[.int .i64 n, .slice a3 n3 c3] 38)) (((((w.alloc (.cells #[.int .i64 n, .slice a1 n1 c1] 38)).alloc (.cells #[.int .i64 n, .slice a2 n2 c2] 38)).alloc (.cells #[.int .i64 n, .slice a3 n3 c3] 38)).alloc (.cells #[.int .i64 0, .slice none 0 0] 38)).alloc (.cells #[.int .i64 0, .slice none 0 0] 38)) := ((Below.refl _ _).alloc (by simp) _).alloc (by simp) _
  have z1 : At (((((w.alloc (.cells #[.int .i64 n, .slice a1 n1 c1] 38)).alloc (.cells #[.int .i64 n, .slice a2 n2 c2] 38)).alloc (.cells #[.int .i64 n, .slice a3 n3 c3] 38)).alloc (.cells #[.int .i64 0, .slice none 0 0] 38)).alloc (.cells #[.int .i64 0, .slice none 0 0] 38)) (w.heap.size + 1 + 1 + 1) 0 [.int .i64 0, .slice none 0 0] := by
    have h4 := At.alloc (((w.alloc (.cells #[.int .i64 n, .slice a1 n1 c1] 38)).alloc (.cells #[.int .i64 n, .slice a2 n2 c2] 38)).alloc (.cells #[.int .i64 n, .slice a3 n3 c3] 38)) #[.int .i64 0, .slice none 0 0] 38
    rw [e3] at h4
    exact h4.keep (Below.block ((Below.refl (w.heap.size + 1 + 1 + 1 + 1) _).alloc (by simp) _) _ (by omega))
  have z2 : At (((((w.alloc (.cells #[.int .i64 n, .slice a1 n1 c1] 38)).alloc (.cells #[.int .i64 n, .slice a2 n2 c2] 38)).alloc (.cells #[.int .i64 n, .slice a3 n3 c3] 38)).alloc (.cells #[.int .i64 0, .slice none 0 0] 38)).alloc (.cells #[.int .i64 0, .slice none 0 0] 38)) (w.heap.size + 1 + 1 + 1 + 1) 0 [.int .i64 0, .slice none 0 0] := by
    have h4 := At.alloc ((((w.alloc (.cells #[.int .i64 n, .slice a1 n1 c1] 38)).alloc (.cells #[.int .i64 n, .slice a2 n2 c2] 38)).alloc (.cells #[.int .i64 n, .slice a3 n3 c3] 38)).alloc (.cells #[.int .i64 0, .slice none 0 0] 38)) #[.int .i64 0, .slice none 0 0] 38
    rw [e5] at h4
    exact h4
  have KEY5 : Hid (∀ wr, Below (w.heap.size + 1 + 1 + 1 + 1 + 1) (((((w.alloc (.cells #[.int .i64 n, .slice a1 n1 c1] 38)).alloc (.cells #[.int .i64 n, .slice a2 n2 c2] 38)).alloc (.cells #[.int .i64 n, .slice a3 n3 c3] 38)).alloc (.cells #[.int .i64 0, .slice none 0 0] 38)).alloc (.cells #[.int .i64 0, .slice none 0 0] 38)) wr → At wr (w.heap.size + 1 + 1 + 1) 0 [.int .i64 0, .slice none 0 0] ∧ At wr (w.heap.size + 1 + 1 + 1 + 1) 0 [.int .i64 0, .slice none 0 0]) := by
    intro wr hb
    exact ⟨z1.keep (hb.block _ (by omega)), z2.keep (hb.block _ (by omega))⟩
  have HB5 := Lib.hid hb5
  have HP := Lib.hid hp
  have HW5 : Hid ((((((w.alloc (.cells #[.int .i64 n, .slice a1 n1 c1] 38)).alloc (.cells #[.int .i64 n, .slice a2 n2 c2] 38)).alloc (.cells #[.int .i64 n, .slice a3 n3 c3] 38)).alloc (.cells #[.int .i64 0, .slice none 0 0] 38)).alloc (.cells #[.int .i64 0, .slice none 0 0] 38)).heap.size = w.heap.size + 1 + 1 + 1 + 1 + 1) := by show _ = _; simp
  have G1 := Lib.hid g1
  have G2 := Lib.hid g2
  have G3 := Lib.hid g3
  have HN := Lib.hid hn
  clear b0 b1 b2 t1 t2 h1 h2 h3 hp e3 e5 hb5 z1 z2 g1 g2 g3
  go_enter Try.func52, Try.ntmps52
  go_wp2
  generalize ((((w.alloc (.cells #[.int .i64 n, .slice a1 n1 c1] 38)).alloc (.cells #[.int .i64 n, .slice a2 n2 c2] 38)).alloc (.cells #[.int .i64 n, .slice a3 n3 c3] 38)).alloc (.cells #[.int .i64 0, .slice none 0 0] 38)).alloc (.cells #[.int .i64 0, .slice none 0 0] 38) = W at *
  have BD : Hid (Below W.heap.size W W.drew) := below_drew
  have KR : Hid (∀ wr, Below W.heap.size W wr → SliceRd Shp.ints wr a1 n1 c1 l1 S1 ∧ SliceRd Shp.ints wr a2 n2 c2 l2 S2 ∧ SliceRd Shp.ints wr a3 n3 c3 l3 S3) := by
    intro wr hb
    have h := KEY.out wr (HB5.out.trans (hb.mono (by rw [HW5.out]; omega)))
    exact ⟨h.2.2.2.2.1, h.2.2.2.2.2.1, h.2.2.2.2.2.2.1⟩
  have HELD : Hid (∀ w', Below (w.heap.size + 1 + 1 + 1) W w' → w'.cell? ⟨w.heap.size, 0, none⟩ = some (.int .i64 n) ∧ w'.cell? ⟨w.heap.size, 1, none⟩ = some (.slice a1 n1 c1) ∧ w'.cell? ⟨w.heap.size + 1, 0, none⟩ = some (.int .i64 n) ∧ w'.cell? ⟨w.heap.size + 1, 1, none⟩ = some (.slice a2 n2 c2) ∧ w'.cell? ⟨w.heap.size + 1 + 1, 0, none⟩ = some (.int .i64 n) ∧ w'.cell? ⟨w.heap.size + 1 + 1, 1, none⟩ = some (.slice a3 n3 c3)) := by
    intro w' hb0
    have hb := HB5.out.trans hb0
    exact ⟨(KEY.out _ hb).2.1.c0, (KEY.out _ hb).2.1.c1, (KEY.out _ hb).2.2.1.c0, (KEY.out _ hb).2.2.1.c1, (KEY.out _ hb).2.2.2.1.c0, (KEY.out _ hb).2.2.2.1.c1⟩
  have HLE : Hid (w.heap.size + 1 + 1 + 1 ≤ W.heap.size) := by show _ ≤ _; rw [HW5.out]; omega
  have hW5 := HW5.out
  go_region_held3 (fun w' => w'.cell? ⟨w.heap.size, 0, none⟩ = some (.int .i64 n) ∧ w'.cell? ⟨w.heap.size, 1, none⟩ = some (.slice a1 n1 c1) ∧ w'.cell? ⟨w.heap.size + 1, 0, none⟩ = some (.int .i64 n) ∧ w'.cell? ⟨w.heap.size + 1, 1, none⟩ = some (.slice a2 n2 c2) ∧ w'.cell? ⟨w.heap.size + 1 + 1, 0, none⟩ = some (.int .i64 n) ∧ w'.cell? ⟨w.heap.size + 1 + 1, 1, none⟩ = some (.slice a3 n3 c3))
    ((refine HELD.out _ ?_; (repeat (first | exact Hid.out (by assumption) | exact (Hid.out (by assumption) : Below W.heap.size W _).mono HLE.out | refine below_st ?_ (by first | exact Nat.le_refl _ | exact Nat.le_succ _) _))))
    (first
      | (go_at_call 81; first
          | ((with_reducible refine Calls.mono (s_sumSpace p n a2 a3 n2 c2 n3 c3 l2 l3 S2 S3 W.drew HP.out (KR.out _ BD.out).2.1 (KR.out _ BD.out).2.2 HN.out G2.out G3.out) ?_); rintro e w1 ⟨v, rfl, hb1, x1, m1, d1, T1, rfl, r1, -, -⟩; have B1 := Lib.hid (below_tr BD.out (Nat.le_refl _) hb1); have R1 := Lib.hid r1; clear hb1 r1)
          | ((with_reducible refine Calls.mono (s_sumSpace p n x3 x4 m3 d3 m4 d4 (meetL p n l1 l2) (meetL p n l1 l3) T3 T4 w4 HP.out R34.out R4.out HN.out (Sp.meet HP.out) (Sp.meet HP.out)) ?_); rintro e w5 ⟨v, rfl, hb5, x5, m5, d5, T5, rfl, r5, -, nw5⟩; have NW5 : Hid (∀ b ∈ T5, W.heap.size ≤ b) := fun b hb => Nat.le_trans B4.out.size (nw5.2 b hb); clear nw5; have B5 := Lib.hid (below_tr B4.out (Nat.le_refl _) hb5); have R5 := Lib.hid r5; have R25 := Lib.hid (R24.out.below Shp.ints_good hb5); have o0 := (KEY5.out _ (B5.out.mono (Nat.le_of_eq HW5.out.symm))).1.c0; have o1 := (KEY5.out _ (B5.out.mono (Nat.le_of_eq HW5.out.symm))).1.c1; have i0 := (KEY5.out _ (B5.out.mono (Nat.le_of_eq HW5.out.symm))).1.f0; have i1 := (KEY5.out _ (B5.out.mono (Nat.le_of_eq HW5.out.symm))).1.f1; have o2 := (KEY5.out _ (B5.out.mono (Nat.le_of_eq HW5.out.symm))).2.c0; have o3 := (KEY5.out _ (B5.out.mono (Nat.le_of_eq HW5.out.symm))).2.c1; have i2 := (KEY5.out _ (B5.out.mono (Nat.le_of_eq HW5.out.symm))).2.f0; have i3 := (KEY5.out _ (B5.out.mono (Nat.le_of_eq HW5.out.symm))).2.f1; clear hb5 r5))
      | (go_at_call 80; first
          | ((with_reducible refine Calls.mono (s_meetSpace p n a1 x1 n1 c1 m1 d1 l1 (sumL p n l2 l3) S1 T1 w1 HP.out (KR.out _ B1.out).1 R1.out HN.out G1.out (Sp.sum HP.out G2.out G3.out)) ?_); rintro e w2 ⟨v, rfl, hb2, x2, m2, d2, T2, rfl, r2, -, nw2⟩; have NW2 : Hid (∀ b ∈ T2, W.heap.size ≤ b) := fun b hb => Nat.le_trans B1.out.size (nw2.2 b hb); clear nw2; have B2 := Lib.hid (below_tr B1.out (Nat.le_refl _) hb2); have R2 := Lib.hid r2; clear hb2 r2)
          | ((with_reducible refine Calls.mono (s_meetSpace p n a1 a2 n1 c1 n2 c2 l1 l2 S1 S2 w2 HP.out (KR.out _ B2.out).1 (KR.out _ B2.out).2.1 HN.out G1.out G2.out) ?_); rintro e w3 ⟨v, rfl, hb3, x3, m3, d3, T3, rfl, r3, -, -⟩; have B3 := Lib.hid (below_tr B2.out (Nat.le_refl _) hb3); have R3 := Lib.hid r3; have R23 := Lib.hid (R2.out.below Shp.ints_good hb3); clear hb3 r3)
          | ((with_reducible refine Calls.mono (s_meetSpace p n a1 a3 n1 c1 n3 c3 l1 l3 S1 S3 w3 HP.out (KR.out _ B3.out).1 (KR.out _ B3.out).2.2 HN.out G1.out G3.out) ?_); rintro e w4 ⟨v, rfl, hb4, x4, m4, d4, T4, rfl, r4, -, -⟩; have B4 := Lib.hid (below_tr B3.out (Nat.le_refl _) hb4); have R4 := Lib.hid r4; have R34 := Lib.hid (R3.out.below Shp.ints_good hb4); have R24 := Lib.hid (R23.out.below Shp.ints_good hb4); clear hb4 r4)))
  have HE : Hid (∀ x y z u : Value, Below w.heap.size w ((((w5.setCell ⟨w.heap.size + 1 + 1 + 1, 0, none⟩ x).setCell ⟨w.heap.size + 1 + 1 + 1, 1, none⟩ y).setCell ⟨w.heap.size + 1 + 1 + 1 + 1, 0, none⟩ z).setCell ⟨w.heap.size + 1 + 1 + 1 + 1, 1, none⟩ u) ∧
      (∃ T, SliceRd Shp.ints ((((w5.setCell ⟨w.heap.size + 1 + 1 + 1, 0, none⟩ x).setCell ⟨w.heap.size + 1 + 1 + 1, 1, none⟩ y).setCell ⟨w.heap.size + 1 + 1 + 1 + 1, 0, none⟩ z).setCell ⟨w.heap.size + 1 + 1 + 1 + 1, 1, none⟩ u) x2 m2 d2 (distM p n l1 l2 l3) T) ∧
      (∃ T, SliceRd Shp.ints ((((w5.setCell ⟨w.heap.size + 1 + 1 + 1, 0, none⟩ x).setCell ⟨w.heap.size + 1 + 1 + 1, 1, none⟩ y).setCell ⟨w.heap.size + 1 + 1 + 1 + 1, 0, none⟩ z).setCell ⟨w.heap.size + 1 + 1 + 1 + 1, 1, none⟩ u) x5 m5 d5 (distS p n l1 l2 l3) T)) := by
    intro x y z u
    have hfr : Frm [w.heap.size + 1 + 1 + 1, w.heap.size + 1 + 1 + 1 + 1] w5 ((((w5.setCell ⟨w.heap.size + 1 + 1 + 1, 0, none⟩ x).setCell ⟨w.heap.size + 1 + 1 + 1, 1, none⟩ y).setCell ⟨w.heap.size + 1 + 1 + 1 + 1, 0, none⟩ z).setCell ⟨w.heap.size + 1 + 1 + 1 + 1, 1, none⟩ u) :=
      ((((Frm.refl _ _).setCell (by simp) _).setCell (by simp) _).setCell (by simp) _).setCell (by simp) _
    have hbw := (KEY.out w5 (HB5.out.trans (B5.out.mono (by rw [HW5.out]; omega)))).1
    refine ⟨hbw.trans (hfr.to_below hbw.size (fun b hb => by simp at hb; omega)), ⟨_, R25.out.frm Shp.ints_good hfr (fun b hb hm => ?_)⟩, ⟨_, R5.out.frm Shp.ints_good hfr (fun b hb hm => ?_)⟩⟩
    · have := NW2.out b hb; simp at hm; omega
    · have := NW5.out b hb; simp at hm; omega
  go_wp2
  obtain ⟨hb, ⟨T, hr⟩, T', hr'⟩ := HE.out (.int .i64 n) (.slice x2 m2 d2) (.int .i64 n) (.slice x5 m5 d5)
  exact bodyPost_ret (v := .tuple #[.agg #[.int .i64 n, .slice x2 m2 d2], .agg #[.int .i64 n, .slice x5 m5 d5]]) (by simp [results, Try.results52, go_sem, o0, o1, o2, o3]) rfl ⟨_, rfl, hb, x2, m2, d2, T, x5, m5, d5, T', rfl, hr, hr'⟩
end Go.Proofs.Ytpngpgbmkkjjgaa

/-
  Contracts: IsDistributive and CountIntoGeneral of the program.
-/
import Derived.Test.YtpngpgbmkkjjgaaC25
namespace Go.Proofs.Ytpngpgbmkkjjgaa
open Go.RowKit

def areS3 (p s1 s2 s3 : Int) (l1 l2 l3 : List (List Int)) : Bool := areS p s1 l1 s2 l2 && areS p s2 l2 s3 l3
theorem areS3_parts {p s1 s2 s3 : Int} {l1 l2 l3 : List (List Int)} (h1 : areS p s1 l1 s2 l2 = true) (h2 : areS p s2 l2 s3 l3 = true) : isF p = true ∧ ∃ n : Nat, s1 = n ∧ s2 = n ∧ s3 = n ∧ n ≤ 8 ∧ Sp p n l1 ∧ Sp p n l2 ∧ Sp p n l3 := by
  simp only [areS, Bool.and_eq_true, decide_eq_true_eq] at h1 h2
  obtain ⟨⟨e1, e2⟩, rfl⟩ := h1
  obtain ⟨⟨-, e3⟩, rfl⟩ := h2
  obtain ⟨hp, n, rfl, hn, -⟩ := spaceV_parts e1
  exact ⟨hp, n, rfl, rfl, rfl, hn, Sp.of e1, Sp.of e2, Sp.of e3⟩
def distrV (p s1 s2 s3 : Int) (l1 l2 l3 : List (List Int)) : Bool := areS3 p s1 s2 s3 l1 l2 l3 && decide (distM p s1.toNat l1 l2 l3 = distS p s1.toNat l1 l2 l3)
def countV (p s1 s2 s3 : Int) (l1 l2 l3 : List (List Int)) : Int := if areS3 p s1 s2 s3 l1 l2 l3 then ((distM p s1.toNat l1 l2 l3).length : Int) - (distS p s1.toNat l1 l2 l3).length else -1

set_option maxRecDepth 20000 in
set_option maxHeartbeats 4000000 in
theorem c_impl_IsDistributive (p s1 s2 s3 : Int) (a1 a2 a3 : Option Addr) (n1 c1 n2 c2 n3 c3 : Nat) (l1 l2 l3 : List (List Int)) (S1 S2 S3 : List Nat) (w : World) (hp : fits p) (h1 : SliceRd Shp.ints w a1 n1 c1 l1 S1) (h2 : SliceRd Shp.ints w a2 n2 c2 l2 S2) (h3 : SliceRd Shp.ints w a3 n3 c3 l3 S3) :
    Calls Try.prog 22 #[.int .i64 p, .agg #[.int .i64 s1, .slice a1 n1 c1], .agg #[.int .i64 s2, .slice a2 n2 c2], .agg #[.int .i64 s3, .slice a3 n3 c3]] w (Ret w fun v _ => v = .bool (distrV p s1 s2 s3 l1 l2 l3)) := by
  have b0 := (Below.refl w.heap.size w).alloc (Nat.le_refl _) (.cells #[.int .i64 s1, .slice a1 n1 c1] 38)
  have b1 := (Below.refl _ (w.alloc (.cells #[.int .i64 s1, .slice a1 n1 c1] 38))).alloc (Nat.le_refl _) (.cells #[.int .i64 s2, .slice a2 n2 c2] 38)
  have b2 := (Below.refl _ ((w.alloc (.cells #[.int .i64 s1, .slice a1 n1 c1] 38)).alloc (.cells #[.int .i64 s2, .slice a2 n2 c2] 38))).alloc (Nat.le_refl _) (.cells #[.int .i64 s3, .slice a3 n3 c3] 38)
  have t1 := At.alloc (w.alloc (.cells #[.int .i64 s1, .slice a1 n1 c1] 38)) #[.int .i64 s2, .slice a2 n2 c2] 38
  have t2 := At.alloc ((w.alloc (.cells #[.int .i64 s1, .slice a1 n1 c1] 38)).alloc (.cells #[.int .i64 s2, .slice a2 n2 c2] 38)) #[.int .i64 s3, .slice a3 n3 c3] 38
  rw [World.size_alloc] at t1
  rw [World.size_alloc, World.size_alloc] at t2
  have KEY : Hid (∀ wr, Below (((w.alloc (.cells #[.int .i64 s1, .slice a1 n1 c1] 38)).alloc (.cells #[.int .i64 s2, .slice a2 n2 c2] 38)).alloc (.cells #[.int .i64 s3, .slice a3 n3 c3] 38)).heap.size (((w.alloc (.cells #[.int .i64 s1, .slice a1 n1 c1] 38)).alloc (.cells #[.int .i64 s2, .slice a2 n2 c2] 38)).alloc (.cells #[.int .i64 s3, .slice a3 n3 c3] 38)) wr →
      Below w.heap.size w wr ∧ At wr w.heap.size 0 [.int .i64 s1, .slice a1 n1 c1] ∧ At wr (w.heap.size + 1) 0 [.int .i64 s2, .slice a2 n2 c2] ∧ At wr (w.heap.size + 1 + 1) 0 [.int .i64 s3, .slice a3 n3 c3] ∧ SliceRd Shp.ints wr a1 n1 c1 l1 S1 ∧ SliceRd Shp.ints wr a2 n2 c2 l2 S2 ∧ SliceRd Shp.ints wr a3 n3 c3 l3 S3 ∧ w.heap.size + 3 ≤ wr.heap.size) := by
    intro wr hb
    have hbw := below_then (below_then (below_then b0 b1) b2) hb
    exact ⟨hbw, (((At.alloc w _ _).keep (b1.block _ (by simp))).keep (b2.block _ (by simp; omega))).keep (hb.block _ (by simp; omega)), (t1.keep (b2.block _ (by simp))).keep (hb.block _ (by simp)), t2.keep (hb.block _ (by simp)), h1.below Shp.ints_good hbw, h2.below Shp.ints_good hbw, h3.below Shp.ints_good hbw, by have := hb.size; simp at this; omega⟩
  have K0 := KEY.out _ (Below.refl _ _)
  have hC1 := c_areSpaces p s1 s2 a1 n1 c1 l1 S1 a2 n2 c2 l2 S2 _ hp K0.2.2.2.2.1 K0.2.2.2.2.2.1
  have q0 := K0.2.1.c0
  have q1 := K0.2.1.c1
  have q2 := K0.2.2.1.c0
  have q3 := K0.2.2.1.c1
  have HP := Lib.hid hp
  clear b0 b1 b2 t1 t2 h1 h2 h3 K0 hp
  cases e1 : areS p s1 l1 s2 l2 with
  | false =>
    rw [e1] at hC1
    have HC1 := Lib.hid hC1
    have HV : Hid (areS3 p s1 s2 s3 l1 l2 l3 = false) := by show _ = _; simp [areS3, e1]
    clear hC1 e1
    go_enter Try.func22, Try.ntmps22
    go_wp2_with (go_at_call 51; refine HC1.out.mono ?_; rintro e w1 ⟨r, rfl, hb, rfl⟩; have B1 := Lib.hid hb; clear hb)
    go_ret
    exact ⟨_, rfl, (KEY.out _ (by have : Hid _ := ‹Hid (Below _ _ _)›; exact this.out)).1, by (unfold distrV; rw [HV.out]; rfl)⟩
  | true =>
    rw [e1] at hC1
    have HC1 := Lib.hid hC1
    have E1 := Lib.hid e1
    clear hC1 e1
    go_enter Try.func22, Try.ntmps22
    go_wp2_with fail
    generalize ((w.alloc (.cells #[.int .i64 s1, .slice a1 n1 c1] 38)).alloc (.cells #[.int .i64 s2, .slice a2 n2 c2] 38)).alloc (.cells #[.int .i64 s3, .slice a3 n3 c3] 38) = W at *
    refine HC1.out.mono ?_
    rintro e w1 ⟨r, rfl, hb1, rfl⟩
    have B1 := Lib.hid hb1
    have K1 := KEY.out _ hb1
    have q0 := K1.2.1.c0
    have q1 := K1.2.1.c1
    have q2 := K1.2.2.1.c0
    have q3 := K1.2.2.1.c1
    have q4 := K1.2.2.2.1.c0
    have q5 := K1.2.2.2.1.c1
    have hC2 := c_areSpaces p s2 s3 a2 n2 c2 l2 S2 a3 n3 c3 l3 S3 w1 HP.out K1.2.2.2.2.2.1 K1.2.2.2.2.2.2.1
    clear hb1 K1 HC1
    cases e2 : areS p s2 l2 s3 l3 with
    | false =>
      rw [e2] at hC2
      have HC2 := Lib.hid hC2
      have HV : Hid (areS3 p s1 s2 s3 l1 l2 l3 = false) := by show _ = _; simp [areS3, e2]
      clear hC2 e2
      go_wp2_with (go_at_call 51; refine HC2.out.mono ?_; rintro e w2 ⟨r, rfl, hb, rfl⟩; have B2 := Lib.hid (below_then B1.out hb); clear hb)
      go_ret
      exact ⟨_, rfl, (KEY.out _ B2.out).1, by (unfold distrV; rw [HV.out]; rfl)⟩
    | true =>
      rw [e2] at hC2
      have HC2 := Lib.hid hC2
      have HV : Hid (areS3 p s1 s2 s3 l1 l2 l3 = true) := by show _ = _; simp [areS3, e2, E1.out]
      obtain ⟨hpf, n, rfl, rfl, rfl, hn, g1, g2, g3⟩ := areS3_parts E1.out e2
      clear hC2 e2 E1
      go_wp2_with fail
      refine HC2.out.mono ?_
      rintro e w2 ⟨r, rfl, hb2, rfl⟩
      have B2 := Lib.hid (below_then B1.out hb2)
      have K2 := KEY.out _ B2.out
      have q0 := K2.2.1.c0
      have q1 := K2.2.1.c1
      have q2 := K2.2.2.1.c0
      have q3 := K2.2.2.1.c1
      have q4 := K2.2.2.2.1.c0
      have q5 := K2.2.2.2.1.c1
      have HD := Lib.hid (c_distributed p n a1 a2 a3 n1 c1 n2 c2 n3 c3 l1 l2 l3 S1 S2 S3 w2 hpf K2.2.2.2.2.1 K2.2.2.2.2.2.1 K2.2.2.2.2.2.2.1 hn g1 g2 g3)
      have GL : Hid ((distM p n l1 l2 l3).length ≤ n ∧ (distS p n l1 l2 l3).length ≤ n) := ⟨(Sp.meet hpf).len, (Sp.sum hpf (Sp.meet hpf) (Sp.meet hpf)).len⟩
      clear hb2 K2 HC2 g1 g2 g3 hpf
      go_wp2_with fail
      refine HD.out.mono ?_
      rintro e w3 ⟨v, rfl, hb3, x, m, d, T, x', m', d', T', rfl, r, r'⟩
      have B3 := Lib.hid (below_then B2.out hb3)
      have hb4 : Below w3.heap.size w3 ((w3.alloc (.cells #[.int .i64 n, .slice x m d] 38)).alloc (.cells #[.int .i64 n, .slice x' m' d'] 38)) := ((Below.refl _ _).alloc (Nat.le_refl _) _).alloc (by simp) _
      have HQ := Lib.hid (c_impl_EqualSpaces n n x m d (distM p n l1 l2 l3) T x' m' d' (distS p n l1 l2 l3) T' _ (r.below Shp.ints_good hb4) (r'.below Shp.ints_good hb4))
      have B4 := Lib.hid (below_then B3.out hb4)
      clear hb3 hb4 r r' q0 q1 q2 q3 q4 q5 HD
      go_wp2_with fail
      refine HQ.out.mono ?_
      rintro e w5 ⟨v, rfl, hb5, rfl⟩
      have B5 := Lib.hid (below_then B4.out hb5)
      clear hb5
      go_wp2
      go_ret
      exact ⟨_, rfl, (KEY.out _ B5.out).1, by unfold distrV; rw [HV.out]; simp⟩

set_option maxRecDepth 20000 in
set_option maxHeartbeats 4000000 in
theorem c_impl_CountIntoGeneral (p s1 s2 s3 : Int) (a1 a2 a3 : Option Addr) (n1 c1 n2 c2 n3 c3 : Nat) (l1 l2 l3 : List (List Int)) (S1 S2 S3 : List Nat) (w : World) (hp : fits p) (h1 : SliceRd Shp.ints w a1 n1 c1 l1 S1) (h2 : SliceRd Shp.ints w a2 n2 c2 l2 S2) (h3 : SliceRd Shp.ints w a3 n3 c3 l3 S3) :
    Calls Try.prog 19 #[.int .i64 p, .agg #[.int .i64 s1, .slice a1 n1 c1], .agg #[.int .i64 s2, .slice a2 n2 c2], .agg #[.int .i64 s3, .slice a3 n3 c3]] w (Ret w fun v _ => v = .int .i64 (countV p s1 s2 s3 l1 l2 l3)) := by
  have b0 := (Below.refl w.heap.size w).alloc (Nat.le_refl _) (.cells #[.int .i64 s1, .slice a1 n1 c1] 38)
  have b1 := (Below.refl _ (w.alloc (.cells #[.int .i64 s1, .slice a1 n1 c1] 38))).alloc (Nat.le_refl _) (.cells #[.int .i64 s2, .slice a2 n2 c2] 38)
  have b2 := (Below.refl _ ((w.alloc (.cells #[.int .i64 s1, .slice a1 n1 c1] 38)).alloc (.cells #[.int .i64 s2, .slice a2 n2 c2] 38))).alloc (Nat.le_refl _) (.cells #[.int .i64 s3, .slice a3 n3 c3] 38)
  have t1 := At.alloc (w.alloc (.cells #[.int .i64 s1, .slice a1 n1 c1] 38)) #[.int .i64 s2, .slice a2 n2 c2] 38
  have t2 := At.alloc ((w.alloc (.cells #[.int .i64 s1, .slice a1 n1 c1] 38)).alloc (.cells #[.int .i64 s2, .slice a2 n2 c2] 38)) #[.int .i64 s3, .slice a3 n3 c3] 38
  rw [World.size_alloc] at t1
  rw [World.size_alloc, World.size_alloc] at t2
  have KEY : Hid (∀ wr, Below (((w.alloc (.cells #[.int .i64 s1, .slice a1 n1 c1] 38)).alloc (.cells #[.int .i64 s2, .slice a2 n2 c2] 38)).alloc (.cells #[.int .i64 s3, .slice a3 n3 c3] 38)).heap.size (((w.alloc (.cells #[.int .i64 s1, .slice a1 n1 c1] 38)).alloc (.cells #[.int .i64 s2, .slice a2 n2 c2] 38)).alloc (.cells #[.int .i64 s3, .slice a3 n3 c3] 38)) wr →
      Below w.heap.size w wr ∧ At wr w.heap.size 0 [.int .i64 s1, .slice a1 n1 c1] ∧ At wr (w.heap.size + 1) 0 [.int .i64 s2, .slice a2 n2 c2] ∧ At wr (w.heap.size + 1 + 1) 0 [.int .i64 s3, .slice a3 n3 c3] ∧ SliceRd Shp.ints wr a1 n1 c1 l1 S1 ∧ SliceRd Shp.ints wr a2 n2 c2 l2 S2 ∧ SliceRd Shp.ints wr a3 n3 c3 l3 S3 ∧ w.heap.size + 3 ≤ wr.heap.size) := by
    intro wr hb
    have hbw := below_then (below_then (below_then b0 b1) b2) hb
    exact ⟨hbw, (((At.alloc w _ _).keep (b1.block _ (by simp))).keep (b2.block _ (by simp; omega))).keep (hb.block _ (by simp; omega)), (t1.keep (b2.block _ (by simp))).keep (hb.block _ (by simp)), t2.keep (hb.block _ (by simp)), h1.below Shp.ints_good hbw, h2.below Shp.ints_good hbw, h3.below Shp.ints_good hbw, by have := hb.size; simp at this; omega⟩
  have K0 := KEY.out _ (Below.refl _ _)
  have hC1 := c_areSpaces p s1 s2 a1 n1 c1 l1 S1 a2 n2 c2 l2 S2 _ hp K0.2.2.2.2.1 K0.2.2.2.2.2.1
  have q0 := K0.2.1.c0
  have q1 := K0.2.1.c1
  have q2 := K0.2.2.1.c0
  have q3 := K0.2.2.1.c1
  have HP := Lib.hid hp
  clear b0 b1 b2 t1 t2 h1 h2 h3 K0 hp
  cases e1 : areS p s1 l1 s2 l2 with
  | false =>
    rw [e1] at hC1
    have HC1 := Lib.hid hC1
    have HV : Hid (areS3 p s1 s2 s3 l1 l2 l3 = false) := by show _ = _; simp [areS3, e1]
    clear hC1 e1
    go_enter Try.func19, Try.ntmps19
    go_wp2_with (go_at_call 51; refine HC1.out.mono ?_; rintro e w1 ⟨r, rfl, hb, rfl⟩; have B1 := Lib.hid hb; clear hb)
    go_ret
    exact ⟨_, rfl, (KEY.out _ (by have : Hid _ := ‹Hid (Below _ _ _)›; exact this.out)).1, by (unfold countV; rw [HV.out]; rfl)⟩
  | true =>
    rw [e1] at hC1
    have HC1 := Lib.hid hC1
    have E1 := Lib.hid e1
    clear hC1 e1
    go_enter Try.func19, Try.ntmps19
    go_wp2_with fail
    generalize ((w.alloc (.cells #[.int .i64 s1, .slice a1 n1 c1] 38)).alloc (.cells #[.int .i64 s2, .slice a2 n2 c2] 38)).alloc (.cells #[.int .i64 s3, .slice a3 n3 c3] 38) = W at *
    refine HC1.out.mono ?_
    rintro e w1 ⟨r, rfl, hb1, rfl⟩
    have B1 := Lib.hid hb1
    have K1 := KEY.out _ hb1
    have q0 := K1.2.1.c0
    have q1 := K1.2.1.c1
    have q2 := K1.2.2.1.c0
    have q3 := K1.2.2.1.c1
    have q4 := K1.2.2.2.1.c0
    have q5 := K1.2.2.2.1.c1
    have hC2 := c_areSpaces p s2 s3 a2 n2 c2 l2 S2 a3 n3 c3 l3 S3 w1 HP.out K1.2.2.2.2.2.1 K1.2.2.2.2.2.2.1
    clear hb1 K1 HC1
    cases e2 : areS p s2 l2 s3 l3 with
    | false =>
      rw [e2] at hC2
      have HC2 := Lib.hid hC2
      have HV : Hid (areS3 p s1 s2 s3 l1 l2 l3 = false) := by show _ = _; simp [areS3, e2]
      clear hC2 e2
      go_wp2_with (go_at_call 51; refine HC2.out.mono ?_; rintro e w2 ⟨r, rfl, hb, rfl⟩; have B2 := Lib.hid (below_then B1.out hb); clear hb)
      go_ret
      exact ⟨_, rfl, (KEY.out _ B2.out).1, by (unfold countV; rw [HV.out]; rfl)⟩
    | true =>
      rw [e2] at hC2
      have HC2 := Lib.hid hC2
      have HV : Hid (areS3 p s1 s2 s3 l1 l2 l3 = true) := by show _ = _; simp [areS3, e2, E1.out]
      obtain ⟨hpf, n, rfl, rfl, rfl, hn, g1, g2, g3⟩ := areS3_parts E1.out e2
      clear hC2 e2 E1
      go_wp2_with fail
      refine HC2.out.mono ?_
      rintro e w2 ⟨r, rfl, hb2, rfl⟩
      have B2 := Lib.hid (below_then B1.out hb2)
      have K2 := KEY.out _ B2.out
      have q0 := K2.2.1.c0
      have q1 := K2.2.1.c1
      have q2 := K2.2.2.1.c0
      have q3 := K2.2.2.1.c1
      have q4 := K2.2.2.2.1.c0
      have q5 := K2.2.2.2.1.c1
      have HD := Lib.hid (c_distributed p n a1 a2 a3 n1 c1 n2 c2 n3 c3 l1 l2 l3 S1 S2 S3 w2 hpf K2.2.2.2.2.1 K2.2.2.2.2.2.1 K2.2.2.2.2.2.2.1 hn g1 g2 g3)
      have GL : Hid ((distM p n l1 l2 l3).length ≤ n ∧ (distS p n l1 l2 l3).length ≤ n) := ⟨(Sp.meet hpf).len, (Sp.sum hpf (Sp.meet hpf) (Sp.meet hpf)).len⟩
      clear hb2 K2 HC2 g1 g2 g3 hpf
      go_wp2_with fail
      refine HD.out.mono ?_
      rintro e w3 ⟨v, rfl, hb3, x, m, d, T, x', m', d', T', rfl, r, r'⟩
      have B3 := Lib.hid (below_then B2.out hb3)
      have hb4 : Below w3.heap.size w3 ((w3.alloc (.cells #[.int .i64 n, .slice x m d] 38)).alloc (.cells #[.int .i64 n, .slice x' m' d'] 38)) := ((Below.refl _ _).alloc (Nat.le_refl _) _).alloc (by simp) _
      have B4 := Lib.hid (below_then B3.out hb4)
      have hm : m ≤ 8 := by have := r.1; have := GL.out; omega
      have hm' : m' ≤ 8 := by have := r'.1; have := GL.out; omega
      have HM : Hid ((distM p n l1 l2 l3).length = m ∧ (distS p n l1 l2 l3).length = m') := ⟨r.1, r'.1⟩
      clear hb3 hb4 r r' q0 q1 q2 q3 q4 q5 HD
      go_wp2
      go_ret
      exact ⟨_, rfl, (KEY.out _ B4.out).1, by unfold countV; rw [HV.out]; simp only [if_true, Int.toNat_natCast, HM.out.1, HM.out.2]; rfl⟩
end Go.Proofs.Ytpngpgbmkkjjgaa

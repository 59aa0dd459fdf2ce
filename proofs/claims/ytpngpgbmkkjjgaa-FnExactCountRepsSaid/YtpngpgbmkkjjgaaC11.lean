/-
  Contracts: the laws' sizes and copies of quivers.
-/
import Derived.Test.YtpngpgbmkkjjgaaC9
namespace Go.Proofs.Ytpngpgbmkkjjgaa
open Go.RowKit

def szI (left : Int) (n : Nat) : Int := if left - n < 0 then -1 else left - n

theorem c_szIntS (a : Option Addr) (n c : Nat) (left : Int) (w : World) (h0 : 0 ≤ left) (h1 : left ≤ 1048576) (hn : n ≤ 9223372036854775807) :
    Calls Try.prog 38 #[.slice a n c, .int .i64 left] w fun e w' => e = .returned (.int .i64 (szI left n)) ∧ w = w' := by
  have HV : Hid (szI left n = if left - n < 0 then -1 else left - n) := rfl
  by_cases hlt : left - (n : Int) < 0
  · have HW : Hid (szI left n = -1) := by show _ = _; rw [HV.out, if_pos hlt]
    go_enter Try.func38, Try.ntmps38
    go_wp2
    go_ret
    exact ⟨ret_int HW.out.symm, rfl⟩
  · have HW : Hid (szI left n = left - n) := by show _ = _; rw [HV.out, if_neg hlt]
    go_enter Try.func38, Try.ntmps38
    go_wp2
    go_ret
    exact ⟨ret_int HW.out.symm, rfl⟩

def szQ (x : Quiver) (left : Int) : Int := if szI left x.src.length < 0 then -1 else if szI (szI left x.src.length) x.tgt.length < 0 then -1 else szI (szI left x.src.length) x.tgt.length
theorem szI_pos {left : Int} {n : Nat} (h : ¬ szI left n < 0) : (n : Int) ≤ left ∧ szI left n = left - n := by
  unfold szI at *
  split at h
  · omega
  · rename_i h2; exact ⟨by omega, by rw [if_neg h2]⟩
theorem szQ_pos {x : Quiver} {left : Int} (h : ¬ szQ x left < 0) (hl : left ≤ 1048576) : x.src.length ≤ 1048576 ∧ x.tgt.length ≤ 1048576 := by
  unfold szQ at h
  split at h
  · omega
  · rename_i h1
    split at h
    · omega
    · rename_i h2
      have a := szI_pos h1
      have b := szI_pos h2
      omega

set_option maxHeartbeats 400000 in
theorem c_szQuiver (cs : Array Value) (x : Quiver) (S : List Nat) (left : Int) (w : World) (h : Shp.quiver.rd w cs.toList x S) (h0 : 0 ≤ left) (h1 : left ≤ 1048576) :
    Calls Try.prog 9 #[.agg cs, .int .i64 left] w (Ret w fun v _ => v = .int .i64 (szQ x left)) := by
  obtain ⟨a1, n1, c1, a2, n2, c2, T1, T2, e1, f1, r1, r2, -⟩ := h
  obtain rfl := arr_of e1
  have HV : Hid (szQ x left = if szI left n1 < 0 then -1 else if szI (szI left n1) n2 < 0 then -1 else szI (szI left n1) n2) := by
    show _ = _
    unfold szQ
    rw [r1.1, r2.1]
  have B0 : Hid (Below w.heap.size w (w.alloc (.cells #[.int .i64 x.vertices, .slice a1 n1 c1, .slice a2 n2 c2] 24))) := (Below.refl _ _).alloc (Nat.le_refl _) _
  have hm1 := r1.max
  have hm2 := r2.max
  clear r1 r2 e1 f1
  have C1 := Lib.hid (c_szIntS a1 n1 c1 left (w.alloc (.cells #[.int .i64 x.vertices, .slice a1 n1 c1, .slice a2 n2 c2] 24)) h0 h1 hm1)
  by_cases e1 : szI left n1 < 0
  · have E1 : Hid (szQ x left = -1) := by show _ = _; rw [HV.out, if_pos e1]
    go_enter Try.func9, Try.ntmps9
    go_wp2_with fail
    refine C1.out.mono ?_
    rintro e w1 ⟨rfl, rfl⟩
    go_wp2
    go_ret
    exact ⟨_, rfl, B0.out, by rw [E1.out]; rfl⟩
  · have hb : 0 ≤ szI left n1 ∧ szI left n1 ≤ 1048576 := by have := szI_pos e1; omega
    have C2 := Lib.hid (c_szIntS a2 n2 c2 (szI left n1) (w.alloc (.cells #[.int .i64 x.vertices, .slice a1 n1 c1, .slice a2 n2 c2] 24)) hb.1 hb.2 hm2)
    clear hb
    rw [if_neg e1] at HV
    generalize szI left n1 = l1 at *
    generalize szI l1 n2 = l2 at *
    by_cases e2 : l2 < 0
    · have E1 : Hid (szQ x left = -1) := by show _ = _; rw [HV.out, if_pos e2]
      go_enter Try.func9, Try.ntmps9
      go_wp2_with fail
      refine C1.out.mono ?_
      rintro e w1 ⟨rfl, rfl⟩
      go_wp2_with fail
      refine C2.out.mono ?_
      rintro e w1 ⟨rfl, rfl⟩
      go_wp2
      go_ret
      exact ⟨_, rfl, B0.out, by rw [E1.out]; rfl⟩
    · have E1 : Hid (szQ x left = l2) := by show _ = _; rw [HV.out, if_neg e2]
      go_enter Try.func9, Try.ntmps9
      go_wp2_with fail
      refine C1.out.mono ?_
      rintro e w1 ⟨rfl, rfl⟩
      go_wp2_with fail
      refine C2.out.mono ?_
      rintro e w1 ⟨rfl, rfl⟩
      go_wp2
      go_ret
      exact ⟨_, rfl, B0.out, by rw [E1.out]; rfl⟩

set_option maxHeartbeats 1000000 in
theorem c_toQuiver (cs : Array Value) (x : Quiver) (S : List Nat) (w : World) (h : Shp.quiver.rd w cs.toList x S) (hs : x.src.length ≤ 1048576) (ht : x.tgt.length ≤ 1048576) :
    Calls Try.prog 11 #[.agg cs] w (Ret w fun v w' => ∃ cs S, v = .agg cs ∧ Shp.quiver.rd w' cs.toList x S ∧ New w.heap.size S) := by
  obtain ⟨a1, n1, c1, a2, n2, c2, T1, T2, e1, f1, r1, r2, -⟩ := h
  obtain rfl := arr_of e1
  obtain ⟨qv, qs, qt⟩ := x
  simp only at r1 r2 f1 hs ht
  have hn1 : n1 ≤ 1048576 := by rw [← r1.1]; exact hs
  have hn2 : n2 ≤ 1048576 := by rw [← r2.1]; exact ht
  have HX1 : Hid (XZ w (w.heap.size + 1 + 1) [.int .i64 qv, .slice a1 n1 c1, .slice a2 n2 c2] [.int .i64 0, .slice none 0 0, .slice none 0 0] [.int .i64 qv, .slice none 0 0, .slice none 0 0]
      (((w.alloc (.cells #[.int .i64 qv, .slice a1 n1 c1, .slice a2 n2 c2] 24)).alloc (.cells #[.int .i64 0, .slice none 0 0, .slice none 0 0] 27)).alloc (.cells #[.int .i64 qv, .slice none 0 0, .slice none 0 0] 27))) := by
    have b0 := (Below.refl w.heap.size w).alloc (Nat.le_refl _) (.cells #[.int .i64 qv, .slice a1 n1 c1, .slice a2 n2 c2] 24)
    have b1 := (Below.refl _ (w.alloc (.cells #[.int .i64 qv, .slice a1 n1 c1, .slice a2 n2 c2] 24))).alloc (Nat.le_refl _) (.cells #[.int .i64 0, .slice none 0 0, .slice none 0 0] 27)
    have b2 := (Below.refl _ ((w.alloc (.cells #[.int .i64 qv, .slice a1 n1 c1, .slice a2 n2 c2] 24)).alloc (.cells #[.int .i64 0, .slice none 0 0, .slice none 0 0] 27))).alloc (Nat.le_refl _) (.cells #[.int .i64 qv, .slice none 0 0, .slice none 0 0] 27)
    have t1 := At.alloc (w.alloc (.cells #[.int .i64 qv, .slice a1 n1 c1, .slice a2 n2 c2] 24)) #[.int .i64 0, .slice none 0 0, .slice none 0 0] 27
    have t2 := At.alloc ((w.alloc (.cells #[.int .i64 qv, .slice a1 n1 c1, .slice a2 n2 c2] 24)).alloc (.cells #[.int .i64 0, .slice none 0 0, .slice none 0 0] 27)) #[.int .i64 qv, .slice none 0 0, .slice none 0 0] 27
    rw [World.size_alloc] at t1
    rw [World.size_alloc, World.size_alloc] at t2
    exact ⟨((At.alloc w #[.int .i64 qv, .slice a1 n1 c1, .slice a2 n2 c2] 24).keep (b1.block _ (by simp))).keep (b2.block _ (by simp; omega)), t1.keep (b2.block _ (by simp)), t2, below_then (below_then b0 b1) b2, by omega, by simp⟩
  have F1 := Lib.hid f1
  have R1 := Lib.hid r1.row
  have R2 := Lib.hid r2.row
  clear r1 r2 e1 f1 hs ht
  have C1 := Lib.hid (c_toIntS a1 n1 c1 qs _ (R1.out.below HX1.out.bel) hn1)
  go_enter Try.func11, Try.ntmps11
  go_wp2_with fail
  refine C1.out.mono ?_
  rintro e w1 ⟨v, rfl, hb1, S1, hO1⟩
  obtain ⟨b1, m1, d1, rfl⟩ := hO1.form
  have HX2 := Lib.hid (HX1.out.below hb1)
  have O1 : Hid (Own 3 Shp.int w1 (w.heap.size + 3) (.slice b1 m1 d1) qs S1) := by
    obtain ⟨xs, T, h1, h2, h3, h4⟩ := hO1
    refine ⟨xs, T, ?_, h2, h3, h4.mono (by have := HX1.out.hi; omega)⟩
    exact ⟨h1.1, by rcases h1.2 with h | ⟨g, cap, cur, r1, r2, r3⟩; exact .inl h; exact .inr ⟨g, cap, cur, r1, Nat.le_trans (by have := HX1.out.hi; omega) r2, r3⟩⟩
  have HX3 := Lib.hid (HX2.out.set 1 (.slice b1 m1 d1) (by simp))
  have q2 := HX2.out.box.c2
  have r1 := HX2.out.rep.c1
  have g1 := HX2.out.rep.f1
  have C2 := Lib.hid (c_toIntS a2 n2 c2 qt _ (R2.out.below HX3.out.bel) hn2)
  clear hb1 hO1 C1 HX1
  go_wp2_with fail
  refine C2.out.mono ?_
  rintro e w2 ⟨v, rfl, hb2, S2, hO2⟩
  obtain ⟨b2, m2, d2, rfl⟩ := hO2.form
  have HX4 := Lib.hid (HX3.out.below hb2)
  have hz1 : w.heap.size + 1 + 1 < w1.heap.size := HX2.out.hi
  have HE : Hid (∀ u x y z : Value, ∃ S, Below w.heap.size w ((((w2.setCell ⟨w.heap.size + 1 + 1, 2, none⟩ u).setCell ⟨w.heap.size + 1, 0, none⟩ x).setCell ⟨w.heap.size + 1, 1, none⟩ y).setCell ⟨w.heap.size + 1, 2, none⟩ z) ∧
      Shp.quiver.rd ((((w2.setCell ⟨w.heap.size + 1 + 1, 2, none⟩ u).setCell ⟨w.heap.size + 1, 0, none⟩ x).setCell ⟨w.heap.size + 1, 1, none⟩ y).setCell ⟨w.heap.size + 1, 2, none⟩ z) [.int .i64 qv, .slice b1 m1 d1, .slice b2 m2 d2] ⟨qv, qs, qt⟩ S ∧ New w.heap.size S) := by
    intro u x y z
    have hfr : Frm [w.heap.size + 1 + 1, w.heap.size + 1] w2 ((((w2.setCell ⟨w.heap.size + 1 + 1, 2, none⟩ u).setCell ⟨w.heap.size + 1, 0, none⟩ x).setCell ⟨w.heap.size + 1, 1, none⟩ y).setCell ⟨w.heap.size + 1, 2, none⟩ z) :=
      ((((Frm.refl _ _).setCell (by simp) _).setCell (by simp) _).setCell (by simp) _).setCell (by simp) _
    have o1 := (O1.out.setOff Shp.int_good (p := ⟨w.heap.size + 1 + 1, 1, none⟩) (O1.out.off (by show w.heap.size + 1 + 1 < w.heap.size + 3; omega)) (.slice b1 m1 d1)).below Shp.int_good hb2
    have hlt1 := O1.out.lt Shp.int_good
    have hn2' : ∀ b ∈ S2, w1.heap.size ≤ b := fun b hb => by have := hO2.new.2 b hb; simpa using this
    obtain ⟨_, _, _, S1', hv1, -, rd1, new1, sub1⟩ := o1.rd
    obtain ⟨_, _, _, S2', hv2, -, rd2, new2, sub2⟩ := hO2.rd
    cases hv1
    cases hv2
    refine ⟨S1' ++ S2', HX4.out.bel.trans (hfr.to_below HX4.out.bel.size (fun b hb => by simp at hb; omega)), ⟨_, _, _, _, _, _, S1', S2', rfl, F1.out, rd1.frm Shp.int_good hfr (fun b hb hm => ?_), rd2.frm Shp.int_good hfr (fun b hb hm => ?_), rfl⟩, ?_⟩
    · have := new1.2 b hb; simp at hm; omega
    · have := hn2' b (sub2 b hb); simp at hm; omega
    · exact New.append (new1.mono (by omega)) ⟨new2.1, fun b hb => by have := hn2' b (sub2 b hb); omega⟩ (fun b hb hm => by have := hlt1 b (sub1 b hb); have := hn2' b (sub2 b hm); omega)
  have p0 := HX4.out.rep.c0
  have p1 := HX4.out.rep.c1
  have p2 := HX4.out.rep.c2
  have g2 := HX4.out.rep.f2
  have o0 := HX4.out.res.c0
  have o1 := HX4.out.res.c1
  have o2 := HX4.out.res.c2
  have i0 := HX4.out.res.f0
  have i1 := HX4.out.res.f1
  have i2 := HX4.out.res.f2
  clear hb2 hO2 C2 O1
  go_wp2
  obtain ⟨S, hb, hr, hn⟩ := HE.out (.slice b2 m2 d2) (.int .i64 qv) (.slice b1 m1 d1) (.slice b2 m2 d2)
  exact bodyPost_ret (v := .agg #[.int .i64 qv, .slice b1 m1 d1, .slice b2 m2 d2]) (by simp [results, Try.results11, go_sem, o0, o1, o2]) rfl ⟨_, rfl, hb, _, S, rfl, hr, hn⟩
end Go.Proofs.Ytpngpgbmkkjjgaa

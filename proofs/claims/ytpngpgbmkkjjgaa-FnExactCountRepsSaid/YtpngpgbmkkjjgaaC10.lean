/-
  Contracts: counting representations; the laws' copies of quivers.
-/
import Derived.Test.YtpngpgbmkkjjgaaC9
namespace Go.Proofs.Ytpngpgbmkkjjgaa
open Go.RowKit

def repN (q : Quiver) (d : List Int) (k : Nat) : Nat := (flatOf (zForms q d k)).length
theorem repN_succ (q : Quiver) (d : List Int) (k : Nat) : repN q d (k + 1) = repN q d k + ddN d (q.tgt[k]?.getD 0) * ddN d (q.src[k]?.getD 0) := by
  unfold repN
  rw [zForms_succ]
  simp [flatOf, zForm]
theorem repN_le {q : Quiver} {d : List Int} (h : dimsV q d = true) : ∀ {k : Nat}, k ≤ q.src.length → repN q d k ≤ 16 * k
  | 0, _ => by simp [repN, zForms, flatOf]
  | k + 1, hk => by
    have ih := repN_le h (k := k) (by omega)
    have hq := quivV_parts (dimsV_parts h).1
    obtain ⟨_, _, _, _, h4⟩ := dd_at h (l := q.tgt) hq.2.2.2.2 (k := k) (by omega)
    obtain ⟨_, _, _, _, h5⟩ := dd_at h (l := q.src) hq.2.2.2.1 (k := k) (by omega)
    have := Nat.mul_le_mul h4 h5
    rw [repN_succ]
    omega

def cntV (p : Int) (q : Quiver) (d : List Int) : Int := if isF p && dimsV q d then (if 20 < repN q d q.src.length then -1 else powW p (repN q d q.src.length)) else -1

set_option maxRecDepth 20000 in
set_option maxHeartbeats 1000000 in
theorem c_impl_CountReps (p : Int) (cs : Array Value) (q : Quiver) (S : List Nat) (a : Option Addr) (n c : Nat) (d : List Int) (S' : List Nat) (w : World) (h : Shp.quiver.rd w cs.toList q S) (hd : SliceRd Shp.int w a n c d S') :
    Calls Try.prog 13 #[.int .i64 p, .agg cs, .slice a n c] w (Ret w fun v _ => v = .int .i64 (cntV p q d)) := by
  have h0 := h
  obtain ⟨a1, n1, c1, a2, n2, c2, T1, T2, e1, f1, r1, r2, -⟩ := h
  obtain rfl := arr_of e1
  have b0 : Below w.heap.size w (w.alloc (.cells #[.int .i64 q.vertices, .slice a1 n1 c1, .slice a2 n2 c2] 27)) := (Below.refl _ _).alloc (Nat.le_refl _) _
  have HV : Hid (cntV p q d = if isF p && dimsV q d then (if 20 < repN q d q.src.length then -1 else powW p (repN q d q.src.length)) else -1) := rfl
  have KEY : Hid (∀ w1, Below (w.alloc (.cells #[.int .i64 q.vertices, .slice a1 n1 c1, .slice a2 n2 c2] 27)).heap.size (w.alloc (.cells #[.int .i64 q.vertices, .slice a1 n1 c1, .slice a2 n2 c2] 27)) w1 → At w1 w.heap.size 0 [.int .i64 q.vertices, .slice a1 n1 c1, .slice a2 n2 c2] ∧ Below w.heap.size w w1 ∧ Shp.quiver.rd w1 [.int .i64 q.vertices, .slice a1 n1 c1, .slice a2 n2 c2] q S ∧ SliceRd Shp.int w1 a n c d S') := by
    intro w1 hb
    exact ⟨(At.alloc w #[.int .i64 q.vertices, .slice a1 n1 c1, .slice a2 n2 c2] 27).keep (hb.block _ (by simp)), below_then b0 hb, Shp.quiver_good.below (Shp.quiver_good.below h0 b0) hb, (hd.below Shp.int_good b0).below Shp.int_good hb⟩
  have X0 := Lib.hid (KEY.out _ (Below.refl _ _))
  clear r1 r2 e1 f1 b0 h0 hd
  cases hf : isF p with
  | false =>
    go_enter Try.func13, Try.ntmps13
    go_wp2_with (go_at_call 42; refine (c_impl_IsField _ _).mono ?_; rintro e w' ⟨rfl, rfl⟩)
    go_ret
    exact ⟨_, rfl, X0.out.2.1, by rw [HV.out, hf]; simp⟩
  | true =>
    have HA := Lib.hid (c_impl_AreDims _ q S a n c d S' _ X0.out.2.2.1 X0.out.2.2.2)
    go_enter Try.func13, Try.ntmps13
    go_wp2_with (go_at_call 42; refine (c_impl_IsField _ _).mono ?_; rintro e w' ⟨rfl, rfl⟩)
    refine HA.out.mono ?_
    rintro e w1 ⟨v, rfl, hb1, rfl⟩
    have X1 := Lib.hid (KEY.out _ hb1)
    have q0 := X1.out.1.c0
    have q1 := X1.out.1.c1
    have q2 := X1.out.1.c2
    clear hb1
    cases hd : dimsV q d with
    | false =>
      go_wp2
      go_ret
      exact ⟨_, rfl, X1.out.2.1, by rw [HV.out, hd]; simp⟩
    | true =>
      have HD := Lib.hid hd
      have hle : repN q d q.src.length ≤ 96 := by have := repN_le hd (Nat.le_refl q.src.length); have := (quivV_parts (dimsV_parts hd).1).2.2.1; omega
      have hql := (quivV_parts (dimsV_parts hd).1).2.2.1
      have HZ := Lib.hid (c_zeroRep p _ q S a n c d S' w1 X1.out.2.2.1 X1.out.2.2.2 hd)
      go_wp2_with fail
      refine HZ.out.mono ?_
      rintro e w2 ⟨v, rfl, hb2, x0, x1, x2, x3, x4, af, nf, cf, SF, rfl, hr2⟩
      have hnf := hr2.1
      have B2 := Lib.hid (below_then X1.out.2.1 hb2)
      have HF := Lib.hid (c_flat af nf cf _ SF w2 hr2 (by rw [← hnf]; simp [zForms]; omega) (by show repN q d q.src.length ≤ _; omega))
      have hfld : (Instr.field 55 (.agg #[x0, x1, x2, x3, x4, .slice af nf cf]) 3).run Try.prog w2 = .ok (.slice af nf cf) w2 := by kernel_rfl
      clear hb2 hr2 hnf
      go_wp2_with fail
      refine HF.out.mono ?_
      rintro e w3 ⟨v, rfl, hb3, S3, hO3⟩
      obtain ⟨a3, n3, c3, S3', rfl, e3, -, -⟩ := hO3.rd
      have e3' : n3 = repN q d q.src.length := e3
      have B3 := Lib.hid (below_then B2.out hb3)
      clear hb3 hO3 e3
      generalize repN q d q.src.length = N at *
      subst e3'
      by_cases h20 : 20 < n3
      · go_wp2
        go_ret
        exact ⟨_, rfl, B3.out, by rw [HV.out, hf, HD.out]; simp [h20]⟩
      · go_wp2_with (go_at_call 46; refine (c_power p _ _ (by unfold fits; omega)).mono ?_; rintro e w' ⟨rfl, rfl⟩)
        go_ret
        exact ⟨_, rfl, B3.out, by rw [HV.out, hf, HD.out]; simp [h20]⟩

set_option maxHeartbeats 1000000 in
theorem c_spec_CountReps (p : Int) (cs : Array Value) (q : Quiver) (S : List Nat) (a : Option Addr) (n c : Nat) (d : List Int) (S' : List Nat) (w : World) (h : Shp.quiver.rd w cs.toList q S) (hd : SliceRd Shp.int w a n c d S') :
    Calls Try.prog 10 #[.int .i64 p, .agg cs, .slice a n c] w (Ret w fun v _ => v = .int .i64 (cntV p q d)) := by
  have h0 := h
  obtain ⟨a1, n1, c1, a2, n2, c2, T1, T2, e1, f1, r1, r2, -⟩ := h
  obtain rfl := arr_of e1
  have b0 : Below w.heap.size w (w.alloc (.cells #[.int .i64 q.vertices, .slice a1 n1 c1, .slice a2 n2 c2] 27)) := (Below.refl _ _).alloc (Nat.le_refl _) _
  have HV : Hid (cntV p q d = if isF p && dimsV q d then (if 20 < repN q d q.src.length then -1 else powW p (repN q d q.src.length)) else -1) := rfl
  have KEY : Hid (∀ w1, Below (w.alloc (.cells #[.int .i64 q.vertices, .slice a1 n1 c1, .slice a2 n2 c2] 27)).heap.size (w.alloc (.cells #[.int .i64 q.vertices, .slice a1 n1 c1, .slice a2 n2 c2] 27)) w1 → At w1 w.heap.size 0 [.int .i64 q.vertices, .slice a1 n1 c1, .slice a2 n2 c2] ∧ Below w.heap.size w w1 ∧ Shp.quiver.rd w1 [.int .i64 q.vertices, .slice a1 n1 c1, .slice a2 n2 c2] q S ∧ SliceRd Shp.int w1 a n c d S' ∧ IntRow w1 a1 n1 q.src ∧ IntRow w1 a2 n2 q.tgt) := by
    intro w1 hb
    exact ⟨(At.alloc w #[.int .i64 q.vertices, .slice a1 n1 c1, .slice a2 n2 c2] 27).keep (hb.block _ (by simp)), below_then b0 hb, Shp.quiver_good.below (Shp.quiver_good.below h0 b0) hb, (hd.below Shp.int_good b0).below Shp.int_good hb, (r1.row.below b0).below hb, (r2.row.below b0).below hb⟩
  have X0 := Lib.hid (KEY.out _ (Below.refl _ _))
  have HL := Lib.hid (And.intro r1.1 (And.intro r2.1 hd.1))
  clear r1 r2 e1 f1 b0 h0 hd
  cases hf : isF p with
  | false =>
    go_enter Try.func10, Try.ntmps10
    go_wp2_with (go_at_call 39; refine (c_spec_IsField _ _).mono ?_; rintro e w' ⟨rfl, rfl⟩)
    go_ret
    exact ⟨_, rfl, X0.out.2.1, by rw [HV.out, hf]; simp⟩
  | true =>
    have HA := Lib.hid (c_spec_AreDims _ q S a n c d S' _ X0.out.2.2.1 X0.out.2.2.2.1)
    go_enter Try.func10, Try.ntmps10
    go_wp2_with (go_at_call 39; refine (c_spec_IsField _ _).mono ?_; rintro e w' ⟨rfl, rfl⟩)
    refine HA.out.mono ?_
    rintro e w1 ⟨v, rfl, hb1, rfl⟩
    have X1 := Lib.hid (KEY.out _ hb1)
    have q0 := X1.out.1.c0
    have q1 := X1.out.1.c1
    have q2 := X1.out.1.c2
    clear hb1
    cases hd : dimsV q d with
    | false =>
      go_wp2
      go_ret
      exact ⟨_, rfl, X1.out.2.1, by rw [HV.out, hd]; simp⟩
    | true =>
      have HD := Lib.hid hd
      have HQ := Lib.hid (quivV_parts (dimsV_parts hd).1)
      have hn1 : n1 ≤ 6 := by have := HQ.out.2.2.1; have := HL.out.1; omega
      have hn2 : n2 = n1 := by have := HQ.out.2.1; have := HL.out.1; have := HL.out.2.1; omega
      subst hn2
      go_wp2
      go_loopw [7, 8] (fun s i wr => ∃ k : Nat, k ≤ n2 ∧ i = .int .i64 k ∧ s = .int .i64 (repN q d k : Nat) ∧ ∃ m, wr = w1.drewN m) (fun _ i _ => n2 - (intOf i).toNat)
      case atStart => exact ⟨0, Nat.zero_le _, rfl, rfl, 0, rfl⟩
      case round =>
        obtain ⟨k, hk, rfl, rfl, m, rfl⟩ := hrel
        by_cases hlt : k < n2
        · obtain ⟨jt, ht1, ht2, ht3, ht4⟩ := dd_at HD.out (l := q.tgt) HQ.out.2.2.2.2 (k := k) (by have := HL.out.2.1; omega)
          obtain ⟨js, hs1, hs2, hs3, hs4⟩ := dd_at HD.out (l := q.src) HQ.out.2.2.2.1 (k := k) (by have := HL.out.1; omega)
          obtain ⟨bt, ot, rfl, hbt, hct⟩ := X1.out.2.2.2.2.2.cell (by omega)
          obtain ⟨bs, os, rfl, hbs, hcs⟩ := X1.out.2.2.2.2.1.cell (by omega)
          have hnl := HL.out.2.2
          obtain ⟨bd, od, rfl, hbd, hcd⟩ := X1.out.2.2.2.1.row.cell (by omega)
          have k1 := (hct k hlt).1
          have k2 := (hcs k hlt).1
          have k3 := (hcd jt (by omega)).1
          have k4 := (hcd js (by omega)).1
          have HS : Hid (repN q d (k + 1) = repN q d k + ddN d (q.tgt[k]?.getD 0) * ddN d (q.src[k]?.getD 0)) := repN_succ q d k
          have hle : repN q d k ≤ 96 := by have := repN_le HD.out (k := k) (by have := HL.out.1; omega); omega
          rw [ht1] at k1
          rw [hs1] at k2
          rw [ht3] at k3
          rw [hs3] at k4
          generalize ddN d (q.tgt[k]?.getD 0) = r at *
          generalize ddN d (q.src[k]?.getD 0) = s at *
          have hrs : r * s ≤ 16 := Nat.mul_le_mul ht4 hs4
          have hw1 : wrap64 ((s : Int) * (r : Int)) = ((r * s : Nat) : Int) := by
            have h2 : (s : Int) * (r : Int) = ((r * s : Nat) : Int) := by push_cast; exact Int.mul_comm _ _
            rw [h2]
            exact IntWalk.wrap64_in _ ⟨by omega, by omega⟩
          obtain ⟨rs, hrs'⟩ : ∃ rs, rs = r * s := ⟨_, rfl⟩
          rw [← hrs'] at hw1 hrs HS
          have HW1 := Lib.hid hw1
          clear hw1
          generalize hN : repN q d k = N at *
          have hw2 : wrap64 ((N : Int) + (rs : Int)) = ((N + rs : Nat) : Int) := by
            rw [← Int.natCast_add]
            exact IntWalk.wrap64_in _ ⟨by omega, by omega⟩
          have z0 : (0 : Int) ≤ (k : Int) := by omega
          have z1 : (k : Int) < (n2 : Int) := by omega
          have z2 : (0 : Int) ≤ (jt : Int) := by omega
          have z3 : (jt : Int) < (n : Int) := by omega
          have z4 : (0 : Int) ≤ (js : Int) := by omega
          have z5 : (js : Int) < (n : Int) := by omega
          have HW := Lib.hid (And.intro HW1.out hw2)
          clear hct hcs hcd ht1 hs1 ht3 hs3 hnl ht2 hs2 hN hrs' ht4 hs4 hw2
          go_wp2
          go_quiet (fail)
          go_wp2
          go_roundw
          case rel =>
            refine ⟨k + 1, by omega, by go_num, ?_, _, rfl⟩
            rw [HS.out, HW.out.1, HW.out.2]
          case measure => simp [intOf]; omega
        · obtain rfl : k = n2 := by omega
          have hl1 := HL.out.1
          have hle : repN q d k ≤ 96 := by have := repN_le HD.out (k := k) (by omega); omega
          have HE : Hid (repN q d q.src.length = repN q d k) := by show _ = _; rw [hl1]
          clear hl1
          generalize repN q d k = N at *
          by_cases h20 : 20 < N
          · go_wp2
            go_ret
            exact ⟨_, rfl, below_drewN _ X1.out.2.1, by rw [HV.out, hf, HD.out, HE.out]; simp [h20]⟩
          · go_wp2_with (go_at_call 41; refine (c_l5Power p _ _ (by unfold fits; omega)).mono ?_; rintro e w' ⟨rfl, rfl⟩)
            go_ret
            exact ⟨_, rfl, below_drewN _ X1.out.2.1, by rw [HV.out, hf, HD.out, HE.out]; simp [h20]⟩
end Go.Proofs.Ytpngpgbmkkjjgaa

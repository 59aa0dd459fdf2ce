/-
  Contracts: comparison of slopes.
-/
import Derived.Test.YtfnmcjpbknnmjaaC2
namespace Go.Proofs.Ytfnmcjpbknnmjaa
open Go.RowKit

def sgn (x y : Int) : Int := if x < y then -1 else if y < x then 1 else 0
theorem sgn_lt {x y : Int} (h : x < y) : sgn x y = -1 := by simp [sgn, h]
theorem sgn_gt {x y : Int} (h : y < x) : sgn x y = 1 := by unfold sgn; rw [if_neg (by omega), if_pos h]
theorem sgn_eq {x y : Int} (h1 : ¬ x < y) (h2 : ¬ y < x) : sgn x y = 0 := by simp [sgn, h1, h2]

theorem wrap64_id {x : Int} (h1 : -9223372036854775808 ≤ x) (h2 : x ≤ 9223372036854775807) : wrap64 x = x := IntWalk.wrap64_in x ⟨h1, h2⟩

theorem mul_bound {x y : Int} (a1 : -20 ≤ x ∧ x ≤ 20) (a2 : 0 ≤ y ∧ y ≤ 100) : -2000 ≤ x * y ∧ x * y ≤ 2000 := by
  have h1 : x * y ≤ 20 * y := Int.mul_le_mul_of_nonneg_right a1.2 a2.1
  have h2 : -20 * y ≤ x * y := Int.mul_le_mul_of_nonneg_right a1.1 a2.1
  omega

theorem fineT_parts {t d : List Int} (h : fineT t d = true) : t.length = d.length ∧ t.length ≤ 100 ∧ t.all (fun x => inR x (-20) 20) = true ∧ d.all (fun x => inR x 0 100) = true := by
  simp only [fineT, Bool.and_eq_true, decide_eq_true_eq] at h
  exact ⟨h.1.1.1, h.1.1.2, h.1.2, h.2⟩

theorem dot_bound {t d : List Int} (h : fineT t d = true) : ∀ k, k ≤ t.length → -(2000 * (k : Int)) ≤ dotW t d k ∧ dotW t d k ≤ 2000 * k := by
  obtain ⟨hl, h100, ht, hd⟩ := fineT_parts h
  intro k
  induction k with
  | zero => intro _; simp [dotW]
  | succ k ih =>
    intro hk
    obtain ⟨h1, h2⟩ := ih (by omega)
    obtain ⟨b1, b2⟩ := mul_bound (inR_true (all_get (p := fun x => inR x (-20) 20) (d := 0) ht (by omega : k < t.length))) (inR_true (all_get (p := fun x => inR x 0 100) (d := 0) hd (by omega : k < d.length)))
    show _ ≤ wrap64 (dotW t d k + wrap64 (t[k]?.getD 0 * d[k]?.getD 0)) ∧ wrap64 (dotW t d k + wrap64 (t[k]?.getD 0 * d[k]?.getD 0)) ≤ _
    rw [wrap64_id (x := t[k]?.getD 0 * d[k]?.getD 0) (by omega) (by omega), wrap64_id (by omega) (by omega)]
    omega

theorem dot_small {t d : List Int} (h : fineT t d = true) : -200000 ≤ dotW t d t.length ∧ dotW t d t.length ≤ 200000 := by
  have := dot_bound h t.length (Nat.le_refl _)
  have := (fineT_parts h).2.1
  omega

theorem sum_bound {d : List Int} (hd : d.all (fun x => inR x 0 100) = true) (h100 : d.length ≤ 100) : ∀ k, k ≤ d.length → 0 ≤ sumW (d.take k) ∧ sumW (d.take k) ≤ 100 * k := by
  intro k
  induction k with
  | zero => intro _; simp [sumW]
  | succ k ih =>
    intro hk
    obtain ⟨h1, h2⟩ := ih (by omega)
    have a := inR_true (all_get (p := fun x => inR x 0 100) (d := 0) hd (by omega : k < d.length))
    rw [take_snoc d k 0 (by omega), sumW_snoc, wrap64_id (by omega) (by omega)]
    omega
theorem sum_small {d : List Int} (hd : d.all (fun x => inR x 0 100) = true) (h100 : d.length ≤ 100) : 0 ≤ sumW d ∧ sumW d ≤ 10000 := by
  have := sum_bound hd h100 d.length (Nat.le_refl _)
  rw [List.take_length] at this
  omega

theorem prod_small {x y : Int} (a1 : -200000 ≤ x ∧ x ≤ 200000) (a2 : 0 ≤ y ∧ y ≤ 10000) : -2000000000 ≤ x * y ∧ x * y ≤ 2000000000 := by
  have h1 : x * y ≤ 200000 * y := Int.mul_le_mul_of_nonneg_right a1.2 a2.1
  have h2 : -200000 * y ≤ x * y := Int.mul_le_mul_of_nonneg_right a1.1 a2.1
  omega

/-- What CompareSlopes returns. -/
def cmpV (t a b : List Int) : Int :=
  if fineT t a && fineT t b && (sumW a != 0) && (sumW b != 0) then sgn (dotW t a t.length * sumW b) (dotW t b t.length * sumW a) else 0

set_option maxHeartbeats 400000 in
theorem c_isNaN_int (x : Int) (w : World) : Calls Try.prog 34 #[.int .i64 x] w fun e w' => e = .returned (.bool false) ∧ w = w' := by
  go_enter Try.func34, Try.ntmps34
  go_wp2
  go_ret
  exact ⟨ret_bool (by simp), rfl⟩

set_option maxHeartbeats 400000 in
theorem c_Compare_int (x y : Int) (w : World) : Calls Try.prog 31 #[.int .i64 x, .int .i64 y] w fun e w' => e = .returned (.int .i64 (sgn x y)) ∧ w = w' := by
  by_cases h1 : x < y
  · have HV := Lib.hid (sgn_lt h1)
    go_enter Try.func31, Try.ntmps31
    go_wp2_with (go_at_call 34; refine (c_isNaN_int _ _).mono ?_; rintro e w' ⟨rfl, rfl⟩)
    go_ret
    exact ⟨ret_int HV.out.symm, rfl⟩
  · by_cases h2 : y < x
    · have HV := Lib.hid (sgn_gt h2)
      go_enter Try.func31, Try.ntmps31
      go_wp2_with (go_at_call 34; refine (c_isNaN_int _ _).mono ?_; rintro e w' ⟨rfl, rfl⟩)
      go_ret
      exact ⟨ret_int HV.out.symm, rfl⟩
    · have HV := Lib.hid (sgn_eq h1 h2)
      go_enter Try.func31, Try.ntmps31
      go_wp2_with (go_at_call 34; refine (c_isNaN_int _ _).mono ?_; rintro e w' ⟨rfl, rfl⟩)
      go_ret
      exact ⟨ret_int HV.out.symm, rfl⟩

set_option maxHeartbeats 400000 in
theorem c_compareSlopes (a1 : Option Addr) (n c1 : Nat) (t : List Int) (a2 : Option Addr) (c2 : Nat) (a : List Int) (a3 : Option Addr) (c3 : Nat) (b : List Int) (w : World) (h1 : IntRow w a1 n t) (h2 : IntRow w a2 n a) (h3 : IntRow w a3 n b) :
    Calls Try.prog 29 #[.slice a1 n c1, .slice a2 n c2, .slice a3 n c3] w fun e w' => e = .returned (.int .i64 (sgn (wrap64 (dotW t a n * sumW b)) (wrap64 (dotW t b n * sumW a)))) ∧ w = w' := by
  have H1 := Lib.hid h1
  have H2 := Lib.hid h2
  have H3 := Lib.hid h3
  clear h1 h2 h3
  go_enter Try.func29, Try.ntmps29
  go_wp2_with fail
  refine (c_thetaOf _ _ _ _ _ _ _ _ H1.out H2.out).mono ?_
  rintro e w' ⟨rfl, rfl⟩
  go_wp2_with fail
  refine (c_sumOf _ _ _ _ _ H3.out).mono ?_
  rintro e w' ⟨rfl, rfl⟩
  go_wp2_with fail
  refine (c_thetaOf _ _ _ _ _ _ _ _ H1.out H3.out).mono ?_
  rintro e w' ⟨rfl, rfl⟩
  go_wp2_with fail
  refine (c_sumOf _ _ _ _ _ H2.out).mono ?_
  rintro e w' ⟨rfl, rfl⟩
  go_wp2_with fail
  refine (c_Compare_int _ _ _).mono ?_
  rintro e w' ⟨rfl, rfl⟩
  go_wp2
  go_ret
  exact ⟨rfl, rfl⟩

theorem sgn_sub {x y : Int} (hx : -2000000000 ≤ x ∧ x ≤ 2000000000) (hy : -2000000000 ≤ y ∧ y ≤ 2000000000) : sgn x y = sgn (wrap64 (wrap64 x - wrap64 y)) 0 := by
  rw [wrap64_id (x := x) (by omega) (by omega), wrap64_id (x := y) (by omega) (by omega), wrap64_id (by omega) (by omega)]
  rcases Int.lt_trichotomy x y with h | h | h
  · rw [sgn_lt h, sgn_lt (by omega)]
  · rw [sgn_eq (by omega) (by omega), sgn_eq (by omega) (by omega)]
  · rw [sgn_gt h, sgn_gt (by omega)]

/-- cmpV where all is fine -/
theorem cmpV_fine {t a b : List Int} (h1 : fineT t a = true) (h2 : fineT t b = true) (h3 : (sumW a == 0) = false) (h4 : (sumW b == 0) = false) :
    cmpV t a b = sgn (wrap64 (dotW t a t.length * sumW b)) (wrap64 (dotW t b t.length * sumW a)) ∧
    cmpV t a b = sgn (wrap64 (wrap64 (dotW t a t.length * sumW b) - wrap64 (dotW t b t.length * sumW a))) 0 := by
  obtain ⟨l1, l2, l3, l4⟩ := fineT_parts h1
  obtain ⟨m1, m2, m3, m4⟩ := fineT_parts h2
  have e1 := prod_small (dot_small h1) (sum_small m4 (by omega))
  have e2 := prod_small (dot_small h2) (sum_small l4 (by omega))
  have e : cmpV t a b = sgn (dotW t a t.length * sumW b) (dotW t b t.length * sumW a) := by
    have h3' : (sumW a != 0) = true := by simpa [bne] using h3
    have h4' : (sumW b != 0) = true := by simpa [bne] using h4
    simp only [cmpV, h1, h2, h3', h4', Bool.and_self, if_true]
  exact ⟨by rw [e, wrap64_id (by omega) (by omega), wrap64_id (by omega) (by omega)], by rw [e, sgn_sub e1 e2]⟩
theorem cmpV_bad1 {t a b : List Int} (h1 : fineT t a = false) : cmpV t a b = 0 := by simp [cmpV, h1]
theorem cmpV_bad2 {t a b : List Int} (h1 : fineT t b = false) : cmpV t a b = 0 := by simp [cmpV, h1]
theorem cmpV_bad3 {t a b : List Int} (h1 : (sumW a == 0) = true) : cmpV t a b = 0 := by
  have : (sumW a != 0) = false := by simpa [bne] using h1
  simp [cmpV, this]
theorem cmpV_bad4 {t a b : List Int} (h1 : (sumW b == 0) = true) : cmpV t a b = 0 := by
  have : (sumW b != 0) = false := by simpa [bne] using h1
  simp [cmpV, this]

set_option maxHeartbeats 1000000 in
theorem c_impl_CompareSlopes (a1 : Option Addr) (n1 c1 : Nat) (t : List Int) (a2 : Option Addr) (n2 c2 : Nat) (a : List Int) (a3 : Option Addr) (n3 c3 : Nat) (b : List Int) (w : World) (h1 : IntRow w a1 n1 t) (h2 : IntRow w a2 n2 a) (h3 : IntRow w a3 n3 b) :
    Calls Try.prog 19 #[.slice a1 n1 c1, .slice a2 n2 c2, .slice a3 n3 c3] w (Ret w fun v _ => v = .int .i64 (cmpV t a b)) := by
  have H1 := Lib.hid h1
  have H2 := Lib.hid h2
  have H3 := Lib.hid h3
  have HA := Lib.hid (c_areThetas _ n1 c1 _ _ n2 c2 _ w h1 h2)
  clear h1 h2 h3
  cases hf1 : fineT t a with
  | false =>
    have HV := Lib.hid (cmpV_bad1 (b := b) hf1)
    rw [hf1] at HA
    clear hf1
    go_enter Try.func19, Try.ntmps19
    go_wp2_with fail
    refine HA.out.mono ?_
    rintro e w1 ⟨v, rfl, hb1, rfl⟩
    have B1 := Lib.hid hb1
    clear hb1
    go_wp2
    go_ret
    exact ⟨_, rfl, B1.out, by rw [HV.out]; rfl⟩
  | true =>
    have F1 := Lib.hid hf1
    rw [hf1] at HA
    clear hf1
    cases hf2 : fineT t b with
    | false =>
      have HV := Lib.hid (cmpV_bad2 (a := a) hf2)
      have F2 := Lib.hid hf2
      clear hf2
      go_enter Try.func19, Try.ntmps19
      go_wp2_with fail
      refine HA.out.mono ?_
      rintro e w1 ⟨v, rfl, hb1, rfl⟩
      have B1 := Lib.hid hb1
      have H1' := Lib.hid (H1.out.below hb1)
      have H3' := Lib.hid (H3.out.below hb1)
      clear hb1
      go_wp2_with fail
      refine (c_areThetas _ _ _ _ _ _ _ _ _ H1'.out H3'.out).mono ?_
      rw [F2.out]
      rintro e w2 ⟨v, rfl, hb2, rfl⟩
      have B2 := Lib.hid (below_then B1.out hb2)
      clear hb2
      go_wp2
      go_ret
      exact ⟨_, rfl, B2.out, by rw [HV.out]; rfl⟩
    | true =>
      have F2 := Lib.hid hf2
      clear hf2
      cases hs1 : (sumW a == 0) with
      | true =>
        have HV := Lib.hid (cmpV_bad3 (t := t) (b := b) hs1)
        go_enter Try.func19, Try.ntmps19
        go_wp2_with fail
        refine HA.out.mono ?_
        rintro e w1 ⟨v, rfl, hb1, rfl⟩
        have B1 := Lib.hid hb1
        have H1' := Lib.hid (H1.out.below hb1)
        have H2' := Lib.hid (H2.out.below hb1)
        have H3' := Lib.hid (H3.out.below hb1)
        clear hb1
        go_wp2_with fail
        refine (c_areThetas _ _ _ _ _ _ _ _ _ H1'.out H3'.out).mono ?_
        rw [F2.out]
        rintro e w2 ⟨v, rfl, hb2, rfl⟩
        have B2 := Lib.hid (below_then B1.out hb2)
        have H2'' := Lib.hid (H2'.out.below hb2)
        clear hb2
        go_wp2_with fail
        refine (c_sumOf _ _ _ _ _ H2''.out).mono ?_
        rintro e w' ⟨rfl, rfl⟩
        go_wp2
        go_ret
        exact ⟨_, rfl, B2.out, by rw [HV.out]; rfl⟩
      | false =>
        have HN : n2 = n1 ∧ n3 = n1 := by
          have := (fineT_parts F1.out).1
          have := (fineT_parts F2.out).1
          have := H1.out.len; have := H2.out.len; have := H3.out.len
          omega
        obtain ⟨rfl, rfl⟩ := HN
        cases hs2 : (sumW b == 0) with
        | true =>
          have HV := Lib.hid (cmpV_bad4 (t := t) (a := a) hs2)
          go_enter Try.func19, Try.ntmps19
          go_wp2_with fail
          refine HA.out.mono ?_
          rintro e w1 ⟨v, rfl, hb1, rfl⟩
          have B1 := Lib.hid hb1
          have H1' := Lib.hid (H1.out.below hb1)
          have H2' := Lib.hid (H2.out.below hb1)
          have H3' := Lib.hid (H3.out.below hb1)
          clear hb1
          go_wp2_with fail
          refine (c_areThetas _ _ _ _ _ _ _ _ _ H1'.out H3'.out).mono ?_
          rw [F2.out]
          rintro e w2 ⟨v, rfl, hb2, rfl⟩
          have B2 := Lib.hid (below_then B1.out hb2)
          have H2'' := Lib.hid (H2'.out.below hb2)
          have H3'' := Lib.hid (H3'.out.below hb2)
          clear hb2
          go_wp2_with fail
          refine (c_sumOf _ _ _ _ _ H2''.out).mono ?_
          rintro e w' ⟨rfl, rfl⟩
          go_wp2_with fail
          refine (c_sumOf _ _ _ _ _ H3''.out).mono ?_
          rintro e w' ⟨rfl, rfl⟩
          go_wp2
          go_ret
          exact ⟨_, rfl, B2.out, by rw [HV.out]; rfl⟩
        | false =>
          have HV := Lib.hid (cmpV_fine F1.out F2.out hs1 hs2).1
          rw [H1.out.len] at HV
          go_enter Try.func19, Try.ntmps19
          go_wp2_with fail
          refine HA.out.mono ?_
          rintro e w1 ⟨v, rfl, hb1, rfl⟩
          have B1 := Lib.hid hb1
          have H1' := Lib.hid (H1.out.below hb1)
          have H2' := Lib.hid (H2.out.below hb1)
          have H3' := Lib.hid (H3.out.below hb1)
          clear hb1
          go_wp2_with fail
          refine (c_areThetas _ _ _ _ _ _ _ _ _ H1'.out H3'.out).mono ?_
          rw [F2.out]
          rintro e w2 ⟨v, rfl, hb2, rfl⟩
          have B2 := Lib.hid (below_then B1.out hb2)
          have H1'' := Lib.hid (H1'.out.below hb2)
          have H2'' := Lib.hid (H2'.out.below hb2)
          have H3'' := Lib.hid (H3'.out.below hb2)
          clear hb2
          go_wp2_with fail
          refine (c_sumOf _ _ _ _ _ H2''.out).mono ?_
          rintro e w' ⟨rfl, rfl⟩
          go_wp2_with fail
          refine (c_sumOf _ _ _ _ _ H3''.out).mono ?_
          rintro e w' ⟨rfl, rfl⟩
          go_wp2_with fail
          refine (c_compareSlopes _ _ _ _ _ _ _ _ _ _ _ H1''.out H2''.out H3''.out).mono ?_
          rintro e w' ⟨rfl, rfl⟩
          go_wp2
          go_ret
          exact ⟨_, rfl, B2.out, by rw [HV.out]; rfl⟩

set_option maxHeartbeats 1000000 in
theorem c_spec_CompareSlopes (a1 : Option Addr) (n1 c1 : Nat) (t : List Int) (a2 : Option Addr) (n2 c2 : Nat) (a : List Int) (a3 : Option Addr) (n3 c3 : Nat) (b : List Int) (w : World) (h1 : IntRow w a1 n1 t) (h2 : IntRow w a2 n2 a) (h3 : IntRow w a3 n3 b) :
    Calls Try.prog 18 #[.slice a1 n1 c1, .slice a2 n2 c2, .slice a3 n3 c3] w (Quiet w (.int .i64 (cmpV t a b))) := by
  have H1 := Lib.hid h1
  have H2 := Lib.hid h2
  have H3 := Lib.hid h3
  have HA := Lib.hid (c_l31Fine _ n1 c1 _ _ n2 c2 _ w h1 h2)
  have HB := Lib.hid (c_l31Fine _ n1 c1 _ _ n3 c3 _ w h1 h3)
  have HC := Lib.hid (c_l31Sum _ n2 c2 _ w h2)
  have HD := Lib.hid (c_l31Sum _ n3 c3 _ w h3)
  clear h1 h2 h3
  cases hf1 : fineT t a with
  | false =>
    have HV := Lib.hid (cmpV_bad1 (b := b) hf1)
    go_enter Try.func18, Try.ntmps18
    go_wp2_with fail
    refine HA.out.mono ?_
    rintro e w1 ⟨rfl, rfl⟩
    go_wp2
    go_ret
    exact ⟨ret_int HV.out.symm, 0, rfl⟩
  | true =>
    cases hf2 : fineT t b with
    | false =>
      have HV := Lib.hid (cmpV_bad2 (a := a) hf2)
      go_enter Try.func18, Try.ntmps18
      go_wp2_with fail
      refine HA.out.mono ?_
      rintro e w1 ⟨rfl, rfl⟩
      go_wp2_with fail
      refine HB.out.mono ?_
      rintro e w1 ⟨rfl, rfl⟩
      go_wp2
      go_ret
      exact ⟨ret_int HV.out.symm, 0, rfl⟩
    | true =>
      cases hs1 : (sumW a == 0) with
      | true =>
        have HV := Lib.hid (cmpV_bad3 (t := t) (b := b) hs1)
        go_enter Try.func18, Try.ntmps18
        go_wp2_with fail
        refine HA.out.mono ?_
        rintro e w1 ⟨rfl, rfl⟩
        go_wp2_with fail
        refine HB.out.mono ?_
        rintro e w1 ⟨rfl, rfl⟩
        go_wp2_with fail
        refine HC.out.mono ?_
        rintro e w1 ⟨rfl, rfl⟩
        go_wp2
        go_ret
        exact ⟨ret_int HV.out.symm, 0, rfl⟩
      | false =>
        cases hs2 : (sumW b == 0) with
        | true =>
          have HV := Lib.hid (cmpV_bad4 (t := t) (a := a) hs2)
          go_enter Try.func18, Try.ntmps18
          go_wp2_with fail
          refine HA.out.mono ?_
          rintro e w1 ⟨rfl, rfl⟩
          go_wp2_with fail
          refine HB.out.mono ?_
          rintro e w1 ⟨rfl, rfl⟩
          go_wp2_with fail
          refine HC.out.mono ?_
          rintro e w1 ⟨rfl, rfl⟩
          go_wp2_with fail
          refine HD.out.mono ?_
          rintro e w1 ⟨rfl, rfl⟩
          go_wp2
          go_ret
          exact ⟨ret_int HV.out.symm, 0, rfl⟩
        | false =>
          have HV := Lib.hid (cmpV_fine hf1 hf2 hs1 hs2).2
          have HT1 : Hid (thetaV t a = dotW t a t.length) := by show _ = _; simp [thetaV, hf1]
          have HT2 : Hid (thetaV t b = dotW t b t.length) := by show _ = _; simp [thetaV, hf2]
          go_enter Try.func18, Try.ntmps18
          go_wp2_with fail
          refine HA.out.mono ?_
          rintro e w1 ⟨rfl, rfl⟩
          go_wp2_with fail
          refine HB.out.mono ?_
          rintro e w1 ⟨rfl, rfl⟩
          go_wp2_with fail
          refine HC.out.mono ?_
          rintro e w1 ⟨rfl, rfl⟩
          go_wp2_with fail
          refine HD.out.mono ?_
          rintro e w1 ⟨rfl, rfl⟩
          go_wp2_with fail
          refine (c_spec_ThetaOf _ _ _ _ _ _ _ _ _ H1.out H2.out).mono ?_
          rintro e w1 ⟨rfl, q1, rfl⟩
          go_wp2_with fail
          refine (c_l31Sum _ _ _ _ _ (H3.out.below (below_drewN q1 (Below.refl _ _)))).mono ?_
          rintro e w1 ⟨rfl, rfl⟩
          go_wp2_with fail
          refine (c_spec_ThetaOf _ _ _ _ _ _ _ _ _ (H1.out.below (below_drewN q1 (Below.refl _ _))) (H3.out.below (below_drewN q1 (Below.refl _ _)))).mono ?_
          rintro e w1 ⟨rfl, q2, rfl⟩
          go_wp2_with fail
          refine (c_l31Sum _ _ _ _ _ (H2.out.below (below_drewN (q1 + q2) (Below.refl _ _)))).mono ?_
          rintro e w1 ⟨rfl, rfl⟩
          have HW : Hid (cmpV t a b = sgn (wrap64 (wrap64 (thetaV t a * sumW b) - wrap64 (thetaV t b * sumW a))) 0) := by
            show _ = _
            rw [HT1.out, HT2.out]
            exact HV.out
          rcases Int.lt_trichotomy (wrap64 (wrap64 (thetaV t a * sumW b) - wrap64 (thetaV t b * sumW a))) 0 with h | h | h
          · have HE := Lib.hid (sgn_lt h)
            go_wp2
            go_ret
            exact ⟨ret_int (by rw [HW.out, HE.out]), _, rfl⟩
          · have HE := Lib.hid (sgn_eq (x := wrap64 (wrap64 (thetaV t a * sumW b) - wrap64 (thetaV t b * sumW a))) (y := 0) (by omega) (by omega))
            have h1 : ¬ wrap64 (wrap64 (thetaV t a * sumW b) - wrap64 (thetaV t b * sumW a)) < 0 := by omega
            have h2 : ¬ wrap64 (wrap64 (thetaV t a * sumW b) - wrap64 (thetaV t b * sumW a)) > 0 := by omega
            clear h
            go_wp2
            go_ret
            exact ⟨ret_int (by rw [HW.out, HE.out]), _, rfl⟩
          · have HE := Lib.hid (sgn_gt h)
            go_wp2
            go_ret
            exact ⟨ret_int (by rw [HW.out, HE.out]), _, rfl⟩
end Go.Proofs.Ytfnmcjpbknnmjaa

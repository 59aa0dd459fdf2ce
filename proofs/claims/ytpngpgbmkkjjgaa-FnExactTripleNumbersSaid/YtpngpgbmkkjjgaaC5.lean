/-
  Contracts: the fields.
-/
import Derived.Test.YtpngpgbmkkjjgaaC2
namespace Go.Proofs.Ytpngpgbmkkjjgaa
open Go.RowKit

theorem tmod_range (x p : Int) (hp : 0 < p) : -p < x.tmod p ∧ x.tmod p < p :=
  ⟨Int.lt_tmod_of_pos x hp, Int.tmod_lt_of_pos x hp⟩
theorem tmod_cases (x p : Int) (hp : 0 < p) : (0 ≤ x.tmod p ∧ x.tmod p = x % p) ∨ (x.tmod p < 0 ∧ x.tmod p = x % p - p) := by
  have h := @Int.tmod_eq_emod x p
  have h0 := Int.emod_nonneg x (by omega : p ≠ 0)
  have h1 := Int.emod_lt_of_pos x hp
  have h2 : (p.natAbs : Int) = p := by omega
  split at h
  · exact .inl ⟨by omega, by omega⟩
  · exact .inr ⟨by omega, by omega⟩
theorem tmod_emod (x p : Int) (hp : 0 < p) : (x.tmod p + p).tmod p = x % p := by
  have h0 := Int.emod_nonneg x (by omega : p ≠ 0)
  have h1 := Int.emod_lt_of_pos x hp
  rcases tmod_cases x p hp with ⟨h, e⟩ | ⟨h, e⟩
  · rw [e, Int.tmod_eq_emod_of_nonneg (by omega), Int.add_emod_right, Int.emod_emod_of_dvd _ (Int.dvd_refl p)]
  · rw [e, show x % p - p + p = x % p by omega, Int.tmod_eq_emod_of_nonneg h0, Int.emod_emod_of_dvd _ (Int.dvd_refl p)]
def isF (p : Int) : Bool := decide (p = 2 ∨ p = 3 ∨ p = 5)
theorem isF_true {p : Int} (h : isF p = true) : p = 2 ∨ p = 3 ∨ p = 5 := by simpa [isF] using h
/-- r to the power of n, for a rest r -/
def powR (p r : Int) : Nat → Int
  | 0 => 1
  | n + 1 => (powR p r n * r) % p
theorem powR_bd {p r : Int} (hp : isF p = true) (hr : 0 ≤ r ∧ r < p) : ∀ n, 0 ≤ powR p r n ∧ powR p r n < p := by
  intro n
  have := isF_true hp
  cases n with
  | zero => simp [powR]; omega
  | succ n => exact ⟨Int.emod_nonneg _ (by omega), Int.emod_lt_of_pos _ (by omega)⟩
def invR (p r : Int) : Int := powR p r (max (p - 2) 1).toNat
theorem inv_hit {p r y : Int} (hp : isF p = true) (hr : 0 ≤ r ∧ r < p) (hy : 1 ≤ y ∧ y < p) (h : (r * y) % p = 1) : invR p r = y := by
  rcases isF_true hp with rfl | rfl | rfl
  · have h1 : r = 0 ∨ r = 1 := by omega
    have h2 : y = 1 := by omega
    subst h2
    rcases h1 with rfl | rfl <;> first | (exfalso; revert h; decide) | decide
  · have h1 : r = 0 ∨ r = 1 ∨ r = 2 := by omega
    have h2 : y = 1 ∨ y = 2 := by omega
    rcases h1 with rfl | rfl | rfl <;> rcases h2 with rfl | rfl <;> first | (exfalso; revert h; decide) | decide
  · have h1 : r = 0 ∨ r = 1 ∨ r = 2 ∨ r = 3 ∨ r = 4 := by omega
    have h2 : y = 1 ∨ y = 2 ∨ y = 3 ∨ y = 4 := by omega
    rcases h1 with rfl | rfl | rfl | rfl | rfl <;> rcases h2 with rfl | rfl | rfl | rfl <;> first | (exfalso; revert h; decide) | decide
theorem inv_miss {p r : Int} (hp : isF p = true) (hr : 0 ≤ r ∧ r < p) (h : ∀ y : Nat, 1 ≤ y → (y : Int) < p → (r * y) % p ≠ 1) : invR p r = 0 := by
  have h1 := h 1 (by omega)
  have h2 := h 2 (by omega)
  have h3 := h 3 (by omega)
  have h4 := h 4 (by omega)
  rcases isF_true hp with rfl | rfl | rfl
  · have h1 : r = 0 ∨ r = 1 := by omega
    rcases h1 with rfl | rfl <;> first | decide | (exfalso; revert h1 h2 h3 h4; decide)
  · have h1 : r = 0 ∨ r = 1 ∨ r = 2 := by omega
    rcases h1 with rfl | rfl | rfl <;> first | decide | (exfalso; revert h1 h2 h3 h4; decide)
  · have h1 : r = 0 ∨ r = 1 ∨ r = 2 ∨ r = 3 ∨ r = 4 := by omega
    rcases h1 with rfl | rfl | rfl | rfl | rfl <;> first | decide | (exfalso; revert h1 h2 h3 h4; decide)
theorem inv_ok {p r : Int} (hp : isF p = true) (hr : 1 ≤ r ∧ r < p) : 1 ≤ invR p r ∧ invR p r < p ∧ (r * invR p r) % p = 1 := by
  rcases isF_true hp with rfl | rfl | rfl
  · have h1 : r = 1 := by omega
    subst h1; decide
  · have h1 : r = 1 ∨ r = 2 := by omega
    rcases h1 with rfl | rfl <;> decide
  · have h1 : r = 1 ∨ r = 2 ∨ r = 3 ∨ r = 4 := by omega
    rcases h1 with rfl | rfl | rfl | rfl <;> decide

theorem isF_false {p : Int} (h : isF p = false) : p ≠ 2 ∧ p ≠ 3 ∧ p ≠ 5 := by simp [isF] at h; omega
theorem isF_bd {p : Int} (h : isF p = true) : 2 ≤ p ∧ p ≤ 5 := by have := isF_true h; omega
theorem isF_mk {p : Int} (h : p = 2 ∨ p = 3 ∨ p = 5) : isF p = true := by simpa [isF] using h

set_option maxHeartbeats 400000 in
theorem c_impl_IsField (p : Int) (w : World) : Calls Try.prog 42 #[.int .i64 p] w fun e w' => e = .returned (.bool (isF p)) ∧ w = w' := by
  by_cases h2 : p = 2
  · have HV := Lib.hid (isF_mk (.inl h2))
    have e2 : (p == 2) = true := by simp [h2]
    clear h2
    go_enter Try.func42, Try.ntmps42
    go_wp2
    go_ret
    exact ⟨ret_bool HV.out.symm, rfl⟩
  · have e2 : (p == 2) = false := by simp [h2]
    by_cases h3 : p = 3
    · have HV := Lib.hid (isF_mk (.inr (.inl h3)))
      have e3 : (p == 3) = true := by simp [h3]
      clear h3 h2
      go_enter Try.func42, Try.ntmps42
      go_wp2
      go_ret
      exact ⟨ret_bool HV.out.symm, rfl⟩
    · have e3 : (p == 3) = false := by simp [h3]
      by_cases h5 : p = 5
      · have HV := Lib.hid (isF_mk (.inr (.inr h5)))
        have e5 : (p == 5) = true := by simp [h5]
        clear h5 h3 h2
        go_enter Try.func42, Try.ntmps42
        go_wp2
        go_ret
        exact ⟨ret_bool HV.out.symm, rfl⟩
      · have e5 : (p == 5) = false := by simp [h5]
        have HV : Hid (isF p = false) := by show _ = _; simp [isF, h2, h3, h5]
        clear h5 h3 h2
        go_enter Try.func42, Try.ntmps42
        go_wp2
        go_ret
        exact ⟨ret_bool HV.out.symm, rfl⟩

set_option maxHeartbeats 400000 in
theorem c_spec_IsField (p : Int) (w : World) : Calls Try.prog 39 #[.int .i64 p] w fun e w' => e = .returned (.bool (isF p)) ∧ w = w' := by
  by_cases h2 : p = 2
  · have HV := Lib.hid (isF_mk (.inl h2))
    have e2 : (p == 2) = true := by simp [h2]
    clear h2
    go_enter Try.func39, Try.ntmps39
    go_wp2
    go_ret
    exact ⟨ret_bool HV.out.symm, rfl⟩
  · have e2 : (p == 2) = false := by simp [h2]
    by_cases h3 : p = 3
    · have HV := Lib.hid (isF_mk (.inr (.inl h3)))
      have e3 : (p == 3) = true := by simp [h3]
      clear h3 h2
      go_enter Try.func39, Try.ntmps39
      go_wp2
      go_ret
      exact ⟨ret_bool HV.out.symm, rfl⟩
    · have e3 : (p == 3) = false := by simp [h3]
      by_cases h5 : p = 5
      · have HV := Lib.hid (isF_mk (.inr (.inr h5)))
        have e5 : (p == 5) = true := by simp [h5]
        clear h5 h3 h2
        go_enter Try.func39, Try.ntmps39
        go_wp2
        go_ret
        exact ⟨ret_bool HV.out.symm, rfl⟩
      · have e5 : (p == 5) = false := by simp [h5]
        have HV : Hid (isF p = false) := by show _ = _; simp [isF, h2, h3, h5]
        clear h5 h3 h2
        go_enter Try.func39, Try.ntmps39
        go_wp2
        go_ret
        exact ⟨ret_bool HV.out.symm, rfl⟩


set_option maxHeartbeats 400000 in
theorem c_impl_ReduceMod (p x : Int) (hp : isF p = true) (hx : fits x) (w : World) : Calls Try.prog 167 #[.int .i64 p, .int .i64 x] w fun e w' => e = .returned (.int .i64 (x % p)) ∧ w = w' := by
  have hb := isF_bd hp
  unfold fits at hx
  have hr := tmod_range x p (by omega)
  have HV : Hid ((x.tmod p + p) % p = x % p) := by
    have h := tmod_emod x p (by omega)
    rw [Int.tmod_eq_emod_of_nonneg (by omega)] at h
    exact h
  obtain ⟨hb1, hb2⟩ := hb
  obtain ⟨hr1, hr2⟩ := hr
  obtain ⟨hx1, hx2⟩ := hx
  go_enter Try.func167, Try.ntmps167
  go_wp2_with (go_at_call 42; refine (c_impl_IsField _ _).mono ?_; rintro e w' ⟨rfl, rfl⟩)
  go_ret
  exact ⟨ret_int HV.out, rfl⟩

set_option maxHeartbeats 400000 in
theorem c_impl_PowerMod (p x : Int) (k : Nat) (hp : isF p = true) (hx : fits x) (hk : k ≤ 1000) (w : World) : Calls Try.prog 165 #[.int .i64 p, .int .i64 x, .int .i64 k] w fun e w' => e = .returned (.int .i64 (powR p (x % p) k)) ∧ w = w' := by
  have hb := isF_bd hp
  have HX := Lib.hid hx
  have hr1 := Int.emod_nonneg x (show p ≠ 0 by omega)
  have hr2 := Int.emod_lt_of_pos x (show 0 < p by omega)
  have HB := Lib.hid (powR_bd hp ⟨hr1, hr2⟩)
  have hin : inR (k : Int) 0 1000 = true := inR_mk (by omega) (by omega)
  obtain ⟨hb1, hb2⟩ := hb
  clear hx
  go_enter Try.func165, Try.ntmps165
  go_wp2_with (first | (go_at_call 42; refine (c_impl_IsField _ _).mono ?_; rintro e w' ⟨rfl, rfl⟩) | (go_at_call 136; refine (c_within _ _ _ _).mono ?_; rintro e w' ⟨rfl, rfl⟩))
  go_loop [7, 17] (fun o i => ∃ j : Nat, j ≤ k ∧ i = .int .i64 j ∧ o = .int .i64 (powR p (x % p) j)) (fun _ i => k - (intOf i).toNat)
  case atStart => exact ⟨0, Nat.zero_le _, rfl, rfl⟩
  case round =>
    obtain ⟨j, hj, rfl, rfl⟩ := hrel
    obtain ⟨g1, g2⟩ := HB.out j
    have HM : Hid (powR p (x % p) (j + 1) = (powR p (x % p) j * (x % p)) % p) := rfl
    have g3 : 0 ≤ powR p (x % p) j * (x % p) := Int.mul_nonneg g1 hr1
    have g4 : powR p (x % p) j * (x % p) ≤ 25 := by
      have h1 : powR p (x % p) j * (x % p) ≤ 5 * (x % p) := Int.mul_le_mul_of_nonneg_right (by omega) hr1
      omega
    by_cases hlt : j < k
    · go_wp2_with (go_at_call 167; refine (c_impl_ReduceMod _ _ hp HX.out _).mono ?_; rintro e w' ⟨rfl, rfl⟩)
      go_round
      case rel => exact ⟨j + 1, by omega, by go_num, by rw [HM.out]⟩
      case measure => simp [intOf]; omega
    · have e : j = k := by omega
      subst e
      go_wp2
      go_ret
      exact ⟨rfl, rfl⟩

set_option maxHeartbeats 400000 in
theorem c_impl_InverseMod (p x : Int) (hp : isF p = true) (hx : fits x) (w : World) : Calls Try.prog 162 #[.int .i64 p, .int .i64 x] w fun e w' => e = .returned (.int .i64 (invR p (x % p))) ∧ w = w' := by
  have HX := Lib.hid hx
  have HP := Lib.hid hp
  clear hx
  have hc := isF_true hp
  clear hp
  rcases hc with rfl | rfl | rfl
  · go_enter Try.func162, Try.ntmps162
    have hp := HP.out
    go_wp2_with (go_at_call 42; refine (c_impl_IsField _ _).mono ?_; rintro e w' ⟨rfl, rfl⟩)
    refine (c_impl_PowerMod 2 x 1 hp HX.out (by omega) _).mono ?_
    rintro e w' ⟨rfl, rfl⟩
    go_wp2
    go_ret
    exact ⟨rfl, rfl⟩
  · go_enter Try.func162, Try.ntmps162
    have hp := HP.out
    go_wp2_with (go_at_call 42; refine (c_impl_IsField _ _).mono ?_; rintro e w' ⟨rfl, rfl⟩)
    refine (c_impl_PowerMod 3 x 1 hp HX.out (by omega) _).mono ?_
    rintro e w' ⟨rfl, rfl⟩
    go_wp2
    go_ret
    exact ⟨rfl, rfl⟩
  · go_enter Try.func162, Try.ntmps162
    have hp := HP.out
    go_wp2_with (go_at_call 42; refine (c_impl_IsField _ _).mono ?_; rintro e w' ⟨rfl, rfl⟩)
    refine (c_impl_PowerMod 5 x 3 hp HX.out (by omega) _).mono ?_
    rintro e w' ⟨rfl, rfl⟩
    go_wp2
    go_ret
    exact ⟨rfl, rfl⟩

set_option maxHeartbeats 400000 in
theorem c_l2Mod (p x : Int) (hp : isF p = true) (hx : fits x) (w : World) : Calls Try.prog 103 #[.int .i64 p, .int .i64 x] w fun e w' => e = .returned (.int .i64 (x % p)) ∧ w = w' := by
  have hb := isF_bd hp
  unfold fits at hx
  obtain ⟨hb1, hb2⟩ := hb
  obtain ⟨hx1, hx2⟩ := hx
  rcases tmod_cases x p (by omega) with ⟨h, e⟩ | ⟨h, e⟩
  · have HE := Lib.hid e
    have hr := tmod_range x p (by omega)
    obtain ⟨hr1, hr2⟩ := hr
    clear e
    go_enter Try.func103, Try.ntmps103
    go_wp2
    go_ret
    exact ⟨ret_int HE.out, rfl⟩
  · have HE := Lib.hid e
    have hr := tmod_range x p (by omega)
    obtain ⟨hr1, hr2⟩ := hr
    clear e
    go_enter Try.func103, Try.ntmps103
    go_wp2
    go_ret
    exact ⟨ret_int (by have := HE.out; omega), rfl⟩

set_option maxHeartbeats 400000 in
theorem c_spec_InverseMod (p x : Int) (hp : isF p = true) (hx : fits x) (w : World) : Calls Try.prog 157 #[.int .i64 p, .int .i64 x] w fun e w' => e = .returned (.int .i64 (invR p (x % p))) ∧ w = w' := by
  have HX := Lib.hid hx
  have hb := isF_bd hp
  have hr1 := Int.emod_nonneg x (show p ≠ 0 by omega)
  have hr2 := Int.emod_lt_of_pos x (show 0 < p by omega)
  have HP := Lib.hid hp
  obtain ⟨hb1, hb2⟩ := hb
  clear hx
  go_enter Try.func157, Try.ntmps157
  go_wp2
  go_loop [5] (fun i => ∃ y : Nat, 1 ≤ y ∧ (y : Int) ≤ p ∧ i = .int .i64 y ∧ Hid (∀ z : Nat, 1 ≤ z → z < y → ((x % p) * z) % p ≠ 1)) (fun i => (p - intOf i).toNat)
  case atStart => exact ⟨1, by omega, by omega, rfl, fun z h1 h2 => by omega⟩
  case round =>
    obtain ⟨y, hy1, hy2, rfl, hq⟩ := hrel
    have g3 : 0 ≤ x % p * y := Int.mul_nonneg hr1 (by omega)
    have g4 : x % p * y ≤ 25 := by
      have h1 : x % p * y ≤ 5 * (y : Int) := Int.mul_le_mul_of_nonneg_right (by omega) (by omega)
      omega
    have HM : Hid (fits (x % p * y)) := by show fits _; unfold fits; omega
    by_cases hlt : (y : Int) < p
    · cases ht : (x % p * y % p == 1) with
      | true =>
        have HV : Hid (invR p (x % p) = y) := inv_hit HP.out ⟨hr1, hr2⟩ ⟨by omega, hlt⟩ (by simpa using ht)
        go_wp2_with (go_at_call 39; refine (c_spec_IsField _ _).mono ?_; rintro e w' ⟨rfl, rfl⟩; have hisf := HP.out)
        refine (c_l2Mod _ _ HP.out HX.out _).mono ?_
        rintro e w' ⟨rfl, rfl⟩
        go_wp2_with fail
        refine (c_l2Mod _ _ HP.out HM.out _).mono ?_
        rintro e w' ⟨rfl, rfl⟩
        go_wp2
        go_ret
        exact ⟨ret_int HV.out.symm, rfl⟩
      | false =>
        have HN : Hid ((x % p * y) % p ≠ 1) := by show _ ≠ _; simpa using ht
        go_wp2_with (go_at_call 39; refine (c_spec_IsField _ _).mono ?_; rintro e w' ⟨rfl, rfl⟩; have hisf := HP.out)
        refine (c_l2Mod _ _ HP.out HX.out _).mono ?_
        rintro e w' ⟨rfl, rfl⟩
        go_wp2_with fail
        refine (c_l2Mod _ _ HP.out HM.out _).mono ?_
        rintro e w' ⟨rfl, rfl⟩
        go_wp2
        go_round
        case rel =>
          refine ⟨y + 1, by omega, by omega, by go_num, fun z h1 h2 => ?_⟩
          by_cases e : z = y
          · subst e; exact HN.out
          · exact hq.out z h1 (by omega)
        case measure => simp [intOf]; omega
    · have HV : Hid (invR p (x % p) = 0) := inv_miss HP.out ⟨hr1, hr2⟩ (fun z h1 h2 => hq.out z h1 (by omega))
      go_wp2
      go_ret
      exact ⟨ret_int HV.out.symm, rfl⟩

/-! ### vectors -/

def vecV (p : Int) (v : List Int) : Bool := isF p && decide (v.length ≤ 64) && v.all (fun x => inR x 0 (p - 1))
theorem vecV_parts {p : Int} {v : List Int} (h : vecV p v = true) : isF p = true ∧ v.length ≤ 64 ∧ v.all (fun x => inR x 0 (p - 1)) = true := by
  simp only [vecV, Bool.and_eq_true, decide_eq_true_eq] at h
  exact ⟨h.1.1, h.1.2, h.2⟩

set_option maxHeartbeats 400000 in
theorem c_impl_IsVector (p : Int) (a : Option Addr) (n c : Nat) (v : List Int) (w : World) (hp : fits p) (h : IntRow w a n v) :
    Calls Try.prog 160 #[.int .i64 p, .slice a n c] w (Ret w fun r _ => r = .bool (vecV p v)) := by
  have hm := h.max
  have HV : Hid (vecV p v = (isF p && decide (n ≤ 64) && v.all (fun x => inR x 0 (p - 1)))) := by show _ = _; simp only [vecV, h.len]
  cases hf : isF p with
  | false =>
    go_enter Try.func160, Try.ntmps160
    go_wp2_with (go_at_call 42; refine (c_impl_IsField _ _).mono ?_; rintro e w' ⟨rfl, rfl⟩)
    go_ret
    exact ⟨_, rfl, Below.refl _ _, by rw [HV.out]; simp [hf]⟩
  | true =>
    have hb := isF_bd hf
    obtain ⟨hb1, hb2⟩ := hb
    by_cases h64 : n ≤ 64
    · have HC := Lib.hid (c_allWithin a n c v 0 (p - 1) w h)
      go_enter Try.func160, Try.ntmps160
      go_wp2_with (first | (go_at_call 42; refine (c_impl_IsField _ _).mono ?_; rintro e w' ⟨rfl, rfl⟩) | (go_at_call 93; refine HC.out.mono ?_; rintro e w1 ⟨r, rfl, hb3, rfl⟩; have B1 := Lib.hid hb3; clear hb3))
      go_ret
      exact ⟨_, rfl, by have : Hid _ := ‹Hid (Below _ _ _)›; exact this.out, by rw [HV.out]; simp [hf, h64]⟩
    · go_enter Try.func160, Try.ntmps160
      go_wp2_with (go_at_call 42; refine (c_impl_IsField _ _).mono ?_; rintro e w' ⟨rfl, rfl⟩)
      go_ret
      exact ⟨_, rfl, Below.refl _ _, by rw [HV.out]; simp [h64]⟩

set_option maxHeartbeats 400000 in
theorem c_spec_IsVector (p : Int) (a : Option Addr) (n c : Nat) (v : List Int) (w : World) (hp : fits p) (h : IntRow w a n v) :
    Calls Try.prog 155 #[.int .i64 p, .slice a n c] w fun e w' => e = .returned (.bool (vecV p v)) ∧ w = w' := by
  have hm := h.max
  have HL := Lib.hid h.len
  have HV : Hid (vecV p v = (isF p && decide (n ≤ 64) && v.all (fun x => inR x 0 (p - 1)))) := by show _ = _; simp only [vecV, h.len]
  cases hf : isF p with
  | false =>
    go_enter Try.func155, Try.ntmps155
    go_wp2_with (go_at_call 39; refine (c_spec_IsField _ _).mono ?_; rintro e w' ⟨rfl, rfl⟩)
    go_ret
    exact ⟨ret_bool (by rw [HV.out]; simp [hf]), rfl⟩
  | true =>
    have hb := isF_bd hf
    obtain ⟨hb1, hb2⟩ := hb
    by_cases h64 : n ≤ 64
    · go_enter Try.func155, Try.ntmps155
      go_wp2_with (go_at_call 39; refine (c_spec_IsField _ _).mono ?_; rintro e w' ⟨rfl, rfl⟩)
      go_loop [5] (fun i => ∃ k : Nat, k ≤ n ∧ i = .int .i64 k ∧ Hid (∀ j, j < k → inR (v[j]?.getD 0) 0 (p - 1) = true)) (fun i => n - (intOf i).toNat)
      case atStart => exact ⟨0, Nat.zero_le _, rfl, fun j hj => absurd hj (Nat.not_lt_zero _)⟩
      case round =>
        obtain ⟨k, hk, rfl, hq⟩ := hrel
        by_cases hlt : k < n
        · obtain ⟨b, off, rfl, hb', hc⟩ := h.cell (by omega)
          have hck := (hc k hlt).1
          clear hc
          cases hin : inR (v[k]?.getD 0) 0 (p - 1) with
          | false =>
            have HB : Hid (vecV p v = false) := by show _ = _; rw [HV.out, all_false_get (p := fun x => inR x 0 (p - 1)) (d := 0) (k := k) (by have := HL.out; omega) hin]; simp
            go_wp2_with (go_at_call 91; refine (c_l1In _ _ _ _).mono ?_; rintro e w' ⟨rfl, rfl⟩)
            go_ret
            exact ⟨ret_bool HB.out.symm, rfl⟩
          | true =>
            have HI := Lib.hid hin
            go_wp2_with (go_at_call 91; refine (c_l1In _ _ _ _).mono ?_; rintro e w' ⟨rfl, rfl⟩)
            go_round
            case rel =>
              refine ⟨k + 1, by omega, by go_num, fun j hj => ?_⟩
              by_cases e : j = k
              · subst e; exact HI.out
              · exact hq.out j (by omega)
            case measure => simp [intOf]; omega
        · have e : k = n := by omega
          subst e
          have HB : Hid (vecV p v = true) := by
            show _ = _
            rw [HV.out, all_of_get (p := fun x => inR x 0 (p - 1)) 0 (fun j hj => hq.out j (by have := HL.out; omega))]
            simp [hf, h64]
          go_wp2
          go_ret
          exact ⟨ret_bool HB.out.symm, rfl⟩
    · go_enter Try.func155, Try.ntmps155
      go_wp2_with (go_at_call 39; refine (c_spec_IsField _ _).mono ?_; rintro e w' ⟨rfl, rfl⟩)
      go_ret
      exact ⟨ret_bool (by rw [HV.out]; simp [h64]), rfl⟩
end Go.Proofs.Ytpngpgbmkkjjgaa

/-
  Contracts: comparisons of rows, quivers, matrices, representations, bars, spaces, claims.
-/
import Derived.Test.YtpngpgbmkkjjgaaTy
import Derived.Test.YtpngpgbmkkjjgaaA16
namespace Go.Proofs.Ytpngpgbmkkjjgaa
open Go.RowKit
set_option maxRecDepth 10000
set_option maxHeartbeats 4000000
theorem MIX : Try.prog.follows .mixedOrders = true := by kernel_rfl

theorem h_l6Same (a b : List Int) : HasC Try.prog 64 [ints a, ints b] (.bl (decide (a = b))) := by
  refine hasC_mk TT_ok (ns := [0,1,2,3,4,5,6,7]) Try.func64 rfl rfl Try.ntmps64 rfl rfl rfl ?_
  refine ac_len (t := 0) rfl fun hla => ?_
  have hmx : maxLen ≤ 9223372036854775807 := by decide
  simp only [encI_len, List.length_map] at hla
  repeat (first | refine aops_nil ?_ | refine ac_seq ?_ | refine ac_region ?_ | refine then_n ?_ | refine aops_eff (eff_move rfl) rfl rfl rfl ?_ | refine aops_eff (eff_assign rfl) rfl rfl rfl ?_ | refine aops_eff (w_len_list TT_ok rfl rfl rfl) rfl rfl rfl ?_ | refine aops_eff (w_cmp rfl rfl rfl) rfl rfl rfl ?_)
  refine ac_cond rfl (fun h => ?_) (fun h => ?_)
  · simp [encI_len] at h
    repeat (first | refine aops_nil ?_ | refine ac_seq ?_ | refine ac_region ?_ | refine then_n ?_ | refine then_ret ?_ | refine ac_ret ?_ | refine aops_eff (eff_assign rfl) rfl rfl rfl ?_)
    refine ret_mk rfl rfl rfl ?_
    refine fz_bl ?_
    have : a ≠ b := by rintro rfl; exact h rfl
    simp [this]
  · simp [encI_len] at h
    repeat (first | refine aops_nil ?_ | refine ac_seq ?_ | refine ac_region ?_ | refine then_n ?_ | refine ac_block ?_ | refine ac_skip ?_ | refine aops_eff (eff_assign rfl) rfl rfl rfl ?_)
    refine ac_loop (ι := Nat) (fun k => mkS [(0, ints a), (1, ints b), (5, .int k)] [] 0 [0,1,2,3,4,5,6,7]) (fun k => k ≤ a.length ∧ a.take k = b.take k) (fun k => a.length - k) 0 (by simp) ?_ ?_
    · refine ent_mk (σ := sg []) ?_ ?_ rfl
      · repeat (first | exact trivial | refine ⟨⟨_, rfl, ?_⟩, ?_⟩ | exact ⟨rfl, rfl⟩ | exact ⟨rfl, rfl, rfl, rfl⟩ | exact m_int (by omega) | exact m_int (by simp [encI_len]) | exact rfl)
      · repeat (first | exact trivial | refine ⟨⟨_, rfl, ?_⟩, rfl, ?_⟩ | refine ⟨rfl, .inl ⟨rfl, ?_⟩⟩)
    · intro k ⟨hk, hq⟩
      repeat (first | refine aops_nil ?_ | refine ac_seq ?_ | refine ac_region ?_ | refine then_n ?_ | refine aops_eff (eff_move rfl) rfl rfl rfl ?_ | refine aops_eff (w_len_list TT_ok rfl rfl rfl) rfl rfl rfl ?_ | refine aops_eff (w_cmp rfl rfl rfl) rfl rfl rfl ?_)
      refine ac_cond rfl (fun h2 => ?_) (fun h2 => ?_)
      · simp [encI_len] at h2
        have h4 : k < b.length := by omega
        repeat (first | refine aops_nil ?_ | refine ac_seq ?_ | refine ac_region_draw MIX ?_ | refine ac_block ?_ | refine ac_skip ?_ | refine aops_eff (eff_move rfl) rfl rfl rfl ?_ | refine aops_eff (w_load_ref TT_ok rfl rfl rfl rfl rfl rfl) rfl rfl rfl ?_ | refine aops_eff (w_cmp rfl rfl rfl) rfl rfl rfl ?_ | refine aops_eff (eff_indexAddr_list TT_ok rfl rfl rfl rfl rfl rfl (encI_at (by omega))) rfl rfl rfl ?_)
        refine ⟨by kernel_rfl, ?_⟩
        repeat (first | refine then_n ?_)
        refine ac_cond rfl (fun h3 => ?_) (fun h3 => ?_)
        · repeat (first | refine aops_nil ?_ | refine ac_seq ?_ | refine ac_region ?_ | refine then_n ?_ | refine then_ret ?_ | refine block_ret ?_ | refine ac_ret ?_ | refine aops_eff (eff_assign rfl) rfl rfl rfl ?_)
          refine ret_mk rfl rfl rfl ?_
          refine fz_bl ?_
          have : a ≠ b := by rintro rfl; simp at h3
          simp [this]
        · have h5 : a[k] = b[k] := by simpa [h2, h4] using h3
          clear h3
          repeat (first | refine aops_nil ?_ | refine ac_region ?_ | refine then_n ?_ | refine ac_skip ?_ | refine aops_eff (eff_move rfl) rfl rfl rfl ?_ | refine aops_eff (eff_assign rfl) rfl rfl rfl ?_ | refine aops_eff (w_add rfl rfl (by omega)) rfl rfl rfl ?_)
          refine ⟨k + 1, ⟨by omega, ?_⟩, by omega, ?_⟩
          · rw [List.take_succ_eq_append_getElem h2, List.take_succ_eq_append_getElem h4, hq]
            rw [h5]
          · refine ent_mk (σ := sg []) ?_ ?_ rfl
            · repeat (first | exact trivial | refine ⟨⟨_, rfl, ?_⟩, ?_⟩ | exact ⟨rfl, rfl⟩ | exact ⟨rfl, rfl, rfl, rfl⟩ | exact m_int (by omega) | exact m_int (by simp [encI_len]) | exact rfl)
            · repeat (first | exact trivial | refine ⟨⟨_, rfl, ?_⟩, rfl, ?_⟩ | refine ⟨rfl, .inl ⟨rfl, ?_⟩⟩)
      · simp [encI_len] at h2
        repeat (first | refine aops_nil ?_ | refine ac_seq ?_ | refine ac_region ?_ | refine then_n ?_ | refine ac_exit ?_ | refine ac_ret ?_ | refine aops_eff (eff_assign rfl) rfl rfl rfl ?_)
        refine ret_mk rfl rfl rfl ?_
        refine fz_bl ?_
        have : a = b := by
          rw [← List.take_of_length_le (l := a) (i := k) (by omega), ← List.take_of_length_le (l := b) (i := k) (by omega), hq]
        simp [this]

theorem h_eqIntS (a b : List Int) : HasC Try.prog 15 [ints a, ints b] (.bl (decide (a = b))) := by
  refine hasC_mk TT_ok (ns := [0,1,2,3,4,5,6,7]) Try.func15 rfl rfl Try.ntmps15 rfl rfl rfl ?_
  refine ac_len (t := 0) rfl fun hla => ?_
  have hmx : maxLen ≤ 9223372036854775807 := by decide
  simp only [encI_len, List.length_map] at hla
  repeat (first | refine aops_nil ?_ | refine ac_seq ?_ | refine ac_region ?_ | refine then_n ?_ | refine aops_eff (eff_move rfl) rfl rfl rfl ?_ | refine aops_eff (eff_assign rfl) rfl rfl rfl ?_ | refine aops_eff (w_len_list TT_ok rfl rfl rfl) rfl rfl rfl ?_ | refine aops_eff (w_cmp rfl rfl rfl) rfl rfl rfl ?_)
  refine ac_cond rfl (fun h => ?_) (fun h => ?_)
  · simp [encI_len] at h
    repeat (first | refine aops_nil ?_ | refine ac_seq ?_ | refine ac_region ?_ | refine then_n ?_ | refine then_ret ?_ | refine ac_ret ?_ | refine aops_eff (eff_assign rfl) rfl rfl rfl ?_)
    refine ret_mk rfl rfl rfl ?_
    refine fz_bl ?_
    have : a ≠ b := by rintro rfl; exact h rfl
    simp [this]
  · simp [encI_len] at h
    repeat (first | refine aops_nil ?_ | refine ac_seq ?_ | refine ac_region ?_ | refine then_n ?_ | refine ac_block ?_ | refine ac_skip ?_ | refine aops_eff (eff_assign rfl) rfl rfl rfl ?_)
    refine ac_loop (ι := Nat) (fun k => mkS [(0, ints a), (1, ints b), (5, .int k)] [] 0 [0,1,2,3,4,5,6,7]) (fun k => k ≤ a.length ∧ a.take k = b.take k) (fun k => a.length - k) 0 (by simp) ?_ ?_
    · refine ent_mk (σ := sg []) ?_ ?_ rfl
      · repeat (first | exact trivial | refine ⟨⟨_, rfl, ?_⟩, ?_⟩ | exact ⟨rfl, rfl⟩ | exact ⟨rfl, rfl, rfl, rfl⟩ | exact m_int (by omega) | exact m_int (by simp [encI_len]) | exact rfl)
      · repeat (first | exact trivial | refine ⟨⟨_, rfl, ?_⟩, rfl, ?_⟩ | refine ⟨rfl, .inl ⟨rfl, ?_⟩⟩)
    · intro k ⟨hk, hq⟩
      repeat (first | refine aops_nil ?_ | refine ac_seq ?_ | refine ac_region ?_ | refine then_n ?_ | refine aops_eff (eff_move rfl) rfl rfl rfl ?_ | refine aops_eff (w_len_list TT_ok rfl rfl rfl) rfl rfl rfl ?_ | refine aops_eff (w_cmp rfl rfl rfl) rfl rfl rfl ?_)
      refine ac_cond rfl (fun h2 => ?_) (fun h2 => ?_)
      · simp [encI_len] at h2
        have h4 : k < b.length := by omega
        repeat (first | refine aops_nil ?_ | refine ac_seq ?_ | refine ac_region_draw MIX ?_ | refine ac_block ?_ | refine ac_skip ?_ | refine aops_eff (eff_move rfl) rfl rfl rfl ?_ | refine aops_eff (w_load_ref TT_ok rfl rfl rfl rfl rfl rfl) rfl rfl rfl ?_ | refine aops_eff (w_cmp rfl rfl rfl) rfl rfl rfl ?_ | refine aops_eff (eff_indexAddr_list TT_ok rfl rfl rfl rfl rfl rfl (encI_at (by omega))) rfl rfl rfl ?_)
        refine ⟨by kernel_rfl, ?_⟩
        repeat (first | refine then_n ?_)
        refine ac_cond rfl (fun h3 => ?_) (fun h3 => ?_)
        · repeat (first | refine aops_nil ?_ | refine ac_seq ?_ | refine ac_region ?_ | refine then_n ?_ | refine then_ret ?_ | refine block_ret ?_ | refine ac_ret ?_ | refine aops_eff (eff_assign rfl) rfl rfl rfl ?_)
          refine ret_mk rfl rfl rfl ?_
          refine fz_bl ?_
          have : a ≠ b := by rintro rfl; simp at h3
          simp [this]
        · have h5 : a[k] = b[k] := by simpa [h2, h4] using h3
          clear h3
          repeat (first | refine aops_nil ?_ | refine ac_region ?_ | refine then_n ?_ | refine ac_skip ?_ | refine aops_eff (eff_move rfl) rfl rfl rfl ?_ | refine aops_eff (eff_assign rfl) rfl rfl rfl ?_ | refine aops_eff (w_add rfl rfl (by omega)) rfl rfl rfl ?_)
          refine ⟨k + 1, ⟨by omega, ?_⟩, by omega, ?_⟩
          · rw [List.take_succ_eq_append_getElem h2, List.take_succ_eq_append_getElem h4, hq]
            rw [h5]
          · refine ent_mk (σ := sg []) ?_ ?_ rfl
            · repeat (first | exact trivial | refine ⟨⟨_, rfl, ?_⟩, ?_⟩ | exact ⟨rfl, rfl⟩ | exact ⟨rfl, rfl, rfl, rfl⟩ | exact m_int (by omega) | exact m_int (by simp [encI_len]) | exact rfl)
            · repeat (first | exact trivial | refine ⟨⟨_, rfl, ?_⟩, rfl, ?_⟩ | refine ⟨rfl, .inl ⟨rfl, ?_⟩⟩)
      · simp [encI_len] at h2
        repeat (first | refine aops_nil ?_ | refine ac_seq ?_ | refine ac_region ?_ | refine then_n ?_ | refine ac_exit ?_ | refine ac_ret ?_ | refine aops_eff (eff_assign rfl) rfl rfl rfl ?_)
        refine ret_mk rfl rfl rfl ?_
        refine fz_bl ?_
        have : a = b := by
          rw [← List.take_of_length_le (l := a) (i := k) (by omega), ← List.take_of_length_le (l := b) (i := k) (by omega), hq]
        simp [this]

theorem h_slEqual (a b : List Int) : HasC Try.prog 74 [ints a, ints b] (.bl (decide (a = b))) := by
  refine hasC_mk TT_ok (ns := [0,1,2,3,4,5,6,7]) Try.func74 rfl rfl Try.ntmps74 rfl rfl rfl ?_
  refine ac_len (t := 0) rfl fun hla => ?_
  have hmx : maxLen ≤ 9223372036854775807 := by decide
  simp only [encI_len, List.length_map] at hla
  repeat (first | refine aops_nil ?_ | refine ac_seq ?_ | refine ac_region ?_ | refine then_n ?_ | refine aops_eff (eff_move rfl) rfl rfl rfl ?_ | refine aops_eff (eff_assign rfl) rfl rfl rfl ?_ | refine aops_eff (w_len_list TT_ok rfl rfl rfl) rfl rfl rfl ?_ | refine aops_eff (w_cmp rfl rfl rfl) rfl rfl rfl ?_)
  refine ac_cond rfl (fun h => ?_) (fun h => ?_)
  · simp [encI_len] at h
    repeat (first | refine aops_nil ?_ | refine ac_seq ?_ | refine ac_region ?_ | refine then_n ?_ | refine then_ret ?_ | refine ac_ret ?_ | refine aops_eff (eff_assign rfl) rfl rfl rfl ?_)
    refine ret_mk rfl rfl rfl ?_
    refine fz_bl ?_
    have : a ≠ b := by rintro rfl; exact h rfl
    simp [this]
  · simp [encI_len] at h
    repeat (first | refine aops_nil ?_ | refine ac_seq ?_ | refine ac_region ?_ | refine then_n ?_ | refine ac_block ?_ | refine ac_skip ?_ | refine aops_eff (eff_move rfl) rfl rfl rfl ?_ | refine aops_eff (w_len_list TT_ok rfl rfl rfl) rfl rfl rfl ?_)
    refine ac_loop (ι := Nat) (fun k => mkS [(0, ints a), (1, ints b), (12, .int a.length), (13, .int k)] [] 0 [0,1,2,3,4,5,6,7]) (fun k => k ≤ a.length ∧ a.take k = b.take k) (fun k => a.length - k) 0 (by simp) ?_ ?_
    · refine ent_mk (σ := sg []) ?_ ?_ rfl
      · repeat (first | exact trivial | refine ⟨⟨_, rfl, ?_⟩, ?_⟩ | exact ⟨rfl, rfl⟩ | exact ⟨rfl, rfl, rfl, rfl⟩ | exact m_int (by omega) | exact m_int (by simp [encI_len]) | exact rfl)
      · repeat (first | exact trivial | refine ⟨⟨_, rfl, ?_⟩, rfl, ?_⟩ | refine ⟨rfl, .inl ⟨rfl, ?_⟩⟩)
    · intro k ⟨hk, hq⟩
      repeat (first | refine aops_nil ?_ | refine ac_seq ?_ | refine ac_region ?_ | refine aops_eff (w_cmp rfl rfl rfl) rfl rfl rfl ?_)
      refine ac_cond rfl (fun h2 => ?_) (fun h2 => ?_)
      · simp [encI_len] at h2
        have h4 : k < b.length := by omega
        repeat (first | refine aops_nil ?_ | refine ac_seq ?_ | refine ac_region ?_ | refine ac_region_draw MIX ?_ | refine ac_block ?_ | refine ac_skip ?_ | refine aops_eff (eff_move rfl) rfl rfl rfl ?_ | refine aops_eff (eff_assign rfl) rfl rfl rfl ?_ | refine aops_eff (w_load_ref TT_ok rfl rfl rfl rfl rfl rfl) rfl rfl rfl ?_ | refine aops_eff (w_cmp rfl rfl rfl) rfl rfl rfl ?_ | refine aops_eff (eff_indexAddr_list TT_ok rfl rfl rfl rfl rfl rfl (encI_at (by omega))) rfl rfl rfl ?_)
        refine ⟨by kernel_rfl, ?_⟩
        repeat (first | refine then_n ?_)
        refine ac_cond rfl (fun h3 => ?_) (fun h3 => ?_)
        · repeat (first | refine aops_nil ?_ | refine ac_seq ?_ | refine ac_region ?_ | refine then_n ?_ | refine then_ret ?_ | refine block_ret ?_ | refine ac_ret ?_ | refine aops_eff (eff_assign rfl) rfl rfl rfl ?_)
          refine ret_mk rfl rfl rfl ?_
          refine fz_bl ?_
          have : a ≠ b := by rintro rfl; simp at h3
          simp [this]
        · have h5 : a[k] = b[k] := by simpa [h2, h4] using h3
          clear h3
          repeat (first | refine aops_nil ?_ | refine ac_region ?_ | refine then_n ?_ | refine ac_skip ?_ | refine aops_eff (eff_move rfl) rfl rfl rfl ?_ | refine aops_eff (w_add rfl rfl (by omega)) rfl rfl rfl ?_)
          refine ⟨k + 1, ⟨by omega, ?_⟩, by omega, ?_⟩
          · rw [List.take_succ_eq_append_getElem h2, List.take_succ_eq_append_getElem h4, hq]
            rw [h5]
          · refine ent_mk (σ := sg []) ?_ ?_ rfl
            · repeat (first | exact trivial | refine ⟨⟨_, rfl, ?_⟩, ?_⟩ | exact ⟨rfl, rfl⟩ | exact ⟨rfl, rfl, rfl, rfl⟩ | exact m_int (by omega) | exact m_int (by simp [encI_len]) | exact rfl)
            · repeat (first | exact trivial | refine ⟨⟨_, rfl, ?_⟩, rfl, ?_⟩ | refine ⟨rfl, .inl ⟨rfl, ?_⟩⟩)
      · simp [encI_len] at h2
        repeat (first | refine aops_nil ?_ | refine ac_seq ?_ | refine ac_region ?_ | refine then_n ?_ | refine ac_exit ?_ | refine ac_ret ?_ | refine aops_eff (eff_assign rfl) rfl rfl rfl ?_)
        refine ret_mk rfl rfl rfl ?_
        refine fz_bl ?_
        have : a = b := by
          rw [← List.take_of_length_le (l := a) (i := k) (by omega), ← List.take_of_length_le (l := b) (i := k) (by omega), hq]
        simp [this]

theorem h_i_quiver (a b : Qv) : HasC Try.prog 113 [.agg (eQ a), .agg (eQ b)] (.bl (decide (a = b))) := by
  refine hasC_mk TT_ok (ns := [0,1,2,3,4,5,6,7]) Try.func113 rfl rfl Try.ntmps113 rfl rfl rfl ?_
  repeat (first | refine aops_nil ?_ | refine ac_seq ?_ | refine ac_region ?_ | refine aops_eff (eff_move rfl) rfl rfl rfl ?_ | refine aops_eff (w_load_ptr TT_ok rfl rfl rfl rfl rfl rfl rfl) rfl rfl rfl ?_ | refine aops_eff (w_field_ptr TT_ok rfl rfl rfl rfl rfl rfl rfl) rfl rfl rfl ?_ | refine aops_eff (eff_assign rfl) rfl rfl rfl ?_ | refine aops_eff (w_cmp rfl rfl rfl) rfl rfl rfl ?_ | refine aops_eff (w_box rfl rfl rfl rfl) rfl rfl rfl ?_)
  cases h0 : decide (a.n = b.n)
  · repeat (first | refine aops_nil ?_ | refine then_n ?_ | refine ac_ret ?_ | refine aops_eff (eff_move rfl) rfl rfl rfl ?_ | refine aops_eff (eff_assign rfl) rfl rfl rfl ?_ | refine aops_skip rfl rfl ?_ | refine aops_eff (eff_pick rfl rfl) rfl rfl rfl ?_)
    refine ret_mk rfl rfl rfl ?_
    refine fz_bl ?_
    cases a; cases b; simp_all [Qv.mk.injEq]
  · repeat (first | refine aops_eff (w_load_ptr TT_ok rfl rfl rfl rfl rfl rfl rfl) rfl rfl rfl ?_ | refine aops_eff (w_field_ptr TT_ok rfl rfl rfl rfl rfl rfl rfl) rfl rfl rfl ?_)
    refine aops_eff (w_call0s (h_slEqual a.src b.src) rfl (va_cons (va_same rfl) (va_cons (va_same rfl) va_nil))) rfl rfl rfl ?_
    repeat (first | refine aops_eff (eff_move rfl) rfl rfl rfl ?_ | refine aops_eff (eff_pick rfl rfl) rfl rfl rfl ?_)
    cases h1 : decide (a.src = b.src)
    · repeat (first | refine aops_nil ?_ | refine then_n ?_ | refine ac_ret ?_ | refine aops_eff (eff_assign rfl) rfl rfl rfl ?_ | refine aops_skip rfl rfl ?_ | refine aops_eff (eff_pick rfl rfl) rfl rfl rfl ?_)
      refine ret_mk rfl rfl rfl ?_
      refine fz_bl ?_
      cases a; cases b; simp_all [Qv.mk.injEq]
    · repeat (first | refine aops_eff (w_load_ptr TT_ok rfl rfl rfl rfl rfl rfl rfl) rfl rfl rfl ?_ | refine aops_eff (w_field_ptr TT_ok rfl rfl rfl rfl rfl rfl rfl) rfl rfl rfl ?_)
      refine aops_eff (w_call0s (h_slEqual a.tgt b.tgt) rfl (va_cons (va_same rfl) (va_cons (va_same rfl) va_nil))) rfl rfl rfl ?_
      repeat (first | refine aops_nil ?_ | refine then_n ?_ | refine ac_ret ?_ | refine aops_eff (eff_assign rfl) rfl rfl rfl ?_ | refine aops_eff (eff_pick rfl rfl) rfl rfl rfl ?_)
      refine ret_mk rfl rfl rfl ?_
      refine fz_bl ?_
      cases a; cases b; simp_all [Qv.mk.injEq]

theorem h_s_quiver (a b : Qv) : HasC Try.prog 109 [.agg (eQ a), .agg (eQ b)] (.bl (decide (a = b))) := by
  refine hasC_mk TT_ok (ns := [0,1,2,3,4,5,6,7]) Try.func109 rfl rfl Try.ntmps109 rfl rfl rfl ?_
  repeat (first | refine aops_nil ?_ | refine ac_seq ?_ | refine ac_region ?_ | refine aops_eff (eff_move rfl) rfl rfl rfl ?_ | refine aops_eff (w_load_ptr TT_ok rfl rfl rfl rfl rfl rfl rfl) rfl rfl rfl ?_ | refine aops_eff (w_field_ptr TT_ok rfl rfl rfl rfl rfl rfl rfl) rfl rfl rfl ?_ | refine aops_eff (eff_assign rfl) rfl rfl rfl ?_ | refine aops_eff (w_cmp rfl rfl rfl) rfl rfl rfl ?_ | refine aops_eff (w_box rfl rfl rfl rfl) rfl rfl rfl ?_)
  cases h0 : decide (a.n = b.n)
  · repeat (first | refine aops_nil ?_ | refine then_n ?_ | refine ac_ret ?_ | refine aops_eff (eff_move rfl) rfl rfl rfl ?_ | refine aops_eff (eff_assign rfl) rfl rfl rfl ?_ | refine aops_skip rfl rfl ?_ | refine aops_eff (eff_pick rfl rfl) rfl rfl rfl ?_)
    refine ret_mk rfl rfl rfl ?_
    refine fz_bl ?_
    cases a; cases b; simp_all [Qv.mk.injEq]
  · repeat (first | refine aops_eff (w_load_ptr TT_ok rfl rfl rfl rfl rfl rfl rfl) rfl rfl rfl ?_ | refine aops_eff (w_field_ptr TT_ok rfl rfl rfl rfl rfl rfl rfl) rfl rfl rfl ?_)
    refine aops_eff (w_call0s (h_l6Same a.src b.src) rfl (va_cons (va_same rfl) (va_cons (va_same rfl) va_nil))) rfl rfl rfl ?_
    repeat (first | refine aops_eff (eff_move rfl) rfl rfl rfl ?_ | refine aops_eff (eff_pick rfl rfl) rfl rfl rfl ?_)
    cases h1 : decide (a.src = b.src)
    · repeat (first | refine aops_nil ?_ | refine then_n ?_ | refine ac_ret ?_ | refine aops_eff (eff_assign rfl) rfl rfl rfl ?_ | refine aops_skip rfl rfl ?_ | refine aops_eff (eff_pick rfl rfl) rfl rfl rfl ?_)
      refine ret_mk rfl rfl rfl ?_
      refine fz_bl ?_
      cases a; cases b; simp_all [Qv.mk.injEq]
    · repeat (first | refine aops_eff (w_load_ptr TT_ok rfl rfl rfl rfl rfl rfl rfl) rfl rfl rfl ?_ | refine aops_eff (w_field_ptr TT_ok rfl rfl rfl rfl rfl rfl rfl) rfl rfl rfl ?_)
      refine aops_eff (w_call0s (h_l6Same a.tgt b.tgt) rfl (va_cons (va_same rfl) (va_cons (va_same rfl) va_nil))) rfl rfl rfl ?_
      repeat (first | refine aops_nil ?_ | refine then_n ?_ | refine ac_ret ?_ | refine aops_eff (eff_assign rfl) rfl rfl rfl ?_ | refine aops_eff (eff_pick rfl rfl) rfl rfl rfl ?_)
      refine ret_mk rfl rfl rfl ?_
      refine fz_bl ?_
      cases a; cases b; simp_all [Qv.mk.injEq]

theorem h_l_quiver (a b : Qv) : HasC Try.prog 14 [.agg (eQ a), .agg (eQ b)] (.bl (decide (a = b))) := by
  refine hasC_mk TT_ok (ns := [0,1,2,3,4,5,6,7]) Try.func14 rfl rfl Try.ntmps14 rfl rfl rfl ?_
  repeat (first | refine aops_nil ?_ | refine ac_seq ?_ | refine ac_region ?_ | refine then_n ?_ | refine aops_eff (w_load_ptr TT_ok rfl rfl rfl rfl rfl rfl rfl) rfl rfl rfl ?_ | refine aops_eff (w_field_ptr TT_ok rfl rfl rfl rfl rfl rfl rfl) rfl rfl rfl ?_ | refine aops_eff (eff_assign rfl) rfl rfl rfl ?_ | refine aops_eff (w_cmp rfl rfl rfl) rfl rfl rfl ?_ | refine aops_eff (w_box rfl rfl rfl rfl) rfl rfl rfl ?_)
  refine ac_cond rfl (fun h0 => ?_) (fun h0 => ?_)
  · simp at h0
    repeat (first | refine aops_nil ?_ | refine ac_seq ?_ | refine ac_region ?_ | refine then_n ?_ | refine then_ret ?_ | refine ac_ret ?_ | refine aops_eff (eff_assign rfl) rfl rfl rfl ?_)
    refine ret_mk rfl rfl rfl ?_
    refine fz_bl ?_
    cases a; cases b; simp_all [Qv.mk.injEq]
  · simp at h0
    repeat (first | refine ac_seq ?_ | refine ac_region ?_ | refine ac_skip ?_ | refine aops_eff (w_load_ptr TT_ok rfl rfl rfl rfl rfl rfl rfl) rfl rfl rfl ?_ | refine aops_eff (w_field_ptr TT_ok rfl rfl rfl rfl rfl rfl rfl) rfl rfl rfl ?_)
    refine aops_eff (w_call0s (h_eqIntS a.src b.src) rfl (va_cons (va_same rfl) (va_cons (va_same rfl) va_nil))) rfl rfl rfl ?_
    repeat (first | refine aops_nil ?_ | refine then_n ?_ | refine aops_eff (w_not rfl) rfl rfl rfl ?_)
    refine ac_cond rfl (fun h1 => ?_) (fun h1 => ?_)
    · simp at h1
      repeat (first | refine aops_nil ?_ | refine ac_seq ?_ | refine ac_region ?_ | refine then_n ?_ | refine then_ret ?_ | refine ac_ret ?_ | refine aops_eff (eff_assign rfl) rfl rfl rfl ?_)
      refine ret_mk rfl rfl rfl ?_
      refine fz_bl ?_
      cases a; cases b; simp_all [Qv.mk.injEq]
    · simp at h1
      repeat (first | refine ac_seq ?_ | refine ac_region ?_ | refine ac_skip ?_ | refine aops_eff (w_load_ptr TT_ok rfl rfl rfl rfl rfl rfl rfl) rfl rfl rfl ?_ | refine aops_eff (w_field_ptr TT_ok rfl rfl rfl rfl rfl rfl rfl) rfl rfl rfl ?_)
      refine aops_eff (w_call0s (h_eqIntS a.tgt b.tgt) rfl (va_cons (va_same rfl) (va_cons (va_same rfl) va_nil))) rfl rfl rfl ?_
      repeat (first | refine aops_nil ?_ | refine then_n ?_ | refine aops_eff (w_not rfl) rfl rfl rfl ?_)
      refine ac_cond rfl (fun h2 => ?_) (fun h2 => ?_)
      · simp at h2
        repeat (first | refine aops_nil ?_ | refine ac_seq ?_ | refine ac_region ?_ | refine then_n ?_ | refine then_ret ?_ | refine ac_ret ?_ | refine aops_eff (eff_assign rfl) rfl rfl rfl ?_)
        refine ret_mk rfl rfl rfl ?_
        refine fz_bl ?_
        cases a; cases b; simp_all [Qv.mk.injEq]
      · simp at h2
        repeat (first | refine aops_nil ?_ | refine ac_seq ?_ | refine ac_region ?_ | refine then_n ?_ | refine ac_skip ?_ | refine ac_ret ?_ | refine aops_eff (eff_assign rfl) rfl rfl rfl ?_)
        skip
        refine ret_mk rfl rfl rfl ?_
        refine fz_bl ?_
        cases a; cases b; simp_all [Qv.mk.injEq]

theorem h_i_mat (a b : Mt) : HasC Try.prog 115 [.agg (eM a), .agg (eM b)] (.bl (decide (a = b))) := by
  refine hasC_mk TT_ok (ns := [0,1,2,3,4,5,6,7]) Try.func115 rfl rfl Try.ntmps115 rfl rfl rfl ?_
  repeat (first | refine aops_nil ?_ | refine ac_seq ?_ | refine ac_region ?_ | refine aops_eff (eff_move rfl) rfl rfl rfl ?_ | refine aops_eff (w_load_ptr TT_ok rfl rfl rfl rfl rfl rfl rfl) rfl rfl rfl ?_ | refine aops_eff (w_field_ptr TT_ok rfl rfl rfl rfl rfl rfl rfl) rfl rfl rfl ?_ | refine aops_eff (eff_assign rfl) rfl rfl rfl ?_ | refine aops_eff (w_cmp rfl rfl rfl) rfl rfl rfl ?_ | refine aops_eff (w_box rfl rfl rfl rfl) rfl rfl rfl ?_)
  cases h0 : decide (a.rows = b.rows)
  · repeat (first | refine aops_nil ?_ | refine then_n ?_ | refine ac_ret ?_ | refine aops_eff (eff_move rfl) rfl rfl rfl ?_ | refine aops_eff (eff_assign rfl) rfl rfl rfl ?_ | refine aops_skip rfl rfl ?_ | refine aops_eff (eff_pick rfl rfl) rfl rfl rfl ?_)
    refine ret_mk rfl rfl rfl ?_
    refine fz_bl ?_
    cases a; cases b; simp_all [Mt.mk.injEq]
  · repeat (first | refine aops_eff (eff_move rfl) rfl rfl rfl ?_ | refine aops_eff (w_load_ptr TT_ok rfl rfl rfl rfl rfl rfl rfl) rfl rfl rfl ?_ | refine aops_eff (w_field_ptr TT_ok rfl rfl rfl rfl rfl rfl rfl) rfl rfl rfl ?_ | refine aops_eff (w_cmp rfl rfl rfl) rfl rfl rfl ?_ | refine aops_eff (eff_pick rfl rfl) rfl rfl rfl ?_)
    cases h1 : decide (a.cols = b.cols)
    · repeat (first | refine aops_nil ?_ | refine then_n ?_ | refine ac_ret ?_ | refine aops_eff (eff_assign rfl) rfl rfl rfl ?_ | refine aops_skip rfl rfl ?_ | refine aops_eff (eff_pick rfl rfl) rfl rfl rfl ?_)
      refine ret_mk rfl rfl rfl ?_
      refine fz_bl ?_
      cases a; cases b; simp_all [Mt.mk.injEq]
    · repeat (first | refine aops_eff (w_load_ptr TT_ok rfl rfl rfl rfl rfl rfl rfl) rfl rfl rfl ?_ | refine aops_eff (w_field_ptr TT_ok rfl rfl rfl rfl rfl rfl rfl) rfl rfl rfl ?_)
      refine aops_eff (w_call0s (h_slEqual a.cells b.cells) rfl (va_cons (va_same rfl) (va_cons (va_same rfl) va_nil))) rfl rfl rfl ?_
      repeat (first | refine aops_nil ?_ | refine then_n ?_ | refine ac_ret ?_ | refine aops_eff (eff_assign rfl) rfl rfl rfl ?_ | refine aops_eff (eff_pick rfl rfl) rfl rfl rfl ?_)
      refine ret_mk rfl rfl rfl ?_
      refine fz_bl ?_
      cases a; cases b; simp_all [Mt.mk.injEq]

theorem h_l_mat (a b : Mt) : HasC Try.prog 118 [.agg (eM a), .agg (eM b)] (.bl (decide (a = b))) := by
  refine hasC_mk TT_ok (ns := [0,1,2,3,4,5,6,7]) Try.func118 rfl rfl Try.ntmps118 rfl rfl rfl ?_
  repeat (first | refine aops_nil ?_ | refine ac_seq ?_ | refine ac_region ?_ | refine then_n ?_ | refine aops_eff (w_load_ptr TT_ok rfl rfl rfl rfl rfl rfl rfl) rfl rfl rfl ?_ | refine aops_eff (w_field_ptr TT_ok rfl rfl rfl rfl rfl rfl rfl) rfl rfl rfl ?_ | refine aops_eff (eff_assign rfl) rfl rfl rfl ?_ | refine aops_eff (w_cmp rfl rfl rfl) rfl rfl rfl ?_ | refine aops_eff (w_box rfl rfl rfl rfl) rfl rfl rfl ?_)
  refine ac_cond rfl (fun h0 => ?_) (fun h0 => ?_)
  · simp at h0
    repeat (first | refine aops_nil ?_ | refine ac_seq ?_ | refine ac_region ?_ | refine then_n ?_ | refine then_ret ?_ | refine ac_ret ?_ | refine aops_eff (eff_assign rfl) rfl rfl rfl ?_)
    refine ret_mk rfl rfl rfl ?_
    refine fz_bl ?_
    cases a; cases b; simp_all [Mt.mk.injEq]
  · simp at h0
    repeat (first | refine aops_nil ?_ | refine ac_seq ?_ | refine ac_region ?_ | refine then_n ?_ | refine ac_skip ?_ | refine aops_eff (w_load_ptr TT_ok rfl rfl rfl rfl rfl rfl rfl) rfl rfl rfl ?_ | refine aops_eff (w_field_ptr TT_ok rfl rfl rfl rfl rfl rfl rfl) rfl rfl rfl ?_ | refine aops_eff (w_cmp rfl rfl rfl) rfl rfl rfl ?_)
    refine ac_cond rfl (fun h1 => ?_) (fun h1 => ?_)
    · simp at h1
      repeat (first | refine aops_nil ?_ | refine ac_seq ?_ | refine ac_region ?_ | refine then_n ?_ | refine then_ret ?_ | refine ac_ret ?_ | refine aops_eff (eff_assign rfl) rfl rfl rfl ?_)
      refine ret_mk rfl rfl rfl ?_
      refine fz_bl ?_
      cases a; cases b; simp_all [Mt.mk.injEq]
    · simp at h1
      repeat (first | refine ac_seq ?_ | refine ac_region ?_ | refine ac_skip ?_ | refine aops_eff (w_load_ptr TT_ok rfl rfl rfl rfl rfl rfl rfl) rfl rfl rfl ?_ | refine aops_eff (w_field_ptr TT_ok rfl rfl rfl rfl rfl rfl rfl) rfl rfl rfl ?_)
      refine aops_eff (w_call0s (h_eqIntS a.cells b.cells) rfl (va_cons (va_same rfl) (va_cons (va_same rfl) va_nil))) rfl rfl rfl ?_
      repeat (first | refine aops_nil ?_ | refine then_n ?_ | refine aops_eff (w_not rfl) rfl rfl rfl ?_)
      refine ac_cond rfl (fun h2 => ?_) (fun h2 => ?_)
      · simp at h2
        repeat (first | refine aops_nil ?_ | refine ac_seq ?_ | refine ac_region ?_ | refine then_n ?_ | refine then_ret ?_ | refine ac_ret ?_ | refine aops_eff (eff_assign rfl) rfl rfl rfl ?_)
        refine ret_mk rfl rfl rfl ?_
        refine fz_bl ?_
        cases a; cases b; simp_all [Mt.mk.injEq]
      · simp at h2
        repeat (first | refine aops_nil ?_ | refine ac_seq ?_ | refine ac_region ?_ | refine then_n ?_ | refine ac_skip ?_ | refine ac_ret ?_ | refine aops_eff (eff_assign rfl) rfl rfl rfl ?_)
        skip
        refine ret_mk rfl rfl rfl ?_
        refine fz_bl ?_
        cases a; cases b; simp_all [Mt.mk.injEq]
end Go.Proofs.Ytpngpgbmkkjjgaa

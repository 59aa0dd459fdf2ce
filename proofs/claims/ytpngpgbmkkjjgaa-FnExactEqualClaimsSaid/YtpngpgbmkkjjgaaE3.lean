/-
  Contracts: comparisons of slices of matrices, representations.
-/
import Derived.Test.YtpngpgbmkkjjgaaE2
namespace Go.Proofs.Ytpngpgbmkkjjgaa
open Go.RowKit
set_option maxRecDepth 10000
set_option maxHeartbeats 4000000

theorem h_s_mat (a b : Mt) : HasC Try.prog 110 [.agg (eM a), .agg (eM b)] (.bl (decide (a = b))) := by
  refine hasC_mk TT_ok (ns := [0,1,2,3,4,5,6,7]) Try.func110 rfl rfl Try.ntmps110 rfl rfl rfl ?_
  repeat (first | refine aops_nil ?_ | refine ac_seq ?_ | refine ac_region ?_ | refine aops_eff (eff_move rfl) rfl rfl rfl ?_ | refine aops_eff (w_load_ptr TT_ok rfl rfl rfl rfl rfl rfl rfl) rfl rfl rfl ?_ | refine aops_eff (w_field_ptr TT_ok rfl rfl rfl rfl rfl rfl rfl) rfl rfl rfl ?_ | refine aops_eff (eff_assign rfl) rfl rfl rfl ?_ | refine aops_eff (w_cmp rfl rfl rfl) rfl rfl rfl ?_ | refine aops_eff (w_box rfl rfl rfl rfl) rfl rfl rfl ?_)
  cases h0 : decide (a.rows = b.rows)
  · repeat (first | refine aops_nil ?_ | refine then_n ?_ | refine aops_eff (eff_move rfl) rfl rfl rfl ?_ | refine aops_skip rfl rfl ?_ | refine aops_eff (eff_pick rfl rfl) rfl rfl rfl ?_)
    refine ac_cond rfl (fun g => ?_) (fun g => by cases g)
    repeat (first | refine aops_nil ?_ | refine ac_seq ?_ | refine ac_region ?_ | refine then_n ?_ | refine then_ret ?_ | refine ac_ret ?_ | refine aops_eff (eff_assign rfl) rfl rfl rfl ?_)
    refine ret_mk rfl rfl rfl ?_
    refine fz_bl ?_
    have : a ≠ b := by rintro rfl; simp at h0
    simp [this]
  · repeat (first | refine aops_eff (eff_move rfl) rfl rfl rfl ?_ | refine aops_eff (w_load_ptr TT_ok rfl rfl rfl rfl rfl rfl rfl) rfl rfl rfl ?_ | refine aops_eff (w_field_ptr TT_ok rfl rfl rfl rfl rfl rfl rfl) rfl rfl rfl ?_ | refine aops_eff (w_cmp rfl rfl rfl) rfl rfl rfl ?_ | refine aops_eff (eff_pick rfl rfl) rfl rfl rfl ?_)
    cases h1 : decide (a.cols = b.cols)
    · repeat (first | refine aops_nil ?_ | refine then_n ?_ | refine aops_skip rfl rfl ?_ | refine aops_eff (eff_pick rfl rfl) rfl rfl rfl ?_)
      refine ac_cond rfl (fun g => ?_) (fun g => by cases g)
      repeat (first | refine aops_nil ?_ | refine ac_seq ?_ | refine ac_region ?_ | refine then_n ?_ | refine then_ret ?_ | refine ac_ret ?_ | refine aops_eff (eff_assign rfl) rfl rfl rfl ?_)
      refine ret_mk rfl rfl rfl ?_
      refine fz_bl ?_
      have : a ≠ b := by rintro rfl; simp at h1
      simp [this]
    · repeat (first | refine aops_nil ?_ | refine then_n ?_ | refine aops_eff (w_load_ptr TT_ok rfl rfl rfl rfl rfl rfl rfl) rfl rfl rfl ?_ | refine aops_eff (w_field_ptr TT_ok rfl rfl rfl rfl rfl rfl rfl) rfl rfl rfl ?_ | refine aops_eff (w_len_list TT_ok rfl rfl rfl) rfl rfl rfl ?_ | refine aops_eff (w_cmp rfl rfl rfl) rfl rfl rfl ?_ | refine aops_eff (eff_pick rfl rfl) rfl rfl rfl ?_)
      refine ac_cond rfl (fun h => ?_) (fun h => ?_)
      · simp [encI_len] at h
        repeat (first | refine aops_nil ?_ | refine ac_seq ?_ | refine ac_region ?_ | refine then_n ?_ | refine then_ret ?_ | refine ac_ret ?_ | refine aops_eff (eff_assign rfl) rfl rfl rfl ?_)
        refine ret_mk rfl rfl rfl ?_
        refine fz_bl ?_
        have : a ≠ b := by rintro rfl; exact h rfl
        simp [this]
      · simp [encI_len] at h
        repeat (first | refine aops_nil ?_ | refine ac_seq ?_ | refine ac_region ?_ | refine then_n ?_ | refine ac_block ?_ | refine ac_skip ?_ | refine aops_eff (eff_assign rfl) rfl rfl rfl ?_)
        refine ac_loop (ι := Nat) (fun k => mkS [(2, .ptr 0 0 0), (3, .ptr 1 0 0), (5, .int k)] [(0, ⟨3, [eM a]⟩), (1, ⟨3, [eM b]⟩)] 2 [2,3,4,5,6,7]) (fun k => k ≤ a.cells.length ∧ a.cells.take k = b.cells.take k) (fun k => a.cells.length - k) 0 (by simp) ?_ ?_
        · refine ent_mk (σ := sg [(0, 0), (1, 1)]) ?_ ?_ rfl
          · repeat (first | exact trivial | refine ⟨⟨_, rfl, ?_⟩, ?_⟩ | exact ⟨rfl, rfl⟩ | exact ⟨rfl, rfl, rfl, rfl⟩ | exact m_int (by omega) | exact m_int (by simp [encI_len]) | exact rfl)
          · exact ⟨⟨_, rfl, rfl, .inl ⟨rfl, plain_of rfl⟩⟩, rfl, ⟨_, rfl, rfl, .inl ⟨rfl, plain_of rfl⟩⟩, rfl, trivial⟩
        · intro k ⟨hk, hq⟩
          repeat (first | refine aops_nil ?_ | refine ac_seq ?_ | refine ac_region ?_ | refine then_n ?_ | refine aops_eff (eff_move rfl) rfl rfl rfl ?_ | refine aops_eff (w_load_ptr TT_ok rfl rfl rfl rfl rfl rfl rfl) rfl rfl rfl ?_ | refine aops_eff (w_field_ptr TT_ok rfl rfl rfl rfl rfl rfl rfl) rfl rfl rfl ?_ | refine aops_eff (w_len_list TT_ok rfl rfl rfl) rfl rfl rfl ?_ | refine aops_eff (w_cmp rfl rfl rfl) rfl rfl rfl ?_)
          refine ac_cond rfl (fun h2 => ?_) (fun h2 => ?_)
          · simp [encI_len] at h2
            have h4 : k < b.cells.length := by omega
            refine ac_len2 (b := 0) (i := 0) (j := 2) rfl rfl rfl fun hla => ?_
            have hmx : maxLen ≤ 9223372036854775807 := by decide
            simp only [encI_len, List.length_map] at hla
            repeat (first | refine aops_nil ?_ | refine ac_seq ?_ | refine ac_region_draw MIX ?_ | refine ac_block ?_ | refine ac_skip ?_ | refine aops_eff (eff_move rfl) rfl rfl rfl ?_ | refine aops_eff (w_load_ptr TT_ok rfl rfl rfl rfl rfl rfl rfl) rfl rfl rfl ?_ | refine aops_eff (w_field_ptr TT_ok rfl rfl rfl rfl rfl rfl rfl) rfl rfl rfl ?_ | refine aops_eff (w_load_ref TT_ok rfl rfl rfl rfl rfl rfl) rfl rfl rfl ?_ | refine aops_eff (w_cmp rfl rfl rfl) rfl rfl rfl ?_ | refine aops_eff (eff_indexAddr_list TT_ok rfl rfl rfl rfl rfl rfl (encI_at (by omega))) rfl rfl rfl ?_)
            refine ⟨by kernel_rfl, ?_⟩
            repeat (first | refine then_n ?_)
            refine ac_cond rfl (fun h3 => ?_) (fun h3 => ?_)
            · repeat (first | refine aops_nil ?_ | refine ac_seq ?_ | refine ac_region ?_ | refine then_n ?_ | refine then_ret ?_ | refine block_ret ?_ | refine ac_ret ?_ | refine aops_eff (eff_assign rfl) rfl rfl rfl ?_)
              refine ret_mk rfl rfl rfl ?_
              refine fz_bl ?_
              have : a ≠ b := by rintro rfl; simp at h3
              simp [this]
            · have h5 : a.cells[k] = b.cells[k] := by simpa [h2, h4] using h3
              clear h3
              repeat (first | refine aops_nil ?_ | refine ac_region ?_ | refine then_n ?_ | refine ac_skip ?_ | refine aops_eff (eff_move rfl) rfl rfl rfl ?_ | refine aops_eff (eff_assign rfl) rfl rfl rfl ?_ | refine aops_eff (w_add rfl rfl (by omega)) rfl rfl rfl ?_)
              refine ⟨k + 1, ⟨by omega, ?_⟩, by omega, ?_⟩
              · rw [List.take_succ_eq_append_getElem h2, List.take_succ_eq_append_getElem h4, hq]
                rw [h5]
              · refine ent_mk (σ := sg [(0, 0), (1, 1)]) ?_ ?_ rfl
                · repeat (first | exact trivial | refine ⟨⟨_, rfl, ?_⟩, ?_⟩ | exact ⟨rfl, rfl⟩ | exact ⟨rfl, rfl, rfl, rfl⟩ | exact m_int (by omega) | exact m_int (by simp [encI_len]) | exact rfl)
                · exact ⟨⟨_, rfl, rfl, .inl ⟨rfl, plain_of rfl⟩⟩, rfl, ⟨_, rfl, rfl, .inl ⟨rfl, plain_of rfl⟩⟩, rfl, trivial⟩
          · simp [encI_len] at h2
            repeat (first | refine aops_nil ?_ | refine ac_seq ?_ | refine ac_region ?_ | refine then_n ?_ | refine ac_exit ?_ | refine ac_ret ?_ | refine aops_eff (eff_assign rfl) rfl rfl rfl ?_)
            refine ret_mk rfl rfl rfl ?_
            refine fz_bl ?_
            have hf : a.cells = b.cells := by
              rw [← List.take_of_length_le (l := a.cells) (i := k) (by omega), ← List.take_of_length_le (l := b.cells) (i := k) (by omega), hq]
            cases a; cases b; simp_all [Mt.mk.injEq]

theorem h_s_mats (a b : List Mt) : HasC Try.prog 62 [.list 3 (a.map eM), .list 3 (b.map eM)] (.bl (decide (a = b))) := by
  refine hasC_mk TT_ok (ns := [0,1,2,3,4,5,6,7]) Try.func62 rfl rfl Try.ntmps62 rfl rfl rfl ?_
  refine ac_len (t := 0) rfl fun hla => ?_
  have hmx : maxLen ≤ 9223372036854775807 := by decide
  simp only [encI_len, List.length_map] at hla
  repeat (first | refine aops_nil ?_ | refine ac_seq ?_ | refine ac_region ?_ | refine then_n ?_ | refine aops_eff (eff_move rfl) rfl rfl rfl ?_ | refine aops_eff (eff_assign rfl) rfl rfl rfl ?_ | refine aops_eff (w_len_list TT_ok rfl rfl rfl) rfl rfl rfl ?_ | refine aops_eff (w_cmp rfl rfl rfl) rfl rfl rfl ?_)
  refine ac_cond rfl (fun h => ?_) (fun h => ?_)
  · simp [encI_len] at h
    repeat (first | refine aops_nil ?_ | refine ac_seq ?_ | refine ac_region ?_ | refine then_n ?_ | refine then_ret ?_ | refine ac_ret ?_ | refine aops_eff (eff_assign rfl) rfl rfl rfl ?_)
    refine ret_mk rfl rfl rfl ?_
    refine fz_bl ?_
    have : a ≠ b := by rintro rfl; exact h rfl
    simp [this]
  · simp [encI_len] at h
    repeat (first | refine aops_nil ?_ | refine ac_seq ?_ | refine ac_region ?_ | refine then_n ?_ | refine ac_block ?_ | refine ac_skip ?_ | refine aops_eff (eff_assign rfl) rfl rfl rfl ?_)
    refine ac_loop (ι := Nat) (fun k => mkS [(0, .list 3 (a.map eM)), (1, .list 3 (b.map eM)), (5, .int k)] [] 0 [0,1,2,3,4,5,6,7]) (fun k => k ≤ a.length ∧ a.take k = b.take k) (fun k => a.length - k) 0 (by simp) ?_ ?_
    · refine ent_mk (σ := sg []) ?_ ?_ rfl
      · repeat (first | exact trivial | refine ⟨⟨_, rfl, ?_⟩, ?_⟩ | exact ⟨rfl, rfl⟩ | exact ⟨rfl, rfl, rfl, rfl⟩ | exact m_int (by omega) | exact m_int (by simp [encI_len]) | exact rfl)
      · repeat (first | exact trivial | refine ⟨⟨_, rfl, ?_⟩, rfl, ?_⟩ | refine ⟨rfl, .inl ⟨rfl, ?_⟩⟩)
    · intro k ⟨hk, hq⟩
      repeat (first | refine aops_nil ?_ | refine ac_seq ?_ | refine ac_region ?_ | refine then_n ?_ | refine aops_eff (eff_move rfl) rfl rfl rfl ?_ | refine aops_eff (w_len_list TT_ok rfl rfl rfl) rfl rfl rfl ?_ | refine aops_eff (w_cmp rfl rfl rfl) rfl rfl rfl ?_)
      refine ac_cond rfl (fun h2 => ?_) (fun h2 => ?_)
      · simp [encI_len] at h2
        have h4 : k < b.length := by omega
        repeat (first | refine ac_seq ?_ | refine ac_region_draw MIX ?_ | refine ac_block ?_ | refine ac_skip ?_ | refine aops_eff (eff_move rfl) rfl rfl rfl ?_ | refine aops_eff (w_load_ref TT_ok rfl rfl rfl rfl rfl rfl) rfl rfl rfl ?_ | refine aops_eff (eff_indexAddr_list TT_ok rfl rfl rfl rfl rfl rfl (map_at (at_lt (by omega)))) rfl rfl rfl ?_)
        refine aops_eff (w_call0s (h_s_mat a[k] b[k]) rfl (va_cons (va_agg rfl) (va_cons (va_agg rfl) va_nil))) rfl rfl rfl ?_
        repeat (first | refine aops_nil ?_ | refine aops_eff (w_not rfl) rfl rfl rfl ?_)
        refine ⟨by kernel_rfl, ?_⟩
        repeat (first | refine then_n ?_)
        refine ac_cond rfl (fun h3 => ?_) (fun h3 => ?_)
        · repeat (first | refine aops_nil ?_ | refine ac_seq ?_ | refine ac_region ?_ | refine then_n ?_ | refine then_ret ?_ | refine block_ret ?_ | refine ac_ret ?_ | refine aops_eff (eff_assign rfl) rfl rfl rfl ?_)
          refine ret_mk rfl rfl rfl ?_
          refine fz_bl ?_
          have : a ≠ b := by rintro rfl; simp at h3
          simp [this]
        · have h5 : a[k] = b[k] := by simpa [h2, h4] using h3
          clear h3
          repeat (first | refine aops_nil ?_ | refine ac_region ?_ | refine then_n ?_ | refine ac_skip ?_ | refine aops_eff (eff_move rfl) rfl rfl rfl ?_ | refine aops_eff (eff_assign rfl) rfl rfl rfl ?_ | refine aops_eff (w_add rfl rfl (by omega)) rfl rfl rfl ?_)
          refine ⟨k + 1, ⟨by omega, ?_⟩, by omega, ?_⟩
          · rw [List.take_succ_eq_append_getElem h2, List.take_succ_eq_append_getElem h4, hq]
            rw [h5]
          · refine ent_mk (σ := sg []) ?_ ?_ rfl
            · repeat (first | exact trivial | refine ⟨⟨_, rfl, ?_⟩, ?_⟩ | exact ⟨rfl, rfl⟩ | exact ⟨rfl, rfl, rfl, rfl⟩ | exact m_int (by omega) | exact m_int (by simp [encI_len]) | exact rfl)
            · repeat (first | exact trivial | refine ⟨⟨_, rfl, ?_⟩, rfl, ?_⟩ | refine ⟨rfl, .inl ⟨rfl, ?_⟩⟩)
      · simp [encI_len] at h2
        repeat (first | refine aops_nil ?_ | refine ac_seq ?_ | refine ac_region ?_ | refine then_n ?_ | refine ac_exit ?_ | refine ac_ret ?_ | refine aops_eff (eff_assign rfl) rfl rfl rfl ?_)
        refine ret_mk rfl rfl rfl ?_
        refine fz_bl ?_
        have : a = b := by
          rw [← List.take_of_length_le (l := a) (i := k) (by omega), ← List.take_of_length_le (l := b) (i := k) (by omega), hq]
        simp [this]

theorem h_i_matsF (a b : List Mt) : HasC Try.prog 114 [.list 3 (a.map eM), .list 3 (b.map eM), .fn 115 []] (.bl (decide (a = b))) := by
  refine hasC_mk TT_ok (ns := [0,1,2,3,4,5,6,7]) Try.func114 rfl rfl Try.ntmps114 rfl rfl rfl ?_
  refine ac_len (t := 0) rfl fun hla => ?_
  have hmx : maxLen ≤ 9223372036854775807 := by decide
  simp only [encI_len, List.length_map] at hla
  repeat (first | refine aops_nil ?_ | refine ac_seq ?_ | refine ac_region ?_ | refine then_n ?_ | refine aops_eff (eff_move rfl) rfl rfl rfl ?_ | refine aops_eff (eff_assign rfl) rfl rfl rfl ?_ | refine aops_eff (w_len_list TT_ok rfl rfl rfl) rfl rfl rfl ?_ | refine aops_eff (w_cmp rfl rfl rfl) rfl rfl rfl ?_)
  refine ac_cond rfl (fun h => ?_) (fun h => ?_)
  · simp [encI_len] at h
    repeat (first | refine aops_nil ?_ | refine ac_seq ?_ | refine ac_region ?_ | refine then_n ?_ | refine then_ret ?_ | refine ac_ret ?_ | refine aops_eff (eff_assign rfl) rfl rfl rfl ?_)
    refine ret_mk rfl rfl rfl ?_
    refine fz_bl ?_
    have : a ≠ b := by rintro rfl; exact h rfl
    simp [this]
  · simp [encI_len] at h
    repeat (first | refine aops_nil ?_ | refine ac_seq ?_ | refine ac_region ?_ | refine then_n ?_ | refine ac_block ?_ | refine ac_skip ?_ | refine aops_eff (eff_move rfl) rfl rfl rfl ?_ | refine aops_eff (w_len_list TT_ok rfl rfl rfl) rfl rfl rfl ?_)
    refine ac_loop (ι := Nat) (fun k => mkS [(0, .list 3 (a.map eM)), (1, .list 3 (b.map eM)), (2, .fn 115 []), (15, .list 3 (a.map eM)), (16, .int a.length), (17, .int k)] [] 0 [0,1,2,3,4,5,6,7]) (fun k => k ≤ a.length ∧ a.take k = b.take k) (fun k => a.length - k) 0 (by simp) ?_ ?_
    · refine ent_mk (σ := sg []) ?_ ?_ rfl
      · repeat (first | exact trivial | refine ⟨⟨_, rfl, ?_⟩, ?_⟩ | exact ⟨rfl, rfl⟩ | exact ⟨rfl, rfl, rfl, rfl⟩ | exact m_int (by omega) | exact m_int (by simp [encI_len]) | exact rfl)
      · repeat (first | exact trivial | refine ⟨⟨_, rfl, ?_⟩, rfl, ?_⟩ | refine ⟨rfl, .inl ⟨rfl, ?_⟩⟩)
    · intro k ⟨hk, hq⟩
      repeat (first | refine aops_nil ?_ | refine ac_seq ?_ | refine ac_region ?_ | refine aops_eff (w_cmp rfl rfl rfl) rfl rfl rfl ?_)
      refine ac_cond rfl (fun h2 => ?_) (fun h2 => ?_)
      · simp [encI_len] at h2
        have h4 : k < b.length := by omega
        repeat (first | refine aops_nil ?_ | refine ac_seq ?_ | refine ac_region ?_ | refine ac_block ?_ | refine ac_skip ?_ | refine aops_eff (eff_move rfl) rfl rfl rfl ?_ | refine aops_eff (w_load_ptr TT_ok rfl rfl rfl rfl rfl rfl rfl) rfl rfl rfl ?_ | refine aops_eff (eff_assign rfl) rfl rfl rfl ?_ | refine aops_eff (w_load_ref TT_ok rfl rfl rfl rfl rfl rfl) rfl rfl rfl ?_ | refine aops_eff (eff_indexAddr_list TT_ok rfl rfl rfl rfl rfl rfl (map_at (at_lt (by omega)))) rfl rfl rfl ?_ | refine aops_eff (w_alloc TT_ok rfl rfl) rfl rfl rfl ?_ | refine aops_eff (w_store TT_ok rfl rfl rfl rfl rfl rfl rfl rfl) rfl rfl rfl ?_)
        refine aops_eff (w_call (ds1 := [_, _]) (ds2 := []) (h_i_mat a[k] b[k]) rfl rfl rfl rfl rfl rfl trivial (va_cons (va_agg rfl) (va_cons (va_agg rfl) va_nil)) rfl) rfl rfl rfl ?_
        repeat (first | refine aops_nil ?_ | refine then_n ?_ | refine aops_eff (w_not rfl) rfl rfl rfl ?_)
        refine ac_cond rfl (fun h3 => ?_) (fun h3 => ?_)
        · repeat (first | refine aops_nil ?_ | refine ac_seq ?_ | refine ac_region ?_ | refine then_n ?_ | refine then_ret ?_ | refine block_ret ?_ | refine ac_ret ?_ | refine aops_eff (eff_assign rfl) rfl rfl rfl ?_)
          refine ret_mk rfl rfl rfl ?_
          refine fz_bl ?_
          have : a ≠ b := by rintro rfl; simp at h3
          simp [this]
        · have h5 : a[k] = b[k] := by simpa [h2, h4] using h3
          clear h3
          repeat (first | refine aops_nil ?_ | refine ac_region ?_ | refine then_n ?_ | refine ac_skip ?_ | refine aops_eff (eff_move rfl) rfl rfl rfl ?_ | refine aops_eff (w_add rfl rfl (by omega)) rfl rfl rfl ?_)
          refine ⟨k + 1, ⟨by omega, ?_⟩, by omega, ?_⟩
          · rw [List.take_succ_eq_append_getElem h2, List.take_succ_eq_append_getElem h4, hq]
            rw [h5]
          · refine ent_mk (σ := sg []) ?_ ?_ rfl
            · repeat (first | exact trivial | refine ⟨⟨_, rfl, ?_⟩, ?_⟩ | exact ⟨rfl, rfl⟩ | exact ⟨rfl, rfl, rfl, rfl⟩ | exact m_int (by omega) | exact m_int (by simp [encI_len]) | exact rfl)
            · repeat (first | exact trivial | refine ⟨⟨_, rfl, ?_⟩, rfl, ?_⟩ | refine ⟨rfl, .inl ⟨rfl, ?_⟩⟩)
      · simp [encI_len] at h2
        repeat (first | refine aops_nil ?_ | refine ac_seq ?_ | refine ac_region ?_ | refine then_n ?_ | refine ac_exit ?_ | refine ac_ret ?_ | refine aops_eff (eff_assign rfl) rfl rfl rfl ?_)
        refine ret_mk rfl rfl rfl ?_
        refine fz_bl ?_
        have : a = b := by
          rw [← List.take_of_length_le (l := a) (i := k) (by omega), ← List.take_of_length_le (l := b) (i := k) (by omega), hq]
        simp [this]

theorem h_i_mats (a b : List Mt) : HasC Try.prog 72 [.list 3 (a.map eM), .list 3 (b.map eM)] (.bl (decide (a = b))) := by
  refine hasC_mk TT_ok (ns := [0,1,2,3,4,5,6,7]) Try.func72 rfl rfl Try.ntmps72 rfl rfl rfl ?_
  repeat (first | refine aops_nil ?_ | refine ac_seq ?_ | refine ac_region ?_ | refine aops_eff (eff_move rfl) rfl rfl rfl ?_ | refine aops_eff (eff_assign rfl) rfl rfl rfl ?_)
  refine aops_eff (w_call0s (h_i_matsF a b) rfl (va_cons (va_same rfl) (va_cons (va_same rfl) (va_cons va_fn0 va_nil)))) rfl rfl rfl ?_
  repeat (first | refine aops_nil ?_ | refine then_n ?_ | refine ac_ret ?_ | refine aops_eff (eff_assign rfl) rfl rfl rfl ?_)
  refine ret_mk rfl rfl rfl ?_
  exact fz_bl rfl

theorem h_l_mats (a b : List Mt) : HasC Try.prog 77 [.list 3 (a.map eM), .list 3 (b.map eM)] (.bl (decide (a = b))) := by
  refine hasC_mk TT_ok (ns := [0,1,2,3,4,5,6,7]) Try.func77 rfl rfl Try.ntmps77 rfl rfl rfl ?_
  refine ac_len (t := 0) rfl fun hla => ?_
  have hmx : maxLen ≤ 9223372036854775807 := by decide
  simp only [encI_len, List.length_map] at hla
  repeat (first | refine aops_nil ?_ | refine ac_seq ?_ | refine ac_region ?_ | refine then_n ?_ | refine aops_eff (eff_move rfl) rfl rfl rfl ?_ | refine aops_eff (eff_assign rfl) rfl rfl rfl ?_ | refine aops_eff (w_len_list TT_ok rfl rfl rfl) rfl rfl rfl ?_ | refine aops_eff (w_cmp rfl rfl rfl) rfl rfl rfl ?_)
  refine ac_cond rfl (fun h => ?_) (fun h => ?_)
  · simp [encI_len] at h
    repeat (first | refine aops_nil ?_ | refine ac_seq ?_ | refine ac_region ?_ | refine then_n ?_ | refine then_ret ?_ | refine ac_ret ?_ | refine aops_eff (eff_assign rfl) rfl rfl rfl ?_)
    refine ret_mk rfl rfl rfl ?_
    refine fz_bl ?_
    have : a ≠ b := by rintro rfl; exact h rfl
    simp [this]
  · simp [encI_len] at h
    repeat (first | refine aops_nil ?_ | refine ac_seq ?_ | refine ac_region ?_ | refine then_n ?_ | refine ac_block ?_ | refine ac_skip ?_ | refine aops_eff (eff_assign rfl) rfl rfl rfl ?_)
    refine ac_loop (ι := Nat) (fun k => mkS [(0, .list 3 (a.map eM)), (1, .list 3 (b.map eM)), (5, .int k)] [] 0 [0,1,2,3,4,5,6,7]) (fun k => k ≤ a.length ∧ a.take k = b.take k) (fun k => a.length - k) 0 (by simp) ?_ ?_
    · refine ent_mk (σ := sg []) ?_ ?_ rfl
      · repeat (first | exact trivial | refine ⟨⟨_, rfl, ?_⟩, ?_⟩ | exact ⟨rfl, rfl⟩ | exact ⟨rfl, rfl, rfl, rfl⟩ | exact m_int (by omega) | exact m_int (by simp [encI_len]) | exact rfl)
      · repeat (first | exact trivial | refine ⟨⟨_, rfl, ?_⟩, rfl, ?_⟩ | refine ⟨rfl, .inl ⟨rfl, ?_⟩⟩)
    · intro k ⟨hk, hq⟩
      repeat (first | refine aops_nil ?_ | refine ac_seq ?_ | refine ac_region ?_ | refine then_n ?_ | refine aops_eff (eff_move rfl) rfl rfl rfl ?_ | refine aops_eff (w_len_list TT_ok rfl rfl rfl) rfl rfl rfl ?_ | refine aops_eff (w_cmp rfl rfl rfl) rfl rfl rfl ?_)
      refine ac_cond rfl (fun h2 => ?_) (fun h2 => ?_)
      · simp [encI_len] at h2
        have h4 : k < b.length := by omega
        repeat (first | refine ac_seq ?_ | refine ac_region_draw MIX ?_ | refine ac_block ?_ | refine ac_skip ?_ | refine aops_eff (eff_move rfl) rfl rfl rfl ?_ | refine aops_eff (w_load_ref TT_ok rfl rfl rfl rfl rfl rfl) rfl rfl rfl ?_ | refine aops_eff (eff_indexAddr_list TT_ok rfl rfl rfl rfl rfl rfl (map_at (at_lt (by omega)))) rfl rfl rfl ?_)
        refine aops_eff (w_call0s (h_l_mat a[k] b[k]) rfl (va_cons (va_agg rfl) (va_cons (va_agg rfl) va_nil))) rfl rfl rfl ?_
        repeat (first | refine aops_nil ?_ | refine aops_eff (w_not rfl) rfl rfl rfl ?_)
        refine ⟨by kernel_rfl, ?_⟩
        repeat (first | refine then_n ?_)
        refine ac_cond rfl (fun h3 => ?_) (fun h3 => ?_)
        · repeat (first | refine aops_nil ?_ | refine ac_seq ?_ | refine ac_region ?_ | refine then_n ?_ | refine then_ret ?_ | refine block_ret ?_ | refine ac_ret ?_ | refine aops_eff (eff_assign rfl) rfl rfl rfl ?_)
          refine ret_mk rfl rfl rfl ?_
          refine fz_bl ?_
          have : a ≠ b := by rintro rfl; simp at h3
          simp [this]
        · have h5 : a[k] = b[k] := by simpa [h2, h4] using h3
          clear h3
          repeat (first | refine aops_nil ?_ | refine ac_region ?_ | refine then_n ?_ | refine ac_skip ?_ | refine aops_eff (eff_move rfl) rfl rfl rfl ?_ | refine aops_eff (eff_assign rfl) rfl rfl rfl ?_ | refine aops_eff (w_add rfl rfl (by omega)) rfl rfl rfl ?_)
          refine ⟨k + 1, ⟨by omega, ?_⟩, by omega, ?_⟩
          · rw [List.take_succ_eq_append_getElem h2, List.take_succ_eq_append_getElem h4, hq]
            rw [h5]
          · refine ent_mk (σ := sg []) ?_ ?_ rfl
            · repeat (first | exact trivial | refine ⟨⟨_, rfl, ?_⟩, ?_⟩ | exact ⟨rfl, rfl⟩ | exact ⟨rfl, rfl, rfl, rfl⟩ | exact m_int (by omega) | exact m_int (by simp [encI_len]) | exact rfl)
            · repeat (first | exact trivial | refine ⟨⟨_, rfl, ?_⟩, rfl, ?_⟩ | refine ⟨rfl, .inl ⟨rfl, ?_⟩⟩)
      · simp [encI_len] at h2
        repeat (first | refine aops_nil ?_ | refine ac_seq ?_ | refine ac_region ?_ | refine then_n ?_ | refine ac_exit ?_ | refine ac_ret ?_ | refine aops_eff (eff_assign rfl) rfl rfl rfl ?_)
        refine ret_mk rfl rfl rfl ?_
        refine fz_bl ?_
        have : a = b := by
          rw [← List.take_of_length_le (l := a) (i := k) (by omega), ← List.take_of_length_le (l := b) (i := k) (by omega), hq]
        simp [this]

theorem h_s_rep (a b : Rp) : HasC Try.prog 60 [.agg (eR a), .agg (eR b)] (.bl (decide (a = b))) := by
  refine hasC_mk TT_ok (ns := [0,1,2,3,4,5,6,7]) Try.func60 rfl rfl Try.ntmps60 rfl rfl rfl ?_
  repeat (first | refine aops_nil ?_ | refine ac_seq ?_ | refine ac_region ?_ | refine aops_eff (eff_move rfl) rfl rfl rfl ?_ | refine aops_eff (w_load_ptr TT_ok rfl rfl rfl rfl rfl rfl rfl) rfl rfl rfl ?_ | refine aops_eff (w_field_ptr TT_ok rfl rfl rfl rfl rfl rfl rfl) rfl rfl rfl ?_ | refine aops_eff (eff_assign rfl) rfl rfl rfl ?_ | refine aops_eff (w_cmp rfl rfl rfl) rfl rfl rfl ?_ | refine aops_eff (w_box rfl rfl rfl rfl) rfl rfl rfl ?_)
  cases h0 : decide (a.p = b.p)
  · repeat (first | refine aops_nil ?_ | refine then_n ?_ | refine aops_eff (eff_move rfl) rfl rfl rfl ?_ | refine aops_skip rfl rfl ?_ | refine aops_eff (eff_pick rfl rfl) rfl rfl rfl ?_)
    refine ac_cond rfl (fun g => ?_) (fun g => by cases g)
    repeat (first | refine aops_nil ?_ | refine ac_seq ?_ | refine ac_region ?_ | refine then_n ?_ | refine then_ret ?_ | refine ac_ret ?_ | refine aops_eff (eff_assign rfl) rfl rfl rfl ?_)
    refine ret_mk rfl rfl rfl ?_
    refine fz_bl ?_
    have : a ≠ b := by rintro rfl; simp at h0
    simp [this]
  · repeat (first | refine aops_eff (w_load_ptr TT_ok rfl rfl rfl rfl rfl rfl rfl) rfl rfl rfl ?_ | refine aops_eff (w_field_ptr TT_ok rfl rfl rfl rfl rfl rfl rfl) rfl rfl rfl ?_)
    refine aops_eff (w_call0s (h_s_quiver a.q b.q) rfl (va_cons (va_agg rfl) (va_cons (va_agg rfl) va_nil))) rfl rfl rfl ?_
    repeat (first | refine aops_eff (eff_move rfl) rfl rfl rfl ?_ | refine aops_eff (eff_pick rfl rfl) rfl rfl rfl ?_ | refine aops_eff (w_not rfl) rfl rfl rfl ?_)
    cases h1 : decide (a.q = b.q)
    · repeat (first | refine aops_nil ?_ | refine then_n ?_ | refine aops_eff (eff_move rfl) rfl rfl rfl ?_ | refine aops_skip rfl rfl ?_ | refine aops_eff (eff_pick rfl rfl) rfl rfl rfl ?_)
      refine ac_cond rfl (fun g => ?_) (fun g => by cases g)
      repeat (first | refine aops_nil ?_ | refine ac_seq ?_ | refine ac_region ?_ | refine then_n ?_ | refine then_ret ?_ | refine ac_ret ?_ | refine aops_eff (eff_assign rfl) rfl rfl rfl ?_)
      refine ret_mk rfl rfl rfl ?_
      refine fz_bl ?_
      have : a ≠ b := by rintro rfl; simp at h1
      simp [this]
    · repeat (first | refine aops_eff (w_load_ptr TT_ok rfl rfl rfl rfl rfl rfl rfl) rfl rfl rfl ?_ | refine aops_eff (w_field_ptr TT_ok rfl rfl rfl rfl rfl rfl rfl) rfl rfl rfl ?_)
      refine aops_eff (w_call0s (h_l6Same a.dims b.dims) rfl (va_cons (va_same rfl) (va_cons (va_same rfl) va_nil))) rfl rfl rfl ?_
      repeat (first | refine aops_eff (eff_move rfl) rfl rfl rfl ?_ | refine aops_eff (eff_pick rfl rfl) rfl rfl rfl ?_ | refine aops_eff (w_not rfl) rfl rfl rfl ?_)
      cases h2 : decide (a.dims = b.dims)
      · repeat (first | refine aops_nil ?_ | refine then_n ?_ | refine aops_skip rfl rfl ?_ | refine aops_eff (eff_pick rfl rfl) rfl rfl rfl ?_)
        refine ac_cond rfl (fun g => ?_) (fun g => by cases g)
        repeat (first | refine aops_nil ?_ | refine ac_seq ?_ | refine ac_region ?_ | refine then_n ?_ | refine then_ret ?_ | refine ac_ret ?_ | refine aops_eff (eff_assign rfl) rfl rfl rfl ?_)
        refine ret_mk rfl rfl rfl ?_
        refine fz_bl ?_
        have : a ≠ b := by rintro rfl; simp at h2
        simp [this]
      · repeat (first | refine aops_nil ?_ | refine then_n ?_ | refine aops_eff (w_load_ptr TT_ok rfl rfl rfl rfl rfl rfl rfl) rfl rfl rfl ?_ | refine aops_eff (w_field_ptr TT_ok rfl rfl rfl rfl rfl rfl rfl) rfl rfl rfl ?_ | refine aops_eff (w_len_list TT_ok rfl rfl rfl) rfl rfl rfl ?_ | refine aops_eff (w_cmp rfl rfl rfl) rfl rfl rfl ?_ | refine aops_eff (eff_pick rfl rfl) rfl rfl rfl ?_)
        refine ac_cond rfl (fun h => ?_) (fun h => ?_)
        · simp [encI_len] at h
          repeat (first | refine aops_nil ?_ | refine ac_seq ?_ | refine ac_region ?_ | refine then_n ?_ | refine then_ret ?_ | refine ac_ret ?_ | refine aops_eff (eff_assign rfl) rfl rfl rfl ?_)
          refine ret_mk rfl rfl rfl ?_
          refine fz_bl ?_
          have : a ≠ b := by rintro rfl; exact h rfl
          simp [this]
        · simp [encI_len] at h
          repeat (first | refine aops_nil ?_ | refine ac_seq ?_ | refine ac_region ?_ | refine then_n ?_ | refine ac_block ?_ | refine ac_skip ?_ | refine aops_eff (eff_assign rfl) rfl rfl rfl ?_)
          refine ac_loop (ι := Nat) (fun k => mkS [(2, .ptr 0 0 0), (3, .ptr 1 0 0), (5, .int k)] [(0, ⟨6, [eR a]⟩), (1, ⟨6, [eR b]⟩)] 2 [2,3,4,5,6,7]) (fun k => k ≤ a.maps.length ∧ a.maps.take k = b.maps.take k) (fun k => a.maps.length - k) 0 (by simp) ?_ ?_
          · refine ent_mk (σ := sg [(0, 0), (1, 1)]) ?_ ?_ rfl
            · repeat (first | exact trivial | refine ⟨⟨_, rfl, ?_⟩, ?_⟩ | exact ⟨rfl, rfl⟩ | exact ⟨rfl, rfl, rfl, rfl⟩ | exact m_int (by omega) | exact m_int (by simp [encI_len]) | exact rfl)
            · exact ⟨⟨_, rfl, rfl, .inl ⟨rfl, plain_of rfl⟩⟩, rfl, ⟨_, rfl, rfl, .inl ⟨rfl, plain_of rfl⟩⟩, rfl, trivial⟩
          · intro k ⟨hk, hq⟩
            repeat (first | refine aops_nil ?_ | refine ac_seq ?_ | refine ac_region ?_ | refine then_n ?_ | refine aops_eff (eff_move rfl) rfl rfl rfl ?_ | refine aops_eff (w_load_ptr TT_ok rfl rfl rfl rfl rfl rfl rfl) rfl rfl rfl ?_ | refine aops_eff (w_field_ptr TT_ok rfl rfl rfl rfl rfl rfl rfl) rfl rfl rfl ?_ | refine aops_eff (w_len_list TT_ok rfl rfl rfl) rfl rfl rfl ?_ | refine aops_eff (w_cmp rfl rfl rfl) rfl rfl rfl ?_)
            refine ac_cond rfl (fun h2 => ?_) (fun h2 => ?_)
            · simp [encI_len] at h2
              have h4 : k < b.maps.length := by omega
              refine ac_len2 (b := 0) (i := 0) (j := 5) rfl rfl rfl fun hla => ?_
              have hmx : maxLen ≤ 9223372036854775807 := by decide
              simp only [encI_len, List.length_map] at hla
              repeat (first | refine ac_seq ?_ | refine ac_region_draw MIX ?_ | refine ac_block ?_ | refine ac_skip ?_ | refine aops_eff (eff_move rfl) rfl rfl rfl ?_ | refine aops_eff (w_load_ptr TT_ok rfl rfl rfl rfl rfl rfl rfl) rfl rfl rfl ?_ | refine aops_eff (w_field_ptr TT_ok rfl rfl rfl rfl rfl rfl rfl) rfl rfl rfl ?_ | refine aops_eff (w_load_ref TT_ok rfl rfl rfl rfl rfl rfl) rfl rfl rfl ?_ | refine aops_eff (eff_indexAddr_list TT_ok rfl rfl rfl rfl rfl rfl (map_at (at_lt (by omega)))) rfl rfl rfl ?_)
              refine aops_eff (w_call0s (h_s_mat a.maps[k] b.maps[k]) rfl (va_cons (va_agg rfl) (va_cons (va_agg rfl) va_nil))) rfl rfl rfl ?_
              repeat (first | refine aops_nil ?_ | refine aops_eff (w_not rfl) rfl rfl rfl ?_)
              refine ⟨by kernel_rfl, ?_⟩
              repeat (first | refine then_n ?_)
              refine ac_cond rfl (fun h3 => ?_) (fun h3 => ?_)
              · repeat (first | refine aops_nil ?_ | refine ac_seq ?_ | refine ac_region ?_ | refine then_n ?_ | refine then_ret ?_ | refine block_ret ?_ | refine ac_ret ?_ | refine aops_eff (eff_assign rfl) rfl rfl rfl ?_)
                refine ret_mk rfl rfl rfl ?_
                refine fz_bl ?_
                have : a ≠ b := by rintro rfl; simp at h3
                simp [this]
              · have h5 : a.maps[k] = b.maps[k] := by simpa [h2, h4] using h3
                clear h3
                repeat (first | refine aops_nil ?_ | refine ac_region ?_ | refine then_n ?_ | refine ac_skip ?_ | refine aops_eff (eff_move rfl) rfl rfl rfl ?_ | refine aops_eff (eff_assign rfl) rfl rfl rfl ?_ | refine aops_eff (w_add rfl rfl (by omega)) rfl rfl rfl ?_)
                refine ⟨k + 1, ⟨by omega, ?_⟩, by omega, ?_⟩
                · rw [List.take_succ_eq_append_getElem h2, List.take_succ_eq_append_getElem h4, hq]
                  rw [h5]
                · refine ent_mk (σ := sg [(0, 0), (1, 1)]) ?_ ?_ rfl
                  · repeat (first | exact trivial | refine ⟨⟨_, rfl, ?_⟩, ?_⟩ | exact ⟨rfl, rfl⟩ | exact ⟨rfl, rfl, rfl, rfl⟩ | exact m_int (by omega) | exact m_int (by simp [encI_len]) | exact rfl)
                  · exact ⟨⟨_, rfl, rfl, .inl ⟨rfl, plain_of rfl⟩⟩, rfl, ⟨_, rfl, rfl, .inl ⟨rfl, plain_of rfl⟩⟩, rfl, trivial⟩
            · simp [encI_len] at h2
              repeat (first | refine aops_nil ?_ | refine ac_seq ?_ | refine ac_region ?_ | refine then_n ?_ | refine ac_exit ?_ | refine ac_ret ?_ | refine aops_eff (eff_assign rfl) rfl rfl rfl ?_)
              refine ret_mk rfl rfl rfl ?_
              refine fz_bl ?_
              have hf : a.maps = b.maps := by
                rw [← List.take_of_length_le (l := a.maps) (i := k) (by omega), ← List.take_of_length_le (l := b.maps) (i := k) (by omega), hq]
              cases a; cases b; simp_all [Rp.mk.injEq]

theorem h_i_rep (a b : Rp) : HasC Try.prog 70 [.agg (eR a), .agg (eR b)] (.bl (decide (a = b))) := by
  refine hasC_mk TT_ok (ns := [0,1,2,3,4,5,6,7]) Try.func70 rfl rfl Try.ntmps70 rfl rfl rfl ?_
  repeat (first | refine aops_nil ?_ | refine ac_seq ?_ | refine ac_region ?_ | refine aops_eff (eff_move rfl) rfl rfl rfl ?_ | refine aops_eff (w_load_ptr TT_ok rfl rfl rfl rfl rfl rfl rfl) rfl rfl rfl ?_ | refine aops_eff (w_field_ptr TT_ok rfl rfl rfl rfl rfl rfl rfl) rfl rfl rfl ?_ | refine aops_eff (eff_assign rfl) rfl rfl rfl ?_ | refine aops_eff (w_cmp rfl rfl rfl) rfl rfl rfl ?_ | refine aops_eff (w_box rfl rfl rfl rfl) rfl rfl rfl ?_)
  cases h0 : decide (a.p = b.p)
  · repeat (first | refine aops_nil ?_ | refine then_n ?_ | refine ac_ret ?_ | refine aops_eff (eff_move rfl) rfl rfl rfl ?_ | refine aops_eff (eff_assign rfl) rfl rfl rfl ?_ | refine aops_skip rfl rfl ?_ | refine aops_eff (eff_pick rfl rfl) rfl rfl rfl ?_)
    refine ret_mk rfl rfl rfl ?_
    refine fz_bl ?_
    cases a; cases b; simp_all [Rp.mk.injEq]
  · repeat (first | refine aops_eff (w_load_ptr TT_ok rfl rfl rfl rfl rfl rfl rfl) rfl rfl rfl ?_ | refine aops_eff (w_field_ptr TT_ok rfl rfl rfl rfl rfl rfl rfl) rfl rfl rfl ?_)
    refine aops_eff (w_call0s (h_i_quiver a.q b.q) rfl (va_cons (va_agg rfl) (va_cons (va_agg rfl) va_nil))) rfl rfl rfl ?_
    repeat (first | refine aops_eff (eff_move rfl) rfl rfl rfl ?_ | refine aops_eff (eff_pick rfl rfl) rfl rfl rfl ?_)
    cases h1 : decide (a.q = b.q)
    · repeat (first | refine aops_nil ?_ | refine then_n ?_ | refine ac_ret ?_ | refine aops_eff (eff_move rfl) rfl rfl rfl ?_ | refine aops_eff (eff_assign rfl) rfl rfl rfl ?_ | refine aops_skip rfl rfl ?_ | refine aops_eff (eff_pick rfl rfl) rfl rfl rfl ?_)
      refine ret_mk rfl rfl rfl ?_
      refine fz_bl ?_
      cases a; cases b; simp_all [Rp.mk.injEq]
    · repeat (first | refine aops_eff (w_load_ptr TT_ok rfl rfl rfl rfl rfl rfl rfl) rfl rfl rfl ?_ | refine aops_eff (w_field_ptr TT_ok rfl rfl rfl rfl rfl rfl rfl) rfl rfl rfl ?_)
      refine aops_eff (w_call0s (h_slEqual a.dims b.dims) rfl (va_cons (va_same rfl) (va_cons (va_same rfl) va_nil))) rfl rfl rfl ?_
      repeat (first | refine aops_eff (eff_move rfl) rfl rfl rfl ?_ | refine aops_eff (eff_pick rfl rfl) rfl rfl rfl ?_)
      cases h2 : decide (a.dims = b.dims)
      · repeat (first | refine aops_nil ?_ | refine then_n ?_ | refine ac_ret ?_ | refine aops_eff (eff_assign rfl) rfl rfl rfl ?_ | refine aops_skip rfl rfl ?_ | refine aops_eff (eff_pick rfl rfl) rfl rfl rfl ?_)
        refine ret_mk rfl rfl rfl ?_
        refine fz_bl ?_
        cases a; cases b; simp_all [Rp.mk.injEq]
      · repeat (first | refine aops_eff (w_load_ptr TT_ok rfl rfl rfl rfl rfl rfl rfl) rfl rfl rfl ?_ | refine aops_eff (w_field_ptr TT_ok rfl rfl rfl rfl rfl rfl rfl) rfl rfl rfl ?_)
        refine aops_eff (w_call0s (h_i_matsF a.maps b.maps) rfl (va_cons (va_same rfl) (va_cons (va_same rfl) (va_cons va_fn0 va_nil)))) rfl rfl rfl ?_
        repeat (first | refine aops_nil ?_ | refine then_n ?_ | refine ac_ret ?_ | refine aops_eff (eff_assign rfl) rfl rfl rfl ?_ | refine aops_eff (eff_pick rfl rfl) rfl rfl rfl ?_)
        refine ret_mk rfl rfl rfl ?_
        refine fz_bl ?_
        cases a; cases b; simp_all [Rp.mk.injEq]

theorem h_l_rep (a b : Rp) : HasC Try.prog 37 [.agg (eR a), .agg (eR b)] (.bl (decide (a = b))) := by
  refine hasC_mk TT_ok (ns := [0,1,2,3,4,5,6,7]) Try.func37 rfl rfl Try.ntmps37 rfl rfl rfl ?_
  repeat (first | refine aops_nil ?_ | refine ac_seq ?_ | refine ac_region ?_ | refine then_n ?_ | refine aops_eff (w_load_ptr TT_ok rfl rfl rfl rfl rfl rfl rfl) rfl rfl rfl ?_ | refine aops_eff (w_field_ptr TT_ok rfl rfl rfl rfl rfl rfl rfl) rfl rfl rfl ?_ | refine aops_eff (eff_assign rfl) rfl rfl rfl ?_ | refine aops_eff (w_cmp rfl rfl rfl) rfl rfl rfl ?_ | refine aops_eff (w_box rfl rfl rfl rfl) rfl rfl rfl ?_)
  refine ac_cond rfl (fun h0 => ?_) (fun h0 => ?_)
  · simp at h0
    repeat (first | refine aops_nil ?_ | refine ac_seq ?_ | refine ac_region ?_ | refine then_n ?_ | refine then_ret ?_ | refine ac_ret ?_ | refine aops_eff (eff_assign rfl) rfl rfl rfl ?_)
    refine ret_mk rfl rfl rfl ?_
    refine fz_bl ?_
    cases a; cases b; simp_all [Rp.mk.injEq]
  · simp at h0
    repeat (first | refine ac_seq ?_ | refine ac_region ?_ | refine ac_skip ?_ | refine aops_eff (w_load_ptr TT_ok rfl rfl rfl rfl rfl rfl rfl) rfl rfl rfl ?_ | refine aops_eff (w_field_ptr TT_ok rfl rfl rfl rfl rfl rfl rfl) rfl rfl rfl ?_)
    refine aops_eff (w_call0s (h_l_quiver a.q b.q) rfl (va_cons (va_agg rfl) (va_cons (va_agg rfl) va_nil))) rfl rfl rfl ?_
    repeat (first | refine aops_nil ?_ | refine then_n ?_ | refine aops_eff (w_not rfl) rfl rfl rfl ?_)
    refine ac_cond rfl (fun h1 => ?_) (fun h1 => ?_)
    · simp at h1
      repeat (first | refine aops_nil ?_ | refine ac_seq ?_ | refine ac_region ?_ | refine then_n ?_ | refine then_ret ?_ | refine ac_ret ?_ | refine aops_eff (eff_assign rfl) rfl rfl rfl ?_)
      refine ret_mk rfl rfl rfl ?_
      refine fz_bl ?_
      cases a; cases b; simp_all [Rp.mk.injEq]
    · simp at h1
      repeat (first | refine ac_seq ?_ | refine ac_region ?_ | refine ac_skip ?_ | refine aops_eff (w_load_ptr TT_ok rfl rfl rfl rfl rfl rfl rfl) rfl rfl rfl ?_ | refine aops_eff (w_field_ptr TT_ok rfl rfl rfl rfl rfl rfl rfl) rfl rfl rfl ?_)
      refine aops_eff (w_call0s (h_eqIntS a.dims b.dims) rfl (va_cons (va_same rfl) (va_cons (va_same rfl) va_nil))) rfl rfl rfl ?_
      repeat (first | refine aops_nil ?_ | refine then_n ?_ | refine aops_eff (w_not rfl) rfl rfl rfl ?_)
      refine ac_cond rfl (fun h2 => ?_) (fun h2 => ?_)
      · simp at h2
        repeat (first | refine aops_nil ?_ | refine ac_seq ?_ | refine ac_region ?_ | refine then_n ?_ | refine then_ret ?_ | refine ac_ret ?_ | refine aops_eff (eff_assign rfl) rfl rfl rfl ?_)
        refine ret_mk rfl rfl rfl ?_
        refine fz_bl ?_
        cases a; cases b; simp_all [Rp.mk.injEq]
      · simp at h2
        repeat (first | refine ac_seq ?_ | refine ac_region ?_ | refine ac_skip ?_ | refine aops_eff (w_load_ptr TT_ok rfl rfl rfl rfl rfl rfl rfl) rfl rfl rfl ?_ | refine aops_eff (w_field_ptr TT_ok rfl rfl rfl rfl rfl rfl rfl) rfl rfl rfl ?_)
        refine aops_eff (w_call0s (h_l_mats a.maps b.maps) rfl (va_cons (va_same rfl) (va_cons (va_same rfl) va_nil))) rfl rfl rfl ?_
        repeat (first | refine aops_nil ?_ | refine then_n ?_ | refine aops_eff (w_not rfl) rfl rfl rfl ?_)
        refine ac_cond rfl (fun h3 => ?_) (fun h3 => ?_)
        · simp at h3
          repeat (first | refine aops_nil ?_ | refine ac_seq ?_ | refine ac_region ?_ | refine then_n ?_ | refine then_ret ?_ | refine ac_ret ?_ | refine aops_eff (eff_assign rfl) rfl rfl rfl ?_)
          refine ret_mk rfl rfl rfl ?_
          refine fz_bl ?_
          cases a; cases b; simp_all [Rp.mk.injEq]
        · simp at h3
          repeat (first | refine aops_nil ?_ | refine ac_seq ?_ | refine ac_region ?_ | refine then_n ?_ | refine ac_skip ?_ | refine ac_ret ?_ | refine aops_eff (eff_assign rfl) rfl rfl rfl ?_)
          skip
          refine ret_mk rfl rfl rfl ?_
          refine fz_bl ?_
          cases a; cases b; simp_all [Rp.mk.injEq]

theorem h_s_reps (a b : List Rp) : HasC Try.prog 61 [.list 6 (a.map eR), .list 6 (b.map eR)] (.bl (decide (a = b))) := by
  refine hasC_mk TT_ok (ns := [0,1,2,3,4,5,6,7]) Try.func61 rfl rfl Try.ntmps61 rfl rfl rfl ?_
  refine ac_len (t := 0) rfl fun hla => ?_
  have hmx : maxLen ≤ 9223372036854775807 := by decide
  simp only [encI_len, List.length_map] at hla
  repeat (first | refine aops_nil ?_ | refine ac_seq ?_ | refine ac_region ?_ | refine then_n ?_ | refine aops_eff (eff_move rfl) rfl rfl rfl ?_ | refine aops_eff (eff_assign rfl) rfl rfl rfl ?_ | refine aops_eff (w_len_list TT_ok rfl rfl rfl) rfl rfl rfl ?_ | refine aops_eff (w_cmp rfl rfl rfl) rfl rfl rfl ?_)
  refine ac_cond rfl (fun h => ?_) (fun h => ?_)
  · simp [encI_len] at h
    repeat (first | refine aops_nil ?_ | refine ac_seq ?_ | refine ac_region ?_ | refine then_n ?_ | refine then_ret ?_ | refine ac_ret ?_ | refine aops_eff (eff_assign rfl) rfl rfl rfl ?_)
    refine ret_mk rfl rfl rfl ?_
    refine fz_bl ?_
    have : a ≠ b := by rintro rfl; exact h rfl
    simp [this]
  · simp [encI_len] at h
    repeat (first | refine aops_nil ?_ | refine ac_seq ?_ | refine ac_region ?_ | refine then_n ?_ | refine ac_block ?_ | refine ac_skip ?_ | refine aops_eff (eff_assign rfl) rfl rfl rfl ?_)
    refine ac_loop (ι := Nat) (fun k => mkS [(0, .list 6 (a.map eR)), (1, .list 6 (b.map eR)), (5, .int k)] [] 0 [0,1,2,3,4,5,6,7]) (fun k => k ≤ a.length ∧ a.take k = b.take k) (fun k => a.length - k) 0 (by simp) ?_ ?_
    · refine ent_mk (σ := sg []) ?_ ?_ rfl
      · repeat (first | exact trivial | refine ⟨⟨_, rfl, ?_⟩, ?_⟩ | exact ⟨rfl, rfl⟩ | exact ⟨rfl, rfl, rfl, rfl⟩ | exact m_int (by omega) | exact m_int (by simp [encI_len]) | exact rfl)
      · repeat (first | exact trivial | refine ⟨⟨_, rfl, ?_⟩, rfl, ?_⟩ | refine ⟨rfl, .inl ⟨rfl, ?_⟩⟩)
    · intro k ⟨hk, hq⟩
      repeat (first | refine aops_nil ?_ | refine ac_seq ?_ | refine ac_region ?_ | refine then_n ?_ | refine aops_eff (eff_move rfl) rfl rfl rfl ?_ | refine aops_eff (w_len_list TT_ok rfl rfl rfl) rfl rfl rfl ?_ | refine aops_eff (w_cmp rfl rfl rfl) rfl rfl rfl ?_)
      refine ac_cond rfl (fun h2 => ?_) (fun h2 => ?_)
      · simp [encI_len] at h2
        have h4 : k < b.length := by omega
        repeat (first | refine ac_seq ?_ | refine ac_region_draw MIX ?_ | refine ac_block ?_ | refine ac_skip ?_ | refine aops_eff (eff_move rfl) rfl rfl rfl ?_ | refine aops_eff (w_load_ref TT_ok rfl rfl rfl rfl rfl rfl) rfl rfl rfl ?_ | refine aops_eff (eff_indexAddr_list TT_ok rfl rfl rfl rfl rfl rfl (map_at (at_lt (by omega)))) rfl rfl rfl ?_)
        refine aops_eff (w_call0s (h_s_rep a[k] b[k]) rfl (va_cons (va_agg rfl) (va_cons (va_agg rfl) va_nil))) rfl rfl rfl ?_
        repeat (first | refine aops_nil ?_ | refine aops_eff (w_not rfl) rfl rfl rfl ?_)
        refine ⟨by kernel_rfl, ?_⟩
        repeat (first | refine then_n ?_)
        refine ac_cond rfl (fun h3 => ?_) (fun h3 => ?_)
        · repeat (first | refine aops_nil ?_ | refine ac_seq ?_ | refine ac_region ?_ | refine then_n ?_ | refine then_ret ?_ | refine block_ret ?_ | refine ac_ret ?_ | refine aops_eff (eff_assign rfl) rfl rfl rfl ?_)
          refine ret_mk rfl rfl rfl ?_
          refine fz_bl ?_
          have : a ≠ b := by rintro rfl; simp at h3
          simp [this]
        · have h5 : a[k] = b[k] := by simpa [h2, h4] using h3
          clear h3
          repeat (first | refine aops_nil ?_ | refine ac_region ?_ | refine then_n ?_ | refine ac_skip ?_ | refine aops_eff (eff_move rfl) rfl rfl rfl ?_ | refine aops_eff (eff_assign rfl) rfl rfl rfl ?_ | refine aops_eff (w_add rfl rfl (by omega)) rfl rfl rfl ?_)
          refine ⟨k + 1, ⟨by omega, ?_⟩, by omega, ?_⟩
          · rw [List.take_succ_eq_append_getElem h2, List.take_succ_eq_append_getElem h4, hq]
            rw [h5]
          · refine ent_mk (σ := sg []) ?_ ?_ rfl
            · repeat (first | exact trivial | refine ⟨⟨_, rfl, ?_⟩, ?_⟩ | exact ⟨rfl, rfl⟩ | exact ⟨rfl, rfl, rfl, rfl⟩ | exact m_int (by omega) | exact m_int (by simp [encI_len]) | exact rfl)
            · repeat (first | exact trivial | refine ⟨⟨_, rfl, ?_⟩, rfl, ?_⟩ | refine ⟨rfl, .inl ⟨rfl, ?_⟩⟩)
      · simp [encI_len] at h2
        repeat (first | refine aops_nil ?_ | refine ac_seq ?_ | refine ac_region ?_ | refine then_n ?_ | refine ac_exit ?_ | refine ac_ret ?_ | refine aops_eff (eff_assign rfl) rfl rfl rfl ?_)
        refine ret_mk rfl rfl rfl ?_
        refine fz_bl ?_
        have : a = b := by
          rw [← List.take_of_length_le (l := a) (i := k) (by omega), ← List.take_of_length_le (l := b) (i := k) (by omega), hq]
        simp [this]

theorem h_i_repsF (a b : List Rp) : HasC Try.prog 71 [.list 6 (a.map eR), .list 6 (b.map eR), .fn 70 []] (.bl (decide (a = b))) := by
  refine hasC_mk TT_ok (ns := [0,1,2,3,4,5,6,7]) Try.func71 rfl rfl Try.ntmps71 rfl rfl rfl ?_
  refine ac_len (t := 0) rfl fun hla => ?_
  have hmx : maxLen ≤ 9223372036854775807 := by decide
  simp only [encI_len, List.length_map] at hla
  repeat (first | refine aops_nil ?_ | refine ac_seq ?_ | refine ac_region ?_ | refine then_n ?_ | refine aops_eff (eff_move rfl) rfl rfl rfl ?_ | refine aops_eff (eff_assign rfl) rfl rfl rfl ?_ | refine aops_eff (w_len_list TT_ok rfl rfl rfl) rfl rfl rfl ?_ | refine aops_eff (w_cmp rfl rfl rfl) rfl rfl rfl ?_)
  refine ac_cond rfl (fun h => ?_) (fun h => ?_)
  · simp [encI_len] at h
    repeat (first | refine aops_nil ?_ | refine ac_seq ?_ | refine ac_region ?_ | refine then_n ?_ | refine then_ret ?_ | refine ac_ret ?_ | refine aops_eff (eff_assign rfl) rfl rfl rfl ?_)
    refine ret_mk rfl rfl rfl ?_
    refine fz_bl ?_
    have : a ≠ b := by rintro rfl; exact h rfl
    simp [this]
  · simp [encI_len] at h
    repeat (first | refine aops_nil ?_ | refine ac_seq ?_ | refine ac_region ?_ | refine then_n ?_ | refine ac_block ?_ | refine ac_skip ?_ | refine aops_eff (eff_move rfl) rfl rfl rfl ?_ | refine aops_eff (w_len_list TT_ok rfl rfl rfl) rfl rfl rfl ?_)
    refine ac_loop (ι := Nat) (fun k => mkS [(0, .list 6 (a.map eR)), (1, .list 6 (b.map eR)), (2, .fn 70 []), (15, .list 6 (a.map eR)), (16, .int a.length), (17, .int k)] [] 0 [0,1,2,3,4,5,6,7]) (fun k => k ≤ a.length ∧ a.take k = b.take k) (fun k => a.length - k) 0 (by simp) ?_ ?_
    · refine ent_mk (σ := sg []) ?_ ?_ rfl
      · repeat (first | exact trivial | refine ⟨⟨_, rfl, ?_⟩, ?_⟩ | exact ⟨rfl, rfl⟩ | exact ⟨rfl, rfl, rfl, rfl⟩ | exact m_int (by omega) | exact m_int (by simp [encI_len]) | exact rfl)
      · repeat (first | exact trivial | refine ⟨⟨_, rfl, ?_⟩, rfl, ?_⟩ | refine ⟨rfl, .inl ⟨rfl, ?_⟩⟩)
    · intro k ⟨hk, hq⟩
      repeat (first | refine aops_nil ?_ | refine ac_seq ?_ | refine ac_region ?_ | refine aops_eff (w_cmp rfl rfl rfl) rfl rfl rfl ?_)
      refine ac_cond rfl (fun h2 => ?_) (fun h2 => ?_)
      · simp [encI_len] at h2
        have h4 : k < b.length := by omega
        repeat (first | refine aops_nil ?_ | refine ac_seq ?_ | refine ac_region ?_ | refine ac_block ?_ | refine ac_skip ?_ | refine aops_eff (eff_move rfl) rfl rfl rfl ?_ | refine aops_eff (w_load_ptr TT_ok rfl rfl rfl rfl rfl rfl rfl) rfl rfl rfl ?_ | refine aops_eff (eff_assign rfl) rfl rfl rfl ?_ | refine aops_eff (w_load_ref TT_ok rfl rfl rfl rfl rfl rfl) rfl rfl rfl ?_ | refine aops_eff (eff_indexAddr_list TT_ok rfl rfl rfl rfl rfl rfl (map_at (at_lt (by omega)))) rfl rfl rfl ?_ | refine aops_eff (w_alloc TT_ok rfl rfl) rfl rfl rfl ?_ | refine aops_eff (w_store TT_ok rfl rfl rfl rfl rfl rfl rfl rfl) rfl rfl rfl ?_)
        refine aops_eff (w_call (ds1 := [_, _]) (ds2 := []) (h_i_rep a[k] b[k]) rfl rfl rfl rfl rfl rfl trivial (va_cons (va_agg rfl) (va_cons (va_agg rfl) va_nil)) rfl) rfl rfl rfl ?_
        repeat (first | refine aops_nil ?_ | refine then_n ?_ | refine aops_eff (w_not rfl) rfl rfl rfl ?_)
        refine ac_cond rfl (fun h3 => ?_) (fun h3 => ?_)
        · repeat (first | refine aops_nil ?_ | refine ac_seq ?_ | refine ac_region ?_ | refine then_n ?_ | refine then_ret ?_ | refine block_ret ?_ | refine ac_ret ?_ | refine aops_eff (eff_assign rfl) rfl rfl rfl ?_)
          refine ret_mk rfl rfl rfl ?_
          refine fz_bl ?_
          have : a ≠ b := by rintro rfl; simp at h3
          simp [this]
        · have h5 : a[k] = b[k] := by simpa [h2, h4] using h3
          clear h3
          repeat (first | refine aops_nil ?_ | refine ac_region ?_ | refine then_n ?_ | refine ac_skip ?_ | refine aops_eff (eff_move rfl) rfl rfl rfl ?_ | refine aops_eff (w_add rfl rfl (by omega)) rfl rfl rfl ?_)
          refine ⟨k + 1, ⟨by omega, ?_⟩, by omega, ?_⟩
          · rw [List.take_succ_eq_append_getElem h2, List.take_succ_eq_append_getElem h4, hq]
            rw [h5]
          · refine ent_mk (σ := sg []) ?_ ?_ rfl
            · repeat (first | exact trivial | refine ⟨⟨_, rfl, ?_⟩, ?_⟩ | exact ⟨rfl, rfl⟩ | exact ⟨rfl, rfl, rfl, rfl⟩ | exact m_int (by omega) | exact m_int (by simp [encI_len]) | exact rfl)
            · repeat (first | exact trivial | refine ⟨⟨_, rfl, ?_⟩, rfl, ?_⟩ | refine ⟨rfl, .inl ⟨rfl, ?_⟩⟩)
      · simp [encI_len] at h2
        repeat (first | refine aops_nil ?_ | refine ac_seq ?_ | refine ac_region ?_ | refine then_n ?_ | refine ac_exit ?_ | refine ac_ret ?_ | refine aops_eff (eff_assign rfl) rfl rfl rfl ?_)
        refine ret_mk rfl rfl rfl ?_
        refine fz_bl ?_
        have : a = b := by
          rw [← List.take_of_length_le (l := a) (i := k) (by omega), ← List.take_of_length_le (l := b) (i := k) (by omega), hq]
        simp [this]

theorem h_l_reps (a b : List Rp) : HasC Try.prog 76 [.list 6 (a.map eR), .list 6 (b.map eR)] (.bl (decide (a = b))) := by
  refine hasC_mk TT_ok (ns := [0,1,2,3,4,5,6,7]) Try.func76 rfl rfl Try.ntmps76 rfl rfl rfl ?_
  refine ac_len (t := 0) rfl fun hla => ?_
  have hmx : maxLen ≤ 9223372036854775807 := by decide
  simp only [encI_len, List.length_map] at hla
  repeat (first | refine aops_nil ?_ | refine ac_seq ?_ | refine ac_region ?_ | refine then_n ?_ | refine aops_eff (eff_move rfl) rfl rfl rfl ?_ | refine aops_eff (eff_assign rfl) rfl rfl rfl ?_ | refine aops_eff (w_len_list TT_ok rfl rfl rfl) rfl rfl rfl ?_ | refine aops_eff (w_cmp rfl rfl rfl) rfl rfl rfl ?_)
  refine ac_cond rfl (fun h => ?_) (fun h => ?_)
  · simp [encI_len] at h
    repeat (first | refine aops_nil ?_ | refine ac_seq ?_ | refine ac_region ?_ | refine then_n ?_ | refine then_ret ?_ | refine ac_ret ?_ | refine aops_eff (eff_assign rfl) rfl rfl rfl ?_)
    refine ret_mk rfl rfl rfl ?_
    refine fz_bl ?_
    have : a ≠ b := by rintro rfl; exact h rfl
    simp [this]
  · simp [encI_len] at h
    repeat (first | refine aops_nil ?_ | refine ac_seq ?_ | refine ac_region ?_ | refine then_n ?_ | refine ac_block ?_ | refine ac_skip ?_ | refine aops_eff (eff_assign rfl) rfl rfl rfl ?_)
    refine ac_loop (ι := Nat) (fun k => mkS [(0, .list 6 (a.map eR)), (1, .list 6 (b.map eR)), (5, .int k)] [] 0 [0,1,2,3,4,5,6,7]) (fun k => k ≤ a.length ∧ a.take k = b.take k) (fun k => a.length - k) 0 (by simp) ?_ ?_
    · refine ent_mk (σ := sg []) ?_ ?_ rfl
      · repeat (first | exact trivial | refine ⟨⟨_, rfl, ?_⟩, ?_⟩ | exact ⟨rfl, rfl⟩ | exact ⟨rfl, rfl, rfl, rfl⟩ | exact m_int (by omega) | exact m_int (by simp [encI_len]) | exact rfl)
      · repeat (first | exact trivial | refine ⟨⟨_, rfl, ?_⟩, rfl, ?_⟩ | refine ⟨rfl, .inl ⟨rfl, ?_⟩⟩)
    · intro k ⟨hk, hq⟩
      repeat (first | refine aops_nil ?_ | refine ac_seq ?_ | refine ac_region ?_ | refine then_n ?_ | refine aops_eff (eff_move rfl) rfl rfl rfl ?_ | refine aops_eff (w_len_list TT_ok rfl rfl rfl) rfl rfl rfl ?_ | refine aops_eff (w_cmp rfl rfl rfl) rfl rfl rfl ?_)
      refine ac_cond rfl (fun h2 => ?_) (fun h2 => ?_)
      · simp [encI_len] at h2
        have h4 : k < b.length := by omega
        repeat (first | refine ac_seq ?_ | refine ac_region_draw MIX ?_ | refine ac_block ?_ | refine ac_skip ?_ | refine aops_eff (eff_move rfl) rfl rfl rfl ?_ | refine aops_eff (w_load_ref TT_ok rfl rfl rfl rfl rfl rfl) rfl rfl rfl ?_ | refine aops_eff (eff_indexAddr_list TT_ok rfl rfl rfl rfl rfl rfl (map_at (at_lt (by omega)))) rfl rfl rfl ?_)
        refine aops_eff (w_call0s (h_l_rep a[k] b[k]) rfl (va_cons (va_agg rfl) (va_cons (va_agg rfl) va_nil))) rfl rfl rfl ?_
        repeat (first | refine aops_nil ?_ | refine aops_eff (w_not rfl) rfl rfl rfl ?_)
        refine ⟨by kernel_rfl, ?_⟩
        repeat (first | refine then_n ?_)
        refine ac_cond rfl (fun h3 => ?_) (fun h3 => ?_)
        · repeat (first | refine aops_nil ?_ | refine ac_seq ?_ | refine ac_region ?_ | refine then_n ?_ | refine then_ret ?_ | refine block_ret ?_ | refine ac_ret ?_ | refine aops_eff (eff_assign rfl) rfl rfl rfl ?_)
          refine ret_mk rfl rfl rfl ?_
          refine fz_bl ?_
          have : a ≠ b := by rintro rfl; simp at h3
          simp [this]
        · have h5 : a[k] = b[k] := by simpa [h2, h4] using h3
          clear h3
          repeat (first | refine aops_nil ?_ | refine ac_region ?_ | refine then_n ?_ | refine ac_skip ?_ | refine aops_eff (eff_move rfl) rfl rfl rfl ?_ | refine aops_eff (eff_assign rfl) rfl rfl rfl ?_ | refine aops_eff (w_add rfl rfl (by omega)) rfl rfl rfl ?_)
          refine ⟨k + 1, ⟨by omega, ?_⟩, by omega, ?_⟩
          · rw [List.take_succ_eq_append_getElem h2, List.take_succ_eq_append_getElem h4, hq]
            rw [h5]
          · refine ent_mk (σ := sg []) ?_ ?_ rfl
            · repeat (first | exact trivial | refine ⟨⟨_, rfl, ?_⟩, ?_⟩ | exact ⟨rfl, rfl⟩ | exact ⟨rfl, rfl, rfl, rfl⟩ | exact m_int (by omega) | exact m_int (by simp [encI_len]) | exact rfl)
            · repeat (first | exact trivial | refine ⟨⟨_, rfl, ?_⟩, rfl, ?_⟩ | refine ⟨rfl, .inl ⟨rfl, ?_⟩⟩)
      · simp [encI_len] at h2
        repeat (first | refine aops_nil ?_ | refine ac_seq ?_ | refine ac_region ?_ | refine then_n ?_ | refine ac_exit ?_ | refine ac_ret ?_ | refine aops_eff (eff_assign rfl) rfl rfl rfl ?_)
        refine ret_mk rfl rfl rfl ?_
        refine fz_bl ?_
        have : a = b := by
          rw [← List.take_of_length_le (l := a) (i := k) (by omega), ← List.take_of_length_le (l := b) (i := k) (by omega), hq]
        simp [this]
end Go.Proofs.Ytpngpgbmkkjjgaa

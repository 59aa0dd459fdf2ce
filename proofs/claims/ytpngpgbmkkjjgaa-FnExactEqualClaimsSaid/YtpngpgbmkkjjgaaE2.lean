/-
  Contracts: comparisons of rows of rows, spaces, bars.
-/
import Derived.Test.YtpngpgbmkkjjgaaE1
namespace Go.Proofs.Ytpngpgbmkkjjgaa
open Go.RowKit
set_option maxRecDepth 10000
set_option maxHeartbeats 4000000
theorem va_fn0 {h : Hp} {f : FuncId} : viewA h (.fn f []) (.fn f []) := ⟨rfl, rfl⟩

theorem h_l5Same (a b : List (List Int)) : HasC Try.prog 105 [.list 1 (a.map eL), .list 1 (b.map eL)] (.bl (decide (a = b))) := by
  refine hasC_mk TT_ok (ns := [0,1,2,3,4,5,6,7]) Try.func105 rfl rfl Try.ntmps105 rfl rfl rfl ?_
  refine ac_len (t := 0) rfl fun hla => ?_
  have hmx : maxLen ≤ 9223372036854775807 := by decide
  simp only [encI_len, List.length_map] at hla
  repeat (first | refine aops_nil ?_ | refine ac_seq ?_ | refine ac_region ?_ | refine then_n ?_ | refine aops_eff (eff_move rfl) rfl rfl rfl ?_ | refine aops_eff (eff_assign rfl) rfl rfl rfl ?_ | refine aops_eff (w_len_list TT_ok rfl rfl rfl) rfl rfl rfl ?_ | refine aops_eff (w_cmp rfl rfl rfl) rfl rfl rfl ?_)
  refine ac_cond rfl (fun h => ?_) (fun h => ?_)
  · simp [encI_len] at h
    repeat (first | refine aops_nil ?_ | refine ac_seq ?_ | refine ac_region ?_ | refine then_n ?_ | refine then_ret ?_ | refine ac_ret ?_ | refine aops_eff (eff_assign rfl) rfl rfl rfl ?_)
    refine ret_mk rfl rfl rfl ?_
    refine fz_bl ?_
    have : a ≠ b := by rintro rfl; exact h rfl
    simp [this]
  · simp [encI_len] at h
    repeat (first | refine aops_nil ?_ | refine ac_seq ?_ | refine ac_region ?_ | refine then_n ?_ | refine ac_block ?_ | refine ac_skip ?_ | refine aops_eff (eff_assign rfl) rfl rfl rfl ?_)
    refine ac_loop (ι := Nat) (fun k => mkS [(0, .list 1 (a.map eL)), (1, .list 1 (b.map eL)), (5, .int k)] [] 0 [0,1,2,3,4,5,6,7]) (fun k => k ≤ a.length ∧ a.take k = b.take k) (fun k => a.length - k) 0 (by simp) ?_ ?_
    · refine ent_mk (σ := sg []) ?_ ?_ rfl
      · repeat (first | exact trivial | refine ⟨⟨_, rfl, ?_⟩, ?_⟩ | exact ⟨rfl, rfl⟩ | exact ⟨rfl, rfl, rfl, rfl⟩ | exact m_int (by omega) | exact m_int (by simp [encI_len]) | exact rfl)
      · repeat (first | exact trivial | refine ⟨⟨_, rfl, ?_⟩, rfl, ?_⟩ | refine ⟨rfl, .inl ⟨rfl, ?_⟩⟩)
    · intro k ⟨hk, hq⟩
      repeat (first | refine aops_nil ?_ | refine ac_seq ?_ | refine ac_region ?_ | refine then_n ?_ | refine aops_eff (eff_move rfl) rfl rfl rfl ?_ | refine aops_eff (w_len_list TT_ok rfl rfl rfl) rfl rfl rfl ?_ | refine aops_eff (w_cmp rfl rfl rfl) rfl rfl rfl ?_)
      refine ac_cond rfl (fun h2 => ?_) (fun h2 => ?_)
      · simp [encI_len] at h2
        have h4 : k < b.length := by omega
        repeat (first | refine aops_nil ?_ | refine ac_seq ?_ | refine ac_region_draw MIX ?_ | refine ac_block ?_ | refine ac_skip ?_ | refine aops_eff (eff_move rfl) rfl rfl rfl ?_ | refine aops_eff (w_len_list TT_ok rfl rfl rfl) rfl rfl rfl ?_ | refine aops_eff (w_load_ref TT_ok rfl rfl rfl rfl rfl rfl) rfl rfl rfl ?_ | refine aops_eff (w_cmp rfl rfl rfl) rfl rfl rfl ?_ | refine aops_eff (eff_indexAddr_list TT_ok rfl rfl rfl rfl rfl rfl (map_at (at_lt (by omega)))) rfl rfl rfl ?_)
        refine ⟨by kernel_rfl, ?_⟩
        repeat (first | refine then_n ?_)
        refine ac_cond rfl (fun h3 => ?_) (fun h3 => ?_)
        · repeat (first | refine aops_nil ?_ | refine ac_seq ?_ | refine ac_region ?_ | refine then_n ?_ | refine then_ret ?_ | refine block_ret ?_ | refine ac_ret ?_ | refine aops_eff (eff_assign rfl) rfl rfl rfl ?_)
          refine ret_mk rfl rfl rfl ?_
          refine fz_bl ?_
          have : a ≠ b := by rintro rfl; simp at h3
          simp [this]
        · simp [encI_len] at h3
          repeat (first | refine aops_nil ?_ | refine ac_seq ?_ | refine ac_region ?_ | refine then_n ?_ | refine ac_block ?_ | refine ac_skip ?_ | refine aops_eff (eff_assign rfl) rfl rfl rfl ?_)
          refine ac_loop (ι := Nat) (fun j => mkS [(0, .list 1 (a.map eL)), (1, .list 1 (b.map eL)), (5, .int k), (6, .int j)] [] 0 [0,1,2,3,4,5,6,7]) (fun j => j ≤ a[k].length ∧ a[k].take j = b[k].take j) (fun j => a[k].length - j) 0 (by simp) ?_ ?_
          · refine ent_mk (σ := sg []) ?_ ?_ rfl
            · repeat (first | exact trivial | refine ⟨⟨_, rfl, ?_⟩, ?_⟩ | exact ⟨rfl, rfl⟩ | exact ⟨rfl, rfl, rfl, rfl⟩ | exact m_int (by omega) | exact m_int (by simp [encI_len]) | exact rfl)
            · repeat (first | exact trivial | refine ⟨⟨_, rfl, ?_⟩, rfl, ?_⟩ | refine ⟨rfl, .inl ⟨rfl, ?_⟩⟩)
          · intro j ⟨hj, hr⟩
            repeat (first | refine aops_nil ?_ | refine ac_seq ?_ | refine ac_region ?_ | refine then_n ?_ | refine aops_eff (eff_move rfl) rfl rfl rfl ?_ | refine aops_eff (w_len_list TT_ok rfl rfl rfl) rfl rfl rfl ?_ | refine aops_eff (w_load_ref TT_ok rfl rfl rfl rfl rfl rfl) rfl rfl rfl ?_ | refine aops_eff (w_cmp rfl rfl rfl) rfl rfl rfl ?_ | refine aops_eff (eff_indexAddr_list TT_ok rfl rfl rfl rfl rfl rfl (map_at (at_lt (by omega)))) rfl rfl rfl ?_)
            refine ac_cond rfl (fun h5 => ?_) (fun h5 => ?_)
            · simp [encI_len] at h5
              have h6 : j < b[k].length := by omega
              refine ac_len (t := 33) rfl fun hlb => ?_
              simp only [encI_len] at hlb
              repeat (first | refine aops_nil ?_ | refine ac_seq ?_ | refine ac_region_draw MIX ?_ | refine ac_block ?_ | refine ac_skip ?_ | refine aops_eff (eff_move rfl) rfl rfl rfl ?_ | refine aops_eff (w_load_ref TT_ok rfl rfl rfl rfl rfl rfl) rfl rfl rfl ?_ | refine aops_eff (w_cmp rfl rfl rfl) rfl rfl rfl ?_ | refine aops_eff (eff_indexAddr_list TT_ok rfl rfl rfl rfl rfl rfl (encI_at (by omega))) rfl rfl rfl ?_ | refine aops_eff (eff_indexAddr_list TT_ok rfl rfl rfl rfl rfl rfl (map_at (at_lt (by omega)))) rfl rfl rfl ?_)
              refine ⟨by kernel_rfl, ?_⟩
              repeat (first | refine then_n ?_)
              refine ac_cond rfl (fun h7 => ?_) (fun h7 => ?_)
              · repeat (first | refine aops_nil ?_ | refine ac_seq ?_ | refine ac_region ?_ | refine then_n ?_ | refine then_ret ?_ | refine block_ret ?_ | refine ac_ret ?_ | refine aops_eff (eff_assign rfl) rfl rfl rfl ?_)
                refine ret_mk rfl rfl rfl ?_
                refine fz_bl ?_
                have : a ≠ b := by rintro rfl; simp at h7
                simp [this]
              · have h8 : a[k][j] = b[k][j] := by simpa [h5, h6] using h7
                clear h7
                repeat (first | refine aops_nil ?_ | refine ac_region ?_ | refine then_n ?_ | refine ac_skip ?_ | refine aops_eff (eff_move rfl) rfl rfl rfl ?_ | refine aops_eff (eff_assign rfl) rfl rfl rfl ?_ | refine aops_eff (w_add rfl rfl (by omega)) rfl rfl rfl ?_)
                refine ⟨j + 1, ⟨by omega, ?_⟩, by omega, ?_⟩
                · rw [List.take_succ_eq_append_getElem h5, List.take_succ_eq_append_getElem h6, hr]
                  rw [h8]
                · refine ent_mk (σ := sg []) ?_ ?_ rfl
                  · repeat (first | exact trivial | refine ⟨⟨_, rfl, ?_⟩, ?_⟩ | exact ⟨rfl, rfl⟩ | exact ⟨rfl, rfl, rfl, rfl⟩ | exact m_int (by omega) | exact m_int (by simp [encI_len]) | exact rfl)
                  · repeat (first | exact trivial | refine ⟨⟨_, rfl, ?_⟩, rfl, ?_⟩ | refine ⟨rfl, .inl ⟨rfl, ?_⟩⟩)
            · simp [encI_len] at h5
              repeat (first | refine aops_nil ?_ | refine ac_region ?_ | refine then_n ?_ | refine ac_exit ?_ | refine aops_eff (eff_move rfl) rfl rfl rfl ?_ | refine aops_eff (eff_assign rfl) rfl rfl rfl ?_ | refine aops_eff (w_add rfl rfl (by omega)) rfl rfl rfl ?_)
              have h5 : a[k] = b[k] := by
                rw [← List.take_of_length_le (l := a[k]) (i := j) (by omega), ← List.take_of_length_le (l := b[k]) (i := j) (by omega), hr]
              refine ⟨k + 1, ⟨by omega, ?_⟩, by omega, ?_⟩
              · rw [List.take_succ_eq_append_getElem h2, List.take_succ_eq_append_getElem h4, hq]
                rw [h5]
              · refine ent_mk (σ := sg []) ?_ ?_ rfl
                · repeat (first | exact trivial | refine ⟨⟨_, rfl, ?_⟩, ?_⟩ | exact ⟨rfl, rfl⟩ | exact ⟨rfl, rfl, rfl, rfl⟩ | exact m_int (by omega) | exact m_int (by simp [encI_len]) | exact rfl)
                · repeat (first | exact trivial | refine ⟨⟨_, rfl, ?_⟩, rfl, ?_⟩ | refine ⟨rfl, .inl ⟨rfl, ?_⟩⟩)
      · simp [encI_len] at h2
        repeat (first | refine aops_nil ?_ | refine ac_seq ?_ | refine ac_region ?_ | refine then_n ?_ | refine ac_exit ?_ | refine ac_ret ?_ | refine aops_eff (eff_assign rfl) rfl rfl rfl ?_)
        refine ret_mk rfl rfl rfl ?_
        refine fz_bl ?_
        have : a = b := by
          rw [← List.take_of_length_le (l := a) (i := k) (by omega), ← List.take_of_length_le (l := b) (i := k) (by omega), hq]
        simp [this]

theorem h_s_space (a b : Sc) : HasC Try.prog 54 [.agg (eS a), .agg (eS b)] (.bl (decide (a = b))) := by
  refine hasC_mk TT_ok (ns := [0,1,2,3,4,5,6,7]) Try.func54 rfl rfl Try.ntmps54 rfl rfl rfl ?_
  repeat (first | refine aops_nil ?_ | refine ac_seq ?_ | refine ac_region ?_ | refine aops_eff (eff_move rfl) rfl rfl rfl ?_ | refine aops_eff (w_load_ptr TT_ok rfl rfl rfl rfl rfl rfl rfl) rfl rfl rfl ?_ | refine aops_eff (w_field_ptr TT_ok rfl rfl rfl rfl rfl rfl rfl) rfl rfl rfl ?_ | refine aops_eff (eff_assign rfl) rfl rfl rfl ?_ | refine aops_eff (w_cmp rfl rfl rfl) rfl rfl rfl ?_ | refine aops_eff (w_box rfl rfl rfl rfl) rfl rfl rfl ?_)
  cases h0 : decide (a.size = b.size)
  · repeat (first | refine aops_nil ?_ | refine then_n ?_ | refine ac_ret ?_ | refine aops_eff (eff_assign rfl) rfl rfl rfl ?_ | refine aops_skip rfl rfl ?_ | refine aops_eff (eff_pick rfl rfl) rfl rfl rfl ?_)
    refine ret_mk rfl rfl rfl ?_
    refine fz_bl ?_
    cases a; cases b; simp_all [Sc.mk.injEq]
  · repeat (first | refine aops_eff (w_load_ptr TT_ok rfl rfl rfl rfl rfl rfl rfl) rfl rfl rfl ?_ | refine aops_eff (w_field_ptr TT_ok rfl rfl rfl rfl rfl rfl rfl) rfl rfl rfl ?_)
    refine aops_eff (w_call0s (h_l5Same a.basis b.basis) rfl (va_cons (va_same rfl) (va_cons (va_same rfl) va_nil))) rfl rfl rfl ?_
    repeat (first | refine aops_nil ?_ | refine then_n ?_ | refine ac_ret ?_ | refine aops_eff (eff_assign rfl) rfl rfl rfl ?_ | refine aops_eff (eff_pick rfl rfl) rfl rfl rfl ?_)
    refine ret_mk rfl rfl rfl ?_
    refine fz_bl ?_
    cases a; cases b; simp_all [Sc.mk.injEq]

theorem h_i_space1 (a b : List Int) : HasC Try.prog 107 [ints a, ints b] (.bl (decide (a = b))) := by
  refine hasC_mk TT_ok (ns := [0,1,2,3,4,5,6,7]) Try.func107 rfl rfl Try.ntmps107 rfl rfl rfl ?_
  repeat (first | refine aops_nil ?_ | refine ac_seq ?_ | refine ac_region ?_ | refine aops_eff (eff_move rfl) rfl rfl rfl ?_ | refine aops_eff (eff_assign rfl) rfl rfl rfl ?_)
  refine aops_eff (w_call0s (h_slEqual a b) rfl (va_cons (va_same rfl) (va_cons (va_same rfl) va_nil))) rfl rfl rfl ?_
  repeat (first | refine aops_nil ?_ | refine then_n ?_ | refine ac_ret ?_ | refine aops_eff (eff_assign rfl) rfl rfl rfl ?_)
  refine ret_mk rfl rfl rfl ?_
  exact fz_bl rfl

theorem h_i_rowsF (a b : List (List Int)) : HasC Try.prog 106 [.list 1 (a.map eL), .list 1 (b.map eL), .fn 107 []] (.bl (decide (a = b))) := by
  refine hasC_mk TT_ok (ns := [0,1,2,3,4,5,6,7]) Try.func106 rfl rfl Try.ntmps106 rfl rfl rfl ?_
  refine ac_len (t := 0) rfl fun hla => ?_
  have hmx : maxLen ≤ 9223372036854775807 := by decide
  simp only [encI_len, List.length_map] at hla
  repeat (first | refine aops_nil ?_ | refine ac_seq ?_ | refine ac_region ?_ | refine then_n ?_ | refine aops_eff (eff_move rfl) rfl rfl rfl ?_ | refine aops_eff (eff_assign rfl) rfl rfl rfl ?_ | refine aops_eff (w_len_list TT_ok rfl rfl rfl) rfl rfl rfl ?_ | refine aops_eff (w_cmp rfl rfl rfl) rfl rfl rfl ?_)
  refine ac_cond rfl (fun h => ?_) (fun h => ?_)
  · simp [encI_len] at h
    repeat (first | refine aops_nil ?_ | refine ac_seq ?_ | refine ac_region ?_ | refine then_n ?_ | refine then_ret ?_ | refine ac_ret ?_ | refine aops_eff (eff_assign rfl) rfl rfl rfl ?_)
    refine ret_mk rfl rfl rfl ?_
    refine fz_bl ?_
    have : a ≠ b := by rintro rfl; exact h rfl
    simp [this]
  · simp [encI_len] at h
    repeat (first | refine aops_nil ?_ | refine ac_seq ?_ | refine ac_region ?_ | refine then_n ?_ | refine ac_block ?_ | refine ac_skip ?_ | refine aops_eff (eff_move rfl) rfl rfl rfl ?_ | refine aops_eff (w_len_list TT_ok rfl rfl rfl) rfl rfl rfl ?_)
    refine ac_loop (ι := Nat) (fun k => mkS [(0, .list 1 (a.map eL)), (1, .list 1 (b.map eL)), (2, .fn 107 []), (15, .list 1 (a.map eL)), (16, .int a.length), (17, .int k)] [] 0 [0,1,2,3,4,5,6,7]) (fun k => k ≤ a.length ∧ a.take k = b.take k) (fun k => a.length - k) 0 (by simp) ?_ ?_
    · refine ent_mk (σ := sg []) ?_ ?_ rfl
      · repeat (first | exact trivial | refine ⟨⟨_, rfl, ?_⟩, ?_⟩ | exact ⟨rfl, rfl⟩ | exact ⟨rfl, rfl, rfl, rfl⟩ | exact m_int (by omega) | exact m_int (by simp [encI_len]) | exact rfl)
      · repeat (first | exact trivial | refine ⟨⟨_, rfl, ?_⟩, rfl, ?_⟩ | refine ⟨rfl, .inl ⟨rfl, ?_⟩⟩)
    · intro k ⟨hk, hq⟩
      repeat (first | refine aops_nil ?_ | refine ac_seq ?_ | refine ac_region ?_ | refine aops_eff (w_cmp rfl rfl rfl) rfl rfl rfl ?_)
      refine ac_cond rfl (fun h2 => ?_) (fun h2 => ?_)
      · simp [encI_len] at h2
        have h4 : k < b.length := by omega
        repeat (first | refine aops_nil ?_ | refine ac_seq ?_ | refine ac_region ?_ | refine ac_block ?_ | refine ac_skip ?_ | refine aops_eff (eff_move rfl) rfl rfl rfl ?_ | refine aops_eff (eff_assign rfl) rfl rfl rfl ?_ | refine aops_eff (w_load_ref TT_ok rfl rfl rfl rfl rfl rfl) rfl rfl rfl ?_ | refine aops_eff (eff_indexAddr_list TT_ok rfl rfl rfl rfl rfl rfl (map_at (at_lt (by omega)))) rfl rfl rfl ?_)
        refine aops_eff (w_call (ds1 := [_, _]) (ds2 := []) (h_i_space1 a[k] b[k]) rfl rfl rfl rfl rfl rfl trivial (va_cons (va_same rfl) (va_cons (va_same rfl) va_nil)) rfl) rfl rfl rfl ?_
        repeat (first | refine aops_nil ?_ | refine then_n ?_ | refine aops_eff (w_not rfl) rfl rfl rfl ?_)
        refine ac_cond rfl (fun h3 => ?_) (fun h3 => ?_)
        · repeat (first | refine aops_nil ?_ | refine ac_seq ?_ | refine ac_region ?_ | refine then_n ?_ | refine then_ret ?_ | refine block_ret ?_ | refine ac_ret ?_ | refine aops_eff (eff_assign rfl) rfl rfl rfl ?_)
          refine ret_mk rfl rfl rfl ?_
          refine fz_bl ?_
          have : a ≠ b := by rintro rfl; simp at h3
          simp [this]
        · have h5 : a[k] = b[k] := by simpa [h2, h4] using h3
          clear h3
          repeat (first | refine aops_nil ?_ | refine ac_region ?_ | refine then_n ?_ | refine ac_skip ?_ | refine aops_eff (eff_move rfl) rfl rfl rfl ?_ | refine aops_eff (w_add rfl rfl (by omega)) rfl rfl rfl ?_)
          refine ⟨k + 1, ⟨by omega, ?_⟩, by omega, ?_⟩
          · rw [List.take_succ_eq_append_getElem h2, List.take_succ_eq_append_getElem h4, hq]
            rw [h5]
          · refine ent_mk (σ := sg []) ?_ ?_ rfl
            · repeat (first | exact trivial | refine ⟨⟨_, rfl, ?_⟩, ?_⟩ | exact ⟨rfl, rfl⟩ | exact ⟨rfl, rfl, rfl, rfl⟩ | exact m_int (by omega) | exact m_int (by simp [encI_len]) | exact rfl)
            · repeat (first | exact trivial | refine ⟨⟨_, rfl, ?_⟩, rfl, ?_⟩ | refine ⟨rfl, .inl ⟨rfl, ?_⟩⟩)
      · simp [encI_len] at h2
        repeat (first | refine aops_nil ?_ | refine ac_seq ?_ | refine ac_region ?_ | refine then_n ?_ | refine ac_exit ?_ | refine ac_ret ?_ | refine aops_eff (eff_assign rfl) rfl rfl rfl ?_)
        refine ret_mk rfl rfl rfl ?_
        refine fz_bl ?_
        have : a = b := by
          rw [← List.take_of_length_le (l := a) (i := k) (by omega), ← List.take_of_length_le (l := b) (i := k) (by omega), hq]
        simp [this]

theorem h_i_space (a b : Sc) : HasC Try.prog 55 [.agg (eS a), .agg (eS b)] (.bl (decide (a = b))) := by
  refine hasC_mk TT_ok (ns := [0,1,2,3,4,5,6,7]) Try.func55 rfl rfl Try.ntmps55 rfl rfl rfl ?_
  repeat (first | refine aops_nil ?_ | refine ac_seq ?_ | refine ac_region ?_ | refine aops_eff (eff_move rfl) rfl rfl rfl ?_ | refine aops_eff (w_load_ptr TT_ok rfl rfl rfl rfl rfl rfl rfl) rfl rfl rfl ?_ | refine aops_eff (w_field_ptr TT_ok rfl rfl rfl rfl rfl rfl rfl) rfl rfl rfl ?_ | refine aops_eff (eff_assign rfl) rfl rfl rfl ?_ | refine aops_eff (w_cmp rfl rfl rfl) rfl rfl rfl ?_ | refine aops_eff (w_box rfl rfl rfl rfl) rfl rfl rfl ?_)
  cases h0 : decide (a.size = b.size)
  · repeat (first | refine aops_nil ?_ | refine then_n ?_ | refine ac_ret ?_ | refine aops_eff (eff_assign rfl) rfl rfl rfl ?_ | refine aops_skip rfl rfl ?_ | refine aops_eff (eff_pick rfl rfl) rfl rfl rfl ?_)
    refine ret_mk rfl rfl rfl ?_
    refine fz_bl ?_
    cases a; cases b; simp_all [Sc.mk.injEq]
  · repeat (first | refine aops_eff (w_load_ptr TT_ok rfl rfl rfl rfl rfl rfl rfl) rfl rfl rfl ?_ | refine aops_eff (w_field_ptr TT_ok rfl rfl rfl rfl rfl rfl rfl) rfl rfl rfl ?_)
    refine aops_eff (w_call0s (h_i_rowsF a.basis b.basis) rfl (va_cons (va_same rfl) (va_cons (va_same rfl) (va_cons va_fn0 va_nil)))) rfl rfl rfl ?_
    repeat (first | refine aops_nil ?_ | refine then_n ?_ | refine ac_ret ?_ | refine aops_eff (eff_assign rfl) rfl rfl rfl ?_ | refine aops_eff (eff_pick rfl rfl) rfl rfl rfl ?_)
    refine ret_mk rfl rfl rfl ?_
    refine fz_bl ?_
    cases a; cases b; simp_all [Sc.mk.injEq]

theorem h_l_rows (a b : List (List Int)) : HasC Try.prog 53 [.list 1 (a.map eL), .list 1 (b.map eL)] (.bl (decide (a = b))) := by
  refine hasC_mk TT_ok (ns := [0,1,2,3,4,5,6,7]) Try.func53 rfl rfl Try.ntmps53 rfl rfl rfl ?_
  refine ac_len (t := 0) rfl fun hla => ?_
  have hmx : maxLen ≤ 9223372036854775807 := by decide
  simp only [encI_len, List.length_map] at hla
  repeat (first | refine aops_nil ?_ | refine ac_seq ?_ | refine ac_region ?_ | refine then_n ?_ | refine aops_eff (eff_move rfl) rfl rfl rfl ?_ | refine aops_eff (eff_assign rfl) rfl rfl rfl ?_ | refine aops_eff (w_len_list TT_ok rfl rfl rfl) rfl rfl rfl ?_ | refine aops_eff (w_cmp rfl rfl rfl) rfl rfl rfl ?_)
  refine ac_cond rfl (fun h => ?_) (fun h => ?_)
  · simp [encI_len] at h
    repeat (first | refine aops_nil ?_ | refine ac_seq ?_ | refine ac_region ?_ | refine then_n ?_ | refine then_ret ?_ | refine ac_ret ?_ | refine aops_eff (eff_assign rfl) rfl rfl rfl ?_)
    refine ret_mk rfl rfl rfl ?_
    refine fz_bl ?_
    have : a ≠ b := by rintro rfl; exact h rfl
    simp [this]
  · simp [encI_len] at h
    repeat (first | refine aops_nil ?_ | refine ac_seq ?_ | refine ac_region ?_ | refine then_n ?_ | refine ac_block ?_ | refine ac_skip ?_ | refine aops_eff (eff_assign rfl) rfl rfl rfl ?_)
    refine ac_loop (ι := Nat) (fun k => mkS [(0, .list 1 (a.map eL)), (1, .list 1 (b.map eL)), (5, .int k)] [] 0 [0,1,2,3,4,5,6,7]) (fun k => k ≤ a.length ∧ a.take k = b.take k) (fun k => a.length - k) 0 (by simp) ?_ ?_
    · refine ent_mk (σ := sg []) ?_ ?_ rfl
      · repeat (first | exact trivial | refine ⟨⟨_, rfl, ?_⟩, ?_⟩ | exact ⟨rfl, rfl⟩ | exact ⟨rfl, rfl, rfl, rfl⟩ | exact m_int (by omega) | exact m_int (by simp [encI_len]) | exact rfl)
      · repeat (first | exact trivial | refine ⟨⟨_, rfl, ?_⟩, rfl, ?_⟩ | refine ⟨rfl, .inl ⟨rfl, ?_⟩⟩)
    · intro k ⟨hk, hq⟩
      repeat (first | refine aops_nil ?_ | refine ac_seq ?_ | refine ac_region ?_ | refine then_n ?_ | refine aops_eff (eff_move rfl) rfl rfl rfl ?_ | refine aops_eff (w_len_list TT_ok rfl rfl rfl) rfl rfl rfl ?_ | refine aops_eff (w_cmp rfl rfl rfl) rfl rfl rfl ?_)
      refine ac_cond rfl (fun h2 => ?_) (fun h2 => ?_)
      · simp [encI_len] at h2
        have h4 : k < b.length := by omega
        repeat (first | refine ac_seq ?_ | refine ac_region_draw MIX ?_ | refine ac_block ?_ | refine ac_skip ?_ | refine aops_eff (eff_move rfl) rfl rfl rfl ?_ | refine aops_eff (w_load_ref TT_ok rfl rfl rfl rfl rfl rfl) rfl rfl rfl ?_ | refine aops_eff (eff_indexAddr_list TT_ok rfl rfl rfl rfl rfl rfl (map_at (at_lt (by omega)))) rfl rfl rfl ?_)
        refine aops_eff (w_call0s (h_eqIntS a[k] b[k]) rfl (va_cons (va_same rfl) (va_cons (va_same rfl) va_nil))) rfl rfl rfl ?_
        repeat (first | refine aops_nil ?_ | refine aops_eff (w_not rfl) rfl rfl rfl ?_)
        refine ⟨by kernel_rfl, ?_⟩
        repeat (first | refine then_n ?_)
        refine ac_cond rfl (fun h3 => ?_) (fun h3 => ?_)
        · repeat (first | refine aops_nil ?_ | refine ac_seq ?_ | refine ac_region ?_ | refine then_n ?_ | refine then_ret ?_ | refine block_ret ?_ | refine ac_ret ?_ | refine aops_eff (eff_assign rfl) rfl rfl rfl ?_)
          refine ret_mk rfl rfl rfl ?_
          refine fz_bl ?_
          have : a ≠ b := by rintro rfl; simp at h3
          simp [this]
        · have h5 : a[k] = b[k] := by simpa [h2, h4] using h3
          clear h3
          repeat (first | refine aops_nil ?_ | refine ac_region ?_ | refine then_n ?_ | refine ac_skip ?_ | refine aops_eff (eff_move rfl) rfl rfl rfl ?_ | refine aops_eff (eff_assign rfl) rfl rfl rfl ?_ | refine aops_eff (w_add rfl rfl (by omega)) rfl rfl rfl ?_)
          refine ⟨k + 1, ⟨by omega, ?_⟩, by omega, ?_⟩
          · rw [List.take_succ_eq_append_getElem h2, List.take_succ_eq_append_getElem h4, hq]
            rw [h5]
          · refine ent_mk (σ := sg []) ?_ ?_ rfl
            · repeat (first | exact trivial | refine ⟨⟨_, rfl, ?_⟩, ?_⟩ | exact ⟨rfl, rfl⟩ | exact ⟨rfl, rfl, rfl, rfl⟩ | exact m_int (by omega) | exact m_int (by simp [encI_len]) | exact rfl)
            · repeat (first | exact trivial | refine ⟨⟨_, rfl, ?_⟩, rfl, ?_⟩ | refine ⟨rfl, .inl ⟨rfl, ?_⟩⟩)
      · simp [encI_len] at h2
        repeat (first | refine aops_nil ?_ | refine ac_seq ?_ | refine ac_region ?_ | refine then_n ?_ | refine ac_exit ?_ | refine ac_ret ?_ | refine aops_eff (eff_assign rfl) rfl rfl rfl ?_)
        refine ret_mk rfl rfl rfl ?_
        refine fz_bl ?_
        have : a = b := by
          rw [← List.take_of_length_le (l := a) (i := k) (by omega), ← List.take_of_length_le (l := b) (i := k) (by omega), hq]
        simp [this]

theorem h_l_space (a b : Sc) : HasC Try.prog 20 [.agg (eS a), .agg (eS b)] (.bl (decide (a = b))) := by
  refine hasC_mk TT_ok (ns := [0,1,2,3,4,5,6,7]) Try.func20 rfl rfl Try.ntmps20 rfl rfl rfl ?_
  repeat (first | refine aops_nil ?_ | refine ac_seq ?_ | refine ac_region ?_ | refine then_n ?_ | refine aops_eff (w_load_ptr TT_ok rfl rfl rfl rfl rfl rfl rfl) rfl rfl rfl ?_ | refine aops_eff (w_field_ptr TT_ok rfl rfl rfl rfl rfl rfl rfl) rfl rfl rfl ?_ | refine aops_eff (eff_assign rfl) rfl rfl rfl ?_ | refine aops_eff (w_cmp rfl rfl rfl) rfl rfl rfl ?_ | refine aops_eff (w_box rfl rfl rfl rfl) rfl rfl rfl ?_)
  refine ac_cond rfl (fun h0 => ?_) (fun h0 => ?_)
  · simp at h0
    repeat (first | refine aops_nil ?_ | refine ac_seq ?_ | refine ac_region ?_ | refine then_n ?_ | refine then_ret ?_ | refine ac_ret ?_ | refine aops_eff (eff_assign rfl) rfl rfl rfl ?_)
    refine ret_mk rfl rfl rfl ?_
    refine fz_bl ?_
    cases a; cases b; simp_all [Sc.mk.injEq]
  · simp at h0
    repeat (first | refine ac_seq ?_ | refine ac_region ?_ | refine ac_skip ?_ | refine aops_eff (w_load_ptr TT_ok rfl rfl rfl rfl rfl rfl rfl) rfl rfl rfl ?_ | refine aops_eff (w_field_ptr TT_ok rfl rfl rfl rfl rfl rfl rfl) rfl rfl rfl ?_)
    refine aops_eff (w_call0s (h_l_rows a.basis b.basis) rfl (va_cons (va_same rfl) (va_cons (va_same rfl) va_nil))) rfl rfl rfl ?_
    repeat (first | refine aops_nil ?_ | refine then_n ?_ | refine aops_eff (w_not rfl) rfl rfl rfl ?_)
    refine ac_cond rfl (fun h1 => ?_) (fun h1 => ?_)
    · simp at h1
      repeat (first | refine aops_nil ?_ | refine ac_seq ?_ | refine ac_region ?_ | refine then_n ?_ | refine then_ret ?_ | refine ac_ret ?_ | refine aops_eff (eff_assign rfl) rfl rfl rfl ?_)
      refine ret_mk rfl rfl rfl ?_
      refine fz_bl ?_
      cases a; cases b; simp_all [Sc.mk.injEq]
    · simp at h1
      repeat (first | refine aops_nil ?_ | refine ac_seq ?_ | refine ac_region ?_ | refine then_n ?_ | refine ac_skip ?_ | refine ac_ret ?_ | refine aops_eff (eff_assign rfl) rfl rfl rfl ?_)
      skip
      refine ret_mk rfl rfl rfl ?_
      refine fz_bl ?_
      cases a; cases b; simp_all [Sc.mk.injEq]

theorem h_l_spaces (a b : List Sc) : HasC Try.prog 79 [.list 2 (a.map eS), .list 2 (b.map eS)] (.bl (decide (a = b))) := by
  refine hasC_mk TT_ok (ns := [0,1,2,3,4,5,6,7]) Try.func79 rfl rfl Try.ntmps79 rfl rfl rfl ?_
  refine ac_len (t := 0) rfl fun hla => ?_
  have hmx : maxLen ≤ 9223372036854775807 := by decide
  simp only [encI_len, List.length_map] at hla
  repeat (first | refine aops_nil ?_ | refine ac_seq ?_ | refine ac_region ?_ | refine then_n ?_ | refine aops_eff (eff_move rfl) rfl rfl rfl ?_ | refine aops_eff (eff_assign rfl) rfl rfl rfl ?_ | refine aops_eff (w_len_list TT_ok rfl rfl rfl) rfl rfl rfl ?_ | refine aops_eff (w_cmp rfl rfl rfl) rfl rfl rfl ?_)
  refine ac_cond rfl (fun h => ?_) (fun h => ?_)
  · simp [encI_len] at h
    repeat (first | refine aops_nil ?_ | refine ac_seq ?_ | refine ac_region ?_ | refine then_n ?_ | refine then_ret ?_ | refine ac_ret ?_ | refine aops_eff (eff_assign rfl) rfl rfl rfl ?_)
    refine ret_mk rfl rfl rfl ?_
    refine fz_bl ?_
    have : a ≠ b := by rintro rfl; exact h rfl
    simp [this]
  · simp [encI_len] at h
    repeat (first | refine aops_nil ?_ | refine ac_seq ?_ | refine ac_region ?_ | refine then_n ?_ | refine ac_block ?_ | refine ac_skip ?_ | refine aops_eff (eff_assign rfl) rfl rfl rfl ?_)
    refine ac_loop (ι := Nat) (fun k => mkS [(0, .list 2 (a.map eS)), (1, .list 2 (b.map eS)), (5, .int k)] [] 0 [0,1,2,3,4,5,6,7]) (fun k => k ≤ a.length ∧ a.take k = b.take k) (fun k => a.length - k) 0 (by simp) ?_ ?_
    · refine ent_mk (σ := sg []) ?_ ?_ rfl
      · repeat (first | exact trivial | refine ⟨⟨_, rfl, ?_⟩, ?_⟩ | exact ⟨rfl, rfl⟩ | exact ⟨rfl, rfl, rfl, rfl⟩ | exact m_int (by omega) | exact m_int (by simp [encI_len]) | exact rfl)
      · repeat (first | exact trivial | refine ⟨⟨_, rfl, ?_⟩, rfl, ?_⟩ | refine ⟨rfl, .inl ⟨rfl, ?_⟩⟩)
    · intro k ⟨hk, hq⟩
      repeat (first | refine aops_nil ?_ | refine ac_seq ?_ | refine ac_region ?_ | refine then_n ?_ | refine aops_eff (eff_move rfl) rfl rfl rfl ?_ | refine aops_eff (w_len_list TT_ok rfl rfl rfl) rfl rfl rfl ?_ | refine aops_eff (w_cmp rfl rfl rfl) rfl rfl rfl ?_)
      refine ac_cond rfl (fun h2 => ?_) (fun h2 => ?_)
      · simp [encI_len] at h2
        have h4 : k < b.length := by omega
        repeat (first | refine ac_seq ?_ | refine ac_region_draw MIX ?_ | refine ac_block ?_ | refine ac_skip ?_ | refine aops_eff (eff_move rfl) rfl rfl rfl ?_ | refine aops_eff (w_load_ref TT_ok rfl rfl rfl rfl rfl rfl) rfl rfl rfl ?_ | refine aops_eff (eff_indexAddr_list TT_ok rfl rfl rfl rfl rfl rfl (map_at (at_lt (by omega)))) rfl rfl rfl ?_)
        refine aops_eff (w_call0s (h_l_space a[k] b[k]) rfl (va_cons (va_agg rfl) (va_cons (va_agg rfl) va_nil))) rfl rfl rfl ?_
        repeat (first | refine aops_nil ?_ | refine aops_eff (w_not rfl) rfl rfl rfl ?_)
        refine ⟨by kernel_rfl, ?_⟩
        repeat (first | refine then_n ?_)
        refine ac_cond rfl (fun h3 => ?_) (fun h3 => ?_)
        · repeat (first | refine aops_nil ?_ | refine ac_seq ?_ | refine ac_region ?_ | refine then_n ?_ | refine then_ret ?_ | refine block_ret ?_ | refine ac_ret ?_ | refine aops_eff (eff_assign rfl) rfl rfl rfl ?_)
          refine ret_mk rfl rfl rfl ?_
          refine fz_bl ?_
          have : a ≠ b := by rintro rfl; simp at h3
          simp [this]
        · have h5 : a[k] = b[k] := by simpa [h2, h4] using h3
          clear h3
          repeat (first | refine aops_nil ?_ | refine ac_region ?_ | refine then_n ?_ | refine ac_skip ?_ | refine aops_eff (eff_move rfl) rfl rfl rfl ?_ | refine aops_eff (eff_assign rfl) rfl rfl rfl ?_ | refine aops_eff (w_add rfl rfl (by omega)) rfl rfl rfl ?_)
          refine ⟨k + 1, ⟨by omega, ?_⟩, by omega, ?_⟩
          · rw [List.take_succ_eq_append_getElem h2, List.take_succ_eq_append_getElem h4, hq]
            rw [h5]
          · refine ent_mk (σ := sg []) ?_ ?_ rfl
            · repeat (first | exact trivial | refine ⟨⟨_, rfl, ?_⟩, ?_⟩ | exact ⟨rfl, rfl⟩ | exact ⟨rfl, rfl, rfl, rfl⟩ | exact m_int (by omega) | exact m_int (by simp [encI_len]) | exact rfl)
            · repeat (first | exact trivial | refine ⟨⟨_, rfl, ?_⟩, rfl, ?_⟩ | refine ⟨rfl, .inl ⟨rfl, ?_⟩⟩)
      · simp [encI_len] at h2
        repeat (first | refine aops_nil ?_ | refine ac_seq ?_ | refine ac_region ?_ | refine then_n ?_ | refine ac_exit ?_ | refine ac_ret ?_ | refine aops_eff (eff_assign rfl) rfl rfl rfl ?_)
        refine ret_mk rfl rfl rfl ?_
        refine fz_bl ?_
        have : a = b := by
          rw [← List.take_of_length_le (l := a) (i := k) (by omega), ← List.take_of_length_le (l := b) (i := k) (by omega), hq]
        simp [this]

theorem h_s_subs (a b : List Sc) : HasC Try.prog 65 [.list 2 (a.map eS), .list 2 (b.map eS)] (.bl (decide (a = b))) := by
  refine hasC_mk TT_ok (ns := [0,1,2,3,4,5,6,7]) Try.func65 rfl rfl Try.ntmps65 rfl rfl rfl ?_
  refine ac_len (t := 0) rfl fun hla => ?_
  have hmx : maxLen ≤ 9223372036854775807 := by decide
  simp only [encI_len, List.length_map] at hla
  repeat (first | refine aops_nil ?_ | refine ac_seq ?_ | refine ac_region ?_ | refine then_n ?_ | refine aops_eff (eff_move rfl) rfl rfl rfl ?_ | refine aops_eff (eff_assign rfl) rfl rfl rfl ?_ | refine aops_eff (w_len_list TT_ok rfl rfl rfl) rfl rfl rfl ?_ | refine aops_eff (w_cmp rfl rfl rfl) rfl rfl rfl ?_)
  refine ac_cond rfl (fun h => ?_) (fun h => ?_)
  · simp [encI_len] at h
    repeat (first | refine aops_nil ?_ | refine ac_seq ?_ | refine ac_region ?_ | refine then_n ?_ | refine then_ret ?_ | refine ac_ret ?_ | refine aops_eff (eff_assign rfl) rfl rfl rfl ?_)
    refine ret_mk rfl rfl rfl ?_
    refine fz_bl ?_
    have : a ≠ b := by rintro rfl; exact h rfl
    simp [this]
  · simp [encI_len] at h
    repeat (first | refine aops_nil ?_ | refine ac_seq ?_ | refine ac_region ?_ | refine then_n ?_ | refine ac_block ?_ | refine ac_skip ?_ | refine aops_eff (eff_assign rfl) rfl rfl rfl ?_)
    refine ac_loop (ι := Nat) (fun k => mkS [(0, .list 2 (a.map eS)), (1, .list 2 (b.map eS)), (5, .int k)] [] 0 [0,1,2,3,4,5,6,7]) (fun k => k ≤ a.length ∧ a.take k = b.take k) (fun k => a.length - k) 0 (by simp) ?_ ?_
    · refine ent_mk (σ := sg []) ?_ ?_ rfl
      · repeat (first | exact trivial | refine ⟨⟨_, rfl, ?_⟩, ?_⟩ | exact ⟨rfl, rfl⟩ | exact ⟨rfl, rfl, rfl, rfl⟩ | exact m_int (by omega) | exact m_int (by simp [encI_len]) | exact rfl)
      · repeat (first | exact trivial | refine ⟨⟨_, rfl, ?_⟩, rfl, ?_⟩ | refine ⟨rfl, .inl ⟨rfl, ?_⟩⟩)
    · intro k ⟨hk, hq⟩
      repeat (first | refine aops_nil ?_ | refine ac_seq ?_ | refine ac_region ?_ | refine then_n ?_ | refine aops_eff (eff_move rfl) rfl rfl rfl ?_ | refine aops_eff (w_len_list TT_ok rfl rfl rfl) rfl rfl rfl ?_ | refine aops_eff (w_cmp rfl rfl rfl) rfl rfl rfl ?_)
      refine ac_cond rfl (fun h2 => ?_) (fun h2 => ?_)
      · simp [encI_len] at h2
        have h4 : k < b.length := by omega
        repeat (first | refine ac_seq ?_ | refine ac_region_draw MIX ?_ | refine ac_block ?_ | refine ac_skip ?_ | refine aops_eff (eff_move rfl) rfl rfl rfl ?_ | refine aops_eff (w_load_ref TT_ok rfl rfl rfl rfl rfl rfl) rfl rfl rfl ?_ | refine aops_eff (eff_indexAddr_list TT_ok rfl rfl rfl rfl rfl rfl (map_at (at_lt (by omega)))) rfl rfl rfl ?_)
        refine aops_eff (w_call0s (h_s_space a[k] b[k]) rfl (va_cons (va_agg rfl) (va_cons (va_agg rfl) va_nil))) rfl rfl rfl ?_
        repeat (first | refine aops_nil ?_ | refine aops_eff (w_not rfl) rfl rfl rfl ?_)
        refine ⟨by kernel_rfl, ?_⟩
        repeat (first | refine then_n ?_)
        refine ac_cond rfl (fun h3 => ?_) (fun h3 => ?_)
        · repeat (first | refine aops_nil ?_ | refine ac_seq ?_ | refine ac_region ?_ | refine then_n ?_ | refine then_ret ?_ | refine block_ret ?_ | refine ac_ret ?_ | refine aops_eff (eff_assign rfl) rfl rfl rfl ?_)
          refine ret_mk rfl rfl rfl ?_
          refine fz_bl ?_
          have : a ≠ b := by rintro rfl; simp at h3
          simp [this]
        · have h5 : a[k] = b[k] := by simpa [h2, h4] using h3
          clear h3
          repeat (first | refine aops_nil ?_ | refine ac_region ?_ | refine then_n ?_ | refine ac_skip ?_ | refine aops_eff (eff_move rfl) rfl rfl rfl ?_ | refine aops_eff (eff_assign rfl) rfl rfl rfl ?_ | refine aops_eff (w_add rfl rfl (by omega)) rfl rfl rfl ?_)
          refine ⟨k + 1, ⟨by omega, ?_⟩, by omega, ?_⟩
          · rw [List.take_succ_eq_append_getElem h2, List.take_succ_eq_append_getElem h4, hq]
            rw [h5]
          · refine ent_mk (σ := sg []) ?_ ?_ rfl
            · repeat (first | exact trivial | refine ⟨⟨_, rfl, ?_⟩, ?_⟩ | exact ⟨rfl, rfl⟩ | exact ⟨rfl, rfl, rfl, rfl⟩ | exact m_int (by omega) | exact m_int (by simp [encI_len]) | exact rfl)
            · repeat (first | exact trivial | refine ⟨⟨_, rfl, ?_⟩, rfl, ?_⟩ | refine ⟨rfl, .inl ⟨rfl, ?_⟩⟩)
      · simp [encI_len] at h2
        repeat (first | refine aops_nil ?_ | refine ac_seq ?_ | refine ac_region ?_ | refine then_n ?_ | refine ac_exit ?_ | refine ac_ret ?_ | refine aops_eff (eff_assign rfl) rfl rfl rfl ?_)
        refine ret_mk rfl rfl rfl ?_
        refine fz_bl ?_
        have : a = b := by
          rw [← List.take_of_length_le (l := a) (i := k) (by omega), ← List.take_of_length_le (l := b) (i := k) (by omega), hq]
        simp [this]

theorem h_i_spacesF (a b : List Sc) : HasC Try.prog 117 [.list 2 (a.map eS), .list 2 (b.map eS), .fn 55 []] (.bl (decide (a = b))) := by
  refine hasC_mk TT_ok (ns := [0,1,2,3,4,5,6,7]) Try.func117 rfl rfl Try.ntmps117 rfl rfl rfl ?_
  refine ac_len (t := 0) rfl fun hla => ?_
  have hmx : maxLen ≤ 9223372036854775807 := by decide
  simp only [encI_len, List.length_map] at hla
  repeat (first | refine aops_nil ?_ | refine ac_seq ?_ | refine ac_region ?_ | refine then_n ?_ | refine aops_eff (eff_move rfl) rfl rfl rfl ?_ | refine aops_eff (eff_assign rfl) rfl rfl rfl ?_ | refine aops_eff (w_len_list TT_ok rfl rfl rfl) rfl rfl rfl ?_ | refine aops_eff (w_cmp rfl rfl rfl) rfl rfl rfl ?_)
  refine ac_cond rfl (fun h => ?_) (fun h => ?_)
  · simp [encI_len] at h
    repeat (first | refine aops_nil ?_ | refine ac_seq ?_ | refine ac_region ?_ | refine then_n ?_ | refine then_ret ?_ | refine ac_ret ?_ | refine aops_eff (eff_assign rfl) rfl rfl rfl ?_)
    refine ret_mk rfl rfl rfl ?_
    refine fz_bl ?_
    have : a ≠ b := by rintro rfl; exact h rfl
    simp [this]
  · simp [encI_len] at h
    repeat (first | refine aops_nil ?_ | refine ac_seq ?_ | refine ac_region ?_ | refine then_n ?_ | refine ac_block ?_ | refine ac_skip ?_ | refine aops_eff (eff_move rfl) rfl rfl rfl ?_ | refine aops_eff (w_len_list TT_ok rfl rfl rfl) rfl rfl rfl ?_)
    refine ac_loop (ι := Nat) (fun k => mkS [(0, .list 2 (a.map eS)), (1, .list 2 (b.map eS)), (2, .fn 55 []), (15, .list 2 (a.map eS)), (16, .int a.length), (17, .int k)] [] 0 [0,1,2,3,4,5,6,7]) (fun k => k ≤ a.length ∧ a.take k = b.take k) (fun k => a.length - k) 0 (by simp) ?_ ?_
    · refine ent_mk (σ := sg []) ?_ ?_ rfl
      · repeat (first | exact trivial | refine ⟨⟨_, rfl, ?_⟩, ?_⟩ | exact ⟨rfl, rfl⟩ | exact ⟨rfl, rfl, rfl, rfl⟩ | exact m_int (by omega) | exact m_int (by simp [encI_len]) | exact rfl)
      · repeat (first | exact trivial | refine ⟨⟨_, rfl, ?_⟩, rfl, ?_⟩ | refine ⟨rfl, .inl ⟨rfl, ?_⟩⟩)
    · intro k ⟨hk, hq⟩
      repeat (first | refine aops_nil ?_ | refine ac_seq ?_ | refine ac_region ?_ | refine aops_eff (w_cmp rfl rfl rfl) rfl rfl rfl ?_)
      refine ac_cond rfl (fun h2 => ?_) (fun h2 => ?_)
      · simp [encI_len] at h2
        have h4 : k < b.length := by omega
        repeat (first | refine aops_nil ?_ | refine ac_seq ?_ | refine ac_region ?_ | refine ac_block ?_ | refine ac_skip ?_ | refine aops_eff (eff_move rfl) rfl rfl rfl ?_ | refine aops_eff (w_load_ptr TT_ok rfl rfl rfl rfl rfl rfl rfl) rfl rfl rfl ?_ | refine aops_eff (eff_assign rfl) rfl rfl rfl ?_ | refine aops_eff (w_load_ref TT_ok rfl rfl rfl rfl rfl rfl) rfl rfl rfl ?_ | refine aops_eff (eff_indexAddr_list TT_ok rfl rfl rfl rfl rfl rfl (map_at (at_lt (by omega)))) rfl rfl rfl ?_ | refine aops_eff (w_alloc TT_ok rfl rfl) rfl rfl rfl ?_ | refine aops_eff (w_store TT_ok rfl rfl rfl rfl rfl rfl rfl rfl) rfl rfl rfl ?_)
        refine aops_eff (w_call (ds1 := [_, _]) (ds2 := []) (h_i_space a[k] b[k]) rfl rfl rfl rfl rfl rfl trivial (va_cons (va_agg rfl) (va_cons (va_agg rfl) va_nil)) rfl) rfl rfl rfl ?_
        repeat (first | refine aops_nil ?_ | refine then_n ?_ | refine aops_eff (w_not rfl) rfl rfl rfl ?_)
        refine ac_cond rfl (fun h3 => ?_) (fun h3 => ?_)
        · repeat (first | refine aops_nil ?_ | refine ac_seq ?_ | refine ac_region ?_ | refine then_n ?_ | refine then_ret ?_ | refine block_ret ?_ | refine ac_ret ?_ | refine aops_eff (eff_assign rfl) rfl rfl rfl ?_)
          refine ret_mk rfl rfl rfl ?_
          refine fz_bl ?_
          have : a ≠ b := by rintro rfl; simp at h3
          simp [this]
        · have h5 : a[k] = b[k] := by simpa [h2, h4] using h3
          clear h3
          repeat (first | refine aops_nil ?_ | refine ac_region ?_ | refine then_n ?_ | refine ac_skip ?_ | refine aops_eff (eff_move rfl) rfl rfl rfl ?_ | refine aops_eff (w_add rfl rfl (by omega)) rfl rfl rfl ?_)
          refine ⟨k + 1, ⟨by omega, ?_⟩, by omega, ?_⟩
          · rw [List.take_succ_eq_append_getElem h2, List.take_succ_eq_append_getElem h4, hq]
            rw [h5]
          · refine ent_mk (σ := sg []) ?_ ?_ rfl
            · repeat (first | exact trivial | refine ⟨⟨_, rfl, ?_⟩, ?_⟩ | exact ⟨rfl, rfl⟩ | exact ⟨rfl, rfl, rfl, rfl⟩ | exact m_int (by omega) | exact m_int (by simp [encI_len]) | exact rfl)
            · repeat (first | exact trivial | refine ⟨⟨_, rfl, ?_⟩, rfl, ?_⟩ | refine ⟨rfl, .inl ⟨rfl, ?_⟩⟩)
      · simp [encI_len] at h2
        repeat (first | refine aops_nil ?_ | refine ac_seq ?_ | refine ac_region ?_ | refine then_n ?_ | refine ac_exit ?_ | refine ac_ret ?_ | refine aops_eff (eff_assign rfl) rfl rfl rfl ?_)
        refine ret_mk rfl rfl rfl ?_
        refine fz_bl ?_
        have : a = b := by
          rw [← List.take_of_length_le (l := a) (i := k) (by omega), ← List.take_of_length_le (l := b) (i := k) (by omega), hq]
        simp [this]

theorem h_i_subs (a b : List Sc) : HasC Try.prog 75 [.list 2 (a.map eS), .list 2 (b.map eS)] (.bl (decide (a = b))) := by
  refine hasC_mk TT_ok (ns := [0,1,2,3,4,5,6,7]) Try.func75 rfl rfl Try.ntmps75 rfl rfl rfl ?_
  repeat (first | refine aops_nil ?_ | refine ac_seq ?_ | refine ac_region ?_ | refine aops_eff (eff_move rfl) rfl rfl rfl ?_ | refine aops_eff (eff_assign rfl) rfl rfl rfl ?_)
  refine aops_eff (w_call0s (h_i_spacesF a b) rfl (va_cons (va_same rfl) (va_cons (va_same rfl) (va_cons va_fn0 va_nil)))) rfl rfl rfl ?_
  repeat (first | refine aops_nil ?_ | refine then_n ?_ | refine ac_ret ?_ | refine aops_eff (eff_assign rfl) rfl rfl rfl ?_)
  refine ret_mk rfl rfl rfl ?_
  exact fz_bl rfl

theorem h_l_bar (a b : Br) : HasC Try.prog 119 [.agg (eB a), .agg (eB b)] (.bl (decide (a = b))) := by
  refine hasC_mk TT_ok (ns := [0,1,2,3,4,5,6,7]) Try.func119 rfl rfl Try.ntmps119 rfl rfl rfl ?_
  repeat (first | refine aops_nil ?_ | refine ac_seq ?_ | refine ac_region ?_ | refine then_n ?_ | refine aops_eff (w_load_ptr TT_ok rfl rfl rfl rfl rfl rfl rfl) rfl rfl rfl ?_ | refine aops_eff (w_field_ptr TT_ok rfl rfl rfl rfl rfl rfl rfl) rfl rfl rfl ?_ | refine aops_eff (eff_assign rfl) rfl rfl rfl ?_ | refine aops_eff (w_cmp rfl rfl rfl) rfl rfl rfl ?_ | refine aops_eff (w_box rfl rfl rfl rfl) rfl rfl rfl ?_)
  refine ac_cond rfl (fun h0 => ?_) (fun h0 => ?_)
  · simp at h0
    repeat (first | refine aops_nil ?_ | refine ac_seq ?_ | refine ac_region ?_ | refine then_n ?_ | refine then_ret ?_ | refine ac_ret ?_ | refine aops_eff (eff_assign rfl) rfl rfl rfl ?_)
    refine ret_mk rfl rfl rfl ?_
    refine fz_bl ?_
    cases a; cases b; simp_all [Br.mk.injEq]
  · simp at h0
    repeat (first | refine aops_nil ?_ | refine ac_seq ?_ | refine ac_region ?_ | refine then_n ?_ | refine ac_skip ?_ | refine aops_eff (w_load_ptr TT_ok rfl rfl rfl rfl rfl rfl rfl) rfl rfl rfl ?_ | refine aops_eff (w_field_ptr TT_ok rfl rfl rfl rfl rfl rfl rfl) rfl rfl rfl ?_ | refine aops_eff (w_cmp rfl rfl rfl) rfl rfl rfl ?_)
    refine ac_cond rfl (fun h1 => ?_) (fun h1 => ?_)
    · simp at h1
      repeat (first | refine aops_nil ?_ | refine ac_seq ?_ | refine ac_region ?_ | refine then_n ?_ | refine then_ret ?_ | refine ac_ret ?_ | refine aops_eff (eff_assign rfl) rfl rfl rfl ?_)
      refine ret_mk rfl rfl rfl ?_
      refine fz_bl ?_
      cases a; cases b; simp_all [Br.mk.injEq]
    · simp at h1
      repeat (first | refine aops_nil ?_ | refine ac_seq ?_ | refine ac_region ?_ | refine then_n ?_ | refine ac_skip ?_ | refine aops_eff (w_load_ptr TT_ok rfl rfl rfl rfl rfl rfl rfl) rfl rfl rfl ?_ | refine aops_eff (w_field_ptr TT_ok rfl rfl rfl rfl rfl rfl rfl) rfl rfl rfl ?_ | refine aops_eff (w_cmp rfl rfl rfl) rfl rfl rfl ?_)
      refine ac_cond rfl (fun h2 => ?_) (fun h2 => ?_)
      · simp at h2
        repeat (first | refine aops_nil ?_ | refine ac_seq ?_ | refine ac_region ?_ | refine then_n ?_ | refine then_ret ?_ | refine ac_ret ?_ | refine aops_eff (eff_assign rfl) rfl rfl rfl ?_)
        refine ret_mk rfl rfl rfl ?_
        refine fz_bl ?_
        cases a; cases b; simp_all [Br.mk.injEq]
      · simp at h2
        repeat (first | refine aops_nil ?_ | refine ac_seq ?_ | refine ac_region ?_ | refine then_n ?_ | refine ac_skip ?_ | refine ac_ret ?_ | refine aops_eff (eff_assign rfl) rfl rfl rfl ?_)
        skip
        refine ret_mk rfl rfl rfl ?_
        refine fz_bl ?_
        cases a; cases b; simp_all [Br.mk.injEq]

theorem h_l_bars (a b : List Br) : HasC Try.prog 78 [.list 3 (a.map eB), .list 3 (b.map eB)] (.bl (decide (a = b))) := by
  refine hasC_mk TT_ok (ns := [0,1,2,3,4,5,6,7]) Try.func78 rfl rfl Try.ntmps78 rfl rfl rfl ?_
  refine ac_len (t := 0) rfl fun hla => ?_
  have hmx : maxLen ≤ 9223372036854775807 := by decide
  simp only [encI_len, List.length_map] at hla
  repeat (first | refine aops_nil ?_ | refine ac_seq ?_ | refine ac_region ?_ | refine then_n ?_ | refine aops_eff (eff_move rfl) rfl rfl rfl ?_ | refine aops_eff (eff_assign rfl) rfl rfl rfl ?_ | refine aops_eff (w_len_list TT_ok rfl rfl rfl) rfl rfl rfl ?_ | refine aops_eff (w_cmp rfl rfl rfl) rfl rfl rfl ?_)
  refine ac_cond rfl (fun h => ?_) (fun h => ?_)
  · simp [encI_len] at h
    repeat (first | refine aops_nil ?_ | refine ac_seq ?_ | refine ac_region ?_ | refine then_n ?_ | refine then_ret ?_ | refine ac_ret ?_ | refine aops_eff (eff_assign rfl) rfl rfl rfl ?_)
    refine ret_mk rfl rfl rfl ?_
    refine fz_bl ?_
    have : a ≠ b := by rintro rfl; exact h rfl
    simp [this]
  · simp [encI_len] at h
    repeat (first | refine aops_nil ?_ | refine ac_seq ?_ | refine ac_region ?_ | refine then_n ?_ | refine ac_block ?_ | refine ac_skip ?_ | refine aops_eff (eff_assign rfl) rfl rfl rfl ?_)
    refine ac_loop (ι := Nat) (fun k => mkS [(0, .list 3 (a.map eB)), (1, .list 3 (b.map eB)), (5, .int k)] [] 0 [0,1,2,3,4,5,6,7]) (fun k => k ≤ a.length ∧ a.take k = b.take k) (fun k => a.length - k) 0 (by simp) ?_ ?_
    · refine ent_mk (σ := sg []) ?_ ?_ rfl
      · repeat (first | exact trivial | refine ⟨⟨_, rfl, ?_⟩, ?_⟩ | exact ⟨rfl, rfl⟩ | exact ⟨rfl, rfl, rfl, rfl⟩ | exact m_int (by omega) | exact m_int (by simp [encI_len]) | exact rfl)
      · repeat (first | exact trivial | refine ⟨⟨_, rfl, ?_⟩, rfl, ?_⟩ | refine ⟨rfl, .inl ⟨rfl, ?_⟩⟩)
    · intro k ⟨hk, hq⟩
      repeat (first | refine aops_nil ?_ | refine ac_seq ?_ | refine ac_region ?_ | refine then_n ?_ | refine aops_eff (eff_move rfl) rfl rfl rfl ?_ | refine aops_eff (w_len_list TT_ok rfl rfl rfl) rfl rfl rfl ?_ | refine aops_eff (w_cmp rfl rfl rfl) rfl rfl rfl ?_)
      refine ac_cond rfl (fun h2 => ?_) (fun h2 => ?_)
      · simp [encI_len] at h2
        have h4 : k < b.length := by omega
        repeat (first | refine ac_seq ?_ | refine ac_region_draw MIX ?_ | refine ac_block ?_ | refine ac_skip ?_ | refine aops_eff (eff_move rfl) rfl rfl rfl ?_ | refine aops_eff (w_load_ref TT_ok rfl rfl rfl rfl rfl rfl) rfl rfl rfl ?_ | refine aops_eff (eff_indexAddr_list TT_ok rfl rfl rfl rfl rfl rfl (map_at (at_lt (by omega)))) rfl rfl rfl ?_)
        refine aops_eff (w_call0s (h_l_bar a[k] b[k]) rfl (va_cons (va_agg rfl) (va_cons (va_agg rfl) va_nil))) rfl rfl rfl ?_
        repeat (first | refine aops_nil ?_ | refine aops_eff (w_not rfl) rfl rfl rfl ?_)
        refine ⟨by kernel_rfl, ?_⟩
        repeat (first | refine then_n ?_)
        refine ac_cond rfl (fun h3 => ?_) (fun h3 => ?_)
        · repeat (first | refine aops_nil ?_ | refine ac_seq ?_ | refine ac_region ?_ | refine then_n ?_ | refine then_ret ?_ | refine block_ret ?_ | refine ac_ret ?_ | refine aops_eff (eff_assign rfl) rfl rfl rfl ?_)
          refine ret_mk rfl rfl rfl ?_
          refine fz_bl ?_
          have : a ≠ b := by rintro rfl; simp at h3
          simp [this]
        · have h5 : a[k] = b[k] := by simpa [h2, h4] using h3
          clear h3
          repeat (first | refine aops_nil ?_ | refine ac_region ?_ | refine then_n ?_ | refine ac_skip ?_ | refine aops_eff (eff_move rfl) rfl rfl rfl ?_ | refine aops_eff (eff_assign rfl) rfl rfl rfl ?_ | refine aops_eff (w_add rfl rfl (by omega)) rfl rfl rfl ?_)
          refine ⟨k + 1, ⟨by omega, ?_⟩, by omega, ?_⟩
          · rw [List.take_succ_eq_append_getElem h2, List.take_succ_eq_append_getElem h4, hq]
            rw [h5]
          · refine ent_mk (σ := sg []) ?_ ?_ rfl
            · repeat (first | exact trivial | refine ⟨⟨_, rfl, ?_⟩, ?_⟩ | exact ⟨rfl, rfl⟩ | exact ⟨rfl, rfl, rfl, rfl⟩ | exact m_int (by omega) | exact m_int (by simp [encI_len]) | exact rfl)
            · repeat (first | exact trivial | refine ⟨⟨_, rfl, ?_⟩, rfl, ?_⟩ | refine ⟨rfl, .inl ⟨rfl, ?_⟩⟩)
      · simp [encI_len] at h2
        repeat (first | refine aops_nil ?_ | refine ac_seq ?_ | refine ac_region ?_ | refine then_n ?_ | refine ac_exit ?_ | refine ac_ret ?_ | refine aops_eff (eff_assign rfl) rfl rfl rfl ?_)
        refine ret_mk rfl rfl rfl ?_
        refine fz_bl ?_
        have : a = b := by
          rw [← List.take_of_length_le (l := a) (i := k) (by omega), ← List.take_of_length_le (l := b) (i := k) (by omega), hq]
        simp [this]
end Go.Proofs.Ytpngpgbmkkjjgaa

/-
  Models and contracts of functions, made by the extractor (ex.py).
-/
import Derived.Test.YtjfcjkeghigipaaX6
namespace Go.Proofs.Ytjfcjkeghigipaa
open Go.RowKit
set_option linter.unusedVariables false
set_option linter.unusedSimpArgs false
set_option maxRecDepth 10000
set_option maxHeartbeats 4000000

def m_impl_within (a0 : Int) (a1 : Int) (a2 : Int) : Option Bool :=
  bif decide (a1 ≤ a0) then
    (some (decide (a0 ≤ a2)))
  else
    (some (false))

theorem c_impl_within (a0 : Int) (a1 : Int) (a2 : Int) (r : Bool) (h : m_impl_within a0 a1 a2 = some r) : HasC Try.prog 77 [.int a0, .int a1, .int a2] (.bl r) := by
  refine hasC_mk TT_ok (rvs := [.tmp 6]) (ns := [0, 1, 2, 3, 4, 5, 6, 7, 8, 9, 10, 11, 12, 13]) Try.func77 rfl rfl Try.ntmps77 rfl rfl rfl ?_
  refine ac_seq ?_
  refine ac_region ?_
  refine aops_eff (eff_assign rfl) rfl rfl rfl ?_
  refine aops_nil ?_
  refine then_n ?_
  refine ac_seq ?_
  refine ac_region ?_
  refine aops_eff (eff_move rfl) rfl rfl rfl ?_
  refine aops_eff (eff_move rfl) rfl rfl rfl ?_
  refine aops_eff (w_cmp rfl rfl rfl) rfl rfl rfl ?_
  refine aops_eff (eff_move rfl) rfl rfl rfl ?_
  rcases cb h with ⟨q1, h⟩ | ⟨q1, h⟩
  · refine aops_lit 10 rfl q1 ?_
    refine aops_eff (eff_move rfl) rfl rfl rfl ?_
    refine aops_eff (eff_move rfl) rfl rfl rfl ?_
    refine aops_eff (w_cmp rfl rfl rfl) rfl rfl rfl ?_
    refine aops_eff (eff_pick rfl rfl) rfl rfl rfl ?_
    refine aops_eff (eff_assign rfl) rfl rfl rfl ?_
    refine aops_nil ?_
    refine then_n ?_
    refine ac_ret ?_
    obtain rfl := so h
    exact ret_mk rfl rfl rfl (fz_bl rfl)
  · refine aops_lit 10 rfl q1 ?_
    refine aops_skip rfl rfl ?_
    refine aops_skip rfl rfl ?_
    refine aops_skip rfl rfl ?_
    refine aops_eff (eff_pick rfl rfl) rfl rfl rfl ?_
    refine aops_eff (eff_assign rfl) rfl rfl rfl ?_
    refine aops_nil ?_
    refine then_n ?_
    refine ac_ret ?_
    obtain rfl := so h
    exact ret_mk rfl rfl rfl (fz_bl rfl)

def m_spec_l1In (a0 : Int) (a1 : Int) (a2 : Int) : Option Bool :=
  bif decide (a1 ≤ a0) then
    (some (decide (a0 ≤ a2)))
  else
    (some (false))

theorem c_spec_l1In (a0 : Int) (a1 : Int) (a2 : Int) (r : Bool) (h : m_spec_l1In a0 a1 a2 = some r) : HasC Try.prog 69 [.int a0, .int a1, .int a2] (.bl r) := by
  refine hasC_mk TT_ok (rvs := [.tmp 6]) (ns := [0, 1, 2, 3, 4, 5, 6, 7, 8, 9, 10, 11, 12, 13]) Try.func69 rfl rfl Try.ntmps69 rfl rfl rfl ?_
  refine ac_seq ?_
  refine ac_region ?_
  refine aops_eff (eff_assign rfl) rfl rfl rfl ?_
  refine aops_nil ?_
  refine then_n ?_
  refine ac_seq ?_
  refine ac_region ?_
  refine aops_eff (eff_move rfl) rfl rfl rfl ?_
  refine aops_eff (eff_move rfl) rfl rfl rfl ?_
  refine aops_eff (w_cmp rfl rfl rfl) rfl rfl rfl ?_
  refine aops_eff (eff_move rfl) rfl rfl rfl ?_
  rcases cb h with ⟨q1, h⟩ | ⟨q1, h⟩
  · refine aops_lit 10 rfl q1 ?_
    refine aops_eff (eff_move rfl) rfl rfl rfl ?_
    refine aops_eff (eff_move rfl) rfl rfl rfl ?_
    refine aops_eff (w_cmp rfl rfl rfl) rfl rfl rfl ?_
    refine aops_eff (eff_pick rfl rfl) rfl rfl rfl ?_
    refine aops_eff (eff_assign rfl) rfl rfl rfl ?_
    refine aops_nil ?_
    refine then_n ?_
    refine ac_ret ?_
    obtain rfl := so h
    exact ret_mk rfl rfl rfl (fz_bl rfl)
  · refine aops_lit 10 rfl q1 ?_
    refine aops_skip rfl rfl ?_
    refine aops_skip rfl rfl ?_
    refine aops_skip rfl rfl ?_
    refine aops_eff (eff_pick rfl rfl) rfl rfl rfl ?_
    refine aops_eff (eff_assign rfl) rfl rfl rfl ?_
    refine aops_nil ?_
    refine then_n ?_
    refine ac_ret ?_
    obtain rfl := so h
    exact ret_mk rfl rfl rfl (fz_bl rfl)

noncomputable def m_impl_sumOf_L1 (a0 : (List Int)) (x1 : (Int × Int)) : Option ((Int × Int) ⊕ Int) :=
  bif decide (x1.2 < (a0.length : Int)) then
    (Option.bind (atL a0 x1.2) fun v2 =>
    some (.inl (wr (x1.1 + v2), wr (x1.2 + 1))))
  else
    (some (.inr x1.1))

noncomputable def m_impl_sumOf (a0 : (List Int)) : Option Int :=
  Option.bind (Lp (m_impl_sumOf_L1 a0) (0, 0)) fun y3 =>
  some (y3)

theorem c_impl_sumOf (a0 : (List Int)) (r : Int) (h : m_impl_sumOf a0 = some r) : HasC Try.prog 132 [.list 1 (List.map eI a0)] (.int r) := by
  refine hasC_mk TT_ok (rvs := [.tmp 2]) (ns := [0, 1, 2, 3, 4, 5, 6, 7, 8, 9, 10, 11, 12, 13]) Try.func132 rfl rfl Try.ntmps132 rfl rfl rfl ?_
  refine ac_seq ?_
  refine ac_region ?_
  refine aops_eff (eff_assign rfl) rfl rfl rfl ?_
  refine aops_nil ?_
  refine then_n ?_
  refine ac_seq ?_
  refine ac_region ?_
  refine aops_eff (eff_assign rfl) rfl rfl rfl ?_
  refine aops_nil ?_
  refine then_n ?_
  refine ac_seq ?_
  refine ac_seq ?_
  refine ac_region ?_
  refine aops_eff (eff_move rfl) rfl rfl rfl ?_
  refine aops_eff (AEff.val (w_len_list TT_ok rfl rfl rfl) (v' := .int (a0.length : Int)) (by first | rw [len_map] | rw [encI_len])) rfl rfl rfl ?_
  refine aops_eff (eff_move rfl) rfl rfl rfl ?_
  refine aops_nil ?_
  refine then_n ?_
  refine ac_block ?_
  obtain ⟨y3, hy3, h⟩ := ob h
  refine ac_Lp (body := (m_impl_sumOf_L1 a0)) hy3 (fun (x1 : (Int × Int)) => mkS [(3, .int x1.1), (6, .list 1 (List.map eI a0)), (7, .int (a0.length : Int)), (8, .int x1.2)] [] 0 [0, 1, 2, 3, 4, 5, 6, 7, 8, 9, 10, 11, 12, 13]) (fun r e t => e = .exit 0 ∧ Ent t (mkS [(3, .int r)] [] 0 [0, 1, 2, 3, 4, 5, 6, 7, 8, 9, 10, 11, 12, 13])) (ent_mk (σ := sg []) ⟨⟨_, rfl, rfl⟩, ⟨_, rfl, ⟨rfl, rfl⟩⟩, ⟨_, rfl, rfl⟩, ⟨_, rfl, rfl⟩, trivial⟩ trivial rfl) ?_ ?_
  · intro x1 o h
    refine ac_seq ?_
    refine ac_region ?_
    refine aops_eff (w_cmp rfl rfl rfl) rfl rfl rfl ?_
    refine aops_nil ?_
    refine then_n ?_
    refine ac_seq ?_
    rcases cb h with ⟨q1, h⟩ | ⟨q1, h⟩
    · refine ac_condT rfl q1 ?_
      refine ac_skip ?_
      refine then_n ?_
      refine ac_seq ?_
      refine ac_block ?_
      refine ac_seq ?_
      refine ac_region ?_
      obtain ⟨v2, hv2, h⟩ := ob h
      refine aops_eff (x_at_list TT_ok hv2 rfl rfl rfl rfl rfl rfl) rfl rfl rfl ?_
      refine aops_eff (w_load_ref TT_ok rfl rfl rfl rfl rfl rfl) rfl rfl rfl ?_
      refine aops_eff (eff_assign rfl) rfl rfl rfl ?_
      refine aops_nil ?_
      refine then_n ?_
      refine ac_region ?_
      refine aops_eff (eff_move rfl) rfl rfl rfl ?_
      refine aops_eff (eff_move rfl) rfl rfl rfl ?_
      refine aops_eff (x_add rfl rfl) rfl rfl rfl ?_
      refine aops_eff (eff_assign rfl) rfl rfl rfl ?_
      refine aops_nil ?_
      refine block_n ?_
      refine then_n ?_
      refine ac_region ?_
      refine aops_eff (x_add rfl rfl) rfl rfl rfl ?_
      refine aops_eff (eff_move rfl) rfl rfl rfl ?_
      refine aops_nil ?_
      refine then_n ?_
      obtain rfl := so h
      exact ⟨_, rfl, (ent_mk (σ := sg []) ⟨⟨_, rfl, rfl⟩, ⟨_, rfl, ⟨rfl, rfl⟩⟩, ⟨_, rfl, rfl⟩, ⟨_, rfl, rfl⟩, trivial⟩ trivial rfl)⟩
    · refine ac_condF rfl q1 ?_
      refine ac_exit ?_
      refine then_exit ?_
      refine then_exit ?_
      obtain rfl := so h
      exact ⟨_, rfl, rfl, (ent_mk (σ := sg []) ⟨⟨_, rfl, rfl⟩, trivial⟩ trivial rfl)⟩
  · rintro e t ⟨rfl, hent⟩
    refine block_here ?_
    refine then_n ?_
    refine ac_ent hent ?_
    refine ac_seq ?_
    refine ac_region ?_
    refine aops_eff (eff_move rfl) rfl rfl rfl ?_
    refine aops_eff (eff_assign rfl) rfl rfl rfl ?_
    refine aops_nil ?_
    refine then_n ?_
    refine ac_ret ?_
    obtain rfl := so h
    exact ret_mk rfl rfl rfl (fz_int rfl)

noncomputable def m_spec_l6Same_L1 (a0 : (List Int)) (a1 : (List Int)) (x1 : Int) : Option (Int ⊕ (Unit ⊕ Bool)) :=
  bif decide (x1 < (a0.length : Int)) then
    (Option.bind (atL a0 x1) fun v3 =>
    Option.bind (atL a1 x1) fun v4 =>
    bif !decide (v3 = v4) then
      (some (.inr (.inr (false))))
    else
      (some (.inl (wr (x1 + 1)))))
  else
    (some (.inr (.inl ())))

noncomputable def m_spec_l6Same (a0 : (List Int)) (a1 : (List Int)) : Option Bool :=
  bif !decide ((a0.length : Int) = (a1.length : Int)) then
    (some (false))
  else
    (Option.bind (Lp (m_spec_l6Same_L1 a0 a1) 0) fun y6 =>
    Sum.elim (fun y7 =>
      some (true)
    ) 
    (fun y8 =>
      some y8
    )
     y6)

theorem c_spec_l6Same (a0 : (List Int)) (a1 : (List Int)) (r : Bool) (h : m_spec_l6Same a0 a1 = some r) : HasC Try.prog 62 [.list 1 (List.map eI a0), .list 1 (List.map eI a1)] (.bl r) := by
  refine hasC_mk TT_ok (rvs := [.tmp 4]) (ns := [0, 1, 2, 3, 4, 5, 6, 7, 8, 9, 10, 11, 12, 13]) Try.func62 rfl rfl Try.ntmps62 rfl rfl rfl ?_
  refine ac_seq ?_
  refine ac_region ?_
  refine aops_eff (eff_assign rfl) rfl rfl rfl ?_
  refine aops_nil ?_
  refine then_n ?_
  refine ac_seq ?_
  refine ac_seq ?_
  refine ac_region ?_
  refine aops_eff (eff_move rfl) rfl rfl rfl ?_
  refine aops_eff (AEff.val (w_len_list TT_ok rfl rfl rfl) (v' := .int (a0.length : Int)) (by first | rw [len_map] | rw [encI_len])) rfl rfl rfl ?_
  refine aops_eff (eff_move rfl) rfl rfl rfl ?_
  refine aops_eff (AEff.val (w_len_list TT_ok rfl rfl rfl) (v' := .int (a1.length : Int)) (by first | rw [len_map] | rw [encI_len])) rfl rfl rfl ?_
  refine aops_eff (w_cmp rfl rfl rfl) rfl rfl rfl ?_
  refine aops_nil ?_
  refine then_n ?_
  rcases cb h with ⟨q1, h⟩ | ⟨q1, h⟩
  · refine ac_condT rfl q1 ?_
    refine ac_seq ?_
    refine ac_region ?_
    refine aops_eff (eff_assign rfl) rfl rfl rfl ?_
    refine aops_nil ?_
    refine then_n ?_
    refine ac_ret ?_
    refine then_ret ?_
    obtain rfl := so h
    exact ret_mk rfl rfl rfl (fz_bl rfl)
  · refine ac_condF rfl q1 ?_
    refine ac_skip ?_
    refine then_n ?_
    refine ac_seq ?_
    refine ac_seq ?_
    refine ac_region ?_
    refine aops_eff (eff_assign rfl) rfl rfl rfl ?_
    refine aops_nil ?_
    refine then_n ?_
    refine ac_block ?_
    obtain ⟨y6, hy6, h⟩ := ob h
    refine ac_Lp (body := (m_spec_l6Same_L1 a0 a1)) hy6 (fun (x1 : Int) => mkS [(0, .list 1 (List.map eI a0)), (1, .list 1 (List.map eI a1)), (5, .int x1)] [] 0 [0, 1, 2, 3, 4, 5, 6, 7, 8, 9, 10, 11, 12, 13]) (fun r e t => Sum.elim (fun a => (fun r e t => e = .exit 0 ∧ Ent t (mkS [] [] 0 [0, 1, 2, 3, 4, 5, 6, 7, 8, 9, 10, 11, 12, 13])) a e t) (fun b => (fun r e t => e = .ret ∧ RetQ TT [.tmp 4] (.bl r) .ret t) b e t) r) (ent_mk (σ := sg []) ⟨⟨_, rfl, ⟨rfl, rfl⟩⟩, ⟨_, rfl, ⟨rfl, rfl⟩⟩, ⟨_, rfl, rfl⟩, trivial⟩ trivial rfl) ?_ ?_
    · intro x1 o h
      refine ac_seq ?_
      refine ac_seq ?_
      refine ac_region ?_
      refine aops_eff (eff_move rfl) rfl rfl rfl ?_
      refine aops_eff (eff_move rfl) rfl rfl rfl ?_
      refine aops_eff (AEff.val (w_len_list TT_ok rfl rfl rfl) (v' := .int (a0.length : Int)) (by first | rw [len_map] | rw [encI_len])) rfl rfl rfl ?_
      refine aops_eff (w_cmp rfl rfl rfl) rfl rfl rfl ?_
      refine aops_nil ?_
      refine then_n ?_
      rcases cb h with ⟨q2, h⟩ | ⟨q2, h⟩
      · refine ac_condT rfl q2 ?_
        refine ac_skip ?_
        refine then_n ?_
        refine ac_seq ?_
        refine ac_block ?_
        refine ac_seq ?_
        refine ac_region_draw MIXX ?_
        refine aops_eff (eff_move rfl) rfl rfl rfl ?_
        refine aops_eff (eff_move rfl) rfl rfl rfl ?_
        obtain ⟨v3, hv3, h⟩ := ob h
        refine aops_eff (x_at_list TT_ok hv3 rfl rfl rfl rfl rfl rfl) rfl rfl rfl ?_
        refine aops_eff (w_load_ref TT_ok rfl rfl rfl rfl rfl rfl) rfl rfl rfl ?_
        refine aops_eff (eff_move rfl) rfl rfl rfl ?_
        refine aops_eff (eff_move rfl) rfl rfl rfl ?_
        obtain ⟨v4, hv4, h⟩ := ob h
        refine aops_eff (x_at_list TT_ok hv4 rfl rfl rfl rfl rfl rfl) rfl rfl rfl ?_
        refine aops_eff (w_load_ref TT_ok rfl rfl rfl rfl rfl rfl) rfl rfl rfl ?_
        refine aops_eff (w_cmp rfl rfl rfl) rfl rfl rfl ?_
        refine aops_nil ?_
        refine ⟨by kernel_rfl, ?_⟩
        refine then_n ?_
        refine ac_ent (t := mkS [(0, .list 1 (List.map eI a0)), (1, .list 1 (List.map eI a1)), (5, .int x1), (25, .bl (!decide (v3 = v4)))] [] 0 [0, 1, 2, 3, 4, 5, 6, 7, 8, 9, 10, 11, 12, 13]) (ent_mk (σ := sg []) ⟨⟨_, rfl, ⟨rfl, rfl⟩⟩, ⟨_, rfl, ⟨rfl, rfl⟩⟩, ⟨_, rfl, rfl⟩, ⟨_, rfl, rfl⟩, trivial⟩ trivial rfl) ?_
        rcases cb h with ⟨q5, h⟩ | ⟨q5, h⟩
        · refine ac_condT rfl q5 ?_
          refine ac_seq ?_
          refine ac_region ?_
          refine aops_eff (eff_assign rfl) rfl rfl rfl ?_
          refine aops_nil ?_
          refine then_n ?_
          refine ac_ret ?_
          refine block_ret ?_
          refine then_ret ?_
          refine then_ret ?_
          obtain rfl := so h
          exact ⟨_, rfl, rfl, ret_mk rfl rfl rfl (fz_bl rfl)⟩
        · refine ac_condF rfl q5 ?_
          refine ac_skip ?_
          refine block_n ?_
          refine then_n ?_
          refine ac_region ?_
          refine aops_eff (eff_move rfl) rfl rfl rfl ?_
          refine aops_eff (x_add rfl rfl) rfl rfl rfl ?_
          refine aops_eff (eff_assign rfl) rfl rfl rfl ?_
          refine aops_nil ?_
          refine then_n ?_
          obtain rfl := so h
          exact ⟨_, rfl, (ent_mk (σ := sg []) ⟨⟨_, rfl, ⟨rfl, rfl⟩⟩, ⟨_, rfl, ⟨rfl, rfl⟩⟩, ⟨_, rfl, rfl⟩, trivial⟩ trivial rfl)⟩
      · refine ac_condF rfl q2 ?_
        refine ac_exit ?_
        refine then_exit ?_
        refine then_exit ?_
        obtain rfl := so h
        exact ⟨_, rfl, rfl, (ent_mk (σ := sg []) trivial trivial rfl)⟩
    · intro e t hX
      rcases y6 with y7 | y8
      · obtain ⟨rfl, hent⟩ := hX
        refine block_here ?_
        refine then_n ?_
        refine ac_ent hent ?_
        refine ac_seq ?_
        refine ac_region ?_
        refine aops_eff (eff_assign rfl) rfl rfl rfl ?_
        refine aops_nil ?_
        refine then_n ?_
        refine ac_ret ?_
        obtain rfl := so h
        exact ret_mk rfl rfl rfl (fz_bl rfl)
      · obtain ⟨rfl, hent⟩ := hX
        refine block_ret ?_
        refine then_ret ?_
        obtain rfl := so h
        exact hent

noncomputable def m_spec_l4Has_L1 (a0 : (List Int)) (a1 : Int) (x1 : Int) : Option (Int ⊕ (Unit ⊕ Bool)) :=
  bif decide (x1 < (a0.length : Int)) then
    (Option.bind (atL a0 x1) fun v2 =>
    bif decide (v2 = a1) then
      (some (.inr (.inr (true))))
    else
      (some (.inl (wr (x1 + 1)))))
  else
    (some (.inr (.inl ())))

noncomputable def m_spec_l4Has (a0 : (List Int)) (a1 : Int) : Option Bool :=
  Option.bind (Lp (m_spec_l4Has_L1 a0 a1) 0) fun y4 =>
  Sum.elim (fun y5 =>
    some (false)
  ) 
  (fun y6 =>
    some y6
  )
   y4

theorem c_spec_l4Has (a0 : (List Int)) (a1 : Int) (r : Bool) (h : m_spec_l4Has a0 a1 = some r) : HasC Try.prog 157 [.list 1 (List.map eI a0), .int a1] (.bl r) := by
  refine hasC_mk TT_ok (rvs := [.tmp 4]) (ns := [0, 1, 2, 3, 4, 5, 6, 7, 8, 9, 10, 11, 12, 13]) Try.func157 rfl rfl Try.ntmps157 rfl rfl rfl ?_
  refine ac_seq ?_
  refine ac_region ?_
  refine aops_eff (eff_assign rfl) rfl rfl rfl ?_
  refine aops_nil ?_
  refine then_n ?_
  refine ac_seq ?_
  refine ac_seq ?_
  refine ac_region ?_
  refine aops_eff (eff_assign rfl) rfl rfl rfl ?_
  refine aops_nil ?_
  refine then_n ?_
  refine ac_block ?_
  obtain ⟨y4, hy4, h⟩ := ob h
  refine ac_Lp (body := (m_spec_l4Has_L1 a0 a1)) hy4 (fun (x1 : Int) => mkS [(0, .list 1 (List.map eI a0)), (1, .int a1), (5, .int x1)] [] 0 [0, 1, 2, 3, 4, 5, 6, 7, 8, 9, 10, 11, 12, 13]) (fun r e t => Sum.elim (fun a => (fun r e t => e = .exit 0 ∧ Ent t (mkS [] [] 0 [0, 1, 2, 3, 4, 5, 6, 7, 8, 9, 10, 11, 12, 13])) a e t) (fun b => (fun r e t => e = .ret ∧ RetQ TT [.tmp 4] (.bl r) .ret t) b e t) r) (ent_mk (σ := sg []) ⟨⟨_, rfl, ⟨rfl, rfl⟩⟩, ⟨_, rfl, rfl⟩, ⟨_, rfl, rfl⟩, trivial⟩ trivial rfl) ?_ ?_
  · intro x1 o h
    refine ac_seq ?_
    refine ac_seq ?_
    refine ac_region ?_
    refine aops_eff (eff_move rfl) rfl rfl rfl ?_
    refine aops_eff (eff_move rfl) rfl rfl rfl ?_
    refine aops_eff (AEff.val (w_len_list TT_ok rfl rfl rfl) (v' := .int (a0.length : Int)) (by first | rw [len_map] | rw [encI_len])) rfl rfl rfl ?_
    refine aops_eff (w_cmp rfl rfl rfl) rfl rfl rfl ?_
    refine aops_nil ?_
    refine then_n ?_
    rcases cb h with ⟨q1, h⟩ | ⟨q1, h⟩
    · refine ac_condT rfl q1 ?_
      refine ac_skip ?_
      refine then_n ?_
      refine ac_seq ?_
      refine ac_block ?_
      refine ac_seq ?_
      refine ac_region ?_
      refine aops_eff (eff_move rfl) rfl rfl rfl ?_
      refine aops_eff (eff_move rfl) rfl rfl rfl ?_
      obtain ⟨v2, hv2, h⟩ := ob h
      refine aops_eff (x_at_list TT_ok hv2 rfl rfl rfl rfl rfl rfl) rfl rfl rfl ?_
      refine aops_eff (w_load_ref TT_ok rfl rfl rfl rfl rfl rfl) rfl rfl rfl ?_
      refine aops_eff (eff_move rfl) rfl rfl rfl ?_
      refine aops_eff (w_cmp rfl rfl rfl) rfl rfl rfl ?_
      refine aops_nil ?_
      refine then_n ?_
      rcases cb h with ⟨q3, h⟩ | ⟨q3, h⟩
      · refine ac_condT rfl q3 ?_
        refine ac_seq ?_
        refine ac_region ?_
        refine aops_eff (eff_assign rfl) rfl rfl rfl ?_
        refine aops_nil ?_
        refine then_n ?_
        refine ac_ret ?_
        refine block_ret ?_
        refine then_ret ?_
        refine then_ret ?_
        obtain rfl := so h
        exact ⟨_, rfl, rfl, ret_mk rfl rfl rfl (fz_bl rfl)⟩
      · refine ac_condF rfl q3 ?_
        refine ac_skip ?_
        refine block_n ?_
        refine then_n ?_
        refine ac_region ?_
        refine aops_eff (eff_move rfl) rfl rfl rfl ?_
        refine aops_eff (x_add rfl rfl) rfl rfl rfl ?_
        refine aops_eff (eff_assign rfl) rfl rfl rfl ?_
        refine aops_nil ?_
        refine then_n ?_
        obtain rfl := so h
        exact ⟨_, rfl, (ent_mk (σ := sg []) ⟨⟨_, rfl, ⟨rfl, rfl⟩⟩, ⟨_, rfl, rfl⟩, ⟨_, rfl, rfl⟩, trivial⟩ trivial rfl)⟩
    · refine ac_condF rfl q1 ?_
      refine ac_exit ?_
      refine then_exit ?_
      refine then_exit ?_
      obtain rfl := so h
      exact ⟨_, rfl, rfl, (ent_mk (σ := sg []) trivial trivial rfl)⟩
  · intro e t hX
    rcases y4 with y5 | y6
    · obtain ⟨rfl, hent⟩ := hX
      refine block_here ?_
      refine then_n ?_
      refine ac_ent hent ?_
      refine ac_seq ?_
      refine ac_region ?_
      refine aops_eff (eff_assign rfl) rfl rfl rfl ?_
      refine aops_nil ?_
      refine then_n ?_
      refine ac_ret ?_
      obtain rfl := so h
      exact ret_mk rfl rfl rfl (fz_bl rfl)
    · obtain ⟨rfl, hent⟩ := hX
      refine block_ret ?_
      refine then_ret ?_
      obtain rfl := so h
      exact hent

noncomputable def m_slices_Equal_Lint_int_L1 (a0 : (List Int)) (a1 : (List Int)) (x1 : Int) : Option (Int ⊕ (Unit ⊕ Bool)) :=
  bif decide (x1 < (a0.length : Int)) then
    (Option.bind (atL a0 x1) fun v3 =>
    Option.bind (atL a1 x1) fun v4 =>
    bif !decide (v3 = v4) then
      (some (.inr (.inr (false))))
    else
      (some (.inl (wr (x1 + 1)))))
  else
    (some (.inr (.inl ())))

noncomputable def m_slices_Equal_Lint_int (a0 : (List Int)) (a1 : (List Int)) : Option Bool :=
  bif !decide ((a0.length : Int) = (a1.length : Int)) then
    (some (false))
  else
    (Option.bind (Lp (m_slices_Equal_Lint_int_L1 a0 a1) 0) fun y6 =>
    Sum.elim (fun y7 =>
      some (true)
    ) 
    (fun y8 =>
      some y8
    )
     y6)

theorem c_slices_Equal_Lint_int (a0 : (List Int)) (a1 : (List Int)) (r : Bool) (h : m_slices_Equal_Lint_int a0 a1 = some r) : HasC Try.prog 64 [.list 1 (List.map eI a0), .list 1 (List.map eI a1)] (.bl r) := by
  refine hasC_mk TT_ok (rvs := [.tmp 4]) (ns := [0, 1, 2, 3, 4, 5, 6, 7, 8, 9, 10, 11, 12, 13]) Try.func64 rfl rfl Try.ntmps64 rfl rfl rfl ?_
  refine ac_seq ?_
  refine ac_region ?_
  refine aops_eff (eff_assign rfl) rfl rfl rfl ?_
  refine aops_nil ?_
  refine then_n ?_
  refine ac_seq ?_
  refine ac_seq ?_
  refine ac_region ?_
  refine aops_eff (eff_move rfl) rfl rfl rfl ?_
  refine aops_eff (AEff.val (w_len_list TT_ok rfl rfl rfl) (v' := .int (a0.length : Int)) (by first | rw [len_map] | rw [encI_len])) rfl rfl rfl ?_
  refine aops_eff (eff_move rfl) rfl rfl rfl ?_
  refine aops_eff (AEff.val (w_len_list TT_ok rfl rfl rfl) (v' := .int (a1.length : Int)) (by first | rw [len_map] | rw [encI_len])) rfl rfl rfl ?_
  refine aops_eff (w_cmp rfl rfl rfl) rfl rfl rfl ?_
  refine aops_nil ?_
  refine then_n ?_
  rcases cb h with ⟨q1, h⟩ | ⟨q1, h⟩
  · refine ac_condT rfl q1 ?_
    refine ac_seq ?_
    refine ac_region ?_
    refine aops_eff (eff_assign rfl) rfl rfl rfl ?_
    refine aops_nil ?_
    refine then_n ?_
    refine ac_ret ?_
    refine then_ret ?_
    obtain rfl := so h
    exact ret_mk rfl rfl rfl (fz_bl rfl)
  · refine ac_condF rfl q1 ?_
    refine ac_skip ?_
    refine then_n ?_
    refine ac_seq ?_
    refine ac_seq ?_
    refine ac_region ?_
    refine aops_eff (eff_move rfl) rfl rfl rfl ?_
    refine aops_eff (AEff.val (w_len_list TT_ok rfl rfl rfl) (v' := .int (a0.length : Int)) (by first | rw [len_map] | rw [encI_len])) rfl rfl rfl ?_
    refine aops_eff (eff_move rfl) rfl rfl rfl ?_
    refine aops_nil ?_
    refine then_n ?_
    refine ac_block ?_
    obtain ⟨y6, hy6, h⟩ := ob h
    refine ac_Lp (body := (m_slices_Equal_Lint_int_L1 a0 a1)) hy6 (fun (x1 : Int) => mkS [(0, .list 1 (List.map eI a0)), (1, .list 1 (List.map eI a1)), (12, .int (a0.length : Int)), (13, .int x1)] [] 0 [0, 1, 2, 3, 4, 5, 6, 7, 8, 9, 10, 11, 12, 13]) (fun r e t => Sum.elim (fun a => (fun r e t => e = .exit 0 ∧ Ent t (mkS [] [] 0 [0, 1, 2, 3, 4, 5, 6, 7, 8, 9, 10, 11, 12, 13])) a e t) (fun b => (fun r e t => e = .ret ∧ RetQ TT [.tmp 4] (.bl r) .ret t) b e t) r) (ent_mk (σ := sg []) ⟨⟨_, rfl, ⟨rfl, rfl⟩⟩, ⟨_, rfl, ⟨rfl, rfl⟩⟩, ⟨_, rfl, rfl⟩, ⟨_, rfl, rfl⟩, trivial⟩ trivial rfl) ?_ ?_
    · intro x1 o h
      refine ac_seq ?_
      refine ac_region ?_
      refine aops_eff (w_cmp rfl rfl rfl) rfl rfl rfl ?_
      refine aops_nil ?_
      refine then_n ?_
      refine ac_seq ?_
      rcases cb h with ⟨q2, h⟩ | ⟨q2, h⟩
      · refine ac_condT rfl q2 ?_
        refine ac_skip ?_
        refine then_n ?_
        refine ac_seq ?_
        refine ac_block ?_
        refine ac_seq ?_
        refine ac_region ?_
        refine aops_eff (eff_move rfl) rfl rfl rfl ?_
        refine aops_eff (eff_assign rfl) rfl rfl rfl ?_
        refine aops_nil ?_
        refine then_n ?_
        refine ac_seq ?_
        refine ac_region_draw MIXX ?_
        refine aops_eff (eff_move rfl) rfl rfl rfl ?_
        refine aops_eff (eff_move rfl) rfl rfl rfl ?_
        obtain ⟨v3, hv3, h⟩ := ob h
        refine aops_eff (x_at_list TT_ok hv3 rfl rfl rfl rfl rfl rfl) rfl rfl rfl ?_
        refine aops_eff (w_load_ref TT_ok rfl rfl rfl rfl rfl rfl) rfl rfl rfl ?_
        refine aops_eff (eff_move rfl) rfl rfl rfl ?_
        refine aops_eff (eff_move rfl) rfl rfl rfl ?_
        obtain ⟨v4, hv4, h⟩ := ob h
        refine aops_eff (x_at_list TT_ok hv4 rfl rfl rfl rfl rfl rfl) rfl rfl rfl ?_
        refine aops_eff (w_load_ref TT_ok rfl rfl rfl rfl rfl rfl) rfl rfl rfl ?_
        refine aops_eff (w_cmp rfl rfl rfl) rfl rfl rfl ?_
        refine aops_nil ?_
        refine ⟨by kernel_rfl, ?_⟩
        refine then_n ?_
        refine ac_ent (t := mkS [(0, .list 1 (List.map eI a0)), (1, .list 1 (List.map eI a1)), (12, .int (a0.length : Int)), (13, .int x1), (24, .bl (!decide (v3 = v4)))] [] 0 [0, 1, 2, 3, 4, 5, 6, 7, 8, 9, 10, 11, 12, 13]) (ent_mk (σ := sg []) ⟨⟨_, rfl, ⟨rfl, rfl⟩⟩, ⟨_, rfl, ⟨rfl, rfl⟩⟩, ⟨_, rfl, rfl⟩, ⟨_, rfl, rfl⟩, ⟨_, rfl, rfl⟩, trivial⟩ trivial rfl) ?_
        rcases cb h with ⟨q5, h⟩ | ⟨q5, h⟩
        · refine ac_condT rfl q5 ?_
          refine ac_seq ?_
          refine ac_region ?_
          refine aops_eff (eff_assign rfl) rfl rfl rfl ?_
          refine aops_nil ?_
          refine then_n ?_
          refine ac_ret ?_
          refine block_ret ?_
          refine then_ret ?_
          refine then_ret ?_
          obtain rfl := so h
          exact ⟨_, rfl, rfl, ret_mk rfl rfl rfl (fz_bl rfl)⟩
        · refine ac_condF rfl q5 ?_
          refine ac_skip ?_
          refine block_n ?_
          refine then_n ?_
          refine ac_region ?_
          refine aops_eff (x_add rfl rfl) rfl rfl rfl ?_
          refine aops_eff (eff_move rfl) rfl rfl rfl ?_
          refine aops_nil ?_
          refine then_n ?_
          obtain rfl := so h
          exact ⟨_, rfl, (ent_mk (σ := sg []) ⟨⟨_, rfl, ⟨rfl, rfl⟩⟩, ⟨_, rfl, ⟨rfl, rfl⟩⟩, ⟨_, rfl, rfl⟩, ⟨_, rfl, rfl⟩, trivial⟩ trivial rfl)⟩
      · refine ac_condF rfl q2 ?_
        refine ac_exit ?_
        refine then_exit ?_
        refine then_exit ?_
        obtain rfl := so h
        exact ⟨_, rfl, rfl, (ent_mk (σ := sg []) trivial trivial rfl)⟩
    · intro e t hX
      rcases y6 with y7 | y8
      · obtain ⟨rfl, hent⟩ := hX
        refine block_here ?_
        refine then_n ?_
        refine ac_ent hent ?_
        refine ac_seq ?_
        refine ac_region ?_
        refine aops_eff (eff_assign rfl) rfl rfl rfl ?_
        refine aops_nil ?_
        refine then_n ?_
        refine ac_ret ?_
        obtain rfl := so h
        exact ret_mk rfl rfl rfl (fz_bl rfl)
      · obtain ⟨rfl, hent⟩ := hX
        refine block_ret ?_
        refine then_ret ?_
        obtain rfl := so h
        exact hent

def m_spec_IsField (a0 : Int) : Option Bool :=
  bif decide (a0 = 2) then
    (some (true))
  else
    (bif decide (a0 = 3) then
      (some (true))
    else
      (some (decide (a0 = 5))))

theorem c_spec_IsField (a0 : Int) (r : Bool) (h : m_spec_IsField a0 = some r) : HasC Try.prog 68 [.int a0] (.bl r) := by
  refine hasC_mk TT_ok (rvs := [.tmp 2]) (ns := [0, 1, 2, 3, 4, 5, 6, 7, 8, 9, 10, 11, 12, 13]) Try.func68 rfl rfl Try.ntmps68 rfl rfl rfl ?_
  refine ac_seq ?_
  refine ac_region ?_
  refine aops_eff (eff_assign rfl) rfl rfl rfl ?_
  refine aops_nil ?_
  refine then_n ?_
  refine ac_seq ?_
  refine ac_region ?_
  refine aops_eff (eff_move rfl) rfl rfl rfl ?_
  refine aops_eff (w_cmp rfl rfl rfl) rfl rfl rfl ?_
  refine aops_eff (eff_move rfl) rfl rfl rfl ?_
  rcases cb h with ⟨q1, h⟩ | ⟨q1, h⟩
  · refine aops_lit 5 rfl q1 ?_
    refine aops_skip rfl rfl ?_
    refine aops_skip rfl rfl ?_
    refine aops_eff (eff_pick rfl rfl) rfl rfl rfl ?_
    refine aops_eff (eff_move rfl) rfl rfl rfl ?_
    refine aops_skip rfl rfl ?_
    refine aops_skip rfl rfl ?_
    refine aops_eff (eff_pick rfl rfl) rfl rfl rfl ?_
    refine aops_eff (eff_assign rfl) rfl rfl rfl ?_
    refine aops_nil ?_
    refine then_n ?_
    refine ac_ent (t := mkS [(2, .bl true)] [] 0 [0, 1, 2, 3, 4, 5, 6, 7, 8, 9, 10, 11, 12, 13]) (ent_mk (σ := sg []) ⟨⟨_, rfl, rfl⟩, trivial⟩ trivial rfl) ?_
    refine ac_ret ?_
    obtain rfl := so h
    exact ret_mk rfl rfl rfl (fz_bl rfl)
  · refine aops_lit 5 rfl q1 ?_
    refine aops_eff (eff_move rfl) rfl rfl rfl ?_
    refine aops_eff (w_cmp rfl rfl rfl) rfl rfl rfl ?_
    refine aops_eff (eff_pick rfl rfl) rfl rfl rfl ?_
    refine aops_eff (eff_move rfl) rfl rfl rfl ?_
    rcases cb h with ⟨q2, h⟩ | ⟨q2, h⟩
    · refine aops_lit 9 rfl q2 ?_
      refine aops_skip rfl rfl ?_
      refine aops_skip rfl rfl ?_
      refine aops_eff (eff_pick rfl rfl) rfl rfl rfl ?_
      refine aops_eff (eff_assign rfl) rfl rfl rfl ?_
      refine aops_nil ?_
      refine then_n ?_
      refine ac_ent (t := mkS [(2, .bl true)] [] 0 [0, 1, 2, 3, 4, 5, 6, 7, 8, 9, 10, 11, 12, 13]) (ent_mk (σ := sg []) ⟨⟨_, rfl, rfl⟩, trivial⟩ trivial rfl) ?_
      refine ac_ret ?_
      obtain rfl := so h
      exact ret_mk rfl rfl rfl (fz_bl rfl)
    · refine aops_lit 9 rfl q2 ?_
      refine aops_eff (eff_move rfl) rfl rfl rfl ?_
      refine aops_eff (w_cmp rfl rfl rfl) rfl rfl rfl ?_
      refine aops_eff (eff_pick rfl rfl) rfl rfl rfl ?_
      refine aops_eff (eff_assign rfl) rfl rfl rfl ?_
      refine aops_nil ?_
      refine then_n ?_
      refine ac_ent (t := mkS [(2, .bl (decide (a0 = 5)))] [] 0 [0, 1, 2, 3, 4, 5, 6, 7, 8, 9, 10, 11, 12, 13]) (ent_mk (σ := sg []) ⟨⟨_, rfl, rfl⟩, trivial⟩ trivial rfl) ?_
      refine ac_ret ?_
      obtain rfl := so h
      exact ret_mk rfl rfl rfl (fz_bl rfl)

def m_impl_IsField (a0 : Int) : Option Bool :=
  bif decide (a0 = 2) then
    (some (true))
  else
    (bif decide (a0 = 3) then
      (some (true))
    else
      (some (decide (a0 = 5))))

theorem c_impl_IsField (a0 : Int) (r : Bool) (h : m_impl_IsField a0 = some r) : HasC Try.prog 76 [.int a0] (.bl r) := by
  refine hasC_mk TT_ok (rvs := [.tmp 2]) (ns := [0, 1, 2, 3, 4, 5, 6, 7, 8, 9, 10, 11, 12, 13]) Try.func76 rfl rfl Try.ntmps76 rfl rfl rfl ?_
  refine ac_seq ?_
  refine ac_region ?_
  refine aops_eff (eff_assign rfl) rfl rfl rfl ?_
  refine aops_nil ?_
  refine then_n ?_
  refine ac_seq ?_
  refine ac_region ?_
  refine aops_eff (eff_move rfl) rfl rfl rfl ?_
  refine aops_eff (w_cmp rfl rfl rfl) rfl rfl rfl ?_
  refine aops_eff (eff_move rfl) rfl rfl rfl ?_
  rcases cb h with ⟨q1, h⟩ | ⟨q1, h⟩
  · refine aops_lit 5 rfl q1 ?_
    refine aops_skip rfl rfl ?_
    refine aops_skip rfl rfl ?_
    refine aops_eff (eff_pick rfl rfl) rfl rfl rfl ?_
    refine aops_eff (eff_move rfl) rfl rfl rfl ?_
    refine aops_skip rfl rfl ?_
    refine aops_skip rfl rfl ?_
    refine aops_eff (eff_pick rfl rfl) rfl rfl rfl ?_
    refine aops_eff (eff_assign rfl) rfl rfl rfl ?_
    refine aops_nil ?_
    refine then_n ?_
    refine ac_ent (t := mkS [(2, .bl true)] [] 0 [0, 1, 2, 3, 4, 5, 6, 7, 8, 9, 10, 11, 12, 13]) (ent_mk (σ := sg []) ⟨⟨_, rfl, rfl⟩, trivial⟩ trivial rfl) ?_
    refine ac_ret ?_
    obtain rfl := so h
    exact ret_mk rfl rfl rfl (fz_bl rfl)
  · refine aops_lit 5 rfl q1 ?_
    refine aops_eff (eff_move rfl) rfl rfl rfl ?_
    refine aops_eff (w_cmp rfl rfl rfl) rfl rfl rfl ?_
    refine aops_eff (eff_pick rfl rfl) rfl rfl rfl ?_
    refine aops_eff (eff_move rfl) rfl rfl rfl ?_
    rcases cb h with ⟨q2, h⟩ | ⟨q2, h⟩
    · refine aops_lit 9 rfl q2 ?_
      refine aops_skip rfl rfl ?_
      refine aops_skip rfl rfl ?_
      refine aops_eff (eff_pick rfl rfl) rfl rfl rfl ?_
      refine aops_eff (eff_assign rfl) rfl rfl rfl ?_
      refine aops_nil ?_
      refine then_n ?_
      refine ac_ent (t := mkS [(2, .bl true)] [] 0 [0, 1, 2, 3, 4, 5, 6, 7, 8, 9, 10, 11, 12, 13]) (ent_mk (σ := sg []) ⟨⟨_, rfl, rfl⟩, trivial⟩ trivial rfl) ?_
      refine ac_ret ?_
      obtain rfl := so h
      exact ret_mk rfl rfl rfl (fz_bl rfl)
    · refine aops_lit 9 rfl q2 ?_
      refine aops_eff (eff_move rfl) rfl rfl rfl ?_
      refine aops_eff (w_cmp rfl rfl rfl) rfl rfl rfl ?_
      refine aops_eff (eff_pick rfl rfl) rfl rfl rfl ?_
      refine aops_eff (eff_assign rfl) rfl rfl rfl ?_
      refine aops_nil ?_
      refine then_n ?_
      refine ac_ent (t := mkS [(2, .bl (decide (a0 = 5)))] [] 0 [0, 1, 2, 3, 4, 5, 6, 7, 8, 9, 10, 11, 12, 13]) (ent_mk (σ := sg []) ⟨⟨_, rfl, rfl⟩, trivial⟩ trivial rfl) ?_
      refine ac_ret ?_
      obtain rfl := so h
      exact ret_mk rfl rfl rfl (fz_bl rfl)

noncomputable def m_spec_IsQuiver_L1 (a0 : Qv) (x1 : Int) : Option (Int ⊕ (Unit ⊕ Bool)) :=
  bif decide (x1 < (a0.src.length : Int)) then
    (bif decide (x1 < (a0.tgt.length : Int)) then
      (Option.bind (atL a0.src x1) fun v3 =>
      Option.bind (m_spec_l1In v3 0 (wr (a0.n - 1))) fun v4 =>
      bif !v4 then
        (some (.inr (.inr (false))))
      else
        (Option.bind (atL a0.tgt x1) fun v6 =>
        Option.bind (m_spec_l1In v6 0 (wr (a0.n - 1))) fun v7 =>
        bif !v7 then
          (some (.inr (.inr (false))))
        else
          (some (.inl (wr (x1 + 1))))))
    else
      (some (.inr (.inl ()))))
  else
    (some (.inr (.inl ())))

noncomputable def m_spec_IsQuiver (a0 : Qv) : Option Bool :=
  Option.bind (Lp (m_spec_IsQuiver_L1 a0) 0) fun y9 =>
  Sum.elim (fun y10 =>
    Option.bind (m_spec_l1In a0.n 1 5) fun v11 =>
    bif v11 then
      (bif decide ((a0.src.length : Int) ≤ 6) then
        (some (decide ((a0.tgt.length : Int) = (a0.src.length : Int))))
      else
        (some (false)))
    else
      (some (false))
  ) 
  (fun y14 =>
    some y14
  )
   y9

theorem c_spec_IsQuiver (a0 : Qv) (r : Bool) (h : m_spec_IsQuiver a0 = some r) : HasC Try.prog 110 [.agg (eQ a0)] (.bl r) := by
  refine hasC_mk TT_ok (rvs := [.tmp 2]) (ns := [0, 1, 2, 3, 4, 5, 6, 7, 8, 9, 10, 11, 12, 13]) Try.func110 rfl rfl Try.ntmps110 rfl rfl rfl ?_
  refine ac_seq ?_
  refine ac_region ?_
  refine aops_eff (w_box rfl rfl rfl rfl) rfl rfl rfl ?_
  refine aops_eff (eff_assign rfl) rfl rfl rfl ?_
  refine aops_nil ?_
  refine then_n ?_
  refine ac_seq ?_
  refine ac_seq ?_
  refine ac_region ?_
  refine aops_eff (eff_assign rfl) rfl rfl rfl ?_
  refine aops_nil ?_
  refine then_n ?_
  refine ac_block ?_
  obtain ⟨y9, hy9, h⟩ := ob h
  refine ac_Lp (body := (m_spec_IsQuiver_L1 a0)) hy9 (fun (x1 : Int) => mkS [(1, .ptr 0 0 0), (3, .int x1)] [(0, ⟨3, [[.int a0.n, .list 1 (List.map eI a0.src), .list 1 (List.map eI a0.tgt)]]⟩)] 1 [1, 2, 3, 4, 5, 6, 7, 8, 9, 10, 11, 12, 13, 14]) (fun r e t => Sum.elim (fun a => (fun r e t => e = .exit 0 ∧ Ent t (mkS [(1, .ptr 0 0 0)] [(0, ⟨3, [[.int a0.n, .list 1 (List.map eI a0.src), .list 1 (List.map eI a0.tgt)]]⟩)] 1 [1, 2, 3, 4, 5, 6, 7, 8, 9, 10, 11, 12, 13, 14])) a e t) (fun b => (fun r e t => e = .ret ∧ RetQ TT [.tmp 2] (.bl r) .ret t) b e t) r) (ent_mk (σ := sg [(0, 0)]) ⟨⟨_, rfl, ⟨rfl, rfl, rfl, rfl⟩⟩, ⟨_, rfl, rfl⟩, trivial⟩ ⟨⟨_, rfl, rfl, .inl ⟨rfl, plain_of rfl⟩⟩, rfl, trivial⟩ rfl) ?_ ?_
  · intro x1 o h
    refine ac_seq ?_
    refine ac_seq ?_
    refine ac_region ?_
    refine aops_eff (eff_move rfl) rfl rfl rfl ?_
    refine aops_eff (w_field_ptr TT_ok rfl rfl rfl rfl rfl rfl rfl) rfl rfl rfl ?_
    refine aops_eff (w_load_ptr TT_ok rfl rfl rfl rfl rfl rfl rfl) rfl rfl rfl ?_
    refine aops_eff (AEff.val (w_len_list TT_ok rfl rfl rfl) (v' := .int (a0.src.length : Int)) (by first | rw [len_map] | rw [encI_len])) rfl rfl rfl ?_
    refine aops_eff (w_cmp rfl rfl rfl) rfl rfl rfl ?_
    refine aops_eff (eff_move rfl) rfl rfl rfl ?_
    rcases cb h with ⟨q1, h⟩ | ⟨q1, h⟩
    · refine aops_lit 9 rfl q1 ?_
      refine aops_eff (eff_move rfl) rfl rfl rfl ?_
      refine aops_eff (w_field_ptr TT_ok rfl rfl rfl rfl rfl rfl rfl) rfl rfl rfl ?_
      refine aops_eff (w_load_ptr TT_ok rfl rfl rfl rfl rfl rfl rfl) rfl rfl rfl ?_
      refine aops_eff (AEff.val (w_len_list TT_ok rfl rfl rfl) (v' := .int (a0.tgt.length : Int)) (by first | rw [len_map] | rw [encI_len])) rfl rfl rfl ?_
      refine aops_eff (w_cmp rfl rfl rfl) rfl rfl rfl ?_
      refine aops_eff (eff_pick rfl rfl) rfl rfl rfl ?_
      refine aops_nil ?_
      refine then_n ?_
      refine ac_ent (t := mkS [(1, .ptr 0 0 0), (3, .int x1), (15, .bl (decide (x1 < (a0.tgt.length : Int))))] [(0, ⟨3, [[.int a0.n, .list 1 (List.map eI a0.src), .list 1 (List.map eI a0.tgt)]]⟩)] 1 [1, 2, 3, 4, 5, 6, 7, 8, 9, 10, 11, 12, 13, 14]) (ent_mk (σ := sg [(0, 0)]) ⟨⟨_, rfl, ⟨rfl, rfl, rfl, rfl⟩⟩, ⟨_, rfl, rfl⟩, ⟨_, rfl, rfl⟩, trivial⟩ ⟨⟨_, rfl, rfl, .inl ⟨rfl, plain_of rfl⟩⟩, rfl, trivial⟩ rfl) ?_
      rcases cb h with ⟨q2, h⟩ | ⟨q2, h⟩
      · refine ac_condT rfl q2 ?_
        refine ac_skip ?_
        refine then_n ?_
        refine ac_seq ?_
        refine ac_block ?_
        refine ac_seq ?_
        refine ac_region_draw MIXX ?_
        refine aops_eff (w_field_ptr TT_ok rfl rfl rfl rfl rfl rfl rfl) rfl rfl rfl ?_
        refine aops_eff (w_load_ptr TT_ok rfl rfl rfl rfl rfl rfl rfl) rfl rfl rfl ?_
        refine aops_eff (eff_move rfl) rfl rfl rfl ?_
        obtain ⟨v3, hv3, h⟩ := ob h
        refine aops_eff (x_at_list TT_ok hv3 rfl rfl rfl rfl rfl rfl) rfl rfl rfl ?_
        refine aops_eff (w_load_ref TT_ok rfl rfl rfl rfl rfl rfl) rfl rfl rfl ?_
        refine aops_eff (w_field_ptr TT_ok rfl rfl rfl rfl rfl rfl rfl) rfl rfl rfl ?_
        refine aops_eff (w_load_ptr TT_ok rfl rfl rfl rfl rfl rfl rfl) rfl rfl rfl ?_
        refine aops_eff (x_sub rfl rfl) rfl rfl rfl ?_
        obtain ⟨v4, hv4, h⟩ := ob h
        refine aops_eff (w_call0s (c_spec_l1In v3 0 (wr (a0.n - 1)) v4 hv4) rfl (va_cons (va_same rfl) (va_cons (va_same rfl) (va_cons (va_same rfl) va_nil)))) rfl rfl rfl ?_
        refine aops_eff (w_not rfl) rfl rfl rfl ?_
        refine aops_eff (eff_move rfl) rfl rfl rfl ?_
        rcases cb h with ⟨q5, h⟩ | ⟨q5, h⟩
        · refine aops_lit 28 rfl q5 ?_
          refine aops_skip rfl rfl ?_
          refine aops_skip rfl rfl ?_
          refine aops_skip rfl rfl ?_
          refine aops_skip rfl rfl ?_
          refine aops_skip rfl rfl ?_
          refine aops_skip rfl rfl ?_
          refine aops_skip rfl rfl ?_
          refine aops_skip rfl rfl ?_
          refine aops_skip rfl rfl ?_
          refine aops_skip rfl rfl ?_
          refine aops_eff (eff_pick rfl rfl) rfl rfl rfl ?_
          refine aops_nil ?_
          refine ⟨by kernel_rfl, ?_⟩
          refine then_n ?_
          refine ac_ent (t := mkS [(1, .ptr 0 0 0), (3, .int x1), (39, .bl true)] [(0, ⟨3, [[.int a0.n, .list 1 (List.map eI a0.src), .list 1 (List.map eI a0.tgt)]]⟩)] 1 [1, 2, 3, 4, 5, 6, 7, 8, 9, 10, 11, 12, 13, 14]) (ent_mk (σ := sg [(0, 0)]) ⟨⟨_, rfl, ⟨rfl, rfl, rfl, rfl⟩⟩, ⟨_, rfl, rfl⟩, ⟨_, rfl, rfl⟩, trivial⟩ ⟨⟨_, rfl, rfl, .inl ⟨rfl, plain_of rfl⟩⟩, rfl, trivial⟩ rfl) ?_
          refine ac_condT rfl rfl ?_
          refine ac_seq ?_
          refine ac_region ?_
          refine aops_eff (eff_assign rfl) rfl rfl rfl ?_
          refine aops_nil ?_
          refine then_n ?_
          refine ac_ret ?_
          refine block_ret ?_
          refine then_ret ?_
          refine then_ret ?_
          obtain rfl := so h
          exact ⟨_, rfl, rfl, ret_mk rfl rfl rfl (fz_bl rfl)⟩
        · refine aops_lit 28 rfl q5 ?_
          refine aops_eff (w_field_ptr TT_ok rfl rfl rfl rfl rfl rfl rfl) rfl rfl rfl ?_
          refine aops_eff (w_load_ptr TT_ok rfl rfl rfl rfl rfl rfl rfl) rfl rfl rfl ?_
          refine aops_eff (eff_move rfl) rfl rfl rfl ?_
          obtain ⟨v6, hv6, h⟩ := ob h
          refine aops_eff (x_at_list TT_ok hv6 rfl rfl rfl rfl rfl rfl) rfl rfl rfl ?_
          refine aops_eff (w_load_ref TT_ok rfl rfl rfl rfl rfl rfl) rfl rfl rfl ?_
          refine aops_eff (w_field_ptr TT_ok rfl rfl rfl rfl rfl rfl rfl) rfl rfl rfl ?_
          refine aops_eff (w_load_ptr TT_ok rfl rfl rfl rfl rfl rfl rfl) rfl rfl rfl ?_
          refine aops_eff (x_sub rfl rfl) rfl rfl rfl ?_
          obtain ⟨v7, hv7, h⟩ := ob h
          refine aops_eff (w_call0s (c_spec_l1In v6 0 (wr (a0.n - 1)) v7 hv7) rfl (va_cons (va_same rfl) (va_cons (va_same rfl) (va_cons (va_same rfl) va_nil)))) rfl rfl rfl ?_
          refine aops_eff (w_not rfl) rfl rfl rfl ?_
          refine aops_eff (eff_pick rfl rfl) rfl rfl rfl ?_
          refine aops_nil ?_
          refine ⟨by kernel_rfl, ?_⟩
          refine then_n ?_
          refine ac_ent (t := mkS [(1, .ptr 0 0 0), (3, .int x1), (39, .bl (!v7))] [(0, ⟨3, [[.int a0.n, .list 1 (List.map eI a0.src), .list 1 (List.map eI a0.tgt)]]⟩)] 1 [1, 2, 3, 4, 5, 6, 7, 8, 9, 10, 11, 12, 13, 14]) (ent_mk (σ := sg [(0, 0)]) ⟨⟨_, rfl, ⟨rfl, rfl, rfl, rfl⟩⟩, ⟨_, rfl, rfl⟩, ⟨_, rfl, rfl⟩, trivial⟩ ⟨⟨_, rfl, rfl, .inl ⟨rfl, plain_of rfl⟩⟩, rfl, trivial⟩ rfl) ?_
          rcases cb h with ⟨q8, h⟩ | ⟨q8, h⟩
          · refine ac_condT rfl q8 ?_
            refine ac_seq ?_
            refine ac_region ?_
            refine aops_eff (eff_assign rfl) rfl rfl rfl ?_
            refine aops_nil ?_
            refine then_n ?_
            refine ac_ret ?_
            refine block_ret ?_
            refine then_ret ?_
            refine then_ret ?_
            obtain rfl := so h
            exact ⟨_, rfl, rfl, ret_mk rfl rfl rfl (fz_bl rfl)⟩
          · refine ac_condF rfl q8 ?_
            refine ac_skip ?_
            refine block_n ?_
            refine then_n ?_
            refine ac_region ?_
            refine aops_eff (eff_move rfl) rfl rfl rfl ?_
            refine aops_eff (x_add rfl rfl) rfl rfl rfl ?_
            refine aops_eff (eff_assign rfl) rfl rfl rfl ?_
            refine aops_nil ?_
            refine then_n ?_
            obtain rfl := so h
            exact ⟨_, rfl, (ent_mk (σ := sg [(0, 0)]) ⟨⟨_, rfl, ⟨rfl, rfl, rfl, rfl⟩⟩, ⟨_, rfl, rfl⟩, trivial⟩ ⟨⟨_, rfl, rfl, .inl ⟨rfl, plain_of rfl⟩⟩, rfl, trivial⟩ rfl)⟩
      · refine ac_condF rfl q2 ?_
        refine ac_exit ?_
        refine then_exit ?_
        refine then_exit ?_
        obtain rfl := so h
        exact ⟨_, rfl, rfl, (ent_mk (σ := sg [(0, 0)]) ⟨⟨_, rfl, ⟨rfl, rfl, rfl, rfl⟩⟩, trivial⟩ ⟨⟨_, rfl, rfl, .inl ⟨rfl, plain_of rfl⟩⟩, rfl, trivial⟩ rfl)⟩
    · refine aops_lit 9 rfl q1 ?_
      refine aops_skip rfl rfl ?_
      refine aops_skip rfl rfl ?_
      refine aops_skip rfl rfl ?_
      refine aops_skip rfl rfl ?_
      refine aops_skip rfl rfl ?_
      refine aops_eff (eff_pick rfl rfl) rfl rfl rfl ?_
      refine aops_nil ?_
      refine then_n ?_
      refine ac_ent (t := mkS [(1, .ptr 0 0 0), (3, .int x1), (15, .bl false)] [(0, ⟨3, [[.int a0.n, .list 1 (List.map eI a0.src), .list 1 (List.map eI a0.tgt)]]⟩)] 1 [1, 2, 3, 4, 5, 6, 7, 8, 9, 10, 11, 12, 13, 14]) (ent_mk (σ := sg [(0, 0)]) ⟨⟨_, rfl, ⟨rfl, rfl, rfl, rfl⟩⟩, ⟨_, rfl, rfl⟩, ⟨_, rfl, rfl⟩, trivial⟩ ⟨⟨_, rfl, rfl, .inl ⟨rfl, plain_of rfl⟩⟩, rfl, trivial⟩ rfl) ?_
      refine ac_condF rfl rfl ?_
      refine ac_exit ?_
      refine then_exit ?_
      refine then_exit ?_
      obtain rfl := so h
      exact ⟨_, rfl, rfl, (ent_mk (σ := sg [(0, 0)]) ⟨⟨_, rfl, ⟨rfl, rfl, rfl, rfl⟩⟩, trivial⟩ ⟨⟨_, rfl, rfl, .inl ⟨rfl, plain_of rfl⟩⟩, rfl, trivial⟩ rfl)⟩
  · intro e t hX
    rcases y9 with y10 | y14
    · obtain ⟨rfl, hent⟩ := hX
      refine block_here ?_
      refine then_n ?_
      refine ac_ent hent ?_
      refine ac_seq ?_
      refine ac_region ?_
      refine aops_eff (w_field_ptr TT_ok rfl rfl rfl rfl rfl rfl rfl) rfl rfl rfl ?_
      refine aops_eff (w_load_ptr TT_ok rfl rfl rfl rfl rfl rfl rfl) rfl rfl rfl ?_
      obtain ⟨v11, hv11, h⟩ := ob h
      refine aops_eff (w_call0s (c_spec_l1In a0.n 1 5 v11 hv11) rfl (va_cons (va_same rfl) (va_cons (va_same rfl) (va_cons (va_same rfl) va_nil)))) rfl rfl rfl ?_
      refine aops_eff (eff_move rfl) rfl rfl rfl ?_
      rcases cb h with ⟨q12, h⟩ | ⟨q12, h⟩
      · refine aops_lit 43 rfl q12 ?_
        refine aops_eff (w_field_ptr TT_ok rfl rfl rfl rfl rfl rfl rfl) rfl rfl rfl ?_
        refine aops_eff (w_load_ptr TT_ok rfl rfl rfl rfl rfl rfl rfl) rfl rfl rfl ?_
        refine aops_eff (AEff.val (w_len_list TT_ok rfl rfl rfl) (v' := .int (a0.src.length : Int)) (by first | rw [len_map] | rw [encI_len])) rfl rfl rfl ?_
        refine aops_eff (w_cmp rfl rfl rfl) rfl rfl rfl ?_
        refine aops_eff (eff_pick rfl rfl) rfl rfl rfl ?_
        refine aops_eff (eff_move rfl) rfl rfl rfl ?_
        rcases cb h with ⟨q13, h⟩ | ⟨q13, h⟩
        · refine aops_lit 49 rfl q13 ?_
          refine aops_eff (w_field_ptr TT_ok rfl rfl rfl rfl rfl rfl rfl) rfl rfl rfl ?_
          refine aops_eff (w_load_ptr TT_ok rfl rfl rfl rfl rfl rfl rfl) rfl rfl rfl ?_
          refine aops_eff (AEff.val (w_len_list TT_ok rfl rfl rfl) (v' := .int (a0.tgt.length : Int)) (by first | rw [len_map] | rw [encI_len])) rfl rfl rfl ?_
          refine aops_eff (w_field_ptr TT_ok rfl rfl rfl rfl rfl rfl rfl) rfl rfl rfl ?_
          refine aops_eff (w_load_ptr TT_ok rfl rfl rfl rfl rfl rfl rfl) rfl rfl rfl ?_
          refine aops_eff (AEff.val (w_len_list TT_ok rfl rfl rfl) (v' := .int (a0.src.length : Int)) (by first | rw [len_map] | rw [encI_len])) rfl rfl rfl ?_
          refine aops_eff (w_cmp rfl rfl rfl) rfl rfl rfl ?_
          refine aops_eff (eff_pick rfl rfl) rfl rfl rfl ?_
          refine aops_eff (eff_assign rfl) rfl rfl rfl ?_
          refine aops_nil ?_
          refine then_n ?_
          refine ac_ent (t := mkS [(2, .bl (decide ((a0.tgt.length : Int) = (a0.src.length : Int))))] [] 1 [1, 2, 3, 4, 5, 6, 7, 8, 9, 10, 11, 12, 13, 14]) (ent_mk (σ := sg []) ⟨⟨_, rfl, rfl⟩, trivial⟩ trivial rfl) ?_
          refine ac_ret ?_
          obtain rfl := so h
          exact ret_mk rfl rfl rfl (fz_bl rfl)
        · refine aops_lit 49 rfl q13 ?_
          refine aops_skip rfl rfl ?_
          refine aops_skip rfl rfl ?_
          refine aops_skip rfl rfl ?_
          refine aops_skip rfl rfl ?_
          refine aops_skip rfl rfl ?_
          refine aops_skip rfl rfl ?_
          refine aops_skip rfl rfl ?_
          refine aops_eff (eff_pick rfl rfl) rfl rfl rfl ?_
          refine aops_eff (eff_assign rfl) rfl rfl rfl ?_
          refine aops_nil ?_
          refine then_n ?_
          refine ac_ent (t := mkS [(2, .bl false)] [] 1 [1, 2, 3, 4, 5, 6, 7, 8, 9, 10, 11, 12, 13, 14]) (ent_mk (σ := sg []) ⟨⟨_, rfl, rfl⟩, trivial⟩ trivial rfl) ?_
          refine ac_ret ?_
          obtain rfl := so h
          exact ret_mk rfl rfl rfl (fz_bl rfl)
      · refine aops_lit 43 rfl q12 ?_
        refine aops_skip rfl rfl ?_
        refine aops_skip rfl rfl ?_
        refine aops_skip rfl rfl ?_
        refine aops_skip rfl rfl ?_
        refine aops_eff (eff_pick rfl rfl) rfl rfl rfl ?_
        refine aops_eff (eff_move rfl) rfl rfl rfl ?_
        refine aops_skip rfl rfl ?_
        refine aops_skip rfl rfl ?_
        refine aops_skip rfl rfl ?_
        refine aops_skip rfl rfl ?_
        refine aops_skip rfl rfl ?_
        refine aops_skip rfl rfl ?_
        refine aops_skip rfl rfl ?_
        refine aops_eff (eff_pick rfl rfl) rfl rfl rfl ?_
        refine aops_eff (eff_assign rfl) rfl rfl rfl ?_
        refine aops_nil ?_
        refine then_n ?_
        refine ac_ent (t := mkS [(2, .bl false)] [] 1 [1, 2, 3, 4, 5, 6, 7, 8, 9, 10, 11, 12, 13, 14]) (ent_mk (σ := sg []) ⟨⟨_, rfl, rfl⟩, trivial⟩ trivial rfl) ?_
        refine ac_ret ?_
        obtain rfl := so h
        exact ret_mk rfl rfl rfl (fz_bl rfl)
    · obtain ⟨rfl, hent⟩ := hX
      refine block_ret ?_
      refine then_ret ?_
      obtain rfl := so h
      exact hent

def m_impl_zero (a0 : Int) (a1 : Int) : Option Mt :=
  bif (decide (0 ≤ wr (a0 * a1)) && decide (wr (a0 * a1) ≤ 1048576)) then
    (some ((⟨a0, a1, (List.replicate ((wr (a0 * a1)).toNat) (0 : Int))⟩ : Mt)))
  else none

theorem c_impl_zero (a0 : Int) (a1 : Int) (r : Mt) (h : m_impl_zero a0 a1 = some r) : HasC Try.prog 116 [.int a0, .int a1] (.agg (eM r)) := by
  refine hasC_mk TT_ok (rvs := [.cell 4 81]) (ns := [0, 1, 2, 3, 4, 5, 6, 7, 8, 9, 10, 11, 12, 13]) Try.func116 rfl rfl Try.ntmps116 rfl rfl rfl ?_
  refine ac_seq ?_
  refine ac_region ?_
  refine aops_eff (w_alloc TT_ok rfl rfl) rfl rfl rfl ?_
  refine aops_nil ?_
  refine then_n ?_
  refine ac_seq ?_
  refine ac_region ?_
  refine aops_eff (eff_move rfl) rfl rfl rfl ?_
  refine aops_eff (eff_move rfl) rfl rfl rfl ?_
  refine aops_eff (eff_move rfl) rfl rfl rfl ?_
  refine aops_eff (eff_move rfl) rfl rfl rfl ?_
  refine aops_eff (x_mul rfl rfl) rfl rfl rfl ?_
  obtain ⟨q1, h⟩ := cg h
  refine aops_eff (x_make TT_ok q1 rfl rfl rfl rfl rfl rfl rfl rfl) rfl rfl rfl ?_
  refine aops_eff (w_build TT_ok rfl rfl rfl rfl rfl rfl) rfl rfl rfl ?_
  refine aops_eff (w_store TT_ok rfl rfl rfl rfl rfl rfl rfl rfl) rfl rfl rfl ?_
  refine aops_nil ?_
  refine then_n ?_
  refine ac_ent (t := mkS [(4, .ptr 0 0 0)] [(0, ⟨3, [[.int a0, .int a1, .own 1 0 ((List.replicate ((wr (a0 * a1)).toNat) (0 : Int)).length)]]⟩), (1, ⟨1, List.map (ow eI) (List.replicate ((wr (a0 * a1)).toNat) (0 : Int))⟩)] 2 [2, 3, 4, 5, 6, 7, 8, 9, 10, 11, 12, 13, 14, 15]) (ent_mk (σ := sg [(0, 0), (1, 1)]) ⟨⟨_, rfl, ⟨rfl, rfl, rfl, rfl⟩⟩, trivial⟩ ⟨⟨_, rfl, rfl, .inr ⟨_, _, rfl, ⟨_, _, rfl, rfl, ⟨_, _, rfl, rfl, ⟨_, _, rfl, ⟨rfl, rfl, (by simp only [len_map, List.length_append, List.length_set, List.length_replicate, List.length_cons, List.length_nil]), rfl⟩, rfl⟩⟩⟩, rfl⟩⟩, rfl, ⟨_, rfl, rfl, .inl ⟨rep_eq (e := eI) (z := 0) _, okI.plainO _⟩⟩, rfl, trivial⟩ rfl) ?_
  refine ac_ret ?_
  obtain rfl := so h
  exact ret_mk rfl rfl rfl (xz_agg (x1_cons (rfl) (x1_cons (rfl) (x1_cons (x_f1 okI rfl rfl) x1_nil))))

def m_impl_Matrix_row (a0 : Mt) (a1 : Int) : Option Unit :=
  bif (decide (0 ≤ wr (a1 * a0.cols)) && (decide (wr (a1 * a0.cols) ≤ wr ((wr (a1 + 1)) * a0.cols)) && decide (wr ((wr (a1 + 1)) * a0.cols) ≤ ((a0.cells.length : Nat) : Int)))) then
    (some ())
  else none

theorem c_impl_Matrix_row (a0 : Mt) (a1 : Int) (r : Unit) (h : m_impl_Matrix_row a0 a1 = some r) : HasE Try.prog 143 [.agg [.int a0.rows, .int a0.cols, .own 0 0 a0.cells.length], .int a1] [(0, ⟨1, List.map (ow eI) a0.cells⟩)] 1 (.own 0 (0 + (wr (a1 * a0.cols)).toNat) ((wr ((wr (a1 + 1)) * a0.cols)).toNat - (wr (a1 * a0.cols)).toNat)) [(0, ⟨1, List.map (ow eI) a0.cells⟩)] := by
  refine hasE_mk TT_ok (rvs := [.tmp 4]) (ns := [1, 2, 3, 4, 5, 6, 7, 8, 9, 10, 11, 12, 13, 14]) Try.func143 rfl rfl Try.ntmps143 rfl rfl ?_
  refine ac_seq ?_
  refine ac_region ?_
  refine aops_eff (w_box rfl rfl rfl rfl) rfl rfl rfl ?_
  refine aops_eff (eff_assign rfl) rfl rfl rfl ?_
  refine aops_nil ?_
  refine then_n ?_
  refine ac_seq ?_
  refine ac_region ?_
  refine aops_eff (w_field_ptr TT_ok rfl rfl rfl rfl rfl rfl rfl) rfl rfl rfl ?_
  refine aops_eff (w_load_ptr TT_ok rfl rfl rfl rfl rfl rfl rfl) rfl rfl rfl ?_
  refine aops_eff (eff_move rfl) rfl rfl rfl ?_
  refine aops_eff (w_field_ptr TT_ok rfl rfl rfl rfl rfl rfl rfl) rfl rfl rfl ?_
  refine aops_eff (w_load_ptr TT_ok rfl rfl rfl rfl rfl rfl rfl) rfl rfl rfl ?_
  refine aops_eff (x_mul rfl rfl) rfl rfl rfl ?_
  refine aops_eff (eff_move rfl) rfl rfl rfl ?_
  refine aops_eff (x_add rfl rfl) rfl rfl rfl ?_
  refine aops_eff (w_field_ptr TT_ok rfl rfl rfl rfl rfl rfl rfl) rfl rfl rfl ?_
  refine aops_eff (w_load_ptr TT_ok rfl rfl rfl rfl rfl rfl rfl) rfl rfl rfl ?_
  refine aops_eff (x_mul rfl rfl) rfl rfl rfl ?_
  obtain ⟨q1, h⟩ := cg h
  refine aops_eff (x_slice_own TT_ok (l := wr (a1 * a0.cols)) (h := wr ((wr (a1 + 1)) * a0.cols)) q1 rfl rfl rfl rfl rfl rfl rfl rfl) rfl rfl rfl ?_
  refine aops_eff (eff_assign rfl) rfl rfl rfl ?_
  refine aops_nil ?_
  refine then_n ?_
  refine ac_ent (t := mkS [(4, .own 0 (0 + (wr (a1 * a0.cols)).toNat) ((wr ((wr (a1 + 1)) * a0.cols)).toNat - (wr (a1 * a0.cols)).toNat))] [(0, ⟨1, List.map (ow eI) a0.cells⟩)] 2 [2, 3, 4, 5, 6, 7, 8, 9, 10, 11, 12, 13, 14, 15] 1) (ent_mk (σ := sg [(0, 0)]) ⟨⟨_, rfl, ⟨rfl, rfl, rfl, rfl⟩⟩, trivial⟩ ⟨⟨_, rfl, rfl, .inl ⟨rfl, okI.plainO _⟩⟩, rfl, trivial⟩ rfl) ?_
  refine ac_ret ?_
  obtain rfl := so h
  exact ⟨mkS [(4, .own 0 (0 + (wr (a1 * a0.cols)).toNat) ((wr ((wr (a1 + 1)) * a0.cols)).toNat - (wr (a1 * a0.cols)).toNat))] [(0, ⟨1, List.map (ow eI) a0.cells⟩)] 1 [1, 2, 3, 4, 5, 6, 7, 8, 9, 10, 11, 12, 13, 14] 1, (ent_mk (σ := sg [(0, 0)]) ⟨⟨_, rfl, ⟨rfl, rfl, rfl, rfl⟩⟩, trivial⟩ ⟨⟨_, rfl, rfl, .inl ⟨rfl, okI.plainO _⟩⟩, rfl, trivial⟩ rfl), rfl, ⟨_, rfl, .inl rfl⟩, ⟨rfl, trivial⟩⟩

noncomputable def m_impl_addMultiple_L1 (a0 : Int) (a2 : Int) (a3 : (List Int)) (n1 : Nat) (s1 : Nat) (x1 : ((List Int) × Int)) : Option (((List Int) × Int) ⊕ (List Int)) :=
  bif decide (x1.2 < (a3.length : Int)) then
    (Option.bind (atL a3 x1.2) fun v2 =>
    bif (decide (0 ≤ x1.2) && decide (x1.2 < ((n1 : Nat) : Int))) then
      (Option.bind (x1.1[(s1 + x1.2.toNat)]?) fun v3 =>
      bif !decide (a0 = 0) then
        (bif (decide (0 ≤ x1.2) && decide (x1.2 < ((n1 : Nat) : Int))) then
          (Option.bind (x1.1[(s1 + x1.2.toNat)]?) fun v5 =>
          some (.inl ((x1.1.set (s1 + x1.2.toNat) ((wr (v3 + (wr (a2 * v2)))).tmod a0)), wr (x1.2 + 1)))
          )
        else none)
      else none
      )
    else none)
  else
    (some (.inr x1.1))

noncomputable def m_impl_addMultiple (a0 : Int) (c0 : (List Int)) (s1 : Nat) (n1 : Nat) (a2 : Int) (a3 : (List Int)) : Option (List Int) :=
  Option.bind (Lp (m_impl_addMultiple_L1 a0 a2 a3 n1 s1) (c0, 0)) fun y8 =>
  some y8

theorem c_impl_addMultiple (a0 : Int) (c0 : (List Int)) (s1 : Nat) (n1 : Nat) (a2 : Int) (a3 : (List Int)) (r : (List Int)) (h : m_impl_addMultiple a0 c0 s1 n1 a2 a3 = some r) : HasE Try.prog 164 [.int a0, .own 0 s1 n1, .int a2, .list 1 (List.map eI a3)] [(0, ⟨1, List.map (ow eI) c0⟩)] 1 (.own 0 s1 n1) [(0, ⟨1, List.map (ow eI) r⟩)] := by
  refine hasE_mk TT_ok (rvs := [.tmp 8]) (ns := [1, 2, 3, 4, 5, 6, 7, 8, 9, 10, 11, 12, 13, 14]) Try.func164 rfl rfl Try.ntmps164 rfl rfl ?_
  refine ac_seq ?_
  refine ac_region ?_
  refine aops_eff (eff_assign rfl) rfl rfl rfl ?_
  refine aops_nil ?_
  refine then_n ?_
  refine ac_seq ?_
  refine ac_seq ?_
  refine ac_region ?_
  refine aops_eff (eff_move rfl) rfl rfl rfl ?_
  refine aops_eff (AEff.val (w_len_list TT_ok rfl rfl rfl) (v' := .int (a3.length : Int)) (by first | rw [len_map] | rw [encI_len])) rfl rfl rfl ?_
  refine aops_eff (eff_move rfl) rfl rfl rfl ?_
  refine aops_nil ?_
  refine then_n ?_
  refine ac_block ?_
  obtain ⟨y8, hy8, h⟩ := ob h
  refine ac_Lp (body := (m_impl_addMultiple_L1 a0 a2 a3 n1 s1)) hy8 (fun (x1 : ((List Int) × Int)) => mkS [(0, .int a0), (1, .own 0 s1 n1), (2, .int a2), (11, .list 1 (List.map eI a3)), (12, .int (a3.length : Int)), (13, .int x1.2)] [(0, ⟨1, List.map (ow eI) x1.1⟩)] 1 [1, 2, 3, 4, 5, 6, 7, 8, 9, 10, 11, 12, 13, 14] 1) (fun r e t => e = .exit 0 ∧ Ent t (mkS [(1, .own 0 s1 n1)] [(0, ⟨1, List.map (ow eI) r⟩)] 1 [1, 2, 3, 4, 5, 6, 7, 8, 9, 10, 11, 12, 13, 14] 1)) (ent_mk (σ := sg [(0, 0)]) ⟨⟨_, rfl, rfl⟩, ⟨_, rfl, ⟨rfl, rfl, rfl, rfl⟩⟩, ⟨_, rfl, rfl⟩, ⟨_, rfl, ⟨rfl, rfl⟩⟩, ⟨_, rfl, rfl⟩, ⟨_, rfl, rfl⟩, trivial⟩ ⟨⟨_, rfl, rfl, .inl ⟨rfl, okI.plainO _⟩⟩, rfl, trivial⟩ rfl) ?_ ?_
  · intro x1 o h
    refine ac_seq ?_
    refine ac_region ?_
    refine aops_eff (w_cmp rfl rfl rfl) rfl rfl rfl ?_
    refine aops_nil ?_
    refine then_n ?_
    refine ac_seq ?_
    rcases cb h with ⟨q1, h⟩ | ⟨q1, h⟩
    · refine ac_condT rfl q1 ?_
      refine ac_skip ?_
      refine then_n ?_
      refine ac_seq ?_
      refine ac_block ?_
      refine ac_seq ?_
      refine ac_region ?_
      refine aops_eff (eff_move rfl) rfl rfl rfl ?_
      obtain ⟨v2, hv2, h⟩ := ob h
      refine aops_eff (x_at_list TT_ok hv2 rfl rfl rfl rfl rfl rfl) rfl rfl rfl ?_
      refine aops_eff (w_load_ref TT_ok rfl rfl rfl rfl rfl rfl) rfl rfl rfl ?_
      refine aops_eff (eff_assign rfl) rfl rfl rfl ?_
      refine aops_eff (eff_assign rfl) rfl rfl rfl ?_
      refine aops_nil ?_
      refine then_n ?_
      refine ac_region ?_
      refine aops_eff (eff_move rfl) rfl rfl rfl ?_
      refine aops_eff (eff_move rfl) rfl rfl rfl ?_
      refine aops_eff (eff_move rfl) rfl rfl rfl ?_
      refine aops_eff (eff_move rfl) rfl rfl rfl ?_
      obtain ⟨q4, h⟩ := cg h
      obtain ⟨v3, hv3, h⟩ := ob h
      refine aops_eff (x_at_part TT_ok q4 rfl rfl rfl rfl rfl rfl rfl) rfl rfl rfl ?_
      refine aops_eff (w_load_ptr TT_ok rfl rfl rfl rfl (map_at (hv3)) rfl rfl) rfl rfl rfl ?_
      refine aops_eff (eff_move rfl) rfl rfl rfl ?_
      refine aops_eff (eff_move rfl) rfl rfl rfl ?_
      refine aops_eff (x_mul rfl rfl) rfl rfl rfl ?_
      refine aops_eff (x_add rfl rfl) rfl rfl rfl ?_
      refine aops_eff (eff_move rfl) rfl rfl rfl ?_
      obtain ⟨q7, h⟩ := cg h
      refine aops_eff (x_rem rfl rfl q7) rfl rfl rfl ?_
      obtain ⟨q6, h⟩ := cg h
      obtain ⟨v5, hv5, h⟩ := ob h
      refine aops_eff (x_at_part TT_ok q6 rfl rfl rfl rfl rfl rfl rfl) rfl rfl rfl ?_
      refine aops_eff (x_store TT_ok okIo (u := (wr (v3 + (wr (a2 * v2)))).tmod a0) (hv5) rfl rfl rfl rfl rfl rfl) rfl rfl rfl ?_
      refine aops_nil ?_
      refine block_n ?_
      refine then_n ?_
      refine ac_ent (t := mkS [(0, .int a0), (1, .own 0 s1 n1), (2, .int a2), (11, .list 1 (List.map eI a3)), (12, .int (a3.length : Int)), (13, .int x1.2)] [(0, ⟨1, List.map (ow eI) (x1.1.set (s1 + x1.2.toNat) ((wr (v3 + (wr (a2 * v2)))).tmod a0))⟩)] 1 [1, 2, 3, 4, 5, 6, 7, 8, 9, 10, 11, 12, 13, 14] 1) (ent_mk (σ := sg [(0, 0)]) ⟨⟨_, rfl, rfl⟩, ⟨_, rfl, ⟨rfl, rfl, rfl, rfl⟩⟩, ⟨_, rfl, rfl⟩, ⟨_, rfl, ⟨rfl, rfl⟩⟩, ⟨_, rfl, rfl⟩, ⟨_, rfl, rfl⟩, trivial⟩ ⟨⟨_, rfl, rfl, .inl ⟨rfl, okI.plainO _⟩⟩, rfl, trivial⟩ rfl) ?_
      refine ac_region ?_
      refine aops_eff (x_add rfl rfl) rfl rfl rfl ?_
      refine aops_eff (eff_move rfl) rfl rfl rfl ?_
      refine aops_nil ?_
      refine then_n ?_
      obtain rfl := so h
      exact ⟨_, rfl, (ent_mk (σ := sg [(0, 0)]) ⟨⟨_, rfl, rfl⟩, ⟨_, rfl, ⟨rfl, rfl, rfl, rfl⟩⟩, ⟨_, rfl, rfl⟩, ⟨_, rfl, ⟨rfl, rfl⟩⟩, ⟨_, rfl, rfl⟩, ⟨_, rfl, rfl⟩, trivial⟩ ⟨⟨_, rfl, rfl, .inl ⟨rfl, okI.plainO _⟩⟩, rfl, trivial⟩ rfl)⟩
    · refine ac_condF rfl q1 ?_
      refine ac_exit ?_
      refine then_exit ?_
      refine then_exit ?_
      obtain rfl := so h
      exact ⟨_, rfl, rfl, (ent_mk (σ := sg [(0, 0)]) ⟨⟨_, rfl, ⟨rfl, rfl, rfl, rfl⟩⟩, trivial⟩ ⟨⟨_, rfl, rfl, .inl ⟨rfl, okI.plainO _⟩⟩, rfl, trivial⟩ rfl)⟩
  · rintro e t ⟨rfl, hent⟩
    refine block_here ?_
    refine then_n ?_
    refine ac_ent hent ?_
    refine ac_seq ?_
    refine ac_region ?_
    refine aops_eff (eff_move rfl) rfl rfl rfl ?_
    refine aops_eff (eff_assign rfl) rfl rfl rfl ?_
    refine aops_nil ?_
    refine then_n ?_
    refine ac_ret ?_
    obtain rfl := so h
    exact ⟨mkS [(8, .own 0 s1 n1)] [(0, ⟨1, List.map (ow eI) y8⟩)] 1 [1, 2, 3, 4, 5, 6, 7, 8, 9, 10, 11, 12, 13, 14] 1, (ent_mk (σ := sg [(0, 0)]) ⟨⟨_, rfl, ⟨rfl, rfl, rfl, rfl⟩⟩, trivial⟩ ⟨⟨_, rfl, rfl, .inl ⟨rfl, okI.plainO _⟩⟩, rfl, trivial⟩ rfl), rfl, ⟨_, rfl, .inl rfl⟩, ⟨rfl, trivial⟩⟩

noncomputable def m_impl_addMultiple_same_L1 (a0 : Int) (a2 : Int) (n1 : Nat) (n3 : Nat) (s1 : Nat) (s3 : Nat) (x1 : ((List Int) × Int)) : Option (((List Int) × Int) ⊕ (List Int)) :=
  bif decide (x1.2 < ((n3 : Nat) : Int)) then
    (bif (decide (0 ≤ x1.2) && decide (x1.2 < ((n3 : Nat) : Int))) then
      (Option.bind (x1.1[(s3 + x1.2.toNat)]?) fun v2 =>
      bif (decide (0 ≤ x1.2) && decide (x1.2 < ((n1 : Nat) : Int))) then
        (Option.bind (x1.1[(s1 + x1.2.toNat)]?) fun v4 =>
        bif !decide (a0 = 0) then
          (bif (decide (0 ≤ x1.2) && decide (x1.2 < ((n1 : Nat) : Int))) then
            (Option.bind (x1.1[(s1 + x1.2.toNat)]?) fun v6 =>
            some (.inl ((x1.1.set (s1 + x1.2.toNat) ((wr (v4 + (wr (a2 * v2)))).tmod a0)), wr (x1.2 + 1)))
            )
          else none)
        else none
        )
      else none
      )
    else none)
  else
    (some (.inr x1.1))

noncomputable def m_impl_addMultiple_same (a0 : Int) (c0 : (List Int)) (s1 : Nat) (n1 : Nat) (a2 : Int) (s3 : Nat) (n3 : Nat) : Option (List Int) :=
  Option.bind (Lp (m_impl_addMultiple_same_L1 a0 a2 n1 n3 s1 s3) (c0, 0)) fun y9 =>
  some y9

theorem c_impl_addMultiple_same (a0 : Int) (c0 : (List Int)) (s1 : Nat) (n1 : Nat) (a2 : Int) (s3 : Nat) (n3 : Nat) (r : (List Int)) (h : m_impl_addMultiple_same a0 c0 s1 n1 a2 s3 n3 = some r) : HasE Try.prog 164 [.int a0, .own 0 s1 n1, .int a2, .own 0 s3 n3] [(0, ⟨1, List.map (ow eI) c0⟩)] 1 (.own 0 s1 n1) [(0, ⟨1, List.map (ow eI) r⟩)] := by
  refine hasE_mk TT_ok (rvs := [.tmp 8]) (ns := [1, 2, 3, 4, 5, 6, 7, 8, 9, 10, 11, 12, 13, 14]) Try.func164 rfl rfl Try.ntmps164 rfl rfl ?_
  refine ac_seq ?_
  refine ac_region ?_
  refine aops_eff (eff_assign rfl) rfl rfl rfl ?_
  refine aops_nil ?_
  refine then_n ?_
  refine ac_seq ?_
  refine ac_seq ?_
  refine ac_region ?_
  refine aops_eff (eff_move rfl) rfl rfl rfl ?_
  refine aops_eff (w_len_own TT_ok rfl rfl rfl rfl) rfl rfl rfl ?_
  refine aops_eff (eff_move rfl) rfl rfl rfl ?_
  refine aops_nil ?_
  refine then_n ?_
  refine ac_block ?_
  obtain ⟨y9, hy9, h⟩ := ob h
  refine ac_Lp (body := (m_impl_addMultiple_same_L1 a0 a2 n1 n3 s1 s3)) hy9 (fun (x1 : ((List Int) × Int)) => mkS [(0, .int a0), (1, .own 0 s1 n1), (2, .int a2), (11, .own 0 s3 n3), (12, .int ((n3 : Nat) : Int)), (13, .int x1.2)] [(0, ⟨1, List.map (ow eI) x1.1⟩)] 1 [1, 2, 3, 4, 5, 6, 7, 8, 9, 10, 11, 12, 13, 14] 1) (fun r e t => e = .exit 0 ∧ Ent t (mkS [(1, .own 0 s1 n1)] [(0, ⟨1, List.map (ow eI) r⟩)] 1 [1, 2, 3, 4, 5, 6, 7, 8, 9, 10, 11, 12, 13, 14] 1)) (ent_mk (σ := sg [(0, 0)]) ⟨⟨_, rfl, rfl⟩, ⟨_, rfl, ⟨rfl, rfl, rfl, rfl⟩⟩, ⟨_, rfl, rfl⟩, ⟨_, rfl, ⟨rfl, rfl, rfl, rfl⟩⟩, ⟨_, rfl, rfl⟩, ⟨_, rfl, rfl⟩, trivial⟩ ⟨⟨_, rfl, rfl, .inl ⟨rfl, okI.plainO _⟩⟩, rfl, trivial⟩ rfl) ?_ ?_
  · intro x1 o h
    refine ac_seq ?_
    refine ac_region ?_
    refine aops_eff (w_cmp rfl rfl rfl) rfl rfl rfl ?_
    refine aops_nil ?_
    refine then_n ?_
    refine ac_seq ?_
    rcases cb h with ⟨q1, h⟩ | ⟨q1, h⟩
    · refine ac_condT rfl q1 ?_
      refine ac_skip ?_
      refine then_n ?_
      refine ac_seq ?_
      refine ac_block ?_
      refine ac_seq ?_
      refine ac_region ?_
      refine aops_eff (eff_move rfl) rfl rfl rfl ?_
      obtain ⟨q3, h⟩ := cg h
      obtain ⟨v2, hv2, h⟩ := ob h
      refine aops_eff (x_at_part TT_ok q3 rfl rfl rfl rfl rfl rfl rfl) rfl rfl rfl ?_
      refine aops_eff (w_load_ptr TT_ok rfl rfl rfl rfl (map_at (hv2)) rfl rfl) rfl rfl rfl ?_
      refine aops_eff (eff_assign rfl) rfl rfl rfl ?_
      refine aops_eff (eff_assign rfl) rfl rfl rfl ?_
      refine aops_nil ?_
      refine then_n ?_
      refine ac_region ?_
      refine aops_eff (eff_move rfl) rfl rfl rfl ?_
      refine aops_eff (eff_move rfl) rfl rfl rfl ?_
      refine aops_eff (eff_move rfl) rfl rfl rfl ?_
      refine aops_eff (eff_move rfl) rfl rfl rfl ?_
      obtain ⟨q5, h⟩ := cg h
      obtain ⟨v4, hv4, h⟩ := ob h
      refine aops_eff (x_at_part TT_ok q5 rfl rfl rfl rfl rfl rfl rfl) rfl rfl rfl ?_
      refine aops_eff (w_load_ptr TT_ok rfl rfl rfl rfl (map_at (hv4)) rfl rfl) rfl rfl rfl ?_
      refine aops_eff (eff_move rfl) rfl rfl rfl ?_
      refine aops_eff (eff_move rfl) rfl rfl rfl ?_
      refine aops_eff (x_mul rfl rfl) rfl rfl rfl ?_
      refine aops_eff (x_add rfl rfl) rfl rfl rfl ?_
      refine aops_eff (eff_move rfl) rfl rfl rfl ?_
      obtain ⟨q8, h⟩ := cg h
      refine aops_eff (x_rem rfl rfl q8) rfl rfl rfl ?_
      obtain ⟨q7, h⟩ := cg h
      obtain ⟨v6, hv6, h⟩ := ob h
      refine aops_eff (x_at_part TT_ok q7 rfl rfl rfl rfl rfl rfl rfl) rfl rfl rfl ?_
      refine aops_eff (x_store TT_ok okIo (u := (wr (v4 + (wr (a2 * v2)))).tmod a0) (hv6) rfl rfl rfl rfl rfl rfl) rfl rfl rfl ?_
      refine aops_nil ?_
      refine block_n ?_
      refine then_n ?_
      refine ac_ent (t := mkS [(0, .int a0), (1, .own 0 s1 n1), (2, .int a2), (11, .own 0 s3 n3), (12, .int ((n3 : Nat) : Int)), (13, .int x1.2)] [(0, ⟨1, List.map (ow eI) (x1.1.set (s1 + x1.2.toNat) ((wr (v4 + (wr (a2 * v2)))).tmod a0))⟩)] 1 [1, 2, 3, 4, 5, 6, 7, 8, 9, 10, 11, 12, 13, 14] 1) (ent_mk (σ := sg [(0, 0)]) ⟨⟨_, rfl, rfl⟩, ⟨_, rfl, ⟨rfl, rfl, rfl, rfl⟩⟩, ⟨_, rfl, rfl⟩, ⟨_, rfl, ⟨rfl, rfl, rfl, rfl⟩⟩, ⟨_, rfl, rfl⟩, ⟨_, rfl, rfl⟩, trivial⟩ ⟨⟨_, rfl, rfl, .inl ⟨rfl, okI.plainO _⟩⟩, rfl, trivial⟩ rfl) ?_
      refine ac_region ?_
      refine aops_eff (x_add rfl rfl) rfl rfl rfl ?_
      refine aops_eff (eff_move rfl) rfl rfl rfl ?_
      refine aops_nil ?_
      refine then_n ?_
      obtain rfl := so h
      exact ⟨_, rfl, (ent_mk (σ := sg [(0, 0)]) ⟨⟨_, rfl, rfl⟩, ⟨_, rfl, ⟨rfl, rfl, rfl, rfl⟩⟩, ⟨_, rfl, rfl⟩, ⟨_, rfl, ⟨rfl, rfl, rfl, rfl⟩⟩, ⟨_, rfl, rfl⟩, ⟨_, rfl, rfl⟩, trivial⟩ ⟨⟨_, rfl, rfl, .inl ⟨rfl, okI.plainO _⟩⟩, rfl, trivial⟩ rfl)⟩
    · refine ac_condF rfl q1 ?_
      refine ac_exit ?_
      refine then_exit ?_
      refine then_exit ?_
      obtain rfl := so h
      exact ⟨_, rfl, rfl, (ent_mk (σ := sg [(0, 0)]) ⟨⟨_, rfl, ⟨rfl, rfl, rfl, rfl⟩⟩, trivial⟩ ⟨⟨_, rfl, rfl, .inl ⟨rfl, okI.plainO _⟩⟩, rfl, trivial⟩ rfl)⟩
  · rintro e t ⟨rfl, hent⟩
    refine block_here ?_
    refine then_n ?_
    refine ac_ent hent ?_
    refine ac_seq ?_
    refine ac_region ?_
    refine aops_eff (eff_move rfl) rfl rfl rfl ?_
    refine aops_eff (eff_assign rfl) rfl rfl rfl ?_
    refine aops_nil ?_
    refine then_n ?_
    refine ac_ret ?_
    obtain rfl := so h
    exact ⟨mkS [(8, .own 0 s1 n1)] [(0, ⟨1, List.map (ow eI) y9⟩)] 1 [1, 2, 3, 4, 5, 6, 7, 8, 9, 10, 11, 12, 13, 14] 1, (ent_mk (σ := sg [(0, 0)]) ⟨⟨_, rfl, ⟨rfl, rfl, rfl, rfl⟩⟩, trivial⟩ ⟨⟨_, rfl, rfl, .inl ⟨rfl, okI.plainO _⟩⟩, rfl, trivial⟩ rfl), rfl, ⟨_, rfl, .inl rfl⟩, ⟨rfl, trivial⟩⟩

def m_spec_l2Mod (a0 : Int) (a1 : Int) : Option Int :=
  bif !decide (a0 = 0) then
    (bif decide (a1.tmod a0 < 0) then
      (some (wr ((a1.tmod a0) + a0)))
    else
      (some (a1.tmod a0)))
  else none

theorem c_spec_l2Mod (a0 : Int) (a1 : Int) (r : Int) (h : m_spec_l2Mod a0 a1 = some r) : HasC Try.prog 141 [.int a0, .int a1] (.int r) := by
  refine hasC_mk TT_ok (rvs := [.tmp 4]) (ns := [0, 1, 2, 3, 4, 5, 6, 7, 8, 9, 10, 11, 12, 13]) Try.func141 rfl rfl Try.ntmps141 rfl rfl rfl ?_
  refine ac_seq ?_
  refine ac_region ?_
  refine aops_eff (eff_assign rfl) rfl rfl rfl ?_
  refine aops_nil ?_
  refine then_n ?_
  refine ac_seq ?_
  refine ac_region ?_
  refine aops_eff (eff_move rfl) rfl rfl rfl ?_
  refine aops_eff (eff_move rfl) rfl rfl rfl ?_
  obtain ⟨q2, h⟩ := cg h
  refine aops_eff (x_rem rfl rfl q2) rfl rfl rfl ?_
  refine aops_eff (eff_assign rfl) rfl rfl rfl ?_
  refine aops_nil ?_
  refine then_n ?_
  refine ac_seq ?_
  refine ac_seq ?_
  refine ac_region ?_
  refine aops_eff (eff_move rfl) rfl rfl rfl ?_
  refine aops_eff (w_cmp rfl rfl rfl) rfl rfl rfl ?_
  refine aops_nil ?_
  refine then_n ?_
  rcases cb h with ⟨q1, h⟩ | ⟨q1, h⟩
  · refine ac_condT rfl q1 ?_
    refine ac_region ?_
    refine aops_eff (eff_move rfl) rfl rfl rfl ?_
    refine aops_eff (eff_move rfl) rfl rfl rfl ?_
    refine aops_eff (x_add rfl rfl) rfl rfl rfl ?_
    refine aops_eff (eff_assign rfl) rfl rfl rfl ?_
    refine aops_nil ?_
    refine then_n ?_
    refine ac_seq ?_
    refine ac_region ?_
    refine aops_eff (eff_move rfl) rfl rfl rfl ?_
    refine aops_eff (eff_assign rfl) rfl rfl rfl ?_
    refine aops_nil ?_
    refine then_n ?_
    refine ac_ent (t := mkS [(4, .int (wr ((a1.tmod a0) + a0)))] [] 0 [0, 1, 2, 3, 4, 5, 6, 7, 8, 9, 10, 11, 12, 13]) (ent_mk (σ := sg []) ⟨⟨_, rfl, rfl⟩, trivial⟩ trivial rfl) ?_
    refine ac_ret ?_
    obtain rfl := so h
    exact ret_mk rfl rfl rfl (fz_int rfl)
  · refine ac_condF rfl q1 ?_
    refine ac_skip ?_
    refine then_n ?_
    refine ac_seq ?_
    refine ac_region ?_
    refine aops_eff (eff_move rfl) rfl rfl rfl ?_
    refine aops_eff (eff_assign rfl) rfl rfl rfl ?_
    refine aops_nil ?_
    refine then_n ?_
    refine ac_ret ?_
    obtain rfl := so h
    exact ret_mk rfl rfl rfl (fz_int rfl)

noncomputable def m_spec_InverseMod_L1 (a0 : Int) (a1 : Int) (x1 : Int) : Option (Int ⊕ (Unit ⊕ Int)) :=
  bif decide (x1 < a0) then
    (Option.bind (m_spec_IsField a0) fun v2 =>
    bif v2 then
      (Option.bind (m_spec_l2Mod a0 a1) fun v4 =>
      Option.bind (m_spec_l2Mod a0 (wr (v4 * x1))) fun v5 =>
      bif decide (v5 = 1) then
        (some (.inr (.inr (x1))))
      else
        (some (.inl (wr (x1 + 1)))))
    else
      (some (.inr (.inl ()))))
  else
    (some (.inr (.inl ())))

noncomputable def m_spec_InverseMod (a0 : Int) (a1 : Int) : Option Int :=
  Option.bind (Lp (m_spec_InverseMod_L1 a0 a1) 1) fun y7 =>
  Sum.elim (fun y8 =>
    some (0)
  ) 
  (fun y9 =>
    some y9
  )
   y7

theorem c_spec_InverseMod (a0 : Int) (a1 : Int) (r : Int) (h : m_spec_InverseMod a0 a1 = some r) : HasC Try.prog 140 [.int a0, .int a1] (.int r) := by
  refine hasC_mk TT_ok (rvs := [.tmp 4]) (ns := [0, 1, 2, 3, 4, 5, 6, 7, 8, 9, 10, 11, 12, 13]) Try.func140 rfl rfl Try.ntmps140 rfl rfl rfl ?_
  refine ac_seq ?_
  refine ac_region ?_
  refine aops_eff (eff_assign rfl) rfl rfl rfl ?_
  refine aops_nil ?_
  refine then_n ?_
  refine ac_seq ?_
  refine ac_seq ?_
  refine ac_region ?_
  refine aops_eff (eff_assign rfl) rfl rfl rfl ?_
  refine aops_nil ?_
  refine then_n ?_
  refine ac_block ?_
  obtain ⟨y7, hy7, h⟩ := ob h
  refine ac_Lp (body := (m_spec_InverseMod_L1 a0 a1)) hy7 (fun (x1 : Int) => mkS [(0, .int a0), (1, .int a1), (5, .int x1)] [] 0 [0, 1, 2, 3, 4, 5, 6, 7, 8, 9, 10, 11, 12, 13]) (fun r e t => Sum.elim (fun a => (fun r e t => e = .exit 0 ∧ Ent t (mkS [] [] 0 [0, 1, 2, 3, 4, 5, 6, 7, 8, 9, 10, 11, 12, 13])) a e t) (fun b => (fun r e t => e = .ret ∧ RetQ TT [.tmp 4] (.int r) .ret t) b e t) r) (ent_mk (σ := sg []) ⟨⟨_, rfl, rfl⟩, ⟨_, rfl, rfl⟩, ⟨_, rfl, rfl⟩, trivial⟩ trivial rfl) ?_ ?_
  · intro x1 o h
    refine ac_seq ?_
    refine ac_seq ?_
    refine ac_region ?_
    refine aops_eff (eff_move rfl) rfl rfl rfl ?_
    refine aops_eff (eff_move rfl) rfl rfl rfl ?_
    refine aops_eff (w_cmp rfl rfl rfl) rfl rfl rfl ?_
    refine aops_eff (eff_move rfl) rfl rfl rfl ?_
    rcases cb h with ⟨q1, h⟩ | ⟨q1, h⟩
    · refine aops_lit 9 rfl q1 ?_
      refine aops_eff (eff_move rfl) rfl rfl rfl ?_
      obtain ⟨v2, hv2, h⟩ := ob h
      refine aops_eff (w_call0s (c_spec_IsField a0 v2 hv2) rfl (va_cons (va_same rfl) va_nil)) rfl rfl rfl ?_
      refine aops_eff (eff_pick rfl rfl) rfl rfl rfl ?_
      refine aops_nil ?_
      refine then_n ?_
      rcases cb h with ⟨q3, h⟩ | ⟨q3, h⟩
      · refine ac_condT rfl q3 ?_
        refine ac_skip ?_
        refine then_n ?_
        refine ac_seq ?_
        refine ac_block ?_
        refine ac_seq ?_
        refine ac_region ?_
        refine aops_eff (eff_move rfl) rfl rfl rfl ?_
        refine aops_eff (eff_move rfl) rfl rfl rfl ?_
        refine aops_eff (eff_move rfl) rfl rfl rfl ?_
        obtain ⟨v4, hv4, h⟩ := ob h
        refine aops_eff (w_call0s (c_spec_l2Mod a0 a1 v4 hv4) rfl (va_cons (va_same rfl) (va_cons (va_same rfl) va_nil))) rfl rfl rfl ?_
        refine aops_eff (eff_move rfl) rfl rfl rfl ?_
        refine aops_eff (x_mul rfl rfl) rfl rfl rfl ?_
        obtain ⟨v5, hv5, h⟩ := ob h
        refine aops_eff (w_call0s (c_spec_l2Mod a0 (wr (v4 * x1)) v5 hv5) rfl (va_cons (va_same rfl) (va_cons (va_same rfl) va_nil))) rfl rfl rfl ?_
        refine aops_eff (w_cmp rfl rfl rfl) rfl rfl rfl ?_
        refine aops_nil ?_
        refine then_n ?_
        refine ac_ent (t := mkS [(0, .int a0), (1, .int a1), (5, .int x1), (22, .bl (decide (v5 = 1)))] [] 0 [0, 1, 2, 3, 4, 5, 6, 7, 8, 9, 10, 11, 12, 13]) (ent_mk (σ := sg []) ⟨⟨_, rfl, rfl⟩, ⟨_, rfl, rfl⟩, ⟨_, rfl, rfl⟩, ⟨_, rfl, rfl⟩, trivial⟩ trivial rfl) ?_
        rcases cb h with ⟨q6, h⟩ | ⟨q6, h⟩
        · refine ac_condT rfl q6 ?_
          refine ac_seq ?_
          refine ac_region ?_
          refine aops_eff (eff_move rfl) rfl rfl rfl ?_
          refine aops_eff (eff_assign rfl) rfl rfl rfl ?_
          refine aops_nil ?_
          refine then_n ?_
          refine ac_ret ?_
          refine block_ret ?_
          refine then_ret ?_
          refine then_ret ?_
          obtain rfl := so h
          exact ⟨_, rfl, rfl, ret_mk rfl rfl rfl (fz_int rfl)⟩
        · refine ac_condF rfl q6 ?_
          refine ac_skip ?_
          refine block_n ?_
          refine then_n ?_
          refine ac_region ?_
          refine aops_eff (eff_move rfl) rfl rfl rfl ?_
          refine aops_eff (x_add rfl rfl) rfl rfl rfl ?_
          refine aops_eff (eff_assign rfl) rfl rfl rfl ?_
          refine aops_nil ?_
          refine then_n ?_
          obtain rfl := so h
          exact ⟨_, rfl, (ent_mk (σ := sg []) ⟨⟨_, rfl, rfl⟩, ⟨_, rfl, rfl⟩, ⟨_, rfl, rfl⟩, trivial⟩ trivial rfl)⟩
      · refine ac_condF rfl q3 ?_
        refine ac_exit ?_
        refine then_exit ?_
        refine then_exit ?_
        obtain rfl := so h
        exact ⟨_, rfl, rfl, (ent_mk (σ := sg []) trivial trivial rfl)⟩
    · refine aops_lit 9 rfl q1 ?_
      refine aops_skip rfl rfl ?_
      refine aops_skip rfl rfl ?_
      refine aops_eff (eff_pick rfl rfl) rfl rfl rfl ?_
      refine aops_nil ?_
      refine then_n ?_
      refine ac_condF rfl rfl ?_
      refine ac_exit ?_
      refine then_exit ?_
      refine then_exit ?_
      obtain rfl := so h
      exact ⟨_, rfl, rfl, (ent_mk (σ := sg []) trivial trivial rfl)⟩
  · intro e t hX
    rcases y7 with y8 | y9
    · obtain ⟨rfl, hent⟩ := hX
      refine block_here ?_
      refine then_n ?_
      refine ac_ent hent ?_
      refine ac_seq ?_
      refine ac_region ?_
      refine aops_eff (eff_assign rfl) rfl rfl rfl ?_
      refine aops_nil ?_
      refine then_n ?_
      refine ac_ret ?_
      obtain rfl := so h
      exact ret_mk rfl rfl rfl (fz_int rfl)
    · obtain ⟨rfl, hent⟩ := hX
      refine block_ret ?_
      refine then_ret ?_
      obtain rfl := so h
      exact hent

noncomputable def m_spec_IsVector_L1 (a0 : Int) (a1 : (List Int)) (x1 : Int) : Option (Int ⊕ (Unit ⊕ Bool)) :=
  bif decide (x1 < (a1.length : Int)) then
    (Option.bind (atL a1 x1) fun v5 =>
    Option.bind (m_spec_l1In v5 0 (wr (a0 - 1))) fun v6 =>
    bif !v6 then
      (some (.inr (.inr (false))))
    else
      (some (.inl (wr (x1 + 1)))))
  else
    (some (.inr (.inl ())))

noncomputable def m_spec_IsVector (a0 : Int) (a1 : (List Int)) : Option Bool :=
  Option.bind (m_spec_IsField a0) fun v1 =>
  bif !v1 then
    (some (false))
  else
    (bif decide (64 < (a1.length : Int)) then
      (some (false))
    else
      (Option.bind (Lp (m_spec_IsVector_L1 a0 a1) 0) fun y8 =>
      Sum.elim (fun y9 =>
        some (true)
      ) 
      (fun y10 =>
        some y10
      )
       y8))

theorem c_spec_IsVector (a0 : Int) (a1 : (List Int)) (r : Bool) (h : m_spec_IsVector a0 a1 = some r) : HasC Try.prog 126 [.int a0, .list 1 (List.map eI a1)] (.bl r) := by
  refine hasC_mk TT_ok (rvs := [.tmp 4]) (ns := [0, 1, 2, 3, 4, 5, 6, 7, 8, 9, 10, 11, 12, 13]) Try.func126 rfl rfl Try.ntmps126 rfl rfl rfl ?_
  refine ac_seq ?_
  refine ac_region ?_
  refine aops_eff (eff_assign rfl) rfl rfl rfl ?_
  refine aops_nil ?_
  refine then_n ?_
  refine ac_seq ?_
  refine ac_seq ?_
  refine ac_region ?_
  refine aops_eff (eff_move rfl) rfl rfl rfl ?_
  obtain ⟨v1, hv1, h⟩ := ob h
  refine aops_eff (w_call0s (c_spec_IsField a0 v1 hv1) rfl (va_cons (va_same rfl) va_nil)) rfl rfl rfl ?_
  refine aops_eff (w_not rfl) rfl rfl rfl ?_
  refine aops_eff (eff_move rfl) rfl rfl rfl ?_
  rcases cb h with ⟨q2, h⟩ | ⟨q2, h⟩
  · refine aops_lit 9 rfl q2 ?_
    refine aops_skip rfl rfl ?_
    refine aops_skip rfl rfl ?_
    refine aops_skip rfl rfl ?_
    refine aops_eff (eff_pick rfl rfl) rfl rfl rfl ?_
    refine aops_nil ?_
    refine then_n ?_
    refine ac_condT rfl rfl ?_
    refine ac_seq ?_
    refine ac_region ?_
    refine aops_eff (eff_assign rfl) rfl rfl rfl ?_
    refine aops_nil ?_
    refine then_n ?_
    refine ac_ret ?_
    refine then_ret ?_
    obtain rfl := so h
    exact ret_mk rfl rfl rfl (fz_bl rfl)
  · refine aops_lit 9 rfl q2 ?_
    refine aops_eff (eff_move rfl) rfl rfl rfl ?_
    refine aops_eff (AEff.val (w_len_list TT_ok rfl rfl rfl) (v' := .int (a1.length : Int)) (by first | rw [len_map] | rw [encI_len])) rfl rfl rfl ?_
    refine aops_eff (w_cmp rfl rfl rfl) rfl rfl rfl ?_
    refine aops_eff (eff_pick rfl rfl) rfl rfl rfl ?_
    refine aops_nil ?_
    refine then_n ?_
    rcases cb h with ⟨q3, h⟩ | ⟨q3, h⟩
    · refine ac_condT rfl q3 ?_
      refine ac_seq ?_
      refine ac_region ?_
      refine aops_eff (eff_assign rfl) rfl rfl rfl ?_
      refine aops_nil ?_
      refine then_n ?_
      refine ac_ret ?_
      refine then_ret ?_
      obtain rfl := so h
      exact ret_mk rfl rfl rfl (fz_bl rfl)
    · refine ac_condF rfl q3 ?_
      refine ac_skip ?_
      refine then_n ?_
      refine ac_seq ?_
      refine ac_seq ?_
      refine ac_region ?_
      refine aops_eff (eff_assign rfl) rfl rfl rfl ?_
      refine aops_nil ?_
      refine then_n ?_
      refine ac_block ?_
      obtain ⟨y8, hy8, h⟩ := ob h
      refine ac_Lp (body := (m_spec_IsVector_L1 a0 a1)) hy8 (fun (x1 : Int) => mkS [(0, .int a0), (1, .list 1 (List.map eI a1)), (5, .int x1)] [] 0 [0, 1, 2, 3, 4, 5, 6, 7, 8, 9, 10, 11, 12, 13]) (fun r e t => Sum.elim (fun a => (fun r e t => e = .exit 0 ∧ Ent t (mkS [] [] 0 [0, 1, 2, 3, 4, 5, 6, 7, 8, 9, 10, 11, 12, 13])) a e t) (fun b => (fun r e t => e = .ret ∧ RetQ TT [.tmp 4] (.bl r) .ret t) b e t) r) (ent_mk (σ := sg []) ⟨⟨_, rfl, rfl⟩, ⟨_, rfl, ⟨rfl, rfl⟩⟩, ⟨_, rfl, rfl⟩, trivial⟩ trivial rfl) ?_ ?_
      · intro x1 o h
        refine ac_seq ?_
        refine ac_seq ?_
        refine ac_region ?_
        refine aops_eff (eff_move rfl) rfl rfl rfl ?_
        refine aops_eff (eff_move rfl) rfl rfl rfl ?_
        refine aops_eff (AEff.val (w_len_list TT_ok rfl rfl rfl) (v' := .int (a1.length : Int)) (by first | rw [len_map] | rw [encI_len])) rfl rfl rfl ?_
        refine aops_eff (w_cmp rfl rfl rfl) rfl rfl rfl ?_
        refine aops_nil ?_
        refine then_n ?_
        rcases cb h with ⟨q4, h⟩ | ⟨q4, h⟩
        · refine ac_condT rfl q4 ?_
          refine ac_skip ?_
          refine then_n ?_
          refine ac_seq ?_
          refine ac_block ?_
          refine ac_seq ?_
          refine ac_region ?_
          refine aops_eff (eff_move rfl) rfl rfl rfl ?_
          refine aops_eff (eff_move rfl) rfl rfl rfl ?_
          obtain ⟨v5, hv5, h⟩ := ob h
          refine aops_eff (x_at_list TT_ok hv5 rfl rfl rfl rfl rfl rfl) rfl rfl rfl ?_
          refine aops_eff (w_load_ref TT_ok rfl rfl rfl rfl rfl rfl) rfl rfl rfl ?_
          refine aops_eff (eff_move rfl) rfl rfl rfl ?_
          refine aops_eff (x_sub rfl rfl) rfl rfl rfl ?_
          obtain ⟨v6, hv6, h⟩ := ob h
          refine aops_eff (w_call0s (c_spec_l1In v5 0 (wr (a0 - 1)) v6 hv6) rfl (va_cons (va_same rfl) (va_cons (va_same rfl) (va_cons (va_same rfl) va_nil)))) rfl rfl rfl ?_
          refine aops_eff (w_not rfl) rfl rfl rfl ?_
          refine aops_nil ?_
          refine then_n ?_
          refine ac_ent (t := mkS [(0, .int a0), (1, .list 1 (List.map eI a1)), (5, .int x1), (27, .bl (!v6))] [] 0 [0, 1, 2, 3, 4, 5, 6, 7, 8, 9, 10, 11, 12, 13]) (ent_mk (σ := sg []) ⟨⟨_, rfl, rfl⟩, ⟨_, rfl, ⟨rfl, rfl⟩⟩, ⟨_, rfl, rfl⟩, ⟨_, rfl, rfl⟩, trivial⟩ trivial rfl) ?_
          rcases cb h with ⟨q7, h⟩ | ⟨q7, h⟩
          · refine ac_condT rfl q7 ?_
            refine ac_seq ?_
            refine ac_region ?_
            refine aops_eff (eff_assign rfl) rfl rfl rfl ?_
            refine aops_nil ?_
            refine then_n ?_
            refine ac_ret ?_
            refine block_ret ?_
            refine then_ret ?_
            refine then_ret ?_
            obtain rfl := so h
            exact ⟨_, rfl, rfl, ret_mk rfl rfl rfl (fz_bl rfl)⟩
          · refine ac_condF rfl q7 ?_
            refine ac_skip ?_
            refine block_n ?_
            refine then_n ?_
            refine ac_region ?_
            refine aops_eff (eff_move rfl) rfl rfl rfl ?_
            refine aops_eff (x_add rfl rfl) rfl rfl rfl ?_
            refine aops_eff (eff_assign rfl) rfl rfl rfl ?_
            refine aops_nil ?_
            refine then_n ?_
            obtain rfl := so h
            exact ⟨_, rfl, (ent_mk (σ := sg []) ⟨⟨_, rfl, rfl⟩, ⟨_, rfl, ⟨rfl, rfl⟩⟩, ⟨_, rfl, rfl⟩, trivial⟩ trivial rfl)⟩
        · refine ac_condF rfl q4 ?_
          refine ac_exit ?_
          refine then_exit ?_
          refine then_exit ?_
          obtain rfl := so h
          exact ⟨_, rfl, rfl, (ent_mk (σ := sg []) trivial trivial rfl)⟩
      · intro e t hX
        rcases y8 with y9 | y10
        · obtain ⟨rfl, hent⟩ := hX
          refine block_here ?_
          refine then_n ?_
          refine ac_ent hent ?_
          refine ac_seq ?_
          refine ac_region ?_
          refine aops_eff (eff_assign rfl) rfl rfl rfl ?_
          refine aops_nil ?_
          refine then_n ?_
          refine ac_ret ?_
          obtain rfl := so h
          exact ret_mk rfl rfl rfl (fz_bl rfl)
        · obtain ⟨rfl, hent⟩ := hX
          refine block_ret ?_
          refine then_ret ?_
          obtain rfl := so h
          exact hent

noncomputable def m_spec_IsMatrix (a0 : Int) (a1 : Mt) : Option Bool :=
  Option.bind (m_spec_l1In a1.rows 0 8) fun v1 =>
  bif v1 then
    (Option.bind (m_spec_l1In a1.cols 0 8) fun v3 =>
    bif v3 then
      (bif decide ((a1.cells.length : Int) = wr (a1.rows * a1.cols)) then
        (Option.bind (m_spec_IsVector a0 a1.cells) fun v6 =>
        some (v6))
      else
        (some (false)))
    else
      (some (false)))
  else
    (some (false))

theorem c_spec_IsMatrix (a0 : Int) (a1 : Mt) (r : Bool) (h : m_spec_IsMatrix a0 a1 = some r) : HasC Try.prog 93 [.int a0, .agg (eM a1)] (.bl r) := by
  refine hasC_mk TT_ok (rvs := [.tmp 4]) (ns := [0, 1, 2, 3, 4, 5, 6, 7, 8, 9, 10, 11, 12, 13]) Try.func93 rfl rfl Try.ntmps93 rfl rfl rfl ?_
  refine ac_seq ?_
  refine ac_region ?_
  refine aops_eff (w_box rfl rfl rfl rfl) rfl rfl rfl ?_
  refine aops_eff (eff_assign rfl) rfl rfl rfl ?_
  refine aops_nil ?_
  refine then_n ?_
  refine ac_seq ?_
  refine ac_region ?_
  refine aops_eff (w_field_ptr TT_ok rfl rfl rfl rfl rfl rfl rfl) rfl rfl rfl ?_
  refine aops_eff (w_load_ptr TT_ok rfl rfl rfl rfl rfl rfl rfl) rfl rfl rfl ?_
  obtain ⟨v1, hv1, h⟩ := ob h
  refine aops_eff (w_call0s (c_spec_l1In a1.rows 0 8 v1 hv1) rfl (va_cons (va_same rfl) (va_cons (va_same rfl) (va_cons (va_same rfl) va_nil)))) rfl rfl rfl ?_
  refine aops_eff (eff_move rfl) rfl rfl rfl ?_
  rcases cb h with ⟨q2, h⟩ | ⟨q2, h⟩
  · refine aops_lit 8 rfl q2 ?_
    refine aops_eff (w_field_ptr TT_ok rfl rfl rfl rfl rfl rfl rfl) rfl rfl rfl ?_
    refine aops_eff (w_load_ptr TT_ok rfl rfl rfl rfl rfl rfl rfl) rfl rfl rfl ?_
    obtain ⟨v3, hv3, h⟩ := ob h
    refine aops_eff (w_call0s (c_spec_l1In a1.cols 0 8 v3 hv3) rfl (va_cons (va_same rfl) (va_cons (va_same rfl) (va_cons (va_same rfl) va_nil)))) rfl rfl rfl ?_
    refine aops_eff (eff_pick rfl rfl) rfl rfl rfl ?_
    refine aops_eff (eff_move rfl) rfl rfl rfl ?_
    rcases cb h with ⟨q4, h⟩ | ⟨q4, h⟩
    · refine aops_lit 13 rfl q4 ?_
      refine aops_eff (w_field_ptr TT_ok rfl rfl rfl rfl rfl rfl rfl) rfl rfl rfl ?_
      refine aops_eff (w_load_ptr TT_ok rfl rfl rfl rfl rfl rfl rfl) rfl rfl rfl ?_
      refine aops_eff (AEff.val (w_len_list TT_ok rfl rfl rfl) (v' := .int (a1.cells.length : Int)) (by first | rw [len_map] | rw [encI_len])) rfl rfl rfl ?_
      refine aops_eff (w_field_ptr TT_ok rfl rfl rfl rfl rfl rfl rfl) rfl rfl rfl ?_
      refine aops_eff (w_load_ptr TT_ok rfl rfl rfl rfl rfl rfl rfl) rfl rfl rfl ?_
      refine aops_eff (w_field_ptr TT_ok rfl rfl rfl rfl rfl rfl rfl) rfl rfl rfl ?_
      refine aops_eff (w_load_ptr TT_ok rfl rfl rfl rfl rfl rfl rfl) rfl rfl rfl ?_
      refine aops_eff (x_mul rfl rfl) rfl rfl rfl ?_
      refine aops_eff (w_cmp rfl rfl rfl) rfl rfl rfl ?_
      refine aops_eff (eff_pick rfl rfl) rfl rfl rfl ?_
      refine aops_eff (eff_move rfl) rfl rfl rfl ?_
      rcases cb h with ⟨q5, h⟩ | ⟨q5, h⟩
      · refine aops_lit 24 rfl q5 ?_
        refine aops_eff (eff_move rfl) rfl rfl rfl ?_
        refine aops_eff (w_field_ptr TT_ok rfl rfl rfl rfl rfl rfl rfl) rfl rfl rfl ?_
        refine aops_eff (w_load_ptr TT_ok rfl rfl rfl rfl rfl rfl rfl) rfl rfl rfl ?_
        obtain ⟨v6, hv6, h⟩ := ob h
        refine aops_eff (w_call0s (c_spec_IsVector a0 a1.cells v6 hv6) rfl (va_cons (va_same rfl) (va_cons (va_same rfl) va_nil))) rfl rfl rfl ?_
        refine aops_eff (eff_pick rfl rfl) rfl rfl rfl ?_
        refine aops_eff (eff_assign rfl) rfl rfl rfl ?_
        refine aops_nil ?_
        refine then_n ?_
        refine ac_ent (t := mkS [(4, .bl v6)] [] 1 [1, 2, 3, 4, 5, 6, 7, 8, 9, 10, 11, 12, 13, 14]) (ent_mk (σ := sg []) ⟨⟨_, rfl, rfl⟩, trivial⟩ trivial rfl) ?_
        refine ac_ret ?_
        obtain rfl := so h
        exact ret_mk rfl rfl rfl (fz_bl rfl)
      · refine aops_lit 24 rfl q5 ?_
        refine aops_skip rfl rfl ?_
        refine aops_skip rfl rfl ?_
        refine aops_skip rfl rfl ?_
        refine aops_skip rfl rfl ?_
        refine aops_eff (eff_pick rfl rfl) rfl rfl rfl ?_
        refine aops_eff (eff_assign rfl) rfl rfl rfl ?_
        refine aops_nil ?_
        refine then_n ?_
        refine ac_ent (t := mkS [(4, .bl false)] [] 1 [1, 2, 3, 4, 5, 6, 7, 8, 9, 10, 11, 12, 13, 14]) (ent_mk (σ := sg []) ⟨⟨_, rfl, rfl⟩, trivial⟩ trivial rfl) ?_
        refine ac_ret ?_
        obtain rfl := so h
        exact ret_mk rfl rfl rfl (fz_bl rfl)
    · refine aops_lit 13 rfl q4 ?_
      refine aops_skip rfl rfl ?_
      refine aops_skip rfl rfl ?_
      refine aops_skip rfl rfl ?_
      refine aops_skip rfl rfl ?_
      refine aops_skip rfl rfl ?_
      refine aops_skip rfl rfl ?_
      refine aops_skip rfl rfl ?_
      refine aops_skip rfl rfl ?_
      refine aops_skip rfl rfl ?_
      refine aops_eff (eff_pick rfl rfl) rfl rfl rfl ?_
      refine aops_eff (eff_move rfl) rfl rfl rfl ?_
      refine aops_skip rfl rfl ?_
      refine aops_skip rfl rfl ?_
      refine aops_skip rfl rfl ?_
      refine aops_skip rfl rfl ?_
      refine aops_eff (eff_pick rfl rfl) rfl rfl rfl ?_
      refine aops_eff (eff_assign rfl) rfl rfl rfl ?_
      refine aops_nil ?_
      refine then_n ?_
      refine ac_ent (t := mkS [(4, .bl false)] [] 1 [1, 2, 3, 4, 5, 6, 7, 8, 9, 10, 11, 12, 13, 14]) (ent_mk (σ := sg []) ⟨⟨_, rfl, rfl⟩, trivial⟩ trivial rfl) ?_
      refine ac_ret ?_
      obtain rfl := so h
      exact ret_mk rfl rfl rfl (fz_bl rfl)
  · refine aops_lit 8 rfl q2 ?_
    refine aops_skip rfl rfl ?_
    refine aops_skip rfl rfl ?_
    refine aops_skip rfl rfl ?_
    refine aops_eff (eff_pick rfl rfl) rfl rfl rfl ?_
    refine aops_eff (eff_move rfl) rfl rfl rfl ?_
    refine aops_skip rfl rfl ?_
    refine aops_skip rfl rfl ?_
    refine aops_skip rfl rfl ?_
    refine aops_skip rfl rfl ?_
    refine aops_skip rfl rfl ?_
    refine aops_skip rfl rfl ?_
    refine aops_skip rfl rfl ?_
    refine aops_skip rfl rfl ?_
    refine aops_skip rfl rfl ?_
    refine aops_eff (eff_pick rfl rfl) rfl rfl rfl ?_
    refine aops_eff (eff_move rfl) rfl rfl rfl ?_
    refine aops_skip rfl rfl ?_
    refine aops_skip rfl rfl ?_
    refine aops_skip rfl rfl ?_
    refine aops_skip rfl rfl ?_
    refine aops_eff (eff_pick rfl rfl) rfl rfl rfl ?_
    refine aops_eff (eff_assign rfl) rfl rfl rfl ?_
    refine aops_nil ?_
    refine then_n ?_
    refine ac_ent (t := mkS [(4, .bl false)] [] 1 [1, 2, 3, 4, 5, 6, 7, 8, 9, 10, 11, 12, 13, 14]) (ent_mk (σ := sg []) ⟨⟨_, rfl, rfl⟩, trivial⟩ trivial rfl) ?_
    refine ac_ret ?_
    obtain rfl := so h
    exact ret_mk rfl rfl rfl (fz_bl rfl)

def m_spec_l3Copy (a0 : Mt) : Option Mt :=
  bif decide (([] : (List Int)).length + a0.cells.length ≤ 4294967296) then
    (some ((⟨a0.rows, a0.cols, (([] : (List Int)) ++ a0.cells)⟩ : Mt)))
  else none

theorem c_spec_l3Copy (a0 : Mt) (r : Mt) (h : m_spec_l3Copy a0 = some r) : HasC Try.prog 119 [.agg (eM a0)] (.agg (eM r)) := by
  refine hasC_mk TT_ok (rvs := [.cell 2 81]) (ns := [0, 1, 2, 3, 4, 5, 6, 7, 8, 9, 10, 11, 12, 13]) Try.func119 rfl rfl Try.ntmps119 rfl rfl rfl ?_
  refine ac_seq ?_
  refine ac_region ?_
  refine aops_eff (w_box rfl rfl rfl rfl) rfl rfl rfl ?_
  refine aops_eff (w_alloc TT_ok rfl rfl) rfl rfl rfl ?_
  refine aops_nil ?_
  refine then_n ?_
  refine ac_seq ?_
  refine ac_region_draw MIXX ?_
  refine aops_eff (w_field_ptr TT_ok rfl rfl rfl rfl rfl rfl rfl) rfl rfl rfl ?_
  refine aops_eff (w_load_ptr TT_ok rfl rfl rfl rfl rfl rfl rfl) rfl rfl rfl ?_
  refine aops_eff (w_field_ptr TT_ok rfl rfl rfl rfl rfl rfl rfl) rfl rfl rfl ?_
  refine aops_eff (w_load_ptr TT_ok rfl rfl rfl rfl rfl rfl rfl) rfl rfl rfl ?_
  refine aops_eff (w_lit TT_ok rfl rfl rfl rfl rfl rfl rfl rfl rfl rfl rfl rfl) rfl rfl rfl ?_
  refine aops_eff (w_field_ptr TT_ok rfl rfl rfl rfl rfl rfl rfl) rfl rfl rfl ?_
  refine aops_eff (w_load_ptr TT_ok rfl rfl rfl rfl rfl rfl rfl) rfl rfl rfl ?_
  obtain ⟨q1, h⟩ := cg h
  refine aops_eff (x_app TT_ok (l := ([] : (List Int))) (m := a0.cells) okIo q1 rfl rfl rfl rfl rfl rfl rfl rfl rfl rfl rfl rfl) rfl rfl rfl ?_
  refine aops_eff (w_build TT_ok rfl rfl rfl rfl rfl rfl) rfl rfl rfl ?_
  refine aops_eff (w_store TT_ok rfl rfl rfl rfl rfl rfl rfl rfl) rfl rfl rfl ?_
  refine aops_nil ?_
  refine ⟨by kernel_rfl, ?_⟩
  refine then_n ?_
  refine ac_ent (t := mkS [(2, .ptr 1 0 0)] [(1, ⟨3, [[.int a0.rows, .int a0.cols, .own 3 0 ((([] : (List Int)) ++ a0.cells).length)]]⟩), (3, ⟨1, List.map (ow eI) (([] : (List Int)) ++ a0.cells)⟩)] 4 [4, 5, 6, 7, 8, 9, 10, 11, 12, 13, 14, 15, 16, 17]) (ent_mk (σ := sg [(1, 1), (3, 3)]) ⟨⟨_, rfl, ⟨rfl, rfl, rfl, rfl⟩⟩, trivial⟩ ⟨⟨_, rfl, rfl, .inr ⟨_, _, rfl, ⟨_, _, rfl, rfl, ⟨_, _, rfl, rfl, ⟨_, _, rfl, ⟨rfl, rfl, rfl, rfl⟩, rfl⟩⟩⟩, rfl⟩⟩, rfl, ⟨_, rfl, rfl, .inl ⟨rfl, okI.plainO _⟩⟩, rfl, trivial⟩ rfl) ?_
  refine ac_ret ?_
  obtain rfl := so h
  exact ret_mk rfl rfl rfl (xz_agg (x1_cons (rfl) (x1_cons (rfl) (x1_cons (x_f1 okI rfl rfl) x1_nil))))

end Go.Proofs.Ytjfcjkeghigipaa

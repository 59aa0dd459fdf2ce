/-
  Several texts of the claim in one: each begins with its own remark.
-/
import Derived.Test.YtdhjmmnjapkmkaaH15
section
set_option linter.unusedVariables false
set_option linter.unusedSimpArgs false

namespace Go.Proofs.Ytdhjmmnjapkmkaa
open Go.RowKit
set_option linter.unusedVariables false
set_option linter.unusedSimpArgs false
set_option maxRecDepth 10000
set_option maxHeartbeats 4000000

noncomputable def m_laws_eqIntSS_L1 (a0 : (List (List Int))) (a1 : (List (List Int))) (x1 : Int) : Option (Int ⊕ (Unit ⊕ Bool)) :=
  bif decide (x1 < (a0.length : Int)) then
    (Option.bind (atL a0 x1) fun v3 =>
    Option.bind (atL a1 x1) fun v4 =>
    Option.bind (m_laws_eqIntS v3 v4) fun v5 =>
    bif !v5 then
      (some (.inr (.inr (false))))
    else
      (some (.inl (wr (x1 + 1)))))
  else
    (some (.inr (.inl ())))

noncomputable def m_laws_eqIntSS (a0 : (List (List Int))) (a1 : (List (List Int))) : Option Bool :=
  bif !decide ((a0.length : Int) = (a1.length : Int)) then
    (some (false))
  else
    (Option.bind (Lp (m_laws_eqIntSS_L1 a0 a1) 0) fun y7 =>
    Sum.elim (fun y8 =>
      some (true)
    ) 
    (fun y9 =>
      some y9
    )
     y7)

theorem c_laws_eqIntSS (a0 : (List (List Int))) (a1 : (List (List Int))) (r : Bool) (h : m_laws_eqIntSS a0 a1 = some r) : HasC Try.prog 105 [.list 1 (List.map (eLs 1 eI) a0), .list 1 (List.map (eLs 1 eI) a1)] (.bl r) := by
 refine hasC_mk TT_ok (rvs := [.tmp 4]) (ns := [0, 1]) Try.func105 k k Try.ntmps105 k k k <| sQ <| rg <| aa k k <| an <| tn <| sQ <| sQ <| rg <| am k k ?_
 refine ae (lenL TT_ok k k k) k <| am k k <| ae (lenL TT_ok k k k) k <| ae (w_cmp k k k) k <| an <| tn ?_
 rcases cb h with ⟨q1, h⟩ | ⟨q1, h⟩
 ·refine ac_condT k q1 <| sQ <| rg <| aa k k <| an <| tn <| ac_ret <| then_ret ?_
  obtain rfl := so h
  exact ret_mk k k k (fz_bl k)
 ·refine ac_condF k q1 <| ac_skip <| tn <| sQ <| sQ <| rg <| aa k k <| an <| tn <| ac_block ?_
  obtain ⟨y7, hy7, h⟩ := ob h
  refine ac_Lp (body := (m_laws_eqIntSS_L1 a0 a1)) hy7 (fun (x1 : Int) => mkS [(0, .list 1 (List.map (eLs 1 eI) a0)), (1, .list 1 (List.map (eLs 1 eI) a1)), (5, .int x1)] [] 0 [0, 1]) (fun r e t => Sum.elim (fun a => (fun r e t => e = .exit 0 ∧ Ent t (mkS [] [] 0 [0, 1])) a e t) (fun b => (fun r e t => e = .ret ∧ RetQ TT [.tmp 4] (.bl r) .ret t) b e t) r) (ent_mk (σ := sg []) ⟨⟨_, k, ⟨k, k⟩⟩, ⟨_, k, ⟨k, k⟩⟩, (e1 k k), trivial⟩ trivial k) ?_ ?_
  ·intro x1 o h
   refine sQ <| sQ <| rg <| am k k <| am k k <| ae (lenL TT_ok k k k) k <| ae (w_cmp k k k) k <| an <| tn ?_
   rcases cb h with ⟨q2, h⟩ | ⟨q2, h⟩
   ·refine ac_condT k q2 <| ac_skip <| tn <| sQ <| ac_block <| sQ <| ac_region_draw MIXX <| am k k <| am k k ?_
    obtain ⟨v3, hv3, h⟩ := ob h
    refine ae (x_at_list TT_ok hv3 k k k k k k) k <| ae (w_load_ref TT_ok k k k k k k) k <| am k k <| am k k ?_
    obtain ⟨v4, hv4, h⟩ := ob h
    refine ae (x_at_list TT_ok hv4 k k k k k k) k <| ae (w_load_ref TT_ok k k k k k k) k ?_
    obtain ⟨v5, hv5, h⟩ := ob h
    refine ae (w_call0s (c_laws_eqIntS v3 v4 v5 hv5) k (va_cons (va_same k) (va_cons (va_same k) va_nil))) k <| ae (w_not k) k <| an ?_
    refine ⟨by kernel_rfl, ?_⟩
    refine tn <| ac_ent (t := mkS [(0, .list 1 (List.map (eLs 1 eI) a0)), (1, .list 1 (List.map (eLs 1 eI) a1)), (5, .int x1), (26, .bl (!v5))] [] 0 [0, 1]) (ent_mk (σ := sg []) ⟨⟨_, k, ⟨k, k⟩⟩, ⟨_, k, ⟨k, k⟩⟩, (e1 k k), (e1 k k), trivial⟩ trivial k) ?_
    rcases cb h with ⟨q6, h⟩ | ⟨q6, h⟩
    ·refine ac_condT k q6 <| sQ <| rg <| aa k k <| an <| tn <| ac_ret <| block_ret <| then_ret <| then_ret ?_
     obtain rfl := so h
     exact ⟨_, k, k, ret_mk k k k (fz_bl k)⟩
    ·refine ac_condF k q6 <| ac_skip <| block_n <| tn <| rg <| am k k <| ae (x_add k k) k <| aa k k <| an <| tn ?_
     obtain rfl := so h
     exact ⟨_, k, (ent_mk (σ := sg []) ⟨⟨_, k, ⟨k, k⟩⟩, ⟨_, k, ⟨k, k⟩⟩, (e1 k k), trivial⟩ trivial k)⟩
   ·refine ac_condF k q2 <| ac_exit <| then_exit <| then_exit ?_
    obtain rfl := so h
    exact ⟨_, k, k, (ent_mk (σ := sg []) trivial trivial k)⟩
  ·intro e t hX
   rcases y7 with y8 | y9
   ·obtain ⟨rfl, hent⟩ := hX
    refine block_here <| tn <| ac_ent hent <| sQ <| rg <| aa k k <| an <| tn <| ac_ret ?_
    obtain rfl := so h
    exact ret_mk k k k (fz_bl k)
   ·obtain ⟨rfl, hent⟩ := hX
    refine block_ret <| then_ret ?_
    obtain rfl := so h
    exact hent

noncomputable def m_laws_eqSpace (a0 : Sc) (a1 : Sc) : Option Bool :=
  bif !decide (a0.size = a1.size) then
    (some (false))
  else
    (Option.bind (m_laws_eqIntSS a0.basis a1.basis) fun v2 =>
    bif !v2 then
      (some (false))
    else
      (some (true)))

theorem c_laws_eqSpace (a0 : Sc) (a1 : Sc) (r : Bool) (h : m_laws_eqSpace a0 a1 = some r) : HasC Try.prog 70 [.agg (eS a0), .agg (eS a1)] (.bl r) := by
 refine hasC_mk TT_ok (rvs := [.tmp 4]) (ns := [0, 1, 2, 3]) Try.func70 k k Try.ntmps70 k k k <| sQ <| rg <| ae (w_box k k k k) k <| ae (w_box k k k k) k <| aa k k <| an <| tn <| sQ <| sQ ?_
 refine rg <| ae (w_field_ptr TT_ok k k k k k k k) k <| ae (w_load_ptr TT_ok k k k k k k k) k <| ae (w_field_ptr TT_ok k k k k k k k) k <| ae (w_load_ptr TT_ok k k k k k k k) k <| ae (w_cmp k k k) k <| an <| tn ?_
 rcases cb h with ⟨q1, h⟩ | ⟨q1, h⟩
 ·refine ac_condT k q1 <| sQ <| rg <| aa k k <| an <| tn <| ac_ret <| then_ret ?_
  obtain rfl := so h
  exact ret_mk k k k (fz_bl k)
 ·refine ac_condF k q1 <| ac_skip <| tn <| sQ <| sQ <| rg <| ae (w_field_ptr TT_ok k k k k k k k) k <| ae (w_load_ptr TT_ok k k k k k k k) k <| ae (w_field_ptr TT_ok k k k k k k k) k <| ae (w_load_ptr TT_ok k k k k k k k) k ?_
  obtain ⟨v2, hv2, h⟩ := ob h
  refine ae (w_call0s (c_laws_eqIntSS a0.basis a1.basis v2 hv2) k (va_cons (va_same k) (va_cons (va_same k) va_nil))) k <| ae (w_not k) k <| an <| tn <| ac_ent (t := mkS [(15, .bl (!v2))] [] 2 [2, 3]) (ent_mk (σ := sg []) ⟨(e1 k k), trivial⟩ trivial k) ?_
  rcases cb h with ⟨q3, h⟩ | ⟨q3, h⟩
  ·refine ac_condT k q3 <| sQ <| rg <| aa k k <| an <| tn <| ac_ret <| then_ret ?_
   obtain rfl := so h
   exact ret_mk k k k (fz_bl k)
  ·refine ac_condF k q3 <| ac_skip <| tn <| sQ <| rg <| aa k k <| an <| tn <| ac_ret ?_
   obtain rfl := so h
   exact ret_mk k k k (fz_bl k)

noncomputable def m_laws_eqSpaceS_L1 (a0 : (List Sc)) (a1 : (List Sc)) (x1 : Int) : Option (Int ⊕ (Unit ⊕ Bool)) :=
  bif decide (x1 < (a0.length : Int)) then
    (Option.bind (atL a0 x1) fun v3 =>
    Option.bind (atL a1 x1) fun v4 =>
    Option.bind (m_laws_eqSpace v3 v4) fun v5 =>
    bif !v5 then
      (some (.inr (.inr (false))))
    else
      (some (.inl (wr (x1 + 1)))))
  else
    (some (.inr (.inl ())))

noncomputable def m_laws_eqSpaceS (a0 : (List Sc)) (a1 : (List Sc)) : Option Bool :=
  bif !decide ((a0.length : Int) = (a1.length : Int)) then
    (some (false))
  else
    (Option.bind (Lp (m_laws_eqSpaceS_L1 a0 a1) 0) fun y7 =>
    Sum.elim (fun y8 =>
      some (true)
    ) 
    (fun y9 =>
      some y9
    )
     y7)

theorem c_laws_eqSpaceS (a0 : (List Sc)) (a1 : (List Sc)) (r : Bool) (h : m_laws_eqSpaceS a0 a1 = some r) : HasC Try.prog 37 [.list 2 (List.map eS a0), .list 2 (List.map eS a1)] (.bl r) := by
 refine hasC_mk TT_ok (rvs := [.tmp 4]) (ns := [0, 1]) Try.func37 k k Try.ntmps37 k k k <| sQ <| rg <| aa k k <| an <| tn <| sQ <| sQ <| rg <| am k k ?_
 refine ae (lenL TT_ok k k k) k <| am k k <| ae (lenL TT_ok k k k) k <| ae (w_cmp k k k) k <| an <| tn ?_
 rcases cb h with ⟨q1, h⟩ | ⟨q1, h⟩
 ·refine ac_condT k q1 <| sQ <| rg <| aa k k <| an <| tn <| ac_ret <| then_ret ?_
  obtain rfl := so h
  exact ret_mk k k k (fz_bl k)
 ·refine ac_condF k q1 <| ac_skip <| tn <| sQ <| sQ <| rg <| aa k k <| an <| tn <| ac_block ?_
  obtain ⟨y7, hy7, h⟩ := ob h
  refine ac_Lp (body := (m_laws_eqSpaceS_L1 a0 a1)) hy7 (fun (x1 : Int) => mkS [(0, .list 2 (List.map eS a0)), (1, .list 2 (List.map eS a1)), (5, .int x1)] [] 0 [0, 1]) (fun r e t => Sum.elim (fun a => (fun r e t => e = .exit 0 ∧ Ent t (mkS [] [] 0 [0, 1])) a e t) (fun b => (fun r e t => e = .ret ∧ RetQ TT [.tmp 4] (.bl r) .ret t) b e t) r) (ent_mk (σ := sg []) ⟨⟨_, k, ⟨k, k⟩⟩, ⟨_, k, ⟨k, k⟩⟩, (e1 k k), trivial⟩ trivial k) ?_ ?_
  ·intro x1 o h
   refine sQ <| sQ <| rg <| am k k <| am k k <| ae (lenL TT_ok k k k) k <| ae (w_cmp k k k) k <| an <| tn ?_
   rcases cb h with ⟨q2, h⟩ | ⟨q2, h⟩
   ·refine ac_condT k q2 <| ac_skip <| tn <| sQ <| ac_block <| sQ <| ac_region_draw MIXX <| am k k <| am k k ?_
    obtain ⟨v3, hv3, h⟩ := ob h
    refine ae (x_at_list TT_ok hv3 k k k k k k) k <| ae (w_load_ref TT_ok k k k k k k) k <| am k k <| am k k ?_
    obtain ⟨v4, hv4, h⟩ := ob h
    refine ae (x_at_list TT_ok hv4 k k k k k k) k <| ae (w_load_ref TT_ok k k k k k k) k ?_
    obtain ⟨v5, hv5, h⟩ := ob h
    refine ae (w_call0s (c_laws_eqSpace v3 v4 v5 hv5) k (va_cons (va_agg' (v1_cons (v1_same k) (v1_cons (v1_same k) v1_nil))) (va_cons (va_agg' (v1_cons (v1_same k) (v1_cons (v1_same k) v1_nil))) va_nil))) k <| ae (w_not k) k <| an ?_
    refine ⟨by kernel_rfl, ?_⟩
    refine tn <| ac_ent (t := mkS [(0, .list 2 (List.map eS a0)), (1, .list 2 (List.map eS a1)), (5, .int x1), (26, .bl (!v5))] [] 0 [0, 1]) (ent_mk (σ := sg []) ⟨⟨_, k, ⟨k, k⟩⟩, ⟨_, k, ⟨k, k⟩⟩, (e1 k k), (e1 k k), trivial⟩ trivial k) ?_
    rcases cb h with ⟨q6, h⟩ | ⟨q6, h⟩
    ·refine ac_condT k q6 <| sQ <| rg <| aa k k <| an <| tn <| ac_ret <| block_ret <| then_ret <| then_ret ?_
     obtain rfl := so h
     exact ⟨_, k, k, ret_mk k k k (fz_bl k)⟩
    ·refine ac_condF k q6 <| ac_skip <| block_n <| tn <| rg <| am k k <| ae (x_add k k) k <| aa k k <| an <| tn ?_
     obtain rfl := so h
     exact ⟨_, k, (ent_mk (σ := sg []) ⟨⟨_, k, ⟨k, k⟩⟩, ⟨_, k, ⟨k, k⟩⟩, (e1 k k), trivial⟩ trivial k)⟩
   ·refine ac_condF k q2 <| ac_exit <| then_exit <| then_exit ?_
    obtain rfl := so h
    exact ⟨_, k, k, (ent_mk (σ := sg []) trivial trivial k)⟩
  ·intro e t hX
   rcases y7 with y8 | y9
   ·obtain ⟨rfl, hent⟩ := hX
    refine block_here <| tn <| ac_ent hent <| sQ <| rg <| aa k k <| an <| tn <| ac_ret ?_
    obtain rfl := so h
    exact ret_mk k k k (fz_bl k)
   ·obtain ⟨rfl, hent⟩ := hX
    refine block_ret <| then_ret ?_
    obtain rfl := so h
    exact hent

end Go.Proofs.Ytdhjmmnjapkmkaa
end

section
set_option linter.unusedVariables false
set_option linter.unusedSimpArgs false

namespace Go.Proofs.Ytdhjmmnjapkmkaa
open Go.RowKit
set_option linter.unusedVariables false
set_option linter.unusedSimpArgs false
set_option maxRecDepth 10000
set_option maxHeartbeats 4000000

def m_laws_eqBar (a0 : Br) (a1 : Br) : Option Bool :=
  bif !decide (a0.first = a1.first) then
    (some (false))
  else
    (bif !decide (a0.last = a1.last) then
      (some (false))
    else
      (bif !decide (a0.count = a1.count) then
        (some (false))
      else
        (some (true))))

theorem c_laws_eqBar (a0 : Br) (a1 : Br) (r : Bool) (h : m_laws_eqBar a0 a1 = some r) : HasC Try.prog 69 [.agg (eB a0), .agg (eB a1)] (.bl r) := by
 refine hasC_mk TT_ok (rvs := [.tmp 4]) (ns := [0, 1, 2, 3]) Try.func69 k k Try.ntmps69 k k k <| sQ <| rg <| ae (w_box k k k k) k <| ae (w_box k k k k) k <| aa k k <| an <| tn <| sQ <| sQ ?_
 refine rg <| ae (w_field_ptr TT_ok k k k k k k k) k <| ae (w_load_ptr TT_ok k k k k k k k) k <| ae (w_field_ptr TT_ok k k k k k k k) k <| ae (w_load_ptr TT_ok k k k k k k k) k <| ae (w_cmp k k k) k <| an <| tn ?_
 rcases cb h with ⟨q1, h⟩ | ⟨q1, h⟩
 ·refine ac_condT k q1 <| sQ <| rg <| aa k k <| an <| tn <| ac_ret <| then_ret ?_
  obtain rfl := so h
  exact ret_mk k k k (fz_bl k)
 ·refine ac_condF k q1 <| ac_skip <| tn <| sQ <| sQ <| rg <| ae (w_field_ptr TT_ok k k k k k k k) k <| ae (w_load_ptr TT_ok k k k k k k k) k <| ae (w_field_ptr TT_ok k k k k k k k) k <| ae (w_load_ptr TT_ok k k k k k k k) k ?_
  refine ae (w_cmp k k k) k <| an <| tn <| ac_ent (t := mkS [(2, .ptr 0 0 0), (3, .ptr 1 0 0), (14, .bl (!decide (a0.last = a1.last)))] [(0, ⟨3, [[.int a0.first, .int a0.last, .int a0.count]]⟩), (1, ⟨3, [[.int a1.first, .int a1.last, .int a1.count]]⟩)] 2 [2, 3]) (ent_mk (σ := sg [(0, 0), (1, 1)]) ⟨(pE k k), (pE k k), (e1 k k), trivial⟩ (hP k k k k <| hP k k k k <| trivial) k) ?_
  rcases cb h with ⟨q2, h⟩ | ⟨q2, h⟩
  ·refine ac_condT k q2 <| sQ <| rg <| aa k k <| an <| tn <| ac_ret <| then_ret ?_
   obtain rfl := so h
   exact ret_mk k k k (fz_bl k)
  ·refine ac_condF k q2 <| ac_skip <| tn <| sQ <| sQ <| rg <| ae (w_field_ptr TT_ok k k k k k k k) k <| ae (w_load_ptr TT_ok k k k k k k k) k <| ae (w_field_ptr TT_ok k k k k k k k) k <| ae (w_load_ptr TT_ok k k k k k k k) k ?_
   refine ae (w_cmp k k k) k <| an <| tn ?_
   rcases cb h with ⟨q3, h⟩ | ⟨q3, h⟩
   ·refine ac_condT k q3 <| sQ <| rg <| aa k k <| an <| tn <| ac_ret <| then_ret ?_
    obtain rfl := so h
    exact ret_mk k k k (fz_bl k)
   ·refine ac_condF k q3 <| ac_skip <| tn <| sQ <| rg <| aa k k <| an <| tn <| ac_ret ?_
    obtain rfl := so h
    exact ret_mk k k k (fz_bl k)

noncomputable def m_laws_eqBarS_L1 (a0 : (List Br)) (a1 : (List Br)) (x1 : Int) : Option (Int ⊕ (Unit ⊕ Bool)) :=
  bif decide (x1 < (a0.length : Int)) then
    (Option.bind (atL a0 x1) fun v3 =>
    Option.bind (atL a1 x1) fun v4 =>
    Option.bind (m_laws_eqBar v3 v4) fun v5 =>
    bif !v5 then
      (some (.inr (.inr (false))))
    else
      (some (.inl (wr (x1 + 1)))))
  else
    (some (.inr (.inl ())))

noncomputable def m_laws_eqBarS (a0 : (List Br)) (a1 : (List Br)) : Option Bool :=
  bif !decide ((a0.length : Int) = (a1.length : Int)) then
    (some (false))
  else
    (Option.bind (Lp (m_laws_eqBarS_L1 a0 a1) 0) fun y7 =>
    Sum.elim (fun y8 =>
      some (true)
    ) 
    (fun y9 =>
      some y9
    )
     y7)

theorem c_laws_eqBarS (a0 : (List Br)) (a1 : (List Br)) (r : Bool) (h : m_laws_eqBarS a0 a1 = some r) : HasC Try.prog 36 [.list 3 (List.map eB a0), .list 3 (List.map eB a1)] (.bl r) := by
 refine hasC_mk TT_ok (rvs := [.tmp 4]) (ns := [0, 1]) Try.func36 k k Try.ntmps36 k k k <| sQ <| rg <| aa k k <| an <| tn <| sQ <| sQ <| rg <| am k k ?_
 refine ae (lenL TT_ok k k k) k <| am k k <| ae (lenL TT_ok k k k) k <| ae (w_cmp k k k) k <| an <| tn ?_
 rcases cb h with ⟨q1, h⟩ | ⟨q1, h⟩
 ·refine ac_condT k q1 <| sQ <| rg <| aa k k <| an <| tn <| ac_ret <| then_ret ?_
  obtain rfl := so h
  exact ret_mk k k k (fz_bl k)
 ·refine ac_condF k q1 <| ac_skip <| tn <| sQ <| sQ <| rg <| aa k k <| an <| tn <| ac_block ?_
  obtain ⟨y7, hy7, h⟩ := ob h
  refine ac_Lp (body := (m_laws_eqBarS_L1 a0 a1)) hy7 (fun (x1 : Int) => mkS [(0, .list 3 (List.map eB a0)), (1, .list 3 (List.map eB a1)), (5, .int x1)] [] 0 [0, 1]) (fun r e t => Sum.elim (fun a => (fun r e t => e = .exit 0 ∧ Ent t (mkS [] [] 0 [0, 1])) a e t) (fun b => (fun r e t => e = .ret ∧ RetQ TT [.tmp 4] (.bl r) .ret t) b e t) r) (ent_mk (σ := sg []) ⟨⟨_, k, ⟨k, k⟩⟩, ⟨_, k, ⟨k, k⟩⟩, (e1 k k), trivial⟩ trivial k) ?_ ?_
  ·intro x1 o h
   refine sQ <| sQ <| rg <| am k k <| am k k <| ae (lenL TT_ok k k k) k <| ae (w_cmp k k k) k <| an <| tn ?_
   rcases cb h with ⟨q2, h⟩ | ⟨q2, h⟩
   ·refine ac_condT k q2 <| ac_skip <| tn <| sQ <| ac_block <| sQ <| ac_region_draw MIXX <| am k k <| am k k ?_
    obtain ⟨v3, hv3, h⟩ := ob h
    refine ae (x_at_list TT_ok hv3 k k k k k k) k <| ae (w_load_ref TT_ok k k k k k k) k <| am k k <| am k k ?_
    obtain ⟨v4, hv4, h⟩ := ob h
    refine ae (x_at_list TT_ok hv4 k k k k k k) k <| ae (w_load_ref TT_ok k k k k k k) k ?_
    obtain ⟨v5, hv5, h⟩ := ob h
    refine ae (w_call0s (c_laws_eqBar v3 v4 v5 hv5) k (va_cons (va_agg' (v1_cons (v1_same k) (v1_cons (v1_same k) (v1_cons (v1_same k) v1_nil)))) (va_cons (va_agg' (v1_cons (v1_same k) (v1_cons (v1_same k) (v1_cons (v1_same k) v1_nil)))) va_nil))) k <| ae (w_not k) k <| an ?_
    refine ⟨by kernel_rfl, ?_⟩
    refine tn <| ac_ent (t := mkS [(0, .list 3 (List.map eB a0)), (1, .list 3 (List.map eB a1)), (5, .int x1), (26, .bl (!v5))] [] 0 [0, 1]) (ent_mk (σ := sg []) ⟨⟨_, k, ⟨k, k⟩⟩, ⟨_, k, ⟨k, k⟩⟩, (e1 k k), (e1 k k), trivial⟩ trivial k) ?_
    rcases cb h with ⟨q6, h⟩ | ⟨q6, h⟩
    ·refine ac_condT k q6 <| sQ <| rg <| aa k k <| an <| tn <| ac_ret <| block_ret <| then_ret <| then_ret ?_
     obtain rfl := so h
     exact ⟨_, k, k, ret_mk k k k (fz_bl k)⟩
    ·refine ac_condF k q6 <| ac_skip <| block_n <| tn <| rg <| am k k <| ae (x_add k k) k <| aa k k <| an <| tn ?_
     obtain rfl := so h
     exact ⟨_, k, (ent_mk (σ := sg []) ⟨⟨_, k, ⟨k, k⟩⟩, ⟨_, k, ⟨k, k⟩⟩, (e1 k k), trivial⟩ trivial k)⟩
   ·refine ac_condF k q2 <| ac_exit <| then_exit <| then_exit ?_
    obtain rfl := so h
    exact ⟨_, k, k, (ent_mk (σ := sg []) trivial trivial k)⟩
  ·intro e t hX
   rcases y7 with y8 | y9
   ·obtain ⟨rfl, hent⟩ := hX
    refine block_here <| tn <| ac_ent hent <| sQ <| rg <| aa k k <| an <| tn <| ac_ret ?_
    obtain rfl := so h
    exact ret_mk k k k (fz_bl k)
   ·obtain ⟨rfl, hent⟩ := hX
    refine block_ret <| then_ret ?_
    obtain rfl := so h
    exact hent

noncomputable def m_laws_eqClaim (a0 : Cl) (a1 : Cl) : Option Bool :=
  bif !decide (a0.kind = a1.kind) then
    (some (false))
  else
    (Option.bind (m_laws_eqRep a0.rep a1.rep) fun v2 =>
    bif !v2 then
      (some (false))
    else
      (Option.bind (m_laws_eqRep a0.other a1.other) fun v4 =>
      bif !v4 then
        (some (false))
      else
        (Option.bind (m_laws_eqRepS a0.parts a1.parts) fun v6 =>
        bif !v6 then
          (some (false))
        else
          (Option.bind (m_laws_eqMatrixS a0.maps a1.maps) fun v8 =>
          bif !v8 then
            (some (false))
          else
            (Option.bind (m_laws_eqBarS a0.bars a1.bars) fun v10 =>
            bif !v10 then
              (some (false))
            else
              (Option.bind (m_laws_eqIntS a0.theta a1.theta) fun v12 =>
              bif !v12 then
                (some (false))
              else
                (Option.bind (m_laws_eqSpaceS a0.subs a1.subs) fun v14 =>
                bif !v14 then
                  (some (false))
                else
                  (some (true)))))))))

theorem c_laws_eqClaim (a0 : Cl) (a1 : Cl) (r : Bool) (h : m_laws_eqClaim a0 a1 = some r) : HasC Try.prog 10 [.agg (eC a0), .agg (eC a1)] (.bl r) := by
 refine hasC_mk TT_ok (rvs := [.tmp 4]) (ns := [0, 1, 2, 3]) Try.func10 k k Try.ntmps10 k k k <| sQ <| rg <| ae (w_box k k k k) k <| ae (w_box k k k k) k <| aa k k <| an <| tn <| sQ <| sQ ?_
 refine rg <| ae (w_field_ptr TT_ok k k k k k k k) k <| ae (w_load_ptr TT_ok k k k k k k k) k <| ae (w_field_ptr TT_ok k k k k k k k) k <| ae (w_load_ptr TT_ok k k k k k k k) k <| ae (w_cmp k k k) k <| an <| tn ?_
 rcases cb h with ⟨q1, h⟩ | ⟨q1, h⟩
 ·refine ac_condT k q1 <| sQ <| rg <| aa k k <| an <| tn <| ac_ret <| then_ret ?_
  obtain rfl := so h
  exact ret_mk k k k (fz_bl k)
 ·refine ac_condF k q1 <| ac_skip <| tn <| sQ <| sQ <| rg <| ae (w_field_ptr TT_ok k k k k k k k) k <| ae (w_load_ptr TT_ok k k k k k k k) k <| ae (w_field_ptr TT_ok k k k k k k k) k <| ae (w_load_ptr TT_ok k k k k k k k) k ?_
  obtain ⟨v2, hv2, h⟩ := ob h
  refine ae (w_call0s (c_laws_eqRep a0.rep a1.rep v2 hv2) k (va_cons (va_agg' (v1_cons (v1_same k) (v1_cons (v1_same k) (v1_cons (v1_same k) (v1_cons (v1_same k) (v1_cons (v1_same k) (v1_cons (v1_same k) v1_nil))))))) (va_cons (va_agg' (v1_cons (v1_same k) (v1_cons (v1_same k) (v1_cons (v1_same k) (v1_cons (v1_same k) (v1_cons (v1_same k) (v1_cons (v1_same k) v1_nil))))))) va_nil))) k <| ae (w_not k) k <| an <| tn <| ac_ent (t := mkS [(2, .ptr 0 0 0), (3, .ptr 1 0 0), (15, .bl (!v2))] [(0, ⟨18, [[.int a0.kind, .int a0.rep.p, .int a0.rep.q.n, .list 1 (List.map eI a0.rep.q.src), .list 1 (List.map eI a0.rep.q.tgt), .list 1 (List.map eI a0.rep.dims), .list 3 (List.map eM a0.rep.maps), .int a0.other.p, .int a0.other.q.n, .list 1 (List.map eI a0.other.q.src), .list 1 (List.map eI a0.other.q.tgt), .list 1 (List.map eI a0.other.dims), .list 3 (List.map eM a0.other.maps), .list 6 (List.map eR a0.parts), .list 3 (List.map eM a0.maps), .list 3 (List.map eB a0.bars), .list 1 (List.map eI a0.theta), .list 2 (List.map eS a0.subs)]]⟩), (1, ⟨18, [[.int a1.kind, .int a1.rep.p, .int a1.rep.q.n, .list 1 (List.map eI a1.rep.q.src), .list 1 (List.map eI a1.rep.q.tgt), .list 1 (List.map eI a1.rep.dims), .list 3 (List.map eM a1.rep.maps), .int a1.other.p, .int a1.other.q.n, .list 1 (List.map eI a1.other.q.src), .list 1 (List.map eI a1.other.q.tgt), .list 1 (List.map eI a1.other.dims), .list 3 (List.map eM a1.other.maps), .list 6 (List.map eR a1.parts), .list 3 (List.map eM a1.maps), .list 3 (List.map eB a1.bars), .list 1 (List.map eI a1.theta), .list 2 (List.map eS a1.subs)]]⟩)] 2 [2, 3]) (ent_mk (σ := sg [(0, 0), (1, 1)]) ⟨(pE k k), (pE k k), (e1 k k), trivial⟩ (hP k k k k <| hP k k k k <| trivial) k) ?_
  rcases cb h with ⟨q3, h⟩ | ⟨q3, h⟩
  ·refine ac_condT k q3 <| sQ <| rg <| aa k k <| an <| tn <| ac_ret <| then_ret ?_
   obtain rfl := so h
   exact ret_mk k k k (fz_bl k)
  ·refine ac_condF k q3 <| ac_skip <| tn <| sQ <| sQ <| rg <| ae (w_field_ptr TT_ok k k k k k k k) k <| ae (w_load_ptr TT_ok k k k k k k k) k <| ae (w_field_ptr TT_ok k k k k k k k) k <| ae (w_load_ptr TT_ok k k k k k k k) k ?_
   obtain ⟨v4, hv4, h⟩ := ob h
   refine ae (w_call0s (c_laws_eqRep a0.other a1.other v4 hv4) k (va_cons (va_agg' (v1_cons (v1_same k) (v1_cons (v1_same k) (v1_cons (v1_same k) (v1_cons (v1_same k) (v1_cons (v1_same k) (v1_cons (v1_same k) v1_nil))))))) (va_cons (va_agg' (v1_cons (v1_same k) (v1_cons (v1_same k) (v1_cons (v1_same k) (v1_cons (v1_same k) (v1_cons (v1_same k) (v1_cons (v1_same k) v1_nil))))))) va_nil))) k <| ae (w_not k) k <| an <| tn ?_
   rcases cb h with ⟨q5, h⟩ | ⟨q5, h⟩
   ·refine ac_condT k q5 <| sQ <| rg <| aa k k <| an <| tn <| ac_ret <| then_ret ?_
    obtain rfl := so h
    exact ret_mk k k k (fz_bl k)
   ·refine ac_condF k q5 <| ac_skip <| tn <| sQ <| sQ <| rg <| ae (w_field_ptr TT_ok k k k k k k k) k <| ae (w_load_ptr TT_ok k k k k k k k) k <| ae (w_field_ptr TT_ok k k k k k k k) k <| ae (w_load_ptr TT_ok k k k k k k k) k ?_
    obtain ⟨v6, hv6, h⟩ := ob h
    refine ae (w_call0s (c_laws_eqRepS a0.parts a1.parts v6 hv6) k (va_cons (va_same k) (va_cons (va_same k) va_nil))) k <| ae (w_not k) k <| an <| tn <| ac_ent (t := mkS [(2, .ptr 0 0 0), (3, .ptr 1 0 0), (27, .bl (!v6))] [(0, ⟨18, [[.int a0.kind, .int a0.rep.p, .int a0.rep.q.n, .list 1 (List.map eI a0.rep.q.src), .list 1 (List.map eI a0.rep.q.tgt), .list 1 (List.map eI a0.rep.dims), .list 3 (List.map eM a0.rep.maps), .int a0.other.p, .int a0.other.q.n, .list 1 (List.map eI a0.other.q.src), .list 1 (List.map eI a0.other.q.tgt), .list 1 (List.map eI a0.other.dims), .list 3 (List.map eM a0.other.maps), .list 6 (List.map eR a0.parts), .list 3 (List.map eM a0.maps), .list 3 (List.map eB a0.bars), .list 1 (List.map eI a0.theta), .list 2 (List.map eS a0.subs)]]⟩), (1, ⟨18, [[.int a1.kind, .int a1.rep.p, .int a1.rep.q.n, .list 1 (List.map eI a1.rep.q.src), .list 1 (List.map eI a1.rep.q.tgt), .list 1 (List.map eI a1.rep.dims), .list 3 (List.map eM a1.rep.maps), .int a1.other.p, .int a1.other.q.n, .list 1 (List.map eI a1.other.q.src), .list 1 (List.map eI a1.other.q.tgt), .list 1 (List.map eI a1.other.dims), .list 3 (List.map eM a1.other.maps), .list 6 (List.map eR a1.parts), .list 3 (List.map eM a1.maps), .list 3 (List.map eB a1.bars), .list 1 (List.map eI a1.theta), .list 2 (List.map eS a1.subs)]]⟩)] 2 [2, 3]) (ent_mk (σ := sg [(0, 0), (1, 1)]) ⟨(pE k k), (pE k k), (e1 k k), trivial⟩ (hP k k k k <| hP k k k k <| trivial) k) ?_
    rcases cb h with ⟨q7, h⟩ | ⟨q7, h⟩
    ·refine ac_condT k q7 <| sQ <| rg <| aa k k <| an <| tn <| ac_ret <| then_ret ?_
     obtain rfl := so h
     exact ret_mk k k k (fz_bl k)
    ·refine ac_condF k q7 <| ac_skip <| tn <| sQ <| sQ <| rg <| ae (w_field_ptr TT_ok k k k k k k k) k <| ae (w_load_ptr TT_ok k k k k k k k) k <| ae (w_field_ptr TT_ok k k k k k k k) k <| ae (w_load_ptr TT_ok k k k k k k k) k ?_
     obtain ⟨v8, hv8, h⟩ := ob h
     refine ae (w_call0s (c_laws_eqMatrixS a0.maps a1.maps v8 hv8) k (va_cons (va_same k) (va_cons (va_same k) va_nil))) k <| ae (w_not k) k <| an <| tn ?_
     rcases cb h with ⟨q9, h⟩ | ⟨q9, h⟩
     ·refine ac_condT k q9 <| sQ <| rg <| aa k k <| an <| tn <| ac_ret <| then_ret ?_
      obtain rfl := so h
      exact ret_mk k k k (fz_bl k)
     ·refine ac_condF k q9 <| ac_skip <| tn <| sQ <| sQ <| rg <| ae (w_field_ptr TT_ok k k k k k k k) k <| ae (w_load_ptr TT_ok k k k k k k k) k <| ae (w_field_ptr TT_ok k k k k k k k) k <| ae (w_load_ptr TT_ok k k k k k k k) k ?_
      obtain ⟨v10, hv10, h⟩ := ob h
      refine ae (w_call0s (c_laws_eqBarS a0.bars a1.bars v10 hv10) k (va_cons (va_same k) (va_cons (va_same k) va_nil))) k <| ae (w_not k) k <| an <| tn <| ac_ent (t := mkS [(2, .ptr 0 0 0), (3, .ptr 1 0 0), (39, .bl (!v10))] [(0, ⟨18, [[.int a0.kind, .int a0.rep.p, .int a0.rep.q.n, .list 1 (List.map eI a0.rep.q.src), .list 1 (List.map eI a0.rep.q.tgt), .list 1 (List.map eI a0.rep.dims), .list 3 (List.map eM a0.rep.maps), .int a0.other.p, .int a0.other.q.n, .list 1 (List.map eI a0.other.q.src), .list 1 (List.map eI a0.other.q.tgt), .list 1 (List.map eI a0.other.dims), .list 3 (List.map eM a0.other.maps), .list 6 (List.map eR a0.parts), .list 3 (List.map eM a0.maps), .list 3 (List.map eB a0.bars), .list 1 (List.map eI a0.theta), .list 2 (List.map eS a0.subs)]]⟩), (1, ⟨18, [[.int a1.kind, .int a1.rep.p, .int a1.rep.q.n, .list 1 (List.map eI a1.rep.q.src), .list 1 (List.map eI a1.rep.q.tgt), .list 1 (List.map eI a1.rep.dims), .list 3 (List.map eM a1.rep.maps), .int a1.other.p, .int a1.other.q.n, .list 1 (List.map eI a1.other.q.src), .list 1 (List.map eI a1.other.q.tgt), .list 1 (List.map eI a1.other.dims), .list 3 (List.map eM a1.other.maps), .list 6 (List.map eR a1.parts), .list 3 (List.map eM a1.maps), .list 3 (List.map eB a1.bars), .list 1 (List.map eI a1.theta), .list 2 (List.map eS a1.subs)]]⟩)] 2 [2, 3]) (ent_mk (σ := sg [(0, 0), (1, 1)]) ⟨(pE k k), (pE k k), (e1 k k), trivial⟩ (hP k k k k <| hP k k k k <| trivial) k) ?_
      rcases cb h with ⟨q11, h⟩ | ⟨q11, h⟩
      ·refine ac_condT k q11 <| sQ <| rg <| aa k k <| an <| tn <| ac_ret <| then_ret ?_
       obtain rfl := so h
       exact ret_mk k k k (fz_bl k)
      ·refine ac_condF k q11 <| ac_skip <| tn <| sQ <| sQ <| rg <| ae (w_field_ptr TT_ok k k k k k k k) k <| ae (w_load_ptr TT_ok k k k k k k k) k <| ae (w_field_ptr TT_ok k k k k k k k) k <| ae (w_load_ptr TT_ok k k k k k k k) k ?_
       obtain ⟨v12, hv12, h⟩ := ob h
       refine ae (w_call0s (c_laws_eqIntS a0.theta a1.theta v12 hv12) k (va_cons (va_same k) (va_cons (va_same k) va_nil))) k <| ae (w_not k) k <| an <| tn ?_
       rcases cb h with ⟨q13, h⟩ | ⟨q13, h⟩
       ·refine ac_condT k q13 <| sQ <| rg <| aa k k <| an <| tn <| ac_ret <| then_ret ?_
        obtain rfl := so h
        exact ret_mk k k k (fz_bl k)
       ·refine ac_condF k q13 <| ac_skip <| tn <| sQ <| sQ <| rg <| ae (w_field_ptr TT_ok k k k k k k k) k <| ae (w_load_ptr TT_ok k k k k k k k) k <| ae (w_field_ptr TT_ok k k k k k k k) k <| ae (w_load_ptr TT_ok k k k k k k k) k ?_
        obtain ⟨v14, hv14, h⟩ := ob h
        refine ae (w_call0s (c_laws_eqSpaceS a0.subs a1.subs v14 hv14) k (va_cons (va_same k) (va_cons (va_same k) va_nil))) k <| ae (w_not k) k <| an <| tn <| ac_ent (t := mkS [(51, .bl (!v14))] [] 2 [2, 3]) (ent_mk (σ := sg []) ⟨(e1 k k), trivial⟩ trivial k) ?_
        rcases cb h with ⟨q15, h⟩ | ⟨q15, h⟩
        ·refine ac_condT k q15 <| sQ <| rg <| aa k k <| an <| tn <| ac_ret <| then_ret ?_
         obtain rfl := so h
         exact ret_mk k k k (fz_bl k)
        ·refine ac_condF k q15 <| ac_skip <| tn <| sQ <| rg <| aa k k <| an <| tn <| ac_ret ?_
         obtain rfl := so h
         exact ret_mk k k k (fz_bl k)

noncomputable def m_laws_FnExactClaimOfBars (a0 : Rp) : Option Bool :=
  Option.bind (m_laws_szRep a0 1048576) fun v1 =>
  bif decide (v1 < 0) then
    (some (true))
  else
    (Option.bind (m_laws_toRep a0) fun v3 =>
    Option.bind (m_spec_ClaimOfBars v3) fun v4 =>
    Option.bind (m_laws_toRep a0) fun v5 =>
    Option.bind (m_impl_ClaimOfBars v5) fun v6 =>
    Option.bind (m_laws_eqClaim v6.1 v4.1) fun v7 =>
    bif !v7 then
      (some (false))
    else
      (bif !(v6.2 == v4.2) then
        (some (false))
      else
        (Option.bind (m_laws_toRep a0) fun v10 =>
        Option.bind (m_laws_eqRep v5 v10) fun v11 =>
        bif !v11 then
          (some (false))
        else
          (Option.bind (m_laws_markRep v5 1) fun v13 =>
          bif decide (v13.1.length = v5.q.src.length) then
            (bif decide (v13.2.1.length = v5.q.tgt.length) then
              (bif decide (v13.2.2.1.length = v5.dims.length) then
                (bif decide (v13.2.2.2.1.length = v5.maps.length) then
                  (bif decide (v13.2.2.2.2 < 0) then
                    (some (false))
                  else
                    (Option.bind (m_laws_eqClaim v6.1 v4.1) fun v19 =>
                    bif !v19 then
                      (some (false))
                    else
                      (bif !(v6.2 == v4.2) then
                        (some (false))
                      else
                        (Option.bind (m_laws_markClaim v6.1 1) fun v22 =>
                        bif decide (v22.1.length = v6.1.rep.q.src.length) then
                          (bif decide (v22.2.1.length = v6.1.rep.q.tgt.length) then
                            (bif decide (v22.2.2.1.length = v6.1.rep.dims.length) then
                              (bif decide (v22.2.2.2.1.length = v6.1.rep.maps.length) then
                                (bif decide (v22.2.2.2.2.1.length = v6.1.other.q.src.length) then
                                  (bif decide (v22.2.2.2.2.2.1.length = v6.1.other.q.tgt.length) then
                                    (bif decide (v22.2.2.2.2.2.2.1.length = v6.1.other.dims.length) then
                                      (bif decide (v22.2.2.2.2.2.2.2.1.length = v6.1.other.maps.length) then
                                        (bif decide (v22.2.2.2.2.2.2.2.2.1.length = v6.1.parts.length) then
                                          (bif decide (v22.2.2.2.2.2.2.2.2.2.1.length = v6.1.maps.length) then
                                            (bif decide (v22.2.2.2.2.2.2.2.2.2.2.1.length = v6.1.bars.length) then
                                              (bif decide (v22.2.2.2.2.2.2.2.2.2.2.2.1.length = v6.1.theta.length) then
                                                (bif decide (v22.2.2.2.2.2.2.2.2.2.2.2.2.1.length = v6.1.subs.length) then
                                                  (Option.bind (m_laws_heldClaim (⟨v6.1.kind, (⟨v6.1.rep.p, (⟨v6.1.rep.q.n, v22.1, v22.2.1⟩ : Qv), v22.2.2.1, v22.2.2.2.1⟩ : Rp), (⟨v6.1.other.p, (⟨v6.1.other.q.n, v22.2.2.2.2.1, v22.2.2.2.2.2.1⟩ : Qv), v22.2.2.2.2.2.2.1, v22.2.2.2.2.2.2.2.1⟩ : Rp), v22.2.2.2.2.2.2.2.2.1, v22.2.2.2.2.2.2.2.2.2.1, v22.2.2.2.2.2.2.2.2.2.2.1, v22.2.2.2.2.2.2.2.2.2.2.2.1, v22.2.2.2.2.2.2.2.2.2.2.2.2.1⟩ : Cl) 1) fun v36 =>
                                                  bif decide (v36 < 0) then
                                                    (some (false))
                                                  else
                                                    (bif !decide (v36 = v22.2.2.2.2.2.2.2.2.2.2.2.2.2) then
                                                      (some (false))
                                                    else
                                                      (Option.bind (m_laws_toRep a0) fun v39 =>
                                                      Option.bind (m_impl_ClaimOfBars v39) fun v40 =>
                                                      Option.bind (m_laws_eqClaim v40.1 v4.1) fun v41 =>
                                                      bif !v41 then
                                                        (some (false))
                                                      else
                                                        (bif !(v40.2 == v4.2) then
                                                          (some (false))
                                                        else
                                                          (Option.bind (m_laws_heldClaim (⟨v6.1.kind, (⟨v6.1.rep.p, (⟨v6.1.rep.q.n, v22.1, v22.2.1⟩ : Qv), v22.2.2.1, v22.2.2.2.1⟩ : Rp), (⟨v6.1.other.p, (⟨v6.1.other.q.n, v22.2.2.2.2.1, v22.2.2.2.2.2.1⟩ : Qv), v22.2.2.2.2.2.2.1, v22.2.2.2.2.2.2.2.1⟩ : Rp), v22.2.2.2.2.2.2.2.2.1, v22.2.2.2.2.2.2.2.2.2.1, v22.2.2.2.2.2.2.2.2.2.2.1, v22.2.2.2.2.2.2.2.2.2.2.2.1, v22.2.2.2.2.2.2.2.2.2.2.2.2.1⟩ : Cl) 1) fun v44 =>
                                                          bif decide (v44 < 0) then
                                                            (some (false))
                                                          else
                                                            (bif !decide (v44 = v22.2.2.2.2.2.2.2.2.2.2.2.2.2) then
                                                              (some (false))
                                                            else
                                                              (some (true))))))))
                                                else none)
                                              else none)
                                            else none)
                                          else none)
                                        else none)
                                      else none)
                                    else none)
                                  else none)
                                else none)
                              else none)
                            else none)
                          else none)
                        else none))))
                else none)
              else none)
            else none)
          else none))))

theorem c_laws_FnExactClaimOfBars (a0 : Rp) (r : Bool) (h : m_laws_FnExactClaimOfBars a0 = some r) : HasC Try.prog 3 [.agg (eR a0)] (.bl r) := by
 refine hasC_mkW TT_ok (rvs := [.tmp 2]) (ns := [0, 1, 2, 3, 4, 5, 6, 7, 8, 9, 10, 11, 12, 13, 14, 15, 16, 17, 18, 19, 20, 21, 22, 23, 24, 25, 26, 27, 28, 29, 30, 31, 32, 33, 34, 35, 36, 37, 38, 39, 40, 41, 42, 43, 44, 45, 46, 47, 48, 49, 50, 51, 52, 53, 54, 55, 56, 57, 58, 59, 60, 61]) Try.func3 k k Try.ntmps3 k k k (fun W => ?_)
 refine rawE_agg <| rawC_sc <| rawC_sc <| rawC_d (fun w0_2 S0_2 r0_2 => ?_)
 refine rawC_d (fun w0_3 S0_3 r0_3 => ?_)
 refine rawC_d (fun w0_4 S0_4 r0_4 => ?_)
 refine rawC_d (fun w0_5 S0_5 r0_5 => ?_)
 refine rawC_nil <| rawE_nil <| sQ <| rgS <| se (w_box k k k k) k <| se (eff_assign k) k <| sn <| tn <| sQ <| rgS ?_
 refine se (eff_assign k) k <| sn <| tn <| sQ <| rgS <| se (w_load_ptr TT_ok k k k k k k k) k <| se (eff_move k) k ?_
 obtain ⟨v1, hv1, h⟩ := ob h
 refine se (w_call0sK (c_laws_szRep a0 1048576 v1 hv1) k (vk_cons (.inr (raw_cons (raw1_sc k k) (raw_cons (raw1_sc k k) (raw_cons (raw1_d k r0_2) (raw_cons (raw1_d k r0_3) (raw_cons (raw1_d k r0_4) (raw_cons (raw1_d k r0_5) raw_nil))))))) (vk_cons (.inl (va_same k)) vk_nil))) k <| se (eff_assign k) k <| sn <| tn <| sQ <| sQ <| rgS <| se (eff_move k) k <| se (w_cmp k k k) k <| sn ?_
 refine tn ?_
 rcases cb h with ⟨q2, h⟩ | ⟨q2, h⟩
 ·refine ac_condT k q2 <| sQ <| rgS <| se (eff_assign k) k <| sn <| tn <| ac_ret <| then_ret ?_
  obtain rfl := so h
  exact ret_mk k k k (fz_bl k)
 ·refine ac_condF k q2 <| ac_skip <| tn <| sQ <| rgS <| se (w_load_ptr TT_ok k k k k k k k) k ?_
  obtain ⟨v3, hv3, h⟩ := ob h
  refine se (AEff.conv (w_call0K (x := .agg [.int v3.p, .int v3.q.n, .own 1 0 (List.map eI v3.q.src).length, .own 2 0 (List.map eI v3.q.tgt).length, .own 3 0 (List.map eI v3.dims).length, .own 4 0 (List.map eM v3.maps).length]) (nb := [(1, ⟨1, absEs (List.map eI v3.q.src)⟩), (2, ⟨1, absEs (List.map eI v3.q.tgt)⟩), (3, ⟨1, absEs (List.map eI v3.dims)⟩), (4, ⟨3, absEs (List.map eM v3.maps)⟩)]) (c_laws_toRep a0 v3 hv3) k (by rfl) k k (g1_cons trivial (g1_cons trivial (g1_cons (okI.good _) (g1_cons (okI.good _) (g1_cons (okI.good _) (g1_cons (okMt.good _) g1_nil)))))) (vk_cons (.inr (raw_cons (raw1_sc k k) (raw_cons (raw1_sc k k) (raw_cons (raw1_d k r0_2) (raw_cons (raw1_d k r0_3) (raw_cons (raw1_d k r0_4) (raw_cons (raw1_d k r0_5) raw_nil))))))) vk_nil)) (v' := .agg [.int v3.p, .int v3.q.n, .own 1 0 v3.q.src.length, .own 2 0 v3.q.tgt.length, .own 3 0 v3.dims.length, .own 4 0 v3.maps.length]) (ed' := [(1, some ⟨1, List.map (ow eI) v3.q.src⟩), (2, some ⟨1, List.map (ow eI) v3.q.tgt⟩), (3, some ⟨1, List.map (ow eI) v3.dims⟩), (4, some ⟨3, List.map (ow eM) v3.maps⟩)]) (by simp only [len_map]) (ed_ok (nb' := [(1, ⟨1, List.map (ow eI) v3.q.src⟩), (2, ⟨1, List.map (ow eI) v3.q.tgt⟩), (3, ⟨1, List.map (ow eI) v3.dims⟩), (4, ⟨3, List.map (ow eM) v3.maps⟩)]) (by simp only [abs_map]))) k ?_
  obtain ⟨v4, hv4, h⟩ := ob h
  refine se (AEff.conv (w_call0K (x := .tuple [.agg [.int v4.1.kind, .int v4.1.rep.p, .int v4.1.rep.q.n, .own 5 0 (List.map eI v4.1.rep.q.src).length, .own 6 0 (List.map eI v4.1.rep.q.tgt).length, .own 7 0 (List.map eI v4.1.rep.dims).length, .own 8 0 (List.map eM v4.1.rep.maps).length, .int v4.1.other.p, .int v4.1.other.q.n, .own 9 0 (List.map eI v4.1.other.q.src).length, .own 10 0 (List.map eI v4.1.other.q.tgt).length, .own 11 0 (List.map eI v4.1.other.dims).length, .own 12 0 (List.map eM v4.1.other.maps).length, .own 13 0 (List.map eR v4.1.parts).length, .own 14 0 (List.map eM v4.1.maps).length, .own 15 0 (List.map eB v4.1.bars).length, .own 16 0 (List.map eI v4.1.theta).length, .own 17 0 (List.map eS v4.1.subs).length], .bl v4.2]) (nb := [(5, ⟨1, absEs (List.map eI v4.1.rep.q.src)⟩), (6, ⟨1, absEs (List.map eI v4.1.rep.q.tgt)⟩), (7, ⟨1, absEs (List.map eI v4.1.rep.dims)⟩), (8, ⟨3, absEs (List.map eM v4.1.rep.maps)⟩), (9, ⟨1, absEs (List.map eI v4.1.other.q.src)⟩), (10, ⟨1, absEs (List.map eI v4.1.other.q.tgt)⟩), (11, ⟨1, absEs (List.map eI v4.1.other.dims)⟩), (12, ⟨3, absEs (List.map eM v4.1.other.maps)⟩), (13, ⟨6, absEs (List.map eR v4.1.parts)⟩), (14, ⟨3, absEs (List.map eM v4.1.maps)⟩), (15, ⟨3, absEs (List.map eB v4.1.bars)⟩), (16, ⟨1, absEs (List.map eI v4.1.theta)⟩), (17, ⟨2, absEs (List.map eS v4.1.subs)⟩)]) (c_spec_ClaimOfBars v3 v4 hv4) k (by rfl) k k (gB_cons (g1_cons trivial (g1_cons trivial (g1_cons trivial (g1_cons (okI.good _) (g1_cons (okI.good _) (g1_cons (okI.good _) (g1_cons (okMt.good _) (g1_cons trivial (g1_cons trivial (g1_cons (okI.good _) (g1_cons (okI.good _) (g1_cons (okI.good _) (g1_cons (okMt.good _) (g1_cons (okRp.good _) (g1_cons (okMt.good _) (g1_cons (okBr.good _) (g1_cons (okI.good _) (g1_cons (okSc.good _) g1_nil)))))))))))))))))) (gB_cons trivial gB_nil)) (vk_cons (.inl (va_agg' (v1_cons (v1_same k) (v1_cons (v1_same k) (v1_cons (v1_T okI k k) (v1_cons (v1_T okI k k) (v1_cons (v1_T okI k k) (v1_cons (v1_T okMt k k) v1_nil)))))))) vk_nil)) (v' := .tuple [.agg [.int v4.1.kind, .int v4.1.rep.p, .int v4.1.rep.q.n, .own 5 0 v4.1.rep.q.src.length, .own 6 0 v4.1.rep.q.tgt.length, .own 7 0 v4.1.rep.dims.length, .own 8 0 v4.1.rep.maps.length, .int v4.1.other.p, .int v4.1.other.q.n, .own 9 0 v4.1.other.q.src.length, .own 10 0 v4.1.other.q.tgt.length, .own 11 0 v4.1.other.dims.length, .own 12 0 v4.1.other.maps.length, .own 13 0 v4.1.parts.length, .own 14 0 v4.1.maps.length, .own 15 0 v4.1.bars.length, .own 16 0 v4.1.theta.length, .own 17 0 v4.1.subs.length], .bl v4.2]) (ed' := [(5, some ⟨1, List.map (ow eI) v4.1.rep.q.src⟩), (6, some ⟨1, List.map (ow eI) v4.1.rep.q.tgt⟩), (7, some ⟨1, List.map (ow eI) v4.1.rep.dims⟩), (8, some ⟨3, List.map (ow eM) v4.1.rep.maps⟩), (9, some ⟨1, List.map (ow eI) v4.1.other.q.src⟩), (10, some ⟨1, List.map (ow eI) v4.1.other.q.tgt⟩), (11, some ⟨1, List.map (ow eI) v4.1.other.dims⟩), (12, some ⟨3, List.map (ow eM) v4.1.other.maps⟩), (13, some ⟨6, List.map (ow eR) v4.1.parts⟩), (14, some ⟨3, List.map (ow eM) v4.1.maps⟩), (15, some ⟨3, List.map (ow eB) v4.1.bars⟩), (16, some ⟨1, List.map (ow eI) v4.1.theta⟩), (17, some ⟨2, List.map (ow eS) v4.1.subs⟩)]) (by simp only [len_map]) (ed_ok (nb' := [(5, ⟨1, List.map (ow eI) v4.1.rep.q.src⟩), (6, ⟨1, List.map (ow eI) v4.1.rep.q.tgt⟩), (7, ⟨1, List.map (ow eI) v4.1.rep.dims⟩), (8, ⟨3, List.map (ow eM) v4.1.rep.maps⟩), (9, ⟨1, List.map (ow eI) v4.1.other.q.src⟩), (10, ⟨1, List.map (ow eI) v4.1.other.q.tgt⟩), (11, ⟨1, List.map (ow eI) v4.1.other.dims⟩), (12, ⟨3, List.map (ow eM) v4.1.other.maps⟩), (13, ⟨6, List.map (ow eR) v4.1.parts⟩), (14, ⟨3, List.map (ow eM) v4.1.maps⟩), (15, ⟨3, List.map (ow eB) v4.1.bars⟩), (16, ⟨1, List.map (ow eI) v4.1.theta⟩), (17, ⟨2, List.map (ow eS) v4.1.subs⟩)]) (by simp only [abs_map]))) k ?_
  refine se (eff_move k) k <| se (eff_extract k k (by intro _ h; cases h)) k <| se (eff_extract k k (by intro _ h; cases h)) k <| se (w_alloc TT_ok k k) k <| se (w_store TT_ok k k k k k k k k) k <| se (eff_assign k) k <| sn <| tn <| ac_ent (t := mkS [(1, .ptr 0 0 0), (4, .ptr 18 0 0), (5, .bl v4.2)] [(0, ⟨6, [[.int a0.p, .int a0.q.n, .sc w0_2, .sc w0_3, .sc w0_4, .sc w0_5]]⟩), (5, ⟨1, List.map (ow eI) v4.1.rep.q.src⟩), (6, ⟨1, List.map (ow eI) v4.1.rep.q.tgt⟩), (7, ⟨1, List.map (ow eI) v4.1.rep.dims⟩), (8, ⟨3, List.map (ow eM) v4.1.rep.maps⟩), (9, ⟨1, List.map (ow eI) v4.1.other.q.src⟩), (10, ⟨1, List.map (ow eI) v4.1.other.q.tgt⟩), (11, ⟨1, List.map (ow eI) v4.1.other.dims⟩), (12, ⟨3, List.map (ow eM) v4.1.other.maps⟩), (13, ⟨6, List.map (ow eR) v4.1.parts⟩), (14, ⟨3, List.map (ow eM) v4.1.maps⟩), (15, ⟨3, List.map (ow eB) v4.1.bars⟩), (16, ⟨1, List.map (ow eI) v4.1.theta⟩), (17, ⟨2, List.map (ow eS) v4.1.subs⟩), (18, ⟨18, [[.int v4.1.kind, .int v4.1.rep.p, .int v4.1.rep.q.n, .own 5 0 v4.1.rep.q.src.length, .own 6 0 v4.1.rep.q.tgt.length, .own 7 0 v4.1.rep.dims.length, .own 8 0 v4.1.rep.maps.length, .int v4.1.other.p, .int v4.1.other.q.n, .own 9 0 v4.1.other.q.src.length, .own 10 0 v4.1.other.q.tgt.length, .own 11 0 v4.1.other.dims.length, .own 12 0 v4.1.other.maps.length, .own 13 0 v4.1.parts.length, .own 14 0 v4.1.maps.length, .own 15 0 v4.1.bars.length, .own 16 0 v4.1.theta.length, .own 17 0 v4.1.subs.length]]⟩)] 19 [19, 20, 21, 22, 23, 24, 25, 26, 27, 28, 29, 30, 31, 32, 33, 34, 35, 36, 37, 38, 39, 40, 41, 42, 43, 44, 45, 46, 47, 48, 49, 50, 51, 52, 53, 54, 55, 56, 57, 58, 59, 60, 61] ⟨0, true, fxW W, true⟩) (ent_mk (σ := sg [(0, 0), (5, 5), (6, 6), (7, 7), (8, 8), (9, 9), (10, 10), (11, 11), (12, 12), (13, 13), (14, 14), (15, 15), (16, 16), (17, 17), (18, 18)]) ⟨(pE k k), (pE k k), (e1 k k), trivial⟩ (hP k k k k <| hI k k k <| hI k k k <| hI k k k <| hB (okMt.plainO _) k k k <| hI k k k <| hI k k k <| hI k k k <| hB (okMt.plainO _) k k k <| hB (okRp.plainO _) k k k <| hB (okMt.plainO _) k k k <| hB (okBr.plainO _) k k k <| hI k k k <| hB (okSc.plainO _) k k k <| hX ⟨_, k, k, .inr ⟨_, _, k, ⟨_, _, k, k, ⟨_, _, k, k, ⟨_, _, k, k, ⟨_, _, k, ⟨k, k, k, k⟩, ⟨_, _, k, ⟨k, k, k, k⟩, ⟨_, _, k, ⟨k, k, k, k⟩, ⟨_, _, k, ⟨k, k, k, k⟩, ⟨_, _, k, k, ⟨_, _, k, k, ⟨_, _, k, ⟨k, k, k, k⟩, ⟨_, _, k, ⟨k, k, k, k⟩, ⟨_, _, k, ⟨k, k, k, k⟩, ⟨_, _, k, ⟨k, k, k, k⟩, ⟨_, _, k, ⟨k, k, k, k⟩, ⟨_, _, k, ⟨k, k, k, k⟩, ⟨_, _, k, ⟨k, k, k, k⟩, ⟨_, _, k, ⟨k, k, k, k⟩, ⟨_, _, k, ⟨k, k, k, k⟩, k⟩⟩⟩⟩⟩⟩⟩⟩⟩⟩⟩⟩⟩⟩⟩⟩⟩⟩, k⟩⟩ k <| trivial) k) ?_
  refine sQ <| rgS <| se (w_load_ptr TT_ok k k k k k k k) k ?_
  obtain ⟨v5, hv5, h⟩ := ob h
  refine se (AEff.conv (w_call0K (x := .agg [.int v5.p, .int v5.q.n, .own 19 0 (List.map eI v5.q.src).length, .own 20 0 (List.map eI v5.q.tgt).length, .own 21 0 (List.map eI v5.dims).length, .own 22 0 (List.map eM v5.maps).length]) (nb := [(19, ⟨1, absEs (List.map eI v5.q.src)⟩), (20, ⟨1, absEs (List.map eI v5.q.tgt)⟩), (21, ⟨1, absEs (List.map eI v5.dims)⟩), (22, ⟨3, absEs (List.map eM v5.maps)⟩)]) (c_laws_toRep a0 v5 hv5) k (by rfl) k k (g1_cons trivial (g1_cons trivial (g1_cons (okI.good _) (g1_cons (okI.good _) (g1_cons (okI.good _) (g1_cons (okMt.good _) g1_nil)))))) (vk_cons (.inr (raw_cons (raw1_sc k k) (raw_cons (raw1_sc k k) (raw_cons (raw1_d k r0_2) (raw_cons (raw1_d k r0_3) (raw_cons (raw1_d k r0_4) (raw_cons (raw1_d k r0_5) raw_nil))))))) vk_nil)) (v' := .agg [.int v5.p, .int v5.q.n, .own 19 0 v5.q.src.length, .own 20 0 v5.q.tgt.length, .own 21 0 v5.dims.length, .own 22 0 v5.maps.length]) (ed' := [(19, some ⟨1, List.map (ow eI) v5.q.src⟩), (20, some ⟨1, List.map (ow eI) v5.q.tgt⟩), (21, some ⟨1, List.map (ow eI) v5.dims⟩), (22, some ⟨3, List.map (ow eM) v5.maps⟩)]) (by simp only [len_map]) (ed_ok (nb' := [(19, ⟨1, List.map (ow eI) v5.q.src⟩), (20, ⟨1, List.map (ow eI) v5.q.tgt⟩), (21, ⟨1, List.map (ow eI) v5.dims⟩), (22, ⟨3, List.map (ow eM) v5.maps⟩)]) (by simp only [abs_map]))) k <| se (w_alloc TT_ok k k) k <| se (w_store TT_ok k k k k k k k k) k <| sn <| tn <| sQ <| rgS <| se (w_load_ptr TT_ok k k k k k k k) k ?_
  obtain ⟨v6, hv6, h⟩ := ob h
  refine se (AEff.conv (w_call0K (x := .tuple [.agg [.int v6.1.kind, .int v6.1.rep.p, .int v6.1.rep.q.n, .own 24 0 (List.map eI v6.1.rep.q.src).length, .own 25 0 (List.map eI v6.1.rep.q.tgt).length, .own 26 0 (List.map eI v6.1.rep.dims).length, .own 27 0 (List.map eM v6.1.rep.maps).length, .int v6.1.other.p, .int v6.1.other.q.n, .own 28 0 (List.map eI v6.1.other.q.src).length, .own 29 0 (List.map eI v6.1.other.q.tgt).length, .own 30 0 (List.map eI v6.1.other.dims).length, .own 31 0 (List.map eM v6.1.other.maps).length, .own 32 0 (List.map eR v6.1.parts).length, .own 33 0 (List.map eM v6.1.maps).length, .own 34 0 (List.map eB v6.1.bars).length, .own 35 0 (List.map eI v6.1.theta).length, .own 36 0 (List.map eS v6.1.subs).length], .bl v6.2]) (nb := [(24, ⟨1, absEs (List.map eI v6.1.rep.q.src)⟩), (25, ⟨1, absEs (List.map eI v6.1.rep.q.tgt)⟩), (26, ⟨1, absEs (List.map eI v6.1.rep.dims)⟩), (27, ⟨3, absEs (List.map eM v6.1.rep.maps)⟩), (28, ⟨1, absEs (List.map eI v6.1.other.q.src)⟩), (29, ⟨1, absEs (List.map eI v6.1.other.q.tgt)⟩), (30, ⟨1, absEs (List.map eI v6.1.other.dims)⟩), (31, ⟨3, absEs (List.map eM v6.1.other.maps)⟩), (32, ⟨6, absEs (List.map eR v6.1.parts)⟩), (33, ⟨3, absEs (List.map eM v6.1.maps)⟩), (34, ⟨3, absEs (List.map eB v6.1.bars)⟩), (35, ⟨1, absEs (List.map eI v6.1.theta)⟩), (36, ⟨2, absEs (List.map eS v6.1.subs)⟩)]) (c_impl_ClaimOfBars v5 v6 hv6) k (by rfl) k k (gB_cons (g1_cons trivial (g1_cons trivial (g1_cons trivial (g1_cons (okI.good _) (g1_cons (okI.good _) (g1_cons (okI.good _) (g1_cons (okMt.good _) (g1_cons trivial (g1_cons trivial (g1_cons (okI.good _) (g1_cons (okI.good _) (g1_cons (okI.good _) (g1_cons (okMt.good _) (g1_cons (okRp.good _) (g1_cons (okMt.good _) (g1_cons (okBr.good _) (g1_cons (okI.good _) (g1_cons (okSc.good _) g1_nil)))))))))))))))))) (gB_cons trivial gB_nil)) (vk_cons (.inl (va_agg' (v1_cons (v1_same k) (v1_cons (v1_same k) (v1_cons (v1_T okI k k) (v1_cons (v1_T okI k k) (v1_cons (v1_T okI k k) (v1_cons (v1_T okMt k k) v1_nil)))))))) vk_nil)) (v' := .tuple [.agg [.int v6.1.kind, .int v6.1.rep.p, .int v6.1.rep.q.n, .own 24 0 v6.1.rep.q.src.length, .own 25 0 v6.1.rep.q.tgt.length, .own 26 0 v6.1.rep.dims.length, .own 27 0 v6.1.rep.maps.length, .int v6.1.other.p, .int v6.1.other.q.n, .own 28 0 v6.1.other.q.src.length, .own 29 0 v6.1.other.q.tgt.length, .own 30 0 v6.1.other.dims.length, .own 31 0 v6.1.other.maps.length, .own 32 0 v6.1.parts.length, .own 33 0 v6.1.maps.length, .own 34 0 v6.1.bars.length, .own 35 0 v6.1.theta.length, .own 36 0 v6.1.subs.length], .bl v6.2]) (ed' := [(24, some ⟨1, List.map (ow eI) v6.1.rep.q.src⟩), (25, some ⟨1, List.map (ow eI) v6.1.rep.q.tgt⟩), (26, some ⟨1, List.map (ow eI) v6.1.rep.dims⟩), (27, some ⟨3, List.map (ow eM) v6.1.rep.maps⟩), (28, some ⟨1, List.map (ow eI) v6.1.other.q.src⟩), (29, some ⟨1, List.map (ow eI) v6.1.other.q.tgt⟩), (30, some ⟨1, List.map (ow eI) v6.1.other.dims⟩), (31, some ⟨3, List.map (ow eM) v6.1.other.maps⟩), (32, some ⟨6, List.map (ow eR) v6.1.parts⟩), (33, some ⟨3, List.map (ow eM) v6.1.maps⟩), (34, some ⟨3, List.map (ow eB) v6.1.bars⟩), (35, some ⟨1, List.map (ow eI) v6.1.theta⟩), (36, some ⟨2, List.map (ow eS) v6.1.subs⟩)]) (by simp only [len_map]) (ed_ok (nb' := [(24, ⟨1, List.map (ow eI) v6.1.rep.q.src⟩), (25, ⟨1, List.map (ow eI) v6.1.rep.q.tgt⟩), (26, ⟨1, List.map (ow eI) v6.1.rep.dims⟩), (27, ⟨3, List.map (ow eM) v6.1.rep.maps⟩), (28, ⟨1, List.map (ow eI) v6.1.other.q.src⟩), (29, ⟨1, List.map (ow eI) v6.1.other.q.tgt⟩), (30, ⟨1, List.map (ow eI) v6.1.other.dims⟩), (31, ⟨3, List.map (ow eM) v6.1.other.maps⟩), (32, ⟨6, List.map (ow eR) v6.1.parts⟩), (33, ⟨3, List.map (ow eM) v6.1.maps⟩), (34, ⟨3, List.map (ow eB) v6.1.bars⟩), (35, ⟨1, List.map (ow eI) v6.1.theta⟩), (36, ⟨2, List.map (ow eS) v6.1.subs⟩)]) (by simp only [abs_map]))) k ?_
  refine se (eff_move k) k <| se (eff_extract k k (by intro _ h; cases h)) k <| se (eff_extract k k (by intro _ h; cases h)) k <| se (w_alloc TT_ok k k) k <| se (w_store TT_ok k k k k k k k k) k <| se (eff_assign k) k <| sn <| tn <| ac_ent (t := mkS [(1, .ptr 0 0 0), (4, .ptr 18 0 0), (5, .bl v4.2), (6, .ptr 23 0 0), (7, .ptr 37 0 0), (8, .bl v6.2)] ((0, ⟨6, [[.int a0.p, .int a0.q.n, .sc w0_2, .sc w0_3, .sc w0_4, .sc w0_5]]⟩) :: (5, ⟨1, List.map (ow eI) v4.1.rep.q.src⟩) :: (6, ⟨1, List.map (ow eI) v4.1.rep.q.tgt⟩) :: (7, ⟨1, List.map (ow eI) v4.1.rep.dims⟩) :: (8, ⟨3, List.map (ow eM) v4.1.rep.maps⟩) :: (9, ⟨1, List.map (ow eI) v4.1.other.q.src⟩) :: (10, ⟨1, List.map (ow eI) v4.1.other.q.tgt⟩) :: (11, ⟨1, List.map (ow eI) v4.1.other.dims⟩) :: (12, ⟨3, List.map (ow eM) v4.1.other.maps⟩) :: (13, ⟨6, List.map (ow eR) v4.1.parts⟩) :: (14, ⟨3, List.map (ow eM) v4.1.maps⟩) :: (15, ⟨3, List.map (ow eB) v4.1.bars⟩) :: (16, ⟨1, List.map (ow eI) v4.1.theta⟩) :: (17, ⟨2, List.map (ow eS) v4.1.subs⟩) :: (18, ⟨18, [[.int v4.1.kind, .int v4.1.rep.p, .int v4.1.rep.q.n, .own 5 0 v4.1.rep.q.src.length, .own 6 0 v4.1.rep.q.tgt.length, .own 7 0 v4.1.rep.dims.length, .own 8 0 v4.1.rep.maps.length, .int v4.1.other.p, .int v4.1.other.q.n, .own 9 0 v4.1.other.q.src.length, .own 10 0 v4.1.other.q.tgt.length, .own 11 0 v4.1.other.dims.length, .own 12 0 v4.1.other.maps.length, .own 13 0 v4.1.parts.length, .own 14 0 v4.1.maps.length, .own 15 0 v4.1.bars.length, .own 16 0 v4.1.theta.length, .own 17 0 v4.1.subs.length]]⟩) :: (19, ⟨1, List.map (ow eI) v5.q.src⟩) :: (20, ⟨1, List.map (ow eI) v5.q.tgt⟩) :: (21, ⟨1, List.map (ow eI) v5.dims⟩) :: (22, ⟨3, List.map (ow eM) v5.maps⟩) :: (23, ⟨6, [[.int v5.p, .int v5.q.n, .own 19 0 v5.q.src.length, .own 20 0 v5.q.tgt.length, .own 21 0 v5.dims.length, .own 22 0 v5.maps.length]]⟩) :: (24, ⟨1, List.map (ow eI) v6.1.rep.q.src⟩) :: (25, ⟨1, List.map (ow eI) v6.1.rep.q.tgt⟩) :: (26, ⟨1, List.map (ow eI) v6.1.rep.dims⟩) :: (27, ⟨3, List.map (ow eM) v6.1.rep.maps⟩) :: (28, ⟨1, List.map (ow eI) v6.1.other.q.src⟩) :: (29, ⟨1, List.map (ow eI) v6.1.other.q.tgt⟩) :: (30, ⟨1, List.map (ow eI) v6.1.other.dims⟩) :: (31, ⟨3, List.map (ow eM) v6.1.other.maps⟩) :: (32, ⟨6, List.map (ow eR) v6.1.parts⟩) :: (33, ⟨3, List.map (ow eM) v6.1.maps⟩) :: (34, ⟨3, List.map (ow eB) v6.1.bars⟩) :: (35, ⟨1, List.map (ow eI) v6.1.theta⟩) :: (36, ⟨2, List.map (ow eS) v6.1.subs⟩) :: (37, ⟨18, [[.int v6.1.kind, .int v6.1.rep.p, .int v6.1.rep.q.n, .own 24 0 v6.1.rep.q.src.length, .own 25 0 v6.1.rep.q.tgt.length, .own 26 0 v6.1.rep.dims.length, .own 27 0 v6.1.rep.maps.length, .int v6.1.other.p, .int v6.1.other.q.n, .own 28 0 v6.1.other.q.src.length, .own 29 0 v6.1.other.q.tgt.length, .own 30 0 v6.1.other.dims.length, .own 31 0 v6.1.other.maps.length, .own 32 0 v6.1.parts.length, .own 33 0 v6.1.maps.length, .own 34 0 v6.1.bars.length, .own 35 0 v6.1.theta.length, .own 36 0 v6.1.subs.length]]⟩) :: []) 38 [38, 39, 40, 41, 42, 43, 44, 45, 46, 47, 48, 49, 50, 51, 52, 53, 54, 55, 56, 57, 58, 59, 60, 61] ⟨0, true, fxW W, true⟩) (ent_mk (σ := sg ((0, 0) :: (5, 5) :: (6, 6) :: (7, 7) :: (8, 8) :: (9, 9) :: (10, 10) :: (11, 11) :: (12, 12) :: (13, 13) :: (14, 14) :: (15, 15) :: (16, 16) :: (17, 17) :: (18, 18) :: (19, 19) :: (20, 20) :: (21, 21) :: (22, 22) :: (23, 23) :: (24, 24) :: (25, 25) :: (26, 26) :: (27, 27) :: (28, 28) :: (29, 29) :: (30, 30) :: (31, 31) :: (32, 32) :: (33, 33) :: (34, 34) :: (35, 35) :: (36, 36) :: (37, 37) :: [])) ⟨(pE k k), (pE k k), (e1 k k), (pE k k), (pE k k), (e1 k k), trivial⟩ (hP k k k k <| hI k k k <| hI k k k <| hI k k k <| hB (okMt.plainO _) k k k <| hI k k k <| hI k k k <| hI k k k <| hB (okMt.plainO _) k k k <| hB (okRp.plainO _) k k k <| hB (okMt.plainO _) k k k <| hB (okBr.plainO _) k k k <| hI k k k <| hB (okSc.plainO _) k k k <| hX ⟨_, k, k, .inr ⟨_, _, k, ⟨_, _, k, k, ⟨_, _, k, k, ⟨_, _, k, k, ⟨_, _, k, ⟨k, k, k, k⟩, ⟨_, _, k, ⟨k, k, k, k⟩, ⟨_, _, k, ⟨k, k, k, k⟩, ⟨_, _, k, ⟨k, k, k, k⟩, ⟨_, _, k, k, ⟨_, _, k, k, ⟨_, _, k, ⟨k, k, k, k⟩, ⟨_, _, k, ⟨k, k, k, k⟩, ⟨_, _, k, ⟨k, k, k, k⟩, ⟨_, _, k, ⟨k, k, k, k⟩, ⟨_, _, k, ⟨k, k, k, k⟩, ⟨_, _, k, ⟨k, k, k, k⟩, ⟨_, _, k, ⟨k, k, k, k⟩, ⟨_, _, k, ⟨k, k, k, k⟩, ⟨_, _, k, ⟨k, k, k, k⟩, k⟩⟩⟩⟩⟩⟩⟩⟩⟩⟩⟩⟩⟩⟩⟩⟩⟩⟩, k⟩⟩ k <| hI k k k <| hI k k k <| hI k k k <| hB (okMt.plainO _) k k k <| hX ⟨_, k, k, .inr ⟨_, _, k, ⟨_, _, k, k, ⟨_, _, k, k, ⟨_, _, k, ⟨k, k, k, k⟩, ⟨_, _, k, ⟨k, k, k, k⟩, ⟨_, _, k, ⟨k, k, k, k⟩, ⟨_, _, k, ⟨k, k, k, k⟩, k⟩⟩⟩⟩⟩⟩, k⟩⟩ k <| hI k k k <| hI k k k <| hI k k k <| hB (okMt.plainO _) k k k <| hI k k k <| hI k k k <| hI k k k <| hB (okMt.plainO _) k k k <| hB (okRp.plainO _) k k k <| hB (okMt.plainO _) k k k <| hB (okBr.plainO _) k k k <| hI k k k <| hB (okSc.plainO _) k k k <| hX ⟨_, k, k, .inr ⟨_, _, k, ⟨_, _, k, k, ⟨_, _, k, k, ⟨_, _, k, k, ⟨_, _, k, ⟨k, k, k, k⟩, ⟨_, _, k, ⟨k, k, k, k⟩, ⟨_, _, k, ⟨k, k, k, k⟩, ⟨_, _, k, ⟨k, k, k, k⟩, ⟨_, _, k, k, ⟨_, _, k, k, ⟨_, _, k, ⟨k, k, k, k⟩, ⟨_, _, k, ⟨k, k, k, k⟩, ⟨_, _, k, ⟨k, k, k, k⟩, ⟨_, _, k, ⟨k, k, k, k⟩, ⟨_, _, k, ⟨k, k, k, k⟩, ⟨_, _, k, ⟨k, k, k, k⟩, ⟨_, _, k, ⟨k, k, k, k⟩, ⟨_, _, k, ⟨k, k, k, k⟩, ⟨_, _, k, ⟨k, k, k, k⟩, k⟩⟩⟩⟩⟩⟩⟩⟩⟩⟩⟩⟩⟩⟩⟩⟩⟩⟩, k⟩⟩ k <| trivial) k) ?_
  refine sQ <| sQ <| rgS <| se (w_load_ptr TT_ok k k k k k k k) k <| se (w_load_ptr TT_ok k k k k k k k) k ?_
  obtain ⟨v7, hv7, h⟩ := ob h
  refine se (w_call0sK (c_laws_eqClaim v6.1 v4.1 v7 hv7) k (vk_cons (.inl (va_agg' (v1_cons (v1_same k) (v1_cons (v1_same k) (v1_cons (v1_same k) (v1_cons (v1_T okI k k) (v1_cons (v1_T okI k k) (v1_cons (v1_T okI k k) (v1_cons (v1_T okMt k k) (v1_cons (v1_same k) (v1_cons (v1_same k) (v1_cons (v1_T okI k k) (v1_cons (v1_T okI k k) (v1_cons (v1_T okI k k) (v1_cons (v1_T okMt k k) (v1_cons (v1_T okRp k k) (v1_cons (v1_T okMt k k) (v1_cons (v1_T okBr k k) (v1_cons (v1_T okI k k) (v1_cons (v1_T okSc k k) v1_nil)))))))))))))))))))) (vk_cons (.inl (va_agg' (v1_cons (v1_same k) (v1_cons (v1_same k) (v1_cons (v1_same k) (v1_cons (v1_T okI k k) (v1_cons (v1_T okI k k) (v1_cons (v1_T okI k k) (v1_cons (v1_T okMt k k) (v1_cons (v1_same k) (v1_cons (v1_same k) (v1_cons (v1_T okI k k) (v1_cons (v1_T okI k k) (v1_cons (v1_T okI k k) (v1_cons (v1_T okMt k k) (v1_cons (v1_T okRp k k) (v1_cons (v1_T okMt k k) (v1_cons (v1_T okBr k k) (v1_cons (v1_T okI k k) (v1_cons (v1_T okSc k k) v1_nil)))))))))))))))))))) vk_nil))) k <| se (w_not k) k <| se (eff_move k) k ?_
  rcases cb h with ⟨q8, h⟩ | ⟨q8, h⟩
  ·refine sops_lit 36 k q8 <| sops_skip k k <| sops_skip k k <| sops_skip k k <| se (eff_pick k k) k <| sn <| tn <| ac_condT k k <| sQ <| rgS ?_
   refine se (eff_assign k) k <| sn <| tn <| ac_ret <| then_ret ?_
   obtain rfl := so h
   exact ret_mk k k k (fz_bl k)
  ·refine sops_lit 36 k q8 <| se (eff_move k) k <| se (eff_move k) k <| se (w_neqB (by kernel_rfl) k k) k <| se (eff_pick k k) k <| sn <| tn ?_
   rcases cb h with ⟨q9, h⟩ | ⟨q9, h⟩
   ·refine ac_condT k q9 <| sQ <| rgS <| se (eff_assign k) k <| sn <| tn <| ac_ret <| then_ret ?_
    obtain rfl := so h
    exact ret_mk k k k (fz_bl k)
   ·refine ac_condF k q9 <| ac_skip <| tn <| sQ <| sQ <| ac_region_draw MIXX <| ae (w_load_ptr TT_ok k k k k k k k) k <| ae (w_load_ptr TT_ok k k k k k k k) k ?_
    obtain ⟨v10, hv10, h⟩ := ob h
    refine ae (AEff.conv (w_call0K (x := .agg [.int v10.p, .int v10.q.n, .own 38 0 (List.map eI v10.q.src).length, .own 39 0 (List.map eI v10.q.tgt).length, .own 40 0 (List.map eI v10.dims).length, .own 41 0 (List.map eM v10.maps).length]) (nb := [(38, ⟨1, absEs (List.map eI v10.q.src)⟩), (39, ⟨1, absEs (List.map eI v10.q.tgt)⟩), (40, ⟨1, absEs (List.map eI v10.dims)⟩), (41, ⟨3, absEs (List.map eM v10.maps)⟩)]) (c_laws_toRep a0 v10 hv10) k (by rfl) k k (g1_cons trivial (g1_cons trivial (g1_cons (okI.good _) (g1_cons (okI.good _) (g1_cons (okI.good _) (g1_cons (okMt.good _) g1_nil)))))) (vk_cons (.inr (raw_cons (raw1_sc k k) (raw_cons (raw1_sc k k) (raw_cons (raw1_d k r0_2) (raw_cons (raw1_d k r0_3) (raw_cons (raw1_d k r0_4) (raw_cons (raw1_d k r0_5) raw_nil))))))) vk_nil)) (v' := .agg [.int v10.p, .int v10.q.n, .own 38 0 v10.q.src.length, .own 39 0 v10.q.tgt.length, .own 40 0 v10.dims.length, .own 41 0 v10.maps.length]) (ed' := [(38, some ⟨1, List.map (ow eI) v10.q.src⟩), (39, some ⟨1, List.map (ow eI) v10.q.tgt⟩), (40, some ⟨1, List.map (ow eI) v10.dims⟩), (41, some ⟨3, List.map (ow eM) v10.maps⟩)]) (by simp only [len_map]) (ed_ok (nb' := [(38, ⟨1, List.map (ow eI) v10.q.src⟩), (39, ⟨1, List.map (ow eI) v10.q.tgt⟩), (40, ⟨1, List.map (ow eI) v10.dims⟩), (41, ⟨3, List.map (ow eM) v10.maps⟩)]) (by simp only [abs_map]))) k ?_
    obtain ⟨v11, hv11, h⟩ := ob h
    refine ae (w_call0sK (c_laws_eqRep v5 v10 v11 hv11) k (vk_cons (.inl (va_agg' (v1_cons (v1_same k) (v1_cons (v1_same k) (v1_cons (v1_T okI k k) (v1_cons (v1_T okI k k) (v1_cons (v1_T okI k k) (v1_cons (v1_T okMt k k) v1_nil)))))))) (vk_cons (.inl (va_agg' (v1_cons (v1_same k) (v1_cons (v1_same k) (v1_cons (v1_T okI k k) (v1_cons (v1_T okI k k) (v1_cons (v1_T okI k k) (v1_cons (v1_T okMt k k) v1_nil)))))))) vk_nil))) k <| ae (w_not k) k <| an ?_
    refine ⟨by kernel_rfl, ?_⟩
    refine tn <| ac_ent (t := mkS [(1, .ptr 0 0 0), (4, .ptr 18 0 0), (5, .bl v4.2), (6, .ptr 23 0 0), (7, .ptr 37 0 0), (8, .bl v6.2), (45, .bl (!v11))] ((0, ⟨6, [[.int a0.p, .int a0.q.n, .sc w0_2, .sc w0_3, .sc w0_4, .sc w0_5]]⟩) :: (5, ⟨1, List.map (ow eI) v4.1.rep.q.src⟩) :: (6, ⟨1, List.map (ow eI) v4.1.rep.q.tgt⟩) :: (7, ⟨1, List.map (ow eI) v4.1.rep.dims⟩) :: (8, ⟨3, List.map (ow eM) v4.1.rep.maps⟩) :: (9, ⟨1, List.map (ow eI) v4.1.other.q.src⟩) :: (10, ⟨1, List.map (ow eI) v4.1.other.q.tgt⟩) :: (11, ⟨1, List.map (ow eI) v4.1.other.dims⟩) :: (12, ⟨3, List.map (ow eM) v4.1.other.maps⟩) :: (13, ⟨6, List.map (ow eR) v4.1.parts⟩) :: (14, ⟨3, List.map (ow eM) v4.1.maps⟩) :: (15, ⟨3, List.map (ow eB) v4.1.bars⟩) :: (16, ⟨1, List.map (ow eI) v4.1.theta⟩) :: (17, ⟨2, List.map (ow eS) v4.1.subs⟩) :: (18, ⟨18, [[.int v4.1.kind, .int v4.1.rep.p, .int v4.1.rep.q.n, .own 5 0 v4.1.rep.q.src.length, .own 6 0 v4.1.rep.q.tgt.length, .own 7 0 v4.1.rep.dims.length, .own 8 0 v4.1.rep.maps.length, .int v4.1.other.p, .int v4.1.other.q.n, .own 9 0 v4.1.other.q.src.length, .own 10 0 v4.1.other.q.tgt.length, .own 11 0 v4.1.other.dims.length, .own 12 0 v4.1.other.maps.length, .own 13 0 v4.1.parts.length, .own 14 0 v4.1.maps.length, .own 15 0 v4.1.bars.length, .own 16 0 v4.1.theta.length, .own 17 0 v4.1.subs.length]]⟩) :: (19, ⟨1, List.map (ow eI) v5.q.src⟩) :: (20, ⟨1, List.map (ow eI) v5.q.tgt⟩) :: (21, ⟨1, List.map (ow eI) v5.dims⟩) :: (22, ⟨3, List.map (ow eM) v5.maps⟩) :: (23, ⟨6, [[.int v5.p, .int v5.q.n, .own 19 0 v5.q.src.length, .own 20 0 v5.q.tgt.length, .own 21 0 v5.dims.length, .own 22 0 v5.maps.length]]⟩) :: (24, ⟨1, List.map (ow eI) v6.1.rep.q.src⟩) :: (25, ⟨1, List.map (ow eI) v6.1.rep.q.tgt⟩) :: (26, ⟨1, List.map (ow eI) v6.1.rep.dims⟩) :: (27, ⟨3, List.map (ow eM) v6.1.rep.maps⟩) :: (28, ⟨1, List.map (ow eI) v6.1.other.q.src⟩) :: (29, ⟨1, List.map (ow eI) v6.1.other.q.tgt⟩) :: (30, ⟨1, List.map (ow eI) v6.1.other.dims⟩) :: (31, ⟨3, List.map (ow eM) v6.1.other.maps⟩) :: (32, ⟨6, List.map (ow eR) v6.1.parts⟩) :: (33, ⟨3, List.map (ow eM) v6.1.maps⟩) :: (34, ⟨3, List.map (ow eB) v6.1.bars⟩) :: (35, ⟨1, List.map (ow eI) v6.1.theta⟩) :: (36, ⟨2, List.map (ow eS) v6.1.subs⟩) :: (37, ⟨18, [[.int v6.1.kind, .int v6.1.rep.p, .int v6.1.rep.q.n, .own 24 0 v6.1.rep.q.src.length, .own 25 0 v6.1.rep.q.tgt.length, .own 26 0 v6.1.rep.dims.length, .own 27 0 v6.1.rep.maps.length, .int v6.1.other.p, .int v6.1.other.q.n, .own 28 0 v6.1.other.q.src.length, .own 29 0 v6.1.other.q.tgt.length, .own 30 0 v6.1.other.dims.length, .own 31 0 v6.1.other.maps.length, .own 32 0 v6.1.parts.length, .own 33 0 v6.1.maps.length, .own 34 0 v6.1.bars.length, .own 35 0 v6.1.theta.length, .own 36 0 v6.1.subs.length]]⟩) :: []) 42 [42, 43, 44, 45, 46, 47, 48, 49, 50, 51, 52, 53, 54, 55, 56, 57, 58, 59, 60, 61] ⟨0, true, fxW W, true⟩) (ent_mk (σ := sg ((0, 0) :: (5, 5) :: (6, 6) :: (7, 7) :: (8, 8) :: (9, 9) :: (10, 10) :: (11, 11) :: (12, 12) :: (13, 13) :: (14, 14) :: (15, 15) :: (16, 16) :: (17, 17) :: (18, 18) :: (19, 19) :: (20, 20) :: (21, 21) :: (22, 22) :: (23, 23) :: (24, 24) :: (25, 25) :: (26, 26) :: (27, 27) :: (28, 28) :: (29, 29) :: (30, 30) :: (31, 31) :: (32, 32) :: (33, 33) :: (34, 34) :: (35, 35) :: (36, 36) :: (37, 37) :: [])) ⟨(pE k k), (pE k k), (e1 k k), (pE k k), (pE k k), (e1 k k), (e1 k k), trivial⟩ (hP k k k k <| hI k k k <| hI k k k <| hI k k k <| hB (okMt.plainO _) k k k <| hI k k k <| hI k k k <| hI k k k <| hB (okMt.plainO _) k k k <| hB (okRp.plainO _) k k k <| hB (okMt.plainO _) k k k <| hB (okBr.plainO _) k k k <| hI k k k <| hB (okSc.plainO _) k k k <| hX ⟨_, k, k, .inr ⟨_, _, k, ⟨_, _, k, k, ⟨_, _, k, k, ⟨_, _, k, k, ⟨_, _, k, ⟨k, k, k, k⟩, ⟨_, _, k, ⟨k, k, k, k⟩, ⟨_, _, k, ⟨k, k, k, k⟩, ⟨_, _, k, ⟨k, k, k, k⟩, ⟨_, _, k, k, ⟨_, _, k, k, ⟨_, _, k, ⟨k, k, k, k⟩, ⟨_, _, k, ⟨k, k, k, k⟩, ⟨_, _, k, ⟨k, k, k, k⟩, ⟨_, _, k, ⟨k, k, k, k⟩, ⟨_, _, k, ⟨k, k, k, k⟩, ⟨_, _, k, ⟨k, k, k, k⟩, ⟨_, _, k, ⟨k, k, k, k⟩, ⟨_, _, k, ⟨k, k, k, k⟩, ⟨_, _, k, ⟨k, k, k, k⟩, k⟩⟩⟩⟩⟩⟩⟩⟩⟩⟩⟩⟩⟩⟩⟩⟩⟩⟩, k⟩⟩ k <| hI k k k <| hI k k k <| hI k k k <| hB (okMt.plainO _) k k k <| hX ⟨_, k, k, .inr ⟨_, _, k, ⟨_, _, k, k, ⟨_, _, k, k, ⟨_, _, k, ⟨k, k, k, k⟩, ⟨_, _, k, ⟨k, k, k, k⟩, ⟨_, _, k, ⟨k, k, k, k⟩, ⟨_, _, k, ⟨k, k, k, k⟩, k⟩⟩⟩⟩⟩⟩, k⟩⟩ k <| hI k k k <| hI k k k <| hI k k k <| hB (okMt.plainO _) k k k <| hI k k k <| hI k k k <| hI k k k <| hB (okMt.plainO _) k k k <| hB (okRp.plainO _) k k k <| hB (okMt.plainO _) k k k <| hB (okBr.plainO _) k k k <| hI k k k <| hB (okSc.plainO _) k k k <| hX ⟨_, k, k, .inr ⟨_, _, k, ⟨_, _, k, k, ⟨_, _, k, k, ⟨_, _, k, k, ⟨_, _, k, ⟨k, k, k, k⟩, ⟨_, _, k, ⟨k, k, k, k⟩, ⟨_, _, k, ⟨k, k, k, k⟩, ⟨_, _, k, ⟨k, k, k, k⟩, ⟨_, _, k, k, ⟨_, _, k, k, ⟨_, _, k, ⟨k, k, k, k⟩, ⟨_, _, k, ⟨k, k, k, k⟩, ⟨_, _, k, ⟨k, k, k, k⟩, ⟨_, _, k, ⟨k, k, k, k⟩, ⟨_, _, k, ⟨k, k, k, k⟩, ⟨_, _, k, ⟨k, k, k, k⟩, ⟨_, _, k, ⟨k, k, k, k⟩, ⟨_, _, k, ⟨k, k, k, k⟩, ⟨_, _, k, ⟨k, k, k, k⟩, k⟩⟩⟩⟩⟩⟩⟩⟩⟩⟩⟩⟩⟩⟩⟩⟩⟩⟩, k⟩⟩ k <| trivial) k) ?_
    rcases cb h with ⟨q12, h⟩ | ⟨q12, h⟩
    ·refine ac_condT k q12 <| sQ <| rgS <| se (eff_assign k) k <| sn <| tn <| ac_ret <| then_ret ?_
     obtain rfl := so h
     exact ret_mk k k k (fz_bl k)
    ·refine ac_condF k q12 <| ac_skip <| tn <| sQ <| rgS <| se (eff_assign k) k <| sn <| tn <| sQ <| rgS ?_
     refine se (w_load_ptr TT_ok k k k k k k k) k <| se (eff_move k) k ?_
     obtain ⟨v13, hv13, h⟩ := ob h
     refine sops_ent (t := mkS [(1, .ptr 0 0 0), (4, .ptr 18 0 0), (5, .bl v4.2), (6, .ptr 23 0 0), (7, .ptr 37 0 0), (8, .bl v6.2), (9, .int 1), (45, .bl (!v11)), (46, .agg [.int v5.p, .int v5.q.n, .own 19 0 v5.q.src.length, .own 20 0 v5.q.tgt.length, .own 21 0 v5.dims.length, .own 22 0 v5.maps.length]), (47, .int 1)] ((0, ⟨6, [[.int a0.p, .int a0.q.n, .sc w0_2, .sc w0_3, .sc w0_4, .sc w0_5]]⟩) :: (5, ⟨1, List.map (ow eI) v4.1.rep.q.src⟩) :: (6, ⟨1, List.map (ow eI) v4.1.rep.q.tgt⟩) :: (7, ⟨1, List.map (ow eI) v4.1.rep.dims⟩) :: (8, ⟨3, List.map (ow eM) v4.1.rep.maps⟩) :: (9, ⟨1, List.map (ow eI) v4.1.other.q.src⟩) :: (10, ⟨1, List.map (ow eI) v4.1.other.q.tgt⟩) :: (11, ⟨1, List.map (ow eI) v4.1.other.dims⟩) :: (12, ⟨3, List.map (ow eM) v4.1.other.maps⟩) :: (13, ⟨6, List.map (ow eR) v4.1.parts⟩) :: (14, ⟨3, List.map (ow eM) v4.1.maps⟩) :: (15, ⟨3, List.map (ow eB) v4.1.bars⟩) :: (16, ⟨1, List.map (ow eI) v4.1.theta⟩) :: (17, ⟨2, List.map (ow eS) v4.1.subs⟩) :: (18, ⟨18, [[.int v4.1.kind, .int v4.1.rep.p, .int v4.1.rep.q.n, .own 5 0 v4.1.rep.q.src.length, .own 6 0 v4.1.rep.q.tgt.length, .own 7 0 v4.1.rep.dims.length, .own 8 0 v4.1.rep.maps.length, .int v4.1.other.p, .int v4.1.other.q.n, .own 9 0 v4.1.other.q.src.length, .own 10 0 v4.1.other.q.tgt.length, .own 11 0 v4.1.other.dims.length, .own 12 0 v4.1.other.maps.length, .own 13 0 v4.1.parts.length, .own 14 0 v4.1.maps.length, .own 15 0 v4.1.bars.length, .own 16 0 v4.1.theta.length, .own 17 0 v4.1.subs.length]]⟩) :: (19, ⟨1, List.map (ow eI) v5.q.src⟩) :: (20, ⟨1, List.map (ow eI) v5.q.tgt⟩) :: (21, ⟨1, List.map (ow eI) v5.dims⟩) :: (22, ⟨3, List.map (ow eM) v5.maps⟩) :: (23, ⟨6, [[.int v5.p, .int v5.q.n, .own 19 0 v5.q.src.length, .own 20 0 v5.q.tgt.length, .own 21 0 v5.dims.length, .own 22 0 v5.maps.length]]⟩) :: (24, ⟨1, List.map (ow eI) v6.1.rep.q.src⟩) :: (25, ⟨1, List.map (ow eI) v6.1.rep.q.tgt⟩) :: (26, ⟨1, List.map (ow eI) v6.1.rep.dims⟩) :: (27, ⟨3, List.map (ow eM) v6.1.rep.maps⟩) :: (28, ⟨1, List.map (ow eI) v6.1.other.q.src⟩) :: (29, ⟨1, List.map (ow eI) v6.1.other.q.tgt⟩) :: (30, ⟨1, List.map (ow eI) v6.1.other.dims⟩) :: (31, ⟨3, List.map (ow eM) v6.1.other.maps⟩) :: (32, ⟨6, List.map (ow eR) v6.1.parts⟩) :: (33, ⟨3, List.map (ow eM) v6.1.maps⟩) :: (34, ⟨3, List.map (ow eB) v6.1.bars⟩) :: (35, ⟨1, List.map (ow eI) v6.1.theta⟩) :: (36, ⟨2, List.map (ow eS) v6.1.subs⟩) :: (37, ⟨18, [[.int v6.1.kind, .int v6.1.rep.p, .int v6.1.rep.q.n, .own 24 0 v6.1.rep.q.src.length, .own 25 0 v6.1.rep.q.tgt.length, .own 26 0 v6.1.rep.dims.length, .own 27 0 v6.1.rep.maps.length, .int v6.1.other.p, .int v6.1.other.q.n, .own 28 0 v6.1.other.q.src.length, .own 29 0 v6.1.other.q.tgt.length, .own 30 0 v6.1.other.dims.length, .own 31 0 v6.1.other.maps.length, .own 32 0 v6.1.parts.length, .own 33 0 v6.1.maps.length, .own 34 0 v6.1.bars.length, .own 35 0 v6.1.theta.length, .own 36 0 v6.1.subs.length]]⟩) :: []) 42 [42, 43, 44, 45, 46, 47, 48, 49, 50, 51, 52, 53, 54, 55, 56, 57, 58, 59, 60, 61] ⟨0, true, fxW W, true⟩) (ent_mk (σ := sg ((0, 0) :: (5, 5) :: (6, 6) :: (7, 7) :: (8, 8) :: (9, 9) :: (10, 10) :: (11, 11) :: (12, 12) :: (13, 13) :: (14, 14) :: (15, 15) :: (16, 16) :: (17, 17) :: (18, 18) :: (19, 19) :: (20, 20) :: (21, 21) :: (22, 22) :: (23, 23) :: (24, 24) :: (25, 25) :: (26, 26) :: (27, 27) :: (28, 28) :: (29, 29) :: (30, 30) :: (31, 31) :: (32, 32) :: (33, 33) :: (34, 34) :: (35, 35) :: (36, 36) :: (37, 37) :: [])) ⟨(pE k k), (pE k k), (e1 k k), (pE k k), (pE k k), (e1 k k), (e1 k k), (e1 k k), ⟨_, k, ⟨_, _, k, k, ⟨_, _, k, k, ⟨_, _, k, ⟨k, k, k, k⟩, ⟨_, _, k, ⟨k, k, k, k⟩, ⟨_, _, k, ⟨k, k, k, k⟩, ⟨_, _, k, ⟨k, k, k, k⟩, k⟩⟩⟩⟩⟩⟩⟩, (e1 k k), trivial⟩ (hP k k k k <| hI k k k <| hI k k k <| hI k k k <| hB (okMt.plainO _) k k k <| hI k k k <| hI k k k <| hI k k k <| hB (okMt.plainO _) k k k <| hB (okRp.plainO _) k k k <| hB (okMt.plainO _) k k k <| hB (okBr.plainO _) k k k <| hI k k k <| hB (okSc.plainO _) k k k <| hX ⟨_, k, k, .inr ⟨_, _, k, ⟨_, _, k, k, ⟨_, _, k, k, ⟨_, _, k, k, ⟨_, _, k, ⟨k, k, k, k⟩, ⟨_, _, k, ⟨k, k, k, k⟩, ⟨_, _, k, ⟨k, k, k, k⟩, ⟨_, _, k, ⟨k, k, k, k⟩, ⟨_, _, k, k, ⟨_, _, k, k, ⟨_, _, k, ⟨k, k, k, k⟩, ⟨_, _, k, ⟨k, k, k, k⟩, ⟨_, _, k, ⟨k, k, k, k⟩, ⟨_, _, k, ⟨k, k, k, k⟩, ⟨_, _, k, ⟨k, k, k, k⟩, ⟨_, _, k, ⟨k, k, k, k⟩, ⟨_, _, k, ⟨k, k, k, k⟩, ⟨_, _, k, ⟨k, k, k, k⟩, ⟨_, _, k, ⟨k, k, k, k⟩, k⟩⟩⟩⟩⟩⟩⟩⟩⟩⟩⟩⟩⟩⟩⟩⟩⟩⟩, k⟩⟩ k <| hI k k k <| hI k k k <| hI k k k <| hB (okMt.plainO _) k k k <| hX ⟨_, k, k, .inr ⟨_, _, k, ⟨_, _, k, k, ⟨_, _, k, k, ⟨_, _, k, ⟨k, k, k, k⟩, ⟨_, _, k, ⟨k, k, k, k⟩, ⟨_, _, k, ⟨k, k, k, k⟩, ⟨_, _, k, ⟨k, k, k, k⟩, k⟩⟩⟩⟩⟩⟩, k⟩⟩ k <| hI k k k <| hI k k k <| hI k k k <| hB (okMt.plainO _) k k k <| hI k k k <| hI k k k <| hI k k k <| hB (okMt.plainO _) k k k <| hB (okRp.plainO _) k k k <| hB (okMt.plainO _) k k k <| hB (okBr.plainO _) k k k <| hI k k k <| hB (okSc.plainO _) k k k <| hX ⟨_, k, k, .inr ⟨_, _, k, ⟨_, _, k, k, ⟨_, _, k, k, ⟨_, _, k, k, ⟨_, _, k, ⟨k, k, k, k⟩, ⟨_, _, k, ⟨k, k, k, k⟩, ⟨_, _, k, ⟨k, k, k, k⟩, ⟨_, _, k, ⟨k, k, k, k⟩, ⟨_, _, k, k, ⟨_, _, k, k, ⟨_, _, k, ⟨k, k, k, k⟩, ⟨_, _, k, ⟨k, k, k, k⟩, ⟨_, _, k, ⟨k, k, k, k⟩, ⟨_, _, k, ⟨k, k, k, k⟩, ⟨_, _, k, ⟨k, k, k, k⟩, ⟨_, _, k, ⟨k, k, k, k⟩, ⟨_, _, k, ⟨k, k, k, k⟩, ⟨_, _, k, ⟨k, k, k, k⟩, ⟨_, _, k, ⟨k, k, k, k⟩, k⟩⟩⟩⟩⟩⟩⟩⟩⟩⟩⟩⟩⟩⟩⟩⟩⟩⟩, k⟩⟩ k <| trivial) k) ?_
     refine sops_T (σ := sg [(0, 19), (1, 20), (2, 21), (3, 22)]) (σ' := sg [(19, 0), (20, 1), (21, 2), (22, 3)]) (touch := [19, 20, 21, 22]) (news := []) (hl2 := [(19, ⟨1, List.map (ow eI) v13.1⟩), (20, ⟨1, List.map (ow eI) v13.2.1⟩), (21, ⟨1, List.map (ow eI) v13.2.2.1⟩), (22, ⟨3, List.map (ow eM) v13.2.2.2.1⟩)]) (n' := 42) (r2 := .int v13.2.2.2.2) (c_laws_markRep v5 1 v13 hv13) k k ⟨_, _, k, ⟨_, _, k, k, ⟨_, _, k, k, ⟨_, _, k, ⟨k, k, k, k⟩, ⟨_, _, k, ⟨k, k, k, k⟩, ⟨_, _, k, ⟨k, k, k, k⟩, ⟨_, _, k, ⟨k, k, k, k⟩, k⟩⟩⟩⟩⟩⟩, ⟨_, _, k, k, k⟩⟩ ⟨⟨_, k, k, .inl ⟨k, okI.plainO _⟩⟩, k, ⟨_, k, k, .inl ⟨k, okI.plainO _⟩⟩, k, ⟨_, k, k, .inl ⟨k, okI.plainO _⟩⟩, k, ⟨_, k, k, .inl ⟨k, okMt.plainO _⟩⟩, k, trivial⟩ k k k ⟨⟨_, k, k, .inl ⟨k, okI.plainO _⟩⟩, k, ⟨_, k, k, .inl ⟨k, okI.plainO _⟩⟩, k, ⟨_, k, k, .inl ⟨k, okI.plainO _⟩⟩, k, ⟨_, k, k, .inl ⟨k, okMt.plainO _⟩⟩, k, trivial⟩ k k k ⟨k, okI.tame _ _, ⟨k, okI.tame _ _, ⟨k, okI.tame _ _, ⟨k, okMt.tame _ _, trivial⟩⟩⟩⟩ k k k k k (dfE_ok ⟨k, k, k, k, k, k, k, k, k, k, trivial⟩) (dfH_ok (skip := [19, 20, 21, 22]) ⟨.inr (df_lit k), .inr (okI.df _ _), .inr (okI.df _ _), .inr (okI.df _ _), .inr (okMt.df _ _), .inr (okI.df _ _), .inr (okI.df _ _), .inr (okI.df _ _), .inr (okMt.df _ _), .inr (okRp.df _ _), .inr (okMt.df _ _), .inr (okBr.df _ _), .inr (okI.df _ _), .inr (okSc.df _ _), .inr (df_lit k), .inl (by decide), .inl (by decide), .inl (by decide), .inl (by decide), .inr (df_lit k), .inr (okI.df _ _), .inr (okI.df _ _), .inr (okI.df _ _), .inr (okMt.df _ _), .inr (okI.df _ _), .inr (okI.df _ _), .inr (okI.df _ _), .inr (okMt.df _ _), .inr (okRp.df _ _), .inr (okMt.df _ _), .inr (okBr.df _ _), .inr (okI.df _ _), .inr (okSc.df _ _), .inr (df_lit k), trivial⟩) ?_
     obtain ⟨q14, h⟩ := cg h
     obtain ⟨q15, h⟩ := cg h
     obtain ⟨q16, h⟩ := cg h
     obtain ⟨q17, h⟩ := cg h
     refine se (eff_assign k) k <| sn <| tn <| sQ <| sQ <| rgS <| se (eff_move k) k <| se (w_cmp k k k) k <| se (eff_move k) k ?_
     rcases cb h with ⟨q18, h⟩ | ⟨q18, h⟩
     ·refine sops_lit 51 k q18 <| sops_skip k k <| sops_skip k k <| sops_skip k k <| sops_skip k k <| se (eff_pick k k) k <| se (eff_move k) k <| sops_skip k k <| sops_skip k k <| sops_skip k k ?_
      refine se (eff_pick k k) k <| sn <| tn <| ac_ent (t := mkS [(1, .ptr 0 0 0), (4, .ptr 18 0 0), (5, .bl v4.2), (7, .ptr 37 0 0), (61, .bl true)] ((0, ⟨6, [[.int a0.p, .int a0.q.n, .sc w0_2, .sc w0_3, .sc w0_4, .sc w0_5]]⟩) :: (5, ⟨1, List.map (ow eI) v4.1.rep.q.src⟩) :: (6, ⟨1, List.map (ow eI) v4.1.rep.q.tgt⟩) :: (7, ⟨1, List.map (ow eI) v4.1.rep.dims⟩) :: (8, ⟨3, List.map (ow eM) v4.1.rep.maps⟩) :: (9, ⟨1, List.map (ow eI) v4.1.other.q.src⟩) :: (10, ⟨1, List.map (ow eI) v4.1.other.q.tgt⟩) :: (11, ⟨1, List.map (ow eI) v4.1.other.dims⟩) :: (12, ⟨3, List.map (ow eM) v4.1.other.maps⟩) :: (13, ⟨6, List.map (ow eR) v4.1.parts⟩) :: (14, ⟨3, List.map (ow eM) v4.1.maps⟩) :: (15, ⟨3, List.map (ow eB) v4.1.bars⟩) :: (16, ⟨1, List.map (ow eI) v4.1.theta⟩) :: (17, ⟨2, List.map (ow eS) v4.1.subs⟩) :: (18, ⟨18, [[.int v4.1.kind, .int v4.1.rep.p, .int v4.1.rep.q.n, .own 5 0 v4.1.rep.q.src.length, .own 6 0 v4.1.rep.q.tgt.length, .own 7 0 v4.1.rep.dims.length, .own 8 0 v4.1.rep.maps.length, .int v4.1.other.p, .int v4.1.other.q.n, .own 9 0 v4.1.other.q.src.length, .own 10 0 v4.1.other.q.tgt.length, .own 11 0 v4.1.other.dims.length, .own 12 0 v4.1.other.maps.length, .own 13 0 v4.1.parts.length, .own 14 0 v4.1.maps.length, .own 15 0 v4.1.bars.length, .own 16 0 v4.1.theta.length, .own 17 0 v4.1.subs.length]]⟩) :: (24, ⟨1, List.map (ow eI) v6.1.rep.q.src⟩) :: (25, ⟨1, List.map (ow eI) v6.1.rep.q.tgt⟩) :: (26, ⟨1, List.map (ow eI) v6.1.rep.dims⟩) :: (27, ⟨3, List.map (ow eM) v6.1.rep.maps⟩) :: (28, ⟨1, List.map (ow eI) v6.1.other.q.src⟩) :: (29, ⟨1, List.map (ow eI) v6.1.other.q.tgt⟩) :: (30, ⟨1, List.map (ow eI) v6.1.other.dims⟩) :: (31, ⟨3, List.map (ow eM) v6.1.other.maps⟩) :: (32, ⟨6, List.map (ow eR) v6.1.parts⟩) :: (33, ⟨3, List.map (ow eM) v6.1.maps⟩) :: (34, ⟨3, List.map (ow eB) v6.1.bars⟩) :: (35, ⟨1, List.map (ow eI) v6.1.theta⟩) :: (36, ⟨2, List.map (ow eS) v6.1.subs⟩) :: (37, ⟨18, [[.int v6.1.kind, .int v6.1.rep.p, .int v6.1.rep.q.n, .own 24 0 v6.1.rep.q.src.length, .own 25 0 v6.1.rep.q.tgt.length, .own 26 0 v6.1.rep.dims.length, .own 27 0 v6.1.rep.maps.length, .int v6.1.other.p, .int v6.1.other.q.n, .own 28 0 v6.1.other.q.src.length, .own 29 0 v6.1.other.q.tgt.length, .own 30 0 v6.1.other.dims.length, .own 31 0 v6.1.other.maps.length, .own 32 0 v6.1.parts.length, .own 33 0 v6.1.maps.length, .own 34 0 v6.1.bars.length, .own 35 0 v6.1.theta.length, .own 36 0 v6.1.subs.length]]⟩) :: []) 42 [42, 43, 44, 45, 46, 47, 48, 49, 50, 51, 52, 53, 54, 55, 56, 57, 58, 59, 60, 61] ⟨0, true, fxW W, true⟩) (ent_mk (σ := sg ((0, 0) :: (5, 5) :: (6, 6) :: (7, 7) :: (8, 8) :: (9, 9) :: (10, 10) :: (11, 11) :: (12, 12) :: (13, 13) :: (14, 14) :: (15, 15) :: (16, 16) :: (17, 17) :: (18, 18) :: (24, 24) :: (25, 25) :: (26, 26) :: (27, 27) :: (28, 28) :: (29, 29) :: (30, 30) :: (31, 31) :: (32, 32) :: (33, 33) :: (34, 34) :: (35, 35) :: (36, 36) :: (37, 37) :: [])) ⟨(pE k k), (pE k k), (e1 k k), (pE k k), (e1 k k), trivial⟩ (hP k k k k <| hI k k k <| hI k k k <| hI k k k <| hB (okMt.plainO _) k k k <| hI k k k <| hI k k k <| hI k k k <| hB (okMt.plainO _) k k k <| hB (okRp.plainO _) k k k <| hB (okMt.plainO _) k k k <| hB (okBr.plainO _) k k k <| hI k k k <| hB (okSc.plainO _) k k k <| hX ⟨_, k, k, .inr ⟨_, _, k, ⟨_, _, k, k, ⟨_, _, k, k, ⟨_, _, k, k, ⟨_, _, k, ⟨k, k, k, k⟩, ⟨_, _, k, ⟨k, k, k, k⟩, ⟨_, _, k, ⟨k, k, k, k⟩, ⟨_, _, k, ⟨k, k, k, k⟩, ⟨_, _, k, k, ⟨_, _, k, k, ⟨_, _, k, ⟨k, k, k, k⟩, ⟨_, _, k, ⟨k, k, k, k⟩, ⟨_, _, k, ⟨k, k, k, k⟩, ⟨_, _, k, ⟨k, k, k, k⟩, ⟨_, _, k, ⟨k, k, k, k⟩, ⟨_, _, k, ⟨k, k, k, k⟩, ⟨_, _, k, ⟨k, k, k, k⟩, ⟨_, _, k, ⟨k, k, k, k⟩, ⟨_, _, k, ⟨k, k, k, k⟩, k⟩⟩⟩⟩⟩⟩⟩⟩⟩⟩⟩⟩⟩⟩⟩⟩⟩⟩, k⟩⟩ k <| hI k k k <| hI k k k <| hI k k k <| hB (okMt.plainO _) k k k <| hI k k k <| hI k k k <| hI k k k <| hB (okMt.plainO _) k k k <| hB (okRp.plainO _) k k k <| hB (okMt.plainO _) k k k <| hB (okBr.plainO _) k k k <| hI k k k <| hB (okSc.plainO _) k k k <| hX ⟨_, k, k, .inr ⟨_, _, k, ⟨_, _, k, k, ⟨_, _, k, k, ⟨_, _, k, k, ⟨_, _, k, ⟨k, k, k, k⟩, ⟨_, _, k, ⟨k, k, k, k⟩, ⟨_, _, k, ⟨k, k, k, k⟩, ⟨_, _, k, ⟨k, k, k, k⟩, ⟨_, _, k, k, ⟨_, _, k, k, ⟨_, _, k, ⟨k, k, k, k⟩, ⟨_, _, k, ⟨k, k, k, k⟩, ⟨_, _, k, ⟨k, k, k, k⟩, ⟨_, _, k, ⟨k, k, k, k⟩, ⟨_, _, k, ⟨k, k, k, k⟩, ⟨_, _, k, ⟨k, k, k, k⟩, ⟨_, _, k, ⟨k, k, k, k⟩, ⟨_, _, k, ⟨k, k, k, k⟩, ⟨_, _, k, ⟨k, k, k, k⟩, k⟩⟩⟩⟩⟩⟩⟩⟩⟩⟩⟩⟩⟩⟩⟩⟩⟩⟩, k⟩⟩ k <| trivial) k) ?_
      refine ac_condT k k <| sQ <| rgS <| se (eff_assign k) k <| sn <| tn <| ac_ret <| then_ret ?_
      obtain rfl := so h
      exact ret_mk k k k (fz_bl k)
     ·refine sops_lit 51 k q18 <| se (w_load_ptr TT_ok k k k k k k k) k <| se (w_load_ptr TT_ok k k k k k k k) k ?_
      obtain ⟨v19, hv19, h⟩ := ob h
      refine se (w_call0sK (c_laws_eqClaim v6.1 v4.1 v19 hv19) k (vk_cons (.inl (va_agg' (v1_cons (v1_same k) (v1_cons (v1_same k) (v1_cons (v1_same k) (v1_cons (v1_T okI k k) (v1_cons (v1_T okI k k) (v1_cons (v1_T okI k k) (v1_cons (v1_T okMt k k) (v1_cons (v1_same k) (v1_cons (v1_same k) (v1_cons (v1_T okI k k) (v1_cons (v1_T okI k k) (v1_cons (v1_T okI k k) (v1_cons (v1_T okMt k k) (v1_cons (v1_T okRp k k) (v1_cons (v1_T okMt k k) (v1_cons (v1_T okBr k k) (v1_cons (v1_T okI k k) (v1_cons (v1_T okSc k k) v1_nil)))))))))))))))))))) (vk_cons (.inl (va_agg' (v1_cons (v1_same k) (v1_cons (v1_same k) (v1_cons (v1_same k) (v1_cons (v1_T okI k k) (v1_cons (v1_T okI k k) (v1_cons (v1_T okI k k) (v1_cons (v1_T okMt k k) (v1_cons (v1_same k) (v1_cons (v1_same k) (v1_cons (v1_T okI k k) (v1_cons (v1_T okI k k) (v1_cons (v1_T okI k k) (v1_cons (v1_T okMt k k) (v1_cons (v1_T okRp k k) (v1_cons (v1_T okMt k k) (v1_cons (v1_T okBr k k) (v1_cons (v1_T okI k k) (v1_cons (v1_T okSc k k) v1_nil)))))))))))))))))))) vk_nil))) k <| se (w_not k) k <| se (eff_pick k k) k <| se (eff_move k) k ?_
      rcases cb h with ⟨q20, h⟩ | ⟨q20, h⟩
      ·refine sops_lit 57 k q20 <| sops_skip k k <| sops_skip k k <| sops_skip k k <| se (eff_pick k k) k <| sn <| tn <| ac_ent (t := mkS [(1, .ptr 0 0 0), (4, .ptr 18 0 0), (5, .bl v4.2), (7, .ptr 37 0 0), (61, .bl true)] ((0, ⟨6, [[.int a0.p, .int a0.q.n, .sc w0_2, .sc w0_3, .sc w0_4, .sc w0_5]]⟩) :: (5, ⟨1, List.map (ow eI) v4.1.rep.q.src⟩) :: (6, ⟨1, List.map (ow eI) v4.1.rep.q.tgt⟩) :: (7, ⟨1, List.map (ow eI) v4.1.rep.dims⟩) :: (8, ⟨3, List.map (ow eM) v4.1.rep.maps⟩) :: (9, ⟨1, List.map (ow eI) v4.1.other.q.src⟩) :: (10, ⟨1, List.map (ow eI) v4.1.other.q.tgt⟩) :: (11, ⟨1, List.map (ow eI) v4.1.other.dims⟩) :: (12, ⟨3, List.map (ow eM) v4.1.other.maps⟩) :: (13, ⟨6, List.map (ow eR) v4.1.parts⟩) :: (14, ⟨3, List.map (ow eM) v4.1.maps⟩) :: (15, ⟨3, List.map (ow eB) v4.1.bars⟩) :: (16, ⟨1, List.map (ow eI) v4.1.theta⟩) :: (17, ⟨2, List.map (ow eS) v4.1.subs⟩) :: (18, ⟨18, [[.int v4.1.kind, .int v4.1.rep.p, .int v4.1.rep.q.n, .own 5 0 v4.1.rep.q.src.length, .own 6 0 v4.1.rep.q.tgt.length, .own 7 0 v4.1.rep.dims.length, .own 8 0 v4.1.rep.maps.length, .int v4.1.other.p, .int v4.1.other.q.n, .own 9 0 v4.1.other.q.src.length, .own 10 0 v4.1.other.q.tgt.length, .own 11 0 v4.1.other.dims.length, .own 12 0 v4.1.other.maps.length, .own 13 0 v4.1.parts.length, .own 14 0 v4.1.maps.length, .own 15 0 v4.1.bars.length, .own 16 0 v4.1.theta.length, .own 17 0 v4.1.subs.length]]⟩) :: (24, ⟨1, List.map (ow eI) v6.1.rep.q.src⟩) :: (25, ⟨1, List.map (ow eI) v6.1.rep.q.tgt⟩) :: (26, ⟨1, List.map (ow eI) v6.1.rep.dims⟩) :: (27, ⟨3, List.map (ow eM) v6.1.rep.maps⟩) :: (28, ⟨1, List.map (ow eI) v6.1.other.q.src⟩) :: (29, ⟨1, List.map (ow eI) v6.1.other.q.tgt⟩) :: (30, ⟨1, List.map (ow eI) v6.1.other.dims⟩) :: (31, ⟨3, List.map (ow eM) v6.1.other.maps⟩) :: (32, ⟨6, List.map (ow eR) v6.1.parts⟩) :: (33, ⟨3, List.map (ow eM) v6.1.maps⟩) :: (34, ⟨3, List.map (ow eB) v6.1.bars⟩) :: (35, ⟨1, List.map (ow eI) v6.1.theta⟩) :: (36, ⟨2, List.map (ow eS) v6.1.subs⟩) :: (37, ⟨18, [[.int v6.1.kind, .int v6.1.rep.p, .int v6.1.rep.q.n, .own 24 0 v6.1.rep.q.src.length, .own 25 0 v6.1.rep.q.tgt.length, .own 26 0 v6.1.rep.dims.length, .own 27 0 v6.1.rep.maps.length, .int v6.1.other.p, .int v6.1.other.q.n, .own 28 0 v6.1.other.q.src.length, .own 29 0 v6.1.other.q.tgt.length, .own 30 0 v6.1.other.dims.length, .own 31 0 v6.1.other.maps.length, .own 32 0 v6.1.parts.length, .own 33 0 v6.1.maps.length, .own 34 0 v6.1.bars.length, .own 35 0 v6.1.theta.length, .own 36 0 v6.1.subs.length]]⟩) :: []) 42 [42, 43, 44, 45, 46, 47, 48, 49, 50, 51, 52, 53, 54, 55, 56, 57, 58, 59, 60, 61] ⟨0, true, fxW W, true⟩) (ent_mk (σ := sg ((0, 0) :: (5, 5) :: (6, 6) :: (7, 7) :: (8, 8) :: (9, 9) :: (10, 10) :: (11, 11) :: (12, 12) :: (13, 13) :: (14, 14) :: (15, 15) :: (16, 16) :: (17, 17) :: (18, 18) :: (24, 24) :: (25, 25) :: (26, 26) :: (27, 27) :: (28, 28) :: (29, 29) :: (30, 30) :: (31, 31) :: (32, 32) :: (33, 33) :: (34, 34) :: (35, 35) :: (36, 36) :: (37, 37) :: [])) ⟨(pE k k), (pE k k), (e1 k k), (pE k k), (e1 k k), trivial⟩ (hP k k k k <| hI k k k <| hI k k k <| hI k k k <| hB (okMt.plainO _) k k k <| hI k k k <| hI k k k <| hI k k k <| hB (okMt.plainO _) k k k <| hB (okRp.plainO _) k k k <| hB (okMt.plainO _) k k k <| hB (okBr.plainO _) k k k <| hI k k k <| hB (okSc.plainO _) k k k <| hX ⟨_, k, k, .inr ⟨_, _, k, ⟨_, _, k, k, ⟨_, _, k, k, ⟨_, _, k, k, ⟨_, _, k, ⟨k, k, k, k⟩, ⟨_, _, k, ⟨k, k, k, k⟩, ⟨_, _, k, ⟨k, k, k, k⟩, ⟨_, _, k, ⟨k, k, k, k⟩, ⟨_, _, k, k, ⟨_, _, k, k, ⟨_, _, k, ⟨k, k, k, k⟩, ⟨_, _, k, ⟨k, k, k, k⟩, ⟨_, _, k, ⟨k, k, k, k⟩, ⟨_, _, k, ⟨k, k, k, k⟩, ⟨_, _, k, ⟨k, k, k, k⟩, ⟨_, _, k, ⟨k, k, k, k⟩, ⟨_, _, k, ⟨k, k, k, k⟩, ⟨_, _, k, ⟨k, k, k, k⟩, ⟨_, _, k, ⟨k, k, k, k⟩, k⟩⟩⟩⟩⟩⟩⟩⟩⟩⟩⟩⟩⟩⟩⟩⟩⟩⟩, k⟩⟩ k <| hI k k k <| hI k k k <| hI k k k <| hB (okMt.plainO _) k k k <| hI k k k <| hI k k k <| hI k k k <| hB (okMt.plainO _) k k k <| hB (okRp.plainO _) k k k <| hB (okMt.plainO _) k k k <| hB (okBr.plainO _) k k k <| hI k k k <| hB (okSc.plainO _) k k k <| hX ⟨_, k, k, .inr ⟨_, _, k, ⟨_, _, k, k, ⟨_, _, k, k, ⟨_, _, k, k, ⟨_, _, k, ⟨k, k, k, k⟩, ⟨_, _, k, ⟨k, k, k, k⟩, ⟨_, _, k, ⟨k, k, k, k⟩, ⟨_, _, k, ⟨k, k, k, k⟩, ⟨_, _, k, k, ⟨_, _, k, k, ⟨_, _, k, ⟨k, k, k, k⟩, ⟨_, _, k, ⟨k, k, k, k⟩, ⟨_, _, k, ⟨k, k, k, k⟩, ⟨_, _, k, ⟨k, k, k, k⟩, ⟨_, _, k, ⟨k, k, k, k⟩, ⟨_, _, k, ⟨k, k, k, k⟩, ⟨_, _, k, ⟨k, k, k, k⟩, ⟨_, _, k, ⟨k, k, k, k⟩, ⟨_, _, k, ⟨k, k, k, k⟩, k⟩⟩⟩⟩⟩⟩⟩⟩⟩⟩⟩⟩⟩⟩⟩⟩⟩⟩, k⟩⟩ k <| trivial) k) ?_
       refine ac_condT k k <| sQ <| rgS <| se (eff_assign k) k <| sn <| tn <| ac_ret <| then_ret ?_
       obtain rfl := so h
       exact ret_mk k k k (fz_bl k)
      ·refine sops_lit 57 k q20 <| se (eff_move k) k <| se (eff_move k) k <| se (w_neqB (by kernel_rfl) k k) k <| se (eff_pick k k) k <| sn <| tn <| ac_ent (t := mkS [(1, .ptr 0 0 0), (4, .ptr 18 0 0), (5, .bl v4.2), (7, .ptr 37 0 0), (61, .bl (!(v6.2 == v4.2)))] ((0, ⟨6, [[.int a0.p, .int a0.q.n, .sc w0_2, .sc w0_3, .sc w0_4, .sc w0_5]]⟩) :: (5, ⟨1, List.map (ow eI) v4.1.rep.q.src⟩) :: (6, ⟨1, List.map (ow eI) v4.1.rep.q.tgt⟩) :: (7, ⟨1, List.map (ow eI) v4.1.rep.dims⟩) :: (8, ⟨3, List.map (ow eM) v4.1.rep.maps⟩) :: (9, ⟨1, List.map (ow eI) v4.1.other.q.src⟩) :: (10, ⟨1, List.map (ow eI) v4.1.other.q.tgt⟩) :: (11, ⟨1, List.map (ow eI) v4.1.other.dims⟩) :: (12, ⟨3, List.map (ow eM) v4.1.other.maps⟩) :: (13, ⟨6, List.map (ow eR) v4.1.parts⟩) :: (14, ⟨3, List.map (ow eM) v4.1.maps⟩) :: (15, ⟨3, List.map (ow eB) v4.1.bars⟩) :: (16, ⟨1, List.map (ow eI) v4.1.theta⟩) :: (17, ⟨2, List.map (ow eS) v4.1.subs⟩) :: (18, ⟨18, [[.int v4.1.kind, .int v4.1.rep.p, .int v4.1.rep.q.n, .own 5 0 v4.1.rep.q.src.length, .own 6 0 v4.1.rep.q.tgt.length, .own 7 0 v4.1.rep.dims.length, .own 8 0 v4.1.rep.maps.length, .int v4.1.other.p, .int v4.1.other.q.n, .own 9 0 v4.1.other.q.src.length, .own 10 0 v4.1.other.q.tgt.length, .own 11 0 v4.1.other.dims.length, .own 12 0 v4.1.other.maps.length, .own 13 0 v4.1.parts.length, .own 14 0 v4.1.maps.length, .own 15 0 v4.1.bars.length, .own 16 0 v4.1.theta.length, .own 17 0 v4.1.subs.length]]⟩) :: (24, ⟨1, List.map (ow eI) v6.1.rep.q.src⟩) :: (25, ⟨1, List.map (ow eI) v6.1.rep.q.tgt⟩) :: (26, ⟨1, List.map (ow eI) v6.1.rep.dims⟩) :: (27, ⟨3, List.map (ow eM) v6.1.rep.maps⟩) :: (28, ⟨1, List.map (ow eI) v6.1.other.q.src⟩) :: (29, ⟨1, List.map (ow eI) v6.1.other.q.tgt⟩) :: (30, ⟨1, List.map (ow eI) v6.1.other.dims⟩) :: (31, ⟨3, List.map (ow eM) v6.1.other.maps⟩) :: (32, ⟨6, List.map (ow eR) v6.1.parts⟩) :: (33, ⟨3, List.map (ow eM) v6.1.maps⟩) :: (34, ⟨3, List.map (ow eB) v6.1.bars⟩) :: (35, ⟨1, List.map (ow eI) v6.1.theta⟩) :: (36, ⟨2, List.map (ow eS) v6.1.subs⟩) :: (37, ⟨18, [[.int v6.1.kind, .int v6.1.rep.p, .int v6.1.rep.q.n, .own 24 0 v6.1.rep.q.src.length, .own 25 0 v6.1.rep.q.tgt.length, .own 26 0 v6.1.rep.dims.length, .own 27 0 v6.1.rep.maps.length, .int v6.1.other.p, .int v6.1.other.q.n, .own 28 0 v6.1.other.q.src.length, .own 29 0 v6.1.other.q.tgt.length, .own 30 0 v6.1.other.dims.length, .own 31 0 v6.1.other.maps.length, .own 32 0 v6.1.parts.length, .own 33 0 v6.1.maps.length, .own 34 0 v6.1.bars.length, .own 35 0 v6.1.theta.length, .own 36 0 v6.1.subs.length]]⟩) :: []) 42 [42, 43, 44, 45, 46, 47, 48, 49, 50, 51, 52, 53, 54, 55, 56, 57, 58, 59, 60, 61] ⟨0, true, fxW W, true⟩) (ent_mk (σ := sg ((0, 0) :: (5, 5) :: (6, 6) :: (7, 7) :: (8, 8) :: (9, 9) :: (10, 10) :: (11, 11) :: (12, 12) :: (13, 13) :: (14, 14) :: (15, 15) :: (16, 16) :: (17, 17) :: (18, 18) :: (24, 24) :: (25, 25) :: (26, 26) :: (27, 27) :: (28, 28) :: (29, 29) :: (30, 30) :: (31, 31) :: (32, 32) :: (33, 33) :: (34, 34) :: (35, 35) :: (36, 36) :: (37, 37) :: [])) ⟨(pE k k), (pE k k), (e1 k k), (pE k k), (e1 k k), trivial⟩ (hP k k k k <| hI k k k <| hI k k k <| hI k k k <| hB (okMt.plainO _) k k k <| hI k k k <| hI k k k <| hI k k k <| hB (okMt.plainO _) k k k <| hB (okRp.plainO _) k k k <| hB (okMt.plainO _) k k k <| hB (okBr.plainO _) k k k <| hI k k k <| hB (okSc.plainO _) k k k <| hX ⟨_, k, k, .inr ⟨_, _, k, ⟨_, _, k, k, ⟨_, _, k, k, ⟨_, _, k, k, ⟨_, _, k, ⟨k, k, k, k⟩, ⟨_, _, k, ⟨k, k, k, k⟩, ⟨_, _, k, ⟨k, k, k, k⟩, ⟨_, _, k, ⟨k, k, k, k⟩, ⟨_, _, k, k, ⟨_, _, k, k, ⟨_, _, k, ⟨k, k, k, k⟩, ⟨_, _, k, ⟨k, k, k, k⟩, ⟨_, _, k, ⟨k, k, k, k⟩, ⟨_, _, k, ⟨k, k, k, k⟩, ⟨_, _, k, ⟨k, k, k, k⟩, ⟨_, _, k, ⟨k, k, k, k⟩, ⟨_, _, k, ⟨k, k, k, k⟩, ⟨_, _, k, ⟨k, k, k, k⟩, ⟨_, _, k, ⟨k, k, k, k⟩, k⟩⟩⟩⟩⟩⟩⟩⟩⟩⟩⟩⟩⟩⟩⟩⟩⟩⟩, k⟩⟩ k <| hI k k k <| hI k k k <| hI k k k <| hB (okMt.plainO _) k k k <| hI k k k <| hI k k k <| hI k k k <| hB (okMt.plainO _) k k k <| hB (okRp.plainO _) k k k <| hB (okMt.plainO _) k k k <| hB (okBr.plainO _) k k k <| hI k k k <| hB (okSc.plainO _) k k k <| hX ⟨_, k, k, .inr ⟨_, _, k, ⟨_, _, k, k, ⟨_, _, k, k, ⟨_, _, k, k, ⟨_, _, k, ⟨k, k, k, k⟩, ⟨_, _, k, ⟨k, k, k, k⟩, ⟨_, _, k, ⟨k, k, k, k⟩, ⟨_, _, k, ⟨k, k, k, k⟩, ⟨_, _, k, k, ⟨_, _, k, k, ⟨_, _, k, ⟨k, k, k, k⟩, ⟨_, _, k, ⟨k, k, k, k⟩, ⟨_, _, k, ⟨k, k, k, k⟩, ⟨_, _, k, ⟨k, k, k, k⟩, ⟨_, _, k, ⟨k, k, k, k⟩, ⟨_, _, k, ⟨k, k, k, k⟩, ⟨_, _, k, ⟨k, k, k, k⟩, ⟨_, _, k, ⟨k, k, k, k⟩, ⟨_, _, k, ⟨k, k, k, k⟩, k⟩⟩⟩⟩⟩⟩⟩⟩⟩⟩⟩⟩⟩⟩⟩⟩⟩⟩, k⟩⟩ k <| trivial) k) ?_
       rcases cb h with ⟨q21, h⟩ | ⟨q21, h⟩
       ·refine ac_condT k q21 <| sQ <| rgS <| se (eff_assign k) k <| sn <| tn <| ac_ret <| then_ret ?_
        obtain rfl := so h
        exact ret_mk k k k (fz_bl k)
       ·refine ac_condF k q21 <| ac_skip <| tn <| sQ <| rgS <| se (eff_assign k) k <| sn <| tn <| sQ <| rgS ?_
        refine se (w_load_ptr TT_ok k k k k k k k) k <| se (eff_move k) k ?_
        obtain ⟨v22, hv22, h⟩ := ob h
        refine sops_ent (t := mkS [(1, .ptr 0 0 0), (4, .ptr 18 0 0), (5, .bl v4.2), (7, .ptr 37 0 0), (10, .int 1), (61, .bl (!(v6.2 == v4.2))), (62, .agg [.int v6.1.kind, .int v6.1.rep.p, .int v6.1.rep.q.n, .own 24 0 v6.1.rep.q.src.length, .own 25 0 v6.1.rep.q.tgt.length, .own 26 0 v6.1.rep.dims.length, .own 27 0 v6.1.rep.maps.length, .int v6.1.other.p, .int v6.1.other.q.n, .own 28 0 v6.1.other.q.src.length, .own 29 0 v6.1.other.q.tgt.length, .own 30 0 v6.1.other.dims.length, .own 31 0 v6.1.other.maps.length, .own 32 0 v6.1.parts.length, .own 33 0 v6.1.maps.length, .own 34 0 v6.1.bars.length, .own 35 0 v6.1.theta.length, .own 36 0 v6.1.subs.length]), (63, .int 1)] ((0, ⟨6, [[.int a0.p, .int a0.q.n, .sc w0_2, .sc w0_3, .sc w0_4, .sc w0_5]]⟩) :: (5, ⟨1, List.map (ow eI) v4.1.rep.q.src⟩) :: (6, ⟨1, List.map (ow eI) v4.1.rep.q.tgt⟩) :: (7, ⟨1, List.map (ow eI) v4.1.rep.dims⟩) :: (8, ⟨3, List.map (ow eM) v4.1.rep.maps⟩) :: (9, ⟨1, List.map (ow eI) v4.1.other.q.src⟩) :: (10, ⟨1, List.map (ow eI) v4.1.other.q.tgt⟩) :: (11, ⟨1, List.map (ow eI) v4.1.other.dims⟩) :: (12, ⟨3, List.map (ow eM) v4.1.other.maps⟩) :: (13, ⟨6, List.map (ow eR) v4.1.parts⟩) :: (14, ⟨3, List.map (ow eM) v4.1.maps⟩) :: (15, ⟨3, List.map (ow eB) v4.1.bars⟩) :: (16, ⟨1, List.map (ow eI) v4.1.theta⟩) :: (17, ⟨2, List.map (ow eS) v4.1.subs⟩) :: (18, ⟨18, [[.int v4.1.kind, .int v4.1.rep.p, .int v4.1.rep.q.n, .own 5 0 v4.1.rep.q.src.length, .own 6 0 v4.1.rep.q.tgt.length, .own 7 0 v4.1.rep.dims.length, .own 8 0 v4.1.rep.maps.length, .int v4.1.other.p, .int v4.1.other.q.n, .own 9 0 v4.1.other.q.src.length, .own 10 0 v4.1.other.q.tgt.length, .own 11 0 v4.1.other.dims.length, .own 12 0 v4.1.other.maps.length, .own 13 0 v4.1.parts.length, .own 14 0 v4.1.maps.length, .own 15 0 v4.1.bars.length, .own 16 0 v4.1.theta.length, .own 17 0 v4.1.subs.length]]⟩) :: (24, ⟨1, List.map (ow eI) v6.1.rep.q.src⟩) :: (25, ⟨1, List.map (ow eI) v6.1.rep.q.tgt⟩) :: (26, ⟨1, List.map (ow eI) v6.1.rep.dims⟩) :: (27, ⟨3, List.map (ow eM) v6.1.rep.maps⟩) :: (28, ⟨1, List.map (ow eI) v6.1.other.q.src⟩) :: (29, ⟨1, List.map (ow eI) v6.1.other.q.tgt⟩) :: (30, ⟨1, List.map (ow eI) v6.1.other.dims⟩) :: (31, ⟨3, List.map (ow eM) v6.1.other.maps⟩) :: (32, ⟨6, List.map (ow eR) v6.1.parts⟩) :: (33, ⟨3, List.map (ow eM) v6.1.maps⟩) :: (34, ⟨3, List.map (ow eB) v6.1.bars⟩) :: (35, ⟨1, List.map (ow eI) v6.1.theta⟩) :: (36, ⟨2, List.map (ow eS) v6.1.subs⟩) :: (37, ⟨18, [[.int v6.1.kind, .int v6.1.rep.p, .int v6.1.rep.q.n, .own 24 0 v6.1.rep.q.src.length, .own 25 0 v6.1.rep.q.tgt.length, .own 26 0 v6.1.rep.dims.length, .own 27 0 v6.1.rep.maps.length, .int v6.1.other.p, .int v6.1.other.q.n, .own 28 0 v6.1.other.q.src.length, .own 29 0 v6.1.other.q.tgt.length, .own 30 0 v6.1.other.dims.length, .own 31 0 v6.1.other.maps.length, .own 32 0 v6.1.parts.length, .own 33 0 v6.1.maps.length, .own 34 0 v6.1.bars.length, .own 35 0 v6.1.theta.length, .own 36 0 v6.1.subs.length]]⟩) :: []) 42 [42, 43, 44, 45, 46, 47, 48, 49, 50, 51, 52, 53, 54, 55, 56, 57, 58, 59, 60, 61] ⟨0, true, fxW W, true⟩) (ent_mk (σ := sg ((0, 0) :: (5, 5) :: (6, 6) :: (7, 7) :: (8, 8) :: (9, 9) :: (10, 10) :: (11, 11) :: (12, 12) :: (13, 13) :: (14, 14) :: (15, 15) :: (16, 16) :: (17, 17) :: (18, 18) :: (24, 24) :: (25, 25) :: (26, 26) :: (27, 27) :: (28, 28) :: (29, 29) :: (30, 30) :: (31, 31) :: (32, 32) :: (33, 33) :: (34, 34) :: (35, 35) :: (36, 36) :: (37, 37) :: [])) ⟨(pE k k), (pE k k), (e1 k k), (pE k k), (e1 k k), (e1 k k), ⟨_, k, ⟨_, _, k, k, ⟨_, _, k, k, ⟨_, _, k, k, ⟨_, _, k, ⟨k, k, k, k⟩, ⟨_, _, k, ⟨k, k, k, k⟩, ⟨_, _, k, ⟨k, k, k, k⟩, ⟨_, _, k, ⟨k, k, k, k⟩, ⟨_, _, k, k, ⟨_, _, k, k, ⟨_, _, k, ⟨k, k, k, k⟩, ⟨_, _, k, ⟨k, k, k, k⟩, ⟨_, _, k, ⟨k, k, k, k⟩, ⟨_, _, k, ⟨k, k, k, k⟩, ⟨_, _, k, ⟨k, k, k, k⟩, ⟨_, _, k, ⟨k, k, k, k⟩, ⟨_, _, k, ⟨k, k, k, k⟩, ⟨_, _, k, ⟨k, k, k, k⟩, ⟨_, _, k, ⟨k, k, k, k⟩, k⟩⟩⟩⟩⟩⟩⟩⟩⟩⟩⟩⟩⟩⟩⟩⟩⟩⟩⟩, (e1 k k), trivial⟩ (hP k k k k <| hI k k k <| hI k k k <| hI k k k <| hB (okMt.plainO _) k k k <| hI k k k <| hI k k k <| hI k k k <| hB (okMt.plainO _) k k k <| hB (okRp.plainO _) k k k <| hB (okMt.plainO _) k k k <| hB (okBr.plainO _) k k k <| hI k k k <| hB (okSc.plainO _) k k k <| hX ⟨_, k, k, .inr ⟨_, _, k, ⟨_, _, k, k, ⟨_, _, k, k, ⟨_, _, k, k, ⟨_, _, k, ⟨k, k, k, k⟩, ⟨_, _, k, ⟨k, k, k, k⟩, ⟨_, _, k, ⟨k, k, k, k⟩, ⟨_, _, k, ⟨k, k, k, k⟩, ⟨_, _, k, k, ⟨_, _, k, k, ⟨_, _, k, ⟨k, k, k, k⟩, ⟨_, _, k, ⟨k, k, k, k⟩, ⟨_, _, k, ⟨k, k, k, k⟩, ⟨_, _, k, ⟨k, k, k, k⟩, ⟨_, _, k, ⟨k, k, k, k⟩, ⟨_, _, k, ⟨k, k, k, k⟩, ⟨_, _, k, ⟨k, k, k, k⟩, ⟨_, _, k, ⟨k, k, k, k⟩, ⟨_, _, k, ⟨k, k, k, k⟩, k⟩⟩⟩⟩⟩⟩⟩⟩⟩⟩⟩⟩⟩⟩⟩⟩⟩⟩, k⟩⟩ k <| hI k k k <| hI k k k <| hI k k k <| hB (okMt.plainO _) k k k <| hI k k k <| hI k k k <| hI k k k <| hB (okMt.plainO _) k k k <| hB (okRp.plainO _) k k k <| hB (okMt.plainO _) k k k <| hB (okBr.plainO _) k k k <| hI k k k <| hB (okSc.plainO _) k k k <| hX ⟨_, k, k, .inr ⟨_, _, k, ⟨_, _, k, k, ⟨_, _, k, k, ⟨_, _, k, k, ⟨_, _, k, ⟨k, k, k, k⟩, ⟨_, _, k, ⟨k, k, k, k⟩, ⟨_, _, k, ⟨k, k, k, k⟩, ⟨_, _, k, ⟨k, k, k, k⟩, ⟨_, _, k, k, ⟨_, _, k, k, ⟨_, _, k, ⟨k, k, k, k⟩, ⟨_, _, k, ⟨k, k, k, k⟩, ⟨_, _, k, ⟨k, k, k, k⟩, ⟨_, _, k, ⟨k, k, k, k⟩, ⟨_, _, k, ⟨k, k, k, k⟩, ⟨_, _, k, ⟨k, k, k, k⟩, ⟨_, _, k, ⟨k, k, k, k⟩, ⟨_, _, k, ⟨k, k, k, k⟩, ⟨_, _, k, ⟨k, k, k, k⟩, k⟩⟩⟩⟩⟩⟩⟩⟩⟩⟩⟩⟩⟩⟩⟩⟩⟩⟩, k⟩⟩ k <| trivial) k) ?_
        refine sops_T (σ := sg [(0, 24), (1, 25), (2, 26), (3, 27), (4, 28), (5, 29), (6, 30), (7, 31), (8, 32), (9, 33), (10, 34), (11, 35), (12, 36)]) (σ' := sg [(24, 0), (25, 1), (26, 2), (27, 3), (28, 4), (29, 5), (30, 6), (31, 7), (32, 8), (33, 9), (34, 10), (35, 11), (36, 12)]) (touch := [24, 25, 26, 27, 28, 29, 30, 31, 32, 33, 34, 35, 36]) (news := []) (hl2 := [(24, ⟨1, List.map (ow eI) v22.1⟩), (25, ⟨1, List.map (ow eI) v22.2.1⟩), (26, ⟨1, List.map (ow eI) v22.2.2.1⟩), (27, ⟨3, List.map (ow eM) v22.2.2.2.1⟩), (28, ⟨1, List.map (ow eI) v22.2.2.2.2.1⟩), (29, ⟨1, List.map (ow eI) v22.2.2.2.2.2.1⟩), (30, ⟨1, List.map (ow eI) v22.2.2.2.2.2.2.1⟩), (31, ⟨3, List.map (ow eM) v22.2.2.2.2.2.2.2.1⟩), (32, ⟨6, List.map (ow eR) v22.2.2.2.2.2.2.2.2.1⟩), (33, ⟨3, List.map (ow eM) v22.2.2.2.2.2.2.2.2.2.1⟩), (34, ⟨3, List.map (ow eB) v22.2.2.2.2.2.2.2.2.2.2.1⟩), (35, ⟨1, List.map (ow eI) v22.2.2.2.2.2.2.2.2.2.2.2.1⟩), (36, ⟨2, List.map (ow eS) v22.2.2.2.2.2.2.2.2.2.2.2.2.1⟩)]) (n' := 42) (r2 := .int v22.2.2.2.2.2.2.2.2.2.2.2.2.2) (c_laws_markClaim v6.1 1 v22 hv22) k k ⟨_, _, k, ⟨_, _, k, k, ⟨_, _, k, k, ⟨_, _, k, k, ⟨_, _, k, ⟨k, k, k, k⟩, ⟨_, _, k, ⟨k, k, k, k⟩, ⟨_, _, k, ⟨k, k, k, k⟩, ⟨_, _, k, ⟨k, k, k, k⟩, ⟨_, _, k, k, ⟨_, _, k, k, ⟨_, _, k, ⟨k, k, k, k⟩, ⟨_, _, k, ⟨k, k, k, k⟩, ⟨_, _, k, ⟨k, k, k, k⟩, ⟨_, _, k, ⟨k, k, k, k⟩, ⟨_, _, k, ⟨k, k, k, k⟩, ⟨_, _, k, ⟨k, k, k, k⟩, ⟨_, _, k, ⟨k, k, k, k⟩, ⟨_, _, k, ⟨k, k, k, k⟩, ⟨_, _, k, ⟨k, k, k, k⟩, k⟩⟩⟩⟩⟩⟩⟩⟩⟩⟩⟩⟩⟩⟩⟩⟩⟩⟩, ⟨_, _, k, k, k⟩⟩ ⟨⟨_, k, k, .inl ⟨k, okI.plainO _⟩⟩, k, ⟨_, k, k, .inl ⟨k, okI.plainO _⟩⟩, k, ⟨_, k, k, .inl ⟨k, okI.plainO _⟩⟩, k, ⟨_, k, k, .inl ⟨k, okMt.plainO _⟩⟩, k, ⟨_, k, k, .inl ⟨k, okI.plainO _⟩⟩, k, ⟨_, k, k, .inl ⟨k, okI.plainO _⟩⟩, k, ⟨_, k, k, .inl ⟨k, okI.plainO _⟩⟩, k, ⟨_, k, k, .inl ⟨k, okMt.plainO _⟩⟩, k, ⟨_, k, k, .inl ⟨k, okRp.plainO _⟩⟩, k, ⟨_, k, k, .inl ⟨k, okMt.plainO _⟩⟩, k, ⟨_, k, k, .inl ⟨k, okBr.plainO _⟩⟩, k, ⟨_, k, k, .inl ⟨k, okI.plainO _⟩⟩, k, ⟨_, k, k, .inl ⟨k, okSc.plainO _⟩⟩, k, trivial⟩ k k k ⟨⟨_, k, k, .inl ⟨k, okI.plainO _⟩⟩, k, ⟨_, k, k, .inl ⟨k, okI.plainO _⟩⟩, k, ⟨_, k, k, .inl ⟨k, okI.plainO _⟩⟩, k, ⟨_, k, k, .inl ⟨k, okMt.plainO _⟩⟩, k, ⟨_, k, k, .inl ⟨k, okI.plainO _⟩⟩, k, ⟨_, k, k, .inl ⟨k, okI.plainO _⟩⟩, k, ⟨_, k, k, .inl ⟨k, okI.plainO _⟩⟩, k, ⟨_, k, k, .inl ⟨k, okMt.plainO _⟩⟩, k, ⟨_, k, k, .inl ⟨k, okRp.plainO _⟩⟩, k, ⟨_, k, k, .inl ⟨k, okMt.plainO _⟩⟩, k, ⟨_, k, k, .inl ⟨k, okBr.plainO _⟩⟩, k, ⟨_, k, k, .inl ⟨k, okI.plainO _⟩⟩, k, ⟨_, k, k, .inl ⟨k, okSc.plainO _⟩⟩, k, trivial⟩ k k k ⟨k, okI.tame _ _, ⟨k, okI.tame _ _, ⟨k, okI.tame _ _, ⟨k, okMt.tame _ _, ⟨k, okI.tame _ _, ⟨k, okI.tame _ _, ⟨k, okI.tame _ _, ⟨k, okMt.tame _ _, ⟨k, okRp.tame _ _, ⟨k, okMt.tame _ _, ⟨k, okBr.tame _ _, ⟨k, okI.tame _ _, ⟨k, okSc.tame _ _, trivial⟩⟩⟩⟩⟩⟩⟩⟩⟩⟩⟩⟩⟩ k k k k k (dfE_ok ⟨k, k, k, k, k, k, k, k, trivial⟩) (dfH_ok (skip := [24, 25, 26, 27, 28, 29, 30, 31, 32, 33, 34, 35, 36]) ⟨.inr (df_lit k), .inr (okI.df _ _), .inr (okI.df _ _), .inr (okI.df _ _), .inr (okMt.df _ _), .inr (okI.df _ _), .inr (okI.df _ _), .inr (okI.df _ _), .inr (okMt.df _ _), .inr (okRp.df _ _), .inr (okMt.df _ _), .inr (okBr.df _ _), .inr (okI.df _ _), .inr (okSc.df _ _), .inr (df_lit k), .inl (by decide), .inl (by decide), .inl (by decide), .inl (by decide), .inl (by decide), .inl (by decide), .inl (by decide), .inl (by decide), .inl (by decide), .inl (by decide), .inl (by decide), .inl (by decide), .inl (by decide), .inr (df_lit k), trivial⟩) ?_
        obtain ⟨q23, h⟩ := cg h
        obtain ⟨q24, h⟩ := cg h
        obtain ⟨q25, h⟩ := cg h
        obtain ⟨q26, h⟩ := cg h
        obtain ⟨q27, h⟩ := cg h
        obtain ⟨q28, h⟩ := cg h
        obtain ⟨q29, h⟩ := cg h
        obtain ⟨q30, h⟩ := cg h
        obtain ⟨q31, h⟩ := cg h
        obtain ⟨q32, h⟩ := cg h
        obtain ⟨q33, h⟩ := cg h
        obtain ⟨q34, h⟩ := cg h
        obtain ⟨q35, h⟩ := cg h
        refine se (eff_assign k) k <| sn <| tn <| sQ <| rgS <| se (eff_assign k) k <| sn <| tn <| sQ <| rgS ?_
        refine se (w_load_ptr TT_ok k k k k k k k) k <| se (eff_move k) k ?_
        obtain ⟨v36, hv36, h⟩ := ob h
        refine se (w_call0sK (c_laws_heldClaim (⟨v6.1.kind, (⟨v6.1.rep.p, (⟨v6.1.rep.q.n, v22.1, v22.2.1⟩ : Qv), v22.2.2.1, v22.2.2.2.1⟩ : Rp), (⟨v6.1.other.p, (⟨v6.1.other.q.n, v22.2.2.2.2.1, v22.2.2.2.2.2.1⟩ : Qv), v22.2.2.2.2.2.2.1, v22.2.2.2.2.2.2.2.1⟩ : Rp), v22.2.2.2.2.2.2.2.2.1, v22.2.2.2.2.2.2.2.2.2.1, v22.2.2.2.2.2.2.2.2.2.2.1, v22.2.2.2.2.2.2.2.2.2.2.2.1, v22.2.2.2.2.2.2.2.2.2.2.2.2.1⟩ : Cl) 1 v36 hv36) k (vk_cons (.inl (va_agg' (v1_cons (v1_same k) (v1_cons (v1_same k) (v1_cons (v1_same k) (v1_cons (v1_T okI k (by first | rfl | simp only [List.length_set, of_decide_eq_true q23])) (v1_cons (v1_T okI k (by first | rfl | simp only [List.length_set, of_decide_eq_true q24])) (v1_cons (v1_T okI k (by first | rfl | simp only [List.length_set, of_decide_eq_true q25])) (v1_cons (v1_T okMt k (by first | rfl | simp only [List.length_set, of_decide_eq_true q26])) (v1_cons (v1_same k) (v1_cons (v1_same k) (v1_cons (v1_T okI k (by first | rfl | simp only [List.length_set, of_decide_eq_true q27])) (v1_cons (v1_T okI k (by first | rfl | simp only [List.length_set, of_decide_eq_true q28])) (v1_cons (v1_T okI k (by first | rfl | simp only [List.length_set, of_decide_eq_true q29])) (v1_cons (v1_T okMt k (by first | rfl | simp only [List.length_set, of_decide_eq_true q30])) (v1_cons (v1_T okRp k (by first | rfl | simp only [List.length_set, of_decide_eq_true q31])) (v1_cons (v1_T okMt k (by first | rfl | simp only [List.length_set, of_decide_eq_true q32])) (v1_cons (v1_T okBr k (by first | rfl | simp only [List.length_set, of_decide_eq_true q33])) (v1_cons (v1_T okI k (by first | rfl | simp only [List.length_set, of_decide_eq_true q34])) (v1_cons (v1_T okSc k (by first | rfl | simp only [List.length_set, of_decide_eq_true q35])) v1_nil)))))))))))))))))))) (vk_cons (.inl (va_same k)) vk_nil))) k ?_
        refine se (eff_assign k) k <| sn <| tn <| sQ <| sQ <| rgS <| se (eff_move k) k <| se (w_cmp k k k) k <| sn <| tn ?_
        rcases cb h with ⟨q37, h⟩ | ⟨q37, h⟩
        ·refine ac_condT k q37 <| sQ <| rgS <| se (eff_assign k) k <| sn <| tn <| ac_ret <| then_ret ?_
         obtain rfl := so h
         exact ret_mk k k k (fz_bl k)
        ·refine ac_condF k q37 <| ac_skip <| tn <| sQ <| sQ <| rgS <| se (eff_move k) k <| se (eff_move k) k <| se (w_cmp k k k) k <| sn ?_
         refine tn ?_
         rcases cb h with ⟨q38, h⟩ | ⟨q38, h⟩
         ·refine ac_condT k q38 <| sQ <| rgS <| se (eff_assign k) k <| sn <| tn <| ac_ent (t := mkS [(2, .bl false)] [] 42 [42, 43, 44, 45, 46, 47, 48, 49, 50, 51, 52, 53, 54, 55, 56, 57, 58, 59, 60, 61] ⟨0, true, fxW W, true⟩) (ent_mk (σ := sg []) ⟨(e1 k k), trivial⟩ trivial k) <| ac_ret <| then_ret ?_
          obtain rfl := so h
          exact ret_mk k k k (fz_bl k)
         ·refine ac_condF k q38 <| ac_skip <| tn <| sQ <| rgS <| se (w_load_ptr TT_ok k k k k k k k) k ?_
          obtain ⟨v39, hv39, h⟩ := ob h
          refine se (AEff.conv (w_call0K (x := .agg [.int v39.p, .int v39.q.n, .own 42 0 (List.map eI v39.q.src).length, .own 43 0 (List.map eI v39.q.tgt).length, .own 44 0 (List.map eI v39.dims).length, .own 45 0 (List.map eM v39.maps).length]) (nb := [(42, ⟨1, absEs (List.map eI v39.q.src)⟩), (43, ⟨1, absEs (List.map eI v39.q.tgt)⟩), (44, ⟨1, absEs (List.map eI v39.dims)⟩), (45, ⟨3, absEs (List.map eM v39.maps)⟩)]) (c_laws_toRep a0 v39 hv39) k (by rfl) k k (g1_cons trivial (g1_cons trivial (g1_cons (okI.good _) (g1_cons (okI.good _) (g1_cons (okI.good _) (g1_cons (okMt.good _) g1_nil)))))) (vk_cons (.inr (raw_cons (raw1_sc k k) (raw_cons (raw1_sc k k) (raw_cons (raw1_d k r0_2) (raw_cons (raw1_d k r0_3) (raw_cons (raw1_d k r0_4) (raw_cons (raw1_d k r0_5) raw_nil))))))) vk_nil)) (v' := .agg [.int v39.p, .int v39.q.n, .own 42 0 v39.q.src.length, .own 43 0 v39.q.tgt.length, .own 44 0 v39.dims.length, .own 45 0 v39.maps.length]) (ed' := [(42, some ⟨1, List.map (ow eI) v39.q.src⟩), (43, some ⟨1, List.map (ow eI) v39.q.tgt⟩), (44, some ⟨1, List.map (ow eI) v39.dims⟩), (45, some ⟨3, List.map (ow eM) v39.maps⟩)]) (by simp only [len_map]) (ed_ok (nb' := [(42, ⟨1, List.map (ow eI) v39.q.src⟩), (43, ⟨1, List.map (ow eI) v39.q.tgt⟩), (44, ⟨1, List.map (ow eI) v39.dims⟩), (45, ⟨3, List.map (ow eM) v39.maps⟩)]) (by simp only [abs_map]))) k ?_
          obtain ⟨v40, hv40, h⟩ := ob h
          refine se (AEff.conv (w_call0K (x := .tuple [.agg [.int v40.1.kind, .int v40.1.rep.p, .int v40.1.rep.q.n, .own 46 0 (List.map eI v40.1.rep.q.src).length, .own 47 0 (List.map eI v40.1.rep.q.tgt).length, .own 48 0 (List.map eI v40.1.rep.dims).length, .own 49 0 (List.map eM v40.1.rep.maps).length, .int v40.1.other.p, .int v40.1.other.q.n, .own 50 0 (List.map eI v40.1.other.q.src).length, .own 51 0 (List.map eI v40.1.other.q.tgt).length, .own 52 0 (List.map eI v40.1.other.dims).length, .own 53 0 (List.map eM v40.1.other.maps).length, .own 54 0 (List.map eR v40.1.parts).length, .own 55 0 (List.map eM v40.1.maps).length, .own 56 0 (List.map eB v40.1.bars).length, .own 57 0 (List.map eI v40.1.theta).length, .own 58 0 (List.map eS v40.1.subs).length], .bl v40.2]) (nb := [(46, ⟨1, absEs (List.map eI v40.1.rep.q.src)⟩), (47, ⟨1, absEs (List.map eI v40.1.rep.q.tgt)⟩), (48, ⟨1, absEs (List.map eI v40.1.rep.dims)⟩), (49, ⟨3, absEs (List.map eM v40.1.rep.maps)⟩), (50, ⟨1, absEs (List.map eI v40.1.other.q.src)⟩), (51, ⟨1, absEs (List.map eI v40.1.other.q.tgt)⟩), (52, ⟨1, absEs (List.map eI v40.1.other.dims)⟩), (53, ⟨3, absEs (List.map eM v40.1.other.maps)⟩), (54, ⟨6, absEs (List.map eR v40.1.parts)⟩), (55, ⟨3, absEs (List.map eM v40.1.maps)⟩), (56, ⟨3, absEs (List.map eB v40.1.bars)⟩), (57, ⟨1, absEs (List.map eI v40.1.theta)⟩), (58, ⟨2, absEs (List.map eS v40.1.subs)⟩)]) (c_impl_ClaimOfBars v39 v40 hv40) k (by rfl) k k (gB_cons (g1_cons trivial (g1_cons trivial (g1_cons trivial (g1_cons (okI.good _) (g1_cons (okI.good _) (g1_cons (okI.good _) (g1_cons (okMt.good _) (g1_cons trivial (g1_cons trivial (g1_cons (okI.good _) (g1_cons (okI.good _) (g1_cons (okI.good _) (g1_cons (okMt.good _) (g1_cons (okRp.good _) (g1_cons (okMt.good _) (g1_cons (okBr.good _) (g1_cons (okI.good _) (g1_cons (okSc.good _) g1_nil)))))))))))))))))) (gB_cons trivial gB_nil)) (vk_cons (.inl (va_agg' (v1_cons (v1_same k) (v1_cons (v1_same k) (v1_cons (v1_T okI k k) (v1_cons (v1_T okI k k) (v1_cons (v1_T okI k k) (v1_cons (v1_T okMt k k) v1_nil)))))))) vk_nil)) (v' := .tuple [.agg [.int v40.1.kind, .int v40.1.rep.p, .int v40.1.rep.q.n, .own 46 0 v40.1.rep.q.src.length, .own 47 0 v40.1.rep.q.tgt.length, .own 48 0 v40.1.rep.dims.length, .own 49 0 v40.1.rep.maps.length, .int v40.1.other.p, .int v40.1.other.q.n, .own 50 0 v40.1.other.q.src.length, .own 51 0 v40.1.other.q.tgt.length, .own 52 0 v40.1.other.dims.length, .own 53 0 v40.1.other.maps.length, .own 54 0 v40.1.parts.length, .own 55 0 v40.1.maps.length, .own 56 0 v40.1.bars.length, .own 57 0 v40.1.theta.length, .own 58 0 v40.1.subs.length], .bl v40.2]) (ed' := [(46, some ⟨1, List.map (ow eI) v40.1.rep.q.src⟩), (47, some ⟨1, List.map (ow eI) v40.1.rep.q.tgt⟩), (48, some ⟨1, List.map (ow eI) v40.1.rep.dims⟩), (49, some ⟨3, List.map (ow eM) v40.1.rep.maps⟩), (50, some ⟨1, List.map (ow eI) v40.1.other.q.src⟩), (51, some ⟨1, List.map (ow eI) v40.1.other.q.tgt⟩), (52, some ⟨1, List.map (ow eI) v40.1.other.dims⟩), (53, some ⟨3, List.map (ow eM) v40.1.other.maps⟩), (54, some ⟨6, List.map (ow eR) v40.1.parts⟩), (55, some ⟨3, List.map (ow eM) v40.1.maps⟩), (56, some ⟨3, List.map (ow eB) v40.1.bars⟩), (57, some ⟨1, List.map (ow eI) v40.1.theta⟩), (58, some ⟨2, List.map (ow eS) v40.1.subs⟩)]) (by simp only [len_map]) (ed_ok (nb' := [(46, ⟨1, List.map (ow eI) v40.1.rep.q.src⟩), (47, ⟨1, List.map (ow eI) v40.1.rep.q.tgt⟩), (48, ⟨1, List.map (ow eI) v40.1.rep.dims⟩), (49, ⟨3, List.map (ow eM) v40.1.rep.maps⟩), (50, ⟨1, List.map (ow eI) v40.1.other.q.src⟩), (51, ⟨1, List.map (ow eI) v40.1.other.q.tgt⟩), (52, ⟨1, List.map (ow eI) v40.1.other.dims⟩), (53, ⟨3, List.map (ow eM) v40.1.other.maps⟩), (54, ⟨6, List.map (ow eR) v40.1.parts⟩), (55, ⟨3, List.map (ow eM) v40.1.maps⟩), (56, ⟨3, List.map (ow eB) v40.1.bars⟩), (57, ⟨1, List.map (ow eI) v40.1.theta⟩), (58, ⟨2, List.map (ow eS) v40.1.subs⟩)]) (by simp only [abs_map]))) k ?_
          refine se (eff_move k) k <| se (eff_extract k k (by intro _ h; cases h)) k <| se (eff_extract k k (by intro _ h; cases h)) k <| se (w_alloc TT_ok k k) k <| se (w_store TT_ok k k k k k k k k) k <| se (eff_assign k) k <| sn <| tn <| ac_ent (t := mkS [(4, .ptr 18 0 0), (5, .bl v4.2), (7, .ptr 37 0 0), (10, .int v22.2.2.2.2.2.2.2.2.2.2.2.2.2), (12, .ptr 59 0 0), (13, .bl v40.2)] ((5, ⟨1, List.map (ow eI) v4.1.rep.q.src⟩) :: (6, ⟨1, List.map (ow eI) v4.1.rep.q.tgt⟩) :: (7, ⟨1, List.map (ow eI) v4.1.rep.dims⟩) :: (8, ⟨3, List.map (ow eM) v4.1.rep.maps⟩) :: (9, ⟨1, List.map (ow eI) v4.1.other.q.src⟩) :: (10, ⟨1, List.map (ow eI) v4.1.other.q.tgt⟩) :: (11, ⟨1, List.map (ow eI) v4.1.other.dims⟩) :: (12, ⟨3, List.map (ow eM) v4.1.other.maps⟩) :: (13, ⟨6, List.map (ow eR) v4.1.parts⟩) :: (14, ⟨3, List.map (ow eM) v4.1.maps⟩) :: (15, ⟨3, List.map (ow eB) v4.1.bars⟩) :: (16, ⟨1, List.map (ow eI) v4.1.theta⟩) :: (17, ⟨2, List.map (ow eS) v4.1.subs⟩) :: (18, ⟨18, [[.int v4.1.kind, .int v4.1.rep.p, .int v4.1.rep.q.n, .own 5 0 v4.1.rep.q.src.length, .own 6 0 v4.1.rep.q.tgt.length, .own 7 0 v4.1.rep.dims.length, .own 8 0 v4.1.rep.maps.length, .int v4.1.other.p, .int v4.1.other.q.n, .own 9 0 v4.1.other.q.src.length, .own 10 0 v4.1.other.q.tgt.length, .own 11 0 v4.1.other.dims.length, .own 12 0 v4.1.other.maps.length, .own 13 0 v4.1.parts.length, .own 14 0 v4.1.maps.length, .own 15 0 v4.1.bars.length, .own 16 0 v4.1.theta.length, .own 17 0 v4.1.subs.length]]⟩) :: (24, ⟨1, List.map (ow eI) v22.1⟩) :: (25, ⟨1, List.map (ow eI) v22.2.1⟩) :: (26, ⟨1, List.map (ow eI) v22.2.2.1⟩) :: (27, ⟨3, List.map (ow eM) v22.2.2.2.1⟩) :: (28, ⟨1, List.map (ow eI) v22.2.2.2.2.1⟩) :: (29, ⟨1, List.map (ow eI) v22.2.2.2.2.2.1⟩) :: (30, ⟨1, List.map (ow eI) v22.2.2.2.2.2.2.1⟩) :: (31, ⟨3, List.map (ow eM) v22.2.2.2.2.2.2.2.1⟩) :: (32, ⟨6, List.map (ow eR) v22.2.2.2.2.2.2.2.2.1⟩) :: (33, ⟨3, List.map (ow eM) v22.2.2.2.2.2.2.2.2.2.1⟩) :: (34, ⟨3, List.map (ow eB) v22.2.2.2.2.2.2.2.2.2.2.1⟩) :: (35, ⟨1, List.map (ow eI) v22.2.2.2.2.2.2.2.2.2.2.2.1⟩) :: (36, ⟨2, List.map (ow eS) v22.2.2.2.2.2.2.2.2.2.2.2.2.1⟩) :: (37, ⟨18, [[.int v6.1.kind, .int v6.1.rep.p, .int v6.1.rep.q.n, .own 24 0 v22.1.length, .own 25 0 v22.2.1.length, .own 26 0 v22.2.2.1.length, .own 27 0 v22.2.2.2.1.length, .int v6.1.other.p, .int v6.1.other.q.n, .own 28 0 v22.2.2.2.2.1.length, .own 29 0 v22.2.2.2.2.2.1.length, .own 30 0 v22.2.2.2.2.2.2.1.length, .own 31 0 v22.2.2.2.2.2.2.2.1.length, .own 32 0 v22.2.2.2.2.2.2.2.2.1.length, .own 33 0 v22.2.2.2.2.2.2.2.2.2.1.length, .own 34 0 v22.2.2.2.2.2.2.2.2.2.2.1.length, .own 35 0 v22.2.2.2.2.2.2.2.2.2.2.2.1.length, .own 36 0 v22.2.2.2.2.2.2.2.2.2.2.2.2.1.length]]⟩) :: (46, ⟨1, List.map (ow eI) v40.1.rep.q.src⟩) :: (47, ⟨1, List.map (ow eI) v40.1.rep.q.tgt⟩) :: (48, ⟨1, List.map (ow eI) v40.1.rep.dims⟩) :: (49, ⟨3, List.map (ow eM) v40.1.rep.maps⟩) :: (50, ⟨1, List.map (ow eI) v40.1.other.q.src⟩) :: (51, ⟨1, List.map (ow eI) v40.1.other.q.tgt⟩) :: (52, ⟨1, List.map (ow eI) v40.1.other.dims⟩) :: (53, ⟨3, List.map (ow eM) v40.1.other.maps⟩) :: (54, ⟨6, List.map (ow eR) v40.1.parts⟩) :: (55, ⟨3, List.map (ow eM) v40.1.maps⟩) :: (56, ⟨3, List.map (ow eB) v40.1.bars⟩) :: (57, ⟨1, List.map (ow eI) v40.1.theta⟩) :: (58, ⟨2, List.map (ow eS) v40.1.subs⟩) :: (59, ⟨18, [[.int v40.1.kind, .int v40.1.rep.p, .int v40.1.rep.q.n, .own 46 0 v40.1.rep.q.src.length, .own 47 0 v40.1.rep.q.tgt.length, .own 48 0 v40.1.rep.dims.length, .own 49 0 v40.1.rep.maps.length, .int v40.1.other.p, .int v40.1.other.q.n, .own 50 0 v40.1.other.q.src.length, .own 51 0 v40.1.other.q.tgt.length, .own 52 0 v40.1.other.dims.length, .own 53 0 v40.1.other.maps.length, .own 54 0 v40.1.parts.length, .own 55 0 v40.1.maps.length, .own 56 0 v40.1.bars.length, .own 57 0 v40.1.theta.length, .own 58 0 v40.1.subs.length]]⟩) :: []) 60 [60, 61] ⟨0, true, fxW W, true⟩) (ent_mk (σ := sg ((5, 5) :: (6, 6) :: (7, 7) :: (8, 8) :: (9, 9) :: (10, 10) :: (11, 11) :: (12, 12) :: (13, 13) :: (14, 14) :: (15, 15) :: (16, 16) :: (17, 17) :: (18, 18) :: (24, 24) :: (25, 25) :: (26, 26) :: (27, 27) :: (28, 28) :: (29, 29) :: (30, 30) :: (31, 31) :: (32, 32) :: (33, 33) :: (34, 34) :: (35, 35) :: (36, 36) :: (37, 37) :: (46, 46) :: (47, 47) :: (48, 48) :: (49, 49) :: (50, 50) :: (51, 51) :: (52, 52) :: (53, 53) :: (54, 54) :: (55, 55) :: (56, 56) :: (57, 57) :: (58, 58) :: (59, 59) :: [])) ⟨(pE k k), (e1 k k), (pE k k), (e1 k k), (pE k k), (e1 k k), trivial⟩ (hI k k k <| hI k k k <| hI k k k <| hB (okMt.plainO _) k k k <| hI k k k <| hI k k k <| hI k k k <| hB (okMt.plainO _) k k k <| hB (okRp.plainO _) k k k <| hB (okMt.plainO _) k k k <| hB (okBr.plainO _) k k k <| hI k k k <| hB (okSc.plainO _) k k k <| hX ⟨_, k, k, .inr ⟨_, _, k, ⟨_, _, k, k, ⟨_, _, k, k, ⟨_, _, k, k, ⟨_, _, k, ⟨k, k, k, k⟩, ⟨_, _, k, ⟨k, k, k, k⟩, ⟨_, _, k, ⟨k, k, k, k⟩, ⟨_, _, k, ⟨k, k, k, k⟩, ⟨_, _, k, k, ⟨_, _, k, k, ⟨_, _, k, ⟨k, k, k, k⟩, ⟨_, _, k, ⟨k, k, k, k⟩, ⟨_, _, k, ⟨k, k, k, k⟩, ⟨_, _, k, ⟨k, k, k, k⟩, ⟨_, _, k, ⟨k, k, k, k⟩, ⟨_, _, k, ⟨k, k, k, k⟩, ⟨_, _, k, ⟨k, k, k, k⟩, ⟨_, _, k, ⟨k, k, k, k⟩, ⟨_, _, k, ⟨k, k, k, k⟩, k⟩⟩⟩⟩⟩⟩⟩⟩⟩⟩⟩⟩⟩⟩⟩⟩⟩⟩, k⟩⟩ k <| hI k k k <| hI k k k <| hI k k k <| hB (okMt.plainO _) k k k <| hI k k k <| hI k k k <| hI k k k <| hB (okMt.plainO _) k k k <| hB (okRp.plainO _) k k k <| hB (okMt.plainO _) k k k <| hB (okBr.plainO _) k k k <| hI k k k <| hB (okSc.plainO _) k k k <| hX ⟨_, k, k, .inr ⟨_, _, k, ⟨_, _, k, k, ⟨_, _, k, k, ⟨_, _, k, k, ⟨_, _, k, ⟨k, k, (by simp only [len_map, lA, lT, lR, lC, lN, of_decide_eq_true q23]), k⟩, ⟨_, _, k, ⟨k, k, (by simp only [len_map, lA, lT, lR, lC, lN, of_decide_eq_true q24]), k⟩, ⟨_, _, k, ⟨k, k, (by simp only [len_map, lA, lT, lR, lC, lN, of_decide_eq_true q25]), k⟩, ⟨_, _, k, ⟨k, k, (by simp only [len_map, lA, lT, lR, lC, lN, of_decide_eq_true q26]), k⟩, ⟨_, _, k, k, ⟨_, _, k, k, ⟨_, _, k, ⟨k, k, (by simp only [len_map, lA, lT, lR, lC, lN, of_decide_eq_true q27]), k⟩, ⟨_, _, k, ⟨k, k, (by simp only [len_map, lA, lT, lR, lC, lN, of_decide_eq_true q28]), k⟩, ⟨_, _, k, ⟨k, k, (by simp only [len_map, lA, lT, lR, lC, lN, of_decide_eq_true q29]), k⟩, ⟨_, _, k, ⟨k, k, (by simp only [len_map, lA, lT, lR, lC, lN, of_decide_eq_true q30]), k⟩, ⟨_, _, k, ⟨k, k, (by simp only [len_map, lA, lT, lR, lC, lN, of_decide_eq_true q31]), k⟩, ⟨_, _, k, ⟨k, k, (by simp only [len_map, lA, lT, lR, lC, lN, of_decide_eq_true q32]), k⟩, ⟨_, _, k, ⟨k, k, (by simp only [len_map, lA, lT, lR, lC, lN, of_decide_eq_true q33]), k⟩, ⟨_, _, k, ⟨k, k, (by simp only [len_map, lA, lT, lR, lC, lN, of_decide_eq_true q34]), k⟩, ⟨_, _, k, ⟨k, k, (by simp only [len_map, lA, lT, lR, lC, lN, of_decide_eq_true q35]), k⟩, k⟩⟩⟩⟩⟩⟩⟩⟩⟩⟩⟩⟩⟩⟩⟩⟩⟩⟩, k⟩⟩ k <| hI k k k <| hI k k k <| hI k k k <| hB (okMt.plainO _) k k k <| hI k k k <| hI k k k <| hI k k k <| hB (okMt.plainO _) k k k <| hB (okRp.plainO _) k k k <| hB (okMt.plainO _) k k k <| hB (okBr.plainO _) k k k <| hI k k k <| hB (okSc.plainO _) k k k <| hX ⟨_, k, k, .inr ⟨_, _, k, ⟨_, _, k, k, ⟨_, _, k, k, ⟨_, _, k, k, ⟨_, _, k, ⟨k, k, k, k⟩, ⟨_, _, k, ⟨k, k, k, k⟩, ⟨_, _, k, ⟨k, k, k, k⟩, ⟨_, _, k, ⟨k, k, k, k⟩, ⟨_, _, k, k, ⟨_, _, k, k, ⟨_, _, k, ⟨k, k, k, k⟩, ⟨_, _, k, ⟨k, k, k, k⟩, ⟨_, _, k, ⟨k, k, k, k⟩, ⟨_, _, k, ⟨k, k, k, k⟩, ⟨_, _, k, ⟨k, k, k, k⟩, ⟨_, _, k, ⟨k, k, k, k⟩, ⟨_, _, k, ⟨k, k, k, k⟩, ⟨_, _, k, ⟨k, k, k, k⟩, ⟨_, _, k, ⟨k, k, k, k⟩, k⟩⟩⟩⟩⟩⟩⟩⟩⟩⟩⟩⟩⟩⟩⟩⟩⟩⟩, k⟩⟩ k <| trivial) k) ?_
          refine sQ <| sQ <| rgS <| se (w_load_ptr TT_ok k k k k k k k) k <| se (w_load_ptr TT_ok k k k k k k k) k ?_
          obtain ⟨v41, hv41, h⟩ := ob h
          refine se (w_call0sK (c_laws_eqClaim v40.1 v4.1 v41 hv41) k (vk_cons (.inl (va_agg' (v1_cons (v1_same k) (v1_cons (v1_same k) (v1_cons (v1_same k) (v1_cons (v1_T okI k k) (v1_cons (v1_T okI k k) (v1_cons (v1_T okI k k) (v1_cons (v1_T okMt k k) (v1_cons (v1_same k) (v1_cons (v1_same k) (v1_cons (v1_T okI k k) (v1_cons (v1_T okI k k) (v1_cons (v1_T okI k k) (v1_cons (v1_T okMt k k) (v1_cons (v1_T okRp k k) (v1_cons (v1_T okMt k k) (v1_cons (v1_T okBr k k) (v1_cons (v1_T okI k k) (v1_cons (v1_T okSc k k) v1_nil)))))))))))))))))))) (vk_cons (.inl (va_agg' (v1_cons (v1_same k) (v1_cons (v1_same k) (v1_cons (v1_same k) (v1_cons (v1_T okI k k) (v1_cons (v1_T okI k k) (v1_cons (v1_T okI k k) (v1_cons (v1_T okMt k k) (v1_cons (v1_same k) (v1_cons (v1_same k) (v1_cons (v1_T okI k k) (v1_cons (v1_T okI k k) (v1_cons (v1_T okI k k) (v1_cons (v1_T okMt k k) (v1_cons (v1_T okRp k k) (v1_cons (v1_T okMt k k) (v1_cons (v1_T okBr k k) (v1_cons (v1_T okI k k) (v1_cons (v1_T okSc k k) v1_nil)))))))))))))))))))) vk_nil))) k <| se (w_not k) k <| se (eff_move k) k ?_
          rcases cb h with ⟨q42, h⟩ | ⟨q42, h⟩
          ·refine sops_lit 83 k q42 <| sops_skip k k <| sops_skip k k <| sops_skip k k <| se (eff_pick k k) k <| sn <| tn <| ac_condT k k <| sQ <| rgS ?_
           refine se (eff_assign k) k <| sn <| tn <| ac_ret <| then_ret ?_
           obtain rfl := so h
           exact ret_mk k k k (fz_bl k)
          ·refine sops_lit 83 k q42 <| se (eff_move k) k <| se (eff_move k) k <| se (w_neqB (by kernel_rfl) k k) k <| se (eff_pick k k) k <| sn <| tn ?_
           rcases cb h with ⟨q43, h⟩ | ⟨q43, h⟩
           ·refine ac_condT k q43 <| sQ <| rgS <| se (eff_assign k) k <| sn <| tn <| ac_ret <| then_ret ?_
            obtain rfl := so h
            exact ret_mk k k k (fz_bl k)
           ·refine ac_condF k q43 <| ac_skip <| tn <| sQ <| rgS <| se (eff_assign k) k <| sn <| tn <| sQ <| rgS ?_
            refine se (w_load_ptr TT_ok k k k k k k k) k <| se (eff_move k) k ?_
            obtain ⟨v44, hv44, h⟩ := ob h
            refine se (w_call0sK (c_laws_heldClaim (⟨v6.1.kind, (⟨v6.1.rep.p, (⟨v6.1.rep.q.n, v22.1, v22.2.1⟩ : Qv), v22.2.2.1, v22.2.2.2.1⟩ : Rp), (⟨v6.1.other.p, (⟨v6.1.other.q.n, v22.2.2.2.2.1, v22.2.2.2.2.2.1⟩ : Qv), v22.2.2.2.2.2.2.1, v22.2.2.2.2.2.2.2.1⟩ : Rp), v22.2.2.2.2.2.2.2.2.1, v22.2.2.2.2.2.2.2.2.2.1, v22.2.2.2.2.2.2.2.2.2.2.1, v22.2.2.2.2.2.2.2.2.2.2.2.1, v22.2.2.2.2.2.2.2.2.2.2.2.2.1⟩ : Cl) 1 v44 hv44) k (vk_cons (.inl (va_agg' (v1_cons (v1_same k) (v1_cons (v1_same k) (v1_cons (v1_same k) (v1_cons (v1_T okI k (by first | rfl | simp only [List.length_set, of_decide_eq_true q23])) (v1_cons (v1_T okI k (by first | rfl | simp only [List.length_set, of_decide_eq_true q24])) (v1_cons (v1_T okI k (by first | rfl | simp only [List.length_set, of_decide_eq_true q25])) (v1_cons (v1_T okMt k (by first | rfl | simp only [List.length_set, of_decide_eq_true q26])) (v1_cons (v1_same k) (v1_cons (v1_same k) (v1_cons (v1_T okI k (by first | rfl | simp only [List.length_set, of_decide_eq_true q27])) (v1_cons (v1_T okI k (by first | rfl | simp only [List.length_set, of_decide_eq_true q28])) (v1_cons (v1_T okI k (by first | rfl | simp only [List.length_set, of_decide_eq_true q29])) (v1_cons (v1_T okMt k (by first | rfl | simp only [List.length_set, of_decide_eq_true q30])) (v1_cons (v1_T okRp k (by first | rfl | simp only [List.length_set, of_decide_eq_true q31])) (v1_cons (v1_T okMt k (by first | rfl | simp only [List.length_set, of_decide_eq_true q32])) (v1_cons (v1_T okBr k (by first | rfl | simp only [List.length_set, of_decide_eq_true q33])) (v1_cons (v1_T okI k (by first | rfl | simp only [List.length_set, of_decide_eq_true q34])) (v1_cons (v1_T okSc k (by first | rfl | simp only [List.length_set, of_decide_eq_true q35])) v1_nil)))))))))))))))))))) (vk_cons (.inl (va_same k)) vk_nil))) k ?_
            refine se (eff_assign k) k <| sn <| tn <| ac_ent (t := mkS [(10, .int v22.2.2.2.2.2.2.2.2.2.2.2.2.2), (11, .int v44)] [] 60 [60, 61] ⟨0, true, fxW W, true⟩) (ent_mk (σ := sg []) ⟨(e1 k k), (e1 k k), trivial⟩ trivial k) <| sQ <| sQ <| rgS <| se (eff_move k) k <| se (w_cmp k k k) k <| sn ?_
            refine tn ?_
            rcases cb h with ⟨q45, h⟩ | ⟨q45, h⟩
            ·refine ac_condT k q45 <| sQ <| rgS <| se (eff_assign k) k <| sn <| tn <| ac_ret <| then_ret ?_
             obtain rfl := so h
             exact ret_mk k k k (fz_bl k)
            ·refine ac_condF k q45 <| ac_skip <| tn <| sQ <| sQ <| rgS <| se (eff_move k) k <| se (eff_move k) k <| se (w_cmp k k k) k <| sn ?_
             refine tn ?_
             rcases cb h with ⟨q46, h⟩ | ⟨q46, h⟩
             ·refine ac_condT k q46 <| sQ <| rgS <| se (eff_assign k) k <| sn <| tn <| ac_ret <| then_ret ?_
              obtain rfl := so h
              exact ret_mk k k k (fz_bl k)
             ·refine ac_condF k q46 <| ac_skip <| tn <| sQ <| rgS <| se (eff_assign k) k <| sn <| tn <| ac_ret ?_
              obtain rfl := so h
              exact ret_mk k k k (fz_bl k)

end Go.Proofs.Ytdhjmmnjapkmkaa
end

section
set_option linter.unusedVariables false
set_option linter.unusedSimpArgs false

namespace Go.Proofs.Ytdhjmmnjapkmkaa
open Go.RowKit
set_option linter.unusedVariables false
set_option linter.unusedSimpArgs false
theorem n_l6CopyB {q : Qv} (h : bQ q) : m_spec_l6Copy q = some q := by
 obtain ⟨h1, h2, _⟩ := h
 unfold bI at h1 h2
 unfold m_spec_l6Copy
 rw [decide_eq_true (by simp; omega), cond_true, decide_eq_true (by simp; omega), cond_true]
 simp
theorem n_implCloneB {r : Rp} (h : bR r) : m_impl_Rep_clone r = some r := by
 obtain ⟨⟨h1, h2, _⟩, h3, ⟨h4, h5⟩, _⟩ := h
 unfold bI at h1 h2 h3
 have hc : m_impl_copyMatrices r.maps = some r.maps := by
  unfold m_impl_copyMatrices
  rw [Lp_go (s := (([] : List Mt), (0 : Int))) (r := r.maps) (fun k => (r.maps.take k, (k : Int))) r.maps.length rfl (fun k hk => ?_) (fun _ => ?_), Option.bind_some]
  ·have := (h5 _ (List.getElem_mem hk)).1
   unfold bI at this
   unfold m_impl_copyMatrices_L1
   simp only
   rw [dlt hk, cond_true, atL_nat hk, Option.bind_some]
   unfold m_impl_Matrix_clone m_Clone
   rw [decide_eq_true this, cond_true, Option.bind_some, Option.bind_some, decide_eq_true (by simp; omega), cond_true, wr_suc hk (by omega), List.take_succ_eq_append_getElem hk]
  ·unfold m_impl_copyMatrices_L1
   simp only
   rw [dnl (Nat.le_refl _), cond_false, List.take_length]
 unfold m_impl_Rep_clone m_impl_Quiver_clone m_Clone
 rw [decide_eq_true h1, decide_eq_true h2, decide_eq_true h3, hc]
 rfl
theorem n_l8CopyB {r : Rp} (h : bR r) : m_spec_l8Copy r = some r := by
 obtain ⟨hq, h3, ⟨h4, h5⟩, _⟩ := h
 unfold bI at h3
 unfold m_spec_l8Copy
 rw [n_l6CopyB hq, Option.bind_some, decide_eq_true (by simp; omega), cond_true]
 rw [Lp_go (s := (([] : List Mt), (0 : Int))) (r := r.maps) (fun k => (r.maps.take k, (k : Int))) r.maps.length rfl (fun k hk => ?_) (fun _ => ?_), Option.bind_some, List.nil_append]
 ·have := (h5 _ (List.getElem_mem hk)).1
  unfold bI at this
  unfold m_spec_l8Copy_L1
  simp only
  rw [dlt hk, cond_true, atL_nat hk, Option.bind_some]
  unfold m_spec_l3Copy
  rw [decide_eq_true (by simp; omega), cond_true, Option.bind_some, decide_eq_true (by simp; omega), cond_true, wr_suc hk (by omega), List.take_succ_eq_append_getElem hk, List.nil_append]
 ·unfold m_spec_l8Copy_L1
  simp only
  rw [dnl (Nat.le_refl _), cond_false, List.take_length]
def noClB : Cl := ⟨0, ⟨0, ⟨0, [], []⟩, [], []⟩, ⟨0, ⟨0, [], []⟩, [], []⟩, [], [], [], [], []⟩
def clB (r : Rp) : Cl × Bool := bif (barsV r).2 then (⟨5, r, ⟨0, ⟨0, [], []⟩, [], []⟩, [], [], (barsV r).1, [], []⟩, true) else (noClB, false)
theorem n_implClB {r : Rp} (h : bR r) : m_impl_ClaimOfBars r = some (clB r) := by
 unfold m_impl_ClaimOfBars clB
 rw [n_implBars h, Option.bind_some]
 cases (barsV r).2 with
 | false => rfl
 | true =>
  rw [Bool.not_true, cond_false, n_implCloneB h, Option.bind_some]
  rfl
theorem n_specClB {r : Rp} (h : bR r) : m_spec_ClaimOfBars r = some (clB r) := by
 unfold m_spec_ClaimOfBars clB
 rw [n_specBars h (bars_nn r), Option.bind_some]
 cases (barsV r).2 with
 | false => rfl
 | true =>
  rw [Bool.not_true, cond_false, n_l8CopyB h, Option.bind_some]
  rfl
def nBe (b : Br) : Nat := 3
def mvBe (k : Int) (b : Br) : Br := ⟨k, k + 1, k + 2⟩
def nBs : List Br → Nat := nvS nBe
def mvBs : Int → List Br → List Br := mvS mvBe nBe
theorem mvBs_len (k : Int) (l : List Br) : (mvBs k l).length = l.length := mvS_len l k
theorem mm_Bs {l : List Br} {k : Int} (h0 : 0 ≤ k) (hk : k + nBs l ≤ 4611686018427387904) (hl : l.length ≤ 4611686018427387904) : m_laws_markBarS l k = some (mvBs k l, k + nBs l) := by
 unfold m_laws_markBarS
 rw [mark_loop (mv := mvBe) (nv := nBe) h0 hk hl (fun r i k hi hm g0 g1 => ?_) (fun r k => ?_), Option.bind_some]
 ·rfl
 ·unfold nBe at g1
  unfold m_laws_markBarS_L1
  simp only
  rw [dlt hi, cond_true, atL_nat hi, Option.bind_some, wr_sm (x := k + 1) (by omega), wr_sm (x := k + 1 + 1) (by omega), wr_sm (x := k + 1 + 1 + 1) (by omega), show k + 1 + 1 = k + 2 by omega]
  unfold mvBe nBe
  congr 4
  omega
 ·unfold m_laws_markBarS_L1
  simp only
  rw [dnl (Nat.le_refl _), cond_false]
theorem mh_Bs {l : List Br} {k : Int} (h0 : 0 ≤ k) (hk : k + nBs l ≤ 4611686018427387904) (hl : l.length ≤ 4611686018427387904) : m_laws_heldBarS (mvBs k l) k = some (k + nBs l) := by
 have hm : (mvBs k l).length = l.length := mvS_len l k
 unfold m_laws_heldBarS
 rw [held_loop (l := l) (nv := nBe) h0 hk hl (fun i hi k' e g0 g1 => ?_) (fun k' => ?_), Option.bind_some]
 ·rfl
 ·unfold nBe at g1
  have hg : (mvBs k l)[i]'(by omega) = mvBe k' l[i] := get_of (v := mvBe k' l[i]) (by unfold mvBs; rw [mvS_get hi, e]) (by omega)
  have hat : atL (mvBs k l) (i : Int) = some (mvBe k' l[i]) := by rw [atL_nat (by omega), hg]
  unfold m_laws_heldBarS_L1
  simp only
  rw [hm, dlt hi, cond_true, hat]
  simp only [Option.bind_some, mvBe, decide_true, Bool.not_true, cond_false, wr_sm (x := k' + 1) (by omega)]
  rw [wr_sm (x := k' + 1 + 1) (by omega), show k' + 1 + 1 = k' + 2 by omega, decide_eq_true rfl, Bool.not_true, cond_false, wr_sm (x := k' + 2 + 1) (by omega)]
  unfold nBe
  congr 3
  omega
 ·unfold m_laws_heldBarS_L1
  simp only
  rw [hm, dnl (Nat.le_refl _), cond_false]
theorem me_Bs {l : List Br} (hl : l.length ≤ 1048576) : m_laws_eqBarS l l = some true := by
 unfold m_laws_eqBarS
 rw [decide_eq_true rfl, Bool.not_true, cond_false, Lp_all (n := l.length) (fun _ => true) false (by omega) (fun i hi => ?_) (fun _ => ?_), Option.bind_some]
 ·rw [List.all_eq_true.2 fun _ _ => rfl]
  rfl
 ·unfold m_laws_eqBarS_L1
  rw [dlt hi, cond_true, atL_nat hi, Option.bind_some, Option.bind_some]
  unfold m_laws_eqBar
  simp only [decide_true, Bool.not_true, cond_false, Option.bind_some, cond_true]
 ·unfold m_laws_eqBarS_L1
  rw [dnl (Nat.le_refl _), cond_false]
end Go.Proofs.Ytdhjmmnjapkmkaa
end

section
set_option linter.unusedVariables false
set_option linter.unusedSimpArgs false

namespace Go.Proofs.Ytdhjmmnjapkmkaa
open Go.RowKit
set_option linter.unusedVariables false
set_option linter.unusedSimpArgs false
structure Cl4 (c : Cl) : Prop where
 rep : bR c.rep
 other : bR c.other
 parts : c.parts = []
 maps : c.maps.length ≤ 1048576 ∧ ∀ m ∈ c.maps, bM m
 bars : c.bars.length ≤ 100000
 theta : c.theta = []
 subs : c.subs = []
theorem nBs_bd (l : List Br) : nBs l ≤ 3 * l.length := nvS_le (nv := nBe) (c := 3) fun _ _ => Nat.le_refl 3
theorem eqRs_nil : m_laws_eqRepS [] [] = some true := by
 unfold m_laws_eqRepS
 rw [decide_eq_true rfl, Bool.not_true, cond_false, Lp_stop (r := .inl ()) (by unfold m_laws_eqRepS_L1; rfl)]
 rfl
theorem eqIs_nil : m_laws_eqIntS [] [] = some true := by
 unfold m_laws_eqIntS
 rw [decide_eq_true rfl, Bool.not_true, cond_false, Lp_stop (r := .inl ()) (by unfold m_laws_eqIntS_L1; rfl)]
 rfl
theorem eqSs_nil : m_laws_eqSpaceS [] [] = some true := by
 unfold m_laws_eqSpaceS
 rw [decide_eq_true rfl, Bool.not_true, cond_false, Lp_stop (r := .inl ()) (by unfold m_laws_eqSpaceS_L1; rfl)]
 rfl
theorem me_Cl {c : Cl} (h : Cl4 c) : m_laws_eqClaim c c = some true := by
 unfold m_laws_eqClaim
 rw [decide_eq_true rfl, Bool.not_true, cond_false, me_R h.rep, Option.bind_some, decide_eq_true rfl, Bool.not_true, cond_false, me_R h.other, Option.bind_some, decide_eq_true rfl, Bool.not_true, cond_false, h.parts, h.theta, h.subs, eqRs_nil, Option.bind_some, Bool.not_true, cond_false, me_Ms h.maps, Option.bind_some, decide_eq_true rfl, Bool.not_true, cond_false, me_Bs (by have := h.bars; omega), Option.bind_some, Bool.not_true, cond_false, eqIs_nil, Option.bind_some, Bool.not_true, cond_false, eqSs_nil, Option.bind_some, Bool.not_true, cond_false]
theorem mkRs_nil (k : Int) : m_laws_markRepS [] k = some ([], k) := by
 unfold m_laws_markRepS
 rw [Lp_stop (r := ([], k)) (by unfold m_laws_markRepS_L1; rfl)]
 rfl
theorem mkIs_nil (k : Int) : m_laws_markIntS [] k = some ([], k) := by
 unfold m_laws_markIntS
 rw [Lp_stop (r := ([], k)) (by unfold m_laws_markIntS_L1; rfl)]
 rfl
theorem mkSs_nil (k : Int) : m_laws_markSpaceS [] k = some ([], k) := by
 unfold m_laws_markSpaceS
 rw [Lp_stop (r := ([], k)) (by unfold m_laws_markSpaceS_L1; rfl)]
 rfl
theorem hdRs_nil (k : Int) : m_laws_heldRepS [] k = some k := by
 unfold m_laws_heldRepS
 rw [Lp_stop (r := .inl k) (by unfold m_laws_heldRepS_L1; rfl)]
 rfl
theorem hdIs_nil (k : Int) : m_laws_heldIntS [] k = some k := by
 unfold m_laws_heldIntS
 rw [Lp_stop (r := .inl k) (by unfold m_laws_heldIntS_L1; rfl)]
 rfl
theorem hdSs_nil (k : Int) : m_laws_heldSpaceS [] k = some k := by
 unfold m_laws_heldSpaceS
 rw [Lp_stop (r := .inl k) (by unfold m_laws_heldSpaceS_L1; rfl)]
 rfl
def kC (c : Cl) : Int := 1 + nR c.rep + nR c.other + nMs c.maps + nBs c.bars
def mvC (c : Cl) : Cl := ⟨c.kind, mvR 1 c.rep, mvR (1 + nR c.rep) c.other, [], mvMs (1 + nR c.rep + nR c.other) c.maps, mvBs (1 + nR c.rep + nR c.other + nMs c.maps) c.bars, [], []⟩
theorem mm_Cl {c : Cl} (h : Cl4 c) : m_laws_markClaim c 1 = some ((mvC c).rep.q.src, (mvC c).rep.q.tgt, (mvC c).rep.dims, (mvC c).rep.maps, (mvC c).other.q.src, (mvC c).other.q.tgt, (mvC c).other.dims, (mvC c).other.maps, [], (mvC c).maps, (mvC c).bars, [], [], kC c) := by
 have b1 := nR_bd h.rep
 have b2 := nR_bd h.other
 have b3 := nMs_bd h.maps
 have l1 := h.rep.2.2.1.1
 have b4 := nBs_bd c.bars
 have l4 := h.bars
 have l2 := h.other.2.2.1.1
 obtain ⟨g1, g2, g3, g4⟩ := mvR_len 1 c.rep
 obtain ⟨k1, k2, k3, k4⟩ := mvR_len (1 + nR c.rep) c.other
 unfold m_laws_markClaim
 rw [mm_R (by omega) (by omega) (by omega), Option.bind_some]
 simp only [g1, g2, g3, g4, decide_true, cond_true]
 rw [mm_R (by omega) (by omega) (by omega), Option.bind_some]
 simp only [k1, k2, k3, k4, decide_true, cond_true]
 rw [h.parts, h.theta, h.subs, mkRs_nil, Option.bind_some]
 simp only [decide_true, cond_true]
 rw [mm_Ms (by omega) (by omega) (by have := h.maps.1; omega), Option.bind_some]
 simp only [mvMs_len, decide_true, cond_true]
 rw [mm_Bs (by omega) (by omega) (by omega), Option.bind_some]
 simp only [mvBs_len, decide_true, cond_true]
 rw [mkIs_nil, Option.bind_some]
 simp only [decide_true, cond_true]
 rw [mkSs_nil, Option.bind_some]
 simp only [decide_true, cond_true]
 rfl
theorem mh_Cl {c : Cl} (h : Cl4 c) : m_laws_heldClaim (mvC c) 1 = some (kC c) := by
 have b1 := nR_bd h.rep
 have b2 := nR_bd h.other
 have b3 := nMs_bd h.maps
 have l1 := h.rep.2.2.1.1
 have b4 := nBs_bd c.bars
 have l4 := h.bars
 have l2 := h.other.2.2.1.1
 have l3 := h.maps.1
 unfold m_laws_heldClaim mvC
 simp only
 rw [mh_R (by omega) (by omega) (by omega), Option.bind_some, decide_eq_false (by omega), cond_false, mh_R (by omega) (by omega) (by omega), Option.bind_some, decide_eq_false (by omega), cond_false, hdRs_nil, Option.bind_some, decide_eq_false (by omega), cond_false, mh_Ms (by omega) (by omega) (by omega), Option.bind_some, decide_eq_false (by omega), cond_false, mh_Bs (by omega) (by omega) (by omega), Option.bind_some, decide_eq_false (by omega), cond_false, hdIs_nil, Option.bind_some, decide_eq_false (by omega), cond_false, hdSs_nil, Option.bind_some, decide_eq_false (by omega), cond_false]
 rfl
theorem noRB : bR ⟨0, ⟨0, [], []⟩, [], []⟩ := ⟨⟨by simp [bI], by simp [bI], trivial⟩, by simp [bI], ⟨by simp, by simp⟩, trivial⟩
theorem clB_ok {r : Rp} (h : bR r) : Cl4 (clB r).1 := by
 unfold clB
 cases hv : (barsV r).2 with
 | false => exact ⟨noRB, noRB, rfl, ⟨by simp [noClB], by simp [noClB]⟩, by simp [noClB], rfl, rfl⟩
 | true =>
  refine ⟨h, noRB, rfl, ⟨by simp, by simp⟩, ?_, rfl, rfl⟩
  show (barsV r).1.length ≤ 100000
  unfold barsV
  cases hc : repV r && lineV r.q with
  | false => simp
  | true =>
   rw [Bool.and_eq_true] at hc
   have n5 := (ln_of hc.1 hc.2).n5
   have := barsR_len (r := r) (by omega) r.dims.length
   show (barsR r r.dims.length).length ≤ 100000
   omega
theorem plain_ClaimOfBars {a : Rp} (fa : fR a) : m_laws_FnExactClaimOfBars a = some true := by
 unfold m_laws_FnExactClaimOfBars
 rw [mz_R fa (by decide) (by decide), Option.bind_some]
 rcases falls_R a 1048576 (by decide) (by decide) with e | ⟨e1, e2, ha⟩
 ·rw [e]; rfl
 ·rw [decide_eq_false (by omega), cond_false]
  have hC := clB_ok ha
  have n1 := nR_bd ha
  have l1 := ha.2.2.1.1
  obtain ⟨g1, g2, g3, g4⟩ := mvR_len 1 a
  simp only [mt_R ha, Option.bind_some, n_specClB ha, n_implClB ha, me_Cl hC, Bool.not_true, cond_false, beq_self_eq_true, me_R ha, decide_true]
  generalize hc : (clB a).1 = c at *
  rw [mm_R (by omega) (by omega) (by omega), Option.bind_some]
  simp only [g1, g2, g3, g4, decide_true, cond_true]
  rw [decide_eq_false (by omega), cond_false, mm_Cl hC, Option.bind_some]
  obtain ⟨p1, p2, p3, p4⟩ := mvR_len 1 c.rep
  obtain ⟨q1, q2, q3, q4⟩ := mvR_len (1 + nR c.rep) c.other
  have hk : decide (kC c < 0) = false := decide_eq_false (by unfold kC; omega)
  have hh := mh_Cl hC
  unfold mvC at hh ⊢
  simp only at hh ⊢
  simp only [p1, p2, p3, p4, q1, q2, q3, q4, hC.parts, hC.theta, hC.subs, mvMs_len, mvBs_len, decide_true, cond_true, List.length_nil]
  have e0 : (⟨c.kind, ⟨c.rep.p, ⟨c.rep.q.n, (mvR 1 c.rep).q.src, (mvR 1 c.rep).q.tgt⟩, (mvR 1 c.rep).dims, (mvR 1 c.rep).maps⟩, ⟨c.other.p, ⟨c.other.q.n, (mvR (1 + nR c.rep) c.other).q.src, (mvR (1 + nR c.rep) c.other).q.tgt⟩, (mvR (1 + nR c.rep) c.other).dims, (mvR (1 + nR c.rep) c.other).maps⟩, [], mvMs (1 + nR c.rep + nR c.other) c.maps, mvBs (1 + nR c.rep + nR c.other + nMs c.maps) c.bars, [], []⟩ : Cl) = ⟨c.kind, mvR 1 c.rep, mvR (1 + nR c.rep) c.other, [], mvMs (1 + nR c.rep + nR c.other) c.maps, mvBs (1 + nR c.rep + nR c.other + nMs c.maps) c.bars, [], []⟩ := rfl
  simp only [e0, hh, Option.bind_some, hk, cond_false, decide_true, Bool.not_true]
end Go.Proofs.Ytdhjmmnjapkmkaa
end

/-
  Several texts of the claim in one: each begins with its own remark.
-/
import Derived.Shelf.Strings.OnBuilder
import Derived.Test.YtinllccaphhmcaaH15
section
set_option linter.unusedVariables false
set_option linter.unusedSimpArgs false

namespace Go.Proofs.Ytinllccaphhmcaa
open Go.Shelf
def jn_lays156_ren : Go.Shelf.Ren := ⟨fun | 156 => 35 | 165 => 54 | 166 => 55 | 169 => 56 | 240 => 67 | 241 => 68 | 276 => 78 | 277 => 79 | n => n, fun | 31 => 51 | 9 => 9 | 3 => 3 | 4 => 4 | 0 => 0 | 20 => 20 | 72 => 66 | 76 => 70 | 70 => 63 | 37 => 64 | 75 => 69 | 127 => 78 | 164 => 89 | 5 => 5 | 80 => 72 | n => n, fun | n => n⟩
theorem jn_lays156 : Go.Proofs.Lays.n156 Try.prog jn_lays156_ren := {
 mixed := by kernel_rfl
 f156 := Try.func35.trans (congrArg some (by kernel_rfl))
 f165 := Try.func54.trans (congrArg some (by kernel_rfl))
 f166 := Try.func55.trans (congrArg some (by kernel_rfl))
 f169 := Try.func56.trans (congrArg some (by kernel_rfl))
 f240 := Try.func67.trans (congrArg some (by kernel_rfl))
 f241 := Try.func68.trans (congrArg some (by kernel_rfl))
 f276 := Try.func78.trans (congrArg some (by kernel_rfl))
 f277 := Try.func79.trans (congrArg some (by kernel_rfl))
 t0 := Try.underlying0
 a0 := Try.isAgg0
 z0 := Try.sizeOf0
 v0 := Try.zeroValue0
 t3 := Try.underlying3
 a3 := Try.isAgg3
 z3 := Try.sizeOf3
 v3 := Try.zeroValue3
 t4 := Try.underlying4
 a4 := Try.isAgg4
 z4 := Try.sizeOf4
 v4 := Try.zeroValue4
 t9 := Try.underlying9
 a9 := Try.isAgg9
 z9 := Try.sizeOf9
 v9 := Try.zeroValue9
 t20 := Try.underlying20
 a20 := Try.isAgg20
 z20 := Try.sizeOf20
 v20 := Try.zeroValue20
 t31 := Try.underlying51
 a31 := Try.isAgg51
 z31 := Try.sizeOf51
 v31 := Try.zeroValue51
 t37 := Try.underlying64
 a37 := Try.isAgg64
 z37 := Try.sizeOf64
 v37 := Try.zeroValue64
 t70 := Try.underlying63
 a70 := Try.isAgg63
 z70 := Try.sizeOf63
 v70 := Try.zeroValue63
 t72 := Try.underlying66
 a72 := Try.isAgg66
 z72 := Try.sizeOf66
 v72 := Try.zeroValue66
 t75 := Try.underlying69
 a75 := Try.isAgg69
 z75 := Try.sizeOf69
 v75 := Try.zeroValue69
 t76 := Try.underlying70
 a76 := Try.isAgg70
 z76 := Try.sizeOf70
 v76 := Try.zeroValue70
 t127 := Try.underlying78
 a127 := Try.isAgg78
 z127 := Try.sizeOf78
 v127 := Try.zeroValue78
 t164 := Try.underlying89
 a164 := Try.isAgg89
 z164 := Try.sizeOf89
 v164 := Try.zeroValue89 }
theorem jn_Builder_Extra_156 : Builder.Extra Try.prog jn_lays156_ren := {
 sizeBuilder := by kernel_rfl
 liesBuilder := by kernel_rfl
 t5 := Try.underlying5
 a5 := Try.isAgg5
 z5 := Try.sizeOf5
 v5 := Try.zeroValue5
 infoByte := by kernel_rfl
 cellsByte := by kernel_rfl
 sizeByte := by kernel_rfl
 neB5 := by decide }
open Go.RowKit in
theorem jn_strings_Join_none (a : Option Addr) (c : Nat) (sep : ByteArray) (w : World) :
  Calls Try.prog 35 #[.slice a 0 c, .string sep] w fun e w' => e = .returned (.string ⟨#[]⟩) ∧ w' = w := Any.strings_Join_none jn_lays156 jn_Builder_Extra_156 a c sep w
open Go.RowKit in
theorem jn_strings_Join (bk o c : Nat) (xs : List ByteArray) (sep : ByteArray) (w : World) (hcells : ∀ (j : Nat) x, xs[j]? = some x → w.cell? ⟨bk, o + j, none⟩ = some (.string x)) (hbk : bk < w.heap.size) (hN : xs.length ≤ 140737488355328) (hcap : xs.length ≤ c) (hlen : (Lib.join (xs.map (·.data.toList)) sep.data.toList).length ≤ 140737488355328) :
  Calls Try.prog 35 #[.slice (some ⟨bk, o, none⟩) xs.length c, .string sep] w fun e w' => e = .returned (.string ⟨(Lib.join (xs.map (·.data.toList)) sep.data.toList).toArray⟩) ∧ Below w.heap.size w w' := Any.strings_Join jn_lays156 jn_Builder_Extra_156 bk o c xs sep w hcells hbk hN hcap hlen
end Go.Proofs.Ytinllccaphhmcaa
end

section
set_option linter.unusedVariables false
set_option linter.unusedSimpArgs false

namespace Go.Proofs.Ytinllccaphhmcaa
open Go.RowKit
set_option linter.unusedVariables false
def joinB (l : List ByteArray) (sep : ByteArray) : ByteArray := ⟨(Lib.join (l.map (·.data.toList)) sep.data.toList).toArray⟩
def m_Join (l : List ByteArray) (sep : ByteArray) : Option ByteArray := bif decide ((Lib.join (l.map (·.data.toList)) sep.data.toList).length ≤ 140737488355328) && decide (l.length ≤ 140737488355328) then some (joinB l sep) else none
theorem c_Join (l : List ByteArray) (sep : ByteArray) (r : ByteArray) (h : m_Join l sep = some r) : HasC Try.prog 35 [.list 1 (List.map eStr l), .str sep] (.str r) := by
 obtain ⟨hn, h⟩ := cg h
 obtain rfl := so h
 simp only [Bool.and_eq_true, decide_eq_true_eq] at hn
 refine ⟨Enters.mk Try.func35 (by kernel_rfl) (by kernel_rfl), fun w args S hargs => ?_⟩
 obtain ⟨args⟩ := args
 simp only [RepVs] at hargs
 obtain ⟨v, r, S1, S2, h1, rfl, h3, v2, r2, S3, S4, rfl, rfl, h4, rfl, rfl⟩ := hargs
 subst h1
 simp only [RepD] at h3 h4
 obtain ⟨rfl, _, rfl⟩ := h4
 obtain ⟨a, c, rfl, g2, g3, g4⟩ := h3
 rw [List.length_map] at g2 ⊢
 rcases g4 with ⟨he, _⟩ | ⟨b, o, T, rfl, hb, rfl, hes⟩
 ·have hl : l = [] := by simpa using he
  subst hl
  refine (jn_strings_Join_none a c sep w).mono fun e w' ⟨he, hw⟩ => ?_
  subst hw
  exact ⟨_, [], he, Below.refl _ _, ⟨rfl, rfl, rfl⟩, New.nil _⟩
 ·have hc : ∀ (j : Nat) x, l[j]? = some x → w.cell? ⟨b, o + j, none⟩ = some (.string x) := by
   intro j x hj
   obtain ⟨S, hS⟩ := repEs_at hes (j := j) (cs := eStr x) (by rw [List.getElem?_map, hj]; rfl)
   simp only [eStr, RepCs, RepD] at hS
   obtain ⟨v, S1, S2, q1, q2, q3, q4, ⟨q5, _⟩, q6⟩ := hS
   subst q5
   rw [← q1, Nat.mul_one]
  refine (jn_strings_Join b o c l sep w hc hb hn.2 g2 hn.1).mono fun e w' ⟨he, hw⟩ => ?_
  exact ⟨_, [], he, hw, ⟨rfl, rfl, rfl⟩, New.nil _⟩
end Go.Proofs.Ytinllccaphhmcaa
end

section
set_option linter.unusedVariables false
set_option linter.unusedSimpArgs false

namespace Go.Proofs.Ytinllccaphhmcaa
open Go.RowKit
set_option linter.unusedVariables false
set_option linter.unusedSimpArgs false
set_option maxRecDepth 10000
set_option maxHeartbeats 4000000

noncomputable def m_spec_FormatInt_L1  (x1 : (Int × ByteArray)) : Option ((Int × ByteArray) ⊕ ByteArray) :=
  bif !decide (x1.1 = 0) then
    (bif decide (x1.1.tmod 10 < 0) then
      (bif decide ((bstr [IntKind.u8.wrap (wr (48 + (wr (-(x1.1.tmod 10)))))]).size + x1.2.size ≤ 9223372036854775807) then
        (some (.inl (wr (x1.1.tdiv 10), ((bstr [IntKind.u8.wrap (wr (48 + (wr (-(x1.1.tmod 10)))))]) ++ x1.2))))
      else none)
    else
      (bif decide ((bstr [IntKind.u8.wrap (wr (48 + (x1.1.tmod 10)))]).size + x1.2.size ≤ 9223372036854775807) then
        (some (.inl (wr (x1.1.tdiv 10), ((bstr [IntKind.u8.wrap (wr (48 + (x1.1.tmod 10)))]) ++ x1.2))))
      else none))
  else
    (some (.inr x1.2))

noncomputable def m_spec_FormatInt (a0 : Int) : Option ByteArray :=
  bif decide (a0 = 0) then
    (some ((⟨#[48]⟩ : ByteArray)))
  else
    (Option.bind (Lp m_spec_FormatInt_L1 (a0, (⟨#[]⟩ : ByteArray))) fun y6 =>
    bif decide (a0 < 0) then
      (bif decide ((⟨#[45]⟩ : ByteArray).size + y6.size ≤ 9223372036854775807) then
        (some (((⟨#[45]⟩ : ByteArray) ++ y6)))
      else none)
    else
      (some (y6)))

theorem c_spec_FormatInt (a0 : Int) (r : ByteArray) (h : m_spec_FormatInt a0 = some r) : HasC Try.prog 41 [.int a0] (.str r) := by
 refine hasC_mk TT_ok (rvs := [.tmp 2]) (ns := [0, 1, 2]) Try.func41 k k Try.ntmps41 k k k <| sQ <| rg <| aa k k <| an <| tn <| sQ <| sQ <| rg <| am k k ?_
 refine ae (w_cmp k k k) k <| an <| tn ?_
 rcases cb h with ⟨q1, h⟩ | ⟨q1, h⟩
 ·refine ac_condT k q1 <| sQ <| rg <| aa k k <| an <| tn <| ac_ret <| then_ret ?_
  obtain rfl := so h
  exact ret_mk k k k (fz_sc k)
 ·refine ac_condF k q1 <| ac_skip <| tn <| sQ <| rg <| aa k k <| an <| tn <| sQ <| rg ?_
  refine am k k <| ae (w_cmp k k k) k <| aa k k <| an <| tn <| sQ <| ac_block ?_
  obtain ⟨y6, hy6, h⟩ := ob h
  refine ac_Lp (body := m_spec_FormatInt_L1) hy6 (fun (x1 : (Int × ByteArray)) => mkS [(0, .int x1.1), (3, .str x1.2), (4, .bl (decide (a0 < 0)))] [] 0 [0, 1, 2]) (fun r e t => e = .exit 0 ∧ Ent t (mkS [(3, .str r), (4, .bl (decide (a0 < 0)))] [] 0 [0, 1, 2])) (ent_mk (σ := sg []) ⟨(e1 k k), (e1 k k), (e1 k k), trivial⟩ trivial k) ?_ ?_
  ·intro x1 o h
   refine sQ <| sQ <| rg <| am k k <| ae (w_cmp k k k) k <| an <| tn ?_
   rcases cb h with ⟨q2, h⟩ | ⟨q2, h⟩
   ·refine ac_condT k q2 <| ac_skip <| tn <| ac_block <| sQ <| rg <| am k k <| ae (x_rem k k (by decide)) k <| aa k k <| an ?_
    refine tn <| sQ <| sQ <| rg <| am k k <| ae (w_cmp k k k) k <| an <| tn ?_
    rcases cb h with ⟨q3, h⟩ | ⟨q3, h⟩
    ·refine ac_condT k q3 <| rg <| am k k <| ae (x_neg k) k <| aa k k <| an <| tn <| sQ <| rg <| am k k ?_
     refine ae (x_add k k) k <| ae (x_i2u (u0 := .int .i64) (by kernel_rfl) (by kernel_rfl) k) k <| ae (w_lit TT_ok k k k k k k k k k k k k) k <| ae (x_b2s (e := 5) (l := [IntKind.u8.wrap (wr (48 + (wr (-(x1.1.tmod 10)))))]) (by kernel_rfl) (by kernel_rfl) (by kernel_rfl) k (v1_lit k k ⟨_, _, k, ⟨_, _, k, k, k⟩, k⟩)) k <| am k k ?_
     obtain ⟨q4, h⟩ := cg h
     refine ae (x_cat k k q4) k <| aa k k <| an <| tn <| ac_ent (t := mkS [(0, .int x1.1), (3, .str ((bstr [IntKind.u8.wrap (wr (48 + (wr (-(x1.1.tmod 10)))))]) ++ x1.2)), (4, .bl (decide (a0 < 0)))] [] 1 [1, 2]) (ent_mk (σ := sg []) ⟨(e1 k k), (e1 k k), (e1 k k), trivial⟩ trivial k) <| rg <| am k k <| ae (x_quo k k (by decide)) k <| aa k k <| an ?_
     refine block_n <| tn ?_
     obtain rfl := so h
     exact ⟨_, k, (ent_mk (σ := sg []) ⟨(e1 k k), (e1 k k), (e1 k k), trivial⟩ trivial k)⟩
    ·refine ac_condF k q3 <| ac_skip <| tn <| sQ <| rg <| am k k <| ae (x_add k k) k <| ae (x_i2u (u0 := .int .i64) (by kernel_rfl) (by kernel_rfl) k) k <| ae (w_lit TT_ok k k k k k k k k k k k k) k <| ae (x_b2s (e := 5) (l := [IntKind.u8.wrap (wr (48 + (x1.1.tmod 10)))]) (by kernel_rfl) (by kernel_rfl) (by kernel_rfl) k (v1_lit k k ⟨_, _, k, ⟨_, _, k, k, k⟩, k⟩)) k ?_
     refine am k k ?_
     obtain ⟨q5, h⟩ := cg h
     refine ae (x_cat k k q5) k <| aa k k <| an <| tn <| ac_ent (t := mkS [(0, .int x1.1), (3, .str ((bstr [IntKind.u8.wrap (wr (48 + (x1.1.tmod 10)))]) ++ x1.2)), (4, .bl (decide (a0 < 0)))] [] 1 [1, 2]) (ent_mk (σ := sg []) ⟨(e1 k k), (e1 k k), (e1 k k), trivial⟩ trivial k) <| rg <| am k k <| ae (x_quo k k (by decide)) k <| aa k k <| an ?_
     refine block_n <| tn ?_
     obtain rfl := so h
     exact ⟨_, k, (ent_mk (σ := sg []) ⟨(e1 k k), (e1 k k), (e1 k k), trivial⟩ trivial k)⟩
   ·refine ac_condF k q2 <| ac_exit <| then_exit <| then_exit ?_
    obtain rfl := so h
    exact ⟨_, k, k, (ent_mk (σ := sg []) ⟨(e1 k k), (e1 k k), trivial⟩ trivial k)⟩
  ·rintro e t ⟨rfl, hent⟩
   refine block_here <| tn <| ac_ent hent <| sQ <| sQ <| rg <| am k k <| an <| tn ?_
   rcases cb h with ⟨q7, h⟩ | ⟨q7, h⟩
   ·refine ac_condT k q7 <| sQ <| rg <| am k k ?_
    obtain ⟨q8, h⟩ := cg h
    refine ae (x_cat k k q8) k <| aa k k <| an <| tn <| ac_ret <| then_ret ?_
    obtain rfl := so h
    exact ret_mk k k k (fz_sc k)
   ·refine ac_condF k q7 <| ac_skip <| tn <| sQ <| rg <| am k k <| aa k k <| an <| tn <| ac_ret ?_
    obtain rfl := so h
    exact ret_mk k k k (fz_sc k)

noncomputable def m_spec_l33Digits_L1 (a0 : (List Int)) (x1 : (ByteArray × Int)) : Option ((ByteArray × Int) ⊕ ByteArray) :=
  bif decide (x1.2 < (a0.length : Int)) then
    (Option.bind (atL a0 x1.2) fun v2 =>
    Option.bind (m_spec_FormatInt v2) fun v3 =>
    bif decide (x1.1.size + v3.size ≤ 9223372036854775807) then
      (some (.inl ((x1.1 ++ v3), wr (x1.2 + 1))))
    else none)
  else
    (some (.inr x1.1))

noncomputable def m_spec_l33Digits (a0 : (List Int)) : Option ByteArray :=
  Option.bind (Lp (m_spec_l33Digits_L1 a0) ((⟨#[]⟩ : ByteArray), 0)) fun y5 =>
  some (y5)

theorem c_spec_l33Digits (a0 : (List Int)) (r : ByteArray) (h : m_spec_l33Digits a0 = some r) : HasC Try.prog 26 [.list 1 (List.map eI a0)] (.str r) := by
 refine hasC_mk TT_ok (rvs := [.tmp 2]) (ns := [0, 1]) Try.func26 k k Try.ntmps26 k k k <| sQ <| rg <| aa k k <| an <| tn <| sQ <| rg <| aa k k <| an ?_
 refine tn <| sQ <| sQ <| rg <| aa k k <| an <| tn <| ac_block ?_
 obtain ⟨y5, hy5, h⟩ := ob h
 refine ac_Lp (body := (m_spec_l33Digits_L1 a0)) hy5 (fun (x1 : (ByteArray × Int)) => mkS [(0, .list 1 (List.map eI a0)), (3, .str x1.1), (4, .int x1.2)] [] 0 [0, 1]) (fun r e t => e = .exit 0 ∧ Ent t (mkS [(3, .str r)] [] 0 [0, 1])) (ent_mk (σ := sg []) ⟨⟨_, k, ⟨k, k⟩⟩, (e1 k k), (e1 k k), trivial⟩ trivial k) ?_ ?_
 ·intro x1 o h
  refine sQ <| sQ <| rg <| am k k <| am k k <| ae (lenL TT_ok k k k) k <| ae (w_cmp k k k) k <| an <| tn ?_
  rcases cb h with ⟨q1, h⟩ | ⟨q1, h⟩
  ·refine ac_condT k q1 <| ac_skip <| tn <| sQ <| ac_block <| rg <| am k k <| am k k <| am k k ?_
   obtain ⟨v2, hv2, h⟩ := ob h
   refine ae (x_at_list TT_ok hv2 k k k k k k) k <| ae (w_load_ref TT_ok k k k k k k) k ?_
   obtain ⟨v3, hv3, h⟩ := ob h
   refine ae (w_call0s (c_spec_FormatInt v2 v3 hv3) k (va_cons (va_same k) va_nil)) k ?_
   obtain ⟨q4, h⟩ := cg h
   refine ae (x_cat k k q4) k <| aa k k <| an <| block_n <| tn <| ac_ent (t := mkS [(0, .list 1 (List.map eI a0)), (3, .str (x1.1 ++ v3)), (4, .int x1.2)] [] 0 [0, 1]) (ent_mk (σ := sg []) ⟨⟨_, k, ⟨k, k⟩⟩, (e1 k k), (e1 k k), trivial⟩ trivial k) <| rg <| am k k <| ae (x_add k k) k <| aa k k ?_
   refine an <| tn ?_
   obtain rfl := so h
   exact ⟨_, k, (ent_mk (σ := sg []) ⟨⟨_, k, ⟨k, k⟩⟩, (e1 k k), (e1 k k), trivial⟩ trivial k)⟩
  ·refine ac_condF k q1 <| ac_exit <| then_exit <| then_exit ?_
   obtain rfl := so h
   exact ⟨_, k, k, (ent_mk (σ := sg []) ⟨(e1 k k), trivial⟩ trivial k)⟩
 ·rintro e t ⟨rfl, hent⟩
  refine block_here <| tn <| ac_ent hent <| sQ <| rg <| am k k <| aa k k <| an <| tn <| ac_ret ?_
  obtain rfl := so h
  exact ret_mk k k k (fz_sc k)

noncomputable def m_spec_l34Dims_L1 (a0 : (List (List Int))) (x1 : (ByteArray × Int)) : Option ((ByteArray × Int) ⊕ ByteArray) :=
  bif decide (x1.2 < (a0.length : Int)) then
    (bif decide (0 < x1.2) then
      (bif decide (x1.1.size + (⟨#[32]⟩ : ByteArray).size ≤ 9223372036854775807) then
        (Option.bind (atL a0 x1.2) fun v3 =>
        Option.bind (m_spec_l33Digits v3) fun v4 =>
        bif decide ((x1.1 ++ (⟨#[32]⟩ : ByteArray)).size + v4.size ≤ 9223372036854775807) then
          (some (.inl (((x1.1 ++ (⟨#[32]⟩ : ByteArray)) ++ v4), wr (x1.2 + 1))))
        else none)
      else none)
    else
      (Option.bind (atL a0 x1.2) fun v7 =>
      Option.bind (m_spec_l33Digits v7) fun v8 =>
      bif decide (x1.1.size + v8.size ≤ 9223372036854775807) then
        (some (.inl ((x1.1 ++ v8), wr (x1.2 + 1))))
      else none))
  else
    (some (.inr x1.1))

noncomputable def m_spec_l34Dims (a0 : (List (List Int))) : Option ByteArray :=
  Option.bind (Lp (m_spec_l34Dims_L1 a0) ((⟨#[]⟩ : ByteArray), 0)) fun y10 =>
  bif eqS y10 (⟨#[]⟩ : ByteArray) then
    (some ((⟨#[110, 111, 110, 101]⟩ : ByteArray)))
  else
    (some (y10))

theorem c_spec_l34Dims (a0 : (List (List Int))) (r : ByteArray) (h : m_spec_l34Dims a0 = some r) : HasC Try.prog 12 [.list 1 (List.map (eLs 1 eI) a0)] (.str r) := by
 refine hasC_mk TT_ok (rvs := [.tmp 2]) (ns := [0, 1]) Try.func12 k k Try.ntmps12 k k k <| sQ <| rg <| aa k k <| an <| tn <| sQ <| rg <| aa k k <| an ?_
 refine tn <| sQ <| sQ <| rg <| aa k k <| an <| tn <| ac_block ?_
 obtain ⟨y10, hy10, h⟩ := ob h
 refine ac_Lp (body := (m_spec_l34Dims_L1 a0)) hy10 (fun (x1 : (ByteArray × Int)) => mkS [(0, .list 1 (List.map (eLs 1 eI) a0)), (3, .str x1.1), (4, .int x1.2)] [] 0 [0, 1]) (fun r e t => e = .exit 0 ∧ Ent t (mkS [(3, .str r)] [] 0 [0, 1])) (ent_mk (σ := sg []) ⟨⟨_, k, ⟨k, k⟩⟩, (e1 k k), (e1 k k), trivial⟩ trivial k) ?_ ?_
 ·intro x1 o h
  refine sQ <| sQ <| rg <| am k k <| am k k <| ae (lenL TT_ok k k k) k <| ae (w_cmp k k k) k <| an <| tn ?_
  rcases cb h with ⟨q1, h⟩ | ⟨q1, h⟩
  ·refine ac_condT k q1 <| ac_skip <| tn <| sQ <| ac_block <| sQ <| sQ <| rg <| am k k <| ae (w_cmp k k k) k ?_
   refine an <| tn ?_
   rcases cb h with ⟨q2, h⟩ | ⟨q2, h⟩
   ·refine ac_condT k q2 <| rg <| am k k ?_
    obtain ⟨q6, h⟩ := cg h
    refine ae (x_cat k k q6) k <| aa k k <| an <| tn <| rg <| am k k <| am k k <| am k k ?_
    obtain ⟨v3, hv3, h⟩ := ob h
    refine ae (x_at_list TT_ok hv3 k k k k k k) k <| ae (w_load_ref TT_ok k k k k k k) k ?_
    obtain ⟨v4, hv4, h⟩ := ob h
    refine ae (w_call0s (c_spec_l33Digits v3 v4 hv4) k (va_cons (va_same k) va_nil)) k ?_
    obtain ⟨q5, h⟩ := cg h
    refine ae (x_cat k k q5) k <| aa k k <| an <| block_n <| tn <| ac_ent (t := mkS [(0, .list 1 (List.map (eLs 1 eI) a0)), (3, .str ((x1.1 ++ (⟨#[32]⟩ : ByteArray)) ++ v4)), (4, .int x1.2)] [] 0 [0, 1]) (ent_mk (σ := sg []) ⟨⟨_, k, ⟨k, k⟩⟩, (e1 k k), (e1 k k), trivial⟩ trivial k) <| rg <| am k k <| ae (x_add k k) k <| aa k k ?_
    refine an <| tn ?_
    obtain rfl := so h
    exact ⟨_, k, (ent_mk (σ := sg []) ⟨⟨_, k, ⟨k, k⟩⟩, (e1 k k), (e1 k k), trivial⟩ trivial k)⟩
   ·refine ac_condF k q2 <| ac_skip <| tn <| rg <| am k k <| am k k <| am k k ?_
    obtain ⟨v7, hv7, h⟩ := ob h
    refine ae (x_at_list TT_ok hv7 k k k k k k) k <| ae (w_load_ref TT_ok k k k k k k) k ?_
    obtain ⟨v8, hv8, h⟩ := ob h
    refine ae (w_call0s (c_spec_l33Digits v7 v8 hv8) k (va_cons (va_same k) va_nil)) k ?_
    obtain ⟨q9, h⟩ := cg h
    refine ae (x_cat k k q9) k <| aa k k <| an <| block_n <| tn <| ac_ent (t := mkS [(0, .list 1 (List.map (eLs 1 eI) a0)), (3, .str (x1.1 ++ v8)), (4, .int x1.2)] [] 0 [0, 1]) (ent_mk (σ := sg []) ⟨⟨_, k, ⟨k, k⟩⟩, (e1 k k), (e1 k k), trivial⟩ trivial k) <| rg <| am k k <| ae (x_add k k) k <| aa k k ?_
    refine an <| tn ?_
    obtain rfl := so h
    exact ⟨_, k, (ent_mk (σ := sg []) ⟨⟨_, k, ⟨k, k⟩⟩, (e1 k k), (e1 k k), trivial⟩ trivial k)⟩
  ·refine ac_condF k q1 <| ac_exit <| then_exit <| then_exit ?_
   obtain rfl := so h
   exact ⟨_, k, k, (ent_mk (σ := sg []) ⟨(e1 k k), trivial⟩ trivial k)⟩
 ·rintro e t ⟨rfl, hent⟩
  refine block_here <| tn <| ac_ent hent <| sQ <| sQ <| rg <| am k k <| ae (x_eqS k k) k <| an <| tn ?_
  rcases cb h with ⟨q11, h⟩ | ⟨q11, h⟩
  ·refine ac_condT k q11 <| sQ <| rg <| aa k k <| an <| tn <| ac_ret <| then_ret ?_
   obtain rfl := so h
   exact ret_mk k k k (fz_sc k)
  ·refine ac_condF k q11 <| ac_skip <| tn <| sQ <| rg <| am k k <| aa k k <| an <| tn <| ac_ret ?_
   obtain rfl := so h
   exact ret_mk k k k (fz_sc k)

noncomputable def m_spec_KnitLine_L1 (a0 : Qv) (x1 : (ByteArray × Int)) : Option ((ByteArray × Int) ⊕ ByteArray) :=
  bif decide (x1.2 < a0.n) then
    (Option.bind (m_spec_KnitRow a0 x1.2) fun v4 =>
    bif decide (x1.1.size + (⟨#[32, 124, 32]⟩ : ByteArray).size ≤ 9223372036854775807) then
      (Option.bind (m_spec_l34Dims v4.1) fun v5 =>
      bif decide ((x1.1 ++ (⟨#[32, 124, 32]⟩ : ByteArray)).size + v5.size ≤ 9223372036854775807) then
        (some (.inl (((x1.1 ++ (⟨#[32, 124, 32]⟩ : ByteArray)) ++ v5), wr (x1.2 + 1))))
      else none)
    else none)
  else
    (some (.inr x1.1))

noncomputable def m_spec_KnitLine (a0 : Qv) : Option ByteArray :=
  Option.bind (m_spec_KindOfQuiver a0) fun v1 =>
  bif !decide (v1 = 1) then
    (some ((⟨#[]⟩ : ByteArray)))
  else
    (Option.bind (Lp (m_spec_KnitLine_L1 a0) ((⟨#[107, 110, 105, 116]⟩ : ByteArray), 0)) fun y8 =>
    some (y8))

theorem c_spec_KnitLine (a0 : Qv) (r : ByteArray) (h : m_spec_KnitLine a0 = some r) : HasC Try.prog 5 [.agg (eQ a0)] (.str r) := by
 refine hasC_mk TT_ok (rvs := [.tmp 2]) (ns := [0, 1, 2, 3]) Try.func5 k k Try.ntmps5 k k k <| sQ <| rg <| ae (w_box k k k k) k <| aa k k <| an <| tn <| sQ <| sQ <| rg ?_
 refine ae (w_load_ptr TT_ok k k k k k k k) k ?_
 obtain ⟨v1, hv1, h⟩ := ob h
 refine ae (w_call0s (c_spec_KindOfQuiver a0 v1 hv1) k (va_cons (va_agg' (v1_cons (v1_same k) (v1_cons (v1_same k) (v1_cons (v1_same k) v1_nil)))) va_nil)) k <| ae (w_cmp k k k) k <| an <| tn ?_
 rcases cb h with ⟨q2, h⟩ | ⟨q2, h⟩
 ·refine ac_condT k q2 <| sQ <| rg <| aa k k <| an <| tn <| ac_ret <| then_ret ?_
  obtain rfl := so h
  exact ret_mk k k k (fz_sc k)
 ·refine ac_condF k q2 <| ac_skip <| tn <| sQ <| rg <| aa k k <| an <| tn <| sQ <| sQ ?_
  refine rg <| aa k k <| an <| tn <| ac_block ?_
  obtain ⟨y8, hy8, h⟩ := ob h
  refine ac_Lp (body := (m_spec_KnitLine_L1 a0)) hy8 (fun (x1 : (ByteArray × Int)) => mkS [(1, .ptr 0 0 0), (3, .str x1.1), (4, .int x1.2)] [(0, ⟨3, [[.int a0.n, .list 1 (List.map eI a0.src), .list 1 (List.map eI a0.tgt)]]⟩)] 1 [1, 2, 3]) (fun r e t => e = .exit 0 ∧ Ent t (mkS [(3, .str r)] [] 0 [0, 1, 2, 3])) (ent_mk (σ := sg [(0, 0)]) ⟨(pE k k), (e1 k k), (e1 k k), trivial⟩ (hP k k k k <| trivial) k) ?_ ?_
  ·intro x1 o h
   refine sQ <| sQ <| rg <| am k k <| ae (w_field_ptr TT_ok k k k k k k k) k <| ae (w_load_ptr TT_ok k k k k k k k) k <| ae (w_cmp k k k) k <| an <| tn ?_
   rcases cb h with ⟨q3, h⟩ | ⟨q3, h⟩
   ·refine ac_condT k q3 <| ac_skip <| tn <| sQ <| ac_block <| sQ <| rg <| ae (w_load_ptr TT_ok k k k k k k k) k <| am k k ?_
    obtain ⟨v4, hv4, h⟩ := ob h
    refine ae (AEff.conv (w_call0 (x := .tuple [.own 1 0 (List.map (eLs 1 eI) v4.1).length, .bl v4.2]) (nb := [(1, ⟨1, absEs (List.map (eLs 1 eI) v4.1)⟩)]) (c_spec_KnitRow a0 x1.2 v4 hv4) k (by rfl) k k (gB_cons (okLs.good _) (gB_cons trivial gB_nil)) (va_cons (va_agg' (v1_cons (v1_same k) (v1_cons (v1_same k) (v1_cons (v1_same k) v1_nil)))) (va_cons (va_same k) va_nil))) (v' := .tuple [.own 1 0 v4.1.length, .bl v4.2]) (ed' := [(1, some ⟨1, List.map (ow (eLs 1 eI)) v4.1⟩)]) (by simp only [len_map]) (ed_ok (nb' := [(1, ⟨1, List.map (ow (eLs 1 eI)) v4.1⟩)]) (by simp only [abs_map]))) k <| am k k <| ae (eff_extract k k (by intro _ h; cases h)) k <| ae (eff_extract k k (by intro _ h; cases h)) k <| aa k k <| aa k k <| an <| tn <| ac_ent (t := mkS [(1, .ptr 0 0 0), (3, .str x1.1), (4, .int x1.2), (5, .own 1 0 v4.1.length)] [(0, ⟨3, [[.int a0.n, .list 1 (List.map eI a0.src), .list 1 (List.map eI a0.tgt)]]⟩), (1, ⟨1, List.map (ow (eLs 1 eI)) v4.1⟩)] 2 [2, 3]) (ent_mk (σ := sg [(0, 0), (1, 1)]) ⟨(pE k k), (e1 k k), (e1 k k), (oE k k), trivial⟩ (hP k k k k <| hB (okLs.plainO _) k k k <| trivial) k) <| rg ?_
    refine am k k ?_
    obtain ⟨q7, h⟩ := cg h
    refine ae (x_cat k k q7) k <| am k k ?_
    obtain ⟨v5, hv5, h⟩ := ob h
    refine ae (w_call0s (c_spec_l34Dims v4.1 v5 hv5) k (va_cons (va_T okLs k k) va_nil)) k ?_
    obtain ⟨q6, h⟩ := cg h
    refine ae (x_cat k k q6) k <| aa k k <| an <| block_n <| tn <| rg <| am k k <| ae (x_add k k) k <| aa k k <| an ?_
    refine tn ?_
    obtain rfl := so h
    exact ⟨_, k, (ent_mk (σ := sg [(0, 0)]) ⟨(pE k k), (e1 k k), (e1 k k), trivial⟩ (hP k k k k <| trivial) k)⟩
   ·refine ac_condF k q3 <| ac_exit <| then_exit <| then_exit ?_
    obtain rfl := so h
    exact ⟨_, k, k, (ent_mk (σ := sg []) ⟨(e1 k k), trivial⟩ trivial k)⟩
  ·rintro e t ⟨rfl, hent⟩
   refine block_here <| tn <| ac_ent hent <| sQ <| rg <| am k k <| aa k k <| an <| tn <| ac_ret ?_
   obtain rfl := so h
   exact ret_mk k k k (fz_sc k)

noncomputable def m_impl_digits_L1 (a0 : (List Int)) (x1 : ((List Int) × Int)) : Option (((List Int) × Int) ⊕ (List Int)) :=
  bif decide (x1.2 < (a0.length : Int)) then
    (Option.bind (atL a0 x1.2) fun v2 =>
    Option.bind (atL x1.1 x1.2) fun v3 =>
    some (.inl ((x1.1.set x1.2.toNat (IntKind.u8.wrap (wr (48 + (min (max v2 0) 9))))), wr (x1.2 + 1))))
  else
    (some (.inr x1.1))

noncomputable def m_impl_digits (a0 : (List Int)) : Option ByteArray :=
  bif (decide (0 ≤ (a0.length : Int)) && decide ((a0.length : Int) ≤ 1048576)) then
    (Option.bind (Lp (m_impl_digits_L1 a0) ((List.replicate ((a0.length : Int).toNat) (0 : Int)), 0)) fun y4 =>
    some (bstr y4))
  else none

theorem c_impl_digits (a0 : (List Int)) (r : ByteArray) (h : m_impl_digits a0 = some r) : HasC Try.prog 53 [.list 1 (List.map eI a0)] (.str r) := by
 refine hasC_mk TT_ok (rvs := [.tmp 2]) (ns := [0, 1, 2]) Try.func53 k k Try.ntmps53 k k k <| sQ <| rg <| aa k k <| an <| tn <| sQ <| rg <| am k k <| ae (lenL TT_ok k k k) k ?_
 obtain ⟨q5, h⟩ := cg h
 refine ae (x_make TT_ok q5 k k k k k k k k) k <| aa k k <| an <| tn <| ac_ent (t := mkS [(0, .list 1 (List.map eI a0)), (3, .own 0 0 ((List.replicate ((a0.length : Int).toNat) (0 : Int)).length))] [(0, ⟨1, List.map (ow eU) (List.replicate ((a0.length : Int).toNat) (0 : Int))⟩)] 1 [1, 2]) (ent_mk (σ := sg [(0, 0)]) ⟨⟨_, k, ⟨k, k⟩⟩, ⟨_, k, ⟨k, k, (by simp only [len_map, lA, lT, lR, lC, lN]), k⟩⟩, trivial⟩ (hX ⟨_, k, k, .inl ⟨rep_eq (e := eU) (z := 0) _, okU.plainO _⟩⟩ k <| trivial) k) <| sQ <| sQ <| rg <| am k k <| ae (lenL TT_ok k k k) k ?_
 refine am k k <| an <| tn <| ac_block ?_
 obtain ⟨y4, hy4, h⟩ := ob h
 refine ac_Lp (body := (m_impl_digits_L1 a0)) hy4 (fun (x1 : ((List Int) × Int)) => mkS [(3, .own 0 0 x1.1.length), (9, .list 1 (List.map eI a0)), (10, .int (a0.length : Int)), (11, .int x1.2)] [(0, ⟨1, List.map (ow eU) x1.1⟩)] 1 [1, 2]) (fun r e t => e = .exit 0 ∧ Ent t (mkS [(3, .own 0 0 r.length)] [(0, ⟨1, List.map (ow eU) r⟩)] 1 [1, 2])) (ent_mk (σ := sg [(0, 0)]) ⟨(oE k k), ⟨_, k, ⟨k, k⟩⟩, (e1 k k), (e1 k k), trivial⟩ (hB (okU.plainO _) k k k <| trivial) k) ?_ ?_
 ·intro x1 o h
  refine sQ <| rg <| ae (w_cmp k k k) k <| an <| tn <| sQ ?_
  rcases cb h with ⟨q1, h⟩ | ⟨q1, h⟩
  ·refine ac_condT k q1 <| ac_skip <| tn <| sQ <| ac_block <| sQ <| rg <| am k k ?_
   obtain ⟨v2, hv2, h⟩ := ob h
   refine ae (x_at_list TT_ok hv2 k k k k k k) k <| ae (w_load_ref TT_ok k k k k k k) k <| aa k k <| aa k k <| an <| tn <| rg <| am k k <| am k k <| am k k ?_
   refine ae (x_max k k) k <| ae (x_min k k) k <| ae (x_add k k) k <| ae (x_i2u (u0 := .int .i64) (by kernel_rfl) (by kernel_rfl) k) k ?_
   obtain ⟨v3, hv3, h⟩ := ob h
   refine ae (x_at_own TT_ok (atL_nn hv3) (atL_lt hv3) k k k k k k k) k <| ae (x_store TT_ok okUo (u := IntKind.u8.wrap (wr (48 + (min (max v2 0) 9)))) (atL_get hv3) k k k k k k) k <| an <| block_n <| tn <| ac_ent (t := mkS [(3, .own 0 0 ((x1.1.set x1.2.toNat (IntKind.u8.wrap (wr (48 + (min (max v2 0) 9))))).length)), (9, .list 1 (List.map eI a0)), (10, .int (a0.length : Int)), (11, .int x1.2)] [(0, ⟨1, List.map (ow eU) (x1.1.set x1.2.toNat (IntKind.u8.wrap (wr (48 + (min (max v2 0) 9)))))⟩)] 1 [1, 2]) (ent_mk (σ := sg [(0, 0)]) ⟨⟨_, k, ⟨k, k, (by simp only [len_map, lA, lT, lR, lC, lN]), k⟩⟩, ⟨_, k, ⟨k, k⟩⟩, (e1 k k), (e1 k k), trivial⟩ (hB (okU.plainO _) k k k <| trivial) k) <| rg <| ae (x_add k k) k <| am k k <| an ?_
   refine tn ?_
   obtain rfl := so h
   exact ⟨_, k, (ent_mk (σ := sg [(0, 0)]) ⟨(oE k k), ⟨_, k, ⟨k, k⟩⟩, (e1 k k), (e1 k k), trivial⟩ (hB (okU.plainO _) k k k <| trivial) k)⟩
  ·refine ac_condF k q1 <| ac_exit <| then_exit <| then_exit ?_
   obtain rfl := so h
   exact ⟨_, k, k, (ent_mk (σ := sg [(0, 0)]) ⟨(oE k k), trivial⟩ (hB (okU.plainO _) k k k <| trivial) k)⟩
 ·rintro e t ⟨rfl, hent⟩
  refine block_here <| tn <| ac_ent hent <| sQ <| rg <| am k k <| ae (x_b2s (e := 5) (l := y4) (by kernel_rfl) (by kernel_rfl) (by kernel_rfl) k (v1_T okU k k)) k <| aa k k <| an <| tn ?_
  refine ac_ret ?_
  obtain rfl := so h
  exact ret_mk k k k (fz_sc k)

noncomputable def m_impl_digitList (a0 : (List Int)) : Option ByteArray :=
  bif decide ((a0.length : Int) = 0) then
    (some ((⟨#[45]⟩ : ByteArray)))
  else
    (Option.bind (m_impl_digits a0) fun v2 =>
    some (v2))

theorem c_impl_digitList (a0 : (List Int)) (r : ByteArray) (h : m_impl_digitList a0 = some r) : HasC Try.prog 34 [.list 1 (List.map eI a0)] (.str r) := by
 refine hasC_mk TT_ok (rvs := [.tmp 2]) (ns := [0, 1]) Try.func34 k k Try.ntmps34 k k k <| sQ <| rg <| aa k k <| an <| tn <| sQ <| sQ <| rg <| am k k ?_
 refine ae (lenL TT_ok k k k) k <| ae (w_cmp k k k) k <| an <| tn ?_
 rcases cb h with ⟨q1, h⟩ | ⟨q1, h⟩
 ·refine ac_condT k q1 <| sQ <| rg <| aa k k <| an <| tn <| ac_ret <| then_ret ?_
  obtain rfl := so h
  exact ret_mk k k k (fz_sc k)
 ·refine ac_condF k q1 <| ac_skip <| tn <| sQ <| rg <| am k k ?_
  obtain ⟨v2, hv2, h⟩ := ob h
  refine ae (w_call0s (c_impl_digits a0 v2 hv2) k (va_cons (va_same k) va_nil)) k <| aa k k <| an <| tn <| ac_ret ?_
  obtain rfl := so h
  exact ret_mk k k k (fz_sc k)

noncomputable def m_impl_dimsList_L1 (a0 : (List (List Int))) (x1 : ((List ByteArray) × Int)) : Option (((List ByteArray) × Int) ⊕ (List ByteArray)) :=
  bif decide (x1.2 < (a0.length : Int)) then
    (Option.bind (atL a0 x1.2) fun v3 =>
    Option.bind (m_impl_digitList v3) fun v4 =>
    bif decide (x1.1.length + [v4].length ≤ 4294967296) then
      (some (.inl ((x1.1 ++ [v4]), wr (x1.2 + 1))))
    else none)
  else
    (some (.inr x1.1))

noncomputable def m_impl_dimsList (a0 : (List (List Int))) : Option ByteArray :=
  bif decide ((a0.length : Int) = 0) then
    (some ((⟨#[110, 111, 110, 101]⟩ : ByteArray)))
  else
    (Option.bind (Lp (m_impl_dimsList_L1 a0) ([], 0)) fun y6 =>
    Option.bind (m_Join y6 (⟨#[32]⟩ : ByteArray)) fun v7 =>
    some (v7))

theorem c_impl_dimsList (a0 : (List (List Int))) (r : ByteArray) (h : m_impl_dimsList a0 = some r) : HasC Try.prog 16 [.list 1 (List.map (eLs 1 eI) a0)] (.str r) := by
 refine hasC_mk TT_ok (rvs := [.tmp 2]) (ns := [0, 1, 2, 3, 4]) Try.func16 k k Try.ntmps16 k k k <| sQ <| rg <| aa k k <| an <| tn <| sQ <| sQ <| rg <| am k k ?_
 refine ae (lenL TT_ok k k k) k <| ae (w_cmp k k k) k <| an <| tn ?_
 rcases cb h with ⟨q1, h⟩ | ⟨q1, h⟩
 ·refine ac_condT k q1 <| sQ <| rg <| aa k k <| an <| tn <| ac_ret <| then_ret ?_
  obtain rfl := so h
  exact ret_mk k k k (fz_sc k)
 ·refine ac_condF k q1 <| ac_skip <| tn <| sQ <| rg <| aa k k <| an <| tn <| sQ <| sQ ?_
  refine rg <| am k k <| ae (lenL TT_ok k k k) k <| am k k <| an <| tn <| ac_block ?_
  obtain ⟨y6, hy6, h⟩ := ob h
  refine ac_Lp (body := (m_impl_dimsList_L1 a0)) hy6 (fun (x1 : ((List ByteArray) × Int)) => mkS [(3, .own 0 0 x1.1.length), (9, .list 1 (List.map (eLs 1 eI) a0)), (10, .int (a0.length : Int)), (11, .int x1.2)] [(0, ⟨1, List.map (ow eStr) x1.1⟩)] 1 [1, 2, 3, 4]) (fun r e t => e = .exit 0 ∧ Ent t (mkS [(3, .own 0 0 r.length)] [(0, ⟨1, List.map (ow eStr) r⟩)] 1 [1, 2, 3, 4])) (ent_mk (σ := sg []) ⟨⟨_, k, ⟨k, k, k, k⟩⟩, ⟨_, k, ⟨k, k⟩⟩, (e1 k k), (e1 k k), trivial⟩ (hX k k <| trivial) k) ?_ ?_
  ·intro x1 o h
   refine sQ <| rg <| ae (w_cmp k k k) k <| an <| tn <| sQ ?_
   rcases cb h with ⟨q2, h⟩ | ⟨q2, h⟩
   ·refine ac_condT k q2 <| ac_skip <| tn <| sQ <| ac_block <| sQ <| rg ?_
    obtain ⟨v3, hv3, h⟩ := ob h
    refine ae (x_at_list TT_ok hv3 k k k k k k) k <| ae (w_load_ref TT_ok k k k k k k) k <| aa k k <| an <| tn <| rg <| am k k <| am k k ?_
    obtain ⟨v4, hv4, h⟩ := ob h
    refine ae (w_call0s (c_impl_digitList v3 v4 hv4) k (va_cons (va_same k) va_nil)) k <| ae (w_lit TT_ok k k k k k k k k k k k k) k ?_
    obtain ⟨q5, h⟩ := cg h
    refine ae (x_app TT_ok (l := x1.1) (m := [v4]) okStro q5 k k k k k k k k k k k k) k <| aa k k <| an <| block_n <| tn <| rg <| ae (x_add k k) k <| am k k <| an <| tn ?_
    obtain rfl := so h
    exact ⟨_, k, (ent_mk (σ := sg [(0, 2)]) ⟨(oE k k), ⟨_, k, ⟨k, k⟩⟩, (e1 k k), (e1 k k), trivial⟩ (hB (okStr.plainO _) k k k <| trivial) k)⟩
   ·refine ac_condF k q2 <| ac_exit <| then_exit <| then_exit ?_
    obtain rfl := so h
    exact ⟨_, k, k, (ent_mk (σ := sg [(0, 0)]) ⟨(oE k k), trivial⟩ (hB (okStr.plainO _) k k k <| trivial) k)⟩
  ·rintro e t ⟨rfl, hent⟩
   refine block_here <| tn <| ac_ent hent <| sQ <| rg <| am k k ?_
   obtain ⟨v7, hv7, h⟩ := ob h
   refine ae (w_call0s (c_Join y6 (⟨#[32]⟩ : ByteArray) v7 hv7) k (va_cons (va_T okStr k k) (va_cons (va_same k) va_nil))) k <| aa k k <| an <| tn <| ac_ret ?_
   obtain rfl := so h
   exact ret_mk k k k (fz_sc k)

noncomputable def m_impl_KnitLine_L1 (a0 : Qv) (x1 : (ByteArray × Int)) : Option ((ByteArray × Int) ⊕ ByteArray) :=
  bif decide (x1.2 < a0.n) then
    (Option.bind (m_impl_KnitRow a0 x1.2) fun v4 =>
    Option.bind (m_impl_dimsList v4.1) fun v5 =>
    bif decide ((⟨#[32, 124, 32]⟩ : ByteArray).size + v5.size ≤ 9223372036854775807) then
      (bif decide (x1.1.size + ((⟨#[32, 124, 32]⟩ : ByteArray) ++ v5).size ≤ 9223372036854775807) then
        (some (.inl ((x1.1 ++ ((⟨#[32, 124, 32]⟩ : ByteArray) ++ v5)), wr (x1.2 + 1))))
      else none)
    else none)
  else
    (some (.inr x1.1))

noncomputable def m_impl_KnitLine (a0 : Qv) : Option ByteArray :=
  Option.bind (m_impl_KindOfQuiver a0) fun v1 =>
  bif !decide (v1 = 1) then
    (some ((⟨#[]⟩ : ByteArray)))
  else
    (Option.bind (Lp (m_impl_KnitLine_L1 a0) ((⟨#[107, 110, 105, 116]⟩ : ByteArray), 0)) fun y8 =>
    some (y8))

theorem c_impl_KnitLine (a0 : Qv) (r : ByteArray) (h : m_impl_KnitLine a0 = some r) : HasC Try.prog 7 [.agg (eQ a0)] (.str r) := by
 refine hasC_mk TT_ok (rvs := [.tmp 2]) (ns := [0, 1, 2, 3]) Try.func7 k k Try.ntmps7 k k k <| sQ <| rg <| ae (w_box k k k k) k <| aa k k <| an <| tn <| sQ <| sQ <| rg ?_
 refine ae (w_load_ptr TT_ok k k k k k k k) k ?_
 obtain ⟨v1, hv1, h⟩ := ob h
 refine ae (w_call0s (c_impl_KindOfQuiver a0 v1 hv1) k (va_cons (va_agg' (v1_cons (v1_same k) (v1_cons (v1_same k) (v1_cons (v1_same k) v1_nil)))) va_nil)) k <| ae (w_cmp k k k) k <| an <| tn ?_
 rcases cb h with ⟨q2, h⟩ | ⟨q2, h⟩
 ·refine ac_condT k q2 <| sQ <| rg <| aa k k <| an <| tn <| ac_ret <| then_ret ?_
  obtain rfl := so h
  exact ret_mk k k k (fz_sc k)
 ·refine ac_condF k q2 <| ac_skip <| tn <| sQ <| rg <| aa k k <| an <| tn <| sQ <| sQ ?_
  refine rg <| ae (w_field_ptr TT_ok k k k k k k k) k <| ae (w_load_ptr TT_ok k k k k k k k) k <| am k k <| an <| tn <| ac_block ?_
  obtain ⟨y8, hy8, h⟩ := ob h
  refine ac_Lp (body := (m_impl_KnitLine_L1 a0)) hy8 (fun (x1 : (ByteArray × Int)) => mkS [(1, .ptr 0 0 0), (3, .str x1.1), (11, .int a0.n), (12, .int x1.2)] [(0, ⟨3, [[.int a0.n, .list 1 (List.map eI a0.src), .list 1 (List.map eI a0.tgt)]]⟩)] 1 [1, 2, 3]) (fun r e t => e = .exit 0 ∧ Ent t (mkS [(3, .str r)] [] 0 [0, 1, 2, 3])) (ent_mk (σ := sg [(0, 0)]) ⟨(pE k k), (e1 k k), (e1 k k), (e1 k k), trivial⟩ (hP k k k k <| trivial) k) ?_ ?_
  ·intro x1 o h
   refine sQ <| rg <| ae (w_cmp k k k) k <| an <| tn <| sQ ?_
   rcases cb h with ⟨q3, h⟩ | ⟨q3, h⟩
   ·refine ac_condT k q3 <| ac_skip <| tn <| sQ <| ac_block <| sQ <| rg <| am k k <| aa k k <| an ?_
    refine tn <| sQ <| rg <| ae (w_load_ptr TT_ok k k k k k k k) k <| am k k ?_
    obtain ⟨v4, hv4, h⟩ := ob h
    refine ae (AEff.conv (w_call0 (x := .tuple [.own 1 0 (List.map (eLs 1 eI) v4.1).length, .bl v4.2]) (nb := [(1, ⟨1, absEs (List.map (eLs 1 eI) v4.1)⟩)]) (c_impl_KnitRow a0 x1.2 v4 hv4) k (by rfl) k k (gB_cons (okLs.good _) (gB_cons trivial gB_nil)) (va_cons (va_agg' (v1_cons (v1_same k) (v1_cons (v1_same k) (v1_cons (v1_same k) v1_nil)))) (va_cons (va_same k) va_nil))) (v' := .tuple [.own 1 0 v4.1.length, .bl v4.2]) (ed' := [(1, some ⟨1, List.map (ow (eLs 1 eI)) v4.1⟩)]) (by simp only [len_map]) (ed_ok (nb' := [(1, ⟨1, List.map (ow (eLs 1 eI)) v4.1⟩)]) (by simp only [abs_map]))) k <| am k k <| ae (eff_extract k k (by intro _ h; cases h)) k <| ae (eff_extract k k (by intro _ h; cases h)) k <| aa k k <| aa k k <| an <| tn <| rg <| am k k ?_
    refine am k k ?_
    obtain ⟨v5, hv5, h⟩ := ob h
    refine ae (w_call0s (c_impl_dimsList v4.1 v5 hv5) k (va_cons (va_T okLs k k) va_nil)) k ?_
    obtain ⟨q7, h⟩ := cg h
    refine ae (x_cat k k q7) k ?_
    obtain ⟨q6, h⟩ := cg h
    refine ae (x_cat k k q6) k <| aa k k <| an <| block_n <| tn <| ac_ent (t := mkS [(1, .ptr 0 0 0), (3, .str (x1.1 ++ ((⟨#[32, 124, 32]⟩ : ByteArray) ++ v5))), (11, .int a0.n), (12, .int x1.2)] [(0, ⟨3, [[.int a0.n, .list 1 (List.map eI a0.src), .list 1 (List.map eI a0.tgt)]]⟩)] 2 [2, 3]) (ent_mk (σ := sg [(0, 0)]) ⟨(pE k k), (e1 k k), (e1 k k), (e1 k k), trivial⟩ (hP k k k k <| trivial) k) <| rg <| ae (x_add k k) k <| am k k <| an ?_
    refine tn ?_
    obtain rfl := so h
    exact ⟨_, k, (ent_mk (σ := sg [(0, 0)]) ⟨(pE k k), (e1 k k), (e1 k k), (e1 k k), trivial⟩ (hP k k k k <| trivial) k)⟩
   ·refine ac_condF k q3 <| ac_exit <| then_exit <| then_exit ?_
    obtain rfl := so h
    exact ⟨_, k, k, (ent_mk (σ := sg []) ⟨(e1 k k), trivial⟩ trivial k)⟩
  ·rintro e t ⟨rfl, hent⟩
   refine block_here <| tn <| ac_ent hent <| sQ <| rg <| am k k <| aa k k <| an <| tn <| ac_ret ?_
   obtain rfl := so h
   exact ret_mk k k k (fz_sc k)

end Go.Proofs.Ytinllccaphhmcaa
end

section
set_option linter.unusedVariables false
set_option linter.unusedSimpArgs false

namespace Go.Proofs.Ytinllccaphhmcaa
open Go.RowKit
set_option linter.unusedVariables false
set_option linter.unusedSimpArgs false
set_option maxRecDepth 10000
set_option maxHeartbeats 4000000

noncomputable def m_laws_FnExactKnitLine (a0 : Qv) : Option Bool :=
  Option.bind (m_laws_szQuiver a0 1048576) fun v1 =>
  bif decide (v1 < 0) then
    (some (true))
  else
    (Option.bind (m_laws_toQuiver a0) fun v3 =>
    Option.bind (m_spec_KnitLine v3) fun v4 =>
    Option.bind (m_laws_toQuiver a0) fun v5 =>
    Option.bind (m_impl_KnitLine v5) fun v6 =>
    bif !eqS v6 v4 then
      (some (false))
    else
      (Option.bind (m_laws_toQuiver a0) fun v8 =>
      Option.bind (m_laws_eqQuiver v5 v8) fun v9 =>
      bif !v9 then
        (some (false))
      else
        (some (true))))

theorem c_laws_FnExactKnitLine (a0 : Qv) (r : Bool) (h : m_laws_FnExactKnitLine a0 = some r) : HasC Try.prog 3 [.agg (eQ a0)] (.bl r) := by
 refine hasC_mk TT_ok (rvs := [.tmp 2]) (ns := [0, 1, 2, 3, 4, 5, 6, 7, 8, 9]) Try.func3 k k Try.ntmps3 k k k <| sQ <| rg <| ae (w_box k k k k) k <| aa k k <| an <| tn <| sQ <| rg <| aa k k ?_
 refine an <| tn <| sQ <| rg <| ae (w_load_ptr TT_ok k k k k k k k) k <| am k k ?_
 obtain ⟨v1, hv1, h⟩ := ob h
 refine ae (w_call0s (c_laws_szQuiver a0 1048576 v1 hv1) k (va_cons (va_agg' (v1_cons (v1_same k) (v1_cons (v1_same k) (v1_cons (v1_same k) v1_nil)))) (va_cons (va_same k) va_nil))) k <| aa k k <| an <| tn <| sQ <| sQ <| rg <| am k k <| ae (w_cmp k k k) k <| an ?_
 refine tn ?_
 rcases cb h with ⟨q2, h⟩ | ⟨q2, h⟩
 ·refine ac_condT k q2 <| sQ <| rg <| aa k k <| an <| tn <| ac_ret <| then_ret ?_
  obtain rfl := so h
  exact ret_mk k k k (fz_bl k)
 ·refine ac_condF k q2 <| ac_skip <| tn <| sQ <| rg <| ae (w_load_ptr TT_ok k k k k k k k) k ?_
  obtain ⟨v3, hv3, h⟩ := ob h
  refine ae (AEff.conv (w_call0 (x := .agg [.int v3.n, .own 1 0 (List.map eI v3.src).length, .own 2 0 (List.map eI v3.tgt).length]) (nb := [(1, ⟨1, absEs (List.map eI v3.src)⟩), (2, ⟨1, absEs (List.map eI v3.tgt)⟩)]) (c_laws_toQuiver a0 v3 hv3) k (by rfl) k k (g1_cons trivial (g1_cons (okI.good _) (g1_cons (okI.good _) g1_nil))) (va_cons (va_agg' (v1_cons (v1_same k) (v1_cons (v1_same k) (v1_cons (v1_same k) v1_nil)))) va_nil)) (v' := .agg [.int v3.n, .own 1 0 v3.src.length, .own 2 0 v3.tgt.length]) (ed' := [(1, some ⟨1, List.map (ow eI) v3.src⟩), (2, some ⟨1, List.map (ow eI) v3.tgt⟩)]) (by simp only [len_map]) (ed_ok (nb' := [(1, ⟨1, List.map (ow eI) v3.src⟩), (2, ⟨1, List.map (ow eI) v3.tgt⟩)]) (by simp only [abs_map]))) k ?_
  obtain ⟨v4, hv4, h⟩ := ob h
  refine ae (w_call0s (c_spec_KnitLine v3 v4 hv4) k (va_cons (va_agg' (v1_cons (v1_same k) (v1_cons (v1_T okI k k) (v1_cons (v1_T okI k k) v1_nil)))) va_nil)) k <| aa k k <| an <| tn <| ac_ent (t := mkS [(1, .ptr 0 0 0), (4, .str v4)] [(0, ⟨3, [[.int a0.n, .list 1 (List.map eI a0.src), .list 1 (List.map eI a0.tgt)]]⟩)] 3 [3, 4, 5, 6, 7, 8, 9]) (ent_mk (σ := sg [(0, 0)]) ⟨(pE k k), (e1 k k), trivial⟩ (hP k k k k <| trivial) k) <| sQ <| rg <| ae (w_load_ptr TT_ok k k k k k k k) k ?_
  obtain ⟨v5, hv5, h⟩ := ob h
  refine ae (AEff.conv (w_call0 (x := .agg [.int v5.n, .own 3 0 (List.map eI v5.src).length, .own 4 0 (List.map eI v5.tgt).length]) (nb := [(3, ⟨1, absEs (List.map eI v5.src)⟩), (4, ⟨1, absEs (List.map eI v5.tgt)⟩)]) (c_laws_toQuiver a0 v5 hv5) k (by rfl) k k (g1_cons trivial (g1_cons (okI.good _) (g1_cons (okI.good _) g1_nil))) (va_cons (va_agg' (v1_cons (v1_same k) (v1_cons (v1_same k) (v1_cons (v1_same k) v1_nil)))) va_nil)) (v' := .agg [.int v5.n, .own 3 0 v5.src.length, .own 4 0 v5.tgt.length]) (ed' := [(3, some ⟨1, List.map (ow eI) v5.src⟩), (4, some ⟨1, List.map (ow eI) v5.tgt⟩)]) (by simp only [len_map]) (ed_ok (nb' := [(3, ⟨1, List.map (ow eI) v5.src⟩), (4, ⟨1, List.map (ow eI) v5.tgt⟩)]) (by simp only [abs_map]))) k <| ae (w_alloc TT_ok k k) k <| ae (w_store TT_ok k k k k k k k k) k <| an <| tn <| sQ <| rg <| ae (w_load_ptr TT_ok k k k k k k k) k ?_
  obtain ⟨v6, hv6, h⟩ := ob h
  refine ae (w_call0s (c_impl_KnitLine v5 v6 hv6) k (va_cons (va_agg' (v1_cons (v1_same k) (v1_cons (v1_T okI k k) (v1_cons (v1_T okI k k) v1_nil)))) va_nil)) k <| aa k k <| an <| tn <| sQ <| sQ <| rg <| am k k <| am k k <| ae (x_neS k k) k ?_
  refine an <| tn ?_
  rcases cb h with ⟨q7, h⟩ | ⟨q7, h⟩
  ·refine ac_condT k q7 <| sQ <| rg <| aa k k <| an <| tn <| ac_ret <| then_ret ?_
   obtain rfl := so h
   exact ret_mk k k k (fz_bl k)
  ·refine ac_condF k q7 <| ac_skip <| tn <| sQ <| sQ <| ac_region_draw MIXX <| ae (w_load_ptr TT_ok k k k k k k k) k <| ae (w_load_ptr TT_ok k k k k k k k) k ?_
   obtain ⟨v8, hv8, h⟩ := ob h
   refine ae (AEff.conv (w_call0 (x := .agg [.int v8.n, .own 6 0 (List.map eI v8.src).length, .own 7 0 (List.map eI v8.tgt).length]) (nb := [(6, ⟨1, absEs (List.map eI v8.src)⟩), (7, ⟨1, absEs (List.map eI v8.tgt)⟩)]) (c_laws_toQuiver a0 v8 hv8) k (by rfl) k k (g1_cons trivial (g1_cons (okI.good _) (g1_cons (okI.good _) g1_nil))) (va_cons (va_agg' (v1_cons (v1_same k) (v1_cons (v1_same k) (v1_cons (v1_same k) v1_nil)))) va_nil)) (v' := .agg [.int v8.n, .own 6 0 v8.src.length, .own 7 0 v8.tgt.length]) (ed' := [(6, some ⟨1, List.map (ow eI) v8.src⟩), (7, some ⟨1, List.map (ow eI) v8.tgt⟩)]) (by simp only [len_map]) (ed_ok (nb' := [(6, ⟨1, List.map (ow eI) v8.src⟩), (7, ⟨1, List.map (ow eI) v8.tgt⟩)]) (by simp only [abs_map]))) k ?_
   obtain ⟨v9, hv9, h⟩ := ob h
   refine ae (w_call0s (c_laws_eqQuiver v5 v8 v9 hv9) k (va_cons (va_agg' (v1_cons (v1_same k) (v1_cons (v1_T okI k k) (v1_cons (v1_T okI k k) v1_nil)))) (va_cons (va_agg' (v1_cons (v1_same k) (v1_cons (v1_T okI k k) (v1_cons (v1_T okI k k) v1_nil)))) va_nil))) k <| ae (w_not k) k <| an ?_
   refine ⟨by kernel_rfl, ?_⟩
   refine tn <| ac_ent (t := mkS [(26, .bl (!v9))] [] 8 [8, 9]) (ent_mk (σ := sg []) ⟨(e1 k k), trivial⟩ trivial k) ?_
   rcases cb h with ⟨q10, h⟩ | ⟨q10, h⟩
   ·refine ac_condT k q10 <| sQ <| rg <| aa k k <| an <| tn <| ac_ret <| then_ret ?_
    obtain rfl := so h
    exact ret_mk k k k (fz_bl k)
   ·refine ac_condF k q10 <| ac_skip <| tn <| sQ <| rg <| aa k k <| an <| tn <| ac_ret ?_
    obtain rfl := so h
    exact ret_mk k k k (fz_bl k)

end Go.Proofs.Ytinllccaphhmcaa
end

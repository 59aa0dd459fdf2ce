/-
  Several texts of the claim in one: each begins with its own remark.
-/
import Derived.Test.YtahbimogkgfmdaaProg
import Derived.Test.YtahbimogkgfmdaaH12
section
set_option linter.unusedVariables false
set_option linter.unusedSimpArgs false
/-
  The laws' structs as arguments: quivers, matrices, representations, spaces, bars, claims.
-/
namespace Go.Proofs.Ytahbimogkgfmdaa
open Go.ChangeShapes Go.WideShapes Go.ChangeAt Go.RowKit
theorem oI : Opens Try.prog 3 (ShpA 1 eI) := opensA_int Try.underlying3
theorem oL : Opens Try.prog 22 (ShpA 1 eL) := opensA_slice Try.underlying22 (by decide) (by kernel_rfl) oI
theorem oQ : Opens Try.prog 24 (ShpA 3 eQ) := by
  intro H enc w fuel cs d ps h hf
  obtain ⟨x0, T0, u0⟩ := upto_cons Try.underlying24 h hf upto_nil (i := 0) (ft := 3) rfl (k := 1) (by kernel_rfl) oI
  obtain ⟨x1, T1, u1⟩ := upto_cons Try.underlying24 h hf u0 (i := 1) (ft := 22) rfl (k := 1) (by kernel_rfl) oL
  obtain ⟨x2, T2, u2⟩ := upto_cons Try.underlying24 h hf u1 (i := 2) (ft := 22) rfl (k := 1) (by kernel_rfl) oL
  exact ⟨⟨x0, x1, x2⟩, _, upto_end Try.underlying24 h hf u2 (by kernel_rfl) _ rfl⟩
end Go.Proofs.Ytahbimogkgfmdaa
end

section
set_option linter.unusedVariables false
set_option linter.unusedSimpArgs false
/-
  A law's arguments: their lists have lengths that fit.
-/
namespace Go.Proofs.Ytahbimogkgfmdaa
open Go.RowKit
set_option linter.unusedVariables false

theorem rvs_mem {w : World} : ∀ {ds : List AV} {vs : List Value} {S : List Nat}, RepVs w ds vs S → ∀ d ∈ ds, ∃ v S', RepD w d v S'
  | [], _, _, _, d, hd => by cases hd
  | c :: cs, vs, S, h, d, hd => by
    simp only [RepVs] at h
    obtain ⟨v, r, S1, S2, _, _, h3, h4⟩ := h
    rcases List.mem_cons.1 hd with rfl | h'
    · exact ⟨v, S1, h3⟩
    · exact rvs_mem h4 d h'
theorem rcs_mem {w : World} {b : Nat} : ∀ {ds : List AV} {o : Nat} {S : List Nat}, RepCs w b o ds S → ∀ d ∈ ds, ∃ v S', RepD w d v S'
  | [], _, _, _, d, hd => by cases hd
  | c :: cs, o, S, h, d, hd => by
    simp only [RepCs] at h
    obtain ⟨v, S1, S2, _, _, _, _, h3, h4⟩ := h
    rcases List.mem_cons.1 hd with rfl | h'
    · exact ⟨v, S1, h3⟩
    · exact rcs_mem h4 d h'
theorem res_mem {w : World} {k b : Nat} : ∀ {es : List (List AV)} {o : Nat} {S : List Nat}, RepEs w k b o es S → ∀ cs ∈ es, ∀ d ∈ cs, ∃ v S', RepD w d v S'
  | [], _, _, _, cs, hc => by cases hc
  | c :: es, o, S, h, cs, hc => by
    simp only [RepEs] at h
    obtain ⟨S1, S2, _, _, h3, h4⟩ := h
    rcases List.mem_cons.1 hc with rfl | h'
    · exact rcs_mem h3
    · exact res_mem h4 cs h'
theorem rd_list {w : World} {k : Nat} {es : List (List AV)} {v : Value} {S : List Nat} (h : RepD w (.list k es) v S) : es.length ≤ 9223372036854775807 ∧ ∀ cs ∈ es, ∀ d ∈ cs, ∃ v S', RepD w d v S' := by
  unfold RepD at h
  obtain ⟨a, c, _, h2, h3, h4⟩ := h
  have hm : maxLen ≤ 9223372036854775807 := by decide
  refine ⟨by omega, ?_⟩
  rcases h4 with ⟨rfl, _⟩ | ⟨b, o, T, _, _, _, h5⟩
  · intro cs hcs; cases hcs
  · exact res_mem h5
theorem fI_of {w : World} {l : List Int} {v : Value} {S : List Nat} (h : RepD w (ints l) v S) : fI l := by
  have := (rd_list (k := 1) (es := List.map eI l) h).1
  rwa [List.length_map] at this
theorem fI_mem {w : World} {ds : List AV} (h : ∀ d ∈ ds, ∃ v S', RepD w d v S') {l : List Int} (hl : ints l ∈ ds) : fI l := by
  obtain ⟨v, S, h⟩ := h _ hl
  exact fI_of h
theorem list_mem {w : World} {ds : List AV} (h : ∀ d ∈ ds, ∃ v S', RepD w d v S') {α : Type} {k : Nat} {e : α → List AV} {l : List α} (hl : AV.list k (l.map e) ∈ ds) : fI l ∧ ∀ x ∈ l, ∀ d ∈ e x, ∃ v S', RepD w d v S' := by
  obtain ⟨v, S, h⟩ := h _ hl
  have := rd_list h
  rw [List.length_map] at this
  exact ⟨this.1, fun x hx => this.2 _ (List.mem_map.2 ⟨x, hx, rfl⟩)⟩
theorem fQ_of {w : World} {q : Qv} (h : ∀ d ∈ eQ q, ∃ v S', RepD w d v S') : fQ q := ⟨fI_mem h (by simp [eQ]), fI_mem h (by simp [eQ])⟩
theorem ret_true {w0 w : World} {v : Value} {S : List Nat} (h : ResA w (.bl true) v S) : Ending.returned v = .returned (.bool true) := by rw [h.1]
end Go.Proofs.Ytahbimogkgfmdaa
end

section
set_option linter.unusedVariables false
set_option linter.unusedSimpArgs false
/-
  Models and contracts of functions, made by the extractor (ex.py).
-/
namespace Go.Proofs.Ytahbimogkgfmdaa
open Go.RowKit
set_option linter.unusedVariables false
set_option linter.unusedSimpArgs false
set_option maxRecDepth 10000
set_option maxHeartbeats 4000000

end Go.Proofs.Ytahbimogkgfmdaa
end

section
set_option linter.unusedVariables false
set_option linter.unusedSimpArgs false
/-
  The laws' sizes, copies and comparisons (2): lists of lists, spaces.
-/
namespace Go.Proofs.Ytahbimogkgfmdaa
open Go.RowKit
set_option linter.unusedVariables false
set_option linter.unusedSimpArgs false

theorem mz_Row {l : List Int} {left : Int} (hl : fI l) (h0 : 0 ≤ left) (h1 : left ≤ 1048576) : m_laws_szIntS l left = some (zRow l left) := mz_I hl h0 h1
end Go.Proofs.Ytahbimogkgfmdaa
end

section
set_option linter.unusedVariables false
set_option linter.unusedSimpArgs false
/-
  Models and contracts of functions, made by the extractor (ex.py).
-/
namespace Go.Proofs.Ytahbimogkgfmdaa
open Go.RowKit
set_option linter.unusedVariables false
set_option linter.unusedSimpArgs false
set_option maxRecDepth 10000
set_option maxHeartbeats 4000000

noncomputable def m_laws_FnExactRootHom (a0 : Qv) (a1 : (List Int)) (a2 : (List Int)) : Option Bool :=
  bif decide (1048576 < (a1.length : Int)) then
    (some (true))
  else
    (bif decide (1048576 < (a2.length : Int)) then
      (some (true))
    else
      (Option.bind (m_laws_szQuiver a0 1048576) fun v3 =>
      bif decide (v3 < 0) then
        (some (true))
      else
        (Option.bind (m_laws_toQuiver a0) fun v5 =>
        Option.bind (m_laws_toIntS a1) fun v6 =>
        Option.bind (m_laws_toIntS a2) fun v7 =>
        Option.bind (m_spec_RootHom v5 v6 v7) fun v8 =>
        Option.bind (m_laws_toQuiver a0) fun v9 =>
        Option.bind (m_laws_toIntS a1) fun v10 =>
        Option.bind (m_laws_toIntS a2) fun v11 =>
        Option.bind (m_impl_RootHom v9 v10 v11) fun v12 =>
        bif !decide (v12 = v8) then
          (some (false))
        else
          (Option.bind (m_laws_toQuiver a0) fun v14 =>
          Option.bind (m_laws_eqQuiver v9 v14) fun v15 =>
          bif !v15 then
            (some (false))
          else
            (Option.bind (m_laws_toIntS a1) fun v17 =>
            Option.bind (m_laws_eqIntS v10 v17) fun v18 =>
            bif !v18 then
              (some (false))
            else
              (Option.bind (m_laws_toIntS a2) fun v20 =>
              Option.bind (m_laws_eqIntS v11 v20) fun v21 =>
              bif !v21 then
                (some (false))
              else
                (some (true))))))))

theorem c_laws_FnExactRootHom (a0 : Qv) (a1 : (List Int)) (a2 : (List Int)) (r : Bool) (h : m_laws_FnExactRootHom a0 a1 a2 = some r) : HasC Try.prog 4 [.agg (eQ a0), .list 1 (List.map eI a1), .list 1 (List.map eI a2)] (.bl r) := by
 refine hasC_mk TT_ok (rvs := [.tmp 6]) (ns := [0, 1, 2, 3, 4, 5, 6, 7, 8, 9, 10, 11, 12, 13, 14, 15]) Try.func4 k k Try.ntmps4 k k k <| sQ <| rg <| ae (w_box k k k k) k <| ae (eff_assign k) k <| an <| tn <| sQ <| sQ <| rg ?_
 refine ae (eff_move k) k <| ae (AEff.val (w_len_list TT_ok k k k) (v' := .int (a1.length : Int)) (by first | rw [len_map] | rw [encI_len])) k <| ae (w_cmp k k k) k <| an <| tn ?_
 rcases cb h with ⟨q1, h⟩ | ⟨q1, h⟩
 ·refine ac_condT k q1 <| sQ <| rg <| ae (eff_assign k) k <| an <| tn <| ac_ret <| then_ret ?_
  obtain rfl := so h
  exact ret_mk k k k (fz_bl k)
 ·refine ac_condF k q1 <| ac_skip <| tn <| sQ <| sQ <| rg <| ae (eff_move k) k <| ae (AEff.val (w_len_list TT_ok k k k) (v' := .int (a2.length : Int)) (by first | rw [len_map] | rw [encI_len])) k <| ae (w_cmp k k k) k <| an ?_
  refine tn ?_
  rcases cb h with ⟨q2, h⟩ | ⟨q2, h⟩
  ·refine ac_condT k q2 <| sQ <| rg <| ae (eff_assign k) k <| an <| tn <| ac_ret <| then_ret ?_
   obtain rfl := so h
   exact ret_mk k k k (fz_bl k)
  ·refine ac_condF k q2 <| ac_skip <| tn <| sQ <| rg <| ae (eff_assign k) k <| an <| tn <| sQ <| rg ?_
   refine ae (w_load_ptr TT_ok k k k k k k k) k <| ae (eff_move k) k ?_
   obtain ⟨v3, hv3, h⟩ := ob h
   refine ae (w_call0s (c_laws_szQuiver a0 1048576 v3 hv3) k (va_cons (va_agg' (v1_cons (v1_same k) (v1_cons (v1_same k) (v1_cons (v1_same k) v1_nil)))) (va_cons (va_same k) va_nil))) k <| ae (eff_assign k) k <| an <| tn <| ac_ent (t := mkS [(1, .list 1 (List.map eI a1)), (2, .list 1 (List.map eI a2)), (3, .ptr 0 0 0), (7, .int v3)] [(0, ⟨3, [[.int a0.n, .list 1 (List.map eI a0.src), .list 1 (List.map eI a0.tgt)]]⟩)] 1 [1, 2, 3, 4, 5, 6, 7, 8, 9, 10, 11, 12, 13, 14, 15]) (ent_mk (σ := sg [(0, 0)]) ⟨⟨_, k, ⟨k, k⟩⟩, ⟨_, k, ⟨k, k⟩⟩, ⟨_, k, ⟨k, k, k, k⟩⟩, (e1 k k), trivial⟩ ⟨⟨_, k, k, .inl ⟨k, plain_of k⟩⟩, k, trivial⟩ k) <| sQ <| sQ <| rg <| ae (eff_move k) k <| ae (w_cmp k k k) k ?_
   refine an <| tn ?_
   rcases cb h with ⟨q4, h⟩ | ⟨q4, h⟩
   ·refine ac_condT k q4 <| sQ <| rg <| ae (eff_assign k) k <| an <| tn <| ac_ret <| then_ret ?_
    obtain rfl := so h
    exact ret_mk k k k (fz_bl k)
   ·refine ac_condF k q4 <| ac_skip <| tn <| sQ <| rg <| ae (w_load_ptr TT_ok k k k k k k k) k ?_
    obtain ⟨v5, hv5, h⟩ := ob h
    refine ae (AEff.conv (w_call0 (x := .agg [.int v5.n, .own 1 0 (List.map eI v5.src).length, .own 2 0 (List.map eI v5.tgt).length]) (nb := [(1, ⟨1, absEs (List.map eI v5.src)⟩), (2, ⟨1, absEs (List.map eI v5.tgt)⟩)]) (c_laws_toQuiver a0 v5 hv5) k (by rfl) k k (g1_cons trivial (g1_cons (okI.good _) (g1_cons (okI.good _) g1_nil))) (va_cons (va_agg' (v1_cons (v1_same k) (v1_cons (v1_same k) (v1_cons (v1_same k) v1_nil)))) va_nil)) (v' := .agg [.int v5.n, .own 1 0 v5.src.length, .own 2 0 v5.tgt.length]) (ed' := [(1, some ⟨1, List.map (ow eI) v5.src⟩), (2, some ⟨1, List.map (ow eI) v5.tgt⟩)]) (by simp only [len_map]) (ed_ok (nb' := [(1, ⟨1, List.map (ow eI) v5.src⟩), (2, ⟨1, List.map (ow eI) v5.tgt⟩)]) (by simp only [abs_map]))) k <| ae (eff_move k) k ?_
    obtain ⟨v6, hv6, h⟩ := ob h
    refine ae (AEff.conv (w_call0 (x := .own 3 0 (List.map eI v6).length) (nb := [(3, ⟨1, absEs (List.map eI v6)⟩)]) (c_laws_toIntS a1 v6 hv6) k (by rfl) k k (okI.good _) (va_cons (va_same k) va_nil)) (v' := .own 3 0 v6.length) (ed' := [(3, some ⟨1, List.map (ow eI) v6⟩)]) (by simp only [len_map]) (ed_ok (nb' := [(3, ⟨1, List.map (ow eI) v6⟩)]) (by simp only [abs_map]))) k <| ae (eff_move k) k ?_
    obtain ⟨v7, hv7, h⟩ := ob h
    refine ae (AEff.conv (w_call0 (x := .own 4 0 (List.map eI v7).length) (nb := [(4, ⟨1, absEs (List.map eI v7)⟩)]) (c_laws_toIntS a2 v7 hv7) k (by rfl) k k (okI.good _) (va_cons (va_same k) va_nil)) (v' := .own 4 0 v7.length) (ed' := [(4, some ⟨1, List.map (ow eI) v7⟩)]) (by simp only [len_map]) (ed_ok (nb' := [(4, ⟨1, List.map (ow eI) v7⟩)]) (by simp only [abs_map]))) k ?_
    obtain ⟨v8, hv8, h⟩ := ob h
    refine ae (w_call0s (c_spec_RootHom v5 v6 v7 v8 hv8) k (va_cons (va_agg' (v1_cons (v1_same k) (v1_cons (v1_T okI k k) (v1_cons (v1_T okI k k) v1_nil)))) (va_cons (va_T okI k k) (va_cons (va_T okI k k) va_nil)))) k <| ae (eff_assign k) k <| an <| tn <| sQ <| rg <| ae (w_load_ptr TT_ok k k k k k k k) k ?_
    obtain ⟨v9, hv9, h⟩ := ob h
    refine ae (AEff.conv (w_call0 (x := .agg [.int v9.n, .own 5 0 (List.map eI v9.src).length, .own 6 0 (List.map eI v9.tgt).length]) (nb := [(5, ⟨1, absEs (List.map eI v9.src)⟩), (6, ⟨1, absEs (List.map eI v9.tgt)⟩)]) (c_laws_toQuiver a0 v9 hv9) k (by rfl) k k (g1_cons trivial (g1_cons (okI.good _) (g1_cons (okI.good _) g1_nil))) (va_cons (va_agg' (v1_cons (v1_same k) (v1_cons (v1_same k) (v1_cons (v1_same k) v1_nil)))) va_nil)) (v' := .agg [.int v9.n, .own 5 0 v9.src.length, .own 6 0 v9.tgt.length]) (ed' := [(5, some ⟨1, List.map (ow eI) v9.src⟩), (6, some ⟨1, List.map (ow eI) v9.tgt⟩)]) (by simp only [len_map]) (ed_ok (nb' := [(5, ⟨1, List.map (ow eI) v9.src⟩), (6, ⟨1, List.map (ow eI) v9.tgt⟩)]) (by simp only [abs_map]))) k <| ae (w_alloc TT_ok k k) k <| ae (w_store TT_ok k k k k k k k k) k <| an <| tn <| ac_ent (t := mkS [(1, .list 1 (List.map eI a1)), (2, .list 1 (List.map eI a2)), (3, .ptr 0 0 0), (8, .int v8), (9, .ptr 7 0 0)] [(0, ⟨3, [[.int a0.n, .list 1 (List.map eI a0.src), .list 1 (List.map eI a0.tgt)]]⟩), (5, ⟨1, List.map (ow eI) v9.src⟩), (6, ⟨1, List.map (ow eI) v9.tgt⟩), (7, ⟨3, [[.int v9.n, .own 5 0 v9.src.length, .own 6 0 v9.tgt.length]]⟩)] 8 [8, 9, 10, 11, 12, 13, 14, 15]) (ent_mk (σ := sg [(0, 0), (5, 5), (6, 6), (7, 7)]) ⟨⟨_, k, ⟨k, k⟩⟩, ⟨_, k, ⟨k, k⟩⟩, ⟨_, k, ⟨k, k, k, k⟩⟩, (e1 k k), ⟨_, k, ⟨k, k, k, k⟩⟩, trivial⟩ ⟨⟨_, k, k, .inl ⟨k, plain_of k⟩⟩, k, ⟨_, k, k, .inl ⟨k, okI.plainO _⟩⟩, k, ⟨_, k, k, .inl ⟨k, okI.plainO _⟩⟩, k, ⟨_, k, k, .inr ⟨_, _, k, ⟨_, _, k, k, ⟨_, _, k, ⟨k, k, k, k⟩, ⟨_, _, k, ⟨k, k, k, k⟩, k⟩⟩⟩, k⟩⟩, k, trivial⟩ k) ?_
    refine sQ <| rg <| ae (eff_move k) k ?_
    obtain ⟨v10, hv10, h⟩ := ob h
    refine ae (AEff.conv (w_call0 (x := .own 8 0 (List.map eI v10).length) (nb := [(8, ⟨1, absEs (List.map eI v10)⟩)]) (c_laws_toIntS a1 v10 hv10) k (by rfl) k k (okI.good _) (va_cons (va_same k) va_nil)) (v' := .own 8 0 v10.length) (ed' := [(8, some ⟨1, List.map (ow eI) v10⟩)]) (by simp only [len_map]) (ed_ok (nb' := [(8, ⟨1, List.map (ow eI) v10⟩)]) (by simp only [abs_map]))) k <| ae (eff_assign k) k <| an <| tn <| sQ <| rg <| ae (eff_move k) k ?_
    obtain ⟨v11, hv11, h⟩ := ob h
    refine ae (AEff.conv (w_call0 (x := .own 9 0 (List.map eI v11).length) (nb := [(9, ⟨1, absEs (List.map eI v11)⟩)]) (c_laws_toIntS a2 v11 hv11) k (by rfl) k k (okI.good _) (va_cons (va_same k) va_nil)) (v' := .own 9 0 v11.length) (ed' := [(9, some ⟨1, List.map (ow eI) v11⟩)]) (by simp only [len_map]) (ed_ok (nb' := [(9, ⟨1, List.map (ow eI) v11⟩)]) (by simp only [abs_map]))) k <| ae (eff_assign k) k <| an <| tn <| sQ <| rg <| ae (w_load_ptr TT_ok k k k k k k k) k <| ae (eff_move k) k <| ae (eff_move k) k ?_
    obtain ⟨v12, hv12, h⟩ := ob h
    refine ae (w_call0s (c_impl_RootHom v9 v10 v11 v12 hv12) k (va_cons (va_agg' (v1_cons (v1_same k) (v1_cons (v1_T okI k k) (v1_cons (v1_T okI k k) v1_nil)))) (va_cons (va_T okI k k) (va_cons (va_T okI k k) va_nil)))) k <| ae (eff_assign k) k <| an <| tn <| sQ <| sQ <| rg <| ae (eff_move k) k <| ae (eff_move k) k <| ae (w_cmp k k k) k ?_
    refine an <| tn <| ac_ent (t := mkS [(1, .list 1 (List.map eI a1)), (2, .list 1 (List.map eI a2)), (3, .ptr 0 0 0), (9, .ptr 7 0 0), (10, .own 8 0 v10.length), (11, .own 9 0 v11.length), (43, .bl (!decide (v12 = v8)))] [(0, ⟨3, [[.int a0.n, .list 1 (List.map eI a0.src), .list 1 (List.map eI a0.tgt)]]⟩), (5, ⟨1, List.map (ow eI) v9.src⟩), (6, ⟨1, List.map (ow eI) v9.tgt⟩), (7, ⟨3, [[.int v9.n, .own 5 0 v9.src.length, .own 6 0 v9.tgt.length]]⟩), (8, ⟨1, List.map (ow eI) v10⟩), (9, ⟨1, List.map (ow eI) v11⟩)] 10 [10, 11, 12, 13, 14, 15]) (ent_mk (σ := sg [(0, 0), (5, 5), (6, 6), (7, 7), (8, 8), (9, 9)]) ⟨⟨_, k, ⟨k, k⟩⟩, ⟨_, k, ⟨k, k⟩⟩, ⟨_, k, ⟨k, k, k, k⟩⟩, ⟨_, k, ⟨k, k, k, k⟩⟩, ⟨_, k, ⟨k, k, k, k⟩⟩, ⟨_, k, ⟨k, k, k, k⟩⟩, (e1 k k), trivial⟩ ⟨⟨_, k, k, .inl ⟨k, plain_of k⟩⟩, k, ⟨_, k, k, .inl ⟨k, okI.plainO _⟩⟩, k, ⟨_, k, k, .inl ⟨k, okI.plainO _⟩⟩, k, ⟨_, k, k, .inr ⟨_, _, k, ⟨_, _, k, k, ⟨_, _, k, ⟨k, k, k, k⟩, ⟨_, _, k, ⟨k, k, k, k⟩, k⟩⟩⟩, k⟩⟩, k, ⟨_, k, k, .inl ⟨k, okI.plainO _⟩⟩, k, ⟨_, k, k, .inl ⟨k, okI.plainO _⟩⟩, k, trivial⟩ k) ?_
    rcases cb h with ⟨q13, h⟩ | ⟨q13, h⟩
    ·refine ac_condT k q13 <| sQ <| rg <| ae (eff_assign k) k <| an <| tn <| ac_ret <| then_ret ?_
     obtain rfl := so h
     exact ret_mk k k k (fz_bl k)
    ·refine ac_condF k q13 <| ac_skip <| tn <| sQ <| sQ <| ac_region_draw MIXX <| ae (w_load_ptr TT_ok k k k k k k k) k <| ae (w_load_ptr TT_ok k k k k k k k) k ?_
     obtain ⟨v14, hv14, h⟩ := ob h
     refine ae (AEff.conv (w_call0 (x := .agg [.int v14.n, .own 10 0 (List.map eI v14.src).length, .own 11 0 (List.map eI v14.tgt).length]) (nb := [(10, ⟨1, absEs (List.map eI v14.src)⟩), (11, ⟨1, absEs (List.map eI v14.tgt)⟩)]) (c_laws_toQuiver a0 v14 hv14) k (by rfl) k k (g1_cons trivial (g1_cons (okI.good _) (g1_cons (okI.good _) g1_nil))) (va_cons (va_agg' (v1_cons (v1_same k) (v1_cons (v1_same k) (v1_cons (v1_same k) v1_nil)))) va_nil)) (v' := .agg [.int v14.n, .own 10 0 v14.src.length, .own 11 0 v14.tgt.length]) (ed' := [(10, some ⟨1, List.map (ow eI) v14.src⟩), (11, some ⟨1, List.map (ow eI) v14.tgt⟩)]) (by simp only [len_map]) (ed_ok (nb' := [(10, ⟨1, List.map (ow eI) v14.src⟩), (11, ⟨1, List.map (ow eI) v14.tgt⟩)]) (by simp only [abs_map]))) k ?_
     obtain ⟨v15, hv15, h⟩ := ob h
     refine ae (w_call0s (c_laws_eqQuiver v9 v14 v15 hv15) k (va_cons (va_agg' (v1_cons (v1_same k) (v1_cons (v1_T okI k k) (v1_cons (v1_T okI k k) v1_nil)))) (va_cons (va_agg' (v1_cons (v1_same k) (v1_cons (v1_T okI k k) (v1_cons (v1_T okI k k) v1_nil)))) va_nil))) k <| ae (w_not k) k <| an ?_
     refine ⟨by kernel_rfl, ?_⟩
     refine tn ?_
     rcases cb h with ⟨q16, h⟩ | ⟨q16, h⟩
     ·refine ac_condT k q16 <| sQ <| rg <| ae (eff_assign k) k <| an <| tn <| ac_ret <| then_ret ?_
      obtain rfl := so h
      exact ret_mk k k k (fz_bl k)
     ·refine ac_condF k q16 <| ac_skip <| tn <| sQ <| sQ <| rg <| ae (eff_move k) k <| ae (eff_move k) k ?_
      obtain ⟨v17, hv17, h⟩ := ob h
      refine ae (AEff.conv (w_call0 (x := .own 12 0 (List.map eI v17).length) (nb := [(12, ⟨1, absEs (List.map eI v17)⟩)]) (c_laws_toIntS a1 v17 hv17) k (by rfl) k k (okI.good _) (va_cons (va_same k) va_nil)) (v' := .own 12 0 v17.length) (ed' := [(12, some ⟨1, List.map (ow eI) v17⟩)]) (by simp only [len_map]) (ed_ok (nb' := [(12, ⟨1, List.map (ow eI) v17⟩)]) (by simp only [abs_map]))) k ?_
      obtain ⟨v18, hv18, h⟩ := ob h
      refine ae (w_call0s (c_laws_eqIntS v10 v17 v18 hv18) k (va_cons (va_T okI k k) (va_cons (va_T okI k k) va_nil))) k <| ae (w_not k) k <| an <| tn ?_
      rcases cb h with ⟨q19, h⟩ | ⟨q19, h⟩
      ·refine ac_condT k q19 <| sQ <| rg <| ae (eff_assign k) k <| an <| tn <| ac_ret <| then_ret ?_
       obtain rfl := so h
       exact ret_mk k k k (fz_bl k)
      ·refine ac_condF k q19 <| ac_skip <| tn <| sQ <| sQ <| rg <| ae (eff_move k) k <| ae (eff_move k) k ?_
       obtain ⟨v20, hv20, h⟩ := ob h
       refine ae (AEff.conv (w_call0 (x := .own 13 0 (List.map eI v20).length) (nb := [(13, ⟨1, absEs (List.map eI v20)⟩)]) (c_laws_toIntS a2 v20 hv20) k (by rfl) k k (okI.good _) (va_cons (va_same k) va_nil)) (v' := .own 13 0 v20.length) (ed' := [(13, some ⟨1, List.map (ow eI) v20⟩)]) (by simp only [len_map]) (ed_ok (nb' := [(13, ⟨1, List.map (ow eI) v20⟩)]) (by simp only [abs_map]))) k ?_
       obtain ⟨v21, hv21, h⟩ := ob h
       refine ae (w_call0s (c_laws_eqIntS v11 v20 v21 hv21) k (va_cons (va_T okI k k) (va_cons (va_T okI k k) va_nil))) k <| ae (w_not k) k <| an <| tn <| ac_ent (t := mkS [(58, .bl (!v21))] [] 14 [14, 15]) (ent_mk (σ := sg []) ⟨(e1 k k), trivial⟩ trivial k) ?_
       rcases cb h with ⟨q22, h⟩ | ⟨q22, h⟩
       ·refine ac_condT k q22 <| sQ <| rg <| ae (eff_assign k) k <| an <| tn <| ac_ret <| then_ret ?_
        obtain rfl := so h
        exact ret_mk k k k (fz_bl k)
       ·refine ac_condF k q22 <| ac_skip <| tn <| sQ <| rg <| ae (eff_assign k) k <| an <| tn <| ac_ret ?_
        obtain rfl := so h
        exact ret_mk k k k (fz_bl k)

end Go.Proofs.Ytahbimogkgfmdaa
end

section
set_option linter.unusedVariables false
set_option linter.unusedSimpArgs false
/-
  Roots of a quiver and their forms: the laws RootExt, RootHom, AreCompatible, IsTilting.
-/
namespace Go.Proofs.Ytahbimogkgfmdaa
open Go.RowKit
set_option linter.unusedVariables false

theorem n_pos {q : Qv} (hb : bQ q) : ∃ L b, m_impl_PositiveRoots q = some (L, b) ∧ m_spec_PositiveRoots q = some (L, b) ∧ ((b = false ∧ L = []) ∨ (b = true ∧ ∃ n, Fin1 q n ∧ L = rootsL q n)) := by
  by_cases hv : quivV q = true
  · obtain ⟨n, Q⟩ := qok hb hv
    by_cases hk : kindR n (matQ q n) (2 ^ n - 1) 1 1 = 1
    · obtain ⟨F, G⟩ := fin_form Q fun t h1 h2 => kindR_one hk t h1 (by omega)
      have H : Fin1 q n := ⟨Q, F, G⟩
      refine ⟨rootsL q n, true, ?_, ?_, .inr ⟨rfl, n, H, rfl⟩⟩
      · unfold m_impl_PositiveRoots
        rw [n_implKind Q, Option.bind_some, hk, decide_eq_true rfl, Bool.not_true, cond_false, n_implRoots H, Option.bind_some]
        rfl
      · unfold m_spec_PositiveRoots
        rw [n_specKind Q, Option.bind_some, hk, decide_eq_true rfl, Bool.not_true, cond_false, n_specSym Q, Option.bind_some]
        exact n_specRoots H
    · refine ⟨[], false, ?_, ?_, .inl ⟨rfl, rfl⟩⟩
      · unfold m_impl_PositiveRoots
        rw [n_implKind Q, Option.bind_some, decide_eq_false hk, Bool.not_false, cond_true]
      · unfold m_spec_PositiveRoots
        rw [n_specKind Q, Option.bind_some, decide_eq_false hk, Bool.not_false, cond_true]
  · have hv' : quivV q = false := by simpa using hv
    refine ⟨[], false, ?_, ?_, .inl ⟨rfl, rfl⟩⟩
    · unfold m_impl_PositiveRoots m_impl_KindOfQuiver
      rw [n_implQ hb, hv', Option.bind_some]
      rfl
    · unfold m_spec_PositiveRoots m_spec_KindOfQuiver
      rw [n_specQ hb, hv', Option.bind_some]
      rfl
theorem n_IndexFuncL {v : List (List Int)} {f : List Int → Option Bool} (P : List Int → Bool) (hf : ∀ x ∈ v, f x = some (P x)) (h : v.length ≤ 1048576) : ∃ i : Int, m_slices_IndexFunc_LLint_Lint v f = some i ∧ decide (0 ≤ i) = v.any P := by
  unfold m_slices_IndexFunc_LLint_Lint
  rw [Lp_search (s0 := 0) (s := 0) (n := v.length) (fun k => bif P (v[k]?.getD []) then some (k : Int) else none) rfl (by omega) (Nat.zero_le _) (fun k _ hk => ?_) (fun _ => ?_)]
  · rw [Option.bind_some]
    cases e : (List.range' 0 (v.length - 0)).findSome? (fun k : Nat => bif P (v[k]?.getD []) then some (k : Int) else none) with
    | none =>
      refine ⟨-1, rfl, ?_⟩
      rw [List.findSome?_eq_none_iff] at e
      have : v.any P = false := by
        rw [List.any_eq_false]
        intro x hx
        obtain ⟨k, hk, rfl⟩ := List.mem_iff_getElem.1 hx
        have := e k (by simp; omega)
        simp only [List.getElem?_eq_getElem hk, Option.getD_some] at this
        cases hp : P v[k] with
        | false => simp
        | true => rw [hp] at this; cases this
      rw [this]; rfl
    | some i =>
      refine ⟨i, rfl, ?_⟩
      obtain ⟨k, hk, he⟩ := List.exists_of_findSome?_eq_some e
      simp at hk
      have hkl : k < v.length := by omega
      rw [List.getElem?_eq_getElem hkl] at he
      simp only [Option.getD_some] at he
      cases hp : P v[k] with
      | false => rw [hp] at he; cases he
      | true =>
        rw [hp] at he
        cases he
        rw [decide_eq_true (by omega), eq_comm, List.any_eq_true]
        exact ⟨_, List.getElem_mem hkl, hp⟩
  · unfold m_slices_IndexFunc_LLint_Lint_L1
    rw [dlt hk, cond_true, atG [] hk, Option.bind_some, hf _ (by rw [List.getElem?_eq_getElem hk]; exact List.getElem_mem hk), Option.bind_some]
    cases P _ <;> rfl
  · unfold m_slices_IndexFunc_LLint_Lint_L1
    rw [dnl (Nat.le_refl _), cond_false]
theorem n_isRoot {q : Qv} (hb : bQ q) (x : List Int) : ∃ b, m_impl_IsRoot q x = some b ∧ m_spec_IsRoot q x = some b ∧ (b = true → ∃ n, Fin1 q n ∧ RtQ q n x) := by
  obtain ⟨L, b, h1, h2, h3⟩ := n_pos hb
  have hL : (∀ r ∈ L, bI r) ∧ L.length ≤ 1000 := by
    rcases h3 with ⟨_, rfl⟩ | ⟨_, n, H, rfl⟩
    · exact ⟨fun r hr => (by cases hr), by simp⟩
    · refine ⟨fun r hr => ?_, by have := rootsL_len H; omega⟩
      have := (H.vec ((mem_rootsL H r).1 hr)).1.1
      unfold bI; omega
  obtain ⟨i, g1, g2⟩ := n_IndexFuncL (f := fun b0 => m_impl_rootIndex_1 b0 x) (fun r => decide (r = x)) (fun r hr => by simp only [m_impl_rootIndex_1]; rw [n_SlEqual (hL.1 r hr), Option.bind_some]) (by omega : L.length ≤ 1048576)
  have hany : (L.any fun r => decide (r = x)) = decide (x ∈ L) := by
    rw [Bool.eq_iff_iff, List.any_eq_true, decide_eq_true_eq]
    exact ⟨fun ⟨r, hr, h⟩ => by rw [decide_eq_true_eq] at h; exact h ▸ hr, fun h => ⟨x, h, by simp⟩⟩
  refine ⟨decide (x ∈ L), ?_, ?_, fun h => ?_⟩
  · unfold m_impl_IsRoot m_impl_rootIndex
    rw [h1, Option.bind_some]
    simp only
    rw [g1, Option.bind_some, Option.bind_some, g2, hany]
  · unfold m_spec_IsRoot
    rw [h2, Option.bind_some]
    simp only
    rcases h3 with ⟨rfl, rfl⟩ | ⟨rfl, _⟩
    · simp
    · rw [cond_true, n_l20Has hL.1 hL.2, Option.bind_some]
  · rw [decide_eq_true_eq] at h
    rcases h3 with ⟨_, rfl⟩ | ⟨_, n, H, rfl⟩
    · cases h
    · exact ⟨n, H, (mem_rootsL H x).1 h⟩
theorem n_rootEul {q : Qv} {x y : List Int} {n m : Nat} (H : Fin1 q n) (hx : RtQ q n x) (H' : Fin1 q m) (hy : RtQ q m y) : ∃ e, m_impl_euler q x y = some e ∧ m_spec_EulerForm q x y = some e := by
  have hnm : n = m := by have h1 := H.Q.n0; have h2 := H'.Q.n0; omega
  subst hnm
  obtain ⟨h1, h2⟩ := H.vec hx
  obtain ⟨h3, h4⟩ := H.vec hy
  exact ⟨_, n_implEul H.Q h2 h4 h1.sm h3.sm, n_specEul H.Q h2 h4 h1.sm h3.sm⟩
theorem n_rootHom {q : Qv} (hb : bQ q) (x y : List Int) : ∃ z, m_impl_RootHom q x y = some z ∧ m_spec_RootHom q x y = some z := by
  obtain ⟨b1, h1, h2, h3⟩ := n_isRoot hb x
  obtain ⟨b2, k1, k2, k3⟩ := n_isRoot hb y
  unfold m_impl_RootHom m_spec_RootHom
  rw [h1, h2, k1, k2]
  cases b1 with
  | false => exact ⟨-1, rfl, rfl⟩
  | true =>
    cases b2 with
    | false => exact ⟨-1, rfl, rfl⟩
    | true =>
      obtain ⟨n, H, hx⟩ := h3 rfl
      obtain ⟨m, H', hy⟩ := k3 rfl
      obtain ⟨e, e1, e2⟩ := n_rootEul H hx H' hy
      refine ⟨max e 0, ?_, ?_⟩
      · simp only [Option.bind_some, Bool.not_true, cond_false]
        rw [e1, Option.bind_some]
      · simp only [Option.bind_some, Bool.not_true, cond_false]
        rw [e2, Option.bind_some, Int.max_comm]

/-! ## the laws -/
theorem plain_RootHom {q : Qv} {x y : List Int} (fq : fQ q) (fx : fI x) (fy : fI y) : m_laws_FnExactRootHom q x y = some true := by
  unfold m_laws_FnExactRootHom
  by_cases c1 : x.length ≤ 1048576
  · rw [decide_eq_false (by omega), cond_false]
    by_cases c2 : y.length ≤ 1048576
    · rw [decide_eq_false (by omega), cond_false, mz_Q fq (by decide) (by decide), Option.bind_some]
      rcases falls_Q q 1048576 (by decide) (by decide) with e | ⟨e1, e2, hb⟩
      · rw [e]; rfl
      · rw [decide_eq_false (by omega), cond_false]
        have hx : bI x := c1
        have hy : bI y := c2
        obtain ⟨z, h1, h2⟩ := n_rootHom hb x y
        simp only [mt_Q hb, mt_I hx, mt_I hy, Option.bind_some, h1, h2, me_Q hb, me_I hx, me_I hy, decide_true, Bool.not_true, cond_false]
    · rw [decide_eq_true (by omega), cond_true]
  · rw [decide_eq_true (by omega), cond_true]
end Go.Proofs.Ytahbimogkgfmdaa
end

/-
  Several texts of the claim in one: each begins with its own remark.
-/
import Derived.Test.YtdhjmmnjapkmkaaH8
section
set_option linter.unusedVariables false
set_option linter.unusedSimpArgs false

namespace Go.Proofs.Ytdhjmmnjapkmkaa
open Go.RowKit
set_option linter.unusedVariables false
def rkF (p : Int) (m n : Nat) (F : Nat → Nat → Int) : Nat := (redUp p m F n).2.length
theorem matV_mk {p : Int} (hp : isF p = true) {r c : Nat} (hr : r ≤ 8) (hc : c ≤ 8) {F : Nat → Nat → Int} (hF : InP p r c F) : matV p ⟨r, c, tabM r c F⟩ = true := by
 have hb := isF_bd hp
 have h64 : r * c ≤ 64 := Nat.mul_le_mul hr hc
 unfold matV
 simp only [Bool.and_eq_true, decide_eq_true_eq, List.all_eq_true]
 refine ⟨inR_mk (by omega) (by omega), inR_mk (by omega) (by omega), ?_, ⟨hp, by rw [tabM_len]; exact h64⟩, fun x hx => ?_⟩
 ·rw [tabM_len, wmul (by omega)]
 ·unfold tabM at hx
  obtain ⟨t, ht, rfl⟩ := List.mem_map.1 hx
  have ht := List.mem_range.1 ht
  have hc0 : 0 < c := by rcases Nat.eq_zero_or_pos c with rfl | h'; simp at ht; exact h'
  have := hF (t / c) (t % c) (Nat.div_lt_of_lt_mul (by rw [Nat.mul_comm]; exact ht)) (Nat.mod_lt _ hc0)
  rw [wr_sm (by omega)]
  exact inR_mk this.1 (by omega)
theorem n_rankOf {p : Int} (hp : isF p = true) {r c : Nat} (hr : r ≤ 8) (hc : c ≤ 8) {F : Nat → Nat → Int} (hF : InP p r c F) : m_spec_RankOf p ⟨r, c, tabM r c F⟩ = some (rkF p r c F : Int) := by
 have h64 : r * c ≤ 64 := Nat.mul_le_mul hr hc
 unfold m_spec_RankOf m_spec_RowReduce
 rw [n_specMat p ⟨by unfold bI; simp only [tabM_len]; omega, trivial⟩, matV_mk hp hr hc hF, Option.bind_some, Bool.not_true, cond_false, n_specReduce ⟨hp, by omega, by omega, by omega, hF⟩, Option.bind_some, Option.bind_some]
 simp only [Bool.not_true, cond_false, castL_len]
 rfl
theorem unit_in {p : Int} (hp : isF p = true) (m n : Nat) : InP p m n unitF := by
 have hb := isF_bd hp
 intro i j _ _
 unfold unitF
 split <;> omega
theorem range_get {d i : Nat} (h : i < d) : (List.range d)[i]?.getD 0 = i := by simp [h]
theorem rk_unit {p : Int} (hp : isF p = true) (d : Nat) : rkF p d d unitF = d := by
 have hR : Red d d unitF (List.range d) := by
  refine ⟨fun i hi => ?_, fun i k hik hk => ?_, by simp, fun i hi => ?_, fun i k hi hk hki => ?_, fun i j h1 h2 _ => ?_, fun i j hi hj => ?_⟩
  ·simp at hi; rw [range_get hi]; exact hi
  ·simp at hk; rw [range_get (by omega), range_get hk]; exact hik
  ·simp at hi; rw [range_get hi]; simp [unitF]
  ·simp at hi; rw [range_get hi]; simp [unitF, hki]
  ·simp at h1; omega
  ·simp at hi; rw [range_get hi] at hj; simp [unitF]; omega
 obtain ⟨⟨k, hk, e1, h3, h4⟩, _⟩ := red_again hp (G := unitF) hR (unit_in hp d d) (fun i j _ _ => rfl) d (Nat.le_refl _)
 have hl : (List.range d).length = d := by simp
 rw [hl] at e1 hk h4
 unfold rkF
 rw [e1]
 have : k = d := by
  rcases Nat.lt_or_ge k d with h | h
  ·have := h4 k (Nat.le_refl _) h
   rw [range_get h] at this
   omega
  ·omega
 subst this
 simp
def dN (r : Rp) (k : Nat) : Nat := (r.dims[k]?.getD 0).toNat
def mF (r : Rp) (k : Nat) : Nat → Nat → Int := fun i j => (r.maps[k]?.getD ⟨0, 0, []⟩).cells[i * dN r k + j]?.getD 0
def chF (r : Rp) (i : Nat) : Nat → Nat → Nat → Int
 | 0 => unitF
 | t + 1 => mulF r.p (dN r (i + t)) (mF r (i + t)) (chF r i t)
def rR (r : Rp) (i j : Nat) : Int := if i ≤ j then (rkF r.p (dN r j) (dN r i) (chF r i (j - i)) : Int) else 0
def tabR (r : Rp) : List (List Int) := (List.range r.dims.length).map fun i => rowL r.dims.length (rR r i)
theorem rep_maps {r : Rp} (h : repV r = true) : isF r.p = true ∧ dimsV r.q r.dims = true ∧ r.maps.length = r.q.src.length ∧ ∀ k, k < r.maps.length → matV r.p (r.maps[k]?.getD ⟨0, 0, []⟩) = true ∧ (r.maps[k]?.getD ⟨0, 0, []⟩).cols = r.dims[(r.q.src[k]?.getD 0).toNat]?.getD 0 ∧ (r.maps[k]?.getD ⟨0, 0, []⟩).rows = r.dims[(r.q.tgt[k]?.getD 0).toNat]?.getD 0 := by
 unfold repV at h
 simp only [Bool.and_eq_true, decide_eq_true_eq, range_all] at h
 exact ⟨h.1, h.2.1, by omega, h.2.2.2⟩
structure Ln (r : Rp) : Prop where
 hp : isF r.p = true
 n1 : 1 ≤ r.dims.length
 n5 : r.dims.length ≤ 5
 d : ∀ k, k < r.dims.length → r.dims[k]?.getD 0 = (dN r k : Int) ∧ dN r k ≤ 4
 ml : r.maps.length + 1 = r.dims.length
 m : ∀ k, k + 1 < r.dims.length → r.maps[k]?.getD ⟨0, 0, []⟩ = ⟨dN r (k + 1), dN r k, tabM (dN r (k + 1)) (dN r k) (mF r k)⟩ ∧ InP r.p (dN r (k + 1)) (dN r k) (mF r k)
theorem ln_of {r : Rp} (h1 : repV r = true) (h2 : lineV r.q = true) : Ln r := by
 obtain ⟨hp, hD, hml, hM⟩ := rep_maps h1
 obtain ⟨hQ, hd1, hd2, _⟩ := dimsV_parts hD
 obtain ⟨n, hn, hn1, hn5, hq1, hq2, hq3, hq4⟩ := quivV_parts hQ
 unfold lineV at h2
 simp only [Bool.and_eq_true, decide_eq_true_eq, range_all] at h2
 obtain ⟨_, h3, h4⟩ := h2
 rw [wr_sm (by omega)] at h3
 have hdl : r.dims.length = n := by omega
 have hd : ∀ k, k < r.dims.length → r.dims[k]?.getD 0 = (dN r k : Int) ∧ dN r k ≤ 4 := by
  intro k hk
  have := hd2 _ (mem_get 0 hk)
  unfold dN
  omega
 refine ⟨hp, by omega, by omega, hd, by omega, fun k hk => ?_⟩
 obtain ⟨g1, g2, g3⟩ := hM k (by omega)
 obtain ⟨g4, g5⟩ := h4 k (by omega)
 rw [g4, Int.toNat_natCast, (hd k (by omega)).1] at g2
 rw [g5, show ((k : Int) + 1).toNat = k + 1 by omega, (hd (k + 1) hk).1] at g3
 obtain ⟨_, a, b, F, ha, hb, he, hF⟩ := matV_parts g1
 have ea : a = dN r (k + 1) := by rw [he] at g3; simp only at g3; omega
 have eb : b = dN r k := by rw [he] at g2; simp only at g2; omega
 have em : ∀ i j, i < a → j < b → mF r k i j = F i j := by
  intro i j hi hj
  unfold mF
  rw [he, ← eb]
  simp only
  rw [tabM_get F hi hj]; rfl
 subst ea; subst eb
 rw [he]
 refine ⟨?_, fun i j hi hj => by rw [em i j hi hj]; exact hF i j hi hj⟩
 rw [tabM_congr em]
theorem ch_in {r : Rp} (L : Ln r) (i t : Nat) (m : Nat) : InP r.p m (dN r i) (chF r i t) := by
 cases t with
 | zero => exact unit_in L.hp _ _
 | succ t => exact mulF_in L.hp _ _ _ _ _
theorem rR_self {r : Rp} (L : Ln r) (i : Nat) : rR r i i = (dN r i : Int) := by
 unfold rR
 rw [if_pos (Nat.le_refl _), Nat.sub_self]
 unfold chF
 rw [rk_unit L.hp]
def fillF (r : Rp) (i j : Nat) : Nat → Int := fun b => if i ≤ b ∧ b < j then rR r i b else 0
theorem rowL_congr {c : Nat} {f g : Nat → Int} (h : ∀ j, j < c → f j = g j) : rowL c f = rowL c g := List.map_congr_left fun j hj => h j (List.mem_range.1 hj)
theorem rowL_set {c j : Nat} (hj : j < c) (f : Nat → Int) (v : Int) : (rowL c f).set j v = rowL c (fun b => if b = j then v else f b) := by
 refine List.ext_getElem (by simp [rowL]) fun t h1 h2 => ?_
 rw [rowL_len] at h2
 rw [List.getElem_set]
 simp only [rowL, List.getElem_map, List.getElem_range]
 by_cases e : j = t
 ·rw [if_pos e, if_pos e.symm]
 ·rw [if_neg e, if_neg (by omega)]
theorem rowL_zero (c : Nat) : List.replicate c (0 : Int) = rowL c (fun _ => 0) := by
 refine List.ext_getElem (by simp [rowL]) fun t h1 h2 => ?_
 simp [rowL]
theorem fill_step {r : Rp} {c i j : Nat} (hij : i ≤ j) (hj : j < c) {v : Int} (hv : v = rR r i j) : (rowL c (fillF r i j)).set j v = rowL c (fillF r i (j + 1)) := by
 rw [rowL_set hj]
 refine rowL_congr fun b hb => ?_
 unfold fillF
 by_cases e : b = j
 ·subst e; rw [if_pos rfl, if_pos (by omega), hv]
 ·rw [if_neg e]
  by_cases e2 : i ≤ b ∧ b < j
  ·rw [if_pos e2, if_pos (by omega)]
  ·rw [if_neg e2, if_neg (by omega)]
theorem fill_end {r : Rp} {c i : Nat} : rowL c (fillF r i c) = rowL c (rR r i) := by
 refine rowL_congr fun b hb => ?_
 unfold fillF
 by_cases e : i ≤ b
 ·rw [if_pos ⟨e, hb⟩]
 ·rw [if_neg (by omega)]; unfold rR; rw [if_neg e]
theorem sq {a b : Nat} (ha : a ≤ 4) (hb : b ≤ 4) : a * b ≤ 1048576 := by have := Nat.mul_le_mul ha hb; omega
theorem n_specTable {r : Rp} (h : bR r) : m_spec_RankTable r = some (bif repV r && lineV r.q then (tabR r, true) else ([], false)) := by
 unfold m_spec_RankTable
 rw [n_specRep h, Option.bind_some]
 cases h1 : repV r with
 | false => rfl
 | true =>
  rw [Bool.not_true, cond_false, n_specLine h.1, Option.bind_some]
  cases h2 : lineV r.q with
  | false => rfl
  | true =>
   rw [Bool.not_true, cond_false, Bool.and_self, cond_true]
   have L := ln_of h1 h2
   have n1 := L.n1
   have n5 := L.n5
   have ml := L.ml
   rw [Lp_go (r := tabR r) (fun i => ((List.range i).map (fun a => rowL r.dims.length (rR r a)), (i : Int))) r.dims.length (by simp) (fun i hi => ?_) (fun _ => ?_), Option.bind_some]
   ·unfold m_spec_RankTable_L1
    simp only
    have di := L.d i hi
    rw [dlt hi, cond_true, decide_eq_true (by omega), decide_eq_true (by omega : (r.dims.length : Int) ≤ 1048576), Bool.and_self, cond_true, atG 0 hi, Option.bind_some, di.1, n_l3Identity (sq di.2 di.2) (by omega), Option.bind_some, Int.toNat_natCast]
    simp only
    rw [Lp_go (r := rowL r.dims.length (rR r i)) (fun t => (rowL r.dims.length (fillF r i (i + t)), ((dN r (i + (t - 1)) : Nat) : Int), ((dN r i : Nat) : Int), tabM (dN r (i + (t - 1))) (dN r i) (chF r i (t - 1)), ((i + t : Nat) : Int))) (r.dims.length - i) ?_ (fun t ht => ?_) (fun _ => ?_), Option.bind_some]
    ·rw [decide_eq_true (by simp; omega), cond_true, wr_suc hi (by omega), List.range_succ, List.map_append]; rfl
    ·rw [rowL_zero, Nat.add_zero]
     simp only [chF, Nat.zero_sub, Nat.add_zero]
     congr 1
     exact rowL_congr fun b _ => by unfold fillF; rw [if_neg (by omega)]
    ·unfold m_spec_RankTable_L2
     simp only
     have hj : i + t < r.dims.length := by omega
     have dj := L.d _ hj
     rw [dlt hj, cond_true]
     cases t with
     | zero =>
      rw [decide_eq_false (by omega), cond_false]
      simp only [Nat.add_zero, Nat.zero_sub, chF]
      rw [n_rankOf L.hp (by omega) (by omega) (unit_in L.hp _ _), Option.bind_some, rowL_at _ hi, Option.bind_some, Int.toNat_natCast, fill_step (Nat.le_refl _) hi (by rw [rR_self L, rk_unit L.hp]), wr_suc hi (by omega)]
      rfl
     | succ t =>
      have dk := L.d (i + t) (by omega)
      have dj2 : dN r (i + t + 1) ≤ 4 := dj.2
      obtain ⟨m1, m2⟩ := L.m (i + t) (by omega)
      have hch := ch_in L i t (dN r (i + t))
      rw [decide_eq_true (by omega), cond_true, show (((i + (t + 1) : Nat) : Int) - 1) = ((i + t : Nat) : Int) by omega, wr_sm (x := ((i + t : Nat) : Int)) (by omega), atG ⟨0, 0, []⟩ (by omega), Option.bind_some, m1]
      simp only [Nat.add_sub_cancel]
      rw [n_l3Multiply (r := dN r (i + t + 1)) L.hp (sq dj.2 dk.2) (sq dk.2 di.2) (sq dj.2 di.2) (by omega) (by omega) (by omega) m2 hch, Option.bind_some]
      rw [n_rankOf L.hp (r := dN r (i + t + 1)) (by omega) (by omega) (mulF_in L.hp _ _ _ _ _), Option.bind_some, rowL_at _ hj, Option.bind_some, Int.toNat_natCast, fill_step (by omega) hj ?_, wr_suc hj (by omega)]
      ·rfl
      ·unfold rR
       rw [if_pos (by omega), show i + (t + 1) - i = t + 1 by omega]
       rfl
    ·unfold m_spec_RankTable_L2
     simp only
     rw [show i + (r.dims.length - i) = r.dims.length by omega, dnl (Nat.le_refl _), cond_false, fill_end]
   ·unfold m_spec_RankTable_L1
    simp only
    rw [dnl (Nat.le_refl _), cond_false]
    rfl
theorem n_implTable {r : Rp} (h : bR r) : m_impl_RankTable r = some (bif repV r && lineV r.q then (tabR r, true) else ([], false)) := by
 unfold m_impl_RankTable
 rw [n_implRep h, Option.bind_some]
 cases h1 : repV r with
 | false => rfl
 | true =>
  rw [Bool.not_true, cond_false, n_implLine h.1, Option.bind_some]
  cases h2 : lineV r.q with
  | false => rfl
  | true =>
   rw [Bool.not_true, cond_false, Bool.and_self, cond_true]
   have L := ln_of h1 h2
   have n1 := L.n1
   have n5 := L.n5
   have ml := L.ml
   rw [decide_eq_true (by omega), decide_eq_true (by omega : (r.dims.length : Int) ≤ 1048576), Bool.and_self, cond_true]
   rw [Lp_go (r := tabR r) (fun i => ((List.range r.dims.length).map (fun a => if a < i then rowL r.dims.length (rR r a) else []), (i : Int))) r.dims.length ?_ (fun i hi => ?_) (fun _ => ?_), Option.bind_some]
   ·congr 1
    refine List.ext_getElem (by simp) fun t h1 h2 => ?_
    simp
   ·unfold m_impl_RankTable_L1
    simp only
    have di := L.d i hi
    rw [dlt hi, cond_true, atG 0 hi, Option.bind_some, decide_eq_true (by omega), decide_eq_true (by omega : (r.dims.length : Int) ≤ 1048576), Bool.and_self, cond_true, atL_nat (by simp; exact hi), Option.bind_some, atL_nat (by simp; exact hi), Option.bind_some, di.1, n_identity (sq di.2 di.2) (by omega), Option.bind_some, Int.toNat_natCast, Int.toNat_natCast]
    simp only
    rw [Lp_go (r := rowL r.dims.length (rR r i)) (fun t => (rowL r.dims.length (fillF r i (i + 1 + t)), ((dN r (i + t) : Nat) : Int), ((dN r i : Nat) : Int), tabM (dN r (i + t)) (dN r i) (chF r i t), ((i + 1 + t : Nat) : Int))) (r.dims.length - (i + 1)) ?_ (fun t ht => ?_) (fun _ => ?_), Option.bind_some, wr_suc hi (by omega)]
    ·congr 3
     refine List.ext_getElem (by simp) fun t h1 h2 => ?_
     rw [List.getElem_set]
     simp only [List.getElem_map, List.getElem_range]
     by_cases e : i = t
     ·subst e; rw [if_pos rfl, if_pos (by omega)]
     ·rw [if_neg e]
      by_cases e2 : t < i
      ·rw [if_pos e2, if_pos (by omega)]
      ·rw [if_neg e2, if_neg (by omega)]
    ·rw [wr_suc hi (by omega), rowL_zero, Nat.add_zero, Nat.add_zero]
     simp only [chF]
     congr 1
     rw [show rowL r.dims.length (fun _ => (0 : Int)) = rowL r.dims.length (fillF r i i) from rowL_congr fun b _ => by unfold fillF; rw [if_neg (by omega)]]
     exact fill_step (Nat.le_refl _) hi (rR_self L i).symm
    ·unfold m_impl_RankTable_L2
     simp only
     have hj : i + 1 + t < r.dims.length := by omega
     have dj := L.d _ hj
     have dk := L.d (i + t) (by omega)
     obtain ⟨m1, m2⟩ := L.m (i + t) (by omega)
     have hch := ch_in L i t (dN r (i + t))
     rw [show i + 1 + t = i + t + 1 by omega] at hj dj ⊢
     rw [dlt hj, cond_true, show (((i + t + 1 : Nat) : Int) - 1) = ((i + t : Nat) : Int) by omega, wr_sm (x := ((i + t : Nat) : Int)) (by omega), atG ⟨0, 0, []⟩ (by omega), Option.bind_some, m1]
     rw [n_times L.hp (sq dj.2 dk.2) (sq dk.2 di.2) (sq dj.2 di.2) (by omega) (by omega) (by omega) m2 hch, Option.bind_some]
     rw [n_implRank ⟨L.hp, sq dj.2 di.2, by omega, by omega, mulF_in L.hp _ _ _ _ _⟩, Option.bind_some, rowL_at _ hj, Option.bind_some, Int.toNat_natCast, fill_step (by omega) hj ?_, wr_suc hj (by omega)]
     ·rw [show i + 1 + (t + 1) = i + t + 1 + 1 by omega]
      rfl
     ·unfold rR
      rw [if_pos (by omega), show i + t + 1 - i = t + 1 by omega]
      rfl
    ·unfold m_impl_RankTable_L2
     simp only
     rw [show i + 1 + (r.dims.length - (i + 1)) = r.dims.length by omega, dnl (Nat.le_refl _), cond_false, fill_end]
   ·unfold m_impl_RankTable_L1
    simp only
    rw [dnl (Nat.le_refl _), cond_false]
    congr 2
    exact List.map_congr_left fun a ha => by rw [if_pos (List.mem_range.1 ha)]
theorem tabR_at {r : Rp} {i : Nat} (h : i < r.dims.length) : atL (tabR r) (i : Int) = some (rowL r.dims.length (rR r i)) := by
 rw [atL_nat (by simp [tabR]; exact h)]; simp [tabR]
theorem tabR_len (r : Rp) : (tabR r).length = r.dims.length := by simp [tabR]
end Go.Proofs.Ytdhjmmnjapkmkaa
end

section
set_option linter.unusedVariables false
set_option linter.unusedSimpArgs false

namespace Go.Proofs.Ytdhjmmnjapkmkaa
open Go.RowKit
set_option linter.unusedVariables false
set_option linter.unusedSimpArgs false
set_option maxRecDepth 10000
set_option maxHeartbeats 4000000

def m_spec_l6Copy (a0 : Qv) : Option Qv :=
  bif decide (([] : (List Int)).length + a0.src.length ≤ 4294967296) then
    (bif decide (([] : (List Int)).length + a0.tgt.length ≤ 4294967296) then
      (some ((⟨a0.n, (([] : (List Int)) ++ a0.src), (([] : (List Int)) ++ a0.tgt)⟩ : Qv)))
    else none)
  else none

theorem c_spec_l6Copy (a0 : Qv) (r : Qv) (h : m_spec_l6Copy a0 = some r) : HasC Try.prog 60 [.agg (eQ a0)] (.agg (eQ r)) := by
 refine hasC_mk TT_ok (rvs := [.cell 2 29]) (ns := [0, 1, 2, 3, 4, 5, 6, 7]) Try.func60 k k Try.ntmps60 k k k <| sQ <| rg <| ae (w_box k k k k) k <| ae (w_alloc TT_ok k k) k <| an <| tn <| sQ <| ac_region_draw MIXX <| ae (w_field_ptr TT_ok k k k k k k k) k ?_
 refine ae (w_load_ptr TT_ok k k k k k k k) k <| ae (w_lit TT_ok k k k k k k k k k k k k) k <| ae (w_field_ptr TT_ok k k k k k k k) k <| ae (w_load_ptr TT_ok k k k k k k k) k ?_
 obtain ⟨q1, h⟩ := cg h
 refine ae (x_app TT_ok (l := ([] : (List Int))) (m := a0.src) okIo q1 k k k k k k k k k k k k) k <| ae (w_lit TT_ok k k k k k k k k k k k k) k <| ae (w_field_ptr TT_ok k k k k k k k) k <| ae (w_load_ptr TT_ok k k k k k k k) k ?_
 obtain ⟨q2, h⟩ := cg h
 refine ae (x_app TT_ok (l := ([] : (List Int))) (m := a0.tgt) okIo q2 k k k k k k k k k k k k) k <| ae (w_build TT_ok k k k k k k) k <| ae (w_store TT_ok k k k k k k k k) k <| an ?_
 refine ⟨by kernel_rfl, ?_⟩
 refine tn <| ac_ent (t := mkS [(2, .ptr 1 0 0)] [(1, ⟨3, [[.int a0.n, .own 3 0 ((([] : (List Int)) ++ a0.src).length), .own 5 0 ((([] : (List Int)) ++ a0.tgt).length)]]⟩), (3, ⟨1, List.map (ow eI) (([] : (List Int)) ++ a0.src)⟩), (5, ⟨1, List.map (ow eI) (([] : (List Int)) ++ a0.tgt)⟩)] 6 [6, 7]) (ent_mk (σ := sg [(1, 1), (3, 3), (5, 5)]) ⟨(pE k k), trivial⟩ (hX ⟨_, k, k, .inr ⟨_, _, k, ⟨_, _, k, k, ⟨_, _, k, ⟨k, k, k, k⟩, ⟨_, _, k, ⟨k, k, k, k⟩, k⟩⟩⟩, k⟩⟩ k <| hI k k k <| hI k k k <| trivial) k) <| ac_ret ?_
 obtain rfl := so h
 exact ret_mk k k k (xz_agg (x1_cons (k) (x1_cons (x_f1 okI k k) (x1_cons (x_f1 okI k k) x1_nil))))

end Go.Proofs.Ytdhjmmnjapkmkaa
end

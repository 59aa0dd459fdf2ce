/-
  Several texts of the claim in one: each begins with its own remark.
-/
import Derived.Test.YtinllccaphhmcaaH13
section
set_option linter.unusedVariables false
set_option linter.unusedSimpArgs false

namespace Go.Proofs.Ytinllccaphhmcaa
open Go.RowKit
set_option linter.unusedVariables false
def endp (q : Qv) : Nat → List Int → Option Nat
 | v, [] => some v
 | v, a :: al => if 0 ≤ a ∧ a < q.src.length ∧ gx q.src a.toNat = v then endp q (gx q.tgt a.toNat).toNat al else none
theorem endp_app (q : Qv) : ∀ (a b : List Int) (v : Nat), endp q v (a ++ b) = (endp q v a).bind fun e => endp q e b
 | [], b, v => rfl
 | x :: a, b, v => by
  simp only [List.cons_append, endp]
  split
  ·exact endp_app q a b _
  ·rfl
theorem endp_one {q : Qv} {v : Nat} {i : Nat} (hi : i < q.src.length) (hs : gx q.src i = v) : endp q v [(i : Int)] = some (gx q.tgt i).toNat := by
 simp only [endp]
 rw [if_pos ⟨by omega, by omega, by rw [Int.toNat_natCast]; exact hs⟩, Int.toNat_natCast]
theorem endp_cons {q : Qv} {v : Nat} {i : Nat} (hi : i < q.src.length) (hs : gx q.src i = v) (al : List Int) : endp q v ((i : Int) :: al) = endp q (gx q.tgt i).toNat al := by
 simp only [endp]
 rw [if_pos ⟨by omega, by omega, by rw [Int.toNat_natCast]; exact hs⟩, Int.toNat_natCast]
theorem endp_snoc {q : Qv} {v e : Nat} {al : List Int} (h : endp q v al = some e) {i : Nat} (hi : i < q.src.length) (hs : gx q.src i = e) : endp q v (al ++ [(i : Int)]) = some (gx q.tgt i).toNat := by
 rw [endp_app, h]
 exact endp_one hi hs
theorem endp_last {q : Qv} {v e : Nat} {al : List Int} {a : Int} (h : endp q v (al ++ [a]) = some e) : ∃ e', endp q v al = some e' ∧ 0 ≤ a ∧ a < q.src.length ∧ gx q.src a.toNat = e' ∧ e = (gx q.tgt a.toNat).toNat := by
 rw [endp_app] at h
 cases h1 : endp q v al with
 | none => rw [h1] at h; cases h
 | some e' =>
  rw [h1] at h
  simp only [Option.bind_some, endp] at h
  split at h
  ·rename_i h2
   cases h
   exact ⟨e', rfl, h2.1, h2.2.1, h2.2.2, rfl⟩
  ·cases h
theorem n_end {q : Qv} {n : Nat} (Q : QOk q n) {v e : Nat} {al : List Int} (h : endp q v al = some e) (hl : al.length ≤ 1000) : m_impl_Quiver_end q ⟨v, al⟩ = some (e : Int) := by
 unfold m_impl_Quiver_end
 simp only
 rcases List.eq_nil_or_concat al with rfl | ⟨b, a, rfl⟩
 ·simp only [endp, Option.some.injEq] at h
  subst h
  rfl
 ·rw [List.concat_eq_append] at h hl ⊢
  obtain ⟨e', h1, h2, h3, h4, h5⟩ := endp_last h
  have ht := Q.tgt _ (mem_gx (x := q.tgt) (i := a.toNat) (by rw [← Q.eq]; omega))
  simp only [List.length_append, List.length_cons, List.length_nil] at hl
  rw [decide_eq_false (by simp; omega), cond_false, wr_sm (by simp; omega),
   show atL (b ++ [a]) (((b ++ [a]).length : Int) - 1) = some a by
    rw [show (((b ++ [a]).length : Int) - 1) = ((b.length : Nat) : Int) by simp]
    rw [at_gx (by simp)]; simp [gx], Option.bind_some, atI 0 h2 (by rw [← Q.eq]; omega), Option.bind_some, h5, Int.toNat_of_nonneg ht.1]
  rfl
def pcn (q : Qv) (w : Nat) : Nat → Nat → Nat
 | 0, _ => 0
 | f + 1, e => (if e = w then 1 else 0) + ((List.range q.src.length).map fun i => if gx q.src i = e then pcn q w f (gx q.tgt i).toNat else 0).sum
def pf (q : Qv) : Nat → Pa → Nat → List Pa
 | 0, _, _ => []
 | f + 1, x, e => x :: (List.range q.src.length).flatMap fun i => if gx q.src i = e then pf q f ⟨x.start, x.arrows ++ [(i : Int)]⟩ (gx q.tgt i).toNat else []
def sf (q : Qv) : Nat → Nat → List Pa
 | 0, _ => []
 | f + 1, v => ⟨v, []⟩ :: (List.range q.src.length).flatMap fun i => if gx q.src i = v then (sf q f (gx q.tgt i).toNat).map (fun l => ⟨v, (i : Int) :: l.arrows⟩) else []
theorem flat_bd {α : Type} (g : Nat → List α) (B : Nat) : ∀ m, (∀ i, i < m → (g i).length ≤ B) → ((List.range m).flatMap g).length ≤ m * B
 | 0, _ => by simp
 | m + 1, h => by
  have := flat_bd g B m fun i hi => h i (by omega)
  have h2 := h m (by omega)
  rw [List.range_succ, List.flatMap_append, List.length_append, Nat.add_mul]
  simp only [List.flatMap_cons, List.flatMap_nil, List.append_nil]
  omega
theorem pow7 (f : Nat) : 1 + 6 * 7 ^ f ≤ 7 ^ (f + 1) := by
 have : 0 < 7 ^ f := Nat.pow_pos (by omega)
 rw [Nat.pow_succ]
 omega
theorem pow7_le : ∀ f, f ≤ 8 → 7 ^ f ≤ 5764801 := by
 intro f hf
 calc 7 ^ f ≤ 7 ^ 8 := Nat.pow_le_pow_right (by omega) hf
  _ = 5764801 := by decide
theorem pf_len {q : Qv} (m6 : q.src.length ≤ 6) : ∀ (f : Nat) (x : Pa) (e : Nat), (pf q f x e).length ≤ 7 ^ f
 | 0, x, e => by simp [pf]
 | f + 1, x, e => by
  have h := flat_bd (fun i => if gx q.src i = e then pf q f ⟨x.start, x.arrows ++ [(i : Int)]⟩ (gx q.tgt i).toNat else []) (7 ^ f) q.src.length (fun i _ => by
   split
   ·exact pf_len m6 f _ _
   ·simp)
  have h2 := pow7 f
  have h3 : q.src.length * 7 ^ f ≤ 6 * 7 ^ f := Nat.mul_le_mul_right _ m6
  simp only [pf, List.length_cons]
  omega
theorem sf_len {q : Qv} (m6 : q.src.length ≤ 6) : ∀ (f v : Nat), (sf q f v).length ≤ 7 ^ f
 | 0, v => by simp [sf]
 | f + 1, v => by
  have h := flat_bd (fun i => if gx q.src i = v then (sf q f (gx q.tgt i).toNat).map (fun l => (⟨v, (i : Int) :: l.arrows⟩ : Pa)) else []) (7 ^ f) q.src.length (fun i _ => by
   split
   ·rw [List.length_map]; exact sf_len m6 f _
   ·simp)
  have h2 := pow7 f
  have h3 : q.src.length * 7 ^ f ≤ 6 * 7 ^ f := Nat.mul_le_mul_right _ m6
  simp only [sf, List.length_cons]
  omega
theorem pf_ok {q : Qv} {v : Nat} : ∀ (f : Nat) {x : Pa} {e : Nat}, x.start = v → endp q v x.arrows = some e → ∀ y ∈ pf q f x e, y.start = v ∧ y.arrows.length ≤ x.arrows.length + f ∧ ∃ e', endp q v y.arrows = some e'
 | 0, x, e, hs, he, y, hy => by cases hy
 | f + 1, x, e, hs, he, y, hy => by
  simp only [pf] at hy
  rcases List.mem_cons.1 hy with rfl | hy
  ·exact ⟨hs, by omega, e, he⟩
  ·obtain ⟨i, hi, hy⟩ := List.mem_flatMap.1 hy
   have hi := List.mem_range.1 hi
   split at hy
   ·rename_i h1
    obtain ⟨k1, k2, k3⟩ := pf_ok f (x := ⟨x.start, x.arrows ++ [(i : Int)]⟩) hs (endp_snoc he hi h1) y hy
    refine ⟨k1, ?_, k3⟩
    simp only [List.length_append, List.length_cons, List.length_nil] at k2
    omega
   ·cases hy
theorem sf_ok {q : Qv} : ∀ (f v : Nat), ∀ y ∈ sf q f v, y.start = v ∧ y.arrows.length ≤ f ∧ ∃ e', endp q v y.arrows = some e'
 | 0, v, y, hy => by cases hy
 | f + 1, v, y, hy => by
  simp only [sf] at hy
  rcases List.mem_cons.1 hy with rfl | hy
  ·exact ⟨rfl, by simp, v, rfl⟩
  ·obtain ⟨i, hi, hy⟩ := List.mem_flatMap.1 hy
   have hi := List.mem_range.1 hi
   split at hy
   ·rename_i h1
    obtain ⟨l, hl, rfl⟩ := List.mem_map.1 hy
    obtain ⟨k1, k2, e', k3⟩ := sf_ok f _ l hl
    exact ⟨rfl, by simp only [List.length_cons]; omega, e', by rw [endp_cons hi h1]; exact k3⟩
   ·cases hy
theorem pf_count {q : Qv} {v w : Nat} : ∀ (f : Nat) {x : Pa} {e : Nat}, endp q v x.arrows = some e → ((pf q f x e).filter fun y => decide (endp q v y.arrows = some w)).length = pcn q w f e
 | 0, x, e, _ => by simp [pf, pcn]
 | f + 1, x, e, he => by
  simp only [pf, pcn, List.filter_cons, List.filter_flatMap]
  have h1 : ((List.range q.src.length).flatMap fun i => List.filter (fun y => decide (endp q v y.arrows = some w)) (if gx q.src i = e then pf q f ⟨x.start, x.arrows ++ [(i : Int)]⟩ (gx q.tgt i).toNat else [])).length = ((List.range q.src.length).map fun i => if gx q.src i = e then pcn q w f (gx q.tgt i).toNat else 0).sum := by
   rw [List.length_flatMap]
   congr 1
   refine List.map_congr_left fun i hi => ?_
   have hi := List.mem_range.1 hi
   split
   ·rename_i h1
    exact pf_count f (endp_snoc he hi h1)
   ·rfl
  rw [he]
  by_cases hw : e = w
  ·subst hw
   rw [decide_eq_true rfl, if_pos rfl, if_pos rfl, List.length_cons, h1]; omega
  ·rw [decide_eq_false (fun h => hw (by simpa using h)), if_neg (by simp), if_neg hw, h1]; omega
theorem sf_count {q : Qv} {w : Nat} : ∀ (f v : Nat), ((sf q f v).filter fun y => decide (endp q v y.arrows = some w)).length = pcn q w f v
 | 0, v => by simp [sf, pcn]
 | f + 1, v => by
  simp only [sf, pcn, List.filter_cons, List.filter_flatMap]
  have h1 : ((List.range q.src.length).flatMap fun i => List.filter (fun y => decide (endp q v y.arrows = some w)) (if gx q.src i = v then (sf q f (gx q.tgt i).toNat).map (fun l => (⟨v, (i : Int) :: l.arrows⟩ : Pa)) else [])).length = ((List.range q.src.length).map fun i => if gx q.src i = v then pcn q w f (gx q.tgt i).toNat else 0).sum := by
   rw [List.length_flatMap]
   congr 1
   refine List.map_congr_left fun i hi => ?_
   have hi := List.mem_range.1 hi
   split
   ·rename_i h1
    rw [List.filter_map, List.length_map, ← sf_count f]
    congr 1
    refine List.filter_congr fun y _ => ?_
    simp only [Function.comp_apply]
    rw [endp_cons hi h1]
   ·rfl
  rw [show endp q v (⟨(v : Int), []⟩ : Pa).arrows = some v from rfl]
  by_cases hw : v = w
  ·subst hw
   rw [decide_eq_true rfl, if_pos rfl, if_pos rfl, List.length_cons, h1]; omega
  ·rw [decide_eq_false (fun h => hw (by simpa using h)), if_neg (by simp), if_neg hw, h1]; omega
theorem n_pathsFrom {q : Qv} {n : Nat} (Q : QOk q n) {L : List Int} (hT : Topo q n L) {v : Nat} (hv : v < n) : ∀ (f : Nat) {x : Pa} {e : Nat}, x.start = v → endp q v x.arrows = some e → e < n → n ≤ rk L e + f → f ≤ 8 → x.arrows.length + f ≤ 100 → m_impl_Quiver_pathsFrom f q x = some (pf q f x e)
 | 0, x, e, _, _, he, hf, _, _ => by have := hT.rk_lt he; omega
 | f + 1, x, e, hs, hp, he, hf, h8, hl => by
  have m6 := Q.m6
  have hend : m_impl_Quiver_end q x = some (e : Int) := by
   have := n_end Q hp (by omega)
   rw [← hs] at this
   exact this
  have key : Lp (m_impl_Quiver_pathsFrom_L1 (m_impl_Quiver_pathsFrom f) q x) ([x], 0) = some (pf q (f + 1) x e) := by
   refine Lp_go (fun k => (x :: (List.range k).flatMap fun i => if gx q.src i = e then pf q f ⟨x.start, x.arrows ++ [(i : Int)]⟩ (gx q.tgt i).toNat else [], (k : Int))) q.src.length rfl (fun k hk => ?_) (fun _ => ?_)
   ·obtain ⟨s, t, hsn, htn, e1, e2, e3, e4⟩ := Q.arrow hk
    unfold m_impl_Quiver_pathsFrom_L1
    simp only
    rw [dlt hk, cond_true, at_gx hk, Option.bind_some, hend, Option.bind_some, List.range_succ, List.flatMap_append]
    simp only [List.flatMap_cons, List.flatMap_nil, List.append_nil]
    by_cases h1 : gx q.src k = (e : Int)
    ·have hse : s = e := by omega
     subst hse
     have hrk := hT.rk_arrow hk e1 e2 htn
     have hrt := hT.rk_lt htn
     have ht : (gx q.tgt k).toNat = t := by omega
     have ih := n_pathsFrom Q hT hv f (x := ⟨x.start, x.arrows ++ [(k : Int)]⟩) (e := t) hs (by rw [endp_snoc hp hk h1, ht]) htn (by omega) (by omega) (by simp; omega)
     have b1 := pf_len m6 f (⟨x.start, x.arrows ++ [(k : Int)]⟩ : Pa) t
     have b2 := flat_bd (fun i => if gx q.src i = (s : Int) then pf q f ⟨x.start, x.arrows ++ [(i : Int)]⟩ (gx q.tgt i).toNat else []) (7 ^ f) k (fun i _ => by
      split
      ·exact pf_len m6 f _ _
      ·simp)
     have b3 := pow7_le f (by omega)
     have b4 : k * 7 ^ f ≤ 6 * 7 ^ f := Nat.mul_le_mul_right _ (by omega)
     rw [decide_eq_true h1, cond_true, if_pos h1]
     unfold m_Clone
     rw [decide_eq_true (by omega), cond_true, Option.bind_some, decide_eq_true (by simp; omega), cond_true, ih, Option.bind_some, decide_eq_true (by simp only [List.length_cons]; omega), cond_true, ht, wr_suc hk (by omega)]
     rfl
    ·rw [decide_eq_false h1, cond_false, if_neg h1, List.append_nil, wr_suc hk (by omega)]
   ·unfold m_impl_Quiver_pathsFrom_L1
    simp only
    rw [dnl (Nat.le_refl _), cond_false]
    rfl
  show m_impl_Quiver_pathsFrom_b (m_impl_Quiver_pathsFrom f) q x = _
  unfold m_impl_Quiver_pathsFrom_b
  rw [key, Option.bind_some]
theorem n_IndexP {v : List Pa} {f : Pa → Option Bool} (P : Pa → Bool) (hf : ∀ x ∈ v, f x = some (P x)) (h : v.length ≤ 1000000000) :
  (m_slices_IndexFunc_Limpl_Path_impl_Path v f = some (-1) ∧ ∀ x ∈ v, P x = false) ∨ ∃ k : Nat, k < v.length ∧ m_slices_IndexFunc_Limpl_Path_impl_Path v f = some (k : Int) ∧ (∀ x ∈ v.take k, P x = false) ∧ ∀ x, v[k]? = some x → P x = true := by
 have key : ∀ d k : Nat, k + d = v.length → (∀ x ∈ v.take k, P x = false) → (Lp (m_slices_IndexFunc_Limpl_Path_impl_Path_L1 v f) (k : Int) = some (.inl ()) ∧ ∀ x ∈ v, P x = false) ∨ ∃ j : Nat, j < v.length ∧ Lp (m_slices_IndexFunc_Limpl_Path_impl_Path_L1 v f) (k : Int) = some (.inr (j : Int)) ∧ (∀ x ∈ v.take j, P x = false) ∧ ∀ x, v[j]? = some x → P x = true := by
  intro d
  induction d with
  | zero =>
   intro k hk hp
   refine .inl ⟨Lp_stop ?_, fun x hx => hp x (by rw [List.take_of_length_le (by omega)]; exact hx)⟩
   unfold m_slices_IndexFunc_Limpl_Path_impl_Path_L1
   rw [dnl (by omega), cond_false]
  | succ d ih =>
   intro k hk hp
   have hkl : k < v.length := by omega
   have hb : m_slices_IndexFunc_Limpl_Path_impl_Path_L1 v f (k : Int) = some (bif P v[k] then .inr (.inr (k : Int)) else .inl (wr ((k : Int) + 1))) := by
    unfold m_slices_IndexFunc_Limpl_Path_impl_Path_L1
    rw [dlt hkl, cond_true, atL_nat hkl, Option.bind_some, hf _ (List.getElem_mem hkl), Option.bind_some]
    cases P v[k] <;> rfl
   cases hP : P v[k] with
   | true =>
    rw [hP] at hb
    exact .inr ⟨k, hkl, Lp_stop hb, hp, fun x hx => by rw [List.getElem?_eq_getElem hkl] at hx; cases hx; exact hP⟩
   | false =>
    rw [hP] at hb
    rw [Lp_step hb, wr_suc hkl (by omega)]
    refine ih (k + 1) (by omega) fun x hx => ?_
    rw [List.take_add_one, List.getElem?_eq_getElem hkl] at hx
    rcases List.mem_append.1 hx with hx | hx
    ·exact hp x hx
    ·simp only [Option.toList_some, List.mem_singleton] at hx
     rw [hx]; exact hP
 unfold m_slices_IndexFunc_Limpl_Path_impl_Path
 rcases key v.length 0 (by omega) (by simp) with ⟨h1, h2⟩ | ⟨k, h1, h2, h3, h4⟩
 ·refine .inl ⟨?_, h2⟩
  rw [show ((0 : Nat) : Int) = 0 from rfl] at h1
  rw [h1]; rfl
 ·refine .inr ⟨k, h1, ?_, h3, h4⟩
  rw [show ((0 : Nat) : Int) = 0 from rfl] at h2
  rw [h2]; rfl
theorem n_deleteP {v : List Pa} {f : Pa → Option Bool} (P : Pa → Bool) (hf : ∀ x ∈ v, f x = some (P x)) (h : v.length ≤ 1000000000) : m_slices_DeleteFunc_Limpl_Path_impl_Path v f = some (v.filter fun x => !P x) := by
 unfold m_slices_DeleteFunc_Limpl_Path_impl_Path
 rcases n_IndexP P hf h with ⟨h1, h2⟩ | ⟨i0, h1, h2, h3, h4⟩
 ·rw [h1, Option.bind_some, decide_eq_true rfl, cond_true, List.filter_eq_self.2 fun x hx => by rw [h2 x hx]; rfl]
 ·rw [h2, Option.bind_some, decide_eq_false (by omega), cond_false]
  have key : ∃ r, Lp (m_slices_DeleteFunc_Limpl_Path_impl_Path_L1 f) (v, (i0 : Int), wr ((i0 : Int) + 1)) = some r ∧ ∃ i : Nat, r.2 = (i : Int) ∧ r.1.length = v.length ∧ i ≤ v.length ∧ r.1.take i = v.filter fun x => !P x := by
   refine Lp_meas (fun x => ∃ i j : Nat, x.2.1 = (i : Int) ∧ x.2.2 = (j : Int) ∧ i < j ∧ j ≤ v.length ∧ x.1.length = v.length ∧ x.1.take i = (v.take j).filter (fun x => !P x) ∧ x.1.drop j = v.drop j) (fun x => v.length - x.2.2.toNat) _ ?_ ?_
   ·refine ⟨i0, i0 + 1, rfl, by simp only; rw [wr_suc h1 (by omega)], by omega, by omega, rfl, ?_, rfl⟩
    rw [List.take_add_one, List.getElem?_eq_getElem h1, List.filter_append, Option.toList_some, List.filter_cons, h4 _ (List.getElem?_eq_getElem h1), List.filter_eq_self.2 fun x hx => by rw [h3 x hx]; rfl]
    simp
   ·rintro ⟨l, a, b⟩ ⟨i, j, rfl, rfl, hij, hj, hlen, htk, hdr⟩
    simp only at hlen htk hdr
    by_cases hjl : j < v.length
    ·left
     have hjl2 : j < l.length := by omega
     have hat : l[j] = v[j] := by
      have e1 := congrArg List.head? hdr
      simpa [List.head?_drop, hjl, hjl2] using e1
     have hil : i < l.length := by omega
     have hmem : v[j] ∈ v := List.getElem_mem hjl
     have htk2 : v.take (j + 1) = v.take j ++ [v[j]] := by rw [List.take_add_one, List.getElem?_eq_getElem hjl]; rfl
     have hdr2 : l.drop (j + 1) = v.drop (j + 1) := by
      have := congrArg List.tail hdr
      simpa [List.tail_drop] using this
     cases hP : P v[j] with
     | true =>
      refine ⟨(l, (i : Int), ((j + 1 : Nat) : Int)), ?_, ⟨i, j + 1, rfl, rfl, by omega, by omega, hlen, ?_, hdr2⟩, ?_⟩
      ·unfold m_slices_DeleteFunc_Limpl_Path_impl_Path_L1
       simp only
       rw [dlt hjl2, cond_true, atL_nat hjl2, Option.bind_some, hat, hf _ hmem, Option.bind_some, hP, Bool.not_true, cond_false, wr_suc hjl2 (by omega)]
      ·rw [htk2, List.filter_append, htk]
       simp [hP]
      ·simp only [Int.toNat_natCast]; omega
     | false =>
      refine ⟨(l.set i v[j], ((i + 1 : Nat) : Int), ((j + 1 : Nat) : Int)), ?_, ⟨i + 1, j + 1, rfl, rfl, by omega, by omega, by rw [List.length_set]; exact hlen, ?_, ?_⟩, ?_⟩
      ·unfold m_slices_DeleteFunc_Limpl_Path_impl_Path_L1
       simp only
       rw [dlt hjl2, cond_true, atL_nat hjl2, Option.bind_some, hat, hf _ hmem, Option.bind_some, hP, Bool.not_false, cond_true, atL_nat hil, Option.bind_some, Int.toNat_natCast, wr_suc hjl2 (by omega), wr_suc hil (by omega)]
      ·rw [htk2, List.filter_append, ← htk, List.take_add_one, List.getElem?_set_self hil]
       simp [hP, List.take_set_of_le]
      ·show (l.set i v[j]).drop (j + 1) = _
       rw [List.drop_set_of_lt (by omega)]
       exact hdr2
      ·simp only [Int.toNat_natCast]; omega
    ·right
     have hje : j = v.length := by omega
     subst hje
     refine ⟨(l, (i : Int)), ?_, i, rfl, hlen, by omega, ?_⟩
     ·unfold m_slices_DeleteFunc_Limpl_Path_impl_Path_L1
      simp only
      rw [dnl (by omega), cond_false]
     ·rw [List.take_length] at htk
      exact htk
  obtain ⟨⟨l, a⟩, e1, i, rfl, e3, e4, e5⟩ := key
  rw [e1, Option.bind_some]
  simp only at e3 e5 ⊢
  rw [decide_eq_true (show (0 : Int) ≤ (i : Int) by omega), decide_eq_true (show (i : Int) ≤ (l.length : Nat) by omega), decide_eq_true (show ((l.length : Nat) : Int) ≤ (l.length : Nat) by omega), decide_eq_true (show (0 : Nat) ≤ 0 by omega)]
  simp only [Bool.and_self, cond_true, Int.toNat_natCast]
  rw [e5]
theorem n_implPathsB {q : Qv} {n : Nat} (Q : QOk q n) {L : List Int} (hT : Topo q n L) {v w : Nat} (hv : v < n) : ∃ l, m_impl_Quiver_pathsBetween q v w = some l ∧ l.length = pcn q w 8 v ∧ l = (pf q 8 ⟨v, []⟩ v).filter fun y => decide (endp q v y.arrows = some w) := by
 have n5 := Q.n5
 have hb := pf_len Q.m6 8 (⟨v, []⟩ : Pa) v
 have h7 := pow7_le 8 (Nat.le_refl _)
 have hok := pf_ok (q := q) (v := v) 8 (x := ⟨v, []⟩) (e := v) rfl rfl
 refine ⟨_, ?_, pf_count 8 (x := ⟨v, []⟩) rfl, rfl⟩
 unfold m_impl_Quiver_pathsBetween
 rw [n_pathsFrom Q hT hv 8 (x := ⟨v, []⟩) (e := v) rfl rfl hv (by omega) (Nat.le_refl _) (by simp), Option.bind_some,
  n_deleteP (fun y => !decide (endp q v y.arrows = some w)) (fun y hy => ?_) (by omega), Option.bind_some]
 ·congr 2
  funext y
  rw [Bool.not_not]
 ·obtain ⟨k1, k2, e', k3⟩ := hok y hy
  have he : m_impl_Quiver_end q y = some (e' : Int) := by
   have := n_end Q k3 (by simp at k2; omega)
   rw [← k1] at this
   exact this
  unfold m_impl_Quiver_pathsBetween_1
  rw [he, Option.bind_some, k3]
  congr 2
  rw [Bool.eq_iff_iff, decide_eq_true_eq, decide_eq_true_eq]
  simp
  omega
theorem n_l7From {q : Qv} {n : Nat} (Q : QOk q n) {L : List Int} (hT : Topo q n L) : ∀ (f v : Nat), v < n → n ≤ rk L v + f → f ≤ 8 → m_spec_l7From f q (v : Int) = some (sf q f v)
 | 0, v, hv, hf, _ => by have := hT.rk_lt hv; omega
 | f + 1, v, hv, hf, h8 => by
  have m6 := Q.m6
  have key : Lp (m_spec_l7From_L1 (m_spec_l7From f) q (v : Int)) (0, [(⟨(v : Int), []⟩ : Pa)]) = some (sf q (f + 1) v) := by
   refine Lp_go (fun k => ((k : Int), (⟨(v : Int), []⟩ : Pa) :: (List.range k).flatMap fun i => if gx q.src i = v then (sf q f (gx q.tgt i).toNat).map (fun l => ⟨v, (i : Int) :: l.arrows⟩) else [])) q.src.length rfl (fun k hk => ?_) (fun _ => ?_)
   ·obtain ⟨s, t, hsn, htn, e1, e2, e3, e4⟩ := Q.arrow hk
    unfold m_spec_l7From_L1
    simp only
    rw [dlt hk, cond_true, at_gx hk, Option.bind_some, List.range_succ, List.flatMap_append]
    simp only [List.flatMap_cons, List.flatMap_nil, List.append_nil]
    by_cases h1 : gx q.src k = (v : Int)
    ·have hse : s = v := by omega
     subst hse
     have hrk := hT.rk_arrow hk e1 e2 htn
     have hrt := hT.rk_lt htn
     have ht : (gx q.tgt k).toNat = t := by omega
     have ih := n_l7From Q hT f t htn (by omega) (by omega)
     have hok := sf_ok (q := q) f t
     have b1 := sf_len m6 f t
     have b2 := flat_bd (fun i => if gx q.src i = (s : Int) then (sf q f (gx q.tgt i).toNat).map (fun l => (⟨(s : Int), (i : Int) :: l.arrows⟩ : Pa)) else []) (7 ^ f) k (fun i _ => by
      split
      ·rw [List.length_map]; exact sf_len m6 f _
      ·simp)
     have b3 := pow7_le f (by omega)
     have b4 : k * 7 ^ f ≤ 6 * 7 ^ f := Nat.mul_le_mul_right _ (by omega)
     rw [decide_eq_true h1, Bool.not_true, cond_false, if_pos h1, at_gx (by rw [← Q.eq]; exact hk), Option.bind_some, e2, ih, Option.bind_some]
     obtain ⟨pre, hpre⟩ : ∃ pre : List Pa, pre = (⟨(s : Int), []⟩ : Pa) :: (List.range k).flatMap fun i => if gx q.src i = (s : Int) then (sf q f (gx q.tgt i).toNat).map (fun l => (⟨(s : Int), (i : Int) :: l.arrows⟩ : Pa)) else [] := ⟨_, rfl⟩
     have hpl : pre.length ≤ 1 + 6 * 7 ^ f := by rw [hpre, List.length_cons]; omega
     rw [← hpre]
     have hin : Lp (m_spec_l7From_L2 (s : Int) (sf q f t) ((k : Int), pre)) (pre, 0) = some (pre ++ (sf q f t).map fun l => (⟨(s : Int), (k : Int) :: l.arrows⟩ : Pa)) := by
      refine Lp_go (fun j => (pre ++ ((sf q f t).take j).map fun l => (⟨(s : Int), (k : Int) :: l.arrows⟩ : Pa), (j : Int))) (sf q f t).length (by simp) (fun j hj => ?_) (fun _ => ?_)
      ·unfold m_spec_l7From_L2
       simp only
       have hjl := (hok _ (List.getElem_mem hj)).2.1
       rw [dlt hj, cond_true, atL_nat hj, Option.bind_some, decide_eq_true (by simp; omega), cond_true, decide_eq_true (by simp; omega), cond_true, wr_suc hj (by omega), List.take_add_one, List.getElem?_eq_getElem hj, List.map_append, ← List.append_assoc]
       rfl
      ·unfold m_spec_l7From_L2
       simp only
       rw [dnl (Nat.le_refl _), cond_false, List.take_length]
     rw [hin, Option.bind_some, wr_suc hk (by omega), Int.toNat_natCast, hpre]
     rfl
    ·rw [decide_eq_false h1, Bool.not_false, cond_true, if_neg h1, List.append_nil, wr_suc hk (by omega)]
   ·unfold m_spec_l7From_L1
    simp only
    rw [dnl (Nat.le_refl _), cond_false]
    rfl
  show m_spec_l7From_b (m_spec_l7From f) q (v : Int) = _
  unfold m_spec_l7From_b
  rw [key, Option.bind_some]
theorem endp_lt {q : Qv} {n : Nat} (Q : QOk q n) : ∀ {al : List Int} {v e : Nat}, v < n → endp q v al = some e → e < n
 | [], v, e, hv, h => by simp only [endp, Option.some.injEq] at h; omega
 | a :: al, v, e, hv, h => by
  simp only [endp] at h
  split at h
  ·rename_i h1
   have := Q.tgt _ (mem_gx (x := q.tgt) (i := a.toNat) (by rw [← Q.eq]; omega))
   exact endp_lt Q (by omega) h
  ·cases h
theorem n_isPath {q : Qv} {n : Nat} (Q : QOk q n) {v e : Nat} {al : List Int} (hv : v < n) (h : endp q v al = some e) (hl : al.length ≤ 20) : m_spec_IsPath q ⟨v, al⟩ = some true := by
 have n5 := Q.n5
 have m6 := Q.m6
 have hpre : ∀ k, k ≤ al.length → ∃ e', endp q v (al.take k) = some e' := by
  intro k hk
  rw [← List.take_append_drop k al, endp_app] at h
  cases h1 : endp q v (al.take k) with
  | none => rw [h1] at h; cases h
  | some e' => exact ⟨e', rfl⟩
 unfold m_spec_IsPath
 rw [n_specQ Q.bq, Q.qv, Option.bind_some, Bool.not_true, cond_false, n_l1In, Option.bind_some, Q.n0, wr_sm (by omega), inR_mk (by show (0 : Int) ≤ (v : Int); omega) (by show (v : Int) ≤ (n : Int) - 1; omega), Bool.not_true, cond_false, decide_eq_false (by simp only; omega), cond_false,
  Lp_go (r := .inl ()) (fun k => ((((endp q v (al.take k)).getD 0 : Nat) : Int), (k : Int))) al.length (by simp [endp]) (fun k hk => ?_) (fun _ => ?_)]
 ·rfl
 ·obtain ⟨e1, h1⟩ := hpre (k + 1) (by omega)
  have h2 := h1
  rw [List.take_add_one, List.getElem?_eq_getElem hk, Option.toList_some] at h2
  obtain ⟨e0, g1, g2, g3, g4, g5⟩ := endp_last h2
  have ht := Q.tgt _ (mem_gx (x := q.tgt) (i := al[k].toNat) (by rw [← Q.eq]; omega))
  unfold m_spec_IsPath_L1
  simp only
  rw [dlt hk, cond_true, atL_nat hk, Option.bind_some, n_l1In, Option.bind_some, wr_sm (by omega), inR_mk g2 (by omega), Bool.not_true, cond_false, Option.bind_some, atI 0 g2 (by omega), Option.bind_some, g1, h1]
  have g4' : q.src[al[k].toNat]?.getD 0 = (e0 : Int) := g4
  rw [g4', Option.getD_some, decide_eq_true rfl, Bool.not_true, cond_false, Option.bind_some, atI 0 g2 (by rw [← Q.eq]; omega), Option.bind_some, wr_suc hk (by omega), Option.getD_some, g5, Int.toNat_of_nonneg ht.1]
  rfl
 ·unfold m_spec_IsPath_L1
  simp only
  rw [dnl (Nat.le_refl _), cond_false]
theorem n_specEnd {q : Qv} {n : Nat} (Q : QOk q n) {v e : Nat} {al : List Int} (hv : v < n) (h : endp q v al = some e) (hl : al.length ≤ 20) : m_spec_EndOf q ⟨v, al⟩ = some (e : Int) := by
 unfold m_spec_EndOf
 rw [n_isPath Q hv h hl, Option.bind_some, Bool.not_true, cond_false]
 have := n_end Q h (by omega)
 unfold m_impl_Quiver_end at this
 exact this
theorem n_specPathsB {q : Qv} {n : Nat} (Q : QOk q n) {L : List Int} (hT : Topo q n L) {v w : Nat} (hv : v < n) : Lp (m_spec_PathsBetween_L1 q (w : Int) (sf q 8 v)) ([], 0) = some ((sf q 8 v).filter fun y => decide (endp q v y.arrows = some w)) := by
 have hb := sf_len Q.m6 8 v
 have h7 := pow7_le 8 (Nat.le_refl _)
 have hok := sf_ok (q := q) 8 v
 refine Lp_go (fun j => (((sf q 8 v).take j).filter fun y => decide (endp q v y.arrows = some w), (j : Int))) (sf q 8 v).length (by simp) (fun j hj => ?_) (fun _ => ?_)
 ·obtain ⟨k1, k2, e', k3⟩ := hok _ (List.getElem_mem hj)
  have he : m_spec_EndOf q (sf q 8 v)[j] = some (e' : Int) := by
   have := n_specEnd Q hv k3 (by omega)
   rw [← k1] at this
   exact this
  have hfl := List.length_filter_le (fun y : Pa => decide (endp q v y.arrows = some w)) ((sf q 8 v).take j)
  rw [List.length_take] at hfl
  unfold m_spec_PathsBetween_L1
  simp only
  rw [dlt hj, cond_true, atL_nat hj, Option.bind_some, he, Option.bind_some, List.take_add_one, List.getElem?_eq_getElem hj, List.filter_append, wr_suc hj (by omega)]
  simp only [Option.toList_some, List.filter_cons, List.filter_nil, k3]
  by_cases h1 : e' = w
  ·subst h1
   rw [decide_eq_true rfl, cond_true, Option.bind_some, decide_eq_true (by omega), cond_true, decide_eq_true rfl, if_pos rfl]
  ·rw [decide_eq_false (fun h => h1 (by omega)), cond_false, decide_eq_false (fun h => h1 (by simpa using h)), if_neg (by simp), List.append_nil]
 ·unfold m_spec_PathsBetween_L1
  simp only
  rw [dnl (Nat.le_refl _), cond_false, List.take_length]
theorem n_acyc {q : Qv} {n : Nat} (Q : QOk q n) : m_impl_IsAcyclic q = some (ordF q n).2 ∧ m_spec_IsAcyclic q = some (ordF q n).2 := by
 constructor
 ·unfold m_impl_IsAcyclic; rw [n_implOrder Q, Option.bind_some]
 ·unfold m_spec_IsAcyclic; rw [n_specOrder Q, Option.bind_some]
theorem n_acycN {q : Qv} (hb : bQ q) (hv : quivV q = false) : m_impl_IsAcyclic q = some false ∧ m_spec_IsAcyclic q = some false := by
 constructor
 ·unfold m_impl_IsAcyclic; rw [(n_orderN hb hv).1, Option.bind_some]
 ·unfold m_spec_IsAcyclic; rw [(n_orderN hb hv).2, Option.bind_some]
theorem n_hasV {q : Qv} {n : Nat} (Q : QOk q n) (v : Int) : m_impl_Quiver_hasVertex q v = some (inR v 0 ((n : Int) - 1)) := by
 have n5 := Q.n5
 unfold m_impl_Quiver_hasVertex
 rw [n_within, Option.bind_some, Q.n0, wr_sm (by omega)]
theorem n_counts {q : Qv} {n : Nat} (Q : QOk q n) {L : List Int} (hT : ordF q n = (L, true)) {v w : Nat} (hv : v < n) (hw : w < n) : m_impl_CountPaths q v w = some ((pcn q w 8 v : Nat) : Int) ∧ m_spec_CountPaths q v w = some ((pcn q w 8 v : Nat) : Int) := by
 have n5 := Q.n5
 have hT' := ordF_topo hT
 have hrv := hT'.rk_lt hv
 constructor
 ·obtain ⟨l, h1, h2, _⟩ := n_implPathsB Q hT' (w := w) hv
  unfold m_impl_CountPaths m_impl_PathsBetween
  rw [(n_acyc Q).1, hT, Option.bind_some, Bool.not_true, cond_false, n_hasV Q, Option.bind_some, inR_mk (by omega) (by omega), Bool.not_true, cond_false, n_hasV Q, Option.bind_some, inR_mk (by omega) (by omega), Bool.not_true, cond_false, h1, Option.bind_some, Option.bind_some, Bool.not_true, cond_false, h2]
 ·unfold m_spec_CountPaths m_spec_PathsBetween
  rw [(n_acyc Q).2, hT, Option.bind_some, Bool.not_true, cond_false, n_l1In, Option.bind_some, Q.n0, wr_sm (by omega), inR_mk (by omega) (by omega), Bool.not_true, cond_false, n_l1In, Option.bind_some, inR_mk (by omega) (by omega), Bool.not_true, cond_false, n_l7From Q hT' 8 v hv (by omega) (Nat.le_refl _), Option.bind_some, n_specPathsB Q hT' hv, Option.bind_some, Option.bind_some, Bool.not_true, cond_false, sf_count]
def projL (q : Qv) (n v : Nat) : List Int := rowL n fun w => ((pcn q w 8 v : Nat) : Int)
theorem n_projs {q : Qv} {n : Nat} (Q : QOk q n) {L : List Int} (hT : ordF q n = (L, true)) {v : Nat} (hv : v < n) : m_impl_ProjectiveDims q v = some (projL q n v) ∧ m_spec_ProjectiveDims q v = some (projL q n v) := by
 have n5 := Q.n5
 constructor
 ·unfold m_impl_ProjectiveDims m_impl_countAll
  rw [(n_acyc Q).1, hT, Option.bind_some, Bool.not_true, cond_false, n_hasV Q, Option.bind_some, inR_mk (by omega) (by omega), Bool.not_true, cond_false,
   Lp_go (s := (([] : List Int), (0 : Int))) (r := projL q n v) (fun k => (rowL k fun w => ((pcn q w 8 v : Nat) : Int), (k : Int))) n rfl (fun k hk => ?_) (fun _ => ?_)]
  ·rfl
  ·unfold m_impl_countAll_L1
   simp only
   rw [Q.n0, dlt hk, cond_true]
   unfold m_impl_ProjectiveDims_1
   rw [(n_counts Q hT hv hk).1, Option.bind_some, Option.bind_some, decide_eq_true (by rw [rowL_len]; simp; omega), cond_true, wr_suc hk (by omega)]
   unfold rowL
   rw [List.range_succ, List.map_append]
   rfl
  ·unfold m_impl_countAll_L1
   simp only
   rw [Q.n0, dnl (Nat.le_refl _), cond_false]
   rfl
 ·unfold m_spec_ProjectiveDims
  rw [Lp_go (s := (([] : List Int), (0 : Int))) (r := projL q n v) (fun k => (rowL k fun w => ((pcn q w 8 v : Nat) : Int), (k : Int))) n rfl (fun k hk => ?_) (fun _ => ?_)]
  ·rfl
  ·unfold m_spec_ProjectiveDims_L1
   simp only
   rw [Q.n0, dlt hk, cond_true, (n_acyc Q).2, hT, Option.bind_some, cond_true, n_l1In, Option.bind_some, wr_sm (by omega), inR_mk (by omega) (by omega), cond_true, (n_counts Q hT hv hk).2, Option.bind_some, decide_eq_true (by rw [rowL_len]; simp; omega), cond_true, wr_suc hk (by omega)]
   unfold rowL
   rw [List.range_succ, List.map_append]
   rfl
  ·unfold m_spec_ProjectiveDims_L1
   simp only
   rw [Q.n0, dnl (Nat.le_refl _), cond_false]
   rfl
end Go.Proofs.Ytinllccaphhmcaa
end

section
set_option linter.unusedVariables false
set_option linter.unusedSimpArgs false

namespace Go.Proofs.Ytinllccaphhmcaa
open Go.RowKit
set_option linter.unusedVariables false
def numB (n : Nat) (x : List Int) : Bool := decide (x.length = n) && x.all fun a => inR a (-100) 100
theorem numB_parts {n : Nat} {x : List Int} (h : numB n x = true) : x.length = n ∧ Sm x := by
 unfold numB at h
 simp only [Bool.and_eq_true, decide_eq_true_eq, List.all_eq_true] at h
 exact ⟨h.1, fun a ha => inR_true (h.2 a ha)⟩
theorem numB_mk {n : Nat} {x : List Int} (h1 : x.length = n) (h2 : Sm x) : numB n x = true := by
 unfold numB
 simp only [Bool.and_eq_true, decide_eq_true_eq, List.all_eq_true]
 exact ⟨h1, fun a ha => inR_mk (h2 a ha).1 (h2 a ha).2⟩
theorem n_nums {q : Qv} {n : Nat} (Q : QOk q n) {x : List Int} (hx : x.length ≤ 1048576) : m_impl_areNumbers q x = some (numB n x) ∧ m_spec_l18Vector q x = some (numB n x) := by
 have e : decide ((x.length : Int) = q.n) = decide (x.length = n) := by
  rw [Bool.eq_iff_iff, decide_eq_true_eq, decide_eq_true_eq, Q.n0]; omega
 constructor
 ·unfold m_impl_areNumbers
  rw [n_implQ Q.bq, Q.qv, Option.bind_some, cond_true, n_allWithin hx, Option.bind_some, e]
  unfold numB
  cases decide (x.length = n) <;> rfl
 ·rw [n_l18Vec Q.bq hx, Q.qv, Bool.true_and, e, Bool.and_comm]
  rfl
theorem n_numsN {q : Qv} (hb : bQ q) (hv : quivV q = false) {x : List Int} (hx : x.length ≤ 1048576) : m_impl_areNumbers q x = some false ∧ m_spec_l18Vector q x = some false := by
 constructor
 ·unfold m_impl_areNumbers
  rw [n_implQ hb, hv, Option.bind_some, cond_false]
 ·rw [n_l18Vec hb hx, hv, Bool.false_and, Bool.and_false]
def encO : Option (List Int) → List Int × Bool
 | some y => (y, true)
 | none => ([], false)
def noLoop (q : Qv) (v : Int) : Bool := (List.range q.src.length).all fun i => !(decide (gx q.src i = v) && decide (gx q.tgt i = v))
def refD (q : Qv) (n : Nat) (x : List Int) (v : Int) : Option (List Int) := if numB n x && (inR v 0 ((n : Int) - 1) && noLoop q v) then some (reflL q n x v.toNat) else none
theorem n_l21 {q : Qv} {n : Nat} (Q : QOk q n) (v : Int) : m_spec_l21Loop q v = some (!noLoop q v) := by
 have m6 := Q.m6
 unfold m_spec_l21Loop
 rw [Lp_all (n := q.src.length) (fun i => !(decide (gx q.src i = v) && decide (gx q.tgt i = v))) true (by omega) (fun i hi => ?_) (fun _ => ?_), Option.bind_some]
 ·show Sum.elim _ _ (bif noLoop q v then _ else _) = _
  cases noLoop q v <;> rfl
 ·unfold m_spec_l21Loop_L1
  rw [dlt hi, cond_true, at_gx hi, Option.bind_some]
  cases decide (gx q.src i = v) with
  | false => rfl
  | true =>
   rw [cond_true, at_gx (by rw [← Q.eq]; exact hi), Option.bind_some]
   cases decide (gx q.tgt i = v) <;> rfl
 ·unfold m_spec_l21Loop_L1
  rw [dnl (Nat.le_refl _), cond_false]
theorem diag_two {q : Qv} {n v : Nat} (Q : QOk q n) : decide (mF q q.src.length v v = 2) = noLoop q v := by
 have hm : mF q q.src.length v v = 2 - 2 * cntN q q.src.length v v := by unfold mF; rw [if_pos rfl]; omega
 have hz : ∀ k, cntN q k v v = 0 ↔ ∀ i, i < k → ¬ (gx q.src i = (v : Int) ∧ gx q.tgt i = (v : Int)) := by
  intro k
  induction k with
  | zero => exact ⟨fun _ i hi => absurd hi (Nat.not_lt_zero _), fun _ => rfl⟩
  | succ k ih =>
   have h0 := (cnt_bd q k v v).1
   have e : cntN q (k + 1) v v = cntN q k v v + hit q k v v := rfl
   have hh : hit q k v v = 0 ∨ hit q k v v = 1 := by unfold hit; split <;> simp
   have hh1 : hit q k v v = 0 ↔ ¬ (gx q.src k = (v : Int) ∧ gx q.tgt k = (v : Int)) := by
    unfold hit
    split
    ·rename_i h; exact ⟨fun h2 => by omega, fun h2 => absurd h h2⟩
    ·rename_i h; exact ⟨fun _ => h, fun _ => rfl⟩
   constructor
   ·intro h i hi
    by_cases hk : i = k
    ·subst hk; exact hh1.1 (by omega)
    ·exact ih.1 (by omega) i (by omega)
   ·intro h
    have h1 := ih.2 fun i hi => h i (by omega)
    have h2 := hh1.2 (h k (by omega))
    omega
 rw [Bool.eq_iff_iff, decide_eq_true_eq]
 unfold noLoop
 rw [range_all]
 constructor
 ·intro h i hi
  have h1 := (hz q.src.length).1 (by omega) i hi
  cases h2 : decide (gx q.src i = (v : Int)) <;> cases h3 : decide (gx q.tgt i = (v : Int)) <;> first | rfl | exact absurd ⟨of_decide_eq_true h2, of_decide_eq_true h3⟩ h1
 ·intro h
  have h1 := (hz q.src.length).2 fun i hi hc => by
   have := h i hi
   rw [decide_eq_true hc.1, decide_eq_true hc.2] at this
   cases this
  omega
theorem refl_bd {q : Qv} {n v : Nat} (Q : QOk q n) {x : List Int} (hs : Sm x) (i : Nat) : -1200 ≤ mF q q.src.length v i * gx x i ∧ mF q q.src.length v i * gx x i ≤ 1200 := by
 have h1 := mF_bd q Q.m6 v i
 have h2 := hs.gx i
 generalize mF q q.src.length v i = a at *
 generalize gx x i = b at *
 have h3 : a = -12 ∨ a = -11 ∨ a = -10 ∨ a = -9 ∨ a = -8 ∨ a = -7 ∨ a = -6 ∨ a = -5 ∨ a = -4 ∨ a = -3 ∨ a = -2 ∨ a = -1 ∨ a = 0 ∨ a = 1 ∨ a = 2 := by omega
 rcases h3 with h3 | h3 | h3 | h3 | h3 | h3 | h3 | h3 | h3 | h3 | h3 | h3 | h3 | h3 | h3 <;> rw [h3] <;> omega
theorem mv_mF {q : Qv} {n v : Nat} (hv : v < n) (x : List Int) : mv n (rowsF (matQ q n)) (gx x) v = sumN n fun i => mF q q.src.length v i * gx x i := sumN_congr fun i hi => by rw [show rowsF (matQ q n) v i = mF q q.src.length v i from rowsF_matL hv hi]
theorem n_reflS {q : Qv} {n : Nat} (Q : QOk q n) {x : List Int} (hs : Sm x) (hxn : x.length = n) {v : Nat} (hv : v < n) : m_spec_l20Reflect (matQ q n) x (v : Int) = some (reflL q n x v) := by
 have n5 := Q.n5
 have hb := sumN_bd (n := n) (f := fun i => mF q q.src.length v i * gx x i) (B := 1200) fun i _ => refl_bd Q hs i
 unfold m_spec_l20Reflect reflL
 rw [decide_eq_true (by simp; omega), cond_true, Lp_go (s := ((0 : Int), (0 : Int))) (r := sumN n fun i => mF q q.src.length v i * gx x i) (fun k => (sumN k fun i => mF q q.src.length v i * gx x i, (k : Int))) n rfl (fun k hk => ?_) (fun _ => ?_), Option.bind_some]
 ·have hvl : v < x.length := by omega
  rw [List.nil_append, at_gx hvl]
  simp only [Option.bind_some]
  have h2 := hs.gx v
  rw [mv_mF hv, wr_sm (by omega), Int.toNat_natCast]
  rfl
 ·unfold m_spec_l20Reflect_L1
  simp only
  have h2 := sumN_bd (n := k) (f := fun i => mF q q.src.length v i * gx x i) (B := 1200) fun i _ => refl_bd Q hs i
  have h3 := refl_bd (v := v) Q hs k
  rw [hxn, dlt hk, cond_true, show atL (matQ q n) (v : Int) = some (rowL n (mF q q.src.length v)) from rowL_at hv, Option.bind_some, rowL_at hk, Option.bind_some, at_gx (by omega), Option.bind_some, wr_sm (x := mF q q.src.length v k * gx x k) (by omega), wr_sm (by omega), wr_suc hk (by omega)]
  rfl
 ·unfold m_spec_l20Reflect_L1
  simp only
  rw [hxn, dnl (Nat.le_refl _), cond_false]
theorem n_reflI {q : Qv} {n : Nat} (Q : QOk q n) {x : List Int} (hs : Sm x) (hxn : x.length = n) {v : Nat} (hv : v < n) : Lp (m_impl_ReflectDims_L1 x (v : Int) (rowL n (mF q q.src.length v))) (x, 0) = some (reflL q n x v) := by
 have n5 := Q.n5
 have hvl : v < x.length := by omega
 refine Lp_go (fun k => (x.set v (gx x v + -(sumN k fun i => mF q q.src.length v i * gx x i)), (k : Int))) n ?_ (fun k hk => ?_) (fun _ => ?_)
 ·have e : x.set v (gx x v + -(sumN 0 fun i => mF q q.src.length v i * gx x i)) = x := by
   refine gx_ext (by simp) fun i hi => ?_
   rw [gx_set _ hvl]
   split
   ·rename_i h; subst h; simp [sumN]
   ·rfl
  rw [e]; rfl
 ·unfold m_impl_ReflectDims_L1
  simp only
  have h2 := sumN_bd (n := k) (f := fun i => mF q q.src.length v i * gx x i) (B := 1200) fun i _ => refl_bd Q hs i
  have h3 := refl_bd (v := v) Q hs k
  have h4 := hs.gx v
  have hcur : ∀ a : Int, atL (x.set v a) (v : Int) = some a := fun a => by rw [at_gx (by rw [List.length_set]; exact hvl), gx_set _ hvl, if_pos rfl]
  rw [rowL_len, dlt hk, cond_true, rowL_at hk, Option.bind_some, hcur, Option.bind_some, at_gx (by omega), Option.bind_some, Option.bind_some, Int.toNat_natCast, List.set_set, wr_sm (x := mF q q.src.length v k * gx x k) (by omega), wr_sm (by omega), wr_suc hk (by omega)]
  have e : gx x v + -(sumN k fun i => mF q q.src.length v i * gx x i) - mF q q.src.length v k * gx x k = gx x v + -(sumN (k + 1) fun i => mF q q.src.length v i * gx x i) := by
   show _ = gx x v + -((sumN k fun i => mF q q.src.length v i * gx x i) + mF q q.src.length v k * gx x k)
   omega
  rw [e]
 ·unfold m_impl_ReflectDims_L1
  simp only
  rw [rowL_len, dnl (Nat.le_refl _), cond_false, ← mv_mF hv]
  rfl
theorem n_refD {q : Qv} {n : Nat} (Q : QOk q n) {x : List Int} (hx : x.length ≤ 1048576) (v : Int) : m_impl_ReflectDims q x v = some (encO (refD q n x v)) ∧ m_spec_ReflectDims q x v = some (encO (refD q n x v)) := by
 have n5 := Q.n5
 unfold m_impl_ReflectDims m_spec_ReflectDims refD
 rw [(n_nums Q hx).1, (n_nums Q hx).2, Option.bind_some, Option.bind_some, n_hasV Q, n_l1In, Q.n0, wr_sm (by omega), Option.bind_some, Option.bind_some]
 cases h1 : numB n x with
 | false => exact ⟨rfl, rfl⟩
 | true =>
  obtain ⟨hxn, hs⟩ := numB_parts h1
  cases h2 : inR v 0 ((n : Int) - 1) with
  | false => exact ⟨rfl, rfl⟩
  | true =>
   have h3 := inR_true h2
   obtain ⟨w, rfl⟩ : ∃ w : Nat, v = (w : Int) := ⟨v.toNat, by omega⟩
   have hw : w < n := by omega
   rw [n_implSym Q, n_specSym Q, n_l21 Q]
   simp only [Option.bind_some, Bool.not_true, cond_false, Bool.true_and]
   rw [show atL (matQ q n) (w : Int) = some (rowL n (mF q q.src.length w)) from rowL_at hw, Option.bind_some, rowL_at hw, Option.bind_some, diag_two Q]
   cases h4 : noLoop q w with
   | false => exact ⟨rfl, rfl⟩
   | true =>
    simp only [Bool.not_true, cond_false, Option.bind_some, if_true]
    rw [n_reflS Q hs hxn hw, Option.bind_some]
    unfold m_Clone
    rw [decide_eq_true hx, cond_true, Option.bind_some, n_reflI Q hs hxn hw]
    exact ⟨rfl, rfl⟩
def refW (q : Qv) (n : Nat) : List Int → List Int → Option (List Int)
 | [], x => some x
 | v :: ws, x => (refD q n x v).bind (refW q n ws)
theorem reflL_len {q : Qv} {n : Nat} {x : List Int} {v : Nat} : (reflL q n x v).length = x.length := by unfold reflL; rw [List.length_set]
theorem refD_len {q : Qv} {n : Nat} {x y : List Int} {v : Int} (h : refD q n x v = some y) : y.length = x.length := by
 unfold refD at h
 split at h
 ·cases h; exact reflL_len
 ·cases h
theorem refW_len {q : Qv} {n : Nat} : ∀ {ws x y : List Int}, refW q n ws x = some y → y.length = x.length
 | [], x, y, h => by cases h; rfl
 | v :: ws, x, y, h => by
  simp only [refW] at h
  cases h1 : refD q n x v with
  | none => rw [h1] at h; cases h
  | some z =>
   rw [h1, Option.bind_some] at h
   rw [refW_len h, refD_len h1]
theorem word_loop {q : Qv} {n : Nat} (ws : List Int) (hws : ws.length ≤ 1000) {body : List Int × Int → Option ((List Int × Int) ⊕ (List Int ⊕ (List Int × Bool)))}
  (hb : ∀ (x : List Int) (k : Nat), x.length ≤ 1048576 → (hk : k < ws.length) → body (x, (k : Int)) = some (match refD q n x ws[k] with | some y => .inl (y, wr ((k : Int) + 1)) | none => .inr (.inr ([], false))))
  (he : ∀ x : List Int, body (x, (ws.length : Int)) = some (.inr (.inl x))) : ∀ (d k : Nat) (x : List Int), k + d = ws.length → x.length ≤ 1048576 → Lp body (x, (k : Int)) = some (match refW q n (ws.drop k) x with | some y => .inl y | none => .inr ([], false))
 | 0, k, x, hk, hx => by
  rw [Nat.add_zero] at hk
  subst hk
  rw [List.drop_length]
  exact Lp_stop (he x)
 | d + 1, k, x, hk, hx => by
  have hkl : k < ws.length := by omega
  have h1 := hb x k hx hkl
  rw [List.drop_eq_getElem_cons hkl]
  simp only [refW]
  cases h2 : refD q n x ws[k] with
  | none => rw [h2] at h1; exact Lp_stop h1
  | some y =>
   rw [h2] at h1
   rw [Lp_step h1, wr_suc hkl (by omega), Option.bind_some]
   exact word_loop ws hws hb he d (k + 1) y (by omega) (by rw [refD_len h2]; exact hx)
def rw1 (q : Qv) (n : Nat) (ws x : List Int) : Option (List Int) := if numB n x && decide (ws.length ≤ 200) then refW q n ws x else none
theorem n_word {q : Qv} {n : Nat} (Q : QOk q n) {x ws : List Int} (hx : x.length ≤ 1048576) : m_impl_ReflectWord q x ws = some (encO (rw1 q n ws x)) ∧ m_spec_ReflectWord q x ws = some (encO (rw1 q n ws x)) := by
 unfold m_impl_ReflectWord m_spec_ReflectWord rw1
 rw [(n_nums Q hx).1, (n_nums Q hx).2, Option.bind_some, Option.bind_some]
 cases h1 : numB n x with
 | false => exact ⟨rfl, rfl⟩
 | true =>
  by_cases h2 : ws.length ≤ 200
  ·rw [decide_eq_true h2, decide_eq_false (by omega : ¬ (200 : Int) < (ws.length : Int))]
   simp only [Bool.not_true, cond_false, Bool.and_self, if_true]
   constructor
   ·unfold m_Clone
    rw [decide_eq_true hx, cond_true, Option.bind_some, show ((0 : Int)) = ((0 : Nat) : Int) from rfl, word_loop (q := q) (n := n) ws (by omega) (fun y k hy hk => ?_) (fun y => ?_) ws.length 0 x (by omega) hx, Option.bind_some, List.drop_zero]
    ·cases refW q n ws x <;> rfl
    ·unfold m_impl_ReflectWord_L1
     simp only
     rw [dlt hk, cond_true, atL_nat hk, Option.bind_some, (n_refD Q hy _).1, Option.bind_some]
     cases refD q n y ws[k] <;> rfl
    ·unfold m_impl_ReflectWord_L1
     simp only
     rw [dnl (Nat.le_refl _), cond_false]
   ·rw [List.nil_append, decide_eq_true (by simp; omega), cond_true, show ((0 : Int)) = ((0 : Nat) : Int) from rfl, word_loop (q := q) (n := n) ws (by omega) (fun y k hy hk => ?_) (fun y => ?_) ws.length 0 x (by omega) hx, Option.bind_some, List.drop_zero]
    ·cases refW q n ws x <;> rfl
    ·unfold m_spec_ReflectWord_L1
     simp only
     rw [dlt hk, cond_true, atL_nat hk, Option.bind_some, (n_refD Q hy _).2, Option.bind_some]
     cases refD q n y ws[k] <;> rfl
    ·unfold m_spec_ReflectWord_L1
     simp only
     rw [dnl (Nat.le_refl _), cond_false]
  ·rw [decide_eq_false h2, decide_eq_true (by omega : (200 : Int) < (ws.length : Int))]
   exact ⟨rfl, rfl⟩
theorem n_rev {l : List Int} (hl : l.length ≤ 1000) : m_slices_Reverse_Lint_int l = some l.reverse := by
 have key : ∃ r, Lp m_slices_Reverse_Lint_int_L1 (l, 0, wr (((l.length : Nat) : Int) - 1)) = some r ∧ r = l.reverse := by
  refine Lp_meas (fun s => ∃ k : Nat, s.2.1 = (k : Int) ∧ s.2.2 = (l.length : Int) - 1 - k ∧ 2 * k ≤ l.length + 1 ∧ s.1.length = l.length ∧ ∀ i, i < l.length → gx s.1 i = if i < k ∨ l.length ≤ i + k then gx l (l.length - 1 - i) else gx l i) (fun s => l.length - s.2.1.toNat) _ ?_ ?_
  ·refine ⟨0, rfl, by simp only; rw [wr_sm (by omega)]; omega, by omega, rfl, fun i hi => ?_⟩
   rw [if_neg (by omega)]
  ·rintro ⟨x, a, b⟩ ⟨k, rfl, rfl, h2k, hlen, hg⟩
   simp only at hlen hg
   by_cases hc : (k : Int) < (l.length : Int) - 1 - k
   ·left
    have hk1 : k < x.length := by omega
    obtain ⟨m, hm⟩ : ∃ m : Nat, m = l.length - 1 - k := ⟨_, rfl⟩
    have hmb : (l.length : Int) - 1 - k = (m : Int) := by omega
    have hm1 : m < x.length := by omega
    refine ⟨((x.set k (gx x m)).set m (gx x k), ((k + 1 : Nat) : Int), (l.length : Int) - 1 - ((k + 1 : Nat) : Int)), ?_, ⟨k + 1, rfl, rfl, by omega, by simp; exact hlen, fun i hi => ?_⟩, ?_⟩
    ·unfold m_slices_Reverse_Lint_int_L1
     simp only
     rw [decide_eq_true hc, cond_true, hmb, at_gx hm1, Option.bind_some, at_gx hk1, Option.bind_some, Option.bind_some, Int.toNat_natCast, Int.toNat_natCast, at_gx (by simp; exact hm1), Option.bind_some, wr_sm (x := (k : Int) + 1) (by omega), wr_sm (x := (m : Int) - 1) (by omega), show (k : Int) + 1 = ((k + 1 : Nat) : Int) by omega, show (m : Int) - 1 = (l.length : Int) - 1 - ((k + 1 : Nat) : Int) by omega]
    ·simp only
     rw [gx_set _ (by simp; exact hm1), gx_set _ hk1]
     have gm := hg m (by omega)
     have gk := hg k (by omega)
     have gi := hg i hi
     by_cases e1 : i = m
     ·rw [if_pos e1, gk, if_neg (by omega), if_pos (by omega)]
      congr 1
      omega
     ·rw [if_neg e1]
      by_cases e2 : i = k
      ·rw [if_pos e2, gm, if_neg (by omega), if_pos (by omega)]
       congr 1
       omega
      ·rw [if_neg e2, gi]
       by_cases e3 : i < k ∨ l.length ≤ i + k
       ·rw [if_pos e3, if_pos (by omega)]
       ·rw [if_neg e3, if_neg (by omega)]
    ·simp only [Int.toNat_natCast]
     omega
   ·right
    refine ⟨x, ?_, ?_⟩
    ·unfold m_slices_Reverse_Lint_int_L1
     simp only
     rw [decide_eq_false hc, cond_false]
    ·refine gx_ext (by simp; exact hlen) fun i hi => ?_
     have h1 : gx l.reverse i = gx l (l.length - 1 - i) := by
      unfold gx
      rw [List.getElem?_reverse (by omega)]
     rw [h1, hg i (by omega)]
     by_cases e3 : i < k ∨ l.length ≤ i + k
     ·rw [if_pos e3]
     ·rw [if_neg e3]
      congr 1
      omega
 obtain ⟨r, h1, rfl⟩ := key
 unfold m_slices_Reverse_Lint_int
 rw [h1, Option.bind_some]
theorem n_revS {l : List Int} (hl : l.length ≤ 1000) {body : List Int × Int → Option ((List Int × Int) ⊕ List Int)}
  (hb : ∀ (out : List Int) (k : Nat), out.length ≤ 1000 → (hk : k < l.length) → body (out, (k : Int)) = some (.inl (out ++ [l[k]], wr ((k : Int) - 1)))) (he : ∀ out : List Int, body (out, -1) = some (.inr out)) : Lp body ([], wr (((l.length : Nat) : Int) - 1)) = some l.reverse := by
 have key : ∀ (k : Nat) (out : List Int), k ≤ l.length → out.length + k ≤ 1000 → Lp body (out, (k : Int) - 1) = some (out ++ (l.take k).reverse) := by
  intro k
  induction k with
  | zero => intro out _ _; rw [show ((0 : Nat) : Int) - 1 = -1 by omega, Lp_stop (he out)]; simp
  | succ k ih =>
   intro out hk ho
   have hkl : k < l.length := by omega
   rw [show ((k + 1 : Nat) : Int) - 1 = (k : Int) by omega, Lp_step (hb out k (by omega) hkl), wr_sm (by omega), ih _ (by omega) (by simp; omega), List.take_add_one, List.getElem?_eq_getElem hkl, Option.toList_some, List.reverse_append, List.append_assoc]
   rfl
 have := key l.length [] (Nat.le_refl _) (by simp; omega)
 rw [wr_sm (by omega), this, List.take_length]
 rfl
def itW (q : Qv) (n : Nat) (ws : List Int) : Nat → List Int → Option (List Int)
 | 0, x => some x
 | k + 1, x => (rw1 q n ws x).bind (itW q n ws k)
theorem rw1_len {q : Qv} {n : Nat} {ws x y : List Int} (h : rw1 q n ws x = some y) : y.length = x.length := by
 unfold rw1 at h
 split at h
 ·exact refW_len h
 ·cases h
theorem pow_loop {q : Qv} {n : Nat} (ws : List Int) {N : Nat} (hN : N ≤ 1000) {body : List Int × Int → Option ((List Int × Int) ⊕ (List Int ⊕ (List Int × Bool)))}
  (hb : ∀ (x : List Int) (k : Nat), x.length ≤ 1048576 → k < N → body (x, (k : Int)) = some (match rw1 q n ws x with | some y => .inl (y, wr ((k : Int) + 1)) | none => .inr (.inr ([], false))))
  (he : ∀ x : List Int, body (x, (N : Int)) = some (.inr (.inl x))) : ∀ (d k : Nat) (x : List Int), k + d = N → x.length ≤ 1048576 → Lp body (x, (k : Int)) = some (match itW q n ws d x with | some y => .inl y | none => .inr ([], false))
 | 0, k, x, hk, hx => by
  rw [Nat.add_zero] at hk
  subst hk
  exact Lp_stop (he x)
 | d + 1, k, x, hk, hx => by
  have h1 := hb x k hx (by omega)
  simp only [itW]
  cases h2 : rw1 q n ws x with
  | none => rw [h2] at h1; exact Lp_stop h1
  | some y =>
   rw [h2] at h1
   rw [Lp_step h1, wr_suc (n := N) (by omega) (by omega), Option.bind_some]
   exact pow_loop ws hN hb he d (k + 1) y (by omega) (by rw [rw1_len h2]; exact hx)
def coxP (q : Qv) (n : Nat) (x : List Int) (k : Int) : Option (List Int) :=
 if (ordF q n).2 && (numB n x && inR k (-40) 40) then itW q n (if k < 0 then (ordF q n).1 else (ordF q n).1.reverse) k.natAbs x else none
theorem ordF_len {q : Qv} {n : Nat} : (ordF q n).1.length ≤ n := by
 cases h : (ordF q n).2 with
 | false => rw [ordF_false h]; simp
 | true =>
  have := (ordF_topo (q := q) (n := n) (L := (ordF q n).1) (by rw [← h])).len
  omega
theorem n_coxI {q : Qv} {n : Nat} (Q : QOk q n) {x : List Int} (hx : x.length ≤ 1048576) (k : Int) : m_impl_CoxeterPower q x k = some (encO (coxP q n x k)) := by
 have n5 := Q.n5
 have hL := ordF_len (q := q) (n := n)
 unfold m_impl_CoxeterPower m_impl_CoxeterOrder coxP
 rw [n_implOrder Q, Option.bind_some, n_rev (by omega), Option.bind_some, decide_eq_true (by simp), cond_true, Option.bind_some]
 simp only
 cases h1 : (ordF q n).2 with
 | false => rfl
 | true =>
  rw [Bool.not_true, cond_false, (n_nums Q hx).1, Option.bind_some]
  cases h2 : numB n x with
  | false => rfl
  | true =>
   rw [Bool.not_true, cond_false, n_within, Option.bind_some]
   cases h3 : inR k (-40) 40 with
   | false => rfl
   | true =>
    have h4 := inR_true h3
    simp only [Bool.not_true, cond_false, Bool.and_self, if_true]
    have hmax : max k (wr (-k)) = ((k.natAbs : Nat) : Int) := by rw [wr_sm (by omega)]; omega
    by_cases hk : k < 0
    ·rw [decide_eq_true hk, cond_true, n_rev (by simp; omega), Option.bind_some, decide_eq_true (by simp), cond_true, List.reverse_reverse, if_pos hk]
     unfold m_Clone
     rw [decide_eq_true hx, cond_true, Option.bind_some, show ((0 : Int)) = ((0 : Nat) : Int) from rfl, pow_loop (q := q) (n := n) (ordF q n).1 (N := k.natAbs) (by omega) (fun y j hy hj => ?_) (fun y => ?_) k.natAbs 0 x (by omega) hx, Option.bind_some]
     ·cases itW q n (ordF q n).1 k.natAbs x <;> rfl
     ·unfold m_impl_CoxeterPower_L1
      simp only
      rw [hmax, dlt hj, cond_true, (n_word Q hy).1, Option.bind_some]
      cases rw1 q n (ordF q n).1 y <;> rfl
     ·unfold m_impl_CoxeterPower_L1
      simp only
      rw [hmax, dnl (Nat.le_refl _), cond_false]
    ·rw [decide_eq_false hk, cond_false, if_neg hk]
     unfold m_Clone
     rw [decide_eq_true hx, cond_true, Option.bind_some, show ((0 : Int)) = ((0 : Nat) : Int) from rfl, pow_loop (q := q) (n := n) (ordF q n).1.reverse (N := k.natAbs) (by omega) (fun y j hy hj => ?_) (fun y => ?_) k.natAbs 0 x (by omega) hx, Option.bind_some]
     ·cases itW q n (ordF q n).1.reverse k.natAbs x <;> rfl
     ·unfold m_impl_CoxeterPower_L2
      simp only
      rw [hmax, dlt hj, cond_true, (n_word Q hy).1, Option.bind_some]
      cases rw1 q n (ordF q n).1.reverse y <;> rfl
     ·unfold m_impl_CoxeterPower_L2
      simp only
      rw [hmax, dnl (Nat.le_refl _), cond_false]
theorem n_coxOrdS {q : Qv} {n : Nat} (Q : QOk q n) : m_spec_CoxeterOrder q = some ((ordF q n).1.reverse, (ordF q n).2) := by
 have n5 := Q.n5
 have hL := ordF_len (q := q) (n := n)
 unfold m_spec_CoxeterOrder
 rw [n_specOrder Q, Option.bind_some, n_revS (l := (ordF q n).1) (by omega) (fun out k ho hk => ?_) (fun out => ?_), Option.bind_some]
 ·unfold m_spec_CoxeterOrder_L1
  simp only
  rw [decide_eq_true (by omega), cond_true, atL_nat hk, Option.bind_some, decide_eq_true (by simp; omega), cond_true]
 ·unfold m_spec_CoxeterOrder_L1
  simp only
  rw [decide_eq_false (by omega), cond_false]
theorem n_coxS {q : Qv} {n : Nat} (Q : QOk q n) {x : List Int} (hx : x.length ≤ 1048576) (k : Int) : m_spec_CoxeterPower q x k = some (encO (coxP q n x k)) := by
 have n5 := Q.n5
 have hL := ordF_len (q := q) (n := n)
 unfold m_spec_CoxeterPower coxP
 rw [n_coxOrdS Q, Option.bind_some]
 simp only
 cases h1 : (ordF q n).2 with
 | false => rfl
 | true =>
  rw [Bool.not_true, cond_false, n_l1In, Option.bind_some]
  cases h3 : inR k (-40) 40 with
  | false => cases numB n x <;> rfl
  | true =>
   rw [Bool.not_true, cond_false, (n_nums Q hx).2, Option.bind_some]
   cases h2 : numB n x with
   | false => rfl
   | true =>
    have h4 := inR_true h3
    simp only [Bool.not_true, cond_false, Bool.and_self, if_true]
    by_cases hk : k < 0
    ·have hmax : wr (-k) = ((k.natAbs : Nat) : Int) := by rw [wr_sm (by omega)]; omega
     rw [decide_eq_true hk, cond_true, if_pos hk, n_revS (l := (ordF q n).1.reverse) (by simp; omega) (fun out k ho hk => ?_) (fun out => ?_), Option.bind_some, List.reverse_reverse, List.nil_append, decide_eq_true (by simp; omega), cond_true, show ((0 : Int)) = ((0 : Nat) : Int) from rfl, pow_loop (q := q) (n := n) (ordF q n).1 (N := k.natAbs) (by omega) (fun y j hy hj => ?_) (fun y => ?_) k.natAbs 0 x (by omega) hx, Option.bind_some]
     ·cases itW q n (ordF q n).1 k.natAbs x <;> rfl
     ·unfold m_spec_CoxeterPower_L2
      simp only
      rw [hmax, dlt hj, cond_true, (n_word Q hy).2, Option.bind_some]
      cases rw1 q n (ordF q n).1 y <;> rfl
     ·unfold m_spec_CoxeterPower_L2
      simp only
      rw [hmax, dnl (Nat.le_refl _), cond_false]
     ·unfold m_spec_CoxeterPower_L1
      simp only
      rw [decide_eq_true (by omega), cond_true, atL_nat hk, Option.bind_some, decide_eq_true (by simp; omega), cond_true]
     ·unfold m_spec_CoxeterPower_L1
      simp only
      rw [decide_eq_false (by omega), cond_false]
    ·have hmax : k = ((k.natAbs : Nat) : Int) := by omega
     rw [decide_eq_false hk, cond_false, if_neg hk, List.nil_append, decide_eq_true (by simp; omega), cond_true, show ((0 : Int)) = ((0 : Nat) : Int) from rfl, pow_loop (q := q) (n := n) (ordF q n).1.reverse (N := k.natAbs) (by omega) (fun y j hy hj => ?_) (fun y => ?_) k.natAbs 0 x (by omega) hx, Option.bind_some]
     ·cases itW q n (ordF q n).1.reverse k.natAbs x <;> rfl
     ·unfold m_spec_CoxeterPower_L3
      simp only
      rw [decide_eq_true (show (j : Int) < k by omega), cond_true, (n_word Q hy).2, Option.bind_some]
      cases rw1 q n (ordF q n).1.reverse y <;> rfl
     ·unfold m_spec_CoxeterPower_L3
      simp only
      rw [decide_eq_false (show ¬ ((k.natAbs : Nat) : Int) < k by omega), cond_false]
end Go.Proofs.Ytinllccaphhmcaa
end

section
set_option linter.unusedVariables false
set_option linter.unusedSimpArgs false

namespace Go.Proofs.Ytinllccaphhmcaa
open Go.RowKit
set_option linter.unusedVariables false
set_option linter.unusedSimpArgs false
set_option maxRecDepth 10000
set_option maxHeartbeats 4000000

end Go.Proofs.Ytinllccaphhmcaa
end

section
set_option linter.unusedVariables false
set_option linter.unusedSimpArgs false

namespace Go.Proofs.Ytinllccaphhmcaa
open Go.RowKit
set_option linter.unusedVariables false
set_option linter.unusedSimpArgs false
theorem mz_Row {l : List Int} {left : Int} (hl : fI l) (h0 : 0 ≤ left) (h1 : left ≤ 1048576) : m_laws_szIntS l left = some (zRow l left) := mz_I hl h0 h1
end Go.Proofs.Ytinllccaphhmcaa
end

section
set_option linter.unusedVariables false
set_option linter.unusedSimpArgs false

namespace Go.Proofs.Ytinllccaphhmcaa
open Go.RowKit
set_option linter.unusedVariables false
set_option linter.unusedSimpArgs false
set_option maxRecDepth 10000
set_option maxHeartbeats 4000000

end Go.Proofs.Ytinllccaphhmcaa
end

section
set_option linter.unusedVariables false
set_option linter.unusedSimpArgs false

namespace Go.Proofs.Ytinllccaphhmcaa
open Go.RowKit
set_option linter.unusedVariables false
end Go.Proofs.Ytinllccaphhmcaa
end

section
set_option linter.unusedVariables false
set_option linter.unusedSimpArgs false

namespace Go.Proofs.Ytinllccaphhmcaa
open Go.RowKit
set_option linter.unusedVariables false
theorem sumN_swap (f : Nat → Nat → Int) (n : Nat) : ∀ m, (sumN m fun i => sumN n fun j => f i j) = sumN n fun j => sumN m fun i => f i j
 | 0 => by simp only [sumN]; exact (sumN_zero n).symm
 | m + 1 => by
  show (sumN m fun i => sumN n fun j => f i j) + sumN n (f m) = _
  rw [sumN_swap f n m, ← sumN_add]
  rfl
theorem sumN_if (c : Prop) [Decidable c] (f : Nat → Int) (n : Nat) : (if c then sumN n f else 0) = sumN n fun j => if c then f j else 0 := by
 by_cases h : c
 ·simp only [if_pos h]
 ·simp only [if_neg h]; exact (sumN_zero n).symm
theorem sumN_ne {f : Nat → Int} : ∀ {n : Nat}, sumN n f ≠ 0 → ∃ i, i < n ∧ f i ≠ 0
 | 0, h => absurd rfl h
 | n + 1, h => by
  by_cases h0 : f n = 0
  ·obtain ⟨i, hi, hf⟩ := sumN_ne (f := f) (n := n) (fun h1 => h (by show sumN n f + f n = 0; omega))
   exact ⟨i, by omega, hf⟩
  ·exact ⟨n, by omega, h0⟩
theorem sum_cast (g : Nat → Nat) : ∀ m, (((((List.range m).map g).sum : Nat)) : Int) = sumN m fun i => (g i : Int)
 | 0 => rfl
 | m + 1 => by
  rw [List.range_succ, List.map_append, List.sum_append]
  simp only [List.map_cons, List.map_nil, List.sum_cons, List.sum_nil, Nat.add_zero, Int.natCast_add]
  rw [sum_cast g m]
  rfl
def PL (q : Qv) : Nat → Nat → Nat → Int
 | 0, v, w => if v = w then 1 else 0
 | k + 1, v, w => sumN q.src.length fun i => if gx q.src i = (v : Int) then PL q k (gx q.tgt i).toNat w else 0
theorem PL_last {q : Qv} {n : Nat} (Q : QOk q n) : ∀ (k v w : Nat), PL q (k + 1) v w = sumN q.src.length fun i => if gx q.tgt i = (w : Int) then PL q k v (gx q.src i).toNat else 0
 | 0, v, w => by
  refine sumN_congr fun i hi => ?_
  obtain ⟨s, t, hs, ht, e1, e2, _, _⟩ := Q.arrow hi
  rw [e1, e2, Int.toNat_natCast, Int.toNat_natCast]
  simp only [PL]
  by_cases h1 : s = v <;> by_cases h2 : t = w
  ·subst h1 h2; simp
  ·rw [if_pos (by omega), if_neg h2, if_neg (by omega)]
  ·rw [if_neg (by omega), if_pos (by omega), if_neg (fun h => h1 h.symm)]
  ·rw [if_neg (by omega), if_neg (by omega)]
 | k + 1, v, w => by
  have e1 : PL q (k + 1 + 1) v w = sumN q.src.length fun i => sumN q.src.length fun j => if gx q.src i = (v : Int) then (if gx q.tgt j = (w : Int) then PL q k (gx q.tgt i).toNat (gx q.src j).toNat else 0) else 0 := by
   refine sumN_congr fun i hi => ?_
   rw [← sumN_if, ← PL_last Q k]
  rw [e1, sumN_swap]
  refine sumN_congr fun j hj => ?_
  by_cases h : gx q.tgt j = (w : Int)
  ·simp only [if_pos h]
   rfl
  ·simp only [if_neg h]
   refine (sumN_congr fun i _ => ?_).trans (sumN_zero q.src.length)
   split <;> rfl
theorem pcn_PL (q : Qv) (w : Nat) : ∀ (f v : Nat), ((pcn q w f v : Nat) : Int) = sumN f fun k => PL q k v w
 | 0, v => rfl
 | f + 1, v => by
  rw [sumN_front]
  simp only [pcn, Int.natCast_add]
  rw [sum_cast]
  have e : (sumN f fun i => PL q (i + 1) v w) = sumN q.src.length fun i => if gx q.src i = (v : Int) then ((pcn q w f (gx q.tgt i).toNat : Nat) : Int) else 0 := by
   show (sumN f fun k => sumN q.src.length fun i => if gx q.src i = (v : Int) then PL q k (gx q.tgt i).toNat w else 0) = _
   rw [sumN_swap]
   refine sumN_congr fun i _ => ?_
   rw [← sumN_if, pcn_PL q w f]
  rw [e]
  congr 1
  ·show ((if v = w then 1 else 0 : Nat) : Int) = if v = w then 1 else 0
   split <;> rfl
  ·refine sumN_congr fun i _ => ?_
   split <;> rfl
theorem PL_rk {q : Qv} {n : Nat} (Q : QOk q n) {L : List Int} (hT : Topo q n L) : ∀ (k v w : Nat), v < n → w < n → PL q k v w ≠ 0 → rk L v + k ≤ rk L w
 | 0, v, w, hv, hw, h => by
  simp only [PL] at h
  split at h
  ·rename_i e; subst e; omega
  ·exact absurd rfl h
 | k + 1, v, w, hv, hw, h => by
  obtain ⟨i, hi, h2⟩ := sumN_ne h
  obtain ⟨s, t, hs, ht, e1, e2, _, _⟩ := Q.arrow hi
  split at h2
  ·rename_i e3
   have hsv : s = v := by omega
   subst hsv
   rw [e2, Int.toNat_natCast] at h2
   have h3 := PL_rk Q hT k t w ht hw h2
   have h4 := hT.rk_arrow hi e1 e2 ht
   omega
  ·exact absurd rfl h2
theorem PL_zero {q : Qv} {n : Nat} (Q : QOk q n) {L : List Int} (hT : Topo q n L) {k v w : Nat} (hv : v < n) (hw : w < n) (hk : n ≤ k) : PL q k v w = 0 := by
 refine Classical.byContradiction fun h => ?_
 have h1 := PL_rk Q hT k v w hv hw h
 have h2 := hT.rk_lt hw
 omega
theorem pcn_self {q : Qv} {n : Nat} (Q : QOk q n) {L : List Int} (hT : Topo q n L) {v : Nat} (hv : v < n) : ((pcn q v 8 v : Nat) : Int) = 1 := by
 rw [pcn_PL, sumN_front]
 have h0 : (sumN 7 fun i => PL q (i + 1) v v) = sumN 7 fun _ => (0 : Int) := sumN_congr fun i _ => by
  refine Classical.byContradiction fun h => ?_
  have := PL_rk Q hT (i + 1) v v hv hv h
  omega
 rw [h0, sumN_zero]
 simp [PL]
theorem pcn_last {q : Qv} {n : Nat} (Q : QOk q n) {L : List Int} (hT : Topo q n L) {v w : Nat} (hv : v < n) (hw : w < n) :
  ((pcn q w 8 v : Nat) : Int) = (if v = w then 1 else 0) + sumN q.src.length fun i => if gx q.tgt i = (w : Int) then ((pcn q (gx q.src i).toNat 8 v : Nat) : Int) else 0 := by
 have n5 := Q.n5
 rw [pcn_PL, sumN_front]
 congr 1
 rw [show (sumN 7 fun i => PL q (i + 1) v w) = sumN 7 fun k => sumN q.src.length fun i => if gx q.tgt i = (w : Int) then PL q k v (gx q.src i).toNat else 0 from sumN_congr fun k _ => PL_last Q k v w, sumN_swap]
 refine sumN_congr fun i hi => ?_
 obtain ⟨s, t, hs, ht, e1, e2, _, _⟩ := Q.arrow hi
 rw [← sumN_if]
 split
 ·rw [pcn_PL, e1, Int.toNat_natCast]
  show _ = (sumN 7 fun k => PL q k v s) + PL q 7 v s
  rw [PL_zero Q hT hv hs (by omega : n ≤ 7), Int.add_zero]
 ·rfl
theorem proj_root {q : Qv} {n : Nat} (Q : QOk q n) {L : List Int} (hT : Topo q n L) {v : Nat} (hv : v < n) : RtQ q n (projL q n v) := by
 refine (rt_iff Q _).2 ⟨rowL_len _ _, fun a ha => ?_, ?_⟩
 ·obtain ⟨w, _, rfl⟩ := List.mem_map.1 ha
  omega
 ·obtain ⟨P, hP⟩ : ∃ P : Nat → Int, P = fun w => ((pcn q w 8 v : Nat) : Int) := ⟨_, rfl⟩
  have hg : ∀ w, w < n → gx (projL q n v) w = P w := fun w hw => by rw [hP]; exact gx_rowL hw
  have hPw : ∀ w, w < n → P w = (if v = w then 1 else 0) + sumN q.src.length fun i => if gx q.tgt i = (w : Int) then P (gx q.src i).toNat else 0 := fun w hw => by rw [hP]; exact pcn_last Q hT hv hw
  have hPv : P v = 1 := by rw [hP]; exact pcn_self Q hT hv
  unfold eul
  have e1 : (sumN n fun w => gx (projL q n v) w * gx (projL q n v) w) = sumN n fun w => P w * P w := sumN_congr fun w hw => by rw [hg w hw]
  have e2 : (sumN q.src.length fun i => gx (projL q n v) (gx q.src i).toNat * gx (projL q n v) (gx q.tgt i).toNat) = sumN n fun w => P w * P w + if w = v then -P w else 0 := by
   have e3 : (sumN q.src.length fun i => gx (projL q n v) (gx q.src i).toNat * gx (projL q n v) (gx q.tgt i).toNat) = sumN q.src.length fun i => sumN n fun w => P w * (if gx q.tgt i = (w : Int) then P (gx q.src i).toNat else 0) := by
    refine sumN_congr fun i hi => ?_
    obtain ⟨s, t, hs, ht, g1, g2, _, _⟩ := Q.arrow hi
    rw [g1, g2, Int.toNat_natCast, Int.toNat_natCast, hg s hs, hg t ht]
    rw [show (sumN n fun w => P w * (if (t : Int) = (w : Int) then P s else 0)) = sumN n fun w => if w = t then P s * P w else 0 from sumN_congr fun w _ => by
     by_cases h : w = t
     ·subst h; rw [if_pos rfl, if_pos rfl, Int.mul_comm]
     ·rw [if_neg (by omega), if_neg h, Int.mul_zero]]
    rw [sumN_one (fun w => P s * P w) ht]
   rw [e3, sumN_swap]
   refine sumN_congr fun w hw => ?_
   rw [sumN_mul]
   have h4 := hPw w hw
   by_cases h : w = v
   ·subst h
    rw [if_pos rfl] at h4 ⊢
    have h5 : (sumN q.src.length fun i => if gx q.tgt i = (w : Int) then P (gx q.src i).toNat else 0) = 0 := by omega
    rw [h5, hPv]; rfl
   ·rw [if_neg (fun e => h e.symm)] at h4
    rw [if_neg h, Int.add_zero]
    have h5 : (sumN q.src.length fun i => if gx q.tgt i = (w : Int) then P (gx q.src i).toNat else 0) = P w := by omega
    rw [h5]
  rw [e1, e2, sumN_add, sumN_one (fun w => -P w) hv, hPv]
  omega
def cw (n : Nat) (m : Nat → Nat → Int) : List Nat → (Nat → Int) → Nat → Int
 | [], f => f
 | v :: ws, f => cw n m ws (fun i => f i + if i = v then -(mv n m f v) else 0)
theorem mv_sum (n : Nat) (m : Nat → Nat → Int) (f g : Nat → Int) (v : Nat) : mv n m (fun i => f i + g i) v = mv n m f v + mv n m g v := by
 unfold mv
 rw [← sumN_add]
 exact sumN_congr fun i _ => Int.mul_add _ _ _
theorem cw_add (n : Nat) (m : Nat → Nat → Int) : ∀ (ws : List Nat) (f g : Nat → Int), cw n m ws (fun i => f i + g i) = fun i => cw n m ws f i + cw n m ws g i
 | [], f, g => rfl
 | v :: ws, f, g => by
  simp only [cw]
  rw [← cw_add n m ws]
  congr 1
  funext i
  rw [mv_sum]
  split <;> omega
theorem cw_zero (n : Nat) (m : Nat → Nat → Int) : ∀ (ws : List Nat), cw n m ws (fun _ => 0) = fun _ => 0
 | [] => rfl
 | v :: ws => by
  simp only [cw]
  have : mv n m (fun _ => 0) v = 0 := by
   unfold mv
   exact (sumN_congr fun i _ => Int.mul_zero _).trans (sumN_zero n)
  rw [this]
  have e : (fun i => (0 : Int) + if i = v then -(0 : Int) else 0) = fun _ => 0 := by funext i; split <;> rfl
  rw [e]
  exact cw_zero n m ws
theorem cw_off (n : Nat) (m : Nat → Nat → Int) : ∀ (ws : List Nat) (f : Nat → Int) (v : Nat), v ∉ ws → cw n m ws f v = f v
 | [], f, v, _ => rfl
 | u :: ws, f, v, h => by
  simp only [List.mem_cons, not_or] at h
  simp only [cw]
  rw [cw_off n m ws _ v h.2, if_neg h.1, Int.add_zero]
theorem cw_fix (n : Nat) (m : Nat → Nat → Int) : ∀ (ws : List Nat) (f : Nat → Int), ws.Nodup → cw n m ws f = f → ∀ v ∈ ws, mv n m f v = 0
 | [], f, _, _, v, hv => by cases hv
 | u :: ws, f, hn, hf, v, hv => by
  obtain ⟨h1, h2⟩ := List.nodup_cons.1 hn
  simp only [cw] at hf
  have h3 : mv n m f u = 0 := by
   have h4 := congrFun hf u
   rw [cw_off n m ws _ u h1, if_pos rfl] at h4
   omega
  have e : (fun i => f i + if i = u then -(mv n m f u) else 0) = f := by
   funext i; rw [h3]; split <;> omega
  rw [e] at hf
  rcases List.mem_cons.1 hv with rfl | hv
  ·exact h3
  ·exact cw_fix n m ws f h2 hf v hv
def fwL (q : Qv) (n : Nat) : List Int → List Int → List Int
 | [], x => x
 | v :: ws, x => fwL q n ws (reflL q n x v.toNat)
theorem refW_fwL {q : Qv} {n : Nat} : ∀ {ws x y : List Int}, refW q n ws x = some y → y = fwL q n ws x
 | [], x, y, h => by cases h; rfl
 | v :: ws, x, y, h => by
  simp only [refW] at h
  cases h1 : refD q n x v with
  | none => rw [h1] at h; cases h
  | some z =>
   rw [h1, Option.bind_some] at h
   have h2 := refW_fwL h
   unfold refD at h1
   split at h1
   ·cases h1; exact h2
   ·cases h1
theorem fwL_len {q : Qv} {n : Nat} : ∀ (ws x : List Int), (fwL q n ws x).length = x.length
 | [], x => rfl
 | v :: ws, x => by simp only [fwL]; rw [fwL_len ws, reflL_len]
theorem fwL_cw {q : Qv} {n : Nat} : ∀ (ws : List Int) {x : List Int}, (∀ v ∈ ws, 0 ≤ v ∧ v < n) → x.length = n → gx (fwL q n ws x) = cw n (rowsF (matQ q n)) (ws.map Int.toNat) (gx x)
 | [], x, _, _ => rfl
 | v :: ws, x, h, hx => by
  have hv := h v (by simp)
  simp only [fwL, List.map_cons, cw]
  rw [fwL_cw ws (fun u hu => h u (by simp [hu])) (by rw [reflL_len, hx])]
  congr 1
  unfold reflL
  rw [gx_inc _ (by omega)]
theorem fwL_form {q : Qv} {n : Nat} (H : Fin1 q n) : ∀ (ws : List Int) {x : List Int}, (∀ v ∈ ws, 0 ≤ v ∧ v < n) → x.length = n → qf n (rowsF (matQ q n)) (gx (fwL q n ws x)) = qf n (rowsF (matQ q n)) (gx x)
 | [], x, _, _ => rfl
 | v :: ws, x, h, hx => by
  have hv := h v (by simp)
  simp only [fwL]
  rw [fwL_form H ws (fun u hu => h u (by simp [hu])) (by rw [reflL_len, hx])]
  unfold reflL
  rw [gx_inc _ (by omega), qf_add _ _ _ (by omega) H.F.sym, H.F.diag v.toNat (by omega)]
  generalize mv n (rowsF (matQ q n)) (gx x) v.toNat = s
  grind
def xs (q : Qv) (n : Nat) (L x : List Int) : Nat → List Int
 | 0 => x
 | k + 1 => fwL q n L (xs q n L x k)
def ys (q : Qv) (n : Nat) (L x : List Int) (i : Nat) : Nat → Nat → Int
 | 0 => fun _ => 0
 | d + 1 => fun a => ys q n L x i d a + gx (xs q n L x (i + d)) a
theorem xs_len {q : Qv} {n : Nat} {L x : List Int} (hx : x.length = n) : ∀ k, (xs q n L x k).length = n
 | 0 => hx
 | k + 1 => by simp only [xs]; rw [fwL_len, xs_len hx k]
theorem ys_cw {q : Qv} {n : Nat} {L x : List Int} (hL : ∀ v ∈ L, 0 ≤ v ∧ v < n) (hx : x.length = n) (i : Nat) : ∀ d a, cw n (rowsF (matQ q n)) (L.map Int.toNat) (ys q n L x i d) a + gx (xs q n L x i) a = ys q n L x i d a + gx (xs q n L x (i + d)) a
 | 0, a => by simp only [ys]; rw [cw_zero, Nat.add_zero]
 | d + 1, a => by
  have ih := ys_cw (q := q) hL hx i d a
  simp only [ys]
  rw [cw_add, ← fwL_cw L hL (xs_len hx (i + d))]
  show _ + gx (xs q n L x (i + d + 1)) a + _ = _ + gx (xs q n L x (i + d + 1)) a
  omega
theorem nat_words {n : Nat} {L : List Int} {q : Qv} (hT : Topo q n L) : (L.map Int.toNat).Nodup := by
 have : ∀ {l : List Int}, (∀ v ∈ l, 0 ≤ v) → l.Nodup → (l.map Int.toNat).Nodup := by
  intro l
  induction l with
  | nil => intro _ _; simp
  | cons v l ih =>
   intro h hn
   obtain ⟨h1, h2⟩ := List.nodup_cons.1 hn
   rw [List.map_cons, List.nodup_cons]
   refine ⟨fun hm => ?_, ih (fun u hu => h u (by simp [hu])) h2⟩
   obtain ⟨u, hu, e⟩ := List.mem_map.1 hm
   have a1 := h u (by simp [hu])
   have a2 := h v (by simp)
   have : u = v := by omega
   subst this
   exact h1 hu
 exact this (fun v hv => (hT.rg v hv).1) hT.nd
theorem xs_apart {q : Qv} {n : Nat} (H : Fin1 q n) {L x : List Int} (hT : Topo q n L) (hx : x.length = n) {i j : Nat} (hij : i < j) (hr : ∀ k, k < j → RtQ q n (xs q n L x k)) : xs q n L x i ≠ xs q n L x j := by
 intro e
 obtain ⟨d, rfl⟩ : ∃ d, j = i + d := ⟨j - i, by omega⟩
 have hfix : cw n (rowsF (matQ q n)) (L.map Int.toNat) (ys q n L x i d) = ys q n L x i d := by
  funext a
  have := ys_cw (q := q) hT.rg hx i d a
  rw [e] at this
  omega
 have hmv := cw_fix n _ _ _ (nat_words hT) hfix
 have hmv' : ∀ v, v < n → mv n (rowsF (matQ q n)) (ys q n L x i d) v = 0 := fun v hv => hmv v (List.mem_map.2 ⟨(v : Int), hT.all hv, Int.toNat_natCast v⟩)
 have hq0 : qf n (rowsF (matQ q n)) (ys q n L x i d) = 0 := by
  rw [qf_mv]
  exact (sumN_congr fun v hv => by rw [hmv' v hv, Int.mul_zero]).trans (sumN_zero n)
 have hnn : ∀ d', d' ≤ d → ∀ a, a < n → 0 ≤ ys q n L x i d' a ∧ (0 < d' → gx (xs q n L x i) a ≤ ys q n L x i d' a) := by
  intro d'
  induction d' with
  | zero => intro _ a _; exact ⟨by simp [ys], fun h => absurd h (Nat.lt_irrefl 0)⟩
  | succ d' ih =>
   intro hd a ha
   obtain ⟨h1, h2⟩ := ih (by omega) a ha
   have h3 : 0 ≤ gx (xs q n L x (i + d')) a := (hr (i + d') (by omega)).nn _ (mem_gx (by rw [xs_len hx]; exact ha))
   simp only [ys]
   refine ⟨by omega, fun _ => ?_⟩
   by_cases hd0 : d' = 0
   ·subst hd0; rw [Nat.add_zero]; omega
   ·have := h2 (by omega); omega
 have hroot := hr i (by omega)
 have hpos := hroot.pos H.F
 rw [sum_sumN, xs_len hx] at hpos
 obtain ⟨a, ha, hga⟩ := sumN_pos_ex (by omega : 0 < sumN n (gx (xs q n L x i)))
 have h5 := (hnn d (Nat.le_refl _) a ha).2 (by omega)
 have h6 := (pd_pos n _ H.F.pd H.F.sym (ys q n L x i d)).2 ⟨a, ha, by omega⟩
 omega
def nnB (x : List Int) : Bool := x.all fun a => decide (0 ≤ a)
theorem nnB_true {x : List Int} (h : nnB x = true) : ∀ a ∈ x, 0 ≤ a := fun a ha => of_decide_eq_true (List.all_eq_true.1 h a ha)
def coxB (q : Qv) (n : Nat) (L x : List Int) : Option (List Int) := if numB n x then refW q n L x else none
def kn (q : Qv) (n : Nat) (L : List Int) : Nat → List Int → List (List Int)
 | 0, x => []
 | f + 1, x => if nnB x then x :: (match coxB q n L x with | some y => kn q n L f y | none => []) else []
def stops (q : Qv) (n : Nat) (L : List Int) : Nat → List Int → Prop
 | 0, x => False
 | f + 1, x => nnB x = false ∨ coxB q n L x = none ∨ ∃ y, coxB q n L x = some y ∧ stops q n L f y
theorem coxB_fwL {q : Qv} {n : Nat} {L x y : List Int} (h : coxB q n L x = some y) : y = fwL q n L x := by
 unfold coxB at h
 split at h
 ·exact refW_fwL h
 ·cases h
def J (q : Qv) (n : Nat) (x : List Int) : Prop := x.length = n ∧ qf n (rowsF (matQ q n)) (gx x) = 2
theorem J.root {q : Qv} {n : Nat} {x : List Int} (h : J q n x) (hn : nnB x = true) : RtQ q n x := ⟨h.1, nnB_true hn, h.2⟩
theorem J.next {q : Qv} {n : Nat} (H : Fin1 q n) {L x : List Int} (hT : Topo q n L) (h : J q n x) : J q n (fwL q n L x) := ⟨by rw [fwL_len]; exact h.1, by rw [fwL_form H L hT.rg h.1]; exact h.2⟩
theorem not_stops {q : Qv} {n : Nat} {L x : List Int} : ∀ (f k : Nat), ¬ stops q n L f (xs q n L x k) → ∀ j, j < f → nnB (xs q n L x (k + j)) = true
 | 0, k, _, j, hj => absurd hj (Nat.not_lt_zero _)
 | f + 1, k, h, j, hj => by
  simp only [stops, not_or] at h
  obtain ⟨h1, h2, h3⟩ := h
  cases j with
  | zero => rw [Nat.add_zero]; simpa using h1
  | succ j =>
   cases h4 : coxB q n L (xs q n L x k) with
   | none => exact absurd h4 h2
   | some y =>
    have h5 : ¬ stops q n L f y := fun h => h3 ⟨y, h4, h⟩
    rw [coxB_fwL h4] at h5
    have := not_stops f (k + 1) h5 j (by omega)
    rwa [show k + 1 + j = k + (j + 1) by omega] at this
theorem knit_stops {q : Qv} {n : Nat} (H : Fin1 q n) {L x : List Int} (hT : Topo q n L) (h : J q n x) : stops q n L 21 x := by
 refine Classical.byContradiction fun hs => ?_
 have hJ : ∀ k, J q n (xs q n L x k) := by
  intro k
  induction k with
  | zero => exact h
  | succ k ih => exact ih.next H hT
 have hr : ∀ k, k < 21 → RtQ q n (xs q n L x k) := fun k hk => (hJ k).root (by have := not_stops 21 0 (x := x) hs k hk; rwa [Nat.zero_add] at this)
 have hnd : ((List.range 21).map (xs q n L x)).Nodup := by
  unfold List.Nodup
  rw [List.pairwise_map]
  have := List.pairwise_lt_range (n := 21)
  refine List.Pairwise.imp_of_mem (fun {a b} ha hb hab => ?_) this
  have := List.mem_range.1 hb
  exact xs_apart H hT h.1 hab fun k hk => hr k (by omega)
 have := H.num hnd fun y hy => by
  obtain ⟨k, hk, rfl⟩ := List.mem_map.1 hy
  exact hr k (List.mem_range.1 hk)
 simp at this
theorem kn_len {q : Qv} {n : Nat} {L : List Int} : ∀ (f : Nat) (x : List Int), (kn q n L f x).length ≤ f
 | 0, x => Nat.le_refl _
 | f + 1, x => by
  simp only [kn]
  split
  ·cases coxB q n L x with
   | none => simp
   | some y => have := kn_len (q := q) (n := n) (L := L) f y; simp only [List.length_cons]; omega
  ·simp
theorem n_pos27 {x : List Int} (hx : x.length ≤ 1048576) : m_spec_l27Positive x = some (nnB x && x.any fun a => decide (0 < a)) := by
 have key : ∀ (d k : Nat) (s : Bool), k + d = x.length → Lp (m_spec_l27Positive_L1 x) (s, (k : Int)) = some (if nnB (x.drop k) then .inl (s || (x.drop k).any fun a => decide (0 < a)) else .inr false) := by
  intro d
  induction d with
  | zero =>
   intro k s hk
   rw [List.drop_of_length_le (by omega)]
   refine (Lp_stop (r := .inl s) ?_).trans (by simp [nnB])
   unfold m_spec_l27Positive_L1
   simp only
   rw [dnl (by omega), cond_false]
  | succ d ih =>
   intro k s hk
   have hkl : k < x.length := by omega
   have hb : m_spec_l27Positive_L1 x (s, (k : Int)) = some (bif decide (x[k] < 0) then .inr (.inr false) else .inl (s || decide (0 < x[k]), wr ((k : Int) + 1))) := by
    unfold m_spec_l27Positive_L1
    simp only
    rw [dlt hkl, cond_true, atL_nat hkl, Option.bind_some]
    cases decide (x[k] < 0) with
    | true => rfl
    | false =>
     cases s with
     | true => rfl
     | false => rw [cond_false, cond_false, Option.bind_some]; rfl
   rw [List.drop_eq_getElem_cons hkl]
   by_cases h0 : x[k] < 0
   ·rw [decide_eq_true h0, cond_true] at hb
    have e0 : nnB (x[k] :: x.drop (k + 1)) = false := by
     unfold nnB
     rw [List.all_cons, decide_eq_false (by omega), Bool.false_and]
    rw [Lp_stop hb, e0, if_neg (by simp)]
   ·rw [decide_eq_false h0, cond_false] at hb
    rw [Lp_step hb, wr_suc hkl (by omega), ih (k + 1) _ (by omega)]
    have e1 : nnB (x[k] :: x.drop (k + 1)) = nnB (x.drop (k + 1)) := by
     unfold nnB
     rw [List.all_cons, decide_eq_true (by omega), Bool.true_and]
    rw [e1, List.any_cons, Bool.or_assoc]
 unfold m_spec_l27Positive
 have := key x.length 0 false (by omega)
 rw [show ((0 : Nat) : Int) = 0 from rfl] at this
 rw [this, Option.bind_some, List.drop_zero]
 cases nnB x
 ·rfl
 ·rfl
theorem n_min {x : List Int} (h1 : 1 ≤ x.length) (hx : x.length ≤ 1048576) : ∃ m, m_slices_Min_Lint_int x = some m ∧ decide (0 ≤ m) = nnB x := by
 have key : ∃ m, Lp (m_slices_Min_Lint_int_L1 x) (x[0]'(by omega), 1) = some m ∧ decide (0 ≤ m) = nnB x := by
  refine Lp_meas (fun s => ∃ k : Nat, s.2 = (k : Int) ∧ 1 ≤ k ∧ k ≤ x.length ∧ decide (0 ≤ s.1) = nnB (x.take k)) (fun s => x.length - s.2.toNat) _ ?_ ?_
  ·refine ⟨1, rfl, by omega, h1, ?_⟩
   rw [List.take_one, List.head?_eq_getElem?, List.getElem?_eq_getElem (by omega)]
   simp [nnB]
  ·rintro ⟨m, a⟩ ⟨k, rfl, hk1, hk2, hm⟩
   simp only at hm
   by_cases hkl : k < x.length
   ·left
    refine ⟨(min m x[k], ((k + 1 : Nat) : Int)), ?_, ⟨k + 1, rfl, by omega, by omega, ?_⟩, ?_⟩
    ·unfold m_slices_Min_Lint_int_L1
     simp only
     rw [dlt hkl, cond_true, atL_nat hkl, Option.bind_some, wr_suc hkl (by omega)]
    ·simp only
     rw [List.take_add_one, List.getElem?_eq_getElem hkl]
     unfold nnB at hm ⊢
     rw [List.all_append, ← hm]
     simp only [Option.toList_some, List.all_cons, List.all_nil, Bool.and_true]
     rw [Bool.eq_iff_iff]
     simp only [Bool.and_eq_true, decide_eq_true_eq]
     omega
    ·simp only [Int.toNat_natCast]; omega
   ·right
    have hke : k = x.length := by omega
    subst hke
    refine ⟨m, ?_, by rw [List.take_length] at hm; exact hm⟩
    unfold m_slices_Min_Lint_int_L1
    simp only
    rw [dnl (Nat.le_refl _), cond_false]
 obtain ⟨m, k1, k2⟩ := key
 refine ⟨m, ?_, k2⟩
 unfold m_slices_Min_Lint_int
 rw [decide_eq_false (by omega), cond_false, show (0 : Int) = ((0 : Nat) : Int) from rfl, atL_nat (by omega), Option.bind_some]
 rw [show ((1 : Int)) = 1 from rfl, k1, Option.bind_some]
theorem cox_minus {q : Qv} {n : Nat} {L : List Int} (hT : ordF q n = (L, true)) (n5 : n ≤ 5) (x : List Int) : coxP q n x (-1) = coxB q n L x := by
 have hlen := (ordF_topo hT).len
 unfold coxP coxB
 rw [hT]
 simp only [Bool.true_and]
 rw [inR_mk (by omega) (by omega), Bool.and_true, if_pos (by omega : (-1 : Int) < 0)]
 cases h : numB n x with
 | false => rfl
 | true =>
  simp only [if_true]
  show (rw1 q n L x).bind (fun y => some y) = _
  unfold rw1
  rw [h, decide_eq_true (by omega)]
  simp
theorem n_implRow {q : Qv} {n : Nat} (H : Fin1 q n) {L : List Int} (hT : ordF q n = (L, true)) : ∀ (f : Nat) {x : List Int} {out : List (List Int)}, x.length = n → stops q n L f x → out.length + f ≤ 1000 → Lp (m_impl_KnitRow_L1 q) (out, x, true) = some (out ++ kn q n L f x)
 | 0, x, out, _, h, _ => h.elim
 | f + 1, x, out, hx, h, ho => by
  have n5 := H.Q.n5
  have n1 := H.Q.n1
  obtain ⟨m, h1, h2⟩ := n_min (x := x) (by omega) (by omega)
  have hb : m_impl_KnitRow_L1 q (out, x, true) = some (bif nnB x then .inl (out ++ [x], encO (coxB q n L x)) else .inr out) := by
   unfold m_impl_KnitRow_L1
   simp only
   rw [cond_true, h1, Option.bind_some, h2]
   cases nnB x with
   | false => rfl
   | true =>
    rw [cond_true, decide_eq_true (by omega), cond_true, n_coxI H.Q (by omega), Option.bind_some, cox_minus hT n5]
    rfl
  simp only [kn]
  cases h3 : nnB x with
  | false =>
   rw [h3, cond_false] at hb
   rw [Lp_stop hb, if_neg (by simp), List.append_nil]
  | true =>
   rw [h3, cond_true] at hb
   rw [Lp_step hb, if_pos rfl]
   cases h4 : coxB q n L x with
   | none =>
    refine Lp_stop ?_
    unfold m_impl_KnitRow_L1
    rfl
   | some y =>
    rcases h with h | h | ⟨y', h5, h6⟩
    ·rw [h3] at h; cases h
    ·rw [h4] at h; cases h
    ·rw [h4] at h5
     cases h5
     show Lp _ (out ++ [x], y, true) = _
     rw [n_implRow H hT f (by rw [coxB_fwL h4, fwL_len]; exact hx) h6 (by simp; omega), List.append_assoc]
     rfl
theorem n_specRow' {q : Qv} {n : Nat} (H : Fin1 q n) {L : List Int} (hT : ordF q n = (L, true)) : ∀ (f k : Nat) {x : List Int} {out : List (List Int)}, J q n x → stops q n L f x → k + f ≤ 40 → out.length + f ≤ 1000 → Lp (m_spec_KnitRow_L1 q) (out, x, (k : Int)) = some (out ++ kn q n L f x)
 | 0, k, x, out, _, h, _, _ => h.elim
 | f + 1, k, x, out, hj, h, hk, ho => by
  have n5 := H.Q.n5
  have hx := hj.1
  have hb : m_spec_KnitRow_L1 q (out, x, (k : Int)) = some (bif nnB x then .inl (out ++ [x], (encO (coxB q n L x)).1, wr ((k : Int) + 1)) else .inr out) := by
   unfold m_spec_KnitRow_L1
   simp only
   rw [decide_eq_true (by omega), cond_true, n_pos27 (by omega), Option.bind_some]
   cases h3 : nnB x with
   | false => rfl
   | true =>
    have hr := hj.root h3
    have hp := hr.pos H.F
    have hany : (x.any fun a => decide (0 < a)) = true := by
     rw [sum_sumN] at hp
     obtain ⟨a, ha, hga⟩ := sumN_pos_ex (by omega : 0 < sumN x.length (gx x))
     rw [List.any_eq_true]
     exact ⟨gx x a, mem_gx ha, decide_eq_true hga⟩
    rw [hany, Bool.and_self, cond_true, decide_eq_true (by omega), cond_true, n_coxS H.Q (by omega), Option.bind_some, cox_minus hT n5]
    rfl
  simp only [kn]
  cases h3 : nnB x with
  | false =>
   rw [h3, cond_false] at hb
   rw [Lp_stop hb, if_neg (by simp), List.append_nil]
  | true =>
   rw [h3, cond_true] at hb
   rw [Lp_step hb, if_pos rfl, wr_sm (by omega), show (k : Int) + 1 = ((k + 1 : Nat) : Int) by omega]
   cases h4 : coxB q n L x with
   | none =>
    refine Lp_stop ?_
    unfold m_spec_KnitRow_L1
    simp only [encO]
    cases decide (((k + 1 : Nat) : Int) < 40) with
    | false => rfl
    | true =>
     rw [cond_true, n_pos27 (by simp), Option.bind_some]
     rfl
   | some y =>
    rcases h with h | h | ⟨y', h5, h6⟩
    ·rw [h3] at h; cases h
    ·rw [h4] at h; cases h
    ·rw [h4] at h5
     cases h5
     show Lp _ (out ++ [x], y, ((k + 1 : Nat) : Int)) = _
     have hjy : J q n y := by rw [coxB_fwL h4]; exact hj.next H (ordF_topo hT)
     rw [n_specRow' H hT f (k + 1) hjy h6 (by omega) (by simp; omega), List.append_assoc]
     rfl
end Go.Proofs.Ytinllccaphhmcaa
end

section
set_option linter.unusedVariables false
set_option linter.unusedSimpArgs false

namespace Go.Proofs.Ytinllccaphhmcaa
open Go.RowKit
set_option linter.unusedVariables false
set_option linter.unusedSimpArgs false
set_option maxRecDepth 10000
set_option maxHeartbeats 4000000

end Go.Proofs.Ytinllccaphhmcaa
end

section
set_option linter.unusedVariables false
set_option linter.unusedSimpArgs false

namespace Go.Proofs.Ytinllccaphhmcaa
open Go.RowKit
set_option linter.unusedVariables false
set_option linter.unusedSimpArgs false
def nvS {α : Type} (nv : α → Nat) : List α → Nat
 | [] => 0
 | x :: l => nv x + nvS nv l
def mvS {α : Type} (mv : Int → α → α) (nv : α → Nat) : Int → List α → List α
 | _, [] => []
 | k, x :: l => mv k x :: mvS mv nv (k + nv x) l
section
variable {α : Type} {mv : Int → α → α} {nv : α → Nat}
theorem mvS_len : ∀ (l : List α) (k : Int), (mvS mv nv k l).length = l.length
 | [], _ => rfl
 | x :: l, k => by simp [mvS, mvS_len l]
theorem nvS_app : ∀ (l m : List α), nvS nv (l ++ m) = nvS nv l + nvS nv m
 | [], m => by simp [nvS]
 | x :: l, m => by simp [nvS, nvS_app l m]; omega
theorem mvS_app : ∀ (l m : List α) (k : Int), mvS mv nv k (l ++ m) = mvS mv nv k l ++ mvS mv nv (k + nvS nv l) m
 | [], m, k => by simp [mvS, nvS]
 | x :: l, m, k => by
  simp only [List.cons_append, mvS, nvS, mvS_app l m]
  rw [show k + ((nv x + nvS nv l : Nat) : Int) = k + (nv x : Int) + (nvS nv l : Int) by omega]
theorem nvS_take {l : List α} {i : Nat} (hi : i < l.length) : nvS nv (l.take (i + 1)) = nvS nv (l.take i) + nv l[i] := by
 rw [List.take_succ_eq_append_getElem hi, nvS_app]; simp [nvS]
theorem nvS_take_le (l : List α) (i : Nat) : nvS nv (l.take i) ≤ nvS nv l := by
 have h : nvS nv (l.take i ++ l.drop i) = nvS nv l := by rw [List.take_append_drop]
 rw [nvS_app] at h; omega
theorem nvS_le {c : Nat} : ∀ {l : List α}, (∀ x ∈ l, nv x ≤ c) → nvS nv l ≤ c * l.length
 | [], _ => by simp [nvS]
 | x :: l, h => by
  have h1 := h x (by simp)
  have h2 := nvS_le (l := l) fun y hy => h y (by simp [hy])
  simp only [nvS, List.length_cons, Nat.mul_add, Nat.mul_one]; omega
theorem mvS_get {l : List α} {k : Int} {i : Nat} (hi : i < l.length) : (mvS mv nv k l)[i]? = some (mv (k + nvS nv (l.take i)) l[i]) := by
 have e : l = l.take i ++ l[i] :: l.drop (i + 1) := by rw [← List.drop_eq_getElem_cons hi, List.take_append_drop]
 have e2 : mvS mv nv k l = mvS mv nv k (l.take i) ++ mvS mv nv (k + nvS nv (l.take i)) (l[i] :: l.drop (i + 1)) := by rw [← mvS_app, ← e]
 rw [e2, List.getElem?_append_right (by rw [mvS_len]; simp; omega), mvS_len]
 simp [mvS, Nat.min_eq_left (Nat.le_of_lt hi)]
theorem mark_loop {l : List α} {k0 : Int} {body : List α × Int × Int → Option ((List α × Int × Int) ⊕ (List α × Int))} (h0 : 0 ≤ k0) (hk : k0 + nvS nv l ≤ 4611686018427387904) (hl : l.length ≤ 4611686018427387904)
  (hs : ∀ (r : List α) (i : Nat) (k : Int) (hi : i < r.length), r[i] ∈ l → 0 ≤ k → k + nv r[i] ≤ 4611686018427387904 → body (r, k, i) = some (.inl (r.set i (mv k r[i]), k + nv r[i], wr (i + 1)))) (he : ∀ r k, body (r, k, (r.length : Int)) = some (.inr (r, k))) :
  Lp body (l, k0, 0) = some (mvS mv nv k0 l, k0 + nvS nv l) := by
 rw [Lp_go (r := (mvS mv nv k0 l, k0 + nvS nv l)) (fun i => (mvS mv nv k0 (l.take i) ++ l.drop i, k0 + nvS nv (l.take i), (i : Int))) l.length (by simp [mvS, nvS]) (fun i hi => ?_) (fun _ => ?_)]
 ·have hm : (mvS mv nv k0 (l.take i)).length = i := by rw [mvS_len]; simp; omega
  have hg : (mvS mv nv k0 (l.take i) ++ l.drop i)[i]'(by simp [mvS_len]; omega) = l[i] := by
   rw [List.getElem_append_right (by omega)]
   simp [hm]
  have hb := nvS_take_le (nv := nv) l (i + 1)
  rw [nvS_take hi] at hb
  rw [hs _ i _ (by simp [mvS_len]; omega) (by rw [hg]; exact List.getElem_mem hi) (by omega) (by rw [hg]; omega), hg, wr_suc hi hl]
  congr 2
  refine Prod.ext ?_ (Prod.ext ?_ rfl)
  ·simp only
   rw [List.set_append_right _ _ (by omega), hm, Nat.sub_self, List.drop_eq_getElem_cons hi, List.set_cons_zero, List.take_succ_eq_append_getElem hi, mvS_app]
   simp [mvS]
  ·simp only
   rw [nvS_take hi]; omega
 ·have := he (mvS mv nv k0 (l.take l.length) ++ l.drop l.length) (k0 + nvS nv (l.take l.length))
  simp only [List.take_length, List.drop_length, List.append_nil, mvS_len] at this ⊢
  exact this
theorem held_loop {l : List α} {k0 : Int} {body : Int × Int → Option ((Int × Int) ⊕ (Int ⊕ Int))} (h0 : 0 ≤ k0) (hk : k0 + nvS nv l ≤ 4611686018427387904) (hl : l.length ≤ 4611686018427387904)
  (hs : ∀ (i : Nat) (hi : i < l.length) (k : Int), k = k0 + nvS nv (l.take i) → 0 ≤ k → k + nv l[i] ≤ 4611686018427387904 → body (k, i) = some (.inl (k + nv l[i], wr (i + 1)))) (he : ∀ k, body (k, (l.length : Int)) = some (.inr (.inl k))) :
  Lp body (k0, 0) = some (.inl (k0 + nvS nv l)) := by
 rw [Lp_go (r := Sum.inl (k0 + nvS nv l)) (fun i => (k0 + nvS nv (l.take i), (i : Int))) l.length (by simp [nvS]) (fun i hi => ?_) (fun _ => ?_)]
 ·have hb := nvS_take_le (nv := nv) l (i + 1)
  rw [nvS_take hi] at hb
  rw [hs i hi _ rfl (by omega) (by omega), wr_suc hi hl, nvS_take hi]
  congr 3
  omega
 ·rw [he]; simp
end
def nI (l : List Int) : Nat := nvS (fun _ => 1) l
def mvI : Int → List Int → List Int := mvS (fun k _ => k) (fun _ => 1)
theorem nI_len : ∀ l : List Int, nI l = l.length
 | [] => rfl
 | x :: l => by have := nI_len l; simp only [nI] at this; simp only [nI, nvS, List.length_cons]; omega
theorem mvI_len (k : Int) (l : List Int) : (mvI k l).length = l.length := mvS_len l k
theorem nneg {k : Int} {n : Nat} (h : 0 ≤ k) : decide (k + (n : Int) < 0) = false := decide_eq_false (by omega)
def nIS : List (List Int) → Nat := nvS nI
def mvIS : Int → List (List Int) → List (List Int) := mvS mvI nI
theorem get_of {α : Type} {l : List α} {i : Nat} {v : α} (h : l[i]? = some v) (hi : i < l.length) : l[i] = v := by rw [List.getElem?_eq_getElem hi] at h; exact Option.some.inj h
def nSe (s : Sc) : Nat := 1 + nIS s.basis
def mvSe (k : Int) (s : Sc) : Sc := ⟨k, mvIS (k + 1) s.basis⟩
def nSs : List Sc → Nat := nvS nSe
def mvSs : Int → List Sc → List Sc := mvS mvSe nSe
def lS (l : List Sc) : Prop := l.length ≤ 4611686018427387904 ∧ ∀ s ∈ l, s.basis.length ≤ 4611686018427387904
theorem mvIS_len (k : Int) (l : List (List Int)) : (mvIS k l).length = l.length := mvS_len l k
theorem mvSs_len (k : Int) (l : List Sc) : (mvSs k l).length = l.length := mvS_len l k
def nQ (q : Qv) : Nat := nI q.src + nI q.tgt
def mvQ (k : Int) (q : Qv) : Qv := ⟨q.n, mvI k q.src, mvI (k + nI q.src) q.tgt⟩
def nMe (m : Mt) : Nat := 2 + nI m.cells
def mvMe (k : Int) (m : Mt) : Mt := ⟨k, k + 1, mvI (k + 2) m.cells⟩
def nMs : List Mt → Nat := nvS nMe
def mvMs : Int → List Mt → List Mt := mvS mvMe nMe
theorem mvMs_len (k : Int) (l : List Mt) : (mvMs k l).length = l.length := mvS_len l k
def nR (r : Rp) : Nat := nQ r.q + nI r.dims + nMs r.maps
def mvR (k : Int) (r : Rp) : Rp := ⟨r.p, mvQ k r.q, mvI (k + nQ r.q) r.dims, mvMs (k + nQ r.q + nI r.dims) r.maps⟩
theorem mvR_len (k : Int) (r : Rp) : (mvR k r).q.src.length = r.q.src.length ∧ (mvR k r).q.tgt.length = r.q.tgt.length ∧ (mvR k r).dims.length = r.dims.length ∧ (mvR k r).maps.length = r.maps.length := ⟨mvI_len _ _, mvI_len _ _, mvI_len _ _, mvMs_len _ _⟩
theorem nMs_bd {l : List Mt} (h : l.length ≤ 1048576 ∧ ∀ m ∈ l, bM m) : nMs l ≤ 2097152 * 1048576 := by
 have := nvS_le (nv := nMe) (c := 2097152) (l := l) fun m hm => by have := (h.2 m hm).1; unfold bI at this; unfold nMe; rw [nI_len]; omega
 unfold nMs
 calc nvS nMe l ≤ 2097152 * l.length := this
  _ ≤ 2097152 * 1048576 := Nat.mul_le_mul_left _ h.1
theorem nR_bd {r : Rp} (h : bR r) : nR r ≤ 4398046511104 := by
 obtain ⟨⟨h1, h2, _⟩, h3, h4, _⟩ := h
 have := nMs_bd h4
 unfold bI at h1 h2 h3
 unfold nR nQ
 rw [nI_len, nI_len, nI_len]
 omega
theorem nIS_bd {l : List (List Int)} (h : l.length ≤ 1048576 ∧ ∀ v ∈ l, bI v) : nIS l ≤ 1048576 * 1048576 := by
 have := nvS_le (nv := nI) (c := 1048576) (l := l) fun m hm => by have := h.2 m hm; unfold bI at this; rw [nI_len]; exact this
 unfold nIS
 calc nvS nI l ≤ 1048576 * l.length := this
  _ ≤ 1048576 * 1048576 := Nat.mul_le_mul_left _ h.1
theorem nSs_bd {l : List Sc} (h : l.length ≤ 1048576 ∧ ∀ s ∈ l, bS s) : nSs l ≤ 2305843009213693952 := by
 have := nvS_le (nv := nSe) (c := 2097152 * 1048576) (l := l) fun m hm => by have := nIS_bd (h.2 m hm).1; unfold nSe; omega
 unfold nSs
 calc nvS nSe l ≤ 2097152 * 1048576 * l.length := this
  _ ≤ 2097152 * 1048576 * 1048576 := Nat.mul_le_mul_left _ h.1
  _ ≤ 2305843009213693952 := by decide
theorem lS_of {l : List Sc} (h : l.length ≤ 1048576 ∧ ∀ s ∈ l, bS s) : lS l := ⟨by omega, fun s hs => by have := (h.2 s hs).1.1; omega⟩
end Go.Proofs.Ytinllccaphhmcaa
end

section
set_option linter.unusedVariables false
set_option linter.unusedSimpArgs false

namespace Go.Proofs.Ytinllccaphhmcaa
open Go.RowKit
set_option linter.unusedVariables false
set_option linter.unusedSimpArgs false
set_option maxRecDepth 10000
set_option maxHeartbeats 4000000

end Go.Proofs.Ytinllccaphhmcaa
end

section
set_option linter.unusedVariables false
set_option linter.unusedSimpArgs false

namespace Go.Proofs.Ytinllccaphhmcaa
open Go.RowKit
set_option linter.unusedVariables false
theorem dn_neg (c : Nat → Bool) : ∀ (k : Nat) (acc : Int), dn c k acc < 0 → ∀ j, j < k → c j = false
 | 0, acc, _, j, hj => absurd hj (Nat.not_lt_zero _)
 | k + 1, acc, h, j, hj => by
  rw [dn] at h
  by_cases hjk : j = k
  ·subst hjk
   cases hc : c j with
   | false => rfl
   | true =>
    rw [hc, cond_true] at h
    rcases dn_spec c j (j : Int) with e | ⟨i, _, e, _⟩
    ·rw [e] at h; omega
    ·rw [e] at h; omega
  ·exact dn_neg c k _ h j (by omega)
theorem stuck {q : Qv} {n : Nat} (H : Fin1 q n) {out : List Int} (ho : out.length < n) : ¬ dn (cO q out) n (-1) < 0 := by
 intro h
 have Q := H.Q
 have hc := dn_neg _ _ _ h
 obtain ⟨y, hy⟩ : ∃ y : Nat → Int, y = fun v : Nat => if (v : Int) ∈ out then (0 : Int) else (1 : Int) := ⟨fun v : Nat => if (v : Int) ∈ out then (0 : Int) else (1 : Int), rfl⟩
 have h01 : ∀ v, y v = 0 ∨ y v = 1 := fun v => by rw [hy]; simp only; split <;> simp
 have hex : ∃ v, v < n ∧ y v ≠ 0 := by
  refine Classical.byContradiction fun hno => ?_
  have hall : ∀ v, v < n → (v : Int) ∈ out := fun v hv => by
   refine Classical.byContradiction fun hm => hno ⟨v, hv, ?_⟩
   rw [hy]; simp only [if_neg hm]; decide
  have hnd : ((List.range n).map fun v : Nat => (v : Int)).Nodup := by
   unfold List.Nodup
   rw [List.pairwise_map]
   exact (List.pairwise_lt_range (n := n)).imp fun {a b} hab => by omega
  have := nodup_len hnd fun x hx => by
   obtain ⟨v, hv, rfl⟩ := List.mem_map.1 hx
   exact hall v (List.mem_range.1 hv)
  simp at this
  omega
 have hin : ∀ v, v < n → y v ≠ 0 → ∃ i, i < q.src.length ∧ gx q.tgt i = (v : Int) ∧ y (gx q.src i).toNat = 1 := by
  intro v hv hyv
  have hvo : ¬ (v : Int) ∈ out := fun hm => hyv (by rw [hy]; simp only [if_pos hm])
  have h1 := hc v hv
  unfold cO at h1
  rw [decide_eq_false hvo, Bool.not_false, Bool.true_and] at h1
  unfold readyB at h1
  rw [List.all_eq_false] at h1
  obtain ⟨i, hi, h2⟩ := h1
  have hi := List.mem_range.1 hi
  rw [Bool.or_eq_true, not_or] at h2
  obtain ⟨h3, h4⟩ := h2
  refine ⟨i, hi, by simpa using h3, ?_⟩
  have h5 : ¬ gx q.src i ∈ out := by simpa using h4
  obtain ⟨s, t, hs, ht, e1, e2, _, _⟩ := Q.arrow hi
  rw [e1] at h5 ⊢
  rw [hy]
  simp only [Int.toNat_natCast, if_neg h5]
 have hpos := (pd_pos n _ H.F.pd H.F.sym y).2 hex
 have hqe : qf n (rowsF (matQ q n)) y = 2 * eul q n (rowL n y) (rowL n y) := by
  rw [← qf_eul Q]
  have e : ∀ i, i < n → gx (rowL n y) i = y i := fun i hi => gx_rowL hi
  simp only [qf]
  exact sumN_congr fun i hi => sumN_congr fun j hj => by rw [e i hi, e j hj]
 rw [hqe] at hpos
 unfold eul at hpos
 rw [sumN_congr (g := y) fun v hv => by rw [gx_rowL hv]; rcases h01 v with e | e <;> rw [e] <;> rfl] at hpos
 have e3 : (sumN q.src.length fun i => gx (rowL n y) (gx q.src i).toNat * gx (rowL n y) (gx q.tgt i).toNat) = sumN n fun w => sumN q.src.length fun i => if gx q.tgt i = (w : Int) then y (gx q.src i).toNat * y w else 0 := by
  rw [← sumN_swap]
  refine sumN_congr fun i hi => ?_
  obtain ⟨s, t, hs, ht, g1, g2, _, _⟩ := Q.arrow hi
  rw [g1, g2, Int.toNat_natCast, Int.toNat_natCast, gx_rowL hs, gx_rowL ht]
  rw [show (sumN n fun w => if (t : Int) = (w : Int) then y s * y w else 0) = sumN n fun w => if w = t then y s * y w else 0 from sumN_congr fun w _ => by
   by_cases h : w = t
   ·subst h; rw [if_pos rfl, if_pos rfl]
   ·rw [if_neg (by omega), if_neg h]]
  rw [sumN_one (fun w => y s * y w) ht]
 rw [e3] at hpos
 have e4 : 0 ≤ (sumN n fun w => sumN q.src.length fun i => if gx q.tgt i = (w : Int) then y (gx q.src i).toNat * y w else 0) - sumN n y := by
  have : (sumN n fun w => (sumN q.src.length fun i => if gx q.tgt i = (w : Int) then y (gx q.src i).toNat * y w else 0) + (-1) * y w) = (sumN n fun w => sumN q.src.length fun i => if gx q.tgt i = (w : Int) then y (gx q.src i).toNat * y w else 0) - sumN n y := by
   rw [sumN_add, sumN_mul]; omega
  rw [← this]
  refine sumN_nonneg fun w hw => ?_
  have hnn : ∀ i, i < q.src.length → 0 ≤ (if gx q.tgt i = (w : Int) then y (gx q.src i).toNat * y w else 0) := fun i _ => by
   split
   ·rcases h01 (gx q.src i).toNat with e | e <;> rcases h01 w with e' | e' <;> rw [e, e'] <;> decide
   ·exact Int.le_refl _
  rcases h01 w with e | e
  ·have := sumN_nonneg hnn
   omega
  ·obtain ⟨i, hi, h1, h2⟩ := hin w hw (by rw [e]; decide)
   have := sumN_ge hnn hi
   rw [if_pos h1, h2, Int.one_mul] at this
   omega
 omega
theorem ordS_fin {q : Qv} {n : Nat} (H : Fin1 q n) : ∀ (d : Nat) {out : List Int}, out.length + d = n → ∃ l, ordS q n d out = .inl l
 | 0, out, _ => ⟨out, rfl⟩
 | d + 1, out, h => by
  rw [ordS, if_neg (stuck H (by omega))]
  exact ordS_fin H d (by simp; omega)
theorem fin_ord {q : Qv} {n : Nat} (H : Fin1 q n) : ∃ L, ordF q n = (L, true) := by
 obtain ⟨l, hl⟩ := ordS_fin H n (out := []) (by simp)
 exact ⟨l, by unfold ordF; rw [hl]⟩
theorem n_kind {q : Qv} (hb : bQ q) : (∃ n, Fin1 q n ∧ m_impl_KindOfQuiver q = some 1 ∧ m_spec_KindOfQuiver q = some 1) ∨ ∃ k, k ≠ 1 ∧ m_impl_KindOfQuiver q = some k ∧ m_spec_KindOfQuiver q = some k := by
 by_cases hv : quivV q = true
 ·obtain ⟨n, Q⟩ := qok hb hv
  by_cases hk : kindR n (matQ q n) (2 ^ n - 1) 1 1 = 1
  ·obtain ⟨F, G⟩ := fin_form Q fun t h1 h2 => kindR_one hk t h1 (by omega)
   exact .inl ⟨n, ⟨Q, F, G⟩, by rw [n_implKind Q, hk], by rw [n_specKind Q, hk]⟩
  ·exact .inr ⟨_, hk, n_implKind Q, n_specKind Q⟩
 ·have hv' : quivV q = false := by simpa using hv
  refine .inr ⟨0, by decide, ?_, ?_⟩
  ·unfold m_impl_KindOfQuiver
   rw [n_implQ hb, hv', Option.bind_some]
   rfl
  ·unfold m_spec_KindOfQuiver
   rw [n_specQ hb, hv', Option.bind_some]
   rfl
theorem proj_J {q : Qv} {n : Nat} (H : Fin1 q n) {L : List Int} (hT : Topo q n L) {v : Nat} (hv : v < n) : J q n (projL q n v) := by
 have r := proj_root H.Q hT hv
 exact ⟨r.len, r.two⟩
theorem n_KnitRow {q : Qv} {n : Nat} (H : Fin1 q n) (hi : m_impl_KindOfQuiver q = some 1) (hs : m_spec_KindOfQuiver q = some 1) {L : List Int} (hT : ordF q n = (L, true)) {v : Nat} (hv : v < n) :
  m_impl_KnitRow q v = some (kn q n L 21 (projL q n v), true) ∧ m_spec_KnitRow q v = some (kn q n L 21 (projL q n v), true) := by
 have n5 := H.Q.n5
 have hj := proj_J H (ordF_topo hT) hv
 have st := knit_stops H (ordF_topo hT) hj
 constructor
 ·unfold m_impl_KnitRow
  rw [hi, Option.bind_some, decide_eq_true rfl, Bool.not_true, cond_false, n_hasV H.Q, Option.bind_some, inR_mk (by omega) (by omega), Bool.not_true, cond_false, (n_projs H.Q hT hv).1, Option.bind_some,
   n_implRow H hT 21 hj.1 st (by simp), Option.bind_some]
  rfl
 ·unfold m_spec_KnitRow
  rw [hs, Option.bind_some, decide_eq_true rfl, Bool.not_true, cond_false, n_l1In, Option.bind_some, H.Q.n0, wr_sm (by omega), inR_mk (by omega) (by omega), Bool.not_true, cond_false, (n_projs H.Q hT hv).2, Option.bind_some]
  have := n_specRow' H hT 21 0 (out := []) hj st (by omega) (by simp)
  rw [show ((0 : Nat) : Int) = 0 from rfl] at this
  rw [this, Option.bind_some]
  rfl
def knits (q : Qv) (n : Nat) (L : List Int) (k : Nat) : List (List Int) := (List.range k).flatMap fun v => kn q n L 21 (projL q n v)
theorem kn_row {q : Qv} {n : Nat} {L : List Int} : ∀ (f : Nat) {x : List Int}, x.length = n → ∀ r ∈ kn q n L f x, r.length = n
 | 0, x, _, r, h => by cases h
 | f + 1, x, hx, r, h => by
  simp only [kn] at h
  split at h
  ·rcases List.mem_cons.1 h with rfl | h
   ·exact hx
   ·cases h1 : coxB q n L x with
    | none => rw [h1] at h; cases h
    | some y =>
     rw [h1] at h
     exact kn_row f (by rw [coxB_fwL h1, fwL_len]; exact hx) r h
  ·cases h
theorem knits_row {q : Qv} {n : Nat} {L : List Int} (k : Nat) : ∀ r ∈ knits q n L k, r.length = n := fun r h => by
 obtain ⟨v, hv, h⟩ := List.mem_flatMap.1 h
 exact kn_row 21 (rowL_len _ _) r h
theorem knits_len {q : Qv} {n : Nat} {L : List Int} : ∀ (k : Nat), (knits q n L k).length ≤ 21 * k
 | 0 => by simp [knits]
 | k + 1 => by
  have h := knits_len (q := q) (n := n) (L := L) k
  have h2 := kn_len (q := q) (n := n) (L := L) 21 (projL q n k)
  unfold knits at h ⊢
  rw [List.range_succ, List.flatMap_append, List.length_append, List.flatMap_singleton]
  omega
end Go.Proofs.Ytinllccaphhmcaa
end

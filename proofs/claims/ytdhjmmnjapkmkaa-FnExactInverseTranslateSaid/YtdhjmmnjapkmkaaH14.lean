/-
  Several texts of the claim in one: each begins with its own remark.
-/
import Derived.Test.YtdhjmmnjapkmkaaH13
section
set_option linter.unusedVariables false
set_option linter.unusedSimpArgs false

namespace Go.Proofs.Ytdhjmmnjapkmkaa
open Go.RowKit
set_option linter.unusedVariables false
def endp (q : Qv) : Nat → List Int → Option Nat
 | v, [] => some v
 | v, a :: al => if 0 ≤ a ∧ a < q.src.length ∧ gx q.src a.toNat = v then endp q (gx q.tgt a.toNat).toNat al else none
theorem endp_app (q : Qv) : ∀ (a b : List Int) (v : Nat), endp q v (a ++ b) = (endp q v a).bind fun e => endp q e b
 | [], b, v => rfl
 | x :: a, b, v => by
  simp only [List.cons_append, endp]
  split
  ·exact endp_app q a b _
  ·rfl
theorem endp_one {q : Qv} {v : Nat} {i : Nat} (hi : i < q.src.length) (hs : gx q.src i = v) : endp q v [(i : Int)] = some (gx q.tgt i).toNat := by
 simp only [endp]
 rw [if_pos ⟨by omega, by omega, by rw [Int.toNat_natCast]; exact hs⟩, Int.toNat_natCast]
theorem endp_cons {q : Qv} {v : Nat} {i : Nat} (hi : i < q.src.length) (hs : gx q.src i = v) (al : List Int) : endp q v ((i : Int) :: al) = endp q (gx q.tgt i).toNat al := by
 simp only [endp]
 rw [if_pos ⟨by omega, by omega, by rw [Int.toNat_natCast]; exact hs⟩, Int.toNat_natCast]
theorem endp_snoc {q : Qv} {v e : Nat} {al : List Int} (h : endp q v al = some e) {i : Nat} (hi : i < q.src.length) (hs : gx q.src i = e) : endp q v (al ++ [(i : Int)]) = some (gx q.tgt i).toNat := by
 rw [endp_app, h]
 exact endp_one hi hs
theorem endp_last {q : Qv} {v e : Nat} {al : List Int} {a : Int} (h : endp q v (al ++ [a]) = some e) : ∃ e', endp q v al = some e' ∧ 0 ≤ a ∧ a < q.src.length ∧ gx q.src a.toNat = e' ∧ e = (gx q.tgt a.toNat).toNat := by
 rw [endp_app] at h
 cases h1 : endp q v al with
 | none => rw [h1] at h; cases h
 | some e' =>
  rw [h1] at h
  simp only [Option.bind_some, endp] at h
  split at h
  ·rename_i h2
   cases h
   exact ⟨e', rfl, h2.1, h2.2.1, h2.2.2, rfl⟩
  ·cases h
theorem n_end {q : Qv} {n : Nat} (Q : QOk q n) {v e : Nat} {al : List Int} (h : endp q v al = some e) (hl : al.length ≤ 1000) : m_impl_Quiver_end q ⟨v, al⟩ = some (e : Int) := by
 unfold m_impl_Quiver_end
 simp only
 rcases List.eq_nil_or_concat al with rfl | ⟨b, a, rfl⟩
 ·simp only [endp, Option.some.injEq] at h
  subst h
  rfl
 ·rw [List.concat_eq_append] at h hl ⊢
  obtain ⟨e', h1, h2, h3, h4, h5⟩ := endp_last h
  have ht := Q.tgt _ (mem_gx (x := q.tgt) (i := a.toNat) (by rw [← Q.eq]; omega))
  simp only [List.length_append, List.length_cons, List.length_nil] at hl
  rw [decide_eq_false (by simp; omega), cond_false, wr_sm (by simp; omega),
   show atL (b ++ [a]) (((b ++ [a]).length : Int) - 1) = some a by
    rw [show (((b ++ [a]).length : Int) - 1) = ((b.length : Nat) : Int) by simp]
    rw [at_gx (by simp)]; simp [gx], Option.bind_some, atI 0 h2 (by rw [← Q.eq]; omega), Option.bind_some, h5, Int.toNat_of_nonneg ht.1]
  rfl
def pcn (q : Qv) (w : Nat) : Nat → Nat → Nat
 | 0, _ => 0
 | f + 1, e => (if e = w then 1 else 0) + ((List.range q.src.length).map fun i => if gx q.src i = e then pcn q w f (gx q.tgt i).toNat else 0).sum
def pf (q : Qv) : Nat → Pa → Nat → List Pa
 | 0, _, _ => []
 | f + 1, x, e => x :: (List.range q.src.length).flatMap fun i => if gx q.src i = e then pf q f ⟨x.start, x.arrows ++ [(i : Int)]⟩ (gx q.tgt i).toNat else []
def sf (q : Qv) : Nat → Nat → List Pa
 | 0, _ => []
 | f + 1, v => ⟨v, []⟩ :: (List.range q.src.length).flatMap fun i => if gx q.src i = v then (sf q f (gx q.tgt i).toNat).map (fun l => ⟨v, (i : Int) :: l.arrows⟩) else []
theorem flat_bd {α : Type} (g : Nat → List α) (B : Nat) : ∀ m, (∀ i, i < m → (g i).length ≤ B) → ((List.range m).flatMap g).length ≤ m * B
 | 0, _ => by simp
 | m + 1, h => by
  have := flat_bd g B m fun i hi => h i (by omega)
  have h2 := h m (by omega)
  rw [List.range_succ, List.flatMap_append, List.length_append, Nat.add_mul]
  simp only [List.flatMap_cons, List.flatMap_nil, List.append_nil]
  omega
theorem pow7 (f : Nat) : 1 + 6 * 7 ^ f ≤ 7 ^ (f + 1) := by
 have : 0 < 7 ^ f := Nat.pow_pos (by omega)
 rw [Nat.pow_succ]
 omega
theorem pow7_le : ∀ f, f ≤ 8 → 7 ^ f ≤ 5764801 := by
 intro f hf
 calc 7 ^ f ≤ 7 ^ 8 := Nat.pow_le_pow_right (by omega) hf
  _ = 5764801 := by decide
theorem pf_len {q : Qv} (m6 : q.src.length ≤ 6) : ∀ (f : Nat) (x : Pa) (e : Nat), (pf q f x e).length ≤ 7 ^ f
 | 0, x, e => by simp [pf]
 | f + 1, x, e => by
  have h := flat_bd (fun i => if gx q.src i = e then pf q f ⟨x.start, x.arrows ++ [(i : Int)]⟩ (gx q.tgt i).toNat else []) (7 ^ f) q.src.length (fun i _ => by
   split
   ·exact pf_len m6 f _ _
   ·simp)
  have h2 := pow7 f
  have h3 : q.src.length * 7 ^ f ≤ 6 * 7 ^ f := Nat.mul_le_mul_right _ m6
  simp only [pf, List.length_cons]
  omega
theorem sf_len {q : Qv} (m6 : q.src.length ≤ 6) : ∀ (f v : Nat), (sf q f v).length ≤ 7 ^ f
 | 0, v => by simp [sf]
 | f + 1, v => by
  have h := flat_bd (fun i => if gx q.src i = v then (sf q f (gx q.tgt i).toNat).map (fun l => (⟨v, (i : Int) :: l.arrows⟩ : Pa)) else []) (7 ^ f) q.src.length (fun i _ => by
   split
   ·rw [List.length_map]; exact sf_len m6 f _
   ·simp)
  have h2 := pow7 f
  have h3 : q.src.length * 7 ^ f ≤ 6 * 7 ^ f := Nat.mul_le_mul_right _ m6
  simp only [sf, List.length_cons]
  omega
theorem pf_ok {q : Qv} {v : Nat} : ∀ (f : Nat) {x : Pa} {e : Nat}, x.start = v → endp q v x.arrows = some e → ∀ y ∈ pf q f x e, y.start = v ∧ y.arrows.length ≤ x.arrows.length + f ∧ ∃ e', endp q v y.arrows = some e'
 | 0, x, e, hs, he, y, hy => by cases hy
 | f + 1, x, e, hs, he, y, hy => by
  simp only [pf] at hy
  rcases List.mem_cons.1 hy with rfl | hy
  ·exact ⟨hs, by omega, e, he⟩
  ·obtain ⟨i, hi, hy⟩ := List.mem_flatMap.1 hy
   have hi := List.mem_range.1 hi
   split at hy
   ·rename_i h1
    obtain ⟨k1, k2, k3⟩ := pf_ok f (x := ⟨x.start, x.arrows ++ [(i : Int)]⟩) hs (endp_snoc he hi h1) y hy
    refine ⟨k1, ?_, k3⟩
    simp only [List.length_append, List.length_cons, List.length_nil] at k2
    omega
   ·cases hy
theorem sf_ok {q : Qv} : ∀ (f v : Nat), ∀ y ∈ sf q f v, y.start = v ∧ y.arrows.length ≤ f ∧ ∃ e', endp q v y.arrows = some e'
 | 0, v, y, hy => by cases hy
 | f + 1, v, y, hy => by
  simp only [sf] at hy
  rcases List.mem_cons.1 hy with rfl | hy
  ·exact ⟨rfl, by simp, v, rfl⟩
  ·obtain ⟨i, hi, hy⟩ := List.mem_flatMap.1 hy
   have hi := List.mem_range.1 hi
   split at hy
   ·rename_i h1
    obtain ⟨l, hl, rfl⟩ := List.mem_map.1 hy
    obtain ⟨k1, k2, e', k3⟩ := sf_ok f _ l hl
    exact ⟨rfl, by simp only [List.length_cons]; omega, e', by rw [endp_cons hi h1]; exact k3⟩
   ·cases hy
theorem pf_count {q : Qv} {v w : Nat} : ∀ (f : Nat) {x : Pa} {e : Nat}, endp q v x.arrows = some e → ((pf q f x e).filter fun y => decide (endp q v y.arrows = some w)).length = pcn q w f e
 | 0, x, e, _ => by simp [pf, pcn]
 | f + 1, x, e, he => by
  simp only [pf, pcn, List.filter_cons, List.filter_flatMap]
  have h1 : ((List.range q.src.length).flatMap fun i => List.filter (fun y => decide (endp q v y.arrows = some w)) (if gx q.src i = e then pf q f ⟨x.start, x.arrows ++ [(i : Int)]⟩ (gx q.tgt i).toNat else [])).length = ((List.range q.src.length).map fun i => if gx q.src i = e then pcn q w f (gx q.tgt i).toNat else 0).sum := by
   rw [List.length_flatMap]
   congr 1
   refine List.map_congr_left fun i hi => ?_
   have hi := List.mem_range.1 hi
   split
   ·rename_i h1
    exact pf_count f (endp_snoc he hi h1)
   ·rfl
  rw [he]
  by_cases hw : e = w
  ·subst hw
   rw [decide_eq_true rfl, if_pos rfl, if_pos rfl, List.length_cons, h1]; omega
  ·rw [decide_eq_false (fun h => hw (by simpa using h)), if_neg (by simp), if_neg hw, h1]; omega
theorem sf_count {q : Qv} {w : Nat} : ∀ (f v : Nat), ((sf q f v).filter fun y => decide (endp q v y.arrows = some w)).length = pcn q w f v
 | 0, v => by simp [sf, pcn]
 | f + 1, v => by
  simp only [sf, pcn, List.filter_cons, List.filter_flatMap]
  have h1 : ((List.range q.src.length).flatMap fun i => List.filter (fun y => decide (endp q v y.arrows = some w)) (if gx q.src i = v then (sf q f (gx q.tgt i).toNat).map (fun l => (⟨v, (i : Int) :: l.arrows⟩ : Pa)) else [])).length = ((List.range q.src.length).map fun i => if gx q.src i = v then pcn q w f (gx q.tgt i).toNat else 0).sum := by
   rw [List.length_flatMap]
   congr 1
   refine List.map_congr_left fun i hi => ?_
   have hi := List.mem_range.1 hi
   split
   ·rename_i h1
    rw [List.filter_map, List.length_map, ← sf_count f]
    congr 1
    refine List.filter_congr fun y _ => ?_
    simp only [Function.comp_apply]
    rw [endp_cons hi h1]
   ·rfl
  rw [show endp q v (⟨(v : Int), []⟩ : Pa).arrows = some v from rfl]
  by_cases hw : v = w
  ·subst hw
   rw [decide_eq_true rfl, if_pos rfl, if_pos rfl, List.length_cons, h1]; omega
  ·rw [decide_eq_false (fun h => hw (by simpa using h)), if_neg (by simp), if_neg hw, h1]; omega
theorem n_pathsFrom {q : Qv} {n : Nat} (Q : QOk q n) {L : List Int} (hT : Topo q n L) {v : Nat} (hv : v < n) : ∀ (f : Nat) {x : Pa} {e : Nat}, x.start = v → endp q v x.arrows = some e → e < n → n ≤ rk L e + f → f ≤ 8 → x.arrows.length + f ≤ 100 → m_impl_Quiver_pathsFrom f q x = some (pf q f x e)
 | 0, x, e, _, _, he, hf, _, _ => by have := hT.rk_lt he; omega
 | f + 1, x, e, hs, hp, he, hf, h8, hl => by
  have m6 := Q.m6
  have hend : m_impl_Quiver_end q x = some (e : Int) := by
   have := n_end Q hp (by omega)
   rw [← hs] at this
   exact this
  have key : Lp (m_impl_Quiver_pathsFrom_L1 (m_impl_Quiver_pathsFrom f) q x) ([x], 0) = some (pf q (f + 1) x e) := by
   refine Lp_go (fun k => (x :: (List.range k).flatMap fun i => if gx q.src i = e then pf q f ⟨x.start, x.arrows ++ [(i : Int)]⟩ (gx q.tgt i).toNat else [], (k : Int))) q.src.length rfl (fun k hk => ?_) (fun _ => ?_)
   ·obtain ⟨s, t, hsn, htn, e1, e2, e3, e4⟩ := Q.arrow hk
    unfold m_impl_Quiver_pathsFrom_L1
    simp only
    rw [dlt hk, cond_true, at_gx hk, Option.bind_some, hend, Option.bind_some, List.range_succ, List.flatMap_append]
    simp only [List.flatMap_cons, List.flatMap_nil, List.append_nil]
    by_cases h1 : gx q.src k = (e : Int)
    ·have hse : s = e := by omega
     subst hse
     have hrk := hT.rk_arrow hk e1 e2 htn
     have hrt := hT.rk_lt htn
     have ht : (gx q.tgt k).toNat = t := by omega
     have ih := n_pathsFrom Q hT hv f (x := ⟨x.start, x.arrows ++ [(k : Int)]⟩) (e := t) hs (by rw [endp_snoc hp hk h1, ht]) htn (by omega) (by omega) (by simp; omega)
     have b1 := pf_len m6 f (⟨x.start, x.arrows ++ [(k : Int)]⟩ : Pa) t
     have b2 := flat_bd (fun i => if gx q.src i = (s : Int) then pf q f ⟨x.start, x.arrows ++ [(i : Int)]⟩ (gx q.tgt i).toNat else []) (7 ^ f) k (fun i _ => by
      split
      ·exact pf_len m6 f _ _
      ·simp)
     have b3 := pow7_le f (by omega)
     have b4 : k * 7 ^ f ≤ 6 * 7 ^ f := Nat.mul_le_mul_right _ (by omega)
     rw [decide_eq_true h1, cond_true, if_pos h1]
     unfold m_Clone
     rw [decide_eq_true (by omega), cond_true, Option.bind_some, decide_eq_true (by simp; omega), cond_true, ih, Option.bind_some, decide_eq_true (by simp only [List.length_cons]; omega), cond_true, ht, wr_suc hk (by omega)]
     rfl
    ·rw [decide_eq_false h1, cond_false, if_neg h1, List.append_nil, wr_suc hk (by omega)]
   ·unfold m_impl_Quiver_pathsFrom_L1
    simp only
    rw [dnl (Nat.le_refl _), cond_false]
    rfl
  show m_impl_Quiver_pathsFrom_b (m_impl_Quiver_pathsFrom f) q x = _
  unfold m_impl_Quiver_pathsFrom_b
  rw [key, Option.bind_some]
theorem n_IndexP {v : List Pa} {f : Pa → Option Bool} (P : Pa → Bool) (hf : ∀ x ∈ v, f x = some (P x)) (h : v.length ≤ 1000000000) :
  (m_slices_IndexFunc_Limpl_Path_impl_Path v f = some (-1) ∧ ∀ x ∈ v, P x = false) ∨ ∃ k : Nat, k < v.length ∧ m_slices_IndexFunc_Limpl_Path_impl_Path v f = some (k : Int) ∧ (∀ x ∈ v.take k, P x = false) ∧ ∀ x, v[k]? = some x → P x = true := by
 have key : ∀ d k : Nat, k + d = v.length → (∀ x ∈ v.take k, P x = false) → (Lp (m_slices_IndexFunc_Limpl_Path_impl_Path_L1 v f) (k : Int) = some (.inl ()) ∧ ∀ x ∈ v, P x = false) ∨ ∃ j : Nat, j < v.length ∧ Lp (m_slices_IndexFunc_Limpl_Path_impl_Path_L1 v f) (k : Int) = some (.inr (j : Int)) ∧ (∀ x ∈ v.take j, P x = false) ∧ ∀ x, v[j]? = some x → P x = true := by
  intro d
  induction d with
  | zero =>
   intro k hk hp
   refine .inl ⟨Lp_stop ?_, fun x hx => hp x (by rw [List.take_of_length_le (by omega)]; exact hx)⟩
   unfold m_slices_IndexFunc_Limpl_Path_impl_Path_L1
   rw [dnl (by omega), cond_false]
  | succ d ih =>
   intro k hk hp
   have hkl : k < v.length := by omega
   have hb : m_slices_IndexFunc_Limpl_Path_impl_Path_L1 v f (k : Int) = some (bif P v[k] then .inr (.inr (k : Int)) else .inl (wr ((k : Int) + 1))) := by
    unfold m_slices_IndexFunc_Limpl_Path_impl_Path_L1
    rw [dlt hkl, cond_true, atL_nat hkl, Option.bind_some, hf _ (List.getElem_mem hkl), Option.bind_some]
    cases P v[k] <;> rfl
   cases hP : P v[k] with
   | true =>
    rw [hP] at hb
    exact .inr ⟨k, hkl, Lp_stop hb, hp, fun x hx => by rw [List.getElem?_eq_getElem hkl] at hx; cases hx; exact hP⟩
   | false =>
    rw [hP] at hb
    rw [Lp_step hb, wr_suc hkl (by omega)]
    refine ih (k + 1) (by omega) fun x hx => ?_
    rw [List.take_add_one, List.getElem?_eq_getElem hkl] at hx
    rcases List.mem_append.1 hx with hx | hx
    ·exact hp x hx
    ·simp only [Option.toList_some, List.mem_singleton] at hx
     rw [hx]; exact hP
 unfold m_slices_IndexFunc_Limpl_Path_impl_Path
 rcases key v.length 0 (by omega) (by simp) with ⟨h1, h2⟩ | ⟨k, h1, h2, h3, h4⟩
 ·refine .inl ⟨?_, h2⟩
  rw [show ((0 : Nat) : Int) = 0 from rfl] at h1
  rw [h1]; rfl
 ·refine .inr ⟨k, h1, ?_, h3, h4⟩
  rw [show ((0 : Nat) : Int) = 0 from rfl] at h2
  rw [h2]; rfl
theorem n_deleteP {v : List Pa} {f : Pa → Option Bool} (P : Pa → Bool) (hf : ∀ x ∈ v, f x = some (P x)) (h : v.length ≤ 1000000000) : m_slices_DeleteFunc_Limpl_Path_impl_Path v f = some (v.filter fun x => !P x) := by
 unfold m_slices_DeleteFunc_Limpl_Path_impl_Path
 rcases n_IndexP P hf h with ⟨h1, h2⟩ | ⟨i0, h1, h2, h3, h4⟩
 ·rw [h1, Option.bind_some, decide_eq_true rfl, cond_true, List.filter_eq_self.2 fun x hx => by rw [h2 x hx]; rfl]
 ·rw [h2, Option.bind_some, decide_eq_false (by omega), cond_false]
  have key : ∃ r, Lp (m_slices_DeleteFunc_Limpl_Path_impl_Path_L1 f) (v, (i0 : Int), wr ((i0 : Int) + 1)) = some r ∧ ∃ i : Nat, r.2 = (i : Int) ∧ r.1.length = v.length ∧ i ≤ v.length ∧ r.1.take i = v.filter fun x => !P x := by
   refine Lp_meas (fun x => ∃ i j : Nat, x.2.1 = (i : Int) ∧ x.2.2 = (j : Int) ∧ i < j ∧ j ≤ v.length ∧ x.1.length = v.length ∧ x.1.take i = (v.take j).filter (fun x => !P x) ∧ x.1.drop j = v.drop j) (fun x => v.length - x.2.2.toNat) _ ?_ ?_
   ·refine ⟨i0, i0 + 1, rfl, by simp only; rw [wr_suc h1 (by omega)], by omega, by omega, rfl, ?_, rfl⟩
    rw [List.take_add_one, List.getElem?_eq_getElem h1, List.filter_append, Option.toList_some, List.filter_cons, h4 _ (List.getElem?_eq_getElem h1), List.filter_eq_self.2 fun x hx => by rw [h3 x hx]; rfl]
    simp
   ·rintro ⟨l, a, b⟩ ⟨i, j, rfl, rfl, hij, hj, hlen, htk, hdr⟩
    simp only at hlen htk hdr
    by_cases hjl : j < v.length
    ·left
     have hjl2 : j < l.length := by omega
     have hat : l[j] = v[j] := by
      have e1 := congrArg List.head? hdr
      simpa [List.head?_drop, hjl, hjl2] using e1
     have hil : i < l.length := by omega
     have hmem : v[j] ∈ v := List.getElem_mem hjl
     have htk2 : v.take (j + 1) = v.take j ++ [v[j]] := by rw [List.take_add_one, List.getElem?_eq_getElem hjl]; rfl
     have hdr2 : l.drop (j + 1) = v.drop (j + 1) := by
      have := congrArg List.tail hdr
      simpa [List.tail_drop] using this
     cases hP : P v[j] with
     | true =>
      refine ⟨(l, (i : Int), ((j + 1 : Nat) : Int)), ?_, ⟨i, j + 1, rfl, rfl, by omega, by omega, hlen, ?_, hdr2⟩, ?_⟩
      ·unfold m_slices_DeleteFunc_Limpl_Path_impl_Path_L1
       simp only
       rw [dlt hjl2, cond_true, atL_nat hjl2, Option.bind_some, hat, hf _ hmem, Option.bind_some, hP, Bool.not_true, cond_false, wr_suc hjl2 (by omega)]
      ·rw [htk2, List.filter_append, htk]
       simp [hP]
      ·simp only [Int.toNat_natCast]; omega
     | false =>
      refine ⟨(l.set i v[j], ((i + 1 : Nat) : Int), ((j + 1 : Nat) : Int)), ?_, ⟨i + 1, j + 1, rfl, rfl, by omega, by omega, by rw [List.length_set]; exact hlen, ?_, ?_⟩, ?_⟩
      ·unfold m_slices_DeleteFunc_Limpl_Path_impl_Path_L1
       simp only
       rw [dlt hjl2, cond_true, atL_nat hjl2, Option.bind_some, hat, hf _ hmem, Option.bind_some, hP, Bool.not_false, cond_true, atL_nat hil, Option.bind_some, Int.toNat_natCast, wr_suc hjl2 (by omega), wr_suc hil (by omega)]
      ·rw [htk2, List.filter_append, ← htk, List.take_add_one, List.getElem?_set_self hil]
       simp [hP, List.take_set_of_le]
      ·show (l.set i v[j]).drop (j + 1) = _
       rw [List.drop_set_of_lt (by omega)]
       exact hdr2
      ·simp only [Int.toNat_natCast]; omega
    ·right
     have hje : j = v.length := by omega
     subst hje
     refine ⟨(l, (i : Int)), ?_, i, rfl, hlen, by omega, ?_⟩
     ·unfold m_slices_DeleteFunc_Limpl_Path_impl_Path_L1
      simp only
      rw [dnl (by omega), cond_false]
     ·rw [List.take_length] at htk
      exact htk
  obtain ⟨⟨l, a⟩, e1, i, rfl, e3, e4, e5⟩ := key
  rw [e1, Option.bind_some]
  simp only at e3 e5 ⊢
  rw [decide_eq_true (show (0 : Int) ≤ (i : Int) by omega), decide_eq_true (show (i : Int) ≤ (l.length : Nat) by omega), decide_eq_true (show ((l.length : Nat) : Int) ≤ (l.length : Nat) by omega), decide_eq_true (show (0 : Nat) ≤ 0 by omega)]
  simp only [Bool.and_self, cond_true, Int.toNat_natCast]
  rw [e5]
theorem n_implPathsB {q : Qv} {n : Nat} (Q : QOk q n) {L : List Int} (hT : Topo q n L) {v w : Nat} (hv : v < n) : ∃ l, m_impl_Quiver_pathsBetween q v w = some l ∧ l.length = pcn q w 8 v ∧ l = (pf q 8 ⟨v, []⟩ v).filter fun y => decide (endp q v y.arrows = some w) := by
 have n5 := Q.n5
 have hb := pf_len Q.m6 8 (⟨v, []⟩ : Pa) v
 have h7 := pow7_le 8 (Nat.le_refl _)
 have hok := pf_ok (q := q) (v := v) 8 (x := ⟨v, []⟩) (e := v) rfl rfl
 refine ⟨_, ?_, pf_count 8 (x := ⟨v, []⟩) rfl, rfl⟩
 unfold m_impl_Quiver_pathsBetween
 rw [n_pathsFrom Q hT hv 8 (x := ⟨v, []⟩) (e := v) rfl rfl hv (by omega) (Nat.le_refl _) (by simp), Option.bind_some,
  n_deleteP (fun y => !decide (endp q v y.arrows = some w)) (fun y hy => ?_) (by omega), Option.bind_some]
 ·congr 2
  funext y
  rw [Bool.not_not]
 ·obtain ⟨k1, k2, e', k3⟩ := hok y hy
  have he : m_impl_Quiver_end q y = some (e' : Int) := by
   have := n_end Q k3 (by simp at k2; omega)
   rw [← k1] at this
   exact this
  unfold m_impl_Quiver_pathsBetween_1
  rw [he, Option.bind_some, k3]
  congr 2
  rw [Bool.eq_iff_iff, decide_eq_true_eq, decide_eq_true_eq]
  simp
  omega
theorem n_l7From {q : Qv} {n : Nat} (Q : QOk q n) {L : List Int} (hT : Topo q n L) : ∀ (f v : Nat), v < n → n ≤ rk L v + f → f ≤ 8 → m_spec_l7From f q (v : Int) = some (sf q f v)
 | 0, v, hv, hf, _ => by have := hT.rk_lt hv; omega
 | f + 1, v, hv, hf, h8 => by
  have m6 := Q.m6
  have key : Lp (m_spec_l7From_L1 (m_spec_l7From f) q (v : Int)) (0, [(⟨(v : Int), []⟩ : Pa)]) = some (sf q (f + 1) v) := by
   refine Lp_go (fun k => ((k : Int), (⟨(v : Int), []⟩ : Pa) :: (List.range k).flatMap fun i => if gx q.src i = v then (sf q f (gx q.tgt i).toNat).map (fun l => ⟨v, (i : Int) :: l.arrows⟩) else [])) q.src.length rfl (fun k hk => ?_) (fun _ => ?_)
   ·obtain ⟨s, t, hsn, htn, e1, e2, e3, e4⟩ := Q.arrow hk
    unfold m_spec_l7From_L1
    simp only
    rw [dlt hk, cond_true, at_gx hk, Option.bind_some, List.range_succ, List.flatMap_append]
    simp only [List.flatMap_cons, List.flatMap_nil, List.append_nil]
    by_cases h1 : gx q.src k = (v : Int)
    ·have hse : s = v := by omega
     subst hse
     have hrk := hT.rk_arrow hk e1 e2 htn
     have hrt := hT.rk_lt htn
     have ht : (gx q.tgt k).toNat = t := by omega
     have ih := n_l7From Q hT f t htn (by omega) (by omega)
     have hok := sf_ok (q := q) f t
     have b1 := sf_len m6 f t
     have b2 := flat_bd (fun i => if gx q.src i = (s : Int) then (sf q f (gx q.tgt i).toNat).map (fun l => (⟨(s : Int), (i : Int) :: l.arrows⟩ : Pa)) else []) (7 ^ f) k (fun i _ => by
      split
      ·rw [List.length_map]; exact sf_len m6 f _
      ·simp)
     have b3 := pow7_le f (by omega)
     have b4 : k * 7 ^ f ≤ 6 * 7 ^ f := Nat.mul_le_mul_right _ (by omega)
     rw [decide_eq_true h1, Bool.not_true, cond_false, if_pos h1, at_gx (by rw [← Q.eq]; exact hk), Option.bind_some, e2, ih, Option.bind_some]
     obtain ⟨pre, hpre⟩ : ∃ pre : List Pa, pre = (⟨(s : Int), []⟩ : Pa) :: (List.range k).flatMap fun i => if gx q.src i = (s : Int) then (sf q f (gx q.tgt i).toNat).map (fun l => (⟨(s : Int), (i : Int) :: l.arrows⟩ : Pa)) else [] := ⟨_, rfl⟩
     have hpl : pre.length ≤ 1 + 6 * 7 ^ f := by rw [hpre, List.length_cons]; omega
     rw [← hpre]
     have hin : Lp (m_spec_l7From_L2 (s : Int) (sf q f t) ((k : Int), pre)) (pre, 0) = some (pre ++ (sf q f t).map fun l => (⟨(s : Int), (k : Int) :: l.arrows⟩ : Pa)) := by
      refine Lp_go (fun j => (pre ++ ((sf q f t).take j).map fun l => (⟨(s : Int), (k : Int) :: l.arrows⟩ : Pa), (j : Int))) (sf q f t).length (by simp) (fun j hj => ?_) (fun _ => ?_)
      ·unfold m_spec_l7From_L2
       simp only
       have hjl := (hok _ (List.getElem_mem hj)).2.1
       rw [dlt hj, cond_true, atL_nat hj, Option.bind_some, decide_eq_true (by simp; omega), cond_true, decide_eq_true (by simp; omega), cond_true, wr_suc hj (by omega), List.take_add_one, List.getElem?_eq_getElem hj, List.map_append, ← List.append_assoc]
       rfl
      ·unfold m_spec_l7From_L2
       simp only
       rw [dnl (Nat.le_refl _), cond_false, List.take_length]
     rw [hin, Option.bind_some, wr_suc hk (by omega), Int.toNat_natCast, hpre]
     rfl
    ·rw [decide_eq_false h1, Bool.not_false, cond_true, if_neg h1, List.append_nil, wr_suc hk (by omega)]
   ·unfold m_spec_l7From_L1
    simp only
    rw [dnl (Nat.le_refl _), cond_false]
    rfl
  show m_spec_l7From_b (m_spec_l7From f) q (v : Int) = _
  unfold m_spec_l7From_b
  rw [key, Option.bind_some]
theorem n_isPath {q : Qv} {n : Nat} (Q : QOk q n) {v e : Nat} {al : List Int} (hv : v < n) (h : endp q v al = some e) (hl : al.length ≤ 20) : m_spec_IsPath q ⟨v, al⟩ = some true := by
 have n5 := Q.n5
 have m6 := Q.m6
 have hpre : ∀ k, k ≤ al.length → ∃ e', endp q v (al.take k) = some e' := by
  intro k hk
  rw [← List.take_append_drop k al, endp_app] at h
  cases h1 : endp q v (al.take k) with
  | none => rw [h1] at h; cases h
  | some e' => exact ⟨e', rfl⟩
 unfold m_spec_IsPath
 rw [n_specQ Q.bq, Q.qv, Option.bind_some, Bool.not_true, cond_false, n_l1In, Option.bind_some, Q.n0, wr_sm (by omega), inR_mk (by show (0 : Int) ≤ (v : Int); omega) (by show (v : Int) ≤ (n : Int) - 1; omega), Bool.not_true, cond_false, decide_eq_false (by simp only; omega), cond_false,
  Lp_go (r := .inl ()) (fun k => ((((endp q v (al.take k)).getD 0 : Nat) : Int), (k : Int))) al.length (by simp [endp]) (fun k hk => ?_) (fun _ => ?_)]
 ·rfl
 ·obtain ⟨e1, h1⟩ := hpre (k + 1) (by omega)
  have h2 := h1
  rw [List.take_add_one, List.getElem?_eq_getElem hk, Option.toList_some] at h2
  obtain ⟨e0, g1, g2, g3, g4, g5⟩ := endp_last h2
  have ht := Q.tgt _ (mem_gx (x := q.tgt) (i := al[k].toNat) (by rw [← Q.eq]; omega))
  unfold m_spec_IsPath_L1
  simp only
  rw [dlt hk, cond_true, atL_nat hk, Option.bind_some, n_l1In, Option.bind_some, wr_sm (by omega), inR_mk g2 (by omega), Bool.not_true, cond_false, Option.bind_some, atI 0 g2 (by omega), Option.bind_some, g1, h1]
  have g4' : q.src[al[k].toNat]?.getD 0 = (e0 : Int) := g4
  rw [g4', Option.getD_some, decide_eq_true rfl, Bool.not_true, cond_false, Option.bind_some, atI 0 g2 (by rw [← Q.eq]; omega), Option.bind_some, wr_suc hk (by omega), Option.getD_some, g5, Int.toNat_of_nonneg ht.1]
  rfl
 ·unfold m_spec_IsPath_L1
  simp only
  rw [dnl (Nat.le_refl _), cond_false]
theorem n_specEnd {q : Qv} {n : Nat} (Q : QOk q n) {v e : Nat} {al : List Int} (hv : v < n) (h : endp q v al = some e) (hl : al.length ≤ 20) : m_spec_EndOf q ⟨v, al⟩ = some (e : Int) := by
 unfold m_spec_EndOf
 rw [n_isPath Q hv h hl, Option.bind_some, Bool.not_true, cond_false]
 have := n_end Q h (by omega)
 unfold m_impl_Quiver_end at this
 exact this
theorem n_specPathsB {q : Qv} {n : Nat} (Q : QOk q n) {L : List Int} (hT : Topo q n L) {v w : Nat} (hv : v < n) : Lp (m_spec_PathsBetween_L1 q (w : Int) (sf q 8 v)) ([], 0) = some ((sf q 8 v).filter fun y => decide (endp q v y.arrows = some w)) := by
 have hb := sf_len Q.m6 8 v
 have h7 := pow7_le 8 (Nat.le_refl _)
 have hok := sf_ok (q := q) 8 v
 refine Lp_go (fun j => (((sf q 8 v).take j).filter fun y => decide (endp q v y.arrows = some w), (j : Int))) (sf q 8 v).length (by simp) (fun j hj => ?_) (fun _ => ?_)
 ·obtain ⟨k1, k2, e', k3⟩ := hok _ (List.getElem_mem hj)
  have he : m_spec_EndOf q (sf q 8 v)[j] = some (e' : Int) := by
   have := n_specEnd Q hv k3 (by omega)
   rw [← k1] at this
   exact this
  have hfl := List.length_filter_le (fun y : Pa => decide (endp q v y.arrows = some w)) ((sf q 8 v).take j)
  rw [List.length_take] at hfl
  unfold m_spec_PathsBetween_L1
  simp only
  rw [dlt hj, cond_true, atL_nat hj, Option.bind_some, he, Option.bind_some, List.take_add_one, List.getElem?_eq_getElem hj, List.filter_append, wr_suc hj (by omega)]
  simp only [Option.toList_some, List.filter_cons, List.filter_nil, k3]
  by_cases h1 : e' = w
  ·subst h1
   rw [decide_eq_true rfl, cond_true, Option.bind_some, decide_eq_true (by omega), cond_true, decide_eq_true rfl, if_pos rfl]
  ·rw [decide_eq_false (fun h => h1 (by omega)), cond_false, decide_eq_false (fun h => h1 (by simpa using h)), if_neg (by simp), List.append_nil]
 ·unfold m_spec_PathsBetween_L1
  simp only
  rw [dnl (Nat.le_refl _), cond_false, List.take_length]
theorem n_acyc {q : Qv} {n : Nat} (Q : QOk q n) : m_impl_IsAcyclic q = some (ordF q n).2 ∧ m_spec_IsAcyclic q = some (ordF q n).2 := by
 constructor
 ·unfold m_impl_IsAcyclic; rw [n_implOrder Q, Option.bind_some]
 ·unfold m_spec_IsAcyclic; rw [n_specOrder Q, Option.bind_some]
theorem n_hasV {q : Qv} {n : Nat} (Q : QOk q n) (v : Int) : m_impl_Quiver_hasVertex q v = some (inR v 0 ((n : Int) - 1)) := by
 have n5 := Q.n5
 unfold m_impl_Quiver_hasVertex
 rw [n_within, Option.bind_some, Q.n0, wr_sm (by omega)]
theorem n_counts {q : Qv} {n : Nat} (Q : QOk q n) {L : List Int} (hT : ordF q n = (L, true)) {v w : Nat} (hv : v < n) (hw : w < n) : m_impl_CountPaths q v w = some ((pcn q w 8 v : Nat) : Int) ∧ m_spec_CountPaths q v w = some ((pcn q w 8 v : Nat) : Int) := by
 have n5 := Q.n5
 have hT' := ordF_topo hT
 have hrv := hT'.rk_lt hv
 constructor
 ·obtain ⟨l, h1, h2, _⟩ := n_implPathsB Q hT' (w := w) hv
  unfold m_impl_CountPaths m_impl_PathsBetween
  rw [(n_acyc Q).1, hT, Option.bind_some, Bool.not_true, cond_false, n_hasV Q, Option.bind_some, inR_mk (by omega) (by omega), Bool.not_true, cond_false, n_hasV Q, Option.bind_some, inR_mk (by omega) (by omega), Bool.not_true, cond_false, h1, Option.bind_some, Option.bind_some, Bool.not_true, cond_false, h2]
 ·unfold m_spec_CountPaths m_spec_PathsBetween
  rw [(n_acyc Q).2, hT, Option.bind_some, Bool.not_true, cond_false, n_l1In, Option.bind_some, Q.n0, wr_sm (by omega), inR_mk (by omega) (by omega), Bool.not_true, cond_false, n_l1In, Option.bind_some, inR_mk (by omega) (by omega), Bool.not_true, cond_false, n_l7From Q hT' 8 v hv (by omega) (Nat.le_refl _), Option.bind_some, n_specPathsB Q hT' hv, Option.bind_some, Option.bind_some, Bool.not_true, cond_false, sf_count]
def projL (q : Qv) (n v : Nat) : List Int := rowL n fun w => ((pcn q w 8 v : Nat) : Int)
theorem n_projs {q : Qv} {n : Nat} (Q : QOk q n) {L : List Int} (hT : ordF q n = (L, true)) {v : Nat} (hv : v < n) : m_impl_ProjectiveDims q v = some (projL q n v) ∧ m_spec_ProjectiveDims q v = some (projL q n v) := by
 have n5 := Q.n5
 constructor
 ·unfold m_impl_ProjectiveDims m_impl_countAll
  rw [(n_acyc Q).1, hT, Option.bind_some, Bool.not_true, cond_false, n_hasV Q, Option.bind_some, inR_mk (by omega) (by omega), Bool.not_true, cond_false,
   Lp_go (s := (([] : List Int), (0 : Int))) (r := projL q n v) (fun k => (rowL k fun w => ((pcn q w 8 v : Nat) : Int), (k : Int))) n rfl (fun k hk => ?_) (fun _ => ?_)]
  ·rfl
  ·unfold m_impl_countAll_L1
   simp only
   rw [Q.n0, dlt hk, cond_true]
   unfold m_impl_ProjectiveDims_1
   rw [(n_counts Q hT hv hk).1, Option.bind_some, Option.bind_some, decide_eq_true (by rw [rowL_len]; simp; omega), cond_true, wr_suc hk (by omega)]
   unfold rowL
   rw [List.range_succ, List.map_append]
   rfl
  ·unfold m_impl_countAll_L1
   simp only
   rw [Q.n0, dnl (Nat.le_refl _), cond_false]
   rfl
 ·unfold m_spec_ProjectiveDims
  rw [Lp_go (s := (([] : List Int), (0 : Int))) (r := projL q n v) (fun k => (rowL k fun w => ((pcn q w 8 v : Nat) : Int), (k : Int))) n rfl (fun k hk => ?_) (fun _ => ?_)]
  ·rfl
  ·unfold m_spec_ProjectiveDims_L1
   simp only
   rw [Q.n0, dlt hk, cond_true, (n_acyc Q).2, hT, Option.bind_some, cond_true, n_l1In, Option.bind_some, wr_sm (by omega), inR_mk (by omega) (by omega), cond_true, (n_counts Q hT hv hk).2, Option.bind_some, decide_eq_true (by rw [rowL_len]; simp; omega), cond_true, wr_suc hk (by omega)]
   unfold rowL
   rw [List.range_succ, List.map_append]
   rfl
  ·unfold m_spec_ProjectiveDims_L1
   simp only
   rw [Q.n0, dnl (Nat.le_refl _), cond_false]
   rfl
end Go.Proofs.Ytdhjmmnjapkmkaa
end

section
set_option linter.unusedVariables false
set_option linter.unusedSimpArgs false

namespace Go.Proofs.Ytdhjmmnjapkmkaa
open Go.RowKit
set_option linter.unusedVariables false
def numB (n : Nat) (x : List Int) : Bool := decide (x.length = n) && x.all fun a => inR a (-100) 100
theorem numB_parts {n : Nat} {x : List Int} (h : numB n x = true) : x.length = n ∧ Sm x := by
 unfold numB at h
 simp only [Bool.and_eq_true, decide_eq_true_eq, List.all_eq_true] at h
 exact ⟨h.1, fun a ha => inR_true (h.2 a ha)⟩
theorem n_nums {q : Qv} {n : Nat} (Q : QOk q n) {x : List Int} (hx : x.length ≤ 1048576) : m_impl_areNumbers q x = some (numB n x) ∧ m_spec_l18Vector q x = some (numB n x) := by
 have e : decide ((x.length : Int) = q.n) = decide (x.length = n) := by
  rw [Bool.eq_iff_iff, decide_eq_true_eq, decide_eq_true_eq, Q.n0]; omega
 constructor
 ·unfold m_impl_areNumbers
  rw [n_implQ Q.bq, Q.qv, Option.bind_some, cond_true, n_allWithin hx, Option.bind_some, e]
  unfold numB
  cases decide (x.length = n) <;> rfl
 ·rw [n_l18Vec Q.bq hx, Q.qv, Bool.true_and, e, Bool.and_comm]
  rfl
def encO : Option (List Int) → List Int × Bool
 | some y => (y, true)
 | none => ([], false)
def noLoop (q : Qv) (v : Int) : Bool := (List.range q.src.length).all fun i => !(decide (gx q.src i = v) && decide (gx q.tgt i = v))
def refD (q : Qv) (n : Nat) (x : List Int) (v : Int) : Option (List Int) := if numB n x && (inR v 0 ((n : Int) - 1) && noLoop q v) then some (reflL q n x v.toNat) else none
theorem n_l21 {q : Qv} {n : Nat} (Q : QOk q n) (v : Int) : m_spec_l21Loop q v = some (!noLoop q v) := by
 have m6 := Q.m6
 unfold m_spec_l21Loop
 rw [Lp_all (n := q.src.length) (fun i => !(decide (gx q.src i = v) && decide (gx q.tgt i = v))) true (by omega) (fun i hi => ?_) (fun _ => ?_), Option.bind_some]
 ·show Sum.elim _ _ (bif noLoop q v then _ else _) = _
  cases noLoop q v <;> rfl
 ·unfold m_spec_l21Loop_L1
  rw [dlt hi, cond_true, at_gx hi, Option.bind_some]
  cases decide (gx q.src i = v) with
  | false => rfl
  | true =>
   rw [cond_true, at_gx (by rw [← Q.eq]; exact hi), Option.bind_some]
   cases decide (gx q.tgt i = v) <;> rfl
 ·unfold m_spec_l21Loop_L1
  rw [dnl (Nat.le_refl _), cond_false]
theorem diag_two {q : Qv} {n v : Nat} (Q : QOk q n) : decide (mF q q.src.length v v = 2) = noLoop q v := by
 have hm : mF q q.src.length v v = 2 - 2 * cntN q q.src.length v v := by unfold mF; rw [if_pos rfl]; omega
 have hz : ∀ k, cntN q k v v = 0 ↔ ∀ i, i < k → ¬ (gx q.src i = (v : Int) ∧ gx q.tgt i = (v : Int)) := by
  intro k
  induction k with
  | zero => exact ⟨fun _ i hi => absurd hi (Nat.not_lt_zero _), fun _ => rfl⟩
  | succ k ih =>
   have h0 := (cnt_bd q k v v).1
   have e : cntN q (k + 1) v v = cntN q k v v + hit q k v v := rfl
   have hh : hit q k v v = 0 ∨ hit q k v v = 1 := by unfold hit; split <;> simp
   have hh1 : hit q k v v = 0 ↔ ¬ (gx q.src k = (v : Int) ∧ gx q.tgt k = (v : Int)) := by
    unfold hit
    split
    ·rename_i h; exact ⟨fun h2 => by omega, fun h2 => absurd h h2⟩
    ·rename_i h; exact ⟨fun _ => h, fun _ => rfl⟩
   constructor
   ·intro h i hi
    by_cases hk : i = k
    ·subst hk; exact hh1.1 (by omega)
    ·exact ih.1 (by omega) i (by omega)
   ·intro h
    have h1 := ih.2 fun i hi => h i (by omega)
    have h2 := hh1.2 (h k (by omega))
    omega
 rw [Bool.eq_iff_iff, decide_eq_true_eq]
 unfold noLoop
 rw [range_all]
 constructor
 ·intro h i hi
  have h1 := (hz q.src.length).1 (by omega) i hi
  cases h2 : decide (gx q.src i = (v : Int)) <;> cases h3 : decide (gx q.tgt i = (v : Int)) <;> first | rfl | exact absurd ⟨of_decide_eq_true h2, of_decide_eq_true h3⟩ h1
 ·intro h
  have h1 := (hz q.src.length).2 fun i hi hc => by
   have := h i hi
   rw [decide_eq_true hc.1, decide_eq_true hc.2] at this
   cases this
  omega
theorem refl_bd {q : Qv} {n v : Nat} (Q : QOk q n) {x : List Int} (hs : Sm x) (i : Nat) : -1200 ≤ mF q q.src.length v i * gx x i ∧ mF q q.src.length v i * gx x i ≤ 1200 := by
 have h1 := mF_bd q Q.m6 v i
 have h2 := hs.gx i
 generalize mF q q.src.length v i = a at *
 generalize gx x i = b at *
 have h3 : a = -12 ∨ a = -11 ∨ a = -10 ∨ a = -9 ∨ a = -8 ∨ a = -7 ∨ a = -6 ∨ a = -5 ∨ a = -4 ∨ a = -3 ∨ a = -2 ∨ a = -1 ∨ a = 0 ∨ a = 1 ∨ a = 2 := by omega
 rcases h3 with h3 | h3 | h3 | h3 | h3 | h3 | h3 | h3 | h3 | h3 | h3 | h3 | h3 | h3 | h3 <;> rw [h3] <;> omega
theorem mv_mF {q : Qv} {n v : Nat} (hv : v < n) (x : List Int) : mv n (rowsF (matQ q n)) (gx x) v = sumN n fun i => mF q q.src.length v i * gx x i := sumN_congr fun i hi => by rw [show rowsF (matQ q n) v i = mF q q.src.length v i from rowsF_matL hv hi]
theorem n_reflS {q : Qv} {n : Nat} (Q : QOk q n) {x : List Int} (hs : Sm x) (hxn : x.length = n) {v : Nat} (hv : v < n) : m_spec_l20Reflect (matQ q n) x (v : Int) = some (reflL q n x v) := by
 have n5 := Q.n5
 have hb := sumN_bd (n := n) (f := fun i => mF q q.src.length v i * gx x i) (B := 1200) fun i _ => refl_bd Q hs i
 unfold m_spec_l20Reflect reflL
 rw [decide_eq_true (by simp; omega), cond_true, Lp_go (s := ((0 : Int), (0 : Int))) (r := sumN n fun i => mF q q.src.length v i * gx x i) (fun k => (sumN k fun i => mF q q.src.length v i * gx x i, (k : Int))) n rfl (fun k hk => ?_) (fun _ => ?_), Option.bind_some]
 ·have hvl : v < x.length := by omega
  rw [List.nil_append, at_gx hvl]
  simp only [Option.bind_some]
  have h2 := hs.gx v
  rw [mv_mF hv, wr_sm (by omega), Int.toNat_natCast]
  rfl
 ·unfold m_spec_l20Reflect_L1
  simp only
  have h2 := sumN_bd (n := k) (f := fun i => mF q q.src.length v i * gx x i) (B := 1200) fun i _ => refl_bd Q hs i
  have h3 := refl_bd (v := v) Q hs k
  rw [hxn, dlt hk, cond_true, show atL (matQ q n) (v : Int) = some (rowL n (mF q q.src.length v)) from rowL_at hv, Option.bind_some, rowL_at hk, Option.bind_some, at_gx (by omega), Option.bind_some, wr_sm (x := mF q q.src.length v k * gx x k) (by omega), wr_sm (by omega), wr_suc hk (by omega)]
  rfl
 ·unfold m_spec_l20Reflect_L1
  simp only
  rw [hxn, dnl (Nat.le_refl _), cond_false]
theorem n_reflI {q : Qv} {n : Nat} (Q : QOk q n) {x : List Int} (hs : Sm x) (hxn : x.length = n) {v : Nat} (hv : v < n) : Lp (m_impl_ReflectDims_L1 x (v : Int) (rowL n (mF q q.src.length v))) (x, 0) = some (reflL q n x v) := by
 have n5 := Q.n5
 have hvl : v < x.length := by omega
 refine Lp_go (fun k => (x.set v (gx x v + -(sumN k fun i => mF q q.src.length v i * gx x i)), (k : Int))) n ?_ (fun k hk => ?_) (fun _ => ?_)
 ·have e : x.set v (gx x v + -(sumN 0 fun i => mF q q.src.length v i * gx x i)) = x := by
   refine gx_ext (by simp) fun i hi => ?_
   rw [gx_set _ hvl]
   split
   ·rename_i h; subst h; simp [sumN]
   ·rfl
  rw [e]; rfl
 ·unfold m_impl_ReflectDims_L1
  simp only
  have h2 := sumN_bd (n := k) (f := fun i => mF q q.src.length v i * gx x i) (B := 1200) fun i _ => refl_bd Q hs i
  have h3 := refl_bd (v := v) Q hs k
  have h4 := hs.gx v
  have hcur : ∀ a : Int, atL (x.set v a) (v : Int) = some a := fun a => by rw [at_gx (by rw [List.length_set]; exact hvl), gx_set _ hvl, if_pos rfl]
  rw [rowL_len, dlt hk, cond_true, rowL_at hk, Option.bind_some, hcur, Option.bind_some, at_gx (by omega), Option.bind_some, Option.bind_some, Int.toNat_natCast, List.set_set, wr_sm (x := mF q q.src.length v k * gx x k) (by omega), wr_sm (by omega), wr_suc hk (by omega)]
  have e : gx x v + -(sumN k fun i => mF q q.src.length v i * gx x i) - mF q q.src.length v k * gx x k = gx x v + -(sumN (k + 1) fun i => mF q q.src.length v i * gx x i) := by
   show _ = gx x v + -((sumN k fun i => mF q q.src.length v i * gx x i) + mF q q.src.length v k * gx x k)
   omega
  rw [e]
 ·unfold m_impl_ReflectDims_L1
  simp only
  rw [rowL_len, dnl (Nat.le_refl _), cond_false, ← mv_mF hv]
  rfl
theorem n_refD {q : Qv} {n : Nat} (Q : QOk q n) {x : List Int} (hx : x.length ≤ 1048576) (v : Int) : m_impl_ReflectDims q x v = some (encO (refD q n x v)) ∧ m_spec_ReflectDims q x v = some (encO (refD q n x v)) := by
 have n5 := Q.n5
 unfold m_impl_ReflectDims m_spec_ReflectDims refD
 rw [(n_nums Q hx).1, (n_nums Q hx).2, Option.bind_some, Option.bind_some, n_hasV Q, n_l1In, Q.n0, wr_sm (by omega), Option.bind_some, Option.bind_some]
 cases h1 : numB n x with
 | false => exact ⟨rfl, rfl⟩
 | true =>
  obtain ⟨hxn, hs⟩ := numB_parts h1
  cases h2 : inR v 0 ((n : Int) - 1) with
  | false => exact ⟨rfl, rfl⟩
  | true =>
   have h3 := inR_true h2
   obtain ⟨w, rfl⟩ : ∃ w : Nat, v = (w : Int) := ⟨v.toNat, by omega⟩
   have hw : w < n := by omega
   rw [n_implSym Q, n_specSym Q, n_l21 Q]
   simp only [Option.bind_some, Bool.not_true, cond_false, Bool.true_and]
   rw [show atL (matQ q n) (w : Int) = some (rowL n (mF q q.src.length w)) from rowL_at hw, Option.bind_some, rowL_at hw, Option.bind_some, diag_two Q]
   cases h4 : noLoop q w with
   | false => exact ⟨rfl, rfl⟩
   | true =>
    simp only [Bool.not_true, cond_false, Option.bind_some, if_true]
    rw [n_reflS Q hs hxn hw, Option.bind_some]
    unfold m_Clone
    rw [decide_eq_true hx, cond_true, Option.bind_some, n_reflI Q hs hxn hw]
    exact ⟨rfl, rfl⟩
def refW (q : Qv) (n : Nat) : List Int → List Int → Option (List Int)
 | [], x => some x
 | v :: ws, x => (refD q n x v).bind (refW q n ws)
theorem reflL_len {q : Qv} {n : Nat} {x : List Int} {v : Nat} : (reflL q n x v).length = x.length := by unfold reflL; rw [List.length_set]
theorem refD_len {q : Qv} {n : Nat} {x y : List Int} {v : Int} (h : refD q n x v = some y) : y.length = x.length := by
 unfold refD at h
 split at h
 ·cases h; exact reflL_len
 ·cases h
theorem refW_len {q : Qv} {n : Nat} : ∀ {ws x y : List Int}, refW q n ws x = some y → y.length = x.length
 | [], x, y, h => by cases h; rfl
 | v :: ws, x, y, h => by
  simp only [refW] at h
  cases h1 : refD q n x v with
  | none => rw [h1] at h; cases h
  | some z =>
   rw [h1, Option.bind_some] at h
   rw [refW_len h, refD_len h1]
theorem word_loop {q : Qv} {n : Nat} (ws : List Int) (hws : ws.length ≤ 1000) {body : List Int × Int → Option ((List Int × Int) ⊕ (List Int ⊕ (List Int × Bool)))}
  (hb : ∀ (x : List Int) (k : Nat), x.length ≤ 1048576 → (hk : k < ws.length) → body (x, (k : Int)) = some (match refD q n x ws[k] with | some y => .inl (y, wr ((k : Int) + 1)) | none => .inr (.inr ([], false))))
  (he : ∀ x : List Int, body (x, (ws.length : Int)) = some (.inr (.inl x))) : ∀ (d k : Nat) (x : List Int), k + d = ws.length → x.length ≤ 1048576 → Lp body (x, (k : Int)) = some (match refW q n (ws.drop k) x with | some y => .inl y | none => .inr ([], false))
 | 0, k, x, hk, hx => by
  rw [Nat.add_zero] at hk
  subst hk
  rw [List.drop_length]
  exact Lp_stop (he x)
 | d + 1, k, x, hk, hx => by
  have hkl : k < ws.length := by omega
  have h1 := hb x k hx hkl
  rw [List.drop_eq_getElem_cons hkl]
  simp only [refW]
  cases h2 : refD q n x ws[k] with
  | none => rw [h2] at h1; exact Lp_stop h1
  | some y =>
   rw [h2] at h1
   rw [Lp_step h1, wr_suc hkl (by omega), Option.bind_some]
   exact word_loop ws hws hb he d (k + 1) y (by omega) (by rw [refD_len h2]; exact hx)
def rw1 (q : Qv) (n : Nat) (ws x : List Int) : Option (List Int) := if numB n x && decide (ws.length ≤ 200) then refW q n ws x else none
theorem n_word {q : Qv} {n : Nat} (Q : QOk q n) {x ws : List Int} (hx : x.length ≤ 1048576) : m_impl_ReflectWord q x ws = some (encO (rw1 q n ws x)) ∧ m_spec_ReflectWord q x ws = some (encO (rw1 q n ws x)) := by
 unfold m_impl_ReflectWord m_spec_ReflectWord rw1
 rw [(n_nums Q hx).1, (n_nums Q hx).2, Option.bind_some, Option.bind_some]
 cases h1 : numB n x with
 | false => exact ⟨rfl, rfl⟩
 | true =>
  by_cases h2 : ws.length ≤ 200
  ·rw [decide_eq_true h2, decide_eq_false (by omega : ¬ (200 : Int) < (ws.length : Int))]
   simp only [Bool.not_true, cond_false, Bool.and_self, if_true]
   constructor
   ·unfold m_Clone
    rw [decide_eq_true hx, cond_true, Option.bind_some, show ((0 : Int)) = ((0 : Nat) : Int) from rfl, word_loop (q := q) (n := n) ws (by omega) (fun y k hy hk => ?_) (fun y => ?_) ws.length 0 x (by omega) hx, Option.bind_some, List.drop_zero]
    ·cases refW q n ws x <;> rfl
    ·unfold m_impl_ReflectWord_L1
     simp only
     rw [dlt hk, cond_true, atL_nat hk, Option.bind_some, (n_refD Q hy _).1, Option.bind_some]
     cases refD q n y ws[k] <;> rfl
    ·unfold m_impl_ReflectWord_L1
     simp only
     rw [dnl (Nat.le_refl _), cond_false]
   ·rw [List.nil_append, decide_eq_true (by simp; omega), cond_true, show ((0 : Int)) = ((0 : Nat) : Int) from rfl, word_loop (q := q) (n := n) ws (by omega) (fun y k hy hk => ?_) (fun y => ?_) ws.length 0 x (by omega) hx, Option.bind_some, List.drop_zero]
    ·cases refW q n ws x <;> rfl
    ·unfold m_spec_ReflectWord_L1
     simp only
     rw [dlt hk, cond_true, atL_nat hk, Option.bind_some, (n_refD Q hy _).2, Option.bind_some]
     cases refD q n y ws[k] <;> rfl
    ·unfold m_spec_ReflectWord_L1
     simp only
     rw [dnl (Nat.le_refl _), cond_false]
  ·rw [decide_eq_false h2, decide_eq_true (by omega : (200 : Int) < (ws.length : Int))]
   exact ⟨rfl, rfl⟩
theorem n_rev {l : List Int} (hl : l.length ≤ 1000) : m_slices_Reverse_Lint_int l = some l.reverse := by
 have key : ∃ r, Lp m_slices_Reverse_Lint_int_L1 (l, 0, wr (((l.length : Nat) : Int) - 1)) = some r ∧ r = l.reverse := by
  refine Lp_meas (fun s => ∃ k : Nat, s.2.1 = (k : Int) ∧ s.2.2 = (l.length : Int) - 1 - k ∧ 2 * k ≤ l.length + 1 ∧ s.1.length = l.length ∧ ∀ i, i < l.length → gx s.1 i = if i < k ∨ l.length ≤ i + k then gx l (l.length - 1 - i) else gx l i) (fun s => l.length - s.2.1.toNat) _ ?_ ?_
  ·refine ⟨0, rfl, by simp only; rw [wr_sm (by omega)]; omega, by omega, rfl, fun i hi => ?_⟩
   rw [if_neg (by omega)]
  ·rintro ⟨x, a, b⟩ ⟨k, rfl, rfl, h2k, hlen, hg⟩
   simp only at hlen hg
   by_cases hc : (k : Int) < (l.length : Int) - 1 - k
   ·left
    have hk1 : k < x.length := by omega
    obtain ⟨m, hm⟩ : ∃ m : Nat, m = l.length - 1 - k := ⟨_, rfl⟩
    have hmb : (l.length : Int) - 1 - k = (m : Int) := by omega
    have hm1 : m < x.length := by omega
    refine ⟨((x.set k (gx x m)).set m (gx x k), ((k + 1 : Nat) : Int), (l.length : Int) - 1 - ((k + 1 : Nat) : Int)), ?_, ⟨k + 1, rfl, rfl, by omega, by simp; exact hlen, fun i hi => ?_⟩, ?_⟩
    ·unfold m_slices_Reverse_Lint_int_L1
     simp only
     rw [decide_eq_true hc, cond_true, hmb, at_gx hm1, Option.bind_some, at_gx hk1, Option.bind_some, Option.bind_some, Int.toNat_natCast, Int.toNat_natCast, at_gx (by simp; exact hm1), Option.bind_some, wr_sm (x := (k : Int) + 1) (by omega), wr_sm (x := (m : Int) - 1) (by omega), show (k : Int) + 1 = ((k + 1 : Nat) : Int) by omega, show (m : Int) - 1 = (l.length : Int) - 1 - ((k + 1 : Nat) : Int) by omega]
    ·simp only
     rw [gx_set _ (by simp; exact hm1), gx_set _ hk1]
     have gm := hg m (by omega)
     have gk := hg k (by omega)
     have gi := hg i hi
     by_cases e1 : i = m
     ·rw [if_pos e1, gk, if_neg (by omega), if_pos (by omega)]
      congr 1
      omega
     ·rw [if_neg e1]
      by_cases e2 : i = k
      ·rw [if_pos e2, gm, if_neg (by omega), if_pos (by omega)]
       congr 1
       omega
      ·rw [if_neg e2, gi]
       by_cases e3 : i < k ∨ l.length ≤ i + k
       ·rw [if_pos e3, if_pos (by omega)]
       ·rw [if_neg e3, if_neg (by omega)]
    ·simp only [Int.toNat_natCast]
     omega
   ·right
    refine ⟨x, ?_, ?_⟩
    ·unfold m_slices_Reverse_Lint_int_L1
     simp only
     rw [decide_eq_false hc, cond_false]
    ·refine gx_ext (by simp; exact hlen) fun i hi => ?_
     have h1 : gx l.reverse i = gx l (l.length - 1 - i) := by
      unfold gx
      rw [List.getElem?_reverse (by omega)]
     rw [h1, hg i (by omega)]
     by_cases e3 : i < k ∨ l.length ≤ i + k
     ·rw [if_pos e3]
     ·rw [if_neg e3]
      congr 1
      omega
 obtain ⟨r, h1, rfl⟩ := key
 unfold m_slices_Reverse_Lint_int
 rw [h1, Option.bind_some]
theorem n_revS {l : List Int} (hl : l.length ≤ 1000) {body : List Int × Int → Option ((List Int × Int) ⊕ List Int)}
  (hb : ∀ (out : List Int) (k : Nat), out.length ≤ 1000 → (hk : k < l.length) → body (out, (k : Int)) = some (.inl (out ++ [l[k]], wr ((k : Int) - 1)))) (he : ∀ out : List Int, body (out, -1) = some (.inr out)) : Lp body ([], wr (((l.length : Nat) : Int) - 1)) = some l.reverse := by
 have key : ∀ (k : Nat) (out : List Int), k ≤ l.length → out.length + k ≤ 1000 → Lp body (out, (k : Int) - 1) = some (out ++ (l.take k).reverse) := by
  intro k
  induction k with
  | zero => intro out _ _; rw [show ((0 : Nat) : Int) - 1 = -1 by omega, Lp_stop (he out)]; simp
  | succ k ih =>
   intro out hk ho
   have hkl : k < l.length := by omega
   rw [show ((k + 1 : Nat) : Int) - 1 = (k : Int) by omega, Lp_step (hb out k (by omega) hkl), wr_sm (by omega), ih _ (by omega) (by simp; omega), List.take_add_one, List.getElem?_eq_getElem hkl, Option.toList_some, List.reverse_append, List.append_assoc]
   rfl
 have := key l.length [] (Nat.le_refl _) (by simp; omega)
 rw [wr_sm (by omega), this, List.take_length]
 rfl
def itW (q : Qv) (n : Nat) (ws : List Int) : Nat → List Int → Option (List Int)
 | 0, x => some x
 | k + 1, x => (rw1 q n ws x).bind (itW q n ws k)
theorem rw1_len {q : Qv} {n : Nat} {ws x y : List Int} (h : rw1 q n ws x = some y) : y.length = x.length := by
 unfold rw1 at h
 split at h
 ·exact refW_len h
 ·cases h
theorem pow_loop {q : Qv} {n : Nat} (ws : List Int) {N : Nat} (hN : N ≤ 1000) {body : List Int × Int → Option ((List Int × Int) ⊕ (List Int ⊕ (List Int × Bool)))}
  (hb : ∀ (x : List Int) (k : Nat), x.length ≤ 1048576 → k < N → body (x, (k : Int)) = some (match rw1 q n ws x with | some y => .inl (y, wr ((k : Int) + 1)) | none => .inr (.inr ([], false))))
  (he : ∀ x : List Int, body (x, (N : Int)) = some (.inr (.inl x))) : ∀ (d k : Nat) (x : List Int), k + d = N → x.length ≤ 1048576 → Lp body (x, (k : Int)) = some (match itW q n ws d x with | some y => .inl y | none => .inr ([], false))
 | 0, k, x, hk, hx => by
  rw [Nat.add_zero] at hk
  subst hk
  exact Lp_stop (he x)
 | d + 1, k, x, hk, hx => by
  have h1 := hb x k hx (by omega)
  simp only [itW]
  cases h2 : rw1 q n ws x with
  | none => rw [h2] at h1; exact Lp_stop h1
  | some y =>
   rw [h2] at h1
   rw [Lp_step h1, wr_suc (n := N) (by omega) (by omega), Option.bind_some]
   exact pow_loop ws hN hb he d (k + 1) y (by omega) (by rw [rw1_len h2]; exact hx)
def coxP (q : Qv) (n : Nat) (x : List Int) (k : Int) : Option (List Int) :=
 if (ordF q n).2 && (numB n x && inR k (-40) 40) then itW q n (if k < 0 then (ordF q n).1 else (ordF q n).1.reverse) k.natAbs x else none
theorem ordF_len {q : Qv} {n : Nat} : (ordF q n).1.length ≤ n := by
 cases h : (ordF q n).2 with
 | false => rw [ordF_false h]; simp
 | true =>
  have := (ordF_topo (q := q) (n := n) (L := (ordF q n).1) (by rw [← h])).len
  omega
theorem n_coxI {q : Qv} {n : Nat} (Q : QOk q n) {x : List Int} (hx : x.length ≤ 1048576) (k : Int) : m_impl_CoxeterPower q x k = some (encO (coxP q n x k)) := by
 have n5 := Q.n5
 have hL := ordF_len (q := q) (n := n)
 unfold m_impl_CoxeterPower m_impl_CoxeterOrder coxP
 rw [n_implOrder Q, Option.bind_some, n_rev (by omega), Option.bind_some, decide_eq_true (by simp), cond_true, Option.bind_some]
 simp only
 cases h1 : (ordF q n).2 with
 | false => rfl
 | true =>
  rw [Bool.not_true, cond_false, (n_nums Q hx).1, Option.bind_some]
  cases h2 : numB n x with
  | false => rfl
  | true =>
   rw [Bool.not_true, cond_false, n_within, Option.bind_some]
   cases h3 : inR k (-40) 40 with
   | false => rfl
   | true =>
    have h4 := inR_true h3
    simp only [Bool.not_true, cond_false, Bool.and_self, if_true]
    have hmax : max k (wr (-k)) = ((k.natAbs : Nat) : Int) := by rw [wr_sm (by omega)]; omega
    by_cases hk : k < 0
    ·rw [decide_eq_true hk, cond_true, n_rev (by simp; omega), Option.bind_some, decide_eq_true (by simp), cond_true, List.reverse_reverse, if_pos hk]
     unfold m_Clone
     rw [decide_eq_true hx, cond_true, Option.bind_some, show ((0 : Int)) = ((0 : Nat) : Int) from rfl, pow_loop (q := q) (n := n) (ordF q n).1 (N := k.natAbs) (by omega) (fun y j hy hj => ?_) (fun y => ?_) k.natAbs 0 x (by omega) hx, Option.bind_some]
     ·cases itW q n (ordF q n).1 k.natAbs x <;> rfl
     ·unfold m_impl_CoxeterPower_L1
      simp only
      rw [hmax, dlt hj, cond_true, (n_word Q hy).1, Option.bind_some]
      cases rw1 q n (ordF q n).1 y <;> rfl
     ·unfold m_impl_CoxeterPower_L1
      simp only
      rw [hmax, dnl (Nat.le_refl _), cond_false]
    ·rw [decide_eq_false hk, cond_false, if_neg hk]
     unfold m_Clone
     rw [decide_eq_true hx, cond_true, Option.bind_some, show ((0 : Int)) = ((0 : Nat) : Int) from rfl, pow_loop (q := q) (n := n) (ordF q n).1.reverse (N := k.natAbs) (by omega) (fun y j hy hj => ?_) (fun y => ?_) k.natAbs 0 x (by omega) hx, Option.bind_some]
     ·cases itW q n (ordF q n).1.reverse k.natAbs x <;> rfl
     ·unfold m_impl_CoxeterPower_L2
      simp only
      rw [hmax, dlt hj, cond_true, (n_word Q hy).1, Option.bind_some]
      cases rw1 q n (ordF q n).1.reverse y <;> rfl
     ·unfold m_impl_CoxeterPower_L2
      simp only
      rw [hmax, dnl (Nat.le_refl _), cond_false]
theorem n_coxOrdS {q : Qv} {n : Nat} (Q : QOk q n) : m_spec_CoxeterOrder q = some ((ordF q n).1.reverse, (ordF q n).2) := by
 have n5 := Q.n5
 have hL := ordF_len (q := q) (n := n)
 unfold m_spec_CoxeterOrder
 rw [n_specOrder Q, Option.bind_some, n_revS (l := (ordF q n).1) (by omega) (fun out k ho hk => ?_) (fun out => ?_), Option.bind_some]
 ·unfold m_spec_CoxeterOrder_L1
  simp only
  rw [decide_eq_true (by omega), cond_true, atL_nat hk, Option.bind_some, decide_eq_true (by simp; omega), cond_true]
 ·unfold m_spec_CoxeterOrder_L1
  simp only
  rw [decide_eq_false (by omega), cond_false]
theorem n_coxS {q : Qv} {n : Nat} (Q : QOk q n) {x : List Int} (hx : x.length ≤ 1048576) (k : Int) : m_spec_CoxeterPower q x k = some (encO (coxP q n x k)) := by
 have n5 := Q.n5
 have hL := ordF_len (q := q) (n := n)
 unfold m_spec_CoxeterPower coxP
 rw [n_coxOrdS Q, Option.bind_some]
 simp only
 cases h1 : (ordF q n).2 with
 | false => rfl
 | true =>
  rw [Bool.not_true, cond_false, n_l1In, Option.bind_some]
  cases h3 : inR k (-40) 40 with
  | false => cases numB n x <;> rfl
  | true =>
   rw [Bool.not_true, cond_false, (n_nums Q hx).2, Option.bind_some]
   cases h2 : numB n x with
   | false => rfl
   | true =>
    have h4 := inR_true h3
    simp only [Bool.not_true, cond_false, Bool.and_self, if_true]
    by_cases hk : k < 0
    ·have hmax : wr (-k) = ((k.natAbs : Nat) : Int) := by rw [wr_sm (by omega)]; omega
     rw [decide_eq_true hk, cond_true, if_pos hk, n_revS (l := (ordF q n).1.reverse) (by simp; omega) (fun out k ho hk => ?_) (fun out => ?_), Option.bind_some, List.reverse_reverse, List.nil_append, decide_eq_true (by simp; omega), cond_true, show ((0 : Int)) = ((0 : Nat) : Int) from rfl, pow_loop (q := q) (n := n) (ordF q n).1 (N := k.natAbs) (by omega) (fun y j hy hj => ?_) (fun y => ?_) k.natAbs 0 x (by omega) hx, Option.bind_some]
     ·cases itW q n (ordF q n).1 k.natAbs x <;> rfl
     ·unfold m_spec_CoxeterPower_L2
      simp only
      rw [hmax, dlt hj, cond_true, (n_word Q hy).2, Option.bind_some]
      cases rw1 q n (ordF q n).1 y <;> rfl
     ·unfold m_spec_CoxeterPower_L2
      simp only
      rw [hmax, dnl (Nat.le_refl _), cond_false]
     ·unfold m_spec_CoxeterPower_L1
      simp only
      rw [decide_eq_true (by omega), cond_true, atL_nat hk, Option.bind_some, decide_eq_true (by simp; omega), cond_true]
     ·unfold m_spec_CoxeterPower_L1
      simp only
      rw [decide_eq_false (by omega), cond_false]
    ·have hmax : k = ((k.natAbs : Nat) : Int) := by omega
     rw [decide_eq_false hk, cond_false, if_neg hk, List.nil_append, decide_eq_true (by simp; omega), cond_true, show ((0 : Int)) = ((0 : Nat) : Int) from rfl, pow_loop (q := q) (n := n) (ordF q n).1.reverse (N := k.natAbs) (by omega) (fun y j hy hj => ?_) (fun y => ?_) k.natAbs 0 x (by omega) hx, Option.bind_some]
     ·cases itW q n (ordF q n).1.reverse k.natAbs x <;> rfl
     ·unfold m_spec_CoxeterPower_L3
      simp only
      rw [decide_eq_true (show (j : Int) < k by omega), cond_true, (n_word Q hy).2, Option.bind_some]
      cases rw1 q n (ordF q n).1.reverse y <;> rfl
     ·unfold m_spec_CoxeterPower_L3
      simp only
      rw [decide_eq_false (show ¬ ((k.natAbs : Nat) : Int) < k by omega), cond_false]
end Go.Proofs.Ytdhjmmnjapkmkaa
end

section
set_option linter.unusedVariables false
set_option linter.unusedSimpArgs false

namespace Go.Proofs.Ytdhjmmnjapkmkaa
open Go.RowKit
set_option linter.unusedVariables false
set_option linter.unusedSimpArgs false
set_option maxRecDepth 10000
set_option maxHeartbeats 4000000

end Go.Proofs.Ytdhjmmnjapkmkaa
end

section
set_option linter.unusedVariables false
set_option linter.unusedSimpArgs false

namespace Go.Proofs.Ytdhjmmnjapkmkaa
open Go.RowKit
set_option linter.unusedVariables false
set_option linter.unusedSimpArgs false
end Go.Proofs.Ytdhjmmnjapkmkaa
end

section
set_option linter.unusedVariables false
set_option linter.unusedSimpArgs false

namespace Go.Proofs.Ytdhjmmnjapkmkaa
open Go.RowKit
set_option linter.unusedVariables false
set_option linter.unusedSimpArgs false
set_option maxRecDepth 10000
set_option maxHeartbeats 4000000

end Go.Proofs.Ytdhjmmnjapkmkaa
end

section
set_option linter.unusedVariables false
set_option linter.unusedSimpArgs false

namespace Go.Proofs.Ytdhjmmnjapkmkaa
open Go.RowKit
set_option linter.unusedVariables false
theorem n_pos {q : Qv} (hb : bQ q) : ∃ L b, m_impl_PositiveRoots q = some (L, b) ∧ m_spec_PositiveRoots q = some (L, b) ∧ ((b = false ∧ L = []) ∨ (b = true ∧ ∃ n, Fin1 q n ∧ L = rootsL q n)) := by
 by_cases hv : quivV q = true
 ·obtain ⟨n, Q⟩ := qok hb hv
  by_cases hk : kindR n (matQ q n) (2 ^ n - 1) 1 1 = 1
  ·obtain ⟨F, G⟩ := fin_form Q fun t h1 h2 => kindR_one hk t h1 (by omega)
   have H : Fin1 q n := ⟨Q, F, G⟩
   refine ⟨rootsL q n, true, ?_, ?_, .inr ⟨rfl, n, H, rfl⟩⟩
   ·unfold m_impl_PositiveRoots
    rw [n_implKind Q, Option.bind_some, hk, decide_eq_true rfl, Bool.not_true, cond_false, n_implRoots H, Option.bind_some]
    rfl
   ·unfold m_spec_PositiveRoots
    rw [n_specKind Q, Option.bind_some, hk, decide_eq_true rfl, Bool.not_true, cond_false, n_specSym Q, Option.bind_some]
    exact n_specRoots H
  ·refine ⟨[], false, ?_, ?_, .inl ⟨rfl, rfl⟩⟩
   ·unfold m_impl_PositiveRoots
    rw [n_implKind Q, Option.bind_some, decide_eq_false hk, Bool.not_false, cond_true]
   ·unfold m_spec_PositiveRoots
    rw [n_specKind Q, Option.bind_some, decide_eq_false hk, Bool.not_false, cond_true]
 ·have hv' : quivV q = false := by simpa using hv
  refine ⟨[], false, ?_, ?_, .inl ⟨rfl, rfl⟩⟩
  ·unfold m_impl_PositiveRoots m_impl_KindOfQuiver
   rw [n_implQ hb, hv', Option.bind_some]
   rfl
  ·unfold m_spec_PositiveRoots m_spec_KindOfQuiver
   rw [n_specQ hb, hv', Option.bind_some]
   rfl
theorem n_IndexFuncL {v : List (List Int)} {f : List Int → Option Bool} (P : List Int → Bool) (hf : ∀ x ∈ v, f x = some (P x)) (h : v.length ≤ 1048576) : ∃ i : Int, m_slices_IndexFunc_LLint_Lint v f = some i ∧ decide (0 ≤ i) = v.any P := by
 unfold m_slices_IndexFunc_LLint_Lint
 rw [Lp_search (s0 := 0) (s := 0) (n := v.length) (fun k => bif P (v[k]?.getD []) then some (k : Int) else none) rfl (by omega) (Nat.zero_le _) (fun k _ hk => ?_) (fun _ => ?_)]
 ·rw [Option.bind_some]
  cases e : (List.range' 0 (v.length - 0)).findSome? (fun k : Nat => bif P (v[k]?.getD []) then some (k : Int) else none) with
  | none =>
   refine ⟨-1, rfl, ?_⟩
   rw [List.findSome?_eq_none_iff] at e
   have : v.any P = false := by
    rw [List.any_eq_false]
    intro x hx
    obtain ⟨k, hk, rfl⟩ := List.mem_iff_getElem.1 hx
    have := e k (by simp; omega)
    simp only [List.getElem?_eq_getElem hk, Option.getD_some] at this
    cases hp : P v[k] with
    | false => simp
    | true => rw [hp] at this; cases this
   rw [this]; rfl
  | some i =>
   refine ⟨i, rfl, ?_⟩
   obtain ⟨k, hk, he⟩ := List.exists_of_findSome?_eq_some e
   simp at hk
   have hkl : k < v.length := by omega
   rw [List.getElem?_eq_getElem hkl] at he
   simp only [Option.getD_some] at he
   cases hp : P v[k] with
   | false => rw [hp] at he; cases he
   | true =>
    rw [hp] at he
    cases he
    rw [decide_eq_true (by omega), eq_comm, List.any_eq_true]
    exact ⟨_, List.getElem_mem hkl, hp⟩
 ·unfold m_slices_IndexFunc_LLint_Lint_L1
  rw [dlt hk, cond_true, atG [] hk, Option.bind_some, hf _ (by rw [List.getElem?_eq_getElem hk]; exact List.getElem_mem hk), Option.bind_some]
  cases P _ <;> rfl
 ·unfold m_slices_IndexFunc_LLint_Lint_L1
  rw [dnl (Nat.le_refl _), cond_false]
theorem n_isRoot {q : Qv} (hb : bQ q) (x : List Int) : ∃ b, m_impl_IsRoot q x = some b ∧ m_spec_IsRoot q x = some b ∧ (b = true → ∃ n, Fin1 q n ∧ RtQ q n x) := by
 obtain ⟨L, b, h1, h2, h3⟩ := n_pos hb
 have hL : (∀ r ∈ L, bI r) ∧ L.length ≤ 1000 := by
  rcases h3 with ⟨_, rfl⟩ | ⟨_, n, H, rfl⟩
  ·exact ⟨fun r hr => (by cases hr), by simp⟩
  ·refine ⟨fun r hr => ?_, by have := rootsL_len H; omega⟩
   have := (H.vec ((mem_rootsL H r).1 hr)).1.1
   unfold bI; omega
 obtain ⟨i, g1, g2⟩ := n_IndexFuncL (f := fun b0 => m_impl_rootIndex_1 b0 x) (fun r => decide (r = x)) (fun r hr => by simp only [m_impl_rootIndex_1]; rw [n_SlEqual (hL.1 r hr), Option.bind_some]) (by omega : L.length ≤ 1048576)
 have hany : (L.any fun r => decide (r = x)) = decide (x ∈ L) := by
  rw [Bool.eq_iff_iff, List.any_eq_true, decide_eq_true_eq]
  exact ⟨fun ⟨r, hr, h⟩ => by rw [decide_eq_true_eq] at h; exact h ▸ hr, fun h => ⟨x, h, by simp⟩⟩
 refine ⟨decide (x ∈ L), ?_, ?_, fun h => ?_⟩
 ·unfold m_impl_IsRoot m_impl_rootIndex
  rw [h1, Option.bind_some]
  simp only
  rw [g1, Option.bind_some, Option.bind_some, g2, hany]
 ·unfold m_spec_IsRoot
  rw [h2, Option.bind_some]
  simp only
  rcases h3 with ⟨rfl, rfl⟩ | ⟨rfl, _⟩
  ·simp
  ·rw [cond_true, n_l20Has hL.1 hL.2, Option.bind_some]
 ·rw [decide_eq_true_eq] at h
  rcases h3 with ⟨_, rfl⟩ | ⟨_, n, H, rfl⟩
  ·cases h
  ·exact ⟨n, H, (mem_rootsL H x).1 h⟩
end Go.Proofs.Ytdhjmmnjapkmkaa
end

section
set_option linter.unusedVariables false
set_option linter.unusedSimpArgs false

namespace Go.Proofs.Ytdhjmmnjapkmkaa
open Go.RowKit
set_option linter.unusedVariables false
theorem sumN_swap (f : Nat → Nat → Int) (n : Nat) : ∀ m, (sumN m fun i => sumN n fun j => f i j) = sumN n fun j => sumN m fun i => f i j
 | 0 => by simp only [sumN]; exact (sumN_zero n).symm
 | m + 1 => by
  show (sumN m fun i => sumN n fun j => f i j) + sumN n (f m) = _
  rw [sumN_swap f n m, ← sumN_add]
  rfl
end Go.Proofs.Ytdhjmmnjapkmkaa
end

section
set_option linter.unusedVariables false
set_option linter.unusedSimpArgs false

namespace Go.Proofs.Ytdhjmmnjapkmkaa
open Go.RowKit
set_option linter.unusedVariables false
set_option linter.unusedSimpArgs false
set_option maxRecDepth 10000
set_option maxHeartbeats 4000000

noncomputable def m_laws_markIntS_L1  (x1 : ((List Int) × Int × Int)) : Option (((List Int) × Int × Int) ⊕ ((List Int) × Int)) :=
  bif decide (x1.2.2 < ((x1.1.length : Nat) : Int)) then
    (Option.bind (atL x1.1 x1.2.2) fun v2 =>
    some (.inl ((x1.1.set x1.2.2.toNat x1.2.1), wr (x1.2.1 + 1), wr (x1.2.2 + 1))))
  else
    (some (.inr (x1.1, x1.2.1)))

noncomputable def m_laws_markIntS (a0 : (List Int)) (a1 : Int) : Option ((List Int) × Int) :=
  Option.bind (Lp m_laws_markIntS_L1 (a0, a1, 0)) fun y3 =>
  some (y3.1, y3.2)

theorem c_laws_markIntS (a0 : (List Int)) (a1 : Int) (r : ((List Int) × Int)) (h : m_laws_markIntS a0 a1 = some r) : HasE Try.prog 23 [.own 0 0 a0.length, .int a1] [(0, ⟨1, List.map (ow eI) a0⟩)] 1 (.int r.2) [(0, ⟨1, List.map (ow eI) r.1⟩)] := by
 refine hasE_mk TT_ok (rvs := [.tmp 4]) (ns := [1, 2]) Try.func23 k k Try.ntmps23 k k <| sQ <| rg <| aa k k <| an <| tn <| sQ <| sQ <| rg <| aa k k ?_
 refine an <| tn <| ac_block ?_
 obtain ⟨y3, hy3, h⟩ := ob h
 refine ac_Lp (body := m_laws_markIntS_L1) hy3 (fun (x1 : ((List Int) × Int × Int)) => mkS [(0, .own 0 0 x1.1.length), (1, .int x1.2.1), (5, .int x1.2.2)] [(0, ⟨1, List.map (ow eI) x1.1⟩)] 1 [1, 2] 1) (fun r e t => e = .exit 0 ∧ Ent t (mkS [(1, .int r.2)] [(0, ⟨1, List.map (ow eI) r.1⟩)] 1 [1, 2] 1)) (ent_mk (σ := sg [(0, 0)]) ⟨(oE k k), (e1 k k), (e1 k k), trivial⟩ (hI k k k <| trivial) k) ?_ ?_
 ·intro x1 o h
  refine sQ <| sQ <| rg <| am k k <| am k k <| ae (w_len_own TT_ok k k k k) k <| ae (w_cmp k k k) k <| an <| tn ?_
  rcases cb h with ⟨q1, h⟩ | ⟨q1, h⟩
  ·refine ac_condT k q1 <| ac_skip <| tn <| sQ <| ac_block <| sQ <| rg <| am k k <| am k k <| am k k ?_
   obtain ⟨v2, hv2, h⟩ := ob h
   refine ae (x_at_own TT_ok (atL_nn hv2) (atL_lt hv2) k k k k k k k) k <| ae (x_store TT_ok okIo (u := x1.2.1) (atL_get hv2) k k k k k k) k <| an <| tn <| rg <| am k k <| ae (x_add k k) k <| aa k k <| an <| block_n ?_
   refine tn <| ac_ent (t := mkS [(0, .own 0 0 ((x1.1.set x1.2.2.toNat x1.2.1).length)), (1, .int (wr (x1.2.1 + 1))), (5, .int x1.2.2)] [(0, ⟨1, List.map (ow eI) (x1.1.set x1.2.2.toNat x1.2.1)⟩)] 1 [1, 2] 1) (ent_mk (σ := sg [(0, 0)]) ⟨⟨_, k, ⟨k, k, (by simp only [len_map, lA, lT, lR, lC, lN]), k⟩⟩, (e1 k k), (e1 k k), trivial⟩ (hI k k k <| trivial) k) <| rg <| am k k <| ae (x_add k k) k <| aa k k <| an <| tn ?_
   obtain rfl := so h
   exact ⟨_, k, (ent_mk (σ := sg [(0, 0)]) ⟨(oE k k), (e1 k k), (e1 k k), trivial⟩ (hI k k k <| trivial) k)⟩
  ·refine ac_condF k q1 <| ac_exit <| then_exit <| then_exit ?_
   obtain rfl := so h
   exact ⟨_, k, k, (ent_mk (σ := sg [(0, 0)]) ⟨(e1 k k), trivial⟩ (hI k k k <| trivial) k)⟩
 ·rintro e t ⟨rfl, hent⟩
  refine block_here <| tn <| ac_ent hent <| sQ <| rg <| am k k <| aa k k <| an <| tn <| ac_ret ?_
  obtain rfl := so h
  exact ⟨mkS [(4, .int y3.2)] [(0, ⟨1, List.map (ow eI) y3.1⟩)] 1 [1, 2] 1, (ent_mk (σ := sg [(0, 0)]) ⟨(e1 k k), trivial⟩ (hI k k k <| trivial) k), k, ⟨_, k, .inl k⟩, ⟨k, trivial⟩⟩

noncomputable def m_laws_markQuiver (a0 : Qv) (a1 : Int) : Option ((List Int) × (List Int) × Int) :=
  Option.bind (m_laws_markIntS a0.src a1) fun v1 =>
  bif decide (v1.1.length = a0.src.length) then
    (Option.bind (m_laws_markIntS a0.tgt v1.2) fun v3 =>
    bif decide (v3.1.length = a0.tgt.length) then
      (some (v1.1, v3.1, v3.2))
    else none)
  else none

theorem c_laws_markQuiver (a0 : Qv) (a1 : Int) (r : ((List Int) × (List Int) × Int)) (h : m_laws_markQuiver a0 a1 = some r) : HasE Try.prog 22 [.agg [.int a0.n, .own 0 0 a0.src.length, .own 1 0 a0.tgt.length], .int a1] [(0, ⟨1, List.map (ow eI) a0.src⟩), (1, ⟨1, List.map (ow eI) a0.tgt⟩)] 2 (.int r.2.2) [(0, ⟨1, List.map (ow eI) r.1⟩), (1, ⟨1, List.map (ow eI) r.2.1⟩)] := by
 refine hasE_mk TT_ok (rvs := [.tmp 4]) (ns := [2, 3, 4]) Try.func22 k k Try.ntmps22 k k <| sQ <| rg <| ae (w_box k k k k) k <| aa k k <| an <| tn <| sQ <| rg <| ae (w_field_ptr TT_ok k k k k k k k) k ?_
 refine ae (w_load_ptr TT_ok k k k k k k k) k <| am k k ?_
 obtain ⟨v1, hv1, h⟩ := ob h
 refine ae (eff_hasE (σ := sg [(0, 0)]) (σ' := sg [(0, 0)]) (touch := [0]) (news := []) (hl2 := [(0, ⟨1, List.map (ow eI) v1.1⟩)]) (n' := 3) (r2 := .int v1.2) (c_laws_markIntS a0.src a1 v1 hv1) k k ⟨_, _, k, ⟨k, k, k, k⟩, ⟨_, _, k, k, k⟩⟩ ⟨⟨_, k, k, .inl ⟨k, okI.plainO _⟩⟩, k, trivial⟩ k k k ⟨⟨_, k, k, .inl ⟨k, okI.plainO _⟩⟩, k, trivial⟩ k k k ⟨k, okI.tame _ _, trivial⟩ k k) k ?_
 obtain ⟨q2, h⟩ := cg h
 refine aa k k <| an <| tn <| sQ <| rg <| ae (w_field_ptr TT_ok k k k k k k k) k <| ae (w_load_ptr TT_ok k k k k k k k) k <| am k k ?_
 obtain ⟨v3, hv3, h⟩ := ob h
 refine ae (eff_hasE (σ := sg [(0, 1)]) (σ' := sg [(1, 0)]) (touch := [1]) (news := []) (hl2 := [(1, ⟨1, List.map (ow eI) v3.1⟩)]) (n' := 3) (r2 := .int v3.2) (c_laws_markIntS a0.tgt v1.2 v3 hv3) k k ⟨_, _, k, ⟨k, k, k, k⟩, ⟨_, _, k, k, k⟩⟩ ⟨⟨_, k, k, .inl ⟨k, okI.plainO _⟩⟩, k, trivial⟩ k k k ⟨⟨_, k, k, .inl ⟨k, okI.plainO _⟩⟩, k, trivial⟩ k k k ⟨k, okI.tame _ _, trivial⟩ k k) k ?_
 obtain ⟨q4, h⟩ := cg h
 refine aa k k <| an <| tn <| ac_ent (t := mkS [(1, .int v3.2)] [(0, ⟨1, List.map (ow eI) v1.1⟩), (1, ⟨1, List.map (ow eI) v3.1⟩)] 3 [3, 4] 2) (ent_mk (σ := sg [(0, 0), (1, 1)]) ⟨(e1 k k), trivial⟩ (hI k k k <| hI k k k <| trivial) k) <| sQ <| rg <| am k k <| aa k k <| an <| tn ?_
 refine ac_ret ?_
 obtain rfl := so h
 exact ⟨mkS [(4, .int v3.2)] [(0, ⟨1, List.map (ow eI) v1.1⟩), (1, ⟨1, List.map (ow eI) v3.1⟩)] 2 [2, 3, 4] 2, (ent_mk (σ := sg [(0, 0), (1, 1)]) ⟨(e1 k k), trivial⟩ (hI k k k <| hI k k k <| trivial) k), k, ⟨_, k, .inl k⟩, ⟨k, k, trivial⟩⟩

noncomputable def m_laws_heldIntS_L1 (a0 : (List Int)) (x1 : (Int × Int)) : Option ((Int × Int) ⊕ (Int ⊕ Int)) :=
  bif decide (x1.2 < (a0.length : Int)) then
    (Option.bind (atL a0 x1.2) fun v2 =>
    bif !decide (v2 = x1.1) then
      (some (.inr (.inr ((-1)))))
    else
      (some (.inl (wr (x1.1 + 1), wr (x1.2 + 1)))))
  else
    (some (.inr (.inl x1.1)))

noncomputable def m_laws_heldIntS (a0 : (List Int)) (a1 : Int) : Option Int :=
  Option.bind (Lp (m_laws_heldIntS_L1 a0) (a1, 0)) fun y4 =>
  Sum.elim (fun y5 =>
    some (y5)
  ) 
  (fun y6 =>
    some y6
  )
   y4

theorem c_laws_heldIntS (a0 : (List Int)) (a1 : Int) (r : Int) (h : m_laws_heldIntS a0 a1 = some r) : HasC Try.prog 24 [.list 1 (List.map eI a0), .int a1] (.int r) := by
 refine hasC_mk TT_ok (rvs := [.tmp 4]) (ns := [0, 1]) Try.func24 k k Try.ntmps24 k k k <| sQ <| rg <| aa k k <| an <| tn <| sQ <| sQ <| rg <| aa k k ?_
 refine an <| tn <| ac_block ?_
 obtain ⟨y4, hy4, h⟩ := ob h
 refine ac_Lp (body := (m_laws_heldIntS_L1 a0)) hy4 (fun (x1 : (Int × Int)) => mkS [(0, .list 1 (List.map eI a0)), (1, .int x1.1), (5, .int x1.2)] [] 0 [0, 1]) (fun r e t => Sum.elim (fun a => (fun r e t => e = .exit 0 ∧ Ent t (mkS [(1, .int r)] [] 0 [0, 1])) a e t) (fun b => (fun r e t => e = .ret ∧ RetQ TT [.tmp 4] (.int r) .ret t) b e t) r) (ent_mk (σ := sg []) ⟨⟨_, k, ⟨k, k⟩⟩, (e1 k k), (e1 k k), trivial⟩ trivial k) ?_ ?_
 ·intro x1 o h
  refine sQ <| sQ <| rg <| am k k <| am k k <| ae (lenL TT_ok k k k) k <| ae (w_cmp k k k) k <| an <| tn ?_
  rcases cb h with ⟨q1, h⟩ | ⟨q1, h⟩
  ·refine ac_condT k q1 <| ac_skip <| tn <| sQ <| ac_block <| sQ <| sQ <| rg <| am k k <| am k k ?_
   obtain ⟨v2, hv2, h⟩ := ob h
   refine ae (x_at_list TT_ok hv2 k k k k k k) k <| ae (w_load_ref TT_ok k k k k k k) k <| am k k <| ae (w_cmp k k k) k <| an <| tn ?_
   rcases cb h with ⟨q3, h⟩ | ⟨q3, h⟩
   ·refine ac_condT k q3 <| sQ <| rg <| aa k k <| an <| tn <| ac_ret <| then_ret <| block_ret <| then_ret ?_
    refine then_ret ?_
    obtain rfl := so h
    exact ⟨_, k, k, ret_mk k k k (fz_int k)⟩
   ·refine ac_condF k q3 <| ac_skip <| tn <| rg <| am k k <| ae (x_add k k) k <| aa k k <| an <| block_n <| tn ?_
    refine ac_ent (t := mkS [(0, .list 1 (List.map eI a0)), (1, .int (wr (x1.1 + 1))), (5, .int x1.2)] [] 0 [0, 1]) (ent_mk (σ := sg []) ⟨⟨_, k, ⟨k, k⟩⟩, (e1 k k), (e1 k k), trivial⟩ trivial k) <| rg <| am k k <| ae (x_add k k) k <| aa k k <| an <| tn ?_
    obtain rfl := so h
    exact ⟨_, k, (ent_mk (σ := sg []) ⟨⟨_, k, ⟨k, k⟩⟩, (e1 k k), (e1 k k), trivial⟩ trivial k)⟩
  ·refine ac_condF k q1 <| ac_exit <| then_exit <| then_exit ?_
   obtain rfl := so h
   exact ⟨_, k, k, (ent_mk (σ := sg []) ⟨(e1 k k), trivial⟩ trivial k)⟩
 ·intro e t hX
  rcases y4 with y5 | y6
  ·obtain ⟨rfl, hent⟩ := hX
   refine block_here <| tn <| ac_ent hent <| sQ <| rg <| am k k <| aa k k <| an <| tn <| ac_ret ?_
   obtain rfl := so h
   exact ret_mk k k k (fz_int k)
  ·obtain ⟨rfl, hent⟩ := hX
   refine block_ret <| then_ret ?_
   obtain rfl := so h
   exact hent

end Go.Proofs.Ytdhjmmnjapkmkaa
end

section
set_option linter.unusedVariables false
set_option linter.unusedSimpArgs false

namespace Go.Proofs.Ytdhjmmnjapkmkaa
open Go.RowKit
set_option linter.unusedVariables false
set_option linter.unusedSimpArgs false
def nvS {α : Type} (nv : α → Nat) : List α → Nat
 | [] => 0
 | x :: l => nv x + nvS nv l
def mvS {α : Type} (mv : Int → α → α) (nv : α → Nat) : Int → List α → List α
 | _, [] => []
 | k, x :: l => mv k x :: mvS mv nv (k + nv x) l
section
variable {α : Type} {mv : Int → α → α} {nv : α → Nat}
theorem mvS_len : ∀ (l : List α) (k : Int), (mvS mv nv k l).length = l.length
 | [], _ => rfl
 | x :: l, k => by simp [mvS, mvS_len l]
theorem nvS_app : ∀ (l m : List α), nvS nv (l ++ m) = nvS nv l + nvS nv m
 | [], m => by simp [nvS]
 | x :: l, m => by simp [nvS, nvS_app l m]; omega
theorem mvS_app : ∀ (l m : List α) (k : Int), mvS mv nv k (l ++ m) = mvS mv nv k l ++ mvS mv nv (k + nvS nv l) m
 | [], m, k => by simp [mvS, nvS]
 | x :: l, m, k => by
  simp only [List.cons_append, mvS, nvS, mvS_app l m]
  rw [show k + ((nv x + nvS nv l : Nat) : Int) = k + (nv x : Int) + (nvS nv l : Int) by omega]
theorem nvS_take {l : List α} {i : Nat} (hi : i < l.length) : nvS nv (l.take (i + 1)) = nvS nv (l.take i) + nv l[i] := by
 rw [List.take_succ_eq_append_getElem hi, nvS_app]; simp [nvS]
theorem nvS_take_le (l : List α) (i : Nat) : nvS nv (l.take i) ≤ nvS nv l := by
 have h : nvS nv (l.take i ++ l.drop i) = nvS nv l := by rw [List.take_append_drop]
 rw [nvS_app] at h; omega
theorem mvS_get {l : List α} {k : Int} {i : Nat} (hi : i < l.length) : (mvS mv nv k l)[i]? = some (mv (k + nvS nv (l.take i)) l[i]) := by
 have e : l = l.take i ++ l[i] :: l.drop (i + 1) := by rw [← List.drop_eq_getElem_cons hi, List.take_append_drop]
 have e2 : mvS mv nv k l = mvS mv nv k (l.take i) ++ mvS mv nv (k + nvS nv (l.take i)) (l[i] :: l.drop (i + 1)) := by rw [← mvS_app, ← e]
 rw [e2, List.getElem?_append_right (by rw [mvS_len]; simp; omega), mvS_len]
 simp [mvS, Nat.min_eq_left (Nat.le_of_lt hi)]
theorem mark_loop {l : List α} {k0 : Int} {body : List α × Int × Int → Option ((List α × Int × Int) ⊕ (List α × Int))} (h0 : 0 ≤ k0) (hk : k0 + nvS nv l ≤ 4611686018427387904) (hl : l.length ≤ 4611686018427387904)
  (hs : ∀ (r : List α) (i : Nat) (k : Int) (hi : i < r.length), r[i] ∈ l → 0 ≤ k → k + nv r[i] ≤ 4611686018427387904 → body (r, k, i) = some (.inl (r.set i (mv k r[i]), k + nv r[i], wr (i + 1)))) (he : ∀ r k, body (r, k, (r.length : Int)) = some (.inr (r, k))) :
  Lp body (l, k0, 0) = some (mvS mv nv k0 l, k0 + nvS nv l) := by
 rw [Lp_go (r := (mvS mv nv k0 l, k0 + nvS nv l)) (fun i => (mvS mv nv k0 (l.take i) ++ l.drop i, k0 + nvS nv (l.take i), (i : Int))) l.length (by simp [mvS, nvS]) (fun i hi => ?_) (fun _ => ?_)]
 ·have hm : (mvS mv nv k0 (l.take i)).length = i := by rw [mvS_len]; simp; omega
  have hg : (mvS mv nv k0 (l.take i) ++ l.drop i)[i]'(by simp [mvS_len]; omega) = l[i] := by
   rw [List.getElem_append_right (by omega)]
   simp [hm]
  have hb := nvS_take_le (nv := nv) l (i + 1)
  rw [nvS_take hi] at hb
  rw [hs _ i _ (by simp [mvS_len]; omega) (by rw [hg]; exact List.getElem_mem hi) (by omega) (by rw [hg]; omega), hg, wr_suc hi hl]
  congr 2
  refine Prod.ext ?_ (Prod.ext ?_ rfl)
  ·simp only
   rw [List.set_append_right _ _ (by omega), hm, Nat.sub_self, List.drop_eq_getElem_cons hi, List.set_cons_zero, List.take_succ_eq_append_getElem hi, mvS_app]
   simp [mvS]
  ·simp only
   rw [nvS_take hi]; omega
 ·have := he (mvS mv nv k0 (l.take l.length) ++ l.drop l.length) (k0 + nvS nv (l.take l.length))
  simp only [List.take_length, List.drop_length, List.append_nil, mvS_len] at this ⊢
  exact this
theorem held_loop {l : List α} {k0 : Int} {body : Int × Int → Option ((Int × Int) ⊕ (Int ⊕ Int))} (h0 : 0 ≤ k0) (hk : k0 + nvS nv l ≤ 4611686018427387904) (hl : l.length ≤ 4611686018427387904)
  (hs : ∀ (i : Nat) (hi : i < l.length) (k : Int), k = k0 + nvS nv (l.take i) → 0 ≤ k → k + nv l[i] ≤ 4611686018427387904 → body (k, i) = some (.inl (k + nv l[i], wr (i + 1)))) (he : ∀ k, body (k, (l.length : Int)) = some (.inr (.inl k))) :
  Lp body (k0, 0) = some (.inl (k0 + nvS nv l)) := by
 rw [Lp_go (r := Sum.inl (k0 + nvS nv l)) (fun i => (k0 + nvS nv (l.take i), (i : Int))) l.length (by simp [nvS]) (fun i hi => ?_) (fun _ => ?_)]
 ·have hb := nvS_take_le (nv := nv) l (i + 1)
  rw [nvS_take hi] at hb
  rw [hs i hi _ rfl (by omega) (by omega), wr_suc hi hl, nvS_take hi]
  congr 3
  omega
 ·rw [he]; simp
end
def nI (l : List Int) : Nat := nvS (fun _ => 1) l
def mvI : Int → List Int → List Int := mvS (fun k _ => k) (fun _ => 1)
theorem nI_len : ∀ l : List Int, nI l = l.length
 | [] => rfl
 | x :: l => by have := nI_len l; simp only [nI] at this; simp only [nI, nvS, List.length_cons]; omega
theorem mvI_len (k : Int) (l : List Int) : (mvI k l).length = l.length := mvS_len l k
theorem nneg {k : Int} {n : Nat} (h : 0 ≤ k) : decide (k + (n : Int) < 0) = false := decide_eq_false (by omega)
theorem mm_I {l : List Int} {k : Int} (h0 : 0 ≤ k) (hk : k + nI l ≤ 4611686018427387904) : m_laws_markIntS l k = some (mvI k l, k + nI l) := by
 have hl := nI_len l
 unfold m_laws_markIntS
 rw [mark_loop (mv := fun k _ => k) (nv := fun _ => 1) h0 hk (by omega) (fun r i k hi _ g0 g1 => ?_) (fun r k => ?_), Option.bind_some]
 ·rfl
 ·unfold m_laws_markIntS_L1
  simp only
  rw [dlt hi, cond_true, atL_nat hi, Option.bind_some, Int.toNat_natCast, wr_sm (x := k + 1) (by omega)]
  simp
 ·unfold m_laws_markIntS_L1
  simp only
  rw [dnl (Nat.le_refl _), cond_false]
theorem mh_I {l : List Int} {k : Int} (h0 : 0 ≤ k) (hk : k + nI l ≤ 4611686018427387904) : m_laws_heldIntS (mvI k l) k = some (k + nI l) := by
 have hl := nI_len l
 have hm := mvI_len k l
 unfold m_laws_heldIntS
 rw [held_loop (l := l) (nv := fun _ => 1) h0 hk (by omega) (fun i hi k' e g0 g1 => ?_) (fun k' => ?_), Option.bind_some]
 ·rfl
 ·unfold m_laws_heldIntS_L1
  simp only
  have hg : (mvI k l)[i]? = some k' := by unfold mvI; rw [mvS_get hi, e]
  rw [hm, dlt hi, cond_true, atL_nat (by omega), Option.bind_some]
  have hg' : (mvI k l)[i]'(by omega) = k' := by rw [List.getElem?_eq_getElem (by omega)] at hg; exact Option.some.inj hg
  rw [hg', decide_eq_true rfl, Bool.not_true, cond_false, wr_sm (x := k' + 1) (by omega)]
  simp
 ·unfold m_laws_heldIntS_L1
  simp only
  rw [hm, dnl (Nat.le_refl _), cond_false]
def nQ (q : Qv) : Nat := nI q.src + nI q.tgt
def mvQ (k : Int) (q : Qv) : Qv := ⟨q.n, mvI k q.src, mvI (k + nI q.src) q.tgt⟩
theorem mm_Q {q : Qv} {k : Int} (h0 : 0 ≤ k) (hk : k + nQ q ≤ 4611686018427387904) : m_laws_markQuiver q k = some ((mvQ k q).src, (mvQ k q).tgt, k + nQ q) := by
 unfold nQ at hk
 unfold m_laws_markQuiver
 rw [mm_I h0 (by omega), Option.bind_some, mvI_len, decide_eq_true rfl, cond_true, mm_I (by omega) (by omega), Option.bind_some, mvI_len, decide_eq_true rfl, cond_true]
 unfold mvQ nQ
 congr 3
 omega
end Go.Proofs.Ytdhjmmnjapkmkaa
end

section
set_option linter.unusedVariables false
set_option linter.unusedSimpArgs false

namespace Go.Proofs.Ytdhjmmnjapkmkaa
open Go.RowKit
set_option linter.unusedVariables false
set_option linter.unusedSimpArgs false
set_option maxRecDepth 10000
set_option maxHeartbeats 4000000

end Go.Proofs.Ytdhjmmnjapkmkaa
end

section
set_option linter.unusedVariables false
set_option linter.unusedSimpArgs false

namespace Go.Proofs.Ytdhjmmnjapkmkaa
open Go.RowKit
set_option linter.unusedVariables false
theorem dn_neg (c : Nat → Bool) : ∀ (k : Nat) (acc : Int), dn c k acc < 0 → ∀ j, j < k → c j = false
 | 0, acc, _, j, hj => absurd hj (Nat.not_lt_zero _)
 | k + 1, acc, h, j, hj => by
  rw [dn] at h
  by_cases hjk : j = k
  ·subst hjk
   cases hc : c j with
   | false => rfl
   | true =>
    rw [hc, cond_true] at h
    rcases dn_spec c j (j : Int) with e | ⟨i, _, e, _⟩
    ·rw [e] at h; omega
    ·rw [e] at h; omega
  ·exact dn_neg c k _ h j (by omega)
theorem stuck {q : Qv} {n : Nat} (H : Fin1 q n) {out : List Int} (ho : out.length < n) : ¬ dn (cO q out) n (-1) < 0 := by
 intro h
 have Q := H.Q
 have hc := dn_neg _ _ _ h
 obtain ⟨y, hy⟩ : ∃ y : Nat → Int, y = fun v : Nat => if (v : Int) ∈ out then (0 : Int) else (1 : Int) := ⟨fun v : Nat => if (v : Int) ∈ out then (0 : Int) else (1 : Int), rfl⟩
 have h01 : ∀ v, y v = 0 ∨ y v = 1 := fun v => by rw [hy]; simp only; split <;> simp
 have hex : ∃ v, v < n ∧ y v ≠ 0 := by
  refine Classical.byContradiction fun hno => ?_
  have hall : ∀ v, v < n → (v : Int) ∈ out := fun v hv => by
   refine Classical.byContradiction fun hm => hno ⟨v, hv, ?_⟩
   rw [hy]; simp only [if_neg hm]; decide
  have hnd : ((List.range n).map fun v : Nat => (v : Int)).Nodup := by
   unfold List.Nodup
   rw [List.pairwise_map]
   exact (List.pairwise_lt_range (n := n)).imp fun {a b} hab => by omega
  have := nodup_len hnd fun x hx => by
   obtain ⟨v, hv, rfl⟩ := List.mem_map.1 hx
   exact hall v (List.mem_range.1 hv)
  simp at this
  omega
 have hin : ∀ v, v < n → y v ≠ 0 → ∃ i, i < q.src.length ∧ gx q.tgt i = (v : Int) ∧ y (gx q.src i).toNat = 1 := by
  intro v hv hyv
  have hvo : ¬ (v : Int) ∈ out := fun hm => hyv (by rw [hy]; simp only [if_pos hm])
  have h1 := hc v hv
  unfold cO at h1
  rw [decide_eq_false hvo, Bool.not_false, Bool.true_and] at h1
  unfold readyB at h1
  rw [List.all_eq_false] at h1
  obtain ⟨i, hi, h2⟩ := h1
  have hi := List.mem_range.1 hi
  rw [Bool.or_eq_true, not_or] at h2
  obtain ⟨h3, h4⟩ := h2
  refine ⟨i, hi, by simpa using h3, ?_⟩
  have h5 : ¬ gx q.src i ∈ out := by simpa using h4
  obtain ⟨s, t, hs, ht, e1, e2, _, _⟩ := Q.arrow hi
  rw [e1] at h5 ⊢
  rw [hy]
  simp only [Int.toNat_natCast, if_neg h5]
 have hpos := (pd_pos n _ H.F.pd H.F.sym y).2 hex
 have hqe : qf n (rowsF (matQ q n)) y = 2 * eul q n (rowL n y) (rowL n y) := by
  rw [← qf_eul Q]
  have e : ∀ i, i < n → gx (rowL n y) i = y i := fun i hi => gx_rowL hi
  simp only [qf]
  exact sumN_congr fun i hi => sumN_congr fun j hj => by rw [e i hi, e j hj]
 rw [hqe] at hpos
 unfold eul at hpos
 rw [sumN_congr (g := y) fun v hv => by rw [gx_rowL hv]; rcases h01 v with e | e <;> rw [e] <;> rfl] at hpos
 have e3 : (sumN q.src.length fun i => gx (rowL n y) (gx q.src i).toNat * gx (rowL n y) (gx q.tgt i).toNat) = sumN n fun w => sumN q.src.length fun i => if gx q.tgt i = (w : Int) then y (gx q.src i).toNat * y w else 0 := by
  rw [← sumN_swap]
  refine sumN_congr fun i hi => ?_
  obtain ⟨s, t, hs, ht, g1, g2, _, _⟩ := Q.arrow hi
  rw [g1, g2, Int.toNat_natCast, Int.toNat_natCast, gx_rowL hs, gx_rowL ht]
  rw [show (sumN n fun w => if (t : Int) = (w : Int) then y s * y w else 0) = sumN n fun w => if w = t then y s * y w else 0 from sumN_congr fun w _ => by
   by_cases h : w = t
   ·subst h; rw [if_pos rfl, if_pos rfl]
   ·rw [if_neg (by omega), if_neg h]]
  rw [sumN_one (fun w => y s * y w) ht]
 rw [e3] at hpos
 have e4 : 0 ≤ (sumN n fun w => sumN q.src.length fun i => if gx q.tgt i = (w : Int) then y (gx q.src i).toNat * y w else 0) - sumN n y := by
  have : (sumN n fun w => (sumN q.src.length fun i => if gx q.tgt i = (w : Int) then y (gx q.src i).toNat * y w else 0) + (-1) * y w) = (sumN n fun w => sumN q.src.length fun i => if gx q.tgt i = (w : Int) then y (gx q.src i).toNat * y w else 0) - sumN n y := by
   rw [sumN_add, sumN_mul]; omega
  rw [← this]
  refine sumN_nonneg fun w hw => ?_
  have hnn : ∀ i, i < q.src.length → 0 ≤ (if gx q.tgt i = (w : Int) then y (gx q.src i).toNat * y w else 0) := fun i _ => by
   split
   ·rcases h01 (gx q.src i).toNat with e | e <;> rcases h01 w with e' | e' <;> rw [e, e'] <;> decide
   ·exact Int.le_refl _
  rcases h01 w with e | e
  ·have := sumN_nonneg hnn
   omega
  ·obtain ⟨i, hi, h1, h2⟩ := hin w hw (by rw [e]; decide)
   have := sumN_ge hnn hi
   rw [if_pos h1, h2, Int.one_mul] at this
   omega
 omega
theorem ordS_fin {q : Qv} {n : Nat} (H : Fin1 q n) : ∀ (d : Nat) {out : List Int}, out.length + d = n → ∃ l, ordS q n d out = .inl l
 | 0, out, _ => ⟨out, rfl⟩
 | d + 1, out, h => by
  rw [ordS, if_neg (stuck H (by omega))]
  exact ordS_fin H d (by simp; omega)
theorem fin_ord {q : Qv} {n : Nat} (H : Fin1 q n) : ∃ L, ordF q n = (L, true) := by
 obtain ⟨l, hl⟩ := ordS_fin H n (out := []) (by simp)
 exact ⟨l, by unfold ordF; rw [hl]⟩
end Go.Proofs.Ytdhjmmnjapkmkaa
end

section
set_option linter.unusedVariables false
set_option linter.unusedSimpArgs false

namespace Go.Proofs.Ytdhjmmnjapkmkaa
open Go.RowKit
set_option linter.unusedVariables false
set_option linter.unusedSimpArgs false
set_option maxRecDepth 10000
set_option maxHeartbeats 4000000

noncomputable def m_impl_IsProjectiveRoot_L1 (a0 : Qv) (a1 : (List Int)) (x1 : Int) : Option (Int ⊕ (Unit ⊕ Bool)) :=
  bif decide (x1 < a0.n) then
    (Option.bind (m_impl_ProjectiveDims a0 x1) fun v4 =>
    Option.bind (m_slices_Equal_Lint_int v4 a1) fun v5 =>
    bif v5 then
      (some (.inr (.inr (true))))
    else
      (some (.inl (wr (x1 + 1)))))
  else
    (some (.inr (.inl ())))

noncomputable def m_impl_IsProjectiveRoot (a0 : Qv) (a1 : (List Int)) : Option Bool :=
  Option.bind (m_impl_IsAcyclic a0) fun v1 =>
  bif !v1 then
    (some (false))
  else
    (Option.bind (Lp (m_impl_IsProjectiveRoot_L1 a0 a1) 0) fun y7 =>
    Sum.elim (fun y8 =>
      some (false)
    ) 
    (fun y9 =>
      some y9
    )
     y7)

noncomputable def m_spec_IsProjectiveRoot_L1 (a0 : Qv) (a1 : (List Int)) (x1 : Int) : Option (Int ⊕ (Unit ⊕ Bool)) :=
  bif decide (x1 < a0.n) then
    (Option.bind (m_spec_IsAcyclic a0) fun v2 =>
    bif v2 then
      (Option.bind (m_spec_ProjectiveDims a0 x1) fun v4 =>
      Option.bind (m_spec_l6Same v4 a1) fun v5 =>
      bif v5 then
        (some (.inr (.inr (true))))
      else
        (some (.inl (wr (x1 + 1)))))
    else
      (some (.inr (.inl ()))))
  else
    (some (.inr (.inl ())))

noncomputable def m_spec_IsProjectiveRoot (a0 : Qv) (a1 : (List Int)) : Option Bool :=
  Option.bind (Lp (m_spec_IsProjectiveRoot_L1 a0 a1) 0) fun y7 =>
  Sum.elim (fun y8 =>
    some (false)
  ) 
  (fun y9 =>
    some y9
  )
   y7

noncomputable def m_impl_CoxeterOf (a0 : Qv) (a1 : (List Int)) : Option ((List Int) × Bool) :=
  Option.bind (m_impl_CoxeterPower a0 a1 1) fun v1 =>
  some ((v1.1, v1.2))

noncomputable def m_spec_CoxeterOf (a0 : Qv) (a1 : (List Int)) : Option ((List Int) × Bool) :=
  Option.bind (m_spec_CoxeterOrder a0) fun v1 =>
  bif !v1.2 then
    (some ((([] : (List Int)), false)))
  else
    (Option.bind (m_spec_ReflectWord a0 a1 v1.1) fun v3 =>
    some ((v3.1, v3.2)))

noncomputable def m_impl_TranslateDims (a0 : Qv) (a1 : (List Int)) : Option ((List Int) × Bool) :=
  Option.bind (m_impl_IsRoot a0 a1) fun v1 =>
  bif !v1 then
    (some (([], false)))
  else
    (Option.bind (m_impl_IsProjectiveRoot a0 a1) fun v3 =>
    bif v3 then
      (some (([], false)))
    else
      (Option.bind (m_impl_CoxeterOf a0 a1) fun v5 =>
      some ((v5.1, v5.2))))

noncomputable def m_spec_TranslateDims (a0 : Qv) (a1 : (List Int)) : Option ((List Int) × Bool) :=
  Option.bind (m_spec_IsRoot a0 a1) fun v1 =>
  bif !v1 then
    (some ((([] : (List Int)), false)))
  else
    (Option.bind (m_spec_IsProjectiveRoot a0 a1) fun v3 =>
    bif v3 then
      (some ((([] : (List Int)), false)))
    else
      (Option.bind (m_spec_CoxeterOf a0 a1) fun v5 =>
      some ((v5.1, v5.2))))

noncomputable def m_impl_InjectiveDims_1 (a0 : Int) (a1 : Qv) (a2 : Int) : Option Int :=
  Option.bind (m_impl_CountPaths a1 a0 a2) fun v1 =>
  some (v1)

theorem c_impl_InjectiveDims_1 (a0 : Int) (a1 : Qv) (a2 : Int) (r : Int) (h : m_impl_InjectiveDims_1 a0 a1 a2 = some r) : HasC Try.prog 122 [.int a0, .ref (eQ a1), .ref (eI a2)] (.int r) := by
 refine hasC_mk TT_ok (rvs := [.tmp 4]) (ns := [0, 1]) Try.func122 k k Try.ntmps122 k k k <| sQ <| rg <| aa k k <| an <| tn <| sQ <| rg <| ae (w_load_ref TT_ok k k k k k k) k <| am k k ?_
 refine ae (w_load_ref TT_ok k k k k k k) k ?_
 obtain ⟨v1, hv1, h⟩ := ob h
 refine ae (w_call0s (c_impl_CountPaths a1 a0 a2 v1 hv1) k (va_cons (va_agg' (v1_cons (v1_same k) (v1_cons (v1_same k) (v1_cons (v1_same k) v1_nil)))) (va_cons (va_same k) (va_cons (va_same k) va_nil)))) k <| aa k k <| an <| tn <| ac_ret ?_
 obtain rfl := so h
 exact ret_mk k k k (fz_int k)

noncomputable def m_impl_InjectiveDims (a0 : Qv) (a1 : Int) : Option (List Int) :=
  Option.bind (m_impl_countAll a0 a1 (fun b0 => m_impl_InjectiveDims_1 b0 a0 a1)) fun v1 =>
  some (v1)

theorem c_impl_InjectiveDims (a0 : Qv) (a1 : Int) (r : (List Int)) (h : m_impl_InjectiveDims a0 a1 = some r) : HasC Try.prog 88 [.agg (eQ a0), .int a1] (.list 1 (List.map eI r)) := by
 refine hasC_mk TT_ok (rvs := [.tmp 4]) (ns := [0, 1, 2, 3, 4]) Try.func88 k k Try.ntmps88 k k k <| sQ <| rg <| ae (w_box k k k k) k <| ae (w_box k k k k) k <| aa k k <| an <| tn <| sQ <| rg ?_
 refine ae (w_load_ptr TT_ok k k k k k k k) k <| ae (w_load_ptr TT_ok k k k k k k k) k <| ae (eff_makeFunc (vs := [.ptr 0 0 0, .ptr 1 0 0]) k (by simp)) k ?_
 obtain ⟨v1, hv1, h⟩ := ob h
 refine ae (AEff.conv (w_call0 (x := .own 2 0 (List.map eI v1).length) (nb := [(2, ⟨1, absEs (List.map eI v1)⟩)]) (c_impl_countAll a0 a1 (fun b0 => m_impl_InjectiveDims_1 b0 a0 a1) k (fun b0 r h => c_impl_InjectiveDims_1 b0 a0 a1 r h) v1 hv1) k (by rfl) k k (okI.good _) (va_cons (va_agg' (v1_cons (v1_same k) (v1_cons (v1_same k) (v1_cons (v1_same k) v1_nil)))) (va_cons (va_same k) (va_cons (va_fn (vp_cons (vp_box k k (v1_cons (v1_same k) (v1_cons (v1_same k) (v1_cons (v1_same k) v1_nil)))) (vp_cons (vp_box k k (v1_cons (v1_same k) v1_nil)) va_nil2))) va_nil)))) (v' := .own 2 0 v1.length) (ed' := [(2, some ⟨1, List.map (ow eI) v1⟩)]) (by simp only [len_map]) (ed_ok (nb' := [(2, ⟨1, List.map (ow eI) v1⟩)]) (by simp only [abs_map]))) k <| aa k k <| an <| tn <| ac_ret ?_
 obtain rfl := so h
 exact ret_mk k k k (xz_list (x_f1 okI k k))

noncomputable def m_spec_InjectiveDims_L1 (a0 : Qv) (a1 : Int) (x1 : ((List Int) × Int)) : Option (((List Int) × Int) ⊕ (List Int)) :=
  bif decide (x1.2 < a0.n) then
    (Option.bind (m_spec_IsAcyclic a0) fun v2 =>
    bif v2 then
      (Option.bind (m_spec_l1In a1 0 (wr (a0.n - 1))) fun v4 =>
      bif v4 then
        (Option.bind (m_spec_CountPaths a0 x1.2 a1) fun v6 =>
        bif decide (x1.1.length + [v6].length ≤ 4294967296) then
          (some (.inl ((x1.1 ++ [v6]), wr (x1.2 + 1))))
        else none)
      else
        (some (.inr x1.1)))
    else
      (some (.inr x1.1)))
  else
    (some (.inr x1.1))

noncomputable def m_spec_InjectiveDims (a0 : Qv) (a1 : Int) : Option (List Int) :=
  Option.bind (Lp (m_spec_InjectiveDims_L1 a0 a1) (([] : (List Int)), 0)) fun y8 =>
  some (y8)

theorem c_spec_InjectiveDims (a0 : Qv) (a1 : Int) (r : (List Int)) (h : m_spec_InjectiveDims a0 a1 = some r) : HasC Try.prog 85 [.agg (eQ a0), .int a1] (.list 1 (List.map eI r)) := by
 refine hasC_mk TT_ok (rvs := [.tmp 4]) (ns := [0, 1, 2, 3, 4, 5]) Try.func85 k k Try.ntmps85 k k k <| sQ <| rg <| ae (w_box k k k k) k <| aa k k <| an <| tn <| sQ <| rg <| ae (w_lit TT_ok k k k k k k k k k k k k) k ?_
 refine aa k k <| an <| tn <| ac_ent (t := mkS [(1, .int a1), (2, .ptr 0 0 0), (5, .own 1 0 (([] : (List Int)).length))] [(0, ⟨3, [[.int a0.n, .list 1 (List.map eI a0.src), .list 1 (List.map eI a0.tgt)]]⟩), (1, ⟨1, List.map (ow eI) ([] : (List Int))⟩)] 2 [2, 3, 4, 5]) (ent_mk (σ := sg [(0, 0), (1, 1)]) ⟨(e1 k k), (pE k k), ⟨_, k, ⟨k, k, (by simp only [len_map, lA, lT, lR, lC, lN]), k⟩⟩, trivial⟩ (hP k k k k <| hI k k k <| trivial) k) <| sQ <| sQ <| rg <| aa k k <| an <| tn ?_
 refine ac_block ?_
 obtain ⟨y8, hy8, h⟩ := ob h
 refine ac_Lp (body := (m_spec_InjectiveDims_L1 a0 a1)) hy8 (fun (x1 : ((List Int) × Int)) => mkS [(1, .int a1), (2, .ptr 0 0 0), (5, .own 1 0 x1.1.length), (6, .int x1.2)] [(0, ⟨3, [[.int a0.n, .list 1 (List.map eI a0.src), .list 1 (List.map eI a0.tgt)]]⟩), (1, ⟨1, List.map (ow eI) x1.1⟩)] 2 [2, 3, 4, 5]) (fun r e t => e = .exit 0 ∧ Ent t (mkS [(5, .own 0 0 r.length)] [(0, ⟨1, List.map (ow eI) r⟩)] 1 [1, 2, 3, 4, 5])) (ent_mk (σ := sg [(0, 0), (1, 1)]) ⟨(e1 k k), (pE k k), (oE k k), (e1 k k), trivial⟩ (hP k k k k <| hI k k k <| trivial) k) ?_ ?_
 ·intro x1 o h
  refine sQ <| sQ <| rg <| am k k <| ae (w_field_ptr TT_ok k k k k k k k) k <| ae (w_load_ptr TT_ok k k k k k k k) k <| ae (w_cmp k k k) k <| am k k ?_
  rcases cb h with ⟨q1, h⟩ | ⟨q1, h⟩
  ·refine aops_lit 12 k q1 <| ae (w_load_ptr TT_ok k k k k k k k) k ?_
   obtain ⟨v2, hv2, h⟩ := ob h
   refine ae (w_call0s (c_spec_IsAcyclic a0 v2 hv2) k (va_cons (va_agg' (v1_cons (v1_same k) (v1_cons (v1_same k) (v1_cons (v1_same k) v1_nil)))) va_nil)) k <| ae (eff_pick k k) k <| am k k ?_
   rcases cb h with ⟨q3, h⟩ | ⟨q3, h⟩
   ·refine aops_lit 16 k q3 <| am k k <| ae (w_field_ptr TT_ok k k k k k k k) k <| ae (w_load_ptr TT_ok k k k k k k k) k <| ae (x_sub k k) k ?_
    obtain ⟨v4, hv4, h⟩ := ob h
    refine ae (w_call0s (c_spec_l1In a1 0 (wr (a0.n - 1)) v4 hv4) k (va_cons (va_same k) (va_cons (va_same k) (va_cons (va_same k) va_nil)))) k <| ae (eff_pick k k) k <| an <| tn <| ac_ent (t := mkS [(1, .int a1), (2, .ptr 0 0 0), (5, .own 1 0 x1.1.length), (6, .int x1.2), (22, .bl v4)] [(0, ⟨3, [[.int a0.n, .list 1 (List.map eI a0.src), .list 1 (List.map eI a0.tgt)]]⟩), (1, ⟨1, List.map (ow eI) x1.1⟩)] 2 [2, 3, 4, 5]) (ent_mk (σ := sg [(0, 0), (1, 1)]) ⟨(e1 k k), (pE k k), (oE k k), (e1 k k), (e1 k k), trivial⟩ (hP k k k k <| hI k k k <| trivial) k) ?_
    rcases cb h with ⟨q5, h⟩ | ⟨q5, h⟩
    ·refine ac_condT k q5 <| ac_skip <| tn <| sQ <| ac_block <| rg <| am k k <| ae (w_load_ptr TT_ok k k k k k k k) k <| am k k <| am k k ?_
     obtain ⟨v6, hv6, h⟩ := ob h
     refine ae (w_call0s (c_spec_CountPaths a0 x1.2 a1 v6 hv6) k (va_cons (va_agg' (v1_cons (v1_same k) (v1_cons (v1_same k) (v1_cons (v1_same k) v1_nil)))) (va_cons (va_same k) (va_cons (va_same k) va_nil)))) k <| ae (w_lit TT_ok k k k k k k k k k k k k) k ?_
     obtain ⟨q7, h⟩ := cg h
     refine ae (x_app TT_ok (l := x1.1) (m := [v6]) okIo q7 k k k k k k k k k k k k) k <| aa k k <| an <| block_n <| tn <| rg <| am k k <| ae (x_add k k) k <| aa k k <| an ?_
     refine tn ?_
     obtain rfl := so h
     exact ⟨_, k, (ent_mk (σ := sg [(0, 0), (1, 3)]) ⟨(e1 k k), (pE k k), (oE k k), (e1 k k), trivial⟩ (hP k k k k <| hI k k k <| trivial) k)⟩
    ·refine ac_condF k q5 <| ac_exit <| then_exit <| then_exit ?_
     obtain rfl := so h
     exact ⟨_, k, k, (ent_mk (σ := sg [(0, 1)]) ⟨(oE k k), trivial⟩ (hI k k k <| trivial) k)⟩
   ·refine aops_lit 16 k q3 <| ak k k <| ak k k <| ak k k <| ak k k <| ak k k <| ae (eff_pick k k) k <| an <| tn <| ac_ent (t := mkS [(1, .int a1), (2, .ptr 0 0 0), (5, .own 1 0 x1.1.length), (6, .int x1.2), (22, .bl false)] [(0, ⟨3, [[.int a0.n, .list 1 (List.map eI a0.src), .list 1 (List.map eI a0.tgt)]]⟩), (1, ⟨1, List.map (ow eI) x1.1⟩)] 2 [2, 3, 4, 5]) (ent_mk (σ := sg [(0, 0), (1, 1)]) ⟨(e1 k k), (pE k k), (oE k k), (e1 k k), (e1 k k), trivial⟩ (hP k k k k <| hI k k k <| trivial) k) ?_
    refine ac_condF k k <| ac_exit <| then_exit <| then_exit ?_
    obtain rfl := so h
    exact ⟨_, k, k, (ent_mk (σ := sg [(0, 1)]) ⟨(oE k k), trivial⟩ (hI k k k <| trivial) k)⟩
  ·refine aops_lit 12 k q1 <| ak k k <| ak k k <| ae (eff_pick k k) k <| am k k <| ak k k <| ak k k <| ak k k <| ak k k <| ak k k ?_
   refine ae (eff_pick k k) k <| an <| tn <| ac_ent (t := mkS [(1, .int a1), (2, .ptr 0 0 0), (5, .own 1 0 x1.1.length), (6, .int x1.2), (22, .bl false)] [(0, ⟨3, [[.int a0.n, .list 1 (List.map eI a0.src), .list 1 (List.map eI a0.tgt)]]⟩), (1, ⟨1, List.map (ow eI) x1.1⟩)] 2 [2, 3, 4, 5]) (ent_mk (σ := sg [(0, 0), (1, 1)]) ⟨(e1 k k), (pE k k), (oE k k), (e1 k k), (e1 k k), trivial⟩ (hP k k k k <| hI k k k <| trivial) k) <| ac_condF k k <| ac_exit <| then_exit <| then_exit ?_
   obtain rfl := so h
   exact ⟨_, k, k, (ent_mk (σ := sg [(0, 1)]) ⟨(oE k k), trivial⟩ (hI k k k <| trivial) k)⟩
 ·rintro e t ⟨rfl, hent⟩
  refine block_here <| tn <| ac_ent hent <| sQ <| rg <| am k k <| aa k k <| an <| tn <| ac_ret ?_
  obtain rfl := so h
  exact ret_mk k k k (xz_list (x_f1 okI k k))

noncomputable def m_impl_IsInjectiveRoot_L1 (a0 : Qv) (a1 : (List Int)) (x1 : Int) : Option (Int ⊕ (Unit ⊕ Bool)) :=
  bif decide (x1 < a0.n) then
    (Option.bind (m_impl_InjectiveDims a0 x1) fun v4 =>
    Option.bind (m_slices_Equal_Lint_int v4 a1) fun v5 =>
    bif v5 then
      (some (.inr (.inr (true))))
    else
      (some (.inl (wr (x1 + 1)))))
  else
    (some (.inr (.inl ())))

noncomputable def m_impl_IsInjectiveRoot (a0 : Qv) (a1 : (List Int)) : Option Bool :=
  Option.bind (m_impl_IsAcyclic a0) fun v1 =>
  bif !v1 then
    (some (false))
  else
    (Option.bind (Lp (m_impl_IsInjectiveRoot_L1 a0 a1) 0) fun y7 =>
    Sum.elim (fun y8 =>
      some (false)
    ) 
    (fun y9 =>
      some y9
    )
     y7)

theorem c_impl_IsInjectiveRoot (a0 : Qv) (a1 : (List Int)) (r : Bool) (h : m_impl_IsInjectiveRoot a0 a1 = some r) : HasC Try.prog 55 [.agg (eQ a0), .list 1 (List.map eI a1)] (.bl r) := by
 refine hasC_mk TT_ok (rvs := [.tmp 4]) (ns := [0, 1, 2, 3]) Try.func55 k k Try.ntmps55 k k k <| sQ <| rg <| ae (w_box k k k k) k <| aa k k <| an <| tn <| sQ <| sQ <| rg ?_
 refine ae (w_load_ptr TT_ok k k k k k k k) k ?_
 obtain ⟨v1, hv1, h⟩ := ob h
 refine ae (w_call0s (c_impl_IsAcyclic a0 v1 hv1) k (va_cons (va_agg' (v1_cons (v1_same k) (v1_cons (v1_same k) (v1_cons (v1_same k) v1_nil)))) va_nil)) k <| ae (w_not k) k <| an <| tn ?_
 rcases cb h with ⟨q2, h⟩ | ⟨q2, h⟩
 ·refine ac_condT k q2 <| sQ <| rg <| aa k k <| an <| tn <| ac_ret <| then_ret ?_
  obtain rfl := so h
  exact ret_mk k k k (fz_bl k)
 ·refine ac_condF k q2 <| ac_skip <| tn <| sQ <| sQ <| rg <| ae (w_field_ptr TT_ok k k k k k k k) k <| ae (w_load_ptr TT_ok k k k k k k k) k <| am k k <| an ?_
  refine tn <| ac_block ?_
  obtain ⟨y7, hy7, h⟩ := ob h
  refine ac_Lp (body := (m_impl_IsInjectiveRoot_L1 a0 a1)) hy7 (fun (x1 : Int) => mkS [(1, .list 1 (List.map eI a1)), (2, .ptr 0 0 0), (10, .int a0.n), (11, .int x1)] [(0, ⟨3, [[.int a0.n, .list 1 (List.map eI a0.src), .list 1 (List.map eI a0.tgt)]]⟩)] 1 [1, 2, 3]) (fun r e t => Sum.elim (fun a => (fun r e t => e = .exit 0 ∧ Ent t (mkS [] [] 0 [0, 1, 2, 3])) a e t) (fun b => (fun r e t => e = .ret ∧ RetQ TT [.tmp 4] (.bl r) .ret t) b e t) r) (ent_mk (σ := sg [(0, 0)]) ⟨⟨_, k, ⟨k, k⟩⟩, (pE k k), (e1 k k), (e1 k k), trivial⟩ (hP k k k k <| trivial) k) ?_ ?_
  ·intro x1 o h
   refine sQ <| rg <| ae (w_cmp k k k) k <| an <| tn <| sQ ?_
   rcases cb h with ⟨q3, h⟩ | ⟨q3, h⟩
   ·refine ac_condT k q3 <| ac_skip <| tn <| sQ <| ac_block <| sQ <| rg <| am k k <| aa k k <| an ?_
    refine tn <| sQ <| rg <| ae (w_load_ptr TT_ok k k k k k k k) k <| am k k ?_
    obtain ⟨v4, hv4, h⟩ := ob h
    refine ae (AEff.conv (w_call0 (x := .own 1 0 (List.map eI v4).length) (nb := [(1, ⟨1, absEs (List.map eI v4)⟩)]) (c_impl_InjectiveDims a0 x1 v4 hv4) k (by rfl) k k (okI.good _) (va_cons (va_agg' (v1_cons (v1_same k) (v1_cons (v1_same k) (v1_cons (v1_same k) v1_nil)))) (va_cons (va_same k) va_nil))) (v' := .own 1 0 v4.length) (ed' := [(1, some ⟨1, List.map (ow eI) v4⟩)]) (by simp only [len_map]) (ed_ok (nb' := [(1, ⟨1, List.map (ow eI) v4⟩)]) (by simp only [abs_map]))) k <| am k k ?_
    obtain ⟨v5, hv5, h⟩ := ob h
    refine ae (w_call0s (c_slices_Equal_Lint_int v4 a1 v5 hv5) k (va_cons (va_T okI k k) (va_cons (va_same k) va_nil))) k <| an <| tn ?_
    rcases cb h with ⟨q6, h⟩ | ⟨q6, h⟩
    ·refine ac_condT k q6 <| sQ <| rg <| aa k k <| an <| tn <| ac_ret <| block_ret <| then_ret <| then_ret ?_
     obtain rfl := so h
     exact ⟨_, k, k, ret_mk k k k (fz_bl k)⟩
    ·refine ac_condF k q6 <| ac_skip <| block_n <| tn <| rg <| ae (x_add k k) k <| am k k <| an <| tn ?_
     obtain rfl := so h
     exact ⟨_, k, (ent_mk (σ := sg [(0, 0)]) ⟨⟨_, k, ⟨k, k⟩⟩, (pE k k), (e1 k k), (e1 k k), trivial⟩ (hP k k k k <| trivial) k)⟩
   ·refine ac_condF k q3 <| ac_exit <| then_exit <| then_exit ?_
    obtain rfl := so h
    exact ⟨_, k, k, (ent_mk (σ := sg []) trivial trivial k)⟩
  ·intro e t hX
   rcases y7 with y8 | y9
   ·obtain ⟨rfl, hent⟩ := hX
    refine block_here <| tn <| ac_ent hent <| sQ <| rg <| aa k k <| an <| tn <| ac_ret ?_
    obtain rfl := so h
    exact ret_mk k k k (fz_bl k)
   ·obtain ⟨rfl, hent⟩ := hX
    refine block_ret <| then_ret ?_
    obtain rfl := so h
    exact hent

noncomputable def m_spec_IsInjectiveRoot_L1 (a0 : Qv) (a1 : (List Int)) (x1 : Int) : Option (Int ⊕ (Unit ⊕ Bool)) :=
  bif decide (x1 < a0.n) then
    (Option.bind (m_spec_IsAcyclic a0) fun v2 =>
    bif v2 then
      (Option.bind (m_spec_InjectiveDims a0 x1) fun v4 =>
      Option.bind (m_spec_l6Same v4 a1) fun v5 =>
      bif v5 then
        (some (.inr (.inr (true))))
      else
        (some (.inl (wr (x1 + 1)))))
    else
      (some (.inr (.inl ()))))
  else
    (some (.inr (.inl ())))

noncomputable def m_spec_IsInjectiveRoot (a0 : Qv) (a1 : (List Int)) : Option Bool :=
  Option.bind (Lp (m_spec_IsInjectiveRoot_L1 a0 a1) 0) fun y7 =>
  Sum.elim (fun y8 =>
    some (false)
  ) 
  (fun y9 =>
    some y9
  )
   y7

theorem c_spec_IsInjectiveRoot (a0 : Qv) (a1 : (List Int)) (r : Bool) (h : m_spec_IsInjectiveRoot a0 a1 = some r) : HasC Try.prog 53 [.agg (eQ a0), .list 1 (List.map eI a1)] (.bl r) := by
 refine hasC_mk TT_ok (rvs := [.tmp 4]) (ns := [0, 1, 2, 3]) Try.func53 k k Try.ntmps53 k k k <| sQ <| rg <| ae (w_box k k k k) k <| aa k k <| an <| tn <| sQ <| sQ <| rg ?_
 refine aa k k <| an <| tn <| ac_block ?_
 obtain ⟨y7, hy7, h⟩ := ob h
 refine ac_Lp (body := (m_spec_IsInjectiveRoot_L1 a0 a1)) hy7 (fun (x1 : Int) => mkS [(1, .list 1 (List.map eI a1)), (2, .ptr 0 0 0), (5, .int x1)] [(0, ⟨3, [[.int a0.n, .list 1 (List.map eI a0.src), .list 1 (List.map eI a0.tgt)]]⟩)] 1 [1, 2, 3]) (fun r e t => Sum.elim (fun a => (fun r e t => e = .exit 0 ∧ Ent t (mkS [] [] 0 [0, 1, 2, 3])) a e t) (fun b => (fun r e t => e = .ret ∧ RetQ TT [.tmp 4] (.bl r) .ret t) b e t) r) (ent_mk (σ := sg [(0, 0)]) ⟨⟨_, k, ⟨k, k⟩⟩, (pE k k), (e1 k k), trivial⟩ (hP k k k k <| trivial) k) ?_ ?_
 ·intro x1 o h
  refine sQ <| sQ <| rg <| am k k <| ae (w_field_ptr TT_ok k k k k k k k) k <| ae (w_load_ptr TT_ok k k k k k k k) k <| ae (w_cmp k k k) k <| am k k ?_
  rcases cb h with ⟨q1, h⟩ | ⟨q1, h⟩
  ·refine aops_lit 10 k q1 <| ae (w_load_ptr TT_ok k k k k k k k) k ?_
   obtain ⟨v2, hv2, h⟩ := ob h
   refine ae (w_call0s (c_spec_IsAcyclic a0 v2 hv2) k (va_cons (va_agg' (v1_cons (v1_same k) (v1_cons (v1_same k) (v1_cons (v1_same k) v1_nil)))) va_nil)) k <| ae (eff_pick k k) k <| an <| tn ?_
   rcases cb h with ⟨q3, h⟩ | ⟨q3, h⟩
   ·refine ac_condT k q3 <| ac_skip <| tn <| sQ <| ac_block <| sQ <| rg <| ae (w_load_ptr TT_ok k k k k k k k) k <| am k k ?_
    obtain ⟨v4, hv4, h⟩ := ob h
    refine ae (AEff.conv (w_call0 (x := .own 1 0 (List.map eI v4).length) (nb := [(1, ⟨1, absEs (List.map eI v4)⟩)]) (c_spec_InjectiveDims a0 x1 v4 hv4) k (by rfl) k k (okI.good _) (va_cons (va_agg' (v1_cons (v1_same k) (v1_cons (v1_same k) (v1_cons (v1_same k) v1_nil)))) (va_cons (va_same k) va_nil))) (v' := .own 1 0 v4.length) (ed' := [(1, some ⟨1, List.map (ow eI) v4⟩)]) (by simp only [len_map]) (ed_ok (nb' := [(1, ⟨1, List.map (ow eI) v4⟩)]) (by simp only [abs_map]))) k <| am k k ?_
    obtain ⟨v5, hv5, h⟩ := ob h
    refine ae (w_call0s (c_spec_l6Same v4 a1 v5 hv5) k (va_cons (va_T okI k k) (va_cons (va_same k) va_nil))) k <| an <| tn <| ac_ent (t := mkS [(1, .list 1 (List.map eI a1)), (2, .ptr 0 0 0), (5, .int x1), (20, .bl v5)] [(0, ⟨3, [[.int a0.n, .list 1 (List.map eI a0.src), .list 1 (List.map eI a0.tgt)]]⟩)] 2 [2, 3]) (ent_mk (σ := sg [(0, 0)]) ⟨⟨_, k, ⟨k, k⟩⟩, (pE k k), (e1 k k), (e1 k k), trivial⟩ (hP k k k k <| trivial) k) ?_
    rcases cb h with ⟨q6, h⟩ | ⟨q6, h⟩
    ·refine ac_condT k q6 <| sQ <| rg <| aa k k <| an <| tn <| ac_ret <| block_ret <| then_ret <| then_ret ?_
     obtain rfl := so h
     exact ⟨_, k, k, ret_mk k k k (fz_bl k)⟩
    ·refine ac_condF k q6 <| ac_skip <| block_n <| tn <| rg <| am k k <| ae (x_add k k) k <| aa k k <| an <| tn ?_
     obtain rfl := so h
     exact ⟨_, k, (ent_mk (σ := sg [(0, 0)]) ⟨⟨_, k, ⟨k, k⟩⟩, (pE k k), (e1 k k), trivial⟩ (hP k k k k <| trivial) k)⟩
   ·refine ac_condF k q3 <| ac_exit <| then_exit <| then_exit ?_
    obtain rfl := so h
    exact ⟨_, k, k, (ent_mk (σ := sg []) trivial trivial k)⟩
  ·refine aops_lit 10 k q1 <| ak k k <| ak k k <| ae (eff_pick k k) k <| an <| tn <| ac_condF k k <| ac_exit <| then_exit <| then_exit ?_
   obtain rfl := so h
   exact ⟨_, k, k, (ent_mk (σ := sg []) trivial trivial k)⟩
 ·intro e t hX
  rcases y7 with y8 | y9
  ·obtain ⟨rfl, hent⟩ := hX
   refine block_here <| tn <| ac_ent hent <| sQ <| rg <| aa k k <| an <| tn <| ac_ret ?_
   obtain rfl := so h
   exact ret_mk k k k (fz_bl k)
  ·obtain ⟨rfl, hent⟩ := hX
   refine block_ret <| then_ret ?_
   obtain rfl := so h
   exact hent

noncomputable def m_impl_InverseTranslate (a0 : Qv) (a1 : (List Int)) : Option ((List Int) × Bool) :=
  Option.bind (m_impl_IsRoot a0 a1) fun v1 =>
  bif !v1 then
    (some (([], false)))
  else
    (Option.bind (m_impl_IsInjectiveRoot a0 a1) fun v3 =>
    bif v3 then
      (some (([], false)))
    else
      (Option.bind (m_impl_CoxeterPower a0 a1 (-1)) fun v5 =>
      some ((v5.1, v5.2))))

theorem c_impl_InverseTranslate (a0 : Qv) (a1 : (List Int)) (r : ((List Int) × Bool)) (h : m_impl_InverseTranslate a0 a1 = some r) : HasC Try.prog 26 [.agg (eQ a0), .list 1 (List.map eI a1)] (.tuple [.list 1 (List.map eI r.1), .bl r.2]) := by
 refine hasC_mk TT_ok (rvs := [.tmp 4, .tmp 5]) (ns := [0, 1, 2, 3]) Try.func26 k k Try.ntmps26 k k k <| sQ <| rg <| ae (w_box k k k k) k <| aa k k <| aa k k <| an <| tn <| sQ <| sQ ?_
 refine rg <| ae (w_load_ptr TT_ok k k k k k k k) k <| am k k ?_
 obtain ⟨v1, hv1, h⟩ := ob h
 refine ae (w_call0s (c_impl_IsRoot a0 a1 v1 hv1) k (va_cons (va_agg' (v1_cons (v1_same k) (v1_cons (v1_same k) (v1_cons (v1_same k) v1_nil)))) (va_cons (va_same k) va_nil))) k <| ae (w_not k) k <| am k k ?_
 rcases cb h with ⟨q2, h⟩ | ⟨q2, h⟩
 ·refine aops_lit 10 k q2 <| ak k k <| ak k k <| ak k k <| ae (eff_pick k k) k <| an <| tn <| ac_ent (t := mkS [(1, .list 1 (List.map eI a1)), (2, .ptr 0 0 0), (14, .bl true)] [(0, ⟨3, [[.int a0.n, .list 1 (List.map eI a0.src), .list 1 (List.map eI a0.tgt)]]⟩)] 1 [1, 2, 3]) (ent_mk (σ := sg [(0, 0)]) ⟨⟨_, k, ⟨k, k⟩⟩, (pE k k), (e1 k k), trivial⟩ (hP k k k k <| trivial) k) <| ac_condT k k <| sQ ?_
  refine rg <| aa k k <| aa k k <| an <| tn <| ac_ret <| then_ret ?_
  obtain rfl := so h
  exact ret_mk k k k (xz_tuple k (xB_cons (xB_one (k)) (xB_cons (k) xB_nil)))
 ·refine aops_lit 10 k q2 <| ae (w_load_ptr TT_ok k k k k k k k) k <| am k k ?_
  obtain ⟨v3, hv3, h⟩ := ob h
  refine ae (w_call0s (c_impl_IsInjectiveRoot a0 a1 v3 hv3) k (va_cons (va_agg' (v1_cons (v1_same k) (v1_cons (v1_same k) (v1_cons (v1_same k) v1_nil)))) (va_cons (va_same k) va_nil))) k <| ae (eff_pick k k) k <| an <| tn <| ac_ent (t := mkS [(1, .list 1 (List.map eI a1)), (2, .ptr 0 0 0), (14, .bl v3)] [(0, ⟨3, [[.int a0.n, .list 1 (List.map eI a0.src), .list 1 (List.map eI a0.tgt)]]⟩)] 1 [1, 2, 3]) (ent_mk (σ := sg [(0, 0)]) ⟨⟨_, k, ⟨k, k⟩⟩, (pE k k), (e1 k k), trivial⟩ (hP k k k k <| trivial) k) ?_
  rcases cb h with ⟨q4, h⟩ | ⟨q4, h⟩
  ·refine ac_condT k q4 <| sQ <| rg <| aa k k <| aa k k <| an <| tn <| ac_ret <| then_ret ?_
   obtain rfl := so h
   exact ret_mk k k k (xz_tuple k (xB_cons (xB_one (k)) (xB_cons (k) xB_nil)))
  ·refine ac_condF k q4 <| ac_skip <| tn <| sQ <| rg <| ae (w_load_ptr TT_ok k k k k k k k) k <| am k k ?_
   obtain ⟨v5, hv5, h⟩ := ob h
   refine ae (AEff.conv (w_call0 (x := .tuple [.own 1 0 (List.map eI v5.1).length, .bl v5.2]) (nb := [(1, ⟨1, absEs (List.map eI v5.1)⟩)]) (c_impl_CoxeterPower a0 a1 (-1) v5 hv5) k (by rfl) k k (gB_cons (okI.good _) (gB_cons trivial gB_nil)) (va_cons (va_agg' (v1_cons (v1_same k) (v1_cons (v1_same k) (v1_cons (v1_same k) v1_nil)))) (va_cons (va_same k) (va_cons (va_same k) va_nil)))) (v' := .tuple [.own 1 0 v5.1.length, .bl v5.2]) (ed' := [(1, some ⟨1, List.map (ow eI) v5.1⟩)]) (by simp only [len_map]) (ed_ok (nb' := [(1, ⟨1, List.map (ow eI) v5.1⟩)]) (by simp only [abs_map]))) k <| ae (eff_extract k k (by intro _ h; cases h)) k <| ae (eff_extract k k (by intro _ h; cases h)) k <| aa k k <| aa k k <| an <| tn <| ac_ret ?_
   obtain rfl := so h
   exact ret_mk k k k (xz_tuple k (xB_cons (xB_one (x_f1 okI k k)) (xB_cons (k) xB_nil)))

noncomputable def m_spec_InverseTranslate (a0 : Qv) (a1 : (List Int)) : Option ((List Int) × Bool) :=
  Option.bind (m_spec_IsRoot a0 a1) fun v1 =>
  bif !v1 then
    (some ((([] : (List Int)), false)))
  else
    (Option.bind (m_spec_IsInjectiveRoot a0 a1) fun v3 =>
    bif v3 then
      (some ((([] : (List Int)), false)))
    else
      (Option.bind (m_spec_CoxeterPower a0 a1 (-1)) fun v5 =>
      some ((v5.1, v5.2))))

theorem c_spec_InverseTranslate (a0 : Qv) (a1 : (List Int)) (r : ((List Int) × Bool)) (h : m_spec_InverseTranslate a0 a1 = some r) : HasC Try.prog 25 [.agg (eQ a0), .list 1 (List.map eI a1)] (.tuple [.list 1 (List.map eI r.1), .bl r.2]) := by
 refine hasC_mk TT_ok (rvs := [.tmp 4, .tmp 5]) (ns := [0, 1, 2, 3]) Try.func25 k k Try.ntmps25 k k k <| sQ <| rg <| ae (w_box k k k k) k <| aa k k <| aa k k <| an <| tn <| sQ <| sQ ?_
 refine rg <| ae (w_load_ptr TT_ok k k k k k k k) k <| am k k ?_
 obtain ⟨v1, hv1, h⟩ := ob h
 refine ae (w_call0s (c_spec_IsRoot a0 a1 v1 hv1) k (va_cons (va_agg' (v1_cons (v1_same k) (v1_cons (v1_same k) (v1_cons (v1_same k) v1_nil)))) (va_cons (va_same k) va_nil))) k <| ae (w_not k) k <| am k k ?_
 rcases cb h with ⟨q2, h⟩ | ⟨q2, h⟩
 ·refine aops_lit 12 k q2 <| ak k k <| ak k k <| ak k k <| ae (eff_pick k k) k <| an <| tn <| ac_ent (t := mkS [(1, .list 1 (List.map eI a1)), (2, .ptr 0 0 0), (16, .bl true)] [(0, ⟨3, [[.int a0.n, .list 1 (List.map eI a0.src), .list 1 (List.map eI a0.tgt)]]⟩)] 1 [1, 2, 3]) (ent_mk (σ := sg [(0, 0)]) ⟨⟨_, k, ⟨k, k⟩⟩, (pE k k), (e1 k k), trivial⟩ (hP k k k k <| trivial) k) <| ac_condT k k <| sQ ?_
  refine rg <| ae (w_lit TT_ok k k k k k k k k k k k k) k <| aa k k <| aa k k <| an <| tn <| ac_ent (t := mkS [(4, .own 1 0 (([] : (List Int)).length)), (5, .bl false)] [(1, ⟨1, List.map (ow eI) ([] : (List Int))⟩)] 2 [2, 3]) (ent_mk (σ := sg [(1, 1)]) ⟨⟨_, k, ⟨k, k, (by simp only [len_map, lA, lT, lR, lC, lN]), k⟩⟩, (e1 k k), trivial⟩ (hI k k k <| trivial) k) <| ac_ret <| then_ret ?_
  obtain rfl := so h
  exact ret_mk k k k (xz_tuple k (xB_cons (xB_one (x_f1 okI k k)) (xB_cons (k) xB_nil)))
 ·refine aops_lit 12 k q2 <| ae (w_load_ptr TT_ok k k k k k k k) k <| am k k ?_
  obtain ⟨v3, hv3, h⟩ := ob h
  refine ae (w_call0s (c_spec_IsInjectiveRoot a0 a1 v3 hv3) k (va_cons (va_agg' (v1_cons (v1_same k) (v1_cons (v1_same k) (v1_cons (v1_same k) v1_nil)))) (va_cons (va_same k) va_nil))) k <| ae (eff_pick k k) k <| an <| tn <| ac_ent (t := mkS [(1, .list 1 (List.map eI a1)), (2, .ptr 0 0 0), (16, .bl v3)] [(0, ⟨3, [[.int a0.n, .list 1 (List.map eI a0.src), .list 1 (List.map eI a0.tgt)]]⟩)] 1 [1, 2, 3]) (ent_mk (σ := sg [(0, 0)]) ⟨⟨_, k, ⟨k, k⟩⟩, (pE k k), (e1 k k), trivial⟩ (hP k k k k <| trivial) k) ?_
  rcases cb h with ⟨q4, h⟩ | ⟨q4, h⟩
  ·refine ac_condT k q4 <| sQ <| rg <| ae (w_lit TT_ok k k k k k k k k k k k k) k <| aa k k <| aa k k <| an <| tn <| ac_ent (t := mkS [(4, .own 1 0 (([] : (List Int)).length)), (5, .bl false)] [(1, ⟨1, List.map (ow eI) ([] : (List Int))⟩)] 2 [2, 3]) (ent_mk (σ := sg [(1, 1)]) ⟨⟨_, k, ⟨k, k, (by simp only [len_map, lA, lT, lR, lC, lN]), k⟩⟩, (e1 k k), trivial⟩ (hI k k k <| trivial) k) <| ac_ret ?_
   refine then_ret ?_
   obtain rfl := so h
   exact ret_mk k k k (xz_tuple k (xB_cons (xB_one (x_f1 okI k k)) (xB_cons (k) xB_nil)))
  ·refine ac_condF k q4 <| ac_skip <| tn <| sQ <| rg <| ae (w_load_ptr TT_ok k k k k k k k) k <| am k k ?_
   obtain ⟨v5, hv5, h⟩ := ob h
   refine ae (AEff.conv (w_call0 (x := .tuple [.own 1 0 (List.map eI v5.1).length, .bl v5.2]) (nb := [(1, ⟨1, absEs (List.map eI v5.1)⟩)]) (c_spec_CoxeterPower a0 a1 (-1) v5 hv5) k (by rfl) k k (gB_cons (okI.good _) (gB_cons trivial gB_nil)) (va_cons (va_agg' (v1_cons (v1_same k) (v1_cons (v1_same k) (v1_cons (v1_same k) v1_nil)))) (va_cons (va_same k) (va_cons (va_same k) va_nil)))) (v' := .tuple [.own 1 0 v5.1.length, .bl v5.2]) (ed' := [(1, some ⟨1, List.map (ow eI) v5.1⟩)]) (by simp only [len_map]) (ed_ok (nb' := [(1, ⟨1, List.map (ow eI) v5.1⟩)]) (by simp only [abs_map]))) k <| am k k <| ae (eff_extract k k (by intro _ h; cases h)) k <| ae (eff_extract k k (by intro _ h; cases h)) k <| aa k k <| aa k k <| an <| tn <| sQ <| rg ?_
   refine am k k <| am k k <| aa k k <| aa k k <| an <| tn <| ac_ent (t := mkS [(4, .own 1 0 v5.1.length), (5, .bl v5.2)] [(1, ⟨1, List.map (ow eI) v5.1⟩)] 2 [2, 3]) (ent_mk (σ := sg [(1, 1)]) ⟨(oE k k), (e1 k k), trivial⟩ (hI k k k <| trivial) k) <| ac_ret ?_
   obtain rfl := so h
   exact ret_mk k k k (xz_tuple k (xB_cons (xB_one (x_f1 okI k k)) (xB_cons (k) xB_nil)))

end Go.Proofs.Ytdhjmmnjapkmkaa
end

section
set_option linter.unusedVariables false
set_option linter.unusedSimpArgs false

namespace Go.Proofs.Ytdhjmmnjapkmkaa
open Go.RowKit
set_option linter.unusedVariables false
theorem itW_len {q : Qv} {n : Nat} {ws : List Int} : ∀ {k : Nat} {x y : List Int}, itW q n ws k x = some y → y.length = x.length
 | 0, x, y, h => by cases h; rfl
 | k + 1, x, y, h => by
  simp only [itW] at h
  cases h1 : rw1 q n ws x with
  | none => rw [h1] at h; cases h
  | some z =>
   rw [h1, Option.bind_some] at h
   rw [itW_len h, rw1_len h1]
theorem coxP_len {q : Qv} {n : Nat} {x y : List Int} {k : Int} (h : coxP q n x k = some y) : y.length = x.length := by
 unfold coxP at h
 split at h
 ·exact itW_len h
 ·cases h
theorem encO_len {q : Qv} {n : Nat} {x : List Int} {k : Int} (hx : x.length ≤ 5) : (encO (coxP q n x k)).1.length ≤ 5 := by
 cases h : coxP q n x k with
 | none => simp [encO]
 | some y => have := coxP_len h; simp only [encO]; omega
theorem cox_plus {q : Qv} {n : Nat} {L : List Int} (hT : ordF q n = (L, true)) (x : List Int) : coxP q n x 1 = rw1 q n L.reverse x := by
 unfold coxP
 rw [hT]
 simp only [Bool.true_and]
 rw [inR_mk (by omega) (by omega), Bool.and_true, if_neg (by omega : ¬ (1 : Int) < 0)]
 show (if numB n x = true then (rw1 q n L.reverse x).bind (fun y => some y) else none) = _
 unfold rw1
 cases numB n x <;> simp
theorem n_isProj {q : Qv} {n : Nat} (Q : QOk q n) {L : List Int} (hT : ordF q n = (L, true)) (x : List Int) :
  m_impl_IsProjectiveRoot q x = some ((List.range n).any fun v => decide (projL q n v = x)) ∧ m_spec_IsProjectiveRoot q x = some ((List.range n).any fun v => decide (projL q n v = x)) := by
 have n5 := Q.n5
 have hb : ∀ v, bI (projL q n v) := fun v => by show (projL q n v).length ≤ 1048576; unfold projL; rw [rowL_len]; omega
 constructor
 ·unfold m_impl_IsProjectiveRoot
  rw [(n_acyc Q).1, hT, Option.bind_some, Bool.not_true, cond_false, Lp_any (n := n) (fun v => decide (projL q n v = x)) true (by omega) (fun k hk => ?_) (fun _ => ?_), Option.bind_some]
  ·cases (List.range n).any fun v => decide (projL q n v = x) <;> rfl
  ·unfold m_impl_IsProjectiveRoot_L1
   rw [Q.n0, dlt hk, cond_true, (n_projs Q hT hk).1, Option.bind_some, n_SlEqual (hb k), Option.bind_some]
   cases decide (projL q n k = x) <;> rfl
  ·unfold m_impl_IsProjectiveRoot_L1
   rw [Q.n0, dnl (Nat.le_refl _), cond_false]
 ·unfold m_spec_IsProjectiveRoot
  rw [Lp_any (n := n) (fun v => decide (projL q n v = x)) true (by omega) (fun k hk => ?_) (fun _ => ?_), Option.bind_some]
  ·cases (List.range n).any fun v => decide (projL q n v = x) <;> rfl
  ·unfold m_spec_IsProjectiveRoot_L1
   rw [Q.n0, dlt hk, cond_true, (n_acyc Q).2, hT, Option.bind_some, cond_true, (n_projs Q hT hk).2, Option.bind_some, n_l6Same (hb k), Option.bind_some]
   cases decide (projL q n k = x) <;> rfl
  ·unfold m_spec_IsProjectiveRoot_L1
   rw [Q.n0, dnl (Nat.le_refl _), cond_false]
theorem n_Trans {q : Qv} (hb : bQ q) (x : List Int) : ∃ L b, m_impl_TranslateDims q x = some (L, b) ∧ m_spec_TranslateDims q x = some (L, b) ∧ L.length ≤ 5 := by
 obtain ⟨b1, h1, h2, h3⟩ := n_isRoot hb x
 unfold m_impl_TranslateDims m_spec_TranslateDims
 rw [h1, h2, Option.bind_some, Option.bind_some]
 cases b1 with
 | false => exact ⟨[], false, rfl, rfl, by simp⟩
 | true =>
  obtain ⟨n, H, r⟩ := h3 rfl
  obtain ⟨L, hT⟩ := fin_ord H
  have n5 := H.Q.n5
  have hx := r.len
  rw [Bool.not_true, cond_false, cond_false, (n_isProj H.Q hT x).1, (n_isProj H.Q hT x).2, Option.bind_some, Option.bind_some]
  cases (List.range n).any fun v => decide (projL q n v = x) with
  | true => exact ⟨[], false, rfl, rfl, by simp⟩
  | false =>
   rw [cond_false, cond_false]
   unfold m_impl_CoxeterOf m_spec_CoxeterOf
   rw [n_coxI H.Q (by omega), n_coxOrdS H.Q, hT, Option.bind_some, Option.bind_some, Option.bind_some]
   simp only
   rw [Bool.not_true, cond_false, (n_word H.Q (by omega)).2, Option.bind_some, Option.bind_some, ← cox_plus hT]
   exact ⟨_, _, rfl, rfl, encO_len (by omega)⟩
def injL (q : Qv) (n v : Nat) : List Int := rowL n fun w => ((pcn q v 8 w : Nat) : Int)
theorem n_injs {q : Qv} {n : Nat} (Q : QOk q n) {L : List Int} (hT : ordF q n = (L, true)) {v : Nat} (hv : v < n) : m_impl_InjectiveDims q v = some (injL q n v) ∧ m_spec_InjectiveDims q v = some (injL q n v) := by
 have n5 := Q.n5
 constructor
 ·unfold m_impl_InjectiveDims m_impl_countAll
  rw [(n_acyc Q).1, hT, Option.bind_some, Bool.not_true, cond_false, n_hasV Q, Option.bind_some, inR_mk (by omega) (by omega), Bool.not_true, cond_false,
   Lp_go (s := (([] : List Int), (0 : Int))) (r := injL q n v) (fun k => (rowL k fun w => ((pcn q v 8 w : Nat) : Int), (k : Int))) n rfl (fun k hk => ?_) (fun _ => ?_)]
  ·rfl
  ·unfold m_impl_countAll_L1
   simp only
   rw [Q.n0, dlt hk, cond_true]
   unfold m_impl_InjectiveDims_1
   rw [(n_counts Q hT hk hv).1, Option.bind_some, Option.bind_some, decide_eq_true (by rw [rowL_len]; simp; omega), cond_true, wr_suc hk (by omega)]
   unfold rowL
   rw [List.range_succ, List.map_append]
   rfl
  ·unfold m_impl_countAll_L1
   simp only
   rw [Q.n0, dnl (Nat.le_refl _), cond_false]
   rfl
 ·unfold m_spec_InjectiveDims
  rw [Lp_go (s := (([] : List Int), (0 : Int))) (r := injL q n v) (fun k => (rowL k fun w => ((pcn q v 8 w : Nat) : Int), (k : Int))) n rfl (fun k hk => ?_) (fun _ => ?_)]
  ·rfl
  ·unfold m_spec_InjectiveDims_L1
   simp only
   rw [Q.n0, dlt hk, cond_true, (n_acyc Q).2, hT, Option.bind_some, cond_true, n_l1In, Option.bind_some, wr_sm (by omega), inR_mk (by omega) (by omega), cond_true, (n_counts Q hT hk hv).2, Option.bind_some, decide_eq_true (by rw [rowL_len]; simp; omega), cond_true, wr_suc hk (by omega)]
   unfold rowL
   rw [List.range_succ, List.map_append]
   rfl
  ·unfold m_spec_InjectiveDims_L1
   simp only
   rw [Q.n0, dnl (Nat.le_refl _), cond_false]
   rfl
theorem n_isInj {q : Qv} {n : Nat} (Q : QOk q n) {L : List Int} (hT : ordF q n = (L, true)) (x : List Int) :
  m_impl_IsInjectiveRoot q x = some ((List.range n).any fun v => decide (injL q n v = x)) ∧ m_spec_IsInjectiveRoot q x = some ((List.range n).any fun v => decide (injL q n v = x)) := by
 have n5 := Q.n5
 have hb : ∀ v, bI (injL q n v) := fun v => by show (injL q n v).length ≤ 1048576; unfold injL; rw [rowL_len]; omega
 constructor
 ·unfold m_impl_IsInjectiveRoot
  rw [(n_acyc Q).1, hT, Option.bind_some, Bool.not_true, cond_false, Lp_any (n := n) (fun v => decide (injL q n v = x)) true (by omega) (fun k hk => ?_) (fun _ => ?_), Option.bind_some]
  ·cases (List.range n).any fun v => decide (injL q n v = x) <;> rfl
  ·unfold m_impl_IsInjectiveRoot_L1
   rw [Q.n0, dlt hk, cond_true, (n_injs Q hT hk).1, Option.bind_some, n_SlEqual (hb k), Option.bind_some]
   cases decide (injL q n k = x) <;> rfl
  ·unfold m_impl_IsInjectiveRoot_L1
   rw [Q.n0, dnl (Nat.le_refl _), cond_false]
 ·unfold m_spec_IsInjectiveRoot
  rw [Lp_any (n := n) (fun v => decide (injL q n v = x)) true (by omega) (fun k hk => ?_) (fun _ => ?_), Option.bind_some]
  ·cases (List.range n).any fun v => decide (injL q n v = x) <;> rfl
  ·unfold m_spec_IsInjectiveRoot_L1
   rw [Q.n0, dlt hk, cond_true, (n_acyc Q).2, hT, Option.bind_some, cond_true, (n_injs Q hT hk).2, Option.bind_some, n_l6Same (hb k), Option.bind_some]
   cases decide (injL q n k = x) <;> rfl
  ·unfold m_spec_IsInjectiveRoot_L1
   rw [Q.n0, dnl (Nat.le_refl _), cond_false]
theorem n_InvTrans {q : Qv} (hb : bQ q) (x : List Int) : ∃ L b, m_impl_InverseTranslate q x = some (L, b) ∧ m_spec_InverseTranslate q x = some (L, b) ∧ L.length ≤ 5 := by
 obtain ⟨b1, h1, h2, h3⟩ := n_isRoot hb x
 unfold m_impl_InverseTranslate m_spec_InverseTranslate
 rw [h1, h2, Option.bind_some, Option.bind_some]
 cases b1 with
 | false => exact ⟨[], false, rfl, rfl, by simp⟩
 | true =>
  obtain ⟨n, H, r⟩ := h3 rfl
  obtain ⟨L, hT⟩ := fin_ord H
  have n5 := H.Q.n5
  have hx := r.len
  rw [Bool.not_true, cond_false, cond_false, (n_isInj H.Q hT x).1, (n_isInj H.Q hT x).2, Option.bind_some, Option.bind_some]
  cases (List.range n).any fun v => decide (injL q n v = x) with
  | true => exact ⟨[], false, rfl, rfl, by simp⟩
  | false =>
   rw [cond_false, cond_false, n_coxI H.Q (by omega), n_coxS H.Q (by omega), Option.bind_some]
   exact ⟨_, _, rfl, rfl, encO_len (by omega)⟩
end Go.Proofs.Ytdhjmmnjapkmkaa
end

section
set_option linter.unusedVariables false
set_option linter.unusedSimpArgs false

namespace Go.Proofs.Ytdhjmmnjapkmkaa
open Go.RowKit
set_option linter.unusedVariables false
set_option linter.unusedSimpArgs false
set_option maxRecDepth 10000
set_option maxHeartbeats 4000000

noncomputable def m_laws_FnExactTranslateDims (a0 : Qv) (a1 : (List Int)) : Option Bool :=
  bif decide (1048576 < (a1.length : Int)) then
    (some (true))
  else
    (Option.bind (m_laws_szQuiver a0 1048576) fun v2 =>
    bif decide (v2 < 0) then
      (some (true))
    else
      (Option.bind (m_laws_toQuiver a0) fun v4 =>
      Option.bind (m_laws_toIntS a1) fun v5 =>
      Option.bind (m_spec_TranslateDims v4 v5) fun v6 =>
      Option.bind (m_laws_toQuiver a0) fun v7 =>
      Option.bind (m_laws_toIntS a1) fun v8 =>
      Option.bind (m_impl_TranslateDims v7 v8) fun v9 =>
      Option.bind (m_laws_eqIntS v9.1 v6.1) fun v10 =>
      bif !v10 then
        (some (false))
      else
        (bif !(v9.2 == v6.2) then
          (some (false))
        else
          (Option.bind (m_laws_toQuiver a0) fun v13 =>
          Option.bind (m_laws_eqQuiver v7 v13) fun v14 =>
          bif !v14 then
            (some (false))
          else
            (Option.bind (m_laws_toIntS a1) fun v16 =>
            Option.bind (m_laws_eqIntS v8 v16) fun v17 =>
            bif !v17 then
              (some (false))
            else
              (Option.bind (m_laws_markQuiver v7 1) fun v19 =>
              bif decide (v19.1.length = v7.src.length) then
                (bif decide (v19.2.1.length = v7.tgt.length) then
                  (Option.bind (m_laws_markIntS v8 v19.2.2) fun v22 =>
                  bif decide (v22.1.length = v8.length) then
                    (bif decide (v22.2 < 0) then
                      (some (false))
                    else
                      (Option.bind (m_laws_eqIntS v9.1 v6.1) fun v25 =>
                      bif !v25 then
                        (some (false))
                      else
                        (bif !(v9.2 == v6.2) then
                          (some (false))
                        else
                          (Option.bind (m_laws_markIntS v9.1 1) fun v28 =>
                          bif decide (v28.1.length = v9.1.length) then
                            (Option.bind (m_laws_heldIntS v28.1 1) fun v30 =>
                            bif decide (v30 < 0) then
                              (some (false))
                            else
                              (bif !decide (v30 = v28.2) then
                                (some (false))
                              else
                                (Option.bind (m_laws_toQuiver a0) fun v33 =>
                                Option.bind (m_laws_toIntS a1) fun v34 =>
                                Option.bind (m_impl_TranslateDims v33 v34) fun v35 =>
                                Option.bind (m_laws_eqIntS v35.1 v6.1) fun v36 =>
                                bif !v36 then
                                  (some (false))
                                else
                                  (bif !(v35.2 == v6.2) then
                                    (some (false))
                                  else
                                    (Option.bind (m_laws_heldIntS v28.1 1) fun v39 =>
                                    bif decide (v39 < 0) then
                                      (some (false))
                                    else
                                      (bif !decide (v39 = v28.2) then
                                        (some (false))
                                      else
                                        (some (true))))))))
                          else none))))
                  else none)
                else none)
              else none))))))

noncomputable def m_laws_FnExactInverseTranslate (a0 : Qv) (a1 : (List Int)) : Option Bool :=
  bif decide (1048576 < (a1.length : Int)) then
    (some (true))
  else
    (Option.bind (m_laws_szQuiver a0 1048576) fun v2 =>
    bif decide (v2 < 0) then
      (some (true))
    else
      (Option.bind (m_laws_toQuiver a0) fun v4 =>
      Option.bind (m_laws_toIntS a1) fun v5 =>
      Option.bind (m_spec_InverseTranslate v4 v5) fun v6 =>
      Option.bind (m_laws_toQuiver a0) fun v7 =>
      Option.bind (m_laws_toIntS a1) fun v8 =>
      Option.bind (m_impl_InverseTranslate v7 v8) fun v9 =>
      Option.bind (m_laws_eqIntS v9.1 v6.1) fun v10 =>
      bif !v10 then
        (some (false))
      else
        (bif !(v9.2 == v6.2) then
          (some (false))
        else
          (Option.bind (m_laws_toQuiver a0) fun v13 =>
          Option.bind (m_laws_eqQuiver v7 v13) fun v14 =>
          bif !v14 then
            (some (false))
          else
            (Option.bind (m_laws_toIntS a1) fun v16 =>
            Option.bind (m_laws_eqIntS v8 v16) fun v17 =>
            bif !v17 then
              (some (false))
            else
              (Option.bind (m_laws_markQuiver v7 1) fun v19 =>
              bif decide (v19.1.length = v7.src.length) then
                (bif decide (v19.2.1.length = v7.tgt.length) then
                  (Option.bind (m_laws_markIntS v8 v19.2.2) fun v22 =>
                  bif decide (v22.1.length = v8.length) then
                    (bif decide (v22.2 < 0) then
                      (some (false))
                    else
                      (Option.bind (m_laws_eqIntS v9.1 v6.1) fun v25 =>
                      bif !v25 then
                        (some (false))
                      else
                        (bif !(v9.2 == v6.2) then
                          (some (false))
                        else
                          (Option.bind (m_laws_markIntS v9.1 1) fun v28 =>
                          bif decide (v28.1.length = v9.1.length) then
                            (Option.bind (m_laws_heldIntS v28.1 1) fun v30 =>
                            bif decide (v30 < 0) then
                              (some (false))
                            else
                              (bif !decide (v30 = v28.2) then
                                (some (false))
                              else
                                (Option.bind (m_laws_toQuiver a0) fun v33 =>
                                Option.bind (m_laws_toIntS a1) fun v34 =>
                                Option.bind (m_impl_InverseTranslate v33 v34) fun v35 =>
                                Option.bind (m_laws_eqIntS v35.1 v6.1) fun v36 =>
                                bif !v36 then
                                  (some (false))
                                else
                                  (bif !(v35.2 == v6.2) then
                                    (some (false))
                                  else
                                    (Option.bind (m_laws_heldIntS v28.1 1) fun v39 =>
                                    bif decide (v39 < 0) then
                                      (some (false))
                                    else
                                      (bif !decide (v39 = v28.2) then
                                        (some (false))
                                      else
                                        (some (true))))))))
                          else none))))
                  else none)
                else none)
              else none))))))

theorem c_laws_FnExactInverseTranslate (a0 : Qv) (a1 : (List Int)) (r : Bool) (h : m_laws_FnExactInverseTranslate a0 a1 = some r) : HasC Try.prog 5 [.agg (eQ a0), .list 1 (List.map eI a1)] (.bl r) := by
 refine hasC_mkW TT_ok (rvs := [.tmp 4]) (ns := [0, 1, 2, 3, 4, 5, 6, 7, 8, 9, 10, 11, 12, 13, 14, 15, 16, 17, 18]) Try.func5 k k Try.ntmps5 k k k (fun W => ?_)
 refine rawE_agg <| rawC_sc <| rawC_d (fun w0_1 S0_1 r0_1 => ?_)
 refine rawC_d (fun w0_2 S0_2 r0_2 => ?_)
 refine rawC_nil <| rawE_d (fun w1_0 S1_0 r1_0 => ?_)
 refine rawE_nil <| sQ <| rgS <| se (w_box k k k k) k <| se (eff_assign k) k <| sn <| tn <| sQ <| sQ <| rgS ?_
 refine se (eff_move k) k <| se (x_len_raw TT_ok r1_0 k k k) k <| se (w_cmp k k k) k <| sn <| tn ?_
 rcases cb h with ⟨q1, h⟩ | ⟨q1, h⟩
 ·refine ac_condT k q1 <| sQ <| rgS <| se (eff_assign k) k <| sn <| tn <| ac_ret <| then_ret ?_
  obtain rfl := so h
  exact ret_mk k k k (fz_bl k)
 ·refine ac_condF k q1 <| ac_skip <| tn <| sQ <| rgS <| se (eff_assign k) k <| sn <| tn <| sQ <| rgS ?_
  refine se (w_load_ptr TT_ok k k k k k k k) k <| se (eff_move k) k ?_
  obtain ⟨v2, hv2, h⟩ := ob h
  refine se (w_call0sK (c_laws_szQuiver a0 1048576 v2 hv2) k (vk_cons (.inr (raw_cons (raw1_sc k k) (raw_cons (raw1_d k r0_1) (raw_cons (raw1_d k r0_2) raw_nil)))) (vk_cons (.inl (va_same k)) vk_nil))) k <| se (eff_assign k) k <| sn <| tn <| sQ <| sQ <| rgS <| se (eff_move k) k <| se (w_cmp k k k) k <| sn ?_
  refine tn <| ac_ent (t := mkS [(1, .sc w1_0), (2, .ptr 0 0 0), (24, .bl (decide (v2 < 0)))] [(0, ⟨3, [[.int a0.n, .sc w0_1, .sc w0_2]]⟩)] 1 [1, 2, 3, 4, 5, 6, 7, 8, 9, 10, 11, 12, 13, 14, 15, 16, 17, 18] ⟨0, true, fxW W, true⟩) (ent_mk (σ := sg [(0, 0)]) ⟨(e1 k k), (pE k k), (e1 k k), trivial⟩ (hP k k k k <| trivial) k) ?_
  rcases cb h with ⟨q3, h⟩ | ⟨q3, h⟩
  ·refine ac_condT k q3 <| sQ <| rgS <| se (eff_assign k) k <| sn <| tn <| ac_ret <| then_ret ?_
   obtain rfl := so h
   exact ret_mk k k k (fz_bl k)
  ·refine ac_condF k q3 <| ac_skip <| tn <| sQ <| rgS <| se (w_load_ptr TT_ok k k k k k k k) k ?_
   obtain ⟨v4, hv4, h⟩ := ob h
   refine se (AEff.conv (w_call0K (x := .agg [.int v4.n, .own 1 0 (List.map eI v4.src).length, .own 2 0 (List.map eI v4.tgt).length]) (nb := [(1, ⟨1, absEs (List.map eI v4.src)⟩), (2, ⟨1, absEs (List.map eI v4.tgt)⟩)]) (c_laws_toQuiver a0 v4 hv4) k (by rfl) k k (g1_cons trivial (g1_cons (okI.good _) (g1_cons (okI.good _) g1_nil))) (vk_cons (.inr (raw_cons (raw1_sc k k) (raw_cons (raw1_d k r0_1) (raw_cons (raw1_d k r0_2) raw_nil)))) vk_nil)) (v' := .agg [.int v4.n, .own 1 0 v4.src.length, .own 2 0 v4.tgt.length]) (ed' := [(1, some ⟨1, List.map (ow eI) v4.src⟩), (2, some ⟨1, List.map (ow eI) v4.tgt⟩)]) (by simp only [len_map]) (ed_ok (nb' := [(1, ⟨1, List.map (ow eI) v4.src⟩), (2, ⟨1, List.map (ow eI) v4.tgt⟩)]) (by simp only [abs_map]))) k <| se (eff_move k) k ?_
   obtain ⟨v5, hv5, h⟩ := ob h
   refine se (AEff.conv (w_call0K (x := .own 3 0 (List.map eI v5).length) (nb := [(3, ⟨1, absEs (List.map eI v5)⟩)]) (c_laws_toIntS a1 v5 hv5) k (by rfl) k k (okI.good _) (vk_cons (.inr (raw_d k r1_0)) vk_nil)) (v' := .own 3 0 v5.length) (ed' := [(3, some ⟨1, List.map (ow eI) v5⟩)]) (by simp only [len_map]) (ed_ok (nb' := [(3, ⟨1, List.map (ow eI) v5⟩)]) (by simp only [abs_map]))) k ?_
   obtain ⟨v6, hv6, h⟩ := ob h
   refine se (AEff.conv (w_call0K (x := .tuple [.own 4 0 (List.map eI v6.1).length, .bl v6.2]) (nb := [(4, ⟨1, absEs (List.map eI v6.1)⟩)]) (c_spec_InverseTranslate v4 v5 v6 hv6) k (by rfl) k k (gB_cons (okI.good _) (gB_cons trivial gB_nil)) (vk_cons (.inl (va_agg' (v1_cons (v1_same k) (v1_cons (v1_T okI k k) (v1_cons (v1_T okI k k) v1_nil))))) (vk_cons (.inl (va_T okI k k)) vk_nil))) (v' := .tuple [.own 4 0 v6.1.length, .bl v6.2]) (ed' := [(4, some ⟨1, List.map (ow eI) v6.1⟩)]) (by simp only [len_map]) (ed_ok (nb' := [(4, ⟨1, List.map (ow eI) v6.1⟩)]) (by simp only [abs_map]))) k <| se (eff_move k) k <| se (eff_extract k k (by intro _ h; cases h)) k <| se (eff_extract k k (by intro _ h; cases h)) k <| se (eff_assign k) k <| se (eff_assign k) k <| sn <| tn <| sQ <| rgS ?_
   refine se (w_load_ptr TT_ok k k k k k k k) k ?_
   obtain ⟨v7, hv7, h⟩ := ob h
   refine se (AEff.conv (w_call0K (x := .agg [.int v7.n, .own 5 0 (List.map eI v7.src).length, .own 6 0 (List.map eI v7.tgt).length]) (nb := [(5, ⟨1, absEs (List.map eI v7.src)⟩), (6, ⟨1, absEs (List.map eI v7.tgt)⟩)]) (c_laws_toQuiver a0 v7 hv7) k (by rfl) k k (g1_cons trivial (g1_cons (okI.good _) (g1_cons (okI.good _) g1_nil))) (vk_cons (.inr (raw_cons (raw1_sc k k) (raw_cons (raw1_d k r0_1) (raw_cons (raw1_d k r0_2) raw_nil)))) vk_nil)) (v' := .agg [.int v7.n, .own 5 0 v7.src.length, .own 6 0 v7.tgt.length]) (ed' := [(5, some ⟨1, List.map (ow eI) v7.src⟩), (6, some ⟨1, List.map (ow eI) v7.tgt⟩)]) (by simp only [len_map]) (ed_ok (nb' := [(5, ⟨1, List.map (ow eI) v7.src⟩), (6, ⟨1, List.map (ow eI) v7.tgt⟩)]) (by simp only [abs_map]))) k <| se (w_alloc TT_ok k k) k <| se (w_store TT_ok k k k k k k k k) k <| sn <| tn <| ac_ent (t := mkS [(1, .sc w1_0), (2, .ptr 0 0 0), (6, .own 4 0 v6.1.length), (7, .bl v6.2), (8, .ptr 7 0 0)] [(0, ⟨3, [[.int a0.n, .sc w0_1, .sc w0_2]]⟩), (4, ⟨1, List.map (ow eI) v6.1⟩), (5, ⟨1, List.map (ow eI) v7.src⟩), (6, ⟨1, List.map (ow eI) v7.tgt⟩), (7, ⟨3, [[.int v7.n, .own 5 0 v7.src.length, .own 6 0 v7.tgt.length]]⟩)] 8 [8, 9, 10, 11, 12, 13, 14, 15, 16, 17, 18] ⟨0, true, fxW W, true⟩) (ent_mk (σ := sg [(0, 0), (4, 4), (5, 5), (6, 6), (7, 7)]) ⟨(e1 k k), (pE k k), (oE k k), (e1 k k), (pE k k), trivial⟩ (hP k k k k <| hI k k k <| hI k k k <| hI k k k <| hX ⟨_, k, k, .inr ⟨_, _, k, ⟨_, _, k, k, ⟨_, _, k, ⟨k, k, k, k⟩, ⟨_, _, k, ⟨k, k, k, k⟩, k⟩⟩⟩, k⟩⟩ k <| trivial) k) ?_
   refine sQ <| rgS <| se (eff_move k) k ?_
   obtain ⟨v8, hv8, h⟩ := ob h
   refine se (AEff.conv (w_call0K (x := .own 8 0 (List.map eI v8).length) (nb := [(8, ⟨1, absEs (List.map eI v8)⟩)]) (c_laws_toIntS a1 v8 hv8) k (by rfl) k k (okI.good _) (vk_cons (.inr (raw_d k r1_0)) vk_nil)) (v' := .own 8 0 v8.length) (ed' := [(8, some ⟨1, List.map (ow eI) v8⟩)]) (by simp only [len_map]) (ed_ok (nb' := [(8, ⟨1, List.map (ow eI) v8⟩)]) (by simp only [abs_map]))) k <| se (eff_assign k) k <| sn <| tn <| sQ <| rgS <| se (w_load_ptr TT_ok k k k k k k k) k <| se (eff_move k) k ?_
   obtain ⟨v9, hv9, h⟩ := ob h
   refine se (AEff.conv (w_call0K (x := .tuple [.own 9 0 (List.map eI v9.1).length, .bl v9.2]) (nb := [(9, ⟨1, absEs (List.map eI v9.1)⟩)]) (c_impl_InverseTranslate v7 v8 v9 hv9) k (by rfl) k k (gB_cons (okI.good _) (gB_cons trivial gB_nil)) (vk_cons (.inl (va_agg' (v1_cons (v1_same k) (v1_cons (v1_T okI k k) (v1_cons (v1_T okI k k) v1_nil))))) (vk_cons (.inl (va_T okI k k)) vk_nil))) (v' := .tuple [.own 9 0 v9.1.length, .bl v9.2]) (ed' := [(9, some ⟨1, List.map (ow eI) v9.1⟩)]) (by simp only [len_map]) (ed_ok (nb' := [(9, ⟨1, List.map (ow eI) v9.1⟩)]) (by simp only [abs_map]))) k <| se (eff_move k) k <| se (eff_extract k k (by intro _ h; cases h)) k <| se (eff_extract k k (by intro _ h; cases h)) k <| se (eff_assign k) k <| se (eff_assign k) k <| sn <| tn <| sQ <| sQ ?_
   refine rgS <| se (eff_move k) k <| se (eff_move k) k ?_
   obtain ⟨v10, hv10, h⟩ := ob h
   refine se (w_call0sK (c_laws_eqIntS v9.1 v6.1 v10 hv10) k (vk_cons (.inl (va_T okI k k)) (vk_cons (.inl (va_T okI k k)) vk_nil))) k <| se (w_not k) k <| se (eff_move k) k ?_
   rcases cb h with ⟨q11, h⟩ | ⟨q11, h⟩
   ·refine sops_lit 47 k q11 <| sops_skip k k <| sops_skip k k <| sops_skip k k <| se (eff_pick k k) k <| sn <| tn <| ac_ent (t := mkS [(1, .sc w1_0), (2, .ptr 0 0 0), (6, .own 4 0 v6.1.length), (7, .bl v6.2), (8, .ptr 7 0 0), (9, .own 8 0 v8.length), (10, .own 9 0 v9.1.length), (11, .bl v9.2), (51, .bl true)] [(0, ⟨3, [[.int a0.n, .sc w0_1, .sc w0_2]]⟩), (4, ⟨1, List.map (ow eI) v6.1⟩), (5, ⟨1, List.map (ow eI) v7.src⟩), (6, ⟨1, List.map (ow eI) v7.tgt⟩), (7, ⟨3, [[.int v7.n, .own 5 0 v7.src.length, .own 6 0 v7.tgt.length]]⟩), (8, ⟨1, List.map (ow eI) v8⟩), (9, ⟨1, List.map (ow eI) v9.1⟩)] 10 [10, 11, 12, 13, 14, 15, 16, 17, 18] ⟨0, true, fxW W, true⟩) (ent_mk (σ := sg [(0, 0), (4, 4), (5, 5), (6, 6), (7, 7), (8, 8), (9, 9)]) ⟨(e1 k k), (pE k k), (oE k k), (e1 k k), (pE k k), (oE k k), (oE k k), (e1 k k), (e1 k k), trivial⟩ (hP k k k k <| hI k k k <| hI k k k <| hI k k k <| hX ⟨_, k, k, .inr ⟨_, _, k, ⟨_, _, k, k, ⟨_, _, k, ⟨k, k, k, k⟩, ⟨_, _, k, ⟨k, k, k, k⟩, k⟩⟩⟩, k⟩⟩ k <| hI k k k <| hI k k k <| trivial) k) <| ac_condT k k <| sQ ?_
    refine rgS <| se (eff_assign k) k <| sn <| tn <| ac_ret <| then_ret ?_
    obtain rfl := so h
    exact ret_mk k k k (fz_bl k)
   ·refine sops_lit 47 k q11 <| se (eff_move k) k <| se (eff_move k) k <| se (w_neqB (by kernel_rfl) k k) k <| se (eff_pick k k) k <| sn <| tn <| ac_ent (t := mkS [(1, .sc w1_0), (2, .ptr 0 0 0), (6, .own 4 0 v6.1.length), (7, .bl v6.2), (8, .ptr 7 0 0), (9, .own 8 0 v8.length), (10, .own 9 0 v9.1.length), (11, .bl v9.2), (51, .bl (!(v9.2 == v6.2)))] [(0, ⟨3, [[.int a0.n, .sc w0_1, .sc w0_2]]⟩), (4, ⟨1, List.map (ow eI) v6.1⟩), (5, ⟨1, List.map (ow eI) v7.src⟩), (6, ⟨1, List.map (ow eI) v7.tgt⟩), (7, ⟨3, [[.int v7.n, .own 5 0 v7.src.length, .own 6 0 v7.tgt.length]]⟩), (8, ⟨1, List.map (ow eI) v8⟩), (9, ⟨1, List.map (ow eI) v9.1⟩)] 10 [10, 11, 12, 13, 14, 15, 16, 17, 18] ⟨0, true, fxW W, true⟩) (ent_mk (σ := sg [(0, 0), (4, 4), (5, 5), (6, 6), (7, 7), (8, 8), (9, 9)]) ⟨(e1 k k), (pE k k), (oE k k), (e1 k k), (pE k k), (oE k k), (oE k k), (e1 k k), (e1 k k), trivial⟩ (hP k k k k <| hI k k k <| hI k k k <| hI k k k <| hX ⟨_, k, k, .inr ⟨_, _, k, ⟨_, _, k, k, ⟨_, _, k, ⟨k, k, k, k⟩, ⟨_, _, k, ⟨k, k, k, k⟩, k⟩⟩⟩, k⟩⟩ k <| hI k k k <| hI k k k <| trivial) k) ?_
    rcases cb h with ⟨q12, h⟩ | ⟨q12, h⟩
    ·refine ac_condT k q12 <| sQ <| rgS <| se (eff_assign k) k <| sn <| tn <| ac_ret <| then_ret ?_
     obtain rfl := so h
     exact ret_mk k k k (fz_bl k)
    ·refine ac_condF k q12 <| ac_skip <| tn <| sQ <| sQ <| ac_region_draw MIXX <| ae (w_load_ptr TT_ok k k k k k k k) k <| ae (w_load_ptr TT_ok k k k k k k k) k ?_
     obtain ⟨v13, hv13, h⟩ := ob h
     refine ae (AEff.conv (w_call0K (x := .agg [.int v13.n, .own 10 0 (List.map eI v13.src).length, .own 11 0 (List.map eI v13.tgt).length]) (nb := [(10, ⟨1, absEs (List.map eI v13.src)⟩), (11, ⟨1, absEs (List.map eI v13.tgt)⟩)]) (c_laws_toQuiver a0 v13 hv13) k (by rfl) k k (g1_cons trivial (g1_cons (okI.good _) (g1_cons (okI.good _) g1_nil))) (vk_cons (.inr (raw_cons (raw1_sc k k) (raw_cons (raw1_d k r0_1) (raw_cons (raw1_d k r0_2) raw_nil)))) vk_nil)) (v' := .agg [.int v13.n, .own 10 0 v13.src.length, .own 11 0 v13.tgt.length]) (ed' := [(10, some ⟨1, List.map (ow eI) v13.src⟩), (11, some ⟨1, List.map (ow eI) v13.tgt⟩)]) (by simp only [len_map]) (ed_ok (nb' := [(10, ⟨1, List.map (ow eI) v13.src⟩), (11, ⟨1, List.map (ow eI) v13.tgt⟩)]) (by simp only [abs_map]))) k ?_
     obtain ⟨v14, hv14, h⟩ := ob h
     refine ae (w_call0sK (c_laws_eqQuiver v7 v13 v14 hv14) k (vk_cons (.inl (va_agg' (v1_cons (v1_same k) (v1_cons (v1_T okI k k) (v1_cons (v1_T okI k k) v1_nil))))) (vk_cons (.inl (va_agg' (v1_cons (v1_same k) (v1_cons (v1_T okI k k) (v1_cons (v1_T okI k k) v1_nil))))) vk_nil))) k <| ae (w_not k) k <| an ?_
     refine ⟨by kernel_rfl, ?_⟩
     refine tn ?_
     rcases cb h with ⟨q15, h⟩ | ⟨q15, h⟩
     ·refine ac_condT k q15 <| sQ <| rgS <| se (eff_assign k) k <| sn <| tn <| ac_ret <| then_ret ?_
      obtain rfl := so h
      exact ret_mk k k k (fz_bl k)
     ·refine ac_condF k q15 <| ac_skip <| tn <| sQ <| sQ <| rgS <| se (eff_move k) k <| se (eff_move k) k ?_
      obtain ⟨v16, hv16, h⟩ := ob h
      refine se (AEff.conv (w_call0K (x := .own 12 0 (List.map eI v16).length) (nb := [(12, ⟨1, absEs (List.map eI v16)⟩)]) (c_laws_toIntS a1 v16 hv16) k (by rfl) k k (okI.good _) (vk_cons (.inr (raw_d k r1_0)) vk_nil)) (v' := .own 12 0 v16.length) (ed' := [(12, some ⟨1, List.map (ow eI) v16⟩)]) (by simp only [len_map]) (ed_ok (nb' := [(12, ⟨1, List.map (ow eI) v16⟩)]) (by simp only [abs_map]))) k ?_
      obtain ⟨v17, hv17, h⟩ := ob h
      refine se (w_call0sK (c_laws_eqIntS v8 v16 v17 hv17) k (vk_cons (.inl (va_T okI k k)) (vk_cons (.inl (va_T okI k k)) vk_nil))) k <| se (w_not k) k <| sn <| tn ?_
      rcases cb h with ⟨q18, h⟩ | ⟨q18, h⟩
      ·refine ac_condT k q18 <| sQ <| rgS <| se (eff_assign k) k <| sn <| tn <| ac_ret <| then_ret ?_
       obtain rfl := so h
       exact ret_mk k k k (fz_bl k)
      ·refine ac_condF k q18 <| ac_skip <| tn <| sQ <| rgS <| se (eff_assign k) k <| sn <| tn <| sQ <| rgS ?_
       refine se (w_load_ptr TT_ok k k k k k k k) k <| se (eff_move k) k ?_
       obtain ⟨v19, hv19, h⟩ := ob h
       refine se (eff_hasE (σ := sg [(0, 5), (1, 6)]) (σ' := sg [(5, 0), (6, 1)]) (touch := [5, 6]) (news := []) (hl2 := [(5, ⟨1, List.map (ow eI) v19.1⟩), (6, ⟨1, List.map (ow eI) v19.2.1⟩)]) (n' := 13) (r2 := .int v19.2.2) (c_laws_markQuiver v7 1 v19 hv19) k k ⟨_, _, k, ⟨_, _, k, k, ⟨_, _, k, ⟨k, k, k, k⟩, ⟨_, _, k, ⟨k, k, k, k⟩, k⟩⟩⟩, ⟨_, _, k, k, k⟩⟩ ⟨⟨_, k, k, .inl ⟨k, okI.plainO _⟩⟩, k, ⟨_, k, k, .inl ⟨k, okI.plainO _⟩⟩, k, trivial⟩ k k k ⟨⟨_, k, k, .inl ⟨k, okI.plainO _⟩⟩, k, ⟨_, k, k, .inl ⟨k, okI.plainO _⟩⟩, k, trivial⟩ k k k ⟨k, okI.tame _ _, ⟨k, okI.tame _ _, trivial⟩⟩ k k) k ?_
       obtain ⟨q20, h⟩ := cg h
       obtain ⟨q21, h⟩ := cg h
       refine se (eff_assign k) k <| sn <| tn <| ac_ent (t := mkS [(1, .sc w1_0), (2, .ptr 0 0 0), (6, .own 4 0 v6.1.length), (7, .bl v6.2), (9, .own 8 0 v8.length), (10, .own 9 0 v9.1.length), (11, .bl v9.2), (12, .int v19.2.2)] [(0, ⟨3, [[.int a0.n, .sc w0_1, .sc w0_2]]⟩), (4, ⟨1, List.map (ow eI) v6.1⟩), (8, ⟨1, List.map (ow eI) v8⟩), (9, ⟨1, List.map (ow eI) v9.1⟩)] 13 [13, 14, 15, 16, 17, 18] ⟨0, true, fxW W, true⟩) (ent_mk (σ := sg [(0, 0), (4, 4), (8, 8), (9, 9)]) ⟨(e1 k k), (pE k k), (oE k k), (e1 k k), (oE k k), (oE k k), (e1 k k), (e1 k k), trivial⟩ (hP k k k k <| hI k k k <| hI k k k <| hI k k k <| trivial) k) <| sQ <| rgS <| se (eff_move k) k <| se (eff_move k) k ?_
       obtain ⟨v22, hv22, h⟩ := ob h
       refine se (eff_hasE (σ := sg [(0, 8)]) (σ' := sg [(8, 0)]) (touch := [8]) (news := []) (hl2 := [(8, ⟨1, List.map (ow eI) v22.1⟩)]) (n' := 13) (r2 := .int v22.2) (c_laws_markIntS v8 v19.2.2 v22 hv22) k k ⟨_, _, k, ⟨k, k, k, k⟩, ⟨_, _, k, k, k⟩⟩ ⟨⟨_, k, k, .inl ⟨k, okI.plainO _⟩⟩, k, trivial⟩ k k k ⟨⟨_, k, k, .inl ⟨k, okI.plainO _⟩⟩, k, trivial⟩ k k k ⟨k, okI.tame _ _, trivial⟩ k k) k ?_
       obtain ⟨q23, h⟩ := cg h
       refine se (eff_assign k) k <| sn <| tn <| sQ <| sQ <| rgS <| se (eff_move k) k <| se (w_cmp k k k) k <| se (eff_move k) k ?_
       rcases cb h with ⟨q24, h⟩ | ⟨q24, h⟩
       ·refine sops_lit 70 k q24 <| sops_skip k k <| sops_skip k k <| sops_skip k k <| sops_skip k k <| se (eff_pick k k) k <| se (eff_move k) k <| sops_skip k k <| sops_skip k k <| sops_skip k k ?_
        refine se (eff_pick k k) k <| sn <| tn <| ac_ent (t := mkS [(1, .sc w1_0), (2, .ptr 0 0 0), (6, .own 4 0 v6.1.length), (7, .bl v6.2), (10, .own 9 0 v9.1.length), (80, .bl true)] [(0, ⟨3, [[.int a0.n, .sc w0_1, .sc w0_2]]⟩), (4, ⟨1, List.map (ow eI) v6.1⟩), (9, ⟨1, List.map (ow eI) v9.1⟩)] 13 [13, 14, 15, 16, 17, 18] ⟨0, true, fxW W, true⟩) (ent_mk (σ := sg [(0, 0), (4, 4), (9, 9)]) ⟨(e1 k k), (pE k k), (oE k k), (e1 k k), (oE k k), (e1 k k), trivial⟩ (hP k k k k <| hI k k k <| hI k k k <| trivial) k) <| ac_condT k k <| sQ <| rgS <| se (eff_assign k) k <| sn <| tn ?_
        refine ac_ret <| then_ret ?_
        obtain rfl := so h
        exact ret_mk k k k (fz_bl k)
       ·refine sops_lit 70 k q24 <| se (eff_move k) k <| se (eff_move k) k ?_
        obtain ⟨v25, hv25, h⟩ := ob h
        refine se (w_call0sK (c_laws_eqIntS v9.1 v6.1 v25 hv25) k (vk_cons (.inl (va_T okI k k)) (vk_cons (.inl (va_T okI k k)) vk_nil))) k <| se (w_not k) k <| se (eff_pick k k) k <| se (eff_move k) k ?_
        rcases cb h with ⟨q26, h⟩ | ⟨q26, h⟩
        ·refine sops_lit 76 k q26 <| sops_skip k k <| sops_skip k k <| sops_skip k k <| se (eff_pick k k) k <| sn <| tn <| ac_ent (t := mkS [(1, .sc w1_0), (2, .ptr 0 0 0), (6, .own 4 0 v6.1.length), (7, .bl v6.2), (10, .own 9 0 v9.1.length), (80, .bl true)] [(0, ⟨3, [[.int a0.n, .sc w0_1, .sc w0_2]]⟩), (4, ⟨1, List.map (ow eI) v6.1⟩), (9, ⟨1, List.map (ow eI) v9.1⟩)] 13 [13, 14, 15, 16, 17, 18] ⟨0, true, fxW W, true⟩) (ent_mk (σ := sg [(0, 0), (4, 4), (9, 9)]) ⟨(e1 k k), (pE k k), (oE k k), (e1 k k), (oE k k), (e1 k k), trivial⟩ (hP k k k k <| hI k k k <| hI k k k <| trivial) k) <| ac_condT k k <| sQ ?_
         refine rgS <| se (eff_assign k) k <| sn <| tn <| ac_ret <| then_ret ?_
         obtain rfl := so h
         exact ret_mk k k k (fz_bl k)
        ·refine sops_lit 76 k q26 <| se (eff_move k) k <| se (eff_move k) k <| se (w_neqB (by kernel_rfl) k k) k <| se (eff_pick k k) k <| sn <| tn <| ac_ent (t := mkS [(1, .sc w1_0), (2, .ptr 0 0 0), (6, .own 4 0 v6.1.length), (7, .bl v6.2), (10, .own 9 0 v9.1.length), (80, .bl (!(v9.2 == v6.2)))] [(0, ⟨3, [[.int a0.n, .sc w0_1, .sc w0_2]]⟩), (4, ⟨1, List.map (ow eI) v6.1⟩), (9, ⟨1, List.map (ow eI) v9.1⟩)] 13 [13, 14, 15, 16, 17, 18] ⟨0, true, fxW W, true⟩) (ent_mk (σ := sg [(0, 0), (4, 4), (9, 9)]) ⟨(e1 k k), (pE k k), (oE k k), (e1 k k), (oE k k), (e1 k k), trivial⟩ (hP k k k k <| hI k k k <| hI k k k <| trivial) k) ?_
         rcases cb h with ⟨q27, h⟩ | ⟨q27, h⟩
         ·refine ac_condT k q27 <| sQ <| rgS <| se (eff_assign k) k <| sn <| tn <| ac_ret <| then_ret ?_
          obtain rfl := so h
          exact ret_mk k k k (fz_bl k)
         ·refine ac_condF k q27 <| ac_skip <| tn <| sQ <| rgS <| se (eff_assign k) k <| sn <| tn <| sQ <| rgS ?_
          refine se (eff_move k) k <| se (eff_move k) k ?_
          obtain ⟨v28, hv28, h⟩ := ob h
          refine se (eff_hasE (σ := sg [(0, 9)]) (σ' := sg [(9, 0)]) (touch := [9]) (news := []) (hl2 := [(9, ⟨1, List.map (ow eI) v28.1⟩)]) (n' := 13) (r2 := .int v28.2) (c_laws_markIntS v9.1 1 v28 hv28) k k ⟨_, _, k, ⟨k, k, k, k⟩, ⟨_, _, k, k, k⟩⟩ ⟨⟨_, k, k, .inl ⟨k, okI.plainO _⟩⟩, k, trivial⟩ k k k ⟨⟨_, k, k, .inl ⟨k, okI.plainO _⟩⟩, k, trivial⟩ k k k ⟨k, okI.tame _ _, trivial⟩ k k) k ?_
          obtain ⟨q29, h⟩ := cg h
          refine se (eff_assign k) k <| sn <| tn <| sQ <| rgS <| se (eff_assign k) k <| sn <| tn <| sQ <| rgS ?_
          refine se (eff_move k) k <| se (eff_move k) k ?_
          obtain ⟨v30, hv30, h⟩ := ob h
          refine se (w_call0sK (c_laws_heldIntS v28.1 1 v30 hv30) k (vk_cons (.inl (va_T okI k (by first | rfl | simp only [List.length_set, of_decide_eq_true q29]))) (vk_cons (.inl (va_same k)) vk_nil))) k <| se (eff_assign k) k <| sn <| tn <| sQ <| sQ <| rgS <| se (eff_move k) k <| se (w_cmp k k k) k <| sn ?_
          refine tn <| ac_ent (t := mkS [(1, .sc w1_0), (2, .ptr 0 0 0), (6, .own 4 0 v6.1.length), (7, .bl v6.2), (10, .own 9 0 v28.1.length), (13, .int v28.2), (14, .int v30), (88, .bl (decide (v30 < 0)))] [(0, ⟨3, [[.int a0.n, .sc w0_1, .sc w0_2]]⟩), (4, ⟨1, List.map (ow eI) v6.1⟩), (9, ⟨1, List.map (ow eI) v28.1⟩)] 13 [13, 14, 15, 16, 17, 18] ⟨0, true, fxW W, true⟩) (ent_mk (σ := sg [(0, 0), (4, 4), (9, 9)]) ⟨(e1 k k), (pE k k), (oE k k), (e1 k k), ⟨_, k, ⟨k, k, (by simp only [len_map, lA, lT, lR, lC, lN, of_decide_eq_true q29]), k⟩⟩, (e1 k k), (e1 k k), (e1 k k), trivial⟩ (hP k k k k <| hI k k k <| hI k k k <| trivial) k) ?_
          rcases cb h with ⟨q31, h⟩ | ⟨q31, h⟩
          ·refine ac_condT k q31 <| sQ <| rgS <| se (eff_assign k) k <| sn <| tn <| ac_ret <| then_ret ?_
           obtain rfl := so h
           exact ret_mk k k k (fz_bl k)
          ·refine ac_condF k q31 <| ac_skip <| tn <| sQ <| sQ <| rgS <| se (eff_move k) k <| se (eff_move k) k <| se (w_cmp k k k) k <| sn ?_
           refine tn ?_
           rcases cb h with ⟨q32, h⟩ | ⟨q32, h⟩
           ·refine ac_condT k q32 <| sQ <| rgS <| se (eff_assign k) k <| sn <| tn <| ac_ret <| then_ret ?_
            obtain rfl := so h
            exact ret_mk k k k (fz_bl k)
           ·refine ac_condF k q32 <| ac_skip <| tn <| sQ <| rgS <| se (w_load_ptr TT_ok k k k k k k k) k ?_
            obtain ⟨v33, hv33, h⟩ := ob h
            refine se (AEff.conv (w_call0K (x := .agg [.int v33.n, .own 13 0 (List.map eI v33.src).length, .own 14 0 (List.map eI v33.tgt).length]) (nb := [(13, ⟨1, absEs (List.map eI v33.src)⟩), (14, ⟨1, absEs (List.map eI v33.tgt)⟩)]) (c_laws_toQuiver a0 v33 hv33) k (by rfl) k k (g1_cons trivial (g1_cons (okI.good _) (g1_cons (okI.good _) g1_nil))) (vk_cons (.inr (raw_cons (raw1_sc k k) (raw_cons (raw1_d k r0_1) (raw_cons (raw1_d k r0_2) raw_nil)))) vk_nil)) (v' := .agg [.int v33.n, .own 13 0 v33.src.length, .own 14 0 v33.tgt.length]) (ed' := [(13, some ⟨1, List.map (ow eI) v33.src⟩), (14, some ⟨1, List.map (ow eI) v33.tgt⟩)]) (by simp only [len_map]) (ed_ok (nb' := [(13, ⟨1, List.map (ow eI) v33.src⟩), (14, ⟨1, List.map (ow eI) v33.tgt⟩)]) (by simp only [abs_map]))) k <| se (eff_move k) k ?_
            obtain ⟨v34, hv34, h⟩ := ob h
            refine se (AEff.conv (w_call0K (x := .own 15 0 (List.map eI v34).length) (nb := [(15, ⟨1, absEs (List.map eI v34)⟩)]) (c_laws_toIntS a1 v34 hv34) k (by rfl) k k (okI.good _) (vk_cons (.inr (raw_d k r1_0)) vk_nil)) (v' := .own 15 0 v34.length) (ed' := [(15, some ⟨1, List.map (ow eI) v34⟩)]) (by simp only [len_map]) (ed_ok (nb' := [(15, ⟨1, List.map (ow eI) v34⟩)]) (by simp only [abs_map]))) k ?_
            obtain ⟨v35, hv35, h⟩ := ob h
            refine se (AEff.conv (w_call0K (x := .tuple [.own 16 0 (List.map eI v35.1).length, .bl v35.2]) (nb := [(16, ⟨1, absEs (List.map eI v35.1)⟩)]) (c_impl_InverseTranslate v33 v34 v35 hv35) k (by rfl) k k (gB_cons (okI.good _) (gB_cons trivial gB_nil)) (vk_cons (.inl (va_agg' (v1_cons (v1_same k) (v1_cons (v1_T okI k k) (v1_cons (v1_T okI k k) v1_nil))))) (vk_cons (.inl (va_T okI k k)) vk_nil))) (v' := .tuple [.own 16 0 v35.1.length, .bl v35.2]) (ed' := [(16, some ⟨1, List.map (ow eI) v35.1⟩)]) (by simp only [len_map]) (ed_ok (nb' := [(16, ⟨1, List.map (ow eI) v35.1⟩)]) (by simp only [abs_map]))) k <| se (eff_move k) k <| se (eff_extract k k (by intro _ h; cases h)) k <| se (eff_extract k k (by intro _ h; cases h)) k <| se (eff_assign k) k <| se (eff_assign k) k <| sn <| tn <| ac_ent (t := mkS [(6, .own 4 0 v6.1.length), (7, .bl v6.2), (10, .own 9 0 v28.1.length), (13, .int v28.2), (15, .own 16 0 v35.1.length), (16, .bl v35.2)] [(4, ⟨1, List.map (ow eI) v6.1⟩), (9, ⟨1, List.map (ow eI) v28.1⟩), (16, ⟨1, List.map (ow eI) v35.1⟩)] 17 [17, 18] ⟨0, true, fxW W, true⟩) (ent_mk (σ := sg [(4, 4), (9, 9), (16, 16)]) ⟨(oE k k), (e1 k k), (oE k k), (e1 k k), (oE k k), (e1 k k), trivial⟩ (hI k k k <| hI k k k <| hI k k k <| trivial) k) <| sQ ?_
            refine sQ <| rgS <| se (eff_move k) k <| se (eff_move k) k ?_
            obtain ⟨v36, hv36, h⟩ := ob h
            refine se (w_call0sK (c_laws_eqIntS v35.1 v6.1 v36 hv36) k (vk_cons (.inl (va_T okI k k)) (vk_cons (.inl (va_T okI k k)) vk_nil))) k <| se (w_not k) k <| se (eff_move k) k ?_
            rcases cb h with ⟨q37, h⟩ | ⟨q37, h⟩
            ·refine sops_lit 104 k q37 <| sops_skip k k <| sops_skip k k <| sops_skip k k <| se (eff_pick k k) k <| sn <| tn <| ac_condT k k <| sQ <| rgS ?_
             refine se (eff_assign k) k <| sn <| tn <| ac_ret <| then_ret ?_
             obtain rfl := so h
             exact ret_mk k k k (fz_bl k)
            ·refine sops_lit 104 k q37 <| se (eff_move k) k <| se (eff_move k) k <| se (w_neqB (by kernel_rfl) k k) k <| se (eff_pick k k) k <| sn <| tn ?_
             rcases cb h with ⟨q38, h⟩ | ⟨q38, h⟩
             ·refine ac_condT k q38 <| sQ <| rgS <| se (eff_assign k) k <| sn <| tn <| ac_ret <| then_ret ?_
              obtain rfl := so h
              exact ret_mk k k k (fz_bl k)
             ·refine ac_condF k q38 <| ac_skip <| tn <| sQ <| rgS <| se (eff_assign k) k <| sn <| tn <| sQ <| rgS ?_
              refine se (eff_move k) k <| se (eff_move k) k ?_
              obtain ⟨v39, hv39, h⟩ := ob h
              refine se (w_call0sK (c_laws_heldIntS v28.1 1 v39 hv39) k (vk_cons (.inl (va_T okI k (by first | rfl | simp only [List.length_set, of_decide_eq_true q29]))) (vk_cons (.inl (va_same k)) vk_nil))) k <| se (eff_assign k) k <| sn <| tn <| ac_ent (t := mkS [(13, .int v28.2), (14, .int v39)] [] 17 [17, 18] ⟨0, true, fxW W, true⟩) (ent_mk (σ := sg []) ⟨(e1 k k), (e1 k k), trivial⟩ trivial k) <| sQ <| sQ <| rgS <| se (eff_move k) k <| se (w_cmp k k k) k ?_
              refine sn <| tn ?_
              rcases cb h with ⟨q40, h⟩ | ⟨q40, h⟩
              ·refine ac_condT k q40 <| sQ <| rgS <| se (eff_assign k) k <| sn <| tn <| ac_ret <| then_ret ?_
               obtain rfl := so h
               exact ret_mk k k k (fz_bl k)
              ·refine ac_condF k q40 <| ac_skip <| tn <| sQ <| sQ <| rgS <| se (eff_move k) k <| se (eff_move k) k <| se (w_cmp k k k) k <| sn ?_
               refine tn ?_
               rcases cb h with ⟨q41, h⟩ | ⟨q41, h⟩
               ·refine ac_condT k q41 <| sQ <| rgS <| se (eff_assign k) k <| sn <| tn <| ac_ret <| then_ret ?_
                obtain rfl := so h
                exact ret_mk k k k (fz_bl k)
               ·refine ac_condF k q41 <| ac_skip <| tn <| sQ <| rgS <| se (eff_assign k) k <| sn <| tn <| ac_ret ?_
                obtain rfl := so h
                exact ret_mk k k k (fz_bl k)

end Go.Proofs.Ytdhjmmnjapkmkaa
end

section
set_option linter.unusedVariables false
set_option linter.unusedSimpArgs false

namespace Go.Proofs.Ytdhjmmnjapkmkaa
open Go.RowKit
set_option linter.unusedVariables false
theorem plain_TranslateDims {q : Qv} {x : List Int} (fq : fQ q) (fx : fI x) : m_laws_FnExactTranslateDims q x = some true := by
 unfold m_laws_FnExactTranslateDims
 by_cases c1 : x.length ≤ 1048576
 ·rw [decide_eq_false (by omega), cond_false, mz_Q fq (by decide) (by decide), Option.bind_some]
  rcases falls_Q q 1048576 (by decide) (by decide) with e | ⟨e1, e2, hb⟩
  ·rw [e]; rfl
  ·rw [decide_eq_false (by omega), cond_false]
   obtain ⟨L, b, h1, h2, h3⟩ := n_Trans hb x
   have hL : bI L := by show L.length ≤ 1048576; omega
   have hx : bI x := c1
   have hq1 : q.src.length ≤ 1048576 := hb.1
   have hq2 : q.tgt.length ≤ 1048576 := hb.2.1
   have hnq : nQ q ≤ 2097152 := by unfold nQ; rw [nI_len, nI_len]; omega
   have hnx : nI x ≤ 1048576 := by rw [nI_len]; exact c1
   have hnl : nI L ≤ 5 := by rw [nI_len]; exact h3
   simp only [mt_Q hb, mt_I hx, Option.bind_some, h1, h2, me_I hL, me_I hx, me_Q hb, decide_true, beq_self_eq_true, Bool.not_true, cond_false]
   rw [mm_Q (by decide) (by omega), Option.bind_some]
   simp only [mvQ, mvI_len, decide_true, cond_true]
   rw [mm_I (by omega) (by omega), Option.bind_some]
   simp only [mvI_len, decide_true, cond_true]
   rw [decide_eq_false (by omega), cond_false, mm_I (by decide) (by omega), Option.bind_some]
   simp only [mvI_len, decide_true, cond_true]
   rw [mh_I (by decide) (by omega), Option.bind_some, Option.bind_some]
   simp only [nneg (show (0 : Int) ≤ 1 by decide), decide_true, Bool.not_true, cond_false]
 ·rw [decide_eq_true (by omega), cond_true]
theorem plain_InverseTranslate {q : Qv} {x : List Int} (fq : fQ q) (fx : fI x) : m_laws_FnExactInverseTranslate q x = some true := by
 unfold m_laws_FnExactInverseTranslate
 by_cases c1 : x.length ≤ 1048576
 ·rw [decide_eq_false (by omega), cond_false, mz_Q fq (by decide) (by decide), Option.bind_some]
  rcases falls_Q q 1048576 (by decide) (by decide) with e | ⟨e1, e2, hb⟩
  ·rw [e]; rfl
  ·rw [decide_eq_false (by omega), cond_false]
   obtain ⟨L, b, h1, h2, h3⟩ := n_InvTrans hb x
   have hL : bI L := by show L.length ≤ 1048576; omega
   have hx : bI x := c1
   have hq1 : q.src.length ≤ 1048576 := hb.1
   have hq2 : q.tgt.length ≤ 1048576 := hb.2.1
   have hnq : nQ q ≤ 2097152 := by unfold nQ; rw [nI_len, nI_len]; omega
   have hnx : nI x ≤ 1048576 := by rw [nI_len]; exact c1
   have hnl : nI L ≤ 5 := by rw [nI_len]; exact h3
   simp only [mt_Q hb, mt_I hx, Option.bind_some, h1, h2, me_I hL, me_I hx, me_Q hb, decide_true, beq_self_eq_true, Bool.not_true, cond_false]
   rw [mm_Q (by decide) (by omega), Option.bind_some]
   simp only [mvQ, mvI_len, decide_true, cond_true]
   rw [mm_I (by omega) (by omega), Option.bind_some]
   simp only [mvI_len, decide_true, cond_true]
   rw [decide_eq_false (by omega), cond_false, mm_I (by decide) (by omega), Option.bind_some]
   simp only [mvI_len, decide_true, cond_true]
   rw [mh_I (by decide) (by omega), Option.bind_some, Option.bind_some]
   simp only [nneg (show (0 : Int) ≤ 1 by decide), decide_true, Bool.not_true, cond_false]
 ·rw [decide_eq_true (by omega), cond_true]
end Go.Proofs.Ytdhjmmnjapkmkaa
end

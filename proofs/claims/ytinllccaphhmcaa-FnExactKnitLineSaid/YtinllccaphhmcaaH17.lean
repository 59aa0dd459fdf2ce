/-
  Several texts of the claim in one: each begins with its own remark.
-/
import Derived.Lib.Join
import Derived.Test.YtinllccaphhmcaaH16
section
set_option linter.unusedVariables false
set_option linter.unusedSimpArgs false

namespace Go.Proofs.Ytinllccaphhmcaa
open Go.RowKit
set_option linter.unusedVariables false
def lB (l : List UInt8) : ByteArray := ⟨l.toArray⟩
theorem lB_app (a b : List UInt8) : lB a ++ lB b = lB (a ++ b) := by
 have h : (lB a ++ lB b).data = (lB (a ++ b)).data := by
  rw [ByteArray.data_append]
  simp [lB]
 cases hx : lB a ++ lB b with
 | mk d => rw [hx] at h; simp only at h; rw [h]
theorem lB_size (l : List UInt8) : (lB l).size = l.length := by simp [lB, ByteArray.size]
theorem lB_data (l : List UInt8) : (lB l).data.toList = l := by simp [lB]
theorem eqS_lB (a b : List UInt8) : eqS (lB a) (lB b) = decide (a = b) := by
 unfold eqS
 rw [ByteArray.toList_eq, ByteArray.toList_eq, lB_data, lB_data, Bool.eq_iff_iff, beq_iff_eq, decide_eq_true_eq]
def f8 (z : Int) : UInt8 := UInt8.ofNat z.toNat
theorem bstr_lB (l : List Int) : bstr l = lB (l.map f8) := by
 have key : ∀ (l : List Int) (a : List UInt8), l.foldl (fun r n => ByteArray.push r (UInt8.ofNat n.toNat)) (lB a) = lB (a ++ l.map f8) := by
  intro l
  induction l with
  | nil => intro a; simp
  | cons z l ih =>
   intro a
   have e : (lB a).push (UInt8.ofNat z.toNat) = lB (a ++ [f8 z]) := by simp [lB, ByteArray.push, f8]
   rw [List.foldl_cons, e, ih, List.append_assoc]
   rfl
 exact key l []
def Dg (x : List Int) : Prop := ∀ a ∈ x, 0 ≤ a ∧ a ≤ 4
def dgs (x : List Int) : List UInt8 := x.map fun a => f8 (48 + a)
theorem wr8 {a : Int} (h : 0 ≤ a ∧ a ≤ 4) : IntKind.u8.wrap (wr (48 + a)) = 48 + a := by
 rw [wr_sm (by omega)]
 have : a = 0 ∨ a = 1 ∨ a = 2 ∨ a = 3 ∨ a = 4 := by omega
 rcases this with rfl | rfl | rfl | rfl | rfl <;> decide
theorem n_digits {x : List Int} (hx : Dg x) (hl : x.length ≤ 1000) : m_impl_digits x = some (lB (dgs x)) := by
 unfold m_impl_digits
 rw [decide_eq_true (by omega), decide_eq_true (by omega), Bool.and_self, cond_true, Int.toNat_natCast,
  Lp_go (s := (List.replicate x.length (0 : Int), (0 : Int))) (r := x.map fun a => 48 + a) (fun k => ((x.take k).map (fun a => 48 + a) ++ List.replicate (x.length - k) 0, (k : Int))) x.length (by simp) (fun k hk => ?_) (fun _ => ?_), Option.bind_some, bstr_lB]
 ·unfold dgs
  rw [List.map_map]
  rfl
 ·have ha := hx x[k] (List.getElem_mem hk)
  unfold m_impl_digits_L1
  simp only
  have hlen : ((x.take k).map (fun a => 48 + a)).length = k := by rw [List.length_map, List.length_take]; omega
  rw [dlt hk, cond_true, atL_nat hk, Option.bind_some, atL_nat (by rw [List.length_append, hlen, List.length_replicate]; omega), Option.bind_some, Int.max_eq_left ha.1, Int.min_eq_left (by omega), wr8 ha, Int.toNat_natCast, wr_suc hk (by omega)]
  rw [List.set_append_right _ _ (by omega), hlen, Nat.sub_self, show x.length - k = (x.length - (k + 1)) + 1 by omega, List.replicate_succ, List.set_cons_zero, List.take_succ_eq_append_getElem hk, List.map_append, List.append_assoc]
  rfl
 ·unfold m_impl_digits_L1
  simp only
  rw [dnl (Nat.le_refl _), cond_false]
  simp
theorem n_digitList {x : List Int} (hx : Dg x) (hl : x.length ≤ 1000) (h1 : 1 ≤ x.length) : m_impl_digitList x = some (lB (dgs x)) := by
 unfold m_impl_digitList
 rw [decide_eq_false (by omega), cond_false, n_digits hx hl, Option.bind_some]
theorem n_fmt {a : Int} (h : 0 ≤ a ∧ a ≤ 4) : m_spec_FormatInt a = some (lB [f8 (48 + a)]) := by
 unfold m_spec_FormatInt
 by_cases h0 : a = 0
 ·subst h0
  rfl
 ·have e1 : m_spec_FormatInt_L1 (a, (⟨#[]⟩ : ByteArray)) = some (.inl (0, lB [f8 (48 + a)])) := by
   unfold m_spec_FormatInt_L1
   simp only
   have e2 : a.tmod 10 = a := Int.tmod_eq_of_lt (by omega) (by omega)
   have e3 : a.tdiv 10 = 0 := Int.tdiv_eq_zero_of_lt (by omega) (by omega)
   rw [decide_eq_false h0, Bool.not_false, cond_true, e2, e3, decide_eq_false (by omega), cond_false, wr8 h, bstr_lB, show (⟨#[]⟩ : ByteArray) = lB [] from rfl, lB_app, lB_size, lB_size, decide_eq_true (by simp), cond_true, wr_sm (by omega)]
   rfl
  have e4 : m_spec_FormatInt_L1 (0, lB [f8 (48 + a)]) = some (.inr (lB [f8 (48 + a)])) := rfl
  rw [decide_eq_false h0, cond_false, Lp_step e1, Lp_stop e4, Option.bind_some, decide_eq_false (by omega), cond_false]
theorem n_l33 {x : List Int} (hx : Dg x) (hl : x.length ≤ 1000) : m_spec_l33Digits x = some (lB (dgs x)) := by
 unfold m_spec_l33Digits
 rw [Lp_go (s := ((⟨#[]⟩ : ByteArray), (0 : Int))) (r := lB (dgs x)) (fun k => (lB (dgs (x.take k)), (k : Int))) x.length rfl (fun k hk => ?_) (fun _ => ?_), Option.bind_some]
 ·unfold m_spec_l33Digits_L1
  simp only
  have e : dgs (x.take (k + 1)) = dgs (x.take k) ++ [f8 (48 + x[k])] := by
   unfold dgs
   rw [List.take_succ_eq_append_getElem hk, List.map_append]
   rfl
  have hd : (dgs (x.take k)).length ≤ 1000 := by unfold dgs; rw [List.length_map, List.length_take]; omega
  rw [dlt hk, cond_true, atL_nat hk, Option.bind_some, n_fmt (hx _ (List.getElem_mem hk)), Option.bind_some, lB_size, lB_size, decide_eq_true (by simp only [List.length_cons, List.length_nil]; omega), cond_true, lB_app, e, wr_suc hk (by omega)]
 ·unfold m_spec_l33Digits_L1
  simp only
  rw [dnl (Nat.le_refl _), cond_false, List.take_length]
structure Rws (R : List (List Int)) : Prop where
 len : R.length ≤ 100
 row : ∀ x ∈ R, Dg x ∧ 1 ≤ x.length ∧ x.length ≤ 5
def jn (R : List (List Int)) : List UInt8 := Lib.join (R.map dgs) [32]
theorem jn_snoc {A : List (List Int)} {x : List Int} (h : A ≠ []) : jn (A ++ [x]) = jn A ++ [32] ++ dgs x := by
 cases A with
 | nil => exact absurd rfl h
 | cons a r =>
  unfold jn
  rw [List.cons_append, List.map_cons, List.map_cons, Lib.join_cons, Lib.join_cons, List.map_append]
  simp [Lib.joinTail]
theorem jt_len : ∀ {r : List (List Int)}, (∀ x ∈ r, x.length ≤ 5) → (Lib.joinTail [32] (r.map dgs)).length ≤ 6 * r.length
 | [], _ => by simp [Lib.joinTail]
 | x :: r, h => by
  have h1 := jt_len (r := r) fun y hy => h y (by simp [hy])
  have h2 := h x (by simp)
  have h3 : (dgs x).length = x.length := by unfold dgs; rw [List.length_map]
  unfold Lib.joinTail at h1 ⊢
  simp only [List.map_cons, List.flatten_cons, List.length_append, List.length_cons, List.length_nil] at h1 ⊢
  omega
theorem jn_len {R : List (List Int)} (h : ∀ x ∈ R, x.length ≤ 5) : (jn R).length ≤ 6 * R.length := by
 cases R with
 | nil => exact Nat.zero_le _
 | cons x r =>
  have h1 := jt_len (r := r) fun y hy => h y (by simp [hy])
  have h2 := h x (by simp)
  have h3 : (dgs x).length = x.length := by unfold dgs; rw [List.length_map]
  unfold jn
  rw [List.map_cons, Lib.join_cons, List.length_append, List.length_cons]
  omega
def none4 : List UInt8 := [110, 111, 110, 101]
def dl (R : List (List Int)) : List UInt8 := if R = [] then none4 else jn R
theorem dl_len {R : List (List Int)} (h : Rws R) : (dl R).length ≤ 700 := by
 unfold dl
 split
 ·decide
 ·have := jn_len (R := R) fun x hx => (h.row x hx).2.2
  have := h.len
  omega
theorem n_dimsI {R : List (List Int)} (h : Rws R) : m_impl_dimsList R = some (lB (dl R)) := by
 have hl := h.len
 unfold m_impl_dimsList dl
 by_cases h0 : R = []
 ·subst h0
  rfl
 ·have h1 : 1 ≤ R.length := List.length_pos_iff.2 h0
  rw [decide_eq_false (by omega), cond_false, if_neg h0,
   Lp_go (s := (([] : List ByteArray), (0 : Int))) (r := R.map fun x => lB (dgs x)) (fun k => ((R.take k).map fun x => lB (dgs x), (k : Int))) R.length rfl (fun k hk => ?_) (fun _ => ?_), Option.bind_some]
  ·have hb := jn_len (R := R) fun x hx => (h.row x hx).2.2
   have e : (R.map fun x => lB (dgs x)).map (fun x => x.data.toList) = R.map dgs := by
    rw [List.map_map]
    exact List.map_congr_left fun x _ => lB_data _
   unfold m_Join joinB
   rw [e]
   show (Option.bind (bif decide ((jn R).length ≤ 140737488355328) && _ then _ else _) _) = _
   rw [decide_eq_true (by omega), decide_eq_true (by rw [List.length_map]; omega), Bool.and_self, cond_true, Option.bind_some]
   rfl
  ·obtain ⟨g1, g2, g3⟩ := h.row _ (List.getElem_mem hk)
   unfold m_impl_dimsList_L1
   simp only
   rw [dlt hk, cond_true, atL_nat hk, Option.bind_some, n_digitList g1 (by omega) g2, Option.bind_some, decide_eq_true (by simp; omega), cond_true, wr_suc hk (by omega), List.take_succ_eq_append_getElem hk, List.map_append]
   rfl
  ·unfold m_impl_dimsList_L1
   simp only
   rw [dnl (Nat.le_refl _), cond_false, List.take_length]
theorem n_dimsS {R : List (List Int)} (h : Rws R) : m_spec_l34Dims R = some (lB (dl R)) := by
 have hl := h.len
 have hb : ∀ k, (jn (R.take k)).length ≤ 600 := fun k => by
  have := jn_len (R := R.take k) fun x hx => (h.row x (List.mem_of_mem_take hx)).2.2
  rw [List.length_take] at this
  omega
 unfold m_spec_l34Dims dl
 rw [Lp_go (s := ((⟨#[]⟩ : ByteArray), (0 : Int))) (r := lB (jn R)) (fun k => (lB (jn (R.take k)), (k : Int))) R.length rfl (fun k hk => ?_) (fun _ => ?_), Option.bind_some]
 ·rw [show (⟨#[]⟩ : ByteArray) = lB [] from rfl, eqS_lB]
  by_cases h0 : R = []
  ·subst h0; rfl
  ·have hne : jn R ≠ [] := by
    cases R with
    | nil => exact absurd rfl h0
    | cons x r =>
     have := (h.row x (by simp)).2.1
     unfold jn
     rw [List.map_cons, Lib.join_cons]
     intro he
     have h2 := congrArg List.length he
     simp only [List.length_append, List.length_nil] at h2
     have h3 : (dgs x).length = x.length := by unfold dgs; rw [List.length_map]
     omega
   rw [decide_eq_false hne, cond_false, if_neg h0]
 ·obtain ⟨g1, g2, g3⟩ := h.row _ (List.getElem_mem hk)
  have hd : (dgs R[k]).length ≤ 5 := by unfold dgs; rw [List.length_map]; exact g3
  have hbk := hb k
  unfold m_spec_l34Dims_L1
  simp only
  rw [dlt hk, cond_true]
  cases k with
  | zero =>
   rw [decide_eq_false (by omega), cond_false, atL_nat hk, Option.bind_some, n_l33 g1 (by omega), Option.bind_some, lB_size, lB_size, decide_eq_true (by omega), cond_true, lB_app, wr_suc hk (by omega), List.take_succ_eq_append_getElem hk]
   simp [jn, Lib.join_one, Lib.join_nil]
  | succ k =>
   have hne : R.take (k + 1) ≠ [] := by
    intro he
    have := congrArg List.length he
    rw [List.length_take, List.length_nil] at this
    omega
   rw [decide_eq_true (by omega), cond_true, show (⟨#[32]⟩ : ByteArray) = lB [32] from rfl, lB_size, lB_size, decide_eq_true (by simp only [List.length_cons, List.length_nil]; omega), cond_true, atL_nat hk, Option.bind_some, n_l33 g1 (by omega), Option.bind_some, lB_app, lB_size, lB_size, decide_eq_true (by simp only [List.length_append, List.length_cons, List.length_nil]; omega), cond_true, lB_app, wr_suc hk (by omega), List.take_succ_eq_append_getElem hk, jn_snoc hne]
 ·unfold m_spec_l34Dims_L1
  simp only
  rw [dnl (Nat.le_refl _), cond_false, List.take_length]
theorem kn_Rt {q : Qv} {n : Nat} (H : Fin1 q n) {L : List Int} (hT : Topo q n L) : ∀ (f : Nat) {x : List Int}, J q n x → ∀ r ∈ kn q n L f x, RtQ q n r
 | 0, x, _, r, h => by cases h
 | f + 1, x, hj, r, h => by
  simp only [kn] at h
  cases hn : nnB x with
  | false => rw [hn, if_neg (by simp)] at h; cases h
  | true =>
   rw [hn, if_pos rfl] at h
   rcases List.mem_cons.1 h with rfl | h
   ·exact hj.root hn
   ·cases h1 : coxB q n L x with
    | none => rw [h1] at h; cases h
    | some y =>
     rw [h1] at h
     exact kn_Rt H hT f (by rw [coxB_fwL h1]; exact hj.next H hT) r h
theorem kn_Rws {q : Qv} {n : Nat} (H : Fin1 q n) {L : List Int} (hT : ordF q n = (L, true)) {v : Nat} (hv : v < n) : Rws (kn q n L 21 (projL q n v)) := by
 refine ⟨by have := kn_len (q := q) (n := n) (L := L) 21 (projL q n v); omega, fun x hx => ?_⟩
 have r := kn_Rt H (ordF_topo hT) 21 (proj_J H (ordF_topo hT) hv) x hx
 obtain ⟨h1, h2⟩ := H.vec r
 have n1 := H.Q.n1
 have n5 := H.Q.n5
 exact ⟨h1.2, by omega, by omega⟩
def txt (q : Qv) (n : Nat) (L : List Int) : Nat → List UInt8
 | 0 => [107, 110, 105, 116]
 | k + 1 => txt q n L k ++ ([32, 124, 32] ++ dl (kn q n L 21 (projL q n k)))
theorem txt_len {q : Qv} {n : Nat} (H : Fin1 q n) {L : List Int} (hT : ordF q n = (L, true)) : ∀ k, k ≤ n → (txt q n L k).length ≤ 4 + 703 * k
 | 0, _ => by simp [txt]
 | k + 1, hk => by
  have := txt_len H hT k (by omega)
  have := dl_len (kn_Rws H hT (v := k) (by omega))
  simp only [txt, List.length_append, List.length_cons, List.length_nil]
  omega
theorem n_line {q : Qv} (hb : bQ q) : ∃ t, m_impl_KnitLine q = some t ∧ m_spec_KnitLine q = some t := by
 rcases n_kind hb with ⟨n, H, hi, hs⟩ | ⟨k, hk, hi, hs⟩
 ·obtain ⟨L, hT⟩ := fin_ord H
  have n5 := H.Q.n5
  refine ⟨lB (txt q n L n), ?_, ?_⟩
  ·unfold m_impl_KnitLine
   rw [hi, Option.bind_some, decide_eq_true rfl, Bool.not_true, cond_false,
    Lp_go (s := ((⟨#[107, 110, 105, 116]⟩ : ByteArray), (0 : Int))) (r := lB (txt q n L n)) (fun k => (lB (txt q n L k), (k : Int))) n rfl (fun k hk => ?_) (fun _ => ?_), Option.bind_some]
   ·have hr := kn_Rws H hT hk
    have h1 := dl_len hr
    have h2 := txt_len H hT k (by omega)
    unfold m_impl_KnitLine_L1
    simp only
    rw [H.Q.n0, dlt hk, cond_true, (n_KnitRow H hi hs hT hk).1, Option.bind_some]
    simp only
    rw [n_dimsI hr, Option.bind_some, show (⟨#[32, 124, 32]⟩ : ByteArray) = lB [32, 124, 32] from rfl, lB_size, lB_size, decide_eq_true (by simp only [List.length_cons, List.length_nil]; omega), cond_true, lB_app, lB_size, lB_size, decide_eq_true (by simp only [List.length_append, List.length_cons, List.length_nil]; omega), cond_true, lB_app, wr_suc hk (by omega)]
    rfl
   ·unfold m_impl_KnitLine_L1
    simp only
    rw [H.Q.n0, dnl (Nat.le_refl _), cond_false]
  ·unfold m_spec_KnitLine
   rw [hs, Option.bind_some, decide_eq_true rfl, Bool.not_true, cond_false,
    Lp_go (s := ((⟨#[107, 110, 105, 116]⟩ : ByteArray), (0 : Int))) (r := lB (txt q n L n)) (fun k => (lB (txt q n L k), (k : Int))) n rfl (fun k hk => ?_) (fun _ => ?_), Option.bind_some]
   ·have hr := kn_Rws H hT hk
    have h1 := dl_len hr
    have h2 := txt_len H hT k (by omega)
    unfold m_spec_KnitLine_L1
    simp only
    rw [H.Q.n0, dlt hk, cond_true, (n_KnitRow H hi hs hT hk).2, Option.bind_some]
    simp only
    rw [show (⟨#[32, 124, 32]⟩ : ByteArray) = lB [32, 124, 32] from rfl, lB_size, lB_size, decide_eq_true (by simp only [List.length_cons, List.length_nil]; omega), cond_true, n_dimsS hr, Option.bind_some, lB_app, lB_size, lB_size, decide_eq_true (by simp only [List.length_append, List.length_cons, List.length_nil]; omega), cond_true, lB_app, wr_suc hk (by omega), List.append_assoc]
    rfl
   ·unfold m_spec_KnitLine_L1
    simp only
    rw [H.Q.n0, dnl (Nat.le_refl _), cond_false]
 ·refine ⟨⟨#[]⟩, ?_, ?_⟩
  ·unfold m_impl_KnitLine
   rw [hi, Option.bind_some, decide_eq_false hk, Bool.not_false, cond_true]
  ·unfold m_spec_KnitLine
   rw [hs, Option.bind_some, decide_eq_false hk, Bool.not_false, cond_true]
theorem plain_KnitLine {q : Qv} (fq : fQ q) : m_laws_FnExactKnitLine q = some true := by
 unfold m_laws_FnExactKnitLine
 rw [mz_Q fq (by decide) (by decide), Option.bind_some]
 rcases falls_Q q 1048576 (by decide) (by decide) with e | ⟨e1, e2, hb⟩
 ·rw [e]; rfl
 ·rw [decide_eq_false (by omega), cond_false]
  obtain ⟨t, h1, h2⟩ := n_line hb
  have ht : eqS t t = true := by unfold eqS; exact beq_self_eq_true _
  simp only [mt_Q hb, Option.bind_some, h1, h2, ht, me_Q hb, decide_true, Bool.not_true, cond_false]
end Go.Proofs.Ytinllccaphhmcaa
end

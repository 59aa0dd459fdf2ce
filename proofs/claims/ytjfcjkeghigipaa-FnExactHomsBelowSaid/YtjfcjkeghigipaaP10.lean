/-
  Morphisms between representations: the matrix of their equations, in impl.
-/
import Derived.Test.YtjfcjkeghigipaaP6
import Derived.Test.YtjfcjkeghigipaaP9
import Derived.Test.YtjfcjkeghigipaaZ4
namespace Go.Proofs.Ytjfcjkeghigipaa
open Go.RowKit
set_option linter.unusedVariables false

def sV (r : Rp) (i : Nat) : Nat := (r.q.src[i]?.getD 0).toNat
def tV (r : Rp) (i : Nat) : Nat := (r.q.tgt[i]?.getD 0).toNat
def aF (r : Rp) (i : Nat) : Nat → Nat → Int := fun j k => (r.maps[i]?.getD ⟨0, 0, []⟩).cells[j * dN r (sV r i) + k]?.getD 0
/-- A representation's parts as plain numbers and tables. -/
structure Rv (r : Rp) : Prop where
  hp : isF r.p = true
  n5 : r.dims.length ≤ 5
  d : ∀ k, k < r.dims.length → r.dims[k]?.getD 0 = (dN r k : Int) ∧ dN r k ≤ 4
  e6 : r.q.src.length ≤ 6
  tl : r.q.tgt.length = r.q.src.length
  ml : r.maps.length = r.q.src.length
  s : ∀ i, i < r.q.src.length → r.q.src[i]?.getD 0 = (sV r i : Int) ∧ sV r i < r.dims.length
  t : ∀ i, i < r.q.src.length → r.q.tgt[i]?.getD 0 = (tV r i : Int) ∧ tV r i < r.dims.length
  m : ∀ i, i < r.q.src.length → r.maps[i]?.getD ⟨0, 0, []⟩ = ⟨dN r (tV r i), dN r (sV r i), tabM (dN r (tV r i)) (dN r (sV r i)) (aF r i)⟩ ∧ InP r.p (dN r (tV r i)) (dN r (sV r i)) (aF r i)
theorem rv_of {r : Rp} (h : repV r = true) : Rv r := by
  obtain ⟨hp, hD, hml, hM⟩ := rep_maps h
  obtain ⟨hQ, hd1, hd2, _⟩ := dimsV_parts hD
  obtain ⟨n, hn, hn1, hn5, hq1, hq2, hq3, hq4⟩ := quivV_parts hQ
  have hdl : r.dims.length = n := by omega
  have hd : ∀ k, k < r.dims.length → r.dims[k]?.getD 0 = (dN r k : Int) ∧ dN r k ≤ 4 := by
    intro k hk
    have := hd2 _ (mem_get 0 hk)
    unfold dN
    omega
  have hs : ∀ i, i < r.q.src.length → r.q.src[i]?.getD 0 = (sV r i : Int) ∧ sV r i < r.dims.length := by
    intro i hi
    have := hq3 _ (mem_get 0 hi)
    unfold sV
    omega
  have ht : ∀ i, i < r.q.src.length → r.q.tgt[i]?.getD 0 = (tV r i : Int) ∧ tV r i < r.dims.length := by
    intro i hi
    have := hq4 _ (mem_get 0 (show i < r.q.tgt.length by omega))
    unfold tV
    omega
  refine ⟨hp, by omega, hd, hq2, by omega, hml, hs, ht, fun i hi => ?_⟩
  obtain ⟨g1, g2, g3⟩ := hM i (by omega)
  rw [show (r.q.src[i]?.getD 0).toNat = sV r i from rfl, (hd _ (hs i hi).2).1] at g2
  rw [show (r.q.tgt[i]?.getD 0).toNat = tV r i from rfl, (hd _ (ht i hi).2).1] at g3
  obtain ⟨_, a, b, F, ha, hb, he, hF⟩ := matV_parts g1
  have ea : a = dN r (tV r i) := by rw [he] at g3; simp only at g3; omega
  have eb : b = dN r (sV r i) := by rw [he] at g2; simp only at g2; omega
  have em : ∀ j k, j < a → k < b → aF r i j k = F j k := by
    intro j k hj hk
    unfold aF
    rw [he, ← eb]
    simp only
    rw [tabM_get F hj hk]; rfl
  subst ea; subst eb
  rw [he]
  refine ⟨?_, fun j k hj hk => by rw [em j k hj hk]; exact hF j k hj hk⟩
  rw [tabM_congr em]

/-- Two representations that fit. -/
structure Fit (a b : Rp) : Prop where
  ra : Rv a
  rb : Rv b
  pe : b.p = a.p
  qe : b.q = a.q
  ne : b.dims.length = a.dims.length
theorem fit_of {a b : Rp} (h1 : repV a = true) (h2 : repV b = true) (hp : a.p = b.p) (hq : a.q = b.q) : Fit a b := by
  refine ⟨rv_of h1, rv_of h2, hp.symm, hq.symm, ?_⟩
  have e1 := (dimsV_parts (rep_maps h1).2.1).2.1
  have e2 := (dimsV_parts (rep_maps h2).2.1).2.1
  rw [hq] at e1
  omega
theorem Fit.sV {a b : Rp} (h : Fit a b) (i : Nat) : sV b i = sV a i := by unfold Proofs.Ytjfcjkeghigipaa.sV; rw [h.qe]
theorem Fit.tV {a b : Rp} (h : Fit a b) (i : Nat) : tV b i = tV a i := by unfold Proofs.Ytjfcjkeghigipaa.tV; rw [h.qe]
def lV (a b : Rp) (v : Nat) : Nat := dN b v * dN a v
def lE (a b : Rp) (i : Nat) : Nat := dN b (tV a i) * dN a (sV a i)
theorem off_bd {l : Nat → Nat} {c : Nat} : ∀ {k : Nat}, (∀ i, i < k → l i ≤ c) → off l k ≤ c * k
  | 0, _ => Nat.zero_le _
  | k + 1, h => by
    have h1 := off_bd (c := c) (k := k) fun i hi => h i (by omega)
    have h2 := h k (by omega)
    show off l k + l k ≤ c * (k + 1)
    rw [Nat.mul_succ]; omega
theorem Fit.lV {a b : Rp} (h : Fit a b) {v : Nat} (hv : v < a.dims.length) : lV a b v ≤ 16 := Nat.mul_le_mul (h.rb.d v (by rw [h.ne]; exact hv)).2 (h.ra.d v hv).2
theorem Fit.lE {a b : Rp} (h : Fit a b) {i : Nat} (hi : i < a.q.src.length) : lE a b i ≤ 16 := Nat.mul_le_mul (h.rb.d _ (by rw [h.ne]; exact (h.ra.t i hi).2)).2 (h.ra.d _ (h.ra.s i hi).2).2
theorem Fit.offV {a b : Rp} (h : Fit a b) {v : Nat} (hv : v ≤ a.dims.length) : off (Proofs.Ytjfcjkeghigipaa.lV a b) v ≤ 80 := by
  have := off_bd (l := Proofs.Ytjfcjkeghigipaa.lV a b) (c := 16) (k := v) fun i hi => h.lV (by omega)
  have := h.ra.n5
  omega
theorem Fit.offE {a b : Rp} (h : Fit a b) {i : Nat} (hi : i ≤ a.q.src.length) : off (Proofs.Ytjfcjkeghigipaa.lE a b) i ≤ 96 := by
  have := off_bd (l := Proofs.Ytjfcjkeghigipaa.lE a b) (c := 16) (k := i) fun j hj => h.lE (by omega)
  have := h.ra.e6
  omega

/-! ## lists of matrices -/
theorem map_get {α : Type} {f : Nat → α} {n k : Nat} (h : k < n) : atL ((List.range n).map f) (k : Int) = some (f k) := by rw [atL_nat (by simp; exact h)]; simp
theorem snoc_map {α : Type} {f : Nat → α} {k : Nat} : (List.range k).map f ++ [f k] = (List.range (k + 1)).map f := by rw [List.range_succ, List.map_append]; rfl
theorem mz_len {a b : Nat} (ha : a ≤ 4) (hb : b ≤ 4) : a * b ≤ 1048576 := sq ha hb
theorem n_zeros {a b : Rp} (h : Fit a b) : m_impl_zeros a b = some ((List.range a.dims.length).map fun v => (⟨dN b v, dN a v, tabM (dN b v) (dN a v) fun _ _ => 0⟩ : Mt)) := by
  have n5 := h.ra.n5
  unfold m_impl_zeros
  rw [Lp_go (r := (List.range a.dims.length).map fun v => (⟨dN b v, dN a v, tabM (dN b v) (dN a v) fun _ _ => 0⟩ : Mt)) (fun k => ((List.range k).map fun v => (⟨dN b v, dN a v, tabM (dN b v) (dN a v) fun _ _ => 0⟩ : Mt), (k : Int))) a.dims.length (by simp) (fun k hk => ?_) (fun _ => ?_), Option.bind_some]
  · have hkb : k < b.dims.length := by rw [h.ne]; exact hk
    unfold m_impl_zeros_L1
    simp only
    rw [dlt hk, cond_true, atG 0 hk, Option.bind_some, atG 0 hkb, Option.bind_some, (h.ra.d k hk).1, (h.rb.d k hkb).1, n_zero (sq (h.rb.d k hkb).2 (h.ra.d k hk).2), Option.bind_some, decide_eq_true (by simp; omega), cond_true, wr_suc hk (by omega), snoc_map (f := fun v => (⟨dN b v, dN a v, tabM (dN b v) (dN a v) fun _ _ => 0⟩ : Mt))]
  · unfold m_impl_zeros_L1
    simp only
    rw [dnl (Nat.le_refl _), cond_false]
theorem n_cocycleZeros {a b : Rp} (h : Fit a b) : m_impl_cocycleZeros a b = some ((List.range a.q.src.length).map fun i => (⟨dN b (tV a i), dN a (sV a i), tabM (dN b (tV a i)) (dN a (sV a i)) fun _ _ => 0⟩ : Mt)) := by
  have e6 := h.ra.e6
  have tl := h.ra.tl
  unfold m_impl_cocycleZeros
  rw [Lp_go (r := (List.range a.q.src.length).map fun i => (⟨dN b (tV a i), dN a (sV a i), tabM (dN b (tV a i)) (dN a (sV a i)) fun _ _ => 0⟩ : Mt)) (fun k => ((List.range k).map fun i => (⟨dN b (tV a i), dN a (sV a i), tabM (dN b (tV a i)) (dN a (sV a i)) fun _ _ => 0⟩ : Mt), (k : Int))) a.q.src.length (by simp) (fun k hk => ?_) (fun _ => ?_), Option.bind_some]
  · obtain ⟨s1, s2⟩ := h.ra.s k hk
    obtain ⟨t1, t2⟩ := h.ra.t k hk
    have t3 : tV a k < b.dims.length := by rw [h.ne]; exact t2
    unfold m_impl_cocycleZeros_L1
    simp only
    rw [dlt hk, cond_true, atG 0 hk, Option.bind_some, atG 0 (by omega), Option.bind_some, t1, atG 0 t3, Option.bind_some, s1, atG 0 s2, Option.bind_some, (h.ra.d _ s2).1, (h.rb.d _ t3).1, n_zero (sq (h.rb.d _ t3).2 (h.ra.d _ s2).2), Option.bind_some, decide_eq_true (by simp; omega), cond_true, wr_suc hk (by omega), snoc_map (f := fun i => (⟨dN b (tV a i), dN a (sV a i), tabM (dN b (tV a i)) (dN a (sV a i)) fun _ _ => 0⟩ : Mt))]
  · unfold m_impl_cocycleZeros_L1
    simp only
    rw [dnl (Nat.le_refl _), cond_false]
theorem n_flat {k : Nat} {r c : Nat → Int} {l : Nat → Nat} {f : Nat → Nat → Int} (hk : k ≤ 1048576) (hl : off l k ≤ 1048576) : m_impl_flat ((List.range k).map fun v => (⟨r v, c v, (List.range (l v)).map (f v)⟩ : Mt)) = some (cat l f k) := by
  unfold m_impl_flat
  rw [Lp_go (r := cat l f k) (fun j => (cat l f j, (j : Int))) k (by simp [cat]) (fun j hj => ?_) (fun _ => ?_), Option.bind_some]
  · unfold m_impl_flat_L1
    simp only
    have h1 := @off_le l (j + 1) k hj
    have e : off l (j + 1) = off l j + l j := rfl
    rw [List.length_map, List.length_range, dlt hj, cond_true, map_get hj, Option.bind_some]
    simp only
    rw [cat_len, List.length_map, List.length_range, decide_eq_true (by omega), cond_true, wr_suc hj (by omega)]
    rfl
  · unfold m_impl_flat_L1
    simp only
    rw [List.length_map, List.length_range, dnl (Nat.le_refl _), cond_false]
theorem n_shaped {k : Nat} {r c : Nat → Int} {z : Nat → List Int} {l : Nat → Nat} {f : Nat → Nat → Int} (hk : k ≤ 1048576) (hl : off l k ≤ 1048576) (hz : ∀ v, v < k → (z v).length = l v) : m_impl_shaped ((List.range k).map fun v => (⟨r v, c v, z v⟩ : Mt)) (cat l f k) = some ((List.range k).map fun v => (⟨r v, c v, (List.range (l v)).map (f v)⟩ : Mt)) := by
  unfold m_impl_shaped
  rw [Lp_go (r := (List.range k).map fun v => (⟨r v, c v, (List.range (l v)).map (f v)⟩ : Mt)) (fun j => ((cat l f k).drop (off l j), (List.range j).map (fun v => (⟨r v, c v, (List.range (l v)).map (f v)⟩ : Mt)), (j : Int))) k (by simp [off]) (fun j hj => ?_) (fun _ => ?_), Option.bind_some]
  · unfold m_impl_shaped_L1
    simp only
    have h1 := @off_le l (j + 1) k hj
    have e : off l (j + 1) = off l j + l j := rfl
    rw [List.length_map, List.length_range, dlt hj, cond_true, map_get hj, Option.bind_some]
    simp only
    rw [hz j hj, List.length_drop, cat_len]
    simp only [Int.toNat_natCast, Int.toNat_zero, List.drop_zero, Nat.sub_zero]
    rw [cat_take hj]
    unfold m_Clone
    rw [decide_eq_true (by omega : (0 : Int) ≤ ((l j : Nat) : Int)), decide_eq_true (by omega : ((l j : Nat) : Int) ≤ ((off l k - off l j : Nat) : Int))]
    simp only [decide_true, Bool.and_self, cond_true, Int.le_refl]
    have q1 : decide (((List.range (l j)).map (f j)).length ≤ 1048576) = true := decide_eq_true (by simp only [List.length_map, List.length_range]; omega)
    have q2 : decide (((List.range j).map fun v => (⟨r v, c v, (List.range (l v)).map (f v)⟩ : Mt)).length + 1 ≤ 4294967296) = true := decide_eq_true (by simp only [List.length_map, List.length_range]; omega)
    simp only [q1, Bool.and_self, cond_true, Option.bind_some]
    rw [q2, cond_true, wr_suc hj (by omega), snoc_map (f := fun v => (⟨r v, c v, (List.range (l v)).map (f v)⟩ : Mt)), List.drop_drop, List.take_of_length_le (by simp [cat_len]; omega)]
    rfl
  · unfold m_impl_shaped_L1
    simp only
    rw [List.length_map, List.length_range, dnl (Nat.le_refl _), cond_false]
theorem n_plus {p : Int} (hp : isF p = true) {r c : Nat} (hN : r * c ≤ 1048576) {r' c' : Int} {F G : Nat → Nat → Int} (hF : InP p r c F) (hG : InP p r c G) {k : Int} (hk : 0 ≤ k ∧ k ≤ 5) :
    m_impl_plus p ⟨r, c, tabM r c F⟩ k ⟨r', c', tabM r c G⟩ = some ⟨r, c, tabM r c fun i j => (F i j + k * G i j) % p⟩ := by
  have e1 : ∀ H : Nat → Nat → Int, tabM r c H = tabM 1 (r * c) (fun _ y => H (y / c) (y % c)) := by
    intro H
    unfold tabM
    rw [Nat.one_mul]
    refine List.map_congr_left fun y hy => ?_
    rw [Nat.mod_eq_of_lt (List.mem_range.1 hy)]
  have e2 : tabM r c G = rowL (r * c) (fun y => G (y / c) (y % c)) := rfl
  unfold m_impl_plus m_impl_Matrix_clone m_Clone
  simp only
  rw [tabM_len, decide_eq_true hN, cond_true, Option.bind_some, Option.bind_some]
  simp only
  have := n_addMul hp (r := 1) (c := r * c) (i := 0) hN (by omega) (F := fun _ y => F (y / c) (y % c)) (g := fun y => G (y / c) (y % c)) hk (fun y hy => hF _ _ (divmod hy).1 (divmod hy).2) (fun y hy => hG _ _ (divmod hy).1 (divmod hy).2)
  rw [Nat.zero_mul, ← e2, ← e1] at this
  rw [tabM_len, this, Option.bind_some, tabM_len, Nat.one_mul, decide_eq_true rfl, cond_true, e1 (fun i j => (F i j + k * G i j) % p)]
  congr 2
  refine tabM_congr fun a y ha hy => ?_
  unfold addF
  rw [if_pos (by omega)]
/-- The coboundary's number at row r, column k of an arrow. -/
def cobF (a b : Rp) (P : Nat → Nat → Nat → Int) (i : Nat) : Nat → Nat → Int := fun r k =>
  (mulF a.p (dN b (sV a i)) (aF b i) (P (sV a i)) r k + (a.p - 1) * mulF a.p (dN a (tV a i)) (P (tV a i)) (aF a i) r k) % a.p
theorem n_coboundary {a b : Rp} (h : Fit a b) {P : Nat → Nat → Nat → Int} (hP : ∀ v, v < a.dims.length → InP a.p (dN b v) (dN a v) (P v)) :
    m_impl_coboundary a b ((List.range a.dims.length).map fun v => (⟨dN b v, dN a v, tabM (dN b v) (dN a v) (P v)⟩ : Mt)) = some ((List.range a.q.src.length).map fun i => (⟨dN b (tV a i), dN a (sV a i), tabM (dN b (tV a i)) (dN a (sV a i)) (cobF a b P i)⟩ : Mt)) := by
  have e6 := h.ra.e6
  have tl := h.ra.tl
  have hb := isF_bd h.ra.hp
  unfold m_impl_coboundary
  rw [Lp_go (r := (List.range a.q.src.length).map fun i => (⟨dN b (tV a i), dN a (sV a i), tabM (dN b (tV a i)) (dN a (sV a i)) (cobF a b P i)⟩ : Mt)) (fun k => ((List.range k).map fun i => (⟨dN b (tV a i), dN a (sV a i), tabM (dN b (tV a i)) (dN a (sV a i)) (cobF a b P i)⟩ : Mt), (k : Int))) a.q.src.length (by simp) (fun k hk => ?_) (fun _ => ?_), Option.bind_some]
  · obtain ⟨s1, s2⟩ := h.ra.s k hk
    obtain ⟨t1, t2⟩ := h.ra.t k hk
    have s3 : sV a k < b.dims.length := by rw [h.ne]; exact s2
    have t3 : tV a k < b.dims.length := by rw [h.ne]; exact t2
    have hkb : k < b.q.src.length := by rw [h.qe]; exact hk
    obtain ⟨m1, m2⟩ := h.ra.m k hk
    obtain ⟨g1, g2⟩ := h.rb.m k hkb
    rw [h.sV, h.tV] at g1 g2
    rw [h.pe] at g2
    have da := h.ra.d _ s2
    have da2 := h.ra.d _ t2
    have db := h.rb.d _ s3
    have db2 := h.rb.d _ t3
    unfold m_impl_coboundary_L1
    simp only
    rw [dlt hk, cond_true, atG 0 hk, Option.bind_some, atG ⟨0, 0, []⟩ (by rw [h.rb.ml]; exact hkb), Option.bind_some, g1, s1, map_get s2, Option.bind_some]
    rw [n_times h.ra.hp (sq db2.2 db.2) (sq db.2 da.2) (sq db2.2 da.2) (by omega) (by omega) (by omega) g2 (hP _ s2), Option.bind_some, atG 0 (by omega), Option.bind_some, t1, map_get t2, Option.bind_some, atG ⟨0, 0, []⟩ (by rw [h.ra.ml]; exact hk), Option.bind_some, m1]
    rw [n_times h.ra.hp (sq db2.2 da2.2) (sq da2.2 da.2) (sq db2.2 da.2) (by omega) (by omega) (by omega) (hP _ t2) m2, Option.bind_some, wr_sm (by omega)]
    rw [n_plus h.ra.hp (sq db2.2 da.2) (mulF_in h.ra.hp _ _ _ _ _) (mulF_in h.ra.hp _ _ _ _ _) (by omega), Option.bind_some, decide_eq_true (by simp; omega), cond_true, wr_suc hk (by omega)]
    have := snoc_map (f := fun i => (⟨dN b (tV a i), dN a (sV a i), tabM (dN b (tV a i)) (dN a (sV a i)) (cobF a b P i)⟩ : Mt)) (k := k)
    rw [← this]
    rfl
  · unfold m_impl_coboundary_L1
    simp only
    rw [dnl (Nat.le_refl _), cond_false]
theorem n_fromColumns {R N : Nat} (hN : R * N ≤ 1048576) (h1 : R ≤ 1048576) (h2 : N ≤ 1048576) (M : Nat → Nat → Int) : m_impl_fromColumns R ((List.range N).map fun k => rowL R fun i => M i k) = some ⟨R, N, tabM R N M⟩ := by
  unfold m_impl_fromColumns
  rw [List.length_map, List.length_range, n_zero hN, Option.bind_some]
  simp only
  rw [Lp_go (r := tabM R N M) (fun k => (tabM R N (fun i j => if j < k then M i j else 0), (k : Int))) N (by simp) (fun k hk => ?_) (fun _ => ?_), Option.bind_some]
  · unfold m_impl_fromColumns_L1
    simp only
    rw [List.length_map, List.length_range, dlt hk, cond_true, map_get hk, Option.bind_some]
    rw [Lp_go (r := tabM R N (fun i j => if j < k + 1 then M i j else 0)) (fun x => (tabM R N (fun i j => if j < k ∨ (j = k ∧ i < x) then M i j else 0), (x : Int))) R (by simp) (fun x hx => ?_) (fun _ => ?_), Option.bind_some, wr_suc hk (by omega)]
    · unfold m_impl_fromColumns_L2
      simp only
      rw [rowL_len, dlt hx, cond_true, rowL_at _ hx, Option.bind_some, atT hN hx hk, Option.bind_some, setT hN hx hk, wr_suc hx (by omega)]
      congr 3
      refine tabM_congr fun i j hi hj => ?_
      simp only [setF]
      by_cases e : i = x ∧ j = k
      · rw [if_pos e, if_pos (by omega), e.1, e.2]
      · rw [if_neg e]
        by_cases e2 : j < k ∨ j = k ∧ i < x
        · rw [if_pos e2, if_pos (by omega)]
        · rw [if_neg e2, if_neg (by omega)]
    · unfold m_impl_fromColumns_L2
      simp only
      rw [rowL_len, dnl (Nat.le_refl _), cond_false]
      congr 2
      refine tabM_congr fun i j hi hj => ?_
      by_cases e : j < k + 1
      · rw [if_pos e, if_pos (by omega)]
      · rw [if_neg e, if_neg (by omega)]
  · unfold m_impl_fromColumns_L1
    simp only
    rw [List.length_map, List.length_range, dnl (Nat.le_refl _), cond_false]
    congr 2
    exact tabM_congr fun i j hi hj => by rw [if_pos hj]

/-! ## the matrix of the equations -/
def eF (a b : Rp) (i r k v j l : Nat) : Int := ((if sV a i = v ∧ k = l then aF b i r j else 0) - (if tV a i = v ∧ r = j then aF a i l k else 0)) % a.p
def e2 (a b : Rp) (i y v z : Nat) : Int := eF a b i (y / dN a (sV a i)) (y % dN a (sV a i)) v (z / dN a v) (z % dN a v)
def mE (a b : Rp) : Nat → Nat → Int := fun x k => (cat (lE a b) (fun i y => (cat (lV a b) (e2 a b i y) a.dims.length)[k]?.getD 0) a.q.src.length)[x]?.getD 0
def nE (a b : Rp) : Nat := off (lE a b) a.q.src.length
def nV (a b : Rp) : Nat := off (lV a b) a.dims.length
theorem mE_in {a b : Rp} (h : Fit a b) : InP a.p (nE a b) (nV a b) (mE a b) := by
  intro x k hx hk
  obtain ⟨i, y, hi, hy, rfl⟩ := off_dec hx
  obtain ⟨v, z, hv, hz, rfl⟩ := off_dec hk
  unfold mE
  rw [cat_get _ hi hy, Option.getD_some, cat_get _ hv hz, Option.getD_some]
  exact emod_bd h.ra.hp
theorem dotS_sN (F G : Nat → Nat → Int) (i j : Nat) : ∀ k, dotS F G i j k = sN (fun t => F i t * G t j) k
  | 0 => rfl
  | k + 1 => by rw [dotS, sN, dotS_sN F G i j k]
def unP (a : Rp) (v0 z0 : Nat) : Nat → Nat → Nat → Int := fun v j l => if v = v0 ∧ j * dN a v + l = z0 then 1 else 0
theorem unP_in {a : Rp} (hp : isF a.p = true) (v0 z0 v m n : Nat) : InP a.p m n (unP a v0 z0 v) := by
  have hb := isF_bd hp
  intro i j _ _
  unfold unP
  split <;> omega
theorem cob_unit {a b : Rp} (h : Fit a b) {v0 z0 i r k : Nat} (hv : v0 < a.dims.length) (hz : z0 < lV a b v0) (hi : i < a.q.src.length) (hr : r < dN b (tV a i)) (hk : k < dN a (sV a i)) :
    cobF a b (unP a v0 z0) i r k = eF a b i r k v0 (z0 / dN a v0) (z0 % dN a v0) := by
  have hb := isF_bd h.ra.hp
  obtain ⟨hj0, hl0⟩ := divmod hz
  have key : ∀ v j l, l < dN a v → (v = v0 ∧ j * dN a v + l = z0 ↔ v = v0 ∧ j = z0 / dN a v0 ∧ l = z0 % dN a v0) := by
    intro v j l hl
    constructor
    · rintro ⟨rfl, rfl⟩
      exact ⟨rfl, (ix_div hl).symm, (ix_mod hl).symm⟩
    · rintro ⟨rfl, rfl, rfl⟩
      exact ⟨rfl, div_mul_mod⟩
  have e1 : mulF a.p (dN b (sV a i)) (aF b i) (unP a v0 z0 (sV a i)) r k = (if sV a i = v0 ∧ k = z0 % dN a v0 then aF b i r (z0 / dN a v0) else 0) % a.p := by
    unfold mulF
    rw [dotS_sN]
    by_cases e : sV a i = v0 ∧ k = z0 % dN a v0
    · rw [if_pos e, sN_one (j := z0 / dN a v0) (by rw [e.1]; exact hj0)]
      · unfold unP
        rw [if_pos ((key _ _ _ hk).2 ⟨e.1, rfl, e.2⟩), Int.mul_one]
      · intro t ht htj
        unfold unP
        rw [if_neg fun g => htj ((key _ _ _ hk).1 g).2.1, Int.mul_zero]
    · rw [if_neg e, sN_congr (g := fun _ => 0), sN_zero]
      intro t ht
      unfold unP
      rw [if_neg fun g => e ⟨((key _ _ _ hk).1 g).1, ((key _ _ _ hk).1 g).2.2⟩, Int.mul_zero]
  have e2 : mulF a.p (dN a (tV a i)) (unP a v0 z0 (tV a i)) (aF a i) r k = (if tV a i = v0 ∧ r = z0 / dN a v0 then aF a i (z0 % dN a v0) k else 0) % a.p := by
    unfold mulF
    rw [dotS_sN]
    by_cases e : tV a i = v0 ∧ r = z0 / dN a v0
    · rw [if_pos e, sN_one (j := z0 % dN a v0) (by rw [e.1]; exact hl0)]
      · unfold unP
        rw [if_pos ((key _ _ _ (by rw [e.1]; exact hl0)).2 ⟨e.1, e.2, rfl⟩), Int.one_mul]
      · intro t ht htj
        unfold unP
        rw [if_neg fun g => htj ((key _ _ _ ht).1 g).2.2, Int.zero_mul]
    · rw [if_neg e, sN_congr (g := fun _ => 0), sN_zero]
      intro t ht
      unfold unP
      rw [if_neg fun g => e ⟨((key _ _ _ ht).1 g).1, ((key _ _ _ ht).1 g).2.1⟩, Int.zero_mul]
  unfold cobF eF
  rw [e1, e2]
  generalize (if sV a i = v0 ∧ k = z0 % dN a v0 then aF b i r (z0 / dN a v0) else 0) = x
  generalize (if tV a i = v0 ∧ r = z0 / dN a v0 then aF a i (z0 % dN a v0) k else 0) = y
  rw [show x % a.p + (a.p - 1) * (y % a.p) = (x % a.p - y % a.p) + a.p * (y % a.p) by rw [Int.sub_mul]; omega, Int.add_mul_emod_self_left]
  exact (Int.sub_emod x y a.p).symm
theorem n_boundaries {a b : Rp} (h : Fit a b) : m_impl_boundaries a b = some ⟨nE a b, nV a b, tabM (nE a b) (nV a b) (mE a b)⟩ := by
  have n5 := h.ra.n5
  have e6 := h.ra.e6
  have bV := h.offV (Nat.le_refl _)
  have bE := h.offE (Nat.le_refl _)
  unfold m_impl_boundaries
  rw [n_zeros h, Option.bind_some]
  have z1 : m_impl_flat ((List.range a.dims.length).map fun v => (⟨dN b v, dN a v, tabM (dN b v) (dN a v) fun _ _ => 0⟩ : Mt)) = some (cat (lV a b) (fun _ _ => 0) a.dims.length) := n_flat (l := lV a b) (f := fun _ _ => 0) (by omega) (by omega)
  have z2 : m_impl_flat ((List.range a.q.src.length).map fun i => (⟨dN b (tV a i), dN a (sV a i), tabM (dN b (tV a i)) (dN a (sV a i)) fun _ _ => 0⟩ : Mt)) = some (cat (lE a b) (fun _ _ => 0) a.q.src.length) := n_flat (l := lE a b) (f := fun _ _ => 0) (by omega) (by omega)
  rw [z1, Option.bind_some]
  rw [Lp_go (r := (List.range (nV a b)).map fun k => rowL (nE a b) fun x => mE a b x k) (fun k => ((List.range k).map (fun k => rowL (nE a b) fun x => mE a b x k), (k : Int))) (nV a b) (by simp) (fun k hk => ?_) (fun _ => ?_), Option.bind_some, n_cocycleZeros h, Option.bind_some, z2, Option.bind_some, cat_len]
  · have := n_fromColumns (R := nE a b) (N := nV a b) (Nat.le_trans (Nat.mul_le_mul bE bV) (by decide)) (by unfold nE; omega) (by unfold nV; omega) (mE a b)
    unfold nE at this ⊢
    rw [this, Option.bind_some]
  · obtain ⟨v0, z0, hv0, hz0, ek⟩ := off_dec hk
    unfold m_impl_boundaries_L1
    simp only [cat_len]
    rw [show off (lV a b) a.dims.length = nV a b from rfl, dlt hk, cond_true, decide_eq_true (by omega), decide_eq_true (by unfold nV; omega : ((nV a b : Nat) : Int) ≤ 1048576), Bool.and_self, cond_true, Int.toNat_natCast, Int.toNat_natCast, atL_nat (by simp; exact hk), Option.bind_some]
    have eu : (List.replicate (nV a b) (0 : Int)).set k 1 = cat (lV a b) (fun v z => if v = v0 ∧ z = z0 then 1 else 0) a.dims.length := by
      unfold nV
      rw [cat_zero, ek, cat_set hv0 hz0]
    rw [eu, n_shaped (l := lV a b) (r := fun v => (dN b v : Int)) (c := fun v => (dN a v : Int)) (z := fun v => tabM (dN b v) (dN a v) fun _ _ => 0) (by omega) (by omega) (fun v _ => tabM_len _ _ _), Option.bind_some]
    have eb : ((List.range a.dims.length).map fun v => (⟨dN b v, dN a v, (List.range (lV a b v)).map (fun z => if v = v0 ∧ z = z0 then (1 : Int) else 0)⟩ : Mt)) = (List.range a.dims.length).map fun v => (⟨dN b v, dN a v, tabM (dN b v) (dN a v) (unP a v0 z0 v)⟩ : Mt) := by
      refine List.map_congr_left fun v hv => ?_
      congr 1
      refine tab_of fun y hy => ?_
      unfold unP
      rw [div_mul_mod]
    rw [eb, n_coboundary h (fun v _ => unP_in h.ra.hp _ _ _ _ _), Option.bind_some]
    have ef : m_impl_flat ((List.range a.q.src.length).map fun i => (⟨dN b (tV a i), dN a (sV a i), tabM (dN b (tV a i)) (dN a (sV a i)) (cobF a b (unP a v0 z0) i)⟩ : Mt)) = some (cat (lE a b) (fun i y => cobF a b (unP a v0 z0) i (y / dN a (sV a i)) (y % dN a (sV a i))) a.q.src.length) := n_flat (l := lE a b) (f := fun i y => cobF a b (unP a v0 z0) i (y / dN a (sV a i)) (y % dN a (sV a i))) (by omega) (by omega)
    rw [ef, Option.bind_some, decide_eq_true (by simp; unfold nV at hk; omega), cond_true, wr_suc hk (by unfold nV; omega), ← snoc_map (f := fun k => rowL (nE a b) fun x => mE a b x k)]
    congr 5
    symm
    refine cat_ext (by rw [rowL_len]; rfl) fun i y hi hy => ?_
    have hx : off (lE a b) i + y < nE a b := off_lt hi hy
    unfold rowL
    rw [List.getElem?_map, List.getElem?_range hx, Option.map_some]
    congr 1
    obtain ⟨q1, q2⟩ := divmod hy
    rw [cob_unit h hv0 hz0 hi q1 q2]
    unfold mE
    rw [cat_get _ hi hy, Option.getD_some, ek, cat_get _ hv0 hz0, Option.getD_some]
    rfl
  · unfold m_impl_boundaries_L1
    simp only [cat_len]
    rw [show off (lV a b) a.dims.length = nV a b from rfl, dnl (Nat.le_refl _), cond_false]
theorem tb_mE {a b : Rp} (h : Fit a b) : Tb a.p (nE a b) (nV a b) (mE a b) := by
  have bV := h.offV (Nat.le_refl _)
  have bE := h.offE (Nat.le_refl _)
  exact ⟨h.ra.hp, Nat.le_trans (Nat.mul_le_mul bE bV) (by decide), by unfold nE; omega, by unfold nV; omega, mE_in h⟩
def hdim (a b : Rp) : Nat := nV a b - rkF a.p (nE a b) (nV a b) (mE a b)
theorem rk_le {p : Int} {m n : Nat} {F : Nat → Nat → Int} : rkF p m n F ≤ n := redUp_len' n
theorem n_homDim {a b : Rp} (h : Fit a b) : m_impl_homDim a b = some (hdim a b : Int) := by
  have bV := h.offV (Nat.le_refl _)
  unfold m_impl_homDim
  rw [n_boundaries h, Option.bind_some, n_implRank (tb_mE h), Option.bind_some]
  have := @rk_le a.p (nE a b) (nV a b) (mE a b)
  have e : ((redUp a.p (nE a b) (mE a b) (nV a b)).2.length) = rkF a.p (nE a b) (nV a b) (mE a b) := rfl
  simp only
  rw [e, wr_sm (by unfold nV at *; omega)]
  unfold hdim
  congr 1
  omega
end Go.Proofs.Ytjfcjkeghigipaa

/-
  Products, rests and elimination: what the models answer.
-/
import Derived.Test.YtjfcjkeghigipaaP3
namespace Go.Proofs.Ytjfcjkeghigipaa
open Go.RowKit
set_option linter.unusedVariables false

/-! ## rests -/
theorem mulb {a b : Int} (ha : 0 ≤ a ∧ a ≤ 5) (hb : 0 ≤ b ∧ b ≤ 5) : 0 ≤ a * b ∧ a * b ≤ 25 := by
  refine ⟨Int.mul_nonneg ha.1 hb.1, ?_⟩
  have := Int.mul_le_mul ha.2 hb.2 hb.1 (by decide : (0 : Int) ≤ 5)
  omega
theorem emod_bd {x p : Int} (hp : isF p = true) : 0 ≤ x % p ∧ x % p < p := by
  have := isF_bd hp
  exact ⟨Int.emod_nonneg _ (by omega), Int.emod_lt_of_pos _ (by omega)⟩
theorem n_l2Mod {p x : Int} (hp : isF p = true) (hx : -4611686018427387904 ≤ x ∧ x ≤ 4611686018427387904) : m_spec_l2Mod p x = some (x % p) := by
  have hb := isF_bd hp
  have hr := tmod_range x p (by omega)
  unfold m_spec_l2Mod
  rw [decide_eq_false (by omega), Bool.not_false, cond_true]
  rcases tmod_cases x p (by omega) with ⟨h, e⟩ | ⟨h, e⟩
  · rw [decide_eq_false (by omega), cond_false, e]
  · rw [decide_eq_true h, cond_true, wr_sm (by omega), e]
    congr 1
    omega
theorem n_reduceMod {p x : Int} (hp : isF p = true) : m_impl_ReduceMod p x = some (x % p) := by
  have hb := isF_bd hp
  have hr := tmod_range x p (by omega)
  unfold m_impl_ReduceMod
  rw [n_implF, hp, Option.bind_some, Bool.not_true, cond_false, decide_eq_false (by omega), Bool.not_false, cond_true, cond_true, wr_sm (by omega), tmod_emod _ _ (by omega)]
theorem n_powerMod {p x : Int} (hp : isF p = true) {k : Nat} (hk : k ≤ 1000) : m_impl_PowerMod p x k = some (powR p (x % p) k) := by
  have hb := isF_bd hp
  unfold m_impl_PowerMod
  rw [n_implF, hp, Option.bind_some, Bool.not_true, cond_false, n_within, inR_mk (by omega) (by omega), Option.bind_some, Bool.not_true, cond_false]
  rw [Lp_go (r := powR p (x % p) k) (fun t => (powR p (x % p) t, (t : Int))) k (by rfl) (fun t ht => ?_) (fun _ => ?_), Option.bind_some]
  · unfold m_impl_PowerMod_L1
    simp only
    have h1 := powR_bd hp (emod_bd (x := x) hp) t
    have h2 := emod_bd (x := x) hp
    have h3 := mulb (a := powR p (x % p) t) (b := x % p) (by omega) (by omega)
    rw [dlt ht, cond_true, n_reduceMod hp, Option.bind_some, decide_eq_false (by omega), Bool.not_false, cond_true, wr_suc ht (by omega), wr_sm (by omega), Int.tmod_eq_emod_of_nonneg h3.1]
    rfl
  · unfold m_impl_PowerMod_L1
    simp only
    rw [dnl (Nat.le_refl _), cond_false]
theorem n_implInv {p x : Int} (hp : isF p = true) : m_impl_InverseMod p x = some (invR p (x % p)) := by
  have hb := isF_bd hp
  unfold m_impl_InverseMod invR
  rw [n_implF, hp, Option.bind_some, Bool.not_true, cond_false, wr_sm (by omega)]
  have e : max (p - 2) 1 = (((max (p - 2) 1).toNat : Nat) : Int) := by omega
  rw [e, n_powerMod hp (by omega), Option.bind_some, Int.toNat_natCast]
theorem n_specInv {p x : Int} (hp : isF p = true) (hx : -4611686018427387904 ≤ x ∧ x ≤ 4611686018427387904) : m_spec_InverseMod p x = some (invR p (x % p)) := by
  have hb := isF_bd hp
  have h2 := emod_bd (x := x) hp
  obtain ⟨n, hn⟩ : ∃ n : Nat, p = n := ⟨p.toNat, by omega⟩
  unfold m_spec_InverseMod
  rw [Lp_search (s0 := 1) (s := 1) (n := n) (fun k : Nat => bif decide ((x % p * k) % p = 1) then some (k : Int) else none) rfl (by omega) (by omega) (fun k h1 hk => ?_) (fun _ => ?_), Option.bind_some]
  · cases e : (List.range' 1 (n - 1)).findSome? (fun k : Nat => bif decide ((x % p * k) % p = 1) then some (k : Int) else none) with
    | none =>
      rw [List.findSome?_eq_none_iff] at e
      rw [inv_miss hp h2 fun y h3 h4 h5 => ?_]; rfl
      have := e y (by simp; omega)
      rw [decide_eq_true h5] at this
      cases this
    | some i =>
      obtain ⟨k, hk, he⟩ := List.exists_of_findSome?_eq_some e
      simp at hk
      cases hd : decide ((x % p * k) % p = 1) with
      | false => rw [hd] at he; cases he
      | true =>
        rw [hd] at he
        cases he
        rw [inv_hit hp h2 (y := k) (by omega) (of_decide_eq_true hd)]; rfl
  · unfold m_spec_InverseMod_L1
    have h3 := mulb (a := x % p) (b := k) (by omega) (by omega)
    rw [decide_eq_true (by omega), cond_true, n_specF, hp, Option.bind_some, cond_true, n_l2Mod hp hx, Option.bind_some, wr_sm (by omega), n_l2Mod hp (by omega), Option.bind_some]
    cases decide (x % p * k % p = 1) <;> rfl
  · unfold m_spec_InverseMod_L1
    rw [decide_eq_false (by omega), cond_false]

/-! ## tables in models -/
theorem rowle {r c i : Nat} (hi : i < r) : (i + 1) * c ≤ r * c := Nat.mul_le_mul_right c hi
theorem ixw {r c i j : Nat} (hN : r * c ≤ 1048576) (hi : i < r) (hj : j < c) : wr (wr ((i : Int) * (c : Int)) + (j : Int)) = ((i * c + j : Nat) : Int) := wix (by have := ix_lt hi hj; omega)
theorem atT {r c i j : Nat} (hN : r * c ≤ 1048576) (hi : i < r) (hj : j < c) (F : Nat → Nat → Int) : atL (tabM r c F) (wr (wr ((i : Int) * (c : Int)) + (j : Int))) = some (F i j) := by rw [ixw hN hi hj, tabM_at F hi hj]
theorem setT {r c i j : Nat} (hN : r * c ≤ 1048576) (hi : i < r) (hj : j < c) (F : Nat → Nat → Int) (v : Int) : (tabM r c F).set (wr (wr ((i : Int) * (c : Int)) + (j : Int))).toNat v = tabM r c (setF F i j v) := by rw [ixw hN hi hj, Int.toNat_natCast, tabM_set F v hi hj]
theorem row_lo {r c i : Nat} (hN : r * c ≤ 1048576) (hi : i < r) : wr ((i : Int) * (c : Int)) = ((i * c : Nat) : Int) := wmul (by have := @rowle r c i hi; rw [Nat.succ_mul] at this; omega)
theorem row_hi {r c i : Nat} (hN : r * c ≤ 1048576) (hr : r ≤ 1048576) (hi : i < r) : wr (wr ((i : Int) + 1) * (c : Int)) = ((i * c + c : Nat) : Int) := by
  have := @rowle r c i hi
  rw [wr_suc hi (by omega), wmul (by omega), Nat.succ_mul]
def rowL (c : Nat) (f : Nat → Int) : List Int := (List.range c).map f
theorem rowL_len (c : Nat) (f : Nat → Int) : (rowL c f).length = c := by simp [rowL]
theorem rowL_at {c : Nat} (f : Nat → Int) {j : Nat} (h : j < c) : atL (rowL c f) (j : Int) = some (f j) := by rw [atL_nat (by rw [rowL_len]; exact h)]; simp [rowL]
theorem n_row {r c i : Nat} (hN : r * c ≤ 1048576) (hr : r ≤ 1048576) (hi : i < r) (F : Nat → Nat → Int) : m_impl_Matrix_row ⟨r, c, tabM r c F⟩ i = some () := by
  have := @rowle r c i hi
  rw [Nat.succ_mul] at this
  unfold m_impl_Matrix_row
  simp only
  rw [row_lo hN hi, row_hi hN hr hi, tabM_len, decide_eq_true (by omega), decide_eq_true (by omega : ((i * c : Nat) : Int) ≤ ((i * c + c : Nat) : Int)), decide_eq_true (by omega : ((i * c + c : Nat) : Int) ≤ ((r * c : Nat) : Int))]
  rfl
theorem n_rowD {r c i : Nat} (hN : r * c ≤ 1048576) (hr : r ≤ 1048576) (hi : i < r) (F : Nat → Nat → Int) : m_rowD ⟨r, c, tabM r c F⟩ i = some (rowL c (F i)) := by
  have h := @rowle r c i hi
  rw [Nat.succ_mul] at h
  unfold m_rowD rowLo rowHi
  simp only
  rw [row_lo hN hi, row_hi hN hr hi, tabM_len, decide_eq_true (by omega), decide_eq_true (by omega : ((i * c : Nat) : Int) ≤ ((i * c + c : Nat) : Int)), decide_eq_true (by omega : ((i * c + c : Nat) : Int) ≤ ((r * c : Nat) : Int))]
  simp only [Bool.and_self, cond_true, Int.toNat_natCast]
  congr 1
  refine List.ext_getElem (by simp [tabM_len, rowL_len]; omega) fun t h1 h2 => ?_
  rw [rowL_len] at h2
  rw [List.getElem_take, List.getElem_drop]
  simp [tabM, rowL, ix_div h2, ix_mod h2]

/-! ## a row plus a multiple of another -/
def addF (p : Int) (F : Nat → Nat → Int) (i : Nat) (k : Int) (g : Nat → Int) : Nat → Nat → Int := fun a b => if a = i then (F i b + k * g b) % p else F a b
theorem gd (x : Nat) : (decide (0 ≤ (x : Int)) && true) = true := by rw [decide_eq_true (by omega)]; rfl
theorem p_ne {p : Int} (hp : isF p = true) : (!decide (p = 0)) = true := by have := isF_bd hp; rw [decide_eq_false (by omega)]; rfl
theorem n_addMul {p : Int} (hp : isF p = true) {r c i : Nat} (hc : c ≤ 1048576) (hi : i < r) {F : Nat → Nat → Int} {g : Nat → Int} {k : Int} (hk : 0 ≤ k ∧ k ≤ 5) (hF : ∀ b, b < c → 0 ≤ F i b ∧ F i b < p) (hg : ∀ b, b < c → 0 ≤ g b ∧ g b < p) :
    m_impl_addMultiple p (tabM r c F) (i * c) c k (rowL c g) = some (tabM r c (addF p F i k g)) := by
  have hb := isF_bd hp
  unfold m_impl_addMultiple
  rw [Lp_go (r := tabM r c (addF p F i k g)) (fun x => (tabM r c (fun a b => if a = i ∧ b < x then (F i b + k * g b) % p else F a b), (x : Int))) c (by simp) (fun x hx => ?_) (fun _ => ?_)]; rfl
  · have h1 := hF x hx
    have h2 := hg x hx
    have h3 := mulb hk (show 0 ≤ g x ∧ g x ≤ 5 by omega)
    unfold m_impl_addMultiple_L1
    simp only
    rw [rowL_len, dlt hx, cond_true, rowL_at _ hx, Option.bind_some, gd x, cond_true, Int.toNat_natCast, tabM_get _ hi hx, Option.bind_some, p_ne hp, cond_true, cond_true, Option.bind_some, tabM_set _ _ hi hx, wr_suc hx (by omega)]
    rw [if_neg (by omega), wr_sm (x := k * g x) (by omega), wr_sm (by omega), Int.tmod_eq_emod_of_nonneg (by omega)]
    congr 3
    refine tabM_congr fun a b ha hb => ?_
    simp only [setF]
    by_cases e1 : a = i ∧ b = x
    · obtain ⟨rfl, rfl⟩ := e1
      rw [if_pos ⟨rfl, rfl⟩, if_pos ⟨rfl, by omega⟩]
    · rw [if_neg e1]
      by_cases e2 : a = i ∧ b < x
      · rw [if_pos e2, if_pos ⟨e2.1, by omega⟩]
      · rw [if_neg e2, if_neg (by omega)]
  · unfold m_impl_addMultiple_L1
    simp only
    rw [rowL_len, dnl (Nat.le_refl _), cond_false]
    congr 2
    refine tabM_congr fun a b ha hb => ?_
    simp only [addF]
    by_cases e : a = i
    · rw [if_pos ⟨e, hb⟩, if_pos e]
    · rw [if_neg (by omega), if_neg e]
theorem n_addMul2 {p : Int} (hp : isF p = true) {r c i j : Nat} (hc : c ≤ 1048576) (hi : i < r) (hj : j < r) (hij : i ≠ j) {F : Nat → Nat → Int} {k : Int} (hk : 0 ≤ k ∧ k ≤ 5) (hF : ∀ b, b < c → 0 ≤ F i b ∧ F i b < p) (hg : ∀ b, b < c → 0 ≤ F j b ∧ F j b < p) :
    m_impl_addMultiple_same p (tabM r c F) (i * c) c k (j * c) c = some (tabM r c (addF p F i k (F j))) := by
  have hb := isF_bd hp
  unfold m_impl_addMultiple_same
  rw [Lp_go (r := tabM r c (addF p F i k (F j))) (fun x => (tabM r c (fun a b => if a = i ∧ b < x then (F i b + k * F j b) % p else F a b), (x : Int))) c (by simp) (fun x hx => ?_) (fun _ => ?_)]; rfl
  · have h1 := hF x hx
    have h2 := hg x hx
    have h3 := mulb hk (show 0 ≤ F j x ∧ F j x ≤ 5 by omega)
    unfold m_impl_addMultiple_same_L1
    simp only
    rw [dlt hx, cond_true, gd x, cond_true, Int.toNat_natCast, tabM_get _ hj hx, Option.bind_some, cond_true, tabM_get _ hi hx, Option.bind_some, p_ne hp, cond_true, cond_true, Option.bind_some, tabM_set _ _ hi hx, wr_suc hx (by omega)]
    rw [if_neg (by omega), if_neg (by omega), wr_sm (x := k * F j x) (by omega), wr_sm (by omega), Int.tmod_eq_emod_of_nonneg (by omega)]
    congr 3
    refine tabM_congr fun a b ha hb => ?_
    simp only [setF]
    by_cases e1 : a = i ∧ b = x
    · obtain ⟨rfl, rfl⟩ := e1
      rw [if_pos ⟨rfl, rfl⟩, if_pos ⟨rfl, by omega⟩]
    · rw [if_neg e1]
      by_cases e2 : a = i ∧ b < x
      · rw [if_pos e2, if_pos ⟨e2.1, by omega⟩]
      · rw [if_neg e2, if_neg (by omega)]
  · unfold m_impl_addMultiple_same_L1
    simp only
    rw [dnl (Nat.le_refl _), cond_false]
    congr 2
    refine tabM_congr fun a b ha hb => ?_
    simp only [addF]
    by_cases e : a = i
    · rw [if_pos ⟨e, hb⟩, if_pos e]
    · rw [if_neg (by omega), if_neg e]

/-! ## zero, identity, products -/
theorem zguard {r c : Nat} (hN : r * c ≤ 1048576) : (decide (0 ≤ wr ((r : Int) * (c : Int))) && decide (wr ((r : Int) * (c : Int)) ≤ 1048576)) = true := by
  rw [wmul (by omega), decide_eq_true (by omega), decide_eq_true (by omega)]; rfl
theorem n_zero {r c : Nat} (hN : r * c ≤ 1048576) : m_impl_zero r c = some ⟨r, c, tabM r c fun _ _ => 0⟩ := by
  unfold m_impl_zero
  rw [zguard hN, cond_true, wmul (by omega), Int.toNat_natCast, tabM_zero]
def unitF : Nat → Nat → Int := fun a b => if a = b then 1 else 0
theorem unit_step {n k : Nat} (hk : k < n) : tabM n n (setF (fun a b => if a = b ∧ a < k then 1 else 0) k k 1) = tabM n n (fun a b => if a = b ∧ a < k + 1 then 1 else 0) := by
  refine tabM_congr fun a b ha hb => ?_
  simp only [setF]
  by_cases e : a = k ∧ b = k
  · rw [if_pos e, if_pos (by omega)]
  · rw [if_neg e]
    by_cases e2 : a = b ∧ a < k
    · rw [if_pos e2, if_pos (by omega)]
    · rw [if_neg e2, if_neg (by omega)]

/-- A product's number, summed and then reduced. -/
def dotS (F G : Nat → Nat → Int) (i j : Nat) : Nat → Int
  | 0 => 0
  | k + 1 => dotS F G i j k + F i k * G k j
def dotR (p : Int) (F G : Nat → Nat → Int) (i j : Nat) : Nat → Int
  | 0 => 0
  | k + 1 => (dotR p F G i j k + F i k * G k j) % p
theorem dotR_eq {p : Int} (hp : isF p = true) (F G : Nat → Nat → Int) (i j : Nat) : ∀ k, dotR p F G i j k = dotS F G i j k % p
  | 0 => by simp [dotR, dotS]
  | k + 1 => by rw [dotR, dotS, dotR_eq hp F G i j k]; simp [Int.add_emod]
theorem dotS_bd {p : Int} (hp : isF p = true) {F G : Nat → Nat → Int} {i j : Nat} : ∀ {k : Nat}, (∀ t, t < k → 0 ≤ F i t ∧ F i t < p) → (∀ t, t < k → 0 ≤ G t j ∧ G t j < p) → 0 ≤ dotS F G i j k ∧ dotS F G i j k ≤ 25 * k
  | 0, _, _ => by simp [dotS]
  | k + 1, hF, hG => by
    have hb := isF_bd hp
    have h := dotS_bd hp (k := k) (fun t ht => hF t (by omega)) (fun t ht => hG t (by omega))
    have h1 := hF k (by omega)
    have h2 := hG k (by omega)
    have h3 := mulb (a := F i k) (b := G k j) (by omega) (by omega)
    rw [dotS]
    omega
def mulF (p : Int) (n : Nat) (F G : Nat → Nat → Int) : Nat → Nat → Int := fun i j => dotS F G i j n % p
theorem mulF_in {p : Int} (hp : isF p = true) (n : Nat) (F G : Nat → Nat → Int) (m c : Nat) : InP p m c (mulF p n F G) := fun i j _ _ => emod_bd hp
theorem n_times {p : Int} (hp : isF p = true) {r n c : Nat} (h1 : r * n ≤ 1048576) (h2 : n * c ≤ 1048576) (h3 : r * c ≤ 1048576) (hr : r ≤ 1048576) (hn : n ≤ 1048576) (hc : c ≤ 1048576) {F G : Nat → Nat → Int} (hF : InP p r n F) (hG : InP p n c G) :
    m_impl_times p ⟨r, n, tabM r n F⟩ ⟨n, c, tabM n c G⟩ = some ⟨r, c, tabM r c (mulF p n F G)⟩ := by
  have hb := isF_bd hp
  have hD : ∀ i j, dotR p F G i j n = mulF p n F G i j := fun i j => dotR_eq hp F G i j n
  unfold m_impl_times
  simp only
  rw [n_zero h3, Option.bind_some]
  simp only
  rw [Lp_go (r := tabM r c (mulF p n F G)) (fun i => (tabM r c (fun a b => if a < i then mulF p n F G a b else 0), (i : Int))) r (by simp) (fun i hi => ?_) (fun _ => ?_), Option.bind_some]
  · unfold m_impl_times_L1
    simp only
    rw [dlt hi, cond_true, n_rowD h1 hr hi, Option.bind_some]
    rw [Lp_go (r := tabM r c (fun a b => if a < i + 1 then mulF p n F G a b else 0)) (fun k => (tabM r c (fun a b => if a < i then mulF p n F G a b else if a = i then dotR p F G i b k else 0), (k : Int))) n ?_ (fun k hk => ?_) (fun _ => ?_), Option.bind_some, wr_suc hi (by omega)]
    · congr 1
      exact tabM_congr fun a b ha hb => by
        by_cases e : a < i
        · rw [if_pos e, if_pos e]
        · rw [if_neg e, if_neg e]; simp [dotR]
    · unfold m_impl_times_L2
      simp only
      have g1 := hF i k hi hk
      rw [rowL_len, dlt hk, cond_true, rowL_at _ hk, Option.bind_some, n_row h3 hr hi, Option.bind_some, n_rowD h2 hn hk, Option.bind_some, Nat.zero_add, row_lo h3 hi, row_hi h3 hr hi, Int.toNat_natCast, Int.toNat_natCast, show i * c + c - i * c = c by omega]
      rw [n_addMul hp hc hi (by omega) (fun b hb => ?_) (fun b hb => hG k b hk hb), Option.bind_some, tabM_len, tabM_len, decide_eq_true rfl, cond_true, wr_suc hk (by omega)]
      · congr 3
        refine tabM_congr fun a b ha hb => ?_
        simp only [addF]
        by_cases e : a = i
        · subst e
          simp [dotR]
        · rw [if_neg e, if_neg e, if_neg e]
      · rw [if_neg (by omega), if_pos rfl, dotR_eq hp]
        exact emod_bd hp
    · unfold m_impl_times_L2
      simp only
      rw [rowL_len, dnl (Nat.le_refl _), cond_false]
      congr 2
      refine tabM_congr fun a b ha hb => ?_
      by_cases e : a < i
      · rw [if_pos e, if_pos (by omega)]
      · by_cases e2 : a = i
        · subst e2
          rw [if_neg (by omega), if_pos rfl, if_pos (by omega), hD]
        · rw [if_neg e, if_neg e2, if_neg (by omega)]
  · unfold m_impl_times_L1
    simp only
    rw [dnl (Nat.le_refl _), cond_false]
    congr 2
    exact tabM_congr fun a b ha hb => by rw [if_pos ha]
end Go.Proofs.Ytjfcjkeghigipaa

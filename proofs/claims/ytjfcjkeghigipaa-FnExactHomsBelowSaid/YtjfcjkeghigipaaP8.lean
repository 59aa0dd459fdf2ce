/-
  Reduced bases are determined by what is orthogonal to them: plain maths.
-/
import Derived.Test.YtjfcjkeghigipaaP1
namespace Go.Proofs.Ytjfcjkeghigipaa
open Go.RowKit
set_option linter.unusedVariables false

def sN (f : Nat → Int) : Nat → Int
  | 0 => 0
  | k + 1 => sN f k + f k
theorem sN_congr {f g : Nat → Int} : ∀ {n : Nat}, (∀ k, k < n → f k = g k) → sN f n = sN g n
  | 0, _ => rfl
  | n + 1, h => by rw [sN, sN, sN_congr fun k hk => h k (by omega), h n (by omega)]
theorem sN_add (f g : Nat → Int) : ∀ n, sN (fun k => f k + g k) n = sN f n + sN g n
  | 0 => rfl
  | n + 1 => by rw [sN, sN, sN, sN_add f g n]; omega
theorem sN_mul (c : Int) (f : Nat → Int) : ∀ n, sN (fun k => c * f k) n = c * sN f n
  | 0 => by simp [sN]
  | n + 1 => by rw [sN, sN, sN_mul c f n, Int.mul_add]
theorem sN_zero : ∀ n, sN (fun _ => 0) n = 0
  | 0 => rfl
  | n + 1 => by rw [sN, sN_zero n]; rfl
theorem sN_one {f : Nat → Int} {j : Nat} : ∀ {n : Nat}, j < n → (∀ k, k < n → k ≠ j → f k = 0) → sN f n = f j
  | 0, h, _ => absurd h (Nat.not_lt_zero _)
  | n + 1, h, hz => by
    rw [sN]
    by_cases e : j = n
    · subst e
      rw [sN_congr (g := fun _ => 0) fun k hk => hz k (by omega) (by omega), sN_zero]; omega
    · rw [sN_one (j := j) (by omega) fun k hk hj => hz k (by omega) hj, hz n (by omega) (by omega)]; omega
/-- Sums modulo p. -/
def Z0 (p x : Int) : Prop := x % p = 0
theorem z0_add {p x y : Int} (h : Z0 p x) (k : Z0 p y) : Z0 p (x + y) := by unfold Z0 at *; rw [Int.add_emod, h, k]; simp
theorem z0_mul {p x : Int} (c : Int) (h : Z0 p x) : Z0 p (c * x) := by unfold Z0 at *; rw [Int.mul_emod, h]; simp
theorem z0_sN {p : Int} {f g : Nat → Int} : ∀ {n : Nat}, (∀ k, k < n → f k % p = g k % p) → sN f n % p = sN g n % p
  | 0, _ => rfl
  | n + 1, h => by rw [sN, sN, Int.add_emod, z0_sN fun k hk => h k (by omega), h n (by omega), ← Int.add_emod]
theorem z0_congr {p x y : Int} (h : x % p = y % p) (k : Z0 p x) : Z0 p y := by unfold Z0 at *; rw [← h]; exact k
def dt (n : Nat) (f x : Nat → Int) : Int := sN (fun k => f k * x k) n
/-- x is orthogonal to the first m rows of F. -/
def Kr (p : Int) (m n : Nat) (F : Nat → Nat → Int) (x : Nat → Int) : Prop := ∀ i, i < m → Z0 p (dt n (F i) x)
theorem dt_mod {p : Int} {n : Nat} {f g x : Nat → Int} (h : ∀ k, k < n → f k % p = g k % p) : dt n f x % p = dt n g x % p := by
  unfold dt
  refine z0_sN fun k hk => ?_
  rw [Int.mul_emod, h k hk, ← Int.mul_emod]
theorem dt_add {n : Nat} {f g x : Nat → Int} (c : Int) : dt n (fun k => f k + c * g k) x = dt n f x + c * dt n g x := by
  unfold dt
  rw [← sN_mul, ← sN_add]
  refine sN_congr fun k hk => ?_
  rw [Int.add_mul, Int.mul_assoc]
theorem dt_smul {n : Nat} {f x : Nat → Int} (c : Int) : dt n (fun k => c * f k) x = c * dt n f x := by
  unfold dt
  rw [← sN_mul]
  refine sN_congr fun k hk => ?_
  rw [Int.mul_assoc]

theorem ker_step {p : Int} (hp : isF p = true) {m n k r j : Nat} (hj : j < n) (hk : k < m) (hr : r < m) {F : Nat → Nat → Int} (hin : InP p m n F) (hrj : F r j ≠ 0) (x : Nat → Int) : Kr p m n (redPart p F k r j) x ↔ Kr p m n F x := by
  have hb := isF_bd hp
  have hrb := hin r j hr hj
  have hiv := inv_ok hp (r := F r j) ⟨by omega, by omega⟩
  generalize hs : invR p (F r j) = s at *
  have hrow : ∀ c, redPart p F k r j k c = (F r c * s) % p := by intro c; simp [redPart, elimF, scaleF, swapF, hs]
  have hoth : ∀ i c, i ≠ k → redPart p F k r j i c = ((if i = r then F k c else F i c) - (if i = r then F k j else F i j) * redPart p F k r j k c) % p := by
    intro i c hi
    simp [redPart, elimF, scaleF, swapF, hi, hs]
  -- what the row k gives
  have e1 : dt n (redPart p F k r j k) x % p = (s * dt n (F r) x) % p := by
    rw [← dt_smul]
    refine dt_mod fun c hc => ?_
    rw [hrow, Int.mul_comm, Int.emod_emod_of_dvd _ (Int.dvd_refl p)]
  have e2 : dt n (F r) x % p = (F r j * dt n (redPart p F k r j k) x) % p := by
    rw [← dt_smul]
    refine dt_mod fun c hc => ?_
    rw [hrow, Int.mul_emod, Int.emod_emod_of_dvd _ (Int.dvd_refl p), ← Int.mul_emod, show F r j * (F r c * s) = (F r j * s) * F r c by rw [Int.mul_comm (F r c), Int.mul_assoc], Int.mul_emod, hiv.2.2]
    simp
  have e3 : ∀ i, i ≠ k → ∀ G : Nat → Int, (∀ c, G c = if i = r then F k c else F i c) → dt n (redPart p F k r j i) x % p = (dt n G x + -(G j) * dt n (redPart p F k r j k) x) % p := by
    intro i hi G hG
    rw [← dt_add]
    refine dt_mod fun c hc => ?_
    rw [hoth i c hi, Int.emod_emod_of_dvd _ (Int.dvd_refl p), ← hG, ← hG, Int.neg_mul, Int.sub_eq_add_neg]
  constructor
  · intro h
    have hkk := h k hk
    have hrr : Z0 p (dt n (F r) x) := by unfold Z0; rw [e2]; exact z0_mul _ hkk
    have key : ∀ i, i < m → i ≠ k → Z0 p (dt n (fun c => if i = r then F k c else F i c) x) := by
      intro i hi hik
      have h1 := h i hi
      unfold Z0 at h1
      rw [e3 i hik (fun c => if i = r then F k c else F i c) (fun c => rfl)] at h1
      have h2 := z0_add (y := (if i = r then F k j else F i j) * dt n (redPart p F k r j k) x) h1 (z0_mul _ hkk)
      refine z0_congr (congrArg (· % p) ?_) h2
      rw [Int.neg_mul]; omega
    intro i hi
    by_cases e : i = r
    · subst e; exact hrr
    · by_cases e4 : i = k
      · subst e4
        have := key r hr (fun h => e h.symm)
        simpa using this
      · have := key i hi e4
        simpa [e] using this
  · intro h
    have hkk : Z0 p (dt n (redPart p F k r j k) x) := by unfold Z0; rw [e1]; exact z0_mul _ (h r hr)
    intro i hi
    by_cases e : i = k
    · subst e; exact hkk
    · unfold Z0
      rw [e3 i e (fun c => if i = r then F k c else F i c) (fun c => rfl)]
      refine z0_add ?_ (z0_mul _ hkk)
      by_cases e4 : i = r
      · simp only [e4, if_true]; exact h k hk
      · simp only [e4, if_false]; exact h i hi
/-- Elimination keeps what is orthogonal to the rows. -/
theorem ker_red {p : Int} (hp : isF p = true) {m n : Nat} {F : Nat → Nat → Int} (hin : InP p m n F) (x : Nat → Int) : ∀ t, t ≤ n → (Kr p m n (redUp p m F t).1 x ↔ Kr p m n F x)
  | 0, _ => Iff.rfl
  | t + 1, ht => by
    have ih := ker_red hp hin x t (by omega)
    have hin2 := redUp_in (by have := isF_bd hp; omega : 0 < p) hin t
    have hlen := @redUp_len p m F t
    show Kr p m n (redStep p m (redUp p m F t) t).1 x ↔ _
    unfold redStep
    split
    · exact ih
    · rename_i h1
      have hle := @pivot_le (redUp p m F t).1 t (m - (redUp p m F t).2.length) (redUp p m F t).2.length
      have hh := @pivot_hit (redUp p m F t).1 t (m - (redUp p m F t).2.length) (redUp p m F t).2.length (by omega)
      refine Iff.trans ?_ ih
      exact ker_step hp (by omega) (by omega) (by omega) hin2 hh x

/-- What belongs to a column without a leading one: 1 there, and the numbers at the leading ones. -/
def kx (F : Nat → Nat → Int) (L : List Nat) (k : Nat) : Nat → Int := fun c => if c = k then 1 else -(sN (fun i => if L[i]?.getD 0 = c then F i k else 0) L.length)
theorem inc_inj {L : List Nat} (h : ∀ i k, i < k → k < L.length → L[i]?.getD 0 < L[k]?.getD 0) {i k : Nat} (hi : i < L.length) (hk : k < L.length) (e : L[i]?.getD 0 = L[k]?.getD 0) : i = k := by
  rcases Nat.lt_trichotomy i k with h1 | h1 | h1
  · have := h i k h1 hk; omega
  · exact h1
  · have := h k i h1 hi; omega
theorem kx_at {m n : Nat} {F : Nat → Nat → Int} {L : List Nat} (h : Red m n F L) {k t : Nat} (ht : t < L.length) (hk : ∀ i, i < L.length → L[i]?.getD 0 ≠ k) : kx F L k (L[t]?.getD 0) = -F t k := by
  unfold kx
  rw [if_neg (hk t ht), sN_one (j := t) ht]
  · rw [if_pos rfl]
  · intro i hi hit
    rw [if_neg]
    intro e
    exact hit (inc_inj h.inc hi ht e)
theorem kx_off {F : Nat → Nat → Int} {L : List Nat} {k c : Nat} (hc : c ≠ k) (hL : ∀ i, i < L.length → L[i]?.getD 0 ≠ c) : kx F L k c = 0 := by
  unfold kx
  rw [if_neg hc, sN_congr (g := fun _ => 0) fun i hi => if_neg (hL i hi), sN_zero]; rfl
theorem kx_self {F : Nat → Nat → Int} {L : List Nat} {k : Nat} : kx F L k k = 1 := if_pos rfl
/-- A sum over the columns against kx. -/
theorem dt_kx {m n : Nat} {F : Nat → Nat → Int} {L : List Nat} (h : Red m n F L) {k : Nat} (hk : k < n) (hL : ∀ i, i < L.length → L[i]?.getD 0 ≠ k) (g : Nat → Int) : dt n g (kx F L k) = g k - sN (fun i => g (L[i]?.getD 0) * F i k) L.length := by
  have key : ∀ a, a ≤ L.length → sN (fun c => g c * (if c = k then 1 else -(sN (fun i => if L[i]?.getD 0 = c then F i k else 0) a))) n = g k - sN (fun i => g (L[i]?.getD 0) * F i k) a := by
    intro a
    induction a with
    | zero =>
      intro _
      rw [sN_one (j := k) hk]
      · rw [if_pos rfl]; simp [sN]
      · intro c hc hck
        rw [if_neg hck]; simp [sN]
    | succ a ih =>
      intro ha
      have ih := ih (by omega)
      have hlt := h.lt a (by omega)
      have hne := hL a (by omega)
      have e : sN (fun c => g c * (if c = k then 1 else -(sN (fun i => if L[i]?.getD 0 = c then F i k else 0) (a + 1)))) n
          = sN (fun c => g c * (if c = k then 1 else -(sN (fun i => if L[i]?.getD 0 = c then F i k else 0) a)) + (if c = L[a]?.getD 0 then -(g c * F a k) else 0)) n := by
        refine sN_congr fun c hc => ?_
        by_cases e1 : c = k
        · rw [if_pos e1, if_pos e1, if_neg (by omega)]; omega
        · rw [if_neg e1, if_neg e1]
          simp only [sN]
          by_cases e2 : c = L[a]?.getD 0
          · rw [if_pos e2, if_pos e2.symm, Int.neg_add, Int.mul_add, Int.mul_neg (g c) (F a k)]
          · rw [if_neg e2, if_neg (fun h => e2 h.symm)]; simp
      rw [e, sN_add, ih, sN_one (j := L[a]?.getD 0) hlt (fun c _ hc => if_neg hc), if_pos rfl]
      simp only [sN]
      omega
  have := key L.length (Nat.le_refl _)
  exact this
theorem kx_ker {p : Int} {m n : Nat} {F : Nat → Nat → Int} {L : List Nat} (h : Red m n F L) {k : Nat} (hk : k < n) (hL : ∀ i, i < L.length → L[i]?.getD 0 ≠ k) : Kr p m n F (kx F L k) := by
  intro i hi
  rw [dt_kx h hk hL]
  rcases Nat.lt_or_ge i L.length with hl | hl
  · rw [sN_one (j := i) hl]
    · rw [h.one i hl]
      unfold Z0
      rw [Int.one_mul, Int.sub_self]; simp
    · intro t ht hti
      rw [h.col t i ht hi (fun e => hti e.symm)]; simp
  · rw [h.low i k hl hi hk, sN_congr (g := fun _ => 0) fun t ht => by rw [h.low i _ hl hi (h.lt t ht)]; simp]
    rw [sN_zero]
    unfold Z0; simp
theorem piv_sub {p : Int} (hp : isF p = true) {m m' n : Nat} {F G : Nat → Nat → Int} {L M : List Nat} (hF : Red m n F L) (hG : Red m' n G M) (hK : ∀ x, Kr p m n F x → Kr p m' n G x) {t : Nat} (ht : t < M.length) : ∃ i, i < L.length ∧ L[i]?.getD 0 = M[t]?.getD 0 := by
  have hb := isF_bd hp
  refine Classical.byContradiction fun hn => ?_
  have hL : ∀ i, i < L.length → L[i]?.getD 0 ≠ M[t]?.getD 0 := fun i hi e => hn ⟨i, hi, e⟩
  have hk := hG.lt t ht
  have h1 := hK _ (kx_ker (p := p) hF hk hL) t (by have := hG.len; omega)
  rw [dt_kx hF hk hL, hG.one t ht, sN_congr (g := fun _ => 0) fun i hi => ?_, sN_zero] at h1
  · unfold Z0 at h1
    rw [Int.sub_zero, Int.emod_eq_of_lt (by omega) (by omega)] at h1
    cases h1
  · rcases Nat.lt_or_ge (L[i]?.getD 0) (M[t]?.getD 0) with e | e
    · rw [hG.left t _ ht e]; simp
    · have := hL i hi
      rw [hF.left i _ hi (by omega)]; simp
theorem sorted_eq : ∀ {L M : List Nat}, (∀ i k, i < k → k < L.length → L[i]?.getD 0 < L[k]?.getD 0) → (∀ i k, i < k → k < M.length → M[i]?.getD 0 < M[k]?.getD 0) → (∀ i, i < L.length → ∃ j, j < M.length ∧ M[j]?.getD 0 = L[i]?.getD 0) → (∀ j, j < M.length → ∃ i, i < L.length ∧ L[i]?.getD 0 = M[j]?.getD 0) → L = M
  | [], [], _, _, _, _ => rfl
  | [], y :: M, _, _, _, h => by obtain ⟨i, hi, _⟩ := h 0 (by simp); simp at hi
  | x :: L, [], _, _, h, _ => by obtain ⟨i, hi, _⟩ := h 0 (by simp); simp at hi
  | x :: L, y :: M, hL, hM, h1, h2 => by
    have sL : ∀ i k, i < k → k < L.length → L[i]?.getD 0 < L[k]?.getD 0 := fun i k hik hk => by have := hL (i + 1) (k + 1) (by omega) (by simp; omega); simpa using this
    have sM : ∀ i k, i < k → k < M.length → M[i]?.getD 0 < M[k]?.getD 0 := fun i k hik hk => by have := hM (i + 1) (k + 1) (by omega) (by simp; omega); simpa using this
    have xL : ∀ i, i < L.length → x < L[i]?.getD 0 := fun i hi => by have := hL 0 (i + 1) (by omega) (by simp; omega); simpa using this
    have yM : ∀ i, i < M.length → y < M[i]?.getD 0 := fun i hi => by have := hM 0 (i + 1) (by omega) (by simp; omega); simpa using this
    have exy : x = y := by
      obtain ⟨j, hj, e1⟩ := h1 0 (by simp)
      obtain ⟨i, hi, e2⟩ := h2 0 (by simp)
      simp at e1 e2
      have b1 : y ≤ x := by
        cases j with
        | zero => simp at e1; omega
        | succ j => simp at e1 hj; have := yM j hj; omega
      have b2 : x ≤ y := by
        cases i with
        | zero => simp at e2; omega
        | succ i => simp at e2 hi; have := xL i hi; omega
      omega
    subst exy
    congr 1
    refine sorted_eq sL sM (fun i hi => ?_) (fun j hj => ?_)
    · obtain ⟨j, hj, e⟩ := h1 (i + 1) (by simp; omega)
      simp at e
      have := xL i hi
      cases j with
      | zero => simp at e; omega
      | succ j => simp at e hj; exact ⟨j, hj, e⟩
    · obtain ⟨i, hi, e⟩ := h2 (j + 1) (by simp; omega)
      simp at e
      have := yM j hj
      cases i with
      | zero => simp at e; omega
      | succ i => simp at e hi; exact ⟨i, hi, e⟩
/-- Reduced matrices with the same orthogonal vectors have the same leading ones and the same rows. -/
theorem red_unique {p : Int} (hp : isF p = true) {m m' n : Nat} {F G : Nat → Nat → Int} {L M : List Nat} (hF : Red m n F L) (hG : Red m' n G M) (iF : InP p m n F) (iG : InP p m' n G) (hK : ∀ x, Kr p m n F x ↔ Kr p m' n G x) : L = M ∧ ∀ i j, i < L.length → j < n → F i j = G i j := by
  have e : L = M := sorted_eq hF.inc hG.inc (fun i hi => piv_sub hp hG hF (fun x => (hK x).2) hi) (fun j hj => piv_sub hp hF hG (fun x => (hK x).1) hj)
  subst e
  refine ⟨rfl, fun i k hi hk => ?_⟩
  have hm := hF.len
  have hm' := hG.len
  by_cases hL : ∃ t, t < L.length ∧ L[t]?.getD 0 = k
  · obtain ⟨t, ht, rfl⟩ := hL
    by_cases e : i = t
    · subst e; rw [hF.one i hi, hG.one i hi]
    · rw [hF.col t i ht (by omega) e, hG.col t i ht (by omega) e]
  · have hL : ∀ t, t < L.length → L[t]?.getD 0 ≠ k := fun t ht e => hL ⟨t, ht, e⟩
    have h1 := (hK _).1 (kx_ker (p := p) hF hk hL) i (by omega)
    rw [dt_kx hF hk hL, sN_one (j := i) hi (fun t ht hti => by rw [hG.col t i ht (by omega) (fun e => hti e.symm)]; simp), hG.one i hi, Int.one_mul] at h1
    unfold Z0 at h1
    have b1 := iF i k (by omega) hk
    have b2 := iG i k (by omega) hk
    have hd := Int.dvd_of_emod_eq_zero h1
    obtain ⟨c, hc⟩ := hd
    have hc0 : c = 0 := by
      rcases Int.lt_trichotomy c 0 with h | h | h
      · have := Int.mul_le_mul_of_nonneg_left (show c ≤ -1 by omega) (by omega : 0 ≤ p)
        omega
      · exact h
      · have := Int.mul_le_mul_of_nonneg_left (show 1 ≤ c by omega) (by omega : 0 ≤ p)
        omega
    subst hc0
    simp at hc
    omega
/-- Elimination of matrices with the same orthogonal vectors. -/
theorem redUp_unique {p : Int} (hp : isF p = true) {m m' n : Nat} {F G : Nat → Nat → Int} (iF : InP p m n F) (iG : InP p m' n G) (hK : ∀ x, Kr p m n F x ↔ Kr p m' n G x) : (redUp p m F n).2 = (redUp p m' G n).2 ∧ ∀ i j, i < (redUp p m F n).2.length → j < n → (redUp p m F n).1 i j = (redUp p m' G n).1 i j := by
  have hb := isF_bd hp
  refine red_unique hp (red_up hp iF n (Nat.le_refl _)) (red_up hp iG n (Nat.le_refl _)) (redUp_in (by omega) iF n) (redUp_in (by omega) iG n) fun x => ?_
  rw [ker_red hp iF x n (Nat.le_refl _), hK, ker_red hp iG x n (Nat.le_refl _)]
end Go.Proofs.Ytjfcjkeghigipaa

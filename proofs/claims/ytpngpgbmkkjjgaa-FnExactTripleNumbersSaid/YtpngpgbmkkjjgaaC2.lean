/-
  Contracts of functions that look for a number in a slice, and of the slopes.
-/
import Derived.Test.YtpngpgbmkkjjgaaC1
namespace Go.Proofs.Ytpngpgbmkkjjgaa
open Go.RowKit

/-- The index of the first number of which p says yes, or -1. -/
def idxOf {α : Type} (p : α → Bool) (l : List α) : Int := match l.findIdx? p with | some i => (i : Int) | none => -1

theorem idxOf_hit {α : Type} {p : α → Bool} {l : List α} {d : α} {k : Nat} (hk : k < l.length) (h : p (l[k]?.getD d) = true) (hb : ∀ j, j < k → p (l[j]?.getD d) = false) : idxOf p l = k := by
  have : l.findIdx? p = some k := by
    rw [List.findIdx?_eq_some_iff_getElem]
    refine ⟨hk, by simpa [hk] using h, fun j hj => ?_⟩
    have := hb j hj
    simp [show j < l.length by omega] at this
    simp [this]
  simp [idxOf, this]
theorem idxOf_miss {α : Type} {p : α → Bool} {l : List α} {d : α} (hb : ∀ j, j < l.length → p (l[j]?.getD d) = false) : idxOf p l = -1 := by
  have : l.findIdx? p = none := by
    rw [List.findIdx?_eq_none_iff]
    intro x hx
    obtain ⟨i, hi, rfl⟩ := List.getElem_of_mem hx
    simpa [hi] using hb i hi
  simp [idxOf, this]
theorem idxOf_any {α : Type} (p : α → Bool) (l : List α) : decide (0 ≤ idxOf p l) = l.any p := by
  unfold idxOf
  cases h : l.findIdx? p with
  | none =>
    rw [List.findIdx?_eq_none_iff] at h
    symm
    simp only [show decide ((0 : Int) ≤ -1) = false by decide]
    rw [List.any_eq_false]
    intro x hx
    simp [h x hx]
  | some i =>
    rw [List.findIdx?_eq_some_iff_getElem] at h
    obtain ⟨hi, hp, _⟩ := h
    symm
    simp only [show decide ((0 : Int) ≤ (i : Int)) = true by simp]
    exact List.any_eq_true.2 ⟨_, List.getElem_mem hi, hp⟩
theorem all_not_any {α : Type} (p : α → Bool) (l : List α) : (!l.any fun x => !p x) = l.all p := by
  induction l with
  | nil => rfl
  | cons x l ih => simp only [List.any_cons, List.all_cons, ← ih]; cases p x <;> simp
theorem all_get {α : Type} {p : α → Bool} {l : List α} {d : α} {k : Nat} (h : l.all p = true) (hk : k < l.length) : p (l[k]?.getD d) = true := by
  rw [List.all_eq_true] at h
  simpa [hk] using h _ (List.getElem_mem hk)
theorem all_of_get {α : Type} {p : α → Bool} {l : List α} (d : α) (h : ∀ k, k < l.length → p (l[k]?.getD d) = true) : l.all p = true := by
  rw [List.all_eq_true]
  intro x hx
  obtain ⟨i, hi, rfl⟩ := List.getElem_of_mem hx
  simpa [hi] using h i hi
theorem all_false_get {α : Type} {p : α → Bool} {l : List α} {d : α} {k : Nat} (hk : k < l.length) (h : p (l[k]?.getD d) = false) : l.all p = false := by
  rw [Bool.eq_false_iff]
  intro ha
  rw [all_get ha hk] at h
  cases h

set_option maxHeartbeats 400000 in
theorem c_IndexFunc (J : World → Prop) (p : Int → Bool) (K : Nat) (caps : Array Value) (a : Option Addr) (n c : Nat) (l : List Int) (w : World) (hK : Enters Try.prog K)
    (hlen : l.length = n) (hmax : n ≤ 9223372036854775807) (hrow : ∀ wx, J wx → IntRow wx a n l)
    (hf : ∀ i, i < n → ∀ wx, J wx → Calls Try.prog K (#[.int .i64 (l[i]?.getD 0)] ++ caps) wx fun e w' => e = .returned (.bool (p (l[i]?.getD 0))) ∧ J w') (h0 : J w) :
    Calls Try.prog 154 #[.slice a n c, .func (.func K) #[] caps] w fun e w' => e = .returned (.int .i64 (idxOf p l)) ∧ J w' := by
  have HF := Lib.hid hf
  have HR := Lib.hid hrow
  have HL := Lib.hid hlen
  unfold Enters at hK
  clear hf hrow hlen
  go_enter Try.func154, Try.ntmps154
  go_wp2
  go_loopw [5, 8] (fun _ i wr => ∃ k : Nat, k ≤ n ∧ i = .int .i64 k ∧ Hid (∀ j, j < k → p (l[j]?.getD 0) = false) ∧ Hid (J wr)) (fun _ i _ => n - (intOf i).toNat)
  case atStart => exact ⟨0, Nat.zero_le _, rfl, fun j hj => absurd hj (Nat.not_lt_zero _), h0⟩
  case round =>
    obtain ⟨k, hk, rfl, hb, hJ⟩ := hrel
    by_cases hlt : k < n
    · obtain ⟨b, off, rfl, hb', hc⟩ := (HR.out wr hJ.out).cell (by omega)
      have hck := (hc k hlt).1
      clear hc
      cases hp : p (l[k]?.getD 0) with
      | true =>
        have HP := Lib.hid hp
        go_wp2_with (refine (HF.out k hlt wr hJ.out).mono ?_; rintro e w1 ⟨rfl, hJ1⟩; have HJ1 := Lib.hid hJ1; clear hJ1)
        go_ret
        exact ⟨ret_int (by rw [idxOf_hit (by have := HL.out; omega) HP.out hb.out]), by have := ‹Hid (J _)›; assumption⟩
      | false =>
        have HP := Lib.hid hp
        go_wp2_with (refine (HF.out k hlt wr hJ.out).mono ?_; rintro e w1 ⟨rfl, hJ1⟩; have HJ1 := Lib.hid hJ1; clear hJ1)
        go_roundw
        case rel =>
          refine ⟨k + 1, by omega, by go_num, fun j hj => ?_, by assumption⟩
          by_cases e : j = k
          · subst e; exact HP.out
          · exact hb.out j (by omega)
        case measure => simp [intOf]; omega
    · have e : k = n := by omega
      subst e
      go_wp2
      go_ret
      exact ⟨ret_int (by rw [idxOf_miss (d := 0) (fun j hj => hb.out j (by have := HL.out; omega))]), hJ.out⟩

set_option maxHeartbeats 400000 in
theorem c_ContainsFunc (J : World → Prop) (p : Int → Bool) (K : Nat) (caps : Array Value) (a : Option Addr) (n c : Nat) (l : List Int) (w : World) (hK : Enters Try.prog K)
    (hlen : l.length = n) (hmax : n ≤ 9223372036854775807) (hrow : ∀ wx, J wx → IntRow wx a n l)
    (hf : ∀ i, i < n → ∀ wx, J wx → Calls Try.prog K (#[.int .i64 (l[i]?.getD 0)] ++ caps) wx fun e w' => e = .returned (.bool (p (l[i]?.getD 0))) ∧ J w') (h0 : J w) :
    Calls Try.prog 137 #[.slice a n c, .func (.func K) #[] caps] w fun e w' => e = .returned (.bool (l.any p)) ∧ J w' := by
  have HI := Lib.hid (c_IndexFunc J p K caps a n c l w hK hlen hmax hrow hf h0)
  clear hf hrow hlen hK
  go_enter Try.func137, Try.ntmps137
  go_wp2_with (go_at_call 154; refine HI.out.mono ?_; rintro e w1 ⟨rfl, hJ1⟩; have HJ1 := Lib.hid hJ1; clear hJ1)
  go_ret
  exact ⟨ret_bool (by rw [← idxOf_any]), by assumption⟩

set_option maxHeartbeats 400000 in
theorem c_allWithin_1 (x lo hi : Int) (p q : Addr) (w : World) (hp : w.cell? p = some (.int .i64 lo)) (hq : w.cell? q = some (.int .i64 hi)) :
    Calls Try.prog 138 #[.int .i64 x, .pointer (some p), .pointer (some q)] w fun e w' => e = .returned (.bool (!inR x lo hi)) ∧ w = w' := by
  go_enter Try.func138, Try.ntmps138
  go_wp2_with (go_at_call 136; refine (c_within _ _ _ _).mono ?_; rintro e w' ⟨rfl, rfl⟩)
  go_ret
  exact ⟨rfl, rfl⟩

theorem enters_allWithin_1 : Enters Try.prog 138 := Enters.mk Try.func138 rfl (by kernel_rfl)

set_option maxHeartbeats 400000 in
theorem c_allWithin (a : Option Addr) (n c : Nat) (l : List Int) (lo hi : Int) (w : World) (h : IntRow w a n l) :
    Calls Try.prog 93 #[.slice a n c, .int .i64 lo, .int .i64 hi] w (Ret w fun v _ => v = .bool (l.all fun x => inR x lo hi)) := by
  have key := c_ContainsFunc (fun wx => Below w.heap.size w wx ∧ wx.cell? ⟨w.heap.size, 0, none⟩ = some (.int .i64 lo) ∧ wx.cell? ⟨w.heap.size + 1, 0, none⟩ = some (.int .i64 hi)) (fun x => !inR x lo hi)
    138 #[.pointer (some ⟨w.heap.size, 0, none⟩), .pointer (some ⟨w.heap.size + 1, 0, none⟩)] a n c l
    ((w.alloc (.cells #[.int .i64 lo] 3)).alloc (.cells #[.int .i64 hi] 3)) enters_allWithin_1 h.len h.max (fun wx hx => h.below hx.1)
    (fun i _ wx hx => (c_allWithin_1 (l[i]?.getD 0) lo hi ⟨w.heap.size, 0, none⟩ ⟨w.heap.size + 1, 0, none⟩ wx hx.2.1 hx.2.2).mono fun e w' he => ⟨he.1, he.2 ▸ hx⟩)
    ⟨((Below.refl _ _).alloc (Nat.le_refl _) _).alloc (by simp) _, by simp [go_sem], by have := World.cell?_alloc_new (w.alloc (.cells #[.int .i64 lo] 3)) #[.int .i64 hi] 3 0; rw [World.size_alloc] at this; exact this⟩
  have HK := Lib.hid key
  clear key h
  go_enter Try.func93, Try.ntmps93
  go_wp2_with (go_at_call 137; refine HK.out.mono ?_; rintro e w1 ⟨rfl, hx⟩; have HX := Lib.hid hx.1; clear hx)
  go_ret
  exact ⟨_, rfl, by have : Hid _ := ‹Hid (Below _ _ _)›; exact this.out, by first | rfl | (rw [all_not_any]; rfl)⟩

/-! ### numbers for a slope -/

def fineT (t d : List Int) : Bool := decide (t.length = d.length) && decide (t.length ≤ 100) && t.all (fun x => inR x (-20) 20) && d.all (fun x => inR x 0 100)
theorem fineT_bad1 {t d : List Int} {k : Nat} (hk : k < t.length) (h : inR (t[k]?.getD 0) (-20) 20 = false) : fineT t d = false := by
  simp [fineT, all_false_get (p := fun x => inR x (-20) 20) hk h]
theorem fineT_bad2 {t d : List Int} {k : Nat} (hk : k < d.length) (h : inR (d[k]?.getD 0) 0 100 = false) : fineT t d = false := by
  simp [fineT, all_false_get (p := fun x => inR x 0 100) hk h]
theorem fineT_end {t d : List Int} (h1 : ∀ j, j < t.length → inR (t[j]?.getD 0) (-20) 20 = true) (h2 : ∀ j, j < t.length → j < d.length → inR (d[j]?.getD 0) 0 100 = true) : fineT t d = (decide (t.length = d.length) && decide (t.length ≤ 100)) := by
  by_cases e : t.length = d.length
  · simp only [fineT, all_of_get (p := fun x => inR x (-20) 20) 0 h1, all_of_get (p := fun x => inR x 0 100) 0 (fun k hk => h2 k (by omega) hk), Bool.and_true]
  · simp [fineT, e]

/-- The sum of the products of the first k pairs. -/
def dotW (t d : List Int) : Nat → Int
  | 0 => 0
  | k + 1 => wrap64 (dotW t d k + wrap64 (t[k]?.getD 0 * d[k]?.getD 0))

/-- What ThetaOf returns. -/
def thetaV (t d : List Int) : Int := if fineT t d then dotW t d t.length else 0





end Go.Proofs.Ytpngpgbmkkjjgaa

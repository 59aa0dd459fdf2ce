/-
  Contracts: comparisons of spaces, valid spaces.
-/
import Derived.Test.YtpngpgbmkkjjgaaC22
namespace Go.Proofs.Ytpngpgbmkkjjgaa
open Go.RowKit

set_option maxHeartbeats 400000 in
theorem c_slEqual (a1 : Option Addr) (n1 c1 : Nat) (l1 : List Int) (a2 : Option Addr) (n2 c2 : Nat) (l2 : List Int) (w : World) (h1 : IntRow w a1 n1 l1) (h2 : IntRow w a2 n2 l2) :
    Calls Try.prog 74 #[.slice a1 n1 c1, .slice a2 n2 c2] w (Quiet w (.bool (decide (l1 = l2)))) := by
  have hm1 := h1.max
  have hm2 := h2.max
  have HL1 := Lib.hid h1.len
  have HL2 := Lib.hid h2.len
  by_cases hn : n1 = n2
  · subst hn
    go_enter Try.func74, Try.ntmps74
    go_wp2
    go_loopw [13] (fun i wr => ∃ k : Nat, k ≤ n1 ∧ i = .int .i64 k ∧ Hid (l1.take k = l2.take k) ∧ ∃ m, wr = w.drewN m) (fun i _ => n1 - (intOf i).toNat)
    case atStart => exact ⟨0, Nat.zero_le _, rfl, rfl, 0, rfl⟩
    case round =>
      obtain ⟨k, hk, rfl, hq, m, rfl⟩ := hrel
      by_cases hlt : k < n1
      · obtain ⟨b1, off1, rfl, hb1, hc1⟩ := h1.cell (by omega)
        obtain ⟨b2, off2, rfl, hb2, hc2⟩ := h2.cell (by omega)
        have hck1 := (hc1 k hlt).1
        have hck2 := (hc2 k hlt).1
        have HT1 := Lib.hid (take_snoc l1 k 0 (by have := HL1.out; omega))
        have HT2 := Lib.hid (take_snoc l2 k 0 (by have := HL2.out; omega))
        clear hc1 hc2
        by_cases he : l1[k]?.getD 0 = l2[k]?.getD 0
        · have HE := Lib.hid he
          have hne : (l1[k]?.getD 0 != l2[k]?.getD 0) = false := by rw [he]; simp
          clear he
          go_wp2
          go_quiet (fail)
          go_wp2
          go_roundw
          case rel => exact ⟨k + 1, by omega, by go_num, (by rw [HT1.out, HT2.out, HE.out, hq.out] : l1.take (k + 1) = l2.take (k + 1)), _, rfl⟩
          case measure => simp [intOf]; omega
        · have hne : (l1[k]?.getD 0 != l2[k]?.getD 0) = true := by simpa using he
          go_wp2
          go_quiet (fail)
          go_wp2
          go_ret
          refine ⟨ret_bool ?_, drewN_two _ _ _⟩
          symm
          simp only [decide_eq_false_iff_not]
          intro e
          exact he (by rw [e])
      · go_wp2
        go_ret
        refine ⟨ret_bool ?_, m, rfl⟩
        symm
        simp only [decide_eq_true_eq]
        have e1 : l1.take k = l1 := List.take_of_length_le (by have := HL1.out; omega)
        have e2 : l2.take k = l2 := List.take_of_length_le (by have := HL2.out; omega)
        rw [← e1, ← e2]
        exact hq.out
  · have hn' : ((n1 : Int) != n2) = true := by simp; omega
    go_enter Try.func74, Try.ntmps74
    go_wp2
    go_ret
    refine ⟨ret_bool ?_, 0, rfl⟩
    symm
    simp only [decide_eq_false_iff_not]
    rintro rfl
    exact hn (HL1.out.symm.trans HL2.out)

set_option maxHeartbeats 400000 in
theorem c_EqualSpaces_1 (a1 : Option Addr) (n1 c1 : Nat) (l1 : List Int) (a2 : Option Addr) (n2 c2 : Nat) (l2 : List Int) (w : World) (h1 : IntRow w a1 n1 l1) (h2 : IntRow w a2 n2 l2) :
    Calls Try.prog 107 #[.slice a1 n1 c1, .slice a2 n2 c2] w (Quiet w (.bool (decide (l1 = l2)))) := by
  have HC := Lib.hid (c_slEqual a1 n1 c1 l1 a2 n2 c2 l2 w h1 h2)
  clear h1 h2
  go_enter Try.func107, Try.ntmps107
  go_wp2_with (go_at_call 74; refine HC.out.mono ?_; rintro e w1 ⟨rfl, m, rfl⟩)
  go_ret
  exact ⟨rfl, _, rfl⟩
theorem enters_EqualSpaces_1 : Enters Try.prog 107 := Enters.mk Try.func107 rfl (by kernel_rfl)

set_option maxHeartbeats 800000 in
theorem c_EqualFunc_rows (a1 : Option Addr) (n1 c1 : Nat) (l1 : List (List Int)) (S1 : List Nat) (a2 : Option Addr) (n2 c2 : Nat) (l2 : List (List Int)) (S2 : List Nat) (w : World) (h1 : SliceRd Shp.ints w a1 n1 c1 l1 S1) (h2 : SliceRd Shp.ints w a2 n2 c2 l2 S2) :
    Calls Try.prog 106 #[.slice a1 n1 c1, .slice a2 n2 c2, .func (.func 107) #[] #[]] w (Quiet w (.bool (decide (l1 = l2)))) := by
  have hm1 := h1.max
  have hm2 := h2.max
  have HL1 := Lib.hid h1.1
  have HL2 := Lib.hid h2.1
  have H1 := Lib.hid h1
  have H2 := Lib.hid h2
  have hK := enters_EqualSpaces_1
  unfold Enters at hK
  clear h1 h2
  by_cases hn : n1 = n2
  · subst hn
    go_enter Try.func106, Try.ntmps106
    go_wp2
    go_loopw [17] (fun i wr => ∃ k : Nat, k ≤ n1 ∧ i = .int .i64 k ∧ Hid (l1.take k = l2.take k) ∧ ∃ m, wr = w.drewN m) (fun i _ => n1 - (intOf i).toNat)
    case atStart => exact ⟨0, Nat.zero_le _, rfl, rfl, 0, rfl⟩
    case round =>
      obtain ⟨k, hk, rfl, hq, m, rfl⟩ := hrel
      by_cases hlt : k < n1
      · obtain ⟨b1, o1, cs1, T1, rfl, hb1, -, hat1, ⟨a3, n3, c3, rfl, hs3⟩, -⟩ := (H1.out.below Shp.ints_good (below_drewN m (Below.refl _ _))).at Shp.ints_good [] hlt
        obtain ⟨b2, o2, cs2, T2, rfl, hb2, -, hat2, ⟨a4, n4, c4, rfl, hs4⟩, -⟩ := (H2.out.below Shp.ints_good (below_drewN m (Below.refl _ _))).at Shp.ints_good [] hlt
        have q1 := (hat1 0 _ rfl).1
        have q2 := (hat2 0 _ rfl).1
        have e3 : Shp.ints.size = 1 := rfl
        rw [e3, Nat.mul_one, Nat.add_zero] at q1 q2
        have HT1 := Lib.hid (take_snoc l1 k [] (by have := HL1.out; omega))
        have HT2 := Lib.hid (take_snoc l2 k [] (by have := HL2.out; omega))
        have hC := c_EqualSpaces_1 a3 n3 c3 (l1[k]?.getD []) a4 n4 c4 (l2[k]?.getD []) (w.drewN m) hs3.row hs4.row
        clear hat1 hat2 hs3 hs4
        by_cases he : l1[k]?.getD [] = l2[k]?.getD []
        · rw [decide_eq_true he] at hC
          have HE := Lib.hid he
          have HC := Lib.hid hC
          clear he hC
          go_wp2_with (refine HC.out.mono ?_; rintro e w1 ⟨rfl, q, rfl⟩)
          go_roundw
          case rel => exact ⟨k + 1, by omega, by go_num, (by rw [HT1.out, HT2.out, HE.out, hq.out] : l1.take (k + 1) = l2.take (k + 1)), ⟨_, rfl⟩⟩
          case measure => simp [intOf]; omega
        · rw [decide_eq_false he] at hC
          have HE := Lib.hid he
          have HC := Lib.hid hC
          clear he hC
          go_wp2_with (refine HC.out.mono ?_; rintro e w1 ⟨rfl, q, rfl⟩)
          go_ret
          refine ⟨ret_bool ?_, ⟨_, rfl⟩⟩
          symm
          simp only [decide_eq_false_iff_not]
          intro e
          exact HE.out (by rw [e])
      · go_wp2
        go_ret
        refine ⟨ret_bool ?_, m, rfl⟩
        symm
        simp only [decide_eq_true_eq]
        have e1 : l1.take k = l1 := List.take_of_length_le (by have := HL1.out; omega)
        have e2 : l2.take k = l2 := List.take_of_length_le (by have := HL2.out; omega)
        rw [← e1, ← e2]
        exact hq.out
  · have hn' : ((n1 : Int) != n2) = true := by simp; omega
    go_enter Try.func106, Try.ntmps106
    go_wp2
    go_ret
    refine ⟨ret_bool ?_, 0, rfl⟩
    symm
    simp only [decide_eq_false_iff_not]
    rintro rfl
    exact hn (HL1.out.symm.trans HL2.out)

set_option maxHeartbeats 800000 in
theorem c_impl_EqualSpaces (s1 s2 : Int) (a1 : Option Addr) (n1 c1 : Nat) (l1 : List (List Int)) (S1 : List Nat) (a2 : Option Addr) (n2 c2 : Nat) (l2 : List (List Int)) (S2 : List Nat) (w : World) (h1 : SliceRd Shp.ints w a1 n1 c1 l1 S1) (h2 : SliceRd Shp.ints w a2 n2 c2 l2 S2) :
    Calls Try.prog 55 #[.agg #[.int .i64 s1, .slice a1 n1 c1], .agg #[.int .i64 s2, .slice a2 n2 c2]] w (Ret w fun v _ => v = .bool (decide (s1 = s2) && decide (l1 = l2))) := by
  have b0 := (Below.refl w.heap.size w).alloc (Nat.le_refl _) (.cells #[.int .i64 s1, .slice a1 n1 c1] 38)
  have b1 := (Below.refl _ (w.alloc (.cells #[.int .i64 s1, .slice a1 n1 c1] 38))).alloc (Nat.le_refl _) (.cells #[.int .i64 s2, .slice a2 n2 c2] 38)
  have hb := below_then b0 b1
  have HB := Lib.hid hb
  have hC := c_EqualFunc_rows a1 n1 c1 l1 S1 a2 n2 c2 l2 S2 _ (h1.below Shp.ints_good hb) (h2.below Shp.ints_good hb)
  have HC := Lib.hid hC
  clear hC b0 b1 hb h1 h2
  by_cases he : s1 = s2
  · have HE := Lib.hid he
    have e1 : (s1 == s2) = true := by simp [he]
    clear he
    go_enter Try.func55, Try.ntmps55
    go_wp2_with (go_at_call 106; refine HC.out.mono ?_; rintro e w1 ⟨rfl, m, rfl⟩)
    go_ret
    exact ⟨_, rfl, below_drewN m HB.out, by have := HE.out; simp [this]⟩
  · have HE := Lib.hid he
    have e1 : (s1 == s2) = false := by simp [he]
    clear he
    go_enter Try.func55, Try.ntmps55
    go_wp2
    go_ret
    exact ⟨_, rfl, HB.out, by have := HE.out; simp [this]⟩

/-! ### valid vectors -/

set_option maxHeartbeats 800000 in
theorem c_IndexFunc_rows (J : World → Prop) (p : List Int → Bool) (K : Nat) (caps : Array Value) (a : Option Addr) (n c : Nat) (l : List (List Int)) (S : List Nat) (w : World) (hK : Enters Try.prog K)
    (hlen : l.length = n) (hmax : n ≤ 9223372036854775807) (hrow : ∀ wx, J wx → SliceRd Shp.ints wx a n c l S)
    (hf : ∀ v a' n' c' wx, IntRow wx a' n' v → J wx → Calls Try.prog K (#[.slice a' n' c'] ++ caps) wx fun e w' => e = .returned (.bool (p v)) ∧ J w') (h0 : J w) :
    Calls Try.prog 164 #[.slice a n c, .func (.func K) #[] caps] w fun e w' => e = .returned (.int .i64 (idxOf p l)) ∧ J w' := by
  have HF := Lib.hid hf
  have HR := Lib.hid hrow
  have HL := Lib.hid hlen
  unfold Enters at hK
  clear hf hrow hlen
  go_enter Try.func164, Try.ntmps164
  go_wp2
  go_loopw [5, 8] (fun _ i wr => ∃ k : Nat, k ≤ n ∧ i = .int .i64 k ∧ Hid (∀ j, j < k → p (l[j]?.getD []) = false) ∧ Hid (J wr)) (fun _ i _ => n - (intOf i).toNat)
  case atStart => exact ⟨0, Nat.zero_le _, rfl, fun j hj => absurd hj (Nat.not_lt_zero _), h0⟩
  case round =>
    obtain ⟨k, hk, rfl, hb, hJ⟩ := hrel
    by_cases hlt : k < n
    · obtain ⟨b1, o1, cs1, T1, rfl, hb1, -, hat1, ⟨a3, n3, c3, rfl, hs3⟩, -⟩ := (HR.out wr hJ.out).at Shp.ints_good [] hlt
      have q1 := (hat1 0 _ rfl).1
      have e3 : Shp.ints.size = 1 := rfl
      rw [e3, Nat.mul_one, Nat.add_zero] at q1
      have hC := HF.out (l[k]?.getD []) a3 n3 c3 wr hs3.row hJ.out
      clear hat1 hs3
      cases hp : p (l[k]?.getD []) with
      | true =>
        rw [hp] at hC
        have HP := Lib.hid hp
        have HC := Lib.hid hC
        clear hC hp
        go_wp2_with (refine HC.out.mono ?_; rintro e w1 ⟨rfl, hJ1⟩; have HJ1 := Lib.hid hJ1; clear hJ1)
        go_ret
        exact ⟨ret_int (by rw [idxOf_hit (by have := HL.out; omega) HP.out hb.out]), by have := ‹Hid (J _)›; assumption⟩
      | false =>
        rw [hp] at hC
        have HP := Lib.hid hp
        have HC := Lib.hid hC
        clear hC hp
        go_wp2_with (refine HC.out.mono ?_; rintro e w1 ⟨rfl, hJ1⟩; have HJ1 := Lib.hid hJ1; clear hJ1)
        go_roundw
        case rel =>
          refine ⟨k + 1, by omega, by go_num, fun j hj => ?_, by assumption⟩
          by_cases e : j = k
          · subst e; exact HP.out
          · exact hb.out j (by omega)
        case measure => simp [intOf]; omega
    · have e : k = n := by omega
      subst e
      go_wp2
      go_ret
      exact ⟨ret_int (by rw [idxOf_miss (d := []) (fun j hj => hb.out j (by have := HL.out; omega))]), hJ.out⟩

set_option maxHeartbeats 400000 in
theorem c_ContainsFunc_rows (J : World → Prop) (p : List Int → Bool) (K : Nat) (caps : Array Value) (a : Option Addr) (n c : Nat) (l : List (List Int)) (S : List Nat) (w : World) (hK : Enters Try.prog K)
    (hlen : l.length = n) (hmax : n ≤ 9223372036854775807) (hrow : ∀ wx, J wx → SliceRd Shp.ints wx a n c l S)
    (hf : ∀ v a' n' c' wx, IntRow wx a' n' v → J wx → Calls Try.prog K (#[.slice a' n' c'] ++ caps) wx fun e w' => e = .returned (.bool (p v)) ∧ J w') (h0 : J w) :
    Calls Try.prog 158 #[.slice a n c, .func (.func K) #[] caps] w fun e w' => e = .returned (.bool (l.any p)) ∧ J w' := by
  have HI := Lib.hid (c_IndexFunc_rows J p K caps a n c l S w hK hlen hmax hrow hf h0)
  clear hf hrow hlen hK
  go_enter Try.func158, Try.ntmps158
  go_wp2_with (go_at_call 164; refine HI.out.mono ?_; rintro e w1 ⟨rfl, hJ1⟩; have HJ1 := Lib.hid hJ1; clear hJ1)
  go_ret
  exact ⟨ret_bool (by rw [← idxOf_any]), by assumption⟩

def vecN (p size : Int) (v : List Int) : Bool := decide ((v.length : Int) = size) && vecV p v
def areV (p size : Int) (l : List (List Int)) : Bool := inR size 0 8 && decide (l.length ≤ 16) && l.all (vecN p size)

set_option maxHeartbeats 800000 in
theorem c_areVectors_1 (p size : Int) (B : Nat) (a : Option Addr) (n c : Nat) (v : List Int) (w : World) (hp : fits p) (hv : IntRow w a n v) (b1 b2 : Nat) (h1 : w.cell? ⟨b1, 0, none⟩ = some (.int .i64 size)) (h2 : w.cell? ⟨b2, 0, none⟩ = some (.int .i64 p)) :
    Calls Try.prog 159 #[.slice a n c, .pointer (some ⟨b1, 0, none⟩), .pointer (some ⟨b2, 0, none⟩)] w (Ret w fun r _ => r = .bool (!vecN p size v)) := by
  have hm := hv.max
  have HL := Lib.hid hv.len
  have HC := Lib.hid (c_impl_IsVector p a n c v w hp hv)
  clear hv
  by_cases he : (n : Int) = size
  · have HE := Lib.hid he
    have e1 : ((n : Int) != size) = false := by simp [he]
    clear he
    go_enter Try.func159, Try.ntmps159
    go_wp2_with (go_at_call 160; refine HC.out.mono ?_; rintro e w1 ⟨r, rfl, hb, rfl⟩; have B1 := Lib.hid hb; clear hb)
    go_ret
    exact ⟨_, rfl, by have : Hid _ := ‹Hid (Below _ _ _)›; exact this.out, by have := HE.out; have := HL.out; simp [vecN, *]⟩
  · have HE := Lib.hid he
    have e1 : ((n : Int) != size) = true := by simp [he]
    clear he
    go_enter Try.func159, Try.ntmps159
    go_wp2
    go_ret
    exact ⟨_, rfl, Below.refl _ _, by have := HE.out; have := HL.out; simp [vecN, *]⟩

theorem enters_areVectors_1 : Enters Try.prog 159 := Enters.mk Try.func159 rfl (by kernel_rfl)

set_option maxHeartbeats 800000 in
theorem c_areVectors (p size : Int) (a : Option Addr) (n c : Nat) (l : List (List Int)) (S : List Nat) (w : World) (hp : fits p) (h : SliceRd Shp.ints w a n c l S) :
    Calls Try.prog 144 #[.int .i64 p, .int .i64 size, .slice a n c] w (Ret w fun r _ => r = .bool (areV p size l)) := by
  have hm := h.max
  have HL := Lib.hid h.1
  have b0 := (Below.refl w.heap.size w).alloc (Nat.le_refl _) (.cells #[.int .i64 p] 3)
  have b1 := (Below.refl _ (w.alloc (.cells #[.int .i64 p] 3))).alloc (Nat.le_refl _) (.cells #[.int .i64 size] 3)
  have t1 := At.alloc (w.alloc (.cells #[.int .i64 p] 3)) #[.int .i64 size] 3
  rw [World.size_alloc] at t1
  have KEY : ∀ wr, Below ((w.alloc (.cells #[.int .i64 p] 3)).alloc (.cells #[.int .i64 size] 3)).heap.size ((w.alloc (.cells #[.int .i64 p] 3)).alloc (.cells #[.int .i64 size] 3)) wr →
      Below w.heap.size w wr ∧ At wr w.heap.size 0 [.int .i64 p] ∧ At wr (w.heap.size + 1) 0 [.int .i64 size] ∧ SliceRd Shp.ints wr a n c l S := by
    intro wr hb
    have hbw := below_then (below_then b0 b1) hb
    exact ⟨hbw, ((At.alloc w _ _).keep (b1.block _ (by simp))).keep (hb.block _ (by simp; omega)), t1.keep (hb.block _ (by simp)), h.below Shp.ints_good hbw⟩
  have key := c_ContainsFunc_rows (fun wx => Below ((w.alloc (.cells #[.int .i64 p] 3)).alloc (.cells #[.int .i64 size] 3)).heap.size ((w.alloc (.cells #[.int .i64 p] 3)).alloc (.cells #[.int .i64 size] 3)) wx) (fun v => !vecN p size v)
    159 #[.pointer (some ⟨w.heap.size + 1, 0, none⟩), .pointer (some ⟨w.heap.size, 0, none⟩)] a n c l S
    ((w.alloc (.cells #[.int .i64 p] 3)).alloc (.cells #[.int .i64 size] 3)) enters_areVectors_1 h.1 h.max (fun wx hx => (KEY wx hx).2.2.2)
    (fun v a' n' c' wx hv hx => (c_areVectors_1 p size 0 a' n' c' v wx hp hv (w.heap.size + 1) w.heap.size (KEY wx hx).2.2.1.c0 (KEY wx hx).2.1.c0).mono fun e w' ⟨r, he, hb, hr⟩ => ⟨by rw [he, hr], below_then hx hb⟩)
    (Below.refl _ _)
  have HK := Lib.hid key
  have HKEY := Lib.hid KEY
  have q0 := (KEY _ (Below.refl _ _)).2.1.c0
  have q1 := (KEY _ (Below.refl _ _)).2.2.1.c0
  clear key KEY h b0 b1 t1
  cases h1 : inR size 0 8 with
  | false =>
    have H1 := Lib.hid h1
    have hC := c_within size 0 8 ((w.alloc (.cells #[.int .i64 p] 3)).alloc (.cells #[.int .i64 size] 3))
    rw [h1] at hC
    have HC := Lib.hid hC
    clear hC h1
    go_enter Try.func144, Try.ntmps144
    go_wp2_with (go_at_call 136; refine HC.out.mono ?_; rintro e w' ⟨rfl, rfl⟩)
    go_ret
    exact ⟨_, rfl, (HKEY.out _ (Below.refl _ _)).1, by simp [areV, H1.out]⟩
  | true =>
    have H1 := Lib.hid h1
    have hC := c_within size 0 8 ((w.alloc (.cells #[.int .i64 p] 3)).alloc (.cells #[.int .i64 size] 3))
    rw [h1] at hC
    have HC := Lib.hid hC
    clear hC h1
    by_cases h16 : n ≤ 16
    · go_enter Try.func144, Try.ntmps144
      go_wp2_with (first | (go_at_call 136; refine HC.out.mono ?_; rintro e w' ⟨rfl, rfl⟩) | (go_at_call 158; refine HK.out.mono ?_; rintro e w1 ⟨rfl, hx⟩; have HX := Lib.hid hx; clear hx))
      go_ret
      exact ⟨_, rfl, (HKEY.out _ (by have : Hid _ := ‹Hid (Below _ _ _)›; exact this.out)).1, by have := HL.out; simp only [areV, H1.out, ← all_not_any]; simp [*]⟩
    · go_enter Try.func144, Try.ntmps144
      go_wp2_with (go_at_call 136; refine HC.out.mono ?_; rintro e w' ⟨rfl, rfl⟩)
      go_ret
      exact ⟨_, rfl, (HKEY.out _ (Below.refl _ _)).1, by have := HL.out; simp [areV, *]⟩
end Go.Proofs.Ytpngpgbmkkjjgaa

/-
  Contracts of small functions.
-/
import Derived.Test.YtpngpgbmkkjjgaaRows
import Derived.Test.YtpngpgbmkkjjgaaLib
namespace Go.Proofs.Ytpngpgbmkkjjgaa
open Go.RowKit

def inR (n lo hi : Int) : Bool := decide (lo ≤ n ∧ n ≤ hi)
theorem inR_true {n lo hi : Int} (h : inR n lo hi = true) : lo ≤ n ∧ n ≤ hi := by simpa [inR] using h
theorem inR_false {n lo hi : Int} (h : inR n lo hi = false) : n < lo ∨ hi < n := by simp [inR] at h; omega
theorem inR_mk {n lo hi : Int} (h1 : lo ≤ n) (h2 : n ≤ hi) : inR n lo hi = true := by simp [inR, h1, h2]

theorem Try.info3 : (Try.prog.info? 3).map (fun i => (i.zero, i.size, i.bytes)) = some (some (.int .i64 0), 1, 8) := by kernel_rfl

theorem et_int : ElemTy Try.prog 22 3 Shp.int.size 8 := ElemTy.mk' Try.underlying22 Try.info3 rfl

set_option maxHeartbeats 400000 in
theorem c_within (n lo hi : Int) (w : World) :
    Calls Try.prog 136 #[.int .i64 n, .int .i64 lo, .int .i64 hi] w fun e w' => e = .returned (.bool (inR n lo hi)) ∧ w = w' := by
  by_cases h1 : lo ≤ n <;> by_cases h2 : n ≤ hi
  all_goals
    go_enter Try.func136, Try.ntmps136
    go_wp2
    go_ret
    exact ⟨ret_bool (by simp [inR, h1, h2]), rfl⟩
set_option maxHeartbeats 400000 in
theorem c_l1In (n lo hi : Int) (w : World) :
    Calls Try.prog 91 #[.int .i64 n, .int .i64 lo, .int .i64 hi] w fun e w' => e = .returned (.bool (inR n lo hi)) ∧ w = w' := by
  by_cases h1 : lo ≤ n <;> by_cases h2 : n ≤ hi
  all_goals
    go_enter Try.func91, Try.ntmps91
    go_wp2
    go_ret
    exact ⟨ret_bool (by simp [inR, h1, h2]), rfl⟩

/-! ### the laws' own copies and comparisons of integer slices -/

set_option maxHeartbeats 400000 in
theorem c_toIntS (a : Option Addr) (n c : Nat) (l : List Int) (w : World) (h : IntRow w a n l) (hn : n ≤ 1048576) :
    Calls Try.prog 12 #[.slice a n c] w (Ret w fun v w' => ∃ S, Own 3 Shp.int w' w.heap.size v l S) := by
  have hmax := h.max
  have hlen := h.len
  obtain ⟨i0, hi, hz0, hz1, hz2⟩ := info_parts Try.info3
  obtain ⟨w1, hmk, hown0, hg0⟩ := run_make_full (P := Try.prog) w w.heap.size 22 3 i0 (.int .i64 0) 1 Try.underlying22 hi hz0 hz1 .i64 .i64 n (by rw [hz2]; omega) (by unfold maxLen; omega) (Nat.le_refl _)
  have hb1 : Below w.heap.size w w1 := (Below.refl _ _).grown hg0 (Nat.le_refl _) (fun k hk => by cases hk)
  clear hz0 hz1 hz2 hi hg0
  have HO := Lib.hid hown0
  have HL := Lib.hid hlen
  clear hown0 hlen
  go_enter Try.func12, Try.ntmps12
  go_wp2
  go_loopw [4] (fun i wr => ∃ k : Nat, k ≤ n ∧ i = .int .i64 k ∧ wr.ownsRow w.heap.size 3 1 (.slice (some ⟨w.heap.size, 0, none⟩) n n) n ((l.take k ++ List.replicate (n - k) 0).map (Value.int .i64)) ∧ Below w.heap.size w wr) (fun i _ => n - (intOf i).toNat)
  case atStart =>
    refine ⟨0, Nat.zero_le _, rfl, ?_, hb1⟩
    have := HO.out
    simpa [Value.cells, toList_madeCells_one] using this
  case round =>
    obtain ⟨k, hk, rfl, hown, hbel⟩ := hrel
    by_cases hlt : k < n
    · obtain ⟨b, off, rfl, hb, hc⟩ := h.cell (by omega)
      have hck : wr.cell? ⟨b, off + k, none⟩ = some (.int .i64 (l[k]?.getD 0)) := (hbel.cell hb).trans (hc k hlt).1
      have hst : wr.cell? ⟨w.heap.size, k, none⟩ = some (.int .i64 0) := by
        have h1 := HL.out
        rw [hown.cellAt k (by omega)]
        have h2 : (List.take k l ++ List.replicate (n - k) 0)[k]? = some 0 := by
          rw [List.getElem?_append_right (by rw [List.length_take]; omega), List.length_take, List.getElem?_replicate, if_pos (by omega)]
        simp only [List.getElem?_map, h2, Option.map_some]
      have hfr := hown.frozenAt k
      have HS := Lib.hid (hown.stored k (.int .i64 (l[k]?.getD 0)))
      clear hc hown
      go_wp2
      go_roundw
      case rel =>
        have h1 := HL.out
        refine ⟨k + 1, by omega, by go_num, ?_, hbel.setCell (Nat.le_refl _) _⟩
        have e : ((l.take (k + 1) ++ List.replicate (n - (k + 1)) 0).map (Value.int .i64)) = ((l.take k ++ List.replicate (n - k) 0).map (Value.int .i64)).set k (.int .i64 (l[k]?.getD 0)) := by
          have h3 : (l.take k).length = k := by simp; omega
          rw [← List.map_set, take_snoc l k 0 (by omega), List.set_append_right _ _ (by omega), h3]
          rw [show n - k = (n - (k + 1)) + 1 by omega, List.replicate_succ]
          simp
        rw [e]
        exact HS.out.1
      case measure => simp [intOf]; omega
    · have hk' : k = n := by omega
      subst hk'
      have HF : Hid (∃ S, Own 3 Shp.int wr w.heap.size (.slice (some ⟨w.heap.size, 0, none⟩) k k) l S) := by
        refine own_ints (n := k) (fun x hx => ?_) ?_
        · obtain ⟨i, hi, rfl⟩ := List.getElem_of_mem hx
          have h1 := HL.out
          simpa [hi] using h.fit i (by omega)
        · have h1 := HL.out
          have e : l.take k ++ List.replicate (k - k) 0 = l := by simp [← h1]
          rw [e] at hown
          exact hown
      clear hown
      go_wp2
      go_ret
      exact ⟨_, rfl, hbel, HF.out⟩

set_option maxHeartbeats 400000 in
theorem c_eqIntS (a1 : Option Addr) (n1 c1 : Nat) (l1 : List Int) (a2 : Option Addr) (n2 c2 : Nat) (l2 : List Int) (w : World) (h1 : IntRow w a1 n1 l1) (h2 : IntRow w a2 n2 l2) :
    Calls Try.prog 15 #[.slice a1 n1 c1, .slice a2 n2 c2] w (Quiet w (.bool (decide (l1 = l2)))) := by
  have hm1 := h1.max
  have hm2 := h2.max
  have HL1 := Lib.hid h1.len
  have HL2 := Lib.hid h2.len
  by_cases hn : n1 = n2
  · subst hn
    go_enter Try.func15, Try.ntmps15
    go_wp2
    go_loopw [5] (fun i wr => ∃ k : Nat, k ≤ n1 ∧ i = .int .i64 k ∧ Hid (l1.take k = l2.take k) ∧ ∃ m, wr = w.drewN m) (fun i _ => n1 - (intOf i).toNat)
    case atStart => exact ⟨0, Nat.zero_le _, rfl, rfl, 0, rfl⟩
    case round =>
      obtain ⟨k, hk, rfl, hq, m, rfl⟩ := hrel
      by_cases hlt : k < n1
      · obtain ⟨b1, off1, rfl, hb1, hc1⟩ := h1.cell (by omega)
        obtain ⟨b2, off2, rfl, hb2, hc2⟩ := h2.cell (by omega)
        have hck1 := (hc1 k hlt).1
        have hck2 := (hc2 k hlt).1
        have HT1 := Lib.hid (take_snoc l1 k 0 (by have := HL1.out; omega))
        have HT2 := Lib.hid (take_snoc l2 k 0 (by have := HL2.out; omega))
        clear hc1 hc2
        by_cases he : l1[k]?.getD 0 = l2[k]?.getD 0
        · have HE := Lib.hid he
          have hne : (l1[k]?.getD 0 != l2[k]?.getD 0) = false := by rw [he]; simp
          clear he
          go_wp2
          go_quiet (fail)
          go_wp2
          go_roundw
          case rel => exact ⟨k + 1, by omega, by go_num, (by rw [HT1.out, HT2.out, HE.out, hq.out] : l1.take (k + 1) = l2.take (k + 1)), _, rfl⟩
          case measure => simp [intOf]; omega
        · have hne : (l1[k]?.getD 0 != l2[k]?.getD 0) = true := by simpa using he
          go_wp2
          go_quiet (fail)
          go_wp2
          go_ret
          refine ⟨ret_bool ?_, drewN_two _ _ _⟩
          symm
          simp only [decide_eq_false_iff_not]
          intro e
          exact he (by rw [e])
      · go_wp2
        go_ret
        refine ⟨ret_bool ?_, m, rfl⟩
        symm
        simp only [decide_eq_true_eq]
        have e1 : l1.take k = l1 := List.take_of_length_le (by have := HL1.out; omega)
        have e2 : l2.take k = l2 := List.take_of_length_le (by have := HL2.out; omega)
        rw [← e1, ← e2]
        exact hq.out
  · have hn' : ((n1 : Int) != n2) = true := by simp; omega
    go_enter Try.func15, Try.ntmps15
    go_wp2
    go_ret
    refine ⟨ret_bool ?_, 0, rfl⟩
    symm
    simp only [decide_eq_false_iff_not]
    rintro rfl
    exact hn (HL1.out.symm.trans HL2.out)

/-- The marks that a law writes into a slice. -/
def marks (k : Int) (n : Nat) : List Int := (List.range n).map fun i : Nat => k + (i : Int)
theorem marks_len (k : Int) (n : Nat) : (marks k n).length = n := by simp [marks]
theorem marks_get (k : Int) (n i : Nat) (h : i < n) : (marks k n)[i]?.getD 0 = k + i := by simp [marks, h]

set_option maxHeartbeats 400000 in
theorem c_markIntS (a : Option Addr) (n c : Nat) (l : List Int) (S : List Nat) (k : Int) (w : World) (h : SliceRd Shp.int w a n c l S) (hk0 : 0 ≤ k) (hk1 : k ≤ 4611686018427387904) (hn : n ≤ 1048576) :
    Calls Try.prog 31 #[.slice a n c, .int .i64 k] w fun e w' => e = .returned (.int .i64 (k + n)) ∧ Frm S w w' ∧ SliceRd Shp.int w' a n c (marks k n) S := by
  have hmax := h.max
  have hrow := h.row
  have HS := Lib.hid (ints_blk h)
  have hnc := h.2.1
  have hcm := h.2.2.1
  clear h
  go_enter Try.func31, Try.ntmps31
  go_wp2
  go_loopw [1, 5] (fun q i wr => ∃ j : Nat, j ≤ n ∧ i = .int .i64 j ∧ q = .int .i64 (k + j) ∧ Frm S w wr ∧ (∀ b off, a = some ⟨b, off, none⟩ → 0 < n → ∀ t, t < n → wr.cell? ⟨b, off + t, none⟩ = some (.int .i64 (if t < j then k + t else l[t]?.getD 0)) ∧ wr.frozen? ⟨b, off + t, none⟩ = false)) (fun _ i _ => n - (intOf i).toNat)
  case atStart =>
    refine ⟨0, Nat.zero_le _, rfl, by simp, Frm.refl _ _, fun b off ha h0 t ht => ?_⟩
    obtain ⟨b', off', ha', hb, hc⟩ := hrow.cell h0
    rw [ha] at ha'
    simp at ha'
    obtain ⟨rfl, rfl⟩ := ha'
    simpa using hc t ht
  case round =>
    obtain ⟨j, hj, rfl, rfl, hfrm, hcells⟩ := hrel
    by_cases hlt : j < n
    · obtain ⟨b, off, rfl, hb, _⟩ := hrow.cell (by omega)
      have hC := Lib.hid (hcells b off rfl (by omega))
      have hcj := (hC.out j hlt).1
      have hfj := (hC.out j hlt).2
      rw [if_neg (by omega)] at hcj
      clear hcells
      go_wp2
      go_roundw
      case rel =>
        refine ⟨j + 1, by omega, by go_num, by go_num, hfrm.setCell (fun _ => ?_) _, fun b' off' ha h0 t ht => ?_⟩
        · rw [HS.out, iblk, if_neg (by omega)]; simp
        · simp at ha
          obtain ⟨rfl, rfl⟩ := ha
          refine ⟨?_, by rw [World.frozen?_setCell]; exact (hC.out t ht).2⟩
          by_cases e : t = j
          · subst e
            rw [if_pos (by omega)]
            exact World.cell?_setCell_same _ _ _ hcj
          · rw [World.cell?_setCell_other _ _ _ _ (by simp only [ne_eq, Addr.mk.injEq, not_and]; omega), (hC.out t ht).1]
            by_cases h2 : t < j
            · rw [if_pos h2, if_pos (by omega)]
            · rw [if_neg h2, if_neg (by omega)]
      case measure => simp [intOf]; omega
    · have e : j = n := by omega
      subst e
      have HF : Hid (SliceRd Shp.int wr a j c (marks k j) S) := by
        rw [HS.out]
        refine ints_mk ⟨marks_len _ _, hmax, fun h0 => ?_, fun i hi => ?_⟩ hnc hcm
        · obtain ⟨b, off, rfl, hb, _⟩ := hrow.cell h0
          refine ⟨b, off, rfl, Nat.lt_of_lt_of_le hb hfrm.size, fun i hi => ?_⟩
          have := hcells b off rfl h0 i hi
          rw [if_pos hi] at this
          rw [marks_get _ _ _ hi]
          exact this
        · rw [marks_get _ _ _ hi]; unfold fits; omega
      clear hcells
      go_wp2
      go_ret
      exact ⟨rfl, hfrm, HF.out⟩

set_option maxHeartbeats 400000 in
theorem c_heldIntS (a : Option Addr) (n c : Nat) (k : Int) (w : World) (h : IntRow w a n (marks k n)) (hk0 : 0 ≤ k) (hk1 : k ≤ 4611686018427387904) (hn : n ≤ 1048576) :
    Calls Try.prog 32 #[.slice a n c, .int .i64 k] w fun e w' => e = .returned (.int .i64 (k + n)) ∧ w = w' := by
  have hmax := h.max
  go_enter Try.func32, Try.ntmps32
  go_wp2
  go_loop [1, 5] (fun q i => ∃ j : Nat, j ≤ n ∧ i = .int .i64 j ∧ q = .int .i64 (k + j)) (fun _ i => n - (intOf i).toNat)
  case atStart => exact ⟨0, Nat.zero_le _, rfl, by simp⟩
  case round =>
    obtain ⟨j, hj, rfl, rfl⟩ := hrel
    by_cases hlt : j < n
    · obtain ⟨b, off, rfl, hb, hc⟩ := h.cell (by omega)
      have hcj := (hc j hlt).1
      rw [marks_get _ _ _ hlt] at hcj
      clear hc
      go_wp2
      go_round
      case rel => exact ⟨j + 1, by omega, by go_num, by go_num⟩
      case measure => simp [intOf]; omega
    · have e : j = n := by omega
      subst e
      go_wp2
      go_ret
      exact ⟨rfl, rfl⟩

/-! ### sums -/

def sumW (l : List Int) : Int := l.foldl (fun s x => wrap64 (s + x)) 0
theorem sumW_snoc (l : List Int) (x : Int) : sumW (l ++ [x]) = wrap64 (sumW l + x) := by simp [sumW]

set_option maxHeartbeats 400000 in
theorem c_sumOf (a : Option Addr) (n c : Nat) (l : List Int) (w : World) (h : IntRow w a n l) :
    Calls Try.prog 94 #[.slice a n c] w fun e w' => e = .returned (.int .i64 (sumW l)) ∧ w = w' := by
  have hmax := h.max
  go_enter Try.func94, Try.ntmps94
  go_wp2
  go_loop [3, 8] (fun s i => ∃ k : Nat, k ≤ n ∧ i = .int .i64 k ∧ s = .int .i64 (sumW (l.take k))) (fun _ i => n - (intOf i).toNat)
  case atStart => exact ⟨0, Nat.zero_le _, rfl, rfl⟩
  case round =>
    obtain ⟨k, hk, rfl, rfl⟩ := hrel
    by_cases hlt : k < n
    · obtain ⟨b, off, rfl, hb, hc⟩ := h.cell (by omega)
      have hck := (hc k hlt).1
      have HS : Hid (sumW (l.take (k + 1)) = wrap64 (sumW (l.take k) + l[k]?.getD 0)) := by rw [take_snoc l k 0 (by have := h.len; omega)]; exact sumW_snoc _ _
      clear hc
      go_wp2
      go_round
      case rel => exact ⟨k + 1, by omega, by go_num, by rw [HS.out]⟩
      case measure => simp [intOf]; omega
    · go_wp2
      go_ret
      exact ⟨ret_int (by rw [List.take_of_length_le (by have := h.len; omega)]), rfl⟩


end Go.Proofs.Ytpngpgbmkkjjgaa

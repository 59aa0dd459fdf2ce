/-
  Contracts: the library's Grow and Concat, matrices out of rows.
-/
import Derived.Test.YtpngpgbmkkjjgaaC14
import Derived.Test.YtpngpgbmkkjjgaaM1
import Derived.Lib.AppendZerosOnto
import Derived.Lib.Walk
namespace Go.Proofs.Ytpngpgbmkkjjgaa
open Go.RowKit

abbrev Shp.ints : Shp (List Int) := Shp.slice Shp.int
theorem Shp.ints_good : Shp.ints.Good := Shp.slice_good Shp.int_good

/-! ### cells as such: what may be copied without being read -/

/-- A cell as it stands. -/
def Shp.val : Shp Value := ⟨1, fun _ cs x S => cs = [x] ∧ S = [] ∧ x.oneCell' = true⟩
theorem Shp.val_good : Shp.val.Good where
  pos := by simp [Shp.val]
  len := by rintro w cs x S ⟨rfl, _⟩; rfl
  one := by rintro w cs x S ⟨rfl, rfl, h⟩ u hu; simp at hu; subst hu; exact h
  keep := by rintro w w' cs x S h _; exact h
  lt := by rintro w cs x S ⟨_, rfl, _⟩ b hb; simp at hb
theorem cells_val {w : World} : ∀ {l : List Value}, (∀ x ∈ l, x.oneCell' = true) → CellsRd Shp.val w l l []
  | [], _ => ⟨rfl, rfl⟩
  | x :: l, hf => ⟨[x], l, [], [], rfl, rfl, ⟨rfl, rfl, hf x (by simp)⟩, cells_val (fun y hy => hf y (by simp [hy]))⟩
theorem cells_val_inv {w : World} : ∀ {l : List Value} {xs : List Value} {S : List Nat}, CellsRd Shp.val w xs l S → xs = l ∧ S = []
  | [], _, _, h => by simp [h.1, h.2]
  | x :: l, _, _, ⟨cs, ys, S1, S2, hx, hS, ⟨hc, h1, _⟩, ht⟩ => by
    obtain ⟨h2, h3⟩ := cells_val_inv ht
    subst hx; subst hS; subst hc; subst h1; subst h2; subst h3
    exact ⟨rfl, rfl⟩
/-- A slice that the call has made out of cells that read as l reads as l. -/
theorem own_val {α : Type} {s : Shp α} (g : s.Good) {e : Nat} (h1 : s.size = 1) {w : World} {B : Nat} {v : Value} {vs : List Value} {S : List Nat} (h : Own e Shp.val w B v vs S) {l : List α} {T : List Nat} (hc : CellsRd s w vs l T) :
    ∃ a n c S', v = .slice a n c ∧ n = l.length ∧ SliceRd s w a n c l S' := by
  obtain ⟨xs, T0, hown, hcc, _, _⟩ := h
  obtain ⟨rfl, -⟩ := cells_val_inv hcc
  obtain ⟨a, c, rfl, h2, h3, h4⟩ := own_form hown
  have hlen : xs.length = l.length := by have := hc.len g; rw [h1] at this; omega
  by_cases hl : l = []
  · subst hl
    exact ⟨a, _, c, [], rfl, hlen, ⟨hlen.symm, h2, h3, .inl ⟨rfl, rfl⟩⟩⟩
  · cases a with
    | none =>
      exfalso
      have hl0 : 0 < l.length := List.length_pos_iff.2 hl
      rcases hown.2 with ⟨_, h0⟩ | ⟨g, cap, cur, hv, _⟩
      · omega
      · simp at hv
    | some x =>
      obtain ⟨hx, hB, hlt, cur, hg, _, htake⟩ := h4 x rfl
      refine ⟨_, _, c, x.block :: T, rfl, hlen, ⟨hlen.symm, h2, h3, .inr ⟨x.block, 0, xs, T, hl, by rw [← hx], hlt, rfl, ?_, hc⟩⟩⟩
      rw [← htake]
      exact at_row hg

/-! ### Grow -/

theorem run_grow_nil {P : Program} {t tn e bytes : Nat} {size : Nat} (et : ElemTy P t e size bytes) (htn : P.underlying tn = some (.int .i64)) (hs : 0 < size) (w : World) (n : Nat) (h0 : 0 < n) (hn : n ≤ 1048576) (hb : n * bytes ≤ 140737488355328) (ty : Nat) :
    ∃ G cur, n ≤ G ∧ G ≤ maxLen ∧ cur.size = G * size ∧ (Builtin.append_ #[t, tn] ty #[.slice none 0 0, .int .i64 n]).run P w = .ok (.slice (some ⟨w.heap.size, 0, none⟩) n G) (w.drew.alloc (.cells cur e)) := by
  obtain ⟨i, z, h1, h2, h3, h4, h5⟩ := et.hi
  have hold : (Builtin.firstCells i.size 0 (.slice none 0 0)).run P w.drew = .ok ([] : List Value).toArray w.drew := run_firstCells_none w.drew i.size 0 0 0
  have h := Lib.run_append_grow_zeros w t tn ty e i z .i64 .i64 et.ht htn h1 h2 none 0 0 [] hold n h0 (by rw [h3]; exact hs) (by omega) (by omega) (by rw [h4]; omega) (growslice_fits (by omega) (by rw [h4]; simpa using hb))
  have hG := grownCap_ge w (0 + n) 0 e
  have hM := grownCap_le_maxLen w (0 + n) 0 e (by unfold maxLen; omega)
  rw [Nat.zero_add] at h hG hM
  refine ⟨grownCap w n 0 e, _, hG, hM, ?_, h⟩
  simp only [Array.size_append, List.size_toArray, List.length_nil, Nat.zero_add]
  unfold Builtin.zeroCells
  simp only [Array.size_map, Array.size_range, h5]
  rw [← Nat.add_mul]
  congr 1
  omega

set_option maxRecDepth 100000 in
set_option maxHeartbeats 1000000 in
theorem c_Grow_ints (n : Nat) (w : World) (hn : n ≤ 1048576) :
    Calls Try.prog 135 #[.slice none 0 0, .int .i64 n] w (Ret w fun v w' => ∃ S, Own 3 Shp.int w' w.heap.size v [] S) := by
  by_cases h0 : n = 0
  · subst h0
    show Calls Try.prog 135 #[.slice none 0 0, .int .i64 0] w _
    go_enter Try.func135, Try.ntmps135
    go_wp2
    go_ret
    exact ⟨_, rfl, Below.refl _ _, [], Own.nil _ _ _ _⟩
  · have h1 : ¬ ((n : Int) < 0) := by omega
    have h4 : (n : Int) > 0 := by omega
    have key : ∀ ty, ∃ G cur, n ≤ G ∧ G ≤ maxLen ∧ cur.size = G * 1 ∧ (Builtin.append_ #[22, 3] ty #[.slice none 0 0, .int .i64 n]).run Try.prog w = .ok (.slice (some ⟨w.heap.size, 0, none⟩) n G) (w.drew.alloc (.cells cur 3)) := fun ty =>
      run_grow_nil et_int Try.underlying3 (by decide) w n (by omega) hn (by omega) ty
    obtain ⟨G, cur, hG, hM, hc, hr0⟩ := key 22
    have hG63 : G ≤ 9223372036854775807 := by unfold maxLen at hM; omega
    have HE : Hid (Own 3 Shp.int (w.drew.alloc (.cells cur 3)) w.heap.size (.slice (some ⟨w.heap.size, 0, none⟩) 0 G) [] [w.heap.size] ∧ Below w.heap.size w (w.drew.alloc (.cells cur 3))) :=
      ⟨⟨[], [], World.ownsRow_made w.drew cur G (Nat.le_refl _) hM hc, ⟨rfl, rfl⟩, rfl, ⟨by simp, by simp⟩⟩, ((below_drewN 1 (Below.refl _ _) : Below w.heap.size w (w.drewN 1))).alloc (Nat.le_refl _) _⟩
    clear key hM hc
    go_enter Try.func135, Try.ntmps135
    go_wp2_with (at_builtin; refine Lib.wpList_append_run _ rfl _ _ _ _ rfl _ _ rfl rfl _ _ hr0 ?_)
    all_goals (go_ret; exact ⟨_, rfl, HE.out.2, _, HE.out.1⟩)

set_option maxHeartbeats 1000000 in
theorem c_Concat_ints (a : Option Addr) (n c : Nat) (l : List (List Int)) (S0 : List Nat) (w : World) (h : SliceRd Shp.ints w a n c l S0) (hn : n ≤ 1048576) (hfl : l.flatten.length ≤ 1048576) :
    Calls Try.prog 89 #[.slice a n c] w (Ret w fun v w' => ∃ S, Own 3 Shp.int w' w.heap.size v l.flatten S) := by
  have hlen := h.1
  have H0 := Lib.hid h
  have HL := Lib.hid hlen
  have HF := Lib.hid hfl
  clear h hlen hfl
  have HT : Hid (∀ k, k < n → (l.take (k + 1)).flatten = (l.take k).flatten ++ l[k]?.getD [] ∧ ((l.take (k + 1)).flatten).length ≤ 1048576) := by
    intro k hk
    have e : (l.take (k + 1)).flatten = (l.take k).flatten ++ l[k]?.getD [] := by rw [take_snoc l k [] (by have := HL.out; omega)]; simp
    refine ⟨e, ?_⟩
    have h2 : l.flatten = (l.take (k + 1)).flatten ++ (l.drop (k + 1)).flatten := by rw [← List.flatten_append, List.take_append_drop]
    have := HF.out
    rw [h2, List.length_append] at this
    omega
  go_enter Try.func89, Try.ntmps89
  go_wp2
  go_loop [3, 11] (fun s i => ∃ k z : Nat, k ≤ n ∧ i = .int .i64 k ∧ s = .int .i64 z ∧ Hid (z = (l.take k).flatten.length)) (fun _ i => n - (intOf i).toNat)
  case atStart => exact ⟨0, 0, Nat.zero_le _, rfl, rfl, rfl⟩
  case round =>
    obtain ⟨k, z, hk, rfl, rfl, HZ⟩ := hrel
    by_cases hlt : k < n
    · obtain ⟨b, o, cs, T, rfl, hb, hbS, hat, ⟨a', n', c', rfl, hsl⟩, hsub⟩ := H0.out.at Shp.ints_good [] hlt
      have q0 := (hat 0 _ rfl).1
      have e3 : Shp.ints.size = 1 := rfl
      rw [e3, Nat.mul_one, Nat.add_zero] at q0
      obtain ⟨y, hy⟩ : ∃ y, y = z + n' := ⟨_, rfl⟩
      have hyb : z + n' ≤ 1048576 := by
        have h1 := HT.out k hlt
        rw [h1.1, List.length_append, hsl.1] at h1
        have := HZ.out
        omega
      have hge : ¬ ((z : Int) + (n' : Int) < 0) := by omega
      have HY : Hid (z + n' = (l.take (k + 1)).flatten.length) := by
        show _ = _
        rw [(HT.out k hlt).1, List.length_append, hsl.1]
        have := HZ.out
        omega
      clear hat hsl hsub hy
      go_wp2
      go_round
      case rel => exact ⟨k + 1, z + n', by omega, by go_num, by go_num, HY⟩
      case measure => simp [intOf]; omega
    · have hz : z ≤ 1048576 := by
        have h1 : l.take k = l := List.take_of_length_le (by have := HL.out; omega)
        have := HZ.out
        have := HF.out
        rw [h1] at *
        omega
      have HG := Lib.hid (c_Grow_ints z w hz)
      clear hz
      go_wp2_with fail
      refine HG.out.mono ?_
      rintro e w1 ⟨v, rfl, hb1, S1, hO1⟩
      obtain ⟨a1, n1, c1, rfl⟩ := hO1.form
      have X1 : Hid (Own 3 Shp.int w1 w.heap.size (.slice a1 n1 c1) ((l.take 0).flatten) S1 ∧ Below w.heap.size w w1) := ⟨hO1, hb1⟩
      clear hO1 hb1 HG
      go_wp2
      go_loopw [6, 27] (fun s i wr => ∃ (k : Nat) (aF : Option Addr) (nF cF : Nat) (SF : List Nat), k ≤ n ∧ i = .int .i64 k ∧ s = .slice aF nF cF ∧ Hid (Own 3 Shp.int wr w.heap.size (.slice aF nF cF) ((l.take k).flatten) SF ∧ Below w.heap.size w wr)) (fun _ i _ => n - (intOf i).toNat)
      case atStart => exact ⟨0, a1, n1, c1, S1, Nat.zero_le _, rfl, rfl, X1⟩
      case round =>
        obtain ⟨k, aF, nF, cF, SF, hk, rfl, rfl, H⟩ := hrel
        by_cases hlt : k < n
        · obtain ⟨b, o, cs, T, rfl, hb, hbS, hat, ⟨a', n', c', rfl, hsl⟩, hsub⟩ := (H0.out.below Shp.ints_good H.out.2).at Shp.ints_good [] hlt
          have q0 := (hat 0 _ rfl).1
          have e3 : Shp.ints.size = 1 := rfl
          rw [e3, Nat.mul_one, Nat.add_zero] at q0
          have hle : (l.take k).flatten.length + n' ≤ 1048576 := by
            have h1 := HT.out k hlt
            rw [h1.1, List.length_append, hsl.1] at h1
            exact h1.2
          have hsz : w.heap.size ≤ wr.heap.size := H.out.2.size
          have HR := Lib.hid hsl.row
          clear hat hsl hsub
          go_wp2_with (at_builtin; refine wpList_app_ints et_int rfl (.tmp 31) (.tmp 32) rfl rfl H.out.1 hsz rfl HR.out (by omega) (by omega) ?_; intro v1 w2 S2 hO2 hF2 hS2; obtain ⟨a2, n2, c2, rfl⟩ := hO2.form; have Y := Lib.hid (And.intro hO2 hF2); clear hO2 hF2 hS2)
          go_roundw
          case rel =>
            refine ⟨k + 1, a2, n2, c2, S2, by omega, by go_num, rfl, ?_, ?_⟩
            · rw [(HT.out k hlt).1]; exact Y.out.1
            · exact H.out.2.trans (Y.out.2.to_below hsz (fun b hb => H.out.1.new.2 b hb))
          case measure => simp [intOf]; omega
        · have HE : Hid (l.take k = l) := List.take_of_length_le (by have := HL.out; omega)
          go_wp2
          go_ret
          exact ⟨_, rfl, H.out.2, SF, by have := H.out.1; rw [HE.out] at this; exact this⟩
end Go.Proofs.Ytpngpgbmkkjjgaa

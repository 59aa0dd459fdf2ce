/-
  Contracts: the laws' marks in spaces.
-/
import Derived.Test.YtpngpgbmkkjjgaaC28
namespace Go.Proofs.Ytpngpgbmkkjjgaa
open Go.RowKit

/-- The elements of a row, each on blocks of its own. -/
theorem CellsRd.parts {α : Type} {s : Shp α} (g : s.Good) {w : World} : ∀ {l : List α} {xs : List Value} {S : List Nat}, CellsRd s w xs l S → S.Nodup → ∃ f : Nat → List Nat, (∀ i, i < l.length → (f i).Nodup ∧ (∀ b ∈ f i, b ∈ S) ∧ (∀ d : α, ∃ cs, s.rd w cs (l[i]?.getD d) (f i) ∧ ∀ j u, cs[j]? = some u → xs[i * s.size + j]? = some u)) ∧ ∀ i j, i < l.length → j < l.length → i ≠ j → ∀ b ∈ f i, b ∉ f j
  | [], _, _, _, _ => ⟨fun _ => [], by simp, by simp⟩
  | y :: l, xs, S, ⟨cs, ys, S1, S2, hx, hS, hr, ht⟩, hn => by
    subst hx; subst hS
    have hn' := List.nodup_append.1 hn
    obtain ⟨f, h1, h2⟩ := ht.parts g hn'.2.1
    have hl := g.len hr
    refine ⟨fun i => match i with | 0 => S1 | i + 1 => f i, fun i hi => ?_, fun i j hi hj hij b hb => ?_⟩
    · match i with
      | 0 => exact ⟨hn'.1, fun b hb => by simp [show b ∈ S1 from hb], fun d => ⟨cs, by simpa using hr, fun j u hu => by rw [Nat.zero_mul, Nat.zero_add, List.getElem?_append_left (by rw [List.getElem?_eq_some_iff] at hu; exact hu.1)]; exact hu⟩⟩
      | i + 1 =>
        obtain ⟨a1, a2, a3⟩ := h1 i (by simpa using hi)
        refine ⟨a1, fun b hb => by simp [a2 b hb], fun d => ?_⟩
        obtain ⟨cs', c1, c2⟩ := a3 d
        refine ⟨cs', by simpa using c1, fun j u hu => ?_⟩
        rw [List.getElem?_append_right (by rw [hl, Nat.add_mul]; omega), hl, show (i + 1) * s.size + j - s.size = i * s.size + j by rw [Nat.add_mul]; omega]
        exact c2 j u hu
    · match i, j with
      | 0, 0 => exact absurd rfl hij
      | 0, j + 1 => exact fun hm => hn'.2.2 b hb b ((h1 j (by simpa using hj)).2.1 b hm) rfl
      | i + 1, 0 => exact fun hm => hn'.2.2 b hm b ((h1 i (by simpa using hi)).2.1 b hb) rfl
      | i + 1, j + 1 => exact h2 i j (by simpa using hi) (by simpa using hj) (by omega) b hb

set_option maxHeartbeats 1000000 in
theorem c_markIntSS (a : Option Addr) (n c : Nat) (l : List (List Int)) (S : List Nat) (k0 : Int) (w : World) (h : SliceRd Shp.ints w a n c l S) (hS : S.Nodup) (hk0 : 0 ≤ k0) (hk1 : k0 ≤ 1125899906842624) (hn : n ≤ 1048576) (hv : ∀ v ∈ l, v.length ≤ 1048576) :
    Calls Try.prog 83 #[.slice a n c, .int .i64 k0] w fun e w' => ∃ k1 : Int, e = .returned (.int .i64 k1) ∧ 0 ≤ k1 ∧ k1 ≤ k0 + 1099511627776 ∧ Frm S w w' := by
  have hlen := h.1
  have hmx := h.max
  obtain ⟨-, -, -, h4⟩ := id h
  have HP : Hid (0 < n → ∃ (b o : Nat) (f : Nat → List Nat), a = some ⟨b, o, none⟩ ∧ b < w.heap.size ∧ b ∈ S ∧ (∀ i, i < n → ∃ a' n' c', w.cell? ⟨b, o + i, none⟩ = some (.slice a' n' c') ∧ SliceRd Shp.int w a' n' c' (l[i]?.getD []) (f i) ∧ n' ≤ 1048576 ∧ (∀ t ∈ f i, t ∈ S) ∧ b ∉ f i) ∧ ∀ i j, i < n → j < n → i ≠ j → ∀ t ∈ f i, t ∉ f j) := by
    intro h0
    rcases h4 with ⟨rfl, -⟩ | ⟨b, o, xs, T, hne, rfl, hb, rfl, hat, hc⟩
    · simp at hlen; omega
    · have hn' := List.nodup_cons.1 hS
      obtain ⟨f, f1, f2⟩ := hc.parts Shp.ints_good hn'.2
      refine ⟨b, o, f, rfl, hb, by simp, fun i hi => ?_, fun i j hi hj => f2 i j (by omega) (by omega)⟩
      obtain ⟨g1, g2, g3⟩ := f1 i (by omega)
      obtain ⟨cs, ⟨a', n', c', rfl, hsl⟩, hcs⟩ := g3 []
      refine ⟨a', n', c', ?_, hsl, ?_, fun t ht => by simp [g2 t ht], fun hm => hn'.1 (g2 b hm)⟩
      · have h5 := hcs 0 _ rfl
        have e3 : Shp.ints.size = 1 := rfl
        rw [e3, Nat.mul_one, Nat.add_zero] at h5
        exact (hat i _ h5).1
      · rw [← hsl.1]
        have h1 : i < l.length := by omega
        simp only [h1, List.getElem?_eq_getElem, Option.getD_some]
        exact hv _ (List.getElem_mem h1)
  clear h h4 hv hS
  go_enter Try.func83, Try.ntmps83
  go_wp2
  by_cases h0 : 0 < n
  · obtain ⟨b, o, f, rfl, hb, hbS, hcell, hdis⟩ := HP.out h0
    have HC := Lib.hid (And.intro hb (And.intro hbS (And.intro hcell hdis)))
    clear hcell hdis HP hb hbS
    go_loopw [1, 5] (fun q i wr => ∃ (k : Nat) (y : Int), k ≤ n ∧ i = .int .i64 k ∧ q = .int .i64 y ∧ 0 ≤ y ∧ y ≤ k0 + 1048576 * k ∧ Hid (∃ T, Frm T w wr ∧ ∀ t ∈ T, ∃ i, i < k ∧ t ∈ f i)) (fun _ i _ => n - (intOf i).toNat)
    case atStart => exact ⟨0, k0, Nat.zero_le _, rfl, rfl, hk0, by omega, [], Frm.refl _ _, by simp⟩
    case round =>
      obtain ⟨k, y, hk, rfl, rfl, hy0, hy1, HF⟩ := hrel
      by_cases hlt : k < n
      · obtain ⟨T, hF, hT⟩ := HF.out
        obtain ⟨a', n', c', hc1, hsl, hn', hfS, hbf⟩ := HC.out.2.2.1 k hlt
        have q0 : wr.cell? ⟨b, o + k, none⟩ = some (.slice a' n' c') := by
          rw [hF.cell HC.out.1 (fun hm => ?_)]
          · exact hc1
          · obtain ⟨i, hi, hm'⟩ := hT b hm
            obtain ⟨_, _, _, _, _, _, _, h9⟩ := HC.out.2.2.1 i (by omega)
            exact h9 hm'
        have hsl2 : SliceRd Shp.int wr a' n' c' (l[k]?.getD []) (f k) := hsl.frm Shp.int_good hF (fun t ht hm => by
          obtain ⟨i, hi, hm'⟩ := hT t hm
          exact HC.out.2.2.2 i k (by omega) hlt (by omega) t hm' ht)
        have HM := Lib.hid (c_markIntS a' n' c' (l[k]?.getD []) (f k) y wr hsl2 hy0 (by omega) hn')
        have HFT := Lib.hid (And.intro hF hT)
        clear hF hT hc1 hsl hsl2 hfS hbf
        go_wp2_with fail
        refine HM.out.mono ?_
        rintro e w2 ⟨rfl, hF2, -⟩
        have HN : Hid (∃ T, Frm T w w2 ∧ ∀ t ∈ T, ∃ i, i < k + 1 ∧ t ∈ f i) := by
          refine ⟨T ++ f k, (HFT.out.1.mono (S' := T ++ f k) (fun t ht _ => by simp [ht])).trans hF2 (fun t ht _ => by simp [ht]), fun t ht => ?_⟩
          rcases List.mem_append.1 ht with h | h
          · obtain ⟨i, hi, hm⟩ := HFT.out.2 t h
            exact ⟨i, by omega, hm⟩
          · exact ⟨k, by omega, h⟩
        have hyb : y + (n' : Int) ≤ k0 + 1048576 * ((k : Int) + 1) := by omega
        clear hF2 HFT HM
        go_wp2
        go_roundw
        case rel => exact ⟨k + 1, y + n', by omega, by go_num, rfl, by omega, by push_cast; omega, HN.out⟩
        case measure => simp [intOf]; omega
      · obtain rfl : k = n := by omega
        have HFS : Hid (Frm S w wr) := by
          obtain ⟨T, hF, hT⟩ := HF.out
          refine hF.mono (fun t ht _ => ?_)
          obtain ⟨i, hi, hm⟩ := hT t ht
          obtain ⟨_, _, _, _, _, _, h8, _⟩ := HC.out.2.2.1 i hi
          exact h8 t hm
        go_wp2
        go_ret
        exact ⟨y, rfl, hy0, by omega, HFS.out⟩
  · have hn0 : n = 0 := by omega
    have e1 : ¬ ((0 : Int) < (n : Int)) := by omega
    clear HP
    go_loop [1, 5] (fun q i => q = .int .i64 k0 ∧ i = .int .i64 0) (fun _ _ => 0)
    case atStart => exact ⟨rfl, rfl⟩
    case round =>
      obtain ⟨rfl, rfl⟩ := hrel
      clear hn0
      go_wp2
      go_ret
      exact ⟨k0, rfl, hk0, by omega, Frm.refl _ _⟩

set_option maxHeartbeats 400000 in
theorem c_markSpace (s : Int) (a : Option Addr) (n c : Nat) (l : List (List Int)) (S : List Nat) (k0 : Int) (w : World) (h : SliceRd Shp.ints w a n c l S) (hS : S.Nodup) (hk0 : 0 ≤ k0) (hk1 : k0 ≤ 1125899906842624) (hn : n ≤ 1048576) (hv : ∀ v ∈ l, v.length ≤ 1048576) :
    Calls Try.prog 30 #[.agg #[.int .i64 s, .slice a n c], .int .i64 k0] w fun e w' => ∃ k1 : Int, e = .returned (.int .i64 k1) ∧ 0 ≤ k1 ∧ k1 ≤ k0 + 1099511627776 ∧ Frm S w w' := by
  have b0 : Below w.heap.size w (w.alloc (.cells #[.int .i64 s, .slice a n c] 38)) := (Below.refl _ _).alloc (Nat.le_refl _) _
  have HC := Lib.hid (c_markIntSS a n c l S k0 _ (h.below Shp.ints_good b0) hS hk0 hk1 hn hv)
  have HB : Hid (Frm S w (w.alloc (.cells #[.int .i64 s, .slice a n c] 38))) := (Frm.of_below b0).mono (by simp)
  clear b0 h hv
  go_enter Try.func30, Try.ntmps30
  go_wp2_with fail
  refine HC.out.mono ?_
  rintro e w1 ⟨k1, rfl, h1, h2, hF⟩
  have HF : Hid (Frm S w w1) := HB.out.trans hF (fun t ht _ => ht)
  clear hF
  go_wp2
  go_ret
  exact ⟨k1, rfl, h1, h2, HF.out⟩
end Go.Proofs.Ytpngpgbmkkjjgaa

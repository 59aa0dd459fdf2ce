/-
  Contracts: the laws' sizes, copies and comparisons of spaces.
-/
import Derived.Test.YtpngpgbmkkjjgaaC11a
import Derived.Test.YtpngpgbmkkjjgaaC22
namespace Go.Proofs.Ytpngpgbmkkjjgaa
open Go.RowKit

/-! ### one cell of a row set anew -/

theorem CellsRd.set1 {α : Type} {s : Shp α} (g : s.Good) (h1 : s.size = 1) {w : World} : ∀ {l : List α} {xs : List Value} {S : List Nat}, CellsRd s w xs l S → ∀ {i : Nat} {u : Value} {x : α} {T : List Nat}, i < l.length → s.rd w [u] x T → S.Nodup → T.Nodup → (∀ b ∈ T, b ∉ S) →
    ∃ S', CellsRd s w (xs.set i u) (l.set i x) S' ∧ S'.Nodup ∧ ∀ b ∈ S', b ∈ S ∨ b ∈ T
  | [], _, _, _, i, u, x, T, hi, _, _, _, _ => by simp at hi
  | y :: l, xs, S, ⟨cs, ys, S1, S2, hx, hS, hr, ht⟩, 0, u, x, T, hi, hrd, hn, hT, hd => by
    subst hx; subst hS
    have hl := g.len hr
    rw [h1] at hl
    obtain ⟨c0, rfl⟩ : ∃ c0, cs = [c0] := by
      match cs, hl with
      | [c0], _ => exact ⟨c0, rfl⟩
    refine ⟨T ++ S2, ⟨[u], ys, T, S2, rfl, rfl, hrd, ht⟩, ?_, ?_⟩
    · rw [List.nodup_append] at hn ⊢
      exact ⟨hT, hn.2.1, fun a ha b hb e => hd a ha (by simp [e, hb])⟩
    · intro b hb
      rcases List.mem_append.1 hb with h | h
      · exact .inr h
      · exact .inl (by simp [h])
  | y :: l, xs, S, ⟨cs, ys, S1, S2, hx, hS, hr, ht⟩, i + 1, u, x, T, hi, hrd, hn, hT, hd => by
    subst hx; subst hS
    have hl := g.len hr
    rw [h1] at hl
    obtain ⟨c0, rfl⟩ : ∃ c0, cs = [c0] := by
      match cs, hl with
      | [c0], _ => exact ⟨c0, rfl⟩
    have hn' := List.nodup_append.1 hn
    obtain ⟨S', e1, e2, e3⟩ := ht.set1 g h1 (i := i) (by simpa using hi) hrd hn'.2.1 hT (fun b hb hm => hd b hb (by simp [hm]))
    refine ⟨S1 ++ S', ⟨[c0], ys.set i u, S1, S', rfl, rfl, hr, e1⟩, ?_, ?_⟩
    · rw [List.nodup_append]
      refine ⟨hn'.1, e2, fun a ha b hb e => ?_⟩
      subst e
      rcases e3 a hb with h | h
      · exact hn'.2.2 a ha a h rfl
      · exact hd a h (by simp [ha])
    · intro b hb
      rcases List.mem_append.1 hb with h | h
      · exact .inl (by simp [h])
      · rcases e3 b h with h' | h'
        · exact .inl (by simp [h'])
        · exact .inr h'

/-- A cell of a slice of one's own set to what is new. -/
theorem Own.set1 {α : Type} {s : Shp α} (g : s.Good) (h1 : s.size = 1) {e : Nat} {w : World} {B : Nat} {b n c : Nat} {l : List α} {S : List Nat} (h : Own e s w B (.slice (some ⟨b, 0, none⟩) n c) l S) {i : Nat} (hi : i < l.length) {u : Value} {x : α} {T : List Nat} (hrd : s.rd w [u] x T) (hT : New B T) (hd : ∀ k ∈ T, k ∉ S) :
    ∃ S', Own e s (w.setCell ⟨b, i, none⟩ u) B (.slice (some ⟨b, 0, none⟩) n c) (l.set i x) S' ∧ ∀ k ∈ S', k ∈ S ∨ k ∈ T := by
  have hn0 := h.room.1
  subst hn0
  obtain ⟨xs, T0, hown, hc, rfl, hn⟩ := h
  rw [h1] at hown
  have hb : (Value.slice (some ⟨b, 0, none⟩) l.length c).ownBlock.toList = [b] := rfl
  rw [hb] at hn hd ⊢
  have hn' := List.nodup_append.1 hn.1
  obtain ⟨S', e1, e2, e3⟩ := hc.set1 g h1 hi hrd hn'.2.1 hT.1 (fun k hk hm => hd k hk (by simp [hm]))
  have hst := (hown.stored i u).1
  have hne : ∀ k ∈ S', k ≠ b := by
    intro k hk he
    subst he
    rcases e3 k hk with h | h
    · exact hn'.2.2 k (by simp) k h rfl
    · exact hd k h (by simp)
  refine ⟨[b] ++ S', ⟨xs.set i u, S', by rw [List.length_set, h1]; exact hst, e1.keep g (fun k hk => Below.heap_setCell _ _ _ _ (hne k hk)), by rw [hb], ?_, ?_⟩, ?_⟩
  · rw [List.nodup_append]
    exact ⟨by simp, e2, fun a ha k hk e => hne k hk (by simp at ha; rw [← e, ha])⟩
  · intro k hk
    rcases List.mem_append.1 hk with h | h
    · exact hn.2 k (by simp at h; simp [h])
    · rcases e3 k h with h' | h'
      · exact hn.2 k (by simp [h'])
      · exact hT.2 k h'
  · intro k hk
    rcases List.mem_append.1 hk with h | h
    · exact .inl (by simp at h; simp [h])
    · rcases e3 k h with h' | h'
      · exact .inl (by simp [h'])
      · exact .inr h'

theorem nils_rd {w : World} : ∀ n, CellsRd Shp.ints w (List.replicate n (.slice none 0 0)) (List.replicate n []) []
  | 0 => ⟨rfl, rfl⟩
  | n + 1 => ⟨[.slice none 0 0], _, [], [], rfl, rfl, ⟨none, 0, 0, rfl, ⟨rfl, Nat.le_refl _, Nat.zero_le _, .inl ⟨rfl, rfl⟩⟩⟩, nils_rd n⟩

theorem Try.infoInts : (Try.prog.info? 22).map (fun i => (i.zero, i.size, i.bytes)) = some (some (.slice none 0 0), 1, 24) := by kernel_rfl

set_option maxHeartbeats 1000000 in
theorem c_toIntSS (a : Option Addr) (n c : Nat) (l : List (List Int)) (S0 : List Nat) (w : World) (h : SliceRd Shp.ints w a n c l S0) (hn : n ≤ 1048576) (hv : ∀ v ∈ l, v.length ≤ 1048576) :
    Calls Try.prog 50 #[.slice a n c] w (Ret w fun v w' => ∃ S, Own 22 Shp.ints w' w.heap.size v l S) := by
  have hlen := h.1
  have H0 := Lib.hid h
  have HL := Lib.hid hlen
  have HV : Hid (∀ k, k < n → (l[k]?.getD []).length ≤ 1048576) := by
    intro k hk
    have h1 : k < l.length := by omega
    simp only [h1, List.getElem?_eq_getElem, Option.getD_some]
    exact hv _ (List.getElem_mem h1)
  obtain ⟨i0, hi, hz0, hz1, hz2⟩ := info_parts Try.infoInts
  obtain ⟨w1, hmk, hown0, hg0⟩ := run_make_full (P := Try.prog) w w.heap.size 33 22 i0 (.slice none 0 0) 1 Try.underlying33 hi hz0 hz1 .i64 .i64 n (by rw [hz2]; omega) (by unfold maxLen; omega) (Nat.le_refl _)
  have hb1 : Below w.heap.size w w1 := (Below.refl _ _).grown hg0 (Nat.le_refl _) (fun k hk => by cases hk)
  have HO : Hid (∃ S, Own 22 Shp.ints w1 w.heap.size (.slice (some ⟨w.heap.size, 0, none⟩) n n) (l.take 0 ++ List.replicate (n - 0) []) S ∧ Below w.heap.size w w1) := by
    simp only [Value.cells, toList_madeCells_one, Nat.mul_one] at hown0
    have e : l.take 0 ++ List.replicate (n - 0) [] = List.replicate n ([] : List Int) := by simp
    rw [e]
    refine ⟨[w.heap.size] ++ [], ⟨List.replicate n (.slice none 0 0), [], ?_, nils_rd n, rfl, ?_⟩, hb1⟩
    · rw [List.length_replicate]
      exact hown0
    · exact ⟨by simp [Value.ownBlock], by simp [Value.ownBlock]⟩
  clear hz0 hz1 hz2 hi hg0 hown0 hb1 h hlen hv
  go_enter Try.func50, Try.ntmps50
  go_wp2
  clear hmk
  go_loopw [4] (fun i wr => ∃ k : Nat, k ≤ n ∧ i = .int .i64 k ∧ Hid (∃ S, Own 22 Shp.ints wr w.heap.size (.slice (some ⟨w.heap.size, 0, none⟩) n n) (l.take k ++ List.replicate (n - k) []) S ∧ Below w.heap.size w wr)) (fun i _ => n - (intOf i).toNat)
  case atStart => exact ⟨0, Nat.zero_le _, rfl, HO.out⟩
  clear HO
  case round =>
    obtain ⟨k, hk, rfl, HO⟩ := hrel
    by_cases hlt : k < n
    · obtain ⟨S, hown, hbel⟩ := HO.out
      obtain ⟨b, o, cs, T, rfl, hb, hbS, hat, ⟨a', n', c', rfl, hsl⟩, hsub⟩ := (H0.out.below Shp.ints_good hbel).at Shp.ints_good [] hlt
      have q0 := (hat 0 _ rfl).1
      have e3 : Shp.ints.size = 1 := rfl
      rw [e3, Nat.mul_one, Nat.add_zero] at q0
      have hn' : n' ≤ 1048576 := by rw [← hsl.1]; exact HV.out k hlt
      have HC := Lib.hid (c_toIntS a' n' c' (l[k]?.getD []) wr hsl.row hn')
      have HOw := Lib.hid (And.intro hown hbel)
      have HT : Hid ((l.take k ++ List.replicate (n - k) []).set k (l[k]?.getD []) = l.take (k + 1) ++ List.replicate (n - (k + 1)) [] ∧ (l.take k ++ List.replicate (n - k) []).length = n) := by
        have h1 := HL.out
        have h3 : (l.take k).length = k := by simp; omega
        refine ⟨?_, by simp; omega⟩
        rw [take_snoc l k [] (by omega), List.set_append_right _ _ (by omega), h3]
        rw [show n - k = (n - (k + 1)) + 1 by omega, List.replicate_succ]
        simp
      clear hat hsl hsub hbS hb HO hown hbel
      go_wp2_with fail
      refine HC.out.mono ?_
      rintro e w2 ⟨v, rfl, hb2, S2, hO2⟩
      obtain ⟨a2, n2, c2, S2', rfl, -, rd2, nw2, -⟩ := hO2.rd
      have HW2 : Hid (Own 22 Shp.ints w2 w.heap.size (.slice (some ⟨w.heap.size, 0, none⟩) n n) (l.take k ++ List.replicate (n - k) []) S ∧ Below w.heap.size w w2) := ⟨HOw.out.1.below Shp.ints_good hb2, below_then HOw.out.2 hb2⟩
      have hcell : ∃ u, w2.cell? ⟨w.heap.size, k, none⟩ = some u ∧ w2.frozen? ⟨w.heap.size, k, none⟩ = false := by
        obtain ⟨xs, T0, hown, hc, -, -⟩ := HW2.out.1
        have hx : k < xs.length := by have := hc.len Shp.ints_good; rw [e3, HT.out.2] at this; omega
        have hown' : w2.ownsRow w.heap.size 22 1 (.slice (some ⟨w.heap.size, 0, none⟩) n n) n xs := by have h := hown; rw [HT.out.2] at h; exact h
        exact ⟨xs[k], by rw [hown'.cellAt k (by omega)]; simp [hx], hown'.frozenAt k⟩
      obtain ⟨u, hst, hfr⟩ := hcell
      have HN : Hid (∃ S', Own 22 Shp.ints (w2.setCell ⟨w.heap.size, k, none⟩ (.slice a2 n2 c2)) w.heap.size (.slice (some ⟨w.heap.size, 0, none⟩) n n) (l.take (k + 1) ++ List.replicate (n - (k + 1)) []) S' ∧ Below w.heap.size w (w2.setCell ⟨w.heap.size, k, none⟩ (.slice a2 n2 c2))) := by
        have hlt0 := HOw.out.1.lt Shp.ints_good
        obtain ⟨S', h1, -⟩ := HW2.out.1.set1 Shp.ints_good rfl (i := k) (u := .slice a2 n2 c2) (x := l[k]?.getD []) (T := S2') (by rw [HT.out.2]; exact hlt) ⟨a2, n2, c2, rfl, rd2⟩ (nw2.mono HOw.out.2.size) (fun b hb hm => by have h2 := nw2.2 b hb; have h3 := hlt0 b hm; omega)
        rw [HT.out.1] at h1
        exact ⟨S', h1, HW2.out.2.setCell (Nat.le_refl _) _⟩
      clear hb2 hO2 rd2 nw2 HC HOw HW2 q0
      go_wp2
      go_roundw
      case rel => exact ⟨k + 1, by omega, by go_num, HN.out⟩
      case measure => simp [intOf]; omega
    · have hk' : k = n := by omega
      subst hk'
      have HF : Hid (l.take k ++ List.replicate (k - k) [] = l) := by
        show _ = _
        have h1 := HL.out
        rw [Nat.sub_self, List.replicate_zero, List.append_nil, ← h1, List.take_length]
      go_wp2
      go_ret
      obtain ⟨S, h1, h2⟩ := HO.out
      rw [HF.out] at h1
      exact ⟨_, rfl, h2, S, h1⟩

/-! ### sizes -/

def szL (left : Int) : List Nat → Int
  | [] => left
  | n :: r => if szI left n < 0 then -1 else szL (szI left n) r
def szSS (l : List (List Int)) (left : Int) : Int := if left - l.length < 0 then -1 else szL (left - l.length) (l.map List.length)
theorem szL_pos : ∀ {L : List Nat} {left : Int}, ¬ szL left L < 0 → (∀ n ∈ L, (n : Int) ≤ left) ∧ szL left L ≤ left
  | [], left, h => ⟨by simp, Int.le_refl _⟩
  | n :: r, left, h => by
    unfold szL at h ⊢
    by_cases e : szI left n < 0
    · rw [if_pos e] at h; omega
    · rw [if_neg e] at h ⊢
      have h1 := szI_pos e
      have h2 := szL_pos h
      refine ⟨fun m hm => ?_, by omega⟩
      rcases List.mem_cons.1 hm with rfl | h'
      · exact h1.1
      · have := h2.1 m h'; omega
theorem szSS_pos {l : List (List Int)} {left : Int} (h : ¬ szSS l left < 0) : (l.length : Int) ≤ left ∧ (∀ v ∈ l, (v.length : Int) ≤ left) ∧ szSS l left ≤ left := by
  unfold szSS at h ⊢
  by_cases e : left - l.length < 0
  · rw [if_pos e] at h; omega
  · rw [if_neg e] at h ⊢
    have h2 := szL_pos h
    refine ⟨by omega, fun v hv => ?_, by omega⟩
    have := h2.1 v.length (List.mem_map.2 ⟨v, hv, rfl⟩)
    omega

set_option maxHeartbeats 1000000 in
theorem c_szIntSS (a : Option Addr) (n c : Nat) (l : List (List Int)) (S0 : List Nat) (left : Int) (w : World) (h : SliceRd Shp.ints w a n c l S0) (h0 : 0 ≤ left) (h1 : left ≤ 1048576) :
    Calls Try.prog 47 #[.slice a n c, .int .i64 left] w fun e w' => e = .returned (.int .i64 (szSS l left)) ∧ w = w' := by
  have hmx := h.max
  have HL := Lib.hid h.1
  have H0 := Lib.hid h
  clear h
  by_cases hneg : left - (n : Int) < 0
  · have HV : Hid (szSS l left = -1) := by show _ = _; unfold szSS; rw [HL.out, if_pos hneg]
    go_enter Try.func47, Try.ntmps47
    go_wp2
    go_ret
    exact ⟨ret_int HV.out.symm, rfl⟩
  · have HV : Hid (szSS l left = szL (left - n) ((l.drop 0).map List.length)) := by show _ = _; unfold szSS; rw [HL.out, if_neg hneg, List.drop_zero]
    go_enter Try.func47, Try.ntmps47
    go_wp2
    go_loop [1, 5] (fun q i => ∃ (k : Nat) (y : Int), k ≤ n ∧ i = .int .i64 k ∧ q = .int .i64 y ∧ 0 ≤ y ∧ y ≤ 1048576 ∧ Hid (szSS l left = szL y ((l.drop k).map List.length))) (fun _ i => n - (intOf i).toNat)
    case atStart => exact ⟨0, left - n, Nat.zero_le _, rfl, rfl, by omega, by omega, HV.out⟩
    case round =>
      obtain ⟨k, y, hk, rfl, rfl, hy0, hy1, HK⟩ := hrel
      by_cases hlt : k < n
      · obtain ⟨b, o, cs, T, rfl, hb, hbS, hat, ⟨a', n', c', rfl, hsl⟩, hsub⟩ := H0.out.at Shp.ints_good [] hlt
        have q0 := (hat 0 _ rfl).1
        have e3 : Shp.ints.size = 1 := rfl
        rw [e3, Nat.mul_one, Nat.add_zero] at q0
        have hm' := hsl.max
        have HC := Lib.hid (c_szIntS a' n' c' y w hy0 hy1 hm')
        have HD : Hid ((l.drop k).map List.length = n' :: (l.drop (k + 1)).map List.length) := by
          have h1 : k < l.length := by have := HL.out; omega
          show _ = _
          rw [List.drop_eq_getElem_cons h1, List.map_cons]
          have h2 := hsl.1
          simp only [h1, List.getElem?_eq_getElem, Option.getD_some] at h2
          rw [h2]
        clear hat hsl hsub hbS hb
        by_cases e2 : szI y n' < 0
        · have HV2 : Hid (szSS l left = -1) := by show _ = _; rw [HK.out, HD.out, szL, if_pos e2]
          go_wp2_with (go_at_call 38; refine HC.out.mono ?_; rintro e w' ⟨rfl, rfl⟩)
          go_ret
          exact ⟨ret_int HV2.out.symm, rfl⟩
        · have hp := szI_pos e2
          have hp2 : 0 ≤ szI y n' ∧ szI y n' ≤ 1048576 := by omega
          have HV2 : Hid (szSS l left = szL (szI y n') ((l.drop (k + 1)).map List.length)) := by show _ = _; rw [HK.out, HD.out, szL, if_neg e2]
          have HP2 := Lib.hid hp2
          clear hp hp2
          generalize szI y n' = z at *
          go_wp2_with (go_at_call 38; refine HC.out.mono ?_; rintro e w' ⟨rfl, rfl⟩)
          go_round
          case rel => exact ⟨k + 1, z, by omega, by go_num, rfl, HP2.out.1, HP2.out.2, HV2.out⟩
          case measure => simp [intOf]; omega
      · have hkn : k = n := by omega
        subst hkn
        have HV2 : Hid (szSS l left = y) := by
          show _ = _
          rw [HK.out, List.drop_eq_nil_of_le (by have := HL.out; omega)]
          rfl
        go_wp2
        go_ret
        exact ⟨ret_int HV2.out.symm, rfl⟩

set_option maxHeartbeats 400000 in
theorem c_szSpace (s : Int) (a : Option Addr) (n c : Nat) (l : List (List Int)) (S0 : List Nat) (left : Int) (w : World) (h : SliceRd Shp.ints w a n c l S0) (h0 : 0 ≤ left) (h1 : left ≤ 1048576) :
    Calls Try.prog 16 #[.agg #[.int .i64 s, .slice a n c], .int .i64 left] w (Ret w fun v _ => ∃ z, v = .int .i64 z ∧ (z < 0 ∨ z = szSS l left) ∧ (0 ≤ z ∨ szSS l left < 0)) := by
  have b0 : Below w.heap.size w (w.alloc (.cells #[.int .i64 s, .slice a n c] 35)) := (Below.refl _ _).alloc (Nat.le_refl _) _
  have HC := Lib.hid (c_szIntSS a n c l S0 left _ (h.below Shp.ints_good b0) h0 h1)
  have B0 := Lib.hid b0
  clear b0 h
  by_cases hneg : szSS l left < 0
  · have HN := Lib.hid hneg
    go_enter Try.func16, Try.ntmps16
    go_wp2_with (go_at_call 47; refine HC.out.mono ?_; rintro e w' ⟨rfl, rfl⟩)
    go_ret
    exact ⟨_, rfl, B0.out, -1, rfl, .inl (by decide), .inr HN.out⟩
  · have HN := Lib.hid hneg
    go_enter Try.func16, Try.ntmps16
    go_wp2_with (go_at_call 47; refine HC.out.mono ?_; rintro e w' ⟨rfl, rfl⟩)
    go_ret
    exact ⟨_, rfl, B0.out, _, rfl, .inr rfl, .inl (by have := HN.out; omega)⟩
end Go.Proofs.Ytpngpgbmkkjjgaa

/-
  Contracts: zero matrices whose block is known, matrices out of columns.
-/
import Derived.Test.YtpngpgbmkkjjgaaC17
import Derived.Test.YtpngpgbmkkjjgaaC18
namespace Go.Proofs.Ytpngpgbmkkjjgaa
open Go.RowKit

theorem mulW {a b c : Nat} (h : c = a * b) (hc : c ≤ 4611686018427387904) : wrap64 ((a : Int) * (b : Int)) = (c : Int) := by
  have e : (a : Int) * (b : Int) = ((a * b : Nat) : Int) := by push_cast; rfl
  rw [e, ← h]
  exact IntWalk.wrap64_in _ ⟨by omega, by omega⟩

theorem matAt_zero {w : World} {B g N r c : Nat} (hN : N = r * c) (h : w.ownsRow B 3 1 (.slice (some ⟨g, 0, none⟩) N N) N ((List.replicate N 0).map (Value.int .i64))) : MatAt w g r c (fun _ _ => 0) := by
  refine ⟨(h.lt g rfl).2, fun i j hi hj => ⟨?_, h.frozenAt _⟩⟩
  have hlt := cell_lt (n := c) hi hj
  rw [h.cellAt _ (by simp; omega)]
  simp [hN, hlt]

def cellsL (m n : Nat) (F : Nat → Nat → Int) : List Int := (List.range (m * n)).map fun t => F (t / n) (t % n)
theorem cellsL_len (m n : Nat) (F : Nat → Nat → Int) : (cellsL m n F).length = m * n := by simp [cellsL]
theorem cellsL_get (m n : Nat) (F : Nat → Nat → Int) {i j : Nat} (hi : i < m) (hj : j < n) : (cellsL m n F)[i * n + j]?.getD 0 = F i j := by
  have h := cell_lt (n := n) hi hj
  have h1 : (i * n + j) / n = i := by rw [Nat.mul_comm, Nat.mul_add_div (by omega), Nat.div_eq_of_lt hj]; rfl
  have h2 : (i * n + j) % n = j := by rw [Nat.mul_comm, Nat.mul_add_mod, Nat.mod_eq_of_lt hj]
  simp [cellsL, h, h1, h2]
theorem split_lt {m n t : Nat} (h : t < m * n) : t / n < m ∧ t % n < n ∧ t = t / n * n + t % n := by
  have hn : 0 < n := by rcases Nat.eq_zero_or_pos n with h0 | h0; (subst h0; simp at h); exact h0
  refine ⟨(Nat.div_lt_iff_lt_mul hn).2 h, Nat.mod_lt _ hn, ?_⟩
  have := Nat.div_add_mod t n
  rw [Nat.mul_comm] at this
  omega
theorem MatAt.rd {w : World} {g m n N c : Nat} {F : Nat → Nat → Int} (h : MatAt w g m n F) (hf : ∀ i j, i < m → j < n → fits (F i j)) (hN : N = m * n) (hc : N ≤ c) (hm : c ≤ maxLen) : SliceRd Shp.int w (some ⟨g, 0, none⟩) N c (cellsL m n F) (iblk (some ⟨g, 0, none⟩) N) := by
  subst hN
  have hg : ∀ t, t < m * n → (cellsL m n F)[t]?.getD 0 = F (t / n) (t % n) := fun t ht => by simp [cellsL, ht]
  refine ints_mk ⟨cellsL_len _ _ _, by unfold maxLen at hm; omega, fun _ => ⟨g, 0, rfl, h.1, fun t ht => ?_⟩, fun t ht => ?_⟩ hc hm
  · obtain ⟨h1, h2, h3⟩ := split_lt ht
    rw [hg t ht, Nat.zero_add]
    have := h.2 _ _ h1 h2
    rw [← h3] at this
    exact this
  · obtain ⟨h1, h2, h3⟩ := split_lt ht
    rw [hg t ht]
    exact hf _ _ h1 h2
theorem InP.fits' {p : Int} {m n : Nat} {F : Nat → Nat → Int} (h : InP p m n F) (hp : p ≤ 5) : ∀ i j, i < m → j < n → fits (F i j) := fun i j hi hj => by have := h i j hi hj; unfold fits; omega


set_option maxHeartbeats 1000000 in
theorem c_zeroAt (r c N : Nat) (w : World) (hN : N = r * c) (hrc : N ≤ 1048576) (hr : r ≤ 1048576) (hc : c ≤ 1048576) :
    Calls Try.prog 97 #[.int .i64 r, .int .i64 c] w (Ret w fun v w' => v = .agg #[.int .i64 r, .int .i64 c, .slice (some ⟨w.heap.size + 1, 0, none⟩) N N] ∧ MatAt w' (w.heap.size + 1) r c (fun _ _ => 0)) := by
  have hw := mulW hN (by omega)
  have HM := Lib.hid hN
  obtain ⟨i0, hi, hz0, hz1, hz2⟩ := info_parts Try.info3
  have b0 : Below w.heap.size w (w.alloc (.cells #[.int .i64 0, .int .i64 0, .slice none 0 0] 107)) := (Below.refl _ _).alloc (Nat.le_refl _) _
  obtain ⟨w1, hmk, hown0, hg0⟩ := run_make_full (P := Try.prog) (w.alloc (.cells #[.int .i64 0, .int .i64 0, .slice none 0 0] 107)) (w.heap.size + 1) 22 3 i0 (.int .i64 0) 1 Try.underlying22 hi hz0 hz1 .i64 .i64 N (by rw [hz2]; omega) (by unfold maxLen; omega) (by simp)
  have hb1 : Below (w.heap.size + 1) (w.alloc (.cells #[.int .i64 0, .int .i64 0, .slice none 0 0] 107)) w1 := (Below.refl _ _).grown hg0 (by simp) (fun k hk => by cases hk)
  have hA : At w1 w.heap.size 0 [.int .i64 0, .int .i64 0, .slice none 0 0] := (At.alloc w #[.int .i64 0, .int .i64 0, .slice none 0 0] 107).keep (hb1.block _ (by omega))
  have q0 := hA.c0
  have q1 := hA.c1
  have q2 := hA.c2
  have g0 := hA.f0
  have g1 := hA.f1
  have g2 := hA.f2
  rw [World.size_alloc] at hmk hown0
  simp only [Value.cells, Nat.mul_one, toList_madeCells_one] at hown0
  have HE : Hid (∀ x y z : Value, Below w.heap.size w (((w1.setCell ⟨w.heap.size, 0, none⟩ x).setCell ⟨w.heap.size, 1, none⟩ y).setCell ⟨w.heap.size, 2, none⟩ z) ∧
      MatAt (((w1.setCell ⟨w.heap.size, 0, none⟩ x).setCell ⟨w.heap.size, 1, none⟩ y).setCell ⟨w.heap.size, 2, none⟩ z) (w.heap.size + 1) r c (fun _ _ => 0)) := by
    intro x y z
    have hfr : Frm [w.heap.size] w1 (((w1.setCell ⟨w.heap.size, 0, none⟩ x).setCell ⟨w.heap.size, 1, none⟩ y).setCell ⟨w.heap.size, 2, none⟩ z) := (((Frm.refl _ _).setCell (by simp) _).setCell (by simp) _).setCell (by simp) _
    have hb2 : Below w.heap.size w w1 := b0.trans (hb1.mono (Nat.le_succ _))
    exact ⟨((hb2.setCell (Nat.le_refl _) _).setCell (Nat.le_refl _) _).setCell (Nat.le_refl _) _, (matAt_zero HM.out (by simpa using hown0)).frm hfr (by simp)⟩
  clear hN hi hz0 hz1 hz2 hg0 hown0 hb1 b0 hA hrc
  go_enter Try.func97, Try.ntmps97
  go_wp2
  obtain ⟨hb, hm⟩ := HE.out (.int .i64 r) (.int .i64 c) (.slice (some ⟨w.heap.size + 1, 0, none⟩) N N)
  exact bodyPost_ret (v := .agg #[.int .i64 r, .int .i64 c, .slice (some ⟨w.heap.size + 1, 0, none⟩) N N]) (by simp [results, Try.results97, go_sem, q0, q1, q2]) rfl ⟨_, rfl, hb, rfl, hm⟩

set_option maxHeartbeats 1000000 in
theorem c_l3ZeroAt (r c N : Nat) (w : World) (hN : N = r * c) (hrc : N ≤ 1048576) (hr : r ≤ 1048576) (hc : c ≤ 1048576) :
    Calls Try.prog 141 #[.int .i64 r, .int .i64 c] w (Ret w fun v w' => v = .agg #[.int .i64 r, .int .i64 c, .slice (some ⟨w.heap.size + 1, 0, none⟩) N N] ∧ MatAt w' (w.heap.size + 1) r c (fun _ _ => 0)) := by
  have hw := mulW hN (by omega)
  have HM := Lib.hid hN
  obtain ⟨i0, hi, hz0, hz1, hz2⟩ := info_parts Try.info3
  have b0 : Below w.heap.size w (w.alloc (.cells #[.int .i64 0, .int .i64 0, .slice none 0 0] 107)) := (Below.refl _ _).alloc (Nat.le_refl _) _
  obtain ⟨w1, hmk, hown0, hg0⟩ := run_make_full (P := Try.prog) (w.alloc (.cells #[.int .i64 0, .int .i64 0, .slice none 0 0] 107)) (w.heap.size + 1) 22 3 i0 (.int .i64 0) 1 Try.underlying22 hi hz0 hz1 .i64 .i64 N (by rw [hz2]; omega) (by unfold maxLen; omega) (by simp)
  have hb1 : Below (w.heap.size + 1) (w.alloc (.cells #[.int .i64 0, .int .i64 0, .slice none 0 0] 107)) w1 := (Below.refl _ _).grown hg0 (by simp) (fun k hk => by cases hk)
  have hA : At w1 w.heap.size 0 [.int .i64 0, .int .i64 0, .slice none 0 0] := (At.alloc w #[.int .i64 0, .int .i64 0, .slice none 0 0] 107).keep (hb1.block _ (by omega))
  have q0 := hA.c0
  have q1 := hA.c1
  have q2 := hA.c2
  have g0 := hA.f0
  have g1 := hA.f1
  have g2 := hA.f2
  rw [World.size_alloc] at hmk hown0
  simp only [Value.cells, Nat.mul_one, toList_madeCells_one] at hown0
  have HE : Hid (∀ x y z : Value, Below w.heap.size w (((w1.setCell ⟨w.heap.size, 0, none⟩ x).setCell ⟨w.heap.size, 1, none⟩ y).setCell ⟨w.heap.size, 2, none⟩ z) ∧
      MatAt (((w1.setCell ⟨w.heap.size, 0, none⟩ x).setCell ⟨w.heap.size, 1, none⟩ y).setCell ⟨w.heap.size, 2, none⟩ z) (w.heap.size + 1) r c (fun _ _ => 0)) := by
    intro x y z
    have hfr : Frm [w.heap.size] w1 (((w1.setCell ⟨w.heap.size, 0, none⟩ x).setCell ⟨w.heap.size, 1, none⟩ y).setCell ⟨w.heap.size, 2, none⟩ z) := (((Frm.refl _ _).setCell (by simp) _).setCell (by simp) _).setCell (by simp) _
    have hb2 : Below w.heap.size w w1 := b0.trans (hb1.mono (Nat.le_succ _))
    exact ⟨((hb2.setCell (Nat.le_refl _) _).setCell (Nat.le_refl _) _).setCell (Nat.le_refl _) _, (matAt_zero HM.out (by simpa using hown0)).frm hfr (by simp)⟩
  clear hN hi hz0 hz1 hz2 hg0 hown0 hb1 b0 hA hrc
  go_enter Try.func141, Try.ntmps141
  go_wp2
  obtain ⟨hb, hm⟩ := HE.out (.int .i64 r) (.int .i64 c) (.slice (some ⟨w.heap.size + 1, 0, none⟩) N N)
  exact bodyPost_ret (v := .agg #[.int .i64 r, .int .i64 c, .slice (some ⟨w.heap.size + 1, 0, none⟩) N N]) (by simp [results, Try.results141, go_sem, q0, q1, q2]) rfl ⟨_, rfl, hb, rfl, hm⟩

/-- A matrix filled by columns: the columns before k, and t numbers of column k. -/
def fillF (l : List (List Int)) (k t : Nat) : Nat → Nat → Int := fun i j => if j < k ∨ (j = k ∧ i < t) then colsF l i j else 0

set_option maxRecDepth 20000 in
set_option maxHeartbeats 2000000 in
theorem c_fromColumns (R m N : Nat) (a : Option Addr) (c : Nat) (l : List (List Int)) (S0 : List Nat) (w : World) (h : SliceRd Shp.ints w a m c l S0) (hN : N = R * m) (hb : N ≤ 1048576) (hR : R ≤ 1048576) (hm : m ≤ 1048576) (hv : ∀ v ∈ l, v.length = R) :
    Calls Try.prog 120 #[.int .i64 R, .slice a m c] w (Ret w fun v w' => ∃ g, v = .agg #[.int .i64 R, .int .i64 m, .slice (some ⟨g, 0, none⟩) N N] ∧ w.heap.size ≤ g ∧ MatAt w' g R m (colsF l)) := by
  have hlen := h.1
  have b0 := (Below.refl w.heap.size w).alloc (Nat.le_refl _) (.cells #[.int .i64 0, .int .i64 0, .slice none 0 0] 107)
  have A0 := Lib.hid (And.intro (At.alloc w #[.int .i64 0, .int .i64 0, .slice none 0 0] 107) b0)
  have HZ := Lib.hid (c_zeroAt R m N (w.alloc (.cells #[.int .i64 0, .int .i64 0, .slice none 0 0] 107)) hN hb hR hm)
  have H0 := Lib.hid h
  have HV : Hid (∀ k, k < m → (l[k]?.getD []).length = R) := by
    intro k hk
    have h1 : k < l.length := by omega
    simp only [h1, List.getElem?_eq_getElem, Option.getD_some]
    exact hv _ (List.getElem_mem h1)
  have HN := Lib.hid hN
  have HLT := Lib.hid (h.lt Shp.ints_good)
  clear b0 h hv hlen hN
  go_enter Try.func120, Try.ntmps120
  go_wp2_with fail
  refine HZ.out.mono ?_
  rintro e w2 ⟨v, rfl, hb2, rfl, hmat⟩
  rw [World.size_alloc] at hmat ⊢
  have hz2 : w.heap.size + 1 + 1 < w2.heap.size := hmat.1
  have hb3 := (Below.refl w2.heap.size w2).alloc (Nat.le_refl _) (.cells #[.int .i64 R, .int .i64 m, .slice (some ⟨w.heap.size + 1 + 1, 0, none⟩) N N] 107)
  have KEY : Hid (∀ wr, Frm [w.heap.size + 1 + 1] (w2.alloc (.cells #[.int .i64 R, .int .i64 m, .slice (some ⟨w.heap.size + 1 + 1, 0, none⟩) N N] 107)) wr →
      Below w.heap.size w wr ∧ At wr w.heap.size 0 [.int .i64 0, .int .i64 0, .slice none 0 0] ∧ At wr w2.heap.size 0 [.int .i64 R, .int .i64 m, .slice (some ⟨w.heap.size + 1 + 1, 0, none⟩) N N] ∧ SliceRd Shp.ints wr a m c l S0) := by
    intro wr hf
    have hbw := below_then (below_then A0.out.2 hb2) hb3
    have hlt := H0.out.lt Shp.ints_good
    refine ⟨hbw.trans (hf.to_below hbw.size (fun b hb => by simp at hb; omega)), ?_, ?_, ?_⟩
    · exact ((A0.out.1.keep (hb2.block _ (by simp))).keep (hb3.block _ (by omega))).frm hf (by simp; omega) (by rw [List.mem_singleton]; omega)
    · exact (At.alloc w2 _ _).frm hf (by simp) (by rw [List.mem_singleton]; omega)
    · exact (H0.out.below Shp.ints_good hbw).frm Shp.ints_good hf (fun b hb hm => by have := hlt b hb; simp at hm; omega)
  have M0 : Hid (MatAt (w2.alloc (.cells #[.int .i64 R, .int .i64 m, .slice (some ⟨w.heap.size + 1 + 1, 0, none⟩) N N] 107)) (w.heap.size + 1 + 1) R m (fillF l 0 0)) := (hmat.below hb3).congr (fun i j _ _ => by simp [fillF])
  clear hb2 hb3 hmat A0 HZ H0
  go_wp2
  generalize w2.alloc (.cells #[.int .i64 R, .int .i64 m, .slice (some ⟨w.heap.size + 1 + 1, 0, none⟩) N N] 107) = W at *
  obtain ⟨g, hg⟩ : ∃ g, g = w.heap.size + 1 + 1 := ⟨_, rfl⟩
  rw [← hg] at KEY M0 ⊢
  have HG := Lib.hid hg
  clear hg
  go_loopw [16] (fun i wr => ∃ k : Nat, k ≤ m ∧ i = .int .i64 k ∧ Hid (Frm [g] W wr ∧ MatAt wr g R m (fillF l k 0))) (fun i _ => m - (intOf i).toNat)
  case atStart => exact ⟨0, Nat.zero_le _, rfl, Frm.refl _ _, M0.out⟩
  case round =>
    obtain ⟨k, hk, rfl, H⟩ := hrel
    by_cases hlt : k < m
    · have HVk := Lib.hid (HV.out k hlt)
      obtain ⟨b, o, cs, T, rfl, hb, hbS, hat, ⟨a', n', c', rfl, hsl⟩, hsub⟩ := (KEY.out W (Frm.refl _ _)).2.2.2.at Shp.ints_good [] hlt
      have q0 := ((hat.frm H.out.1 hb (by rw [List.mem_singleton]; have := HLT.out b hbS; have := HG.out; omega)) 0 _ rfl).1
      have e3 : Shp.ints.size = 1 := rfl
      rw [e3, Nat.mul_one, Nat.add_zero] at q0
      have hn' : n' = R := by rw [← hsl.1]; exact HVk.out
      subst hn'
      have HSL : Hid (∀ wr, Frm [g] W wr → IntRow wr a' n' (l[k]?.getD [])) := fun wr hf => (hsl.frm Shp.int_good hf (fun b hb hm => by have := HLT.out b (hsub b hb); have := HG.out; simp at hm; omega)).row
      clear hat hsl hsub hbS hb HVk
      go_wp2
      go_loopw [23] (fun i wr => ∃ t : Nat, t ≤ n' ∧ i = .int .i64 t ∧ Hid (Frm [g] W wr ∧ MatAt wr g n' m (fillF l k t))) (fun i _ => n' - (intOf i).toNat)
      case atStart => exact ⟨0, Nat.zero_le _, rfl, H.out⟩
      clear H q0
      case round =>
        obtain ⟨t, ht, rfl, H⟩ := hrel
        by_cases hlt2 : t < n'
        · obtain ⟨-, -, hbx, -⟩ := KEY.out wr H.out.1
          have p1 := hbx.c1
          have p2 := hbx.c2
          obtain ⟨b2, o2, rfl, -, hc2⟩ := (HSL.out wr H.out.1).cell (by omega)
          have hck := (hc2 t hlt2).1
          obtain ⟨hcell, hfro⟩ := H.out.2.2 t k hlt2 hlt
          have hidx := cell_lt (n := m) hlt2 hlt
          have hT : t * m ≤ N := by have := HN.out; omega
          rw [← HN.out] at hidx
          obtain ⟨T, hTe⟩ : ∃ T, T = t * m := ⟨_, rfl⟩
          have hw := mulW hTe (by omega)
          rw [← hTe] at hcell hfro hidx hT
          have HT := Lib.hid hTe
          clear hTe hbx hc2
          go_wp2
          go_roundw
          case rel =>
            refine ⟨t + 1, by omega, by go_num, H.out.1.setCell (fun _ => by simp) _, ?_⟩
            rw [HT.out]
            refine (H.out.2.set hlt2 hlt _).congr (fun i j _ _ => ?_)
            unfold fillF setF
            by_cases e : i = t ∧ j = k
            · obtain ⟨rfl, rfl⟩ := e
              simp [colsF, rowsF]
            · rw [if_neg e]
              have h1 : (j < k ∨ j = k ∧ i < t + 1) ↔ (j < k ∨ j = k ∧ i < t) := by omega
              simp only [h1]
          case measure => simp [intOf]; omega
        · obtain rfl : t = n' := by omega
          go_wp2
          go_roundw
          case rel =>
            refine ⟨k + 1, by omega, by go_num, H.out.1, H.out.2.congr (fun i j hi _ => ?_)⟩
            unfold fillF
            have h1 : (j < k + 1 ∨ j = k + 1 ∧ i < 0) ↔ (j < k ∨ j = k ∧ i < t) := by omega
            simp only [h1]
          case measure => simp [intOf]; omega
    · obtain rfl : k = m := by omega
      obtain ⟨hbw, hat, hbx, -⟩ := KEY.out wr H.out.1
      have o0 := hat.c0
      have o1 := hat.c1
      have o2 := hat.c2
      have i0 := hat.f0
      have i1 := hat.f1
      have i2 := hat.f2
      have q0 := hbx.c0
      have q1 := hbx.c1
      have q2 := hbx.c2
      have HE : Hid (∀ x y z : Value, Below w.heap.size w (((wr.setCell ⟨w.heap.size, 0, none⟩ x).setCell ⟨w.heap.size, 1, none⟩ y).setCell ⟨w.heap.size, 2, none⟩ z) ∧ MatAt (((wr.setCell ⟨w.heap.size, 0, none⟩ x).setCell ⟨w.heap.size, 1, none⟩ y).setCell ⟨w.heap.size, 2, none⟩ z) g R k (colsF l)) := by
        intro x y z
        have hfr : Frm [w.heap.size] wr (((wr.setCell ⟨w.heap.size, 0, none⟩ x).setCell ⟨w.heap.size, 1, none⟩ y).setCell ⟨w.heap.size, 2, none⟩ z) := (((Frm.refl _ _).setCell (by simp) _).setCell (by simp) _).setCell (by simp) _
        refine ⟨((hbw.setCell (Nat.le_refl _) _).setCell (Nat.le_refl _) _).setCell (Nat.le_refl _) _, (H.out.2.congr (fun i j _ hj => ?_)).frm hfr (by rw [List.mem_singleton]; have := HG.out; omega)⟩
        simp [fillF, hj]
      clear hbw hat hbx
      go_wp2
      have hE := HE.out (.int .i64 R) (.int .i64 k) (.slice (some ⟨g, 0, none⟩) N N)
      exact bodyPost_ret (v := .agg #[.int .i64 R, .int .i64 k, .slice (some ⟨g, 0, none⟩) N N]) (by simp [results, Try.results120, go_sem, o0, o1, o2]) rfl ⟨_, rfl, hE.1, g, rfl, by have := HG.out; omega, hE.2⟩
end Go.Proofs.Ytpngpgbmkkjjgaa

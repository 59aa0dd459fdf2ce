/-
  Contracts of the reference: reduced bases.
-/
import Derived.Test.YtpngpgbmkkjjgaaD4
namespace Go.Proofs.Ytpngpgbmkkjjgaa
open Go.RowKit

set_option maxRecDepth 20000 in
set_option maxHeartbeats 4000000 in
theorem c_l5Basis (p : Int) (m n : Nat) (a : Option Addr) (N c : Nat) (l : List Int) (S : List Nat) (w : World) (hp : isF p = true) (h : SliceRd Shp.int w a N c l S) (hN : N = m * n) (hsz : N ≤ 1048576) (hm : m ≤ 1048576) (hn : n ≤ 1048576)
    (F0 : Nat → Nat → Int) (hF : ∀ i j, i < m → j < n → l[i * n + j]?.getD 0 = F0 i j) (hin : InP p m n F0) :
    Calls Try.prog 140 #[.int .i64 p, .agg #[.int .i64 m, .int .i64 n, .slice a N c]] w (Ret w fun v w' => ∃ S, Own 22 Shp.ints w' w.heap.size v (takeRows (redUp p m F0 n).1 (redUp p m F0 n).2.length n) S) := by
  have b0 := (Below.refl w.heap.size w).alloc (Nat.le_refl _) (.cells #[.int .i64 m, .int .i64 n, .slice a N c] 107)
  have A0 := Lib.hid (And.intro (At.alloc w #[.int .i64 m, .int .i64 n, .slice a N c] 107) b0)
  have HC := Lib.hid (c_l4Reduce p m n a N c l S _ hp (h.below Shp.int_good b0) hN hsz hm hn F0 hF hin)
  have HI2 : Hid (InP p m n (redUp p m F0 n).1) := redUp_in (by have := isF_bd hp; omega) hin n
  have HN := Lib.hid hN
  obtain ⟨hp2, hp5⟩ := isF_bd hp
  clear b0 h hp hF hin hN
  go_enter Try.func140, Try.ntmps140
  go_wp2_with fail
  refine HC.out.mono ?_
  rintro e w2 ⟨v, rfl, hb2, aR, cR, aP, nP, cP, SP, rfl, ⟨hNc, hcm⟩, hmat, hO⟩
  have hz2 : w.heap.size + 1 ≤ w2.heap.size := by have := hb2.size; simpa using this
  have hb3 := (Below.refl w2.heap.size w2).alloc (Nat.le_refl _) (.cells #[.int .i64 m, .int .i64 n, .slice aR N cR] 107)
  have hb4 := (Below.refl _ (w2.alloc (.cells #[.int .i64 m, .int .i64 n, .slice aR N cR] 107))).alloc (Nat.le_refl _) (.cells #[] 22)
  have HNP : Hid (nP = (redUp p m F0 n).2.length) := by show _ = _; have := hO.room.1; simpa using this
  have HLM : Hid ((redUp p m F0 n).2.length ≤ m ∧ (redUp p m F0 n).2.length ≤ n) := ⟨redUp_len n, redUp_len' n⟩
  have KEY : Hid (∀ wr, Below (w2.heap.size + 1) ((w2.alloc (.cells #[.int .i64 m, .int .i64 n, .slice aR N cR] 107)).alloc (.cells #[] 22)) wr →
      Below w.heap.size w wr ∧ At wr w2.heap.size 0 [.int .i64 m, .int .i64 n, .slice aR N cR] ∧
      (0 < m → 0 < n → ∃ g, aR = some ⟨g, 0, none⟩ ∧ MatAt wr g m n (redUp p m F0 n).1)) := by
    intro wr hb
    refine ⟨(below_then (below_then (below_then A0.out.2 hb2) hb3) hb4).trans (hb.mono (by omega)), (At.bl (At.alloc w2 _ _) (by simp) hb4).keep (hb.block _ (by omega)), fun h1 h2 => ?_⟩
    obtain ⟨g, e, hg, hm⟩ := hmat h1 h2
    refine ⟨g, e, ((hm.below hb3).below hb4).keep (hb.block _ ?_)⟩
    have := hm.1
    omega
  have HWS : Hid (((w2.alloc (.cells #[.int .i64 m, .int .i64 n, .slice aR N cR] 107)).alloc (.cells #[] 22)).heap.size = w2.heap.size + 1 + 1) := by show _ = _; simp
  have O0 : Hid (Own 22 Shp.ints ((w2.alloc (.cells #[.int .i64 m, .int .i64 n, .slice aR N cR] 107)).alloc (.cells #[] 22)) (w2.heap.size + 1) (.slice (some ⟨w2.heap.size + 1, 0, none⟩) 0 0) [] [w2.heap.size + 1]) := by
    have h3 := Own.lit0 Shp.ints 22 (w2.alloc (.cells #[.int .i64 m, .int .i64 n, .slice aR N cR] 107)) (B := w2.heap.size + 1) (by simp)
    rw [World.size_alloc] at h3
    exact h3
  have HCM := Lib.hid hcm
  clear hb2 hb3 hb4 hmat hO A0 HC hcm
  obtain ⟨R, L, hst⟩ : ∃ R L, redUp p m F0 n = (R, L) := ⟨_, _, rfl⟩
  rw [hst] at HI2 HNP HLM KEY
  have HST := Lib.hid hst
  clear hst
  simp only at HI2 HNP HLM KEY
  go_wp2
  generalize (w2.alloc (.cells #[.int .i64 m, .int .i64 n, .slice aR N cR] 107)).alloc (.cells #[] 22) = W at *
  go_loopw [7, 8] (fun s i wr => ∃ (k : Nat) (aF : Option Addr) (nF cF : Nat) (SF : List Nat), k ≤ nP ∧ i = .int .i64 k ∧ s = .slice aF nF cF ∧ Hid (Own 22 Shp.ints wr (w2.heap.size + 1) (.slice aF nF cF) (takeRows R k n) SF ∧ Below (w2.heap.size + 1) W wr)) (fun _ i _ => nP - (intOf i).toNat)
  case atStart => exact ⟨0, _, 0, 0, _, Nat.zero_le _, rfl, rfl, O0.out, Below.refl _ _⟩
  case round =>
    obtain ⟨k, aF, nF, cF, SF, hk, rfl, rfl, H⟩ := hrel
    have hnPb : nP ≤ 1048576 := by have := HNP.out; have := HLM.out; omega
    by_cases hlt : k < nP
    · have hkm : k < m := by have := HNP.out; have := HLM.out; omega
      have hkn : 0 < n := by have := HNP.out; have := HLM.out; omega
      obtain ⟨-, hat, hmat⟩ := KEY.out wr H.out.2
      obtain ⟨g, rfl, hmA⟩ := hmat (by omega) hkn
      have hzr : w2.heap.size < wr.heap.size := by have := H.out.2.size; have := HWS.out; omega
      have hat2 : At (wr.alloc (.cells #[] 3)) w2.heap.size 0 _ := At.bl hat hzr ((Below.refl _ _).alloc (Nat.le_refl _) _)
      have q1 := hat2.c1
      have q2 := hat2.c2
      have hfit := HI2.out.fit hp5 hkm
      have hRow : IntRow (wr.alloc (.cells #[] 3)) (some ⟨g, k * n, none⟩) n (rowL R k n) := (hmA.below ((Below.refl _ _).alloc (Nat.le_refl _) _)).rowRow hkm hfit (by omega)
      have h1 : (k + 1) * n ≤ m * n := Nat.mul_le_mul_right _ hkm
      rw [Nat.add_mul, ← HN.out] at h1
      obtain ⟨I, hI⟩ : ∃ I, I = k * n := ⟨_, rfl⟩
      rw [← hI] at h1 hRow
      have HW := Lib.hid (mulW hI (by omega))
      have hIN : I + n ≤ N := by omega
      obtain ⟨Q, hQ⟩ : ∃ Q, Q = I + n := ⟨_, rfl⟩
      have hr := run_row (wr.alloc (.cells #[] 3)) g N cR I Q (by omega) (by omega) (by omega)
      rw [show Q - I = n by omega] at hr
      have HS := Lib.hid (show wrap64 ((I : Int) + (n : Int)) = (Q : Int) by rw [hQ, Int.natCast_add]; exact IntWalk.wrap64_in _ ⟨by omega, by omega⟩)
      have HI := Lib.hid hI
      have HRow := Lib.hid hRow
      have hsz1 : wr.heap.size ≤ (wr.alloc (.cells #[] 3)).heap.size := by simp
      have OI : Hid (Own 3 Shp.int (wr.alloc (.cells #[] 3)) wr.heap.size (.slice (some ⟨wr.heap.size, 0, none⟩) 0 0) [] [wr.heap.size]) := Own.lit0 Shp.int 3 wr (Nat.le_refl _)
      have HSZ1 := Lib.hid hsz1
      have hn63 : ([] : List Int).length + n ≤ 4294967296 ∧ (([] : List Int).length + n) * 8 ≤ 140737488355328 := by simp; omega
      have HN63 := Lib.hid hn63
      have hlF : (takeRows R k n).length = k := takeRows_len _ _ _
      have HLF := Lib.hid hlF
      have KF : Hid (∀ (a5 : Option Addr) (n5 c5 : Nat) (w5 : World) (S5 : List Nat), Own 3 Shp.int w5 wr.heap.size (.slice a5 n5 c5) ([] ++ rowL R k n) S5 → Frm [wr.heap.size] (wr.alloc (.cells #[] 3)) w5 →
          ∃ S5', Own 22 Shp.ints w5 (w2.heap.size + 1) (.slice aF nF cF) (takeRows R k n) SF ∧ Below (w2.heap.size + 1) W w5 ∧ Shp.ints.rd w5 [.slice a5 n5 c5] (rowL R k n) S5' ∧ New (w2.heap.size + 1) S5' ∧ (∀ b ∈ SF, b ∉ S5') ∧ w2.heap.size + 1 ≤ w5.heap.size) := by
        intro a5 n5 c5 w5 S5 hO hF
        obtain ⟨_, _, _, S5', hv5, -, rd5, new5, -⟩ := hO.rd
        cases hv5
        rw [List.nil_append] at rd5
        have hb5 : Below wr.heap.size wr w5 := ((Below.refl _ _).alloc (Nat.le_refl _) _).trans (hF.to_below (by simp) (fun b hb => by simp at hb; omega))
        have hzr : w2.heap.size + 1 ≤ wr.heap.size := by have := H.out.2.size; have := HWS.out; omega
        exact ⟨S5', H.out.1.below Shp.ints_good hb5, below_tr H.out.2 (by have := HWS.out; omega) hb5, ⟨a5, n5, c5, rfl, rd5⟩, new5.mono hzr, fun b hb hm => by have := H.out.1.lt Shp.ints_good b hb; have := new5.2 b hm; omega, by have := hb5.size; omega⟩
      have HL1 : Hid ((takeRows R k n).length + 1 ≤ 4294967296 ∧ ((takeRows R k n).length + 1) * 24 ≤ 140737488355328) := by show _ ∧ _; rw [HLF.out]; omega
      have hw := HW.out
      have hs := HS.out
      clear hQ hIN HS HI
      clear hI hat hat2 hmat hmA hfit hRow h1 hsz1 hn63 hlF HW
      go_wp2_with (first
        | (at_builtin; refine wpList_app_ints et_int rfl (.tmp 23) (.tmp 37) rfl rfl OI.out HSZ1.out rfl HRow.out HN63.out.1 HN63.out.2 ?_; intro v5 w5 S5 hO5 hF5 hS5; obtain ⟨a5, n5, c5, rfl⟩ := hO5.form; obtain ⟨S5', g1, g2, g3, g4, g5, g6⟩ := KF.out a5 n5 c5 w5 S5 hO5 hF5; have G5 := Lib.hid (And.intro g1 (And.intro g2 (And.intro g3 (And.intro g4 (And.intro g5 g6))))); clear hO5 hF5 hS5 g1 g2 g3 g4 g5 g6)
        | (at_builtin; refine wpList_app1 et_ints Shp.ints_good rfl (.tmp 22) (.tmp 39) rfl rfl G5.out.1 G5.out.2.2.2.2.2 rfl rfl G5.out.2.2.1 G5.out.2.2.2.1 G5.out.2.2.2.2.1 HL1.out.1 HL1.out.2 ?_; intro v6 w6 S6 hO6 hF6 hS6; obtain ⟨a6, n6, c6, rfl⟩ := hO6.form; have Y := Lib.hid (And.intro hO6 hF6); clear hO6 hF6 hS6))
      clear hw hs hr
      go_roundw
      case rel =>
        refine ⟨k + 1, a6, n6, c6, S6, by omega, by go_num, rfl, ?_, G5.out.2.1.trans (Y.out.2.to_below G5.out.2.2.2.2.2 (fun b hb => G5.out.1.new.2 b hb))⟩
        rw [takeRows_snoc]
        exact Y.out.1
      case measure => simp [intOf]; omega
    · obtain rfl : k = nP := by omega
      go_wp2
      go_ret
      refine ⟨_, rfl, (KEY.out wr H.out.2).1, SF, ?_⟩
      rw [HST.out]
      show Own _ _ _ _ _ (takeRows R L.length n) _
      rw [← HNP.out]
      exact own_lower H.out.1 (by omega)
end Go.Proofs.Ytpngpgbmkkjjgaa

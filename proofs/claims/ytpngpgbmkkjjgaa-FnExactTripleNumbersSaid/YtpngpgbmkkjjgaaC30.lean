/-
  Contracts: TripleNumbers of the program.
-/
import Derived.Test.YtpngpgbmkkjjgaaC26
import Derived.Test.YtpngpgbmkkjjgaaC28
namespace Go.Proofs.Ytpngpgbmkkjjgaa
open Go.RowKit

def tripleL (p : Int) (n : Nat) (l1 l2 l3 : List (List Int)) : List Int :=
  [(l1.length : Int), l2.length, l3.length, (meetL p n l1 l2).length, (meetL p n l1 l3).length, (meetL p n l2 l3).length, (meetL p n (meetL p n l1 l2) l3).length, (sumL p n (sumL p n l1 l2) l3).length]
def tripleV (p s1 s2 s3 : Int) (l1 l2 l3 : List (List Int)) : List Int := if areS3 p s1 s2 s3 l1 l2 l3 then tripleL p s1.toNat l1 l2 l3 else []

def lensL (l : List Spc) : List Int := l.map fun x => (x.basis.length : Int)

set_option maxHeartbeats 1000000 in
theorem c_subDims (a : Option Addr) (n c : Nat) (l : List Spc) (S0 : List Nat) (w : World) (h : SliceRd Shp.spc w a n c l S0) (hn : n ≤ 1048576) :
    Calls Try.prog 82 #[.slice a n c] w (Ret w fun v w' => ∃ S, Own 3 Shp.int w' w.heap.size v (lensL l) S) := by
  have H0 := Lib.hid h
  have HL := Lib.hid h.1
  clear h
  go_enter Try.func82, Try.ntmps82
  go_wp2
  go_loopw [3, 8] (fun s i wr => ∃ (k : Nat) (aF : Option Addr) (nF cF : Nat) (SF : List Nat), k ≤ n ∧ i = .int .i64 k ∧ s = .slice aF nF cF ∧ Hid (Own 3 Shp.int wr w.heap.size (.slice aF nF cF) (lensL (l.take k)) SF ∧ Below w.heap.size w wr)) (fun _ i _ => n - (intOf i).toNat)
  case atStart => exact ⟨0, none, 0, 0, [], Nat.zero_le _, rfl, rfl, Own.nil _ _ _ _, Below.refl _ _⟩
  case round =>
    obtain ⟨k, aF, nF, cF, SF, hk, rfl, rfl, H⟩ := hrel
    by_cases hlt : k < n
    · obtain ⟨b, o, cs, T, rfl, hb, hbS, hat, ⟨a', n', c', rfl, f1, hsl⟩, hsub⟩ := (H0.out.below Shp.spc_good H.out.2).at Shp.spc_good ⟨0, []⟩ hlt
      have q0 := (hat 0 _ rfl).1
      have q1 := (hat 1 _ rfl).1
      have e3 : Shp.spc.size = 2 := rfl
      rw [e3] at q0 q1
      rw [Nat.add_zero] at q0
      have hm := hsl.max
      have hfit : fits (n' : Int) := by unfold fits; omega
      have HT : Hid (lensL (l.take (k + 1)) = lensL (l.take k) ++ [(n' : Int)]) := by
        show _ = _
        rw [take_snoc l k ⟨0, []⟩ (by have := HL.out; omega), ← hsl.1]
        simp [lensL]
      have b1 : Below wr.heap.size wr (wr.alloc (.cells #[.int .i64 (l[k]?.getD ⟨0, []⟩).size, .slice a' n' c'] 38)) := (Below.refl _ _).alloc (Nat.le_refl _) _
      have X := Lib.hid (And.intro (H.out.1.below Shp.int_good b1) (below_then H.out.2 b1))
      have hsz : w.heap.size ≤ (wr.alloc (.cells #[.int .i64 (l[k]?.getD ⟨0, []⟩).size, .slice a' n' c'] 38)).heap.size := X.out.2.size
      have HSZ := Lib.hid hsz
      have hlen : (lensL (l.take k)).length ≤ k := by unfold lensL; rw [List.length_map]; exact List.length_take_le _ _
      have HLen := Lib.hid hlen
      clear hat hsl hsub hbS hb b1 hsz hlen
      generalize (l[k]?.getD ⟨0, []⟩).size = sz at *
      go_wp2_with (at_builtin; refine wpList_app1 et_int Shp.int_good rfl (.tmp 12) (.tmp 16) rfl rfl X.out.1 HSZ.out rfl (by simp) ⟨rfl, rfl, hfit⟩ (New.nil _) (by simp) (by have := HLen.out; omega) (by have := HLen.out; omega) ?_; intro v1 w1 S1 hO1 hF1 hS1; obtain ⟨a1, n1, c1, rfl⟩ := hO1.form; have Y := Lib.hid (And.intro hO1 hF1); clear hO1 hF1 hS1)
      go_roundw
      case rel =>
        refine ⟨k + 1, a1, n1, c1, S1, by omega, by go_num, rfl, ?_, X.out.2.trans (Y.out.2.to_below HSZ.out (fun b hb => X.out.1.new.2 b hb))⟩
        rw [HT.out]
        exact Y.out.1
      case measure => simp [intOf]; omega
    · have HE : Hid (l.take k = l) := List.take_of_length_le (by have := HL.out; omega)
      go_wp2
      go_ret
      exact ⟨_, rfl, H.out.2, SF, by have := H.out.1; rw [HE.out] at this; exact this⟩

structure SpA where
  a : Option Addr
  n : Nat
  c : Nat
  l : List (List Int)
  S : List Nat
theorem spcs_rd {w : World} {sz : Int} (hf : fits sz) : ∀ (L : List SpA), (∀ x ∈ L, SliceRd Shp.ints w x.a x.n x.c x.l x.S) → CellsRd Shp.spc w (L.flatMap fun x => [.int .i64 sz, .slice x.a x.n x.c]) (L.map fun x => ⟨sz, x.l⟩) (L.flatMap SpA.S)
  | [], _ => ⟨rfl, rfl⟩
  | x :: L, h => ⟨[.int .i64 sz, .slice x.a x.n x.c], _, x.S, _, rfl, rfl, ⟨x.a, x.n, x.c, rfl, hf, h x (by simp)⟩, spcs_rd hf L (fun y hy => h y (by simp [hy]))⟩

set_option maxRecDepth 20000 in
set_option maxHeartbeats 4000000 in
theorem c_impl_TripleNumbers (p s1 s2 s3 : Int) (a1 a2 a3 : Option Addr) (n1 c1 n2 c2 n3 c3 : Nat) (l1 l2 l3 : List (List Int)) (S1 S2 S3 : List Nat) (w : World) (hp : fits p) (h1 : SliceRd Shp.ints w a1 n1 c1 l1 S1) (h2 : SliceRd Shp.ints w a2 n2 c2 l2 S2) (h3 : SliceRd Shp.ints w a3 n3 c3 l3 S3) :
    Calls Try.prog 29 #[.int .i64 p, .agg #[.int .i64 s1, .slice a1 n1 c1], .agg #[.int .i64 s2, .slice a2 n2 c2], .agg #[.int .i64 s3, .slice a3 n3 c3]] w (Ret w fun v w' => ∃ a n c S, v = .tuple #[.slice a n c, .bool (areS3 p s1 s2 s3 l1 l2 l3)] ∧ SliceRd Shp.int w' a n c (tripleV p s1 s2 s3 l1 l2 l3) S ∧ New w.heap.size S) := by
  have b0 := (Below.refl w.heap.size w).alloc (Nat.le_refl _) (.cells #[.int .i64 s1, .slice a1 n1 c1] 38)
  have b1 := (Below.refl _ (w.alloc (.cells #[.int .i64 s1, .slice a1 n1 c1] 38))).alloc (Nat.le_refl _) (.cells #[.int .i64 s2, .slice a2 n2 c2] 38)
  have b2 := (Below.refl _ ((w.alloc (.cells #[.int .i64 s1, .slice a1 n1 c1] 38)).alloc (.cells #[.int .i64 s2, .slice a2 n2 c2] 38))).alloc (Nat.le_refl _) (.cells #[.int .i64 s3, .slice a3 n3 c3] 38)
  have t1 := At.alloc (w.alloc (.cells #[.int .i64 s1, .slice a1 n1 c1] 38)) #[.int .i64 s2, .slice a2 n2 c2] 38
  have t2 := At.alloc ((w.alloc (.cells #[.int .i64 s1, .slice a1 n1 c1] 38)).alloc (.cells #[.int .i64 s2, .slice a2 n2 c2] 38)) #[.int .i64 s3, .slice a3 n3 c3] 38
  rw [World.size_alloc] at t1
  rw [World.size_alloc, World.size_alloc] at t2
  have KEY : Hid (∀ wr, Below (((w.alloc (.cells #[.int .i64 s1, .slice a1 n1 c1] 38)).alloc (.cells #[.int .i64 s2, .slice a2 n2 c2] 38)).alloc (.cells #[.int .i64 s3, .slice a3 n3 c3] 38)).heap.size (((w.alloc (.cells #[.int .i64 s1, .slice a1 n1 c1] 38)).alloc (.cells #[.int .i64 s2, .slice a2 n2 c2] 38)).alloc (.cells #[.int .i64 s3, .slice a3 n3 c3] 38)) wr →
      Below w.heap.size w wr ∧ At wr w.heap.size 0 [.int .i64 s1, .slice a1 n1 c1] ∧ At wr (w.heap.size + 1) 0 [.int .i64 s2, .slice a2 n2 c2] ∧ At wr (w.heap.size + 1 + 1) 0 [.int .i64 s3, .slice a3 n3 c3] ∧ SliceRd Shp.ints wr a1 n1 c1 l1 S1 ∧ SliceRd Shp.ints wr a2 n2 c2 l2 S2 ∧ SliceRd Shp.ints wr a3 n3 c3 l3 S3 ∧ w.heap.size + 3 ≤ wr.heap.size) := by
    intro wr hb
    have hbw := below_then (below_then (below_then b0 b1) b2) hb
    exact ⟨hbw, (((At.alloc w _ _).keep (b1.block _ (by simp))).keep (b2.block _ (by simp; omega))).keep (hb.block _ (by simp; omega)), (t1.keep (b2.block _ (by simp))).keep (hb.block _ (by simp)), t2.keep (hb.block _ (by simp)), h1.below Shp.ints_good hbw, h2.below Shp.ints_good hbw, h3.below Shp.ints_good hbw, by have := hb.size; simp at this; omega⟩
  have K0 := KEY.out _ (Below.refl _ _)
  have hC1 := c_areSpaces p s1 s2 a1 n1 c1 l1 S1 a2 n2 c2 l2 S2 _ hp K0.2.2.2.2.1 K0.2.2.2.2.2.1
  have q0 := K0.2.1.c0
  have q1 := K0.2.1.c1
  have q2 := K0.2.2.1.c0
  have q3 := K0.2.2.1.c1
  have HP := Lib.hid hp
  clear b0 b1 b2 t1 t2 h1 h2 h3 K0 hp
  cases e1 : areS p s1 l1 s2 l2 with
  | false =>
    rw [e1] at hC1
    have HC1 := Lib.hid hC1
    have HV : Hid (areS3 p s1 s2 s3 l1 l2 l3 = false) := by show _ = _; simp [areS3, e1]
    clear hC1 e1
    go_enter Try.func29, Try.ntmps29
    go_wp2_with (go_at_call 51; refine HC1.out.mono ?_; rintro e w1 ⟨r, rfl, hb, rfl⟩; have B1 := Lib.hid hb; clear hb)
    go_ret2
    exact ⟨_, rfl, (KEY.out _ (by have : Hid _ := ‹Hid (Below _ _ _)›; exact this.out)).1, none, 0, 0, [], by rw [HV.out]; rfl, (by unfold tripleV; rw [HV.out]; exact ⟨rfl, Nat.le_refl _, Nat.zero_le _, .inl ⟨rfl, rfl⟩⟩), New.nil _⟩
  | true =>
    rw [e1] at hC1
    have HC1 := Lib.hid hC1
    have E1 := Lib.hid e1
    clear hC1 e1
    go_enter Try.func29, Try.ntmps29
    go_wp2_with fail
    generalize ((w.alloc (.cells #[.int .i64 s1, .slice a1 n1 c1] 38)).alloc (.cells #[.int .i64 s2, .slice a2 n2 c2] 38)).alloc (.cells #[.int .i64 s3, .slice a3 n3 c3] 38) = W at *
    refine HC1.out.mono ?_
    rintro e w1 ⟨r, rfl, hb1, rfl⟩
    have B1 := Lib.hid hb1
    have K1 := KEY.out _ hb1
    have q0 := K1.2.1.c0
    have q1 := K1.2.1.c1
    have q2 := K1.2.2.1.c0
    have q3 := K1.2.2.1.c1
    have q4 := K1.2.2.2.1.c0
    have q5 := K1.2.2.2.1.c1
    have hC2 := c_areSpaces p s2 s3 a2 n2 c2 l2 S2 a3 n3 c3 l3 S3 w1 HP.out K1.2.2.2.2.2.1 K1.2.2.2.2.2.2.1
    clear hb1 K1 HC1
    cases e2 : areS p s2 l2 s3 l3 with
    | false =>
      rw [e2] at hC2
      have HC2 := Lib.hid hC2
      have HV : Hid (areS3 p s1 s2 s3 l1 l2 l3 = false) := by show _ = _; simp [areS3, e2]
      clear hC2 e2
      go_wp2_with (go_at_call 51; refine HC2.out.mono ?_; rintro e w2 ⟨r, rfl, hb, rfl⟩; have B2 := Lib.hid (below_then B1.out hb); clear hb)
      go_ret2
      exact ⟨_, rfl, (KEY.out _ B2.out).1, none, 0, 0, [], by rw [HV.out]; rfl, (by unfold tripleV; rw [HV.out]; exact ⟨rfl, Nat.le_refl _, Nat.zero_le _, .inl ⟨rfl, rfl⟩⟩), New.nil _⟩
    | true =>
      rw [e2] at hC2
      have HC2 := Lib.hid hC2
      have HV : Hid (areS3 p s1 s2 s3 l1 l2 l3 = true) := by show _ = _; simp [areS3, e2, E1.out]
      obtain ⟨hpf, n, rfl, rfl, rfl, hn, g1, g2, g3⟩ := areS3_parts E1.out e2
      clear hC2 e2 E1
      go_wp2_with fail
      refine HC2.out.mono ?_
      rintro e w2 ⟨r, rfl, hb2, rfl⟩
      have B2 := Lib.hid (below_then B1.out hb2)
      have K2 := KEY.out _ B2.out
      have q0 := K2.2.1.c0
      have q1 := K2.2.1.c1
      have q2 := K2.2.2.1.c0
      have q3 := K2.2.2.1.c1
      have q4 := K2.2.2.2.1.c0
      have q5 := K2.2.2.2.1.c1
      have HPF := Lib.hid hpf
      have HN8 := Lib.hid hn
      have G1 := Lib.hid g1
      have G2 := Lib.hid g2
      have G3 := Lib.hid g3
      have HAB := Lib.hid (s_meetSpace p n a1 a2 n1 c1 n2 c2 l1 l2 S1 S2 w2 hpf K2.2.2.2.2.1 K2.2.2.2.2.2.1 hn g1 g2)
      clear hb2 K2 HC2 g1 g2 g3 hpf hn
      go_wp2_with fail
      refine HAB.out.mono ?_
      rintro e w3 ⟨v, rfl, hb3, xa, ma, da, Ta, rfl, ra, hma, -⟩
      have HMA := Lib.hid hma
      clear hma
      have hb3a := (Below.refl w3.heap.size w3).alloc (Nat.le_refl _) (.cells #[.int .i64 n, .slice xa ma da] 38)
      have BV : Hid (Below W.heap.size W (w3.alloc (.cells #[.int .i64 n, .slice xa ma da] 38))) := below_then (below_then B2.out hb3) hb3a
      have PV : Hid (∀ wr, Below (w3.alloc (.cells #[.int .i64 n, .slice xa ma da] 38)).heap.size (w3.alloc (.cells #[.int .i64 n, .slice xa ma da] 38)) wr → At wr w3.heap.size 0 [.int .i64 n, .slice xa ma da] ∧ SliceRd Shp.ints wr xa ma da (meetL p n l1 l2) Ta) := by
        intro wr hb
        exact ⟨(At.alloc w3 _ _).keep (hb.block _ (by simp)), (ra.below Shp.ints_good hb3a).below Shp.ints_good hb⟩
      clear hb3 hb3a ra
      go_wp2
      clear q0 q1 q2 q3 q4 q5
      generalize w3.alloc (.cells #[.int .i64 n, .slice xa ma da] 38) = V at *
      have BD : Hid (Below V.heap.size V V.drew) := below_drew
      have KV : Hid (∀ wr, Below V.heap.size V wr → Below w.heap.size w wr ∧ SliceRd Shp.ints wr a1 n1 c1 l1 S1 ∧ SliceRd Shp.ints wr a2 n2 c2 l2 S2 ∧ SliceRd Shp.ints wr a3 n3 c3 l3 S3 ∧ SliceRd Shp.ints wr xa ma da (meetL p n l1 l2) Ta) := by
        intro wr hb
        have K := KEY.out wr (below_then BV.out hb)
        exact ⟨K.1, K.2.2.2.2.1, K.2.2.2.2.2.1, K.2.2.2.2.2.2.1, (PV.out wr hb).2⟩
      have HELD : Hid (∀ w', Below V.heap.size V w' → w'.cell? ⟨w.heap.size, 0, none⟩ = some (.int .i64 n) ∧ w'.cell? ⟨w.heap.size, 1, none⟩ = some (.slice a1 n1 c1) ∧ w'.cell? ⟨w.heap.size + 1, 0, none⟩ = some (.int .i64 n) ∧ w'.cell? ⟨w.heap.size + 1, 1, none⟩ = some (.slice a2 n2 c2) ∧ w'.cell? ⟨w.heap.size + 1 + 1, 0, none⟩ = some (.int .i64 n) ∧ w'.cell? ⟨w.heap.size + 1 + 1, 1, none⟩ = some (.slice a3 n3 c3) ∧ w'.cell? ⟨w3.heap.size, 0, none⟩ = some (.int .i64 n) ∧ w'.cell? ⟨w3.heap.size, 1, none⟩ = some (.slice xa ma da)) := by
        intro w' hb
        have K := KEY.out w' (below_then BV.out hb)
        have P := (PV.out w' hb).1
        exact ⟨K.2.1.c0, K.2.1.c1, K.2.2.1.c0, K.2.2.1.c1, K.2.2.2.1.c0, K.2.2.2.1.c1, P.c0, P.c1⟩
      go_region_held3 (fun w' => w'.cell? ⟨w.heap.size, 0, none⟩ = some (.int .i64 n) ∧ w'.cell? ⟨w.heap.size, 1, none⟩ = some (.slice a1 n1 c1) ∧ w'.cell? ⟨w.heap.size + 1, 0, none⟩ = some (.int .i64 n) ∧ w'.cell? ⟨w.heap.size + 1, 1, none⟩ = some (.slice a2 n2 c2) ∧ w'.cell? ⟨w.heap.size + 1 + 1, 0, none⟩ = some (.int .i64 n) ∧ w'.cell? ⟨w.heap.size + 1 + 1, 1, none⟩ = some (.slice a3 n3 c3) ∧ w'.cell? ⟨w3.heap.size, 0, none⟩ = some (.int .i64 n) ∧ w'.cell? ⟨w3.heap.size, 1, none⟩ = some (.slice xa ma da))
        ((refine HELD.out _ ?_; (repeat (first | exact Hid.out (by assumption) | refine below_al ?_ (Nat.le_refl _) _))))
        (first
          | (go_at_call 80; first
              | ((with_reducible refine Calls.mono (s_meetSpace p n a1 a3 n1 c1 n3 c3 l1 l3 S1 S3 V.drew HPF.out (KV.out _ BD.out).2.1 (KV.out _ BD.out).2.2.2.1 HN8.out G1.out G3.out) ?_); rintro e v1 ⟨v, rfl, hb', x1, m1, d1, T1, rfl, r1, hm1, -⟩; have B1 : Hid (Below V.heap.size V v1) := below_tr BD.out (Nat.le_refl _) hb'; have R1 := Lib.hid r1; have HM1 := Lib.hid hm1; clear hb' r1 hm1)
              | ((with_reducible refine Calls.mono (s_meetSpace p n a2 a3 n2 c2 n3 c3 l2 l3 S2 S3 v1 HPF.out (KV.out _ B1.out).2.2.1 (KV.out _ B1.out).2.2.2.1 HN8.out G2.out G3.out) ?_); rintro e v2 ⟨v, rfl, hb', x2, m2, d2, T2, rfl, r2, hm2, -⟩; have B2 : Hid (Below V.heap.size V v2) := below_tr B1.out (Nat.le_refl _) hb'; have R2 := Lib.hid r2; have R12 := Lib.hid (R1.out.below Shp.ints_good hb'); have HM2 := Lib.hid hm2; clear hb' r2 hm2)
              | ((with_reducible refine Calls.mono (s_meetSpace p n xa a3 ma da n3 c3 (meetL p n l1 l2) l3 Ta S3 v2 HPF.out (KV.out _ B2.out).2.2.2.2 (KV.out _ B2.out).2.2.2.1 HN8.out (Sp.meet HPF.out) G3.out) ?_); rintro e v3 ⟨v, rfl, hb', x3, m3, d3, T3, rfl, r3, hm3, -⟩; have B3 : Hid (Below V.heap.size V v3) := below_tr B2.out (Nat.le_refl _) hb'; have R3 := Lib.hid r3; have R13 := Lib.hid (R12.out.below Shp.ints_good hb'); have R23 := Lib.hid (R2.out.below Shp.ints_good hb'); have HM3 := Lib.hid hm3; clear hb' r3 hm3))
          | (go_at_call 81; first
              | ((with_reducible refine Calls.mono (s_sumSpace p n a1 a2 n1 c1 n2 c2 l1 l2 S1 S2 v3 HPF.out (KV.out _ B3.out).2.1 (KV.out _ B3.out).2.2.1 HN8.out G1.out G2.out) ?_); rintro e v4 ⟨v, rfl, hb', x4, m4, d4, T4, rfl, r4, hm4, -⟩; have B4 : Hid (Below V.heap.size V v4) := below_tr B3.out (Nat.le_refl _) hb'; have R4 := Lib.hid r4; have R14 := Lib.hid (R13.out.below Shp.ints_good hb'); have R24 := Lib.hid (R23.out.below Shp.ints_good hb'); have R34 := Lib.hid (R3.out.below Shp.ints_good hb'); have HM4 := Lib.hid hm4; clear hb' r4 hm4)
              | ((with_reducible refine Calls.mono (s_sumSpace p n x4 a3 m4 d4 n3 c3 (sumL p n l1 l2) l3 T4 S3 v4 HPF.out R4.out (KV.out _ B4.out).2.2.2.1 HN8.out (Sp.sum HPF.out G1.out G2.out) G3.out) ?_); rintro e v5 ⟨v, rfl, hb', x5, m5, d5, T5, rfl, r5, hm5, -⟩; have B5 : Hid (Below V.heap.size V v5) := below_tr B4.out (Nat.le_refl _) hb'; have R5 := Lib.hid r5; have R15 := Lib.hid (R14.out.below Shp.ints_good hb'); have R25 := Lib.hid (R24.out.below Shp.ints_good hb'); have R35 := Lib.hid (R34.out.below Shp.ints_good hb'); have HM5 := Lib.hid hm5; clear hb' r5 hm5)))
      all_goals (
        have hfit : fits (n : Int) := by have := HN8.out; unfold fits; omega
        have hb6 : Below v5.heap.size v5 (v5.alloc (.cells #[.int .i64 n, .slice a1 n1 c1, .int .i64 n, .slice a2 n2 c2, .int .i64 n, .slice a3 n3 c3, .int .i64 n, .slice xa ma da, .int .i64 n, .slice x1 m1 d1, .int .i64 n, .slice x2 m2 d2, .int .i64 n, .slice x3 m3 d3, .int .i64 n, .slice x5 m5 d5] 38)) := (Below.refl _ _).alloc (Nat.le_refl _) _
        have HSP : Hid (∃ S, SliceRd Shp.spc (v5.alloc (.cells #[.int .i64 n, .slice a1 n1 c1, .int .i64 n, .slice a2 n2 c2, .int .i64 n, .slice a3 n3 c3, .int .i64 n, .slice xa ma da, .int .i64 n, .slice x1 m1 d1, .int .i64 n, .slice x2 m2 d2, .int .i64 n, .slice x3 m3 d3, .int .i64 n, .slice x5 m5 d5] 38)) (some ⟨v5.heap.size, 0, none⟩) 8 8
            [⟨n, l1⟩, ⟨n, l2⟩, ⟨n, l3⟩, ⟨n, meetL p n l1 l2⟩, ⟨n, meetL p n l1 l3⟩, ⟨n, meetL p n l2 l3⟩, ⟨n, meetL p n (meetL p n l1 l2) l3⟩, ⟨n, sumL p n (sumL p n l1 l2) l3⟩] S) := by
          have Kf := KV.out _ (below_then B5.out hb6)
          have h0 := spcs_rd hfit [⟨a1, n1, c1, l1, S1⟩, ⟨a2, n2, c2, l2, S2⟩, ⟨a3, n3, c3, l3, S3⟩, ⟨xa, ma, da, meetL p n l1 l2, Ta⟩, ⟨x1, m1, d1, meetL p n l1 l3, T1⟩, ⟨x2, m2, d2, meetL p n l2 l3, T2⟩, ⟨x3, m3, d3, meetL p n (meetL p n l1 l2) l3, T3⟩, ⟨x5, m5, d5, sumL p n (sumL p n l1 l2) l3, T5⟩]
            (w := v5.alloc (.cells #[.int .i64 n, .slice a1 n1 c1, .int .i64 n, .slice a2 n2 c2, .int .i64 n, .slice a3 n3 c3, .int .i64 n, .slice xa ma da, .int .i64 n, .slice x1 m1 d1, .int .i64 n, .slice x2 m2 d2, .int .i64 n, .slice x3 m3 d3, .int .i64 n, .slice x5 m5 d5] 38))
            (by
              intro x hx
              simp only [List.mem_cons, List.not_mem_nil, or_false] at hx
              rcases hx with rfl | rfl | rfl | rfl | rfl | rfl | rfl | rfl
              · exact Kf.2.1
              · exact Kf.2.2.1
              · exact Kf.2.2.2.1
              · exact Kf.2.2.2.2
              · exact R15.out.below Shp.ints_good hb6
              · exact R25.out.below Shp.ints_good hb6
              · exact R35.out.below Shp.ints_good hb6
              · exact R5.out.below Shp.ints_good hb6)
          exact ⟨_, rfl, Nat.le_refl _, by unfold maxLen; omega, .inr ⟨v5.heap.size, 0, _, _, by simp, rfl, by simp, rfl, At.alloc v5 _ _, h0⟩⟩
        obtain ⟨SQ, hSQ⟩ := HSP.out
        have HD := Lib.hid (c_subDims _ 8 8 _ SQ _ hSQ (by omega))
        have B6 : Hid (Below V.heap.size V (v5.alloc (.cells #[.int .i64 n, .slice a1 n1 c1, .int .i64 n, .slice a2 n2 c2, .int .i64 n, .slice a3 n3 c3, .int .i64 n, .slice xa ma da, .int .i64 n, .slice x1 m1 d1, .int .i64 n, .slice x2 m2 d2, .int .i64 n, .slice x3 m3 d3, .int .i64 n, .slice x5 m5 d5] 38))) := below_then B5.out hb6
        clear hSQ hb6 hfit
        go_wp2_with fail
        refine HD.out.mono ?_
        rintro e v7 ⟨v, rfl, hb7, S7, hO7⟩
        obtain ⟨a7, n7, c7, S8, rfl, -, rd7, nw7, -⟩ := hO7.rd
        have B7 := Lib.hid (below_then B6.out hb7)
        have R7 := Lib.hid (And.intro rd7 nw7)
        clear hb7 hO7 rd7 nw7
        go_wp2
        go_ret2
        refine ⟨_, rfl, (KV.out _ B7.out).1, a7, n7, c7, S8, by rw [HV.out]; rfl, ?_, R7.out.2.mono ?_⟩
        · have h := R7.out.1
          unfold tripleV
          rw [HV.out]
          exact h
        · exact Nat.le_trans (KV.out _ (Below.refl _ _)).1.size B6.out.size)
end Go.Proofs.Ytpngpgbmkkjjgaa

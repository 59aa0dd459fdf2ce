/-
  Contracts: impl.reduce.
-/
import Derived.Test.YtpngpgbmkkjjgaaC13
import Derived.Deep.RegionLaw
namespace Go.Proofs.Ytpngpgbmkkjjgaa
open Go.RowKit

/-- The world while a matrix is reduced in place: its variable, the result's block, its numbers. -/
structure RS (w : World) (m n g N cap : Nat) (F : Nat → Nat → Int) (wr : World) : Prop where
  box : At wr w.heap.size 0 [.int .i64 m, .int .i64 n, .slice (some ⟨g, 0, none⟩) N cap]
  res : At wr (w.heap.size + 1) 0 [.int .i64 0, .int .i64 0, .slice none 0 0]
  mat : MatAt wr g m n F
  bel : Below w.heap.size w wr
  lo : w.heap.size + 2 ≤ g

theorem RS.below {w : World} {m n g N cap : Nat} {F : Nat → Nat → Int} {wr w' : World} (h : RS w m n g N cap F wr) (hb : Below wr.heap.size wr w') : RS w m n g N cap F w' where
  box := h.box.keep (hb.block _ (by have := h.lo; have := h.mat.1; omega))
  res := h.res.keep (hb.block _ (by have := h.lo; have := h.mat.1; omega))
  mat := h.mat.below hb
  bel := h.bel.trans (hb.mono h.bel.size)
  lo := h.lo
theorem RS.drew {w : World} {m n g N cap : Nat} {F : Nat → Nat → Int} {wr : World} (h : RS w m n g N cap F wr) : RS w m n g N cap F wr.drew := h.below ⟨rfl, rfl, rfl, Nat.le_refl _, fun _ _ => rfl⟩
theorem RS.frm {w : World} {m n g N cap : Nat} {F G : Nat → Nat → Int} {wr w' : World} (h : RS w m n g N cap F wr) (hf : Frm [g] wr w') (hm : MatAt w' g m n G) : RS w m n g N cap G w' where
  box := h.box.frm hf (by have := h.lo; have := h.mat.1; omega) (by have := h.lo; simp; omega)
  res := h.res.frm hf (by have := h.lo; have := h.mat.1; omega) (by have := h.lo; simp; omega)
  mat := hm
  bel := h.bel.trans (hf.to_below h.bel.size (fun b hb => by have := h.lo; simp at hb; omega))
  lo := h.lo
theorem RS.off {w : World} {m n g N cap : Nat} {F : Nat → Nat → Int} {wr w' : World} {S : List Nat} (h : RS w m n g N cap F wr) (hf : Frm S wr w') (hS : ∀ b ∈ S, g + 1 ≤ b) : RS w m n g N cap F w' where
  box := h.box.frm hf (by have := h.lo; have := h.mat.1; omega) (fun hm => by have := hS _ hm; have := h.lo; omega)
  res := h.res.frm hf (by have := h.lo; have := h.mat.1; omega) (fun hm => by have := hS _ hm; have := h.lo; omega)
  mat := h.mat.frm hf (fun hm => by have := hS _ hm; omega)
  bel := h.bel.trans (hf.to_below h.bel.size (fun b hb => by have := h.lo; have := hS _ hb; omega))
  lo := h.lo
theorem RS.set {w : World} {m n g N cap : Nat} {F : Nat → Nat → Int} {wr : World} (h : RS w m n g N cap F wr) {i j : Nat} (hi : i < m) (hj : j < n) (v : Int) : RS w m n g N cap (setF F i j v) (wr.setCell ⟨g, i * n + j, none⟩ (.int .i64 v)) :=
  h.frm ((Frm.refl _ _).setCell (by simp) _) (h.mat.set hi hj v)
theorem RS.congr {w : World} {m n g N cap : Nat} {F G : Nat → Nat → Int} {wr : World} (h : RS w m n g N cap F wr) (e : ∀ i j, i < m → j < n → G i j = F i j) : RS w m n g N cap G wr :=
  ⟨h.box, h.res, h.mat.congr e, h.bel, h.lo⟩
theorem RS.rowTo {w : World} {m n g N cap : Nat} {F : Nat → Nat → Int} {wr w' : World} (h : RS w m n g N cap F wr) {i : Nat} (_hi : i < m) {A : Nat → Int} (hr : RowTo wr w' g (i * n) n A) : RS w m n g N cap (fun a x => if a = i then A x else F a x) w' := by
  refine h.frm hr.frm ⟨by rw [hr.size]; exact h.mat.1, fun a x ha hx => ⟨?_, by rw [hr.froz]; exact (h.mat.2 a x ha hx).2⟩⟩
  rw [hr.cell]
  show _ = some (Value.int .i64 (if a = i then A x else F a x))
  by_cases e : a = i
  · subst e
    rw [if_pos ⟨by omega, by omega⟩, if_pos rfl, show a * n + x - a * n = x by omega]
  · rw [if_neg, if_neg e]
    · exact (h.mat.2 a x ha hx).1
    · rintro ⟨h1, h2⟩
      have := cell_inj (n := n) (i := a) (j := x) (i' := i) (j' := a * n + x - i * n) hx (by omega) (by omega)
      exact e this.1

/-- Two rows, changed in the columns before x. -/
def swapTo (F : Nat → Nat → Int) (a b x : Nat) : Nat → Nat → Int := fun i y => if y < x then swapF F a b i y else F i y
theorem swapTo_succ (F : Nat → Nat → Int) (a b x i y : Nat) : swapTo F a b (x + 1) i y = setF (setF (swapTo F a b x) a x (F b x)) b x (F a x) i y := by
  unfold swapTo setF swapF
  by_cases h1 : y = x
  · subst h1
    by_cases h2 : i = b
    · subst h2
      by_cases h3 : i = a
      · subst h3; simp
      · simp [h3]
    · by_cases h3 : i = a
      · subst h3; simp [h2]
      · simp [h2, h3]
  · by_cases h4 : y < x
    · simp [h1, h4, show y < x + 1 by omega]
    · simp [h1, h4, show ¬ y < x + 1 by omega]
def scaleTo (p : Int) (F : Nat → Nat → Int) (a : Nat) (s : Int) (x : Nat) : Nat → Nat → Int := fun i y => if i = a ∧ y < x then (F a y * s) % p else F i y
theorem scaleTo_succ (p : Int) (F : Nat → Nat → Int) (a : Nat) (s : Int) (x i y : Nat) : scaleTo p F a s (x + 1) i y = setF (scaleTo p F a s x) a x ((F a x * s) % p) i y := by
  unfold scaleTo setF
  by_cases h1 : i = a
  · subst h1
    by_cases h2 : y = x
    · subst h2; simp
    · by_cases h3 : y < x
      · simp [h2, h3, show y < x + 1 by omega]
      · simp [h2, h3, show ¬ y < x + 1 by omega]
  · simp [h1]
def elimTo (p : Int) (F : Nat → Nat → Int) (a j i : Nat) : Nat → Nat → Int := fun b y => if b < i ∧ b ≠ a then (F b y - F b j * F a y) % p else F b y
theorem rows_apart {n i k : Nat} (h : i ≠ k) : k * n + n ≤ i * n ∨ i * n + n ≤ k * n := by
  rcases Nat.lt_or_gt_of_ne h with h | h
  · right
    have := Nat.mul_le_mul_right n (show i + 1 ≤ k from h)
    rw [Nat.add_mul] at this; omega
  · left
    have := Nat.mul_le_mul_right n (show k + 1 ≤ i from h)
    rw [Nat.add_mul] at this; omega
theorem elim_val (p f x y : Int) : (x + (p - f) * y) % p = (x - f * y) % p := by
  have e : x + (p - f) * y = (x - f * y) + p * y := by rw [Int.sub_mul]; omega
  rw [e, Int.add_mul_emod_self_left]
theorem invR_bd {p r : Int} (hp : 0 < p) : 0 ≤ invR p r ∧ invR p r < p := by
  unfold invR
  obtain ⟨k, hk⟩ : ∃ k, (max (p - 2) 1).toNat = k + 1 := ⟨(max (p - 2) 1).toNat - 1, by omega⟩
  rw [hk]
  unfold powR
  exact ⟨Int.emod_nonneg _ (by omega), Int.emod_lt_of_pos _ hp⟩
theorem swapTo_at (F : Nat → Nat → Int) (a b x i : Nat) : swapTo F a b x i x = F i x := by simp [swapTo]

set_option maxRecDepth 20000 in
set_option maxHeartbeats 8000000 in
theorem reduce_walk (p : Int) (m n : Nat) (a : Option Addr) (N c : Nat) (l : List Int) (S : List Nat) (w : World) (hp : isF p = true) (h : SliceRd Shp.int w a N c l S) (hN : N = m * n) (hm : 0 < m) (hn : 0 < n) (hsz : N ≤ 1048576)
    (F0 : Nat → Nat → Int) (hF : ∀ i j, i < m → j < n → l[i * n + j]?.getD 0 = F0 i j) (hin : InP p m n F0) :
    Calls Try.prog 146 #[.int .i64 p, .agg #[.int .i64 m, .int .i64 n, .slice a N c]] w (Ret w fun v w' => ∃ g cap aP nP cP SP, v = .tuple #[.agg #[.int .i64 m, .int .i64 n, .slice (some ⟨g, 0, none⟩) N cap], .slice aP nP cP] ∧ (N ≤ cap ∧ cap ≤ maxLen) ∧ w.heap.size ≤ g ∧
      MatAt w' g m n (redUp p m F0 n).1 ∧ Own 3 Shp.int w' (g + 1) (.slice aP nP cP) ((redUp p m F0 n).2.map fun x : Nat => (x : Int)) SP) := by
  have hlen := h.1
  have b0 := (Below.refl w.heap.size w).alloc (Nat.le_refl _) (.cells #[.int .i64 m, .int .i64 n, .slice a N c] 107)
  have b1 := (Below.refl _ (w.alloc (.cells #[.int .i64 m, .int .i64 n, .slice a N c] 107))).alloc (Nat.le_refl _) (.cells #[.int .i64 0, .int .i64 0, .slice none 0 0] 107)
  have t1 := At.alloc (w.alloc (.cells #[.int .i64 m, .int .i64 n, .slice a N c] 107)) #[.int .i64 0, .int .i64 0, .slice none 0 0] 107
  rw [World.size_alloc] at t1
  have A0 := Lib.hid (And.intro ((At.alloc w #[.int .i64 m, .int .i64 n, .slice a N c] 107).keep (b1.block _ (by simp))) (And.intro t1 (below_then b0 b1)))
  have HC := Lib.hid (c_Matrix_clone (m : Int) (n : Int) a N c l S _ ((h.below Shp.int_good b0).below Shp.int_good b1) hsz)
  have HP := Lib.hid hp
  have HI := Lib.hid hin
  have HF := Lib.hid hF
  have HN := Lib.hid hN
  have HL := Lib.hid hlen
  obtain ⟨hp1, hp2⟩ := isF_bd hp
  have hpos : 0 < m * n := Nat.mul_pos hm hn
  have hNp : 0 < N := by omega
  have hms : m ≤ 1048576 := by have := Nat.le_mul_of_pos_right m hn; omega
  have hns : n ≤ 1048576 := by have := Nat.le_mul_of_pos_left n hm; omega
  clear b0 b1 t1 h hp hin hF hN hlen hpos
  go_enter Try.func146, Try.ntmps146
  go_wp2_with fail
  refine HC.out.mono ?_
  rintro e w1 ⟨v, rfl, hb1, a1, N1, c1, S1, rfl, hO1⟩
  have HG : Hid (∃ g, a1 = some ⟨g, 0, none⟩ ∧ N1 = N ∧ N ≤ c1 ∧ c1 ≤ maxLen ∧ w.heap.size + 2 ≤ g ∧ MatAt w1 g m n F0) := by
    obtain ⟨_, _, _, S1', hv1, e1, rd1, new1, sub1⟩ := hO1.rd
    cases hv1
    have eN : N1 = N := by rw [e1]; exact HL.out
    subst eN
    obtain ⟨b, off, rfl, hb, hc⟩ := rd1.row.cell hNp
    obtain ⟨xs, T, hown, _⟩ := hO1
    obtain ⟨a2, c2, hv2, hle1, hle2, hx⟩ := own_form hown
    cases hv2
    have h3 := hx _ rfl
    have h4 := h3.1
    have h5 := h3.2.1
    simp at h4 h5
    subst h4
    refine ⟨b, rfl, rfl, rd1.2.1, hle2, by omega, hb, fun i j hi hj => ?_⟩
    have h6 := cell_lt (n := n) hi hj
    have := hc (i * n + j) (by rw [HN.out]; exact h6)
    rw [Nat.zero_add, HF.out i j hi hj] at this
    exact this
  obtain ⟨g, rfl, rfl, hNc, hcm, hg, hmat⟩ := HG.out
  have hX : RS w m n g N1 c1 F0 (((w1.setCell ⟨w.heap.size, 0, none⟩ (.int .i64 m)).setCell ⟨w.heap.size, 1, none⟩ (.int .i64 n)).setCell ⟨w.heap.size, 2, none⟩ (.slice (some ⟨g, 0, none⟩) N1 c1)) := by
    have hA := A0.out.1.keep (hb1.block _ (by simp; omega))
    have hR := A0.out.2.1.keep (hb1.block _ (by simp))
    have hfr : Frm [w.heap.size] w1 (((w1.setCell ⟨w.heap.size, 0, none⟩ (.int .i64 m)).setCell ⟨w.heap.size, 1, none⟩ (.int .i64 n)).setCell ⟨w.heap.size, 2, none⟩ (.slice (some ⟨g, 0, none⟩) N1 c1)) := (((Frm.refl _ _).setCell (by simp) _).setCell (by simp) _).setCell (by simp) _
    exact ⟨((hA.set 0 (.int .i64 m) (by simp)).set 1 (.int .i64 n) (by simp)).set 2 (.slice (some ⟨g, 0, none⟩) N1 c1) (by simp), hR.frm hfr (by have := hmat.1; omega) (by simp), hmat.frm hfr (by simp; omega), (((below_then A0.out.2.2 hb1).setCell (Nat.le_refl _) _).setCell (Nat.le_refl _) _).setCell (Nat.le_refl _) _, hg⟩
  have hA := A0.out.1.keep (hb1.block _ (by simp; omega))
  have p0 := hA.c0
  have p1 := hA.c1
  have p2 := hA.c2
  have g0 := hA.f0
  have g1 := hA.f1
  have g2 := hA.f2
  have X0 := Lib.hid hX
  have q1 := hX.box.c1
  clear hmat hX hb1 hO1 hA A0 HC HG
  go_wp2
  generalize ((w1.setCell ⟨w.heap.size, 0, none⟩ (.int .i64 m)).setCell ⟨w.heap.size, 1, none⟩ (.int .i64 n)).setCell ⟨w.heap.size, 2, none⟩ (.slice (some ⟨g, 0, none⟩) N1 c1) = W at *
  clear p0 p1 p2 g0 g1 g2 q1
  go_loopw [6, 18] (fun s i wr => ∃ (j : Nat) (F : Nat → Nat → Int) (L : List Nat) (aP : Option Addr) (nP cP : Nat) (SP : List Nat), j ≤ n ∧ i = .int .i64 j ∧ s = .slice aP nP cP ∧ Hid (redUp p m F0 j = (F, L)) ∧ Hid (RS w m n g N1 c1 F wr) ∧ Hid (Own 3 Shp.int wr (g + 1) (.slice aP nP cP) (L.map fun x : Nat => (x : Int)) SP)) (fun _ i _ => n - (intOf i).toNat)
  case atStart => exact ⟨0, F0, [], none, 0, 0, [], Nat.zero_le _, rfl, rfl, rfl, X0, Own.nil _ _ _ _⟩
  case round =>
    obtain ⟨j, F, L, aP, nP, cP, SP, hj, rfl, rfl, HU, HX, HO⟩ := hrel
    by_cases hlt : j < n
    · have hnP : nP = L.length := by have := HO.out.room.1; simpa using this
      have hLm : L.length ≤ m := by have := @redUp_len p m F0 j; rw [HU.out] at this; exact this
      have HIF : Hid (InP p m n F) := by have := redUp_in (by omega) HI.out j; rw [HU.out] at this; exact this
      have HNP := Lib.hid hnP
      have hkm : nP ≤ m := by omega
      clear hnP hLm
      go_wp2
      go_loopw [8] (fun s wr' => ∃ r : Nat, nP ≤ r ∧ r ≤ m ∧ s = .int .i64 r ∧ Hid (∀ i, nP ≤ i → i < r → F i j = 0) ∧ Hid (RS w m n g N1 c1 F wr') ∧ Hid (Own 3 Shp.int wr' (g + 1) (.slice aP nP cP) (L.map fun x : Nat => (x : Int)) SP)) (fun s _ => m - (intOf s).toNat)
      case atStart => exact ⟨nP, Nat.le_refl _, hkm, rfl, fun i h1 h2 => absurd h2 (Nat.not_lt.2 h1), HX, HO⟩
      case round =>
        obtain ⟨r, hr1, hr2, rfl, HZ, HX, HO⟩ := hrel
        have q0 := HX.out.box.c0
        have q1 := HX.out.box.c1
        have q2 := HX.out.box.c2
        by_cases hlt2 : r < m
        · have HR := Lib.hid (c_row g N1 c1 m n r wr hlt2 hn (Nat.le_of_eq HN.out.symm) hNc hsz)
          cases e0 : (F r j == 0) with
          | true =>
            have E0 : Hid (F r j = 0) := by show _ = _; simpa using e0
            go_wp2_with fail
            refine HR.out.mono ?_
            rintro e w2 ⟨v, rfl, hb2, rfl⟩
            have X2 := Lib.hid (HX.out.below hb2)
            have O2 := Lib.hid (HO.out.below Shp.int_good hb2)
            have cr := (X2.out.mat.2 r j hlt2 hlt).1
            clear hb2 q0 q1 q2 HX HO HR
            go_wp2
            go_roundw
            case rel =>
              refine ⟨r + 1, by omega, by omega, by go_num, fun i h1 h2 => ?_, X2, O2⟩
              by_cases e : i = r
              · subst e; exact E0.out
              · exact HZ.out i h1 (by omega)
            case measure => simp [intOf]; omega
          | false =>
            have E0 : Hid (F r j ≠ 0) := by show _ ≠ _; simpa using e0
            have e9 : ((r : Int) == m) = false := by simp; omega
            go_wp2_with fail
            refine HR.out.mono ?_
            rintro e w2 ⟨v, rfl, hb2, rfl⟩
            have X2 := Lib.hid (HX.out.below hb2)
            have O2 := Lib.hid (HO.out.below Shp.int_good hb2)
            have cr := (X2.out.mat.2 r j hlt2 hlt).1
            have HR2 := Lib.hid (c_row g N1 c1 m n nP w2 (by omega) hn (Nat.le_of_eq HN.out.symm) hNc hsz)
            have q0 := X2.out.box.c0
            have q1 := X2.out.box.c1
            have q2 := X2.out.box.c2
            clear hb2 HX HO HR
            go_wp2_with fail
            refine HR2.out.mono ?_
            rintro e w3 ⟨v, rfl, hb3, rfl⟩
            have X3 := Lib.hid (X2.out.below hb3)
            have O3 := Lib.hid (O2.out.below Shp.int_good hb3)
            have q1 := X3.out.box.c1
            clear hb3 X2 O2 HR2
            go_wp2
            have hkm' : nP < m := by omega
            go_loopw [48] (fun s wr' => ∃ x : Nat, x ≤ n ∧ s = .int .i64 x ∧ Hid (RS w m n g N1 c1 (swapTo F nP r x) wr') ∧ Hid (Own 3 Shp.int wr' (g + 1) (.slice aP nP cP) (L.map fun x : Nat => (x : Int)) SP)) (fun s _ => n - (intOf s).toNat)
            case atStart => exact ⟨0, Nat.zero_le _, rfl, X3.out.congr (fun i y _ _ => by simp [swapTo]), O3⟩
            clear X3 O3 q1 cr
            case round =>
              obtain ⟨x, hx', rfl, HX, HO⟩ := hrel
              by_cases hx : x < n
              · have q0 := HX.out.box.c0
                have q1 := HX.out.box.c1
                have q2 := HX.out.box.c2
                have cr := HX.out.mat.2 r x hlt2 hx
                have ck := HX.out.mat.2 nP x hkm' hx
                rw [swapTo_at] at cr ck
                obtain ⟨cr, fr⟩ := cr
                obtain ⟨ck, fk⟩ := ck
                have XD := Lib.hid HX.out.drew
                have OD : Hid (Own 3 Shp.int wr.drew (g + 1) (.slice aP nP cP) (L.map fun x : Nat => (x : Int)) SP) := HO.out.below Shp.int_good ⟨rfl, rfl, rfl, Nat.le_refl _, fun _ _ => rfl⟩
                by_cases hrn : r = nP
                · subst hrn
                  go_wp2
                  go_region_law
                    (first
                  | (go_simp; go_at_call 148; refine Calls.mono (c_row g N1 c1 m n r _ hlt2 hn (Nat.le_of_eq HN.out.symm) hNc hsz) ?_; rintro e w4 ⟨v, rfl, hb4, rfl⟩; have X4 : Hid (RS w m n g N1 c1 (swapTo F r r x) w4) := RS.below (Hid.out (by assumption)) hb4; have O4 : Hid (Own 3 Shp.int w4 (g + 1) (.slice aP r cP) (L.map fun x : Nat => (x : Int)) SP) := Own.below Shp.int_good (Hid.out (by assumption)) hb4
                     have q0 := X4.out.box.c0
                     have q1 := X4.out.box.c1
                     have q2 := X4.out.box.c2
                     have cr := X4.out.mat.2 r x hlt2 hx
                     have ck := X4.out.mat.2 r x hlt2 hx
                     rw [swapTo_at] at cr ck
                     obtain ⟨cr, fr⟩ := cr
                     obtain ⟨ck, fk⟩ := ck
                     clear hb4))
                  all_goals (
                    go_wp2
                    go_roundw
                    · exact ⟨x + 1, by omega, by go_num, ((X4.out.set hlt2 hx (F r x)).set hlt2 hx (F r x)).congr (fun i y _ _ => swapTo_succ F r r x i y), (O4.out.setOff Shp.int_good (O4.out.off (Nat.lt_succ_self g)) _).setOff Shp.int_good (O4.out.off (Nat.lt_succ_self g)) _⟩
                    · simp [intOf]; omega)
                · have hne : ¬ (r * n + x = nP * n + x) := fun e => hrn (cell_inj hx hx e).1
                  have hne' : ¬ (nP * n + x = r * n + x) := fun e => hne e.symm
                  go_wp2
                  go_region_law
                    (first
                  | (go_simp; go_at_call 148; refine Calls.mono (c_row g N1 c1 m n r _ hlt2 hn (Nat.le_of_eq HN.out.symm) hNc hsz) ?_; rintro e w4 ⟨v, rfl, hb4, rfl⟩; have X4 : Hid (RS w m n g N1 c1 (swapTo F nP r x) w4) := RS.below (Hid.out (by assumption)) hb4; have O4 : Hid (Own 3 Shp.int w4 (g + 1) (.slice aP nP cP) (L.map fun x : Nat => (x : Int)) SP) := Own.below Shp.int_good (Hid.out (by assumption)) hb4
                     have q0 := X4.out.box.c0
                     have q1 := X4.out.box.c1
                     have q2 := X4.out.box.c2
                     have cr := X4.out.mat.2 r x hlt2 hx
                     have ck := X4.out.mat.2 nP x hkm' hx
                     rw [swapTo_at] at cr ck
                     obtain ⟨cr, fr⟩ := cr
                     obtain ⟨ck, fk⟩ := ck
                     clear hb4))
                  all_goals (
                    go_wp2
                    go_roundw
                    · exact ⟨x + 1, by omega, by go_num, ((X4.out.set hkm' hx (F r x)).set hlt2 hx (F nP x)).congr (fun i y _ _ => swapTo_succ F nP r x i y), (O4.out.setOff Shp.int_good (O4.out.off (Nat.lt_succ_self g)) _).setOff Shp.int_good (O4.out.off (Nat.lt_succ_self g)) _⟩
                    · simp [intOf]; omega)
              · obtain rfl : x = n := by omega
                have XS : Hid (RS w m x g N1 c1 (scaleTo p (swapF F nP r) nP (invR p (F r j)) 0) wr) := HX.out.congr (fun i y _ hy => by simp [scaleTo, swapTo, hy])
                have ck := (HX.out.mat.2 nP j hkm' hlt).1
                rw [show swapTo F nP r x nP j = F r j by simp [swapTo, hlt, swapF]] at ck
                have HB : Hid (0 ≤ F r j ∧ F r j < p) := HIF.out r j hlt2 hlt
                have HV : Hid (invR p (F r j % p) = invR p (F r j)) := by
                  show _ = _
                  rw [Int.emod_eq_of_lt HB.out.1 HB.out.2]
                have HIV := Lib.hid (c_impl_InverseMod p (F r j) HP.out (by have := HB.out; unfold fits; omega) wr)
                go_wp2_with fail
                refine HIV.out.mono ?_
                rintro e w5 ⟨rfl, rfl⟩
                rw [HV.out]
                have HSB := Lib.hid (@invR_bd p (F r j) (by omega))
                generalize hsc : invR p (F r j) = sc at *
                have HSC := Lib.hid hsc
                clear hsc HIV HV
                go_wp2
                go_loopw [78] (fun s wr' => ∃ y : Nat, y ≤ x ∧ s = .int .i64 y ∧ Hid (RS w m x g N1 c1 (scaleTo p (swapF F nP r) nP sc y) wr') ∧ Hid (Own 3 Shp.int wr' (g + 1) (.slice aP nP cP) (L.map fun x : Nat => (x : Int)) SP)) (fun s _ => x - (intOf s).toNat)
                case atStart => exact ⟨0, Nat.zero_le _, rfl, XS, HO⟩
                clear XS HX HO ck
                case round =>
                  obtain ⟨y, hy', rfl, HX, HO⟩ := hrel
                  by_cases hy : y < x
                  · have ck := (HX.out.mat.2 nP y hkm' hy).1
                    have fk := (HX.out.mat.2 nP y hkm' hy).2
                    rw [show scaleTo p (swapF F nP r) nP sc y nP y = F r y by simp [scaleTo, swapF]] at ck
                    have HB2 : Hid (0 ≤ F r y ∧ F r y < p) := HIF.out r y hlt2 hy
                    have HV : Hid ((wrap64 (F r y * sc)).tmod p = (swapF F nP r nP y * sc) % p) := by
                      show _ = _
                      have h1 := @mul_small (F r y) sc (by have := HB2.out; omega) (by have := HSB.out; omega)
                      rw [show swapF F nP r nP y = F r y by simp [swapF], IntWalk.wrap64_in _ ⟨by omega, by omega⟩]
                      exact Int.tmod_eq_emod_of_nonneg (by omega)
                    have hp0 : p ≠ 0 := by omega
                    go_wp2
                    go_roundw
                    case rel =>
                      refine ⟨y + 1, by omega, by go_num, ?_, HO.out.setOff Shp.int_good (HO.out.off (Nat.lt_succ_self g)) _⟩
                      show RS _ _ _ _ _ _ _ _
                      rw [HV.out]
                      exact (HX.out.set hkm' hy _).congr (fun i z _ _ => scaleTo_succ p _ nP sc y i z)
                    case measure => simp [intOf]; omega
                  · obtain rfl : y = x := by omega
                    have HI2 : Hid (InP p m y (scaleF p (swapF F nP r) nP sc)) := by
                      intro i z hi hz
                      unfold scaleF
                      split
                      · exact ⟨Int.emod_nonneg _ (by omega), Int.emod_lt_of_pos _ (by omega)⟩
                      · unfold swapF
                        split
                        · exact HIF.out _ _ hlt2 hz
                        · split
                          · exact HIF.out _ _ hkm' hz
                          · exact HIF.out _ _ hi hz
                    have XS : Hid (RS w m y g N1 c1 (elimTo p (scaleF p (swapF F nP r) nP sc) nP j 0) wr) := HX.out.congr (fun i z _ hz => by
                      simp only [elimTo, scaleTo, scaleF, Nat.not_lt_zero, false_and, if_false, hz, and_true])
                    have HF2 : Hid (redPart p F nP r j = elimF p (scaleF p (swapF F nP r) nP sc) nP j) := by show _ = _; unfold redPart; rw [HSC.out]
                    generalize scaleF p (swapF F nP r) nP sc = F2 at *
                    have q0 := XS.out.box.c0
                    go_wp2
                    go_loopw [95] (fun s wr' => ∃ i : Nat, i ≤ m ∧ s = .int .i64 i ∧ Hid (RS w m y g N1 c1 (elimTo p F2 nP j i) wr') ∧ Hid (Own 3 Shp.int wr' (g + 1) (.slice aP nP cP) (L.map fun x : Nat => (x : Int)) SP)) (fun s _ => m - (intOf s).toNat)
                    case atStart => exact ⟨0, Nat.zero_le _, rfl, XS, HO⟩
                    clear XS HX HO q0
                    case round =>
                      obtain ⟨i, hi', rfl, HX, HO⟩ := hrel
                      by_cases hi : i < m
                      · cases en : ((i : Int) != nP) with
                        | false =>
                          have HE : Hid (i = nP) := by show _ = _; simp at en; omega
                          go_wp2
                          go_roundw
                          case rel =>
                            refine ⟨i + 1, by omega, by go_num, HX.out.congr (fun b z _ _ => ?_), HO⟩
                            unfold elimTo
                            by_cases e : b = nP
                            · simp [e]
                            · have h1 : (b < i + 1) ↔ (b < i) := by have := HE.out; omega
                              simp only [h1]
                          case measure => simp [intOf]; omega
                        | true =>
                          have hne : i ≠ nP := by rintro rfl; simp at en
                          have HNE := Lib.hid hne
                          have q0 := HX.out.box.c0
                          have q1 := HX.out.box.c1
                          have q2 := HX.out.box.c2
                          have HFI : Hid (∀ z, elimTo p F2 nP j i i z = F2 i z ∧ elimTo p F2 nP j i nP z = F2 nP z) := fun z => ⟨by simp [elimTo], by simp [elimTo]⟩
                          have ci := (HX.out.mat.2 i j hi hlt).1
                          rw [(HFI.out j).1] at ci
                          obtain ⟨hb1, hb2⟩ := HI2.out i j hi hlt
                          have HBB : Hid (∀ b, b < m → ∀ z, z < y → 0 ≤ F2 b z ∧ F2 b z ≤ 1000) := fun b hb z hz => by have := HI2.out b z hb hz; omega
                          have HFf : Hid (∀ v, F2 i j = v → F2 i j = v) := fun v h => h
                          obtain ⟨f, hf⟩ : ∃ f, f = F2 i j := ⟨_, rfl⟩
                          rw [← hf] at ci hb1 hb2
                          have HFF := Lib.hid hf
                          clear hf HFf hne
                          have hwr : IntKind.i64.wrap (p - f) = p - f := by rw [IntKind.wrap_i64]; omega
                          have XD := Lib.hid HX.out.drew
                          have OD : Hid (Own 3 Shp.int wr.drew (g + 1) (.slice aP nP cP) (L.map fun x : Nat => (x : Int)) SP) := HO.out.below Shp.int_good ⟨rfl, rfl, rfl, Nat.le_refl _, fun _ _ => rfl⟩
                          go_wp2
                          go_region_law
                            (go_simp; first
                              | (go_at_call 148; refine Calls.mono (c_row g N1 c1 m y i _ hi hn (Nat.le_of_eq HN.out.symm) hNc hsz) ?_; rintro e w4 ⟨v, rfl, hb4, rfl⟩; have X4 : Hid (RS w m y g N1 c1 (elimTo p F2 nP j i) w4) := RS.below (Hid.out (by assumption)) hb4; have O4 : Hid (Own 3 Shp.int w4 (g + 1) (.slice aP nP cP) (L.map fun x : Nat => (x : Int)) SP) := Own.below Shp.int_good (Hid.out (by assumption)) hb4
                                 have q0 := X4.out.box.c0
                                 have q1 := X4.out.box.c1
                                 have q2 := X4.out.box.c2
                                 have ci := (X4.out.mat.2 i j hi hlt).1
                                 rw [(HFI.out j).1, ← HFF.out] at ci
                                 have HAB : Hid ((∀ z, z < y → w4.cell? ⟨g, i * y + z, none⟩ = some (.int .i64 (F2 i z)) ∧ w4.frozen? ⟨g, i * y + z, none⟩ = false) ∧ (∀ z, z < y → w4.cell? ⟨g, nP * y + z, none⟩ = some (.int .i64 (F2 nP z))) ∧ g < w4.heap.size) :=
                                   ⟨fun z hz => ⟨by rw [(X4.out.mat.2 i z hi hz).1, (HFI.out z).1], (X4.out.mat.2 i z hi hz).2⟩, fun z hz => by rw [(X4.out.mat.2 nP z hkm' hz).1, (HFI.out z).2], X4.out.mat.1⟩
                                 clear hb4)
                              | (go_at_call 123; refine Calls.mono (c_addMultiple p (p - f) g (i * y) (c1 - i * y) y (fun z => F2 i z) g (nP * y) (c1 - nP * y) (fun z => F2 nP z) _ ⟨by omega, by omega⟩ ⟨by omega, by omega⟩ HAB.out.1 (HBB.out i hi) HAB.out.2.1 (HBB.out nP hkm') (Or.inr (rows_apart HNE.out)) (Or.inr HAB.out.2.2) hns) ?_; rintro e w6 ⟨rfl, hRT⟩; have X6 := Lib.hid (X4.out.rowTo hi hRT); have O6 : Hid (Own 3 Shp.int w6 (g + 1) (.slice aP nP cP) (L.map fun x : Nat => (x : Int)) SP) := O4.out.frm Shp.int_good hRT.frm (fun b hb hm => by have := O4.out.new.2 b hb; simp at hm; omega); clear hRT))
                          all_goals (
                            go_wp2
                            go_roundw
                            · refine ⟨i + 1, by omega, by go_num, X6.out.congr (fun b z _ _ => ?_), O6⟩
                              unfold elimTo
                              by_cases e : b = i
                              · subst e
                                rw [if_pos rfl, if_pos ⟨by omega, HNE.out⟩, elim_val, ← HFF.out]
                              · have h1 : (b < i + 1) ↔ (b < i) := by omega
                                rw [if_neg e]
                                simp only [h1]
                            · simp [intOf]; omega)
                      · obtain rfl : i = m := by omega
                        have hfj : fits (j : Int) := by unfold fits; omega
                        have hLb : L.length ≤ 1048576 := by have := HNP.out; omega
                        have hgs : g + 1 ≤ wr.heap.size := HX.out.mat.1
                        go_wp2_with (at_builtin; refine wpList_app1 et_int Shp.int_good rfl (.tmp 117) (.tmp 119) rfl rfl HO.out hgs rfl (by rfl) ⟨rfl, rfl, hfj⟩ (New.nil _) (by simp) (by simp; omega) (by simp; omega) ?_; intro v1 w7 S7 hO7 hF7 hS7; obtain ⟨a7, n7, c7, rfl⟩ := hO7.form; have X7 := Lib.hid (HX.out.off hF7 HO.out.new.2); have O7 := Lib.hid hO7; clear hO7 hF7 hS7)
                        go_roundw
                        case rel =>
                          refine ⟨j + 1, redPart p F nP r j, L ++ [j], a7, n7, c7, S7, by omega, by go_num, rfl, ?_, X7.out.congr (fun b z hb hz => ?_), ?_⟩
                          · show redStep p i (redUp p i F0 j) j = _
                            rw [HU.out]
                            have e := HNP.out
                            subst e
                            have hpv : pivot F j (i - L.length) L.length = r := pivot_eq hr1 (by omega) HZ.out (fun _ => E0.out)
                            unfold redStep
                            simp only [hpv]
                            rw [if_neg (by omega)]
                          · rw [HF2.out]
                            unfold elimF elimTo
                            by_cases e : b = nP
                            · subst e; simp
                            · simp [e, hb]
                          · show Own _ _ _ _ _ _ _
                            rw [List.map_append]
                            exact O7.out
                        case measure => simp [intOf]; omega
        · have e9 : ((r : Int) == m) = true := by simp; omega
          have HRM : Hid (r = m) := by show _ = _; omega
          go_wp2
          go_roundw
          case rel =>
            refine ⟨j + 1, F, L, aP, nP, cP, SP, by omega, by go_num, rfl, ?_, HX, HO⟩
            show redStep p m (redUp p m F0 j) j = _
            rw [HU.out]
            have e := HNP.out
            subst e
            have hpv : pivot F j (m - L.length) L.length = r := pivot_eq hr1 (by omega) HZ.out (fun h => by have := HRM.out; omega)
            unfold redStep
            simp only [hpv]
            rw [if_pos HRM.out]
          case measure => simp [intOf]; omega
    · obtain rfl : j = n := by omega
      have q0 := HX.out.box.c0
      have q1 := HX.out.box.c1
      have q2 := HX.out.box.c2
      have o0 := HX.out.res.c0
      have o1 := HX.out.res.c1
      have o2 := HX.out.res.c2
      have i0 := HX.out.res.f0
      have i1 := HX.out.res.f1
      have i2 := HX.out.res.f2
      have HE : Hid (∀ x y z : Value, Below w.heap.size w (((wr.setCell ⟨w.heap.size + 1, 0, none⟩ x).setCell ⟨w.heap.size + 1, 1, none⟩ y).setCell ⟨w.heap.size + 1, 2, none⟩ z) ∧
          MatAt (((wr.setCell ⟨w.heap.size + 1, 0, none⟩ x).setCell ⟨w.heap.size + 1, 1, none⟩ y).setCell ⟨w.heap.size + 1, 2, none⟩ z) g m j (redUp p m F0 j).1 ∧
          Own 3 Shp.int (((wr.setCell ⟨w.heap.size + 1, 0, none⟩ x).setCell ⟨w.heap.size + 1, 1, none⟩ y).setCell ⟨w.heap.size + 1, 2, none⟩ z) (g + 1) (.slice aP nP cP) ((redUp p m F0 j).2.map fun x : Nat => (x : Int)) SP) := by
        intro x y z
        have hfr : Frm [w.heap.size + 1] wr (((wr.setCell ⟨w.heap.size + 1, 0, none⟩ x).setCell ⟨w.heap.size + 1, 1, none⟩ y).setCell ⟨w.heap.size + 1, 2, none⟩ z) := (((Frm.refl _ _).setCell (by simp) _).setCell (by simp) _).setCell (by simp) _
        rw [HU.out]
        exact ⟨HX.out.bel.trans (hfr.to_below HX.out.bel.size (fun b hb => by simp at hb; omega)), HX.out.mat.frm hfr (by simp; omega), HO.out.frm Shp.int_good hfr (fun b hb hm => by have := HO.out.new.2 b hb; simp at hm; omega)⟩
      go_wp2
      obtain ⟨hb, hm', ho⟩ := HE.out (.int .i64 m) (.int .i64 j) (.slice (some ⟨g, 0, none⟩) N1 c1)
      exact bodyPost_ret (v := .tuple #[.agg #[.int .i64 m, .int .i64 j, .slice (some ⟨g, 0, none⟩) N1 c1], .slice aP nP cP]) (by simp [results, Try.results146, go_sem, o0, o1, o2]) rfl ⟨_, rfl, hb, g, c1, aP, nP, cP, SP, rfl, ⟨hNc, hcm⟩, by omega, hm', ho⟩
end Go.Proofs.Ytpngpgbmkkjjgaa

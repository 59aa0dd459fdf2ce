/-
  Contracts of the reference: l4Reduce.
-/
import Derived.Test.YtpngpgbmkkjjgaaD2
namespace Go.Proofs.Ytpngpgbmkkjjgaa
open Go.RowKit

theorem redUp_full {p : Int} {m : Nat} {F : Nat → Nat → Int} {t : Nat} (h : (redUp p m F t).2.length = m) : ∀ d, redUp p m F (t + d) = redUp p m F t
  | 0 => rfl
  | d + 1 => by
    have ih := redUp_full h d
    show redStep p m (redUp p m F (t + d)) (t + d) = _
    rw [ih]
    unfold redStep
    rw [h, Nat.sub_self]
    exact if_pos rfl

theorem idxFacts {r n m y N I : Nat} (hI : I = r * n) (hr : r < m) (hy : y < n) (hN : N = m * n) (hb : N ≤ 1048576) :
    wrap64 ((r : Int) * (n : Int)) = (I : Int) ∧ IntKind.i64.wrap ((r : Int) * (n : Int)) = (I : Int) ∧ IntKind.i64.wrap ((I : Int) + (y : Int)) = (I : Int) + (y : Int) ∧ (0 : Int) ≤ (I : Int) + (y : Int) ∧ ((I : Int) + (y : Int)).toNat = I + y ∧ (I : Int) + (y : Int) < (N : Int) ∧ I + y < N ∧ I ≤ 1048576 := by
  have h1 := cell_lt (n := n) hr hy
  rw [← hI, ← hN] at h1
  exact ⟨mulW hI (by omega), mulK hI (by omega), addK (by omega), by omega, by omega, by omega, h1, by omega⟩

/-- The world while the reference reduces a matrix: its result's block, its variable's block X, its numbers. -/
structure RT (w : World) (X m n g N cap : Nat) (F : Nat → Nat → Int) (wr : World) : Prop where
  res : At wr (w.heap.size + 1) 0 [.int .i64 0, .int .i64 0, .slice none 0 0]
  box : At wr X 0 [.int .i64 m, .int .i64 n, .slice (some ⟨g, 0, none⟩) N cap]
  mat : MatAt wr g m n F
  bel : Below w.heap.size w wr
  lo : w.heap.size + 2 ≤ g
  hi : g < X
  sz : X < wr.heap.size

theorem RT.drew {w : World} {X m n g N cap : Nat} {F : Nat → Nat → Int} {wr : World} (h : RT w X m n g N cap F wr) : RT w X m n g N cap F wr.drew :=
  ⟨h.res.keep rfl, h.box.keep rfl, h.mat.keep rfl, h.bel.drew, h.lo, h.hi, h.sz⟩
theorem RT.frm {w : World} {X m n g N cap : Nat} {F G : Nat → Nat → Int} {wr w' : World} (h : RT w X m n g N cap F wr) (hf : Frm [g] wr w') (hm : MatAt w' g m n G) : RT w X m n g N cap G w' where
  res := h.res.frm hf (by have := h.lo; have := h.hi; have := h.sz; omega) (by have := h.lo; rw [List.mem_singleton]; omega)
  box := h.box.frm hf h.sz (by have := h.hi; rw [List.mem_singleton]; omega)
  mat := hm
  bel := h.bel.trans (hf.to_below h.bel.size (fun b hb => by have := h.lo; simp at hb; omega))
  lo := h.lo
  hi := h.hi
  sz := Nat.lt_of_lt_of_le h.sz hf.size
theorem RT.off {w : World} {X m n g N cap : Nat} {F : Nat → Nat → Int} {wr w' : World} {S : List Nat} (h : RT w X m n g N cap F wr) (hf : Frm S wr w') (hS : ∀ b ∈ S, X + 1 ≤ b) : RT w X m n g N cap F w' where
  res := h.res.frm hf (by have := h.lo; have := h.hi; have := h.sz; omega) (fun hm => by have := hS _ hm; have := h.lo; have := h.hi; omega)
  box := h.box.frm hf h.sz (fun hm => by have := hS _ hm; omega)
  mat := h.mat.frm hf (fun hm => by have := hS _ hm; have := h.hi; omega)
  bel := h.bel.trans (hf.to_below h.bel.size (fun b hb => by have := h.lo; have := hS _ hb; have := h.hi; omega))
  lo := h.lo
  hi := h.hi
  sz := Nat.lt_of_lt_of_le h.sz hf.size
theorem RT.set {w : World} {X m n g N cap : Nat} {F : Nat → Nat → Int} {wr : World} (h : RT w X m n g N cap F wr) {i j : Nat} (hi : i < m) (hj : j < n) (v : Int) : RT w X m n g N cap (setF F i j v) (wr.setCell ⟨g, i * n + j, none⟩ (.int .i64 v)) :=
  h.frm ((Frm.refl _ _).setCell (by simp) _) (h.mat.set hi hj v)
theorem RT.congr {w : World} {X m n g N cap : Nat} {F G : Nat → Nat → Int} {wr : World} (h : RT w X m n g N cap F wr) (e : ∀ i j, i < m → j < n → G i j = F i j) : RT w X m n g N cap G wr :=
  ⟨h.res, h.box, h.mat.congr e, h.bel, h.lo, h.hi, h.sz⟩

/-- Elimination in rows before i, and in the columns before y of row i. -/
def elimRow (p : Int) (F : Nat → Nat → Int) (a j i y : Nat) : Nat → Nat → Int := fun b z => if b ≠ a ∧ (b < i ∨ (b = i ∧ z < y)) then (F b z - F b j * F a z) % p else F b z

theorem own_one {α : Type} {s : Shp α} {e : Nat} {w : World} {B : Nat} {v : Value} {l : List α} {S : List Nat} (h : Own e s w B v l S) (g : s.Good) {b : Nat} (hb : b < B) (o1 : Nat) (u1 : Value) : Own e s (w.setCell ⟨b, o1, none⟩ u1) B v l S :=
  h.setOff g (p := ⟨b, o1, none⟩) (h.off hb) u1
theorem own_two {α : Type} {s : Shp α} {e : Nat} {w : World} {B : Nat} {v : Value} {l : List α} {S : List Nat} (h : Own e s w B v l S) (g : s.Good) {b : Nat} (hb : b < B) (o1 o2 : Nat) (u1 u2 : Value) : Own e s ((w.setCell ⟨b, o1, none⟩ u1).setCell ⟨b, o2, none⟩ u2) B v l S :=
  own_one (own_one h g hb o1 u1) g hb o2 u2

theorem still_of {P : Program} {f : FuncId} {args : Array Value} {w : World} {v : Value} (h : Calls P f args w fun e w' => e = .returned v ∧ w = w') : Calls P f args w fun e w' => e = .returned v ∧ w' = w := h.mono fun _ _ ⟨a, b⟩ => ⟨a, b.symm⟩
theorem mulK' {x y P : Int} (hP : P = x * y) (h : 0 ≤ P ∧ P ≤ 1000000) : IntKind.i64.wrap (x * y) = P := by rw [← hP]; exact IntWalk.i64_in _ ⟨by omega, by omega⟩

set_option maxRecDepth 20000 in
set_option maxHeartbeats 16000000 in
theorem l4reduce_walk (p : Int) (m n : Nat) (a : Option Addr) (N c : Nat) (l : List Int) (S : List Nat) (w : World) (hp : isF p = true) (h : SliceRd Shp.int w a N c l S) (hN : N = m * n) (hm : 0 < m) (hn : 0 < n) (hsz : N ≤ 1048576)
    (F0 : Nat → Nat → Int) (hF : ∀ i j, i < m → j < n → l[i * n + j]?.getD 0 = F0 i j) (hin : InP p m n F0) :
    Calls Try.prog 142 #[.int .i64 p, .agg #[.int .i64 m, .int .i64 n, .slice a N c]] w (Ret w (RedRet p m n F0 N w.heap.size)) := by
  have hlen := h.1
  have b0 := (Below.refl w.heap.size w).alloc (Nat.le_refl _) (.cells #[.int .i64 m, .int .i64 n, .slice a N c] 107)
  have b1 := (Below.refl _ (w.alloc (.cells #[.int .i64 m, .int .i64 n, .slice a N c] 107))).alloc (Nat.le_refl _) (.cells #[.int .i64 0, .int .i64 0, .slice none 0 0] 107)
  have t1 := At.alloc (w.alloc (.cells #[.int .i64 m, .int .i64 n, .slice a N c] 107)) #[.int .i64 0, .int .i64 0, .slice none 0 0] 107
  rw [World.size_alloc] at t1
  have A0 := Lib.hid (And.intro ((At.alloc w #[.int .i64 m, .int .i64 n, .slice a N c] 107).keep (b1.block _ (by simp))) (And.intro t1 (below_then b0 b1)))
  have HC := Lib.hid (c_l3Copy (m : Int) (n : Int) a N c l S _ ((h.below Shp.int_good b0).below Shp.int_good b1) hsz)
  have HP := Lib.hid hp
  have HI := Lib.hid hin
  have HF := Lib.hid hF
  have HN := Lib.hid hN
  have HL := Lib.hid hlen
  obtain ⟨hp1, hp2⟩ := isF_bd hp
  have hNp : 0 < N := by rw [hN]; exact Nat.mul_pos hm hn
  have hms : m ≤ 1048576 := by have := Nat.le_mul_of_pos_right m hn; omega
  have hns : n ≤ 1048576 := by have := Nat.le_mul_of_pos_left n hm; omega
  clear b0 b1 t1 h hp hin hF hN hlen
  go_enter Try.func142, Try.ntmps142
  go_wp2_with fail
  refine HC.out.mono ?_
  rintro e w1 ⟨v, rfl, hb1, a1, N1, c1, S1, rfl, hO1⟩
  have HG : Hid (∃ g, a1 = some ⟨g, 0, none⟩ ∧ N1 = N ∧ N ≤ c1 ∧ c1 ≤ maxLen ∧ w.heap.size + 4 ≤ g ∧ MatAt w1 g m n F0) := by
    obtain ⟨_, _, _, S1', hv1, e1, rd1, new1, sub1⟩ := hO1.rd
    cases hv1
    have eN : N1 = N := by rw [e1]; exact HL.out
    subst eN
    obtain ⟨b, off, rfl, hb, hc⟩ := rd1.row.cell hNp
    obtain ⟨xs, T, hown, _⟩ := hO1
    obtain ⟨a2, c2, hv2, hle1, hle2, hx⟩ := own_form hown
    cases hv2
    have h3 := hx _ rfl
    have h4 := h3.1
    have h5 := h3.2.1
    simp at h4 h5
    subst h4
    refine ⟨b, rfl, rfl, rd1.2.1, hle2, by omega, hb, fun i j hi hj => ?_⟩
    have h6 := cell_lt (n := n) hi hj
    have := hc (i * n + j) (by rw [HN.out]; exact h6)
    rw [Nat.zero_add, HF.out i j hi hj] at this
    exact this
  obtain ⟨g, rfl, rfl, hNc, hcm, hg, hmat⟩ := HG.out
  have hX : RT w w1.heap.size m n g N1 c1 F0 ((w1.alloc (.cells #[.int .i64 m, .int .i64 n, .slice (some ⟨g, 0, none⟩) N1 c1] 107)).alloc (.cells #[] 3)) := by
    have hb3 := (Below.refl w1.heap.size w1).alloc (Nat.le_refl _) (.cells #[.int .i64 m, .int .i64 n, .slice (some ⟨g, 0, none⟩) N1 c1] 107)
    have hb4 := (Below.refl _ (w1.alloc (.cells #[.int .i64 m, .int .i64 n, .slice (some ⟨g, 0, none⟩) N1 c1] 107))).alloc (Nat.le_refl _) (.cells #[] 3)
    have hz : w.heap.size + 1 + 1 ≤ w1.heap.size := by have := hb1.size; simpa using this
    refine ⟨((A0.out.2.1.keep (hb1.block _ (by simp))).keep (hb3.block _ (by omega))).keep (hb4.block _ (by simp; omega)), At.bl (At.alloc w1 _ _) (by simp) hb4, (hmat.below hb3).below hb4, below_then (below_then (below_then A0.out.2.2 hb1) hb3) hb4, by omega, hmat.1, by simp; omega⟩
  have X0 := Lib.hid hX
  have O0 : Hid (Own 3 Shp.int ((w1.alloc (.cells #[.int .i64 m, .int .i64 n, .slice (some ⟨g, 0, none⟩) N1 c1] 107)).alloc (.cells #[] 3)) (w1.heap.size + 1) (.slice (some ⟨w1.heap.size + 1, 0, none⟩) 0 0) [] [w1.heap.size + 1]) := by
    have h3 := Own.lit0 Shp.int 3 (w1.alloc (.cells #[.int .i64 m, .int .i64 n, .slice (some ⟨g, 0, none⟩) N1 c1] 107)) (B := w1.heap.size + 1) (by simp)
    rw [World.size_alloc] at h3
    exact h3
  clear hmat hX hb1 hO1 A0 HC HG
  go_wp2
  generalize (w1.alloc (.cells #[.int .i64 m, .int .i64 n, .slice (some ⟨g, 0, none⟩) N1 c1] 107)).alloc (.cells #[] 3) = W at *
  obtain ⟨X, hXe⟩ : ∃ X, X = w1.heap.size := ⟨_, rfl⟩
  rw [← hXe] at X0 O0 ⊢
  clear hXe
  go_loopw [7, 8, 9] (fun s rw' i wr => ∃ (j : Nat) (F : Nat → Nat → Int) (L : List Nat) (aP : Option Addr) (nP cP : Nat) (SP : List Nat), j ≤ n ∧ nP ≤ m ∧ i = .int .i64 j ∧ rw' = .int .i64 nP ∧ s = .slice aP nP cP ∧ Hid (redUp p m F0 j = (F, L)) ∧ Hid (RT w X m n g N1 c1 F wr) ∧ Hid (Own 3 Shp.int wr (X + 1) (.slice aP nP cP) (L.map fun x : Nat => (x : Int)) SP)) (fun _ _ i _ => n - (intOf i).toNat)
  case atStart => exact ⟨0, F0, [], _, 0, 0, _, Nat.zero_le _, Nat.zero_le _, rfl, rfl, rfl, rfl, X0, O0⟩
  case round =>
    obtain ⟨j, F, L, aP, nP, cP, SP, hj, hkm, rfl, rfl, rfl, HU, HX, HO⟩ := hrel
    have q0 := HX.out.box.c0
    have q1 := HX.out.box.c1
    have q2 := HX.out.box.c2
    have HNP : Hid (nP = L.length) := by have := HO.out.room.1; show _ = _; simpa using this
    by_cases hlt : j < n
    · by_cases hkm' : nP < m
      · have HIF : Hid (InP p m n F) := by have := redUp_in (by omega) HI.out j; rw [HU.out] at this; exact this
        go_wp2
        go_loop [10, 11] (fun at' z => ∃ (x z' : Int), (nP : Int) - 1 ≤ z' ∧ z' ≤ (m : Int) - 1 ∧ z = .int .i64 z' ∧ at' = .int .i64 x ∧ Hid ((x = -1 ∧ ∀ r : Nat, z' < r → r < m → F r j = 0) ∨ ∃ r : Nat, x = r ∧ z' < r ∧ r < m ∧ F r j ≠ 0 ∧ ∀ r' : Nat, z' < r' → r' < r → F r' j = 0)) (fun _ z => (intOf z - nP + 1).toNat)
        case atStart => exact ⟨-1, (m : Int) - 1, by omega, by omega, rfl, rfl, .inl ⟨rfl, fun r h1 h2 => by omega⟩⟩
        case round =>
          obtain ⟨x, z, hz1, hz2, rfl, rfl, HQ⟩ := hrel
          by_cases hz : (nP : Int) ≤ z
          · obtain ⟨y, rfl⟩ : ∃ y : Nat, z = (y : Int) := ⟨z.toNat, by omega⟩
            have hym : y < m := by omega
            have hny : nP ≤ y := by omega
            obtain ⟨I, hI⟩ : ∃ I, I = y * n := ⟨_, rfl⟩
            obtain ⟨k1, k2, k3, k4, k5, k6, k7, k8⟩ := idxFacts hI hym hlt HN.out hsz
            have cy := (HX.out.mat.2 y j hym hlt).1
            rw [← hI] at cy
            clear hI
            cases e0 : (F y j != 0) with
            | true =>
              have E0 : Hid (F y j ≠ 0) := by show _ ≠ _; simpa using e0
              go_wp2
              go_round
              case rel =>
                refine ⟨(y : Int), (y : Int) - 1, by omega, by omega, rfl, rfl, .inr ⟨y, rfl, by omega, hym, E0.out, fun r' h1 h2 => by omega⟩⟩
              case measure => simp [intOf]; omega
            | false =>
              have E0 : Hid (F y j = 0) := by show _ = _; simpa using e0
              go_wp2
              go_round
              case rel =>
                refine ⟨x, (y : Int) - 1, by omega, by omega, rfl, rfl, ?_⟩
                rcases HQ.out with ⟨h1, h2⟩ | ⟨r, h1, h2, h3, h4, h5⟩
                · refine .inl ⟨h1, fun r a b => ?_⟩
                  by_cases e : r = y
                  · subst e; exact E0.out
                  · exact h2 r (by omega) b
                · refine .inr ⟨r, h1, by omega, h3, h4, fun r' a b => ?_⟩
                  by_cases e : r' = y
                  · subst e; exact E0.out
                  · exact h5 r' (by omega) b
              case measure => simp [intOf]; omega
          · obtain rfl : z = (nP : Int) - 1 := by omega
            have hzf : ¬ ((nP : Int) ≤ (nP : Int) - 1) := by omega
            rcases HQ.out with ⟨rfl, hz0⟩ | ⟨r, rfl, hr1, hrm, hr0, hrz⟩
            · have HZ := Lib.hid hz0
              clear hz0
              go_wp2
              go_roundw
              case rel =>
                refine ⟨j + 1, F, L, aP, nP, cP, SP, by omega, by omega, by go_num, rfl, rfl, ?_, HX, HO⟩
                show redStep p m (redUp p m F0 j) j = _
                rw [HU.out]
                have e := HNP.out
                subst e
                have hpv : pivot F j (m - L.length) L.length = m := pivot_eq hkm (by omega) (fun i a b => HZ.out i (by omega) b) (fun h => by omega)
                unfold redStep
                simp only [hpv, if_true]
              case measure => simp [intOf]; omega
            · have HZ : Hid (∀ i, nP ≤ i → i < r → F i j = 0) := fun i h1 h2 => hrz i (by omega) h2
              have E0 := Lib.hid hr0
              have hrn : nP ≤ r := by omega
              obtain ⟨I, hI⟩ : ∃ I, I = nP * n := ⟨_, rfl⟩
              obtain ⟨J, hJ⟩ : ∃ J, J = r * n := ⟨_, rfl⟩
              have HIe := Lib.hid hI
              have HJe := Lib.hid hJ
              clear hrz hr0 hI hJ HQ
              go_wp2
              go_loopw [12] (fun s wr' => ∃ x : Nat, x ≤ n ∧ s = .int .i64 x ∧ Hid (RT w X m n g N1 c1 (swapTo F nP r x) wr') ∧ Hid (Own 3 Shp.int wr' (X + 1) (.slice aP nP cP) (L.map fun x : Nat => (x : Int)) SP)) (fun s _ => n - (intOf s).toNat)
              case atStart => exact ⟨0, Nat.zero_le _, rfl, HX.out.congr (fun i y _ _ => by simp [swapTo]), HO⟩
              clear HX HO q0 q1 q2
              case round =>
                obtain ⟨x, hx', rfl, HX, HO⟩ := hrel
                have q0 := HX.out.box.c0
                have q1 := HX.out.box.c1
                have q2 := HX.out.box.c2
                have hgX := HX.out.hi
                by_cases hx : x < n
                · by_cases hrn' : r = nP
                  · subst hrn'
                    obtain ⟨k1, k2, k3, k4, k5, k6, k7, k8⟩ := idxFacts HIe.out hrm hx HN.out hsz
                    have cr := HX.out.mat.2 r x hrm hx
                    rw [swapTo_at, ← HIe.out] at cr
                    obtain ⟨cr, fr⟩ := cr
                    have XD := Lib.hid HX.out.drew
                    have OD : Hid (Own 3 Shp.int wr.drew (X + 1) (.slice aP r cP) (L.map fun x : Nat => (x : Int)) SP) := HO.out.below Shp.int_good below_drew
                    go_wp2
                    go_still_tail 19, (by kernel_rfl)
                    change wpList _ _ _ _ _ wr.drew
                    go_wp2
                    go_roundw
                    case rel =>
                      refine ⟨x + 1, by omega, by go_num, ?_, own_two OD.out Shp.int_good (by omega) _ _ _ _⟩
                      show RT _ _ _ _ _ _ _ _ _
                      rw [HIe.out]
                      exact ((XD.out.set hrm hx (F r x)).set hrm hx (F r x)).congr (fun i y _ _ => swapTo_succ F r r x i y)
                    case measure => simp [intOf]; omega
                  · obtain ⟨k1, k2, k3, k4, k5, k6, k7, k8⟩ := idxFacts HIe.out hkm' hx HN.out hsz
                    obtain ⟨l1, l2, l3, l4, l5, l6, l7, l8⟩ := idxFacts HJe.out hrm hx HN.out hsz
                    have cr := HX.out.mat.2 r x hrm hx
                    have ck := HX.out.mat.2 nP x hkm' hx
                    rw [swapTo_at, ← HJe.out] at cr
                    rw [swapTo_at, ← HIe.out] at ck
                    obtain ⟨cr, fr⟩ := cr
                    obtain ⟨ck, fk⟩ := ck
                    have hne : ¬ (J + x = I + x) := fun e => hrn' (cell_inj (n := n) (j := x) (j' := x) hx hx (by rw [← HIe.out, ← HJe.out]; exact e)).1
                    have hne' : ¬ (I + x = J + x) := fun e => hne e.symm
                    have hne2 : ¬ (J = I) := fun e => hne (by rw [e])
                    have hne3 : ¬ (I = J) := fun e => hne (by rw [e])
                    have XD := Lib.hid HX.out.drew
                    have OD : Hid (Own 3 Shp.int wr.drew (X + 1) (.slice aP nP cP) (L.map fun x : Nat => (x : Int)) SP) := HO.out.below Shp.int_good below_drew
                    go_wp2
                    go_still_tail 19, (by kernel_rfl)
                    change wpList _ _ _ _ _ wr.drew
                    go_wp2
                    go_roundw
                    case rel =>
                      refine ⟨x + 1, by omega, by go_num, ?_, own_two OD.out Shp.int_good (by omega) _ _ _ _⟩
                      show RT _ _ _ _ _ _ _ _ _
                      rw [HIe.out, HJe.out]
                      exact ((XD.out.set hkm' hx (F r x)).set hrm hx (F nP x)).congr (fun i y _ _ => swapTo_succ F nP r x i y)
                    case measure => simp [intOf]; omega
                · obtain rfl : x = n := by omega
                  have XS : Hid (RT w X m x g N1 c1 (scaleTo p (swapF F nP r) nP (invR p (F r j)) 0) wr) := HX.out.congr (fun i y _ hy => by simp [scaleTo, swapTo, hy])
                  obtain ⟨k1, k2, k3, k4, k5, k6, k7, k8⟩ := idxFacts HIe.out hkm' hlt HN.out hsz
                  have ck := (HX.out.mat.2 nP j hkm' hlt).1
                  rw [show swapTo F nP r x nP j = F r j by simp [swapTo, hlt, swapF], ← HIe.out] at ck
                  have HB : Hid (0 ≤ F r j ∧ F r j < p) := HIF.out r j hrm hlt
                  have HV : Hid (invR p (F r j % p) = invR p (F r j)) := by
                    show _ = _
                    rw [Int.emod_eq_of_lt HB.out.1 HB.out.2]
                  have HIV := Lib.hid (c_spec_InverseMod p (F r j) HP.out (by have := HB.out; unfold fits; omega) wr)
                  go_wp2_with fail
                  refine HIV.out.mono ?_
                  rintro e w5 ⟨rfl, rfl⟩
                  rw [HV.out]
                  have HSB := Lib.hid (@invR_bd p (F r j) (by omega))
                  generalize hsc : invR p (F r j) = sc at *
                  have HSC := Lib.hid hsc
                  clear hsc HIV HV k1 k2 k3 k4 k5 k6 k7 k8
                  go_wp2
                  go_loopw [15] (fun s wr' => ∃ y : Nat, y ≤ x ∧ s = .int .i64 y ∧ Hid (RT w X m x g N1 c1 (scaleTo p (swapF F nP r) nP sc y) wr') ∧ Hid (Own 3 Shp.int wr' (X + 1) (.slice aP nP cP) (L.map fun x : Nat => (x : Int)) SP)) (fun s _ => x - (intOf s).toNat)
                  case atStart => exact ⟨0, Nat.zero_le _, rfl, XS, HO⟩
                  clear XS HX HO ck q0 q1 q2
                  case round =>
                    obtain ⟨y, hy', rfl, HX, HO⟩ := hrel
                    have q0 := HX.out.box.c0
                    have q1 := HX.out.box.c1
                    have q2 := HX.out.box.c2
                    by_cases hy : y < x
                    · obtain ⟨k1, k2, k3, k4, k5, k6, k7, k8⟩ := idxFacts HIe.out hkm' hy HN.out hsz
                      have cfk := HX.out.mat.2 nP y hkm' hy
                      rw [show scaleTo p (swapF F nP r) nP sc y nP y = F r y by simp [scaleTo, swapF], ← HIe.out] at cfk
                      obtain ⟨ck, fk⟩ := cfk
                      have HB2 : Hid (0 ≤ F r y ∧ F r y < p) := HIF.out r y hrm hy
                      have HV2 : Hid (∀ q, q = F r y → (sc * q) % p = (swapF F nP r nP y * sc) % p) := by
                        rintro q rfl
                        rw [show swapF F nP r nP y = F r y by simp [swapF], Int.mul_comm]
                      obtain ⟨q, hq⟩ : ∃ q, q = F r y := ⟨_, rfl⟩
                      rw [← hq] at ck HB2
                      have HQ := Lib.hid hq
                      obtain ⟨P, hP⟩ : ∃ P, P = sc * q := ⟨_, rfl⟩
                      have h1 := @mul_small sc q (by have := HSB.out; omega) (by have := HB2.out; omega)
                      rw [← hP] at h1
                      have hkP := mulK' hP h1
                      have HPe := Lib.hid hP
                      have HM2 := Lib.hid (still_of (c_l2Mod p P HP.out (by unfold fits; omega) wr.drew))
                      have XD := Lib.hid HX.out.drew
                      have OD : Hid (Own 3 Shp.int wr.drew (X + 1) (.slice aP nP cP) (L.map fun x : Nat => (x : Int)) SP) := HO.out.below Shp.int_good below_drew
                      clear hq hP h1
                      go_wp2
                      go_still_tail 23, (by kernel_rfl)
                      still_call HM2.out
                      repeat still_step
                      refine wpStill_nil ?_
                      change wpList _ _ _ _ _ wr.drew
                      go_wp2
                      go_roundw
                      case rel =>
                        refine ⟨y + 1, by omega, by go_num, ?_, own_one OD.out Shp.int_good (by omega) _ _⟩
                        show RT _ _ _ _ _ _ _ _ _
                        rw [HIe.out, HPe.out, HV2.out q HQ.out]
                        exact (XD.out.set hkm' hy _).congr (fun i z _ _ => scaleTo_succ p _ nP sc y i z)
                      case measure => simp [intOf]; omega
                    · obtain rfl : y = x := by omega
                      have HI2 : Hid (InP p m y (scaleF p (swapF F nP r) nP sc)) := by
                        intro i z hi hz
                        unfold scaleF
                        split
                        · exact ⟨Int.emod_nonneg _ (by omega), Int.emod_lt_of_pos _ (by omega)⟩
                        · unfold swapF
                          split
                          · exact HIF.out _ _ hrm hz
                          · split
                            · exact HIF.out _ _ hkm' hz
                            · exact HIF.out _ _ hi hz
                      have XS : Hid (RT w X m y g N1 c1 (elimRow p (scaleF p (swapF F nP r) nP sc) nP j 0 0) wr) := HX.out.congr (fun i z _ hz => by
                        simp only [elimRow, scaleTo, scaleF, Nat.not_lt_zero, false_or, and_false, if_false, hz, and_true])
                      have HF2 : Hid (redPart p F nP r j = elimF p (scaleF p (swapF F nP r) nP sc) nP j) := by show _ = _; unfold redPart; rw [HSC.out]
                      generalize scaleF p (swapF F nP r) nP sc = F2 at *
                      go_wp2
                      clear q0 q1 q2
                      go_loopw [16] (fun s wr' => ∃ i : Nat, i ≤ m ∧ s = .int .i64 i ∧ Hid (RT w X m y g N1 c1 (elimRow p F2 nP j i 0) wr') ∧ Hid (Own 3 Shp.int wr' (X + 1) (.slice aP nP cP) (L.map fun x : Nat => (x : Int)) SP)) (fun s _ => m - (intOf s).toNat)
                      case atStart => exact ⟨0, Nat.zero_le _, rfl, XS, HO⟩
                      clear XS HX HO
                      case round =>
                        obtain ⟨i, hi', rfl, HX, HO⟩ := hrel
                        have q0 := HX.out.box.c0
                        have q1 := HX.out.box.c1
                        have q2 := HX.out.box.c2
                        by_cases hi : i < m
                        · obtain ⟨K, hK⟩ : ∃ K, K = i * y := ⟨_, rfl⟩
                          have HKe := Lib.hid hK
                          clear hK
                          have hff : elimRow p F2 nP j i 0 i j = F2 i j := by simp [elimRow]
                          have ci := (HX.out.mat.2 i j hi hlt).1
                          rw [hff, ← HKe.out] at ci
                          have hfb := HI2.out i j hi hlt
                          obtain ⟨f, hf⟩ : ∃ f, f = F2 i j := ⟨_, rfl⟩
                          rw [← hf] at ci hfb
                          have HFe := Lib.hid hf
                          obtain ⟨k1, k2, k3, k4, k5, k6, k7, k8⟩ := idxFacts HKe.out hi hlt HN.out hsz
                          clear hf hff
                          go_wp2
                          clear k1 k2 k3 k4 k5 k6 k7 k8 ci q0 q1 q2
                          go_loopw [18] (fun s wr' => ∃ z : Nat, z ≤ y ∧ s = .int .i64 z ∧ Hid (RT w X m y g N1 c1 (elimRow p F2 nP j i z) wr') ∧ Hid (Own 3 Shp.int wr' (X + 1) (.slice aP nP cP) (L.map fun x : Nat => (x : Int)) SP)) (fun s _ => y - (intOf s).toNat)
                          case atStart => exact ⟨0, Nat.zero_le _, rfl, HX, HO⟩
                          clear HX HO
                          case round =>
                            obtain ⟨z, hz', rfl, HX, HO⟩ := hrel
                            have q0 := HX.out.box.c0
                            have q1 := HX.out.box.c1
                            have q2 := HX.out.box.c2
                            have HEnd : Hid ((i = nP ∨ z = y) → RT w X m y g N1 c1 (elimRow p F2 nP j (i + 1) 0) wr) := by
                              intro hor
                              refine HX.out.congr (fun b c _ hc => ?_)
                              unfold elimRow
                              have h1 : (b ≠ nP ∧ (b < i + 1 ∨ b = i + 1 ∧ c < 0)) ↔ (b ≠ nP ∧ (b < i ∨ b = i ∧ c < z)) := by omega
                              simp only [h1]
                            by_cases hz : z < y
                            · cases en : ((i : Int) != nP) with
                              | false =>
                                have HE : Hid (i = nP) := by show _ = _; simp at en; omega
                                go_wp2
                                go_roundw
                                case rel => exact ⟨i + 1, by omega, by go_num, HEnd.out (Or.inl HE.out), HO⟩
                                case measure => simp [intOf]; omega
                              | true =>
                                have hne : i ≠ nP := by rintro rfl; simp at en
                                have HNE := Lib.hid hne
                                obtain ⟨k1, k2, k3, k4, k5, k6, k7, k8⟩ := idxFacts HKe.out hi hz HN.out hsz
                                obtain ⟨l1, l2, l3, l4, l5, l6, l7, l8⟩ := idxFacts HIe.out hkm' hz HN.out hsz
                                have ciz := HX.out.mat.2 i z hi hz
                                have cnz := (HX.out.mat.2 nP z hkm' hz).1
                                rw [show elimRow p F2 nP j i z i z = F2 i z by simp [elimRow], ← HKe.out] at ciz
                                rw [show elimRow p F2 nP j i z nP z = F2 nP z by simp [elimRow], ← HIe.out] at cnz
                                obtain ⟨ci, fi⟩ := ciz
                                have hb1 := HI2.out i z hi hz
                                have hb2 := HI2.out nP z hkm' hz
                                obtain ⟨u, hu⟩ : ∃ u, u = F2 i z := ⟨_, rfl⟩
                                obtain ⟨v, hv⟩ : ∃ v, v = F2 nP z := ⟨_, rfl⟩
                                rw [← hu] at ci hb1
                                rw [← hv] at cnz hb2
                                have HUe := Lib.hid hu
                                have HVe := Lib.hid hv
                                obtain ⟨P, hP⟩ : ∃ P, P = f * v := ⟨_, rfl⟩
                                have h1 := @mul_small f v (by omega) (by omega)
                                rw [← hP] at h1
                                have hkP := mulK' hP h1
                                have hkD : IntKind.i64.wrap (u - P) = u - P := IntWalk.i64_in _ ⟨by omega, by omega⟩
                                have HPe := Lib.hid hP
                                have HM2 := Lib.hid (still_of (c_l2Mod p (u - P) HP.out (by unfold fits; omega) wr.drew))
                                have XD := Lib.hid HX.out.drew
                                have OD : Hid (Own 3 Shp.int wr.drew (X + 1) (.slice aP nP cP) (L.map fun x : Nat => (x : Int)) SP) := HO.out.below Shp.int_good below_drew
                                have hgX := HX.out.hi
                                clear hu hv hP h1 hne
                                go_wp2
                                go_still_tail 34, (by kernel_rfl)
                                still_call HM2.out
                                repeat still_step
                                refine wpStill_nil ?_
                                change wpList _ _ _ _ _ wr.drew
                                go_wp2
                                go_roundw
                                case rel =>
                                  refine ⟨z + 1, by omega, by go_num, ?_, own_one OD.out Shp.int_good (by omega) _ _⟩
                                  show RT _ _ _ _ _ _ _ _ _
                                  rw [HKe.out]
                                  refine (XD.out.set hi hz _).congr (fun b c _ _ => ?_)
                                  unfold elimRow setF
                                  by_cases e : b = i ∧ c = z
                                  · obtain ⟨rfl, rfl⟩ := e
                                    rw [if_pos ⟨HNE.out, Or.inr ⟨rfl, Nat.lt_succ_self _⟩⟩, if_pos ⟨rfl, rfl⟩, HPe.out, HUe.out, HVe.out, HFe.out]
                                  · rw [if_neg e]
                                    have h1 : (b ≠ nP ∧ (b < i ∨ b = i ∧ c < z + 1)) ↔ (b ≠ nP ∧ (b < i ∨ b = i ∧ c < z)) := by omega
                                    simp only [h1]
                                case measure => simp [intOf]; omega
                            · have hzy : z = y := by omega
                              have HZY := Lib.hid hzy
                              clear hzy
                              go_wp2
                              go_roundw
                              case rel => exact ⟨i + 1, by omega, by go_num, HEnd.out (Or.inr HZY.out), HO⟩
                              case measure => simp [intOf]; omega
                        · obtain rfl : i = m := by omega
                          have hfj : fits (j : Int) := by unfold fits; omega
                          have hLb : L.length ≤ 1048576 := by have := HNP.out; omega
                          have hgs : X + 1 ≤ wr.heap.size := HX.out.sz
                          go_wp2_with (at_builtin; refine wpList_app1 et_int Shp.int_good rfl (.tmp 203) (.tmp 205) rfl rfl HO.out hgs rfl (by rfl) ⟨rfl, rfl, hfj⟩ (New.nil _) (by simp) (by simp; omega) (by simp; omega) ?_; intro v1 w7 S7 hO7 hF7 hS7; obtain ⟨a7, n7, c7, rfl⟩ := hO7.form; have X7 := Lib.hid (HX.out.off hF7 HO.out.new.2); have O7 := Lib.hid hO7; clear hO7 hF7 hS7)
                          have hn7 : n7 = nP + 1 := by
                            have h1 := O7.out.room.1
                            have := HNP.out
                            simp at h1
                            omega
                          subst hn7
                          go_roundw
                          case rel =>
                            refine ⟨j + 1, redPart p F nP r j, L ++ [j], a7, nP + 1, c7, S7, by omega, by omega, by go_num, by go_num, rfl, ?_, X7.out.congr (fun b z hb hz => ?_), ?_⟩
                            · show redStep p i (redUp p i F0 j) j = _
                              rw [HU.out]
                              have e := HNP.out
                              subst e
                              have hpv : pivot F j (i - L.length) L.length = r := pivot_eq hrn (by omega) HZ.out (fun _ => E0.out)
                              unfold redStep
                              simp only [hpv]
                              rw [if_neg (by omega)]
                            · rw [HF2.out]
                              unfold elimF elimRow
                              by_cases e : b = nP
                              · subst e; simp
                              · simp [e, hb]
                            · show Own _ _ _ _ _ _ _
                              rw [List.map_append]
                              exact O7.out
                          case measure => simp [intOf]; omega
      · obtain rfl : nP = m := by omega
        have HM : Hid (redUp p nP F0 n = (F, L)) := by
          have h1 := @redUp_full p nP F0 j (by rw [HU.out]; exact HNP.out.symm) (n - j)
          rw [show j + (n - j) = n by omega] at h1
          exact h1.trans HU.out
        have o0 := HX.out.res.c0
        have o1 := HX.out.res.c1
        have o2 := HX.out.res.c2
        have i0 := HX.out.res.f0
        have i1 := HX.out.res.f1
        have i2 := HX.out.res.f2
        have HE : Hid (∀ x y z : Value, Below w.heap.size w (((wr.setCell ⟨w.heap.size + 1, 0, none⟩ x).setCell ⟨w.heap.size + 1, 1, none⟩ y).setCell ⟨w.heap.size + 1, 2, none⟩ z) ∧
            MatAt (((wr.setCell ⟨w.heap.size + 1, 0, none⟩ x).setCell ⟨w.heap.size + 1, 1, none⟩ y).setCell ⟨w.heap.size + 1, 2, none⟩ z) g nP n F ∧
            Own 3 Shp.int (((wr.setCell ⟨w.heap.size + 1, 0, none⟩ x).setCell ⟨w.heap.size + 1, 1, none⟩ y).setCell ⟨w.heap.size + 1, 2, none⟩ z) w.heap.size (.slice aP nP cP) (L.map fun x : Nat => (x : Int)) SP) := by
          intro x y z
          have hfr : Frm [w.heap.size + 1] wr (((wr.setCell ⟨w.heap.size + 1, 0, none⟩ x).setCell ⟨w.heap.size + 1, 1, none⟩ y).setCell ⟨w.heap.size + 1, 2, none⟩ z) := (((Frm.refl _ _).setCell (by simp) _).setCell (by simp) _).setCell (by simp) _
          have hlo := HX.out.lo
          have hhi := HX.out.hi
          exact ⟨HX.out.bel.trans (hfr.to_below HX.out.bel.size (fun b hb => by simp at hb; omega)), HX.out.mat.frm hfr (by simp; omega), own_lower (HO.out.frm Shp.int_good hfr (fun b hb hm => by have := HO.out.new.2 b hb; simp at hm; omega)) (by omega)⟩
        go_wp2
        obtain ⟨hb, hm', ho⟩ := HE.out (.int .i64 nP) (.int .i64 n) (.slice (some ⟨g, 0, none⟩) N1 c1)
        exact bodyPost_ret (v := .tuple #[.agg #[.int .i64 nP, .int .i64 n, .slice (some ⟨g, 0, none⟩) N1 c1], .slice aP nP cP]) (by simp [results, Try.results142, go_sem, o0, o1, o2]) rfl ⟨_, rfl, hb, some ⟨g, 0, none⟩, c1, aP, nP, cP, SP, rfl, ⟨hNc, fun _ _ => hcm⟩, fun _ _ => ⟨g, rfl, by have := HX.out.lo; omega, by rw [HM.out]; exact hm'⟩, by rw [HM.out]; exact ho⟩
    · obtain rfl : j = n := by omega
      have HM := HU
      have o0 := HX.out.res.c0
      have o1 := HX.out.res.c1
      have o2 := HX.out.res.c2
      have i0 := HX.out.res.f0
      have i1 := HX.out.res.f1
      have i2 := HX.out.res.f2
      have HE : Hid (∀ x y z : Value, Below w.heap.size w (((wr.setCell ⟨w.heap.size + 1, 0, none⟩ x).setCell ⟨w.heap.size + 1, 1, none⟩ y).setCell ⟨w.heap.size + 1, 2, none⟩ z) ∧
          MatAt (((wr.setCell ⟨w.heap.size + 1, 0, none⟩ x).setCell ⟨w.heap.size + 1, 1, none⟩ y).setCell ⟨w.heap.size + 1, 2, none⟩ z) g m j F ∧
          Own 3 Shp.int (((wr.setCell ⟨w.heap.size + 1, 0, none⟩ x).setCell ⟨w.heap.size + 1, 1, none⟩ y).setCell ⟨w.heap.size + 1, 2, none⟩ z) w.heap.size (.slice aP nP cP) (L.map fun x : Nat => (x : Int)) SP) := by
        intro x y z
        have hfr : Frm [w.heap.size + 1] wr (((wr.setCell ⟨w.heap.size + 1, 0, none⟩ x).setCell ⟨w.heap.size + 1, 1, none⟩ y).setCell ⟨w.heap.size + 1, 2, none⟩ z) := (((Frm.refl _ _).setCell (by simp) _).setCell (by simp) _).setCell (by simp) _
        have hlo := HX.out.lo
        have hhi := HX.out.hi
        exact ⟨HX.out.bel.trans (hfr.to_below HX.out.bel.size (fun b hb => by simp at hb; omega)), HX.out.mat.frm hfr (by simp; omega), own_lower (HO.out.frm Shp.int_good hfr (fun b hb hm => by have := HO.out.new.2 b hb; simp at hm; omega)) (by omega)⟩
      go_wp2
      obtain ⟨hb, hm', ho⟩ := HE.out (.int .i64 m) (.int .i64 j) (.slice (some ⟨g, 0, none⟩) N1 c1)
      exact bodyPost_ret (v := .tuple #[.agg #[.int .i64 m, .int .i64 j, .slice (some ⟨g, 0, none⟩) N1 c1], .slice aP nP cP]) (by simp [results, Try.results142, go_sem, o0, o1, o2]) rfl ⟨_, rfl, hb, some ⟨g, 0, none⟩, c1, aP, nP, cP, SP, rfl, ⟨hNc, fun _ _ => hcm⟩, fun _ _ => ⟨g, rfl, by have := HX.out.lo; omega, by rw [HM.out]; exact hm'⟩, by rw [HM.out]; exact ho⟩
end Go.Proofs.Ytpngpgbmkkjjgaa

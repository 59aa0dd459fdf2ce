/-
  Contracts of the reference: copies of matrices, rows, transposes.
-/
import Derived.Test.YtpngpgbmkkjjgaaC22
import Derived.Deep.RegionHeld3
import Derived.StillTailTactics
namespace Go.Proofs.Ytpngpgbmkkjjgaa
open Go.RowKit

theorem mulK {a b c : Nat} (h : c = a * b) (hc : c ≤ 4611686018427387904) : IntKind.i64.wrap ((a : Int) * (b : Int)) = (c : Int) := by
  have e : (a : Int) * (b : Int) = ((a * b : Nat) : Int) := by push_cast; rfl
  rw [e, ← h]
  exact IntWalk.i64_in _ ⟨by omega, by omega⟩
theorem addK {a b : Nat} (h : a + b ≤ 4611686018427387904) : IntKind.i64.wrap ((a : Int) + (b : Int)) = (a : Int) + (b : Int) := IntWalk.i64_in _ ⟨by omega, by omega⟩

/-- append(v, x..), x a slice of integers, nil or not, at a step of a region that draws its order. -/
theorem step_app_ints {P : Program} {t e bytes : Nat} (et : ElemTy P t e Shp.int.size bytes) {ops : Array Oper} {o : Oper} {a : Act} {K : Act → World → Prop} {Q : Exit → Act → World → Prop} {E : Prop} {w : World} (hgd : o.guard = none)
    (sl x : Operand) (ho : o.op = .call { callee := .builtin .append, args := #[sl, x], argTypes := #[t, t] }) {v : Value} {B : Nat} {l : List Int} {S : List Nat} (hs : a.eval sl = v) (h : Own e Shp.int w B v l S) (hB : B ≤ w.heap.size)
    {ad : Option Addr} {m c : Nat} {l2 : List Int} (hx : a.eval x = .slice ad m c) (hr : IntRow w ad m l2)
    (h63 : l.length + m ≤ 4294967296) (hbytes : (l.length + m) * bytes ≤ 140737488355328)
    (H : ∀ v' w1 S', Own e Shp.int w1 B v' (l ++ l2) S' → Frm S w w1 → (∀ b ∈ S', b ∈ S ∨ w.heap.size ≤ b) → K (a.put o.dst v') w1) :
    if Region.wanted o (yielded ops a.tmps) = true then Oper.wp P o a w K Q else E := by
  rw [if_pos (by simp [Region.wanted, hgd])]
  obtain ⟨i, z, h1, h2, h3, h4, h5⟩ := et.hi
  cases ad with
  | none =>
    have hm : m = 0 := by
      rcases Nat.eq_zero_or_pos m with h0 | h0
      · exact h0
      · obtain ⟨b, off, hb, _⟩ := hr.cell h0; cases hb
    subst hm
    have hl2 : l2 = [] := List.eq_nil_of_length_eq_zero hr.len
    subst hl2
    obtain ⟨a', n', c', rfl⟩ := h.form
    exact wp_append_of ho hs hx (run_app_none et.ht h1 a' n' c' c h.room.2) (H _ _ S (by simpa using h) (Frm.refl _ _) (fun b hb => .inl hb))
  | some p =>
    obtain ⟨v', w', S', hr', ho', hf, hS⟩ := run_app (P := P) Shp.int_good (ty := o.type) et.ht h1 h2 h3 h4 h5 h hB (a := p) (m := m) (c := c) (news := l2.map (Value.int .i64)) (l2 := l2) hr.len (by
      intro j u hu
      have hl := hr.len
      have hj : j < l2.length := by
        rcases Nat.lt_or_ge j l2.length with h' | h'
        · exact h'
        · rw [List.getElem?_eq_none (by simpa using h')] at hu; cases hu
      obtain ⟨b, off, hb, _, hc⟩ := hr.cell (by omega)
      cases hb
      rw [List.getElem?_map, get_getD 0 hj] at hu
      simp only [Option.map_some, Option.some.injEq] at hu
      subst hu
      rw [Addr.add_lit]
      exact (hc j (by omega)).1) (cells_int (fun i hi => hr.fit i (by have := hr.len; omega))) (New.nil _) (by simp) h63 hbytes
    refine wp_append_of ho hs hx hr' (H v' w' S' ho' hf (fun b hb => ?_))
    rcases hS b hb with h | h | h
    · exact .inl h
    · cases h
    · exact .inr h

/-- append(v, x..), the cells of x copied as they stand, at a step of a region that draws its order. -/
theorem step_app_vals {P : Program} {t e bytes : Nat} (et : ElemTy P t e Shp.val.size bytes) {α : Type} {s : Shp α} (g : s.Good) (hs1 : s.size = 1) {ops : Array Oper} {o : Oper} {a : Act} {K : Act → World → Prop} {Q : Exit → Act → World → Prop} {E : Prop} {w : World} (hgd : o.guard = none)
    (sl x : Operand) (ho : o.op = .call { callee := .builtin .append, args := #[sl, x], argTypes := #[t, t] }) {v : Value} {B : Nat} {vs : List Value} {S : List Nat} (hs : a.eval sl = v) (h : Own e Shp.val w B v vs S) (hB : B ≤ w.heap.size)
    {ad : Option Addr} {m c : Nat} {l2 : List α} {S2 : List Nat} (hx : a.eval x = .slice ad m c) (hr : SliceRd s w ad m c l2 S2)
    (h63 : vs.length + m ≤ 4294967296) (hbytes : (vs.length + m) * bytes ≤ 140737488355328)
    (H : ∀ v' w1 S' xs T, CellsRd s w xs l2 T → (∀ b ∈ T, b ∈ S2) → Own e Shp.val w1 B v' (vs ++ xs) S' → Frm S w w1 → (∀ b ∈ S', b ∈ S ∨ w.heap.size ≤ b) → K (a.put o.dst v') w1) :
    if Region.wanted o (yielded ops a.tmps) = true then Oper.wp P o a w K Q else E := by
  rw [if_pos (by simp [Region.wanted, hgd])]
  obtain ⟨i, z, e1, e2, e3, e4, e5⟩ := et.hi
  obtain ⟨h1, h2, h3, h4⟩ := hr
  have key : ∀ (p : Addr) (xs : List Value) (T : List Nat), ad = some p → CellsRd s w xs l2 T → (∀ b ∈ T, b ∈ S2) → (∀ j u, xs[j]? = some u → w.cell? (p.add j) = some u) → Oper.wp P o a w K Q := by
    rintro p xs T rfl hc hT hat
    have hl : xs.length = m := by rw [hc.len g, hs1, h1]; omega
    obtain ⟨v', w', S', hr', ho', hf, hS⟩ := run_app (P := P) Shp.val_good (ty := o.type) et.ht e1 e2 e3 e4 e5 h hB (a := p) (m := m) (c := c) (news := xs) (l2 := xs) hl hat (cells_val (hc.one g)) (New.nil _) (by simp) h63 hbytes
    refine wp_append_of ho hs hx hr' (H v' w' S' xs T hc hT ho' hf (fun b hb => ?_))
    rcases hS b hb with h | h | h
    · exact .inl h
    · cases h
    · exact .inr h
  rcases h4 with ⟨rfl, hS⟩ | ⟨b, o', xs, T, hne, rfl, hb, rfl, hat, hc⟩
  · cases ad with
    | none =>
      have hm : m = 0 := by simpa using h1.symm
      subst hm
      obtain ⟨a', n', c', rfl⟩ := h.form
      exact wp_append_of ho hs hx (run_app_none et.ht e1 a' n' c' c h.room.2) (H _ _ S [] [] ⟨rfl, rfl⟩ (by simp) (by simpa using h) (Frm.refl _ _) (fun b hb => .inl hb))
    | some p => exact key p [] [] rfl ⟨rfl, rfl⟩ (by simp) (by simp)
  · exact key _ xs T rfl hc (fun b' hb' => by simp [hb']) (fun j u hu => by rw [Addr.add_lit]; exact (hat j u hu).1)

set_option maxRecDepth 20000 in
set_option maxHeartbeats 1000000 in
theorem c_l3Copy (m n : Int) (a : Option Addr) (N c : Nat) (l : List Int) (S : List Nat) (w : World) (h : SliceRd Shp.int w a N c l S) (hN : N ≤ 1048576) :
    Calls Try.prog 156 #[.agg #[.int .i64 m, .int .i64 n, .slice a N c]] w (Ret w fun v w' => ∃ a' N' c' S', v = .agg #[.int .i64 m, .int .i64 n, .slice a' N' c'] ∧ Own 3 Shp.int w' (w.heap.size + 2) (.slice a' N' c') l S') := by
  have hmx := h.max
  have b0 := (Below.refl w.heap.size w).alloc (Nat.le_refl _) (.cells #[.int .i64 m, .int .i64 n, .slice a N c] 107)
  have b1 := (Below.refl _ (w.alloc (.cells #[.int .i64 m, .int .i64 n, .slice a N c] 107))).alloc (Nat.le_refl _) (.cells #[.int .i64 0, .int .i64 0, .slice none 0 0] 107)
  have t1 := At.alloc (w.alloc (.cells #[.int .i64 m, .int .i64 n, .slice a N c] 107)) #[.int .i64 0, .int .i64 0, .slice none 0 0] 107
  rw [World.size_alloc] at t1
  have A0 := Lib.hid (And.intro ((At.alloc w #[.int .i64 m, .int .i64 n, .slice a N c] 107).keep (b1.block _ (by simp))) (And.intro t1 (below_then b0 b1)))
  have HS : Hid (((w.alloc (.cells #[.int .i64 m, .int .i64 n, .slice a N c] 107)).alloc (.cells #[.int .i64 0, .int .i64 0, .slice none 0 0] 107)).heap.size = w.heap.size + 1 + 1) := by show _ = _; simp
  have H0 := Lib.hid h
  clear b0 b1 t1 h
  go_enter Try.func156, Try.ntmps156
  go_wp2
  generalize (w.alloc (.cells #[.int .i64 m, .int .i64 n, .slice a N c] 107)).alloc (.cells #[.int .i64 0, .int .i64 0, .slice none 0 0] 107) = W at *
  have hWS := HS.out
  have BD : Hid (Below (w.heap.size + 1) W W.drew) := below_dr (Below.refl _ _)
  have BE : Hid (Below W.heap.size W (W.alloc (.cells #[] 3)).drew) := below_dr ((Below.refl _ _).alloc (Nat.le_refl _) _)
  have BF : Hid (Below (w.heap.size + 1) W (W.alloc (.cells #[] 3)).drew) := BE.out.mono (by omega)
  have HELD : Hid (∀ w', Below (w.heap.size + 1) W w' → w'.cell? ⟨w.heap.size, 0, none⟩ = some (.int .i64 m) ∧ w'.cell? ⟨w.heap.size, 1, none⟩ = some (.int .i64 n) ∧ w'.cell? ⟨w.heap.size, 2, none⟩ = some (.slice a N c)) :=
    fun w' hb => ⟨(A0.out.1.keep (hb.block _ (by omega))).c0, (A0.out.1.keep (hb.block _ (by omega))).c1, (A0.out.1.keep (hb.block _ (by omega))).c2⟩
  have O0 : Hid (Own 3 Shp.int (W.alloc (.cells #[] 3)).drew (w.heap.size + 2) (.slice (some ⟨W.heap.size, 0, none⟩) 0 0) [] [W.heap.size]) :=
    (Own.lit0 Shp.int 3 W (by omega)).below Shp.int_good below_drew
  have R0 : Hid (IntRow (W.alloc (.cells #[] 3)).drew a N l) := by
    have h1 := (H0.out.below Shp.int_good A0.out.2.2).below Shp.int_good ((Below.refl _ _).alloc (Nat.le_refl _) (.cells #[] 3))
    exact (h1.below Shp.int_good below_drew).row
  have hsz : w.heap.size + 2 ≤ (W.alloc (.cells #[] 3)).drew.heap.size := by simp; omega
  have HSZ := Lib.hid hsz
  clear hsz hWS
  go_region_held3 (fun w' => w'.cell? ⟨w.heap.size, 0, none⟩ = some (.int .i64 m) ∧ w'.cell? ⟨w.heap.size, 1, none⟩ = some (.int .i64 n) ∧ w'.cell? ⟨w.heap.size, 2, none⟩ = some (.slice a N c))
    ((refine HELD.out _ ?_; (repeat (first | exact Hid.out (by assumption) | refine Below.setCell ?_ (by first | exact Nat.le_refl _ | exact Nat.le_succ _) _))))
    (first
      | (refine step_app_ints et_int rfl (.tmp 7) (.tmp 9) rfl rfl O0.out HSZ.out rfl R0.out (by simp; omega) (by simp; omega) ?_; intro v1 w1 S1 hO1 hF1 hS1; obtain ⟨a1, n1, c1, rfl⟩ := hO1.form; have O1 := Lib.hid hO1; have B1 : Hid (Below W.heap.size W w1) := BE.out.trans (hF1.to_below BE.out.size (fun b hb => Nat.le_of_eq (List.mem_singleton.1 hb).symm)); have B2 : Hid (Below (w.heap.size + 1) W w1) := B1.out.mono (by have := HS.out; omega); have RS : Hid (At w1 (w.heap.size + 1) 0 [.int .i64 0, .int .i64 0, .slice none 0 0]) := A0.out.2.1.keep (B1.out.block _ (by have := HS.out; omega)); have o0 := RS.out.c0; have o1 := RS.out.c1; have o2 := RS.out.c2; have i0 := RS.out.f0; have i1 := RS.out.f1; have i2 := RS.out.f2; clear hO1 hF1 hS1))
  have HE : Hid (∀ x y z : Value, Below w.heap.size w (((w1.setCell ⟨w.heap.size + 1, 0, none⟩ x).setCell ⟨w.heap.size + 1, 1, none⟩ y).setCell ⟨w.heap.size + 1, 2, none⟩ z) ∧
      Own 3 Shp.int (((w1.setCell ⟨w.heap.size + 1, 0, none⟩ x).setCell ⟨w.heap.size + 1, 1, none⟩ y).setCell ⟨w.heap.size + 1, 2, none⟩ z) (w.heap.size + 2) (.slice a1 n1 c1) l S1) := by
    intro x y z
    have hbw : Below w.heap.size w w1 := A0.out.2.2.trans (B1.out.mono (by have := HS.out; omega))
    have hO := O1.out
    simp only [List.nil_append] at hO
    have hO1 := hO.setOff Shp.int_good (p := ⟨w.heap.size + 1, 0, none⟩) (hO.off (by show w.heap.size + 1 < _; omega)) x
    have hO2 := hO1.setOff Shp.int_good (p := ⟨w.heap.size + 1, 1, none⟩) (hO1.off (by show w.heap.size + 1 < _; omega)) y
    have hO3 := hO2.setOff Shp.int_good (p := ⟨w.heap.size + 1, 2, none⟩) (hO2.off (by show w.heap.size + 1 < _; omega)) z
    exact ⟨((hbw.setCell (Nat.le_succ _) _).setCell (Nat.le_succ _) _).setCell (Nat.le_succ _) _, hO3⟩
  go_wp2
  have hE := HE.out (.int .i64 m) (.int .i64 n) (.slice a1 n1 c1)
  exact bodyPost_ret (v := .agg #[.int .i64 m, .int .i64 n, .slice a1 n1 c1]) (by simp [results, Try.results156, go_sem, o0, o1, o2]) rfl ⟨_, rfl, hE.1, a1, n1, c1, S1, rfl, hE.2⟩

/-- A transposed matrix, filled row by row of the old one: the rows before i, and t numbers of row i. -/
def turnF (F : Nat → Nat → Int) (i t : Nat) : Nat → Nat → Int := fun a b => if b < i ∨ (b = i ∧ a < t) then F b a else 0

set_option maxRecDepth 20000 in
set_option maxHeartbeats 4000000 in
theorem c_l3Transpose (R m N : Nat) (a : Option Addr) (c : Nat) (l : List Int) (S0 : List Nat) (F : Nat → Nat → Int) (w : World) (h : SliceRd Shp.int w a N c l S0) (hN : N = R * m) (hb : N ≤ 1048576) (hR : R ≤ 1048576) (hm : m ≤ 1048576) (hF : ∀ i j, i < R → j < m → l[i * m + j]?.getD 0 = F i j) :
    Calls Try.prog 100 #[.agg #[.int .i64 R, .int .i64 m, .slice a N c]] w (Ret w fun v w' => ∃ g, v = .agg #[.int .i64 m, .int .i64 R, .slice (some ⟨g, 0, none⟩) N N] ∧ w.heap.size ≤ g ∧ MatAt w' g m R (fun i j => F j i)) := by
  have b0 := (Below.refl w.heap.size w).alloc (Nat.le_refl _) (.cells #[.int .i64 R, .int .i64 m, .slice a N c] 107)
  have b1 := (Below.refl _ (w.alloc (.cells #[.int .i64 R, .int .i64 m, .slice a N c] 107))).alloc (Nat.le_refl _) (.cells #[.int .i64 0, .int .i64 0, .slice none 0 0] 107)
  have t1 := At.alloc (w.alloc (.cells #[.int .i64 R, .int .i64 m, .slice a N c] 107)) #[.int .i64 0, .int .i64 0, .slice none 0 0] 107
  rw [World.size_alloc] at t1
  have A0 := Lib.hid (And.intro ((At.alloc w #[.int .i64 R, .int .i64 m, .slice a N c] 107).keep (b1.block _ (by simp))) (And.intro t1 (below_then b0 b1)))
  have HZ := Lib.hid (c_l3ZeroAt m R N ((w.alloc (.cells #[.int .i64 R, .int .i64 m, .slice a N c] 107)).alloc (.cells #[.int .i64 0, .int .i64 0, .slice none 0 0] 107)) (by rw [hN, Nat.mul_comm]) hb hm hR)
  have H0 := Lib.hid h
  have HF := Lib.hid hF
  have HN := Lib.hid hN
  have HLT := Lib.hid (h.lt Shp.int_good)
  have q0 := A0.out.1.c0
  have q1 := A0.out.1.c1
  clear b0 b1 t1 h hF hN
  go_enter Try.func100, Try.ntmps100
  go_wp2_with fail
  refine HZ.out.mono ?_
  rintro e w2 ⟨v, rfl, hb2, rfl, hmat⟩
  rw [World.size_alloc, World.size_alloc] at hmat ⊢
  have hz2 : w.heap.size + 1 + 1 + 1 < w2.heap.size := hmat.1
  have hb3 := (Below.refl w2.heap.size w2).alloc (Nat.le_refl _) (.cells #[.int .i64 m, .int .i64 R, .slice (some ⟨w.heap.size + 1 + 1 + 1, 0, none⟩) N N] 107)
  have KEY : Hid (∀ wr, Frm [w.heap.size + 1 + 1 + 1] (w2.alloc (.cells #[.int .i64 m, .int .i64 R, .slice (some ⟨w.heap.size + 1 + 1 + 1, 0, none⟩) N N] 107)) wr →
      Below w.heap.size w wr ∧ At wr w.heap.size 0 [.int .i64 R, .int .i64 m, .slice a N c] ∧ At wr (w.heap.size + 1) 0 [.int .i64 0, .int .i64 0, .slice none 0 0] ∧ At wr w2.heap.size 0 [.int .i64 m, .int .i64 R, .slice (some ⟨w.heap.size + 1 + 1 + 1, 0, none⟩) N N] ∧ IntRow wr a N l) := by
    intro wr hf
    have hbw := below_then (below_then A0.out.2.2 hb2) hb3
    refine ⟨hbw.trans (hf.to_below hbw.size (fun b hb => by simp at hb; omega)), ?_, ?_, ?_, ?_⟩
    · exact ((A0.out.1.keep (hb2.block _ (by simp; omega))).keep (hb3.block _ (by omega))).frm hf (by simp; omega) (by rw [List.mem_singleton]; omega)
    · exact ((A0.out.2.1.keep (hb2.block _ (by simp))).keep (hb3.block _ (by omega))).frm hf (by simp; omega) (by rw [List.mem_singleton]; omega)
    · exact (At.alloc w2 _ _).frm hf (by simp) (by rw [List.mem_singleton]; omega)
    · exact ((H0.out.below Shp.int_good hbw).frm Shp.int_good hf (fun b hb hm => by have := HLT.out b hb; simp at hm; omega)).row
  have M0 : Hid (MatAt (w2.alloc (.cells #[.int .i64 m, .int .i64 R, .slice (some ⟨w.heap.size + 1 + 1 + 1, 0, none⟩) N N] 107)) (w.heap.size + 1 + 1 + 1) m R (turnF F 0 0)) := (hmat.below hb3).congr (fun i j _ _ => by simp [turnF])
  clear hb2 hb3 hmat A0 HZ H0 HLT q0 q1
  go_wp2
  generalize w2.alloc (.cells #[.int .i64 m, .int .i64 R, .slice (some ⟨w.heap.size + 1 + 1 + 1, 0, none⟩) N N] 107) = W at *
  obtain ⟨g, hg⟩ : ∃ g, g = w.heap.size + 1 + 1 + 1 := ⟨_, rfl⟩
  rw [← hg] at KEY M0 ⊢
  have HG := Lib.hid hg
  clear hg
  go_loopw [4] (fun i wr => ∃ k : Nat, k ≤ R ∧ i = .int .i64 k ∧ Hid (Frm [g] W wr ∧ MatAt wr g m R (turnF F k 0))) (fun i _ => R - (intOf i).toNat)
  case atStart => exact ⟨0, Nat.zero_le _, rfl, Frm.refl _ _, M0.out⟩
  case round =>
    obtain ⟨k, hk, rfl, H⟩ := hrel
    have q0 := (KEY.out wr H.out.1).2.1.c0
    by_cases hlt : k < R
    · go_wp2
      clear q0
      go_loopw [5] (fun i wr => ∃ t : Nat, t ≤ m ∧ i = .int .i64 t ∧ Hid (Frm [g] W wr ∧ MatAt wr g m R (turnF F k t))) (fun i _ => m - (intOf i).toNat)
      case atStart => exact ⟨0, Nat.zero_le _, rfl, H.out⟩
      clear H
      case round =>
        obtain ⟨t, ht, rfl, H⟩ := hrel
        have q1 := (KEY.out wr H.out.1).2.1.c1
        by_cases hlt2 : t < m
        · obtain ⟨-, hbx, -, hby, hrw⟩ := KEY.out wr H.out.1
          have q0 := hbx.c0
          have q2 := hbx.c2
          have p2 := hby.c2
          have hNpos : 0 < N := by rw [HN.out]; exact Nat.mul_pos (by omega) (by omega)
          obtain ⟨b5, o5, rfl, -, hc5⟩ := hrw.cell hNpos
          have hi1 := cell_lt (n := m) hlt hlt2
          have hi2 := cell_lt (n := R) hlt2 hlt
          rw [← HN.out] at hi1
          rw [Nat.mul_comm m R, ← HN.out] at hi2
          have hck := (hc5 (k * m + t) hi1).1
          rw [HF.out k t hlt hlt2] at hck
          obtain ⟨hcell, hfro⟩ := H.out.2.2 t k hlt2 hlt
          obtain ⟨I, hI⟩ : ∃ I, I = k * m := ⟨_, rfl⟩
          obtain ⟨J, hJ⟩ : ∃ J, J = t * R := ⟨_, rfl⟩
          rw [← hI] at hi1 hck
          rw [← hJ] at hi2 hcell hfro
          have hnn : (0 : Int) ≤ (I : Int) + (t : Int) ∧ (0 : Int) ≤ (J : Int) + (k : Int) ∧ ((I : Int) + (t : Int)).toNat = I + t ∧ ((J : Int) + (k : Int)).toNat = J + k := ⟨by omega, by omega, by omega, by omega⟩
          obtain ⟨n1, n2, n3, n4⟩ := hnn
          have hl1 : (I : Int) + (t : Int) < (N : Int) := by omega
          have hl2 : (J : Int) + (k : Int) < (N : Int) := by omega
          have ha1 := @addK I t (by omega)
          have ha2 := @addK J k (by omega)
          have hk1 := mulK hI (by omega)
          have hk2 := mulK hJ (by omega)
          have HI := Lib.hid hI
          have HJ := Lib.hid hJ
          clear hI hJ hbx hby hrw hc5
          go_wp2
          go_still_tail 19, (by kernel_rfl)
          change wpList _ _ _ _ _ wr.drew
          have HD : Hid (Frm [g] W wr.drew ∧ MatAt wr.drew g m R (turnF F k t)) := ⟨H.out.1.drew, H.out.2.keep rfl⟩
          go_wp2
          go_roundw
          case rel =>
            refine ⟨t + 1, by omega, by go_num, HD.out.1.setCell (fun _ => by simp) _, ?_⟩
            rw [HJ.out]
            refine (HD.out.2.set hlt2 hlt _).congr (fun i j _ _ => ?_)
            unfold turnF setF
            by_cases e : i = t ∧ j = k
            · obtain ⟨rfl, rfl⟩ := e
              simp
            · rw [if_neg e]
              have h1 : (j < k ∨ j = k ∧ i < t + 1) ↔ (j < k ∨ j = k ∧ i < t) := by omega
              simp only [h1]
          case measure => simp [intOf]; omega
        · obtain rfl : t = m := by omega
          go_wp2
          go_roundw
          case rel =>
            refine ⟨k + 1, by omega, by go_num, H.out.1, H.out.2.congr (fun i j hi _ => ?_)⟩
            unfold turnF
            have h1 : (j < k + 1 ∨ j = k + 1 ∧ i < 0) ↔ (j < k ∨ j = k ∧ i < t) := by omega
            simp only [h1]
          case measure => simp [intOf]; omega
    · obtain rfl : k = R := by omega
      obtain ⟨hbw, -, hat, hbx, -⟩ := KEY.out wr H.out.1
      have o0 := hat.c0
      have o1 := hat.c1
      have o2 := hat.c2
      have i0 := hat.f0
      have i1 := hat.f1
      have i2 := hat.f2
      have p0 := hbx.c0
      have p1 := hbx.c1
      have p2 := hbx.c2
      have HE : Hid (∀ x y z : Value, Below w.heap.size w (((wr.setCell ⟨w.heap.size + 1, 0, none⟩ x).setCell ⟨w.heap.size + 1, 1, none⟩ y).setCell ⟨w.heap.size + 1, 2, none⟩ z) ∧ MatAt (((wr.setCell ⟨w.heap.size + 1, 0, none⟩ x).setCell ⟨w.heap.size + 1, 1, none⟩ y).setCell ⟨w.heap.size + 1, 2, none⟩ z) g m k (fun i j => F j i)) := by
        intro x y z
        have hfr : Frm [w.heap.size + 1] wr (((wr.setCell ⟨w.heap.size + 1, 0, none⟩ x).setCell ⟨w.heap.size + 1, 1, none⟩ y).setCell ⟨w.heap.size + 1, 2, none⟩ z) := (((Frm.refl _ _).setCell (by simp) _).setCell (by simp) _).setCell (by simp) _
        refine ⟨((hbw.setCell (Nat.le_succ _) _).setCell (Nat.le_succ _) _).setCell (Nat.le_succ _) _, (H.out.2.congr (fun i j _ hj => ?_)).frm hfr (by rw [List.mem_singleton]; have := HG.out; omega)⟩
        simp [turnF, hj]
      clear hbw hat hbx
      go_wp2
      have hE := HE.out (.int .i64 m) (.int .i64 k) (.slice (some ⟨g, 0, none⟩) N N)
      exact bodyPost_ret (v := .agg #[.int .i64 m, .int .i64 k, .slice (some ⟨g, 0, none⟩) N N]) (by simp [results, Try.results100, go_sem, o0, o1, o2]) rfl ⟨_, rfl, hE.1, g, rfl, by have := HG.out; omega, hE.2⟩
end Go.Proofs.Ytpngpgbmkkjjgaa

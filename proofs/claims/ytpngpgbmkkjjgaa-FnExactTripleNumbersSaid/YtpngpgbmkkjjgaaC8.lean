/-
  Contracts: matrices as data, zero matrices, the cells of matrices in one row.
-/
import Derived.Test.YtpngpgbmkkjjgaaC7
namespace Go.Proofs.Ytpngpgbmkkjjgaa
open Go.RowKit

/-! ### appending what may be nil -/

theorem run_app_none {P : Program} {w : World} {t ty e : TypeId} {i : TypeInfo} (ht : P.underlying t = some (.slice e)) (hi : P.info? e = some i) (a : Option Addr) (n cap c : Nat) (h : n ≤ cap) :
    (Builtin.append_ #[t, t] ty #[.slice a n cap, .slice none 0 c]).run P w = .ok (.slice a n cap) w := by
  cases a with
  | none => simp [Builtin.append_, run_underlying ht, sizeOf, typeInfo, hi, Builtin.lenOf, h, run_firstCells_none]
  | some x => simp [Builtin.append_, run_underlying ht, sizeOf, typeInfo, hi, Builtin.lenOf, h, run_firstCells_none, storeCells]

theorem Own.room {α : Type} {s : Shp α} {e : Nat} {w : World} {B : Nat} {a : Option Addr} {n c : Nat} {l : List α} {S : List Nat} (h : Own e s w B (.slice a n c) l S) : n = l.length ∧ n ≤ c := by
  obtain ⟨xs, T, hown, _⟩ := h
  obtain ⟨a', c', hv, h1, _⟩ := own_form hown
  cases hv
  exact ⟨rfl, h1⟩

/-- append(v, x..), x a slice of integers, nil or not -/
theorem wpList_app_ints {P : Program} {t e bytes : Nat} (et : ElemTy P t e Shp.int.size bytes) {ops : Array Oper} {rest : List Oper} {o : Oper} {a : Act} {Q : Exit → Act → World → Prop} {w : World} (hgd : o.guard = none)
    (sl x : Operand) (ho : o.op = .call { callee := .builtin .append, args := #[sl, x], argTypes := #[t, t] }) {v : Value} {B : Nat} {l : List Int} {S : List Nat} (hs : a.eval sl = v) (h : Own e Shp.int w B v l S) (hB : B ≤ w.heap.size)
    {ad : Option Addr} {m c : Nat} {l2 : List Int} (hx : a.eval x = .slice ad m c) (hr : IntRow w ad m l2)
    (h63 : l.length + m ≤ 4294967296) (hbytes : (l.length + m) * bytes ≤ 140737488355328)
    (K : ∀ v' w1 S', Own e Shp.int w1 B v' (l ++ l2) S' → Frm S w w1 → (∀ b ∈ S', b ∈ S ∨ w.heap.size ≤ b) → wpList P ops Q rest (a.put o.dst v') w1) : wpList P ops Q (o :: rest) a w := by
  cases ad with
  | none =>
    have hm : m = 0 := by
      rcases Nat.eq_zero_or_pos m with h0 | h0
      · exact h0
      · obtain ⟨b, off, hb, _⟩ := hr.cell h0; cases hb
    subst hm
    have hl2 : l2 = [] := List.eq_nil_of_length_eq_zero hr.len
    subst hl2
    obtain ⟨i, z, h1, h2, h3, h4, h5⟩ := et.hi
    obtain ⟨a', n', c', rfl⟩ := h.form
    refine wpList_plain hgd fun _ hK => wp_append_of ho hs hx (run_app_none et.ht h1 a' n' c' c h.room.2) (hK _ _ (K _ _ S (by simpa using h) (Frm.refl _ _) (fun b hb => .inl hb)))
  | some p =>
    refine wpList_app et Shp.int_good hgd sl x ho hs h hB hx hr.len (news := l2.map (Value.int .i64)) ?_ (cells_int (fun i hi => hr.fit i (by have := hr.len; omega))) (New.nil _) (by simp) h63 hbytes (fun v' w1 S' h1 h2 h3 => K v' w1 S' h1 h2 (fun b hb => ?_))
    · intro j u hu
      have hl := hr.len
      have hj : j < l2.length := by
        rcases Nat.lt_or_ge j l2.length with h' | h'
        · exact h'
        · rw [List.getElem?_eq_none (by simpa using h')] at hu; cases hu
      obtain ⟨b, off, hb, _, hc⟩ := hr.cell (by omega)
      cases hb
      rw [List.getElem?_map, get_getD 0 hj] at hu
      simp only [Option.map_some, Option.some.injEq] at hu
      subst hu
      rw [Addr.add_lit]
      exact (hc j (by omega)).1
    · rcases h3 b hb with h | h | h
      · exact .inl h
      · cases h
      · exact .inr h

/-- append(v, x) at a step of a region that draws its order: one element, which lies in a new block of its own. -/
theorem step_app1 {P : Program} {t e bytes : Nat} {α : Type} {s : Shp α} (et : ElemTy P t e s.size bytes) (g : s.Good) {ops : Array Oper} {o : Oper} {a : Act} {K : Act → World → Prop} {Q : Exit → Act → World → Prop} {E : Prop} {w : World} (hgd : o.guard = none)
    (sl x : Operand) (ho : o.op = .call { callee := .builtin .append, args := #[sl, x], argTypes := #[t, t] }) {v : Value} {B : Nat} {l : List α} {S : List Nat} (hs : a.eval sl = v) (h : Own e s w B v l S) (hB : B ≤ w.heap.size)
    {cs : List Value} {y : α} {T : List Nat} {z : Nat} (hx : a.eval x = .slice (some ⟨z, 0, none⟩) 1 1) (hz : z = w.heap.size) (hrd : s.rd w cs y T) (hT : New B T) (hd : ∀ b ∈ S, b ∉ T)
    (h63 : l.length + 1 ≤ 4294967296) (hbytes : (l.length + 1) * bytes ≤ 140737488355328)
    (H : ∀ v' w1 S', Own e s w1 B v' (l ++ [y]) S' → Frm S w w1 → (∀ b ∈ S', b ∈ S ∨ b ∈ T ∨ w.heap.size ≤ b) → K (a.put o.dst v') w1) :
    if Region.wanted o (yielded ops a.tmps) = true then Oper.wp P o a (w.alloc (.cells cs.toArray e)) K Q else E := by
  rw [if_pos (by simp [Region.wanted, hgd])]
  subst hz
  have hb : Below w.heap.size w (w.alloc (.cells cs.toArray e)) := (Below.refl _ _).alloc (Nat.le_refl _) _
  obtain ⟨i, z, h1, h2, h3, h4, h5⟩ := et.hi
  obtain ⟨v', w', S', hr, ho', hf, hS⟩ := run_app (P := P) g (w := w.alloc (.cells cs.toArray e)) (ty := o.type) (a := ⟨w.heap.size, 0, none⟩) (m := 1) (c := 1) (news := cs) (l2 := [y]) et.ht h1 h2 h3 h4 h5 (h.below g hb) (by simp; omega) rfl (by
    intro j u hu
    rw [Addr.add_lit, Nat.zero_add, World.cell?_alloc_new]
    simpa using hu) (CellsRd.single (g.below hrd hb)) hT hd h63 hbytes
  refine wp_append_of ho hs hx hr (H v' w' S' ho' ((Frm.of_below hb |>.mono (S' := S) (by simp)).trans hf (fun i hi _ => hi)) ?_)
  intro b hb'
  rcases hS b hb' with h | h | h
  · exact .inl h
  · exact .inr (.inl h)
  · exact .inr (.inr (by rw [World.size_alloc] at h; omega))

/-! ### matrices -/

structure Mat where
  rows : Int
  cols : Int
  cells : List Int
deriving DecidableEq

def Shp.mat : Shp Mat := ⟨3, fun w cs x S => ∃ a n c, cs = [.int .i64 x.rows, .int .i64 x.cols, .slice a n c] ∧ fits x.rows ∧ fits x.cols ∧ SliceRd Shp.int w a n c x.cells S⟩
theorem Shp.mat_good : Shp.mat.Good where
  pos := by simp [Shp.mat]
  len := by rintro w cs x S ⟨a, n, c, rfl, _⟩; rfl
  one := by rintro w cs x S ⟨a, n, c, rfl, _⟩ u hu; simp at hu; rcases hu with rfl | rfl | rfl <;> rfl
  keep := by
    rintro w w' cs x S ⟨a, n, c, h, f1, f2, h1⟩ hk
    exact ⟨a, n, c, h, f1, f2, h1.keep Shp.int_good hk⟩
  lt := by
    rintro w cs x S ⟨a, n, c, h, f1, f2, h1⟩ b hb
    exact h1.lt Shp.int_good b hb

set_option maxHeartbeats 1000000 in
theorem c_zero (r c : Nat) (w : World) (hrc : r * c ≤ 1048576) (hr : r ≤ 1048576) (hc : c ≤ 1048576) :
    Calls Try.prog 97 #[.int .i64 r, .int .i64 c] w (Ret w fun v w' => ∃ cs S, v = .agg cs ∧ Shp.mat.rd w' cs.toList ⟨r, c, List.replicate (r * c) 0⟩ S ∧ New w.heap.size S) := by
  obtain ⟨m, hm⟩ : ∃ m, m = r * c := ⟨_, rfl⟩
  have hw : wrap64 ((r : Int) * c) = (m : Int) := by
    have h2 : (r : Int) * c = ((r * c : Nat) : Int) := by push_cast; rfl
    rw [h2, hm]
    exact IntWalk.wrap64_in _ ⟨by omega, by omega⟩
  have hmm : m ≤ 1048576 := by omega
  have HM := Lib.hid hm
  obtain ⟨i0, hi, hz0, hz1, hz2⟩ := info_parts Try.info3
  have b0 : Below w.heap.size w (w.alloc (.cells #[.int .i64 0, .int .i64 0, .slice none 0 0] 107)) := (Below.refl _ _).alloc (Nat.le_refl _) _
  obtain ⟨w1, hmk, hown0, hg0⟩ := run_make_full (P := Try.prog) (w.alloc (.cells #[.int .i64 0, .int .i64 0, .slice none 0 0] 107)) (w.heap.size + 1) 22 3 i0 (.int .i64 0) 1 Try.underlying22 hi hz0 hz1 .i64 .i64 m (by rw [hz2]; omega) (by unfold maxLen; omega) (by simp)
  have hb1 : Below (w.heap.size + 1) (w.alloc (.cells #[.int .i64 0, .int .i64 0, .slice none 0 0] 107)) w1 := (Below.refl _ _).grown hg0 (by simp) (fun k hk => by cases hk)
  have hA : At w1 w.heap.size 0 [.int .i64 0, .int .i64 0, .slice none 0 0] := (At.alloc w #[.int .i64 0, .int .i64 0, .slice none 0 0] 107).keep (hb1.block _ (by omega))
  have q0 := hA.c0
  have q1 := hA.c1
  have q2 := hA.c2
  have g0 := hA.f0
  have g1 := hA.f1
  have g2 := hA.f2
  rw [World.size_alloc] at hmk hown0
  simp only [Value.cells, Nat.mul_one, toList_madeCells_one] at hown0
  have HE : Hid (∀ x y z : Value, ∃ S, Below w.heap.size w (((w1.setCell ⟨w.heap.size, 0, none⟩ x).setCell ⟨w.heap.size, 1, none⟩ y).setCell ⟨w.heap.size, 2, none⟩ z) ∧
      Shp.mat.rd (((w1.setCell ⟨w.heap.size, 0, none⟩ x).setCell ⟨w.heap.size, 1, none⟩ y).setCell ⟨w.heap.size, 2, none⟩ z) [.int .i64 r, .int .i64 c, .slice (some ⟨w.heap.size + 1, 0, none⟩) m m] ⟨r, c, List.replicate (r * c) 0⟩ S ∧ New w.heap.size S) := by
    intro x y z
    obtain ⟨S, hO⟩ := own_ints (l := List.replicate m 0) (n := m) (fun x hx => by rw [List.eq_of_mem_replicate hx]; unfold fits; omega) (by simpa using hown0)
    obtain ⟨_, _, _, S1, hv1, -, rd1, new1, sub1⟩ := hO.rd
    cases hv1
    have hfr : Frm [w.heap.size] w1 (((w1.setCell ⟨w.heap.size, 0, none⟩ x).setCell ⟨w.heap.size, 1, none⟩ y).setCell ⟨w.heap.size, 2, none⟩ z) := (((Frm.refl _ _).setCell (by simp) _).setCell (by simp) _).setCell (by simp) _
    have hb2 : Below w.heap.size w w1 := b0.trans (hb1.mono (Nat.le_succ _))
    refine ⟨S1, ((hb2.setCell (Nat.le_refl _) _).setCell (Nat.le_refl _) _).setCell (Nat.le_refl _) _, ⟨_, _, _, rfl, (by show fits (r : Int); unfold fits; omega), (by show fits (c : Int); unfold fits; omega), ?_⟩, new1.mono (Nat.le_succ _)⟩
    rw [hm] at rd1
    have := rd1.frm Shp.int_good hfr (fun b hb hm => by have := new1.2 b hb; simp at hm; omega)
    rw [← hm] at this
    rw [← hm]
    simpa using this
  clear hm hi hz0 hz1 hz2 hg0 hown0 hb1 b0 hA hrc
  go_enter Try.func97, Try.ntmps97
  go_wp2
  obtain ⟨S, hb, hrd, hn⟩ := HE.out (.int .i64 r) (.int .i64 c) (.slice (some ⟨w.heap.size + 1, 0, none⟩) m m)
  exact bodyPost_ret (v := .agg #[.int .i64 r, .int .i64 c, .slice (some ⟨w.heap.size + 1, 0, none⟩) m m]) (by simp [results, Try.results97, go_sem, q0, q1, q2]) rfl ⟨_, rfl, hb, _, S, rfl, hrd, hn⟩

def flatOf (l : List Mat) : List Int := l.flatMap Mat.cells

set_option maxHeartbeats 1000000 in
theorem c_flat (a : Option Addr) (n c : Nat) (l : List Mat) (S0 : List Nat) (w : World) (h : SliceRd Shp.mat w a n c l S0) (hn : n ≤ 1048576) (hflat : (flatOf l).length ≤ 1048576) :
    Calls Try.prog 44 #[.slice a n c] w (Ret w fun v w' => ∃ S, Own 3 Shp.int w' w.heap.size v (flatOf l) S) := by
  have hlen := h.1
  have H0 := Lib.hid h
  have HL := Lib.hid hlen
  have HF := Lib.hid hflat
  clear h hlen hflat
  go_enter Try.func44, Try.ntmps44
  go_wp2
  go_loopw [3, 8] (fun s i wr => ∃ (k : Nat) (aF : Option Addr) (nF cF : Nat) (SF : List Nat), k ≤ n ∧ i = .int .i64 k ∧ s = .slice aF nF cF ∧ Hid (Own 3 Shp.int wr w.heap.size (.slice aF nF cF) (flatOf (l.take k)) SF ∧ Below w.heap.size w wr)) (fun _ i _ => n - (intOf i).toNat)
  case atStart => exact ⟨0, none, 0, 0, [], Nat.zero_le _, rfl, rfl, Own.nil _ _ _ _, Below.refl _ _⟩
  case round =>
    obtain ⟨k, aF, nF, cF, SF, hk, rfl, rfl, H⟩ := hrel
    by_cases hlt : k < n
    · obtain ⟨b, o, cs, T, rfl, hb, hbS, hat, ⟨a', n', c', rfl, f1, f2, hsl⟩, hsub⟩ := (H0.out.below Shp.mat_good H.out.2).at Shp.mat_good ⟨0, 0, []⟩ hlt
      have q0 := (hat 0 _ rfl).1
      have q1 := (hat 1 _ rfl).1
      have q2 := (hat 2 _ rfl).1
      have e3 : Shp.mat.size = 3 := rfl
      rw [e3] at q0 q1 q2
      rw [Nat.add_zero] at q0
      have b1 : Below wr.heap.size wr (wr.alloc (.cells #[.int .i64 (l[k]?.getD ⟨0, 0, []⟩).rows, .int .i64 (l[k]?.getD ⟨0, 0, []⟩).cols, .slice a' n' c'] 107)) := (Below.refl _ _).alloc (Nat.le_refl _) _
      have HT : Hid (flatOf (l.take (k + 1)) = flatOf (l.take k) ++ (l[k]?.getD ⟨0, 0, []⟩).cells) := by
        show _ = _
        rw [take_snoc l k ⟨0, 0, []⟩ (by have := HL.out; omega)]
        simp [flatOf]
      have hle : (flatOf (l.take k)).length + n' ≤ 1048576 := by
        have h1 : (flatOf (l.take (k + 1))).length ≤ (flatOf l).length := by
          have h2 : flatOf l = flatOf (l.take (k + 1)) ++ flatOf (l.drop (k + 1)) := by unfold flatOf; rw [← List.flatMap_append, List.take_append_drop]
          rw [h2, List.length_append]
          omega
        rw [HT.out, List.length_append, hsl.1] at h1
        have := HF.out
        omega
      have X := Lib.hid (And.intro (H.out.1.below Shp.int_good b1) (And.intro ((hsl.below Shp.int_good b1).row) (below_then H.out.2 b1)))
      have hsz : w.heap.size ≤ wr.heap.size := H.out.2.size
      clear hat hsl b1 hsub
      go_wp2_with (at_builtin; refine wpList_app_ints et_int rfl (.tmp 12) (.tmp 14) rfl rfl X.out.1 (by simp; omega) rfl X.out.2.1 (by omega) (by omega) ?_; intro v1 w1 S1 hO1 hF1 hS1; obtain ⟨a1, n1, c1, rfl⟩ := hO1.form; have Y := Lib.hid (And.intro hO1 hF1); clear hO1 hF1 hS1)
      go_roundw
      case rel =>
        refine ⟨k + 1, a1, n1, c1, S1, by omega, by go_num, rfl, ?_, ?_⟩
        · rw [HT.out]; exact Y.out.1
        · exact X.out.2.2.trans (Y.out.2.to_below (by simp; omega) (fun b hb => X.out.1.new.2 b hb))
      case measure => simp [intOf]; omega
    · have HE : Hid (l.take k = l) := List.take_of_length_le (by have := HL.out; omega)
      go_wp2
      go_ret
      exact ⟨_, rfl, H.out.2, SF, by have := H.out.1; rw [HE.out] at this; exact this⟩
end Go.Proofs.Ytpngpgbmkkjjgaa

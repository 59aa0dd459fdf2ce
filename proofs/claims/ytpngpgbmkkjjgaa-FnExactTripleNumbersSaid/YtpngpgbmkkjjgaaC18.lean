/-
  Contracts: the library's Grow and Concat of slices of rows.
-/
import Derived.Test.YtpngpgbmkkjjgaaC16
namespace Go.Proofs.Ytpngpgbmkkjjgaa
open Go.RowKit

theorem et_val : ElemTy Try.prog 33 22 Shp.val.size 24 := ElemTy.mk' Try.underlying33 (by kernel_rfl : (Try.prog.info? 22).map (fun i => (i.zero, i.size, i.bytes)) = some (some (.slice none 0 0), 1, 24)) rfl

/-- append(v, x..), the cells of x copied as they stand -/
theorem wpList_app_vals {P : Program} {t e bytes : Nat} (et : ElemTy P t e Shp.val.size bytes) {α : Type} {s : Shp α} (g : s.Good) (hs1 : s.size = 1) {ops : Array Oper} {rest : List Oper} {o : Oper} {a : Act} {Q : Exit → Act → World → Prop} {w : World} (hgd : o.guard = none)
    (sl x : Operand) (ho : o.op = .call { callee := .builtin .append, args := #[sl, x], argTypes := #[t, t] }) {v : Value} {B : Nat} {vs : List Value} {S : List Nat} (hs : a.eval sl = v) (h : Own e Shp.val w B v vs S) (hB : B ≤ w.heap.size)
    {ad : Option Addr} {m c : Nat} {l2 : List α} {S2 : List Nat} (hx : a.eval x = .slice ad m c) (hr : SliceRd s w ad m c l2 S2)
    (h63 : vs.length + m ≤ 4294967296) (hbytes : (vs.length + m) * bytes ≤ 140737488355328)
    (K : ∀ v' w1 S' xs T, CellsRd s w xs l2 T → (∀ b ∈ T, b ∈ S2) → Own e Shp.val w1 B v' (vs ++ xs) S' → Frm S w w1 → (∀ b ∈ S', b ∈ S ∨ w.heap.size ≤ b) → wpList P ops Q rest (a.put o.dst v') w1) : wpList P ops Q (o :: rest) a w := by
  obtain ⟨h1, h2, h3, h4⟩ := hr
  have key : ∀ (p : Addr) (xs : List Value) (T : List Nat), ad = some p → CellsRd s w xs l2 T → (∀ b ∈ T, b ∈ S2) → (∀ j u, xs[j]? = some u → w.cell? (p.add j) = some u) → wpList P ops Q (o :: rest) a w := by
    rintro p xs T rfl hc hT hat
    have hl : xs.length = m := by rw [hc.len g, hs1, h1]; omega
    refine wpList_app et Shp.val_good hgd sl x ho hs h hB hx hl (news := xs) hat (cells_val (hc.one g)) (New.nil _) (by simp) h63 hbytes (fun v' w1 S' a1 a2 a3 => K v' w1 S' xs T hc hT a1 a2 (fun b hb => ?_))
    rcases a3 b hb with h | h | h
    · exact .inl h
    · cases h
    · exact .inr h
  rcases h4 with ⟨rfl, hS⟩ | ⟨b, o', xs, T, hne, rfl, hb, rfl, hat, hc⟩
  · cases ad with
    | none =>
      have hm : m = 0 := by simpa using h1.symm
      subst hm
      obtain ⟨i, z, e1, e2, e3, e4, e5⟩ := et.hi
      obtain ⟨a', n', c', rfl⟩ := h.form
      exact wpList_plain hgd fun _ hK => wp_append_of ho hs hx (run_app_none et.ht e1 a' n' c' c h.room.2) (hK _ _ (K _ _ S [] [] ⟨rfl, rfl⟩ (by simp) (by simpa using h) (Frm.refl _ _) (fun b hb => .inl hb)))
    | some p => exact key p [] [] rfl ⟨rfl, rfl⟩ (by simp) (by simp)
  · exact key _ xs T rfl hc (fun b' hb' => by simp [hb']) (fun j u hu => by rw [Addr.add_lit]; exact (hat j u hu).1)

theorem CellsRd.below {α : Type} {s : Shp α} (g : s.Good) {w w' : World} {l : List α} {xs : List Value} {S : List Nat} (h : CellsRd s w xs l S) (hb : Below w.heap.size w w') : CellsRd s w' xs l S :=
  h.keep g (fun k hk => hb.block k (h.lt g k hk))

set_option maxRecDepth 100000 in
set_option maxHeartbeats 1000000 in
theorem c_Grow_rows (n : Nat) (w : World) (hn : n ≤ 1048576) :
    Calls Try.prog 145 #[.slice none 0 0, .int .i64 n] w (Ret w fun v w' => ∃ S, Own 22 Shp.val w' w.heap.size v [] S) := by
  by_cases h0 : n = 0
  · subst h0
    show Calls Try.prog 145 #[.slice none 0 0, .int .i64 0] w _
    go_enter Try.func145, Try.ntmps145
    go_wp2
    go_ret
    exact ⟨_, rfl, Below.refl _ _, [], Own.nil _ _ _ _⟩
  · have h1 : ¬ ((n : Int) < 0) := by omega
    have h4 : (n : Int) > 0 := by omega
    have key : ∀ ty, ∃ G cur, n ≤ G ∧ G ≤ maxLen ∧ cur.size = G * 1 ∧ (Builtin.append_ #[33, 3] ty #[.slice none 0 0, .int .i64 n]).run Try.prog w = .ok (.slice (some ⟨w.heap.size, 0, none⟩) n G) (w.drew.alloc (.cells cur 22)) := fun ty =>
      run_grow_nil et_val Try.underlying3 (by decide) w n (by omega) hn (by omega) ty
    obtain ⟨G, cur, hG, hM, hc, hr0⟩ := key 33
    have hG63 : G ≤ 9223372036854775807 := by unfold maxLen at hM; omega
    have HE : Hid (Own 22 Shp.val (w.drew.alloc (.cells cur 22)) w.heap.size (.slice (some ⟨w.heap.size, 0, none⟩) 0 G) [] [w.heap.size] ∧ Below w.heap.size w (w.drew.alloc (.cells cur 22))) :=
      ⟨⟨[], [], World.ownsRow_made w.drew cur G (Nat.le_refl _) hM hc, ⟨rfl, rfl⟩, rfl, ⟨by simp, by simp⟩⟩, ((below_drewN 1 (Below.refl _ _) : Below w.heap.size w (w.drewN 1))).alloc (Nat.le_refl _) _⟩
    clear key hM hc
    go_enter Try.func145, Try.ntmps145
    go_wp2_with (at_builtin; refine Lib.wpList_append_run _ rfl _ _ _ _ rfl _ _ rfl rfl _ _ hr0 ?_)
    all_goals (go_ret; exact ⟨_, rfl, HE.out.2, _, HE.out.1⟩)

abbrev Shp.rows : Shp (List (List Int)) := Shp.slice Shp.ints
theorem Shp.rows_good : Shp.rows.Good := Shp.slice_good Shp.ints_good
/-- What Concat of slices of rows has made so far. -/
def CcSt (w : World) (L : List (List (List Int))) (S0 : List Nat) (k : Nat) (v : Value) (wr : World) : Prop :=
  ∃ SF vs T, Own 22 Shp.val wr w.heap.size v vs SF ∧ CellsRd Shp.ints wr vs (L.take k).flatten T ∧ (∀ b ∈ T, b ∈ S0) ∧ Below w.heap.size w wr

set_option maxHeartbeats 1000000 in
theorem c_Concat_rows (a : Option Addr) (n c : Nat) (l : List (List (List Int))) (S0 : List Nat) (w : World) (h : SliceRd Shp.rows w a n c l S0) (hn : n ≤ 1048576) (hfl : l.flatten.length ≤ 1048576) :
    Calls Try.prog 121 #[.slice a n c] w (Ret w fun v w' => ∃ a' n' c' S, v = .slice a' n' c' ∧ SliceRd Shp.ints w' a' n' c' l.flatten S) := by
  have hlen := h.1
  have hlt0 := h.lt Shp.rows_good
  have H0 := Lib.hid h
  have HL := Lib.hid hlen
  have HF := Lib.hid hfl
  have HLT := Lib.hid hlt0
  clear h hlen hfl hlt0
  have HT : Hid (∀ k, k < n → (l.take (k + 1)).flatten = (l.take k).flatten ++ l[k]?.getD [] ∧ ((l.take (k + 1)).flatten).length ≤ 1048576) := by
    intro k hk
    have e : (l.take (k + 1)).flatten = (l.take k).flatten ++ l[k]?.getD [] := by rw [take_snoc l k [] (by have := HL.out; omega)]; simp
    refine ⟨e, ?_⟩
    have h2 : l.flatten = (l.take (k + 1)).flatten ++ (l.drop (k + 1)).flatten := by rw [← List.flatten_append, List.take_append_drop]
    have := HF.out
    rw [h2, List.length_append] at this
    omega
  go_enter Try.func121, Try.ntmps121
  go_wp2
  go_loop [3, 11] (fun s i => ∃ k z : Nat, k ≤ n ∧ i = .int .i64 k ∧ s = .int .i64 z ∧ Hid (z = (l.take k).flatten.length)) (fun _ i => n - (intOf i).toNat)
  case atStart => exact ⟨0, 0, Nat.zero_le _, rfl, rfl, rfl⟩
  case round =>
    obtain ⟨k, z, hk, rfl, rfl, HZ⟩ := hrel
    by_cases hlt : k < n
    · obtain ⟨b, o, cs, T, rfl, hb, hbS, hat, ⟨a', n', c', rfl, hsl⟩, hsub⟩ := H0.out.at Shp.rows_good [] hlt
      have q0 := (hat 0 _ rfl).1
      have e3 : Shp.rows.size = 1 := rfl
      rw [e3, Nat.mul_one, Nat.add_zero] at q0
      have hyb : z + n' ≤ 1048576 := by
        have h1 := HT.out k hlt
        rw [h1.1, List.length_append, hsl.1] at h1
        have := HZ.out
        omega
      have hge : ¬ ((z : Int) + (n' : Int) < 0) := by omega
      have HY : Hid (z + n' = (l.take (k + 1)).flatten.length) := by
        show _ = _
        rw [(HT.out k hlt).1, List.length_append, hsl.1]
        have := HZ.out
        omega
      clear hat hsl hsub
      go_wp2
      go_round
      case rel => exact ⟨k + 1, z + n', by omega, by go_num, by go_num, HY⟩
      case measure => simp [intOf]; omega
    · have hz : z ≤ 1048576 := by
        have h1 : l.take k = l := List.take_of_length_le (by have := HL.out; omega)
        have := HZ.out
        have := HF.out
        rw [h1] at *
        omega
      have HG := Lib.hid (c_Grow_rows z w hz)
      clear hz
      go_wp2_with fail
      refine HG.out.mono ?_
      rintro e w1 ⟨v, rfl, hb1, S1, hO1⟩
      obtain ⟨a1, n1, c1, rfl⟩ := hO1.form
      have X1 : Hid (CcSt w l S0 0 (.slice a1 n1 c1) w1) := ⟨S1, [], [], hO1, ⟨rfl, rfl⟩, by simp, hb1⟩
      clear hO1 hb1 HG
      go_wp2
      go_loopw [6, 27] (fun s i wr => ∃ (k : Nat) (aF : Option Addr) (nF cF : Nat), k ≤ n ∧ i = .int .i64 k ∧ s = .slice aF nF cF ∧ Hid (CcSt w l S0 k (.slice aF nF cF) wr)) (fun _ i _ => n - (intOf i).toNat)
      case atStart => exact ⟨0, a1, n1, c1, Nat.zero_le _, rfl, rfl, X1⟩
      case round =>
        obtain ⟨k, aF, nF, cF, hk, rfl, rfl, H⟩ := hrel
        by_cases hlt : k < n
        · obtain ⟨SF, vs, TF, hO, hC, hsT, hB⟩ := H.out
          obtain ⟨b, o, cs, T, rfl, hb, hbS, hat, ⟨a', n', c', rfl, hsl⟩, hsub⟩ := (H0.out.below Shp.rows_good hB).at Shp.rows_good [] hlt
          have q0 := (hat 0 _ rfl).1
          have e3 : Shp.rows.size = 1 := rfl
          rw [e3, Nat.mul_one, Nat.add_zero] at q0
          have hvl : vs.length = (l.take k).flatten.length := by have := hC.len Shp.ints_good; rw [this]; show _ * 1 = _; omega
          have hle : vs.length + n' ≤ 1048576 := by
            have h1 := HT.out k hlt
            rw [h1.1, List.length_append, hsl.1] at h1
            omega
          have hsz : w.heap.size ≤ wr.heap.size := hB.size
          have HS := Lib.hid (And.intro hsl hsub)
          have HO := Lib.hid hO
          have HC := Lib.hid (And.intro hC (And.intro hsT hB))
          clear hat hsl hsub hO hC hsT hB hvl H
          go_wp2_with (at_builtin; refine wpList_app_vals et_val Shp.ints_good rfl rfl (.tmp 31) (.tmp 32) rfl rfl HO.out hsz rfl HS.out.1 (by omega) (by omega) ?_; intro v1 w2 S2 xs T2 hC2 hT2 hO2 hF2 hS2; obtain ⟨a2, n2, c2, rfl⟩ := hO2.form; have Y := Lib.hid (And.intro hC2 (And.intro hT2 (And.intro hO2 hF2))); clear hC2 hT2 hO2 hF2 hS2)
          have HN : Hid (CcSt w l S0 (k + 1) (.slice a2 n2 c2) w2) := by
            obtain ⟨hC2, hT2, hO2, hF2⟩ := Y.out
            have hnew : ∀ b ∈ S0, b ∉ SF := fun b hb hm => by have := HLT.out b hb; have := HO.out.new.2 b hm; omega
            refine ⟨S2, vs ++ xs, TF ++ T2, hO2, ?_, fun b hb => ?_, HC.out.2.2.trans (hF2.to_below hsz (fun b hb => HO.out.new.2 b hb))⟩
            · rw [(HT.out k hlt).1]
              refine (HC.out.1.append hC2).keep Shp.ints_good (fun b hb => ?_)
              refine hF2.block b ?_ ?_
              · rcases List.mem_append.1 hb with h | h
                · exact HC.out.1.lt Shp.ints_good b h
                · exact hC2.lt Shp.ints_good b h
              · refine hnew b ?_
                rcases List.mem_append.1 hb with h | h
                · exact HC.out.2.1 b h
                · exact HS.out.2 b (hT2 b h)
            · rcases List.mem_append.1 hb with h | h
              · exact HC.out.2.1 b h
              · exact HS.out.2 b (hT2 b h)
          clear Y HC HO HS
          go_roundw
          case rel => exact ⟨k + 1, a2, n2, c2, by omega, by go_num, rfl, HN⟩
          case measure => simp [intOf]; omega
        · have HE : Hid (l.take k = l) := List.take_of_length_le (by have := HL.out; omega)
          have HR : Hid (∃ a' n' c' S', Value.slice aF nF cF = .slice a' n' c' ∧ SliceRd Shp.ints wr a' n' c' l.flatten S') := by
            obtain ⟨SF, vs, TF, hO, hC, hsT, hB⟩ := H.out
            rw [HE.out] at hC
            obtain ⟨a', n', c', S', hv, -, hr⟩ := own_val Shp.ints_good rfl hO hC
            exact ⟨a', n', c', S', hv, hr⟩
          have HB : Hid (Below w.heap.size w wr) := by obtain ⟨SF, vs, TF, hO, hC, hsT, hB⟩ := H.out; exact hB
          go_wp2
          go_ret
          exact ⟨_, rfl, HB.out, HR.out⟩
end Go.Proofs.Ytpngpgbmkkjjgaa

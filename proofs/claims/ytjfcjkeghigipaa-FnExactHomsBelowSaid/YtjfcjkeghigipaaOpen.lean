/-
  From what a statement tells of an argument (it can be read as data, and none of its places is frozen) to the shapes of the walks.
-/
import Derived.Test.YtjfcjkeghigipaaLib
import Derived.OpenShut
import Derived.ShutString
import Derived.ChangeOld
namespace Go.Proofs.Ytjfcjkeghigipaa
open Go.ChangeShapes Go.WideShapes Go.ChangeAt Go.RowKit

def Opens {α : Type} (P : Program) (t : TypeId) (s : Shp α) : Prop :=
  ∀ (H : Type) (enc : TypeId × Value → H) (w : World) (fuel : Nat) (cs : List Value) (d : DataW H) (ps : List MemPlace), DataW.trod enc P w 0 (fun _ => true) true fuel t cs = some (d, ps) → w.noneFrozen ps → ∃ x S, s.rd w cs x S

theorem fits_of_wf {n : Int} (h : (Lit.int .i64 n).wf = true) : fits n := by
  have := bounds_i64 h
  unfold fits
  omega

theorem opens_int {P : Program} {t : TypeId} (ht : P.underlying t = some (.int .i64)) : Opens P t Shp.int := by
  intro H enc w fuel cs d ps h _
  obtain ⟨n, rfl, _, hw⟩ := DataW.trod_int ht h
  exact ⟨n, [], rfl, rfl, fits_of_wf hw⟩

theorem opens_slice {P : Program} {t e : TypeId} {α : Type} {s : Shp α} (ht : P.underlying t = some (.slice e)) (hc : P.cellsOf e = s.size) (g : s.Good) (ho : Opens P e s) : Opens P t (Shp.slice s) := by
  intro H enc w fuel cs d ps h hf
  rcases Deep.open_slice ht h with ⟨rfl, _⟩ | ⟨a, len, cap, m, n, D, Pl, rfl, _, hl, hm, hmm, hx, hel⟩
  · exact ⟨[], [], none, 0, 0, rfl, rfl, Nat.le_refl _, Nat.zero_le _, .inl ⟨rfl, rfl⟩⟩
  · simp only [if_true] at hmm
    subst hmm
    rw [hc] at hx hel
    have hps : ps = MemPlace.row a (m * s.size) ++ (List.range m).flatMap Pl := by injection hx
    have key : ∀ k, k ≤ m → ∃ xs l T, l.length = k ∧ CellsRd s w xs l T ∧ ∀ j u, xs[j]? = some u → w.cell? (a.add j) = some u ∧ w.frozen? ⟨a.block, a.off + j, none⟩ = false := by
      intro k
      induction k with
      | zero => intro _; exact ⟨[], [], [], rfl, ⟨rfl, rfl⟩, by simp⟩
      | succ k ih =>
        intro hk
        obtain ⟨xs, l, T, h1, h2, h3⟩ := ih (by omega)
        obtain ⟨cs', hcs, htr⟩ := hel k (by omega)
        obtain ⟨x, S, hr⟩ := ho H enc w n cs' (D k) (Pl k) htr (fun b off hm => hf b off (by rw [hps]; exact List.mem_append_right _ (List.mem_flatMap.2 ⟨k, by simp; omega, hm⟩)))
        refine ⟨xs ++ cs', l ++ [x], T ++ S, by simp [h1], h2.append (CellsRd.single hr), ?_⟩
        intro j u hu
        have hxl : xs.length = k * s.size := by rw [h2.len g, h1]
        rcases Nat.lt_or_ge j xs.length with hj | hj
        · exact h3 j u (by rw [List.getElem?_append_left hj] at hu; exact hu)
        · rw [List.getElem?_append_right hj, hxl] at hu
          have hlen := g.len hr
          have hj2 : j - k * s.size < s.size := by
            rcases Nat.lt_or_ge (j - k * s.size) s.size with h' | h'
            · exact h'
            · rw [List.getElem?_eq_none (by omega)] at hu; cases hu
          have hcell := (World.cells?_some hcs).2.2 (j - k * s.size) (by omega)
          rw [Deep.add_add, show k * s.size + (j - k * s.size) = j by omega, hu] at hcell
          refine ⟨hcell, hf _ _ ?_⟩
          rw [hps]
          refine List.mem_append_left _ ?_
          unfold MemPlace.row
          refine List.mem_map.2 ⟨j, ?_, rfl⟩
          rw [List.mem_range]
          have : (k + 1) * s.size ≤ m * s.size := Nat.mul_le_mul_right _ (by omega)
          rw [Nat.add_mul] at this
          omega
    obtain ⟨xs, l, T, h1, h2, h3⟩ := key len hl
    by_cases h0 : l = []
    · exact ⟨[], [], some a, len, m, rfl, by simpa [h0] using h1, hl, hm, .inl ⟨rfl, rfl⟩⟩
    · have hpos : 0 < xs.length := by
        rw [h2.len g]
        exact Nat.mul_pos (List.length_pos_iff.2 h0) g.pos
      have hfirst := (h3 0 xs[0] (by simp [hpos])).1
      rw [Addr.add_zero'] at hfirst
      have hspot : a.spot = none := by
        cases hs : a.spot with
        | none => rfl
        | some _ =>
          unfold World.cell? at hfirst
          split at hfirst
          · simp [hs] at hfirst
          · cases hfirst
      have ha : a = ⟨a.block, a.off, none⟩ := by cases a; simp_all
      refine ⟨l, a.block :: T, some a, len, m, rfl, h1, hl, hm, .inr ⟨a.block, a.off, xs, T, h0, by rw [← ha], World.block_lt_of_cell? _ _ hfirst, rfl, ?_, h2⟩⟩
      intro j u hu
      refine ⟨?_, (h3 j u hu).2⟩
      have := (h3 j u hu).1
      rw [ha, Addr.add_lit] at this
      exact this

/-- A struct: each field is read by its own shape. -/
theorem opens_fields {P : Program} {t : TypeId} {fs : Array Field} (ht : P.underlying t = some (.struct fs)) (H : Type) (enc : TypeId × Value → H) (w : World) (fuel : Nat) (cs : List Value) (d : DataW H) (ps : List MemPlace)
    (h : DataW.trod enc P w 0 (fun _ => true) true fuel t cs = some (d, ps)) (hf : w.noneFrozen ps) :
    cs.length = P.cellsOf t ∧ ∀ (i : Nat) (f : Field), fs[i]? = some f → ∀ {α : Type} {s : Shp α}, Opens P f.type s → ∃ x S, s.rd w ((cs.drop f.offset).take (P.cellsOf f.type)) x S := by
  obtain ⟨xs, n, _, hx, hl, hlen, hfs⟩ := DataW.trod_struct ht h
  refine ⟨hl, fun i f hi α s ho => ?_⟩
  have hi' : i < xs.length := by
    rw [hlen]
    rcases Nat.lt_or_ge i fs.size with h' | h'
    · exact h'
    · rw [Array.getElem?_eq_none h'] at hi; cases hi
  have hg := hfs i f hi
  rw [List.getElem?_eq_getElem hi'] at hg
  have hps : ps = xs.flatMap (·.2) := by injection hx
  exact ho H enc w n _ (xs[i]).1 (xs[i]).2 hg (fun b off hm => hf b off (by rw [hps]; exact List.mem_flatMap.2 ⟨xs[i], List.getElem_mem _, hm⟩))

/-- A reading behind a call that keeps what was there. -/
theorem again {P : Program} {H : Type} {enc : TypeId × Value → H} {W W' : World} {t : TypeId} {v : Value} {d : DataW H} {p : List MemPlace} (hl : laidOutB P = true) (hr : P.readableRec t = true) (h : DataW.Trod enc P W 0 (fun _ => true) true t v d p) (hb : Below W.heap.size W W') : True := trivial

end Go.Proofs.Ytjfcjkeghigipaa

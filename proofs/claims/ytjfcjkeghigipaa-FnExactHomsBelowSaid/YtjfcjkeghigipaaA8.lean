/-
  The effects of single operations: append. No program stands in this text.
-/
import Derived.Test.YtjfcjkeghigipaaA7
namespace Go.Proofs.Ytjfcjkeghigipaa
open Go.RowKit

theorem CellsRep.views {w : World} {h : Hp} {u : Us} {ν : Nu} : ∀ {cs : List AV} {vs : List Value} {S : List Nat}, CellsRep w h u ν cs vs S → (∀ y ∈ S, Free h ν y) → All2 (Rep1 w h u ν) (cs.map view) vs
  | [], _, _, r, _ => by simp [All2, r.1]
  | c :: cs, vs, S, ⟨v, r, S1, S2, h1, h2, h3, h4⟩, hf => by
    subst h1; subst h2
    exact ⟨v, r, rfl, (h3.view (fun y hy => hf y (by simp [hy]))).1, h4.views (fun y hy => hf y (by simp [hy]))⟩

theorem HeapOk.freeT {B : Nat → Prop} {w : World} {h : Hp} {u : Us} {ν : Nu} {φ : Nat → List Nat} (hh : HeapOk B w h u ν φ) {b : Nat} {blk : Blk} (hb : h b = some blk) {β c : Nat} (hν : ν b = some (β, c)) {T : List Nat} (hT : φ b = β :: T) : ∀ y ∈ T, Free h ν y := by
  obtain ⟨_, _, hnd, _⟩ := hh.blk b blk hb
  rw [hT] at hnd
  intro y hy b2 blk2 β2 c2 hb2 hν2 e
  subst e
  by_cases e2 : b2 = b
  · subst e2
    rw [hν] at hν2
    cases hν2
    exact (List.nodup_cons.1 hnd).1 hy
  · obtain ⟨_, ⟨_, hx2⟩, _, _⟩ := hh.blk b2 blk2 hb2
    rcases hx2 with ⟨q1, _, _⟩ | ⟨β3, c3, _, _, T3', _, q1, _, _, _, _, q6, _, _⟩
    · rw [q1] at hν2; cases hν2
    · rw [q1] at hν2
      cases hν2
      exact hh.apart b2 b β2 (by rw [hb2]; simp) (by rw [hb]; simp) e2 (by rw [q6]; simp) (by rw [hT]; simp [hy])

theorem RepVs.append {w : World} : ∀ {cs ds : List AV} {vs us : List Value} {S T : List Nat}, RepVs w cs vs S → RepVs w ds us T → RepVs w (cs ++ ds) (vs ++ us) (S ++ T)
  | [], ds, vs, us, S, T, h, g => by simp only [RepVs] at h; obtain ⟨rfl, rfl⟩ := h; simpa using g
  | c :: cs, ds, vs, us, S, T, h, g => by
    simp only [RepVs] at h
    obtain ⟨v, r, S1, S2, rfl, rfl, h3, h4⟩ := h
    simp only [List.cons_append, RepVs]
    exact ⟨v, _, S1, S2 ++ T, rfl, by simp, h3, h4.append g⟩

theorem RepEs.vals {w : World} {k b : Nat} : ∀ {o : Nat} {es : List (List AV)} {S : List Nat}, RepEs w k b o es S → ∃ vs, RepVs w es.flatten vs S ∧ vs.length = es.length * k ∧ (∀ cs ∈ es, cs.length = k) ∧ (∀ u ∈ vs, u.oneCell' = true) ∧ ∀ j u, vs[j]? = some u → w.cell? ⟨b, o + j, none⟩ = some u ∧ w.frozen? ⟨b, o + j, none⟩ = false
  | _, [], S, h => by simp only [RepEs] at h; exact ⟨[], by simp [RepVs, h], by simp, by simp, by simp, by simp⟩
  | o, cs :: es, S, h => by
    simp only [RepEs] at h
    obtain ⟨S1, S2, rfl, h2, h3, h4⟩ := h
    obtain ⟨vs, e1, e2, e3, e4, e5⟩ := h4.vals
    obtain ⟨us, f1, f2, f3, f4⟩ := h3.vals
    refine ⟨us ++ vs, f1.append e1, by simp [f2, e2, h2, Nat.add_mul]; omega, ?_, ?_, ?_⟩
    · intro c hc
      rcases List.mem_cons.1 hc with rfl | h'
      · exact h2
      · exact e3 c h'
    · intro y hy
      rcases List.mem_append.1 hy with h' | h'
      · exact f3 y h'
      · exact e4 y h'
    · intro j y hy
      rcases Nat.lt_or_ge j us.length with hj | hj
      · rw [List.getElem?_append_left hj] at hy
        exact f4 j y hy
      · rw [List.getElem?_append_right hj] at hy
        have := e5 _ y hy
        rw [show o + k + (j - us.length) = o + j by rw [f2, h2] at *; omega] at this
        exact this

def srcEls (hp : Hp) : AV → Option (Nat × List (List AV) × List Nat)
  | .own b i n => match hp b with
    | some blk => some (blk.k, ((blk.es.drop i).take n).map (List.map view), [b])
    | none => none
  | .list k es => some (k, es, [])
  | .nil k => some (k, [], [])
  | _ => none

theorem flatten_dt {α : Type} {k : Nat} : ∀ {es : List (List α)} (_ : ∀ c ∈ es, c.length = k) (i n : Nat), ((es.drop i).take n).flatten = (es.flatten.drop (i * k)).take (n * k)
  | [], _, i, n => by simp
  | c :: es, hk, 0, 0 => by simp
  | c :: es, hk, 0, n + 1 => by
    have hc := hk c (by simp)
    have ih := flatten_dt (es := es) (fun x hx => hk x (by simp [hx])) 0 n
    simp only [List.drop_zero, Nat.zero_mul] at ih ⊢
    have t1 : c.take ((n + 1) * k) = c := List.take_of_length_le (by rw [hc, Nat.add_mul]; omega)
    rw [List.take_succ_cons, List.flatten_cons, ih, List.flatten_cons, List.take_append, t1, hc, show (n + 1) * k - k = n * k by rw [Nat.add_mul]; omega]
  | c :: es, hk, i + 1, n => by
    have hc := hk c (by simp)
    have ih := flatten_dt (es := es) (fun x hx => hk x (by simp [hx])) i n
    have t2 : c.drop ((i + 1) * k) = [] := List.drop_eq_nil_of_le (by rw [hc, Nat.add_mul]; omega)
    rw [List.drop_succ_cons, ih, List.flatten_cons, List.drop_append, t2, List.nil_append, hc, show (i + 1) * k - k = i * k by rw [Nat.add_mul]; omega]

theorem Sim.src {C : Ctx} {s : AState} {ν : Nu} {a : Act} {w : World} {hp : Hp} (hs : Sim C s ν a w) {x : AV} {v : Value} (r : RepA w s.heap s.used ν x v) {k : Nat} {news : List (List AV)} {ts : List Nat} (hsrc : srcEls hp x = some (k, news, ts)) (ht : ∀ b ∈ ts, s.heap b = hp b) (hpl : news.flatten.all (okCell hp) = true) :
    ∃ ao c vs, v = .slice ao news.length c ∧ (∀ cs ∈ news, cs.length = k) ∧ vs.length = news.length * k ∧ All2 (Rep1 w s.heap s.used ν) news.flatten vs ∧ (news.length = 0 ∨ ∃ ad, ao = some ad ∧ ∀ j u, vs[j]? = some u → w.cell? (ad.add j) = some u) := by
  cases x <;> simp only [srcEls] at hsrc <;> first | cases hsrc | skip
  case nil =>
    simp only [RepA, RepB, Rep1] at r
    exact ⟨none, 0, [], r, by simp, by simp, by simp [All2], .inl rfl⟩
  case list =>
    simp only [RepA, RepB, Rep1, RepD] at r
    obtain ⟨S, ⟨ao, c, h3, h4, h5, h6⟩, h7⟩ := r
    rcases h6 with ⟨rfl, _⟩ | ⟨b, o, S', rfl, h8, rfl, h9⟩
    · exact ⟨ao, c, [], h3, by simp, by simp, by simp [All2], .inl rfl⟩
    · obtain ⟨vs, e1, e2, e3, e4, e5⟩ := h9.vals
      refine ⟨_, c, vs, h3, e3, e2, ?_, .inr ⟨_, rfl, fun j u hu => by rw [Addr.add_lit]; exact (e5 j u hu).1⟩⟩
      refine e1.rep1 ?_ (fun y hy => h7 y (by simp [hy]))
      rw [List.all_eq_true] at hpl ⊢
      intro y hy
      have := hpl y hy
      have hno : RepVs w news.flatten vs S' := e1
      have key : ∀ {cs : List AV} {vs : List Value} {S : List Nat}, RepVs w cs vs S → ∀ y ∈ cs, okCell hp y = true → plainD y = true := by
        intro cs
        induction cs with
        | nil => intro vs S _ y hy; cases hy
        | cons c cs ih =>
          intro vs S h y hy ok
          simp only [RepVs] at h
          obtain ⟨v, r, S1, S2, rfl, rfl, h3, h4⟩ := h
          rcases List.mem_cons.1 hy with rfl | h'
          · cases y <;> simp only [okCell, plainD, RepD] at ok h3 ⊢ <;> first | rfl | exact h3.elim | cases ok
          · exact ih h4 y h' ok
      exact key hno y hy this
  case own b i n =>
    split at hsrc
    · rename_i blk hb
      cases hsrc
      simp only [RepA, RepB, Rep1] at r
      have hb' : s.heap b = some blk := (ht b (by simp)).trans hb
      obtain ⟨h3, h4, h5⟩ := r.2 blk hb'
      obtain ⟨φ, hh⟩ := hs.heap
      obtain ⟨_, ⟨hk, hx2⟩, hnd, hB⟩ := hh.blk b blk hb'
      have hlen : (((blk.es.drop i).take n).map (List.map view)).length = n := by simp; omega
      have hku : ∀ cs ∈ ((blk.es.drop i).take n).map (List.map view), cs.length = blk.k := by
        intro cs hcs
        obtain ⟨c, hc, rfl⟩ := List.mem_map.1 hcs
        rw [List.length_map]
        exact hk c (List.mem_of_mem_drop (List.mem_of_mem_take hc))
      rw [hlen]
      have hfl : (((blk.es.drop i).take n).map (List.map view)).flatten = ((blk.es.flatten.drop (i * blk.k)).take (n * blk.k)).map view := by
        rw [← flatten_dt hk, List.map_flatten]
      rcases hx2 with ⟨q1, q2, _⟩ | ⟨β, c, arr, ty', T', vs, q1, q2, q3, q4, q5, q6, q7, q8⟩
      · rw [q2] at h3
        have hn : n = 0 := by simp at h3; omega
        subst hn
        exact ⟨none, 0, [], h4 q1, hku, by simp, by simp [All2], .inl rfl⟩
      · by_cases hic : c ≤ i
        · have hn : n = 0 := by omega
          subst hn
          obtain ⟨o, ho, _⟩ := h5 β c q1
          exact ⟨_, _, [], ho, hku, by simp, by simp [All2], .inl rfl⟩
        obtain ⟨T1, g1, g2⟩ := q8.drop (i * blk.k)
        obtain ⟨T2, g3, g4⟩ := g1.take (n * blk.k)
        have hfr := hh.freeT hb' q1 q6
        refine ⟨_, c - i, _, (h5 β c q1).pos (by omega), hku, ?_, by rw [hfl]; exact g3.views (fun y hy => hfr y (g2 y (g4 y hy))), .inr ⟨_, rfl, ?_⟩⟩
        · have hl := q8.len
          rw [flatten_len hk] at hl
          have : (i + n) * blk.k ≤ blk.es.length * blk.k := Nat.mul_le_mul_right _ h3
          rw [Nat.add_mul] at this
          rw [List.length_take, List.length_drop, hl]
          omega
        · intro j u hu
          have hj : j < n * blk.k := by
            rcases Nat.lt_or_ge j (n * blk.k) with h' | h'
            · exact h'
            · rw [List.getElem?_eq_none (by simp; omega)] at hu; cases hu
          rw [List.getElem?_take_of_lt hj, List.getElem?_drop, ← q7] at hu
          have hlt : i * blk.k + j < blk.es.length * blk.k := by
            rcases Nat.lt_or_ge (i * blk.k + j) (blk.es.length * blk.k) with h' | h'
            · exact h'
            · rw [List.getElem?_eq_none (by simp; omega)] at hu; cases hu
          rw [List.getElem?_take_of_lt hlt] at hu
          rw [Addr.add_lit]
          simp only [World.cell?, q2]
          simpa using hu
    · cases hsrc

theorem run_append_room' {P : Program} {w : World} (t ty e e' : TypeId) (i : TypeInfo) (ht : P.underlying t = some (.slice e)) (hi : P.info? e = some i)
    (g sLen sCap : Nat) (cur : Array Value) (hg : w.heap[g]? = some (.cells cur e' (0, 0)))
    (a : Addr) (m c : Nat) (news : List Value) (hl : news.length = m * i.size) (hnews : ∀ j u, news[j]? = some u → w.cell? (a.add j) = some u) (h1 : ∀ u ∈ news, u.oneCell' = true)
    (hroom : sLen + m ≤ sCap) (hfit : sLen * i.size + news.length ≤ cur.size) :
    (Builtin.append_ #[t, t] ty #[.slice (some ⟨g, 0, none⟩) sLen sCap, .slice (some a) m c]).run P w =
      .ok (.slice (some ⟨g, 0, none⟩) (sLen + m) sCap) (w.setRow g (cur.toList.take (sLen * i.size) ++ news ++ cur.toList.drop (sLen * i.size + news.length)).toArray) := by
  have hf := run_firstCells_some (P := P) w i.size m a m c news hl hnews
  have hst := run_storeCells_at P g (sLen * i.size) e' news 0 cur w hg (by simpa using hfit) h1
  simp only [Nat.add_zero] at hst
  simp [Builtin.append_, run_underlying ht, sizeOf, typeInfo, hi, Builtin.lenOf, hroom, hf, Addr.add_lit, hst]

theorem run_append_zero {P : Program} {w : World} (t ty e : TypeId) (i : TypeInfo) (ht : P.underlying t = some (.slice e)) (hi : P.info? e = some i)
    (base : Option Addr) (sLen sCap : Nat) (hc : sLen ≤ sCap) (ao : Option Addr) (c : Nat) : (Builtin.append_ #[t, t] ty #[.slice base sLen sCap, .slice ao 0 c]).run P w = .ok (.slice base sLen sCap) w := by
  have hf : (Builtin.firstCells i.size 0 (.slice ao 0 c)).run P w = .ok #[] w := by cases ao <;> simp [Builtin.firstCells, loadCells, loadCellsFrom]
  cases base <;> simp [Builtin.append_, run_underlying ht, sizeOf, typeInfo, hi, Builtin.lenOf, hc, hf, storeCells]

theorem size_zeroC (z : Array Value) (n : Nat) : (Builtin.zeroCells z n).size = n * z.size := by simp [Builtin.zeroCells]

/-- Appending, whatever the way. -/
theorem run_append_ways {P : Program} {w : World} (t ty e : TypeId) (i : TypeInfo) (z : Value) (ht : P.underlying t = some (.slice e)) (hi : P.info? e = some i) (hz : i.zero = some z) (hzs : z.cells.size = i.size)
    {v : Value} {n : Nat} {olds : List Value}
    (hv : (v = .slice none 0 0 ∧ n = 0 ∧ olds = []) ∨ ∃ β c arr bt, v = .slice (some ⟨β, 0, none⟩) n c ∧ w.heap[β]? = some (.cells arr bt (0, 0)) ∧ arr.size = c * i.size ∧ n ≤ c ∧ c ≤ maxLen ∧ arr.toList.take (n * i.size) = olds)
    {ao : Option Addr} {m c' : Nat} {vs : List Value} (hl : vs.length = m * i.size) (hsrc : m = 0 ∨ ∃ ad, ao = some ad ∧ ∀ j u, vs[j]? = some u → w.cell? (ad.add j) = some u) (h1 : ∀ u ∈ vs, u.oneCell' = true)
    (hb1 : n + m ≤ 4294967296) (hb2 : (n + m) * i.bytes ≤ 140737488355328) :
    ∃ v' w', (Builtin.append_ #[t, t] ty #[v, .slice ao m c']).run P w = .ok v' w' ∧
      ((m = 0 ∧ v' = v ∧ w' = w) ∨
       (∃ β c arr bt arr', v = .slice (some ⟨β, 0, none⟩) n c ∧ w.heap[β]? = some (.cells arr bt (0, 0)) ∧ v' = .slice (some ⟨β, 0, none⟩) (n + m) c ∧ n + m ≤ c ∧ c ≤ maxLen ∧ w' = w.setRow β arr' ∧ arr'.size = c * i.size ∧ arr'.toList.take ((n + m) * i.size) = olds ++ vs) ∨
       (∃ c arr', v' = .slice (some ⟨w.heap.size, 0, none⟩) (n + m) c ∧ n + m ≤ c ∧ c ≤ maxLen ∧ w' = w.drew.alloc (.cells arr' e) ∧ arr'.size = c * i.size ∧ arr'.toList.take ((n + m) * i.size) = olds ++ vs)) := by
  by_cases hm : m = 0
  · subst hm
    rcases hv with ⟨rfl, rfl, rfl⟩ | ⟨β, c, arr, bt, rfl, h2, h3, h4, h5, h6⟩
    · exact ⟨_, w, run_append_zero t ty e i ht hi none 0 0 (Nat.le_refl _) ao c', .inl ⟨rfl, rfl, rfl⟩⟩
    · exact ⟨_, w, run_append_zero t ty e i ht hi _ n c h4 ao c', .inl ⟨rfl, rfl, rfl⟩⟩
  · rcases hsrc with h | ⟨ad, rfl, hc⟩
    · exact absurd h hm
    · rcases hv with ⟨rfl, rfl, rfl⟩ | ⟨β, c, arr, bt, rfl, h2, h3, h4, h5, h6⟩
      · rw [Nat.zero_add] at hb1 hb2
        have hr := run_append_nil (P := P) w t ty e i z ht hi hz ad m c' vs hl hc (by omega) (by omega) (by omega)
        refine ⟨_, _, hr, .inr (.inr ⟨_, _, by rw [Nat.zero_add], ?_, ?_, rfl, ?_, ?_⟩)⟩
        · rw [Nat.zero_add]; exact grownCap_ge w m 0 e
        · exact grownCap_le_maxLen w m 0 e (by unfold maxLen; omega)
        · have := grownCap_ge w m 0 e
          rw [Array.size_append, size_zeroC, hzs, Nat.sub_mul]
          have : m * i.size ≤ grownCap w m 0 e * i.size := Nat.mul_le_mul_right _ this
          simp only [List.size_toArray]
          omega
        · rw [Nat.zero_add, List.nil_append, Array.toList_append, List.take_append_of_le_length (by simp; omega)]
          rw [List.take_of_length_le (by simp; omega)]
      · have hsub : n * i.size ≤ c * i.size := Nat.mul_le_mul_right _ h4
        by_cases hroom : n + m ≤ c
        · have hfit : (n + m) * i.size ≤ c * i.size := Nat.mul_le_mul_right _ hroom
          rw [Nat.add_mul] at hfit
          have hr := run_append_room' (P := P) t ty e bt i ht hi β n c arr h2 ad m c' vs hl hc h1 hroom (by omega)
          refine ⟨_, _, hr, .inr (.inl ⟨β, c, arr, bt, _, rfl, h2, rfl, hroom, h5, rfl, ?_, ?_⟩)⟩
          · simp; omega
          · rw [h6]
            have hol : olds.length = n * i.size := by rw [← h6]; simp; omega
            rw [List.take_append_of_le_length (by simp [hol, hl, Nat.add_mul]), List.take_of_length_le (by simp [hol, hl, Nat.add_mul])]
        · have hol : olds.length = n * i.size := by rw [← h6]; simp; omega
          have hr := run_append_grow (P := P) w t ty e i z ht hi hz ⟨β, 0, none⟩ n c olds hol (fun j u hu => by
            have hj : j < n * i.size := by
              rcases Nat.lt_or_ge j (n * i.size) with h' | h'
              · exact h'
              · rw [List.getElem?_eq_none (by omega)] at hu; cases hu
            rw [← h6, List.getElem?_take_of_lt hj] at hu
            rw [Addr.add_lit, Nat.zero_add]
            simp only [World.cell?, h2]
            simpa using hu) ad m c' vs hl hc (by omega) (by omega) (growslice_fits (by omega) hb2)
          refine ⟨_, _, hr, .inr (.inr ⟨_, _, rfl, grownCap_ge w _ _ e, ?_, rfl, ?_, ?_⟩)⟩
          · exact grownCap_le_maxLen w _ _ e (by unfold maxLen; omega)
          · have h9 := grownCap_ge w (n + m) c e
            have : (n + m) * i.size ≤ grownCap w (n + m) c e * i.size := Nat.mul_le_mul_right _ h9
            rw [Array.size_append, Array.size_append, size_zeroC, hzs, Nat.sub_mul]
            simp only [List.size_toArray]
            rw [Nat.add_mul] at *
            omega
          · rw [Array.toList_append, Array.toList_append]
            simp only
            rw [List.take_append_of_le_length (by simp [hol, hl, Nat.add_mul]), List.take_of_length_le (by simp [hol, hl, Nat.add_mul])]
end Go.Proofs.Ytjfcjkeghigipaa

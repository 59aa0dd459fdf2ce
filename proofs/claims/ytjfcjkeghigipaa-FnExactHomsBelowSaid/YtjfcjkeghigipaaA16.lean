/-
  A slice of the call's own taken up into a cell of another; facts read off a state. No program stands in this text.
-/
import Derived.Test.YtjfcjkeghigipaaA15
namespace Go.Proofs.Ytjfcjkeghigipaa
open Go.RowKit

theorem ent_absorb {s : AState} {b b' i j n k' : Nat} {blk blk' : Blk} {cs : List AV} {es' : List (List AV)} (hb : s.heap b = some blk) (hi : blk.es[i]? = some cs) (hj : cs[j]? = some (.own b' 0 n)) (hb' : s.heap b' = some blk') (hne : Nat.beq b b' = false) (hn : blk'.es.length = n) (hk : blk'.k = k') (hf : All2 (All2 frz0) blk'.es es') :
    Ent s ⟨s.env, editHp [(b', none), (b, some ⟨blk.k, blk.es.set i (cs.take j ++ [.abs k' es'] ++ cs.drop (j + 1))⟩)] s.heap, s.used, s.ns, s.kp⟩ := by
  intro C ν a w hs
  have hne' : b ≠ b' := by rintro rfl; rw [beq_self] at hne; cases hne
  obtain ⟨φ, hh⟩ := hs.heap
  obtain ⟨hub, ⟨hk1, hx1⟩, hnd1, hB1⟩ := hh.blk b blk hb
  obtain ⟨hub', ⟨hk2, hx2⟩, hnd2, hB2⟩ := hh.blk b' blk' hb'
  have hcs := hk1 cs (List.mem_of_getElem? hi)
  have hjl : j < cs.length := by
    rcases Nat.lt_or_ge j cs.length with h' | h'
    · exact h'
    · rw [List.getElem?_eq_none h'] at hj; cases hj
  rcases hx1 with ⟨q1, q2, _⟩ | ⟨β, c, arr, ty, T, vs, q1, q2, q3, q4, q5, q6, q7, q8⟩
  · rw [q2] at hi; simp at hi
  · have hext : Ext w s.heap s.used ν w (editHp [(b', none), (b, some ⟨blk.k, blk.es.set i (cs.take j ++ [.abs k' es'] ++ cs.drop (j + 1))⟩)] s.heap) s.used ν := by
      refine ⟨fun _ h => h, fun b2 blk2 _ hb2 => ?_, fun x hx hfr => ⟨rfl, fun b2 blk2 β2 c2 hb2 hν2 => ?_⟩⟩
      · simp only [editHp] at hb2
        by_cases e : b2 = b'
        · subst e; rw [beq_self] at hb2; cases hb2
        · rw [beq_ne e] at hb2
          by_cases e2 : b2 = b
          · subst e2
            simp only [cond_false, beq_self, cond_true, Option.some.injEq] at hb2
            subst hb2
            exact ⟨blk, hb, rfl, by simp, rfl⟩
          · rw [beq_ne e2] at hb2
            exact ⟨blk2, hb2, rfl, rfl, rfl⟩
      · simp only [editHp] at hb2
        by_cases e : b2 = b'
        · subst e; rw [beq_self] at hb2; cases hb2
        · rw [beq_ne e] at hb2
          by_cases e2 : b2 = b
          · subst e2; exact hfr b2 blk β2 c2 hb hν2
          · rw [beq_ne e2] at hb2
            exact hfr b2 blk2 β2 c2 hb2 hν2
    -- the cell in the middle
    have hdrop : blk.es.flatten.drop (i * blk.k + j) = .own b' 0 n :: blk.es.flatten.drop (i * blk.k + j + 1) := by
      obtain ⟨r, hr⟩ := flatten_at hk1 hi
      have h1 : blk.es.flatten.drop (i * blk.k + j) = (cs ++ r).drop j := by rw [← hr, List.drop_drop]
      have h2 : blk.es.flatten.drop (i * blk.k + j + 1) = (cs ++ r).drop (j + 1) := by rw [← hr, List.drop_drop, Nat.add_assoc]
      rw [h1, h2, List.drop_append_of_le_length (by omega), List.drop_append_of_le_length (by omega), List.drop_eq_getElem_cons hjl]
      have : cs[j] = .own b' 0 n := by simpa [hjl] using hj
      rw [this]; rfl
    have hfl : blk.es.flatten = blk.es.flatten.take (i * blk.k + j) ++ ([.own b' 0 n] ++ blk.es.flatten.drop (i * blk.k + j + 1)) := by
      rw [List.singleton_append, ← hdrop, List.take_append_drop]
    rw [hfl] at q8
    obtain ⟨v1, v2, S1, S2, e1, e2, e3, e4, e5⟩ := q8.append_inv
    obtain ⟨v3, v4, S3, S4, f1, f2, f3, f4, f5⟩ := e5.append_inv
    subst f1 f2
    obtain ⟨v, r0, S5, S6, rfl, rfl, g1, ⟨rfl, rfl⟩⟩ := f4
    simp only [CellRep, Rep1] at g1
    obtain ⟨⟨_, g2⟩, rfl⟩ := g1
    obtain ⟨g3, g4, g5⟩ := g2 blk' hb'
    have hlen' : es'.length = n := by rw [hf.len, hn]
    -- what the block b' holds, as data
    have hdata : RepO w (.list k' es') v (φ b') := by
      rcases hx2 with ⟨p1, p2, p3⟩ | ⟨β', c', arr', ty', T', vs', p1, p2, p3, p4, p5, p6, p7, p8⟩
      · rw [p2] at hf
        simp only [All2] at hf
        subst hf
        rw [g4 p1, p3]
        exact repO_nil
      · have r1 := frz0_cells p8 (all2_flatten hf)
        have h0 := (g5 β' c' p1).zero
        rw [h0, p6]
        exact repO_list.2 (.inr ⟨β', c', arr', ty', T', vs', by rw [hlen'], p2, by rw [← hk]; exact p3, by rw [hlen', ← hn]; exact p4, p5, by rw [← hk]; exact all2_lens hf hk2, rfl, by rw [hlen', ← hn, ← hk]; exact p7, r1⟩)
    have hφ : φ b = β :: (S1 ++ S4) := by rw [q6, e2]; simp
    have hapart : ∀ y ∈ φ b', y ∉ φ b := fun y hy hy2 => hh.apart b b' y (by rw [hb]; simp) (by rw [hb']; simp) hne' hy2 hy
    refine ⟨ν, hs.below, hs.base, hs.fresh, hs.defers, hs.size, fun t x hx => by obtain ⟨v, h1, h2⟩ := hs.env t x hx; exact ⟨v, h1, h2.ext hext⟩, ⟨fun x => bif Nat.beq x b then β :: (S1 ++ (φ b' ++ S4)) else φ x, ?_, ?_⟩, hs.kp, hs.ext.trans hext⟩
    · intro x blk2 hx
      simp only [editHp] at hx
      by_cases e : x = b'
      · subst e; rw [beq_self] at hx; cases hx
      · rw [beq_ne e] at hx
        by_cases e0 : x = b
        · subst e0
          simp only [cond_false, beq_self, cond_true, Option.some.injEq] at hx
          subst hx
          simp only [beq_self, cond_true]
          refine ⟨hub, ⟨?_, .inr ⟨β, c, arr, ty, S1 ++ (φ b' ++ S4), vs, q1, q2, q3, by simpa using q4, q5, rfl, by simpa using q7, ?_⟩⟩, ?_, ?_⟩
          · intro d hd
            rcases List.mem_or_eq_of_mem_set hd with h | h
            · exact hk1 d h
            · rw [h]; simp; omega
          · rw [set_flatten_y (n := 1) hk1 hi rfl (by omega), e1]
            have m1 : ∀ g : Hp, CellsRep w g s.used ν [.abs k' es'] [v] (φ b') := fun g => ⟨v, [], φ b', [], rfl, by simp, hdata, rfl, rfl⟩
            have m2 := (e4.ext hext (fun _ _ => rfl)).append ((m1 _).append (f5.ext hext (fun _ _ => rfl)))
            rw [List.append_assoc (List.take (i * blk.k + j) blk.es.flatten)]
            exact m2
          · rw [hφ] at hnd1
            have hn1 := List.nodup_cons.1 hnd1
            have hn2 := List.nodup_append.1 hn1.2
            refine List.nodup_cons.2 ⟨fun hm => ?_, List.nodup_append.2 ⟨hn2.1, List.nodup_append.2 ⟨hnd2, hn2.2.1, fun x hx y hy e => ?_⟩, fun x hx y hy e => ?_⟩⟩
            · rcases List.mem_append.1 hm with h | h
              · exact hn1.1 (List.mem_append_left _ h)
              · rcases List.mem_append.1 h with h | h
                · exact hapart β h (by rw [hφ]; simp)
                · exact hn1.1 (List.mem_append_right _ h)
            · subst e; exact hapart x hx (by rw [hφ]; simp [hy])
            · subst e
              rcases List.mem_append.1 hy with h | h
              · exact hapart x h (by rw [hφ]; simp [hx])
              · exact hn2.2.2 x hx x h rfl
          · intro y hy
            rcases List.mem_cons.1 hy with rfl | h
            · exact hB1 y (by rw [hφ]; simp)
            · rcases List.mem_append.1 h with h | h
              · exact hB1 y (by rw [hφ]; simp [h])
              · rcases List.mem_append.1 h with h | h
                · exact hB2 y h
                · exact hB1 y (by rw [hφ]; simp [h])
        · rw [beq_ne e0] at hx
          simp only [beq_ne e0, cond_false]
          obtain ⟨p1, p2, p3, p4⟩ := hh.blk x blk2 hx
          exact ⟨p1, p2.ext hext rfl (fun _ _ => rfl), p3, p4⟩
    · have hsub : ∀ x y, editHp [(b', none), (b, some ⟨blk.k, blk.es.set i (cs.take j ++ [.abs k' es'] ++ cs.drop (j + 1))⟩)] s.heap x ≠ none → y ∈ (bif Nat.beq x b then β :: (S1 ++ (φ b' ++ S4)) else φ x) → x ≠ b' ∧ s.heap x ≠ none ∧ (y ∈ φ x ∨ (x = b ∧ y ∈ φ b')) := by
        intro x y hx hy
        have hxb' : x ≠ b' := by rintro rfl; simp [editHp] at hx
        simp only [editHp, beq_ne hxb', cond_false] at hx
        by_cases e0 : x = b
        · subst e0
          simp only [beq_self, cond_true] at hy
          refine ⟨hxb', by rw [hb]; simp, ?_⟩
          rcases List.mem_cons.1 hy with rfl | h
          · exact .inl (by rw [hφ]; simp)
          · rcases List.mem_append.1 h with h | h
            · exact .inl (by rw [hφ]; simp [h])
            · rcases List.mem_append.1 h with h | h
              · exact .inr ⟨rfl, h⟩
              · exact .inl (by rw [hφ]; simp [h])
        · rw [beq_ne e0] at hx
          simp only [beq_ne e0, cond_false] at hy
          exact ⟨hxb', hx, .inl hy⟩
      intro x1 x2 y hx1 hx2 hne2 hy1 hy2
      obtain ⟨a1, a2, a3⟩ := hsub x1 y hx1 hy1
      obtain ⟨c1, c2, c3⟩ := hsub x2 y hx2 hy2
      have hb'n : s.heap b' ≠ none := by rw [hb']; simp
      rcases a3 with a3 | ⟨rfl, a3⟩ <;> rcases c3 with c3 | ⟨rfl, c3⟩
      · exact hh.apart x1 x2 y a2 c2 hne2 a3 c3
      · exact hh.apart x1 b' y a2 hb'n a1 a3 c3
      · exact hh.apart b' x2 y hb'n c2 (Ne.symm c1) a3 c3
      · exact hne2 rfl

theorem ent_absorb' {s : AState} {b b' i j n k' : Nat} {blk blk' : Blk} {cs : List AV} {es' : List (List AV)} (hb : s.heap b = some blk) (hi : blk.es[i]? = some cs) (hj : cs[j]? = some (.own b' 0 n)) (hb' : s.heap b' = some blk') (hne : Nat.beq b b' = false) (hn : blk'.es.length = n) (hk : blk'.k = k') (hf : All2 (All2 frz0) blk'.es es') :
    Ent s ⟨s.env, editHp [(b', none), (b, some ⟨blk.k, blk.es.set i (setR cs j [.abs k' es'])⟩)] s.heap, s.used, s.ns, s.kp⟩ := by
  have hjl : j < cs.length := by
    rcases Nat.lt_or_ge j cs.length with h' | h'
    · exact h'
    · rw [List.getElem?_eq_none h'] at hj; cases hj
  rw [← setR_eq (by simp; omega)]
  exact ent_absorb hb hi hj hb' hne hn hk hf

theorem m_int {σ : Nat → Option Nat} {n : Nat} {a b : Int} (h : a = b) : matchA σ n (.int a) (.int b) := by subst h; rfl

theorem plain_of {es : List (List AV)} (h : (es.all fun cs => cs.all nameless) = true) : plainEs es := fun cs hcs c hc => List.all_eq_true.1 (List.all_eq_true.1 h cs hcs) c hc

/-! ## what is known of a list -/
/-- A list in a cell of a block. -/
theorem ac_len2 {P : Program} {nt : Nat} {c : Code} {s : AState} {Q : Exit → AState → Prop} {b i j k : Nat} {blk : Blk} {cs : List AV} {es : List (List AV)} (hb : s.heap b = some blk) (hi : blk.es[i]? = some cs) (hj : cs[j]? = some (.list k es)) (H : es.length ≤ maxLen → AC P nt c s Q) : AC P nt c s Q := by
  refine ⟨fun C hC ν a w hs => ?_⟩
  obtain ⟨φ, hh⟩ := hs.heap
  have hjl : j < cs.length := by
    rcases Nat.lt_or_ge j cs.length with h' | h'
    · exact h'
    · rw [List.getElem?_eq_none h'] at hj; cases hj
  obtain ⟨β, c0, vs, e1, e2, e3, e4, e5⟩ := hh.cells (j := j) (n := 1) hb hi (by omega)
  have hd : (cs.drop j).take 1 = [.list k es] := by
    have : cs[j] = .list k es := by simpa [hjl] using hj
    rw [List.drop_eq_getElem_cons hjl, this]; rfl
  rw [hd] at e3
  obtain ⟨v, r, _, e6, _⟩ := e3
  simp only [view, Rep1, RepD] at e6
  obtain ⟨S, ⟨ao, c', h3, h4, h5, h6⟩, h7⟩ := e6
  exact (H (by omega)).out C hC ν a w hs
theorem ac_len {P : Program} {nt : Nat} {c : Code} {s : AState} {Q : Exit → AState → Prop} {t k : Nat} {es : List (List AV)} (h : s.env t = some (.list k es)) (H : es.length ≤ maxLen → AC P nt c s Q) : AC P nt c s Q := by
  refine ⟨fun C hC ν a w hs => ?_⟩
  obtain ⟨v, h1, h2⟩ := hs.env t _ h
  simp only [RepA, RepB, Rep1, RepD] at h2
  obtain ⟨S, ⟨ao, c', h3, h4, h5, h6⟩, h7⟩ := h2
  exact (H (by omega)).out C hC ν a w hs
end Go.Proofs.Ytjfcjkeghigipaa

/-
  The effect of append; slices of slices; parts of structs. No program stands in this text.
-/
import Derived.Test.YtjfcjkeghigipaaA8
namespace Go.Proofs.Ytjfcjkeghigipaa
open Go.RowKit

theorem used_app {s : AState} {dst : Option Tmp} {v : AV} {t : List Nat} {ed : List (Nat × Option Blk)} {b : Nat} : (s.app dst ⟨v, t, ed, [b]⟩).used b = true := by simp [AState.app, addUs]

theorem heapOk_swap {B : Nat → Prop} {w w' : World} {h h' : Hp} {u u' : Us} {ν ν' : Nu} {φ : Nat → List Nat} {kb : Option Nat} {b' : Nat} {blk' : Blk} {F : List Nat} (hh : HeapOk B w h u ν φ) (ext : Ext w h u ν w' h' u' ν') (hu' : u' b' = true)
    (hh' : ∀ b2 blk2, h' b2 = some blk2 → (b2 = b' ∧ blk2 = blk') ∨ (b2 ≠ b' ∧ some b2 ≠ kb ∧ h b2 = some blk2)) (hν' : ∀ b2, b2 ≠ b' → ν' b2 = ν b2)
    (hsame : ∀ b2 blk2 x, h b2 = some blk2 → some b2 ≠ kb → x ∈ φ b2 → w'.heap[x]? = w.heap[x]?)
    (hb : BlkOk w' h' u' ν' b' blk' F) (hn : F.Nodup) (hB : ∀ x ∈ F, B x) (hF : ∀ x ∈ F, (∃ b, kb = some b ∧ h b ≠ none ∧ x ∈ φ b) ∨ w.heap.size ≤ x) : ∃ φ, HeapOk B w' h' u' ν' φ := by
  have key : ∀ b2, h' b2 ≠ none → b2 ≠ b' → some b2 ≠ kb ∧ h b2 ≠ none := by
    intro b2 h1 h2
    cases hq : h' b2 with
    | none => exact absurd hq h1
    | some blk2 =>
      rcases hh' b2 blk2 hq with ⟨e, _⟩ | ⟨_, e2, e3⟩
      · exact absurd e h2
      · exact ⟨e2, by rw [e3]; simp⟩
  have far : ∀ b2 x, h' b2 ≠ none → b2 ≠ b' → x ∈ φ b2 → x ∉ F := by
    intro b2 x h1 h2 hx hxF
    obtain ⟨k1, k2⟩ := key b2 h1 h2
    rcases hF x hxF with ⟨b, e1, e2, e3⟩ | e
    · exact hh.apart b2 b x k2 e2 (by rintro rfl; exact k1 e1.symm) hx e3
    · cases hq : h b2 with
      | none => exact k2 hq
      | some blk2 => have := (hh.blk b2 blk2 hq).2.1.lt x hx; omega
  refine ⟨fun x => bif Nat.beq x b' then F else φ x, ?_, ?_⟩
  · intro x blk hx
    by_cases e : x = b'
    · subst e
      simp only [beq_self, cond_true]
      rcases hh' x blk hx with ⟨_, rfl⟩ | ⟨e, _⟩
      · exact ⟨hu', hb, hn, hB⟩
      · exact absurd rfl e
    · simp only [beq_ne e, cond_false]
      rcases hh' x blk hx with ⟨e2, _⟩ | ⟨_, e2, e3⟩
      · exact absurd e2 e
      · obtain ⟨g1, g2, g3, g4⟩ := hh.blk x blk e3
        exact ⟨ext.used x g1, g2.ext ext (hν' x e) (fun y hy => hsame x blk y e3 e2 hy), g3, g4⟩
  · intro x y z hx hy hne hzx hzy
    by_cases ex : x = b'
    · subst ex
      have ey : y ≠ x := fun e => hne e.symm
      simp only [beq_self, cond_true] at hzx
      simp only [beq_ne ey, cond_false] at hzy
      exact far y z hy ey hzy hzx
    · simp only [beq_ne ex, cond_false] at hzx
      by_cases ey : y = b'
      · subst ey
        simp only [beq_self, cond_true] at hzy
        exact far x z hx ex hzx hzy
      · simp only [beq_ne ey, cond_false] at hzy
        exact hh.apart x y z (key x hx ex).2 (key y hy ey).2 hne hzx hzy

section
variable {P : Program} {T : List (Nat × Ty)} (hT : TyOk P T) {dst : Option Tmp} {ty : TypeId} {pos : String} {aft : Array Edge} {g : Option (Nat × Bool)} {ins : Operand → Option AV} {hp : Hp}

/-- The state behind an append. -/
theorem Sim.append {C : Ctx} {s : AState} {ν : Nu} {a : Act} {w : World} (hs : Sim C s ν a w) (hd : ∀ d, dst = some d → d < C.nt) {t ty e : TypeId} {i : TypeInfo} {z : Value} (ht : P.underlying t = some (.slice e)) (hi : P.info? e = some i) (hz : i.zero = some z) (hzs : z.cells.size = i.size)
    {kb : Option Nat} {b' : Nat} {es0 news : List (List AV)} {v : Value} {sv : Value} (hu' : s.used b' = false)
    (hdst : (kb = none ∧ es0 = [] ∧ v = .slice none 0 0) ∨ ∃ b blk, kb = some b ∧ s.heap b = some blk ∧ blk = ⟨i.size, es0⟩ ∧ RepA w s.heap s.used ν (.own b 0 es0.length) v)
    {ao : Option Addr} {c' : Nat} {vs : List Value} (hsv : sv = .slice ao news.length c') (hnk : ∀ cs ∈ news, cs.length = i.size) (hvl : vs.length = news.length * i.size) (hcells : CellsRep w s.heap s.used ν news.flatten vs []) (h1 : ∀ u ∈ vs, u.oneCell' = true)
    (hsrc : news.length = 0 ∨ ∃ ad, ao = some ad ∧ ∀ j u, vs[j]? = some u → w.cell? (ad.add j) = some u) (hb1 : es0.length + news.length ≤ 4294967296) (hb2 : (es0.length + news.length) * i.bytes ≤ 140737488355328)
    {edits : List (Nat × Option Blk)} {touch : List Nat} (hed : ∀ b2 blk2, editHp edits s.heap b2 = some blk2 → (b2 = b' ∧ blk2 = ⟨i.size, es0 ++ news⟩) ∨ (b2 ≠ b' ∧ some b2 ≠ kb ∧ s.heap b2 = some blk2))
    (hnew : editHp edits s.heap b' = some ⟨i.size, es0 ++ news⟩) :
    ∃ v' w' ν', (Builtin.append_ #[t, t] ty #[v, sv]).run P w = .ok v' w' ∧ Sim C (s.app dst ⟨.own b' 0 (es0.length + news.length), touch, edits, [b']⟩) ν' (a.put dst v') w' := by
  subst hsv
  obtain ⟨φ, hh⟩ := hs.heap
  have hnb : s.heap b' = none := hs.unused hu'
  -- the old block
  have hold : ∃ olds T0, CellsRep w s.heap s.used ν es0.flatten olds T0 ∧ (∀ cs ∈ es0, cs.length = i.size) ∧
      ((v = .slice none 0 0 ∧ es0 = [] ∧ olds = [] ∧ T0 = []) ∨ ∃ b β c arr bt, kb = some b ∧ s.heap b ≠ none ∧ ν b = some (β, c) ∧ φ b = β :: T0 ∧ v = .slice (some ⟨β, 0, none⟩) es0.length c ∧ w.heap[β]? = some (.cells arr bt (0, 0)) ∧ arr.size = c * i.size ∧ es0.length ≤ c ∧ c ≤ maxLen ∧ arr.toList.take (es0.length * i.size) = olds) := by
    rcases hdst with ⟨rfl, rfl, rfl⟩ | ⟨b, blk, rfl, hb, rfl, hr⟩
    · exact ⟨[], [], ⟨rfl, rfl⟩, by simp, .inl ⟨rfl, rfl, rfl, rfl⟩⟩
    · simp only [RepA, RepB, Rep1] at hr
      obtain ⟨r1, r2, r3⟩ := hr.2 _ hb
      obtain ⟨hub, ⟨hk, hx2⟩, hnd, hB⟩ := hh.blk b _ hb
      rcases hx2 with ⟨q1, q2, q3⟩ | ⟨β, c, arr, bt, T0, vs0, q1, q2, q3, q4, q5, q6, q7, q8⟩
      · simp only at q2
        subst q2
        exact ⟨[], [], ⟨rfl, rfl⟩, by simp, .inl ⟨r2 q1, rfl, rfl, rfl⟩⟩
      · have := (r3 β c q1).zero
        exact ⟨vs0, T0, q8, hk, .inr ⟨b, β, c, arr, bt, rfl, by rw [hb]; simp, q1, q6, this, q2, q3, q4, q5, q7⟩⟩
  obtain ⟨olds, T0, ho1, ho2, ho3⟩ := hold
  have hv : (v = .slice none 0 0 ∧ es0.length = 0 ∧ olds = []) ∨ ∃ β c arr bt, v = .slice (some ⟨β, 0, none⟩) es0.length c ∧ w.heap[β]? = some (.cells arr bt (0, 0)) ∧ arr.size = c * i.size ∧ es0.length ≤ c ∧ c ≤ maxLen ∧ arr.toList.take (es0.length * i.size) = olds := by
    rcases ho3 with ⟨e1, e2, e3, e4⟩ | ⟨b, β, c, arr, bt, e1, e2, e3, e4, e5, e6, e7, e8, e9, e10⟩
    · exact .inl ⟨e1, by simp [e2], e3⟩
    · exact .inr ⟨β, c, arr, bt, e5, e6, e7, e8, e9, e10⟩
  obtain ⟨v', w', hrun, hways⟩ := run_append_ways (P := P) (w := w) t ty e i z ht hi hz hzs hv hvl hsrc h1 hb1 hb2
  have hku : ∀ cs ∈ es0 ++ news, cs.length = i.size := by
    intro cs hcs
    rcases List.mem_append.1 hcs with h | h
    · exact ho2 cs h
    · exact hnk cs h
  have hcl : CellsRep w s.heap s.used ν (es0 ++ news).flatten (olds ++ vs) T0 := by
    have := ho1.append hcells
    rw [List.append_nil] at this
    rw [List.flatten_append]
    exact this
  have hT0 : T0 = [] ∨ ∃ b β, kb = some b ∧ s.heap b ≠ none ∧ φ b = β :: T0 := by
    rcases ho3 with ⟨_, _, _, e4⟩ | ⟨b, β, c, arr, bt, e1, e2, e3, e4, _⟩
    · exact .inl e4
    · exact .inr ⟨b, β, e1, e2, e4⟩
  have hnd0 : ∀ b β, s.heap b ≠ none → φ b = β :: T0 → (β :: T0).Nodup ∧ ∀ x ∈ β :: T0, C.M x := by
    intro b β hb hφ
    cases hq : s.heap b with
    | none => exact absurd hq hb
    | some blk => obtain ⟨_, _, g3, g4⟩ := hh.blk b blk hq; rw [hφ] at g3 g4; exact ⟨g3, g4⟩
  have hνd : ∀ (X : Option (Nat × Nat)) b2, b2 ≠ b' → updν b' X ν b2 = ν b2 := fun X b2 hne => by simp [updν, beq_ne hne]
  have hold2 : ∀ (X : Option (Nat × Nat)) b2 blk', s.used b2 = true → editHp edits s.heap b2 = some blk' → ∃ blk, s.heap b2 = some blk ∧ blk.k = blk'.k ∧ blk.es.length = blk'.es.length ∧ updν b' X ν b2 = ν b2 := by
    intro X b2 blk' hu2 hb2
    have hne : b2 ≠ b' := by rintro rfl; rw [hu'] at hu2; cases hu2
    rcases hed b2 blk' hb2 with ⟨e, _⟩ | ⟨_, _, e⟩
    · exact absurd e hne
    · exact ⟨blk', e, rfl, rfl, hνd X b2 hne⟩
  have hub' : addUs [b'] s.used b' = true := by simp [addUs]
  have hus : ∀ b2, s.used b2 = true → addUs [b'] s.used b2 = true := fun b2 h => by simp [addUs, h]
  -- which way
  rcases hways with ⟨w1, rfl, rfl⟩ | ⟨β, c, arr, bt, arr', w1, w2, rfl, w4, w5, rfl, w7, w8⟩ | ⟨c, arr', rfl, w2, w3, rfl, w5, w6⟩
  · -- nothing comes
    have hnil : news = [] := List.eq_nil_of_length_eq_zero w1
    subst hnil
    have hvs : vs = [] := by simpa using hvl
    subst hvs
    rcases ho3 with ⟨e1, e2, e3, e4⟩ | ⟨b, β, c, arr, bt, e1, e2, e3, e4, e5, e6, e7, e8, e9, e10⟩
    · subst e2 e3 e4
      have ext : Ext w' s.heap s.used ν w' (editHp edits s.heap) (addUs [b'] s.used) (updν b' none ν) :=
        ⟨hus, hold2 none, fun x hx hf => ⟨rfl, fun b2 blk2 β2 c2 hb2 hν2 => by
          rcases hed b2 blk2 hb2 with ⟨e, _⟩ | ⟨e, _, e'⟩
          · subst e; simp [updν] at hν2
          · rw [hνd none b2 e] at hν2; exact hf b2 blk2 β2 c2 e' hν2⟩⟩
      refine ⟨v', w', updν b' none ν, hrun, hs.step hd ext (Below.refl _ _) (heapOk_swap (F := []) hh ext hub' hed (hνd none) (fun _ _ _ _ _ _ => rfl) ⟨by simp, .inl ⟨by simp [updν], rfl, rfl⟩⟩ (by simp) (by simp) (by simp)) rfl ?_⟩
      simp only [RepA, RepB, Rep1]
      refine ⟨hub', fun blk hb => ?_⟩
      replace hb : editHp edits s.heap b' = some blk := hb
      rw [hnew] at hb
      cases hb
      refine ⟨by simp, fun _ => e1, fun β2 c2 hν2 => by simp [updν] at hν2⟩
    · have ext : Ext w' s.heap s.used ν w' (editHp edits s.heap) (addUs [b'] s.used) (updν b' (some (β, c)) ν) :=
        ⟨hus, hold2 _, fun x hx hf => ⟨rfl, fun b2 blk2 β2 c2 hb2 hν2 => by
          rcases hed b2 blk2 hb2 with ⟨e, _⟩ | ⟨e, _, e'⟩
          · subst e
            simp only [updν, beq_self, cond_true, Option.some.injEq, Prod.mk.injEq] at hν2
            cases hq : s.heap b with
            | none => exact absurd hq e2
            | some blk => rw [← hν2.1]; exact hf b blk β c hq e3
          · rw [hνd _ b2 e] at hν2; exact hf b2 blk2 β2 c2 e' hν2⟩⟩
      obtain ⟨n1, n2⟩ := hnd0 b β e2 e4
      refine ⟨v', w', updν b' (some (β, c)) ν, hrun, hs.step hd ext (Below.refl _ _) (heapOk_swap (F := β :: T0) hh ext hub' hed (hνd _) (fun _ _ _ _ _ _ => rfl)
        ⟨hku, .inr ⟨β, c, arr, bt, T0, olds ++ [], by simp [updν], e6, e7, by simpa using e8, e9, rfl, by simpa using e10, hcl.ext ext (fun _ _ => rfl)⟩⟩ n1 n2 (fun x hx => .inl ⟨b, e1, e2, by rw [e4]; exact hx⟩)) rfl ?_⟩
      simp only [RepA, RepB, Rep1]
      refine ⟨hub', fun blk hb => ?_⟩
      replace hb : editHp edits s.heap b' = some blk := hb
      rw [hnew] at hb
      cases hb
      refine ⟨by simp, fun hno => by simp [updν] at hno, fun β2 c2 hν2 => ?_⟩
      simp only [updν, beq_self, cond_true, Option.some.injEq, Prod.mk.injEq] at hν2
      obtain ⟨rfl, rfl⟩ := hν2
      exact ⟨0, by simpa using e5, .inl (by simp)⟩
  · -- in place
    rcases ho3 with ⟨e1, _⟩ | ⟨b, β2, c2, arr2, bt2, e1, e2, e3, e4, e5, e6, e7, e8, e9, e10⟩
    · rw [e1] at w1; simp at w1
    · rw [e5] at w1
      simp only [Value.slice.injEq, Option.some.injEq, Addr.mk.injEq] at w1
      obtain ⟨⟨rfl, _⟩, _, rfl⟩ := w1
      have hothers : ∀ x, x ≠ β2 → (w.setRow β2 arr').heap[x]? = w.heap[x]? := fun x hx => heap_setRow_ne hx
      have ext : Ext w s.heap s.used ν (w.setRow β2 arr') (editHp edits s.heap) (addUs [b'] s.used) (updν b' (some (β2, c2)) ν) := by
        obtain ⟨blk, hq⟩ := Option.ne_none_iff_exists'.1 e2
        exact ⟨hus, hold2 _, fun x hx hf => ⟨hothers x (fun e => hf b blk β2 c2 hq e3 e.symm), fun b2 blk2 β3 c3 hb2 hν2 => by
          rcases hed b2 blk2 hb2 with ⟨e, _⟩ | ⟨e, _, e'⟩
          · subst e
            simp only [updν, beq_self, cond_true, Option.some.injEq, Prod.mk.injEq] at hν2
            rw [← hν2.1]; exact hf b blk β2 c2 hq e3
          · rw [hνd _ b2 e] at hν2; exact hf b2 blk2 β3 c3 e' hν2⟩⟩
      obtain ⟨n1, n2⟩ := hnd0 b β2 e2 e4
      refine ⟨_, _, updν b' (some (β2, c2)) ν, hrun, hs.step hd ext (below_setRow (C.low _ (n2 β2 (by simp)))) (heapOk_swap (F := β2 :: T0) hh ext hub' hed (hνd _) (fun b2 blk2 x hb2 hkb hx => hothers x ?_)
        ⟨hku, .inr ⟨β2, c2, arr', bt, T0, olds ++ vs, by simp [updν], setRow_heap w β2 arr arr' bt (0, 0) w2, w7, by simpa using w4, w5, rfl, by simpa using w8, hcl.ext ext (fun y hy => hothers y ?_)⟩⟩ n1 n2 (fun x hx => .inl ⟨b, e1, e2, by rw [e4]; exact hx⟩)) rfl ?_⟩
      · rintro rfl
        exact hh.apart b2 b x (by rw [hb2]; simp) e2 (by rintro rfl; exact hkb e1.symm) hx (by rw [e4]; simp)
      · rintro rfl
        exact (List.nodup_cons.1 n1).1 hy
      · simp only [RepA, RepB, Rep1, AState.app]
        refine ⟨hub', fun blk hb => ?_⟩
        replace hb : editHp edits s.heap b' = some blk := hb
        rw [hnew] at hb
        cases hb
        refine ⟨by simp, fun hno => by simp [updν] at hno, fun β3 c3 hν2 => ?_⟩
        simp only [updν, beq_self, cond_true, Option.some.injEq, Prod.mk.injEq] at hν2
        obtain ⟨rfl, rfl⟩ := hν2
        exact ⟨0, by simp, .inl (by simp)⟩
  · -- a new block
    have ext : Ext w s.heap s.used ν (w.drew.alloc (.cells arr' e)) (editHp edits s.heap) (addUs [b'] s.used) (updν b' (some (w.heap.size, c)) ν) :=
      ⟨hus, hold2 _, fun x hx hf => ⟨heap_push (w := w.drew) hx, fun b2 blk2 β3 c3 hb2 hν2 => by
        rcases hed b2 blk2 hb2 with ⟨e, _⟩ | ⟨e, _, e'⟩
        · subst e
          simp only [updν, beq_self, cond_true, Option.some.injEq, Prod.mk.injEq] at hν2
          omega
        · rw [hνd _ b2 e] at hν2; exact hf b2 blk2 β3 c3 e' hν2⟩⟩
    have hlt0 : ∀ y ∈ T0, y < w.heap.size := hcl.lt
    have hFn : (w.heap.size :: T0).Nodup := by
      refine List.nodup_cons.2 ⟨fun hm => by have := hlt0 _ hm; omega, ?_⟩
      rcases hT0 with rfl | ⟨b, β, _, q2, q3⟩
      · simp
      · exact (List.nodup_cons.1 (hnd0 b β q2 q3).1).2
    have hFB : ∀ x ∈ w.heap.size :: T0, C.M x := by
      intro x hx
      rcases List.mem_cons.1 hx with rfl | h
      · exact hs.fresh _ (Nat.le_refl _)
      · rcases hT0 with rfl | ⟨b, β, _, q2, q3⟩
        · cases h
        · exact (hnd0 b β q2 q3).2 x (by simp [h])
    refine ⟨_, _, updν b' (some (w.heap.size, c)) ν, hrun, hs.step hd ext ((⟨rfl, rfl, rfl, Nat.le_refl _, fun _ _ => rfl⟩ : Below C.B w w.drew).alloc hs.base _) (heapOk_swap (F := w.heap.size :: T0) hh ext hub' hed (hνd _) (fun b2 blk2 x hb2 _ hx => heap_push (w := w.drew) ((hh.blk b2 blk2 hb2).2.1.lt x hx))
      ⟨hku, .inr ⟨w.heap.size, c, arr', e, T0, olds ++ vs, by simp [updν], heap_new (w := w.drew), w5, by simpa using w2, w3, rfl, by simpa using w6, hcl.ext ext (fun y hy => heap_push (w := w.drew) (hlt0 y hy))⟩⟩ hFn hFB (fun x hx => ?_)) rfl ?_⟩
    · rcases List.mem_cons.1 hx with rfl | h
      · exact .inr (Nat.le_refl _)
      · rcases hT0 with rfl | ⟨b, β, q1, q2, q3⟩
        · cases h
        · exact .inl ⟨b, q1, q2, by rw [q3]; simp [h]⟩
    · simp only [RepA, RepB, Rep1, AState.app]
      refine ⟨hub', fun blk hb => ?_⟩
      replace hb : editHp edits s.heap b' = some blk := hb
      rw [hnew] at hb
      cases hb
      refine ⟨by simp, fun hno => by simp [updν] at hno, fun β3 c3 hν2 => ?_⟩
      simp only [updν, beq_self, cond_true, Option.some.injEq, Prod.mk.injEq] at hν2
      obtain ⟨rfl, rfl⟩ := hν2
      exact ⟨0, by simp, .inl (by simp)⟩

include hT
theorem eff_append_own {x z : Operand} {t e : Nat} {y ye : Ty} {b b' n k : Nat} {blk : Blk} {sv : AV} {news : List (List AV)} {ts : List Nat} (hy : tyOf T t = some y) (hd : y.desc = .slice e) (hye : tyOf T e = some ye) (hz : ye.zero.length = ye.size) (hx : ins x = some (.own b 0 n)) (hb : hp b = some blk) (hn : blk.es.length = n) (hk : blk.k = ye.size)
    (hxz : ins z = some sv) (hsrc : srcEls hp sv = some (k, news, ts)) (hk2 : k = ye.size) (ok : news.flatten.all (okCell hp) = true) (hb1 : n + news.length ≤ 4294967296) (hb2 : (n + news.length) * ye.bytes ≤ 140737488355328) :
    AEff P ⟨dst, .call ⟨.builtin .append, #[x, z], #[t, t]⟩, ty, pos, aft, g⟩ ins hp ⟨.own b' 0 (n + news.length), b :: (ts ++ namesOf news.flatten), [(b, none), (b', some ⟨ye.size, blk.es ++ news⟩)], [b']⟩ := by
  refine ⟨fun C s ν a w Q K hi' ht hnw hdst hs hK => ?_⟩
  have hu := hnw b' (by simp)
  have h1 := hs.ev ((hi' x (by simp [Op.operands, Call.operands])).trans hx)
  have h2 := hs.ev ((hi' z (by simp [Op.operands, Call.operands])).trans hxz)
  have hb' : s.heap b = some blk := (ht b (by simp)).trans hb
  obtain ⟨ao, c, vs, e1, e2, e3, e4, e5⟩ := hs.src h2 hsrc (fun b hb => ht b (by simp [hb])) ok
  obtain ⟨g1, g2⟩ := okCells.rep ok (fun b hb => ht b (by simp [hb])) e4
  obtain ⟨i1, z1, d1, y1⟩ := hT.is hy
  obtain ⟨i2, z2, d2, y2⟩ := hT.is hye
  have hsz : z2.cells.size = i2.size := by have := zerosB_len y2.zeros; rw [y2.size, ← hz]; simpa using this
  have hne : b ≠ b' := by rintro rfl; have := hs.unused hu; rw [hb'] at this; cases this
  subst hn
  obtain ⟨v', w', ν', hr, hsim⟩ := hs.append (P := P) (dst := dst) hdst (ty := ty) (y1.slice hd) y2.info y2.zero hsz (kb := some b) (b' := b') (es0 := blk.es) (news := news) (v := a.eval x) (sv := a.eval z) hu
    (.inr ⟨b, blk, rfl, hb', by cases blk; simp only at hk; rw [hk, y2.size], h1⟩) e1 (fun cs hcs => by rw [y2.size, ← hk2]; exact e2 cs hcs) (by rw [y2.size, ← hk2]; exact e3) g1 g2 e5 hb1 (by rw [y2.bytes]; exact hb2) (edits := [(b, none), (b', some ⟨ye.size, blk.es ++ news⟩)]) (touch := b :: (ts ++ namesOf news.flatten))
    (fun b2 blk2 h => by
      simp only [editHp] at h
      by_cases q1 : b2 = b
      · subst q1; simp at h
      · rw [beq_ne q1] at h
        by_cases q2 : b2 = b'
        · subst q2
          simp only [cond_false, beq_self, cond_true, Option.some.injEq] at h
          exact .inl ⟨rfl, by rw [← h, y2.size]⟩
        · rw [beq_ne q2] at h
          exact .inr ⟨q2, by simpa using q1, by simpa using h⟩)
    (by simp only [editHp, beq_ne (Ne.symm hne), cond_false, beq_self, cond_true]; rw [y2.size])
  unfold Oper.wp
  have hex : (execOp a.eval ⟨dst, .call ⟨.builtin .append, #[x, z], #[t, t]⟩, ty, pos, aft, g⟩).run P w = .ok (.value v') w' := by
    have : (execOp a.eval ⟨dst, .call ⟨.builtin .append, #[x, z], #[t, t]⟩, ty, pos, aft, g⟩) = (do pure (.value (← Builtin.append_ #[t, t] ty #[a.eval x, a.eval z]))) := by simp [execOp, resolve, invoke, builtin]
    rw [this, Sem.run_bind, hr]
    rfl
  rw [hex]
  simp only [Oper.upon]
  exact hK ν' _ _ hsim

theorem eff_append_nil {x z : Operand} {t e : Nat} {y ye : Ty} {b' k k0 : Nat} {sv : AV} {news : List (List AV)} {ts : List Nat} (hy : tyOf T t = some y) (hd : y.desc = .slice e) (hye : tyOf T e = some ye) (hz : ye.zero.length = ye.size) (hx : ins x = some (.nil k0))
    (hxz : ins z = some sv) (hsrc : srcEls hp sv = some (k, news, ts)) (hk2 : k = ye.size) (ok : news.flatten.all (okCell hp) = true) (hb1 : news.length ≤ 4294967296) (hb2 : news.length * ye.bytes ≤ 140737488355328) :
    AEff P ⟨dst, .call ⟨.builtin .append, #[x, z], #[t, t]⟩, ty, pos, aft, g⟩ ins hp ⟨.own b' 0 news.length, ts ++ namesOf news.flatten, [(b', some ⟨ye.size, news⟩)], [b']⟩ := by
  refine ⟨fun C s ν a w Q K hi' ht hnw hdst hs hK => ?_⟩
  have hu := hnw b' (by simp)
  have h1 := hs.ev ((hi' x (by simp [Op.operands, Call.operands])).trans hx)
  have h2 := hs.ev ((hi' z (by simp [Op.operands, Call.operands])).trans hxz)
  obtain ⟨ao, c, vs, e1, e2, e3, e4, e5⟩ := hs.src h2 hsrc (fun b hb => ht b (by simp [hb])) ok
  obtain ⟨g1, g2⟩ := okCells.rep ok (fun b hb => ht b (by simp [hb])) e4
  obtain ⟨i1, z1, d1, y1⟩ := hT.is hy
  obtain ⟨i2, z2, d2, y2⟩ := hT.is hye
  have hsz : z2.cells.size = i2.size := by have := zerosB_len y2.zeros; rw [y2.size, ← hz]; simpa using this
  simp only [RepA, RepB, Rep1] at h1
  obtain ⟨v', w', ν', hr, hsim⟩ := hs.append (P := P) (dst := dst) hdst (ty := ty) (y1.slice hd) y2.info y2.zero hsz (kb := none) (b' := b') (es0 := []) (news := news) (v := a.eval x) (sv := a.eval z) hu
    (.inl ⟨rfl, rfl, h1⟩) e1 (fun cs hcs => by rw [y2.size, ← hk2]; exact e2 cs hcs) (by rw [y2.size, ← hk2]; exact e3) g1 g2 e5 (by simpa using hb1) (by rw [y2.bytes]; simpa using hb2) (edits := [(b', some ⟨ye.size, news⟩)]) (touch := ts ++ namesOf news.flatten)
    (fun b2 blk2 h => by
      simp only [editHp] at h
      by_cases q2 : b2 = b'
      · subst q2
        simp only [beq_self, cond_true, Option.some.injEq] at h
        exact .inl ⟨rfl, by rw [← h, y2.size]; rfl⟩
      · rw [beq_ne q2] at h
        exact .inr ⟨q2, by simp, by simpa using h⟩)
    (by simp only [editHp, beq_self, cond_true]; rw [y2.size]; rfl)
  unfold Oper.wp
  have hex : (execOp a.eval ⟨dst, .call ⟨.builtin .append, #[x, z], #[t, t]⟩, ty, pos, aft, g⟩).run P w = .ok (.value v') w' := by
    have : (execOp a.eval ⟨dst, .call ⟨.builtin .append, #[x, z], #[t, t]⟩, ty, pos, aft, g⟩) = (do pure (.value (← Builtin.append_ #[t, t] ty #[a.eval x, a.eval z]))) := by simp [execOp, resolve, invoke, builtin]
    rw [this, Sem.run_bind, hr]
    rfl
  rw [hex]
  simp only [Oper.upon]
  refine hK ν' _ _ ?_
  simpa using hsim
end
end Go.Proofs.Ytjfcjkeghigipaa

/-
  Contracts of functions that work on what they are handed (3): the effect of such a call. No program stands in this text.
-/
import Derived.Test.YtjfcjkeghigipaaA21
namespace Go.Proofs.Ytjfcjkeghigipaa
open Go.RowKit
set_option linter.unusedVariables false

section
variable {w : World} {h1 h2 : Hp} {u1 u2 : Us} {ν1 ν2 : Nu} {rl : List Nat} (H : ∀ b ∈ rl, h2 b = h1 b) (N : ∀ b ∈ rl, ν2 b = ν1 b) (U : ∀ b ∈ rl, u2 b = true)
include H N U
theorem tame1_rep {x : AV} {v : Value} (r : Rep1 w h1 u1 ν1 x v) (t : tame1 rl x = true) : Rep1 w h2 u2 ν2 x v := by
  cases x <;> simp only [tame1, Bool.false_eq_true] at t <;> simp only [Rep1] at r ⊢
  · exact r
  · exact r
  · rename_i b i n
    have hb : b ∈ rl := by simpa using t
    refine ⟨U b hb, fun blk hbl => ?_⟩
    rw [H b hb] at hbl
    rw [N b hb]
    exact r.2 blk hbl
  · rename_i b i n
    have hb : b ∈ rl := by simpa using t
    refine ⟨U b hb, fun blk hbl => ?_⟩
    rw [H b hb] at hbl
    rw [N b hb]
    exact r.2 blk hbl
theorem tame1s_rep : ∀ {xs : List AV} {vs : List Value}, All2 (Rep1 w h1 u1 ν1) xs vs → xs.all (tame1 rl) = true → All2 (Rep1 w h2 u2 ν2) xs vs
  | [], vs, r, _ => r
  | x :: xs, vs, ⟨v, q, e, h, k⟩, t => by
    simp only [List.all_cons, Bool.and_eq_true] at t
    exact ⟨v, q, e, tame1_rep H N U h t.1, tame1s_rep k t.2⟩
theorem tameB_rep {x : AV} {v : Value} (r : RepB w h1 u1 ν1 x v) (t : tameB rl x = true) : RepB w h2 u2 ν2 x v := by
  cases x <;> simp only [RepB] at r ⊢ <;> first
    | exact tame1_rep H N U r t
    | (obtain ⟨vs, e, r⟩ := r; exact ⟨vs, e, tame1s_rep H N U r t⟩)
    | (simp only [tameB, tame1, Bool.false_eq_true] at t)
theorem tameA_rep {x : AV} {v : Value} (r : RepA w h1 u1 ν1 x v) (t : tameA rl x = true) : RepA w h2 u2 ν2 x v := by
  by_cases ht : ∃ cs, x = .tuple cs
  · obtain ⟨cs, rfl⟩ := ht
    obtain ⟨vs, e, r⟩ := r
    refine ⟨vs, e, r.congrM fun y hy d hd => tameB_rep H N U hd ?_⟩
    exact List.all_eq_true.1 t y hy
  · have r' : RepB w h1 u1 ν1 x v := by cases x <;> first | exact r | exact absurd ⟨_, rfl⟩ ht
    have t' : tameB rl x = true := by cases x <;> first | exact t | exact absurd ⟨_, rfl⟩ ht
    have := tameB_rep H N U r' t'
    cases x <;> first | exact this | exact absurd ⟨_, rfl⟩ ht
theorem tameC_rep {x : AV} {v : Value} {S : List Nat} (r : CellRep w h1 u1 ν1 x v S) (t : tameC rl x = true) : CellRep w h2 u2 ν2 x v S := by
  cases x <;> simp only [CellRep] at r ⊢ <;> first
    | exact ⟨tame1_rep H N U r.1 t, r.2⟩
    | exact r
theorem tameCs_rep : ∀ {xs : List AV} {vs : List Value} {S : List Nat}, CellsRep w h1 u1 ν1 xs vs S → (∀ c ∈ xs, tameC rl c = true) → CellsRep w h2 u2 ν2 xs vs S
  | [], _, _, r, _ => r
  | x :: xs, vs, S, ⟨v, q, S1, S2, e1, e2, h, k⟩, t => ⟨v, q, S1, S2, e1, e2, tameC_rep H N U h (t x (by simp)), tameCs_rep k (fun c hc => t c (by simp [hc]))⟩
theorem tameBlk_rep {b : Nat} {blk : Blk} {S : List Nat} (hb : b ∈ rl) (r : BlkOk w h1 u1 ν1 b blk S) (t : ∀ cs ∈ blk.es, ∀ c ∈ cs, tameC rl c = true) : BlkOk w h2 u2 ν2 b blk S := by
  refine ⟨r.1, ?_⟩
  rcases r.2 with ⟨q1, q2, q3⟩ | ⟨β, c, arr, ty, T, vs, q1, q2, q3, q4, q5, q6, q7, q8⟩
  · exact .inl ⟨(N b hb).trans q1, q2, q3⟩
  · refine .inr ⟨β, c, arr, ty, T, vs, (N b hb).trans q1, q2, q3, q4, q5, q6, q7, tameCs_rep H N U q8 fun c hc => ?_⟩
    obtain ⟨cs, hcs, hc⟩ := List.mem_flatten.1 hc
    exact t cs hcs c hc
end

theorem all2_conv {α β γ : Type} {R : α → γ → Prop} {Mt : α → β → Prop} {R' : β → γ → Prop} (hc : ∀ x y v, R x v → Mt x y → R' y v) : ∀ {xs : List α} {ys : List β} {vs : List γ}, All2 R xs vs → All2 Mt xs ys → All2 R' ys vs
  | [], ys, vs, h, m => by simp only [All2] at h m; subst h m; rfl
  | x :: xs, ys, vs, ⟨v, q, e, h, k⟩, ⟨y, p, e2, m, m2⟩ => by
    subst e e2
    exact ⟨v, q, rfl, hc x y v h m, all2_conv hc k m2⟩

theorem blk_main {w : World} {h : Hp} {u : Us} {ν : Nu} {b : Nat} {blk : Blk} {S : List Nat} (r : BlkOk w h u ν b blk S) {β c : Nat} (hν : ν b = some (β, c)) : β ∈ S := by
  rcases r.2 with ⟨q1, _, _⟩ | ⟨β', c', arr, ty, T, vs, q1, q2, q3, q4, q5, q6, q7, q8⟩
  · rw [hν] at q1; cases q1
  · rw [hν] at q1; cases q1; rw [q6]; simp

section
variable {P : Program} {dst : Option Tmp} {ty : TypeId} {pos : String} {aft : Array Edge} {g : Option (Nat × Bool)} {ins : Operand → Option AV} {hp : Hp}
theorem eff_hasE {fo : Operand} {xs : Array Operand} {ats : Array TypeId} {f : FuncId} {caps avs ds : List AV} {hl hl' hl2 : List (Nat × Blk)} {kp n' : Nat} {r r2 : AV} {σ σ' : Nat → Option Nat} {touch news : List Nat} {ed : List (Nat × Option Blk)}
    (hc : HasE P f ds hl kp r hl') (hf : ins fo = some (.fn f caps)) (hx : evs ins xs.toList = some avs) (hav : All2 (matchA σ kp) (avs ++ caps) ds) (hh : EntH σ kp hp hl) (hi : injB σ hl = true) (hit : inTouch σ touch hl = true) (hlive : (touch.all fun b => (hp b).isSome) = true)
    (hh' : EntH σ' n' (hpL hl') hl2) (hi' : injB σ' hl2 = true) (hr : matchA σ' n' r r2) (hbk : backB σ σ' kp news hl2 = true) (htl : tameL (touch ++ news) hl2) (htr : tameA (touch ++ news) r2 = true) (he : editsL (touch ++ news) hl2 = ed) :
    AEff P ⟨dst, .call ⟨.value fo, xs, ats⟩, ty, pos, aft, g⟩ ins hp ⟨r2, touch, ed, news⟩ := by
  refine ⟨fun C s ν a w Q K hi0 ht hnw hd hs hK => ?_⟩
  have hfn := hs.ev ((hi0 fo (by simp [Op.operands, Call.operands])).trans hf)
  simp only [RepA, RepB] at hfn
  obtain ⟨cv, hfv, hcap⟩ := hfn
  have hval := evs_rep hs (xs := xs.toList) (fun y hy => hi0 y (by simp [Op.operands, Call.operands]; exact .inr (Array.mem_toList_iff.1 hy))) hx
  obtain ⟨φ, hφ⟩ := hs.heap
  let h3 : Hp := fun b => if b ∈ touch then s.heap b else none
  have sub : ∀ b blk, h3 b = some blk → s.heap b = some blk ∧ b ∈ touch := by
    intro b blk hb
    by_cases e : b ∈ touch
    · simp only [h3, if_pos e] at hb; exact ⟨hb, e⟩
    · simp only [h3, if_neg e] at hb; cases hb
  let M2 : Nat → Prop := fun x => (∃ b, b ∈ touch ∧ s.heap b ≠ none ∧ x ∈ φ b) ∨ w.heap.size ≤ x
  have hM2 : ∀ x, M2 x → C.M x := by
    rintro x (⟨b, _, hb, hx⟩ | hx)
    · obtain ⟨blk, hb⟩ := Option.ne_none_iff_exists'.1 hb
      exact (hφ.blk b blk hb).2.2.2 x hx
    · exact hs.fresh x hx
  have hk3 : HeapOk M2 w h3 s.used ν φ := hφ.shrink (fun b blk hb => (sub b blk hb).1) (fun b x hb hx _ => by
    obtain ⟨blk, hb⟩ := Option.ne_none_iff_exists'.1 hb
    obtain ⟨e1, e2⟩ := sub b blk hb
    exact .inl ⟨b, e2, by rw [e1]; simp, hx⟩)
  have hent : EntH σ kp h3 hl := entH_congr (h := hp) (touch := touch) (fun b hb => by simp only [h3, if_pos hb]; exact ht b hb) hit hh
  have cv1 := conv_mk (w := w) (u := s.used) (ν := ν) hent hi
  have hk4 := cv1.heap hk3
  have shr3 : Ext w s.heap s.used ν w h3 s.used ν := (Ext.refl _ _ _ _).shrink (fun b blk hb => (sub b blk hb).1)
  have hargs : All2 (RepA w (hpL hl) (ltb kp) (nuOf σ ν)) ds (xs.toList.map a.eval ++ cv) :=
    all2_conv (R := RepA w s.heap s.used ν) (Mt := matchA σ kp) (R' := RepA w (hpL hl) (ltb kp) (nuOf σ ν)) (fun x y v hx hm => cv1.rep (RepA.ext shr3 hx) hm) (hval.append (hcap.mono fun x v h => Rep1.repA h)) hav
  have hcall := hc.calls C.B M2 w ((xs.map a.eval) ++ cv.toArray) (nuOf σ ν) _ (fun x hx => C.low x (hM2 x hx)) hs.base (fun x hx => .inr hx) (by simpa using hargs) hk4
  unfold Oper.wp
  have hex : (execOp a.eval ⟨dst, .call ⟨.value fo, xs, ats⟩, ty, pos, aft, g⟩).run P w = .ok (.enter f ((xs.map a.eval) ++ cv.toArray)) w := by
    have : execOp a.eval ⟨dst, .call ⟨.value fo, xs, ats⟩, ty, pos, aft, g⟩ = callFunc f ((xs.map a.eval) ++ cv.toArray) := by
      simp [execOp, resolve, hfv, Deferred.ofValue, invoke]
    rw [this]
    exact hc.enters _ _
  rw [hex]
  simp only [Oper.upon]
  refine hcall.mono fun e w' ⟨v, u1, ν1, φ1, hev, hbel, hext, hh1, hrep⟩ => ?_
  subst hev
  simp only
  have cv2 := conv_mk (w := w') (u := u1) (ν := ν1) hh' hi'
  have hh2 := cv2.heap hh1
  generalize hrl : touch ++ news = rl at *
  let ν' : Nu := fun b => if b ∈ rl then nuOf σ' ν1 b else ν b
  have hν1 : ∀ b, b ∈ rl → ν' b = nuOf σ' ν1 b := fun b hb => if_pos hb
  have hν2 : ∀ b, b ∉ rl → ν' b = ν b := fun b hb => if_neg hb
  have hheq : ∀ b, editHp ed s.heap b = if b ∈ rl then hpL hl2 b else s.heap b := fun b => by rw [← he]; exact editHp_L
  have hhe1 : ∀ b, b ∈ rl → editHp ed s.heap b = hpL hl2 b := fun b hb => by rw [hheq, if_pos hb]
  have hhe2 : ∀ b, b ∉ rl → editHp ed s.heap b = s.heap b := fun b hb => by rw [hheq, if_neg hb]
  have hused : ∀ b, b ∈ rl → addUs news s.used b = true := by
    intro b hb
    rw [← hrl] at hb
    rw [addUs_spec]
    rcases List.mem_append.1 hb with h | h
    · have h5 := List.all_eq_true.1 hlive b h
      rw [← ht b h] at h5
      cases hq : s.heap b with
      | none => rw [hq] at h5; cases h5
      | some blk => rw [(hφ.blk b blk hq).1, Bool.or_true]
    · have : news.contains b = true := by simpa using h
      rw [this, Bool.true_or]
  have hfree3 : ∀ x, Free s.heap ν x → Free (hpL hl) (nuOf σ ν) x := fun x hf => cv1.free x fun b blk β c hb hν => hf b blk β c (sub b blk hb).1 hν
  have extc : Ext w s.heap s.used ν w' (editHp ed s.heap) (addUs news s.used) ν' := by
    refine ⟨fun b hb => by rw [addUs_spec, hb, Bool.or_true], fun b blk' hu hb => ?_, fun x hx hfr => ?_⟩
    · by_cases e : b ∈ rl
      · rw [hhe1 b e] at hb
        obtain ⟨i, e1, e2⟩ := backB_mem hbk (hpL_mem hb)
        obtain ⟨x, f1, f2, f3⟩ := (cv2.look b blk' hb).1 i e1
        rcases e2 with e2 | ⟨e2, e3⟩
        · rw [hnw b e2] at hu; cases hu
        · obtain ⟨blk0, g1, g2, g3, g4⟩ := hext.old i x e2 f1
          obtain ⟨z, k1, k2, k3⟩ := (cv1.look i blk0 g1).1 b e3
          refine ⟨z, (sub b z k1).1, k2.trans (g2.trans f2), k3.trans (g3.trans f3), ?_⟩
          rw [hν1 b e]
          simp only [nuOf, e1]
          rw [g4]
          simp only [nuOf, e3]
      · rw [hhe2 b e] at hb
        exact ⟨blk', hb, rfl, rfl, hν2 b e⟩
    · obtain ⟨p1, p2⟩ := hext.free x hx (hfree3 x hfr)
      refine ⟨p1, fun b blk β c hb hν => ?_⟩
      by_cases e : b ∈ rl
      · rw [hhe1 b e] at hb
        rw [hν1 b e] at hν
        exact cv2.free x p2 b blk β c hb hν
      · rw [hhe2 b e] at hb
        rw [hν2 b e] at hν
        exact hfr b blk β c hb hν
  have hout : ∀ b blk x, s.heap b = some blk → b ∉ rl → x ∈ φ b → w'.heap[x]? = w.heap[x]? := by
    intro b blk x hb hbr hx
    refine (hext.free x ((hφ.blk b blk hb).2.1.lt x hx) (cv1.free x fun b2 blk2 β c hb2 hν2 => ?_)).1
    rintro rfl
    obtain ⟨e1, e2⟩ := sub b2 blk2 hb2
    have hne : b2 ≠ b := by rintro rfl; exact hbr (by rw [← hrl]; exact List.mem_append_left _ e2)
    exact hφ.apart b2 b β (by rw [e1]; simp) (by rw [hb]; simp) hne (blk_main (hφ.blk b2 blk2 e1).2.1 hν2) hx
  have hcross : ∀ b c x, hpL hl2 b ≠ none → s.heap c ≠ none → c ∉ rl → x ∈ (match σ' b with | some b0 => φ1 b0 | none => []) → x ∉ φ c := by
    intro b c x hb hc' hcr hx hx2
    obtain ⟨y1, hy1⟩ := Option.ne_none_iff_exists'.1 hb
    obtain ⟨y2, hy2⟩ := Option.ne_none_iff_exists'.1 hc'
    rcases (hh2.blk b y1 hy1).2.2.2 x hx with ⟨b2, e1, e2, e3⟩ | e1
    · have hne : b2 ≠ c := by rintro rfl; exact hcr (by rw [← hrl]; exact List.mem_append_left _ e1)
      exact hφ.apart b2 c x e2 hc' hne e3 hx2
    · have := (hφ.blk c y2 hy2).2.1.lt x hx2
      omega
  refine hK ν' _ _ (hs.step hd (s' := s.app dst ⟨r2, touch, ed, news⟩) extc hbel ⟨fun b => if b ∈ rl then (match σ' b with | some b0 => φ1 b0 | none => []) else φ b, ?_, ?_⟩ rfl ?_)
  · intro b blk' hb
    replace hb : editHp ed s.heap b = some blk' := hb
    by_cases e : b ∈ rl
    · rw [hhe1 b e] at hb
      simp only [if_pos e]
      obtain ⟨_, g2, g3, g4⟩ := hh2.blk b blk' hb
      exact ⟨hused b e, tameBlk_rep (h1 := hpL hl2) (u1 := ltb n') (ν1 := nuOf σ' ν1) hhe1 hν1 hused e g2 (tameL_mem htl (hpL_mem hb)).2, g3, fun x hx => hM2 x (g4 x hx)⟩
    · rw [hhe2 b e] at hb
      simp only [if_neg e]
      obtain ⟨g1, g2, g3, g4⟩ := hφ.blk b blk' hb
      exact ⟨extc.used b g1, g2.ext extc (hν2 b e) (fun x hx => hout b blk' x hb e hx), g3, g4⟩
  · intro b c x hb hc' hne hxb hxc
    replace hb : editHp ed s.heap b ≠ none := hb
    replace hc' : editHp ed s.heap c ≠ none := hc'
    by_cases e1 : b ∈ rl <;> by_cases e2 : c ∈ rl
    · simp only [if_pos e1] at hxb
      simp only [if_pos e2] at hxc
      rw [hhe1 b e1] at hb
      rw [hhe1 c e2] at hc'
      exact hh2.apart b c x hb hc' hne hxb hxc
    · simp only [if_pos e1] at hxb
      simp only [if_neg e2] at hxc
      rw [hhe1 b e1] at hb
      rw [hhe2 c e2] at hc'
      exact hcross b c x hb hc' e2 hxb hxc
    · simp only [if_neg e1] at hxb
      simp only [if_pos e2] at hxc
      rw [hhe2 b e1] at hb
      rw [hhe1 c e2] at hc'
      exact hcross c b x hc' hb e1 hxc hxb
    · simp only [if_neg e1] at hxb
      simp only [if_neg e2] at hxc
      rw [hhe2 b e1] at hb
      rw [hhe2 c e2] at hc'
      exact hφ.apart b c x hb hc' hne hxb hxc
  · exact tameA_rep (h1 := hpL hl2) (u1 := ltb n') (ν1 := nuOf σ' ν1) hhe1 hν1 hused (cv2.rep hrep hr) htr
end
end Go.Proofs.Ytjfcjkeghigipaa

/-
  Code over abstract states: the rules; when one state's knowledge holds of another. No program stands in this text.
-/
import Derived.Test.YtjfcjkeghigipaaA10
namespace Go.Proofs.Ytjfcjkeghigipaa
open Go.RowKit

structure AC (P : Program) (nt : Nat) (c : Code) (s : AState) (Q : Exit → AState → Prop) : Prop where
  out : ∀ (C : Ctx), C.nt = nt → ∀ (ν : Nu) (a : Act) (w : World), Sim C s ν a w → c.wp P (fun e a' w' => ∃ s' ν', Q e s' ∧ Sim C s' ν' a' w') a w

def thenA (K : AState → Prop) (Q : Exit → AState → Prop) : Exit → AState → Prop
  | .normal, s => K s
  | e, s => Q e s
def blockA (id : Nat) (Q : Exit → AState → Prop) : Exit → AState → Prop
  | .exit id', s => bif Nat.beq id' id then Q .normal s else Q (.exit id') s
  | e, s => Q e s

section
variable {P : Program} {nt : Nat} {s : AState} {Q : Exit → AState → Prop}

theorem ac_seq {x y : Code} (h : AC P nt x s (thenA (fun s' => AC P nt y s' Q) Q)) : AC P nt (.seq x y) s Q := by
  refine ⟨fun C hC ν a w hs => ?_⟩
  refine wp_seq (wp_mono (h.out C hC ν a w hs) fun e a' w' ⟨s', ν', hq, hs'⟩ => ?_)
  cases e <;> simp only [thenA, Exit.then] at hq ⊢
  · exact hq.out C hC ν' a' w' hs'
  all_goals exact ⟨s', ν', hq, hs'⟩
theorem ac_skip (h : Q .normal s) : AC P nt .skip s Q := ⟨fun C _ ν a w hs => wp_skip ⟨s, ν, h, hs⟩⟩
theorem ac_exit {id : Nat} (h : Q (.exit id) s) : AC P nt (.exit id) s Q := ⟨fun C _ ν a w hs => wp_exit ⟨s, ν, h, hs⟩⟩
theorem ac_ret (h : Q .ret s) : AC P nt .ret s Q := ⟨fun C _ ν a w hs => wp_ret ⟨s, ν, h, hs⟩⟩
theorem ac_cond {c : Operand} {x y : Code} {t : Bool} (hc : s.ev c = some (.sc (.bool t))) (ht : t = true → AC P nt x s Q) (hf : t = false → AC P nt y s Q) : AC P nt (.cond c x y) s Q := by
  refine ⟨fun C hC ν a w hs => ?_⟩
  have h1 := hs.ev hc
  simp only [RepA, RepB, Rep1] at h1
  exact wp_cond_split h1.1 (fun e => (ht e).out C hC ν a w hs) (fun e => (hf e).out C hC ν a w hs)
theorem ac_block {id : Nat} {c : Code} (h : AC P nt c s (blockA id Q)) : AC P nt (.block id c) s Q := by
  refine ⟨fun C hC ν a w hs => ?_⟩
  refine wp_block (wp_mono (h.out C hC ν a w hs) fun e a' w' ⟨s', ν', hq, hs'⟩ => ?_)
  cases e with
  | exit id' =>
    simp only [blockA, Exit.inBlock] at hq ⊢
    by_cases e : id' = id
    · subst e
      rw [beq_self] at hq
      rw [if_pos rfl]
      exact ⟨s', ν', hq, hs'⟩
    · rw [beq_ne e] at hq
      rw [if_neg e]
      exact ⟨s', ν', hq, hs'⟩
  | normal => exact ⟨s', ν', hq, hs'⟩
  | goto _ => exact ⟨s', ν', hq, hs'⟩
  | ret => exact ⟨s', ν', hq, hs'⟩
  | panic _ => exact ⟨s', ν', hq, hs'⟩
  | outgrown => exact ⟨s', ν', hq, hs'⟩
theorem ac_mono {c : Code} {Q' : Exit → AState → Prop} (h : AC P nt c s Q) (hq : ∀ e s, Q e s → Q' e s) : AC P nt c s Q' :=
  ⟨fun C hC ν a w hs => wp_mono (h.out C hC ν a w hs) fun e a' w' ⟨s', ν', g1, g2⟩ => ⟨s', ν', hq e s' g1, g2⟩⟩

/-- What is known in s is known in t. -/
def Ent (s t : AState) : Prop := ∀ (C : Ctx) (ν : Nu) (a : Act) (w : World), Sim C s ν a w → ∃ ν', Sim C t ν' a w
theorem Ent.refl (s : AState) : Ent s s := fun _ ν _ _ h => ⟨ν, h⟩
theorem Ent.trans {s t u : AState} (h : Ent s t) (k : Ent t u) : Ent s u := fun C ν a w hs => by obtain ⟨ν', h'⟩ := h C ν a w hs; exact k C ν' a w h'
theorem ac_ent {t : AState} {c : Code} (e : Ent s t) (h : AC P nt c t Q) : AC P nt c s Q := by
  refine ⟨fun C hC ν a w hs => ?_⟩
  obtain ⟨ν', hs'⟩ := e C ν a w hs
  exact h.out C hC ν' a w hs'

theorem ac_loop {c : Code} {ι : Type} (S : ι → AState) (inv : ι → Prop) (μ : ι → Nat) (i0 : ι) (h0 : inv i0) (e0 : Ent s (S i0))
    (round : ∀ i, inv i → AC P nt c (S i) (thenA (fun s' => ∃ j, inv j ∧ μ j < μ i ∧ Ent s' (S j)) Q)) : AC P nt (.loop c) s Q := by
  refine ⟨fun C hC ν a w hs => ?_⟩
  obtain ⟨ν0, hs0⟩ := e0 C ν a w hs
  have key : ∀ n i, μ i = n → inv i → ∀ ν a w, Sim C (S i) ν a w → ∀ (b : Frame) (k : List Item) (cs : List Frame), ∃ e a' w', (∃ s' ν', Q e s' ∧ Sim C s' ν' a' w') ∧ Arrives P (lone (b.at a (.code c :: .inLoop c :: k)) cs w) b k cs e a' w' := by
    intro n
    induction n using Nat.strongRecOn with
    | _ n ih =>
      intro i hn hi ν a w hs b k cs
      obtain ⟨e, a1, w1, ⟨s', ν', hq, hs'⟩, harr⟩ := (round i hi).out C hC ν a w hs b (.inLoop c :: k) cs
      cases e with
      | normal =>
        obtain ⟨j, hj, hlt, hent⟩ := hq
        obtain ⟨ν2, hs2⟩ := hent C ν' a1 w1 hs'
        obtain ⟨e2, a2, w2, hq2, harr2⟩ := ih (μ j) (hn ▸ hlt) j rfl hj ν2 a1 w1 hs2 b k cs
        exact ⟨e2, a2, w2, hq2, .of_steps (Steps.trans harr (.one step_inLoop)) harr2⟩
      | exit id => exact ⟨_, a1, w1, ⟨s', ν', hq, hs'⟩, .pass (x := .inLoop c) rfl (fun _ _ => .inl (by simp)) harr⟩
      | goto l => exact ⟨_, a1, w1, ⟨s', ν', hq, hs'⟩, .pass (x := .inLoop c) rfl (fun _ _ => .inl (by simp)) harr⟩
      | ret => exact ⟨_, a1, w1, ⟨s', ν', hq, hs'⟩, .pass (x := .inLoop c) rfl (fun _ _ => .inl (by simp)) harr⟩
      | panic ch => exact ⟨_, a1, w1, ⟨s', ν', hq, hs'⟩, .pass (x := .inLoop c) rfl (fun _ _ => .inl (by simp)) harr⟩
      | outgrown => exact ⟨_, a1, w1, ⟨s', ν', hq, hs'⟩, .pass (x := .inLoop c) rfl (fun _ _ => .inl (by simp)) harr⟩
  intro b k cs
  obtain ⟨e, a', w', hq, harr⟩ := key _ i0 rfl h0 ν0 a w hs0 b k cs
  exact ⟨e, a', w', hq, .of_steps (.one step_loop) harr⟩

/-! ## regions -/
structure AOps (P : Program) (ops : Array Oper) (nt : Nat) (l : List Oper) (s : AState) (tr : List Tr) (K : List Tr → AState → Prop) : Prop where
  out : ∃ es s', Run P ops nt l s es s' ∧ K ((es.map trOf).reverse ++ tr) s'

theorem ac_region {id : Nat} {l : List Oper} (h : AOps P l.toArray nt l s [] (fun _ s' => Q .normal s')) : AC P nt (.region id l.toArray false) s Q := by
  refine ⟨fun C hC ν a w hs => ?_⟩
  obtain ⟨es, s', hr, hq⟩ := h.out
  subst hC
  exact wp_region_lit (run_list (C := C) (fun ν' a' w' hs' => ⟨s', ν', hq, hs'⟩) hr hs)
theorem ac_region_draw (hm : P.follows .mixedOrders = true) {id : Nat} {l : List Oper} (h : AOps P l.toArray nt l s [] (fun tr s' => regionOk l.toArray tr.reverse = true ∧ Q .normal s')) : AC P nt (.region id l.toArray true) s Q := by
  refine ⟨fun C hC ν a w hs => ?_⟩
  obtain ⟨es, s', hr, hok, hq⟩ := h.out
  subst hC
  rw [List.append_nil, List.reverse_reverse] at hok
  exact run_draw hm (C := C) (fun ν' a' w' hs' => ⟨s', ν', hq, hs'⟩) hr hok hs

variable {ops : Array Oper} {r : List Oper} {o : Oper} {tr : List Tr} {K : List Tr → AState → Prop}
theorem aops_nil (h : K tr s) : AOps P ops nt [] s tr K := ⟨[], s, ⟨rfl, rfl⟩, h⟩

def dstB (o : Oper) (nt : Nat) : Bool := match o.dst with | none => true | some d => Nat.blt d nt
theorem dstB_ok (h : dstB o nt = true) : dstOk o nt := by
  intro d hd
  unfold dstB at h
  rw [hd] at h
  simpa [Nat.blt_eq] using h

theorem aops_eff {d : Option Tmp} {op : Op} {ty : TypeId} {pos : String} {aft : Array Edge} {g : Option (Nat × Bool)} {e : Eff} (he : AEff P ⟨d, op, ty, pos, aft, g⟩ s.ev s.heap e) (hd : dstB ⟨d, op, ty, pos, aft, g⟩ nt = true) (hg : wantedA ops s.env ⟨d, op, ty, pos, aft, g⟩ = some true) (hn : (e.news.all fun b => !s.used b) = true) (h : AOps P ops nt r (s.app d e) (trOf e :: tr) K) : AOps P ops nt (⟨d, op, ty, pos, aft, g⟩ :: r) s tr K := by
  obtain ⟨es, s', hr, hk⟩ := h.out
  refine ⟨e :: es, s', ⟨e, es, rfl, ⟨dstB_ok hd, .inl ⟨hg, he, fun b hb => ?_⟩⟩, hr⟩, ?_⟩
  · have := List.all_eq_true.1 hn b hb
    simpa using this
  · simpa using hk
theorem aops_skip {d : Option Tmp} {op : Op} {ty : TypeId} {pos : String} {aft : Array Edge} {g : Option (Nat × Bool)} (hg : wantedA ops s.env ⟨d, op, ty, pos, aft, g⟩ = some false) (hd : dstB ⟨d, op, ty, pos, aft, g⟩ nt = true) (h : AOps P ops nt r ⟨upd d .dead s.env, s.heap, s.used, s.ns, s.kp⟩ (⟨[], []⟩ :: tr) K) : AOps P ops nt (⟨d, op, ty, pos, aft, g⟩ :: r) s tr K := by
  obtain ⟨es, s', hr, hk⟩ := h.out
  refine ⟨deadEff :: es, s', ⟨deadEff, es, rfl, ⟨dstB_ok hd, .inr ⟨hg, rfl⟩⟩, hr⟩, ?_⟩
  have e : trOf deadEff = ⟨[], []⟩ := rfl
  simpa [e] using hk
end

/-! ## entailment -/
def envL : List (Nat × AV) → Nat → Option AV
  | [], _ => none
  | (k, v) :: r, t => bif Nat.beq t k then some v else envL r t
def hpL : List (Nat × Blk) → Hp
  | [], _ => none
  | (k, v) :: r, t => bif Nat.beq t k then some v else hpL r t
def ltb (n : Nat) : Us := fun b => Nat.blt b n
def mkS (e : List (Nat × AV)) (h : List (Nat × Blk)) (n : Nat) (ns : List Nat) (kp : Nat := 0) : AState := ⟨envL e, hpL h, ltb n, ns, kp⟩

def sg : List (Nat × Nat) → Nat → Option Nat
  | [], _ => none
  | (k, v) :: r, t => bif Nat.beq t k then some v else sg r t

def match1 (σ : Nat → Option Nat) (n : Nat) : AV → AV → Prop
  | _, .dead => True
  | .sc u, .sc v => u = v
  | .nil _, .nil _ => True
  | .nil _, .list _ es => es = []
  | .list k es, .list k' es' => k = k' ∧ es = es'
  | .ref cs, .ref cs' => cs = cs'
  | .own b i m, .own b' i' m' => σ b' = some b ∧ i = i' ∧ m = m' ∧ Nat.blt b' n = true
  | .nil _, .own b i m => σ b = none ∧ i = 0 ∧ m = 0 ∧ Nat.blt b n = true
  | .ptr b i j, .ptr b' i' j' => σ b' = some b ∧ i = i' ∧ j = j' ∧ Nat.blt b' n = true
  | _, _ => False
def matchC (σ : Nat → Option Nat) (n : Nat) : AV → AV → Prop
  | .abs k es, .abs k' es' => k = k' ∧ es = es'
  | .nil _, .abs _ es => es = []
  | .dead, _ => False
  | _, .dead => False
  | x, y => match1 σ n x y
def matchA (σ : Nat → Option Nat) (n : Nat) : AV → AV → Prop
  | .agg cs, .agg ds => All2 (match1 σ n) cs ds
  | .fn f cs, .fn f' ds => f = f' ∧ All2 (match1 σ n) cs ds
  | .tuple _, .dead => True
  | x, y => match1 σ n x y

/-- Cells that bear no name. -/
def nameless : AV → Bool
  | .sc _ => true
  | .nil _ => true
  | .list _ _ => true
  | .abs _ _ => true
  | .ref _ => true
  | _ => false
def plainEs (es : List (List AV)) : Prop := ∀ cs ∈ es, ∀ c ∈ cs, nameless c = true
def matchB (σ : Nat → Option Nat) (n : Nat) (x y : Blk) : Prop := x.k = y.k ∧ (x.es = y.es ∧ plainEs y.es ∨ All2 (All2 (matchC σ n)) x.es y.es)

def EntE (σ : Nat → Option Nat) (n : Nat) (e : Nat → Option AV) : List (Nat × AV) → Prop
  | [] => True
  | (t, y) :: r => (∃ x, e t = some x ∧ matchA σ n x y) ∧ EntE σ n e r
def EntH (σ : Nat → Option Nat) (n : Nat) (h : Hp) : List (Nat × Blk) → Prop
  | [] => True
  | (b, y) :: r => (match σ b with | some b0 => ∃ x, h b0 = some x ∧ matchB σ n x y | none => y.es = []) ∧ Nat.blt b n = true ∧ EntH σ n h r
/-- No two names stand for one. -/
def injB (σ : Nat → Option Nat) : List (Nat × Blk) → Bool
  | [] => true
  | (b, _) :: r => (r.all fun p => !Nat.beq b p.1 && match σ b, σ p.1 with | some x, some y => !Nat.beq x y | _, _ => true) && injB σ r

theorem envL_mem : ∀ {l : List (Nat × AV)} {t : Nat} {x : AV}, envL l t = some x → (t, x) ∈ l
  | [], t, x, h => by cases h
  | (k, v) :: r, t, x, h => by
    simp only [envL] at h
    by_cases e : t = k
    · subst e; rw [beq_self] at h; simp at h; subst h; simp
    · rw [beq_ne e] at h; exact List.mem_cons_of_mem _ (envL_mem h)
theorem hpL_mem : ∀ {l : List (Nat × Blk)} {t : Nat} {x : Blk}, hpL l t = some x → (t, x) ∈ l
  | [], t, x, h => by cases h
  | (k, v) :: r, t, x, h => by
    simp only [hpL] at h
    by_cases e : t = k
    · subst e; rw [beq_self] at h; simp at h; subst h; simp
    · rw [beq_ne e] at h; exact List.mem_cons_of_mem _ (hpL_mem h)
theorem entE_mem {σ : Nat → Option Nat} {n : Nat} {e : Nat → Option AV} : ∀ {l : List (Nat × AV)}, EntE σ n e l → ∀ {t : Nat} {y : AV}, (t, y) ∈ l → ∃ x, e t = some x ∧ matchA σ n x y
  | (k, v) :: r, ⟨h1, h2⟩, t, y, hm => by
    rcases List.mem_cons.1 hm with e | h
    · cases e; exact h1
    · exact entE_mem h2 h
theorem entH_mem {σ : Nat → Option Nat} {n : Nat} {h : Hp} : ∀ {l : List (Nat × Blk)}, EntH σ n h l → ∀ {b : Nat} {y : Blk}, (b, y) ∈ l → (match σ b with | some b0 => ∃ x, h b0 = some x ∧ matchB σ n x y | none => y.es = []) ∧ Nat.blt b n = true
  | (k, v) :: r, ⟨h1, h2, h3⟩, t, y, hm => by
    rcases List.mem_cons.1 hm with e | h
    · cases e; exact ⟨h1, h2⟩
    · exact entH_mem h3 h
theorem injB_mem {σ : Nat → Option Nat} : ∀ {l : List (Nat × Blk)}, injB σ l = true → ∀ {b c : Nat} {x y : Blk}, (b, x) ∈ l → (c, y) ∈ l → (b = c → x = y) ∧ (b ≠ c → ∀ z, σ b = some z → σ c ≠ some z)
  | (k, v) :: r, h, b, c, x, y, hb, hc => by
    simp only [injB, Bool.and_eq_true, List.all_eq_true] at h
    obtain ⟨h1, h2⟩ := h
    rcases List.mem_cons.1 hb with e | hb'
    · cases e
      rcases List.mem_cons.1 hc with e | hc'
      · cases e; exact ⟨fun _ => rfl, fun e => absurd rfl e⟩
      · have := h1 _ hc'
        simp only [Bool.and_eq_true] at this
        refine ⟨fun e => ?_, fun _ z hz hz' => ?_⟩
        · subst e; simp at this
        · rw [hz, hz'] at this; simp at this
    · rcases List.mem_cons.1 hc with e | hc'
      · cases e
        have := h1 _ hb'
        simp only [Bool.and_eq_true] at this
        refine ⟨fun e => ?_, fun _ z hz hz' => ?_⟩
        · subst e; simp at this
        · rw [hz, hz'] at this; simp at this
      · exact injB_mem h2 hb' hc'

theorem repD_nil {w : World} {k : Nat} : RepD w (.list k []) (.slice none 0 0) [] := by
  unfold RepD
  exact ⟨none, 0, rfl, by simp, by unfold maxLen; omega, .inl ⟨rfl, rfl⟩⟩
/-- What was handed in keeps its name. -/
def keepB (σ : Nat → Option Nat) (kp : Nat) : List (Nat × Blk) → Bool
  | [] => true
  | (b, _) :: r => (!(Nat.blt b kp) || (match σ b with | some x => Nat.beq x b | none => false)) && keepB σ kp r
theorem keepB_mem {σ : Nat → Option Nat} {kp : Nat} : ∀ {l : List (Nat × Blk)}, keepB σ kp l = true → ∀ {b : Nat} {y : Blk}, (b, y) ∈ l → Nat.blt b kp = true → σ b = some b
  | (c, z) :: r, h, b, y, hm, hb => by
    simp only [keepB, Bool.and_eq_true] at h
    rcases List.mem_cons.1 hm with e | hm'
    · obtain ⟨rfl, rfl⟩ := Prod.mk.inj e
      have h1 := h.1
      rw [hb] at h1
      cases hσ : σ b with
      | none => rw [hσ] at h1; simp at h1
      | some x => rw [hσ] at h1; simp only [Bool.not_true, Bool.false_or] at h1; rw [Nat.eq_of_beq_eq_true h1]
    · exact keepB_mem h.2 hm' hb
theorem ent_mk {s : AState} {σ : Nat → Option Nat} {n kp : Nat} {tl : List (Nat × AV)} {hl : List (Nat × Blk)} {ns : List Nat} (he : EntE σ n s.env tl) (hh : EntH σ n s.heap hl) (hi : injB σ hl = true) (hkp : s.kp = kp := by rfl) (hkb : keepB σ kp hl = true := by rfl) (hkn : Nat.ble kp n = true := by rfl) : Ent s (mkS tl hl n ns kp) := by
  intro C ν a w hs
  obtain ⟨φ, hφ⟩ := hs.heap
  let ν' : Nu := fun b => match σ b with | some b0 => ν b0 | none => none
  have hlive : ∀ b y, hpL hl b = some y → (match σ b with | some b0 => ∃ x, s.heap b0 = some x ∧ matchB σ n x y | none => y.es = []) ∧ Nat.blt b n = true := fun b y h => entH_mem hh (hpL_mem h)
  have hlen : ∀ {x y : Blk}, matchB σ n x y → x.k = y.k ∧ x.es.length = y.es.length := by
    rintro x y ⟨h1, h2 | h2⟩
    · exact ⟨h1, by rw [h2.1]⟩
    · exact ⟨h1, h2.len.symm⟩
  have hfree : ∀ x, Free s.heap ν x → Free (hpL hl) ν' x := by
    intro x hf b y β c hb hν
    have h1 := (hlive b y hb).1
    cases hσ : σ b with
    | none => simp only [ν', hσ] at hν; cases hν
    | some b0 =>
      rw [hσ] at h1
      simp only [ν', hσ] at hν
      obtain ⟨z, h2, _⟩ := h1
      exact hf b0 z β c h2 hν
  have m1 : ∀ {x y : AV} {v : Value}, Rep1 w s.heap s.used ν x v → match1 σ n x y → Rep1 w (hpL hl) (ltb n) ν' y v := by
    intro x y v r m
    cases y
    case dead => trivial
    case sc u => cases x <;> simp only [match1] at m <;> first | exact m.elim | (subst m; exact r)
    case nil k => cases x <;> simp only [match1] at m <;> first | exact m.elim | exact r
    case list k es =>
      cases x <;> simp only [match1] at m <;> first | exact m.elim | skip
      · subst m
        simp only [Rep1] at r ⊢
        exact ⟨[], by rw [r]; exact repD_nil, by simp⟩
      · obtain ⟨rfl, rfl⟩ := m
        obtain ⟨S, r1, r2⟩ := r
        exact ⟨S, r1, fun x hx => hfree x (r2 x hx)⟩
    case ref cs =>
      cases x <;> simp only [match1] at m <;> first | exact m.elim | skip
      subst m
      obtain ⟨S, r1, r2⟩ := r
      exact ⟨S, r1, fun x hx => hfree x (r2 x hx)⟩
    case own b i q =>
      cases x <;> simp only [match1] at m <;> first | exact m.elim | skip
      · obtain ⟨m1, rfl, rfl, m4⟩ := m
        simp only [Rep1] at r ⊢
        refine ⟨m4, fun blk hb => ?_⟩
        have h1 := (hlive b blk hb).1
        rw [m1] at h1
        refine ⟨by simp, fun _ => r, fun β c hν => ?_⟩
        simp only [ν', m1] at hν
        cases hν
      · rename_i b0 i0 q0
        obtain ⟨m1, rfl, rfl, m4⟩ := m
        simp only [Rep1] at r ⊢
        refine ⟨m4, fun blk hb => ?_⟩
        have h1 := (hlive b blk hb).1
        rw [m1] at h1
        obtain ⟨z, h2, h3⟩ := h1
        obtain ⟨k1, k2⟩ := hlen h3
        obtain ⟨r1, r2, r3⟩ := r.2 z h2
        refine ⟨by rw [← k2]; exact r1, fun hν => r2 (by simpa only [ν', m1] using hν), fun β c hν => ?_⟩
        rw [← k1]
        exact r3 β c (by simpa only [ν', m1] using hν)
    case ptr b i q =>
      cases x <;> simp only [match1] at m <;> first | exact m.elim | skip
      rename_i b0 i0 q0
      obtain ⟨m1, rfl, rfl, m4⟩ := m
      simp only [Rep1] at r ⊢
      refine ⟨m4, fun blk hb => ?_⟩
      have h1 := (hlive b blk hb).1
      rw [m1] at h1
      obtain ⟨z, h2, h3⟩ := h1
      obtain ⟨k1, k2⟩ := hlen h3
      obtain ⟨β, c, r1, r2⟩ := r.2 z h2
      exact ⟨β, c, by simpa only [ν', m1] using r1, by rw [← k1]; exact r2⟩
    all_goals (cases x <;> simp only [match1] at m)
  have mL : ∀ {xs ys : List AV} {vs : List Value}, All2 (Rep1 w s.heap s.used ν) xs vs → All2 (match1 σ n) xs ys → All2 (Rep1 w (hpL hl) (ltb n) ν') ys vs := by
    intro xs
    induction xs with
    | nil => intro ys vs r m; simp only [All2] at r m; subst r m; rfl
    | cons x xs ih =>
      rintro ys vs ⟨v, r, rfl, h1, h2⟩ ⟨y, q, rfl, k1, k2⟩
      exact ⟨v, r, rfl, m1 h1 k1, ih h2 k2⟩
  have mC : ∀ {x y : AV} {v : Value} {S : List Nat}, CellRep w s.heap s.used ν x v S → matchC σ n x y → CellRep w (hpL hl) (ltb n) ν' y v S := by
    intro x y v S r m
    cases x <;> cases y <;> simp only [matchC] at m <;> simp only [CellRep] at r ⊢ <;> first
      | exact m.elim
      | exact r.elim
      | exact ⟨m1 r.1 m, r.2⟩
      | (obtain ⟨rfl, rfl⟩ := m; exact r)
      | (obtain ⟨r1, rfl⟩ := r; subst m; simp only [Rep1] at r1; rw [r1]; exact repO_nil)
      | (simp only [match1] at m)
  have mCs : ∀ {xs ys : List AV} {vs : List Value} {S : List Nat}, CellsRep w s.heap s.used ν xs vs S → All2 (matchC σ n) xs ys → CellsRep w (hpL hl) (ltb n) ν' ys vs S := by
    intro xs
    induction xs with
    | nil => intro ys vs S r m; simp only [All2] at m; subst m; exact r
    | cons x xs ih =>
      rintro ys vs S ⟨v, r, S1, S2, rfl, rfl, h1, h2⟩ ⟨y, q, rfl, k1, k2⟩
      exact ⟨v, r, S1, S2, rfl, rfl, mC h1 k1, ih h2 k2⟩
  have mSelf : ∀ {xs : List AV} {vs : List Value} {S : List Nat}, CellsRep w s.heap s.used ν xs vs S → (∀ c ∈ xs, nameless c = true) → CellsRep w (hpL hl) (ltb n) ν' xs vs S := by
    intro xs vs S r hp
    refine mCs r ?_
    clear r
    induction xs with
    | nil => rfl
    | cons x xs ih =>
      refine ⟨x, xs, rfl, ?_, ih (fun c hc => hp c (by simp [hc]))⟩
      have := hp x (by simp)
      cases x <;> simp only [nameless, Bool.false_eq_true] at this <;> simp [matchC, match1]
  have mFlat : ∀ {es fs : List (List AV)} {R : AV → AV → Prop}, All2 (All2 R) es fs → All2 R es.flatten fs.flatten := by
    intro es
    induction es with
    | nil => intro fs R h; simp only [All2] at h; subst h; rfl
    | cons c es ih =>
      rintro fs R ⟨d, fs', rfl, h1, h2⟩
      rw [List.flatten_cons, List.flatten_cons]
      exact h1.append (ih h2)
  have mlens : ∀ {es fs : List (List AV)} {k : Nat}, All2 (All2 (matchC σ n)) es fs → (∀ cs ∈ es, cs.length = k) → ∀ cs ∈ fs, cs.length = k := by
    intro es
    induction es with
    | nil => intro fs k h _ cs hcs; simp only [All2] at h; subst h; cases hcs
    | cons c es ih =>
      rintro fs k ⟨d, fs', rfl, h1, h2⟩ hk cs hcs
      rcases List.mem_cons.1 hcs with rfl | h
      · rw [h1.len]; exact hk c (by simp)
      · exact ih h2 (fun x hx => hk x (by simp [hx])) cs h
  have hCkp : C.kp = kp := hs.kp.symm.trans hkp
  have hext : Ext C.wE C.hE (fun b => Nat.blt b C.kp) C.νE w (hpL hl) (ltb n) ν' := by
    refine ⟨fun b hb => ?_, fun b blk' hb hl' => ?_, fun x hx hf => ?_⟩
    · have h1 : b < kp := by rw [← hCkp]; simpa [Nat.blt_eq] using hb
      have h2 := Nat.le_of_ble_eq_true hkn
      have : b < n := by omega
      simpa [ltb, Nat.blt_eq] using this
    · have h1 := (hlive b blk' hl').1
      have h2 := keepB_mem hkb (hpL_mem hl') (by rw [← hCkp]; exact hb)
      rw [h2] at h1
      obtain ⟨x, h3, h4⟩ := h1
      obtain ⟨blk0, e1, e2, e3, e4⟩ := hs.ext.old b x hb h3
      exact ⟨blk0, e1, e2.trans (hlen h4).1, e3.trans (hlen h4).2, by simp only [ν', h2]; exact e4⟩
    · obtain ⟨e1, e2⟩ := hs.ext.free x hx hf
      exact ⟨e1, hfree x e2⟩
  refine ⟨ν', hs.below, hs.base, hs.fresh, hs.defers, hs.size, ?_, ⟨fun b => match σ b with | some b0 => φ b0 | none => [], ?_, ?_⟩, hCkp.symm, hext⟩
  · intro t y hy
    obtain ⟨x, h1, h2⟩ := entE_mem he (envL_mem hy)
    obtain ⟨v, h3, h4⟩ := hs.env t x h1
    refine ⟨v, h3, ?_⟩
    cases x <;> cases y <;> simp only [matchA] at h2 <;> simp only [RepA, RepB] at h4 ⊢ <;> first
      | exact m1 h4 h2
      | (obtain ⟨vs, e1, e2⟩ := h4; exact ⟨vs, e1, mL e2 h2⟩)
      | (obtain ⟨vs, e1, e2⟩ := h4; obtain ⟨rfl, h2⟩ := h2; exact ⟨vs, e1, mL e2 h2⟩)
      | trivial
      | (simp only [match1] at h2)
  · intro b y hb
    obtain ⟨h1, h2⟩ := hlive b y hb
    refine ⟨h2, ?_⟩
    cases hσ : σ b with
    | none =>
      rw [hσ] at h1
      simp only
      exact ⟨⟨by rw [h1]; simp, .inl ⟨by simp only [ν', hσ], h1, rfl⟩⟩, by simp, by simp⟩
    | some b0 =>
      rw [hσ] at h1
      simp only
      obtain ⟨x, h3, h4⟩ := h1
      obtain ⟨g1, ⟨g2, g3⟩, g4, g5⟩ := hφ.blk b0 x h3
      obtain ⟨k1, k2⟩ := hlen h4
      refine ⟨⟨?_, ?_⟩, g4, g5⟩
      · rcases h4.2 with ⟨e1, _⟩ | e1
        · rw [← e1, ← k1]; exact g2
        · rw [← k1]; exact mlens e1 g2
      · rcases g3 with ⟨q1, q2, q3⟩ | ⟨β, c, arr, ty, T, vs, q1, q2, q3, q4, q5, q6, q7, q8⟩
        · exact .inl ⟨by simp only [ν', hσ]; exact q1, by rw [q2] at k2; exact List.eq_nil_of_length_eq_zero k2.symm, q3⟩
        · refine .inr ⟨β, c, arr, ty, T, vs, by simp only [ν', hσ]; exact q1, q2, by rw [← k1]; exact q3, by rw [← k2]; exact q4, q5, q6, by rw [← k1, ← k2]; exact q7, ?_⟩
          rcases h4.2 with ⟨e1, e2⟩ | e1
          · rw [e1] at q8
            exact mSelf q8 (fun c hc => by obtain ⟨cs, hcs, hc'⟩ := List.mem_flatten.1 hc; exact e2 cs hcs c hc')
          · exact mCs q8 (mFlat e1)
  · intro b c z hb hc hne hzb hzc
    obtain ⟨y1, hy1⟩ := Option.ne_none_iff_exists'.1 hb
    obtain ⟨y2, hy2⟩ := Option.ne_none_iff_exists'.1 hc
    have i1 := (injB_mem hi (hpL_mem hy1) (hpL_mem hy2)).2 hne
    have l1 := (hlive b y1 hy1).1
    have l2 := (hlive c y2 hy2).1
    cases h1 : σ b with
    | none => rw [h1] at hzb; cases hzb
    | some b0 =>
      cases h2 : σ c with
      | none => rw [h2] at hzc; cases hzc
      | some c0 =>
        rw [h1] at hzb l1
        rw [h2] at hzc l2
        obtain ⟨x1, p1, _⟩ := l1
        obtain ⟨x2, p2, _⟩ := l2
        exact hφ.apart b0 c0 z (by rw [p1]; simp) (by rw [p2]; simp) (fun e => i1 b0 h1 (by rw [h2, e])) hzb hzc
end Go.Proofs.Ytjfcjkeghigipaa

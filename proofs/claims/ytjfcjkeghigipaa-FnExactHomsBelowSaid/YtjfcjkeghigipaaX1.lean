/-
  Walking along a model: a function's code is walked under the hypothesis that a plain function (its model) has a result. No program stands in this text.
-/
import Derived.Test.YtjfcjkeghigipaaA17
import Derived.Test.YtjfcjkeghigipaaTy
namespace Go.Proofs.Ytjfcjkeghigipaa
open Go.RowKit
set_option linter.unusedVariables false

/-! ## models -/
theorem ob {α β : Type} {o : Option α} {k : α → Option β} {r : β} (h : o.bind k = some r) : ∃ a, o = some a ∧ k a = some r := by
  cases o with
  | none => cases h
  | some a => exact ⟨a, rfl, h⟩
theorem cb {α : Type} {c : Bool} {A B : Option α} {r : α} (h : cond c A B = some r) : (c = true ∧ A = some r) ∨ (c = false ∧ B = some r) := by
  cases c
  · exact .inr ⟨rfl, h⟩
  · exact .inl ⟨rfl, h⟩
/-- What must hold, else there is no result. -/
theorem cg {α : Type} {c : Bool} {A : Option α} {r : α} (h : cond c A none = some r) : c = true ∧ A = some r := by
  cases c
  · cases h
  · exact ⟨rfl, h⟩
theorem so {α : Type} {x r : α} (h : some x = some r) : x = r := Option.some.inj h
def atL {α : Type} (l : List α) (i : Int) : Option α := bif decide (0 ≤ i) then l[i.toNat]? else none
theorem atL_get {α : Type} {l : List α} {i : Int} {v : α} (h : atL l i = some v) : l[i.toNat]? = some v := (cg h).2
theorem atL_nn {α : Type} {l : List α} {i : Int} {v : α} (h : atL l i = some v) : 0 ≤ i := of_decide_eq_true (cg h).1
theorem atL_lt {α : Type} {l : List α} {i : Int} {v : α} (h : atL l i = some v) : i.toNat < l.length := by
  rcases Nat.lt_or_ge i.toNat l.length with h' | h'
  · exact h'
  · have := atL_get h; rw [List.getElem?_eq_none h'] at this; cases this
theorem atL_map {α β : Type} {f : α → β} {l : List α} {i : Int} {v : α} (h : atL l i = some v) : (l.map f)[i.toNat]? = some (f v) := by rw [List.getElem?_map, atL_get h]; rfl
theorem atL_nat {α : Type} {l : List α} {n : Nat} (h : n < l.length) : atL l (n : Int) = some l[n] := by simp [atL, h]
def wr (x : Int) : Int := IntKind.i64.wrap x
theorem wr_eq {x : Int} (h : -9223372036854775808 ≤ x ∧ x ≤ 9223372036854775807) : wr x = x := by unfold wr; rw [IntKind.wrap_i64]; omega
def apL {α : Type} (l m : List α) : Option (List α) := bif decide (l.length + m.length ≤ 4294967296) then some (l ++ m) else none
theorem apL_ok {α : Type} {l m r : List α} (h : apL l m = some r) : l.length + m.length ≤ 4294967296 ∧ l ++ m = r := ⟨of_decide_eq_true (cg h).1, so (cg h).2⟩
theorem apL_eq {α : Type} {l m : List α} (h : l.length + m.length ≤ 4294967296) : apL l m = some (l ++ m) := by simp [apL, h]

/-! ## loops -/
def LpN {σ ρ : Type} (body : σ → Option (σ ⊕ ρ)) : Nat → σ → ρ → Prop
  | 0, s, r => body s = some (.inr r)
  | n + 1, s, r => ∃ s', body s = some (.inl s') ∧ LpN body n s' r
theorem LpN.det {σ ρ : Type} {body : σ → Option (σ ⊕ ρ)} : ∀ {n m : Nat} {s : σ} {r r' : ρ}, LpN body n s r → LpN body m s r' → r = r'
  | 0, 0, s, r, r', h, k => by rw [LpN] at h k; rw [h] at k; cases k; rfl
  | 0, m + 1, s, r, r', h, ⟨s', k, _⟩ => by rw [LpN] at h; rw [h] at k; cases k
  | n + 1, 0, s, r, r', ⟨s', h, _⟩, k => by rw [LpN] at k; rw [h] at k; cases k
  | n + 1, m + 1, s, r, r', ⟨s', h, h2⟩, ⟨s'', k, k2⟩ => by rw [h] at k; cases k; exact LpN.det h2 k2
open Classical in
noncomputable def Lp {σ ρ : Type} (body : σ → Option (σ ⊕ ρ)) (s : σ) : Option ρ := if h : ∃ r n, LpN body n s r then some h.choose else none
theorem Lp_some {σ ρ : Type} {body : σ → Option (σ ⊕ ρ)} {s : σ} {r : ρ} : Lp body s = some r ↔ ∃ n, LpN body n s r := by
  unfold Lp
  split
  · rename_i h
    obtain ⟨n, hn⟩ := h.choose_spec
    constructor
    · intro e; cases e; exact ⟨n, hn⟩
    · rintro ⟨m, hm⟩; rw [hn.det hm]
  · rename_i h
    constructor
    · intro e; cases e
    · rintro ⟨m, hm⟩; exact absurd ⟨r, m, hm⟩ h
theorem Lp_stop {σ ρ : Type} {body : σ → Option (σ ⊕ ρ)} {s : σ} {r : ρ} (h : body s = some (.inr r)) : Lp body s = some r := Lp_some.2 ⟨0, h⟩
theorem Lp_step {σ ρ : Type} {body : σ → Option (σ ⊕ ρ)} {s s' : σ} (h : body s = some (.inl s')) : Lp body s = Lp body s' := by
  apply Option.ext
  intro r
  rw [Lp_some, Lp_some]
  constructor
  · rintro ⟨n, hn⟩
    cases n with
    | zero => rw [LpN] at hn; rw [h] at hn; cases hn
    | succ n => obtain ⟨s'', h1, h2⟩ := hn; rw [h] at h1; cases h1; exact ⟨n, h2⟩
  · rintro ⟨n, hn⟩; exact ⟨n + 1, s', h, hn⟩
/-- A loop that goes through the states I 0, I 1, .. and ends at I N. -/
theorem Lp_inv {σ ρ : Type} {body : σ → Option (σ ⊕ ρ)} {s : σ} {r : ρ} (I : Nat → σ) (N : Nat) (h0 : s = I 0) (hs : ∀ k, k < N → body (I k) = some (.inl (I (k + 1)))) (hr : body (I N) = some (.inr r)) : Lp body s = some r := by
  subst h0
  have key : ∀ d k, k + d = N → Lp body (I k) = some r := by
    intro d
    induction d with
    | zero => intro k hk; rw [Nat.add_zero] at hk; subst hk; exact Lp_stop hr
    | succ d ih => intro k hk; rw [Lp_step (hs k (by omega))]; exact ih (k + 1) (by omega)
  exact key N 0 (by omega)
/-- The same with a measure: states that keep I, each with a next one or a result that has R. -/
theorem Lp_meas {σ ρ : Type} {body : σ → Option (σ ⊕ ρ)} {s : σ} (I : σ → Prop) (μ : σ → Nat) (R : ρ → Prop) (h0 : I s) (hs : ∀ x, I x → (∃ x', body x = some (.inl x') ∧ I x' ∧ μ x' < μ x) ∨ ∃ r, body x = some (.inr r) ∧ R r) : ∃ r, Lp body s = some r ∧ R r := by
  have key : ∀ n x, μ x = n → I x → ∃ r, Lp body x = some r ∧ R r := by
    intro n
    induction n using Nat.strongRecOn with
    | _ n ih =>
      intro x hn hx
      rcases hs x hx with ⟨x', h1, h2, h3⟩ | ⟨r, h1, h2⟩
      · rw [Lp_step h1]; exact ih (μ x') (hn ▸ h3) x' rfl h2
      · exact ⟨r, Lp_stop h1, h2⟩
  exact key _ s rfl h0

section
variable {P : Program} {nt : Nat} {s : AState} {Q : Exit → AState → Prop}
theorem ac_Lp {c : Code} {σ ρ : Type} {body : σ → Option (σ ⊕ ρ)} {x0 : σ} {r0 : ρ} (h : Lp body x0 = some r0) (S : σ → AState) (X : ρ → Exit → AState → Prop) (e0 : Ent s (S x0))
    (round : ∀ x o, body x = some o → AC P nt c (S x) (thenA (fun t => ∃ x', o = .inl x' ∧ Ent t (S x')) (fun e t => ∃ r, o = .inr r ∧ X r e t))) (hX : ∀ e t, X r0 e t → Q e t) : AC P nt (.loop c) s Q := by
  obtain ⟨n, hn⟩ := Lp_some.1 h
  refine ac_loop (ι := σ × Nat) (fun p => S p.1) (fun p => LpN body p.2 p.1 r0) (fun p => p.2) (x0, n) hn e0 ?_
  rintro ⟨x, m⟩ hm
  cases m with
  | zero =>
    refine ac_mono (round x _ hm) fun e t hq => ?_
    cases e <;> simp only [thenA] at hq ⊢
    · obtain ⟨x', h1, _⟩ := hq; cases h1
    all_goals (obtain ⟨r, h1, h2⟩ := hq; cases h1; exact hX _ _ h2)
  | succ m =>
    obtain ⟨x', h1, h2⟩ := hm
    refine ac_mono (round x _ h1) fun e t hq => ?_
    cases e <;> simp only [thenA] at hq ⊢
    · obtain ⟨x'', h3, h4⟩ := hq; cases h3; exact ⟨(x', m), h2, Nat.lt_succ_self _, h4⟩
    all_goals (obtain ⟨r, h3, _⟩ := hq; cases h3)
theorem ac_condT {c : Operand} {x y : Code} {t : Bool} (hc : s.ev c = some (.sc (.bool t))) (q : t = true) (h : AC P nt x s Q) : AC P nt (.cond c x y) s Q := ac_cond hc (fun _ => h) (fun e => by rw [q] at e; cases e)
theorem ac_condF {c : Operand} {x y : Code} {t : Bool} (hc : s.ev c = some (.sc (.bool t))) (q : t = false) (h : AC P nt y s Q) : AC P nt (.cond c x y) s Q := ac_cond hc (fun e => by rw [q] at e; cases e) (fun _ => h)
theorem upd_same {i : Nat} {v : AV} {e : Nat → Option AV} (h : e i = some v) : upd (some i) v e = e := by
  funext t
  simp only [upd]
  cases hb : Nat.beq t i with
  | false => rfl
  | true => rw [Nat.eq_of_beq_eq_true hb, h]; rfl
/-- A truth value in a temporary becomes a literal. -/
theorem aops_lit {ops : Array Oper} {r : List Oper} {tr : List Tr} {K : List Tr → AState → Prop} {t u : Bool} (i : Nat) (hi : s.env i = some (.sc (.bool t))) (q : t = u) (h : AOps P ops nt r ⟨upd (some i) (.sc (.bool u)) s.env, s.heap, s.used, s.ns, s.kp⟩ tr K) : AOps P ops nt r s tr K := by
  subst q
  rw [upd_same hi] at h
  exact h
end

/-! ## encodings -/
/-- What a cell of readable data is. -/
def cellB : AV → Bool
  | .sc v => v.oneCell'
  | .list _ _ => true
  | _ => false
/-- An encoding: how a value lies in cells. -/
structure EOk {α : Type} (k : Nat) (e : α → List AV) : Prop where
  len : ∀ x, (e x).length = k
  cell : ∀ x, (e x).all cellB = true
/-- The cells when the lists in them belong to the block. -/
def ow {α : Type} (e : α → List AV) (x : α) : List AV := (e x).map toAbs
theorem abs_map {α : Type} (e : α → List AV) (l : List α) : absEs (l.map e) = l.map (ow e) := by
  unfold absEs
  rw [List.map_map]
  rfl
section
variable {α : Type} {k : Nat} {e : α → List AV}
theorem cellB_view {c : AV} (h : cellB c = true) : view0 (toAbs c) c := by cases c <;> simp only [cellB, Bool.false_eq_true] at h <;> simp [toAbs, view0]
theorem cellB_same {c : AV} (h : cellB c = true) : view0 c c := by cases c <;> simp only [cellB, Bool.false_eq_true] at h <;> simp [view0]
theorem cellB_frz {c : AV} (h : cellB c = true) : frz0 (toAbs c) c := by cases c <;> simp only [cellB, Bool.false_eq_true] at h <;> simp [toAbs, frz0]
theorem cellB_ok {c : AV} (h : cellB c = true) (hp : Hp) : okCell hp c = true := by cases c <;> simp only [cellB, Bool.false_eq_true] at h <;> rfl
theorem cellB_plain {c : AV} (h : cellB c = true) : plainD c = true ∧ ∀ ds, c ≠ .ref ds := by cases c <;> simp only [cellB, Bool.false_eq_true] at h <;> exact ⟨rfl, fun _ e => by cases e⟩
theorem cellB_name {c : AV} (h : cellB c = true) : nameless c = true ∧ nameless (toAbs c) = true := by cases c <;> simp only [cellB, Bool.false_eq_true] at h <;> exact ⟨rfl, rfl⟩
theorem all2_map {R : AV → AV → Prop} {f g : AV → AV} : ∀ {cs : List AV}, (∀ c ∈ cs, R (f c) (g c)) → All2 R (cs.map f) (cs.map g)
  | [], _ => rfl
  | c :: cs, h => ⟨g c, _, rfl, h c (by simp), all2_map fun d hd => h d (by simp [hd])⟩
theorem all2_maps {β : Type} {R : List AV → List AV → Prop} {f g : β → List AV} : ∀ {l : List β}, (∀ x, R (f x) (g x)) → All2 R (l.map f) (l.map g)
  | [], _ => rfl
  | x :: l, h => ⟨g x, _, rfl, h x, all2_maps h⟩
theorem EOk.mem (E : EOk k e) (x : α) : ∀ c ∈ e x, cellB c = true := List.all_eq_true.1 (E.cell x)
theorem EOk.view (E : EOk k e) (x : α) : All2 view0 (ow e x) (e x) := by have := all2_map (R := view0) (f := toAbs) (g := id) (fun c hc => cellB_view (E.mem x c hc)); simpa [ow] using this
theorem EOk.same (E : EOk k e) (x : α) : All2 view0 (e x) (e x) := by have := all2_map (R := view0) (f := id) (g := id) (fun c hc => cellB_same (E.mem x c hc)); simpa using this
theorem EOk.frz (E : EOk k e) (x : α) : All2 frz0 (ow e x) (e x) := by have := all2_map (R := frz0) (f := toAbs) (g := id) (fun c hc => cellB_frz (E.mem x c hc)); simpa [ow] using this
theorem EOk.views (E : EOk k e) (l : List α) : All2 (All2 view0) (l.map (ow e)) (l.map e) := all2_maps E.view
theorem EOk.sames (E : EOk k e) (l : List α) : All2 (All2 view0) (l.map e) (l.map e) := all2_maps E.same
theorem EOk.frzs (E : EOk k e) (l : List α) : All2 (All2 frz0) (l.map (ow e)) (l.map e) := all2_maps E.frz
theorem EOk.good (E : EOk k e) (l : List α) : goodEs (l.map e) := by
  intro cs hcs c hc
  obtain ⟨x, _, rfl⟩ := List.mem_map.1 hcs
  exact cellB_plain (E.mem x c hc)
theorem EOk.plainO (E : EOk k e) (l : List α) : plainEs (l.map (ow e)) := by
  intro cs hcs c hc
  obtain ⟨x, _, rfl⟩ := List.mem_map.1 hcs
  obtain ⟨d, hd, rfl⟩ := List.mem_map.1 hc
  exact (cellB_name (E.mem x d hd)).2
theorem EOk.plainE (E : EOk k e) (l : List α) : plainEs (l.map e) := by
  intro cs hcs c hc
  obtain ⟨x, _, rfl⟩ := List.mem_map.1 hcs
  exact (cellB_name (E.mem x c hc)).1
theorem EOk.okE (E : EOk k e) (hp : Hp) (l : List α) : (l.map e).flatten.all (okCell hp) = true := by
  rw [List.all_eq_true]
  intro c hc
  obtain ⟨cs, hcs, hc⟩ := List.mem_flatten.1 hc
  obtain ⟨x, _, rfl⟩ := List.mem_map.1 hcs
  exact cellB_ok (E.mem x c hc) hp
theorem names_nil : ∀ {cs : List AV}, (∀ c ∈ cs, cellB c = true) → namesOf cs = []
  | [], _ => rfl
  | c :: cs, h => by
    have h1 := h c (by simp)
    have h2 := names_nil (cs := cs) (fun d hd => h d (by simp [hd]))
    cases c <;> simp only [cellB, Bool.false_eq_true] at h1 <;> exact h2
theorem EOk.namesE (E : EOk k e) (l : List α) : namesOf (l.map e).flatten = [] := by
  refine names_nil fun c hc => ?_
  obtain ⟨cs, hcs, hc⟩ := List.mem_flatten.1 hc
  obtain ⟨x, _, rfl⟩ := List.mem_map.1 hcs
  exact E.mem x c hc
end
end Go.Proofs.Ytjfcjkeghigipaa

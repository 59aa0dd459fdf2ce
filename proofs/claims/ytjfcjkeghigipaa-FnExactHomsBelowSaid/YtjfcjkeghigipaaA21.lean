/-
  Contracts of functions that work on what they are handed (2): the contract, how it is got from code, its use at a call. No program stands in this text.
-/
import Derived.Test.YtjfcjkeghigipaaA20
namespace Go.Proofs.Ytjfcjkeghigipaa
open Go.RowKit
set_option linter.unusedVariables false

/-- The call of f with the arguments ds and the blocks hl (names below kp) returns r and leaves the blocks hl'. -/
structure HasE (P : Program) (f : FuncId) (ds : List AV) (hl : List (Nat × Blk)) (kp : Nat) (r : AV) (hl' : List (Nat × Blk)) : Prop where
  enters : Enters P f
  calls : ∀ (B : Nat) (M : Nat → Prop) (w : World) (args : Array Value) (ν : Nu) (φ : Nat → List Nat), (∀ x, M x → B ≤ x) → B ≤ w.heap.size → (∀ x, w.heap.size ≤ x → M x) → All2 (RepA w (hpL hl) (ltb kp) ν) ds args.toList → HeapOk M w (hpL hl) (ltb kp) ν φ →
    Calls P f args w fun e w' => ∃ v u' ν' φ', e = .returned v ∧ Below B w w' ∧ Ext w (hpL hl) (ltb kp) ν w' (hpL hl') u' ν' ∧ HeapOk M w' (hpL hl') u' ν' φ' ∧ RepA w' (hpL hl') u' ν' r v

def notTuple : AV → Bool
  | .tuple _ => false
  | _ => true
def resOne (vs : List AV) (r : AV) : Prop := (vs = [r]) ∨ (vs.length ≠ 1 ∧ vs.all notTuple = true ∧ r = .tuple vs)
def sameL (h : Hp) : List (Nat × Blk) → Prop
  | [] => True
  | (b, y) :: r => h b = some y ∧ sameL h r
theorem sameL_mem {h : Hp} : ∀ {l : List (Nat × Blk)}, sameL h l → ∀ {b : Nat} {y : Blk}, (b, y) ∈ l → h b = some y
  | (c, z) :: r, ⟨h1, h2⟩, b, y, hm => by
    rcases List.mem_cons.1 hm with e | hm'
    · obtain ⟨rfl, rfl⟩ := Prod.mk.inj e; exact h1
    · exact sameL_mem h2 hm'
def RetE (T : List (Nat × Ty)) (rvs : List ResultVar) (r : AV) (hl' : List (Nat × Blk)) (e : Exit) (t : AState) : Prop := isEnd e = true ∧ (∃ vs, resVars T t rvs = some vs ∧ resOne vs r) ∧ sameL t.heap hl'

theorem Ext.shrink {w w' : World} {h h' g : Hp} {u u' : Us} {ν ν' : Nu} (e : Ext w h u ν w' h' u' ν') (hg : ∀ b blk, g b = some blk → h' b = some blk) : Ext w h u ν w' g u' ν' :=
  ⟨e.used, fun b blk hb hgb => e.old b blk hb (hg b blk hgb), fun x hx hf => ⟨(e.free x hx hf).1, fun b blk β c hb hν => (e.free x hx hf).2 b blk β c (hg b blk hb) hν⟩⟩
theorem HeapOk.shrink {M M' : Nat → Prop} {w : World} {h g : Hp} {u : Us} {ν : Nu} {φ : Nat → List Nat} (hh : HeapOk M w h u ν φ) (hg : ∀ b blk, g b = some blk → h b = some blk) (hM : ∀ b x, g b ≠ none → x ∈ φ b → M x → M' x) : HeapOk M' w g u ν φ where
  blk := fun b blk hb => by
    obtain ⟨g1, g2, g3, g4⟩ := hh.blk b blk (hg b blk hb)
    exact ⟨g1, g2.ext ((Ext.refl w h u ν).shrink hg) rfl (fun _ _ => rfl), g3, fun x hx => hM b x (by rw [hb]; simp) hx (g4 x hx)⟩
  apart := fun b c x hb hc hne hxb hxc => by
    obtain ⟨y1, h1⟩ := Option.ne_none_iff_exists'.1 hb
    obtain ⟨y2, h2⟩ := Option.ne_none_iff_exists'.1 hc
    exact hh.apart b c x (by rw [hg b y1 h1]; simp) (by rw [hg c y2 h2]; simp) hne hxb hxc

theorem nthA_get : ∀ {l : List AV} {t : Nat}, nthA l t = l[t]?
  | [], _ => by simp [nthA]
  | _ :: _, 0 => by simp [nthA]
  | _ :: r, t + 1 => by simpa [nthA] using nthA_get (l := r) (t := t)

theorem repA_B {w : World} {h : Hp} {u : Us} {ν : Nu} {x : AV} {v : Value} (r : RepA w h u ν x v) (hx : notTuple x = true) : RepB w h u ν x v := by
  cases x <;> first | exact r | cases hx

theorem hasE_mk {P : Program} {T : List (Nat × Ty)} (hT : TyOk P T) {f : FuncId} {fn : Func} {c : Code} {nt kp : Nat} {ds : List AV} {hl hl' : List (Nat × Blk)} {r : AV} {rvs : List ResultVar} {ns : List Nat} (hf : P.funcs[f]? = some fn) (hb : fn.body = some c) (hname : (fn.name == "runtime.NumGoroutine") = false) (hnt : fn.ntmps = nt) (hres : fn.results.toList = rvs)
    (hlen : Nat.ble ds.length nt = true) (h : AC P nt c ⟨nthA ds, hpL hl, ltb kp, ns, kp⟩ (fun e t => ∃ t', Ent t t' ∧ RetE T rvs r hl' e t')) : HasE P f ds hl kp r hl' := by
  refine ⟨Enters.mk hf (by rw [hb]; rfl) hname, fun B M w args ν φ hMB hB hM hargs hheap => ?_⟩
  refine calls_of_wp hf hb ?_
  have hlen' := Nat.le_of_ble_eq_true hlen
  have hal : args.size = ds.length := by have := hargs.len; simpa using this
  let C : Ctx := ⟨B, w, nt, M, hMB, kp, w, hpL hl, ν⟩
  have hsim : Sim C ⟨nthA ds, hpL hl, ltb kp, ns, kp⟩ ν ⟨args ++ Array.replicate (fn.ntmps - args.size) undef, []⟩ w := by
    refine ⟨Below.refl _ _, hB, hM, rfl, by show (args ++ Array.replicate (fn.ntmps - args.size) undef).size = nt; simp [hnt]; omega, ?_, ⟨φ, hheap⟩, rfl, Ext.refl _ _ _ _⟩
    intro t x hx
    have hx' : ds[t]? = some x := by rw [← nthA_get]; exact hx
    obtain ⟨v, h1, h2⟩ := hargs.get hx'
    refine ⟨v, ?_, h2⟩
    have hlt : t < args.size := by
      rcases Nat.lt_or_ge t args.size with h' | h'
      · exact h'
      · rw [List.getElem?_eq_none (by simpa using h')] at h1; cases h1
    show (args ++ Array.replicate (fn.ntmps - args.size) undef)[t]? = some v
    rw [Array.getElem?_append_left hlt]
    simpa using h1
  refine wp_mono (h.out C rfl _ _ w hsim) fun e a' w' ⟨s1, ν1, ⟨s', hent, hq⟩, hs1⟩ => ?_
  obtain ⟨ν', hs'⟩ := hent C ν1 a' w' hs1
  obtain ⟨he, ⟨avs, hv, hone⟩, hsame⟩ := hq
  have hsub : ∀ b blk, hpL hl' b = some blk → s'.heap b = some blk := fun b blk hb => sameL_mem hsame (hpL_mem hb)
  obtain ⟨us, h1, h2⟩ := resVars_run hT hs' hv
  obtain ⟨φ', hh⟩ := hs'.heap
  have hrun : (results fn a'.tmps).run P w' = .ok (if hh : us.toArray.size = 1 then us.toArray[0] else .tuple us.toArray) w' := by
    unfold results
    rw [Sem.run_bind, Array.mapM_eq_mapM_toList, Sem.run_map, hres]
    have h1' := h1
    generalize hq : (List.mapM _ rvs : Sem (List Value)) = m
    rw [show Sem.run P m w' = .ok us w' by rw [← hq]; exact h1']
    simp
  have shr := (Ext.refl w' s'.heap s'.used ν').shrink hsub
  have hrep : RepA w' (hpL hl') s'.used ν' r (if hh : us.toArray.size = 1 then us.toArray[0] else .tuple us.toArray) := by
    rcases hone with rfl | ⟨g1, g2, rfl⟩
    · obtain ⟨u, q, rfl, k1, k2⟩ := h2
      simp only [All2] at k2
      subst k2
      exact k1.ext shr
    · have hul : us.length = avs.length := h2.len
      rw [dif_neg (by simp; rw [hul]; exact g1)]
      refine ⟨us, rfl, h2.congrM fun x hx v hr => ?_⟩
      exact repA_B (hr.ext shr) (List.all_eq_true.1 g2 x hx)
  have hend : bodyPost P fn (fun e w' => ∃ v u' ν' φ', e = .returned v ∧ Below B w w' ∧ Ext w (hpL hl) (ltb kp) ν w' (hpL hl') u' ν' ∧ HeapOk M w' (hpL hl') u' ν' φ' ∧ RepA w' (hpL hl') u' ν' r v) .ret a' w' :=
    ⟨hs'.defers, _, hrun, _, s'.used, ν', φ', rfl, hs'.below, hs'.ext.shrink hsub, hh.shrink hsub (fun _ _ _ _ h => h), hrep⟩
  cases e <;> simp only [isEnd, Bool.false_eq_true] at he <;> exact hend

/-! ## at a call -/
def tame1 (rl : List Nat) : AV → Bool
  | .sc _ => true
  | .nil _ => true
  | .own b _ _ => rl.contains b
  | .ptr b _ _ => rl.contains b
  | _ => false
def tameC (rl : List Nat) : AV → Bool
  | .abs _ _ => true
  | x => tame1 rl x
def tameB (rl : List Nat) : AV → Bool
  | .agg cs => cs.all (tame1 rl)
  | x => tame1 rl x
def tameA (rl : List Nat) : AV → Bool
  | .tuple cs => cs.all (tameB rl)
  | x => tameB rl x
def tameL (rl : List Nat) : List (Nat × Blk) → Prop
  | [] => True
  | (b, y) :: r => rl.contains b = true ∧ (∀ cs ∈ y.es, ∀ c ∈ cs, tameC rl c = true) ∧ tameL rl r
theorem tameL_mem {rl : List Nat} : ∀ {l : List (Nat × Blk)}, tameL rl l → ∀ {b : Nat} {y : Blk}, (b, y) ∈ l → rl.contains b = true ∧ ∀ cs ∈ y.es, ∀ c ∈ cs, tameC rl c = true
  | (c, z) :: r, ⟨h1, h2, h3⟩, b, y, hm => by
    rcases List.mem_cons.1 hm with e | hm'
    · obtain ⟨rfl, rfl⟩ := Prod.mk.inj e; exact ⟨h1, h2⟩
    · exact tameL_mem h3 hm'
theorem EOk.tame {α : Type} {k : Nat} {e : α → List AV} (E : EOk k e) (rl : List Nat) (l : List α) : ∀ cs ∈ l.map (ow e), ∀ c ∈ cs, tameC rl c = true := by
  intro cs hcs c hc
  obtain ⟨x, _, rfl⟩ := List.mem_map.1 hcs
  obtain ⟨d, hd, rfl⟩ := List.mem_map.1 hc
  have := E.mem x d hd
  cases d <;> simp only [cellB, Bool.false_eq_true] at this <;> rfl

/-- The keys of the callee's blocks that lie in the caller's touch, and come from there. -/
def inTouch (σ : Nat → Option Nat) (touch : List Nat) : List (Nat × Blk) → Bool
  | [] => true
  | (b, _) :: r => (match σ b with | some x => touch.contains x | none => true) && inTouch σ touch r
theorem entH_congr {σ : Nat → Option Nat} {n : Nat} {touch : List Nat} {h h' : Hp} (hc : ∀ b ∈ touch, h' b = h b) : ∀ {l : List (Nat × Blk)}, inTouch σ touch l = true → EntH σ n h l → EntH σ n h' l
  | [], _, _ => trivial
  | (b, y) :: r, ht, ⟨h1, h2, h3⟩ => by
    simp only [inTouch, Bool.and_eq_true] at ht
    refine ⟨?_, h2, entH_congr hc ht.2 h3⟩
    cases hσ : σ b with
    | none => rw [hσ] at h1; exact h1
    | some x =>
      have h4 := ht.1
      rw [hσ] at h1 h4
      simp only at h1 h4 ⊢
      obtain ⟨z, e1, e2⟩ := h1
      exact ⟨z, by rw [hc x (by simpa using h4)]; exact e1, e2⟩
/-- What comes back under an old name is the block that was handed in. -/
def backB (σ σ' : Nat → Option Nat) (kp : Nat) (news : List Nat) : List (Nat × Blk) → Bool
  | [] => true
  | (b, _) :: r => (match σ' b with | some i => news.contains b || (Nat.blt i kp && (match σ i with | some x => Nat.beq x b | none => false)) | none => false) && backB σ σ' kp news r
theorem backB_mem {σ σ' : Nat → Option Nat} {kp : Nat} {news : List Nat} : ∀ {l : List (Nat × Blk)}, backB σ σ' kp news l = true → ∀ {b : Nat} {y : Blk}, (b, y) ∈ l → ∃ i, σ' b = some i ∧ (b ∈ news ∨ (Nat.blt i kp = true ∧ σ i = some b))
  | (c, z) :: r, h, b, y, hm => by
    simp only [backB, Bool.and_eq_true] at h
    rcases List.mem_cons.1 hm with e | hm'
    · obtain ⟨rfl, rfl⟩ := Prod.mk.inj e
      have h1 := h.1
      cases hσ : σ' b with
      | none => rw [hσ] at h1; cases h1
      | some i =>
        rw [hσ] at h1
        simp only [Bool.or_eq_true, Bool.and_eq_true] at h1
        refine ⟨i, rfl, ?_⟩
        rcases h1 with h1 | ⟨h1, h2⟩
        · exact .inl (by simpa using h1)
        · refine .inr ⟨h1, ?_⟩
          cases hσ2 : σ i with
          | none => rw [hσ2] at h2; cases h2
          | some x => rw [hσ2] at h2; rw [Nat.eq_of_beq_eq_true h2]
    · exact backB_mem h.2 hm'

def editsL (rl : List Nat) (hl2 : List (Nat × Blk)) : List (Nat × Option Blk) := rl.map fun b => (b, hpL hl2 b)
theorem editHp_L {h : Hp} {hl2 : List (Nat × Blk)} {b : Nat} : ∀ {rl : List Nat}, editHp (editsL rl hl2) h b = if b ∈ rl then hpL hl2 b else h b
  | [] => by simp [editsL, editHp]
  | c :: rl => by
    have ih := editHp_L (h := h) (hl2 := hl2) (b := b) (rl := rl)
    simp only [editsL, List.map_cons, editHp] at ih ⊢
    by_cases e : b = c
    · subst e; simp
    · rw [beq_ne e, cond_false, ih]
      simp [e]
end Go.Proofs.Ytjfcjkeghigipaa

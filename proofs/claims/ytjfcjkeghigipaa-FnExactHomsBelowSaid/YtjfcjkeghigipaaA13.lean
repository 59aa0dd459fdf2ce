/-
  A function's contract from its code: entry and return; a slice of the call's own laid into a cell. No program stands in this text.
-/
import Derived.Test.YtjfcjkeghigipaaA12
namespace Go.Proofs.Ytjfcjkeghigipaa
open Go.RowKit

def resVar (T : List (Nat × Ty)) (s : AState) : ResultVar → Option AV
  | .tmp t => s.env t
  | .cell a ty => match s.env a with
    | some (.ptr b i j) => match s.heap b with
      | some blk => match blk.es[i]? with
        | some cs => match tyOf T ty with
          | some y => bif (y.desc.isAgg || Nat.beq y.size 1) && Nat.ble (j + y.size) cs.length then some (pack y.desc.isAgg (((cs.drop j).take y.size).map view)) else none
          | none => none
        | none => none
      | none => none
    | _ => none
def resVars (T : List (Nat × Ty)) (s : AState) : List ResultVar → Option (List AV)
  | [] => some []
  | x :: r => match resVar T s x, resVars T s r with
    | some v, some vs => some (v :: vs)
    | _, _ => none

theorem resVar_run {P : Program} {T : List (Nat × Ty)} (hT : TyOk P T) {C : Ctx} {s : AState} {ν : Nu} {a : Act} {w : World} (hs : Sim C s ν a w) {x : ResultVar} {v : AV} (h : resVar T s x = some v) :
    ∃ u, (match x with | .tmp t => pure (a.tmps.getD t undef) | .cell b t => do loadVar t (← asAddr (a.tmps.getD b undef)) : Sem Value).run P w = .ok u w ∧ RepA w s.heap s.used ν v u := by
  cases x with
  | tmp t =>
    obtain ⟨u, h1, h2⟩ := hs.env t v h
    refine ⟨u, ?_, h2⟩
    simp [Array.getD_eq_getD_getElem?, h1]
  | cell b0 ty =>
    simp only [resVar] at h
    split at h <;> first | cases h | skip
    rename_i b i j he
    split at h <;> first | cases h | skip
    rename_i blk hb
    split at h <;> first | cases h | skip
    rename_i cs hi
    split at h <;> first | cases h | skip
    rename_i y hy
    obtain ⟨u0, h1, h2⟩ := hs.env b0 _ he
    simp only [RepA, RepB, Rep1] at h2
    obtain ⟨β, c, h3, h4⟩ := h2.2 blk hb
    cases hc : ((y.desc.isAgg || Nat.beq y.size 1) && Nat.ble (j + y.size) cs.length) with
    | false => rw [hc] at h; cases h
    | true =>
      rw [hc] at h
      simp only [cond_true, Option.some.injEq] at h
      subst h
      simp only [Bool.and_eq_true] at hc
      obtain ⟨g1, g2⟩ := hc
      have g2' := Nat.le_of_ble_eq_true g2
      -- the load of a pointer
      have hl := eff_load_ptr (P := P) (T := T) hT (dst := none) (ty := 0) (pos := "") (aft := #[]) (g := none) (ins := fun o => s.ev o) (hp := s.heap) (x := .tmp b0) (t := ty) hy g1 he hb hi g2'
      obtain ⟨φ, hh⟩ := hs.heap
      obtain ⟨β', c', vs, e1, e2, e3, e4, e5⟩ := hh.cells hb hi g2'
      rw [h3] at e1
      cases e1
      obtain ⟨ii, z, d, hy'⟩ := hT.is hy
      have hr := run_loadVar_cells (P := P) hy' (w := w) (b := β) (o := i * blk.k + j) (vs := vs) e2 (fun hg => by rw [hg] at g1; simpa using Nat.eq_of_beq_eq_true g1) (fun m u hu => (e4 m u hu).1)
      refine ⟨_, by simp only [Array.getD_eq_getD_getElem?, h1, Option.getD_some, h4, asAddr, Sem.run_bind, Sem.run_pure, Result.andThen_ok]; exact hr, ?_⟩
      cases hg : y.desc.isAgg with
      | true =>
        simp only [pack, cond_true, if_true, RepA, RepB]
        exact ⟨vs, rfl, e3⟩
      | false =>
        rw [hg] at g1
        have hs1 : y.size = 1 := Nat.eq_of_beq_eq_true (by simpa using g1)
        simp only [pack, cond_false]
        revert e2 e3 e5
        generalize ((cs.drop j).take y.size).map view = ds
        intro e2 e3 e5
        match ds, vs, e3 with
        | [], vs, e3 => simp only [All2] at e3; subst e3; simp [hs1] at e2
        | d :: ds, vs, e3 =>
          obtain ⟨v, r, rfl, e6, e7⟩ := e3
          simp only [List.headD_cons, List.getElem?_cons_zero, Option.getD_some]
          exact e6.repA

theorem resVars_run {P : Program} {T : List (Nat × Ty)} (hT : TyOk P T) {C : Ctx} {s : AState} {ν : Nu} {a : Act} {w : World} (hs : Sim C s ν a w) : ∀ {xs : List ResultVar} {vs : List AV}, resVars T s xs = some vs →
    ∃ us, (xs.mapM fun | .tmp t => pure (a.tmps.getD t undef) | .cell b t => do loadVar t (← asAddr (a.tmps.getD b undef)) : Sem (List Value)).run P w = .ok us w ∧ All2 (RepA w s.heap s.used ν) vs us
  | [], vs, h => by simp only [resVars, Option.some.injEq] at h; subst h; exact ⟨[], by simp, rfl⟩
  | x :: xs, vs, h => by
    simp only [resVars] at h
    split at h
    · rename_i v vs' h1 h2
      cases h
      obtain ⟨u, e1, e2⟩ := resVar_run hT hs h1
      obtain ⟨us, e3, e4⟩ := resVars_run hT hs h2
      refine ⟨u :: us, ?_, u, us, rfl, e2, e4⟩
      rw [List.mapM_cons, Sem.run_bind, e1, Result.andThen_ok, Sem.run_bind, e3]
      simp
    · cases h

/-! ## what is handed back -/
def frz0 : AV → AV → Prop
  | .sc u, .sc v => u = v
  | .abs k es, .list k' es' => k = k' ∧ es = es'
  | .nil _, .list _ es => es = []
  | _, _ => False
def frz1 (h : Hp) : AV → AV → Prop
  | .sc u, .sc v => u = v
  | .nil _, .list _ es => es = []
  | .own b i n, .list k es => i = 0 ∧ ∃ blk, h b = some blk ∧ blk.es.length = n ∧ blk.k = k ∧ All2 (All2 frz0) blk.es es
  | _, _ => False
def frzB (h : Hp) : AV → AV → Prop
  | .agg cs, .agg ds => All2 (frz1 h) cs ds
  | x, d => frz1 h x d
def owns1 : AV → List Nat
  | .own b _ _ => [b]
  | _ => []
def ownsB : AV → List Nat
  | .agg cs => cs.flatMap owns1
  | x => owns1 x
def frzs (h : Hp) (vs : List AV) (r : AV) : Prop :=
  match vs, r with
  | [v], r => frzB h v r ∧ ∀ cs, r ≠ .tuple cs
  | vs, .tuple rs => vs.length ≠ 1 ∧ All2 (frzB h) vs rs
  | _, _ => False
def nodupB : List Nat → Bool
  | [] => true
  | x :: r => (r.all fun y => !Nat.beq x y) && nodupB r
theorem nodupB_ok : ∀ {l : List Nat}, nodupB l = true → l.Nodup
  | [], _ => by simp
  | x :: r, h => by
    simp only [nodupB, Bool.and_eq_true, List.all_eq_true] at h
    refine List.nodup_cons.2 ⟨fun hm => ?_, nodupB_ok h.2⟩
    have := h.1 x hm
    simp at this
theorem nodup_B : ∀ {l : List Nat}, l.Nodup → nodupB l = true
  | [], _ => rfl
  | x :: r, h => by
    obtain ⟨h1, h2⟩ := List.nodup_cons.1 h
    simp only [nodupB, Bool.and_eq_true, List.all_eq_true]
    refine ⟨fun y hy => ?_, nodup_B h2⟩
    rw [beq_ne (by rintro rfl; exact h1 hy)]
    rfl

theorem frz0_cells {w : World} {h : Hp} {u : Us} {ν : Nu} : ∀ {cs ds : List AV} {vs : List Value} {S : List Nat}, CellsRep w h u ν cs vs S → All2 frz0 cs ds → RepOV w ds vs S
  | [], ds, vs, S, r, m => by simp only [All2] at m; subst m; obtain ⟨rfl, rfl⟩ := r; simp [RepOV]
  | c :: cs, ds, vs, S, ⟨v, q, S1, S2, h1, h2, h3, h4⟩, ⟨d, p, hp, m1, m2⟩ => by
    subst h1; subst h2; subst hp
    have e1 := frz0_cells h4 m2
    have key : RepO w d v S1 ∧ v.oneCell' = true := by
      cases c <;> cases d <;> simp only [frz0] at m1
      · obtain ⟨⟨rfl, h5⟩, rfl⟩ := h3
        subst m1
        exact ⟨repO_sc h5, h5⟩
      · obtain ⟨h5, rfl⟩ := h3
        subst m1
        simp only [Rep1] at h5
        subst h5
        exact ⟨repO_nil, rfl⟩
      · obtain ⟨rfl, rfl⟩ := m1
        refine ⟨h3, ?_⟩
        have h3' := RepO.repD h3
        simp only [RepD] at h3'
        obtain ⟨a, c, rfl, _⟩ := h3'
        rfl
    simp only [RepOV]
    exact ⟨v, q, S1, S2, rfl, rfl, key.2, key.1, e1⟩
theorem all2_flatten {R : AV → AV → Prop} : ∀ {es fs : List (List AV)}, All2 (All2 R) es fs → All2 R es.flatten fs.flatten
  | [], fs, h => by simp only [All2] at h; subst h; rfl
  | c :: es, fs, ⟨d, q, h1, h2, h3⟩ => by
    subst h1
    rw [List.flatten_cons, List.flatten_cons]
    exact h2.append (all2_flatten h3)
theorem all2_lens {R : AV → AV → Prop} {k : Nat} : ∀ {es fs : List (List AV)}, All2 (All2 R) es fs → (∀ c ∈ es, c.length = k) → ∀ c ∈ fs, c.length = k
  | [], fs, h, _, c, hc => by simp only [All2] at h; subst h; cases hc
  | e :: es, fs, ⟨d, q, h1, h2, h3⟩, hk, c, hc => by
    subst h1
    rcases List.mem_cons.1 hc with rfl | h
    · rw [h2.len]; exact hk e (by simp)
    · exact all2_lens h3 (fun x hx => hk x (by simp [hx])) c h

theorem frz1_rep {B : Nat → Prop} {w : World} {h : Hp} {u : Us} {ν : Nu} {φ : Nat → List Nat} (hh : HeapOk B w h u ν φ) {x d : AV} {v : Value} (r : Rep1 w h u ν x v) (m : frz1 h x d) :
    ∃ S, ResCell w d v S ∧ S.Nodup ∧ (∀ y ∈ S, B y) ∧ ∀ y ∈ S, ∃ b ∈ owns1 x, h b ≠ none ∧ y ∈ φ b := by
  cases x <;> cases d <;> simp only [frz1] at m
  · subst m
    exact ⟨[], ⟨r.1, r.2, rfl⟩, by simp, by simp, by simp⟩
  · subst m
    exact ⟨[], .inl ⟨rfl, r, rfl⟩, by simp, by simp, by simp⟩
  · rename_i b i n k es
    obtain ⟨rfl, blk, hb, rfl, rfl, m⟩ := m
    obtain ⟨r1, r2, r3⟩ := r.2 blk hb
    obtain ⟨_, ⟨hk, hx⟩, hnd, hB⟩ := hh.blk b blk hb
    rcases hx with ⟨q1, q2, q3⟩ | ⟨β, c, arr, ty, T, vs, q1, q2, q3, q4, q5, q6, q7, q8⟩
    · rw [q2] at m
      simp only [All2] at m
      subst m
      exact ⟨[], .inl ⟨rfl, r2 q1, rfl⟩, by simp, by simp, by simp⟩
    · have hl : es.length = blk.es.length := m.len
      have e1 := frz0_cells q8 (all2_flatten m)
      have e3 := (r3 β c q1).zero
      refine ⟨φ b, .inr ⟨β, c, arr, ty, T, vs, by rw [hl]; exact e3, q2, q3, by rw [hl]; exact q4, q5, all2_lens m hk, q6, by rw [hl]; exact q7, e1⟩, hnd, hB, fun y hy => ⟨b, by simp [owns1], by rw [hb]; simp, hy⟩⟩

theorem apart_S {B : Nat → Prop} {w : World} {h : Hp} {u : Us} {ν : Nu} {φ : Nat → List Nat} (hh : HeapOk B w h u ν φ) {S1 S2 o1 o2 : List Nat} (hn : (o1 ++ o2).Nodup) (h1 : ∀ y ∈ S1, ∃ b ∈ o1, h b ≠ none ∧ y ∈ φ b) (h2 : ∀ y ∈ S2, ∃ b ∈ o2, h b ≠ none ∧ y ∈ φ b) : ∀ y ∈ S1, y ∉ S2 := by
  intro y hy hy2
  obtain ⟨b, g1, g2, g3⟩ := h1 y hy
  obtain ⟨c, k1, k2, k3⟩ := h2 y hy2
  exact hh.apart b c y g2 k2 (fun e => (List.nodup_append.1 hn).2.2 b g1 c k1 e) g3 k3

theorem frz1s_rep {B : Nat → Prop} {w : World} {h : Hp} {u : Us} {ν : Nu} {φ : Nat → List Nat} (hh : HeapOk B w h u ν φ) : ∀ {xs ds : List AV} {vs : List Value}, All2 (Rep1 w h u ν) xs vs → All2 (frz1 h) xs ds → (xs.flatMap owns1).Nodup →
    ∃ S, ResCells w ds vs S ∧ S.Nodup ∧ (∀ y ∈ S, B y) ∧ ∀ y ∈ S, ∃ b ∈ xs.flatMap owns1, h b ≠ none ∧ y ∈ φ b
  | [], ds, vs, r, m, _ => by simp only [All2] at r m; subst r; subst m; exact ⟨[], ⟨rfl, rfl⟩, by simp, by simp, by simp⟩
  | x :: xs, ds, vs, ⟨v, q, h1, h2, h3⟩, ⟨d, p, g1, g2, g3⟩, hn => by
    subst h1; subst g1
    rw [List.flatMap_cons] at hn
    obtain ⟨S1, a1, a2, a3, a4⟩ := frz1_rep hh h2 g2
    obtain ⟨S2, b1, b2, b3, b4⟩ := frz1s_rep hh h3 g3 (List.nodup_append.1 hn).2.1
    have hap := apart_S hh hn a4 b4
    refine ⟨S1 ++ S2, ⟨v, q, S1, S2, rfl, rfl, a1, b1⟩, List.nodup_append.2 ⟨a2, b2, fun x hx y hy e => hap x hx (e ▸ hy)⟩, ?_, ?_⟩
    · intro y hy
      rcases List.mem_append.1 hy with h | h
      · exact a3 y h
      · exact b3 y h
    · intro y hy
      rw [List.flatMap_cons]
      rcases List.mem_append.1 hy with h | h
      · obtain ⟨b, c1, c2⟩ := a4 y h; exact ⟨b, List.mem_append_left _ c1, c2⟩
      · obtain ⟨b, c1, c2⟩ := b4 y h; exact ⟨b, List.mem_append_right _ c1, c2⟩

theorem frzB_rep {B : Nat → Prop} {w : World} {h : Hp} {u : Us} {ν : Nu} {φ : Nat → List Nat} (hh : HeapOk B w h u ν φ) {x d : AV} {v : Value} (r : RepA w h u ν x v) (m : frzB h x d) (hn : (ownsB x).Nodup) :
    ∃ S, ResB w d v S ∧ S.Nodup ∧ (∀ y ∈ S, B y) ∧ ∀ y ∈ S, ∃ b ∈ ownsB x, h b ≠ none ∧ y ∈ φ b := by
  by_cases ho : ∃ cs ds, x = .agg cs ∧ d = .agg ds
  · obtain ⟨cs, ds, rfl, rfl⟩ := ho
    obtain ⟨vs, rfl, r⟩ := r
    obtain ⟨S, a1, a2, a3, a4⟩ := frz1s_rep hh r m hn
    exact ⟨S, ⟨vs, rfl, a1⟩, a2, a3, a4⟩
  · have m' : frz1 h x d := by cases x <;> cases d <;> first | exact m | exact absurd ⟨_, _, rfl, rfl⟩ ho
    have r' : Rep1 w h u ν x v := by cases x <;> first | exact r | (cases d <;> exact m'.elim)
    obtain ⟨S, a1, a2, a3, a4⟩ := frz1_rep hh r' m'
    refine ⟨S, ?_, a2, a3, ?_⟩
    · cases d <;> first | exact a1 | (cases x <;> exact m'.elim)
    · cases x <;> first | exact a4 | (cases d <;> exact m'.elim)

theorem frzBs_rep {B : Nat → Prop} {w : World} {h : Hp} {u : Us} {ν : Nu} {φ : Nat → List Nat} (hh : HeapOk B w h u ν φ) : ∀ {xs ds : List AV} {vs : List Value}, All2 (RepA w h u ν) xs vs → All2 (frzB h) xs ds → (xs.flatMap ownsB).Nodup →
    ∃ S, ResBs w ds vs S ∧ S.Nodup ∧ (∀ y ∈ S, B y) ∧ ∀ y ∈ S, ∃ b ∈ xs.flatMap ownsB, h b ≠ none ∧ y ∈ φ b
  | [], ds, vs, r, m, _ => by simp only [All2] at r m; subst r; subst m; exact ⟨[], ⟨rfl, rfl⟩, by simp, by simp, by simp⟩
  | x :: xs, ds, vs, ⟨v, q, h1, h2, h3⟩, ⟨d, p, g1, g2, g3⟩, hn => by
    subst h1; subst g1
    rw [List.flatMap_cons] at hn
    obtain ⟨S1, a1, a2, a3, a4⟩ := frzB_rep hh h2 g2 (List.nodup_append.1 hn).1
    obtain ⟨S2, b1, b2, b3, b4⟩ := frzBs_rep hh h3 g3 (List.nodup_append.1 hn).2.1
    have hap := apart_S hh hn a4 b4
    refine ⟨S1 ++ S2, ⟨v, q, S1, S2, rfl, rfl, a1, b1⟩, List.nodup_append.2 ⟨a2, b2, fun x hx y hy e => hap x hx (e ▸ hy)⟩, ?_, ?_⟩
    · intro y hy
      rcases List.mem_append.1 hy with h | h
      · exact a3 y h
      · exact b3 y h
    · intro y hy
      rw [List.flatMap_cons]
      rcases List.mem_append.1 hy with h | h
      · obtain ⟨b, c1, c2⟩ := a4 y h; exact ⟨b, List.mem_append_left _ c1, c2⟩
      · obtain ⟨b, c1, c2⟩ := b4 y h; exact ⟨b, List.mem_append_right _ c1, c2⟩

def isEnd : Exit → Bool
  | .ret => true
  | .normal => true
  | _ => false
def RetQ (T : List (Nat × Ty)) (rvs : List ResultVar) (r : AV) (e : Exit) (s : AState) : Prop := isEnd e = true ∧ ∃ vs, resVars T s rvs = some vs ∧ nodupB (vs.flatMap ownsB) = true ∧ frzs s.heap vs r

def nthA : List AV → Nat → Option AV
  | [], _ => none
  | d :: _, 0 => some d
  | _ :: r, n + 1 => nthA r n
def okArg : AV → Bool
  | .agg cs => cs.all plainD
  | .fn _ cs => cs.all plainD
  | x => plainD x
def s0 (ds : List AV) (ns : List Nat) : AState := ⟨nthA ds, fun _ => none, fun _ => false, ns, 0⟩

theorem free_none (ν : Nu) (x : Nat) : Free (fun _ => none) ν x := fun _ _ _ _ h => by cases h
theorem arg_rep {w : World} {u : Us} {ν : Nu} {d : AV} {v : Value} {S : List Nat} (r : RepD w d v S) (ok : okArg d = true) : RepA w (fun _ => none) u ν d v := by
  cases d <;> simp only [okArg] at ok <;> first
    | (simp only [RepD] at r
       obtain ⟨vs, h1, h2⟩ := r
       exact ⟨vs, h1, h2.rep1 ok (fun y _ => free_none ν y)⟩)
    | exact (r.rep1 ok (fun y _ => free_none ν y)).repA
theorem args_env {w : World} {u : Us} {ν : Nu} : ∀ {ds : List AV} {vs : List Value} {S : List Nat}, RepVs w ds vs S → ds.all okArg = true → ∀ t x, nthA ds t = some x → ∃ v, vs[t]? = some v ∧ RepA w (fun _ => none) u ν x v
  | [], _, _, _, _, t, x, h => by cases h
  | d :: ds, vs, S, r, ok, t, x, h => by
    simp only [RepVs] at r
    obtain ⟨v, q, S1, S2, rfl, rfl, h3, h4⟩ := r
    simp only [List.all_cons, Bool.and_eq_true] at ok
    cases t with
    | zero => simp only [nthA, Option.some.injEq] at h; subst h; exact ⟨v, rfl, arg_rep h3 ok.1⟩
    | succ t => simpa using args_env h4 ok.2 t x (by simpa only [nthA] using h)

theorem hasC_mk {P : Program} {T : List (Nat × Ty)} (hT : TyOk P T) {f : FuncId} {fn : Func} {c : Code} {nt : Nat} {ds : List AV} {r : AV} {rvs : List ResultVar} {ns : List Nat} (hf : P.funcs[f]? = some fn) (hb : fn.body = some c) (hname : (fn.name == "runtime.NumGoroutine") = false) (hnt : fn.ntmps = nt) (hres : fn.results.toList = rvs)
    (hlen : Nat.ble ds.length nt = true) (hok : ds.all okArg = true) (h : AC P nt c (s0 ds ns) (RetQ T rvs r)) : HasC P f ds r := by
  refine ⟨Enters.mk hf (by rw [hb]; rfl) hname, fun w args S hargs => ?_⟩
  refine calls_of_wp hf hb ?_
  have hlen' := Nat.le_of_ble_eq_true hlen
  have hal : args.size = ds.length := by have := hargs.len; simpa using this
  let C : Ctx := ⟨w.heap.size, w, nt, fun x => w.heap.size ≤ x, fun _ h => h, 0, w, fun _ => none, fun _ => none⟩
  have hsim : Sim C (s0 ds ns) (fun _ => none) ⟨args ++ Array.replicate (fn.ntmps - args.size) undef, []⟩ w := by
    refine ⟨Below.refl _ _, Nat.le_refl _, fun _ hx => hx, rfl, by show (args ++ Array.replicate (fn.ntmps - args.size) undef).size = nt; simp [hnt]; omega, ?_, ⟨fun _ => [], fun b blk hb => (by cases hb), fun b c x hb => absurd rfl hb⟩, rfl, ⟨fun b hb => by simp [Nat.blt_eq, C] at hb, fun b blk' hb => by simp [Nat.blt_eq, C] at hb, fun x _ _ => ⟨rfl, fun b blk β c hb => by cases hb⟩⟩⟩
    intro t x hx
    obtain ⟨v, h1, h2⟩ := args_env (u := fun _ => false) (ν := fun _ => none) hargs hok t x hx
    refine ⟨v, ?_, h2⟩
    have hlt : t < args.size := by
      rcases Nat.lt_or_ge t args.size with h' | h'
      · exact h'
      · rw [List.getElem?_eq_none (by simpa using h')] at h1; cases h1
    show (args ++ Array.replicate (fn.ntmps - args.size) undef)[t]? = some v
    rw [Array.getElem?_append_left hlt]
    simpa using h1
  refine wp_mono (h.out C rfl _ _ w hsim) fun e a' w' ⟨s', ν', hq, hs'⟩ => ?_
  obtain ⟨he, avs, hv, hn, hfz⟩ := hq
  obtain ⟨us, h1, h2⟩ := resVars_run hT hs' hv
  obtain ⟨φ, hh⟩ := hs'.heap
  have hn' := nodupB_ok hn
  have hrun : (results fn a'.tmps).run P w' = .ok (if hh : us.toArray.size = 1 then us.toArray[0] else .tuple us.toArray) w' := by
    unfold results
    rw [Sem.run_bind, Array.mapM_eq_mapM_toList, Sem.run_map, hres]
    have h1' := h1
    generalize hq : (List.mapM _ rvs : Sem (List Value)) = m
    rw [show Sem.run P m w' = .ok us w' by rw [← hq]; exact h1']
    simp
  have hres2 : ∃ S', ResA w' r (if hh : us.toArray.size = 1 then us.toArray[0] else .tuple us.toArray) S' ∧ New w.heap.size S' := by
    have hul : us.length = avs.length := h2.len
    unfold frzs at hfz
    split at hfz
    · rename_i v r'
      obtain ⟨u, q, rfl, g1, g2⟩ := h2
      simp only [All2] at g2
      subst g2
      simp only [List.flatMap_cons, List.flatMap_nil, List.append_nil] at hn'
      obtain ⟨S', a1, a2, a3, a4⟩ := frzB_rep hh g1 hfz.1 hn'
      refine ⟨S', ?_, a2, a3⟩
      simp only [List.size_toArray, List.length_cons, List.length_nil, Nat.zero_add, dite_true]
      have hnt := hfz.2
      cases r <;> first | exact a1 | exact absurd rfl (hnt _)
    · rename_i vs rs _
      obtain ⟨S', a1, a2, a3, a4⟩ := frzBs_rep hh h2 hfz.2 hn'
      refine ⟨S', ?_, a2, a3⟩
      rw [dif_neg (by simp; rw [hul]; exact hfz.1)]
      exact ⟨us, rfl, a1⟩
    · exact hfz.elim
  obtain ⟨S', hr1, hr2⟩ := hres2
  have hend : bodyPost P fn (fun e w' => ∃ v S', e = .returned v ∧ Below w.heap.size w w' ∧ ResA w' r v S' ∧ New w.heap.size S') .ret a' w' := ⟨hs'.defers, _, hrun, _, S', rfl, hs'.below, hr1, hr2⟩
  cases e <;> simp only [isEnd, Bool.false_eq_true] at he <;> exact hend
end Go.Proofs.Ytjfcjkeghigipaa

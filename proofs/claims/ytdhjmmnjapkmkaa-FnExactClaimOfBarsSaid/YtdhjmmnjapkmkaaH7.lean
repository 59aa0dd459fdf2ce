/-
  Several texts of the claim in one: each begins with its own remark.
-/
import Derived.Lib.AppendZerosOnto
import Derived.Test.YtdhjmmnjapkmkaaH6
section
set_option linter.unusedVariables false
set_option linter.unusedSimpArgs false

namespace Go.Proofs.Ytdhjmmnjapkmkaa
open Go.RowKit
set_option linter.unusedVariables false
set_option maxRecDepth 10000
structure HasV (P : Program) (f : FuncId) (ds : List AV) (r : AV) : Prop where
 enters : Enters P f
 calls : ∀ (w : World) (args : Array Value) (S : List Nat), RepVs w ds args.toList S → Calls P f args w fun e w' => ∃ v S', e = .returned v ∧ Below w.heap.size w w' ∧ RepD w' r v S' ∧ ∀ x ∈ S', x ∈ S
theorem rep1_data {w : World} {h : Hp} {u : Us} {ν : Nu} {d : AV} {v : Value} (r : Rep1 w h u ν d v) (ok : plainD d = true) : ∃ S, RepD w d v S ∧ ∀ x ∈ S, FreeO h ν x := by
 cases d <;> simp only [plainD, Bool.false_eq_true] at ok <;> simp only [Rep1] at r
 ·exact ⟨[], by rw [r.1]; exact repD_sc r.2, by simp⟩
 ·exact r
 ·exact r
theorem rep1s_data {w : World} {h : Hp} {u : Us} {ν : Nu} : ∀ {ds : List AV} {vs : List Value}, All2 (Rep1 w h u ν) ds vs → ds.all plainD = true → ∃ S, RepVs w ds vs S ∧ ∀ x ∈ S, FreeO h ν x
 | [], vs, r, _ => by simp only [All2] at r; subst r; exact ⟨[], by simp [RepVs], by simp⟩
 | d :: ds, vs, ⟨v, q, e, r1, r2⟩, ok => by
  subst e
  simp only [List.all_cons, Bool.and_eq_true] at ok
  obtain ⟨S1, a1, a2⟩ := rep1_data r1 ok.1
  obtain ⟨S2, b1, b2⟩ := rep1s_data r2 ok.2
  refine ⟨S1 ++ S2, by simp only [RepVs]; exact ⟨v, q, S1, S2, rfl, rfl, a1, b1⟩, fun x hx => ?_⟩
  rcases List.mem_append.1 hx with h | h
  ·exact a2 x h
  ·exact b2 x h
theorem repA_data {w : World} {h : Hp} {u : Us} {ν : Nu} {d : AV} {v : Value} (r : RepA w h u ν d v) (ok : okArg d = true) : ∃ S, RepD w d v S ∧ ∀ x ∈ S, FreeO h ν x := by
 cases d <;> simp only [okArg, plainD, Bool.false_eq_true] at ok <;> simp only [RepA, RepB] at r
 ·exact rep1_data r rfl
 ·exact rep1_data r rfl
 ·exact rep1_data r rfl
 ·obtain ⟨vs, rfl, r⟩ := r
  obtain ⟨S, a, b⟩ := rep1s_data r ok
  exact ⟨S, by simp only [RepD]; exact ⟨vs, rfl, a⟩, b⟩
 ·obtain ⟨vs, rfl, r⟩ := r
  obtain ⟨S, a, b⟩ := rep1s_data r ok
  exact ⟨S, by simp only [RepD]; exact ⟨vs, rfl, a⟩, b⟩
theorem repAs_data {w : World} {h : Hp} {u : Us} {ν : Nu} : ∀ {ds : List AV} {vs : List Value}, All2 (RepA w h u ν) ds vs → ds.all okArg = true → ∃ S, RepVs w ds vs S ∧ ∀ x ∈ S, FreeO h ν x
 | [], vs, r, _ => by simp only [All2] at r; subst r; exact ⟨[], by simp [RepVs], by simp⟩
 | d :: ds, vs, ⟨v, q, e, r1, r2⟩, ok => by
  subst e
  simp only [List.all_cons, Bool.and_eq_true] at ok
  obtain ⟨S1, a1, a2⟩ := repA_data r1 ok.1
  obtain ⟨S2, b1, b2⟩ := repAs_data r2 ok.2
  refine ⟨S1 ++ S2, by simp only [RepVs]; exact ⟨v, q, S1, S2, rfl, rfl, a1, b1⟩, fun x hx => ?_⟩
  rcases List.mem_append.1 hx with h | h
  ·exact a2 x h
  ·exact b2 x h
section
variable {P : Program} {dst : Option Tmp} {ty : TypeId} {pos : String} {aft : Array Edge} {g : Option (Nat × Bool)} {ins : Operand → Option AV} {hp : Hp} {κ : Kp}
theorem eff_hasV {fo : Operand} {xs : Array Operand} {ats : Array TypeId} {f : FuncId} {ds : List AV} {k : Nat} {es : List (List AV)} (hc : HasV P f ds (.list k es)) (hf : ins fo = some (.fn f [])) (hx : evs ins xs.toList = some ds) (hok : ds.all okArg = true) :
  AEff P ⟨dst, .call ⟨.value fo, xs, ats⟩, ty, pos, aft, g⟩ ins hp κ ⟨.list k es, [], [], []⟩ := by
 refine ⟨fun C s ν a w Q K {hκ} hi' ht hnw hd hs hK => ?_⟩
 have h1 := hs.ev ((hi' fo (by simp [Op.operands, Call.operands])).trans hf)
 simp only [RepA, RepB] at h1
 obtain ⟨cv, h1, h2⟩ := h1
 simp only [All2] at h2
 subst h2
 have h3 := evs_rep hs (xs := xs.toList) (fun y hy => hi' y (by simp [Op.operands, Call.operands]; exact .inr (Array.mem_toList_iff.1 hy))) hx
 obtain ⟨S, e1, e2⟩ := repAs_data h3 hok
 have hcall := hc.calls w (xs.map a.eval) S (by simpa using e1)
 unfold Oper.wp
 have hex : (execOp a.eval ⟨dst, .call ⟨.value fo, xs, ats⟩, ty, pos, aft, g⟩).run P w = .ok (.enter f (xs.map a.eval)) w := by
  have : execOp a.eval ⟨dst, .call ⟨.value fo, xs, ats⟩, ty, pos, aft, g⟩ = callFunc f (xs.map a.eval) := by
   simp [execOp, resolve, h1, Deferred.ofValue, invoke]
  rw [this]
  exact hc.enters _ _
 rw [hex]
 simp only [Oper.upon]
 refine hcall.mono fun e w' ⟨v, S', he, hb, hr, hsub⟩ => ?_
 subst he
 simp only
 obtain ⟨φ, hh⟩ := hs.heap
 have ext : Ext w s.heap s.used ν w' s.heap s.used ν := ⟨fun _ h => h, fun _ blk _ h => ⟨blk, h, rfl, rfl, rfl⟩, fun x hx h => ⟨hb.block x hx, h⟩, rfl⟩
 refine hK ν _ _ (hs.step hd (s' := s.app dst _) ext (hb.mono hs.base) ⟨φ, fun b blk hbl => ?_, hh.apart⟩ rfl ?_)
 ·obtain ⟨g1, g2, g3, g4⟩ := hh.blk b blk hbl
  exact ⟨g1, g2.ext ext rfl (fun y hy => hb.block y (g2.lt y hy)), g3, g4⟩
 ·exact ⟨S', hr, fun x hx => e2 x (hsub x hx)⟩
theorem x_slice_sc {T : List (Nat × Ty)} (hT : TyOk P T) {s : AState} {x : Operand} {zl zh : Operand} {t e : Nat} {y ye : Ty} {ao : Option Addr} {n c : Nat} {kl kh : IntKind} {l h : Int} (q : 0 ≤ l ∧ l ≤ h ∧ h ≤ n ∧ n ≤ c) (hx : s.ev x = some (.sc (.slice ao n c))) (hlo : s.ev zl = some (.sc (.int kl l))) (hhi : s.ev zh = some (.sc (.int kh h))) (hy : tyOf T t = some y) (hd : y.desc = .slice e) (hye : tyOf T e = some ye) :
  AEff P ⟨dst, .slice t x (some zl) (some zh) none, ty, pos, aft, g⟩ s.ev s.heap s.kp ⟨.sc (.slice (if c = l.toNat then ao else ao.map (·.add (l.toNat * ye.size))) (h.toNat - l.toNat) (c - l.toNat)), [], [], []⟩ := by
 refine AEff.pure fun C s' ν a w hi' ht hs => ?_
 have h1 := hs.ev ((hi' x (by simp [Op.operands])).trans hx)
 have h2 := hs.ev ((hi' zl (by simp [Op.operands])).trans hlo)
 have h3 := hs.ev ((hi' zh (by simp [Op.operands])).trans hhi)
 simp only [RepA, RepB, Rep1] at h1 h2 h3
 obtain ⟨i1, z1, d1, y1⟩ := hT.is hy
 obtain ⟨i2, z2, d2, y2⟩ := hT.is hye
 have hsb := sliceBounds_run (P := P) (len := n) (cap := c) (lo := some (.int kl l)) (hi := some (.int kh h)) w (.inr ⟨kl, rfl⟩) (.inr ⟨kh, rfl⟩) q.1 q.2.1 q.2.2.1 q.2.2.2
 refine ⟨_, ?_, repA_sc rfl⟩
 simp only [execOp, Instr.sliceAt, Instr.slice, h1.1, h2.1, h3.1, Sem.run_bind, run_und (y1.slice hd), Result.andThen_ok, run_size y2.info, y2.size, Option.map_none, Option.map_some]
 rw [hsb]
 by_cases e : c = l.toNat <;> simp [e]
end
theorem part_data {w : World} {k n c : Nat} {es : List (List AV)} {ao : Option Addr} {S : List Nat} {l h : Int} (r : RepD w (.list k es) (.slice ao n c) S) (q : 0 ≤ l ∧ l ≤ h ∧ h ≤ n) : ∃ S', RepD w (.list k ((es.drop l.toNat).take (h.toNat - l.toNat))) (.slice (if c = l.toNat then ao else ao.map (·.add (l.toNat * k))) (h.toNat - l.toNat) (c - l.toNat)) S' ∧ ∀ x ∈ S', x ∈ S := by
 simp only [RepD] at r ⊢
 obtain ⟨ao', c', h3, h4, h5, h6⟩ := r
 cases h3
 have hlen : ((es.drop l.toNat).take (h.toNat - l.toNat)).length = h.toNat - l.toNat := by simp; omega
 rw [hlen]
 by_cases hz : h.toNat - l.toNat = 0
 ·refine ⟨[], ⟨_, _, rfl, by omega, by omega, .inl ⟨?_, rfl⟩⟩, by simp⟩
  rw [hz]; simp
 ·rcases h6 with ⟨h6, _⟩ | ⟨b, o, S', rfl, h8, rfl, h9⟩
  ·have : es.length = 0 := by rw [h6]; rfl
   omega
  ·rw [if_neg (by omega)]
   obtain ⟨U1, g1, g2⟩ := h9.dropT (m := l.toNat)
   obtain ⟨U2, g3, g4⟩ := g1.takeT (m := h.toNat - l.toNat)
   refine ⟨b :: U2, ⟨_, _, rfl, by omega, by omega, .inr ⟨b, o + l.toNat * k, U2, by simp [Addr.add_lit], h8, rfl, g3⟩⟩, ?_⟩
   intro y hy
   rcases List.mem_cons.1 hy with rfl | h'
   ·simp
   ·simp [g2 y (g4 y h')]
def rowLo (m : Mt) (i : Int) : Int := wr (i * m.cols)
def rowHi (m : Mt) (i : Int) : Int := wr (wr (i + 1) * m.cols)
def m_rowD (m : Mt) (i : Int) : Option (List Int) := bif (decide (0 ≤ rowLo m i) && (decide (rowLo m i ≤ rowHi m i) && decide (rowHi m i ≤ (m.cells.length : Int)))) then some ((m.cells.drop (rowLo m i).toNat).take ((rowHi m i).toNat - (rowLo m i).toNat)) else none
theorem c_rowV (m : Mt) (i : Int) (ao : Option Addr) (n c : Nat) (q : 0 ≤ rowLo m i ∧ rowLo m i ≤ rowHi m i ∧ rowHi m i ≤ n ∧ n ≤ c) : HasC Try.prog 137 [.agg [.int m.rows, .int m.cols, .sc (.slice ao n c)], .int i]
  (.sc (.slice (if c = (rowLo m i).toNat then ao else ao.map (·.add ((rowLo m i).toNat * 1))) ((rowHi m i).toNat - (rowLo m i).toNat) (c - (rowLo m i).toNat))) := by
 refine hasC_mk TT_ok (rvs := [.tmp 4]) (ns := [0, 1, 2, 3, 4, 5, 6, 7, 8, 9, 10, 11, 12, 13]) Try.func137 rfl rfl Try.ntmps137 rfl rfl rfl ?_
 refine ac_seq ?_
 refine ac_region ?_
 refine aops_eff (w_box rfl rfl rfl rfl) rfl rfl rfl ?_
 refine aops_eff (eff_assign rfl) rfl rfl rfl ?_
 refine aops_nil ?_
 refine then_n ?_
 refine ac_seq ?_
 refine ac_region ?_
 refine aops_eff (w_field_ptr TT_ok rfl rfl rfl rfl rfl rfl rfl) rfl rfl rfl ?_
 refine aops_eff (w_load_ptr TT_ok rfl rfl rfl rfl rfl rfl rfl) rfl rfl rfl ?_
 refine aops_eff (eff_move rfl) rfl rfl rfl ?_
 refine aops_eff (w_field_ptr TT_ok rfl rfl rfl rfl rfl rfl rfl) rfl rfl rfl ?_
 refine aops_eff (w_load_ptr TT_ok rfl rfl rfl rfl rfl rfl rfl) rfl rfl rfl ?_
 refine aops_eff (x_mul rfl rfl) rfl rfl rfl ?_
 refine aops_eff (eff_move rfl) rfl rfl rfl ?_
 refine aops_eff (x_add rfl rfl) rfl rfl rfl ?_
 refine aops_eff (w_field_ptr TT_ok rfl rfl rfl rfl rfl rfl rfl) rfl rfl rfl ?_
 refine aops_eff (w_load_ptr TT_ok rfl rfl rfl rfl rfl rfl rfl) rfl rfl rfl ?_
 refine aops_eff (x_mul rfl rfl) rfl rfl rfl ?_
 refine aops_eff (x_slice_sc TT_ok (l := rowLo m i) (h := rowHi m i) q rfl rfl rfl rfl rfl rfl) rfl rfl rfl ?_
 refine aops_eff (eff_assign rfl) rfl rfl rfl ?_
 refine aops_nil ?_
 refine then_n ?_
 refine ac_ret ?_
 exact ret_mk rfl rfl rfl (fz_sc rfl)
theorem c_rowD (m : Mt) (i : Int) (r : List Int) (h : m_rowD m i = some r) : HasV Try.prog 137 [.agg (eM m), .int i] (.list 1 (List.map eI r)) := by
 obtain ⟨q, h⟩ := cg h
 obtain rfl := so h
 simp only [Bool.and_eq_true, decide_eq_true_eq] at q
 refine ⟨Enters.mk Try.func137 (by kernel_rfl) (by kernel_rfl), fun w args S hargs => ?_⟩
 obtain ⟨args⟩ := args
 simp only [RepVs] at hargs
 obtain ⟨v, r, S1, S2, h1, rfl, h3, v2, r2, S3, S4, h4, rfl, h5, rfl, rfl⟩ := hargs
 subst h4 h1
 simp only [RepD, eM] at h3
 obtain ⟨vs, rfl, h3⟩ := h3
 simp only [RepVs] at h3
 obtain ⟨u1, r1, T1, T2, rfl, rfl, g1, u2, r3, T3, T4, rfl, rfl, g2, u3, r4, T5, T6, rfl, rfl, g3, rfl, rfl⟩ := h3
 have hu3 : ∃ ao n c, u3 = .slice ao n c ∧ n = m.cells.length ∧ n ≤ c := by
  simp only [RepD] at g3
  obtain ⟨a, c, rfl, g4, _⟩ := g3
  exact ⟨_, _, _, rfl, by simp [encI_len], g4⟩
 obtain ⟨ao, n, c, rfl, hn, hnc⟩ := hu3
 have hcall := (c_rowV m i ao n c ⟨q.1, q.2.1, by omega, hnc⟩).calls w #[.agg #[u1, u2, .slice ao n c], v2] (T1 ++ (T3 ++ ([] ++ [])) ++ (S3 ++ [])) (by
  simp only [RepVs]
  refine ⟨_, _, _, _, rfl, rfl, ?_, _, _, _, _, rfl, rfl, h5, rfl, rfl⟩
  simp only [RepD]
  refine ⟨[u1, u2, .slice ao n c], rfl, ?_⟩
  simp only [RepVs]
  exact ⟨_, _, _, _, rfl, rfl, by simpa only [RepD] using g1, _, _, _, _, rfl, rfl, by simpa only [RepD] using g2, _, _, [], [], rfl, rfl, repD_sc rfl, rfl, rfl⟩)
 refine hcall.mono fun e w' ⟨v, S', he, hb, hr, _⟩ => ?_
 simp only [ResA, ResB, ResCell] at hr
 obtain ⟨rfl, _, _⟩ := hr
 obtain ⟨U, k1, k2⟩ := part_data (l := rowLo m i) (h := rowHi m i) g3 ⟨q.1, q.2.1, by omega⟩
 refine ⟨_, U, he, hb, ?_, ?_⟩
 ·have hes : ((encI m.cells).drop (rowLo m i).toNat).take ((rowHi m i).toNat - (rowLo m i).toNat) = List.map eI ((m.cells.drop (rowLo m i).toNat).take ((rowHi m i).toNat - (rowLo m i).toNat)) := by
   show ((m.cells.map eI).drop _).take _ = _
   rw [List.map_take, List.map_drop]
  rw [← hes]
  exact k1.below hb
 ·intro x hx
  have := k2 x hx
  simp [this]
def sameE (hp : Hp) (touch : List Nat) : List (Nat × Option Blk) → Prop
 | [] => True
 | (b, x) :: r => hp b = x ∧ touch.contains b = true ∧ sameE hp touch r
theorem editHp_same {hp h : Hp} {touch : List Nat} (ht : ∀ b ∈ touch, h b = hp b) : ∀ {ed : List (Nat × Option Blk)}, sameE hp touch ed → editHp ed h = h
 | [], _ => rfl
 | (b, x) :: r, ⟨h1, h2, h3⟩ => by
  funext c
  simp only [editHp]
  by_cases e : c = b
  ·subst e
   rw [beq_self, cond_true, ← h1, ht c (by simpa using h2)]
  ·rw [beq_ne e, cond_false, editHp_same ht h3]
theorem AEff.pureE {P : Program} {o : Oper} {ins : Operand → Option AV} {hp : Hp} {κ : Kp} {v : AV} {tc : List Nat} {ed : List (Nat × Option Blk)} (h : AEff P o ins hp κ ⟨v, tc, ed, []⟩) (hs : sameE hp tc ed) : AEff P o ins hp κ ⟨v, tc, [], []⟩ := by
 refine ⟨fun C s ν a w Q K {hκ} hi ht hn hd hsim hK => h.out C s ν a w Q K (hκ := hκ) hi ht hn hd hsim fun ν' a' w' hs' => hK ν' a' w' ?_⟩
 have e : s.app o.dst ⟨v, tc, ed, []⟩ = s.app o.dst ⟨v, tc, [], []⟩ := by
  unfold AState.app
  rw [editHp_same ht hs]
  rfl
 rw [← e]
 exact hs'
theorem rep_matchS {σ : Nat → Option Nat} {n : Nat} {α : Type} {e : α → List AV} {z : α} {zc : List AV} (h : All2 (matchC σ n) zc (ow e z)) (m : Nat) : All2 (All2 (matchC σ n)) (List.replicate m zc) ((List.replicate m z).map (ow e)) := by
 induction m with
 | zero => rfl
 | succ m ih => exact ⟨_, _, rfl, h, ih⟩
end Go.Proofs.Ytdhjmmnjapkmkaa
end

section
set_option linter.unusedVariables false
set_option linter.unusedSimpArgs false

namespace Go.Proofs.Ytdhjmmnjapkmkaa
open Go.RowKit
set_option linter.unusedVariables false
structure HasT (P : Program) (f : FuncId) (ds : List AV) (hl : List (Nat × Blk)) (kp : Nat) (r : AV) (hl' : List (Nat × Blk)) : Prop where
 enters : Enters P f
 calls : ∀ (B : Nat) (M : Nat → Prop) (w : World) (args : Array Value) (ν : Nu) (φ : Nat → List Nat), (∀ x, M x → B ≤ x) → B ≤ w.heap.size → (∀ x, w.heap.size ≤ x → M x) → (∀ x, M x → ν.ok x) → All2 (RepA w (hpL hl) (ltb kp) ν) ds args.toList → HeapOk M w (hpL hl) (ltb kp) ν φ →
  Calls P f args w fun e w' => ∃ v u' ν' φ', e = .returned v ∧ Below B w w' ∧ ExtF (fun x => ¬ M x) w (hpL hl) (ltb kp) ν w' (hpL hl') u' ν' ∧ HeapOk M w' (hpL hl') u' ν' φ' ∧ RepA w' (hpL hl') u' ν' r v
theorem free_of {M : Nat → Prop} {w : World} {h : Hp} {u : Us} {ν : Nu} {φ : Nat → List Nat} (hh : HeapOk M w h u ν φ) {x : Nat} (hx : ¬ M x) : Free h ν x := by
 intro b blk β c hb hν e
 subst e
 obtain ⟨_, g2, _, g4⟩ := hh.blk b blk hb
 exact hx (g4 _ (blk_main g2 hν))
theorem ExtF.shrink {F : Nat → Prop} {w w' : World} {h h' g : Hp} {u u' : Us} {ν ν' : Nu} (e : ExtF F w h u ν w' h' u' ν') (hg : ∀ b blk, g b = some blk → h' b = some blk) : ExtF F w h u ν w' g u' ν' :=
 ⟨e.used, fun b blk hb hgb => e.old b blk hb (hg b blk hgb), fun x hx hf => ⟨(e.free x hx hf).1, fun b blk β c hb hν => (e.free x hx hf).2 b blk β c (hg b blk hb) hν⟩, e.okE⟩
theorem hasT_mk {P : Program} {T : List (Nat × Ty)} (hT : TyOk P T) {f : FuncId} {fn : Func} {c : Code} {nt kp : Nat} {ds : List AV} {hl hl' : List (Nat × Blk)} {r : AV} {rvs : List ResultVar} {ns : List Nat} (hf : P.funcs[f]? = some fn) (hb : fn.body = some c) (hname : (fn.name == "runtime.NumGoroutine") = false) (hnt : fn.ntmps = nt) (hres : fn.results.toList = rvs)
  (hlen : Nat.ble ds.length nt = true) (h : AC P nt c ⟨nthA ds, hpL hl, ltb kp, ns, ⟨kp, true, none, true⟩⟩ (fun e t => ∃ t', Ent t t' ∧ RetE T rvs r hl' e t')) : HasT P f ds hl kp r hl' := by
 refine ⟨Enters.mk hf (by rw [hb]; rfl) hname, fun B M w args ν φ hMB hB hM hMo hargs hheap => ?_⟩
 refine (callsIn_wide (n := 0)).1 (callsIn_of_wp_marks (F := fw none) hf hb trivial ?_)
 have hlen' := Nat.le_of_ble_eq_true hlen
 have hal : args.size = ds.length := by have := hargs.len; simpa using this
 let C : Ctx := ⟨B, w, nt, M, hMB, ⟨kp, true, none, true⟩, w, hpL hl, ν, fun x => ¬ M x, (fun _ x _ hm hn => hn hm), (fun _ h => by cases h), none, fun _ => rfl⟩
 have hsim : Sim C ⟨nthA ds, hpL hl, ltb kp, ns, ⟨kp, true, none, true⟩⟩ ν ⟨args ++ Array.replicate (fn.ntmps - args.size) undef, []⟩ w := by
  refine ⟨Below.refl _ _, hB, hM, okD_nil, by show (args ++ Array.replicate (fn.ntmps - args.size) undef).size = nt; simp [hnt]; omega, ?_, ⟨φ, hheap⟩, rfl, ExtF.refl fun _ _ h => free_of hheap h, Nat.le_refl _, hMo, fun _ h => by cases h⟩
  intro t x hx
  have hx' : ds[t]? = some x := by rw [← nthA_get]; exact hx
  obtain ⟨v, h1, h2⟩ := hargs.get hx'
  refine ⟨v, ?_, h2⟩
  have hlt : t < args.size := by
   rcases Nat.lt_or_ge t args.size with h' | h'
   ·exact h'
   ·rw [List.getElem?_eq_none (by simpa using h')] at h1; cases h1
  show (args ++ Array.replicate (fn.ntmps - args.size) undef)[t]? = some v
  rw [Array.getElem?_append_left hlt]
  simpa using h1
 refine wpIn_mono (h.out C rfl _ _ w hsim 0) fun e a' w0 ⟨s1, ν1, ⟨s', hent, hq⟩, hs1⟩ => ?_
 obtain ⟨ν', hs0⟩ := hent C ν1 a' w0 hs1
 obtain ⟨Ds, d1, d2, d3⟩ := hs0.defers
 obtain ⟨w', hs', hleave⟩ := hs0.leave (P := P) (n := 0) d1 d2 d3
 obtain ⟨he, ⟨avs, hv, hone⟩, hsame⟩ := hq
 have hsub : ∀ b blk, hpL hl' b = some blk → s'.heap b = some blk := fun b blk hb => sameL_mem hsame (hpL_mem hb)
 obtain ⟨us, h1, h2⟩ := resVars_run hT hs' hv
 obtain ⟨φ', hh⟩ := hs'.heap
 have hrun : (results fn a'.tmps).run P w' = .ok (if hh : us.toArray.size = 1 then us.toArray[0] else .tuple us.toArray) w' := by
  unfold results
  rw [Sem.run_bind, Array.mapM_eq_mapM_toList, Sem.run_map, hres]
  have h1' := h1
  generalize hq : (List.mapM _ rvs : Sem (List Value)) = m
  rw [show Sem.run P m w' = .ok us w' by rw [← hq]; exact h1']
  simp
 have shr := (Ext.refl w' s'.heap s'.used ν').shrink hsub
 have hrep : RepA w' (hpL hl') s'.used ν' r (if hh : us.toArray.size = 1 then us.toArray[0] else .tuple us.toArray) := by
  rcases hone with rfl | ⟨g1, g2, rfl⟩
  ·obtain ⟨u, q, rfl, k1, k2⟩ := h2
   simp only [All2] at k2
   subst k2
   exact k1.ext shr
  ·have hul : us.length = avs.length := h2.len
   rw [dif_neg (by simp; rw [hul]; exact g1)]
   refine ⟨us, rfl, h2.congrM fun x hx v hr => ?_⟩
   exact repA_B (hr.ext shr) (List.all_eq_true.1 g2 x hx)
 have hend := hleave fn (fun e w' => ∃ v u' ν' φ', e = .returned v ∧ Below B w w' ∧ ExtF (fun x => ¬ M x) w (hpL hl) (ltb kp) ν w' (hpL hl') u' ν' ∧ HeapOk M w' (hpL hl') u' ν' φ' ∧ RepA w' (hpL hl') u' ν' r v)
  ⟨_, hrun, _, s'.used, ν', φ', rfl, hs'.below, hs'.ext.shrink hsub, hh.shrink hsub (fun _ _ _ _ h => h), hrep⟩
 cases e <;> simp only [isEnd, Bool.false_eq_true] at he <;> exact hend
structure SOps (P : Program) (ops : Array Oper) (nt : Nat) (l : List Oper) (s : AState) (K : AState → Prop) : Prop where
 out : ∀ (C : Ctx), C.nt = nt → ∀ (ν : Nu) (a : Act) (w : World), Sim C s ν a w → ∀ (n : Nat) (Q : Exit → Act → World → Prop), (∀ s' ν' a' w', K s' → Sim C s' ν' a' w' → Q .normal a' w') → wpListIn (fw C.rd) n P ops Q l a w
section
variable {P : Program} {ops : Array Oper} {nt : Nat} {l : List Oper} {s : AState} {K : AState → Prop}
theorem sops_nil (h : K s) : SOps P ops nt [] s K := ⟨fun C hC ν a w hs n Q hQ => hQ s ν a w h hs⟩
theorem sops_ent {t : AState} (e : Ent s t) (h : SOps P ops nt l t K) : SOps P ops nt l s K := ⟨fun C hC ν a w hs n Q hQ => by
 obtain ⟨ν', hs'⟩ := e C ν a w hs
 exact h.out C hC ν' a w hs' n Q hQ⟩
theorem sops_eff {d : Option Tmp} {op : Op} {ty : TypeId} {pos : String} {aft : Array Edge} {g : Option (Nat × Bool)} {e : Eff} (he : AEff P ⟨d, op, ty, pos, aft, g⟩ s.ev s.heap s.kp e) (hd : dstB ⟨d, op, ty, pos, aft, g⟩ nt = true) (hg : wantedA ops s.env ⟨d, op, ty, pos, aft, g⟩ = some true) (hn : (e.news.all fun b => !s.used b) = true)
  (h : SOps P ops nt l (s.app d e) K) : SOps P ops nt (⟨d, op, ty, pos, aft, g⟩ :: l) s K := ⟨fun C hC ν a w hs n Q hQ => by
 subst hC
 refine wpListIn_step fun K' hK' => ?_
 have hst : Step P ops C.nt ⟨d, op, ty, pos, aft, g⟩ s e := ⟨dstB_ok hd, .inl ⟨hg, he, fun b hb => by have := List.all_eq_true.1 hn b hb; simpa using this⟩⟩
 exact step_sound hst hs fun ν' a' w' hs' => hK' _ _ (h.out C rfl ν' a' w' hs' n Q hQ)⟩
theorem ac_regionS {Q : Exit → AState → Prop} {id : Nat} (h : SOps P l.toArray nt l s (Q .normal)) : AC P nt (.region id l.toArray false) s Q := by
 refine ⟨fun C hC ν a w hs n => ?_⟩
 exact wpIn_region_lit (h.out C hC ν a w hs n _ fun s' ν' a' w' hq hs' => ⟨s', ν', hq, hs'⟩)
end
def df1 : AV → Bool
 | .sc _ => true
 | .nil _ => true
 | .dead => true
 | .own _ _ _ => true
 | .ptr _ _ _ => true
 | _ => false
def dfC : AV → Bool
 | .abs _ _ => true
 | x => df1 x
def dfB : AV → Bool
 | .agg cs => cs.all df1
 | x => df1 x
def dfA : AV → Bool
 | .tuple cs => cs.all dfB
 | x => dfB x
section
variable {w w' : World} {h h' : Hp} {u u' : Us} {ν ν' : Nu} (U : ∀ b, u b = true → u' b = true) (O : ∀ b blk', u b = true → h' b = some blk' → ∃ blk, h b = some blk ∧ blk.k = blk'.k ∧ blk.es.length = blk'.es.length ∧ ν' b = ν b)
include U O
theorem df1_rep : ∀ {x : AV} {v : Value}, Rep1 w h u ν x v → df1 x = true → Rep1 w' h' u' ν' x v := by
 intro x v r t
 cases x <;> simp only [df1, Bool.false_eq_true] at t <;> simp only [Rep1] at r ⊢
 ·exact r
 ·exact r
 ·refine ⟨U _ r.1, fun blk hb => ?_⟩
  obtain ⟨blk0, e1, e2, e3, e4⟩ := O _ blk r.1 hb
  have := r.2 blk0 e1
  rw [e4, ← e3, ← e2]
  exact this
 ·refine ⟨U _ r.1, fun blk hb => ?_⟩
  obtain ⟨blk0, e1, e2, e3, e4⟩ := O _ blk r.1 hb
  have := r.2 blk0 e1
  rw [e4, ← e2]
  exact this
end
section
variable {w w' : World} {h h' : Hp} {u u' : Us} {ν ν' : Nu} (U : ∀ b, u b = true → u' b = true) (O : ∀ b blk', u b = true → h' b = some blk' → ∃ blk, h b = some blk ∧ blk.k = blk'.k ∧ blk.es.length = blk'.es.length ∧ ν' b = ν b)
include U O
theorem df1s_rep : ∀ {xs : List AV} {vs : List Value}, All2 (Rep1 w h u ν) xs vs → xs.all df1 = true → All2 (Rep1 w' h' u' ν') xs vs
 | [], vs, r, _ => r
 | x :: xs, vs, ⟨v, q, e, r, k⟩, t => by
  simp only [List.all_cons, Bool.and_eq_true] at t
  exact ⟨v, q, e, df1_rep U O r t.1, df1s_rep k t.2⟩
theorem dfB_rep {x : AV} {v : Value} (r : RepB w h u ν x v) (t : dfB x = true) : RepB w' h' u' ν' x v := by
 cases x <;> simp only [RepB] at r ⊢ <;> first
  | exact df1_rep U O r t
  | (obtain ⟨vs, e, r⟩ := r; exact ⟨vs, e, df1s_rep U O r t⟩)
  | (simp only [dfB, df1, Bool.false_eq_true] at t)
theorem dfA_rep {x : AV} {v : Value} (r : RepA w h u ν x v) (t : dfA x = true) : RepA w' h' u' ν' x v := by
 by_cases ht : ∃ cs, x = .tuple cs
 ·obtain ⟨cs, rfl⟩ := ht
  obtain ⟨vs, e, r⟩ := r
  refine ⟨vs, e, r.congrM fun y hy d hd => dfB_rep U O hd ?_⟩
  exact List.all_eq_true.1 t y hy
 ·have r' : RepB w h u ν x v := by cases x <;> first | exact r | exact absurd ⟨_, rfl⟩ ht
  have t' : dfB x = true := by cases x <;> first | exact t | exact absurd ⟨_, rfl⟩ ht
  have := dfB_rep (w' := w') U O r' t'
  cases x <;> first | exact this | exact absurd ⟨_, rfl⟩ ht
theorem dfC_rep {x : AV} {v : Value} {S : List Nat} (hk : ∀ b ∈ S, w'.heap[b]? = w.heap[b]?) (r : CellRep w h u ν x v S) (t : dfC x = true) : CellRep w' h' u' ν' x v S := by
 cases x <;> simp only [CellRep] at r ⊢ <;> first
  | exact ⟨df1_rep U O r.1 t, r.2⟩
  | exact r.keep hk
  | exact r
theorem dfCs_rep : ∀ {xs : List AV} {vs : List Value} {S : List Nat}, (∀ b ∈ S, w'.heap[b]? = w.heap[b]?) → CellsRep w h u ν xs vs S → (∀ c ∈ xs, dfC c = true) → CellsRep w' h' u' ν' xs vs S
 | [], _, _, _, r, _ => r
 | x :: xs, vs, S, hk, ⟨v, q, S1, S2, e1, e2, r, k⟩, t => by
  subst e2
  exact ⟨v, q, S1, S2, e1, rfl, dfC_rep U O (fun b hb => hk b (by simp [hb])) r (t x (by simp)), dfCs_rep (fun b hb => hk b (by simp [hb])) k (fun c hc => t c (by simp [hc]))⟩
theorem dfBlk_rep {b : Nat} {blk : Blk} {S : List Nat} (hν : ν' b = ν b) (hk : ∀ x ∈ S, w'.heap[x]? = w.heap[x]?) (r : BlkOk w h u ν b blk S) (t : ∀ cs ∈ blk.es, ∀ c ∈ cs, dfC c = true) : BlkOk w' h' u' ν' b blk S := by
 refine ⟨r.1, ?_⟩
 rcases r.2 with ⟨q1, q2, q3⟩ | ⟨β, c, arr, ty, T, vs, q1, q2, q3, q4, q5, q6, q7, q8⟩
 ·exact .inl ⟨hν.trans q1, q2, q3⟩
 ·subst q6
  refine .inr ⟨β, c, arr, ty, T, vs, hν.trans q1, (hk β (by simp)).trans q2, q3, q4, q5, rfl, q7, dfCs_rep U O (fun x hx => hk x (by simp [hx])) q8 fun c hc => ?_⟩
  obtain ⟨cs, hcs, hc⟩ := List.mem_flatten.1 hc
  exact t cs hcs c hc
end
section
variable {P : Program} {ops : Array Oper} {nt : Nat} {l : List Oper} {s : AState} {K : AState → Prop} {dst : Option Tmp} {ty : TypeId} {pos : String} {aft : Array Edge}
theorem sops_T {fo : Operand} {xs : Array Operand} {ats : Array TypeId} {f : FuncId} {caps avs ds : List AV} {hl hl' hl2 : List (Nat × Blk)} {kp n' : Nat} {r r2 : AV} {σ σ' : Nat → Option Nat} {touch news : List Nat} {ed : List (Nat × Option Blk)}
  (hc : HasT P f ds hl kp r hl') (hf : s.ev fo = some (.fn f caps)) (hx : evs s.ev xs.toList = some avs) (hav : All2 (matchA σ kp) (avs ++ caps) ds) (hh : EntH σ kp s.heap hl) (hi : injB σ hl = true) (hit : inTouch σ touch hl = true) (hlive : (touch.all fun b => (s.heap b).isSome) = true)
  (hh' : EntH σ' n' (hpL hl') hl2) (hi' : injB σ' hl2 = true) (hr : matchA σ' n' r r2) (hbk : backB σ σ' kp news hl2 = true) (htl : tameL (touch ++ news) hl2) (htr : tameA (touch ++ news) r2 = true) (he : editsL (touch ++ news) hl2 = ed)
  (hd : dstB ⟨dst, .call ⟨.value fo, xs, ats⟩, ty, pos, aft, none⟩ nt = true) (hn : (news.all fun b => !s.used b) = true) (hT : s.kp.T = true) (hdf : ∀ t x, s.env t = some x → dfA x = true) (hdc : ∀ b blk, s.heap b = some blk → b ∉ touch ++ news → ∀ cs ∈ blk.es, ∀ c ∈ cs, dfC c = true)
  (h : SOps P ops nt l (s.app dst ⟨r2, touch, ed, news⟩) K) : SOps P ops nt (⟨dst, .call ⟨.value fo, xs, ats⟩, ty, pos, aft, none⟩ :: l) s K := ⟨fun C hC ν a w hs n0 Q hQ => by
 subst hC
 refine wpListIn_step fun K' hK' => ?_
 rw [if_pos (wanted_of hs (ops := ops) (t := true) rfl)]
 refine op_in (fun c h => by cases h) ?_
 have hnw : ∀ b ∈ news, s.used b = false := fun b hb => by have := List.all_eq_true.1 hn b hb; simpa using this
 have hfn := hs.ev hf
 simp only [RepA, RepB] at hfn
 obtain ⟨cv, hfv, hcap⟩ := hfn
 have hval := evs_rep hs (xs := xs.toList) (fun y hy => rfl) hx
 obtain ⟨φ, hφ⟩ := hs.heap
 let h3 : Hp := fun b => if b ∈ touch then s.heap b else none
 have sub : ∀ b blk, h3 b = some blk → s.heap b = some blk ∧ b ∈ touch := by
  intro b blk hb
  by_cases e : b ∈ touch
  ·simp only [h3, if_pos e] at hb; exact ⟨hb, e⟩
  ·simp only [h3, if_neg e] at hb; cases hb
 let M2 : Nat → Prop := fun x => (∃ b, b ∈ touch ∧ s.heap b ≠ none ∧ x ∈ φ b) ∨ w.heap.size ≤ x
 have hM2 : ∀ x, M2 x → C.M x := by
  rintro x (⟨b, _, hb, hx⟩ | hx)
  ·obtain ⟨blk, hb⟩ := Option.ne_none_iff_exists'.1 hb
   exact (hφ.blk b blk hb).2.2.2 x hx
  ·exact hs.fresh x hx
 have hk3 : HeapOk M2 w h3 s.used ν φ := hφ.shrink (fun b blk hb => (sub b blk hb).1) (fun b x hb hx _ => by
  obtain ⟨blk, hb⟩ := Option.ne_none_iff_exists'.1 hb
  obtain ⟨e1, e2⟩ := sub b blk hb
  exact .inl ⟨b, e2, by rw [e1]; simp, hx⟩)
 have hent : EntH σ kp h3 hl := entH_congr (h := s.heap) (touch := touch) (fun b hb => by simp only [h3, if_pos hb]) hit hh
 have cv1 := conv_mk (w := w) (u := s.used) (ν := ν) hent hi
 have hk4 := cv1.heap hk3
 have shr3 : Ext w s.heap s.used ν w h3 s.used ν := (Ext.refl _ _ _ _).shrink (fun b blk hb => (sub b blk hb).1)
 have hargs : All2 (RepA w (hpL hl) (ltb kp) (nuOf σ ν)) ds (xs.toList.map a.eval ++ cv) :=
  all2_conv (R := RepA w s.heap s.used ν) (Mt := matchA σ kp) (R' := RepA w (hpL hl) (ltb kp) (nuOf σ ν)) (fun x y v hx hm => cv1.rep (RepA.ext shr3 hx) hm) (hval.append (hcap.mono fun x v h => Rep1.repA h)) hav
 have hcall := hc.calls C.B M2 w ((xs.map a.eval) ++ cv.toArray) (nuOf σ ν) _ (fun x hx => C.low x (hM2 x hx)) hs.base (fun x hx => .inr hx) (fun x hx => hs.okM x (hM2 x hx)) (by simpa using hargs) hk4
 unfold Oper.wp
 have hex : (execOp a.eval ⟨dst, .call ⟨.value fo, xs, ats⟩, ty, pos, aft, none⟩).run P w = .ok (.enter f ((xs.map a.eval) ++ cv.toArray)) w := by
  have : execOp a.eval ⟨dst, .call ⟨.value fo, xs, ats⟩, ty, pos, aft, none⟩ = callFunc f ((xs.map a.eval) ++ cv.toArray) := by
   simp [execOp, resolve, hfv, Deferred.ofValue, invoke]
  rw [this]
  exact hc.enters _ _
 rw [hex]
 simp only [Oper.upon]
 refine hcall.mono fun e w' ⟨v, u1, ν1, φ1, hev, hbel, hext, hh1, hrep⟩ => ?_
 subst hev
 simp only
 have cv2 := conv_mk (w := w') (u := u1) (ν := ν1) hh' hi'
 have hh2 := cv2.heap hh1
 generalize hrl : touch ++ news = rl at *
 let ν' : Nu := ⟨fun b => if b ∈ rl then nuOf σ' ν1 b else ν b, ν.ok⟩
 have hν1 : ∀ b, b ∈ rl → ν' b = nuOf σ' ν1 b := fun b hb => if_pos hb
 have hν2 : ∀ b, b ∉ rl → ν' b = ν b := fun b hb => if_neg hb
 have hheq : ∀ b, editHp ed s.heap b = if b ∈ rl then hpL hl2 b else s.heap b := fun b => by rw [← he]; exact editHp_L
 have hhe1 : ∀ b, b ∈ rl → editHp ed s.heap b = hpL hl2 b := fun b hb => by rw [hheq, if_pos hb]
 have hhe2 : ∀ b, b ∉ rl → editHp ed s.heap b = s.heap b := fun b hb => by rw [hheq, if_neg hb]
 have hused : ∀ b, b ∈ rl → addUs news s.used b = true := by
  intro b hb
  rw [← hrl] at hb
  rw [addUs_spec]
  rcases List.mem_append.1 hb with h | h
  ·have h5 := List.all_eq_true.1 hlive b h
   cases hq : s.heap b with
   | none => rw [hq] at h5; cases h5
   | some blk => rw [(hφ.blk b blk hq).1, Bool.or_true]
  ·have : news.contains b = true := by simpa using h
   rw [this, Bool.true_or]
 have U : ∀ b, s.used b = true → addUs news s.used b = true := fun b hb => by rw [addUs_spec, hb, Bool.or_true]
 have O : ∀ b blk', s.used b = true → editHp ed s.heap b = some blk' → ∃ blk, s.heap b = some blk ∧ blk.k = blk'.k ∧ blk.es.length = blk'.es.length ∧ ν' b = ν b := by
  intro b blk' hu hb
  by_cases e : b ∈ rl
  ·rw [hhe1 b e] at hb
   obtain ⟨i, e1, e2⟩ := backB_mem hbk (hpL_mem hb)
   obtain ⟨x, f1, f2, f3⟩ := (cv2.look b blk' hb).1 i e1
   rcases e2 with e2 | ⟨e2, e3⟩
   ·rw [hnw b e2] at hu; cases hu
   ·obtain ⟨blk0, g1, g2, g3, g4⟩ := hext.old i x e2 f1
    obtain ⟨z, k1, k2, k3⟩ := (cv1.look i blk0 g1).1 b e3
    refine ⟨z, (sub b z k1).1, k2.trans (g2.trans f2), k3.trans (g3.trans f3), ?_⟩
    rw [hν1 b e]
    simp only [nuOf, e1]
    rw [g4]
    simp only [nuOf, e3]
  ·rw [hhe2 b e] at hb
   exact ⟨blk', hb, rfl, rfl, hν2 b e⟩
 have hout : ∀ b blk x, s.heap b = some blk → b ∉ rl → x ∈ φ b → w'.heap[x]? = w.heap[x]? := by
  intro b blk x hb hbr hx
  refine (hext.free x ((hφ.blk b blk hb).2.1.lt x hx) ?_).1
  rintro (⟨b2, e1, e2, e3⟩ | e1)
  ·have hne : b2 ≠ b := by rintro rfl; exact hbr (by rw [← hrl]; exact List.mem_append_left _ e1)
   exact hφ.apart b2 b x e2 (by rw [hb]; simp) hne e3 hx
  ·have := (hφ.blk b blk hb).2.1.lt x hx
   omega
 have hcross : ∀ b c x, hpL hl2 b ≠ none → s.heap c ≠ none → c ∉ rl → x ∈ (match σ' b with | some b0 => φ1 b0 | none => []) → x ∉ φ c := by
  intro b c x hb hc' hcr hx hx2
  obtain ⟨y1, hy1⟩ := Option.ne_none_iff_exists'.1 hb
  obtain ⟨y2, hy2⟩ := Option.ne_none_iff_exists'.1 hc'
  rcases (hh2.blk b y1 hy1).2.2.2 x hx with ⟨b2, e1, e2, e3⟩ | e1
  ·have hne : b2 ≠ c := by rintro rfl; exact hcr (by rw [← hrl]; exact List.mem_append_left _ e1)
   exact hφ.apart b2 c x e2 hc' hne e3 hx2
  ·have := (hφ.blk c y2 hy2).2.1.lt x hx2
   omega
 have hdef : OkD C w' a.defers := by
  obtain ⟨Ds, q1, q2, q3⟩ := hs.defers
  refine ⟨Ds, q1, q2, fun D hD => ?_⟩
  obtain ⟨p1, p2, p3⟩ := q3 D hD
  refine ⟨p1, p2, (hext.free D (lt_of_some p3) ?_).1.trans p3⟩
  rintro (⟨b, e1, e2, e3⟩ | e1)
  ·obtain ⟨blk, hb⟩ := Option.ne_none_iff_exists'.1 e2
   obtain ⟨o, o1, o2⟩ := (hφ.blk b blk hb).2.1.inC D e3
   rw [p3] at o1; cases o1; cases o2
  ·have := lt_of_some p3; omega
 have hfin : Sim C (s.app dst ⟨r2, touch, ed, news⟩) ν' (a.put dst v) w' := by
  refine ⟨hs.below.trans hbel, Nat.le_trans hs.base hbel.size, fun x hx => hs.fresh x (Nat.le_trans hbel.size hx), by rw [defers_put]; exact hdef, by rw [size_put]; exact hs.size, ?_, ⟨fun b => if b ∈ rl then (match σ' b with | some b0 => φ1 b0 | none => []) else φ b, ?_, ?_⟩, hs.kp, ?_, Nat.le_trans hs.szE hbel.size, hs.okM, hs.okF⟩
  ·exact put_env hs.size (dstB_ok hd).1 (fun t x h => by obtain ⟨v, h1, h2⟩ := hs.env t x h; exact ⟨v, h1, dfA_rep U O h2 (hdf t x h)⟩) (tameA_rep (h1 := hpL hl2) (u1 := ltb n') (ν1 := nuOf σ' ν1) hhe1 hν1 hused (cv2.rep hrep hr) htr)
  ·intro b blk' hb
   replace hb : editHp ed s.heap b = some blk' := hb
   by_cases e : b ∈ rl
   ·rw [hhe1 b e] at hb
    simp only [if_pos e]
    obtain ⟨_, g2, g3, g4⟩ := hh2.blk b blk' hb
    exact ⟨hused b e, tameBlk_rep (h1 := hpL hl2) (u1 := ltb n') (ν1 := nuOf σ' ν1) hhe1 hν1 hused e g2 (tameL_mem htl (hpL_mem hb)).2, g3, fun x hx => hM2 x (g4 x hx)⟩
   ·rw [hhe2 b e] at hb
    simp only [if_neg e]
    obtain ⟨g1, g2, g3, g4⟩ := hφ.blk b blk' hb
    exact ⟨U b g1, dfBlk_rep U O (hν2 b e) (fun x hx => hout b blk' x hb e hx) g2 (hdc b blk' hb e), g3, g4⟩
  ·intro b c x hb hc' hne hxb hxc
   replace hb : editHp ed s.heap b ≠ none := hb
   replace hc' : editHp ed s.heap c ≠ none := hc'
   by_cases e1 : b ∈ rl <;> by_cases e2 : c ∈ rl
   ·simp only [if_pos e1] at hxb
    simp only [if_pos e2] at hxc
    rw [hhe1 b e1] at hb
    rw [hhe1 c e2] at hc'
    exact hh2.apart b c x hb hc' hne hxb hxc
   ·simp only [if_pos e1] at hxb
    simp only [if_neg e2] at hxc
    rw [hhe1 b e1] at hb
    rw [hhe2 c e2] at hc'
    exact hcross b c x hb hc' e2 hxb hxc
   ·simp only [if_neg e1] at hxb
    simp only [if_pos e2] at hxc
    rw [hhe2 b e1] at hb
    rw [hhe1 c e2] at hc'
    exact hcross c b x hc' hb e1 hxc hxb
   ·simp only [if_neg e1] at hxb
    simp only [if_neg e2] at hxc
    rw [hhe2 b e1] at hb
    rw [hhe2 c e2] at hc'
    exact hφ.apart b c x hb hc' hne hxb hxc
  ·refine ⟨fun b hb => U b (hs.ext.used b hb), fun b blk' hb hl' => ?_, fun x hx hF => ?_, hs.ext.okE⟩
   ·obtain ⟨y, g1, g2, g3, g4⟩ := O b blk' (hs.ext.used b hb) hl'
    obtain ⟨z, k1, k2, k3, k4⟩ := hs.ext.old b y hb g1
    exact ⟨z, k1, k2.trans g2, k3.trans g3, g4.trans k4⟩
   ·obtain ⟨g1, g2⟩ := hs.ext.free x hx hF
    have hm : ¬ M2 x := fun hm => C.tm (by rw [← hs.kp]; exact hT) x hx (hM2 x hm) hF
    obtain ⟨p1, p2⟩ := hext.free x (lt_of_heap hx g1) hm
    refine ⟨p1.trans g1, fun b blk β c hb hν => ?_⟩
    replace hb : editHp ed s.heap b = some blk := hb
    by_cases e : b ∈ rl
    ·rw [hhe1 b e] at hb
     rw [hν1 b e] at hν
     exact cv2.free x p2 b blk β c hb hν
    ·rw [hhe2 b e] at hb
     rw [hν2 b e] at hν
     exact g2 b blk β c hb hν
 exact hK' _ _ (h.out C rfl _ _ _ hfin n0 Q hQ)⟩
end
end Go.Proofs.Ytdhjmmnjapkmkaa
end

section
set_option linter.unusedVariables false
set_option linter.unusedSimpArgs false

namespace Go.Proofs.Ytdhjmmnjapkmkaa
open Go.RowKit
set_option linter.unusedVariables false
theorem ov_cells {w : World} {h : Hp} {u : Us} {ν : Nu} : ∀ {cs : List AV} {vs : List Value} {S : List Nat}, RepOV w cs vs S → CellsRep w h u ν (cs.map toAbs) vs S
 | [], vs, S, r => by simp only [RepOV] at r; exact r
 | c :: cs, vs, S, r => by
  simp only [RepOV] at r
  obtain ⟨v, q, S1, S2, e1, e2, _, h3, h4⟩ := r
  refine ⟨v, q, S1, S2, e1, e2, ?_, ov_cells h4⟩
  cases c with
  | sc x => simp only [RepO] at h3; exact ⟨⟨h3.1, h3.2.1⟩, h3.2.2⟩
  | list k es => exact h3
  | _ => simp only [RepO] at h3
theorem absEs_lens {k : Nat} {es : List (List AV)} (h : ∀ cs ∈ es, cs.length = k) : ∀ cs ∈ absEs es, cs.length = k := by
 intro cs hcs
 unfold absEs at hcs
 obtain ⟨d, hd, rfl⟩ := List.mem_map.1 hcs
 rw [List.length_map]; exact h d hd
theorem absEs_flat (es : List (List AV)) : (absEs es).flatten = es.flatten.map toAbs := by
 unfold absEs
 rw [List.map_flatten]
theorem ent_open {s : AState} {b c i j k' : Nat} {blk : Blk} {cs : List AV} {es' : List (List AV)} (hT : s.kp.T = true) (hb : s.heap b = some blk) (hi : blk.es[i]? = some cs) (hj : cs[j]? = some (.abs k' es')) (hc : s.used c = false) (hdf : ∀ t x, s.env t = some x → dfA x = true) (hdc : ∀ b blk, s.heap b = some blk → ∀ cs ∈ blk.es, ∀ c ∈ cs, dfC c = true) :
  Ent s ⟨s.env, editHp [(c, some ⟨k', absEs es'⟩), (b, some ⟨blk.k, blk.es.set i (cs.take j ++ [.own c 0 es'.length] ++ cs.drop (j + 1))⟩)] s.heap, addUs [c] s.used, s.ns, s.kp⟩ := by
 intro C ν a w hs
 obtain ⟨φ, hh⟩ := hs.heap
 obtain ⟨hub, ⟨hk1, hx1⟩, hnd1, hB1⟩ := hh.blk b blk hb
 have hne : b ≠ c := by rintro rfl; rw [hub] at hc; cases hc
 have hcn : s.heap c = none := hs.unused hc
 have hcs := hk1 cs (List.mem_of_getElem? hi)
 have hjl : j < cs.length := by
  rcases Nat.lt_or_ge j cs.length with h' | h'
  ·exact h'
  ·rw [List.getElem?_eq_none h'] at hj; cases hj
 rcases hx1 with ⟨q1, q2, _⟩ | ⟨β, cap, arr, ty, T, vs, q1, q2, q3, q4, q5, q6, q7, q8⟩
 ·rw [q2] at hi; simp at hi
 have hdrop : blk.es.flatten.drop (i * blk.k + j) = .abs k' es' :: blk.es.flatten.drop (i * blk.k + j + 1) := by
  obtain ⟨r, hr⟩ := flatten_at hk1 hi
  have h1 : blk.es.flatten.drop (i * blk.k + j) = (cs ++ r).drop j := by rw [← hr, List.drop_drop]
  have h2 : blk.es.flatten.drop (i * blk.k + j + 1) = (cs ++ r).drop (j + 1) := by rw [← hr, List.drop_drop, Nat.add_assoc]
  rw [h1, h2, List.drop_append_of_le_length (by omega), List.drop_append_of_le_length (by omega), List.drop_eq_getElem_cons hjl]
  have : cs[j] = .abs k' es' := by simpa [hjl] using hj
  rw [this]; rfl
 have hfl : blk.es.flatten = blk.es.flatten.take (i * blk.k + j) ++ ([.abs k' es'] ++ blk.es.flatten.drop (i * blk.k + j + 1)) := by
  rw [List.singleton_append, ← hdrop, List.take_append_drop]
 rw [hfl] at q8
 obtain ⟨v1, v2, S1, S2, e1, e2, e3, e4, e5⟩ := q8.append_inv
 obtain ⟨v3, v4, S3, S4, f1, f2, f3, f4, f5⟩ := e5.append_inv
 subst f1 f2
 obtain ⟨v, r0, S5, S6, rfl, rfl, g1, ⟨rfl, rfl⟩⟩ := f4
 simp only [CellRep] at g1
 rw [List.append_nil] at e2
 have hφ : φ b = β :: (S1 ++ (S5 ++ S4)) := by rw [q6, e2]
 -- the new name's block
 obtain ⟨νc, hνc⟩ : ∃ νc : Option (Nat × Nat), (∀ (h : Hp) (u : Us) (ν' : Nu), ν' c = νc → BlkOk w h u ν' c ⟨k', absEs es'⟩ S5) ∧ (νc = none → v = .slice none 0 0) ∧ (∀ β' cap', νc = some (β', cap') → ownV β' 0 k' es'.length cap' v ∧ β' ∈ S5) := by
  simp only [RepO] at g1
  rcases g1 with ⟨rfl, rfl, rfl⟩ | ⟨β', cap', arr', ty', T', vs', p1, p2, p3, p4, p5, p6, rfl, p8, p9⟩
  ·exact ⟨none, fun h u ν' hν => ⟨by simp [absEs], .inl ⟨hν, rfl, rfl⟩⟩, fun _ => rfl, fun _ _ e => by cases e⟩
  ·have hl : (absEs es').length = es'.length := by simp [absEs]
   refine ⟨some (β', cap'), fun h u ν' hν => ⟨absEs_lens p6, .inr ⟨β', cap', arr', ty', T', vs', hν, p2, p3, by show (absEs es').length ≤ cap'; omega, p5, rfl, by show arr'.toList.take ((absEs es').length * k') = vs'; rw [hl]; exact p8, ?_⟩⟩, fun e => by (cases e), fun x y e => ?_⟩
   ·show CellsRep w h u ν' (absEs es').flatten vs' T'
    rw [absEs_flat]
    exact ov_cells (repOE_flat.1 p9)
   ·cases e; rw [p1]; exact ⟨ownV_zero, by simp⟩
 obtain ⟨hB, hn0, hn1⟩ := hνc
 let ν' : Nu := ⟨fun x => if x = c then νc else ν x, ν.ok⟩
 have hν1 : ν' c = νc := if_pos rfl
 have hν2 : ∀ x, x ≠ c → ν' x = ν x := fun x hx => if_neg hx
 have hl1 : editHp [(c, some ⟨k', absEs es'⟩), (b, some ⟨blk.k, blk.es.set i (cs.take j ++ [.own c 0 es'.length] ++ cs.drop (j + 1))⟩)] s.heap c = some ⟨k', absEs es'⟩ := by simp [editHp]
 have hl2 : editHp [(c, some ⟨k', absEs es'⟩), (b, some ⟨blk.k, blk.es.set i (cs.take j ++ [.own c 0 es'.length] ++ cs.drop (j + 1))⟩)] s.heap b = some ⟨blk.k, blk.es.set i (cs.take j ++ [.own c 0 es'.length] ++ cs.drop (j + 1))⟩ := by simp [editHp, beq_ne hne]
 have hl3 : ∀ x, x ≠ c → x ≠ b → editHp [(c, some ⟨k', absEs es'⟩), (b, some ⟨blk.k, blk.es.set i (cs.take j ++ [.own c 0 es'.length] ++ cs.drop (j + 1))⟩)] s.heap x = s.heap x := fun x h1 h2 => by simp [editHp, beq_ne h1, beq_ne h2]
 generalize hH : editHp [(c, some ⟨k', absEs es'⟩), (b, some ⟨blk.k, blk.es.set i (cs.take j ++ [.own c 0 es'.length] ++ cs.drop (j + 1))⟩)] s.heap = H at *
 have U : ∀ x, s.used x = true → addUs [c] s.used x = true := fun x hx => by rw [addUs_spec, hx, Bool.or_true]
 have O : ∀ x blk', s.used x = true → H x = some blk' → ∃ y, s.heap x = some y ∧ y.k = blk'.k ∧ y.es.length = blk'.es.length ∧ ν' x = ν x := by
  intro x blk' hu hx
  have hxc : x ≠ c := by rintro rfl; rw [hu] at hc; cases hc
  by_cases e : x = b
  ·subst e
   rw [hl2] at hx
   cases hx
   exact ⟨blk, hb, rfl, by simp, hν2 _ hxc⟩
  ·rw [hl3 x hxc e] at hx
   exact ⟨blk', hx, rfl, rfl, hν2 _ hxc⟩
 have hfl2 : ∀ d ∈ blk.es.flatten, dfC d = true := by
  intro d hd
  obtain ⟨ds, h1, h2⟩ := List.mem_flatten.1 hd
  exact hdc b blk hb ds h1 d h2
 refine ⟨ν', hs.below, hs.base, hs.fresh, hs.defers, hs.size, fun t x hx => by obtain ⟨v, h1, h2⟩ := hs.env t x hx; exact ⟨v, h1, dfA_rep U O h2 (hdf t x hx)⟩, ⟨fun x => if x = c then S5 else if x = b then β :: (S1 ++ S4) else φ x, ?_, ?_⟩, hs.kp, ?_, hs.szE, hs.okM, hs.okF⟩
 ·intro x blk2 hx
  replace hx : H x = some blk2 := hx
  have hnd := hnd1
  rw [hφ] at hnd
  have n1 := List.nodup_cons.1 hnd
  have n2 := List.nodup_append.1 n1.2
  have n3 := List.nodup_append.1 n2.2.1
  by_cases e : x = c
  ·subst e
   rw [hl1] at hx
   cases hx
   simp only [if_true]
   refine ⟨by rw [addUs_spec]; simp, hB _ _ _ hν1, n3.1, fun y hy => hB1 y (by rw [hφ]; simp [hy])⟩
  ·by_cases e0 : x = b
   ·subst e0
    rw [hl2] at hx
    cases hx
    simp only [if_neg e, if_true]
    refine ⟨U _ hub, ⟨?_, .inr ⟨β, cap, arr, ty, S1 ++ S4, vs, (hν2 _ e).trans q1, q2, q3, by simpa using q4, q5, rfl, by simpa using q7, ?_⟩⟩, ?_, ?_⟩
    ·intro d hd
     rcases List.mem_or_eq_of_mem_set hd with h | h
     ·exact hk1 d h
     ·rw [h]; simp; omega
    ·rw [set_flatten_y (n := 1) hk1 hi rfl (by omega), e1]
     have m1 : CellsRep w H (addUs [c] s.used) ν' [.own c 0 es'.length] [v] [] := by
      refine ⟨v, [], [], [], rfl, rfl, ⟨⟨by rw [addUs_spec]; simp, fun blk3 h3 => ?_⟩, rfl⟩, rfl, rfl⟩
      rw [hl1] at h3
      cases h3
      refine ⟨by simp [absEs], fun h4 => hn0 (hν1.symm.trans h4), fun β' c' h4 => (hn1 β' c' (hν1.symm.trans h4)).1⟩
     have m2 := (dfCs_rep (w' := w) (h' := H) (u' := addUs [c] s.used) (ν' := ν') U O (fun _ _ => rfl) e4 (fun d hd => hfl2 d (List.mem_of_mem_take hd))).append (m1.append (dfCs_rep (w' := w) (h' := H) (u' := addUs [c] s.used) (ν' := ν') U O (fun _ _ => rfl) f5 (fun d hd => hfl2 d (List.mem_of_mem_drop hd))))
     rw [List.append_assoc (List.take (i * blk.k + j) blk.es.flatten)]
     simpa using m2
    ·refine List.nodup_cons.2 ⟨fun hm => n1.1 ?_, List.nodup_append.2 ⟨n2.1, n3.2.1, fun y hy z hz => n2.2.2 y hy z (by simp [hz])⟩⟩
     rcases List.mem_append.1 hm with h | h <;> simp [h]
    ·intro y hy
     refine hB1 y ?_
     rw [hφ]
     rcases List.mem_cons.1 hy with rfl | h
     ·simp
     ·rcases List.mem_append.1 h with h | h <;> simp [h]
   ·rw [hl3 x e e0] at hx
    simp only [if_neg e, if_neg e0]
    obtain ⟨p1, p2, p3, p4⟩ := hh.blk x blk2 hx
    exact ⟨U _ p1, dfBlk_rep U O (hν2 _ e) (fun _ _ => rfl) p2 (hdc x blk2 hx), p3, p4⟩
 ·have hnd := hnd1
  rw [hφ] at hnd
  have n1 := List.nodup_cons.1 hnd
  have n2 := List.nodup_append.1 n1.2
  have n3 := List.nodup_append.1 n2.2.1
  have hbn : s.heap b ≠ none := by rw [hb]; simp
  have hS5 : ∀ y, y ∈ S5 → y ∈ φ b := fun y hy => by rw [hφ]; simp [hy]
  have hSb : ∀ y, y ∈ β :: (S1 ++ S4) → y ∈ φ b := fun y hy => by
   rw [hφ]
   rcases List.mem_cons.1 hy with rfl | h
   ·simp
   ·rcases List.mem_append.1 h with h | h <;> simp [h]
  have hcb : ∀ y, y ∈ S5 → y ∉ β :: (S1 ++ S4) := by
   intro y h5 hy
   rcases List.mem_cons.1 hy with rfl | h
   ·exact n1.1 (by simp [h5])
   ·rcases List.mem_append.1 h with h | h
    ·exact n2.2.2 y h y (by simp [h5]) rfl
    ·exact n3.2.2 y h5 y h rfl
  intro x1 x2 y hx1 hx2 hne2 hy1 hy2
  replace hx1 : H x1 ≠ none := hx1
  replace hx2 : H x2 ≠ none := hx2
  replace hy1 : y ∈ (if x1 = c then S5 else if x1 = b then β :: (S1 ++ S4) else φ x1) := hy1
  replace hy2 : y ∈ (if x2 = c then S5 else if x2 = b then β :: (S1 ++ S4) else φ x2) := hy2
  by_cases a1 : x1 = c <;> by_cases a2 : x2 = c
  ·exact hne2 (a1.trans a2.symm)
  ·rw [if_pos a1] at hy1
   rw [if_neg a2] at hy2
   by_cases b2 : x2 = b
   ·rw [if_pos b2] at hy2; exact hcb y hy1 hy2
   ·rw [if_neg b2] at hy2
    rw [hl3 x2 a2 b2] at hx2
    exact hh.apart b x2 y hbn hx2 (Ne.symm b2) (hS5 y hy1) hy2
  ·rw [if_neg a1] at hy1
   rw [if_pos a2] at hy2
   by_cases b1 : x1 = b
   ·rw [if_pos b1] at hy1; exact hcb y hy2 hy1
   ·rw [if_neg b1] at hy1
    rw [hl3 x1 a1 b1] at hx1
    exact hh.apart b x1 y hbn hx1 (Ne.symm b1) (hS5 y hy2) hy1
  ·rw [if_neg a1] at hy1
   rw [if_neg a2] at hy2
   by_cases b1 : x1 = b <;> by_cases b2 : x2 = b
   ·exact hne2 (b1.trans b2.symm)
   ·rw [if_pos b1] at hy1
    rw [if_neg b2] at hy2
    rw [hl3 x2 a2 b2] at hx2
    exact hh.apart b x2 y hbn hx2 (Ne.symm b2) (hSb y hy1) hy2
   ·rw [if_neg b1] at hy1
    rw [if_pos b2] at hy2
    rw [hl3 x1 a1 b1] at hx1
    exact hh.apart b x1 y hbn hx1 (Ne.symm b1) (hSb y hy2) hy1
   ·rw [if_neg b1] at hy1
    rw [if_neg b2] at hy2
    rw [hl3 x1 a1 b1] at hx1
    rw [hl3 x2 a2 b2] at hx2
    exact hh.apart x1 x2 y hx1 hx2 hne2 hy1 hy2
 ·refine ⟨fun x hx => U x (hs.ext.used x hx), fun x blk' hx hl' => ?_, fun x hx hF => ?_, hs.ext.okE⟩
  ·obtain ⟨y, g1, g2, g3, g4⟩ := O x blk' (hs.ext.used x hx) hl'
   obtain ⟨z, k1, k2, k3, k4⟩ := hs.ext.old x y hx g1
   exact ⟨z, k1, k2.trans g2, k3.trans g3, g4.trans k4⟩
  ·obtain ⟨g1, g2⟩ := hs.ext.free x hx hF
   refine ⟨g1, fun b2 blk2 β2 c2 hb2 h2 e => ?_⟩
   replace hb2 : H b2 = some blk2 := hb2
   by_cases a1 : b2 = c
   ·subst a1
    rw [hν1] at h2
    subst e
    exact C.tm (by rw [← hs.kp]; exact hT) β2 hx (hB1 β2 (by rw [hφ]; simp [(hn1 _ _ h2).2])) hF
   ·rw [hν2 _ a1] at h2
    by_cases a2 : b2 = b
    ·subst a2; exact g2 b2 blk β2 c2 hb h2 e
    ·rw [hl3 b2 a1 a2] at hb2
     exact g2 b2 blk2 β2 c2 hb2 h2 e
end Go.Proofs.Ytdhjmmnjapkmkaa
end

section
set_option linter.unusedVariables false
set_option linter.unusedSimpArgs false

namespace Go.Proofs.Ytdhjmmnjapkmkaa
open Go.RowKit
set_option linter.unusedVariables false
def Raw1 (κ : Kp) (x d : AV) : Prop := ∃ W G v S, κ.fx = some (W, G) ∧ x = .sc v ∧ RepD W d v S ∧ ∀ b ∈ S, G b
def RawK (κ : Kp) : AV → AV → Prop
 | .agg xs, .agg ds => All2 (Raw1 κ) xs ds
 | x, d => Raw1 κ x d
theorem Sim.stays {C : Ctx} {s : AState} {ν : Nu} {a : Act} {w : World} (hs : Sim C s ν a w) {κ : Kp} (hκ : s.kp = κ) {W : World} {G : Nat → Prop} (h : κ.fx = some (W, G)) {b : Nat} (hb : G b) : w.heap[b]? = W.heap[b]? ∧ FreeO s.heap ν b := by
 obtain ⟨e1, e2⟩ := C.fxp (W, G) (by rw [← hs.kp, hκ]; exact h)
 obtain ⟨e3, e4⟩ := e2 b hb
 obtain ⟨e5, e6⟩ := hs.ext.free b e3 e4
 rw [e1] at e5
 exact ⟨e5, e6, hs.okF (W, G) (by rw [← hs.kp, hκ]; exact h) b hb⟩
theorem Raw1.rep {C : Ctx} {s : AState} {ν ν' : Nu} {a : Act} {w : World} {h : Hp} {u : Us} (hs : Sim C s ν a w) {κ : Kp} (hκ : s.kp = κ) {x d : AV} {v : Value} (r : Rep1 w h u ν' x v) (m : Raw1 κ x d) : ∃ S', RepD w d v S' := by
 obtain ⟨W, G, y, S, h1, rfl, h2, h3⟩ := m
 rw [r.1]
 exact ⟨S, h2.keep fun b hm => (hs.stays hκ h1 (h3 b hm)).1⟩
theorem RawK.rep {C : Ctx} {s : AState} {ν : Nu} {a : Act} {w : World} (hs : Sim C s ν a w) {κ : Kp} (hκ : s.kp = κ) {x d : AV} {v : Value} (r : RepA w s.heap s.used ν x v) (m : RawK κ x d) : ∃ S', RepD w d v S' := by
 by_cases ho : ∃ xs ds, x = .agg xs ∧ d = .agg ds
 ·obtain ⟨xs, ds, rfl, rfl⟩ := ho
  obtain ⟨vs, rfl, r⟩ := r
  obtain ⟨S, h⟩ := views_rep (V := Raw1 κ) (fun x d v hr hm => hm.rep hs hκ hr) r m
  exact ⟨S, by simp only [RepD]; exact ⟨vs, rfl, h⟩⟩
 ·have m' : Raw1 κ x d := by
   cases x <;> first | exact m | (cases d <;> first | exact m | exact absurd ⟨_, _, rfl, rfl⟩ ho)
  obtain ⟨W, G, y, S, h1, rfl, h2, h3⟩ := m'
  exact Raw1.rep (h := s.heap) (u := s.used) (ν' := ν) (x := .sc y) hs hκ (show Rep1 w s.heap s.used ν (.sc y) v from r) ⟨W, G, y, S, h1, rfl, h2, h3⟩
def fxW (W : World) : Option (World × (Nat → Prop)) := some (W, fun x => x < W.heap.size)
theorem raw1_d {κ : Kp} {W : World} {d : AV} {v : Value} {S : List Nat} (h : κ.fx = fxW W) (r : RepD W d v S) : Raw1 κ (.sc v) d := ⟨W, _, v, S, h, rfl, r, r.lt⟩
theorem raw1_sc {κ : Kp} {W : World} {u : Value} (h : κ.fx = fxW W) (o : u.oneCell' = true) : Raw1 κ (.sc u) (.sc u) := raw1_d h (repD_sc o)
theorem raw_nil {κ : Kp} : RawK κ (.agg []) (.agg []) := rfl
theorem raw_cons {κ : Kp} {x d : AV} {xs ds : List AV} (a : Raw1 κ x d) (b : RawK κ (.agg xs) (.agg ds)) : RawK κ (.agg (x :: xs)) (.agg (d :: ds)) := ⟨d, ds, rfl, a, b⟩
def viewK (κ : Kp) (h : Hp) (x d : AV) : Prop := viewA h x d ∨ RawK κ x d
theorem vk_nil {κ : Kp} {h : Hp} : All2 (viewK κ h) [] [] := rfl
theorem vk_cons {κ : Kp} {h : Hp} {x d : AV} {xs ds : List AV} (a : viewK κ h x d) (b : All2 (viewK κ h) xs ds) : All2 (viewK κ h) (x :: xs) (d :: ds) := ⟨d, ds, rfl, a, b⟩
theorem views_repA {R : AV → Value → Prop} {V : AV → AV → Prop} {w : World} (hr : ∀ x d v, R x v → V x d → ∃ S', RepD w d v S') {xs ds : List AV} {vs : List Value} (r : All2 R xs vs) (m : All2 V xs ds) : ∃ S', RepVs w ds vs S' := views_rep hr r m
section
variable {P : Program} {dst : Option Tmp} {ty : TypeId} {pos : String} {aft : Array Edge} {g : Option (Nat × Bool)} {ins : Operand → Option AV} {hp : Hp} {κ : Kp}
theorem eff_callK {fo : Operand} {xs : Array Operand} {ats : Array TypeId} {f : FuncId} {avs ds : List AV} {r x : AV} {nb : List (Nat × Blk)} {ns ns' : List Nat} (hf : ins fo = some (.fn f [])) (hx : evs ins xs.toList = some avs) (hc : HasC P f ds r) (hv1 : All2 (viewK κ hp) avs ds) (hg : goodA r)
  (hi : impA ns r = (x, nb, ns')) (hfl : flatA x = true) (hn : ns.Nodup) :
  AEff P ⟨dst, .call ⟨.value fo, xs, ats⟩, ty, pos, aft, g⟩ ins hp κ ⟨x, avs.flatMap (touchA hp), editsOf nb, nb.map (·.1)⟩ := by
 refine ⟨fun C s ν a w Q K {hκ} hi' ht hnw hd hs hK => ?_⟩
 have h1 := hs.ev ((hi' fo (by simp [Op.operands, Call.operands])).trans hf)
 simp only [RepA, RepB] at h1
 obtain ⟨cv, h1, h2⟩ := h1
 simp only [All2] at h2
 subst h2
 obtain ⟨φ, hh⟩ := hs.heap
 have h3 := evs_rep hs (xs := xs.toList) (fun y hy => hi' y (by simp [Op.operands, Call.operands]; exact .inr (Array.mem_toList_iff.1 hy))) hx
 have hv1' : All2 (viewK κ s.heap) avs ds := hv1.congrM fun y hy d hd => hd.elim (fun hd => .inl (hd.congr fun b hb => ht b (List.mem_flatMap.2 ⟨y, hy, hb⟩))) .inr
 obtain ⟨S1, e1⟩ := views_repA (V := viewK κ s.heap) (fun x d v hr hv => hv.elim (fun hv => viewA.rep hh hr hv) (fun hv => hv.rep hs hκ hr)) h3 hv1'
 have hcall := hc.calls w (xs.map a.eval) S1 (by simpa using e1)
 unfold Oper.wp
 have hex : (execOp a.eval ⟨dst, .call ⟨.value fo, xs, ats⟩, ty, pos, aft, g⟩).run P w = .ok (.enter f (xs.map a.eval)) w := by
  have : execOp a.eval ⟨dst, .call ⟨.value fo, xs, ats⟩, ty, pos, aft, g⟩ = callFunc f (xs.map a.eval) := by
   simp [execOp, resolve, h1, Deferred.ofValue, invoke]
  rw [this]
  exact hc.enters _ _
 rw [hex]
 simp only [Oper.upon]
 refine hcall.mono fun e w' ⟨v, S', he, hb, hr, hnew⟩ => ?_
 subst he
 simp only
 obtain ⟨g1, X, Sf, g2, g3⟩ := impA_ok (w := w) hi hfl hr hg hnew.1 hn
 have hnn : (nb.map (·.1)).Nodup := by rw [g1] at hn; exact (List.nodup_append.1 hn).1
 obtain ⟨ν', hs'⟩ := hs.call hd hb g2 hnew hnn (fun b hb => hnw b hb) g3 (touch := avs.flatMap (touchA hp))
 exact hK ν' _ _ hs'
end
section
variable {P : Program} {dst : Option Tmp} {ty : TypeId} {pos : String} {aft : Array Edge} {g : Option (Nat × Bool)} {s : AState}
theorem w_call0sK {f : FuncId} {xs : Array Operand} {ats : Array TypeId} {avs ds : List AV} {u : Value} (hc : HasC P f ds (.sc u)) (hx : evs s.ev xs.toList = some avs) (hv1 : All2 (viewK s.kp s.heap) avs ds) :
  AEff P ⟨dst, .call ⟨.value (.func f), xs, ats⟩, ty, pos, aft, g⟩ s.ev s.heap s.kp ⟨.sc u, avs.flatMap (touchA s.heap), [], []⟩ :=
 eff_callK (ns := []) (nb := []) (r := .sc u) (x := .sc u) rfl hx hc hv1 trivial (impA_sc [] u) rfl (by simp)
theorem w_call0K {f : FuncId} {xs : Array Operand} {ats : Array TypeId} {avs ds : List AV} {r x : AV} {nb : List (Nat × Blk)} {ns' : List Nat} (hc : HasC P f ds r) (hx : evs s.ev xs.toList = some avs) (hi : impA s.ns r = (x, nb, ns')) (hfl : flatA x = true) (hn : nodupB s.ns = true) (hg : goodA r) (hv1 : All2 (viewK s.kp s.heap) avs ds) :
  AEff P ⟨dst, .call ⟨.value (.func f), xs, ats⟩, ty, pos, aft, g⟩ s.ev s.heap s.kp ⟨x, avs.flatMap (touchA s.heap), editsOf nb, nb.map (·.1)⟩ :=
 eff_callK rfl hx hc hv1 hg hi hfl (nodupB_ok hn)
end
def RawC (w : World) : List AV → (List AV → Prop) → Prop
 | [], K => K []
 | .sc u :: cs, K => RawC w cs (fun xs => K (.sc u :: xs))
 | d :: cs, K => ∀ v S, RepD w d v S → RawC w cs (fun xs => K (.sc v :: xs))
def RawEnv (w : World) : List AV → (List AV → Prop) → Prop
 | [], K => K []
 | .sc u :: ds, K => RawEnv w ds (fun xs => K (.sc u :: xs))
 | .agg cs :: ds, K => RawC w cs (fun xs => RawEnv w ds (fun ys => K (.agg xs :: ys)))
 | d :: ds, K => ∀ v S, RepD w d v S → RawEnv w ds (fun xs => K (.sc v :: xs))
theorem rawC_nil {w : World} {K : List AV → Prop} (h : K []) : RawC w [] K := h
theorem rawC_sc {w : World} {u : Value} {cs : List AV} {K : List AV → Prop} (h : RawC w cs (fun xs => K (.sc u :: xs))) : RawC w (.sc u :: cs) K := h
theorem rawC_d {w : World} {k : Nat} {es : List (List AV)} {cs : List AV} {K : List AV → Prop} (h : ∀ v S, RepD w (.list k es) v S → RawC w cs (fun xs => K (.sc v :: xs))) : RawC w (.list k es :: cs) K := h
theorem rawE_nil {w : World} {K : List AV → Prop} (h : K []) : RawEnv w [] K := h
theorem rawE_agg {w : World} {xs cs : List AV} {K : List AV → Prop} (h : RawC w xs (fun xs => RawEnv w cs (fun ys => K (.agg xs :: ys)))) : RawEnv w (.agg xs :: cs) K := h
def rawOk : AV → Bool
 | .sc u => u.oneCell'
 | .agg cs => cs.all cellB
 | .list _ _ => true
 | _ => false
theorem repD_one {w : World} {d : AV} {v : Value} {S : List Nat} (r : RepD w d v S) (ok : cellB d = true) : v.oneCell' = true := by
 cases d <;> simp only [cellB, Bool.false_eq_true] at ok <;> simp only [RepD] at r
 ·rw [r.1]; exact ok
 ·obtain ⟨a, c, rfl, _⟩ := r; rfl
theorem rawC_ok {w : World} : ∀ {cs : List AV} {us : List Value} {S : List Nat} {K : List AV → Prop}, RepVs w cs us S → cs.all cellB = true → RawC w cs K → ∃ xs, K xs ∧ ∀ (w' : World) (h : Hp) (u : Us) (ν : Nu), All2 (Rep1 w' h u ν) xs us
 | [], us, S, K, r, _, k => by simp only [RepVs] at r; obtain ⟨rfl, _⟩ := r; exact ⟨[], k, fun _ _ _ _ => rfl⟩
 | c :: cs, us, S, K, r, ok, k => by
  simp only [RepVs] at r
  obtain ⟨v, q, S1, S2, rfl, rfl, h3, h4⟩ := r
  simp only [List.all_cons, Bool.and_eq_true] at ok
  have key : ∀ x, RawC w cs (fun xs => K (x :: xs)) → x = .sc v → ∃ xs, K xs ∧ ∀ (w' : World) (h : Hp) (u : Us) (ν : Nu), All2 (Rep1 w' h u ν) xs (v :: q) := by
   rintro x k1 rfl
   obtain ⟨xs, g1, g2⟩ := rawC_ok h4 ok.2 k1
   exact ⟨.sc v :: xs, g1, fun w' h u ν => ⟨v, q, rfl, ⟨rfl, repD_one h3 ok.1⟩, g2 w' h u ν⟩⟩
  cases c <;> simp only [cellB, Bool.false_eq_true, false_and] at ok
  ·simp only [RepD] at h3
   exact key _ k (by rw [h3.1])
  ·exact key _ (k v S1 h3) rfl
theorem rawEnv_ok {w : World} : ∀ {ds : List AV} {vs : List Value} {S : List Nat} {K : List AV → Prop}, RepVs w ds vs S → ds.all rawOk = true → RawEnv w ds K → ∃ xs, K xs ∧ xs.length = ds.length ∧ ∀ (h : Hp) (u : Us) (ν : Nu), All2 (RepA w h u ν) xs vs
 | [], vs, S, K, r, _, k => by simp only [RepVs] at r; obtain ⟨rfl, _⟩ := r; exact ⟨[], k, rfl, fun _ _ _ => rfl⟩
 | d :: ds, vs, S, K, r, ok, k => by
  simp only [RepVs] at r
  obtain ⟨v, q, S1, S2, rfl, rfl, h3, h4⟩ := r
  simp only [List.all_cons, Bool.and_eq_true] at ok
  have key : ∀ x, RawEnv w ds (fun xs => K (x :: xs)) → (∀ (h : Hp) (u : Us) (ν : Nu), RepA w h u ν x v) → ∃ xs, K xs ∧ xs.length = (d :: ds).length ∧ ∀ (h : Hp) (u : Us) (ν : Nu), All2 (RepA w h u ν) xs (v :: q) := by
   intro x k1 hx
   obtain ⟨xs, g1, g2, g3⟩ := rawEnv_ok h4 ok.2 k1
   exact ⟨x :: xs, g1, by simp [g2], fun h u ν => ⟨v, q, rfl, hx h u ν, g3 h u ν⟩⟩
  cases d <;> simp only [rawOk, Bool.false_eq_true, false_and] at ok
  ·simp only [RepD] at h3
   exact key _ k fun h u ν => by simp only [RepA, RepB, Rep1]; exact ⟨h3.1, h3.2.1⟩
  ·exact key _ (k v S1 h3) fun h u ν => (show Rep1 w h u ν (.sc v) v from ⟨rfl, repD_one h3 rfl⟩)
  ·have h3' := h3
   simp only [RepD] at h3'
   obtain ⟨us, rfl, h5⟩ := h3'
   obtain ⟨xs, g1, g2⟩ := rawC_ok h5 ok.1 k
   exact key _ g1 fun h u ν => by simp only [RepA, RepB]; exact ⟨us, rfl, g2 w h u ν⟩
theorem hasC_mkW {P : Program} {T : List (Nat × Ty)} (hT : TyOk P T) {f : FuncId} {fn : Func} {c : Code} {nt : Nat} {ds : List AV} {r : AV} {rvs : List ResultVar} {ns : List Nat} (hf : P.funcs[f]? = some fn) (hb : fn.body = some c) (hname : (fn.name == "runtime.NumGoroutine") = false) (hnt : fn.ntmps = nt) (hres : fn.results.toList = rvs)
  (hlen : Nat.ble ds.length nt = true) (hok : ds.all rawOk = true) (h : ∀ W : World, RawEnv W ds fun xs => AC P nt c ⟨nthA xs, hpL [], ltb 0, ns, ⟨0, true, fxW W, true⟩⟩ (RetQ T rvs r)) : HasC P f ds r := by
 refine ⟨Enters.mk hf (by rw [hb]; rfl) hname, fun w args S hargs => ?_⟩
 refine (callsIn_wide (n := 0)).1 (callsIn_of_wp_marks (F := fw none) hf hb trivial ?_)
 have hlen' := Nat.le_of_ble_eq_true hlen
 have hal : args.size = ds.length := by have := hargs.len; simpa using this
 obtain ⟨xs, hac, hxl, hxr⟩ := rawEnv_ok hargs hok (h w)
 let C : Ctx := ⟨w.heap.size, w, nt, fun x => w.heap.size ≤ x, fun _ h => h, ⟨0, true, fxW w, true⟩, w, hpL [], Nu.none, fun x => x < w.heap.size, fun _ x hx hm => absurd hx (Nat.not_lt.2 hm), (fun p h => by cases h; exact ⟨rfl, fun x hx => ⟨hx, hx⟩⟩), none, fun _ => rfl⟩
 have hfr : ∀ x, Free (hpL []) Nu.none x := fun x b blk β c hb => by cases hb
 have hsim : Sim C ⟨nthA xs, hpL [], ltb 0, ns, ⟨0, true, fxW w, true⟩⟩ Nu.none ⟨args ++ Array.replicate (fn.ntmps - args.size) undef, []⟩ w := by
  refine ⟨Below.refl _ _, Nat.le_refl _, fun _ hx => hx, okD_nil, by show (args ++ Array.replicate (fn.ntmps - args.size) undef).size = nt; simp [hnt]; omega, ?_, ⟨fun _ => [], fun b blk hb => (by cases hb), fun b c x hb => absurd rfl hb⟩, rfl, ExtF.refl fun x _ _ => hfr x, Nat.le_refl _, fun _ _ => trivial, fun _ _ _ _ => trivial⟩
  intro t x hx
  have hx' : xs[t]? = some x := by rw [← nthA_get]; exact hx
  obtain ⟨v, h1, h2⟩ := (hxr (hpL []) (ltb 0) Nu.none).get hx'
  refine ⟨v, ?_, h2⟩
  have hlt : t < args.size := by
   rcases Nat.lt_or_ge t args.size with h' | h'
   ·exact h'
   ·rw [List.getElem?_eq_none (by simpa using h')] at h1; cases h1
  show (args ++ Array.replicate (fn.ntmps - args.size) undef)[t]? = some v
  rw [Array.getElem?_append_left hlt]
  simpa using h1
 refine wpIn_mono (hac.out C rfl _ _ w hsim 0) fun e a' w0 ⟨s', ν', hq, hs0⟩ => ?_
 obtain ⟨Ds, d1, d2, d3⟩ := hs0.defers
 obtain ⟨w', hs', hleave⟩ := hs0.leave (P := P) (n := 0) d1 d2 d3
 obtain ⟨he, avs, hv, hn, hfz⟩ := hq
 obtain ⟨us, h1, h2⟩ := resVars_run hT hs' hv
 obtain ⟨φ, hh⟩ := hs'.heap
 have hn' := nodupB_ok hn
 have hrun : (results fn a'.tmps).run P w' = .ok (if hh : us.toArray.size = 1 then us.toArray[0] else .tuple us.toArray) w' := by
  unfold results
  rw [Sem.run_bind, Array.mapM_eq_mapM_toList, Sem.run_map, hres]
  have h1' := h1
  generalize hq : (List.mapM _ rvs : Sem (List Value)) = m
  rw [show Sem.run P m w' = .ok us w' by rw [← hq]; exact h1']
  simp
 have hres2 : ∃ S', ResA w' r (if hh : us.toArray.size = 1 then us.toArray[0] else .tuple us.toArray) S' ∧ New w.heap.size S' := by
  have hul : us.length = avs.length := h2.len
  unfold frzs at hfz
  split at hfz
  ·rename_i v r'
   obtain ⟨u, q, rfl, g1, g2⟩ := h2
   simp only [All2] at g2
   subst g2
   simp only [List.flatMap_cons, List.flatMap_nil, List.append_nil] at hn'
   obtain ⟨S', a1, a2, a3, a4⟩ := frzB_rep hh g1 hfz.1 hn'
   refine ⟨S', ?_, a2, a3⟩
   simp only [List.size_toArray, List.length_cons, List.length_nil, Nat.zero_add, dite_true]
   have hnt := hfz.2
   cases r <;> first | exact a1 | exact absurd rfl (hnt _)
  ·rename_i vs rs _
   obtain ⟨S', a1, a2, a3, a4⟩ := frzBs_rep hh h2 hfz.2 hn'
   refine ⟨S', ?_, a2, a3⟩
   rw [dif_neg (by simp; rw [hul]; exact hfz.1)]
   exact ⟨us, rfl, a1⟩
  ·exact hfz.elim
 obtain ⟨S', hr1, hr2⟩ := hres2
 have hend := hleave fn (fun e w' => ∃ v S', e = .returned v ∧ Below w.heap.size w w' ∧ ResA w' r v S' ∧ New w.heap.size S') ⟨_, hrun, _, S', rfl, hs'.below, hr1, hr2⟩
 cases e <;> simp only [isEnd, Bool.false_eq_true] at he <;> exact hend
def dfE : List (Nat × AV) → Prop
 | [] => True
 | (_, x) :: r => dfA x = true ∧ dfE r
theorem dfE_ok : ∀ {l : List (Nat × AV)}, dfE l → ∀ t x, envL l t = some x → dfA x = true
 | [], _, t, x, h => by cases h
 | (k, v) :: r, ⟨h1, h2⟩, t, x, h => by
  simp only [envL] at h
  cases hb : Nat.beq t k with
  | true => rw [hb] at h; cases h; exact h1
  | false => rw [hb] at h; exact dfE_ok h2 t x h
def dfR (y : Blk) : Prop := ∀ cs ∈ y.es, ∀ c ∈ cs, dfC c = true
def dfH (skip : List Nat) : List (Nat × Blk) → Prop
 | [] => True
 | (b, y) :: r => (b ∈ skip ∨ dfR y) ∧ dfH skip r
theorem dfH_ok {skip : List Nat} : ∀ {l : List (Nat × Blk)}, dfH skip l → ∀ b blk, hpL l b = some blk → b ∉ skip → ∀ cs ∈ blk.es, ∀ c ∈ cs, dfC c = true
 | [], _, b, x, h => by cases h
 | (k, v) :: r, ⟨h1, h2⟩, b, x, h => by
  simp only [hpL] at h
  by_cases e : b = k
  ·subst e
   rw [beq_self] at h
   cases h
   intro hn
   exact h1.elim (fun h => absurd h hn) id
  ·rw [beq_ne e] at h
   exact dfH_ok h2 b x h
theorem EOk.df {α : Type} {k : Nat} {e : α → List AV} (E : EOk k e) (k' : Nat) (l : List α) : dfR ⟨k', l.map (ow e)⟩ := by
 intro cs hcs c hc
 obtain ⟨x, _, rfl⟩ := List.mem_map.1 hcs
 obtain ⟨d, hd, rfl⟩ := List.mem_map.1 hc
 have := E.mem x d hd
 cases d <;> simp only [cellB, Bool.false_eq_true] at this <;> rfl
theorem EOk.dfS {α : Type} {k : Nat} {e : α → List AV} (E : EOk k e) (k' : Nat) (l : List α) (i : Nat) {c : List AV} (h : c.all dfC = true) : dfR ⟨k', (l.map (ow e)).set i c⟩ := by
 intro cs hcs d hd
 rcases List.mem_or_eq_of_mem_set hcs with h1 | rfl
 ·exact E.df k' l cs h1 d hd
 ·exact List.all_eq_true.1 h d hd
theorem df_lit {k : Nat} {es : List (List AV)} (h : (es.all fun cs => cs.all dfC) = true) : dfR ⟨k, es⟩ := fun cs hcs c hc => List.all_eq_true.1 (List.all_eq_true.1 h cs hcs) c hc
theorem open_row {α : Type} {e : α → List AV} {l : List α} {i : Nat} {v : α} (h : l[i]? = some v) : l.map (ow e) = (l.map (ow e)).set i (ow e v) := by
 rw [← List.map_set]
 congr 1
 refine List.ext_getElem? fun j => ?_
 rw [List.getElem?_set]
 by_cases e : i = j
 ·subst e
  have : i < l.length := by
   rcases Nat.lt_or_ge i l.length with h' | h'
   ·exact h'
   ·rw [List.getElem?_eq_none h'] at h; cases h
  rw [if_pos rfl, if_pos this, h]
 ·rw [if_neg e]
theorem set_plain {α : Type} {k : Nat} {e : α → List AV} (E : EOk k e) {l : List α} {i : Nat} {c : List AV} (h : c.all nameless = true) : plainEs ((l.map (ow e)).set i c) := by
 intro cs hcs d hd
 rcases List.mem_or_eq_of_mem_set hcs with h1 | rfl
 ·exact E.plainO l cs h1 d hd
 ·exact List.all_eq_true.1 h d hd
theorem ent_openS {s : AState} {b c i j k k' n : Nat} {A es' fs : List (List AV)} {cs : List AV} (hi : i < A.length) (hT : s.kp.T = true) (hb : s.heap b = some ⟨k, A.set i cs⟩) (hj : cs[j]? = some (.abs k' es')) (hc : s.used c = false) (hn : es'.length = n) (hfs : absEs es' = fs) (hdf : ∀ t x, s.env t = some x → dfA x = true) (hdc : ∀ b blk, s.heap b = some blk → b ∉ ([] : List Nat) → ∀ cs ∈ blk.es, ∀ c ∈ cs, dfC c = true) :
  Ent s ⟨s.env, editHp [(c, some ⟨k', fs⟩), (b, some ⟨k, A.set i (setR cs j [.own c 0 n])⟩)] s.heap, addUs [c] s.used, s.ns, s.kp⟩ := by
 subst hn hfs
 have hjl : j < cs.length := by
  rcases Nat.lt_or_ge j cs.length with h' | h'
  ·exact h'
  ·rw [List.getElem?_eq_none h'] at hj; cases hj
 have h := ent_open (c := c) hT hb (i := i) (cs := cs) (by simp [hi]) hj hc hdf (fun b blk hb => hdc b blk hb (by simp))
 have e := setR_eq (cs := cs) (j := j) (vs := [.own c 0 es'.length]) (by simp; omega)
 simp only [List.length_singleton] at e
 rw [e] at h
 simp only [List.set_set] at h
 exact h
theorem x_storeS {P : Program} {T : List (Nat × Ty)} {dst : Option Tmp} {ty : TypeId} {pos : String} {aft : Array Edge} {g : Option (Nat × Bool)} {s : AState} (hT : TyOk P T) {t : TypeId} {y : Ty} {x z : Operand} {val : AV} {b i j kk : Nat} {A : List (List AV)} {cs : List AV} (hi : i < A.length) (hx : s.ev x = some (.ptr b i j)) (hb : s.heap b = some ⟨kk, A.set i cs⟩) (hz : s.ev z = some val) (hy : tyOf T t = some y) (hsz : Nat.beq (cellsOf val).length y.size = true) (ok : (cellsOf val).all (okCell s.heap) = true) (hn : Nat.ble (j + y.size) cs.length = true) :
  AEff P ⟨dst, .store t x z, ty, pos, aft, g⟩ s.ev s.heap s.kp ⟨.dead, b :: namesOf (cellsOf val), [(b, some ⟨kk, A.set i (setR cs j (cellsOf val))⟩)], []⟩ := by
 have h := w_store (P := P) hT (dst := dst) (ty := ty) (pos := pos) (aft := aft) (g := g) hx hb hz hy hsz ok (i := i) (cs := cs) (by simp [hi]) hn
 rw [List.set_set] at h
 exact h
section
variable {P : Program} {ops : Array Oper} {nt : Nat} {l : List Oper} {s : AState} {K : AState → Prop}
theorem sops_lit {t u : Bool} (i : Nat) (hi : s.env i = some (.sc (.bool t))) (q : t = u) (h : SOps P ops nt l ⟨upd (some i) (.sc (.bool u)) s.env, s.heap, s.used, s.ns, s.kp⟩ K) : SOps P ops nt l s K := by
 subst q
 rw [upd_same hi] at h
 exact h
theorem sops_skip {d : Option Tmp} {op : Op} {ty : TypeId} {pos : String} {aft : Array Edge} {g : Option (Nat × Bool)} (hg : wantedA ops s.env ⟨d, op, ty, pos, aft, g⟩ = some false) (hd : dstB ⟨d, op, ty, pos, aft, g⟩ nt = true) (h : SOps P ops nt l ⟨upd d (.tuple []) s.env, s.heap, s.used, s.ns, s.kp⟩ K) : SOps P ops nt (⟨d, op, ty, pos, aft, g⟩ :: l) s K := ⟨fun C hC ν a w hs n Q hQ => by
 subst hC
 refine wpListIn_step fun K' hK' => ?_
 have hst : Step P ops C.nt ⟨d, op, ty, pos, aft, g⟩ s deadEff := ⟨dstB_ok hd, .inr ⟨hg, rfl⟩⟩
 exact step_sound hst hs fun ν' a' w' hs' => hK' _ _ (h.out C rfl ν' a' w' hs' n Q hQ)⟩
end
end Go.Proofs.Ytdhjmmnjapkmkaa
end

section
set_option linter.unusedVariables false
set_option linter.unusedSimpArgs false

namespace Go.Proofs.Ytdhjmmnjapkmkaa
open Go.RowKit
set_option linter.unusedVariables false
theorem k {α : Sort _} {a : α} : a = a := rfl
section
variable {P : Program} {ops : Array Oper} {nt : Nat} {r : List Oper} {s : AState} {tr : List Tr} {K : List Tr → AState → Prop} {K' : AState → Prop}
def opB (ops : Array Oper) (nt : Nat) (s : AState) (o : Oper) (news : List Nat) : Bool := dstB o nt && ((match wantedA ops s.env o with | some true => true | _ => false) && news.all fun b => !s.used b)
theorem opB_ok {o : Oper} {news : List Nat} (h : opB ops nt s o news = true) : dstB o nt = true ∧ wantedA ops s.env o = some true ∧ (news.all fun b => !s.used b) = true := by
 simp only [opB, Bool.and_eq_true] at h
 obtain ⟨h1, h2, h3⟩ := h
 refine ⟨h1, ?_, h3⟩
 split at h2
 ·assumption
 ·cases h2
theorem ae {d : Option Tmp} {op : Op} {ty : TypeId} {pos : String} {aft : Array Edge} {g : Option (Nat × Bool)} {e : Eff} (he : AEff P ⟨d, op, ty, pos, aft, g⟩ s.ev s.heap s.kp e) (hb : opB ops nt s ⟨d, op, ty, pos, aft, g⟩ e.news = true) (h : AOps P ops nt r (s.app d e) (trOf e :: tr) K) : AOps P ops nt (⟨d, op, ty, pos, aft, g⟩ :: r) s tr K :=
 aops_eff he (opB_ok hb).1 (opB_ok hb).2.1 (opB_ok hb).2.2 h
theorem se {d : Option Tmp} {op : Op} {ty : TypeId} {pos : String} {aft : Array Edge} {g : Option (Nat × Bool)} {e : Eff} (he : AEff P ⟨d, op, ty, pos, aft, g⟩ s.ev s.heap s.kp e) (hb : opB ops nt s ⟨d, op, ty, pos, aft, g⟩ e.news = true) (h : SOps P ops nt r (s.app d e) K') : SOps P ops nt (⟨d, op, ty, pos, aft, g⟩ :: r) s K' :=
 sops_eff he (opB_ok hb).1 (opB_ok hb).2.1 (opB_ok hb).2.2 h
theorem am {d : Option Tmp} {ty : TypeId} {pos : String} {aft : Array Edge} {g : Option (Nat × Bool)} {x : Operand} {v : AV} (hx : s.ev x = some v) (hb : opB ops nt s ⟨d, .move x, ty, pos, aft, g⟩ [] = true) (h : AOps P ops nt r (s.app d ⟨v, [], [], []⟩) (trOf ⟨v, [], [], []⟩ :: tr) K) : AOps P ops nt (⟨d, .move x, ty, pos, aft, g⟩ :: r) s tr K := ae (eff_move hx) hb h
theorem aa {d : Option Tmp} {ty : TypeId} {pos : String} {aft : Array Edge} {g : Option (Nat × Bool)} {x : Operand} {v : AV} (hx : s.ev x = some v) (hb : opB ops nt s ⟨d, .assign x, ty, pos, aft, g⟩ [] = true) (h : AOps P ops nt r (s.app d ⟨v, [], [], []⟩) (trOf ⟨v, [], [], []⟩ :: tr) K) : AOps P ops nt (⟨d, .assign x, ty, pos, aft, g⟩ :: r) s tr K := ae (eff_assign hx) hb h
theorem an (h : K tr s) : AOps P ops nt [] s tr K := aops_nil h
theorem sn (h : K' s) : SOps P ops nt [] s K' := sops_nil h
variable {Q : Exit → AState → Prop}
theorem sQ {x y : Code} (h : AC P nt x s (thenA (fun s' => AC P nt y s' Q) Q)) : AC P nt (.seq x y) s Q := ac_seq h
theorem rg {id : Nat} {l : List Oper} (h : AOps P l.toArray nt l s [] (fun _ s' => Q .normal s')) : AC P nt (.region id l.toArray false) s Q := ac_region h
theorem rgS {id : Nat} {l : List Oper} (h : SOps P l.toArray nt l s (Q .normal)) : AC P nt (.region id l.toArray false) s Q := ac_regionS h
theorem tn (h : K' s) : thenA K' Q .normal s := h
end
theorem e1 {e : Nat → Option AV} {σ : Nat → Option Nat} {n t : Nat} {x y : AV} (h : e t = some x) (m : matchA σ n x y) : ∃ x, e t = some x ∧ matchA σ n x y := ⟨x, h, m⟩
theorem ak {P : Program} {ops : Array Oper} {nt : Nat} {r : List Oper} {s : AState} {tr : List Tr} {K : List Tr → AState → Prop} {d : Option Tmp} {op : Op} {ty : TypeId} {pos : String} {aft : Array Edge} {g : Option (Nat × Bool)} (hg : wantedA ops s.env ⟨d, op, ty, pos, aft, g⟩ = some false) (hd : dstB ⟨d, op, ty, pos, aft, g⟩ nt = true) (h : AOps P ops nt r ⟨upd d (.tuple []) s.env, s.heap, s.used, s.ns, s.kp⟩ (⟨[], []⟩ :: tr) K) : AOps P ops nt (⟨d, op, ty, pos, aft, g⟩ :: r) s tr K := aops_skip hg hd h
theorem oE {e : Nat → Option AV} {σ : Nat → Option Nat} {n t b i m b' i' m' : Nat} (h : e t = some (.own b i m)) (p : (σ b', i, m, Nat.blt b' n) = (some b, i', m', true)) : ∃ x, e t = some x ∧ matchA σ n x (.own b' i' m') := by
 obtain ⟨p1, p⟩ := Prod.mk.inj p
 obtain ⟨p2, p⟩ := Prod.mk.inj p
 obtain ⟨p3, p4⟩ := Prod.mk.inj p
 exact ⟨_, h, p1, p2, p3, p4⟩
theorem pE {e : Nat → Option AV} {σ : Nat → Option Nat} {n t b i m b' i' m' : Nat} (h : e t = some (.ptr b i m)) (p : (σ b', i, m, Nat.blt b' n) = (some b, i', m', true)) : ∃ x, e t = some x ∧ matchA σ n x (.ptr b' i' m') := by
 obtain ⟨p1, p⟩ := Prod.mk.inj p
 obtain ⟨p2, p⟩ := Prod.mk.inj p
 obtain ⟨p3, p4⟩ := Prod.mk.inj p
 exact ⟨_, h, p1, p2, p3, p4⟩
section
variable {σ : Nat → Option Nat} {n b b0 k : Nat} {h : Hp} {r : List (Nat × Blk)}
theorem hB {y : Blk} (hp : plainEs y.es) (hs : σ b = some b0) (hb : h b0 = some y) (hn : Nat.blt b n = true) (hr : EntH σ n h r) : EntH σ n h ((b, y) :: r) := by
 simp only [EntH]
 rw [hs]
 exact ⟨⟨y, hb, rfl, .inl ⟨rfl, hp⟩⟩, hn, hr⟩
theorem hI {l : List Int} (hs : σ b = some b0) (hb : h b0 = some ⟨1, List.map (ow eI) l⟩) (hn : Nat.blt b n = true) (hr : EntH σ n h r) : EntH σ n h ((b, ⟨1, List.map (ow eI) l⟩) :: r) := hB (okI.plainO _) hs hb hn hr
theorem hP {y : Blk} (hs : σ b = some b0) (hb : h b0 = some y) (hp : (y.es.all fun cs => cs.all nameless) = true) (hn : Nat.blt b n = true) (hr : EntH σ n h r) : EntH σ n h ((b, y) :: r) := hB (plain_of hp) hs hb hn hr
theorem hX {y : Blk} (hm : match σ b with | some b0 => ∃ x, h b0 = some x ∧ matchB σ n x y | none => y.es = []) (hn : Nat.blt b n = true) (hr : EntH σ n h r) : EntH σ n h ((b, y) :: r) := ⟨hm, hn, hr⟩
end
theorem lenL {P : Program} {T : List (Nat × Ty)} (hT : TyOk P T) {dst : Option Tmp} {pos : String} {aft : Array Edge} {g : Option (Nat × Bool)} {s : AState} {x : Operand} {t e k : Nat} {y : Ty} {dty : TypeId} {α : Type} {f : α → List AV} {l : List α} (hx : s.ev x = some (.list k (List.map f l))) (hy : tyOf T t = some y) (hd : y.desc = .slice e) :
  AEff P ⟨dst, .call ⟨.builtin .len, #[x], #[t]⟩, dty, pos, aft, g⟩ s.ev s.heap s.kp ⟨.int l.length, [], [], []⟩ := AEff.val (w_len_list hT hx hy hd) (by rw [List.length_map])
theorem lA {α : Type} {a b : List α} : (a ++ b).length = a.length + b.length := List.length_append
theorem lT {α : Type} {a : List α} {i : Nat} {x : α} : (a.set i x).length = a.length := List.length_set
theorem lR {α : Type} {n : Nat} {x : α} : (List.replicate n x).length = n := List.length_replicate
theorem lC {α : Type} {a : α} {b : List α} : (a :: b).length = b.length + 1 := List.length_cons
theorem lN {α : Type} : ([] : List α).length = 0 := List.length_nil
theorem oa_nil : ([] : List AV).all okArg = true := rfl
theorem oa_cons {d : AV} {ds : List AV} (h1 : okArg d = true) (h2 : ds.all okArg = true) : (d :: ds).all okArg = true := by
 rw [List.all_cons, h1, h2]; rfl
end Go.Proofs.Ytdhjmmnjapkmkaa
end

section
set_option linter.unusedVariables false
set_option linter.unusedSimpArgs false

namespace Go.Proofs.Ytdhjmmnjapkmkaa
open Go.RowKit
set_option linter.unusedVariables false
set_option linter.unusedSimpArgs false
set_option maxRecDepth 10000
set_option maxHeartbeats 4000000

def m_impl_within (a0 : Int) (a1 : Int) (a2 : Int) : Option Bool :=
  bif decide (a1 ≤ a0) then
    (some (decide (a0 ≤ a2)))
  else
    (some (false))

theorem c_impl_within (a0 : Int) (a1 : Int) (a2 : Int) (r : Bool) (h : m_impl_within a0 a1 a2 = some r) : HasC Try.prog 91 [.int a0, .int a1, .int a2] (.bl r) := by
 refine hasC_mk TT_ok (rvs := [.tmp 6]) (ns := [0, 1]) Try.func91 k k Try.ntmps91 k k k <| sQ <| rg <| aa k k <| an <| tn <| sQ <| rg <| am k k <| am k k ?_
 refine ae (w_cmp k k k) k <| am k k ?_
 rcases cb h with ⟨q1, h⟩ | ⟨q1, h⟩
 ·refine aops_lit 10 k q1 <| am k k <| am k k <| ae (w_cmp k k k) k <| ae (eff_pick k k) k <| aa k k <| an <| tn <| ac_ret ?_
  obtain rfl := so h
  exact ret_mk k k k (fz_bl k)
 ·refine aops_lit 10 k q1 <| ak k k <| ak k k <| ak k k <| ae (eff_pick k k) k <| aa k k <| an <| tn <| ac_ret ?_
  obtain rfl := so h
  exact ret_mk k k k (fz_bl k)

def m_spec_l1In (a0 : Int) (a1 : Int) (a2 : Int) : Option Bool :=
  bif decide (a1 ≤ a0) then
    (some (decide (a0 ≤ a2)))
  else
    (some (false))

theorem c_spec_l1In (a0 : Int) (a1 : Int) (a2 : Int) (r : Bool) (h : m_spec_l1In a0 a1 a2 = some r) : HasC Try.prog 86 [.int a0, .int a1, .int a2] (.bl r) := by
 refine hasC_mk TT_ok (rvs := [.tmp 6]) (ns := [0, 1]) Try.func86 k k Try.ntmps86 k k k <| sQ <| rg <| aa k k <| an <| tn <| sQ <| rg <| am k k <| am k k ?_
 refine ae (w_cmp k k k) k <| am k k ?_
 rcases cb h with ⟨q1, h⟩ | ⟨q1, h⟩
 ·refine aops_lit 10 k q1 <| am k k <| am k k <| ae (w_cmp k k k) k <| ae (eff_pick k k) k <| aa k k <| an <| tn <| ac_ret ?_
  obtain rfl := so h
  exact ret_mk k k k (fz_bl k)
 ·refine aops_lit 10 k q1 <| ak k k <| ak k k <| ak k k <| ae (eff_pick k k) k <| aa k k <| an <| tn <| ac_ret ?_
  obtain rfl := so h
  exact ret_mk k k k (fz_bl k)

noncomputable def m_impl_sumOf_L1 (a0 : (List Int)) (x1 : (Int × Int)) : Option ((Int × Int) ⊕ Int) :=
  bif decide (x1.2 < (a0.length : Int)) then
    (Option.bind (atL a0 x1.2) fun v2 =>
    some (.inl (wr (x1.1 + v2), wr (x1.2 + 1))))
  else
    (some (.inr x1.1))

noncomputable def m_impl_sumOf (a0 : (List Int)) : Option Int :=
  Option.bind (Lp (m_impl_sumOf_L1 a0) (0, 0)) fun y3 =>
  some (y3)

theorem c_impl_sumOf (a0 : (List Int)) (r : Int) (h : m_impl_sumOf a0 = some r) : HasC Try.prog 157 [.list 1 (List.map eI a0)] (.int r) := by
 refine hasC_mk TT_ok (rvs := [.tmp 2]) (ns := [0, 1]) Try.func157 k k Try.ntmps157 k k k <| sQ <| rg <| aa k k <| an <| tn <| sQ <| rg <| aa k k <| an ?_
 refine tn <| sQ <| sQ <| rg <| am k k <| ae (lenL TT_ok k k k) k <| am k k <| an <| tn <| ac_block ?_
 obtain ⟨y3, hy3, h⟩ := ob h
 refine ac_Lp (body := (m_impl_sumOf_L1 a0)) hy3 (fun (x1 : (Int × Int)) => mkS [(3, .int x1.1), (6, .list 1 (List.map eI a0)), (7, .int (a0.length : Int)), (8, .int x1.2)] [] 0 [0, 1]) (fun r e t => e = .exit 0 ∧ Ent t (mkS [(3, .int r)] [] 0 [0, 1])) (ent_mk (σ := sg []) ⟨(e1 k k), ⟨_, k, ⟨k, k⟩⟩, (e1 k k), (e1 k k), trivial⟩ trivial k) ?_ ?_
 ·intro x1 o h
  refine sQ <| rg <| ae (w_cmp k k k) k <| an <| tn <| sQ ?_
  rcases cb h with ⟨q1, h⟩ | ⟨q1, h⟩
  ·refine ac_condT k q1 <| ac_skip <| tn <| sQ <| ac_block <| sQ <| rg ?_
   obtain ⟨v2, hv2, h⟩ := ob h
   refine ae (x_at_list TT_ok hv2 k k k k k k) k <| ae (w_load_ref TT_ok k k k k k k) k <| aa k k <| an <| tn <| rg <| am k k <| am k k <| ae (x_add k k) k <| aa k k ?_
   refine an <| block_n <| tn <| rg <| ae (x_add k k) k <| am k k <| an <| tn ?_
   obtain rfl := so h
   exact ⟨_, k, (ent_mk (σ := sg []) ⟨(e1 k k), ⟨_, k, ⟨k, k⟩⟩, (e1 k k), (e1 k k), trivial⟩ trivial k)⟩
  ·refine ac_condF k q1 <| ac_exit <| then_exit <| then_exit ?_
   obtain rfl := so h
   exact ⟨_, k, k, (ent_mk (σ := sg []) ⟨(e1 k k), trivial⟩ trivial k)⟩
 ·rintro e t ⟨rfl, hent⟩
  refine block_here <| tn <| ac_ent hent <| sQ <| rg <| am k k <| aa k k <| an <| tn <| ac_ret ?_
  obtain rfl := so h
  exact ret_mk k k k (fz_int k)

def m_spec_IsField (a0 : Int) : Option Bool :=
  bif decide (a0 = 2) then
    (some (true))
  else
    (bif decide (a0 = 3) then
      (some (true))
    else
      (some (decide (a0 = 5))))

theorem c_spec_IsField (a0 : Int) (r : Bool) (h : m_spec_IsField a0 = some r) : HasC Try.prog 126 [.int a0] (.bl r) := by
 refine hasC_mk TT_ok (rvs := [.tmp 2]) (ns := [0, 1]) Try.func126 k k Try.ntmps126 k k k <| sQ <| rg <| aa k k <| an <| tn <| sQ <| rg <| am k k <| ae (w_cmp k k k) k ?_
 refine am k k ?_
 rcases cb h with ⟨q1, h⟩ | ⟨q1, h⟩
 ·refine aops_lit 5 k q1 <| ak k k <| ak k k <| ae (eff_pick k k) k <| am k k <| ak k k <| ak k k <| ae (eff_pick k k) k <| aa k k <| an ?_
  refine tn <| ac_ent (t := mkS [(2, .bl true)] [] 0 [0, 1]) (ent_mk (σ := sg []) ⟨(e1 k k), trivial⟩ trivial k) <| ac_ret ?_
  obtain rfl := so h
  exact ret_mk k k k (fz_bl k)
 ·refine aops_lit 5 k q1 <| am k k <| ae (w_cmp k k k) k <| ae (eff_pick k k) k <| am k k ?_
  rcases cb h with ⟨q2, h⟩ | ⟨q2, h⟩
  ·refine aops_lit 9 k q2 <| ak k k <| ak k k <| ae (eff_pick k k) k <| aa k k <| an <| tn <| ac_ent (t := mkS [(2, .bl true)] [] 0 [0, 1]) (ent_mk (σ := sg []) ⟨(e1 k k), trivial⟩ trivial k) <| ac_ret ?_
   obtain rfl := so h
   exact ret_mk k k k (fz_bl k)
  ·refine aops_lit 9 k q2 <| am k k <| ae (w_cmp k k k) k <| ae (eff_pick k k) k <| aa k k <| an <| tn <| ac_ent (t := mkS [(2, .bl (decide (a0 = 5)))] [] 0 [0, 1]) (ent_mk (σ := sg []) ⟨(e1 k k), trivial⟩ trivial k) <| ac_ret ?_
   obtain rfl := so h
   exact ret_mk k k k (fz_bl k)

def m_impl_IsField (a0 : Int) : Option Bool :=
  bif decide (a0 = 2) then
    (some (true))
  else
    (bif decide (a0 = 3) then
      (some (true))
    else
      (some (decide (a0 = 5))))

theorem c_impl_IsField (a0 : Int) (r : Bool) (h : m_impl_IsField a0 = some r) : HasC Try.prog 132 [.int a0] (.bl r) := by
 refine hasC_mk TT_ok (rvs := [.tmp 2]) (ns := [0, 1]) Try.func132 k k Try.ntmps132 k k k <| sQ <| rg <| aa k k <| an <| tn <| sQ <| rg <| am k k <| ae (w_cmp k k k) k ?_
 refine am k k ?_
 rcases cb h with ⟨q1, h⟩ | ⟨q1, h⟩
 ·refine aops_lit 5 k q1 <| ak k k <| ak k k <| ae (eff_pick k k) k <| am k k <| ak k k <| ak k k <| ae (eff_pick k k) k <| aa k k <| an ?_
  refine tn <| ac_ent (t := mkS [(2, .bl true)] [] 0 [0, 1]) (ent_mk (σ := sg []) ⟨(e1 k k), trivial⟩ trivial k) <| ac_ret ?_
  obtain rfl := so h
  exact ret_mk k k k (fz_bl k)
 ·refine aops_lit 5 k q1 <| am k k <| ae (w_cmp k k k) k <| ae (eff_pick k k) k <| am k k ?_
  rcases cb h with ⟨q2, h⟩ | ⟨q2, h⟩
  ·refine aops_lit 9 k q2 <| ak k k <| ak k k <| ae (eff_pick k k) k <| aa k k <| an <| tn <| ac_ent (t := mkS [(2, .bl true)] [] 0 [0, 1]) (ent_mk (σ := sg []) ⟨(e1 k k), trivial⟩ trivial k) <| ac_ret ?_
   obtain rfl := so h
   exact ret_mk k k k (fz_bl k)
  ·refine aops_lit 9 k q2 <| am k k <| ae (w_cmp k k k) k <| ae (eff_pick k k) k <| aa k k <| an <| tn <| ac_ent (t := mkS [(2, .bl (decide (a0 = 5)))] [] 0 [0, 1]) (ent_mk (σ := sg []) ⟨(e1 k k), trivial⟩ trivial k) <| ac_ret ?_
   obtain rfl := so h
   exact ret_mk k k k (fz_bl k)

noncomputable def m_spec_IsQuiver_L1 (a0 : Qv) (x1 : Int) : Option (Int ⊕ (Unit ⊕ Bool)) :=
  bif decide (x1 < (a0.src.length : Int)) then
    (bif decide (x1 < (a0.tgt.length : Int)) then
      (Option.bind (atL a0.src x1) fun v3 =>
      Option.bind (m_spec_l1In v3 0 (wr (a0.n - 1))) fun v4 =>
      bif !v4 then
        (some (.inr (.inr (false))))
      else
        (Option.bind (atL a0.tgt x1) fun v6 =>
        Option.bind (m_spec_l1In v6 0 (wr (a0.n - 1))) fun v7 =>
        bif !v7 then
          (some (.inr (.inr (false))))
        else
          (some (.inl (wr (x1 + 1))))))
    else
      (some (.inr (.inl ()))))
  else
    (some (.inr (.inl ())))

noncomputable def m_spec_IsQuiver (a0 : Qv) : Option Bool :=
  Option.bind (Lp (m_spec_IsQuiver_L1 a0) 0) fun y9 =>
  Sum.elim (fun y10 =>
    Option.bind (m_spec_l1In a0.n 1 5) fun v11 =>
    bif v11 then
      (bif decide ((a0.src.length : Int) ≤ 6) then
        (some (decide ((a0.tgt.length : Int) = (a0.src.length : Int))))
      else
        (some (false)))
    else
      (some (false))
  ) 
  (fun y14 =>
    some y14
  )
   y9

theorem c_spec_IsQuiver (a0 : Qv) (r : Bool) (h : m_spec_IsQuiver a0 = some r) : HasC Try.prog 121 [.agg (eQ a0)] (.bl r) := by
 refine hasC_mk TT_ok (rvs := [.tmp 2]) (ns := [0, 1, 2]) Try.func121 k k Try.ntmps121 k k k <| sQ <| rg <| ae (w_box k k k k) k <| aa k k <| an <| tn <| sQ <| sQ <| rg ?_
 refine aa k k <| an <| tn <| ac_block ?_
 obtain ⟨y9, hy9, h⟩ := ob h
 refine ac_Lp (body := (m_spec_IsQuiver_L1 a0)) hy9 (fun (x1 : Int) => mkS [(1, .ptr 0 0 0), (3, .int x1)] [(0, ⟨3, [[.int a0.n, .list 1 (List.map eI a0.src), .list 1 (List.map eI a0.tgt)]]⟩)] 1 [1, 2]) (fun r e t => Sum.elim (fun a => (fun r e t => e = .exit 0 ∧ Ent t (mkS [(1, .ptr 0 0 0)] [(0, ⟨3, [[.int a0.n, .list 1 (List.map eI a0.src), .list 1 (List.map eI a0.tgt)]]⟩)] 1 [1, 2])) a e t) (fun b => (fun r e t => e = .ret ∧ RetQ TT [.tmp 2] (.bl r) .ret t) b e t) r) (ent_mk (σ := sg [(0, 0)]) ⟨(pE k k), (e1 k k), trivial⟩ (hP k k k k <| trivial) k) ?_ ?_
 ·intro x1 o h
  refine sQ <| sQ <| rg <| am k k <| ae (w_field_ptr TT_ok k k k k k k k) k <| ae (w_load_ptr TT_ok k k k k k k k) k <| ae (lenL TT_ok k k k) k <| ae (w_cmp k k k) k <| am k k ?_
  rcases cb h with ⟨q1, h⟩ | ⟨q1, h⟩
  ·refine aops_lit 9 k q1 <| am k k <| ae (w_field_ptr TT_ok k k k k k k k) k <| ae (w_load_ptr TT_ok k k k k k k k) k <| ae (lenL TT_ok k k k) k <| ae (w_cmp k k k) k <| ae (eff_pick k k) k <| an <| tn <| ac_ent (t := mkS [(1, .ptr 0 0 0), (3, .int x1), (15, .bl (decide (x1 < (a0.tgt.length : Int))))] [(0, ⟨3, [[.int a0.n, .list 1 (List.map eI a0.src), .list 1 (List.map eI a0.tgt)]]⟩)] 1 [1, 2]) (ent_mk (σ := sg [(0, 0)]) ⟨(pE k k), (e1 k k), (e1 k k), trivial⟩ (hP k k k k <| trivial) k) ?_
   rcases cb h with ⟨q2, h⟩ | ⟨q2, h⟩
   ·refine ac_condT k q2 <| ac_skip <| tn <| sQ <| ac_block <| sQ <| ac_region_draw MIXX <| ae (w_field_ptr TT_ok k k k k k k k) k <| ae (w_load_ptr TT_ok k k k k k k k) k <| am k k ?_
    obtain ⟨v3, hv3, h⟩ := ob h
    refine ae (x_at_list TT_ok hv3 k k k k k k) k <| ae (w_load_ref TT_ok k k k k k k) k <| ae (w_field_ptr TT_ok k k k k k k k) k <| ae (w_load_ptr TT_ok k k k k k k k) k <| ae (x_sub k k) k ?_
    obtain ⟨v4, hv4, h⟩ := ob h
    refine ae (w_call0s (c_spec_l1In v3 0 (wr (a0.n - 1)) v4 hv4) k (va_cons (va_same k) (va_cons (va_same k) (va_cons (va_same k) va_nil)))) k <| ae (w_not k) k <| am k k ?_
    rcases cb h with ⟨q5, h⟩ | ⟨q5, h⟩
    ·refine aops_lit 28 k q5 <| ak k k <| ak k k <| ak k k <| ak k k <| ak k k <| ak k k <| ak k k <| ak k k <| ak k k ?_
     refine ak k k <| ae (eff_pick k k) k <| an ?_
     refine ⟨by kernel_rfl, ?_⟩
     refine tn <| ac_ent (t := mkS [(1, .ptr 0 0 0), (3, .int x1), (39, .bl true)] [(0, ⟨3, [[.int a0.n, .list 1 (List.map eI a0.src), .list 1 (List.map eI a0.tgt)]]⟩)] 1 [1, 2]) (ent_mk (σ := sg [(0, 0)]) ⟨(pE k k), (e1 k k), (e1 k k), trivial⟩ (hP k k k k <| trivial) k) <| ac_condT k k <| sQ <| rg <| aa k k <| an <| tn <| ac_ret <| block_ret ?_
     refine then_ret <| then_ret ?_
     obtain rfl := so h
     exact ⟨_, k, k, ret_mk k k k (fz_bl k)⟩
    ·refine aops_lit 28 k q5 <| ae (w_field_ptr TT_ok k k k k k k k) k <| ae (w_load_ptr TT_ok k k k k k k k) k <| am k k ?_
     obtain ⟨v6, hv6, h⟩ := ob h
     refine ae (x_at_list TT_ok hv6 k k k k k k) k <| ae (w_load_ref TT_ok k k k k k k) k <| ae (w_field_ptr TT_ok k k k k k k k) k <| ae (w_load_ptr TT_ok k k k k k k k) k <| ae (x_sub k k) k ?_
     obtain ⟨v7, hv7, h⟩ := ob h
     refine ae (w_call0s (c_spec_l1In v6 0 (wr (a0.n - 1)) v7 hv7) k (va_cons (va_same k) (va_cons (va_same k) (va_cons (va_same k) va_nil)))) k <| ae (w_not k) k <| ae (eff_pick k k) k <| an ?_
     refine ⟨by kernel_rfl, ?_⟩
     refine tn <| ac_ent (t := mkS [(1, .ptr 0 0 0), (3, .int x1), (39, .bl (!v7))] [(0, ⟨3, [[.int a0.n, .list 1 (List.map eI a0.src), .list 1 (List.map eI a0.tgt)]]⟩)] 1 [1, 2]) (ent_mk (σ := sg [(0, 0)]) ⟨(pE k k), (e1 k k), (e1 k k), trivial⟩ (hP k k k k <| trivial) k) ?_
     rcases cb h with ⟨q8, h⟩ | ⟨q8, h⟩
     ·refine ac_condT k q8 <| sQ <| rg <| aa k k <| an <| tn <| ac_ret <| block_ret <| then_ret <| then_ret ?_
      obtain rfl := so h
      exact ⟨_, k, k, ret_mk k k k (fz_bl k)⟩
     ·refine ac_condF k q8 <| ac_skip <| block_n <| tn <| rg <| am k k <| ae (x_add k k) k <| aa k k <| an <| tn ?_
      obtain rfl := so h
      exact ⟨_, k, (ent_mk (σ := sg [(0, 0)]) ⟨(pE k k), (e1 k k), trivial⟩ (hP k k k k <| trivial) k)⟩
   ·refine ac_condF k q2 <| ac_exit <| then_exit <| then_exit ?_
    obtain rfl := so h
    exact ⟨_, k, k, (ent_mk (σ := sg [(0, 0)]) ⟨(pE k k), trivial⟩ (hP k k k k <| trivial) k)⟩
  ·refine aops_lit 9 k q1 <| ak k k <| ak k k <| ak k k <| ak k k <| ak k k <| ae (eff_pick k k) k <| an <| tn <| ac_ent (t := mkS [(1, .ptr 0 0 0), (3, .int x1), (15, .bl false)] [(0, ⟨3, [[.int a0.n, .list 1 (List.map eI a0.src), .list 1 (List.map eI a0.tgt)]]⟩)] 1 [1, 2]) (ent_mk (σ := sg [(0, 0)]) ⟨(pE k k), (e1 k k), (e1 k k), trivial⟩ (hP k k k k <| trivial) k) ?_
   refine ac_condF k k <| ac_exit <| then_exit <| then_exit ?_
   obtain rfl := so h
   exact ⟨_, k, k, (ent_mk (σ := sg [(0, 0)]) ⟨(pE k k), trivial⟩ (hP k k k k <| trivial) k)⟩
 ·intro e t hX
  rcases y9 with y10 | y14
  ·obtain ⟨rfl, hent⟩ := hX
   refine block_here <| tn <| ac_ent hent <| sQ <| rg <| ae (w_field_ptr TT_ok k k k k k k k) k <| ae (w_load_ptr TT_ok k k k k k k k) k ?_
   obtain ⟨v11, hv11, h⟩ := ob h
   refine ae (w_call0s (c_spec_l1In a0.n 1 5 v11 hv11) k (va_cons (va_same k) (va_cons (va_same k) (va_cons (va_same k) va_nil)))) k <| am k k ?_
   rcases cb h with ⟨q12, h⟩ | ⟨q12, h⟩
   ·refine aops_lit 43 k q12 <| ae (w_field_ptr TT_ok k k k k k k k) k <| ae (w_load_ptr TT_ok k k k k k k k) k <| ae (lenL TT_ok k k k) k <| ae (w_cmp k k k) k <| ae (eff_pick k k) k <| am k k ?_
    rcases cb h with ⟨q13, h⟩ | ⟨q13, h⟩
    ·refine aops_lit 49 k q13 <| ae (w_field_ptr TT_ok k k k k k k k) k <| ae (w_load_ptr TT_ok k k k k k k k) k <| ae (lenL TT_ok k k k) k <| ae (w_field_ptr TT_ok k k k k k k k) k <| ae (w_load_ptr TT_ok k k k k k k k) k <| ae (lenL TT_ok k k k) k <| ae (w_cmp k k k) k <| ae (eff_pick k k) k <| aa k k ?_
     refine an <| tn <| ac_ent (t := mkS [(2, .bl (decide ((a0.tgt.length : Int) = (a0.src.length : Int))))] [] 1 [1, 2]) (ent_mk (σ := sg []) ⟨(e1 k k), trivial⟩ trivial k) <| ac_ret ?_
     obtain rfl := so h
     exact ret_mk k k k (fz_bl k)
    ·refine aops_lit 49 k q13 <| ak k k <| ak k k <| ak k k <| ak k k <| ak k k <| ak k k <| ak k k <| ae (eff_pick k k) k <| aa k k ?_
     refine an <| tn <| ac_ent (t := mkS [(2, .bl false)] [] 1 [1, 2]) (ent_mk (σ := sg []) ⟨(e1 k k), trivial⟩ trivial k) <| ac_ret ?_
     obtain rfl := so h
     exact ret_mk k k k (fz_bl k)
   ·refine aops_lit 43 k q12 <| ak k k <| ak k k <| ak k k <| ak k k <| ae (eff_pick k k) k <| am k k <| ak k k <| ak k k <| ak k k ?_
    refine ak k k <| ak k k <| ak k k <| ak k k <| ae (eff_pick k k) k <| aa k k <| an <| tn <| ac_ent (t := mkS [(2, .bl false)] [] 1 [1, 2]) (ent_mk (σ := sg []) ⟨(e1 k k), trivial⟩ trivial k) <| ac_ret ?_
    obtain rfl := so h
    exact ret_mk k k k (fz_bl k)
  ·obtain ⟨rfl, hent⟩ := hX
   refine block_ret <| then_ret ?_
   obtain rfl := so h
   exact hent

def m_impl_zero (a0 : Int) (a1 : Int) : Option Mt :=
  bif (decide (0 ≤ wr (a0 * a1)) && decide (wr (a0 * a1) ≤ 1048576)) then
    (some ((⟨a0, a1, (List.replicate ((wr (a0 * a1)).toNat) (0 : Int))⟩ : Mt)))
  else none

theorem c_impl_zero (a0 : Int) (a1 : Int) (r : Mt) (h : m_impl_zero a0 a1 = some r) : HasC Try.prog 136 [.int a0, .int a1] (.agg (eM r)) := by
 refine hasC_mk TT_ok (rvs := [.cell 4 82]) (ns := [0, 1, 2, 3]) Try.func136 k k Try.ntmps136 k k k <| sQ <| rg <| ae (w_alloc TT_ok k k) k <| an <| tn <| sQ <| rg <| am k k <| am k k ?_
 refine am k k <| am k k <| ae (x_mul k k) k ?_
 obtain ⟨q1, h⟩ := cg h
 refine ae (x_make TT_ok q1 k k k k k k k k) k <| ae (w_build TT_ok k k k k k k) k <| ae (w_store TT_ok k k k k k k k k) k <| an <| tn <| ac_ent (t := mkS [(4, .ptr 0 0 0)] [(0, ⟨3, [[.int a0, .int a1, .own 1 0 ((List.replicate ((wr (a0 * a1)).toNat) (0 : Int)).length)]]⟩), (1, ⟨1, List.map (ow eI) (List.replicate ((wr (a0 * a1)).toNat) (0 : Int))⟩)] 2 [2, 3]) (ent_mk (σ := sg [(0, 0), (1, 1)]) ⟨(pE k k), trivial⟩ (hX ⟨_, k, k, .inr ⟨_, _, k, ⟨_, _, k, k, ⟨_, _, k, k, ⟨_, _, k, ⟨k, k, (by simp only [len_map, lA, lT, lR, lC, lN]), k⟩, k⟩⟩⟩, k⟩⟩ k <| hX ⟨_, k, k, .inl ⟨rep_eq (e := eI) (z := 0) _, okI.plainO _⟩⟩ k <| trivial) k) <| ac_ret ?_
 obtain rfl := so h
 exact ret_mk k k k (xz_agg (x1_cons (k) (x1_cons (k) (x1_cons (x_f1 okI k k) x1_nil))))

noncomputable def m_impl_identity_L1 (a0 : Int) (x1 : ((List Int) × Int)) : Option (((List Int) × Int) ⊕ (List Int)) :=
  bif decide (x1.2 < a0) then
    (Option.bind (atL x1.1 (wr ((wr (x1.2 * a0)) + x1.2))) fun v3 =>
    some (.inl ((x1.1.set ((wr ((wr (x1.2 * a0)) + x1.2)).toNat) 1), wr (x1.2 + 1))))
  else
    (some (.inr x1.1))

noncomputable def m_impl_identity (a0 : Int) : Option Mt :=
  Option.bind (m_impl_zero a0 a0) fun v1 =>
  Option.bind (Lp (m_impl_identity_L1 a0) (v1.cells, 0)) fun y4 =>
  some ((⟨v1.rows, v1.cols, y4⟩ : Mt))

theorem c_impl_identity (a0 : Int) (r : Mt) (h : m_impl_identity a0 = some r) : HasC Try.prog 101 [.int a0] (.agg (eM r)) := by
 refine hasC_mk TT_ok (rvs := [.cell 2 82]) (ns := [0, 1, 2, 3, 4]) Try.func101 k k Try.ntmps101 k k k <| sQ <| rg <| ae (w_alloc TT_ok k k) k <| an <| tn <| sQ <| rg <| am k k <| am k k ?_
 obtain ⟨v1, hv1, h⟩ := ob h
 refine ae (AEff.conv (w_call0 (x := .agg [.int v1.rows, .int v1.cols, .own 1 0 (List.map eI v1.cells).length]) (nb := [(1, ⟨1, absEs (List.map eI v1.cells)⟩)]) (c_impl_zero a0 a0 v1 hv1) k (by rfl) k k (g1_cons trivial (g1_cons trivial (g1_cons (okI.good _) g1_nil))) (va_cons (va_same k) (va_cons (va_same k) va_nil))) (v' := .agg [.int v1.rows, .int v1.cols, .own 1 0 v1.cells.length]) (ed' := [(1, some ⟨1, List.map (ow eI) v1.cells⟩)]) (by simp only [len_map]) (ed_ok (nb' := [(1, ⟨1, List.map (ow eI) v1.cells⟩)]) (by simp only [abs_map]))) k <| ae (w_alloc TT_ok k k) k <| ae (w_store TT_ok k k k k k k k k) k <| an <| tn <| sQ <| sQ <| rg <| am k k <| am k k ?_
 refine an <| tn <| ac_block ?_
 obtain ⟨y4, hy4, h⟩ := ob h
 refine ac_Lp (body := (m_impl_identity_L1 a0)) hy4 (fun (x1 : ((List Int) × Int)) => mkS [(0, .int a0), (2, .ptr 0 0 0), (3, .ptr 1 0 0), (8, .int a0), (9, .int x1.2)] [(0, ⟨3, [[.int 0, .int 0, .nil 1]]⟩), (1, ⟨3, [[.int v1.rows, .int v1.cols, .own 2 0 x1.1.length]]⟩), (2, ⟨1, List.map (ow eI) x1.1⟩)] 3 [3, 4]) (fun r e t => e = .exit 0 ∧ Ent t (mkS [(2, .ptr 0 0 0), (3, .ptr 1 0 0)] [(0, ⟨3, [[.int 0, .int 0, .nil 1]]⟩), (1, ⟨3, [[.int v1.rows, .int v1.cols, .own 2 0 r.length]]⟩), (2, ⟨1, List.map (ow eI) r⟩)] 3 [3, 4])) (ent_mk (σ := sg [(0, 0), (1, 2), (2, 1)]) ⟨(e1 k k), (pE k k), (pE k k), (e1 k k), (e1 k k), trivial⟩ (hP k k k k <| hX ⟨_, k, k, .inr ⟨_, _, k, ⟨_, _, k, k, ⟨_, _, k, k, ⟨_, _, k, ⟨k, k, k, k⟩, k⟩⟩⟩, k⟩⟩ k <| hI k k k <| trivial) k) ?_ ?_
 ·intro x1 o h
  refine sQ <| rg <| ae (w_cmp k k k) k <| an <| tn <| sQ ?_
  rcases cb h with ⟨q2, h⟩ | ⟨q2, h⟩
  ·refine ac_condT k q2 <| ac_skip <| tn <| sQ <| ac_block <| sQ <| rg <| am k k <| aa k k <| an ?_
   refine tn <| rg <| ae (w_field_ptr TT_ok k k k k k k k) k <| ae (w_load_ptr TT_ok k k k k k k k) k <| am k k <| am k k <| ae (x_mul k k) k <| am k k <| ae (x_add k k) k ?_
   obtain ⟨v3, hv3, h⟩ := ob h
   refine ae (x_at_own TT_ok (atL_nn hv3) (atL_lt hv3) k k k k k k k) k <| ae (x_store TT_ok okIo (u := 1) (atL_get hv3) k k k k k k) k <| an <| block_n <| tn <| ac_ent (t := mkS [(0, .int a0), (2, .ptr 0 0 0), (3, .ptr 1 0 0), (8, .int a0), (9, .int x1.2)] [(0, ⟨3, [[.int 0, .int 0, .nil 1]]⟩), (1, ⟨3, [[.int v1.rows, .int v1.cols, .own 2 0 ((x1.1.set ((wr ((wr (x1.2 * a0)) + x1.2)).toNat) 1).length)]]⟩), (2, ⟨1, List.map (ow eI) (x1.1.set ((wr ((wr (x1.2 * a0)) + x1.2)).toNat) 1)⟩)] 3 [3, 4]) (ent_mk (σ := sg [(0, 0), (1, 1), (2, 2)]) ⟨(e1 k k), (pE k k), (pE k k), (e1 k k), (e1 k k), trivial⟩ (hP k k k k <| hX ⟨_, k, k, .inr ⟨_, _, k, ⟨_, _, k, k, ⟨_, _, k, k, ⟨_, _, k, ⟨k, k, (by simp only [len_map, lA, lT, lR, lC, lN]), k⟩, k⟩⟩⟩, k⟩⟩ k <| hI k k k <| trivial) k) <| rg <| ae (x_add k k) k <| am k k <| an ?_
   refine tn ?_
   obtain rfl := so h
   exact ⟨_, k, (ent_mk (σ := sg [(0, 0), (1, 1), (2, 2)]) ⟨(e1 k k), (pE k k), (pE k k), (e1 k k), (e1 k k), trivial⟩ (hP k k k k <| hX ⟨_, k, k, .inr ⟨_, _, k, ⟨_, _, k, k, ⟨_, _, k, k, ⟨_, _, k, ⟨k, k, k, k⟩, k⟩⟩⟩, k⟩⟩ k <| hI k k k <| trivial) k)⟩
  ·refine ac_condF k q2 <| ac_exit <| then_exit <| then_exit ?_
   obtain rfl := so h
   exact ⟨_, k, k, (ent_mk (σ := sg [(0, 0), (1, 1), (2, 2)]) ⟨(pE k k), (pE k k), trivial⟩ (hP k k k k <| hX ⟨_, k, k, .inr ⟨_, _, k, ⟨_, _, k, k, ⟨_, _, k, k, ⟨_, _, k, ⟨k, k, k, k⟩, k⟩⟩⟩, k⟩⟩ k <| hI k k k <| trivial) k)⟩
 ·rintro e t ⟨rfl, hent⟩
  refine block_here <| tn <| ac_ent hent <| sQ <| rg <| ae (w_load_ptr TT_ok k k k k k k k) k <| ae (w_store TT_ok k k k k k k k k) k <| an <| tn <| ac_ret ?_
  obtain rfl := so h
  exact ret_mk k k k (xz_agg (x1_cons (k) (x1_cons (k) (x1_cons (x_f1 okI k k) x1_nil))))

def m_spec_l3Zero (a0 : Int) (a1 : Int) : Option Mt :=
  bif (decide (0 ≤ wr (a0 * a1)) && decide (wr (a0 * a1) ≤ 1048576)) then
    (some ((⟨a0, a1, (List.replicate ((wr (a0 * a1)).toNat) (0 : Int))⟩ : Mt)))
  else none

theorem c_spec_l3Zero (a0 : Int) (a1 : Int) (r : Mt) (h : m_spec_l3Zero a0 a1 = some r) : HasC Try.prog 129 [.int a0, .int a1] (.agg (eM r)) := by
 refine hasC_mk TT_ok (rvs := [.cell 4 82]) (ns := [0, 1, 2, 3]) Try.func129 k k Try.ntmps129 k k k <| sQ <| rg <| ae (w_alloc TT_ok k k) k <| an <| tn <| sQ <| rg <| am k k <| am k k ?_
 refine am k k <| am k k <| ae (x_mul k k) k ?_
 obtain ⟨q1, h⟩ := cg h
 refine ae (x_make TT_ok q1 k k k k k k k k) k <| ae (w_build TT_ok k k k k k k) k <| ae (w_store TT_ok k k k k k k k k) k <| an <| tn <| ac_ent (t := mkS [(4, .ptr 0 0 0)] [(0, ⟨3, [[.int a0, .int a1, .own 1 0 ((List.replicate ((wr (a0 * a1)).toNat) (0 : Int)).length)]]⟩), (1, ⟨1, List.map (ow eI) (List.replicate ((wr (a0 * a1)).toNat) (0 : Int))⟩)] 2 [2, 3]) (ent_mk (σ := sg [(0, 0), (1, 1)]) ⟨(pE k k), trivial⟩ (hX ⟨_, k, k, .inr ⟨_, _, k, ⟨_, _, k, k, ⟨_, _, k, k, ⟨_, _, k, ⟨k, k, (by simp only [len_map, lA, lT, lR, lC, lN]), k⟩, k⟩⟩⟩, k⟩⟩ k <| hX ⟨_, k, k, .inl ⟨rep_eq (e := eI) (z := 0) _, okI.plainO _⟩⟩ k <| trivial) k) <| ac_ret ?_
 obtain rfl := so h
 exact ret_mk k k k (xz_agg (x1_cons (k) (x1_cons (k) (x1_cons (x_f1 okI k k) x1_nil))))

noncomputable def m_spec_l3Identity_L1 (a0 : Int) (x1 : ((List Int) × Int)) : Option (((List Int) × Int) ⊕ (List Int)) :=
  bif decide (x1.2 < a0) then
    (Option.bind (atL x1.1 (wr ((wr (x1.2 * a0)) + x1.2))) fun v3 =>
    some (.inl ((x1.1.set ((wr ((wr (x1.2 * a0)) + x1.2)).toNat) 1), wr (x1.2 + 1))))
  else
    (some (.inr x1.1))

noncomputable def m_spec_l3Identity (a0 : Int) : Option Mt :=
  Option.bind (m_spec_l3Zero a0 a0) fun v1 =>
  Option.bind (Lp (m_spec_l3Identity_L1 a0) (v1.cells, 0)) fun y4 =>
  some ((⟨v1.rows, v1.cols, y4⟩ : Mt))

theorem c_spec_l3Identity (a0 : Int) (r : Mt) (h : m_spec_l3Identity a0 = some r) : HasC Try.prog 96 [.int a0] (.agg (eM r)) := by
 refine hasC_mk TT_ok (rvs := [.cell 2 82]) (ns := [0, 1, 2, 3, 4]) Try.func96 k k Try.ntmps96 k k k <| sQ <| rg <| ae (w_alloc TT_ok k k) k <| an <| tn <| sQ <| rg <| am k k <| am k k ?_
 obtain ⟨v1, hv1, h⟩ := ob h
 refine ae (AEff.conv (w_call0 (x := .agg [.int v1.rows, .int v1.cols, .own 1 0 (List.map eI v1.cells).length]) (nb := [(1, ⟨1, absEs (List.map eI v1.cells)⟩)]) (c_spec_l3Zero a0 a0 v1 hv1) k (by rfl) k k (g1_cons trivial (g1_cons trivial (g1_cons (okI.good _) g1_nil))) (va_cons (va_same k) (va_cons (va_same k) va_nil))) (v' := .agg [.int v1.rows, .int v1.cols, .own 1 0 v1.cells.length]) (ed' := [(1, some ⟨1, List.map (ow eI) v1.cells⟩)]) (by simp only [len_map]) (ed_ok (nb' := [(1, ⟨1, List.map (ow eI) v1.cells⟩)]) (by simp only [abs_map]))) k <| ae (w_alloc TT_ok k k) k <| ae (w_store TT_ok k k k k k k k k) k <| an <| tn <| sQ <| sQ <| rg <| aa k k <| an ?_
 refine tn <| ac_block ?_
 obtain ⟨y4, hy4, h⟩ := ob h
 refine ac_Lp (body := (m_spec_l3Identity_L1 a0)) hy4 (fun (x1 : ((List Int) × Int)) => mkS [(0, .int a0), (2, .ptr 0 0 0), (3, .ptr 1 0 0), (4, .int x1.2)] [(0, ⟨3, [[.int 0, .int 0, .nil 1]]⟩), (1, ⟨3, [[.int v1.rows, .int v1.cols, .own 2 0 x1.1.length]]⟩), (2, ⟨1, List.map (ow eI) x1.1⟩)] 3 [3, 4]) (fun r e t => e = .exit 0 ∧ Ent t (mkS [(2, .ptr 0 0 0), (3, .ptr 1 0 0)] [(0, ⟨3, [[.int 0, .int 0, .nil 1]]⟩), (1, ⟨3, [[.int v1.rows, .int v1.cols, .own 2 0 r.length]]⟩), (2, ⟨1, List.map (ow eI) r⟩)] 3 [3, 4])) (ent_mk (σ := sg [(0, 0), (1, 2), (2, 1)]) ⟨(e1 k k), (pE k k), (pE k k), (e1 k k), trivial⟩ (hP k k k k <| hX ⟨_, k, k, .inr ⟨_, _, k, ⟨_, _, k, k, ⟨_, _, k, k, ⟨_, _, k, ⟨k, k, k, k⟩, k⟩⟩⟩, k⟩⟩ k <| hI k k k <| trivial) k) ?_ ?_
 ·intro x1 o h
  refine sQ <| sQ <| rg <| am k k <| am k k <| ae (w_cmp k k k) k <| an <| tn ?_
  rcases cb h with ⟨q2, h⟩ | ⟨q2, h⟩
  ·refine ac_condT k q2 <| ac_skip <| tn <| sQ <| ac_block <| rg <| ae (w_field_ptr TT_ok k k k k k k k) k <| ae (w_load_ptr TT_ok k k k k k k k) k <| am k k <| am k k ?_
   refine ae (x_mul k k) k <| am k k <| ae (x_add k k) k ?_
   obtain ⟨v3, hv3, h⟩ := ob h
   refine ae (x_at_own TT_ok (atL_nn hv3) (atL_lt hv3) k k k k k k k) k <| ae (x_store TT_ok okIo (u := 1) (atL_get hv3) k k k k k k) k <| an <| block_n <| tn <| ac_ent (t := mkS [(0, .int a0), (2, .ptr 0 0 0), (3, .ptr 1 0 0), (4, .int x1.2)] [(0, ⟨3, [[.int 0, .int 0, .nil 1]]⟩), (1, ⟨3, [[.int v1.rows, .int v1.cols, .own 2 0 ((x1.1.set ((wr ((wr (x1.2 * a0)) + x1.2)).toNat) 1).length)]]⟩), (2, ⟨1, List.map (ow eI) (x1.1.set ((wr ((wr (x1.2 * a0)) + x1.2)).toNat) 1)⟩)] 3 [3, 4]) (ent_mk (σ := sg [(0, 0), (1, 1), (2, 2)]) ⟨(e1 k k), (pE k k), (pE k k), (e1 k k), trivial⟩ (hP k k k k <| hX ⟨_, k, k, .inr ⟨_, _, k, ⟨_, _, k, k, ⟨_, _, k, k, ⟨_, _, k, ⟨k, k, (by simp only [len_map, lA, lT, lR, lC, lN]), k⟩, k⟩⟩⟩, k⟩⟩ k <| hI k k k <| trivial) k) <| rg <| am k k <| ae (x_add k k) k <| aa k k ?_
   refine an <| tn ?_
   obtain rfl := so h
   exact ⟨_, k, (ent_mk (σ := sg [(0, 0), (1, 1), (2, 2)]) ⟨(e1 k k), (pE k k), (pE k k), (e1 k k), trivial⟩ (hP k k k k <| hX ⟨_, k, k, .inr ⟨_, _, k, ⟨_, _, k, k, ⟨_, _, k, k, ⟨_, _, k, ⟨k, k, k, k⟩, k⟩⟩⟩, k⟩⟩ k <| hI k k k <| trivial) k)⟩
  ·refine ac_condF k q2 <| ac_exit <| then_exit <| then_exit ?_
   obtain rfl := so h
   exact ⟨_, k, k, (ent_mk (σ := sg [(0, 0), (1, 1), (2, 2)]) ⟨(pE k k), (pE k k), trivial⟩ (hP k k k k <| hX ⟨_, k, k, .inr ⟨_, _, k, ⟨_, _, k, k, ⟨_, _, k, k, ⟨_, _, k, ⟨k, k, k, k⟩, k⟩⟩⟩, k⟩⟩ k <| hI k k k <| trivial) k)⟩
 ·rintro e t ⟨rfl, hent⟩
  refine block_here <| tn <| ac_ent hent <| sQ <| rg <| ae (w_load_ptr TT_ok k k k k k k k) k <| ae (w_store TT_ok k k k k k k k k) k <| an <| tn <| ac_ret ?_
  obtain rfl := so h
  exact ret_mk k k k (xz_agg (x1_cons (k) (x1_cons (k) (x1_cons (x_f1 okI k k) x1_nil))))

def m_impl_Matrix_row (a0 : Mt) (a1 : Int) : Option Unit :=
  bif (decide (0 ≤ wr (a1 * a0.cols)) && (decide (wr (a1 * a0.cols) ≤ wr ((wr (a1 + 1)) * a0.cols)) && decide (wr ((wr (a1 + 1)) * a0.cols) ≤ ((a0.cells.length : Nat) : Int)))) then
    (some ())
  else none

theorem c_impl_Matrix_row (a0 : Mt) (a1 : Int) (r : Unit) (h : m_impl_Matrix_row a0 a1 = some r) : HasE Try.prog 137 [.agg [.int a0.rows, .int a0.cols, .own 0 0 a0.cells.length], .int a1] [(0, ⟨1, List.map (ow eI) a0.cells⟩)] 1 (.own 0 (0 + (wr (a1 * a0.cols)).toNat) ((wr ((wr (a1 + 1)) * a0.cols)).toNat - (wr (a1 * a0.cols)).toNat)) [(0, ⟨1, List.map (ow eI) a0.cells⟩)] := by
 refine hasE_mk TT_ok (rvs := [.tmp 4]) (ns := [1, 2, 3]) Try.func137 k k Try.ntmps137 k k <| sQ <| rg <| ae (w_box k k k k) k <| aa k k <| an <| tn <| sQ <| rg <| ae (w_field_ptr TT_ok k k k k k k k) k ?_
 refine ae (w_load_ptr TT_ok k k k k k k k) k <| am k k <| ae (w_field_ptr TT_ok k k k k k k k) k <| ae (w_load_ptr TT_ok k k k k k k k) k <| ae (x_mul k k) k <| am k k <| ae (x_add k k) k <| ae (w_field_ptr TT_ok k k k k k k k) k <| ae (w_load_ptr TT_ok k k k k k k k) k <| ae (x_mul k k) k ?_
 obtain ⟨q1, h⟩ := cg h
 refine ae (x_slice_own TT_ok (l := wr (a1 * a0.cols)) (h := wr ((wr (a1 + 1)) * a0.cols)) q1 k k k k k k k k) k <| aa k k <| an <| tn <| ac_ent (t := mkS [(4, .own 0 (0 + (wr (a1 * a0.cols)).toNat) ((wr ((wr (a1 + 1)) * a0.cols)).toNat - (wr (a1 * a0.cols)).toNat))] [(0, ⟨1, List.map (ow eI) a0.cells⟩)] 2 [2, 3] 1) (ent_mk (σ := sg [(0, 0)]) ⟨(oE k k), trivial⟩ (hI k k k <| trivial) k) <| ac_ret ?_
 obtain rfl := so h
 exact ⟨mkS [(4, .own 0 (0 + (wr (a1 * a0.cols)).toNat) ((wr ((wr (a1 + 1)) * a0.cols)).toNat - (wr (a1 * a0.cols)).toNat))] [(0, ⟨1, List.map (ow eI) a0.cells⟩)] 1 [1, 2, 3] 1, (ent_mk (σ := sg [(0, 0)]) ⟨(oE k k), trivial⟩ (hI k k k <| trivial) k), k, ⟨_, k, .inl k⟩, ⟨k, trivial⟩⟩

noncomputable def m_impl_addMultiple_L1 (a0 : Int) (a2 : Int) (a3 : (List Int)) (n1 : Nat) (s1 : Nat) (x1 : ((List Int) × Int)) : Option (((List Int) × Int) ⊕ (List Int)) :=
  bif decide (x1.2 < (a3.length : Int)) then
    (Option.bind (atL a3 x1.2) fun v2 =>
    bif (decide (0 ≤ x1.2) && decide (x1.2 < ((n1 : Nat) : Int))) then
      (Option.bind (x1.1[(s1 + x1.2.toNat)]?) fun v3 =>
      bif !decide (a0 = 0) then
        (bif (decide (0 ≤ x1.2) && decide (x1.2 < ((n1 : Nat) : Int))) then
          (Option.bind (x1.1[(s1 + x1.2.toNat)]?) fun v5 =>
          some (.inl ((x1.1.set (s1 + x1.2.toNat) ((wr (v3 + (wr (a2 * v2)))).tmod a0)), wr (x1.2 + 1)))
          )
        else none)
      else none
      )
    else none)
  else
    (some (.inr x1.1))

noncomputable def m_impl_addMultiple (a0 : Int) (c0 : (List Int)) (s1 : Nat) (n1 : Nat) (a2 : Int) (a3 : (List Int)) : Option (List Int) :=
  Option.bind (Lp (m_impl_addMultiple_L1 a0 a2 a3 n1 s1) (c0, 0)) fun y8 =>
  some y8

theorem c_impl_addMultiple (a0 : Int) (c0 : (List Int)) (s1 : Nat) (n1 : Nat) (a2 : Int) (a3 : (List Int)) (r : (List Int)) (h : m_impl_addMultiple a0 c0 s1 n1 a2 a3 = some r) : HasE Try.prog 138 [.int a0, .own 0 s1 n1, .int a2, .list 1 (List.map eI a3)] [(0, ⟨1, List.map (ow eI) c0⟩)] 1 (.own 0 s1 n1) [(0, ⟨1, List.map (ow eI) r⟩)] := by
 refine hasE_mk TT_ok (rvs := [.tmp 8]) (ns := [1, 2]) Try.func138 k k Try.ntmps138 k k <| sQ <| rg <| aa k k <| an <| tn <| sQ <| sQ <| rg <| am k k ?_
 refine ae (lenL TT_ok k k k) k <| am k k <| an <| tn <| ac_block ?_
 obtain ⟨y8, hy8, h⟩ := ob h
 refine ac_Lp (body := (m_impl_addMultiple_L1 a0 a2 a3 n1 s1)) hy8 (fun (x1 : ((List Int) × Int)) => mkS [(0, .int a0), (1, .own 0 s1 n1), (2, .int a2), (11, .list 1 (List.map eI a3)), (12, .int (a3.length : Int)), (13, .int x1.2)] [(0, ⟨1, List.map (ow eI) x1.1⟩)] 1 [1, 2] 1) (fun r e t => e = .exit 0 ∧ Ent t (mkS [(1, .own 0 s1 n1)] [(0, ⟨1, List.map (ow eI) r⟩)] 1 [1, 2] 1)) (ent_mk (σ := sg [(0, 0)]) ⟨(e1 k k), (oE k k), (e1 k k), ⟨_, k, ⟨k, k⟩⟩, (e1 k k), (e1 k k), trivial⟩ (hI k k k <| trivial) k) ?_ ?_
 ·intro x1 o h
  refine sQ <| rg <| ae (w_cmp k k k) k <| an <| tn <| sQ ?_
  rcases cb h with ⟨q1, h⟩ | ⟨q1, h⟩
  ·refine ac_condT k q1 <| ac_skip <| tn <| sQ <| ac_block <| sQ <| rg <| am k k ?_
   obtain ⟨v2, hv2, h⟩ := ob h
   refine ae (x_at_list TT_ok hv2 k k k k k k) k <| ae (w_load_ref TT_ok k k k k k k) k <| aa k k <| aa k k <| an <| tn <| rg <| am k k <| am k k <| am k k ?_
   refine am k k ?_
   obtain ⟨q4, h⟩ := cg h
   obtain ⟨v3, hv3, h⟩ := ob h
   refine ae (x_at_part TT_ok q4 k k k k k k k) k <| ae (w_load_ptr TT_ok k k k k (map_at (hv3)) k k) k <| am k k <| am k k <| ae (x_mul k k) k <| ae (x_add k k) k <| am k k ?_
   obtain ⟨q7, h⟩ := cg h
   refine ae (x_rem k k q7) k ?_
   obtain ⟨q6, h⟩ := cg h
   obtain ⟨v5, hv5, h⟩ := ob h
   refine ae (x_at_part TT_ok q6 k k k k k k k) k <| ae (x_store TT_ok okIo (u := (wr (v3 + (wr (a2 * v2)))).tmod a0) (hv5) k k k k k k) k <| an <| block_n <| tn <| ac_ent (t := mkS [(0, .int a0), (1, .own 0 s1 n1), (2, .int a2), (11, .list 1 (List.map eI a3)), (12, .int (a3.length : Int)), (13, .int x1.2)] [(0, ⟨1, List.map (ow eI) (x1.1.set (s1 + x1.2.toNat) ((wr (v3 + (wr (a2 * v2)))).tmod a0))⟩)] 1 [1, 2] 1) (ent_mk (σ := sg [(0, 0)]) ⟨(e1 k k), (oE k k), (e1 k k), ⟨_, k, ⟨k, k⟩⟩, (e1 k k), (e1 k k), trivial⟩ (hI k k k <| trivial) k) <| rg <| ae (x_add k k) k <| am k k <| an ?_
   refine tn ?_
   obtain rfl := so h
   exact ⟨_, k, (ent_mk (σ := sg [(0, 0)]) ⟨(e1 k k), (oE k k), (e1 k k), ⟨_, k, ⟨k, k⟩⟩, (e1 k k), (e1 k k), trivial⟩ (hI k k k <| trivial) k)⟩
  ·refine ac_condF k q1 <| ac_exit <| then_exit <| then_exit ?_
   obtain rfl := so h
   exact ⟨_, k, k, (ent_mk (σ := sg [(0, 0)]) ⟨(oE k k), trivial⟩ (hI k k k <| trivial) k)⟩
 ·rintro e t ⟨rfl, hent⟩
  refine block_here <| tn <| ac_ent hent <| sQ <| rg <| am k k <| aa k k <| an <| tn <| ac_ret ?_
  obtain rfl := so h
  exact ⟨mkS [(8, .own 0 s1 n1)] [(0, ⟨1, List.map (ow eI) y8⟩)] 1 [1, 2] 1, (ent_mk (σ := sg [(0, 0)]) ⟨(oE k k), trivial⟩ (hI k k k <| trivial) k), k, ⟨_, k, .inl k⟩, ⟨k, trivial⟩⟩

noncomputable def m_impl_addMultiple_same_L1 (a0 : Int) (a2 : Int) (n1 : Nat) (n3 : Nat) (s1 : Nat) (s3 : Nat) (x1 : ((List Int) × Int)) : Option (((List Int) × Int) ⊕ (List Int)) :=
  bif decide (x1.2 < ((n3 : Nat) : Int)) then
    (bif (decide (0 ≤ x1.2) && decide (x1.2 < ((n3 : Nat) : Int))) then
      (Option.bind (x1.1[(s3 + x1.2.toNat)]?) fun v2 =>
      bif (decide (0 ≤ x1.2) && decide (x1.2 < ((n1 : Nat) : Int))) then
        (Option.bind (x1.1[(s1 + x1.2.toNat)]?) fun v4 =>
        bif !decide (a0 = 0) then
          (bif (decide (0 ≤ x1.2) && decide (x1.2 < ((n1 : Nat) : Int))) then
            (Option.bind (x1.1[(s1 + x1.2.toNat)]?) fun v6 =>
            some (.inl ((x1.1.set (s1 + x1.2.toNat) ((wr (v4 + (wr (a2 * v2)))).tmod a0)), wr (x1.2 + 1)))
            )
          else none)
        else none
        )
      else none
      )
    else none)
  else
    (some (.inr x1.1))

noncomputable def m_impl_addMultiple_same (a0 : Int) (c0 : (List Int)) (s1 : Nat) (n1 : Nat) (a2 : Int) (s3 : Nat) (n3 : Nat) : Option (List Int) :=
  Option.bind (Lp (m_impl_addMultiple_same_L1 a0 a2 n1 n3 s1 s3) (c0, 0)) fun y9 =>
  some y9

theorem c_impl_addMultiple_same (a0 : Int) (c0 : (List Int)) (s1 : Nat) (n1 : Nat) (a2 : Int) (s3 : Nat) (n3 : Nat) (r : (List Int)) (h : m_impl_addMultiple_same a0 c0 s1 n1 a2 s3 n3 = some r) : HasE Try.prog 138 [.int a0, .own 0 s1 n1, .int a2, .own 0 s3 n3] [(0, ⟨1, List.map (ow eI) c0⟩)] 1 (.own 0 s1 n1) [(0, ⟨1, List.map (ow eI) r⟩)] := by
 refine hasE_mk TT_ok (rvs := [.tmp 8]) (ns := [1, 2]) Try.func138 k k Try.ntmps138 k k <| sQ <| rg <| aa k k <| an <| tn <| sQ <| sQ <| rg <| am k k ?_
 refine ae (w_len_own TT_ok k k k k) k <| am k k <| an <| tn <| ac_block ?_
 obtain ⟨y9, hy9, h⟩ := ob h
 refine ac_Lp (body := (m_impl_addMultiple_same_L1 a0 a2 n1 n3 s1 s3)) hy9 (fun (x1 : ((List Int) × Int)) => mkS [(0, .int a0), (1, .own 0 s1 n1), (2, .int a2), (11, .own 0 s3 n3), (12, .int ((n3 : Nat) : Int)), (13, .int x1.2)] [(0, ⟨1, List.map (ow eI) x1.1⟩)] 1 [1, 2] 1) (fun r e t => e = .exit 0 ∧ Ent t (mkS [(1, .own 0 s1 n1)] [(0, ⟨1, List.map (ow eI) r⟩)] 1 [1, 2] 1)) (ent_mk (σ := sg [(0, 0)]) ⟨(e1 k k), (oE k k), (e1 k k), (oE k k), (e1 k k), (e1 k k), trivial⟩ (hI k k k <| trivial) k) ?_ ?_
 ·intro x1 o h
  refine sQ <| rg <| ae (w_cmp k k k) k <| an <| tn <| sQ ?_
  rcases cb h with ⟨q1, h⟩ | ⟨q1, h⟩
  ·refine ac_condT k q1 <| ac_skip <| tn <| sQ <| ac_block <| sQ <| rg <| am k k ?_
   obtain ⟨q3, h⟩ := cg h
   obtain ⟨v2, hv2, h⟩ := ob h
   refine ae (x_at_part TT_ok q3 k k k k k k k) k <| ae (w_load_ptr TT_ok k k k k (map_at (hv2)) k k) k <| aa k k <| aa k k <| an <| tn <| rg <| am k k <| am k k <| am k k ?_
   refine am k k ?_
   obtain ⟨q5, h⟩ := cg h
   obtain ⟨v4, hv4, h⟩ := ob h
   refine ae (x_at_part TT_ok q5 k k k k k k k) k <| ae (w_load_ptr TT_ok k k k k (map_at (hv4)) k k) k <| am k k <| am k k <| ae (x_mul k k) k <| ae (x_add k k) k <| am k k ?_
   obtain ⟨q8, h⟩ := cg h
   refine ae (x_rem k k q8) k ?_
   obtain ⟨q7, h⟩ := cg h
   obtain ⟨v6, hv6, h⟩ := ob h
   refine ae (x_at_part TT_ok q7 k k k k k k k) k <| ae (x_store TT_ok okIo (u := (wr (v4 + (wr (a2 * v2)))).tmod a0) (hv6) k k k k k k) k <| an <| block_n <| tn <| ac_ent (t := mkS [(0, .int a0), (1, .own 0 s1 n1), (2, .int a2), (11, .own 0 s3 n3), (12, .int ((n3 : Nat) : Int)), (13, .int x1.2)] [(0, ⟨1, List.map (ow eI) (x1.1.set (s1 + x1.2.toNat) ((wr (v4 + (wr (a2 * v2)))).tmod a0))⟩)] 1 [1, 2] 1) (ent_mk (σ := sg [(0, 0)]) ⟨(e1 k k), (oE k k), (e1 k k), (oE k k), (e1 k k), (e1 k k), trivial⟩ (hI k k k <| trivial) k) <| rg <| ae (x_add k k) k <| am k k <| an ?_
   refine tn ?_
   obtain rfl := so h
   exact ⟨_, k, (ent_mk (σ := sg [(0, 0)]) ⟨(e1 k k), (oE k k), (e1 k k), (oE k k), (e1 k k), (e1 k k), trivial⟩ (hI k k k <| trivial) k)⟩
  ·refine ac_condF k q1 <| ac_exit <| then_exit <| then_exit ?_
   obtain rfl := so h
   exact ⟨_, k, k, (ent_mk (σ := sg [(0, 0)]) ⟨(oE k k), trivial⟩ (hI k k k <| trivial) k)⟩
 ·rintro e t ⟨rfl, hent⟩
  refine block_here <| tn <| ac_ent hent <| sQ <| rg <| am k k <| aa k k <| an <| tn <| ac_ret ?_
  obtain rfl := so h
  exact ⟨mkS [(8, .own 0 s1 n1)] [(0, ⟨1, List.map (ow eI) y9⟩)] 1 [1, 2] 1, (ent_mk (σ := sg [(0, 0)]) ⟨(oE k k), trivial⟩ (hI k k k <| trivial) k), k, ⟨_, k, .inl k⟩, ⟨k, trivial⟩⟩

def m_spec_l2Mod (a0 : Int) (a1 : Int) : Option Int :=
  bif !decide (a0 = 0) then
    (bif decide (a1.tmod a0 < 0) then
      (some (wr ((a1.tmod a0) + a0)))
    else
      (some (a1.tmod a0)))
  else none

theorem c_spec_l2Mod (a0 : Int) (a1 : Int) (r : Int) (h : m_spec_l2Mod a0 a1 = some r) : HasC Try.prog 130 [.int a0, .int a1] (.int r) := by
 refine hasC_mk TT_ok (rvs := [.tmp 4]) (ns := [0, 1]) Try.func130 k k Try.ntmps130 k k k <| sQ <| rg <| aa k k <| an <| tn <| sQ <| rg <| am k k <| am k k ?_
 obtain ⟨q2, h⟩ := cg h
 refine ae (x_rem k k q2) k <| aa k k <| an <| tn <| sQ <| sQ <| rg <| am k k <| ae (w_cmp k k k) k <| an ?_
 refine tn ?_
 rcases cb h with ⟨q1, h⟩ | ⟨q1, h⟩
 ·refine ac_condT k q1 <| rg <| am k k <| am k k <| ae (x_add k k) k <| aa k k <| an <| tn <| sQ <| rg ?_
  refine am k k <| aa k k <| an <| tn <| ac_ent (t := mkS [(4, .int (wr ((a1.tmod a0) + a0)))] [] 0 [0, 1]) (ent_mk (σ := sg []) ⟨(e1 k k), trivial⟩ trivial k) <| ac_ret ?_
  obtain rfl := so h
  exact ret_mk k k k (fz_int k)
 ·refine ac_condF k q1 <| ac_skip <| tn <| sQ <| rg <| am k k <| aa k k <| an <| tn <| ac_ret ?_
  obtain rfl := so h
  exact ret_mk k k k (fz_int k)

noncomputable def m_spec_l3Multiply_L3 (a1 : Mt) (a2 : Mt) (x1 : ((List Int) × Int)) (x2 : ((List Int) × Int)) (x3 : (Int × Int)) : Option ((Int × Int) ⊕ Int) :=
  bif decide (x3.2 < a1.cols) then
    (Option.bind (atL a1.cells (wr ((wr (x1.2 * a1.cols)) + x3.2))) fun v5 =>
    Option.bind (atL a2.cells (wr ((wr (x3.2 * a2.cols)) + x2.2))) fun v6 =>
    some (.inl (wr (x3.1 + (wr (v5 * v6))), wr (x3.2 + 1))))
  else
    (some (.inr x3.1))

noncomputable def m_spec_l3Multiply_L2 (a0 : Int) (a1 : Mt) (a2 : Mt) (x1 : ((List Int) × Int)) (x2 : ((List Int) × Int)) : Option (((List Int) × Int) ⊕ (List Int)) :=
  bif decide (x2.2 < a2.cols) then
    (Option.bind (Lp (m_spec_l3Multiply_L3 a1 a2 x1 x2) (0, 0)) fun y7 =>
    Option.bind (m_spec_l2Mod a0 y7) fun v8 =>
    Option.bind (atL x2.1 (wr ((wr (x1.2 * a2.cols)) + x2.2))) fun v9 =>
    some (.inl ((x2.1.set ((wr ((wr (x1.2 * a2.cols)) + x2.2)).toNat) v8), wr (x2.2 + 1))))
  else
    (some (.inr x2.1))

noncomputable def m_spec_l3Multiply_L1 (a0 : Int) (a1 : Mt) (a2 : Mt) (x1 : ((List Int) × Int)) : Option (((List Int) × Int) ⊕ (List Int)) :=
  bif decide (x1.2 < a1.rows) then
    (Option.bind (Lp (m_spec_l3Multiply_L2 a0 a1 a2 x1) (x1.1, 0)) fun y10 =>
    some (.inl (y10, wr (x1.2 + 1))))
  else
    (some (.inr x1.1))

noncomputable def m_spec_l3Multiply (a0 : Int) (a1 : Mt) (a2 : Mt) : Option Mt :=
  Option.bind (m_spec_l3Zero a1.rows a2.cols) fun v1 =>
  Option.bind (Lp (m_spec_l3Multiply_L1 a0 a1 a2) (v1.cells, 0)) fun y11 =>
  some ((⟨v1.rows, v1.cols, y11⟩ : Mt))

theorem c_spec_l3Multiply (a0 : Int) (a1 : Mt) (a2 : Mt) (r : Mt) (h : m_spec_l3Multiply a0 a1 a2 = some r) : HasC Try.prog 97 [.int a0, .agg (eM a1), .agg (eM a2)] (.agg (eM r)) := by
 refine hasC_mk TT_ok (rvs := [.cell 6 82]) (ns := [0, 1, 2, 3, 4, 5, 6]) Try.func97 k k Try.ntmps97 k k k <| sQ <| rg <| ae (w_box k k k k) k <| ae (w_box k k k k) k <| ae (w_alloc TT_ok k k) k <| an <| tn <| sQ <| rg ?_
 refine ae (w_field_ptr TT_ok k k k k k k k) k <| ae (w_load_ptr TT_ok k k k k k k k) k <| ae (w_field_ptr TT_ok k k k k k k k) k <| ae (w_load_ptr TT_ok k k k k k k k) k ?_
 obtain ⟨v1, hv1, h⟩ := ob h
 refine ae (AEff.conv (w_call0 (x := .agg [.int v1.rows, .int v1.cols, .own 3 0 (List.map eI v1.cells).length]) (nb := [(3, ⟨1, absEs (List.map eI v1.cells)⟩)]) (c_spec_l3Zero a1.rows a2.cols v1 hv1) k (by rfl) k k (g1_cons trivial (g1_cons trivial (g1_cons (okI.good _) g1_nil))) (va_cons (va_same k) (va_cons (va_same k) va_nil))) (v' := .agg [.int v1.rows, .int v1.cols, .own 3 0 v1.cells.length]) (ed' := [(3, some ⟨1, List.map (ow eI) v1.cells⟩)]) (by simp only [len_map]) (ed_ok (nb' := [(3, ⟨1, List.map (ow eI) v1.cells⟩)]) (by simp only [abs_map]))) k <| ae (w_alloc TT_ok k k) k <| ae (w_store TT_ok k k k k k k k k) k <| an <| tn <| sQ <| sQ <| rg <| aa k k <| an ?_
 refine tn <| ac_block ?_
 obtain ⟨y11, hy11, h⟩ := ob h
 refine ac_Lp (body := (m_spec_l3Multiply_L1 a0 a1 a2)) hy11 (fun (x1 : ((List Int) × Int)) => mkS [(0, .int a0), (4, .ptr 0 0 0), (5, .ptr 1 0 0), (6, .ptr 2 0 0), (7, .ptr 3 0 0), (8, .int x1.2)] [(0, ⟨3, [[.int a1.rows, .int a1.cols, .list 1 (List.map eI a1.cells)]]⟩), (1, ⟨3, [[.int a2.rows, .int a2.cols, .list 1 (List.map eI a2.cells)]]⟩), (2, ⟨3, [[.int 0, .int 0, .nil 1]]⟩), (3, ⟨3, [[.int v1.rows, .int v1.cols, .own 4 0 x1.1.length]]⟩), (4, ⟨1, List.map (ow eI) x1.1⟩)] 5 [5, 6]) (fun r e t => e = .exit 0 ∧ Ent t (mkS [(6, .ptr 0 0 0), (7, .ptr 1 0 0)] [(0, ⟨3, [[.int 0, .int 0, .nil 1]]⟩), (1, ⟨3, [[.int v1.rows, .int v1.cols, .own 2 0 r.length]]⟩), (2, ⟨1, List.map (ow eI) r⟩)] 3 [3, 4, 5, 6])) (ent_mk (σ := sg [(0, 0), (1, 1), (2, 2), (3, 4), (4, 3)]) ⟨(e1 k k), (pE k k), (pE k k), (pE k k), (pE k k), (e1 k k), trivial⟩ (hP k k k k <| hP k k k k <| hP k k k k <| hX ⟨_, k, k, .inr ⟨_, _, k, ⟨_, _, k, k, ⟨_, _, k, k, ⟨_, _, k, ⟨k, k, k, k⟩, k⟩⟩⟩, k⟩⟩ k <| hI k k k <| trivial) k) ?_ ?_
 ·intro x1 o h
  refine sQ <| sQ <| rg <| am k k <| ae (w_field_ptr TT_ok k k k k k k k) k <| ae (w_load_ptr TT_ok k k k k k k k) k <| ae (w_cmp k k k) k <| an <| tn ?_
  rcases cb h with ⟨q2, h⟩ | ⟨q2, h⟩
  ·refine ac_condT k q2 <| ac_skip <| tn <| sQ <| ac_block <| sQ <| rg <| aa k k <| an <| tn ?_
   refine ac_block ?_
   obtain ⟨y10, hy10, h⟩ := ob h
   refine ac_Lp (body := (m_spec_l3Multiply_L2 a0 a1 a2 x1)) hy10 (fun (x2 : ((List Int) × Int)) => mkS [(0, .int a0), (4, .ptr 0 0 0), (5, .ptr 1 0 0), (6, .ptr 2 0 0), (7, .ptr 3 0 0), (8, .int x1.2), (9, .int x2.2)] [(0, ⟨3, [[.int a1.rows, .int a1.cols, .list 1 (List.map eI a1.cells)]]⟩), (1, ⟨3, [[.int a2.rows, .int a2.cols, .list 1 (List.map eI a2.cells)]]⟩), (2, ⟨3, [[.int 0, .int 0, .nil 1]]⟩), (3, ⟨3, [[.int v1.rows, .int v1.cols, .own 4 0 x2.1.length]]⟩), (4, ⟨1, List.map (ow eI) x2.1⟩)] 5 [5, 6]) (fun r e t => e = .exit 2 ∧ Ent t (mkS [(0, .int a0), (4, .ptr 0 0 0), (5, .ptr 1 0 0), (6, .ptr 2 0 0), (7, .ptr 3 0 0), (8, .int x1.2)] [(0, ⟨3, [[.int a1.rows, .int a1.cols, .list 1 (List.map eI a1.cells)]]⟩), (1, ⟨3, [[.int a2.rows, .int a2.cols, .list 1 (List.map eI a2.cells)]]⟩), (2, ⟨3, [[.int 0, .int 0, .nil 1]]⟩), (3, ⟨3, [[.int v1.rows, .int v1.cols, .own 4 0 r.length]]⟩), (4, ⟨1, List.map (ow eI) r⟩)] 5 [5, 6])) (ent_mk (σ := sg [(0, 0), (1, 1), (2, 2), (3, 3), (4, 4)]) ⟨(e1 k k), (pE k k), (pE k k), (pE k k), (pE k k), (e1 k k), (e1 k k), trivial⟩ (hP k k k k <| hP k k k k <| hP k k k k <| hX ⟨_, k, k, .inr ⟨_, _, k, ⟨_, _, k, k, ⟨_, _, k, k, ⟨_, _, k, ⟨k, k, k, k⟩, k⟩⟩⟩, k⟩⟩ k <| hI k k k <| trivial) k) ?_ ?_
   ·intro x2 o h
    refine sQ <| sQ <| rg <| am k k <| ae (w_field_ptr TT_ok k k k k k k k) k <| ae (w_load_ptr TT_ok k k k k k k k) k <| ae (w_cmp k k k) k <| an <| tn ?_
    rcases cb h with ⟨q3, h⟩ | ⟨q3, h⟩
    ·refine ac_condT k q3 <| ac_skip <| tn <| sQ <| ac_block <| sQ <| rg <| aa k k <| an <| tn ?_
     refine sQ <| sQ <| rg <| aa k k <| an <| tn <| ac_block ?_
     obtain ⟨y7, hy7, h⟩ := ob h
     refine ac_Lp (body := (m_spec_l3Multiply_L3 a1 a2 x1 x2)) hy7 (fun (x3 : (Int × Int)) => mkS [(0, .int a0), (4, .ptr 0 0 0), (5, .ptr 1 0 0), (6, .ptr 2 0 0), (7, .ptr 3 0 0), (8, .int x1.2), (9, .int x2.2), (10, .int x3.1), (11, .int x3.2)] [(0, ⟨3, [[.int a1.rows, .int a1.cols, .list 1 (List.map eI a1.cells)]]⟩), (1, ⟨3, [[.int a2.rows, .int a2.cols, .list 1 (List.map eI a2.cells)]]⟩), (2, ⟨3, [[.int 0, .int 0, .nil 1]]⟩), (3, ⟨3, [[.int v1.rows, .int v1.cols, .own 4 0 x2.1.length]]⟩), (4, ⟨1, List.map (ow eI) x2.1⟩)] 5 [5, 6]) (fun r e t => e = .exit 4 ∧ Ent t (mkS [(0, .int a0), (4, .ptr 0 0 0), (5, .ptr 1 0 0), (6, .ptr 2 0 0), (7, .ptr 3 0 0), (8, .int x1.2), (9, .int x2.2), (10, .int r)] [(0, ⟨3, [[.int a1.rows, .int a1.cols, .list 1 (List.map eI a1.cells)]]⟩), (1, ⟨3, [[.int a2.rows, .int a2.cols, .list 1 (List.map eI a2.cells)]]⟩), (2, ⟨3, [[.int 0, .int 0, .nil 1]]⟩), (3, ⟨3, [[.int v1.rows, .int v1.cols, .own 4 0 x2.1.length]]⟩), (4, ⟨1, List.map (ow eI) x2.1⟩)] 5 [5, 6])) (ent_mk (σ := sg [(0, 0), (1, 1), (2, 2), (3, 3), (4, 4)]) ⟨(e1 k k), (pE k k), (pE k k), (pE k k), (pE k k), (e1 k k), (e1 k k), (e1 k k), (e1 k k), trivial⟩ (hP k k k k <| hP k k k k <| hP k k k k <| hX ⟨_, k, k, .inr ⟨_, _, k, ⟨_, _, k, k, ⟨_, _, k, k, ⟨_, _, k, ⟨k, k, k, k⟩, k⟩⟩⟩, k⟩⟩ k <| hI k k k <| trivial) k) ?_ ?_
     ·intro x3 o h
      refine sQ <| sQ <| rg <| am k k <| ae (w_field_ptr TT_ok k k k k k k k) k <| ae (w_load_ptr TT_ok k k k k k k k) k <| ae (w_cmp k k k) k <| an <| tn ?_
      rcases cb h with ⟨q4, h⟩ | ⟨q4, h⟩
      ·refine ac_condT k q4 <| ac_skip <| tn <| sQ <| ac_block <| ac_region_draw MIXX <| am k k <| ae (w_field_ptr TT_ok k k k k k k k) k <| ae (w_load_ptr TT_ok k k k k k k k) k <| am k k ?_
       refine ae (w_field_ptr TT_ok k k k k k k k) k <| ae (w_load_ptr TT_ok k k k k k k k) k <| ae (x_mul k k) k <| am k k <| ae (x_add k k) k ?_
       obtain ⟨v5, hv5, h⟩ := ob h
       refine ae (x_at_list TT_ok hv5 k k k k k k) k <| ae (w_load_ref TT_ok k k k k k k) k <| ae (w_field_ptr TT_ok k k k k k k k) k <| ae (w_load_ptr TT_ok k k k k k k k) k <| am k k <| ae (w_field_ptr TT_ok k k k k k k k) k <| ae (w_load_ptr TT_ok k k k k k k k) k <| ae (x_mul k k) k <| am k k <| ae (x_add k k) k ?_
       obtain ⟨v6, hv6, h⟩ := ob h
       refine ae (x_at_list TT_ok hv6 k k k k k k) k <| ae (w_load_ref TT_ok k k k k k k) k <| ae (x_mul k k) k <| ae (x_add k k) k <| aa k k <| an ?_
       refine ⟨by kernel_rfl, ?_⟩
       refine block_n <| tn <| ac_ent (t := mkS [(0, .int a0), (4, .ptr 0 0 0), (5, .ptr 1 0 0), (6, .ptr 2 0 0), (7, .ptr 3 0 0), (8, .int x1.2), (9, .int x2.2), (10, .int (wr (x3.1 + (wr (v5 * v6))))), (11, .int x3.2)] [(0, ⟨3, [[.int a1.rows, .int a1.cols, .list 1 (List.map eI a1.cells)]]⟩), (1, ⟨3, [[.int a2.rows, .int a2.cols, .list 1 (List.map eI a2.cells)]]⟩), (2, ⟨3, [[.int 0, .int 0, .nil 1]]⟩), (3, ⟨3, [[.int v1.rows, .int v1.cols, .own 4 0 x2.1.length]]⟩), (4, ⟨1, List.map (ow eI) x2.1⟩)] 5 [5, 6]) (ent_mk (σ := sg [(0, 0), (1, 1), (2, 2), (3, 3), (4, 4)]) ⟨(e1 k k), (pE k k), (pE k k), (pE k k), (pE k k), (e1 k k), (e1 k k), (e1 k k), (e1 k k), trivial⟩ (hP k k k k <| hP k k k k <| hP k k k k <| hX ⟨_, k, k, .inr ⟨_, _, k, ⟨_, _, k, k, ⟨_, _, k, k, ⟨_, _, k, ⟨k, k, k, k⟩, k⟩⟩⟩, k⟩⟩ k <| hI k k k <| trivial) k) <| rg <| am k k <| ae (x_add k k) k <| aa k k <| an <| tn ?_
       obtain rfl := so h
       exact ⟨_, k, (ent_mk (σ := sg [(0, 0), (1, 1), (2, 2), (3, 3), (4, 4)]) ⟨(e1 k k), (pE k k), (pE k k), (pE k k), (pE k k), (e1 k k), (e1 k k), (e1 k k), (e1 k k), trivial⟩ (hP k k k k <| hP k k k k <| hP k k k k <| hX ⟨_, k, k, .inr ⟨_, _, k, ⟨_, _, k, k, ⟨_, _, k, k, ⟨_, _, k, ⟨k, k, k, k⟩, k⟩⟩⟩, k⟩⟩ k <| hI k k k <| trivial) k)⟩
      ·refine ac_condF k q4 <| ac_exit <| then_exit <| then_exit ?_
       obtain rfl := so h
       exact ⟨_, k, k, (ent_mk (σ := sg [(0, 0), (1, 1), (2, 2), (3, 3), (4, 4)]) ⟨(e1 k k), (pE k k), (pE k k), (pE k k), (pE k k), (e1 k k), (e1 k k), (e1 k k), trivial⟩ (hP k k k k <| hP k k k k <| hP k k k k <| hX ⟨_, k, k, .inr ⟨_, _, k, ⟨_, _, k, k, ⟨_, _, k, k, ⟨_, _, k, ⟨k, k, k, k⟩, k⟩⟩⟩, k⟩⟩ k <| hI k k k <| trivial) k)⟩
     ·rintro e t ⟨rfl, hent⟩
      refine block_here <| tn <| ac_ent hent <| ac_region_draw MIXX <| ae (w_field_ptr TT_ok k k k k k k k) k <| ae (w_load_ptr TT_ok k k k k k k k) k <| am k k <| ae (w_field_ptr TT_ok k k k k k k k) k <| ae (w_load_ptr TT_ok k k k k k k k) k <| ae (x_mul k k) k ?_
      refine am k k <| ae (x_add k k) k <| am k k <| am k k ?_
      obtain ⟨v8, hv8, h⟩ := ob h
      refine ae (w_call0s (c_spec_l2Mod a0 y7 v8 hv8) k (va_cons (va_same k) (va_cons (va_same k) va_nil))) k ?_
      obtain ⟨v9, hv9, h⟩ := ob h
      refine ae (x_at_own TT_ok (atL_nn hv9) (atL_lt hv9) k k k k k k k) k <| ae (x_store TT_ok okIo (u := v8) (atL_get hv9) k k k k k k) k <| an ?_
      refine ⟨by kernel_rfl, ?_⟩
      refine block_n <| tn <| ac_ent (t := mkS [(0, .int a0), (4, .ptr 0 0 0), (5, .ptr 1 0 0), (6, .ptr 2 0 0), (7, .ptr 3 0 0), (8, .int x1.2), (9, .int x2.2)] [(0, ⟨3, [[.int a1.rows, .int a1.cols, .list 1 (List.map eI a1.cells)]]⟩), (1, ⟨3, [[.int a2.rows, .int a2.cols, .list 1 (List.map eI a2.cells)]]⟩), (2, ⟨3, [[.int 0, .int 0, .nil 1]]⟩), (3, ⟨3, [[.int v1.rows, .int v1.cols, .own 4 0 ((x2.1.set ((wr ((wr (x1.2 * a2.cols)) + x2.2)).toNat) v8).length)]]⟩), (4, ⟨1, List.map (ow eI) (x2.1.set ((wr ((wr (x1.2 * a2.cols)) + x2.2)).toNat) v8)⟩)] 5 [5, 6]) (ent_mk (σ := sg [(0, 0), (1, 1), (2, 2), (3, 3), (4, 4)]) ⟨(e1 k k), (pE k k), (pE k k), (pE k k), (pE k k), (e1 k k), (e1 k k), trivial⟩ (hP k k k k <| hP k k k k <| hP k k k k <| hX ⟨_, k, k, .inr ⟨_, _, k, ⟨_, _, k, k, ⟨_, _, k, k, ⟨_, _, k, ⟨k, k, (by simp only [len_map, lA, lT, lR, lC, lN]), k⟩, k⟩⟩⟩, k⟩⟩ k <| hI k k k <| trivial) k) <| rg <| am k k <| ae (x_add k k) k <| aa k k <| an <| tn ?_
      obtain rfl := so h
      exact ⟨_, k, (ent_mk (σ := sg [(0, 0), (1, 1), (2, 2), (3, 3), (4, 4)]) ⟨(e1 k k), (pE k k), (pE k k), (pE k k), (pE k k), (e1 k k), (e1 k k), trivial⟩ (hP k k k k <| hP k k k k <| hP k k k k <| hX ⟨_, k, k, .inr ⟨_, _, k, ⟨_, _, k, k, ⟨_, _, k, k, ⟨_, _, k, ⟨k, k, k, k⟩, k⟩⟩⟩, k⟩⟩ k <| hI k k k <| trivial) k)⟩
    ·refine ac_condF k q3 <| ac_exit <| then_exit <| then_exit ?_
     obtain rfl := so h
     exact ⟨_, k, k, (ent_mk (σ := sg [(0, 0), (1, 1), (2, 2), (3, 3), (4, 4)]) ⟨(e1 k k), (pE k k), (pE k k), (pE k k), (pE k k), (e1 k k), trivial⟩ (hP k k k k <| hP k k k k <| hP k k k k <| hX ⟨_, k, k, .inr ⟨_, _, k, ⟨_, _, k, k, ⟨_, _, k, k, ⟨_, _, k, ⟨k, k, k, k⟩, k⟩⟩⟩, k⟩⟩ k <| hI k k k <| trivial) k)⟩
   ·rintro e t ⟨rfl, hent⟩
    refine block_here <| block_n <| tn <| ac_ent hent <| rg <| am k k <| ae (x_add k k) k <| aa k k <| an <| tn ?_
    obtain rfl := so h
    exact ⟨_, k, (ent_mk (σ := sg [(0, 0), (1, 1), (2, 2), (3, 3), (4, 4)]) ⟨(e1 k k), (pE k k), (pE k k), (pE k k), (pE k k), (e1 k k), trivial⟩ (hP k k k k <| hP k k k k <| hP k k k k <| hX ⟨_, k, k, .inr ⟨_, _, k, ⟨_, _, k, k, ⟨_, _, k, k, ⟨_, _, k, ⟨k, k, k, k⟩, k⟩⟩⟩, k⟩⟩ k <| hI k k k <| trivial) k)⟩
  ·refine ac_condF k q2 <| ac_exit <| then_exit <| then_exit ?_
   obtain rfl := so h
   exact ⟨_, k, k, (ent_mk (σ := sg [(0, 2), (1, 3), (2, 4)]) ⟨(pE k k), (pE k k), trivial⟩ (hP k k k k <| hX ⟨_, k, k, .inr ⟨_, _, k, ⟨_, _, k, k, ⟨_, _, k, k, ⟨_, _, k, ⟨k, k, k, k⟩, k⟩⟩⟩, k⟩⟩ k <| hI k k k <| trivial) k)⟩
 ·rintro e t ⟨rfl, hent⟩
  refine block_here <| tn <| ac_ent hent <| sQ <| rg <| ae (w_load_ptr TT_ok k k k k k k k) k <| ae (w_store TT_ok k k k k k k k k) k <| an <| tn <| ac_ret ?_
  obtain rfl := so h
  exact ret_mk k k k (xz_agg (x1_cons (k) (x1_cons (k) (x1_cons (x_f1 okI k k) x1_nil))))

noncomputable def m_spec_InverseMod_L1 (a0 : Int) (a1 : Int) (x1 : Int) : Option (Int ⊕ (Unit ⊕ Int)) :=
  bif decide (x1 < a0) then
    (Option.bind (m_spec_IsField a0) fun v2 =>
    bif v2 then
      (Option.bind (m_spec_l2Mod a0 a1) fun v4 =>
      Option.bind (m_spec_l2Mod a0 (wr (v4 * x1))) fun v5 =>
      bif decide (v5 = 1) then
        (some (.inr (.inr (x1))))
      else
        (some (.inl (wr (x1 + 1)))))
    else
      (some (.inr (.inl ()))))
  else
    (some (.inr (.inl ())))

noncomputable def m_spec_InverseMod (a0 : Int) (a1 : Int) : Option Int :=
  Option.bind (Lp (m_spec_InverseMod_L1 a0 a1) 1) fun y7 =>
  Sum.elim (fun y8 =>
    some (0)
  ) 
  (fun y9 =>
    some y9
  )
   y7

theorem c_spec_InverseMod (a0 : Int) (a1 : Int) (r : Int) (h : m_spec_InverseMod a0 a1 = some r) : HasC Try.prog 171 [.int a0, .int a1] (.int r) := by
 refine hasC_mk TT_ok (rvs := [.tmp 4]) (ns := [0, 1]) Try.func171 k k Try.ntmps171 k k k <| sQ <| rg <| aa k k <| an <| tn <| sQ <| sQ <| rg <| aa k k ?_
 refine an <| tn <| ac_block ?_
 obtain ⟨y7, hy7, h⟩ := ob h
 refine ac_Lp (body := (m_spec_InverseMod_L1 a0 a1)) hy7 (fun (x1 : Int) => mkS [(0, .int a0), (1, .int a1), (5, .int x1)] [] 0 [0, 1]) (fun r e t => Sum.elim (fun a => (fun r e t => e = .exit 0 ∧ Ent t (mkS [] [] 0 [0, 1])) a e t) (fun b => (fun r e t => e = .ret ∧ RetQ TT [.tmp 4] (.int r) .ret t) b e t) r) (ent_mk (σ := sg []) ⟨(e1 k k), (e1 k k), (e1 k k), trivial⟩ trivial k) ?_ ?_
 ·intro x1 o h
  refine sQ <| sQ <| rg <| am k k <| am k k <| ae (w_cmp k k k) k <| am k k ?_
  rcases cb h with ⟨q1, h⟩ | ⟨q1, h⟩
  ·refine aops_lit 9 k q1 <| am k k ?_
   obtain ⟨v2, hv2, h⟩ := ob h
   refine ae (w_call0s (c_spec_IsField a0 v2 hv2) k (va_cons (va_same k) va_nil)) k <| ae (eff_pick k k) k <| an <| tn ?_
   rcases cb h with ⟨q3, h⟩ | ⟨q3, h⟩
   ·refine ac_condT k q3 <| ac_skip <| tn <| sQ <| ac_block <| sQ <| rg <| am k k <| am k k <| am k k ?_
    obtain ⟨v4, hv4, h⟩ := ob h
    refine ae (w_call0s (c_spec_l2Mod a0 a1 v4 hv4) k (va_cons (va_same k) (va_cons (va_same k) va_nil))) k <| am k k <| ae (x_mul k k) k ?_
    obtain ⟨v5, hv5, h⟩ := ob h
    refine ae (w_call0s (c_spec_l2Mod a0 (wr (v4 * x1)) v5 hv5) k (va_cons (va_same k) (va_cons (va_same k) va_nil))) k <| ae (w_cmp k k k) k <| an <| tn <| ac_ent (t := mkS [(0, .int a0), (1, .int a1), (5, .int x1), (22, .bl (decide (v5 = 1)))] [] 0 [0, 1]) (ent_mk (σ := sg []) ⟨(e1 k k), (e1 k k), (e1 k k), (e1 k k), trivial⟩ trivial k) ?_
    rcases cb h with ⟨q6, h⟩ | ⟨q6, h⟩
    ·refine ac_condT k q6 <| sQ <| rg <| am k k <| aa k k <| an <| tn <| ac_ret <| block_ret <| then_ret ?_
     refine then_ret ?_
     obtain rfl := so h
     exact ⟨_, k, k, ret_mk k k k (fz_int k)⟩
    ·refine ac_condF k q6 <| ac_skip <| block_n <| tn <| rg <| am k k <| ae (x_add k k) k <| aa k k <| an <| tn ?_
     obtain rfl := so h
     exact ⟨_, k, (ent_mk (σ := sg []) ⟨(e1 k k), (e1 k k), (e1 k k), trivial⟩ trivial k)⟩
   ·refine ac_condF k q3 <| ac_exit <| then_exit <| then_exit ?_
    obtain rfl := so h
    exact ⟨_, k, k, (ent_mk (σ := sg []) trivial trivial k)⟩
  ·refine aops_lit 9 k q1 <| ak k k <| ak k k <| ae (eff_pick k k) k <| an <| tn <| ac_condF k k <| ac_exit <| then_exit <| then_exit ?_
   obtain rfl := so h
   exact ⟨_, k, k, (ent_mk (σ := sg []) trivial trivial k)⟩
 ·intro e t hX
  rcases y7 with y8 | y9
  ·obtain ⟨rfl, hent⟩ := hX
   refine block_here <| tn <| ac_ent hent <| sQ <| rg <| aa k k <| an <| tn <| ac_ret ?_
   obtain rfl := so h
   exact ret_mk k k k (fz_int k)
  ·obtain ⟨rfl, hent⟩ := hX
   refine block_ret <| then_ret ?_
   obtain rfl := so h
   exact hent

noncomputable def m_spec_IsVector_L1 (a0 : Int) (a1 : (List Int)) (x1 : Int) : Option (Int ⊕ (Unit ⊕ Bool)) :=
  bif decide (x1 < (a1.length : Int)) then
    (Option.bind (atL a1 x1) fun v5 =>
    Option.bind (m_spec_l1In v5 0 (wr (a0 - 1))) fun v6 =>
    bif !v6 then
      (some (.inr (.inr (false))))
    else
      (some (.inl (wr (x1 + 1)))))
  else
    (some (.inr (.inl ())))

noncomputable def m_spec_IsVector (a0 : Int) (a1 : (List Int)) : Option Bool :=
  Option.bind (m_spec_IsField a0) fun v1 =>
  bif !v1 then
    (some (false))
  else
    (bif decide (64 < (a1.length : Int)) then
      (some (false))
    else
      (Option.bind (Lp (m_spec_IsVector_L1 a0 a1) 0) fun y8 =>
      Sum.elim (fun y9 =>
        some (true)
      ) 
      (fun y10 =>
        some y10
      )
       y8))

theorem c_spec_IsVector (a0 : Int) (a1 : (List Int)) (r : Bool) (h : m_spec_IsVector a0 a1 = some r) : HasC Try.prog 155 [.int a0, .list 1 (List.map eI a1)] (.bl r) := by
 refine hasC_mk TT_ok (rvs := [.tmp 4]) (ns := [0, 1]) Try.func155 k k Try.ntmps155 k k k <| sQ <| rg <| aa k k <| an <| tn <| sQ <| sQ <| rg <| am k k ?_
 obtain ⟨v1, hv1, h⟩ := ob h
 refine ae (w_call0s (c_spec_IsField a0 v1 hv1) k (va_cons (va_same k) va_nil)) k <| ae (w_not k) k <| am k k ?_
 rcases cb h with ⟨q2, h⟩ | ⟨q2, h⟩
 ·refine aops_lit 9 k q2 <| ak k k <| ak k k <| ak k k <| ae (eff_pick k k) k <| an <| tn <| ac_condT k k <| sQ <| rg ?_
  refine aa k k <| an <| tn <| ac_ret <| then_ret ?_
  obtain rfl := so h
  exact ret_mk k k k (fz_bl k)
 ·refine aops_lit 9 k q2 <| am k k <| ae (lenL TT_ok k k k) k <| ae (w_cmp k k k) k <| ae (eff_pick k k) k <| an <| tn ?_
  rcases cb h with ⟨q3, h⟩ | ⟨q3, h⟩
  ·refine ac_condT k q3 <| sQ <| rg <| aa k k <| an <| tn <| ac_ret <| then_ret ?_
   obtain rfl := so h
   exact ret_mk k k k (fz_bl k)
  ·refine ac_condF k q3 <| ac_skip <| tn <| sQ <| sQ <| rg <| aa k k <| an <| tn <| ac_block ?_
   obtain ⟨y8, hy8, h⟩ := ob h
   refine ac_Lp (body := (m_spec_IsVector_L1 a0 a1)) hy8 (fun (x1 : Int) => mkS [(0, .int a0), (1, .list 1 (List.map eI a1)), (5, .int x1)] [] 0 [0, 1]) (fun r e t => Sum.elim (fun a => (fun r e t => e = .exit 0 ∧ Ent t (mkS [] [] 0 [0, 1])) a e t) (fun b => (fun r e t => e = .ret ∧ RetQ TT [.tmp 4] (.bl r) .ret t) b e t) r) (ent_mk (σ := sg []) ⟨(e1 k k), ⟨_, k, ⟨k, k⟩⟩, (e1 k k), trivial⟩ trivial k) ?_ ?_
   ·intro x1 o h
    refine sQ <| sQ <| rg <| am k k <| am k k <| ae (lenL TT_ok k k k) k <| ae (w_cmp k k k) k <| an <| tn ?_
    rcases cb h with ⟨q4, h⟩ | ⟨q4, h⟩
    ·refine ac_condT k q4 <| ac_skip <| tn <| sQ <| ac_block <| sQ <| rg <| am k k <| am k k ?_
     obtain ⟨v5, hv5, h⟩ := ob h
     refine ae (x_at_list TT_ok hv5 k k k k k k) k <| ae (w_load_ref TT_ok k k k k k k) k <| am k k <| ae (x_sub k k) k ?_
     obtain ⟨v6, hv6, h⟩ := ob h
     refine ae (w_call0s (c_spec_l1In v5 0 (wr (a0 - 1)) v6 hv6) k (va_cons (va_same k) (va_cons (va_same k) (va_cons (va_same k) va_nil)))) k <| ae (w_not k) k <| an <| tn <| ac_ent (t := mkS [(0, .int a0), (1, .list 1 (List.map eI a1)), (5, .int x1), (27, .bl (!v6))] [] 0 [0, 1]) (ent_mk (σ := sg []) ⟨(e1 k k), ⟨_, k, ⟨k, k⟩⟩, (e1 k k), (e1 k k), trivial⟩ trivial k) ?_
     rcases cb h with ⟨q7, h⟩ | ⟨q7, h⟩
     ·refine ac_condT k q7 <| sQ <| rg <| aa k k <| an <| tn <| ac_ret <| block_ret <| then_ret <| then_ret ?_
      obtain rfl := so h
      exact ⟨_, k, k, ret_mk k k k (fz_bl k)⟩
     ·refine ac_condF k q7 <| ac_skip <| block_n <| tn <| rg <| am k k <| ae (x_add k k) k <| aa k k <| an <| tn ?_
      obtain rfl := so h
      exact ⟨_, k, (ent_mk (σ := sg []) ⟨(e1 k k), ⟨_, k, ⟨k, k⟩⟩, (e1 k k), trivial⟩ trivial k)⟩
    ·refine ac_condF k q4 <| ac_exit <| then_exit <| then_exit ?_
     obtain rfl := so h
     exact ⟨_, k, k, (ent_mk (σ := sg []) trivial trivial k)⟩
   ·intro e t hX
    rcases y8 with y9 | y10
    ·obtain ⟨rfl, hent⟩ := hX
     refine block_here <| tn <| ac_ent hent <| sQ <| rg <| aa k k <| an <| tn <| ac_ret ?_
     obtain rfl := so h
     exact ret_mk k k k (fz_bl k)
    ·obtain ⟨rfl, hent⟩ := hX
     refine block_ret <| then_ret ?_
     obtain rfl := so h
     exact hent

noncomputable def m_spec_IsMatrix (a0 : Int) (a1 : Mt) : Option Bool :=
  Option.bind (m_spec_l1In a1.rows 0 8) fun v1 =>
  bif v1 then
    (Option.bind (m_spec_l1In a1.cols 0 8) fun v3 =>
    bif v3 then
      (bif decide ((a1.cells.length : Int) = wr (a1.rows * a1.cols)) then
        (Option.bind (m_spec_IsVector a0 a1.cells) fun v6 =>
        some (v6))
      else
        (some (false)))
    else
      (some (false)))
  else
    (some (false))

theorem c_spec_IsMatrix (a0 : Int) (a1 : Mt) (r : Bool) (h : m_spec_IsMatrix a0 a1 = some r) : HasC Try.prog 128 [.int a0, .agg (eM a1)] (.bl r) := by
 refine hasC_mk TT_ok (rvs := [.tmp 4]) (ns := [0, 1, 2]) Try.func128 k k Try.ntmps128 k k k <| sQ <| rg <| ae (w_box k k k k) k <| aa k k <| an <| tn <| sQ <| rg <| ae (w_field_ptr TT_ok k k k k k k k) k ?_
 refine ae (w_load_ptr TT_ok k k k k k k k) k ?_
 obtain ⟨v1, hv1, h⟩ := ob h
 refine ae (w_call0s (c_spec_l1In a1.rows 0 8 v1 hv1) k (va_cons (va_same k) (va_cons (va_same k) (va_cons (va_same k) va_nil)))) k <| am k k ?_
 rcases cb h with ⟨q2, h⟩ | ⟨q2, h⟩
 ·refine aops_lit 8 k q2 <| ae (w_field_ptr TT_ok k k k k k k k) k <| ae (w_load_ptr TT_ok k k k k k k k) k ?_
  obtain ⟨v3, hv3, h⟩ := ob h
  refine ae (w_call0s (c_spec_l1In a1.cols 0 8 v3 hv3) k (va_cons (va_same k) (va_cons (va_same k) (va_cons (va_same k) va_nil)))) k <| ae (eff_pick k k) k <| am k k ?_
  rcases cb h with ⟨q4, h⟩ | ⟨q4, h⟩
  ·refine aops_lit 13 k q4 <| ae (w_field_ptr TT_ok k k k k k k k) k <| ae (w_load_ptr TT_ok k k k k k k k) k <| ae (lenL TT_ok k k k) k <| ae (w_field_ptr TT_ok k k k k k k k) k <| ae (w_load_ptr TT_ok k k k k k k k) k <| ae (w_field_ptr TT_ok k k k k k k k) k <| ae (w_load_ptr TT_ok k k k k k k k) k <| ae (x_mul k k) k <| ae (w_cmp k k k) k ?_
   refine ae (eff_pick k k) k <| am k k ?_
   rcases cb h with ⟨q5, h⟩ | ⟨q5, h⟩
   ·refine aops_lit 24 k q5 <| am k k <| ae (w_field_ptr TT_ok k k k k k k k) k <| ae (w_load_ptr TT_ok k k k k k k k) k ?_
    obtain ⟨v6, hv6, h⟩ := ob h
    refine ae (w_call0s (c_spec_IsVector a0 a1.cells v6 hv6) k (va_cons (va_same k) (va_cons (va_same k) va_nil))) k <| ae (eff_pick k k) k <| aa k k <| an <| tn <| ac_ent (t := mkS [(4, .bl v6)] [] 1 [1, 2]) (ent_mk (σ := sg []) ⟨(e1 k k), trivial⟩ trivial k) <| ac_ret ?_
    obtain rfl := so h
    exact ret_mk k k k (fz_bl k)
   ·refine aops_lit 24 k q5 <| ak k k <| ak k k <| ak k k <| ak k k <| ae (eff_pick k k) k <| aa k k <| an <| tn <| ac_ent (t := mkS [(4, .bl false)] [] 1 [1, 2]) (ent_mk (σ := sg []) ⟨(e1 k k), trivial⟩ trivial k) ?_
    refine ac_ret ?_
    obtain rfl := so h
    exact ret_mk k k k (fz_bl k)
  ·refine aops_lit 13 k q4 <| ak k k <| ak k k <| ak k k <| ak k k <| ak k k <| ak k k <| ak k k <| ak k k <| ak k k ?_
   refine ae (eff_pick k k) k <| am k k <| ak k k <| ak k k <| ak k k <| ak k k <| ae (eff_pick k k) k <| aa k k <| an <| tn ?_
   refine ac_ent (t := mkS [(4, .bl false)] [] 1 [1, 2]) (ent_mk (σ := sg []) ⟨(e1 k k), trivial⟩ trivial k) <| ac_ret ?_
   obtain rfl := so h
   exact ret_mk k k k (fz_bl k)
 ·refine aops_lit 8 k q2 <| ak k k <| ak k k <| ak k k <| ae (eff_pick k k) k <| am k k <| ak k k <| ak k k <| ak k k <| ak k k ?_
  refine ak k k <| ak k k <| ak k k <| ak k k <| ak k k <| ae (eff_pick k k) k <| am k k <| ak k k <| ak k k <| ak k k ?_
  refine ak k k <| ae (eff_pick k k) k <| aa k k <| an <| tn <| ac_ent (t := mkS [(4, .bl false)] [] 1 [1, 2]) (ent_mk (σ := sg []) ⟨(e1 k k), trivial⟩ trivial k) <| ac_ret ?_
  obtain rfl := so h
  exact ret_mk k k k (fz_bl k)

def m_spec_l3Copy (a0 : Mt) : Option Mt :=
  bif decide (([] : (List Int)).length + a0.cells.length ≤ 4294967296) then
    (some ((⟨a0.rows, a0.cols, (([] : (List Int)) ++ a0.cells)⟩ : Mt)))
  else none

theorem c_spec_l3Copy (a0 : Mt) (r : Mt) (h : m_spec_l3Copy a0 = some r) : HasC Try.prog 61 [.agg (eM a0)] (.agg (eM r)) := by
 refine hasC_mk TT_ok (rvs := [.cell 2 82]) (ns := [0, 1, 2, 3, 4, 5]) Try.func61 k k Try.ntmps61 k k k <| sQ <| rg <| ae (w_box k k k k) k <| ae (w_alloc TT_ok k k) k <| an <| tn <| sQ <| ac_region_draw MIXX <| ae (w_field_ptr TT_ok k k k k k k k) k ?_
 refine ae (w_load_ptr TT_ok k k k k k k k) k <| ae (w_field_ptr TT_ok k k k k k k k) k <| ae (w_load_ptr TT_ok k k k k k k k) k <| ae (w_lit TT_ok k k k k k k k k k k k k) k <| ae (w_field_ptr TT_ok k k k k k k k) k <| ae (w_load_ptr TT_ok k k k k k k k) k ?_
 obtain ⟨q1, h⟩ := cg h
 refine ae (x_app TT_ok (l := ([] : (List Int))) (m := a0.cells) okIo q1 k k k k k k k k k k k k) k <| ae (w_build TT_ok k k k k k k) k <| ae (w_store TT_ok k k k k k k k k) k <| an ?_
 refine ⟨by kernel_rfl, ?_⟩
 refine tn <| ac_ent (t := mkS [(2, .ptr 1 0 0)] [(1, ⟨3, [[.int a0.rows, .int a0.cols, .own 3 0 ((([] : (List Int)) ++ a0.cells).length)]]⟩), (3, ⟨1, List.map (ow eI) (([] : (List Int)) ++ a0.cells)⟩)] 4 [4, 5]) (ent_mk (σ := sg [(1, 1), (3, 3)]) ⟨(pE k k), trivial⟩ (hX ⟨_, k, k, .inr ⟨_, _, k, ⟨_, _, k, k, ⟨_, _, k, k, ⟨_, _, k, ⟨k, k, k, k⟩, k⟩⟩⟩, k⟩⟩ k <| hI k k k <| trivial) k) <| ac_ret ?_
 obtain rfl := so h
 exact ret_mk k k k (xz_agg (x1_cons (k) (x1_cons (k) (x1_cons (x_f1 okI k k) x1_nil))))

end Go.Proofs.Ytdhjmmnjapkmkaa
end

section
set_option linter.unusedVariables false
set_option linter.unusedSimpArgs false

namespace Go.Proofs.Ytdhjmmnjapkmkaa
open Go.RowKit
set_option linter.unusedVariables false
set_option linter.unusedSimpArgs false
set_option maxRecDepth 10000
set_option maxHeartbeats 4000000

noncomputable def m_spec_l4Reduce_L2 (v1 : Mt) (x1 : (Int × (List Int) × (List Int) × Int)) (x2 : (Int × Int)) : Option ((Int × Int) ⊕ Int) :=
  bif decide (x1.2.2.2 ≤ x2.2) then
    (Option.bind (atL x1.2.1 (wr ((wr (x2.2 * v1.cols)) + x1.1))) fun v5 =>
    bif !decide (v5 = 0) then
      (some (.inl (x2.2, wr (x2.2 - 1))))
    else
      (some (.inl (x2.1, wr (x2.2 - 1)))))
  else
    (some (.inr x2.1))

noncomputable def m_spec_l4Reduce_L3 (v1 : Mt) (x1 : (Int × (List Int) × (List Int) × Int)) (y7 : Int) (x3 : ((List Int) × Int)) : Option (((List Int) × Int) ⊕ (List Int)) :=
  bif decide (x3.2 < v1.cols) then
    (Option.bind (atL x3.1 (wr ((wr (x1.2.2.2 * v1.cols)) + x3.2))) fun v10 =>
    Option.bind (atL x3.1 (wr ((wr (y7 * v1.cols)) + x3.2))) fun v11 =>
    Option.bind (atL x3.1 (wr ((wr (x1.2.2.2 * v1.cols)) + x3.2))) fun v12 =>
    Option.bind (atL (x3.1.set ((wr ((wr (x1.2.2.2 * v1.cols)) + x3.2)).toNat) v11) (wr ((wr (y7 * v1.cols)) + x3.2))) fun v13 =>
    some (.inl (((x3.1.set ((wr ((wr (x1.2.2.2 * v1.cols)) + x3.2)).toNat) v11).set ((wr ((wr (y7 * v1.cols)) + x3.2)).toNat) v10), wr (x3.2 + 1))))
  else
    (some (.inr x3.1))

noncomputable def m_spec_l4Reduce_L4 (a0 : Int) (v1 : Mt) (v16 : Int) (x1 : (Int × (List Int) × (List Int) × Int)) (x4 : ((List Int) × Int)) : Option (((List Int) × Int) ⊕ (List Int)) :=
  bif decide (x4.2 < v1.cols) then
    (Option.bind (atL x4.1 (wr ((wr (x1.2.2.2 * v1.cols)) + x4.2))) fun v18 =>
    Option.bind (m_spec_l2Mod a0 (wr (v16 * v18))) fun v19 =>
    Option.bind (atL x4.1 (wr ((wr (x1.2.2.2 * v1.cols)) + x4.2))) fun v20 =>
    some (.inl ((x4.1.set ((wr ((wr (x1.2.2.2 * v1.cols)) + x4.2)).toNat) v19), wr (x4.2 + 1))))
  else
    (some (.inr x4.1))

noncomputable def m_spec_l4Reduce_L6 (a0 : Int) (v1 : Mt) (v23 : Int) (x1 : (Int × (List Int) × (List Int) × Int)) (x5 : ((List Int) × Int)) (x6 : ((List Int) × Int)) : Option (((List Int) × Int) ⊕ (List Int)) :=
  bif decide (x6.2 < v1.cols) then
    (bif !decide (x5.2 = x1.2.2.2) then
      (Option.bind (atL x6.1 (wr ((wr (x5.2 * v1.cols)) + x6.2))) fun v26 =>
      Option.bind (atL x6.1 (wr ((wr (x1.2.2.2 * v1.cols)) + x6.2))) fun v27 =>
      Option.bind (m_spec_l2Mod a0 (wr (v26 - (wr (v23 * v27))))) fun v28 =>
      Option.bind (atL x6.1 (wr ((wr (x5.2 * v1.cols)) + x6.2))) fun v29 =>
      some (.inl ((x6.1.set ((wr ((wr (x5.2 * v1.cols)) + x6.2)).toNat) v28), wr (x6.2 + 1))))
    else
      (some (.inr x6.1)))
  else
    (some (.inr x6.1))

noncomputable def m_spec_l4Reduce_L5 (a0 : Int) (v1 : Mt) (x1 : (Int × (List Int) × (List Int) × Int)) (x5 : ((List Int) × Int)) : Option (((List Int) × Int) ⊕ (List Int)) :=
  bif decide (x5.2 < v1.rows) then
    (Option.bind (atL x5.1 (wr ((wr (x5.2 * v1.cols)) + x1.1))) fun v23 =>
    Option.bind (Lp (m_spec_l4Reduce_L6 a0 v1 v23 x1 x5) (x5.1, 0)) fun y30 =>
    some (.inl (y30, wr (x5.2 + 1))))
  else
    (some (.inr x5.1))

noncomputable def m_spec_l4Reduce_L1 (a0 : Int) (v1 : Mt) (x1 : (Int × (List Int) × (List Int) × Int)) : Option ((Int × (List Int) × (List Int) × Int) ⊕ ((List Int) × (List Int))) :=
  bif decide (x1.1 < v1.cols) then
    (bif decide (x1.2.2.2 < v1.rows) then
      (Option.bind (Lp (m_spec_l4Reduce_L2 v1 x1) ((-1), wr (v1.rows - 1))) fun y7 =>
      bif decide (y7 < 0) then
        (some (.inl (wr (x1.1 + 1), x1.2.1, x1.2.2.1, x1.2.2.2)))
      else
        (Option.bind (Lp (m_spec_l4Reduce_L3 v1 x1 y7) (x1.2.1, 0)) fun y14 =>
        Option.bind (atL y14 (wr ((wr (x1.2.2.2 * v1.cols)) + x1.1))) fun v15 =>
        Option.bind (m_spec_InverseMod a0 v15) fun v16 =>
        Option.bind (Lp (m_spec_l4Reduce_L4 a0 v1 v16 x1) (y14, 0)) fun y21 =>
        Option.bind (Lp (m_spec_l4Reduce_L5 a0 v1 x1) (y21, 0)) fun y31 =>
        bif decide (x1.2.2.1.length + [x1.1].length ≤ 4294967296) then
          (some (.inl (wr (x1.1 + 1), y31, (x1.2.2.1 ++ [x1.1]), wr (x1.2.2.2 + 1))))
        else none))
    else
      (some (.inr (x1.2.1, x1.2.2.1))))
  else
    (some (.inr (x1.2.1, x1.2.2.1)))

noncomputable def m_spec_l4Reduce (a0 : Int) (a1 : Mt) : Option (Mt × (List Int)) :=
  Option.bind (m_spec_l3Copy a1) fun v1 =>
  Option.bind (Lp (m_spec_l4Reduce_L1 a0 v1) (0, v1.cells, ([] : (List Int)), 0)) fun y33 =>
  some (((⟨v1.rows, v1.cols, y33.1⟩ : Mt), y33.2))

theorem c_spec_l4Reduce (a0 : Int) (a1 : Mt) (r : (Mt × (List Int))) (h : m_spec_l4Reduce a0 a1 = some r) : HasC Try.prog 156 [.int a0, .agg (eM a1)] (.tuple [.agg (eM r.1), .list 1 (List.map eI r.2)]) := by
 refine hasC_mk TT_ok (rvs := [.cell 4 82, .tmp 5]) (ns := [0, 1, 2, 3, 4, 5, 6, 7]) Try.func156 k k Try.ntmps156 k k k <| sQ <| rg <| ae (w_box k k k k) k <| ae (w_alloc TT_ok k k) k <| aa k k <| an <| tn <| sQ <| rg ?_
 refine ae (w_load_ptr TT_ok k k k k k k k) k ?_
 obtain ⟨v1, hv1, h⟩ := ob h
 refine ae (AEff.conv (w_call0 (x := .agg [.int v1.rows, .int v1.cols, .own 2 0 (List.map eI v1.cells).length]) (nb := [(2, ⟨1, absEs (List.map eI v1.cells)⟩)]) (c_spec_l3Copy a1 v1 hv1) k (by rfl) k k (g1_cons trivial (g1_cons trivial (g1_cons (okI.good _) g1_nil))) (va_cons (va_agg' (v1_cons (v1_same k) (v1_cons (v1_same k) (v1_cons (v1_same k) v1_nil)))) va_nil)) (v' := .agg [.int v1.rows, .int v1.cols, .own 2 0 v1.cells.length]) (ed' := [(2, some ⟨1, List.map (ow eI) v1.cells⟩)]) (by simp only [len_map]) (ed_ok (nb' := [(2, ⟨1, List.map (ow eI) v1.cells⟩)]) (by simp only [abs_map]))) k <| ae (w_alloc TT_ok k k) k <| ae (w_store TT_ok k k k k k k k k) k <| an <| tn <| sQ <| rg <| ae (w_lit TT_ok k k k k k k k k k k k k) k <| aa k k <| an ?_
 refine tn <| ac_ent (t := mkS [(0, .int a0), (4, .ptr 1 0 0), (6, .ptr 3 0 0), (7, .own 4 0 (([] : (List Int)).length))] [(1, ⟨3, [[.int 0, .int 0, .nil 1]]⟩), (2, ⟨1, List.map (ow eI) v1.cells⟩), (3, ⟨3, [[.int v1.rows, .int v1.cols, .own 2 0 v1.cells.length]]⟩), (4, ⟨1, List.map (ow eI) ([] : (List Int))⟩)] 5 [5, 6, 7]) (ent_mk (σ := sg [(1, 1), (2, 2), (3, 3), (4, 4)]) ⟨(e1 k k), (pE k k), (pE k k), ⟨_, k, ⟨k, k, (by simp only [len_map, lA, lT, lR, lC, lN]), k⟩⟩, trivial⟩ (hP k k k k <| hI k k k <| hX ⟨_, k, k, .inr ⟨_, _, k, ⟨_, _, k, k, ⟨_, _, k, k, ⟨_, _, k, ⟨k, k, k, k⟩, k⟩⟩⟩, k⟩⟩ k <| hI k k k <| trivial) k) <| sQ <| rg <| aa k k <| an <| tn <| sQ <| sQ <| rg ?_
 refine aa k k <| an <| tn <| ac_block ?_
 obtain ⟨y33, hy33, h⟩ := ob h
 refine ac_Lp (body := (m_spec_l4Reduce_L1 a0 v1)) hy33 (fun (x1 : (Int × (List Int) × (List Int) × Int)) => mkS [(0, .int a0), (4, .ptr 0 0 0), (6, .ptr 1 0 0), (7, .own 3 0 x1.2.2.1.length), (8, .int x1.2.2.2), (9, .int x1.1)] [(0, ⟨3, [[.int 0, .int 0, .nil 1]]⟩), (1, ⟨3, [[.int v1.rows, .int v1.cols, .own 2 0 x1.2.1.length]]⟩), (2, ⟨1, List.map (ow eI) x1.2.1⟩), (3, ⟨1, List.map (ow eI) x1.2.2.1⟩)] 4 [4, 5, 6, 7]) (fun r e t => e = .exit 0 ∧ Ent t (mkS [(4, .ptr 0 0 0), (6, .ptr 1 0 0), (7, .own 3 0 r.2.length)] [(0, ⟨3, [[.int 0, .int 0, .nil 1]]⟩), (1, ⟨3, [[.int v1.rows, .int v1.cols, .own 2 0 r.1.length]]⟩), (2, ⟨1, List.map (ow eI) r.1⟩), (3, ⟨1, List.map (ow eI) r.2⟩)] 4 [4, 5, 6, 7])) (ent_mk (σ := sg [(0, 1), (1, 3), (2, 2), (3, 4)]) ⟨(e1 k k), (pE k k), (pE k k), (oE k k), (e1 k k), (e1 k k), trivial⟩ (hP k k k k <| hX ⟨_, k, k, .inr ⟨_, _, k, ⟨_, _, k, k, ⟨_, _, k, k, ⟨_, _, k, ⟨k, k, k, k⟩, k⟩⟩⟩, k⟩⟩ k <| hI k k k <| hI k k k <| trivial) k) ?_ ?_
 ·intro x1 o h
  refine sQ <| sQ <| rg <| am k k <| ae (w_field_ptr TT_ok k k k k k k k) k <| ae (w_load_ptr TT_ok k k k k k k k) k <| ae (w_cmp k k k) k <| am k k ?_
  rcases cb h with ⟨q2, h⟩ | ⟨q2, h⟩
  ·refine aops_lit 26 k q2 <| am k k <| ae (w_field_ptr TT_ok k k k k k k k) k <| ae (w_load_ptr TT_ok k k k k k k k) k <| ae (w_cmp k k k) k <| ae (eff_pick k k) k <| an <| tn ?_
   rcases cb h with ⟨q3, h⟩ | ⟨q3, h⟩
   ·refine ac_condT k q3 <| ac_skip <| tn <| sQ <| ac_block <| sQ <| rg <| aa k k <| an <| tn ?_
    refine sQ <| sQ <| rg <| ae (w_field_ptr TT_ok k k k k k k k) k <| ae (w_load_ptr TT_ok k k k k k k k) k <| ae (x_sub k k) k <| aa k k <| an <| tn <| ac_ent (t := mkS [(0, .int a0), (4, .ptr 0 0 0), (6, .ptr 1 0 0), (7, .own 3 0 x1.2.2.1.length), (8, .int x1.2.2.2), (9, .int x1.1), (10, .int (-1)), (11, .int (wr (v1.rows - 1)))] [(0, ⟨3, [[.int 0, .int 0, .nil 1]]⟩), (1, ⟨3, [[.int v1.rows, .int v1.cols, .own 2 0 x1.2.1.length]]⟩), (2, ⟨1, List.map (ow eI) x1.2.1⟩), (3, ⟨1, List.map (ow eI) x1.2.2.1⟩)] 4 [4, 5, 6, 7]) (ent_mk (σ := sg [(0, 0), (1, 1), (2, 2), (3, 3)]) ⟨(e1 k k), (pE k k), (pE k k), (oE k k), (e1 k k), (e1 k k), (e1 k k), (e1 k k), trivial⟩ (hP k k k k <| hX ⟨_, k, k, .inr ⟨_, _, k, ⟨_, _, k, k, ⟨_, _, k, k, ⟨_, _, k, ⟨k, k, k, k⟩, k⟩⟩⟩, k⟩⟩ k <| hI k k k <| hI k k k <| trivial) k) ?_
    refine ac_block ?_
    obtain ⟨y7, hy7, h⟩ := ob h
    refine ac_Lp (body := (m_spec_l4Reduce_L2 v1 x1)) hy7 (fun (x2 : (Int × Int)) => mkS [(0, .int a0), (4, .ptr 0 0 0), (6, .ptr 1 0 0), (7, .own 3 0 x1.2.2.1.length), (8, .int x1.2.2.2), (9, .int x1.1), (10, .int x2.1), (11, .int x2.2)] [(0, ⟨3, [[.int 0, .int 0, .nil 1]]⟩), (1, ⟨3, [[.int v1.rows, .int v1.cols, .own 2 0 x1.2.1.length]]⟩), (2, ⟨1, List.map (ow eI) x1.2.1⟩), (3, ⟨1, List.map (ow eI) x1.2.2.1⟩)] 4 [4, 5, 6, 7]) (fun r e t => e = .exit 2 ∧ Ent t (mkS [(0, .int a0), (4, .ptr 0 0 0), (6, .ptr 1 0 0), (7, .own 3 0 x1.2.2.1.length), (8, .int x1.2.2.2), (9, .int x1.1), (10, .int r)] [(0, ⟨3, [[.int 0, .int 0, .nil 1]]⟩), (1, ⟨3, [[.int v1.rows, .int v1.cols, .own 2 0 x1.2.1.length]]⟩), (2, ⟨1, List.map (ow eI) x1.2.1⟩), (3, ⟨1, List.map (ow eI) x1.2.2.1⟩)] 4 [4, 5, 6, 7])) (ent_mk (σ := sg [(0, 0), (1, 1), (2, 2), (3, 3)]) ⟨(e1 k k), (pE k k), (pE k k), (oE k k), (e1 k k), (e1 k k), (e1 k k), (e1 k k), trivial⟩ (hP k k k k <| hX ⟨_, k, k, .inr ⟨_, _, k, ⟨_, _, k, k, ⟨_, _, k, k, ⟨_, _, k, ⟨k, k, k, k⟩, k⟩⟩⟩, k⟩⟩ k <| hI k k k <| hI k k k <| trivial) k) ?_ ?_
    ·intro x2 o h
     refine sQ <| sQ <| rg <| am k k <| am k k <| ae (w_cmp k k k) k <| an <| tn ?_
     rcases cb h with ⟨q4, h⟩ | ⟨q4, h⟩
     ·refine ac_condT k q4 <| ac_skip <| tn <| sQ <| ac_block <| sQ <| rg <| ae (w_field_ptr TT_ok k k k k k k k) k <| ae (w_load_ptr TT_ok k k k k k k k) k <| am k k ?_
      refine ae (w_field_ptr TT_ok k k k k k k k) k <| ae (w_load_ptr TT_ok k k k k k k k) k <| ae (x_mul k k) k <| am k k <| ae (x_add k k) k ?_
      obtain ⟨v5, hv5, h⟩ := ob h
      refine ae (x_at_own TT_ok (atL_nn hv5) (atL_lt hv5) k k k k k k k) k <| ae (w_load_ptr TT_ok k k k k (map_at (atL_get hv5)) k k) k <| ae (w_cmp k k k) k <| an <| tn <| ac_ent (t := mkS [(0, .int a0), (4, .ptr 0 0 0), (6, .ptr 1 0 0), (7, .own 3 0 x1.2.2.1.length), (8, .int x1.2.2.2), (9, .int x1.1), (10, .int x2.1), (11, .int x2.2), (52, .bl (!decide (v5 = 0)))] [(0, ⟨3, [[.int 0, .int 0, .nil 1]]⟩), (1, ⟨3, [[.int v1.rows, .int v1.cols, .own 2 0 x1.2.1.length]]⟩), (2, ⟨1, List.map (ow eI) x1.2.1⟩), (3, ⟨1, List.map (ow eI) x1.2.2.1⟩)] 4 [4, 5, 6, 7]) (ent_mk (σ := sg [(0, 0), (1, 1), (2, 2), (3, 3)]) ⟨(e1 k k), (pE k k), (pE k k), (oE k k), (e1 k k), (e1 k k), (e1 k k), (e1 k k), (e1 k k), trivial⟩ (hP k k k k <| hX ⟨_, k, k, .inr ⟨_, _, k, ⟨_, _, k, k, ⟨_, _, k, k, ⟨_, _, k, ⟨k, k, k, k⟩, k⟩⟩⟩, k⟩⟩ k <| hI k k k <| hI k k k <| trivial) k) ?_
      rcases cb h with ⟨q6, h⟩ | ⟨q6, h⟩
      ·refine ac_condT k q6 <| rg <| am k k <| aa k k <| an <| block_n <| tn <| rg <| am k k <| ae (x_sub k k) k ?_
       refine aa k k <| an <| tn ?_
       obtain rfl := so h
       exact ⟨_, k, (ent_mk (σ := sg [(0, 0), (1, 1), (2, 2), (3, 3)]) ⟨(e1 k k), (pE k k), (pE k k), (oE k k), (e1 k k), (e1 k k), (e1 k k), (e1 k k), trivial⟩ (hP k k k k <| hX ⟨_, k, k, .inr ⟨_, _, k, ⟨_, _, k, k, ⟨_, _, k, k, ⟨_, _, k, ⟨k, k, k, k⟩, k⟩⟩⟩, k⟩⟩ k <| hI k k k <| hI k k k <| trivial) k)⟩
      ·refine ac_condF k q6 <| ac_skip <| block_n <| tn <| rg <| am k k <| ae (x_sub k k) k <| aa k k <| an <| tn ?_
       obtain rfl := so h
       exact ⟨_, k, (ent_mk (σ := sg [(0, 0), (1, 1), (2, 2), (3, 3)]) ⟨(e1 k k), (pE k k), (pE k k), (oE k k), (e1 k k), (e1 k k), (e1 k k), (e1 k k), trivial⟩ (hP k k k k <| hX ⟨_, k, k, .inr ⟨_, _, k, ⟨_, _, k, k, ⟨_, _, k, k, ⟨_, _, k, ⟨k, k, k, k⟩, k⟩⟩⟩, k⟩⟩ k <| hI k k k <| hI k k k <| trivial) k)⟩
     ·refine ac_condF k q4 <| ac_exit <| then_exit <| then_exit ?_
      obtain rfl := so h
      exact ⟨_, k, k, (ent_mk (σ := sg [(0, 0), (1, 1), (2, 2), (3, 3)]) ⟨(e1 k k), (pE k k), (pE k k), (oE k k), (e1 k k), (e1 k k), (e1 k k), trivial⟩ (hP k k k k <| hX ⟨_, k, k, .inr ⟨_, _, k, ⟨_, _, k, k, ⟨_, _, k, k, ⟨_, _, k, ⟨k, k, k, k⟩, k⟩⟩⟩, k⟩⟩ k <| hI k k k <| hI k k k <| trivial) k)⟩
    ·rintro e t ⟨rfl, hent⟩
     refine block_here <| tn <| ac_ent hent <| sQ <| sQ <| rg <| am k k <| ae (w_cmp k k k) k <| an <| tn ?_
     rcases cb h with ⟨q8, h⟩ | ⟨q8, h⟩
     ·refine ac_condT k q8 <| ac_exit <| then_exit <| block_here <| tn <| rg <| am k k <| ae (x_add k k) k <| aa k k <| an ?_
      refine tn ?_
      obtain rfl := so h
      exact ⟨_, k, (ent_mk (σ := sg [(0, 0), (1, 1), (2, 2), (3, 3)]) ⟨(e1 k k), (pE k k), (pE k k), (oE k k), (e1 k k), (e1 k k), trivial⟩ (hP k k k k <| hX ⟨_, k, k, .inr ⟨_, _, k, ⟨_, _, k, k, ⟨_, _, k, k, ⟨_, _, k, ⟨k, k, k, k⟩, k⟩⟩⟩, k⟩⟩ k <| hI k k k <| hI k k k <| trivial) k)⟩
     ·refine ac_condF k q8 <| ac_skip <| tn <| sQ <| sQ <| rg <| aa k k <| an <| tn <| ac_block ?_
      obtain ⟨y14, hy14, h⟩ := ob h
      refine ac_Lp (body := (m_spec_l4Reduce_L3 v1 x1 y7)) hy14 (fun (x3 : ((List Int) × Int)) => mkS [(0, .int a0), (4, .ptr 0 0 0), (6, .ptr 1 0 0), (7, .own 3 0 x1.2.2.1.length), (8, .int x1.2.2.2), (9, .int x1.1), (10, .int y7), (12, .int x3.2)] [(0, ⟨3, [[.int 0, .int 0, .nil 1]]⟩), (1, ⟨3, [[.int v1.rows, .int v1.cols, .own 2 0 x3.1.length]]⟩), (2, ⟨1, List.map (ow eI) x3.1⟩), (3, ⟨1, List.map (ow eI) x1.2.2.1⟩)] 4 [4, 5, 6, 7]) (fun r e t => e = .exit 4 ∧ Ent t (mkS [(0, .int a0), (4, .ptr 0 0 0), (6, .ptr 1 0 0), (7, .own 3 0 x1.2.2.1.length), (8, .int x1.2.2.2), (9, .int x1.1)] [(0, ⟨3, [[.int 0, .int 0, .nil 1]]⟩), (1, ⟨3, [[.int v1.rows, .int v1.cols, .own 2 0 r.length]]⟩), (2, ⟨1, List.map (ow eI) r⟩), (3, ⟨1, List.map (ow eI) x1.2.2.1⟩)] 4 [4, 5, 6, 7])) (ent_mk (σ := sg [(0, 0), (1, 1), (2, 2), (3, 3)]) ⟨(e1 k k), (pE k k), (pE k k), (oE k k), (e1 k k), (e1 k k), (e1 k k), (e1 k k), trivial⟩ (hP k k k k <| hX ⟨_, k, k, .inr ⟨_, _, k, ⟨_, _, k, k, ⟨_, _, k, k, ⟨_, _, k, ⟨k, k, k, k⟩, k⟩⟩⟩, k⟩⟩ k <| hI k k k <| hI k k k <| trivial) k) ?_ ?_
      ·intro x3 o h
       refine sQ <| sQ <| rg <| am k k <| ae (w_field_ptr TT_ok k k k k k k k) k <| ae (w_load_ptr TT_ok k k k k k k k) k <| ae (w_cmp k k k) k <| an <| tn ?_
       rcases cb h with ⟨q9, h⟩ | ⟨q9, h⟩
       ·refine ac_condT k q9 <| ac_skip <| tn <| sQ <| ac_block <| sQ <| rg <| ae (w_field_ptr TT_ok k k k k k k k) k <| ae (w_load_ptr TT_ok k k k k k k k) k <| am k k ?_
        refine ae (w_field_ptr TT_ok k k k k k k k) k <| ae (w_load_ptr TT_ok k k k k k k k) k <| ae (x_mul k k) k <| am k k <| ae (x_add k k) k ?_
        obtain ⟨v10, hv10, h⟩ := ob h
        refine ae (x_at_own TT_ok (atL_nn hv10) (atL_lt hv10) k k k k k k k) k <| ae (w_load_ptr TT_ok k k k k (map_at (atL_get hv10)) k k) k <| aa k k <| an <| tn <| ac_ent (t := mkS [(0, .int a0), (4, .ptr 0 0 0), (6, .ptr 1 0 0), (7, .own 3 0 x1.2.2.1.length), (8, .int x1.2.2.2), (9, .int x1.1), (10, .int y7), (12, .int x3.2), (13, .int v10)] [(0, ⟨3, [[.int 0, .int 0, .nil 1]]⟩), (1, ⟨3, [[.int v1.rows, .int v1.cols, .own 2 0 x3.1.length]]⟩), (2, ⟨1, List.map (ow eI) x3.1⟩), (3, ⟨1, List.map (ow eI) x1.2.2.1⟩)] 4 [4, 5, 6, 7]) (ent_mk (σ := sg [(0, 0), (1, 1), (2, 2), (3, 3)]) ⟨(e1 k k), (pE k k), (pE k k), (oE k k), (e1 k k), (e1 k k), (e1 k k), (e1 k k), (e1 k k), trivial⟩ (hP k k k k <| hX ⟨_, k, k, .inr ⟨_, _, k, ⟨_, _, k, k, ⟨_, _, k, k, ⟨_, _, k, ⟨k, k, k, k⟩, k⟩⟩⟩, k⟩⟩ k <| hI k k k <| hI k k k <| trivial) k) <| sQ <| ac_region_draw MIXX <| ae (w_field_ptr TT_ok k k k k k k k) k <| ae (w_load_ptr TT_ok k k k k k k k) k ?_
        refine am k k <| ae (w_field_ptr TT_ok k k k k k k k) k <| ae (w_load_ptr TT_ok k k k k k k k) k <| ae (x_mul k k) k <| am k k <| ae (x_add k k) k <| ae (w_field_ptr TT_ok k k k k k k k) k <| ae (w_load_ptr TT_ok k k k k k k k) k <| am k k <| ae (w_field_ptr TT_ok k k k k k k k) k ?_
        refine ae (w_load_ptr TT_ok k k k k k k k) k <| ae (x_mul k k) k <| am k k <| ae (x_add k k) k ?_
        obtain ⟨v11, hv11, h⟩ := ob h
        refine ae (x_at_own TT_ok (atL_nn hv11) (atL_lt hv11) k k k k k k k) k <| ae (w_load_ptr TT_ok k k k k (map_at (atL_get hv11)) k k) k ?_
        obtain ⟨v12, hv12, h⟩ := ob h
        refine ae (x_at_own TT_ok (atL_nn hv12) (atL_lt hv12) k k k k k k k) k <| ae (x_store TT_ok okIo (u := v11) (atL_get hv12) k k k k k k) k <| an ?_
        refine ⟨by kernel_rfl, ?_⟩
        refine tn <| ac_ent (t := mkS [(0, .int a0), (4, .ptr 0 0 0), (6, .ptr 1 0 0), (7, .own 3 0 x1.2.2.1.length), (8, .int x1.2.2.2), (9, .int x1.1), (10, .int y7), (12, .int x3.2), (13, .int v10)] [(0, ⟨3, [[.int 0, .int 0, .nil 1]]⟩), (1, ⟨3, [[.int v1.rows, .int v1.cols, .own 2 0 ((x3.1.set ((wr ((wr (x1.2.2.2 * v1.cols)) + x3.2)).toNat) v11).length)]]⟩), (2, ⟨1, List.map (ow eI) (x3.1.set ((wr ((wr (x1.2.2.2 * v1.cols)) + x3.2)).toNat) v11)⟩), (3, ⟨1, List.map (ow eI) x1.2.2.1⟩)] 4 [4, 5, 6, 7]) (ent_mk (σ := sg [(0, 0), (1, 1), (2, 2), (3, 3)]) ⟨(e1 k k), (pE k k), (pE k k), (oE k k), (e1 k k), (e1 k k), (e1 k k), (e1 k k), (e1 k k), trivial⟩ (hP k k k k <| hX ⟨_, k, k, .inr ⟨_, _, k, ⟨_, _, k, k, ⟨_, _, k, k, ⟨_, _, k, ⟨k, k, (by simp only [len_map, lA, lT, lR, lC, lN]), k⟩, k⟩⟩⟩, k⟩⟩ k <| hI k k k <| hI k k k <| trivial) k) <| rg <| ae (w_field_ptr TT_ok k k k k k k k) k <| ae (w_load_ptr TT_ok k k k k k k k) k <| am k k <| ae (w_field_ptr TT_ok k k k k k k k) k <| ae (w_load_ptr TT_ok k k k k k k k) k <| ae (x_mul k k) k <| am k k ?_
        refine ae (x_add k k) k <| am k k ?_
        obtain ⟨v13, hv13, h⟩ := ob h
        refine ae (x_at_own TT_ok (atL_nn hv13) (atL_lt hv13) k k k k k k k) k <| ae (x_store TT_ok okIo (u := v10) (atL_get hv13) k k k k k k) k <| an <| block_n <| tn <| rg <| am k k <| ae (x_add k k) k <| aa k k <| an ?_
        refine tn ?_
        obtain rfl := so h
        exact ⟨_, k, (ent_mk (σ := sg [(0, 0), (1, 1), (2, 2), (3, 3)]) ⟨(e1 k k), (pE k k), (pE k k), (oE k k), (e1 k k), (e1 k k), (e1 k k), (e1 k k), trivial⟩ (hP k k k k <| hX ⟨_, k, k, .inr ⟨_, _, k, ⟨_, _, k, k, ⟨_, _, k, k, ⟨_, _, k, ⟨k, k, (by simp only [len_map, lA, lT, lR, lC, lN]), k⟩, k⟩⟩⟩, k⟩⟩ k <| hI k k k <| hI k k k <| trivial) k)⟩
       ·refine ac_condF k q9 <| ac_exit <| then_exit <| then_exit ?_
        obtain rfl := so h
        exact ⟨_, k, k, (ent_mk (σ := sg [(0, 0), (1, 1), (2, 2), (3, 3)]) ⟨(e1 k k), (pE k k), (pE k k), (oE k k), (e1 k k), (e1 k k), trivial⟩ (hP k k k k <| hX ⟨_, k, k, .inr ⟨_, _, k, ⟨_, _, k, k, ⟨_, _, k, k, ⟨_, _, k, ⟨k, k, k, k⟩, k⟩⟩⟩, k⟩⟩ k <| hI k k k <| hI k k k <| trivial) k)⟩
      ·rintro e t ⟨rfl, hent⟩
       refine block_here <| tn <| ac_ent hent <| sQ <| rg <| am k k <| ae (w_field_ptr TT_ok k k k k k k k) k <| ae (w_load_ptr TT_ok k k k k k k k) k <| am k k <| ae (w_field_ptr TT_ok k k k k k k k) k ?_
       refine ae (w_load_ptr TT_ok k k k k k k k) k <| ae (x_mul k k) k <| am k k <| ae (x_add k k) k ?_
       obtain ⟨v15, hv15, h⟩ := ob h
       refine ae (x_at_own TT_ok (atL_nn hv15) (atL_lt hv15) k k k k k k k) k <| ae (w_load_ptr TT_ok k k k k (map_at (atL_get hv15)) k k) k ?_
       obtain ⟨v16, hv16, h⟩ := ob h
       refine ae (w_call0s (c_spec_InverseMod a0 v15 v16 hv16) k (va_cons (va_same k) (va_cons (va_same k) va_nil))) k <| aa k k <| an <| tn <| ac_ent (t := mkS [(0, .int a0), (4, .ptr 0 0 0), (6, .ptr 1 0 0), (7, .own 3 0 x1.2.2.1.length), (8, .int x1.2.2.2), (9, .int x1.1), (14, .int v16)] [(0, ⟨3, [[.int 0, .int 0, .nil 1]]⟩), (1, ⟨3, [[.int v1.rows, .int v1.cols, .own 2 0 y14.length]]⟩), (2, ⟨1, List.map (ow eI) y14⟩), (3, ⟨1, List.map (ow eI) x1.2.2.1⟩)] 4 [4, 5, 6, 7]) (ent_mk (σ := sg [(0, 0), (1, 1), (2, 2), (3, 3)]) ⟨(e1 k k), (pE k k), (pE k k), (oE k k), (e1 k k), (e1 k k), (e1 k k), trivial⟩ (hP k k k k <| hX ⟨_, k, k, .inr ⟨_, _, k, ⟨_, _, k, k, ⟨_, _, k, k, ⟨_, _, k, ⟨k, k, k, k⟩, k⟩⟩⟩, k⟩⟩ k <| hI k k k <| hI k k k <| trivial) k) <| sQ <| sQ <| rg <| aa k k <| an ?_
       refine tn <| ac_block ?_
       obtain ⟨y21, hy21, h⟩ := ob h
       refine ac_Lp (body := (m_spec_l4Reduce_L4 a0 v1 v16 x1)) hy21 (fun (x4 : ((List Int) × Int)) => mkS [(0, .int a0), (4, .ptr 0 0 0), (6, .ptr 1 0 0), (7, .own 3 0 x1.2.2.1.length), (8, .int x1.2.2.2), (9, .int x1.1), (14, .int v16), (15, .int x4.2)] [(0, ⟨3, [[.int 0, .int 0, .nil 1]]⟩), (1, ⟨3, [[.int v1.rows, .int v1.cols, .own 2 0 x4.1.length]]⟩), (2, ⟨1, List.map (ow eI) x4.1⟩), (3, ⟨1, List.map (ow eI) x1.2.2.1⟩)] 4 [4, 5, 6, 7]) (fun r e t => e = .exit 6 ∧ Ent t (mkS [(0, .int a0), (4, .ptr 0 0 0), (6, .ptr 1 0 0), (7, .own 3 0 x1.2.2.1.length), (8, .int x1.2.2.2), (9, .int x1.1)] [(0, ⟨3, [[.int 0, .int 0, .nil 1]]⟩), (1, ⟨3, [[.int v1.rows, .int v1.cols, .own 2 0 r.length]]⟩), (2, ⟨1, List.map (ow eI) r⟩), (3, ⟨1, List.map (ow eI) x1.2.2.1⟩)] 4 [4, 5, 6, 7])) (ent_mk (σ := sg [(0, 0), (1, 1), (2, 2), (3, 3)]) ⟨(e1 k k), (pE k k), (pE k k), (oE k k), (e1 k k), (e1 k k), (e1 k k), (e1 k k), trivial⟩ (hP k k k k <| hX ⟨_, k, k, .inr ⟨_, _, k, ⟨_, _, k, k, ⟨_, _, k, k, ⟨_, _, k, ⟨k, k, k, k⟩, k⟩⟩⟩, k⟩⟩ k <| hI k k k <| hI k k k <| trivial) k) ?_ ?_
       ·intro x4 o h
        refine sQ <| sQ <| rg <| am k k <| ae (w_field_ptr TT_ok k k k k k k k) k <| ae (w_load_ptr TT_ok k k k k k k k) k <| ae (w_cmp k k k) k <| an <| tn ?_
        rcases cb h with ⟨q17, h⟩ | ⟨q17, h⟩
        ·refine ac_condT k q17 <| ac_skip <| tn <| sQ <| ac_block <| ac_region_draw MIXX <| ae (w_field_ptr TT_ok k k k k k k k) k <| ae (w_load_ptr TT_ok k k k k k k k) k <| am k k <| ae (w_field_ptr TT_ok k k k k k k k) k ?_
         refine ae (w_load_ptr TT_ok k k k k k k k) k <| ae (x_mul k k) k <| am k k <| ae (x_add k k) k <| am k k <| am k k <| ae (w_field_ptr TT_ok k k k k k k k) k <| ae (w_load_ptr TT_ok k k k k k k k) k <| am k k <| ae (w_field_ptr TT_ok k k k k k k k) k ?_
         refine ae (w_load_ptr TT_ok k k k k k k k) k <| ae (x_mul k k) k <| am k k <| ae (x_add k k) k ?_
         obtain ⟨v18, hv18, h⟩ := ob h
         refine ae (x_at_own TT_ok (atL_nn hv18) (atL_lt hv18) k k k k k k k) k <| ae (w_load_ptr TT_ok k k k k (map_at (atL_get hv18)) k k) k <| ae (x_mul k k) k ?_
         obtain ⟨v19, hv19, h⟩ := ob h
         refine ae (w_call0s (c_spec_l2Mod a0 (wr (v16 * v18)) v19 hv19) k (va_cons (va_same k) (va_cons (va_same k) va_nil))) k ?_
         obtain ⟨v20, hv20, h⟩ := ob h
         refine ae (x_at_own TT_ok (atL_nn hv20) (atL_lt hv20) k k k k k k k) k <| ae (x_store TT_ok okIo (u := v19) (atL_get hv20) k k k k k k) k <| an ?_
         refine ⟨by kernel_rfl, ?_⟩
         refine block_n <| tn <| ac_ent (t := mkS [(0, .int a0), (4, .ptr 0 0 0), (6, .ptr 1 0 0), (7, .own 3 0 x1.2.2.1.length), (8, .int x1.2.2.2), (9, .int x1.1), (14, .int v16), (15, .int x4.2)] [(0, ⟨3, [[.int 0, .int 0, .nil 1]]⟩), (1, ⟨3, [[.int v1.rows, .int v1.cols, .own 2 0 ((x4.1.set ((wr ((wr (x1.2.2.2 * v1.cols)) + x4.2)).toNat) v19).length)]]⟩), (2, ⟨1, List.map (ow eI) (x4.1.set ((wr ((wr (x1.2.2.2 * v1.cols)) + x4.2)).toNat) v19)⟩), (3, ⟨1, List.map (ow eI) x1.2.2.1⟩)] 4 [4, 5, 6, 7]) (ent_mk (σ := sg [(0, 0), (1, 1), (2, 2), (3, 3)]) ⟨(e1 k k), (pE k k), (pE k k), (oE k k), (e1 k k), (e1 k k), (e1 k k), (e1 k k), trivial⟩ (hP k k k k <| hX ⟨_, k, k, .inr ⟨_, _, k, ⟨_, _, k, k, ⟨_, _, k, k, ⟨_, _, k, ⟨k, k, (by simp only [len_map, lA, lT, lR, lC, lN]), k⟩, k⟩⟩⟩, k⟩⟩ k <| hI k k k <| hI k k k <| trivial) k) <| rg <| am k k <| ae (x_add k k) k <| aa k k <| an <| tn ?_
         obtain rfl := so h
         exact ⟨_, k, (ent_mk (σ := sg [(0, 0), (1, 1), (2, 2), (3, 3)]) ⟨(e1 k k), (pE k k), (pE k k), (oE k k), (e1 k k), (e1 k k), (e1 k k), (e1 k k), trivial⟩ (hP k k k k <| hX ⟨_, k, k, .inr ⟨_, _, k, ⟨_, _, k, k, ⟨_, _, k, k, ⟨_, _, k, ⟨k, k, k, k⟩, k⟩⟩⟩, k⟩⟩ k <| hI k k k <| hI k k k <| trivial) k)⟩
        ·refine ac_condF k q17 <| ac_exit <| then_exit <| then_exit ?_
         obtain rfl := so h
         exact ⟨_, k, k, (ent_mk (σ := sg [(0, 0), (1, 1), (2, 2), (3, 3)]) ⟨(e1 k k), (pE k k), (pE k k), (oE k k), (e1 k k), (e1 k k), trivial⟩ (hP k k k k <| hX ⟨_, k, k, .inr ⟨_, _, k, ⟨_, _, k, k, ⟨_, _, k, k, ⟨_, _, k, ⟨k, k, k, k⟩, k⟩⟩⟩, k⟩⟩ k <| hI k k k <| hI k k k <| trivial) k)⟩
       ·rintro e t ⟨rfl, hent⟩
        refine block_here <| tn <| ac_ent hent <| sQ <| sQ <| rg <| aa k k <| an <| tn <| ac_block ?_
        obtain ⟨y31, hy31, h⟩ := ob h
        refine ac_Lp (body := (m_spec_l4Reduce_L5 a0 v1 x1)) hy31 (fun (x5 : ((List Int) × Int)) => mkS [(0, .int a0), (4, .ptr 0 0 0), (6, .ptr 1 0 0), (7, .own 3 0 x1.2.2.1.length), (8, .int x1.2.2.2), (9, .int x1.1), (16, .int x5.2)] [(0, ⟨3, [[.int 0, .int 0, .nil 1]]⟩), (1, ⟨3, [[.int v1.rows, .int v1.cols, .own 2 0 x5.1.length]]⟩), (2, ⟨1, List.map (ow eI) x5.1⟩), (3, ⟨1, List.map (ow eI) x1.2.2.1⟩)] 4 [4, 5, 6, 7]) (fun r e t => e = .exit 8 ∧ Ent t (mkS [(0, .int a0), (4, .ptr 0 0 0), (6, .ptr 1 0 0), (7, .own 3 0 x1.2.2.1.length), (8, .int x1.2.2.2), (9, .int x1.1)] [(0, ⟨3, [[.int 0, .int 0, .nil 1]]⟩), (1, ⟨3, [[.int v1.rows, .int v1.cols, .own 2 0 r.length]]⟩), (2, ⟨1, List.map (ow eI) r⟩), (3, ⟨1, List.map (ow eI) x1.2.2.1⟩)] 4 [4, 5, 6, 7])) (ent_mk (σ := sg [(0, 0), (1, 1), (2, 2), (3, 3)]) ⟨(e1 k k), (pE k k), (pE k k), (oE k k), (e1 k k), (e1 k k), (e1 k k), trivial⟩ (hP k k k k <| hX ⟨_, k, k, .inr ⟨_, _, k, ⟨_, _, k, k, ⟨_, _, k, k, ⟨_, _, k, ⟨k, k, k, k⟩, k⟩⟩⟩, k⟩⟩ k <| hI k k k <| hI k k k <| trivial) k) ?_ ?_
        ·intro x5 o h
         refine sQ <| sQ <| rg <| am k k <| ae (w_field_ptr TT_ok k k k k k k k) k <| ae (w_load_ptr TT_ok k k k k k k k) k <| ae (w_cmp k k k) k <| an <| tn ?_
         rcases cb h with ⟨q22, h⟩ | ⟨q22, h⟩
         ·refine ac_condT k q22 <| ac_skip <| tn <| sQ <| ac_block <| sQ <| rg <| ae (w_field_ptr TT_ok k k k k k k k) k <| ae (w_load_ptr TT_ok k k k k k k k) k <| am k k ?_
          refine ae (w_field_ptr TT_ok k k k k k k k) k <| ae (w_load_ptr TT_ok k k k k k k k) k <| ae (x_mul k k) k <| am k k <| ae (x_add k k) k ?_
          obtain ⟨v23, hv23, h⟩ := ob h
          refine ae (x_at_own TT_ok (atL_nn hv23) (atL_lt hv23) k k k k k k k) k <| ae (w_load_ptr TT_ok k k k k (map_at (atL_get hv23)) k k) k <| aa k k <| an <| tn <| ac_ent (t := mkS [(0, .int a0), (4, .ptr 0 0 0), (6, .ptr 1 0 0), (7, .own 3 0 x1.2.2.1.length), (8, .int x1.2.2.2), (9, .int x1.1), (16, .int x5.2), (17, .int v23)] [(0, ⟨3, [[.int 0, .int 0, .nil 1]]⟩), (1, ⟨3, [[.int v1.rows, .int v1.cols, .own 2 0 x5.1.length]]⟩), (2, ⟨1, List.map (ow eI) x5.1⟩), (3, ⟨1, List.map (ow eI) x1.2.2.1⟩)] 4 [4, 5, 6, 7]) (ent_mk (σ := sg [(0, 0), (1, 1), (2, 2), (3, 3)]) ⟨(e1 k k), (pE k k), (pE k k), (oE k k), (e1 k k), (e1 k k), (e1 k k), (e1 k k), trivial⟩ (hP k k k k <| hX ⟨_, k, k, .inr ⟨_, _, k, ⟨_, _, k, k, ⟨_, _, k, k, ⟨_, _, k, ⟨k, k, k, k⟩, k⟩⟩⟩, k⟩⟩ k <| hI k k k <| hI k k k <| trivial) k) <| sQ <| rg <| aa k k <| an ?_
          refine tn <| ac_block ?_
          obtain ⟨y30, hy30, h⟩ := ob h
          refine ac_Lp (body := (m_spec_l4Reduce_L6 a0 v1 v23 x1 x5)) hy30 (fun (x6 : ((List Int) × Int)) => mkS [(0, .int a0), (4, .ptr 0 0 0), (6, .ptr 1 0 0), (7, .own 3 0 x1.2.2.1.length), (8, .int x1.2.2.2), (9, .int x1.1), (16, .int x5.2), (17, .int v23), (18, .int x6.2)] [(0, ⟨3, [[.int 0, .int 0, .nil 1]]⟩), (1, ⟨3, [[.int v1.rows, .int v1.cols, .own 2 0 x6.1.length]]⟩), (2, ⟨1, List.map (ow eI) x6.1⟩), (3, ⟨1, List.map (ow eI) x1.2.2.1⟩)] 4 [4, 5, 6, 7]) (fun r e t => e = .exit 10 ∧ Ent t (mkS [(0, .int a0), (4, .ptr 0 0 0), (6, .ptr 1 0 0), (7, .own 3 0 x1.2.2.1.length), (8, .int x1.2.2.2), (9, .int x1.1), (16, .int x5.2)] [(0, ⟨3, [[.int 0, .int 0, .nil 1]]⟩), (1, ⟨3, [[.int v1.rows, .int v1.cols, .own 2 0 r.length]]⟩), (2, ⟨1, List.map (ow eI) r⟩), (3, ⟨1, List.map (ow eI) x1.2.2.1⟩)] 4 [4, 5, 6, 7])) (ent_mk (σ := sg [(0, 0), (1, 1), (2, 2), (3, 3)]) ⟨(e1 k k), (pE k k), (pE k k), (oE k k), (e1 k k), (e1 k k), (e1 k k), (e1 k k), (e1 k k), trivial⟩ (hP k k k k <| hX ⟨_, k, k, .inr ⟨_, _, k, ⟨_, _, k, k, ⟨_, _, k, k, ⟨_, _, k, ⟨k, k, k, k⟩, k⟩⟩⟩, k⟩⟩ k <| hI k k k <| hI k k k <| trivial) k) ?_ ?_
          ·intro x6 o h
           refine sQ <| sQ <| rg <| am k k <| ae (w_field_ptr TT_ok k k k k k k k) k <| ae (w_load_ptr TT_ok k k k k k k k) k <| ae (w_cmp k k k) k <| am k k ?_
           rcases cb h with ⟨q24, h⟩ | ⟨q24, h⟩
           ·refine aops_lit 162 k q24 <| am k k <| am k k <| ae (w_cmp k k k) k <| ae (eff_pick k k) k <| an <| tn ?_
            rcases cb h with ⟨q25, h⟩ | ⟨q25, h⟩
            ·refine ac_condT k q25 <| ac_skip <| tn <| sQ <| ac_block <| ac_region_draw MIXX <| ae (w_field_ptr TT_ok k k k k k k k) k <| ae (w_load_ptr TT_ok k k k k k k k) k <| am k k <| ae (w_field_ptr TT_ok k k k k k k k) k ?_
             refine ae (w_load_ptr TT_ok k k k k k k k) k <| ae (x_mul k k) k <| am k k <| ae (x_add k k) k <| am k k <| ae (w_field_ptr TT_ok k k k k k k k) k <| ae (w_load_ptr TT_ok k k k k k k k) k <| am k k <| ae (w_field_ptr TT_ok k k k k k k k) k <| ae (w_load_ptr TT_ok k k k k k k k) k ?_
             refine ae (x_mul k k) k <| am k k <| ae (x_add k k) k ?_
             obtain ⟨v26, hv26, h⟩ := ob h
             refine ae (x_at_own TT_ok (atL_nn hv26) (atL_lt hv26) k k k k k k k) k <| ae (w_load_ptr TT_ok k k k k (map_at (atL_get hv26)) k k) k <| am k k <| ae (w_field_ptr TT_ok k k k k k k k) k <| ae (w_load_ptr TT_ok k k k k k k k) k <| am k k <| ae (w_field_ptr TT_ok k k k k k k k) k <| ae (w_load_ptr TT_ok k k k k k k k) k <| ae (x_mul k k) k <| am k k ?_
             refine ae (x_add k k) k ?_
             obtain ⟨v27, hv27, h⟩ := ob h
             refine ae (x_at_own TT_ok (atL_nn hv27) (atL_lt hv27) k k k k k k k) k <| ae (w_load_ptr TT_ok k k k k (map_at (atL_get hv27)) k k) k <| ae (x_mul k k) k <| ae (x_sub k k) k ?_
             obtain ⟨v28, hv28, h⟩ := ob h
             refine ae (w_call0s (c_spec_l2Mod a0 (wr (v26 - (wr (v23 * v27)))) v28 hv28) k (va_cons (va_same k) (va_cons (va_same k) va_nil))) k ?_
             obtain ⟨v29, hv29, h⟩ := ob h
             refine ae (x_at_own TT_ok (atL_nn hv29) (atL_lt hv29) k k k k k k k) k <| ae (x_store TT_ok okIo (u := v28) (atL_get hv29) k k k k k k) k <| an ?_
             refine ⟨by kernel_rfl, ?_⟩
             refine block_n <| tn <| ac_ent (t := mkS [(0, .int a0), (4, .ptr 0 0 0), (6, .ptr 1 0 0), (7, .own 3 0 x1.2.2.1.length), (8, .int x1.2.2.2), (9, .int x1.1), (16, .int x5.2), (17, .int v23), (18, .int x6.2)] [(0, ⟨3, [[.int 0, .int 0, .nil 1]]⟩), (1, ⟨3, [[.int v1.rows, .int v1.cols, .own 2 0 ((x6.1.set ((wr ((wr (x5.2 * v1.cols)) + x6.2)).toNat) v28).length)]]⟩), (2, ⟨1, List.map (ow eI) (x6.1.set ((wr ((wr (x5.2 * v1.cols)) + x6.2)).toNat) v28)⟩), (3, ⟨1, List.map (ow eI) x1.2.2.1⟩)] 4 [4, 5, 6, 7]) (ent_mk (σ := sg [(0, 0), (1, 1), (2, 2), (3, 3)]) ⟨(e1 k k), (pE k k), (pE k k), (oE k k), (e1 k k), (e1 k k), (e1 k k), (e1 k k), (e1 k k), trivial⟩ (hP k k k k <| hX ⟨_, k, k, .inr ⟨_, _, k, ⟨_, _, k, k, ⟨_, _, k, k, ⟨_, _, k, ⟨k, k, (by simp only [len_map, lA, lT, lR, lC, lN]), k⟩, k⟩⟩⟩, k⟩⟩ k <| hI k k k <| hI k k k <| trivial) k) <| rg <| am k k <| ae (x_add k k) k <| aa k k <| an <| tn ?_
             obtain rfl := so h
             exact ⟨_, k, (ent_mk (σ := sg [(0, 0), (1, 1), (2, 2), (3, 3)]) ⟨(e1 k k), (pE k k), (pE k k), (oE k k), (e1 k k), (e1 k k), (e1 k k), (e1 k k), (e1 k k), trivial⟩ (hP k k k k <| hX ⟨_, k, k, .inr ⟨_, _, k, ⟨_, _, k, k, ⟨_, _, k, k, ⟨_, _, k, ⟨k, k, k, k⟩, k⟩⟩⟩, k⟩⟩ k <| hI k k k <| hI k k k <| trivial) k)⟩
            ·refine ac_condF k q25 <| ac_exit <| then_exit <| then_exit ?_
             obtain rfl := so h
             exact ⟨_, k, k, (ent_mk (σ := sg [(0, 0), (1, 1), (2, 2), (3, 3)]) ⟨(e1 k k), (pE k k), (pE k k), (oE k k), (e1 k k), (e1 k k), (e1 k k), trivial⟩ (hP k k k k <| hX ⟨_, k, k, .inr ⟨_, _, k, ⟨_, _, k, k, ⟨_, _, k, k, ⟨_, _, k, ⟨k, k, k, k⟩, k⟩⟩⟩, k⟩⟩ k <| hI k k k <| hI k k k <| trivial) k)⟩
           ·refine aops_lit 162 k q24 <| ak k k <| ak k k <| ak k k <| ae (eff_pick k k) k <| an <| tn <| ac_condF k k <| ac_exit <| then_exit ?_
            refine then_exit ?_
            obtain rfl := so h
            exact ⟨_, k, k, (ent_mk (σ := sg [(0, 0), (1, 1), (2, 2), (3, 3)]) ⟨(e1 k k), (pE k k), (pE k k), (oE k k), (e1 k k), (e1 k k), (e1 k k), trivial⟩ (hP k k k k <| hX ⟨_, k, k, .inr ⟨_, _, k, ⟨_, _, k, k, ⟨_, _, k, k, ⟨_, _, k, ⟨k, k, k, k⟩, k⟩⟩⟩, k⟩⟩ k <| hI k k k <| hI k k k <| trivial) k)⟩
          ·rintro e t ⟨rfl, hent⟩
           refine block_here <| block_n <| tn <| ac_ent hent <| rg <| am k k <| ae (x_add k k) k <| aa k k <| an <| tn ?_
           obtain rfl := so h
           exact ⟨_, k, (ent_mk (σ := sg [(0, 0), (1, 1), (2, 2), (3, 3)]) ⟨(e1 k k), (pE k k), (pE k k), (oE k k), (e1 k k), (e1 k k), (e1 k k), trivial⟩ (hP k k k k <| hX ⟨_, k, k, .inr ⟨_, _, k, ⟨_, _, k, k, ⟨_, _, k, k, ⟨_, _, k, ⟨k, k, k, k⟩, k⟩⟩⟩, k⟩⟩ k <| hI k k k <| hI k k k <| trivial) k)⟩
         ·refine ac_condF k q22 <| ac_exit <| then_exit <| then_exit ?_
          obtain rfl := so h
          exact ⟨_, k, k, (ent_mk (σ := sg [(0, 0), (1, 1), (2, 2), (3, 3)]) ⟨(e1 k k), (pE k k), (pE k k), (oE k k), (e1 k k), (e1 k k), trivial⟩ (hP k k k k <| hX ⟨_, k, k, .inr ⟨_, _, k, ⟨_, _, k, k, ⟨_, _, k, k, ⟨_, _, k, ⟨k, k, k, k⟩, k⟩⟩⟩, k⟩⟩ k <| hI k k k <| hI k k k <| trivial) k)⟩
        ·rintro e t ⟨rfl, hent⟩
         refine block_here <| tn <| ac_ent hent <| sQ <| rg <| am k k <| am k k <| ae (w_lit TT_ok k k k k k k k k k k k k) k ?_
         obtain ⟨q32, h⟩ := cg h
         refine ae (x_app TT_ok (l := x1.2.2.1) (m := [x1.1]) okIo q32 k k k k k k k k k k k k) k <| aa k k <| an <| tn <| rg <| am k k <| ae (x_add k k) k <| aa k k <| an <| block_n ?_
         refine tn <| rg <| am k k <| ae (x_add k k) k <| aa k k <| an <| tn ?_
         obtain rfl := so h
         exact ⟨_, k, (ent_mk (σ := sg [(0, 0), (1, 1), (2, 2), (3, 5)]) ⟨(e1 k k), (pE k k), (pE k k), (oE k k), (e1 k k), (e1 k k), trivial⟩ (hP k k k k <| hX ⟨_, k, k, .inr ⟨_, _, k, ⟨_, _, k, k, ⟨_, _, k, k, ⟨_, _, k, ⟨k, k, k, k⟩, k⟩⟩⟩, k⟩⟩ k <| hI k k k <| hI k k k <| trivial) k)⟩
   ·refine ac_condF k q3 <| ac_exit <| then_exit <| then_exit ?_
    obtain rfl := so h
    exact ⟨_, k, k, (ent_mk (σ := sg [(0, 0), (1, 1), (2, 2), (3, 3)]) ⟨(pE k k), (pE k k), (oE k k), trivial⟩ (hP k k k k <| hX ⟨_, k, k, .inr ⟨_, _, k, ⟨_, _, k, k, ⟨_, _, k, k, ⟨_, _, k, ⟨k, k, k, k⟩, k⟩⟩⟩, k⟩⟩ k <| hI k k k <| hI k k k <| trivial) k)⟩
  ·refine aops_lit 26 k q2 <| ak k k <| ak k k <| ak k k <| ak k k <| ae (eff_pick k k) k <| an <| tn <| ac_condF k k <| ac_exit ?_
   refine then_exit <| then_exit ?_
   obtain rfl := so h
   exact ⟨_, k, k, (ent_mk (σ := sg [(0, 0), (1, 1), (2, 2), (3, 3)]) ⟨(pE k k), (pE k k), (oE k k), trivial⟩ (hP k k k k <| hX ⟨_, k, k, .inr ⟨_, _, k, ⟨_, _, k, k, ⟨_, _, k, k, ⟨_, _, k, ⟨k, k, k, k⟩, k⟩⟩⟩, k⟩⟩ k <| hI k k k <| hI k k k <| trivial) k)⟩
 ·rintro e t ⟨rfl, hent⟩
  refine block_here <| tn <| ac_ent hent <| sQ <| rg <| ae (w_load_ptr TT_ok k k k k k k k) k <| am k k <| ae (w_store TT_ok k k k k k k k k) k <| aa k k <| an ?_
  refine tn <| ac_ret ?_
  obtain rfl := so h
  exact ret_mk k k k (xz_tuple k (xB_cons (xB_agg (x1_cons (k) (x1_cons (k) (x1_cons (x_f1 okI k k) x1_nil)))) (xB_cons (xB_one (x_f1 okI k k)) xB_nil)))

noncomputable def m_spec_RowReduce (a0 : Int) (a1 : Mt) : Option (Mt × (List Int) × Bool) :=
  Option.bind (m_spec_IsMatrix a0 a1) fun v1 =>
  bif !v1 then
    (some (((⟨0, 0, []⟩ : Mt), ([] : (List Int)), false)))
  else
    (Option.bind (m_spec_l4Reduce a0 a1) fun v3 =>
    some ((v3.1, v3.2, true)))

theorem c_spec_RowReduce (a0 : Int) (a1 : Mt) (r : (Mt × (List Int) × Bool)) (h : m_spec_RowReduce a0 a1 = some r) : HasC Try.prog 131 [.int a0, .agg (eM a1)] (.tuple [.agg (eM r.1), .list 1 (List.map eI r.2.1), .bl r.2.2]) := by
 refine hasC_mk TT_ok (rvs := [.cell 4 82, .tmp 5, .tmp 6]) (ns := [0, 1, 2, 3, 4, 5, 6]) Try.func131 k k Try.ntmps131 k k k <| sQ <| rg <| ae (w_box k k k k) k <| ae (w_alloc TT_ok k k) k <| aa k k <| aa k k <| an <| tn <| sQ ?_
 refine sQ <| rg <| am k k <| ae (w_load_ptr TT_ok k k k k k k k) k ?_
 obtain ⟨v1, hv1, h⟩ := ob h
 refine ae (w_call0s (c_spec_IsMatrix a0 a1 v1 hv1) k (va_cons (va_same k) (va_cons (va_agg' (v1_cons (v1_same k) (v1_cons (v1_same k) (v1_cons (v1_same k) v1_nil)))) va_nil))) k <| ae (w_not k) k <| an <| tn ?_
 rcases cb h with ⟨q2, h⟩ | ⟨q2, h⟩
 ·refine ac_condT k q2 <| sQ <| rg <| ae (w_build TT_ok k k k k k k) k <| ae (w_lit TT_ok k k k k k k k k k k k k) k <| ae (w_store TT_ok k k k k k k k k) k <| aa k k <| aa k k <| an <| tn ?_
  refine ac_ent (t := mkS [(4, .ptr 1 0 0), (5, .own 2 0 (([] : (List Int)).length)), (6, .bl false)] [(1, ⟨3, [[.int 0, .int 0, .nil 1]]⟩), (2, ⟨1, List.map (ow eI) ([] : (List Int))⟩)] 3 [3, 4, 5, 6]) (ent_mk (σ := sg [(1, 1), (2, 2)]) ⟨(pE k k), ⟨_, k, ⟨k, k, (by simp only [len_map, lA, lT, lR, lC, lN]), k⟩⟩, (e1 k k), trivial⟩ (hP k k k k <| hI k k k <| trivial) k) <| ac_ret <| then_ret ?_
  obtain rfl := so h
  exact ret_mk k k k (xz_tuple k (xB_cons (xB_agg (x1_cons (k) (x1_cons (k) (x1_cons (k) x1_nil)))) (xB_cons (xB_one (x_f1 okI k k)) (xB_cons (k) xB_nil))))
 ·refine ac_condF k q2 <| ac_skip <| tn <| sQ <| rg <| am k k <| ae (w_load_ptr TT_ok k k k k k k k) k ?_
  obtain ⟨v3, hv3, h⟩ := ob h
  refine ae (AEff.conv (w_call0 (x := .tuple [.agg [.int v3.1.rows, .int v3.1.cols, .own 2 0 (List.map eI v3.1.cells).length], .own 3 0 (List.map eI v3.2).length]) (nb := [(2, ⟨1, absEs (List.map eI v3.1.cells)⟩), (3, ⟨1, absEs (List.map eI v3.2)⟩)]) (c_spec_l4Reduce a0 a1 v3 hv3) k (by rfl) k k (gB_cons (g1_cons trivial (g1_cons trivial (g1_cons (okI.good _) g1_nil))) (gB_cons (okI.good _) gB_nil)) (va_cons (va_same k) (va_cons (va_agg' (v1_cons (v1_same k) (v1_cons (v1_same k) (v1_cons (v1_same k) v1_nil)))) va_nil))) (v' := .tuple [.agg [.int v3.1.rows, .int v3.1.cols, .own 2 0 v3.1.cells.length], .own 3 0 v3.2.length]) (ed' := [(2, some ⟨1, List.map (ow eI) v3.1.cells⟩), (3, some ⟨1, List.map (ow eI) v3.2⟩)]) (by simp only [len_map]) (ed_ok (nb' := [(2, ⟨1, List.map (ow eI) v3.1.cells⟩), (3, ⟨1, List.map (ow eI) v3.2⟩)]) (by simp only [abs_map]))) k <| am k k <| ae (eff_extract k k (by intro _ h; cases h)) k <| ae (eff_extract k k (by intro _ h; cases h)) k <| ae (w_alloc TT_ok k k) k <| ae (w_store TT_ok k k k k k k k k) k <| aa k k <| an <| tn <| ac_ent (t := mkS [(4, .ptr 1 0 0), (7, .ptr 4 0 0), (8, .own 3 0 v3.2.length)] [(1, ⟨3, [[.int 0, .int 0, .nil 1]]⟩), (2, ⟨1, List.map (ow eI) v3.1.cells⟩), (3, ⟨1, List.map (ow eI) v3.2⟩), (4, ⟨3, [[.int v3.1.rows, .int v3.1.cols, .own 2 0 v3.1.cells.length]]⟩)] 5 [5, 6]) (ent_mk (σ := sg [(1, 1), (2, 2), (3, 3), (4, 4)]) ⟨(pE k k), (pE k k), (oE k k), trivial⟩ (hP k k k k <| hI k k k <| hI k k k <| hX ⟨_, k, k, .inr ⟨_, _, k, ⟨_, _, k, k, ⟨_, _, k, k, ⟨_, _, k, ⟨k, k, k, k⟩, k⟩⟩⟩, k⟩⟩ k <| trivial) k) ?_
  refine sQ <| rg <| ae (w_load_ptr TT_ok k k k k k k k) k <| am k k <| ae (w_store TT_ok k k k k k k k k) k <| aa k k <| aa k k <| an <| tn <| ac_ret ?_
  obtain rfl := so h
  exact ret_mk k k k (xz_tuple k (xB_cons (xB_agg (x1_cons (k) (x1_cons (k) (x1_cons (x_f1 okI k k) x1_nil)))) (xB_cons (xB_one (x_f1 okI k k)) (xB_cons (k) xB_nil))))

noncomputable def m_spec_RankOf (a0 : Int) (a1 : Mt) : Option Int :=
  Option.bind (m_spec_RowReduce a0 a1) fun v1 =>
  bif !v1.2.2 then
    (some ((-1)))
  else
    (some (((v1.2.1.length : Nat) : Int)))

theorem c_spec_RankOf (a0 : Int) (a1 : Mt) (r : Int) (h : m_spec_RankOf a0 a1 = some r) : HasC Try.prog 98 [.int a0, .agg (eM a1)] (.int r) := by
 refine hasC_mk TT_ok (rvs := [.tmp 4]) (ns := [0, 1, 2, 3, 4, 5]) Try.func98 k k Try.ntmps98 k k k <| sQ <| rg <| ae (w_box k k k k) k <| aa k k <| an <| tn <| sQ <| rg <| am k k ?_
 refine ae (w_load_ptr TT_ok k k k k k k k) k ?_
 obtain ⟨v1, hv1, h⟩ := ob h
 refine ae (AEff.conv (w_call0 (x := .tuple [.agg [.int v1.1.rows, .int v1.1.cols, .own 1 0 (List.map eI v1.1.cells).length], .own 2 0 (List.map eI v1.2.1).length, .bl v1.2.2]) (nb := [(1, ⟨1, absEs (List.map eI v1.1.cells)⟩), (2, ⟨1, absEs (List.map eI v1.2.1)⟩)]) (c_spec_RowReduce a0 a1 v1 hv1) k (by rfl) k k (gB_cons (g1_cons trivial (g1_cons trivial (g1_cons (okI.good _) g1_nil))) (gB_cons (okI.good _) (gB_cons trivial gB_nil))) (va_cons (va_same k) (va_cons (va_agg' (v1_cons (v1_same k) (v1_cons (v1_same k) (v1_cons (v1_same k) v1_nil)))) va_nil))) (v' := .tuple [.agg [.int v1.1.rows, .int v1.1.cols, .own 1 0 v1.1.cells.length], .own 2 0 v1.2.1.length, .bl v1.2.2]) (ed' := [(1, some ⟨1, List.map (ow eI) v1.1.cells⟩), (2, some ⟨1, List.map (ow eI) v1.2.1⟩)]) (by simp only [len_map]) (ed_ok (nb' := [(1, ⟨1, List.map (ow eI) v1.1.cells⟩), (2, ⟨1, List.map (ow eI) v1.2.1⟩)]) (by simp only [abs_map]))) k <| am k k <| ae (eff_extract k k (by intro _ h; cases h)) k <| ae (eff_extract k k (by intro _ h; cases h)) k <| ae (eff_extract k k (by intro _ h; cases h)) k <| ae (w_alloc TT_ok k k) k <| ae (w_store TT_ok k k k k k k k k) k <| aa k k <| aa k k <| an ?_
 refine tn <| ac_ent (t := mkS [(6, .own 2 0 v1.2.1.length), (7, .bl v1.2.2)] [(2, ⟨1, List.map (ow eI) v1.2.1⟩)] 4 [4, 5]) (ent_mk (σ := sg [(2, 2)]) ⟨(oE k k), (e1 k k), trivial⟩ (hI k k k <| trivial) k) <| sQ <| sQ <| rg <| am k k <| ae (w_not k) k <| an <| tn ?_
 rcases cb h with ⟨q2, h⟩ | ⟨q2, h⟩
 ·refine ac_condT k q2 <| sQ <| rg <| aa k k <| an <| tn <| ac_ret <| then_ret ?_
  obtain rfl := so h
  exact ret_mk k k k (fz_int k)
 ·refine ac_condF k q2 <| ac_skip <| tn <| sQ <| rg <| am k k <| ae (w_len_own TT_ok k k k k) k <| aa k k <| an <| tn ?_
  refine ac_ret ?_
  obtain rfl := so h
  exact ret_mk k k k (fz_int k)

noncomputable def m_impl_ReduceMod (a0 : Int) (a1 : Int) : Option Int :=
  Option.bind (m_impl_IsField a0) fun v1 =>
  bif !v1 then
    (some (0))
  else
    (bif !decide (a0 = 0) then
      (bif !decide (a0 = 0) then
        (some ((wr ((a1.tmod a0) + a0)).tmod a0))
      else none)
    else none)

theorem c_impl_ReduceMod (a0 : Int) (a1 : Int) (r : Int) (h : m_impl_ReduceMod a0 a1 = some r) : HasC Try.prog 182 [.int a0, .int a1] (.int r) := by
 refine hasC_mk TT_ok (rvs := [.tmp 4]) (ns := [0, 1]) Try.func182 k k Try.ntmps182 k k k <| sQ <| rg <| aa k k <| an <| tn <| sQ <| sQ <| rg <| am k k ?_
 obtain ⟨v1, hv1, h⟩ := ob h
 refine ae (w_call0s (c_impl_IsField a0 v1 hv1) k (va_cons (va_same k) va_nil)) k <| ae (w_not k) k <| an <| tn ?_
 rcases cb h with ⟨q2, h⟩ | ⟨q2, h⟩
 ·refine ac_condT k q2 <| sQ <| rg <| aa k k <| an <| tn <| ac_ret <| then_ret ?_
  obtain rfl := so h
  exact ret_mk k k k (fz_int k)
 ·refine ac_condF k q2 <| ac_skip <| tn <| sQ <| rg <| am k k <| am k k ?_
  obtain ⟨q4, h⟩ := cg h
  refine ae (x_rem k k q4) k <| am k k <| ae (x_add k k) k <| am k k ?_
  obtain ⟨q3, h⟩ := cg h
  refine ae (x_rem k k q3) k <| aa k k <| an <| tn <| ac_ent (t := mkS [(4, .int ((wr ((a1.tmod a0) + a0)).tmod a0))] [] 0 [0, 1]) (ent_mk (σ := sg []) ⟨(e1 k k), trivial⟩ trivial k) <| ac_ret ?_
  obtain rfl := so h
  exact ret_mk k k k (fz_int k)

noncomputable def m_impl_PowerMod_L1 (a0 : Int) (a1 : Int) (a2 : Int) (x1 : (Int × Int)) : Option ((Int × Int) ⊕ Int) :=
  bif decide (x1.2 < a2) then
    (Option.bind (m_impl_ReduceMod a0 a1) fun v6 =>
    bif !decide (a0 = 0) then
      (some (.inl ((wr (x1.1 * v6)).tmod a0, wr (x1.2 + 1))))
    else none)
  else
    (some (.inr x1.1))

noncomputable def m_impl_PowerMod (a0 : Int) (a1 : Int) (a2 : Int) : Option Int :=
  Option.bind (m_impl_IsField a0) fun v1 =>
  bif !v1 then
    (some (0))
  else
    (Option.bind (m_impl_within a2 0 1000) fun v3 =>
    bif !v3 then
      (some (0))
    else
      (Option.bind (Lp (m_impl_PowerMod_L1 a0 a1 a2) (1, 0)) fun y8 =>
      some (y8)))

theorem c_impl_PowerMod (a0 : Int) (a1 : Int) (a2 : Int) (r : Int) (h : m_impl_PowerMod a0 a1 a2 = some r) : HasC Try.prog 172 [.int a0, .int a1, .int a2] (.int r) := by
 refine hasC_mk TT_ok (rvs := [.tmp 6]) (ns := [0, 1]) Try.func172 k k Try.ntmps172 k k k <| sQ <| rg <| aa k k <| an <| tn <| sQ <| sQ <| rg <| am k k ?_
 obtain ⟨v1, hv1, h⟩ := ob h
 refine ae (w_call0s (c_impl_IsField a0 v1 hv1) k (va_cons (va_same k) va_nil)) k <| ae (w_not k) k <| am k k ?_
 rcases cb h with ⟨q2, h⟩ | ⟨q2, h⟩
 ·refine aops_lit 11 k q2 <| ak k k <| ak k k <| ak k k <| ae (eff_pick k k) k <| an <| tn <| ac_condT k k <| sQ <| rg ?_
  refine aa k k <| an <| tn <| ac_ret <| then_ret ?_
  obtain rfl := so h
  exact ret_mk k k k (fz_int k)
 ·refine aops_lit 11 k q2 <| am k k ?_
  obtain ⟨v3, hv3, h⟩ := ob h
  refine ae (w_call0s (c_impl_within a2 0 1000 v3 hv3) k (va_cons (va_same k) (va_cons (va_same k) (va_cons (va_same k) va_nil)))) k <| ae (w_not k) k <| ae (eff_pick k k) k <| an <| tn ?_
  rcases cb h with ⟨q4, h⟩ | ⟨q4, h⟩
  ·refine ac_condT k q4 <| sQ <| rg <| aa k k <| an <| tn <| ac_ret <| then_ret ?_
   obtain rfl := so h
   exact ret_mk k k k (fz_int k)
  ·refine ac_condF k q4 <| ac_skip <| tn <| sQ <| rg <| aa k k <| an <| tn <| sQ <| sQ ?_
   refine rg <| am k k <| am k k <| an <| tn <| ac_ent (t := mkS [(0, .int a0), (1, .int a1), (7, .int 1), (16, .int a2), (17, .int 0)] [] 0 [0, 1]) (ent_mk (σ := sg []) ⟨(e1 k k), (e1 k k), (e1 k k), (e1 k k), (e1 k k), trivial⟩ trivial k) <| ac_block ?_
   obtain ⟨y8, hy8, h⟩ := ob h
   refine ac_Lp (body := (m_impl_PowerMod_L1 a0 a1 a2)) hy8 (fun (x1 : (Int × Int)) => mkS [(0, .int a0), (1, .int a1), (7, .int x1.1), (16, .int a2), (17, .int x1.2)] [] 0 [0, 1]) (fun r e t => e = .exit 0 ∧ Ent t (mkS [(7, .int r)] [] 0 [0, 1])) (ent_mk (σ := sg []) ⟨(e1 k k), (e1 k k), (e1 k k), (e1 k k), (e1 k k), trivial⟩ trivial k) ?_ ?_
   ·intro x1 o h
    refine sQ <| rg <| ae (w_cmp k k k) k <| an <| tn <| sQ ?_
    rcases cb h with ⟨q5, h⟩ | ⟨q5, h⟩
    ·refine ac_condT k q5 <| ac_skip <| tn <| sQ <| ac_block <| rg <| am k k <| am k k <| am k k ?_
     obtain ⟨v6, hv6, h⟩ := ob h
     refine ae (w_call0s (c_impl_ReduceMod a0 a1 v6 hv6) k (va_cons (va_same k) (va_cons (va_same k) va_nil))) k <| ae (x_mul k k) k <| am k k ?_
     obtain ⟨q7, h⟩ := cg h
     refine ae (x_rem k k q7) k <| aa k k <| an <| block_n <| tn <| rg <| ae (x_add k k) k <| am k k <| an <| tn ?_
     obtain rfl := so h
     exact ⟨_, k, (ent_mk (σ := sg []) ⟨(e1 k k), (e1 k k), (e1 k k), (e1 k k), (e1 k k), trivial⟩ trivial k)⟩
    ·refine ac_condF k q5 <| ac_exit <| then_exit <| then_exit ?_
     obtain rfl := so h
     exact ⟨_, k, k, (ent_mk (σ := sg []) ⟨(e1 k k), trivial⟩ trivial k)⟩
   ·rintro e t ⟨rfl, hent⟩
    refine block_here <| tn <| ac_ent hent <| sQ <| rg <| am k k <| aa k k <| an <| tn <| ac_ret ?_
    obtain rfl := so h
    exact ret_mk k k k (fz_int k)

noncomputable def m_impl_InverseMod (a0 : Int) (a1 : Int) : Option Int :=
  Option.bind (m_impl_IsField a0) fun v1 =>
  bif !v1 then
    (some (0))
  else
    (Option.bind (m_impl_PowerMod a0 a1 (max (wr (a0 - 2)) 1)) fun v3 =>
    some (v3))

theorem c_impl_InverseMod (a0 : Int) (a1 : Int) (r : Int) (h : m_impl_InverseMod a0 a1 = some r) : HasC Try.prog 159 [.int a0, .int a1] (.int r) := by
 refine hasC_mk TT_ok (rvs := [.tmp 4]) (ns := [0, 1]) Try.func159 k k Try.ntmps159 k k k <| sQ <| rg <| aa k k <| an <| tn <| sQ <| sQ <| rg <| am k k ?_
 obtain ⟨v1, hv1, h⟩ := ob h
 refine ae (w_call0s (c_impl_IsField a0 v1 hv1) k (va_cons (va_same k) va_nil)) k <| ae (w_not k) k <| an <| tn ?_
 rcases cb h with ⟨q2, h⟩ | ⟨q2, h⟩
 ·refine ac_condT k q2 <| sQ <| rg <| aa k k <| an <| tn <| ac_ret <| then_ret ?_
  obtain rfl := so h
  exact ret_mk k k k (fz_int k)
 ·refine ac_condF k q2 <| ac_skip <| tn <| sQ <| rg <| am k k <| am k k <| am k k <| ae (x_sub k k) k <| ae (x_max k k) k ?_
  obtain ⟨v3, hv3, h⟩ := ob h
  refine ae (w_call0s (c_impl_PowerMod a0 a1 (max (wr (a0 - 2)) 1) v3 hv3) k (va_cons (va_same k) (va_cons (va_same k) (va_cons (va_same k) va_nil)))) k <| aa k k <| an <| tn <| ac_ret ?_
  obtain rfl := so h
  exact ret_mk k k k (fz_int k)

noncomputable def m_spec_AreDims_L1 (a1 : (List Int)) (x1 : (Int × Int)) : Option ((Int × Int) ⊕ (Int ⊕ Bool)) :=
  bif decide (x1.2 < (a1.length : Int)) then
    (Option.bind (atL a1 x1.2) fun v5 =>
    Option.bind (m_spec_l1In v5 0 4) fun v6 =>
    bif !v6 then
      (some (.inr (.inr (false))))
    else
      (Option.bind (atL a1 x1.2) fun v8 =>
      some (.inl (wr (x1.1 + v8), wr (x1.2 + 1)))))
  else
    (some (.inr (.inl x1.1)))

noncomputable def m_spec_AreDims (a0 : Qv) (a1 : (List Int)) : Option Bool :=
  Option.bind (m_spec_IsQuiver a0) fun v1 =>
  bif !v1 then
    (some (false))
  else
    (bif !decide ((a1.length : Int) = a0.n) then
      (some (false))
    else
      (Option.bind (Lp (m_spec_AreDims_L1 a1) (0, 0)) fun y9 =>
      Sum.elim (fun y10 =>
        some (decide (y10 ≤ 8))
      ) 
      (fun y11 =>
        some y11
      )
       y9))

theorem c_spec_AreDims (a0 : Qv) (a1 : (List Int)) (r : Bool) (h : m_spec_AreDims a0 a1 = some r) : HasC Try.prog 127 [.agg (eQ a0), .list 1 (List.map eI a1)] (.bl r) := by
 refine hasC_mk TT_ok (rvs := [.tmp 4]) (ns := [0, 1, 2]) Try.func127 k k Try.ntmps127 k k k <| sQ <| rg <| ae (w_box k k k k) k <| aa k k <| an <| tn <| sQ <| sQ <| rg ?_
 refine ae (w_load_ptr TT_ok k k k k k k k) k ?_
 obtain ⟨v1, hv1, h⟩ := ob h
 refine ae (w_call0s (c_spec_IsQuiver a0 v1 hv1) k (va_cons (va_agg' (v1_cons (v1_same k) (v1_cons (v1_same k) (v1_cons (v1_same k) v1_nil)))) va_nil)) k <| ae (w_not k) k <| am k k ?_
 rcases cb h with ⟨q2, h⟩ | ⟨q2, h⟩
 ·refine aops_lit 10 k q2 <| ak k k <| ak k k <| ak k k <| ak k k <| ak k k <| ae (eff_pick k k) k <| an <| tn <| ac_ent (t := mkS [(1, .list 1 (List.map eI a1)), (16, .bl true)] [] 1 [1, 2]) (ent_mk (σ := sg []) ⟨⟨_, k, ⟨k, k⟩⟩, (e1 k k), trivial⟩ trivial k) ?_
  refine ac_condT k k <| sQ <| rg <| aa k k <| an <| tn <| ac_ret <| then_ret ?_
  obtain rfl := so h
  exact ret_mk k k k (fz_bl k)
 ·refine aops_lit 10 k q2 <| am k k <| ae (lenL TT_ok k k k) k <| ae (w_field_ptr TT_ok k k k k k k k) k <| ae (w_load_ptr TT_ok k k k k k k k) k <| ae (w_cmp k k k) k <| ae (eff_pick k k) k <| an <| tn <| ac_ent (t := mkS [(1, .list 1 (List.map eI a1)), (16, .bl (!decide ((a1.length : Int) = a0.n)))] [] 1 [1, 2]) (ent_mk (σ := sg []) ⟨⟨_, k, ⟨k, k⟩⟩, (e1 k k), trivial⟩ trivial k) ?_
  rcases cb h with ⟨q3, h⟩ | ⟨q3, h⟩
  ·refine ac_condT k q3 <| sQ <| rg <| aa k k <| an <| tn <| ac_ret <| then_ret ?_
   obtain rfl := so h
   exact ret_mk k k k (fz_bl k)
  ·refine ac_condF k q3 <| ac_skip <| tn <| sQ <| rg <| aa k k <| an <| tn <| sQ <| sQ ?_
   refine rg <| aa k k <| an <| tn <| ac_block ?_
   obtain ⟨y9, hy9, h⟩ := ob h
   refine ac_Lp (body := (m_spec_AreDims_L1 a1)) hy9 (fun (x1 : (Int × Int)) => mkS [(1, .list 1 (List.map eI a1)), (5, .int x1.1), (6, .int x1.2)] [] 0 [0, 1, 2]) (fun r e t => Sum.elim (fun a => (fun r e t => e = .exit 0 ∧ Ent t (mkS [(5, .int r)] [] 0 [0, 1, 2])) a e t) (fun b => (fun r e t => e = .ret ∧ RetQ TT [.tmp 4] (.bl r) .ret t) b e t) r) (ent_mk (σ := sg []) ⟨⟨_, k, ⟨k, k⟩⟩, (e1 k k), (e1 k k), trivial⟩ trivial k) ?_ ?_
   ·intro x1 o h
    refine sQ <| sQ <| rg <| am k k <| am k k <| ae (lenL TT_ok k k k) k <| ae (w_cmp k k k) k <| an <| tn ?_
    rcases cb h with ⟨q4, h⟩ | ⟨q4, h⟩
    ·refine ac_condT k q4 <| ac_skip <| tn <| sQ <| ac_block <| sQ <| sQ <| rg <| am k k <| am k k ?_
     obtain ⟨v5, hv5, h⟩ := ob h
     refine ae (x_at_list TT_ok hv5 k k k k k k) k <| ae (w_load_ref TT_ok k k k k k k) k ?_
     obtain ⟨v6, hv6, h⟩ := ob h
     refine ae (w_call0s (c_spec_l1In v5 0 4 v6 hv6) k (va_cons (va_same k) (va_cons (va_same k) (va_cons (va_same k) va_nil)))) k <| ae (w_not k) k <| an <| tn ?_
     rcases cb h with ⟨q7, h⟩ | ⟨q7, h⟩
     ·refine ac_condT k q7 <| sQ <| rg <| aa k k <| an <| tn <| ac_ret <| then_ret <| block_ret <| then_ret ?_
      refine then_ret ?_
      obtain rfl := so h
      exact ⟨_, k, k, ret_mk k k k (fz_bl k)⟩
     ·refine ac_condF k q7 <| ac_skip <| tn <| rg <| am k k <| am k k <| am k k ?_
      obtain ⟨v8, hv8, h⟩ := ob h
      refine ae (x_at_list TT_ok hv8 k k k k k k) k <| ae (w_load_ref TT_ok k k k k k k) k <| ae (x_add k k) k <| aa k k <| an <| block_n <| tn <| ac_ent (t := mkS [(1, .list 1 (List.map eI a1)), (5, .int (wr (x1.1 + v8))), (6, .int x1.2)] [] 0 [0, 1, 2]) (ent_mk (σ := sg []) ⟨⟨_, k, ⟨k, k⟩⟩, (e1 k k), (e1 k k), trivial⟩ trivial k) <| rg <| am k k ?_
      refine ae (x_add k k) k <| aa k k <| an <| tn ?_
      obtain rfl := so h
      exact ⟨_, k, (ent_mk (σ := sg []) ⟨⟨_, k, ⟨k, k⟩⟩, (e1 k k), (e1 k k), trivial⟩ trivial k)⟩
    ·refine ac_condF k q4 <| ac_exit <| then_exit <| then_exit ?_
     obtain rfl := so h
     exact ⟨_, k, k, (ent_mk (σ := sg []) ⟨(e1 k k), trivial⟩ trivial k)⟩
   ·intro e t hX
    rcases y9 with y10 | y11
    ·obtain ⟨rfl, hent⟩ := hX
     refine block_here <| tn <| ac_ent hent <| sQ <| rg <| am k k <| ae (w_cmp k k k) k <| aa k k <| an <| tn ?_
     refine ac_ret ?_
     obtain rfl := so h
     exact ret_mk k k k (fz_bl k)
    ·obtain ⟨rfl, hent⟩ := hX
     refine block_ret <| then_ret ?_
     obtain rfl := so h
     exact hent

noncomputable def m_spec_IsRep_L1 (a0 : Rp) (x1 : Int) : Option (Int ⊕ (Unit ⊕ Bool)) :=
  bif decide (x1 < (a0.maps.length : Int)) then
    (Option.bind (atL a0.maps x1) fun v7 =>
    Option.bind (m_spec_IsMatrix a0.p v7) fun v8 =>
    bif !v8 then
      (some (.inr (.inr (false))))
    else
      (Option.bind (atL a0.maps x1) fun v10 =>
      Option.bind (atL a0.q.src x1) fun v11 =>
      Option.bind (atL a0.dims v11) fun v12 =>
      bif !decide (v10.cols = v12) then
        (some (.inr (.inr (false))))
      else
        (Option.bind (atL a0.maps x1) fun v14 =>
        Option.bind (atL a0.q.tgt x1) fun v15 =>
        Option.bind (atL a0.dims v15) fun v16 =>
        bif !decide (v14.rows = v16) then
          (some (.inr (.inr (false))))
        else
          (some (.inl (wr (x1 + 1)))))))
  else
    (some (.inr (.inl ())))

noncomputable def m_spec_IsRep (a0 : Rp) : Option Bool :=
  Option.bind (m_spec_IsField a0.p) fun v1 =>
  bif !v1 then
    (some (false))
  else
    (Option.bind (m_spec_AreDims a0.q a0.dims) fun v3 =>
    bif !v3 then
      (some (false))
    else
      (bif !decide ((a0.maps.length : Int) = (a0.q.src.length : Int)) then
        (some (false))
      else
        (Option.bind (Lp (m_spec_IsRep_L1 a0) 0) fun y18 =>
        Sum.elim (fun y19 =>
          some (true)
        ) 
        (fun y20 =>
          some y20
        )
         y18)))

theorem c_spec_IsRep (a0 : Rp) (r : Bool) (h : m_spec_IsRep a0 = some r) : HasC Try.prog 94 [.agg (eR a0)] (.bl r) := by
 refine hasC_mk TT_ok (rvs := [.tmp 2]) (ns := [0, 1, 2]) Try.func94 k k Try.ntmps94 k k k <| sQ <| rg <| ae (w_box k k k k) k <| aa k k <| an <| tn <| sQ <| sQ <| rg ?_
 refine ae (w_field_ptr TT_ok k k k k k k k) k <| ae (w_load_ptr TT_ok k k k k k k k) k ?_
 obtain ⟨v1, hv1, h⟩ := ob h
 refine ae (w_call0s (c_spec_IsField a0.p v1 hv1) k (va_cons (va_same k) va_nil)) k <| ae (w_not k) k <| am k k ?_
 rcases cb h with ⟨q2, h⟩ | ⟨q2, h⟩
 ·refine aops_lit 8 k q2 <| ak k k <| ak k k <| ak k k <| ak k k <| ak k k <| ak k k <| ae (eff_pick k k) k <| am k k <| ak k k ?_
  refine ak k k <| ak k k <| ak k k <| ak k k <| ak k k <| ak k k <| ak k k <| ae (eff_pick k k) k <| an <| tn ?_
  refine ac_ent (t := mkS [(1, .ptr 0 0 0), (25, .bl true)] [(0, ⟨6, [[.int a0.p, .int a0.q.n, .list 1 (List.map eI a0.q.src), .list 1 (List.map eI a0.q.tgt), .list 1 (List.map eI a0.dims), .list 3 (List.map eM a0.maps)]]⟩)] 1 [1, 2]) (ent_mk (σ := sg [(0, 0)]) ⟨(pE k k), (e1 k k), trivial⟩ (hP k k k k <| trivial) k) <| ac_condT k k <| sQ <| rg <| aa k k <| an <| tn <| ac_ret <| then_ret ?_
  obtain rfl := so h
  exact ret_mk k k k (fz_bl k)
 ·refine aops_lit 8 k q2 <| ae (w_field_ptr TT_ok k k k k k k k) k <| ae (w_load_ptr TT_ok k k k k k k k) k <| ae (w_field_ptr TT_ok k k k k k k k) k <| ae (w_load_ptr TT_ok k k k k k k k) k ?_
  obtain ⟨v3, hv3, h⟩ := ob h
  refine ae (w_call0s (c_spec_AreDims a0.q a0.dims v3 hv3) k (va_cons (va_agg' (v1_cons (v1_same k) (v1_cons (v1_same k) (v1_cons (v1_same k) v1_nil)))) (va_cons (va_same k) va_nil))) k <| ae (w_not k) k <| ae (eff_pick k k) k <| am k k ?_
  rcases cb h with ⟨q4, h⟩ | ⟨q4, h⟩
  ·refine aops_lit 16 k q4 <| ak k k <| ak k k <| ak k k <| ak k k <| ak k k <| ak k k <| ak k k <| ak k k <| ae (eff_pick k k) k ?_
   refine an <| tn <| ac_ent (t := mkS [(1, .ptr 0 0 0), (25, .bl true)] [(0, ⟨6, [[.int a0.p, .int a0.q.n, .list 1 (List.map eI a0.q.src), .list 1 (List.map eI a0.q.tgt), .list 1 (List.map eI a0.dims), .list 3 (List.map eM a0.maps)]]⟩)] 1 [1, 2]) (ent_mk (σ := sg [(0, 0)]) ⟨(pE k k), (e1 k k), trivial⟩ (hP k k k k <| trivial) k) <| ac_condT k k <| sQ <| rg <| aa k k <| an <| tn <| ac_ret ?_
   refine then_ret ?_
   obtain rfl := so h
   exact ret_mk k k k (fz_bl k)
  ·refine aops_lit 16 k q4 <| ae (w_field_ptr TT_ok k k k k k k k) k <| ae (w_load_ptr TT_ok k k k k k k k) k <| ae (lenL TT_ok k k k) k <| ae (w_field_ptr TT_ok k k k k k k k) k <| ae (w_field_ptr TT_ok k k k k k k k) k <| ae (w_load_ptr TT_ok k k k k k k k) k <| ae (lenL TT_ok k k k) k <| ae (w_cmp k k k) k <| ae (eff_pick k k) k ?_
   refine an <| tn <| ac_ent (t := mkS [(1, .ptr 0 0 0), (25, .bl (!decide ((a0.maps.length : Int) = (a0.q.src.length : Int))))] [(0, ⟨6, [[.int a0.p, .int a0.q.n, .list 1 (List.map eI a0.q.src), .list 1 (List.map eI a0.q.tgt), .list 1 (List.map eI a0.dims), .list 3 (List.map eM a0.maps)]]⟩)] 1 [1, 2]) (ent_mk (σ := sg [(0, 0)]) ⟨(pE k k), (e1 k k), trivial⟩ (hP k k k k <| trivial) k) ?_
   rcases cb h with ⟨q5, h⟩ | ⟨q5, h⟩
   ·refine ac_condT k q5 <| sQ <| rg <| aa k k <| an <| tn <| ac_ret <| then_ret ?_
    obtain rfl := so h
    exact ret_mk k k k (fz_bl k)
   ·refine ac_condF k q5 <| ac_skip <| tn <| sQ <| sQ <| rg <| aa k k <| an <| tn <| ac_block ?_
    obtain ⟨y18, hy18, h⟩ := ob h
    refine ac_Lp (body := (m_spec_IsRep_L1 a0)) hy18 (fun (x1 : Int) => mkS [(1, .ptr 0 0 0), (3, .int x1)] [(0, ⟨6, [[.int a0.p, .int a0.q.n, .list 1 (List.map eI a0.q.src), .list 1 (List.map eI a0.q.tgt), .list 1 (List.map eI a0.dims), .list 3 (List.map eM a0.maps)]]⟩)] 1 [1, 2]) (fun r e t => Sum.elim (fun a => (fun r e t => e = .exit 0 ∧ Ent t (mkS [] [] 0 [0, 1, 2])) a e t) (fun b => (fun r e t => e = .ret ∧ RetQ TT [.tmp 2] (.bl r) .ret t) b e t) r) (ent_mk (σ := sg [(0, 0)]) ⟨(pE k k), (e1 k k), trivial⟩ (hP k k k k <| trivial) k) ?_ ?_
    ·intro x1 o h
     refine sQ <| sQ <| rg <| am k k <| ae (w_field_ptr TT_ok k k k k k k k) k <| ae (w_load_ptr TT_ok k k k k k k k) k <| ae (lenL TT_ok k k k) k <| ae (w_cmp k k k) k <| an <| tn ?_
     rcases cb h with ⟨q6, h⟩ | ⟨q6, h⟩
     ·refine ac_condT k q6 <| ac_skip <| tn <| sQ <| ac_block <| sQ <| ac_region_draw MIXX <| ae (w_field_ptr TT_ok k k k k k k k) k <| ae (w_load_ptr TT_ok k k k k k k k) k <| ae (w_field_ptr TT_ok k k k k k k k) k ?_
      refine ae (w_load_ptr TT_ok k k k k k k k) k <| am k k ?_
      obtain ⟨v7, hv7, h⟩ := ob h
      refine ae (x_at_list TT_ok hv7 k k k k k k) k <| ae (w_load_ref TT_ok k k k k k k) k ?_
      obtain ⟨v8, hv8, h⟩ := ob h
      refine ae (w_call0s (c_spec_IsMatrix a0.p v7 v8 hv8) k (va_cons (va_same k) (va_cons (va_agg' (v1_cons (v1_same k) (v1_cons (v1_same k) (v1_cons (v1_same k) v1_nil)))) va_nil))) k <| ae (w_not k) k <| am k k ?_
      rcases cb h with ⟨q9, h⟩ | ⟨q9, h⟩
      ·refine aops_lit 42 k q9 <| ak k k <| ak k k <| ak k k <| ak k k <| ak k k <| ak k k <| ak k k <| ak k k <| ak k k ?_
       refine ak k k <| ak k k <| ak k k <| ak k k <| ak k k <| ak k k <| ak k k <| ak k k <| ae (eff_pick k k) k <| am k k ?_
       refine ak k k <| ak k k <| ak k k <| ak k k <| ak k k <| ak k k <| ak k k <| ak k k <| ak k k <| ak k k ?_
       refine ak k k <| ak k k <| ak k k <| ak k k <| ak k k <| ak k k <| ak k k <| ae (eff_pick k k) k <| an ?_
       refine ⟨by kernel_rfl, ?_⟩
       refine tn <| ac_ent (t := mkS [(1, .ptr 0 0 0), (3, .int x1), (79, .bl true)] [(0, ⟨6, [[.int a0.p, .int a0.q.n, .list 1 (List.map eI a0.q.src), .list 1 (List.map eI a0.q.tgt), .list 1 (List.map eI a0.dims), .list 3 (List.map eM a0.maps)]]⟩)] 1 [1, 2]) (ent_mk (σ := sg [(0, 0)]) ⟨(pE k k), (e1 k k), (e1 k k), trivial⟩ (hP k k k k <| trivial) k) <| ac_condT k k <| sQ <| rg <| aa k k <| an <| tn <| ac_ret <| block_ret ?_
       refine then_ret <| then_ret ?_
       obtain rfl := so h
       exact ⟨_, k, k, ret_mk k k k (fz_bl k)⟩
      ·refine aops_lit 42 k q9 <| ae (w_field_ptr TT_ok k k k k k k k) k <| ae (w_load_ptr TT_ok k k k k k k k) k <| am k k ?_
       obtain ⟨v10, hv10, h⟩ := ob h
       refine ae (x_at_list TT_ok hv10 k k k k k k) k <| ae (w_field_ref TT_ok k k k k k k) k <| ae (w_load_ref TT_ok k k k k k k) k <| ae (w_field_ptr TT_ok k k k k k k k) k <| ae (w_load_ptr TT_ok k k k k k k k) k <| ae (w_field_ptr TT_ok k k k k k k k) k <| ae (w_field_ptr TT_ok k k k k k k k) k <| ae (w_load_ptr TT_ok k k k k k k k) k <| am k k ?_
       obtain ⟨v11, hv11, h⟩ := ob h
       refine ae (x_at_list TT_ok hv11 k k k k k k) k <| ae (w_load_ref TT_ok k k k k k k) k ?_
       obtain ⟨v12, hv12, h⟩ := ob h
       refine ae (x_at_list TT_ok hv12 k k k k k k) k <| ae (w_load_ref TT_ok k k k k k k) k <| ae (w_cmp k k k) k <| ae (eff_pick k k) k <| am k k ?_
       rcases cb h with ⟨q13, h⟩ | ⟨q13, h⟩
       ·refine aops_lit 61 k q13 <| ak k k <| ak k k <| ak k k <| ak k k <| ak k k <| ak k k <| ak k k <| ak k k <| ak k k ?_
        refine ak k k <| ak k k <| ak k k <| ak k k <| ak k k <| ak k k <| ak k k <| ak k k <| ae (eff_pick k k) k <| an ?_
        refine ⟨by kernel_rfl, ?_⟩
        refine tn <| ac_ent (t := mkS [(1, .ptr 0 0 0), (3, .int x1), (79, .bl true)] [(0, ⟨6, [[.int a0.p, .int a0.q.n, .list 1 (List.map eI a0.q.src), .list 1 (List.map eI a0.q.tgt), .list 1 (List.map eI a0.dims), .list 3 (List.map eM a0.maps)]]⟩)] 1 [1, 2]) (ent_mk (σ := sg [(0, 0)]) ⟨(pE k k), (e1 k k), (e1 k k), trivial⟩ (hP k k k k <| trivial) k) <| ac_condT k k <| sQ <| rg <| aa k k <| an <| tn <| ac_ret <| block_ret ?_
        refine then_ret <| then_ret ?_
        obtain rfl := so h
        exact ⟨_, k, k, ret_mk k k k (fz_bl k)⟩
       ·refine aops_lit 61 k q13 <| ae (w_field_ptr TT_ok k k k k k k k) k <| ae (w_load_ptr TT_ok k k k k k k k) k <| am k k ?_
        obtain ⟨v14, hv14, h⟩ := ob h
        refine ae (x_at_list TT_ok hv14 k k k k k k) k <| ae (w_field_ref TT_ok k k k k k k) k <| ae (w_load_ref TT_ok k k k k k k) k <| ae (w_field_ptr TT_ok k k k k k k k) k <| ae (w_load_ptr TT_ok k k k k k k k) k <| ae (w_field_ptr TT_ok k k k k k k k) k <| ae (w_field_ptr TT_ok k k k k k k k) k <| ae (w_load_ptr TT_ok k k k k k k k) k <| am k k ?_
        obtain ⟨v15, hv15, h⟩ := ob h
        refine ae (x_at_list TT_ok hv15 k k k k k k) k <| ae (w_load_ref TT_ok k k k k k k) k ?_
        obtain ⟨v16, hv16, h⟩ := ob h
        refine ae (x_at_list TT_ok hv16 k k k k k k) k <| ae (w_load_ref TT_ok k k k k k k) k <| ae (w_cmp k k k) k <| ae (eff_pick k k) k <| an ?_
        refine ⟨by kernel_rfl, ?_⟩
        refine tn <| ac_ent (t := mkS [(1, .ptr 0 0 0), (3, .int x1), (79, .bl (!decide (v14.rows = v16)))] [(0, ⟨6, [[.int a0.p, .int a0.q.n, .list 1 (List.map eI a0.q.src), .list 1 (List.map eI a0.q.tgt), .list 1 (List.map eI a0.dims), .list 3 (List.map eM a0.maps)]]⟩)] 1 [1, 2]) (ent_mk (σ := sg [(0, 0)]) ⟨(pE k k), (e1 k k), (e1 k k), trivial⟩ (hP k k k k <| trivial) k) ?_
        rcases cb h with ⟨q17, h⟩ | ⟨q17, h⟩
        ·refine ac_condT k q17 <| sQ <| rg <| aa k k <| an <| tn <| ac_ret <| block_ret <| then_ret <| then_ret ?_
         obtain rfl := so h
         exact ⟨_, k, k, ret_mk k k k (fz_bl k)⟩
        ·refine ac_condF k q17 <| ac_skip <| block_n <| tn <| rg <| am k k <| ae (x_add k k) k <| aa k k <| an <| tn ?_
         obtain rfl := so h
         exact ⟨_, k, (ent_mk (σ := sg [(0, 0)]) ⟨(pE k k), (e1 k k), trivial⟩ (hP k k k k <| trivial) k)⟩
     ·refine ac_condF k q6 <| ac_exit <| then_exit <| then_exit ?_
      obtain rfl := so h
      exact ⟨_, k, k, (ent_mk (σ := sg []) trivial trivial k)⟩
    ·intro e t hX
     rcases y18 with y19 | y20
     ·obtain ⟨rfl, hent⟩ := hX
      refine block_here <| tn <| ac_ent hent <| sQ <| rg <| aa k k <| an <| tn <| ac_ret ?_
      obtain rfl := so h
      exact ret_mk k k k (fz_bl k)
     ·obtain ⟨rfl, hent⟩ := hX
      refine block_ret <| then_ret ?_
      obtain rfl := so h
      exact hent

noncomputable def m_spec_IsLine_L1 (a0 : Qv) (x1 : Int) : Option (Int ⊕ (Unit ⊕ Bool)) :=
  bif decide (x1 < (a0.src.length : Int)) then
    (Option.bind (atL a0.src x1) fun v5 =>
    bif !decide (v5 = x1) then
      (some (.inr (.inr (false))))
    else
      (Option.bind (atL a0.tgt x1) fun v7 =>
      bif !decide (v7 = wr (x1 + 1)) then
        (some (.inr (.inr (false))))
      else
        (some (.inl (wr (x1 + 1))))))
  else
    (some (.inr (.inl ())))

noncomputable def m_spec_IsLine (a0 : Qv) : Option Bool :=
  Option.bind (m_spec_IsQuiver a0) fun v1 =>
  bif !v1 then
    (some (false))
  else
    (bif !decide ((a0.src.length : Int) = wr (a0.n - 1)) then
      (some (false))
    else
      (Option.bind (Lp (m_spec_IsLine_L1 a0) 0) fun y9 =>
      Sum.elim (fun y10 =>
        some (true)
      ) 
      (fun y11 =>
        some y11
      )
       y9))

theorem c_spec_IsLine (a0 : Qv) (r : Bool) (h : m_spec_IsLine a0 = some r) : HasC Try.prog 95 [.agg (eQ a0)] (.bl r) := by
 refine hasC_mk TT_ok (rvs := [.tmp 2]) (ns := [0, 1, 2]) Try.func95 k k Try.ntmps95 k k k <| sQ <| rg <| ae (w_box k k k k) k <| aa k k <| an <| tn <| sQ <| sQ <| rg ?_
 refine ae (w_load_ptr TT_ok k k k k k k k) k ?_
 obtain ⟨v1, hv1, h⟩ := ob h
 refine ae (w_call0s (c_spec_IsQuiver a0 v1 hv1) k (va_cons (va_agg' (v1_cons (v1_same k) (v1_cons (v1_same k) (v1_cons (v1_same k) v1_nil)))) va_nil)) k <| ae (w_not k) k <| am k k ?_
 rcases cb h with ⟨q2, h⟩ | ⟨q2, h⟩
 ·refine aops_lit 7 k q2 <| ak k k <| ak k k <| ak k k <| ak k k <| ak k k <| ak k k <| ak k k <| ae (eff_pick k k) k <| an ?_
  refine tn <| ac_ent (t := mkS [(1, .ptr 0 0 0), (15, .bl true)] [(0, ⟨3, [[.int a0.n, .list 1 (List.map eI a0.src), .list 1 (List.map eI a0.tgt)]]⟩)] 1 [1, 2]) (ent_mk (σ := sg [(0, 0)]) ⟨(pE k k), (e1 k k), trivial⟩ (hP k k k k <| trivial) k) <| ac_condT k k <| sQ <| rg <| aa k k <| an <| tn <| ac_ret <| then_ret ?_
  obtain rfl := so h
  exact ret_mk k k k (fz_bl k)
 ·refine aops_lit 7 k q2 <| ae (w_field_ptr TT_ok k k k k k k k) k <| ae (w_load_ptr TT_ok k k k k k k k) k <| ae (lenL TT_ok k k k) k <| ae (w_field_ptr TT_ok k k k k k k k) k <| ae (w_load_ptr TT_ok k k k k k k k) k <| ae (x_sub k k) k <| ae (w_cmp k k k) k <| ae (eff_pick k k) k <| an ?_
  refine tn <| ac_ent (t := mkS [(1, .ptr 0 0 0), (15, .bl (!decide ((a0.src.length : Int) = wr (a0.n - 1))))] [(0, ⟨3, [[.int a0.n, .list 1 (List.map eI a0.src), .list 1 (List.map eI a0.tgt)]]⟩)] 1 [1, 2]) (ent_mk (σ := sg [(0, 0)]) ⟨(pE k k), (e1 k k), trivial⟩ (hP k k k k <| trivial) k) ?_
  rcases cb h with ⟨q3, h⟩ | ⟨q3, h⟩
  ·refine ac_condT k q3 <| sQ <| rg <| aa k k <| an <| tn <| ac_ret <| then_ret ?_
   obtain rfl := so h
   exact ret_mk k k k (fz_bl k)
  ·refine ac_condF k q3 <| ac_skip <| tn <| sQ <| sQ <| rg <| aa k k <| an <| tn <| ac_block ?_
   obtain ⟨y9, hy9, h⟩ := ob h
   refine ac_Lp (body := (m_spec_IsLine_L1 a0)) hy9 (fun (x1 : Int) => mkS [(1, .ptr 0 0 0), (3, .int x1)] [(0, ⟨3, [[.int a0.n, .list 1 (List.map eI a0.src), .list 1 (List.map eI a0.tgt)]]⟩)] 1 [1, 2]) (fun r e t => Sum.elim (fun a => (fun r e t => e = .exit 0 ∧ Ent t (mkS [] [] 0 [0, 1, 2])) a e t) (fun b => (fun r e t => e = .ret ∧ RetQ TT [.tmp 2] (.bl r) .ret t) b e t) r) (ent_mk (σ := sg [(0, 0)]) ⟨(pE k k), (e1 k k), trivial⟩ (hP k k k k <| trivial) k) ?_ ?_
   ·intro x1 o h
    refine sQ <| sQ <| rg <| am k k <| ae (w_field_ptr TT_ok k k k k k k k) k <| ae (w_load_ptr TT_ok k k k k k k k) k <| ae (lenL TT_ok k k k) k <| ae (w_cmp k k k) k <| an <| tn ?_
    rcases cb h with ⟨q4, h⟩ | ⟨q4, h⟩
    ·refine ac_condT k q4 <| ac_skip <| tn <| sQ <| ac_block <| sQ <| rg <| ae (w_field_ptr TT_ok k k k k k k k) k <| ae (w_load_ptr TT_ok k k k k k k k) k <| am k k ?_
     obtain ⟨v5, hv5, h⟩ := ob h
     refine ae (x_at_list TT_ok hv5 k k k k k k) k <| ae (w_load_ref TT_ok k k k k k k) k <| am k k <| ae (w_cmp k k k) k <| am k k ?_
     rcases cb h with ⟨q6, h⟩ | ⟨q6, h⟩
     ·refine aops_lit 30 k q6 <| ak k k <| ak k k <| ak k k <| ak k k <| ak k k <| ak k k <| ak k k <| ak k k <| ae (eff_pick k k) k ?_
      refine an <| tn <| ac_ent (t := mkS [(1, .ptr 0 0 0), (3, .int x1), (39, .bl true)] [(0, ⟨3, [[.int a0.n, .list 1 (List.map eI a0.src), .list 1 (List.map eI a0.tgt)]]⟩)] 1 [1, 2]) (ent_mk (σ := sg [(0, 0)]) ⟨(pE k k), (e1 k k), (e1 k k), trivial⟩ (hP k k k k <| trivial) k) <| ac_condT k k <| sQ <| rg <| aa k k <| an <| tn <| ac_ret ?_
      refine block_ret <| then_ret <| then_ret ?_
      obtain rfl := so h
      exact ⟨_, k, k, ret_mk k k k (fz_bl k)⟩
     ·refine aops_lit 30 k q6 <| ae (w_field_ptr TT_ok k k k k k k k) k <| ae (w_load_ptr TT_ok k k k k k k k) k <| am k k ?_
      obtain ⟨v7, hv7, h⟩ := ob h
      refine ae (x_at_list TT_ok hv7 k k k k k k) k <| ae (w_load_ref TT_ok k k k k k k) k <| am k k <| ae (x_add k k) k <| ae (w_cmp k k k) k <| ae (eff_pick k k) k <| an <| tn <| ac_ent (t := mkS [(1, .ptr 0 0 0), (3, .int x1), (39, .bl (!decide (v7 = wr (x1 + 1))))] [(0, ⟨3, [[.int a0.n, .list 1 (List.map eI a0.src), .list 1 (List.map eI a0.tgt)]]⟩)] 1 [1, 2]) (ent_mk (σ := sg [(0, 0)]) ⟨(pE k k), (e1 k k), (e1 k k), trivial⟩ (hP k k k k <| trivial) k) ?_
      rcases cb h with ⟨q8, h⟩ | ⟨q8, h⟩
      ·refine ac_condT k q8 <| sQ <| rg <| aa k k <| an <| tn <| ac_ret <| block_ret <| then_ret <| then_ret ?_
       obtain rfl := so h
       exact ⟨_, k, k, ret_mk k k k (fz_bl k)⟩
      ·refine ac_condF k q8 <| ac_skip <| block_n <| tn <| rg <| am k k <| ae (x_add k k) k <| aa k k <| an <| tn ?_
       obtain rfl := so h
       exact ⟨_, k, (ent_mk (σ := sg [(0, 0)]) ⟨(pE k k), (e1 k k), trivial⟩ (hP k k k k <| trivial) k)⟩
    ·refine ac_condF k q4 <| ac_exit <| then_exit <| then_exit ?_
     obtain rfl := so h
     exact ⟨_, k, k, (ent_mk (σ := sg []) trivial trivial k)⟩
   ·intro e t hX
    rcases y9 with y10 | y11
    ·obtain ⟨rfl, hent⟩ := hX
     refine block_here <| tn <| ac_ent hent <| sQ <| rg <| aa k k <| an <| tn <| ac_ret ?_
     obtain rfl := so h
     exact ret_mk k k k (fz_bl k)
    ·obtain ⟨rfl, hent⟩ := hX
     refine block_ret <| then_ret ?_
     obtain rfl := so h
     exact hent

noncomputable def m_spec_RankTable_L2 (a0 : Rp) (x1 : ((List (List Int)) × Int)) (x2 : ((List Int) × Int × Int × (List Int) × Int)) : Option (((List Int) × Int × Int × (List Int) × Int) ⊕ (List Int)) :=
  bif decide (x2.2.2.2.2 < (a0.dims.length : Int)) then
    (bif decide (x1.2 < x2.2.2.2.2) then
      (Option.bind (atL a0.maps (wr (x2.2.2.2.2 - 1))) fun v10 =>
      Option.bind (m_spec_l3Multiply a0.p v10 (⟨x2.2.1, x2.2.2.1, x2.2.2.2.1⟩ : Mt)) fun v11 =>
      Option.bind (m_spec_RankOf a0.p v11) fun v12 =>
      Option.bind (atL x2.1 x2.2.2.2.2) fun v13 =>
      some (.inl ((x2.1.set x2.2.2.2.2.toNat v12), v11.rows, v11.cols, v11.cells, wr (x2.2.2.2.2 + 1))))
    else
      (Option.bind (m_spec_RankOf a0.p (⟨x2.2.1, x2.2.2.1, x2.2.2.2.1⟩ : Mt)) fun v14 =>
      Option.bind (atL x2.1 x2.2.2.2.2) fun v15 =>
      some (.inl ((x2.1.set x2.2.2.2.2.toNat v14), x2.2.1, x2.2.2.1, x2.2.2.2.1, wr (x2.2.2.2.2 + 1)))))
  else
    (some (.inr x2.1))

noncomputable def m_spec_RankTable_L1 (a0 : Rp) (x1 : ((List (List Int)) × Int)) : Option (((List (List Int)) × Int) ⊕ (List (List Int))) :=
  bif decide (x1.2 < (a0.dims.length : Int)) then
    (bif (decide (0 ≤ (a0.dims.length : Int)) && decide ((a0.dims.length : Int) ≤ 1048576)) then
      (Option.bind (atL a0.dims x1.2) fun v6 =>
      Option.bind (m_spec_l3Identity v6) fun v7 =>
      Option.bind (Lp (m_spec_RankTable_L2 a0 x1) ((List.replicate ((a0.dims.length : Int).toNat) (0 : Int)), v7.rows, v7.cols, v7.cells, x1.2)) fun y16 =>
      bif decide (x1.1.length + 1 ≤ 4294967296) then
        (some (.inl ((x1.1 ++ [y16]), wr (x1.2 + 1))))
      else none)
    else none)
  else
    (some (.inr x1.1))

noncomputable def m_spec_RankTable (a0 : Rp) : Option ((List (List Int)) × Bool) :=
  Option.bind (m_spec_IsRep a0) fun v1 =>
  bif !v1 then
    (some ((([] : (List (List Int))), false)))
  else
    (Option.bind (m_spec_IsLine a0.q) fun v3 =>
    bif !v3 then
      (some ((([] : (List (List Int))), false)))
    else
      (Option.bind (Lp (m_spec_RankTable_L1 a0) (([] : (List (List Int))), 0)) fun y19 =>
      some ((y19, true))))

theorem c_spec_RankTable (a0 : Rp) (r : ((List (List Int)) × Bool)) (h : m_spec_RankTable a0 = some r) : HasC Try.prog 58 [.agg (eR a0)] (.tuple [.list 1 (List.map (eLs 1 eI) r.1), .bl r.2]) := by
 refine hasC_mk TT_ok (rvs := [.tmp 2, .tmp 3]) (ns := [0, 1, 2, 3, 4, 5, 6, 7]) Try.func58 k k Try.ntmps58 k k k <| sQ <| rg <| ae (w_box k k k k) k <| aa k k <| aa k k <| an <| tn <| sQ <| rg ?_
 refine ae (w_lit TT_ok k k k k k k k k k k k k) k <| aa k k <| an <| tn <| ac_ent (t := mkS [(1, .ptr 0 0 0), (4, .own 1 0 (([] : (List (List Int))).length))] [(0, ⟨6, [[.int a0.p, .int a0.q.n, .list 1 (List.map eI a0.q.src), .list 1 (List.map eI a0.q.tgt), .list 1 (List.map eI a0.dims), .list 3 (List.map eM a0.maps)]]⟩), (1, ⟨1, List.map (ow (eLs 1 eI)) ([] : (List (List Int)))⟩)] 2 [2, 3, 4, 5, 6, 7]) (ent_mk (σ := sg [(0, 0), (1, 1)]) ⟨(pE k k), ⟨_, k, ⟨k, k, (by simp only [len_map, lA, lT, lR, lC, lN]), k⟩⟩, trivial⟩ (hP k k k k <| hB (okLs.plainO _) k k k <| trivial) k) <| sQ <| sQ <| rg <| ae (w_load_ptr TT_ok k k k k k k k) k ?_
 obtain ⟨v1, hv1, h⟩ := ob h
 refine ae (w_call0s (c_spec_IsRep a0 v1 hv1) k (va_cons (va_agg' (v1_cons (v1_same k) (v1_cons (v1_same k) (v1_cons (v1_same k) (v1_cons (v1_same k) (v1_cons (v1_same k) (v1_cons (v1_same k) v1_nil))))))) va_nil)) k <| ae (w_not k) k <| am k k ?_
 rcases cb h with ⟨q2, h⟩ | ⟨q2, h⟩
 ·refine aops_lit 13 k q2 <| ak k k <| ak k k <| ak k k <| ak k k <| ae (eff_pick k k) k <| an <| tn <| ac_condT k k <| sQ ?_
  refine rg <| am k k <| aa k k <| aa k k <| an <| tn <| ac_ent (t := mkS [(2, .own 1 0 (([] : (List (List Int))).length)), (3, .bl false)] [(1, ⟨1, List.map (ow (eLs 1 eI)) ([] : (List (List Int)))⟩)] 2 [2, 3, 4, 5, 6, 7]) (ent_mk (σ := sg [(1, 1)]) ⟨(oE k k), (e1 k k), trivial⟩ (hB (okLs.plainO _) k k k <| trivial) k) <| ac_ret <| then_ret ?_
  obtain rfl := so h
  exact ret_mk k k k (xz_tuple k (xB_cons (xB_one (x_f1 okLs k k)) (xB_cons (k) xB_nil)))
 ·refine aops_lit 13 k q2 <| ae (w_field_ptr TT_ok k k k k k k k) k <| ae (w_load_ptr TT_ok k k k k k k k) k ?_
  obtain ⟨v3, hv3, h⟩ := ob h
  refine ae (w_call0s (c_spec_IsLine a0.q v3 hv3) k (va_cons (va_agg' (v1_cons (v1_same k) (v1_cons (v1_same k) (v1_cons (v1_same k) v1_nil)))) va_nil)) k <| ae (w_not k) k <| ae (eff_pick k k) k <| an <| tn ?_
  rcases cb h with ⟨q4, h⟩ | ⟨q4, h⟩
  ·refine ac_condT k q4 <| sQ <| rg <| am k k <| aa k k <| aa k k <| an <| tn <| ac_ent (t := mkS [(2, .own 1 0 (([] : (List (List Int))).length)), (3, .bl false)] [(1, ⟨1, List.map (ow (eLs 1 eI)) ([] : (List (List Int)))⟩)] 2 [2, 3, 4, 5, 6, 7]) (ent_mk (σ := sg [(1, 1)]) ⟨(oE k k), (e1 k k), trivial⟩ (hB (okLs.plainO _) k k k <| trivial) k) <| ac_ret ?_
   refine then_ret ?_
   obtain rfl := so h
   exact ret_mk k k k (xz_tuple k (xB_cons (xB_one (x_f1 okLs k k)) (xB_cons (k) xB_nil)))
  ·refine ac_condF k q4 <| ac_skip <| tn <| sQ <| sQ <| rg <| aa k k <| an <| tn <| ac_block ?_
   obtain ⟨y19, hy19, h⟩ := ob h
   refine ac_Lp (body := (m_spec_RankTable_L1 a0)) hy19 (fun (x1 : ((List (List Int)) × Int)) => mkS [(1, .ptr 0 0 0), (4, .own 1 0 x1.1.length), (5, .int x1.2)] [(0, ⟨6, [[.int a0.p, .int a0.q.n, .list 1 (List.map eI a0.q.src), .list 1 (List.map eI a0.q.tgt), .list 1 (List.map eI a0.dims), .list 3 (List.map eM a0.maps)]]⟩), (1, ⟨1, List.map (ow (eLs 1 eI)) x1.1⟩)] 2 [2, 3, 4, 5, 6, 7]) (fun r e t => e = .exit 0 ∧ Ent t (mkS [(4, .own 0 0 r.length)] [(0, ⟨1, List.map (ow (eLs 1 eI)) r⟩)] 1 [1, 2, 3, 4, 5, 6, 7])) (ent_mk (σ := sg [(0, 0), (1, 1)]) ⟨(pE k k), (oE k k), (e1 k k), trivial⟩ (hP k k k k <| hB (okLs.plainO _) k k k <| trivial) k) ?_ ?_
   ·intro x1 o h
    refine sQ <| sQ <| rg <| am k k <| ae (w_field_ptr TT_ok k k k k k k k) k <| ae (w_load_ptr TT_ok k k k k k k k) k <| ae (lenL TT_ok k k k) k <| ae (w_cmp k k k) k <| an <| tn ?_
    rcases cb h with ⟨q5, h⟩ | ⟨q5, h⟩
    ·refine ac_condT k q5 <| ac_skip <| tn <| sQ <| ac_block <| sQ <| rg <| ae (w_field_ptr TT_ok k k k k k k k) k <| ae (w_load_ptr TT_ok k k k k k k k) k <| ae (lenL TT_ok k k k) k ?_
     obtain ⟨q18, h⟩ := cg h
     refine ae (x_make TT_ok q18 k k k k k k k k) k <| aa k k <| an <| tn <| ac_ent (t := mkS [(1, .ptr 0 0 0), (4, .own 1 0 x1.1.length), (5, .int x1.2), (6, .own 2 0 ((List.replicate ((a0.dims.length : Int).toNat) (0 : Int)).length))] [(0, ⟨6, [[.int a0.p, .int a0.q.n, .list 1 (List.map eI a0.q.src), .list 1 (List.map eI a0.q.tgt), .list 1 (List.map eI a0.dims), .list 3 (List.map eM a0.maps)]]⟩), (1, ⟨1, List.map (ow (eLs 1 eI)) x1.1⟩), (2, ⟨1, List.map (ow eI) (List.replicate ((a0.dims.length : Int).toNat) (0 : Int))⟩)] 3 [3, 4, 5, 6, 7]) (ent_mk (σ := sg [(0, 0), (1, 1), (2, 2)]) ⟨(pE k k), (oE k k), (e1 k k), ⟨_, k, ⟨k, k, (by simp only [len_map, lA, lT, lR, lC, lN]), k⟩⟩, trivial⟩ (hP k k k k <| hB (okLs.plainO _) k k k <| hX ⟨_, k, k, .inl ⟨rep_eq (e := eI) (z := 0) _, okI.plainO _⟩⟩ k <| trivial) k) <| sQ <| rg <| ae (w_field_ptr TT_ok k k k k k k k) k <| ae (w_load_ptr TT_ok k k k k k k k) k <| am k k ?_
     obtain ⟨v6, hv6, h⟩ := ob h
     refine ae (x_at_list TT_ok hv6 k k k k k k) k <| ae (w_load_ref TT_ok k k k k k k) k ?_
     obtain ⟨v7, hv7, h⟩ := ob h
     refine ae (AEff.conv (w_call0 (x := .agg [.int v7.rows, .int v7.cols, .own 3 0 (List.map eI v7.cells).length]) (nb := [(3, ⟨1, absEs (List.map eI v7.cells)⟩)]) (c_spec_l3Identity v6 v7 hv7) k (by rfl) k k (g1_cons trivial (g1_cons trivial (g1_cons (okI.good _) g1_nil))) (va_cons (va_same k) va_nil)) (v' := .agg [.int v7.rows, .int v7.cols, .own 3 0 v7.cells.length]) (ed' := [(3, some ⟨1, List.map (ow eI) v7.cells⟩)]) (by simp only [len_map]) (ed_ok (nb' := [(3, ⟨1, List.map (ow eI) v7.cells⟩)]) (by simp only [abs_map]))) k <| ae (w_alloc TT_ok k k) k <| ae (w_store TT_ok k k k k k k k k) k <| an <| tn <| sQ <| sQ <| rg <| am k k <| aa k k ?_
     refine an <| tn <| ac_block ?_
     obtain ⟨y16, hy16, h⟩ := ob h
     refine ac_Lp (body := (m_spec_RankTable_L2 a0 x1)) hy16 (fun (x2 : ((List Int) × Int × Int × (List Int) × Int)) => mkS [(1, .ptr 0 0 0), (4, .own 1 0 x1.1.length), (5, .int x1.2), (6, .own 2 0 x2.1.length), (7, .ptr 3 0 0), (8, .int x2.2.2.2.2)] [(0, ⟨6, [[.int a0.p, .int a0.q.n, .list 1 (List.map eI a0.q.src), .list 1 (List.map eI a0.q.tgt), .list 1 (List.map eI a0.dims), .list 3 (List.map eM a0.maps)]]⟩), (1, ⟨1, List.map (ow (eLs 1 eI)) x1.1⟩), (2, ⟨1, List.map (ow eI) x2.1⟩), (3, ⟨3, [[.int x2.2.1, .int x2.2.2.1, .own 4 0 x2.2.2.2.1.length]]⟩), (4, ⟨1, List.map (ow eI) x2.2.2.2.1⟩)] 5 [5, 6, 7]) (fun r e t => e = .exit 2 ∧ Ent t (mkS [(1, .ptr 0 0 0), (4, .own 1 0 x1.1.length), (5, .int x1.2), (6, .own 2 0 r.length)] [(0, ⟨6, [[.int a0.p, .int a0.q.n, .list 1 (List.map eI a0.q.src), .list 1 (List.map eI a0.q.tgt), .list 1 (List.map eI a0.dims), .list 3 (List.map eM a0.maps)]]⟩), (1, ⟨1, List.map (ow (eLs 1 eI)) x1.1⟩), (2, ⟨1, List.map (ow eI) r⟩)] 3 [3, 4, 5, 6, 7])) (ent_mk (σ := sg [(0, 0), (1, 1), (2, 2), (3, 4), (4, 3)]) ⟨(pE k k), (oE k k), (e1 k k), (oE k k), (pE k k), (e1 k k), trivial⟩ (hP k k k k <| hB (okLs.plainO _) k k k <| hI k k k <| hX ⟨_, k, k, .inr ⟨_, _, k, ⟨_, _, k, k, ⟨_, _, k, k, ⟨_, _, k, ⟨k, k, k, k⟩, k⟩⟩⟩, k⟩⟩ k <| hI k k k <| trivial) k) ?_ ?_
     ·intro x2 o h
      refine sQ <| sQ <| rg <| am k k <| ae (w_field_ptr TT_ok k k k k k k k) k <| ae (w_load_ptr TT_ok k k k k k k k) k <| ae (lenL TT_ok k k k) k <| ae (w_cmp k k k) k <| an <| tn ?_
      rcases cb h with ⟨q8, h⟩ | ⟨q8, h⟩
      ·refine ac_condT k q8 <| ac_skip <| tn <| sQ <| ac_block <| sQ <| sQ <| rg <| am k k <| am k k ?_
       refine ae (w_cmp k k k) k <| an <| tn ?_
       rcases cb h with ⟨q9, h⟩ | ⟨q9, h⟩
       ·refine ac_condT k q9 <| ac_region_draw MIXX <| ae (w_field_ptr TT_ok k k k k k k k) k <| ae (w_load_ptr TT_ok k k k k k k k) k <| ae (w_field_ptr TT_ok k k k k k k k) k <| ae (w_load_ptr TT_ok k k k k k k k) k <| am k k <| ae (x_sub k k) k ?_
        obtain ⟨v10, hv10, h⟩ := ob h
        refine ae (x_at_list TT_ok hv10 k k k k k k) k <| ae (w_load_ref TT_ok k k k k k k) k <| ae (w_load_ptr TT_ok k k k k k k k) k ?_
        obtain ⟨v11, hv11, h⟩ := ob h
        refine ae (AEff.conv (w_call0 (x := .agg [.int v11.rows, .int v11.cols, .own 5 0 (List.map eI v11.cells).length]) (nb := [(5, ⟨1, absEs (List.map eI v11.cells)⟩)]) (c_spec_l3Multiply a0.p v10 (⟨x2.2.1, x2.2.2.1, x2.2.2.2.1⟩ : Mt) v11 hv11) k (by rfl) k k (g1_cons trivial (g1_cons trivial (g1_cons (okI.good _) g1_nil))) (va_cons (va_same k) (va_cons (va_agg' (v1_cons (v1_same k) (v1_cons (v1_same k) (v1_cons (v1_same k) v1_nil)))) (va_cons (va_agg' (v1_cons (v1_same k) (v1_cons (v1_same k) (v1_cons (v1_T okI k k) v1_nil)))) va_nil)))) (v' := .agg [.int v11.rows, .int v11.cols, .own 5 0 v11.cells.length]) (ed' := [(5, some ⟨1, List.map (ow eI) v11.cells⟩)]) (by simp only [len_map]) (ed_ok (nb' := [(5, ⟨1, List.map (ow eI) v11.cells⟩)]) (by simp only [abs_map]))) k <| ae (w_store TT_ok k k k k k k k k) k <| an ?_
        refine ⟨by kernel_rfl, ?_⟩
        refine tn <| ac_ent (t := mkS [(1, .ptr 0 0 0), (4, .own 1 0 x1.1.length), (5, .int x1.2), (6, .own 2 0 x2.1.length), (7, .ptr 3 0 0), (8, .int x2.2.2.2.2)] [(0, ⟨6, [[.int a0.p, .int a0.q.n, .list 1 (List.map eI a0.q.src), .list 1 (List.map eI a0.q.tgt), .list 1 (List.map eI a0.dims), .list 3 (List.map eM a0.maps)]]⟩), (1, ⟨1, List.map (ow (eLs 1 eI)) x1.1⟩), (2, ⟨1, List.map (ow eI) x2.1⟩), (3, ⟨3, [[.int v11.rows, .int v11.cols, .own 5 0 v11.cells.length]]⟩), (5, ⟨1, List.map (ow eI) v11.cells⟩)] 6 [6, 7]) (ent_mk (σ := sg [(0, 0), (1, 1), (2, 2), (3, 3), (5, 5)]) ⟨(pE k k), (oE k k), (e1 k k), (oE k k), (pE k k), (e1 k k), trivial⟩ (hP k k k k <| hB (okLs.plainO _) k k k <| hI k k k <| hX ⟨_, k, k, .inr ⟨_, _, k, ⟨_, _, k, k, ⟨_, _, k, k, ⟨_, _, k, ⟨k, k, k, k⟩, k⟩⟩⟩, k⟩⟩ k <| hI k k k <| trivial) k) <| rg <| am k k <| am k k <| ae (w_field_ptr TT_ok k k k k k k k) k <| ae (w_load_ptr TT_ok k k k k k k k) k <| ae (w_load_ptr TT_ok k k k k k k k) k ?_
        obtain ⟨v12, hv12, h⟩ := ob h
        refine ae (w_call0s (c_spec_RankOf a0.p v11 v12 hv12) k (va_cons (va_same k) (va_cons (va_agg' (v1_cons (v1_same k) (v1_cons (v1_same k) (v1_cons (v1_T okI k k) v1_nil)))) va_nil))) k ?_
        obtain ⟨v13, hv13, h⟩ := ob h
        refine ae (x_at_own TT_ok (atL_nn hv13) (atL_lt hv13) k k k k k k k) k <| ae (x_store TT_ok okIo (u := v12) (atL_get hv13) k k k k k k) k <| an <| block_n <| tn <| rg <| am k k <| ae (x_add k k) k <| aa k k <| an ?_
        refine tn ?_
        obtain rfl := so h
        exact ⟨_, k, (ent_mk (σ := sg [(0, 0), (1, 1), (2, 2), (3, 3), (4, 5)]) ⟨(pE k k), (oE k k), (e1 k k), ⟨_, k, ⟨k, k, (by simp only [len_map, lA, lT, lR, lC, lN]), k⟩⟩, (pE k k), (e1 k k), trivial⟩ (hP k k k k <| hB (okLs.plainO _) k k k <| hI k k k <| hX ⟨_, k, k, .inr ⟨_, _, k, ⟨_, _, k, k, ⟨_, _, k, k, ⟨_, _, k, ⟨k, k, k, k⟩, k⟩⟩⟩, k⟩⟩ k <| hI k k k <| trivial) k)⟩
       ·refine ac_condF k q9 <| ac_skip <| tn <| rg <| am k k <| am k k <| ae (w_field_ptr TT_ok k k k k k k k) k <| ae (w_load_ptr TT_ok k k k k k k k) k <| ae (w_load_ptr TT_ok k k k k k k k) k ?_
        obtain ⟨v14, hv14, h⟩ := ob h
        refine ae (w_call0s (c_spec_RankOf a0.p (⟨x2.2.1, x2.2.2.1, x2.2.2.2.1⟩ : Mt) v14 hv14) k (va_cons (va_same k) (va_cons (va_agg' (v1_cons (v1_same k) (v1_cons (v1_same k) (v1_cons (v1_T okI k k) v1_nil)))) va_nil))) k ?_
        obtain ⟨v15, hv15, h⟩ := ob h
        refine ae (x_at_own TT_ok (atL_nn hv15) (atL_lt hv15) k k k k k k k) k <| ae (x_store TT_ok okIo (u := v14) (atL_get hv15) k k k k k k) k <| an <| block_n <| tn <| ac_ent (t := mkS [(1, .ptr 0 0 0), (4, .own 1 0 x1.1.length), (5, .int x1.2), (6, .own 2 0 ((x2.1.set x2.2.2.2.2.toNat v14).length)), (7, .ptr 3 0 0), (8, .int x2.2.2.2.2)] [(0, ⟨6, [[.int a0.p, .int a0.q.n, .list 1 (List.map eI a0.q.src), .list 1 (List.map eI a0.q.tgt), .list 1 (List.map eI a0.dims), .list 3 (List.map eM a0.maps)]]⟩), (1, ⟨1, List.map (ow (eLs 1 eI)) x1.1⟩), (2, ⟨1, List.map (ow eI) (x2.1.set x2.2.2.2.2.toNat v14)⟩), (3, ⟨3, [[.int x2.2.1, .int x2.2.2.1, .own 4 0 x2.2.2.2.1.length]]⟩), (4, ⟨1, List.map (ow eI) x2.2.2.2.1⟩)] 5 [5, 6, 7]) (ent_mk (σ := sg [(0, 0), (1, 1), (2, 2), (3, 3), (4, 4)]) ⟨(pE k k), (oE k k), (e1 k k), ⟨_, k, ⟨k, k, (by simp only [len_map, lA, lT, lR, lC, lN]), k⟩⟩, (pE k k), (e1 k k), trivial⟩ (hP k k k k <| hB (okLs.plainO _) k k k <| hI k k k <| hX ⟨_, k, k, .inr ⟨_, _, k, ⟨_, _, k, k, ⟨_, _, k, k, ⟨_, _, k, ⟨k, k, k, k⟩, k⟩⟩⟩, k⟩⟩ k <| hI k k k <| trivial) k) <| rg <| am k k <| ae (x_add k k) k <| aa k k ?_
        refine an <| tn ?_
        obtain rfl := so h
        exact ⟨_, k, (ent_mk (σ := sg [(0, 0), (1, 1), (2, 2), (3, 3), (4, 4)]) ⟨(pE k k), (oE k k), (e1 k k), (oE k k), (pE k k), (e1 k k), trivial⟩ (hP k k k k <| hB (okLs.plainO _) k k k <| hI k k k <| hX ⟨_, k, k, .inr ⟨_, _, k, ⟨_, _, k, k, ⟨_, _, k, k, ⟨_, _, k, ⟨k, k, k, k⟩, k⟩⟩⟩, k⟩⟩ k <| hI k k k <| trivial) k)⟩
      ·refine ac_condF k q8 <| ac_exit <| then_exit <| then_exit ?_
       obtain rfl := so h
       exact ⟨_, k, k, (ent_mk (σ := sg [(0, 0), (1, 1), (2, 2)]) ⟨(pE k k), (oE k k), (e1 k k), (oE k k), trivial⟩ (hP k k k k <| hB (okLs.plainO _) k k k <| hI k k k <| trivial) k)⟩
     ·rintro e t ⟨rfl, hent⟩
      refine block_here <| tn <| ac_ent hent <| rg <| am k k <| am k k <| ae (w_lit TT_ok k k k k k k k k k k k k) k ?_
      obtain ⟨q17, h⟩ := cg h
      refine ae (x_app1 TT_ok (l := x1.1) (c := [.own 2 0 y16.length]) q17 k k k k k k k k k k k k k k) k <| aa k k <| an <| block_n <| tn <| ac_ent (t := mkS [(1, .ptr 0 0 0), (4, .own 4 0 ((x1.1 ++ [y16]).length)), (5, .int x1.2)] [(0, ⟨6, [[.int a0.p, .int a0.q.n, .list 1 (List.map eI a0.q.src), .list 1 (List.map eI a0.q.tgt), .list 1 (List.map eI a0.dims), .list 3 (List.map eM a0.maps)]]⟩), (4, ⟨1, List.map (ow (eLs 1 eI)) (x1.1 ++ [y16])⟩)] 5 [5, 6, 7]) (Ent.trans (ent_absL (b := 4) (b' := 2) (j := 0) (es' := List.map eI y16) k k k k (len_map _ _) (okI.frzs _)) (ent_mk (σ := sg [(0, 0), (4, 4)]) ⟨(pE k k), ⟨_, k, ⟨k, k, (by simp only [len_map, lA, lT, lR, lC, lN]), k⟩⟩, (e1 k k), trivial⟩ (hP k k k k <| hX ⟨_, k, k, .inl ⟨app_eq y16 k, okLs.plainO _⟩⟩ k <| trivial) k)) <| rg <| am k k <| ae (x_add k k) k <| aa k k ?_
      refine an <| tn ?_
      obtain rfl := so h
      exact ⟨_, k, (ent_mk (σ := sg [(0, 0), (1, 4)]) ⟨(pE k k), (oE k k), (e1 k k), trivial⟩ (hP k k k k <| hB (okLs.plainO _) k k k <| trivial) k)⟩
    ·refine ac_condF k q5 <| ac_exit <| then_exit <| then_exit ?_
     obtain rfl := so h
     exact ⟨_, k, k, (ent_mk (σ := sg [(0, 1)]) ⟨(oE k k), trivial⟩ (hB (okLs.plainO _) k k k <| trivial) k)⟩
   ·rintro e t ⟨rfl, hent⟩
    refine block_here <| tn <| ac_ent hent <| sQ <| rg <| am k k <| aa k k <| aa k k <| an <| tn ?_
    refine ac_ret ?_
    obtain rfl := so h
    exact ret_mk k k k (xz_tuple k (xB_cons (xB_one (x_f1 okLs k k)) (xB_cons (k) xB_nil)))

end Go.Proofs.Ytdhjmmnjapkmkaa
end

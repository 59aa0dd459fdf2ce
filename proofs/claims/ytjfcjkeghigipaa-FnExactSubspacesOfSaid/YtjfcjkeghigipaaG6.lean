/-
  Several texts of the claim in one: each begins with its own remark.
-/
import Derived.Lib.AppendZerosOnto
import Derived.Test.YtjfcjkeghigipaaG5
section
set_option linter.unusedVariables false
set_option linter.unusedSimpArgs false
/-
  Functions that hand back a part of an argument's memory: the contract, its use at a call; rows of a matrix that is data.
-/
namespace Go.Proofs.Ytjfcjkeghigipaa
open Go.RowKit
set_option linter.unusedVariables false
set_option maxRecDepth 10000

/-- The call of f with the data ds returns r, in the memory of ds. -/
structure HasV (P : Program) (f : FuncId) (ds : List AV) (r : AV) : Prop where
  enters : Enters P f
  calls : ∀ (w : World) (args : Array Value) (S : List Nat), RepVs w ds args.toList S → Calls P f args w fun e w' => ∃ v S', e = .returned v ∧ Below w.heap.size w w' ∧ RepD w' r v S' ∧ ∀ x ∈ S', x ∈ S

theorem rep1_data {w : World} {h : Hp} {u : Us} {ν : Nu} {d : AV} {v : Value} (r : Rep1 w h u ν d v) (ok : plainD d = true) : ∃ S, RepD w d v S ∧ ∀ x ∈ S, Free h ν x := by
  cases d <;> simp only [plainD, Bool.false_eq_true] at ok <;> simp only [Rep1] at r
  · exact ⟨[], by rw [r.1]; exact repD_sc r.2, by simp⟩
  · exact r
  · exact r
theorem rep1s_data {w : World} {h : Hp} {u : Us} {ν : Nu} : ∀ {ds : List AV} {vs : List Value}, All2 (Rep1 w h u ν) ds vs → ds.all plainD = true → ∃ S, RepVs w ds vs S ∧ ∀ x ∈ S, Free h ν x
  | [], vs, r, _ => by simp only [All2] at r; subst r; exact ⟨[], by simp [RepVs], by simp⟩
  | d :: ds, vs, ⟨v, q, e, r1, r2⟩, ok => by
    subst e
    simp only [List.all_cons, Bool.and_eq_true] at ok
    obtain ⟨S1, a1, a2⟩ := rep1_data r1 ok.1
    obtain ⟨S2, b1, b2⟩ := rep1s_data r2 ok.2
    refine ⟨S1 ++ S2, by simp only [RepVs]; exact ⟨v, q, S1, S2, rfl, rfl, a1, b1⟩, fun x hx => ?_⟩
    rcases List.mem_append.1 hx with h | h
    · exact a2 x h
    · exact b2 x h
theorem repA_data {w : World} {h : Hp} {u : Us} {ν : Nu} {d : AV} {v : Value} (r : RepA w h u ν d v) (ok : okArg d = true) : ∃ S, RepD w d v S ∧ ∀ x ∈ S, Free h ν x := by
  cases d <;> simp only [okArg, plainD, Bool.false_eq_true] at ok <;> simp only [RepA, RepB] at r
  · exact rep1_data r rfl
  · exact rep1_data r rfl
  · exact rep1_data r rfl
  · obtain ⟨vs, rfl, r⟩ := r
    obtain ⟨S, a, b⟩ := rep1s_data r ok
    exact ⟨S, by simp only [RepD]; exact ⟨vs, rfl, a⟩, b⟩
  · obtain ⟨vs, rfl, r⟩ := r
    obtain ⟨S, a, b⟩ := rep1s_data r ok
    exact ⟨S, by simp only [RepD]; exact ⟨vs, rfl, a⟩, b⟩
theorem repAs_data {w : World} {h : Hp} {u : Us} {ν : Nu} : ∀ {ds : List AV} {vs : List Value}, All2 (RepA w h u ν) ds vs → ds.all okArg = true → ∃ S, RepVs w ds vs S ∧ ∀ x ∈ S, Free h ν x
  | [], vs, r, _ => by simp only [All2] at r; subst r; exact ⟨[], by simp [RepVs], by simp⟩
  | d :: ds, vs, ⟨v, q, e, r1, r2⟩, ok => by
    subst e
    simp only [List.all_cons, Bool.and_eq_true] at ok
    obtain ⟨S1, a1, a2⟩ := repA_data r1 ok.1
    obtain ⟨S2, b1, b2⟩ := repAs_data r2 ok.2
    refine ⟨S1 ++ S2, by simp only [RepVs]; exact ⟨v, q, S1, S2, rfl, rfl, a1, b1⟩, fun x hx => ?_⟩
    rcases List.mem_append.1 hx with h | h
    · exact a2 x h
    · exact b2 x h
section
variable {P : Program} {dst : Option Tmp} {ty : TypeId} {pos : String} {aft : Array Edge} {g : Option (Nat × Bool)} {ins : Operand → Option AV} {hp : Hp} {κ : Kp}
theorem eff_hasV {fo : Operand} {xs : Array Operand} {ats : Array TypeId} {f : FuncId} {ds : List AV} {k : Nat} {es : List (List AV)} (hc : HasV P f ds (.list k es)) (hf : ins fo = some (.fn f [])) (hx : evs ins xs.toList = some ds) (hok : ds.all okArg = true) :
    AEff P ⟨dst, .call ⟨.value fo, xs, ats⟩, ty, pos, aft, g⟩ ins hp κ ⟨.list k es, [], [], []⟩ := by
  refine ⟨fun C s ν a w Q K {hκ} hi' ht hnw hd hs hK => ?_⟩
  have h1 := hs.ev ((hi' fo (by simp [Op.operands, Call.operands])).trans hf)
  simp only [RepA, RepB] at h1
  obtain ⟨cv, h1, h2⟩ := h1
  simp only [All2] at h2
  subst h2
  have h3 := evs_rep hs (xs := xs.toList) (fun y hy => hi' y (by simp [Op.operands, Call.operands]; exact .inr (Array.mem_toList_iff.1 hy))) hx
  obtain ⟨S, e1, e2⟩ := repAs_data h3 hok
  have hcall := hc.calls w (xs.map a.eval) S (by simpa using e1)
  unfold Oper.wp
  have hex : (execOp a.eval ⟨dst, .call ⟨.value fo, xs, ats⟩, ty, pos, aft, g⟩).run P w = .ok (.enter f (xs.map a.eval)) w := by
    have : execOp a.eval ⟨dst, .call ⟨.value fo, xs, ats⟩, ty, pos, aft, g⟩ = callFunc f (xs.map a.eval) := by
      simp [execOp, resolve, h1, Deferred.ofValue, invoke]
    rw [this]
    exact hc.enters _ _
  rw [hex]
  simp only [Oper.upon]
  refine hcall.mono fun e w' ⟨v, S', he, hb, hr, hsub⟩ => ?_
  subst he
  simp only
  obtain ⟨φ, hh⟩ := hs.heap
  have ext : Ext w s.heap s.used ν w' s.heap s.used ν := ⟨fun _ h => h, fun _ blk _ h => ⟨blk, h, rfl, rfl, rfl⟩, fun x hx h => ⟨hb.block x hx, h⟩⟩
  refine hK ν _ _ (hs.step hd (s' := s.app dst _) ext (hb.mono hs.base) ⟨φ, fun b blk hbl => ?_, hh.apart⟩ rfl ?_)
  · obtain ⟨g1, g2, g3, g4⟩ := hh.blk b blk hbl
    exact ⟨g1, g2.ext ext rfl (fun y hy => hb.block y (g2.lt y hy)), g3, g4⟩
  · exact ⟨S', hr, fun x hx => e2 x (hsub x hx)⟩
/-- A slice as a bare value. -/
theorem x_slice_sc {T : List (Nat × Ty)} (hT : TyOk P T) {s : AState} {x : Operand} {zl zh : Operand} {t e : Nat} {y ye : Ty} {ao : Option Addr} {n c : Nat} {kl kh : IntKind} {l h : Int} (q : 0 ≤ l ∧ l ≤ h ∧ h ≤ n ∧ n ≤ c) (hx : s.ev x = some (.sc (.slice ao n c))) (hlo : s.ev zl = some (.sc (.int kl l))) (hhi : s.ev zh = some (.sc (.int kh h))) (hy : tyOf T t = some y) (hd : y.desc = .slice e) (hye : tyOf T e = some ye) :
    AEff P ⟨dst, .slice t x (some zl) (some zh) none, ty, pos, aft, g⟩ s.ev s.heap s.kp ⟨.sc (.slice (if c = l.toNat then ao else ao.map (·.add (l.toNat * ye.size))) (h.toNat - l.toNat) (c - l.toNat)), [], [], []⟩ := by
  refine AEff.pure fun C s' ν a w hi' ht hs => ?_
  have h1 := hs.ev ((hi' x (by simp [Op.operands])).trans hx)
  have h2 := hs.ev ((hi' zl (by simp [Op.operands])).trans hlo)
  have h3 := hs.ev ((hi' zh (by simp [Op.operands])).trans hhi)
  simp only [RepA, RepB, Rep1] at h1 h2 h3
  obtain ⟨i1, z1, d1, y1⟩ := hT.is hy
  obtain ⟨i2, z2, d2, y2⟩ := hT.is hye
  have hsb := sliceBounds_run (P := P) (len := n) (cap := c) (lo := some (.int kl l)) (hi := some (.int kh h)) w (.inr ⟨kl, rfl⟩) (.inr ⟨kh, rfl⟩) q.1 q.2.1 q.2.2.1 q.2.2.2
  refine ⟨_, ?_, repA_sc rfl⟩
  simp only [execOp, Instr.sliceAt, Instr.slice, h1.1, h2.1, h3.1, Sem.run_bind, run_und (y1.slice hd), Result.andThen_ok, run_size y2.info, y2.size, Option.map_none, Option.map_some]
  rw [hsb]
  by_cases e : c = l.toNat <;> simp [e]
end

theorem part_data {w : World} {k n c : Nat} {es : List (List AV)} {ao : Option Addr} {S : List Nat} {l h : Int} (r : RepD w (.list k es) (.slice ao n c) S) (q : 0 ≤ l ∧ l ≤ h ∧ h ≤ n) : ∃ S', RepD w (.list k ((es.drop l.toNat).take (h.toNat - l.toNat))) (.slice (if c = l.toNat then ao else ao.map (·.add (l.toNat * k))) (h.toNat - l.toNat) (c - l.toNat)) S' ∧ ∀ x ∈ S', x ∈ S := by
  simp only [RepD] at r ⊢
  obtain ⟨ao', c', h3, h4, h5, h6⟩ := r
  cases h3
  have hlen : ((es.drop l.toNat).take (h.toNat - l.toNat)).length = h.toNat - l.toNat := by simp; omega
  rw [hlen]
  by_cases hz : h.toNat - l.toNat = 0
  · refine ⟨[], ⟨_, _, rfl, by omega, by omega, .inl ⟨?_, rfl⟩⟩, by simp⟩
    rw [hz]; simp
  · rcases h6 with ⟨h6, _⟩ | ⟨b, o, S', rfl, h8, rfl, h9⟩
    · have : es.length = 0 := by rw [h6]; rfl
      omega
    · rw [if_neg (by omega)]
      obtain ⟨U1, g1, g2⟩ := h9.dropT (m := l.toNat)
      obtain ⟨U2, g3, g4⟩ := g1.takeT (m := h.toNat - l.toNat)
      refine ⟨b :: U2, ⟨_, _, rfl, by omega, by omega, .inr ⟨b, o + l.toNat * k, U2, by simp [Addr.add_lit], h8, rfl, g3⟩⟩, ?_⟩
      intro y hy
      rcases List.mem_cons.1 hy with rfl | h'
      · simp
      · simp [g2 y (g4 y h')]

def rowLo (m : Mt) (i : Int) : Int := wr (i * m.cols)
def rowHi (m : Mt) (i : Int) : Int := wr (wr (i + 1) * m.cols)
def m_rowD (m : Mt) (i : Int) : Option (List Int) := bif (decide (0 ≤ rowLo m i) && (decide (rowLo m i ≤ rowHi m i) && decide (rowHi m i ≤ (m.cells.length : Int)))) then some ((m.cells.drop (rowLo m i).toNat).take ((rowHi m i).toNat - (rowLo m i).toNat)) else none
theorem c_rowV (m : Mt) (i : Int) (ao : Option Addr) (n c : Nat) (q : 0 ≤ rowLo m i ∧ rowLo m i ≤ rowHi m i ∧ rowHi m i ≤ n ∧ n ≤ c) : HasC Try.prog 143 [.agg [.int m.rows, .int m.cols, .sc (.slice ao n c)], .int i]
    (.sc (.slice (if c = (rowLo m i).toNat then ao else ao.map (·.add ((rowLo m i).toNat * 1))) ((rowHi m i).toNat - (rowLo m i).toNat) (c - (rowLo m i).toNat))) := by
  refine hasC_mk TT_ok (rvs := [.tmp 4]) (ns := [0, 1, 2, 3, 4, 5, 6, 7, 8, 9, 10, 11, 12, 13]) Try.func143 rfl rfl Try.ntmps143 rfl rfl rfl ?_
  refine ac_seq ?_
  refine ac_region ?_
  refine aops_eff (w_box rfl rfl rfl rfl) rfl rfl rfl ?_
  refine aops_eff (eff_assign rfl) rfl rfl rfl ?_
  refine aops_nil ?_
  refine then_n ?_
  refine ac_seq ?_
  refine ac_region ?_
  refine aops_eff (w_field_ptr TT_ok rfl rfl rfl rfl rfl rfl rfl) rfl rfl rfl ?_
  refine aops_eff (w_load_ptr TT_ok rfl rfl rfl rfl rfl rfl rfl) rfl rfl rfl ?_
  refine aops_eff (eff_move rfl) rfl rfl rfl ?_
  refine aops_eff (w_field_ptr TT_ok rfl rfl rfl rfl rfl rfl rfl) rfl rfl rfl ?_
  refine aops_eff (w_load_ptr TT_ok rfl rfl rfl rfl rfl rfl rfl) rfl rfl rfl ?_
  refine aops_eff (x_mul rfl rfl) rfl rfl rfl ?_
  refine aops_eff (eff_move rfl) rfl rfl rfl ?_
  refine aops_eff (x_add rfl rfl) rfl rfl rfl ?_
  refine aops_eff (w_field_ptr TT_ok rfl rfl rfl rfl rfl rfl rfl) rfl rfl rfl ?_
  refine aops_eff (w_load_ptr TT_ok rfl rfl rfl rfl rfl rfl rfl) rfl rfl rfl ?_
  refine aops_eff (x_mul rfl rfl) rfl rfl rfl ?_
  refine aops_eff (x_slice_sc TT_ok (l := rowLo m i) (h := rowHi m i) q rfl rfl rfl rfl rfl rfl) rfl rfl rfl ?_
  refine aops_eff (eff_assign rfl) rfl rfl rfl ?_
  refine aops_nil ?_
  refine then_n ?_
  refine ac_ret ?_
  exact ret_mk rfl rfl rfl (fz_sc rfl)
theorem c_rowD (m : Mt) (i : Int) (r : List Int) (h : m_rowD m i = some r) : HasV Try.prog 143 [.agg (eM m), .int i] (.list 1 (List.map eI r)) := by
  obtain ⟨q, h⟩ := cg h
  obtain rfl := so h
  simp only [Bool.and_eq_true, decide_eq_true_eq] at q
  refine ⟨Enters.mk Try.func143 (by kernel_rfl) (by kernel_rfl), fun w args S hargs => ?_⟩
  obtain ⟨args⟩ := args
  simp only [RepVs] at hargs
  obtain ⟨v, r, S1, S2, h1, rfl, h3, v2, r2, S3, S4, h4, rfl, h5, rfl, rfl⟩ := hargs
  subst h4 h1
  simp only [RepD, eM] at h3
  obtain ⟨vs, rfl, h3⟩ := h3
  simp only [RepVs] at h3
  obtain ⟨u1, r1, T1, T2, rfl, rfl, g1, u2, r3, T3, T4, rfl, rfl, g2, u3, r4, T5, T6, rfl, rfl, g3, rfl, rfl⟩ := h3
  have hu3 : ∃ ao n c, u3 = .slice ao n c ∧ n = m.cells.length ∧ n ≤ c := by
    simp only [RepD] at g3
    obtain ⟨a, c, rfl, g4, _⟩ := g3
    exact ⟨_, _, _, rfl, by simp [encI_len], g4⟩
  obtain ⟨ao, n, c, rfl, hn, hnc⟩ := hu3
  have hcall := (c_rowV m i ao n c ⟨q.1, q.2.1, by omega, hnc⟩).calls w #[.agg #[u1, u2, .slice ao n c], v2] (T1 ++ (T3 ++ ([] ++ [])) ++ (S3 ++ [])) (by
    simp only [RepVs]
    refine ⟨_, _, _, _, rfl, rfl, ?_, _, _, _, _, rfl, rfl, h5, rfl, rfl⟩
    simp only [RepD]
    refine ⟨[u1, u2, .slice ao n c], rfl, ?_⟩
    simp only [RepVs]
    exact ⟨_, _, _, _, rfl, rfl, by simpa only [RepD] using g1, _, _, _, _, rfl, rfl, by simpa only [RepD] using g2, _, _, [], [], rfl, rfl, repD_sc rfl, rfl, rfl⟩)
  refine hcall.mono fun e w' ⟨v, S', he, hb, hr, _⟩ => ?_
  simp only [ResA, ResB, ResCell] at hr
  obtain ⟨rfl, _, _⟩ := hr
  obtain ⟨U, k1, k2⟩ := part_data (l := rowLo m i) (h := rowHi m i) g3 ⟨q.1, q.2.1, by omega⟩
  refine ⟨_, U, he, hb, ?_, ?_⟩
  · have hes : ((encI m.cells).drop (rowLo m i).toNat).take ((rowHi m i).toNat - (rowLo m i).toNat) = List.map eI ((m.cells.drop (rowLo m i).toNat).take ((rowHi m i).toNat - (rowLo m i).toNat)) := by
      show ((m.cells.map eI).drop _).take _ = _
      rw [List.map_take, List.map_drop]
    rw [← hes]
    exact k1.below hb
  · intro x hx
    have := k2 x hx
    simp [this]

/-! ## a call that leaves all blocks as they are -/
def sameE (hp : Hp) (touch : List Nat) : List (Nat × Option Blk) → Prop
  | [] => True
  | (b, x) :: r => hp b = x ∧ touch.contains b = true ∧ sameE hp touch r
theorem editHp_same {hp h : Hp} {touch : List Nat} (ht : ∀ b ∈ touch, h b = hp b) : ∀ {ed : List (Nat × Option Blk)}, sameE hp touch ed → editHp ed h = h
  | [], _ => rfl
  | (b, x) :: r, ⟨h1, h2, h3⟩ => by
    funext c
    simp only [editHp]
    by_cases e : c = b
    · subst e
      rw [beq_self, cond_true, ← h1, ht c (by simpa using h2)]
    · rw [beq_ne e, cond_false, editHp_same ht h3]
theorem AEff.pureE {P : Program} {o : Oper} {ins : Operand → Option AV} {hp : Hp} {κ : Kp} {v : AV} {tc : List Nat} {ed : List (Nat × Option Blk)} (h : AEff P o ins hp κ ⟨v, tc, ed, []⟩) (hs : sameE hp tc ed) : AEff P o ins hp κ ⟨v, tc, [], []⟩ := by
  refine ⟨fun C s ν a w Q K {hκ} hi ht hn hd hsim hK => h.out C s ν a w Q K (hκ := hκ) hi ht hn hd hsim fun ν' a' w' hs' => hK ν' a' w' ?_⟩
  have e : s.app o.dst ⟨v, tc, ed, []⟩ = s.app o.dst ⟨v, tc, [], []⟩ := by
    unfold AState.app
    rw [editHp_same ht hs]
    rfl
  rw [← e]
  exact hs'
/-! ### Grow -/

theorem run_grow_nil {P : Program} {t tn e bytes : Nat} {size : Nat} (et : ElemTy P t e size bytes) (htn : P.underlying tn = some (.int .i64)) (hs : 0 < size) (w : World) (n : Nat) (h0 : 0 < n) (hn : n ≤ 1048576) (hb : n * bytes ≤ 140737488355328) (ty : Nat) :
    ∃ G cur, n ≤ G ∧ G ≤ maxLen ∧ cur.size = G * size ∧ (Builtin.append_ #[t, tn] ty #[.slice none 0 0, .int .i64 n]).run P w = .ok (.slice (some ⟨w.heap.size, 0, none⟩) n G) (w.drew.alloc (.cells cur e)) := by
  obtain ⟨i, z, h1, h2, h3, h4, h5⟩ := et.hi
  have hold : (Builtin.firstCells i.size 0 (.slice none 0 0)).run P w.drew = .ok ([] : List Value).toArray w.drew := run_firstCells_none w.drew i.size 0 0 0
  have h := Lib.run_append_grow_zeros w t tn ty e i z .i64 .i64 et.ht htn h1 h2 none 0 0 [] hold n h0 (by rw [h3]; exact hs) (by omega) (by omega) (by rw [h4]; omega) (growslice_fits (by omega) (by rw [h4]; simpa using hb))
  have hG := grownCap_ge w (0 + n) 0 e
  have hM := grownCap_le_maxLen w (0 + n) 0 e (by unfold maxLen; omega)
  rw [Nat.zero_add] at h hG hM
  refine ⟨grownCap w n 0 e, _, hG, hM, ?_, h⟩
  simp only [Array.size_append, List.size_toArray, List.length_nil, Nat.zero_add]
  unfold Builtin.zeroCells
  simp only [Array.size_map, Array.size_range, h5]
  rw [← Nat.add_mul]
  congr 1
  omega

set_option maxRecDepth 100000 in
set_option maxHeartbeats 1000000 in
theorem c_GrowI (n : Nat) (w : World) (hn : n ≤ 1048576) :
    Calls Try.prog 171 #[.slice none 0 0, .int .i64 n] w (Ret w fun v w' => ∃ S, Own 3 ShpI w' w.heap.size v [] S) := by
  by_cases h0 : n = 0
  · subst h0
    show Calls Try.prog 171 #[.slice none 0 0, .int .i64 0] w _
    go_enter Try.func171, Try.ntmps171
    go_wp2
    go_ret
    exact ⟨_, rfl, Below.refl _ _, [], Own.nil _ _ _ _⟩
  · have h1 : ¬ ((n : Int) < 0) := by omega
    have h4 : (n : Int) > 0 := by omega
    have key : ∀ ty, ∃ G cur, n ≤ G ∧ G ≤ maxLen ∧ cur.size = G * 1 ∧ (Builtin.append_ #[22, 3] ty #[.slice none 0 0, .int .i64 n]).run Try.prog w = .ok (.slice (some ⟨w.heap.size, 0, none⟩) n G) (w.drew.alloc (.cells cur 3)) := fun ty =>
      run_grow_nil et_I Try.underlying3 (by decide) w n (by omega) hn (by omega) ty
    obtain ⟨G, cur, hG, hM, hc, hr0⟩ := key 22
    have hG63 : G ≤ 9223372036854775807 := by unfold maxLen at hM; omega
    have HE : Hid (Own 3 ShpI (w.drew.alloc (.cells cur 3)) w.heap.size (.slice (some ⟨w.heap.size, 0, none⟩) 0 G) [] [w.heap.size] ∧ Below w.heap.size w (w.drew.alloc (.cells cur 3))) :=
      ⟨⟨[], [], World.ownsRow_made w.drew cur G (Nat.le_refl _) hM hc, ⟨rfl, rfl⟩, rfl, ⟨by simp, by simp⟩⟩, ((below_drewN 1 (Below.refl _ _) : Below w.heap.size w (w.drewN 1))).alloc (Nat.le_refl _) _⟩
    clear key hM hc
    go_enter Try.func171, Try.ntmps171
    go_wp2_with (at_builtin; refine Lib.wpList_append_run _ rfl _ _ _ _ rfl _ _ rfl rfl _ _ hr0 ?_)
    all_goals (go_ret; exact ⟨_, rfl, HE.out.2, _, HE.out.1⟩)
def m_Grow (n : Int) : Option (List Int) := bif (decide (0 ≤ n) && decide (n ≤ 1048576)) then some [] else none
theorem va_nilS {h : Hp} {k : Nat} : viewA h (.nil k) (.sc (.slice none 0 0)) := rfl
theorem c_Grow (n : Int) (r : List Int) (h : m_Grow n = some r) : HasC Try.prog 171 [.sc (.slice none 0 0), .int n] (.list 1 (List.map eI r)) := by
  obtain ⟨q, h⟩ := cg h
  obtain rfl := so h
  simp only [Bool.and_eq_true, decide_eq_true_eq] at q
  refine ⟨Enters.mk Try.func171 (by kernel_rfl) (by kernel_rfl), fun w args S hargs => ?_⟩
  obtain ⟨args⟩ := args
  simp only [RepVs, RepD] at hargs
  obtain ⟨v, r, S1, S2, h1, rfl, ⟨rfl, _, rfl⟩, v2, r2, S3, S4, rfl, rfl, ⟨rfl, _, rfl⟩, rfl, rfl⟩ := hargs
  subst h1
  have hc := c_GrowI n.toNat w (by omega)
  rw [show ((n.toNat : Nat) : Int) = n by omega] at hc
  refine hc.mono fun e w' ⟨v, he, hb, S2, ho⟩ => ?_
  obtain ⟨g1, g2⟩ := ownI_res ho
  exact ⟨v, S2, he, hb, g1, g2⟩
theorem rep_matchS {σ : Nat → Option Nat} {n : Nat} {α : Type} {e : α → List AV} {z : α} {zc : List AV} (h : All2 (matchC σ n) zc (ow e z)) (m : Nat) : All2 (All2 (matchC σ n)) (List.replicate m zc) ((List.replicate m z).map (ow e)) := by
  induction m with
  | zero => rfl
  | succ m ih => exact ⟨_, _, rfl, h, ih⟩
end Go.Proofs.Ytjfcjkeghigipaa
end

section
set_option linter.unusedVariables false
set_option linter.unusedSimpArgs false
/-
  Models and contracts of functions, made by the extractor (ex.py).
-/
namespace Go.Proofs.Ytjfcjkeghigipaa
open Go.RowKit
set_option linter.unusedVariables false
set_option linter.unusedSimpArgs false
set_option maxRecDepth 10000
set_option maxHeartbeats 4000000

def m_impl_within (a0 : Int) (a1 : Int) (a2 : Int) : Option Bool :=
  bif decide (a1 ≤ a0) then
    (some (decide (a0 ≤ a2)))
  else
    (some (false))

theorem c_impl_within (a0 : Int) (a1 : Int) (a2 : Int) (r : Bool) (h : m_impl_within a0 a1 a2 = some r) : HasC Try.prog 77 [.int a0, .int a1, .int a2] (.bl r) := by
  refine hasC_mk TT_ok (rvs := [.tmp 6]) (ns := [0, 1, 2, 3, 4, 5, 6, 7, 8, 9, 10, 11, 12, 13]) Try.func77 rfl rfl Try.ntmps77 rfl rfl rfl ?_
  refine ac_seq ?_
  refine ac_region ?_
  refine aops_eff (eff_assign rfl) rfl rfl rfl ?_
  refine aops_nil ?_
  refine then_n ?_
  refine ac_seq ?_
  refine ac_region ?_
  refine aops_eff (eff_move rfl) rfl rfl rfl ?_
  refine aops_eff (eff_move rfl) rfl rfl rfl ?_
  refine aops_eff (w_cmp rfl rfl rfl) rfl rfl rfl ?_
  refine aops_eff (eff_move rfl) rfl rfl rfl ?_
  rcases cb h with ⟨q1, h⟩ | ⟨q1, h⟩
  · refine aops_lit 10 rfl q1 ?_
    refine aops_eff (eff_move rfl) rfl rfl rfl ?_
    refine aops_eff (eff_move rfl) rfl rfl rfl ?_
    refine aops_eff (w_cmp rfl rfl rfl) rfl rfl rfl ?_
    refine aops_eff (eff_pick rfl rfl) rfl rfl rfl ?_
    refine aops_eff (eff_assign rfl) rfl rfl rfl ?_
    refine aops_nil ?_
    refine then_n ?_
    refine ac_ret ?_
    obtain rfl := so h
    exact ret_mk rfl rfl rfl (fz_bl rfl)
  · refine aops_lit 10 rfl q1 ?_
    refine aops_skip rfl rfl ?_
    refine aops_skip rfl rfl ?_
    refine aops_skip rfl rfl ?_
    refine aops_eff (eff_pick rfl rfl) rfl rfl rfl ?_
    refine aops_eff (eff_assign rfl) rfl rfl rfl ?_
    refine aops_nil ?_
    refine then_n ?_
    refine ac_ret ?_
    obtain rfl := so h
    exact ret_mk rfl rfl rfl (fz_bl rfl)

def m_spec_l1In (a0 : Int) (a1 : Int) (a2 : Int) : Option Bool :=
  bif decide (a1 ≤ a0) then
    (some (decide (a0 ≤ a2)))
  else
    (some (false))

theorem c_spec_l1In (a0 : Int) (a1 : Int) (a2 : Int) (r : Bool) (h : m_spec_l1In a0 a1 a2 = some r) : HasC Try.prog 69 [.int a0, .int a1, .int a2] (.bl r) := by
  refine hasC_mk TT_ok (rvs := [.tmp 6]) (ns := [0, 1, 2, 3, 4, 5, 6, 7, 8, 9, 10, 11, 12, 13]) Try.func69 rfl rfl Try.ntmps69 rfl rfl rfl ?_
  refine ac_seq ?_
  refine ac_region ?_
  refine aops_eff (eff_assign rfl) rfl rfl rfl ?_
  refine aops_nil ?_
  refine then_n ?_
  refine ac_seq ?_
  refine ac_region ?_
  refine aops_eff (eff_move rfl) rfl rfl rfl ?_
  refine aops_eff (eff_move rfl) rfl rfl rfl ?_
  refine aops_eff (w_cmp rfl rfl rfl) rfl rfl rfl ?_
  refine aops_eff (eff_move rfl) rfl rfl rfl ?_
  rcases cb h with ⟨q1, h⟩ | ⟨q1, h⟩
  · refine aops_lit 10 rfl q1 ?_
    refine aops_eff (eff_move rfl) rfl rfl rfl ?_
    refine aops_eff (eff_move rfl) rfl rfl rfl ?_
    refine aops_eff (w_cmp rfl rfl rfl) rfl rfl rfl ?_
    refine aops_eff (eff_pick rfl rfl) rfl rfl rfl ?_
    refine aops_eff (eff_assign rfl) rfl rfl rfl ?_
    refine aops_nil ?_
    refine then_n ?_
    refine ac_ret ?_
    obtain rfl := so h
    exact ret_mk rfl rfl rfl (fz_bl rfl)
  · refine aops_lit 10 rfl q1 ?_
    refine aops_skip rfl rfl ?_
    refine aops_skip rfl rfl ?_
    refine aops_skip rfl rfl ?_
    refine aops_eff (eff_pick rfl rfl) rfl rfl rfl ?_
    refine aops_eff (eff_assign rfl) rfl rfl rfl ?_
    refine aops_nil ?_
    refine then_n ?_
    refine ac_ret ?_
    obtain rfl := so h
    exact ret_mk rfl rfl rfl (fz_bl rfl)

noncomputable def m_impl_sumOf_L1 (a0 : (List Int)) (x1 : (Int × Int)) : Option ((Int × Int) ⊕ Int) :=
  bif decide (x1.2 < (a0.length : Int)) then
    (Option.bind (atL a0 x1.2) fun v2 =>
    some (.inl (wr (x1.1 + v2), wr (x1.2 + 1))))
  else
    (some (.inr x1.1))

noncomputable def m_impl_sumOf (a0 : (List Int)) : Option Int :=
  Option.bind (Lp (m_impl_sumOf_L1 a0) (0, 0)) fun y3 =>
  some (y3)

theorem c_impl_sumOf (a0 : (List Int)) (r : Int) (h : m_impl_sumOf a0 = some r) : HasC Try.prog 132 [.list 1 (List.map eI a0)] (.int r) := by
  refine hasC_mk TT_ok (rvs := [.tmp 2]) (ns := [0, 1, 2, 3, 4, 5, 6, 7, 8, 9, 10, 11, 12, 13]) Try.func132 rfl rfl Try.ntmps132 rfl rfl rfl ?_
  refine ac_seq ?_
  refine ac_region ?_
  refine aops_eff (eff_assign rfl) rfl rfl rfl ?_
  refine aops_nil ?_
  refine then_n ?_
  refine ac_seq ?_
  refine ac_region ?_
  refine aops_eff (eff_assign rfl) rfl rfl rfl ?_
  refine aops_nil ?_
  refine then_n ?_
  refine ac_seq ?_
  refine ac_seq ?_
  refine ac_region ?_
  refine aops_eff (eff_move rfl) rfl rfl rfl ?_
  refine aops_eff (AEff.val (w_len_list TT_ok rfl rfl rfl) (v' := .int (a0.length : Int)) (by first | rw [len_map] | rw [encI_len])) rfl rfl rfl ?_
  refine aops_eff (eff_move rfl) rfl rfl rfl ?_
  refine aops_nil ?_
  refine then_n ?_
  refine ac_block ?_
  obtain ⟨y3, hy3, h⟩ := ob h
  refine ac_Lp (body := (m_impl_sumOf_L1 a0)) hy3 (fun (x1 : (Int × Int)) => mkS [(3, .int x1.1), (6, .list 1 (List.map eI a0)), (7, .int (a0.length : Int)), (8, .int x1.2)] [] 0 [0, 1, 2, 3, 4, 5, 6, 7, 8, 9, 10, 11, 12, 13]) (fun r e t => e = .exit 0 ∧ Ent t (mkS [(3, .int r)] [] 0 [0, 1, 2, 3, 4, 5, 6, 7, 8, 9, 10, 11, 12, 13])) (ent_mk (σ := sg []) ⟨⟨_, rfl, rfl⟩, ⟨_, rfl, ⟨rfl, rfl⟩⟩, ⟨_, rfl, rfl⟩, ⟨_, rfl, rfl⟩, trivial⟩ trivial rfl) ?_ ?_
  · intro x1 o h
    refine ac_seq ?_
    refine ac_region ?_
    refine aops_eff (w_cmp rfl rfl rfl) rfl rfl rfl ?_
    refine aops_nil ?_
    refine then_n ?_
    refine ac_seq ?_
    rcases cb h with ⟨q1, h⟩ | ⟨q1, h⟩
    · refine ac_condT rfl q1 ?_
      refine ac_skip ?_
      refine then_n ?_
      refine ac_seq ?_
      refine ac_block ?_
      refine ac_seq ?_
      refine ac_region ?_
      obtain ⟨v2, hv2, h⟩ := ob h
      refine aops_eff (x_at_list TT_ok hv2 rfl rfl rfl rfl rfl rfl) rfl rfl rfl ?_
      refine aops_eff (w_load_ref TT_ok rfl rfl rfl rfl rfl rfl) rfl rfl rfl ?_
      refine aops_eff (eff_assign rfl) rfl rfl rfl ?_
      refine aops_nil ?_
      refine then_n ?_
      refine ac_region ?_
      refine aops_eff (eff_move rfl) rfl rfl rfl ?_
      refine aops_eff (eff_move rfl) rfl rfl rfl ?_
      refine aops_eff (x_add rfl rfl) rfl rfl rfl ?_
      refine aops_eff (eff_assign rfl) rfl rfl rfl ?_
      refine aops_nil ?_
      refine block_n ?_
      refine then_n ?_
      refine ac_region ?_
      refine aops_eff (x_add rfl rfl) rfl rfl rfl ?_
      refine aops_eff (eff_move rfl) rfl rfl rfl ?_
      refine aops_nil ?_
      refine then_n ?_
      obtain rfl := so h
      exact ⟨_, rfl, (ent_mk (σ := sg []) ⟨⟨_, rfl, rfl⟩, ⟨_, rfl, ⟨rfl, rfl⟩⟩, ⟨_, rfl, rfl⟩, ⟨_, rfl, rfl⟩, trivial⟩ trivial rfl)⟩
    · refine ac_condF rfl q1 ?_
      refine ac_exit ?_
      refine then_exit ?_
      refine then_exit ?_
      obtain rfl := so h
      exact ⟨_, rfl, rfl, (ent_mk (σ := sg []) ⟨⟨_, rfl, rfl⟩, trivial⟩ trivial rfl)⟩
  · rintro e t ⟨rfl, hent⟩
    refine block_here ?_
    refine then_n ?_
    refine ac_ent hent ?_
    refine ac_seq ?_
    refine ac_region ?_
    refine aops_eff (eff_move rfl) rfl rfl rfl ?_
    refine aops_eff (eff_assign rfl) rfl rfl rfl ?_
    refine aops_nil ?_
    refine then_n ?_
    refine ac_ret ?_
    obtain rfl := so h
    exact ret_mk rfl rfl rfl (fz_int rfl)

noncomputable def m_spec_l6Same_L1 (a0 : (List Int)) (a1 : (List Int)) (x1 : Int) : Option (Int ⊕ (Unit ⊕ Bool)) :=
  bif decide (x1 < (a0.length : Int)) then
    (Option.bind (atL a0 x1) fun v3 =>
    Option.bind (atL a1 x1) fun v4 =>
    bif !decide (v3 = v4) then
      (some (.inr (.inr (false))))
    else
      (some (.inl (wr (x1 + 1)))))
  else
    (some (.inr (.inl ())))

noncomputable def m_spec_l6Same (a0 : (List Int)) (a1 : (List Int)) : Option Bool :=
  bif !decide ((a0.length : Int) = (a1.length : Int)) then
    (some (false))
  else
    (Option.bind (Lp (m_spec_l6Same_L1 a0 a1) 0) fun y6 =>
    Sum.elim (fun y7 =>
      some (true)
    ) 
    (fun y8 =>
      some y8
    )
     y6)

theorem c_spec_l6Same (a0 : (List Int)) (a1 : (List Int)) (r : Bool) (h : m_spec_l6Same a0 a1 = some r) : HasC Try.prog 62 [.list 1 (List.map eI a0), .list 1 (List.map eI a1)] (.bl r) := by
  refine hasC_mk TT_ok (rvs := [.tmp 4]) (ns := [0, 1, 2, 3, 4, 5, 6, 7, 8, 9, 10, 11, 12, 13]) Try.func62 rfl rfl Try.ntmps62 rfl rfl rfl ?_
  refine ac_seq ?_
  refine ac_region ?_
  refine aops_eff (eff_assign rfl) rfl rfl rfl ?_
  refine aops_nil ?_
  refine then_n ?_
  refine ac_seq ?_
  refine ac_seq ?_
  refine ac_region ?_
  refine aops_eff (eff_move rfl) rfl rfl rfl ?_
  refine aops_eff (AEff.val (w_len_list TT_ok rfl rfl rfl) (v' := .int (a0.length : Int)) (by first | rw [len_map] | rw [encI_len])) rfl rfl rfl ?_
  refine aops_eff (eff_move rfl) rfl rfl rfl ?_
  refine aops_eff (AEff.val (w_len_list TT_ok rfl rfl rfl) (v' := .int (a1.length : Int)) (by first | rw [len_map] | rw [encI_len])) rfl rfl rfl ?_
  refine aops_eff (w_cmp rfl rfl rfl) rfl rfl rfl ?_
  refine aops_nil ?_
  refine then_n ?_
  rcases cb h with ⟨q1, h⟩ | ⟨q1, h⟩
  · refine ac_condT rfl q1 ?_
    refine ac_seq ?_
    refine ac_region ?_
    refine aops_eff (eff_assign rfl) rfl rfl rfl ?_
    refine aops_nil ?_
    refine then_n ?_
    refine ac_ret ?_
    refine then_ret ?_
    obtain rfl := so h
    exact ret_mk rfl rfl rfl (fz_bl rfl)
  · refine ac_condF rfl q1 ?_
    refine ac_skip ?_
    refine then_n ?_
    refine ac_seq ?_
    refine ac_seq ?_
    refine ac_region ?_
    refine aops_eff (eff_assign rfl) rfl rfl rfl ?_
    refine aops_nil ?_
    refine then_n ?_
    refine ac_block ?_
    obtain ⟨y6, hy6, h⟩ := ob h
    refine ac_Lp (body := (m_spec_l6Same_L1 a0 a1)) hy6 (fun (x1 : Int) => mkS [(0, .list 1 (List.map eI a0)), (1, .list 1 (List.map eI a1)), (5, .int x1)] [] 0 [0, 1, 2, 3, 4, 5, 6, 7, 8, 9, 10, 11, 12, 13]) (fun r e t => Sum.elim (fun a => (fun r e t => e = .exit 0 ∧ Ent t (mkS [] [] 0 [0, 1, 2, 3, 4, 5, 6, 7, 8, 9, 10, 11, 12, 13])) a e t) (fun b => (fun r e t => e = .ret ∧ RetQ TT [.tmp 4] (.bl r) .ret t) b e t) r) (ent_mk (σ := sg []) ⟨⟨_, rfl, ⟨rfl, rfl⟩⟩, ⟨_, rfl, ⟨rfl, rfl⟩⟩, ⟨_, rfl, rfl⟩, trivial⟩ trivial rfl) ?_ ?_
    · intro x1 o h
      refine ac_seq ?_
      refine ac_seq ?_
      refine ac_region ?_
      refine aops_eff (eff_move rfl) rfl rfl rfl ?_
      refine aops_eff (eff_move rfl) rfl rfl rfl ?_
      refine aops_eff (AEff.val (w_len_list TT_ok rfl rfl rfl) (v' := .int (a0.length : Int)) (by first | rw [len_map] | rw [encI_len])) rfl rfl rfl ?_
      refine aops_eff (w_cmp rfl rfl rfl) rfl rfl rfl ?_
      refine aops_nil ?_
      refine then_n ?_
      rcases cb h with ⟨q2, h⟩ | ⟨q2, h⟩
      · refine ac_condT rfl q2 ?_
        refine ac_skip ?_
        refine then_n ?_
        refine ac_seq ?_
        refine ac_block ?_
        refine ac_seq ?_
        refine ac_region_draw MIXX ?_
        refine aops_eff (eff_move rfl) rfl rfl rfl ?_
        refine aops_eff (eff_move rfl) rfl rfl rfl ?_
        obtain ⟨v3, hv3, h⟩ := ob h
        refine aops_eff (x_at_list TT_ok hv3 rfl rfl rfl rfl rfl rfl) rfl rfl rfl ?_
        refine aops_eff (w_load_ref TT_ok rfl rfl rfl rfl rfl rfl) rfl rfl rfl ?_
        refine aops_eff (eff_move rfl) rfl rfl rfl ?_
        refine aops_eff (eff_move rfl) rfl rfl rfl ?_
        obtain ⟨v4, hv4, h⟩ := ob h
        refine aops_eff (x_at_list TT_ok hv4 rfl rfl rfl rfl rfl rfl) rfl rfl rfl ?_
        refine aops_eff (w_load_ref TT_ok rfl rfl rfl rfl rfl rfl) rfl rfl rfl ?_
        refine aops_eff (w_cmp rfl rfl rfl) rfl rfl rfl ?_
        refine aops_nil ?_
        refine ⟨by kernel_rfl, ?_⟩
        refine then_n ?_
        refine ac_ent (t := mkS [(0, .list 1 (List.map eI a0)), (1, .list 1 (List.map eI a1)), (5, .int x1), (25, .bl (!decide (v3 = v4)))] [] 0 [0, 1, 2, 3, 4, 5, 6, 7, 8, 9, 10, 11, 12, 13]) (ent_mk (σ := sg []) ⟨⟨_, rfl, ⟨rfl, rfl⟩⟩, ⟨_, rfl, ⟨rfl, rfl⟩⟩, ⟨_, rfl, rfl⟩, ⟨_, rfl, rfl⟩, trivial⟩ trivial rfl) ?_
        rcases cb h with ⟨q5, h⟩ | ⟨q5, h⟩
        · refine ac_condT rfl q5 ?_
          refine ac_seq ?_
          refine ac_region ?_
          refine aops_eff (eff_assign rfl) rfl rfl rfl ?_
          refine aops_nil ?_
          refine then_n ?_
          refine ac_ret ?_
          refine block_ret ?_
          refine then_ret ?_
          refine then_ret ?_
          obtain rfl := so h
          exact ⟨_, rfl, rfl, ret_mk rfl rfl rfl (fz_bl rfl)⟩
        · refine ac_condF rfl q5 ?_
          refine ac_skip ?_
          refine block_n ?_
          refine then_n ?_
          refine ac_region ?_
          refine aops_eff (eff_move rfl) rfl rfl rfl ?_
          refine aops_eff (x_add rfl rfl) rfl rfl rfl ?_
          refine aops_eff (eff_assign rfl) rfl rfl rfl ?_
          refine aops_nil ?_
          refine then_n ?_
          obtain rfl := so h
          exact ⟨_, rfl, (ent_mk (σ := sg []) ⟨⟨_, rfl, ⟨rfl, rfl⟩⟩, ⟨_, rfl, ⟨rfl, rfl⟩⟩, ⟨_, rfl, rfl⟩, trivial⟩ trivial rfl)⟩
      · refine ac_condF rfl q2 ?_
        refine ac_exit ?_
        refine then_exit ?_
        refine then_exit ?_
        obtain rfl := so h
        exact ⟨_, rfl, rfl, (ent_mk (σ := sg []) trivial trivial rfl)⟩
    · intro e t hX
      rcases y6 with y7 | y8
      · obtain ⟨rfl, hent⟩ := hX
        refine block_here ?_
        refine then_n ?_
        refine ac_ent hent ?_
        refine ac_seq ?_
        refine ac_region ?_
        refine aops_eff (eff_assign rfl) rfl rfl rfl ?_
        refine aops_nil ?_
        refine then_n ?_
        refine ac_ret ?_
        obtain rfl := so h
        exact ret_mk rfl rfl rfl (fz_bl rfl)
      · obtain ⟨rfl, hent⟩ := hX
        refine block_ret ?_
        refine then_ret ?_
        obtain rfl := so h
        exact hent

noncomputable def m_slices_Equal_Lint_int_L1 (a0 : (List Int)) (a1 : (List Int)) (x1 : Int) : Option (Int ⊕ (Unit ⊕ Bool)) :=
  bif decide (x1 < (a0.length : Int)) then
    (Option.bind (atL a0 x1) fun v3 =>
    Option.bind (atL a1 x1) fun v4 =>
    bif !decide (v3 = v4) then
      (some (.inr (.inr (false))))
    else
      (some (.inl (wr (x1 + 1)))))
  else
    (some (.inr (.inl ())))

noncomputable def m_slices_Equal_Lint_int (a0 : (List Int)) (a1 : (List Int)) : Option Bool :=
  bif !decide ((a0.length : Int) = (a1.length : Int)) then
    (some (false))
  else
    (Option.bind (Lp (m_slices_Equal_Lint_int_L1 a0 a1) 0) fun y6 =>
    Sum.elim (fun y7 =>
      some (true)
    ) 
    (fun y8 =>
      some y8
    )
     y6)

theorem c_slices_Equal_Lint_int (a0 : (List Int)) (a1 : (List Int)) (r : Bool) (h : m_slices_Equal_Lint_int a0 a1 = some r) : HasC Try.prog 64 [.list 1 (List.map eI a0), .list 1 (List.map eI a1)] (.bl r) := by
  refine hasC_mk TT_ok (rvs := [.tmp 4]) (ns := [0, 1, 2, 3, 4, 5, 6, 7, 8, 9, 10, 11, 12, 13]) Try.func64 rfl rfl Try.ntmps64 rfl rfl rfl ?_
  refine ac_seq ?_
  refine ac_region ?_
  refine aops_eff (eff_assign rfl) rfl rfl rfl ?_
  refine aops_nil ?_
  refine then_n ?_
  refine ac_seq ?_
  refine ac_seq ?_
  refine ac_region ?_
  refine aops_eff (eff_move rfl) rfl rfl rfl ?_
  refine aops_eff (AEff.val (w_len_list TT_ok rfl rfl rfl) (v' := .int (a0.length : Int)) (by first | rw [len_map] | rw [encI_len])) rfl rfl rfl ?_
  refine aops_eff (eff_move rfl) rfl rfl rfl ?_
  refine aops_eff (AEff.val (w_len_list TT_ok rfl rfl rfl) (v' := .int (a1.length : Int)) (by first | rw [len_map] | rw [encI_len])) rfl rfl rfl ?_
  refine aops_eff (w_cmp rfl rfl rfl) rfl rfl rfl ?_
  refine aops_nil ?_
  refine then_n ?_
  rcases cb h with ⟨q1, h⟩ | ⟨q1, h⟩
  · refine ac_condT rfl q1 ?_
    refine ac_seq ?_
    refine ac_region ?_
    refine aops_eff (eff_assign rfl) rfl rfl rfl ?_
    refine aops_nil ?_
    refine then_n ?_
    refine ac_ret ?_
    refine then_ret ?_
    obtain rfl := so h
    exact ret_mk rfl rfl rfl (fz_bl rfl)
  · refine ac_condF rfl q1 ?_
    refine ac_skip ?_
    refine then_n ?_
    refine ac_seq ?_
    refine ac_seq ?_
    refine ac_region ?_
    refine aops_eff (eff_move rfl) rfl rfl rfl ?_
    refine aops_eff (AEff.val (w_len_list TT_ok rfl rfl rfl) (v' := .int (a0.length : Int)) (by first | rw [len_map] | rw [encI_len])) rfl rfl rfl ?_
    refine aops_eff (eff_move rfl) rfl rfl rfl ?_
    refine aops_nil ?_
    refine then_n ?_
    refine ac_block ?_
    obtain ⟨y6, hy6, h⟩ := ob h
    refine ac_Lp (body := (m_slices_Equal_Lint_int_L1 a0 a1)) hy6 (fun (x1 : Int) => mkS [(0, .list 1 (List.map eI a0)), (1, .list 1 (List.map eI a1)), (12, .int (a0.length : Int)), (13, .int x1)] [] 0 [0, 1, 2, 3, 4, 5, 6, 7, 8, 9, 10, 11, 12, 13]) (fun r e t => Sum.elim (fun a => (fun r e t => e = .exit 0 ∧ Ent t (mkS [] [] 0 [0, 1, 2, 3, 4, 5, 6, 7, 8, 9, 10, 11, 12, 13])) a e t) (fun b => (fun r e t => e = .ret ∧ RetQ TT [.tmp 4] (.bl r) .ret t) b e t) r) (ent_mk (σ := sg []) ⟨⟨_, rfl, ⟨rfl, rfl⟩⟩, ⟨_, rfl, ⟨rfl, rfl⟩⟩, ⟨_, rfl, rfl⟩, ⟨_, rfl, rfl⟩, trivial⟩ trivial rfl) ?_ ?_
    · intro x1 o h
      refine ac_seq ?_
      refine ac_region ?_
      refine aops_eff (w_cmp rfl rfl rfl) rfl rfl rfl ?_
      refine aops_nil ?_
      refine then_n ?_
      refine ac_seq ?_
      rcases cb h with ⟨q2, h⟩ | ⟨q2, h⟩
      · refine ac_condT rfl q2 ?_
        refine ac_skip ?_
        refine then_n ?_
        refine ac_seq ?_
        refine ac_block ?_
        refine ac_seq ?_
        refine ac_region ?_
        refine aops_eff (eff_move rfl) rfl rfl rfl ?_
        refine aops_eff (eff_assign rfl) rfl rfl rfl ?_
        refine aops_nil ?_
        refine then_n ?_
        refine ac_seq ?_
        refine ac_region_draw MIXX ?_
        refine aops_eff (eff_move rfl) rfl rfl rfl ?_
        refine aops_eff (eff_move rfl) rfl rfl rfl ?_
        obtain ⟨v3, hv3, h⟩ := ob h
        refine aops_eff (x_at_list TT_ok hv3 rfl rfl rfl rfl rfl rfl) rfl rfl rfl ?_
        refine aops_eff (w_load_ref TT_ok rfl rfl rfl rfl rfl rfl) rfl rfl rfl ?_
        refine aops_eff (eff_move rfl) rfl rfl rfl ?_
        refine aops_eff (eff_move rfl) rfl rfl rfl ?_
        obtain ⟨v4, hv4, h⟩ := ob h
        refine aops_eff (x_at_list TT_ok hv4 rfl rfl rfl rfl rfl rfl) rfl rfl rfl ?_
        refine aops_eff (w_load_ref TT_ok rfl rfl rfl rfl rfl rfl) rfl rfl rfl ?_
        refine aops_eff (w_cmp rfl rfl rfl) rfl rfl rfl ?_
        refine aops_nil ?_
        refine ⟨by kernel_rfl, ?_⟩
        refine then_n ?_
        refine ac_ent (t := mkS [(0, .list 1 (List.map eI a0)), (1, .list 1 (List.map eI a1)), (12, .int (a0.length : Int)), (13, .int x1), (24, .bl (!decide (v3 = v4)))] [] 0 [0, 1, 2, 3, 4, 5, 6, 7, 8, 9, 10, 11, 12, 13]) (ent_mk (σ := sg []) ⟨⟨_, rfl, ⟨rfl, rfl⟩⟩, ⟨_, rfl, ⟨rfl, rfl⟩⟩, ⟨_, rfl, rfl⟩, ⟨_, rfl, rfl⟩, ⟨_, rfl, rfl⟩, trivial⟩ trivial rfl) ?_
        rcases cb h with ⟨q5, h⟩ | ⟨q5, h⟩
        · refine ac_condT rfl q5 ?_
          refine ac_seq ?_
          refine ac_region ?_
          refine aops_eff (eff_assign rfl) rfl rfl rfl ?_
          refine aops_nil ?_
          refine then_n ?_
          refine ac_ret ?_
          refine block_ret ?_
          refine then_ret ?_
          refine then_ret ?_
          obtain rfl := so h
          exact ⟨_, rfl, rfl, ret_mk rfl rfl rfl (fz_bl rfl)⟩
        · refine ac_condF rfl q5 ?_
          refine ac_skip ?_
          refine block_n ?_
          refine then_n ?_
          refine ac_region ?_
          refine aops_eff (x_add rfl rfl) rfl rfl rfl ?_
          refine aops_eff (eff_move rfl) rfl rfl rfl ?_
          refine aops_nil ?_
          refine then_n ?_
          obtain rfl := so h
          exact ⟨_, rfl, (ent_mk (σ := sg []) ⟨⟨_, rfl, ⟨rfl, rfl⟩⟩, ⟨_, rfl, ⟨rfl, rfl⟩⟩, ⟨_, rfl, rfl⟩, ⟨_, rfl, rfl⟩, trivial⟩ trivial rfl)⟩
      · refine ac_condF rfl q2 ?_
        refine ac_exit ?_
        refine then_exit ?_
        refine then_exit ?_
        obtain rfl := so h
        exact ⟨_, rfl, rfl, (ent_mk (σ := sg []) trivial trivial rfl)⟩
    · intro e t hX
      rcases y6 with y7 | y8
      · obtain ⟨rfl, hent⟩ := hX
        refine block_here ?_
        refine then_n ?_
        refine ac_ent hent ?_
        refine ac_seq ?_
        refine ac_region ?_
        refine aops_eff (eff_assign rfl) rfl rfl rfl ?_
        refine aops_nil ?_
        refine then_n ?_
        refine ac_ret ?_
        obtain rfl := so h
        exact ret_mk rfl rfl rfl (fz_bl rfl)
      · obtain ⟨rfl, hent⟩ := hX
        refine block_ret ?_
        refine then_ret ?_
        obtain rfl := so h
        exact hent

def m_spec_IsField (a0 : Int) : Option Bool :=
  bif decide (a0 = 2) then
    (some (true))
  else
    (bif decide (a0 = 3) then
      (some (true))
    else
      (some (decide (a0 = 5))))

theorem c_spec_IsField (a0 : Int) (r : Bool) (h : m_spec_IsField a0 = some r) : HasC Try.prog 68 [.int a0] (.bl r) := by
  refine hasC_mk TT_ok (rvs := [.tmp 2]) (ns := [0, 1, 2, 3, 4, 5, 6, 7, 8, 9, 10, 11, 12, 13]) Try.func68 rfl rfl Try.ntmps68 rfl rfl rfl ?_
  refine ac_seq ?_
  refine ac_region ?_
  refine aops_eff (eff_assign rfl) rfl rfl rfl ?_
  refine aops_nil ?_
  refine then_n ?_
  refine ac_seq ?_
  refine ac_region ?_
  refine aops_eff (eff_move rfl) rfl rfl rfl ?_
  refine aops_eff (w_cmp rfl rfl rfl) rfl rfl rfl ?_
  refine aops_eff (eff_move rfl) rfl rfl rfl ?_
  rcases cb h with ⟨q1, h⟩ | ⟨q1, h⟩
  · refine aops_lit 5 rfl q1 ?_
    refine aops_skip rfl rfl ?_
    refine aops_skip rfl rfl ?_
    refine aops_eff (eff_pick rfl rfl) rfl rfl rfl ?_
    refine aops_eff (eff_move rfl) rfl rfl rfl ?_
    refine aops_skip rfl rfl ?_
    refine aops_skip rfl rfl ?_
    refine aops_eff (eff_pick rfl rfl) rfl rfl rfl ?_
    refine aops_eff (eff_assign rfl) rfl rfl rfl ?_
    refine aops_nil ?_
    refine then_n ?_
    refine ac_ent (t := mkS [(2, .bl true)] [] 0 [0, 1, 2, 3, 4, 5, 6, 7, 8, 9, 10, 11, 12, 13]) (ent_mk (σ := sg []) ⟨⟨_, rfl, rfl⟩, trivial⟩ trivial rfl) ?_
    refine ac_ret ?_
    obtain rfl := so h
    exact ret_mk rfl rfl rfl (fz_bl rfl)
  · refine aops_lit 5 rfl q1 ?_
    refine aops_eff (eff_move rfl) rfl rfl rfl ?_
    refine aops_eff (w_cmp rfl rfl rfl) rfl rfl rfl ?_
    refine aops_eff (eff_pick rfl rfl) rfl rfl rfl ?_
    refine aops_eff (eff_move rfl) rfl rfl rfl ?_
    rcases cb h with ⟨q2, h⟩ | ⟨q2, h⟩
    · refine aops_lit 9 rfl q2 ?_
      refine aops_skip rfl rfl ?_
      refine aops_skip rfl rfl ?_
      refine aops_eff (eff_pick rfl rfl) rfl rfl rfl ?_
      refine aops_eff (eff_assign rfl) rfl rfl rfl ?_
      refine aops_nil ?_
      refine then_n ?_
      refine ac_ent (t := mkS [(2, .bl true)] [] 0 [0, 1, 2, 3, 4, 5, 6, 7, 8, 9, 10, 11, 12, 13]) (ent_mk (σ := sg []) ⟨⟨_, rfl, rfl⟩, trivial⟩ trivial rfl) ?_
      refine ac_ret ?_
      obtain rfl := so h
      exact ret_mk rfl rfl rfl (fz_bl rfl)
    · refine aops_lit 9 rfl q2 ?_
      refine aops_eff (eff_move rfl) rfl rfl rfl ?_
      refine aops_eff (w_cmp rfl rfl rfl) rfl rfl rfl ?_
      refine aops_eff (eff_pick rfl rfl) rfl rfl rfl ?_
      refine aops_eff (eff_assign rfl) rfl rfl rfl ?_
      refine aops_nil ?_
      refine then_n ?_
      refine ac_ent (t := mkS [(2, .bl (decide (a0 = 5)))] [] 0 [0, 1, 2, 3, 4, 5, 6, 7, 8, 9, 10, 11, 12, 13]) (ent_mk (σ := sg []) ⟨⟨_, rfl, rfl⟩, trivial⟩ trivial rfl) ?_
      refine ac_ret ?_
      obtain rfl := so h
      exact ret_mk rfl rfl rfl (fz_bl rfl)

def m_impl_IsField (a0 : Int) : Option Bool :=
  bif decide (a0 = 2) then
    (some (true))
  else
    (bif decide (a0 = 3) then
      (some (true))
    else
      (some (decide (a0 = 5))))

theorem c_impl_IsField (a0 : Int) (r : Bool) (h : m_impl_IsField a0 = some r) : HasC Try.prog 76 [.int a0] (.bl r) := by
  refine hasC_mk TT_ok (rvs := [.tmp 2]) (ns := [0, 1, 2, 3, 4, 5, 6, 7, 8, 9, 10, 11, 12, 13]) Try.func76 rfl rfl Try.ntmps76 rfl rfl rfl ?_
  refine ac_seq ?_
  refine ac_region ?_
  refine aops_eff (eff_assign rfl) rfl rfl rfl ?_
  refine aops_nil ?_
  refine then_n ?_
  refine ac_seq ?_
  refine ac_region ?_
  refine aops_eff (eff_move rfl) rfl rfl rfl ?_
  refine aops_eff (w_cmp rfl rfl rfl) rfl rfl rfl ?_
  refine aops_eff (eff_move rfl) rfl rfl rfl ?_
  rcases cb h with ⟨q1, h⟩ | ⟨q1, h⟩
  · refine aops_lit 5 rfl q1 ?_
    refine aops_skip rfl rfl ?_
    refine aops_skip rfl rfl ?_
    refine aops_eff (eff_pick rfl rfl) rfl rfl rfl ?_
    refine aops_eff (eff_move rfl) rfl rfl rfl ?_
    refine aops_skip rfl rfl ?_
    refine aops_skip rfl rfl ?_
    refine aops_eff (eff_pick rfl rfl) rfl rfl rfl ?_
    refine aops_eff (eff_assign rfl) rfl rfl rfl ?_
    refine aops_nil ?_
    refine then_n ?_
    refine ac_ent (t := mkS [(2, .bl true)] [] 0 [0, 1, 2, 3, 4, 5, 6, 7, 8, 9, 10, 11, 12, 13]) (ent_mk (σ := sg []) ⟨⟨_, rfl, rfl⟩, trivial⟩ trivial rfl) ?_
    refine ac_ret ?_
    obtain rfl := so h
    exact ret_mk rfl rfl rfl (fz_bl rfl)
  · refine aops_lit 5 rfl q1 ?_
    refine aops_eff (eff_move rfl) rfl rfl rfl ?_
    refine aops_eff (w_cmp rfl rfl rfl) rfl rfl rfl ?_
    refine aops_eff (eff_pick rfl rfl) rfl rfl rfl ?_
    refine aops_eff (eff_move rfl) rfl rfl rfl ?_
    rcases cb h with ⟨q2, h⟩ | ⟨q2, h⟩
    · refine aops_lit 9 rfl q2 ?_
      refine aops_skip rfl rfl ?_
      refine aops_skip rfl rfl ?_
      refine aops_eff (eff_pick rfl rfl) rfl rfl rfl ?_
      refine aops_eff (eff_assign rfl) rfl rfl rfl ?_
      refine aops_nil ?_
      refine then_n ?_
      refine ac_ent (t := mkS [(2, .bl true)] [] 0 [0, 1, 2, 3, 4, 5, 6, 7, 8, 9, 10, 11, 12, 13]) (ent_mk (σ := sg []) ⟨⟨_, rfl, rfl⟩, trivial⟩ trivial rfl) ?_
      refine ac_ret ?_
      obtain rfl := so h
      exact ret_mk rfl rfl rfl (fz_bl rfl)
    · refine aops_lit 9 rfl q2 ?_
      refine aops_eff (eff_move rfl) rfl rfl rfl ?_
      refine aops_eff (w_cmp rfl rfl rfl) rfl rfl rfl ?_
      refine aops_eff (eff_pick rfl rfl) rfl rfl rfl ?_
      refine aops_eff (eff_assign rfl) rfl rfl rfl ?_
      refine aops_nil ?_
      refine then_n ?_
      refine ac_ent (t := mkS [(2, .bl (decide (a0 = 5)))] [] 0 [0, 1, 2, 3, 4, 5, 6, 7, 8, 9, 10, 11, 12, 13]) (ent_mk (σ := sg []) ⟨⟨_, rfl, rfl⟩, trivial⟩ trivial rfl) ?_
      refine ac_ret ?_
      obtain rfl := so h
      exact ret_mk rfl rfl rfl (fz_bl rfl)

noncomputable def m_spec_IsQuiver_L1 (a0 : Qv) (x1 : Int) : Option (Int ⊕ (Unit ⊕ Bool)) :=
  bif decide (x1 < (a0.src.length : Int)) then
    (bif decide (x1 < (a0.tgt.length : Int)) then
      (Option.bind (atL a0.src x1) fun v3 =>
      Option.bind (m_spec_l1In v3 0 (wr (a0.n - 1))) fun v4 =>
      bif !v4 then
        (some (.inr (.inr (false))))
      else
        (Option.bind (atL a0.tgt x1) fun v6 =>
        Option.bind (m_spec_l1In v6 0 (wr (a0.n - 1))) fun v7 =>
        bif !v7 then
          (some (.inr (.inr (false))))
        else
          (some (.inl (wr (x1 + 1))))))
    else
      (some (.inr (.inl ()))))
  else
    (some (.inr (.inl ())))

noncomputable def m_spec_IsQuiver (a0 : Qv) : Option Bool :=
  Option.bind (Lp (m_spec_IsQuiver_L1 a0) 0) fun y9 =>
  Sum.elim (fun y10 =>
    Option.bind (m_spec_l1In a0.n 1 5) fun v11 =>
    bif v11 then
      (bif decide ((a0.src.length : Int) ≤ 6) then
        (some (decide ((a0.tgt.length : Int) = (a0.src.length : Int))))
      else
        (some (false)))
    else
      (some (false))
  ) 
  (fun y14 =>
    some y14
  )
   y9

theorem c_spec_IsQuiver (a0 : Qv) (r : Bool) (h : m_spec_IsQuiver a0 = some r) : HasC Try.prog 110 [.agg (eQ a0)] (.bl r) := by
  refine hasC_mk TT_ok (rvs := [.tmp 2]) (ns := [0, 1, 2, 3, 4, 5, 6, 7, 8, 9, 10, 11, 12, 13]) Try.func110 rfl rfl Try.ntmps110 rfl rfl rfl ?_
  refine ac_seq ?_
  refine ac_region ?_
  refine aops_eff (w_box rfl rfl rfl rfl) rfl rfl rfl ?_
  refine aops_eff (eff_assign rfl) rfl rfl rfl ?_
  refine aops_nil ?_
  refine then_n ?_
  refine ac_seq ?_
  refine ac_seq ?_
  refine ac_region ?_
  refine aops_eff (eff_assign rfl) rfl rfl rfl ?_
  refine aops_nil ?_
  refine then_n ?_
  refine ac_block ?_
  obtain ⟨y9, hy9, h⟩ := ob h
  refine ac_Lp (body := (m_spec_IsQuiver_L1 a0)) hy9 (fun (x1 : Int) => mkS [(1, .ptr 0 0 0), (3, .int x1)] [(0, ⟨3, [[.int a0.n, .list 1 (List.map eI a0.src), .list 1 (List.map eI a0.tgt)]]⟩)] 1 [1, 2, 3, 4, 5, 6, 7, 8, 9, 10, 11, 12, 13, 14]) (fun r e t => Sum.elim (fun a => (fun r e t => e = .exit 0 ∧ Ent t (mkS [(1, .ptr 0 0 0)] [(0, ⟨3, [[.int a0.n, .list 1 (List.map eI a0.src), .list 1 (List.map eI a0.tgt)]]⟩)] 1 [1, 2, 3, 4, 5, 6, 7, 8, 9, 10, 11, 12, 13, 14])) a e t) (fun b => (fun r e t => e = .ret ∧ RetQ TT [.tmp 2] (.bl r) .ret t) b e t) r) (ent_mk (σ := sg [(0, 0)]) ⟨⟨_, rfl, ⟨rfl, rfl, rfl, rfl⟩⟩, ⟨_, rfl, rfl⟩, trivial⟩ ⟨⟨_, rfl, rfl, .inl ⟨rfl, plain_of rfl⟩⟩, rfl, trivial⟩ rfl) ?_ ?_
  · intro x1 o h
    refine ac_seq ?_
    refine ac_seq ?_
    refine ac_region ?_
    refine aops_eff (eff_move rfl) rfl rfl rfl ?_
    refine aops_eff (w_field_ptr TT_ok rfl rfl rfl rfl rfl rfl rfl) rfl rfl rfl ?_
    refine aops_eff (w_load_ptr TT_ok rfl rfl rfl rfl rfl rfl rfl) rfl rfl rfl ?_
    refine aops_eff (AEff.val (w_len_list TT_ok rfl rfl rfl) (v' := .int (a0.src.length : Int)) (by first | rw [len_map] | rw [encI_len])) rfl rfl rfl ?_
    refine aops_eff (w_cmp rfl rfl rfl) rfl rfl rfl ?_
    refine aops_eff (eff_move rfl) rfl rfl rfl ?_
    rcases cb h with ⟨q1, h⟩ | ⟨q1, h⟩
    · refine aops_lit 9 rfl q1 ?_
      refine aops_eff (eff_move rfl) rfl rfl rfl ?_
      refine aops_eff (w_field_ptr TT_ok rfl rfl rfl rfl rfl rfl rfl) rfl rfl rfl ?_
      refine aops_eff (w_load_ptr TT_ok rfl rfl rfl rfl rfl rfl rfl) rfl rfl rfl ?_
      refine aops_eff (AEff.val (w_len_list TT_ok rfl rfl rfl) (v' := .int (a0.tgt.length : Int)) (by first | rw [len_map] | rw [encI_len])) rfl rfl rfl ?_
      refine aops_eff (w_cmp rfl rfl rfl) rfl rfl rfl ?_
      refine aops_eff (eff_pick rfl rfl) rfl rfl rfl ?_
      refine aops_nil ?_
      refine then_n ?_
      refine ac_ent (t := mkS [(1, .ptr 0 0 0), (3, .int x1), (15, .bl (decide (x1 < (a0.tgt.length : Int))))] [(0, ⟨3, [[.int a0.n, .list 1 (List.map eI a0.src), .list 1 (List.map eI a0.tgt)]]⟩)] 1 [1, 2, 3, 4, 5, 6, 7, 8, 9, 10, 11, 12, 13, 14]) (ent_mk (σ := sg [(0, 0)]) ⟨⟨_, rfl, ⟨rfl, rfl, rfl, rfl⟩⟩, ⟨_, rfl, rfl⟩, ⟨_, rfl, rfl⟩, trivial⟩ ⟨⟨_, rfl, rfl, .inl ⟨rfl, plain_of rfl⟩⟩, rfl, trivial⟩ rfl) ?_
      rcases cb h with ⟨q2, h⟩ | ⟨q2, h⟩
      · refine ac_condT rfl q2 ?_
        refine ac_skip ?_
        refine then_n ?_
        refine ac_seq ?_
        refine ac_block ?_
        refine ac_seq ?_
        refine ac_region_draw MIXX ?_
        refine aops_eff (w_field_ptr TT_ok rfl rfl rfl rfl rfl rfl rfl) rfl rfl rfl ?_
        refine aops_eff (w_load_ptr TT_ok rfl rfl rfl rfl rfl rfl rfl) rfl rfl rfl ?_
        refine aops_eff (eff_move rfl) rfl rfl rfl ?_
        obtain ⟨v3, hv3, h⟩ := ob h
        refine aops_eff (x_at_list TT_ok hv3 rfl rfl rfl rfl rfl rfl) rfl rfl rfl ?_
        refine aops_eff (w_load_ref TT_ok rfl rfl rfl rfl rfl rfl) rfl rfl rfl ?_
        refine aops_eff (w_field_ptr TT_ok rfl rfl rfl rfl rfl rfl rfl) rfl rfl rfl ?_
        refine aops_eff (w_load_ptr TT_ok rfl rfl rfl rfl rfl rfl rfl) rfl rfl rfl ?_
        refine aops_eff (x_sub rfl rfl) rfl rfl rfl ?_
        obtain ⟨v4, hv4, h⟩ := ob h
        refine aops_eff (w_call0s (c_spec_l1In v3 0 (wr (a0.n - 1)) v4 hv4) rfl (va_cons (va_same rfl) (va_cons (va_same rfl) (va_cons (va_same rfl) va_nil)))) rfl rfl rfl ?_
        refine aops_eff (w_not rfl) rfl rfl rfl ?_
        refine aops_eff (eff_move rfl) rfl rfl rfl ?_
        rcases cb h with ⟨q5, h⟩ | ⟨q5, h⟩
        · refine aops_lit 28 rfl q5 ?_
          refine aops_skip rfl rfl ?_
          refine aops_skip rfl rfl ?_
          refine aops_skip rfl rfl ?_
          refine aops_skip rfl rfl ?_
          refine aops_skip rfl rfl ?_
          refine aops_skip rfl rfl ?_
          refine aops_skip rfl rfl ?_
          refine aops_skip rfl rfl ?_
          refine aops_skip rfl rfl ?_
          refine aops_skip rfl rfl ?_
          refine aops_eff (eff_pick rfl rfl) rfl rfl rfl ?_
          refine aops_nil ?_
          refine ⟨by kernel_rfl, ?_⟩
          refine then_n ?_
          refine ac_ent (t := mkS [(1, .ptr 0 0 0), (3, .int x1), (39, .bl true)] [(0, ⟨3, [[.int a0.n, .list 1 (List.map eI a0.src), .list 1 (List.map eI a0.tgt)]]⟩)] 1 [1, 2, 3, 4, 5, 6, 7, 8, 9, 10, 11, 12, 13, 14]) (ent_mk (σ := sg [(0, 0)]) ⟨⟨_, rfl, ⟨rfl, rfl, rfl, rfl⟩⟩, ⟨_, rfl, rfl⟩, ⟨_, rfl, rfl⟩, trivial⟩ ⟨⟨_, rfl, rfl, .inl ⟨rfl, plain_of rfl⟩⟩, rfl, trivial⟩ rfl) ?_
          refine ac_condT rfl rfl ?_
          refine ac_seq ?_
          refine ac_region ?_
          refine aops_eff (eff_assign rfl) rfl rfl rfl ?_
          refine aops_nil ?_
          refine then_n ?_
          refine ac_ret ?_
          refine block_ret ?_
          refine then_ret ?_
          refine then_ret ?_
          obtain rfl := so h
          exact ⟨_, rfl, rfl, ret_mk rfl rfl rfl (fz_bl rfl)⟩
        · refine aops_lit 28 rfl q5 ?_
          refine aops_eff (w_field_ptr TT_ok rfl rfl rfl rfl rfl rfl rfl) rfl rfl rfl ?_
          refine aops_eff (w_load_ptr TT_ok rfl rfl rfl rfl rfl rfl rfl) rfl rfl rfl ?_
          refine aops_eff (eff_move rfl) rfl rfl rfl ?_
          obtain ⟨v6, hv6, h⟩ := ob h
          refine aops_eff (x_at_list TT_ok hv6 rfl rfl rfl rfl rfl rfl) rfl rfl rfl ?_
          refine aops_eff (w_load_ref TT_ok rfl rfl rfl rfl rfl rfl) rfl rfl rfl ?_
          refine aops_eff (w_field_ptr TT_ok rfl rfl rfl rfl rfl rfl rfl) rfl rfl rfl ?_
          refine aops_eff (w_load_ptr TT_ok rfl rfl rfl rfl rfl rfl rfl) rfl rfl rfl ?_
          refine aops_eff (x_sub rfl rfl) rfl rfl rfl ?_
          obtain ⟨v7, hv7, h⟩ := ob h
          refine aops_eff (w_call0s (c_spec_l1In v6 0 (wr (a0.n - 1)) v7 hv7) rfl (va_cons (va_same rfl) (va_cons (va_same rfl) (va_cons (va_same rfl) va_nil)))) rfl rfl rfl ?_
          refine aops_eff (w_not rfl) rfl rfl rfl ?_
          refine aops_eff (eff_pick rfl rfl) rfl rfl rfl ?_
          refine aops_nil ?_
          refine ⟨by kernel_rfl, ?_⟩
          refine then_n ?_
          refine ac_ent (t := mkS [(1, .ptr 0 0 0), (3, .int x1), (39, .bl (!v7))] [(0, ⟨3, [[.int a0.n, .list 1 (List.map eI a0.src), .list 1 (List.map eI a0.tgt)]]⟩)] 1 [1, 2, 3, 4, 5, 6, 7, 8, 9, 10, 11, 12, 13, 14]) (ent_mk (σ := sg [(0, 0)]) ⟨⟨_, rfl, ⟨rfl, rfl, rfl, rfl⟩⟩, ⟨_, rfl, rfl⟩, ⟨_, rfl, rfl⟩, trivial⟩ ⟨⟨_, rfl, rfl, .inl ⟨rfl, plain_of rfl⟩⟩, rfl, trivial⟩ rfl) ?_
          rcases cb h with ⟨q8, h⟩ | ⟨q8, h⟩
          · refine ac_condT rfl q8 ?_
            refine ac_seq ?_
            refine ac_region ?_
            refine aops_eff (eff_assign rfl) rfl rfl rfl ?_
            refine aops_nil ?_
            refine then_n ?_
            refine ac_ret ?_
            refine block_ret ?_
            refine then_ret ?_
            refine then_ret ?_
            obtain rfl := so h
            exact ⟨_, rfl, rfl, ret_mk rfl rfl rfl (fz_bl rfl)⟩
          · refine ac_condF rfl q8 ?_
            refine ac_skip ?_
            refine block_n ?_
            refine then_n ?_
            refine ac_region ?_
            refine aops_eff (eff_move rfl) rfl rfl rfl ?_
            refine aops_eff (x_add rfl rfl) rfl rfl rfl ?_
            refine aops_eff (eff_assign rfl) rfl rfl rfl ?_
            refine aops_nil ?_
            refine then_n ?_
            obtain rfl := so h
            exact ⟨_, rfl, (ent_mk (σ := sg [(0, 0)]) ⟨⟨_, rfl, ⟨rfl, rfl, rfl, rfl⟩⟩, ⟨_, rfl, rfl⟩, trivial⟩ ⟨⟨_, rfl, rfl, .inl ⟨rfl, plain_of rfl⟩⟩, rfl, trivial⟩ rfl)⟩
      · refine ac_condF rfl q2 ?_
        refine ac_exit ?_
        refine then_exit ?_
        refine then_exit ?_
        obtain rfl := so h
        exact ⟨_, rfl, rfl, (ent_mk (σ := sg [(0, 0)]) ⟨⟨_, rfl, ⟨rfl, rfl, rfl, rfl⟩⟩, trivial⟩ ⟨⟨_, rfl, rfl, .inl ⟨rfl, plain_of rfl⟩⟩, rfl, trivial⟩ rfl)⟩
    · refine aops_lit 9 rfl q1 ?_
      refine aops_skip rfl rfl ?_
      refine aops_skip rfl rfl ?_
      refine aops_skip rfl rfl ?_
      refine aops_skip rfl rfl ?_
      refine aops_skip rfl rfl ?_
      refine aops_eff (eff_pick rfl rfl) rfl rfl rfl ?_
      refine aops_nil ?_
      refine then_n ?_
      refine ac_ent (t := mkS [(1, .ptr 0 0 0), (3, .int x1), (15, .bl false)] [(0, ⟨3, [[.int a0.n, .list 1 (List.map eI a0.src), .list 1 (List.map eI a0.tgt)]]⟩)] 1 [1, 2, 3, 4, 5, 6, 7, 8, 9, 10, 11, 12, 13, 14]) (ent_mk (σ := sg [(0, 0)]) ⟨⟨_, rfl, ⟨rfl, rfl, rfl, rfl⟩⟩, ⟨_, rfl, rfl⟩, ⟨_, rfl, rfl⟩, trivial⟩ ⟨⟨_, rfl, rfl, .inl ⟨rfl, plain_of rfl⟩⟩, rfl, trivial⟩ rfl) ?_
      refine ac_condF rfl rfl ?_
      refine ac_exit ?_
      refine then_exit ?_
      refine then_exit ?_
      obtain rfl := so h
      exact ⟨_, rfl, rfl, (ent_mk (σ := sg [(0, 0)]) ⟨⟨_, rfl, ⟨rfl, rfl, rfl, rfl⟩⟩, trivial⟩ ⟨⟨_, rfl, rfl, .inl ⟨rfl, plain_of rfl⟩⟩, rfl, trivial⟩ rfl)⟩
  · intro e t hX
    rcases y9 with y10 | y14
    · obtain ⟨rfl, hent⟩ := hX
      refine block_here ?_
      refine then_n ?_
      refine ac_ent hent ?_
      refine ac_seq ?_
      refine ac_region ?_
      refine aops_eff (w_field_ptr TT_ok rfl rfl rfl rfl rfl rfl rfl) rfl rfl rfl ?_
      refine aops_eff (w_load_ptr TT_ok rfl rfl rfl rfl rfl rfl rfl) rfl rfl rfl ?_
      obtain ⟨v11, hv11, h⟩ := ob h
      refine aops_eff (w_call0s (c_spec_l1In a0.n 1 5 v11 hv11) rfl (va_cons (va_same rfl) (va_cons (va_same rfl) (va_cons (va_same rfl) va_nil)))) rfl rfl rfl ?_
      refine aops_eff (eff_move rfl) rfl rfl rfl ?_
      rcases cb h with ⟨q12, h⟩ | ⟨q12, h⟩
      · refine aops_lit 43 rfl q12 ?_
        refine aops_eff (w_field_ptr TT_ok rfl rfl rfl rfl rfl rfl rfl) rfl rfl rfl ?_
        refine aops_eff (w_load_ptr TT_ok rfl rfl rfl rfl rfl rfl rfl) rfl rfl rfl ?_
        refine aops_eff (AEff.val (w_len_list TT_ok rfl rfl rfl) (v' := .int (a0.src.length : Int)) (by first | rw [len_map] | rw [encI_len])) rfl rfl rfl ?_
        refine aops_eff (w_cmp rfl rfl rfl) rfl rfl rfl ?_
        refine aops_eff (eff_pick rfl rfl) rfl rfl rfl ?_
        refine aops_eff (eff_move rfl) rfl rfl rfl ?_
        rcases cb h with ⟨q13, h⟩ | ⟨q13, h⟩
        · refine aops_lit 49 rfl q13 ?_
          refine aops_eff (w_field_ptr TT_ok rfl rfl rfl rfl rfl rfl rfl) rfl rfl rfl ?_
          refine aops_eff (w_load_ptr TT_ok rfl rfl rfl rfl rfl rfl rfl) rfl rfl rfl ?_
          refine aops_eff (AEff.val (w_len_list TT_ok rfl rfl rfl) (v' := .int (a0.tgt.length : Int)) (by first | rw [len_map] | rw [encI_len])) rfl rfl rfl ?_
          refine aops_eff (w_field_ptr TT_ok rfl rfl rfl rfl rfl rfl rfl) rfl rfl rfl ?_
          refine aops_eff (w_load_ptr TT_ok rfl rfl rfl rfl rfl rfl rfl) rfl rfl rfl ?_
          refine aops_eff (AEff.val (w_len_list TT_ok rfl rfl rfl) (v' := .int (a0.src.length : Int)) (by first | rw [len_map] | rw [encI_len])) rfl rfl rfl ?_
          refine aops_eff (w_cmp rfl rfl rfl) rfl rfl rfl ?_
          refine aops_eff (eff_pick rfl rfl) rfl rfl rfl ?_
          refine aops_eff (eff_assign rfl) rfl rfl rfl ?_
          refine aops_nil ?_
          refine then_n ?_
          refine ac_ent (t := mkS [(2, .bl (decide ((a0.tgt.length : Int) = (a0.src.length : Int))))] [] 1 [1, 2, 3, 4, 5, 6, 7, 8, 9, 10, 11, 12, 13, 14]) (ent_mk (σ := sg []) ⟨⟨_, rfl, rfl⟩, trivial⟩ trivial rfl) ?_
          refine ac_ret ?_
          obtain rfl := so h
          exact ret_mk rfl rfl rfl (fz_bl rfl)
        · refine aops_lit 49 rfl q13 ?_
          refine aops_skip rfl rfl ?_
          refine aops_skip rfl rfl ?_
          refine aops_skip rfl rfl ?_
          refine aops_skip rfl rfl ?_
          refine aops_skip rfl rfl ?_
          refine aops_skip rfl rfl ?_
          refine aops_skip rfl rfl ?_
          refine aops_eff (eff_pick rfl rfl) rfl rfl rfl ?_
          refine aops_eff (eff_assign rfl) rfl rfl rfl ?_
          refine aops_nil ?_
          refine then_n ?_
          refine ac_ent (t := mkS [(2, .bl false)] [] 1 [1, 2, 3, 4, 5, 6, 7, 8, 9, 10, 11, 12, 13, 14]) (ent_mk (σ := sg []) ⟨⟨_, rfl, rfl⟩, trivial⟩ trivial rfl) ?_
          refine ac_ret ?_
          obtain rfl := so h
          exact ret_mk rfl rfl rfl (fz_bl rfl)
      · refine aops_lit 43 rfl q12 ?_
        refine aops_skip rfl rfl ?_
        refine aops_skip rfl rfl ?_
        refine aops_skip rfl rfl ?_
        refine aops_skip rfl rfl ?_
        refine aops_eff (eff_pick rfl rfl) rfl rfl rfl ?_
        refine aops_eff (eff_move rfl) rfl rfl rfl ?_
        refine aops_skip rfl rfl ?_
        refine aops_skip rfl rfl ?_
        refine aops_skip rfl rfl ?_
        refine aops_skip rfl rfl ?_
        refine aops_skip rfl rfl ?_
        refine aops_skip rfl rfl ?_
        refine aops_skip rfl rfl ?_
        refine aops_eff (eff_pick rfl rfl) rfl rfl rfl ?_
        refine aops_eff (eff_assign rfl) rfl rfl rfl ?_
        refine aops_nil ?_
        refine then_n ?_
        refine ac_ent (t := mkS [(2, .bl false)] [] 1 [1, 2, 3, 4, 5, 6, 7, 8, 9, 10, 11, 12, 13, 14]) (ent_mk (σ := sg []) ⟨⟨_, rfl, rfl⟩, trivial⟩ trivial rfl) ?_
        refine ac_ret ?_
        obtain rfl := so h
        exact ret_mk rfl rfl rfl (fz_bl rfl)
    · obtain ⟨rfl, hent⟩ := hX
      refine block_ret ?_
      refine then_ret ?_
      obtain rfl := so h
      exact hent

def m_impl_Matrix_row (a0 : Mt) (a1 : Int) : Option Unit :=
  bif (decide (0 ≤ wr (a1 * a0.cols)) && (decide (wr (a1 * a0.cols) ≤ wr ((wr (a1 + 1)) * a0.cols)) && decide (wr ((wr (a1 + 1)) * a0.cols) ≤ ((a0.cells.length : Nat) : Int)))) then
    (some ())
  else none

theorem c_impl_Matrix_row (a0 : Mt) (a1 : Int) (r : Unit) (h : m_impl_Matrix_row a0 a1 = some r) : HasE Try.prog 143 [.agg [.int a0.rows, .int a0.cols, .own 0 0 a0.cells.length], .int a1] [(0, ⟨1, List.map (ow eI) a0.cells⟩)] 1 (.own 0 (0 + (wr (a1 * a0.cols)).toNat) ((wr ((wr (a1 + 1)) * a0.cols)).toNat - (wr (a1 * a0.cols)).toNat)) [(0, ⟨1, List.map (ow eI) a0.cells⟩)] := by
  refine hasE_mk TT_ok (rvs := [.tmp 4]) (ns := [1, 2, 3, 4, 5, 6, 7, 8, 9, 10, 11, 12, 13, 14]) Try.func143 rfl rfl Try.ntmps143 rfl rfl ?_
  refine ac_seq ?_
  refine ac_region ?_
  refine aops_eff (w_box rfl rfl rfl rfl) rfl rfl rfl ?_
  refine aops_eff (eff_assign rfl) rfl rfl rfl ?_
  refine aops_nil ?_
  refine then_n ?_
  refine ac_seq ?_
  refine ac_region ?_
  refine aops_eff (w_field_ptr TT_ok rfl rfl rfl rfl rfl rfl rfl) rfl rfl rfl ?_
  refine aops_eff (w_load_ptr TT_ok rfl rfl rfl rfl rfl rfl rfl) rfl rfl rfl ?_
  refine aops_eff (eff_move rfl) rfl rfl rfl ?_
  refine aops_eff (w_field_ptr TT_ok rfl rfl rfl rfl rfl rfl rfl) rfl rfl rfl ?_
  refine aops_eff (w_load_ptr TT_ok rfl rfl rfl rfl rfl rfl rfl) rfl rfl rfl ?_
  refine aops_eff (x_mul rfl rfl) rfl rfl rfl ?_
  refine aops_eff (eff_move rfl) rfl rfl rfl ?_
  refine aops_eff (x_add rfl rfl) rfl rfl rfl ?_
  refine aops_eff (w_field_ptr TT_ok rfl rfl rfl rfl rfl rfl rfl) rfl rfl rfl ?_
  refine aops_eff (w_load_ptr TT_ok rfl rfl rfl rfl rfl rfl rfl) rfl rfl rfl ?_
  refine aops_eff (x_mul rfl rfl) rfl rfl rfl ?_
  obtain ⟨q1, h⟩ := cg h
  refine aops_eff (x_slice_own TT_ok (l := wr (a1 * a0.cols)) (h := wr ((wr (a1 + 1)) * a0.cols)) q1 rfl rfl rfl rfl rfl rfl rfl rfl) rfl rfl rfl ?_
  refine aops_eff (eff_assign rfl) rfl rfl rfl ?_
  refine aops_nil ?_
  refine then_n ?_
  refine ac_ent (t := mkS [(4, .own 0 (0 + (wr (a1 * a0.cols)).toNat) ((wr ((wr (a1 + 1)) * a0.cols)).toNat - (wr (a1 * a0.cols)).toNat))] [(0, ⟨1, List.map (ow eI) a0.cells⟩)] 2 [2, 3, 4, 5, 6, 7, 8, 9, 10, 11, 12, 13, 14, 15] 1) (ent_mk (σ := sg [(0, 0)]) ⟨⟨_, rfl, ⟨rfl, rfl, rfl, rfl⟩⟩, trivial⟩ ⟨⟨_, rfl, rfl, .inl ⟨rfl, okI.plainO _⟩⟩, rfl, trivial⟩ rfl) ?_
  refine ac_ret ?_
  obtain rfl := so h
  exact ⟨mkS [(4, .own 0 (0 + (wr (a1 * a0.cols)).toNat) ((wr ((wr (a1 + 1)) * a0.cols)).toNat - (wr (a1 * a0.cols)).toNat))] [(0, ⟨1, List.map (ow eI) a0.cells⟩)] 1 [1, 2, 3, 4, 5, 6, 7, 8, 9, 10, 11, 12, 13, 14] 1, (ent_mk (σ := sg [(0, 0)]) ⟨⟨_, rfl, ⟨rfl, rfl, rfl, rfl⟩⟩, trivial⟩ ⟨⟨_, rfl, rfl, .inl ⟨rfl, okI.plainO _⟩⟩, rfl, trivial⟩ rfl), rfl, ⟨_, rfl, .inl rfl⟩, ⟨rfl, trivial⟩⟩

noncomputable def m_impl_addMultiple_L1 (a0 : Int) (a2 : Int) (a3 : (List Int)) (n1 : Nat) (s1 : Nat) (x1 : ((List Int) × Int)) : Option (((List Int) × Int) ⊕ (List Int)) :=
  bif decide (x1.2 < (a3.length : Int)) then
    (Option.bind (atL a3 x1.2) fun v2 =>
    bif (decide (0 ≤ x1.2) && decide (x1.2 < ((n1 : Nat) : Int))) then
      (Option.bind (x1.1[(s1 + x1.2.toNat)]?) fun v3 =>
      bif !decide (a0 = 0) then
        (bif (decide (0 ≤ x1.2) && decide (x1.2 < ((n1 : Nat) : Int))) then
          (Option.bind (x1.1[(s1 + x1.2.toNat)]?) fun v5 =>
          some (.inl ((x1.1.set (s1 + x1.2.toNat) ((wr (v3 + (wr (a2 * v2)))).tmod a0)), wr (x1.2 + 1)))
          )
        else none)
      else none
      )
    else none)
  else
    (some (.inr x1.1))

noncomputable def m_impl_addMultiple (a0 : Int) (c0 : (List Int)) (s1 : Nat) (n1 : Nat) (a2 : Int) (a3 : (List Int)) : Option (List Int) :=
  Option.bind (Lp (m_impl_addMultiple_L1 a0 a2 a3 n1 s1) (c0, 0)) fun y8 =>
  some y8

theorem c_impl_addMultiple (a0 : Int) (c0 : (List Int)) (s1 : Nat) (n1 : Nat) (a2 : Int) (a3 : (List Int)) (r : (List Int)) (h : m_impl_addMultiple a0 c0 s1 n1 a2 a3 = some r) : HasE Try.prog 164 [.int a0, .own 0 s1 n1, .int a2, .list 1 (List.map eI a3)] [(0, ⟨1, List.map (ow eI) c0⟩)] 1 (.own 0 s1 n1) [(0, ⟨1, List.map (ow eI) r⟩)] := by
  refine hasE_mk TT_ok (rvs := [.tmp 8]) (ns := [1, 2, 3, 4, 5, 6, 7, 8, 9, 10, 11, 12, 13, 14]) Try.func164 rfl rfl Try.ntmps164 rfl rfl ?_
  refine ac_seq ?_
  refine ac_region ?_
  refine aops_eff (eff_assign rfl) rfl rfl rfl ?_
  refine aops_nil ?_
  refine then_n ?_
  refine ac_seq ?_
  refine ac_seq ?_
  refine ac_region ?_
  refine aops_eff (eff_move rfl) rfl rfl rfl ?_
  refine aops_eff (AEff.val (w_len_list TT_ok rfl rfl rfl) (v' := .int (a3.length : Int)) (by first | rw [len_map] | rw [encI_len])) rfl rfl rfl ?_
  refine aops_eff (eff_move rfl) rfl rfl rfl ?_
  refine aops_nil ?_
  refine then_n ?_
  refine ac_block ?_
  obtain ⟨y8, hy8, h⟩ := ob h
  refine ac_Lp (body := (m_impl_addMultiple_L1 a0 a2 a3 n1 s1)) hy8 (fun (x1 : ((List Int) × Int)) => mkS [(0, .int a0), (1, .own 0 s1 n1), (2, .int a2), (11, .list 1 (List.map eI a3)), (12, .int (a3.length : Int)), (13, .int x1.2)] [(0, ⟨1, List.map (ow eI) x1.1⟩)] 1 [1, 2, 3, 4, 5, 6, 7, 8, 9, 10, 11, 12, 13, 14] 1) (fun r e t => e = .exit 0 ∧ Ent t (mkS [(1, .own 0 s1 n1)] [(0, ⟨1, List.map (ow eI) r⟩)] 1 [1, 2, 3, 4, 5, 6, 7, 8, 9, 10, 11, 12, 13, 14] 1)) (ent_mk (σ := sg [(0, 0)]) ⟨⟨_, rfl, rfl⟩, ⟨_, rfl, ⟨rfl, rfl, rfl, rfl⟩⟩, ⟨_, rfl, rfl⟩, ⟨_, rfl, ⟨rfl, rfl⟩⟩, ⟨_, rfl, rfl⟩, ⟨_, rfl, rfl⟩, trivial⟩ ⟨⟨_, rfl, rfl, .inl ⟨rfl, okI.plainO _⟩⟩, rfl, trivial⟩ rfl) ?_ ?_
  · intro x1 o h
    refine ac_seq ?_
    refine ac_region ?_
    refine aops_eff (w_cmp rfl rfl rfl) rfl rfl rfl ?_
    refine aops_nil ?_
    refine then_n ?_
    refine ac_seq ?_
    rcases cb h with ⟨q1, h⟩ | ⟨q1, h⟩
    · refine ac_condT rfl q1 ?_
      refine ac_skip ?_
      refine then_n ?_
      refine ac_seq ?_
      refine ac_block ?_
      refine ac_seq ?_
      refine ac_region ?_
      refine aops_eff (eff_move rfl) rfl rfl rfl ?_
      obtain ⟨v2, hv2, h⟩ := ob h
      refine aops_eff (x_at_list TT_ok hv2 rfl rfl rfl rfl rfl rfl) rfl rfl rfl ?_
      refine aops_eff (w_load_ref TT_ok rfl rfl rfl rfl rfl rfl) rfl rfl rfl ?_
      refine aops_eff (eff_assign rfl) rfl rfl rfl ?_
      refine aops_eff (eff_assign rfl) rfl rfl rfl ?_
      refine aops_nil ?_
      refine then_n ?_
      refine ac_region ?_
      refine aops_eff (eff_move rfl) rfl rfl rfl ?_
      refine aops_eff (eff_move rfl) rfl rfl rfl ?_
      refine aops_eff (eff_move rfl) rfl rfl rfl ?_
      refine aops_eff (eff_move rfl) rfl rfl rfl ?_
      obtain ⟨q4, h⟩ := cg h
      obtain ⟨v3, hv3, h⟩ := ob h
      refine aops_eff (x_at_part TT_ok q4 rfl rfl rfl rfl rfl rfl rfl) rfl rfl rfl ?_
      refine aops_eff (w_load_ptr TT_ok rfl rfl rfl rfl (map_at (hv3)) rfl rfl) rfl rfl rfl ?_
      refine aops_eff (eff_move rfl) rfl rfl rfl ?_
      refine aops_eff (eff_move rfl) rfl rfl rfl ?_
      refine aops_eff (x_mul rfl rfl) rfl rfl rfl ?_
      refine aops_eff (x_add rfl rfl) rfl rfl rfl ?_
      refine aops_eff (eff_move rfl) rfl rfl rfl ?_
      obtain ⟨q7, h⟩ := cg h
      refine aops_eff (x_rem rfl rfl q7) rfl rfl rfl ?_
      obtain ⟨q6, h⟩ := cg h
      obtain ⟨v5, hv5, h⟩ := ob h
      refine aops_eff (x_at_part TT_ok q6 rfl rfl rfl rfl rfl rfl rfl) rfl rfl rfl ?_
      refine aops_eff (x_store TT_ok okIo (u := (wr (v3 + (wr (a2 * v2)))).tmod a0) (hv5) rfl rfl rfl rfl rfl rfl) rfl rfl rfl ?_
      refine aops_nil ?_
      refine block_n ?_
      refine then_n ?_
      refine ac_ent (t := mkS [(0, .int a0), (1, .own 0 s1 n1), (2, .int a2), (11, .list 1 (List.map eI a3)), (12, .int (a3.length : Int)), (13, .int x1.2)] [(0, ⟨1, List.map (ow eI) (x1.1.set (s1 + x1.2.toNat) ((wr (v3 + (wr (a2 * v2)))).tmod a0))⟩)] 1 [1, 2, 3, 4, 5, 6, 7, 8, 9, 10, 11, 12, 13, 14] 1) (ent_mk (σ := sg [(0, 0)]) ⟨⟨_, rfl, rfl⟩, ⟨_, rfl, ⟨rfl, rfl, rfl, rfl⟩⟩, ⟨_, rfl, rfl⟩, ⟨_, rfl, ⟨rfl, rfl⟩⟩, ⟨_, rfl, rfl⟩, ⟨_, rfl, rfl⟩, trivial⟩ ⟨⟨_, rfl, rfl, .inl ⟨rfl, okI.plainO _⟩⟩, rfl, trivial⟩ rfl) ?_
      refine ac_region ?_
      refine aops_eff (x_add rfl rfl) rfl rfl rfl ?_
      refine aops_eff (eff_move rfl) rfl rfl rfl ?_
      refine aops_nil ?_
      refine then_n ?_
      obtain rfl := so h
      exact ⟨_, rfl, (ent_mk (σ := sg [(0, 0)]) ⟨⟨_, rfl, rfl⟩, ⟨_, rfl, ⟨rfl, rfl, rfl, rfl⟩⟩, ⟨_, rfl, rfl⟩, ⟨_, rfl, ⟨rfl, rfl⟩⟩, ⟨_, rfl, rfl⟩, ⟨_, rfl, rfl⟩, trivial⟩ ⟨⟨_, rfl, rfl, .inl ⟨rfl, okI.plainO _⟩⟩, rfl, trivial⟩ rfl)⟩
    · refine ac_condF rfl q1 ?_
      refine ac_exit ?_
      refine then_exit ?_
      refine then_exit ?_
      obtain rfl := so h
      exact ⟨_, rfl, rfl, (ent_mk (σ := sg [(0, 0)]) ⟨⟨_, rfl, ⟨rfl, rfl, rfl, rfl⟩⟩, trivial⟩ ⟨⟨_, rfl, rfl, .inl ⟨rfl, okI.plainO _⟩⟩, rfl, trivial⟩ rfl)⟩
  · rintro e t ⟨rfl, hent⟩
    refine block_here ?_
    refine then_n ?_
    refine ac_ent hent ?_
    refine ac_seq ?_
    refine ac_region ?_
    refine aops_eff (eff_move rfl) rfl rfl rfl ?_
    refine aops_eff (eff_assign rfl) rfl rfl rfl ?_
    refine aops_nil ?_
    refine then_n ?_
    refine ac_ret ?_
    obtain rfl := so h
    exact ⟨mkS [(8, .own 0 s1 n1)] [(0, ⟨1, List.map (ow eI) y8⟩)] 1 [1, 2, 3, 4, 5, 6, 7, 8, 9, 10, 11, 12, 13, 14] 1, (ent_mk (σ := sg [(0, 0)]) ⟨⟨_, rfl, ⟨rfl, rfl, rfl, rfl⟩⟩, trivial⟩ ⟨⟨_, rfl, rfl, .inl ⟨rfl, okI.plainO _⟩⟩, rfl, trivial⟩ rfl), rfl, ⟨_, rfl, .inl rfl⟩, ⟨rfl, trivial⟩⟩

noncomputable def m_impl_addMultiple_same_L1 (a0 : Int) (a2 : Int) (n1 : Nat) (n3 : Nat) (s1 : Nat) (s3 : Nat) (x1 : ((List Int) × Int)) : Option (((List Int) × Int) ⊕ (List Int)) :=
  bif decide (x1.2 < ((n3 : Nat) : Int)) then
    (bif (decide (0 ≤ x1.2) && decide (x1.2 < ((n3 : Nat) : Int))) then
      (Option.bind (x1.1[(s3 + x1.2.toNat)]?) fun v2 =>
      bif (decide (0 ≤ x1.2) && decide (x1.2 < ((n1 : Nat) : Int))) then
        (Option.bind (x1.1[(s1 + x1.2.toNat)]?) fun v4 =>
        bif !decide (a0 = 0) then
          (bif (decide (0 ≤ x1.2) && decide (x1.2 < ((n1 : Nat) : Int))) then
            (Option.bind (x1.1[(s1 + x1.2.toNat)]?) fun v6 =>
            some (.inl ((x1.1.set (s1 + x1.2.toNat) ((wr (v4 + (wr (a2 * v2)))).tmod a0)), wr (x1.2 + 1)))
            )
          else none)
        else none
        )
      else none
      )
    else none)
  else
    (some (.inr x1.1))

noncomputable def m_impl_addMultiple_same (a0 : Int) (c0 : (List Int)) (s1 : Nat) (n1 : Nat) (a2 : Int) (s3 : Nat) (n3 : Nat) : Option (List Int) :=
  Option.bind (Lp (m_impl_addMultiple_same_L1 a0 a2 n1 n3 s1 s3) (c0, 0)) fun y9 =>
  some y9

theorem c_impl_addMultiple_same (a0 : Int) (c0 : (List Int)) (s1 : Nat) (n1 : Nat) (a2 : Int) (s3 : Nat) (n3 : Nat) (r : (List Int)) (h : m_impl_addMultiple_same a0 c0 s1 n1 a2 s3 n3 = some r) : HasE Try.prog 164 [.int a0, .own 0 s1 n1, .int a2, .own 0 s3 n3] [(0, ⟨1, List.map (ow eI) c0⟩)] 1 (.own 0 s1 n1) [(0, ⟨1, List.map (ow eI) r⟩)] := by
  refine hasE_mk TT_ok (rvs := [.tmp 8]) (ns := [1, 2, 3, 4, 5, 6, 7, 8, 9, 10, 11, 12, 13, 14]) Try.func164 rfl rfl Try.ntmps164 rfl rfl ?_
  refine ac_seq ?_
  refine ac_region ?_
  refine aops_eff (eff_assign rfl) rfl rfl rfl ?_
  refine aops_nil ?_
  refine then_n ?_
  refine ac_seq ?_
  refine ac_seq ?_
  refine ac_region ?_
  refine aops_eff (eff_move rfl) rfl rfl rfl ?_
  refine aops_eff (w_len_own TT_ok rfl rfl rfl rfl) rfl rfl rfl ?_
  refine aops_eff (eff_move rfl) rfl rfl rfl ?_
  refine aops_nil ?_
  refine then_n ?_
  refine ac_block ?_
  obtain ⟨y9, hy9, h⟩ := ob h
  refine ac_Lp (body := (m_impl_addMultiple_same_L1 a0 a2 n1 n3 s1 s3)) hy9 (fun (x1 : ((List Int) × Int)) => mkS [(0, .int a0), (1, .own 0 s1 n1), (2, .int a2), (11, .own 0 s3 n3), (12, .int ((n3 : Nat) : Int)), (13, .int x1.2)] [(0, ⟨1, List.map (ow eI) x1.1⟩)] 1 [1, 2, 3, 4, 5, 6, 7, 8, 9, 10, 11, 12, 13, 14] 1) (fun r e t => e = .exit 0 ∧ Ent t (mkS [(1, .own 0 s1 n1)] [(0, ⟨1, List.map (ow eI) r⟩)] 1 [1, 2, 3, 4, 5, 6, 7, 8, 9, 10, 11, 12, 13, 14] 1)) (ent_mk (σ := sg [(0, 0)]) ⟨⟨_, rfl, rfl⟩, ⟨_, rfl, ⟨rfl, rfl, rfl, rfl⟩⟩, ⟨_, rfl, rfl⟩, ⟨_, rfl, ⟨rfl, rfl, rfl, rfl⟩⟩, ⟨_, rfl, rfl⟩, ⟨_, rfl, rfl⟩, trivial⟩ ⟨⟨_, rfl, rfl, .inl ⟨rfl, okI.plainO _⟩⟩, rfl, trivial⟩ rfl) ?_ ?_
  · intro x1 o h
    refine ac_seq ?_
    refine ac_region ?_
    refine aops_eff (w_cmp rfl rfl rfl) rfl rfl rfl ?_
    refine aops_nil ?_
    refine then_n ?_
    refine ac_seq ?_
    rcases cb h with ⟨q1, h⟩ | ⟨q1, h⟩
    · refine ac_condT rfl q1 ?_
      refine ac_skip ?_
      refine then_n ?_
      refine ac_seq ?_
      refine ac_block ?_
      refine ac_seq ?_
      refine ac_region ?_
      refine aops_eff (eff_move rfl) rfl rfl rfl ?_
      obtain ⟨q3, h⟩ := cg h
      obtain ⟨v2, hv2, h⟩ := ob h
      refine aops_eff (x_at_part TT_ok q3 rfl rfl rfl rfl rfl rfl rfl) rfl rfl rfl ?_
      refine aops_eff (w_load_ptr TT_ok rfl rfl rfl rfl (map_at (hv2)) rfl rfl) rfl rfl rfl ?_
      refine aops_eff (eff_assign rfl) rfl rfl rfl ?_
      refine aops_eff (eff_assign rfl) rfl rfl rfl ?_
      refine aops_nil ?_
      refine then_n ?_
      refine ac_region ?_
      refine aops_eff (eff_move rfl) rfl rfl rfl ?_
      refine aops_eff (eff_move rfl) rfl rfl rfl ?_
      refine aops_eff (eff_move rfl) rfl rfl rfl ?_
      refine aops_eff (eff_move rfl) rfl rfl rfl ?_
      obtain ⟨q5, h⟩ := cg h
      obtain ⟨v4, hv4, h⟩ := ob h
      refine aops_eff (x_at_part TT_ok q5 rfl rfl rfl rfl rfl rfl rfl) rfl rfl rfl ?_
      refine aops_eff (w_load_ptr TT_ok rfl rfl rfl rfl (map_at (hv4)) rfl rfl) rfl rfl rfl ?_
      refine aops_eff (eff_move rfl) rfl rfl rfl ?_
      refine aops_eff (eff_move rfl) rfl rfl rfl ?_
      refine aops_eff (x_mul rfl rfl) rfl rfl rfl ?_
      refine aops_eff (x_add rfl rfl) rfl rfl rfl ?_
      refine aops_eff (eff_move rfl) rfl rfl rfl ?_
      obtain ⟨q8, h⟩ := cg h
      refine aops_eff (x_rem rfl rfl q8) rfl rfl rfl ?_
      obtain ⟨q7, h⟩ := cg h
      obtain ⟨v6, hv6, h⟩ := ob h
      refine aops_eff (x_at_part TT_ok q7 rfl rfl rfl rfl rfl rfl rfl) rfl rfl rfl ?_
      refine aops_eff (x_store TT_ok okIo (u := (wr (v4 + (wr (a2 * v2)))).tmod a0) (hv6) rfl rfl rfl rfl rfl rfl) rfl rfl rfl ?_
      refine aops_nil ?_
      refine block_n ?_
      refine then_n ?_
      refine ac_ent (t := mkS [(0, .int a0), (1, .own 0 s1 n1), (2, .int a2), (11, .own 0 s3 n3), (12, .int ((n3 : Nat) : Int)), (13, .int x1.2)] [(0, ⟨1, List.map (ow eI) (x1.1.set (s1 + x1.2.toNat) ((wr (v4 + (wr (a2 * v2)))).tmod a0))⟩)] 1 [1, 2, 3, 4, 5, 6, 7, 8, 9, 10, 11, 12, 13, 14] 1) (ent_mk (σ := sg [(0, 0)]) ⟨⟨_, rfl, rfl⟩, ⟨_, rfl, ⟨rfl, rfl, rfl, rfl⟩⟩, ⟨_, rfl, rfl⟩, ⟨_, rfl, ⟨rfl, rfl, rfl, rfl⟩⟩, ⟨_, rfl, rfl⟩, ⟨_, rfl, rfl⟩, trivial⟩ ⟨⟨_, rfl, rfl, .inl ⟨rfl, okI.plainO _⟩⟩, rfl, trivial⟩ rfl) ?_
      refine ac_region ?_
      refine aops_eff (x_add rfl rfl) rfl rfl rfl ?_
      refine aops_eff (eff_move rfl) rfl rfl rfl ?_
      refine aops_nil ?_
      refine then_n ?_
      obtain rfl := so h
      exact ⟨_, rfl, (ent_mk (σ := sg [(0, 0)]) ⟨⟨_, rfl, rfl⟩, ⟨_, rfl, ⟨rfl, rfl, rfl, rfl⟩⟩, ⟨_, rfl, rfl⟩, ⟨_, rfl, ⟨rfl, rfl, rfl, rfl⟩⟩, ⟨_, rfl, rfl⟩, ⟨_, rfl, rfl⟩, trivial⟩ ⟨⟨_, rfl, rfl, .inl ⟨rfl, okI.plainO _⟩⟩, rfl, trivial⟩ rfl)⟩
    · refine ac_condF rfl q1 ?_
      refine ac_exit ?_
      refine then_exit ?_
      refine then_exit ?_
      obtain rfl := so h
      exact ⟨_, rfl, rfl, (ent_mk (σ := sg [(0, 0)]) ⟨⟨_, rfl, ⟨rfl, rfl, rfl, rfl⟩⟩, trivial⟩ ⟨⟨_, rfl, rfl, .inl ⟨rfl, okI.plainO _⟩⟩, rfl, trivial⟩ rfl)⟩
  · rintro e t ⟨rfl, hent⟩
    refine block_here ?_
    refine then_n ?_
    refine ac_ent hent ?_
    refine ac_seq ?_
    refine ac_region ?_
    refine aops_eff (eff_move rfl) rfl rfl rfl ?_
    refine aops_eff (eff_assign rfl) rfl rfl rfl ?_
    refine aops_nil ?_
    refine then_n ?_
    refine ac_ret ?_
    obtain rfl := so h
    exact ⟨mkS [(8, .own 0 s1 n1)] [(0, ⟨1, List.map (ow eI) y9⟩)] 1 [1, 2, 3, 4, 5, 6, 7, 8, 9, 10, 11, 12, 13, 14] 1, (ent_mk (σ := sg [(0, 0)]) ⟨⟨_, rfl, ⟨rfl, rfl, rfl, rfl⟩⟩, trivial⟩ ⟨⟨_, rfl, rfl, .inl ⟨rfl, okI.plainO _⟩⟩, rfl, trivial⟩ rfl), rfl, ⟨_, rfl, .inl rfl⟩, ⟨rfl, trivial⟩⟩

def m_spec_l2Mod (a0 : Int) (a1 : Int) : Option Int :=
  bif !decide (a0 = 0) then
    (bif decide (a1.tmod a0 < 0) then
      (some (wr ((a1.tmod a0) + a0)))
    else
      (some (a1.tmod a0)))
  else none

theorem c_spec_l2Mod (a0 : Int) (a1 : Int) (r : Int) (h : m_spec_l2Mod a0 a1 = some r) : HasC Try.prog 141 [.int a0, .int a1] (.int r) := by
  refine hasC_mk TT_ok (rvs := [.tmp 4]) (ns := [0, 1, 2, 3, 4, 5, 6, 7, 8, 9, 10, 11, 12, 13]) Try.func141 rfl rfl Try.ntmps141 rfl rfl rfl ?_
  refine ac_seq ?_
  refine ac_region ?_
  refine aops_eff (eff_assign rfl) rfl rfl rfl ?_
  refine aops_nil ?_
  refine then_n ?_
  refine ac_seq ?_
  refine ac_region ?_
  refine aops_eff (eff_move rfl) rfl rfl rfl ?_
  refine aops_eff (eff_move rfl) rfl rfl rfl ?_
  obtain ⟨q2, h⟩ := cg h
  refine aops_eff (x_rem rfl rfl q2) rfl rfl rfl ?_
  refine aops_eff (eff_assign rfl) rfl rfl rfl ?_
  refine aops_nil ?_
  refine then_n ?_
  refine ac_seq ?_
  refine ac_seq ?_
  refine ac_region ?_
  refine aops_eff (eff_move rfl) rfl rfl rfl ?_
  refine aops_eff (w_cmp rfl rfl rfl) rfl rfl rfl ?_
  refine aops_nil ?_
  refine then_n ?_
  rcases cb h with ⟨q1, h⟩ | ⟨q1, h⟩
  · refine ac_condT rfl q1 ?_
    refine ac_region ?_
    refine aops_eff (eff_move rfl) rfl rfl rfl ?_
    refine aops_eff (eff_move rfl) rfl rfl rfl ?_
    refine aops_eff (x_add rfl rfl) rfl rfl rfl ?_
    refine aops_eff (eff_assign rfl) rfl rfl rfl ?_
    refine aops_nil ?_
    refine then_n ?_
    refine ac_seq ?_
    refine ac_region ?_
    refine aops_eff (eff_move rfl) rfl rfl rfl ?_
    refine aops_eff (eff_assign rfl) rfl rfl rfl ?_
    refine aops_nil ?_
    refine then_n ?_
    refine ac_ent (t := mkS [(4, .int (wr ((a1.tmod a0) + a0)))] [] 0 [0, 1, 2, 3, 4, 5, 6, 7, 8, 9, 10, 11, 12, 13]) (ent_mk (σ := sg []) ⟨⟨_, rfl, rfl⟩, trivial⟩ trivial rfl) ?_
    refine ac_ret ?_
    obtain rfl := so h
    exact ret_mk rfl rfl rfl (fz_int rfl)
  · refine ac_condF rfl q1 ?_
    refine ac_skip ?_
    refine then_n ?_
    refine ac_seq ?_
    refine ac_region ?_
    refine aops_eff (eff_move rfl) rfl rfl rfl ?_
    refine aops_eff (eff_assign rfl) rfl rfl rfl ?_
    refine aops_nil ?_
    refine then_n ?_
    refine ac_ret ?_
    obtain rfl := so h
    exact ret_mk rfl rfl rfl (fz_int rfl)

noncomputable def m_spec_InverseMod_L1 (a0 : Int) (a1 : Int) (x1 : Int) : Option (Int ⊕ (Unit ⊕ Int)) :=
  bif decide (x1 < a0) then
    (Option.bind (m_spec_IsField a0) fun v2 =>
    bif v2 then
      (Option.bind (m_spec_l2Mod a0 a1) fun v4 =>
      Option.bind (m_spec_l2Mod a0 (wr (v4 * x1))) fun v5 =>
      bif decide (v5 = 1) then
        (some (.inr (.inr (x1))))
      else
        (some (.inl (wr (x1 + 1)))))
    else
      (some (.inr (.inl ()))))
  else
    (some (.inr (.inl ())))

noncomputable def m_spec_InverseMod (a0 : Int) (a1 : Int) : Option Int :=
  Option.bind (Lp (m_spec_InverseMod_L1 a0 a1) 1) fun y7 =>
  Sum.elim (fun y8 =>
    some (0)
  ) 
  (fun y9 =>
    some y9
  )
   y7

theorem c_spec_InverseMod (a0 : Int) (a1 : Int) (r : Int) (h : m_spec_InverseMod a0 a1 = some r) : HasC Try.prog 140 [.int a0, .int a1] (.int r) := by
  refine hasC_mk TT_ok (rvs := [.tmp 4]) (ns := [0, 1, 2, 3, 4, 5, 6, 7, 8, 9, 10, 11, 12, 13]) Try.func140 rfl rfl Try.ntmps140 rfl rfl rfl ?_
  refine ac_seq ?_
  refine ac_region ?_
  refine aops_eff (eff_assign rfl) rfl rfl rfl ?_
  refine aops_nil ?_
  refine then_n ?_
  refine ac_seq ?_
  refine ac_seq ?_
  refine ac_region ?_
  refine aops_eff (eff_assign rfl) rfl rfl rfl ?_
  refine aops_nil ?_
  refine then_n ?_
  refine ac_block ?_
  obtain ⟨y7, hy7, h⟩ := ob h
  refine ac_Lp (body := (m_spec_InverseMod_L1 a0 a1)) hy7 (fun (x1 : Int) => mkS [(0, .int a0), (1, .int a1), (5, .int x1)] [] 0 [0, 1, 2, 3, 4, 5, 6, 7, 8, 9, 10, 11, 12, 13]) (fun r e t => Sum.elim (fun a => (fun r e t => e = .exit 0 ∧ Ent t (mkS [] [] 0 [0, 1, 2, 3, 4, 5, 6, 7, 8, 9, 10, 11, 12, 13])) a e t) (fun b => (fun r e t => e = .ret ∧ RetQ TT [.tmp 4] (.int r) .ret t) b e t) r) (ent_mk (σ := sg []) ⟨⟨_, rfl, rfl⟩, ⟨_, rfl, rfl⟩, ⟨_, rfl, rfl⟩, trivial⟩ trivial rfl) ?_ ?_
  · intro x1 o h
    refine ac_seq ?_
    refine ac_seq ?_
    refine ac_region ?_
    refine aops_eff (eff_move rfl) rfl rfl rfl ?_
    refine aops_eff (eff_move rfl) rfl rfl rfl ?_
    refine aops_eff (w_cmp rfl rfl rfl) rfl rfl rfl ?_
    refine aops_eff (eff_move rfl) rfl rfl rfl ?_
    rcases cb h with ⟨q1, h⟩ | ⟨q1, h⟩
    · refine aops_lit 9 rfl q1 ?_
      refine aops_eff (eff_move rfl) rfl rfl rfl ?_
      obtain ⟨v2, hv2, h⟩ := ob h
      refine aops_eff (w_call0s (c_spec_IsField a0 v2 hv2) rfl (va_cons (va_same rfl) va_nil)) rfl rfl rfl ?_
      refine aops_eff (eff_pick rfl rfl) rfl rfl rfl ?_
      refine aops_nil ?_
      refine then_n ?_
      rcases cb h with ⟨q3, h⟩ | ⟨q3, h⟩
      · refine ac_condT rfl q3 ?_
        refine ac_skip ?_
        refine then_n ?_
        refine ac_seq ?_
        refine ac_block ?_
        refine ac_seq ?_
        refine ac_region ?_
        refine aops_eff (eff_move rfl) rfl rfl rfl ?_
        refine aops_eff (eff_move rfl) rfl rfl rfl ?_
        refine aops_eff (eff_move rfl) rfl rfl rfl ?_
        obtain ⟨v4, hv4, h⟩ := ob h
        refine aops_eff (w_call0s (c_spec_l2Mod a0 a1 v4 hv4) rfl (va_cons (va_same rfl) (va_cons (va_same rfl) va_nil))) rfl rfl rfl ?_
        refine aops_eff (eff_move rfl) rfl rfl rfl ?_
        refine aops_eff (x_mul rfl rfl) rfl rfl rfl ?_
        obtain ⟨v5, hv5, h⟩ := ob h
        refine aops_eff (w_call0s (c_spec_l2Mod a0 (wr (v4 * x1)) v5 hv5) rfl (va_cons (va_same rfl) (va_cons (va_same rfl) va_nil))) rfl rfl rfl ?_
        refine aops_eff (w_cmp rfl rfl rfl) rfl rfl rfl ?_
        refine aops_nil ?_
        refine then_n ?_
        refine ac_ent (t := mkS [(0, .int a0), (1, .int a1), (5, .int x1), (22, .bl (decide (v5 = 1)))] [] 0 [0, 1, 2, 3, 4, 5, 6, 7, 8, 9, 10, 11, 12, 13]) (ent_mk (σ := sg []) ⟨⟨_, rfl, rfl⟩, ⟨_, rfl, rfl⟩, ⟨_, rfl, rfl⟩, ⟨_, rfl, rfl⟩, trivial⟩ trivial rfl) ?_
        rcases cb h with ⟨q6, h⟩ | ⟨q6, h⟩
        · refine ac_condT rfl q6 ?_
          refine ac_seq ?_
          refine ac_region ?_
          refine aops_eff (eff_move rfl) rfl rfl rfl ?_
          refine aops_eff (eff_assign rfl) rfl rfl rfl ?_
          refine aops_nil ?_
          refine then_n ?_
          refine ac_ret ?_
          refine block_ret ?_
          refine then_ret ?_
          refine then_ret ?_
          obtain rfl := so h
          exact ⟨_, rfl, rfl, ret_mk rfl rfl rfl (fz_int rfl)⟩
        · refine ac_condF rfl q6 ?_
          refine ac_skip ?_
          refine block_n ?_
          refine then_n ?_
          refine ac_region ?_
          refine aops_eff (eff_move rfl) rfl rfl rfl ?_
          refine aops_eff (x_add rfl rfl) rfl rfl rfl ?_
          refine aops_eff (eff_assign rfl) rfl rfl rfl ?_
          refine aops_nil ?_
          refine then_n ?_
          obtain rfl := so h
          exact ⟨_, rfl, (ent_mk (σ := sg []) ⟨⟨_, rfl, rfl⟩, ⟨_, rfl, rfl⟩, ⟨_, rfl, rfl⟩, trivial⟩ trivial rfl)⟩
      · refine ac_condF rfl q3 ?_
        refine ac_exit ?_
        refine then_exit ?_
        refine then_exit ?_
        obtain rfl := so h
        exact ⟨_, rfl, rfl, (ent_mk (σ := sg []) trivial trivial rfl)⟩
    · refine aops_lit 9 rfl q1 ?_
      refine aops_skip rfl rfl ?_
      refine aops_skip rfl rfl ?_
      refine aops_eff (eff_pick rfl rfl) rfl rfl rfl ?_
      refine aops_nil ?_
      refine then_n ?_
      refine ac_condF rfl rfl ?_
      refine ac_exit ?_
      refine then_exit ?_
      refine then_exit ?_
      obtain rfl := so h
      exact ⟨_, rfl, rfl, (ent_mk (σ := sg []) trivial trivial rfl)⟩
  · intro e t hX
    rcases y7 with y8 | y9
    · obtain ⟨rfl, hent⟩ := hX
      refine block_here ?_
      refine then_n ?_
      refine ac_ent hent ?_
      refine ac_seq ?_
      refine ac_region ?_
      refine aops_eff (eff_assign rfl) rfl rfl rfl ?_
      refine aops_nil ?_
      refine then_n ?_
      refine ac_ret ?_
      obtain rfl := so h
      exact ret_mk rfl rfl rfl (fz_int rfl)
    · obtain ⟨rfl, hent⟩ := hX
      refine block_ret ?_
      refine then_ret ?_
      obtain rfl := so h
      exact hent

noncomputable def m_spec_IsVector_L1 (a0 : Int) (a1 : (List Int)) (x1 : Int) : Option (Int ⊕ (Unit ⊕ Bool)) :=
  bif decide (x1 < (a1.length : Int)) then
    (Option.bind (atL a1 x1) fun v5 =>
    Option.bind (m_spec_l1In v5 0 (wr (a0 - 1))) fun v6 =>
    bif !v6 then
      (some (.inr (.inr (false))))
    else
      (some (.inl (wr (x1 + 1)))))
  else
    (some (.inr (.inl ())))

noncomputable def m_spec_IsVector (a0 : Int) (a1 : (List Int)) : Option Bool :=
  Option.bind (m_spec_IsField a0) fun v1 =>
  bif !v1 then
    (some (false))
  else
    (bif decide (64 < (a1.length : Int)) then
      (some (false))
    else
      (Option.bind (Lp (m_spec_IsVector_L1 a0 a1) 0) fun y8 =>
      Sum.elim (fun y9 =>
        some (true)
      ) 
      (fun y10 =>
        some y10
      )
       y8))

theorem c_spec_IsVector (a0 : Int) (a1 : (List Int)) (r : Bool) (h : m_spec_IsVector a0 a1 = some r) : HasC Try.prog 126 [.int a0, .list 1 (List.map eI a1)] (.bl r) := by
  refine hasC_mk TT_ok (rvs := [.tmp 4]) (ns := [0, 1, 2, 3, 4, 5, 6, 7, 8, 9, 10, 11, 12, 13]) Try.func126 rfl rfl Try.ntmps126 rfl rfl rfl ?_
  refine ac_seq ?_
  refine ac_region ?_
  refine aops_eff (eff_assign rfl) rfl rfl rfl ?_
  refine aops_nil ?_
  refine then_n ?_
  refine ac_seq ?_
  refine ac_seq ?_
  refine ac_region ?_
  refine aops_eff (eff_move rfl) rfl rfl rfl ?_
  obtain ⟨v1, hv1, h⟩ := ob h
  refine aops_eff (w_call0s (c_spec_IsField a0 v1 hv1) rfl (va_cons (va_same rfl) va_nil)) rfl rfl rfl ?_
  refine aops_eff (w_not rfl) rfl rfl rfl ?_
  refine aops_eff (eff_move rfl) rfl rfl rfl ?_
  rcases cb h with ⟨q2, h⟩ | ⟨q2, h⟩
  · refine aops_lit 9 rfl q2 ?_
    refine aops_skip rfl rfl ?_
    refine aops_skip rfl rfl ?_
    refine aops_skip rfl rfl ?_
    refine aops_eff (eff_pick rfl rfl) rfl rfl rfl ?_
    refine aops_nil ?_
    refine then_n ?_
    refine ac_condT rfl rfl ?_
    refine ac_seq ?_
    refine ac_region ?_
    refine aops_eff (eff_assign rfl) rfl rfl rfl ?_
    refine aops_nil ?_
    refine then_n ?_
    refine ac_ret ?_
    refine then_ret ?_
    obtain rfl := so h
    exact ret_mk rfl rfl rfl (fz_bl rfl)
  · refine aops_lit 9 rfl q2 ?_
    refine aops_eff (eff_move rfl) rfl rfl rfl ?_
    refine aops_eff (AEff.val (w_len_list TT_ok rfl rfl rfl) (v' := .int (a1.length : Int)) (by first | rw [len_map] | rw [encI_len])) rfl rfl rfl ?_
    refine aops_eff (w_cmp rfl rfl rfl) rfl rfl rfl ?_
    refine aops_eff (eff_pick rfl rfl) rfl rfl rfl ?_
    refine aops_nil ?_
    refine then_n ?_
    rcases cb h with ⟨q3, h⟩ | ⟨q3, h⟩
    · refine ac_condT rfl q3 ?_
      refine ac_seq ?_
      refine ac_region ?_
      refine aops_eff (eff_assign rfl) rfl rfl rfl ?_
      refine aops_nil ?_
      refine then_n ?_
      refine ac_ret ?_
      refine then_ret ?_
      obtain rfl := so h
      exact ret_mk rfl rfl rfl (fz_bl rfl)
    · refine ac_condF rfl q3 ?_
      refine ac_skip ?_
      refine then_n ?_
      refine ac_seq ?_
      refine ac_seq ?_
      refine ac_region ?_
      refine aops_eff (eff_assign rfl) rfl rfl rfl ?_
      refine aops_nil ?_
      refine then_n ?_
      refine ac_block ?_
      obtain ⟨y8, hy8, h⟩ := ob h
      refine ac_Lp (body := (m_spec_IsVector_L1 a0 a1)) hy8 (fun (x1 : Int) => mkS [(0, .int a0), (1, .list 1 (List.map eI a1)), (5, .int x1)] [] 0 [0, 1, 2, 3, 4, 5, 6, 7, 8, 9, 10, 11, 12, 13]) (fun r e t => Sum.elim (fun a => (fun r e t => e = .exit 0 ∧ Ent t (mkS [] [] 0 [0, 1, 2, 3, 4, 5, 6, 7, 8, 9, 10, 11, 12, 13])) a e t) (fun b => (fun r e t => e = .ret ∧ RetQ TT [.tmp 4] (.bl r) .ret t) b e t) r) (ent_mk (σ := sg []) ⟨⟨_, rfl, rfl⟩, ⟨_, rfl, ⟨rfl, rfl⟩⟩, ⟨_, rfl, rfl⟩, trivial⟩ trivial rfl) ?_ ?_
      · intro x1 o h
        refine ac_seq ?_
        refine ac_seq ?_
        refine ac_region ?_
        refine aops_eff (eff_move rfl) rfl rfl rfl ?_
        refine aops_eff (eff_move rfl) rfl rfl rfl ?_
        refine aops_eff (AEff.val (w_len_list TT_ok rfl rfl rfl) (v' := .int (a1.length : Int)) (by first | rw [len_map] | rw [encI_len])) rfl rfl rfl ?_
        refine aops_eff (w_cmp rfl rfl rfl) rfl rfl rfl ?_
        refine aops_nil ?_
        refine then_n ?_
        rcases cb h with ⟨q4, h⟩ | ⟨q4, h⟩
        · refine ac_condT rfl q4 ?_
          refine ac_skip ?_
          refine then_n ?_
          refine ac_seq ?_
          refine ac_block ?_
          refine ac_seq ?_
          refine ac_region ?_
          refine aops_eff (eff_move rfl) rfl rfl rfl ?_
          refine aops_eff (eff_move rfl) rfl rfl rfl ?_
          obtain ⟨v5, hv5, h⟩ := ob h
          refine aops_eff (x_at_list TT_ok hv5 rfl rfl rfl rfl rfl rfl) rfl rfl rfl ?_
          refine aops_eff (w_load_ref TT_ok rfl rfl rfl rfl rfl rfl) rfl rfl rfl ?_
          refine aops_eff (eff_move rfl) rfl rfl rfl ?_
          refine aops_eff (x_sub rfl rfl) rfl rfl rfl ?_
          obtain ⟨v6, hv6, h⟩ := ob h
          refine aops_eff (w_call0s (c_spec_l1In v5 0 (wr (a0 - 1)) v6 hv6) rfl (va_cons (va_same rfl) (va_cons (va_same rfl) (va_cons (va_same rfl) va_nil)))) rfl rfl rfl ?_
          refine aops_eff (w_not rfl) rfl rfl rfl ?_
          refine aops_nil ?_
          refine then_n ?_
          refine ac_ent (t := mkS [(0, .int a0), (1, .list 1 (List.map eI a1)), (5, .int x1), (27, .bl (!v6))] [] 0 [0, 1, 2, 3, 4, 5, 6, 7, 8, 9, 10, 11, 12, 13]) (ent_mk (σ := sg []) ⟨⟨_, rfl, rfl⟩, ⟨_, rfl, ⟨rfl, rfl⟩⟩, ⟨_, rfl, rfl⟩, ⟨_, rfl, rfl⟩, trivial⟩ trivial rfl) ?_
          rcases cb h with ⟨q7, h⟩ | ⟨q7, h⟩
          · refine ac_condT rfl q7 ?_
            refine ac_seq ?_
            refine ac_region ?_
            refine aops_eff (eff_assign rfl) rfl rfl rfl ?_
            refine aops_nil ?_
            refine then_n ?_
            refine ac_ret ?_
            refine block_ret ?_
            refine then_ret ?_
            refine then_ret ?_
            obtain rfl := so h
            exact ⟨_, rfl, rfl, ret_mk rfl rfl rfl (fz_bl rfl)⟩
          · refine ac_condF rfl q7 ?_
            refine ac_skip ?_
            refine block_n ?_
            refine then_n ?_
            refine ac_region ?_
            refine aops_eff (eff_move rfl) rfl rfl rfl ?_
            refine aops_eff (x_add rfl rfl) rfl rfl rfl ?_
            refine aops_eff (eff_assign rfl) rfl rfl rfl ?_
            refine aops_nil ?_
            refine then_n ?_
            obtain rfl := so h
            exact ⟨_, rfl, (ent_mk (σ := sg []) ⟨⟨_, rfl, rfl⟩, ⟨_, rfl, ⟨rfl, rfl⟩⟩, ⟨_, rfl, rfl⟩, trivial⟩ trivial rfl)⟩
        · refine ac_condF rfl q4 ?_
          refine ac_exit ?_
          refine then_exit ?_
          refine then_exit ?_
          obtain rfl := so h
          exact ⟨_, rfl, rfl, (ent_mk (σ := sg []) trivial trivial rfl)⟩
      · intro e t hX
        rcases y8 with y9 | y10
        · obtain ⟨rfl, hent⟩ := hX
          refine block_here ?_
          refine then_n ?_
          refine ac_ent hent ?_
          refine ac_seq ?_
          refine ac_region ?_
          refine aops_eff (eff_assign rfl) rfl rfl rfl ?_
          refine aops_nil ?_
          refine then_n ?_
          refine ac_ret ?_
          obtain rfl := so h
          exact ret_mk rfl rfl rfl (fz_bl rfl)
        · obtain ⟨rfl, hent⟩ := hX
          refine block_ret ?_
          refine then_ret ?_
          obtain rfl := so h
          exact hent

noncomputable def m_spec_IsMatrix (a0 : Int) (a1 : Mt) : Option Bool :=
  Option.bind (m_spec_l1In a1.rows 0 8) fun v1 =>
  bif v1 then
    (Option.bind (m_spec_l1In a1.cols 0 8) fun v3 =>
    bif v3 then
      (bif decide ((a1.cells.length : Int) = wr (a1.rows * a1.cols)) then
        (Option.bind (m_spec_IsVector a0 a1.cells) fun v6 =>
        some (v6))
      else
        (some (false)))
    else
      (some (false)))
  else
    (some (false))

theorem c_spec_IsMatrix (a0 : Int) (a1 : Mt) (r : Bool) (h : m_spec_IsMatrix a0 a1 = some r) : HasC Try.prog 93 [.int a0, .agg (eM a1)] (.bl r) := by
  refine hasC_mk TT_ok (rvs := [.tmp 4]) (ns := [0, 1, 2, 3, 4, 5, 6, 7, 8, 9, 10, 11, 12, 13]) Try.func93 rfl rfl Try.ntmps93 rfl rfl rfl ?_
  refine ac_seq ?_
  refine ac_region ?_
  refine aops_eff (w_box rfl rfl rfl rfl) rfl rfl rfl ?_
  refine aops_eff (eff_assign rfl) rfl rfl rfl ?_
  refine aops_nil ?_
  refine then_n ?_
  refine ac_seq ?_
  refine ac_region ?_
  refine aops_eff (w_field_ptr TT_ok rfl rfl rfl rfl rfl rfl rfl) rfl rfl rfl ?_
  refine aops_eff (w_load_ptr TT_ok rfl rfl rfl rfl rfl rfl rfl) rfl rfl rfl ?_
  obtain ⟨v1, hv1, h⟩ := ob h
  refine aops_eff (w_call0s (c_spec_l1In a1.rows 0 8 v1 hv1) rfl (va_cons (va_same rfl) (va_cons (va_same rfl) (va_cons (va_same rfl) va_nil)))) rfl rfl rfl ?_
  refine aops_eff (eff_move rfl) rfl rfl rfl ?_
  rcases cb h with ⟨q2, h⟩ | ⟨q2, h⟩
  · refine aops_lit 8 rfl q2 ?_
    refine aops_eff (w_field_ptr TT_ok rfl rfl rfl rfl rfl rfl rfl) rfl rfl rfl ?_
    refine aops_eff (w_load_ptr TT_ok rfl rfl rfl rfl rfl rfl rfl) rfl rfl rfl ?_
    obtain ⟨v3, hv3, h⟩ := ob h
    refine aops_eff (w_call0s (c_spec_l1In a1.cols 0 8 v3 hv3) rfl (va_cons (va_same rfl) (va_cons (va_same rfl) (va_cons (va_same rfl) va_nil)))) rfl rfl rfl ?_
    refine aops_eff (eff_pick rfl rfl) rfl rfl rfl ?_
    refine aops_eff (eff_move rfl) rfl rfl rfl ?_
    rcases cb h with ⟨q4, h⟩ | ⟨q4, h⟩
    · refine aops_lit 13 rfl q4 ?_
      refine aops_eff (w_field_ptr TT_ok rfl rfl rfl rfl rfl rfl rfl) rfl rfl rfl ?_
      refine aops_eff (w_load_ptr TT_ok rfl rfl rfl rfl rfl rfl rfl) rfl rfl rfl ?_
      refine aops_eff (AEff.val (w_len_list TT_ok rfl rfl rfl) (v' := .int (a1.cells.length : Int)) (by first | rw [len_map] | rw [encI_len])) rfl rfl rfl ?_
      refine aops_eff (w_field_ptr TT_ok rfl rfl rfl rfl rfl rfl rfl) rfl rfl rfl ?_
      refine aops_eff (w_load_ptr TT_ok rfl rfl rfl rfl rfl rfl rfl) rfl rfl rfl ?_
      refine aops_eff (w_field_ptr TT_ok rfl rfl rfl rfl rfl rfl rfl) rfl rfl rfl ?_
      refine aops_eff (w_load_ptr TT_ok rfl rfl rfl rfl rfl rfl rfl) rfl rfl rfl ?_
      refine aops_eff (x_mul rfl rfl) rfl rfl rfl ?_
      refine aops_eff (w_cmp rfl rfl rfl) rfl rfl rfl ?_
      refine aops_eff (eff_pick rfl rfl) rfl rfl rfl ?_
      refine aops_eff (eff_move rfl) rfl rfl rfl ?_
      rcases cb h with ⟨q5, h⟩ | ⟨q5, h⟩
      · refine aops_lit 24 rfl q5 ?_
        refine aops_eff (eff_move rfl) rfl rfl rfl ?_
        refine aops_eff (w_field_ptr TT_ok rfl rfl rfl rfl rfl rfl rfl) rfl rfl rfl ?_
        refine aops_eff (w_load_ptr TT_ok rfl rfl rfl rfl rfl rfl rfl) rfl rfl rfl ?_
        obtain ⟨v6, hv6, h⟩ := ob h
        refine aops_eff (w_call0s (c_spec_IsVector a0 a1.cells v6 hv6) rfl (va_cons (va_same rfl) (va_cons (va_same rfl) va_nil))) rfl rfl rfl ?_
        refine aops_eff (eff_pick rfl rfl) rfl rfl rfl ?_
        refine aops_eff (eff_assign rfl) rfl rfl rfl ?_
        refine aops_nil ?_
        refine then_n ?_
        refine ac_ent (t := mkS [(4, .bl v6)] [] 1 [1, 2, 3, 4, 5, 6, 7, 8, 9, 10, 11, 12, 13, 14]) (ent_mk (σ := sg []) ⟨⟨_, rfl, rfl⟩, trivial⟩ trivial rfl) ?_
        refine ac_ret ?_
        obtain rfl := so h
        exact ret_mk rfl rfl rfl (fz_bl rfl)
      · refine aops_lit 24 rfl q5 ?_
        refine aops_skip rfl rfl ?_
        refine aops_skip rfl rfl ?_
        refine aops_skip rfl rfl ?_
        refine aops_skip rfl rfl ?_
        refine aops_eff (eff_pick rfl rfl) rfl rfl rfl ?_
        refine aops_eff (eff_assign rfl) rfl rfl rfl ?_
        refine aops_nil ?_
        refine then_n ?_
        refine ac_ent (t := mkS [(4, .bl false)] [] 1 [1, 2, 3, 4, 5, 6, 7, 8, 9, 10, 11, 12, 13, 14]) (ent_mk (σ := sg []) ⟨⟨_, rfl, rfl⟩, trivial⟩ trivial rfl) ?_
        refine ac_ret ?_
        obtain rfl := so h
        exact ret_mk rfl rfl rfl (fz_bl rfl)
    · refine aops_lit 13 rfl q4 ?_
      refine aops_skip rfl rfl ?_
      refine aops_skip rfl rfl ?_
      refine aops_skip rfl rfl ?_
      refine aops_skip rfl rfl ?_
      refine aops_skip rfl rfl ?_
      refine aops_skip rfl rfl ?_
      refine aops_skip rfl rfl ?_
      refine aops_skip rfl rfl ?_
      refine aops_skip rfl rfl ?_
      refine aops_eff (eff_pick rfl rfl) rfl rfl rfl ?_
      refine aops_eff (eff_move rfl) rfl rfl rfl ?_
      refine aops_skip rfl rfl ?_
      refine aops_skip rfl rfl ?_
      refine aops_skip rfl rfl ?_
      refine aops_skip rfl rfl ?_
      refine aops_eff (eff_pick rfl rfl) rfl rfl rfl ?_
      refine aops_eff (eff_assign rfl) rfl rfl rfl ?_
      refine aops_nil ?_
      refine then_n ?_
      refine ac_ent (t := mkS [(4, .bl false)] [] 1 [1, 2, 3, 4, 5, 6, 7, 8, 9, 10, 11, 12, 13, 14]) (ent_mk (σ := sg []) ⟨⟨_, rfl, rfl⟩, trivial⟩ trivial rfl) ?_
      refine ac_ret ?_
      obtain rfl := so h
      exact ret_mk rfl rfl rfl (fz_bl rfl)
  · refine aops_lit 8 rfl q2 ?_
    refine aops_skip rfl rfl ?_
    refine aops_skip rfl rfl ?_
    refine aops_skip rfl rfl ?_
    refine aops_eff (eff_pick rfl rfl) rfl rfl rfl ?_
    refine aops_eff (eff_move rfl) rfl rfl rfl ?_
    refine aops_skip rfl rfl ?_
    refine aops_skip rfl rfl ?_
    refine aops_skip rfl rfl ?_
    refine aops_skip rfl rfl ?_
    refine aops_skip rfl rfl ?_
    refine aops_skip rfl rfl ?_
    refine aops_skip rfl rfl ?_
    refine aops_skip rfl rfl ?_
    refine aops_skip rfl rfl ?_
    refine aops_eff (eff_pick rfl rfl) rfl rfl rfl ?_
    refine aops_eff (eff_move rfl) rfl rfl rfl ?_
    refine aops_skip rfl rfl ?_
    refine aops_skip rfl rfl ?_
    refine aops_skip rfl rfl ?_
    refine aops_skip rfl rfl ?_
    refine aops_eff (eff_pick rfl rfl) rfl rfl rfl ?_
    refine aops_eff (eff_assign rfl) rfl rfl rfl ?_
    refine aops_nil ?_
    refine then_n ?_
    refine ac_ent (t := mkS [(4, .bl false)] [] 1 [1, 2, 3, 4, 5, 6, 7, 8, 9, 10, 11, 12, 13, 14]) (ent_mk (σ := sg []) ⟨⟨_, rfl, rfl⟩, trivial⟩ trivial rfl) ?_
    refine ac_ret ?_
    obtain rfl := so h
    exact ret_mk rfl rfl rfl (fz_bl rfl)

def m_spec_l3Copy (a0 : Mt) : Option Mt :=
  bif decide (([] : (List Int)).length + a0.cells.length ≤ 4294967296) then
    (some ((⟨a0.rows, a0.cols, (([] : (List Int)) ++ a0.cells)⟩ : Mt)))
  else none

theorem c_spec_l3Copy (a0 : Mt) (r : Mt) (h : m_spec_l3Copy a0 = some r) : HasC Try.prog 119 [.agg (eM a0)] (.agg (eM r)) := by
  refine hasC_mk TT_ok (rvs := [.cell 2 81]) (ns := [0, 1, 2, 3, 4, 5, 6, 7, 8, 9, 10, 11, 12, 13]) Try.func119 rfl rfl Try.ntmps119 rfl rfl rfl ?_
  refine ac_seq ?_
  refine ac_region ?_
  refine aops_eff (w_box rfl rfl rfl rfl) rfl rfl rfl ?_
  refine aops_eff (w_alloc TT_ok rfl rfl) rfl rfl rfl ?_
  refine aops_nil ?_
  refine then_n ?_
  refine ac_seq ?_
  refine ac_region_draw MIXX ?_
  refine aops_eff (w_field_ptr TT_ok rfl rfl rfl rfl rfl rfl rfl) rfl rfl rfl ?_
  refine aops_eff (w_load_ptr TT_ok rfl rfl rfl rfl rfl rfl rfl) rfl rfl rfl ?_
  refine aops_eff (w_field_ptr TT_ok rfl rfl rfl rfl rfl rfl rfl) rfl rfl rfl ?_
  refine aops_eff (w_load_ptr TT_ok rfl rfl rfl rfl rfl rfl rfl) rfl rfl rfl ?_
  refine aops_eff (w_lit TT_ok rfl rfl rfl rfl rfl rfl rfl rfl rfl rfl rfl rfl) rfl rfl rfl ?_
  refine aops_eff (w_field_ptr TT_ok rfl rfl rfl rfl rfl rfl rfl) rfl rfl rfl ?_
  refine aops_eff (w_load_ptr TT_ok rfl rfl rfl rfl rfl rfl rfl) rfl rfl rfl ?_
  obtain ⟨q1, h⟩ := cg h
  refine aops_eff (x_app TT_ok (l := ([] : (List Int))) (m := a0.cells) okIo q1 rfl rfl rfl rfl rfl rfl rfl rfl rfl rfl rfl rfl) rfl rfl rfl ?_
  refine aops_eff (w_build TT_ok rfl rfl rfl rfl rfl rfl) rfl rfl rfl ?_
  refine aops_eff (w_store TT_ok rfl rfl rfl rfl rfl rfl rfl rfl) rfl rfl rfl ?_
  refine aops_nil ?_
  refine ⟨by kernel_rfl, ?_⟩
  refine then_n ?_
  refine ac_ent (t := mkS [(2, .ptr 1 0 0)] [(1, ⟨3, [[.int a0.rows, .int a0.cols, .own 3 0 ((([] : (List Int)) ++ a0.cells).length)]]⟩), (3, ⟨1, List.map (ow eI) (([] : (List Int)) ++ a0.cells)⟩)] 4 [4, 5, 6, 7, 8, 9, 10, 11, 12, 13, 14, 15, 16, 17]) (ent_mk (σ := sg [(1, 1), (3, 3)]) ⟨⟨_, rfl, ⟨rfl, rfl, rfl, rfl⟩⟩, trivial⟩ ⟨⟨_, rfl, rfl, .inr ⟨_, _, rfl, ⟨_, _, rfl, rfl, ⟨_, _, rfl, rfl, ⟨_, _, rfl, ⟨rfl, rfl, rfl, rfl⟩, rfl⟩⟩⟩, rfl⟩⟩, rfl, ⟨_, rfl, rfl, .inl ⟨rfl, okI.plainO _⟩⟩, rfl, trivial⟩ rfl) ?_
  refine ac_ret ?_
  obtain rfl := so h
  exact ret_mk rfl rfl rfl (xz_agg (x1_cons (rfl) (x1_cons (rfl) (x1_cons (x_f1 okI rfl rfl) x1_nil))))

end Go.Proofs.Ytjfcjkeghigipaa
end

section
set_option linter.unusedVariables false
set_option linter.unusedSimpArgs false
/-
  Models and contracts of functions, made by the extractor (ex.py).
-/
namespace Go.Proofs.Ytjfcjkeghigipaa
open Go.RowKit
set_option linter.unusedVariables false
set_option linter.unusedSimpArgs false
set_option maxRecDepth 10000
set_option maxHeartbeats 4000000

noncomputable def m_spec_l4Reduce_L2 (v1 : Mt) (x1 : (Int × (List Int) × (List Int) × Int)) (x2 : (Int × Int)) : Option ((Int × Int) ⊕ Int) :=
  bif decide (x1.2.2.2 ≤ x2.2) then
    (Option.bind (atL x1.2.1 (wr ((wr (x2.2 * v1.cols)) + x1.1))) fun v5 =>
    bif !decide (v5 = 0) then
      (some (.inl (x2.2, wr (x2.2 - 1))))
    else
      (some (.inl (x2.1, wr (x2.2 - 1)))))
  else
    (some (.inr x2.1))

noncomputable def m_spec_l4Reduce_L3 (v1 : Mt) (x1 : (Int × (List Int) × (List Int) × Int)) (y7 : Int) (x3 : ((List Int) × Int)) : Option (((List Int) × Int) ⊕ (List Int)) :=
  bif decide (x3.2 < v1.cols) then
    (Option.bind (atL x3.1 (wr ((wr (x1.2.2.2 * v1.cols)) + x3.2))) fun v10 =>
    Option.bind (atL x3.1 (wr ((wr (y7 * v1.cols)) + x3.2))) fun v11 =>
    Option.bind (atL x3.1 (wr ((wr (x1.2.2.2 * v1.cols)) + x3.2))) fun v12 =>
    Option.bind (atL (x3.1.set ((wr ((wr (x1.2.2.2 * v1.cols)) + x3.2)).toNat) v11) (wr ((wr (y7 * v1.cols)) + x3.2))) fun v13 =>
    some (.inl (((x3.1.set ((wr ((wr (x1.2.2.2 * v1.cols)) + x3.2)).toNat) v11).set ((wr ((wr (y7 * v1.cols)) + x3.2)).toNat) v10), wr (x3.2 + 1))))
  else
    (some (.inr x3.1))

noncomputable def m_spec_l4Reduce_L4 (a0 : Int) (v1 : Mt) (v16 : Int) (x1 : (Int × (List Int) × (List Int) × Int)) (x4 : ((List Int) × Int)) : Option (((List Int) × Int) ⊕ (List Int)) :=
  bif decide (x4.2 < v1.cols) then
    (Option.bind (atL x4.1 (wr ((wr (x1.2.2.2 * v1.cols)) + x4.2))) fun v18 =>
    Option.bind (m_spec_l2Mod a0 (wr (v16 * v18))) fun v19 =>
    Option.bind (atL x4.1 (wr ((wr (x1.2.2.2 * v1.cols)) + x4.2))) fun v20 =>
    some (.inl ((x4.1.set ((wr ((wr (x1.2.2.2 * v1.cols)) + x4.2)).toNat) v19), wr (x4.2 + 1))))
  else
    (some (.inr x4.1))

noncomputable def m_spec_l4Reduce_L6 (a0 : Int) (v1 : Mt) (v23 : Int) (x1 : (Int × (List Int) × (List Int) × Int)) (x5 : ((List Int) × Int)) (x6 : ((List Int) × Int)) : Option (((List Int) × Int) ⊕ (List Int)) :=
  bif decide (x6.2 < v1.cols) then
    (bif !decide (x5.2 = x1.2.2.2) then
      (Option.bind (atL x6.1 (wr ((wr (x5.2 * v1.cols)) + x6.2))) fun v26 =>
      Option.bind (atL x6.1 (wr ((wr (x1.2.2.2 * v1.cols)) + x6.2))) fun v27 =>
      Option.bind (m_spec_l2Mod a0 (wr (v26 - (wr (v23 * v27))))) fun v28 =>
      Option.bind (atL x6.1 (wr ((wr (x5.2 * v1.cols)) + x6.2))) fun v29 =>
      some (.inl ((x6.1.set ((wr ((wr (x5.2 * v1.cols)) + x6.2)).toNat) v28), wr (x6.2 + 1))))
    else
      (some (.inr x6.1)))
  else
    (some (.inr x6.1))

noncomputable def m_spec_l4Reduce_L5 (a0 : Int) (v1 : Mt) (x1 : (Int × (List Int) × (List Int) × Int)) (x5 : ((List Int) × Int)) : Option (((List Int) × Int) ⊕ (List Int)) :=
  bif decide (x5.2 < v1.rows) then
    (Option.bind (atL x5.1 (wr ((wr (x5.2 * v1.cols)) + x1.1))) fun v23 =>
    Option.bind (Lp (m_spec_l4Reduce_L6 a0 v1 v23 x1 x5) (x5.1, 0)) fun y30 =>
    some (.inl (y30, wr (x5.2 + 1))))
  else
    (some (.inr x5.1))

noncomputable def m_spec_l4Reduce_L1 (a0 : Int) (v1 : Mt) (x1 : (Int × (List Int) × (List Int) × Int)) : Option ((Int × (List Int) × (List Int) × Int) ⊕ ((List Int) × (List Int))) :=
  bif decide (x1.1 < v1.cols) then
    (bif decide (x1.2.2.2 < v1.rows) then
      (Option.bind (Lp (m_spec_l4Reduce_L2 v1 x1) ((-1), wr (v1.rows - 1))) fun y7 =>
      bif decide (y7 < 0) then
        (some (.inl (wr (x1.1 + 1), x1.2.1, x1.2.2.1, x1.2.2.2)))
      else
        (Option.bind (Lp (m_spec_l4Reduce_L3 v1 x1 y7) (x1.2.1, 0)) fun y14 =>
        Option.bind (atL y14 (wr ((wr (x1.2.2.2 * v1.cols)) + x1.1))) fun v15 =>
        Option.bind (m_spec_InverseMod a0 v15) fun v16 =>
        Option.bind (Lp (m_spec_l4Reduce_L4 a0 v1 v16 x1) (y14, 0)) fun y21 =>
        Option.bind (Lp (m_spec_l4Reduce_L5 a0 v1 x1) (y21, 0)) fun y31 =>
        bif decide (x1.2.2.1.length + [x1.1].length ≤ 4294967296) then
          (some (.inl (wr (x1.1 + 1), y31, (x1.2.2.1 ++ [x1.1]), wr (x1.2.2.2 + 1))))
        else none))
    else
      (some (.inr (x1.2.1, x1.2.2.1))))
  else
    (some (.inr (x1.2.1, x1.2.2.1)))

noncomputable def m_spec_l4Reduce (a0 : Int) (a1 : Mt) : Option (Mt × (List Int)) :=
  Option.bind (m_spec_l3Copy a1) fun v1 =>
  Option.bind (Lp (m_spec_l4Reduce_L1 a0 v1) (0, v1.cells, ([] : (List Int)), 0)) fun y33 =>
  some (((⟨v1.rows, v1.cols, y33.1⟩ : Mt), y33.2))

theorem c_spec_l4Reduce (a0 : Int) (a1 : Mt) (r : (Mt × (List Int))) (h : m_spec_l4Reduce a0 a1 = some r) : HasC Try.prog 102 [.int a0, .agg (eM a1)] (.tuple [.agg (eM r.1), .list 1 (List.map eI r.2)]) := by
  refine hasC_mk TT_ok (rvs := [.cell 4 81, .tmp 5]) (ns := [0, 1, 2, 3, 4, 5, 6, 7, 8, 9, 10, 11, 12, 13]) Try.func102 rfl rfl Try.ntmps102 rfl rfl rfl ?_
  refine ac_seq ?_
  refine ac_region ?_
  refine aops_eff (w_box rfl rfl rfl rfl) rfl rfl rfl ?_
  refine aops_eff (w_alloc TT_ok rfl rfl) rfl rfl rfl ?_
  refine aops_eff (eff_assign rfl) rfl rfl rfl ?_
  refine aops_nil ?_
  refine then_n ?_
  refine ac_seq ?_
  refine ac_region ?_
  refine aops_eff (w_load_ptr TT_ok rfl rfl rfl rfl rfl rfl rfl) rfl rfl rfl ?_
  obtain ⟨v1, hv1, h⟩ := ob h
  refine aops_eff (AEff.conv (w_call0 (x := .agg [.int v1.rows, .int v1.cols, .own 2 0 (List.map eI v1.cells).length]) (nb := [(2, ⟨1, absEs (List.map eI v1.cells)⟩)]) (c_spec_l3Copy a1 v1 hv1) rfl (by rfl) rfl rfl (g1_cons trivial (g1_cons trivial (g1_cons (okI.good _) g1_nil))) (va_cons (va_agg' (v1_cons (v1_same rfl) (v1_cons (v1_same rfl) (v1_cons (v1_same rfl) v1_nil)))) va_nil)) (v' := .agg [.int v1.rows, .int v1.cols, .own 2 0 v1.cells.length]) (ed' := [(2, some ⟨1, List.map (ow eI) v1.cells⟩)]) (by simp only [len_map]) (ed_ok (nb' := [(2, ⟨1, List.map (ow eI) v1.cells⟩)]) (by simp only [abs_map]))) rfl rfl rfl ?_
  refine aops_eff (w_alloc TT_ok rfl rfl) rfl rfl rfl ?_
  refine aops_eff (w_store TT_ok rfl rfl rfl rfl rfl rfl rfl rfl) rfl rfl rfl ?_
  refine aops_nil ?_
  refine then_n ?_
  refine ac_seq ?_
  refine ac_region ?_
  refine aops_eff (w_lit TT_ok rfl rfl rfl rfl rfl rfl rfl rfl rfl rfl rfl rfl) rfl rfl rfl ?_
  refine aops_eff (eff_assign rfl) rfl rfl rfl ?_
  refine aops_nil ?_
  refine then_n ?_
  refine ac_ent (t := mkS [(0, .int a0), (4, .ptr 1 0 0), (6, .ptr 3 0 0), (7, .own 4 0 (([] : (List Int)).length))] [(1, ⟨3, [[.int 0, .int 0, .nil 1]]⟩), (2, ⟨1, List.map (ow eI) v1.cells⟩), (3, ⟨3, [[.int v1.rows, .int v1.cols, .own 2 0 v1.cells.length]]⟩), (4, ⟨1, List.map (ow eI) ([] : (List Int))⟩)] 5 [5, 6, 7, 8, 9, 10, 11, 12, 13, 14, 15, 16, 17, 18]) (ent_mk (σ := sg [(1, 1), (2, 2), (3, 3), (4, 4)]) ⟨⟨_, rfl, rfl⟩, ⟨_, rfl, ⟨rfl, rfl, rfl, rfl⟩⟩, ⟨_, rfl, ⟨rfl, rfl, rfl, rfl⟩⟩, ⟨_, rfl, ⟨rfl, rfl, (by simp only [len_map, List.length_append, List.length_set, List.length_replicate, List.length_cons, List.length_nil]), rfl⟩⟩, trivial⟩ ⟨⟨_, rfl, rfl, .inl ⟨rfl, plain_of rfl⟩⟩, rfl, ⟨_, rfl, rfl, .inl ⟨rfl, okI.plainO _⟩⟩, rfl, ⟨_, rfl, rfl, .inr ⟨_, _, rfl, ⟨_, _, rfl, rfl, ⟨_, _, rfl, rfl, ⟨_, _, rfl, ⟨rfl, rfl, rfl, rfl⟩, rfl⟩⟩⟩, rfl⟩⟩, rfl, ⟨_, rfl, rfl, .inl ⟨rfl, okI.plainO _⟩⟩, rfl, trivial⟩ rfl) ?_
  refine ac_seq ?_
  refine ac_region ?_
  refine aops_eff (eff_assign rfl) rfl rfl rfl ?_
  refine aops_nil ?_
  refine then_n ?_
  refine ac_seq ?_
  refine ac_seq ?_
  refine ac_region ?_
  refine aops_eff (eff_assign rfl) rfl rfl rfl ?_
  refine aops_nil ?_
  refine then_n ?_
  refine ac_block ?_
  obtain ⟨y33, hy33, h⟩ := ob h
  refine ac_Lp (body := (m_spec_l4Reduce_L1 a0 v1)) hy33 (fun (x1 : (Int × (List Int) × (List Int) × Int)) => mkS [(0, .int a0), (4, .ptr 0 0 0), (6, .ptr 1 0 0), (7, .own 3 0 x1.2.2.1.length), (8, .int x1.2.2.2), (9, .int x1.1)] [(0, ⟨3, [[.int 0, .int 0, .nil 1]]⟩), (1, ⟨3, [[.int v1.rows, .int v1.cols, .own 2 0 x1.2.1.length]]⟩), (2, ⟨1, List.map (ow eI) x1.2.1⟩), (3, ⟨1, List.map (ow eI) x1.2.2.1⟩)] 4 [4, 5, 6, 7, 8, 9, 10, 11, 12, 13, 14, 15, 16, 17]) (fun r e t => e = .exit 0 ∧ Ent t (mkS [(4, .ptr 0 0 0), (6, .ptr 1 0 0), (7, .own 3 0 r.2.length)] [(0, ⟨3, [[.int 0, .int 0, .nil 1]]⟩), (1, ⟨3, [[.int v1.rows, .int v1.cols, .own 2 0 r.1.length]]⟩), (2, ⟨1, List.map (ow eI) r.1⟩), (3, ⟨1, List.map (ow eI) r.2⟩)] 4 [4, 5, 6, 7, 8, 9, 10, 11, 12, 13, 14, 15, 16, 17])) (ent_mk (σ := sg [(0, 1), (1, 3), (2, 2), (3, 4)]) ⟨⟨_, rfl, rfl⟩, ⟨_, rfl, ⟨rfl, rfl, rfl, rfl⟩⟩, ⟨_, rfl, ⟨rfl, rfl, rfl, rfl⟩⟩, ⟨_, rfl, ⟨rfl, rfl, rfl, rfl⟩⟩, ⟨_, rfl, rfl⟩, ⟨_, rfl, rfl⟩, trivial⟩ ⟨⟨_, rfl, rfl, .inl ⟨rfl, plain_of rfl⟩⟩, rfl, ⟨_, rfl, rfl, .inr ⟨_, _, rfl, ⟨_, _, rfl, rfl, ⟨_, _, rfl, rfl, ⟨_, _, rfl, ⟨rfl, rfl, rfl, rfl⟩, rfl⟩⟩⟩, rfl⟩⟩, rfl, ⟨_, rfl, rfl, .inl ⟨rfl, okI.plainO _⟩⟩, rfl, ⟨_, rfl, rfl, .inl ⟨rfl, okI.plainO _⟩⟩, rfl, trivial⟩ rfl) ?_ ?_
  · intro x1 o h
    refine ac_seq ?_
    refine ac_seq ?_
    refine ac_region ?_
    refine aops_eff (eff_move rfl) rfl rfl rfl ?_
    refine aops_eff (w_field_ptr TT_ok rfl rfl rfl rfl rfl rfl rfl) rfl rfl rfl ?_
    refine aops_eff (w_load_ptr TT_ok rfl rfl rfl rfl rfl rfl rfl) rfl rfl rfl ?_
    refine aops_eff (w_cmp rfl rfl rfl) rfl rfl rfl ?_
    refine aops_eff (eff_move rfl) rfl rfl rfl ?_
    rcases cb h with ⟨q2, h⟩ | ⟨q2, h⟩
    · refine aops_lit 26 rfl q2 ?_
      refine aops_eff (eff_move rfl) rfl rfl rfl ?_
      refine aops_eff (w_field_ptr TT_ok rfl rfl rfl rfl rfl rfl rfl) rfl rfl rfl ?_
      refine aops_eff (w_load_ptr TT_ok rfl rfl rfl rfl rfl rfl rfl) rfl rfl rfl ?_
      refine aops_eff (w_cmp rfl rfl rfl) rfl rfl rfl ?_
      refine aops_eff (eff_pick rfl rfl) rfl rfl rfl ?_
      refine aops_nil ?_
      refine then_n ?_
      rcases cb h with ⟨q3, h⟩ | ⟨q3, h⟩
      · refine ac_condT rfl q3 ?_
        refine ac_skip ?_
        refine then_n ?_
        refine ac_seq ?_
        refine ac_block ?_
        refine ac_seq ?_
        refine ac_region ?_
        refine aops_eff (eff_assign rfl) rfl rfl rfl ?_
        refine aops_nil ?_
        refine then_n ?_
        refine ac_seq ?_
        refine ac_seq ?_
        refine ac_region ?_
        refine aops_eff (w_field_ptr TT_ok rfl rfl rfl rfl rfl rfl rfl) rfl rfl rfl ?_
        refine aops_eff (w_load_ptr TT_ok rfl rfl rfl rfl rfl rfl rfl) rfl rfl rfl ?_
        refine aops_eff (x_sub rfl rfl) rfl rfl rfl ?_
        refine aops_eff (eff_assign rfl) rfl rfl rfl ?_
        refine aops_nil ?_
        refine then_n ?_
        refine ac_ent (t := mkS [(0, .int a0), (4, .ptr 0 0 0), (6, .ptr 1 0 0), (7, .own 3 0 x1.2.2.1.length), (8, .int x1.2.2.2), (9, .int x1.1), (10, .int (-1)), (11, .int (wr (v1.rows - 1)))] [(0, ⟨3, [[.int 0, .int 0, .nil 1]]⟩), (1, ⟨3, [[.int v1.rows, .int v1.cols, .own 2 0 x1.2.1.length]]⟩), (2, ⟨1, List.map (ow eI) x1.2.1⟩), (3, ⟨1, List.map (ow eI) x1.2.2.1⟩)] 4 [4, 5, 6, 7, 8, 9, 10, 11, 12, 13, 14, 15, 16, 17]) (ent_mk (σ := sg [(0, 0), (1, 1), (2, 2), (3, 3)]) ⟨⟨_, rfl, rfl⟩, ⟨_, rfl, ⟨rfl, rfl, rfl, rfl⟩⟩, ⟨_, rfl, ⟨rfl, rfl, rfl, rfl⟩⟩, ⟨_, rfl, ⟨rfl, rfl, rfl, rfl⟩⟩, ⟨_, rfl, rfl⟩, ⟨_, rfl, rfl⟩, ⟨_, rfl, rfl⟩, ⟨_, rfl, rfl⟩, trivial⟩ ⟨⟨_, rfl, rfl, .inl ⟨rfl, plain_of rfl⟩⟩, rfl, ⟨_, rfl, rfl, .inr ⟨_, _, rfl, ⟨_, _, rfl, rfl, ⟨_, _, rfl, rfl, ⟨_, _, rfl, ⟨rfl, rfl, rfl, rfl⟩, rfl⟩⟩⟩, rfl⟩⟩, rfl, ⟨_, rfl, rfl, .inl ⟨rfl, okI.plainO _⟩⟩, rfl, ⟨_, rfl, rfl, .inl ⟨rfl, okI.plainO _⟩⟩, rfl, trivial⟩ rfl) ?_
        refine ac_block ?_
        obtain ⟨y7, hy7, h⟩ := ob h
        refine ac_Lp (body := (m_spec_l4Reduce_L2 v1 x1)) hy7 (fun (x2 : (Int × Int)) => mkS [(0, .int a0), (4, .ptr 0 0 0), (6, .ptr 1 0 0), (7, .own 3 0 x1.2.2.1.length), (8, .int x1.2.2.2), (9, .int x1.1), (10, .int x2.1), (11, .int x2.2)] [(0, ⟨3, [[.int 0, .int 0, .nil 1]]⟩), (1, ⟨3, [[.int v1.rows, .int v1.cols, .own 2 0 x1.2.1.length]]⟩), (2, ⟨1, List.map (ow eI) x1.2.1⟩), (3, ⟨1, List.map (ow eI) x1.2.2.1⟩)] 4 [4, 5, 6, 7, 8, 9, 10, 11, 12, 13, 14, 15, 16, 17]) (fun r e t => e = .exit 2 ∧ Ent t (mkS [(0, .int a0), (4, .ptr 0 0 0), (6, .ptr 1 0 0), (7, .own 3 0 x1.2.2.1.length), (8, .int x1.2.2.2), (9, .int x1.1), (10, .int r)] [(0, ⟨3, [[.int 0, .int 0, .nil 1]]⟩), (1, ⟨3, [[.int v1.rows, .int v1.cols, .own 2 0 x1.2.1.length]]⟩), (2, ⟨1, List.map (ow eI) x1.2.1⟩), (3, ⟨1, List.map (ow eI) x1.2.2.1⟩)] 4 [4, 5, 6, 7, 8, 9, 10, 11, 12, 13, 14, 15, 16, 17])) (ent_mk (σ := sg [(0, 0), (1, 1), (2, 2), (3, 3)]) ⟨⟨_, rfl, rfl⟩, ⟨_, rfl, ⟨rfl, rfl, rfl, rfl⟩⟩, ⟨_, rfl, ⟨rfl, rfl, rfl, rfl⟩⟩, ⟨_, rfl, ⟨rfl, rfl, rfl, rfl⟩⟩, ⟨_, rfl, rfl⟩, ⟨_, rfl, rfl⟩, ⟨_, rfl, rfl⟩, ⟨_, rfl, rfl⟩, trivial⟩ ⟨⟨_, rfl, rfl, .inl ⟨rfl, plain_of rfl⟩⟩, rfl, ⟨_, rfl, rfl, .inr ⟨_, _, rfl, ⟨_, _, rfl, rfl, ⟨_, _, rfl, rfl, ⟨_, _, rfl, ⟨rfl, rfl, rfl, rfl⟩, rfl⟩⟩⟩, rfl⟩⟩, rfl, ⟨_, rfl, rfl, .inl ⟨rfl, okI.plainO _⟩⟩, rfl, ⟨_, rfl, rfl, .inl ⟨rfl, okI.plainO _⟩⟩, rfl, trivial⟩ rfl) ?_ ?_
        · intro x2 o h
          refine ac_seq ?_
          refine ac_seq ?_
          refine ac_region ?_
          refine aops_eff (eff_move rfl) rfl rfl rfl ?_
          refine aops_eff (eff_move rfl) rfl rfl rfl ?_
          refine aops_eff (w_cmp rfl rfl rfl) rfl rfl rfl ?_
          refine aops_nil ?_
          refine then_n ?_
          rcases cb h with ⟨q4, h⟩ | ⟨q4, h⟩
          · refine ac_condT rfl q4 ?_
            refine ac_skip ?_
            refine then_n ?_
            refine ac_seq ?_
            refine ac_block ?_
            refine ac_seq ?_
            refine ac_region ?_
            refine aops_eff (w_field_ptr TT_ok rfl rfl rfl rfl rfl rfl rfl) rfl rfl rfl ?_
            refine aops_eff (w_load_ptr TT_ok rfl rfl rfl rfl rfl rfl rfl) rfl rfl rfl ?_
            refine aops_eff (eff_move rfl) rfl rfl rfl ?_
            refine aops_eff (w_field_ptr TT_ok rfl rfl rfl rfl rfl rfl rfl) rfl rfl rfl ?_
            refine aops_eff (w_load_ptr TT_ok rfl rfl rfl rfl rfl rfl rfl) rfl rfl rfl ?_
            refine aops_eff (x_mul rfl rfl) rfl rfl rfl ?_
            refine aops_eff (eff_move rfl) rfl rfl rfl ?_
            refine aops_eff (x_add rfl rfl) rfl rfl rfl ?_
            obtain ⟨v5, hv5, h⟩ := ob h
            refine aops_eff (x_at_own TT_ok (atL_nn hv5) (atL_lt hv5) rfl rfl rfl rfl rfl rfl rfl) rfl rfl rfl ?_
            refine aops_eff (w_load_ptr TT_ok rfl rfl rfl rfl (map_at (atL_get hv5)) rfl rfl) rfl rfl rfl ?_
            refine aops_eff (w_cmp rfl rfl rfl) rfl rfl rfl ?_
            refine aops_nil ?_
            refine then_n ?_
            refine ac_ent (t := mkS [(0, .int a0), (4, .ptr 0 0 0), (6, .ptr 1 0 0), (7, .own 3 0 x1.2.2.1.length), (8, .int x1.2.2.2), (9, .int x1.1), (10, .int x2.1), (11, .int x2.2), (52, .bl (!decide (v5 = 0)))] [(0, ⟨3, [[.int 0, .int 0, .nil 1]]⟩), (1, ⟨3, [[.int v1.rows, .int v1.cols, .own 2 0 x1.2.1.length]]⟩), (2, ⟨1, List.map (ow eI) x1.2.1⟩), (3, ⟨1, List.map (ow eI) x1.2.2.1⟩)] 4 [4, 5, 6, 7, 8, 9, 10, 11, 12, 13, 14, 15, 16, 17]) (ent_mk (σ := sg [(0, 0), (1, 1), (2, 2), (3, 3)]) ⟨⟨_, rfl, rfl⟩, ⟨_, rfl, ⟨rfl, rfl, rfl, rfl⟩⟩, ⟨_, rfl, ⟨rfl, rfl, rfl, rfl⟩⟩, ⟨_, rfl, ⟨rfl, rfl, rfl, rfl⟩⟩, ⟨_, rfl, rfl⟩, ⟨_, rfl, rfl⟩, ⟨_, rfl, rfl⟩, ⟨_, rfl, rfl⟩, ⟨_, rfl, rfl⟩, trivial⟩ ⟨⟨_, rfl, rfl, .inl ⟨rfl, plain_of rfl⟩⟩, rfl, ⟨_, rfl, rfl, .inr ⟨_, _, rfl, ⟨_, _, rfl, rfl, ⟨_, _, rfl, rfl, ⟨_, _, rfl, ⟨rfl, rfl, rfl, rfl⟩, rfl⟩⟩⟩, rfl⟩⟩, rfl, ⟨_, rfl, rfl, .inl ⟨rfl, okI.plainO _⟩⟩, rfl, ⟨_, rfl, rfl, .inl ⟨rfl, okI.plainO _⟩⟩, rfl, trivial⟩ rfl) ?_
            rcases cb h with ⟨q6, h⟩ | ⟨q6, h⟩
            · refine ac_condT rfl q6 ?_
              refine ac_region ?_
              refine aops_eff (eff_move rfl) rfl rfl rfl ?_
              refine aops_eff (eff_assign rfl) rfl rfl rfl ?_
              refine aops_nil ?_
              refine block_n ?_
              refine then_n ?_
              refine ac_region ?_
              refine aops_eff (eff_move rfl) rfl rfl rfl ?_
              refine aops_eff (x_sub rfl rfl) rfl rfl rfl ?_
              refine aops_eff (eff_assign rfl) rfl rfl rfl ?_
              refine aops_nil ?_
              refine then_n ?_
              obtain rfl := so h
              exact ⟨_, rfl, (ent_mk (σ := sg [(0, 0), (1, 1), (2, 2), (3, 3)]) ⟨⟨_, rfl, rfl⟩, ⟨_, rfl, ⟨rfl, rfl, rfl, rfl⟩⟩, ⟨_, rfl, ⟨rfl, rfl, rfl, rfl⟩⟩, ⟨_, rfl, ⟨rfl, rfl, rfl, rfl⟩⟩, ⟨_, rfl, rfl⟩, ⟨_, rfl, rfl⟩, ⟨_, rfl, rfl⟩, ⟨_, rfl, rfl⟩, trivial⟩ ⟨⟨_, rfl, rfl, .inl ⟨rfl, plain_of rfl⟩⟩, rfl, ⟨_, rfl, rfl, .inr ⟨_, _, rfl, ⟨_, _, rfl, rfl, ⟨_, _, rfl, rfl, ⟨_, _, rfl, ⟨rfl, rfl, rfl, rfl⟩, rfl⟩⟩⟩, rfl⟩⟩, rfl, ⟨_, rfl, rfl, .inl ⟨rfl, okI.plainO _⟩⟩, rfl, ⟨_, rfl, rfl, .inl ⟨rfl, okI.plainO _⟩⟩, rfl, trivial⟩ rfl)⟩
            · refine ac_condF rfl q6 ?_
              refine ac_skip ?_
              refine block_n ?_
              refine then_n ?_
              refine ac_region ?_
              refine aops_eff (eff_move rfl) rfl rfl rfl ?_
              refine aops_eff (x_sub rfl rfl) rfl rfl rfl ?_
              refine aops_eff (eff_assign rfl) rfl rfl rfl ?_
              refine aops_nil ?_
              refine then_n ?_
              obtain rfl := so h
              exact ⟨_, rfl, (ent_mk (σ := sg [(0, 0), (1, 1), (2, 2), (3, 3)]) ⟨⟨_, rfl, rfl⟩, ⟨_, rfl, ⟨rfl, rfl, rfl, rfl⟩⟩, ⟨_, rfl, ⟨rfl, rfl, rfl, rfl⟩⟩, ⟨_, rfl, ⟨rfl, rfl, rfl, rfl⟩⟩, ⟨_, rfl, rfl⟩, ⟨_, rfl, rfl⟩, ⟨_, rfl, rfl⟩, ⟨_, rfl, rfl⟩, trivial⟩ ⟨⟨_, rfl, rfl, .inl ⟨rfl, plain_of rfl⟩⟩, rfl, ⟨_, rfl, rfl, .inr ⟨_, _, rfl, ⟨_, _, rfl, rfl, ⟨_, _, rfl, rfl, ⟨_, _, rfl, ⟨rfl, rfl, rfl, rfl⟩, rfl⟩⟩⟩, rfl⟩⟩, rfl, ⟨_, rfl, rfl, .inl ⟨rfl, okI.plainO _⟩⟩, rfl, ⟨_, rfl, rfl, .inl ⟨rfl, okI.plainO _⟩⟩, rfl, trivial⟩ rfl)⟩
          · refine ac_condF rfl q4 ?_
            refine ac_exit ?_
            refine then_exit ?_
            refine then_exit ?_
            obtain rfl := so h
            exact ⟨_, rfl, rfl, (ent_mk (σ := sg [(0, 0), (1, 1), (2, 2), (3, 3)]) ⟨⟨_, rfl, rfl⟩, ⟨_, rfl, ⟨rfl, rfl, rfl, rfl⟩⟩, ⟨_, rfl, ⟨rfl, rfl, rfl, rfl⟩⟩, ⟨_, rfl, ⟨rfl, rfl, rfl, rfl⟩⟩, ⟨_, rfl, rfl⟩, ⟨_, rfl, rfl⟩, ⟨_, rfl, rfl⟩, trivial⟩ ⟨⟨_, rfl, rfl, .inl ⟨rfl, plain_of rfl⟩⟩, rfl, ⟨_, rfl, rfl, .inr ⟨_, _, rfl, ⟨_, _, rfl, rfl, ⟨_, _, rfl, rfl, ⟨_, _, rfl, ⟨rfl, rfl, rfl, rfl⟩, rfl⟩⟩⟩, rfl⟩⟩, rfl, ⟨_, rfl, rfl, .inl ⟨rfl, okI.plainO _⟩⟩, rfl, ⟨_, rfl, rfl, .inl ⟨rfl, okI.plainO _⟩⟩, rfl, trivial⟩ rfl)⟩
        · rintro e t ⟨rfl, hent⟩
          refine block_here ?_
          refine then_n ?_
          refine ac_ent hent ?_
          refine ac_seq ?_
          refine ac_seq ?_
          refine ac_region ?_
          refine aops_eff (eff_move rfl) rfl rfl rfl ?_
          refine aops_eff (w_cmp rfl rfl rfl) rfl rfl rfl ?_
          refine aops_nil ?_
          refine then_n ?_
          rcases cb h with ⟨q8, h⟩ | ⟨q8, h⟩
          · refine ac_condT rfl q8 ?_
            refine ac_exit ?_
            refine then_exit ?_
            refine block_here ?_
            refine then_n ?_
            refine ac_region ?_
            refine aops_eff (eff_move rfl) rfl rfl rfl ?_
            refine aops_eff (x_add rfl rfl) rfl rfl rfl ?_
            refine aops_eff (eff_assign rfl) rfl rfl rfl ?_
            refine aops_nil ?_
            refine then_n ?_
            obtain rfl := so h
            exact ⟨_, rfl, (ent_mk (σ := sg [(0, 0), (1, 1), (2, 2), (3, 3)]) ⟨⟨_, rfl, rfl⟩, ⟨_, rfl, ⟨rfl, rfl, rfl, rfl⟩⟩, ⟨_, rfl, ⟨rfl, rfl, rfl, rfl⟩⟩, ⟨_, rfl, ⟨rfl, rfl, rfl, rfl⟩⟩, ⟨_, rfl, rfl⟩, ⟨_, rfl, rfl⟩, trivial⟩ ⟨⟨_, rfl, rfl, .inl ⟨rfl, plain_of rfl⟩⟩, rfl, ⟨_, rfl, rfl, .inr ⟨_, _, rfl, ⟨_, _, rfl, rfl, ⟨_, _, rfl, rfl, ⟨_, _, rfl, ⟨rfl, rfl, rfl, rfl⟩, rfl⟩⟩⟩, rfl⟩⟩, rfl, ⟨_, rfl, rfl, .inl ⟨rfl, okI.plainO _⟩⟩, rfl, ⟨_, rfl, rfl, .inl ⟨rfl, okI.plainO _⟩⟩, rfl, trivial⟩ rfl)⟩
          · refine ac_condF rfl q8 ?_
            refine ac_skip ?_
            refine then_n ?_
            refine ac_seq ?_
            refine ac_seq ?_
            refine ac_region ?_
            refine aops_eff (eff_assign rfl) rfl rfl rfl ?_
            refine aops_nil ?_
            refine then_n ?_
            refine ac_block ?_
            obtain ⟨y14, hy14, h⟩ := ob h
            refine ac_Lp (body := (m_spec_l4Reduce_L3 v1 x1 y7)) hy14 (fun (x3 : ((List Int) × Int)) => mkS [(0, .int a0), (4, .ptr 0 0 0), (6, .ptr 1 0 0), (7, .own 3 0 x1.2.2.1.length), (8, .int x1.2.2.2), (9, .int x1.1), (10, .int y7), (12, .int x3.2)] [(0, ⟨3, [[.int 0, .int 0, .nil 1]]⟩), (1, ⟨3, [[.int v1.rows, .int v1.cols, .own 2 0 x3.1.length]]⟩), (2, ⟨1, List.map (ow eI) x3.1⟩), (3, ⟨1, List.map (ow eI) x1.2.2.1⟩)] 4 [4, 5, 6, 7, 8, 9, 10, 11, 12, 13, 14, 15, 16, 17]) (fun r e t => e = .exit 4 ∧ Ent t (mkS [(0, .int a0), (4, .ptr 0 0 0), (6, .ptr 1 0 0), (7, .own 3 0 x1.2.2.1.length), (8, .int x1.2.2.2), (9, .int x1.1)] [(0, ⟨3, [[.int 0, .int 0, .nil 1]]⟩), (1, ⟨3, [[.int v1.rows, .int v1.cols, .own 2 0 r.length]]⟩), (2, ⟨1, List.map (ow eI) r⟩), (3, ⟨1, List.map (ow eI) x1.2.2.1⟩)] 4 [4, 5, 6, 7, 8, 9, 10, 11, 12, 13, 14, 15, 16, 17])) (ent_mk (σ := sg [(0, 0), (1, 1), (2, 2), (3, 3)]) ⟨⟨_, rfl, rfl⟩, ⟨_, rfl, ⟨rfl, rfl, rfl, rfl⟩⟩, ⟨_, rfl, ⟨rfl, rfl, rfl, rfl⟩⟩, ⟨_, rfl, ⟨rfl, rfl, rfl, rfl⟩⟩, ⟨_, rfl, rfl⟩, ⟨_, rfl, rfl⟩, ⟨_, rfl, rfl⟩, ⟨_, rfl, rfl⟩, trivial⟩ ⟨⟨_, rfl, rfl, .inl ⟨rfl, plain_of rfl⟩⟩, rfl, ⟨_, rfl, rfl, .inr ⟨_, _, rfl, ⟨_, _, rfl, rfl, ⟨_, _, rfl, rfl, ⟨_, _, rfl, ⟨rfl, rfl, rfl, rfl⟩, rfl⟩⟩⟩, rfl⟩⟩, rfl, ⟨_, rfl, rfl, .inl ⟨rfl, okI.plainO _⟩⟩, rfl, ⟨_, rfl, rfl, .inl ⟨rfl, okI.plainO _⟩⟩, rfl, trivial⟩ rfl) ?_ ?_
            · intro x3 o h
              refine ac_seq ?_
              refine ac_seq ?_
              refine ac_region ?_
              refine aops_eff (eff_move rfl) rfl rfl rfl ?_
              refine aops_eff (w_field_ptr TT_ok rfl rfl rfl rfl rfl rfl rfl) rfl rfl rfl ?_
              refine aops_eff (w_load_ptr TT_ok rfl rfl rfl rfl rfl rfl rfl) rfl rfl rfl ?_
              refine aops_eff (w_cmp rfl rfl rfl) rfl rfl rfl ?_
              refine aops_nil ?_
              refine then_n ?_
              rcases cb h with ⟨q9, h⟩ | ⟨q9, h⟩
              · refine ac_condT rfl q9 ?_
                refine ac_skip ?_
                refine then_n ?_
                refine ac_seq ?_
                refine ac_block ?_
                refine ac_seq ?_
                refine ac_region ?_
                refine aops_eff (w_field_ptr TT_ok rfl rfl rfl rfl rfl rfl rfl) rfl rfl rfl ?_
                refine aops_eff (w_load_ptr TT_ok rfl rfl rfl rfl rfl rfl rfl) rfl rfl rfl ?_
                refine aops_eff (eff_move rfl) rfl rfl rfl ?_
                refine aops_eff (w_field_ptr TT_ok rfl rfl rfl rfl rfl rfl rfl) rfl rfl rfl ?_
                refine aops_eff (w_load_ptr TT_ok rfl rfl rfl rfl rfl rfl rfl) rfl rfl rfl ?_
                refine aops_eff (x_mul rfl rfl) rfl rfl rfl ?_
                refine aops_eff (eff_move rfl) rfl rfl rfl ?_
                refine aops_eff (x_add rfl rfl) rfl rfl rfl ?_
                obtain ⟨v10, hv10, h⟩ := ob h
                refine aops_eff (x_at_own TT_ok (atL_nn hv10) (atL_lt hv10) rfl rfl rfl rfl rfl rfl rfl) rfl rfl rfl ?_
                refine aops_eff (w_load_ptr TT_ok rfl rfl rfl rfl (map_at (atL_get hv10)) rfl rfl) rfl rfl rfl ?_
                refine aops_eff (eff_assign rfl) rfl rfl rfl ?_
                refine aops_nil ?_
                refine then_n ?_
                refine ac_ent (t := mkS [(0, .int a0), (4, .ptr 0 0 0), (6, .ptr 1 0 0), (7, .own 3 0 x1.2.2.1.length), (8, .int x1.2.2.2), (9, .int x1.1), (10, .int y7), (12, .int x3.2), (13, .int v10)] [(0, ⟨3, [[.int 0, .int 0, .nil 1]]⟩), (1, ⟨3, [[.int v1.rows, .int v1.cols, .own 2 0 x3.1.length]]⟩), (2, ⟨1, List.map (ow eI) x3.1⟩), (3, ⟨1, List.map (ow eI) x1.2.2.1⟩)] 4 [4, 5, 6, 7, 8, 9, 10, 11, 12, 13, 14, 15, 16, 17]) (ent_mk (σ := sg [(0, 0), (1, 1), (2, 2), (3, 3)]) ⟨⟨_, rfl, rfl⟩, ⟨_, rfl, ⟨rfl, rfl, rfl, rfl⟩⟩, ⟨_, rfl, ⟨rfl, rfl, rfl, rfl⟩⟩, ⟨_, rfl, ⟨rfl, rfl, rfl, rfl⟩⟩, ⟨_, rfl, rfl⟩, ⟨_, rfl, rfl⟩, ⟨_, rfl, rfl⟩, ⟨_, rfl, rfl⟩, ⟨_, rfl, rfl⟩, trivial⟩ ⟨⟨_, rfl, rfl, .inl ⟨rfl, plain_of rfl⟩⟩, rfl, ⟨_, rfl, rfl, .inr ⟨_, _, rfl, ⟨_, _, rfl, rfl, ⟨_, _, rfl, rfl, ⟨_, _, rfl, ⟨rfl, rfl, rfl, rfl⟩, rfl⟩⟩⟩, rfl⟩⟩, rfl, ⟨_, rfl, rfl, .inl ⟨rfl, okI.plainO _⟩⟩, rfl, ⟨_, rfl, rfl, .inl ⟨rfl, okI.plainO _⟩⟩, rfl, trivial⟩ rfl) ?_
                refine ac_seq ?_
                refine ac_region_draw MIXX ?_
                refine aops_eff (w_field_ptr TT_ok rfl rfl rfl rfl rfl rfl rfl) rfl rfl rfl ?_
                refine aops_eff (w_load_ptr TT_ok rfl rfl rfl rfl rfl rfl rfl) rfl rfl rfl ?_
                refine aops_eff (eff_move rfl) rfl rfl rfl ?_
                refine aops_eff (w_field_ptr TT_ok rfl rfl rfl rfl rfl rfl rfl) rfl rfl rfl ?_
                refine aops_eff (w_load_ptr TT_ok rfl rfl rfl rfl rfl rfl rfl) rfl rfl rfl ?_
                refine aops_eff (x_mul rfl rfl) rfl rfl rfl ?_
                refine aops_eff (eff_move rfl) rfl rfl rfl ?_
                refine aops_eff (x_add rfl rfl) rfl rfl rfl ?_
                refine aops_eff (w_field_ptr TT_ok rfl rfl rfl rfl rfl rfl rfl) rfl rfl rfl ?_
                refine aops_eff (w_load_ptr TT_ok rfl rfl rfl rfl rfl rfl rfl) rfl rfl rfl ?_
                refine aops_eff (eff_move rfl) rfl rfl rfl ?_
                refine aops_eff (w_field_ptr TT_ok rfl rfl rfl rfl rfl rfl rfl) rfl rfl rfl ?_
                refine aops_eff (w_load_ptr TT_ok rfl rfl rfl rfl rfl rfl rfl) rfl rfl rfl ?_
                refine aops_eff (x_mul rfl rfl) rfl rfl rfl ?_
                refine aops_eff (eff_move rfl) rfl rfl rfl ?_
                refine aops_eff (x_add rfl rfl) rfl rfl rfl ?_
                obtain ⟨v11, hv11, h⟩ := ob h
                refine aops_eff (x_at_own TT_ok (atL_nn hv11) (atL_lt hv11) rfl rfl rfl rfl rfl rfl rfl) rfl rfl rfl ?_
                refine aops_eff (w_load_ptr TT_ok rfl rfl rfl rfl (map_at (atL_get hv11)) rfl rfl) rfl rfl rfl ?_
                obtain ⟨v12, hv12, h⟩ := ob h
                refine aops_eff (x_at_own TT_ok (atL_nn hv12) (atL_lt hv12) rfl rfl rfl rfl rfl rfl rfl) rfl rfl rfl ?_
                refine aops_eff (x_store TT_ok okIo (u := v11) (atL_get hv12) rfl rfl rfl rfl rfl rfl) rfl rfl rfl ?_
                refine aops_nil ?_
                refine ⟨by kernel_rfl, ?_⟩
                refine then_n ?_
                refine ac_ent (t := mkS [(0, .int a0), (4, .ptr 0 0 0), (6, .ptr 1 0 0), (7, .own 3 0 x1.2.2.1.length), (8, .int x1.2.2.2), (9, .int x1.1), (10, .int y7), (12, .int x3.2), (13, .int v10)] [(0, ⟨3, [[.int 0, .int 0, .nil 1]]⟩), (1, ⟨3, [[.int v1.rows, .int v1.cols, .own 2 0 ((x3.1.set ((wr ((wr (x1.2.2.2 * v1.cols)) + x3.2)).toNat) v11).length)]]⟩), (2, ⟨1, List.map (ow eI) (x3.1.set ((wr ((wr (x1.2.2.2 * v1.cols)) + x3.2)).toNat) v11)⟩), (3, ⟨1, List.map (ow eI) x1.2.2.1⟩)] 4 [4, 5, 6, 7, 8, 9, 10, 11, 12, 13, 14, 15, 16, 17]) (ent_mk (σ := sg [(0, 0), (1, 1), (2, 2), (3, 3)]) ⟨⟨_, rfl, rfl⟩, ⟨_, rfl, ⟨rfl, rfl, rfl, rfl⟩⟩, ⟨_, rfl, ⟨rfl, rfl, rfl, rfl⟩⟩, ⟨_, rfl, ⟨rfl, rfl, rfl, rfl⟩⟩, ⟨_, rfl, rfl⟩, ⟨_, rfl, rfl⟩, ⟨_, rfl, rfl⟩, ⟨_, rfl, rfl⟩, ⟨_, rfl, rfl⟩, trivial⟩ ⟨⟨_, rfl, rfl, .inl ⟨rfl, plain_of rfl⟩⟩, rfl, ⟨_, rfl, rfl, .inr ⟨_, _, rfl, ⟨_, _, rfl, rfl, ⟨_, _, rfl, rfl, ⟨_, _, rfl, ⟨rfl, rfl, (by simp only [len_map, List.length_append, List.length_set, List.length_replicate, List.length_cons, List.length_nil]), rfl⟩, rfl⟩⟩⟩, rfl⟩⟩, rfl, ⟨_, rfl, rfl, .inl ⟨rfl, okI.plainO _⟩⟩, rfl, ⟨_, rfl, rfl, .inl ⟨rfl, okI.plainO _⟩⟩, rfl, trivial⟩ rfl) ?_
                refine ac_region ?_
                refine aops_eff (w_field_ptr TT_ok rfl rfl rfl rfl rfl rfl rfl) rfl rfl rfl ?_
                refine aops_eff (w_load_ptr TT_ok rfl rfl rfl rfl rfl rfl rfl) rfl rfl rfl ?_
                refine aops_eff (eff_move rfl) rfl rfl rfl ?_
                refine aops_eff (w_field_ptr TT_ok rfl rfl rfl rfl rfl rfl rfl) rfl rfl rfl ?_
                refine aops_eff (w_load_ptr TT_ok rfl rfl rfl rfl rfl rfl rfl) rfl rfl rfl ?_
                refine aops_eff (x_mul rfl rfl) rfl rfl rfl ?_
                refine aops_eff (eff_move rfl) rfl rfl rfl ?_
                refine aops_eff (x_add rfl rfl) rfl rfl rfl ?_
                refine aops_eff (eff_move rfl) rfl rfl rfl ?_
                obtain ⟨v13, hv13, h⟩ := ob h
                refine aops_eff (x_at_own TT_ok (atL_nn hv13) (atL_lt hv13) rfl rfl rfl rfl rfl rfl rfl) rfl rfl rfl ?_
                refine aops_eff (x_store TT_ok okIo (u := v10) (atL_get hv13) rfl rfl rfl rfl rfl rfl) rfl rfl rfl ?_
                refine aops_nil ?_
                refine block_n ?_
                refine then_n ?_
                refine ac_region ?_
                refine aops_eff (eff_move rfl) rfl rfl rfl ?_
                refine aops_eff (x_add rfl rfl) rfl rfl rfl ?_
                refine aops_eff (eff_assign rfl) rfl rfl rfl ?_
                refine aops_nil ?_
                refine then_n ?_
                obtain rfl := so h
                exact ⟨_, rfl, (ent_mk (σ := sg [(0, 0), (1, 1), (2, 2), (3, 3)]) ⟨⟨_, rfl, rfl⟩, ⟨_, rfl, ⟨rfl, rfl, rfl, rfl⟩⟩, ⟨_, rfl, ⟨rfl, rfl, rfl, rfl⟩⟩, ⟨_, rfl, ⟨rfl, rfl, rfl, rfl⟩⟩, ⟨_, rfl, rfl⟩, ⟨_, rfl, rfl⟩, ⟨_, rfl, rfl⟩, ⟨_, rfl, rfl⟩, trivial⟩ ⟨⟨_, rfl, rfl, .inl ⟨rfl, plain_of rfl⟩⟩, rfl, ⟨_, rfl, rfl, .inr ⟨_, _, rfl, ⟨_, _, rfl, rfl, ⟨_, _, rfl, rfl, ⟨_, _, rfl, ⟨rfl, rfl, (by simp only [len_map, List.length_append, List.length_set, List.length_replicate, List.length_cons, List.length_nil]), rfl⟩, rfl⟩⟩⟩, rfl⟩⟩, rfl, ⟨_, rfl, rfl, .inl ⟨rfl, okI.plainO _⟩⟩, rfl, ⟨_, rfl, rfl, .inl ⟨rfl, okI.plainO _⟩⟩, rfl, trivial⟩ rfl)⟩
              · refine ac_condF rfl q9 ?_
                refine ac_exit ?_
                refine then_exit ?_
                refine then_exit ?_
                obtain rfl := so h
                exact ⟨_, rfl, rfl, (ent_mk (σ := sg [(0, 0), (1, 1), (2, 2), (3, 3)]) ⟨⟨_, rfl, rfl⟩, ⟨_, rfl, ⟨rfl, rfl, rfl, rfl⟩⟩, ⟨_, rfl, ⟨rfl, rfl, rfl, rfl⟩⟩, ⟨_, rfl, ⟨rfl, rfl, rfl, rfl⟩⟩, ⟨_, rfl, rfl⟩, ⟨_, rfl, rfl⟩, trivial⟩ ⟨⟨_, rfl, rfl, .inl ⟨rfl, plain_of rfl⟩⟩, rfl, ⟨_, rfl, rfl, .inr ⟨_, _, rfl, ⟨_, _, rfl, rfl, ⟨_, _, rfl, rfl, ⟨_, _, rfl, ⟨rfl, rfl, rfl, rfl⟩, rfl⟩⟩⟩, rfl⟩⟩, rfl, ⟨_, rfl, rfl, .inl ⟨rfl, okI.plainO _⟩⟩, rfl, ⟨_, rfl, rfl, .inl ⟨rfl, okI.plainO _⟩⟩, rfl, trivial⟩ rfl)⟩
            · rintro e t ⟨rfl, hent⟩
              refine block_here ?_
              refine then_n ?_
              refine ac_ent hent ?_
              refine ac_seq ?_
              refine ac_region ?_
              refine aops_eff (eff_move rfl) rfl rfl rfl ?_
              refine aops_eff (w_field_ptr TT_ok rfl rfl rfl rfl rfl rfl rfl) rfl rfl rfl ?_
              refine aops_eff (w_load_ptr TT_ok rfl rfl rfl rfl rfl rfl rfl) rfl rfl rfl ?_
              refine aops_eff (eff_move rfl) rfl rfl rfl ?_
              refine aops_eff (w_field_ptr TT_ok rfl rfl rfl rfl rfl rfl rfl) rfl rfl rfl ?_
              refine aops_eff (w_load_ptr TT_ok rfl rfl rfl rfl rfl rfl rfl) rfl rfl rfl ?_
              refine aops_eff (x_mul rfl rfl) rfl rfl rfl ?_
              refine aops_eff (eff_move rfl) rfl rfl rfl ?_
              refine aops_eff (x_add rfl rfl) rfl rfl rfl ?_
              obtain ⟨v15, hv15, h⟩ := ob h
              refine aops_eff (x_at_own TT_ok (atL_nn hv15) (atL_lt hv15) rfl rfl rfl rfl rfl rfl rfl) rfl rfl rfl ?_
              refine aops_eff (w_load_ptr TT_ok rfl rfl rfl rfl (map_at (atL_get hv15)) rfl rfl) rfl rfl rfl ?_
              obtain ⟨v16, hv16, h⟩ := ob h
              refine aops_eff (w_call0s (c_spec_InverseMod a0 v15 v16 hv16) rfl (va_cons (va_same rfl) (va_cons (va_same rfl) va_nil))) rfl rfl rfl ?_
              refine aops_eff (eff_assign rfl) rfl rfl rfl ?_
              refine aops_nil ?_
              refine then_n ?_
              refine ac_ent (t := mkS [(0, .int a0), (4, .ptr 0 0 0), (6, .ptr 1 0 0), (7, .own 3 0 x1.2.2.1.length), (8, .int x1.2.2.2), (9, .int x1.1), (14, .int v16)] [(0, ⟨3, [[.int 0, .int 0, .nil 1]]⟩), (1, ⟨3, [[.int v1.rows, .int v1.cols, .own 2 0 y14.length]]⟩), (2, ⟨1, List.map (ow eI) y14⟩), (3, ⟨1, List.map (ow eI) x1.2.2.1⟩)] 4 [4, 5, 6, 7, 8, 9, 10, 11, 12, 13, 14, 15, 16, 17]) (ent_mk (σ := sg [(0, 0), (1, 1), (2, 2), (3, 3)]) ⟨⟨_, rfl, rfl⟩, ⟨_, rfl, ⟨rfl, rfl, rfl, rfl⟩⟩, ⟨_, rfl, ⟨rfl, rfl, rfl, rfl⟩⟩, ⟨_, rfl, ⟨rfl, rfl, rfl, rfl⟩⟩, ⟨_, rfl, rfl⟩, ⟨_, rfl, rfl⟩, ⟨_, rfl, rfl⟩, trivial⟩ ⟨⟨_, rfl, rfl, .inl ⟨rfl, plain_of rfl⟩⟩, rfl, ⟨_, rfl, rfl, .inr ⟨_, _, rfl, ⟨_, _, rfl, rfl, ⟨_, _, rfl, rfl, ⟨_, _, rfl, ⟨rfl, rfl, rfl, rfl⟩, rfl⟩⟩⟩, rfl⟩⟩, rfl, ⟨_, rfl, rfl, .inl ⟨rfl, okI.plainO _⟩⟩, rfl, ⟨_, rfl, rfl, .inl ⟨rfl, okI.plainO _⟩⟩, rfl, trivial⟩ rfl) ?_
              refine ac_seq ?_
              refine ac_seq ?_
              refine ac_region ?_
              refine aops_eff (eff_assign rfl) rfl rfl rfl ?_
              refine aops_nil ?_
              refine then_n ?_
              refine ac_block ?_
              obtain ⟨y21, hy21, h⟩ := ob h
              refine ac_Lp (body := (m_spec_l4Reduce_L4 a0 v1 v16 x1)) hy21 (fun (x4 : ((List Int) × Int)) => mkS [(0, .int a0), (4, .ptr 0 0 0), (6, .ptr 1 0 0), (7, .own 3 0 x1.2.2.1.length), (8, .int x1.2.2.2), (9, .int x1.1), (14, .int v16), (15, .int x4.2)] [(0, ⟨3, [[.int 0, .int 0, .nil 1]]⟩), (1, ⟨3, [[.int v1.rows, .int v1.cols, .own 2 0 x4.1.length]]⟩), (2, ⟨1, List.map (ow eI) x4.1⟩), (3, ⟨1, List.map (ow eI) x1.2.2.1⟩)] 4 [4, 5, 6, 7, 8, 9, 10, 11, 12, 13, 14, 15, 16, 17]) (fun r e t => e = .exit 6 ∧ Ent t (mkS [(0, .int a0), (4, .ptr 0 0 0), (6, .ptr 1 0 0), (7, .own 3 0 x1.2.2.1.length), (8, .int x1.2.2.2), (9, .int x1.1)] [(0, ⟨3, [[.int 0, .int 0, .nil 1]]⟩), (1, ⟨3, [[.int v1.rows, .int v1.cols, .own 2 0 r.length]]⟩), (2, ⟨1, List.map (ow eI) r⟩), (3, ⟨1, List.map (ow eI) x1.2.2.1⟩)] 4 [4, 5, 6, 7, 8, 9, 10, 11, 12, 13, 14, 15, 16, 17])) (ent_mk (σ := sg [(0, 0), (1, 1), (2, 2), (3, 3)]) ⟨⟨_, rfl, rfl⟩, ⟨_, rfl, ⟨rfl, rfl, rfl, rfl⟩⟩, ⟨_, rfl, ⟨rfl, rfl, rfl, rfl⟩⟩, ⟨_, rfl, ⟨rfl, rfl, rfl, rfl⟩⟩, ⟨_, rfl, rfl⟩, ⟨_, rfl, rfl⟩, ⟨_, rfl, rfl⟩, ⟨_, rfl, rfl⟩, trivial⟩ ⟨⟨_, rfl, rfl, .inl ⟨rfl, plain_of rfl⟩⟩, rfl, ⟨_, rfl, rfl, .inr ⟨_, _, rfl, ⟨_, _, rfl, rfl, ⟨_, _, rfl, rfl, ⟨_, _, rfl, ⟨rfl, rfl, rfl, rfl⟩, rfl⟩⟩⟩, rfl⟩⟩, rfl, ⟨_, rfl, rfl, .inl ⟨rfl, okI.plainO _⟩⟩, rfl, ⟨_, rfl, rfl, .inl ⟨rfl, okI.plainO _⟩⟩, rfl, trivial⟩ rfl) ?_ ?_
              · intro x4 o h
                refine ac_seq ?_
                refine ac_seq ?_
                refine ac_region ?_
                refine aops_eff (eff_move rfl) rfl rfl rfl ?_
                refine aops_eff (w_field_ptr TT_ok rfl rfl rfl rfl rfl rfl rfl) rfl rfl rfl ?_
                refine aops_eff (w_load_ptr TT_ok rfl rfl rfl rfl rfl rfl rfl) rfl rfl rfl ?_
                refine aops_eff (w_cmp rfl rfl rfl) rfl rfl rfl ?_
                refine aops_nil ?_
                refine then_n ?_
                rcases cb h with ⟨q17, h⟩ | ⟨q17, h⟩
                · refine ac_condT rfl q17 ?_
                  refine ac_skip ?_
                  refine then_n ?_
                  refine ac_seq ?_
                  refine ac_block ?_
                  refine ac_region_draw MIXX ?_
                  refine aops_eff (w_field_ptr TT_ok rfl rfl rfl rfl rfl rfl rfl) rfl rfl rfl ?_
                  refine aops_eff (w_load_ptr TT_ok rfl rfl rfl rfl rfl rfl rfl) rfl rfl rfl ?_
                  refine aops_eff (eff_move rfl) rfl rfl rfl ?_
                  refine aops_eff (w_field_ptr TT_ok rfl rfl rfl rfl rfl rfl rfl) rfl rfl rfl ?_
                  refine aops_eff (w_load_ptr TT_ok rfl rfl rfl rfl rfl rfl rfl) rfl rfl rfl ?_
                  refine aops_eff (x_mul rfl rfl) rfl rfl rfl ?_
                  refine aops_eff (eff_move rfl) rfl rfl rfl ?_
                  refine aops_eff (x_add rfl rfl) rfl rfl rfl ?_
                  refine aops_eff (eff_move rfl) rfl rfl rfl ?_
                  refine aops_eff (eff_move rfl) rfl rfl rfl ?_
                  refine aops_eff (w_field_ptr TT_ok rfl rfl rfl rfl rfl rfl rfl) rfl rfl rfl ?_
                  refine aops_eff (w_load_ptr TT_ok rfl rfl rfl rfl rfl rfl rfl) rfl rfl rfl ?_
                  refine aops_eff (eff_move rfl) rfl rfl rfl ?_
                  refine aops_eff (w_field_ptr TT_ok rfl rfl rfl rfl rfl rfl rfl) rfl rfl rfl ?_
                  refine aops_eff (w_load_ptr TT_ok rfl rfl rfl rfl rfl rfl rfl) rfl rfl rfl ?_
                  refine aops_eff (x_mul rfl rfl) rfl rfl rfl ?_
                  refine aops_eff (eff_move rfl) rfl rfl rfl ?_
                  refine aops_eff (x_add rfl rfl) rfl rfl rfl ?_
                  obtain ⟨v18, hv18, h⟩ := ob h
                  refine aops_eff (x_at_own TT_ok (atL_nn hv18) (atL_lt hv18) rfl rfl rfl rfl rfl rfl rfl) rfl rfl rfl ?_
                  refine aops_eff (w_load_ptr TT_ok rfl rfl rfl rfl (map_at (atL_get hv18)) rfl rfl) rfl rfl rfl ?_
                  refine aops_eff (x_mul rfl rfl) rfl rfl rfl ?_
                  obtain ⟨v19, hv19, h⟩ := ob h
                  refine aops_eff (w_call0s (c_spec_l2Mod a0 (wr (v16 * v18)) v19 hv19) rfl (va_cons (va_same rfl) (va_cons (va_same rfl) va_nil))) rfl rfl rfl ?_
                  obtain ⟨v20, hv20, h⟩ := ob h
                  refine aops_eff (x_at_own TT_ok (atL_nn hv20) (atL_lt hv20) rfl rfl rfl rfl rfl rfl rfl) rfl rfl rfl ?_
                  refine aops_eff (x_store TT_ok okIo (u := v19) (atL_get hv20) rfl rfl rfl rfl rfl rfl) rfl rfl rfl ?_
                  refine aops_nil ?_
                  refine ⟨by kernel_rfl, ?_⟩
                  refine block_n ?_
                  refine then_n ?_
                  refine ac_ent (t := mkS [(0, .int a0), (4, .ptr 0 0 0), (6, .ptr 1 0 0), (7, .own 3 0 x1.2.2.1.length), (8, .int x1.2.2.2), (9, .int x1.1), (14, .int v16), (15, .int x4.2)] [(0, ⟨3, [[.int 0, .int 0, .nil 1]]⟩), (1, ⟨3, [[.int v1.rows, .int v1.cols, .own 2 0 ((x4.1.set ((wr ((wr (x1.2.2.2 * v1.cols)) + x4.2)).toNat) v19).length)]]⟩), (2, ⟨1, List.map (ow eI) (x4.1.set ((wr ((wr (x1.2.2.2 * v1.cols)) + x4.2)).toNat) v19)⟩), (3, ⟨1, List.map (ow eI) x1.2.2.1⟩)] 4 [4, 5, 6, 7, 8, 9, 10, 11, 12, 13, 14, 15, 16, 17]) (ent_mk (σ := sg [(0, 0), (1, 1), (2, 2), (3, 3)]) ⟨⟨_, rfl, rfl⟩, ⟨_, rfl, ⟨rfl, rfl, rfl, rfl⟩⟩, ⟨_, rfl, ⟨rfl, rfl, rfl, rfl⟩⟩, ⟨_, rfl, ⟨rfl, rfl, rfl, rfl⟩⟩, ⟨_, rfl, rfl⟩, ⟨_, rfl, rfl⟩, ⟨_, rfl, rfl⟩, ⟨_, rfl, rfl⟩, trivial⟩ ⟨⟨_, rfl, rfl, .inl ⟨rfl, plain_of rfl⟩⟩, rfl, ⟨_, rfl, rfl, .inr ⟨_, _, rfl, ⟨_, _, rfl, rfl, ⟨_, _, rfl, rfl, ⟨_, _, rfl, ⟨rfl, rfl, (by simp only [len_map, List.length_append, List.length_set, List.length_replicate, List.length_cons, List.length_nil]), rfl⟩, rfl⟩⟩⟩, rfl⟩⟩, rfl, ⟨_, rfl, rfl, .inl ⟨rfl, okI.plainO _⟩⟩, rfl, ⟨_, rfl, rfl, .inl ⟨rfl, okI.plainO _⟩⟩, rfl, trivial⟩ rfl) ?_
                  refine ac_region ?_
                  refine aops_eff (eff_move rfl) rfl rfl rfl ?_
                  refine aops_eff (x_add rfl rfl) rfl rfl rfl ?_
                  refine aops_eff (eff_assign rfl) rfl rfl rfl ?_
                  refine aops_nil ?_
                  refine then_n ?_
                  obtain rfl := so h
                  exact ⟨_, rfl, (ent_mk (σ := sg [(0, 0), (1, 1), (2, 2), (3, 3)]) ⟨⟨_, rfl, rfl⟩, ⟨_, rfl, ⟨rfl, rfl, rfl, rfl⟩⟩, ⟨_, rfl, ⟨rfl, rfl, rfl, rfl⟩⟩, ⟨_, rfl, ⟨rfl, rfl, rfl, rfl⟩⟩, ⟨_, rfl, rfl⟩, ⟨_, rfl, rfl⟩, ⟨_, rfl, rfl⟩, ⟨_, rfl, rfl⟩, trivial⟩ ⟨⟨_, rfl, rfl, .inl ⟨rfl, plain_of rfl⟩⟩, rfl, ⟨_, rfl, rfl, .inr ⟨_, _, rfl, ⟨_, _, rfl, rfl, ⟨_, _, rfl, rfl, ⟨_, _, rfl, ⟨rfl, rfl, rfl, rfl⟩, rfl⟩⟩⟩, rfl⟩⟩, rfl, ⟨_, rfl, rfl, .inl ⟨rfl, okI.plainO _⟩⟩, rfl, ⟨_, rfl, rfl, .inl ⟨rfl, okI.plainO _⟩⟩, rfl, trivial⟩ rfl)⟩
                · refine ac_condF rfl q17 ?_
                  refine ac_exit ?_
                  refine then_exit ?_
                  refine then_exit ?_
                  obtain rfl := so h
                  exact ⟨_, rfl, rfl, (ent_mk (σ := sg [(0, 0), (1, 1), (2, 2), (3, 3)]) ⟨⟨_, rfl, rfl⟩, ⟨_, rfl, ⟨rfl, rfl, rfl, rfl⟩⟩, ⟨_, rfl, ⟨rfl, rfl, rfl, rfl⟩⟩, ⟨_, rfl, ⟨rfl, rfl, rfl, rfl⟩⟩, ⟨_, rfl, rfl⟩, ⟨_, rfl, rfl⟩, trivial⟩ ⟨⟨_, rfl, rfl, .inl ⟨rfl, plain_of rfl⟩⟩, rfl, ⟨_, rfl, rfl, .inr ⟨_, _, rfl, ⟨_, _, rfl, rfl, ⟨_, _, rfl, rfl, ⟨_, _, rfl, ⟨rfl, rfl, rfl, rfl⟩, rfl⟩⟩⟩, rfl⟩⟩, rfl, ⟨_, rfl, rfl, .inl ⟨rfl, okI.plainO _⟩⟩, rfl, ⟨_, rfl, rfl, .inl ⟨rfl, okI.plainO _⟩⟩, rfl, trivial⟩ rfl)⟩
              · rintro e t ⟨rfl, hent⟩
                refine block_here ?_
                refine then_n ?_
                refine ac_ent hent ?_
                refine ac_seq ?_
                refine ac_seq ?_
                refine ac_region ?_
                refine aops_eff (eff_assign rfl) rfl rfl rfl ?_
                refine aops_nil ?_
                refine then_n ?_
                refine ac_block ?_
                obtain ⟨y31, hy31, h⟩ := ob h
                refine ac_Lp (body := (m_spec_l4Reduce_L5 a0 v1 x1)) hy31 (fun (x5 : ((List Int) × Int)) => mkS [(0, .int a0), (4, .ptr 0 0 0), (6, .ptr 1 0 0), (7, .own 3 0 x1.2.2.1.length), (8, .int x1.2.2.2), (9, .int x1.1), (16, .int x5.2)] [(0, ⟨3, [[.int 0, .int 0, .nil 1]]⟩), (1, ⟨3, [[.int v1.rows, .int v1.cols, .own 2 0 x5.1.length]]⟩), (2, ⟨1, List.map (ow eI) x5.1⟩), (3, ⟨1, List.map (ow eI) x1.2.2.1⟩)] 4 [4, 5, 6, 7, 8, 9, 10, 11, 12, 13, 14, 15, 16, 17]) (fun r e t => e = .exit 8 ∧ Ent t (mkS [(0, .int a0), (4, .ptr 0 0 0), (6, .ptr 1 0 0), (7, .own 3 0 x1.2.2.1.length), (8, .int x1.2.2.2), (9, .int x1.1)] [(0, ⟨3, [[.int 0, .int 0, .nil 1]]⟩), (1, ⟨3, [[.int v1.rows, .int v1.cols, .own 2 0 r.length]]⟩), (2, ⟨1, List.map (ow eI) r⟩), (3, ⟨1, List.map (ow eI) x1.2.2.1⟩)] 4 [4, 5, 6, 7, 8, 9, 10, 11, 12, 13, 14, 15, 16, 17])) (ent_mk (σ := sg [(0, 0), (1, 1), (2, 2), (3, 3)]) ⟨⟨_, rfl, rfl⟩, ⟨_, rfl, ⟨rfl, rfl, rfl, rfl⟩⟩, ⟨_, rfl, ⟨rfl, rfl, rfl, rfl⟩⟩, ⟨_, rfl, ⟨rfl, rfl, rfl, rfl⟩⟩, ⟨_, rfl, rfl⟩, ⟨_, rfl, rfl⟩, ⟨_, rfl, rfl⟩, trivial⟩ ⟨⟨_, rfl, rfl, .inl ⟨rfl, plain_of rfl⟩⟩, rfl, ⟨_, rfl, rfl, .inr ⟨_, _, rfl, ⟨_, _, rfl, rfl, ⟨_, _, rfl, rfl, ⟨_, _, rfl, ⟨rfl, rfl, rfl, rfl⟩, rfl⟩⟩⟩, rfl⟩⟩, rfl, ⟨_, rfl, rfl, .inl ⟨rfl, okI.plainO _⟩⟩, rfl, ⟨_, rfl, rfl, .inl ⟨rfl, okI.plainO _⟩⟩, rfl, trivial⟩ rfl) ?_ ?_
                · intro x5 o h
                  refine ac_seq ?_
                  refine ac_seq ?_
                  refine ac_region ?_
                  refine aops_eff (eff_move rfl) rfl rfl rfl ?_
                  refine aops_eff (w_field_ptr TT_ok rfl rfl rfl rfl rfl rfl rfl) rfl rfl rfl ?_
                  refine aops_eff (w_load_ptr TT_ok rfl rfl rfl rfl rfl rfl rfl) rfl rfl rfl ?_
                  refine aops_eff (w_cmp rfl rfl rfl) rfl rfl rfl ?_
                  refine aops_nil ?_
                  refine then_n ?_
                  rcases cb h with ⟨q22, h⟩ | ⟨q22, h⟩
                  · refine ac_condT rfl q22 ?_
                    refine ac_skip ?_
                    refine then_n ?_
                    refine ac_seq ?_
                    refine ac_block ?_
                    refine ac_seq ?_
                    refine ac_region ?_
                    refine aops_eff (w_field_ptr TT_ok rfl rfl rfl rfl rfl rfl rfl) rfl rfl rfl ?_
                    refine aops_eff (w_load_ptr TT_ok rfl rfl rfl rfl rfl rfl rfl) rfl rfl rfl ?_
                    refine aops_eff (eff_move rfl) rfl rfl rfl ?_
                    refine aops_eff (w_field_ptr TT_ok rfl rfl rfl rfl rfl rfl rfl) rfl rfl rfl ?_
                    refine aops_eff (w_load_ptr TT_ok rfl rfl rfl rfl rfl rfl rfl) rfl rfl rfl ?_
                    refine aops_eff (x_mul rfl rfl) rfl rfl rfl ?_
                    refine aops_eff (eff_move rfl) rfl rfl rfl ?_
                    refine aops_eff (x_add rfl rfl) rfl rfl rfl ?_
                    obtain ⟨v23, hv23, h⟩ := ob h
                    refine aops_eff (x_at_own TT_ok (atL_nn hv23) (atL_lt hv23) rfl rfl rfl rfl rfl rfl rfl) rfl rfl rfl ?_
                    refine aops_eff (w_load_ptr TT_ok rfl rfl rfl rfl (map_at (atL_get hv23)) rfl rfl) rfl rfl rfl ?_
                    refine aops_eff (eff_assign rfl) rfl rfl rfl ?_
                    refine aops_nil ?_
                    refine then_n ?_
                    refine ac_ent (t := mkS [(0, .int a0), (4, .ptr 0 0 0), (6, .ptr 1 0 0), (7, .own 3 0 x1.2.2.1.length), (8, .int x1.2.2.2), (9, .int x1.1), (16, .int x5.2), (17, .int v23)] [(0, ⟨3, [[.int 0, .int 0, .nil 1]]⟩), (1, ⟨3, [[.int v1.rows, .int v1.cols, .own 2 0 x5.1.length]]⟩), (2, ⟨1, List.map (ow eI) x5.1⟩), (3, ⟨1, List.map (ow eI) x1.2.2.1⟩)] 4 [4, 5, 6, 7, 8, 9, 10, 11, 12, 13, 14, 15, 16, 17]) (ent_mk (σ := sg [(0, 0), (1, 1), (2, 2), (3, 3)]) ⟨⟨_, rfl, rfl⟩, ⟨_, rfl, ⟨rfl, rfl, rfl, rfl⟩⟩, ⟨_, rfl, ⟨rfl, rfl, rfl, rfl⟩⟩, ⟨_, rfl, ⟨rfl, rfl, rfl, rfl⟩⟩, ⟨_, rfl, rfl⟩, ⟨_, rfl, rfl⟩, ⟨_, rfl, rfl⟩, ⟨_, rfl, rfl⟩, trivial⟩ ⟨⟨_, rfl, rfl, .inl ⟨rfl, plain_of rfl⟩⟩, rfl, ⟨_, rfl, rfl, .inr ⟨_, _, rfl, ⟨_, _, rfl, rfl, ⟨_, _, rfl, rfl, ⟨_, _, rfl, ⟨rfl, rfl, rfl, rfl⟩, rfl⟩⟩⟩, rfl⟩⟩, rfl, ⟨_, rfl, rfl, .inl ⟨rfl, okI.plainO _⟩⟩, rfl, ⟨_, rfl, rfl, .inl ⟨rfl, okI.plainO _⟩⟩, rfl, trivial⟩ rfl) ?_
                    refine ac_seq ?_
                    refine ac_region ?_
                    refine aops_eff (eff_assign rfl) rfl rfl rfl ?_
                    refine aops_nil ?_
                    refine then_n ?_
                    refine ac_block ?_
                    obtain ⟨y30, hy30, h⟩ := ob h
                    refine ac_Lp (body := (m_spec_l4Reduce_L6 a0 v1 v23 x1 x5)) hy30 (fun (x6 : ((List Int) × Int)) => mkS [(0, .int a0), (4, .ptr 0 0 0), (6, .ptr 1 0 0), (7, .own 3 0 x1.2.2.1.length), (8, .int x1.2.2.2), (9, .int x1.1), (16, .int x5.2), (17, .int v23), (18, .int x6.2)] [(0, ⟨3, [[.int 0, .int 0, .nil 1]]⟩), (1, ⟨3, [[.int v1.rows, .int v1.cols, .own 2 0 x6.1.length]]⟩), (2, ⟨1, List.map (ow eI) x6.1⟩), (3, ⟨1, List.map (ow eI) x1.2.2.1⟩)] 4 [4, 5, 6, 7, 8, 9, 10, 11, 12, 13, 14, 15, 16, 17]) (fun r e t => e = .exit 10 ∧ Ent t (mkS [(0, .int a0), (4, .ptr 0 0 0), (6, .ptr 1 0 0), (7, .own 3 0 x1.2.2.1.length), (8, .int x1.2.2.2), (9, .int x1.1), (16, .int x5.2)] [(0, ⟨3, [[.int 0, .int 0, .nil 1]]⟩), (1, ⟨3, [[.int v1.rows, .int v1.cols, .own 2 0 r.length]]⟩), (2, ⟨1, List.map (ow eI) r⟩), (3, ⟨1, List.map (ow eI) x1.2.2.1⟩)] 4 [4, 5, 6, 7, 8, 9, 10, 11, 12, 13, 14, 15, 16, 17])) (ent_mk (σ := sg [(0, 0), (1, 1), (2, 2), (3, 3)]) ⟨⟨_, rfl, rfl⟩, ⟨_, rfl, ⟨rfl, rfl, rfl, rfl⟩⟩, ⟨_, rfl, ⟨rfl, rfl, rfl, rfl⟩⟩, ⟨_, rfl, ⟨rfl, rfl, rfl, rfl⟩⟩, ⟨_, rfl, rfl⟩, ⟨_, rfl, rfl⟩, ⟨_, rfl, rfl⟩, ⟨_, rfl, rfl⟩, ⟨_, rfl, rfl⟩, trivial⟩ ⟨⟨_, rfl, rfl, .inl ⟨rfl, plain_of rfl⟩⟩, rfl, ⟨_, rfl, rfl, .inr ⟨_, _, rfl, ⟨_, _, rfl, rfl, ⟨_, _, rfl, rfl, ⟨_, _, rfl, ⟨rfl, rfl, rfl, rfl⟩, rfl⟩⟩⟩, rfl⟩⟩, rfl, ⟨_, rfl, rfl, .inl ⟨rfl, okI.plainO _⟩⟩, rfl, ⟨_, rfl, rfl, .inl ⟨rfl, okI.plainO _⟩⟩, rfl, trivial⟩ rfl) ?_ ?_
                    · intro x6 o h
                      refine ac_seq ?_
                      refine ac_seq ?_
                      refine ac_region ?_
                      refine aops_eff (eff_move rfl) rfl rfl rfl ?_
                      refine aops_eff (w_field_ptr TT_ok rfl rfl rfl rfl rfl rfl rfl) rfl rfl rfl ?_
                      refine aops_eff (w_load_ptr TT_ok rfl rfl rfl rfl rfl rfl rfl) rfl rfl rfl ?_
                      refine aops_eff (w_cmp rfl rfl rfl) rfl rfl rfl ?_
                      refine aops_eff (eff_move rfl) rfl rfl rfl ?_
                      rcases cb h with ⟨q24, h⟩ | ⟨q24, h⟩
                      · refine aops_lit 162 rfl q24 ?_
                        refine aops_eff (eff_move rfl) rfl rfl rfl ?_
                        refine aops_eff (eff_move rfl) rfl rfl rfl ?_
                        refine aops_eff (w_cmp rfl rfl rfl) rfl rfl rfl ?_
                        refine aops_eff (eff_pick rfl rfl) rfl rfl rfl ?_
                        refine aops_nil ?_
                        refine then_n ?_
                        rcases cb h with ⟨q25, h⟩ | ⟨q25, h⟩
                        · refine ac_condT rfl q25 ?_
                          refine ac_skip ?_
                          refine then_n ?_
                          refine ac_seq ?_
                          refine ac_block ?_
                          refine ac_region_draw MIXX ?_
                          refine aops_eff (w_field_ptr TT_ok rfl rfl rfl rfl rfl rfl rfl) rfl rfl rfl ?_
                          refine aops_eff (w_load_ptr TT_ok rfl rfl rfl rfl rfl rfl rfl) rfl rfl rfl ?_
                          refine aops_eff (eff_move rfl) rfl rfl rfl ?_
                          refine aops_eff (w_field_ptr TT_ok rfl rfl rfl rfl rfl rfl rfl) rfl rfl rfl ?_
                          refine aops_eff (w_load_ptr TT_ok rfl rfl rfl rfl rfl rfl rfl) rfl rfl rfl ?_
                          refine aops_eff (x_mul rfl rfl) rfl rfl rfl ?_
                          refine aops_eff (eff_move rfl) rfl rfl rfl ?_
                          refine aops_eff (x_add rfl rfl) rfl rfl rfl ?_
                          refine aops_eff (eff_move rfl) rfl rfl rfl ?_
                          refine aops_eff (w_field_ptr TT_ok rfl rfl rfl rfl rfl rfl rfl) rfl rfl rfl ?_
                          refine aops_eff (w_load_ptr TT_ok rfl rfl rfl rfl rfl rfl rfl) rfl rfl rfl ?_
                          refine aops_eff (eff_move rfl) rfl rfl rfl ?_
                          refine aops_eff (w_field_ptr TT_ok rfl rfl rfl rfl rfl rfl rfl) rfl rfl rfl ?_
                          refine aops_eff (w_load_ptr TT_ok rfl rfl rfl rfl rfl rfl rfl) rfl rfl rfl ?_
                          refine aops_eff (x_mul rfl rfl) rfl rfl rfl ?_
                          refine aops_eff (eff_move rfl) rfl rfl rfl ?_
                          refine aops_eff (x_add rfl rfl) rfl rfl rfl ?_
                          obtain ⟨v26, hv26, h⟩ := ob h
                          refine aops_eff (x_at_own TT_ok (atL_nn hv26) (atL_lt hv26) rfl rfl rfl rfl rfl rfl rfl) rfl rfl rfl ?_
                          refine aops_eff (w_load_ptr TT_ok rfl rfl rfl rfl (map_at (atL_get hv26)) rfl rfl) rfl rfl rfl ?_
                          refine aops_eff (eff_move rfl) rfl rfl rfl ?_
                          refine aops_eff (w_field_ptr TT_ok rfl rfl rfl rfl rfl rfl rfl) rfl rfl rfl ?_
                          refine aops_eff (w_load_ptr TT_ok rfl rfl rfl rfl rfl rfl rfl) rfl rfl rfl ?_
                          refine aops_eff (eff_move rfl) rfl rfl rfl ?_
                          refine aops_eff (w_field_ptr TT_ok rfl rfl rfl rfl rfl rfl rfl) rfl rfl rfl ?_
                          refine aops_eff (w_load_ptr TT_ok rfl rfl rfl rfl rfl rfl rfl) rfl rfl rfl ?_
                          refine aops_eff (x_mul rfl rfl) rfl rfl rfl ?_
                          refine aops_eff (eff_move rfl) rfl rfl rfl ?_
                          refine aops_eff (x_add rfl rfl) rfl rfl rfl ?_
                          obtain ⟨v27, hv27, h⟩ := ob h
                          refine aops_eff (x_at_own TT_ok (atL_nn hv27) (atL_lt hv27) rfl rfl rfl rfl rfl rfl rfl) rfl rfl rfl ?_
                          refine aops_eff (w_load_ptr TT_ok rfl rfl rfl rfl (map_at (atL_get hv27)) rfl rfl) rfl rfl rfl ?_
                          refine aops_eff (x_mul rfl rfl) rfl rfl rfl ?_
                          refine aops_eff (x_sub rfl rfl) rfl rfl rfl ?_
                          obtain ⟨v28, hv28, h⟩ := ob h
                          refine aops_eff (w_call0s (c_spec_l2Mod a0 (wr (v26 - (wr (v23 * v27)))) v28 hv28) rfl (va_cons (va_same rfl) (va_cons (va_same rfl) va_nil))) rfl rfl rfl ?_
                          obtain ⟨v29, hv29, h⟩ := ob h
                          refine aops_eff (x_at_own TT_ok (atL_nn hv29) (atL_lt hv29) rfl rfl rfl rfl rfl rfl rfl) rfl rfl rfl ?_
                          refine aops_eff (x_store TT_ok okIo (u := v28) (atL_get hv29) rfl rfl rfl rfl rfl rfl) rfl rfl rfl ?_
                          refine aops_nil ?_
                          refine ⟨by kernel_rfl, ?_⟩
                          refine block_n ?_
                          refine then_n ?_
                          refine ac_ent (t := mkS [(0, .int a0), (4, .ptr 0 0 0), (6, .ptr 1 0 0), (7, .own 3 0 x1.2.2.1.length), (8, .int x1.2.2.2), (9, .int x1.1), (16, .int x5.2), (17, .int v23), (18, .int x6.2)] [(0, ⟨3, [[.int 0, .int 0, .nil 1]]⟩), (1, ⟨3, [[.int v1.rows, .int v1.cols, .own 2 0 ((x6.1.set ((wr ((wr (x5.2 * v1.cols)) + x6.2)).toNat) v28).length)]]⟩), (2, ⟨1, List.map (ow eI) (x6.1.set ((wr ((wr (x5.2 * v1.cols)) + x6.2)).toNat) v28)⟩), (3, ⟨1, List.map (ow eI) x1.2.2.1⟩)] 4 [4, 5, 6, 7, 8, 9, 10, 11, 12, 13, 14, 15, 16, 17]) (ent_mk (σ := sg [(0, 0), (1, 1), (2, 2), (3, 3)]) ⟨⟨_, rfl, rfl⟩, ⟨_, rfl, ⟨rfl, rfl, rfl, rfl⟩⟩, ⟨_, rfl, ⟨rfl, rfl, rfl, rfl⟩⟩, ⟨_, rfl, ⟨rfl, rfl, rfl, rfl⟩⟩, ⟨_, rfl, rfl⟩, ⟨_, rfl, rfl⟩, ⟨_, rfl, rfl⟩, ⟨_, rfl, rfl⟩, ⟨_, rfl, rfl⟩, trivial⟩ ⟨⟨_, rfl, rfl, .inl ⟨rfl, plain_of rfl⟩⟩, rfl, ⟨_, rfl, rfl, .inr ⟨_, _, rfl, ⟨_, _, rfl, rfl, ⟨_, _, rfl, rfl, ⟨_, _, rfl, ⟨rfl, rfl, (by simp only [len_map, List.length_append, List.length_set, List.length_replicate, List.length_cons, List.length_nil]), rfl⟩, rfl⟩⟩⟩, rfl⟩⟩, rfl, ⟨_, rfl, rfl, .inl ⟨rfl, okI.plainO _⟩⟩, rfl, ⟨_, rfl, rfl, .inl ⟨rfl, okI.plainO _⟩⟩, rfl, trivial⟩ rfl) ?_
                          refine ac_region ?_
                          refine aops_eff (eff_move rfl) rfl rfl rfl ?_
                          refine aops_eff (x_add rfl rfl) rfl rfl rfl ?_
                          refine aops_eff (eff_assign rfl) rfl rfl rfl ?_
                          refine aops_nil ?_
                          refine then_n ?_
                          obtain rfl := so h
                          exact ⟨_, rfl, (ent_mk (σ := sg [(0, 0), (1, 1), (2, 2), (3, 3)]) ⟨⟨_, rfl, rfl⟩, ⟨_, rfl, ⟨rfl, rfl, rfl, rfl⟩⟩, ⟨_, rfl, ⟨rfl, rfl, rfl, rfl⟩⟩, ⟨_, rfl, ⟨rfl, rfl, rfl, rfl⟩⟩, ⟨_, rfl, rfl⟩, ⟨_, rfl, rfl⟩, ⟨_, rfl, rfl⟩, ⟨_, rfl, rfl⟩, ⟨_, rfl, rfl⟩, trivial⟩ ⟨⟨_, rfl, rfl, .inl ⟨rfl, plain_of rfl⟩⟩, rfl, ⟨_, rfl, rfl, .inr ⟨_, _, rfl, ⟨_, _, rfl, rfl, ⟨_, _, rfl, rfl, ⟨_, _, rfl, ⟨rfl, rfl, rfl, rfl⟩, rfl⟩⟩⟩, rfl⟩⟩, rfl, ⟨_, rfl, rfl, .inl ⟨rfl, okI.plainO _⟩⟩, rfl, ⟨_, rfl, rfl, .inl ⟨rfl, okI.plainO _⟩⟩, rfl, trivial⟩ rfl)⟩
                        · refine ac_condF rfl q25 ?_
                          refine ac_exit ?_
                          refine then_exit ?_
                          refine then_exit ?_
                          obtain rfl := so h
                          exact ⟨_, rfl, rfl, (ent_mk (σ := sg [(0, 0), (1, 1), (2, 2), (3, 3)]) ⟨⟨_, rfl, rfl⟩, ⟨_, rfl, ⟨rfl, rfl, rfl, rfl⟩⟩, ⟨_, rfl, ⟨rfl, rfl, rfl, rfl⟩⟩, ⟨_, rfl, ⟨rfl, rfl, rfl, rfl⟩⟩, ⟨_, rfl, rfl⟩, ⟨_, rfl, rfl⟩, ⟨_, rfl, rfl⟩, trivial⟩ ⟨⟨_, rfl, rfl, .inl ⟨rfl, plain_of rfl⟩⟩, rfl, ⟨_, rfl, rfl, .inr ⟨_, _, rfl, ⟨_, _, rfl, rfl, ⟨_, _, rfl, rfl, ⟨_, _, rfl, ⟨rfl, rfl, rfl, rfl⟩, rfl⟩⟩⟩, rfl⟩⟩, rfl, ⟨_, rfl, rfl, .inl ⟨rfl, okI.plainO _⟩⟩, rfl, ⟨_, rfl, rfl, .inl ⟨rfl, okI.plainO _⟩⟩, rfl, trivial⟩ rfl)⟩
                      · refine aops_lit 162 rfl q24 ?_
                        refine aops_skip rfl rfl ?_
                        refine aops_skip rfl rfl ?_
                        refine aops_skip rfl rfl ?_
                        refine aops_eff (eff_pick rfl rfl) rfl rfl rfl ?_
                        refine aops_nil ?_
                        refine then_n ?_
                        refine ac_condF rfl rfl ?_
                        refine ac_exit ?_
                        refine then_exit ?_
                        refine then_exit ?_
                        obtain rfl := so h
                        exact ⟨_, rfl, rfl, (ent_mk (σ := sg [(0, 0), (1, 1), (2, 2), (3, 3)]) ⟨⟨_, rfl, rfl⟩, ⟨_, rfl, ⟨rfl, rfl, rfl, rfl⟩⟩, ⟨_, rfl, ⟨rfl, rfl, rfl, rfl⟩⟩, ⟨_, rfl, ⟨rfl, rfl, rfl, rfl⟩⟩, ⟨_, rfl, rfl⟩, ⟨_, rfl, rfl⟩, ⟨_, rfl, rfl⟩, trivial⟩ ⟨⟨_, rfl, rfl, .inl ⟨rfl, plain_of rfl⟩⟩, rfl, ⟨_, rfl, rfl, .inr ⟨_, _, rfl, ⟨_, _, rfl, rfl, ⟨_, _, rfl, rfl, ⟨_, _, rfl, ⟨rfl, rfl, rfl, rfl⟩, rfl⟩⟩⟩, rfl⟩⟩, rfl, ⟨_, rfl, rfl, .inl ⟨rfl, okI.plainO _⟩⟩, rfl, ⟨_, rfl, rfl, .inl ⟨rfl, okI.plainO _⟩⟩, rfl, trivial⟩ rfl)⟩
                    · rintro e t ⟨rfl, hent⟩
                      refine block_here ?_
                      refine block_n ?_
                      refine then_n ?_
                      refine ac_ent hent ?_
                      refine ac_region ?_
                      refine aops_eff (eff_move rfl) rfl rfl rfl ?_
                      refine aops_eff (x_add rfl rfl) rfl rfl rfl ?_
                      refine aops_eff (eff_assign rfl) rfl rfl rfl ?_
                      refine aops_nil ?_
                      refine then_n ?_
                      obtain rfl := so h
                      exact ⟨_, rfl, (ent_mk (σ := sg [(0, 0), (1, 1), (2, 2), (3, 3)]) ⟨⟨_, rfl, rfl⟩, ⟨_, rfl, ⟨rfl, rfl, rfl, rfl⟩⟩, ⟨_, rfl, ⟨rfl, rfl, rfl, rfl⟩⟩, ⟨_, rfl, ⟨rfl, rfl, rfl, rfl⟩⟩, ⟨_, rfl, rfl⟩, ⟨_, rfl, rfl⟩, ⟨_, rfl, rfl⟩, trivial⟩ ⟨⟨_, rfl, rfl, .inl ⟨rfl, plain_of rfl⟩⟩, rfl, ⟨_, rfl, rfl, .inr ⟨_, _, rfl, ⟨_, _, rfl, rfl, ⟨_, _, rfl, rfl, ⟨_, _, rfl, ⟨rfl, rfl, rfl, rfl⟩, rfl⟩⟩⟩, rfl⟩⟩, rfl, ⟨_, rfl, rfl, .inl ⟨rfl, okI.plainO _⟩⟩, rfl, ⟨_, rfl, rfl, .inl ⟨rfl, okI.plainO _⟩⟩, rfl, trivial⟩ rfl)⟩
                  · refine ac_condF rfl q22 ?_
                    refine ac_exit ?_
                    refine then_exit ?_
                    refine then_exit ?_
                    obtain rfl := so h
                    exact ⟨_, rfl, rfl, (ent_mk (σ := sg [(0, 0), (1, 1), (2, 2), (3, 3)]) ⟨⟨_, rfl, rfl⟩, ⟨_, rfl, ⟨rfl, rfl, rfl, rfl⟩⟩, ⟨_, rfl, ⟨rfl, rfl, rfl, rfl⟩⟩, ⟨_, rfl, ⟨rfl, rfl, rfl, rfl⟩⟩, ⟨_, rfl, rfl⟩, ⟨_, rfl, rfl⟩, trivial⟩ ⟨⟨_, rfl, rfl, .inl ⟨rfl, plain_of rfl⟩⟩, rfl, ⟨_, rfl, rfl, .inr ⟨_, _, rfl, ⟨_, _, rfl, rfl, ⟨_, _, rfl, rfl, ⟨_, _, rfl, ⟨rfl, rfl, rfl, rfl⟩, rfl⟩⟩⟩, rfl⟩⟩, rfl, ⟨_, rfl, rfl, .inl ⟨rfl, okI.plainO _⟩⟩, rfl, ⟨_, rfl, rfl, .inl ⟨rfl, okI.plainO _⟩⟩, rfl, trivial⟩ rfl)⟩
                · rintro e t ⟨rfl, hent⟩
                  refine block_here ?_
                  refine then_n ?_
                  refine ac_ent hent ?_
                  refine ac_seq ?_
                  refine ac_region ?_
                  refine aops_eff (eff_move rfl) rfl rfl rfl ?_
                  refine aops_eff (eff_move rfl) rfl rfl rfl ?_
                  refine aops_eff (w_lit TT_ok rfl rfl rfl rfl rfl rfl rfl rfl rfl rfl rfl rfl) rfl rfl rfl ?_
                  obtain ⟨q32, h⟩ := cg h
                  refine aops_eff (x_app TT_ok (l := x1.2.2.1) (m := [x1.1]) okIo q32 rfl rfl rfl rfl rfl rfl rfl rfl rfl rfl rfl rfl) rfl rfl rfl ?_
                  refine aops_eff (eff_assign rfl) rfl rfl rfl ?_
                  refine aops_nil ?_
                  refine then_n ?_
                  refine ac_region ?_
                  refine aops_eff (eff_move rfl) rfl rfl rfl ?_
                  refine aops_eff (x_add rfl rfl) rfl rfl rfl ?_
                  refine aops_eff (eff_assign rfl) rfl rfl rfl ?_
                  refine aops_nil ?_
                  refine block_n ?_
                  refine then_n ?_
                  refine ac_region ?_
                  refine aops_eff (eff_move rfl) rfl rfl rfl ?_
                  refine aops_eff (x_add rfl rfl) rfl rfl rfl ?_
                  refine aops_eff (eff_assign rfl) rfl rfl rfl ?_
                  refine aops_nil ?_
                  refine then_n ?_
                  obtain rfl := so h
                  exact ⟨_, rfl, (ent_mk (σ := sg [(0, 0), (1, 1), (2, 2), (3, 5)]) ⟨⟨_, rfl, rfl⟩, ⟨_, rfl, ⟨rfl, rfl, rfl, rfl⟩⟩, ⟨_, rfl, ⟨rfl, rfl, rfl, rfl⟩⟩, ⟨_, rfl, ⟨rfl, rfl, rfl, rfl⟩⟩, ⟨_, rfl, rfl⟩, ⟨_, rfl, rfl⟩, trivial⟩ ⟨⟨_, rfl, rfl, .inl ⟨rfl, plain_of rfl⟩⟩, rfl, ⟨_, rfl, rfl, .inr ⟨_, _, rfl, ⟨_, _, rfl, rfl, ⟨_, _, rfl, rfl, ⟨_, _, rfl, ⟨rfl, rfl, rfl, rfl⟩, rfl⟩⟩⟩, rfl⟩⟩, rfl, ⟨_, rfl, rfl, .inl ⟨rfl, okI.plainO _⟩⟩, rfl, ⟨_, rfl, rfl, .inl ⟨rfl, okI.plainO _⟩⟩, rfl, trivial⟩ rfl)⟩
      · refine ac_condF rfl q3 ?_
        refine ac_exit ?_
        refine then_exit ?_
        refine then_exit ?_
        obtain rfl := so h
        exact ⟨_, rfl, rfl, (ent_mk (σ := sg [(0, 0), (1, 1), (2, 2), (3, 3)]) ⟨⟨_, rfl, ⟨rfl, rfl, rfl, rfl⟩⟩, ⟨_, rfl, ⟨rfl, rfl, rfl, rfl⟩⟩, ⟨_, rfl, ⟨rfl, rfl, rfl, rfl⟩⟩, trivial⟩ ⟨⟨_, rfl, rfl, .inl ⟨rfl, plain_of rfl⟩⟩, rfl, ⟨_, rfl, rfl, .inr ⟨_, _, rfl, ⟨_, _, rfl, rfl, ⟨_, _, rfl, rfl, ⟨_, _, rfl, ⟨rfl, rfl, rfl, rfl⟩, rfl⟩⟩⟩, rfl⟩⟩, rfl, ⟨_, rfl, rfl, .inl ⟨rfl, okI.plainO _⟩⟩, rfl, ⟨_, rfl, rfl, .inl ⟨rfl, okI.plainO _⟩⟩, rfl, trivial⟩ rfl)⟩
    · refine aops_lit 26 rfl q2 ?_
      refine aops_skip rfl rfl ?_
      refine aops_skip rfl rfl ?_
      refine aops_skip rfl rfl ?_
      refine aops_skip rfl rfl ?_
      refine aops_eff (eff_pick rfl rfl) rfl rfl rfl ?_
      refine aops_nil ?_
      refine then_n ?_
      refine ac_condF rfl rfl ?_
      refine ac_exit ?_
      refine then_exit ?_
      refine then_exit ?_
      obtain rfl := so h
      exact ⟨_, rfl, rfl, (ent_mk (σ := sg [(0, 0), (1, 1), (2, 2), (3, 3)]) ⟨⟨_, rfl, ⟨rfl, rfl, rfl, rfl⟩⟩, ⟨_, rfl, ⟨rfl, rfl, rfl, rfl⟩⟩, ⟨_, rfl, ⟨rfl, rfl, rfl, rfl⟩⟩, trivial⟩ ⟨⟨_, rfl, rfl, .inl ⟨rfl, plain_of rfl⟩⟩, rfl, ⟨_, rfl, rfl, .inr ⟨_, _, rfl, ⟨_, _, rfl, rfl, ⟨_, _, rfl, rfl, ⟨_, _, rfl, ⟨rfl, rfl, rfl, rfl⟩, rfl⟩⟩⟩, rfl⟩⟩, rfl, ⟨_, rfl, rfl, .inl ⟨rfl, okI.plainO _⟩⟩, rfl, ⟨_, rfl, rfl, .inl ⟨rfl, okI.plainO _⟩⟩, rfl, trivial⟩ rfl)⟩
  · rintro e t ⟨rfl, hent⟩
    refine block_here ?_
    refine then_n ?_
    refine ac_ent hent ?_
    refine ac_seq ?_
    refine ac_region ?_
    refine aops_eff (w_load_ptr TT_ok rfl rfl rfl rfl rfl rfl rfl) rfl rfl rfl ?_
    refine aops_eff (eff_move rfl) rfl rfl rfl ?_
    refine aops_eff (w_store TT_ok rfl rfl rfl rfl rfl rfl rfl rfl) rfl rfl rfl ?_
    refine aops_eff (eff_assign rfl) rfl rfl rfl ?_
    refine aops_nil ?_
    refine then_n ?_
    refine ac_ret ?_
    obtain rfl := so h
    exact ret_mk rfl rfl rfl (xz_tuple rfl (xB_cons (xB_agg (x1_cons (rfl) (x1_cons (rfl) (x1_cons (x_f1 okI rfl rfl) x1_nil)))) (xB_cons (xB_one (x_f1 okI rfl rfl)) xB_nil)))

noncomputable def m_impl_ReduceMod (a0 : Int) (a1 : Int) : Option Int :=
  Option.bind (m_impl_IsField a0) fun v1 =>
  bif !v1 then
    (some (0))
  else
    (bif !decide (a0 = 0) then
      (bif !decide (a0 = 0) then
        (some ((wr ((a1.tmod a0) + a0)).tmod a0))
      else none)
    else none)

theorem c_impl_ReduceMod (a0 : Int) (a1 : Int) (r : Int) (h : m_impl_ReduceMod a0 a1 = some r) : HasC Try.prog 172 [.int a0, .int a1] (.int r) := by
  refine hasC_mk TT_ok (rvs := [.tmp 4]) (ns := [0, 1, 2, 3, 4, 5, 6, 7, 8, 9, 10, 11, 12, 13]) Try.func172 rfl rfl Try.ntmps172 rfl rfl rfl ?_
  refine ac_seq ?_
  refine ac_region ?_
  refine aops_eff (eff_assign rfl) rfl rfl rfl ?_
  refine aops_nil ?_
  refine then_n ?_
  refine ac_seq ?_
  refine ac_seq ?_
  refine ac_region ?_
  refine aops_eff (eff_move rfl) rfl rfl rfl ?_
  obtain ⟨v1, hv1, h⟩ := ob h
  refine aops_eff (w_call0s (c_impl_IsField a0 v1 hv1) rfl (va_cons (va_same rfl) va_nil)) rfl rfl rfl ?_
  refine aops_eff (w_not rfl) rfl rfl rfl ?_
  refine aops_nil ?_
  refine then_n ?_
  rcases cb h with ⟨q2, h⟩ | ⟨q2, h⟩
  · refine ac_condT rfl q2 ?_
    refine ac_seq ?_
    refine ac_region ?_
    refine aops_eff (eff_assign rfl) rfl rfl rfl ?_
    refine aops_nil ?_
    refine then_n ?_
    refine ac_ret ?_
    refine then_ret ?_
    obtain rfl := so h
    exact ret_mk rfl rfl rfl (fz_int rfl)
  · refine ac_condF rfl q2 ?_
    refine ac_skip ?_
    refine then_n ?_
    refine ac_seq ?_
    refine ac_region ?_
    refine aops_eff (eff_move rfl) rfl rfl rfl ?_
    refine aops_eff (eff_move rfl) rfl rfl rfl ?_
    obtain ⟨q4, h⟩ := cg h
    refine aops_eff (x_rem rfl rfl q4) rfl rfl rfl ?_
    refine aops_eff (eff_move rfl) rfl rfl rfl ?_
    refine aops_eff (x_add rfl rfl) rfl rfl rfl ?_
    refine aops_eff (eff_move rfl) rfl rfl rfl ?_
    obtain ⟨q3, h⟩ := cg h
    refine aops_eff (x_rem rfl rfl q3) rfl rfl rfl ?_
    refine aops_eff (eff_assign rfl) rfl rfl rfl ?_
    refine aops_nil ?_
    refine then_n ?_
    refine ac_ent (t := mkS [(4, .int ((wr ((a1.tmod a0) + a0)).tmod a0))] [] 0 [0, 1, 2, 3, 4, 5, 6, 7, 8, 9, 10, 11, 12, 13]) (ent_mk (σ := sg []) ⟨⟨_, rfl, rfl⟩, trivial⟩ trivial rfl) ?_
    refine ac_ret ?_
    obtain rfl := so h
    exact ret_mk rfl rfl rfl (fz_int rfl)

noncomputable def m_impl_PowerMod_L1 (a0 : Int) (a1 : Int) (a2 : Int) (x1 : (Int × Int)) : Option ((Int × Int) ⊕ Int) :=
  bif decide (x1.2 < a2) then
    (Option.bind (m_impl_ReduceMod a0 a1) fun v6 =>
    bif !decide (a0 = 0) then
      (some (.inl ((wr (x1.1 * v6)).tmod a0, wr (x1.2 + 1))))
    else none)
  else
    (some (.inr x1.1))

noncomputable def m_impl_PowerMod (a0 : Int) (a1 : Int) (a2 : Int) : Option Int :=
  Option.bind (m_impl_IsField a0) fun v1 =>
  bif !v1 then
    (some (0))
  else
    (Option.bind (m_impl_within a2 0 1000) fun v3 =>
    bif !v3 then
      (some (0))
    else
      (Option.bind (Lp (m_impl_PowerMod_L1 a0 a1 a2) (1, 0)) fun y8 =>
      some (y8)))

theorem c_impl_PowerMod (a0 : Int) (a1 : Int) (a2 : Int) (r : Int) (h : m_impl_PowerMod a0 a1 a2 = some r) : HasC Try.prog 170 [.int a0, .int a1, .int a2] (.int r) := by
  refine hasC_mk TT_ok (rvs := [.tmp 6]) (ns := [0, 1, 2, 3, 4, 5, 6, 7, 8, 9, 10, 11, 12, 13]) Try.func170 rfl rfl Try.ntmps170 rfl rfl rfl ?_
  refine ac_seq ?_
  refine ac_region ?_
  refine aops_eff (eff_assign rfl) rfl rfl rfl ?_
  refine aops_nil ?_
  refine then_n ?_
  refine ac_seq ?_
  refine ac_seq ?_
  refine ac_region ?_
  refine aops_eff (eff_move rfl) rfl rfl rfl ?_
  obtain ⟨v1, hv1, h⟩ := ob h
  refine aops_eff (w_call0s (c_impl_IsField a0 v1 hv1) rfl (va_cons (va_same rfl) va_nil)) rfl rfl rfl ?_
  refine aops_eff (w_not rfl) rfl rfl rfl ?_
  refine aops_eff (eff_move rfl) rfl rfl rfl ?_
  rcases cb h with ⟨q2, h⟩ | ⟨q2, h⟩
  · refine aops_lit 11 rfl q2 ?_
    refine aops_skip rfl rfl ?_
    refine aops_skip rfl rfl ?_
    refine aops_skip rfl rfl ?_
    refine aops_eff (eff_pick rfl rfl) rfl rfl rfl ?_
    refine aops_nil ?_
    refine then_n ?_
    refine ac_condT rfl rfl ?_
    refine ac_seq ?_
    refine ac_region ?_
    refine aops_eff (eff_assign rfl) rfl rfl rfl ?_
    refine aops_nil ?_
    refine then_n ?_
    refine ac_ret ?_
    refine then_ret ?_
    obtain rfl := so h
    exact ret_mk rfl rfl rfl (fz_int rfl)
  · refine aops_lit 11 rfl q2 ?_
    refine aops_eff (eff_move rfl) rfl rfl rfl ?_
    obtain ⟨v3, hv3, h⟩ := ob h
    refine aops_eff (w_call0s (c_impl_within a2 0 1000 v3 hv3) rfl (va_cons (va_same rfl) (va_cons (va_same rfl) (va_cons (va_same rfl) va_nil)))) rfl rfl rfl ?_
    refine aops_eff (w_not rfl) rfl rfl rfl ?_
    refine aops_eff (eff_pick rfl rfl) rfl rfl rfl ?_
    refine aops_nil ?_
    refine then_n ?_
    rcases cb h with ⟨q4, h⟩ | ⟨q4, h⟩
    · refine ac_condT rfl q4 ?_
      refine ac_seq ?_
      refine ac_region ?_
      refine aops_eff (eff_assign rfl) rfl rfl rfl ?_
      refine aops_nil ?_
      refine then_n ?_
      refine ac_ret ?_
      refine then_ret ?_
      obtain rfl := so h
      exact ret_mk rfl rfl rfl (fz_int rfl)
    · refine ac_condF rfl q4 ?_
      refine ac_skip ?_
      refine then_n ?_
      refine ac_seq ?_
      refine ac_region ?_
      refine aops_eff (eff_assign rfl) rfl rfl rfl ?_
      refine aops_nil ?_
      refine then_n ?_
      refine ac_seq ?_
      refine ac_seq ?_
      refine ac_region ?_
      refine aops_eff (eff_move rfl) rfl rfl rfl ?_
      refine aops_eff (eff_move rfl) rfl rfl rfl ?_
      refine aops_nil ?_
      refine then_n ?_
      refine ac_ent (t := mkS [(0, .int a0), (1, .int a1), (7, .int 1), (16, .int a2), (17, .int 0)] [] 0 [0, 1, 2, 3, 4, 5, 6, 7, 8, 9, 10, 11, 12, 13]) (ent_mk (σ := sg []) ⟨⟨_, rfl, rfl⟩, ⟨_, rfl, rfl⟩, ⟨_, rfl, rfl⟩, ⟨_, rfl, rfl⟩, ⟨_, rfl, rfl⟩, trivial⟩ trivial rfl) ?_
      refine ac_block ?_
      obtain ⟨y8, hy8, h⟩ := ob h
      refine ac_Lp (body := (m_impl_PowerMod_L1 a0 a1 a2)) hy8 (fun (x1 : (Int × Int)) => mkS [(0, .int a0), (1, .int a1), (7, .int x1.1), (16, .int a2), (17, .int x1.2)] [] 0 [0, 1, 2, 3, 4, 5, 6, 7, 8, 9, 10, 11, 12, 13]) (fun r e t => e = .exit 0 ∧ Ent t (mkS [(7, .int r)] [] 0 [0, 1, 2, 3, 4, 5, 6, 7, 8, 9, 10, 11, 12, 13])) (ent_mk (σ := sg []) ⟨⟨_, rfl, rfl⟩, ⟨_, rfl, rfl⟩, ⟨_, rfl, rfl⟩, ⟨_, rfl, rfl⟩, ⟨_, rfl, rfl⟩, trivial⟩ trivial rfl) ?_ ?_
      · intro x1 o h
        refine ac_seq ?_
        refine ac_region ?_
        refine aops_eff (w_cmp rfl rfl rfl) rfl rfl rfl ?_
        refine aops_nil ?_
        refine then_n ?_
        refine ac_seq ?_
        rcases cb h with ⟨q5, h⟩ | ⟨q5, h⟩
        · refine ac_condT rfl q5 ?_
          refine ac_skip ?_
          refine then_n ?_
          refine ac_seq ?_
          refine ac_block ?_
          refine ac_region ?_
          refine aops_eff (eff_move rfl) rfl rfl rfl ?_
          refine aops_eff (eff_move rfl) rfl rfl rfl ?_
          refine aops_eff (eff_move rfl) rfl rfl rfl ?_
          obtain ⟨v6, hv6, h⟩ := ob h
          refine aops_eff (w_call0s (c_impl_ReduceMod a0 a1 v6 hv6) rfl (va_cons (va_same rfl) (va_cons (va_same rfl) va_nil))) rfl rfl rfl ?_
          refine aops_eff (x_mul rfl rfl) rfl rfl rfl ?_
          refine aops_eff (eff_move rfl) rfl rfl rfl ?_
          obtain ⟨q7, h⟩ := cg h
          refine aops_eff (x_rem rfl rfl q7) rfl rfl rfl ?_
          refine aops_eff (eff_assign rfl) rfl rfl rfl ?_
          refine aops_nil ?_
          refine block_n ?_
          refine then_n ?_
          refine ac_region ?_
          refine aops_eff (x_add rfl rfl) rfl rfl rfl ?_
          refine aops_eff (eff_move rfl) rfl rfl rfl ?_
          refine aops_nil ?_
          refine then_n ?_
          obtain rfl := so h
          exact ⟨_, rfl, (ent_mk (σ := sg []) ⟨⟨_, rfl, rfl⟩, ⟨_, rfl, rfl⟩, ⟨_, rfl, rfl⟩, ⟨_, rfl, rfl⟩, ⟨_, rfl, rfl⟩, trivial⟩ trivial rfl)⟩
        · refine ac_condF rfl q5 ?_
          refine ac_exit ?_
          refine then_exit ?_
          refine then_exit ?_
          obtain rfl := so h
          exact ⟨_, rfl, rfl, (ent_mk (σ := sg []) ⟨⟨_, rfl, rfl⟩, trivial⟩ trivial rfl)⟩
      · rintro e t ⟨rfl, hent⟩
        refine block_here ?_
        refine then_n ?_
        refine ac_ent hent ?_
        refine ac_seq ?_
        refine ac_region ?_
        refine aops_eff (eff_move rfl) rfl rfl rfl ?_
        refine aops_eff (eff_assign rfl) rfl rfl rfl ?_
        refine aops_nil ?_
        refine then_n ?_
        refine ac_ret ?_
        obtain rfl := so h
        exact ret_mk rfl rfl rfl (fz_int rfl)

noncomputable def m_impl_InverseMod (a0 : Int) (a1 : Int) : Option Int :=
  Option.bind (m_impl_IsField a0) fun v1 =>
  bif !v1 then
    (some (0))
  else
    (Option.bind (m_impl_PowerMod a0 a1 (max (wr (a0 - 2)) 1)) fun v3 =>
    some (v3))

theorem c_impl_InverseMod (a0 : Int) (a1 : Int) (r : Int) (h : m_impl_InverseMod a0 a1 = some r) : HasC Try.prog 163 [.int a0, .int a1] (.int r) := by
  refine hasC_mk TT_ok (rvs := [.tmp 4]) (ns := [0, 1, 2, 3, 4, 5, 6, 7, 8, 9, 10, 11, 12, 13]) Try.func163 rfl rfl Try.ntmps163 rfl rfl rfl ?_
  refine ac_seq ?_
  refine ac_region ?_
  refine aops_eff (eff_assign rfl) rfl rfl rfl ?_
  refine aops_nil ?_
  refine then_n ?_
  refine ac_seq ?_
  refine ac_seq ?_
  refine ac_region ?_
  refine aops_eff (eff_move rfl) rfl rfl rfl ?_
  obtain ⟨v1, hv1, h⟩ := ob h
  refine aops_eff (w_call0s (c_impl_IsField a0 v1 hv1) rfl (va_cons (va_same rfl) va_nil)) rfl rfl rfl ?_
  refine aops_eff (w_not rfl) rfl rfl rfl ?_
  refine aops_nil ?_
  refine then_n ?_
  rcases cb h with ⟨q2, h⟩ | ⟨q2, h⟩
  · refine ac_condT rfl q2 ?_
    refine ac_seq ?_
    refine ac_region ?_
    refine aops_eff (eff_assign rfl) rfl rfl rfl ?_
    refine aops_nil ?_
    refine then_n ?_
    refine ac_ret ?_
    refine then_ret ?_
    obtain rfl := so h
    exact ret_mk rfl rfl rfl (fz_int rfl)
  · refine ac_condF rfl q2 ?_
    refine ac_skip ?_
    refine then_n ?_
    refine ac_seq ?_
    refine ac_region ?_
    refine aops_eff (eff_move rfl) rfl rfl rfl ?_
    refine aops_eff (eff_move rfl) rfl rfl rfl ?_
    refine aops_eff (eff_move rfl) rfl rfl rfl ?_
    refine aops_eff (x_sub rfl rfl) rfl rfl rfl ?_
    refine aops_eff (x_max rfl rfl) rfl rfl rfl ?_
    obtain ⟨v3, hv3, h⟩ := ob h
    refine aops_eff (w_call0s (c_impl_PowerMod a0 a1 (max (wr (a0 - 2)) 1) v3 hv3) rfl (va_cons (va_same rfl) (va_cons (va_same rfl) (va_cons (va_same rfl) va_nil)))) rfl rfl rfl ?_
    refine aops_eff (eff_assign rfl) rfl rfl rfl ?_
    refine aops_nil ?_
    refine then_n ?_
    refine ac_ret ?_
    obtain rfl := so h
    exact ret_mk rfl rfl rfl (fz_int rfl)

noncomputable def m_spec_AreDims_L1 (a1 : (List Int)) (x1 : (Int × Int)) : Option ((Int × Int) ⊕ (Int ⊕ Bool)) :=
  bif decide (x1.2 < (a1.length : Int)) then
    (Option.bind (atL a1 x1.2) fun v5 =>
    Option.bind (m_spec_l1In v5 0 4) fun v6 =>
    bif !v6 then
      (some (.inr (.inr (false))))
    else
      (Option.bind (atL a1 x1.2) fun v8 =>
      some (.inl (wr (x1.1 + v8), wr (x1.2 + 1)))))
  else
    (some (.inr (.inl x1.1)))

noncomputable def m_spec_AreDims (a0 : Qv) (a1 : (List Int)) : Option Bool :=
  Option.bind (m_spec_IsQuiver a0) fun v1 =>
  bif !v1 then
    (some (false))
  else
    (bif !decide ((a1.length : Int) = a0.n) then
      (some (false))
    else
      (Option.bind (Lp (m_spec_AreDims_L1 a1) (0, 0)) fun y9 =>
      Sum.elim (fun y10 =>
        some (decide (y10 ≤ 8))
      ) 
      (fun y11 =>
        some y11
      )
       y9))

theorem c_spec_AreDims (a0 : Qv) (a1 : (List Int)) (r : Bool) (h : m_spec_AreDims a0 a1 = some r) : HasC Try.prog 71 [.agg (eQ a0), .list 1 (List.map eI a1)] (.bl r) := by
  refine hasC_mk TT_ok (rvs := [.tmp 4]) (ns := [0, 1, 2, 3, 4, 5, 6, 7, 8, 9, 10, 11, 12, 13]) Try.func71 rfl rfl Try.ntmps71 rfl rfl rfl ?_
  refine ac_seq ?_
  refine ac_region ?_
  refine aops_eff (w_box rfl rfl rfl rfl) rfl rfl rfl ?_
  refine aops_eff (eff_assign rfl) rfl rfl rfl ?_
  refine aops_nil ?_
  refine then_n ?_
  refine ac_seq ?_
  refine ac_seq ?_
  refine ac_region ?_
  refine aops_eff (w_load_ptr TT_ok rfl rfl rfl rfl rfl rfl rfl) rfl rfl rfl ?_
  obtain ⟨v1, hv1, h⟩ := ob h
  refine aops_eff (w_call0s (c_spec_IsQuiver a0 v1 hv1) rfl (va_cons (va_agg' (v1_cons (v1_same rfl) (v1_cons (v1_same rfl) (v1_cons (v1_same rfl) v1_nil)))) va_nil)) rfl rfl rfl ?_
  refine aops_eff (w_not rfl) rfl rfl rfl ?_
  refine aops_eff (eff_move rfl) rfl rfl rfl ?_
  rcases cb h with ⟨q2, h⟩ | ⟨q2, h⟩
  · refine aops_lit 10 rfl q2 ?_
    refine aops_skip rfl rfl ?_
    refine aops_skip rfl rfl ?_
    refine aops_skip rfl rfl ?_
    refine aops_skip rfl rfl ?_
    refine aops_skip rfl rfl ?_
    refine aops_eff (eff_pick rfl rfl) rfl rfl rfl ?_
    refine aops_nil ?_
    refine then_n ?_
    refine ac_ent (t := mkS [(1, .list 1 (List.map eI a1)), (16, .bl true)] [] 1 [1, 2, 3, 4, 5, 6, 7, 8, 9, 10, 11, 12, 13, 14]) (ent_mk (σ := sg []) ⟨⟨_, rfl, ⟨rfl, rfl⟩⟩, ⟨_, rfl, rfl⟩, trivial⟩ trivial rfl) ?_
    refine ac_condT rfl rfl ?_
    refine ac_seq ?_
    refine ac_region ?_
    refine aops_eff (eff_assign rfl) rfl rfl rfl ?_
    refine aops_nil ?_
    refine then_n ?_
    refine ac_ret ?_
    refine then_ret ?_
    obtain rfl := so h
    exact ret_mk rfl rfl rfl (fz_bl rfl)
  · refine aops_lit 10 rfl q2 ?_
    refine aops_eff (eff_move rfl) rfl rfl rfl ?_
    refine aops_eff (AEff.val (w_len_list TT_ok rfl rfl rfl) (v' := .int (a1.length : Int)) (by first | rw [len_map] | rw [encI_len])) rfl rfl rfl ?_
    refine aops_eff (w_field_ptr TT_ok rfl rfl rfl rfl rfl rfl rfl) rfl rfl rfl ?_
    refine aops_eff (w_load_ptr TT_ok rfl rfl rfl rfl rfl rfl rfl) rfl rfl rfl ?_
    refine aops_eff (w_cmp rfl rfl rfl) rfl rfl rfl ?_
    refine aops_eff (eff_pick rfl rfl) rfl rfl rfl ?_
    refine aops_nil ?_
    refine then_n ?_
    refine ac_ent (t := mkS [(1, .list 1 (List.map eI a1)), (16, .bl (!decide ((a1.length : Int) = a0.n)))] [] 1 [1, 2, 3, 4, 5, 6, 7, 8, 9, 10, 11, 12, 13, 14]) (ent_mk (σ := sg []) ⟨⟨_, rfl, ⟨rfl, rfl⟩⟩, ⟨_, rfl, rfl⟩, trivial⟩ trivial rfl) ?_
    rcases cb h with ⟨q3, h⟩ | ⟨q3, h⟩
    · refine ac_condT rfl q3 ?_
      refine ac_seq ?_
      refine ac_region ?_
      refine aops_eff (eff_assign rfl) rfl rfl rfl ?_
      refine aops_nil ?_
      refine then_n ?_
      refine ac_ret ?_
      refine then_ret ?_
      obtain rfl := so h
      exact ret_mk rfl rfl rfl (fz_bl rfl)
    · refine ac_condF rfl q3 ?_
      refine ac_skip ?_
      refine then_n ?_
      refine ac_seq ?_
      refine ac_region ?_
      refine aops_eff (eff_assign rfl) rfl rfl rfl ?_
      refine aops_nil ?_
      refine then_n ?_
      refine ac_seq ?_
      refine ac_seq ?_
      refine ac_region ?_
      refine aops_eff (eff_assign rfl) rfl rfl rfl ?_
      refine aops_nil ?_
      refine then_n ?_
      refine ac_block ?_
      obtain ⟨y9, hy9, h⟩ := ob h
      refine ac_Lp (body := (m_spec_AreDims_L1 a1)) hy9 (fun (x1 : (Int × Int)) => mkS [(1, .list 1 (List.map eI a1)), (5, .int x1.1), (6, .int x1.2)] [] 0 [0, 1, 2, 3, 4, 5, 6, 7, 8, 9, 10, 11, 12, 13]) (fun r e t => Sum.elim (fun a => (fun r e t => e = .exit 0 ∧ Ent t (mkS [(5, .int r)] [] 0 [0, 1, 2, 3, 4, 5, 6, 7, 8, 9, 10, 11, 12, 13])) a e t) (fun b => (fun r e t => e = .ret ∧ RetQ TT [.tmp 4] (.bl r) .ret t) b e t) r) (ent_mk (σ := sg []) ⟨⟨_, rfl, ⟨rfl, rfl⟩⟩, ⟨_, rfl, rfl⟩, ⟨_, rfl, rfl⟩, trivial⟩ trivial rfl) ?_ ?_
      · intro x1 o h
        refine ac_seq ?_
        refine ac_seq ?_
        refine ac_region ?_
        refine aops_eff (eff_move rfl) rfl rfl rfl ?_
        refine aops_eff (eff_move rfl) rfl rfl rfl ?_
        refine aops_eff (AEff.val (w_len_list TT_ok rfl rfl rfl) (v' := .int (a1.length : Int)) (by first | rw [len_map] | rw [encI_len])) rfl rfl rfl ?_
        refine aops_eff (w_cmp rfl rfl rfl) rfl rfl rfl ?_
        refine aops_nil ?_
        refine then_n ?_
        rcases cb h with ⟨q4, h⟩ | ⟨q4, h⟩
        · refine ac_condT rfl q4 ?_
          refine ac_skip ?_
          refine then_n ?_
          refine ac_seq ?_
          refine ac_block ?_
          refine ac_seq ?_
          refine ac_seq ?_
          refine ac_region ?_
          refine aops_eff (eff_move rfl) rfl rfl rfl ?_
          refine aops_eff (eff_move rfl) rfl rfl rfl ?_
          obtain ⟨v5, hv5, h⟩ := ob h
          refine aops_eff (x_at_list TT_ok hv5 rfl rfl rfl rfl rfl rfl) rfl rfl rfl ?_
          refine aops_eff (w_load_ref TT_ok rfl rfl rfl rfl rfl rfl) rfl rfl rfl ?_
          obtain ⟨v6, hv6, h⟩ := ob h
          refine aops_eff (w_call0s (c_spec_l1In v5 0 4 v6 hv6) rfl (va_cons (va_same rfl) (va_cons (va_same rfl) (va_cons (va_same rfl) va_nil)))) rfl rfl rfl ?_
          refine aops_eff (w_not rfl) rfl rfl rfl ?_
          refine aops_nil ?_
          refine then_n ?_
          rcases cb h with ⟨q7, h⟩ | ⟨q7, h⟩
          · refine ac_condT rfl q7 ?_
            refine ac_seq ?_
            refine ac_region ?_
            refine aops_eff (eff_assign rfl) rfl rfl rfl ?_
            refine aops_nil ?_
            refine then_n ?_
            refine ac_ret ?_
            refine then_ret ?_
            refine block_ret ?_
            refine then_ret ?_
            refine then_ret ?_
            obtain rfl := so h
            exact ⟨_, rfl, rfl, ret_mk rfl rfl rfl (fz_bl rfl)⟩
          · refine ac_condF rfl q7 ?_
            refine ac_skip ?_
            refine then_n ?_
            refine ac_region ?_
            refine aops_eff (eff_move rfl) rfl rfl rfl ?_
            refine aops_eff (eff_move rfl) rfl rfl rfl ?_
            refine aops_eff (eff_move rfl) rfl rfl rfl ?_
            obtain ⟨v8, hv8, h⟩ := ob h
            refine aops_eff (x_at_list TT_ok hv8 rfl rfl rfl rfl rfl rfl) rfl rfl rfl ?_
            refine aops_eff (w_load_ref TT_ok rfl rfl rfl rfl rfl rfl) rfl rfl rfl ?_
            refine aops_eff (x_add rfl rfl) rfl rfl rfl ?_
            refine aops_eff (eff_assign rfl) rfl rfl rfl ?_
            refine aops_nil ?_
            refine block_n ?_
            refine then_n ?_
            refine ac_ent (t := mkS [(1, .list 1 (List.map eI a1)), (5, .int (wr (x1.1 + v8))), (6, .int x1.2)] [] 0 [0, 1, 2, 3, 4, 5, 6, 7, 8, 9, 10, 11, 12, 13]) (ent_mk (σ := sg []) ⟨⟨_, rfl, ⟨rfl, rfl⟩⟩, ⟨_, rfl, rfl⟩, ⟨_, rfl, rfl⟩, trivial⟩ trivial rfl) ?_
            refine ac_region ?_
            refine aops_eff (eff_move rfl) rfl rfl rfl ?_
            refine aops_eff (x_add rfl rfl) rfl rfl rfl ?_
            refine aops_eff (eff_assign rfl) rfl rfl rfl ?_
            refine aops_nil ?_
            refine then_n ?_
            obtain rfl := so h
            exact ⟨_, rfl, (ent_mk (σ := sg []) ⟨⟨_, rfl, ⟨rfl, rfl⟩⟩, ⟨_, rfl, rfl⟩, ⟨_, rfl, rfl⟩, trivial⟩ trivial rfl)⟩
        · refine ac_condF rfl q4 ?_
          refine ac_exit ?_
          refine then_exit ?_
          refine then_exit ?_
          obtain rfl := so h
          exact ⟨_, rfl, rfl, (ent_mk (σ := sg []) ⟨⟨_, rfl, rfl⟩, trivial⟩ trivial rfl)⟩
      · intro e t hX
        rcases y9 with y10 | y11
        · obtain ⟨rfl, hent⟩ := hX
          refine block_here ?_
          refine then_n ?_
          refine ac_ent hent ?_
          refine ac_seq ?_
          refine ac_region ?_
          refine aops_eff (eff_move rfl) rfl rfl rfl ?_
          refine aops_eff (w_cmp rfl rfl rfl) rfl rfl rfl ?_
          refine aops_eff (eff_assign rfl) rfl rfl rfl ?_
          refine aops_nil ?_
          refine then_n ?_
          refine ac_ret ?_
          obtain rfl := so h
          exact ret_mk rfl rfl rfl (fz_bl rfl)
        · obtain ⟨rfl, hent⟩ := hX
          refine block_ret ?_
          refine then_ret ?_
          obtain rfl := so h
          exact hent

noncomputable def m_spec_IsRep_L1 (a0 : Rp) (x1 : Int) : Option (Int ⊕ (Unit ⊕ Bool)) :=
  bif decide (x1 < (a0.maps.length : Int)) then
    (Option.bind (atL a0.maps x1) fun v7 =>
    Option.bind (m_spec_IsMatrix a0.p v7) fun v8 =>
    bif !v8 then
      (some (.inr (.inr (false))))
    else
      (Option.bind (atL a0.maps x1) fun v10 =>
      Option.bind (atL a0.q.src x1) fun v11 =>
      Option.bind (atL a0.dims v11) fun v12 =>
      bif !decide (v10.cols = v12) then
        (some (.inr (.inr (false))))
      else
        (Option.bind (atL a0.maps x1) fun v14 =>
        Option.bind (atL a0.q.tgt x1) fun v15 =>
        Option.bind (atL a0.dims v15) fun v16 =>
        bif !decide (v14.rows = v16) then
          (some (.inr (.inr (false))))
        else
          (some (.inl (wr (x1 + 1)))))))
  else
    (some (.inr (.inl ())))

noncomputable def m_spec_IsRep (a0 : Rp) : Option Bool :=
  Option.bind (m_spec_IsField a0.p) fun v1 =>
  bif !v1 then
    (some (false))
  else
    (Option.bind (m_spec_AreDims a0.q a0.dims) fun v3 =>
    bif !v3 then
      (some (false))
    else
      (bif !decide ((a0.maps.length : Int) = (a0.q.src.length : Int)) then
        (some (false))
      else
        (Option.bind (Lp (m_spec_IsRep_L1 a0) 0) fun y18 =>
        Sum.elim (fun y19 =>
          some (true)
        ) 
        (fun y20 =>
          some y20
        )
         y18)))

theorem c_spec_IsRep (a0 : Rp) (r : Bool) (h : m_spec_IsRep a0 = some r) : HasC Try.prog 37 [.agg (eR a0)] (.bl r) := by
  refine hasC_mk TT_ok (rvs := [.tmp 2]) (ns := [0, 1, 2, 3, 4, 5, 6, 7, 8, 9, 10, 11, 12, 13]) Try.func37 rfl rfl Try.ntmps37 rfl rfl rfl ?_
  refine ac_seq ?_
  refine ac_region ?_
  refine aops_eff (w_box rfl rfl rfl rfl) rfl rfl rfl ?_
  refine aops_eff (eff_assign rfl) rfl rfl rfl ?_
  refine aops_nil ?_
  refine then_n ?_
  refine ac_seq ?_
  refine ac_seq ?_
  refine ac_region ?_
  refine aops_eff (w_field_ptr TT_ok rfl rfl rfl rfl rfl rfl rfl) rfl rfl rfl ?_
  refine aops_eff (w_load_ptr TT_ok rfl rfl rfl rfl rfl rfl rfl) rfl rfl rfl ?_
  obtain ⟨v1, hv1, h⟩ := ob h
  refine aops_eff (w_call0s (c_spec_IsField a0.p v1 hv1) rfl (va_cons (va_same rfl) va_nil)) rfl rfl rfl ?_
  refine aops_eff (w_not rfl) rfl rfl rfl ?_
  refine aops_eff (eff_move rfl) rfl rfl rfl ?_
  rcases cb h with ⟨q2, h⟩ | ⟨q2, h⟩
  · refine aops_lit 8 rfl q2 ?_
    refine aops_skip rfl rfl ?_
    refine aops_skip rfl rfl ?_
    refine aops_skip rfl rfl ?_
    refine aops_skip rfl rfl ?_
    refine aops_skip rfl rfl ?_
    refine aops_skip rfl rfl ?_
    refine aops_eff (eff_pick rfl rfl) rfl rfl rfl ?_
    refine aops_eff (eff_move rfl) rfl rfl rfl ?_
    refine aops_skip rfl rfl ?_
    refine aops_skip rfl rfl ?_
    refine aops_skip rfl rfl ?_
    refine aops_skip rfl rfl ?_
    refine aops_skip rfl rfl ?_
    refine aops_skip rfl rfl ?_
    refine aops_skip rfl rfl ?_
    refine aops_skip rfl rfl ?_
    refine aops_eff (eff_pick rfl rfl) rfl rfl rfl ?_
    refine aops_nil ?_
    refine then_n ?_
    refine ac_ent (t := mkS [(1, .ptr 0 0 0), (25, .bl true)] [(0, ⟨6, [[.int a0.p, .int a0.q.n, .list 1 (List.map eI a0.q.src), .list 1 (List.map eI a0.q.tgt), .list 1 (List.map eI a0.dims), .list 3 (List.map eM a0.maps)]]⟩)] 1 [1, 2, 3, 4, 5, 6, 7, 8, 9, 10, 11, 12, 13, 14]) (ent_mk (σ := sg [(0, 0)]) ⟨⟨_, rfl, ⟨rfl, rfl, rfl, rfl⟩⟩, ⟨_, rfl, rfl⟩, trivial⟩ ⟨⟨_, rfl, rfl, .inl ⟨rfl, plain_of rfl⟩⟩, rfl, trivial⟩ rfl) ?_
    refine ac_condT rfl rfl ?_
    refine ac_seq ?_
    refine ac_region ?_
    refine aops_eff (eff_assign rfl) rfl rfl rfl ?_
    refine aops_nil ?_
    refine then_n ?_
    refine ac_ret ?_
    refine then_ret ?_
    obtain rfl := so h
    exact ret_mk rfl rfl rfl (fz_bl rfl)
  · refine aops_lit 8 rfl q2 ?_
    refine aops_eff (w_field_ptr TT_ok rfl rfl rfl rfl rfl rfl rfl) rfl rfl rfl ?_
    refine aops_eff (w_load_ptr TT_ok rfl rfl rfl rfl rfl rfl rfl) rfl rfl rfl ?_
    refine aops_eff (w_field_ptr TT_ok rfl rfl rfl rfl rfl rfl rfl) rfl rfl rfl ?_
    refine aops_eff (w_load_ptr TT_ok rfl rfl rfl rfl rfl rfl rfl) rfl rfl rfl ?_
    obtain ⟨v3, hv3, h⟩ := ob h
    refine aops_eff (w_call0s (c_spec_AreDims a0.q a0.dims v3 hv3) rfl (va_cons (va_agg' (v1_cons (v1_same rfl) (v1_cons (v1_same rfl) (v1_cons (v1_same rfl) v1_nil)))) (va_cons (va_same rfl) va_nil))) rfl rfl rfl ?_
    refine aops_eff (w_not rfl) rfl rfl rfl ?_
    refine aops_eff (eff_pick rfl rfl) rfl rfl rfl ?_
    refine aops_eff (eff_move rfl) rfl rfl rfl ?_
    rcases cb h with ⟨q4, h⟩ | ⟨q4, h⟩
    · refine aops_lit 16 rfl q4 ?_
      refine aops_skip rfl rfl ?_
      refine aops_skip rfl rfl ?_
      refine aops_skip rfl rfl ?_
      refine aops_skip rfl rfl ?_
      refine aops_skip rfl rfl ?_
      refine aops_skip rfl rfl ?_
      refine aops_skip rfl rfl ?_
      refine aops_skip rfl rfl ?_
      refine aops_eff (eff_pick rfl rfl) rfl rfl rfl ?_
      refine aops_nil ?_
      refine then_n ?_
      refine ac_ent (t := mkS [(1, .ptr 0 0 0), (25, .bl true)] [(0, ⟨6, [[.int a0.p, .int a0.q.n, .list 1 (List.map eI a0.q.src), .list 1 (List.map eI a0.q.tgt), .list 1 (List.map eI a0.dims), .list 3 (List.map eM a0.maps)]]⟩)] 1 [1, 2, 3, 4, 5, 6, 7, 8, 9, 10, 11, 12, 13, 14]) (ent_mk (σ := sg [(0, 0)]) ⟨⟨_, rfl, ⟨rfl, rfl, rfl, rfl⟩⟩, ⟨_, rfl, rfl⟩, trivial⟩ ⟨⟨_, rfl, rfl, .inl ⟨rfl, plain_of rfl⟩⟩, rfl, trivial⟩ rfl) ?_
      refine ac_condT rfl rfl ?_
      refine ac_seq ?_
      refine ac_region ?_
      refine aops_eff (eff_assign rfl) rfl rfl rfl ?_
      refine aops_nil ?_
      refine then_n ?_
      refine ac_ret ?_
      refine then_ret ?_
      obtain rfl := so h
      exact ret_mk rfl rfl rfl (fz_bl rfl)
    · refine aops_lit 16 rfl q4 ?_
      refine aops_eff (w_field_ptr TT_ok rfl rfl rfl rfl rfl rfl rfl) rfl rfl rfl ?_
      refine aops_eff (w_load_ptr TT_ok rfl rfl rfl rfl rfl rfl rfl) rfl rfl rfl ?_
      refine aops_eff (AEff.val (w_len_list TT_ok rfl rfl rfl) (v' := .int (a0.maps.length : Int)) (by first | rw [len_map] | rw [encI_len])) rfl rfl rfl ?_
      refine aops_eff (w_field_ptr TT_ok rfl rfl rfl rfl rfl rfl rfl) rfl rfl rfl ?_
      refine aops_eff (w_field_ptr TT_ok rfl rfl rfl rfl rfl rfl rfl) rfl rfl rfl ?_
      refine aops_eff (w_load_ptr TT_ok rfl rfl rfl rfl rfl rfl rfl) rfl rfl rfl ?_
      refine aops_eff (AEff.val (w_len_list TT_ok rfl rfl rfl) (v' := .int (a0.q.src.length : Int)) (by first | rw [len_map] | rw [encI_len])) rfl rfl rfl ?_
      refine aops_eff (w_cmp rfl rfl rfl) rfl rfl rfl ?_
      refine aops_eff (eff_pick rfl rfl) rfl rfl rfl ?_
      refine aops_nil ?_
      refine then_n ?_
      refine ac_ent (t := mkS [(1, .ptr 0 0 0), (25, .bl (!decide ((a0.maps.length : Int) = (a0.q.src.length : Int))))] [(0, ⟨6, [[.int a0.p, .int a0.q.n, .list 1 (List.map eI a0.q.src), .list 1 (List.map eI a0.q.tgt), .list 1 (List.map eI a0.dims), .list 3 (List.map eM a0.maps)]]⟩)] 1 [1, 2, 3, 4, 5, 6, 7, 8, 9, 10, 11, 12, 13, 14]) (ent_mk (σ := sg [(0, 0)]) ⟨⟨_, rfl, ⟨rfl, rfl, rfl, rfl⟩⟩, ⟨_, rfl, rfl⟩, trivial⟩ ⟨⟨_, rfl, rfl, .inl ⟨rfl, plain_of rfl⟩⟩, rfl, trivial⟩ rfl) ?_
      rcases cb h with ⟨q5, h⟩ | ⟨q5, h⟩
      · refine ac_condT rfl q5 ?_
        refine ac_seq ?_
        refine ac_region ?_
        refine aops_eff (eff_assign rfl) rfl rfl rfl ?_
        refine aops_nil ?_
        refine then_n ?_
        refine ac_ret ?_
        refine then_ret ?_
        obtain rfl := so h
        exact ret_mk rfl rfl rfl (fz_bl rfl)
      · refine ac_condF rfl q5 ?_
        refine ac_skip ?_
        refine then_n ?_
        refine ac_seq ?_
        refine ac_seq ?_
        refine ac_region ?_
        refine aops_eff (eff_assign rfl) rfl rfl rfl ?_
        refine aops_nil ?_
        refine then_n ?_
        refine ac_block ?_
        obtain ⟨y18, hy18, h⟩ := ob h
        refine ac_Lp (body := (m_spec_IsRep_L1 a0)) hy18 (fun (x1 : Int) => mkS [(1, .ptr 0 0 0), (3, .int x1)] [(0, ⟨6, [[.int a0.p, .int a0.q.n, .list 1 (List.map eI a0.q.src), .list 1 (List.map eI a0.q.tgt), .list 1 (List.map eI a0.dims), .list 3 (List.map eM a0.maps)]]⟩)] 1 [1, 2, 3, 4, 5, 6, 7, 8, 9, 10, 11, 12, 13, 14]) (fun r e t => Sum.elim (fun a => (fun r e t => e = .exit 0 ∧ Ent t (mkS [] [] 0 [0, 1, 2, 3, 4, 5, 6, 7, 8, 9, 10, 11, 12, 13])) a e t) (fun b => (fun r e t => e = .ret ∧ RetQ TT [.tmp 2] (.bl r) .ret t) b e t) r) (ent_mk (σ := sg [(0, 0)]) ⟨⟨_, rfl, ⟨rfl, rfl, rfl, rfl⟩⟩, ⟨_, rfl, rfl⟩, trivial⟩ ⟨⟨_, rfl, rfl, .inl ⟨rfl, plain_of rfl⟩⟩, rfl, trivial⟩ rfl) ?_ ?_
        · intro x1 o h
          refine ac_seq ?_
          refine ac_seq ?_
          refine ac_region ?_
          refine aops_eff (eff_move rfl) rfl rfl rfl ?_
          refine aops_eff (w_field_ptr TT_ok rfl rfl rfl rfl rfl rfl rfl) rfl rfl rfl ?_
          refine aops_eff (w_load_ptr TT_ok rfl rfl rfl rfl rfl rfl rfl) rfl rfl rfl ?_
          refine aops_eff (AEff.val (w_len_list TT_ok rfl rfl rfl) (v' := .int (a0.maps.length : Int)) (by first | rw [len_map] | rw [encI_len])) rfl rfl rfl ?_
          refine aops_eff (w_cmp rfl rfl rfl) rfl rfl rfl ?_
          refine aops_nil ?_
          refine then_n ?_
          rcases cb h with ⟨q6, h⟩ | ⟨q6, h⟩
          · refine ac_condT rfl q6 ?_
            refine ac_skip ?_
            refine then_n ?_
            refine ac_seq ?_
            refine ac_block ?_
            refine ac_seq ?_
            refine ac_region_draw MIXX ?_
            refine aops_eff (w_field_ptr TT_ok rfl rfl rfl rfl rfl rfl rfl) rfl rfl rfl ?_
            refine aops_eff (w_load_ptr TT_ok rfl rfl rfl rfl rfl rfl rfl) rfl rfl rfl ?_
            refine aops_eff (w_field_ptr TT_ok rfl rfl rfl rfl rfl rfl rfl) rfl rfl rfl ?_
            refine aops_eff (w_load_ptr TT_ok rfl rfl rfl rfl rfl rfl rfl) rfl rfl rfl ?_
            refine aops_eff (eff_move rfl) rfl rfl rfl ?_
            obtain ⟨v7, hv7, h⟩ := ob h
            refine aops_eff (x_at_list TT_ok hv7 rfl rfl rfl rfl rfl rfl) rfl rfl rfl ?_
            refine aops_eff (w_load_ref TT_ok rfl rfl rfl rfl rfl rfl) rfl rfl rfl ?_
            obtain ⟨v8, hv8, h⟩ := ob h
            refine aops_eff (w_call0s (c_spec_IsMatrix a0.p v7 v8 hv8) rfl (va_cons (va_same rfl) (va_cons (va_agg' (v1_cons (v1_same rfl) (v1_cons (v1_same rfl) (v1_cons (v1_same rfl) v1_nil)))) va_nil))) rfl rfl rfl ?_
            refine aops_eff (w_not rfl) rfl rfl rfl ?_
            refine aops_eff (eff_move rfl) rfl rfl rfl ?_
            rcases cb h with ⟨q9, h⟩ | ⟨q9, h⟩
            · refine aops_lit 42 rfl q9 ?_
              refine aops_skip rfl rfl ?_
              refine aops_skip rfl rfl ?_
              refine aops_skip rfl rfl ?_
              refine aops_skip rfl rfl ?_
              refine aops_skip rfl rfl ?_
              refine aops_skip rfl rfl ?_
              refine aops_skip rfl rfl ?_
              refine aops_skip rfl rfl ?_
              refine aops_skip rfl rfl ?_
              refine aops_skip rfl rfl ?_
              refine aops_skip rfl rfl ?_
              refine aops_skip rfl rfl ?_
              refine aops_skip rfl rfl ?_
              refine aops_skip rfl rfl ?_
              refine aops_skip rfl rfl ?_
              refine aops_skip rfl rfl ?_
              refine aops_skip rfl rfl ?_
              refine aops_eff (eff_pick rfl rfl) rfl rfl rfl ?_
              refine aops_eff (eff_move rfl) rfl rfl rfl ?_
              refine aops_skip rfl rfl ?_
              refine aops_skip rfl rfl ?_
              refine aops_skip rfl rfl ?_
              refine aops_skip rfl rfl ?_
              refine aops_skip rfl rfl ?_
              refine aops_skip rfl rfl ?_
              refine aops_skip rfl rfl ?_
              refine aops_skip rfl rfl ?_
              refine aops_skip rfl rfl ?_
              refine aops_skip rfl rfl ?_
              refine aops_skip rfl rfl ?_
              refine aops_skip rfl rfl ?_
              refine aops_skip rfl rfl ?_
              refine aops_skip rfl rfl ?_
              refine aops_skip rfl rfl ?_
              refine aops_skip rfl rfl ?_
              refine aops_skip rfl rfl ?_
              refine aops_eff (eff_pick rfl rfl) rfl rfl rfl ?_
              refine aops_nil ?_
              refine ⟨by kernel_rfl, ?_⟩
              refine then_n ?_
              refine ac_ent (t := mkS [(1, .ptr 0 0 0), (3, .int x1), (79, .bl true)] [(0, ⟨6, [[.int a0.p, .int a0.q.n, .list 1 (List.map eI a0.q.src), .list 1 (List.map eI a0.q.tgt), .list 1 (List.map eI a0.dims), .list 3 (List.map eM a0.maps)]]⟩)] 1 [1, 2, 3, 4, 5, 6, 7, 8, 9, 10, 11, 12, 13, 14]) (ent_mk (σ := sg [(0, 0)]) ⟨⟨_, rfl, ⟨rfl, rfl, rfl, rfl⟩⟩, ⟨_, rfl, rfl⟩, ⟨_, rfl, rfl⟩, trivial⟩ ⟨⟨_, rfl, rfl, .inl ⟨rfl, plain_of rfl⟩⟩, rfl, trivial⟩ rfl) ?_
              refine ac_condT rfl rfl ?_
              refine ac_seq ?_
              refine ac_region ?_
              refine aops_eff (eff_assign rfl) rfl rfl rfl ?_
              refine aops_nil ?_
              refine then_n ?_
              refine ac_ret ?_
              refine block_ret ?_
              refine then_ret ?_
              refine then_ret ?_
              obtain rfl := so h
              exact ⟨_, rfl, rfl, ret_mk rfl rfl rfl (fz_bl rfl)⟩
            · refine aops_lit 42 rfl q9 ?_
              refine aops_eff (w_field_ptr TT_ok rfl rfl rfl rfl rfl rfl rfl) rfl rfl rfl ?_
              refine aops_eff (w_load_ptr TT_ok rfl rfl rfl rfl rfl rfl rfl) rfl rfl rfl ?_
              refine aops_eff (eff_move rfl) rfl rfl rfl ?_
              obtain ⟨v10, hv10, h⟩ := ob h
              refine aops_eff (x_at_list TT_ok hv10 rfl rfl rfl rfl rfl rfl) rfl rfl rfl ?_
              refine aops_eff (w_field_ref TT_ok rfl rfl rfl rfl rfl rfl) rfl rfl rfl ?_
              refine aops_eff (w_load_ref TT_ok rfl rfl rfl rfl rfl rfl) rfl rfl rfl ?_
              refine aops_eff (w_field_ptr TT_ok rfl rfl rfl rfl rfl rfl rfl) rfl rfl rfl ?_
              refine aops_eff (w_load_ptr TT_ok rfl rfl rfl rfl rfl rfl rfl) rfl rfl rfl ?_
              refine aops_eff (w_field_ptr TT_ok rfl rfl rfl rfl rfl rfl rfl) rfl rfl rfl ?_
              refine aops_eff (w_field_ptr TT_ok rfl rfl rfl rfl rfl rfl rfl) rfl rfl rfl ?_
              refine aops_eff (w_load_ptr TT_ok rfl rfl rfl rfl rfl rfl rfl) rfl rfl rfl ?_
              refine aops_eff (eff_move rfl) rfl rfl rfl ?_
              obtain ⟨v11, hv11, h⟩ := ob h
              refine aops_eff (x_at_list TT_ok hv11 rfl rfl rfl rfl rfl rfl) rfl rfl rfl ?_
              refine aops_eff (w_load_ref TT_ok rfl rfl rfl rfl rfl rfl) rfl rfl rfl ?_
              obtain ⟨v12, hv12, h⟩ := ob h
              refine aops_eff (x_at_list TT_ok hv12 rfl rfl rfl rfl rfl rfl) rfl rfl rfl ?_
              refine aops_eff (w_load_ref TT_ok rfl rfl rfl rfl rfl rfl) rfl rfl rfl ?_
              refine aops_eff (w_cmp rfl rfl rfl) rfl rfl rfl ?_
              refine aops_eff (eff_pick rfl rfl) rfl rfl rfl ?_
              refine aops_eff (eff_move rfl) rfl rfl rfl ?_
              rcases cb h with ⟨q13, h⟩ | ⟨q13, h⟩
              · refine aops_lit 61 rfl q13 ?_
                refine aops_skip rfl rfl ?_
                refine aops_skip rfl rfl ?_
                refine aops_skip rfl rfl ?_
                refine aops_skip rfl rfl ?_
                refine aops_skip rfl rfl ?_
                refine aops_skip rfl rfl ?_
                refine aops_skip rfl rfl ?_
                refine aops_skip rfl rfl ?_
                refine aops_skip rfl rfl ?_
                refine aops_skip rfl rfl ?_
                refine aops_skip rfl rfl ?_
                refine aops_skip rfl rfl ?_
                refine aops_skip rfl rfl ?_
                refine aops_skip rfl rfl ?_
                refine aops_skip rfl rfl ?_
                refine aops_skip rfl rfl ?_
                refine aops_skip rfl rfl ?_
                refine aops_eff (eff_pick rfl rfl) rfl rfl rfl ?_
                refine aops_nil ?_
                refine ⟨by kernel_rfl, ?_⟩
                refine then_n ?_
                refine ac_ent (t := mkS [(1, .ptr 0 0 0), (3, .int x1), (79, .bl true)] [(0, ⟨6, [[.int a0.p, .int a0.q.n, .list 1 (List.map eI a0.q.src), .list 1 (List.map eI a0.q.tgt), .list 1 (List.map eI a0.dims), .list 3 (List.map eM a0.maps)]]⟩)] 1 [1, 2, 3, 4, 5, 6, 7, 8, 9, 10, 11, 12, 13, 14]) (ent_mk (σ := sg [(0, 0)]) ⟨⟨_, rfl, ⟨rfl, rfl, rfl, rfl⟩⟩, ⟨_, rfl, rfl⟩, ⟨_, rfl, rfl⟩, trivial⟩ ⟨⟨_, rfl, rfl, .inl ⟨rfl, plain_of rfl⟩⟩, rfl, trivial⟩ rfl) ?_
                refine ac_condT rfl rfl ?_
                refine ac_seq ?_
                refine ac_region ?_
                refine aops_eff (eff_assign rfl) rfl rfl rfl ?_
                refine aops_nil ?_
                refine then_n ?_
                refine ac_ret ?_
                refine block_ret ?_
                refine then_ret ?_
                refine then_ret ?_
                obtain rfl := so h
                exact ⟨_, rfl, rfl, ret_mk rfl rfl rfl (fz_bl rfl)⟩
              · refine aops_lit 61 rfl q13 ?_
                refine aops_eff (w_field_ptr TT_ok rfl rfl rfl rfl rfl rfl rfl) rfl rfl rfl ?_
                refine aops_eff (w_load_ptr TT_ok rfl rfl rfl rfl rfl rfl rfl) rfl rfl rfl ?_
                refine aops_eff (eff_move rfl) rfl rfl rfl ?_
                obtain ⟨v14, hv14, h⟩ := ob h
                refine aops_eff (x_at_list TT_ok hv14 rfl rfl rfl rfl rfl rfl) rfl rfl rfl ?_
                refine aops_eff (w_field_ref TT_ok rfl rfl rfl rfl rfl rfl) rfl rfl rfl ?_
                refine aops_eff (w_load_ref TT_ok rfl rfl rfl rfl rfl rfl) rfl rfl rfl ?_
                refine aops_eff (w_field_ptr TT_ok rfl rfl rfl rfl rfl rfl rfl) rfl rfl rfl ?_
                refine aops_eff (w_load_ptr TT_ok rfl rfl rfl rfl rfl rfl rfl) rfl rfl rfl ?_
                refine aops_eff (w_field_ptr TT_ok rfl rfl rfl rfl rfl rfl rfl) rfl rfl rfl ?_
                refine aops_eff (w_field_ptr TT_ok rfl rfl rfl rfl rfl rfl rfl) rfl rfl rfl ?_
                refine aops_eff (w_load_ptr TT_ok rfl rfl rfl rfl rfl rfl rfl) rfl rfl rfl ?_
                refine aops_eff (eff_move rfl) rfl rfl rfl ?_
                obtain ⟨v15, hv15, h⟩ := ob h
                refine aops_eff (x_at_list TT_ok hv15 rfl rfl rfl rfl rfl rfl) rfl rfl rfl ?_
                refine aops_eff (w_load_ref TT_ok rfl rfl rfl rfl rfl rfl) rfl rfl rfl ?_
                obtain ⟨v16, hv16, h⟩ := ob h
                refine aops_eff (x_at_list TT_ok hv16 rfl rfl rfl rfl rfl rfl) rfl rfl rfl ?_
                refine aops_eff (w_load_ref TT_ok rfl rfl rfl rfl rfl rfl) rfl rfl rfl ?_
                refine aops_eff (w_cmp rfl rfl rfl) rfl rfl rfl ?_
                refine aops_eff (eff_pick rfl rfl) rfl rfl rfl ?_
                refine aops_nil ?_
                refine ⟨by kernel_rfl, ?_⟩
                refine then_n ?_
                refine ac_ent (t := mkS [(1, .ptr 0 0 0), (3, .int x1), (79, .bl (!decide (v14.rows = v16)))] [(0, ⟨6, [[.int a0.p, .int a0.q.n, .list 1 (List.map eI a0.q.src), .list 1 (List.map eI a0.q.tgt), .list 1 (List.map eI a0.dims), .list 3 (List.map eM a0.maps)]]⟩)] 1 [1, 2, 3, 4, 5, 6, 7, 8, 9, 10, 11, 12, 13, 14]) (ent_mk (σ := sg [(0, 0)]) ⟨⟨_, rfl, ⟨rfl, rfl, rfl, rfl⟩⟩, ⟨_, rfl, rfl⟩, ⟨_, rfl, rfl⟩, trivial⟩ ⟨⟨_, rfl, rfl, .inl ⟨rfl, plain_of rfl⟩⟩, rfl, trivial⟩ rfl) ?_
                rcases cb h with ⟨q17, h⟩ | ⟨q17, h⟩
                · refine ac_condT rfl q17 ?_
                  refine ac_seq ?_
                  refine ac_region ?_
                  refine aops_eff (eff_assign rfl) rfl rfl rfl ?_
                  refine aops_nil ?_
                  refine then_n ?_
                  refine ac_ret ?_
                  refine block_ret ?_
                  refine then_ret ?_
                  refine then_ret ?_
                  obtain rfl := so h
                  exact ⟨_, rfl, rfl, ret_mk rfl rfl rfl (fz_bl rfl)⟩
                · refine ac_condF rfl q17 ?_
                  refine ac_skip ?_
                  refine block_n ?_
                  refine then_n ?_
                  refine ac_region ?_
                  refine aops_eff (eff_move rfl) rfl rfl rfl ?_
                  refine aops_eff (x_add rfl rfl) rfl rfl rfl ?_
                  refine aops_eff (eff_assign rfl) rfl rfl rfl ?_
                  refine aops_nil ?_
                  refine then_n ?_
                  obtain rfl := so h
                  exact ⟨_, rfl, (ent_mk (σ := sg [(0, 0)]) ⟨⟨_, rfl, ⟨rfl, rfl, rfl, rfl⟩⟩, ⟨_, rfl, rfl⟩, trivial⟩ ⟨⟨_, rfl, rfl, .inl ⟨rfl, plain_of rfl⟩⟩, rfl, trivial⟩ rfl)⟩
          · refine ac_condF rfl q6 ?_
            refine ac_exit ?_
            refine then_exit ?_
            refine then_exit ?_
            obtain rfl := so h
            exact ⟨_, rfl, rfl, (ent_mk (σ := sg []) trivial trivial rfl)⟩
        · intro e t hX
          rcases y18 with y19 | y20
          · obtain ⟨rfl, hent⟩ := hX
            refine block_here ?_
            refine then_n ?_
            refine ac_ent hent ?_
            refine ac_seq ?_
            refine ac_region ?_
            refine aops_eff (eff_assign rfl) rfl rfl rfl ?_
            refine aops_nil ?_
            refine then_n ?_
            refine ac_ret ?_
            obtain rfl := so h
            exact ret_mk rfl rfl rfl (fz_bl rfl)
          · obtain ⟨rfl, hent⟩ := hX
            refine block_ret ?_
            refine then_ret ?_
            obtain rfl := so h
            exact hent

noncomputable def m_spec_EqualQuivers (a0 : Qv) (a1 : Qv) : Option Bool :=
  bif decide (a0.n = a1.n) then
    (Option.bind (m_spec_l6Same a0.src a1.src) fun v2 =>
    bif v2 then
      (Option.bind (m_spec_l6Same a0.tgt a1.tgt) fun v4 =>
      some (v4))
    else
      (some (false)))
  else
    (some (false))

theorem c_spec_EqualQuivers (a0 : Qv) (a1 : Qv) (r : Bool) (h : m_spec_EqualQuivers a0 a1 = some r) : HasC Try.prog 48 [.agg (eQ a0), .agg (eQ a1)] (.bl r) := by
  refine hasC_mk TT_ok (rvs := [.tmp 4]) (ns := [0, 1, 2, 3, 4, 5, 6, 7, 8, 9, 10, 11, 12, 13]) Try.func48 rfl rfl Try.ntmps48 rfl rfl rfl ?_
  refine ac_seq ?_
  refine ac_region ?_
  refine aops_eff (w_box rfl rfl rfl rfl) rfl rfl rfl ?_
  refine aops_eff (w_box rfl rfl rfl rfl) rfl rfl rfl ?_
  refine aops_eff (eff_assign rfl) rfl rfl rfl ?_
  refine aops_nil ?_
  refine then_n ?_
  refine ac_seq ?_
  refine ac_region ?_
  refine aops_eff (w_field_ptr TT_ok rfl rfl rfl rfl rfl rfl rfl) rfl rfl rfl ?_
  refine aops_eff (w_load_ptr TT_ok rfl rfl rfl rfl rfl rfl rfl) rfl rfl rfl ?_
  refine aops_eff (w_field_ptr TT_ok rfl rfl rfl rfl rfl rfl rfl) rfl rfl rfl ?_
  refine aops_eff (w_load_ptr TT_ok rfl rfl rfl rfl rfl rfl rfl) rfl rfl rfl ?_
  refine aops_eff (w_cmp rfl rfl rfl) rfl rfl rfl ?_
  refine aops_eff (eff_move rfl) rfl rfl rfl ?_
  rcases cb h with ⟨q1, h⟩ | ⟨q1, h⟩
  · refine aops_lit 10 rfl q1 ?_
    refine aops_eff (w_field_ptr TT_ok rfl rfl rfl rfl rfl rfl rfl) rfl rfl rfl ?_
    refine aops_eff (w_load_ptr TT_ok rfl rfl rfl rfl rfl rfl rfl) rfl rfl rfl ?_
    refine aops_eff (w_field_ptr TT_ok rfl rfl rfl rfl rfl rfl rfl) rfl rfl rfl ?_
    refine aops_eff (w_load_ptr TT_ok rfl rfl rfl rfl rfl rfl rfl) rfl rfl rfl ?_
    obtain ⟨v2, hv2, h⟩ := ob h
    refine aops_eff (w_call0s (c_spec_l6Same a0.src a1.src v2 hv2) rfl (va_cons (va_same rfl) (va_cons (va_same rfl) va_nil))) rfl rfl rfl ?_
    refine aops_eff (eff_pick rfl rfl) rfl rfl rfl ?_
    refine aops_eff (eff_move rfl) rfl rfl rfl ?_
    rcases cb h with ⟨q3, h⟩ | ⟨q3, h⟩
    · refine aops_lit 17 rfl q3 ?_
      refine aops_eff (w_field_ptr TT_ok rfl rfl rfl rfl rfl rfl rfl) rfl rfl rfl ?_
      refine aops_eff (w_load_ptr TT_ok rfl rfl rfl rfl rfl rfl rfl) rfl rfl rfl ?_
      refine aops_eff (w_field_ptr TT_ok rfl rfl rfl rfl rfl rfl rfl) rfl rfl rfl ?_
      refine aops_eff (w_load_ptr TT_ok rfl rfl rfl rfl rfl rfl rfl) rfl rfl rfl ?_
      obtain ⟨v4, hv4, h⟩ := ob h
      refine aops_eff (w_call0s (c_spec_l6Same a0.tgt a1.tgt v4 hv4) rfl (va_cons (va_same rfl) (va_cons (va_same rfl) va_nil))) rfl rfl rfl ?_
      refine aops_eff (eff_pick rfl rfl) rfl rfl rfl ?_
      refine aops_eff (eff_assign rfl) rfl rfl rfl ?_
      refine aops_nil ?_
      refine then_n ?_
      refine ac_ent (t := mkS [(4, .bl v4)] [] 2 [2, 3, 4, 5, 6, 7, 8, 9, 10, 11, 12, 13, 14, 15]) (ent_mk (σ := sg []) ⟨⟨_, rfl, rfl⟩, trivial⟩ trivial rfl) ?_
      refine ac_ret ?_
      obtain rfl := so h
      exact ret_mk rfl rfl rfl (fz_bl rfl)
    · refine aops_lit 17 rfl q3 ?_
      refine aops_skip rfl rfl ?_
      refine aops_skip rfl rfl ?_
      refine aops_skip rfl rfl ?_
      refine aops_skip rfl rfl ?_
      refine aops_skip rfl rfl ?_
      refine aops_eff (eff_pick rfl rfl) rfl rfl rfl ?_
      refine aops_eff (eff_assign rfl) rfl rfl rfl ?_
      refine aops_nil ?_
      refine then_n ?_
      refine ac_ent (t := mkS [(4, .bl false)] [] 2 [2, 3, 4, 5, 6, 7, 8, 9, 10, 11, 12, 13, 14, 15]) (ent_mk (σ := sg []) ⟨⟨_, rfl, rfl⟩, trivial⟩ trivial rfl) ?_
      refine ac_ret ?_
      obtain rfl := so h
      exact ret_mk rfl rfl rfl (fz_bl rfl)
  · refine aops_lit 10 rfl q1 ?_
    refine aops_skip rfl rfl ?_
    refine aops_skip rfl rfl ?_
    refine aops_skip rfl rfl ?_
    refine aops_skip rfl rfl ?_
    refine aops_skip rfl rfl ?_
    refine aops_eff (eff_pick rfl rfl) rfl rfl rfl ?_
    refine aops_eff (eff_move rfl) rfl rfl rfl ?_
    refine aops_skip rfl rfl ?_
    refine aops_skip rfl rfl ?_
    refine aops_skip rfl rfl ?_
    refine aops_skip rfl rfl ?_
    refine aops_skip rfl rfl ?_
    refine aops_eff (eff_pick rfl rfl) rfl rfl rfl ?_
    refine aops_eff (eff_assign rfl) rfl rfl rfl ?_
    refine aops_nil ?_
    refine then_n ?_
    refine ac_ent (t := mkS [(4, .bl false)] [] 2 [2, 3, 4, 5, 6, 7, 8, 9, 10, 11, 12, 13, 14, 15]) (ent_mk (σ := sg []) ⟨⟨_, rfl, rfl⟩, trivial⟩ trivial rfl) ?_
    refine ac_ret ?_
    obtain rfl := so h
    exact ret_mk rfl rfl rfl (fz_bl rfl)

noncomputable def m_impl_EqualQuivers (a0 : Qv) (a1 : Qv) : Option Bool :=
  bif decide (a0.n = a1.n) then
    (Option.bind (m_slices_Equal_Lint_int a0.src a1.src) fun v2 =>
    bif v2 then
      (Option.bind (m_slices_Equal_Lint_int a0.tgt a1.tgt) fun v4 =>
      some (v4))
    else
      (some (false)))
  else
    (some (false))

theorem c_impl_EqualQuivers (a0 : Qv) (a1 : Qv) (r : Bool) (h : m_impl_EqualQuivers a0 a1 = some r) : HasC Try.prog 52 [.agg (eQ a0), .agg (eQ a1)] (.bl r) := by
  refine hasC_mk TT_ok (rvs := [.tmp 4]) (ns := [0, 1, 2, 3, 4, 5, 6, 7, 8, 9, 10, 11, 12, 13]) Try.func52 rfl rfl Try.ntmps52 rfl rfl rfl ?_
  refine ac_seq ?_
  refine ac_region ?_
  refine aops_eff (w_box rfl rfl rfl rfl) rfl rfl rfl ?_
  refine aops_eff (w_box rfl rfl rfl rfl) rfl rfl rfl ?_
  refine aops_eff (eff_assign rfl) rfl rfl rfl ?_
  refine aops_nil ?_
  refine then_n ?_
  refine ac_seq ?_
  refine ac_region ?_
  refine aops_eff (w_field_ptr TT_ok rfl rfl rfl rfl rfl rfl rfl) rfl rfl rfl ?_
  refine aops_eff (w_load_ptr TT_ok rfl rfl rfl rfl rfl rfl rfl) rfl rfl rfl ?_
  refine aops_eff (w_field_ptr TT_ok rfl rfl rfl rfl rfl rfl rfl) rfl rfl rfl ?_
  refine aops_eff (w_load_ptr TT_ok rfl rfl rfl rfl rfl rfl rfl) rfl rfl rfl ?_
  refine aops_eff (w_cmp rfl rfl rfl) rfl rfl rfl ?_
  refine aops_eff (eff_move rfl) rfl rfl rfl ?_
  rcases cb h with ⟨q1, h⟩ | ⟨q1, h⟩
  · refine aops_lit 10 rfl q1 ?_
    refine aops_eff (w_field_ptr TT_ok rfl rfl rfl rfl rfl rfl rfl) rfl rfl rfl ?_
    refine aops_eff (w_load_ptr TT_ok rfl rfl rfl rfl rfl rfl rfl) rfl rfl rfl ?_
    refine aops_eff (w_field_ptr TT_ok rfl rfl rfl rfl rfl rfl rfl) rfl rfl rfl ?_
    refine aops_eff (w_load_ptr TT_ok rfl rfl rfl rfl rfl rfl rfl) rfl rfl rfl ?_
    obtain ⟨v2, hv2, h⟩ := ob h
    refine aops_eff (w_call0s (c_slices_Equal_Lint_int a0.src a1.src v2 hv2) rfl (va_cons (va_same rfl) (va_cons (va_same rfl) va_nil))) rfl rfl rfl ?_
    refine aops_eff (eff_pick rfl rfl) rfl rfl rfl ?_
    refine aops_eff (eff_move rfl) rfl rfl rfl ?_
    rcases cb h with ⟨q3, h⟩ | ⟨q3, h⟩
    · refine aops_lit 17 rfl q3 ?_
      refine aops_eff (w_field_ptr TT_ok rfl rfl rfl rfl rfl rfl rfl) rfl rfl rfl ?_
      refine aops_eff (w_load_ptr TT_ok rfl rfl rfl rfl rfl rfl rfl) rfl rfl rfl ?_
      refine aops_eff (w_field_ptr TT_ok rfl rfl rfl rfl rfl rfl rfl) rfl rfl rfl ?_
      refine aops_eff (w_load_ptr TT_ok rfl rfl rfl rfl rfl rfl rfl) rfl rfl rfl ?_
      obtain ⟨v4, hv4, h⟩ := ob h
      refine aops_eff (w_call0s (c_slices_Equal_Lint_int a0.tgt a1.tgt v4 hv4) rfl (va_cons (va_same rfl) (va_cons (va_same rfl) va_nil))) rfl rfl rfl ?_
      refine aops_eff (eff_pick rfl rfl) rfl rfl rfl ?_
      refine aops_eff (eff_assign rfl) rfl rfl rfl ?_
      refine aops_nil ?_
      refine then_n ?_
      refine ac_ent (t := mkS [(4, .bl v4)] [] 2 [2, 3, 4, 5, 6, 7, 8, 9, 10, 11, 12, 13, 14, 15]) (ent_mk (σ := sg []) ⟨⟨_, rfl, rfl⟩, trivial⟩ trivial rfl) ?_
      refine ac_ret ?_
      obtain rfl := so h
      exact ret_mk rfl rfl rfl (fz_bl rfl)
    · refine aops_lit 17 rfl q3 ?_
      refine aops_skip rfl rfl ?_
      refine aops_skip rfl rfl ?_
      refine aops_skip rfl rfl ?_
      refine aops_skip rfl rfl ?_
      refine aops_skip rfl rfl ?_
      refine aops_eff (eff_pick rfl rfl) rfl rfl rfl ?_
      refine aops_eff (eff_assign rfl) rfl rfl rfl ?_
      refine aops_nil ?_
      refine then_n ?_
      refine ac_ent (t := mkS [(4, .bl false)] [] 2 [2, 3, 4, 5, 6, 7, 8, 9, 10, 11, 12, 13, 14, 15]) (ent_mk (σ := sg []) ⟨⟨_, rfl, rfl⟩, trivial⟩ trivial rfl) ?_
      refine ac_ret ?_
      obtain rfl := so h
      exact ret_mk rfl rfl rfl (fz_bl rfl)
  · refine aops_lit 10 rfl q1 ?_
    refine aops_skip rfl rfl ?_
    refine aops_skip rfl rfl ?_
    refine aops_skip rfl rfl ?_
    refine aops_skip rfl rfl ?_
    refine aops_skip rfl rfl ?_
    refine aops_eff (eff_pick rfl rfl) rfl rfl rfl ?_
    refine aops_eff (eff_move rfl) rfl rfl rfl ?_
    refine aops_skip rfl rfl ?_
    refine aops_skip rfl rfl ?_
    refine aops_skip rfl rfl ?_
    refine aops_skip rfl rfl ?_
    refine aops_skip rfl rfl ?_
    refine aops_eff (eff_pick rfl rfl) rfl rfl rfl ?_
    refine aops_eff (eff_assign rfl) rfl rfl rfl ?_
    refine aops_nil ?_
    refine then_n ?_
    refine ac_ent (t := mkS [(4, .bl false)] [] 2 [2, 3, 4, 5, 6, 7, 8, 9, 10, 11, 12, 13, 14, 15]) (ent_mk (σ := sg []) ⟨⟨_, rfl, rfl⟩, trivial⟩ trivial rfl) ?_
    refine ac_ret ?_
    obtain rfl := so h
    exact ret_mk rfl rfl rfl (fz_bl rfl)

end Go.Proofs.Ytjfcjkeghigipaa
end

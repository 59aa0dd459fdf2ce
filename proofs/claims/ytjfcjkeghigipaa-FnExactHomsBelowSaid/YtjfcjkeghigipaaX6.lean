/-
  Functions that hand back a part of an argument's memory: the contract, its use at a call; rows of a matrix that is data.
-/
import Derived.Test.YtjfcjkeghigipaaX5
import Derived.Lib.AppendZerosOnto
namespace Go.Proofs.Ytjfcjkeghigipaa
open Go.RowKit
set_option linter.unusedVariables false
set_option maxRecDepth 10000

/-- The call of f with the data ds returns r, in the memory of ds. -/
structure HasV (P : Program) (f : FuncId) (ds : List AV) (r : AV) : Prop where
  enters : Enters P f
  calls : ∀ (w : World) (args : Array Value) (S : List Nat), RepVs w ds args.toList S → Calls P f args w fun e w' => ∃ v S', e = .returned v ∧ Below w.heap.size w w' ∧ RepD w' r v S' ∧ ∀ x ∈ S', x ∈ S

theorem rep1_data {w : World} {h : Hp} {u : Us} {ν : Nu} {d : AV} {v : Value} (r : Rep1 w h u ν d v) (ok : plainD d = true) : ∃ S, RepD w d v S ∧ ∀ x ∈ S, Free h ν x := by
  cases d <;> simp only [plainD, Bool.false_eq_true] at ok <;> simp only [Rep1] at r
  · exact ⟨[], by rw [r.1]; exact repD_sc r.2, by simp⟩
  · exact r
  · exact r
theorem rep1s_data {w : World} {h : Hp} {u : Us} {ν : Nu} : ∀ {ds : List AV} {vs : List Value}, All2 (Rep1 w h u ν) ds vs → ds.all plainD = true → ∃ S, RepVs w ds vs S ∧ ∀ x ∈ S, Free h ν x
  | [], vs, r, _ => by simp only [All2] at r; subst r; exact ⟨[], by simp [RepVs], by simp⟩
  | d :: ds, vs, ⟨v, q, e, r1, r2⟩, ok => by
    subst e
    simp only [List.all_cons, Bool.and_eq_true] at ok
    obtain ⟨S1, a1, a2⟩ := rep1_data r1 ok.1
    obtain ⟨S2, b1, b2⟩ := rep1s_data r2 ok.2
    refine ⟨S1 ++ S2, by simp only [RepVs]; exact ⟨v, q, S1, S2, rfl, rfl, a1, b1⟩, fun x hx => ?_⟩
    rcases List.mem_append.1 hx with h | h
    · exact a2 x h
    · exact b2 x h
theorem repA_data {w : World} {h : Hp} {u : Us} {ν : Nu} {d : AV} {v : Value} (r : RepA w h u ν d v) (ok : okArg d = true) : ∃ S, RepD w d v S ∧ ∀ x ∈ S, Free h ν x := by
  cases d <;> simp only [okArg, plainD, Bool.false_eq_true] at ok <;> simp only [RepA, RepB] at r
  · exact rep1_data r rfl
  · exact rep1_data r rfl
  · exact rep1_data r rfl
  · obtain ⟨vs, rfl, r⟩ := r
    obtain ⟨S, a, b⟩ := rep1s_data r ok
    exact ⟨S, by simp only [RepD]; exact ⟨vs, rfl, a⟩, b⟩
  · obtain ⟨vs, rfl, r⟩ := r
    obtain ⟨S, a, b⟩ := rep1s_data r ok
    exact ⟨S, by simp only [RepD]; exact ⟨vs, rfl, a⟩, b⟩
theorem repAs_data {w : World} {h : Hp} {u : Us} {ν : Nu} : ∀ {ds : List AV} {vs : List Value}, All2 (RepA w h u ν) ds vs → ds.all okArg = true → ∃ S, RepVs w ds vs S ∧ ∀ x ∈ S, Free h ν x
  | [], vs, r, _ => by simp only [All2] at r; subst r; exact ⟨[], by simp [RepVs], by simp⟩
  | d :: ds, vs, ⟨v, q, e, r1, r2⟩, ok => by
    subst e
    simp only [List.all_cons, Bool.and_eq_true] at ok
    obtain ⟨S1, a1, a2⟩ := repA_data r1 ok.1
    obtain ⟨S2, b1, b2⟩ := repAs_data r2 ok.2
    refine ⟨S1 ++ S2, by simp only [RepVs]; exact ⟨v, q, S1, S2, rfl, rfl, a1, b1⟩, fun x hx => ?_⟩
    rcases List.mem_append.1 hx with h | h
    · exact a2 x h
    · exact b2 x h
section
variable {P : Program} {dst : Option Tmp} {ty : TypeId} {pos : String} {aft : Array Edge} {g : Option (Nat × Bool)} {ins : Operand → Option AV} {hp : Hp}
theorem eff_hasV {fo : Operand} {xs : Array Operand} {ats : Array TypeId} {f : FuncId} {ds : List AV} {k : Nat} {es : List (List AV)} (hc : HasV P f ds (.list k es)) (hf : ins fo = some (.fn f [])) (hx : evs ins xs.toList = some ds) (hok : ds.all okArg = true) :
    AEff P ⟨dst, .call ⟨.value fo, xs, ats⟩, ty, pos, aft, g⟩ ins hp ⟨.list k es, [], [], []⟩ := by
  refine ⟨fun C s ν a w Q K hi' ht hnw hd hs hK => ?_⟩
  have h1 := hs.ev ((hi' fo (by simp [Op.operands, Call.operands])).trans hf)
  simp only [RepA, RepB] at h1
  obtain ⟨cv, h1, h2⟩ := h1
  simp only [All2] at h2
  subst h2
  have h3 := evs_rep hs (xs := xs.toList) (fun y hy => hi' y (by simp [Op.operands, Call.operands]; exact .inr (Array.mem_toList_iff.1 hy))) hx
  obtain ⟨S, e1, e2⟩ := repAs_data h3 hok
  have hcall := hc.calls w (xs.map a.eval) S (by simpa using e1)
  unfold Oper.wp
  have hex : (execOp a.eval ⟨dst, .call ⟨.value fo, xs, ats⟩, ty, pos, aft, g⟩).run P w = .ok (.enter f (xs.map a.eval)) w := by
    have : execOp a.eval ⟨dst, .call ⟨.value fo, xs, ats⟩, ty, pos, aft, g⟩ = callFunc f (xs.map a.eval) := by
      simp [execOp, resolve, h1, Deferred.ofValue, invoke]
    rw [this]
    exact hc.enters _ _
  rw [hex]
  simp only [Oper.upon]
  refine hcall.mono fun e w' ⟨v, S', he, hb, hr, hsub⟩ => ?_
  subst he
  simp only
  obtain ⟨φ, hh⟩ := hs.heap
  have ext : Ext w s.heap s.used ν w' s.heap s.used ν := ⟨fun _ h => h, fun _ blk _ h => ⟨blk, h, rfl, rfl, rfl⟩, fun x hx h => ⟨hb.block x hx, h⟩⟩
  refine hK ν _ _ (hs.step hd (s' := s.app dst _) ext (hb.mono hs.base) ⟨φ, fun b blk hbl => ?_, hh.apart⟩ rfl ?_)
  · obtain ⟨g1, g2, g3, g4⟩ := hh.blk b blk hbl
    exact ⟨g1, g2.ext ext rfl (fun y hy => hb.block y (g2.lt y hy)), g3, g4⟩
  · exact ⟨S', hr, fun x hx => e2 x (hsub x hx)⟩
/-- A slice as a bare value. -/
theorem x_slice_sc {T : List (Nat × Ty)} (hT : TyOk P T) {s : AState} {x : Operand} {zl zh : Operand} {t e : Nat} {y ye : Ty} {ao : Option Addr} {n c : Nat} {kl kh : IntKind} {l h : Int} (q : 0 ≤ l ∧ l ≤ h ∧ h ≤ n ∧ n ≤ c) (hx : s.ev x = some (.sc (.slice ao n c))) (hlo : s.ev zl = some (.sc (.int kl l))) (hhi : s.ev zh = some (.sc (.int kh h))) (hy : tyOf T t = some y) (hd : y.desc = .slice e) (hye : tyOf T e = some ye) :
    AEff P ⟨dst, .slice t x (some zl) (some zh) none, ty, pos, aft, g⟩ s.ev s.heap ⟨.sc (.slice (if c = l.toNat then ao else ao.map (·.add (l.toNat * ye.size))) (h.toNat - l.toNat) (c - l.toNat)), [], [], []⟩ := by
  refine AEff.pure fun C s' ν a w hi' ht hs => ?_
  have h1 := hs.ev ((hi' x (by simp [Op.operands])).trans hx)
  have h2 := hs.ev ((hi' zl (by simp [Op.operands])).trans hlo)
  have h3 := hs.ev ((hi' zh (by simp [Op.operands])).trans hhi)
  simp only [RepA, RepB, Rep1] at h1 h2 h3
  obtain ⟨i1, z1, d1, y1⟩ := hT.is hy
  obtain ⟨i2, z2, d2, y2⟩ := hT.is hye
  have hsb := sliceBounds_run (P := P) (len := n) (cap := c) (lo := some (.int kl l)) (hi := some (.int kh h)) w (.inr ⟨kl, rfl⟩) (.inr ⟨kh, rfl⟩) q.1 q.2.1 q.2.2.1 q.2.2.2
  refine ⟨_, ?_, repA_sc rfl⟩
  simp only [execOp, Instr.sliceAt, Instr.slice, h1.1, h2.1, h3.1, Sem.run_bind, run_und (y1.slice hd), Result.andThen_ok, run_size y2.info, y2.size, Option.map_none, Option.map_some]
  rw [hsb]
  by_cases e : c = l.toNat <;> simp [e]
end

theorem part_data {w : World} {k n c : Nat} {es : List (List AV)} {ao : Option Addr} {S : List Nat} {l h : Int} (r : RepD w (.list k es) (.slice ao n c) S) (q : 0 ≤ l ∧ l ≤ h ∧ h ≤ n) : ∃ S', RepD w (.list k ((es.drop l.toNat).take (h.toNat - l.toNat))) (.slice (if c = l.toNat then ao else ao.map (·.add (l.toNat * k))) (h.toNat - l.toNat) (c - l.toNat)) S' ∧ ∀ x ∈ S', x ∈ S := by
  simp only [RepD] at r ⊢
  obtain ⟨ao', c', h3, h4, h5, h6⟩ := r
  cases h3
  have hlen : ((es.drop l.toNat).take (h.toNat - l.toNat)).length = h.toNat - l.toNat := by simp; omega
  rw [hlen]
  by_cases hz : h.toNat - l.toNat = 0
  · refine ⟨[], ⟨_, _, rfl, by omega, by omega, .inl ⟨?_, rfl⟩⟩, by simp⟩
    rw [hz]; simp
  · rcases h6 with ⟨h6, _⟩ | ⟨b, o, S', rfl, h8, rfl, h9⟩
    · have : es.length = 0 := by rw [h6]; rfl
      omega
    · rw [if_neg (by omega)]
      obtain ⟨U1, g1, g2⟩ := h9.dropT (m := l.toNat)
      obtain ⟨U2, g3, g4⟩ := g1.takeT (m := h.toNat - l.toNat)
      refine ⟨b :: U2, ⟨_, _, rfl, by omega, by omega, .inr ⟨b, o + l.toNat * k, U2, by simp [Addr.add_lit], h8, rfl, g3⟩⟩, ?_⟩
      intro y hy
      rcases List.mem_cons.1 hy with rfl | h'
      · simp
      · simp [g2 y (g4 y h')]

def rowLo (m : Mt) (i : Int) : Int := wr (i * m.cols)
def rowHi (m : Mt) (i : Int) : Int := wr (wr (i + 1) * m.cols)
def m_rowD (m : Mt) (i : Int) : Option (List Int) := bif (decide (0 ≤ rowLo m i) && (decide (rowLo m i ≤ rowHi m i) && decide (rowHi m i ≤ (m.cells.length : Int)))) then some ((m.cells.drop (rowLo m i).toNat).take ((rowHi m i).toNat - (rowLo m i).toNat)) else none
theorem c_rowV (m : Mt) (i : Int) (ao : Option Addr) (n c : Nat) (q : 0 ≤ rowLo m i ∧ rowLo m i ≤ rowHi m i ∧ rowHi m i ≤ n ∧ n ≤ c) : HasC Try.prog 143 [.agg [.int m.rows, .int m.cols, .sc (.slice ao n c)], .int i]
    (.sc (.slice (if c = (rowLo m i).toNat then ao else ao.map (·.add ((rowLo m i).toNat * 1))) ((rowHi m i).toNat - (rowLo m i).toNat) (c - (rowLo m i).toNat))) := by
  refine hasC_mk TT_ok (rvs := [.tmp 4]) (ns := [0, 1, 2, 3, 4, 5, 6, 7, 8, 9, 10, 11, 12, 13]) Try.func143 rfl rfl Try.ntmps143 rfl rfl rfl ?_
  refine ac_seq ?_
  refine ac_region ?_
  refine aops_eff (w_box rfl rfl rfl rfl) rfl rfl rfl ?_
  refine aops_eff (eff_assign rfl) rfl rfl rfl ?_
  refine aops_nil ?_
  refine then_n ?_
  refine ac_seq ?_
  refine ac_region ?_
  refine aops_eff (w_field_ptr TT_ok rfl rfl rfl rfl rfl rfl rfl) rfl rfl rfl ?_
  refine aops_eff (w_load_ptr TT_ok rfl rfl rfl rfl rfl rfl rfl) rfl rfl rfl ?_
  refine aops_eff (eff_move rfl) rfl rfl rfl ?_
  refine aops_eff (w_field_ptr TT_ok rfl rfl rfl rfl rfl rfl rfl) rfl rfl rfl ?_
  refine aops_eff (w_load_ptr TT_ok rfl rfl rfl rfl rfl rfl rfl) rfl rfl rfl ?_
  refine aops_eff (x_mul rfl rfl) rfl rfl rfl ?_
  refine aops_eff (eff_move rfl) rfl rfl rfl ?_
  refine aops_eff (x_add rfl rfl) rfl rfl rfl ?_
  refine aops_eff (w_field_ptr TT_ok rfl rfl rfl rfl rfl rfl rfl) rfl rfl rfl ?_
  refine aops_eff (w_load_ptr TT_ok rfl rfl rfl rfl rfl rfl rfl) rfl rfl rfl ?_
  refine aops_eff (x_mul rfl rfl) rfl rfl rfl ?_
  refine aops_eff (x_slice_sc TT_ok (l := rowLo m i) (h := rowHi m i) q rfl rfl rfl rfl rfl rfl) rfl rfl rfl ?_
  refine aops_eff (eff_assign rfl) rfl rfl rfl ?_
  refine aops_nil ?_
  refine then_n ?_
  refine ac_ret ?_
  exact ret_mk rfl rfl rfl (fz_sc rfl)
theorem c_rowD (m : Mt) (i : Int) (r : List Int) (h : m_rowD m i = some r) : HasV Try.prog 143 [.agg (eM m), .int i] (.list 1 (List.map eI r)) := by
  obtain ⟨q, h⟩ := cg h
  obtain rfl := so h
  simp only [Bool.and_eq_true, decide_eq_true_eq] at q
  refine ⟨Enters.mk Try.func143 (by kernel_rfl) (by kernel_rfl), fun w args S hargs => ?_⟩
  obtain ⟨args⟩ := args
  simp only [RepVs] at hargs
  obtain ⟨v, r, S1, S2, h1, rfl, h3, v2, r2, S3, S4, h4, rfl, h5, rfl, rfl⟩ := hargs
  subst h4 h1
  simp only [RepD, eM] at h3
  obtain ⟨vs, rfl, h3⟩ := h3
  simp only [RepVs] at h3
  obtain ⟨u1, r1, T1, T2, rfl, rfl, g1, u2, r3, T3, T4, rfl, rfl, g2, u3, r4, T5, T6, rfl, rfl, g3, rfl, rfl⟩ := h3
  have hu3 : ∃ ao n c, u3 = .slice ao n c ∧ n = m.cells.length ∧ n ≤ c := by
    simp only [RepD] at g3
    obtain ⟨a, c, rfl, g4, _⟩ := g3
    exact ⟨_, _, _, rfl, by simp [encI_len], g4⟩
  obtain ⟨ao, n, c, rfl, hn, hnc⟩ := hu3
  have hcall := (c_rowV m i ao n c ⟨q.1, q.2.1, by omega, hnc⟩).calls w #[.agg #[u1, u2, .slice ao n c], v2] (T1 ++ (T3 ++ ([] ++ [])) ++ (S3 ++ [])) (by
    simp only [RepVs]
    refine ⟨_, _, _, _, rfl, rfl, ?_, _, _, _, _, rfl, rfl, h5, rfl, rfl⟩
    simp only [RepD]
    refine ⟨[u1, u2, .slice ao n c], rfl, ?_⟩
    simp only [RepVs]
    exact ⟨_, _, _, _, rfl, rfl, by simpa only [RepD] using g1, _, _, _, _, rfl, rfl, by simpa only [RepD] using g2, _, _, [], [], rfl, rfl, repD_sc rfl, rfl, rfl⟩)
  refine hcall.mono fun e w' ⟨v, S', he, hb, hr, _⟩ => ?_
  simp only [ResA, ResB, ResCell] at hr
  obtain ⟨rfl, _, _⟩ := hr
  obtain ⟨U, k1, k2⟩ := part_data (l := rowLo m i) (h := rowHi m i) g3 ⟨q.1, q.2.1, by omega⟩
  refine ⟨_, U, he, hb, ?_, ?_⟩
  · have hes : ((encI m.cells).drop (rowLo m i).toNat).take ((rowHi m i).toNat - (rowLo m i).toNat) = List.map eI ((m.cells.drop (rowLo m i).toNat).take ((rowHi m i).toNat - (rowLo m i).toNat)) := by
      show ((m.cells.map eI).drop _).take _ = _
      rw [List.map_take, List.map_drop]
    rw [← hes]
    exact k1.below hb
  · intro x hx
    have := k2 x hx
    simp [this]

/-! ## a call that leaves all blocks as they are -/
def sameE (hp : Hp) (touch : List Nat) : List (Nat × Option Blk) → Prop
  | [] => True
  | (b, x) :: r => hp b = x ∧ touch.contains b = true ∧ sameE hp touch r
theorem editHp_same {hp h : Hp} {touch : List Nat} (ht : ∀ b ∈ touch, h b = hp b) : ∀ {ed : List (Nat × Option Blk)}, sameE hp touch ed → editHp ed h = h
  | [], _ => rfl
  | (b, x) :: r, ⟨h1, h2, h3⟩ => by
    funext c
    simp only [editHp]
    by_cases e : c = b
    · subst e
      rw [beq_self, cond_true, ← h1, ht c (by simpa using h2)]
    · rw [beq_ne e, cond_false, editHp_same ht h3]
theorem AEff.pureE {P : Program} {o : Oper} {ins : Operand → Option AV} {hp : Hp} {v : AV} {tc : List Nat} {ed : List (Nat × Option Blk)} (h : AEff P o ins hp ⟨v, tc, ed, []⟩) (hs : sameE hp tc ed) : AEff P o ins hp ⟨v, tc, [], []⟩ := by
  refine ⟨fun C s ν a w Q K hi ht hn hd hsim hK => h.out C s ν a w Q K hi ht hn hd hsim fun ν' a' w' hs' => hK ν' a' w' ?_⟩
  have e : s.app o.dst ⟨v, tc, ed, []⟩ = s.app o.dst ⟨v, tc, [], []⟩ := by
    unfold AState.app
    rw [editHp_same ht hs]
    rfl
  rw [← e]
  exact hs'
/-! ### Grow -/

theorem run_grow_nil {P : Program} {t tn e bytes : Nat} {size : Nat} (et : ElemTy P t e size bytes) (htn : P.underlying tn = some (.int .i64)) (hs : 0 < size) (w : World) (n : Nat) (h0 : 0 < n) (hn : n ≤ 1048576) (hb : n * bytes ≤ 140737488355328) (ty : Nat) :
    ∃ G cur, n ≤ G ∧ G ≤ maxLen ∧ cur.size = G * size ∧ (Builtin.append_ #[t, tn] ty #[.slice none 0 0, .int .i64 n]).run P w = .ok (.slice (some ⟨w.heap.size, 0, none⟩) n G) (w.drew.alloc (.cells cur e)) := by
  obtain ⟨i, z, h1, h2, h3, h4, h5⟩ := et.hi
  have hold : (Builtin.firstCells i.size 0 (.slice none 0 0)).run P w.drew = .ok ([] : List Value).toArray w.drew := run_firstCells_none w.drew i.size 0 0 0
  have h := Lib.run_append_grow_zeros w t tn ty e i z .i64 .i64 et.ht htn h1 h2 none 0 0 [] hold n h0 (by rw [h3]; exact hs) (by omega) (by omega) (by rw [h4]; omega) (growslice_fits (by omega) (by rw [h4]; simpa using hb))
  have hG := grownCap_ge w (0 + n) 0 e
  have hM := grownCap_le_maxLen w (0 + n) 0 e (by unfold maxLen; omega)
  rw [Nat.zero_add] at h hG hM
  refine ⟨grownCap w n 0 e, _, hG, hM, ?_, h⟩
  simp only [Array.size_append, List.size_toArray, List.length_nil, Nat.zero_add]
  unfold Builtin.zeroCells
  simp only [Array.size_map, Array.size_range, h5]
  rw [← Nat.add_mul]
  congr 1
  omega

set_option maxRecDepth 100000 in
set_option maxHeartbeats 1000000 in
theorem c_GrowI (n : Nat) (w : World) (hn : n ≤ 1048576) :
    Calls Try.prog 171 #[.slice none 0 0, .int .i64 n] w (Ret w fun v w' => ∃ S, Own 3 ShpI w' w.heap.size v [] S) := by
  by_cases h0 : n = 0
  · subst h0
    show Calls Try.prog 171 #[.slice none 0 0, .int .i64 0] w _
    go_enter Try.func171, Try.ntmps171
    go_wp2
    go_ret
    exact ⟨_, rfl, Below.refl _ _, [], Own.nil _ _ _ _⟩
  · have h1 : ¬ ((n : Int) < 0) := by omega
    have h4 : (n : Int) > 0 := by omega
    have key : ∀ ty, ∃ G cur, n ≤ G ∧ G ≤ maxLen ∧ cur.size = G * 1 ∧ (Builtin.append_ #[22, 3] ty #[.slice none 0 0, .int .i64 n]).run Try.prog w = .ok (.slice (some ⟨w.heap.size, 0, none⟩) n G) (w.drew.alloc (.cells cur 3)) := fun ty =>
      run_grow_nil et_I Try.underlying3 (by decide) w n (by omega) hn (by omega) ty
    obtain ⟨G, cur, hG, hM, hc, hr0⟩ := key 22
    have hG63 : G ≤ 9223372036854775807 := by unfold maxLen at hM; omega
    have HE : Hid (Own 3 ShpI (w.drew.alloc (.cells cur 3)) w.heap.size (.slice (some ⟨w.heap.size, 0, none⟩) 0 G) [] [w.heap.size] ∧ Below w.heap.size w (w.drew.alloc (.cells cur 3))) :=
      ⟨⟨[], [], World.ownsRow_made w.drew cur G (Nat.le_refl _) hM hc, ⟨rfl, rfl⟩, rfl, ⟨by simp, by simp⟩⟩, ((below_drewN 1 (Below.refl _ _) : Below w.heap.size w (w.drewN 1))).alloc (Nat.le_refl _) _⟩
    clear key hM hc
    go_enter Try.func171, Try.ntmps171
    go_wp2_with (at_builtin; refine Lib.wpList_append_run _ rfl _ _ _ _ rfl _ _ rfl rfl _ _ hr0 ?_)
    all_goals (go_ret; exact ⟨_, rfl, HE.out.2, _, HE.out.1⟩)
def m_Grow (n : Int) : Option (List Int) := bif (decide (0 ≤ n) && decide (n ≤ 1048576)) then some [] else none
theorem va_nilS {h : Hp} {k : Nat} : viewA h (.nil k) (.sc (.slice none 0 0)) := rfl
theorem c_Grow (n : Int) (r : List Int) (h : m_Grow n = some r) : HasC Try.prog 171 [.sc (.slice none 0 0), .int n] (.list 1 (List.map eI r)) := by
  obtain ⟨q, h⟩ := cg h
  obtain rfl := so h
  simp only [Bool.and_eq_true, decide_eq_true_eq] at q
  refine ⟨Enters.mk Try.func171 (by kernel_rfl) (by kernel_rfl), fun w args S hargs => ?_⟩
  obtain ⟨args⟩ := args
  simp only [RepVs, RepD] at hargs
  obtain ⟨v, r, S1, S2, h1, rfl, ⟨rfl, _, rfl⟩, v2, r2, S3, S4, rfl, rfl, ⟨rfl, _, rfl⟩, rfl, rfl⟩ := hargs
  subst h1
  have hc := c_GrowI n.toNat w (by omega)
  rw [show ((n.toNat : Nat) : Int) = n by omega] at hc
  refine hc.mono fun e w' ⟨v, he, hb, S2, ho⟩ => ?_
  obtain ⟨g1, g2⟩ := ownI_res ho
  exact ⟨v, S2, he, hb, g1, g2⟩
theorem rep_matchS {σ : Nat → Option Nat} {n : Nat} {α : Type} {e : α → List AV} {z : α} {zc : List AV} (h : All2 (matchC σ n) zc (ow e z)) (m : Nat) : All2 (All2 (matchC σ n)) (List.replicate m zc) ((List.replicate m z).map (ow e)) := by
  induction m with
  | zero => rfl
  | succ m ih => exact ⟨_, _, rfl, h, ih⟩
end Go.Proofs.Ytjfcjkeghigipaa

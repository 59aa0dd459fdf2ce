/-
  Several texts of the claim in one: each begins with its own remark.
-/
import Derived.Lib.AppendZerosOnto
import Derived.Test.YtinllccaphhmcaaH6
section
set_option linter.unusedVariables false
set_option linter.unusedSimpArgs false

namespace Go.Proofs.Ytinllccaphhmcaa
open Go.RowKit
set_option linter.unusedVariables false
set_option maxRecDepth 10000
structure HasV (P : Program) (f : FuncId) (ds : List AV) (r : AV) : Prop where
 enters : Enters P f
 calls : ∀ (w : World) (args : Array Value) (S : List Nat), RepVs w ds args.toList S → Calls P f args w fun e w' => ∃ v S', e = .returned v ∧ Below w.heap.size w w' ∧ RepD w' r v S' ∧ ∀ x ∈ S', x ∈ S
theorem rep1_data {w : World} {h : Hp} {u : Us} {ν : Nu} {d : AV} {v : Value} (r : Rep1 w h u ν d v) (ok : plainD d = true) : ∃ S, RepD w d v S ∧ ∀ x ∈ S, FreeO h ν x := by
 cases d <;> simp only [plainD, Bool.false_eq_true] at ok <;> simp only [Rep1] at r
 ·exact ⟨[], by rw [r.1]; exact repD_sc r.2, by simp⟩
 ·exact r
 ·exact r
theorem rep1s_data {w : World} {h : Hp} {u : Us} {ν : Nu} : ∀ {ds : List AV} {vs : List Value}, All2 (Rep1 w h u ν) ds vs → ds.all plainD = true → ∃ S, RepVs w ds vs S ∧ ∀ x ∈ S, FreeO h ν x
 | [], vs, r, _ => by simp only [All2] at r; subst r; exact ⟨[], by simp [RepVs], by simp⟩
 | d :: ds, vs, ⟨v, q, e, r1, r2⟩, ok => by
  subst e
  simp only [List.all_cons, Bool.and_eq_true] at ok
  obtain ⟨S1, a1, a2⟩ := rep1_data r1 ok.1
  obtain ⟨S2, b1, b2⟩ := rep1s_data r2 ok.2
  refine ⟨S1 ++ S2, by simp only [RepVs]; exact ⟨v, q, S1, S2, rfl, rfl, a1, b1⟩, fun x hx => ?_⟩
  rcases List.mem_append.1 hx with h | h
  ·exact a2 x h
  ·exact b2 x h
theorem repA_data {w : World} {h : Hp} {u : Us} {ν : Nu} {d : AV} {v : Value} (r : RepA w h u ν d v) (ok : okArg d = true) : ∃ S, RepD w d v S ∧ ∀ x ∈ S, FreeO h ν x := by
 cases d <;> simp only [okArg, plainD, Bool.false_eq_true] at ok <;> simp only [RepA, RepB] at r
 ·exact rep1_data r rfl
 ·exact rep1_data r rfl
 ·exact rep1_data r rfl
 ·obtain ⟨vs, rfl, r⟩ := r
  obtain ⟨S, a, b⟩ := rep1s_data r ok
  exact ⟨S, by simp only [RepD]; exact ⟨vs, rfl, a⟩, b⟩
 ·obtain ⟨vs, rfl, r⟩ := r
  obtain ⟨S, a, b⟩ := rep1s_data r ok
  exact ⟨S, by simp only [RepD]; exact ⟨vs, rfl, a⟩, b⟩
theorem repAs_data {w : World} {h : Hp} {u : Us} {ν : Nu} : ∀ {ds : List AV} {vs : List Value}, All2 (RepA w h u ν) ds vs → ds.all okArg = true → ∃ S, RepVs w ds vs S ∧ ∀ x ∈ S, FreeO h ν x
 | [], vs, r, _ => by simp only [All2] at r; subst r; exact ⟨[], by simp [RepVs], by simp⟩
 | d :: ds, vs, ⟨v, q, e, r1, r2⟩, ok => by
  subst e
  simp only [List.all_cons, Bool.and_eq_true] at ok
  obtain ⟨S1, a1, a2⟩ := repA_data r1 ok.1
  obtain ⟨S2, b1, b2⟩ := repAs_data r2 ok.2
  refine ⟨S1 ++ S2, by simp only [RepVs]; exact ⟨v, q, S1, S2, rfl, rfl, a1, b1⟩, fun x hx => ?_⟩
  rcases List.mem_append.1 hx with h | h
  ·exact a2 x h
  ·exact b2 x h
section
variable {P : Program} {dst : Option Tmp} {ty : TypeId} {pos : String} {aft : Array Edge} {g : Option (Nat × Bool)} {ins : Operand → Option AV} {hp : Hp} {κ : Kp}
theorem eff_hasV {fo : Operand} {xs : Array Operand} {ats : Array TypeId} {f : FuncId} {ds : List AV} {k : Nat} {es : List (List AV)} (hc : HasV P f ds (.list k es)) (hf : ins fo = some (.fn f [])) (hx : evs ins xs.toList = some ds) (hok : ds.all okArg = true) :
  AEff P ⟨dst, .call ⟨.value fo, xs, ats⟩, ty, pos, aft, g⟩ ins hp κ ⟨.list k es, [], [], []⟩ := by
 refine ⟨fun C s ν a w Q K {hκ} hi' ht hnw hd hs hK => ?_⟩
 have h1 := hs.ev ((hi' fo (by simp [Op.operands, Call.operands])).trans hf)
 simp only [RepA, RepB] at h1
 obtain ⟨cv, h1, h2⟩ := h1
 simp only [All2] at h2
 subst h2
 have h3 := evs_rep hs (xs := xs.toList) (fun y hy => hi' y (by simp [Op.operands, Call.operands]; exact .inr (Array.mem_toList_iff.1 hy))) hx
 obtain ⟨S, e1, e2⟩ := repAs_data h3 hok
 have hcall := hc.calls w (xs.map a.eval) S (by simpa using e1)
 unfold Oper.wp
 have hex : (execOp a.eval ⟨dst, .call ⟨.value fo, xs, ats⟩, ty, pos, aft, g⟩).run P w = .ok (.enter f (xs.map a.eval)) w := by
  have : execOp a.eval ⟨dst, .call ⟨.value fo, xs, ats⟩, ty, pos, aft, g⟩ = callFunc f (xs.map a.eval) := by
   simp [execOp, resolve, h1, Deferred.ofValue, invoke]
  rw [this]
  exact hc.enters _ _
 rw [hex]
 simp only [Oper.upon]
 refine hcall.mono fun e w' ⟨v, S', he, hb, hr, hsub⟩ => ?_
 subst he
 simp only
 obtain ⟨φ, hh⟩ := hs.heap
 have ext : Ext w s.heap s.used ν w' s.heap s.used ν := ⟨fun _ h => h, fun _ blk _ h => ⟨blk, h, rfl, rfl, rfl⟩, fun x hx h => ⟨hb.block x hx, h⟩, rfl⟩
 refine hK ν _ _ (hs.step hd (s' := s.app dst _) ext (hb.mono hs.base) ⟨φ, fun b blk hbl => ?_, hh.apart⟩ rfl ?_)
 ·obtain ⟨g1, g2, g3, g4⟩ := hh.blk b blk hbl
  exact ⟨g1, g2.ext ext rfl (fun y hy => hb.block y (g2.lt y hy)), g3, g4⟩
 ·exact ⟨S', hr, fun x hx => e2 x (hsub x hx)⟩
theorem x_slice_sc {T : List (Nat × Ty)} (hT : TyOk P T) {s : AState} {x : Operand} {zl zh : Operand} {t e : Nat} {y ye : Ty} {ao : Option Addr} {n c : Nat} {kl kh : IntKind} {l h : Int} (q : 0 ≤ l ∧ l ≤ h ∧ h ≤ n ∧ n ≤ c) (hx : s.ev x = some (.sc (.slice ao n c))) (hlo : s.ev zl = some (.sc (.int kl l))) (hhi : s.ev zh = some (.sc (.int kh h))) (hy : tyOf T t = some y) (hd : y.desc = .slice e) (hye : tyOf T e = some ye) :
  AEff P ⟨dst, .slice t x (some zl) (some zh) none, ty, pos, aft, g⟩ s.ev s.heap s.kp ⟨.sc (.slice (if c = l.toNat then ao else ao.map (·.add (l.toNat * ye.size))) (h.toNat - l.toNat) (c - l.toNat)), [], [], []⟩ := by
 refine AEff.pure fun C s' ν a w hi' ht hs => ?_
 have h1 := hs.ev ((hi' x (by simp [Op.operands])).trans hx)
 have h2 := hs.ev ((hi' zl (by simp [Op.operands])).trans hlo)
 have h3 := hs.ev ((hi' zh (by simp [Op.operands])).trans hhi)
 simp only [RepA, RepB, Rep1] at h1 h2 h3
 obtain ⟨i1, z1, d1, y1⟩ := hT.is hy
 obtain ⟨i2, z2, d2, y2⟩ := hT.is hye
 have hsb := sliceBounds_run (P := P) (len := n) (cap := c) (lo := some (.int kl l)) (hi := some (.int kh h)) w (.inr ⟨kl, rfl⟩) (.inr ⟨kh, rfl⟩) q.1 q.2.1 q.2.2.1 q.2.2.2
 refine ⟨_, ?_, repA_sc rfl⟩
 simp only [execOp, Instr.sliceAt, Instr.slice, h1.1, h2.1, h3.1, Sem.run_bind, run_und (y1.slice hd), Result.andThen_ok, run_size y2.info, y2.size, Option.map_none, Option.map_some]
 rw [hsb]
 by_cases e : c = l.toNat <;> simp [e]
end
theorem part_data {w : World} {k n c : Nat} {es : List (List AV)} {ao : Option Addr} {S : List Nat} {l h : Int} (r : RepD w (.list k es) (.slice ao n c) S) (q : 0 ≤ l ∧ l ≤ h ∧ h ≤ n) : ∃ S', RepD w (.list k ((es.drop l.toNat).take (h.toNat - l.toNat))) (.slice (if c = l.toNat then ao else ao.map (·.add (l.toNat * k))) (h.toNat - l.toNat) (c - l.toNat)) S' ∧ ∀ x ∈ S', x ∈ S := by
 simp only [RepD] at r ⊢
 obtain ⟨ao', c', h3, h4, h5, h6⟩ := r
 cases h3
 have hlen : ((es.drop l.toNat).take (h.toNat - l.toNat)).length = h.toNat - l.toNat := by simp; omega
 rw [hlen]
 by_cases hz : h.toNat - l.toNat = 0
 ·refine ⟨[], ⟨_, _, rfl, by omega, by omega, .inl ⟨?_, rfl⟩⟩, by simp⟩
  rw [hz]; simp
 ·rcases h6 with ⟨h6, _⟩ | ⟨b, o, S', rfl, h8, rfl, h9⟩
  ·have : es.length = 0 := by rw [h6]; rfl
   omega
  ·rw [if_neg (by omega)]
   obtain ⟨U1, g1, g2⟩ := h9.dropT (m := l.toNat)
   obtain ⟨U2, g3, g4⟩ := g1.takeT (m := h.toNat - l.toNat)
   refine ⟨b :: U2, ⟨_, _, rfl, by omega, by omega, .inr ⟨b, o + l.toNat * k, U2, by simp [Addr.add_lit], h8, rfl, g3⟩⟩, ?_⟩
   intro y hy
   rcases List.mem_cons.1 hy with rfl | h'
   ·simp
   ·simp [g2 y (g4 y h')]
def rowLo (m : Mt) (i : Int) : Int := wr (i * m.cols)
def rowHi (m : Mt) (i : Int) : Int := wr (wr (i + 1) * m.cols)
def m_rowD (m : Mt) (i : Int) : Option (List Int) := bif (decide (0 ≤ rowLo m i) && (decide (rowLo m i ≤ rowHi m i) && decide (rowHi m i ≤ (m.cells.length : Int)))) then some ((m.cells.drop (rowLo m i).toNat).take ((rowHi m i).toNat - (rowLo m i).toNat)) else none
def sameE (hp : Hp) (touch : List Nat) : List (Nat × Option Blk) → Prop
 | [] => True
 | (b, x) :: r => hp b = x ∧ touch.contains b = true ∧ sameE hp touch r
theorem editHp_same {hp h : Hp} {touch : List Nat} (ht : ∀ b ∈ touch, h b = hp b) : ∀ {ed : List (Nat × Option Blk)}, sameE hp touch ed → editHp ed h = h
 | [], _ => rfl
 | (b, x) :: r, ⟨h1, h2, h3⟩ => by
  funext c
  simp only [editHp]
  by_cases e : c = b
  ·subst e
   rw [beq_self, cond_true, ← h1, ht c (by simpa using h2)]
  ·rw [beq_ne e, cond_false, editHp_same ht h3]
theorem AEff.pureE {P : Program} {o : Oper} {ins : Operand → Option AV} {hp : Hp} {κ : Kp} {v : AV} {tc : List Nat} {ed : List (Nat × Option Blk)} (h : AEff P o ins hp κ ⟨v, tc, ed, []⟩) (hs : sameE hp tc ed) : AEff P o ins hp κ ⟨v, tc, [], []⟩ := by
 refine ⟨fun C s ν a w Q K {hκ} hi ht hn hd hsim hK => h.out C s ν a w Q K (hκ := hκ) hi ht hn hd hsim fun ν' a' w' hs' => hK ν' a' w' ?_⟩
 have e : s.app o.dst ⟨v, tc, ed, []⟩ = s.app o.dst ⟨v, tc, [], []⟩ := by
  unfold AState.app
  rw [editHp_same ht hs]
  rfl
 rw [← e]
 exact hs'
theorem run_grow_nil {P : Program} {t tn e bytes : Nat} {size : Nat} (et : ElemTy P t e size bytes) (htn : P.underlying tn = some (.int .i64)) (hs : 0 < size) (w : World) (n : Nat) (h0 : 0 < n) (hn : n ≤ 1048576) (hb : n * bytes ≤ 140737488355328) (ty : Nat) :
  ∃ G cur, n ≤ G ∧ G ≤ maxLen ∧ cur.size = G * size ∧ (Builtin.append_ #[t, tn] ty #[.slice none 0 0, .int .i64 n]).run P w = .ok (.slice (some ⟨w.heap.size, 0, none⟩) n G) (w.drew.alloc (.cells cur e)) := by
 obtain ⟨i, z, h1, h2, h3, h4, h5⟩ := et.hi
 have hold : (Builtin.firstCells i.size 0 (.slice none 0 0)).run P w.drew = .ok ([] : List Value).toArray w.drew := run_firstCells_none w.drew i.size 0 0 0
 have h := Lib.run_append_grow_zeros w t tn ty e i z .i64 .i64 et.ht htn h1 h2 none 0 0 [] hold n h0 (by rw [h3]; exact hs) (by omega) (by omega) (by rw [h4]; omega) (growslice_fits (by omega) (by rw [h4]; simpa using hb))
 have hG := grownCap_ge w (0 + n) 0 e
 have hM := grownCap_le_maxLen w (0 + n) 0 e (by unfold maxLen; omega)
 rw [Nat.zero_add] at h hG hM
 refine ⟨grownCap w n 0 e, _, hG, hM, ?_, h⟩
 simp only [Array.size_append, List.size_toArray, List.length_nil, Nat.zero_add]
 unfold Builtin.zeroCells
 simp only [Array.size_map, Array.size_range, h5]
 rw [← Nat.add_mul]
 congr 1
 omega
set_option maxRecDepth 100000 in
set_option maxHeartbeats 1000000 in
theorem c_GrowI (n : Nat) (w : World) (hn : n ≤ 1048576) :
  Calls Try.prog 62 #[.slice none 0 0, .int .i64 n] w (Ret w fun v w' => ∃ S, Own 3 ShpI w' w.heap.size v [] S) := by
 by_cases h0 : n = 0
 ·subst h0
  show Calls Try.prog 62 #[.slice none 0 0, .int .i64 0] w _
  go_enter Try.func62, Try.ntmps62
  go_wp2
  go_ret
  exact ⟨_, rfl, Below.refl _ _, [], Own.nil _ _ _ _⟩
 ·have h1 : ¬ ((n : Int) < 0) := by omega
  have h4 : (n : Int) > 0 := by omega
  have key : ∀ ty, ∃ G cur, n ≤ G ∧ G ≤ maxLen ∧ cur.size = G * 1 ∧ (Builtin.append_ #[22, 3] ty #[.slice none 0 0, .int .i64 n]).run Try.prog w = .ok (.slice (some ⟨w.heap.size, 0, none⟩) n G) (w.drew.alloc (.cells cur 3)) := fun ty =>
   run_grow_nil et_I Try.underlying3 (by decide) w n (by omega) hn (by omega) ty
  obtain ⟨G, cur, hG, hM, hc, hr0⟩ := key 22
  have hG63 : G ≤ 9223372036854775807 := by unfold maxLen at hM; omega
  have HE : Hid (Own 3 ShpI (w.drew.alloc (.cells cur 3)) w.heap.size (.slice (some ⟨w.heap.size, 0, none⟩) 0 G) [] [w.heap.size] ∧ Below w.heap.size w (w.drew.alloc (.cells cur 3))) :=
   ⟨⟨[], [], World.ownsRow_made w.drew cur G (Nat.le_refl _) hM hc, ⟨rfl, rfl⟩, rfl, ⟨by simp, by simp⟩⟩, ((below_drewN 1 (Below.refl _ _) : Below w.heap.size w (w.drewN 1))).alloc (Nat.le_refl _) _⟩
  clear key hM hc
  go_enter Try.func62, Try.ntmps62
  go_wp2_with (at_builtin; refine Lib.wpList_append_run _ rfl _ _ _ _ rfl _ _ rfl rfl _ _ hr0 ?_)
  all_goals (go_ret; exact ⟨_, rfl, HE.out.2, _, HE.out.1⟩)
def m_Grow (n : Int) : Option (List Int) := bif (decide (0 ≤ n) && decide (n ≤ 1048576)) then some [] else none
theorem va_nilS {h : Hp} {k : Nat} : viewA h (.nil k) (.sc (.slice none 0 0)) := rfl
theorem c_Grow (n : Int) (r : List Int) (h : m_Grow n = some r) : HasC Try.prog 62 [.sc (.slice none 0 0), .int n] (.list 1 (List.map eI r)) := by
 obtain ⟨q, h⟩ := cg h
 obtain rfl := so h
 simp only [Bool.and_eq_true, decide_eq_true_eq] at q
 refine ⟨Enters.mk Try.func62 (by kernel_rfl) (by kernel_rfl), fun w args S hargs => ?_⟩
 obtain ⟨args⟩ := args
 simp only [RepVs, RepD] at hargs
 obtain ⟨v, r, S1, S2, h1, rfl, ⟨rfl, _, rfl⟩, v2, r2, S3, S4, rfl, rfl, ⟨rfl, _, rfl⟩, rfl, rfl⟩ := hargs
 subst h1
 have hc := c_GrowI n.toNat w (by omega)
 rw [show ((n.toNat : Nat) : Int) = n by omega] at hc
 refine hc.mono fun e w' ⟨v, he, hb, S2, ho⟩ => ?_
 obtain ⟨g1, g2⟩ := ownI_res ho
 exact ⟨v, S2, he, hb, g1, g2⟩
theorem rep_matchS {σ : Nat → Option Nat} {n : Nat} {α : Type} {e : α → List AV} {z : α} {zc : List AV} (h : All2 (matchC σ n) zc (ow e z)) (m : Nat) : All2 (All2 (matchC σ n)) (List.replicate m zc) ((List.replicate m z).map (ow e)) := by
 induction m with
 | zero => rfl
 | succ m ih => exact ⟨_, _, rfl, h, ih⟩
end Go.Proofs.Ytinllccaphhmcaa
end

section
set_option linter.unusedVariables false
set_option linter.unusedSimpArgs false

namespace Go.Proofs.Ytinllccaphhmcaa
open Go.RowKit
set_option linter.unusedVariables false
structure HasT (P : Program) (f : FuncId) (ds : List AV) (hl : List (Nat × Blk)) (kp : Nat) (r : AV) (hl' : List (Nat × Blk)) : Prop where
 enters : Enters P f
 calls : ∀ (B : Nat) (M : Nat → Prop) (w : World) (args : Array Value) (ν : Nu) (φ : Nat → List Nat), (∀ x, M x → B ≤ x) → B ≤ w.heap.size → (∀ x, w.heap.size ≤ x → M x) → (∀ x, M x → ν.ok x) → All2 (RepA w (hpL hl) (ltb kp) ν) ds args.toList → HeapOk M w (hpL hl) (ltb kp) ν φ →
  Calls P f args w fun e w' => ∃ v u' ν' φ', e = .returned v ∧ Below B w w' ∧ ExtF (fun x => ¬ M x) w (hpL hl) (ltb kp) ν w' (hpL hl') u' ν' ∧ HeapOk M w' (hpL hl') u' ν' φ' ∧ RepA w' (hpL hl') u' ν' r v
theorem free_of {M : Nat → Prop} {w : World} {h : Hp} {u : Us} {ν : Nu} {φ : Nat → List Nat} (hh : HeapOk M w h u ν φ) {x : Nat} (hx : ¬ M x) : Free h ν x := by
 intro b blk β c hb hν e
 subst e
 obtain ⟨_, g2, _, g4⟩ := hh.blk b blk hb
 exact hx (g4 _ (blk_main g2 hν))
theorem HasE.toT {P : Program} {f : FuncId} {ds : List AV} {hl : List (Nat × Blk)} {kp : Nat} {r : AV} {hl' : List (Nat × Blk)} (h : HasE P f ds hl kp r hl') : HasT P f ds hl kp r hl' := by
 refine ⟨h.enters, fun B M w args ν φ h1 h2 h3 ho h4 h5 => (h.calls B M w args ν φ h1 h2 h3 ho h4 h5).mono ?_⟩
 rintro e w' ⟨v, u', ν', φ', g1, g2, g3, g4, g5⟩
 exact ⟨v, u', ν', φ', g1, g2, ⟨g3.used, g3.old, fun x hx hm => g3.free x hx (free_of h5 hm), g3.okE⟩, g4, g5⟩
theorem ExtF.shrink {F : Nat → Prop} {w w' : World} {h h' g : Hp} {u u' : Us} {ν ν' : Nu} (e : ExtF F w h u ν w' h' u' ν') (hg : ∀ b blk, g b = some blk → h' b = some blk) : ExtF F w h u ν w' g u' ν' :=
 ⟨e.used, fun b blk hb hgb => e.old b blk hb (hg b blk hgb), fun x hx hf => ⟨(e.free x hx hf).1, fun b blk β c hb hν => (e.free x hx hf).2 b blk β c (hg b blk hb) hν⟩, e.okE⟩
theorem hasT_mk {P : Program} {T : List (Nat × Ty)} (hT : TyOk P T) {f : FuncId} {fn : Func} {c : Code} {nt kp : Nat} {ds : List AV} {hl hl' : List (Nat × Blk)} {r : AV} {rvs : List ResultVar} {ns : List Nat} (hf : P.funcs[f]? = some fn) (hb : fn.body = some c) (hname : (fn.name == "runtime.NumGoroutine") = false) (hnt : fn.ntmps = nt) (hres : fn.results.toList = rvs)
  (hlen : Nat.ble ds.length nt = true) (h : AC P nt c ⟨nthA ds, hpL hl, ltb kp, ns, ⟨kp, true, none, true⟩⟩ (fun e t => ∃ t', Ent t t' ∧ RetE T rvs r hl' e t')) : HasT P f ds hl kp r hl' := by
 refine ⟨Enters.mk hf (by rw [hb]; rfl) hname, fun B M w args ν φ hMB hB hM hMo hargs hheap => ?_⟩
 refine (callsIn_wide (n := 0)).1 (callsIn_of_wp_marks (F := fw none) hf hb trivial ?_)
 have hlen' := Nat.le_of_ble_eq_true hlen
 have hal : args.size = ds.length := by have := hargs.len; simpa using this
 let C : Ctx := ⟨B, w, nt, M, hMB, ⟨kp, true, none, true⟩, w, hpL hl, ν, fun x => ¬ M x, (fun _ x _ hm hn => hn hm), (fun _ h => by cases h), none, fun _ => rfl⟩
 have hsim : Sim C ⟨nthA ds, hpL hl, ltb kp, ns, ⟨kp, true, none, true⟩⟩ ν ⟨args ++ Array.replicate (fn.ntmps - args.size) undef, []⟩ w := by
  refine ⟨Below.refl _ _, hB, hM, okD_nil, by show (args ++ Array.replicate (fn.ntmps - args.size) undef).size = nt; simp [hnt]; omega, ?_, ⟨φ, hheap⟩, rfl, ExtF.refl fun _ _ h => free_of hheap h, Nat.le_refl _, hMo, fun _ h => by cases h⟩
  intro t x hx
  have hx' : ds[t]? = some x := by rw [← nthA_get]; exact hx
  obtain ⟨v, h1, h2⟩ := hargs.get hx'
  refine ⟨v, ?_, h2⟩
  have hlt : t < args.size := by
   rcases Nat.lt_or_ge t args.size with h' | h'
   ·exact h'
   ·rw [List.getElem?_eq_none (by simpa using h')] at h1; cases h1
  show (args ++ Array.replicate (fn.ntmps - args.size) undef)[t]? = some v
  rw [Array.getElem?_append_left hlt]
  simpa using h1
 refine wpIn_mono (h.out C rfl _ _ w hsim 0) fun e a' w0 ⟨s1, ν1, ⟨s', hent, hq⟩, hs1⟩ => ?_
 obtain ⟨ν', hs0⟩ := hent C ν1 a' w0 hs1
 obtain ⟨Ds, d1, d2, d3⟩ := hs0.defers
 obtain ⟨w', hs', hleave⟩ := hs0.leave (P := P) (n := 0) d1 d2 d3
 obtain ⟨he, ⟨avs, hv, hone⟩, hsame⟩ := hq
 have hsub : ∀ b blk, hpL hl' b = some blk → s'.heap b = some blk := fun b blk hb => sameL_mem hsame (hpL_mem hb)
 obtain ⟨us, h1, h2⟩ := resVars_run hT hs' hv
 obtain ⟨φ', hh⟩ := hs'.heap
 have hrun : (results fn a'.tmps).run P w' = .ok (if hh : us.toArray.size = 1 then us.toArray[0] else .tuple us.toArray) w' := by
  unfold results
  rw [Sem.run_bind, Array.mapM_eq_mapM_toList, Sem.run_map, hres]
  have h1' := h1
  generalize hq : (List.mapM _ rvs : Sem (List Value)) = m
  rw [show Sem.run P m w' = .ok us w' by rw [← hq]; exact h1']
  simp
 have shr := (Ext.refl w' s'.heap s'.used ν').shrink hsub
 have hrep : RepA w' (hpL hl') s'.used ν' r (if hh : us.toArray.size = 1 then us.toArray[0] else .tuple us.toArray) := by
  rcases hone with rfl | ⟨g1, g2, rfl⟩
  ·obtain ⟨u, q, rfl, k1, k2⟩ := h2
   simp only [All2] at k2
   subst k2
   exact k1.ext shr
  ·have hul : us.length = avs.length := h2.len
   rw [dif_neg (by simp; rw [hul]; exact g1)]
   refine ⟨us, rfl, h2.congrM fun x hx v hr => ?_⟩
   exact repA_B (hr.ext shr) (List.all_eq_true.1 g2 x hx)
 have hend := hleave fn (fun e w' => ∃ v u' ν' φ', e = .returned v ∧ Below B w w' ∧ ExtF (fun x => ¬ M x) w (hpL hl) (ltb kp) ν w' (hpL hl') u' ν' ∧ HeapOk M w' (hpL hl') u' ν' φ' ∧ RepA w' (hpL hl') u' ν' r v)
  ⟨_, hrun, _, s'.used, ν', φ', rfl, hs'.below, hs'.ext.shrink hsub, hh.shrink hsub (fun _ _ _ _ h => h), hrep⟩
 cases e <;> simp only [isEnd, Bool.false_eq_true] at he <;> exact hend
structure SOps (P : Program) (ops : Array Oper) (nt : Nat) (l : List Oper) (s : AState) (K : AState → Prop) : Prop where
 out : ∀ (C : Ctx), C.nt = nt → ∀ (ν : Nu) (a : Act) (w : World), Sim C s ν a w → ∀ (n : Nat) (Q : Exit → Act → World → Prop), (∀ s' ν' a' w', K s' → Sim C s' ν' a' w' → Q .normal a' w') → wpListIn (fw C.rd) n P ops Q l a w
section
variable {P : Program} {ops : Array Oper} {nt : Nat} {l : List Oper} {s : AState} {K : AState → Prop}
theorem sops_nil (h : K s) : SOps P ops nt [] s K := ⟨fun C hC ν a w hs n Q hQ => hQ s ν a w h hs⟩
theorem sops_ent {t : AState} (e : Ent s t) (h : SOps P ops nt l t K) : SOps P ops nt l s K := ⟨fun C hC ν a w hs n Q hQ => by
 obtain ⟨ν', hs'⟩ := e C ν a w hs
 exact h.out C hC ν' a w hs' n Q hQ⟩
theorem sops_eff {d : Option Tmp} {op : Op} {ty : TypeId} {pos : String} {aft : Array Edge} {g : Option (Nat × Bool)} {e : Eff} (he : AEff P ⟨d, op, ty, pos, aft, g⟩ s.ev s.heap s.kp e) (hd : dstB ⟨d, op, ty, pos, aft, g⟩ nt = true) (hg : wantedA ops s.env ⟨d, op, ty, pos, aft, g⟩ = some true) (hn : (e.news.all fun b => !s.used b) = true)
  (h : SOps P ops nt l (s.app d e) K) : SOps P ops nt (⟨d, op, ty, pos, aft, g⟩ :: l) s K := ⟨fun C hC ν a w hs n Q hQ => by
 subst hC
 refine wpListIn_step fun K' hK' => ?_
 have hst : Step P ops C.nt ⟨d, op, ty, pos, aft, g⟩ s e := ⟨dstB_ok hd, .inl ⟨hg, he, fun b hb => by have := List.all_eq_true.1 hn b hb; simpa using this⟩⟩
 exact step_sound hst hs fun ν' a' w' hs' => hK' _ _ (h.out C rfl ν' a' w' hs' n Q hQ)⟩
theorem ac_regionS {Q : Exit → AState → Prop} {id : Nat} (h : SOps P l.toArray nt l s (Q .normal)) : AC P nt (.region id l.toArray false) s Q := by
 refine ⟨fun C hC ν a w hs n => ?_⟩
 exact wpIn_region_lit (h.out C hC ν a w hs n _ fun s' ν' a' w' hq hs' => ⟨s', ν', hq, hs'⟩)
end
def df1 : AV → Bool
 | .sc _ => true
 | .nil _ => true
 | .dead => true
 | .own _ _ _ => true
 | .ptr _ _ _ => true
 | _ => false
def dfC : AV → Bool
 | .abs _ _ => true
 | x => df1 x
def dfB : AV → Bool
 | .agg cs => cs.all df1
 | x => df1 x
def dfA : AV → Bool
 | .tuple cs => cs.all dfB
 | x => dfB x
section
variable {w w' : World} {h h' : Hp} {u u' : Us} {ν ν' : Nu} (U : ∀ b, u b = true → u' b = true) (O : ∀ b blk', u b = true → h' b = some blk' → ∃ blk, h b = some blk ∧ blk.k = blk'.k ∧ blk.es.length = blk'.es.length ∧ ν' b = ν b)
include U O
theorem df1_rep : ∀ {x : AV} {v : Value}, Rep1 w h u ν x v → df1 x = true → Rep1 w' h' u' ν' x v := by
 intro x v r t
 cases x <;> simp only [df1, Bool.false_eq_true] at t <;> simp only [Rep1] at r ⊢
 ·exact r
 ·exact r
 ·refine ⟨U _ r.1, fun blk hb => ?_⟩
  obtain ⟨blk0, e1, e2, e3, e4⟩ := O _ blk r.1 hb
  have := r.2 blk0 e1
  rw [e4, ← e3, ← e2]
  exact this
 ·refine ⟨U _ r.1, fun blk hb => ?_⟩
  obtain ⟨blk0, e1, e2, e3, e4⟩ := O _ blk r.1 hb
  have := r.2 blk0 e1
  rw [e4, ← e2]
  exact this
end
section
variable {w w' : World} {h h' : Hp} {u u' : Us} {ν ν' : Nu} (U : ∀ b, u b = true → u' b = true) (O : ∀ b blk', u b = true → h' b = some blk' → ∃ blk, h b = some blk ∧ blk.k = blk'.k ∧ blk.es.length = blk'.es.length ∧ ν' b = ν b)
include U O
theorem df1s_rep : ∀ {xs : List AV} {vs : List Value}, All2 (Rep1 w h u ν) xs vs → xs.all df1 = true → All2 (Rep1 w' h' u' ν') xs vs
 | [], vs, r, _ => r
 | x :: xs, vs, ⟨v, q, e, r, k⟩, t => by
  simp only [List.all_cons, Bool.and_eq_true] at t
  exact ⟨v, q, e, df1_rep U O r t.1, df1s_rep k t.2⟩
theorem dfB_rep {x : AV} {v : Value} (r : RepB w h u ν x v) (t : dfB x = true) : RepB w' h' u' ν' x v := by
 cases x <;> simp only [RepB] at r ⊢ <;> first
  | exact df1_rep U O r t
  | (obtain ⟨vs, e, r⟩ := r; exact ⟨vs, e, df1s_rep U O r t⟩)
  | (simp only [dfB, df1, Bool.false_eq_true] at t)
theorem dfA_rep {x : AV} {v : Value} (r : RepA w h u ν x v) (t : dfA x = true) : RepA w' h' u' ν' x v := by
 by_cases ht : ∃ cs, x = .tuple cs
 ·obtain ⟨cs, rfl⟩ := ht
  obtain ⟨vs, e, r⟩ := r
  refine ⟨vs, e, r.congrM fun y hy d hd => dfB_rep U O hd ?_⟩
  exact List.all_eq_true.1 t y hy
 ·have r' : RepB w h u ν x v := by cases x <;> first | exact r | exact absurd ⟨_, rfl⟩ ht
  have t' : dfB x = true := by cases x <;> first | exact t | exact absurd ⟨_, rfl⟩ ht
  have := dfB_rep (w' := w') U O r' t'
  cases x <;> first | exact this | exact absurd ⟨_, rfl⟩ ht
theorem dfC_rep {x : AV} {v : Value} {S : List Nat} (hk : ∀ b ∈ S, w'.heap[b]? = w.heap[b]?) (r : CellRep w h u ν x v S) (t : dfC x = true) : CellRep w' h' u' ν' x v S := by
 cases x <;> simp only [CellRep] at r ⊢ <;> first
  | exact ⟨df1_rep U O r.1 t, r.2⟩
  | exact r.keep hk
  | exact r
theorem dfCs_rep : ∀ {xs : List AV} {vs : List Value} {S : List Nat}, (∀ b ∈ S, w'.heap[b]? = w.heap[b]?) → CellsRep w h u ν xs vs S → (∀ c ∈ xs, dfC c = true) → CellsRep w' h' u' ν' xs vs S
 | [], _, _, _, r, _ => r
 | x :: xs, vs, S, hk, ⟨v, q, S1, S2, e1, e2, r, k⟩, t => by
  subst e2
  exact ⟨v, q, S1, S2, e1, rfl, dfC_rep U O (fun b hb => hk b (by simp [hb])) r (t x (by simp)), dfCs_rep (fun b hb => hk b (by simp [hb])) k (fun c hc => t c (by simp [hc]))⟩
theorem dfBlk_rep {b : Nat} {blk : Blk} {S : List Nat} (hν : ν' b = ν b) (hk : ∀ x ∈ S, w'.heap[x]? = w.heap[x]?) (r : BlkOk w h u ν b blk S) (t : ∀ cs ∈ blk.es, ∀ c ∈ cs, dfC c = true) : BlkOk w' h' u' ν' b blk S := by
 refine ⟨r.1, ?_⟩
 rcases r.2 with ⟨q1, q2, q3⟩ | ⟨β, c, arr, ty, T, vs, q1, q2, q3, q4, q5, q6, q7, q8⟩
 ·exact .inl ⟨hν.trans q1, q2, q3⟩
 ·subst q6
  refine .inr ⟨β, c, arr, ty, T, vs, hν.trans q1, (hk β (by simp)).trans q2, q3, q4, q5, rfl, q7, dfCs_rep U O (fun x hx => hk x (by simp [hx])) q8 fun c hc => ?_⟩
  obtain ⟨cs, hcs, hc⟩ := List.mem_flatten.1 hc
  exact t cs hcs c hc
end
section
variable {P : Program} {ops : Array Oper} {nt : Nat} {l : List Oper} {s : AState} {K : AState → Prop} {dst : Option Tmp} {ty : TypeId} {pos : String} {aft : Array Edge}
theorem sops_T {fo : Operand} {xs : Array Operand} {ats : Array TypeId} {f : FuncId} {caps avs ds : List AV} {hl hl' hl2 : List (Nat × Blk)} {kp n' : Nat} {r r2 : AV} {σ σ' : Nat → Option Nat} {touch news : List Nat} {ed : List (Nat × Option Blk)}
  (hc : HasT P f ds hl kp r hl') (hf : s.ev fo = some (.fn f caps)) (hx : evs s.ev xs.toList = some avs) (hav : All2 (matchA σ kp) (avs ++ caps) ds) (hh : EntH σ kp s.heap hl) (hi : injB σ hl = true) (hit : inTouch σ touch hl = true) (hlive : (touch.all fun b => (s.heap b).isSome) = true)
  (hh' : EntH σ' n' (hpL hl') hl2) (hi' : injB σ' hl2 = true) (hr : matchA σ' n' r r2) (hbk : backB σ σ' kp news hl2 = true) (htl : tameL (touch ++ news) hl2) (htr : tameA (touch ++ news) r2 = true) (he : editsL (touch ++ news) hl2 = ed)
  (hd : dstB ⟨dst, .call ⟨.value fo, xs, ats⟩, ty, pos, aft, none⟩ nt = true) (hn : (news.all fun b => !s.used b) = true) (hT : s.kp.T = true) (hdf : ∀ t x, s.env t = some x → dfA x = true) (hdc : ∀ b blk, s.heap b = some blk → b ∉ touch ++ news → ∀ cs ∈ blk.es, ∀ c ∈ cs, dfC c = true)
  (h : SOps P ops nt l (s.app dst ⟨r2, touch, ed, news⟩) K) : SOps P ops nt (⟨dst, .call ⟨.value fo, xs, ats⟩, ty, pos, aft, none⟩ :: l) s K := ⟨fun C hC ν a w hs n0 Q hQ => by
 subst hC
 refine wpListIn_step fun K' hK' => ?_
 rw [if_pos (wanted_of hs (ops := ops) (t := true) rfl)]
 refine op_in (fun c h => by cases h) ?_
 have hnw : ∀ b ∈ news, s.used b = false := fun b hb => by have := List.all_eq_true.1 hn b hb; simpa using this
 have hfn := hs.ev hf
 simp only [RepA, RepB] at hfn
 obtain ⟨cv, hfv, hcap⟩ := hfn
 have hval := evs_rep hs (xs := xs.toList) (fun y hy => rfl) hx
 obtain ⟨φ, hφ⟩ := hs.heap
 let h3 : Hp := fun b => if b ∈ touch then s.heap b else none
 have sub : ∀ b blk, h3 b = some blk → s.heap b = some blk ∧ b ∈ touch := by
  intro b blk hb
  by_cases e : b ∈ touch
  ·simp only [h3, if_pos e] at hb; exact ⟨hb, e⟩
  ·simp only [h3, if_neg e] at hb; cases hb
 let M2 : Nat → Prop := fun x => (∃ b, b ∈ touch ∧ s.heap b ≠ none ∧ x ∈ φ b) ∨ w.heap.size ≤ x
 have hM2 : ∀ x, M2 x → C.M x := by
  rintro x (⟨b, _, hb, hx⟩ | hx)
  ·obtain ⟨blk, hb⟩ := Option.ne_none_iff_exists'.1 hb
   exact (hφ.blk b blk hb).2.2.2 x hx
  ·exact hs.fresh x hx
 have hk3 : HeapOk M2 w h3 s.used ν φ := hφ.shrink (fun b blk hb => (sub b blk hb).1) (fun b x hb hx _ => by
  obtain ⟨blk, hb⟩ := Option.ne_none_iff_exists'.1 hb
  obtain ⟨e1, e2⟩ := sub b blk hb
  exact .inl ⟨b, e2, by rw [e1]; simp, hx⟩)
 have hent : EntH σ kp h3 hl := entH_congr (h := s.heap) (touch := touch) (fun b hb => by simp only [h3, if_pos hb]) hit hh
 have cv1 := conv_mk (w := w) (u := s.used) (ν := ν) hent hi
 have hk4 := cv1.heap hk3
 have shr3 : Ext w s.heap s.used ν w h3 s.used ν := (Ext.refl _ _ _ _).shrink (fun b blk hb => (sub b blk hb).1)
 have hargs : All2 (RepA w (hpL hl) (ltb kp) (nuOf σ ν)) ds (xs.toList.map a.eval ++ cv) :=
  all2_conv (R := RepA w s.heap s.used ν) (Mt := matchA σ kp) (R' := RepA w (hpL hl) (ltb kp) (nuOf σ ν)) (fun x y v hx hm => cv1.rep (RepA.ext shr3 hx) hm) (hval.append (hcap.mono fun x v h => Rep1.repA h)) hav
 have hcall := hc.calls C.B M2 w ((xs.map a.eval) ++ cv.toArray) (nuOf σ ν) _ (fun x hx => C.low x (hM2 x hx)) hs.base (fun x hx => .inr hx) (fun x hx => hs.okM x (hM2 x hx)) (by simpa using hargs) hk4
 unfold Oper.wp
 have hex : (execOp a.eval ⟨dst, .call ⟨.value fo, xs, ats⟩, ty, pos, aft, none⟩).run P w = .ok (.enter f ((xs.map a.eval) ++ cv.toArray)) w := by
  have : execOp a.eval ⟨dst, .call ⟨.value fo, xs, ats⟩, ty, pos, aft, none⟩ = callFunc f ((xs.map a.eval) ++ cv.toArray) := by
   simp [execOp, resolve, hfv, Deferred.ofValue, invoke]
  rw [this]
  exact hc.enters _ _
 rw [hex]
 simp only [Oper.upon]
 refine hcall.mono fun e w' ⟨v, u1, ν1, φ1, hev, hbel, hext, hh1, hrep⟩ => ?_
 subst hev
 simp only
 have cv2 := conv_mk (w := w') (u := u1) (ν := ν1) hh' hi'
 have hh2 := cv2.heap hh1
 generalize hrl : touch ++ news = rl at *
 let ν' : Nu := ⟨fun b => if b ∈ rl then nuOf σ' ν1 b else ν b, ν.ok⟩
 have hν1 : ∀ b, b ∈ rl → ν' b = nuOf σ' ν1 b := fun b hb => if_pos hb
 have hν2 : ∀ b, b ∉ rl → ν' b = ν b := fun b hb => if_neg hb
 have hheq : ∀ b, editHp ed s.heap b = if b ∈ rl then hpL hl2 b else s.heap b := fun b => by rw [← he]; exact editHp_L
 have hhe1 : ∀ b, b ∈ rl → editHp ed s.heap b = hpL hl2 b := fun b hb => by rw [hheq, if_pos hb]
 have hhe2 : ∀ b, b ∉ rl → editHp ed s.heap b = s.heap b := fun b hb => by rw [hheq, if_neg hb]
 have hused : ∀ b, b ∈ rl → addUs news s.used b = true := by
  intro b hb
  rw [← hrl] at hb
  rw [addUs_spec]
  rcases List.mem_append.1 hb with h | h
  ·have h5 := List.all_eq_true.1 hlive b h
   cases hq : s.heap b with
   | none => rw [hq] at h5; cases h5
   | some blk => rw [(hφ.blk b blk hq).1, Bool.or_true]
  ·have : news.contains b = true := by simpa using h
   rw [this, Bool.true_or]
 have U : ∀ b, s.used b = true → addUs news s.used b = true := fun b hb => by rw [addUs_spec, hb, Bool.or_true]
 have O : ∀ b blk', s.used b = true → editHp ed s.heap b = some blk' → ∃ blk, s.heap b = some blk ∧ blk.k = blk'.k ∧ blk.es.length = blk'.es.length ∧ ν' b = ν b := by
  intro b blk' hu hb
  by_cases e : b ∈ rl
  ·rw [hhe1 b e] at hb
   obtain ⟨i, e1, e2⟩ := backB_mem hbk (hpL_mem hb)
   obtain ⟨x, f1, f2, f3⟩ := (cv2.look b blk' hb).1 i e1
   rcases e2 with e2 | ⟨e2, e3⟩
   ·rw [hnw b e2] at hu; cases hu
   ·obtain ⟨blk0, g1, g2, g3, g4⟩ := hext.old i x e2 f1
    obtain ⟨z, k1, k2, k3⟩ := (cv1.look i blk0 g1).1 b e3
    refine ⟨z, (sub b z k1).1, k2.trans (g2.trans f2), k3.trans (g3.trans f3), ?_⟩
    rw [hν1 b e]
    simp only [nuOf, e1]
    rw [g4]
    simp only [nuOf, e3]
  ·rw [hhe2 b e] at hb
   exact ⟨blk', hb, rfl, rfl, hν2 b e⟩
 have hout : ∀ b blk x, s.heap b = some blk → b ∉ rl → x ∈ φ b → w'.heap[x]? = w.heap[x]? := by
  intro b blk x hb hbr hx
  refine (hext.free x ((hφ.blk b blk hb).2.1.lt x hx) ?_).1
  rintro (⟨b2, e1, e2, e3⟩ | e1)
  ·have hne : b2 ≠ b := by rintro rfl; exact hbr (by rw [← hrl]; exact List.mem_append_left _ e1)
   exact hφ.apart b2 b x e2 (by rw [hb]; simp) hne e3 hx
  ·have := (hφ.blk b blk hb).2.1.lt x hx
   omega
 have hcross : ∀ b c x, hpL hl2 b ≠ none → s.heap c ≠ none → c ∉ rl → x ∈ (match σ' b with | some b0 => φ1 b0 | none => []) → x ∉ φ c := by
  intro b c x hb hc' hcr hx hx2
  obtain ⟨y1, hy1⟩ := Option.ne_none_iff_exists'.1 hb
  obtain ⟨y2, hy2⟩ := Option.ne_none_iff_exists'.1 hc'
  rcases (hh2.blk b y1 hy1).2.2.2 x hx with ⟨b2, e1, e2, e3⟩ | e1
  ·have hne : b2 ≠ c := by rintro rfl; exact hcr (by rw [← hrl]; exact List.mem_append_left _ e1)
   exact hφ.apart b2 c x e2 hc' hne e3 hx2
  ·have := (hφ.blk c y2 hy2).2.1.lt x hx2
   omega
 have hdef : OkD C w' a.defers := by
  obtain ⟨Ds, q1, q2, q3⟩ := hs.defers
  refine ⟨Ds, q1, q2, fun D hD => ?_⟩
  obtain ⟨p1, p2, p3⟩ := q3 D hD
  refine ⟨p1, p2, (hext.free D (lt_of_some p3) ?_).1.trans p3⟩
  rintro (⟨b, e1, e2, e3⟩ | e1)
  ·obtain ⟨blk, hb⟩ := Option.ne_none_iff_exists'.1 e2
   obtain ⟨o, o1, o2⟩ := (hφ.blk b blk hb).2.1.inC D e3
   rw [p3] at o1; cases o1; cases o2
  ·have := lt_of_some p3; omega
 have hfin : Sim C (s.app dst ⟨r2, touch, ed, news⟩) ν' (a.put dst v) w' := by
  refine ⟨hs.below.trans hbel, Nat.le_trans hs.base hbel.size, fun x hx => hs.fresh x (Nat.le_trans hbel.size hx), by rw [defers_put]; exact hdef, by rw [size_put]; exact hs.size, ?_, ⟨fun b => if b ∈ rl then (match σ' b with | some b0 => φ1 b0 | none => []) else φ b, ?_, ?_⟩, hs.kp, ?_, Nat.le_trans hs.szE hbel.size, hs.okM, hs.okF⟩
  ·exact put_env hs.size (dstB_ok hd).1 (fun t x h => by obtain ⟨v, h1, h2⟩ := hs.env t x h; exact ⟨v, h1, dfA_rep U O h2 (hdf t x h)⟩) (tameA_rep (h1 := hpL hl2) (u1 := ltb n') (ν1 := nuOf σ' ν1) hhe1 hν1 hused (cv2.rep hrep hr) htr)
  ·intro b blk' hb
   replace hb : editHp ed s.heap b = some blk' := hb
   by_cases e : b ∈ rl
   ·rw [hhe1 b e] at hb
    simp only [if_pos e]
    obtain ⟨_, g2, g3, g4⟩ := hh2.blk b blk' hb
    exact ⟨hused b e, tameBlk_rep (h1 := hpL hl2) (u1 := ltb n') (ν1 := nuOf σ' ν1) hhe1 hν1 hused e g2 (tameL_mem htl (hpL_mem hb)).2, g3, fun x hx => hM2 x (g4 x hx)⟩
   ·rw [hhe2 b e] at hb
    simp only [if_neg e]
    obtain ⟨g1, g2, g3, g4⟩ := hφ.blk b blk' hb
    exact ⟨U b g1, dfBlk_rep U O (hν2 b e) (fun x hx => hout b blk' x hb e hx) g2 (hdc b blk' hb e), g3, g4⟩
  ·intro b c x hb hc' hne hxb hxc
   replace hb : editHp ed s.heap b ≠ none := hb
   replace hc' : editHp ed s.heap c ≠ none := hc'
   by_cases e1 : b ∈ rl <;> by_cases e2 : c ∈ rl
   ·simp only [if_pos e1] at hxb
    simp only [if_pos e2] at hxc
    rw [hhe1 b e1] at hb
    rw [hhe1 c e2] at hc'
    exact hh2.apart b c x hb hc' hne hxb hxc
   ·simp only [if_pos e1] at hxb
    simp only [if_neg e2] at hxc
    rw [hhe1 b e1] at hb
    rw [hhe2 c e2] at hc'
    exact hcross b c x hb hc' e2 hxb hxc
   ·simp only [if_neg e1] at hxb
    simp only [if_pos e2] at hxc
    rw [hhe2 b e1] at hb
    rw [hhe1 c e2] at hc'
    exact hcross c b x hc' hb e1 hxc hxb
   ·simp only [if_neg e1] at hxb
    simp only [if_neg e2] at hxc
    rw [hhe2 b e1] at hb
    rw [hhe2 c e2] at hc'
    exact hφ.apart b c x hb hc' hne hxb hxc
  ·refine ⟨fun b hb => U b (hs.ext.used b hb), fun b blk' hb hl' => ?_, fun x hx hF => ?_, hs.ext.okE⟩
   ·obtain ⟨y, g1, g2, g3, g4⟩ := O b blk' (hs.ext.used b hb) hl'
    obtain ⟨z, k1, k2, k3, k4⟩ := hs.ext.old b y hb g1
    exact ⟨z, k1, k2.trans g2, k3.trans g3, g4.trans k4⟩
   ·obtain ⟨g1, g2⟩ := hs.ext.free x hx hF
    have hm : ¬ M2 x := fun hm => C.tm (by rw [← hs.kp]; exact hT) x hx (hM2 x hm) hF
    obtain ⟨p1, p2⟩ := hext.free x (lt_of_heap hx g1) hm
    refine ⟨p1.trans g1, fun b blk β c hb hν => ?_⟩
    replace hb : editHp ed s.heap b = some blk := hb
    by_cases e : b ∈ rl
    ·rw [hhe1 b e] at hb
     rw [hν1 b e] at hν
     exact cv2.free x p2 b blk β c hb hν
    ·rw [hhe2 b e] at hb
     rw [hν2 b e] at hν
     exact g2 b blk β c hb hν
 exact hK' _ _ (h.out C rfl _ _ _ hfin n0 Q hQ)⟩
end
end Go.Proofs.Ytinllccaphhmcaa
end

section
set_option linter.unusedVariables false
set_option linter.unusedSimpArgs false

namespace Go.Proofs.Ytinllccaphhmcaa
open Go.RowKit
set_option linter.unusedVariables false
theorem ov_cells {w : World} {h : Hp} {u : Us} {ν : Nu} : ∀ {cs : List AV} {vs : List Value} {S : List Nat}, RepOV w cs vs S → CellsRep w h u ν (cs.map toAbs) vs S
 | [], vs, S, r => by simp only [RepOV] at r; exact r
 | c :: cs, vs, S, r => by
  simp only [RepOV] at r
  obtain ⟨v, q, S1, S2, e1, e2, _, h3, h4⟩ := r
  refine ⟨v, q, S1, S2, e1, e2, ?_, ov_cells h4⟩
  cases c with
  | sc x => simp only [RepO] at h3; exact ⟨⟨h3.1, h3.2.1⟩, h3.2.2⟩
  | list k es => exact h3
  | _ => simp only [RepO] at h3
theorem absEs_lens {k : Nat} {es : List (List AV)} (h : ∀ cs ∈ es, cs.length = k) : ∀ cs ∈ absEs es, cs.length = k := by
 intro cs hcs
 unfold absEs at hcs
 obtain ⟨d, hd, rfl⟩ := List.mem_map.1 hcs
 rw [List.length_map]; exact h d hd
theorem absEs_flat (es : List (List AV)) : (absEs es).flatten = es.flatten.map toAbs := by
 unfold absEs
 rw [List.map_flatten]
theorem ent_open {s : AState} {b c i j k' : Nat} {blk : Blk} {cs : List AV} {es' : List (List AV)} (hT : s.kp.T = true) (hb : s.heap b = some blk) (hi : blk.es[i]? = some cs) (hj : cs[j]? = some (.abs k' es')) (hc : s.used c = false) (hdf : ∀ t x, s.env t = some x → dfA x = true) (hdc : ∀ b blk, s.heap b = some blk → ∀ cs ∈ blk.es, ∀ c ∈ cs, dfC c = true) :
  Ent s ⟨s.env, editHp [(c, some ⟨k', absEs es'⟩), (b, some ⟨blk.k, blk.es.set i (cs.take j ++ [.own c 0 es'.length] ++ cs.drop (j + 1))⟩)] s.heap, addUs [c] s.used, s.ns, s.kp⟩ := by
 intro C ν a w hs
 obtain ⟨φ, hh⟩ := hs.heap
 obtain ⟨hub, ⟨hk1, hx1⟩, hnd1, hB1⟩ := hh.blk b blk hb
 have hne : b ≠ c := by rintro rfl; rw [hub] at hc; cases hc
 have hcn : s.heap c = none := hs.unused hc
 have hcs := hk1 cs (List.mem_of_getElem? hi)
 have hjl : j < cs.length := by
  rcases Nat.lt_or_ge j cs.length with h' | h'
  ·exact h'
  ·rw [List.getElem?_eq_none h'] at hj; cases hj
 rcases hx1 with ⟨q1, q2, _⟩ | ⟨β, cap, arr, ty, T, vs, q1, q2, q3, q4, q5, q6, q7, q8⟩
 ·rw [q2] at hi; simp at hi
 have hdrop : blk.es.flatten.drop (i * blk.k + j) = .abs k' es' :: blk.es.flatten.drop (i * blk.k + j + 1) := by
  obtain ⟨r, hr⟩ := flatten_at hk1 hi
  have h1 : blk.es.flatten.drop (i * blk.k + j) = (cs ++ r).drop j := by rw [← hr, List.drop_drop]
  have h2 : blk.es.flatten.drop (i * blk.k + j + 1) = (cs ++ r).drop (j + 1) := by rw [← hr, List.drop_drop, Nat.add_assoc]
  rw [h1, h2, List.drop_append_of_le_length (by omega), List.drop_append_of_le_length (by omega), List.drop_eq_getElem_cons hjl]
  have : cs[j] = .abs k' es' := by simpa [hjl] using hj
  rw [this]; rfl
 have hfl : blk.es.flatten = blk.es.flatten.take (i * blk.k + j) ++ ([.abs k' es'] ++ blk.es.flatten.drop (i * blk.k + j + 1)) := by
  rw [List.singleton_append, ← hdrop, List.take_append_drop]
 rw [hfl] at q8
 obtain ⟨v1, v2, S1, S2, e1, e2, e3, e4, e5⟩ := q8.append_inv
 obtain ⟨v3, v4, S3, S4, f1, f2, f3, f4, f5⟩ := e5.append_inv
 subst f1 f2
 obtain ⟨v, r0, S5, S6, rfl, rfl, g1, ⟨rfl, rfl⟩⟩ := f4
 simp only [CellRep] at g1
 rw [List.append_nil] at e2
 have hφ : φ b = β :: (S1 ++ (S5 ++ S4)) := by rw [q6, e2]
 -- the new name's block
 obtain ⟨νc, hνc⟩ : ∃ νc : Option (Nat × Nat), (∀ (h : Hp) (u : Us) (ν' : Nu), ν' c = νc → BlkOk w h u ν' c ⟨k', absEs es'⟩ S5) ∧ (νc = none → v = .slice none 0 0) ∧ (∀ β' cap', νc = some (β', cap') → ownV β' 0 k' es'.length cap' v ∧ β' ∈ S5) := by
  simp only [RepO] at g1
  rcases g1 with ⟨rfl, rfl, rfl⟩ | ⟨β', cap', arr', ty', T', vs', p1, p2, p3, p4, p5, p6, rfl, p8, p9⟩
  ·exact ⟨none, fun h u ν' hν => ⟨by simp [absEs], .inl ⟨hν, rfl, rfl⟩⟩, fun _ => rfl, fun _ _ e => by cases e⟩
  ·have hl : (absEs es').length = es'.length := by simp [absEs]
   refine ⟨some (β', cap'), fun h u ν' hν => ⟨absEs_lens p6, .inr ⟨β', cap', arr', ty', T', vs', hν, p2, p3, by show (absEs es').length ≤ cap'; omega, p5, rfl, by show arr'.toList.take ((absEs es').length * k') = vs'; rw [hl]; exact p8, ?_⟩⟩, fun e => by (cases e), fun x y e => ?_⟩
   ·show CellsRep w h u ν' (absEs es').flatten vs' T'
    rw [absEs_flat]
    exact ov_cells (repOE_flat.1 p9)
   ·cases e; rw [p1]; exact ⟨ownV_zero, by simp⟩
 obtain ⟨hB, hn0, hn1⟩ := hνc
 let ν' : Nu := ⟨fun x => if x = c then νc else ν x, ν.ok⟩
 have hν1 : ν' c = νc := if_pos rfl
 have hν2 : ∀ x, x ≠ c → ν' x = ν x := fun x hx => if_neg hx
 have hl1 : editHp [(c, some ⟨k', absEs es'⟩), (b, some ⟨blk.k, blk.es.set i (cs.take j ++ [.own c 0 es'.length] ++ cs.drop (j + 1))⟩)] s.heap c = some ⟨k', absEs es'⟩ := by simp [editHp]
 have hl2 : editHp [(c, some ⟨k', absEs es'⟩), (b, some ⟨blk.k, blk.es.set i (cs.take j ++ [.own c 0 es'.length] ++ cs.drop (j + 1))⟩)] s.heap b = some ⟨blk.k, blk.es.set i (cs.take j ++ [.own c 0 es'.length] ++ cs.drop (j + 1))⟩ := by simp [editHp, beq_ne hne]
 have hl3 : ∀ x, x ≠ c → x ≠ b → editHp [(c, some ⟨k', absEs es'⟩), (b, some ⟨blk.k, blk.es.set i (cs.take j ++ [.own c 0 es'.length] ++ cs.drop (j + 1))⟩)] s.heap x = s.heap x := fun x h1 h2 => by simp [editHp, beq_ne h1, beq_ne h2]
 generalize hH : editHp [(c, some ⟨k', absEs es'⟩), (b, some ⟨blk.k, blk.es.set i (cs.take j ++ [.own c 0 es'.length] ++ cs.drop (j + 1))⟩)] s.heap = H at *
 have U : ∀ x, s.used x = true → addUs [c] s.used x = true := fun x hx => by rw [addUs_spec, hx, Bool.or_true]
 have O : ∀ x blk', s.used x = true → H x = some blk' → ∃ y, s.heap x = some y ∧ y.k = blk'.k ∧ y.es.length = blk'.es.length ∧ ν' x = ν x := by
  intro x blk' hu hx
  have hxc : x ≠ c := by rintro rfl; rw [hu] at hc; cases hc
  by_cases e : x = b
  ·subst e
   rw [hl2] at hx
   cases hx
   exact ⟨blk, hb, rfl, by simp, hν2 _ hxc⟩
  ·rw [hl3 x hxc e] at hx
   exact ⟨blk', hx, rfl, rfl, hν2 _ hxc⟩
 have hfl2 : ∀ d ∈ blk.es.flatten, dfC d = true := by
  intro d hd
  obtain ⟨ds, h1, h2⟩ := List.mem_flatten.1 hd
  exact hdc b blk hb ds h1 d h2
 refine ⟨ν', hs.below, hs.base, hs.fresh, hs.defers, hs.size, fun t x hx => by obtain ⟨v, h1, h2⟩ := hs.env t x hx; exact ⟨v, h1, dfA_rep U O h2 (hdf t x hx)⟩, ⟨fun x => if x = c then S5 else if x = b then β :: (S1 ++ S4) else φ x, ?_, ?_⟩, hs.kp, ?_, hs.szE, hs.okM, hs.okF⟩
 ·intro x blk2 hx
  replace hx : H x = some blk2 := hx
  have hnd := hnd1
  rw [hφ] at hnd
  have n1 := List.nodup_cons.1 hnd
  have n2 := List.nodup_append.1 n1.2
  have n3 := List.nodup_append.1 n2.2.1
  by_cases e : x = c
  ·subst e
   rw [hl1] at hx
   cases hx
   simp only [if_true]
   refine ⟨by rw [addUs_spec]; simp, hB _ _ _ hν1, n3.1, fun y hy => hB1 y (by rw [hφ]; simp [hy])⟩
  ·by_cases e0 : x = b
   ·subst e0
    rw [hl2] at hx
    cases hx
    simp only [if_neg e, if_true]
    refine ⟨U _ hub, ⟨?_, .inr ⟨β, cap, arr, ty, S1 ++ S4, vs, (hν2 _ e).trans q1, q2, q3, by simpa using q4, q5, rfl, by simpa using q7, ?_⟩⟩, ?_, ?_⟩
    ·intro d hd
     rcases List.mem_or_eq_of_mem_set hd with h | h
     ·exact hk1 d h
     ·rw [h]; simp; omega
    ·rw [set_flatten_y (n := 1) hk1 hi rfl (by omega), e1]
     have m1 : CellsRep w H (addUs [c] s.used) ν' [.own c 0 es'.length] [v] [] := by
      refine ⟨v, [], [], [], rfl, rfl, ⟨⟨by rw [addUs_spec]; simp, fun blk3 h3 => ?_⟩, rfl⟩, rfl, rfl⟩
      rw [hl1] at h3
      cases h3
      refine ⟨by simp [absEs], fun h4 => hn0 (hν1.symm.trans h4), fun β' c' h4 => (hn1 β' c' (hν1.symm.trans h4)).1⟩
     have m2 := (dfCs_rep (w' := w) (h' := H) (u' := addUs [c] s.used) (ν' := ν') U O (fun _ _ => rfl) e4 (fun d hd => hfl2 d (List.mem_of_mem_take hd))).append (m1.append (dfCs_rep (w' := w) (h' := H) (u' := addUs [c] s.used) (ν' := ν') U O (fun _ _ => rfl) f5 (fun d hd => hfl2 d (List.mem_of_mem_drop hd))))
     rw [List.append_assoc (List.take (i * blk.k + j) blk.es.flatten)]
     simpa using m2
    ·refine List.nodup_cons.2 ⟨fun hm => n1.1 ?_, List.nodup_append.2 ⟨n2.1, n3.2.1, fun y hy z hz => n2.2.2 y hy z (by simp [hz])⟩⟩
     rcases List.mem_append.1 hm with h | h <;> simp [h]
    ·intro y hy
     refine hB1 y ?_
     rw [hφ]
     rcases List.mem_cons.1 hy with rfl | h
     ·simp
     ·rcases List.mem_append.1 h with h | h <;> simp [h]
   ·rw [hl3 x e e0] at hx
    simp only [if_neg e, if_neg e0]
    obtain ⟨p1, p2, p3, p4⟩ := hh.blk x blk2 hx
    exact ⟨U _ p1, dfBlk_rep U O (hν2 _ e) (fun _ _ => rfl) p2 (hdc x blk2 hx), p3, p4⟩
 ·have hnd := hnd1
  rw [hφ] at hnd
  have n1 := List.nodup_cons.1 hnd
  have n2 := List.nodup_append.1 n1.2
  have n3 := List.nodup_append.1 n2.2.1
  have hbn : s.heap b ≠ none := by rw [hb]; simp
  have hS5 : ∀ y, y ∈ S5 → y ∈ φ b := fun y hy => by rw [hφ]; simp [hy]
  have hSb : ∀ y, y ∈ β :: (S1 ++ S4) → y ∈ φ b := fun y hy => by
   rw [hφ]
   rcases List.mem_cons.1 hy with rfl | h
   ·simp
   ·rcases List.mem_append.1 h with h | h <;> simp [h]
  have hcb : ∀ y, y ∈ S5 → y ∉ β :: (S1 ++ S4) := by
   intro y h5 hy
   rcases List.mem_cons.1 hy with rfl | h
   ·exact n1.1 (by simp [h5])
   ·rcases List.mem_append.1 h with h | h
    ·exact n2.2.2 y h y (by simp [h5]) rfl
    ·exact n3.2.2 y h5 y h rfl
  intro x1 x2 y hx1 hx2 hne2 hy1 hy2
  replace hx1 : H x1 ≠ none := hx1
  replace hx2 : H x2 ≠ none := hx2
  replace hy1 : y ∈ (if x1 = c then S5 else if x1 = b then β :: (S1 ++ S4) else φ x1) := hy1
  replace hy2 : y ∈ (if x2 = c then S5 else if x2 = b then β :: (S1 ++ S4) else φ x2) := hy2
  by_cases a1 : x1 = c <;> by_cases a2 : x2 = c
  ·exact hne2 (a1.trans a2.symm)
  ·rw [if_pos a1] at hy1
   rw [if_neg a2] at hy2
   by_cases b2 : x2 = b
   ·rw [if_pos b2] at hy2; exact hcb y hy1 hy2
   ·rw [if_neg b2] at hy2
    rw [hl3 x2 a2 b2] at hx2
    exact hh.apart b x2 y hbn hx2 (Ne.symm b2) (hS5 y hy1) hy2
  ·rw [if_neg a1] at hy1
   rw [if_pos a2] at hy2
   by_cases b1 : x1 = b
   ·rw [if_pos b1] at hy1; exact hcb y hy2 hy1
   ·rw [if_neg b1] at hy1
    rw [hl3 x1 a1 b1] at hx1
    exact hh.apart b x1 y hbn hx1 (Ne.symm b1) (hS5 y hy2) hy1
  ·rw [if_neg a1] at hy1
   rw [if_neg a2] at hy2
   by_cases b1 : x1 = b <;> by_cases b2 : x2 = b
   ·exact hne2 (b1.trans b2.symm)
   ·rw [if_pos b1] at hy1
    rw [if_neg b2] at hy2
    rw [hl3 x2 a2 b2] at hx2
    exact hh.apart b x2 y hbn hx2 (Ne.symm b2) (hSb y hy1) hy2
   ·rw [if_neg b1] at hy1
    rw [if_pos b2] at hy2
    rw [hl3 x1 a1 b1] at hx1
    exact hh.apart b x1 y hbn hx1 (Ne.symm b1) (hSb y hy2) hy1
   ·rw [if_neg b1] at hy1
    rw [if_neg b2] at hy2
    rw [hl3 x1 a1 b1] at hx1
    rw [hl3 x2 a2 b2] at hx2
    exact hh.apart x1 x2 y hx1 hx2 hne2 hy1 hy2
 ·refine ⟨fun x hx => U x (hs.ext.used x hx), fun x blk' hx hl' => ?_, fun x hx hF => ?_, hs.ext.okE⟩
  ·obtain ⟨y, g1, g2, g3, g4⟩ := O x blk' (hs.ext.used x hx) hl'
   obtain ⟨z, k1, k2, k3, k4⟩ := hs.ext.old x y hx g1
   exact ⟨z, k1, k2.trans g2, k3.trans g3, g4.trans k4⟩
  ·obtain ⟨g1, g2⟩ := hs.ext.free x hx hF
   refine ⟨g1, fun b2 blk2 β2 c2 hb2 h2 e => ?_⟩
   replace hb2 : H b2 = some blk2 := hb2
   by_cases a1 : b2 = c
   ·subst a1
    rw [hν1] at h2
    subst e
    exact C.tm (by rw [← hs.kp]; exact hT) β2 hx (hB1 β2 (by rw [hφ]; simp [(hn1 _ _ h2).2])) hF
   ·rw [hν2 _ a1] at h2
    by_cases a2 : b2 = b
    ·subst a2; exact g2 b2 blk β2 c2 hb h2 e
    ·rw [hl3 b2 a1 a2] at hb2
     exact g2 b2 blk2 β2 c2 hb2 h2 e
end Go.Proofs.Ytinllccaphhmcaa
end

section
set_option linter.unusedVariables false
set_option linter.unusedSimpArgs false

namespace Go.Proofs.Ytinllccaphhmcaa
open Go.RowKit
set_option linter.unusedVariables false
def Raw1 (κ : Kp) (x d : AV) : Prop := ∃ W G v S, κ.fx = some (W, G) ∧ x = .sc v ∧ RepD W d v S ∧ ∀ b ∈ S, G b
def RawK (κ : Kp) : AV → AV → Prop
 | .agg xs, .agg ds => All2 (Raw1 κ) xs ds
 | x, d => Raw1 κ x d
theorem Sim.stays {C : Ctx} {s : AState} {ν : Nu} {a : Act} {w : World} (hs : Sim C s ν a w) {κ : Kp} (hκ : s.kp = κ) {W : World} {G : Nat → Prop} (h : κ.fx = some (W, G)) {b : Nat} (hb : G b) : w.heap[b]? = W.heap[b]? ∧ FreeO s.heap ν b := by
 obtain ⟨e1, e2⟩ := C.fxp (W, G) (by rw [← hs.kp, hκ]; exact h)
 obtain ⟨e3, e4⟩ := e2 b hb
 obtain ⟨e5, e6⟩ := hs.ext.free b e3 e4
 rw [e1] at e5
 exact ⟨e5, e6, hs.okF (W, G) (by rw [← hs.kp, hκ]; exact h) b hb⟩
theorem Raw1.rep {C : Ctx} {s : AState} {ν ν' : Nu} {a : Act} {w : World} {h : Hp} {u : Us} (hs : Sim C s ν a w) {κ : Kp} (hκ : s.kp = κ) {x d : AV} {v : Value} (r : Rep1 w h u ν' x v) (m : Raw1 κ x d) : ∃ S', RepD w d v S' := by
 obtain ⟨W, G, y, S, h1, rfl, h2, h3⟩ := m
 rw [r.1]
 exact ⟨S, h2.keep fun b hm => (hs.stays hκ h1 (h3 b hm)).1⟩
theorem RawK.rep {C : Ctx} {s : AState} {ν : Nu} {a : Act} {w : World} (hs : Sim C s ν a w) {κ : Kp} (hκ : s.kp = κ) {x d : AV} {v : Value} (r : RepA w s.heap s.used ν x v) (m : RawK κ x d) : ∃ S', RepD w d v S' := by
 by_cases ho : ∃ xs ds, x = .agg xs ∧ d = .agg ds
 ·obtain ⟨xs, ds, rfl, rfl⟩ := ho
  obtain ⟨vs, rfl, r⟩ := r
  obtain ⟨S, h⟩ := views_rep (V := Raw1 κ) (fun x d v hr hm => hm.rep hs hκ hr) r m
  exact ⟨S, by simp only [RepD]; exact ⟨vs, rfl, h⟩⟩
 ·have m' : Raw1 κ x d := by
   cases x <;> first | exact m | (cases d <;> first | exact m | exact absurd ⟨_, _, rfl, rfl⟩ ho)
  obtain ⟨W, G, y, S, h1, rfl, h2, h3⟩ := m'
  exact Raw1.rep (h := s.heap) (u := s.used) (ν' := ν) (x := .sc y) hs hκ (show Rep1 w s.heap s.used ν (.sc y) v from r) ⟨W, G, y, S, h1, rfl, h2, h3⟩
def fxW (W : World) : Option (World × (Nat → Prop)) := some (W, fun x => x < W.heap.size)
theorem raw1_d {κ : Kp} {W : World} {d : AV} {v : Value} {S : List Nat} (h : κ.fx = fxW W) (r : RepD W d v S) : Raw1 κ (.sc v) d := ⟨W, _, v, S, h, rfl, r, r.lt⟩
theorem raw1_sc {κ : Kp} {W : World} {u : Value} (h : κ.fx = fxW W) (o : u.oneCell' = true) : Raw1 κ (.sc u) (.sc u) := raw1_d h (repD_sc o)
theorem raw_d {κ : Kp} {W : World} {k : Nat} {es : List (List AV)} {v : Value} {S : List Nat} (h : κ.fx = fxW W) (r : RepD W (.list k es) v S) : RawK κ (.sc v) (.list k es) := raw1_d h r
theorem raw_nil {κ : Kp} : RawK κ (.agg []) (.agg []) := rfl
theorem raw_cons {κ : Kp} {x d : AV} {xs ds : List AV} (a : Raw1 κ x d) (b : RawK κ (.agg xs) (.agg ds)) : RawK κ (.agg (x :: xs)) (.agg (d :: ds)) := ⟨d, ds, rfl, a, b⟩
def viewK (κ : Kp) (h : Hp) (x d : AV) : Prop := viewA h x d ∨ RawK κ x d
theorem vk_nil {κ : Kp} {h : Hp} : All2 (viewK κ h) [] [] := rfl
theorem vk_cons {κ : Kp} {h : Hp} {x d : AV} {xs ds : List AV} (a : viewK κ h x d) (b : All2 (viewK κ h) xs ds) : All2 (viewK κ h) (x :: xs) (d :: ds) := ⟨d, ds, rfl, a, b⟩
theorem views_repA {R : AV → Value → Prop} {V : AV → AV → Prop} {w : World} (hr : ∀ x d v, R x v → V x d → ∃ S', RepD w d v S') {xs ds : List AV} {vs : List Value} (r : All2 R xs vs) (m : All2 V xs ds) : ∃ S', RepVs w ds vs S' := views_rep hr r m
section
variable {P : Program} {dst : Option Tmp} {ty : TypeId} {pos : String} {aft : Array Edge} {g : Option (Nat × Bool)} {ins : Operand → Option AV} {hp : Hp} {κ : Kp}
theorem eff_callK {fo : Operand} {xs : Array Operand} {ats : Array TypeId} {f : FuncId} {avs ds : List AV} {r x : AV} {nb : List (Nat × Blk)} {ns ns' : List Nat} (hf : ins fo = some (.fn f [])) (hx : evs ins xs.toList = some avs) (hc : HasC P f ds r) (hv1 : All2 (viewK κ hp) avs ds) (hg : goodA r)
  (hi : impA ns r = (x, nb, ns')) (hfl : flatA x = true) (hn : ns.Nodup) :
  AEff P ⟨dst, .call ⟨.value fo, xs, ats⟩, ty, pos, aft, g⟩ ins hp κ ⟨x, avs.flatMap (touchA hp), editsOf nb, nb.map (·.1)⟩ := by
 refine ⟨fun C s ν a w Q K {hκ} hi' ht hnw hd hs hK => ?_⟩
 have h1 := hs.ev ((hi' fo (by simp [Op.operands, Call.operands])).trans hf)
 simp only [RepA, RepB] at h1
 obtain ⟨cv, h1, h2⟩ := h1
 simp only [All2] at h2
 subst h2
 obtain ⟨φ, hh⟩ := hs.heap
 have h3 := evs_rep hs (xs := xs.toList) (fun y hy => hi' y (by simp [Op.operands, Call.operands]; exact .inr (Array.mem_toList_iff.1 hy))) hx
 have hv1' : All2 (viewK κ s.heap) avs ds := hv1.congrM fun y hy d hd => hd.elim (fun hd => .inl (hd.congr fun b hb => ht b (List.mem_flatMap.2 ⟨y, hy, hb⟩))) .inr
 obtain ⟨S1, e1⟩ := views_repA (V := viewK κ s.heap) (fun x d v hr hv => hv.elim (fun hv => viewA.rep hh hr hv) (fun hv => hv.rep hs hκ hr)) h3 hv1'
 have hcall := hc.calls w (xs.map a.eval) S1 (by simpa using e1)
 unfold Oper.wp
 have hex : (execOp a.eval ⟨dst, .call ⟨.value fo, xs, ats⟩, ty, pos, aft, g⟩).run P w = .ok (.enter f (xs.map a.eval)) w := by
  have : execOp a.eval ⟨dst, .call ⟨.value fo, xs, ats⟩, ty, pos, aft, g⟩ = callFunc f (xs.map a.eval) := by
   simp [execOp, resolve, h1, Deferred.ofValue, invoke]
  rw [this]
  exact hc.enters _ _
 rw [hex]
 simp only [Oper.upon]
 refine hcall.mono fun e w' ⟨v, S', he, hb, hr, hnew⟩ => ?_
 subst he
 simp only
 obtain ⟨g1, X, Sf, g2, g3⟩ := impA_ok (w := w) hi hfl hr hg hnew.1 hn
 have hnn : (nb.map (·.1)).Nodup := by rw [g1] at hn; exact (List.nodup_append.1 hn).1
 obtain ⟨ν', hs'⟩ := hs.call hd hb g2 hnew hnn (fun b hb => hnw b hb) g3 (touch := avs.flatMap (touchA hp))
 exact hK ν' _ _ hs'
end
section
variable {P : Program} {dst : Option Tmp} {ty : TypeId} {pos : String} {aft : Array Edge} {g : Option (Nat × Bool)} {s : AState}
theorem w_call0sK {f : FuncId} {xs : Array Operand} {ats : Array TypeId} {avs ds : List AV} {u : Value} (hc : HasC P f ds (.sc u)) (hx : evs s.ev xs.toList = some avs) (hv1 : All2 (viewK s.kp s.heap) avs ds) :
  AEff P ⟨dst, .call ⟨.value (.func f), xs, ats⟩, ty, pos, aft, g⟩ s.ev s.heap s.kp ⟨.sc u, avs.flatMap (touchA s.heap), [], []⟩ :=
 eff_callK (ns := []) (nb := []) (r := .sc u) (x := .sc u) rfl hx hc hv1 trivial (impA_sc [] u) rfl (by simp)
theorem w_call0K {f : FuncId} {xs : Array Operand} {ats : Array TypeId} {avs ds : List AV} {r x : AV} {nb : List (Nat × Blk)} {ns' : List Nat} (hc : HasC P f ds r) (hx : evs s.ev xs.toList = some avs) (hi : impA s.ns r = (x, nb, ns')) (hfl : flatA x = true) (hn : nodupB s.ns = true) (hg : goodA r) (hv1 : All2 (viewK s.kp s.heap) avs ds) :
  AEff P ⟨dst, .call ⟨.value (.func f), xs, ats⟩, ty, pos, aft, g⟩ s.ev s.heap s.kp ⟨x, avs.flatMap (touchA s.heap), editsOf nb, nb.map (·.1)⟩ :=
 eff_callK rfl hx hc hv1 hg hi hfl (nodupB_ok hn)
end
def RawC (w : World) : List AV → (List AV → Prop) → Prop
 | [], K => K []
 | .sc u :: cs, K => RawC w cs (fun xs => K (.sc u :: xs))
 | d :: cs, K => ∀ v S, RepD w d v S → RawC w cs (fun xs => K (.sc v :: xs))
def RawEnv (w : World) : List AV → (List AV → Prop) → Prop
 | [], K => K []
 | .sc u :: ds, K => RawEnv w ds (fun xs => K (.sc u :: xs))
 | .agg cs :: ds, K => RawC w cs (fun xs => RawEnv w ds (fun ys => K (.agg xs :: ys)))
 | d :: ds, K => ∀ v S, RepD w d v S → RawEnv w ds (fun xs => K (.sc v :: xs))
theorem rawC_nil {w : World} {K : List AV → Prop} (h : K []) : RawC w [] K := h
theorem rawC_sc {w : World} {u : Value} {cs : List AV} {K : List AV → Prop} (h : RawC w cs (fun xs => K (.sc u :: xs))) : RawC w (.sc u :: cs) K := h
theorem rawC_d {w : World} {k : Nat} {es : List (List AV)} {cs : List AV} {K : List AV → Prop} (h : ∀ v S, RepD w (.list k es) v S → RawC w cs (fun xs => K (.sc v :: xs))) : RawC w (.list k es :: cs) K := h
theorem rawE_nil {w : World} {K : List AV → Prop} (h : K []) : RawEnv w [] K := h
theorem rawE_sc {w : World} {u : Value} {cs : List AV} {K : List AV → Prop} (h : RawEnv w cs (fun xs => K (.sc u :: xs))) : RawEnv w (.sc u :: cs) K := h
theorem rawE_agg {w : World} {xs cs : List AV} {K : List AV → Prop} (h : RawC w xs (fun xs => RawEnv w cs (fun ys => K (.agg xs :: ys)))) : RawEnv w (.agg xs :: cs) K := h
theorem rawE_d {w : World} {k : Nat} {es : List (List AV)} {cs : List AV} {K : List AV → Prop} (h : ∀ v S, RepD w (.list k es) v S → RawEnv w cs (fun xs => K (.sc v :: xs))) : RawEnv w (.list k es :: cs) K := h
def rawOk : AV → Bool
 | .sc u => u.oneCell'
 | .agg cs => cs.all cellB
 | .list _ _ => true
 | _ => false
theorem repD_one {w : World} {d : AV} {v : Value} {S : List Nat} (r : RepD w d v S) (ok : cellB d = true) : v.oneCell' = true := by
 cases d <;> simp only [cellB, Bool.false_eq_true] at ok <;> simp only [RepD] at r
 ·rw [r.1]; exact ok
 ·obtain ⟨a, c, rfl, _⟩ := r; rfl
theorem rawC_ok {w : World} : ∀ {cs : List AV} {us : List Value} {S : List Nat} {K : List AV → Prop}, RepVs w cs us S → cs.all cellB = true → RawC w cs K → ∃ xs, K xs ∧ ∀ (w' : World) (h : Hp) (u : Us) (ν : Nu), All2 (Rep1 w' h u ν) xs us
 | [], us, S, K, r, _, k => by simp only [RepVs] at r; obtain ⟨rfl, _⟩ := r; exact ⟨[], k, fun _ _ _ _ => rfl⟩
 | c :: cs, us, S, K, r, ok, k => by
  simp only [RepVs] at r
  obtain ⟨v, q, S1, S2, rfl, rfl, h3, h4⟩ := r
  simp only [List.all_cons, Bool.and_eq_true] at ok
  have key : ∀ x, RawC w cs (fun xs => K (x :: xs)) → x = .sc v → ∃ xs, K xs ∧ ∀ (w' : World) (h : Hp) (u : Us) (ν : Nu), All2 (Rep1 w' h u ν) xs (v :: q) := by
   rintro x k1 rfl
   obtain ⟨xs, g1, g2⟩ := rawC_ok h4 ok.2 k1
   exact ⟨.sc v :: xs, g1, fun w' h u ν => ⟨v, q, rfl, ⟨rfl, repD_one h3 ok.1⟩, g2 w' h u ν⟩⟩
  cases c <;> simp only [cellB, Bool.false_eq_true, false_and] at ok
  ·simp only [RepD] at h3
   exact key _ k (by rw [h3.1])
  ·exact key _ (k v S1 h3) rfl
theorem rawEnv_ok {w : World} : ∀ {ds : List AV} {vs : List Value} {S : List Nat} {K : List AV → Prop}, RepVs w ds vs S → ds.all rawOk = true → RawEnv w ds K → ∃ xs, K xs ∧ xs.length = ds.length ∧ ∀ (h : Hp) (u : Us) (ν : Nu), All2 (RepA w h u ν) xs vs
 | [], vs, S, K, r, _, k => by simp only [RepVs] at r; obtain ⟨rfl, _⟩ := r; exact ⟨[], k, rfl, fun _ _ _ => rfl⟩
 | d :: ds, vs, S, K, r, ok, k => by
  simp only [RepVs] at r
  obtain ⟨v, q, S1, S2, rfl, rfl, h3, h4⟩ := r
  simp only [List.all_cons, Bool.and_eq_true] at ok
  have key : ∀ x, RawEnv w ds (fun xs => K (x :: xs)) → (∀ (h : Hp) (u : Us) (ν : Nu), RepA w h u ν x v) → ∃ xs, K xs ∧ xs.length = (d :: ds).length ∧ ∀ (h : Hp) (u : Us) (ν : Nu), All2 (RepA w h u ν) xs (v :: q) := by
   intro x k1 hx
   obtain ⟨xs, g1, g2, g3⟩ := rawEnv_ok h4 ok.2 k1
   exact ⟨x :: xs, g1, by simp [g2], fun h u ν => ⟨v, q, rfl, hx h u ν, g3 h u ν⟩⟩
  cases d <;> simp only [rawOk, Bool.false_eq_true, false_and] at ok
  ·simp only [RepD] at h3
   exact key _ k fun h u ν => by simp only [RepA, RepB, Rep1]; exact ⟨h3.1, h3.2.1⟩
  ·exact key _ (k v S1 h3) fun h u ν => (show Rep1 w h u ν (.sc v) v from ⟨rfl, repD_one h3 rfl⟩)
  ·have h3' := h3
   simp only [RepD] at h3'
   obtain ⟨us, rfl, h5⟩ := h3'
   obtain ⟨xs, g1, g2⟩ := rawC_ok h5 ok.1 k
   exact key _ g1 fun h u ν => by simp only [RepA, RepB]; exact ⟨us, rfl, g2 w h u ν⟩
theorem hasC_mkW {P : Program} {T : List (Nat × Ty)} (hT : TyOk P T) {f : FuncId} {fn : Func} {c : Code} {nt : Nat} {ds : List AV} {r : AV} {rvs : List ResultVar} {ns : List Nat} (hf : P.funcs[f]? = some fn) (hb : fn.body = some c) (hname : (fn.name == "runtime.NumGoroutine") = false) (hnt : fn.ntmps = nt) (hres : fn.results.toList = rvs)
  (hlen : Nat.ble ds.length nt = true) (hok : ds.all rawOk = true) (h : ∀ W : World, RawEnv W ds fun xs => AC P nt c ⟨nthA xs, hpL [], ltb 0, ns, ⟨0, true, fxW W, true⟩⟩ (RetQ T rvs r)) : HasC P f ds r := by
 refine ⟨Enters.mk hf (by rw [hb]; rfl) hname, fun w args S hargs => ?_⟩
 refine (callsIn_wide (n := 0)).1 (callsIn_of_wp_marks (F := fw none) hf hb trivial ?_)
 have hlen' := Nat.le_of_ble_eq_true hlen
 have hal : args.size = ds.length := by have := hargs.len; simpa using this
 obtain ⟨xs, hac, hxl, hxr⟩ := rawEnv_ok hargs hok (h w)
 let C : Ctx := ⟨w.heap.size, w, nt, fun x => w.heap.size ≤ x, fun _ h => h, ⟨0, true, fxW w, true⟩, w, hpL [], Nu.none, fun x => x < w.heap.size, fun _ x hx hm => absurd hx (Nat.not_lt.2 hm), (fun p h => by cases h; exact ⟨rfl, fun x hx => ⟨hx, hx⟩⟩), none, fun _ => rfl⟩
 have hfr : ∀ x, Free (hpL []) Nu.none x := fun x b blk β c hb => by cases hb
 have hsim : Sim C ⟨nthA xs, hpL [], ltb 0, ns, ⟨0, true, fxW w, true⟩⟩ Nu.none ⟨args ++ Array.replicate (fn.ntmps - args.size) undef, []⟩ w := by
  refine ⟨Below.refl _ _, Nat.le_refl _, fun _ hx => hx, okD_nil, by show (args ++ Array.replicate (fn.ntmps - args.size) undef).size = nt; simp [hnt]; omega, ?_, ⟨fun _ => [], fun b blk hb => (by cases hb), fun b c x hb => absurd rfl hb⟩, rfl, ExtF.refl fun x _ _ => hfr x, Nat.le_refl _, fun _ _ => trivial, fun _ _ _ _ => trivial⟩
  intro t x hx
  have hx' : xs[t]? = some x := by rw [← nthA_get]; exact hx
  obtain ⟨v, h1, h2⟩ := (hxr (hpL []) (ltb 0) Nu.none).get hx'
  refine ⟨v, ?_, h2⟩
  have hlt : t < args.size := by
   rcases Nat.lt_or_ge t args.size with h' | h'
   ·exact h'
   ·rw [List.getElem?_eq_none (by simpa using h')] at h1; cases h1
  show (args ++ Array.replicate (fn.ntmps - args.size) undef)[t]? = some v
  rw [Array.getElem?_append_left hlt]
  simpa using h1
 refine wpIn_mono (hac.out C rfl _ _ w hsim 0) fun e a' w0 ⟨s', ν', hq, hs0⟩ => ?_
 obtain ⟨Ds, d1, d2, d3⟩ := hs0.defers
 obtain ⟨w', hs', hleave⟩ := hs0.leave (P := P) (n := 0) d1 d2 d3
 obtain ⟨he, avs, hv, hn, hfz⟩ := hq
 obtain ⟨us, h1, h2⟩ := resVars_run hT hs' hv
 obtain ⟨φ, hh⟩ := hs'.heap
 have hn' := nodupB_ok hn
 have hrun : (results fn a'.tmps).run P w' = .ok (if hh : us.toArray.size = 1 then us.toArray[0] else .tuple us.toArray) w' := by
  unfold results
  rw [Sem.run_bind, Array.mapM_eq_mapM_toList, Sem.run_map, hres]
  have h1' := h1
  generalize hq : (List.mapM _ rvs : Sem (List Value)) = m
  rw [show Sem.run P m w' = .ok us w' by rw [← hq]; exact h1']
  simp
 have hres2 : ∃ S', ResA w' r (if hh : us.toArray.size = 1 then us.toArray[0] else .tuple us.toArray) S' ∧ New w.heap.size S' := by
  have hul : us.length = avs.length := h2.len
  unfold frzs at hfz
  split at hfz
  ·rename_i v r'
   obtain ⟨u, q, rfl, g1, g2⟩ := h2
   simp only [All2] at g2
   subst g2
   simp only [List.flatMap_cons, List.flatMap_nil, List.append_nil] at hn'
   obtain ⟨S', a1, a2, a3, a4⟩ := frzB_rep hh g1 hfz.1 hn'
   refine ⟨S', ?_, a2, a3⟩
   simp only [List.size_toArray, List.length_cons, List.length_nil, Nat.zero_add, dite_true]
   have hnt := hfz.2
   cases r <;> first | exact a1 | exact absurd rfl (hnt _)
  ·rename_i vs rs _
   obtain ⟨S', a1, a2, a3, a4⟩ := frzBs_rep hh h2 hfz.2 hn'
   refine ⟨S', ?_, a2, a3⟩
   rw [dif_neg (by simp; rw [hul]; exact hfz.1)]
   exact ⟨us, rfl, a1⟩
  ·exact hfz.elim
 obtain ⟨S', hr1, hr2⟩ := hres2
 have hend := hleave fn (fun e w' => ∃ v S', e = .returned v ∧ Below w.heap.size w w' ∧ ResA w' r v S' ∧ New w.heap.size S') ⟨_, hrun, _, S', rfl, hs'.below, hr1, hr2⟩
 cases e <;> simp only [isEnd, Bool.false_eq_true] at he <;> exact hend
def dfE : List (Nat × AV) → Prop
 | [] => True
 | (_, x) :: r => dfA x = true ∧ dfE r
theorem dfE_ok : ∀ {l : List (Nat × AV)}, dfE l → ∀ t x, envL l t = some x → dfA x = true
 | [], _, t, x, h => by cases h
 | (k, v) :: r, ⟨h1, h2⟩, t, x, h => by
  simp only [envL] at h
  cases hb : Nat.beq t k with
  | true => rw [hb] at h; cases h; exact h1
  | false => rw [hb] at h; exact dfE_ok h2 t x h
def dfR (y : Blk) : Prop := ∀ cs ∈ y.es, ∀ c ∈ cs, dfC c = true
def dfH (skip : List Nat) : List (Nat × Blk) → Prop
 | [] => True
 | (b, y) :: r => (b ∈ skip ∨ dfR y) ∧ dfH skip r
theorem dfH_ok {skip : List Nat} : ∀ {l : List (Nat × Blk)}, dfH skip l → ∀ b blk, hpL l b = some blk → b ∉ skip → ∀ cs ∈ blk.es, ∀ c ∈ cs, dfC c = true
 | [], _, b, x, h => by cases h
 | (k, v) :: r, ⟨h1, h2⟩, b, x, h => by
  simp only [hpL] at h
  by_cases e : b = k
  ·subst e
   rw [beq_self] at h
   cases h
   intro hn
   exact h1.elim (fun h => absurd h hn) id
  ·rw [beq_ne e] at h
   exact dfH_ok h2 b x h
theorem EOk.df {α : Type} {k : Nat} {e : α → List AV} (E : EOk k e) (k' : Nat) (l : List α) : dfR ⟨k', l.map (ow e)⟩ := by
 intro cs hcs c hc
 obtain ⟨x, _, rfl⟩ := List.mem_map.1 hcs
 obtain ⟨d, hd, rfl⟩ := List.mem_map.1 hc
 have := E.mem x d hd
 cases d <;> simp only [cellB, Bool.false_eq_true] at this <;> rfl
theorem EOk.dfS {α : Type} {k : Nat} {e : α → List AV} (E : EOk k e) (k' : Nat) (l : List α) (i : Nat) {c : List AV} (h : c.all dfC = true) : dfR ⟨k', (l.map (ow e)).set i c⟩ := by
 intro cs hcs d hd
 rcases List.mem_or_eq_of_mem_set hcs with h1 | rfl
 ·exact E.df k' l cs h1 d hd
 ·exact List.all_eq_true.1 h d hd
theorem df_lit {k : Nat} {es : List (List AV)} (h : (es.all fun cs => cs.all dfC) = true) : dfR ⟨k, es⟩ := fun cs hcs c hc => List.all_eq_true.1 (List.all_eq_true.1 h cs hcs) c hc
theorem open_row {α : Type} {e : α → List AV} {l : List α} {i : Nat} {v : α} (h : l[i]? = some v) : l.map (ow e) = (l.map (ow e)).set i (ow e v) := by
 rw [← List.map_set]
 congr 1
 refine List.ext_getElem? fun j => ?_
 rw [List.getElem?_set]
 by_cases e : i = j
 ·subst e
  have : i < l.length := by
   rcases Nat.lt_or_ge i l.length with h' | h'
   ·exact h'
   ·rw [List.getElem?_eq_none h'] at h; cases h
  rw [if_pos rfl, if_pos this, h]
 ·rw [if_neg e]
theorem set_plain {α : Type} {k : Nat} {e : α → List AV} (E : EOk k e) {l : List α} {i : Nat} {c : List AV} (h : c.all nameless = true) : plainEs ((l.map (ow e)).set i c) := by
 intro cs hcs d hd
 rcases List.mem_or_eq_of_mem_set hcs with h1 | rfl
 ·exact E.plainO l cs h1 d hd
 ·exact List.all_eq_true.1 h d hd
theorem ent_openS {s : AState} {b c i j k k' n : Nat} {A es' fs : List (List AV)} {cs : List AV} (hi : i < A.length) (hT : s.kp.T = true) (hb : s.heap b = some ⟨k, A.set i cs⟩) (hj : cs[j]? = some (.abs k' es')) (hc : s.used c = false) (hn : es'.length = n) (hfs : absEs es' = fs) (hdf : ∀ t x, s.env t = some x → dfA x = true) (hdc : ∀ b blk, s.heap b = some blk → b ∉ ([] : List Nat) → ∀ cs ∈ blk.es, ∀ c ∈ cs, dfC c = true) :
  Ent s ⟨s.env, editHp [(c, some ⟨k', fs⟩), (b, some ⟨k, A.set i (setR cs j [.own c 0 n])⟩)] s.heap, addUs [c] s.used, s.ns, s.kp⟩ := by
 subst hn hfs
 have hjl : j < cs.length := by
  rcases Nat.lt_or_ge j cs.length with h' | h'
  ·exact h'
  ·rw [List.getElem?_eq_none h'] at hj; cases hj
 have h := ent_open (c := c) hT hb (i := i) (cs := cs) (by simp [hi]) hj hc hdf (fun b blk hb => hdc b blk hb (by simp))
 have e := setR_eq (cs := cs) (j := j) (vs := [.own c 0 es'.length]) (by simp; omega)
 simp only [List.length_singleton] at e
 rw [e] at h
 simp only [List.set_set] at h
 exact h
theorem x_storeS {P : Program} {T : List (Nat × Ty)} {dst : Option Tmp} {ty : TypeId} {pos : String} {aft : Array Edge} {g : Option (Nat × Bool)} {s : AState} (hT : TyOk P T) {t : TypeId} {y : Ty} {x z : Operand} {val : AV} {b i j kk : Nat} {A : List (List AV)} {cs : List AV} (hi : i < A.length) (hx : s.ev x = some (.ptr b i j)) (hb : s.heap b = some ⟨kk, A.set i cs⟩) (hz : s.ev z = some val) (hy : tyOf T t = some y) (hsz : Nat.beq (cellsOf val).length y.size = true) (ok : (cellsOf val).all (okCell s.heap) = true) (hn : Nat.ble (j + y.size) cs.length = true) :
  AEff P ⟨dst, .store t x z, ty, pos, aft, g⟩ s.ev s.heap s.kp ⟨.dead, b :: namesOf (cellsOf val), [(b, some ⟨kk, A.set i (setR cs j (cellsOf val))⟩)], []⟩ := by
 have h := w_store (P := P) hT (dst := dst) (ty := ty) (pos := pos) (aft := aft) (g := g) hx hb hz hy hsz ok (i := i) (cs := cs) (by simp [hi]) hn
 rw [List.set_set] at h
 exact h
theorem x_srcP {α : Type} {k : Nat} {e : α → List AV} {hp : Hp} {b i n : Nat} {l : List α} (E : EOk k e) (hb : hp b = some ⟨k, l.map (ow e)⟩) : srcEls hp (.own b i n) = some (k, ((l.drop i).take n).map e, [b]) := by
 simp only [srcEls, hb, ← List.map_drop, ← List.map_take]
 rw [x_seen E]
section
variable {P : Program} {ops : Array Oper} {nt : Nat} {l : List Oper} {s : AState} {K : AState → Prop}
theorem sops_lit {t u : Bool} (i : Nat) (hi : s.env i = some (.sc (.bool t))) (q : t = u) (h : SOps P ops nt l ⟨upd (some i) (.sc (.bool u)) s.env, s.heap, s.used, s.ns, s.kp⟩ K) : SOps P ops nt l s K := by
 subst q
 rw [upd_same hi] at h
 exact h
theorem sops_skip {d : Option Tmp} {op : Op} {ty : TypeId} {pos : String} {aft : Array Edge} {g : Option (Nat × Bool)} (hg : wantedA ops s.env ⟨d, op, ty, pos, aft, g⟩ = some false) (hd : dstB ⟨d, op, ty, pos, aft, g⟩ nt = true) (h : SOps P ops nt l ⟨upd d (.tuple []) s.env, s.heap, s.used, s.ns, s.kp⟩ K) : SOps P ops nt (⟨d, op, ty, pos, aft, g⟩ :: l) s K := ⟨fun C hC ν a w hs n Q hQ => by
 subst hC
 refine wpListIn_step fun K' hK' => ?_
 have hst : Step P ops C.nt ⟨d, op, ty, pos, aft, g⟩ s deadEff := ⟨dstB_ok hd, .inr ⟨hg, rfl⟩⟩
 exact step_sound hst hs fun ν' a' w' hs' => hK' _ _ (h.out C rfl ν' a' w' hs' n Q hQ)⟩
end
end Go.Proofs.Ytinllccaphhmcaa
end

section
set_option linter.unusedVariables false
set_option linter.unusedSimpArgs false

namespace Go.Proofs.Ytinllccaphhmcaa
open Go.RowKit
set_option linter.unusedVariables false
theorem k {α : Sort _} {a : α} : a = a := rfl
section
variable {P : Program} {ops : Array Oper} {nt : Nat} {r : List Oper} {s : AState} {tr : List Tr} {K : List Tr → AState → Prop} {K' : AState → Prop}
def opB (ops : Array Oper) (nt : Nat) (s : AState) (o : Oper) (news : List Nat) : Bool := dstB o nt && ((match wantedA ops s.env o with | some true => true | _ => false) && news.all fun b => !s.used b)
theorem opB_ok {o : Oper} {news : List Nat} (h : opB ops nt s o news = true) : dstB o nt = true ∧ wantedA ops s.env o = some true ∧ (news.all fun b => !s.used b) = true := by
 simp only [opB, Bool.and_eq_true] at h
 obtain ⟨h1, h2, h3⟩ := h
 refine ⟨h1, ?_, h3⟩
 split at h2
 ·assumption
 ·cases h2
theorem ae {d : Option Tmp} {op : Op} {ty : TypeId} {pos : String} {aft : Array Edge} {g : Option (Nat × Bool)} {e : Eff} (he : AEff P ⟨d, op, ty, pos, aft, g⟩ s.ev s.heap s.kp e) (hb : opB ops nt s ⟨d, op, ty, pos, aft, g⟩ e.news = true) (h : AOps P ops nt r (s.app d e) (trOf e :: tr) K) : AOps P ops nt (⟨d, op, ty, pos, aft, g⟩ :: r) s tr K :=
 aops_eff he (opB_ok hb).1 (opB_ok hb).2.1 (opB_ok hb).2.2 h
theorem se {d : Option Tmp} {op : Op} {ty : TypeId} {pos : String} {aft : Array Edge} {g : Option (Nat × Bool)} {e : Eff} (he : AEff P ⟨d, op, ty, pos, aft, g⟩ s.ev s.heap s.kp e) (hb : opB ops nt s ⟨d, op, ty, pos, aft, g⟩ e.news = true) (h : SOps P ops nt r (s.app d e) K') : SOps P ops nt (⟨d, op, ty, pos, aft, g⟩ :: r) s K' :=
 sops_eff he (opB_ok hb).1 (opB_ok hb).2.1 (opB_ok hb).2.2 h
theorem am {d : Option Tmp} {ty : TypeId} {pos : String} {aft : Array Edge} {g : Option (Nat × Bool)} {x : Operand} {v : AV} (hx : s.ev x = some v) (hb : opB ops nt s ⟨d, .move x, ty, pos, aft, g⟩ [] = true) (h : AOps P ops nt r (s.app d ⟨v, [], [], []⟩) (trOf ⟨v, [], [], []⟩ :: tr) K) : AOps P ops nt (⟨d, .move x, ty, pos, aft, g⟩ :: r) s tr K := ae (eff_move hx) hb h
theorem aa {d : Option Tmp} {ty : TypeId} {pos : String} {aft : Array Edge} {g : Option (Nat × Bool)} {x : Operand} {v : AV} (hx : s.ev x = some v) (hb : opB ops nt s ⟨d, .assign x, ty, pos, aft, g⟩ [] = true) (h : AOps P ops nt r (s.app d ⟨v, [], [], []⟩) (trOf ⟨v, [], [], []⟩ :: tr) K) : AOps P ops nt (⟨d, .assign x, ty, pos, aft, g⟩ :: r) s tr K := ae (eff_assign hx) hb h
theorem an (h : K tr s) : AOps P ops nt [] s tr K := aops_nil h
theorem sn (h : K' s) : SOps P ops nt [] s K' := sops_nil h
variable {Q : Exit → AState → Prop}
theorem sQ {x y : Code} (h : AC P nt x s (thenA (fun s' => AC P nt y s' Q) Q)) : AC P nt (.seq x y) s Q := ac_seq h
theorem rg {id : Nat} {l : List Oper} (h : AOps P l.toArray nt l s [] (fun _ s' => Q .normal s')) : AC P nt (.region id l.toArray false) s Q := ac_region h
theorem rgS {id : Nat} {l : List Oper} (h : SOps P l.toArray nt l s (Q .normal)) : AC P nt (.region id l.toArray false) s Q := ac_regionS h
theorem tn (h : K' s) : thenA K' Q .normal s := h
end
theorem al {α β : Type} {R : α → β → Prop} {c : α} {cs : List α} {v : β} {vs : List β} (a : R c v) (b : All2 R cs vs) : All2 R (c :: cs) (v :: vs) := ⟨v, vs, rfl, a, b⟩
theorem e1 {e : Nat → Option AV} {σ : Nat → Option Nat} {n t : Nat} {x y : AV} (h : e t = some x) (m : matchA σ n x y) : ∃ x, e t = some x ∧ matchA σ n x y := ⟨x, h, m⟩
theorem ak {P : Program} {ops : Array Oper} {nt : Nat} {r : List Oper} {s : AState} {tr : List Tr} {K : List Tr → AState → Prop} {d : Option Tmp} {op : Op} {ty : TypeId} {pos : String} {aft : Array Edge} {g : Option (Nat × Bool)} (hg : wantedA ops s.env ⟨d, op, ty, pos, aft, g⟩ = some false) (hd : dstB ⟨d, op, ty, pos, aft, g⟩ nt = true) (h : AOps P ops nt r ⟨upd d (.tuple []) s.env, s.heap, s.used, s.ns, s.kp⟩ (⟨[], []⟩ :: tr) K) : AOps P ops nt (⟨d, op, ty, pos, aft, g⟩ :: r) s tr K := aops_skip hg hd h
theorem oE {e : Nat → Option AV} {σ : Nat → Option Nat} {n t b i m b' i' m' : Nat} (h : e t = some (.own b i m)) (p : (σ b', i, m, Nat.blt b' n) = (some b, i', m', true)) : ∃ x, e t = some x ∧ matchA σ n x (.own b' i' m') := by
 obtain ⟨p1, p⟩ := Prod.mk.inj p
 obtain ⟨p2, p⟩ := Prod.mk.inj p
 obtain ⟨p3, p4⟩ := Prod.mk.inj p
 exact ⟨_, h, p1, p2, p3, p4⟩
theorem pE {e : Nat → Option AV} {σ : Nat → Option Nat} {n t b i m b' i' m' : Nat} (h : e t = some (.ptr b i m)) (p : (σ b', i, m, Nat.blt b' n) = (some b, i', m', true)) : ∃ x, e t = some x ∧ matchA σ n x (.ptr b' i' m') := by
 obtain ⟨p1, p⟩ := Prod.mk.inj p
 obtain ⟨p2, p⟩ := Prod.mk.inj p
 obtain ⟨p3, p4⟩ := Prod.mk.inj p
 exact ⟨_, h, p1, p2, p3, p4⟩
section
variable {σ : Nat → Option Nat} {n b b0 k : Nat} {h : Hp} {r : List (Nat × Blk)}
theorem hB {y : Blk} (hp : plainEs y.es) (hs : σ b = some b0) (hb : h b0 = some y) (hn : Nat.blt b n = true) (hr : EntH σ n h r) : EntH σ n h ((b, y) :: r) := by
 simp only [EntH]
 rw [hs]
 exact ⟨⟨y, hb, rfl, .inl ⟨rfl, hp⟩⟩, hn, hr⟩
theorem hI {l : List Int} (hs : σ b = some b0) (hb : h b0 = some ⟨1, List.map (ow eI) l⟩) (hn : Nat.blt b n = true) (hr : EntH σ n h r) : EntH σ n h ((b, ⟨1, List.map (ow eI) l⟩) :: r) := hB (okI.plainO _) hs hb hn hr
theorem hP {y : Blk} (hs : σ b = some b0) (hb : h b0 = some y) (hp : (y.es.all fun cs => cs.all nameless) = true) (hn : Nat.blt b n = true) (hr : EntH σ n h r) : EntH σ n h ((b, y) :: r) := hB (plain_of hp) hs hb hn hr
theorem hX {y : Blk} (hm : match σ b with | some b0 => ∃ x, h b0 = some x ∧ matchB σ n x y | none => y.es = []) (hn : Nat.blt b n = true) (hr : EntH σ n h r) : EntH σ n h ((b, y) :: r) := ⟨hm, hn, hr⟩
end
theorem lenL {P : Program} {T : List (Nat × Ty)} (hT : TyOk P T) {dst : Option Tmp} {pos : String} {aft : Array Edge} {g : Option (Nat × Bool)} {s : AState} {x : Operand} {t e k : Nat} {y : Ty} {dty : TypeId} {α : Type} {f : α → List AV} {l : List α} (hx : s.ev x = some (.list k (List.map f l))) (hy : tyOf T t = some y) (hd : y.desc = .slice e) :
  AEff P ⟨dst, .call ⟨.builtin .len, #[x], #[t]⟩, dty, pos, aft, g⟩ s.ev s.heap s.kp ⟨.int l.length, [], [], []⟩ := AEff.val (w_len_list hT hx hy hd) (by rw [List.length_map])
theorem lA {α : Type} {a b : List α} : (a ++ b).length = a.length + b.length := List.length_append
theorem lT {α : Type} {a : List α} {i : Nat} {x : α} : (a.set i x).length = a.length := List.length_set
theorem lR {α : Type} {n : Nat} {x : α} : (List.replicate n x).length = n := List.length_replicate
theorem lC {α : Type} {a : α} {b : List α} : (a :: b).length = b.length + 1 := List.length_cons
theorem lN {α : Type} : ([] : List α).length = 0 := List.length_nil
theorem oa_nil : ([] : List AV).all okArg = true := rfl
theorem oa_cons {d : AV} {ds : List AV} (h1 : okArg d = true) (h2 : ds.all okArg = true) : (d :: ds).all okArg = true := by
 rw [List.all_cons, h1, h2]; rfl
end Go.Proofs.Ytinllccaphhmcaa
end

/-
  Encodings, and more rules for walking along a model. No program stands in this text.
-/
import Derived.Test.YtjfcjkeghigipaaX2
namespace Go.Proofs.Ytjfcjkeghigipaa
open Go.RowKit
set_option linter.unusedVariables false

theorem MIXX : Try.prog.follows .mixedOrders = true := by kernel_rfl
structure Pa where
  start : Int
  arrows : List Int
  deriving DecidableEq
def ePa (p : Pa) : List AV := [.int p.start, ints p.arrows]
abbrev eBo (b : Bool) : List AV := [.bl b]
abbrev eStr (b : ByteArray) : List AV := [.str b]
def eLs {α : Type} (k : Nat) (e : α → List AV) (l : List α) : List AV := [.list k (l.map e)]
theorem okI : EOk 1 eI := ⟨fun _ => rfl, fun _ => rfl⟩
theorem okBo : EOk 1 eBo := ⟨fun _ => rfl, fun _ => rfl⟩
theorem okStr : EOk 1 eStr := ⟨fun _ => rfl, fun _ => rfl⟩
theorem okLs {α : Type} {k : Nat} {e : α → List AV} : EOk 1 (eLs k e) := ⟨fun _ => rfl, fun _ => rfl⟩
theorem okQv : EOk 3 eQ := ⟨fun _ => rfl, fun _ => rfl⟩
theorem okMt : EOk 3 eM := ⟨fun _ => rfl, fun _ => rfl⟩
theorem okRp : EOk 6 eR := ⟨fun _ => rfl, fun _ => rfl⟩
theorem okSc : EOk 2 eS := ⟨fun _ => rfl, fun _ => rfl⟩
theorem okBr : EOk 3 eB := ⟨fun _ => rfl, fun _ => rfl⟩
theorem okPa : EOk 2 ePa := ⟨fun _ => rfl, fun _ => rfl⟩
theorem okCl : EOk 18 eC := ⟨fun _ => rfl, fun _ => rfl⟩
theorem okIo : EOk 1 (ow eI) := ⟨fun _ => rfl, fun _ => rfl⟩
theorem okBoo : EOk 1 (ow eBo) := ⟨fun _ => rfl, fun _ => rfl⟩
theorem okStro : EOk 1 (ow eStr) := ⟨fun _ => rfl, fun _ => rfl⟩
theorem EOk.own {α : Type} {k : Nat} {e : α → List AV} (E : EOk k e) (h : ∀ x, (ow e x).all cellB = true) : EOk k (ow e) := ⟨fun x => by simp [ow, E.len], h⟩

theorem at_lt2 {α : Type} {l : List α} {i : Nat} {v : α} (h : l[i]? = some v) : i < l.length := by
  rcases Nat.lt_or_ge i l.length with h' | h'
  · exact h'
  · rw [List.getElem?_eq_none h'] at h; cases h
theorem fit1 {n : Nat} (h : decide (n + 1 ≤ 4294967296) = true) : n + 1 ≤ 4294967296 := of_decide_eq_true h
theorem fit2 {n y : Nat} (h : decide (n + 1 ≤ 4294967296) = true) (hy : Nat.ble y 32768 = true := by rfl) : (n + 1) * y ≤ 140737488355328 := by
  have h := of_decide_eq_true h
  have hy := Nat.le_of_ble_eq_true hy
  calc (n + 1) * y ≤ 4294967296 * 32768 := Nat.mul_le_mul h hy
    _ ≤ 140737488355328 := by decide
theorem ed_ok {nb nb' : List (Nat × Blk)} {ed : List (Nat × Option Blk)} (h : nb = nb') (e : editsOf nb' = ed := by rfl) : editsOf nb = ed := by rw [h]; exact e
theorem all2_same (σ : Nat → Option Nat) {n : Nat} {cs : List AV} (h : cs.all plainD = true) : All2 (match1 σ n) cs cs := by
  induction cs with
  | nil => rfl
  | cons c cs ih =>
    simp only [List.all_cons, Bool.and_eq_true] at h
    refine ⟨c, cs, rfl, ?_, ih h.2⟩
    cases c <;> simp only [plainD, Bool.false_eq_true, false_and] at h <;> simp [match1]
theorem rep_match {σ : Nat → Option Nat} {n : Nat} {α : Type} {k k' : Nat} {e : α → List AV} (m : Nat) : All2 (All2 (matchC σ n)) (List.replicate m [.nil k']) ((List.replicate m ([] : List α)).map (ow (eLs k e))) := by
  induction m with
  | zero => rfl
  | succ m ih => exact ⟨_, _, rfl, ⟨_, _, rfl, rfl, rfl⟩, ih⟩

theorem rep_eq {α : Type} {e : α → List AV} {z : α} (n : Nat) : List.replicate n (ow e z) = (List.replicate n z).map (ow e) := (List.map_replicate ..).symm

/-! ## views and good results -/
section
variable {h : Hp}
theorem v1_rep {α : Type} {k b n m : Nat} {e : α → List AV} {z : α} (E : EOk k e) (hb : h b = some ⟨k, List.replicate m (ow e z)⟩) (hn : m = n) : view1 h (.own b 0 n) (.list k ((List.replicate m z).map e)) := by
  refine v1_own hb rfl (by simp [hn]) ?_
  have := E.views (List.replicate m z)
  rw [List.map_replicate] at this
  exact this
theorem va_rep {α : Type} {k b n m : Nat} {e : α → List AV} {z : α} (E : EOk k e) (hb : h b = some ⟨k, List.replicate m (ow e z)⟩) (hn : m = n) : viewA h (.own b 0 n) (.list k ((List.replicate m z).map e)) := v1_rep E hb hn
theorem v1_lit {k b n : Nat} {es fs : List (List AV)} (hb : h b = some ⟨k, es⟩) (hn : n = es.length) (v : All2 (All2 view0) es fs) : view1 h (.own b 0 n) (.list k fs) := v1_own hb rfl hn v
theorem va_lit {k b n : Nat} {es fs : List (List AV)} (hb : h b = some ⟨k, es⟩) (hn : n = es.length) (v : All2 (All2 view0) es fs) : viewA h (.own b 0 n) (.list k fs) := v1_lit hb hn v
theorem va_nil2 : All2 (viewP h) [] [] := rfl
theorem vp_cons {x d : AV} {xs ds : List AV} (a : viewP h x d) (b : All2 (viewP h) xs ds) : All2 (viewP h) (x :: xs) (d :: ds) := ⟨d, ds, rfl, a, b⟩
theorem vp_same {c : AV} (p : plainD c = true) : viewP h c c := by cases c <;> simp only [plainD, Bool.false_eq_true] at p <;> simp [viewP, view1, view0]
theorem vp_box {b : Nat} {blk : Blk} {c cs : List AV} (hb : h b = some blk) (hi : blk.es[0]? = some c) (v : All2 (view1 h) c cs) : viewP h (.ptr b 0 0) (.ref cs) := ⟨blk, c, hb, hi, v⟩
theorem va_fn {f : FuncId} {cs ds : List AV} (v : All2 (viewP h) cs ds) : viewA h (.fn f cs) (.fn f ds) := ⟨rfl, v⟩
theorem vps_same : ∀ {cs : List AV}, cs.all plainD = true → All2 (viewP h) cs cs
  | [], _ => rfl
  | c :: cs, p => by simp only [List.all_cons, Bool.and_eq_true] at p; exact ⟨c, cs, rfl, vp_same p.1, vps_same p.2⟩
theorem va_fnc {f : FuncId} {cs : List AV} (p : cs.all plainD = true) : viewA h (.fn f cs) (.fn f cs) := ⟨rfl, vps_same p⟩
end
theorem g1_nil : goodB (.agg []) := by intro _ h; cases h
theorem g1_cons {c : AV} {cs : List AV} (a : good1 c) (b : goodB (.agg cs)) : goodB (.agg (c :: cs)) := by
  intro d hd
  rcases List.mem_cons.1 hd with rfl | h
  · exact a
  · exact b d h
theorem gB_nil : goodA (.tuple []) := by intro _ h; cases h
theorem gB_cons {c : AV} {cs : List AV} (a : goodB c) (b : goodA (.tuple cs)) : goodA (.tuple (c :: cs)) := by
  intro d hd
  rcases List.mem_cons.1 hd with rfl | h
  · exact a
  · exact b d h

section
variable {P : Program} {T : List (Nat × Ty)} {dst : Option Tmp} {ty : TypeId} {pos : String} {aft : Array Edge} {g : Option (Nat × Bool)} {s : AState}
theorem x_make (hT : TyOk P T) {t e : TypeId} {y ye : Ty} {l c : Operand} {kl kc : IntKind} {n : Int} {b : Nat} (q : (decide (0 ≤ n) && decide (n ≤ 1048576)) = true) (hns : s.ns.head? = some b) (hl : s.ev l = some (.sc (.int kl n))) (hc : s.ev c = some (.sc (.int kc n))) (hy : tyOf T t = some y) (hd : y.desc = .slice e) (hye : tyOf T e = some ye) (hz : ye.zero.length = ye.size) (hb : Nat.ble ye.bytes 32768 = true) :
    AEff P ⟨dst, .makeSlice t l c, ty, pos, aft, g⟩ s.ev s.heap ⟨.own b 0 n.toNat, [], [(b, some ⟨ye.size, List.replicate n.toNat ye.zero⟩)], [b]⟩ := by
  simp only [Bool.and_eq_true, decide_eq_true_eq] at q
  refine w_make hT hns hl hc hy hd hye hz q.1 (by omega) ?_
  have hb := Nat.le_of_ble_eq_true hb
  calc n.toNat * ye.bytes ≤ 1048576 * 32768 := Nat.mul_le_mul (by omega) hb
    _ ≤ 140737488355328 := by decide
/-- A call of a closure that came as an argument. -/
theorem w_callv {fo : Operand} {xs : Array Operand} {ats : Array TypeId} {f : FuncId} {caps avs ds1 : List AV} {u : Value} (hcap : caps.all plainD = true) (hc : HasC P f (ds1 ++ caps) (.sc u)) (hf : s.ev fo = some (.fn f caps)) (hx : evs s.ev xs.toList = some avs) (hv1 : All2 (viewA s.heap) avs ds1) :
    AEff P ⟨dst, .call ⟨.value fo, xs, ats⟩, ty, pos, aft, g⟩ s.ev s.heap ⟨.sc u, avs.flatMap (touchA s.heap) ++ caps.flatMap (touchP s.heap), [], []⟩ :=
  eff_call (ds1 := ds1) (ds2 := caps) (ns := []) (nb := []) (r := .sc u) (x := .sc u) hf hx hc hv1 (vps_same hcap) trivial (impA_sc [] u) rfl (by simp)
end
end Go.Proofs.Ytjfcjkeghigipaa

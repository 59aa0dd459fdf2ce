/-
  Contracts: the laws' sizes of their data.
-/
import Derived.Test.YtpngpgbmkkjjgaaE1
namespace Go.Proofs.Ytpngpgbmkkjjgaa
open Go.RowKit
set_option maxRecDepth 10000
set_option maxHeartbeats 4000000

def zI (n : Nat) (left : Int) : Int := if left - n < 0 then -1 else left - n
def zC : List (Int → Int) → Int → Int
  | [], left => left
  | f :: fs, left => if f left < 0 then -1 else zC fs (f left)
def zS {α : Type} (f : α → Int → Int) (l : List α) (left : Int) : Int := if left - l.length < 0 then -1 else zC (l.map f) (left - l.length)
def zQ (q : Qv) : Int → Int := zC [zI q.src.length, zI q.tgt.length]
def zM (m : Mt) : Int → Int := zC [zI m.cells.length]
def zR (r : Rp) : Int → Int := zC [zQ r.q, zI r.dims.length, zS zM r.maps]
def zRow (l : List Int) : Int → Int := zI l.length
def zSc (s : Sc) : Int → Int := zC [zS zRow s.basis]
def zB (l : List Br) : Int → Int := zI l.length
def zCl (c : Cl) : Int → Int := zC [zR c.rep, zR c.other, zS zR c.parts, zS zM c.maps, zB c.bars, zI c.theta.length, zS zSc c.subs]

/-- What a size does: it falls, and holds a bound. -/
def Falls (f : Int → Int) (b : Prop) : Prop := ∀ left, 0 ≤ left → left ≤ 1048576 → f left = -1 ∨ (0 ≤ f left ∧ f left ≤ left ∧ b)
theorem falls_I (n : Nat) : Falls (zI n) (n ≤ 1048576) := by
  intro left h0 h1
  unfold zI
  by_cases h : left - n < 0
  · rw [if_pos h]; exact .inl rfl
  · rw [if_neg h]; exact .inr ⟨by omega, by omega, by omega⟩
theorem falls_nil : Falls (zC []) True := fun left h0 _ => .inr ⟨h0, Int.le_refl _, trivial⟩
theorem falls_cons {f : Int → Int} {fs : List (Int → Int)} {b bs : Prop} (h : Falls f b) (k : Falls (zC fs) bs) : Falls (zC (f :: fs)) (b ∧ bs) := by
  intro left h0 h1
  unfold zC
  rcases h left h0 h1 with e | ⟨e1, e2, e3⟩
  · rw [e, if_pos (by decide)]; exact .inl rfl
  · rw [if_neg (by omega)]
    rcases k (f left) e1 (by omega) with g | ⟨g1, g2, g3⟩
    · exact .inl g
    · exact .inr ⟨g1, by omega, e3, g3⟩
theorem falls_map {α : Type} {f : α → Int → Int} {b : α → Prop} (h : ∀ x, Falls (f x) (b x)) : ∀ l : List α, Falls (zC (l.map f)) (∀ x ∈ l, b x)
  | [] => fun left h0 _ => .inr ⟨h0, Int.le_refl _, by simp⟩
  | x :: l => fun left h0 h1 => by
    rcases falls_cons (h x) (falls_map h l) left h0 h1 with e | ⟨e1, e2, e3, e4⟩
    · exact .inl e
    · exact .inr ⟨e1, e2, fun y hy => by rcases List.mem_cons.1 hy with rfl | h'; exact e3; exact e4 y h'⟩
theorem falls_S {α : Type} {f : α → Int → Int} {b : α → Prop} (h : ∀ x, Falls (f x) (b x)) (l : List α) : Falls (zS f l) (l.length ≤ 1048576 ∧ ∀ x ∈ l, b x) := by
  intro left h0 h1
  unfold zS
  by_cases e : left - l.length < 0
  · rw [if_pos e]; exact .inl rfl
  · rw [if_neg e]
    rcases falls_map h l (left - l.length) (by omega) (by omega) with g | ⟨g1, g2, g3⟩
    · exact .inl g
    · exact .inr ⟨g1, by omega, by omega, g3⟩
def bI (l : List Int) : Prop := l.length ≤ 1048576
def bQ (q : Qv) : Prop := bI q.src ∧ bI q.tgt ∧ True
def bM (m : Mt) : Prop := bI m.cells ∧ True
def bR (r : Rp) : Prop := bQ r.q ∧ bI r.dims ∧ (r.maps.length ≤ 1048576 ∧ ∀ m ∈ r.maps, bM m) ∧ True
def bS (s : Sc) : Prop := (s.basis.length ≤ 1048576 ∧ ∀ v ∈ s.basis, bI v) ∧ True
def bC (c : Cl) : Prop := bR c.rep ∧ bR c.other ∧ (c.parts.length ≤ 1048576 ∧ ∀ r ∈ c.parts, bR r) ∧ (c.maps.length ≤ 1048576 ∧ ∀ m ∈ c.maps, bM m) ∧ c.bars.length ≤ 1048576 ∧ bI c.theta ∧ (c.subs.length ≤ 1048576 ∧ ∀ s ∈ c.subs, bS s) ∧ True
theorem falls_Q (q : Qv) : Falls (zQ q) (bQ q) := falls_cons (falls_I _) (falls_cons (falls_I _) falls_nil)
theorem falls_M (m : Mt) : Falls (zM m) (bM m) := falls_cons (falls_I _) falls_nil
theorem falls_R (r : Rp) : Falls (zR r) (bR r) := falls_cons (falls_Q _) (falls_cons (falls_I _) (falls_cons (falls_S falls_M _) falls_nil))
theorem falls_Row (l : List Int) : Falls (zRow l) (bI l) := falls_I _
theorem falls_Sc (s : Sc) : Falls (zSc s) (bS s) := falls_cons (falls_S falls_Row _) falls_nil
theorem falls_B (l : List Br) : Falls (zB l) (l.length ≤ 1048576) := falls_I _
theorem falls_Cl (c : Cl) : Falls (zCl c) (bC c) := falls_cons (falls_R _) (falls_cons (falls_R _) (falls_cons (falls_S falls_R _) (falls_cons (falls_S falls_M _) (falls_cons (falls_B _) (falls_cons (falls_I _) (falls_cons (falls_S falls_Sc _) falls_nil))))))

theorem h_szI (a : List Int) (left : Int) (h0 : 0 ≤ left) (h1 : left ≤ 1048576) : HasC Try.prog 38 [ints a, .int left] (.int (zI a.length left)) := by
  refine hasC_mk TT_ok (ns := [0,1,2,3,4,5,6,7]) Try.func38 rfl rfl Try.ntmps38 rfl rfl rfl ?_
  refine ac_len (t := 0) rfl fun hla => ?_
  have hmx : maxLen ≤ 9223372036854775807 := by decide
  simp only [encI_len, List.length_map] at hla
  repeat (first | refine aops_nil ?_ | refine ac_seq ?_ | refine ac_region ?_ | refine aops_eff (eff_move rfl) rfl rfl rfl ?_ | refine aops_eff (eff_assign rfl) rfl rfl rfl ?_ | refine aops_eff (w_len_list TT_ok rfl rfl rfl) rfl rfl rfl ?_)
  refine aops_eff (w_sub rfl rfl (by simp only [encI_len, List.length_map]; omega)) rfl rfl rfl ?_
  repeat (first | refine aops_nil ?_ | refine ac_seq ?_ | refine ac_region ?_ | refine then_n ?_ | refine aops_eff (eff_move rfl) rfl rfl rfl ?_ | refine aops_eff (eff_assign rfl) rfl rfl rfl ?_ | refine aops_eff (w_cmp rfl rfl rfl) rfl rfl rfl ?_)
  refine ac_cond rfl (fun h => ?_) (fun h => ?_)
  · simp [encI_len] at h
    repeat (first | refine aops_nil ?_ | refine ac_seq ?_ | refine ac_region ?_ | refine then_n ?_ | refine then_ret ?_ | refine ac_ret ?_ | refine aops_eff (eff_assign rfl) rfl rfl rfl ?_)
    refine ret_mk rfl rfl rfl ?_
    refine fz_int ?_
    simp only [zB, zI]; rw [if_pos (by omega)]
  · simp [encI_len] at h
    repeat (first | refine aops_nil ?_ | refine ac_seq ?_ | refine ac_region ?_ | refine then_n ?_ | refine ac_skip ?_ | refine ac_ret ?_ | refine aops_eff (eff_move rfl) rfl rfl rfl ?_ | refine aops_eff (eff_assign rfl) rfl rfl rfl ?_)
    refine ret_mk rfl rfl rfl ?_
    refine fz_int ?_
    simp only [encI_len, List.length_map, zB, zI]; rw [if_neg (by omega)]

theorem h_szB (a : List Br) (left : Int) (h0 : 0 ≤ left) (h1 : left ≤ 1048576) : HasC Try.prog 58 [.list 3 (a.map eB), .int left] (.int (zB a left)) := by
  refine hasC_mk TT_ok (ns := [0,1,2,3,4,5,6,7]) Try.func58 rfl rfl Try.ntmps58 rfl rfl rfl ?_
  refine ac_len (t := 0) rfl fun hla => ?_
  have hmx : maxLen ≤ 9223372036854775807 := by decide
  simp only [encI_len, List.length_map] at hla
  repeat (first | refine aops_nil ?_ | refine ac_seq ?_ | refine ac_region ?_ | refine aops_eff (eff_move rfl) rfl rfl rfl ?_ | refine aops_eff (eff_assign rfl) rfl rfl rfl ?_ | refine aops_eff (w_len_list TT_ok rfl rfl rfl) rfl rfl rfl ?_)
  refine aops_eff (w_sub rfl rfl (by simp only [encI_len, List.length_map]; omega)) rfl rfl rfl ?_
  repeat (first | refine aops_nil ?_ | refine ac_seq ?_ | refine ac_region ?_ | refine then_n ?_ | refine aops_eff (eff_move rfl) rfl rfl rfl ?_ | refine aops_eff (eff_assign rfl) rfl rfl rfl ?_ | refine aops_eff (w_cmp rfl rfl rfl) rfl rfl rfl ?_)
  refine ac_cond rfl (fun h => ?_) (fun h => ?_)
  · simp [encI_len] at h
    repeat (first | refine aops_nil ?_ | refine ac_seq ?_ | refine ac_region ?_ | refine then_n ?_ | refine then_ret ?_ | refine ac_ret ?_ | refine aops_eff (eff_assign rfl) rfl rfl rfl ?_)
    refine ret_mk rfl rfl rfl ?_
    refine fz_int ?_
    simp only [zB, zI]; rw [if_pos (by omega)]
  · simp [encI_len] at h
    repeat (first | refine aops_nil ?_ | refine ac_seq ?_ | refine ac_region ?_ | refine then_n ?_ | refine ac_skip ?_ | refine ac_ret ?_ | refine aops_eff (eff_move rfl) rfl rfl rfl ?_ | refine aops_eff (eff_assign rfl) rfl rfl rfl ?_)
    refine ret_mk rfl rfl rfl ?_
    refine fz_int ?_
    simp only [encI_len, List.length_map, zB, zI]; rw [if_neg (by omega)]
theorem h_szRow (a : List Int) (left : Int) (h0 : 0 ≤ left) (h1 : left ≤ 1048576) : HasC Try.prog 38 [ints a, .int left] (.int (zRow a left)) := h_szI a left h0 h1

theorem h_szQ (a : Qv) (left : Int) (h0 : 0 ≤ left) (h1 : left ≤ 1048576) : HasC Try.prog 9 [.agg (eQ a), .int left] (.int (zQ a left)) := by
  unfold zQ
  refine hasC_mk TT_ok (ns := [0,1,2,3,4,5,6,7]) Try.func9 rfl rfl Try.ntmps9 rfl rfl rfl ?_
  repeat (first | refine aops_nil ?_ | refine ac_seq ?_ | refine ac_region ?_ | refine aops_eff (eff_move rfl) rfl rfl rfl ?_ | refine aops_eff (w_load_ptr TT_ok rfl rfl rfl rfl rfl rfl rfl) rfl rfl rfl ?_ | refine aops_eff (w_field_ptr TT_ok rfl rfl rfl rfl rfl rfl rfl) rfl rfl rfl ?_ | refine aops_eff (eff_assign rfl) rfl rfl rfl ?_ | refine aops_eff (w_box rfl rfl rfl rfl) rfl rfl rfl ?_)
  refine aops_eff (w_call0s (h_szI a.src left h0 h1) rfl (va_cons (va_same rfl) (va_cons (va_same rfl) va_nil))) rfl rfl rfl ?_
  repeat (first | refine aops_nil ?_ | refine ac_seq ?_ | refine ac_region ?_ | refine then_n ?_ | refine aops_eff (eff_move rfl) rfl rfl rfl ?_ | refine aops_eff (eff_assign rfl) rfl rfl rfl ?_ | refine aops_eff (w_cmp rfl rfl rfl) rfl rfl rfl ?_)
  refine ac_cond rfl (fun g0 => ?_) (fun g0 => ?_)
  · simp at g0
    repeat (first | refine aops_nil ?_ | refine ac_seq ?_ | refine ac_region ?_ | refine then_n ?_ | refine then_ret ?_ | refine ac_ret ?_ | refine aops_eff (eff_assign rfl) rfl rfl rfl ?_)
    refine ret_mk rfl rfl rfl ?_
    refine fz_int ?_
    simp [zC, g0]
  · simp at g0
    have f0 := (falls_I a.src.length) left h0 h1
    have k0 : 0 ≤ zI a.src.length (left) ∧ zI a.src.length (left) ≤ 1048576 := by rcases f0 with e | ⟨e1, e2, _⟩ <;> omega
    have n0 : ¬ zI a.src.length (left) < 0 := by omega
    repeat (first | refine ac_seq ?_ | refine ac_region ?_ | refine ac_skip ?_ | refine aops_eff (eff_move rfl) rfl rfl rfl ?_ | refine aops_eff (w_load_ptr TT_ok rfl rfl rfl rfl rfl rfl rfl) rfl rfl rfl ?_ | refine aops_eff (w_field_ptr TT_ok rfl rfl rfl rfl rfl rfl rfl) rfl rfl rfl ?_)
    refine aops_eff (w_call0s (h_szI a.tgt (zI a.src.length left) k0.1 k0.2) rfl (va_cons (va_same rfl) (va_cons (va_same rfl) va_nil))) rfl rfl rfl ?_
    repeat (first | refine aops_nil ?_ | refine ac_seq ?_ | refine ac_region ?_ | refine then_n ?_ | refine aops_eff (eff_move rfl) rfl rfl rfl ?_ | refine aops_eff (eff_assign rfl) rfl rfl rfl ?_ | refine aops_eff (w_cmp rfl rfl rfl) rfl rfl rfl ?_)
    refine ac_cond rfl (fun g1 => ?_) (fun g1 => ?_)
    · simp at g1
      repeat (first | refine aops_nil ?_ | refine ac_seq ?_ | refine ac_region ?_ | refine then_n ?_ | refine then_ret ?_ | refine ac_ret ?_ | refine aops_eff (eff_assign rfl) rfl rfl rfl ?_)
      refine ret_mk rfl rfl rfl ?_
      refine fz_int ?_
      simp [zC, g0, g1]
    · simp at g1
      have f1 := (falls_I a.tgt.length) (zI a.src.length left) k0.1 k0.2
      have k1 : 0 ≤ zI a.tgt.length ((zI a.src.length left)) ∧ zI a.tgt.length ((zI a.src.length left)) ≤ 1048576 := by rcases f1 with e | ⟨e1, e2, _⟩ <;> omega
      have n1 : ¬ zI a.tgt.length ((zI a.src.length left)) < 0 := by omega
      repeat (first | refine aops_nil ?_ | refine ac_seq ?_ | refine ac_region ?_ | refine then_n ?_ | refine ac_skip ?_ | refine ac_ret ?_ | refine aops_eff (eff_move rfl) rfl rfl rfl ?_ | refine aops_eff (eff_assign rfl) rfl rfl rfl ?_)
      refine ret_mk rfl rfl rfl ?_
      refine fz_int ?_
      simp [zC, n0, n1]

theorem h_szM (a : Mt) (left : Int) (h0 : 0 ≤ left) (h1 : left ≤ 1048576) : HasC Try.prog 108 [.agg (eM a), .int left] (.int (zM a left)) := by
  unfold zM
  refine hasC_mk TT_ok (ns := [0,1,2,3,4,5,6,7]) Try.func108 rfl rfl Try.ntmps108 rfl rfl rfl ?_
  repeat (first | refine aops_nil ?_ | refine ac_seq ?_ | refine ac_region ?_ | refine aops_eff (eff_move rfl) rfl rfl rfl ?_ | refine aops_eff (w_load_ptr TT_ok rfl rfl rfl rfl rfl rfl rfl) rfl rfl rfl ?_ | refine aops_eff (w_field_ptr TT_ok rfl rfl rfl rfl rfl rfl rfl) rfl rfl rfl ?_ | refine aops_eff (eff_assign rfl) rfl rfl rfl ?_ | refine aops_eff (w_box rfl rfl rfl rfl) rfl rfl rfl ?_)
  refine aops_eff (w_call0s (h_szI a.cells left h0 h1) rfl (va_cons (va_same rfl) (va_cons (va_same rfl) va_nil))) rfl rfl rfl ?_
  repeat (first | refine aops_nil ?_ | refine ac_seq ?_ | refine ac_region ?_ | refine then_n ?_ | refine aops_eff (eff_move rfl) rfl rfl rfl ?_ | refine aops_eff (eff_assign rfl) rfl rfl rfl ?_ | refine aops_eff (w_cmp rfl rfl rfl) rfl rfl rfl ?_)
  refine ac_cond rfl (fun g0 => ?_) (fun g0 => ?_)
  · simp at g0
    repeat (first | refine aops_nil ?_ | refine ac_seq ?_ | refine ac_region ?_ | refine then_n ?_ | refine then_ret ?_ | refine ac_ret ?_ | refine aops_eff (eff_assign rfl) rfl rfl rfl ?_)
    refine ret_mk rfl rfl rfl ?_
    refine fz_int ?_
    simp [zC, g0]
  · simp at g0
    have f0 := (falls_I a.cells.length) left h0 h1
    have k0 : 0 ≤ zI a.cells.length (left) ∧ zI a.cells.length (left) ≤ 1048576 := by rcases f0 with e | ⟨e1, e2, _⟩ <;> omega
    have n0 : ¬ zI a.cells.length (left) < 0 := by omega
    repeat (first | refine aops_nil ?_ | refine ac_seq ?_ | refine ac_region ?_ | refine then_n ?_ | refine ac_skip ?_ | refine ac_ret ?_ | refine aops_eff (eff_move rfl) rfl rfl rfl ?_ | refine aops_eff (eff_assign rfl) rfl rfl rfl ?_)
    refine ret_mk rfl rfl rfl ?_
    refine fz_int ?_
    simp [zC, n0]

theorem h_szMs (a : List Mt) (left : Int) (h0 : 0 ≤ left) (h1 : left ≤ 1048576) : HasC Try.prog 57 [.list 3 (a.map eM), .int left] (.int (zS zM a left)) := by
  refine hasC_mk TT_ok (ns := [0,1,2,3,4,5,6,7]) Try.func57 rfl rfl Try.ntmps57 rfl rfl rfl ?_
  refine ac_len (t := 0) rfl fun hla => ?_
  have hmx : maxLen ≤ 9223372036854775807 := by decide
  simp only [List.length_map] at hla
  repeat (first | refine aops_nil ?_ | refine ac_seq ?_ | refine ac_region ?_ | refine aops_eff (eff_move rfl) rfl rfl rfl ?_ | refine aops_eff (eff_assign rfl) rfl rfl rfl ?_ | refine aops_eff (w_len_list TT_ok rfl rfl rfl) rfl rfl rfl ?_)
  refine aops_eff (w_sub rfl rfl (by simp only [List.length_map]; omega)) rfl rfl rfl ?_
  repeat (first | refine aops_nil ?_ | refine ac_seq ?_ | refine ac_region ?_ | refine then_n ?_ | refine aops_eff (eff_move rfl) rfl rfl rfl ?_ | refine aops_eff (eff_assign rfl) rfl rfl rfl ?_ | refine aops_eff (w_cmp rfl rfl rfl) rfl rfl rfl ?_)
  refine ac_cond rfl (fun h => ?_) (fun h => ?_)
  · simp at h
    repeat (first | refine aops_nil ?_ | refine ac_seq ?_ | refine ac_region ?_ | refine then_n ?_ | refine then_ret ?_ | refine ac_ret ?_ | refine aops_eff (eff_assign rfl) rfl rfl rfl ?_)
    refine ret_mk rfl rfl rfl ?_
    refine fz_int ?_
    unfold zS; rw [if_pos (by omega)]
  · simp at h
    repeat (first | refine aops_nil ?_ | refine ac_seq ?_ | refine ac_region ?_ | refine then_n ?_ | refine ac_block ?_ | refine ac_skip ?_ | refine aops_eff (eff_assign rfl) rfl rfl rfl ?_)
    refine ac_loop (ι := Nat × Int) (fun p => mkS [(0, .list 3 (a.map eM)), (1, .int p.2), (5, .int p.1)] [] 0 [0,1,2,3,4,5,6,7]) (fun p => p.1 ≤ a.length ∧ 0 ≤ p.2 ∧ p.2 ≤ 1048576 ∧ zS zM a left = zC ((a.drop p.1).map zM) p.2) (fun p => a.length - p.1) (0, left - a.length) ⟨by simp, by simp; omega, by simp; omega, by simp only [zS]; rw [if_neg (by omega)]; rfl⟩ ?_ ?_
    · refine ent_mk (σ := sg []) ?_ ?_ rfl
      · repeat (first | exact trivial | refine ⟨⟨_, rfl, ?_⟩, ?_⟩ | exact ⟨rfl, rfl⟩ | exact ⟨rfl, rfl, rfl, rfl⟩ | exact m_int (by omega) | exact m_int (by simp [encI_len]) | exact rfl)
      · repeat (first | exact trivial | refine ⟨⟨_, rfl, ?_⟩, rfl, ?_⟩ | refine ⟨rfl, .inl ⟨rfl, ?_⟩⟩)
    · rintro ⟨k, y⟩ ⟨hk, hy0, hy1, hz⟩
      simp only at hk hy0 hy1 hz
      repeat (first | refine aops_nil ?_ | refine ac_seq ?_ | refine ac_region ?_ | refine then_n ?_ | refine aops_eff (eff_move rfl) rfl rfl rfl ?_ | refine aops_eff (w_len_list TT_ok rfl rfl rfl) rfl rfl rfl ?_ | refine aops_eff (w_cmp rfl rfl rfl) rfl rfl rfl ?_)
      refine ac_cond rfl (fun h2 => ?_) (fun h2 => ?_)
      · simp at h2
        have hd : (a.drop k).map zM = zM a[k] :: (a.drop (k + 1)).map zM := by rw [List.drop_eq_getElem_cons h2, List.map_cons]
        have f0 := falls_M a[k] y hy0 hy1
        repeat (first | refine ac_seq ?_ | refine ac_region ?_ | refine ac_block ?_ | refine ac_skip ?_ | refine aops_eff (eff_move rfl) rfl rfl rfl ?_ | refine aops_eff (w_load_ref TT_ok rfl rfl rfl rfl rfl rfl) rfl rfl rfl ?_ | refine aops_eff (eff_indexAddr_list TT_ok rfl rfl rfl rfl rfl rfl (map_at (at_lt (by omega)))) rfl rfl rfl ?_)
        refine aops_eff (w_call0s (h_szM a[k] y hy0 hy1) rfl (va_cons (va_agg rfl) (va_cons (va_same rfl) va_nil))) rfl rfl rfl ?_
        repeat (first | refine aops_nil ?_ | refine ac_seq ?_ | refine ac_region ?_ | refine then_n ?_ | refine aops_eff (eff_move rfl) rfl rfl rfl ?_ | refine aops_eff (eff_assign rfl) rfl rfl rfl ?_ | refine aops_eff (w_cmp rfl rfl rfl) rfl rfl rfl ?_)
        refine ac_cond rfl (fun h3 => ?_) (fun h3 => ?_)
        · have h3 : zM a[k] y < 0 := of_decide_eq_true h3
          repeat (first | refine aops_nil ?_ | refine ac_seq ?_ | refine ac_region ?_ | refine then_n ?_ | refine then_ret ?_ | refine block_ret ?_ | refine ac_ret ?_ | refine aops_eff (eff_assign rfl) rfl rfl rfl ?_)
          refine ret_mk rfl rfl rfl ?_
          refine fz_int ?_
          rw [hz, hd, zC, if_pos h3]
        · have h3 : ¬ zM a[k] y < 0 := of_decide_eq_false h3
          repeat (first | refine aops_nil ?_ | refine ac_region ?_ | refine then_n ?_ | refine ac_skip ?_ | refine aops_eff (eff_move rfl) rfl rfl rfl ?_ | refine aops_eff (eff_assign rfl) rfl rfl rfl ?_ | refine aops_eff (w_add rfl rfl (by omega)) rfl rfl rfl ?_)
          refine ⟨(k + 1, zM a[k] y), ⟨by simp; omega, by simp; omega, by simp; omega, ?_⟩, by simp; omega, ?_⟩
          · rw [hz, hd, zC, if_neg h3]
          · refine ent_mk (σ := sg []) ?_ ?_ rfl
            · repeat (first | exact trivial | refine ⟨⟨_, rfl, ?_⟩, ?_⟩ | exact ⟨rfl, rfl⟩ | exact ⟨rfl, rfl, rfl, rfl⟩ | exact m_int (by omega) | exact m_int (by simp [encI_len]) | exact rfl)
            · repeat (first | exact trivial | refine ⟨⟨_, rfl, ?_⟩, rfl, ?_⟩ | refine ⟨rfl, .inl ⟨rfl, ?_⟩⟩)
      · simp at h2
        repeat (first | refine aops_nil ?_ | refine ac_seq ?_ | refine ac_region ?_ | refine then_n ?_ | refine ac_exit ?_ | refine ac_ret ?_ | refine aops_eff (eff_move rfl) rfl rfl rfl ?_ | refine aops_eff (eff_assign rfl) rfl rfl rfl ?_)
        refine ret_mk rfl rfl rfl ?_
        refine fz_int ?_
        rw [hz, List.drop_eq_nil_of_le (by omega)]
        rfl

theorem h_szR (a : Rp) (left : Int) (h0 : 0 ≤ left) (h1 : left ≤ 1048576) : HasC Try.prog 33 [.agg (eR a), .int left] (.int (zR a left)) := by
  unfold zR
  refine hasC_mk TT_ok (ns := [0,1,2,3,4,5,6,7]) Try.func33 rfl rfl Try.ntmps33 rfl rfl rfl ?_
  repeat (first | refine aops_nil ?_ | refine ac_seq ?_ | refine ac_region ?_ | refine aops_eff (eff_move rfl) rfl rfl rfl ?_ | refine aops_eff (w_load_ptr TT_ok rfl rfl rfl rfl rfl rfl rfl) rfl rfl rfl ?_ | refine aops_eff (w_field_ptr TT_ok rfl rfl rfl rfl rfl rfl rfl) rfl rfl rfl ?_ | refine aops_eff (eff_assign rfl) rfl rfl rfl ?_ | refine aops_eff (w_box rfl rfl rfl rfl) rfl rfl rfl ?_)
  refine aops_eff (w_call0s (h_szQ a.q left h0 h1) rfl (va_cons (va_agg rfl) (va_cons (va_same rfl) va_nil))) rfl rfl rfl ?_
  repeat (first | refine aops_nil ?_ | refine ac_seq ?_ | refine ac_region ?_ | refine then_n ?_ | refine aops_eff (eff_move rfl) rfl rfl rfl ?_ | refine aops_eff (eff_assign rfl) rfl rfl rfl ?_ | refine aops_eff (w_cmp rfl rfl rfl) rfl rfl rfl ?_)
  refine ac_cond rfl (fun g0 => ?_) (fun g0 => ?_)
  · simp at g0
    repeat (first | refine aops_nil ?_ | refine ac_seq ?_ | refine ac_region ?_ | refine then_n ?_ | refine then_ret ?_ | refine ac_ret ?_ | refine aops_eff (eff_assign rfl) rfl rfl rfl ?_)
    refine ret_mk rfl rfl rfl ?_
    refine fz_int ?_
    simp [zC, g0]
  · simp at g0
    have f0 := (falls_Q a.q) left h0 h1
    have k0 : 0 ≤ zQ a.q (left) ∧ zQ a.q (left) ≤ 1048576 := by rcases f0 with e | ⟨e1, e2, _⟩ <;> omega
    have n0 : ¬ zQ a.q (left) < 0 := by omega
    repeat (first | refine ac_seq ?_ | refine ac_region ?_ | refine ac_skip ?_ | refine aops_eff (eff_move rfl) rfl rfl rfl ?_ | refine aops_eff (w_load_ptr TT_ok rfl rfl rfl rfl rfl rfl rfl) rfl rfl rfl ?_ | refine aops_eff (w_field_ptr TT_ok rfl rfl rfl rfl rfl rfl rfl) rfl rfl rfl ?_)
    refine aops_eff (w_call0s (h_szI a.dims (zQ a.q left) k0.1 k0.2) rfl (va_cons (va_same rfl) (va_cons (va_same rfl) va_nil))) rfl rfl rfl ?_
    repeat (first | refine aops_nil ?_ | refine ac_seq ?_ | refine ac_region ?_ | refine then_n ?_ | refine aops_eff (eff_move rfl) rfl rfl rfl ?_ | refine aops_eff (eff_assign rfl) rfl rfl rfl ?_ | refine aops_eff (w_cmp rfl rfl rfl) rfl rfl rfl ?_)
    refine ac_cond rfl (fun g1 => ?_) (fun g1 => ?_)
    · simp at g1
      repeat (first | refine aops_nil ?_ | refine ac_seq ?_ | refine ac_region ?_ | refine then_n ?_ | refine then_ret ?_ | refine ac_ret ?_ | refine aops_eff (eff_assign rfl) rfl rfl rfl ?_)
      refine ret_mk rfl rfl rfl ?_
      refine fz_int ?_
      simp [zC, g0, g1]
    · simp at g1
      have f1 := (falls_I a.dims.length) (zQ a.q left) k0.1 k0.2
      have k1 : 0 ≤ zI a.dims.length ((zQ a.q left)) ∧ zI a.dims.length ((zQ a.q left)) ≤ 1048576 := by rcases f1 with e | ⟨e1, e2, _⟩ <;> omega
      have n1 : ¬ zI a.dims.length ((zQ a.q left)) < 0 := by omega
      repeat (first | refine ac_seq ?_ | refine ac_region ?_ | refine ac_skip ?_ | refine aops_eff (eff_move rfl) rfl rfl rfl ?_ | refine aops_eff (w_load_ptr TT_ok rfl rfl rfl rfl rfl rfl rfl) rfl rfl rfl ?_ | refine aops_eff (w_field_ptr TT_ok rfl rfl rfl rfl rfl rfl rfl) rfl rfl rfl ?_)
      refine aops_eff (w_call0s (h_szMs a.maps (zI a.dims.length (zQ a.q left)) k1.1 k1.2) rfl (va_cons (va_same rfl) (va_cons (va_same rfl) va_nil))) rfl rfl rfl ?_
      repeat (first | refine aops_nil ?_ | refine ac_seq ?_ | refine ac_region ?_ | refine then_n ?_ | refine aops_eff (eff_move rfl) rfl rfl rfl ?_ | refine aops_eff (eff_assign rfl) rfl rfl rfl ?_ | refine aops_eff (w_cmp rfl rfl rfl) rfl rfl rfl ?_)
      refine ac_cond rfl (fun g2 => ?_) (fun g2 => ?_)
      · simp at g2
        repeat (first | refine aops_nil ?_ | refine ac_seq ?_ | refine ac_region ?_ | refine then_n ?_ | refine then_ret ?_ | refine ac_ret ?_ | refine aops_eff (eff_assign rfl) rfl rfl rfl ?_)
        refine ret_mk rfl rfl rfl ?_
        refine fz_int ?_
        simp [zC, g0, g1, g2]
      · simp at g2
        have f2 := (falls_S falls_M a.maps) (zI a.dims.length (zQ a.q left)) k1.1 k1.2
        have k2 : 0 ≤ zS zM a.maps ((zI a.dims.length (zQ a.q left))) ∧ zS zM a.maps ((zI a.dims.length (zQ a.q left))) ≤ 1048576 := by rcases f2 with e | ⟨e1, e2, _⟩ <;> omega
        have n2 : ¬ zS zM a.maps ((zI a.dims.length (zQ a.q left))) < 0 := by omega
        repeat (first | refine aops_nil ?_ | refine ac_seq ?_ | refine ac_region ?_ | refine then_n ?_ | refine ac_skip ?_ | refine ac_ret ?_ | refine aops_eff (eff_move rfl) rfl rfl rfl ?_ | refine aops_eff (eff_assign rfl) rfl rfl rfl ?_)
        refine ret_mk rfl rfl rfl ?_
        refine fz_int ?_
        simp [zC, n0, n1, n2]

theorem h_szRs (a : List Rp) (left : Int) (h0 : 0 ≤ left) (h1 : left ≤ 1048576) : HasC Try.prog 56 [.list 6 (a.map eR), .int left] (.int (zS zR a left)) := by
  refine hasC_mk TT_ok (ns := [0,1,2,3,4,5,6,7]) Try.func56 rfl rfl Try.ntmps56 rfl rfl rfl ?_
  refine ac_len (t := 0) rfl fun hla => ?_
  have hmx : maxLen ≤ 9223372036854775807 := by decide
  simp only [List.length_map] at hla
  repeat (first | refine aops_nil ?_ | refine ac_seq ?_ | refine ac_region ?_ | refine aops_eff (eff_move rfl) rfl rfl rfl ?_ | refine aops_eff (eff_assign rfl) rfl rfl rfl ?_ | refine aops_eff (w_len_list TT_ok rfl rfl rfl) rfl rfl rfl ?_)
  refine aops_eff (w_sub rfl rfl (by simp only [List.length_map]; omega)) rfl rfl rfl ?_
  repeat (first | refine aops_nil ?_ | refine ac_seq ?_ | refine ac_region ?_ | refine then_n ?_ | refine aops_eff (eff_move rfl) rfl rfl rfl ?_ | refine aops_eff (eff_assign rfl) rfl rfl rfl ?_ | refine aops_eff (w_cmp rfl rfl rfl) rfl rfl rfl ?_)
  refine ac_cond rfl (fun h => ?_) (fun h => ?_)
  · simp at h
    repeat (first | refine aops_nil ?_ | refine ac_seq ?_ | refine ac_region ?_ | refine then_n ?_ | refine then_ret ?_ | refine ac_ret ?_ | refine aops_eff (eff_assign rfl) rfl rfl rfl ?_)
    refine ret_mk rfl rfl rfl ?_
    refine fz_int ?_
    unfold zS; rw [if_pos (by omega)]
  · simp at h
    repeat (first | refine aops_nil ?_ | refine ac_seq ?_ | refine ac_region ?_ | refine then_n ?_ | refine ac_block ?_ | refine ac_skip ?_ | refine aops_eff (eff_assign rfl) rfl rfl rfl ?_)
    refine ac_loop (ι := Nat × Int) (fun p => mkS [(0, .list 6 (a.map eR)), (1, .int p.2), (5, .int p.1)] [] 0 [0,1,2,3,4,5,6,7]) (fun p => p.1 ≤ a.length ∧ 0 ≤ p.2 ∧ p.2 ≤ 1048576 ∧ zS zR a left = zC ((a.drop p.1).map zR) p.2) (fun p => a.length - p.1) (0, left - a.length) ⟨by simp, by simp; omega, by simp; omega, by simp only [zS]; rw [if_neg (by omega)]; rfl⟩ ?_ ?_
    · refine ent_mk (σ := sg []) ?_ ?_ rfl
      · repeat (first | exact trivial | refine ⟨⟨_, rfl, ?_⟩, ?_⟩ | exact ⟨rfl, rfl⟩ | exact ⟨rfl, rfl, rfl, rfl⟩ | exact m_int (by omega) | exact m_int (by simp [encI_len]) | exact rfl)
      · repeat (first | exact trivial | refine ⟨⟨_, rfl, ?_⟩, rfl, ?_⟩ | refine ⟨rfl, .inl ⟨rfl, ?_⟩⟩)
    · rintro ⟨k, y⟩ ⟨hk, hy0, hy1, hz⟩
      simp only at hk hy0 hy1 hz
      repeat (first | refine aops_nil ?_ | refine ac_seq ?_ | refine ac_region ?_ | refine then_n ?_ | refine aops_eff (eff_move rfl) rfl rfl rfl ?_ | refine aops_eff (w_len_list TT_ok rfl rfl rfl) rfl rfl rfl ?_ | refine aops_eff (w_cmp rfl rfl rfl) rfl rfl rfl ?_)
      refine ac_cond rfl (fun h2 => ?_) (fun h2 => ?_)
      · simp at h2
        have hd : (a.drop k).map zR = zR a[k] :: (a.drop (k + 1)).map zR := by rw [List.drop_eq_getElem_cons h2, List.map_cons]
        have f0 := falls_R a[k] y hy0 hy1
        repeat (first | refine ac_seq ?_ | refine ac_region ?_ | refine ac_block ?_ | refine ac_skip ?_ | refine aops_eff (eff_move rfl) rfl rfl rfl ?_ | refine aops_eff (w_load_ref TT_ok rfl rfl rfl rfl rfl rfl) rfl rfl rfl ?_ | refine aops_eff (eff_indexAddr_list TT_ok rfl rfl rfl rfl rfl rfl (map_at (at_lt (by omega)))) rfl rfl rfl ?_)
        refine aops_eff (w_call0s (h_szR a[k] y hy0 hy1) rfl (va_cons (va_agg rfl) (va_cons (va_same rfl) va_nil))) rfl rfl rfl ?_
        repeat (first | refine aops_nil ?_ | refine ac_seq ?_ | refine ac_region ?_ | refine then_n ?_ | refine aops_eff (eff_move rfl) rfl rfl rfl ?_ | refine aops_eff (eff_assign rfl) rfl rfl rfl ?_ | refine aops_eff (w_cmp rfl rfl rfl) rfl rfl rfl ?_)
        refine ac_cond rfl (fun h3 => ?_) (fun h3 => ?_)
        · have h3 : zR a[k] y < 0 := of_decide_eq_true h3
          repeat (first | refine aops_nil ?_ | refine ac_seq ?_ | refine ac_region ?_ | refine then_n ?_ | refine then_ret ?_ | refine block_ret ?_ | refine ac_ret ?_ | refine aops_eff (eff_assign rfl) rfl rfl rfl ?_)
          refine ret_mk rfl rfl rfl ?_
          refine fz_int ?_
          rw [hz, hd, zC, if_pos h3]
        · have h3 : ¬ zR a[k] y < 0 := of_decide_eq_false h3
          repeat (first | refine aops_nil ?_ | refine ac_region ?_ | refine then_n ?_ | refine ac_skip ?_ | refine aops_eff (eff_move rfl) rfl rfl rfl ?_ | refine aops_eff (eff_assign rfl) rfl rfl rfl ?_ | refine aops_eff (w_add rfl rfl (by omega)) rfl rfl rfl ?_)
          refine ⟨(k + 1, zR a[k] y), ⟨by simp; omega, by simp; omega, by simp; omega, ?_⟩, by simp; omega, ?_⟩
          · rw [hz, hd, zC, if_neg h3]
          · refine ent_mk (σ := sg []) ?_ ?_ rfl
            · repeat (first | exact trivial | refine ⟨⟨_, rfl, ?_⟩, ?_⟩ | exact ⟨rfl, rfl⟩ | exact ⟨rfl, rfl, rfl, rfl⟩ | exact m_int (by omega) | exact m_int (by simp [encI_len]) | exact rfl)
            · repeat (first | exact trivial | refine ⟨⟨_, rfl, ?_⟩, rfl, ?_⟩ | refine ⟨rfl, .inl ⟨rfl, ?_⟩⟩)
      · simp at h2
        repeat (first | refine aops_nil ?_ | refine ac_seq ?_ | refine ac_region ?_ | refine then_n ?_ | refine ac_exit ?_ | refine ac_ret ?_ | refine aops_eff (eff_move rfl) rfl rfl rfl ?_ | refine aops_eff (eff_assign rfl) rfl rfl rfl ?_)
        refine ret_mk rfl rfl rfl ?_
        refine fz_int ?_
        rw [hz, List.drop_eq_nil_of_le (by omega)]
        rfl

theorem h_szRows (a : List (List Int)) (left : Int) (h0 : 0 ≤ left) (h1 : left ≤ 1048576) : HasC Try.prog 47 [.list 1 (a.map eL), .int left] (.int (zS zRow a left)) := by
  refine hasC_mk TT_ok (ns := [0,1,2,3,4,5,6,7]) Try.func47 rfl rfl Try.ntmps47 rfl rfl rfl ?_
  refine ac_len (t := 0) rfl fun hla => ?_
  have hmx : maxLen ≤ 9223372036854775807 := by decide
  simp only [List.length_map] at hla
  repeat (first | refine aops_nil ?_ | refine ac_seq ?_ | refine ac_region ?_ | refine aops_eff (eff_move rfl) rfl rfl rfl ?_ | refine aops_eff (eff_assign rfl) rfl rfl rfl ?_ | refine aops_eff (w_len_list TT_ok rfl rfl rfl) rfl rfl rfl ?_)
  refine aops_eff (w_sub rfl rfl (by simp only [List.length_map]; omega)) rfl rfl rfl ?_
  repeat (first | refine aops_nil ?_ | refine ac_seq ?_ | refine ac_region ?_ | refine then_n ?_ | refine aops_eff (eff_move rfl) rfl rfl rfl ?_ | refine aops_eff (eff_assign rfl) rfl rfl rfl ?_ | refine aops_eff (w_cmp rfl rfl rfl) rfl rfl rfl ?_)
  refine ac_cond rfl (fun h => ?_) (fun h => ?_)
  · simp at h
    repeat (first | refine aops_nil ?_ | refine ac_seq ?_ | refine ac_region ?_ | refine then_n ?_ | refine then_ret ?_ | refine ac_ret ?_ | refine aops_eff (eff_assign rfl) rfl rfl rfl ?_)
    refine ret_mk rfl rfl rfl ?_
    refine fz_int ?_
    unfold zS; rw [if_pos (by omega)]
  · simp at h
    repeat (first | refine aops_nil ?_ | refine ac_seq ?_ | refine ac_region ?_ | refine then_n ?_ | refine ac_block ?_ | refine ac_skip ?_ | refine aops_eff (eff_assign rfl) rfl rfl rfl ?_)
    refine ac_loop (ι := Nat × Int) (fun p => mkS [(0, .list 1 (a.map eL)), (1, .int p.2), (5, .int p.1)] [] 0 [0,1,2,3,4,5,6,7]) (fun p => p.1 ≤ a.length ∧ 0 ≤ p.2 ∧ p.2 ≤ 1048576 ∧ zS zRow a left = zC ((a.drop p.1).map zRow) p.2) (fun p => a.length - p.1) (0, left - a.length) ⟨by simp, by simp; omega, by simp; omega, by simp only [zS]; rw [if_neg (by omega)]; rfl⟩ ?_ ?_
    · refine ent_mk (σ := sg []) ?_ ?_ rfl
      · repeat (first | exact trivial | refine ⟨⟨_, rfl, ?_⟩, ?_⟩ | exact ⟨rfl, rfl⟩ | exact ⟨rfl, rfl, rfl, rfl⟩ | exact m_int (by omega) | exact m_int (by simp [encI_len]) | exact rfl)
      · repeat (first | exact trivial | refine ⟨⟨_, rfl, ?_⟩, rfl, ?_⟩ | refine ⟨rfl, .inl ⟨rfl, ?_⟩⟩)
    · rintro ⟨k, y⟩ ⟨hk, hy0, hy1, hz⟩
      simp only at hk hy0 hy1 hz
      repeat (first | refine aops_nil ?_ | refine ac_seq ?_ | refine ac_region ?_ | refine then_n ?_ | refine aops_eff (eff_move rfl) rfl rfl rfl ?_ | refine aops_eff (w_len_list TT_ok rfl rfl rfl) rfl rfl rfl ?_ | refine aops_eff (w_cmp rfl rfl rfl) rfl rfl rfl ?_)
      refine ac_cond rfl (fun h2 => ?_) (fun h2 => ?_)
      · simp at h2
        have hd : (a.drop k).map zRow = zRow a[k] :: (a.drop (k + 1)).map zRow := by rw [List.drop_eq_getElem_cons h2, List.map_cons]
        have f0 := falls_Row a[k] y hy0 hy1
        repeat (first | refine ac_seq ?_ | refine ac_region ?_ | refine ac_block ?_ | refine ac_skip ?_ | refine aops_eff (eff_move rfl) rfl rfl rfl ?_ | refine aops_eff (w_load_ref TT_ok rfl rfl rfl rfl rfl rfl) rfl rfl rfl ?_ | refine aops_eff (eff_indexAddr_list TT_ok rfl rfl rfl rfl rfl rfl (map_at (at_lt (by omega)))) rfl rfl rfl ?_)
        refine aops_eff (w_call0s (h_szRow a[k] y hy0 hy1) rfl (va_cons (va_same rfl) (va_cons (va_same rfl) va_nil))) rfl rfl rfl ?_
        repeat (first | refine aops_nil ?_ | refine ac_seq ?_ | refine ac_region ?_ | refine then_n ?_ | refine aops_eff (eff_move rfl) rfl rfl rfl ?_ | refine aops_eff (eff_assign rfl) rfl rfl rfl ?_ | refine aops_eff (w_cmp rfl rfl rfl) rfl rfl rfl ?_)
        refine ac_cond rfl (fun h3 => ?_) (fun h3 => ?_)
        · have h3 : zRow a[k] y < 0 := of_decide_eq_true h3
          repeat (first | refine aops_nil ?_ | refine ac_seq ?_ | refine ac_region ?_ | refine then_n ?_ | refine then_ret ?_ | refine block_ret ?_ | refine ac_ret ?_ | refine aops_eff (eff_assign rfl) rfl rfl rfl ?_)
          refine ret_mk rfl rfl rfl ?_
          refine fz_int ?_
          rw [hz, hd, zC, if_pos h3]
        · have h3 : ¬ zRow a[k] y < 0 := of_decide_eq_false h3
          repeat (first | refine aops_nil ?_ | refine ac_region ?_ | refine then_n ?_ | refine ac_skip ?_ | refine aops_eff (eff_move rfl) rfl rfl rfl ?_ | refine aops_eff (eff_assign rfl) rfl rfl rfl ?_ | refine aops_eff (w_add rfl rfl (by omega)) rfl rfl rfl ?_)
          refine ⟨(k + 1, zRow a[k] y), ⟨by simp; omega, by simp; omega, by simp; omega, ?_⟩, by simp; omega, ?_⟩
          · rw [hz, hd, zC, if_neg h3]
          · refine ent_mk (σ := sg []) ?_ ?_ rfl
            · repeat (first | exact trivial | refine ⟨⟨_, rfl, ?_⟩, ?_⟩ | exact ⟨rfl, rfl⟩ | exact ⟨rfl, rfl, rfl, rfl⟩ | exact m_int (by omega) | exact m_int (by simp [encI_len]) | exact rfl)
            · repeat (first | exact trivial | refine ⟨⟨_, rfl, ?_⟩, rfl, ?_⟩ | refine ⟨rfl, .inl ⟨rfl, ?_⟩⟩)
      · simp at h2
        repeat (first | refine aops_nil ?_ | refine ac_seq ?_ | refine ac_region ?_ | refine then_n ?_ | refine ac_exit ?_ | refine ac_ret ?_ | refine aops_eff (eff_move rfl) rfl rfl rfl ?_ | refine aops_eff (eff_assign rfl) rfl rfl rfl ?_)
        refine ret_mk rfl rfl rfl ?_
        refine fz_int ?_
        rw [hz, List.drop_eq_nil_of_le (by omega)]
        rfl

theorem h_szS (a : Sc) (left : Int) (h0 : 0 ≤ left) (h1 : left ≤ 1048576) : HasC Try.prog 16 [.agg (eS a), .int left] (.int (zSc a left)) := by
  unfold zSc
  refine hasC_mk TT_ok (ns := [0,1,2,3,4,5,6,7]) Try.func16 rfl rfl Try.ntmps16 rfl rfl rfl ?_
  repeat (first | refine aops_nil ?_ | refine ac_seq ?_ | refine ac_region ?_ | refine aops_eff (eff_move rfl) rfl rfl rfl ?_ | refine aops_eff (w_load_ptr TT_ok rfl rfl rfl rfl rfl rfl rfl) rfl rfl rfl ?_ | refine aops_eff (w_field_ptr TT_ok rfl rfl rfl rfl rfl rfl rfl) rfl rfl rfl ?_ | refine aops_eff (eff_assign rfl) rfl rfl rfl ?_ | refine aops_eff (w_box rfl rfl rfl rfl) rfl rfl rfl ?_)
  refine aops_eff (w_call0s (h_szRows a.basis left h0 h1) rfl (va_cons (va_same rfl) (va_cons (va_same rfl) va_nil))) rfl rfl rfl ?_
  repeat (first | refine aops_nil ?_ | refine ac_seq ?_ | refine ac_region ?_ | refine then_n ?_ | refine aops_eff (eff_move rfl) rfl rfl rfl ?_ | refine aops_eff (eff_assign rfl) rfl rfl rfl ?_ | refine aops_eff (w_cmp rfl rfl rfl) rfl rfl rfl ?_)
  refine ac_cond rfl (fun g0 => ?_) (fun g0 => ?_)
  · simp at g0
    repeat (first | refine aops_nil ?_ | refine ac_seq ?_ | refine ac_region ?_ | refine then_n ?_ | refine then_ret ?_ | refine ac_ret ?_ | refine aops_eff (eff_assign rfl) rfl rfl rfl ?_)
    refine ret_mk rfl rfl rfl ?_
    refine fz_int ?_
    simp [zC, g0]
  · simp at g0
    have f0 := (falls_S falls_Row a.basis) left h0 h1
    have k0 : 0 ≤ zS zRow a.basis (left) ∧ zS zRow a.basis (left) ≤ 1048576 := by rcases f0 with e | ⟨e1, e2, _⟩ <;> omega
    have n0 : ¬ zS zRow a.basis (left) < 0 := by omega
    repeat (first | refine aops_nil ?_ | refine ac_seq ?_ | refine ac_region ?_ | refine then_n ?_ | refine ac_skip ?_ | refine ac_ret ?_ | refine aops_eff (eff_move rfl) rfl rfl rfl ?_ | refine aops_eff (eff_assign rfl) rfl rfl rfl ?_)
    refine ret_mk rfl rfl rfl ?_
    refine fz_int ?_
    simp [zC, n0]

theorem h_szSs (a : List Sc) (left : Int) (h0 : 0 ≤ left) (h1 : left ≤ 1048576) : HasC Try.prog 59 [.list 2 (a.map eS), .int left] (.int (zS zSc a left)) := by
  refine hasC_mk TT_ok (ns := [0,1,2,3,4,5,6,7]) Try.func59 rfl rfl Try.ntmps59 rfl rfl rfl ?_
  refine ac_len (t := 0) rfl fun hla => ?_
  have hmx : maxLen ≤ 9223372036854775807 := by decide
  simp only [List.length_map] at hla
  repeat (first | refine aops_nil ?_ | refine ac_seq ?_ | refine ac_region ?_ | refine aops_eff (eff_move rfl) rfl rfl rfl ?_ | refine aops_eff (eff_assign rfl) rfl rfl rfl ?_ | refine aops_eff (w_len_list TT_ok rfl rfl rfl) rfl rfl rfl ?_)
  refine aops_eff (w_sub rfl rfl (by simp only [List.length_map]; omega)) rfl rfl rfl ?_
  repeat (first | refine aops_nil ?_ | refine ac_seq ?_ | refine ac_region ?_ | refine then_n ?_ | refine aops_eff (eff_move rfl) rfl rfl rfl ?_ | refine aops_eff (eff_assign rfl) rfl rfl rfl ?_ | refine aops_eff (w_cmp rfl rfl rfl) rfl rfl rfl ?_)
  refine ac_cond rfl (fun h => ?_) (fun h => ?_)
  · simp at h
    repeat (first | refine aops_nil ?_ | refine ac_seq ?_ | refine ac_region ?_ | refine then_n ?_ | refine then_ret ?_ | refine ac_ret ?_ | refine aops_eff (eff_assign rfl) rfl rfl rfl ?_)
    refine ret_mk rfl rfl rfl ?_
    refine fz_int ?_
    unfold zS; rw [if_pos (by omega)]
  · simp at h
    repeat (first | refine aops_nil ?_ | refine ac_seq ?_ | refine ac_region ?_ | refine then_n ?_ | refine ac_block ?_ | refine ac_skip ?_ | refine aops_eff (eff_assign rfl) rfl rfl rfl ?_)
    refine ac_loop (ι := Nat × Int) (fun p => mkS [(0, .list 2 (a.map eS)), (1, .int p.2), (5, .int p.1)] [] 0 [0,1,2,3,4,5,6,7]) (fun p => p.1 ≤ a.length ∧ 0 ≤ p.2 ∧ p.2 ≤ 1048576 ∧ zS zSc a left = zC ((a.drop p.1).map zSc) p.2) (fun p => a.length - p.1) (0, left - a.length) ⟨by simp, by simp; omega, by simp; omega, by simp only [zS]; rw [if_neg (by omega)]; rfl⟩ ?_ ?_
    · refine ent_mk (σ := sg []) ?_ ?_ rfl
      · repeat (first | exact trivial | refine ⟨⟨_, rfl, ?_⟩, ?_⟩ | exact ⟨rfl, rfl⟩ | exact ⟨rfl, rfl, rfl, rfl⟩ | exact m_int (by omega) | exact m_int (by simp [encI_len]) | exact rfl)
      · repeat (first | exact trivial | refine ⟨⟨_, rfl, ?_⟩, rfl, ?_⟩ | refine ⟨rfl, .inl ⟨rfl, ?_⟩⟩)
    · rintro ⟨k, y⟩ ⟨hk, hy0, hy1, hz⟩
      simp only at hk hy0 hy1 hz
      repeat (first | refine aops_nil ?_ | refine ac_seq ?_ | refine ac_region ?_ | refine then_n ?_ | refine aops_eff (eff_move rfl) rfl rfl rfl ?_ | refine aops_eff (w_len_list TT_ok rfl rfl rfl) rfl rfl rfl ?_ | refine aops_eff (w_cmp rfl rfl rfl) rfl rfl rfl ?_)
      refine ac_cond rfl (fun h2 => ?_) (fun h2 => ?_)
      · simp at h2
        have hd : (a.drop k).map zSc = zSc a[k] :: (a.drop (k + 1)).map zSc := by rw [List.drop_eq_getElem_cons h2, List.map_cons]
        have f0 := falls_Sc a[k] y hy0 hy1
        repeat (first | refine ac_seq ?_ | refine ac_region ?_ | refine ac_block ?_ | refine ac_skip ?_ | refine aops_eff (eff_move rfl) rfl rfl rfl ?_ | refine aops_eff (w_load_ref TT_ok rfl rfl rfl rfl rfl rfl) rfl rfl rfl ?_ | refine aops_eff (eff_indexAddr_list TT_ok rfl rfl rfl rfl rfl rfl (map_at (at_lt (by omega)))) rfl rfl rfl ?_)
        refine aops_eff (w_call0s (h_szS a[k] y hy0 hy1) rfl (va_cons (va_agg rfl) (va_cons (va_same rfl) va_nil))) rfl rfl rfl ?_
        repeat (first | refine aops_nil ?_ | refine ac_seq ?_ | refine ac_region ?_ | refine then_n ?_ | refine aops_eff (eff_move rfl) rfl rfl rfl ?_ | refine aops_eff (eff_assign rfl) rfl rfl rfl ?_ | refine aops_eff (w_cmp rfl rfl rfl) rfl rfl rfl ?_)
        refine ac_cond rfl (fun h3 => ?_) (fun h3 => ?_)
        · have h3 : zSc a[k] y < 0 := of_decide_eq_true h3
          repeat (first | refine aops_nil ?_ | refine ac_seq ?_ | refine ac_region ?_ | refine then_n ?_ | refine then_ret ?_ | refine block_ret ?_ | refine ac_ret ?_ | refine aops_eff (eff_assign rfl) rfl rfl rfl ?_)
          refine ret_mk rfl rfl rfl ?_
          refine fz_int ?_
          rw [hz, hd, zC, if_pos h3]
        · have h3 : ¬ zSc a[k] y < 0 := of_decide_eq_false h3
          repeat (first | refine aops_nil ?_ | refine ac_region ?_ | refine then_n ?_ | refine ac_skip ?_ | refine aops_eff (eff_move rfl) rfl rfl rfl ?_ | refine aops_eff (eff_assign rfl) rfl rfl rfl ?_ | refine aops_eff (w_add rfl rfl (by omega)) rfl rfl rfl ?_)
          refine ⟨(k + 1, zSc a[k] y), ⟨by simp; omega, by simp; omega, by simp; omega, ?_⟩, by simp; omega, ?_⟩
          · rw [hz, hd, zC, if_neg h3]
          · refine ent_mk (σ := sg []) ?_ ?_ rfl
            · repeat (first | exact trivial | refine ⟨⟨_, rfl, ?_⟩, ?_⟩ | exact ⟨rfl, rfl⟩ | exact ⟨rfl, rfl, rfl, rfl⟩ | exact m_int (by omega) | exact m_int (by simp [encI_len]) | exact rfl)
            · repeat (first | exact trivial | refine ⟨⟨_, rfl, ?_⟩, rfl, ?_⟩ | refine ⟨rfl, .inl ⟨rfl, ?_⟩⟩)
      · simp at h2
        repeat (first | refine aops_nil ?_ | refine ac_seq ?_ | refine ac_region ?_ | refine then_n ?_ | refine ac_exit ?_ | refine ac_ret ?_ | refine aops_eff (eff_move rfl) rfl rfl rfl ?_ | refine aops_eff (eff_assign rfl) rfl rfl rfl ?_)
        refine ret_mk rfl rfl rfl ?_
        refine fz_int ?_
        rw [hz, List.drop_eq_nil_of_le (by omega)]
        rfl

theorem h_szC (a : Cl) (left : Int) (h0 : 0 ≤ left) (h1 : left ≤ 1048576) : HasC Try.prog 23 [.agg (eC a), .int left] (.int (zCl a left)) := by
  unfold zCl
  refine hasC_mk TT_ok (ns := [0,1,2,3,4,5,6,7]) Try.func23 rfl rfl Try.ntmps23 rfl rfl rfl ?_
  repeat (first | refine aops_nil ?_ | refine ac_seq ?_ | refine ac_region ?_ | refine aops_eff (eff_move rfl) rfl rfl rfl ?_ | refine aops_eff (w_load_ptr TT_ok rfl rfl rfl rfl rfl rfl rfl) rfl rfl rfl ?_ | refine aops_eff (w_field_ptr TT_ok rfl rfl rfl rfl rfl rfl rfl) rfl rfl rfl ?_ | refine aops_eff (eff_assign rfl) rfl rfl rfl ?_ | refine aops_eff (w_box rfl rfl rfl rfl) rfl rfl rfl ?_)
  refine aops_eff (w_call0s (h_szR a.rep left h0 h1) rfl (va_cons (va_agg rfl) (va_cons (va_same rfl) va_nil))) rfl rfl rfl ?_
  repeat (first | refine aops_nil ?_ | refine ac_seq ?_ | refine ac_region ?_ | refine then_n ?_ | refine aops_eff (eff_move rfl) rfl rfl rfl ?_ | refine aops_eff (eff_assign rfl) rfl rfl rfl ?_ | refine aops_eff (w_cmp rfl rfl rfl) rfl rfl rfl ?_)
  refine ac_cond rfl (fun g0 => ?_) (fun g0 => ?_)
  · simp at g0
    repeat (first | refine aops_nil ?_ | refine ac_seq ?_ | refine ac_region ?_ | refine then_n ?_ | refine then_ret ?_ | refine ac_ret ?_ | refine aops_eff (eff_assign rfl) rfl rfl rfl ?_)
    refine ret_mk rfl rfl rfl ?_
    refine fz_int ?_
    simp [zC, g0]
  · simp at g0
    have f0 := (falls_R a.rep) left h0 h1
    have k0 : 0 ≤ zR a.rep (left) ∧ zR a.rep (left) ≤ 1048576 := by rcases f0 with e | ⟨e1, e2, _⟩ <;> omega
    have n0 : ¬ zR a.rep (left) < 0 := by omega
    repeat (first | refine ac_seq ?_ | refine ac_region ?_ | refine ac_skip ?_ | refine aops_eff (eff_move rfl) rfl rfl rfl ?_ | refine aops_eff (w_load_ptr TT_ok rfl rfl rfl rfl rfl rfl rfl) rfl rfl rfl ?_ | refine aops_eff (w_field_ptr TT_ok rfl rfl rfl rfl rfl rfl rfl) rfl rfl rfl ?_)
    refine aops_eff (w_call0s (h_szR a.other (zR a.rep left) k0.1 k0.2) rfl (va_cons (va_agg rfl) (va_cons (va_same rfl) va_nil))) rfl rfl rfl ?_
    repeat (first | refine aops_nil ?_ | refine ac_seq ?_ | refine ac_region ?_ | refine then_n ?_ | refine aops_eff (eff_move rfl) rfl rfl rfl ?_ | refine aops_eff (eff_assign rfl) rfl rfl rfl ?_ | refine aops_eff (w_cmp rfl rfl rfl) rfl rfl rfl ?_)
    refine ac_cond rfl (fun g1 => ?_) (fun g1 => ?_)
    · simp at g1
      repeat (first | refine aops_nil ?_ | refine ac_seq ?_ | refine ac_region ?_ | refine then_n ?_ | refine then_ret ?_ | refine ac_ret ?_ | refine aops_eff (eff_assign rfl) rfl rfl rfl ?_)
      refine ret_mk rfl rfl rfl ?_
      refine fz_int ?_
      simp [zC, g0, g1]
    · simp at g1
      have f1 := (falls_R a.other) (zR a.rep left) k0.1 k0.2
      have k1 : 0 ≤ zR a.other ((zR a.rep left)) ∧ zR a.other ((zR a.rep left)) ≤ 1048576 := by rcases f1 with e | ⟨e1, e2, _⟩ <;> omega
      have n1 : ¬ zR a.other ((zR a.rep left)) < 0 := by omega
      repeat (first | refine ac_seq ?_ | refine ac_region ?_ | refine ac_skip ?_ | refine aops_eff (eff_move rfl) rfl rfl rfl ?_ | refine aops_eff (w_load_ptr TT_ok rfl rfl rfl rfl rfl rfl rfl) rfl rfl rfl ?_ | refine aops_eff (w_field_ptr TT_ok rfl rfl rfl rfl rfl rfl rfl) rfl rfl rfl ?_)
      refine aops_eff (w_call0s (h_szRs a.parts (zR a.other (zR a.rep left)) k1.1 k1.2) rfl (va_cons (va_same rfl) (va_cons (va_same rfl) va_nil))) rfl rfl rfl ?_
      repeat (first | refine aops_nil ?_ | refine ac_seq ?_ | refine ac_region ?_ | refine then_n ?_ | refine aops_eff (eff_move rfl) rfl rfl rfl ?_ | refine aops_eff (eff_assign rfl) rfl rfl rfl ?_ | refine aops_eff (w_cmp rfl rfl rfl) rfl rfl rfl ?_)
      refine ac_cond rfl (fun g2 => ?_) (fun g2 => ?_)
      · simp at g2
        repeat (first | refine aops_nil ?_ | refine ac_seq ?_ | refine ac_region ?_ | refine then_n ?_ | refine then_ret ?_ | refine ac_ret ?_ | refine aops_eff (eff_assign rfl) rfl rfl rfl ?_)
        refine ret_mk rfl rfl rfl ?_
        refine fz_int ?_
        simp [zC, g0, g1, g2]
      · simp at g2
        have f2 := (falls_S falls_R a.parts) (zR a.other (zR a.rep left)) k1.1 k1.2
        have k2 : 0 ≤ zS zR a.parts ((zR a.other (zR a.rep left))) ∧ zS zR a.parts ((zR a.other (zR a.rep left))) ≤ 1048576 := by rcases f2 with e | ⟨e1, e2, _⟩ <;> omega
        have n2 : ¬ zS zR a.parts ((zR a.other (zR a.rep left))) < 0 := by omega
        repeat (first | refine ac_seq ?_ | refine ac_region ?_ | refine ac_skip ?_ | refine aops_eff (eff_move rfl) rfl rfl rfl ?_ | refine aops_eff (w_load_ptr TT_ok rfl rfl rfl rfl rfl rfl rfl) rfl rfl rfl ?_ | refine aops_eff (w_field_ptr TT_ok rfl rfl rfl rfl rfl rfl rfl) rfl rfl rfl ?_)
        refine aops_eff (w_call0s (h_szMs a.maps (zS zR a.parts (zR a.other (zR a.rep left))) k2.1 k2.2) rfl (va_cons (va_same rfl) (va_cons (va_same rfl) va_nil))) rfl rfl rfl ?_
        repeat (first | refine aops_nil ?_ | refine ac_seq ?_ | refine ac_region ?_ | refine then_n ?_ | refine aops_eff (eff_move rfl) rfl rfl rfl ?_ | refine aops_eff (eff_assign rfl) rfl rfl rfl ?_ | refine aops_eff (w_cmp rfl rfl rfl) rfl rfl rfl ?_)
        refine ac_cond rfl (fun g3 => ?_) (fun g3 => ?_)
        · simp at g3
          repeat (first | refine aops_nil ?_ | refine ac_seq ?_ | refine ac_region ?_ | refine then_n ?_ | refine then_ret ?_ | refine ac_ret ?_ | refine aops_eff (eff_assign rfl) rfl rfl rfl ?_)
          refine ret_mk rfl rfl rfl ?_
          refine fz_int ?_
          simp [zC, g0, g1, g2, g3]
        · simp at g3
          have f3 := (falls_S falls_M a.maps) (zS zR a.parts (zR a.other (zR a.rep left))) k2.1 k2.2
          have k3 : 0 ≤ zS zM a.maps ((zS zR a.parts (zR a.other (zR a.rep left)))) ∧ zS zM a.maps ((zS zR a.parts (zR a.other (zR a.rep left)))) ≤ 1048576 := by rcases f3 with e | ⟨e1, e2, _⟩ <;> omega
          have n3 : ¬ zS zM a.maps ((zS zR a.parts (zR a.other (zR a.rep left)))) < 0 := by omega
          repeat (first | refine ac_seq ?_ | refine ac_region ?_ | refine ac_skip ?_ | refine aops_eff (eff_move rfl) rfl rfl rfl ?_ | refine aops_eff (w_load_ptr TT_ok rfl rfl rfl rfl rfl rfl rfl) rfl rfl rfl ?_ | refine aops_eff (w_field_ptr TT_ok rfl rfl rfl rfl rfl rfl rfl) rfl rfl rfl ?_)
          refine aops_eff (w_call0s (h_szB a.bars (zS zM a.maps (zS zR a.parts (zR a.other (zR a.rep left)))) k3.1 k3.2) rfl (va_cons (va_same rfl) (va_cons (va_same rfl) va_nil))) rfl rfl rfl ?_
          repeat (first | refine aops_nil ?_ | refine ac_seq ?_ | refine ac_region ?_ | refine then_n ?_ | refine aops_eff (eff_move rfl) rfl rfl rfl ?_ | refine aops_eff (eff_assign rfl) rfl rfl rfl ?_ | refine aops_eff (w_cmp rfl rfl rfl) rfl rfl rfl ?_)
          refine ac_cond rfl (fun g4 => ?_) (fun g4 => ?_)
          · simp at g4
            repeat (first | refine aops_nil ?_ | refine ac_seq ?_ | refine ac_region ?_ | refine then_n ?_ | refine then_ret ?_ | refine ac_ret ?_ | refine aops_eff (eff_assign rfl) rfl rfl rfl ?_)
            refine ret_mk rfl rfl rfl ?_
            refine fz_int ?_
            simp [zC, g0, g1, g2, g3, g4]
          · simp at g4
            have f4 := (falls_B a.bars) (zS zM a.maps (zS zR a.parts (zR a.other (zR a.rep left)))) k3.1 k3.2
            have k4 : 0 ≤ zB a.bars ((zS zM a.maps (zS zR a.parts (zR a.other (zR a.rep left))))) ∧ zB a.bars ((zS zM a.maps (zS zR a.parts (zR a.other (zR a.rep left))))) ≤ 1048576 := by rcases f4 with e | ⟨e1, e2, _⟩ <;> omega
            have n4 : ¬ zB a.bars ((zS zM a.maps (zS zR a.parts (zR a.other (zR a.rep left))))) < 0 := by omega
            repeat (first | refine ac_seq ?_ | refine ac_region ?_ | refine ac_skip ?_ | refine aops_eff (eff_move rfl) rfl rfl rfl ?_ | refine aops_eff (w_load_ptr TT_ok rfl rfl rfl rfl rfl rfl rfl) rfl rfl rfl ?_ | refine aops_eff (w_field_ptr TT_ok rfl rfl rfl rfl rfl rfl rfl) rfl rfl rfl ?_)
            refine aops_eff (w_call0s (h_szI a.theta (zB a.bars (zS zM a.maps (zS zR a.parts (zR a.other (zR a.rep left))))) k4.1 k4.2) rfl (va_cons (va_same rfl) (va_cons (va_same rfl) va_nil))) rfl rfl rfl ?_
            repeat (first | refine aops_nil ?_ | refine ac_seq ?_ | refine ac_region ?_ | refine then_n ?_ | refine aops_eff (eff_move rfl) rfl rfl rfl ?_ | refine aops_eff (eff_assign rfl) rfl rfl rfl ?_ | refine aops_eff (w_cmp rfl rfl rfl) rfl rfl rfl ?_)
            refine ac_cond rfl (fun g5 => ?_) (fun g5 => ?_)
            · simp at g5
              repeat (first | refine aops_nil ?_ | refine ac_seq ?_ | refine ac_region ?_ | refine then_n ?_ | refine then_ret ?_ | refine ac_ret ?_ | refine aops_eff (eff_assign rfl) rfl rfl rfl ?_)
              refine ret_mk rfl rfl rfl ?_
              refine fz_int ?_
              simp [zC, g0, g1, g2, g3, g4, g5]
            · simp at g5
              have f5 := (falls_I a.theta.length) (zB a.bars (zS zM a.maps (zS zR a.parts (zR a.other (zR a.rep left))))) k4.1 k4.2
              have k5 : 0 ≤ zI a.theta.length ((zB a.bars (zS zM a.maps (zS zR a.parts (zR a.other (zR a.rep left)))))) ∧ zI a.theta.length ((zB a.bars (zS zM a.maps (zS zR a.parts (zR a.other (zR a.rep left)))))) ≤ 1048576 := by rcases f5 with e | ⟨e1, e2, _⟩ <;> omega
              have n5 : ¬ zI a.theta.length ((zB a.bars (zS zM a.maps (zS zR a.parts (zR a.other (zR a.rep left)))))) < 0 := by omega
              repeat (first | refine ac_seq ?_ | refine ac_region ?_ | refine ac_skip ?_ | refine aops_eff (eff_move rfl) rfl rfl rfl ?_ | refine aops_eff (w_load_ptr TT_ok rfl rfl rfl rfl rfl rfl rfl) rfl rfl rfl ?_ | refine aops_eff (w_field_ptr TT_ok rfl rfl rfl rfl rfl rfl rfl) rfl rfl rfl ?_)
              refine aops_eff (w_call0s (h_szSs a.subs (zI a.theta.length (zB a.bars (zS zM a.maps (zS zR a.parts (zR a.other (zR a.rep left)))))) k5.1 k5.2) rfl (va_cons (va_same rfl) (va_cons (va_same rfl) va_nil))) rfl rfl rfl ?_
              repeat (first | refine aops_nil ?_ | refine ac_seq ?_ | refine ac_region ?_ | refine then_n ?_ | refine aops_eff (eff_move rfl) rfl rfl rfl ?_ | refine aops_eff (eff_assign rfl) rfl rfl rfl ?_ | refine aops_eff (w_cmp rfl rfl rfl) rfl rfl rfl ?_)
              refine ac_cond rfl (fun g6 => ?_) (fun g6 => ?_)
              · simp at g6
                repeat (first | refine aops_nil ?_ | refine ac_seq ?_ | refine ac_region ?_ | refine then_n ?_ | refine then_ret ?_ | refine ac_ret ?_ | refine aops_eff (eff_assign rfl) rfl rfl rfl ?_)
                refine ret_mk rfl rfl rfl ?_
                refine fz_int ?_
                simp [zC, g0, g1, g2, g3, g4, g5, g6]
              · simp at g6
                have f6 := (falls_S falls_Sc a.subs) (zI a.theta.length (zB a.bars (zS zM a.maps (zS zR a.parts (zR a.other (zR a.rep left)))))) k5.1 k5.2
                have k6 : 0 ≤ zS zSc a.subs ((zI a.theta.length (zB a.bars (zS zM a.maps (zS zR a.parts (zR a.other (zR a.rep left))))))) ∧ zS zSc a.subs ((zI a.theta.length (zB a.bars (zS zM a.maps (zS zR a.parts (zR a.other (zR a.rep left))))))) ≤ 1048576 := by rcases f6 with e | ⟨e1, e2, _⟩ <;> omega
                have n6 : ¬ zS zSc a.subs ((zI a.theta.length (zB a.bars (zS zM a.maps (zS zR a.parts (zR a.other (zR a.rep left))))))) < 0 := by omega
                repeat (first | refine aops_nil ?_ | refine ac_seq ?_ | refine ac_region ?_ | refine then_n ?_ | refine ac_skip ?_ | refine ac_ret ?_ | refine aops_eff (eff_move rfl) rfl rfl rfl ?_ | refine aops_eff (eff_assign rfl) rfl rfl rfl ?_)
                refine ret_mk rfl rfl rfl ?_
                refine fz_int ?_
                simp [zC, n0, n1, n2, n3, n4, n5, n6]
end Go.Proofs.Ytpngpgbmkkjjgaa

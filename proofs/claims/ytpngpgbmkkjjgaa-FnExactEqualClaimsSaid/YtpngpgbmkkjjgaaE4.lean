/-
  Contracts: comparisons of bars, claims.
-/
import Derived.Test.YtpngpgbmkkjjgaaE3
namespace Go.Proofs.Ytpngpgbmkkjjgaa
open Go.RowKit
set_option maxRecDepth 10000
set_option maxHeartbeats 4000000

theorem bar_guard : Try.prog.eqGuardType Try.prog.depth 120 = false := by kernel_rfl
theorem bar_held : Try.prog.stoodInHeld 120 = false := by kernel_rfl
theorem bar_und : Try.prog.underlying 120 = some (.struct (Try.prog.fieldsOf 120)) := by kernel_rfl
theorem bar_fields : (Try.prog.fieldsOf 120).toList.map (fun f => (f.name == "_", f.type, f.offset)) = [(false, 3, 0), (false, 3, 1), (false, 3, 2)] := by kernel_rfl
theorem run_eq_int (d : Nat) (a b : Int) (w : World) : (Op.equalIn (d + 1) 3 (.int .i64 a) (.int .i64 b)).run Try.prog w = .ok (a == b) w := by
  simp [Op.equalIn, run_und Try.underlying3]
theorem run_part_int (cs : Array Value) (o : Nat) (v : Value) (h : cs[o]? = some v) (w : World) : (part 3 cs o).run Try.prog w = .ok v w := by
  have hi : (isAgg 3).run Try.prog w = .ok false w := by simp [isAgg, run_und Try.underlying3]
  simp [part, hi, h]
theorem eq_bar (a1 a2 a3 b1 b2 b3 : Int) (w : World) : (Op.equal 120 (.agg #[.int .i64 a1, .int .i64 a2, .int .i64 a3]) (.agg #[.int .i64 b1, .int .i64 b2, .int .i64 b3])).run Try.prog w = .ok (decide (a1 = b1) && (decide (a2 = b2) && decide (a3 = b3))) w := by
  unfold Op.equal
  rw [show Op.maxDepth = 9999 + 1 from rfl, run_equalIn_struct w 9999 _ _ _ bar_und bar_held]
  have hf := bar_fields
  generalize (Try.prog.fieldsOf 120).toList = fs at hf
  obtain ⟨f1, f2, f3, rfl⟩ : ∃ f1 f2 f3, fs = [f1, f2, f3] := by
    match fs, congrArg List.length hf with
    | [f1, f2, f3], _ => exact ⟨f1, f2, f3, rfl⟩
  simp only [List.map_cons, List.map_nil, List.cons.injEq, Prod.mk.injEq, and_true, beq_eq_false_iff_ne, ne_eq] at hf
  obtain ⟨⟨n1, t1, o1⟩, ⟨n2, t2, o2⟩, ⟨n3, t3, o3⟩⟩ := hf
  have e : ∀ x y : Int, (x == y) = decide (x = y) := fun x y => by by_cases h : x = y <;> simp [h]
  have p0 : ∀ (x y z : Value) w, (part 3 #[x, y, z] 0).run Try.prog w = .ok x w := fun x y z w => run_part_int _ _ _ rfl w
  have p1 : ∀ (x y z : Value) w, (part 3 #[x, y, z] 1).run Try.prog w = .ok y w := fun x y z w => run_part_int _ _ _ rfl w
  have p2 : ∀ (x y z : Value) w, (part 3 #[x, y, z] 2).run Try.prog w = .ok z w := fun x y z w => run_part_int _ _ _ rfl w
  have q : ∀ (a b : Int) w, (Op.equalIn 9999 3 (.int .i64 a) (.int .i64 b)).run Try.prog w = .ok (a == b) w := run_eq_int 9998
  simp only [Op.eqFields, n1, n2, n3, t1, t2, t3, o1, o2, o3, ne_eq, not_false_eq_true, if_true, Sem.run_bind, p0, p1, p2, Result.andThen_ok, q, Sem.run_ite, Sem.run_pure, e]
  by_cases h1 : a1 = b1 <;> by_cases h2 : a2 = b2 <;> by_cases h3 : a3 = b3 <;> simp [h1, h2, h3]
theorem guard_bar (op : BinOp) (x y : Operand) (u v : Array Value) (w : World) : (eqGuard op 120 x y (.agg u) (.agg v)).run Try.prog w = .ok () w := by
  unfold eqGuard
  cases op <;> simp [bar_guard]

theorem w_ne_bar {dst : Option Tmp} {ty : TypeId} {pos : String} {aft : Array Edge} {g : Option (Nat × Bool)} {s : AState} {t' : TypeId} {x y : Operand} {a b : Br} (hx : s.ev x = some (.agg (eB a))) (hy : s.ev y = some (.agg (eB b))) :
    AEff Try.prog ⟨dst, .binOp .neq 120 x y t', ty, pos, aft, g⟩ s.ev s.heap ⟨.bl (!decide (a = b)), [], [], []⟩ :=
  AEff.pure fun C s' ν ac w hi _ hs => by
    have h1 := hs.ev ((hi x (by simp [Op.operands])).trans hx)
    have h2 := hs.ev ((hi y (by simp [Op.operands])).trans hy)
    obtain ⟨vs, h1, v1, _, rfl, ⟨rfl, _⟩, v2, _, rfl, ⟨rfl, _⟩, v3, _, rfl, ⟨rfl, _⟩, rfl⟩ := h1
    obtain ⟨us, h2, u1, _, rfl, ⟨rfl, _⟩, u2, _, rfl, ⟨rfl, _⟩, u3, _, rfl, ⟨rfl, _⟩, rfl⟩ := h2
    refine ⟨.bool (!decide (a = b)), ?_, repA_sc rfl⟩
    have e : (decide (a.first = b.first) && (decide (a.last = b.last) && decide (a.count = b.count))) = decide (a = b) := by
      cases a; cases b; simp [Br.mk.injEq]
    simp only [execOp, h1, h2, binOp, Sem.run_bind, guard_bar, Result.andThen_ok]
    rw [eq_bar, e]
    simp

theorem h_s_bars (a b : List Br) : HasC Try.prog 63 [.list 3 (a.map eB), .list 3 (b.map eB)] (.bl (decide (a = b))) := by
  refine hasC_mk TT_ok (ns := [0,1,2,3,4,5,6,7]) Try.func63 rfl rfl Try.ntmps63 rfl rfl rfl ?_
  refine ac_len (t := 0) rfl fun hla => ?_
  have hmx : maxLen ≤ 9223372036854775807 := by decide
  simp only [encI_len, List.length_map] at hla
  repeat (first
    | refine aops_nil ?_
    | refine ac_seq ?_
    | refine ac_region ?_
    | refine then_n ?_
    | refine then_ret ?_
    | refine then_exit ?_
    | refine block_n ?_
    | refine block_ret ?_
    | refine block_here ?_
    | refine block_out rfl ?_
    | refine ac_region_draw MIX ?_
    | refine ac_block ?_
    | refine ac_skip ?_
    | refine ac_exit ?_
    | refine ac_ret ?_
    | refine aops_eff (eff_move rfl) rfl rfl rfl ?_
    | refine aops_eff (w_load_ptr TT_ok rfl rfl rfl rfl rfl rfl rfl) rfl rfl rfl ?_
    | refine aops_eff (w_field_ptr TT_ok rfl rfl rfl rfl rfl rfl rfl) rfl rfl rfl ?_
    | refine aops_eff (eff_assign rfl) rfl rfl rfl ?_
    | refine aops_eff (w_len_list TT_ok rfl rfl rfl) rfl rfl rfl ?_
    | refine aops_eff (w_load_ref TT_ok rfl rfl rfl rfl rfl rfl) rfl rfl rfl ?_
    | refine aops_eff (w_cmp rfl rfl rfl) rfl rfl rfl ?_
    | refine aops_eff (eff_indexAddr_list TT_ok rfl rfl rfl rfl rfl rfl (encI_at (by omega))) rfl rfl rfl ?_
    | refine aops_eff (eff_indexAddr_list TT_ok rfl rfl rfl rfl rfl rfl (map_at (at_lt (by omega)))) rfl rfl rfl ?_
    | refine aops_eff (w_add rfl rfl (by omega)) rfl rfl rfl ?_
    | refine aops_skip rfl rfl ?_
    | refine aops_eff (eff_pick rfl rfl) rfl rfl rfl ?_
    | refine aops_eff (w_field_ref TT_ok rfl rfl rfl rfl rfl rfl) rfl rfl rfl ?_
    | refine aops_eff (w_not rfl) rfl rfl rfl ?_
    | refine aops_eff (w_box rfl rfl rfl rfl) rfl rfl rfl ?_
    | refine aops_eff (w_alloc TT_ok rfl rfl) rfl rfl rfl ?_
    | refine aops_eff (w_store TT_ok rfl rfl rfl rfl rfl rfl rfl rfl) rfl rfl rfl ?_
    | refine aops_eff (w_len_own TT_ok rfl rfl rfl rfl) rfl rfl rfl ?_
    | refine aops_eff (w_len_nil TT_ok rfl rfl rfl) rfl rfl rfl ?_
    | refine aops_eff (eff_extract rfl rfl (by intro _ h; cases h)) rfl rfl rfl ?_
    | refine aops_eff (w_lit TT_ok rfl rfl rfl rfl rfl rfl rfl rfl rfl rfl rfl) rfl rfl rfl ?_
    | refine aops_eff (w_build TT_ok rfl rfl rfl rfl rfl rfl) rfl rfl rfl ?_)
  refine ac_cond rfl (fun h => ?_) (fun h => ?_)
  · simp [encI_len] at h
    repeat (first
      | refine aops_nil ?_
      | refine ac_seq ?_
      | refine ac_region ?_
      | refine then_n ?_
      | refine then_ret ?_
      | refine then_exit ?_
      | refine block_n ?_
      | refine block_ret ?_
      | refine block_here ?_
      | refine block_out rfl ?_
      | refine ac_region_draw MIX ?_
      | refine ac_block ?_
      | refine ac_skip ?_
      | refine ac_exit ?_
      | refine ac_ret ?_
      | refine aops_eff (eff_move rfl) rfl rfl rfl ?_
      | refine aops_eff (w_load_ptr TT_ok rfl rfl rfl rfl rfl rfl rfl) rfl rfl rfl ?_
      | refine aops_eff (w_field_ptr TT_ok rfl rfl rfl rfl rfl rfl rfl) rfl rfl rfl ?_
      | refine aops_eff (eff_assign rfl) rfl rfl rfl ?_
      | refine aops_eff (w_len_list TT_ok rfl rfl rfl) rfl rfl rfl ?_
      | refine aops_eff (w_load_ref TT_ok rfl rfl rfl rfl rfl rfl) rfl rfl rfl ?_
      | refine aops_eff (w_cmp rfl rfl rfl) rfl rfl rfl ?_
      | refine aops_eff (eff_indexAddr_list TT_ok rfl rfl rfl rfl rfl rfl (encI_at (by omega))) rfl rfl rfl ?_
      | refine aops_eff (eff_indexAddr_list TT_ok rfl rfl rfl rfl rfl rfl (map_at (at_lt (by omega)))) rfl rfl rfl ?_
      | refine aops_eff (w_add rfl rfl (by omega)) rfl rfl rfl ?_
      | refine aops_skip rfl rfl ?_
      | refine aops_eff (eff_pick rfl rfl) rfl rfl rfl ?_
      | refine aops_eff (w_field_ref TT_ok rfl rfl rfl rfl rfl rfl) rfl rfl rfl ?_
      | refine aops_eff (w_not rfl) rfl rfl rfl ?_
      | refine aops_eff (w_box rfl rfl rfl rfl) rfl rfl rfl ?_
      | refine aops_eff (w_alloc TT_ok rfl rfl) rfl rfl rfl ?_
      | refine aops_eff (w_store TT_ok rfl rfl rfl rfl rfl rfl rfl rfl) rfl rfl rfl ?_
      | refine aops_eff (w_len_own TT_ok rfl rfl rfl rfl) rfl rfl rfl ?_
      | refine aops_eff (w_len_nil TT_ok rfl rfl rfl) rfl rfl rfl ?_
      | refine aops_eff (eff_extract rfl rfl (by intro _ h; cases h)) rfl rfl rfl ?_
      | refine aops_eff (w_lit TT_ok rfl rfl rfl rfl rfl rfl rfl rfl rfl rfl rfl) rfl rfl rfl ?_
      | refine aops_eff (w_build TT_ok rfl rfl rfl rfl rfl rfl) rfl rfl rfl ?_)
    refine ret_mk rfl rfl rfl ?_
    refine fz_bl ?_
    have : a ≠ b := by rintro rfl; exact h rfl
    simp [this]
  · simp [encI_len] at h
    repeat (first
      | refine aops_nil ?_
      | refine ac_seq ?_
      | refine ac_region ?_
      | refine then_n ?_
      | refine then_ret ?_
      | refine then_exit ?_
      | refine block_n ?_
      | refine block_ret ?_
      | refine block_here ?_
      | refine block_out rfl ?_
      | refine ac_region_draw MIX ?_
      | refine ac_block ?_
      | refine ac_skip ?_
      | refine ac_exit ?_
      | refine ac_ret ?_
      | refine aops_eff (eff_move rfl) rfl rfl rfl ?_
      | refine aops_eff (w_load_ptr TT_ok rfl rfl rfl rfl rfl rfl rfl) rfl rfl rfl ?_
      | refine aops_eff (w_field_ptr TT_ok rfl rfl rfl rfl rfl rfl rfl) rfl rfl rfl ?_
      | refine aops_eff (eff_assign rfl) rfl rfl rfl ?_
      | refine aops_eff (w_len_list TT_ok rfl rfl rfl) rfl rfl rfl ?_
      | refine aops_eff (w_load_ref TT_ok rfl rfl rfl rfl rfl rfl) rfl rfl rfl ?_
      | refine aops_eff (w_cmp rfl rfl rfl) rfl rfl rfl ?_
      | refine aops_eff (eff_indexAddr_list TT_ok rfl rfl rfl rfl rfl rfl (encI_at (by omega))) rfl rfl rfl ?_
      | refine aops_eff (eff_indexAddr_list TT_ok rfl rfl rfl rfl rfl rfl (map_at (at_lt (by omega)))) rfl rfl rfl ?_
      | refine aops_eff (w_add rfl rfl (by omega)) rfl rfl rfl ?_
      | refine aops_skip rfl rfl ?_
      | refine aops_eff (eff_pick rfl rfl) rfl rfl rfl ?_
      | refine aops_eff (w_field_ref TT_ok rfl rfl rfl rfl rfl rfl) rfl rfl rfl ?_
      | refine aops_eff (w_not rfl) rfl rfl rfl ?_
      | refine aops_eff (w_box rfl rfl rfl rfl) rfl rfl rfl ?_
      | refine aops_eff (w_alloc TT_ok rfl rfl) rfl rfl rfl ?_
      | refine aops_eff (w_store TT_ok rfl rfl rfl rfl rfl rfl rfl rfl) rfl rfl rfl ?_
      | refine aops_eff (w_len_own TT_ok rfl rfl rfl rfl) rfl rfl rfl ?_
      | refine aops_eff (w_len_nil TT_ok rfl rfl rfl) rfl rfl rfl ?_
      | refine aops_eff (eff_extract rfl rfl (by intro _ h; cases h)) rfl rfl rfl ?_
      | refine aops_eff (w_lit TT_ok rfl rfl rfl rfl rfl rfl rfl rfl rfl rfl rfl) rfl rfl rfl ?_
      | refine aops_eff (w_build TT_ok rfl rfl rfl rfl rfl rfl) rfl rfl rfl ?_)
    refine ac_loop (ι := Nat) (fun k => mkS [(0, .list 3 (a.map eB)), (1, .list 3 (b.map eB)), (5, .int k)] [] 0 [0,1,2,3,4,5,6,7]) (fun k => k ≤ a.length ∧ a.take k = b.take k) (fun k => a.length - k) 0 (by simp) ?_ ?_
    · refine ent_mk (σ := sg []) ?_ ?_ rfl
      · repeat (first | exact trivial | refine ⟨⟨_, rfl, ?_⟩, ?_⟩ | exact ⟨rfl, rfl⟩ | exact ⟨rfl, rfl, rfl, rfl⟩ | exact m_int (by omega) | exact m_int (by simp [encI_len]) | exact rfl)
      · repeat (first | exact trivial | refine ⟨⟨_, rfl, ?_⟩, rfl, ?_⟩ | refine ⟨rfl, .inl ⟨rfl, ?_⟩⟩)
    · intro k ⟨hk, hq⟩
      repeat (first
        | refine aops_nil ?_
        | refine ac_seq ?_
        | refine ac_region ?_
        | refine then_n ?_
        | refine then_ret ?_
        | refine then_exit ?_
        | refine block_n ?_
        | refine block_ret ?_
        | refine block_here ?_
        | refine block_out rfl ?_
        | refine ac_region_draw MIX ?_
        | refine ac_block ?_
        | refine ac_skip ?_
        | refine ac_exit ?_
        | refine ac_ret ?_
        | refine aops_eff (eff_move rfl) rfl rfl rfl ?_
        | refine aops_eff (w_load_ptr TT_ok rfl rfl rfl rfl rfl rfl rfl) rfl rfl rfl ?_
        | refine aops_eff (w_field_ptr TT_ok rfl rfl rfl rfl rfl rfl rfl) rfl rfl rfl ?_
        | refine aops_eff (eff_assign rfl) rfl rfl rfl ?_
        | refine aops_eff (w_len_list TT_ok rfl rfl rfl) rfl rfl rfl ?_
        | refine aops_eff (w_load_ref TT_ok rfl rfl rfl rfl rfl rfl) rfl rfl rfl ?_
        | refine aops_eff (w_cmp rfl rfl rfl) rfl rfl rfl ?_
        | refine aops_eff (eff_indexAddr_list TT_ok rfl rfl rfl rfl rfl rfl (encI_at (by omega))) rfl rfl rfl ?_
        | refine aops_eff (eff_indexAddr_list TT_ok rfl rfl rfl rfl rfl rfl (map_at (at_lt (by omega)))) rfl rfl rfl ?_
        | refine aops_eff (w_add rfl rfl (by omega)) rfl rfl rfl ?_
        | refine aops_skip rfl rfl ?_
        | refine aops_eff (eff_pick rfl rfl) rfl rfl rfl ?_
        | refine aops_eff (w_field_ref TT_ok rfl rfl rfl rfl rfl rfl) rfl rfl rfl ?_
        | refine aops_eff (w_not rfl) rfl rfl rfl ?_
        | refine aops_eff (w_box rfl rfl rfl rfl) rfl rfl rfl ?_
        | refine aops_eff (w_alloc TT_ok rfl rfl) rfl rfl rfl ?_
        | refine aops_eff (w_store TT_ok rfl rfl rfl rfl rfl rfl rfl rfl) rfl rfl rfl ?_
        | refine aops_eff (w_len_own TT_ok rfl rfl rfl rfl) rfl rfl rfl ?_
        | refine aops_eff (w_len_nil TT_ok rfl rfl rfl) rfl rfl rfl ?_
        | refine aops_eff (eff_extract rfl rfl (by intro _ h; cases h)) rfl rfl rfl ?_
        | refine aops_eff (w_lit TT_ok rfl rfl rfl rfl rfl rfl rfl rfl rfl rfl rfl) rfl rfl rfl ?_
        | refine aops_eff (w_build TT_ok rfl rfl rfl rfl rfl rfl) rfl rfl rfl ?_)
      refine ac_cond rfl (fun h2 => ?_) (fun h2 => ?_)
      · simp [encI_len] at h2
        have h4 : k < b.length := by omega
        repeat (first
          | refine aops_nil ?_
          | refine ac_seq ?_
          | refine ac_region ?_
          | refine then_n ?_
          | refine then_ret ?_
          | refine then_exit ?_
          | refine block_n ?_
          | refine block_ret ?_
          | refine block_here ?_
          | refine block_out rfl ?_
          | refine ac_region_draw MIX ?_
          | refine ac_block ?_
          | refine ac_skip ?_
          | refine ac_exit ?_
          | refine ac_ret ?_
          | refine aops_eff (eff_move rfl) rfl rfl rfl ?_
          | refine aops_eff (w_load_ptr TT_ok rfl rfl rfl rfl rfl rfl rfl) rfl rfl rfl ?_
          | refine aops_eff (w_field_ptr TT_ok rfl rfl rfl rfl rfl rfl rfl) rfl rfl rfl ?_
          | refine aops_eff (eff_assign rfl) rfl rfl rfl ?_
          | refine aops_eff (w_len_list TT_ok rfl rfl rfl) rfl rfl rfl ?_
          | refine aops_eff (w_load_ref TT_ok rfl rfl rfl rfl rfl rfl) rfl rfl rfl ?_
          | refine aops_eff (w_cmp rfl rfl rfl) rfl rfl rfl ?_
          | refine aops_eff (eff_indexAddr_list TT_ok rfl rfl rfl rfl rfl rfl (encI_at (by omega))) rfl rfl rfl ?_
          | refine aops_eff (eff_indexAddr_list TT_ok rfl rfl rfl rfl rfl rfl (map_at (at_lt (by omega)))) rfl rfl rfl ?_
          | refine aops_eff (w_add rfl rfl (by omega)) rfl rfl rfl ?_
          | refine aops_skip rfl rfl ?_
          | refine aops_eff (eff_pick rfl rfl) rfl rfl rfl ?_
          | refine aops_eff (w_field_ref TT_ok rfl rfl rfl rfl rfl rfl) rfl rfl rfl ?_
          | refine aops_eff (w_not rfl) rfl rfl rfl ?_
          | refine aops_eff (w_box rfl rfl rfl rfl) rfl rfl rfl ?_
          | refine aops_eff (w_alloc TT_ok rfl rfl) rfl rfl rfl ?_
          | refine aops_eff (w_store TT_ok rfl rfl rfl rfl rfl rfl rfl rfl) rfl rfl rfl ?_
          | refine aops_eff (w_len_own TT_ok rfl rfl rfl rfl) rfl rfl rfl ?_
          | refine aops_eff (w_len_nil TT_ok rfl rfl rfl) rfl rfl rfl ?_
          | refine aops_eff (eff_extract rfl rfl (by intro _ h; cases h)) rfl rfl rfl ?_
          | refine aops_eff (w_lit TT_ok rfl rfl rfl rfl rfl rfl rfl rfl rfl rfl rfl) rfl rfl rfl ?_
          | refine aops_eff (w_build TT_ok rfl rfl rfl rfl rfl rfl) rfl rfl rfl ?_)
        refine aops_eff (w_ne_bar (a := a[k]) (b := b[k]) rfl rfl) rfl rfl rfl ?_
        repeat (first
          | refine aops_nil ?_
          | refine ac_seq ?_
          | refine ac_region ?_
          | refine then_n ?_
          | refine then_ret ?_
          | refine then_exit ?_
          | refine block_n ?_
          | refine block_ret ?_
          | refine block_here ?_
          | refine block_out rfl ?_
          | refine ac_region_draw MIX ?_
          | refine ac_block ?_
          | refine ac_skip ?_
          | refine ac_exit ?_
          | refine ac_ret ?_
          | refine aops_eff (eff_move rfl) rfl rfl rfl ?_
          | refine aops_eff (w_load_ptr TT_ok rfl rfl rfl rfl rfl rfl rfl) rfl rfl rfl ?_
          | refine aops_eff (w_field_ptr TT_ok rfl rfl rfl rfl rfl rfl rfl) rfl rfl rfl ?_
          | refine aops_eff (eff_assign rfl) rfl rfl rfl ?_
          | refine aops_eff (w_len_list TT_ok rfl rfl rfl) rfl rfl rfl ?_
          | refine aops_eff (w_load_ref TT_ok rfl rfl rfl rfl rfl rfl) rfl rfl rfl ?_
          | refine aops_eff (w_cmp rfl rfl rfl) rfl rfl rfl ?_
          | refine aops_eff (eff_indexAddr_list TT_ok rfl rfl rfl rfl rfl rfl (encI_at (by omega))) rfl rfl rfl ?_
          | refine aops_eff (eff_indexAddr_list TT_ok rfl rfl rfl rfl rfl rfl (map_at (at_lt (by omega)))) rfl rfl rfl ?_
          | refine aops_eff (w_add rfl rfl (by omega)) rfl rfl rfl ?_
          | refine aops_skip rfl rfl ?_
          | refine aops_eff (eff_pick rfl rfl) rfl rfl rfl ?_
          | refine aops_eff (w_field_ref TT_ok rfl rfl rfl rfl rfl rfl) rfl rfl rfl ?_
          | refine aops_eff (w_not rfl) rfl rfl rfl ?_
          | refine aops_eff (w_box rfl rfl rfl rfl) rfl rfl rfl ?_
          | refine aops_eff (w_alloc TT_ok rfl rfl) rfl rfl rfl ?_
          | refine aops_eff (w_store TT_ok rfl rfl rfl rfl rfl rfl rfl rfl) rfl rfl rfl ?_
          | refine aops_eff (w_len_own TT_ok rfl rfl rfl rfl) rfl rfl rfl ?_
          | refine aops_eff (w_len_nil TT_ok rfl rfl rfl) rfl rfl rfl ?_
          | refine aops_eff (eff_extract rfl rfl (by intro _ h; cases h)) rfl rfl rfl ?_
          | refine aops_eff (w_lit TT_ok rfl rfl rfl rfl rfl rfl rfl rfl rfl rfl rfl) rfl rfl rfl ?_
          | refine aops_eff (w_build TT_ok rfl rfl rfl rfl rfl rfl) rfl rfl rfl ?_)
        refine ⟨by kernel_rfl, ?_⟩
        repeat (first
          | refine aops_nil ?_
          | refine ac_seq ?_
          | refine ac_region ?_
          | refine then_n ?_
          | refine then_ret ?_
          | refine then_exit ?_
          | refine block_n ?_
          | refine block_ret ?_
          | refine block_here ?_
          | refine block_out rfl ?_
          | refine ac_region_draw MIX ?_
          | refine ac_block ?_
          | refine ac_skip ?_
          | refine ac_exit ?_
          | refine ac_ret ?_
          | refine aops_eff (eff_move rfl) rfl rfl rfl ?_
          | refine aops_eff (w_load_ptr TT_ok rfl rfl rfl rfl rfl rfl rfl) rfl rfl rfl ?_
          | refine aops_eff (w_field_ptr TT_ok rfl rfl rfl rfl rfl rfl rfl) rfl rfl rfl ?_
          | refine aops_eff (eff_assign rfl) rfl rfl rfl ?_
          | refine aops_eff (w_len_list TT_ok rfl rfl rfl) rfl rfl rfl ?_
          | refine aops_eff (w_load_ref TT_ok rfl rfl rfl rfl rfl rfl) rfl rfl rfl ?_
          | refine aops_eff (w_cmp rfl rfl rfl) rfl rfl rfl ?_
          | refine aops_eff (eff_indexAddr_list TT_ok rfl rfl rfl rfl rfl rfl (encI_at (by omega))) rfl rfl rfl ?_
          | refine aops_eff (eff_indexAddr_list TT_ok rfl rfl rfl rfl rfl rfl (map_at (at_lt (by omega)))) rfl rfl rfl ?_
          | refine aops_eff (w_add rfl rfl (by omega)) rfl rfl rfl ?_
          | refine aops_skip rfl rfl ?_
          | refine aops_eff (eff_pick rfl rfl) rfl rfl rfl ?_
          | refine aops_eff (w_field_ref TT_ok rfl rfl rfl rfl rfl rfl) rfl rfl rfl ?_
          | refine aops_eff (w_not rfl) rfl rfl rfl ?_
          | refine aops_eff (w_box rfl rfl rfl rfl) rfl rfl rfl ?_
          | refine aops_eff (w_alloc TT_ok rfl rfl) rfl rfl rfl ?_
          | refine aops_eff (w_store TT_ok rfl rfl rfl rfl rfl rfl rfl rfl) rfl rfl rfl ?_
          | refine aops_eff (w_len_own TT_ok rfl rfl rfl rfl) rfl rfl rfl ?_
          | refine aops_eff (w_len_nil TT_ok rfl rfl rfl) rfl rfl rfl ?_
          | refine aops_eff (eff_extract rfl rfl (by intro _ h; cases h)) rfl rfl rfl ?_
          | refine aops_eff (w_lit TT_ok rfl rfl rfl rfl rfl rfl rfl rfl rfl rfl rfl) rfl rfl rfl ?_
          | refine aops_eff (w_build TT_ok rfl rfl rfl rfl rfl rfl) rfl rfl rfl ?_)
        refine ac_cond rfl (fun h3 => ?_) (fun h3 => ?_)
        · repeat (first
            | refine aops_nil ?_
            | refine ac_seq ?_
            | refine ac_region ?_
            | refine then_n ?_
            | refine then_ret ?_
            | refine then_exit ?_
            | refine block_n ?_
            | refine block_ret ?_
            | refine block_here ?_
            | refine block_out rfl ?_
            | refine ac_region_draw MIX ?_
            | refine ac_block ?_
            | refine ac_skip ?_
            | refine ac_exit ?_
            | refine ac_ret ?_
            | refine aops_eff (eff_move rfl) rfl rfl rfl ?_
            | refine aops_eff (w_load_ptr TT_ok rfl rfl rfl rfl rfl rfl rfl) rfl rfl rfl ?_
            | refine aops_eff (w_field_ptr TT_ok rfl rfl rfl rfl rfl rfl rfl) rfl rfl rfl ?_
            | refine aops_eff (eff_assign rfl) rfl rfl rfl ?_
            | refine aops_eff (w_len_list TT_ok rfl rfl rfl) rfl rfl rfl ?_
            | refine aops_eff (w_load_ref TT_ok rfl rfl rfl rfl rfl rfl) rfl rfl rfl ?_
            | refine aops_eff (w_cmp rfl rfl rfl) rfl rfl rfl ?_
            | refine aops_eff (eff_indexAddr_list TT_ok rfl rfl rfl rfl rfl rfl (encI_at (by omega))) rfl rfl rfl ?_
            | refine aops_eff (eff_indexAddr_list TT_ok rfl rfl rfl rfl rfl rfl (map_at (at_lt (by omega)))) rfl rfl rfl ?_
            | refine aops_eff (w_add rfl rfl (by omega)) rfl rfl rfl ?_
            | refine aops_skip rfl rfl ?_
            | refine aops_eff (eff_pick rfl rfl) rfl rfl rfl ?_
            | refine aops_eff (w_field_ref TT_ok rfl rfl rfl rfl rfl rfl) rfl rfl rfl ?_
            | refine aops_eff (w_not rfl) rfl rfl rfl ?_
            | refine aops_eff (w_box rfl rfl rfl rfl) rfl rfl rfl ?_
            | refine aops_eff (w_alloc TT_ok rfl rfl) rfl rfl rfl ?_
            | refine aops_eff (w_store TT_ok rfl rfl rfl rfl rfl rfl rfl rfl) rfl rfl rfl ?_
            | refine aops_eff (w_len_own TT_ok rfl rfl rfl rfl) rfl rfl rfl ?_
            | refine aops_eff (w_len_nil TT_ok rfl rfl rfl) rfl rfl rfl ?_
            | refine aops_eff (eff_extract rfl rfl (by intro _ h; cases h)) rfl rfl rfl ?_
            | refine aops_eff (w_lit TT_ok rfl rfl rfl rfl rfl rfl rfl rfl rfl rfl rfl) rfl rfl rfl ?_
            | refine aops_eff (w_build TT_ok rfl rfl rfl rfl rfl rfl) rfl rfl rfl ?_)
          refine ret_mk rfl rfl rfl ?_
          refine fz_bl ?_
          have : a ≠ b := by rintro rfl; simp at h3
          simp [this]
        · have h5 : a[k] = b[k] := by simpa [h2, h4] using h3
          clear h3
          repeat (first
            | refine aops_nil ?_
            | refine ac_seq ?_
            | refine ac_region ?_
            | refine then_n ?_
            | refine then_ret ?_
            | refine then_exit ?_
            | refine block_n ?_
            | refine block_ret ?_
            | refine block_here ?_
            | refine block_out rfl ?_
            | refine ac_region_draw MIX ?_
            | refine ac_block ?_
            | refine ac_skip ?_
            | refine ac_exit ?_
            | refine ac_ret ?_
            | refine aops_eff (eff_move rfl) rfl rfl rfl ?_
            | refine aops_eff (w_load_ptr TT_ok rfl rfl rfl rfl rfl rfl rfl) rfl rfl rfl ?_
            | refine aops_eff (w_field_ptr TT_ok rfl rfl rfl rfl rfl rfl rfl) rfl rfl rfl ?_
            | refine aops_eff (eff_assign rfl) rfl rfl rfl ?_
            | refine aops_eff (w_len_list TT_ok rfl rfl rfl) rfl rfl rfl ?_
            | refine aops_eff (w_load_ref TT_ok rfl rfl rfl rfl rfl rfl) rfl rfl rfl ?_
            | refine aops_eff (w_cmp rfl rfl rfl) rfl rfl rfl ?_
            | refine aops_eff (eff_indexAddr_list TT_ok rfl rfl rfl rfl rfl rfl (encI_at (by omega))) rfl rfl rfl ?_
            | refine aops_eff (eff_indexAddr_list TT_ok rfl rfl rfl rfl rfl rfl (map_at (at_lt (by omega)))) rfl rfl rfl ?_
            | refine aops_eff (w_add rfl rfl (by omega)) rfl rfl rfl ?_
            | refine aops_skip rfl rfl ?_
            | refine aops_eff (eff_pick rfl rfl) rfl rfl rfl ?_
            | refine aops_eff (w_field_ref TT_ok rfl rfl rfl rfl rfl rfl) rfl rfl rfl ?_
            | refine aops_eff (w_not rfl) rfl rfl rfl ?_
            | refine aops_eff (w_box rfl rfl rfl rfl) rfl rfl rfl ?_
            | refine aops_eff (w_alloc TT_ok rfl rfl) rfl rfl rfl ?_
            | refine aops_eff (w_store TT_ok rfl rfl rfl rfl rfl rfl rfl rfl) rfl rfl rfl ?_
            | refine aops_eff (w_len_own TT_ok rfl rfl rfl rfl) rfl rfl rfl ?_
            | refine aops_eff (w_len_nil TT_ok rfl rfl rfl) rfl rfl rfl ?_
            | refine aops_eff (eff_extract rfl rfl (by intro _ h; cases h)) rfl rfl rfl ?_
            | refine aops_eff (w_lit TT_ok rfl rfl rfl rfl rfl rfl rfl rfl rfl rfl rfl) rfl rfl rfl ?_
            | refine aops_eff (w_build TT_ok rfl rfl rfl rfl rfl rfl) rfl rfl rfl ?_)
          refine ⟨k + 1, ⟨by omega, ?_⟩, by omega, ?_⟩
          · rw [List.take_succ_eq_append_getElem h2, List.take_succ_eq_append_getElem h4, hq]
            rw [h5]
          · refine ent_mk (σ := sg []) ?_ ?_ rfl
            · repeat (first | exact trivial | refine ⟨⟨_, rfl, ?_⟩, ?_⟩ | exact ⟨rfl, rfl⟩ | exact ⟨rfl, rfl, rfl, rfl⟩ | exact m_int (by omega) | exact m_int (by simp [encI_len]) | exact rfl)
            · repeat (first | exact trivial | refine ⟨⟨_, rfl, ?_⟩, rfl, ?_⟩ | refine ⟨rfl, .inl ⟨rfl, ?_⟩⟩)
      · simp [encI_len] at h2
        repeat (first
          | refine aops_nil ?_
          | refine ac_seq ?_
          | refine ac_region ?_
          | refine then_n ?_
          | refine then_ret ?_
          | refine then_exit ?_
          | refine block_n ?_
          | refine block_ret ?_
          | refine block_here ?_
          | refine block_out rfl ?_
          | refine ac_region_draw MIX ?_
          | refine ac_block ?_
          | refine ac_skip ?_
          | refine ac_exit ?_
          | refine ac_ret ?_
          | refine aops_eff (eff_move rfl) rfl rfl rfl ?_
          | refine aops_eff (w_load_ptr TT_ok rfl rfl rfl rfl rfl rfl rfl) rfl rfl rfl ?_
          | refine aops_eff (w_field_ptr TT_ok rfl rfl rfl rfl rfl rfl rfl) rfl rfl rfl ?_
          | refine aops_eff (eff_assign rfl) rfl rfl rfl ?_
          | refine aops_eff (w_len_list TT_ok rfl rfl rfl) rfl rfl rfl ?_
          | refine aops_eff (w_load_ref TT_ok rfl rfl rfl rfl rfl rfl) rfl rfl rfl ?_
          | refine aops_eff (w_cmp rfl rfl rfl) rfl rfl rfl ?_
          | refine aops_eff (eff_indexAddr_list TT_ok rfl rfl rfl rfl rfl rfl (encI_at (by omega))) rfl rfl rfl ?_
          | refine aops_eff (eff_indexAddr_list TT_ok rfl rfl rfl rfl rfl rfl (map_at (at_lt (by omega)))) rfl rfl rfl ?_
          | refine aops_eff (w_add rfl rfl (by omega)) rfl rfl rfl ?_
          | refine aops_skip rfl rfl ?_
          | refine aops_eff (eff_pick rfl rfl) rfl rfl rfl ?_
          | refine aops_eff (w_field_ref TT_ok rfl rfl rfl rfl rfl rfl) rfl rfl rfl ?_
          | refine aops_eff (w_not rfl) rfl rfl rfl ?_
          | refine aops_eff (w_box rfl rfl rfl rfl) rfl rfl rfl ?_
          | refine aops_eff (w_alloc TT_ok rfl rfl) rfl rfl rfl ?_
          | refine aops_eff (w_store TT_ok rfl rfl rfl rfl rfl rfl rfl rfl) rfl rfl rfl ?_
          | refine aops_eff (w_len_own TT_ok rfl rfl rfl rfl) rfl rfl rfl ?_
          | refine aops_eff (w_len_nil TT_ok rfl rfl rfl) rfl rfl rfl ?_
          | refine aops_eff (eff_extract rfl rfl (by intro _ h; cases h)) rfl rfl rfl ?_
          | refine aops_eff (w_lit TT_ok rfl rfl rfl rfl rfl rfl rfl rfl rfl rfl rfl) rfl rfl rfl ?_
          | refine aops_eff (w_build TT_ok rfl rfl rfl rfl rfl rfl) rfl rfl rfl ?_)
        refine ret_mk rfl rfl rfl ?_
        refine fz_bl ?_
        have : a = b := by
          rw [← List.take_of_length_le (l := a) (i := k) (by omega), ← List.take_of_length_le (l := b) (i := k) (by omega), hq]
        simp [this]

theorem h_slBars (a b : List Br) : HasC Try.prog 116 [.list 3 (a.map eB), .list 3 (b.map eB)] (.bl (decide (a = b))) := by
  refine hasC_mk TT_ok (ns := [0,1,2,3,4,5,6,7]) Try.func116 rfl rfl Try.ntmps116 rfl rfl rfl ?_
  refine ac_len (t := 0) rfl fun hla => ?_
  have hmx : maxLen ≤ 9223372036854775807 := by decide
  simp only [encI_len, List.length_map] at hla
  repeat (first
    | refine aops_nil ?_
    | refine ac_seq ?_
    | refine ac_region ?_
    | refine then_n ?_
    | refine then_ret ?_
    | refine then_exit ?_
    | refine block_n ?_
    | refine block_ret ?_
    | refine block_here ?_
    | refine block_out rfl ?_
    | refine ac_region_draw MIX ?_
    | refine ac_block ?_
    | refine ac_skip ?_
    | refine ac_exit ?_
    | refine ac_ret ?_
    | refine aops_eff (eff_move rfl) rfl rfl rfl ?_
    | refine aops_eff (w_load_ptr TT_ok rfl rfl rfl rfl rfl rfl rfl) rfl rfl rfl ?_
    | refine aops_eff (w_field_ptr TT_ok rfl rfl rfl rfl rfl rfl rfl) rfl rfl rfl ?_
    | refine aops_eff (eff_assign rfl) rfl rfl rfl ?_
    | refine aops_eff (w_len_list TT_ok rfl rfl rfl) rfl rfl rfl ?_
    | refine aops_eff (w_load_ref TT_ok rfl rfl rfl rfl rfl rfl) rfl rfl rfl ?_
    | refine aops_eff (w_cmp rfl rfl rfl) rfl rfl rfl ?_
    | refine aops_eff (eff_indexAddr_list TT_ok rfl rfl rfl rfl rfl rfl (encI_at (by omega))) rfl rfl rfl ?_
    | refine aops_eff (eff_indexAddr_list TT_ok rfl rfl rfl rfl rfl rfl (map_at (at_lt (by omega)))) rfl rfl rfl ?_
    | refine aops_eff (w_add rfl rfl (by omega)) rfl rfl rfl ?_
    | refine aops_skip rfl rfl ?_
    | refine aops_eff (eff_pick rfl rfl) rfl rfl rfl ?_
    | refine aops_eff (w_field_ref TT_ok rfl rfl rfl rfl rfl rfl) rfl rfl rfl ?_
    | refine aops_eff (w_not rfl) rfl rfl rfl ?_
    | refine aops_eff (w_box rfl rfl rfl rfl) rfl rfl rfl ?_
    | refine aops_eff (w_alloc TT_ok rfl rfl) rfl rfl rfl ?_
    | refine aops_eff (w_store TT_ok rfl rfl rfl rfl rfl rfl rfl rfl) rfl rfl rfl ?_
    | refine aops_eff (w_len_own TT_ok rfl rfl rfl rfl) rfl rfl rfl ?_
    | refine aops_eff (w_len_nil TT_ok rfl rfl rfl) rfl rfl rfl ?_
    | refine aops_eff (eff_extract rfl rfl (by intro _ h; cases h)) rfl rfl rfl ?_
    | refine aops_eff (w_lit TT_ok rfl rfl rfl rfl rfl rfl rfl rfl rfl rfl rfl) rfl rfl rfl ?_
    | refine aops_eff (w_build TT_ok rfl rfl rfl rfl rfl rfl) rfl rfl rfl ?_)
  refine ac_cond rfl (fun h => ?_) (fun h => ?_)
  · simp [encI_len] at h
    repeat (first
      | refine aops_nil ?_
      | refine ac_seq ?_
      | refine ac_region ?_
      | refine then_n ?_
      | refine then_ret ?_
      | refine then_exit ?_
      | refine block_n ?_
      | refine block_ret ?_
      | refine block_here ?_
      | refine block_out rfl ?_
      | refine ac_region_draw MIX ?_
      | refine ac_block ?_
      | refine ac_skip ?_
      | refine ac_exit ?_
      | refine ac_ret ?_
      | refine aops_eff (eff_move rfl) rfl rfl rfl ?_
      | refine aops_eff (w_load_ptr TT_ok rfl rfl rfl rfl rfl rfl rfl) rfl rfl rfl ?_
      | refine aops_eff (w_field_ptr TT_ok rfl rfl rfl rfl rfl rfl rfl) rfl rfl rfl ?_
      | refine aops_eff (eff_assign rfl) rfl rfl rfl ?_
      | refine aops_eff (w_len_list TT_ok rfl rfl rfl) rfl rfl rfl ?_
      | refine aops_eff (w_load_ref TT_ok rfl rfl rfl rfl rfl rfl) rfl rfl rfl ?_
      | refine aops_eff (w_cmp rfl rfl rfl) rfl rfl rfl ?_
      | refine aops_eff (eff_indexAddr_list TT_ok rfl rfl rfl rfl rfl rfl (encI_at (by omega))) rfl rfl rfl ?_
      | refine aops_eff (eff_indexAddr_list TT_ok rfl rfl rfl rfl rfl rfl (map_at (at_lt (by omega)))) rfl rfl rfl ?_
      | refine aops_eff (w_add rfl rfl (by omega)) rfl rfl rfl ?_
      | refine aops_skip rfl rfl ?_
      | refine aops_eff (eff_pick rfl rfl) rfl rfl rfl ?_
      | refine aops_eff (w_field_ref TT_ok rfl rfl rfl rfl rfl rfl) rfl rfl rfl ?_
      | refine aops_eff (w_not rfl) rfl rfl rfl ?_
      | refine aops_eff (w_box rfl rfl rfl rfl) rfl rfl rfl ?_
      | refine aops_eff (w_alloc TT_ok rfl rfl) rfl rfl rfl ?_
      | refine aops_eff (w_store TT_ok rfl rfl rfl rfl rfl rfl rfl rfl) rfl rfl rfl ?_
      | refine aops_eff (w_len_own TT_ok rfl rfl rfl rfl) rfl rfl rfl ?_
      | refine aops_eff (w_len_nil TT_ok rfl rfl rfl) rfl rfl rfl ?_
      | refine aops_eff (eff_extract rfl rfl (by intro _ h; cases h)) rfl rfl rfl ?_
      | refine aops_eff (w_lit TT_ok rfl rfl rfl rfl rfl rfl rfl rfl rfl rfl rfl) rfl rfl rfl ?_
      | refine aops_eff (w_build TT_ok rfl rfl rfl rfl rfl rfl) rfl rfl rfl ?_)
    refine ret_mk rfl rfl rfl ?_
    refine fz_bl ?_
    have : a ≠ b := by rintro rfl; exact h rfl
    simp [this]
  · simp [encI_len] at h
    repeat (first
      | refine aops_nil ?_
      | refine ac_seq ?_
      | refine ac_region ?_
      | refine then_n ?_
      | refine then_ret ?_
      | refine then_exit ?_
      | refine block_n ?_
      | refine block_ret ?_
      | refine block_here ?_
      | refine block_out rfl ?_
      | refine ac_region_draw MIX ?_
      | refine ac_block ?_
      | refine ac_skip ?_
      | refine ac_exit ?_
      | refine ac_ret ?_
      | refine aops_eff (eff_move rfl) rfl rfl rfl ?_
      | refine aops_eff (w_load_ptr TT_ok rfl rfl rfl rfl rfl rfl rfl) rfl rfl rfl ?_
      | refine aops_eff (w_field_ptr TT_ok rfl rfl rfl rfl rfl rfl rfl) rfl rfl rfl ?_
      | refine aops_eff (eff_assign rfl) rfl rfl rfl ?_
      | refine aops_eff (w_len_list TT_ok rfl rfl rfl) rfl rfl rfl ?_
      | refine aops_eff (w_load_ref TT_ok rfl rfl rfl rfl rfl rfl) rfl rfl rfl ?_
      | refine aops_eff (w_cmp rfl rfl rfl) rfl rfl rfl ?_
      | refine aops_eff (eff_indexAddr_list TT_ok rfl rfl rfl rfl rfl rfl (encI_at (by omega))) rfl rfl rfl ?_
      | refine aops_eff (eff_indexAddr_list TT_ok rfl rfl rfl rfl rfl rfl (map_at (at_lt (by omega)))) rfl rfl rfl ?_
      | refine aops_eff (w_add rfl rfl (by omega)) rfl rfl rfl ?_
      | refine aops_skip rfl rfl ?_
      | refine aops_eff (eff_pick rfl rfl) rfl rfl rfl ?_
      | refine aops_eff (w_field_ref TT_ok rfl rfl rfl rfl rfl rfl) rfl rfl rfl ?_
      | refine aops_eff (w_not rfl) rfl rfl rfl ?_
      | refine aops_eff (w_box rfl rfl rfl rfl) rfl rfl rfl ?_
      | refine aops_eff (w_alloc TT_ok rfl rfl) rfl rfl rfl ?_
      | refine aops_eff (w_store TT_ok rfl rfl rfl rfl rfl rfl rfl rfl) rfl rfl rfl ?_
      | refine aops_eff (w_len_own TT_ok rfl rfl rfl rfl) rfl rfl rfl ?_
      | refine aops_eff (w_len_nil TT_ok rfl rfl rfl) rfl rfl rfl ?_
      | refine aops_eff (eff_extract rfl rfl (by intro _ h; cases h)) rfl rfl rfl ?_
      | refine aops_eff (w_lit TT_ok rfl rfl rfl rfl rfl rfl rfl rfl rfl rfl rfl) rfl rfl rfl ?_
      | refine aops_eff (w_build TT_ok rfl rfl rfl rfl rfl rfl) rfl rfl rfl ?_)
    refine ac_loop (ι := Nat) (fun k => mkS [(0, .list 3 (a.map eB)), (1, .list 3 (b.map eB)), (12, .int a.length), (13, .int k)] [] 0 [0,1,2,3,4,5,6,7]) (fun k => k ≤ a.length ∧ a.take k = b.take k) (fun k => a.length - k) 0 (by simp) ?_ ?_
    · refine ent_mk (σ := sg []) ?_ ?_ rfl
      · repeat (first | exact trivial | refine ⟨⟨_, rfl, ?_⟩, ?_⟩ | exact ⟨rfl, rfl⟩ | exact ⟨rfl, rfl, rfl, rfl⟩ | exact m_int (by omega) | exact m_int (by simp [encI_len]) | exact rfl)
      · repeat (first | exact trivial | refine ⟨⟨_, rfl, ?_⟩, rfl, ?_⟩ | refine ⟨rfl, .inl ⟨rfl, ?_⟩⟩)
    · intro k ⟨hk, hq⟩
      repeat (first
        | refine aops_nil ?_
        | refine ac_seq ?_
        | refine ac_region ?_
        | refine then_n ?_
        | refine then_ret ?_
        | refine then_exit ?_
        | refine block_n ?_
        | refine block_ret ?_
        | refine block_here ?_
        | refine block_out rfl ?_
        | refine ac_region_draw MIX ?_
        | refine ac_block ?_
        | refine ac_skip ?_
        | refine ac_exit ?_
        | refine ac_ret ?_
        | refine aops_eff (eff_move rfl) rfl rfl rfl ?_
        | refine aops_eff (w_load_ptr TT_ok rfl rfl rfl rfl rfl rfl rfl) rfl rfl rfl ?_
        | refine aops_eff (w_field_ptr TT_ok rfl rfl rfl rfl rfl rfl rfl) rfl rfl rfl ?_
        | refine aops_eff (eff_assign rfl) rfl rfl rfl ?_
        | refine aops_eff (w_len_list TT_ok rfl rfl rfl) rfl rfl rfl ?_
        | refine aops_eff (w_load_ref TT_ok rfl rfl rfl rfl rfl rfl) rfl rfl rfl ?_
        | refine aops_eff (w_cmp rfl rfl rfl) rfl rfl rfl ?_
        | refine aops_eff (eff_indexAddr_list TT_ok rfl rfl rfl rfl rfl rfl (encI_at (by omega))) rfl rfl rfl ?_
        | refine aops_eff (eff_indexAddr_list TT_ok rfl rfl rfl rfl rfl rfl (map_at (at_lt (by omega)))) rfl rfl rfl ?_
        | refine aops_eff (w_add rfl rfl (by omega)) rfl rfl rfl ?_
        | refine aops_skip rfl rfl ?_
        | refine aops_eff (eff_pick rfl rfl) rfl rfl rfl ?_
        | refine aops_eff (w_field_ref TT_ok rfl rfl rfl rfl rfl rfl) rfl rfl rfl ?_
        | refine aops_eff (w_not rfl) rfl rfl rfl ?_
        | refine aops_eff (w_box rfl rfl rfl rfl) rfl rfl rfl ?_
        | refine aops_eff (w_alloc TT_ok rfl rfl) rfl rfl rfl ?_
        | refine aops_eff (w_store TT_ok rfl rfl rfl rfl rfl rfl rfl rfl) rfl rfl rfl ?_
        | refine aops_eff (w_len_own TT_ok rfl rfl rfl rfl) rfl rfl rfl ?_
        | refine aops_eff (w_len_nil TT_ok rfl rfl rfl) rfl rfl rfl ?_
        | refine aops_eff (eff_extract rfl rfl (by intro _ h; cases h)) rfl rfl rfl ?_
        | refine aops_eff (w_lit TT_ok rfl rfl rfl rfl rfl rfl rfl rfl rfl rfl rfl) rfl rfl rfl ?_
        | refine aops_eff (w_build TT_ok rfl rfl rfl rfl rfl rfl) rfl rfl rfl ?_)
      refine ac_cond rfl (fun h2 => ?_) (fun h2 => ?_)
      · simp [encI_len] at h2
        have h4 : k < b.length := by omega
        repeat (first
          | refine aops_nil ?_
          | refine ac_seq ?_
          | refine ac_region ?_
          | refine then_n ?_
          | refine then_ret ?_
          | refine then_exit ?_
          | refine block_n ?_
          | refine block_ret ?_
          | refine block_here ?_
          | refine block_out rfl ?_
          | refine ac_region_draw MIX ?_
          | refine ac_block ?_
          | refine ac_skip ?_
          | refine ac_exit ?_
          | refine ac_ret ?_
          | refine aops_eff (eff_move rfl) rfl rfl rfl ?_
          | refine aops_eff (w_load_ptr TT_ok rfl rfl rfl rfl rfl rfl rfl) rfl rfl rfl ?_
          | refine aops_eff (w_field_ptr TT_ok rfl rfl rfl rfl rfl rfl rfl) rfl rfl rfl ?_
          | refine aops_eff (eff_assign rfl) rfl rfl rfl ?_
          | refine aops_eff (w_len_list TT_ok rfl rfl rfl) rfl rfl rfl ?_
          | refine aops_eff (w_load_ref TT_ok rfl rfl rfl rfl rfl rfl) rfl rfl rfl ?_
          | refine aops_eff (w_cmp rfl rfl rfl) rfl rfl rfl ?_
          | refine aops_eff (eff_indexAddr_list TT_ok rfl rfl rfl rfl rfl rfl (encI_at (by omega))) rfl rfl rfl ?_
          | refine aops_eff (eff_indexAddr_list TT_ok rfl rfl rfl rfl rfl rfl (map_at (at_lt (by omega)))) rfl rfl rfl ?_
          | refine aops_eff (w_add rfl rfl (by omega)) rfl rfl rfl ?_
          | refine aops_skip rfl rfl ?_
          | refine aops_eff (eff_pick rfl rfl) rfl rfl rfl ?_
          | refine aops_eff (w_field_ref TT_ok rfl rfl rfl rfl rfl rfl) rfl rfl rfl ?_
          | refine aops_eff (w_not rfl) rfl rfl rfl ?_
          | refine aops_eff (w_box rfl rfl rfl rfl) rfl rfl rfl ?_
          | refine aops_eff (w_alloc TT_ok rfl rfl) rfl rfl rfl ?_
          | refine aops_eff (w_store TT_ok rfl rfl rfl rfl rfl rfl rfl rfl) rfl rfl rfl ?_
          | refine aops_eff (w_len_own TT_ok rfl rfl rfl rfl) rfl rfl rfl ?_
          | refine aops_eff (w_len_nil TT_ok rfl rfl rfl) rfl rfl rfl ?_
          | refine aops_eff (eff_extract rfl rfl (by intro _ h; cases h)) rfl rfl rfl ?_
          | refine aops_eff (w_lit TT_ok rfl rfl rfl rfl rfl rfl rfl rfl rfl rfl rfl) rfl rfl rfl ?_
          | refine aops_eff (w_build TT_ok rfl rfl rfl rfl rfl rfl) rfl rfl rfl ?_)
        refine aops_eff (w_ne_bar (a := a[k]) (b := b[k]) rfl rfl) rfl rfl rfl ?_
        repeat (first
          | refine aops_nil ?_
          | refine ac_seq ?_
          | refine ac_region ?_
          | refine then_n ?_
          | refine then_ret ?_
          | refine then_exit ?_
          | refine block_n ?_
          | refine block_ret ?_
          | refine block_here ?_
          | refine block_out rfl ?_
          | refine ac_region_draw MIX ?_
          | refine ac_block ?_
          | refine ac_skip ?_
          | refine ac_exit ?_
          | refine ac_ret ?_
          | refine aops_eff (eff_move rfl) rfl rfl rfl ?_
          | refine aops_eff (w_load_ptr TT_ok rfl rfl rfl rfl rfl rfl rfl) rfl rfl rfl ?_
          | refine aops_eff (w_field_ptr TT_ok rfl rfl rfl rfl rfl rfl rfl) rfl rfl rfl ?_
          | refine aops_eff (eff_assign rfl) rfl rfl rfl ?_
          | refine aops_eff (w_len_list TT_ok rfl rfl rfl) rfl rfl rfl ?_
          | refine aops_eff (w_load_ref TT_ok rfl rfl rfl rfl rfl rfl) rfl rfl rfl ?_
          | refine aops_eff (w_cmp rfl rfl rfl) rfl rfl rfl ?_
          | refine aops_eff (eff_indexAddr_list TT_ok rfl rfl rfl rfl rfl rfl (encI_at (by omega))) rfl rfl rfl ?_
          | refine aops_eff (eff_indexAddr_list TT_ok rfl rfl rfl rfl rfl rfl (map_at (at_lt (by omega)))) rfl rfl rfl ?_
          | refine aops_eff (w_add rfl rfl (by omega)) rfl rfl rfl ?_
          | refine aops_skip rfl rfl ?_
          | refine aops_eff (eff_pick rfl rfl) rfl rfl rfl ?_
          | refine aops_eff (w_field_ref TT_ok rfl rfl rfl rfl rfl rfl) rfl rfl rfl ?_
          | refine aops_eff (w_not rfl) rfl rfl rfl ?_
          | refine aops_eff (w_box rfl rfl rfl rfl) rfl rfl rfl ?_
          | refine aops_eff (w_alloc TT_ok rfl rfl) rfl rfl rfl ?_
          | refine aops_eff (w_store TT_ok rfl rfl rfl rfl rfl rfl rfl rfl) rfl rfl rfl ?_
          | refine aops_eff (w_len_own TT_ok rfl rfl rfl rfl) rfl rfl rfl ?_
          | refine aops_eff (w_len_nil TT_ok rfl rfl rfl) rfl rfl rfl ?_
          | refine aops_eff (eff_extract rfl rfl (by intro _ h; cases h)) rfl rfl rfl ?_
          | refine aops_eff (w_lit TT_ok rfl rfl rfl rfl rfl rfl rfl rfl rfl rfl rfl) rfl rfl rfl ?_
          | refine aops_eff (w_build TT_ok rfl rfl rfl rfl rfl rfl) rfl rfl rfl ?_)
        refine ⟨by kernel_rfl, ?_⟩
        repeat (first
          | refine aops_nil ?_
          | refine ac_seq ?_
          | refine ac_region ?_
          | refine then_n ?_
          | refine then_ret ?_
          | refine then_exit ?_
          | refine block_n ?_
          | refine block_ret ?_
          | refine block_here ?_
          | refine block_out rfl ?_
          | refine ac_region_draw MIX ?_
          | refine ac_block ?_
          | refine ac_skip ?_
          | refine ac_exit ?_
          | refine ac_ret ?_
          | refine aops_eff (eff_move rfl) rfl rfl rfl ?_
          | refine aops_eff (w_load_ptr TT_ok rfl rfl rfl rfl rfl rfl rfl) rfl rfl rfl ?_
          | refine aops_eff (w_field_ptr TT_ok rfl rfl rfl rfl rfl rfl rfl) rfl rfl rfl ?_
          | refine aops_eff (eff_assign rfl) rfl rfl rfl ?_
          | refine aops_eff (w_len_list TT_ok rfl rfl rfl) rfl rfl rfl ?_
          | refine aops_eff (w_load_ref TT_ok rfl rfl rfl rfl rfl rfl) rfl rfl rfl ?_
          | refine aops_eff (w_cmp rfl rfl rfl) rfl rfl rfl ?_
          | refine aops_eff (eff_indexAddr_list TT_ok rfl rfl rfl rfl rfl rfl (encI_at (by omega))) rfl rfl rfl ?_
          | refine aops_eff (eff_indexAddr_list TT_ok rfl rfl rfl rfl rfl rfl (map_at (at_lt (by omega)))) rfl rfl rfl ?_
          | refine aops_eff (w_add rfl rfl (by omega)) rfl rfl rfl ?_
          | refine aops_skip rfl rfl ?_
          | refine aops_eff (eff_pick rfl rfl) rfl rfl rfl ?_
          | refine aops_eff (w_field_ref TT_ok rfl rfl rfl rfl rfl rfl) rfl rfl rfl ?_
          | refine aops_eff (w_not rfl) rfl rfl rfl ?_
          | refine aops_eff (w_box rfl rfl rfl rfl) rfl rfl rfl ?_
          | refine aops_eff (w_alloc TT_ok rfl rfl) rfl rfl rfl ?_
          | refine aops_eff (w_store TT_ok rfl rfl rfl rfl rfl rfl rfl rfl) rfl rfl rfl ?_
          | refine aops_eff (w_len_own TT_ok rfl rfl rfl rfl) rfl rfl rfl ?_
          | refine aops_eff (w_len_nil TT_ok rfl rfl rfl) rfl rfl rfl ?_
          | refine aops_eff (eff_extract rfl rfl (by intro _ h; cases h)) rfl rfl rfl ?_
          | refine aops_eff (w_lit TT_ok rfl rfl rfl rfl rfl rfl rfl rfl rfl rfl rfl) rfl rfl rfl ?_
          | refine aops_eff (w_build TT_ok rfl rfl rfl rfl rfl rfl) rfl rfl rfl ?_)
        refine ac_cond rfl (fun h3 => ?_) (fun h3 => ?_)
        · repeat (first
            | refine aops_nil ?_
            | refine ac_seq ?_
            | refine ac_region ?_
            | refine then_n ?_
            | refine then_ret ?_
            | refine then_exit ?_
            | refine block_n ?_
            | refine block_ret ?_
            | refine block_here ?_
            | refine block_out rfl ?_
            | refine ac_region_draw MIX ?_
            | refine ac_block ?_
            | refine ac_skip ?_
            | refine ac_exit ?_
            | refine ac_ret ?_
            | refine aops_eff (eff_move rfl) rfl rfl rfl ?_
            | refine aops_eff (w_load_ptr TT_ok rfl rfl rfl rfl rfl rfl rfl) rfl rfl rfl ?_
            | refine aops_eff (w_field_ptr TT_ok rfl rfl rfl rfl rfl rfl rfl) rfl rfl rfl ?_
            | refine aops_eff (eff_assign rfl) rfl rfl rfl ?_
            | refine aops_eff (w_len_list TT_ok rfl rfl rfl) rfl rfl rfl ?_
            | refine aops_eff (w_load_ref TT_ok rfl rfl rfl rfl rfl rfl) rfl rfl rfl ?_
            | refine aops_eff (w_cmp rfl rfl rfl) rfl rfl rfl ?_
            | refine aops_eff (eff_indexAddr_list TT_ok rfl rfl rfl rfl rfl rfl (encI_at (by omega))) rfl rfl rfl ?_
            | refine aops_eff (eff_indexAddr_list TT_ok rfl rfl rfl rfl rfl rfl (map_at (at_lt (by omega)))) rfl rfl rfl ?_
            | refine aops_eff (w_add rfl rfl (by omega)) rfl rfl rfl ?_
            | refine aops_skip rfl rfl ?_
            | refine aops_eff (eff_pick rfl rfl) rfl rfl rfl ?_
            | refine aops_eff (w_field_ref TT_ok rfl rfl rfl rfl rfl rfl) rfl rfl rfl ?_
            | refine aops_eff (w_not rfl) rfl rfl rfl ?_
            | refine aops_eff (w_box rfl rfl rfl rfl) rfl rfl rfl ?_
            | refine aops_eff (w_alloc TT_ok rfl rfl) rfl rfl rfl ?_
            | refine aops_eff (w_store TT_ok rfl rfl rfl rfl rfl rfl rfl rfl) rfl rfl rfl ?_
            | refine aops_eff (w_len_own TT_ok rfl rfl rfl rfl) rfl rfl rfl ?_
            | refine aops_eff (w_len_nil TT_ok rfl rfl rfl) rfl rfl rfl ?_
            | refine aops_eff (eff_extract rfl rfl (by intro _ h; cases h)) rfl rfl rfl ?_
            | refine aops_eff (w_lit TT_ok rfl rfl rfl rfl rfl rfl rfl rfl rfl rfl rfl) rfl rfl rfl ?_
            | refine aops_eff (w_build TT_ok rfl rfl rfl rfl rfl rfl) rfl rfl rfl ?_)
          refine ret_mk rfl rfl rfl ?_
          refine fz_bl ?_
          have : a ≠ b := by rintro rfl; simp at h3
          simp [this]
        · have h5 : a[k] = b[k] := by simpa [h2, h4] using h3
          clear h3
          repeat (first
            | refine aops_nil ?_
            | refine ac_seq ?_
            | refine ac_region ?_
            | refine then_n ?_
            | refine then_ret ?_
            | refine then_exit ?_
            | refine block_n ?_
            | refine block_ret ?_
            | refine block_here ?_
            | refine block_out rfl ?_
            | refine ac_region_draw MIX ?_
            | refine ac_block ?_
            | refine ac_skip ?_
            | refine ac_exit ?_
            | refine ac_ret ?_
            | refine aops_eff (eff_move rfl) rfl rfl rfl ?_
            | refine aops_eff (w_load_ptr TT_ok rfl rfl rfl rfl rfl rfl rfl) rfl rfl rfl ?_
            | refine aops_eff (w_field_ptr TT_ok rfl rfl rfl rfl rfl rfl rfl) rfl rfl rfl ?_
            | refine aops_eff (eff_assign rfl) rfl rfl rfl ?_
            | refine aops_eff (w_len_list TT_ok rfl rfl rfl) rfl rfl rfl ?_
            | refine aops_eff (w_load_ref TT_ok rfl rfl rfl rfl rfl rfl) rfl rfl rfl ?_
            | refine aops_eff (w_cmp rfl rfl rfl) rfl rfl rfl ?_
            | refine aops_eff (eff_indexAddr_list TT_ok rfl rfl rfl rfl rfl rfl (encI_at (by omega))) rfl rfl rfl ?_
            | refine aops_eff (eff_indexAddr_list TT_ok rfl rfl rfl rfl rfl rfl (map_at (at_lt (by omega)))) rfl rfl rfl ?_
            | refine aops_eff (w_add rfl rfl (by omega)) rfl rfl rfl ?_
            | refine aops_skip rfl rfl ?_
            | refine aops_eff (eff_pick rfl rfl) rfl rfl rfl ?_
            | refine aops_eff (w_field_ref TT_ok rfl rfl rfl rfl rfl rfl) rfl rfl rfl ?_
            | refine aops_eff (w_not rfl) rfl rfl rfl ?_
            | refine aops_eff (w_box rfl rfl rfl rfl) rfl rfl rfl ?_
            | refine aops_eff (w_alloc TT_ok rfl rfl) rfl rfl rfl ?_
            | refine aops_eff (w_store TT_ok rfl rfl rfl rfl rfl rfl rfl rfl) rfl rfl rfl ?_
            | refine aops_eff (w_len_own TT_ok rfl rfl rfl rfl) rfl rfl rfl ?_
            | refine aops_eff (w_len_nil TT_ok rfl rfl rfl) rfl rfl rfl ?_
            | refine aops_eff (eff_extract rfl rfl (by intro _ h; cases h)) rfl rfl rfl ?_
            | refine aops_eff (w_lit TT_ok rfl rfl rfl rfl rfl rfl rfl rfl rfl rfl rfl) rfl rfl rfl ?_
            | refine aops_eff (w_build TT_ok rfl rfl rfl rfl rfl rfl) rfl rfl rfl ?_)
          refine ⟨k + 1, ⟨by omega, ?_⟩, by omega, ?_⟩
          · rw [List.take_succ_eq_append_getElem h2, List.take_succ_eq_append_getElem h4, hq]
            rw [h5]
          · refine ent_mk (σ := sg []) ?_ ?_ rfl
            · repeat (first | exact trivial | refine ⟨⟨_, rfl, ?_⟩, ?_⟩ | exact ⟨rfl, rfl⟩ | exact ⟨rfl, rfl, rfl, rfl⟩ | exact m_int (by omega) | exact m_int (by simp [encI_len]) | exact rfl)
            · repeat (first | exact trivial | refine ⟨⟨_, rfl, ?_⟩, rfl, ?_⟩ | refine ⟨rfl, .inl ⟨rfl, ?_⟩⟩)
      · simp [encI_len] at h2
        repeat (first
          | refine aops_nil ?_
          | refine ac_seq ?_
          | refine ac_region ?_
          | refine then_n ?_
          | refine then_ret ?_
          | refine then_exit ?_
          | refine block_n ?_
          | refine block_ret ?_
          | refine block_here ?_
          | refine block_out rfl ?_
          | refine ac_region_draw MIX ?_
          | refine ac_block ?_
          | refine ac_skip ?_
          | refine ac_exit ?_
          | refine ac_ret ?_
          | refine aops_eff (eff_move rfl) rfl rfl rfl ?_
          | refine aops_eff (w_load_ptr TT_ok rfl rfl rfl rfl rfl rfl rfl) rfl rfl rfl ?_
          | refine aops_eff (w_field_ptr TT_ok rfl rfl rfl rfl rfl rfl rfl) rfl rfl rfl ?_
          | refine aops_eff (eff_assign rfl) rfl rfl rfl ?_
          | refine aops_eff (w_len_list TT_ok rfl rfl rfl) rfl rfl rfl ?_
          | refine aops_eff (w_load_ref TT_ok rfl rfl rfl rfl rfl rfl) rfl rfl rfl ?_
          | refine aops_eff (w_cmp rfl rfl rfl) rfl rfl rfl ?_
          | refine aops_eff (eff_indexAddr_list TT_ok rfl rfl rfl rfl rfl rfl (encI_at (by omega))) rfl rfl rfl ?_
          | refine aops_eff (eff_indexAddr_list TT_ok rfl rfl rfl rfl rfl rfl (map_at (at_lt (by omega)))) rfl rfl rfl ?_
          | refine aops_eff (w_add rfl rfl (by omega)) rfl rfl rfl ?_
          | refine aops_skip rfl rfl ?_
          | refine aops_eff (eff_pick rfl rfl) rfl rfl rfl ?_
          | refine aops_eff (w_field_ref TT_ok rfl rfl rfl rfl rfl rfl) rfl rfl rfl ?_
          | refine aops_eff (w_not rfl) rfl rfl rfl ?_
          | refine aops_eff (w_box rfl rfl rfl rfl) rfl rfl rfl ?_
          | refine aops_eff (w_alloc TT_ok rfl rfl) rfl rfl rfl ?_
          | refine aops_eff (w_store TT_ok rfl rfl rfl rfl rfl rfl rfl rfl) rfl rfl rfl ?_
          | refine aops_eff (w_len_own TT_ok rfl rfl rfl rfl) rfl rfl rfl ?_
          | refine aops_eff (w_len_nil TT_ok rfl rfl rfl) rfl rfl rfl ?_
          | refine aops_eff (eff_extract rfl rfl (by intro _ h; cases h)) rfl rfl rfl ?_
          | refine aops_eff (w_lit TT_ok rfl rfl rfl rfl rfl rfl rfl rfl rfl rfl rfl) rfl rfl rfl ?_
          | refine aops_eff (w_build TT_ok rfl rfl rfl rfl rfl rfl) rfl rfl rfl ?_)
        refine ret_mk rfl rfl rfl ?_
        refine fz_bl ?_
        have : a = b := by
          rw [← List.take_of_length_le (l := a) (i := k) (by omega), ← List.take_of_length_le (l := b) (i := k) (by omega), hq]
        simp [this]

theorem h_i_bars (a b : List Br) : HasC Try.prog 73 [.list 3 (a.map eB), .list 3 (b.map eB)] (.bl (decide (a = b))) := by
  refine hasC_mk TT_ok (ns := [0,1,2,3,4,5,6,7]) Try.func73 rfl rfl Try.ntmps73 rfl rfl rfl ?_
  repeat (first
    | refine aops_nil ?_
    | refine ac_seq ?_
    | refine ac_region ?_
    | refine then_n ?_
    | refine then_ret ?_
    | refine then_exit ?_
    | refine block_n ?_
    | refine block_ret ?_
    | refine block_here ?_
    | refine block_out rfl ?_
    | refine ac_region_draw MIX ?_
    | refine ac_block ?_
    | refine ac_skip ?_
    | refine ac_exit ?_
    | refine ac_ret ?_
    | refine aops_eff (eff_move rfl) rfl rfl rfl ?_
    | refine aops_eff (w_load_ptr TT_ok rfl rfl rfl rfl rfl rfl rfl) rfl rfl rfl ?_
    | refine aops_eff (w_field_ptr TT_ok rfl rfl rfl rfl rfl rfl rfl) rfl rfl rfl ?_
    | refine aops_eff (eff_assign rfl) rfl rfl rfl ?_
    | refine aops_eff (w_len_list TT_ok rfl rfl rfl) rfl rfl rfl ?_
    | refine aops_eff (w_load_ref TT_ok rfl rfl rfl rfl rfl rfl) rfl rfl rfl ?_
    | refine aops_eff (w_cmp rfl rfl rfl) rfl rfl rfl ?_
    | refine aops_eff (eff_indexAddr_list TT_ok rfl rfl rfl rfl rfl rfl (encI_at (by omega))) rfl rfl rfl ?_
    | refine aops_eff (eff_indexAddr_list TT_ok rfl rfl rfl rfl rfl rfl (map_at (at_lt (by omega)))) rfl rfl rfl ?_
    | refine aops_eff (w_add rfl rfl (by omega)) rfl rfl rfl ?_
    | refine aops_skip rfl rfl ?_
    | refine aops_eff (eff_pick rfl rfl) rfl rfl rfl ?_
    | refine aops_eff (w_field_ref TT_ok rfl rfl rfl rfl rfl rfl) rfl rfl rfl ?_
    | refine aops_eff (w_not rfl) rfl rfl rfl ?_
    | refine aops_eff (w_box rfl rfl rfl rfl) rfl rfl rfl ?_
    | refine aops_eff (w_alloc TT_ok rfl rfl) rfl rfl rfl ?_
    | refine aops_eff (w_store TT_ok rfl rfl rfl rfl rfl rfl rfl rfl) rfl rfl rfl ?_
    | refine aops_eff (w_len_own TT_ok rfl rfl rfl rfl) rfl rfl rfl ?_
    | refine aops_eff (w_len_nil TT_ok rfl rfl rfl) rfl rfl rfl ?_
    | refine aops_eff (eff_extract rfl rfl (by intro _ h; cases h)) rfl rfl rfl ?_
    | refine aops_eff (w_lit TT_ok rfl rfl rfl rfl rfl rfl rfl rfl rfl rfl rfl) rfl rfl rfl ?_
    | refine aops_eff (w_build TT_ok rfl rfl rfl rfl rfl rfl) rfl rfl rfl ?_)
  refine aops_eff (w_call0s (h_slBars a b) rfl (va_cons (va_same rfl) (va_cons (va_same rfl) va_nil))) rfl rfl rfl ?_
  repeat (first
    | refine aops_nil ?_
    | refine ac_seq ?_
    | refine ac_region ?_
    | refine then_n ?_
    | refine then_ret ?_
    | refine then_exit ?_
    | refine block_n ?_
    | refine block_ret ?_
    | refine block_here ?_
    | refine block_out rfl ?_
    | refine ac_region_draw MIX ?_
    | refine ac_block ?_
    | refine ac_skip ?_
    | refine ac_exit ?_
    | refine ac_ret ?_
    | refine aops_eff (eff_move rfl) rfl rfl rfl ?_
    | refine aops_eff (w_load_ptr TT_ok rfl rfl rfl rfl rfl rfl rfl) rfl rfl rfl ?_
    | refine aops_eff (w_field_ptr TT_ok rfl rfl rfl rfl rfl rfl rfl) rfl rfl rfl ?_
    | refine aops_eff (eff_assign rfl) rfl rfl rfl ?_
    | refine aops_eff (w_len_list TT_ok rfl rfl rfl) rfl rfl rfl ?_
    | refine aops_eff (w_load_ref TT_ok rfl rfl rfl rfl rfl rfl) rfl rfl rfl ?_
    | refine aops_eff (w_cmp rfl rfl rfl) rfl rfl rfl ?_
    | refine aops_eff (eff_indexAddr_list TT_ok rfl rfl rfl rfl rfl rfl (encI_at (by omega))) rfl rfl rfl ?_
    | refine aops_eff (eff_indexAddr_list TT_ok rfl rfl rfl rfl rfl rfl (map_at (at_lt (by omega)))) rfl rfl rfl ?_
    | refine aops_eff (w_add rfl rfl (by omega)) rfl rfl rfl ?_
    | refine aops_skip rfl rfl ?_
    | refine aops_eff (eff_pick rfl rfl) rfl rfl rfl ?_
    | refine aops_eff (w_field_ref TT_ok rfl rfl rfl rfl rfl rfl) rfl rfl rfl ?_
    | refine aops_eff (w_not rfl) rfl rfl rfl ?_
    | refine aops_eff (w_box rfl rfl rfl rfl) rfl rfl rfl ?_
    | refine aops_eff (w_alloc TT_ok rfl rfl) rfl rfl rfl ?_
    | refine aops_eff (w_store TT_ok rfl rfl rfl rfl rfl rfl rfl rfl) rfl rfl rfl ?_
    | refine aops_eff (w_len_own TT_ok rfl rfl rfl rfl) rfl rfl rfl ?_
    | refine aops_eff (w_len_nil TT_ok rfl rfl rfl) rfl rfl rfl ?_
    | refine aops_eff (eff_extract rfl rfl (by intro _ h; cases h)) rfl rfl rfl ?_
    | refine aops_eff (w_lit TT_ok rfl rfl rfl rfl rfl rfl rfl rfl rfl rfl rfl) rfl rfl rfl ?_
    | refine aops_eff (w_build TT_ok rfl rfl rfl rfl rfl rfl) rfl rfl rfl ?_)
  refine ret_mk rfl rfl rfl ?_
  exact fz_bl rfl

theorem h_i_claim (a b : Cl) : HasC Try.prog 26 [.agg (eC a), .agg (eC b)] (.bl (decide (a = b))) := by
  refine hasC_mk TT_ok (ns := [0,1,2,3,4,5,6,7]) Try.func26 rfl rfl Try.ntmps26 rfl rfl rfl ?_
  repeat (first
    | refine aops_nil ?_
    | refine ac_seq ?_
    | refine ac_region ?_
    | refine then_n ?_
    | refine then_ret ?_
    | refine then_exit ?_
    | refine block_n ?_
    | refine block_ret ?_
    | refine block_here ?_
    | refine block_out rfl ?_
    | refine ac_region_draw MIX ?_
    | refine ac_block ?_
    | refine ac_skip ?_
    | refine ac_exit ?_
    | refine ac_ret ?_
    | refine aops_eff (eff_move rfl) rfl rfl rfl ?_
    | refine aops_eff (w_load_ptr TT_ok rfl rfl rfl rfl rfl rfl rfl) rfl rfl rfl ?_
    | refine aops_eff (w_field_ptr TT_ok rfl rfl rfl rfl rfl rfl rfl) rfl rfl rfl ?_
    | refine aops_eff (eff_assign rfl) rfl rfl rfl ?_
    | refine aops_eff (w_len_list TT_ok rfl rfl rfl) rfl rfl rfl ?_
    | refine aops_eff (w_load_ref TT_ok rfl rfl rfl rfl rfl rfl) rfl rfl rfl ?_
    | refine aops_eff (w_cmp rfl rfl rfl) rfl rfl rfl ?_
    | refine aops_eff (eff_indexAddr_list TT_ok rfl rfl rfl rfl rfl rfl (encI_at (by omega))) rfl rfl rfl ?_
    | refine aops_eff (eff_indexAddr_list TT_ok rfl rfl rfl rfl rfl rfl (map_at (at_lt (by omega)))) rfl rfl rfl ?_
    | refine aops_eff (w_add rfl rfl (by omega)) rfl rfl rfl ?_
    | refine aops_skip rfl rfl ?_
    | refine aops_eff (eff_pick rfl rfl) rfl rfl rfl ?_
    | refine aops_eff (w_field_ref TT_ok rfl rfl rfl rfl rfl rfl) rfl rfl rfl ?_
    | refine aops_eff (w_not rfl) rfl rfl rfl ?_
    | refine aops_eff (w_box rfl rfl rfl rfl) rfl rfl rfl ?_
    | refine aops_eff (w_alloc TT_ok rfl rfl) rfl rfl rfl ?_
    | refine aops_eff (w_store TT_ok rfl rfl rfl rfl rfl rfl rfl rfl) rfl rfl rfl ?_
    | refine aops_eff (w_len_own TT_ok rfl rfl rfl rfl) rfl rfl rfl ?_
    | refine aops_eff (w_len_nil TT_ok rfl rfl rfl) rfl rfl rfl ?_
    | refine aops_eff (eff_extract rfl rfl (by intro _ h; cases h)) rfl rfl rfl ?_
    | refine aops_eff (w_lit TT_ok rfl rfl rfl rfl rfl rfl rfl rfl rfl rfl rfl) rfl rfl rfl ?_
    | refine aops_eff (w_build TT_ok rfl rfl rfl rfl rfl rfl) rfl rfl rfl ?_)
  cases h0 : decide (a.kind = b.kind)
  · repeat (first
      | refine aops_nil ?_
      | refine ac_seq ?_
      | refine ac_region ?_
      | refine then_n ?_
      | refine then_ret ?_
      | refine then_exit ?_
      | refine block_n ?_
      | refine block_ret ?_
      | refine block_here ?_
      | refine block_out rfl ?_
      | refine ac_region_draw MIX ?_
      | refine ac_block ?_
      | refine ac_skip ?_
      | refine ac_exit ?_
      | refine ac_ret ?_
      | refine aops_eff (eff_move rfl) rfl rfl rfl ?_
      | refine aops_eff (w_load_ptr TT_ok rfl rfl rfl rfl rfl rfl rfl) rfl rfl rfl ?_
      | refine aops_eff (w_field_ptr TT_ok rfl rfl rfl rfl rfl rfl rfl) rfl rfl rfl ?_
      | refine aops_eff (eff_assign rfl) rfl rfl rfl ?_
      | refine aops_eff (w_len_list TT_ok rfl rfl rfl) rfl rfl rfl ?_
      | refine aops_eff (w_load_ref TT_ok rfl rfl rfl rfl rfl rfl) rfl rfl rfl ?_
      | refine aops_eff (w_cmp rfl rfl rfl) rfl rfl rfl ?_
      | refine aops_eff (eff_indexAddr_list TT_ok rfl rfl rfl rfl rfl rfl (encI_at (by omega))) rfl rfl rfl ?_
      | refine aops_eff (eff_indexAddr_list TT_ok rfl rfl rfl rfl rfl rfl (map_at (at_lt (by omega)))) rfl rfl rfl ?_
      | refine aops_eff (w_add rfl rfl (by omega)) rfl rfl rfl ?_
      | refine aops_skip rfl rfl ?_
      | refine aops_eff (eff_pick rfl rfl) rfl rfl rfl ?_
      | refine aops_eff (w_field_ref TT_ok rfl rfl rfl rfl rfl rfl) rfl rfl rfl ?_
      | refine aops_eff (w_not rfl) rfl rfl rfl ?_
      | refine aops_eff (w_box rfl rfl rfl rfl) rfl rfl rfl ?_
      | refine aops_eff (w_alloc TT_ok rfl rfl) rfl rfl rfl ?_
      | refine aops_eff (w_store TT_ok rfl rfl rfl rfl rfl rfl rfl rfl) rfl rfl rfl ?_
      | refine aops_eff (w_len_own TT_ok rfl rfl rfl rfl) rfl rfl rfl ?_
      | refine aops_eff (w_len_nil TT_ok rfl rfl rfl) rfl rfl rfl ?_
      | refine aops_eff (eff_extract rfl rfl (by intro _ h; cases h)) rfl rfl rfl ?_
      | refine aops_eff (w_lit TT_ok rfl rfl rfl rfl rfl rfl rfl rfl rfl rfl rfl) rfl rfl rfl ?_
      | refine aops_eff (w_build TT_ok rfl rfl rfl rfl rfl rfl) rfl rfl rfl ?_)
    refine ret_mk rfl rfl rfl ?_
    refine fz_bl ?_
    cases a; cases b; simp_all [Cl.mk.injEq]
  · repeat (first
      | refine aops_nil ?_
      | refine ac_seq ?_
      | refine ac_region ?_
      | refine then_n ?_
      | refine then_ret ?_
      | refine then_exit ?_
      | refine block_n ?_
      | refine block_ret ?_
      | refine block_here ?_
      | refine block_out rfl ?_
      | refine ac_region_draw MIX ?_
      | refine ac_block ?_
      | refine ac_skip ?_
      | refine ac_exit ?_
      | refine ac_ret ?_
      | refine aops_eff (eff_move rfl) rfl rfl rfl ?_
      | refine aops_eff (w_load_ptr TT_ok rfl rfl rfl rfl rfl rfl rfl) rfl rfl rfl ?_
      | refine aops_eff (w_field_ptr TT_ok rfl rfl rfl rfl rfl rfl rfl) rfl rfl rfl ?_
      | refine aops_eff (eff_assign rfl) rfl rfl rfl ?_
      | refine aops_eff (w_len_list TT_ok rfl rfl rfl) rfl rfl rfl ?_
      | refine aops_eff (w_load_ref TT_ok rfl rfl rfl rfl rfl rfl) rfl rfl rfl ?_
      | refine aops_eff (w_cmp rfl rfl rfl) rfl rfl rfl ?_
      | refine aops_eff (eff_indexAddr_list TT_ok rfl rfl rfl rfl rfl rfl (encI_at (by omega))) rfl rfl rfl ?_
      | refine aops_eff (eff_indexAddr_list TT_ok rfl rfl rfl rfl rfl rfl (map_at (at_lt (by omega)))) rfl rfl rfl ?_
      | refine aops_eff (w_add rfl rfl (by omega)) rfl rfl rfl ?_
      | refine aops_skip rfl rfl ?_
      | refine aops_eff (eff_pick rfl rfl) rfl rfl rfl ?_
      | refine aops_eff (w_field_ref TT_ok rfl rfl rfl rfl rfl rfl) rfl rfl rfl ?_
      | refine aops_eff (w_not rfl) rfl rfl rfl ?_
      | refine aops_eff (w_box rfl rfl rfl rfl) rfl rfl rfl ?_
      | refine aops_eff (w_alloc TT_ok rfl rfl) rfl rfl rfl ?_
      | refine aops_eff (w_store TT_ok rfl rfl rfl rfl rfl rfl rfl rfl) rfl rfl rfl ?_
      | refine aops_eff (w_len_own TT_ok rfl rfl rfl rfl) rfl rfl rfl ?_
      | refine aops_eff (w_len_nil TT_ok rfl rfl rfl) rfl rfl rfl ?_
      | refine aops_eff (eff_extract rfl rfl (by intro _ h; cases h)) rfl rfl rfl ?_
      | refine aops_eff (w_lit TT_ok rfl rfl rfl rfl rfl rfl rfl rfl rfl rfl rfl) rfl rfl rfl ?_
      | refine aops_eff (w_build TT_ok rfl rfl rfl rfl rfl rfl) rfl rfl rfl ?_)
    refine aops_eff (w_call0s (h_i_rep a.rep b.rep) rfl (va_cons (va_agg rfl) (va_cons (va_agg rfl) va_nil))) rfl rfl rfl ?_
    repeat (first
      | refine aops_nil ?_
      | refine ac_seq ?_
      | refine ac_region ?_
      | refine then_n ?_
      | refine then_ret ?_
      | refine then_exit ?_
      | refine block_n ?_
      | refine block_ret ?_
      | refine block_here ?_
      | refine block_out rfl ?_
      | refine ac_region_draw MIX ?_
      | refine ac_block ?_
      | refine ac_skip ?_
      | refine ac_exit ?_
      | refine ac_ret ?_
      | refine aops_eff (eff_move rfl) rfl rfl rfl ?_
      | refine aops_eff (w_load_ptr TT_ok rfl rfl rfl rfl rfl rfl rfl) rfl rfl rfl ?_
      | refine aops_eff (w_field_ptr TT_ok rfl rfl rfl rfl rfl rfl rfl) rfl rfl rfl ?_
      | refine aops_eff (eff_assign rfl) rfl rfl rfl ?_
      | refine aops_eff (w_len_list TT_ok rfl rfl rfl) rfl rfl rfl ?_
      | refine aops_eff (w_load_ref TT_ok rfl rfl rfl rfl rfl rfl) rfl rfl rfl ?_
      | refine aops_eff (w_cmp rfl rfl rfl) rfl rfl rfl ?_
      | refine aops_eff (eff_indexAddr_list TT_ok rfl rfl rfl rfl rfl rfl (encI_at (by omega))) rfl rfl rfl ?_
      | refine aops_eff (eff_indexAddr_list TT_ok rfl rfl rfl rfl rfl rfl (map_at (at_lt (by omega)))) rfl rfl rfl ?_
      | refine aops_eff (w_add rfl rfl (by omega)) rfl rfl rfl ?_
      | refine aops_skip rfl rfl ?_
      | refine aops_eff (eff_pick rfl rfl) rfl rfl rfl ?_
      | refine aops_eff (w_field_ref TT_ok rfl rfl rfl rfl rfl rfl) rfl rfl rfl ?_
      | refine aops_eff (w_not rfl) rfl rfl rfl ?_
      | refine aops_eff (w_box rfl rfl rfl rfl) rfl rfl rfl ?_
      | refine aops_eff (w_alloc TT_ok rfl rfl) rfl rfl rfl ?_
      | refine aops_eff (w_store TT_ok rfl rfl rfl rfl rfl rfl rfl rfl) rfl rfl rfl ?_
      | refine aops_eff (w_len_own TT_ok rfl rfl rfl rfl) rfl rfl rfl ?_
      | refine aops_eff (w_len_nil TT_ok rfl rfl rfl) rfl rfl rfl ?_
      | refine aops_eff (eff_extract rfl rfl (by intro _ h; cases h)) rfl rfl rfl ?_
      | refine aops_eff (w_lit TT_ok rfl rfl rfl rfl rfl rfl rfl rfl rfl rfl rfl) rfl rfl rfl ?_
      | refine aops_eff (w_build TT_ok rfl rfl rfl rfl rfl rfl) rfl rfl rfl ?_)
    cases h1 : decide (a.rep = b.rep)
    · repeat (first
        | refine aops_nil ?_
        | refine ac_seq ?_
        | refine ac_region ?_
        | refine then_n ?_
        | refine then_ret ?_
        | refine then_exit ?_
        | refine block_n ?_
        | refine block_ret ?_
        | refine block_here ?_
        | refine block_out rfl ?_
        | refine ac_region_draw MIX ?_
        | refine ac_block ?_
        | refine ac_skip ?_
        | refine ac_exit ?_
        | refine ac_ret ?_
        | refine aops_eff (eff_move rfl) rfl rfl rfl ?_
        | refine aops_eff (w_load_ptr TT_ok rfl rfl rfl rfl rfl rfl rfl) rfl rfl rfl ?_
        | refine aops_eff (w_field_ptr TT_ok rfl rfl rfl rfl rfl rfl rfl) rfl rfl rfl ?_
        | refine aops_eff (eff_assign rfl) rfl rfl rfl ?_
        | refine aops_eff (w_len_list TT_ok rfl rfl rfl) rfl rfl rfl ?_
        | refine aops_eff (w_load_ref TT_ok rfl rfl rfl rfl rfl rfl) rfl rfl rfl ?_
        | refine aops_eff (w_cmp rfl rfl rfl) rfl rfl rfl ?_
        | refine aops_eff (eff_indexAddr_list TT_ok rfl rfl rfl rfl rfl rfl (encI_at (by omega))) rfl rfl rfl ?_
        | refine aops_eff (eff_indexAddr_list TT_ok rfl rfl rfl rfl rfl rfl (map_at (at_lt (by omega)))) rfl rfl rfl ?_
        | refine aops_eff (w_add rfl rfl (by omega)) rfl rfl rfl ?_
        | refine aops_skip rfl rfl ?_
        | refine aops_eff (eff_pick rfl rfl) rfl rfl rfl ?_
        | refine aops_eff (w_field_ref TT_ok rfl rfl rfl rfl rfl rfl) rfl rfl rfl ?_
        | refine aops_eff (w_not rfl) rfl rfl rfl ?_
        | refine aops_eff (w_box rfl rfl rfl rfl) rfl rfl rfl ?_
        | refine aops_eff (w_alloc TT_ok rfl rfl) rfl rfl rfl ?_
        | refine aops_eff (w_store TT_ok rfl rfl rfl rfl rfl rfl rfl rfl) rfl rfl rfl ?_
        | refine aops_eff (w_len_own TT_ok rfl rfl rfl rfl) rfl rfl rfl ?_
        | refine aops_eff (w_len_nil TT_ok rfl rfl rfl) rfl rfl rfl ?_
        | refine aops_eff (eff_extract rfl rfl (by intro _ h; cases h)) rfl rfl rfl ?_
        | refine aops_eff (w_lit TT_ok rfl rfl rfl rfl rfl rfl rfl rfl rfl rfl rfl) rfl rfl rfl ?_
        | refine aops_eff (w_build TT_ok rfl rfl rfl rfl rfl rfl) rfl rfl rfl ?_)
      refine ret_mk rfl rfl rfl ?_
      refine fz_bl ?_
      cases a; cases b; simp_all [Cl.mk.injEq]
    · repeat (first
        | refine aops_nil ?_
        | refine ac_seq ?_
        | refine ac_region ?_
        | refine then_n ?_
        | refine then_ret ?_
        | refine then_exit ?_
        | refine block_n ?_
        | refine block_ret ?_
        | refine block_here ?_
        | refine block_out rfl ?_
        | refine ac_region_draw MIX ?_
        | refine ac_block ?_
        | refine ac_skip ?_
        | refine ac_exit ?_
        | refine ac_ret ?_
        | refine aops_eff (eff_move rfl) rfl rfl rfl ?_
        | refine aops_eff (w_load_ptr TT_ok rfl rfl rfl rfl rfl rfl rfl) rfl rfl rfl ?_
        | refine aops_eff (w_field_ptr TT_ok rfl rfl rfl rfl rfl rfl rfl) rfl rfl rfl ?_
        | refine aops_eff (eff_assign rfl) rfl rfl rfl ?_
        | refine aops_eff (w_len_list TT_ok rfl rfl rfl) rfl rfl rfl ?_
        | refine aops_eff (w_load_ref TT_ok rfl rfl rfl rfl rfl rfl) rfl rfl rfl ?_
        | refine aops_eff (w_cmp rfl rfl rfl) rfl rfl rfl ?_
        | refine aops_eff (eff_indexAddr_list TT_ok rfl rfl rfl rfl rfl rfl (encI_at (by omega))) rfl rfl rfl ?_
        | refine aops_eff (eff_indexAddr_list TT_ok rfl rfl rfl rfl rfl rfl (map_at (at_lt (by omega)))) rfl rfl rfl ?_
        | refine aops_eff (w_add rfl rfl (by omega)) rfl rfl rfl ?_
        | refine aops_skip rfl rfl ?_
        | refine aops_eff (eff_pick rfl rfl) rfl rfl rfl ?_
        | refine aops_eff (w_field_ref TT_ok rfl rfl rfl rfl rfl rfl) rfl rfl rfl ?_
        | refine aops_eff (w_not rfl) rfl rfl rfl ?_
        | refine aops_eff (w_box rfl rfl rfl rfl) rfl rfl rfl ?_
        | refine aops_eff (w_alloc TT_ok rfl rfl) rfl rfl rfl ?_
        | refine aops_eff (w_store TT_ok rfl rfl rfl rfl rfl rfl rfl rfl) rfl rfl rfl ?_
        | refine aops_eff (w_len_own TT_ok rfl rfl rfl rfl) rfl rfl rfl ?_
        | refine aops_eff (w_len_nil TT_ok rfl rfl rfl) rfl rfl rfl ?_
        | refine aops_eff (eff_extract rfl rfl (by intro _ h; cases h)) rfl rfl rfl ?_
        | refine aops_eff (w_lit TT_ok rfl rfl rfl rfl rfl rfl rfl rfl rfl rfl rfl) rfl rfl rfl ?_
        | refine aops_eff (w_build TT_ok rfl rfl rfl rfl rfl rfl) rfl rfl rfl ?_)
      refine aops_eff (w_call0s (h_i_rep a.other b.other) rfl (va_cons (va_agg rfl) (va_cons (va_agg rfl) va_nil))) rfl rfl rfl ?_
      repeat (first
        | refine aops_nil ?_
        | refine ac_seq ?_
        | refine ac_region ?_
        | refine then_n ?_
        | refine then_ret ?_
        | refine then_exit ?_
        | refine block_n ?_
        | refine block_ret ?_
        | refine block_here ?_
        | refine block_out rfl ?_
        | refine ac_region_draw MIX ?_
        | refine ac_block ?_
        | refine ac_skip ?_
        | refine ac_exit ?_
        | refine ac_ret ?_
        | refine aops_eff (eff_move rfl) rfl rfl rfl ?_
        | refine aops_eff (w_load_ptr TT_ok rfl rfl rfl rfl rfl rfl rfl) rfl rfl rfl ?_
        | refine aops_eff (w_field_ptr TT_ok rfl rfl rfl rfl rfl rfl rfl) rfl rfl rfl ?_
        | refine aops_eff (eff_assign rfl) rfl rfl rfl ?_
        | refine aops_eff (w_len_list TT_ok rfl rfl rfl) rfl rfl rfl ?_
        | refine aops_eff (w_load_ref TT_ok rfl rfl rfl rfl rfl rfl) rfl rfl rfl ?_
        | refine aops_eff (w_cmp rfl rfl rfl) rfl rfl rfl ?_
        | refine aops_eff (eff_indexAddr_list TT_ok rfl rfl rfl rfl rfl rfl (encI_at (by omega))) rfl rfl rfl ?_
        | refine aops_eff (eff_indexAddr_list TT_ok rfl rfl rfl rfl rfl rfl (map_at (at_lt (by omega)))) rfl rfl rfl ?_
        | refine aops_eff (w_add rfl rfl (by omega)) rfl rfl rfl ?_
        | refine aops_skip rfl rfl ?_
        | refine aops_eff (eff_pick rfl rfl) rfl rfl rfl ?_
        | refine aops_eff (w_field_ref TT_ok rfl rfl rfl rfl rfl rfl) rfl rfl rfl ?_
        | refine aops_eff (w_not rfl) rfl rfl rfl ?_
        | refine aops_eff (w_box rfl rfl rfl rfl) rfl rfl rfl ?_
        | refine aops_eff (w_alloc TT_ok rfl rfl) rfl rfl rfl ?_
        | refine aops_eff (w_store TT_ok rfl rfl rfl rfl rfl rfl rfl rfl) rfl rfl rfl ?_
        | refine aops_eff (w_len_own TT_ok rfl rfl rfl rfl) rfl rfl rfl ?_
        | refine aops_eff (w_len_nil TT_ok rfl rfl rfl) rfl rfl rfl ?_
        | refine aops_eff (eff_extract rfl rfl (by intro _ h; cases h)) rfl rfl rfl ?_
        | refine aops_eff (w_lit TT_ok rfl rfl rfl rfl rfl rfl rfl rfl rfl rfl rfl) rfl rfl rfl ?_
        | refine aops_eff (w_build TT_ok rfl rfl rfl rfl rfl rfl) rfl rfl rfl ?_)
      cases h2 : decide (a.other = b.other)
      · repeat (first
          | refine aops_nil ?_
          | refine ac_seq ?_
          | refine ac_region ?_
          | refine then_n ?_
          | refine then_ret ?_
          | refine then_exit ?_
          | refine block_n ?_
          | refine block_ret ?_
          | refine block_here ?_
          | refine block_out rfl ?_
          | refine ac_region_draw MIX ?_
          | refine ac_block ?_
          | refine ac_skip ?_
          | refine ac_exit ?_
          | refine ac_ret ?_
          | refine aops_eff (eff_move rfl) rfl rfl rfl ?_
          | refine aops_eff (w_load_ptr TT_ok rfl rfl rfl rfl rfl rfl rfl) rfl rfl rfl ?_
          | refine aops_eff (w_field_ptr TT_ok rfl rfl rfl rfl rfl rfl rfl) rfl rfl rfl ?_
          | refine aops_eff (eff_assign rfl) rfl rfl rfl ?_
          | refine aops_eff (w_len_list TT_ok rfl rfl rfl) rfl rfl rfl ?_
          | refine aops_eff (w_load_ref TT_ok rfl rfl rfl rfl rfl rfl) rfl rfl rfl ?_
          | refine aops_eff (w_cmp rfl rfl rfl) rfl rfl rfl ?_
          | refine aops_eff (eff_indexAddr_list TT_ok rfl rfl rfl rfl rfl rfl (encI_at (by omega))) rfl rfl rfl ?_
          | refine aops_eff (eff_indexAddr_list TT_ok rfl rfl rfl rfl rfl rfl (map_at (at_lt (by omega)))) rfl rfl rfl ?_
          | refine aops_eff (w_add rfl rfl (by omega)) rfl rfl rfl ?_
          | refine aops_skip rfl rfl ?_
          | refine aops_eff (eff_pick rfl rfl) rfl rfl rfl ?_
          | refine aops_eff (w_field_ref TT_ok rfl rfl rfl rfl rfl rfl) rfl rfl rfl ?_
          | refine aops_eff (w_not rfl) rfl rfl rfl ?_
          | refine aops_eff (w_box rfl rfl rfl rfl) rfl rfl rfl ?_
          | refine aops_eff (w_alloc TT_ok rfl rfl) rfl rfl rfl ?_
          | refine aops_eff (w_store TT_ok rfl rfl rfl rfl rfl rfl rfl rfl) rfl rfl rfl ?_
          | refine aops_eff (w_len_own TT_ok rfl rfl rfl rfl) rfl rfl rfl ?_
          | refine aops_eff (w_len_nil TT_ok rfl rfl rfl) rfl rfl rfl ?_
          | refine aops_eff (eff_extract rfl rfl (by intro _ h; cases h)) rfl rfl rfl ?_
          | refine aops_eff (w_lit TT_ok rfl rfl rfl rfl rfl rfl rfl rfl rfl rfl rfl) rfl rfl rfl ?_
          | refine aops_eff (w_build TT_ok rfl rfl rfl rfl rfl rfl) rfl rfl rfl ?_)
        refine ret_mk rfl rfl rfl ?_
        refine fz_bl ?_
        cases a; cases b; simp_all [Cl.mk.injEq]
      · repeat (first
          | refine aops_nil ?_
          | refine ac_seq ?_
          | refine ac_region ?_
          | refine then_n ?_
          | refine then_ret ?_
          | refine then_exit ?_
          | refine block_n ?_
          | refine block_ret ?_
          | refine block_here ?_
          | refine block_out rfl ?_
          | refine ac_region_draw MIX ?_
          | refine ac_block ?_
          | refine ac_skip ?_
          | refine ac_exit ?_
          | refine ac_ret ?_
          | refine aops_eff (eff_move rfl) rfl rfl rfl ?_
          | refine aops_eff (w_load_ptr TT_ok rfl rfl rfl rfl rfl rfl rfl) rfl rfl rfl ?_
          | refine aops_eff (w_field_ptr TT_ok rfl rfl rfl rfl rfl rfl rfl) rfl rfl rfl ?_
          | refine aops_eff (eff_assign rfl) rfl rfl rfl ?_
          | refine aops_eff (w_len_list TT_ok rfl rfl rfl) rfl rfl rfl ?_
          | refine aops_eff (w_load_ref TT_ok rfl rfl rfl rfl rfl rfl) rfl rfl rfl ?_
          | refine aops_eff (w_cmp rfl rfl rfl) rfl rfl rfl ?_
          | refine aops_eff (eff_indexAddr_list TT_ok rfl rfl rfl rfl rfl rfl (encI_at (by omega))) rfl rfl rfl ?_
          | refine aops_eff (eff_indexAddr_list TT_ok rfl rfl rfl rfl rfl rfl (map_at (at_lt (by omega)))) rfl rfl rfl ?_
          | refine aops_eff (w_add rfl rfl (by omega)) rfl rfl rfl ?_
          | refine aops_skip rfl rfl ?_
          | refine aops_eff (eff_pick rfl rfl) rfl rfl rfl ?_
          | refine aops_eff (w_field_ref TT_ok rfl rfl rfl rfl rfl rfl) rfl rfl rfl ?_
          | refine aops_eff (w_not rfl) rfl rfl rfl ?_
          | refine aops_eff (w_box rfl rfl rfl rfl) rfl rfl rfl ?_
          | refine aops_eff (w_alloc TT_ok rfl rfl) rfl rfl rfl ?_
          | refine aops_eff (w_store TT_ok rfl rfl rfl rfl rfl rfl rfl rfl) rfl rfl rfl ?_
          | refine aops_eff (w_len_own TT_ok rfl rfl rfl rfl) rfl rfl rfl ?_
          | refine aops_eff (w_len_nil TT_ok rfl rfl rfl) rfl rfl rfl ?_
          | refine aops_eff (eff_extract rfl rfl (by intro _ h; cases h)) rfl rfl rfl ?_
          | refine aops_eff (w_lit TT_ok rfl rfl rfl rfl rfl rfl rfl rfl rfl rfl rfl) rfl rfl rfl ?_
          | refine aops_eff (w_build TT_ok rfl rfl rfl rfl rfl rfl) rfl rfl rfl ?_)
        refine aops_eff (w_call0s (h_i_repsF a.parts b.parts) rfl (va_cons (va_same rfl) (va_cons (va_same rfl) (va_cons va_fn0 va_nil)))) rfl rfl rfl ?_
        repeat (first
          | refine aops_nil ?_
          | refine ac_seq ?_
          | refine ac_region ?_
          | refine then_n ?_
          | refine then_ret ?_
          | refine then_exit ?_
          | refine block_n ?_
          | refine block_ret ?_
          | refine block_here ?_
          | refine block_out rfl ?_
          | refine ac_region_draw MIX ?_
          | refine ac_block ?_
          | refine ac_skip ?_
          | refine ac_exit ?_
          | refine ac_ret ?_
          | refine aops_eff (eff_move rfl) rfl rfl rfl ?_
          | refine aops_eff (w_load_ptr TT_ok rfl rfl rfl rfl rfl rfl rfl) rfl rfl rfl ?_
          | refine aops_eff (w_field_ptr TT_ok rfl rfl rfl rfl rfl rfl rfl) rfl rfl rfl ?_
          | refine aops_eff (eff_assign rfl) rfl rfl rfl ?_
          | refine aops_eff (w_len_list TT_ok rfl rfl rfl) rfl rfl rfl ?_
          | refine aops_eff (w_load_ref TT_ok rfl rfl rfl rfl rfl rfl) rfl rfl rfl ?_
          | refine aops_eff (w_cmp rfl rfl rfl) rfl rfl rfl ?_
          | refine aops_eff (eff_indexAddr_list TT_ok rfl rfl rfl rfl rfl rfl (encI_at (by omega))) rfl rfl rfl ?_
          | refine aops_eff (eff_indexAddr_list TT_ok rfl rfl rfl rfl rfl rfl (map_at (at_lt (by omega)))) rfl rfl rfl ?_
          | refine aops_eff (w_add rfl rfl (by omega)) rfl rfl rfl ?_
          | refine aops_skip rfl rfl ?_
          | refine aops_eff (eff_pick rfl rfl) rfl rfl rfl ?_
          | refine aops_eff (w_field_ref TT_ok rfl rfl rfl rfl rfl rfl) rfl rfl rfl ?_
          | refine aops_eff (w_not rfl) rfl rfl rfl ?_
          | refine aops_eff (w_box rfl rfl rfl rfl) rfl rfl rfl ?_
          | refine aops_eff (w_alloc TT_ok rfl rfl) rfl rfl rfl ?_
          | refine aops_eff (w_store TT_ok rfl rfl rfl rfl rfl rfl rfl rfl) rfl rfl rfl ?_
          | refine aops_eff (w_len_own TT_ok rfl rfl rfl rfl) rfl rfl rfl ?_
          | refine aops_eff (w_len_nil TT_ok rfl rfl rfl) rfl rfl rfl ?_
          | refine aops_eff (eff_extract rfl rfl (by intro _ h; cases h)) rfl rfl rfl ?_
          | refine aops_eff (w_lit TT_ok rfl rfl rfl rfl rfl rfl rfl rfl rfl rfl rfl) rfl rfl rfl ?_
          | refine aops_eff (w_build TT_ok rfl rfl rfl rfl rfl rfl) rfl rfl rfl ?_)
        cases h3 : decide (a.parts = b.parts)
        · repeat (first
            | refine aops_nil ?_
            | refine ac_seq ?_
            | refine ac_region ?_
            | refine then_n ?_
            | refine then_ret ?_
            | refine then_exit ?_
            | refine block_n ?_
            | refine block_ret ?_
            | refine block_here ?_
            | refine block_out rfl ?_
            | refine ac_region_draw MIX ?_
            | refine ac_block ?_
            | refine ac_skip ?_
            | refine ac_exit ?_
            | refine ac_ret ?_
            | refine aops_eff (eff_move rfl) rfl rfl rfl ?_
            | refine aops_eff (w_load_ptr TT_ok rfl rfl rfl rfl rfl rfl rfl) rfl rfl rfl ?_
            | refine aops_eff (w_field_ptr TT_ok rfl rfl rfl rfl rfl rfl rfl) rfl rfl rfl ?_
            | refine aops_eff (eff_assign rfl) rfl rfl rfl ?_
            | refine aops_eff (w_len_list TT_ok rfl rfl rfl) rfl rfl rfl ?_
            | refine aops_eff (w_load_ref TT_ok rfl rfl rfl rfl rfl rfl) rfl rfl rfl ?_
            | refine aops_eff (w_cmp rfl rfl rfl) rfl rfl rfl ?_
            | refine aops_eff (eff_indexAddr_list TT_ok rfl rfl rfl rfl rfl rfl (encI_at (by omega))) rfl rfl rfl ?_
            | refine aops_eff (eff_indexAddr_list TT_ok rfl rfl rfl rfl rfl rfl (map_at (at_lt (by omega)))) rfl rfl rfl ?_
            | refine aops_eff (w_add rfl rfl (by omega)) rfl rfl rfl ?_
            | refine aops_skip rfl rfl ?_
            | refine aops_eff (eff_pick rfl rfl) rfl rfl rfl ?_
            | refine aops_eff (w_field_ref TT_ok rfl rfl rfl rfl rfl rfl) rfl rfl rfl ?_
            | refine aops_eff (w_not rfl) rfl rfl rfl ?_
            | refine aops_eff (w_box rfl rfl rfl rfl) rfl rfl rfl ?_
            | refine aops_eff (w_alloc TT_ok rfl rfl) rfl rfl rfl ?_
            | refine aops_eff (w_store TT_ok rfl rfl rfl rfl rfl rfl rfl rfl) rfl rfl rfl ?_
            | refine aops_eff (w_len_own TT_ok rfl rfl rfl rfl) rfl rfl rfl ?_
            | refine aops_eff (w_len_nil TT_ok rfl rfl rfl) rfl rfl rfl ?_
            | refine aops_eff (eff_extract rfl rfl (by intro _ h; cases h)) rfl rfl rfl ?_
            | refine aops_eff (w_lit TT_ok rfl rfl rfl rfl rfl rfl rfl rfl rfl rfl rfl) rfl rfl rfl ?_
            | refine aops_eff (w_build TT_ok rfl rfl rfl rfl rfl rfl) rfl rfl rfl ?_)
          refine ret_mk rfl rfl rfl ?_
          refine fz_bl ?_
          cases a; cases b; simp_all [Cl.mk.injEq]
        · repeat (first
            | refine aops_nil ?_
            | refine ac_seq ?_
            | refine ac_region ?_
            | refine then_n ?_
            | refine then_ret ?_
            | refine then_exit ?_
            | refine block_n ?_
            | refine block_ret ?_
            | refine block_here ?_
            | refine block_out rfl ?_
            | refine ac_region_draw MIX ?_
            | refine ac_block ?_
            | refine ac_skip ?_
            | refine ac_exit ?_
            | refine ac_ret ?_
            | refine aops_eff (eff_move rfl) rfl rfl rfl ?_
            | refine aops_eff (w_load_ptr TT_ok rfl rfl rfl rfl rfl rfl rfl) rfl rfl rfl ?_
            | refine aops_eff (w_field_ptr TT_ok rfl rfl rfl rfl rfl rfl rfl) rfl rfl rfl ?_
            | refine aops_eff (eff_assign rfl) rfl rfl rfl ?_
            | refine aops_eff (w_len_list TT_ok rfl rfl rfl) rfl rfl rfl ?_
            | refine aops_eff (w_load_ref TT_ok rfl rfl rfl rfl rfl rfl) rfl rfl rfl ?_
            | refine aops_eff (w_cmp rfl rfl rfl) rfl rfl rfl ?_
            | refine aops_eff (eff_indexAddr_list TT_ok rfl rfl rfl rfl rfl rfl (encI_at (by omega))) rfl rfl rfl ?_
            | refine aops_eff (eff_indexAddr_list TT_ok rfl rfl rfl rfl rfl rfl (map_at (at_lt (by omega)))) rfl rfl rfl ?_
            | refine aops_eff (w_add rfl rfl (by omega)) rfl rfl rfl ?_
            | refine aops_skip rfl rfl ?_
            | refine aops_eff (eff_pick rfl rfl) rfl rfl rfl ?_
            | refine aops_eff (w_field_ref TT_ok rfl rfl rfl rfl rfl rfl) rfl rfl rfl ?_
            | refine aops_eff (w_not rfl) rfl rfl rfl ?_
            | refine aops_eff (w_box rfl rfl rfl rfl) rfl rfl rfl ?_
            | refine aops_eff (w_alloc TT_ok rfl rfl) rfl rfl rfl ?_
            | refine aops_eff (w_store TT_ok rfl rfl rfl rfl rfl rfl rfl rfl) rfl rfl rfl ?_
            | refine aops_eff (w_len_own TT_ok rfl rfl rfl rfl) rfl rfl rfl ?_
            | refine aops_eff (w_len_nil TT_ok rfl rfl rfl) rfl rfl rfl ?_
            | refine aops_eff (eff_extract rfl rfl (by intro _ h; cases h)) rfl rfl rfl ?_
            | refine aops_eff (w_lit TT_ok rfl rfl rfl rfl rfl rfl rfl rfl rfl rfl rfl) rfl rfl rfl ?_
            | refine aops_eff (w_build TT_ok rfl rfl rfl rfl rfl rfl) rfl rfl rfl ?_)
          refine aops_eff (w_call0s (h_i_mats a.maps b.maps) rfl (va_cons (va_same rfl) (va_cons (va_same rfl) va_nil))) rfl rfl rfl ?_
          repeat (first
            | refine aops_nil ?_
            | refine ac_seq ?_
            | refine ac_region ?_
            | refine then_n ?_
            | refine then_ret ?_
            | refine then_exit ?_
            | refine block_n ?_
            | refine block_ret ?_
            | refine block_here ?_
            | refine block_out rfl ?_
            | refine ac_region_draw MIX ?_
            | refine ac_block ?_
            | refine ac_skip ?_
            | refine ac_exit ?_
            | refine ac_ret ?_
            | refine aops_eff (eff_move rfl) rfl rfl rfl ?_
            | refine aops_eff (w_load_ptr TT_ok rfl rfl rfl rfl rfl rfl rfl) rfl rfl rfl ?_
            | refine aops_eff (w_field_ptr TT_ok rfl rfl rfl rfl rfl rfl rfl) rfl rfl rfl ?_
            | refine aops_eff (eff_assign rfl) rfl rfl rfl ?_
            | refine aops_eff (w_len_list TT_ok rfl rfl rfl) rfl rfl rfl ?_
            | refine aops_eff (w_load_ref TT_ok rfl rfl rfl rfl rfl rfl) rfl rfl rfl ?_
            | refine aops_eff (w_cmp rfl rfl rfl) rfl rfl rfl ?_
            | refine aops_eff (eff_indexAddr_list TT_ok rfl rfl rfl rfl rfl rfl (encI_at (by omega))) rfl rfl rfl ?_
            | refine aops_eff (eff_indexAddr_list TT_ok rfl rfl rfl rfl rfl rfl (map_at (at_lt (by omega)))) rfl rfl rfl ?_
            | refine aops_eff (w_add rfl rfl (by omega)) rfl rfl rfl ?_
            | refine aops_skip rfl rfl ?_
            | refine aops_eff (eff_pick rfl rfl) rfl rfl rfl ?_
            | refine aops_eff (w_field_ref TT_ok rfl rfl rfl rfl rfl rfl) rfl rfl rfl ?_
            | refine aops_eff (w_not rfl) rfl rfl rfl ?_
            | refine aops_eff (w_box rfl rfl rfl rfl) rfl rfl rfl ?_
            | refine aops_eff (w_alloc TT_ok rfl rfl) rfl rfl rfl ?_
            | refine aops_eff (w_store TT_ok rfl rfl rfl rfl rfl rfl rfl rfl) rfl rfl rfl ?_
            | refine aops_eff (w_len_own TT_ok rfl rfl rfl rfl) rfl rfl rfl ?_
            | refine aops_eff (w_len_nil TT_ok rfl rfl rfl) rfl rfl rfl ?_
            | refine aops_eff (eff_extract rfl rfl (by intro _ h; cases h)) rfl rfl rfl ?_
            | refine aops_eff (w_lit TT_ok rfl rfl rfl rfl rfl rfl rfl rfl rfl rfl rfl) rfl rfl rfl ?_
            | refine aops_eff (w_build TT_ok rfl rfl rfl rfl rfl rfl) rfl rfl rfl ?_)
          cases h4 : decide (a.maps = b.maps)
          · repeat (first
              | refine aops_nil ?_
              | refine ac_seq ?_
              | refine ac_region ?_
              | refine then_n ?_
              | refine then_ret ?_
              | refine then_exit ?_
              | refine block_n ?_
              | refine block_ret ?_
              | refine block_here ?_
              | refine block_out rfl ?_
              | refine ac_region_draw MIX ?_
              | refine ac_block ?_
              | refine ac_skip ?_
              | refine ac_exit ?_
              | refine ac_ret ?_
              | refine aops_eff (eff_move rfl) rfl rfl rfl ?_
              | refine aops_eff (w_load_ptr TT_ok rfl rfl rfl rfl rfl rfl rfl) rfl rfl rfl ?_
              | refine aops_eff (w_field_ptr TT_ok rfl rfl rfl rfl rfl rfl rfl) rfl rfl rfl ?_
              | refine aops_eff (eff_assign rfl) rfl rfl rfl ?_
              | refine aops_eff (w_len_list TT_ok rfl rfl rfl) rfl rfl rfl ?_
              | refine aops_eff (w_load_ref TT_ok rfl rfl rfl rfl rfl rfl) rfl rfl rfl ?_
              | refine aops_eff (w_cmp rfl rfl rfl) rfl rfl rfl ?_
              | refine aops_eff (eff_indexAddr_list TT_ok rfl rfl rfl rfl rfl rfl (encI_at (by omega))) rfl rfl rfl ?_
              | refine aops_eff (eff_indexAddr_list TT_ok rfl rfl rfl rfl rfl rfl (map_at (at_lt (by omega)))) rfl rfl rfl ?_
              | refine aops_eff (w_add rfl rfl (by omega)) rfl rfl rfl ?_
              | refine aops_skip rfl rfl ?_
              | refine aops_eff (eff_pick rfl rfl) rfl rfl rfl ?_
              | refine aops_eff (w_field_ref TT_ok rfl rfl rfl rfl rfl rfl) rfl rfl rfl ?_
              | refine aops_eff (w_not rfl) rfl rfl rfl ?_
              | refine aops_eff (w_box rfl rfl rfl rfl) rfl rfl rfl ?_
              | refine aops_eff (w_alloc TT_ok rfl rfl) rfl rfl rfl ?_
              | refine aops_eff (w_store TT_ok rfl rfl rfl rfl rfl rfl rfl rfl) rfl rfl rfl ?_
              | refine aops_eff (w_len_own TT_ok rfl rfl rfl rfl) rfl rfl rfl ?_
              | refine aops_eff (w_len_nil TT_ok rfl rfl rfl) rfl rfl rfl ?_
              | refine aops_eff (eff_extract rfl rfl (by intro _ h; cases h)) rfl rfl rfl ?_
              | refine aops_eff (w_lit TT_ok rfl rfl rfl rfl rfl rfl rfl rfl rfl rfl rfl) rfl rfl rfl ?_
              | refine aops_eff (w_build TT_ok rfl rfl rfl rfl rfl rfl) rfl rfl rfl ?_)
            refine ret_mk rfl rfl rfl ?_
            refine fz_bl ?_
            cases a; cases b; simp_all [Cl.mk.injEq]
          · repeat (first
              | refine aops_nil ?_
              | refine ac_seq ?_
              | refine ac_region ?_
              | refine then_n ?_
              | refine then_ret ?_
              | refine then_exit ?_
              | refine block_n ?_
              | refine block_ret ?_
              | refine block_here ?_
              | refine block_out rfl ?_
              | refine ac_region_draw MIX ?_
              | refine ac_block ?_
              | refine ac_skip ?_
              | refine ac_exit ?_
              | refine ac_ret ?_
              | refine aops_eff (eff_move rfl) rfl rfl rfl ?_
              | refine aops_eff (w_load_ptr TT_ok rfl rfl rfl rfl rfl rfl rfl) rfl rfl rfl ?_
              | refine aops_eff (w_field_ptr TT_ok rfl rfl rfl rfl rfl rfl rfl) rfl rfl rfl ?_
              | refine aops_eff (eff_assign rfl) rfl rfl rfl ?_
              | refine aops_eff (w_len_list TT_ok rfl rfl rfl) rfl rfl rfl ?_
              | refine aops_eff (w_load_ref TT_ok rfl rfl rfl rfl rfl rfl) rfl rfl rfl ?_
              | refine aops_eff (w_cmp rfl rfl rfl) rfl rfl rfl ?_
              | refine aops_eff (eff_indexAddr_list TT_ok rfl rfl rfl rfl rfl rfl (encI_at (by omega))) rfl rfl rfl ?_
              | refine aops_eff (eff_indexAddr_list TT_ok rfl rfl rfl rfl rfl rfl (map_at (at_lt (by omega)))) rfl rfl rfl ?_
              | refine aops_eff (w_add rfl rfl (by omega)) rfl rfl rfl ?_
              | refine aops_skip rfl rfl ?_
              | refine aops_eff (eff_pick rfl rfl) rfl rfl rfl ?_
              | refine aops_eff (w_field_ref TT_ok rfl rfl rfl rfl rfl rfl) rfl rfl rfl ?_
              | refine aops_eff (w_not rfl) rfl rfl rfl ?_
              | refine aops_eff (w_box rfl rfl rfl rfl) rfl rfl rfl ?_
              | refine aops_eff (w_alloc TT_ok rfl rfl) rfl rfl rfl ?_
              | refine aops_eff (w_store TT_ok rfl rfl rfl rfl rfl rfl rfl rfl) rfl rfl rfl ?_
              | refine aops_eff (w_len_own TT_ok rfl rfl rfl rfl) rfl rfl rfl ?_
              | refine aops_eff (w_len_nil TT_ok rfl rfl rfl) rfl rfl rfl ?_
              | refine aops_eff (eff_extract rfl rfl (by intro _ h; cases h)) rfl rfl rfl ?_
              | refine aops_eff (w_lit TT_ok rfl rfl rfl rfl rfl rfl rfl rfl rfl rfl rfl) rfl rfl rfl ?_
              | refine aops_eff (w_build TT_ok rfl rfl rfl rfl rfl rfl) rfl rfl rfl ?_)
            refine aops_eff (w_call0s (h_i_bars a.bars b.bars) rfl (va_cons (va_same rfl) (va_cons (va_same rfl) va_nil))) rfl rfl rfl ?_
            repeat (first
              | refine aops_nil ?_
              | refine ac_seq ?_
              | refine ac_region ?_
              | refine then_n ?_
              | refine then_ret ?_
              | refine then_exit ?_
              | refine block_n ?_
              | refine block_ret ?_
              | refine block_here ?_
              | refine block_out rfl ?_
              | refine ac_region_draw MIX ?_
              | refine ac_block ?_
              | refine ac_skip ?_
              | refine ac_exit ?_
              | refine ac_ret ?_
              | refine aops_eff (eff_move rfl) rfl rfl rfl ?_
              | refine aops_eff (w_load_ptr TT_ok rfl rfl rfl rfl rfl rfl rfl) rfl rfl rfl ?_
              | refine aops_eff (w_field_ptr TT_ok rfl rfl rfl rfl rfl rfl rfl) rfl rfl rfl ?_
              | refine aops_eff (eff_assign rfl) rfl rfl rfl ?_
              | refine aops_eff (w_len_list TT_ok rfl rfl rfl) rfl rfl rfl ?_
              | refine aops_eff (w_load_ref TT_ok rfl rfl rfl rfl rfl rfl) rfl rfl rfl ?_
              | refine aops_eff (w_cmp rfl rfl rfl) rfl rfl rfl ?_
              | refine aops_eff (eff_indexAddr_list TT_ok rfl rfl rfl rfl rfl rfl (encI_at (by omega))) rfl rfl rfl ?_
              | refine aops_eff (eff_indexAddr_list TT_ok rfl rfl rfl rfl rfl rfl (map_at (at_lt (by omega)))) rfl rfl rfl ?_
              | refine aops_eff (w_add rfl rfl (by omega)) rfl rfl rfl ?_
              | refine aops_skip rfl rfl ?_
              | refine aops_eff (eff_pick rfl rfl) rfl rfl rfl ?_
              | refine aops_eff (w_field_ref TT_ok rfl rfl rfl rfl rfl rfl) rfl rfl rfl ?_
              | refine aops_eff (w_not rfl) rfl rfl rfl ?_
              | refine aops_eff (w_box rfl rfl rfl rfl) rfl rfl rfl ?_
              | refine aops_eff (w_alloc TT_ok rfl rfl) rfl rfl rfl ?_
              | refine aops_eff (w_store TT_ok rfl rfl rfl rfl rfl rfl rfl rfl) rfl rfl rfl ?_
              | refine aops_eff (w_len_own TT_ok rfl rfl rfl rfl) rfl rfl rfl ?_
              | refine aops_eff (w_len_nil TT_ok rfl rfl rfl) rfl rfl rfl ?_
              | refine aops_eff (eff_extract rfl rfl (by intro _ h; cases h)) rfl rfl rfl ?_
              | refine aops_eff (w_lit TT_ok rfl rfl rfl rfl rfl rfl rfl rfl rfl rfl rfl) rfl rfl rfl ?_
              | refine aops_eff (w_build TT_ok rfl rfl rfl rfl rfl rfl) rfl rfl rfl ?_)
            cases h5 : decide (a.bars = b.bars)
            · repeat (first
                | refine aops_nil ?_
                | refine ac_seq ?_
                | refine ac_region ?_
                | refine then_n ?_
                | refine then_ret ?_
                | refine then_exit ?_
                | refine block_n ?_
                | refine block_ret ?_
                | refine block_here ?_
                | refine block_out rfl ?_
                | refine ac_region_draw MIX ?_
                | refine ac_block ?_
                | refine ac_skip ?_
                | refine ac_exit ?_
                | refine ac_ret ?_
                | refine aops_eff (eff_move rfl) rfl rfl rfl ?_
                | refine aops_eff (w_load_ptr TT_ok rfl rfl rfl rfl rfl rfl rfl) rfl rfl rfl ?_
                | refine aops_eff (w_field_ptr TT_ok rfl rfl rfl rfl rfl rfl rfl) rfl rfl rfl ?_
                | refine aops_eff (eff_assign rfl) rfl rfl rfl ?_
                | refine aops_eff (w_len_list TT_ok rfl rfl rfl) rfl rfl rfl ?_
                | refine aops_eff (w_load_ref TT_ok rfl rfl rfl rfl rfl rfl) rfl rfl rfl ?_
                | refine aops_eff (w_cmp rfl rfl rfl) rfl rfl rfl ?_
                | refine aops_eff (eff_indexAddr_list TT_ok rfl rfl rfl rfl rfl rfl (encI_at (by omega))) rfl rfl rfl ?_
                | refine aops_eff (eff_indexAddr_list TT_ok rfl rfl rfl rfl rfl rfl (map_at (at_lt (by omega)))) rfl rfl rfl ?_
                | refine aops_eff (w_add rfl rfl (by omega)) rfl rfl rfl ?_
                | refine aops_skip rfl rfl ?_
                | refine aops_eff (eff_pick rfl rfl) rfl rfl rfl ?_
                | refine aops_eff (w_field_ref TT_ok rfl rfl rfl rfl rfl rfl) rfl rfl rfl ?_
                | refine aops_eff (w_not rfl) rfl rfl rfl ?_
                | refine aops_eff (w_box rfl rfl rfl rfl) rfl rfl rfl ?_
                | refine aops_eff (w_alloc TT_ok rfl rfl) rfl rfl rfl ?_
                | refine aops_eff (w_store TT_ok rfl rfl rfl rfl rfl rfl rfl rfl) rfl rfl rfl ?_
                | refine aops_eff (w_len_own TT_ok rfl rfl rfl rfl) rfl rfl rfl ?_
                | refine aops_eff (w_len_nil TT_ok rfl rfl rfl) rfl rfl rfl ?_
                | refine aops_eff (eff_extract rfl rfl (by intro _ h; cases h)) rfl rfl rfl ?_
                | refine aops_eff (w_lit TT_ok rfl rfl rfl rfl rfl rfl rfl rfl rfl rfl rfl) rfl rfl rfl ?_
                | refine aops_eff (w_build TT_ok rfl rfl rfl rfl rfl rfl) rfl rfl rfl ?_)
              refine ret_mk rfl rfl rfl ?_
              refine fz_bl ?_
              cases a; cases b; simp_all [Cl.mk.injEq]
            · repeat (first
                | refine aops_nil ?_
                | refine ac_seq ?_
                | refine ac_region ?_
                | refine then_n ?_
                | refine then_ret ?_
                | refine then_exit ?_
                | refine block_n ?_
                | refine block_ret ?_
                | refine block_here ?_
                | refine block_out rfl ?_
                | refine ac_region_draw MIX ?_
                | refine ac_block ?_
                | refine ac_skip ?_
                | refine ac_exit ?_
                | refine ac_ret ?_
                | refine aops_eff (eff_move rfl) rfl rfl rfl ?_
                | refine aops_eff (w_load_ptr TT_ok rfl rfl rfl rfl rfl rfl rfl) rfl rfl rfl ?_
                | refine aops_eff (w_field_ptr TT_ok rfl rfl rfl rfl rfl rfl rfl) rfl rfl rfl ?_
                | refine aops_eff (eff_assign rfl) rfl rfl rfl ?_
                | refine aops_eff (w_len_list TT_ok rfl rfl rfl) rfl rfl rfl ?_
                | refine aops_eff (w_load_ref TT_ok rfl rfl rfl rfl rfl rfl) rfl rfl rfl ?_
                | refine aops_eff (w_cmp rfl rfl rfl) rfl rfl rfl ?_
                | refine aops_eff (eff_indexAddr_list TT_ok rfl rfl rfl rfl rfl rfl (encI_at (by omega))) rfl rfl rfl ?_
                | refine aops_eff (eff_indexAddr_list TT_ok rfl rfl rfl rfl rfl rfl (map_at (at_lt (by omega)))) rfl rfl rfl ?_
                | refine aops_eff (w_add rfl rfl (by omega)) rfl rfl rfl ?_
                | refine aops_skip rfl rfl ?_
                | refine aops_eff (eff_pick rfl rfl) rfl rfl rfl ?_
                | refine aops_eff (w_field_ref TT_ok rfl rfl rfl rfl rfl rfl) rfl rfl rfl ?_
                | refine aops_eff (w_not rfl) rfl rfl rfl ?_
                | refine aops_eff (w_box rfl rfl rfl rfl) rfl rfl rfl ?_
                | refine aops_eff (w_alloc TT_ok rfl rfl) rfl rfl rfl ?_
                | refine aops_eff (w_store TT_ok rfl rfl rfl rfl rfl rfl rfl rfl) rfl rfl rfl ?_
                | refine aops_eff (w_len_own TT_ok rfl rfl rfl rfl) rfl rfl rfl ?_
                | refine aops_eff (w_len_nil TT_ok rfl rfl rfl) rfl rfl rfl ?_
                | refine aops_eff (eff_extract rfl rfl (by intro _ h; cases h)) rfl rfl rfl ?_
                | refine aops_eff (w_lit TT_ok rfl rfl rfl rfl rfl rfl rfl rfl rfl rfl rfl) rfl rfl rfl ?_
                | refine aops_eff (w_build TT_ok rfl rfl rfl rfl rfl rfl) rfl rfl rfl ?_)
              refine aops_eff (w_call0s (h_slEqual a.theta b.theta) rfl (va_cons (va_same rfl) (va_cons (va_same rfl) va_nil))) rfl rfl rfl ?_
              repeat (first
                | refine aops_nil ?_
                | refine ac_seq ?_
                | refine ac_region ?_
                | refine then_n ?_
                | refine then_ret ?_
                | refine then_exit ?_
                | refine block_n ?_
                | refine block_ret ?_
                | refine block_here ?_
                | refine block_out rfl ?_
                | refine ac_region_draw MIX ?_
                | refine ac_block ?_
                | refine ac_skip ?_
                | refine ac_exit ?_
                | refine ac_ret ?_
                | refine aops_eff (eff_move rfl) rfl rfl rfl ?_
                | refine aops_eff (w_load_ptr TT_ok rfl rfl rfl rfl rfl rfl rfl) rfl rfl rfl ?_
                | refine aops_eff (w_field_ptr TT_ok rfl rfl rfl rfl rfl rfl rfl) rfl rfl rfl ?_
                | refine aops_eff (eff_assign rfl) rfl rfl rfl ?_
                | refine aops_eff (w_len_list TT_ok rfl rfl rfl) rfl rfl rfl ?_
                | refine aops_eff (w_load_ref TT_ok rfl rfl rfl rfl rfl rfl) rfl rfl rfl ?_
                | refine aops_eff (w_cmp rfl rfl rfl) rfl rfl rfl ?_
                | refine aops_eff (eff_indexAddr_list TT_ok rfl rfl rfl rfl rfl rfl (encI_at (by omega))) rfl rfl rfl ?_
                | refine aops_eff (eff_indexAddr_list TT_ok rfl rfl rfl rfl rfl rfl (map_at (at_lt (by omega)))) rfl rfl rfl ?_
                | refine aops_eff (w_add rfl rfl (by omega)) rfl rfl rfl ?_
                | refine aops_skip rfl rfl ?_
                | refine aops_eff (eff_pick rfl rfl) rfl rfl rfl ?_
                | refine aops_eff (w_field_ref TT_ok rfl rfl rfl rfl rfl rfl) rfl rfl rfl ?_
                | refine aops_eff (w_not rfl) rfl rfl rfl ?_
                | refine aops_eff (w_box rfl rfl rfl rfl) rfl rfl rfl ?_
                | refine aops_eff (w_alloc TT_ok rfl rfl) rfl rfl rfl ?_
                | refine aops_eff (w_store TT_ok rfl rfl rfl rfl rfl rfl rfl rfl) rfl rfl rfl ?_
                | refine aops_eff (w_len_own TT_ok rfl rfl rfl rfl) rfl rfl rfl ?_
                | refine aops_eff (w_len_nil TT_ok rfl rfl rfl) rfl rfl rfl ?_
                | refine aops_eff (eff_extract rfl rfl (by intro _ h; cases h)) rfl rfl rfl ?_
                | refine aops_eff (w_lit TT_ok rfl rfl rfl rfl rfl rfl rfl rfl rfl rfl rfl) rfl rfl rfl ?_
                | refine aops_eff (w_build TT_ok rfl rfl rfl rfl rfl rfl) rfl rfl rfl ?_)
              cases h6 : decide (a.theta = b.theta)
              · repeat (first
                  | refine aops_nil ?_
                  | refine ac_seq ?_
                  | refine ac_region ?_
                  | refine then_n ?_
                  | refine then_ret ?_
                  | refine then_exit ?_
                  | refine block_n ?_
                  | refine block_ret ?_
                  | refine block_here ?_
                  | refine block_out rfl ?_
                  | refine ac_region_draw MIX ?_
                  | refine ac_block ?_
                  | refine ac_skip ?_
                  | refine ac_exit ?_
                  | refine ac_ret ?_
                  | refine aops_eff (eff_move rfl) rfl rfl rfl ?_
                  | refine aops_eff (w_load_ptr TT_ok rfl rfl rfl rfl rfl rfl rfl) rfl rfl rfl ?_
                  | refine aops_eff (w_field_ptr TT_ok rfl rfl rfl rfl rfl rfl rfl) rfl rfl rfl ?_
                  | refine aops_eff (eff_assign rfl) rfl rfl rfl ?_
                  | refine aops_eff (w_len_list TT_ok rfl rfl rfl) rfl rfl rfl ?_
                  | refine aops_eff (w_load_ref TT_ok rfl rfl rfl rfl rfl rfl) rfl rfl rfl ?_
                  | refine aops_eff (w_cmp rfl rfl rfl) rfl rfl rfl ?_
                  | refine aops_eff (eff_indexAddr_list TT_ok rfl rfl rfl rfl rfl rfl (encI_at (by omega))) rfl rfl rfl ?_
                  | refine aops_eff (eff_indexAddr_list TT_ok rfl rfl rfl rfl rfl rfl (map_at (at_lt (by omega)))) rfl rfl rfl ?_
                  | refine aops_eff (w_add rfl rfl (by omega)) rfl rfl rfl ?_
                  | refine aops_skip rfl rfl ?_
                  | refine aops_eff (eff_pick rfl rfl) rfl rfl rfl ?_
                  | refine aops_eff (w_field_ref TT_ok rfl rfl rfl rfl rfl rfl) rfl rfl rfl ?_
                  | refine aops_eff (w_not rfl) rfl rfl rfl ?_
                  | refine aops_eff (w_box rfl rfl rfl rfl) rfl rfl rfl ?_
                  | refine aops_eff (w_alloc TT_ok rfl rfl) rfl rfl rfl ?_
                  | refine aops_eff (w_store TT_ok rfl rfl rfl rfl rfl rfl rfl rfl) rfl rfl rfl ?_
                  | refine aops_eff (w_len_own TT_ok rfl rfl rfl rfl) rfl rfl rfl ?_
                  | refine aops_eff (w_len_nil TT_ok rfl rfl rfl) rfl rfl rfl ?_
                  | refine aops_eff (eff_extract rfl rfl (by intro _ h; cases h)) rfl rfl rfl ?_
                  | refine aops_eff (w_lit TT_ok rfl rfl rfl rfl rfl rfl rfl rfl rfl rfl rfl) rfl rfl rfl ?_
                  | refine aops_eff (w_build TT_ok rfl rfl rfl rfl rfl rfl) rfl rfl rfl ?_)
                refine ret_mk rfl rfl rfl ?_
                refine fz_bl ?_
                cases a; cases b; simp_all [Cl.mk.injEq]
              · repeat (first
                  | refine aops_nil ?_
                  | refine ac_seq ?_
                  | refine ac_region ?_
                  | refine then_n ?_
                  | refine then_ret ?_
                  | refine then_exit ?_
                  | refine block_n ?_
                  | refine block_ret ?_
                  | refine block_here ?_
                  | refine block_out rfl ?_
                  | refine ac_region_draw MIX ?_
                  | refine ac_block ?_
                  | refine ac_skip ?_
                  | refine ac_exit ?_
                  | refine ac_ret ?_
                  | refine aops_eff (eff_move rfl) rfl rfl rfl ?_
                  | refine aops_eff (w_load_ptr TT_ok rfl rfl rfl rfl rfl rfl rfl) rfl rfl rfl ?_
                  | refine aops_eff (w_field_ptr TT_ok rfl rfl rfl rfl rfl rfl rfl) rfl rfl rfl ?_
                  | refine aops_eff (eff_assign rfl) rfl rfl rfl ?_
                  | refine aops_eff (w_len_list TT_ok rfl rfl rfl) rfl rfl rfl ?_
                  | refine aops_eff (w_load_ref TT_ok rfl rfl rfl rfl rfl rfl) rfl rfl rfl ?_
                  | refine aops_eff (w_cmp rfl rfl rfl) rfl rfl rfl ?_
                  | refine aops_eff (eff_indexAddr_list TT_ok rfl rfl rfl rfl rfl rfl (encI_at (by omega))) rfl rfl rfl ?_
                  | refine aops_eff (eff_indexAddr_list TT_ok rfl rfl rfl rfl rfl rfl (map_at (at_lt (by omega)))) rfl rfl rfl ?_
                  | refine aops_eff (w_add rfl rfl (by omega)) rfl rfl rfl ?_
                  | refine aops_skip rfl rfl ?_
                  | refine aops_eff (eff_pick rfl rfl) rfl rfl rfl ?_
                  | refine aops_eff (w_field_ref TT_ok rfl rfl rfl rfl rfl rfl) rfl rfl rfl ?_
                  | refine aops_eff (w_not rfl) rfl rfl rfl ?_
                  | refine aops_eff (w_box rfl rfl rfl rfl) rfl rfl rfl ?_
                  | refine aops_eff (w_alloc TT_ok rfl rfl) rfl rfl rfl ?_
                  | refine aops_eff (w_store TT_ok rfl rfl rfl rfl rfl rfl rfl rfl) rfl rfl rfl ?_
                  | refine aops_eff (w_len_own TT_ok rfl rfl rfl rfl) rfl rfl rfl ?_
                  | refine aops_eff (w_len_nil TT_ok rfl rfl rfl) rfl rfl rfl ?_
                  | refine aops_eff (eff_extract rfl rfl (by intro _ h; cases h)) rfl rfl rfl ?_
                  | refine aops_eff (w_lit TT_ok rfl rfl rfl rfl rfl rfl rfl rfl rfl rfl rfl) rfl rfl rfl ?_
                  | refine aops_eff (w_build TT_ok rfl rfl rfl rfl rfl rfl) rfl rfl rfl ?_)
                refine aops_eff (w_call0s (h_i_subs a.subs b.subs) rfl (va_cons (va_same rfl) (va_cons (va_same rfl) va_nil))) rfl rfl rfl ?_
                repeat (first
                  | refine aops_nil ?_
                  | refine ac_seq ?_
                  | refine ac_region ?_
                  | refine then_n ?_
                  | refine then_ret ?_
                  | refine then_exit ?_
                  | refine block_n ?_
                  | refine block_ret ?_
                  | refine block_here ?_
                  | refine block_out rfl ?_
                  | refine ac_region_draw MIX ?_
                  | refine ac_block ?_
                  | refine ac_skip ?_
                  | refine ac_exit ?_
                  | refine ac_ret ?_
                  | refine aops_eff (eff_move rfl) rfl rfl rfl ?_
                  | refine aops_eff (w_load_ptr TT_ok rfl rfl rfl rfl rfl rfl rfl) rfl rfl rfl ?_
                  | refine aops_eff (w_field_ptr TT_ok rfl rfl rfl rfl rfl rfl rfl) rfl rfl rfl ?_
                  | refine aops_eff (eff_assign rfl) rfl rfl rfl ?_
                  | refine aops_eff (w_len_list TT_ok rfl rfl rfl) rfl rfl rfl ?_
                  | refine aops_eff (w_load_ref TT_ok rfl rfl rfl rfl rfl rfl) rfl rfl rfl ?_
                  | refine aops_eff (w_cmp rfl rfl rfl) rfl rfl rfl ?_
                  | refine aops_eff (eff_indexAddr_list TT_ok rfl rfl rfl rfl rfl rfl (encI_at (by omega))) rfl rfl rfl ?_
                  | refine aops_eff (eff_indexAddr_list TT_ok rfl rfl rfl rfl rfl rfl (map_at (at_lt (by omega)))) rfl rfl rfl ?_
                  | refine aops_eff (w_add rfl rfl (by omega)) rfl rfl rfl ?_
                  | refine aops_skip rfl rfl ?_
                  | refine aops_eff (eff_pick rfl rfl) rfl rfl rfl ?_
                  | refine aops_eff (w_field_ref TT_ok rfl rfl rfl rfl rfl rfl) rfl rfl rfl ?_
                  | refine aops_eff (w_not rfl) rfl rfl rfl ?_
                  | refine aops_eff (w_box rfl rfl rfl rfl) rfl rfl rfl ?_
                  | refine aops_eff (w_alloc TT_ok rfl rfl) rfl rfl rfl ?_
                  | refine aops_eff (w_store TT_ok rfl rfl rfl rfl rfl rfl rfl rfl) rfl rfl rfl ?_
                  | refine aops_eff (w_len_own TT_ok rfl rfl rfl rfl) rfl rfl rfl ?_
                  | refine aops_eff (w_len_nil TT_ok rfl rfl rfl) rfl rfl rfl ?_
                  | refine aops_eff (eff_extract rfl rfl (by intro _ h; cases h)) rfl rfl rfl ?_
                  | refine aops_eff (w_lit TT_ok rfl rfl rfl rfl rfl rfl rfl rfl rfl rfl rfl) rfl rfl rfl ?_
                  | refine aops_eff (w_build TT_ok rfl rfl rfl rfl rfl rfl) rfl rfl rfl ?_)
                refine ret_mk rfl rfl rfl ?_
                refine fz_bl ?_
                cases a; cases b; simp_all [Cl.mk.injEq]

theorem h_s_claim (a b : Cl) : HasC Try.prog 24 [.agg (eC a), .agg (eC b)] (.bl (decide (a = b))) := by
  refine hasC_mk TT_ok (ns := [0,1,2,3,4,5,6,7]) Try.func24 rfl rfl Try.ntmps24 rfl rfl rfl ?_
  repeat (first
    | refine aops_nil ?_
    | refine ac_seq ?_
    | refine ac_region ?_
    | refine then_n ?_
    | refine then_ret ?_
    | refine then_exit ?_
    | refine block_n ?_
    | refine block_ret ?_
    | refine block_here ?_
    | refine block_out rfl ?_
    | refine ac_region_draw MIX ?_
    | refine ac_block ?_
    | refine ac_skip ?_
    | refine ac_exit ?_
    | refine ac_ret ?_
    | refine aops_eff (eff_move rfl) rfl rfl rfl ?_
    | refine aops_eff (w_load_ptr TT_ok rfl rfl rfl rfl rfl rfl rfl) rfl rfl rfl ?_
    | refine aops_eff (w_field_ptr TT_ok rfl rfl rfl rfl rfl rfl rfl) rfl rfl rfl ?_
    | refine aops_eff (eff_assign rfl) rfl rfl rfl ?_
    | refine aops_eff (w_len_list TT_ok rfl rfl rfl) rfl rfl rfl ?_
    | refine aops_eff (w_load_ref TT_ok rfl rfl rfl rfl rfl rfl) rfl rfl rfl ?_
    | refine aops_eff (w_cmp rfl rfl rfl) rfl rfl rfl ?_
    | refine aops_eff (eff_indexAddr_list TT_ok rfl rfl rfl rfl rfl rfl (encI_at (by omega))) rfl rfl rfl ?_
    | refine aops_eff (eff_indexAddr_list TT_ok rfl rfl rfl rfl rfl rfl (map_at (at_lt (by omega)))) rfl rfl rfl ?_
    | refine aops_eff (w_add rfl rfl (by omega)) rfl rfl rfl ?_
    | refine aops_skip rfl rfl ?_
    | refine aops_eff (eff_pick rfl rfl) rfl rfl rfl ?_
    | refine aops_eff (w_field_ref TT_ok rfl rfl rfl rfl rfl rfl) rfl rfl rfl ?_
    | refine aops_eff (w_not rfl) rfl rfl rfl ?_
    | refine aops_eff (w_box rfl rfl rfl rfl) rfl rfl rfl ?_
    | refine aops_eff (w_alloc TT_ok rfl rfl) rfl rfl rfl ?_
    | refine aops_eff (w_store TT_ok rfl rfl rfl rfl rfl rfl rfl rfl) rfl rfl rfl ?_
    | refine aops_eff (w_len_own TT_ok rfl rfl rfl rfl) rfl rfl rfl ?_
    | refine aops_eff (w_len_nil TT_ok rfl rfl rfl) rfl rfl rfl ?_
    | refine aops_eff (eff_extract rfl rfl (by intro _ h; cases h)) rfl rfl rfl ?_
    | refine aops_eff (w_lit TT_ok rfl rfl rfl rfl rfl rfl rfl rfl rfl rfl rfl) rfl rfl rfl ?_
    | refine aops_eff (w_build TT_ok rfl rfl rfl rfl rfl rfl) rfl rfl rfl ?_)
  cases h0 : decide (a.kind = b.kind)
  · repeat (first
      | refine aops_nil ?_
      | refine ac_seq ?_
      | refine ac_region ?_
      | refine then_n ?_
      | refine then_ret ?_
      | refine then_exit ?_
      | refine block_n ?_
      | refine block_ret ?_
      | refine block_here ?_
      | refine block_out rfl ?_
      | refine ac_region_draw MIX ?_
      | refine ac_block ?_
      | refine ac_skip ?_
      | refine ac_exit ?_
      | refine ac_ret ?_
      | refine aops_eff (eff_move rfl) rfl rfl rfl ?_
      | refine aops_eff (w_load_ptr TT_ok rfl rfl rfl rfl rfl rfl rfl) rfl rfl rfl ?_
      | refine aops_eff (w_field_ptr TT_ok rfl rfl rfl rfl rfl rfl rfl) rfl rfl rfl ?_
      | refine aops_eff (eff_assign rfl) rfl rfl rfl ?_
      | refine aops_eff (w_len_list TT_ok rfl rfl rfl) rfl rfl rfl ?_
      | refine aops_eff (w_load_ref TT_ok rfl rfl rfl rfl rfl rfl) rfl rfl rfl ?_
      | refine aops_eff (w_cmp rfl rfl rfl) rfl rfl rfl ?_
      | refine aops_eff (eff_indexAddr_list TT_ok rfl rfl rfl rfl rfl rfl (encI_at (by omega))) rfl rfl rfl ?_
      | refine aops_eff (eff_indexAddr_list TT_ok rfl rfl rfl rfl rfl rfl (map_at (at_lt (by omega)))) rfl rfl rfl ?_
      | refine aops_eff (w_add rfl rfl (by omega)) rfl rfl rfl ?_
      | refine aops_skip rfl rfl ?_
      | refine aops_eff (eff_pick rfl rfl) rfl rfl rfl ?_
      | refine aops_eff (w_field_ref TT_ok rfl rfl rfl rfl rfl rfl) rfl rfl rfl ?_
      | refine aops_eff (w_not rfl) rfl rfl rfl ?_
      | refine aops_eff (w_box rfl rfl rfl rfl) rfl rfl rfl ?_
      | refine aops_eff (w_alloc TT_ok rfl rfl) rfl rfl rfl ?_
      | refine aops_eff (w_store TT_ok rfl rfl rfl rfl rfl rfl rfl rfl) rfl rfl rfl ?_
      | refine aops_eff (w_len_own TT_ok rfl rfl rfl rfl) rfl rfl rfl ?_
      | refine aops_eff (w_len_nil TT_ok rfl rfl rfl) rfl rfl rfl ?_
      | refine aops_eff (eff_extract rfl rfl (by intro _ h; cases h)) rfl rfl rfl ?_
      | refine aops_eff (w_lit TT_ok rfl rfl rfl rfl rfl rfl rfl rfl rfl rfl rfl) rfl rfl rfl ?_
      | refine aops_eff (w_build TT_ok rfl rfl rfl rfl rfl rfl) rfl rfl rfl ?_)
    refine ret_mk rfl rfl rfl ?_
    refine fz_bl ?_
    cases a; cases b; simp_all [Cl.mk.injEq]
  · repeat (first
      | refine aops_nil ?_
      | refine ac_seq ?_
      | refine ac_region ?_
      | refine then_n ?_
      | refine then_ret ?_
      | refine then_exit ?_
      | refine block_n ?_
      | refine block_ret ?_
      | refine block_here ?_
      | refine block_out rfl ?_
      | refine ac_region_draw MIX ?_
      | refine ac_block ?_
      | refine ac_skip ?_
      | refine ac_exit ?_
      | refine ac_ret ?_
      | refine aops_eff (eff_move rfl) rfl rfl rfl ?_
      | refine aops_eff (w_load_ptr TT_ok rfl rfl rfl rfl rfl rfl rfl) rfl rfl rfl ?_
      | refine aops_eff (w_field_ptr TT_ok rfl rfl rfl rfl rfl rfl rfl) rfl rfl rfl ?_
      | refine aops_eff (eff_assign rfl) rfl rfl rfl ?_
      | refine aops_eff (w_len_list TT_ok rfl rfl rfl) rfl rfl rfl ?_
      | refine aops_eff (w_load_ref TT_ok rfl rfl rfl rfl rfl rfl) rfl rfl rfl ?_
      | refine aops_eff (w_cmp rfl rfl rfl) rfl rfl rfl ?_
      | refine aops_eff (eff_indexAddr_list TT_ok rfl rfl rfl rfl rfl rfl (encI_at (by omega))) rfl rfl rfl ?_
      | refine aops_eff (eff_indexAddr_list TT_ok rfl rfl rfl rfl rfl rfl (map_at (at_lt (by omega)))) rfl rfl rfl ?_
      | refine aops_eff (w_add rfl rfl (by omega)) rfl rfl rfl ?_
      | refine aops_skip rfl rfl ?_
      | refine aops_eff (eff_pick rfl rfl) rfl rfl rfl ?_
      | refine aops_eff (w_field_ref TT_ok rfl rfl rfl rfl rfl rfl) rfl rfl rfl ?_
      | refine aops_eff (w_not rfl) rfl rfl rfl ?_
      | refine aops_eff (w_box rfl rfl rfl rfl) rfl rfl rfl ?_
      | refine aops_eff (w_alloc TT_ok rfl rfl) rfl rfl rfl ?_
      | refine aops_eff (w_store TT_ok rfl rfl rfl rfl rfl rfl rfl rfl) rfl rfl rfl ?_
      | refine aops_eff (w_len_own TT_ok rfl rfl rfl rfl) rfl rfl rfl ?_
      | refine aops_eff (w_len_nil TT_ok rfl rfl rfl) rfl rfl rfl ?_
      | refine aops_eff (eff_extract rfl rfl (by intro _ h; cases h)) rfl rfl rfl ?_
      | refine aops_eff (w_lit TT_ok rfl rfl rfl rfl rfl rfl rfl rfl rfl rfl rfl) rfl rfl rfl ?_
      | refine aops_eff (w_build TT_ok rfl rfl rfl rfl rfl rfl) rfl rfl rfl ?_)
    refine aops_eff (w_call0s (h_s_rep a.rep b.rep) rfl (va_cons (va_agg rfl) (va_cons (va_agg rfl) va_nil))) rfl rfl rfl ?_
    repeat (first
      | refine aops_nil ?_
      | refine ac_seq ?_
      | refine ac_region ?_
      | refine then_n ?_
      | refine then_ret ?_
      | refine then_exit ?_
      | refine block_n ?_
      | refine block_ret ?_
      | refine block_here ?_
      | refine block_out rfl ?_
      | refine ac_region_draw MIX ?_
      | refine ac_block ?_
      | refine ac_skip ?_
      | refine ac_exit ?_
      | refine ac_ret ?_
      | refine aops_eff (eff_move rfl) rfl rfl rfl ?_
      | refine aops_eff (w_load_ptr TT_ok rfl rfl rfl rfl rfl rfl rfl) rfl rfl rfl ?_
      | refine aops_eff (w_field_ptr TT_ok rfl rfl rfl rfl rfl rfl rfl) rfl rfl rfl ?_
      | refine aops_eff (eff_assign rfl) rfl rfl rfl ?_
      | refine aops_eff (w_len_list TT_ok rfl rfl rfl) rfl rfl rfl ?_
      | refine aops_eff (w_load_ref TT_ok rfl rfl rfl rfl rfl rfl) rfl rfl rfl ?_
      | refine aops_eff (w_cmp rfl rfl rfl) rfl rfl rfl ?_
      | refine aops_eff (eff_indexAddr_list TT_ok rfl rfl rfl rfl rfl rfl (encI_at (by omega))) rfl rfl rfl ?_
      | refine aops_eff (eff_indexAddr_list TT_ok rfl rfl rfl rfl rfl rfl (map_at (at_lt (by omega)))) rfl rfl rfl ?_
      | refine aops_eff (w_add rfl rfl (by omega)) rfl rfl rfl ?_
      | refine aops_skip rfl rfl ?_
      | refine aops_eff (eff_pick rfl rfl) rfl rfl rfl ?_
      | refine aops_eff (w_field_ref TT_ok rfl rfl rfl rfl rfl rfl) rfl rfl rfl ?_
      | refine aops_eff (w_not rfl) rfl rfl rfl ?_
      | refine aops_eff (w_box rfl rfl rfl rfl) rfl rfl rfl ?_
      | refine aops_eff (w_alloc TT_ok rfl rfl) rfl rfl rfl ?_
      | refine aops_eff (w_store TT_ok rfl rfl rfl rfl rfl rfl rfl rfl) rfl rfl rfl ?_
      | refine aops_eff (w_len_own TT_ok rfl rfl rfl rfl) rfl rfl rfl ?_
      | refine aops_eff (w_len_nil TT_ok rfl rfl rfl) rfl rfl rfl ?_
      | refine aops_eff (eff_extract rfl rfl (by intro _ h; cases h)) rfl rfl rfl ?_
      | refine aops_eff (w_lit TT_ok rfl rfl rfl rfl rfl rfl rfl rfl rfl rfl rfl) rfl rfl rfl ?_
      | refine aops_eff (w_build TT_ok rfl rfl rfl rfl rfl rfl) rfl rfl rfl ?_)
    cases h1 : decide (a.rep = b.rep)
    · repeat (first
        | refine aops_nil ?_
        | refine ac_seq ?_
        | refine ac_region ?_
        | refine then_n ?_
        | refine then_ret ?_
        | refine then_exit ?_
        | refine block_n ?_
        | refine block_ret ?_
        | refine block_here ?_
        | refine block_out rfl ?_
        | refine ac_region_draw MIX ?_
        | refine ac_block ?_
        | refine ac_skip ?_
        | refine ac_exit ?_
        | refine ac_ret ?_
        | refine aops_eff (eff_move rfl) rfl rfl rfl ?_
        | refine aops_eff (w_load_ptr TT_ok rfl rfl rfl rfl rfl rfl rfl) rfl rfl rfl ?_
        | refine aops_eff (w_field_ptr TT_ok rfl rfl rfl rfl rfl rfl rfl) rfl rfl rfl ?_
        | refine aops_eff (eff_assign rfl) rfl rfl rfl ?_
        | refine aops_eff (w_len_list TT_ok rfl rfl rfl) rfl rfl rfl ?_
        | refine aops_eff (w_load_ref TT_ok rfl rfl rfl rfl rfl rfl) rfl rfl rfl ?_
        | refine aops_eff (w_cmp rfl rfl rfl) rfl rfl rfl ?_
        | refine aops_eff (eff_indexAddr_list TT_ok rfl rfl rfl rfl rfl rfl (encI_at (by omega))) rfl rfl rfl ?_
        | refine aops_eff (eff_indexAddr_list TT_ok rfl rfl rfl rfl rfl rfl (map_at (at_lt (by omega)))) rfl rfl rfl ?_
        | refine aops_eff (w_add rfl rfl (by omega)) rfl rfl rfl ?_
        | refine aops_skip rfl rfl ?_
        | refine aops_eff (eff_pick rfl rfl) rfl rfl rfl ?_
        | refine aops_eff (w_field_ref TT_ok rfl rfl rfl rfl rfl rfl) rfl rfl rfl ?_
        | refine aops_eff (w_not rfl) rfl rfl rfl ?_
        | refine aops_eff (w_box rfl rfl rfl rfl) rfl rfl rfl ?_
        | refine aops_eff (w_alloc TT_ok rfl rfl) rfl rfl rfl ?_
        | refine aops_eff (w_store TT_ok rfl rfl rfl rfl rfl rfl rfl rfl) rfl rfl rfl ?_
        | refine aops_eff (w_len_own TT_ok rfl rfl rfl rfl) rfl rfl rfl ?_
        | refine aops_eff (w_len_nil TT_ok rfl rfl rfl) rfl rfl rfl ?_
        | refine aops_eff (eff_extract rfl rfl (by intro _ h; cases h)) rfl rfl rfl ?_
        | refine aops_eff (w_lit TT_ok rfl rfl rfl rfl rfl rfl rfl rfl rfl rfl rfl) rfl rfl rfl ?_
        | refine aops_eff (w_build TT_ok rfl rfl rfl rfl rfl rfl) rfl rfl rfl ?_)
      refine ret_mk rfl rfl rfl ?_
      refine fz_bl ?_
      cases a; cases b; simp_all [Cl.mk.injEq]
    · repeat (first
        | refine aops_nil ?_
        | refine ac_seq ?_
        | refine ac_region ?_
        | refine then_n ?_
        | refine then_ret ?_
        | refine then_exit ?_
        | refine block_n ?_
        | refine block_ret ?_
        | refine block_here ?_
        | refine block_out rfl ?_
        | refine ac_region_draw MIX ?_
        | refine ac_block ?_
        | refine ac_skip ?_
        | refine ac_exit ?_
        | refine ac_ret ?_
        | refine aops_eff (eff_move rfl) rfl rfl rfl ?_
        | refine aops_eff (w_load_ptr TT_ok rfl rfl rfl rfl rfl rfl rfl) rfl rfl rfl ?_
        | refine aops_eff (w_field_ptr TT_ok rfl rfl rfl rfl rfl rfl rfl) rfl rfl rfl ?_
        | refine aops_eff (eff_assign rfl) rfl rfl rfl ?_
        | refine aops_eff (w_len_list TT_ok rfl rfl rfl) rfl rfl rfl ?_
        | refine aops_eff (w_load_ref TT_ok rfl rfl rfl rfl rfl rfl) rfl rfl rfl ?_
        | refine aops_eff (w_cmp rfl rfl rfl) rfl rfl rfl ?_
        | refine aops_eff (eff_indexAddr_list TT_ok rfl rfl rfl rfl rfl rfl (encI_at (by omega))) rfl rfl rfl ?_
        | refine aops_eff (eff_indexAddr_list TT_ok rfl rfl rfl rfl rfl rfl (map_at (at_lt (by omega)))) rfl rfl rfl ?_
        | refine aops_eff (w_add rfl rfl (by omega)) rfl rfl rfl ?_
        | refine aops_skip rfl rfl ?_
        | refine aops_eff (eff_pick rfl rfl) rfl rfl rfl ?_
        | refine aops_eff (w_field_ref TT_ok rfl rfl rfl rfl rfl rfl) rfl rfl rfl ?_
        | refine aops_eff (w_not rfl) rfl rfl rfl ?_
        | refine aops_eff (w_box rfl rfl rfl rfl) rfl rfl rfl ?_
        | refine aops_eff (w_alloc TT_ok rfl rfl) rfl rfl rfl ?_
        | refine aops_eff (w_store TT_ok rfl rfl rfl rfl rfl rfl rfl rfl) rfl rfl rfl ?_
        | refine aops_eff (w_len_own TT_ok rfl rfl rfl rfl) rfl rfl rfl ?_
        | refine aops_eff (w_len_nil TT_ok rfl rfl rfl) rfl rfl rfl ?_
        | refine aops_eff (eff_extract rfl rfl (by intro _ h; cases h)) rfl rfl rfl ?_
        | refine aops_eff (w_lit TT_ok rfl rfl rfl rfl rfl rfl rfl rfl rfl rfl rfl) rfl rfl rfl ?_
        | refine aops_eff (w_build TT_ok rfl rfl rfl rfl rfl rfl) rfl rfl rfl ?_)
      refine aops_eff (w_call0s (h_s_rep a.other b.other) rfl (va_cons (va_agg rfl) (va_cons (va_agg rfl) va_nil))) rfl rfl rfl ?_
      repeat (first
        | refine aops_nil ?_
        | refine ac_seq ?_
        | refine ac_region ?_
        | refine then_n ?_
        | refine then_ret ?_
        | refine then_exit ?_
        | refine block_n ?_
        | refine block_ret ?_
        | refine block_here ?_
        | refine block_out rfl ?_
        | refine ac_region_draw MIX ?_
        | refine ac_block ?_
        | refine ac_skip ?_
        | refine ac_exit ?_
        | refine ac_ret ?_
        | refine aops_eff (eff_move rfl) rfl rfl rfl ?_
        | refine aops_eff (w_load_ptr TT_ok rfl rfl rfl rfl rfl rfl rfl) rfl rfl rfl ?_
        | refine aops_eff (w_field_ptr TT_ok rfl rfl rfl rfl rfl rfl rfl) rfl rfl rfl ?_
        | refine aops_eff (eff_assign rfl) rfl rfl rfl ?_
        | refine aops_eff (w_len_list TT_ok rfl rfl rfl) rfl rfl rfl ?_
        | refine aops_eff (w_load_ref TT_ok rfl rfl rfl rfl rfl rfl) rfl rfl rfl ?_
        | refine aops_eff (w_cmp rfl rfl rfl) rfl rfl rfl ?_
        | refine aops_eff (eff_indexAddr_list TT_ok rfl rfl rfl rfl rfl rfl (encI_at (by omega))) rfl rfl rfl ?_
        | refine aops_eff (eff_indexAddr_list TT_ok rfl rfl rfl rfl rfl rfl (map_at (at_lt (by omega)))) rfl rfl rfl ?_
        | refine aops_eff (w_add rfl rfl (by omega)) rfl rfl rfl ?_
        | refine aops_skip rfl rfl ?_
        | refine aops_eff (eff_pick rfl rfl) rfl rfl rfl ?_
        | refine aops_eff (w_field_ref TT_ok rfl rfl rfl rfl rfl rfl) rfl rfl rfl ?_
        | refine aops_eff (w_not rfl) rfl rfl rfl ?_
        | refine aops_eff (w_box rfl rfl rfl rfl) rfl rfl rfl ?_
        | refine aops_eff (w_alloc TT_ok rfl rfl) rfl rfl rfl ?_
        | refine aops_eff (w_store TT_ok rfl rfl rfl rfl rfl rfl rfl rfl) rfl rfl rfl ?_
        | refine aops_eff (w_len_own TT_ok rfl rfl rfl rfl) rfl rfl rfl ?_
        | refine aops_eff (w_len_nil TT_ok rfl rfl rfl) rfl rfl rfl ?_
        | refine aops_eff (eff_extract rfl rfl (by intro _ h; cases h)) rfl rfl rfl ?_
        | refine aops_eff (w_lit TT_ok rfl rfl rfl rfl rfl rfl rfl rfl rfl rfl rfl) rfl rfl rfl ?_
        | refine aops_eff (w_build TT_ok rfl rfl rfl rfl rfl rfl) rfl rfl rfl ?_)
      cases h2 : decide (a.other = b.other)
      · repeat (first
          | refine aops_nil ?_
          | refine ac_seq ?_
          | refine ac_region ?_
          | refine then_n ?_
          | refine then_ret ?_
          | refine then_exit ?_
          | refine block_n ?_
          | refine block_ret ?_
          | refine block_here ?_
          | refine block_out rfl ?_
          | refine ac_region_draw MIX ?_
          | refine ac_block ?_
          | refine ac_skip ?_
          | refine ac_exit ?_
          | refine ac_ret ?_
          | refine aops_eff (eff_move rfl) rfl rfl rfl ?_
          | refine aops_eff (w_load_ptr TT_ok rfl rfl rfl rfl rfl rfl rfl) rfl rfl rfl ?_
          | refine aops_eff (w_field_ptr TT_ok rfl rfl rfl rfl rfl rfl rfl) rfl rfl rfl ?_
          | refine aops_eff (eff_assign rfl) rfl rfl rfl ?_
          | refine aops_eff (w_len_list TT_ok rfl rfl rfl) rfl rfl rfl ?_
          | refine aops_eff (w_load_ref TT_ok rfl rfl rfl rfl rfl rfl) rfl rfl rfl ?_
          | refine aops_eff (w_cmp rfl rfl rfl) rfl rfl rfl ?_
          | refine aops_eff (eff_indexAddr_list TT_ok rfl rfl rfl rfl rfl rfl (encI_at (by omega))) rfl rfl rfl ?_
          | refine aops_eff (eff_indexAddr_list TT_ok rfl rfl rfl rfl rfl rfl (map_at (at_lt (by omega)))) rfl rfl rfl ?_
          | refine aops_eff (w_add rfl rfl (by omega)) rfl rfl rfl ?_
          | refine aops_skip rfl rfl ?_
          | refine aops_eff (eff_pick rfl rfl) rfl rfl rfl ?_
          | refine aops_eff (w_field_ref TT_ok rfl rfl rfl rfl rfl rfl) rfl rfl rfl ?_
          | refine aops_eff (w_not rfl) rfl rfl rfl ?_
          | refine aops_eff (w_box rfl rfl rfl rfl) rfl rfl rfl ?_
          | refine aops_eff (w_alloc TT_ok rfl rfl) rfl rfl rfl ?_
          | refine aops_eff (w_store TT_ok rfl rfl rfl rfl rfl rfl rfl rfl) rfl rfl rfl ?_
          | refine aops_eff (w_len_own TT_ok rfl rfl rfl rfl) rfl rfl rfl ?_
          | refine aops_eff (w_len_nil TT_ok rfl rfl rfl) rfl rfl rfl ?_
          | refine aops_eff (eff_extract rfl rfl (by intro _ h; cases h)) rfl rfl rfl ?_
          | refine aops_eff (w_lit TT_ok rfl rfl rfl rfl rfl rfl rfl rfl rfl rfl rfl) rfl rfl rfl ?_
          | refine aops_eff (w_build TT_ok rfl rfl rfl rfl rfl rfl) rfl rfl rfl ?_)
        refine ret_mk rfl rfl rfl ?_
        refine fz_bl ?_
        cases a; cases b; simp_all [Cl.mk.injEq]
      · repeat (first
          | refine aops_nil ?_
          | refine ac_seq ?_
          | refine ac_region ?_
          | refine then_n ?_
          | refine then_ret ?_
          | refine then_exit ?_
          | refine block_n ?_
          | refine block_ret ?_
          | refine block_here ?_
          | refine block_out rfl ?_
          | refine ac_region_draw MIX ?_
          | refine ac_block ?_
          | refine ac_skip ?_
          | refine ac_exit ?_
          | refine ac_ret ?_
          | refine aops_eff (eff_move rfl) rfl rfl rfl ?_
          | refine aops_eff (w_load_ptr TT_ok rfl rfl rfl rfl rfl rfl rfl) rfl rfl rfl ?_
          | refine aops_eff (w_field_ptr TT_ok rfl rfl rfl rfl rfl rfl rfl) rfl rfl rfl ?_
          | refine aops_eff (eff_assign rfl) rfl rfl rfl ?_
          | refine aops_eff (w_len_list TT_ok rfl rfl rfl) rfl rfl rfl ?_
          | refine aops_eff (w_load_ref TT_ok rfl rfl rfl rfl rfl rfl) rfl rfl rfl ?_
          | refine aops_eff (w_cmp rfl rfl rfl) rfl rfl rfl ?_
          | refine aops_eff (eff_indexAddr_list TT_ok rfl rfl rfl rfl rfl rfl (encI_at (by omega))) rfl rfl rfl ?_
          | refine aops_eff (eff_indexAddr_list TT_ok rfl rfl rfl rfl rfl rfl (map_at (at_lt (by omega)))) rfl rfl rfl ?_
          | refine aops_eff (w_add rfl rfl (by omega)) rfl rfl rfl ?_
          | refine aops_skip rfl rfl ?_
          | refine aops_eff (eff_pick rfl rfl) rfl rfl rfl ?_
          | refine aops_eff (w_field_ref TT_ok rfl rfl rfl rfl rfl rfl) rfl rfl rfl ?_
          | refine aops_eff (w_not rfl) rfl rfl rfl ?_
          | refine aops_eff (w_box rfl rfl rfl rfl) rfl rfl rfl ?_
          | refine aops_eff (w_alloc TT_ok rfl rfl) rfl rfl rfl ?_
          | refine aops_eff (w_store TT_ok rfl rfl rfl rfl rfl rfl rfl rfl) rfl rfl rfl ?_
          | refine aops_eff (w_len_own TT_ok rfl rfl rfl rfl) rfl rfl rfl ?_
          | refine aops_eff (w_len_nil TT_ok rfl rfl rfl) rfl rfl rfl ?_
          | refine aops_eff (eff_extract rfl rfl (by intro _ h; cases h)) rfl rfl rfl ?_
          | refine aops_eff (w_lit TT_ok rfl rfl rfl rfl rfl rfl rfl rfl rfl rfl rfl) rfl rfl rfl ?_
          | refine aops_eff (w_build TT_ok rfl rfl rfl rfl rfl rfl) rfl rfl rfl ?_)
        refine aops_eff (w_call0s (h_s_reps a.parts b.parts) rfl (va_cons (va_same rfl) (va_cons (va_same rfl) va_nil))) rfl rfl rfl ?_
        repeat (first
          | refine aops_nil ?_
          | refine ac_seq ?_
          | refine ac_region ?_
          | refine then_n ?_
          | refine then_ret ?_
          | refine then_exit ?_
          | refine block_n ?_
          | refine block_ret ?_
          | refine block_here ?_
          | refine block_out rfl ?_
          | refine ac_region_draw MIX ?_
          | refine ac_block ?_
          | refine ac_skip ?_
          | refine ac_exit ?_
          | refine ac_ret ?_
          | refine aops_eff (eff_move rfl) rfl rfl rfl ?_
          | refine aops_eff (w_load_ptr TT_ok rfl rfl rfl rfl rfl rfl rfl) rfl rfl rfl ?_
          | refine aops_eff (w_field_ptr TT_ok rfl rfl rfl rfl rfl rfl rfl) rfl rfl rfl ?_
          | refine aops_eff (eff_assign rfl) rfl rfl rfl ?_
          | refine aops_eff (w_len_list TT_ok rfl rfl rfl) rfl rfl rfl ?_
          | refine aops_eff (w_load_ref TT_ok rfl rfl rfl rfl rfl rfl) rfl rfl rfl ?_
          | refine aops_eff (w_cmp rfl rfl rfl) rfl rfl rfl ?_
          | refine aops_eff (eff_indexAddr_list TT_ok rfl rfl rfl rfl rfl rfl (encI_at (by omega))) rfl rfl rfl ?_
          | refine aops_eff (eff_indexAddr_list TT_ok rfl rfl rfl rfl rfl rfl (map_at (at_lt (by omega)))) rfl rfl rfl ?_
          | refine aops_eff (w_add rfl rfl (by omega)) rfl rfl rfl ?_
          | refine aops_skip rfl rfl ?_
          | refine aops_eff (eff_pick rfl rfl) rfl rfl rfl ?_
          | refine aops_eff (w_field_ref TT_ok rfl rfl rfl rfl rfl rfl) rfl rfl rfl ?_
          | refine aops_eff (w_not rfl) rfl rfl rfl ?_
          | refine aops_eff (w_box rfl rfl rfl rfl) rfl rfl rfl ?_
          | refine aops_eff (w_alloc TT_ok rfl rfl) rfl rfl rfl ?_
          | refine aops_eff (w_store TT_ok rfl rfl rfl rfl rfl rfl rfl rfl) rfl rfl rfl ?_
          | refine aops_eff (w_len_own TT_ok rfl rfl rfl rfl) rfl rfl rfl ?_
          | refine aops_eff (w_len_nil TT_ok rfl rfl rfl) rfl rfl rfl ?_
          | refine aops_eff (eff_extract rfl rfl (by intro _ h; cases h)) rfl rfl rfl ?_
          | refine aops_eff (w_lit TT_ok rfl rfl rfl rfl rfl rfl rfl rfl rfl rfl rfl) rfl rfl rfl ?_
          | refine aops_eff (w_build TT_ok rfl rfl rfl rfl rfl rfl) rfl rfl rfl ?_)
        cases h3 : decide (a.parts = b.parts)
        · repeat (first
            | refine aops_nil ?_
            | refine ac_seq ?_
            | refine ac_region ?_
            | refine then_n ?_
            | refine then_ret ?_
            | refine then_exit ?_
            | refine block_n ?_
            | refine block_ret ?_
            | refine block_here ?_
            | refine block_out rfl ?_
            | refine ac_region_draw MIX ?_
            | refine ac_block ?_
            | refine ac_skip ?_
            | refine ac_exit ?_
            | refine ac_ret ?_
            | refine aops_eff (eff_move rfl) rfl rfl rfl ?_
            | refine aops_eff (w_load_ptr TT_ok rfl rfl rfl rfl rfl rfl rfl) rfl rfl rfl ?_
            | refine aops_eff (w_field_ptr TT_ok rfl rfl rfl rfl rfl rfl rfl) rfl rfl rfl ?_
            | refine aops_eff (eff_assign rfl) rfl rfl rfl ?_
            | refine aops_eff (w_len_list TT_ok rfl rfl rfl) rfl rfl rfl ?_
            | refine aops_eff (w_load_ref TT_ok rfl rfl rfl rfl rfl rfl) rfl rfl rfl ?_
            | refine aops_eff (w_cmp rfl rfl rfl) rfl rfl rfl ?_
            | refine aops_eff (eff_indexAddr_list TT_ok rfl rfl rfl rfl rfl rfl (encI_at (by omega))) rfl rfl rfl ?_
            | refine aops_eff (eff_indexAddr_list TT_ok rfl rfl rfl rfl rfl rfl (map_at (at_lt (by omega)))) rfl rfl rfl ?_
            | refine aops_eff (w_add rfl rfl (by omega)) rfl rfl rfl ?_
            | refine aops_skip rfl rfl ?_
            | refine aops_eff (eff_pick rfl rfl) rfl rfl rfl ?_
            | refine aops_eff (w_field_ref TT_ok rfl rfl rfl rfl rfl rfl) rfl rfl rfl ?_
            | refine aops_eff (w_not rfl) rfl rfl rfl ?_
            | refine aops_eff (w_box rfl rfl rfl rfl) rfl rfl rfl ?_
            | refine aops_eff (w_alloc TT_ok rfl rfl) rfl rfl rfl ?_
            | refine aops_eff (w_store TT_ok rfl rfl rfl rfl rfl rfl rfl rfl) rfl rfl rfl ?_
            | refine aops_eff (w_len_own TT_ok rfl rfl rfl rfl) rfl rfl rfl ?_
            | refine aops_eff (w_len_nil TT_ok rfl rfl rfl) rfl rfl rfl ?_
            | refine aops_eff (eff_extract rfl rfl (by intro _ h; cases h)) rfl rfl rfl ?_
            | refine aops_eff (w_lit TT_ok rfl rfl rfl rfl rfl rfl rfl rfl rfl rfl rfl) rfl rfl rfl ?_
            | refine aops_eff (w_build TT_ok rfl rfl rfl rfl rfl rfl) rfl rfl rfl ?_)
          refine ret_mk rfl rfl rfl ?_
          refine fz_bl ?_
          cases a; cases b; simp_all [Cl.mk.injEq]
        · repeat (first
            | refine aops_nil ?_
            | refine ac_seq ?_
            | refine ac_region ?_
            | refine then_n ?_
            | refine then_ret ?_
            | refine then_exit ?_
            | refine block_n ?_
            | refine block_ret ?_
            | refine block_here ?_
            | refine block_out rfl ?_
            | refine ac_region_draw MIX ?_
            | refine ac_block ?_
            | refine ac_skip ?_
            | refine ac_exit ?_
            | refine ac_ret ?_
            | refine aops_eff (eff_move rfl) rfl rfl rfl ?_
            | refine aops_eff (w_load_ptr TT_ok rfl rfl rfl rfl rfl rfl rfl) rfl rfl rfl ?_
            | refine aops_eff (w_field_ptr TT_ok rfl rfl rfl rfl rfl rfl rfl) rfl rfl rfl ?_
            | refine aops_eff (eff_assign rfl) rfl rfl rfl ?_
            | refine aops_eff (w_len_list TT_ok rfl rfl rfl) rfl rfl rfl ?_
            | refine aops_eff (w_load_ref TT_ok rfl rfl rfl rfl rfl rfl) rfl rfl rfl ?_
            | refine aops_eff (w_cmp rfl rfl rfl) rfl rfl rfl ?_
            | refine aops_eff (eff_indexAddr_list TT_ok rfl rfl rfl rfl rfl rfl (encI_at (by omega))) rfl rfl rfl ?_
            | refine aops_eff (eff_indexAddr_list TT_ok rfl rfl rfl rfl rfl rfl (map_at (at_lt (by omega)))) rfl rfl rfl ?_
            | refine aops_eff (w_add rfl rfl (by omega)) rfl rfl rfl ?_
            | refine aops_skip rfl rfl ?_
            | refine aops_eff (eff_pick rfl rfl) rfl rfl rfl ?_
            | refine aops_eff (w_field_ref TT_ok rfl rfl rfl rfl rfl rfl) rfl rfl rfl ?_
            | refine aops_eff (w_not rfl) rfl rfl rfl ?_
            | refine aops_eff (w_box rfl rfl rfl rfl) rfl rfl rfl ?_
            | refine aops_eff (w_alloc TT_ok rfl rfl) rfl rfl rfl ?_
            | refine aops_eff (w_store TT_ok rfl rfl rfl rfl rfl rfl rfl rfl) rfl rfl rfl ?_
            | refine aops_eff (w_len_own TT_ok rfl rfl rfl rfl) rfl rfl rfl ?_
            | refine aops_eff (w_len_nil TT_ok rfl rfl rfl) rfl rfl rfl ?_
            | refine aops_eff (eff_extract rfl rfl (by intro _ h; cases h)) rfl rfl rfl ?_
            | refine aops_eff (w_lit TT_ok rfl rfl rfl rfl rfl rfl rfl rfl rfl rfl rfl) rfl rfl rfl ?_
            | refine aops_eff (w_build TT_ok rfl rfl rfl rfl rfl rfl) rfl rfl rfl ?_)
          refine aops_eff (w_call0s (h_s_mats a.maps b.maps) rfl (va_cons (va_same rfl) (va_cons (va_same rfl) va_nil))) rfl rfl rfl ?_
          repeat (first
            | refine aops_nil ?_
            | refine ac_seq ?_
            | refine ac_region ?_
            | refine then_n ?_
            | refine then_ret ?_
            | refine then_exit ?_
            | refine block_n ?_
            | refine block_ret ?_
            | refine block_here ?_
            | refine block_out rfl ?_
            | refine ac_region_draw MIX ?_
            | refine ac_block ?_
            | refine ac_skip ?_
            | refine ac_exit ?_
            | refine ac_ret ?_
            | refine aops_eff (eff_move rfl) rfl rfl rfl ?_
            | refine aops_eff (w_load_ptr TT_ok rfl rfl rfl rfl rfl rfl rfl) rfl rfl rfl ?_
            | refine aops_eff (w_field_ptr TT_ok rfl rfl rfl rfl rfl rfl rfl) rfl rfl rfl ?_
            | refine aops_eff (eff_assign rfl) rfl rfl rfl ?_
            | refine aops_eff (w_len_list TT_ok rfl rfl rfl) rfl rfl rfl ?_
            | refine aops_eff (w_load_ref TT_ok rfl rfl rfl rfl rfl rfl) rfl rfl rfl ?_
            | refine aops_eff (w_cmp rfl rfl rfl) rfl rfl rfl ?_
            | refine aops_eff (eff_indexAddr_list TT_ok rfl rfl rfl rfl rfl rfl (encI_at (by omega))) rfl rfl rfl ?_
            | refine aops_eff (eff_indexAddr_list TT_ok rfl rfl rfl rfl rfl rfl (map_at (at_lt (by omega)))) rfl rfl rfl ?_
            | refine aops_eff (w_add rfl rfl (by omega)) rfl rfl rfl ?_
            | refine aops_skip rfl rfl ?_
            | refine aops_eff (eff_pick rfl rfl) rfl rfl rfl ?_
            | refine aops_eff (w_field_ref TT_ok rfl rfl rfl rfl rfl rfl) rfl rfl rfl ?_
            | refine aops_eff (w_not rfl) rfl rfl rfl ?_
            | refine aops_eff (w_box rfl rfl rfl rfl) rfl rfl rfl ?_
            | refine aops_eff (w_alloc TT_ok rfl rfl) rfl rfl rfl ?_
            | refine aops_eff (w_store TT_ok rfl rfl rfl rfl rfl rfl rfl rfl) rfl rfl rfl ?_
            | refine aops_eff (w_len_own TT_ok rfl rfl rfl rfl) rfl rfl rfl ?_
            | refine aops_eff (w_len_nil TT_ok rfl rfl rfl) rfl rfl rfl ?_
            | refine aops_eff (eff_extract rfl rfl (by intro _ h; cases h)) rfl rfl rfl ?_
            | refine aops_eff (w_lit TT_ok rfl rfl rfl rfl rfl rfl rfl rfl rfl rfl rfl) rfl rfl rfl ?_
            | refine aops_eff (w_build TT_ok rfl rfl rfl rfl rfl rfl) rfl rfl rfl ?_)
          cases h4 : decide (a.maps = b.maps)
          · repeat (first
              | refine aops_nil ?_
              | refine ac_seq ?_
              | refine ac_region ?_
              | refine then_n ?_
              | refine then_ret ?_
              | refine then_exit ?_
              | refine block_n ?_
              | refine block_ret ?_
              | refine block_here ?_
              | refine block_out rfl ?_
              | refine ac_region_draw MIX ?_
              | refine ac_block ?_
              | refine ac_skip ?_
              | refine ac_exit ?_
              | refine ac_ret ?_
              | refine aops_eff (eff_move rfl) rfl rfl rfl ?_
              | refine aops_eff (w_load_ptr TT_ok rfl rfl rfl rfl rfl rfl rfl) rfl rfl rfl ?_
              | refine aops_eff (w_field_ptr TT_ok rfl rfl rfl rfl rfl rfl rfl) rfl rfl rfl ?_
              | refine aops_eff (eff_assign rfl) rfl rfl rfl ?_
              | refine aops_eff (w_len_list TT_ok rfl rfl rfl) rfl rfl rfl ?_
              | refine aops_eff (w_load_ref TT_ok rfl rfl rfl rfl rfl rfl) rfl rfl rfl ?_
              | refine aops_eff (w_cmp rfl rfl rfl) rfl rfl rfl ?_
              | refine aops_eff (eff_indexAddr_list TT_ok rfl rfl rfl rfl rfl rfl (encI_at (by omega))) rfl rfl rfl ?_
              | refine aops_eff (eff_indexAddr_list TT_ok rfl rfl rfl rfl rfl rfl (map_at (at_lt (by omega)))) rfl rfl rfl ?_
              | refine aops_eff (w_add rfl rfl (by omega)) rfl rfl rfl ?_
              | refine aops_skip rfl rfl ?_
              | refine aops_eff (eff_pick rfl rfl) rfl rfl rfl ?_
              | refine aops_eff (w_field_ref TT_ok rfl rfl rfl rfl rfl rfl) rfl rfl rfl ?_
              | refine aops_eff (w_not rfl) rfl rfl rfl ?_
              | refine aops_eff (w_box rfl rfl rfl rfl) rfl rfl rfl ?_
              | refine aops_eff (w_alloc TT_ok rfl rfl) rfl rfl rfl ?_
              | refine aops_eff (w_store TT_ok rfl rfl rfl rfl rfl rfl rfl rfl) rfl rfl rfl ?_
              | refine aops_eff (w_len_own TT_ok rfl rfl rfl rfl) rfl rfl rfl ?_
              | refine aops_eff (w_len_nil TT_ok rfl rfl rfl) rfl rfl rfl ?_
              | refine aops_eff (eff_extract rfl rfl (by intro _ h; cases h)) rfl rfl rfl ?_
              | refine aops_eff (w_lit TT_ok rfl rfl rfl rfl rfl rfl rfl rfl rfl rfl rfl) rfl rfl rfl ?_
              | refine aops_eff (w_build TT_ok rfl rfl rfl rfl rfl rfl) rfl rfl rfl ?_)
            refine ret_mk rfl rfl rfl ?_
            refine fz_bl ?_
            cases a; cases b; simp_all [Cl.mk.injEq]
          · repeat (first
              | refine aops_nil ?_
              | refine ac_seq ?_
              | refine ac_region ?_
              | refine then_n ?_
              | refine then_ret ?_
              | refine then_exit ?_
              | refine block_n ?_
              | refine block_ret ?_
              | refine block_here ?_
              | refine block_out rfl ?_
              | refine ac_region_draw MIX ?_
              | refine ac_block ?_
              | refine ac_skip ?_
              | refine ac_exit ?_
              | refine ac_ret ?_
              | refine aops_eff (eff_move rfl) rfl rfl rfl ?_
              | refine aops_eff (w_load_ptr TT_ok rfl rfl rfl rfl rfl rfl rfl) rfl rfl rfl ?_
              | refine aops_eff (w_field_ptr TT_ok rfl rfl rfl rfl rfl rfl rfl) rfl rfl rfl ?_
              | refine aops_eff (eff_assign rfl) rfl rfl rfl ?_
              | refine aops_eff (w_len_list TT_ok rfl rfl rfl) rfl rfl rfl ?_
              | refine aops_eff (w_load_ref TT_ok rfl rfl rfl rfl rfl rfl) rfl rfl rfl ?_
              | refine aops_eff (w_cmp rfl rfl rfl) rfl rfl rfl ?_
              | refine aops_eff (eff_indexAddr_list TT_ok rfl rfl rfl rfl rfl rfl (encI_at (by omega))) rfl rfl rfl ?_
              | refine aops_eff (eff_indexAddr_list TT_ok rfl rfl rfl rfl rfl rfl (map_at (at_lt (by omega)))) rfl rfl rfl ?_
              | refine aops_eff (w_add rfl rfl (by omega)) rfl rfl rfl ?_
              | refine aops_skip rfl rfl ?_
              | refine aops_eff (eff_pick rfl rfl) rfl rfl rfl ?_
              | refine aops_eff (w_field_ref TT_ok rfl rfl rfl rfl rfl rfl) rfl rfl rfl ?_
              | refine aops_eff (w_not rfl) rfl rfl rfl ?_
              | refine aops_eff (w_box rfl rfl rfl rfl) rfl rfl rfl ?_
              | refine aops_eff (w_alloc TT_ok rfl rfl) rfl rfl rfl ?_
              | refine aops_eff (w_store TT_ok rfl rfl rfl rfl rfl rfl rfl rfl) rfl rfl rfl ?_
              | refine aops_eff (w_len_own TT_ok rfl rfl rfl rfl) rfl rfl rfl ?_
              | refine aops_eff (w_len_nil TT_ok rfl rfl rfl) rfl rfl rfl ?_
              | refine aops_eff (eff_extract rfl rfl (by intro _ h; cases h)) rfl rfl rfl ?_
              | refine aops_eff (w_lit TT_ok rfl rfl rfl rfl rfl rfl rfl rfl rfl rfl rfl) rfl rfl rfl ?_
              | refine aops_eff (w_build TT_ok rfl rfl rfl rfl rfl rfl) rfl rfl rfl ?_)
            refine aops_eff (w_call0s (h_s_bars a.bars b.bars) rfl (va_cons (va_same rfl) (va_cons (va_same rfl) va_nil))) rfl rfl rfl ?_
            repeat (first
              | refine aops_nil ?_
              | refine ac_seq ?_
              | refine ac_region ?_
              | refine then_n ?_
              | refine then_ret ?_
              | refine then_exit ?_
              | refine block_n ?_
              | refine block_ret ?_
              | refine block_here ?_
              | refine block_out rfl ?_
              | refine ac_region_draw MIX ?_
              | refine ac_block ?_
              | refine ac_skip ?_
              | refine ac_exit ?_
              | refine ac_ret ?_
              | refine aops_eff (eff_move rfl) rfl rfl rfl ?_
              | refine aops_eff (w_load_ptr TT_ok rfl rfl rfl rfl rfl rfl rfl) rfl rfl rfl ?_
              | refine aops_eff (w_field_ptr TT_ok rfl rfl rfl rfl rfl rfl rfl) rfl rfl rfl ?_
              | refine aops_eff (eff_assign rfl) rfl rfl rfl ?_
              | refine aops_eff (w_len_list TT_ok rfl rfl rfl) rfl rfl rfl ?_
              | refine aops_eff (w_load_ref TT_ok rfl rfl rfl rfl rfl rfl) rfl rfl rfl ?_
              | refine aops_eff (w_cmp rfl rfl rfl) rfl rfl rfl ?_
              | refine aops_eff (eff_indexAddr_list TT_ok rfl rfl rfl rfl rfl rfl (encI_at (by omega))) rfl rfl rfl ?_
              | refine aops_eff (eff_indexAddr_list TT_ok rfl rfl rfl rfl rfl rfl (map_at (at_lt (by omega)))) rfl rfl rfl ?_
              | refine aops_eff (w_add rfl rfl (by omega)) rfl rfl rfl ?_
              | refine aops_skip rfl rfl ?_
              | refine aops_eff (eff_pick rfl rfl) rfl rfl rfl ?_
              | refine aops_eff (w_field_ref TT_ok rfl rfl rfl rfl rfl rfl) rfl rfl rfl ?_
              | refine aops_eff (w_not rfl) rfl rfl rfl ?_
              | refine aops_eff (w_box rfl rfl rfl rfl) rfl rfl rfl ?_
              | refine aops_eff (w_alloc TT_ok rfl rfl) rfl rfl rfl ?_
              | refine aops_eff (w_store TT_ok rfl rfl rfl rfl rfl rfl rfl rfl) rfl rfl rfl ?_
              | refine aops_eff (w_len_own TT_ok rfl rfl rfl rfl) rfl rfl rfl ?_
              | refine aops_eff (w_len_nil TT_ok rfl rfl rfl) rfl rfl rfl ?_
              | refine aops_eff (eff_extract rfl rfl (by intro _ h; cases h)) rfl rfl rfl ?_
              | refine aops_eff (w_lit TT_ok rfl rfl rfl rfl rfl rfl rfl rfl rfl rfl rfl) rfl rfl rfl ?_
              | refine aops_eff (w_build TT_ok rfl rfl rfl rfl rfl rfl) rfl rfl rfl ?_)
            cases h5 : decide (a.bars = b.bars)
            · repeat (first
                | refine aops_nil ?_
                | refine ac_seq ?_
                | refine ac_region ?_
                | refine then_n ?_
                | refine then_ret ?_
                | refine then_exit ?_
                | refine block_n ?_
                | refine block_ret ?_
                | refine block_here ?_
                | refine block_out rfl ?_
                | refine ac_region_draw MIX ?_
                | refine ac_block ?_
                | refine ac_skip ?_
                | refine ac_exit ?_
                | refine ac_ret ?_
                | refine aops_eff (eff_move rfl) rfl rfl rfl ?_
                | refine aops_eff (w_load_ptr TT_ok rfl rfl rfl rfl rfl rfl rfl) rfl rfl rfl ?_
                | refine aops_eff (w_field_ptr TT_ok rfl rfl rfl rfl rfl rfl rfl) rfl rfl rfl ?_
                | refine aops_eff (eff_assign rfl) rfl rfl rfl ?_
                | refine aops_eff (w_len_list TT_ok rfl rfl rfl) rfl rfl rfl ?_
                | refine aops_eff (w_load_ref TT_ok rfl rfl rfl rfl rfl rfl) rfl rfl rfl ?_
                | refine aops_eff (w_cmp rfl rfl rfl) rfl rfl rfl ?_
                | refine aops_eff (eff_indexAddr_list TT_ok rfl rfl rfl rfl rfl rfl (encI_at (by omega))) rfl rfl rfl ?_
                | refine aops_eff (eff_indexAddr_list TT_ok rfl rfl rfl rfl rfl rfl (map_at (at_lt (by omega)))) rfl rfl rfl ?_
                | refine aops_eff (w_add rfl rfl (by omega)) rfl rfl rfl ?_
                | refine aops_skip rfl rfl ?_
                | refine aops_eff (eff_pick rfl rfl) rfl rfl rfl ?_
                | refine aops_eff (w_field_ref TT_ok rfl rfl rfl rfl rfl rfl) rfl rfl rfl ?_
                | refine aops_eff (w_not rfl) rfl rfl rfl ?_
                | refine aops_eff (w_box rfl rfl rfl rfl) rfl rfl rfl ?_
                | refine aops_eff (w_alloc TT_ok rfl rfl) rfl rfl rfl ?_
                | refine aops_eff (w_store TT_ok rfl rfl rfl rfl rfl rfl rfl rfl) rfl rfl rfl ?_
                | refine aops_eff (w_len_own TT_ok rfl rfl rfl rfl) rfl rfl rfl ?_
                | refine aops_eff (w_len_nil TT_ok rfl rfl rfl) rfl rfl rfl ?_
                | refine aops_eff (eff_extract rfl rfl (by intro _ h; cases h)) rfl rfl rfl ?_
                | refine aops_eff (w_lit TT_ok rfl rfl rfl rfl rfl rfl rfl rfl rfl rfl rfl) rfl rfl rfl ?_
                | refine aops_eff (w_build TT_ok rfl rfl rfl rfl rfl rfl) rfl rfl rfl ?_)
              refine ret_mk rfl rfl rfl ?_
              refine fz_bl ?_
              cases a; cases b; simp_all [Cl.mk.injEq]
            · repeat (first
                | refine aops_nil ?_
                | refine ac_seq ?_
                | refine ac_region ?_
                | refine then_n ?_
                | refine then_ret ?_
                | refine then_exit ?_
                | refine block_n ?_
                | refine block_ret ?_
                | refine block_here ?_
                | refine block_out rfl ?_
                | refine ac_region_draw MIX ?_
                | refine ac_block ?_
                | refine ac_skip ?_
                | refine ac_exit ?_
                | refine ac_ret ?_
                | refine aops_eff (eff_move rfl) rfl rfl rfl ?_
                | refine aops_eff (w_load_ptr TT_ok rfl rfl rfl rfl rfl rfl rfl) rfl rfl rfl ?_
                | refine aops_eff (w_field_ptr TT_ok rfl rfl rfl rfl rfl rfl rfl) rfl rfl rfl ?_
                | refine aops_eff (eff_assign rfl) rfl rfl rfl ?_
                | refine aops_eff (w_len_list TT_ok rfl rfl rfl) rfl rfl rfl ?_
                | refine aops_eff (w_load_ref TT_ok rfl rfl rfl rfl rfl rfl) rfl rfl rfl ?_
                | refine aops_eff (w_cmp rfl rfl rfl) rfl rfl rfl ?_
                | refine aops_eff (eff_indexAddr_list TT_ok rfl rfl rfl rfl rfl rfl (encI_at (by omega))) rfl rfl rfl ?_
                | refine aops_eff (eff_indexAddr_list TT_ok rfl rfl rfl rfl rfl rfl (map_at (at_lt (by omega)))) rfl rfl rfl ?_
                | refine aops_eff (w_add rfl rfl (by omega)) rfl rfl rfl ?_
                | refine aops_skip rfl rfl ?_
                | refine aops_eff (eff_pick rfl rfl) rfl rfl rfl ?_
                | refine aops_eff (w_field_ref TT_ok rfl rfl rfl rfl rfl rfl) rfl rfl rfl ?_
                | refine aops_eff (w_not rfl) rfl rfl rfl ?_
                | refine aops_eff (w_box rfl rfl rfl rfl) rfl rfl rfl ?_
                | refine aops_eff (w_alloc TT_ok rfl rfl) rfl rfl rfl ?_
                | refine aops_eff (w_store TT_ok rfl rfl rfl rfl rfl rfl rfl rfl) rfl rfl rfl ?_
                | refine aops_eff (w_len_own TT_ok rfl rfl rfl rfl) rfl rfl rfl ?_
                | refine aops_eff (w_len_nil TT_ok rfl rfl rfl) rfl rfl rfl ?_
                | refine aops_eff (eff_extract rfl rfl (by intro _ h; cases h)) rfl rfl rfl ?_
                | refine aops_eff (w_lit TT_ok rfl rfl rfl rfl rfl rfl rfl rfl rfl rfl rfl) rfl rfl rfl ?_
                | refine aops_eff (w_build TT_ok rfl rfl rfl rfl rfl rfl) rfl rfl rfl ?_)
              refine aops_eff (w_call0s (h_l6Same a.theta b.theta) rfl (va_cons (va_same rfl) (va_cons (va_same rfl) va_nil))) rfl rfl rfl ?_
              repeat (first
                | refine aops_nil ?_
                | refine ac_seq ?_
                | refine ac_region ?_
                | refine then_n ?_
                | refine then_ret ?_
                | refine then_exit ?_
                | refine block_n ?_
                | refine block_ret ?_
                | refine block_here ?_
                | refine block_out rfl ?_
                | refine ac_region_draw MIX ?_
                | refine ac_block ?_
                | refine ac_skip ?_
                | refine ac_exit ?_
                | refine ac_ret ?_
                | refine aops_eff (eff_move rfl) rfl rfl rfl ?_
                | refine aops_eff (w_load_ptr TT_ok rfl rfl rfl rfl rfl rfl rfl) rfl rfl rfl ?_
                | refine aops_eff (w_field_ptr TT_ok rfl rfl rfl rfl rfl rfl rfl) rfl rfl rfl ?_
                | refine aops_eff (eff_assign rfl) rfl rfl rfl ?_
                | refine aops_eff (w_len_list TT_ok rfl rfl rfl) rfl rfl rfl ?_
                | refine aops_eff (w_load_ref TT_ok rfl rfl rfl rfl rfl rfl) rfl rfl rfl ?_
                | refine aops_eff (w_cmp rfl rfl rfl) rfl rfl rfl ?_
                | refine aops_eff (eff_indexAddr_list TT_ok rfl rfl rfl rfl rfl rfl (encI_at (by omega))) rfl rfl rfl ?_
                | refine aops_eff (eff_indexAddr_list TT_ok rfl rfl rfl rfl rfl rfl (map_at (at_lt (by omega)))) rfl rfl rfl ?_
                | refine aops_eff (w_add rfl rfl (by omega)) rfl rfl rfl ?_
                | refine aops_skip rfl rfl ?_
                | refine aops_eff (eff_pick rfl rfl) rfl rfl rfl ?_
                | refine aops_eff (w_field_ref TT_ok rfl rfl rfl rfl rfl rfl) rfl rfl rfl ?_
                | refine aops_eff (w_not rfl) rfl rfl rfl ?_
                | refine aops_eff (w_box rfl rfl rfl rfl) rfl rfl rfl ?_
                | refine aops_eff (w_alloc TT_ok rfl rfl) rfl rfl rfl ?_
                | refine aops_eff (w_store TT_ok rfl rfl rfl rfl rfl rfl rfl rfl) rfl rfl rfl ?_
                | refine aops_eff (w_len_own TT_ok rfl rfl rfl rfl) rfl rfl rfl ?_
                | refine aops_eff (w_len_nil TT_ok rfl rfl rfl) rfl rfl rfl ?_
                | refine aops_eff (eff_extract rfl rfl (by intro _ h; cases h)) rfl rfl rfl ?_
                | refine aops_eff (w_lit TT_ok rfl rfl rfl rfl rfl rfl rfl rfl rfl rfl rfl) rfl rfl rfl ?_
                | refine aops_eff (w_build TT_ok rfl rfl rfl rfl rfl rfl) rfl rfl rfl ?_)
              cases h6 : decide (a.theta = b.theta)
              · repeat (first
                  | refine aops_nil ?_
                  | refine ac_seq ?_
                  | refine ac_region ?_
                  | refine then_n ?_
                  | refine then_ret ?_
                  | refine then_exit ?_
                  | refine block_n ?_
                  | refine block_ret ?_
                  | refine block_here ?_
                  | refine block_out rfl ?_
                  | refine ac_region_draw MIX ?_
                  | refine ac_block ?_
                  | refine ac_skip ?_
                  | refine ac_exit ?_
                  | refine ac_ret ?_
                  | refine aops_eff (eff_move rfl) rfl rfl rfl ?_
                  | refine aops_eff (w_load_ptr TT_ok rfl rfl rfl rfl rfl rfl rfl) rfl rfl rfl ?_
                  | refine aops_eff (w_field_ptr TT_ok rfl rfl rfl rfl rfl rfl rfl) rfl rfl rfl ?_
                  | refine aops_eff (eff_assign rfl) rfl rfl rfl ?_
                  | refine aops_eff (w_len_list TT_ok rfl rfl rfl) rfl rfl rfl ?_
                  | refine aops_eff (w_load_ref TT_ok rfl rfl rfl rfl rfl rfl) rfl rfl rfl ?_
                  | refine aops_eff (w_cmp rfl rfl rfl) rfl rfl rfl ?_
                  | refine aops_eff (eff_indexAddr_list TT_ok rfl rfl rfl rfl rfl rfl (encI_at (by omega))) rfl rfl rfl ?_
                  | refine aops_eff (eff_indexAddr_list TT_ok rfl rfl rfl rfl rfl rfl (map_at (at_lt (by omega)))) rfl rfl rfl ?_
                  | refine aops_eff (w_add rfl rfl (by omega)) rfl rfl rfl ?_
                  | refine aops_skip rfl rfl ?_
                  | refine aops_eff (eff_pick rfl rfl) rfl rfl rfl ?_
                  | refine aops_eff (w_field_ref TT_ok rfl rfl rfl rfl rfl rfl) rfl rfl rfl ?_
                  | refine aops_eff (w_not rfl) rfl rfl rfl ?_
                  | refine aops_eff (w_box rfl rfl rfl rfl) rfl rfl rfl ?_
                  | refine aops_eff (w_alloc TT_ok rfl rfl) rfl rfl rfl ?_
                  | refine aops_eff (w_store TT_ok rfl rfl rfl rfl rfl rfl rfl rfl) rfl rfl rfl ?_
                  | refine aops_eff (w_len_own TT_ok rfl rfl rfl rfl) rfl rfl rfl ?_
                  | refine aops_eff (w_len_nil TT_ok rfl rfl rfl) rfl rfl rfl ?_
                  | refine aops_eff (eff_extract rfl rfl (by intro _ h; cases h)) rfl rfl rfl ?_
                  | refine aops_eff (w_lit TT_ok rfl rfl rfl rfl rfl rfl rfl rfl rfl rfl rfl) rfl rfl rfl ?_
                  | refine aops_eff (w_build TT_ok rfl rfl rfl rfl rfl rfl) rfl rfl rfl ?_)
                refine ret_mk rfl rfl rfl ?_
                refine fz_bl ?_
                cases a; cases b; simp_all [Cl.mk.injEq]
              · repeat (first
                  | refine aops_nil ?_
                  | refine ac_seq ?_
                  | refine ac_region ?_
                  | refine then_n ?_
                  | refine then_ret ?_
                  | refine then_exit ?_
                  | refine block_n ?_
                  | refine block_ret ?_
                  | refine block_here ?_
                  | refine block_out rfl ?_
                  | refine ac_region_draw MIX ?_
                  | refine ac_block ?_
                  | refine ac_skip ?_
                  | refine ac_exit ?_
                  | refine ac_ret ?_
                  | refine aops_eff (eff_move rfl) rfl rfl rfl ?_
                  | refine aops_eff (w_load_ptr TT_ok rfl rfl rfl rfl rfl rfl rfl) rfl rfl rfl ?_
                  | refine aops_eff (w_field_ptr TT_ok rfl rfl rfl rfl rfl rfl rfl) rfl rfl rfl ?_
                  | refine aops_eff (eff_assign rfl) rfl rfl rfl ?_
                  | refine aops_eff (w_len_list TT_ok rfl rfl rfl) rfl rfl rfl ?_
                  | refine aops_eff (w_load_ref TT_ok rfl rfl rfl rfl rfl rfl) rfl rfl rfl ?_
                  | refine aops_eff (w_cmp rfl rfl rfl) rfl rfl rfl ?_
                  | refine aops_eff (eff_indexAddr_list TT_ok rfl rfl rfl rfl rfl rfl (encI_at (by omega))) rfl rfl rfl ?_
                  | refine aops_eff (eff_indexAddr_list TT_ok rfl rfl rfl rfl rfl rfl (map_at (at_lt (by omega)))) rfl rfl rfl ?_
                  | refine aops_eff (w_add rfl rfl (by omega)) rfl rfl rfl ?_
                  | refine aops_skip rfl rfl ?_
                  | refine aops_eff (eff_pick rfl rfl) rfl rfl rfl ?_
                  | refine aops_eff (w_field_ref TT_ok rfl rfl rfl rfl rfl rfl) rfl rfl rfl ?_
                  | refine aops_eff (w_not rfl) rfl rfl rfl ?_
                  | refine aops_eff (w_box rfl rfl rfl rfl) rfl rfl rfl ?_
                  | refine aops_eff (w_alloc TT_ok rfl rfl) rfl rfl rfl ?_
                  | refine aops_eff (w_store TT_ok rfl rfl rfl rfl rfl rfl rfl rfl) rfl rfl rfl ?_
                  | refine aops_eff (w_len_own TT_ok rfl rfl rfl rfl) rfl rfl rfl ?_
                  | refine aops_eff (w_len_nil TT_ok rfl rfl rfl) rfl rfl rfl ?_
                  | refine aops_eff (eff_extract rfl rfl (by intro _ h; cases h)) rfl rfl rfl ?_
                  | refine aops_eff (w_lit TT_ok rfl rfl rfl rfl rfl rfl rfl rfl rfl rfl rfl) rfl rfl rfl ?_
                  | refine aops_eff (w_build TT_ok rfl rfl rfl rfl rfl rfl) rfl rfl rfl ?_)
                refine aops_eff (w_call0s (h_s_subs a.subs b.subs) rfl (va_cons (va_same rfl) (va_cons (va_same rfl) va_nil))) rfl rfl rfl ?_
                repeat (first
                  | refine aops_nil ?_
                  | refine ac_seq ?_
                  | refine ac_region ?_
                  | refine then_n ?_
                  | refine then_ret ?_
                  | refine then_exit ?_
                  | refine block_n ?_
                  | refine block_ret ?_
                  | refine block_here ?_
                  | refine block_out rfl ?_
                  | refine ac_region_draw MIX ?_
                  | refine ac_block ?_
                  | refine ac_skip ?_
                  | refine ac_exit ?_
                  | refine ac_ret ?_
                  | refine aops_eff (eff_move rfl) rfl rfl rfl ?_
                  | refine aops_eff (w_load_ptr TT_ok rfl rfl rfl rfl rfl rfl rfl) rfl rfl rfl ?_
                  | refine aops_eff (w_field_ptr TT_ok rfl rfl rfl rfl rfl rfl rfl) rfl rfl rfl ?_
                  | refine aops_eff (eff_assign rfl) rfl rfl rfl ?_
                  | refine aops_eff (w_len_list TT_ok rfl rfl rfl) rfl rfl rfl ?_
                  | refine aops_eff (w_load_ref TT_ok rfl rfl rfl rfl rfl rfl) rfl rfl rfl ?_
                  | refine aops_eff (w_cmp rfl rfl rfl) rfl rfl rfl ?_
                  | refine aops_eff (eff_indexAddr_list TT_ok rfl rfl rfl rfl rfl rfl (encI_at (by omega))) rfl rfl rfl ?_
                  | refine aops_eff (eff_indexAddr_list TT_ok rfl rfl rfl rfl rfl rfl (map_at (at_lt (by omega)))) rfl rfl rfl ?_
                  | refine aops_eff (w_add rfl rfl (by omega)) rfl rfl rfl ?_
                  | refine aops_skip rfl rfl ?_
                  | refine aops_eff (eff_pick rfl rfl) rfl rfl rfl ?_
                  | refine aops_eff (w_field_ref TT_ok rfl rfl rfl rfl rfl rfl) rfl rfl rfl ?_
                  | refine aops_eff (w_not rfl) rfl rfl rfl ?_
                  | refine aops_eff (w_box rfl rfl rfl rfl) rfl rfl rfl ?_
                  | refine aops_eff (w_alloc TT_ok rfl rfl) rfl rfl rfl ?_
                  | refine aops_eff (w_store TT_ok rfl rfl rfl rfl rfl rfl rfl rfl) rfl rfl rfl ?_
                  | refine aops_eff (w_len_own TT_ok rfl rfl rfl rfl) rfl rfl rfl ?_
                  | refine aops_eff (w_len_nil TT_ok rfl rfl rfl) rfl rfl rfl ?_
                  | refine aops_eff (eff_extract rfl rfl (by intro _ h; cases h)) rfl rfl rfl ?_
                  | refine aops_eff (w_lit TT_ok rfl rfl rfl rfl rfl rfl rfl rfl rfl rfl rfl) rfl rfl rfl ?_
                  | refine aops_eff (w_build TT_ok rfl rfl rfl rfl rfl rfl) rfl rfl rfl ?_)
                refine ret_mk rfl rfl rfl ?_
                refine fz_bl ?_
                cases a; cases b; simp_all [Cl.mk.injEq]

theorem h_l_claim (a b : Cl) : HasC Try.prog 27 [.agg (eC a), .agg (eC b)] (.bl (decide (a = b))) := by
  refine hasC_mk TT_ok (ns := [0,1,2,3,4,5,6,7]) Try.func27 rfl rfl Try.ntmps27 rfl rfl rfl ?_
  repeat (first
    | refine aops_nil ?_
    | refine ac_seq ?_
    | refine ac_region ?_
    | refine then_n ?_
    | refine then_ret ?_
    | refine then_exit ?_
    | refine block_n ?_
    | refine block_ret ?_
    | refine block_here ?_
    | refine block_out rfl ?_
    | refine ac_region_draw MIX ?_
    | refine ac_block ?_
    | refine ac_skip ?_
    | refine ac_exit ?_
    | refine ac_ret ?_
    | refine aops_eff (eff_move rfl) rfl rfl rfl ?_
    | refine aops_eff (w_load_ptr TT_ok rfl rfl rfl rfl rfl rfl rfl) rfl rfl rfl ?_
    | refine aops_eff (w_field_ptr TT_ok rfl rfl rfl rfl rfl rfl rfl) rfl rfl rfl ?_
    | refine aops_eff (eff_assign rfl) rfl rfl rfl ?_
    | refine aops_eff (w_len_list TT_ok rfl rfl rfl) rfl rfl rfl ?_
    | refine aops_eff (w_load_ref TT_ok rfl rfl rfl rfl rfl rfl) rfl rfl rfl ?_
    | refine aops_eff (w_cmp rfl rfl rfl) rfl rfl rfl ?_
    | refine aops_eff (eff_indexAddr_list TT_ok rfl rfl rfl rfl rfl rfl (encI_at (by omega))) rfl rfl rfl ?_
    | refine aops_eff (eff_indexAddr_list TT_ok rfl rfl rfl rfl rfl rfl (map_at (at_lt (by omega)))) rfl rfl rfl ?_
    | refine aops_eff (w_add rfl rfl (by omega)) rfl rfl rfl ?_
    | refine aops_skip rfl rfl ?_
    | refine aops_eff (eff_pick rfl rfl) rfl rfl rfl ?_
    | refine aops_eff (w_field_ref TT_ok rfl rfl rfl rfl rfl rfl) rfl rfl rfl ?_
    | refine aops_eff (w_not rfl) rfl rfl rfl ?_
    | refine aops_eff (w_box rfl rfl rfl rfl) rfl rfl rfl ?_
    | refine aops_eff (w_alloc TT_ok rfl rfl) rfl rfl rfl ?_
    | refine aops_eff (w_store TT_ok rfl rfl rfl rfl rfl rfl rfl rfl) rfl rfl rfl ?_
    | refine aops_eff (w_len_own TT_ok rfl rfl rfl rfl) rfl rfl rfl ?_
    | refine aops_eff (w_len_nil TT_ok rfl rfl rfl) rfl rfl rfl ?_
    | refine aops_eff (eff_extract rfl rfl (by intro _ h; cases h)) rfl rfl rfl ?_
    | refine aops_eff (w_lit TT_ok rfl rfl rfl rfl rfl rfl rfl rfl rfl rfl rfl) rfl rfl rfl ?_
    | refine aops_eff (w_build TT_ok rfl rfl rfl rfl rfl rfl) rfl rfl rfl ?_)
  refine ac_cond rfl (fun h0 => ?_) (fun h0 => ?_)
  · simp at h0
    repeat (first
      | refine aops_nil ?_
      | refine ac_seq ?_
      | refine ac_region ?_
      | refine then_n ?_
      | refine then_ret ?_
      | refine then_exit ?_
      | refine block_n ?_
      | refine block_ret ?_
      | refine block_here ?_
      | refine block_out rfl ?_
      | refine ac_region_draw MIX ?_
      | refine ac_block ?_
      | refine ac_skip ?_
      | refine ac_exit ?_
      | refine ac_ret ?_
      | refine aops_eff (eff_move rfl) rfl rfl rfl ?_
      | refine aops_eff (w_load_ptr TT_ok rfl rfl rfl rfl rfl rfl rfl) rfl rfl rfl ?_
      | refine aops_eff (w_field_ptr TT_ok rfl rfl rfl rfl rfl rfl rfl) rfl rfl rfl ?_
      | refine aops_eff (eff_assign rfl) rfl rfl rfl ?_
      | refine aops_eff (w_len_list TT_ok rfl rfl rfl) rfl rfl rfl ?_
      | refine aops_eff (w_load_ref TT_ok rfl rfl rfl rfl rfl rfl) rfl rfl rfl ?_
      | refine aops_eff (w_cmp rfl rfl rfl) rfl rfl rfl ?_
      | refine aops_eff (eff_indexAddr_list TT_ok rfl rfl rfl rfl rfl rfl (encI_at (by omega))) rfl rfl rfl ?_
      | refine aops_eff (eff_indexAddr_list TT_ok rfl rfl rfl rfl rfl rfl (map_at (at_lt (by omega)))) rfl rfl rfl ?_
      | refine aops_eff (w_add rfl rfl (by omega)) rfl rfl rfl ?_
      | refine aops_skip rfl rfl ?_
      | refine aops_eff (eff_pick rfl rfl) rfl rfl rfl ?_
      | refine aops_eff (w_field_ref TT_ok rfl rfl rfl rfl rfl rfl) rfl rfl rfl ?_
      | refine aops_eff (w_not rfl) rfl rfl rfl ?_
      | refine aops_eff (w_box rfl rfl rfl rfl) rfl rfl rfl ?_
      | refine aops_eff (w_alloc TT_ok rfl rfl) rfl rfl rfl ?_
      | refine aops_eff (w_store TT_ok rfl rfl rfl rfl rfl rfl rfl rfl) rfl rfl rfl ?_
      | refine aops_eff (w_len_own TT_ok rfl rfl rfl rfl) rfl rfl rfl ?_
      | refine aops_eff (w_len_nil TT_ok rfl rfl rfl) rfl rfl rfl ?_
      | refine aops_eff (eff_extract rfl rfl (by intro _ h; cases h)) rfl rfl rfl ?_
      | refine aops_eff (w_lit TT_ok rfl rfl rfl rfl rfl rfl rfl rfl rfl rfl rfl) rfl rfl rfl ?_
      | refine aops_eff (w_build TT_ok rfl rfl rfl rfl rfl rfl) rfl rfl rfl ?_)
    refine ret_mk rfl rfl rfl ?_
    refine fz_bl ?_
    cases a; cases b; simp_all [Cl.mk.injEq]
  · simp at h0
    repeat (first
      | refine aops_nil ?_
      | refine ac_seq ?_
      | refine ac_region ?_
      | refine then_n ?_
      | refine then_ret ?_
      | refine then_exit ?_
      | refine block_n ?_
      | refine block_ret ?_
      | refine block_here ?_
      | refine block_out rfl ?_
      | refine ac_region_draw MIX ?_
      | refine ac_block ?_
      | refine ac_skip ?_
      | refine ac_exit ?_
      | refine ac_ret ?_
      | refine aops_eff (eff_move rfl) rfl rfl rfl ?_
      | refine aops_eff (w_load_ptr TT_ok rfl rfl rfl rfl rfl rfl rfl) rfl rfl rfl ?_
      | refine aops_eff (w_field_ptr TT_ok rfl rfl rfl rfl rfl rfl rfl) rfl rfl rfl ?_
      | refine aops_eff (eff_assign rfl) rfl rfl rfl ?_
      | refine aops_eff (w_len_list TT_ok rfl rfl rfl) rfl rfl rfl ?_
      | refine aops_eff (w_load_ref TT_ok rfl rfl rfl rfl rfl rfl) rfl rfl rfl ?_
      | refine aops_eff (w_cmp rfl rfl rfl) rfl rfl rfl ?_
      | refine aops_eff (eff_indexAddr_list TT_ok rfl rfl rfl rfl rfl rfl (encI_at (by omega))) rfl rfl rfl ?_
      | refine aops_eff (eff_indexAddr_list TT_ok rfl rfl rfl rfl rfl rfl (map_at (at_lt (by omega)))) rfl rfl rfl ?_
      | refine aops_eff (w_add rfl rfl (by omega)) rfl rfl rfl ?_
      | refine aops_skip rfl rfl ?_
      | refine aops_eff (eff_pick rfl rfl) rfl rfl rfl ?_
      | refine aops_eff (w_field_ref TT_ok rfl rfl rfl rfl rfl rfl) rfl rfl rfl ?_
      | refine aops_eff (w_not rfl) rfl rfl rfl ?_
      | refine aops_eff (w_box rfl rfl rfl rfl) rfl rfl rfl ?_
      | refine aops_eff (w_alloc TT_ok rfl rfl) rfl rfl rfl ?_
      | refine aops_eff (w_store TT_ok rfl rfl rfl rfl rfl rfl rfl rfl) rfl rfl rfl ?_
      | refine aops_eff (w_len_own TT_ok rfl rfl rfl rfl) rfl rfl rfl ?_
      | refine aops_eff (w_len_nil TT_ok rfl rfl rfl) rfl rfl rfl ?_
      | refine aops_eff (eff_extract rfl rfl (by intro _ h; cases h)) rfl rfl rfl ?_
      | refine aops_eff (w_lit TT_ok rfl rfl rfl rfl rfl rfl rfl rfl rfl rfl rfl) rfl rfl rfl ?_
      | refine aops_eff (w_build TT_ok rfl rfl rfl rfl rfl rfl) rfl rfl rfl ?_)
    refine aops_eff (w_call0s (h_l_rep a.rep b.rep) rfl (va_cons (va_agg rfl) (va_cons (va_agg rfl) va_nil))) rfl rfl rfl ?_
    repeat (first
      | refine aops_nil ?_
      | refine ac_seq ?_
      | refine ac_region ?_
      | refine then_n ?_
      | refine then_ret ?_
      | refine then_exit ?_
      | refine block_n ?_
      | refine block_ret ?_
      | refine block_here ?_
      | refine block_out rfl ?_
      | refine ac_region_draw MIX ?_
      | refine ac_block ?_
      | refine ac_skip ?_
      | refine ac_exit ?_
      | refine ac_ret ?_
      | refine aops_eff (eff_move rfl) rfl rfl rfl ?_
      | refine aops_eff (w_load_ptr TT_ok rfl rfl rfl rfl rfl rfl rfl) rfl rfl rfl ?_
      | refine aops_eff (w_field_ptr TT_ok rfl rfl rfl rfl rfl rfl rfl) rfl rfl rfl ?_
      | refine aops_eff (eff_assign rfl) rfl rfl rfl ?_
      | refine aops_eff (w_len_list TT_ok rfl rfl rfl) rfl rfl rfl ?_
      | refine aops_eff (w_load_ref TT_ok rfl rfl rfl rfl rfl rfl) rfl rfl rfl ?_
      | refine aops_eff (w_cmp rfl rfl rfl) rfl rfl rfl ?_
      | refine aops_eff (eff_indexAddr_list TT_ok rfl rfl rfl rfl rfl rfl (encI_at (by omega))) rfl rfl rfl ?_
      | refine aops_eff (eff_indexAddr_list TT_ok rfl rfl rfl rfl rfl rfl (map_at (at_lt (by omega)))) rfl rfl rfl ?_
      | refine aops_eff (w_add rfl rfl (by omega)) rfl rfl rfl ?_
      | refine aops_skip rfl rfl ?_
      | refine aops_eff (eff_pick rfl rfl) rfl rfl rfl ?_
      | refine aops_eff (w_field_ref TT_ok rfl rfl rfl rfl rfl rfl) rfl rfl rfl ?_
      | refine aops_eff (w_not rfl) rfl rfl rfl ?_
      | refine aops_eff (w_box rfl rfl rfl rfl) rfl rfl rfl ?_
      | refine aops_eff (w_alloc TT_ok rfl rfl) rfl rfl rfl ?_
      | refine aops_eff (w_store TT_ok rfl rfl rfl rfl rfl rfl rfl rfl) rfl rfl rfl ?_
      | refine aops_eff (w_len_own TT_ok rfl rfl rfl rfl) rfl rfl rfl ?_
      | refine aops_eff (w_len_nil TT_ok rfl rfl rfl) rfl rfl rfl ?_
      | refine aops_eff (eff_extract rfl rfl (by intro _ h; cases h)) rfl rfl rfl ?_
      | refine aops_eff (w_lit TT_ok rfl rfl rfl rfl rfl rfl rfl rfl rfl rfl rfl) rfl rfl rfl ?_
      | refine aops_eff (w_build TT_ok rfl rfl rfl rfl rfl rfl) rfl rfl rfl ?_)
    refine ac_cond rfl (fun h1 => ?_) (fun h1 => ?_)
    · simp at h1
      repeat (first
        | refine aops_nil ?_
        | refine ac_seq ?_
        | refine ac_region ?_
        | refine then_n ?_
        | refine then_ret ?_
        | refine then_exit ?_
        | refine block_n ?_
        | refine block_ret ?_
        | refine block_here ?_
        | refine block_out rfl ?_
        | refine ac_region_draw MIX ?_
        | refine ac_block ?_
        | refine ac_skip ?_
        | refine ac_exit ?_
        | refine ac_ret ?_
        | refine aops_eff (eff_move rfl) rfl rfl rfl ?_
        | refine aops_eff (w_load_ptr TT_ok rfl rfl rfl rfl rfl rfl rfl) rfl rfl rfl ?_
        | refine aops_eff (w_field_ptr TT_ok rfl rfl rfl rfl rfl rfl rfl) rfl rfl rfl ?_
        | refine aops_eff (eff_assign rfl) rfl rfl rfl ?_
        | refine aops_eff (w_len_list TT_ok rfl rfl rfl) rfl rfl rfl ?_
        | refine aops_eff (w_load_ref TT_ok rfl rfl rfl rfl rfl rfl) rfl rfl rfl ?_
        | refine aops_eff (w_cmp rfl rfl rfl) rfl rfl rfl ?_
        | refine aops_eff (eff_indexAddr_list TT_ok rfl rfl rfl rfl rfl rfl (encI_at (by omega))) rfl rfl rfl ?_
        | refine aops_eff (eff_indexAddr_list TT_ok rfl rfl rfl rfl rfl rfl (map_at (at_lt (by omega)))) rfl rfl rfl ?_
        | refine aops_eff (w_add rfl rfl (by omega)) rfl rfl rfl ?_
        | refine aops_skip rfl rfl ?_
        | refine aops_eff (eff_pick rfl rfl) rfl rfl rfl ?_
        | refine aops_eff (w_field_ref TT_ok rfl rfl rfl rfl rfl rfl) rfl rfl rfl ?_
        | refine aops_eff (w_not rfl) rfl rfl rfl ?_
        | refine aops_eff (w_box rfl rfl rfl rfl) rfl rfl rfl ?_
        | refine aops_eff (w_alloc TT_ok rfl rfl) rfl rfl rfl ?_
        | refine aops_eff (w_store TT_ok rfl rfl rfl rfl rfl rfl rfl rfl) rfl rfl rfl ?_
        | refine aops_eff (w_len_own TT_ok rfl rfl rfl rfl) rfl rfl rfl ?_
        | refine aops_eff (w_len_nil TT_ok rfl rfl rfl) rfl rfl rfl ?_
        | refine aops_eff (eff_extract rfl rfl (by intro _ h; cases h)) rfl rfl rfl ?_
        | refine aops_eff (w_lit TT_ok rfl rfl rfl rfl rfl rfl rfl rfl rfl rfl rfl) rfl rfl rfl ?_
        | refine aops_eff (w_build TT_ok rfl rfl rfl rfl rfl rfl) rfl rfl rfl ?_)
      refine ret_mk rfl rfl rfl ?_
      refine fz_bl ?_
      cases a; cases b; simp_all [Cl.mk.injEq]
    · simp at h1
      repeat (first
        | refine aops_nil ?_
        | refine ac_seq ?_
        | refine ac_region ?_
        | refine then_n ?_
        | refine then_ret ?_
        | refine then_exit ?_
        | refine block_n ?_
        | refine block_ret ?_
        | refine block_here ?_
        | refine block_out rfl ?_
        | refine ac_region_draw MIX ?_
        | refine ac_block ?_
        | refine ac_skip ?_
        | refine ac_exit ?_
        | refine ac_ret ?_
        | refine aops_eff (eff_move rfl) rfl rfl rfl ?_
        | refine aops_eff (w_load_ptr TT_ok rfl rfl rfl rfl rfl rfl rfl) rfl rfl rfl ?_
        | refine aops_eff (w_field_ptr TT_ok rfl rfl rfl rfl rfl rfl rfl) rfl rfl rfl ?_
        | refine aops_eff (eff_assign rfl) rfl rfl rfl ?_
        | refine aops_eff (w_len_list TT_ok rfl rfl rfl) rfl rfl rfl ?_
        | refine aops_eff (w_load_ref TT_ok rfl rfl rfl rfl rfl rfl) rfl rfl rfl ?_
        | refine aops_eff (w_cmp rfl rfl rfl) rfl rfl rfl ?_
        | refine aops_eff (eff_indexAddr_list TT_ok rfl rfl rfl rfl rfl rfl (encI_at (by omega))) rfl rfl rfl ?_
        | refine aops_eff (eff_indexAddr_list TT_ok rfl rfl rfl rfl rfl rfl (map_at (at_lt (by omega)))) rfl rfl rfl ?_
        | refine aops_eff (w_add rfl rfl (by omega)) rfl rfl rfl ?_
        | refine aops_skip rfl rfl ?_
        | refine aops_eff (eff_pick rfl rfl) rfl rfl rfl ?_
        | refine aops_eff (w_field_ref TT_ok rfl rfl rfl rfl rfl rfl) rfl rfl rfl ?_
        | refine aops_eff (w_not rfl) rfl rfl rfl ?_
        | refine aops_eff (w_box rfl rfl rfl rfl) rfl rfl rfl ?_
        | refine aops_eff (w_alloc TT_ok rfl rfl) rfl rfl rfl ?_
        | refine aops_eff (w_store TT_ok rfl rfl rfl rfl rfl rfl rfl rfl) rfl rfl rfl ?_
        | refine aops_eff (w_len_own TT_ok rfl rfl rfl rfl) rfl rfl rfl ?_
        | refine aops_eff (w_len_nil TT_ok rfl rfl rfl) rfl rfl rfl ?_
        | refine aops_eff (eff_extract rfl rfl (by intro _ h; cases h)) rfl rfl rfl ?_
        | refine aops_eff (w_lit TT_ok rfl rfl rfl rfl rfl rfl rfl rfl rfl rfl rfl) rfl rfl rfl ?_
        | refine aops_eff (w_build TT_ok rfl rfl rfl rfl rfl rfl) rfl rfl rfl ?_)
      refine aops_eff (w_call0s (h_l_rep a.other b.other) rfl (va_cons (va_agg rfl) (va_cons (va_agg rfl) va_nil))) rfl rfl rfl ?_
      repeat (first
        | refine aops_nil ?_
        | refine ac_seq ?_
        | refine ac_region ?_
        | refine then_n ?_
        | refine then_ret ?_
        | refine then_exit ?_
        | refine block_n ?_
        | refine block_ret ?_
        | refine block_here ?_
        | refine block_out rfl ?_
        | refine ac_region_draw MIX ?_
        | refine ac_block ?_
        | refine ac_skip ?_
        | refine ac_exit ?_
        | refine ac_ret ?_
        | refine aops_eff (eff_move rfl) rfl rfl rfl ?_
        | refine aops_eff (w_load_ptr TT_ok rfl rfl rfl rfl rfl rfl rfl) rfl rfl rfl ?_
        | refine aops_eff (w_field_ptr TT_ok rfl rfl rfl rfl rfl rfl rfl) rfl rfl rfl ?_
        | refine aops_eff (eff_assign rfl) rfl rfl rfl ?_
        | refine aops_eff (w_len_list TT_ok rfl rfl rfl) rfl rfl rfl ?_
        | refine aops_eff (w_load_ref TT_ok rfl rfl rfl rfl rfl rfl) rfl rfl rfl ?_
        | refine aops_eff (w_cmp rfl rfl rfl) rfl rfl rfl ?_
        | refine aops_eff (eff_indexAddr_list TT_ok rfl rfl rfl rfl rfl rfl (encI_at (by omega))) rfl rfl rfl ?_
        | refine aops_eff (eff_indexAddr_list TT_ok rfl rfl rfl rfl rfl rfl (map_at (at_lt (by omega)))) rfl rfl rfl ?_
        | refine aops_eff (w_add rfl rfl (by omega)) rfl rfl rfl ?_
        | refine aops_skip rfl rfl ?_
        | refine aops_eff (eff_pick rfl rfl) rfl rfl rfl ?_
        | refine aops_eff (w_field_ref TT_ok rfl rfl rfl rfl rfl rfl) rfl rfl rfl ?_
        | refine aops_eff (w_not rfl) rfl rfl rfl ?_
        | refine aops_eff (w_box rfl rfl rfl rfl) rfl rfl rfl ?_
        | refine aops_eff (w_alloc TT_ok rfl rfl) rfl rfl rfl ?_
        | refine aops_eff (w_store TT_ok rfl rfl rfl rfl rfl rfl rfl rfl) rfl rfl rfl ?_
        | refine aops_eff (w_len_own TT_ok rfl rfl rfl rfl) rfl rfl rfl ?_
        | refine aops_eff (w_len_nil TT_ok rfl rfl rfl) rfl rfl rfl ?_
        | refine aops_eff (eff_extract rfl rfl (by intro _ h; cases h)) rfl rfl rfl ?_
        | refine aops_eff (w_lit TT_ok rfl rfl rfl rfl rfl rfl rfl rfl rfl rfl rfl) rfl rfl rfl ?_
        | refine aops_eff (w_build TT_ok rfl rfl rfl rfl rfl rfl) rfl rfl rfl ?_)
      refine ac_cond rfl (fun h2 => ?_) (fun h2 => ?_)
      · simp at h2
        repeat (first
          | refine aops_nil ?_
          | refine ac_seq ?_
          | refine ac_region ?_
          | refine then_n ?_
          | refine then_ret ?_
          | refine then_exit ?_
          | refine block_n ?_
          | refine block_ret ?_
          | refine block_here ?_
          | refine block_out rfl ?_
          | refine ac_region_draw MIX ?_
          | refine ac_block ?_
          | refine ac_skip ?_
          | refine ac_exit ?_
          | refine ac_ret ?_
          | refine aops_eff (eff_move rfl) rfl rfl rfl ?_
          | refine aops_eff (w_load_ptr TT_ok rfl rfl rfl rfl rfl rfl rfl) rfl rfl rfl ?_
          | refine aops_eff (w_field_ptr TT_ok rfl rfl rfl rfl rfl rfl rfl) rfl rfl rfl ?_
          | refine aops_eff (eff_assign rfl) rfl rfl rfl ?_
          | refine aops_eff (w_len_list TT_ok rfl rfl rfl) rfl rfl rfl ?_
          | refine aops_eff (w_load_ref TT_ok rfl rfl rfl rfl rfl rfl) rfl rfl rfl ?_
          | refine aops_eff (w_cmp rfl rfl rfl) rfl rfl rfl ?_
          | refine aops_eff (eff_indexAddr_list TT_ok rfl rfl rfl rfl rfl rfl (encI_at (by omega))) rfl rfl rfl ?_
          | refine aops_eff (eff_indexAddr_list TT_ok rfl rfl rfl rfl rfl rfl (map_at (at_lt (by omega)))) rfl rfl rfl ?_
          | refine aops_eff (w_add rfl rfl (by omega)) rfl rfl rfl ?_
          | refine aops_skip rfl rfl ?_
          | refine aops_eff (eff_pick rfl rfl) rfl rfl rfl ?_
          | refine aops_eff (w_field_ref TT_ok rfl rfl rfl rfl rfl rfl) rfl rfl rfl ?_
          | refine aops_eff (w_not rfl) rfl rfl rfl ?_
          | refine aops_eff (w_box rfl rfl rfl rfl) rfl rfl rfl ?_
          | refine aops_eff (w_alloc TT_ok rfl rfl) rfl rfl rfl ?_
          | refine aops_eff (w_store TT_ok rfl rfl rfl rfl rfl rfl rfl rfl) rfl rfl rfl ?_
          | refine aops_eff (w_len_own TT_ok rfl rfl rfl rfl) rfl rfl rfl ?_
          | refine aops_eff (w_len_nil TT_ok rfl rfl rfl) rfl rfl rfl ?_
          | refine aops_eff (eff_extract rfl rfl (by intro _ h; cases h)) rfl rfl rfl ?_
          | refine aops_eff (w_lit TT_ok rfl rfl rfl rfl rfl rfl rfl rfl rfl rfl rfl) rfl rfl rfl ?_
          | refine aops_eff (w_build TT_ok rfl rfl rfl rfl rfl rfl) rfl rfl rfl ?_)
        refine ret_mk rfl rfl rfl ?_
        refine fz_bl ?_
        cases a; cases b; simp_all [Cl.mk.injEq]
      · simp at h2
        repeat (first
          | refine aops_nil ?_
          | refine ac_seq ?_
          | refine ac_region ?_
          | refine then_n ?_
          | refine then_ret ?_
          | refine then_exit ?_
          | refine block_n ?_
          | refine block_ret ?_
          | refine block_here ?_
          | refine block_out rfl ?_
          | refine ac_region_draw MIX ?_
          | refine ac_block ?_
          | refine ac_skip ?_
          | refine ac_exit ?_
          | refine ac_ret ?_
          | refine aops_eff (eff_move rfl) rfl rfl rfl ?_
          | refine aops_eff (w_load_ptr TT_ok rfl rfl rfl rfl rfl rfl rfl) rfl rfl rfl ?_
          | refine aops_eff (w_field_ptr TT_ok rfl rfl rfl rfl rfl rfl rfl) rfl rfl rfl ?_
          | refine aops_eff (eff_assign rfl) rfl rfl rfl ?_
          | refine aops_eff (w_len_list TT_ok rfl rfl rfl) rfl rfl rfl ?_
          | refine aops_eff (w_load_ref TT_ok rfl rfl rfl rfl rfl rfl) rfl rfl rfl ?_
          | refine aops_eff (w_cmp rfl rfl rfl) rfl rfl rfl ?_
          | refine aops_eff (eff_indexAddr_list TT_ok rfl rfl rfl rfl rfl rfl (encI_at (by omega))) rfl rfl rfl ?_
          | refine aops_eff (eff_indexAddr_list TT_ok rfl rfl rfl rfl rfl rfl (map_at (at_lt (by omega)))) rfl rfl rfl ?_
          | refine aops_eff (w_add rfl rfl (by omega)) rfl rfl rfl ?_
          | refine aops_skip rfl rfl ?_
          | refine aops_eff (eff_pick rfl rfl) rfl rfl rfl ?_
          | refine aops_eff (w_field_ref TT_ok rfl rfl rfl rfl rfl rfl) rfl rfl rfl ?_
          | refine aops_eff (w_not rfl) rfl rfl rfl ?_
          | refine aops_eff (w_box rfl rfl rfl rfl) rfl rfl rfl ?_
          | refine aops_eff (w_alloc TT_ok rfl rfl) rfl rfl rfl ?_
          | refine aops_eff (w_store TT_ok rfl rfl rfl rfl rfl rfl rfl rfl) rfl rfl rfl ?_
          | refine aops_eff (w_len_own TT_ok rfl rfl rfl rfl) rfl rfl rfl ?_
          | refine aops_eff (w_len_nil TT_ok rfl rfl rfl) rfl rfl rfl ?_
          | refine aops_eff (eff_extract rfl rfl (by intro _ h; cases h)) rfl rfl rfl ?_
          | refine aops_eff (w_lit TT_ok rfl rfl rfl rfl rfl rfl rfl rfl rfl rfl rfl) rfl rfl rfl ?_
          | refine aops_eff (w_build TT_ok rfl rfl rfl rfl rfl rfl) rfl rfl rfl ?_)
        refine aops_eff (w_call0s (h_l_reps a.parts b.parts) rfl (va_cons (va_same rfl) (va_cons (va_same rfl) va_nil))) rfl rfl rfl ?_
        repeat (first
          | refine aops_nil ?_
          | refine ac_seq ?_
          | refine ac_region ?_
          | refine then_n ?_
          | refine then_ret ?_
          | refine then_exit ?_
          | refine block_n ?_
          | refine block_ret ?_
          | refine block_here ?_
          | refine block_out rfl ?_
          | refine ac_region_draw MIX ?_
          | refine ac_block ?_
          | refine ac_skip ?_
          | refine ac_exit ?_
          | refine ac_ret ?_
          | refine aops_eff (eff_move rfl) rfl rfl rfl ?_
          | refine aops_eff (w_load_ptr TT_ok rfl rfl rfl rfl rfl rfl rfl) rfl rfl rfl ?_
          | refine aops_eff (w_field_ptr TT_ok rfl rfl rfl rfl rfl rfl rfl) rfl rfl rfl ?_
          | refine aops_eff (eff_assign rfl) rfl rfl rfl ?_
          | refine aops_eff (w_len_list TT_ok rfl rfl rfl) rfl rfl rfl ?_
          | refine aops_eff (w_load_ref TT_ok rfl rfl rfl rfl rfl rfl) rfl rfl rfl ?_
          | refine aops_eff (w_cmp rfl rfl rfl) rfl rfl rfl ?_
          | refine aops_eff (eff_indexAddr_list TT_ok rfl rfl rfl rfl rfl rfl (encI_at (by omega))) rfl rfl rfl ?_
          | refine aops_eff (eff_indexAddr_list TT_ok rfl rfl rfl rfl rfl rfl (map_at (at_lt (by omega)))) rfl rfl rfl ?_
          | refine aops_eff (w_add rfl rfl (by omega)) rfl rfl rfl ?_
          | refine aops_skip rfl rfl ?_
          | refine aops_eff (eff_pick rfl rfl) rfl rfl rfl ?_
          | refine aops_eff (w_field_ref TT_ok rfl rfl rfl rfl rfl rfl) rfl rfl rfl ?_
          | refine aops_eff (w_not rfl) rfl rfl rfl ?_
          | refine aops_eff (w_box rfl rfl rfl rfl) rfl rfl rfl ?_
          | refine aops_eff (w_alloc TT_ok rfl rfl) rfl rfl rfl ?_
          | refine aops_eff (w_store TT_ok rfl rfl rfl rfl rfl rfl rfl rfl) rfl rfl rfl ?_
          | refine aops_eff (w_len_own TT_ok rfl rfl rfl rfl) rfl rfl rfl ?_
          | refine aops_eff (w_len_nil TT_ok rfl rfl rfl) rfl rfl rfl ?_
          | refine aops_eff (eff_extract rfl rfl (by intro _ h; cases h)) rfl rfl rfl ?_
          | refine aops_eff (w_lit TT_ok rfl rfl rfl rfl rfl rfl rfl rfl rfl rfl rfl) rfl rfl rfl ?_
          | refine aops_eff (w_build TT_ok rfl rfl rfl rfl rfl rfl) rfl rfl rfl ?_)
        refine ac_cond rfl (fun h3 => ?_) (fun h3 => ?_)
        · simp at h3
          repeat (first
            | refine aops_nil ?_
            | refine ac_seq ?_
            | refine ac_region ?_
            | refine then_n ?_
            | refine then_ret ?_
            | refine then_exit ?_
            | refine block_n ?_
            | refine block_ret ?_
            | refine block_here ?_
            | refine block_out rfl ?_
            | refine ac_region_draw MIX ?_
            | refine ac_block ?_
            | refine ac_skip ?_
            | refine ac_exit ?_
            | refine ac_ret ?_
            | refine aops_eff (eff_move rfl) rfl rfl rfl ?_
            | refine aops_eff (w_load_ptr TT_ok rfl rfl rfl rfl rfl rfl rfl) rfl rfl rfl ?_
            | refine aops_eff (w_field_ptr TT_ok rfl rfl rfl rfl rfl rfl rfl) rfl rfl rfl ?_
            | refine aops_eff (eff_assign rfl) rfl rfl rfl ?_
            | refine aops_eff (w_len_list TT_ok rfl rfl rfl) rfl rfl rfl ?_
            | refine aops_eff (w_load_ref TT_ok rfl rfl rfl rfl rfl rfl) rfl rfl rfl ?_
            | refine aops_eff (w_cmp rfl rfl rfl) rfl rfl rfl ?_
            | refine aops_eff (eff_indexAddr_list TT_ok rfl rfl rfl rfl rfl rfl (encI_at (by omega))) rfl rfl rfl ?_
            | refine aops_eff (eff_indexAddr_list TT_ok rfl rfl rfl rfl rfl rfl (map_at (at_lt (by omega)))) rfl rfl rfl ?_
            | refine aops_eff (w_add rfl rfl (by omega)) rfl rfl rfl ?_
            | refine aops_skip rfl rfl ?_
            | refine aops_eff (eff_pick rfl rfl) rfl rfl rfl ?_
            | refine aops_eff (w_field_ref TT_ok rfl rfl rfl rfl rfl rfl) rfl rfl rfl ?_
            | refine aops_eff (w_not rfl) rfl rfl rfl ?_
            | refine aops_eff (w_box rfl rfl rfl rfl) rfl rfl rfl ?_
            | refine aops_eff (w_alloc TT_ok rfl rfl) rfl rfl rfl ?_
            | refine aops_eff (w_store TT_ok rfl rfl rfl rfl rfl rfl rfl rfl) rfl rfl rfl ?_
            | refine aops_eff (w_len_own TT_ok rfl rfl rfl rfl) rfl rfl rfl ?_
            | refine aops_eff (w_len_nil TT_ok rfl rfl rfl) rfl rfl rfl ?_
            | refine aops_eff (eff_extract rfl rfl (by intro _ h; cases h)) rfl rfl rfl ?_
            | refine aops_eff (w_lit TT_ok rfl rfl rfl rfl rfl rfl rfl rfl rfl rfl rfl) rfl rfl rfl ?_
            | refine aops_eff (w_build TT_ok rfl rfl rfl rfl rfl rfl) rfl rfl rfl ?_)
          refine ret_mk rfl rfl rfl ?_
          refine fz_bl ?_
          cases a; cases b; simp_all [Cl.mk.injEq]
        · simp at h3
          repeat (first
            | refine aops_nil ?_
            | refine ac_seq ?_
            | refine ac_region ?_
            | refine then_n ?_
            | refine then_ret ?_
            | refine then_exit ?_
            | refine block_n ?_
            | refine block_ret ?_
            | refine block_here ?_
            | refine block_out rfl ?_
            | refine ac_region_draw MIX ?_
            | refine ac_block ?_
            | refine ac_skip ?_
            | refine ac_exit ?_
            | refine ac_ret ?_
            | refine aops_eff (eff_move rfl) rfl rfl rfl ?_
            | refine aops_eff (w_load_ptr TT_ok rfl rfl rfl rfl rfl rfl rfl) rfl rfl rfl ?_
            | refine aops_eff (w_field_ptr TT_ok rfl rfl rfl rfl rfl rfl rfl) rfl rfl rfl ?_
            | refine aops_eff (eff_assign rfl) rfl rfl rfl ?_
            | refine aops_eff (w_len_list TT_ok rfl rfl rfl) rfl rfl rfl ?_
            | refine aops_eff (w_load_ref TT_ok rfl rfl rfl rfl rfl rfl) rfl rfl rfl ?_
            | refine aops_eff (w_cmp rfl rfl rfl) rfl rfl rfl ?_
            | refine aops_eff (eff_indexAddr_list TT_ok rfl rfl rfl rfl rfl rfl (encI_at (by omega))) rfl rfl rfl ?_
            | refine aops_eff (eff_indexAddr_list TT_ok rfl rfl rfl rfl rfl rfl (map_at (at_lt (by omega)))) rfl rfl rfl ?_
            | refine aops_eff (w_add rfl rfl (by omega)) rfl rfl rfl ?_
            | refine aops_skip rfl rfl ?_
            | refine aops_eff (eff_pick rfl rfl) rfl rfl rfl ?_
            | refine aops_eff (w_field_ref TT_ok rfl rfl rfl rfl rfl rfl) rfl rfl rfl ?_
            | refine aops_eff (w_not rfl) rfl rfl rfl ?_
            | refine aops_eff (w_box rfl rfl rfl rfl) rfl rfl rfl ?_
            | refine aops_eff (w_alloc TT_ok rfl rfl) rfl rfl rfl ?_
            | refine aops_eff (w_store TT_ok rfl rfl rfl rfl rfl rfl rfl rfl) rfl rfl rfl ?_
            | refine aops_eff (w_len_own TT_ok rfl rfl rfl rfl) rfl rfl rfl ?_
            | refine aops_eff (w_len_nil TT_ok rfl rfl rfl) rfl rfl rfl ?_
            | refine aops_eff (eff_extract rfl rfl (by intro _ h; cases h)) rfl rfl rfl ?_
            | refine aops_eff (w_lit TT_ok rfl rfl rfl rfl rfl rfl rfl rfl rfl rfl rfl) rfl rfl rfl ?_
            | refine aops_eff (w_build TT_ok rfl rfl rfl rfl rfl rfl) rfl rfl rfl ?_)
          refine aops_eff (w_call0s (h_l_mats a.maps b.maps) rfl (va_cons (va_same rfl) (va_cons (va_same rfl) va_nil))) rfl rfl rfl ?_
          repeat (first
            | refine aops_nil ?_
            | refine ac_seq ?_
            | refine ac_region ?_
            | refine then_n ?_
            | refine then_ret ?_
            | refine then_exit ?_
            | refine block_n ?_
            | refine block_ret ?_
            | refine block_here ?_
            | refine block_out rfl ?_
            | refine ac_region_draw MIX ?_
            | refine ac_block ?_
            | refine ac_skip ?_
            | refine ac_exit ?_
            | refine ac_ret ?_
            | refine aops_eff (eff_move rfl) rfl rfl rfl ?_
            | refine aops_eff (w_load_ptr TT_ok rfl rfl rfl rfl rfl rfl rfl) rfl rfl rfl ?_
            | refine aops_eff (w_field_ptr TT_ok rfl rfl rfl rfl rfl rfl rfl) rfl rfl rfl ?_
            | refine aops_eff (eff_assign rfl) rfl rfl rfl ?_
            | refine aops_eff (w_len_list TT_ok rfl rfl rfl) rfl rfl rfl ?_
            | refine aops_eff (w_load_ref TT_ok rfl rfl rfl rfl rfl rfl) rfl rfl rfl ?_
            | refine aops_eff (w_cmp rfl rfl rfl) rfl rfl rfl ?_
            | refine aops_eff (eff_indexAddr_list TT_ok rfl rfl rfl rfl rfl rfl (encI_at (by omega))) rfl rfl rfl ?_
            | refine aops_eff (eff_indexAddr_list TT_ok rfl rfl rfl rfl rfl rfl (map_at (at_lt (by omega)))) rfl rfl rfl ?_
            | refine aops_eff (w_add rfl rfl (by omega)) rfl rfl rfl ?_
            | refine aops_skip rfl rfl ?_
            | refine aops_eff (eff_pick rfl rfl) rfl rfl rfl ?_
            | refine aops_eff (w_field_ref TT_ok rfl rfl rfl rfl rfl rfl) rfl rfl rfl ?_
            | refine aops_eff (w_not rfl) rfl rfl rfl ?_
            | refine aops_eff (w_box rfl rfl rfl rfl) rfl rfl rfl ?_
            | refine aops_eff (w_alloc TT_ok rfl rfl) rfl rfl rfl ?_
            | refine aops_eff (w_store TT_ok rfl rfl rfl rfl rfl rfl rfl rfl) rfl rfl rfl ?_
            | refine aops_eff (w_len_own TT_ok rfl rfl rfl rfl) rfl rfl rfl ?_
            | refine aops_eff (w_len_nil TT_ok rfl rfl rfl) rfl rfl rfl ?_
            | refine aops_eff (eff_extract rfl rfl (by intro _ h; cases h)) rfl rfl rfl ?_
            | refine aops_eff (w_lit TT_ok rfl rfl rfl rfl rfl rfl rfl rfl rfl rfl rfl) rfl rfl rfl ?_
            | refine aops_eff (w_build TT_ok rfl rfl rfl rfl rfl rfl) rfl rfl rfl ?_)
          refine ac_cond rfl (fun h4 => ?_) (fun h4 => ?_)
          · simp at h4
            repeat (first
              | refine aops_nil ?_
              | refine ac_seq ?_
              | refine ac_region ?_
              | refine then_n ?_
              | refine then_ret ?_
              | refine then_exit ?_
              | refine block_n ?_
              | refine block_ret ?_
              | refine block_here ?_
              | refine block_out rfl ?_
              | refine ac_region_draw MIX ?_
              | refine ac_block ?_
              | refine ac_skip ?_
              | refine ac_exit ?_
              | refine ac_ret ?_
              | refine aops_eff (eff_move rfl) rfl rfl rfl ?_
              | refine aops_eff (w_load_ptr TT_ok rfl rfl rfl rfl rfl rfl rfl) rfl rfl rfl ?_
              | refine aops_eff (w_field_ptr TT_ok rfl rfl rfl rfl rfl rfl rfl) rfl rfl rfl ?_
              | refine aops_eff (eff_assign rfl) rfl rfl rfl ?_
              | refine aops_eff (w_len_list TT_ok rfl rfl rfl) rfl rfl rfl ?_
              | refine aops_eff (w_load_ref TT_ok rfl rfl rfl rfl rfl rfl) rfl rfl rfl ?_
              | refine aops_eff (w_cmp rfl rfl rfl) rfl rfl rfl ?_
              | refine aops_eff (eff_indexAddr_list TT_ok rfl rfl rfl rfl rfl rfl (encI_at (by omega))) rfl rfl rfl ?_
              | refine aops_eff (eff_indexAddr_list TT_ok rfl rfl rfl rfl rfl rfl (map_at (at_lt (by omega)))) rfl rfl rfl ?_
              | refine aops_eff (w_add rfl rfl (by omega)) rfl rfl rfl ?_
              | refine aops_skip rfl rfl ?_
              | refine aops_eff (eff_pick rfl rfl) rfl rfl rfl ?_
              | refine aops_eff (w_field_ref TT_ok rfl rfl rfl rfl rfl rfl) rfl rfl rfl ?_
              | refine aops_eff (w_not rfl) rfl rfl rfl ?_
              | refine aops_eff (w_box rfl rfl rfl rfl) rfl rfl rfl ?_
              | refine aops_eff (w_alloc TT_ok rfl rfl) rfl rfl rfl ?_
              | refine aops_eff (w_store TT_ok rfl rfl rfl rfl rfl rfl rfl rfl) rfl rfl rfl ?_
              | refine aops_eff (w_len_own TT_ok rfl rfl rfl rfl) rfl rfl rfl ?_
              | refine aops_eff (w_len_nil TT_ok rfl rfl rfl) rfl rfl rfl ?_
              | refine aops_eff (eff_extract rfl rfl (by intro _ h; cases h)) rfl rfl rfl ?_
              | refine aops_eff (w_lit TT_ok rfl rfl rfl rfl rfl rfl rfl rfl rfl rfl rfl) rfl rfl rfl ?_
              | refine aops_eff (w_build TT_ok rfl rfl rfl rfl rfl rfl) rfl rfl rfl ?_)
            refine ret_mk rfl rfl rfl ?_
            refine fz_bl ?_
            cases a; cases b; simp_all [Cl.mk.injEq]
          · simp at h4
            repeat (first
              | refine aops_nil ?_
              | refine ac_seq ?_
              | refine ac_region ?_
              | refine then_n ?_
              | refine then_ret ?_
              | refine then_exit ?_
              | refine block_n ?_
              | refine block_ret ?_
              | refine block_here ?_
              | refine block_out rfl ?_
              | refine ac_region_draw MIX ?_
              | refine ac_block ?_
              | refine ac_skip ?_
              | refine ac_exit ?_
              | refine ac_ret ?_
              | refine aops_eff (eff_move rfl) rfl rfl rfl ?_
              | refine aops_eff (w_load_ptr TT_ok rfl rfl rfl rfl rfl rfl rfl) rfl rfl rfl ?_
              | refine aops_eff (w_field_ptr TT_ok rfl rfl rfl rfl rfl rfl rfl) rfl rfl rfl ?_
              | refine aops_eff (eff_assign rfl) rfl rfl rfl ?_
              | refine aops_eff (w_len_list TT_ok rfl rfl rfl) rfl rfl rfl ?_
              | refine aops_eff (w_load_ref TT_ok rfl rfl rfl rfl rfl rfl) rfl rfl rfl ?_
              | refine aops_eff (w_cmp rfl rfl rfl) rfl rfl rfl ?_
              | refine aops_eff (eff_indexAddr_list TT_ok rfl rfl rfl rfl rfl rfl (encI_at (by omega))) rfl rfl rfl ?_
              | refine aops_eff (eff_indexAddr_list TT_ok rfl rfl rfl rfl rfl rfl (map_at (at_lt (by omega)))) rfl rfl rfl ?_
              | refine aops_eff (w_add rfl rfl (by omega)) rfl rfl rfl ?_
              | refine aops_skip rfl rfl ?_
              | refine aops_eff (eff_pick rfl rfl) rfl rfl rfl ?_
              | refine aops_eff (w_field_ref TT_ok rfl rfl rfl rfl rfl rfl) rfl rfl rfl ?_
              | refine aops_eff (w_not rfl) rfl rfl rfl ?_
              | refine aops_eff (w_box rfl rfl rfl rfl) rfl rfl rfl ?_
              | refine aops_eff (w_alloc TT_ok rfl rfl) rfl rfl rfl ?_
              | refine aops_eff (w_store TT_ok rfl rfl rfl rfl rfl rfl rfl rfl) rfl rfl rfl ?_
              | refine aops_eff (w_len_own TT_ok rfl rfl rfl rfl) rfl rfl rfl ?_
              | refine aops_eff (w_len_nil TT_ok rfl rfl rfl) rfl rfl rfl ?_
              | refine aops_eff (eff_extract rfl rfl (by intro _ h; cases h)) rfl rfl rfl ?_
              | refine aops_eff (w_lit TT_ok rfl rfl rfl rfl rfl rfl rfl rfl rfl rfl rfl) rfl rfl rfl ?_
              | refine aops_eff (w_build TT_ok rfl rfl rfl rfl rfl rfl) rfl rfl rfl ?_)
            refine aops_eff (w_call0s (h_l_bars a.bars b.bars) rfl (va_cons (va_same rfl) (va_cons (va_same rfl) va_nil))) rfl rfl rfl ?_
            repeat (first
              | refine aops_nil ?_
              | refine ac_seq ?_
              | refine ac_region ?_
              | refine then_n ?_
              | refine then_ret ?_
              | refine then_exit ?_
              | refine block_n ?_
              | refine block_ret ?_
              | refine block_here ?_
              | refine block_out rfl ?_
              | refine ac_region_draw MIX ?_
              | refine ac_block ?_
              | refine ac_skip ?_
              | refine ac_exit ?_
              | refine ac_ret ?_
              | refine aops_eff (eff_move rfl) rfl rfl rfl ?_
              | refine aops_eff (w_load_ptr TT_ok rfl rfl rfl rfl rfl rfl rfl) rfl rfl rfl ?_
              | refine aops_eff (w_field_ptr TT_ok rfl rfl rfl rfl rfl rfl rfl) rfl rfl rfl ?_
              | refine aops_eff (eff_assign rfl) rfl rfl rfl ?_
              | refine aops_eff (w_len_list TT_ok rfl rfl rfl) rfl rfl rfl ?_
              | refine aops_eff (w_load_ref TT_ok rfl rfl rfl rfl rfl rfl) rfl rfl rfl ?_
              | refine aops_eff (w_cmp rfl rfl rfl) rfl rfl rfl ?_
              | refine aops_eff (eff_indexAddr_list TT_ok rfl rfl rfl rfl rfl rfl (encI_at (by omega))) rfl rfl rfl ?_
              | refine aops_eff (eff_indexAddr_list TT_ok rfl rfl rfl rfl rfl rfl (map_at (at_lt (by omega)))) rfl rfl rfl ?_
              | refine aops_eff (w_add rfl rfl (by omega)) rfl rfl rfl ?_
              | refine aops_skip rfl rfl ?_
              | refine aops_eff (eff_pick rfl rfl) rfl rfl rfl ?_
              | refine aops_eff (w_field_ref TT_ok rfl rfl rfl rfl rfl rfl) rfl rfl rfl ?_
              | refine aops_eff (w_not rfl) rfl rfl rfl ?_
              | refine aops_eff (w_box rfl rfl rfl rfl) rfl rfl rfl ?_
              | refine aops_eff (w_alloc TT_ok rfl rfl) rfl rfl rfl ?_
              | refine aops_eff (w_store TT_ok rfl rfl rfl rfl rfl rfl rfl rfl) rfl rfl rfl ?_
              | refine aops_eff (w_len_own TT_ok rfl rfl rfl rfl) rfl rfl rfl ?_
              | refine aops_eff (w_len_nil TT_ok rfl rfl rfl) rfl rfl rfl ?_
              | refine aops_eff (eff_extract rfl rfl (by intro _ h; cases h)) rfl rfl rfl ?_
              | refine aops_eff (w_lit TT_ok rfl rfl rfl rfl rfl rfl rfl rfl rfl rfl rfl) rfl rfl rfl ?_
              | refine aops_eff (w_build TT_ok rfl rfl rfl rfl rfl rfl) rfl rfl rfl ?_)
            refine ac_cond rfl (fun h5 => ?_) (fun h5 => ?_)
            · simp at h5
              repeat (first
                | refine aops_nil ?_
                | refine ac_seq ?_
                | refine ac_region ?_
                | refine then_n ?_
                | refine then_ret ?_
                | refine then_exit ?_
                | refine block_n ?_
                | refine block_ret ?_
                | refine block_here ?_
                | refine block_out rfl ?_
                | refine ac_region_draw MIX ?_
                | refine ac_block ?_
                | refine ac_skip ?_
                | refine ac_exit ?_
                | refine ac_ret ?_
                | refine aops_eff (eff_move rfl) rfl rfl rfl ?_
                | refine aops_eff (w_load_ptr TT_ok rfl rfl rfl rfl rfl rfl rfl) rfl rfl rfl ?_
                | refine aops_eff (w_field_ptr TT_ok rfl rfl rfl rfl rfl rfl rfl) rfl rfl rfl ?_
                | refine aops_eff (eff_assign rfl) rfl rfl rfl ?_
                | refine aops_eff (w_len_list TT_ok rfl rfl rfl) rfl rfl rfl ?_
                | refine aops_eff (w_load_ref TT_ok rfl rfl rfl rfl rfl rfl) rfl rfl rfl ?_
                | refine aops_eff (w_cmp rfl rfl rfl) rfl rfl rfl ?_
                | refine aops_eff (eff_indexAddr_list TT_ok rfl rfl rfl rfl rfl rfl (encI_at (by omega))) rfl rfl rfl ?_
                | refine aops_eff (eff_indexAddr_list TT_ok rfl rfl rfl rfl rfl rfl (map_at (at_lt (by omega)))) rfl rfl rfl ?_
                | refine aops_eff (w_add rfl rfl (by omega)) rfl rfl rfl ?_
                | refine aops_skip rfl rfl ?_
                | refine aops_eff (eff_pick rfl rfl) rfl rfl rfl ?_
                | refine aops_eff (w_field_ref TT_ok rfl rfl rfl rfl rfl rfl) rfl rfl rfl ?_
                | refine aops_eff (w_not rfl) rfl rfl rfl ?_
                | refine aops_eff (w_box rfl rfl rfl rfl) rfl rfl rfl ?_
                | refine aops_eff (w_alloc TT_ok rfl rfl) rfl rfl rfl ?_
                | refine aops_eff (w_store TT_ok rfl rfl rfl rfl rfl rfl rfl rfl) rfl rfl rfl ?_
                | refine aops_eff (w_len_own TT_ok rfl rfl rfl rfl) rfl rfl rfl ?_
                | refine aops_eff (w_len_nil TT_ok rfl rfl rfl) rfl rfl rfl ?_
                | refine aops_eff (eff_extract rfl rfl (by intro _ h; cases h)) rfl rfl rfl ?_
                | refine aops_eff (w_lit TT_ok rfl rfl rfl rfl rfl rfl rfl rfl rfl rfl rfl) rfl rfl rfl ?_
                | refine aops_eff (w_build TT_ok rfl rfl rfl rfl rfl rfl) rfl rfl rfl ?_)
              refine ret_mk rfl rfl rfl ?_
              refine fz_bl ?_
              cases a; cases b; simp_all [Cl.mk.injEq]
            · simp at h5
              repeat (first
                | refine aops_nil ?_
                | refine ac_seq ?_
                | refine ac_region ?_
                | refine then_n ?_
                | refine then_ret ?_
                | refine then_exit ?_
                | refine block_n ?_
                | refine block_ret ?_
                | refine block_here ?_
                | refine block_out rfl ?_
                | refine ac_region_draw MIX ?_
                | refine ac_block ?_
                | refine ac_skip ?_
                | refine ac_exit ?_
                | refine ac_ret ?_
                | refine aops_eff (eff_move rfl) rfl rfl rfl ?_
                | refine aops_eff (w_load_ptr TT_ok rfl rfl rfl rfl rfl rfl rfl) rfl rfl rfl ?_
                | refine aops_eff (w_field_ptr TT_ok rfl rfl rfl rfl rfl rfl rfl) rfl rfl rfl ?_
                | refine aops_eff (eff_assign rfl) rfl rfl rfl ?_
                | refine aops_eff (w_len_list TT_ok rfl rfl rfl) rfl rfl rfl ?_
                | refine aops_eff (w_load_ref TT_ok rfl rfl rfl rfl rfl rfl) rfl rfl rfl ?_
                | refine aops_eff (w_cmp rfl rfl rfl) rfl rfl rfl ?_
                | refine aops_eff (eff_indexAddr_list TT_ok rfl rfl rfl rfl rfl rfl (encI_at (by omega))) rfl rfl rfl ?_
                | refine aops_eff (eff_indexAddr_list TT_ok rfl rfl rfl rfl rfl rfl (map_at (at_lt (by omega)))) rfl rfl rfl ?_
                | refine aops_eff (w_add rfl rfl (by omega)) rfl rfl rfl ?_
                | refine aops_skip rfl rfl ?_
                | refine aops_eff (eff_pick rfl rfl) rfl rfl rfl ?_
                | refine aops_eff (w_field_ref TT_ok rfl rfl rfl rfl rfl rfl) rfl rfl rfl ?_
                | refine aops_eff (w_not rfl) rfl rfl rfl ?_
                | refine aops_eff (w_box rfl rfl rfl rfl) rfl rfl rfl ?_
                | refine aops_eff (w_alloc TT_ok rfl rfl) rfl rfl rfl ?_
                | refine aops_eff (w_store TT_ok rfl rfl rfl rfl rfl rfl rfl rfl) rfl rfl rfl ?_
                | refine aops_eff (w_len_own TT_ok rfl rfl rfl rfl) rfl rfl rfl ?_
                | refine aops_eff (w_len_nil TT_ok rfl rfl rfl) rfl rfl rfl ?_
                | refine aops_eff (eff_extract rfl rfl (by intro _ h; cases h)) rfl rfl rfl ?_
                | refine aops_eff (w_lit TT_ok rfl rfl rfl rfl rfl rfl rfl rfl rfl rfl rfl) rfl rfl rfl ?_
                | refine aops_eff (w_build TT_ok rfl rfl rfl rfl rfl rfl) rfl rfl rfl ?_)
              refine aops_eff (w_call0s (h_eqIntS a.theta b.theta) rfl (va_cons (va_same rfl) (va_cons (va_same rfl) va_nil))) rfl rfl rfl ?_
              repeat (first
                | refine aops_nil ?_
                | refine ac_seq ?_
                | refine ac_region ?_
                | refine then_n ?_
                | refine then_ret ?_
                | refine then_exit ?_
                | refine block_n ?_
                | refine block_ret ?_
                | refine block_here ?_
                | refine block_out rfl ?_
                | refine ac_region_draw MIX ?_
                | refine ac_block ?_
                | refine ac_skip ?_
                | refine ac_exit ?_
                | refine ac_ret ?_
                | refine aops_eff (eff_move rfl) rfl rfl rfl ?_
                | refine aops_eff (w_load_ptr TT_ok rfl rfl rfl rfl rfl rfl rfl) rfl rfl rfl ?_
                | refine aops_eff (w_field_ptr TT_ok rfl rfl rfl rfl rfl rfl rfl) rfl rfl rfl ?_
                | refine aops_eff (eff_assign rfl) rfl rfl rfl ?_
                | refine aops_eff (w_len_list TT_ok rfl rfl rfl) rfl rfl rfl ?_
                | refine aops_eff (w_load_ref TT_ok rfl rfl rfl rfl rfl rfl) rfl rfl rfl ?_
                | refine aops_eff (w_cmp rfl rfl rfl) rfl rfl rfl ?_
                | refine aops_eff (eff_indexAddr_list TT_ok rfl rfl rfl rfl rfl rfl (encI_at (by omega))) rfl rfl rfl ?_
                | refine aops_eff (eff_indexAddr_list TT_ok rfl rfl rfl rfl rfl rfl (map_at (at_lt (by omega)))) rfl rfl rfl ?_
                | refine aops_eff (w_add rfl rfl (by omega)) rfl rfl rfl ?_
                | refine aops_skip rfl rfl ?_
                | refine aops_eff (eff_pick rfl rfl) rfl rfl rfl ?_
                | refine aops_eff (w_field_ref TT_ok rfl rfl rfl rfl rfl rfl) rfl rfl rfl ?_
                | refine aops_eff (w_not rfl) rfl rfl rfl ?_
                | refine aops_eff (w_box rfl rfl rfl rfl) rfl rfl rfl ?_
                | refine aops_eff (w_alloc TT_ok rfl rfl) rfl rfl rfl ?_
                | refine aops_eff (w_store TT_ok rfl rfl rfl rfl rfl rfl rfl rfl) rfl rfl rfl ?_
                | refine aops_eff (w_len_own TT_ok rfl rfl rfl rfl) rfl rfl rfl ?_
                | refine aops_eff (w_len_nil TT_ok rfl rfl rfl) rfl rfl rfl ?_
                | refine aops_eff (eff_extract rfl rfl (by intro _ h; cases h)) rfl rfl rfl ?_
                | refine aops_eff (w_lit TT_ok rfl rfl rfl rfl rfl rfl rfl rfl rfl rfl rfl) rfl rfl rfl ?_
                | refine aops_eff (w_build TT_ok rfl rfl rfl rfl rfl rfl) rfl rfl rfl ?_)
              refine ac_cond rfl (fun h6 => ?_) (fun h6 => ?_)
              · simp at h6
                repeat (first
                  | refine aops_nil ?_
                  | refine ac_seq ?_
                  | refine ac_region ?_
                  | refine then_n ?_
                  | refine then_ret ?_
                  | refine then_exit ?_
                  | refine block_n ?_
                  | refine block_ret ?_
                  | refine block_here ?_
                  | refine block_out rfl ?_
                  | refine ac_region_draw MIX ?_
                  | refine ac_block ?_
                  | refine ac_skip ?_
                  | refine ac_exit ?_
                  | refine ac_ret ?_
                  | refine aops_eff (eff_move rfl) rfl rfl rfl ?_
                  | refine aops_eff (w_load_ptr TT_ok rfl rfl rfl rfl rfl rfl rfl) rfl rfl rfl ?_
                  | refine aops_eff (w_field_ptr TT_ok rfl rfl rfl rfl rfl rfl rfl) rfl rfl rfl ?_
                  | refine aops_eff (eff_assign rfl) rfl rfl rfl ?_
                  | refine aops_eff (w_len_list TT_ok rfl rfl rfl) rfl rfl rfl ?_
                  | refine aops_eff (w_load_ref TT_ok rfl rfl rfl rfl rfl rfl) rfl rfl rfl ?_
                  | refine aops_eff (w_cmp rfl rfl rfl) rfl rfl rfl ?_
                  | refine aops_eff (eff_indexAddr_list TT_ok rfl rfl rfl rfl rfl rfl (encI_at (by omega))) rfl rfl rfl ?_
                  | refine aops_eff (eff_indexAddr_list TT_ok rfl rfl rfl rfl rfl rfl (map_at (at_lt (by omega)))) rfl rfl rfl ?_
                  | refine aops_eff (w_add rfl rfl (by omega)) rfl rfl rfl ?_
                  | refine aops_skip rfl rfl ?_
                  | refine aops_eff (eff_pick rfl rfl) rfl rfl rfl ?_
                  | refine aops_eff (w_field_ref TT_ok rfl rfl rfl rfl rfl rfl) rfl rfl rfl ?_
                  | refine aops_eff (w_not rfl) rfl rfl rfl ?_
                  | refine aops_eff (w_box rfl rfl rfl rfl) rfl rfl rfl ?_
                  | refine aops_eff (w_alloc TT_ok rfl rfl) rfl rfl rfl ?_
                  | refine aops_eff (w_store TT_ok rfl rfl rfl rfl rfl rfl rfl rfl) rfl rfl rfl ?_
                  | refine aops_eff (w_len_own TT_ok rfl rfl rfl rfl) rfl rfl rfl ?_
                  | refine aops_eff (w_len_nil TT_ok rfl rfl rfl) rfl rfl rfl ?_
                  | refine aops_eff (eff_extract rfl rfl (by intro _ h; cases h)) rfl rfl rfl ?_
                  | refine aops_eff (w_lit TT_ok rfl rfl rfl rfl rfl rfl rfl rfl rfl rfl rfl) rfl rfl rfl ?_
                  | refine aops_eff (w_build TT_ok rfl rfl rfl rfl rfl rfl) rfl rfl rfl ?_)
                refine ret_mk rfl rfl rfl ?_
                refine fz_bl ?_
                cases a; cases b; simp_all [Cl.mk.injEq]
              · simp at h6
                repeat (first
                  | refine aops_nil ?_
                  | refine ac_seq ?_
                  | refine ac_region ?_
                  | refine then_n ?_
                  | refine then_ret ?_
                  | refine then_exit ?_
                  | refine block_n ?_
                  | refine block_ret ?_
                  | refine block_here ?_
                  | refine block_out rfl ?_
                  | refine ac_region_draw MIX ?_
                  | refine ac_block ?_
                  | refine ac_skip ?_
                  | refine ac_exit ?_
                  | refine ac_ret ?_
                  | refine aops_eff (eff_move rfl) rfl rfl rfl ?_
                  | refine aops_eff (w_load_ptr TT_ok rfl rfl rfl rfl rfl rfl rfl) rfl rfl rfl ?_
                  | refine aops_eff (w_field_ptr TT_ok rfl rfl rfl rfl rfl rfl rfl) rfl rfl rfl ?_
                  | refine aops_eff (eff_assign rfl) rfl rfl rfl ?_
                  | refine aops_eff (w_len_list TT_ok rfl rfl rfl) rfl rfl rfl ?_
                  | refine aops_eff (w_load_ref TT_ok rfl rfl rfl rfl rfl rfl) rfl rfl rfl ?_
                  | refine aops_eff (w_cmp rfl rfl rfl) rfl rfl rfl ?_
                  | refine aops_eff (eff_indexAddr_list TT_ok rfl rfl rfl rfl rfl rfl (encI_at (by omega))) rfl rfl rfl ?_
                  | refine aops_eff (eff_indexAddr_list TT_ok rfl rfl rfl rfl rfl rfl (map_at (at_lt (by omega)))) rfl rfl rfl ?_
                  | refine aops_eff (w_add rfl rfl (by omega)) rfl rfl rfl ?_
                  | refine aops_skip rfl rfl ?_
                  | refine aops_eff (eff_pick rfl rfl) rfl rfl rfl ?_
                  | refine aops_eff (w_field_ref TT_ok rfl rfl rfl rfl rfl rfl) rfl rfl rfl ?_
                  | refine aops_eff (w_not rfl) rfl rfl rfl ?_
                  | refine aops_eff (w_box rfl rfl rfl rfl) rfl rfl rfl ?_
                  | refine aops_eff (w_alloc TT_ok rfl rfl) rfl rfl rfl ?_
                  | refine aops_eff (w_store TT_ok rfl rfl rfl rfl rfl rfl rfl rfl) rfl rfl rfl ?_
                  | refine aops_eff (w_len_own TT_ok rfl rfl rfl rfl) rfl rfl rfl ?_
                  | refine aops_eff (w_len_nil TT_ok rfl rfl rfl) rfl rfl rfl ?_
                  | refine aops_eff (eff_extract rfl rfl (by intro _ h; cases h)) rfl rfl rfl ?_
                  | refine aops_eff (w_lit TT_ok rfl rfl rfl rfl rfl rfl rfl rfl rfl rfl rfl) rfl rfl rfl ?_
                  | refine aops_eff (w_build TT_ok rfl rfl rfl rfl rfl rfl) rfl rfl rfl ?_)
                refine aops_eff (w_call0s (h_l_spaces a.subs b.subs) rfl (va_cons (va_same rfl) (va_cons (va_same rfl) va_nil))) rfl rfl rfl ?_
                repeat (first
                  | refine aops_nil ?_
                  | refine ac_seq ?_
                  | refine ac_region ?_
                  | refine then_n ?_
                  | refine then_ret ?_
                  | refine then_exit ?_
                  | refine block_n ?_
                  | refine block_ret ?_
                  | refine block_here ?_
                  | refine block_out rfl ?_
                  | refine ac_region_draw MIX ?_
                  | refine ac_block ?_
                  | refine ac_skip ?_
                  | refine ac_exit ?_
                  | refine ac_ret ?_
                  | refine aops_eff (eff_move rfl) rfl rfl rfl ?_
                  | refine aops_eff (w_load_ptr TT_ok rfl rfl rfl rfl rfl rfl rfl) rfl rfl rfl ?_
                  | refine aops_eff (w_field_ptr TT_ok rfl rfl rfl rfl rfl rfl rfl) rfl rfl rfl ?_
                  | refine aops_eff (eff_assign rfl) rfl rfl rfl ?_
                  | refine aops_eff (w_len_list TT_ok rfl rfl rfl) rfl rfl rfl ?_
                  | refine aops_eff (w_load_ref TT_ok rfl rfl rfl rfl rfl rfl) rfl rfl rfl ?_
                  | refine aops_eff (w_cmp rfl rfl rfl) rfl rfl rfl ?_
                  | refine aops_eff (eff_indexAddr_list TT_ok rfl rfl rfl rfl rfl rfl (encI_at (by omega))) rfl rfl rfl ?_
                  | refine aops_eff (eff_indexAddr_list TT_ok rfl rfl rfl rfl rfl rfl (map_at (at_lt (by omega)))) rfl rfl rfl ?_
                  | refine aops_eff (w_add rfl rfl (by omega)) rfl rfl rfl ?_
                  | refine aops_skip rfl rfl ?_
                  | refine aops_eff (eff_pick rfl rfl) rfl rfl rfl ?_
                  | refine aops_eff (w_field_ref TT_ok rfl rfl rfl rfl rfl rfl) rfl rfl rfl ?_
                  | refine aops_eff (w_not rfl) rfl rfl rfl ?_
                  | refine aops_eff (w_box rfl rfl rfl rfl) rfl rfl rfl ?_
                  | refine aops_eff (w_alloc TT_ok rfl rfl) rfl rfl rfl ?_
                  | refine aops_eff (w_store TT_ok rfl rfl rfl rfl rfl rfl rfl rfl) rfl rfl rfl ?_
                  | refine aops_eff (w_len_own TT_ok rfl rfl rfl rfl) rfl rfl rfl ?_
                  | refine aops_eff (w_len_nil TT_ok rfl rfl rfl) rfl rfl rfl ?_
                  | refine aops_eff (eff_extract rfl rfl (by intro _ h; cases h)) rfl rfl rfl ?_
                  | refine aops_eff (w_lit TT_ok rfl rfl rfl rfl rfl rfl rfl rfl rfl rfl rfl) rfl rfl rfl ?_
                  | refine aops_eff (w_build TT_ok rfl rfl rfl rfl rfl rfl) rfl rfl rfl ?_)
                refine ac_cond rfl (fun h7 => ?_) (fun h7 => ?_)
                · simp at h7
                  repeat (first
                    | refine aops_nil ?_
                    | refine ac_seq ?_
                    | refine ac_region ?_
                    | refine then_n ?_
                    | refine then_ret ?_
                    | refine then_exit ?_
                    | refine block_n ?_
                    | refine block_ret ?_
                    | refine block_here ?_
                    | refine block_out rfl ?_
                    | refine ac_region_draw MIX ?_
                    | refine ac_block ?_
                    | refine ac_skip ?_
                    | refine ac_exit ?_
                    | refine ac_ret ?_
                    | refine aops_eff (eff_move rfl) rfl rfl rfl ?_
                    | refine aops_eff (w_load_ptr TT_ok rfl rfl rfl rfl rfl rfl rfl) rfl rfl rfl ?_
                    | refine aops_eff (w_field_ptr TT_ok rfl rfl rfl rfl rfl rfl rfl) rfl rfl rfl ?_
                    | refine aops_eff (eff_assign rfl) rfl rfl rfl ?_
                    | refine aops_eff (w_len_list TT_ok rfl rfl rfl) rfl rfl rfl ?_
                    | refine aops_eff (w_load_ref TT_ok rfl rfl rfl rfl rfl rfl) rfl rfl rfl ?_
                    | refine aops_eff (w_cmp rfl rfl rfl) rfl rfl rfl ?_
                    | refine aops_eff (eff_indexAddr_list TT_ok rfl rfl rfl rfl rfl rfl (encI_at (by omega))) rfl rfl rfl ?_
                    | refine aops_eff (eff_indexAddr_list TT_ok rfl rfl rfl rfl rfl rfl (map_at (at_lt (by omega)))) rfl rfl rfl ?_
                    | refine aops_eff (w_add rfl rfl (by omega)) rfl rfl rfl ?_
                    | refine aops_skip rfl rfl ?_
                    | refine aops_eff (eff_pick rfl rfl) rfl rfl rfl ?_
                    | refine aops_eff (w_field_ref TT_ok rfl rfl rfl rfl rfl rfl) rfl rfl rfl ?_
                    | refine aops_eff (w_not rfl) rfl rfl rfl ?_
                    | refine aops_eff (w_box rfl rfl rfl rfl) rfl rfl rfl ?_
                    | refine aops_eff (w_alloc TT_ok rfl rfl) rfl rfl rfl ?_
                    | refine aops_eff (w_store TT_ok rfl rfl rfl rfl rfl rfl rfl rfl) rfl rfl rfl ?_
                    | refine aops_eff (w_len_own TT_ok rfl rfl rfl rfl) rfl rfl rfl ?_
                    | refine aops_eff (w_len_nil TT_ok rfl rfl rfl) rfl rfl rfl ?_
                    | refine aops_eff (eff_extract rfl rfl (by intro _ h; cases h)) rfl rfl rfl ?_
                    | refine aops_eff (w_lit TT_ok rfl rfl rfl rfl rfl rfl rfl rfl rfl rfl rfl) rfl rfl rfl ?_
                    | refine aops_eff (w_build TT_ok rfl rfl rfl rfl rfl rfl) rfl rfl rfl ?_)
                  refine ret_mk rfl rfl rfl ?_
                  refine fz_bl ?_
                  cases a; cases b; simp_all [Cl.mk.injEq]
                · simp at h7
                  repeat (first
                    | refine aops_nil ?_
                    | refine ac_seq ?_
                    | refine ac_region ?_
                    | refine then_n ?_
                    | refine then_ret ?_
                    | refine then_exit ?_
                    | refine block_n ?_
                    | refine block_ret ?_
                    | refine block_here ?_
                    | refine block_out rfl ?_
                    | refine ac_region_draw MIX ?_
                    | refine ac_block ?_
                    | refine ac_skip ?_
                    | refine ac_exit ?_
                    | refine ac_ret ?_
                    | refine aops_eff (eff_move rfl) rfl rfl rfl ?_
                    | refine aops_eff (w_load_ptr TT_ok rfl rfl rfl rfl rfl rfl rfl) rfl rfl rfl ?_
                    | refine aops_eff (w_field_ptr TT_ok rfl rfl rfl rfl rfl rfl rfl) rfl rfl rfl ?_
                    | refine aops_eff (eff_assign rfl) rfl rfl rfl ?_
                    | refine aops_eff (w_len_list TT_ok rfl rfl rfl) rfl rfl rfl ?_
                    | refine aops_eff (w_load_ref TT_ok rfl rfl rfl rfl rfl rfl) rfl rfl rfl ?_
                    | refine aops_eff (w_cmp rfl rfl rfl) rfl rfl rfl ?_
                    | refine aops_eff (eff_indexAddr_list TT_ok rfl rfl rfl rfl rfl rfl (encI_at (by omega))) rfl rfl rfl ?_
                    | refine aops_eff (eff_indexAddr_list TT_ok rfl rfl rfl rfl rfl rfl (map_at (at_lt (by omega)))) rfl rfl rfl ?_
                    | refine aops_eff (w_add rfl rfl (by omega)) rfl rfl rfl ?_
                    | refine aops_skip rfl rfl ?_
                    | refine aops_eff (eff_pick rfl rfl) rfl rfl rfl ?_
                    | refine aops_eff (w_field_ref TT_ok rfl rfl rfl rfl rfl rfl) rfl rfl rfl ?_
                    | refine aops_eff (w_not rfl) rfl rfl rfl ?_
                    | refine aops_eff (w_box rfl rfl rfl rfl) rfl rfl rfl ?_
                    | refine aops_eff (w_alloc TT_ok rfl rfl) rfl rfl rfl ?_
                    | refine aops_eff (w_store TT_ok rfl rfl rfl rfl rfl rfl rfl rfl) rfl rfl rfl ?_
                    | refine aops_eff (w_len_own TT_ok rfl rfl rfl rfl) rfl rfl rfl ?_
                    | refine aops_eff (w_len_nil TT_ok rfl rfl rfl) rfl rfl rfl ?_
                    | refine aops_eff (eff_extract rfl rfl (by intro _ h; cases h)) rfl rfl rfl ?_
                    | refine aops_eff (w_lit TT_ok rfl rfl rfl rfl rfl rfl rfl rfl rfl rfl rfl) rfl rfl rfl ?_
                    | refine aops_eff (w_build TT_ok rfl rfl rfl rfl rfl rfl) rfl rfl rfl ?_)
                  repeat (first
                    | refine aops_nil ?_
                    | refine ac_seq ?_
                    | refine ac_region ?_
                    | refine then_n ?_
                    | refine then_ret ?_
                    | refine then_exit ?_
                    | refine block_n ?_
                    | refine block_ret ?_
                    | refine block_here ?_
                    | refine block_out rfl ?_
                    | refine ac_region_draw MIX ?_
                    | refine ac_block ?_
                    | refine ac_skip ?_
                    | refine ac_exit ?_
                    | refine ac_ret ?_
                    | refine aops_eff (eff_move rfl) rfl rfl rfl ?_
                    | refine aops_eff (w_load_ptr TT_ok rfl rfl rfl rfl rfl rfl rfl) rfl rfl rfl ?_
                    | refine aops_eff (w_field_ptr TT_ok rfl rfl rfl rfl rfl rfl rfl) rfl rfl rfl ?_
                    | refine aops_eff (eff_assign rfl) rfl rfl rfl ?_
                    | refine aops_eff (w_len_list TT_ok rfl rfl rfl) rfl rfl rfl ?_
                    | refine aops_eff (w_load_ref TT_ok rfl rfl rfl rfl rfl rfl) rfl rfl rfl ?_
                    | refine aops_eff (w_cmp rfl rfl rfl) rfl rfl rfl ?_
                    | refine aops_eff (eff_indexAddr_list TT_ok rfl rfl rfl rfl rfl rfl (encI_at (by omega))) rfl rfl rfl ?_
                    | refine aops_eff (eff_indexAddr_list TT_ok rfl rfl rfl rfl rfl rfl (map_at (at_lt (by omega)))) rfl rfl rfl ?_
                    | refine aops_eff (w_add rfl rfl (by omega)) rfl rfl rfl ?_
                    | refine aops_skip rfl rfl ?_
                    | refine aops_eff (eff_pick rfl rfl) rfl rfl rfl ?_
                    | refine aops_eff (w_field_ref TT_ok rfl rfl rfl rfl rfl rfl) rfl rfl rfl ?_
                    | refine aops_eff (w_not rfl) rfl rfl rfl ?_
                    | refine aops_eff (w_box rfl rfl rfl rfl) rfl rfl rfl ?_
                    | refine aops_eff (w_alloc TT_ok rfl rfl) rfl rfl rfl ?_
                    | refine aops_eff (w_store TT_ok rfl rfl rfl rfl rfl rfl rfl rfl) rfl rfl rfl ?_
                    | refine aops_eff (w_len_own TT_ok rfl rfl rfl rfl) rfl rfl rfl ?_
                    | refine aops_eff (w_len_nil TT_ok rfl rfl rfl) rfl rfl rfl ?_
                    | refine aops_eff (eff_extract rfl rfl (by intro _ h; cases h)) rfl rfl rfl ?_
                    | refine aops_eff (w_lit TT_ok rfl rfl rfl rfl rfl rfl rfl rfl rfl rfl rfl) rfl rfl rfl ?_
                    | refine aops_eff (w_build TT_ok rfl rfl rfl rfl rfl rfl) rfl rfl rfl ?_)
                  refine ret_mk rfl rfl rfl ?_
                  refine fz_bl ?_
                  cases a; cases b; simp_all [Cl.mk.injEq]
end Go.Proofs.Ytpngpgbmkkjjgaa

/-
  Contracts: the laws' copies of their data.
-/
import Derived.Test.YtpngpgbmkkjjgaaE5
namespace Go.Proofs.Ytpngpgbmkkjjgaa
open Go.RowKit
set_option maxRecDepth 10000
set_option maxHeartbeats 4000000

/-! ## results: structs and slices of the call's own -/
theorem f1_nil {h : Hp} : All2 (frz1 h) [] [] := rfl
theorem f1_cons {h : Hp} {x d : AV} {xs ds : List AV} (a : frz1 h x d) (b : All2 (frz1 h) xs ds) : All2 (frz1 h) (x :: xs) (d :: ds) := ⟨d, ds, rfl, a, b⟩
theorem f1_sc {h : Hp} {u v : Value} (e : u = v) : frz1 h (.sc u) (.sc v) := e
theorem f1_imp {h : Hp} {b k : Nat} {es : List (List AV)} (hb : h b = some ⟨k, absEs es⟩) (g : goodEs es) : frz1 h (.own b 0 es.length) (.list k es) := ⟨rfl, _, hb, by simp [absEs], rfl, f00_abs g⟩
theorem f1_own {h : Hp} {b k n : Nat} {blk : Blk} {X es : List (List AV)} (hb : h b = some blk) (he : blk.es = X) (hl : X.length = n) (hk : blk.k = k) (hf : All2 (All2 frz0) X es) : frz1 h (.own b 0 n) (.list k es) := ⟨rfl, blk, hb, by rw [he]; exact hl, hk, by rw [he]; exact hf⟩
theorem fz_agg {h : Hp} {cs ds : List AV} (a : All2 (frz1 h) cs ds) : frzs h [.agg cs] (.agg ds) := ⟨a, by intro _ h; cases h⟩
theorem fz_list {h : Hp} {x : AV} {k : Nat} {es : List (List AV)} (a : frz1 h x (.list k es)) : frzs h [x] (.list k es) := by
  refine ⟨?_, by intro _ h; cases h⟩
  cases x <;> exact a
theorem f00_map {α : Type} {f g : α → List AV} (h : ∀ x, All2 frz0 (f x) (g x)) : ∀ l : List α, All2 (All2 frz0) (l.map f) (l.map g)
  | [] => rfl
  | x :: l => ⟨g x, _, rfl, h x, f00_map h l⟩
theorem plain_map {α : Type} {f : α → List AV} (h : ∀ x, (f x).all nameless = true) (l : List α) : plainEs (l.map f) := by
  intro cs hcs
  obtain ⟨x, _, rfl⟩ := List.mem_map.1 hcs
  exact List.all_eq_true.1 (h x)
theorem plain_app {a b : List (List AV)} (h : plainEs a) (k : plainEs b) : plainEs (a ++ b) := fun cs hcs => by
  rcases List.mem_append.1 hcs with h' | h'
  · exact h cs h'
  · exact k cs h'
theorem plain_repl {z : List AV} (h : z.all nameless = true) (n : Nat) : plainEs (List.replicate n z) := fun cs hcs => by
  rw [List.eq_of_mem_replicate hcs]
  exact List.all_eq_true.1 h
theorem at_set {α : Type} {l : List α} {i : Nat} {x : α} (h : i < l.length) : (l.set i x)[i]? = some x := by simp [h]
theorem at_mid {α β : Type} {l : List α} {f : α → β} {z : β} {n k : Nat} (hk : k < l.length) (hn : n = l.length) : ((l.take k).map f ++ List.replicate (n - k) z)[0 + ((k : Nat) : Int).toNat]? = some z := by
  subst hn
  rw [Nat.zero_add, Int.toNat_natCast, List.getElem?_append_right (by simp; omega)]
  simp only [List.length_map, List.length_take, Nat.min_eq_left (Nat.le_of_lt hk), Nat.sub_self]
  rw [List.getElem?_replicate, if_pos (by omega)]
theorem fill_len {α β : Type} {l : List α} {f : α → β} {z : β} {n k : Nat} (hk : k ≤ l.length) (hn : n = l.length) : ((l.take k).map f ++ List.replicate (n - k) z).length = l.length := by simp; omega
theorem fill_eq {α β : Type} {l : List α} {f : α → β} {z y : β} {n k : Nat} (hk : k < l.length) (hn : n = l.length) (hy : y = f l[k]) : ((l.take k).map f ++ List.replicate (n - k) z).set (0 + ((k : Nat) : Int).toNat) y = (l.take (k + 1)).map f ++ List.replicate (n - (k + 1)) z := by
  subst hn hy
  rw [Nat.zero_add, Int.toNat_natCast, List.set_append_right _ _ (by simp; omega), List.take_succ_eq_append_getElem hk]
  simp only [List.length_map, List.length_take, Nat.min_eq_left (Nat.le_of_lt hk), Nat.sub_self, List.map_append, List.map_cons, List.map_nil, List.append_assoc]
  congr 1
  rw [show l.length - k = (l.length - (k + 1)) + 1 by omega, List.replicate_succ]
  simp

/-! ## data that lie in slices of the call's own -/
def aL (l : List Int) : List AV := [.abs 1 (encI l)]
def aM (m : Mt) : List AV := [.int m.rows, .int m.cols, .abs 1 (encI m.cells)]
def aR (r : Rp) : List AV := [.int r.p, .int r.q.n, .abs 1 (encI r.q.src), .abs 1 (encI r.q.tgt), .abs 1 (encI r.dims), .abs 3 (r.maps.map eM)]
def aS (s : Sc) : List AV := [.int s.size, .abs 1 (s.basis.map eL)]
theorem aL_f (x : List Int) : All2 frz0 (aL x) (eL x) := ⟨_, _, rfl, ⟨rfl, rfl⟩, rfl⟩
theorem aM_f (x : Mt) : All2 frz0 (aM x) (eM x) := ⟨_, _, rfl, rfl, _, _, rfl, rfl, _, _, rfl, ⟨rfl, rfl⟩, rfl⟩
theorem aR_f (x : Rp) : All2 frz0 (aR x) (eR x) := ⟨_, _, rfl, rfl, _, _, rfl, rfl, _, _, rfl, ⟨rfl, rfl⟩, _, _, rfl, ⟨rfl, rfl⟩, _, _, rfl, ⟨rfl, rfl⟩, _, _, rfl, ⟨rfl, rfl⟩, rfl⟩
theorem aS_f (x : Sc) : All2 frz0 (aS x) (eS x) := ⟨_, _, rfl, rfl, _, _, rfl, ⟨rfl, rfl⟩, rfl⟩
theorem eI_f (x : Int) : All2 frz0 (eI x) (eI x) := ⟨_, _, rfl, rfl, rfl⟩
theorem eB_f (x : Br) : All2 frz0 (eB x) (eB x) := ⟨_, _, rfl, rfl, _, _, rfl, rfl, _, _, rfl, rfl, rfl⟩

/-! ## results hold numbers and lists -/
theorem gA_of {cs : List AV} (h : ∀ c ∈ cs, good1 c) : goodA (.agg cs) := h
theorem gA_M (x : Mt) : goodA (.agg (eM x)) := by
  intro c hc
  simp only [eM, List.mem_cons, List.not_mem_nil, or_false] at hc
  rcases hc with rfl | rfl | rfl
  · trivial
  · trivial
  · exact goodEs_I _
theorem gA_Q (x : Qv) : goodA (.agg (eQ x)) := by
  intro c hc
  simp only [eQ, List.mem_cons, List.not_mem_nil, or_false] at hc
  rcases hc with rfl | rfl | rfl
  · trivial
  · exact goodEs_I _
  · exact goodEs_I _
theorem gA_R (x : Rp) : goodA (.agg (eR x)) := by
  intro c hc
  simp only [eR, List.mem_cons, List.not_mem_nil, or_false] at hc
  rcases hc with rfl | rfl | rfl | rfl | rfl | rfl <;> first | trivial | exact goodEs_I _ | exact goodEs_map good_M
theorem gA_S (x : Sc) : goodA (.agg (eS x)) := by
  intro c hc
  simp only [eS, List.mem_cons, List.not_mem_nil, or_false] at hc
  rcases hc with rfl | rfl <;> first | trivial | exact goodEs_map good_L
theorem gA_B (x : Br) : goodA (.agg (eB x)) := by
  intro c hc
  simp only [eB, List.mem_cons, List.not_mem_nil, or_false] at hc
  rcases hc with rfl | rfl | rfl <;> trivial
theorem gA_C (x : Cl) : goodA (.agg (eC x)) := by
  intro c hc
  simp only [eC, List.mem_cons, List.not_mem_nil, or_false] at hc
  rcases hc with rfl | rfl | rfl | rfl | rfl | rfl | rfl | rfl | rfl | rfl | rfl | rfl | rfl | rfl | rfl | rfl | rfl | rfl <;> first | trivial | exact goodEs_I _ | exact goodEs_map good_M | exact goodEs_map good_R | exact goodEs_map good_B | exact goodEs_map good_S

theorem h_toI (a : List Int) (hl : a.length ≤ 1048576) : HasC Try.prog 12 [ints a] (ints a) := by
  refine hasC_mk TT_ok (ns := [0,1,2,3,4,5,6,7,8,9,10,11,12,13,14,15,16,17,18,19,20,21,22,23]) Try.func12 rfl rfl Try.ntmps12 rfl rfl rfl ?_
  repeat (first | refine aops_nil ?_ | refine ac_seq ?_ | refine ac_region ?_ | refine aops_eff (eff_move rfl) rfl rfl rfl ?_ | refine aops_eff (eff_assign rfl) rfl rfl rfl ?_ | refine aops_eff (w_len_list TT_ok rfl rfl rfl) rfl rfl rfl ?_)
  refine aops_eff (w_make TT_ok rfl rfl rfl rfl rfl rfl rfl (by simp [encI_len]) (by simp [encI_len]; omega) (by simp [encI_len]; omega)) rfl rfl rfl ?_
  repeat (first | refine aops_nil ?_ | refine ac_seq ?_ | refine ac_region ?_ | refine then_n ?_ | refine ac_block ?_ | refine aops_eff (eff_assign rfl) rfl rfl rfl ?_)
  refine ac_loop (ι := Nat) (fun k => mkS [(0, ints a), (3, .own 0 0 a.length), (4, .int k)] [(0, ⟨1, (a.take k).map eI ++ List.replicate (a.length - k) [.int 0]⟩)] 1 [1,2,3,4,5,6,7,8,9,10,11,12,13,14,15]) (fun k => k ≤ a.length) (fun k => a.length - k) 0 (by simp) ?_ ?_
  · refine ent_mk (σ := sg [(0, 0)]) ?_ ?_ rfl
    · refine ⟨⟨_, rfl, rfl, rfl⟩, ⟨_, rfl, rfl, rfl, by simp [encI_len], rfl⟩, ⟨_, rfl, rfl⟩, trivial⟩
    · refine ⟨⟨_, rfl, rfl, .inl ⟨by simp [encI_len], plain_app (plain_map (fun _ => rfl) _) (plain_repl rfl _)⟩⟩, rfl, trivial⟩
  · intro k hk
    repeat (first | refine aops_nil ?_ | refine ac_seq ?_ | refine ac_region ?_ | refine then_n ?_ | refine aops_eff (eff_move rfl) rfl rfl rfl ?_ | refine aops_eff (w_len_list TT_ok rfl rfl rfl) rfl rfl rfl ?_ | refine aops_eff (w_cmp rfl rfl rfl) rfl rfl rfl ?_)
    refine ac_cond rfl (fun h2 => ?_) (fun h2 => ?_)
    · simp [encI_len] at h2
      repeat (first | refine ac_seq ?_ | refine ac_region ?_ | refine ac_block ?_ | refine ac_skip ?_ | refine aops_eff (eff_move rfl) rfl rfl rfl ?_ | refine aops_eff (w_load_ref TT_ok rfl rfl rfl rfl rfl rfl) rfl rfl rfl ?_ | refine aops_eff (eff_indexAddr_list TT_ok rfl rfl rfl rfl rfl rfl (encI_at (by omega))) rfl rfl rfl ?_)
      refine aops_eff (w_at_own TT_ok rfl rfl rfl rfl rfl rfl rfl (by omega) (by omega)) rfl rfl rfl ?_
      refine aops_eff (w_store (cs := [.int 0]) TT_ok rfl rfl rfl rfl rfl rfl (at_mid h2 rfl) rfl) rfl rfl rfl ?_
      repeat (first | refine aops_nil ?_ | refine ac_region ?_ | refine then_n ?_ | refine aops_eff (eff_move rfl) rfl rfl rfl ?_ | refine aops_eff (eff_assign rfl) rfl rfl rfl ?_ | refine aops_eff (w_add rfl rfl (by omega)) rfl rfl rfl ?_)
      refine ⟨k + 1, by omega, by omega, ?_⟩
      refine ent_mk (σ := sg [(0, 0)]) ?_ ?_ rfl
      · refine ⟨⟨_, rfl, rfl, rfl⟩, ⟨_, rfl, rfl, rfl, rfl, rfl⟩, ⟨_, rfl, rfl⟩, trivial⟩
      · refine ⟨⟨_, rfl, rfl, .inl ⟨?_, plain_app (plain_map (fun _ => rfl) _) (plain_repl rfl _)⟩⟩, rfl, trivial⟩
        simp only [List.set_set]
        exact fill_eq h2 rfl (by show [AV.int (a[k]?.getD 0)] = [AV.int a[k]]; simp [h2])
    · simp [encI_len] at h2
      repeat (first | refine aops_nil ?_ | refine ac_seq ?_ | refine ac_region ?_ | refine then_n ?_ | refine ac_exit ?_ | refine ac_ret ?_ | refine aops_eff (eff_move rfl) rfl rfl rfl ?_ | refine aops_eff (eff_assign rfl) rfl rfl rfl ?_)
      refine ret_mk rfl rfl rfl ?_
      have hk : k = a.length := by omega
      refine fz_list (f1_own rfl (X := a.map eI) (by subst hk; simp) (by simp) rfl (f00_map eI_f a))

theorem h_toQ (a : Qv) (hb : bQ a) : HasC Try.prog 11 [.agg (eQ a)] (.agg (eQ a)) := by
  refine hasC_mk TT_ok (ns := [0,1,2,3,4,5,6,7,8,9,10,11,12,13,14,15,16,17,18,19,20,21,22,23]) Try.func11 rfl rfl Try.ntmps11 rfl rfl rfl ?_
  repeat (first | refine aops_nil ?_ | refine ac_seq ?_ | refine ac_region ?_ | refine aops_eff (w_load_ptr TT_ok rfl rfl rfl rfl rfl rfl rfl) rfl rfl rfl ?_ | refine aops_eff (w_field_ptr TT_ok rfl rfl rfl rfl rfl rfl rfl) rfl rfl rfl ?_ | refine aops_eff (w_box rfl rfl rfl rfl) rfl rfl rfl ?_ | refine aops_eff (w_alloc TT_ok rfl rfl) rfl rfl rfl ?_ | refine aops_eff (w_store TT_ok rfl rfl rfl rfl rfl rfl rfl rfl) rfl rfl rfl ?_)
  refine aops_eff (w_call0 (h_toI a.src hb.1) rfl rfl rfl rfl (goodEs_I _) (va_cons (va_same rfl) va_nil)) rfl rfl rfl ?_
  repeat (first | refine aops_nil ?_ | refine ac_seq ?_ | refine ac_region ?_ | refine aops_eff (w_load_ptr TT_ok rfl rfl rfl rfl rfl rfl rfl) rfl rfl rfl ?_ | refine aops_eff (w_field_ptr TT_ok rfl rfl rfl rfl rfl rfl rfl) rfl rfl rfl ?_ | refine aops_eff (w_store TT_ok rfl rfl rfl rfl rfl rfl rfl rfl) rfl rfl rfl ?_)
  refine aops_eff (w_call0 (h_toI a.tgt hb.2.1) rfl rfl rfl rfl (goodEs_I _) (va_cons (va_same rfl) va_nil)) rfl rfl rfl ?_
  repeat (first | refine aops_nil ?_ | refine ac_seq ?_ | refine ac_region ?_ | refine then_n ?_ | refine ac_ret ?_ | refine aops_eff (w_load_ptr TT_ok rfl rfl rfl rfl rfl rfl rfl) rfl rfl rfl ?_ | refine aops_eff (w_field_ptr TT_ok rfl rfl rfl rfl rfl rfl rfl) rfl rfl rfl ?_ | refine aops_eff (w_store TT_ok rfl rfl rfl rfl rfl rfl rfl rfl) rfl rfl rfl ?_)
  refine ret_mk rfl rfl rfl ?_
  refine fz_agg ?_
  repeat (first | exact f1_nil | refine f1_cons rfl ?_ | refine f1_cons (f1_imp rfl (by first | exact goodEs_I _ | exact goodEs_map good_M | exact goodEs_map good_L | exact goodEs_map good_R | exact goodEs_map good_B | exact goodEs_map good_S)) ?_)

theorem h_toM (a : Mt) (hb : bM a) : HasC Try.prog 111 [.agg (eM a)] (.agg (eM a)) := by
  refine hasC_mk TT_ok (ns := [0,1,2,3,4,5,6,7,8,9,10,11,12,13,14,15,16,17,18,19,20,21,22,23]) Try.func111 rfl rfl Try.ntmps111 rfl rfl rfl ?_
  repeat (first | refine aops_nil ?_ | refine ac_seq ?_ | refine ac_region ?_ | refine aops_eff (w_load_ptr TT_ok rfl rfl rfl rfl rfl rfl rfl) rfl rfl rfl ?_ | refine aops_eff (w_field_ptr TT_ok rfl rfl rfl rfl rfl rfl rfl) rfl rfl rfl ?_ | refine aops_eff (w_box rfl rfl rfl rfl) rfl rfl rfl ?_ | refine aops_eff (w_alloc TT_ok rfl rfl) rfl rfl rfl ?_ | refine aops_eff (w_store TT_ok rfl rfl rfl rfl rfl rfl rfl rfl) rfl rfl rfl ?_)
  refine aops_eff (w_call0 (h_toI a.cells hb.1) rfl rfl rfl rfl (goodEs_I _) (va_cons (va_same rfl) va_nil)) rfl rfl rfl ?_
  repeat (first | refine aops_nil ?_ | refine ac_seq ?_ | refine ac_region ?_ | refine then_n ?_ | refine ac_ret ?_ | refine aops_eff (w_load_ptr TT_ok rfl rfl rfl rfl rfl rfl rfl) rfl rfl rfl ?_ | refine aops_eff (w_field_ptr TT_ok rfl rfl rfl rfl rfl rfl rfl) rfl rfl rfl ?_ | refine aops_eff (w_store TT_ok rfl rfl rfl rfl rfl rfl rfl rfl) rfl rfl rfl ?_)
  refine ret_mk rfl rfl rfl ?_
  refine fz_agg ?_
  repeat (first | exact f1_nil | refine f1_cons rfl ?_ | refine f1_cons (f1_imp rfl (by first | exact goodEs_I _ | exact goodEs_map good_M | exact goodEs_map good_L | exact goodEs_map good_R | exact goodEs_map good_B | exact goodEs_map good_S)) ?_)

theorem h_toB (a : Br) : HasC Try.prog 112 [.agg (eB a)] (.agg (eB a)) := by
  refine hasC_mk TT_ok (ns := [0,1,2,3,4,5,6,7,8,9,10,11,12,13,14,15,16,17,18,19,20,21,22,23]) Try.func112 rfl rfl Try.ntmps112 rfl rfl rfl ?_
  repeat (first | refine aops_nil ?_ | refine ac_seq ?_ | refine ac_region ?_ | refine then_n ?_ | refine ac_ret ?_ | refine aops_eff (w_load_ptr TT_ok rfl rfl rfl rfl rfl rfl rfl) rfl rfl rfl ?_ | refine aops_eff (w_field_ptr TT_ok rfl rfl rfl rfl rfl rfl rfl) rfl rfl rfl ?_ | refine aops_eff (w_box rfl rfl rfl rfl) rfl rfl rfl ?_ | refine aops_eff (w_alloc TT_ok rfl rfl) rfl rfl rfl ?_ | refine aops_eff (w_store TT_ok rfl rfl rfl rfl rfl rfl rfl rfl) rfl rfl rfl ?_)
  refine ret_mk rfl rfl rfl ?_
  refine fz_agg ?_
  repeat (first | exact f1_nil | refine f1_cons rfl ?_ | refine f1_cons (f1_imp rfl (by first | exact goodEs_I _ | exact goodEs_map good_M | exact goodEs_map good_L | exact goodEs_map good_R | exact goodEs_map good_B | exact goodEs_map good_S)) ?_)

theorem h_toRows (a : List (List Int)) (hl : a.length ≤ 1048576) (hb : ∀ x ∈ a, bI x) : HasC Try.prog 50 [.list 1 (a.map eL)] (.list 1 (a.map eL)) := by
  refine hasC_mk TT_ok (ns := [0,1,2,3,4,5,6,7,8,9,10,11,12,13,14,15,16,17,18,19,20,21,22,23]) Try.func50 rfl rfl Try.ntmps50 rfl rfl rfl ?_
  repeat (first | refine aops_nil ?_ | refine ac_seq ?_ | refine ac_region ?_ | refine aops_eff (eff_move rfl) rfl rfl rfl ?_ | refine aops_eff (eff_assign rfl) rfl rfl rfl ?_ | refine aops_eff (w_len_list TT_ok rfl rfl rfl) rfl rfl rfl ?_)
  refine aops_eff (w_make TT_ok rfl rfl rfl rfl rfl rfl rfl (by simp [encI_len]) (by simp [encI_len]; omega) (by simp [encI_len]; omega)) rfl rfl rfl ?_
  repeat (first | refine aops_nil ?_ | refine ac_seq ?_ | refine ac_region ?_ | refine then_n ?_ | refine ac_block ?_ | refine aops_eff (eff_assign rfl) rfl rfl rfl ?_)
  refine ac_loop (ι := Nat) (fun k => mkS [(0, .list 1 (a.map eL)), (3, .own 0 0 a.length), (4, .int k)] [(0, ⟨1, (a.take k).map aL ++ List.replicate (a.length - k) [.nil 1]⟩)] 1 [1,2,3,4,5,6,7,8,9,10,11,12,13,14,15]) (fun k => k ≤ a.length) (fun k => a.length - k) 0 (by simp) ?_ ?_
  · refine ent_mk (σ := sg [(0, 0)]) ?_ ?_ rfl
    · refine ⟨⟨_, rfl, rfl, rfl⟩, ⟨_, rfl, rfl, rfl, by simp [encI_len], rfl⟩, ⟨_, rfl, rfl⟩, trivial⟩
    · refine ⟨⟨_, rfl, rfl, .inl ⟨by simp [encI_len], plain_app (plain_map (fun _ => rfl) _) (plain_repl rfl _)⟩⟩, rfl, trivial⟩
  · intro k hk
    repeat (first | refine aops_nil ?_ | refine ac_seq ?_ | refine ac_region ?_ | refine then_n ?_ | refine aops_eff (eff_move rfl) rfl rfl rfl ?_ | refine aops_eff (w_len_list TT_ok rfl rfl rfl) rfl rfl rfl ?_ | refine aops_eff (w_cmp rfl rfl rfl) rfl rfl rfl ?_)
    refine ac_cond rfl (fun h2 => ?_) (fun h2 => ?_)
    · simp [encI_len] at h2
      repeat (first | refine ac_seq ?_ | refine ac_region ?_ | refine ac_block ?_ | refine ac_skip ?_ | refine aops_eff (eff_move rfl) rfl rfl rfl ?_ | refine aops_eff (w_load_ref TT_ok rfl rfl rfl rfl rfl rfl) rfl rfl rfl ?_ | refine aops_eff (eff_indexAddr_list TT_ok rfl rfl rfl rfl rfl rfl (map_at (at_lt (by omega)))) rfl rfl rfl ?_)
      refine aops_eff (w_call0 (h_toI a[k] (hb a[k] (List.getElem_mem h2))) rfl rfl rfl rfl (goodEs_I _) (va_cons (va_same rfl) va_nil)) rfl rfl rfl ?_
      refine aops_eff (w_at_own TT_ok rfl rfl rfl rfl rfl rfl rfl (by omega) (by omega)) rfl rfl rfl ?_
      refine aops_eff (w_store (cs := [.nil 1]) TT_ok rfl rfl rfl rfl rfl rfl (at_mid h2 rfl) rfl) rfl rfl rfl ?_
      repeat (first | refine aops_nil ?_ | refine ac_region ?_ | refine then_n ?_ | refine aops_eff (eff_move rfl) rfl rfl rfl ?_ | refine aops_eff (eff_assign rfl) rfl rfl rfl ?_ | refine aops_eff (w_add rfl rfl (by omega)) rfl rfl rfl ?_)
      refine ⟨k + 1, by omega, by omega, ?_⟩
      refine Ent.trans (ent_absorb' (b := 0) (b' := 1) (j := 0) rfl (at_set (by first | (rw [fill_len (Nat.le_of_lt h2) rfl]; omega) | (simp only [List.length_set]; rw [fill_len (Nat.le_of_lt h2) rfl]; omega))) rfl rfl rfl (by simp [absEs]) rfl (f00_abs (by first | exact goodEs_I _ | exact goodEs_map good_M | exact goodEs_map good_L | exact goodEs_map good_R | exact goodEs_map good_B | exact goodEs_map good_S))) ?_
      refine ent_mk (σ := sg [(0, 0)]) ?_ ?_ rfl
      · refine ⟨⟨_, rfl, rfl, rfl⟩, ⟨_, rfl, rfl, rfl, rfl, rfl⟩, ⟨_, rfl, rfl⟩, trivial⟩
      · refine ⟨⟨_, rfl, rfl, .inl ⟨?_, plain_app (plain_map (fun _ => rfl) _) (plain_repl rfl _)⟩⟩, rfl, trivial⟩
        simp only [List.set_set]
        exact fill_eq h2 rfl rfl
    · simp [encI_len] at h2
      repeat (first | refine aops_nil ?_ | refine ac_seq ?_ | refine ac_region ?_ | refine then_n ?_ | refine ac_exit ?_ | refine ac_ret ?_ | refine aops_eff (eff_move rfl) rfl rfl rfl ?_ | refine aops_eff (eff_assign rfl) rfl rfl rfl ?_)
      refine ret_mk rfl rfl rfl ?_
      have hk : k = a.length := by omega
      refine fz_list (f1_own rfl (X := a.map aL) (by subst hk; simp) (by simp) rfl (f00_map aL_f a))

theorem h_toMs (a : List Mt) (hl : a.length ≤ 1048576) (hb : ∀ x ∈ a, bM x) : HasC Try.prog 67 [.list 3 (a.map eM)] (.list 3 (a.map eM)) := by
  refine hasC_mk TT_ok (ns := [0,1,2,3,4,5,6,7,8,9,10,11,12,13,14,15,16,17,18,19,20,21,22,23]) Try.func67 rfl rfl Try.ntmps67 rfl rfl rfl ?_
  repeat (first | refine aops_nil ?_ | refine ac_seq ?_ | refine ac_region ?_ | refine aops_eff (eff_move rfl) rfl rfl rfl ?_ | refine aops_eff (eff_assign rfl) rfl rfl rfl ?_ | refine aops_eff (w_len_list TT_ok rfl rfl rfl) rfl rfl rfl ?_)
  refine aops_eff (w_make TT_ok rfl rfl rfl rfl rfl rfl rfl (by simp [encI_len]) (by simp [encI_len]; omega) (by simp [encI_len]; omega)) rfl rfl rfl ?_
  repeat (first | refine aops_nil ?_ | refine ac_seq ?_ | refine ac_region ?_ | refine then_n ?_ | refine ac_block ?_ | refine aops_eff (eff_assign rfl) rfl rfl rfl ?_)
  refine ac_loop (ι := Nat) (fun k => mkS [(0, .list 3 (a.map eM)), (3, .own 0 0 a.length), (4, .int k)] [(0, ⟨3, (a.take k).map aM ++ List.replicate (a.length - k) [.int 0, .int 0, .nil 1]⟩)] 1 [1,2,3,4,5,6,7,8,9,10,11,12,13,14,15]) (fun k => k ≤ a.length) (fun k => a.length - k) 0 (by simp) ?_ ?_
  · refine ent_mk (σ := sg [(0, 0)]) ?_ ?_ rfl
    · refine ⟨⟨_, rfl, rfl, rfl⟩, ⟨_, rfl, rfl, rfl, by simp [encI_len], rfl⟩, ⟨_, rfl, rfl⟩, trivial⟩
    · refine ⟨⟨_, rfl, rfl, .inl ⟨by simp [encI_len], plain_app (plain_map (fun _ => rfl) _) (plain_repl rfl _)⟩⟩, rfl, trivial⟩
  · intro k hk
    repeat (first | refine aops_nil ?_ | refine ac_seq ?_ | refine ac_region ?_ | refine then_n ?_ | refine aops_eff (eff_move rfl) rfl rfl rfl ?_ | refine aops_eff (w_len_list TT_ok rfl rfl rfl) rfl rfl rfl ?_ | refine aops_eff (w_cmp rfl rfl rfl) rfl rfl rfl ?_)
    refine ac_cond rfl (fun h2 => ?_) (fun h2 => ?_)
    · simp [encI_len] at h2
      repeat (first | refine ac_seq ?_ | refine ac_region ?_ | refine ac_block ?_ | refine ac_skip ?_ | refine aops_eff (eff_move rfl) rfl rfl rfl ?_ | refine aops_eff (w_load_ref TT_ok rfl rfl rfl rfl rfl rfl) rfl rfl rfl ?_ | refine aops_eff (eff_indexAddr_list TT_ok rfl rfl rfl rfl rfl rfl (map_at (at_lt (by omega)))) rfl rfl rfl ?_)
      refine aops_eff (w_call0 (h_toM a[k] (hb a[k] (List.getElem_mem h2))) rfl rfl rfl rfl (gA_M _) (va_cons (va_agg rfl) va_nil)) rfl rfl rfl ?_
      refine aops_eff (w_at_own TT_ok rfl rfl rfl rfl rfl rfl rfl (by omega) (by omega)) rfl rfl rfl ?_
      refine aops_eff (w_store (cs := [.int 0, .int 0, .nil 1]) TT_ok rfl rfl rfl rfl rfl rfl (at_mid h2 rfl) rfl) rfl rfl rfl ?_
      repeat (first | refine aops_nil ?_ | refine ac_region ?_ | refine then_n ?_ | refine aops_eff (eff_move rfl) rfl rfl rfl ?_ | refine aops_eff (eff_assign rfl) rfl rfl rfl ?_ | refine aops_eff (w_add rfl rfl (by omega)) rfl rfl rfl ?_)
      refine ⟨k + 1, by omega, by omega, ?_⟩
      refine Ent.trans (ent_absorb' (b := 0) (b' := 1) (j := 2) rfl (at_set (by first | (rw [fill_len (Nat.le_of_lt h2) rfl]; omega) | (simp only [List.length_set]; rw [fill_len (Nat.le_of_lt h2) rfl]; omega))) rfl rfl rfl (by simp [absEs]) rfl (f00_abs (by first | exact goodEs_I _ | exact goodEs_map good_M | exact goodEs_map good_L | exact goodEs_map good_R | exact goodEs_map good_B | exact goodEs_map good_S))) ?_
      refine ent_mk (σ := sg [(0, 0)]) ?_ ?_ rfl
      · refine ⟨⟨_, rfl, rfl, rfl⟩, ⟨_, rfl, rfl, rfl, rfl, rfl⟩, ⟨_, rfl, rfl⟩, trivial⟩
      · refine ⟨⟨_, rfl, rfl, .inl ⟨?_, plain_app (plain_map (fun _ => rfl) _) (plain_repl rfl _)⟩⟩, rfl, trivial⟩
        simp only [List.set_set]
        exact fill_eq h2 rfl rfl
    · simp [encI_len] at h2
      repeat (first | refine aops_nil ?_ | refine ac_seq ?_ | refine ac_region ?_ | refine then_n ?_ | refine ac_exit ?_ | refine ac_ret ?_ | refine aops_eff (eff_move rfl) rfl rfl rfl ?_ | refine aops_eff (eff_assign rfl) rfl rfl rfl ?_)
      refine ret_mk rfl rfl rfl ?_
      have hk : k = a.length := by omega
      refine fz_list (f1_own rfl (X := a.map aM) (by subst hk; simp) (by simp) rfl (f00_map aM_f a))

theorem h_toBs (a : List Br) (hl : a.length ≤ 1048576) : HasC Try.prog 68 [.list 3 (a.map eB)] (.list 3 (a.map eB)) := by
  refine hasC_mk TT_ok (ns := [0,1,2,3,4,5,6,7,8,9,10,11,12,13,14,15,16,17,18,19,20,21,22,23]) Try.func68 rfl rfl Try.ntmps68 rfl rfl rfl ?_
  repeat (first | refine aops_nil ?_ | refine ac_seq ?_ | refine ac_region ?_ | refine aops_eff (eff_move rfl) rfl rfl rfl ?_ | refine aops_eff (eff_assign rfl) rfl rfl rfl ?_ | refine aops_eff (w_len_list TT_ok rfl rfl rfl) rfl rfl rfl ?_)
  refine aops_eff (w_make TT_ok rfl rfl rfl rfl rfl rfl rfl (by simp [encI_len]) (by simp [encI_len]; omega) (by simp [encI_len]; omega)) rfl rfl rfl ?_
  repeat (first | refine aops_nil ?_ | refine ac_seq ?_ | refine ac_region ?_ | refine then_n ?_ | refine ac_block ?_ | refine aops_eff (eff_assign rfl) rfl rfl rfl ?_)
  refine ac_loop (ι := Nat) (fun k => mkS [(0, .list 3 (a.map eB)), (3, .own 0 0 a.length), (4, .int k)] [(0, ⟨3, (a.take k).map eB ++ List.replicate (a.length - k) [.int 0, .int 0, .int 0]⟩)] 1 [1,2,3,4,5,6,7,8,9,10,11,12,13,14,15]) (fun k => k ≤ a.length) (fun k => a.length - k) 0 (by simp) ?_ ?_
  · refine ent_mk (σ := sg [(0, 0)]) ?_ ?_ rfl
    · refine ⟨⟨_, rfl, rfl, rfl⟩, ⟨_, rfl, rfl, rfl, by simp [encI_len], rfl⟩, ⟨_, rfl, rfl⟩, trivial⟩
    · refine ⟨⟨_, rfl, rfl, .inl ⟨by simp [encI_len], plain_app (plain_map (fun _ => rfl) _) (plain_repl rfl _)⟩⟩, rfl, trivial⟩
  · intro k hk
    repeat (first | refine aops_nil ?_ | refine ac_seq ?_ | refine ac_region ?_ | refine then_n ?_ | refine aops_eff (eff_move rfl) rfl rfl rfl ?_ | refine aops_eff (w_len_list TT_ok rfl rfl rfl) rfl rfl rfl ?_ | refine aops_eff (w_cmp rfl rfl rfl) rfl rfl rfl ?_)
    refine ac_cond rfl (fun h2 => ?_) (fun h2 => ?_)
    · simp [encI_len] at h2
      repeat (first | refine ac_seq ?_ | refine ac_region ?_ | refine ac_block ?_ | refine ac_skip ?_ | refine aops_eff (eff_move rfl) rfl rfl rfl ?_ | refine aops_eff (w_load_ref TT_ok rfl rfl rfl rfl rfl rfl) rfl rfl rfl ?_ | refine aops_eff (eff_indexAddr_list TT_ok rfl rfl rfl rfl rfl rfl (map_at (at_lt (by omega)))) rfl rfl rfl ?_)
      refine aops_eff (w_call0 (h_toB a[k]) rfl rfl rfl rfl (gA_B _) (va_cons (va_agg rfl) va_nil)) rfl rfl rfl ?_
      refine aops_eff (w_at_own TT_ok rfl rfl rfl rfl rfl rfl rfl (by omega) (by omega)) rfl rfl rfl ?_
      refine aops_eff (w_store (cs := [.int 0, .int 0, .int 0]) TT_ok rfl rfl rfl rfl rfl rfl (at_mid h2 rfl) rfl) rfl rfl rfl ?_
      repeat (first | refine aops_nil ?_ | refine ac_region ?_ | refine then_n ?_ | refine aops_eff (eff_move rfl) rfl rfl rfl ?_ | refine aops_eff (eff_assign rfl) rfl rfl rfl ?_ | refine aops_eff (w_add rfl rfl (by omega)) rfl rfl rfl ?_)
      refine ⟨k + 1, by omega, by omega, ?_⟩
      refine ent_mk (σ := sg [(0, 0)]) ?_ ?_ rfl
      · refine ⟨⟨_, rfl, rfl, rfl⟩, ⟨_, rfl, rfl, rfl, rfl, rfl⟩, ⟨_, rfl, rfl⟩, trivial⟩
      · refine ⟨⟨_, rfl, rfl, .inl ⟨?_, plain_app (plain_map (fun _ => rfl) _) (plain_repl rfl _)⟩⟩, rfl, trivial⟩
        simp only [List.set_set]
        exact fill_eq h2 rfl rfl
    · simp [encI_len] at h2
      repeat (first | refine aops_nil ?_ | refine ac_seq ?_ | refine ac_region ?_ | refine then_n ?_ | refine ac_exit ?_ | refine ac_ret ?_ | refine aops_eff (eff_move rfl) rfl rfl rfl ?_ | refine aops_eff (eff_assign rfl) rfl rfl rfl ?_)
      refine ret_mk rfl rfl rfl ?_
      have hk : k = a.length := by omega
      refine fz_list (f1_own rfl (X := a.map eB) (by subst hk; simp) (by simp) rfl (f00_map eB_f a))

theorem h_toS (a : Sc) (hb : bS a) : HasC Try.prog 18 [.agg (eS a)] (.agg (eS a)) := by
  refine hasC_mk TT_ok (ns := [0,1,2,3,4,5,6,7,8,9,10,11,12,13,14,15,16,17,18,19,20,21,22,23]) Try.func18 rfl rfl Try.ntmps18 rfl rfl rfl ?_
  repeat (first | refine aops_nil ?_ | refine ac_seq ?_ | refine ac_region ?_ | refine aops_eff (w_load_ptr TT_ok rfl rfl rfl rfl rfl rfl rfl) rfl rfl rfl ?_ | refine aops_eff (w_field_ptr TT_ok rfl rfl rfl rfl rfl rfl rfl) rfl rfl rfl ?_ | refine aops_eff (w_box rfl rfl rfl rfl) rfl rfl rfl ?_ | refine aops_eff (w_alloc TT_ok rfl rfl) rfl rfl rfl ?_ | refine aops_eff (w_store TT_ok rfl rfl rfl rfl rfl rfl rfl rfl) rfl rfl rfl ?_)
  refine aops_eff (w_call0 (h_toRows a.basis hb.1.1 hb.1.2) rfl rfl rfl rfl (goodEs_map good_L) (va_cons (va_same rfl) va_nil)) rfl rfl rfl ?_
  repeat (first | refine aops_nil ?_ | refine ac_seq ?_ | refine ac_region ?_ | refine then_n ?_ | refine ac_ret ?_ | refine aops_eff (w_load_ptr TT_ok rfl rfl rfl rfl rfl rfl rfl) rfl rfl rfl ?_ | refine aops_eff (w_field_ptr TT_ok rfl rfl rfl rfl rfl rfl rfl) rfl rfl rfl ?_ | refine aops_eff (w_store TT_ok rfl rfl rfl rfl rfl rfl rfl rfl) rfl rfl rfl ?_)
  refine ret_mk rfl rfl rfl ?_
  refine fz_agg ?_
  repeat (first | exact f1_nil | refine f1_cons rfl ?_ | refine f1_cons (f1_imp rfl (by first | exact goodEs_I _ | exact goodEs_map good_M | exact goodEs_map good_L | exact goodEs_map good_R | exact goodEs_map good_B | exact goodEs_map good_S)) ?_)

theorem h_toSs (a : List Sc) (hl : a.length ≤ 1048576) (hb : ∀ x ∈ a, bS x) : HasC Try.prog 69 [.list 2 (a.map eS)] (.list 2 (a.map eS)) := by
  refine hasC_mk TT_ok (ns := [0,1,2,3,4,5,6,7,8,9,10,11,12,13,14,15,16,17,18,19,20,21,22,23]) Try.func69 rfl rfl Try.ntmps69 rfl rfl rfl ?_
  repeat (first | refine aops_nil ?_ | refine ac_seq ?_ | refine ac_region ?_ | refine aops_eff (eff_move rfl) rfl rfl rfl ?_ | refine aops_eff (eff_assign rfl) rfl rfl rfl ?_ | refine aops_eff (w_len_list TT_ok rfl rfl rfl) rfl rfl rfl ?_)
  refine aops_eff (w_make TT_ok rfl rfl rfl rfl rfl rfl rfl (by simp [encI_len]) (by simp [encI_len]; omega) (by simp [encI_len]; omega)) rfl rfl rfl ?_
  repeat (first | refine aops_nil ?_ | refine ac_seq ?_ | refine ac_region ?_ | refine then_n ?_ | refine ac_block ?_ | refine aops_eff (eff_assign rfl) rfl rfl rfl ?_)
  refine ac_loop (ι := Nat) (fun k => mkS [(0, .list 2 (a.map eS)), (3, .own 0 0 a.length), (4, .int k)] [(0, ⟨2, (a.take k).map aS ++ List.replicate (a.length - k) [.int 0, .nil 1]⟩)] 1 [1,2,3,4,5,6,7,8,9,10,11,12,13,14,15]) (fun k => k ≤ a.length) (fun k => a.length - k) 0 (by simp) ?_ ?_
  · refine ent_mk (σ := sg [(0, 0)]) ?_ ?_ rfl
    · refine ⟨⟨_, rfl, rfl, rfl⟩, ⟨_, rfl, rfl, rfl, by simp [encI_len], rfl⟩, ⟨_, rfl, rfl⟩, trivial⟩
    · refine ⟨⟨_, rfl, rfl, .inl ⟨by simp [encI_len], plain_app (plain_map (fun _ => rfl) _) (plain_repl rfl _)⟩⟩, rfl, trivial⟩
  · intro k hk
    repeat (first | refine aops_nil ?_ | refine ac_seq ?_ | refine ac_region ?_ | refine then_n ?_ | refine aops_eff (eff_move rfl) rfl rfl rfl ?_ | refine aops_eff (w_len_list TT_ok rfl rfl rfl) rfl rfl rfl ?_ | refine aops_eff (w_cmp rfl rfl rfl) rfl rfl rfl ?_)
    refine ac_cond rfl (fun h2 => ?_) (fun h2 => ?_)
    · simp [encI_len] at h2
      repeat (first | refine ac_seq ?_ | refine ac_region ?_ | refine ac_block ?_ | refine ac_skip ?_ | refine aops_eff (eff_move rfl) rfl rfl rfl ?_ | refine aops_eff (w_load_ref TT_ok rfl rfl rfl rfl rfl rfl) rfl rfl rfl ?_ | refine aops_eff (eff_indexAddr_list TT_ok rfl rfl rfl rfl rfl rfl (map_at (at_lt (by omega)))) rfl rfl rfl ?_)
      refine aops_eff (w_call0 (h_toS a[k] (hb a[k] (List.getElem_mem h2))) rfl rfl rfl rfl (gA_S _) (va_cons (va_agg rfl) va_nil)) rfl rfl rfl ?_
      refine aops_eff (w_at_own TT_ok rfl rfl rfl rfl rfl rfl rfl (by omega) (by omega)) rfl rfl rfl ?_
      refine aops_eff (w_store (cs := [.int 0, .nil 1]) TT_ok rfl rfl rfl rfl rfl rfl (at_mid h2 rfl) rfl) rfl rfl rfl ?_
      repeat (first | refine aops_nil ?_ | refine ac_region ?_ | refine then_n ?_ | refine aops_eff (eff_move rfl) rfl rfl rfl ?_ | refine aops_eff (eff_assign rfl) rfl rfl rfl ?_ | refine aops_eff (w_add rfl rfl (by omega)) rfl rfl rfl ?_)
      refine ⟨k + 1, by omega, by omega, ?_⟩
      refine Ent.trans (ent_absorb' (b := 0) (b' := 1) (j := 1) rfl (at_set (by first | (rw [fill_len (Nat.le_of_lt h2) rfl]; omega) | (simp only [List.length_set]; rw [fill_len (Nat.le_of_lt h2) rfl]; omega))) rfl rfl rfl (by simp [absEs]) rfl (f00_abs (by first | exact goodEs_I _ | exact goodEs_map good_M | exact goodEs_map good_L | exact goodEs_map good_R | exact goodEs_map good_B | exact goodEs_map good_S))) ?_
      refine ent_mk (σ := sg [(0, 0)]) ?_ ?_ rfl
      · refine ⟨⟨_, rfl, rfl, rfl⟩, ⟨_, rfl, rfl, rfl, rfl, rfl⟩, ⟨_, rfl, rfl⟩, trivial⟩
      · refine ⟨⟨_, rfl, rfl, .inl ⟨?_, plain_app (plain_map (fun _ => rfl) _) (plain_repl rfl _)⟩⟩, rfl, trivial⟩
        simp only [List.set_set]
        exact fill_eq h2 rfl rfl
    · simp [encI_len] at h2
      repeat (first | refine aops_nil ?_ | refine ac_seq ?_ | refine ac_region ?_ | refine then_n ?_ | refine ac_exit ?_ | refine ac_ret ?_ | refine aops_eff (eff_move rfl) rfl rfl rfl ?_ | refine aops_eff (eff_assign rfl) rfl rfl rfl ?_)
      refine ret_mk rfl rfl rfl ?_
      have hk : k = a.length := by omega
      refine fz_list (f1_own rfl (X := a.map aS) (by subst hk; simp) (by simp) rfl (f00_map aS_f a))

theorem h_toR (a : Rp) (hb : bR a) : HasC Try.prog 35 [.agg (eR a)] (.agg (eR a)) := by
  refine hasC_mk TT_ok (ns := [0,1,2,3,4,5,6,7,8,9,10,11,12,13,14,15,16,17,18,19,20,21,22,23]) Try.func35 rfl rfl Try.ntmps35 rfl rfl rfl ?_
  repeat (first | refine aops_nil ?_ | refine ac_seq ?_ | refine ac_region ?_ | refine aops_eff (w_load_ptr TT_ok rfl rfl rfl rfl rfl rfl rfl) rfl rfl rfl ?_ | refine aops_eff (w_field_ptr TT_ok rfl rfl rfl rfl rfl rfl rfl) rfl rfl rfl ?_ | refine aops_eff (w_box rfl rfl rfl rfl) rfl rfl rfl ?_ | refine aops_eff (w_alloc TT_ok rfl rfl) rfl rfl rfl ?_ | refine aops_eff (w_store TT_ok rfl rfl rfl rfl rfl rfl rfl rfl) rfl rfl rfl ?_)
  refine aops_eff (w_call0 (h_toQ a.q hb.1) rfl rfl rfl rfl (gA_Q _) (va_cons (va_agg rfl) va_nil)) rfl rfl rfl ?_
  repeat (first | refine aops_nil ?_ | refine ac_seq ?_ | refine ac_region ?_ | refine aops_eff (w_load_ptr TT_ok rfl rfl rfl rfl rfl rfl rfl) rfl rfl rfl ?_ | refine aops_eff (w_field_ptr TT_ok rfl rfl rfl rfl rfl rfl rfl) rfl rfl rfl ?_ | refine aops_eff (w_store TT_ok rfl rfl rfl rfl rfl rfl rfl rfl) rfl rfl rfl ?_)
  refine aops_eff (w_call0 (h_toI a.dims hb.2.1) rfl rfl rfl rfl (goodEs_I _) (va_cons (va_same rfl) va_nil)) rfl rfl rfl ?_
  repeat (first | refine aops_nil ?_ | refine ac_seq ?_ | refine ac_region ?_ | refine aops_eff (w_load_ptr TT_ok rfl rfl rfl rfl rfl rfl rfl) rfl rfl rfl ?_ | refine aops_eff (w_field_ptr TT_ok rfl rfl rfl rfl rfl rfl rfl) rfl rfl rfl ?_ | refine aops_eff (w_store TT_ok rfl rfl rfl rfl rfl rfl rfl rfl) rfl rfl rfl ?_)
  refine aops_eff (w_call0 (h_toMs a.maps hb.2.2.1.1 hb.2.2.1.2) rfl rfl rfl rfl (goodEs_map good_M) (va_cons (va_same rfl) va_nil)) rfl rfl rfl ?_
  repeat (first | refine aops_nil ?_ | refine ac_seq ?_ | refine ac_region ?_ | refine then_n ?_ | refine ac_ret ?_ | refine aops_eff (w_load_ptr TT_ok rfl rfl rfl rfl rfl rfl rfl) rfl rfl rfl ?_ | refine aops_eff (w_field_ptr TT_ok rfl rfl rfl rfl rfl rfl rfl) rfl rfl rfl ?_ | refine aops_eff (w_store TT_ok rfl rfl rfl rfl rfl rfl rfl rfl) rfl rfl rfl ?_)
  refine ret_mk rfl rfl rfl ?_
  refine fz_agg ?_
  repeat (first | exact f1_nil | refine f1_cons rfl ?_ | refine f1_cons (f1_imp rfl (by first | exact goodEs_I _ | exact goodEs_map good_M | exact goodEs_map good_L | exact goodEs_map good_R | exact goodEs_map good_B | exact goodEs_map good_S)) ?_)

theorem h_toRs (a : List Rp) (hl : a.length ≤ 1048576) (hb : ∀ x ∈ a, bR x) : HasC Try.prog 66 [.list 6 (a.map eR)] (.list 6 (a.map eR)) := by
  refine hasC_mk TT_ok (ns := [0,1,2,3,4,5,6,7,8,9,10,11,12,13,14,15,16,17,18,19,20,21,22,23]) Try.func66 rfl rfl Try.ntmps66 rfl rfl rfl ?_
  repeat (first | refine aops_nil ?_ | refine ac_seq ?_ | refine ac_region ?_ | refine aops_eff (eff_move rfl) rfl rfl rfl ?_ | refine aops_eff (eff_assign rfl) rfl rfl rfl ?_ | refine aops_eff (w_len_list TT_ok rfl rfl rfl) rfl rfl rfl ?_)
  refine aops_eff (w_make TT_ok rfl rfl rfl rfl rfl rfl rfl (by simp [encI_len]) (by simp [encI_len]; omega) (by simp [encI_len]; omega)) rfl rfl rfl ?_
  repeat (first | refine aops_nil ?_ | refine ac_seq ?_ | refine ac_region ?_ | refine then_n ?_ | refine ac_block ?_ | refine aops_eff (eff_assign rfl) rfl rfl rfl ?_)
  refine ac_loop (ι := Nat) (fun k => mkS [(0, .list 6 (a.map eR)), (3, .own 0 0 a.length), (4, .int k)] [(0, ⟨6, (a.take k).map aR ++ List.replicate (a.length - k) [.int 0, .int 0, .nil 1, .nil 1, .nil 1, .nil 3]⟩)] 1 [1,2,3,4,5,6,7,8,9,10,11,12,13,14,15]) (fun k => k ≤ a.length) (fun k => a.length - k) 0 (by simp) ?_ ?_
  · refine ent_mk (σ := sg [(0, 0)]) ?_ ?_ rfl
    · refine ⟨⟨_, rfl, rfl, rfl⟩, ⟨_, rfl, rfl, rfl, by simp [encI_len], rfl⟩, ⟨_, rfl, rfl⟩, trivial⟩
    · refine ⟨⟨_, rfl, rfl, .inl ⟨by simp [encI_len], plain_app (plain_map (fun _ => rfl) _) (plain_repl rfl _)⟩⟩, rfl, trivial⟩
  · intro k hk
    repeat (first | refine aops_nil ?_ | refine ac_seq ?_ | refine ac_region ?_ | refine then_n ?_ | refine aops_eff (eff_move rfl) rfl rfl rfl ?_ | refine aops_eff (w_len_list TT_ok rfl rfl rfl) rfl rfl rfl ?_ | refine aops_eff (w_cmp rfl rfl rfl) rfl rfl rfl ?_)
    refine ac_cond rfl (fun h2 => ?_) (fun h2 => ?_)
    · simp [encI_len] at h2
      repeat (first | refine ac_seq ?_ | refine ac_region ?_ | refine ac_block ?_ | refine ac_skip ?_ | refine aops_eff (eff_move rfl) rfl rfl rfl ?_ | refine aops_eff (w_load_ref TT_ok rfl rfl rfl rfl rfl rfl) rfl rfl rfl ?_ | refine aops_eff (eff_indexAddr_list TT_ok rfl rfl rfl rfl rfl rfl (map_at (at_lt (by omega)))) rfl rfl rfl ?_)
      refine aops_eff (w_call0 (h_toR a[k] (hb a[k] (List.getElem_mem h2))) rfl rfl rfl rfl (gA_R _) (va_cons (va_agg rfl) va_nil)) rfl rfl rfl ?_
      refine aops_eff (w_at_own TT_ok rfl rfl rfl rfl rfl rfl rfl (by omega) (by omega)) rfl rfl rfl ?_
      refine aops_eff (w_store (cs := [.int 0, .int 0, .nil 1, .nil 1, .nil 1, .nil 3]) TT_ok rfl rfl rfl rfl rfl rfl (at_mid h2 rfl) rfl) rfl rfl rfl ?_
      repeat (first | refine aops_nil ?_ | refine ac_region ?_ | refine then_n ?_ | refine aops_eff (eff_move rfl) rfl rfl rfl ?_ | refine aops_eff (eff_assign rfl) rfl rfl rfl ?_ | refine aops_eff (w_add rfl rfl (by omega)) rfl rfl rfl ?_)
      refine ⟨k + 1, by omega, by omega, ?_⟩
      refine Ent.trans (ent_absorb' (b := 0) (b' := 1) (j := 2) rfl (at_set (by first | (rw [fill_len (Nat.le_of_lt h2) rfl]; omega) | (simp only [List.length_set]; rw [fill_len (Nat.le_of_lt h2) rfl]; omega))) rfl rfl rfl (by simp [absEs]) rfl (f00_abs (by first | exact goodEs_I _ | exact goodEs_map good_M | exact goodEs_map good_L | exact goodEs_map good_R | exact goodEs_map good_B | exact goodEs_map good_S))) ?_
      refine Ent.trans (ent_absorb' (b := 0) (b' := 2) (j := 3) rfl (at_set (by first | (rw [fill_len (Nat.le_of_lt h2) rfl]; omega) | (simp only [List.length_set]; rw [fill_len (Nat.le_of_lt h2) rfl]; omega))) rfl rfl rfl (by simp [absEs]) rfl (f00_abs (by first | exact goodEs_I _ | exact goodEs_map good_M | exact goodEs_map good_L | exact goodEs_map good_R | exact goodEs_map good_B | exact goodEs_map good_S))) ?_
      refine Ent.trans (ent_absorb' (b := 0) (b' := 3) (j := 4) rfl (at_set (by first | (rw [fill_len (Nat.le_of_lt h2) rfl]; omega) | (simp only [List.length_set]; rw [fill_len (Nat.le_of_lt h2) rfl]; omega))) rfl rfl rfl (by simp [absEs]) rfl (f00_abs (by first | exact goodEs_I _ | exact goodEs_map good_M | exact goodEs_map good_L | exact goodEs_map good_R | exact goodEs_map good_B | exact goodEs_map good_S))) ?_
      refine Ent.trans (ent_absorb' (b := 0) (b' := 4) (j := 5) rfl (at_set (by first | (rw [fill_len (Nat.le_of_lt h2) rfl]; omega) | (simp only [List.length_set]; rw [fill_len (Nat.le_of_lt h2) rfl]; omega))) rfl rfl rfl (by simp [absEs]) rfl (f00_abs (by first | exact goodEs_I _ | exact goodEs_map good_M | exact goodEs_map good_L | exact goodEs_map good_R | exact goodEs_map good_B | exact goodEs_map good_S))) ?_
      refine ent_mk (σ := sg [(0, 0)]) ?_ ?_ rfl
      · refine ⟨⟨_, rfl, rfl, rfl⟩, ⟨_, rfl, rfl, rfl, rfl, rfl⟩, ⟨_, rfl, rfl⟩, trivial⟩
      · refine ⟨⟨_, rfl, rfl, .inl ⟨?_, plain_app (plain_map (fun _ => rfl) _) (plain_repl rfl _)⟩⟩, rfl, trivial⟩
        simp only [List.set_set]
        exact fill_eq h2 rfl rfl
    · simp [encI_len] at h2
      repeat (first | refine aops_nil ?_ | refine ac_seq ?_ | refine ac_region ?_ | refine then_n ?_ | refine ac_exit ?_ | refine ac_ret ?_ | refine aops_eff (eff_move rfl) rfl rfl rfl ?_ | refine aops_eff (eff_assign rfl) rfl rfl rfl ?_)
      refine ret_mk rfl rfl rfl ?_
      have hk : k = a.length := by omega
      refine fz_list (f1_own rfl (X := a.map aR) (by subst hk; simp) (by simp) rfl (f00_map aR_f a))
end Go.Proofs.Ytpngpgbmkkjjgaa

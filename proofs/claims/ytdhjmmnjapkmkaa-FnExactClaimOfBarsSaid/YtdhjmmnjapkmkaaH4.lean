/-
  Several texts of the claim in one: each begins with its own remark.
-/
import Derived.Test.YtdhjmmnjapkmkaaProg
import Derived.Test.YtdhjmmnjapkmkaaH3
section
set_option linter.unusedVariables false
set_option linter.unusedSimpArgs false

namespace Go.Proofs.Ytdhjmmnjapkmkaa
open Go.RowKit
def TT : List (Nat × Ty) := [
 (1, ⟨.sc, 1, 8, [.sc .nilFunc]⟩),
 (2, ⟨.sc, 1, 8, [.sc (.int .i64 0)]⟩),
 (3, ⟨.sc, 1, 8, [.sc (.int .i64 0)]⟩),
 (4, ⟨.sc, 1, 1, [.sc (.bool false)]⟩),
 (5, ⟨.sc, 1, 1, [.sc (.int .u8 0)]⟩),
 (6, ⟨.sc, 1, 1, [.sc (.int .u8 0)]⟩),
 (7, ⟨.struct [(0, 2), (1, 3), (2, 4), (3, 6)], 4, 24, [.sc (.int .i64 0), .sc (.int .i64 0), .sc (.bool false), .sc (.int .u8 0)]⟩),
 (8, ⟨.struct [(0, 2), (1, 3), (2, 4), (3, 6)], 4, 24, [.sc (.int .i64 0), .sc (.int .i64 0), .sc (.bool false), .sc (.int .u8 0)]⟩),
 (9, ⟨.sc, 1, 16, [.sc (.string ⟨#[]⟩)]⟩),
 (10, ⟨.sc, 1, 16, [.sc (.string ⟨#[]⟩)]⟩),
 (11, ⟨.sc, 1, 16, [.sc (.string ⟨#[]⟩)]⟩),
 (12, ⟨.sc, 1, 8, [.sc (.int .u64 0)]⟩),
 (13, ⟨.struct [(0, 9), (1, 12)], 2, 24, [.sc (.string ⟨#[]⟩), .sc (.int .u64 0)]⟩),
 (14, ⟨.struct [(0, 9), (1, 12)], 2, 24, [.sc (.string ⟨#[]⟩), .sc (.int .u64 0)]⟩),
 (21, ⟨.sc, 1, 4, [.sc (.int .i32 0)]⟩),
 (22, ⟨.slice 3, 1, 24, [.nil 1]⟩),
 (23, ⟨.struct [(0, 3), (1, 22), (2, 22)], 3, 56, [.sc (.int .i64 0), .nil 1, .nil 1]⟩),
 (24, ⟨.struct [(0, 3), (1, 22), (2, 22)], 3, 56, [.sc (.int .i64 0), .nil 1, .nil 1]⟩),
 (25, ⟨.slice 74, 1, 24, [.nil 3]⟩),
 (26, ⟨.struct [(0, 3), (1, 24), (4, 22), (5, 25)], 6, 112, [.sc (.int .i64 0), .sc (.int .i64 0), .nil 1, .nil 1, .nil 1, .nil 3]⟩),
 (27, ⟨.struct [(0, 3), (1, 24), (4, 22), (5, 25)], 6, 112, [.sc (.int .i64 0), .sc (.int .i64 0), .nil 1, .nil 1, .nil 1, .nil 3]⟩),
 (28, ⟨.sc, 1, 8, [.sc .nilFunc]⟩),
 (29, ⟨.struct [(0, 3), (1, 22), (2, 22)], 3, 56, [.sc (.int .i64 0), .nil 1, .nil 1]⟩),
 (30, ⟨.slice 82, 1, 24, [.nil 3]⟩),
 (31, ⟨.struct [(0, 3), (1, 29), (4, 22), (5, 30)], 6, 112, [.sc (.int .i64 0), .sc (.int .i64 0), .nil 1, .nil 1, .nil 1, .nil 3]⟩),
 (32, ⟨.struct [(0, 3), (1, 29), (4, 22), (5, 30)], 6, 112, [.sc (.int .i64 0), .sc (.int .i64 0), .nil 1, .nil 1, .nil 1, .nil 3]⟩),
 (33, ⟨.slice 32, 1, 24, [.nil 6]⟩),
 (34, ⟨.slice 80, 1, 24, [.nil 3]⟩),
 (35, ⟨.slice 92, 1, 24, [.nil 2]⟩),
 (36, ⟨.struct [(0, 3), (1, 32), (7, 32), (13, 33), (14, 30), (15, 34), (16, 22), (17, 35)], 18, 352, [.sc (.int .i64 0), .sc (.int .i64 0), .sc (.int .i64 0), .nil 1, .nil 1, .nil 1, .nil 3, .sc (.int .i64 0), .sc (.int .i64 0), .nil 1, .nil 1, .nil 1, .nil 3, .nil 6, .nil 3, .nil 3, .nil 1, .nil 2]⟩),
 (37, ⟨.struct [(0, 3), (1, 32), (7, 32), (13, 33), (14, 30), (15, 34), (16, 22), (17, 35)], 18, 352, [.sc (.int .i64 0), .sc (.int .i64 0), .sc (.int .i64 0), .nil 1, .nil 1, .nil 1, .nil 3, .sc (.int .i64 0), .sc (.int .i64 0), .nil 1, .nil 1, .nil 1, .nil 3, .nil 6, .nil 3, .nil 3, .nil 1, .nil 2]⟩),
 (39, ⟨.sc, 1, 8, [.sc .nilFunc]⟩),
 (40, ⟨.sc, 1, 8, [.sc .nilFunc]⟩),
 (41, ⟨.sc, 1, 8, [.sc .nilFunc]⟩),
 (42, ⟨.sc, 1, 8, [.sc .nilFunc]⟩),
 (43, ⟨.sc, 1, 8, [.sc .nilFunc]⟩),
 (44, ⟨.sc, 1, 8, [.sc .nilFunc]⟩),
 (45, ⟨.sc, 1, 8, [.sc .nilFunc]⟩),
 (46, ⟨.sc, 1, 8, [.sc .nilFunc]⟩),
 (48, ⟨.sc, 1, 8, [.sc .nilFunc]⟩),
 (49, ⟨.sc, 1, 8, [.sc .nilFunc]⟩),
 (50, ⟨.sc, 1, 8, [.sc .nilFunc]⟩),
 (51, ⟨.sc, 1, 8, [.sc .nilFunc]⟩),
 (52, ⟨.sc, 1, 8, [.sc .nilFunc]⟩),
 (53, ⟨.sc, 1, 8, [.sc .nilFunc]⟩),
 (54, ⟨.sc, 1, 8, [.sc .nilFunc]⟩),
 (55, ⟨.sc, 1, 8, [.sc .nilFunc]⟩),
 (56, ⟨.sc, 1, 8, [.sc .nilFunc]⟩),
 (58, ⟨.sc, 1, 8, [.sc .nilFunc]⟩),
 (59, ⟨.sc, 1, 8, [.sc .nilFunc]⟩),
 (60, ⟨.sc, 1, 8, [.sc .nilFunc]⟩),
 (61, ⟨.sc, 1, 8, [.sc .nilFunc]⟩),
 (62, ⟨.sc, 1, 8, [.sc .nilFunc]⟩),
 (63, ⟨.sc, 1, 8, [.sc .nilFunc]⟩),
 (64, ⟨.sc, 1, 8, [.sc .nilFunc]⟩),
 (65, ⟨.sc, 1, 8, [.sc .nilFunc]⟩),
 (66, ⟨.sc, 1, 8, [.sc .nilFunc]⟩),
 (67, ⟨.sc, 1, 8, [.sc .nilFunc]⟩),
 (68, ⟨.sc, 1, 8, [.sc .nilFunc]⟩),
 (69, ⟨.sc, 1, 8, [.sc .nilFunc]⟩),
 (70, ⟨.sc, 1, 8, [.sc .nilFunc]⟩),
 (71, ⟨.sc, 1, 8, [.sc .nilFunc]⟩),
 (72, ⟨.sc, 1, 8, [.sc .nilFunc]⟩),
 (73, ⟨.struct [(0, 3), (1, 3), (2, 22)], 3, 40, [.sc (.int .i64 0), .sc (.int .i64 0), .nil 1]⟩),
 (74, ⟨.struct [(0, 3), (1, 3), (2, 22)], 3, 40, [.sc (.int .i64 0), .sc (.int .i64 0), .nil 1]⟩),
 (75, ⟨.slice 22, 1, 24, [.nil 1]⟩),
 (77, ⟨.sc, 1, 8, [.sc .nilFunc]⟩),
 (78, ⟨.sc, 1, 8, [.sc .nilFunc]⟩),
 (79, ⟨.struct [(0, 3), (1, 3), (2, 3)], 3, 24, [.sc (.int .i64 0), .sc (.int .i64 0), .sc (.int .i64 0)]⟩),
 (80, ⟨.struct [(0, 3), (1, 3), (2, 3)], 3, 24, [.sc (.int .i64 0), .sc (.int .i64 0), .sc (.int .i64 0)]⟩),
 (81, ⟨.sc, 1, 8, [.sc .nilFunc]⟩),
 (82, ⟨.struct [(0, 3), (1, 3), (2, 22)], 3, 40, [.sc (.int .i64 0), .sc (.int .i64 0), .nil 1]⟩),
 (83, ⟨.sc, 1, 8, [.sc .nilFunc]⟩),
 (84, ⟨.sc, 1, 8, [.sc .nilFunc]⟩),
 (85, ⟨.sc, 1, 8, [.sc .nilFunc]⟩),
 (86, ⟨.sc, 1, 8, [.sc .nilFunc]⟩),
 (87, ⟨.sc, 1, 8, [.sc .nilFunc]⟩),
 (88, ⟨.sc, 1, 8, [.sc .nilFunc]⟩),
 (89, ⟨.sc, 1, 8, [.sc .nilFunc]⟩),
 (90, ⟨.sc, 1, 8, [.sc .nilFunc]⟩),
 (91, ⟨.struct [(0, 3), (1, 75)], 2, 32, [.sc (.int .i64 0), .nil 1]⟩),
 (92, ⟨.struct [(0, 3), (1, 75)], 2, 32, [.sc (.int .i64 0), .nil 1]⟩),
 (93, ⟨.sc, 1, 8, [.sc .nilFunc]⟩),
 (94, ⟨.sc, 1, 8, [.sc .nilFunc]⟩),
 (95, ⟨.sc, 1, 8, [.sc .nilFunc]⟩),
 (96, ⟨.sc, 1, 8, [.sc .nilFunc]⟩),
 (97, ⟨.sc, 1, 8, [.sc .nilFunc]⟩),
 (98, ⟨.sc, 1, 8, [.sc .nilFunc]⟩),
 (99, ⟨.sc, 1, 8, [.sc .nilFunc]⟩),
 (100, ⟨.sc, 1, 8, [.sc .nilFunc]⟩),
 (101, ⟨.sc, 1, 8, [.sc .nilFunc]⟩),
 (102, ⟨.sc, 1, 8, [.sc .nilFunc]⟩),
 (103, ⟨.sc, 1, 8, [.sc .nilFunc]⟩),
 (104, ⟨.sc, 1, 8, [.sc .nilFunc]⟩),
 (105, ⟨.sc, 1, 8, [.sc .nilFunc]⟩),
 (106, ⟨.sc, 1, 8, [.sc .nilFunc]⟩),
 (107, ⟨.sc, 1, 8, [.sc .nilFunc]⟩),
 (108, ⟨.sc, 1, 8, [.sc .nilFunc]⟩),
 (109, ⟨.sc, 1, 8, [.sc .nilFunc]⟩),
 (110, ⟨.sc, 1, 8, [.sc .nilFunc]⟩),
 (111, ⟨.sc, 1, 8, [.sc .nilFunc]⟩),
 (112, ⟨.sc, 1, 8, [.sc .nilFunc]⟩),
 (113, ⟨.sc, 1, 8, [.sc .nilFunc]⟩),
 (114, ⟨.sc, 1, 8, [.sc .nilFunc]⟩),
 (115, ⟨.sc, 1, 8, [.sc .nilFunc]⟩),
 (116, ⟨.sc, 1, 8, [.sc .nilFunc]⟩),
 (117, ⟨.sc, 1, 8, [.sc .nilFunc]⟩),
 (118, ⟨.sc, 1, 8, [.sc .nilFunc]⟩),
 (119, ⟨.sc, 1, 8, [.sc .nilFunc]⟩),
 (120, ⟨.sc, 1, 8, [.sc .nilFunc]⟩),
 (122, ⟨.sc, 1, 8, [.sc .nilFunc]⟩),
 (123, ⟨.sc, 1, 8, [.sc .nilFunc]⟩),
 (124, ⟨.sc, 1, 8, [.sc .nilFunc]⟩),
 (126, ⟨.sc, 1, 8, [.sc .nilFunc]⟩),
 (127, ⟨.sc, 1, 8, [.sc .nilFunc]⟩),
 (128, ⟨.sc, 1, 8, [.sc .nilFunc]⟩),
 (129, ⟨.sc, 1, 8, [.sc .nilFunc]⟩),
 (130, ⟨.sc, 1, 8, [.sc .nilFunc]⟩),
 (131, ⟨.slice 141, 1, 24, [.nil 2]⟩),
 (133, ⟨.sc, 1, 8, [.sc .nilFunc]⟩),
 (134, ⟨.sc, 1, 8, [.sc .nilFunc]⟩),
 (135, ⟨.sc, 1, 8, [.sc .nilFunc]⟩),
 (136, ⟨.sc, 1, 8, [.sc .nilFunc]⟩),
 (137, ⟨.sc, 1, 8, [.sc .nilFunc]⟩),
 (138, ⟨.sc, 1, 8, [.sc .nilFunc]⟩),
 (139, ⟨.sc, 1, 8, [.sc .nilFunc]⟩),
 (140, ⟨.struct [(0, 3), (1, 22)], 2, 32, [.sc (.int .i64 0), .nil 1]⟩),
 (141, ⟨.struct [(0, 3), (1, 22)], 2, 32, [.sc (.int .i64 0), .nil 1]⟩),
 (142, ⟨.sc, 1, 8, [.sc .nilFunc]⟩),
 (143, ⟨.sc, 1, 8, [.sc .nilFunc]⟩),
 (144, ⟨.sc, 1, 8, [.sc .nilFunc]⟩),
 (145, ⟨.sc, 1, 8, [.sc .nilFunc]⟩),
 (146, ⟨.sc, 1, 8, [.sc .nilFunc]⟩),
 (147, ⟨.sc, 1, 8, [.sc .nilFunc]⟩),
 (148, ⟨.sc, 1, 8, [.sc .nilFunc]⟩),
 (149, ⟨.sc, 1, 8, [.sc .nilFunc]⟩),
 (150, ⟨.sc, 1, 8, [.sc .nilFunc]⟩),
 (151, ⟨.sc, 1, 8, [.sc .nilFunc]⟩),
 (152, ⟨.sc, 1, 8, [.sc .nilFunc]⟩),
 (153, ⟨.sc, 1, 8, [.sc (.int .u64 0)]⟩),
 (155, ⟨.sc, 1, 8, [.sc .nilFunc]⟩),
 (156, ⟨.sc, 1, 8, [.sc .nilFunc]⟩),
 (157, ⟨.sc, 1, 8, [.sc .nilFunc]⟩),
 (158, ⟨.sc, 1, 8, [.sc .nilFunc]⟩),
 (159, ⟨.sc, 1, 8, [.sc .nilFunc]⟩),
 (160, ⟨.sc, 1, 8, [.sc .nilFunc]⟩),
 (161, ⟨.sc, 1, 4, [.sc (.int .u32 0)]⟩),
 (163, ⟨.sc, 1, 8, [.sc .nilFunc]⟩),
 (164, ⟨.sc, 1, 8, [.sc (.int .u64 0)]⟩),
 (166, ⟨.sc, 1, 8, [.sc .nilFunc]⟩),
 (167, ⟨.sc, 1, 8, [.sc .nilFunc]⟩),
 (168, ⟨.sc, 1, 8, [.sc .nilFunc]⟩),
 (169, ⟨.sc, 1, 8, [.sc .nilFunc]⟩),
 (170, ⟨.sc, 1, 8, [.sc .nilFunc]⟩),
 (176, ⟨.sc, 1, 8, [.sc .nilFunc]⟩),
 (177, ⟨.sc, 1, 1, [.sc (.int .u8 0)]⟩),
 (178, ⟨.sc, 1, 1, [.sc (.int .u8 0)]⟩),
 (179, ⟨.sc, 1, 8, [.sc .nilFunc]⟩),
 (181, ⟨.sc, 1, 4, [.sc (.int .i32 0)]⟩),
 (182, ⟨.sc, 1, 4, [.sc (.int .i32 0)]⟩),
 (185, ⟨.sc, 1, 8, [.sc .nilFunc]⟩),
 (186, ⟨.sc, 1, 8, [.sc .nilFunc]⟩)]
set_option maxRecDepth 100000 in
theorem TT_ok : TyOk Try.prog TT := tyOk_of (by kernel_rfl)
end Go.Proofs.Ytdhjmmnjapkmkaa
end

section
set_option linter.unusedVariables false
set_option linter.unusedSimpArgs false

namespace Go.Proofs.Ytdhjmmnjapkmkaa
open Go.RowKit
set_option linter.unusedVariables false
theorem ob {α β : Type} {o : Option α} {k : α → Option β} {r : β} (h : o.bind k = some r) : ∃ a, o = some a ∧ k a = some r := by
 cases o with
 | none => cases h
 | some a => exact ⟨a, rfl, h⟩
theorem cb {α : Type} {c : Bool} {A B : Option α} {r : α} (h : cond c A B = some r) : (c = true ∧ A = some r) ∨ (c = false ∧ B = some r) := by
 cases c
 ·exact .inr ⟨rfl, h⟩
 ·exact .inl ⟨rfl, h⟩
theorem cg {α : Type} {c : Bool} {A : Option α} {r : α} (h : cond c A none = some r) : c = true ∧ A = some r := by
 cases c
 ·cases h
 ·exact ⟨rfl, h⟩
theorem so {α : Type} {x r : α} (h : some x = some r) : x = r := Option.some.inj h
def atL {α : Type} (l : List α) (i : Int) : Option α := bif decide (0 ≤ i) then l[i.toNat]? else none
theorem atL_get {α : Type} {l : List α} {i : Int} {v : α} (h : atL l i = some v) : l[i.toNat]? = some v := (cg h).2
theorem atL_nn {α : Type} {l : List α} {i : Int} {v : α} (h : atL l i = some v) : 0 ≤ i := of_decide_eq_true (cg h).1
theorem atL_lt {α : Type} {l : List α} {i : Int} {v : α} (h : atL l i = some v) : i.toNat < l.length := by
 rcases Nat.lt_or_ge i.toNat l.length with h' | h'
 ·exact h'
 ·have := atL_get h; rw [List.getElem?_eq_none h'] at this; cases this
theorem atL_map {α β : Type} {f : α → β} {l : List α} {i : Int} {v : α} (h : atL l i = some v) : (l.map f)[i.toNat]? = some (f v) := by rw [List.getElem?_map, atL_get h]; rfl
theorem atL_nat {α : Type} {l : List α} {n : Nat} (h : n < l.length) : atL l (n : Int) = some l[n] := by simp [atL, h]
def wr (x : Int) : Int := IntKind.i64.wrap x
theorem wr_eq {x : Int} (h : -9223372036854775808 ≤ x ∧ x ≤ 9223372036854775807) : wr x = x := by unfold wr; rw [IntKind.wrap_i64]; omega
def LpN {σ ρ : Type} (body : σ → Option (σ ⊕ ρ)) : Nat → σ → ρ → Prop
 | 0, s, r => body s = some (.inr r)
 | n + 1, s, r => ∃ s', body s = some (.inl s') ∧ LpN body n s' r
theorem LpN.det {σ ρ : Type} {body : σ → Option (σ ⊕ ρ)} : ∀ {n m : Nat} {s : σ} {r r' : ρ}, LpN body n s r → LpN body m s r' → r = r'
 | 0, 0, s, r, r', h, k => by rw [LpN] at h k; rw [h] at k; cases k; rfl
 | 0, m + 1, s, r, r', h, ⟨s', k, _⟩ => by rw [LpN] at h; rw [h] at k; cases k
 | n + 1, 0, s, r, r', ⟨s', h, _⟩, k => by rw [LpN] at k; rw [h] at k; cases k
 | n + 1, m + 1, s, r, r', ⟨s', h, h2⟩, ⟨s'', k, k2⟩ => by rw [h] at k; cases k; exact LpN.det h2 k2
open Classical in
noncomputable def Lp {σ ρ : Type} (body : σ → Option (σ ⊕ ρ)) (s : σ) : Option ρ := if h : ∃ r n, LpN body n s r then some h.choose else none
theorem Lp_some {σ ρ : Type} {body : σ → Option (σ ⊕ ρ)} {s : σ} {r : ρ} : Lp body s = some r ↔ ∃ n, LpN body n s r := by
 unfold Lp
 split
 ·rename_i h
  obtain ⟨n, hn⟩ := h.choose_spec
  constructor
  ·intro e; cases e; exact ⟨n, hn⟩
  ·rintro ⟨m, hm⟩; rw [hn.det hm]
 ·rename_i h
  constructor
  ·intro e; cases e
  ·rintro ⟨m, hm⟩; exact absurd ⟨r, m, hm⟩ h
theorem Lp_stop {σ ρ : Type} {body : σ → Option (σ ⊕ ρ)} {s : σ} {r : ρ} (h : body s = some (.inr r)) : Lp body s = some r := Lp_some.2 ⟨0, h⟩
theorem Lp_step {σ ρ : Type} {body : σ → Option (σ ⊕ ρ)} {s s' : σ} (h : body s = some (.inl s')) : Lp body s = Lp body s' := by
 apply Option.ext
 intro r
 rw [Lp_some, Lp_some]
 constructor
 ·rintro ⟨n, hn⟩
  cases n with
  | zero => rw [LpN] at hn; rw [h] at hn; cases hn
  | succ n => obtain ⟨s'', h1, h2⟩ := hn; rw [h] at h1; cases h1; exact ⟨n, h2⟩
 ·rintro ⟨n, hn⟩; exact ⟨n + 1, s', h, hn⟩
theorem Lp_inv {σ ρ : Type} {body : σ → Option (σ ⊕ ρ)} {s : σ} {r : ρ} (I : Nat → σ) (N : Nat) (h0 : s = I 0) (hs : ∀ k, k < N → body (I k) = some (.inl (I (k + 1)))) (hr : body (I N) = some (.inr r)) : Lp body s = some r := by
 subst h0
 have key : ∀ d k, k + d = N → Lp body (I k) = some r := by
  intro d
  induction d with
  | zero => intro k hk; rw [Nat.add_zero] at hk; subst hk; exact Lp_stop hr
  | succ d ih => intro k hk; rw [Lp_step (hs k (by omega))]; exact ih (k + 1) (by omega)
 exact key N 0 (by omega)
theorem Lp_meas {σ ρ : Type} {body : σ → Option (σ ⊕ ρ)} {s : σ} (I : σ → Prop) (μ : σ → Nat) (R : ρ → Prop) (h0 : I s) (hs : ∀ x, I x → (∃ x', body x = some (.inl x') ∧ I x' ∧ μ x' < μ x) ∨ ∃ r, body x = some (.inr r) ∧ R r) : ∃ r, Lp body s = some r ∧ R r := by
 have key : ∀ n x, μ x = n → I x → ∃ r, Lp body x = some r ∧ R r := by
  intro n
  induction n using Nat.strongRecOn with
  | _ n ih =>
   intro x hn hx
   rcases hs x hx with ⟨x', h1, h2, h3⟩ | ⟨r, h1, h2⟩
   ·rw [Lp_step h1]; exact ih (μ x') (hn ▸ h3) x' rfl h2
   ·exact ⟨r, Lp_stop h1, h2⟩
 exact key _ s rfl h0
section
variable {P : Program} {nt : Nat} {s : AState} {Q : Exit → AState → Prop}
theorem ac_Lp {c : Code} {σ ρ : Type} {body : σ → Option (σ ⊕ ρ)} {x0 : σ} {r0 : ρ} (h : Lp body x0 = some r0) (S : σ → AState) (X : ρ → Exit → AState → Prop) (e0 : Ent s (S x0))
  (round : ∀ x o, body x = some o → AC P nt c (S x) (thenA (fun t => ∃ x', o = .inl x' ∧ Ent t (S x')) (fun e t => ∃ r, o = .inr r ∧ X r e t))) (hX : ∀ e t, X r0 e t → Q e t) : AC P nt (.loop c) s Q := by
 obtain ⟨n, hn⟩ := Lp_some.1 h
 refine ac_loop (ι := σ × Nat) (fun p => S p.1) (fun p => LpN body p.2 p.1 r0) (fun p => p.2) (x0, n) hn e0 ?_
 rintro ⟨x, m⟩ hm
 cases m with
 | zero =>
  refine ac_mono (round x _ hm) fun e t hq => ?_
  cases e <;> simp only [thenA] at hq ⊢
  ·obtain ⟨x', h1, _⟩ := hq; cases h1
  all_goals (obtain ⟨r, h1, h2⟩ := hq; cases h1; exact hX _ _ h2)
 | succ m =>
  obtain ⟨x', h1, h2⟩ := hm
  refine ac_mono (round x _ h1) fun e t hq => ?_
  cases e <;> simp only [thenA] at hq ⊢
  ·obtain ⟨x'', h3, h4⟩ := hq; cases h3; exact ⟨(x', m), h2, Nat.lt_succ_self _, h4⟩
  all_goals (obtain ⟨r, h3, _⟩ := hq; cases h3)
theorem ac_condT {c : Operand} {x y : Code} {t : Bool} (hc : s.ev c = some (.sc (.bool t))) (q : t = true) (h : AC P nt x s Q) : AC P nt (.cond c x y) s Q := ac_cond hc (fun _ => h) (fun e => by rw [q] at e; cases e)
theorem ac_condF {c : Operand} {x y : Code} {t : Bool} (hc : s.ev c = some (.sc (.bool t))) (q : t = false) (h : AC P nt y s Q) : AC P nt (.cond c x y) s Q := ac_cond hc (fun e => by rw [q] at e; cases e) (fun _ => h)
theorem upd_same {i : Nat} {v : AV} {e : Nat → Option AV} (h : e i = some v) : upd (some i) v e = e := by
 funext t
 simp only [upd]
 cases hb : Nat.beq t i with
 | false => rfl
 | true => rw [Nat.eq_of_beq_eq_true hb, h]; rfl
theorem aops_lit {ops : Array Oper} {r : List Oper} {tr : List Tr} {K : List Tr → AState → Prop} {t u : Bool} (i : Nat) (hi : s.env i = some (.sc (.bool t))) (q : t = u) (h : AOps P ops nt r ⟨upd (some i) (.sc (.bool u)) s.env, s.heap, s.used, s.ns, s.kp⟩ tr K) : AOps P ops nt r s tr K := by
 subst q
 rw [upd_same hi] at h
 exact h
end
def cellB : AV → Bool
 | .sc v => v.oneCell'
 | .list _ _ => true
 | _ => false
structure EOk {α : Type} (k : Nat) (e : α → List AV) : Prop where
 len : ∀ x, (e x).length = k
 cell : ∀ x, (e x).all cellB = true
def ow {α : Type} (e : α → List AV) (x : α) : List AV := (e x).map toAbs
theorem abs_map {α : Type} (e : α → List AV) (l : List α) : absEs (l.map e) = l.map (ow e) := by
 unfold absEs
 rw [List.map_map]
 rfl
section
variable {α : Type} {k : Nat} {e : α → List AV}
theorem cellB_view {c : AV} (h : cellB c = true) : view0 (toAbs c) c := by cases c <;> simp only [cellB, Bool.false_eq_true] at h <;> simp [toAbs, view0]
theorem cellB_frz {c : AV} (h : cellB c = true) : frz0 (toAbs c) c := by cases c <;> simp only [cellB, Bool.false_eq_true] at h <;> simp [toAbs, frz0]
theorem cellB_ok {c : AV} (h : cellB c = true) (hp : Hp) : okCell hp c = true := by cases c <;> simp only [cellB, Bool.false_eq_true] at h <;> rfl
theorem cellB_plain {c : AV} (h : cellB c = true) : plainD c = true ∧ ∀ ds, c ≠ .ref ds := by cases c <;> simp only [cellB, Bool.false_eq_true] at h <;> exact ⟨rfl, fun _ e => by cases e⟩
theorem cellB_name {c : AV} (h : cellB c = true) : nameless c = true ∧ nameless (toAbs c) = true := by cases c <;> simp only [cellB, Bool.false_eq_true] at h <;> exact ⟨rfl, rfl⟩
theorem all2_map {R : AV → AV → Prop} {f g : AV → AV} : ∀ {cs : List AV}, (∀ c ∈ cs, R (f c) (g c)) → All2 R (cs.map f) (cs.map g)
 | [], _ => rfl
 | c :: cs, h => ⟨g c, _, rfl, h c (by simp), all2_map fun d hd => h d (by simp [hd])⟩
theorem all2_maps {β : Type} {R : List AV → List AV → Prop} {f g : β → List AV} : ∀ {l : List β}, (∀ x, R (f x) (g x)) → All2 R (l.map f) (l.map g)
 | [], _ => rfl
 | x :: l, h => ⟨g x, _, rfl, h x, all2_maps h⟩
theorem EOk.mem (E : EOk k e) (x : α) : ∀ c ∈ e x, cellB c = true := List.all_eq_true.1 (E.cell x)
theorem EOk.view (E : EOk k e) (x : α) : All2 view0 (ow e x) (e x) := by have := all2_map (R := view0) (f := toAbs) (g := id) (fun c hc => cellB_view (E.mem x c hc)); simpa [ow] using this
theorem EOk.frz (E : EOk k e) (x : α) : All2 frz0 (ow e x) (e x) := by have := all2_map (R := frz0) (f := toAbs) (g := id) (fun c hc => cellB_frz (E.mem x c hc)); simpa [ow] using this
theorem EOk.views (E : EOk k e) (l : List α) : All2 (All2 view0) (l.map (ow e)) (l.map e) := all2_maps E.view
theorem EOk.frzs (E : EOk k e) (l : List α) : All2 (All2 frz0) (l.map (ow e)) (l.map e) := all2_maps E.frz
theorem EOk.good (E : EOk k e) (l : List α) : goodEs (l.map e) := by
 intro cs hcs c hc
 obtain ⟨x, _, rfl⟩ := List.mem_map.1 hcs
 exact cellB_plain (E.mem x c hc)
theorem EOk.plainO (E : EOk k e) (l : List α) : plainEs (l.map (ow e)) := by
 intro cs hcs c hc
 obtain ⟨x, _, rfl⟩ := List.mem_map.1 hcs
 obtain ⟨d, hd, rfl⟩ := List.mem_map.1 hc
 exact (cellB_name (E.mem x d hd)).2
theorem EOk.okE (E : EOk k e) (hp : Hp) (l : List α) : (l.map e).flatten.all (okCell hp) = true := by
 rw [List.all_eq_true]
 intro c hc
 obtain ⟨cs, hcs, hc⟩ := List.mem_flatten.1 hc
 obtain ⟨x, _, rfl⟩ := List.mem_map.1 hcs
 exact cellB_ok (E.mem x c hc) hp
theorem names_nil : ∀ {cs : List AV}, (∀ c ∈ cs, cellB c = true) → namesOf cs = []
 | [], _ => rfl
 | c :: cs, h => by
  have h1 := h c (by simp)
  have h2 := names_nil (cs := cs) (fun d hd => h d (by simp [hd]))
  cases c <;> simp only [cellB, Bool.false_eq_true] at h1 <;> exact h2
theorem EOk.namesE (E : EOk k e) (l : List α) : namesOf (l.map e).flatten = [] := by
 refine names_nil fun c hc => ?_
 obtain ⟨cs, hcs, hc⟩ := List.mem_flatten.1 hc
 obtain ⟨x, _, rfl⟩ := List.mem_map.1 hcs
 exact E.mem x c hc
end
end Go.Proofs.Ytdhjmmnjapkmkaa
end

section
set_option linter.unusedVariables false
set_option linter.unusedSimpArgs false

namespace Go.Proofs.Ytdhjmmnjapkmkaa
open Go.RowKit
set_option linter.unusedVariables false
def inR (n lo hi : Int) : Bool := decide (lo ≤ n ∧ n ≤ hi)
theorem inR_true {n lo hi : Int} (h : inR n lo hi = true) : lo ≤ n ∧ n ≤ hi := by simpa [inR] using h
theorem inR_mk {n lo hi : Int} (h1 : lo ≤ n) (h2 : n ≤ hi) : inR n lo hi = true := by simp [inR, h1, h2]
theorem tmod_range (x p : Int) (hp : 0 < p) : -p < x.tmod p ∧ x.tmod p < p := ⟨Int.lt_tmod_of_pos x hp, Int.tmod_lt_of_pos x hp⟩
theorem tmod_cases (x p : Int) (hp : 0 < p) : (0 ≤ x.tmod p ∧ x.tmod p = x % p) ∨ (x.tmod p < 0 ∧ x.tmod p = x % p - p) := by
 have h := @Int.tmod_eq_emod x p
 have h0 := Int.emod_nonneg x (by omega : p ≠ 0)
 have h1 := Int.emod_lt_of_pos x hp
 have h2 : (p.natAbs : Int) = p := by omega
 split at h
 ·exact .inl ⟨by omega, by omega⟩
 ·exact .inr ⟨by omega, by omega⟩
theorem tmod_emod (x p : Int) (hp : 0 < p) : (x.tmod p + p).tmod p = x % p := by
 have h0 := Int.emod_nonneg x (by omega : p ≠ 0)
 have h1 := Int.emod_lt_of_pos x hp
 rcases tmod_cases x p hp with ⟨h, e⟩ | ⟨h, e⟩
 ·rw [e, Int.tmod_eq_emod_of_nonneg (by omega), Int.add_emod_right, Int.emod_emod_of_dvd _ (Int.dvd_refl p)]
 ·rw [e, show x % p - p + p = x % p by omega, Int.tmod_eq_emod_of_nonneg h0, Int.emod_emod_of_dvd _ (Int.dvd_refl p)]
def isF (p : Int) : Bool := decide (p = 2 ∨ p = 3 ∨ p = 5)
theorem isF_true {p : Int} (h : isF p = true) : p = 2 ∨ p = 3 ∨ p = 5 := by simpa [isF] using h
def powR (p r : Int) : Nat → Int
 | 0 => 1
 | n + 1 => (powR p r n * r) % p
theorem powR_bd {p r : Int} (hp : isF p = true) (hr : 0 ≤ r ∧ r < p) : ∀ n, 0 ≤ powR p r n ∧ powR p r n < p := by
 intro n
 have := isF_true hp
 cases n with
 | zero => simp [powR]; omega
 | succ n => exact ⟨Int.emod_nonneg _ (by omega), Int.emod_lt_of_pos _ (by omega)⟩
def invR (p r : Int) : Int := powR p r (max (p - 2) 1).toNat
theorem inv_hit {p r y : Int} (hp : isF p = true) (hr : 0 ≤ r ∧ r < p) (hy : 1 ≤ y ∧ y < p) (h : (r * y) % p = 1) : invR p r = y := by
 rcases isF_true hp with rfl | rfl | rfl
 ·have h1 : r = 0 ∨ r = 1 := by omega
  have h2 : y = 1 := by omega
  subst h2
  rcases h1 with rfl | rfl <;> first | (exfalso; revert h; decide) | decide
 ·have h1 : r = 0 ∨ r = 1 ∨ r = 2 := by omega
  have h2 : y = 1 ∨ y = 2 := by omega
  rcases h1 with rfl | rfl | rfl <;> rcases h2 with rfl | rfl <;> first | (exfalso; revert h; decide) | decide
 ·have h1 : r = 0 ∨ r = 1 ∨ r = 2 ∨ r = 3 ∨ r = 4 := by omega
  have h2 : y = 1 ∨ y = 2 ∨ y = 3 ∨ y = 4 := by omega
  rcases h1 with rfl | rfl | rfl | rfl | rfl <;> rcases h2 with rfl | rfl | rfl | rfl <;> first | (exfalso; revert h; decide) | decide
theorem inv_miss {p r : Int} (hp : isF p = true) (hr : 0 ≤ r ∧ r < p) (h : ∀ y : Nat, 1 ≤ y → (y : Int) < p → (r * y) % p ≠ 1) : invR p r = 0 := by
 have h1 := h 1 (by omega)
 have h2 := h 2 (by omega)
 have h3 := h 3 (by omega)
 have h4 := h 4 (by omega)
 rcases isF_true hp with rfl | rfl | rfl
 ·have h1 : r = 0 ∨ r = 1 := by omega
  rcases h1 with rfl | rfl <;> first | decide | (exfalso; revert h1 h2 h3 h4; decide)
 ·have h1 : r = 0 ∨ r = 1 ∨ r = 2 := by omega
  rcases h1 with rfl | rfl | rfl <;> first | decide | (exfalso; revert h1 h2 h3 h4; decide)
 ·have h1 : r = 0 ∨ r = 1 ∨ r = 2 ∨ r = 3 ∨ r = 4 := by omega
  rcases h1 with rfl | rfl | rfl | rfl | rfl <;> first | decide | (exfalso; revert h1 h2 h3 h4; decide)
theorem inv_ok {p r : Int} (hp : isF p = true) (hr : 1 ≤ r ∧ r < p) : 1 ≤ invR p r ∧ invR p r < p ∧ (r * invR p r) % p = 1 := by
 rcases isF_true hp with rfl | rfl | rfl
 ·have h1 : r = 1 := by omega
  subst h1; decide
 ·have h1 : r = 1 ∨ r = 2 := by omega
  rcases h1 with rfl | rfl <;> decide
 ·have h1 : r = 1 ∨ r = 2 ∨ r = 3 ∨ r = 4 := by omega
  rcases h1 with rfl | rfl | rfl | rfl <;> decide
theorem isF_bd {p : Int} (h : isF p = true) : 2 ≤ p ∧ p ≤ 5 := by have := isF_true h; omega
theorem wr_sm {x : Int} (h : -4611686018427387904 ≤ x ∧ x ≤ 4611686018427387904) : wr x = x := wr_eq (by omega)
theorem wr_suc {k n : Nat} (hk : k < n) (hn : n ≤ 4611686018427387904) : wr ((k : Int) + 1) = ((k + 1 : Nat) : Int) := by rw [wr_sm (by omega)]; omega
theorem atG {α : Type} {l : List α} {k : Nat} (d : α) (h : k < l.length) : atL l (k : Int) = some (l[k]?.getD d) := by rw [atL_nat h]; simp [h]
theorem atI {α : Type} {l : List α} {i : Int} (d : α) (h0 : 0 ≤ i) (h : i < l.length) : atL l i = some (l[i.toNat]?.getD d) := by
 have := atG (l := l) (k := i.toNat) d (by omega)
 rwa [Int.toNat_of_nonneg h0] at this
theorem dlt {k n : Nat} (h : k < n) : decide ((k : Int) < (n : Int)) = true := decide_eq_true (by omega)
theorem dnl {k n : Nat} (h : n ≤ k) : decide ((k : Int) < (n : Int)) = false := decide_eq_false (by omega)
theorem Lp_search {β : Type} {body : Int → Option (Int ⊕ (Unit ⊕ β))} {s0 : Int} {s n : Nat} (f : Nat → Option β) (hs0 : s0 = (s : Int)) (hn : n ≤ 4611686018427387904) (hsn : s ≤ n) (hs : ∀ k : Nat, s ≤ k → k < n → body k = some (match f k with | none => .inl (wr (k + 1)) | some b => .inr (.inr b)))
  (he : True → body n = some (.inr (.inl ()))) : Lp body s0 = some (match (List.range' s (n - s)).findSome? f with | none => .inl () | some b => .inr b) := by
 have key : ∀ d k : Nat, s ≤ k → k + d = n → Lp body k = some (match (List.range' k d).findSome? f with | none => .inl () | some b => .inr b) := by
  intro d
  induction d with
  | zero => intro k _ hk; rw [Nat.add_zero] at hk; subst hk; exact Lp_stop (he trivial)
  | succ d ih =>
   intro k h1 hk
   have h := hs k h1 (by omega)
   rw [List.range'_succ, List.findSome?_cons]
   cases hf : f k with
   | none => rw [hf] at h; rw [Lp_step h, wr_suc (n := n) (by omega) hn]; exact ih (k + 1) (by omega) (by omega)
   | some b => rw [hf] at h; exact Lp_stop h
 subst hs0
 exact key (n - s) s (Nat.le_refl _) (by omega)
theorem Lp_go {σ ρ : Type} {body : σ → Option (σ ⊕ ρ)} {s : σ} {r : ρ} (I : Nat → σ) (N : Nat) (h0 : s = I 0) (hs : ∀ k, k < N → body (I k) = some (.inl (I (k + 1)))) (hr : True → body (I N) = some (.inr r)) : Lp body s = some r := Lp_inv I N h0 hs (hr trivial)
theorem Lp_all {β : Type} {body : Int → Option (Int ⊕ (Unit ⊕ β))} {n : Nat} (P : Nat → Bool) (b : β) (hn : n ≤ 4611686018427387904) (hs : ∀ k : Nat, k < n → body k = some (bif P k then .inl (wr (k + 1)) else .inr (.inr b)))
  (he : True → body n = some (.inr (.inl ()))) : Lp body 0 = some (bif (List.range n).all P then .inl () else .inr b) := by
 have key : ∀ d k : Nat, k + d = n → Lp body k = some (bif (List.range' k d).all P then .inl () else .inr b) := by
  intro d
  induction d with
  | zero => intro k hk; rw [Nat.add_zero] at hk; subst hk; exact Lp_stop (he trivial)
  | succ d ih =>
   intro k hk
   have h := hs k (by omega)
   rw [List.range'_succ, List.all_cons]
   cases hf : P k with
   | true => rw [hf] at h; rw [Lp_step h, wr_suc (n := n) (by omega) hn]; exact ih (k + 1) (by omega)
   | false => rw [hf] at h; exact Lp_stop h
 have := key n 0 (by omega)
 rwa [List.range_eq_range']
theorem all_range {α : Type} (d : α) (l : List α) (P : α → Bool) : (List.range l.length).all (fun k => P (l[k]?.getD d)) = l.all P := by
 rw [Bool.eq_iff_iff, List.all_eq_true, List.all_eq_true]
 constructor
 ·intro h x hx
  obtain ⟨k, hk, rfl⟩ := List.mem_iff_getElem.1 hx
  have := h k (List.mem_range.2 hk)
  simpa [hk] using this
 ·intro h k hk
  have hk := List.mem_range.1 hk
  simp only [List.getElem?_eq_getElem hk, Option.getD_some]
  exact h _ (List.getElem_mem hk)
theorem range_all {n : Nat} {P : Nat → Bool} : (List.range n).all P = true ↔ ∀ k, k < n → P k = true := by simp [List.all_eq_true]
def tabM (r c : Nat) (F : Nat → Nat → Int) : List Int := (List.range (r * c)).map fun t => F (t / c) (t % c)
theorem tabM_len (r c : Nat) (F : Nat → Nat → Int) : (tabM r c F).length = r * c := by simp [tabM]
theorem ix_lt {r c i j : Nat} (hi : i < r) (hj : j < c) : i * c + j < r * c := by
 have := Nat.mul_le_mul_right c (Nat.succ_le_of_lt hi)
 rw [Nat.succ_mul] at this
 omega
theorem ix_div {c i j : Nat} (hj : j < c) : (i * c + j) / c = i := by rw [Nat.mul_comm, Nat.mul_add_div (by omega), Nat.div_eq_of_lt hj, Nat.add_zero]
theorem ix_mod {c i j : Nat} (hj : j < c) : (i * c + j) % c = j := by rw [Nat.mul_comm, Nat.mul_add_mod, Nat.mod_eq_of_lt hj]
theorem tabM_get {r c : Nat} (F : Nat → Nat → Int) {i j : Nat} (hi : i < r) (hj : j < c) : (tabM r c F)[i * c + j]? = some (F i j) := by
 have h := ix_lt hi hj
 simp [tabM, h, ix_div hj, ix_mod hj]
theorem tabM_at {r c : Nat} (F : Nat → Nat → Int) {i j : Nat} (hi : i < r) (hj : j < c) : atL (tabM r c F) ((i * c + j : Nat) : Int) = some (F i j) := by
 rw [atL_nat (by rw [tabM_len]; exact ix_lt hi hj), ← tabM_get F hi hj, List.getElem?_eq_getElem]
theorem tabM_congr {r c : Nat} {F G : Nat → Nat → Int} (h : ∀ i j, i < r → j < c → F i j = G i j) : tabM r c F = tabM r c G := by
 unfold tabM
 refine List.map_congr_left fun t ht => ?_
 have ht := List.mem_range.1 ht
 have hc : 0 < c := by rcases Nat.eq_zero_or_pos c with rfl | h'; simp at ht; exact h'
 exact h _ _ (Nat.div_lt_of_lt_mul (by rw [Nat.mul_comm]; exact ht)) (Nat.mod_lt _ hc)
def setF (F : Nat → Nat → Int) (i j : Nat) (v : Int) : Nat → Nat → Int := fun a b => if a = i ∧ b = j then v else F a b
theorem tabM_set {r c : Nat} (F : Nat → Nat → Int) {i j : Nat} (v : Int) (hi : i < r) (hj : j < c) : (tabM r c F).set (i * c + j) v = tabM r c (setF F i j v) := by
 refine List.ext_getElem (by simp [tabM]) fun t h1 h2 => ?_
 rw [tabM_len] at h2
 have hc : 0 < c := by omega
 rw [List.getElem_set]
 simp only [tabM, List.getElem_map, List.getElem_range, setF]
 have e := Nat.div_add_mod t c
 by_cases ht : i * c + j = t
 ·subst ht; rw [if_pos rfl, ix_div hj, ix_mod hj, if_pos ⟨rfl, rfl⟩]
 ·rw [if_neg ht, if_neg]
  rintro ⟨rfl, rfl⟩
  rw [Nat.mul_comm] at e
  exact ht e
theorem tabM_of {r c : Nat} {l : List Int} (h : l.length = r * c) : l = tabM r c (fun i j => l[i * c + j]?.getD 0) := by
 refine List.ext_getElem (by rw [tabM_len, h]) fun t h1 h2 => ?_
 simp only [tabM, List.getElem_map, List.getElem_range]
 have e : t / c * c + t % c = t := by rw [Nat.mul_comm]; exact Nat.div_add_mod t c
 rw [e]
 simp [h1]
theorem tabM_zero (r c : Nat) : List.replicate (r * c) (0 : Int) = tabM r c (fun _ _ => 0) := by
 refine List.ext_getElem (by simp [tabM]) fun t h1 h2 => ?_
 simp [tabM]
theorem wix {i c j : Nat} (h : i * c + j ≤ 4611686018427387904) : wr (wr ((i : Int) * (c : Int)) + (j : Int)) = ((i * c + j : Nat) : Int) := by
 have e : (i : Int) * (c : Int) = ((i * c : Nat) : Int) := by simp
 rw [e, wr_sm (x := ((i * c : Nat) : Int)) (by omega), wr_sm (by omega)]; omega
theorem wmul {i c : Nat} (h : i * c ≤ 4611686018427387904) : wr ((i : Int) * (c : Int)) = ((i * c : Nat) : Int) := by
 have e : (i : Int) * (c : Int) = ((i * c : Nat) : Int) := by simp
 rw [e, wr_sm (by omega)]
def pivot (F : Nat → Nat → Int) (j : Nat) : Nat → Nat → Nat
 | 0, k => k
 | d + 1, k => if F k j = 0 then pivot F j d (k + 1) else k
theorem pivot_eq {F : Nat → Nat → Int} {j : Nat} : ∀ {d k r : Nat}, k ≤ r → r ≤ k + d → (∀ i, k ≤ i → i < r → F i j = 0) → (r < k + d → F r j ≠ 0) → pivot F j d k = r
 | 0, k, r, h1, h2, _, _ => by simp [pivot]; omega
 | d + 1, k, r, h1, h2, h3, h4 => by
  unfold pivot
  by_cases e : F k j = 0
  ·rw [if_pos e]
   have hne : k ≠ r := by rintro rfl; exact h4 (by omega) e
   exact pivot_eq (by omega) (by omega) (fun i a b => h3 i (by omega) b) (fun h => h4 (by omega))
  ·rw [if_neg e]
   rcases Nat.lt_or_ge k r with h | h
   ·exact absurd (h3 k (Nat.le_refl _) h) e
   ·omega
theorem pivot_le {F : Nat → Nat → Int} {j : Nat} : ∀ {d k : Nat}, k ≤ pivot F j d k ∧ pivot F j d k ≤ k + d
 | 0, k => by simp [pivot]
 | d + 1, k => by
  unfold pivot
  split
  ·have := @pivot_le F j d (k + 1); omega
  ·omega
def swapF (F : Nat → Nat → Int) (a b : Nat) : Nat → Nat → Int := fun i c => if i = a then F b c else if i = b then F a c else F i c
def scaleF (p : Int) (F : Nat → Nat → Int) (a : Nat) (s : Int) : Nat → Nat → Int := fun i c => if i = a then (F a c * s) % p else F i c
def elimF (p : Int) (F : Nat → Nat → Int) (a j : Nat) : Nat → Nat → Int := fun i c => if i = a then F a c else (F i c - F i j * F a c) % p
def redPart (p : Int) (F : Nat → Nat → Int) (k r j : Nat) : Nat → Nat → Int := elimF p (scaleF p (swapF F k r) k (invR p (F r j))) k j
def redStep (p : Int) (m : Nat) (st : (Nat → Nat → Int) × List Nat) (j : Nat) : (Nat → Nat → Int) × List Nat :=
 if pivot st.1 j (m - st.2.length) st.2.length = m then st else (redPart p st.1 st.2.length (pivot st.1 j (m - st.2.length) st.2.length) j, st.2 ++ [j])
def redUp (p : Int) (m : Nat) (F : Nat → Nat → Int) : Nat → (Nat → Nat → Int) × List Nat
 | 0 => (F, [])
 | t + 1 => redStep p m (redUp p m F t) t
def InP (p : Int) (m n : Nat) (F : Nat → Nat → Int) : Prop := ∀ i j, i < m → j < n → 0 ≤ F i j ∧ F i j < p
theorem redPart_in {p : Int} (hp : 0 < p) {m n : Nat} {F : Nat → Nat → Int} (_h : InP p m n F) (k r j : Nat) : InP p m n (redPart p F k r j) := by
 intro i c hi hc
 unfold redPart elimF scaleF
 split
 ·simp only [if_pos]
  exact ⟨Int.emod_nonneg _ (by omega), Int.emod_lt_of_pos _ hp⟩
 ·exact ⟨Int.emod_nonneg _ (by omega), Int.emod_lt_of_pos _ hp⟩
theorem redStep_in {p : Int} (hp : 0 < p) {m n : Nat} {st : (Nat → Nat → Int) × List Nat} (h : InP p m n st.1) (j : Nat) : InP p m n (redStep p m st j).1 := by
 unfold redStep
 split
 ·exact h
 ·exact redPart_in hp h _ _ _
theorem redStep_len {p : Int} {m : Nat} {st : (Nat → Nat → Int) × List Nat} (h : st.2.length ≤ m) (j : Nat) : (redStep p m st j).2.length ≤ m := by
 unfold redStep
 split
 ·exact h
 ·rename_i h1
  have := @pivot_le st.1 j (m - st.2.length) st.2.length
  simp
  omega
theorem redUp_in {p : Int} (hp : 0 < p) {m n : Nat} {F : Nat → Nat → Int} (h : InP p m n F) : ∀ t, InP p m n (redUp p m F t).1
 | 0 => h
 | t + 1 => redStep_in hp (redUp_in hp h t) t
theorem redUp_len {p : Int} {m : Nat} {F : Nat → Nat → Int} : ∀ t, (redUp p m F t).2.length ≤ m
 | 0 => Nat.zero_le _
 | t + 1 => redStep_len (redUp_len t) t
theorem redUp_len' {p : Int} {m : Nat} {F : Nat → Nat → Int} : ∀ t, (redUp p m F t).2.length ≤ t
 | 0 => Nat.zero_le _
 | t + 1 => by
  have := @redUp_len' p m F t
  unfold redUp redStep
  split
  ·omega
  ·simp; omega
structure Red (m t : Nat) (F : Nat → Nat → Int) (L : List Nat) : Prop where
 lt : ∀ i, i < L.length → L[i]?.getD 0 < t
 inc : ∀ i k, i < k → k < L.length → L[i]?.getD 0 < L[k]?.getD 0
 len : L.length ≤ m
 one : ∀ i, i < L.length → F i (L[i]?.getD 0) = 1
 col : ∀ i k, i < L.length → k < m → k ≠ i → F k (L[i]?.getD 0) = 0
 low : ∀ i j, L.length ≤ i → i < m → j < t → F i j = 0
 left : ∀ i j, i < L.length → j < L[i]?.getD 0 → F i j = 0
theorem get_snoc {L : List Nat} {t i : Nat} : (L ++ [t])[i]?.getD 0 = if i < L.length then L[i]?.getD 0 else if i = L.length then t else 0 := by
 by_cases h : i < L.length
 ·rw [if_pos h, List.getElem?_append_left h]
 ·rw [if_neg h, List.getElem?_append_right (by omega)]
  by_cases h2 : i = L.length
  ·subst h2; simp
  ·rw [if_neg h2, List.getElem?_eq_none (by simp; omega)]; rfl
theorem pivot_zero {F : Nat → Nat → Int} {j : Nat} : ∀ {d k : Nat} i, k ≤ i → i < pivot F j d k → F i j = 0
 | 0, k, i, h1, h2 => by simp [pivot] at h2; omega
 | d + 1, k, i, h1, h2 => by
  unfold pivot at h2
  by_cases e : F k j = 0
  ·rw [if_pos e] at h2
   by_cases e2 : i = k
   ·subst e2; exact e
   ·exact pivot_zero i (by omega) h2
  ·rw [if_neg e] at h2; omega
theorem pivot_hit {F : Nat → Nat → Int} {j : Nat} : ∀ {d k : Nat}, pivot F j d k < k + d → F (pivot F j d k) j ≠ 0
 | 0, k, h => by simp [pivot] at h
 | d + 1, k, h => by
  unfold pivot at h ⊢
  by_cases e : F k j = 0
  ·rw [if_pos e] at h ⊢
   exact pivot_hit (by omega)
  ·rw [if_neg e]; exact e
theorem red_step {p : Int} (hp : isF p = true) {m n t : Nat} (ht : t < n) {st : (Nat → Nat → Int) × List Nat} (hin : InP p m n st.1) (h : Red m t st.1 st.2) : Red m (t + 1) (redStep p m st t).1 (redStep p m st t).2 := by
 obtain ⟨F, L⟩ := st
 simp only at hin h
 have hb := isF_bd hp
 unfold redStep
 simp only
 have hle := @pivot_le F t (m - L.length) L.length
 have hz := @pivot_zero F t (m - L.length) L.length
 have hh := @pivot_hit F t (m - L.length) L.length
 have hlen := h.len
 split
 ·rename_i hm
  show Red m (t + 1) F L
  refine ⟨fun i hi => by have := h.lt i hi; omega, h.inc, h.len, h.one, h.col, fun i j h1 h2 h3 => ?_, h.left⟩
  by_cases e : j = t
  ·subst e; exact hz i h1 (by omega)
  ·exact h.low i j h1 h2 (by omega)
 ·rename_i hm
  generalize pivot F t (m - L.length) L.length = r at *
  have hrm : r < m := by omega
  have hr0 := hh (by omega)
  have hrb := hin r t hrm ht
  have hiv := inv_ok hp (r := F r t) ⟨by omega, by omega⟩
  -- the new numbers
  have hG : ∀ c, redPart p F L.length r t L.length c = (F r c * invR p (F r t)) % p := by
   intro c; simp [redPart, elimF, scaleF, swapF]
  have hrow : ∀ c, F r c = 0 → redPart p F L.length r t L.length c = 0 := by
   intro c hc; rw [hG, hc]; simp
  have hE : ∀ i c, i ≠ L.length → redPart p F L.length r t i c = ((if i = r then F L.length c else F i c) - (if i = r then F L.length t else F i t) * redPart p F L.length r t L.length c) % p := by
   intro i c hi
   simp [redPart, elimF, scaleF, swapF, hi]
  have hT : redPart p F L.length r t L.length t = 1 := by rw [hG]; exact hiv.2.2
  have hlow : ∀ j, j < t → F r j = 0 := fun j hj => h.low r j hle.1 hrm hj
  show Red m (t + 1) (redPart p F L.length r t) (L ++ [t])
  refine ⟨fun i hi => ?_, fun i k hik hk => ?_, by simp; omega, fun i hi => ?_, fun i k hi hk hki => ?_, fun i j h1 h2 h3 => ?_, fun i j hi hj => ?_⟩
  ·rw [get_snoc]
   simp at hi
   split
   ·rename_i h1; have := h.lt i h1; omega
   ·split <;> omega
  ·simp at hk
   rw [get_snoc, get_snoc, if_pos (by omega)]
   split
   ·rename_i h1; exact h.inc i k hik h1
   ·rw [if_pos (by omega)]; exact h.lt i (by omega)
  ·simp at hi
   rw [get_snoc]
   by_cases e : i < L.length
   ·rw [if_pos e, hE i _ (by omega), if_neg (by omega), hrow _ (hlow _ (h.lt i e)), h.one i e]
    simp
    exact Int.emod_eq_of_lt (by omega) (by omega)
   ·have e2 : i = L.length := by omega
    subst e2
    simp [hT]
  ·simp at hi
   rw [get_snoc]
   by_cases e : i < L.length
   ·rw [if_pos e]
    by_cases ek : k = L.length
    ·subst ek; exact hrow _ (hlow _ (h.lt i e))
    ·rw [hE k _ ek, hrow _ (hlow _ (h.lt i e))]
     by_cases er : k = r
     ·rw [if_pos er, h.col i L.length e (by omega) (by omega)]; simp
     ·rw [if_neg er, h.col i k e hk hki]; simp
   ·have e2 : i = L.length := by omega
    subst e2
    rw [if_neg e, if_pos rfl, hE k _ hki, hT]
    simp
  ·simp at h1
   rw [hE i _ (by omega)]
   by_cases e : j = t
   ·subst e; rw [hT]; simp
   ·rw [hrow _ (hlow j (by omega)), h.low L.length j (Nat.le_refl _) (by omega) (by omega), h.low i j (by omega) h2 (by omega)]
    simp
  ·simp at hi
   rw [get_snoc] at hj
   by_cases e : i < L.length
   ·rw [if_pos e] at hj
    have := h.lt i e
    rw [hE i _ (by omega), if_neg (by omega), hrow _ (hlow j (by omega)), h.left i j e hj]
    simp
   ·have e2 : i = L.length := by omega
    subst e2
    rw [if_neg e, if_pos rfl] at hj
    exact hrow _ (hlow j hj)
theorem red_up {p : Int} (hp : isF p = true) {m n : Nat} {F : Nat → Nat → Int} (hin : InP p m n F) : ∀ t, t ≤ n → Red m t (redUp p m F t).1 (redUp p m F t).2
 | 0, _ => ⟨by simp [redUp], by simp [redUp], by simp [redUp], by simp [redUp], by simp [redUp], by simp, by simp [redUp]⟩
 | t + 1, ht => red_step hp (by omega) (redUp_in (by have := isF_bd hp; omega) hin t) (red_up hp hin t (by omega))
theorem invR_one {p : Int} (hp : isF p = true) : invR p 1 = 1 := by
 rcases isF_true hp with rfl | rfl | rfl <;> decide
theorem red_again {p : Int} (hp : isF p = true) {n : Nat} {R G : Nat → Nat → Int} {L : List Nat} {m : Nat} (h : Red m n R L) (hin : InP p m n R) (hG : ∀ i j, i < L.length → j < n → G i j = R i j) :
  ∀ t, t ≤ n → (∃ k, k ≤ L.length ∧ (redUp p L.length G t).2 = L.take k ∧ (∀ i, i < k → L[i]?.getD 0 < t) ∧ (∀ i, k ≤ i → i < L.length → t ≤ L[i]?.getD 0)) ∧ ∀ i j, i < L.length → j < n → (redUp p L.length G t).1 i j = R i j
 | 0, _ => ⟨⟨0, Nat.zero_le _, rfl, fun i hi => absurd hi (Nat.not_lt_zero _), fun i _ _ => Nat.zero_le _⟩, hG⟩
 | t + 1, ht => by
  obtain ⟨⟨k, hk, e1, h1, h2⟩, h3⟩ := red_again hp h hin hG t (by omega)
  have hlen := h.len
  have hkl : (L.take k).length = k := by simp; omega
  unfold redUp redStep
  rw [e1, hkl]
  obtain ⟨H, hH⟩ : ∃ H, H = (redUp p L.length G t).1 := ⟨_, rfl⟩
  rw [← hH] at h3 ⊢
  by_cases hlt : k < L.length ∧ L[k]?.getD 0 = t
  ·obtain ⟨hk2, hkt⟩ := hlt
   have hone : H k t = 1 := by rw [h3 k t hk2 (by omega), ← hkt]; exact h.one k hk2
   have hpv : pivot H t (L.length - k) k = k := pivot_eq (Nat.le_refl _) (by omega) (fun i a b => absurd b (by omega)) (fun _ => by rw [hone]; decide)
   rw [hpv, if_neg (by omega)]
   refine ⟨⟨k + 1, by omega, ?_, fun i hi => ?_, fun i hi hi2 => ?_⟩, fun i j hi hj => ?_⟩
   ·show L.take k ++ [t] = _
    rw [List.take_succ_eq_append_getElem hk2]
    have : L[k] = t := by simpa [hk2] using hkt
    rw [this]
   ·by_cases e : i = k
    ·subst e; omega
    ·have := h1 i (by omega); omega
   ·have := h.inc k i (by omega) hi2; omega
   ·show redPart p H k k t i j = _
    have e2 : ∀ c, (H k c * invR p (H k t)) % p = H k c % p := by intro c; rw [hone, invR_one hp]; simp
    have hb := hin i j (by omega) hj
    have hb2 := hin k j (by omega) hj
    by_cases e : i = k
    ·subst e
     have e3 : redPart p H i i t i j = (H i j * invR p (H i t)) % p := by simp [redPart, elimF, scaleF, swapF]
     rw [e3, e2, h3 i j hi hj]
     exact Int.emod_eq_of_lt hb.1 hb.2
    ·have hz : H i t = 0 := by rw [h3 i t hi (by omega), ← hkt]; exact h.col k i hk2 (by omega) e
     have e3 : redPart p H k k t i j = (H i j - H i t * ((H k j * invR p (H k t)) % p)) % p := by simp [redPart, elimF, scaleF, swapF, e]
     rw [e3, hz, h3 i j hi hj]
     simp
     exact Int.emod_eq_of_lt hb.1 hb.2
  ·have hz : ∀ i, k ≤ i → i < L.length → H i t = 0 := by
    intro i hi hi2
    rw [h3 i t hi2 (by omega)]
    refine h.left i t hi2 ?_
    have a := h2 i hi hi2
    by_cases e : i = k
    ·subst e
     have : L[i]?.getD 0 ≠ t := fun e => hlt ⟨hi2, e⟩
     omega
    ·have b := h2 k (Nat.le_refl _) (by omega)
     have c := h.inc k i (by omega) hi2
     omega
   have hpv : pivot H t (L.length - k) k = L.length := pivot_eq hk (by omega) (fun i a b => hz i a b) (fun h => absurd h (by omega))
   rw [hpv, if_pos rfl]
   refine ⟨⟨k, hk, e1, fun i hi => by have := h1 i hi; omega, fun i hi hi2 => ?_⟩, by rw [← hH]; exact h3⟩
   have a := h2 i hi hi2
   by_cases e : i = k
   ·subst e
    have : L[i]?.getD 0 ≠ t := fun e => hlt ⟨hi2, e⟩
    omega
   ·have b := h2 k (Nat.le_refl _) (by omega)
    have c := h.inc k i (by omega) hi2
    omega
def freeL (n : Nat) (L : List Nat) : List Nat := (List.range n).filter fun k => !L.contains k
end Go.Proofs.Ytdhjmmnjapkmkaa
end

section
set_option linter.unusedVariables false
set_option linter.unusedSimpArgs false

namespace Go.Proofs.Ytdhjmmnjapkmkaa
open Go.RowKit
set_option linter.unusedVariables false
theorem AEff.conv {P : Program} {o : Oper} {ins : Operand → Option AV} {hp : Hp} {κ : Kp} {v v' : AV} {tc : List Nat} {ed ed' : List (Nat × Option Blk)} {n : List Nat} (h : AEff P o ins hp κ ⟨v, tc, ed, n⟩) (hv : v = v') (he : ed = ed') : AEff P o ins hp κ ⟨v', tc, ed', n⟩ := by subst hv; subst he; exact h
theorem AEff.val {P : Program} {o : Oper} {ins : Operand → Option AV} {hp : Hp} {κ : Kp} {v v' : AV} {tc : List Nat} {ed : List (Nat × Option Blk)} {n : List Nat} (h : AEff P o ins hp κ ⟨v, tc, ed, n⟩) (hv : v = v') : AEff P o ins hp κ ⟨v', tc, ed, n⟩ := by subst hv; exact h
section
variable {P : Program} {T : List (Nat × Ty)} (hT : TyOk P T) {dst : Option Tmp} {ty : TypeId} {pos : String} {aft : Array Edge} {g : Option (Nat × Bool)} {s : AState}
theorem x_add {t t' : TypeId} {x y : Operand} {a b : Int} (hx : s.ev x = some (.int a)) (hy : s.ev y = some (.int b)) : AEff P ⟨dst, .binOp .add t x y t', ty, pos, aft, g⟩ s.ev s.heap s.kp ⟨.int (wr (a + b)), [], [], []⟩ :=
 eff_bin hx hy rfl fun w => by simp [eqGuard, binOp, Op.intArith, wr]
theorem x_sub {t t' : TypeId} {x y : Operand} {a b : Int} (hx : s.ev x = some (.int a)) (hy : s.ev y = some (.int b)) : AEff P ⟨dst, .binOp .sub t x y t', ty, pos, aft, g⟩ s.ev s.heap s.kp ⟨.int (wr (a - b)), [], [], []⟩ :=
 eff_bin hx hy rfl fun w => by simp [eqGuard, binOp, Op.intArith, wr]
theorem x_mul {t t' : TypeId} {x y : Operand} {a b : Int} (hx : s.ev x = some (.int a)) (hy : s.ev y = some (.int b)) : AEff P ⟨dst, .binOp .mul t x y t', ty, pos, aft, g⟩ s.ev s.heap s.kp ⟨.int (wr (a * b)), [], [], []⟩ :=
 eff_bin hx hy rfl fun w => by simp [eqGuard, binOp, Op.intArith, wr]
theorem x_rem {t t' : TypeId} {x y : Operand} {a b : Int} (hx : s.ev x = some (.int a)) (hy : s.ev y = some (.int b)) (h : (!decide (b = 0)) = true) : AEff P ⟨dst, .binOp .rem t x y t', ty, pos, aft, g⟩ s.ev s.heap s.kp ⟨.int (a.tmod b), [], [], []⟩ :=
 eff_bin hx hy rfl fun w => by
  have h' : b ≠ 0 := by simpa using h
  simp [eqGuard, binOp, Op.intDiv, h']
variable {α : Type} {k : Nat} {e : α → List AV}
include hT
theorem x_at_list {x ix : Operand} {t et : Nat} {y ye : Ty} {l : List α} {kk : IntKind} {i : Int} {v : α} (hm : atL l i = some v) (hx : s.ev x = some (.list k (l.map e))) (hix : s.ev ix = some (.sc (.int kk i))) (hy : tyOf T t = some y) (hd : y.desc = .slice et) (hye : tyOf T et = some ye) (hk : ye.size = k) :
  AEff P ⟨dst, .indexAddr t x ix, ty, pos, aft, g⟩ s.ev s.heap s.kp ⟨.ref (e v), [], [], []⟩ := w_at_list hT hy hd hye hk hx hix (atL_nn hm) (atL_map hm)
theorem x_at_own {x ix : Operand} {t et : Nat} {y ye : Ty} {b n kz : Nat} {es : List (List AV)} {kk : IntKind} {i : Int} (h0 : 0 ≤ i) (hn : i.toNat < n) (hx : s.ev x = some (.own b 0 n)) (hb : s.heap b = some ⟨kz, es⟩) (hix : s.ev ix = some (.sc (.int kk i))) (hy : tyOf T t = some y) (hd : y.desc = .slice et) (hye : tyOf T et = some ye) (hk : ye.size = kz) :
  AEff P ⟨dst, .indexAddr t x ix, ty, pos, aft, g⟩ s.ev s.heap s.kp ⟨.ptr b i.toNat 0, [b], [], []⟩ := by
 have := w_at_own (P := P) hT (dst := dst) (ty := ty) (pos := pos) (aft := aft) (g := g) hy hd hye hx hb hk hix h0 (by omega)
 rw [Nat.zero_add] at this
 exact this
omit hT in
theorem setR_all : ∀ {cs vs : List AV}, cs.length = vs.length → setR cs 0 vs = vs
 | [], [], _ => rfl
 | c :: cs, v :: vs, h => by simp only [setR]; rw [setR_all (by simpa using h)]
theorem x_store {t : TypeId} {y : Ty} {x z : Operand} {val : AV} {b i : Nat} {l : List α} {v u : α} (E : EOk k e) (hm : l[i]? = some v) (hc : cellsOf val = e u) (hx : s.ev x = some (.ptr b i 0)) (hb : s.heap b = some ⟨k, l.map e⟩) (hz : s.ev z = some val) (hy : tyOf T t = some y) (hk : y.size = k) :
  AEff P ⟨dst, .store t x z, ty, pos, aft, g⟩ s.ev s.heap s.kp ⟨.dead, [b], [(b, some ⟨k, (l.set i u).map e⟩)], []⟩ := by
 have h1 := w_store (P := P) hT (dst := dst) (ty := ty) (pos := pos) (aft := aft) (g := g) hx hb hz hy (by rw [hc, E.len, hk]; simp) (by rw [hc, List.all_eq_true]; exact fun c h => cellB_ok (E.mem u c h) _) (cs := e v) (by rw [List.getElem?_map, hm]; rfl) (by rw [E.len, hk, Nat.zero_add]; simp)
 rw [hc, names_nil (E.mem u), setR_all (by rw [E.len, E.len]), ← List.map_set] at h1
 exact h1
theorem x_app {x z : Operand} {t et : Nat} {y ye : Ty} {b b' n : Nat} {l m : List α} {sv : AV} {ts : List Nat} {dty : TypeId} (E : EOk k e) (hf : decide (l.length + m.length ≤ 4294967296) = true) (hns : s.ns.head? = some b') (hx : s.ev x = some (.own b 0 n)) (hb : s.heap b = some ⟨k, l.map e⟩) (hl : l.length = n) (hz : s.ev z = some sv) (hsrc : srcEls s.heap sv = some (k, m.map e, ts))
  (hy : tyOf T t = some y) (hd : y.desc = .slice et) (hye : tyOf T et = some ye) (hzl : ye.zero.length = ye.size) (hk : ye.size = k) (hby : Nat.ble ye.bytes 32768 = true) :
  AEff P ⟨dst, .call ⟨.builtin .append, #[x, z], #[t, t]⟩, dty, pos, aft, g⟩ s.ev s.heap s.kp ⟨.own b' 0 (l ++ m).length, b :: ts, [(b, none), (b', some ⟨k, (l ++ m).map e⟩)], [b']⟩ := by
 have hf := of_decide_eq_true hf
 have hby := Nat.le_of_ble_eq_true hby
 have h1 := w_app_own (P := P) hT (dst := dst) (pos := pos) (aft := aft) (g := g) (dty := dty) hns hx hb hz hsrc hy hd hye hzl hk.symm hk.symm (by simpa using hl) (E.okE _ m) (by simp; omega) (by simp only [List.length_map]; calc (n + m.length) * ye.bytes ≤ 4294967296 * 32768 := Nat.mul_le_mul (by omega) hby
                                                                                           _ ≤ 140737488355328 := by decide)
 rw [E.namesE, List.append_nil, hk, List.length_map] at h1
 rw [List.length_append, List.map_append, hl]
 exact h1
omit hT in
theorem v1_T {h : Hp} {b n : Nat} {l : List α} (E : EOk k e) (hb : h b = some ⟨k, l.map (ow e)⟩) (hl : l.length = n) : view1 h (.own b 0 n) (.list k (l.map e)) := v1_own hb rfl (by simp [hl]) (E.views l)
omit hT in
theorem va_T {h : Hp} {b n : Nat} {l : List α} (E : EOk k e) (hb : h b = some ⟨k, l.map (ow e)⟩) (hl : l.length = n) : viewA h (.own b 0 n) (.list k (l.map e)) := v1_T E hb hl
omit hT in
theorem x_f1 {h : Hp} {b n : Nat} {l : List α} (E : EOk k e) (hb : h b = some ⟨k, l.map (ow e)⟩) (hl : l.length = n) : frz1 h (.own b 0 n) (.list k (l.map e)) := ⟨rfl, _, hb, by simp [hl], rfl, E.frzs l⟩
end
theorem x1_nil {h : Hp} : All2 (frz1 h) [] [] := rfl
theorem x1_cons {h : Hp} {x d : AV} {xs ds : List AV} (a : frz1 h x d) (b : All2 (frz1 h) xs ds) : All2 (frz1 h) (x :: xs) (d :: ds) := ⟨d, ds, rfl, a, b⟩
theorem xz_agg {h : Hp} {cs ds : List AV} (a : All2 (frz1 h) cs ds) : frzs h [.agg cs] (.agg ds) := ⟨a, by intro _ h; cases h⟩
theorem xz_list {h : Hp} {x : AV} {k : Nat} {es : List (List AV)} (a : frz1 h x (.list k es)) : frzs h [x] (.list k es) := by
 refine ⟨?_, by intro _ h; cases h⟩
 cases x <;> exact a
theorem xB_one {h : Hp} {x d : AV} (a : frz1 h x d) : frzB h x d := by
 unfold frzB
 split
 ·exact a.elim
 ·exact a
theorem xB_agg {h : Hp} {cs ds : List AV} (a : All2 (frz1 h) cs ds) : frzB h (.agg cs) (.agg ds) := a
theorem xB_nil {h : Hp} : All2 (frzB h) [] [] := rfl
theorem xB_cons {h : Hp} {x d : AV} {xs ds : List AV} (a : frzB h x d) (b : All2 (frzB h) xs ds) : All2 (frzB h) (x :: xs) (d :: ds) := ⟨d, ds, rfl, a, b⟩
theorem xz_tuple {h : Hp} {vs rs : List AV} (hl : Nat.beq vs.length 1 = false) (a : All2 (frzB h) vs rs) : frzs h vs (.tuple rs) := by
 have h1 : vs.length ≠ 1 := by intro e; rw [e] at hl; cases hl
 cases vs with
 | nil => exact ⟨h1, a⟩
 | cons v vs =>
  cases vs with
  | nil => exact absurd rfl h1
  | cons u vs => exact ⟨h1, a⟩
section
variable {s : AState}
theorem ent_absL {b b' j n k k' : Nat} {A es es' : List (List AV)} {c : List AV} (hb : s.heap b = some ⟨k, A ++ [c]⟩) (hj : c[j]? = some (.own b' 0 n)) (hb' : s.heap b' = some ⟨k', es⟩) (hne : Nat.beq b b' = false) (hn : es.length = n) (hf : All2 (All2 frz0) es es') :
  Ent s ⟨s.env, editHp [(b', none), (b, some ⟨k, A ++ [setR c j [.abs k' es']]⟩)] s.heap, s.used, s.ns, s.kp⟩ := by
 have h := ent_absorb' (i := A.length) hb (by simp) hj hb' hne hn rfl hf
 have e : (A ++ [c]).set A.length (setR c j [.abs k' es']) = A ++ [setR c j [.abs k' es']] := by rw [List.set_append_right _ _ (Nat.le_refl _), Nat.sub_self]; rfl
 simp only [e] at h
 exact h
theorem ent_absS {b b' i j n k k' : Nat} {A es es' : List (List AV)} {c : List AV} (hi : i < A.length) (hb : s.heap b = some ⟨k, A.set i c⟩) (hj : c[j]? = some (.own b' 0 n)) (hb' : s.heap b' = some ⟨k', es⟩) (hne : Nat.beq b b' = false) (hn : es.length = n) (hf : All2 (All2 frz0) es es') :
  Ent s ⟨s.env, editHp [(b', none), (b, some ⟨k, A.set i (setR c j [.abs k' es'])⟩)] s.heap, s.used, s.ns, s.kp⟩ := by
 have h := ent_absorb' (i := i) hb (by simp [hi]) hj hb' hne hn rfl hf
 simp only [List.set_set] at h
 exact h
end
theorem len_map {α β : Type} (f : α → β) (l : List α) : (l.map f).length = l.length := List.length_map ..
end Go.Proofs.Ytdhjmmnjapkmkaa
end

section
set_option linter.unusedVariables false
set_option linter.unusedSimpArgs false

namespace Go.Proofs.Ytdhjmmnjapkmkaa
open Go.RowKit
set_option linter.unusedVariables false
theorem MIXX : Try.prog.follows .mixedOrders = true := by kernel_rfl
def eLs {α : Type} (k : Nat) (e : α → List AV) (l : List α) : List AV := [.list k (l.map e)]
theorem okI : EOk 1 eI := ⟨fun _ => rfl, fun _ => rfl⟩
theorem okLs {α : Type} {k : Nat} {e : α → List AV} : EOk 1 (eLs k e) := ⟨fun _ => rfl, fun _ => rfl⟩
theorem okMt : EOk 3 eM := ⟨fun _ => rfl, fun _ => rfl⟩
theorem okRp : EOk 6 eR := ⟨fun _ => rfl, fun _ => rfl⟩
theorem okSc : EOk 2 eS := ⟨fun _ => rfl, fun _ => rfl⟩
theorem okBr : EOk 3 eB := ⟨fun _ => rfl, fun _ => rfl⟩
theorem okIo : EOk 1 (ow eI) := ⟨fun _ => rfl, fun _ => rfl⟩
theorem EOk.own {α : Type} {k : Nat} {e : α → List AV} (E : EOk k e) (h : ∀ x, (ow e x).all cellB = true) : EOk k (ow e) := ⟨fun x => by simp [ow, E.len], h⟩
theorem ed_ok {nb nb' : List (Nat × Blk)} {ed : List (Nat × Option Blk)} (h : nb = nb') (e : editsOf nb' = ed := by rfl) : editsOf nb = ed := by rw [h]; exact e
theorem all2_same (σ : Nat → Option Nat) {n : Nat} {cs : List AV} (h : cs.all plainD = true) : All2 (match1 σ n) cs cs := by
 induction cs with
 | nil => rfl
 | cons c cs ih =>
  simp only [List.all_cons, Bool.and_eq_true] at h
  refine ⟨c, cs, rfl, ?_, ih h.2⟩
  cases c <;> simp only [plainD, Bool.false_eq_true, false_and] at h <;> simp [match1]
theorem rep_match {σ : Nat → Option Nat} {n : Nat} {α : Type} {k k' : Nat} {e : α → List AV} (m : Nat) : All2 (All2 (matchC σ n)) (List.replicate m [.nil k']) ((List.replicate m ([] : List α)).map (ow (eLs k e))) := by
 induction m with
 | zero => rfl
 | succ m ih => exact ⟨_, _, rfl, ⟨_, _, rfl, rfl, rfl⟩, ih⟩
theorem rep_eq {α : Type} {e : α → List AV} {z : α} (n : Nat) : List.replicate n (ow e z) = (List.replicate n z).map (ow e) := (List.map_replicate ..).symm
section
variable {h : Hp}
theorem va_nil2 : All2 (viewP h) [] [] := rfl
theorem vp_cons {x d : AV} {xs ds : List AV} (a : viewP h x d) (b : All2 (viewP h) xs ds) : All2 (viewP h) (x :: xs) (d :: ds) := ⟨d, ds, rfl, a, b⟩
theorem vp_same {c : AV} (p : plainD c = true) : viewP h c c := by cases c <;> simp only [plainD, Bool.false_eq_true] at p <;> simp [viewP, view1, view0]
theorem vp_box {b : Nat} {blk : Blk} {c cs : List AV} (hb : h b = some blk) (hi : blk.es[0]? = some c) (v : All2 (view1 h) c cs) : viewP h (.ptr b 0 0) (.ref cs) := ⟨blk, c, hb, hi, v⟩
theorem va_fn {f : FuncId} {cs ds : List AV} (v : All2 (viewP h) cs ds) : viewA h (.fn f cs) (.fn f ds) := ⟨rfl, v⟩
theorem vps_same : ∀ {cs : List AV}, cs.all plainD = true → All2 (viewP h) cs cs
 | [], _ => rfl
 | c :: cs, p => by simp only [List.all_cons, Bool.and_eq_true] at p; exact ⟨c, cs, rfl, vp_same p.1, vps_same p.2⟩
theorem va_fnc {f : FuncId} {cs : List AV} (p : cs.all plainD = true) : viewA h (.fn f cs) (.fn f cs) := ⟨rfl, vps_same p⟩
end
theorem g1_nil : goodB (.agg []) := by intro _ h; cases h
theorem g1_cons {c : AV} {cs : List AV} (a : good1 c) (b : goodB (.agg cs)) : goodB (.agg (c :: cs)) := by
 intro d hd
 rcases List.mem_cons.1 hd with rfl | h
 ·exact a
 ·exact b d h
theorem gB_nil : goodA (.tuple []) := by intro _ h; cases h
theorem gB_cons {c : AV} {cs : List AV} (a : goodB c) (b : goodA (.tuple cs)) : goodA (.tuple (c :: cs)) := by
 intro d hd
 rcases List.mem_cons.1 hd with rfl | h
 ·exact a
 ·exact b d h
section
variable {P : Program} {T : List (Nat × Ty)} {dst : Option Tmp} {ty : TypeId} {pos : String} {aft : Array Edge} {g : Option (Nat × Bool)} {s : AState}
theorem x_make (hT : TyOk P T) {t e : TypeId} {y ye : Ty} {l c : Operand} {kl kc : IntKind} {n : Int} {b : Nat} (q : (decide (0 ≤ n) && decide (n ≤ 1048576)) = true) (hns : s.ns.head? = some b) (hl : s.ev l = some (.sc (.int kl n))) (hc : s.ev c = some (.sc (.int kc n))) (hy : tyOf T t = some y) (hd : y.desc = .slice e) (hye : tyOf T e = some ye) (hz : ye.zero.length = ye.size) (hb : Nat.ble ye.bytes 32768 = true) :
  AEff P ⟨dst, .makeSlice t l c, ty, pos, aft, g⟩ s.ev s.heap s.kp ⟨.own b 0 n.toNat, [], [(b, some ⟨ye.size, List.replicate n.toNat ye.zero⟩)], [b]⟩ := by
 simp only [Bool.and_eq_true, decide_eq_true_eq] at q
 refine w_make hT hns hl hc hy hd hye hz q.1 (by omega) ?_
 have hb := Nat.le_of_ble_eq_true hb
 calc n.toNat * ye.bytes ≤ 1048576 * 32768 := Nat.mul_le_mul (by omega) hb
  _ ≤ 140737488355328 := by decide
theorem w_callv {fo : Operand} {xs : Array Operand} {ats : Array TypeId} {f : FuncId} {caps avs ds1 : List AV} {u : Value} (hcap : caps.all plainD = true) (hc : HasC P f (ds1 ++ caps) (.sc u)) (hf : s.ev fo = some (.fn f caps)) (hx : evs s.ev xs.toList = some avs) (hv1 : All2 (viewA s.heap) avs ds1) :
  AEff P ⟨dst, .call ⟨.value fo, xs, ats⟩, ty, pos, aft, g⟩ s.ev s.heap s.kp ⟨.sc u, avs.flatMap (touchA s.heap) ++ caps.flatMap (touchP s.heap), [], []⟩ :=
 eff_call (ds1 := ds1) (ds2 := caps) (ns := []) (nb := []) (r := .sc u) (x := .sc u) hf hx hc hv1 (vps_same hcap) trivial (impA_sc [] u) rfl (by simp)
end
end Go.Proofs.Ytdhjmmnjapkmkaa
end

section
set_option linter.unusedVariables false
set_option linter.unusedSimpArgs false

namespace Go.Proofs.Ytdhjmmnjapkmkaa
open Go.RowKit
set_option linter.unusedVariables false
def nuOf (σ : Nat → Option Nat) (ν : Nu) : Nu := ⟨fun b => match σ b with | some b0 => ν b0 | none => none, ν.ok⟩
structure Conv (σ : Nat → Option Nat) (n : Nat) (w : World) (h : Hp) (u : Us) (ν : Nu) (hl : List (Nat × Blk)) : Prop where
 free : ∀ x, Free h ν x → Free (hpL hl) (nuOf σ ν) x
 rep : ∀ {x y : AV} {v : Value}, RepA w h u ν x v → matchA σ n x y → RepA w (hpL hl) (ltb n) (nuOf σ ν) y v
 heap : ∀ {M : Nat → Prop} {φ : Nat → List Nat}, HeapOk M w h u ν φ → HeapOk M w (hpL hl) (ltb n) (nuOf σ ν) (fun b => match σ b with | some b0 => φ b0 | none => [])
 look : ∀ b y, hpL hl b = some y → (∀ b0, σ b = some b0 → ∃ x, h b0 = some x ∧ x.k = y.k ∧ x.es.length = y.es.length) ∧ Nat.blt b n = true
theorem conv_mk {σ : Nat → Option Nat} {n : Nat} {w : World} {h : Hp} {u : Us} {ν : Nu} {hl : List (Nat × Blk)} (hh : EntH σ n h hl) (hi : injB σ hl = true) : Conv σ n w h u ν hl := by
 generalize hν' : nuOf σ ν = ν'
 have hνok : ν'.ok = ν.ok := by rw [← hν']; rfl
 have hνb : ∀ b, ν' b = match σ b with | some b0 => ν b0 | none => none := fun b => by rw [← hν']; rfl
 have hlive : ∀ b y, hpL hl b = some y → (match σ b with | some b0 => ∃ x, h b0 = some x ∧ matchB σ n x y | none => y.es = []) ∧ Nat.blt b n = true := fun b y h => entH_mem hh (hpL_mem h)
 have hlen : ∀ {x y : Blk}, matchB σ n x y → x.k = y.k ∧ x.es.length = y.es.length := by
  rintro x y ⟨h1, h2 | h2⟩
  ·exact ⟨h1, by rw [h2.1]⟩
  ·exact ⟨h1, h2.len.symm⟩
 have hfree : ∀ x, Free h ν x → Free (hpL hl) ν' x := by
  intro x hf b y β c hb hν
  have h1 := (hlive b y hb).1
  cases hσ : σ b with
  | none => simp only [hνb, hσ] at hν; cases hν
  | some b0 =>
   rw [hσ] at h1
   simp only [hνb, hσ] at hν
   obtain ⟨z, h2, _⟩ := h1
   exact hf b0 z β c h2 hν
 have m1 : ∀ {x y : AV} {v : Value}, Rep1 w h u ν x v → match1 σ n x y → Rep1 w (hpL hl) (ltb n) ν' y v := by
  intro x y v r m
  cases y
  case dead => trivial
  case sc u => cases x <;> simp only [match1] at m <;> first | exact m.elim | (subst m; exact r)
  case nil k => cases x <;> simp only [match1] at m <;> first | exact m.elim | exact r
  case list k es =>
   cases x <;> simp only [match1] at m <;> first | exact m.elim | skip
   ·subst m
    simp only [Rep1] at r ⊢
    exact ⟨[], by rw [r]; exact repD_nil, by simp⟩
   ·obtain ⟨rfl, rfl⟩ := m
    obtain ⟨S, r1, r2⟩ := r
    exact ⟨S, r1, fun x hx => ⟨hfree x (r2 x hx).1, by rw [hνok]; exact (r2 x hx).2⟩⟩
  case ref cs =>
   cases x <;> simp only [match1] at m <;> first | exact m.elim | skip
   subst m
   obtain ⟨S, r1, r2⟩ := r
   exact ⟨S, r1, fun x hx => ⟨hfree x (r2 x hx).1, by rw [hνok]; exact (r2 x hx).2⟩⟩
  case own b i q =>
   cases x <;> simp only [match1] at m <;> first | exact m.elim | skip
   ·obtain ⟨m1, rfl, rfl, m4⟩ := m
    simp only [Rep1] at r ⊢
    refine ⟨m4, fun blk hb => ?_⟩
    have h1 := (hlive b blk hb).1
    rw [m1] at h1
    refine ⟨by simp, fun _ => r, fun β c hν => ?_⟩
    simp only [hνb, m1] at hν
    cases hν
   ·rename_i b0 i0 q0
    obtain ⟨m1, rfl, rfl, m4⟩ := m
    simp only [Rep1] at r ⊢
    refine ⟨m4, fun blk hb => ?_⟩
    have h1 := (hlive b blk hb).1
    rw [m1] at h1
    obtain ⟨z, h2, h3⟩ := h1
    obtain ⟨k1, k2⟩ := hlen h3
    obtain ⟨r1, r2, r3⟩ := r.2 z h2
    refine ⟨by rw [← k2]; exact r1, fun hν => r2 (by simpa only [hνb, m1] using hν), fun β c hν => ?_⟩
    rw [← k1]
    exact r3 β c (by simpa only [hνb, m1] using hν)
  case ptr b i q =>
   cases x <;> simp only [match1] at m <;> first | exact m.elim | skip
   rename_i b0 i0 q0
   obtain ⟨m1, rfl, rfl, m4⟩ := m
   simp only [Rep1] at r ⊢
   refine ⟨m4, fun blk hb => ?_⟩
   have h1 := (hlive b blk hb).1
   rw [m1] at h1
   obtain ⟨z, h2, h3⟩ := h1
   obtain ⟨k1, k2⟩ := hlen h3
   obtain ⟨β, c, r1, r2⟩ := r.2 z h2
   exact ⟨β, c, by simpa only [hνb, m1] using r1, by rw [← k1]; exact r2⟩
  all_goals (cases x <;> simp only [match1] at m)
 have mL : ∀ {xs ys : List AV} {vs : List Value}, All2 (Rep1 w h u ν) xs vs → All2 (match1 σ n) xs ys → All2 (Rep1 w (hpL hl) (ltb n) ν') ys vs := by
  intro xs
  induction xs with
  | nil => intro ys vs r m; simp only [All2] at r m; subst r m; rfl
  | cons x xs ih =>
   rintro ys vs ⟨v, r, rfl, h1, h2⟩ ⟨y, q, rfl, k1, k2⟩
   exact ⟨v, r, rfl, m1 h1 k1, ih h2 k2⟩
 have mC : ∀ {x y : AV} {v : Value} {S : List Nat}, CellRep w h u ν x v S → matchC σ n x y → CellRep w (hpL hl) (ltb n) ν' y v S := by
  intro x y v S r m
  cases x <;> cases y <;> simp only [matchC] at m <;> simp only [CellRep] at r ⊢ <;> first
   | exact m.elim
   | exact r.elim
   | exact ⟨m1 r.1 m, r.2⟩
   | (obtain ⟨rfl, rfl⟩ := m; exact r)
   | (obtain ⟨r1, rfl⟩ := r; subst m; simp only [Rep1] at r1; rw [r1]; exact repO_nil)
   | (simp only [match1] at m)
 have mCs : ∀ {xs ys : List AV} {vs : List Value} {S : List Nat}, CellsRep w h u ν xs vs S → All2 (matchC σ n) xs ys → CellsRep w (hpL hl) (ltb n) ν' ys vs S := by
  intro xs
  induction xs with
  | nil => intro ys vs S r m; simp only [All2] at m; subst m; exact r
  | cons x xs ih =>
   rintro ys vs S ⟨v, r, S1, S2, rfl, rfl, h1, h2⟩ ⟨y, q, rfl, k1, k2⟩
   exact ⟨v, r, S1, S2, rfl, rfl, mC h1 k1, ih h2 k2⟩
 have mSelf : ∀ {xs : List AV} {vs : List Value} {S : List Nat}, CellsRep w h u ν xs vs S → (∀ c ∈ xs, nameless c = true) → CellsRep w (hpL hl) (ltb n) ν' xs vs S := by
  intro xs vs S r hp
  refine mCs r ?_
  clear r
  induction xs with
  | nil => rfl
  | cons x xs ih =>
   refine ⟨x, xs, rfl, ?_, ih (fun c hc => hp c (by simp [hc]))⟩
   have := hp x (by simp)
   cases x <;> simp only [nameless, Bool.false_eq_true] at this <;> simp [matchC, match1]
 have mFlat : ∀ {es fs : List (List AV)} {R : AV → AV → Prop}, All2 (All2 R) es fs → All2 R es.flatten fs.flatten := by
  intro es
  induction es with
  | nil => intro fs R h; simp only [All2] at h; subst h; rfl
  | cons c es ih =>
   rintro fs R ⟨d, fs', rfl, h1, h2⟩
   rw [List.flatten_cons, List.flatten_cons]
   exact h1.append (ih h2)
 have mlens : ∀ {es fs : List (List AV)} {k : Nat}, All2 (All2 (matchC σ n)) es fs → (∀ cs ∈ es, cs.length = k) → ∀ cs ∈ fs, cs.length = k := by
  intro es
  induction es with
  | nil => intro fs k h _ cs hcs; simp only [All2] at h; subst h; cases hcs
  | cons c es ih =>
   rintro fs k ⟨d, fs', rfl, h1, h2⟩ hk cs hcs
   rcases List.mem_cons.1 hcs with rfl | h
   ·rw [h1.len]; exact hk c (by simp)
   ·exact ih h2 (fun x hx => hk x (by simp [hx])) cs h
 subst hν'
 refine ⟨hfree, ?_, ?_, fun b y hb => ⟨fun b0 e => ?_, (hlive b y hb).2⟩⟩
 ·intro x y v h4 h2
  cases x <;> cases y <;> simp only [matchA] at h2 <;> simp only [RepA, RepB] at h4 ⊢ <;> first
   | exact m1 h4 h2
   | (obtain ⟨vs, e1, e2⟩ := h4; exact ⟨vs, e1, mL e2 h2⟩)
   | (obtain ⟨vs, e1, e2⟩ := h4; obtain ⟨rfl, h2⟩ := h2; exact ⟨vs, e1, mL e2 h2⟩)
   | trivial
   | (simp only [match1] at h2)
 ·intro M φ hφ
  refine ⟨?_, ?_⟩
  ·intro b y hb
   obtain ⟨h1, h2⟩ := hlive b y hb
   refine ⟨h2, ?_⟩
   cases hσ : σ b with
   | none =>
    rw [hσ] at h1
    simp only
    exact ⟨⟨by rw [h1]; simp, .inl ⟨by simp only [hνb, hσ], h1, rfl⟩⟩, by simp, by simp⟩
   | some b0 =>
    rw [hσ] at h1
    simp only
    obtain ⟨x, h3, h4⟩ := h1
    obtain ⟨g1, ⟨g2, g3⟩, g4, g5⟩ := hφ.blk b0 x h3
    obtain ⟨k1, k2⟩ := hlen h4
    refine ⟨⟨?_, ?_⟩, g4, g5⟩
    ·rcases h4.2 with ⟨e1, _⟩ | e1
     ·rw [← e1, ← k1]; exact g2
     ·rw [← k1]; exact mlens e1 g2
    ·rcases g3 with ⟨q1, q2, q3⟩ | ⟨β, c, arr, ty, T, vs, q1, q2, q3, q4, q5, q6, q7, q8⟩
     ·exact .inl ⟨by simp only [hνb, hσ]; exact q1, by rw [q2] at k2; exact List.eq_nil_of_length_eq_zero k2.symm, q3⟩
     ·refine .inr ⟨β, c, arr, ty, T, vs, by simp only [hνb, hσ]; exact q1, q2, by rw [← k1]; exact q3, by rw [← k2]; exact q4, q5, q6, by rw [← k1, ← k2]; exact q7, ?_⟩
      rcases h4.2 with ⟨e1, e2⟩ | e1
      ·rw [e1] at q8
       exact mSelf q8 (fun c hc => by obtain ⟨cs, hcs, hc'⟩ := List.mem_flatten.1 hc; exact e2 cs hcs c hc')
      ·exact mCs q8 (mFlat e1)
  ·intro b c z hb hc hne hzb hzc
   obtain ⟨y1, hy1⟩ := Option.ne_none_iff_exists'.1 hb
   obtain ⟨y2, hy2⟩ := Option.ne_none_iff_exists'.1 hc
   have i1 := (injB_mem hi (hpL_mem hy1) (hpL_mem hy2)).2 hne
   have l1 := (hlive b y1 hy1).1
   have l2 := (hlive c y2 hy2).1
   cases h1 : σ b with
   | none => rw [h1] at hzb; cases hzb
   | some b0 =>
    cases h2 : σ c with
    | none => rw [h2] at hzc; cases hzc
    | some c0 =>
     rw [h1] at hzb l1
     rw [h2] at hzc l2
     obtain ⟨x1, p1, _⟩ := l1
     obtain ⟨x2, p2, _⟩ := l2
     exact hφ.apart b0 c0 z (by rw [p1]; simp) (by rw [p2]; simp) (fun e => i1 b0 h1 (by rw [h2, e])) hzb hzc
 ·have h1 := (hlive b y hb).1
  rw [e] at h1
  obtain ⟨x, h2, h3⟩ := h1
  exact ⟨x, h2, (hlen h3).1, (hlen h3).2⟩
end Go.Proofs.Ytdhjmmnjapkmkaa
end

section
set_option linter.unusedVariables false
set_option linter.unusedSimpArgs false

namespace Go.Proofs.Ytdhjmmnjapkmkaa
open Go.RowKit
set_option linter.unusedVariables false
structure HasE (P : Program) (f : FuncId) (ds : List AV) (hl : List (Nat × Blk)) (kp : Nat) (r : AV) (hl' : List (Nat × Blk)) : Prop where
 enters : Enters P f
 calls : ∀ (B : Nat) (M : Nat → Prop) (w : World) (args : Array Value) (ν : Nu) (φ : Nat → List Nat), (∀ x, M x → B ≤ x) → B ≤ w.heap.size → (∀ x, w.heap.size ≤ x → M x) → (∀ x, M x → ν.ok x) → All2 (RepA w (hpL hl) (ltb kp) ν) ds args.toList → HeapOk M w (hpL hl) (ltb kp) ν φ →
  Calls P f args w fun e w' => ∃ v u' ν' φ', e = .returned v ∧ Below B w w' ∧ Ext w (hpL hl) (ltb kp) ν w' (hpL hl') u' ν' ∧ HeapOk M w' (hpL hl') u' ν' φ' ∧ RepA w' (hpL hl') u' ν' r v
def notTuple : AV → Bool
 | .tuple _ => false
 | _ => true
def resOne (vs : List AV) (r : AV) : Prop := (vs = [r]) ∨ (vs.length ≠ 1 ∧ vs.all notTuple = true ∧ r = .tuple vs)
def sameL (h : Hp) : List (Nat × Blk) → Prop
 | [] => True
 | (b, y) :: r => h b = some y ∧ sameL h r
theorem sameL_mem {h : Hp} : ∀ {l : List (Nat × Blk)}, sameL h l → ∀ {b : Nat} {y : Blk}, (b, y) ∈ l → h b = some y
 | (c, z) :: r, ⟨h1, h2⟩, b, y, hm => by
  rcases List.mem_cons.1 hm with e | hm'
  ·obtain ⟨rfl, rfl⟩ := Prod.mk.inj e; exact h1
  ·exact sameL_mem h2 hm'
def RetE (T : List (Nat × Ty)) (rvs : List ResultVar) (r : AV) (hl' : List (Nat × Blk)) (e : Exit) (t : AState) : Prop := isEnd e = true ∧ (∃ vs, resVars T t rvs = some vs ∧ resOne vs r) ∧ sameL t.heap hl'
theorem Ext.shrink {w w' : World} {h h' g : Hp} {u u' : Us} {ν ν' : Nu} (e : Ext w h u ν w' h' u' ν') (hg : ∀ b blk, g b = some blk → h' b = some blk) : Ext w h u ν w' g u' ν' :=
 ⟨e.used, fun b blk hb hgb => e.old b blk hb (hg b blk hgb), fun x hx hf => ⟨(e.free x hx hf).1, fun b blk β c hb hν => (e.free x hx hf).2 b blk β c (hg b blk hb) hν⟩, e.okE⟩
theorem HeapOk.shrink {M M' : Nat → Prop} {w : World} {h g : Hp} {u : Us} {ν : Nu} {φ : Nat → List Nat} (hh : HeapOk M w h u ν φ) (hg : ∀ b blk, g b = some blk → h b = some blk) (hM : ∀ b x, g b ≠ none → x ∈ φ b → M x → M' x) : HeapOk M' w g u ν φ where
 blk := fun b blk hb => by
  obtain ⟨g1, g2, g3, g4⟩ := hh.blk b blk (hg b blk hb)
  exact ⟨g1, g2.ext ((Ext.refl w h u ν).shrink hg) rfl (fun _ _ => rfl), g3, fun x hx => hM b x (by rw [hb]; simp) hx (g4 x hx)⟩
 apart := fun b c x hb hc hne hxb hxc => by
  obtain ⟨y1, h1⟩ := Option.ne_none_iff_exists'.1 hb
  obtain ⟨y2, h2⟩ := Option.ne_none_iff_exists'.1 hc
  exact hh.apart b c x (by rw [hg b y1 h1]; simp) (by rw [hg c y2 h2]; simp) hne hxb hxc
theorem nthA_get : ∀ {l : List AV} {t : Nat}, nthA l t = l[t]?
 | [], _ => by simp [nthA]
 | _ :: _, 0 => by simp [nthA]
 | _ :: r, t + 1 => by simpa [nthA] using nthA_get (l := r) (t := t)
theorem repA_B {w : World} {h : Hp} {u : Us} {ν : Nu} {x : AV} {v : Value} (r : RepA w h u ν x v) (hx : notTuple x = true) : RepB w h u ν x v := by
 cases x <;> first | exact r | cases hx
theorem hasE_mk {P : Program} {T : List (Nat × Ty)} (hT : TyOk P T) {f : FuncId} {fn : Func} {c : Code} {nt kp : Nat} {ds : List AV} {hl hl' : List (Nat × Blk)} {r : AV} {rvs : List ResultVar} {ns : List Nat} (hf : P.funcs[f]? = some fn) (hb : fn.body = some c) (hname : (fn.name == "runtime.NumGoroutine") = false) (hnt : fn.ntmps = nt) (hres : fn.results.toList = rvs)
  (hlen : Nat.ble ds.length nt = true) (h : AC P nt c ⟨nthA ds, hpL hl, ltb kp, ns, ⟨kp, false, none, true⟩⟩ (fun e t => ∃ t', Ent t t' ∧ RetE T rvs r hl' e t')) : HasE P f ds hl kp r hl' := by
 refine ⟨Enters.mk hf (by rw [hb]; rfl) hname, fun B M w args ν φ hMB hB hM hMo hargs hheap => ?_⟩
 refine (callsIn_wide (n := 0)).1 (callsIn_of_wp_marks (F := fw none) hf hb trivial ?_)
 have hlen' := Nat.le_of_ble_eq_true hlen
 have hal : args.size = ds.length := by have := hargs.len; simpa using this
 let C : Ctx := ⟨B, w, nt, M, hMB, ⟨kp, false, none, true⟩, w, hpL hl, ν, Free (hpL hl) ν, (fun h => by cases h), (fun _ h => by cases h), none, fun _ => rfl⟩
 have hsim : Sim C ⟨nthA ds, hpL hl, ltb kp, ns, ⟨kp, false, none, true⟩⟩ ν ⟨args ++ Array.replicate (fn.ntmps - args.size) undef, []⟩ w := by
  refine ⟨Below.refl _ _, hB, hM, okD_nil, by show (args ++ Array.replicate (fn.ntmps - args.size) undef).size = nt; simp [hnt]; omega, ?_, ⟨φ, hheap⟩, rfl, ExtF.refl fun _ _ h => h, Nat.le_refl _, hMo, fun _ h => by cases h⟩
  intro t x hx
  have hx' : ds[t]? = some x := by rw [← nthA_get]; exact hx
  obtain ⟨v, h1, h2⟩ := hargs.get hx'
  refine ⟨v, ?_, h2⟩
  have hlt : t < args.size := by
   rcases Nat.lt_or_ge t args.size with h' | h'
   ·exact h'
   ·rw [List.getElem?_eq_none (by simpa using h')] at h1; cases h1
  show (args ++ Array.replicate (fn.ntmps - args.size) undef)[t]? = some v
  rw [Array.getElem?_append_left hlt]
  simpa using h1
 refine wpIn_mono (h.out C rfl _ _ w hsim 0) fun e a' w0 ⟨s1, ν1, ⟨s', hent, hq⟩, hs1⟩ => ?_
 obtain ⟨ν', hs0⟩ := hent C ν1 a' w0 hs1
 obtain ⟨Ds, d1, d2, d3⟩ := hs0.defers
 obtain ⟨w', hs', hleave⟩ := hs0.leave (P := P) (n := 0) d1 d2 d3
 obtain ⟨he, ⟨avs, hv, hone⟩, hsame⟩ := hq
 have hsub : ∀ b blk, hpL hl' b = some blk → s'.heap b = some blk := fun b blk hb => sameL_mem hsame (hpL_mem hb)
 obtain ⟨us, h1, h2⟩ := resVars_run hT hs' hv
 obtain ⟨φ', hh⟩ := hs'.heap
 have hrun : (results fn a'.tmps).run P w' = .ok (if hh : us.toArray.size = 1 then us.toArray[0] else .tuple us.toArray) w' := by
  unfold results
  rw [Sem.run_bind, Array.mapM_eq_mapM_toList, Sem.run_map, hres]
  have h1' := h1
  generalize hq : (List.mapM _ rvs : Sem (List Value)) = m
  rw [show Sem.run P m w' = .ok us w' by rw [← hq]; exact h1']
  simp
 have shr := (Ext.refl w' s'.heap s'.used ν').shrink hsub
 have hrep : RepA w' (hpL hl') s'.used ν' r (if hh : us.toArray.size = 1 then us.toArray[0] else .tuple us.toArray) := by
  rcases hone with rfl | ⟨g1, g2, rfl⟩
  ·obtain ⟨u, q, rfl, k1, k2⟩ := h2
   simp only [All2] at k2
   subst k2
   exact k1.ext shr
  ·have hul : us.length = avs.length := h2.len
   rw [dif_neg (by simp; rw [hul]; exact g1)]
   refine ⟨us, rfl, h2.congrM fun x hx v hr => ?_⟩
   exact repA_B (hr.ext shr) (List.all_eq_true.1 g2 x hx)
 have hend := hleave fn (fun e w' => ∃ v u' ν' φ', e = .returned v ∧ Below B w w' ∧ Ext w (hpL hl) (ltb kp) ν w' (hpL hl') u' ν' ∧ HeapOk M w' (hpL hl') u' ν' φ' ∧ RepA w' (hpL hl') u' ν' r v)
  ⟨_, hrun, _, s'.used, ν', φ', rfl, hs'.below, hs'.ext.ext.shrink hsub, hh.shrink hsub (fun _ _ _ _ h => h), hrep⟩
 cases e <;> simp only [isEnd, Bool.false_eq_true] at he <;> exact hend
def tame1 (rl : List Nat) : AV → Bool
 | .sc _ => true
 | .nil _ => true
 | .own b _ _ => rl.contains b
 | .ptr b _ _ => rl.contains b
 | _ => false
def tameC (rl : List Nat) : AV → Bool
 | .abs _ _ => true
 | x => tame1 rl x
def tameB (rl : List Nat) : AV → Bool
 | .agg cs => cs.all (tame1 rl)
 | x => tame1 rl x
def tameA (rl : List Nat) : AV → Bool
 | .tuple cs => cs.all (tameB rl)
 | x => tameB rl x
def tameL (rl : List Nat) : List (Nat × Blk) → Prop
 | [] => True
 | (b, y) :: r => rl.contains b = true ∧ (∀ cs ∈ y.es, ∀ c ∈ cs, tameC rl c = true) ∧ tameL rl r
theorem tameL_mem {rl : List Nat} : ∀ {l : List (Nat × Blk)}, tameL rl l → ∀ {b : Nat} {y : Blk}, (b, y) ∈ l → rl.contains b = true ∧ ∀ cs ∈ y.es, ∀ c ∈ cs, tameC rl c = true
 | (c, z) :: r, ⟨h1, h2, h3⟩, b, y, hm => by
  rcases List.mem_cons.1 hm with e | hm'
  ·obtain ⟨rfl, rfl⟩ := Prod.mk.inj e; exact ⟨h1, h2⟩
  ·exact tameL_mem h3 hm'
theorem EOk.tame {α : Type} {k : Nat} {e : α → List AV} (E : EOk k e) (rl : List Nat) (l : List α) : ∀ cs ∈ l.map (ow e), ∀ c ∈ cs, tameC rl c = true := by
 intro cs hcs c hc
 obtain ⟨x, _, rfl⟩ := List.mem_map.1 hcs
 obtain ⟨d, hd, rfl⟩ := List.mem_map.1 hc
 have := E.mem x d hd
 cases d <;> simp only [cellB, Bool.false_eq_true] at this <;> rfl
def inTouch (σ : Nat → Option Nat) (touch : List Nat) : List (Nat × Blk) → Bool
 | [] => true
 | (b, _) :: r => (match σ b with | some x => touch.contains x | none => true) && inTouch σ touch r
theorem entH_congr {σ : Nat → Option Nat} {n : Nat} {touch : List Nat} {h h' : Hp} (hc : ∀ b ∈ touch, h' b = h b) : ∀ {l : List (Nat × Blk)}, inTouch σ touch l = true → EntH σ n h l → EntH σ n h' l
 | [], _, _ => trivial
 | (b, y) :: r, ht, ⟨h1, h2, h3⟩ => by
  simp only [inTouch, Bool.and_eq_true] at ht
  refine ⟨?_, h2, entH_congr hc ht.2 h3⟩
  cases hσ : σ b with
  | none => rw [hσ] at h1; exact h1
  | some x =>
   have h4 := ht.1
   rw [hσ] at h1 h4
   simp only at h1 h4 ⊢
   obtain ⟨z, e1, e2⟩ := h1
   exact ⟨z, by rw [hc x (by simpa using h4)]; exact e1, e2⟩
def backB (σ σ' : Nat → Option Nat) (kp : Nat) (news : List Nat) : List (Nat × Blk) → Bool
 | [] => true
 | (b, _) :: r => (match σ' b with | some i => news.contains b || (Nat.blt i kp && (match σ i with | some x => Nat.beq x b | none => false)) | none => false) && backB σ σ' kp news r
theorem backB_mem {σ σ' : Nat → Option Nat} {kp : Nat} {news : List Nat} : ∀ {l : List (Nat × Blk)}, backB σ σ' kp news l = true → ∀ {b : Nat} {y : Blk}, (b, y) ∈ l → ∃ i, σ' b = some i ∧ (b ∈ news ∨ (Nat.blt i kp = true ∧ σ i = some b))
 | (c, z) :: r, h, b, y, hm => by
  simp only [backB, Bool.and_eq_true] at h
  rcases List.mem_cons.1 hm with e | hm'
  ·obtain ⟨rfl, rfl⟩ := Prod.mk.inj e
   have h1 := h.1
   cases hσ : σ' b with
   | none => rw [hσ] at h1; cases h1
   | some i =>
    rw [hσ] at h1
    simp only [Bool.or_eq_true, Bool.and_eq_true] at h1
    refine ⟨i, rfl, ?_⟩
    rcases h1 with h1 | ⟨h1, h2⟩
    ·exact .inl (by simpa using h1)
    ·refine .inr ⟨h1, ?_⟩
     cases hσ2 : σ i with
     | none => rw [hσ2] at h2; cases h2
     | some x => rw [hσ2] at h2; rw [Nat.eq_of_beq_eq_true h2]
  ·exact backB_mem h.2 hm'
def editsL (rl : List Nat) (hl2 : List (Nat × Blk)) : List (Nat × Option Blk) := rl.map fun b => (b, hpL hl2 b)
theorem editHp_L {h : Hp} {hl2 : List (Nat × Blk)} {b : Nat} : ∀ {rl : List Nat}, editHp (editsL rl hl2) h b = if b ∈ rl then hpL hl2 b else h b
 | [] => by simp [editsL, editHp]
 | c :: rl => by
  have ih := editHp_L (h := h) (hl2 := hl2) (b := b) (rl := rl)
  simp only [editsL, List.map_cons, editHp] at ih ⊢
  by_cases e : b = c
  ·subst e; simp
  ·rw [beq_ne e, cond_false, ih]
   simp [e]
end Go.Proofs.Ytdhjmmnjapkmkaa
end

section
set_option linter.unusedVariables false
set_option linter.unusedSimpArgs false

namespace Go.Proofs.Ytdhjmmnjapkmkaa
open Go.RowKit
set_option linter.unusedVariables false
section
variable {w : World} {h1 h2 : Hp} {u1 u2 : Us} {ν1 ν2 : Nu} {rl : List Nat} (H : ∀ b ∈ rl, h2 b = h1 b) (N : ∀ b ∈ rl, ν2 b = ν1 b) (U : ∀ b ∈ rl, u2 b = true)
include H N U
theorem tame1_rep {x : AV} {v : Value} (r : Rep1 w h1 u1 ν1 x v) (t : tame1 rl x = true) : Rep1 w h2 u2 ν2 x v := by
 cases x <;> simp only [tame1, Bool.false_eq_true] at t <;> simp only [Rep1] at r ⊢
 ·exact r
 ·exact r
 ·rename_i b i n
  have hb : b ∈ rl := by simpa using t
  refine ⟨U b hb, fun blk hbl => ?_⟩
  rw [H b hb] at hbl
  rw [N b hb]
  exact r.2 blk hbl
 ·rename_i b i n
  have hb : b ∈ rl := by simpa using t
  refine ⟨U b hb, fun blk hbl => ?_⟩
  rw [H b hb] at hbl
  rw [N b hb]
  exact r.2 blk hbl
theorem tame1s_rep : ∀ {xs : List AV} {vs : List Value}, All2 (Rep1 w h1 u1 ν1) xs vs → xs.all (tame1 rl) = true → All2 (Rep1 w h2 u2 ν2) xs vs
 | [], vs, r, _ => r
 | x :: xs, vs, ⟨v, q, e, h, k⟩, t => by
  simp only [List.all_cons, Bool.and_eq_true] at t
  exact ⟨v, q, e, tame1_rep H N U h t.1, tame1s_rep k t.2⟩
theorem tameB_rep {x : AV} {v : Value} (r : RepB w h1 u1 ν1 x v) (t : tameB rl x = true) : RepB w h2 u2 ν2 x v := by
 cases x <;> simp only [RepB] at r ⊢ <;> first
  | exact tame1_rep H N U r t
  | (obtain ⟨vs, e, r⟩ := r; exact ⟨vs, e, tame1s_rep H N U r t⟩)
  | (simp only [tameB, tame1, Bool.false_eq_true] at t)
theorem tameA_rep {x : AV} {v : Value} (r : RepA w h1 u1 ν1 x v) (t : tameA rl x = true) : RepA w h2 u2 ν2 x v := by
 by_cases ht : ∃ cs, x = .tuple cs
 ·obtain ⟨cs, rfl⟩ := ht
  obtain ⟨vs, e, r⟩ := r
  refine ⟨vs, e, r.congrM fun y hy d hd => tameB_rep H N U hd ?_⟩
  exact List.all_eq_true.1 t y hy
 ·have r' : RepB w h1 u1 ν1 x v := by cases x <;> first | exact r | exact absurd ⟨_, rfl⟩ ht
  have t' : tameB rl x = true := by cases x <;> first | exact t | exact absurd ⟨_, rfl⟩ ht
  have := tameB_rep H N U r' t'
  cases x <;> first | exact this | exact absurd ⟨_, rfl⟩ ht
theorem tameC_rep {x : AV} {v : Value} {S : List Nat} (r : CellRep w h1 u1 ν1 x v S) (t : tameC rl x = true) : CellRep w h2 u2 ν2 x v S := by
 cases x <;> simp only [CellRep] at r ⊢ <;> first
  | exact ⟨tame1_rep H N U r.1 t, r.2⟩
  | exact r
theorem tameCs_rep : ∀ {xs : List AV} {vs : List Value} {S : List Nat}, CellsRep w h1 u1 ν1 xs vs S → (∀ c ∈ xs, tameC rl c = true) → CellsRep w h2 u2 ν2 xs vs S
 | [], _, _, r, _ => r
 | x :: xs, vs, S, ⟨v, q, S1, S2, e1, e2, h, k⟩, t => ⟨v, q, S1, S2, e1, e2, tameC_rep H N U h (t x (by simp)), tameCs_rep k (fun c hc => t c (by simp [hc]))⟩
theorem tameBlk_rep {b : Nat} {blk : Blk} {S : List Nat} (hb : b ∈ rl) (r : BlkOk w h1 u1 ν1 b blk S) (t : ∀ cs ∈ blk.es, ∀ c ∈ cs, tameC rl c = true) : BlkOk w h2 u2 ν2 b blk S := by
 refine ⟨r.1, ?_⟩
 rcases r.2 with ⟨q1, q2, q3⟩ | ⟨β, c, arr, ty, T, vs, q1, q2, q3, q4, q5, q6, q7, q8⟩
 ·exact .inl ⟨(N b hb).trans q1, q2, q3⟩
 ·refine .inr ⟨β, c, arr, ty, T, vs, (N b hb).trans q1, q2, q3, q4, q5, q6, q7, tameCs_rep H N U q8 fun c hc => ?_⟩
  obtain ⟨cs, hcs, hc⟩ := List.mem_flatten.1 hc
  exact t cs hcs c hc
end
theorem all2_conv {α β γ : Type} {R : α → γ → Prop} {Mt : α → β → Prop} {R' : β → γ → Prop} (hc : ∀ x y v, R x v → Mt x y → R' y v) : ∀ {xs : List α} {ys : List β} {vs : List γ}, All2 R xs vs → All2 Mt xs ys → All2 R' ys vs
 | [], ys, vs, h, m => by simp only [All2] at h m; subst h m; rfl
 | x :: xs, ys, vs, ⟨v, q, e, h, k⟩, ⟨y, p, e2, m, m2⟩ => by
  subst e e2
  exact ⟨v, q, rfl, hc x y v h m, all2_conv hc k m2⟩
theorem blk_main {w : World} {h : Hp} {u : Us} {ν : Nu} {b : Nat} {blk : Blk} {S : List Nat} (r : BlkOk w h u ν b blk S) {β c : Nat} (hν : ν b = some (β, c)) : β ∈ S := by
 rcases r.2 with ⟨q1, _, _⟩ | ⟨β', c', arr, ty, T, vs, q1, q2, q3, q4, q5, q6, q7, q8⟩
 ·rw [hν] at q1; cases q1
 ·rw [hν] at q1; cases q1; rw [q6]; simp
section
variable {P : Program} {dst : Option Tmp} {ty : TypeId} {pos : String} {aft : Array Edge} {g : Option (Nat × Bool)} {ins : Operand → Option AV} {hp : Hp} {κ : Kp}
theorem eff_hasE {fo : Operand} {xs : Array Operand} {ats : Array TypeId} {f : FuncId} {caps avs ds : List AV} {hl hl' hl2 : List (Nat × Blk)} {kp n' : Nat} {r r2 : AV} {σ σ' : Nat → Option Nat} {touch news : List Nat} {ed : List (Nat × Option Blk)}
  (hc : HasE P f ds hl kp r hl') (hf : ins fo = some (.fn f caps)) (hx : evs ins xs.toList = some avs) (hav : All2 (matchA σ kp) (avs ++ caps) ds) (hh : EntH σ kp hp hl) (hi : injB σ hl = true) (hit : inTouch σ touch hl = true) (hlive : (touch.all fun b => (hp b).isSome) = true)
  (hh' : EntH σ' n' (hpL hl') hl2) (hi' : injB σ' hl2 = true) (hr : matchA σ' n' r r2) (hbk : backB σ σ' kp news hl2 = true) (htl : tameL (touch ++ news) hl2) (htr : tameA (touch ++ news) r2 = true) (he : editsL (touch ++ news) hl2 = ed) :
  AEff P ⟨dst, .call ⟨.value fo, xs, ats⟩, ty, pos, aft, g⟩ ins hp κ ⟨r2, touch, ed, news⟩ := by
 refine ⟨fun C s ν a w Q K {hκ} hi0 ht hnw hd hs hK => ?_⟩
 have hfn := hs.ev ((hi0 fo (by simp [Op.operands, Call.operands])).trans hf)
 simp only [RepA, RepB] at hfn
 obtain ⟨cv, hfv, hcap⟩ := hfn
 have hval := evs_rep hs (xs := xs.toList) (fun y hy => hi0 y (by simp [Op.operands, Call.operands]; exact .inr (Array.mem_toList_iff.1 hy))) hx
 obtain ⟨φ, hφ⟩ := hs.heap
 let h3 : Hp := fun b => if b ∈ touch then s.heap b else none
 have sub : ∀ b blk, h3 b = some blk → s.heap b = some blk ∧ b ∈ touch := by
  intro b blk hb
  by_cases e : b ∈ touch
  ·simp only [h3, if_pos e] at hb; exact ⟨hb, e⟩
  ·simp only [h3, if_neg e] at hb; cases hb
 let M2 : Nat → Prop := fun x => (∃ b, b ∈ touch ∧ s.heap b ≠ none ∧ x ∈ φ b) ∨ w.heap.size ≤ x
 have hM2 : ∀ x, M2 x → C.M x := by
  rintro x (⟨b, _, hb, hx⟩ | hx)
  ·obtain ⟨blk, hb⟩ := Option.ne_none_iff_exists'.1 hb
   exact (hφ.blk b blk hb).2.2.2 x hx
  ·exact hs.fresh x hx
 have hk3 : HeapOk M2 w h3 s.used ν φ := hφ.shrink (fun b blk hb => (sub b blk hb).1) (fun b x hb hx _ => by
  obtain ⟨blk, hb⟩ := Option.ne_none_iff_exists'.1 hb
  obtain ⟨e1, e2⟩ := sub b blk hb
  exact .inl ⟨b, e2, by rw [e1]; simp, hx⟩)
 have hent : EntH σ kp h3 hl := entH_congr (h := hp) (touch := touch) (fun b hb => by simp only [h3, if_pos hb]; exact ht b hb) hit hh
 have cv1 := conv_mk (w := w) (u := s.used) (ν := ν) hent hi
 have hk4 := cv1.heap hk3
 have shr3 : Ext w s.heap s.used ν w h3 s.used ν := (Ext.refl _ _ _ _).shrink (fun b blk hb => (sub b blk hb).1)
 have hargs : All2 (RepA w (hpL hl) (ltb kp) (nuOf σ ν)) ds (xs.toList.map a.eval ++ cv) :=
  all2_conv (R := RepA w s.heap s.used ν) (Mt := matchA σ kp) (R' := RepA w (hpL hl) (ltb kp) (nuOf σ ν)) (fun x y v hx hm => cv1.rep (RepA.ext shr3 hx) hm) (hval.append (hcap.mono fun x v h => Rep1.repA h)) hav
 have hcall := hc.calls C.B M2 w ((xs.map a.eval) ++ cv.toArray) (nuOf σ ν) _ (fun x hx => C.low x (hM2 x hx)) hs.base (fun x hx => .inr hx) (fun x hx => hs.okM x (hM2 x hx)) (by simpa using hargs) hk4
 unfold Oper.wp
 have hex : (execOp a.eval ⟨dst, .call ⟨.value fo, xs, ats⟩, ty, pos, aft, g⟩).run P w = .ok (.enter f ((xs.map a.eval) ++ cv.toArray)) w := by
  have : execOp a.eval ⟨dst, .call ⟨.value fo, xs, ats⟩, ty, pos, aft, g⟩ = callFunc f ((xs.map a.eval) ++ cv.toArray) := by
   simp [execOp, resolve, hfv, Deferred.ofValue, invoke]
  rw [this]
  exact hc.enters _ _
 rw [hex]
 simp only [Oper.upon]
 refine hcall.mono fun e w' ⟨v, u1, ν1, φ1, hev, hbel, hext, hh1, hrep⟩ => ?_
 subst hev
 simp only
 have cv2 := conv_mk (w := w') (u := u1) (ν := ν1) hh' hi'
 have hh2 := cv2.heap hh1
 generalize hrl : touch ++ news = rl at *
 let ν' : Nu := ⟨fun b => if b ∈ rl then nuOf σ' ν1 b else ν b, ν.ok⟩
 have hν1 : ∀ b, b ∈ rl → ν' b = nuOf σ' ν1 b := fun b hb => if_pos hb
 have hν2 : ∀ b, b ∉ rl → ν' b = ν b := fun b hb => if_neg hb
 have hheq : ∀ b, editHp ed s.heap b = if b ∈ rl then hpL hl2 b else s.heap b := fun b => by rw [← he]; exact editHp_L
 have hhe1 : ∀ b, b ∈ rl → editHp ed s.heap b = hpL hl2 b := fun b hb => by rw [hheq, if_pos hb]
 have hhe2 : ∀ b, b ∉ rl → editHp ed s.heap b = s.heap b := fun b hb => by rw [hheq, if_neg hb]
 have hused : ∀ b, b ∈ rl → addUs news s.used b = true := by
  intro b hb
  rw [← hrl] at hb
  rw [addUs_spec]
  rcases List.mem_append.1 hb with h | h
  ·have h5 := List.all_eq_true.1 hlive b h
   rw [← ht b h] at h5
   cases hq : s.heap b with
   | none => rw [hq] at h5; cases h5
   | some blk => rw [(hφ.blk b blk hq).1, Bool.or_true]
  ·have : news.contains b = true := by simpa using h
   rw [this, Bool.true_or]
 have hfree3 : ∀ x, Free s.heap ν x → Free (hpL hl) (nuOf σ ν) x := fun x hf => cv1.free x fun b blk β c hb hν => hf b blk β c (sub b blk hb).1 hν
 have extc : Ext w s.heap s.used ν w' (editHp ed s.heap) (addUs news s.used) ν' := by
  refine ⟨fun b hb => by rw [addUs_spec, hb, Bool.or_true], fun b blk' hu hb => ?_, fun x hx hfr => ?_, rfl⟩
  ·by_cases e : b ∈ rl
   ·rw [hhe1 b e] at hb
    obtain ⟨i, e1, e2⟩ := backB_mem hbk (hpL_mem hb)
    obtain ⟨x, f1, f2, f3⟩ := (cv2.look b blk' hb).1 i e1
    rcases e2 with e2 | ⟨e2, e3⟩
    ·rw [hnw b e2] at hu; cases hu
    ·obtain ⟨blk0, g1, g2, g3, g4⟩ := hext.old i x e2 f1
     obtain ⟨z, k1, k2, k3⟩ := (cv1.look i blk0 g1).1 b e3
     refine ⟨z, (sub b z k1).1, k2.trans (g2.trans f2), k3.trans (g3.trans f3), ?_⟩
     rw [hν1 b e]
     simp only [nuOf, e1]
     rw [g4]
     simp only [nuOf, e3]
   ·rw [hhe2 b e] at hb
    exact ⟨blk', hb, rfl, rfl, hν2 b e⟩
  ·obtain ⟨p1, p2⟩ := hext.free x hx (hfree3 x hfr)
   refine ⟨p1, fun b blk β c hb hν => ?_⟩
   by_cases e : b ∈ rl
   ·rw [hhe1 b e] at hb
    rw [hν1 b e] at hν
    exact cv2.free x p2 b blk β c hb hν
   ·rw [hhe2 b e] at hb
    rw [hν2 b e] at hν
    exact hfr b blk β c hb hν
 have hout : ∀ b blk x, s.heap b = some blk → b ∉ rl → x ∈ φ b → w'.heap[x]? = w.heap[x]? := by
  intro b blk x hb hbr hx
  refine (hext.free x ((hφ.blk b blk hb).2.1.lt x hx) (cv1.free x fun b2 blk2 β c hb2 hν2 => ?_)).1
  rintro rfl
  obtain ⟨e1, e2⟩ := sub b2 blk2 hb2
  have hne : b2 ≠ b := by rintro rfl; exact hbr (by rw [← hrl]; exact List.mem_append_left _ e2)
  exact hφ.apart b2 b β (by rw [e1]; simp) (by rw [hb]; simp) hne (blk_main (hφ.blk b2 blk2 e1).2.1 hν2) hx
 have hcross : ∀ b c x, hpL hl2 b ≠ none → s.heap c ≠ none → c ∉ rl → x ∈ (match σ' b with | some b0 => φ1 b0 | none => []) → x ∉ φ c := by
  intro b c x hb hc' hcr hx hx2
  obtain ⟨y1, hy1⟩ := Option.ne_none_iff_exists'.1 hb
  obtain ⟨y2, hy2⟩ := Option.ne_none_iff_exists'.1 hc'
  rcases (hh2.blk b y1 hy1).2.2.2 x hx with ⟨b2, e1, e2, e3⟩ | e1
  ·have hne : b2 ≠ c := by rintro rfl; exact hcr (by rw [← hrl]; exact List.mem_append_left _ e1)
   exact hφ.apart b2 c x e2 hc' hne e3 hx2
  ·have := (hφ.blk c y2 hy2).2.1.lt x hx2
   omega
 refine hK ν' _ _ (hs.step hd (s' := s.app dst ⟨r2, touch, ed, news⟩) extc hbel ⟨fun b => if b ∈ rl then (match σ' b with | some b0 => φ1 b0 | none => []) else φ b, ?_, ?_⟩ rfl ?_)
 ·intro b blk' hb
  replace hb : editHp ed s.heap b = some blk' := hb
  by_cases e : b ∈ rl
  ·rw [hhe1 b e] at hb
   simp only [if_pos e]
   obtain ⟨_, g2, g3, g4⟩ := hh2.blk b blk' hb
   exact ⟨hused b e, tameBlk_rep (h1 := hpL hl2) (u1 := ltb n') (ν1 := nuOf σ' ν1) hhe1 hν1 hused e g2 (tameL_mem htl (hpL_mem hb)).2, g3, fun x hx => hM2 x (g4 x hx)⟩
  ·rw [hhe2 b e] at hb
   simp only [if_neg e]
   obtain ⟨g1, g2, g3, g4⟩ := hφ.blk b blk' hb
   exact ⟨extc.used b g1, g2.ext extc (hν2 b e) (fun x hx => hout b blk' x hb e hx), g3, g4⟩
 ·intro b c x hb hc' hne hxb hxc
  replace hb : editHp ed s.heap b ≠ none := hb
  replace hc' : editHp ed s.heap c ≠ none := hc'
  by_cases e1 : b ∈ rl <;> by_cases e2 : c ∈ rl
  ·simp only [if_pos e1] at hxb
   simp only [if_pos e2] at hxc
   rw [hhe1 b e1] at hb
   rw [hhe1 c e2] at hc'
   exact hh2.apart b c x hb hc' hne hxb hxc
  ·simp only [if_pos e1] at hxb
   simp only [if_neg e2] at hxc
   rw [hhe1 b e1] at hb
   rw [hhe2 c e2] at hc'
   exact hcross b c x hb hc' e2 hxb hxc
  ·simp only [if_neg e1] at hxb
   simp only [if_pos e2] at hxc
   rw [hhe2 b e1] at hb
   rw [hhe1 c e2] at hc'
   exact hcross c b x hc' hb e1 hxc hxb
  ·simp only [if_neg e1] at hxb
   simp only [if_neg e2] at hxc
   rw [hhe2 b e1] at hb
   rw [hhe2 c e2] at hc'
   exact hφ.apart b c x hb hc' hne hxb hxc
 ·exact tameA_rep (h1 := hpL hl2) (u1 := ltb n') (ν1 := nuOf σ' ν1) hhe1 hν1 hused (cv2.rep hrep hr) htr
end
end Go.Proofs.Ytdhjmmnjapkmkaa
end

section
set_option linter.unusedVariables false
set_option linter.unusedSimpArgs false

namespace Go.Proofs.Ytdhjmmnjapkmkaa
open Go.RowKit
set_option linter.unusedVariables false
section
variable {P : Program} {T : List (Nat × Ty)} (hT : TyOk P T) {dst : Option Tmp} {ty : TypeId} {pos : String} {aft : Array Edge} {g : Option (Nat × Bool)} {s : AState}
def bnd (s : AState) (d : Nat) : Option Operand → Option Int
 | none => some d
 | some x => match s.ev x with | some (.sc (.int _ n)) => some n | _ => none
theorem sliceBounds_run {lo hi : Option Value} {len cap : Nat} {l h : Int} (w : World) (hl : (lo = none ∧ l = 0) ∨ ∃ k, lo = some (.int k l)) (hh : (hi = none ∧ h = len) ∨ ∃ k, hi = some (.int k h)) (h0 : 0 ≤ l) (h1 : l ≤ h) (h2 : h ≤ len) (h3 : len ≤ cap) :
  (Instr.sliceBounds true len cap lo hi none).run P w = .ok (l.toNat, h.toNat, cap) w := by
 have eh : (h.toNat : Int) = h := by omega
 have hhc : 0 ≤ h ∧ h ≤ (cap : Int) := by omega
 rcases hl with ⟨rfl, rfl⟩ | ⟨k, rfl⟩ <;> rcases hh with ⟨rfl, rfl⟩ | ⟨k', rfl⟩ <;> simp [Instr.sliceBounds, Instr.sliceBound, asIntOf, h0, hhc, eh, Int.not_lt.2 h1, h1]
include hT
theorem x_slice_own {x : Operand} {lo hi : Option Operand} {t e : Nat} {y ye : Ty} {b i n : Nat} {blk : Blk} {l h : Int} (q : (decide (0 ≤ l) && (decide (l ≤ h) && decide (h ≤ (n : Int)))) = true) (hx : s.ev x = some (.own b i n)) (hb : s.heap b = some blk) (hlo : bnd s 0 lo = some l) (hhi : bnd s n hi = some h) (hy : tyOf T t = some y) (hd : y.desc = .slice e) (hye : tyOf T e = some ye) (hk : ye.size = blk.k) :
  AEff P ⟨dst, .slice t x lo hi none, ty, pos, aft, g⟩ s.ev s.heap s.kp ⟨.own b (i + l.toNat) (h.toNat - l.toNat), [b], [], []⟩ := by
 simp only [Bool.and_eq_true, decide_eq_true_eq] at q
 refine AEff.pure fun C s' ν a w hi' ht hs => ?_
 have hb' : s'.heap b = some blk := (ht b (by simp)).trans hb
 have h1 := hs.ev ((hi' x (by simp [Op.operands])).trans hx)
 simp only [RepA, RepB, Rep1] at h1
 obtain ⟨h3, h4, h5⟩ := h1.2 blk hb'
 obtain ⟨φ, hh⟩ := hs.heap
 obtain ⟨_, ⟨_, hx2⟩, _, _⟩ := hh.blk b blk hb'
 obtain ⟨i1, z1, d1, y1⟩ := hT.is hy
 obtain ⟨i2, z2, d2, y2⟩ := hT.is hye
 have hlo' : ((lo.map a.eval) = none ∧ l = 0) ∨ ∃ k, lo.map a.eval = some (.int k l) := by
  cases lo with
  | none => simp only [bnd, Option.some.injEq] at hlo; exact .inl ⟨rfl, by omega⟩
  | some z =>
   simp only [bnd] at hlo
   split at hlo
   ·rename_i kk m hz
    cases hlo
    have := hs.ev ((hi' z (by simp [Op.operands])).trans hz)
    simp only [RepA, RepB, Rep1] at this
    exact .inr ⟨kk, by simp [this.1]⟩
   ·cases hlo
 have hhi' : ((hi.map a.eval) = none ∧ h = n) ∨ ∃ k, hi.map a.eval = some (.int k h) := by
  cases hi with
  | none => simp only [bnd, Option.some.injEq] at hhi; exact .inl ⟨rfl, by omega⟩
  | some z =>
   simp only [bnd] at hhi
   split at hhi
   ·rename_i kk m hz
    cases hhi
    have := hs.ev ((hi' z (by simp [Op.operands])).trans hz)
    simp only [RepA, RepB, Rep1] at this
    exact .inr ⟨kk, by simp [this.1]⟩
   ·cases hhi
 rcases hx2 with ⟨q1, q2, _⟩ | ⟨β, c, arr, ty', T', vs, q1, q2, q3, q4, q5, q6, q7, q8⟩
 ·rw [q2] at h3
  have hn : n = 0 := by simp at h3; omega
  have hi0 : i = 0 := by simp at h3; omega
  subst hn hi0
  have hl0 : l = 0 := by omega
  have hh0 : h = 0 := by omega
  subst hl0 hh0
  refine ⟨.slice none 0 0, ?_, ?_⟩
  ·have hsb := sliceBounds_run (P := P) (len := 0) (cap := 0) w hlo' hhi' (by omega) (by omega) (by omega) (by omega)
   simp only [execOp, Instr.sliceAt, Instr.slice, h4 q1, Sem.run_bind, run_und (y1.slice hd), Result.andThen_ok, run_size y2.info, Option.map_none]
   rw [hsb]
   simp
  ·simp only [RepA, RepB, Rep1]
   refine ⟨h1.1, fun blk2 hb2 => ?_⟩
   rw [hb'] at hb2; cases hb2
   exact ⟨by simp, fun _ => by first | rfl | trivial, fun β c hν => by rw [q1] at hν; cases hν⟩
 ·obtain ⟨o, ho, ho2⟩ := h5 β c q1
  have hsb := sliceBounds_run (P := P) (len := n) (cap := c - i) w hlo' hhi' q.1 q.2.1 q.2.2 (by omega)
  refine ⟨.slice (if c - i = l.toNat then some ⟨β, o, none⟩ else some ⟨β, o + l.toNat * ye.size, none⟩) (h.toNat - l.toNat) (c - i - l.toNat), ?_, ?_⟩
  ·simp only [execOp, Instr.sliceAt, Instr.slice, ho, Sem.run_bind, run_und (y1.slice hd), Result.andThen_ok, run_size y2.info, y2.size, Option.map_none]
   rw [hsb]
   by_cases e : c - i = l.toNat <;> simp [e, Addr.add]
  ·simp only [RepA, RepB, Rep1]
   refine ⟨h1.1, fun blk2 hb2 => ?_⟩
   rw [hb'] at hb2; cases hb2
   refine ⟨by omega, fun hν => (by rw [q1] at hν; cases hν), fun β' c' hν => ?_⟩
   rw [q1] at hν; cases hν
   by_cases e : c - i = l.toNat
   ·rw [if_pos e]
    by_cases hz : i + l.toNat = 0
    ·have hi0 : i = 0 := by omega
     have hl0 : l.toNat = 0 := by omega
     refine ⟨o, by congr 1; omega, .inl ?_⟩
     rcases ho2 with rfl | ho2
     ·rw [hi0, hl0]
     ·omega
    ·exact ⟨o, by congr 1; omega, .inr ⟨by omega, by omega⟩⟩
   ·rw [if_neg e]
    refine ⟨o + l.toNat * ye.size, by congr 1; omega, .inl ?_⟩
    rcases ho2 with rfl | ho2
    ·rw [hk, Nat.add_mul]
    ·omega
omit hT in
theorem RepEs.dropT {w : World} {k b : Nat} : ∀ {m o : Nat} {es : List (List AV)} {S : List Nat}, RepEs w k b o es S → ∃ U, RepEs w k b (o + m * k) (es.drop m) U ∧ ∀ x ∈ U, x ∈ S
 | 0, o, es, S, h => ⟨S, by simpa using h, fun _ h => h⟩
 | m + 1, o, [], S, h => ⟨[], by simp [RepEs], by simp⟩
 | m + 1, o, c :: es, S, h => by
  simp only [RepEs] at h
  obtain ⟨S1, S2, rfl, h2, h3, h4⟩ := h
  obtain ⟨U, h5, h6⟩ := h4.dropT (m := m)
  exact ⟨U, by rw [List.drop_succ_cons, show o + (m + 1) * k = o + k + m * k by rw [Nat.add_mul]; omega]; exact h5, fun x hx => by simp [h6 x hx]⟩
omit hT in
theorem RepEs.takeT {w : World} {k b : Nat} : ∀ {m o : Nat} {es : List (List AV)} {S : List Nat}, RepEs w k b o es S → ∃ U, RepEs w k b o (es.take m) U ∧ ∀ x ∈ U, x ∈ S
 | 0, o, es, S, h => ⟨[], by simp [RepEs], by simp⟩
 | m + 1, o, [], S, h => ⟨[], by simp [RepEs], by simp⟩
 | m + 1, o, c :: es, S, h => by
  simp only [RepEs] at h
  obtain ⟨S1, S2, rfl, h2, h3, h4⟩ := h
  obtain ⟨U, h5, h6⟩ := h4.takeT (m := m)
  refine ⟨S1 ++ U, by rw [List.take_succ_cons]; simp only [RepEs]; exact ⟨S1, U, rfl, h2, h3, h5⟩, fun x hx => ?_⟩
  rcases List.mem_append.1 hx with h | h
  ·simp [h]
  ·simp [h6 x h]
theorem x_at_part {x ix : Operand} {t et : Nat} {y ye : Ty} {b i n kz : Nat} {es : List (List AV)} {kk : IntKind} {j : Int} (q : (decide (0 ≤ j) && decide (j < (n : Int))) = true) (hx : s.ev x = some (.own b i n)) (hb : s.heap b = some ⟨kz, es⟩) (hix : s.ev ix = some (.sc (.int kk j))) (hy : tyOf T t = some y) (hd : y.desc = .slice et) (hye : tyOf T et = some ye) (hk : ye.size = kz) :
  AEff P ⟨dst, .indexAddr t x ix, ty, pos, aft, g⟩ s.ev s.heap s.kp ⟨.ptr b (i + j.toNat) 0, [b], [], []⟩ := by
 simp only [Bool.and_eq_true, decide_eq_true_eq] at q
 exact w_at_own hT hy hd hye hx hb hk hix q.1 q.2
omit hT in
theorem set_at {α : Type} {f : α → List AV} {l : List α} {i : Nat} {c : List AV} (h : i < l.length) : ((l.map f).set i c)[i]? = some c := by simp [h]
omit hT in
theorem ent_set {σ : Nat → Option Nat} {m : Nat} {α : Type} {k : Nat} {e : α → List AV} {c d : List AV} {i : Nat} (E : EOk k e) (h : All2 (matchC σ m) c d) : ∀ {l : List α} {i : Nat}, All2 (All2 (matchC σ m)) ((l.map (ow e)).set i c) ((l.map (ow e)).set i d) := by
 have hs : ∀ x, All2 (matchC σ m) (ow e x) (ow e x) := by
  intro x
  have := all2_map (R := matchC σ m) (f := toAbs) (g := toAbs) (cs := e x) (fun c hc => by
   have := E.mem x c hc
   cases c <;> simp only [cellB, Bool.false_eq_true] at this <;> simp [toAbs, matchC, match1])
  exact this
 have hl : ∀ l : List α, All2 (All2 (matchC σ m)) (l.map (ow e)) (l.map (ow e)) := fun l => all2_maps hs
 intro l
 induction l with
 | nil => intro i; rfl
 | cons x l ih =>
  intro i
  cases i with
  | zero => exact ⟨_, _, rfl, h, hl l⟩
  | succ i => exact ⟨_, _, rfl, hs x, ih⟩
omit hT in
theorem x_max {t : TypeId} {x z : Operand} {a b : Int} {dty : TypeId} (hx : s.ev x = some (.int a)) (hz : s.ev z = some (.int b)) :
  AEff P ⟨dst, .call ⟨.builtin .max, #[x, z], #[t, t]⟩, dty, pos, aft, g⟩ s.ev s.heap s.kp ⟨.int (max a b), [], [], []⟩ :=
 AEff.pure fun C s' ν ac w hi ht hs => by
  have h1 := hs.ev ((hi x (by simp [Op.operands, Call.operands])).trans hx)
  have h2 := hs.ev ((hi z (by simp [Op.operands, Call.operands])).trans hz)
  simp only [RepA, RepB, Rep1] at h1 h2
  refine ⟨.int .i64 (max a b), ?_, repA_sc rfl⟩
  simp [execOp, resolve, invoke, builtin, h1.1, h2.1, Builtin.max_, Builtin.max2]
  rw [Int.max_def]; split <;> split <;> omega
omit hT in
theorem x_min {t : TypeId} {x z : Operand} {a b : Int} {dty : TypeId} (hx : s.ev x = some (.int a)) (hz : s.ev z = some (.int b)) :
  AEff P ⟨dst, .call ⟨.builtin .min, #[x, z], #[t, t]⟩, dty, pos, aft, g⟩ s.ev s.heap s.kp ⟨.int (min a b), [], [], []⟩ :=
 AEff.pure fun C s' ν ac w hi ht hs => by
  have h1 := hs.ev ((hi x (by simp [Op.operands, Call.operands])).trans hx)
  have h2 := hs.ev ((hi z (by simp [Op.operands, Call.operands])).trans hz)
  simp only [RepA, RepB, Rep1] at h1 h2
  refine ⟨.int .i64 (min a b), ?_, repA_sc rfl⟩
  simp [execOp, resolve, invoke, builtin, h1.1, h2.1, Builtin.min_, Builtin.min2]
  rw [Int.min_def]; split <;> split <;> omega
theorem x_app1 {α : Type} {e : α → List AV} {x z : Operand} {t et : Nat} {y ye : Ty} {b b' n k : Nat} {l : List α} {c : List AV} {sv : AV} {ts nm : List Nat} {dty : TypeId} (hf : decide (l.length + 1 ≤ 4294967296) = true) (hns : s.ns.head? = some b') (hx : s.ev x = some (.own b 0 n)) (hb : s.heap b = some ⟨k, l.map e⟩) (hl : l.length = n) (hz : s.ev z = some sv) (hsrc : srcEls s.heap sv = some (k, [c], ts)) (hnm : namesOf c = nm)
  (ok : c.all (okCell s.heap) = true) (hy : tyOf T t = some y) (hd : y.desc = .slice et) (hye : tyOf T et = some ye) (hzl : ye.zero.length = ye.size) (hk : ye.size = k) (hby : Nat.ble ye.bytes 32768 = true) :
  AEff P ⟨dst, .call ⟨.builtin .append, #[x, z], #[t, t]⟩, dty, pos, aft, g⟩ s.ev s.heap s.kp ⟨.own b' 0 (l.length + 1), b :: (ts ++ nm), [(b, none), (b', some ⟨k, l.map e ++ [c]⟩)], [b']⟩ := by
 have hf := of_decide_eq_true hf
 have hby := Nat.le_of_ble_eq_true hby
 have h1 := w_app_own (P := P) hT (dst := dst) (pos := pos) (aft := aft) (g := g) (dty := dty) hns hx hb hz hsrc hy hd hye hzl hk.symm hk.symm (by simpa using hl) (by simpa using ok) (by simp; omega) (by simp only [List.length_singleton]; calc (n + 1) * ye.bytes ≤ 4294967296 * 32768 := Nat.mul_le_mul (by omega) hby
                                                                                           _ ≤ 140737488355328 := by decide)
 rw [List.flatten_singleton, hnm, hk] at h1
 rw [hl]
 exact h1
omit hT in
theorem app_eq {α β : Type} {f : α → β} {l : List α} {c : β} (x : α) (h : c = f x) : l.map f ++ [c] = (l ++ [x]).map f := by rw [h, List.map_append]; rfl
omit hT in
theorem set_eq {α β : Type} {f : α → β} {l : List α} {i : Nat} {c : β} (x : α) (h : c = f x) : (l.map f).set i c = (l.set i x).map f := by rw [h, List.map_set]
end
end Go.Proofs.Ytdhjmmnjapkmkaa
end

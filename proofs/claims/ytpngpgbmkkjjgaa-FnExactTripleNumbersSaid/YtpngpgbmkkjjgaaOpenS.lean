/-
  Spaces as arguments of a law.
-/
import Derived.Test.YtpngpgbmkkjjgaaC28
import Derived.Test.YtpngpgbmkkjjgaaOpen
namespace Go.Proofs.Ytpngpgbmkkjjgaa
open Go.ChangeShapes Go.WideShapes Go.ChangeAt Go.RowKit

theorem opens_intss : Opens Try.prog 33 (Shp.slice Shp.ints) := opens_slice Try.underlying33 (by kernel_rfl) Shp.ints_good (opens_slice Try.underlying22 (by kernel_rfl) Shp.int_good (opens_int Try.underlying3))

theorem opens_space : Opens Try.prog 35 Shp.spc := by
  intro H enc w fuel cs d ps h hf
  obtain ⟨hl, hs⟩ := opens_fields Try.underlying35 H enc w fuel cs d ps h hf
  have hc : Try.prog.cellsOf 35 = 2 := by kernel_rfl
  have hi : Try.prog.cellsOf 3 = 1 := by kernel_rfl
  have hr : Try.prog.cellsOf 33 = 1 := by kernel_rfl
  rw [hc] at hl
  obtain ⟨x0, S0, h0⟩ := hs 0 _ rfl (opens_int Try.underlying3)
  obtain ⟨x1, S1, h1⟩ := hs 1 _ rfl opens_intss
  replace h0 : Shp.int.rd w ((cs.drop 0).take (Try.prog.cellsOf 3)) x0 S0 := h0
  replace h1 : (Shp.slice Shp.ints).rd w ((cs.drop 1).take (Try.prog.cellsOf 33)) x1 S1 := h1
  rw [hi] at h0
  rw [hr] at h1
  clear h hs hf hc hi hr
  obtain ⟨u0, u1, rfl⟩ : ∃ u0 u1, cs = [u0, u1] := by
    rcases cs with _ | ⟨u0, _ | ⟨u1, _ | ⟨u2, r⟩⟩⟩
    · simp at hl
    · simp at hl
    · exact ⟨_, _, rfl⟩
    · simp at hl
  obtain ⟨e0, -, f0⟩ := h0
  obtain ⟨a1, n1, c1, e1, g1⟩ := h1
  simp at e0 e1
  subst e0 e1
  exact ⟨⟨x0, x1⟩, S1, a1, n1, c1, rfl, f0, g1⟩
end Go.Proofs.Ytpngpgbmkkjjgaa

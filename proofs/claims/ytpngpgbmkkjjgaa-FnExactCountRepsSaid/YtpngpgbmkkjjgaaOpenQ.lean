/-
  Quivers as arguments of a law.
-/
import Derived.Test.YtpngpgbmkkjjgaaC4
import Derived.Test.YtpngpgbmkkjjgaaOpen
namespace Go.Proofs.Ytpngpgbmkkjjgaa
open Go.ChangeShapes Go.WideShapes Go.ChangeAt Go.RowKit

theorem opens_ints : Opens Try.prog 22 (Shp.slice Shp.int) := opens_slice Try.underlying22 (by kernel_rfl) Shp.int_good (opens_int Try.underlying3)

theorem opens_quiver : Opens Try.prog 24 Shp.quiver := by
  intro H enc w fuel cs d ps h hf
  obtain ⟨hl, hs⟩ := opens_fields Try.underlying24 H enc w fuel cs d ps h hf
  have hc : Try.prog.cellsOf 24 = 3 := by kernel_rfl
  have hi : Try.prog.cellsOf 3 = 1 := by kernel_rfl
  have hr : Try.prog.cellsOf 22 = 1 := by kernel_rfl
  rw [hc] at hl
  obtain ⟨x0, S0, h0⟩ := hs 0 _ rfl (opens_int Try.underlying3)
  obtain ⟨x1, S1, h1⟩ := hs 1 _ rfl opens_ints
  obtain ⟨x2, S2, h2⟩ := hs 2 _ rfl opens_ints
  replace h0 : Shp.int.rd w ((cs.drop 0).take (Try.prog.cellsOf 3)) x0 S0 := h0
  replace h1 : (Shp.slice Shp.int).rd w ((cs.drop 1).take (Try.prog.cellsOf 22)) x1 S1 := h1
  replace h2 : (Shp.slice Shp.int).rd w ((cs.drop 2).take (Try.prog.cellsOf 22)) x2 S2 := h2
  rw [hi] at h0
  rw [hr] at h1 h2
  clear h hs hf hc hi hr
  obtain ⟨u0, u1, u2, rfl⟩ : ∃ u0 u1 u2, cs = [u0, u1, u2] := by
    rcases cs with _ | ⟨u0, _ | ⟨u1, _ | ⟨u2, _ | ⟨u3, r⟩⟩⟩⟩
    · simp at hl
    · simp at hl
    · simp at hl
    · exact ⟨_, _, _, rfl⟩
    · simp at hl
  · 
    obtain ⟨e0, -, f0⟩ := h0
    obtain ⟨a1, n1, c1, e1, g1⟩ := h1
    obtain ⟨a2, n2, c2, e2, g2⟩ := h2
    simp at e0 e1 e2
    subst e0 e1 e2
    exact ⟨⟨x0, x1, x2⟩, S1 ++ S2, a1, n1, c1, a2, n2, c2, S1, S2, rfl, f0, g1, g2, rfl⟩
end Go.Proofs.Ytpngpgbmkkjjgaa

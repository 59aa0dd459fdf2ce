/-
  The laws' structs as arguments: quivers, matrices, representations, spaces, bars, claims.
-/
import Derived.Test.YtjfcjkeghigipaaA18
import Derived.Test.YtjfcjkeghigipaaProg
namespace Go.Proofs.Ytjfcjkeghigipaa
open Go.ChangeShapes Go.WideShapes Go.ChangeAt Go.RowKit
theorem oI : Opens Try.prog 3 (ShpA 1 eI) := opensA_int Try.underlying3
theorem oL : Opens Try.prog 22 (ShpA 1 eL) := opensA_slice Try.underlying22 (by decide) (by kernel_rfl) oI
theorem oQ : Opens Try.prog 24 (ShpA 3 eQ) := by
  intro H enc w fuel cs d ps h hf
  obtain ⟨x0, T0, u0⟩ := upto_cons Try.underlying24 h hf upto_nil (i := 0) (ft := 3) rfl (k := 1) (by kernel_rfl) oI
  obtain ⟨x1, T1, u1⟩ := upto_cons Try.underlying24 h hf u0 (i := 1) (ft := 22) rfl (k := 1) (by kernel_rfl) oL
  obtain ⟨x2, T2, u2⟩ := upto_cons Try.underlying24 h hf u1 (i := 2) (ft := 22) rfl (k := 1) (by kernel_rfl) oL
  exact ⟨⟨x0, x1, x2⟩, _, upto_end Try.underlying24 h hf u2 (by kernel_rfl) _ rfl⟩
theorem oM : Opens Try.prog 107 (ShpA 3 eM) := by
  intro H enc w fuel cs d ps h hf
  obtain ⟨x0, T0, u0⟩ := upto_cons Try.underlying107 h hf upto_nil (i := 0) (ft := 3) rfl (k := 1) (by kernel_rfl) oI
  obtain ⟨x1, T1, u1⟩ := upto_cons Try.underlying107 h hf u0 (i := 1) (ft := 3) rfl (k := 1) (by kernel_rfl) oI
  obtain ⟨x2, T2, u2⟩ := upto_cons Try.underlying107 h hf u1 (i := 2) (ft := 22) rfl (k := 1) (by kernel_rfl) oL
  exact ⟨⟨x0, x1, x2⟩, _, upto_end Try.underlying107 h hf u2 (by kernel_rfl) _ rfl⟩
theorem oMs : Opens Try.prog 25 (ShpA 1 (fun l : List Mt => [.list 3 (l.map eM)])) := opensA_slice Try.underlying25 (by decide) (by kernel_rfl) oM
theorem oR : Opens Try.prog 27 (ShpA 6 eR) := by
  intro H enc w fuel cs d ps h hf
  obtain ⟨x0, T0, u0⟩ := upto_cons Try.underlying27 h hf upto_nil (i := 0) (ft := 3) rfl (k := 1) (by kernel_rfl) oI
  obtain ⟨x1, T1, u1⟩ := upto_cons Try.underlying27 h hf u0 (i := 1) (ft := 24) rfl (k := 3) (by kernel_rfl) oQ
  obtain ⟨x2, T2, u2⟩ := upto_cons Try.underlying27 h hf u1 (i := 2) (ft := 22) rfl (k := 1) (by kernel_rfl) oL
  obtain ⟨x3, T3, u3⟩ := upto_cons Try.underlying27 h hf u2 (i := 3) (ft := 25) rfl (k := 1) (by kernel_rfl) oMs
  exact ⟨⟨x0, x1, x2, x3⟩, _, upto_end Try.underlying27 h hf u3 (by kernel_rfl) _ rfl⟩
theorem oRs : Opens Try.prog 43 (ShpA 1 (fun l : List Rp => [.list 6 (l.map eR)])) := opensA_slice Try.underlying43 (by decide) (by kernel_rfl) oR
theorem oRows : Opens Try.prog 76 (ShpA 1 (fun l : List (List Int) => [.list 1 (l.map eL)])) := opensA_slice Try.underlying76 (by decide) (by kernel_rfl) oL
theorem oS : Opens Try.prog 90 (ShpA 2 eS) := by
  intro H enc w fuel cs d ps h hf
  obtain ⟨x0, T0, u0⟩ := upto_cons Try.underlying90 h hf upto_nil (i := 0) (ft := 3) rfl (k := 1) (by kernel_rfl) oI
  obtain ⟨x1, T1, u1⟩ := upto_cons Try.underlying90 h hf u0 (i := 1) (ft := 76) rfl (k := 1) (by kernel_rfl) oRows
  exact ⟨⟨x0, x1⟩, _, upto_end Try.underlying90 h hf u1 (by kernel_rfl) _ rfl⟩
theorem oSs : Opens Try.prog 50 (ShpA 1 (fun l : List Sc => [.list 2 (l.map eS)])) := opensA_slice Try.underlying50 (by decide) (by kernel_rfl) oS
end Go.Proofs.Ytjfcjkeghigipaa

/-
  The laws' structs as arguments: quivers, matrices, representations, spaces, bars, claims.
-/
import Derived.Test.YtpngpgbmkkjjgaaA18
import Derived.Test.YtpngpgbmkkjjgaaProg
namespace Go.Proofs.Ytpngpgbmkkjjgaa
open Go.ChangeShapes Go.WideShapes Go.ChangeAt Go.RowKit
theorem oI : Opens Try.prog 3 (ShpA 1 eI) := opensA_int Try.underlying3
theorem oL : Opens Try.prog 22 (ShpA 1 eL) := opensA_slice Try.underlying22 (by decide) (by kernel_rfl) oI
theorem oQ : Opens Try.prog 24 (ShpA 3 eQ) := by
  intro H enc w fuel cs d ps h hf
  obtain ⟨x0, T0, u0⟩ := upto_cons Try.underlying24 h hf upto_nil (i := 0) (ft := 3) rfl (k := 1) (by kernel_rfl) oI
  obtain ⟨x1, T1, u1⟩ := upto_cons Try.underlying24 h hf u0 (i := 1) (ft := 22) rfl (k := 1) (by kernel_rfl) oL
  obtain ⟨x2, T2, u2⟩ := upto_cons Try.underlying24 h hf u1 (i := 2) (ft := 22) rfl (k := 1) (by kernel_rfl) oL
  exact ⟨⟨x0, x1, x2⟩, _, upto_end Try.underlying24 h hf u2 (by kernel_rfl) _ rfl⟩
theorem oM : Opens Try.prog 117 (ShpA 3 eM) := by
  intro H enc w fuel cs d ps h hf
  obtain ⟨x0, T0, u0⟩ := upto_cons Try.underlying117 h hf upto_nil (i := 0) (ft := 3) rfl (k := 1) (by kernel_rfl) oI
  obtain ⟨x1, T1, u1⟩ := upto_cons Try.underlying117 h hf u0 (i := 1) (ft := 3) rfl (k := 1) (by kernel_rfl) oI
  obtain ⟨x2, T2, u2⟩ := upto_cons Try.underlying117 h hf u1 (i := 2) (ft := 22) rfl (k := 1) (by kernel_rfl) oL
  exact ⟨⟨x0, x1, x2⟩, _, upto_end Try.underlying117 h hf u2 (by kernel_rfl) _ rfl⟩
theorem oMs : Opens Try.prog 43 (ShpA 1 (fun l : List Mt => [.list 3 (l.map eM)])) := opensA_slice Try.underlying43 (by decide) (by kernel_rfl) oM
theorem oR : Opens Try.prog 45 (ShpA 6 eR) := by
  intro H enc w fuel cs d ps h hf
  obtain ⟨x0, T0, u0⟩ := upto_cons Try.underlying45 h hf upto_nil (i := 0) (ft := 3) rfl (k := 1) (by kernel_rfl) oI
  obtain ⟨x1, T1, u1⟩ := upto_cons Try.underlying45 h hf u0 (i := 1) (ft := 24) rfl (k := 3) (by kernel_rfl) oQ
  obtain ⟨x2, T2, u2⟩ := upto_cons Try.underlying45 h hf u1 (i := 2) (ft := 22) rfl (k := 1) (by kernel_rfl) oL
  obtain ⟨x3, T3, u3⟩ := upto_cons Try.underlying45 h hf u2 (i := 3) (ft := 43) rfl (k := 1) (by kernel_rfl) oMs
  exact ⟨⟨x0, x1, x2, x3⟩, _, upto_end Try.underlying45 h hf u3 (by kernel_rfl) _ rfl⟩
theorem oRs : Opens Try.prog 46 (ShpA 1 (fun l : List Rp => [.list 6 (l.map eR)])) := opensA_slice Try.underlying46 (by decide) (by kernel_rfl) oR
theorem oRows : Opens Try.prog 33 (ShpA 1 (fun l : List (List Int) => [.list 1 (l.map eL)])) := opensA_slice Try.underlying33 (by decide) (by kernel_rfl) oL
theorem oS : Opens Try.prog 35 (ShpA 2 eS) := by
  intro H enc w fuel cs d ps h hf
  obtain ⟨x0, T0, u0⟩ := upto_cons Try.underlying35 h hf upto_nil (i := 0) (ft := 3) rfl (k := 1) (by kernel_rfl) oI
  obtain ⟨x1, T1, u1⟩ := upto_cons Try.underlying35 h hf u0 (i := 1) (ft := 33) rfl (k := 1) (by kernel_rfl) oRows
  exact ⟨⟨x0, x1⟩, _, upto_end Try.underlying35 h hf u1 (by kernel_rfl) _ rfl⟩
theorem oSs : Opens Try.prog 48 (ShpA 1 (fun l : List Sc => [.list 2 (l.map eS)])) := opensA_slice Try.underlying48 (by decide) (by kernel_rfl) oS
theorem oB : Opens Try.prog 123 (ShpA 3 eB) := by
  intro H enc w fuel cs d ps h hf
  obtain ⟨x0, T0, u0⟩ := upto_cons Try.underlying123 h hf upto_nil (i := 0) (ft := 3) rfl (k := 1) (by kernel_rfl) oI
  obtain ⟨x1, T1, u1⟩ := upto_cons Try.underlying123 h hf u0 (i := 1) (ft := 3) rfl (k := 1) (by kernel_rfl) oI
  obtain ⟨x2, T2, u2⟩ := upto_cons Try.underlying123 h hf u1 (i := 2) (ft := 3) rfl (k := 1) (by kernel_rfl) oI
  exact ⟨⟨x0, x1, x2⟩, _, upto_end Try.underlying123 h hf u2 (by kernel_rfl) _ rfl⟩
theorem oBs : Opens Try.prog 47 (ShpA 1 (fun l : List Br => [.list 3 (l.map eB)])) := opensA_slice Try.underlying47 (by decide) (by kernel_rfl) oB
theorem opens_claim : Opens Try.prog 50 (ShpA 18 eC) := by
  intro H enc w fuel cs d ps h hf
  obtain ⟨x0, T0, u0⟩ := upto_cons Try.underlying50 h hf upto_nil (i := 0) (ft := 3) rfl (k := 1) (by kernel_rfl) oI
  obtain ⟨x1, T1, u1⟩ := upto_cons Try.underlying50 h hf u0 (i := 1) (ft := 45) rfl (k := 6) (by kernel_rfl) oR
  obtain ⟨x2, T2, u2⟩ := upto_cons Try.underlying50 h hf u1 (i := 2) (ft := 45) rfl (k := 6) (by kernel_rfl) oR
  obtain ⟨x3, T3, u3⟩ := upto_cons Try.underlying50 h hf u2 (i := 3) (ft := 46) rfl (k := 1) (by kernel_rfl) oRs
  obtain ⟨x4, T4, u4⟩ := upto_cons Try.underlying50 h hf u3 (i := 4) (ft := 43) rfl (k := 1) (by kernel_rfl) oMs
  obtain ⟨x5, T5, u5⟩ := upto_cons Try.underlying50 h hf u4 (i := 5) (ft := 47) rfl (k := 1) (by kernel_rfl) oBs
  obtain ⟨x6, T6, u6⟩ := upto_cons Try.underlying50 h hf u5 (i := 6) (ft := 22) rfl (k := 1) (by kernel_rfl) oL
  obtain ⟨x7, T7, u7⟩ := upto_cons Try.underlying50 h hf u6 (i := 7) (ft := 48) rfl (k := 1) (by kernel_rfl) oSs
  exact ⟨⟨x0, x1, x2, x3, x4, x5, x6, x7⟩, _, upto_end Try.underlying50 h hf u7 (by kernel_rfl) _ rfl⟩
end Go.Proofs.Ytpngpgbmkkjjgaa

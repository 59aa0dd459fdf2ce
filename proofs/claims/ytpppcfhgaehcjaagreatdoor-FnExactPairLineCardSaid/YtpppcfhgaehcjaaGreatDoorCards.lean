/-
  DERIVED. GIVEN WITH THE SEED: THE CARDS: each row of YtpppcfhgaehcjaaGreatDoorRows.lean that lists a variable, with what it lists TIED to the program's text (the seventh form; the later family's looks); each row that meets fmt, with fmt's text TOLD by the authors' own Lean function (tested against real Go, not proved from fmt's source: count such statements apart). THE CARD IS WHAT COUNTS. Prove the row's statement (the work); the ties are given (YtpppcfhgaehcjaaGreatDoorTie.lean); close each card by the builder's one call (the guide's Derived/Test/ToyasCard.lean, 'card_holds'). Laid BY PROGRAM, IN A SANDBOX (cutbox-door.mjs). By AI agents, Wed Nov 11 2026. No macro, syntax, notation, axiom, sorry.
-/
import Derived.Test.YtpppcfhgaehcjaaGreatDoorRows
import GoSem.ClaimSeven
namespace Go.Proofs.YtpppcfhgaehcjaaGreatDoor
namespace Rows

/-- THE TIED CARD OF 'laws.FnExactRootLine'. -/
def fnExactRootLineCard : Claim7 := { stood := { row := fnExactRootLineRow, standIns := [], harness := (true, "4b2dca912eb09f653a20da10e8fc020e2841d5df3abea7e04e641ff105a0d5ad"), looks := false }, kinds := [], alts := [], laidByText := true, laidKinds := [.data, .data, .data], laidTests := true, laidLooks := .later }
def FnExactRootLineCardSaid : Prop := Claim7.holds Tryz.pinned (.plain (OpenSpec.ofChange fnExactRootLineSpec)) fnExactRootLineCard

/-- THE TIED CARD OF 'laws.FnExactPairLine'. -/
def fnExactPairLineCard : Claim7 := { stood := { row := fnExactPairLineRow, standIns := [], harness := (true, "4b2dca912eb09f653a20da10e8fc020e2841d5df3abea7e04e641ff105a0d5ad"), looks := false }, kinds := [], alts := [], laidByText := true, laidKinds := [.data, .data, .data], laidTests := true, laidLooks := .later }
def FnExactPairLineCardSaid : Prop := Claim7.holds Tryz.pinned (.plain (OpenSpec.ofChange fnExactPairLineSpec)) fnExactPairLineCard

/-- THE TIED CARD OF 'laws.FnExactFiltrationLine'. -/
def fnExactFiltrationLineCard : Claim7 := { stood := { row := fnExactFiltrationLineRow, standIns := [], harness := (true, "4b2dca912eb09f653a20da10e8fc020e2841d5df3abea7e04e641ff105a0d5ad"), looks := false }, kinds := [], alts := [], laidByText := true, laidKinds := [.data, .data, .data], laidTests := true, laidLooks := .later }
def FnExactFiltrationLineCardSaid : Prop := Claim7.holds Tryz.pinned (.plain (OpenSpec.ofChange fnExactFiltrationLineSpec)) fnExactFiltrationLineCard

/-- THE SECOND FORM's CARD OF 'laws.FnExactRootLine'. -/
def fnExactRootLineUptoCard : Claim7 := { stood := { row := fnExactRootLineUptoRow, standIns := [], harness := (true, "4b2dca912eb09f653a20da10e8fc020e2841d5df3abea7e04e641ff105a0d5ad"), looks := false }, kinds := [], alts := [], laidByText := true, laidKinds := [.data, .data, .data], laidTests := true, laidLooks := .later }
def FnExactRootLineUptoCardSaid : Prop := Claim7.holds Tryz.pinned (.plain (OpenSpec.upto fnExactRootLineSpec)) fnExactRootLineUptoCard

/-- THE SECOND FORM's CARD OF 'laws.FnExactPairLine'. -/
def fnExactPairLineUptoCard : Claim7 := { stood := { row := fnExactPairLineUptoRow, standIns := [], harness := (true, "4b2dca912eb09f653a20da10e8fc020e2841d5df3abea7e04e641ff105a0d5ad"), looks := false }, kinds := [], alts := [], laidByText := true, laidKinds := [.data, .data, .data], laidTests := true, laidLooks := .later }
def FnExactPairLineUptoCardSaid : Prop := Claim7.holds Tryz.pinned (.plain (OpenSpec.upto fnExactPairLineSpec)) fnExactPairLineUptoCard

/-- THE SECOND FORM's CARD OF 'laws.FnExactFiltrationLine'. -/
def fnExactFiltrationLineUptoCard : Claim7 := { stood := { row := fnExactFiltrationLineUptoRow, standIns := [], harness := (true, "4b2dca912eb09f653a20da10e8fc020e2841d5df3abea7e04e641ff105a0d5ad"), looks := false }, kinds := [], alts := [], laidByText := true, laidKinds := [.data, .data, .data], laidTests := true, laidLooks := .later }
def FnExactFiltrationLineUptoCardSaid : Prop := Claim7.holds Tryz.pinned (.plain (OpenSpec.upto fnExactFiltrationLineSpec)) fnExactFiltrationLineUptoCard
end Rows
end Go.Proofs.YtpppcfhgaehcjaaGreatDoor

/-
  DERIVED. GIVEN WITH THE SEED: THE CARDS: each row of YtdoejgaomlmgeaaGreatDoorRows.lean that lists a variable, with what it lists TIED to the program's text (the seventh form; the later family's looks); each row that meets fmt, with fmt's text TOLD by the authors' own Lean function (tested against real Go, not proved from fmt's source: count such statements apart). THE CARD IS WHAT COUNTS. Prove the row's statement (the work); the ties are given (YtdoejgaomlmgeaaGreatDoorTie.lean); close each card by the builder's one call (the guide's Derived/Test/ToyasCard.lean, 'card_holds'). Laid BY PROGRAM, IN A SANDBOX (cutbox-door.mjs). By AI agents, Wed Nov 11 2026. No macro, syntax, notation, axiom, sorry.
-/
import Derived.Test.YtdoejgaomlmgeaaGreatDoorRows
import GoSem.ClaimSeven
namespace Go.Proofs.YtdoejgaomlmgeaaGreatDoor
namespace Rows

/-- THE TIED CARD OF 'laws.FnExactFiltrationLine'. -/
def fnExactFiltrationLineCard : Claim7 := { stood := { row := fnExactFiltrationLineRow, standIns := [], harness := (true, "728e4077aa775261519bd827ef1f63967715bf7522e8a7a7d472435804905945"), looks := false }, kinds := [], alts := [], laidByText := true, laidKinds := [.data, .data, .data], laidTests := true, laidLooks := .later }
def FnExactFiltrationLineCardSaid : Prop := Claim7.holds Tryz.pinned (.plain (OpenSpec.ofChange fnExactFiltrationLineSpec)) fnExactFiltrationLineCard

/-- THE TIED CARD OF 'laws.FnExactRepLine'. -/
def fnExactRepLineCard : Claim7 := { stood := { row := fnExactRepLineRow, standIns := [], harness := (true, "728e4077aa775261519bd827ef1f63967715bf7522e8a7a7d472435804905945"), looks := false }, kinds := [], alts := [], laidByText := true, laidKinds := [.data, .data, .data], laidTests := true, laidLooks := .later }
def FnExactRepLineCardSaid : Prop := Claim7.holds Tryz.pinned (.plain (OpenSpec.ofChange fnExactRepLineSpec)) fnExactRepLineCard

/-- THE SECOND FORM's CARD OF 'laws.FnExactFiltrationLine'. -/
def fnExactFiltrationLineUptoCard : Claim7 := { stood := { row := fnExactFiltrationLineUptoRow, standIns := [], harness := (true, "728e4077aa775261519bd827ef1f63967715bf7522e8a7a7d472435804905945"), looks := false }, kinds := [], alts := [], laidByText := true, laidKinds := [.data, .data, .data], laidTests := true, laidLooks := .later }
def FnExactFiltrationLineUptoCardSaid : Prop := Claim7.holds Tryz.pinned (.plain (OpenSpec.upto fnExactFiltrationLineSpec)) fnExactFiltrationLineUptoCard

/-- THE SECOND FORM's CARD OF 'laws.FnExactRepLine'. -/
def fnExactRepLineUptoCard : Claim7 := { stood := { row := fnExactRepLineUptoRow, standIns := [], harness := (true, "728e4077aa775261519bd827ef1f63967715bf7522e8a7a7d472435804905945"), looks := false }, kinds := [], alts := [], laidByText := true, laidKinds := [.data, .data, .data], laidTests := true, laidLooks := .later }
def FnExactRepLineUptoCardSaid : Prop := Claim7.holds Tryz.pinned (.plain (OpenSpec.upto fnExactRepLineSpec)) fnExactRepLineUptoCard
end Rows
end Go.Proofs.YtdoejgaomlmgeaaGreatDoor

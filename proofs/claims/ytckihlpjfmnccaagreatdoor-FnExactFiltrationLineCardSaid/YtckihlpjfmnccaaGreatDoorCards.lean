/-
  DERIVED. GIVEN WITH THE SEED: THE CARDS: each row of YtckihlpjfmnccaaGreatDoorRows.lean that lists a variable, with what it lists TIED to the program's text (the seventh form; the later family's looks); each row that meets fmt, with fmt's text TOLD by the authors' own Lean function (tested against real Go, not proved from fmt's source: count such statements apart). THE CARD IS WHAT COUNTS. Prove the row's statement (the work); the ties are given (YtckihlpjfmnccaaGreatDoorTie.lean); close each card by the builder's one call (the guide's Derived/Test/ToyasCard.lean, 'card_holds'). Laid BY PROGRAM, IN A SANDBOX (cutbox-door.mjs). By AI agents, Wed Nov 11 2026. No macro, syntax, notation, axiom, sorry.
-/
import Derived.Test.YtckihlpjfmnccaaGreatDoorRows
import GoSem.ClaimSeven
namespace Go.Proofs.YtckihlpjfmnccaaGreatDoor
namespace Rows

/-- THE TIED CARD OF 'laws.FnExactFiltrationLine'. -/
def fnExactFiltrationLineCard : Claim7 := { stood := { row := fnExactFiltrationLineRow, standIns := [], harness := (true, "a179d7410f0d653d6eea0d415f7726f3e80f86129d2b6e98fe7d9cba2afda8c4"), looks := false }, kinds := [], alts := [], laidByText := true, laidKinds := [.data, .data, .data], laidTests := true, laidLooks := .later }
def FnExactFiltrationLineCardSaid : Prop := Claim7.holds Tryz.pinned (.plain (OpenSpec.ofChange fnExactFiltrationLineSpec)) fnExactFiltrationLineCard

/-- THE SECOND FORM's CARD OF 'laws.FnExactFiltrationLine'. -/
def fnExactFiltrationLineUptoCard : Claim7 := { stood := { row := fnExactFiltrationLineUptoRow, standIns := [], harness := (true, "a179d7410f0d653d6eea0d415f7726f3e80f86129d2b6e98fe7d9cba2afda8c4"), looks := false }, kinds := [], alts := [], laidByText := true, laidKinds := [.data, .data, .data], laidTests := true, laidLooks := .later }
def FnExactFiltrationLineUptoCardSaid : Prop := Claim7.holds Tryz.pinned (.plain (OpenSpec.upto fnExactFiltrationLineSpec)) fnExactFiltrationLineUptoCard
end Rows
end Go.Proofs.YtckihlpjfmnccaaGreatDoor

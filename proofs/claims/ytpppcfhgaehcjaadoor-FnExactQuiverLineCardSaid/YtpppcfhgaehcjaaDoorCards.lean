/-
  DERIVED. GIVEN WITH THE SEED: THE CARDS: each row of YtpppcfhgaehcjaaDoorRows.lean that lists a variable, with what it lists TIED to the program's text (the seventh form; the later family's looks); each row that meets fmt, with fmt's text TOLD by the authors' own Lean function (tested against real Go, not proved from fmt's source: count such statements apart). THE CARD IS WHAT COUNTS. Prove the row's statement (the work); the ties are given (YtpppcfhgaehcjaaDoorTie.lean); close each card by the builder's one call (the guide's Derived/Test/ToyasCard.lean, 'card_holds'). Laid BY PROGRAM, IN A SANDBOX (cutbox-door.mjs). By AI agents, Wed Nov 11 2026. No macro, syntax, notation, axiom, sorry.
-/
import Derived.Test.YtpppcfhgaehcjaaDoorRows
import GoSem.ClaimSeven
namespace Go.Proofs.YtpppcfhgaehcjaaDoor
namespace Rows

/-- THE TIED CARD OF 'laws.FnExactQuiverLine'. -/
def fnExactQuiverLineCard : Claim7 := { stood := { row := fnExactQuiverLineRow, standIns := [], harness := (true, "c3981ae08a9cb44bc238e4e3b2d47efee99b0dc344751429262c834180aab8ff"), looks := false }, kinds := [], alts := [], laidByText := true, laidKinds := [.data, .data, .data], laidTests := true, laidLooks := .later }
def FnExactQuiverLineCardSaid : Prop := Claim7.holds Tryd.pinned (.plain (OpenSpec.ofChange fnExactQuiverLineSpec)) fnExactQuiverLineCard

/-- THE SECOND FORM's CARD OF 'laws.FnExactQuiverLine'. -/
def fnExactQuiverLineUptoCard : Claim7 := { stood := { row := fnExactQuiverLineUptoRow, standIns := [], harness := (true, "c3981ae08a9cb44bc238e4e3b2d47efee99b0dc344751429262c834180aab8ff"), looks := false }, kinds := [], alts := [], laidByText := true, laidKinds := [.data, .data, .data], laidTests := true, laidLooks := .later }
def FnExactQuiverLineUptoCardSaid : Prop := Claim7.holds Tryd.pinned (.plain (OpenSpec.upto fnExactQuiverLineSpec)) fnExactQuiverLineUptoCard
end Rows
end Go.Proofs.YtpppcfhgaehcjaaDoor

/-
  DERIVED. GIVEN WITH THE SEED: THE CARDS: each row of YtilpfdokmlanjaaGreatDoorRows.lean that lists a variable, with what it lists TIED to the program's text (the seventh form; the later family's looks); each row that meets fmt, with fmt's text TOLD by the authors' own Lean function (tested against real Go, not proved from fmt's source: count such statements apart). THE CARD IS WHAT COUNTS. Prove the row's statement (the work); the ties are given (YtilpfdokmlanjaaGreatDoorTie.lean); close each card by the builder's one call (the guide's Derived/Test/ToyasCard.lean, 'card_holds'). Laid BY PROGRAM, IN A SANDBOX (cutbox-door.mjs). By AI agents, Wed Nov 11 2026. No macro, syntax, notation, axiom, sorry.
-/
import Derived.Test.YtilpfdokmlanjaaGreatDoorRows
import GoSem.ClaimSeven
namespace Go.Proofs.YtilpfdokmlanjaaGreatDoor
namespace Rows

/-- THE TIED CARD OF 'laws.FnExactFiltrationLine'. -/
def fnExactFiltrationLineCard : Claim7 := { stood := { row := fnExactFiltrationLineRow, standIns := [], harness := (true, "28cff82f5ceffea58d699bdc1d1a97a4a7e8208dc7a3ca01a95881f8a55eb308"), looks := false }, kinds := [], alts := [], laidByText := true, laidKinds := [.data, .data, .data], laidTests := true, laidLooks := .later }
def FnExactFiltrationLineCardSaid : Prop := Claim7.holds Tryz.pinned (.plain (OpenSpec.ofChange fnExactFiltrationLineSpec)) fnExactFiltrationLineCard

/-- THE TIED CARD OF 'laws.FnExactFormatClaim'. -/
def fnExactFormatClaimCard : Claim7 := { stood := { row := fnExactFormatClaimRow, standIns := [], harness := (true, "28cff82f5ceffea58d699bdc1d1a97a4a7e8208dc7a3ca01a95881f8a55eb308"), looks := false }, kinds := [], alts := [], laidByText := true, laidKinds := [.data, .data, .data], laidTests := true, laidLooks := .later }
def FnExactFormatClaimCardSaid : Prop := Claim7.holds Tryz.pinned (.plain (OpenSpec.ofChange fnExactFormatClaimSpec)) fnExactFormatClaimCard

/-- THE TIED CARD OF 'laws.FnExactRepLine'. -/
def fnExactRepLineCard : Claim7 := { stood := { row := fnExactRepLineRow, standIns := [], harness := (true, "28cff82f5ceffea58d699bdc1d1a97a4a7e8208dc7a3ca01a95881f8a55eb308"), looks := false }, kinds := [], alts := [], laidByText := true, laidKinds := [.data, .data, .data], laidTests := true, laidLooks := .later }
def FnExactRepLineCardSaid : Prop := Claim7.holds Tryz.pinned (.plain (OpenSpec.ofChange fnExactRepLineSpec)) fnExactRepLineCard

/-- THE TIED CARD OF 'laws.FnExactPartsLine'. -/
def fnExactPartsLineCard : Claim7 := { stood := { row := fnExactPartsLineRow, standIns := [], harness := (true, "28cff82f5ceffea58d699bdc1d1a97a4a7e8208dc7a3ca01a95881f8a55eb308"), looks := false }, kinds := [], alts := [], laidByText := true, laidKinds := [.data, .data, .data], laidTests := true, laidLooks := .later }
def FnExactPartsLineCardSaid : Prop := Claim7.holds Tryz.pinned (.plain (OpenSpec.ofChange fnExactPartsLineSpec)) fnExactPartsLineCard

/-- THE SECOND FORM's CARD OF 'laws.FnExactFiltrationLine'. -/
def fnExactFiltrationLineUptoCard : Claim7 := { stood := { row := fnExactFiltrationLineUptoRow, standIns := [], harness := (true, "28cff82f5ceffea58d699bdc1d1a97a4a7e8208dc7a3ca01a95881f8a55eb308"), looks := false }, kinds := [], alts := [], laidByText := true, laidKinds := [.data, .data, .data], laidTests := true, laidLooks := .later }
def FnExactFiltrationLineUptoCardSaid : Prop := Claim7.holds Tryz.pinned (.plain (OpenSpec.upto fnExactFiltrationLineSpec)) fnExactFiltrationLineUptoCard

/-- THE SECOND FORM's CARD OF 'laws.FnExactFormatClaim'. -/
def fnExactFormatClaimUptoCard : Claim7 := { stood := { row := fnExactFormatClaimUptoRow, standIns := [], harness := (true, "28cff82f5ceffea58d699bdc1d1a97a4a7e8208dc7a3ca01a95881f8a55eb308"), looks := false }, kinds := [], alts := [], laidByText := true, laidKinds := [.data, .data, .data], laidTests := true, laidLooks := .later }
def FnExactFormatClaimUptoCardSaid : Prop := Claim7.holds Tryz.pinned (.plain (OpenSpec.upto fnExactFormatClaimSpec)) fnExactFormatClaimUptoCard

/-- THE SECOND FORM's CARD OF 'laws.FnExactRepLine'. -/
def fnExactRepLineUptoCard : Claim7 := { stood := { row := fnExactRepLineUptoRow, standIns := [], harness := (true, "28cff82f5ceffea58d699bdc1d1a97a4a7e8208dc7a3ca01a95881f8a55eb308"), looks := false }, kinds := [], alts := [], laidByText := true, laidKinds := [.data, .data, .data], laidTests := true, laidLooks := .later }
def FnExactRepLineUptoCardSaid : Prop := Claim7.holds Tryz.pinned (.plain (OpenSpec.upto fnExactRepLineSpec)) fnExactRepLineUptoCard

/-- THE SECOND FORM's CARD OF 'laws.FnExactPartsLine'. -/
def fnExactPartsLineUptoCard : Claim7 := { stood := { row := fnExactPartsLineUptoRow, standIns := [], harness := (true, "28cff82f5ceffea58d699bdc1d1a97a4a7e8208dc7a3ca01a95881f8a55eb308"), looks := false }, kinds := [], alts := [], laidByText := true, laidKinds := [.data, .data, .data], laidTests := true, laidLooks := .later }
def FnExactPartsLineUptoCardSaid : Prop := Claim7.holds Tryz.pinned (.plain (OpenSpec.upto fnExactPartsLineSpec)) fnExactPartsLineUptoCard
end Rows
end Go.Proofs.YtilpfdokmlanjaaGreatDoor

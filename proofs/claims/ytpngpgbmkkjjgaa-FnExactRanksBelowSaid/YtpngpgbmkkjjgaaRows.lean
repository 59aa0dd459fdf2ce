/-
  No cell of these rows narrows 'for every input' (looked for: loops, veiled, ifaces, maps, wideKeys, modest, calm, conditions, laid).
  DERIVED. THE GIVEN ROWS OF THIS SEAT. 6 by the template 'for every input the law returns true; each argument reads behind the call as it read before'; 0 by the template 'total and deterministic' (their statements: YtpngpgbmkkjjgaaTotals.lean).
  GIVEN WITH THE SEED: the statements are not yours to turn. If you find one false, say at which input.
  Laid BY PROGRAM, IN A SANDBOX (cutbox-rows.mjs): the forced cells as the released guide's own fill.sh prints them over the translation aeeb37d1e335be0e… (all of the seat's roots in one cut). By AI agents, Wed Nov 11 2026. No macro, syntax, notation, axiom, sorry.
-/
import Derived.Test.YtpngpgbmkkjjgaaChecked
import GoSem.Claim
import GoSem.ClaimJoined
import GoSem.ClaimMapViews
import Derived.JoinedTies
import Derived.KernelRfl
namespace Go.Proofs.Ytpngpgbmkkjjgaa
/- THE CELL 'sum', in the pinned program and in every row, IS THE sha256 OF THE DUMP (.gsa) THAT YtpngpgbmkkjjgaaProg.lean LOADS. Nothing in Lean hashes anything: it is a label: what it is worth is what the hold of that sum in a sandbox is worth. -/
noncomputable def Try.pinned : Pinned := { name := "ytpngpgbmkkjjgaa", sum := "aeeb37d1e335be0eb2cfd0630c94036e5294b358f325de87ee3ac43dcd34239c", checked := Try.checked }
namespace Rows
def none {H : Type} : Left H := { results := [], args := [] }

/-- 'laws.FnExactCountReps': WHATEVER THE INPUT: true; the input reads as it did. -/
def fnExactCountRepsSpec : ChangeSpec := { name := "fnExactCountReps", fn := fun _ => fun
  | [d1, d2, d3] => { results := [.lit (.bool true)], args := [d1, d2, d3] }
  | _ => none }
def fnExactCountRepsRow : OpenClaim := { program := "ytpngpgbmkkjjgaa", sum := "aeeb37d1e335be0eb2cfd0630c94036e5294b358f325de87ee3ac43dcd34239c", func := "loop.example/g03404/laws.FnExactCountReps", spec := "fnExactCountReps", unfollowed := true, recurses := true, apart := false }
def FnExactCountRepsSaid : Prop := fnExactCountRepsRow.holds Try.pinned (OpenSpec.ofChange fnExactCountRepsSpec)

/-- ITS FALSE NEIGHBOUR: 'it returns false'. Refute it at one input. -/
def fnExactCountRepsWrong : ChangeSpec := { name := "fnExactCountReps", fn := fun _ => fun
  | [d1, d2, d3] => { results := [.lit (.bool false)], args := [d1, d2, d3] }
  | _ => none }
def FnExactCountRepsWrongFalsely : Prop := fnExactCountRepsRow.holds Try.pinned (OpenSpec.ofChange fnExactCountRepsWrong)

/-- 'laws.FnExactCountIntoGeneral': WHATEVER THE INPUT: true; the input reads as it did. -/
def fnExactCountIntoGeneralSpec : ChangeSpec := { name := "fnExactCountIntoGeneral", fn := fun _ => fun
  | [d1, d2, d3, d4] => { results := [.lit (.bool true)], args := [d1, d2, d3, d4] }
  | _ => none }
def fnExactCountIntoGeneralRow : OpenClaim := { program := "ytpngpgbmkkjjgaa", sum := "aeeb37d1e335be0eb2cfd0630c94036e5294b358f325de87ee3ac43dcd34239c", func := "loop.example/g03404/laws.FnExactCountIntoGeneral", spec := "fnExactCountIntoGeneral", unfollowed := true, recurses := true, apart := false }
def FnExactCountIntoGeneralSaid : Prop := fnExactCountIntoGeneralRow.holds Try.pinned (OpenSpec.ofChange fnExactCountIntoGeneralSpec)

/-- ITS FALSE NEIGHBOUR: 'it returns false'. Refute it at one input. -/
def fnExactCountIntoGeneralWrong : ChangeSpec := { name := "fnExactCountIntoGeneral", fn := fun _ => fun
  | [d1, d2, d3, d4] => { results := [.lit (.bool false)], args := [d1, d2, d3, d4] }
  | _ => none }
def FnExactCountIntoGeneralWrongFalsely : Prop := fnExactCountIntoGeneralRow.holds Try.pinned (OpenSpec.ofChange fnExactCountIntoGeneralWrong)

/-- 'laws.FnExactIsDistributive': WHATEVER THE INPUT: true; the input reads as it did. -/
def fnExactIsDistributiveSpec : ChangeSpec := { name := "fnExactIsDistributive", fn := fun _ => fun
  | [d1, d2, d3, d4] => { results := [.lit (.bool true)], args := [d1, d2, d3, d4] }
  | _ => none }
def fnExactIsDistributiveRow : OpenClaim := { program := "ytpngpgbmkkjjgaa", sum := "aeeb37d1e335be0eb2cfd0630c94036e5294b358f325de87ee3ac43dcd34239c", func := "loop.example/g03404/laws.FnExactIsDistributive", spec := "fnExactIsDistributive", unfollowed := true, recurses := true, apart := false }
def FnExactIsDistributiveSaid : Prop := fnExactIsDistributiveRow.holds Try.pinned (OpenSpec.ofChange fnExactIsDistributiveSpec)

/-- ITS FALSE NEIGHBOUR: 'it returns false'. Refute it at one input. -/
def fnExactIsDistributiveWrong : ChangeSpec := { name := "fnExactIsDistributive", fn := fun _ => fun
  | [d1, d2, d3, d4] => { results := [.lit (.bool false)], args := [d1, d2, d3, d4] }
  | _ => none }
def FnExactIsDistributiveWrongFalsely : Prop := fnExactIsDistributiveRow.holds Try.pinned (OpenSpec.ofChange fnExactIsDistributiveWrong)

/-- 'laws.FnExactEqualClaims': WHATEVER THE INPUT: true; the input reads as it did. -/
def fnExactEqualClaimsSpec : ChangeSpec := { name := "fnExactEqualClaims", fn := fun _ => fun
  | [d1, d2] => { results := [.lit (.bool true)], args := [d1, d2] }
  | _ => none }
def fnExactEqualClaimsRow : OpenClaim := { program := "ytpngpgbmkkjjgaa", sum := "aeeb37d1e335be0eb2cfd0630c94036e5294b358f325de87ee3ac43dcd34239c", func := "loop.example/g03404/laws.FnExactEqualClaims", spec := "fnExactEqualClaims", unfollowed := true, recurses := true, apart := false }
def FnExactEqualClaimsSaid : Prop := fnExactEqualClaimsRow.holds Try.pinned (OpenSpec.ofChange fnExactEqualClaimsSpec)

/-- ITS FALSE NEIGHBOUR: 'it returns false'. Refute it at one input. -/
def fnExactEqualClaimsWrong : ChangeSpec := { name := "fnExactEqualClaims", fn := fun _ => fun
  | [d1, d2] => { results := [.lit (.bool false)], args := [d1, d2] }
  | _ => none }
def FnExactEqualClaimsWrongFalsely : Prop := fnExactEqualClaimsRow.holds Try.pinned (OpenSpec.ofChange fnExactEqualClaimsWrong)

/-- 'laws.FnExactTripleNumbers': WHATEVER THE INPUT: true; the input reads as it did. -/
def fnExactTripleNumbersSpec : ChangeSpec := { name := "fnExactTripleNumbers", fn := fun _ => fun
  | [d1, d2, d3, d4] => { results := [.lit (.bool true)], args := [d1, d2, d3, d4] }
  | _ => none }
def fnExactTripleNumbersRow : OpenClaim := { program := "ytpngpgbmkkjjgaa", sum := "aeeb37d1e335be0eb2cfd0630c94036e5294b358f325de87ee3ac43dcd34239c", func := "loop.example/g03404/laws.FnExactTripleNumbers", spec := "fnExactTripleNumbers", unfollowed := true, recurses := true, apart := false }
def FnExactTripleNumbersSaid : Prop := fnExactTripleNumbersRow.holds Try.pinned (OpenSpec.ofChange fnExactTripleNumbersSpec)

/-- ITS FALSE NEIGHBOUR: 'it returns false'. Refute it at one input. -/
def fnExactTripleNumbersWrong : ChangeSpec := { name := "fnExactTripleNumbers", fn := fun _ => fun
  | [d1, d2, d3, d4] => { results := [.lit (.bool false)], args := [d1, d2, d3, d4] }
  | _ => none }
def FnExactTripleNumbersWrongFalsely : Prop := fnExactTripleNumbersRow.holds Try.pinned (OpenSpec.ofChange fnExactTripleNumbersWrong)

/-- 'laws.FnExactRanksBelow': WHATEVER THE INPUT: true; the input reads as it did. -/
def fnExactRanksBelowSpec : ChangeSpec := { name := "fnExactRanksBelow", fn := fun _ => fun
  | [d1, d2] => { results := [.lit (.bool true)], args := [d1, d2] }
  | _ => none }
def fnExactRanksBelowRow : OpenClaim := { program := "ytpngpgbmkkjjgaa", sum := "aeeb37d1e335be0eb2cfd0630c94036e5294b358f325de87ee3ac43dcd34239c", func := "loop.example/g03404/laws.FnExactRanksBelow", spec := "fnExactRanksBelow", unfollowed := true, recurses := true, apart := false }
def FnExactRanksBelowSaid : Prop := fnExactRanksBelowRow.holds Try.pinned (OpenSpec.ofChange fnExactRanksBelowSpec)

/-- ITS FALSE NEIGHBOUR: 'it returns false'. Refute it at one input. -/
def fnExactRanksBelowWrong : ChangeSpec := { name := "fnExactRanksBelow", fn := fun _ => fun
  | [d1, d2] => { results := [.lit (.bool false)], args := [d1, d2] }
  | _ => none }
def FnExactRanksBelowWrongFalsely : Prop := fnExactRanksBelowRow.holds Try.pinned (OpenSpec.ofChange fnExactRanksBelowWrong)

/- THE SECOND FORM. 'bulk': how many values and letters a reading holds, each counted each time it is reached (what is shared counts as often as it is met; a slice's spare places count too). A statement '..UptoSaid' is the law's where the arguments, and the package variables that the reading takes, are together of bulk at most 1048576: NARROWER than '..Said'. Prove '..Said' where nothing that the law and all that it calls make is longer than what came in: it says more and counts as full. Else prove '..UptoSaid'. A law counts once. -/
mutual
def uptoBulk {H : Type} : DataW H → Nat
  | .lit (.string bytes) => bytes.length + 1
  | .lit _ => 1
  | .nil => 1
  | .ptr d => uptoBulk d + 1
  | .slice elems spare => uptoBulkAll elems + uptoBulkAll spare + 1
  | .agg parts => uptoBulkAll parts + 1
  | .iface _ d => uptoBulk d + 1
  | .map entries => uptoBulkEntries entries + 1
  | .held _ => 1
def uptoBulkAll {H : Type} : List (DataW H) → Nat
  | [] => 0
  | d :: r => uptoBulk d + uptoBulkAll r
def uptoBulkEntries {H : Type} : List (Lit × DataW H) → Nat
  | [] => 0
  | x :: r => uptoBulkEntry x + uptoBulkEntries r
def uptoBulkEntry {H : Type} : Lit × DataW H → Nat
  | (.string bytes, d) => bytes.length + uptoBulk d + 1
  | (_, d) => uptoBulk d + 1
 end
def uptoSmall : (H : Type) → List (DataW H) → Bool := fun _ ds => decide (uptoBulkAll ds ≤ 1048576)
def OpenSpec.upto (s : _root_.Go.ChangeSpec) : _root_.Go.OpenSpec := { _root_.Go.OpenSpec.ofChange s with cond := some uptoSmall }

/-- 'laws.FnExactCountReps', WHERE WHAT IT READS IS OF BULK AT MOST 1048576: true; the input reads as it did. -/
def fnExactCountRepsUptoRow : OpenClaim := { program := "ytpngpgbmkkjjgaa", sum := "aeeb37d1e335be0eb2cfd0630c94036e5294b358f325de87ee3ac43dcd34239c", func := "loop.example/g03404/laws.FnExactCountReps", spec := "fnExactCountReps", unfollowed := true, recurses := true, apart := false, narrowed := true }
def FnExactCountRepsUptoSaid : Prop := fnExactCountRepsUptoRow.holds Try.pinned (OpenSpec.upto fnExactCountRepsSpec)

/-- 'laws.FnExactCountIntoGeneral', WHERE WHAT IT READS IS OF BULK AT MOST 1048576: true; the input reads as it did. -/
def fnExactCountIntoGeneralUptoRow : OpenClaim := { program := "ytpngpgbmkkjjgaa", sum := "aeeb37d1e335be0eb2cfd0630c94036e5294b358f325de87ee3ac43dcd34239c", func := "loop.example/g03404/laws.FnExactCountIntoGeneral", spec := "fnExactCountIntoGeneral", unfollowed := true, recurses := true, apart := false, narrowed := true }
def FnExactCountIntoGeneralUptoSaid : Prop := fnExactCountIntoGeneralUptoRow.holds Try.pinned (OpenSpec.upto fnExactCountIntoGeneralSpec)

/-- 'laws.FnExactIsDistributive', WHERE WHAT IT READS IS OF BULK AT MOST 1048576: true; the input reads as it did. -/
def fnExactIsDistributiveUptoRow : OpenClaim := { program := "ytpngpgbmkkjjgaa", sum := "aeeb37d1e335be0eb2cfd0630c94036e5294b358f325de87ee3ac43dcd34239c", func := "loop.example/g03404/laws.FnExactIsDistributive", spec := "fnExactIsDistributive", unfollowed := true, recurses := true, apart := false, narrowed := true }
def FnExactIsDistributiveUptoSaid : Prop := fnExactIsDistributiveUptoRow.holds Try.pinned (OpenSpec.upto fnExactIsDistributiveSpec)

/-- 'laws.FnExactEqualClaims', WHERE WHAT IT READS IS OF BULK AT MOST 1048576: true; the input reads as it did. -/
def fnExactEqualClaimsUptoRow : OpenClaim := { program := "ytpngpgbmkkjjgaa", sum := "aeeb37d1e335be0eb2cfd0630c94036e5294b358f325de87ee3ac43dcd34239c", func := "loop.example/g03404/laws.FnExactEqualClaims", spec := "fnExactEqualClaims", unfollowed := true, recurses := true, apart := false, narrowed := true }
def FnExactEqualClaimsUptoSaid : Prop := fnExactEqualClaimsUptoRow.holds Try.pinned (OpenSpec.upto fnExactEqualClaimsSpec)

/-- 'laws.FnExactTripleNumbers', WHERE WHAT IT READS IS OF BULK AT MOST 1048576: true; the input reads as it did. -/
def fnExactTripleNumbersUptoRow : OpenClaim := { program := "ytpngpgbmkkjjgaa", sum := "aeeb37d1e335be0eb2cfd0630c94036e5294b358f325de87ee3ac43dcd34239c", func := "loop.example/g03404/laws.FnExactTripleNumbers", spec := "fnExactTripleNumbers", unfollowed := true, recurses := true, apart := false, narrowed := true }
def FnExactTripleNumbersUptoSaid : Prop := fnExactTripleNumbersUptoRow.holds Try.pinned (OpenSpec.upto fnExactTripleNumbersSpec)

/-- 'laws.FnExactRanksBelow', WHERE WHAT IT READS IS OF BULK AT MOST 1048576: true; the input reads as it did. -/
def fnExactRanksBelowUptoRow : OpenClaim := { program := "ytpngpgbmkkjjgaa", sum := "aeeb37d1e335be0eb2cfd0630c94036e5294b358f325de87ee3ac43dcd34239c", func := "loop.example/g03404/laws.FnExactRanksBelow", spec := "fnExactRanksBelow", unfollowed := true, recurses := true, apart := false, narrowed := true }
def FnExactRanksBelowUptoSaid : Prop := fnExactRanksBelowUptoRow.holds Try.pinned (OpenSpec.upto fnExactRanksBelowSpec)

end Rows
end Go.Proofs.Ytpngpgbmkkjjgaa

/-
  No cell of these rows narrows 'for every input' (looked for: loops, veiled, ifaces, maps, wideKeys, modest, calm, conditions, laid).
  DERIVED. THE GIVEN ROWS OF THIS SEAT. 5 by the template 'for every input the law returns true; each argument reads behind the call as it read before'; 0 by the template 'total and deterministic' (their statements: YtjfcjkeghigipaaTotals.lean).
  GIVEN WITH THE SEED: the statements are not yours to turn. If you find one false, say at which input.
  Laid BY PROGRAM, IN A SANDBOX (cutbox-rows.mjs): the forced cells as the released guide's own fill.sh prints them over the translation 056aa9fd09595f49… (all of the seat's roots in one cut). By AI agents, Wed Nov 11 2026. No macro, syntax, notation, axiom, sorry.
-/
import Derived.Test.YtjfcjkeghigipaaChecked
import GoSem.Claim
import GoSem.ClaimJoined
import GoSem.ClaimMapViews
import Derived.JoinedTies
import Derived.KernelRfl
namespace Go.Proofs.Ytjfcjkeghigipaa
/- THE CELL 'sum', in the pinned program and in every row, IS THE sha256 OF THE DUMP (.gsa) THAT YtjfcjkeghigipaaProg.lean LOADS. Nothing in Lean hashes anything: it is a label: what it is worth is what the hold of that sum in a sandbox is worth. -/
noncomputable def Try.pinned : Pinned := { name := "ytjfcjkeghigipaa", sum := "056aa9fd09595f49be9b23da93077ce0625f78246300cf994d28655722389926", checked := Try.checked }
namespace Rows
def none {H : Type} : Left H := { results := [], args := [] }

/-- 'laws.FnExactOrbitDim': WHATEVER THE INPUT: true; the input reads as it did. -/
def fnExactOrbitDimSpec : ChangeSpec := { name := "fnExactOrbitDim", fn := fun _ => fun
  | [d] => { results := [.lit (.bool true)], args := [d] }
  | _ => none }
def fnExactOrbitDimRow : OpenClaim := { program := "ytjfcjkeghigipaa", sum := "056aa9fd09595f49be9b23da93077ce0625f78246300cf994d28655722389926", func := "loop.example/g03404/laws.FnExactOrbitDim", spec := "fnExactOrbitDim", unfollowed := true, recurses := true, apart := false }
def FnExactOrbitDimSaid : Prop := fnExactOrbitDimRow.holds Try.pinned (OpenSpec.ofChange fnExactOrbitDimSpec)

/-- ITS FALSE NEIGHBOUR: 'it returns false'. Refute it at one input. -/
def fnExactOrbitDimWrong : ChangeSpec := { name := "fnExactOrbitDim", fn := fun _ => fun
  | [d] => { results := [.lit (.bool false)], args := [d] }
  | _ => none }
def FnExactOrbitDimWrongFalsely : Prop := fnExactOrbitDimRow.holds Try.pinned (OpenSpec.ofChange fnExactOrbitDimWrong)

/-- 'laws.FnExactSubspacesOf': WHATEVER THE INPUT: true; the input reads as it did. -/
def fnExactSubspacesOfSpec : ChangeSpec := { name := "fnExactSubspacesOf", fn := fun _ => fun
  | [d] => { results := [.lit (.bool true)], args := [d] }
  | _ => none }
def fnExactSubspacesOfRow : OpenClaim := { program := "ytjfcjkeghigipaa", sum := "056aa9fd09595f49be9b23da93077ce0625f78246300cf994d28655722389926", func := "loop.example/g03404/laws.FnExactSubspacesOf", spec := "fnExactSubspacesOf", unfollowed := true, recurses := true, apart := false }
def FnExactSubspacesOfSaid : Prop := fnExactSubspacesOfRow.holds Try.pinned (OpenSpec.ofChange fnExactSubspacesOfSpec)

/-- ITS FALSE NEIGHBOUR: 'it returns false'. Refute it at one input. -/
def fnExactSubspacesOfWrong : ChangeSpec := { name := "fnExactSubspacesOf", fn := fun _ => fun
  | [d] => { results := [.lit (.bool false)], args := [d] }
  | _ => none }
def FnExactSubspacesOfWrongFalsely : Prop := fnExactSubspacesOfRow.holds Try.pinned (OpenSpec.ofChange fnExactSubspacesOfWrong)

/-- 'laws.FnExactHomsBelow': WHATEVER THE INPUT: true; the input reads as it did. -/
def fnExactHomsBelowSpec : ChangeSpec := { name := "fnExactHomsBelow", fn := fun _ => fun
  | [d1, d2, d3] => { results := [.lit (.bool true)], args := [d1, d2, d3] }
  | _ => none }
def fnExactHomsBelowRow : OpenClaim := { program := "ytjfcjkeghigipaa", sum := "056aa9fd09595f49be9b23da93077ce0625f78246300cf994d28655722389926", func := "loop.example/g03404/laws.FnExactHomsBelow", spec := "fnExactHomsBelow", unfollowed := true, recurses := true, apart := false }
def FnExactHomsBelowSaid : Prop := fnExactHomsBelowRow.holds Try.pinned (OpenSpec.ofChange fnExactHomsBelowSpec)

/-- ITS FALSE NEIGHBOUR: 'it returns false'. Refute it at one input. -/
def fnExactHomsBelowWrong : ChangeSpec := { name := "fnExactHomsBelow", fn := fun _ => fun
  | [d1, d2, d3] => { results := [.lit (.bool false)], args := [d1, d2, d3] }
  | _ => none }
def FnExactHomsBelowWrongFalsely : Prop := fnExactHomsBelowRow.holds Try.pinned (OpenSpec.ofChange fnExactHomsBelowWrong)

/-- 'laws.FnExactRepOfSubspaces': WHATEVER THE INPUT: true; the input reads as it did. -/
def fnExactRepOfSubspacesSpec : ChangeSpec := { name := "fnExactRepOfSubspaces", fn := fun _ => fun
  | [d1, d2, d3] => { results := [.lit (.bool true)], args := [d1, d2, d3] }
  | _ => none }
def fnExactRepOfSubspacesRow : OpenClaim := { program := "ytjfcjkeghigipaa", sum := "056aa9fd09595f49be9b23da93077ce0625f78246300cf994d28655722389926", func := "loop.example/g03404/laws.FnExactRepOfSubspaces", spec := "fnExactRepOfSubspaces", unfollowed := true, recurses := true, apart := false }
def FnExactRepOfSubspacesSaid : Prop := fnExactRepOfSubspacesRow.holds Try.pinned (OpenSpec.ofChange fnExactRepOfSubspacesSpec)

/-- ITS FALSE NEIGHBOUR: 'it returns false'. Refute it at one input. -/
def fnExactRepOfSubspacesWrong : ChangeSpec := { name := "fnExactRepOfSubspaces", fn := fun _ => fun
  | [d1, d2, d3] => { results := [.lit (.bool false)], args := [d1, d2, d3] }
  | _ => none }
def FnExactRepOfSubspacesWrongFalsely : Prop := fnExactRepOfSubspacesRow.holds Try.pinned (OpenSpec.ofChange fnExactRepOfSubspacesWrong)

/-- 'laws.FnExactClaimOfBars': WHATEVER THE INPUT: true; the input reads as it did. -/
def fnExactClaimOfBarsSpec : ChangeSpec := { name := "fnExactClaimOfBars", fn := fun _ => fun
  | [d] => { results := [.lit (.bool true)], args := [d] }
  | _ => none }
def fnExactClaimOfBarsRow : OpenClaim := { program := "ytjfcjkeghigipaa", sum := "056aa9fd09595f49be9b23da93077ce0625f78246300cf994d28655722389926", func := "loop.example/g03404/laws.FnExactClaimOfBars", spec := "fnExactClaimOfBars", unfollowed := true, recurses := true, apart := false }
def FnExactClaimOfBarsSaid : Prop := fnExactClaimOfBarsRow.holds Try.pinned (OpenSpec.ofChange fnExactClaimOfBarsSpec)

/-- ITS FALSE NEIGHBOUR: 'it returns false'. Refute it at one input. -/
def fnExactClaimOfBarsWrong : ChangeSpec := { name := "fnExactClaimOfBars", fn := fun _ => fun
  | [d] => { results := [.lit (.bool false)], args := [d] }
  | _ => none }
def FnExactClaimOfBarsWrongFalsely : Prop := fnExactClaimOfBarsRow.holds Try.pinned (OpenSpec.ofChange fnExactClaimOfBarsWrong)

/- THE SECOND FORM. 'bulk': how many values and letters a reading holds, each counted each time it is reached (what is shared counts as often as it is met; a slice's spare places count too). A statement '..UptoSaid' is the law's where the arguments, and the package variables that the reading takes, are together of bulk at most 1048576: NARROWER than '..Said'. Prove '..Said' where nothing that the law and all that it calls make is longer than what came in: it says more and counts as full. Else prove '..UptoSaid'. A law counts once. -/
mutual
def uptoBulk {H : Type} : DataW H → Nat
  | .lit (.string bytes) => bytes.length + 1
  | .lit _ => 1
  | .nil => 1
  | .ptr d => uptoBulk d + 1
  | .slice elems spare => uptoBulkAll elems + uptoBulkAll spare + 1
  | .agg parts => uptoBulkAll parts + 1
  | .iface _ d => uptoBulk d + 1
  | .map entries => uptoBulkEntries entries + 1
  | .held _ => 1
def uptoBulkAll {H : Type} : List (DataW H) → Nat
  | [] => 0
  | d :: r => uptoBulk d + uptoBulkAll r
def uptoBulkEntries {H : Type} : List (Lit × DataW H) → Nat
  | [] => 0
  | x :: r => uptoBulkEntry x + uptoBulkEntries r
def uptoBulkEntry {H : Type} : Lit × DataW H → Nat
  | (.string bytes, d) => bytes.length + uptoBulk d + 1
  | (_, d) => uptoBulk d + 1
 end
def uptoSmall : (H : Type) → List (DataW H) → Bool := fun _ ds => decide (uptoBulkAll ds ≤ 1048576)
def OpenSpec.upto (s : _root_.Go.ChangeSpec) : _root_.Go.OpenSpec := { _root_.Go.OpenSpec.ofChange s with cond := some uptoSmall }

/-- 'laws.FnExactOrbitDim', WHERE WHAT IT READS IS OF BULK AT MOST 1048576: true; the input reads as it did. -/
def fnExactOrbitDimUptoRow : OpenClaim := { program := "ytjfcjkeghigipaa", sum := "056aa9fd09595f49be9b23da93077ce0625f78246300cf994d28655722389926", func := "loop.example/g03404/laws.FnExactOrbitDim", spec := "fnExactOrbitDim", unfollowed := true, recurses := true, apart := false, narrowed := true }
def FnExactOrbitDimUptoSaid : Prop := fnExactOrbitDimUptoRow.holds Try.pinned (OpenSpec.upto fnExactOrbitDimSpec)

/-- 'laws.FnExactSubspacesOf', WHERE WHAT IT READS IS OF BULK AT MOST 1048576: true; the input reads as it did. -/
def fnExactSubspacesOfUptoRow : OpenClaim := { program := "ytjfcjkeghigipaa", sum := "056aa9fd09595f49be9b23da93077ce0625f78246300cf994d28655722389926", func := "loop.example/g03404/laws.FnExactSubspacesOf", spec := "fnExactSubspacesOf", unfollowed := true, recurses := true, apart := false, narrowed := true }
def FnExactSubspacesOfUptoSaid : Prop := fnExactSubspacesOfUptoRow.holds Try.pinned (OpenSpec.upto fnExactSubspacesOfSpec)

/-- 'laws.FnExactHomsBelow', WHERE WHAT IT READS IS OF BULK AT MOST 1048576: true; the input reads as it did. -/
def fnExactHomsBelowUptoRow : OpenClaim := { program := "ytjfcjkeghigipaa", sum := "056aa9fd09595f49be9b23da93077ce0625f78246300cf994d28655722389926", func := "loop.example/g03404/laws.FnExactHomsBelow", spec := "fnExactHomsBelow", unfollowed := true, recurses := true, apart := false, narrowed := true }
def FnExactHomsBelowUptoSaid : Prop := fnExactHomsBelowUptoRow.holds Try.pinned (OpenSpec.upto fnExactHomsBelowSpec)

/-- 'laws.FnExactRepOfSubspaces', WHERE WHAT IT READS IS OF BULK AT MOST 1048576: true; the input reads as it did. -/
def fnExactRepOfSubspacesUptoRow : OpenClaim := { program := "ytjfcjkeghigipaa", sum := "056aa9fd09595f49be9b23da93077ce0625f78246300cf994d28655722389926", func := "loop.example/g03404/laws.FnExactRepOfSubspaces", spec := "fnExactRepOfSubspaces", unfollowed := true, recurses := true, apart := false, narrowed := true }
def FnExactRepOfSubspacesUptoSaid : Prop := fnExactRepOfSubspacesUptoRow.holds Try.pinned (OpenSpec.upto fnExactRepOfSubspacesSpec)

/-- 'laws.FnExactClaimOfBars', WHERE WHAT IT READS IS OF BULK AT MOST 1048576: true; the input reads as it did. -/
def fnExactClaimOfBarsUptoRow : OpenClaim := { program := "ytjfcjkeghigipaa", sum := "056aa9fd09595f49be9b23da93077ce0625f78246300cf994d28655722389926", func := "loop.example/g03404/laws.FnExactClaimOfBars", spec := "fnExactClaimOfBars", unfollowed := true, recurses := true, apart := false, narrowed := true }
def FnExactClaimOfBarsUptoSaid : Prop := fnExactClaimOfBarsUptoRow.holds Try.pinned (OpenSpec.upto fnExactClaimOfBarsSpec)

end Rows
end Go.Proofs.Ytjfcjkeghigipaa

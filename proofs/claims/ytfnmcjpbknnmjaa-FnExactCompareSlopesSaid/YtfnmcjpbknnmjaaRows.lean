/-
  No cell of these rows narrows 'for every input' (looked for: loops, veiled, ifaces, maps, wideKeys, modest, calm, conditions, laid).
  DERIVED. THE GIVEN ROWS OF THIS SEAT. 4 by the template 'for every input the law returns true; each argument reads behind the call as it read before'; 0 by the template 'total and deterministic' (their statements: YtfnmcjpbknnmjaaTotals.lean).
  GIVEN WITH THE SEED: the statements are not yours to turn. If you find one false, say at which input.
  Laid BY PROGRAM, IN A SANDBOX (cutbox-rows.mjs): the forced cells as the released guide's own fill.sh prints them over the translation 6ec3e76882d64563… (all of the seat's roots in one cut). By AI agents, Wed Nov 11 2026. No macro, syntax, notation, axiom, sorry.
-/
import Derived.Test.YtfnmcjpbknnmjaaChecked
import GoSem.Claim
import GoSem.ClaimJoined
import GoSem.ClaimMapViews
import Derived.JoinedTies
import Derived.KernelRfl
namespace Go.Proofs.Ytfnmcjpbknnmjaa
/- THE CELL 'sum', in the pinned program and in every row, IS THE sha256 OF THE DUMP (.gsa) THAT YtfnmcjpbknnmjaaProg.lean LOADS. Nothing in Lean hashes anything: it is a label: what it is worth is what the hold of that sum in a sandbox is worth. -/
noncomputable def Try.pinned : Pinned := { name := "ytfnmcjpbknnmjaa", sum := "6ec3e76882d64563149c086bfb869c288eebaa1fe5a1eaf82156a5e14804fde6", checked := Try.checked }
namespace Rows
def none {H : Type} : Left H := { results := [], args := [] }

/-- 'laws.FnExactClaimWord': WHATEVER THE INPUT: true; the input reads as it did. -/
def fnExactClaimWordSpec : ChangeSpec := { name := "fnExactClaimWord", fn := fun _ => fun
  | [d] => { results := [.lit (.bool true)], args := [d] }
  | _ => none }
def fnExactClaimWordRow : OpenClaim := { program := "ytfnmcjpbknnmjaa", sum := "6ec3e76882d64563149c086bfb869c288eebaa1fe5a1eaf82156a5e14804fde6", func := "loop.example/g03404/laws.FnExactClaimWord", spec := "fnExactClaimWord", apart := false }
def FnExactClaimWordSaid : Prop := fnExactClaimWordRow.holds Try.pinned (OpenSpec.ofChange fnExactClaimWordSpec)

/-- ITS FALSE NEIGHBOUR: 'it returns false'. Refute it at one input. -/
def fnExactClaimWordWrong : ChangeSpec := { name := "fnExactClaimWord", fn := fun _ => fun
  | [d] => { results := [.lit (.bool false)], args := [d] }
  | _ => none }
def FnExactClaimWordWrongFalsely : Prop := fnExactClaimWordRow.holds Try.pinned (OpenSpec.ofChange fnExactClaimWordWrong)

/-- 'laws.FnExactThetaOf': WHATEVER THE INPUT: true; the input reads as it did. -/
def fnExactThetaOfSpec : ChangeSpec := { name := "fnExactThetaOf", fn := fun _ => fun
  | [d1, d2] => { results := [.lit (.bool true)], args := [d1, d2] }
  | _ => none }
def fnExactThetaOfRow : OpenClaim := { program := "ytfnmcjpbknnmjaa", sum := "6ec3e76882d64563149c086bfb869c288eebaa1fe5a1eaf82156a5e14804fde6", func := "loop.example/g03404/laws.FnExactThetaOf", spec := "fnExactThetaOf", unfollowed := true, recurses := true, apart := false }
def FnExactThetaOfSaid : Prop := fnExactThetaOfRow.holds Try.pinned (OpenSpec.ofChange fnExactThetaOfSpec)

/-- ITS FALSE NEIGHBOUR: 'it returns false'. Refute it at one input. -/
def fnExactThetaOfWrong : ChangeSpec := { name := "fnExactThetaOf", fn := fun _ => fun
  | [d1, d2] => { results := [.lit (.bool false)], args := [d1, d2] }
  | _ => none }
def FnExactThetaOfWrongFalsely : Prop := fnExactThetaOfRow.holds Try.pinned (OpenSpec.ofChange fnExactThetaOfWrong)

/-- 'laws.FnExactStarOf': WHATEVER THE INPUT: true; the input reads as it did. -/
def fnExactStarOfSpec : ChangeSpec := { name := "fnExactStarOf", fn := fun _ => fun
  | [d] => { results := [.lit (.bool true)], args := [d] }
  | _ => none }
def fnExactStarOfRow : OpenClaim := { program := "ytfnmcjpbknnmjaa", sum := "6ec3e76882d64563149c086bfb869c288eebaa1fe5a1eaf82156a5e14804fde6", func := "loop.example/g03404/laws.FnExactStarOf", spec := "fnExactStarOf", apart := false }
def FnExactStarOfSaid : Prop := fnExactStarOfRow.holds Try.pinned (OpenSpec.ofChange fnExactStarOfSpec)

/-- ITS FALSE NEIGHBOUR: 'it returns false'. Refute it at one input. -/
def fnExactStarOfWrong : ChangeSpec := { name := "fnExactStarOf", fn := fun _ => fun
  | [d] => { results := [.lit (.bool false)], args := [d] }
  | _ => none }
def FnExactStarOfWrongFalsely : Prop := fnExactStarOfRow.holds Try.pinned (OpenSpec.ofChange fnExactStarOfWrong)

/-- 'laws.FnExactCompareSlopes': WHATEVER THE INPUT: true; the input reads as it did. -/
def fnExactCompareSlopesSpec : ChangeSpec := { name := "fnExactCompareSlopes", fn := fun _ => fun
  | [d1, d2, d3] => { results := [.lit (.bool true)], args := [d1, d2, d3] }
  | _ => none }
def fnExactCompareSlopesRow : OpenClaim := { program := "ytfnmcjpbknnmjaa", sum := "6ec3e76882d64563149c086bfb869c288eebaa1fe5a1eaf82156a5e14804fde6", func := "loop.example/g03404/laws.FnExactCompareSlopes", spec := "fnExactCompareSlopes", unfollowed := true, recurses := true, apart := false }
def FnExactCompareSlopesSaid : Prop := fnExactCompareSlopesRow.holds Try.pinned (OpenSpec.ofChange fnExactCompareSlopesSpec)

/-- ITS FALSE NEIGHBOUR: 'it returns false'. Refute it at one input. -/
def fnExactCompareSlopesWrong : ChangeSpec := { name := "fnExactCompareSlopes", fn := fun _ => fun
  | [d1, d2, d3] => { results := [.lit (.bool false)], args := [d1, d2, d3] }
  | _ => none }
def FnExactCompareSlopesWrongFalsely : Prop := fnExactCompareSlopesRow.holds Try.pinned (OpenSpec.ofChange fnExactCompareSlopesWrong)

/- THE SECOND FORM. 'bulk': how many values and letters a reading holds, each counted each time it is reached (what is shared counts as often as it is met; a slice's spare places count too). A statement '..UptoSaid' is the law's where the arguments, and the package variables that the reading takes, are together of bulk at most 1048576: NARROWER than '..Said'. Prove '..Said' where nothing that the law and all that it calls make is longer than what came in: it says more and counts as full. Else prove '..UptoSaid'. A law counts once. -/
mutual
def uptoBulk {H : Type} : DataW H → Nat
  | .lit (.string bytes) => bytes.length + 1
  | .lit _ => 1
  | .nil => 1
  | .ptr d => uptoBulk d + 1
  | .slice elems spare => uptoBulkAll elems + uptoBulkAll spare + 1
  | .agg parts => uptoBulkAll parts + 1
  | .iface _ d => uptoBulk d + 1
  | .map entries => uptoBulkEntries entries + 1
  | .held _ => 1
def uptoBulkAll {H : Type} : List (DataW H) → Nat
  | [] => 0
  | d :: r => uptoBulk d + uptoBulkAll r
def uptoBulkEntries {H : Type} : List (Lit × DataW H) → Nat
  | [] => 0
  | x :: r => uptoBulkEntry x + uptoBulkEntries r
def uptoBulkEntry {H : Type} : Lit × DataW H → Nat
  | (.string bytes, d) => bytes.length + uptoBulk d + 1
  | (_, d) => uptoBulk d + 1
 end
def uptoSmall : (H : Type) → List (DataW H) → Bool := fun _ ds => decide (uptoBulkAll ds ≤ 1048576)
def OpenSpec.upto (s : _root_.Go.ChangeSpec) : _root_.Go.OpenSpec := { _root_.Go.OpenSpec.ofChange s with cond := some uptoSmall }

/-- 'laws.FnExactClaimWord', WHERE WHAT IT READS IS OF BULK AT MOST 1048576: true; the input reads as it did. -/
def fnExactClaimWordUptoRow : OpenClaim := { program := "ytfnmcjpbknnmjaa", sum := "6ec3e76882d64563149c086bfb869c288eebaa1fe5a1eaf82156a5e14804fde6", func := "loop.example/g03404/laws.FnExactClaimWord", spec := "fnExactClaimWord", apart := false, narrowed := true }
def FnExactClaimWordUptoSaid : Prop := fnExactClaimWordUptoRow.holds Try.pinned (OpenSpec.upto fnExactClaimWordSpec)

/-- 'laws.FnExactThetaOf', WHERE WHAT IT READS IS OF BULK AT MOST 1048576: true; the input reads as it did. -/
def fnExactThetaOfUptoRow : OpenClaim := { program := "ytfnmcjpbknnmjaa", sum := "6ec3e76882d64563149c086bfb869c288eebaa1fe5a1eaf82156a5e14804fde6", func := "loop.example/g03404/laws.FnExactThetaOf", spec := "fnExactThetaOf", unfollowed := true, recurses := true, apart := false, narrowed := true }
def FnExactThetaOfUptoSaid : Prop := fnExactThetaOfUptoRow.holds Try.pinned (OpenSpec.upto fnExactThetaOfSpec)

/-- 'laws.FnExactStarOf', WHERE WHAT IT READS IS OF BULK AT MOST 1048576: true; the input reads as it did. -/
def fnExactStarOfUptoRow : OpenClaim := { program := "ytfnmcjpbknnmjaa", sum := "6ec3e76882d64563149c086bfb869c288eebaa1fe5a1eaf82156a5e14804fde6", func := "loop.example/g03404/laws.FnExactStarOf", spec := "fnExactStarOf", apart := false, narrowed := true }
def FnExactStarOfUptoSaid : Prop := fnExactStarOfUptoRow.holds Try.pinned (OpenSpec.upto fnExactStarOfSpec)

/-- 'laws.FnExactCompareSlopes', WHERE WHAT IT READS IS OF BULK AT MOST 1048576: true; the input reads as it did. -/
def fnExactCompareSlopesUptoRow : OpenClaim := { program := "ytfnmcjpbknnmjaa", sum := "6ec3e76882d64563149c086bfb869c288eebaa1fe5a1eaf82156a5e14804fde6", func := "loop.example/g03404/laws.FnExactCompareSlopes", spec := "fnExactCompareSlopes", unfollowed := true, recurses := true, apart := false, narrowed := true }
def FnExactCompareSlopesUptoSaid : Prop := fnExactCompareSlopesUptoRow.holds Try.pinned (OpenSpec.upto fnExactCompareSlopesSpec)

end Rows
end Go.Proofs.Ytfnmcjpbknnmjaa

/-
  No cell of these rows narrows 'for every input' (looked for: loops, veiled, ifaces, maps, wideKeys, modest, calm, conditions, laid).
  DERIVED. THE GIVEN ROWS OF THIS SEAT. 8 by the template 'for every input the law returns true; each argument reads behind the call as it read before'; 0 by the template 'total and deterministic' (their statements: YtihbegpgoekbdaaTotals.lean).
  GIVEN WITH THE SEED: the statements are not yours to turn. If you find one false, say at which input.
  Laid BY PROGRAM, IN A SANDBOX (cutbox-rows.mjs): the forced cells as the released guide's own fill.sh prints them over the translation 4ac194990b7af1cb… (all of the seat's roots in one cut). By AI agents, Wed Nov 11 2026. No macro, syntax, notation, axiom, sorry.
-/
import Derived.Test.YtihbegpgoekbdaaChecked
import GoSem.Claim
import GoSem.ClaimJoined
import GoSem.ClaimMapViews
import Derived.JoinedTies
import Derived.KernelRfl
namespace Go.Proofs.Ytihbegpgoekbdaa
/- THE CELL 'sum', in the pinned program and in every row, IS THE sha256 OF THE DUMP (.gsa) THAT YtihbegpgoekbdaaProg.lean LOADS. Nothing in Lean hashes anything: it is a label: what it is worth is what the hold of that sum in a sandbox is worth. -/
noncomputable def Try.pinned : Pinned := { name := "ytihbegpgoekbdaa", sum := "4ac194990b7af1cb99ae52ddb0129ec82b1052d29782d7bb94acda62ebf8b821", checked := Try.checked }
namespace Rows
def none {H : Type} : Left H := { results := [], args := [] }

/-- 'laws.FnExactRootExt': WHATEVER THE INPUT: true; the input reads as it did. -/
def fnExactRootExtSpec : ChangeSpec := { name := "fnExactRootExt", fn := fun _ => fun
  | [d1, d2, d3] => { results := [.lit (.bool true)], args := [d1, d2, d3] }
  | _ => none }
def fnExactRootExtRow : OpenClaim := { program := "ytihbegpgoekbdaa", sum := "4ac194990b7af1cb99ae52ddb0129ec82b1052d29782d7bb94acda62ebf8b821", func := "loop.example/g03404/laws.FnExactRootExt", spec := "fnExactRootExt", unfollowed := true, recurses := true, apart := false }
def FnExactRootExtSaid : Prop := fnExactRootExtRow.holds Try.pinned (OpenSpec.ofChange fnExactRootExtSpec)

/-- ITS FALSE NEIGHBOUR: 'it returns false'. Refute it at one input. -/
def fnExactRootExtWrong : ChangeSpec := { name := "fnExactRootExt", fn := fun _ => fun
  | [d1, d2, d3] => { results := [.lit (.bool false)], args := [d1, d2, d3] }
  | _ => none }
def FnExactRootExtWrongFalsely : Prop := fnExactRootExtRow.holds Try.pinned (OpenSpec.ofChange fnExactRootExtWrong)

/-- 'laws.FnExactRootHom': WHATEVER THE INPUT: true; the input reads as it did. -/
def fnExactRootHomSpec : ChangeSpec := { name := "fnExactRootHom", fn := fun _ => fun
  | [d1, d2, d3] => { results := [.lit (.bool true)], args := [d1, d2, d3] }
  | _ => none }
def fnExactRootHomRow : OpenClaim := { program := "ytihbegpgoekbdaa", sum := "4ac194990b7af1cb99ae52ddb0129ec82b1052d29782d7bb94acda62ebf8b821", func := "loop.example/g03404/laws.FnExactRootHom", spec := "fnExactRootHom", unfollowed := true, recurses := true, apart := false }
def FnExactRootHomSaid : Prop := fnExactRootHomRow.holds Try.pinned (OpenSpec.ofChange fnExactRootHomSpec)

/-- ITS FALSE NEIGHBOUR: 'it returns false'. Refute it at one input. -/
def fnExactRootHomWrong : ChangeSpec := { name := "fnExactRootHom", fn := fun _ => fun
  | [d1, d2, d3] => { results := [.lit (.bool false)], args := [d1, d2, d3] }
  | _ => none }
def FnExactRootHomWrongFalsely : Prop := fnExactRootHomRow.holds Try.pinned (OpenSpec.ofChange fnExactRootHomWrong)

/-- 'laws.FnExactAreCompatible': WHATEVER THE INPUT: true; the input reads as it did. -/
def fnExactAreCompatibleSpec : ChangeSpec := { name := "fnExactAreCompatible", fn := fun _ => fun
  | [d1, d2, d3] => { results := [.lit (.bool true)], args := [d1, d2, d3] }
  | _ => none }
def fnExactAreCompatibleRow : OpenClaim := { program := "ytihbegpgoekbdaa", sum := "4ac194990b7af1cb99ae52ddb0129ec82b1052d29782d7bb94acda62ebf8b821", func := "loop.example/g03404/laws.FnExactAreCompatible", spec := "fnExactAreCompatible", unfollowed := true, recurses := true, apart := false }
def FnExactAreCompatibleSaid : Prop := fnExactAreCompatibleRow.holds Try.pinned (OpenSpec.ofChange fnExactAreCompatibleSpec)

/-- ITS FALSE NEIGHBOUR: 'it returns false'. Refute it at one input. -/
def fnExactAreCompatibleWrong : ChangeSpec := { name := "fnExactAreCompatible", fn := fun _ => fun
  | [d1, d2, d3] => { results := [.lit (.bool false)], args := [d1, d2, d3] }
  | _ => none }
def FnExactAreCompatibleWrongFalsely : Prop := fnExactAreCompatibleRow.holds Try.pinned (OpenSpec.ofChange fnExactAreCompatibleWrong)

/-- 'laws.FnExactCountTilting': WHATEVER THE INPUT: true; the input reads as it did. -/
def fnExactCountTiltingSpec : ChangeSpec := { name := "fnExactCountTilting", fn := fun _ => fun
  | [d] => { results := [.lit (.bool true)], args := [d] }
  | _ => none }
def fnExactCountTiltingRow : OpenClaim := { program := "ytihbegpgoekbdaa", sum := "4ac194990b7af1cb99ae52ddb0129ec82b1052d29782d7bb94acda62ebf8b821", func := "loop.example/g03404/laws.FnExactCountTilting", spec := "fnExactCountTilting", unfollowed := true, recurses := true, apart := false }
def FnExactCountTiltingSaid : Prop := fnExactCountTiltingRow.holds Try.pinned (OpenSpec.ofChange fnExactCountTiltingSpec)

/-- ITS FALSE NEIGHBOUR: 'it returns false'. Refute it at one input. -/
def fnExactCountTiltingWrong : ChangeSpec := { name := "fnExactCountTilting", fn := fun _ => fun
  | [d] => { results := [.lit (.bool false)], args := [d] }
  | _ => none }
def FnExactCountTiltingWrongFalsely : Prop := fnExactCountTiltingRow.holds Try.pinned (OpenSpec.ofChange fnExactCountTiltingWrong)

/-- 'laws.FnExactTiltingSets': WHATEVER THE INPUT: true; the input reads as it did. -/
def fnExactTiltingSetsSpec : ChangeSpec := { name := "fnExactTiltingSets", fn := fun _ => fun
  | [d] => { results := [.lit (.bool true)], args := [d] }
  | _ => none }
def fnExactTiltingSetsRow : OpenClaim := { program := "ytihbegpgoekbdaa", sum := "4ac194990b7af1cb99ae52ddb0129ec82b1052d29782d7bb94acda62ebf8b821", func := "loop.example/g03404/laws.FnExactTiltingSets", spec := "fnExactTiltingSets", unfollowed := true, recurses := true, apart := false }
def FnExactTiltingSetsSaid : Prop := fnExactTiltingSetsRow.holds Try.pinned (OpenSpec.ofChange fnExactTiltingSetsSpec)

/-- ITS FALSE NEIGHBOUR: 'it returns false'. Refute it at one input. -/
def fnExactTiltingSetsWrong : ChangeSpec := { name := "fnExactTiltingSets", fn := fun _ => fun
  | [d] => { results := [.lit (.bool false)], args := [d] }
  | _ => none }
def FnExactTiltingSetsWrongFalsely : Prop := fnExactTiltingSetsRow.holds Try.pinned (OpenSpec.ofChange fnExactTiltingSetsWrong)

/-- 'laws.FnExactIsTilting': WHATEVER THE INPUT: true; the input reads as it did. -/
def fnExactIsTiltingSpec : ChangeSpec := { name := "fnExactIsTilting", fn := fun _ => fun
  | [d1, d2] => { results := [.lit (.bool true)], args := [d1, d2] }
  | _ => none }
def fnExactIsTiltingRow : OpenClaim := { program := "ytihbegpgoekbdaa", sum := "4ac194990b7af1cb99ae52ddb0129ec82b1052d29782d7bb94acda62ebf8b821", func := "loop.example/g03404/laws.FnExactIsTilting", spec := "fnExactIsTilting", unfollowed := true, recurses := true, apart := false }
def FnExactIsTiltingSaid : Prop := fnExactIsTiltingRow.holds Try.pinned (OpenSpec.ofChange fnExactIsTiltingSpec)

/-- ITS FALSE NEIGHBOUR: 'it returns false'. Refute it at one input. -/
def fnExactIsTiltingWrong : ChangeSpec := { name := "fnExactIsTilting", fn := fun _ => fun
  | [d1, d2] => { results := [.lit (.bool false)], args := [d1, d2] }
  | _ => none }
def FnExactIsTiltingWrongFalsely : Prop := fnExactIsTiltingRow.holds Try.pinned (OpenSpec.ofChange fnExactIsTiltingWrong)

/-- 'laws.FnExactKnitAll': WHATEVER THE INPUT: true; the input reads as it did. -/
def fnExactKnitAllSpec : ChangeSpec := { name := "fnExactKnitAll", fn := fun _ => fun
  | [d] => { results := [.lit (.bool true)], args := [d] }
  | _ => none }
def fnExactKnitAllRow : OpenClaim := { program := "ytihbegpgoekbdaa", sum := "4ac194990b7af1cb99ae52ddb0129ec82b1052d29782d7bb94acda62ebf8b821", func := "loop.example/g03404/laws.FnExactKnitAll", spec := "fnExactKnitAll", unfollowed := true, recurses := true, apart := false }
def FnExactKnitAllSaid : Prop := fnExactKnitAllRow.holds Try.pinned (OpenSpec.ofChange fnExactKnitAllSpec)

/-- ITS FALSE NEIGHBOUR: 'it returns false'. Refute it at one input. -/
def fnExactKnitAllWrong : ChangeSpec := { name := "fnExactKnitAll", fn := fun _ => fun
  | [d] => { results := [.lit (.bool false)], args := [d] }
  | _ => none }
def FnExactKnitAllWrongFalsely : Prop := fnExactKnitAllRow.holds Try.pinned (OpenSpec.ofChange fnExactKnitAllWrong)

/-- 'laws.FnExactGenericSum': WHATEVER THE INPUT: true; the input reads as it did. -/
def fnExactGenericSumSpec : ChangeSpec := { name := "fnExactGenericSum", fn := fun _ => fun
  | [d1, d2] => { results := [.lit (.bool true)], args := [d1, d2] }
  | _ => none }
def fnExactGenericSumRow : OpenClaim := { program := "ytihbegpgoekbdaa", sum := "4ac194990b7af1cb99ae52ddb0129ec82b1052d29782d7bb94acda62ebf8b821", func := "loop.example/g03404/laws.FnExactGenericSum", spec := "fnExactGenericSum", unfollowed := true, recurses := true, apart := false }
def FnExactGenericSumSaid : Prop := fnExactGenericSumRow.holds Try.pinned (OpenSpec.ofChange fnExactGenericSumSpec)

/-- ITS FALSE NEIGHBOUR: 'it returns false'. Refute it at one input. -/
def fnExactGenericSumWrong : ChangeSpec := { name := "fnExactGenericSum", fn := fun _ => fun
  | [d1, d2] => { results := [.lit (.bool false)], args := [d1, d2] }
  | _ => none }
def FnExactGenericSumWrongFalsely : Prop := fnExactGenericSumRow.holds Try.pinned (OpenSpec.ofChange fnExactGenericSumWrong)

/- THE SECOND FORM. 'bulk': how many values and letters a reading holds, each counted each time it is reached (what is shared counts as often as it is met; a slice's spare places count too). A statement '..UptoSaid' is the law's where the arguments, and the package variables that the reading takes, are together of bulk at most 1048576: NARROWER than '..Said'. Prove '..Said' where nothing that the law and all that it calls make is longer than what came in: it says more and counts as full. Else prove '..UptoSaid'. A law counts once. -/
mutual
def uptoBulk {H : Type} : DataW H → Nat
  | .lit (.string bytes) => bytes.length + 1
  | .lit _ => 1
  | .nil => 1
  | .ptr d => uptoBulk d + 1
  | .slice elems spare => uptoBulkAll elems + uptoBulkAll spare + 1
  | .agg parts => uptoBulkAll parts + 1
  | .iface _ d => uptoBulk d + 1
  | .map entries => uptoBulkEntries entries + 1
  | .held _ => 1
def uptoBulkAll {H : Type} : List (DataW H) → Nat
  | [] => 0
  | d :: r => uptoBulk d + uptoBulkAll r
def uptoBulkEntries {H : Type} : List (Lit × DataW H) → Nat
  | [] => 0
  | x :: r => uptoBulkEntry x + uptoBulkEntries r
def uptoBulkEntry {H : Type} : Lit × DataW H → Nat
  | (.string bytes, d) => bytes.length + uptoBulk d + 1
  | (_, d) => uptoBulk d + 1
 end
def uptoSmall : (H : Type) → List (DataW H) → Bool := fun _ ds => decide (uptoBulkAll ds ≤ 1048576)
def OpenSpec.upto (s : _root_.Go.ChangeSpec) : _root_.Go.OpenSpec := { _root_.Go.OpenSpec.ofChange s with cond := some uptoSmall }

/-- 'laws.FnExactRootExt', WHERE WHAT IT READS IS OF BULK AT MOST 1048576: true; the input reads as it did. -/
def fnExactRootExtUptoRow : OpenClaim := { program := "ytihbegpgoekbdaa", sum := "4ac194990b7af1cb99ae52ddb0129ec82b1052d29782d7bb94acda62ebf8b821", func := "loop.example/g03404/laws.FnExactRootExt", spec := "fnExactRootExt", unfollowed := true, recurses := true, apart := false, narrowed := true }
def FnExactRootExtUptoSaid : Prop := fnExactRootExtUptoRow.holds Try.pinned (OpenSpec.upto fnExactRootExtSpec)

/-- 'laws.FnExactRootHom', WHERE WHAT IT READS IS OF BULK AT MOST 1048576: true; the input reads as it did. -/
def fnExactRootHomUptoRow : OpenClaim := { program := "ytihbegpgoekbdaa", sum := "4ac194990b7af1cb99ae52ddb0129ec82b1052d29782d7bb94acda62ebf8b821", func := "loop.example/g03404/laws.FnExactRootHom", spec := "fnExactRootHom", unfollowed := true, recurses := true, apart := false, narrowed := true }
def FnExactRootHomUptoSaid : Prop := fnExactRootHomUptoRow.holds Try.pinned (OpenSpec.upto fnExactRootHomSpec)

/-- 'laws.FnExactAreCompatible', WHERE WHAT IT READS IS OF BULK AT MOST 1048576: true; the input reads as it did. -/
def fnExactAreCompatibleUptoRow : OpenClaim := { program := "ytihbegpgoekbdaa", sum := "4ac194990b7af1cb99ae52ddb0129ec82b1052d29782d7bb94acda62ebf8b821", func := "loop.example/g03404/laws.FnExactAreCompatible", spec := "fnExactAreCompatible", unfollowed := true, recurses := true, apart := false, narrowed := true }
def FnExactAreCompatibleUptoSaid : Prop := fnExactAreCompatibleUptoRow.holds Try.pinned (OpenSpec.upto fnExactAreCompatibleSpec)

/-- 'laws.FnExactCountTilting', WHERE WHAT IT READS IS OF BULK AT MOST 1048576: true; the input reads as it did. -/
def fnExactCountTiltingUptoRow : OpenClaim := { program := "ytihbegpgoekbdaa", sum := "4ac194990b7af1cb99ae52ddb0129ec82b1052d29782d7bb94acda62ebf8b821", func := "loop.example/g03404/laws.FnExactCountTilting", spec := "fnExactCountTilting", unfollowed := true, recurses := true, apart := false, narrowed := true }
def FnExactCountTiltingUptoSaid : Prop := fnExactCountTiltingUptoRow.holds Try.pinned (OpenSpec.upto fnExactCountTiltingSpec)

/-- 'laws.FnExactTiltingSets', WHERE WHAT IT READS IS OF BULK AT MOST 1048576: true; the input reads as it did. -/
def fnExactTiltingSetsUptoRow : OpenClaim := { program := "ytihbegpgoekbdaa", sum := "4ac194990b7af1cb99ae52ddb0129ec82b1052d29782d7bb94acda62ebf8b821", func := "loop.example/g03404/laws.FnExactTiltingSets", spec := "fnExactTiltingSets", unfollowed := true, recurses := true, apart := false, narrowed := true }
def FnExactTiltingSetsUptoSaid : Prop := fnExactTiltingSetsUptoRow.holds Try.pinned (OpenSpec.upto fnExactTiltingSetsSpec)

/-- 'laws.FnExactIsTilting', WHERE WHAT IT READS IS OF BULK AT MOST 1048576: true; the input reads as it did. -/
def fnExactIsTiltingUptoRow : OpenClaim := { program := "ytihbegpgoekbdaa", sum := "4ac194990b7af1cb99ae52ddb0129ec82b1052d29782d7bb94acda62ebf8b821", func := "loop.example/g03404/laws.FnExactIsTilting", spec := "fnExactIsTilting", unfollowed := true, recurses := true, apart := false, narrowed := true }
def FnExactIsTiltingUptoSaid : Prop := fnExactIsTiltingUptoRow.holds Try.pinned (OpenSpec.upto fnExactIsTiltingSpec)

/-- 'laws.FnExactKnitAll', WHERE WHAT IT READS IS OF BULK AT MOST 1048576: true; the input reads as it did. -/
def fnExactKnitAllUptoRow : OpenClaim := { program := "ytihbegpgoekbdaa", sum := "4ac194990b7af1cb99ae52ddb0129ec82b1052d29782d7bb94acda62ebf8b821", func := "loop.example/g03404/laws.FnExactKnitAll", spec := "fnExactKnitAll", unfollowed := true, recurses := true, apart := false, narrowed := true }
def FnExactKnitAllUptoSaid : Prop := fnExactKnitAllUptoRow.holds Try.pinned (OpenSpec.upto fnExactKnitAllSpec)

/-- 'laws.FnExactGenericSum', WHERE WHAT IT READS IS OF BULK AT MOST 1048576: true; the input reads as it did. -/
def fnExactGenericSumUptoRow : OpenClaim := { program := "ytihbegpgoekbdaa", sum := "4ac194990b7af1cb99ae52ddb0129ec82b1052d29782d7bb94acda62ebf8b821", func := "loop.example/g03404/laws.FnExactGenericSum", spec := "fnExactGenericSum", unfollowed := true, recurses := true, apart := false, narrowed := true }
def FnExactGenericSumUptoSaid : Prop := fnExactGenericSumUptoRow.holds Try.pinned (OpenSpec.upto fnExactGenericSumSpec)

end Rows
end Go.Proofs.Ytihbegpgoekbdaa

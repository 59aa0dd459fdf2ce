/-
  No cell of these rows narrows 'for every input' (looked for: loops, veiled, ifaces, maps, wideKeys, modest, calm, conditions, laid).
  DERIVED. THE GIVEN ROWS OF THIS SEAT. 3 by the template 'for every input the law returns true; each argument reads behind the call as it read before'; 0 by the template 'total and deterministic' (their statements: YtpppcfhgaehcjaaTotals.lean).
  GIVEN WITH THE SEED: the statements are not yours to turn. If you find one false, say at which input.
  Laid BY PROGRAM, IN A SANDBOX (cutbox-rows.mjs): the forced cells as the released guide's own fill.sh prints them over the translation fa429f31f5a301d4… (all of the seat's roots in one cut). By AI agents, Wed Nov 11 2026. No macro, syntax, notation, axiom, sorry.
-/
import Derived.Test.YtpppcfhgaehcjaaChecked
import GoSem.Claim
import GoSem.ClaimJoined
import GoSem.ClaimMapViews
import Derived.JoinedTies
import Derived.KernelRfl
namespace Go.Proofs.Ytpppcfhgaehcjaa
/- THE CELL 'sum', in the pinned program and in every row, IS THE sha256 OF THE DUMP (.gsa) THAT YtpppcfhgaehcjaaProg.lean LOADS. Nothing in Lean hashes anything: it is a label: what it is worth is what the hold of that sum in a sandbox is worth. -/
noncomputable def Try.pinned : Pinned := { name := "ytpppcfhgaehcjaa", sum := "fa429f31f5a301d4577298089472c5212e57cb6e8214aa642c79535fa8472d16", checked := Try.checked }
namespace Rows
def none {H : Type} : Left H := { results := [], args := [] }

/-- 'laws.FnExactCountTilting': WHATEVER THE INPUT: true; the input reads as it did. -/
def fnExactCountTiltingSpec : ChangeSpec := { name := "fnExactCountTilting", fn := fun _ => fun
  | [d] => { results := [.lit (.bool true)], args := [d] }
  | _ => none }
def fnExactCountTiltingRow : OpenClaim := { program := "ytpppcfhgaehcjaa", sum := "fa429f31f5a301d4577298089472c5212e57cb6e8214aa642c79535fa8472d16", func := "loop.example/g03404/laws.FnExactCountTilting", spec := "fnExactCountTilting", unfollowed := true, recurses := true, apart := false }
def FnExactCountTiltingSaid : Prop := fnExactCountTiltingRow.holds Try.pinned (OpenSpec.ofChange fnExactCountTiltingSpec)

/-- ITS FALSE NEIGHBOUR: 'it returns false'. Refute it at one input. -/
def fnExactCountTiltingWrong : ChangeSpec := { name := "fnExactCountTilting", fn := fun _ => fun
  | [d] => { results := [.lit (.bool false)], args := [d] }
  | _ => none }
def FnExactCountTiltingWrongFalsely : Prop := fnExactCountTiltingRow.holds Try.pinned (OpenSpec.ofChange fnExactCountTiltingWrong)

/-- 'laws.FnExactTiltingSets': WHATEVER THE INPUT: true; the input reads as it did. -/
def fnExactTiltingSetsSpec : ChangeSpec := { name := "fnExactTiltingSets", fn := fun _ => fun
  | [d] => { results := [.lit (.bool true)], args := [d] }
  | _ => none }
def fnExactTiltingSetsRow : OpenClaim := { program := "ytpppcfhgaehcjaa", sum := "fa429f31f5a301d4577298089472c5212e57cb6e8214aa642c79535fa8472d16", func := "loop.example/g03404/laws.FnExactTiltingSets", spec := "fnExactTiltingSets", unfollowed := true, recurses := true, apart := false }
def FnExactTiltingSetsSaid : Prop := fnExactTiltingSetsRow.holds Try.pinned (OpenSpec.ofChange fnExactTiltingSetsSpec)

/-- ITS FALSE NEIGHBOUR: 'it returns false'. Refute it at one input. -/
def fnExactTiltingSetsWrong : ChangeSpec := { name := "fnExactTiltingSets", fn := fun _ => fun
  | [d] => { results := [.lit (.bool false)], args := [d] }
  | _ => none }
def FnExactTiltingSetsWrongFalsely : Prop := fnExactTiltingSetsRow.holds Try.pinned (OpenSpec.ofChange fnExactTiltingSetsWrong)

/-- 'laws.FnExactGenericSum': WHATEVER THE INPUT: true; the input reads as it did. -/
def fnExactGenericSumSpec : ChangeSpec := { name := "fnExactGenericSum", fn := fun _ => fun
  | [d1, d2] => { results := [.lit (.bool true)], args := [d1, d2] }
  | _ => none }
def fnExactGenericSumRow : OpenClaim := { program := "ytpppcfhgaehcjaa", sum := "fa429f31f5a301d4577298089472c5212e57cb6e8214aa642c79535fa8472d16", func := "loop.example/g03404/laws.FnExactGenericSum", spec := "fnExactGenericSum", unfollowed := true, recurses := true, apart := false }
def FnExactGenericSumSaid : Prop := fnExactGenericSumRow.holds Try.pinned (OpenSpec.ofChange fnExactGenericSumSpec)

/-- ITS FALSE NEIGHBOUR: 'it returns false'. Refute it at one input. -/
def fnExactGenericSumWrong : ChangeSpec := { name := "fnExactGenericSum", fn := fun _ => fun
  | [d1, d2] => { results := [.lit (.bool false)], args := [d1, d2] }
  | _ => none }
def FnExactGenericSumWrongFalsely : Prop := fnExactGenericSumRow.holds Try.pinned (OpenSpec.ofChange fnExactGenericSumWrong)

/- THE SECOND FORM. 'bulk': how many values and letters a reading holds, each counted each time it is reached (what is shared counts as often as it is met; a slice's spare places count too). A statement '..UptoSaid' is the law's where the arguments, and the package variables that the reading takes, are together of bulk at most 1048576: NARROWER than '..Said'. Prove '..Said' where nothing that the law and all that it calls make is longer than what came in: it says more and counts as full. Else prove '..UptoSaid'. A law counts once. -/
mutual
def uptoBulk {H : Type} : DataW H → Nat
  | .lit (.string bytes) => bytes.length + 1
  | .lit _ => 1
  | .nil => 1
  | .ptr d => uptoBulk d + 1
  | .slice elems spare => uptoBulkAll elems + uptoBulkAll spare + 1
  | .agg parts => uptoBulkAll parts + 1
  | .iface _ d => uptoBulk d + 1
  | .map entries => uptoBulkEntries entries + 1
  | .held _ => 1
def uptoBulkAll {H : Type} : List (DataW H) → Nat
  | [] => 0
  | d :: r => uptoBulk d + uptoBulkAll r
def uptoBulkEntries {H : Type} : List (Lit × DataW H) → Nat
  | [] => 0
  | x :: r => uptoBulkEntry x + uptoBulkEntries r
def uptoBulkEntry {H : Type} : Lit × DataW H → Nat
  | (.string bytes, d) => bytes.length + uptoBulk d + 1
  | (_, d) => uptoBulk d + 1
 end
def uptoSmall : (H : Type) → List (DataW H) → Bool := fun _ ds => decide (uptoBulkAll ds ≤ 1048576)
def OpenSpec.upto (s : _root_.Go.ChangeSpec) : _root_.Go.OpenSpec := { _root_.Go.OpenSpec.ofChange s with cond := some uptoSmall }

/-- 'laws.FnExactCountTilting', WHERE WHAT IT READS IS OF BULK AT MOST 1048576: true; the input reads as it did. -/
def fnExactCountTiltingUptoRow : OpenClaim := { program := "ytpppcfhgaehcjaa", sum := "fa429f31f5a301d4577298089472c5212e57cb6e8214aa642c79535fa8472d16", func := "loop.example/g03404/laws.FnExactCountTilting", spec := "fnExactCountTilting", unfollowed := true, recurses := true, apart := false, narrowed := true }
def FnExactCountTiltingUptoSaid : Prop := fnExactCountTiltingUptoRow.holds Try.pinned (OpenSpec.upto fnExactCountTiltingSpec)

/-- 'laws.FnExactTiltingSets', WHERE WHAT IT READS IS OF BULK AT MOST 1048576: true; the input reads as it did. -/
def fnExactTiltingSetsUptoRow : OpenClaim := { program := "ytpppcfhgaehcjaa", sum := "fa429f31f5a301d4577298089472c5212e57cb6e8214aa642c79535fa8472d16", func := "loop.example/g03404/laws.FnExactTiltingSets", spec := "fnExactTiltingSets", unfollowed := true, recurses := true, apart := false, narrowed := true }
def FnExactTiltingSetsUptoSaid : Prop := fnExactTiltingSetsUptoRow.holds Try.pinned (OpenSpec.upto fnExactTiltingSetsSpec)

/-- 'laws.FnExactGenericSum', WHERE WHAT IT READS IS OF BULK AT MOST 1048576: true; the input reads as it did. -/
def fnExactGenericSumUptoRow : OpenClaim := { program := "ytpppcfhgaehcjaa", sum := "fa429f31f5a301d4577298089472c5212e57cb6e8214aa642c79535fa8472d16", func := "loop.example/g03404/laws.FnExactGenericSum", spec := "fnExactGenericSum", unfollowed := true, recurses := true, apart := false, narrowed := true }
def FnExactGenericSumUptoSaid : Prop := fnExactGenericSumUptoRow.holds Try.pinned (OpenSpec.upto fnExactGenericSumSpec)

end Rows
end Go.Proofs.Ytpppcfhgaehcjaa

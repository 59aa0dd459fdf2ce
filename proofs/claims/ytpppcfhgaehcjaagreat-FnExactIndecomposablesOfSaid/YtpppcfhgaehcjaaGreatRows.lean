/-
  No cell of these rows narrows 'for every input' (looked for: loops, veiled, ifaces, maps, wideKeys, modest, calm, conditions, laid).
  DERIVED. THE GIVEN ROWS OF THIS SEAT. 3 by the template 'for every input the law returns true; each argument reads behind the call as it read before'; 0 by the template 'total and deterministic' (their statements: YtpppcfhgaehcjaaGreatTotals.lean).
  GIVEN WITH THE SEED: the statements are not yours to turn. If you find one false, say at which input.
  Laid BY PROGRAM, IN A SANDBOX (cutbox-rows.mjs): the forced cells as the released guide's own fill.sh prints them over the translation 08d8d307e4ad7148… (all of the seat's roots in one cut). By AI agents, Wed Nov 11 2026. No macro, syntax, notation, axiom, sorry.
-/
import Derived.Test.YtpppcfhgaehcjaaGreatChecked
import GoSem.Claim
import GoSem.ClaimJoined
import GoSem.ClaimMapViews
import Derived.JoinedTies
import Derived.KernelRfl
namespace Go.Proofs.YtpppcfhgaehcjaaGreat
/- THE CELL 'sum', in the pinned program and in every row, IS THE sha256 OF THE DUMP (.gsa) THAT YtpppcfhgaehcjaaGreatProg.lean LOADS. Nothing in Lean hashes anything: it is a label: what it is worth is what the hold of that sum in a sandbox is worth. -/
noncomputable def Tryz.pinned : Pinned := { name := "ytpppcfhgaehcjaagreat", sum := "08d8d307e4ad714853bf0c656da6244915a56fea07bfad3488f3adacb717a8e6", checked := Tryz.checked }
namespace Rows
def none {H : Type} : Left H := { results := [], args := [] }

/-- 'laws.FnExactIndecomposablesOf': WHATEVER THE INPUT: true; the input reads as it did. -/
def fnExactIndecomposablesOfSpec : ChangeSpec := { name := "fnExactIndecomposablesOf", fn := fun _ => fun
  | [d1, d2] => { results := [.lit (.bool true)], args := [d1, d2] }
  | _ => none }
def fnExactIndecomposablesOfRow : OpenClaim := { program := "ytpppcfhgaehcjaagreat", sum := "08d8d307e4ad714853bf0c656da6244915a56fea07bfad3488f3adacb717a8e6", func := "loop.example/g03404/laws.FnExactIndecomposablesOf", spec := "fnExactIndecomposablesOf", unfollowed := true, recurses := true, apart := false }
def FnExactIndecomposablesOfSaid : Prop := fnExactIndecomposablesOfRow.holds Tryz.pinned (OpenSpec.ofChange fnExactIndecomposablesOfSpec)

/-- ITS FALSE NEIGHBOUR: 'it returns false'. Refute it at one input. -/
def fnExactIndecomposablesOfWrong : ChangeSpec := { name := "fnExactIndecomposablesOf", fn := fun _ => fun
  | [d1, d2] => { results := [.lit (.bool false)], args := [d1, d2] }
  | _ => none }
def FnExactIndecomposablesOfWrongFalsely : Prop := fnExactIndecomposablesOfRow.holds Tryz.pinned (OpenSpec.ofChange fnExactIndecomposablesOfWrong)

/-- 'laws.FnExactRepOfMultiplicities': WHATEVER THE INPUT: true; the input reads as it did. -/
def fnExactRepOfMultiplicitiesSpec : ChangeSpec := { name := "fnExactRepOfMultiplicities", fn := fun _ => fun
  | [d1, d2, d3] => { results := [.lit (.bool true)], args := [d1, d2, d3] }
  | _ => none }
def fnExactRepOfMultiplicitiesRow : OpenClaim := { program := "ytpppcfhgaehcjaagreat", sum := "08d8d307e4ad714853bf0c656da6244915a56fea07bfad3488f3adacb717a8e6", func := "loop.example/g03404/laws.FnExactRepOfMultiplicities", spec := "fnExactRepOfMultiplicities", unfollowed := true, recurses := true, apart := false }
def FnExactRepOfMultiplicitiesSaid : Prop := fnExactRepOfMultiplicitiesRow.holds Tryz.pinned (OpenSpec.ofChange fnExactRepOfMultiplicitiesSpec)

/-- ITS FALSE NEIGHBOUR: 'it returns false'. Refute it at one input. -/
def fnExactRepOfMultiplicitiesWrong : ChangeSpec := { name := "fnExactRepOfMultiplicities", fn := fun _ => fun
  | [d1, d2, d3] => { results := [.lit (.bool false)], args := [d1, d2, d3] }
  | _ => none }
def FnExactRepOfMultiplicitiesWrongFalsely : Prop := fnExactRepOfMultiplicitiesRow.holds Tryz.pinned (OpenSpec.ofChange fnExactRepOfMultiplicitiesWrong)

/-- 'laws.FnExactMultiplicitiesOf': WHATEVER THE INPUT: true; the input reads as it did. -/
def fnExactMultiplicitiesOfSpec : ChangeSpec := { name := "fnExactMultiplicitiesOf", fn := fun _ => fun
  | [d] => { results := [.lit (.bool true)], args := [d] }
  | _ => none }
def fnExactMultiplicitiesOfRow : OpenClaim := { program := "ytpppcfhgaehcjaagreat", sum := "08d8d307e4ad714853bf0c656da6244915a56fea07bfad3488f3adacb717a8e6", func := "loop.example/g03404/laws.FnExactMultiplicitiesOf", spec := "fnExactMultiplicitiesOf", unfollowed := true, recurses := true, apart := false }
def FnExactMultiplicitiesOfSaid : Prop := fnExactMultiplicitiesOfRow.holds Tryz.pinned (OpenSpec.ofChange fnExactMultiplicitiesOfSpec)

/-- ITS FALSE NEIGHBOUR: 'it returns false'. Refute it at one input. -/
def fnExactMultiplicitiesOfWrong : ChangeSpec := { name := "fnExactMultiplicitiesOf", fn := fun _ => fun
  | [d] => { results := [.lit (.bool false)], args := [d] }
  | _ => none }
def FnExactMultiplicitiesOfWrongFalsely : Prop := fnExactMultiplicitiesOfRow.holds Tryz.pinned (OpenSpec.ofChange fnExactMultiplicitiesOfWrong)

/- THE SECOND FORM. 'bulk': how many values and letters a reading holds, each counted each time it is reached (what is shared counts as often as it is met; a slice's spare places count too). A statement '..UptoSaid' is the law's where the arguments, and the package variables that the reading takes, are together of bulk at most 1048576: NARROWER than '..Said'. Prove '..Said' where nothing that the law and all that it calls make is longer than what came in: it says more and counts as full. Else prove '..UptoSaid'. A law counts once. -/
mutual
def uptoBulk {H : Type} : DataW H → Nat
  | .lit (.string bytes) => bytes.length + 1
  | .lit _ => 1
  | .nil => 1
  | .ptr d => uptoBulk d + 1
  | .slice elems spare => uptoBulkAll elems + uptoBulkAll spare + 1
  | .agg parts => uptoBulkAll parts + 1
  | .iface _ d => uptoBulk d + 1
  | .map entries => uptoBulkEntries entries + 1
  | .held _ => 1
def uptoBulkAll {H : Type} : List (DataW H) → Nat
  | [] => 0
  | d :: r => uptoBulk d + uptoBulkAll r
def uptoBulkEntries {H : Type} : List (Lit × DataW H) → Nat
  | [] => 0
  | x :: r => uptoBulkEntry x + uptoBulkEntries r
def uptoBulkEntry {H : Type} : Lit × DataW H → Nat
  | (.string bytes, d) => bytes.length + uptoBulk d + 1
  | (_, d) => uptoBulk d + 1
 end
def uptoSmall : (H : Type) → List (DataW H) → Bool := fun _ ds => decide (uptoBulkAll ds ≤ 1048576)
def OpenSpec.upto (s : _root_.Go.ChangeSpec) : _root_.Go.OpenSpec := { _root_.Go.OpenSpec.ofChange s with cond := some uptoSmall }

/-- 'laws.FnExactIndecomposablesOf', WHERE WHAT IT READS IS OF BULK AT MOST 1048576: true; the input reads as it did. -/
def fnExactIndecomposablesOfUptoRow : OpenClaim := { program := "ytpppcfhgaehcjaagreat", sum := "08d8d307e4ad714853bf0c656da6244915a56fea07bfad3488f3adacb717a8e6", func := "loop.example/g03404/laws.FnExactIndecomposablesOf", spec := "fnExactIndecomposablesOf", unfollowed := true, recurses := true, apart := false, narrowed := true }
def FnExactIndecomposablesOfUptoSaid : Prop := fnExactIndecomposablesOfUptoRow.holds Tryz.pinned (OpenSpec.upto fnExactIndecomposablesOfSpec)

/-- 'laws.FnExactRepOfMultiplicities', WHERE WHAT IT READS IS OF BULK AT MOST 1048576: true; the input reads as it did. -/
def fnExactRepOfMultiplicitiesUptoRow : OpenClaim := { program := "ytpppcfhgaehcjaagreat", sum := "08d8d307e4ad714853bf0c656da6244915a56fea07bfad3488f3adacb717a8e6", func := "loop.example/g03404/laws.FnExactRepOfMultiplicities", spec := "fnExactRepOfMultiplicities", unfollowed := true, recurses := true, apart := false, narrowed := true }
def FnExactRepOfMultiplicitiesUptoSaid : Prop := fnExactRepOfMultiplicitiesUptoRow.holds Tryz.pinned (OpenSpec.upto fnExactRepOfMultiplicitiesSpec)

/-- 'laws.FnExactMultiplicitiesOf', WHERE WHAT IT READS IS OF BULK AT MOST 1048576: true; the input reads as it did. -/
def fnExactMultiplicitiesOfUptoRow : OpenClaim := { program := "ytpppcfhgaehcjaagreat", sum := "08d8d307e4ad714853bf0c656da6244915a56fea07bfad3488f3adacb717a8e6", func := "loop.example/g03404/laws.FnExactMultiplicitiesOf", spec := "fnExactMultiplicitiesOf", unfollowed := true, recurses := true, apart := false, narrowed := true }
def FnExactMultiplicitiesOfUptoSaid : Prop := fnExactMultiplicitiesOfUptoRow.holds Tryz.pinned (OpenSpec.upto fnExactMultiplicitiesOfSpec)

end Rows
end Go.Proofs.YtpppcfhgaehcjaaGreat

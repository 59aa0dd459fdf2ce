/-
  No cell of these rows narrows 'for every input' (looked for: loops, veiled, ifaces, maps, wideKeys, modest, calm, conditions, laid).
  DERIVED. THE GIVEN ROWS OF THIS SEAT. 3 by the template 'for every input the law returns true; each argument reads behind the call as it read before'; 0 by the template 'total and deterministic' (their statements: YtgkfbfiiaphgoaaGreatTotals.lean).
  GIVEN WITH THE SEED: the statements are not yours to turn. If you find one false, say at which input.
  Laid BY PROGRAM, IN A SANDBOX (cutbox-rows.mjs): the forced cells as the released guide's own fill.sh prints them over the translation c2afec99a71fefed… (all of the seat's roots in one cut). By AI agents, Wed Nov 11 2026. No macro, syntax, notation, axiom, sorry.
-/
import Derived.Test.YtgkfbfiiaphgoaaGreatChecked
import GoSem.Claim
import GoSem.ClaimJoined
import GoSem.ClaimMapViews
import Derived.JoinedTies
import Derived.KernelRfl
namespace Go.Proofs.YtgkfbfiiaphgoaaGreat
/- THE CELL 'sum', in the pinned program and in every row, IS THE sha256 OF THE DUMP (.gsa) THAT YtgkfbfiiaphgoaaGreatProg.lean LOADS. Nothing in Lean hashes anything: it is a label: what it is worth is what the hold of that sum in a sandbox is worth. -/
noncomputable def Tryz.pinned : Pinned := { name := "ytgkfbfiiaphgoaagreat", sum := "c2afec99a71fefed3c58061c33da317976dea7de93532b81e55de3df39a705eb", checked := Tryz.checked }
namespace Rows
def none {H : Type} : Left H := { results := [], args := [] }

/-- 'laws.FnTilting': WHATEVER THE INPUT: true; the input reads as it did. -/
def fnTiltingSpec : ChangeSpec := { name := "fnTilting", fn := fun _ => fun
  | [d] => { results := [.lit (.bool true)], args := [d] }
  | _ => none }
def fnTiltingRow : OpenClaim := { program := "ytgkfbfiiaphgoaagreat", sum := "c2afec99a71fefed3c58061c33da317976dea7de93532b81e55de3df39a705eb", func := "loop.example/g03404/laws.FnTilting", spec := "fnTilting", unfollowed := true, recurses := true, apart := false }
def FnTiltingSaid : Prop := fnTiltingRow.holds Tryz.pinned (OpenSpec.ofChange fnTiltingSpec)

/-- ITS FALSE NEIGHBOUR: 'it returns false'. Refute it at one input. -/
def fnTiltingWrong : ChangeSpec := { name := "fnTilting", fn := fun _ => fun
  | [d] => { results := [.lit (.bool false)], args := [d] }
  | _ => none }
def FnTiltingWrongFalsely : Prop := fnTiltingRow.holds Tryz.pinned (OpenSpec.ofChange fnTiltingWrong)

/-- 'laws.FnSubspaces': WHATEVER THE INPUT: true; the input reads as it did. -/
def fnSubspacesSpec : ChangeSpec := { name := "fnSubspaces", fn := fun _ => fun
  | [d] => { results := [.lit (.bool true)], args := [d] }
  | _ => none }
def fnSubspacesRow : OpenClaim := { program := "ytgkfbfiiaphgoaagreat", sum := "c2afec99a71fefed3c58061c33da317976dea7de93532b81e55de3df39a705eb", func := "loop.example/g03404/laws.FnSubspaces", spec := "fnSubspaces", unfollowed := true, recurses := true, apart := false }
def FnSubspacesSaid : Prop := fnSubspacesRow.holds Tryz.pinned (OpenSpec.ofChange fnSubspacesSpec)

/-- ITS FALSE NEIGHBOUR: 'it returns false'. Refute it at one input. -/
def fnSubspacesWrong : ChangeSpec := { name := "fnSubspaces", fn := fun _ => fun
  | [d] => { results := [.lit (.bool false)], args := [d] }
  | _ => none }
def FnSubspacesWrongFalsely : Prop := fnSubspacesRow.holds Tryz.pinned (OpenSpec.ofChange fnSubspacesWrong)

/-- 'laws.FnKnitting': WHATEVER THE INPUT: true; the input reads as it did. -/
def fnKnittingSpec : ChangeSpec := { name := "fnKnitting", fn := fun _ => fun
  | [d] => { results := [.lit (.bool true)], args := [d] }
  | _ => none }
def fnKnittingRow : OpenClaim := { program := "ytgkfbfiiaphgoaagreat", sum := "c2afec99a71fefed3c58061c33da317976dea7de93532b81e55de3df39a705eb", func := "loop.example/g03404/laws.FnKnitting", spec := "fnKnitting", unfollowed := true, recurses := true, apart := false }
def FnKnittingSaid : Prop := fnKnittingRow.holds Tryz.pinned (OpenSpec.ofChange fnKnittingSpec)

/-- ITS FALSE NEIGHBOUR: 'it returns false'. Refute it at one input. -/
def fnKnittingWrong : ChangeSpec := { name := "fnKnitting", fn := fun _ => fun
  | [d] => { results := [.lit (.bool false)], args := [d] }
  | _ => none }
def FnKnittingWrongFalsely : Prop := fnKnittingRow.holds Tryz.pinned (OpenSpec.ofChange fnKnittingWrong)

/- THE SECOND FORM. 'bulk': how many values and letters a reading holds, each counted each time it is reached (what is shared counts as often as it is met; a slice's spare places count too). A statement '..UptoSaid' is the law's where the arguments, and the package variables that the reading takes, are together of bulk at most 1048576: NARROWER than '..Said'. Prove '..Said' where nothing that the law and all that it calls make is longer than what came in: it says more and counts as full. Else prove '..UptoSaid'. A law counts once. -/
mutual
def uptoBulk {H : Type} : DataW H → Nat
  | .lit (.string bytes) => bytes.length + 1
  | .lit _ => 1
  | .nil => 1
  | .ptr d => uptoBulk d + 1
  | .slice elems spare => uptoBulkAll elems + uptoBulkAll spare + 1
  | .agg parts => uptoBulkAll parts + 1
  | .iface _ d => uptoBulk d + 1
  | .map entries => uptoBulkEntries entries + 1
  | .held _ => 1
def uptoBulkAll {H : Type} : List (DataW H) → Nat
  | [] => 0
  | d :: r => uptoBulk d + uptoBulkAll r
def uptoBulkEntries {H : Type} : List (Lit × DataW H) → Nat
  | [] => 0
  | x :: r => uptoBulkEntry x + uptoBulkEntries r
def uptoBulkEntry {H : Type} : Lit × DataW H → Nat
  | (.string bytes, d) => bytes.length + uptoBulk d + 1
  | (_, d) => uptoBulk d + 1
 end
def uptoSmall : (H : Type) → List (DataW H) → Bool := fun _ ds => decide (uptoBulkAll ds ≤ 1048576)
def OpenSpec.upto (s : _root_.Go.ChangeSpec) : _root_.Go.OpenSpec := { _root_.Go.OpenSpec.ofChange s with cond := some uptoSmall }

/-- 'laws.FnTilting', WHERE WHAT IT READS IS OF BULK AT MOST 1048576: true; the input reads as it did. -/
def fnTiltingUptoRow : OpenClaim := { program := "ytgkfbfiiaphgoaagreat", sum := "c2afec99a71fefed3c58061c33da317976dea7de93532b81e55de3df39a705eb", func := "loop.example/g03404/laws.FnTilting", spec := "fnTilting", unfollowed := true, recurses := true, apart := false, narrowed := true }
def FnTiltingUptoSaid : Prop := fnTiltingUptoRow.holds Tryz.pinned (OpenSpec.upto fnTiltingSpec)

/-- 'laws.FnSubspaces', WHERE WHAT IT READS IS OF BULK AT MOST 1048576: true; the input reads as it did. -/
def fnSubspacesUptoRow : OpenClaim := { program := "ytgkfbfiiaphgoaagreat", sum := "c2afec99a71fefed3c58061c33da317976dea7de93532b81e55de3df39a705eb", func := "loop.example/g03404/laws.FnSubspaces", spec := "fnSubspaces", unfollowed := true, recurses := true, apart := false, narrowed := true }
def FnSubspacesUptoSaid : Prop := fnSubspacesUptoRow.holds Tryz.pinned (OpenSpec.upto fnSubspacesSpec)

/-- 'laws.FnKnitting', WHERE WHAT IT READS IS OF BULK AT MOST 1048576: true; the input reads as it did. -/
def fnKnittingUptoRow : OpenClaim := { program := "ytgkfbfiiaphgoaagreat", sum := "c2afec99a71fefed3c58061c33da317976dea7de93532b81e55de3df39a705eb", func := "loop.example/g03404/laws.FnKnitting", spec := "fnKnitting", unfollowed := true, recurses := true, apart := false, narrowed := true }
def FnKnittingUptoSaid : Prop := fnKnittingUptoRow.holds Tryz.pinned (OpenSpec.upto fnKnittingSpec)

end Rows
end Go.Proofs.YtgkfbfiiaphgoaaGreat

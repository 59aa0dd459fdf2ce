/-
  No cell of these rows narrows 'for every input' (looked for: loops, veiled, ifaces, maps, wideKeys, modest, calm, conditions, laid).
  DERIVED. THE GIVEN ROWS OF THIS SEAT. 4 by the template 'for every input the law returns true; each argument reads behind the call as it read before'; 0 by the template 'total and deterministic' (their statements: YtilpfdokmlanjaaGreatTotals.lean).
  GIVEN WITH THE SEED: the statements are not yours to turn. If you find one false, say at which input.
  Laid BY PROGRAM, IN A SANDBOX (cutbox-rows.mjs): the forced cells as the released guide's own fill.sh prints them over the translation d2217888c899a7ef… (all of the seat's roots in one cut). By AI agents, Wed Nov 11 2026. No macro, syntax, notation, axiom, sorry.
-/
import Derived.Test.YtilpfdokmlanjaaGreatChecked
import GoSem.Claim
import GoSem.ClaimJoined
import GoSem.ClaimMapViews
import Derived.JoinedTies
import Derived.KernelRfl
namespace Go.Proofs.YtilpfdokmlanjaaGreat
/- THE CELL 'sum', in the pinned program and in every row, IS THE sha256 OF THE DUMP (.gsa) THAT YtilpfdokmlanjaaGreatProg.lean LOADS. Nothing in Lean hashes anything: it is a label: what it is worth is what the hold of that sum in a sandbox is worth. -/
noncomputable def Tryz.pinned : Pinned := { name := "ytilpfdokmlanjaagreat", sum := "d2217888c899a7efae68b2d7d178495e18b00efb2d32f4b4fd9f677c32574b4e", checked := Tryz.checked }
namespace Rows
def none {H : Type} : Left H := { results := [], args := [] }

/-- 'laws.FnExactRepOfMultiplicities': WHATEVER THE INPUT: true; the input reads as it did. -/
def fnExactRepOfMultiplicitiesSpec : ChangeSpec := { name := "fnExactRepOfMultiplicities", fn := fun _ => fun
  | [d1, d2, d3] => { results := [.lit (.bool true)], args := [d1, d2, d3] }
  | _ => none }
def fnExactRepOfMultiplicitiesRow : OpenClaim := { program := "ytilpfdokmlanjaagreat", sum := "d2217888c899a7efae68b2d7d178495e18b00efb2d32f4b4fd9f677c32574b4e", func := "loop.example/g03404/laws.FnExactRepOfMultiplicities", spec := "fnExactRepOfMultiplicities", unfollowed := true, recurses := true, apart := false }
def FnExactRepOfMultiplicitiesSaid : Prop := fnExactRepOfMultiplicitiesRow.holds Tryz.pinned (OpenSpec.ofChange fnExactRepOfMultiplicitiesSpec)

/-- ITS FALSE NEIGHBOUR: 'it returns false'. Refute it at one input. -/
def fnExactRepOfMultiplicitiesWrong : ChangeSpec := { name := "fnExactRepOfMultiplicities", fn := fun _ => fun
  | [d1, d2, d3] => { results := [.lit (.bool false)], args := [d1, d2, d3] }
  | _ => none }
def FnExactRepOfMultiplicitiesWrongFalsely : Prop := fnExactRepOfMultiplicitiesRow.holds Tryz.pinned (OpenSpec.ofChange fnExactRepOfMultiplicitiesWrong)

/-- 'laws.FnExactMultiplicitiesOf': WHATEVER THE INPUT: true; the input reads as it did. -/
def fnExactMultiplicitiesOfSpec : ChangeSpec := { name := "fnExactMultiplicitiesOf", fn := fun _ => fun
  | [d] => { results := [.lit (.bool true)], args := [d] }
  | _ => none }
def fnExactMultiplicitiesOfRow : OpenClaim := { program := "ytilpfdokmlanjaagreat", sum := "d2217888c899a7efae68b2d7d178495e18b00efb2d32f4b4fd9f677c32574b4e", func := "loop.example/g03404/laws.FnExactMultiplicitiesOf", spec := "fnExactMultiplicitiesOf", unfollowed := true, recurses := true, apart := false }
def FnExactMultiplicitiesOfSaid : Prop := fnExactMultiplicitiesOfRow.holds Tryz.pinned (OpenSpec.ofChange fnExactMultiplicitiesOfSpec)

/-- ITS FALSE NEIGHBOUR: 'it returns false'. Refute it at one input. -/
def fnExactMultiplicitiesOfWrong : ChangeSpec := { name := "fnExactMultiplicitiesOf", fn := fun _ => fun
  | [d] => { results := [.lit (.bool false)], args := [d] }
  | _ => none }
def FnExactMultiplicitiesOfWrongFalsely : Prop := fnExactMultiplicitiesOfRow.holds Tryz.pinned (OpenSpec.ofChange fnExactMultiplicitiesOfWrong)

/-- 'laws.FnExactGenericRep': WHATEVER THE INPUT: true; the input reads as it did. -/
def fnExactGenericRepSpec : ChangeSpec := { name := "fnExactGenericRep", fn := fun _ => fun
  | [d1, d2, d3] => { results := [.lit (.bool true)], args := [d1, d2, d3] }
  | _ => none }
def fnExactGenericRepRow : OpenClaim := { program := "ytilpfdokmlanjaagreat", sum := "d2217888c899a7efae68b2d7d178495e18b00efb2d32f4b4fd9f677c32574b4e", func := "loop.example/g03404/laws.FnExactGenericRep", spec := "fnExactGenericRep", unfollowed := true, recurses := true, apart := false }
def FnExactGenericRepSaid : Prop := fnExactGenericRepRow.holds Tryz.pinned (OpenSpec.ofChange fnExactGenericRepSpec)

/-- ITS FALSE NEIGHBOUR: 'it returns false'. Refute it at one input. -/
def fnExactGenericRepWrong : ChangeSpec := { name := "fnExactGenericRep", fn := fun _ => fun
  | [d1, d2, d3] => { results := [.lit (.bool false)], args := [d1, d2, d3] }
  | _ => none }
def FnExactGenericRepWrongFalsely : Prop := fnExactGenericRepRow.holds Tryz.pinned (OpenSpec.ofChange fnExactGenericRepWrong)

/-- 'laws.FnExactClaimOfParts': WHATEVER THE INPUT: true; the input reads as it did. -/
def fnExactClaimOfPartsSpec : ChangeSpec := { name := "fnExactClaimOfParts", fn := fun _ => fun
  | [d] => { results := [.lit (.bool true)], args := [d] }
  | _ => none }
def fnExactClaimOfPartsRow : OpenClaim := { program := "ytilpfdokmlanjaagreat", sum := "d2217888c899a7efae68b2d7d178495e18b00efb2d32f4b4fd9f677c32574b4e", func := "loop.example/g03404/laws.FnExactClaimOfParts", spec := "fnExactClaimOfParts", unfollowed := true, recurses := true, apart := false }
def FnExactClaimOfPartsSaid : Prop := fnExactClaimOfPartsRow.holds Tryz.pinned (OpenSpec.ofChange fnExactClaimOfPartsSpec)

/-- ITS FALSE NEIGHBOUR: 'it returns false'. Refute it at one input. -/
def fnExactClaimOfPartsWrong : ChangeSpec := { name := "fnExactClaimOfParts", fn := fun _ => fun
  | [d] => { results := [.lit (.bool false)], args := [d] }
  | _ => none }
def FnExactClaimOfPartsWrongFalsely : Prop := fnExactClaimOfPartsRow.holds Tryz.pinned (OpenSpec.ofChange fnExactClaimOfPartsWrong)

/- THE SECOND FORM. 'bulk': how many values and letters a reading holds, each counted each time it is reached (what is shared counts as often as it is met; a slice's spare places count too). A statement '..UptoSaid' is the law's where the arguments, and the package variables that the reading takes, are together of bulk at most 1048576: NARROWER than '..Said'. Prove '..Said' where nothing that the law and all that it calls make is longer than what came in: it says more and counts as full. Else prove '..UptoSaid'. A law counts once. -/
mutual
def uptoBulk {H : Type} : DataW H → Nat
  | .lit (.string bytes) => bytes.length + 1
  | .lit _ => 1
  | .nil => 1
  | .ptr d => uptoBulk d + 1
  | .slice elems spare => uptoBulkAll elems + uptoBulkAll spare + 1
  | .agg parts => uptoBulkAll parts + 1
  | .iface _ d => uptoBulk d + 1
  | .map entries => uptoBulkEntries entries + 1
  | .held _ => 1
def uptoBulkAll {H : Type} : List (DataW H) → Nat
  | [] => 0
  | d :: r => uptoBulk d + uptoBulkAll r
def uptoBulkEntries {H : Type} : List (Lit × DataW H) → Nat
  | [] => 0
  | x :: r => uptoBulkEntry x + uptoBulkEntries r
def uptoBulkEntry {H : Type} : Lit × DataW H → Nat
  | (.string bytes, d) => bytes.length + uptoBulk d + 1
  | (_, d) => uptoBulk d + 1
 end
def uptoSmall : (H : Type) → List (DataW H) → Bool := fun _ ds => decide (uptoBulkAll ds ≤ 1048576)
def OpenSpec.upto (s : _root_.Go.ChangeSpec) : _root_.Go.OpenSpec := { _root_.Go.OpenSpec.ofChange s with cond := some uptoSmall }

/-- 'laws.FnExactRepOfMultiplicities', WHERE WHAT IT READS IS OF BULK AT MOST 1048576: true; the input reads as it did. -/
def fnExactRepOfMultiplicitiesUptoRow : OpenClaim := { program := "ytilpfdokmlanjaagreat", sum := "d2217888c899a7efae68b2d7d178495e18b00efb2d32f4b4fd9f677c32574b4e", func := "loop.example/g03404/laws.FnExactRepOfMultiplicities", spec := "fnExactRepOfMultiplicities", unfollowed := true, recurses := true, apart := false, narrowed := true }
def FnExactRepOfMultiplicitiesUptoSaid : Prop := fnExactRepOfMultiplicitiesUptoRow.holds Tryz.pinned (OpenSpec.upto fnExactRepOfMultiplicitiesSpec)

/-- 'laws.FnExactMultiplicitiesOf', WHERE WHAT IT READS IS OF BULK AT MOST 1048576: true; the input reads as it did. -/
def fnExactMultiplicitiesOfUptoRow : OpenClaim := { program := "ytilpfdokmlanjaagreat", sum := "d2217888c899a7efae68b2d7d178495e18b00efb2d32f4b4fd9f677c32574b4e", func := "loop.example/g03404/laws.FnExactMultiplicitiesOf", spec := "fnExactMultiplicitiesOf", unfollowed := true, recurses := true, apart := false, narrowed := true }
def FnExactMultiplicitiesOfUptoSaid : Prop := fnExactMultiplicitiesOfUptoRow.holds Tryz.pinned (OpenSpec.upto fnExactMultiplicitiesOfSpec)

/-- 'laws.FnExactGenericRep', WHERE WHAT IT READS IS OF BULK AT MOST 1048576: true; the input reads as it did. -/
def fnExactGenericRepUptoRow : OpenClaim := { program := "ytilpfdokmlanjaagreat", sum := "d2217888c899a7efae68b2d7d178495e18b00efb2d32f4b4fd9f677c32574b4e", func := "loop.example/g03404/laws.FnExactGenericRep", spec := "fnExactGenericRep", unfollowed := true, recurses := true, apart := false, narrowed := true }
def FnExactGenericRepUptoSaid : Prop := fnExactGenericRepUptoRow.holds Tryz.pinned (OpenSpec.upto fnExactGenericRepSpec)

/-- 'laws.FnExactClaimOfParts', WHERE WHAT IT READS IS OF BULK AT MOST 1048576: true; the input reads as it did. -/
def fnExactClaimOfPartsUptoRow : OpenClaim := { program := "ytilpfdokmlanjaagreat", sum := "d2217888c899a7efae68b2d7d178495e18b00efb2d32f4b4fd9f677c32574b4e", func := "loop.example/g03404/laws.FnExactClaimOfParts", spec := "fnExactClaimOfParts", unfollowed := true, recurses := true, apart := false, narrowed := true }
def FnExactClaimOfPartsUptoSaid : Prop := fnExactClaimOfPartsUptoRow.holds Tryz.pinned (OpenSpec.upto fnExactClaimOfPartsSpec)

end Rows
end Go.Proofs.YtilpfdokmlanjaaGreat

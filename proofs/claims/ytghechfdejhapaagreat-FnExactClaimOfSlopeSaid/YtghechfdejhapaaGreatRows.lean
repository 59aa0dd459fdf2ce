/-
  No cell of these rows narrows 'for every input' (looked for: loops, veiled, ifaces, maps, wideKeys, modest, calm, conditions, laid).
  DERIVED. THE GIVEN ROWS OF THIS SEAT. 10 by the template 'for every input the law returns true; each argument reads behind the call as it read before'; 0 by the template 'total and deterministic' (their statements: YtghechfdejhapaaGreatTotals.lean).
  GIVEN WITH THE SEED: the statements are not yours to turn. If you find one false, say at which input.
  Laid BY PROGRAM, IN A SANDBOX (cutbox-rows.mjs): the forced cells as the released guide's own fill.sh prints them over the translation 8f6cdf0184fb7f55… (all of the seat's roots in one cut). By AI agents, Wed Nov 11 2026. No macro, syntax, notation, axiom, sorry.
-/
import Derived.Test.YtghechfdejhapaaGreatChecked
import GoSem.Claim
import GoSem.ClaimJoined
import GoSem.ClaimMapViews
import Derived.JoinedTies
import Derived.KernelRfl
namespace Go.Proofs.YtghechfdejhapaaGreat
/- THE CELL 'sum', in the pinned program and in every row, IS THE sha256 OF THE DUMP (.gsa) THAT YtghechfdejhapaaGreatProg.lean LOADS. Nothing in Lean hashes anything: it is a label: what it is worth is what the hold of that sum in a sandbox is worth. -/
noncomputable def Tryz.pinned : Pinned := { name := "ytghechfdejhapaagreat", sum := "8f6cdf0184fb7f55a48a6a6953dfec5833f9fea868bb72ac805f0277d796648a", checked := Tryz.checked }
namespace Rows
def none {H : Type} : Left H := { results := [], args := [] }

/-- 'laws.FnExactClaimOfPair': WHATEVER THE INPUT: true; the input reads as it did. -/
def fnExactClaimOfPairSpec : ChangeSpec := { name := "fnExactClaimOfPair", fn := fun _ => fun
  | [d1, d2] => { results := [.lit (.bool true)], args := [d1, d2] }
  | _ => none }
def fnExactClaimOfPairRow : OpenClaim := { program := "ytghechfdejhapaagreat", sum := "8f6cdf0184fb7f55a48a6a6953dfec5833f9fea868bb72ac805f0277d796648a", func := "loop.example/g03404/laws.FnExactClaimOfPair", spec := "fnExactClaimOfPair", unfollowed := true, recurses := true, apart := false }
def FnExactClaimOfPairSaid : Prop := fnExactClaimOfPairRow.holds Tryz.pinned (OpenSpec.ofChange fnExactClaimOfPairSpec)

/-- ITS FALSE NEIGHBOUR: 'it returns false'. Refute it at one input. -/
def fnExactClaimOfPairWrong : ChangeSpec := { name := "fnExactClaimOfPair", fn := fun _ => fun
  | [d1, d2] => { results := [.lit (.bool false)], args := [d1, d2] }
  | _ => none }
def FnExactClaimOfPairWrongFalsely : Prop := fnExactClaimOfPairRow.holds Tryz.pinned (OpenSpec.ofChange fnExactClaimOfPairWrong)

/-- 'laws.FnExactCountSubs': WHATEVER THE INPUT: true; the input reads as it did. -/
def fnExactCountSubsSpec : ChangeSpec := { name := "fnExactCountSubs", fn := fun _ => fun
  | [d1, d2] => { results := [.lit (.bool true)], args := [d1, d2] }
  | _ => none }
def fnExactCountSubsRow : OpenClaim := { program := "ytghechfdejhapaagreat", sum := "8f6cdf0184fb7f55a48a6a6953dfec5833f9fea868bb72ac805f0277d796648a", func := "loop.example/g03404/laws.FnExactCountSubs", spec := "fnExactCountSubs", unfollowed := true, recurses := true, apart := false }
def FnExactCountSubsSaid : Prop := fnExactCountSubsRow.holds Tryz.pinned (OpenSpec.ofChange fnExactCountSubsSpec)

/-- ITS FALSE NEIGHBOUR: 'it returns false'. Refute it at one input. -/
def fnExactCountSubsWrong : ChangeSpec := { name := "fnExactCountSubs", fn := fun _ => fun
  | [d1, d2] => { results := [.lit (.bool false)], args := [d1, d2] }
  | _ => none }
def FnExactCountSubsWrongFalsely : Prop := fnExactCountSubsRow.holds Tryz.pinned (OpenSpec.ofChange fnExactCountSubsWrong)

/-- 'laws.FnExactIsSemistable': WHATEVER THE INPUT: true; the input reads as it did. -/
def fnExactIsSemistableSpec : ChangeSpec := { name := "fnExactIsSemistable", fn := fun _ => fun
  | [d1, d2] => { results := [.lit (.bool true)], args := [d1, d2] }
  | _ => none }
def fnExactIsSemistableRow : OpenClaim := { program := "ytghechfdejhapaagreat", sum := "8f6cdf0184fb7f55a48a6a6953dfec5833f9fea868bb72ac805f0277d796648a", func := "loop.example/g03404/laws.FnExactIsSemistable", spec := "fnExactIsSemistable", unfollowed := true, recurses := true, apart := false }
def FnExactIsSemistableSaid : Prop := fnExactIsSemistableRow.holds Tryz.pinned (OpenSpec.ofChange fnExactIsSemistableSpec)

/-- ITS FALSE NEIGHBOUR: 'it returns false'. Refute it at one input. -/
def fnExactIsSemistableWrong : ChangeSpec := { name := "fnExactIsSemistable", fn := fun _ => fun
  | [d1, d2] => { results := [.lit (.bool false)], args := [d1, d2] }
  | _ => none }
def FnExactIsSemistableWrongFalsely : Prop := fnExactIsSemistableRow.holds Tryz.pinned (OpenSpec.ofChange fnExactIsSemistableWrong)

/-- 'laws.FnExactIsStable': WHATEVER THE INPUT: true; the input reads as it did. -/
def fnExactIsStableSpec : ChangeSpec := { name := "fnExactIsStable", fn := fun _ => fun
  | [d1, d2] => { results := [.lit (.bool true)], args := [d1, d2] }
  | _ => none }
def fnExactIsStableRow : OpenClaim := { program := "ytghechfdejhapaagreat", sum := "8f6cdf0184fb7f55a48a6a6953dfec5833f9fea868bb72ac805f0277d796648a", func := "loop.example/g03404/laws.FnExactIsStable", spec := "fnExactIsStable", unfollowed := true, recurses := true, apart := false }
def FnExactIsStableSaid : Prop := fnExactIsStableRow.holds Tryz.pinned (OpenSpec.ofChange fnExactIsStableSpec)

/-- ITS FALSE NEIGHBOUR: 'it returns false'. Refute it at one input. -/
def fnExactIsStableWrong : ChangeSpec := { name := "fnExactIsStable", fn := fun _ => fun
  | [d1, d2] => { results := [.lit (.bool false)], args := [d1, d2] }
  | _ => none }
def FnExactIsStableWrongFalsely : Prop := fnExactIsStableRow.holds Tryz.pinned (OpenSpec.ofChange fnExactIsStableWrong)

/-- 'laws.FnExactSubsWith': WHATEVER THE INPUT: true; the input reads as it did. -/
def fnExactSubsWithSpec : ChangeSpec := { name := "fnExactSubsWith", fn := fun _ => fun
  | [d1, d2] => { results := [.lit (.bool true)], args := [d1, d2] }
  | _ => none }
def fnExactSubsWithRow : OpenClaim := { program := "ytghechfdejhapaagreat", sum := "8f6cdf0184fb7f55a48a6a6953dfec5833f9fea868bb72ac805f0277d796648a", func := "loop.example/g03404/laws.FnExactSubsWith", spec := "fnExactSubsWith", unfollowed := true, recurses := true, apart := false }
def FnExactSubsWithSaid : Prop := fnExactSubsWithRow.holds Tryz.pinned (OpenSpec.ofChange fnExactSubsWithSpec)

/-- ITS FALSE NEIGHBOUR: 'it returns false'. Refute it at one input. -/
def fnExactSubsWithWrong : ChangeSpec := { name := "fnExactSubsWith", fn := fun _ => fun
  | [d1, d2] => { results := [.lit (.bool false)], args := [d1, d2] }
  | _ => none }
def FnExactSubsWithWrongFalsely : Prop := fnExactSubsWithRow.holds Tryz.pinned (OpenSpec.ofChange fnExactSubsWithWrong)

/-- 'laws.FnExactAllSubs': WHATEVER THE INPUT: true; the input reads as it did. -/
def fnExactAllSubsSpec : ChangeSpec := { name := "fnExactAllSubs", fn := fun _ => fun
  | [d] => { results := [.lit (.bool true)], args := [d] }
  | _ => none }
def fnExactAllSubsRow : OpenClaim := { program := "ytghechfdejhapaagreat", sum := "8f6cdf0184fb7f55a48a6a6953dfec5833f9fea868bb72ac805f0277d796648a", func := "loop.example/g03404/laws.FnExactAllSubs", spec := "fnExactAllSubs", unfollowed := true, recurses := true, apart := false }
def FnExactAllSubsSaid : Prop := fnExactAllSubsRow.holds Tryz.pinned (OpenSpec.ofChange fnExactAllSubsSpec)

/-- ITS FALSE NEIGHBOUR: 'it returns false'. Refute it at one input. -/
def fnExactAllSubsWrong : ChangeSpec := { name := "fnExactAllSubs", fn := fun _ => fun
  | [d] => { results := [.lit (.bool false)], args := [d] }
  | _ => none }
def FnExactAllSubsWrongFalsely : Prop := fnExactAllSubsRow.holds Tryz.pinned (OpenSpec.ofChange fnExactAllSubsWrong)

/-- 'laws.FnExactMaximalSub': WHATEVER THE INPUT: true; the input reads as it did. -/
def fnExactMaximalSubSpec : ChangeSpec := { name := "fnExactMaximalSub", fn := fun _ => fun
  | [d1, d2] => { results := [.lit (.bool true)], args := [d1, d2] }
  | _ => none }
def fnExactMaximalSubRow : OpenClaim := { program := "ytghechfdejhapaagreat", sum := "8f6cdf0184fb7f55a48a6a6953dfec5833f9fea868bb72ac805f0277d796648a", func := "loop.example/g03404/laws.FnExactMaximalSub", spec := "fnExactMaximalSub", unfollowed := true, recurses := true, apart := false }
def FnExactMaximalSubSaid : Prop := fnExactMaximalSubRow.holds Tryz.pinned (OpenSpec.ofChange fnExactMaximalSubSpec)

/-- ITS FALSE NEIGHBOUR: 'it returns false'. Refute it at one input. -/
def fnExactMaximalSubWrong : ChangeSpec := { name := "fnExactMaximalSub", fn := fun _ => fun
  | [d1, d2] => { results := [.lit (.bool false)], args := [d1, d2] }
  | _ => none }
def FnExactMaximalSubWrongFalsely : Prop := fnExactMaximalSubRow.holds Tryz.pinned (OpenSpec.ofChange fnExactMaximalSubWrong)

/-- 'laws.FnExactSlopeFiltration': WHATEVER THE INPUT: true; the input reads as it did. -/
def fnExactSlopeFiltrationSpec : ChangeSpec := { name := "fnExactSlopeFiltration", fn := fun _ => fun
  | [d1, d2] => { results := [.lit (.bool true)], args := [d1, d2] }
  | _ => none }
def fnExactSlopeFiltrationRow : OpenClaim := { program := "ytghechfdejhapaagreat", sum := "8f6cdf0184fb7f55a48a6a6953dfec5833f9fea868bb72ac805f0277d796648a", func := "loop.example/g03404/laws.FnExactSlopeFiltration", spec := "fnExactSlopeFiltration", unfollowed := true, recurses := true, apart := false }
def FnExactSlopeFiltrationSaid : Prop := fnExactSlopeFiltrationRow.holds Tryz.pinned (OpenSpec.ofChange fnExactSlopeFiltrationSpec)

/-- ITS FALSE NEIGHBOUR: 'it returns false'. Refute it at one input. -/
def fnExactSlopeFiltrationWrong : ChangeSpec := { name := "fnExactSlopeFiltration", fn := fun _ => fun
  | [d1, d2] => { results := [.lit (.bool false)], args := [d1, d2] }
  | _ => none }
def FnExactSlopeFiltrationWrongFalsely : Prop := fnExactSlopeFiltrationRow.holds Tryz.pinned (OpenSpec.ofChange fnExactSlopeFiltrationWrong)

/-- 'laws.FnExactClaimOfSlope': WHATEVER THE INPUT: true; the input reads as it did. -/
def fnExactClaimOfSlopeSpec : ChangeSpec := { name := "fnExactClaimOfSlope", fn := fun _ => fun
  | [d1, d2] => { results := [.lit (.bool true)], args := [d1, d2] }
  | _ => none }
def fnExactClaimOfSlopeRow : OpenClaim := { program := "ytghechfdejhapaagreat", sum := "8f6cdf0184fb7f55a48a6a6953dfec5833f9fea868bb72ac805f0277d796648a", func := "loop.example/g03404/laws.FnExactClaimOfSlope", spec := "fnExactClaimOfSlope", unfollowed := true, recurses := true, apart := false }
def FnExactClaimOfSlopeSaid : Prop := fnExactClaimOfSlopeRow.holds Tryz.pinned (OpenSpec.ofChange fnExactClaimOfSlopeSpec)

/-- ITS FALSE NEIGHBOUR: 'it returns false'. Refute it at one input. -/
def fnExactClaimOfSlopeWrong : ChangeSpec := { name := "fnExactClaimOfSlope", fn := fun _ => fun
  | [d1, d2] => { results := [.lit (.bool false)], args := [d1, d2] }
  | _ => none }
def FnExactClaimOfSlopeWrongFalsely : Prop := fnExactClaimOfSlopeRow.holds Tryz.pinned (OpenSpec.ofChange fnExactClaimOfSlopeWrong)

/-- 'laws.FnExactHallNumber': WHATEVER THE INPUT: true; the input reads as it did. -/
def fnExactHallNumberSpec : ChangeSpec := { name := "fnExactHallNumber", fn := fun _ => fun
  | [d1, d2, d3] => { results := [.lit (.bool true)], args := [d1, d2, d3] }
  | _ => none }
def fnExactHallNumberRow : OpenClaim := { program := "ytghechfdejhapaagreat", sum := "8f6cdf0184fb7f55a48a6a6953dfec5833f9fea868bb72ac805f0277d796648a", func := "loop.example/g03404/laws.FnExactHallNumber", spec := "fnExactHallNumber", unfollowed := true, recurses := true, apart := false }
def FnExactHallNumberSaid : Prop := fnExactHallNumberRow.holds Tryz.pinned (OpenSpec.ofChange fnExactHallNumberSpec)

/-- ITS FALSE NEIGHBOUR: 'it returns false'. Refute it at one input. -/
def fnExactHallNumberWrong : ChangeSpec := { name := "fnExactHallNumber", fn := fun _ => fun
  | [d1, d2, d3] => { results := [.lit (.bool false)], args := [d1, d2, d3] }
  | _ => none }
def FnExactHallNumberWrongFalsely : Prop := fnExactHallNumberRow.holds Tryz.pinned (OpenSpec.ofChange fnExactHallNumberWrong)

/- THE SECOND FORM. 'bulk': how many values and letters a reading holds, each counted each time it is reached (what is shared counts as often as it is met; a slice's spare places count too). A statement '..UptoSaid' is the law's where the arguments, and the package variables that the reading takes, are together of bulk at most 1048576: NARROWER than '..Said'. Prove '..Said' where nothing that the law and all that it calls make is longer than what came in: it says more and counts as full. Else prove '..UptoSaid'. A law counts once. -/
mutual
def uptoBulk {H : Type} : DataW H → Nat
  | .lit (.string bytes) => bytes.length + 1
  | .lit _ => 1
  | .nil => 1
  | .ptr d => uptoBulk d + 1
  | .slice elems spare => uptoBulkAll elems + uptoBulkAll spare + 1
  | .agg parts => uptoBulkAll parts + 1
  | .iface _ d => uptoBulk d + 1
  | .map entries => uptoBulkEntries entries + 1
  | .held _ => 1
def uptoBulkAll {H : Type} : List (DataW H) → Nat
  | [] => 0
  | d :: r => uptoBulk d + uptoBulkAll r
def uptoBulkEntries {H : Type} : List (Lit × DataW H) → Nat
  | [] => 0
  | x :: r => uptoBulkEntry x + uptoBulkEntries r
def uptoBulkEntry {H : Type} : Lit × DataW H → Nat
  | (.string bytes, d) => bytes.length + uptoBulk d + 1
  | (_, d) => uptoBulk d + 1
 end
def uptoSmall : (H : Type) → List (DataW H) → Bool := fun _ ds => decide (uptoBulkAll ds ≤ 1048576)
def OpenSpec.upto (s : _root_.Go.ChangeSpec) : _root_.Go.OpenSpec := { _root_.Go.OpenSpec.ofChange s with cond := some uptoSmall }

/-- 'laws.FnExactClaimOfPair', WHERE WHAT IT READS IS OF BULK AT MOST 1048576: true; the input reads as it did. -/
def fnExactClaimOfPairUptoRow : OpenClaim := { program := "ytghechfdejhapaagreat", sum := "8f6cdf0184fb7f55a48a6a6953dfec5833f9fea868bb72ac805f0277d796648a", func := "loop.example/g03404/laws.FnExactClaimOfPair", spec := "fnExactClaimOfPair", unfollowed := true, recurses := true, apart := false, narrowed := true }
def FnExactClaimOfPairUptoSaid : Prop := fnExactClaimOfPairUptoRow.holds Tryz.pinned (OpenSpec.upto fnExactClaimOfPairSpec)

/-- 'laws.FnExactCountSubs', WHERE WHAT IT READS IS OF BULK AT MOST 1048576: true; the input reads as it did. -/
def fnExactCountSubsUptoRow : OpenClaim := { program := "ytghechfdejhapaagreat", sum := "8f6cdf0184fb7f55a48a6a6953dfec5833f9fea868bb72ac805f0277d796648a", func := "loop.example/g03404/laws.FnExactCountSubs", spec := "fnExactCountSubs", unfollowed := true, recurses := true, apart := false, narrowed := true }
def FnExactCountSubsUptoSaid : Prop := fnExactCountSubsUptoRow.holds Tryz.pinned (OpenSpec.upto fnExactCountSubsSpec)

/-- 'laws.FnExactIsSemistable', WHERE WHAT IT READS IS OF BULK AT MOST 1048576: true; the input reads as it did. -/
def fnExactIsSemistableUptoRow : OpenClaim := { program := "ytghechfdejhapaagreat", sum := "8f6cdf0184fb7f55a48a6a6953dfec5833f9fea868bb72ac805f0277d796648a", func := "loop.example/g03404/laws.FnExactIsSemistable", spec := "fnExactIsSemistable", unfollowed := true, recurses := true, apart := false, narrowed := true }
def FnExactIsSemistableUptoSaid : Prop := fnExactIsSemistableUptoRow.holds Tryz.pinned (OpenSpec.upto fnExactIsSemistableSpec)

/-- 'laws.FnExactIsStable', WHERE WHAT IT READS IS OF BULK AT MOST 1048576: true; the input reads as it did. -/
def fnExactIsStableUptoRow : OpenClaim := { program := "ytghechfdejhapaagreat", sum := "8f6cdf0184fb7f55a48a6a6953dfec5833f9fea868bb72ac805f0277d796648a", func := "loop.example/g03404/laws.FnExactIsStable", spec := "fnExactIsStable", unfollowed := true, recurses := true, apart := false, narrowed := true }
def FnExactIsStableUptoSaid : Prop := fnExactIsStableUptoRow.holds Tryz.pinned (OpenSpec.upto fnExactIsStableSpec)

/-- 'laws.FnExactSubsWith', WHERE WHAT IT READS IS OF BULK AT MOST 1048576: true; the input reads as it did. -/
def fnExactSubsWithUptoRow : OpenClaim := { program := "ytghechfdejhapaagreat", sum := "8f6cdf0184fb7f55a48a6a6953dfec5833f9fea868bb72ac805f0277d796648a", func := "loop.example/g03404/laws.FnExactSubsWith", spec := "fnExactSubsWith", unfollowed := true, recurses := true, apart := false, narrowed := true }
def FnExactSubsWithUptoSaid : Prop := fnExactSubsWithUptoRow.holds Tryz.pinned (OpenSpec.upto fnExactSubsWithSpec)

/-- 'laws.FnExactAllSubs', WHERE WHAT IT READS IS OF BULK AT MOST 1048576: true; the input reads as it did. -/
def fnExactAllSubsUptoRow : OpenClaim := { program := "ytghechfdejhapaagreat", sum := "8f6cdf0184fb7f55a48a6a6953dfec5833f9fea868bb72ac805f0277d796648a", func := "loop.example/g03404/laws.FnExactAllSubs", spec := "fnExactAllSubs", unfollowed := true, recurses := true, apart := false, narrowed := true }
def FnExactAllSubsUptoSaid : Prop := fnExactAllSubsUptoRow.holds Tryz.pinned (OpenSpec.upto fnExactAllSubsSpec)

/-- 'laws.FnExactMaximalSub', WHERE WHAT IT READS IS OF BULK AT MOST 1048576: true; the input reads as it did. -/
def fnExactMaximalSubUptoRow : OpenClaim := { program := "ytghechfdejhapaagreat", sum := "8f6cdf0184fb7f55a48a6a6953dfec5833f9fea868bb72ac805f0277d796648a", func := "loop.example/g03404/laws.FnExactMaximalSub", spec := "fnExactMaximalSub", unfollowed := true, recurses := true, apart := false, narrowed := true }
def FnExactMaximalSubUptoSaid : Prop := fnExactMaximalSubUptoRow.holds Tryz.pinned (OpenSpec.upto fnExactMaximalSubSpec)

/-- 'laws.FnExactSlopeFiltration', WHERE WHAT IT READS IS OF BULK AT MOST 1048576: true; the input reads as it did. -/
def fnExactSlopeFiltrationUptoRow : OpenClaim := { program := "ytghechfdejhapaagreat", sum := "8f6cdf0184fb7f55a48a6a6953dfec5833f9fea868bb72ac805f0277d796648a", func := "loop.example/g03404/laws.FnExactSlopeFiltration", spec := "fnExactSlopeFiltration", unfollowed := true, recurses := true, apart := false, narrowed := true }
def FnExactSlopeFiltrationUptoSaid : Prop := fnExactSlopeFiltrationUptoRow.holds Tryz.pinned (OpenSpec.upto fnExactSlopeFiltrationSpec)

/-- 'laws.FnExactClaimOfSlope', WHERE WHAT IT READS IS OF BULK AT MOST 1048576: true; the input reads as it did. -/
def fnExactClaimOfSlopeUptoRow : OpenClaim := { program := "ytghechfdejhapaagreat", sum := "8f6cdf0184fb7f55a48a6a6953dfec5833f9fea868bb72ac805f0277d796648a", func := "loop.example/g03404/laws.FnExactClaimOfSlope", spec := "fnExactClaimOfSlope", unfollowed := true, recurses := true, apart := false, narrowed := true }
def FnExactClaimOfSlopeUptoSaid : Prop := fnExactClaimOfSlopeUptoRow.holds Tryz.pinned (OpenSpec.upto fnExactClaimOfSlopeSpec)

/-- 'laws.FnExactHallNumber', WHERE WHAT IT READS IS OF BULK AT MOST 1048576: true; the input reads as it did. -/
def fnExactHallNumberUptoRow : OpenClaim := { program := "ytghechfdejhapaagreat", sum := "8f6cdf0184fb7f55a48a6a6953dfec5833f9fea868bb72ac805f0277d796648a", func := "loop.example/g03404/laws.FnExactHallNumber", spec := "fnExactHallNumber", unfollowed := true, recurses := true, apart := false, narrowed := true }
def FnExactHallNumberUptoSaid : Prop := fnExactHallNumberUptoRow.holds Tryz.pinned (OpenSpec.upto fnExactHallNumberSpec)

end Rows
end Go.Proofs.YtghechfdejhapaaGreat

/-
  Several texts of the claim in one.
-/
import Derived.RangeFuncSeq
import Derived.Test.YtilpfdokmlanjaaGreatDoorH8
set_option linter.unusedVariables false
set_option linter.unusedSimpArgs false
namespace Go.Proofs.YtilpfdokmlanjaaGreatDoor
open Go.RowKit
end Go.Proofs.YtilpfdokmlanjaaGreatDoor

/-
  Several texts of the claim in one.
-/
import Derived.RangeFuncBox
import Derived.Test.YtdoejgaomlmgeaaGreatDoorH11
set_option linter.unusedVariables false
set_option linter.unusedSimpArgs false
namespace Go.Proofs.YtdoejgaomlmgeaaGreatDoor
open Go.RowKit
noncomputable section
set_option maxRecDepth 10000
end
end Go.Proofs.YtdoejgaomlmgeaaGreatDoor

/-
  Several texts of the claim in one.
-/
import Derived.RangeFuncBox
import Derived.Test.YtpppcfhgaehcjaaGreatDoorH11
set_option linter.unusedVariables false
set_option linter.unusedSimpArgs false
namespace Go.Proofs.YtpppcfhgaehcjaaGreatDoor
open Go.RowKit
noncomputable section
set_option maxRecDepth 10000
end
end Go.Proofs.YtpppcfhgaehcjaaGreatDoor

/-
  Several texts of the claim in one.
-/
import Derived.RangeFuncBox
import Derived.Test.YtgkfbfiiaphgoaaGreatL11
set_option linter.unusedVariables false
set_option linter.unusedSimpArgs false
namespace Go.Proofs.YtgkfbfiiaphgoaaGreat
open Go.RowKit
noncomputable section
set_option maxRecDepth 10000
end
end Go.Proofs.YtgkfbfiiaphgoaaGreat

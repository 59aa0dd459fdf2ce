/-
  Several texts of the claim in one.
-/
import Derived.RangeFuncFrom
import Derived.Test.YtgkfbfiiaphgoaaGreatL9
set_option linter.unusedVariables false
set_option linter.unusedSimpArgs false
namespace Go.Proofs.YtgkfbfiiaphgoaaGreat
open Go.RowKit
noncomputable section
set_option maxRecDepth 10000
end
noncomputable section
set_option maxRecDepth 10000
set_option maxHeartbeats 4000000
end
end Go.Proofs.YtgkfbfiiaphgoaaGreat

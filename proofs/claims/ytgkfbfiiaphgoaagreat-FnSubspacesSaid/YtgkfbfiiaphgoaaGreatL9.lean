/-
  Several texts of the claim in one.
-/
import Derived.RangeFuncSeq
import Derived.Test.YtgkfbfiiaphgoaaGreatL8
set_option linter.unusedVariables false
set_option linter.unusedSimpArgs false
namespace Go.Proofs.YtgkfbfiiaphgoaaGreat
open Go.RowKit
end Go.Proofs.YtgkfbfiiaphgoaaGreat

/-
  Several texts of the claim in one: each begins with its own remark.
-/
import Derived.RangeFuncSeq
import Derived.Test.YtdhjmmnjapkmkaaH9
section
set_option linter.unusedVariables false
set_option linter.unusedSimpArgs false

namespace Go.Proofs.Ytdhjmmnjapkmkaa
open Go.RowKit
set_option linter.unusedVariables false
end Go.Proofs.Ytdhjmmnjapkmkaa
end

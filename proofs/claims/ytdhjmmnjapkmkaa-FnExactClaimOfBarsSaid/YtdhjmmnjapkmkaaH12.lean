/-
  Several texts of the claim in one: each begins with its own remark.
-/
import Derived.Shelf.Bits.Mul64
import Derived.Test.YtdhjmmnjapkmkaaH11
section
set_option linter.unusedVariables false
set_option linter.unusedSimpArgs false

namespace Go.Proofs.Ytdhjmmnjapkmkaa
open Go.RowKit
set_option linter.unusedVariables false
set_option maxRecDepth 10000
end Go.Proofs.Ytdhjmmnjapkmkaa
end

section
set_option linter.unusedVariables false
set_option linter.unusedSimpArgs false

namespace Go.Proofs.Ytdhjmmnjapkmkaa
open Go.RowKit
set_option linter.unusedVariables false
set_option maxRecDepth 10000
end Go.Proofs.Ytdhjmmnjapkmkaa
end

/-
  Several texts of the claim in one: each begins with its own remark.
-/
import Derived.RangeFuncBox
import Derived.Test.YtdhjmmnjapkmkaaH12
section
set_option linter.unusedVariables false
set_option linter.unusedSimpArgs false

namespace Go.Proofs.Ytdhjmmnjapkmkaa
open Go.RowKit
set_option linter.unusedVariables false
set_option maxRecDepth 10000
section
variable {P : Program} {dst : Option Tmp} {ty : TypeId} {pos : String} {aft : Array Edge} {g : Option (Nat × Bool)} {ins : Operand → Option AV} {hp : Hp} {κ : Kp}
end
end Go.Proofs.Ytdhjmmnjapkmkaa
end

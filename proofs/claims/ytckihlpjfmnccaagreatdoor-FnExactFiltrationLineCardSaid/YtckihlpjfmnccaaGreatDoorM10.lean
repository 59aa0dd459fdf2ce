/- Several texts. -/
import Derived.Shelf.Bits.Mul64
import Derived.Test.YtckihlpjfmnccaaGreatDoorM9
set_option linter.unusedVariables false
set_option linter.unusedSimpArgs false
set_option maxRecDepth 10000
namespace Go.Proofs.YtckihlpjfmnccaaGreatDoor
open Go.RowKit
section
end
end Go.Proofs.YtckihlpjfmnccaaGreatDoor

/- Several texts. -/
import Derived.RangeFuncBox
import Derived.Test.YtckihlpjfmnccaaGreatDoorM10
set_option linter.unusedVariables false
set_option linter.unusedSimpArgs false
namespace Go.Proofs.YtckihlpjfmnccaaGreatDoor
open Go.RowKit
section
set_option maxRecDepth 10000
end
end Go.Proofs.YtckihlpjfmnccaaGreatDoor

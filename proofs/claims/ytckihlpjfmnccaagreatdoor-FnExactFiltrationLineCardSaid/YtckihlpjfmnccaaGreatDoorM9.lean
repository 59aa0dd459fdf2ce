/- Several texts. -/
import Derived.RangeFuncFrom
import Derived.Test.YtckihlpjfmnccaaGreatDoorM8
set_option linter.unusedVariables false
set_option linter.unusedSimpArgs false
set_option maxRecDepth 10000
namespace Go.Proofs.YtckihlpjfmnccaaGreatDoor
open Go.RowKit
section
set_option maxHeartbeats 4000000
end
end Go.Proofs.YtckihlpjfmnccaaGreatDoor

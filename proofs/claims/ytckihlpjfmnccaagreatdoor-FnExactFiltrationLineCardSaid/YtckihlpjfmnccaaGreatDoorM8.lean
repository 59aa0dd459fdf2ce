/- Several texts. -/
import Derived.RangeFuncSeq
import Derived.Test.YtckihlpjfmnccaaGreatDoorM7
set_option linter.unusedVariables false
set_option linter.unusedSimpArgs false
namespace Go.Proofs.YtckihlpjfmnccaaGreatDoor
open Go.RowKit
end Go.Proofs.YtckihlpjfmnccaaGreatDoor

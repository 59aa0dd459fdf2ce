/-
  Several texts of the claim in one: each begins with its own remark.
-/
import Derived.Laws.Bits64b
import Derived.Test.YtdhjmmnjapkmkaaH13
section
set_option linter.unusedVariables false
set_option linter.unusedSimpArgs false

namespace Go.Proofs.Ytdhjmmnjapkmkaa
open Go.RowKit
set_option linter.unusedVariables false
section
variable {P : Program} {dst : Option Tmp} {ty : TypeId} {pos : String} {aft : Array Edge} {g : Option (Nat × Bool)} {s : AState}
end
end Go.Proofs.Ytdhjmmnjapkmkaa
end

section
set_option linter.unusedVariables false
set_option linter.unusedSimpArgs false

namespace Go.Proofs.Ytdhjmmnjapkmkaa
open Go.RowKit
set_option linter.unusedVariables false
end Go.Proofs.Ytdhjmmnjapkmkaa
end

section
set_option linter.unusedVariables false
set_option linter.unusedSimpArgs false

namespace Go.Proofs.Ytdhjmmnjapkmkaa
open Go.RowKit
set_option linter.unusedVariables false
section
variable {w : World} {h1 h2 : Hp} {u1 u2 : Us} {ν1 ν2 : Nu} {rl : List Nat} (H : ∀ b ∈ rl, h2 b = h1 b) (N : ∀ b ∈ rl, ν2 b = ν1 b) (U : ∀ b ∈ rl, u2 b = true) (FF : ∀ x, FreeO h1 ν1 x → FreeO h2 ν2 x)
include H N U FF
end
section
variable {w : World} {h : Hp} {u : Us} {ν : Nu} {touch : List Nat}
end
section
variable {P : Program} {dst : Option Tmp} {ty : TypeId} {pos : String} {aft : Array Edge} {g : Option (Nat × Bool)} {ins : Operand → Option AV} {hp : Hp} {κ : Kp}
end
section
variable {P : Program} {ops : Array Oper} {nt : Nat} {l : List Oper} {s : AState} {K : AState → Prop} {dst : Option Tmp} {ty : TypeId} {pos : String} {aft : Array Edge}
end
end Go.Proofs.Ytdhjmmnjapkmkaa
end

section
set_option linter.unusedVariables false
set_option linter.unusedSimpArgs false

namespace Go.Proofs.Ytdhjmmnjapkmkaa
open Go.RowKit
set_option linter.unusedVariables false
section
variable {P : Program} {dst : Option Tmp} {ty : TypeId}
end
section
variable {P : Program} {T : List (Nat × Ty)} (hT : TyOk P T) {dst : Option Tmp} {ty : TypeId} {pos : String} {aft : Array Edge} {g : Option (Nat × Bool)} {s : AState} {α : Type} {k : Nat} {e : α → List AV}
include hT
end
end Go.Proofs.Ytdhjmmnjapkmkaa
end

section
set_option linter.unusedVariables false
set_option linter.unusedSimpArgs false

namespace Go.Proofs.Ytdhjmmnjapkmkaa
open Go.RowKit
set_option linter.unusedVariables false
section
variable {P : Program} {T : List (Nat × Ty)} (hT : TyOk P T) {dst : Option Tmp} {dty : TypeId} {pos : String} {aft : Array Edge} {g : Option (Nat × Bool)} {s : AState}
include hT
end
end Go.Proofs.Ytdhjmmnjapkmkaa
end

section
set_option linter.unusedVariables false
set_option linter.unusedSimpArgs false

namespace Go.Proofs.Ytdhjmmnjapkmkaa
open Go.RowKit
set_option linter.unusedVariables false
section
variable {P : Program} {dst : Option Tmp} {ty : TypeId} {pos : String} {aft : Array Edge} {g : Option (Nat × Bool)} {s : AState}
end
section
variable {P : Program} {dst : Option Tmp} {ty : TypeId} {pos : String} {aft : Array Edge} {g : Option (Nat × Bool)} {s : AState}
end
section
variable {P : Program} {T : List (Nat × Ty)} (hT : TyOk P T) {dst : Option Tmp} {ty : TypeId} {pos : String} {aft : Array Edge} {g : Option (Nat × Bool)} {s : AState} {α : Type} {k : Nat} {e : α → List AV}
include hT
end
end Go.Proofs.Ytdhjmmnjapkmkaa
end

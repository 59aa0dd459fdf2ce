/-
  Several texts of the claim in one: each begins with its own remark.
-/
import Derived.RangeFuncFrom
import Derived.Test.YtihbegpgoekbdaaH9
section
set_option linter.unusedVariables false
set_option linter.unusedSimpArgs false
/-
  Loops over a function in whose rounds the caller's code runs (2): all boxes below a bound, what is asked of the function that yields them, the rule for the loop. No program stands in this text.
-/
namespace Go.Proofs.Ytihbegpgoekbdaa
open Go.RowKit
set_option linter.unusedVariables false

/-! ## what stays, by way of two states -/
end Go.Proofs.Ytihbegpgoekbdaa
end

section
set_option linter.unusedVariables false
set_option linter.unusedSimpArgs false
/-
  Loops over a function in whose rounds the caller's code runs (3): the rule for a loop over the boxes. No program stands in this text.
-/
namespace Go.Proofs.Ytihbegpgoekbdaa
open Go.RowKit
set_option linter.unusedVariables false

theorem Sim.shrink {C : Ctx} {e : Nat → Option AV} {h g : Hp} {u : Us} {ns ns' : List Nat} {kp : Kp} {ν : Nu} {a : Act} {w : World} (hs : Sim C ⟨e, h, u, ns, kp⟩ ν a w) (hg : ∀ b blk, g b = some blk → h b = some blk) : Sim C ⟨e, g, u, ns', kp⟩ ν a w := by
  have shr := (Ext.refl w h u ν).shrink hg
  obtain ⟨φ, hφ⟩ := hs.heap
  exact ⟨hs.below, hs.base, hs.fresh, hs.defers, hs.size, fun t x hx => by obtain ⟨v, h1, h2⟩ := hs.env t x hx; exact ⟨v, h1, RepA.ext shr h2⟩, ⟨φ, hφ.shrink hg fun _ _ _ _ h => h⟩, hs.kp, ⟨hs.ext.used, fun b blk hb hgb => hs.ext.old b blk hb (hg b blk hgb), fun x hx hf => ⟨(hs.ext.free x hx hf).1, fun b blk β c hb hν => (hs.ext.free x hx hf).2 b blk β c (hg b blk hb) hν⟩, hs.ext.okE⟩, hs.szE, hs.okM, hs.okF⟩

end Go.Proofs.Ytihbegpgoekbdaa
end

section
set_option linter.unusedVariables false
set_option linter.unusedSimpArgs false
/-
  Loops over a function in whose rounds the caller's code runs (4): the function that yields, from two pieces of its code. No program stands in this text.
-/
namespace Go.Proofs.Ytihbegpgoekbdaa
open Go.RowKit
set_option linter.unusedVariables false

end Go.Proofs.Ytihbegpgoekbdaa
end

section
set_option linter.unusedVariables false
set_option linter.unusedSimpArgs false
/-
  impl.boxes: what it yields.
-/
namespace Go.Proofs.Ytihbegpgoekbdaa
open Go.RowKit
set_option linter.unusedVariables false
set_option maxRecDepth 10000

/-! ## the next box -/
end Go.Proofs.Ytihbegpgoekbdaa
end

section
set_option linter.unusedVariables false
set_option linter.unusedSimpArgs false
/-
  impl.boxes$1 yields the boxes.
-/
namespace Go.Proofs.Ytihbegpgoekbdaa
open Go.RowKit
set_option linter.unusedVariables false
set_option maxRecDepth 10000
set_option maxHeartbeats 4000000

end Go.Proofs.Ytihbegpgoekbdaa
end

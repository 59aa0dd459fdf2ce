/-
  Several texts of the claim in one.
-/
import Derived.RangeFuncFrom
import Derived.Test.YtilpfdokmlanjaaGreatDoorH9
set_option linter.unusedVariables false
set_option linter.unusedSimpArgs false
namespace Go.Proofs.YtilpfdokmlanjaaGreatDoor
open Go.RowKit
noncomputable section
theorem Sim.shrink {C:Ctx} {e:Nat→Option AV} {h g:Hp} {u:Us} {ns ns':List Nat} {kp:Kp} {ν:Nu} {a:Act} {w:World} (hs:Sim C ⟨e,h,u,ns,kp⟩ ν a w) (hg: ∀ b blk,g b=some blk→h b=some blk):Sim C ⟨e,g,u,ns',kp⟩ ν a w:=by
 have shr:=(Ext.refl w h u ν).shrink hg;obtain ⟨φ,hφ⟩:=hs.heap;exact ⟨hs.below,hs.base,hs.fresh,hs.defers,hs.size,λt x hx=>by obtain ⟨v,h1,h2⟩:=hs.env t x hx;exact ⟨v,h1,RepA.ext shr h2⟩,⟨φ,hφ.shrink hg λ_ _ _ _ h=>h⟩,hs.kp,⟨hs.ext.used,λb blk hb hgb=>hs.ext.old b blk hb (hg b blk hgb),λx hx hf=>⟨(hs.ext.free x hx hf).1,λb blk β c hb hν=>(hs.ext.free x hx hf).2 b blk β c (hg b blk hb) hν⟩,hs.ext.okE⟩,hs.szE,hs.okM,hs.okF⟩
end
noncomputable section
set_option maxRecDepth 10000
end
noncomputable section
set_option maxRecDepth 10000
set_option maxHeartbeats 4000000
end
end Go.Proofs.YtilpfdokmlanjaaGreatDoor

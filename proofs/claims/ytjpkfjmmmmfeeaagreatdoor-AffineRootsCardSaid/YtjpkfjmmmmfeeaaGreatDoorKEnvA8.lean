/-
 The affine laws' list of package-level variables: what EnvA wants.
-/
import Derived.Test.YtjpkfjmmmmfeeaaGreatDoorKAFits
import Derived.Test.YtjpkfjmmmmfeeaaGreatDoorKACompute
import Derived.Test.YtjpkfjmmmmfeeaaGreatDoorKExtra0
import Derived.Test.YtjpkfjmmmmfeeaaGreatDoorKExtra1
set_option linter.unusedVariables false
namespace Go.Proofs.YtjpkfjmmmmfeeaaGreatDoor
open Go Go.ChangeShapes Go.WideShapes Go.ChangeAt Go.RowKit Go.Lib Go.WideMaps Go.Joins
theorem gFailsA:Tryz.prog.globalNamed "yardstick/affine.errFails" = some 0 := by kernel_rfl
theorem gFailsAType:(Tryz.prog.globals[0]?).map (·.type)=some 129 := by kernel_rfl
theorem envA_of_laid {W:World} (h:laidMetH Tryz.prog lawLaid8 W):∃ a0 a1,EnvA a0 a1 W:=by
 have env:=env8_of_laid h
 rw [MakeChecks.laidMetH_plain _ _ _ (by kernel_rfl)] at h
 obtain ⟨a,s,hv,_⟩:=laid_sentinel (r:=lawLaid8.drop 7) h.tail.tail.tail.tail.tail.tail gFails gFailsType Tryz.underlying129 rowError Tryz.underlying283 Tryz.underlying285 rfl rfl Tryz.underlying9 (by kernel_rfl) (by kernel_rfl)
 obtain ⟨b,t,hw,_⟩:=laid_sentinel (r:=lawLaid8.drop 8) h.tail.tail.tail.tail.tail.tail.tail gFailsA gFailsAType Tryz.underlying129 rowError Tryz.underlying283 Tryz.underlying285 rfl rfl Tryz.underlying9 (by kernel_rfl) (by kernel_rfl)
 refine ⟨a,b,⟨⟨env,?_⟩,?_⟩⟩
 ·have:=World.var?_cell gFails hv 0
  simpa using this
 ·have:=World.var?_cell gFailsA hw 0
  simpa using this
end Go.Proofs.YtjpkfjmmmmfeeaaGreatDoor

/-
  The drift laws' list of package-level variables: what Env wants.
-/
import Derived.Test.YtngohpgkceedeaaGreatDoorKDPlain
set_option linter.unusedVariables false
namespace Go.Proofs.YtngohpgkceedeaaGreatDoor
open Go Go.ChangeShapes Go.WideShapes Go.ChangeAt Go.RowKit Go.Lib Go.WideMaps Go.Joins

/-- The list, the same in each row of this seat's drift laws but DriftUntil's. -/
abbrev lawLaid12 : List (String × DataW Unit) := Rows.driftContradictsRow.laid
theorem env12_of_laid {W : World} (h : laidMetH Tryz.prog lawLaid12 W) : Env W := by
  rw [MakeChecks.laidMetH_plain _ _ _ (by kernel_rfl)] at h
  refine ⟨?_, iface_of_reads (Lib.laidMet.reads h (.tail _ (.tail _ (.tail _ (.tail _ (.tail _ (.head _))))))) gSyntax gSyntaxType Tryz.underlying147, iface_of_reads (Lib.laidMet.reads h (.tail _ (.tail _ (.tail _ (.tail _ (.head _)))))) gRange gRangeType Tryz.underlying147⟩
  exact Lib.tabIs_of_head (rest := lawLaid12.drop 3) gPow gPowType Tryz.underlying254 Tryz.underlying217 cellsU64 cellsPow h.tail.tail
/-- A world that meets the list. -/
noncomputable def lawWorld12 (os : Os) : World := World.laidAll Tryz.prog os lawLaid12
theorem laid_met12 (os : Os) (args : Array Value) : laidMetH Tryz.prog lawLaid12 ((lawWorld12 os).forCall (fun _ _ => 0) ⟨#[], args, []⟩).memory := by
  rw [MakeChecks.laidMetH_plain _ _ _ (by kernel_rfl)]
  exact laidMet_laidAll _ (by kernel_rfl) (by kernel_rfl)
end Go.Proofs.YtngohpgkceedeaaGreatDoor

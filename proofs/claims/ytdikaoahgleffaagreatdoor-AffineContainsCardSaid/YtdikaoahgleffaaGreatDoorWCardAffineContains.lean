/-
  AffineContains: the card.
-/
import Derived.Test.YtdikaoahgleffaaGreatDoorWRowAffineContains
namespace Go.Proofs.YtdikaoahgleffaaGreatDoor
open Go
theorem affineContains.main : Tryz.pinned.checked.prog.mainIs = some (Rows.affineContainsCard.stood.harness.1, Rows.affineContainsCard.stood.harness.2.toList) := by kernel_rfl
theorem affineContains.goes : false = Rows.affineContainsRow.goesBy Tryz.pinned.checked.prog := by kernel_rfl
theorem affineContains.plain (f : FuncId) (fn : Func) (hf : Tryz.pinned.checked.prog.funcNamed "yardstick/yardsticklaw08.AffineContains" = some f) (hfn : Tryz.pinned.checked.prog.funcs[f]? = some fn) :
    true = Tryz.pinned.checked.prog.looks [] ∧ ∀ (j : Nat) t, fn.params[j]? = some t → Tryz.pinned.checked.prog.wantsStandIn t = false := by
  obtain rfl : f = 3 := Option.some.inj ((show Tryz.prog.funcNamed "yardstick/yardsticklaw08.AffineContains" = some 3 by kernel_rfl).symm.trans hf) |>.symm
  obtain rfl : fn = Tryz.f3 := (Option.some.inj (Tryz.func3.symm.trans hfn)).symm
  refine ⟨by kernel_rfl, fun j t ht => ?_⟩
  rw [Tryz.params3] at ht
  have hm : t ∈ [24, 24, 22, 3, 3, 3, 3] := by simpa using Array.mem_of_getElem? ht
  have hall : ([24, 24, 22, 3, 3, 3, 3].all fun u => !Tryz.prog.wantsStandIn u) = true := by kernel_rfl
  exact (show Tryz.prog.wantsStandIn t = false by simpa using List.all_eq_true.1 hall t hm)
/-- The card: AffineContains. -/
theorem affineContains_card : Rows.AffineContainsCardSaid :=
  Claim7.holds_tied_plain_at .later [] _ _ _ _ affineContains.said (fun _ h => by cases h) (by kernel_rfl) (fun _ h => by cases h) affineContains_row_tie rfl ⟨rfl, rfl⟩ affineContains.main rfl affineContains.plain affineContains.goes
#print axioms affineContains_card
end Go.Proofs.YtdikaoahgleffaaGreatDoor

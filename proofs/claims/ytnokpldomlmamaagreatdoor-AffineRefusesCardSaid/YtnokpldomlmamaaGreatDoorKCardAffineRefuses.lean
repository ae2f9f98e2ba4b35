/-
 AffineRefuses: the card.
-/
import Derived.Test.YtnokpldomlmamaaGreatDoorKRowAffineRefuses
import Derived.Test.YtnokpldomlmamaaGreatDoorKExtraR
namespace Go.Proofs.YtnokpldomlmamaaGreatDoor
open Go
theorem affineRefuses.main:Tryz.pinned.checked.prog.mainIs=some (Rows.affineRefusesCard.stood.harness.1,Rows.affineRefusesCard.stood.harness.2.toList):=by kernel_rfl
theorem affineRefuses.goes:false=Rows.affineRefusesRow.goesBy Tryz.pinned.checked.prog:=by kernel_rfl
/-- The card: AffineRefuses. -/
theorem affineRefuses_card:Rows.AffineRefusesCardSaid :=
 Claim7.holds_tied_plain_at .later [] _ _ _ _ affineRefuses.said (fun _ h=>by cases h) (by kernel_rfl) (fun _ h=>by cases h) affineRefuses_row_tie rfl ⟨rfl,rfl⟩ affineRefuses.main rfl affineRefuses.plain affineRefuses.goes
#print axioms affineRefuses_card
end Go.Proofs.YtnokpldomlmamaaGreatDoor

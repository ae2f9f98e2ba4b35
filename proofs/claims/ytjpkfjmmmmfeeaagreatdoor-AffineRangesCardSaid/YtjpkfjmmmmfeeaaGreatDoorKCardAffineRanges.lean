/-
 AffineRanges: the card.
-/
import Derived.Test.YtjpkfjmmmmfeeaaGreatDoorKRowAffineRanges
import Derived.Test.YtjpkfjmmmmfeeaaGreatDoorKExtra0
namespace Go.Proofs.YtjpkfjmmmmfeeaaGreatDoor
open Go
theorem affineRanges.main:Tryz.pinned.checked.prog.mainIs=some (Rows.affineRangesCard.stood.harness.1,Rows.affineRangesCard.stood.harness.2.toList):=by kernel_rfl
theorem affineRanges.goes:false=Rows.affineRangesRow.goesBy Tryz.pinned.checked.prog:=by kernel_rfl
/-- The card: AffineRanges. -/
theorem affineRanges_card:Rows.AffineRangesCardSaid :=
 Claim7.holds_tied_plain_at .later [] _ _ _ _ affineRanges.said (fun _ h=>by cases h) (by kernel_rfl) (fun _ h=>by cases h) affineRanges_row_tie rfl ⟨rfl,rfl⟩ affineRanges.main rfl affineRanges.plain affineRanges.goes
#print axioms affineRanges_card
end Go.Proofs.YtjpkfjmmmmfeeaaGreatDoor

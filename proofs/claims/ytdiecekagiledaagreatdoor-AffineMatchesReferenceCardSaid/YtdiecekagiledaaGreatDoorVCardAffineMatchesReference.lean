/- AffineMatchesReference: the card. -/
import Derived.Test.YtdiecekagiledaaGreatDoorVRowAffineMatchesReference
namespace Go.Proofs.YtdiecekagiledaaGreatDoor
open Go
theorem affineMatchesReference.main:Tryz.pinned.checked.prog.mainIs=some (Rows.affineMatchesReferenceCard.stood.harness.1,Rows.affineMatchesReferenceCard.stood.harness.2.toList):=by kernel_rfl
theorem affineMatchesReference.goes:false=Rows.affineMatchesReferenceRow.goesBy Tryz.pinned.checked.prog:=by kernel_rfl
theorem affineMatchesReference_card:Rows.AffineMatchesReferenceCardSaid :=
 Claim7.holds_tied_plain_at .later [] _ _ _ _ affineMatchesReference.said (fun _ h=>by cases h) kr9 (fun _ h=>by cases h) affineMatchesReference_row_tie rfl ⟨rfl,rfl⟩ affineMatchesReference.main rfl affineMatchesReference.plain affineMatchesReference.goes
#print axioms affineMatchesReference_card
end Go.Proofs.YtdiecekagiledaaGreatDoor

/-
 AffineRoots: the card.
-/
import Derived.Test.YtjpkfjmmmmfeeaaGreatDoorKRowAffineRoots
import Derived.Test.YtjpkfjmmmmfeeaaGreatDoorKExtra0
import Derived.Test.YtjpkfjmmmmfeeaaGreatDoorKExtra1
namespace Go.Proofs.YtjpkfjmmmmfeeaaGreatDoor
open Go
theorem affineRoots.main:Tryz.pinned.checked.prog.mainIs=some (Rows.affineRootsCard.stood.harness.1,Rows.affineRootsCard.stood.harness.2.toList):=by kernel_rfl
theorem affineRoots.goes:false=Rows.affineRootsRow.goesBy Tryz.pinned.checked.prog:=by kernel_rfl
/-- The card: AffineRoots. -/
theorem affineRoots_card:Rows.AffineRootsCardSaid :=
 Claim7.holds_tied_plain_at .later [] _ _ _ _ affineRoots.said (fun _ h=>by cases h) (by kernel_rfl) (fun _ h=>by cases h) affineRoots_row_tie rfl ⟨rfl,rfl⟩ affineRoots.main rfl affineRoots.plain affineRoots.goes
#print axioms affineRoots_card
end Go.Proofs.YtjpkfjmmmmfeeaaGreatDoor

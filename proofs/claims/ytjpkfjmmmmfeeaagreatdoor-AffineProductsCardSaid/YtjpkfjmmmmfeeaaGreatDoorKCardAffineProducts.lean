/-
 AffineProducts: the card.
-/
import Derived.Test.YtjpkfjmmmmfeeaaGreatDoorKRowAffineProducts
import Derived.Test.YtjpkfjmmmmfeeaaGreatDoorKExtra0
namespace Go.Proofs.YtjpkfjmmmmfeeaaGreatDoor
open Go
theorem affineProducts.main:Tryz.pinned.checked.prog.mainIs=some (Rows.affineProductsCard.stood.harness.1,Rows.affineProductsCard.stood.harness.2.toList):=by kernel_rfl
theorem affineProducts.goes:false=Rows.affineProductsRow.goesBy Tryz.pinned.checked.prog:=by kernel_rfl
/-- The card: AffineProducts. -/
theorem affineProducts_card:Rows.AffineProductsCardSaid :=
 Claim7.holds_tied_plain_at .later [] _ _ _ _ affineProducts.said (fun _ h=>by cases h) (by kernel_rfl) (fun _ h=>by cases h) affineProducts_row_tie rfl ⟨rfl,rfl⟩ affineProducts.main rfl affineProducts.plain affineProducts.goes
#print axioms affineProducts_card
end Go.Proofs.YtjpkfjmmmmfeeaaGreatDoor

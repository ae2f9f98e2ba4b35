/-
 AffineCovariance: the card.
-/
import Derived.Test.YtjpkfjmmmmfeeaaGreatDoorKRowAffineCovariance
import Derived.Test.YtjpkfjmmmmfeeaaGreatDoorKExtra0
namespace Go.Proofs.YtjpkfjmmmmfeeaaGreatDoor
open Go
theorem affineCovariance.main:Tryz.pinned.checked.prog.mainIs=some (Rows.affineCovarianceCard.stood.harness.1,Rows.affineCovarianceCard.stood.harness.2.toList):=by kernel_rfl
theorem affineCovariance.goes:false=Rows.affineCovarianceRow.goesBy Tryz.pinned.checked.prog:=by kernel_rfl
/-- The card: AffineCovariance. -/
theorem affineCovariance_card:Rows.AffineCovarianceCardSaid :=
 Claim7.holds_tied_plain_at .later [] _ _ _ _ affineCovariance.said (fun _ h=>by cases h) (by kernel_rfl) (fun _ h=>by cases h) affineCovariance_row_tie rfl ⟨rfl,rfl⟩ affineCovariance.main rfl affineCovariance.plain affineCovariance.goes
#print axioms affineCovariance_card
end Go.Proofs.YtjpkfjmmmmfeeaaGreatDoor

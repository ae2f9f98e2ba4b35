/-
 AffineCancels: the card.
-/
import Derived.Test.YtjpkfjmmmmfeeaaGreatDoorKRowAffineCancels
import Derived.Test.YtjpkfjmmmmfeeaaGreatDoorKExtra0
namespace Go.Proofs.YtjpkfjmmmmfeeaaGreatDoor
open Go
theorem affineCancels.main:Tryz.pinned.checked.prog.mainIs=some (Rows.affineCancelsCard.stood.harness.1,Rows.affineCancelsCard.stood.harness.2.toList):=by kernel_rfl
theorem affineCancels.goes:false=Rows.affineCancelsRow.goesBy Tryz.pinned.checked.prog:=by kernel_rfl
/-- The card: AffineCancels. -/
theorem affineCancels_card:Rows.AffineCancelsCardSaid :=
 Claim7.holds_tied_plain_at .later [] _ _ _ _ affineCancels.said (fun _ h=>by cases h) (by kernel_rfl) (fun _ h=>by cases h) affineCancels_row_tie rfl ⟨rfl,rfl⟩ affineCancels.main rfl affineCancels.plain affineCancels.goes
#print axioms affineCancels_card
end Go.Proofs.YtjpkfjmmmmfeeaaGreatDoor

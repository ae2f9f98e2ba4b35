/-
 DriftMatchesReference: the card: for every input the law returns true. Under the row's own condition: the listed package-level variables hold what the program's text lays (the card ties them to it).
-/
import Derived.Test.YtnokpldomlmamaaGreatDoorORowMatchD
namespace Go.Proofs.YtnokpldomlmamaaGreatDoor
open Go
theorem driftMatchesReference.main:Tryz.pinned.checked.prog.mainIs=some (Rows.driftMatchesReferenceCard.stood.harness.1,Rows.driftMatchesReferenceCard.stood.harness.2.toList):=by kernel_rfl
theorem driftMatchesReference.goes:false=Rows.driftMatchesReferenceRow.goesBy Tryz.pinned.checked.prog:=by kernel_rfl
/-- The card: DriftMatchesReference. -/
theorem driftMatchesReference_card:Rows.DriftMatchesReferenceCardSaid :=
 Claim7.holds_tied_plain_at .later [] _ _ _ _ driftMatchesReference.said (fun _ h=>by cases h) (by kernel_rfl) (fun _ h=>by cases h) driftMatchesReference_row_tie rfl ⟨rfl,rfl⟩ driftMatchesReference.main rfl driftMatchesReference.plain driftMatchesReference.goes
#print axioms driftMatchesReference_card
end Go.Proofs.YtnokpldomlmamaaGreatDoor

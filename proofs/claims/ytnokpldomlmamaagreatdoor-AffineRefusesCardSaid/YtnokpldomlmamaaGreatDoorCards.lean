/-
  DERIVED. GIVEN WITH THE SEED: THE CARDS: each row of YtnokpldomlmamaaGreatDoorRows.lean that lists a variable, with what it lists TIED to the program's text (the seventh form; the later family's looks); each row that meets fmt, with fmt's text TOLD by the authors' own Lean function (tested against real Go, not proved from fmt's source: count such statements apart). THE CARD IS WHAT COUNTS. Prove the row's statement (the work); the ties are given (YtnokpldomlmamaaGreatDoorTie.lean); close each card by the builder's one call (the guide's Derived/Test/ToyasCard.lean, 'card_holds'). Laid BY PROGRAM, IN A SANDBOX (cutbox-door.mjs). By AI agents, Wed Nov 11 2026. No macro, syntax, notation, axiom, sorry.
-/
import Derived.Test.YtnokpldomlmamaaGreatDoorRows
import GoSem.ClaimSeven
namespace Go.Proofs.YtnokpldomlmamaaGreatDoor
namespace Rows

/-- THE TIED CARD OF 'yardsticklaw12.DriftMatchesReference'. -/
def driftMatchesReferenceCard : Claim7 := { stood := { row := driftMatchesReferenceRow, standIns := [], harness := (true, "ddc8704f40d0d52a9a7fd1d5dbd8ee641a70cbc98cb534fccba18671f6fe0e3e"), looks := true }, kinds := [], alts := [], laidByText := true, laidKinds := [.data, .data, .data, .data, .sentinel, .sentinel, .pinned], laidTests := true, laidLooks := .later }
def DriftMatchesReferenceCardSaid : Prop := Claim7.holds Tryz.pinned (.plain (OpenSpec.ofChange driftMatchesReferenceSpec)) driftMatchesReferenceCard

/-- THE TIED CARD OF 'yardsticklaw08.AffineRefuses'. -/
def affineRefusesCard : Claim7 := { stood := { row := affineRefusesRow, standIns := [], harness := (true, "ddc8704f40d0d52a9a7fd1d5dbd8ee641a70cbc98cb534fccba18671f6fe0e3e"), looks := true }, kinds := [], alts := [], laidByText := true, laidKinds := [.data, .data, .data, .data, .sentinel, .sentinel, .sentinel, .sentinel, .pinned], laidTests := true, laidLooks := .later }
def AffineRefusesCardSaid : Prop := Claim7.holds Tryz.pinned (.plain (OpenSpec.ofChange affineRefusesSpec)) affineRefusesCard

/-- THE TIED CARD OF 'yardsticklaw08.AffineContains'. -/
def affineContainsCard : Claim7 := { stood := { row := affineContainsRow, standIns := [], harness := (true, "ddc8704f40d0d52a9a7fd1d5dbd8ee641a70cbc98cb534fccba18671f6fe0e3e"), looks := true }, kinds := [], alts := [], laidByText := true, laidKinds := [.data, .data, .data, .data, .sentinel, .sentinel, .sentinel, .sentinel, .pinned], laidTests := true, laidLooks := .later }
def AffineContainsCardSaid : Prop := Claim7.holds Tryz.pinned (.plain (OpenSpec.ofChange affineContainsSpec)) affineContainsCard

/-- THE SECOND FORM's CARD OF 'yardsticklaw12.DriftMatchesReference'. -/
def driftMatchesReferenceUptoCard : Claim7 := { stood := { row := driftMatchesReferenceUptoRow, standIns := [], harness := (true, "ddc8704f40d0d52a9a7fd1d5dbd8ee641a70cbc98cb534fccba18671f6fe0e3e"), looks := true }, kinds := [], alts := [], laidByText := true, laidKinds := [.data, .data, .data, .data, .sentinel, .sentinel, .pinned], laidTests := true, laidLooks := .later }
def DriftMatchesReferenceUptoCardSaid : Prop := Claim7.holds Tryz.pinned (.plain (OpenSpec.upto driftMatchesReferenceSpec)) driftMatchesReferenceUptoCard

/-- THE SECOND FORM's CARD OF 'yardsticklaw08.AffineRefuses'. -/
def affineRefusesUptoCard : Claim7 := { stood := { row := affineRefusesUptoRow, standIns := [], harness := (true, "ddc8704f40d0d52a9a7fd1d5dbd8ee641a70cbc98cb534fccba18671f6fe0e3e"), looks := true }, kinds := [], alts := [], laidByText := true, laidKinds := [.data, .data, .data, .data, .sentinel, .sentinel, .sentinel, .sentinel, .pinned], laidTests := true, laidLooks := .later }
def AffineRefusesUptoCardSaid : Prop := Claim7.holds Tryz.pinned (.plain (OpenSpec.upto affineRefusesSpec)) affineRefusesUptoCard

/-- THE SECOND FORM's CARD OF 'yardsticklaw08.AffineContains'. -/
def affineContainsUptoCard : Claim7 := { stood := { row := affineContainsUptoRow, standIns := [], harness := (true, "ddc8704f40d0d52a9a7fd1d5dbd8ee641a70cbc98cb534fccba18671f6fe0e3e"), looks := true }, kinds := [], alts := [], laidByText := true, laidKinds := [.data, .data, .data, .data, .sentinel, .sentinel, .sentinel, .sentinel, .pinned], laidTests := true, laidLooks := .later }
def AffineContainsUptoCardSaid : Prop := Claim7.holds Tryz.pinned (.plain (OpenSpec.upto affineContainsSpec)) affineContainsUptoCard
end Rows
end Go.Proofs.YtnokpldomlmamaaGreatDoor

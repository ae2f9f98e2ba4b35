/-
  DERIVED. GIVEN WITH THE SEED: THE CARDS: each row of YtdikaoahgleffaaGreatDoorRows.lean that lists a variable, with what it lists TIED to the program's text (the seventh form; the later family's looks); each row that meets fmt, with fmt's text TOLD by the authors' own Lean function (tested against real Go, not proved from fmt's source: count such statements apart). THE CARD IS WHAT COUNTS. Prove the row's statement (the work); the ties are given (YtdikaoahgleffaaGreatDoorTie.lean); close each card by the builder's one call (the guide's Derived/Test/ToyasCard.lean, 'card_holds'). Laid BY PROGRAM, IN A SANDBOX (cutbox-door.mjs). By AI agents, Wed Nov 11 2026. No macro, syntax, notation, axiom, sorry.
-/
import Derived.Test.YtdikaoahgleffaaGreatDoorRows
import GoSem.ClaimSeven
namespace Go.Proofs.YtdikaoahgleffaaGreatDoor
namespace Rows

/-- THE TIED CARD OF 'yardsticklaw08.AffineContains'. -/
def affineContainsCard : Claim7 := { stood := { row := affineContainsRow, standIns := [], harness := (true, "691a5e41afc011a092aad70d5eee25867602ec9315204f78ce3ad2284c3735d4"), looks := true }, kinds := [], alts := [], laidByText := true, laidKinds := [.data, .data, .data, .data, .sentinel, .sentinel, .sentinel, .sentinel, .pinned], laidTests := true, laidLooks := .later }
def AffineContainsCardSaid : Prop := Claim7.holds Tryz.pinned (.plain (OpenSpec.ofChange affineContainsSpec)) affineContainsCard

/-- THE SECOND FORM's CARD OF 'yardsticklaw08.AffineContains'. -/
def affineContainsUptoCard : Claim7 := { stood := { row := affineContainsUptoRow, standIns := [], harness := (true, "691a5e41afc011a092aad70d5eee25867602ec9315204f78ce3ad2284c3735d4"), looks := true }, kinds := [], alts := [], laidByText := true, laidKinds := [.data, .data, .data, .data, .sentinel, .sentinel, .sentinel, .sentinel, .pinned], laidTests := true, laidLooks := .later }
def AffineContainsUptoCardSaid : Prop := Claim7.holds Tryz.pinned (.plain (OpenSpec.upto affineContainsSpec)) affineContainsUptoCard
end Rows
end Go.Proofs.YtdikaoahgleffaaGreatDoor

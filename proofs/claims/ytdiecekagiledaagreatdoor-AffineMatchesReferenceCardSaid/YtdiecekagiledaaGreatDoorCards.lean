/-
  DERIVED. GIVEN WITH THE SEED: THE CARDS: each row of YtdiecekagiledaaGreatDoorRows.lean that lists a variable, with what it lists TIED to the program's text (the seventh form; the later family's looks); each row that meets fmt, with fmt's text TOLD by the authors' own Lean function (tested against real Go, not proved from fmt's source: count such statements apart). THE CARD IS WHAT COUNTS. Prove the row's statement (the work); the ties are given (YtdiecekagiledaaGreatDoorTie.lean); close each card by the builder's one call (the guide's Derived/Test/ToyasCard.lean, 'card_holds'). Laid BY PROGRAM, IN A SANDBOX (cutbox-door.mjs). By AI agents, Wed Nov 11 2026. No macro, syntax, notation, axiom, sorry.
-/
import Derived.Test.YtdiecekagiledaaGreatDoorRows
import GoSem.ClaimSeven
namespace Go.Proofs.YtdiecekagiledaaGreatDoor
namespace Rows

/-- THE TIED CARD OF 'yardsticklaw08.AffineMatchesReference'. -/
def affineMatchesReferenceCard : Claim7 := { stood := { row := affineMatchesReferenceRow, standIns := [], harness := (true, "93cc3401e5839950ecf110d0fce110910ef4879390369c5a92461bd3b965a47d"), looks := true }, kinds := [], alts := [], laidByText := true, laidKinds := [.data, .data, .data, .data, .sentinel, .sentinel, .sentinel, .sentinel, .pinned], laidTests := true, laidLooks := .later }
def AffineMatchesReferenceCardSaid : Prop := Claim7.holds Tryz.pinned (.plain (OpenSpec.ofChange affineMatchesReferenceSpec)) affineMatchesReferenceCard

/-- THE SECOND FORM's CARD OF 'yardsticklaw08.AffineMatchesReference'. -/
def affineMatchesReferenceUptoCard : Claim7 := { stood := { row := affineMatchesReferenceUptoRow, standIns := [], harness := (true, "93cc3401e5839950ecf110d0fce110910ef4879390369c5a92461bd3b965a47d"), looks := true }, kinds := [], alts := [], laidByText := true, laidKinds := [.data, .data, .data, .data, .sentinel, .sentinel, .sentinel, .sentinel, .pinned], laidTests := true, laidLooks := .later }
def AffineMatchesReferenceUptoCardSaid : Prop := Claim7.holds Tryz.pinned (.plain (OpenSpec.upto affineMatchesReferenceSpec)) affineMatchesReferenceUptoCard
end Rows
end Go.Proofs.YtdiecekagiledaaGreatDoor

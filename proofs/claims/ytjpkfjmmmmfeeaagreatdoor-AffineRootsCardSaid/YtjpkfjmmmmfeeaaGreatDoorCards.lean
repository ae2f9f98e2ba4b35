/-
  DERIVED. GIVEN WITH THE SEED: THE CARDS: each row of YtjpkfjmmmmfeeaaGreatDoorRows.lean that lists a variable, with what it lists TIED to the program's text (the seventh form; the later family's looks); each row that meets fmt, with fmt's text TOLD by the authors' own Lean function (tested against real Go, not proved from fmt's source: count such statements apart). THE CARD IS WHAT COUNTS. Prove the row's statement (the work); the ties are given (YtjpkfjmmmmfeeaaGreatDoorTie.lean); close each card by the builder's one call (the guide's Derived/Test/ToyasCard.lean, 'card_holds'). Laid BY PROGRAM, IN A SANDBOX (cutbox-door.mjs). By AI agents, Wed Nov 11 2026. No macro, syntax, notation, axiom, sorry.
-/
import Derived.Test.YtjpkfjmmmmfeeaaGreatDoorRows
import GoSem.ClaimSeven
namespace Go.Proofs.YtjpkfjmmmmfeeaaGreatDoor
namespace Rows

/-- THE TIED CARD OF 'yardsticklaw08.AffineProducts'. -/
def affineProductsCard : Claim7 := { stood := { row := affineProductsRow, standIns := [], harness := (true, "9b0b012547d7e47de0bd80e54da564b869e5882d4d4d3c5106ff6d70533e8938"), looks := true }, kinds := [], alts := [], laidByText := true, laidKinds := [.data, .data, .data, .data, .sentinel, .sentinel, .sentinel, .sentinel, .pinned], laidTests := true, laidLooks := .later }
def AffineProductsCardSaid : Prop := Claim7.holds Tryz.pinned (.plain (OpenSpec.ofChange affineProductsSpec)) affineProductsCard

/-- THE TIED CARD OF 'yardsticklaw08.AffineCancels'. -/
def affineCancelsCard : Claim7 := { stood := { row := affineCancelsRow, standIns := [], harness := (true, "9b0b012547d7e47de0bd80e54da564b869e5882d4d4d3c5106ff6d70533e8938"), looks := true }, kinds := [], alts := [], laidByText := true, laidKinds := [.data, .data, .data, .data, .sentinel, .sentinel, .sentinel, .sentinel, .pinned], laidTests := true, laidLooks := .later }
def AffineCancelsCardSaid : Prop := Claim7.holds Tryz.pinned (.plain (OpenSpec.ofChange affineCancelsSpec)) affineCancelsCard

/-- THE TIED CARD OF 'yardsticklaw08.AffineCovariance'. -/
def affineCovarianceCard : Claim7 := { stood := { row := affineCovarianceRow, standIns := [], harness := (true, "9b0b012547d7e47de0bd80e54da564b869e5882d4d4d3c5106ff6d70533e8938"), looks := true }, kinds := [], alts := [], laidByText := true, laidKinds := [.data, .data, .data, .data, .sentinel, .sentinel, .sentinel, .sentinel, .pinned], laidTests := true, laidLooks := .later }
def AffineCovarianceCardSaid : Prop := Claim7.holds Tryz.pinned (.plain (OpenSpec.ofChange affineCovarianceSpec)) affineCovarianceCard

/-- THE TIED CARD OF 'yardsticklaw08.AffineRefuses'. -/
def affineRefusesCard : Claim7 := { stood := { row := affineRefusesRow, standIns := [], harness := (true, "9b0b012547d7e47de0bd80e54da564b869e5882d4d4d3c5106ff6d70533e8938"), looks := true }, kinds := [], alts := [], laidByText := true, laidKinds := [.data, .data, .data, .data, .sentinel, .sentinel, .sentinel, .sentinel, .pinned], laidTests := true, laidLooks := .later }
def AffineRefusesCardSaid : Prop := Claim7.holds Tryz.pinned (.plain (OpenSpec.ofChange affineRefusesSpec)) affineRefusesCard

/-- THE TIED CARD OF 'yardsticklaw08.AffineRoots'. -/
def affineRootsCard : Claim7 := { stood := { row := affineRootsRow, standIns := [], harness := (true, "9b0b012547d7e47de0bd80e54da564b869e5882d4d4d3c5106ff6d70533e8938"), looks := true }, kinds := [], alts := [], laidByText := true, laidKinds := [.data, .data, .data, .data, .sentinel, .sentinel, .sentinel, .sentinel, .pinned], laidTests := true, laidLooks := .later }
def AffineRootsCardSaid : Prop := Claim7.holds Tryz.pinned (.plain (OpenSpec.ofChange affineRootsSpec)) affineRootsCard

/-- THE TIED CARD OF 'yardsticklaw08.AffineRanges'. -/
def affineRangesCard : Claim7 := { stood := { row := affineRangesRow, standIns := [], harness := (true, "9b0b012547d7e47de0bd80e54da564b869e5882d4d4d3c5106ff6d70533e8938"), looks := true }, kinds := [], alts := [], laidByText := true, laidKinds := [.data, .data, .data, .data, .sentinel, .sentinel, .sentinel, .sentinel, .pinned], laidTests := true, laidLooks := .later }
def AffineRangesCardSaid : Prop := Claim7.holds Tryz.pinned (.plain (OpenSpec.ofChange affineRangesSpec)) affineRangesCard

/-- THE TIED CARD OF 'yardsticklaw08.AffineContains'. -/
def affineContainsCard : Claim7 := { stood := { row := affineContainsRow, standIns := [], harness := (true, "9b0b012547d7e47de0bd80e54da564b869e5882d4d4d3c5106ff6d70533e8938"), looks := true }, kinds := [], alts := [], laidByText := true, laidKinds := [.data, .data, .data, .data, .sentinel, .sentinel, .sentinel, .sentinel, .pinned], laidTests := true, laidLooks := .later }
def AffineContainsCardSaid : Prop := Claim7.holds Tryz.pinned (.plain (OpenSpec.ofChange affineContainsSpec)) affineContainsCard

/-- THE SECOND FORM's CARD OF 'yardsticklaw08.AffineProducts'. -/
def affineProductsUptoCard : Claim7 := { stood := { row := affineProductsUptoRow, standIns := [], harness := (true, "9b0b012547d7e47de0bd80e54da564b869e5882d4d4d3c5106ff6d70533e8938"), looks := true }, kinds := [], alts := [], laidByText := true, laidKinds := [.data, .data, .data, .data, .sentinel, .sentinel, .sentinel, .sentinel, .pinned], laidTests := true, laidLooks := .later }
def AffineProductsUptoCardSaid : Prop := Claim7.holds Tryz.pinned (.plain (OpenSpec.upto affineProductsSpec)) affineProductsUptoCard

/-- THE SECOND FORM's CARD OF 'yardsticklaw08.AffineCancels'. -/
def affineCancelsUptoCard : Claim7 := { stood := { row := affineCancelsUptoRow, standIns := [], harness := (true, "9b0b012547d7e47de0bd80e54da564b869e5882d4d4d3c5106ff6d70533e8938"), looks := true }, kinds := [], alts := [], laidByText := true, laidKinds := [.data, .data, .data, .data, .sentinel, .sentinel, .sentinel, .sentinel, .pinned], laidTests := true, laidLooks := .later }
def AffineCancelsUptoCardSaid : Prop := Claim7.holds Tryz.pinned (.plain (OpenSpec.upto affineCancelsSpec)) affineCancelsUptoCard

/-- THE SECOND FORM's CARD OF 'yardsticklaw08.AffineCovariance'. -/
def affineCovarianceUptoCard : Claim7 := { stood := { row := affineCovarianceUptoRow, standIns := [], harness := (true, "9b0b012547d7e47de0bd80e54da564b869e5882d4d4d3c5106ff6d70533e8938"), looks := true }, kinds := [], alts := [], laidByText := true, laidKinds := [.data, .data, .data, .data, .sentinel, .sentinel, .sentinel, .sentinel, .pinned], laidTests := true, laidLooks := .later }
def AffineCovarianceUptoCardSaid : Prop := Claim7.holds Tryz.pinned (.plain (OpenSpec.upto affineCovarianceSpec)) affineCovarianceUptoCard

/-- THE SECOND FORM's CARD OF 'yardsticklaw08.AffineRefuses'. -/
def affineRefusesUptoCard : Claim7 := { stood := { row := affineRefusesUptoRow, standIns := [], harness := (true, "9b0b012547d7e47de0bd80e54da564b869e5882d4d4d3c5106ff6d70533e8938"), looks := true }, kinds := [], alts := [], laidByText := true, laidKinds := [.data, .data, .data, .data, .sentinel, .sentinel, .sentinel, .sentinel, .pinned], laidTests := true, laidLooks := .later }
def AffineRefusesUptoCardSaid : Prop := Claim7.holds Tryz.pinned (.plain (OpenSpec.upto affineRefusesSpec)) affineRefusesUptoCard

/-- THE SECOND FORM's CARD OF 'yardsticklaw08.AffineRoots'. -/
def affineRootsUptoCard : Claim7 := { stood := { row := affineRootsUptoRow, standIns := [], harness := (true, "9b0b012547d7e47de0bd80e54da564b869e5882d4d4d3c5106ff6d70533e8938"), looks := true }, kinds := [], alts := [], laidByText := true, laidKinds := [.data, .data, .data, .data, .sentinel, .sentinel, .sentinel, .sentinel, .pinned], laidTests := true, laidLooks := .later }
def AffineRootsUptoCardSaid : Prop := Claim7.holds Tryz.pinned (.plain (OpenSpec.upto affineRootsSpec)) affineRootsUptoCard

/-- THE SECOND FORM's CARD OF 'yardsticklaw08.AffineRanges'. -/
def affineRangesUptoCard : Claim7 := { stood := { row := affineRangesUptoRow, standIns := [], harness := (true, "9b0b012547d7e47de0bd80e54da564b869e5882d4d4d3c5106ff6d70533e8938"), looks := true }, kinds := [], alts := [], laidByText := true, laidKinds := [.data, .data, .data, .data, .sentinel, .sentinel, .sentinel, .sentinel, .pinned], laidTests := true, laidLooks := .later }
def AffineRangesUptoCardSaid : Prop := Claim7.holds Tryz.pinned (.plain (OpenSpec.upto affineRangesSpec)) affineRangesUptoCard

/-- THE SECOND FORM's CARD OF 'yardsticklaw08.AffineContains'. -/
def affineContainsUptoCard : Claim7 := { stood := { row := affineContainsUptoRow, standIns := [], harness := (true, "9b0b012547d7e47de0bd80e54da564b869e5882d4d4d3c5106ff6d70533e8938"), looks := true }, kinds := [], alts := [], laidByText := true, laidKinds := [.data, .data, .data, .data, .sentinel, .sentinel, .sentinel, .sentinel, .pinned], laidTests := true, laidLooks := .later }
def AffineContainsUptoCardSaid : Prop := Claim7.holds Tryz.pinned (.plain (OpenSpec.upto affineContainsSpec)) affineContainsUptoCard
end Rows
end Go.Proofs.YtjpkfjmmmmfeeaaGreatDoor

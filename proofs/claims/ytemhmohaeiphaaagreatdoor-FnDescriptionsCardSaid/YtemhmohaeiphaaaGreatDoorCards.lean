/-
  DERIVED. GIVEN WITH THE SEED: THE CARDS: each row of YtemhmohaeiphaaaGreatDoorRows.lean that lists a variable, with what it lists TIED to the program's text (the seventh form; the later family's looks); each row that meets fmt, with fmt's text TOLD by the authors' own Lean function (tested against real Go, not proved from fmt's source: count such statements apart). THE CARD IS WHAT COUNTS. Prove the row's statement (the work); the ties are given (YtemhmohaeiphaaaGreatDoorTie.lean); close each card by the builder's one call (the guide's Derived/Test/ToyasCard.lean, 'card_holds'). Laid BY PROGRAM, IN A SANDBOX (cutbox-door.mjs). By AI agents, Wed Nov 11 2026. No macro, syntax, notation, axiom, sorry.
-/
import Derived.Test.YtemhmohaeiphaaaGreatDoorRows
import GoSem.ClaimSeven
namespace Go.Proofs.YtemhmohaeiphaaaGreatDoor
namespace Rows

/-- THE TIED CARD OF 'laws.FnPieceStateText'. -/
def fnPieceStateTextCard : Claim7 := { stood := { row := fnPieceStateTextRow, standIns := [], harness := (true, "217c1a3585cc0d514d438b399a39466c86f4152b6e69cb6adf4148baac91d868"), looks := true }, kinds := [], alts := [], laidByText := true, laidKinds := [.data, .data, .data, .data, .sentinel, .sentinel, .pinned], laidTests := true, laidLooks := .later }
def FnPieceStateTextCardSaid : Prop := Claim7.holds Tryz.pinned (.plain (OpenSpec.ofChange fnPieceStateTextSpec)) fnPieceStateTextCard

/-- THE TIED CARD OF 'laws.FnExactParsePieceModel'. -/
def fnExactParsePieceModelCard : Claim7 := { stood := { row := fnExactParsePieceModelRow, standIns := [], harness := (true, "217c1a3585cc0d514d438b399a39466c86f4152b6e69cb6adf4148baac91d868"), looks := true }, kinds := [], alts := [], laidByText := true, laidKinds := [.data, .data, .data, .data, .sentinel, .sentinel, .pinned], laidTests := true, laidLooks := .later }
def FnExactParsePieceModelCardSaid : Prop := Claim7.holds Tryz.pinned (.plain (OpenSpec.ofChange fnExactParsePieceModelSpec)) fnExactParsePieceModelCard

/-- THE TIED CARD OF 'laws.FnDescriptions'. -/
def fnDescriptionsCard : Claim7 := { stood := { row := fnDescriptionsRow, standIns := [], harness := (true, "217c1a3585cc0d514d438b399a39466c86f4152b6e69cb6adf4148baac91d868"), looks := true }, kinds := [], alts := [], laidByText := true, laidKinds := [.data, .data, .data, .data, .sentinel, .sentinel, .pinned], laidTests := true, laidLooks := .later }
def FnDescriptionsCardSaid : Prop := Claim7.holds Tryz.pinned (.plain (OpenSpec.ofChange fnDescriptionsSpec)) fnDescriptionsCard

/-- THE TIED CARD OF 'laws.FnExactParsePuzzle'. -/
def fnExactParsePuzzleCard : Claim7 := { stood := { row := fnExactParsePuzzleRow, standIns := [], harness := (true, "217c1a3585cc0d514d438b399a39466c86f4152b6e69cb6adf4148baac91d868"), looks := true }, kinds := [], alts := [], laidByText := true, laidKinds := [.data, .data, .data, .data, .sentinel, .sentinel, .pinned], laidTests := true, laidLooks := .later }
def FnExactParsePuzzleCardSaid : Prop := Claim7.holds Tryz.pinned (.plain (OpenSpec.ofChange fnExactParsePuzzleSpec)) fnExactParsePuzzleCard

/-- THE TIED CARD OF 'laws.FnExactParsePieceState'. -/
def fnExactParsePieceStateCard : Claim7 := { stood := { row := fnExactParsePieceStateRow, standIns := [], harness := (true, "217c1a3585cc0d514d438b399a39466c86f4152b6e69cb6adf4148baac91d868"), looks := true }, kinds := [], alts := [], laidByText := true, laidKinds := [.data, .data, .data, .data, .sentinel, .sentinel, .pinned], laidTests := true, laidLooks := .later }
def FnExactParsePieceStateCardSaid : Prop := Claim7.holds Tryz.pinned (.plain (OpenSpec.ofChange fnExactParsePieceStateSpec)) fnExactParsePieceStateCard

/-- THE SECOND FORM's CARD OF 'laws.FnPieceStateText'. -/
def fnPieceStateTextUptoCard : Claim7 := { stood := { row := fnPieceStateTextUptoRow, standIns := [], harness := (true, "217c1a3585cc0d514d438b399a39466c86f4152b6e69cb6adf4148baac91d868"), looks := true }, kinds := [], alts := [], laidByText := true, laidKinds := [.data, .data, .data, .data, .sentinel, .sentinel, .pinned], laidTests := true, laidLooks := .later }
def FnPieceStateTextUptoCardSaid : Prop := Claim7.holds Tryz.pinned (.plain (OpenSpec.upto fnPieceStateTextSpec)) fnPieceStateTextUptoCard

/-- THE SECOND FORM's CARD OF 'laws.FnExactParsePieceModel'. -/
def fnExactParsePieceModelUptoCard : Claim7 := { stood := { row := fnExactParsePieceModelUptoRow, standIns := [], harness := (true, "217c1a3585cc0d514d438b399a39466c86f4152b6e69cb6adf4148baac91d868"), looks := true }, kinds := [], alts := [], laidByText := true, laidKinds := [.data, .data, .data, .data, .sentinel, .sentinel, .pinned], laidTests := true, laidLooks := .later }
def FnExactParsePieceModelUptoCardSaid : Prop := Claim7.holds Tryz.pinned (.plain (OpenSpec.upto fnExactParsePieceModelSpec)) fnExactParsePieceModelUptoCard

/-- THE SECOND FORM's CARD OF 'laws.FnDescriptions'. -/
def fnDescriptionsUptoCard : Claim7 := { stood := { row := fnDescriptionsUptoRow, standIns := [], harness := (true, "217c1a3585cc0d514d438b399a39466c86f4152b6e69cb6adf4148baac91d868"), looks := true }, kinds := [], alts := [], laidByText := true, laidKinds := [.data, .data, .data, .data, .sentinel, .sentinel, .pinned], laidTests := true, laidLooks := .later }
def FnDescriptionsUptoCardSaid : Prop := Claim7.holds Tryz.pinned (.plain (OpenSpec.upto fnDescriptionsSpec)) fnDescriptionsUptoCard

/-- THE SECOND FORM's CARD OF 'laws.FnExactParsePuzzle'. -/
def fnExactParsePuzzleUptoCard : Claim7 := { stood := { row := fnExactParsePuzzleUptoRow, standIns := [], harness := (true, "217c1a3585cc0d514d438b399a39466c86f4152b6e69cb6adf4148baac91d868"), looks := true }, kinds := [], alts := [], laidByText := true, laidKinds := [.data, .data, .data, .data, .sentinel, .sentinel, .pinned], laidTests := true, laidLooks := .later }
def FnExactParsePuzzleUptoCardSaid : Prop := Claim7.holds Tryz.pinned (.plain (OpenSpec.upto fnExactParsePuzzleSpec)) fnExactParsePuzzleUptoCard

/-- THE SECOND FORM's CARD OF 'laws.FnExactParsePieceState'. -/
def fnExactParsePieceStateUptoCard : Claim7 := { stood := { row := fnExactParsePieceStateUptoRow, standIns := [], harness := (true, "217c1a3585cc0d514d438b399a39466c86f4152b6e69cb6adf4148baac91d868"), looks := true }, kinds := [], alts := [], laidByText := true, laidKinds := [.data, .data, .data, .data, .sentinel, .sentinel, .pinned], laidTests := true, laidLooks := .later }
def FnExactParsePieceStateUptoCardSaid : Prop := Claim7.holds Tryz.pinned (.plain (OpenSpec.upto fnExactParsePieceStateSpec)) fnExactParsePieceStateUptoCard
end Rows
end Go.Proofs.YtemhmohaeiphaaaGreatDoor

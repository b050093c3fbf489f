/-
  DERIVED. GIVEN WITH THE SEED: THE CARDS: each row of YtnaiohbeejhpkaaDoorRows.lean that lists a variable, with what it lists TIED to the program's text (the seventh form; the later family's looks); each row that meets fmt, with fmt's text TOLD by the authors' own Lean function (tested against real Go, not proved from fmt's source: count such statements apart). THE CARD IS WHAT COUNTS. Prove the row's statement (the work); the ties are given (YtnaiohbeejhpkaaDoorTie.lean); close each card by the builder's one call (the guide's Derived/Test/ToyasCard.lean, 'card_holds'). Laid BY PROGRAM, IN A SANDBOX (cutbox-door.mjs). By AI agents, Wed Nov 11 2026. No macro, syntax, notation, axiom, sorry.
-/
import Derived.Test.YtnaiohbeejhpkaaDoorRows
import GoSem.ClaimSeven
namespace Go.Proofs.YtnaiohbeejhpkaaDoor
namespace Rows

/-- THE TIED CARD OF 'laws.FnExactFormatPuzzle'. -/
def fnExactFormatPuzzleCard : Claim7 := { stood := { row := fnExactFormatPuzzleRow, standIns := [], harness := (true, "e0f4adc47408cd94288ac917f5d6b7cdfd86145e17f10c55d6aecde2c26c8867"), looks := false }, kinds := [], alts := [], laidByText := true, laidKinds := [.data, .data, .data], laidTests := true, laidLooks := .later }
def FnExactFormatPuzzleCardSaid : Prop := Claim7.holds Tryd.pinned (.plain (OpenSpec.ofChange fnExactFormatPuzzleSpec)) fnExactFormatPuzzleCard

/-- THE TIED CARD OF 'laws.FnExactFormatPieceState'. -/
def fnExactFormatPieceStateCard : Claim7 := { stood := { row := fnExactFormatPieceStateRow, standIns := [], harness := (true, "e0f4adc47408cd94288ac917f5d6b7cdfd86145e17f10c55d6aecde2c26c8867"), looks := false }, kinds := [], alts := [], laidByText := true, laidKinds := [.data, .data, .data], laidTests := true, laidLooks := .later }
def FnExactFormatPieceStateCardSaid : Prop := Claim7.holds Tryd.pinned (.plain (OpenSpec.ofChange fnExactFormatPieceStateSpec)) fnExactFormatPieceStateCard

/-- THE TIED CARD OF 'laws.FnExactFormatPieceModel'. -/
def fnExactFormatPieceModelCard : Claim7 := { stood := { row := fnExactFormatPieceModelRow, standIns := [], harness := (true, "e0f4adc47408cd94288ac917f5d6b7cdfd86145e17f10c55d6aecde2c26c8867"), looks := false }, kinds := [], alts := [], laidByText := true, laidKinds := [.data, .data, .data], laidTests := true, laidLooks := .later }
def FnExactFormatPieceModelCardSaid : Prop := Claim7.holds Tryd.pinned (.plain (OpenSpec.ofChange fnExactFormatPieceModelSpec)) fnExactFormatPieceModelCard

/-- THE SECOND FORM's CARD OF 'laws.FnExactFormatPuzzle'. -/
def fnExactFormatPuzzleUptoCard : Claim7 := { stood := { row := fnExactFormatPuzzleUptoRow, standIns := [], harness := (true, "e0f4adc47408cd94288ac917f5d6b7cdfd86145e17f10c55d6aecde2c26c8867"), looks := false }, kinds := [], alts := [], laidByText := true, laidKinds := [.data, .data, .data], laidTests := true, laidLooks := .later }
def FnExactFormatPuzzleUptoCardSaid : Prop := Claim7.holds Tryd.pinned (.plain (OpenSpec.upto fnExactFormatPuzzleSpec)) fnExactFormatPuzzleUptoCard

/-- THE SECOND FORM's CARD OF 'laws.FnExactFormatPieceState'. -/
def fnExactFormatPieceStateUptoCard : Claim7 := { stood := { row := fnExactFormatPieceStateUptoRow, standIns := [], harness := (true, "e0f4adc47408cd94288ac917f5d6b7cdfd86145e17f10c55d6aecde2c26c8867"), looks := false }, kinds := [], alts := [], laidByText := true, laidKinds := [.data, .data, .data], laidTests := true, laidLooks := .later }
def FnExactFormatPieceStateUptoCardSaid : Prop := Claim7.holds Tryd.pinned (.plain (OpenSpec.upto fnExactFormatPieceStateSpec)) fnExactFormatPieceStateUptoCard

/-- THE SECOND FORM's CARD OF 'laws.FnExactFormatPieceModel'. -/
def fnExactFormatPieceModelUptoCard : Claim7 := { stood := { row := fnExactFormatPieceModelUptoRow, standIns := [], harness := (true, "e0f4adc47408cd94288ac917f5d6b7cdfd86145e17f10c55d6aecde2c26c8867"), looks := false }, kinds := [], alts := [], laidByText := true, laidKinds := [.data, .data, .data], laidTests := true, laidLooks := .later }
def FnExactFormatPieceModelUptoCardSaid : Prop := Claim7.holds Tryd.pinned (.plain (OpenSpec.upto fnExactFormatPieceModelSpec)) fnExactFormatPieceModelUptoCard
end Rows
end Go.Proofs.YtnaiohbeejhpkaaDoor

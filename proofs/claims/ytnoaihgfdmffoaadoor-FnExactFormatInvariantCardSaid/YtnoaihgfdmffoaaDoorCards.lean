/-
  DERIVED. GIVEN WITH THE SEED: THE CARDS: each row of YtnoaihgfdmffoaaDoorRows.lean that lists a variable, with what it lists TIED to the program's text (the seventh form; the later family's looks); each row that meets fmt, with fmt's text TOLD by the authors' own Lean function (tested against real Go, not proved from fmt's source: count such statements apart). THE CARD IS WHAT COUNTS. Prove the row's statement (the work); the ties are given (YtnoaihgfdmffoaaDoorTie.lean); close each card by the builder's one call (the guide's Derived/Test/ToyasCard.lean, 'card_holds'). Laid BY PROGRAM, IN A SANDBOX (cutbox-door.mjs). By AI agents, Wed Nov 11 2026. No macro, syntax, notation, axiom, sorry.
-/
import Derived.Test.YtnoaihgfdmffoaaDoorRows
import GoSem.ClaimSeven
namespace Go.Proofs.YtnoaihgfdmffoaaDoor
namespace Rows

/-- THE TIED CARD OF 'laws.FnExactFormatTime'. -/
def fnExactFormatTimeCard : Claim7 := { stood := { row := fnExactFormatTimeRow, standIns := [], harness := (true, "e5fc6a1bfd3c8b15083fa91df95f1f05a8ea0fe6eabbb2dfe2300adebc8c8426"), looks := false }, kinds := [], alts := [], laidByText := true, laidKinds := [.data, .data, .data], laidTests := true, laidLooks := .later }
def FnExactFormatTimeCardSaid : Prop := Claim7.holds Tryd.pinned (.plain (OpenSpec.ofChange fnExactFormatTimeSpec)) fnExactFormatTimeCard

/-- THE TIED CARD OF 'laws.FnExactFormatInvariant'. -/
def fnExactFormatInvariantCard : Claim7 := { stood := { row := fnExactFormatInvariantRow, standIns := [], harness := (true, "e5fc6a1bfd3c8b15083fa91df95f1f05a8ea0fe6eabbb2dfe2300adebc8c8426"), looks := false }, kinds := [], alts := [], laidByText := true, laidKinds := [.data, .data, .data], laidTests := true, laidLooks := .later }
def FnExactFormatInvariantCardSaid : Prop := Claim7.holds Tryd.pinned (.plain (OpenSpec.ofChange fnExactFormatInvariantSpec)) fnExactFormatInvariantCard

/-- THE SECOND FORM's CARD OF 'laws.FnExactFormatTime'. -/
def fnExactFormatTimeUptoCard : Claim7 := { stood := { row := fnExactFormatTimeUptoRow, standIns := [], harness := (true, "e5fc6a1bfd3c8b15083fa91df95f1f05a8ea0fe6eabbb2dfe2300adebc8c8426"), looks := false }, kinds := [], alts := [], laidByText := true, laidKinds := [.data, .data, .data], laidTests := true, laidLooks := .later }
def FnExactFormatTimeUptoCardSaid : Prop := Claim7.holds Tryd.pinned (.plain (OpenSpec.upto fnExactFormatTimeSpec)) fnExactFormatTimeUptoCard

/-- THE SECOND FORM's CARD OF 'laws.FnExactFormatInvariant'. -/
def fnExactFormatInvariantUptoCard : Claim7 := { stood := { row := fnExactFormatInvariantUptoRow, standIns := [], harness := (true, "e5fc6a1bfd3c8b15083fa91df95f1f05a8ea0fe6eabbb2dfe2300adebc8c8426"), looks := false }, kinds := [], alts := [], laidByText := true, laidKinds := [.data, .data, .data], laidTests := true, laidLooks := .later }
def FnExactFormatInvariantUptoCardSaid : Prop := Claim7.holds Tryd.pinned (.plain (OpenSpec.upto fnExactFormatInvariantSpec)) fnExactFormatInvariantUptoCard
end Rows
end Go.Proofs.YtnoaihgfdmffoaaDoor

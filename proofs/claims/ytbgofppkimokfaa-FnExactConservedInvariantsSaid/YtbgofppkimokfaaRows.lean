/-
  No cell of these rows narrows 'for every input' (looked for: loops, veiled, ifaces, maps, wideKeys, modest, calm, conditions, laid).
  DERIVED. THE GIVEN ROWS OF THIS SEAT. 12 by the template 'for every input the law returns true; each argument reads behind the call as it read before'; 0 by the template 'total and deterministic' (their statements: YtbgofppkimokfaaTotals.lean).
  GIVEN WITH THE SEED: the statements are not yours to turn. If you find one false, say at which input.
  Laid BY PROGRAM, IN A SANDBOX (cutbox-rows.mjs): the forced cells as the released guide's own fill.sh prints them over the translation 59a6ef6d6d37e838… (all of the seat's roots in one cut). By AI agents, Wed Nov 11 2026. No macro, syntax, notation, axiom, sorry.
-/
import Derived.Test.YtbgofppkimokfaaChecked
import GoSem.Claim
import GoSem.ClaimJoined
import GoSem.ClaimMapViews
import Derived.JoinedTies
import Derived.KernelRfl
namespace Go.Proofs.Ytbgofppkimokfaa
/- THE CELL 'sum', in the pinned program and in every row, IS THE sha256 OF THE DUMP (.gsa) THAT YtbgofppkimokfaaProg.lean LOADS. Nothing in Lean hashes anything: it is a label: what it is worth is what the hold of that sum in a sandbox is worth. -/
noncomputable def Try.pinned : Pinned := { name := "ytbgofppkimokfaa", sum := "59a6ef6d6d37e838962e021753115ae6d6dbe098c513a952379ebdd1ee1de487", checked := Try.checked }
namespace Rows
def none {H : Type} : Left H := { results := [], args := [] }

/-- 'laws.FnExactTwistSum': WHATEVER THE INPUT: true; the input reads as it did. -/
def fnExactTwistSumSpec : ChangeSpec := { name := "fnExactTwistSum", fn := fun _ => fun
  | [d1, d2, d3] => { results := [.lit (.bool true)], args := [d1, d2, d3] }
  | _ => none }
def fnExactTwistSumRow : OpenClaim := { program := "ytbgofppkimokfaa", sum := "59a6ef6d6d37e838962e021753115ae6d6dbe098c513a952379ebdd1ee1de487", func := "loop.example/g00855/laws.FnExactTwistSum", spec := "fnExactTwistSum", unfollowed := true, recurses := true, apart := false }
def FnExactTwistSumSaid : Prop := fnExactTwistSumRow.holds Try.pinned (OpenSpec.ofChange fnExactTwistSumSpec)

/-- ITS FALSE NEIGHBOUR: 'it returns false'. Refute it at one input. -/
def fnExactTwistSumWrong : ChangeSpec := { name := "fnExactTwistSum", fn := fun _ => fun
  | [d1, d2, d3] => { results := [.lit (.bool false)], args := [d1, d2, d3] }
  | _ => none }
def FnExactTwistSumWrongFalsely : Prop := fnExactTwistSumRow.holds Try.pinned (OpenSpec.ofChange fnExactTwistSumWrong)

/-- 'laws.FnExactPiecesToPermutation': WHATEVER THE INPUT: true; the input reads as it did. -/
def fnExactPiecesToPermutationSpec : ChangeSpec := { name := "fnExactPiecesToPermutation", fn := fun _ => fun
  | [d1, d2] => { results := [.lit (.bool true)], args := [d1, d2] }
  | _ => none }
def fnExactPiecesToPermutationRow : OpenClaim := { program := "ytbgofppkimokfaa", sum := "59a6ef6d6d37e838962e021753115ae6d6dbe098c513a952379ebdd1ee1de487", func := "loop.example/g00855/laws.FnExactPiecesToPermutation", spec := "fnExactPiecesToPermutation", unfollowed := true, recurses := true, apart := false }
def FnExactPiecesToPermutationSaid : Prop := fnExactPiecesToPermutationRow.holds Try.pinned (OpenSpec.ofChange fnExactPiecesToPermutationSpec)

/-- ITS FALSE NEIGHBOUR: 'it returns false'. Refute it at one input. -/
def fnExactPiecesToPermutationWrong : ChangeSpec := { name := "fnExactPiecesToPermutation", fn := fun _ => fun
  | [d1, d2] => { results := [.lit (.bool false)], args := [d1, d2] }
  | _ => none }
def FnExactPiecesToPermutationWrongFalsely : Prop := fnExactPiecesToPermutationRow.holds Try.pinned (OpenSpec.ofChange fnExactPiecesToPermutationWrong)

/-- 'laws.FnExactInvertPieces': WHATEVER THE INPUT: true; the input reads as it did. -/
def fnExactInvertPiecesSpec : ChangeSpec := { name := "fnExactInvertPieces", fn := fun _ => fun
  | [d1, d2] => { results := [.lit (.bool true)], args := [d1, d2] }
  | _ => none }
def fnExactInvertPiecesRow : OpenClaim := { program := "ytbgofppkimokfaa", sum := "59a6ef6d6d37e838962e021753115ae6d6dbe098c513a952379ebdd1ee1de487", func := "loop.example/g00855/laws.FnExactInvertPieces", spec := "fnExactInvertPieces", unfollowed := true, recurses := true, apart := false }
def FnExactInvertPiecesSaid : Prop := fnExactInvertPiecesRow.holds Try.pinned (OpenSpec.ofChange fnExactInvertPiecesSpec)

/-- ITS FALSE NEIGHBOUR: 'it returns false'. Refute it at one input. -/
def fnExactInvertPiecesWrong : ChangeSpec := { name := "fnExactInvertPieces", fn := fun _ => fun
  | [d1, d2] => { results := [.lit (.bool false)], args := [d1, d2] }
  | _ => none }
def FnExactInvertPiecesWrongFalsely : Prop := fnExactInvertPiecesRow.holds Try.pinned (OpenSpec.ofChange fnExactInvertPiecesWrong)

/-- 'laws.FnExactStateParity': WHATEVER THE INPUT: true; the input reads as it did. -/
def fnExactStateParitySpec : ChangeSpec := { name := "fnExactStateParity", fn := fun _ => fun
  | [d1, d2, d3] => { results := [.lit (.bool true)], args := [d1, d2, d3] }
  | _ => none }
def fnExactStateParityRow : OpenClaim := { program := "ytbgofppkimokfaa", sum := "59a6ef6d6d37e838962e021753115ae6d6dbe098c513a952379ebdd1ee1de487", func := "loop.example/g00855/laws.FnExactStateParity", spec := "fnExactStateParity", unfollowed := true, recurses := true, apart := false }
def FnExactStateParitySaid : Prop := fnExactStateParityRow.holds Try.pinned (OpenSpec.ofChange fnExactStateParitySpec)

/-- ITS FALSE NEIGHBOUR: 'it returns false'. Refute it at one input. -/
def fnExactStateParityWrong : ChangeSpec := { name := "fnExactStateParity", fn := fun _ => fun
  | [d1, d2, d3] => { results := [.lit (.bool false)], args := [d1, d2, d3] }
  | _ => none }
def FnExactStateParityWrongFalsely : Prop := fnExactStateParityRow.holds Try.pinned (OpenSpec.ofChange fnExactStateParityWrong)

/-- 'laws.FnExactComposePieces': WHATEVER THE INPUT: true; the input reads as it did. -/
def fnExactComposePiecesSpec : ChangeSpec := { name := "fnExactComposePieces", fn := fun _ => fun
  | [d1, d2, d3] => { results := [.lit (.bool true)], args := [d1, d2, d3] }
  | _ => none }
def fnExactComposePiecesRow : OpenClaim := { program := "ytbgofppkimokfaa", sum := "59a6ef6d6d37e838962e021753115ae6d6dbe098c513a952379ebdd1ee1de487", func := "loop.example/g00855/laws.FnExactComposePieces", spec := "fnExactComposePieces", unfollowed := true, recurses := true, apart := false }
def FnExactComposePiecesSaid : Prop := fnExactComposePiecesRow.holds Try.pinned (OpenSpec.ofChange fnExactComposePiecesSpec)

/-- ITS FALSE NEIGHBOUR: 'it returns false'. Refute it at one input. -/
def fnExactComposePiecesWrong : ChangeSpec := { name := "fnExactComposePieces", fn := fun _ => fun
  | [d1, d2, d3] => { results := [.lit (.bool false)], args := [d1, d2, d3] }
  | _ => none }
def FnExactComposePiecesWrongFalsely : Prop := fnExactComposePiecesRow.holds Try.pinned (OpenSpec.ofChange fnExactComposePiecesWrong)

/-- 'laws.FnExactPermutationToPieces': WHATEVER THE INPUT: true; the input reads as it did. -/
def fnExactPermutationToPiecesSpec : ChangeSpec := { name := "fnExactPermutationToPieces", fn := fun _ => fun
  | [d1, d2] => { results := [.lit (.bool true)], args := [d1, d2] }
  | _ => none }
def fnExactPermutationToPiecesRow : OpenClaim := { program := "ytbgofppkimokfaa", sum := "59a6ef6d6d37e838962e021753115ae6d6dbe098c513a952379ebdd1ee1de487", func := "loop.example/g00855/laws.FnExactPermutationToPieces", spec := "fnExactPermutationToPieces", unfollowed := true, recurses := true, apart := false }
def FnExactPermutationToPiecesSaid : Prop := fnExactPermutationToPiecesRow.holds Try.pinned (OpenSpec.ofChange fnExactPermutationToPiecesSpec)

/-- ITS FALSE NEIGHBOUR: 'it returns false'. Refute it at one input. -/
def fnExactPermutationToPiecesWrong : ChangeSpec := { name := "fnExactPermutationToPieces", fn := fun _ => fun
  | [d1, d2] => { results := [.lit (.bool false)], args := [d1, d2] }
  | _ => none }
def FnExactPermutationToPiecesWrongFalsely : Prop := fnExactPermutationToPiecesRow.holds Try.pinned (OpenSpec.ofChange fnExactPermutationToPiecesWrong)

/-- 'laws.FnExactIsValidPieceModel': WHATEVER THE INPUT: true; the input reads as it did. -/
def fnExactIsValidPieceModelSpec : ChangeSpec := { name := "fnExactIsValidPieceModel", fn := fun _ => fun
  | [d] => { results := [.lit (.bool true)], args := [d] }
  | _ => none }
def fnExactIsValidPieceModelRow : OpenClaim := { program := "ytbgofppkimokfaa", sum := "59a6ef6d6d37e838962e021753115ae6d6dbe098c513a952379ebdd1ee1de487", func := "loop.example/g00855/laws.FnExactIsValidPieceModel", spec := "fnExactIsValidPieceModel", unfollowed := true, recurses := true, apart := false }
def FnExactIsValidPieceModelSaid : Prop := fnExactIsValidPieceModelRow.holds Try.pinned (OpenSpec.ofChange fnExactIsValidPieceModelSpec)

/-- ITS FALSE NEIGHBOUR: 'it returns false'. Refute it at one input. -/
def fnExactIsValidPieceModelWrong : ChangeSpec := { name := "fnExactIsValidPieceModel", fn := fun _ => fun
  | [d] => { results := [.lit (.bool false)], args := [d] }
  | _ => none }
def FnExactIsValidPieceModelWrongFalsely : Prop := fnExactIsValidPieceModelRow.holds Try.pinned (OpenSpec.ofChange fnExactIsValidPieceModelWrong)

/-- 'laws.FnExactInvariantValue': WHATEVER THE INPUT: true; the input reads as it did. -/
def fnExactInvariantValueSpec : ChangeSpec := { name := "fnExactInvariantValue", fn := fun _ => fun
  | [d1, d2, d3] => { results := [.lit (.bool true)], args := [d1, d2, d3] }
  | _ => none }
def fnExactInvariantValueRow : OpenClaim := { program := "ytbgofppkimokfaa", sum := "59a6ef6d6d37e838962e021753115ae6d6dbe098c513a952379ebdd1ee1de487", func := "loop.example/g00855/laws.FnExactInvariantValue", spec := "fnExactInvariantValue", unfollowed := true, recurses := true, apart := false }
def FnExactInvariantValueSaid : Prop := fnExactInvariantValueRow.holds Try.pinned (OpenSpec.ofChange fnExactInvariantValueSpec)

/-- ITS FALSE NEIGHBOUR: 'it returns false'. Refute it at one input. -/
def fnExactInvariantValueWrong : ChangeSpec := { name := "fnExactInvariantValue", fn := fun _ => fun
  | [d1, d2, d3] => { results := [.lit (.bool false)], args := [d1, d2, d3] }
  | _ => none }
def FnExactInvariantValueWrongFalsely : Prop := fnExactInvariantValueRow.holds Try.pinned (OpenSpec.ofChange fnExactInvariantValueWrong)

/-- 'laws.FnExactCompilePieces': WHATEVER THE INPUT: true; the input reads as it did. -/
def fnExactCompilePiecesSpec : ChangeSpec := { name := "fnExactCompilePieces", fn := fun _ => fun
  | [d] => { results := [.lit (.bool true)], args := [d] }
  | _ => none }
def fnExactCompilePiecesRow : OpenClaim := { program := "ytbgofppkimokfaa", sum := "59a6ef6d6d37e838962e021753115ae6d6dbe098c513a952379ebdd1ee1de487", func := "loop.example/g00855/laws.FnExactCompilePieces", spec := "fnExactCompilePieces", unfollowed := true, recurses := true, apart := false }
def FnExactCompilePiecesSaid : Prop := fnExactCompilePiecesRow.holds Try.pinned (OpenSpec.ofChange fnExactCompilePiecesSpec)

/-- ITS FALSE NEIGHBOUR: 'it returns false'. Refute it at one input. -/
def fnExactCompilePiecesWrong : ChangeSpec := { name := "fnExactCompilePieces", fn := fun _ => fun
  | [d] => { results := [.lit (.bool false)], args := [d] }
  | _ => none }
def FnExactCompilePiecesWrongFalsely : Prop := fnExactCompilePiecesRow.holds Try.pinned (OpenSpec.ofChange fnExactCompilePiecesWrong)

/-- 'laws.FnExactIsConserved': WHATEVER THE INPUT: true; the input reads as it did. -/
def fnExactIsConservedSpec : ChangeSpec := { name := "fnExactIsConserved", fn := fun _ => fun
  | [d1, d2] => { results := [.lit (.bool true)], args := [d1, d2] }
  | _ => none }
def fnExactIsConservedRow : OpenClaim := { program := "ytbgofppkimokfaa", sum := "59a6ef6d6d37e838962e021753115ae6d6dbe098c513a952379ebdd1ee1de487", func := "loop.example/g00855/laws.FnExactIsConserved", spec := "fnExactIsConserved", unfollowed := true, recurses := true, apart := false }
def FnExactIsConservedSaid : Prop := fnExactIsConservedRow.holds Try.pinned (OpenSpec.ofChange fnExactIsConservedSpec)

/-- ITS FALSE NEIGHBOUR: 'it returns false'. Refute it at one input. -/
def fnExactIsConservedWrong : ChangeSpec := { name := "fnExactIsConserved", fn := fun _ => fun
  | [d1, d2] => { results := [.lit (.bool false)], args := [d1, d2] }
  | _ => none }
def FnExactIsConservedWrongFalsely : Prop := fnExactIsConservedRow.holds Try.pinned (OpenSpec.ofChange fnExactIsConservedWrong)

/-- 'laws.FnExactViolatedInvariant': WHATEVER THE INPUT: true; the input reads as it did. -/
def fnExactViolatedInvariantSpec : ChangeSpec := { name := "fnExactViolatedInvariant", fn := fun _ => fun
  | [d1, d2] => { results := [.lit (.bool true)], args := [d1, d2] }
  | _ => none }
def fnExactViolatedInvariantRow : OpenClaim := { program := "ytbgofppkimokfaa", sum := "59a6ef6d6d37e838962e021753115ae6d6dbe098c513a952379ebdd1ee1de487", func := "loop.example/g00855/laws.FnExactViolatedInvariant", spec := "fnExactViolatedInvariant", unfollowed := true, recurses := true, apart := false }
def FnExactViolatedInvariantSaid : Prop := fnExactViolatedInvariantRow.holds Try.pinned (OpenSpec.ofChange fnExactViolatedInvariantSpec)

/-- ITS FALSE NEIGHBOUR: 'it returns false'. Refute it at one input. -/
def fnExactViolatedInvariantWrong : ChangeSpec := { name := "fnExactViolatedInvariant", fn := fun _ => fun
  | [d1, d2] => { results := [.lit (.bool false)], args := [d1, d2] }
  | _ => none }
def FnExactViolatedInvariantWrongFalsely : Prop := fnExactViolatedInvariantRow.holds Try.pinned (OpenSpec.ofChange fnExactViolatedInvariantWrong)

/-- 'laws.FnExactConservedInvariants': WHATEVER THE INPUT: true; the input reads as it did. -/
def fnExactConservedInvariantsSpec : ChangeSpec := { name := "fnExactConservedInvariants", fn := fun _ => fun
  | [d] => { results := [.lit (.bool true)], args := [d] }
  | _ => none }
def fnExactConservedInvariantsRow : OpenClaim := { program := "ytbgofppkimokfaa", sum := "59a6ef6d6d37e838962e021753115ae6d6dbe098c513a952379ebdd1ee1de487", func := "loop.example/g00855/laws.FnExactConservedInvariants", spec := "fnExactConservedInvariants", unfollowed := true, recurses := true, apart := false }
def FnExactConservedInvariantsSaid : Prop := fnExactConservedInvariantsRow.holds Try.pinned (OpenSpec.ofChange fnExactConservedInvariantsSpec)

/-- ITS FALSE NEIGHBOUR: 'it returns false'. Refute it at one input. -/
def fnExactConservedInvariantsWrong : ChangeSpec := { name := "fnExactConservedInvariants", fn := fun _ => fun
  | [d] => { results := [.lit (.bool false)], args := [d] }
  | _ => none }
def FnExactConservedInvariantsWrongFalsely : Prop := fnExactConservedInvariantsRow.holds Try.pinned (OpenSpec.ofChange fnExactConservedInvariantsWrong)

/- THE SECOND FORM. 'bulk': how many values and letters a reading holds, each counted each time it is reached (what is shared counts as often as it is met; a slice's spare places count too). A statement '..UptoSaid' is the law's where the arguments, and the package variables that the reading takes, are together of bulk at most 1048576: NARROWER than '..Said'. Prove '..Said' where nothing that the law and all that it calls make is longer than what came in: it says more and counts as full. Else prove '..UptoSaid'. A law counts once. -/
mutual
def uptoBulk {H : Type} : DataW H → Nat
  | .lit (.string bytes) => bytes.length + 1
  | .lit _ => 1
  | .nil => 1
  | .ptr d => uptoBulk d + 1
  | .slice elems spare => uptoBulkAll elems + uptoBulkAll spare + 1
  | .agg parts => uptoBulkAll parts + 1
  | .iface _ d => uptoBulk d + 1
  | .map entries => uptoBulkEntries entries + 1
  | .held _ => 1
def uptoBulkAll {H : Type} : List (DataW H) → Nat
  | [] => 0
  | d :: r => uptoBulk d + uptoBulkAll r
def uptoBulkEntries {H : Type} : List (Lit × DataW H) → Nat
  | [] => 0
  | x :: r => uptoBulkEntry x + uptoBulkEntries r
def uptoBulkEntry {H : Type} : Lit × DataW H → Nat
  | (.string bytes, d) => bytes.length + uptoBulk d + 1
  | (_, d) => uptoBulk d + 1
 end
def uptoSmall : (H : Type) → List (DataW H) → Bool := fun _ ds => decide (uptoBulkAll ds ≤ 1048576)
def OpenSpec.upto (s : _root_.Go.ChangeSpec) : _root_.Go.OpenSpec := { _root_.Go.OpenSpec.ofChange s with cond := some uptoSmall }

/-- 'laws.FnExactTwistSum', WHERE WHAT IT READS IS OF BULK AT MOST 1048576: true; the input reads as it did. -/
def fnExactTwistSumUptoRow : OpenClaim := { program := "ytbgofppkimokfaa", sum := "59a6ef6d6d37e838962e021753115ae6d6dbe098c513a952379ebdd1ee1de487", func := "loop.example/g00855/laws.FnExactTwistSum", spec := "fnExactTwistSum", unfollowed := true, recurses := true, apart := false, narrowed := true }
def FnExactTwistSumUptoSaid : Prop := fnExactTwistSumUptoRow.holds Try.pinned (OpenSpec.upto fnExactTwistSumSpec)

/-- 'laws.FnExactPiecesToPermutation', WHERE WHAT IT READS IS OF BULK AT MOST 1048576: true; the input reads as it did. -/
def fnExactPiecesToPermutationUptoRow : OpenClaim := { program := "ytbgofppkimokfaa", sum := "59a6ef6d6d37e838962e021753115ae6d6dbe098c513a952379ebdd1ee1de487", func := "loop.example/g00855/laws.FnExactPiecesToPermutation", spec := "fnExactPiecesToPermutation", unfollowed := true, recurses := true, apart := false, narrowed := true }
def FnExactPiecesToPermutationUptoSaid : Prop := fnExactPiecesToPermutationUptoRow.holds Try.pinned (OpenSpec.upto fnExactPiecesToPermutationSpec)

/-- 'laws.FnExactInvertPieces', WHERE WHAT IT READS IS OF BULK AT MOST 1048576: true; the input reads as it did. -/
def fnExactInvertPiecesUptoRow : OpenClaim := { program := "ytbgofppkimokfaa", sum := "59a6ef6d6d37e838962e021753115ae6d6dbe098c513a952379ebdd1ee1de487", func := "loop.example/g00855/laws.FnExactInvertPieces", spec := "fnExactInvertPieces", unfollowed := true, recurses := true, apart := false, narrowed := true }
def FnExactInvertPiecesUptoSaid : Prop := fnExactInvertPiecesUptoRow.holds Try.pinned (OpenSpec.upto fnExactInvertPiecesSpec)

/-- 'laws.FnExactStateParity', WHERE WHAT IT READS IS OF BULK AT MOST 1048576: true; the input reads as it did. -/
def fnExactStateParityUptoRow : OpenClaim := { program := "ytbgofppkimokfaa", sum := "59a6ef6d6d37e838962e021753115ae6d6dbe098c513a952379ebdd1ee1de487", func := "loop.example/g00855/laws.FnExactStateParity", spec := "fnExactStateParity", unfollowed := true, recurses := true, apart := false, narrowed := true }
def FnExactStateParityUptoSaid : Prop := fnExactStateParityUptoRow.holds Try.pinned (OpenSpec.upto fnExactStateParitySpec)

/-- 'laws.FnExactComposePieces', WHERE WHAT IT READS IS OF BULK AT MOST 1048576: true; the input reads as it did. -/
def fnExactComposePiecesUptoRow : OpenClaim := { program := "ytbgofppkimokfaa", sum := "59a6ef6d6d37e838962e021753115ae6d6dbe098c513a952379ebdd1ee1de487", func := "loop.example/g00855/laws.FnExactComposePieces", spec := "fnExactComposePieces", unfollowed := true, recurses := true, apart := false, narrowed := true }
def FnExactComposePiecesUptoSaid : Prop := fnExactComposePiecesUptoRow.holds Try.pinned (OpenSpec.upto fnExactComposePiecesSpec)

/-- 'laws.FnExactPermutationToPieces', WHERE WHAT IT READS IS OF BULK AT MOST 1048576: true; the input reads as it did. -/
def fnExactPermutationToPiecesUptoRow : OpenClaim := { program := "ytbgofppkimokfaa", sum := "59a6ef6d6d37e838962e021753115ae6d6dbe098c513a952379ebdd1ee1de487", func := "loop.example/g00855/laws.FnExactPermutationToPieces", spec := "fnExactPermutationToPieces", unfollowed := true, recurses := true, apart := false, narrowed := true }
def FnExactPermutationToPiecesUptoSaid : Prop := fnExactPermutationToPiecesUptoRow.holds Try.pinned (OpenSpec.upto fnExactPermutationToPiecesSpec)

/-- 'laws.FnExactIsValidPieceModel', WHERE WHAT IT READS IS OF BULK AT MOST 1048576: true; the input reads as it did. -/
def fnExactIsValidPieceModelUptoRow : OpenClaim := { program := "ytbgofppkimokfaa", sum := "59a6ef6d6d37e838962e021753115ae6d6dbe098c513a952379ebdd1ee1de487", func := "loop.example/g00855/laws.FnExactIsValidPieceModel", spec := "fnExactIsValidPieceModel", unfollowed := true, recurses := true, apart := false, narrowed := true }
def FnExactIsValidPieceModelUptoSaid : Prop := fnExactIsValidPieceModelUptoRow.holds Try.pinned (OpenSpec.upto fnExactIsValidPieceModelSpec)

/-- 'laws.FnExactInvariantValue', WHERE WHAT IT READS IS OF BULK AT MOST 1048576: true; the input reads as it did. -/
def fnExactInvariantValueUptoRow : OpenClaim := { program := "ytbgofppkimokfaa", sum := "59a6ef6d6d37e838962e021753115ae6d6dbe098c513a952379ebdd1ee1de487", func := "loop.example/g00855/laws.FnExactInvariantValue", spec := "fnExactInvariantValue", unfollowed := true, recurses := true, apart := false, narrowed := true }
def FnExactInvariantValueUptoSaid : Prop := fnExactInvariantValueUptoRow.holds Try.pinned (OpenSpec.upto fnExactInvariantValueSpec)

/-- 'laws.FnExactCompilePieces', WHERE WHAT IT READS IS OF BULK AT MOST 1048576: true; the input reads as it did. -/
def fnExactCompilePiecesUptoRow : OpenClaim := { program := "ytbgofppkimokfaa", sum := "59a6ef6d6d37e838962e021753115ae6d6dbe098c513a952379ebdd1ee1de487", func := "loop.example/g00855/laws.FnExactCompilePieces", spec := "fnExactCompilePieces", unfollowed := true, recurses := true, apart := false, narrowed := true }
def FnExactCompilePiecesUptoSaid : Prop := fnExactCompilePiecesUptoRow.holds Try.pinned (OpenSpec.upto fnExactCompilePiecesSpec)

/-- 'laws.FnExactIsConserved', WHERE WHAT IT READS IS OF BULK AT MOST 1048576: true; the input reads as it did. -/
def fnExactIsConservedUptoRow : OpenClaim := { program := "ytbgofppkimokfaa", sum := "59a6ef6d6d37e838962e021753115ae6d6dbe098c513a952379ebdd1ee1de487", func := "loop.example/g00855/laws.FnExactIsConserved", spec := "fnExactIsConserved", unfollowed := true, recurses := true, apart := false, narrowed := true }
def FnExactIsConservedUptoSaid : Prop := fnExactIsConservedUptoRow.holds Try.pinned (OpenSpec.upto fnExactIsConservedSpec)

/-- 'laws.FnExactViolatedInvariant', WHERE WHAT IT READS IS OF BULK AT MOST 1048576: true; the input reads as it did. -/
def fnExactViolatedInvariantUptoRow : OpenClaim := { program := "ytbgofppkimokfaa", sum := "59a6ef6d6d37e838962e021753115ae6d6dbe098c513a952379ebdd1ee1de487", func := "loop.example/g00855/laws.FnExactViolatedInvariant", spec := "fnExactViolatedInvariant", unfollowed := true, recurses := true, apart := false, narrowed := true }
def FnExactViolatedInvariantUptoSaid : Prop := fnExactViolatedInvariantUptoRow.holds Try.pinned (OpenSpec.upto fnExactViolatedInvariantSpec)

/-- 'laws.FnExactConservedInvariants', WHERE WHAT IT READS IS OF BULK AT MOST 1048576: true; the input reads as it did. -/
def fnExactConservedInvariantsUptoRow : OpenClaim := { program := "ytbgofppkimokfaa", sum := "59a6ef6d6d37e838962e021753115ae6d6dbe098c513a952379ebdd1ee1de487", func := "loop.example/g00855/laws.FnExactConservedInvariants", spec := "fnExactConservedInvariants", unfollowed := true, recurses := true, apart := false, narrowed := true }
def FnExactConservedInvariantsUptoSaid : Prop := fnExactConservedInvariantsUptoRow.holds Try.pinned (OpenSpec.upto fnExactConservedInvariantsSpec)

end Rows
end Go.Proofs.Ytbgofppkimokfaa

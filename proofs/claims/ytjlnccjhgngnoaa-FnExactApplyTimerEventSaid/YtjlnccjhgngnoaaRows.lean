/-
  No cell of these rows narrows 'for every input' (looked for: loops, veiled, ifaces, maps, wideKeys, modest, calm, conditions, laid).
  DERIVED. THE GIVEN ROWS OF THIS SEAT. 12 by the template 'for every input the law returns true; each argument reads behind the call as it read before'; 0 by the template 'total and deterministic' (their statements: YtjlnccjhgngnoaaTotals.lean).
  GIVEN WITH THE SEED: the statements are not yours to turn. If you find one false, say at which input.
  Laid BY PROGRAM, IN A SANDBOX (cutbox-rows.mjs): the forced cells as the released guide's own fill.sh prints them over the translation 520a476a7122d270… (all of the seat's roots in one cut). By AI agents, Wed Nov 11 2026. No macro, syntax, notation, axiom, sorry.
-/
import Derived.Test.YtjlnccjhgngnoaaChecked
import GoSem.Claim
import GoSem.ClaimJoined
import GoSem.ClaimMapViews
import Derived.JoinedTies
import Derived.KernelRfl
namespace Go.Proofs.Ytjlnccjhgngnoaa
/- THE CELL 'sum', in the pinned program and in every row, IS THE sha256 OF THE DUMP (.gsa) THAT YtjlnccjhgngnoaaProg.lean LOADS. Nothing in Lean hashes anything: it is a label: what it is worth is what the hold of that sum in a sandbox is worth. -/
noncomputable def Try.pinned : Pinned := { name := "ytjlnccjhgngnoaa", sum := "520a476a7122d270a239f5183312c37a1b462843ccc6ae3b8ed3910bb829e29c", checked := Try.checked }
namespace Rows
def none {H : Type} : Left H := { results := [], args := [] }

/-- 'laws.FnExactNextRandom': WHATEVER THE INPUT: true; the input reads as it did. -/
def fnExactNextRandomSpec : ChangeSpec := { name := "fnExactNextRandom", fn := fun _ => fun
  | [d] => { results := [.lit (.bool true)], args := [d] }
  | _ => none }
def fnExactNextRandomRow : OpenClaim := { program := "ytjlnccjhgngnoaa", sum := "520a476a7122d270a239f5183312c37a1b462843ccc6ae3b8ed3910bb829e29c", func := "loop.example/g00855/laws.FnExactNextRandom", spec := "fnExactNextRandom", apart := false }
def FnExactNextRandomSaid : Prop := fnExactNextRandomRow.holds Try.pinned (OpenSpec.ofChange fnExactNextRandomSpec)

/-- ITS FALSE NEIGHBOUR: 'it returns false'. Refute it at one input. -/
def fnExactNextRandomWrong : ChangeSpec := { name := "fnExactNextRandom", fn := fun _ => fun
  | [d] => { results := [.lit (.bool false)], args := [d] }
  | _ => none }
def FnExactNextRandomWrongFalsely : Prop := fnExactNextRandomRow.holds Try.pinned (OpenSpec.ofChange fnExactNextRandomWrong)

/-- 'laws.FnExactInspectionPenalty': WHATEVER THE INPUT: true; the input reads as it did. -/
def fnExactInspectionPenaltySpec : ChangeSpec := { name := "fnExactInspectionPenalty", fn := fun _ => fun
  | [d] => { results := [.lit (.bool true)], args := [d] }
  | _ => none }
def fnExactInspectionPenaltyRow : OpenClaim := { program := "ytjlnccjhgngnoaa", sum := "520a476a7122d270a239f5183312c37a1b462843ccc6ae3b8ed3910bb829e29c", func := "loop.example/g00855/laws.FnExactInspectionPenalty", spec := "fnExactInspectionPenalty", apart := false }
def FnExactInspectionPenaltySaid : Prop := fnExactInspectionPenaltyRow.holds Try.pinned (OpenSpec.ofChange fnExactInspectionPenaltySpec)

/-- ITS FALSE NEIGHBOUR: 'it returns false'. Refute it at one input. -/
def fnExactInspectionPenaltyWrong : ChangeSpec := { name := "fnExactInspectionPenalty", fn := fun _ => fun
  | [d] => { results := [.lit (.bool false)], args := [d] }
  | _ => none }
def FnExactInspectionPenaltyWrongFalsely : Prop := fnExactInspectionPenaltyRow.holds Try.pinned (OpenSpec.ofChange fnExactInspectionPenaltyWrong)

/-- 'laws.FnExactAreValidKinds': WHATEVER THE INPUT: true; the input reads as it did. -/
def fnExactAreValidKindsSpec : ChangeSpec := { name := "fnExactAreValidKinds", fn := fun _ => fun
  | [d] => { results := [.lit (.bool true)], args := [d] }
  | _ => none }
def fnExactAreValidKindsRow : OpenClaim := { program := "ytjlnccjhgngnoaa", sum := "520a476a7122d270a239f5183312c37a1b462843ccc6ae3b8ed3910bb829e29c", func := "loop.example/g00855/laws.FnExactAreValidKinds", spec := "fnExactAreValidKinds", apart := false }
def FnExactAreValidKindsSaid : Prop := fnExactAreValidKindsRow.holds Try.pinned (OpenSpec.ofChange fnExactAreValidKindsSpec)

/-- ITS FALSE NEIGHBOUR: 'it returns false'. Refute it at one input. -/
def fnExactAreValidKindsWrong : ChangeSpec := { name := "fnExactAreValidKinds", fn := fun _ => fun
  | [d] => { results := [.lit (.bool false)], args := [d] }
  | _ => none }
def FnExactAreValidKindsWrongFalsely : Prop := fnExactAreValidKindsRow.holds Try.pinned (OpenSpec.ofChange fnExactAreValidKindsWrong)

/-- 'laws.FnExactRandomNumbers': WHATEVER THE INPUT: true; the input reads as it did. -/
def fnExactRandomNumbersSpec : ChangeSpec := { name := "fnExactRandomNumbers", fn := fun _ => fun
  | [d1, d2, d3] => { results := [.lit (.bool true)], args := [d1, d2, d3] }
  | _ => none }
def fnExactRandomNumbersRow : OpenClaim := { program := "ytjlnccjhgngnoaa", sum := "520a476a7122d270a239f5183312c37a1b462843ccc6ae3b8ed3910bb829e29c", func := "loop.example/g00855/laws.FnExactRandomNumbers", spec := "fnExactRandomNumbers", apart := false }
def FnExactRandomNumbersSaid : Prop := fnExactRandomNumbersRow.holds Try.pinned (OpenSpec.ofChange fnExactRandomNumbersSpec)

/-- ITS FALSE NEIGHBOUR: 'it returns false'. Refute it at one input. -/
def fnExactRandomNumbersWrong : ChangeSpec := { name := "fnExactRandomNumbers", fn := fun _ => fun
  | [d1, d2, d3] => { results := [.lit (.bool false)], args := [d1, d2, d3] }
  | _ => none }
def FnExactRandomNumbersWrongFalsely : Prop := fnExactRandomNumbersRow.holds Try.pinned (OpenSpec.ofChange fnExactRandomNumbersWrong)

/-- 'laws.FnExactFaceletCount': WHATEVER THE INPUT: true; the input reads as it did. -/
def fnExactFaceletCountSpec : ChangeSpec := { name := "fnExactFaceletCount", fn := fun _ => fun
  | [d] => { results := [.lit (.bool true)], args := [d] }
  | _ => none }
def fnExactFaceletCountRow : OpenClaim := { program := "ytjlnccjhgngnoaa", sum := "520a476a7122d270a239f5183312c37a1b462843ccc6ae3b8ed3910bb829e29c", func := "loop.example/g00855/laws.FnExactFaceletCount", spec := "fnExactFaceletCount", apart := false }
def FnExactFaceletCountSaid : Prop := fnExactFaceletCountRow.holds Try.pinned (OpenSpec.ofChange fnExactFaceletCountSpec)

/-- ITS FALSE NEIGHBOUR: 'it returns false'. Refute it at one input. -/
def fnExactFaceletCountWrong : ChangeSpec := { name := "fnExactFaceletCount", fn := fun _ => fun
  | [d] => { results := [.lit (.bool false)], args := [d] }
  | _ => none }
def FnExactFaceletCountWrongFalsely : Prop := fnExactFaceletCountRow.holds Try.pinned (OpenSpec.ofChange fnExactFaceletCountWrong)

/-- 'laws.FnExactPieceStateCount': WHATEVER THE INPUT: true; the input reads as it did. -/
def fnExactPieceStateCountSpec : ChangeSpec := { name := "fnExactPieceStateCount", fn := fun _ => fun
  | [d] => { results := [.lit (.bool true)], args := [d] }
  | _ => none }
def fnExactPieceStateCountRow : OpenClaim := { program := "ytjlnccjhgngnoaa", sum := "520a476a7122d270a239f5183312c37a1b462843ccc6ae3b8ed3910bb829e29c", func := "loop.example/g00855/laws.FnExactPieceStateCount", spec := "fnExactPieceStateCount", apart := false }
def FnExactPieceStateCountSaid : Prop := fnExactPieceStateCountRow.holds Try.pinned (OpenSpec.ofChange fnExactPieceStateCountSpec)

/-- ITS FALSE NEIGHBOUR: 'it returns false'. Refute it at one input. -/
def fnExactPieceStateCountWrong : ChangeSpec := { name := "fnExactPieceStateCount", fn := fun _ => fun
  | [d] => { results := [.lit (.bool false)], args := [d] }
  | _ => none }
def FnExactPieceStateCountWrongFalsely : Prop := fnExactPieceStateCountRow.holds Try.pinned (OpenSpec.ofChange fnExactPieceStateCountWrong)

/-- 'laws.FnExactIsValidTimer': WHATEVER THE INPUT: true; the input reads as it did. -/
def fnExactIsValidTimerSpec : ChangeSpec := { name := "fnExactIsValidTimer", fn := fun _ => fun
  | [d] => { results := [.lit (.bool true)], args := [d] }
  | _ => none }
def fnExactIsValidTimerRow : OpenClaim := { program := "ytjlnccjhgngnoaa", sum := "520a476a7122d270a239f5183312c37a1b462843ccc6ae3b8ed3910bb829e29c", func := "loop.example/g00855/laws.FnExactIsValidTimer", spec := "fnExactIsValidTimer", apart := false }
def FnExactIsValidTimerSaid : Prop := fnExactIsValidTimerRow.holds Try.pinned (OpenSpec.ofChange fnExactIsValidTimerSpec)

/-- ITS FALSE NEIGHBOUR: 'it returns false'. Refute it at one input. -/
def fnExactIsValidTimerWrong : ChangeSpec := { name := "fnExactIsValidTimer", fn := fun _ => fun
  | [d] => { results := [.lit (.bool false)], args := [d] }
  | _ => none }
def FnExactIsValidTimerWrongFalsely : Prop := fnExactIsValidTimerRow.holds Try.pinned (OpenSpec.ofChange fnExactIsValidTimerWrong)

/-- 'laws.FnExactTimerResult': WHATEVER THE INPUT: true; the input reads as it did. -/
def fnExactTimerResultSpec : ChangeSpec := { name := "fnExactTimerResult", fn := fun _ => fun
  | [d] => { results := [.lit (.bool true)], args := [d] }
  | _ => none }
def fnExactTimerResultRow : OpenClaim := { program := "ytjlnccjhgngnoaa", sum := "520a476a7122d270a239f5183312c37a1b462843ccc6ae3b8ed3910bb829e29c", func := "loop.example/g00855/laws.FnExactTimerResult", spec := "fnExactTimerResult", apart := false }
def FnExactTimerResultSaid : Prop := fnExactTimerResultRow.holds Try.pinned (OpenSpec.ofChange fnExactTimerResultSpec)

/-- ITS FALSE NEIGHBOUR: 'it returns false'. Refute it at one input. -/
def fnExactTimerResultWrong : ChangeSpec := { name := "fnExactTimerResult", fn := fun _ => fun
  | [d] => { results := [.lit (.bool false)], args := [d] }
  | _ => none }
def FnExactTimerResultWrongFalsely : Prop := fnExactTimerResultRow.holds Try.pinned (OpenSpec.ofChange fnExactTimerResultWrong)

/-- 'laws.FnTimerAttempt': WHATEVER THE INPUT: true; the input reads as it did. -/
def fnTimerAttemptSpec : ChangeSpec := { name := "fnTimerAttempt", fn := fun _ => fun
  | [d] => { results := [.lit (.bool true)], args := [d] }
  | _ => none }
def fnTimerAttemptRow : OpenClaim := { program := "ytjlnccjhgngnoaa", sum := "520a476a7122d270a239f5183312c37a1b462843ccc6ae3b8ed3910bb829e29c", func := "loop.example/g00855/laws.FnTimerAttempt", spec := "fnTimerAttempt", apart := false }
def FnTimerAttemptSaid : Prop := fnTimerAttemptRow.holds Try.pinned (OpenSpec.ofChange fnTimerAttemptSpec)

/-- ITS FALSE NEIGHBOUR: 'it returns false'. Refute it at one input. -/
def fnTimerAttemptWrong : ChangeSpec := { name := "fnTimerAttempt", fn := fun _ => fun
  | [d] => { results := [.lit (.bool false)], args := [d] }
  | _ => none }
def FnTimerAttemptWrongFalsely : Prop := fnTimerAttemptRow.holds Try.pinned (OpenSpec.ofChange fnTimerAttemptWrong)

/-- 'laws.FnExactSolvedPieces': WHATEVER THE INPUT: true; the input reads as it did. -/
def fnExactSolvedPiecesSpec : ChangeSpec := { name := "fnExactSolvedPieces", fn := fun _ => fun
  | [d] => { results := [.lit (.bool true)], args := [d] }
  | _ => none }
def fnExactSolvedPiecesRow : OpenClaim := { program := "ytjlnccjhgngnoaa", sum := "520a476a7122d270a239f5183312c37a1b462843ccc6ae3b8ed3910bb829e29c", func := "loop.example/g00855/laws.FnExactSolvedPieces", spec := "fnExactSolvedPieces", apart := false }
def FnExactSolvedPiecesSaid : Prop := fnExactSolvedPiecesRow.holds Try.pinned (OpenSpec.ofChange fnExactSolvedPiecesSpec)

/-- ITS FALSE NEIGHBOUR: 'it returns false'. Refute it at one input. -/
def fnExactSolvedPiecesWrong : ChangeSpec := { name := "fnExactSolvedPieces", fn := fun _ => fun
  | [d] => { results := [.lit (.bool false)], args := [d] }
  | _ => none }
def FnExactSolvedPiecesWrongFalsely : Prop := fnExactSolvedPiecesRow.holds Try.pinned (OpenSpec.ofChange fnExactSolvedPiecesWrong)

/-- 'laws.FnExactApplyTimerEvent': WHATEVER THE INPUT: true; the input reads as it did. -/
def fnExactApplyTimerEventSpec : ChangeSpec := { name := "fnExactApplyTimerEvent", fn := fun _ => fun
  | [d1, d2] => { results := [.lit (.bool true)], args := [d1, d2] }
  | _ => none }
def fnExactApplyTimerEventRow : OpenClaim := { program := "ytjlnccjhgngnoaa", sum := "520a476a7122d270a239f5183312c37a1b462843ccc6ae3b8ed3910bb829e29c", func := "loop.example/g00855/laws.FnExactApplyTimerEvent", spec := "fnExactApplyTimerEvent", apart := false }
def FnExactApplyTimerEventSaid : Prop := fnExactApplyTimerEventRow.holds Try.pinned (OpenSpec.ofChange fnExactApplyTimerEventSpec)

/-- ITS FALSE NEIGHBOUR: 'it returns false'. Refute it at one input. -/
def fnExactApplyTimerEventWrong : ChangeSpec := { name := "fnExactApplyTimerEvent", fn := fun _ => fun
  | [d1, d2] => { results := [.lit (.bool false)], args := [d1, d2] }
  | _ => none }
def FnExactApplyTimerEventWrongFalsely : Prop := fnExactApplyTimerEventRow.holds Try.pinned (OpenSpec.ofChange fnExactApplyTimerEventWrong)

/-- 'laws.FnExactIsPieceState': WHATEVER THE INPUT: true; the input reads as it did. -/
def fnExactIsPieceStateSpec : ChangeSpec := { name := "fnExactIsPieceState", fn := fun _ => fun
  | [d1, d2] => { results := [.lit (.bool true)], args := [d1, d2] }
  | _ => none }
def fnExactIsPieceStateRow : OpenClaim := { program := "ytjlnccjhgngnoaa", sum := "520a476a7122d270a239f5183312c37a1b462843ccc6ae3b8ed3910bb829e29c", func := "loop.example/g00855/laws.FnExactIsPieceState", spec := "fnExactIsPieceState", unfollowed := true, recurses := true, apart := false }
def FnExactIsPieceStateSaid : Prop := fnExactIsPieceStateRow.holds Try.pinned (OpenSpec.ofChange fnExactIsPieceStateSpec)

/-- ITS FALSE NEIGHBOUR: 'it returns false'. Refute it at one input. -/
def fnExactIsPieceStateWrong : ChangeSpec := { name := "fnExactIsPieceState", fn := fun _ => fun
  | [d1, d2] => { results := [.lit (.bool false)], args := [d1, d2] }
  | _ => none }
def FnExactIsPieceStateWrongFalsely : Prop := fnExactIsPieceStateRow.holds Try.pinned (OpenSpec.ofChange fnExactIsPieceStateWrong)

/- THE SECOND FORM. 'bulk': how many values and letters a reading holds, each counted each time it is reached (what is shared counts as often as it is met; a slice's spare places count too). A statement '..UptoSaid' is the law's where the arguments, and the package variables that the reading takes, are together of bulk at most 1048576: NARROWER than '..Said'. Prove '..Said' where nothing that the law and all that it calls make is longer than what came in: it says more and counts as full. Else prove '..UptoSaid'. A law counts once. -/
mutual
def uptoBulk {H : Type} : DataW H → Nat
  | .lit (.string bytes) => bytes.length + 1
  | .lit _ => 1
  | .nil => 1
  | .ptr d => uptoBulk d + 1
  | .slice elems spare => uptoBulkAll elems + uptoBulkAll spare + 1
  | .agg parts => uptoBulkAll parts + 1
  | .iface _ d => uptoBulk d + 1
  | .map entries => uptoBulkEntries entries + 1
  | .held _ => 1
def uptoBulkAll {H : Type} : List (DataW H) → Nat
  | [] => 0
  | d :: r => uptoBulk d + uptoBulkAll r
def uptoBulkEntries {H : Type} : List (Lit × DataW H) → Nat
  | [] => 0
  | x :: r => uptoBulkEntry x + uptoBulkEntries r
def uptoBulkEntry {H : Type} : Lit × DataW H → Nat
  | (.string bytes, d) => bytes.length + uptoBulk d + 1
  | (_, d) => uptoBulk d + 1
 end
def uptoSmall : (H : Type) → List (DataW H) → Bool := fun _ ds => decide (uptoBulkAll ds ≤ 1048576)
def OpenSpec.upto (s : _root_.Go.ChangeSpec) : _root_.Go.OpenSpec := { _root_.Go.OpenSpec.ofChange s with cond := some uptoSmall }

/-- 'laws.FnExactNextRandom', WHERE WHAT IT READS IS OF BULK AT MOST 1048576: true; the input reads as it did. -/
def fnExactNextRandomUptoRow : OpenClaim := { program := "ytjlnccjhgngnoaa", sum := "520a476a7122d270a239f5183312c37a1b462843ccc6ae3b8ed3910bb829e29c", func := "loop.example/g00855/laws.FnExactNextRandom", spec := "fnExactNextRandom", apart := false, narrowed := true }
def FnExactNextRandomUptoSaid : Prop := fnExactNextRandomUptoRow.holds Try.pinned (OpenSpec.upto fnExactNextRandomSpec)

/-- 'laws.FnExactInspectionPenalty', WHERE WHAT IT READS IS OF BULK AT MOST 1048576: true; the input reads as it did. -/
def fnExactInspectionPenaltyUptoRow : OpenClaim := { program := "ytjlnccjhgngnoaa", sum := "520a476a7122d270a239f5183312c37a1b462843ccc6ae3b8ed3910bb829e29c", func := "loop.example/g00855/laws.FnExactInspectionPenalty", spec := "fnExactInspectionPenalty", apart := false, narrowed := true }
def FnExactInspectionPenaltyUptoSaid : Prop := fnExactInspectionPenaltyUptoRow.holds Try.pinned (OpenSpec.upto fnExactInspectionPenaltySpec)

/-- 'laws.FnExactAreValidKinds', WHERE WHAT IT READS IS OF BULK AT MOST 1048576: true; the input reads as it did. -/
def fnExactAreValidKindsUptoRow : OpenClaim := { program := "ytjlnccjhgngnoaa", sum := "520a476a7122d270a239f5183312c37a1b462843ccc6ae3b8ed3910bb829e29c", func := "loop.example/g00855/laws.FnExactAreValidKinds", spec := "fnExactAreValidKinds", apart := false, narrowed := true }
def FnExactAreValidKindsUptoSaid : Prop := fnExactAreValidKindsUptoRow.holds Try.pinned (OpenSpec.upto fnExactAreValidKindsSpec)

/-- 'laws.FnExactRandomNumbers', WHERE WHAT IT READS IS OF BULK AT MOST 1048576: true; the input reads as it did. -/
def fnExactRandomNumbersUptoRow : OpenClaim := { program := "ytjlnccjhgngnoaa", sum := "520a476a7122d270a239f5183312c37a1b462843ccc6ae3b8ed3910bb829e29c", func := "loop.example/g00855/laws.FnExactRandomNumbers", spec := "fnExactRandomNumbers", apart := false, narrowed := true }
def FnExactRandomNumbersUptoSaid : Prop := fnExactRandomNumbersUptoRow.holds Try.pinned (OpenSpec.upto fnExactRandomNumbersSpec)

/-- 'laws.FnExactFaceletCount', WHERE WHAT IT READS IS OF BULK AT MOST 1048576: true; the input reads as it did. -/
def fnExactFaceletCountUptoRow : OpenClaim := { program := "ytjlnccjhgngnoaa", sum := "520a476a7122d270a239f5183312c37a1b462843ccc6ae3b8ed3910bb829e29c", func := "loop.example/g00855/laws.FnExactFaceletCount", spec := "fnExactFaceletCount", apart := false, narrowed := true }
def FnExactFaceletCountUptoSaid : Prop := fnExactFaceletCountUptoRow.holds Try.pinned (OpenSpec.upto fnExactFaceletCountSpec)

/-- 'laws.FnExactPieceStateCount', WHERE WHAT IT READS IS OF BULK AT MOST 1048576: true; the input reads as it did. -/
def fnExactPieceStateCountUptoRow : OpenClaim := { program := "ytjlnccjhgngnoaa", sum := "520a476a7122d270a239f5183312c37a1b462843ccc6ae3b8ed3910bb829e29c", func := "loop.example/g00855/laws.FnExactPieceStateCount", spec := "fnExactPieceStateCount", apart := false, narrowed := true }
def FnExactPieceStateCountUptoSaid : Prop := fnExactPieceStateCountUptoRow.holds Try.pinned (OpenSpec.upto fnExactPieceStateCountSpec)

/-- 'laws.FnExactIsValidTimer', WHERE WHAT IT READS IS OF BULK AT MOST 1048576: true; the input reads as it did. -/
def fnExactIsValidTimerUptoRow : OpenClaim := { program := "ytjlnccjhgngnoaa", sum := "520a476a7122d270a239f5183312c37a1b462843ccc6ae3b8ed3910bb829e29c", func := "loop.example/g00855/laws.FnExactIsValidTimer", spec := "fnExactIsValidTimer", apart := false, narrowed := true }
def FnExactIsValidTimerUptoSaid : Prop := fnExactIsValidTimerUptoRow.holds Try.pinned (OpenSpec.upto fnExactIsValidTimerSpec)

/-- 'laws.FnExactTimerResult', WHERE WHAT IT READS IS OF BULK AT MOST 1048576: true; the input reads as it did. -/
def fnExactTimerResultUptoRow : OpenClaim := { program := "ytjlnccjhgngnoaa", sum := "520a476a7122d270a239f5183312c37a1b462843ccc6ae3b8ed3910bb829e29c", func := "loop.example/g00855/laws.FnExactTimerResult", spec := "fnExactTimerResult", apart := false, narrowed := true }
def FnExactTimerResultUptoSaid : Prop := fnExactTimerResultUptoRow.holds Try.pinned (OpenSpec.upto fnExactTimerResultSpec)

/-- 'laws.FnTimerAttempt', WHERE WHAT IT READS IS OF BULK AT MOST 1048576: true; the input reads as it did. -/
def fnTimerAttemptUptoRow : OpenClaim := { program := "ytjlnccjhgngnoaa", sum := "520a476a7122d270a239f5183312c37a1b462843ccc6ae3b8ed3910bb829e29c", func := "loop.example/g00855/laws.FnTimerAttempt", spec := "fnTimerAttempt", apart := false, narrowed := true }
def FnTimerAttemptUptoSaid : Prop := fnTimerAttemptUptoRow.holds Try.pinned (OpenSpec.upto fnTimerAttemptSpec)

/-- 'laws.FnExactSolvedPieces', WHERE WHAT IT READS IS OF BULK AT MOST 1048576: true; the input reads as it did. -/
def fnExactSolvedPiecesUptoRow : OpenClaim := { program := "ytjlnccjhgngnoaa", sum := "520a476a7122d270a239f5183312c37a1b462843ccc6ae3b8ed3910bb829e29c", func := "loop.example/g00855/laws.FnExactSolvedPieces", spec := "fnExactSolvedPieces", apart := false, narrowed := true }
def FnExactSolvedPiecesUptoSaid : Prop := fnExactSolvedPiecesUptoRow.holds Try.pinned (OpenSpec.upto fnExactSolvedPiecesSpec)

/-- 'laws.FnExactApplyTimerEvent', WHERE WHAT IT READS IS OF BULK AT MOST 1048576: true; the input reads as it did. -/
def fnExactApplyTimerEventUptoRow : OpenClaim := { program := "ytjlnccjhgngnoaa", sum := "520a476a7122d270a239f5183312c37a1b462843ccc6ae3b8ed3910bb829e29c", func := "loop.example/g00855/laws.FnExactApplyTimerEvent", spec := "fnExactApplyTimerEvent", apart := false, narrowed := true }
def FnExactApplyTimerEventUptoSaid : Prop := fnExactApplyTimerEventUptoRow.holds Try.pinned (OpenSpec.upto fnExactApplyTimerEventSpec)

/-- 'laws.FnExactIsPieceState', WHERE WHAT IT READS IS OF BULK AT MOST 1048576: true; the input reads as it did. -/
def fnExactIsPieceStateUptoRow : OpenClaim := { program := "ytjlnccjhgngnoaa", sum := "520a476a7122d270a239f5183312c37a1b462843ccc6ae3b8ed3910bb829e29c", func := "loop.example/g00855/laws.FnExactIsPieceState", spec := "fnExactIsPieceState", unfollowed := true, recurses := true, apart := false, narrowed := true }
def FnExactIsPieceStateUptoSaid : Prop := fnExactIsPieceStateUptoRow.holds Try.pinned (OpenSpec.upto fnExactIsPieceStateSpec)

end Rows
end Go.Proofs.Ytjlnccjhgngnoaa

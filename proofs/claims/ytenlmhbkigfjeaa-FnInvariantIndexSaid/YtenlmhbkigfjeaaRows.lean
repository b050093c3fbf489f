/-
  No cell of these rows narrows 'for every input' (looked for: loops, veiled, ifaces, maps, wideKeys, modest, calm, conditions, laid).
  DERIVED. THE GIVEN ROWS OF THIS SEAT. 10 by the template 'for every input the law returns true; each argument reads behind the call as it read before'; 0 by the template 'total and deterministic' (their statements: YtenlmhbkigfjeaaTotals.lean).
  GIVEN WITH THE SEED: the statements are not yours to turn. If you find one false, say at which input.
  Laid BY PROGRAM, IN A SANDBOX (cutbox-rows.mjs): the forced cells as the released guide's own fill.sh prints them over the translation ca0a6632392f00ad… (all of the seat's roots in one cut). By AI agents, Wed Nov 11 2026. No macro, syntax, notation, axiom, sorry.
-/
import Derived.Test.YtenlmhbkigfjeaaChecked
import GoSem.Claim
import GoSem.ClaimJoined
import GoSem.ClaimMapViews
import Derived.JoinedTies
import Derived.KernelRfl
namespace Go.Proofs.Ytenlmhbkigfjeaa
/- THE CELL 'sum', in the pinned program and in every row, IS THE sha256 OF THE DUMP (.gsa) THAT YtenlmhbkigfjeaaProg.lean LOADS. Nothing in Lean hashes anything: it is a label: what it is worth is what the hold of that sum in a sandbox is worth. -/
noncomputable def Try.pinned : Pinned := { name := "ytenlmhbkigfjeaa", sum := "ca0a6632392f00ad4bb59483670a6c3f41cf31bdc588b0da116b5115e3dadeb8", checked := Try.checked }
namespace Rows
def none {H : Type} : Left H := { results := [], args := [] }

/-- 'laws.FnInvariantsHold': WHATEVER THE INPUT: true; the input reads as it did. -/
def fnInvariantsHoldSpec : ChangeSpec := { name := "fnInvariantsHold", fn := fun _ => fun
  | [d] => { results := [.lit (.bool true)], args := [d] }
  | _ => none }
def fnInvariantsHoldRow : OpenClaim := { program := "ytenlmhbkigfjeaa", sum := "ca0a6632392f00ad4bb59483670a6c3f41cf31bdc588b0da116b5115e3dadeb8", func := "loop.example/g00855/laws.FnInvariantsHold", spec := "fnInvariantsHold", unfollowed := true, recurses := true, apart := false }
def FnInvariantsHoldSaid : Prop := fnInvariantsHoldRow.holds Try.pinned (OpenSpec.ofChange fnInvariantsHoldSpec)

/-- ITS FALSE NEIGHBOUR: 'it returns false'. Refute it at one input. -/
def fnInvariantsHoldWrong : ChangeSpec := { name := "fnInvariantsHold", fn := fun _ => fun
  | [d] => { results := [.lit (.bool false)], args := [d] }
  | _ => none }
def FnInvariantsHoldWrongFalsely : Prop := fnInvariantsHoldRow.holds Try.pinned (OpenSpec.ofChange fnInvariantsHoldWrong)

/-- 'laws.FnCompiledMoves': WHATEVER THE INPUT: true; the input reads as it did. -/
def fnCompiledMovesSpec : ChangeSpec := { name := "fnCompiledMoves", fn := fun _ => fun
  | [d] => { results := [.lit (.bool true)], args := [d] }
  | _ => none }
def fnCompiledMovesRow : OpenClaim := { program := "ytenlmhbkigfjeaa", sum := "ca0a6632392f00ad4bb59483670a6c3f41cf31bdc588b0da116b5115e3dadeb8", func := "loop.example/g00855/laws.FnCompiledMoves", spec := "fnCompiledMoves", unfollowed := true, recurses := true, apart := false }
def FnCompiledMovesSaid : Prop := fnCompiledMovesRow.holds Try.pinned (OpenSpec.ofChange fnCompiledMovesSpec)

/-- ITS FALSE NEIGHBOUR: 'it returns false'. Refute it at one input. -/
def fnCompiledMovesWrong : ChangeSpec := { name := "fnCompiledMoves", fn := fun _ => fun
  | [d] => { results := [.lit (.bool false)], args := [d] }
  | _ => none }
def FnCompiledMovesWrongFalsely : Prop := fnCompiledMovesRow.holds Try.pinned (OpenSpec.ofChange fnCompiledMovesWrong)

/-- 'laws.FnExactCompilePieces': WHATEVER THE INPUT: true; the input reads as it did. -/
def fnExactCompilePiecesSpec : ChangeSpec := { name := "fnExactCompilePieces", fn := fun _ => fun
  | [d] => { results := [.lit (.bool true)], args := [d] }
  | _ => none }
def fnExactCompilePiecesRow : OpenClaim := { program := "ytenlmhbkigfjeaa", sum := "ca0a6632392f00ad4bb59483670a6c3f41cf31bdc588b0da116b5115e3dadeb8", func := "loop.example/g00855/laws.FnExactCompilePieces", spec := "fnExactCompilePieces", unfollowed := true, recurses := true, apart := false }
def FnExactCompilePiecesSaid : Prop := fnExactCompilePiecesRow.holds Try.pinned (OpenSpec.ofChange fnExactCompilePiecesSpec)

/-- ITS FALSE NEIGHBOUR: 'it returns false'. Refute it at one input. -/
def fnExactCompilePiecesWrong : ChangeSpec := { name := "fnExactCompilePieces", fn := fun _ => fun
  | [d] => { results := [.lit (.bool false)], args := [d] }
  | _ => none }
def FnExactCompilePiecesWrongFalsely : Prop := fnExactCompilePiecesRow.holds Try.pinned (OpenSpec.ofChange fnExactCompilePiecesWrong)

/-- 'laws.FnScrambleProper': WHATEVER THE INPUT: true; the input reads as it did. -/
def fnScrambleProperSpec : ChangeSpec := { name := "fnScrambleProper", fn := fun _ => fun
  | [d] => { results := [.lit (.bool true)], args := [d] }
  | _ => none }
def fnScrambleProperRow : OpenClaim := { program := "ytenlmhbkigfjeaa", sum := "ca0a6632392f00ad4bb59483670a6c3f41cf31bdc588b0da116b5115e3dadeb8", func := "loop.example/g00855/laws.FnScrambleProper", spec := "fnScrambleProper", unfollowed := true, recurses := true, apart := false }
def FnScrambleProperSaid : Prop := fnScrambleProperRow.holds Try.pinned (OpenSpec.ofChange fnScrambleProperSpec)

/-- ITS FALSE NEIGHBOUR: 'it returns false'. Refute it at one input. -/
def fnScrambleProperWrong : ChangeSpec := { name := "fnScrambleProper", fn := fun _ => fun
  | [d] => { results := [.lit (.bool false)], args := [d] }
  | _ => none }
def FnScrambleProperWrongFalsely : Prop := fnScrambleProperRow.holds Try.pinned (OpenSpec.ofChange fnScrambleProperWrong)

/-- 'laws.FnScrambleSets': WHATEVER THE INPUT: true; the input reads as it did. -/
def fnScrambleSetsSpec : ChangeSpec := { name := "fnScrambleSets", fn := fun _ => fun
  | [d] => { results := [.lit (.bool true)], args := [d] }
  | _ => none }
def fnScrambleSetsRow : OpenClaim := { program := "ytenlmhbkigfjeaa", sum := "ca0a6632392f00ad4bb59483670a6c3f41cf31bdc588b0da116b5115e3dadeb8", func := "loop.example/g00855/laws.FnScrambleSets", spec := "fnScrambleSets", unfollowed := true, recurses := true, apart := false }
def FnScrambleSetsSaid : Prop := fnScrambleSetsRow.holds Try.pinned (OpenSpec.ofChange fnScrambleSetsSpec)

/-- ITS FALSE NEIGHBOUR: 'it returns false'. Refute it at one input. -/
def fnScrambleSetsWrong : ChangeSpec := { name := "fnScrambleSets", fn := fun _ => fun
  | [d] => { results := [.lit (.bool false)], args := [d] }
  | _ => none }
def FnScrambleSetsWrongFalsely : Prop := fnScrambleSetsRow.holds Try.pinned (OpenSpec.ofChange fnScrambleSetsWrong)

/-- 'laws.FnExactScrambleHistogram': WHATEVER THE INPUT: true; the input reads as it did. -/
def fnExactScrambleHistogramSpec : ChangeSpec := { name := "fnExactScrambleHistogram", fn := fun _ => fun
  | [d1, d2, d3, d4] => { results := [.lit (.bool true)], args := [d1, d2, d3, d4] }
  | _ => none }
def fnExactScrambleHistogramRow : OpenClaim := { program := "ytenlmhbkigfjeaa", sum := "ca0a6632392f00ad4bb59483670a6c3f41cf31bdc588b0da116b5115e3dadeb8", func := "loop.example/g00855/laws.FnExactScrambleHistogram", spec := "fnExactScrambleHistogram", unfollowed := true, recurses := true, apart := false }
def FnExactScrambleHistogramSaid : Prop := fnExactScrambleHistogramRow.holds Try.pinned (OpenSpec.ofChange fnExactScrambleHistogramSpec)

/-- ITS FALSE NEIGHBOUR: 'it returns false'. Refute it at one input. -/
def fnExactScrambleHistogramWrong : ChangeSpec := { name := "fnExactScrambleHistogram", fn := fun _ => fun
  | [d1, d2, d3, d4] => { results := [.lit (.bool false)], args := [d1, d2, d3, d4] }
  | _ => none }
def FnExactScrambleHistogramWrongFalsely : Prop := fnExactScrambleHistogramRow.holds Try.pinned (OpenSpec.ofChange fnExactScrambleHistogramWrong)

/-- 'laws.FnExactSmallestSupport': WHATEVER THE INPUT: true; the input reads as it did. -/
def fnExactSmallestSupportSpec : ChangeSpec := { name := "fnExactSmallestSupport", fn := fun _ => fun
  | [d] => { results := [.lit (.bool true)], args := [d] }
  | _ => none }
def fnExactSmallestSupportRow : OpenClaim := { program := "ytenlmhbkigfjeaa", sum := "ca0a6632392f00ad4bb59483670a6c3f41cf31bdc588b0da116b5115e3dadeb8", func := "loop.example/g00855/laws.FnExactSmallestSupport", spec := "fnExactSmallestSupport", unfollowed := true, recurses := true, apart := false }
def FnExactSmallestSupportSaid : Prop := fnExactSmallestSupportRow.holds Try.pinned (OpenSpec.ofChange fnExactSmallestSupportSpec)

/-- ITS FALSE NEIGHBOUR: 'it returns false'. Refute it at one input. -/
def fnExactSmallestSupportWrong : ChangeSpec := { name := "fnExactSmallestSupport", fn := fun _ => fun
  | [d] => { results := [.lit (.bool false)], args := [d] }
  | _ => none }
def FnExactSmallestSupportWrongFalsely : Prop := fnExactSmallestSupportRow.holds Try.pinned (OpenSpec.ofChange fnExactSmallestSupportWrong)

/-- 'laws.FnExactFindMacros': WHATEVER THE INPUT: true; the input reads as it did. -/
def fnExactFindMacrosSpec : ChangeSpec := { name := "fnExactFindMacros", fn := fun _ => fun
  | [d1, d2, d3] => { results := [.lit (.bool true)], args := [d1, d2, d3] }
  | _ => none }
def fnExactFindMacrosRow : OpenClaim := { program := "ytenlmhbkigfjeaa", sum := "ca0a6632392f00ad4bb59483670a6c3f41cf31bdc588b0da116b5115e3dadeb8", func := "loop.example/g00855/laws.FnExactFindMacros", spec := "fnExactFindMacros", unfollowed := true, recurses := true, apart := false }
def FnExactFindMacrosSaid : Prop := fnExactFindMacrosRow.holds Try.pinned (OpenSpec.ofChange fnExactFindMacrosSpec)

/-- ITS FALSE NEIGHBOUR: 'it returns false'. Refute it at one input. -/
def fnExactFindMacrosWrong : ChangeSpec := { name := "fnExactFindMacros", fn := fun _ => fun
  | [d1, d2, d3] => { results := [.lit (.bool false)], args := [d1, d2, d3] }
  | _ => none }
def FnExactFindMacrosWrongFalsely : Prop := fnExactFindMacrosRow.holds Try.pinned (OpenSpec.ofChange fnExactFindMacrosWrong)

/-- 'laws.FnSupportWords': WHATEVER THE INPUT: true; the input reads as it did. -/
def fnSupportWordsSpec : ChangeSpec := { name := "fnSupportWords", fn := fun _ => fun
  | [d] => { results := [.lit (.bool true)], args := [d] }
  | _ => none }
def fnSupportWordsRow : OpenClaim := { program := "ytenlmhbkigfjeaa", sum := "ca0a6632392f00ad4bb59483670a6c3f41cf31bdc588b0da116b5115e3dadeb8", func := "loop.example/g00855/laws.FnSupportWords", spec := "fnSupportWords", unfollowed := true, recurses := true, apart := false }
def FnSupportWordsSaid : Prop := fnSupportWordsRow.holds Try.pinned (OpenSpec.ofChange fnSupportWordsSpec)

/-- ITS FALSE NEIGHBOUR: 'it returns false'. Refute it at one input. -/
def fnSupportWordsWrong : ChangeSpec := { name := "fnSupportWords", fn := fun _ => fun
  | [d] => { results := [.lit (.bool false)], args := [d] }
  | _ => none }
def FnSupportWordsWrongFalsely : Prop := fnSupportWordsRow.holds Try.pinned (OpenSpec.ofChange fnSupportWordsWrong)

/-- 'laws.FnInvariantIndex': WHATEVER THE INPUT: true; the input reads as it did. -/
def fnInvariantIndexSpec : ChangeSpec := { name := "fnInvariantIndex", fn := fun _ => fun
  | [d] => { results := [.lit (.bool true)], args := [d] }
  | _ => none }
def fnInvariantIndexRow : OpenClaim := { program := "ytenlmhbkigfjeaa", sum := "ca0a6632392f00ad4bb59483670a6c3f41cf31bdc588b0da116b5115e3dadeb8", func := "loop.example/g00855/laws.FnInvariantIndex", spec := "fnInvariantIndex", unfollowed := true, recurses := true, apart := false }
def FnInvariantIndexSaid : Prop := fnInvariantIndexRow.holds Try.pinned (OpenSpec.ofChange fnInvariantIndexSpec)

/-- ITS FALSE NEIGHBOUR: 'it returns false'. Refute it at one input. -/
def fnInvariantIndexWrong : ChangeSpec := { name := "fnInvariantIndex", fn := fun _ => fun
  | [d] => { results := [.lit (.bool false)], args := [d] }
  | _ => none }
def FnInvariantIndexWrongFalsely : Prop := fnInvariantIndexRow.holds Try.pinned (OpenSpec.ofChange fnInvariantIndexWrong)

/- THE SECOND FORM. 'bulk': how many values and letters a reading holds, each counted each time it is reached (what is shared counts as often as it is met; a slice's spare places count too). A statement '..UptoSaid' is the law's where the arguments, and the package variables that the reading takes, are together of bulk at most 1048576: NARROWER than '..Said'. Prove '..Said' where nothing that the law and all that it calls make is longer than what came in: it says more and counts as full. Else prove '..UptoSaid'. A law counts once. -/
mutual
def uptoBulk {H : Type} : DataW H → Nat
  | .lit (.string bytes) => bytes.length + 1
  | .lit _ => 1
  | .nil => 1
  | .ptr d => uptoBulk d + 1
  | .slice elems spare => uptoBulkAll elems + uptoBulkAll spare + 1
  | .agg parts => uptoBulkAll parts + 1
  | .iface _ d => uptoBulk d + 1
  | .map entries => uptoBulkEntries entries + 1
  | .held _ => 1
def uptoBulkAll {H : Type} : List (DataW H) → Nat
  | [] => 0
  | d :: r => uptoBulk d + uptoBulkAll r
def uptoBulkEntries {H : Type} : List (Lit × DataW H) → Nat
  | [] => 0
  | x :: r => uptoBulkEntry x + uptoBulkEntries r
def uptoBulkEntry {H : Type} : Lit × DataW H → Nat
  | (.string bytes, d) => bytes.length + uptoBulk d + 1
  | (_, d) => uptoBulk d + 1
 end
def uptoSmall : (H : Type) → List (DataW H) → Bool := fun _ ds => decide (uptoBulkAll ds ≤ 1048576)
def OpenSpec.upto (s : _root_.Go.ChangeSpec) : _root_.Go.OpenSpec := { _root_.Go.OpenSpec.ofChange s with cond := some uptoSmall }

/-- 'laws.FnInvariantsHold', WHERE WHAT IT READS IS OF BULK AT MOST 1048576: true; the input reads as it did. -/
def fnInvariantsHoldUptoRow : OpenClaim := { program := "ytenlmhbkigfjeaa", sum := "ca0a6632392f00ad4bb59483670a6c3f41cf31bdc588b0da116b5115e3dadeb8", func := "loop.example/g00855/laws.FnInvariantsHold", spec := "fnInvariantsHold", unfollowed := true, recurses := true, apart := false, narrowed := true }
def FnInvariantsHoldUptoSaid : Prop := fnInvariantsHoldUptoRow.holds Try.pinned (OpenSpec.upto fnInvariantsHoldSpec)

/-- 'laws.FnCompiledMoves', WHERE WHAT IT READS IS OF BULK AT MOST 1048576: true; the input reads as it did. -/
def fnCompiledMovesUptoRow : OpenClaim := { program := "ytenlmhbkigfjeaa", sum := "ca0a6632392f00ad4bb59483670a6c3f41cf31bdc588b0da116b5115e3dadeb8", func := "loop.example/g00855/laws.FnCompiledMoves", spec := "fnCompiledMoves", unfollowed := true, recurses := true, apart := false, narrowed := true }
def FnCompiledMovesUptoSaid : Prop := fnCompiledMovesUptoRow.holds Try.pinned (OpenSpec.upto fnCompiledMovesSpec)

/-- 'laws.FnExactCompilePieces', WHERE WHAT IT READS IS OF BULK AT MOST 1048576: true; the input reads as it did. -/
def fnExactCompilePiecesUptoRow : OpenClaim := { program := "ytenlmhbkigfjeaa", sum := "ca0a6632392f00ad4bb59483670a6c3f41cf31bdc588b0da116b5115e3dadeb8", func := "loop.example/g00855/laws.FnExactCompilePieces", spec := "fnExactCompilePieces", unfollowed := true, recurses := true, apart := false, narrowed := true }
def FnExactCompilePiecesUptoSaid : Prop := fnExactCompilePiecesUptoRow.holds Try.pinned (OpenSpec.upto fnExactCompilePiecesSpec)

/-- 'laws.FnScrambleProper', WHERE WHAT IT READS IS OF BULK AT MOST 1048576: true; the input reads as it did. -/
def fnScrambleProperUptoRow : OpenClaim := { program := "ytenlmhbkigfjeaa", sum := "ca0a6632392f00ad4bb59483670a6c3f41cf31bdc588b0da116b5115e3dadeb8", func := "loop.example/g00855/laws.FnScrambleProper", spec := "fnScrambleProper", unfollowed := true, recurses := true, apart := false, narrowed := true }
def FnScrambleProperUptoSaid : Prop := fnScrambleProperUptoRow.holds Try.pinned (OpenSpec.upto fnScrambleProperSpec)

/-- 'laws.FnScrambleSets', WHERE WHAT IT READS IS OF BULK AT MOST 1048576: true; the input reads as it did. -/
def fnScrambleSetsUptoRow : OpenClaim := { program := "ytenlmhbkigfjeaa", sum := "ca0a6632392f00ad4bb59483670a6c3f41cf31bdc588b0da116b5115e3dadeb8", func := "loop.example/g00855/laws.FnScrambleSets", spec := "fnScrambleSets", unfollowed := true, recurses := true, apart := false, narrowed := true }
def FnScrambleSetsUptoSaid : Prop := fnScrambleSetsUptoRow.holds Try.pinned (OpenSpec.upto fnScrambleSetsSpec)

/-- 'laws.FnExactScrambleHistogram', WHERE WHAT IT READS IS OF BULK AT MOST 1048576: true; the input reads as it did. -/
def fnExactScrambleHistogramUptoRow : OpenClaim := { program := "ytenlmhbkigfjeaa", sum := "ca0a6632392f00ad4bb59483670a6c3f41cf31bdc588b0da116b5115e3dadeb8", func := "loop.example/g00855/laws.FnExactScrambleHistogram", spec := "fnExactScrambleHistogram", unfollowed := true, recurses := true, apart := false, narrowed := true }
def FnExactScrambleHistogramUptoSaid : Prop := fnExactScrambleHistogramUptoRow.holds Try.pinned (OpenSpec.upto fnExactScrambleHistogramSpec)

/-- 'laws.FnExactSmallestSupport', WHERE WHAT IT READS IS OF BULK AT MOST 1048576: true; the input reads as it did. -/
def fnExactSmallestSupportUptoRow : OpenClaim := { program := "ytenlmhbkigfjeaa", sum := "ca0a6632392f00ad4bb59483670a6c3f41cf31bdc588b0da116b5115e3dadeb8", func := "loop.example/g00855/laws.FnExactSmallestSupport", spec := "fnExactSmallestSupport", unfollowed := true, recurses := true, apart := false, narrowed := true }
def FnExactSmallestSupportUptoSaid : Prop := fnExactSmallestSupportUptoRow.holds Try.pinned (OpenSpec.upto fnExactSmallestSupportSpec)

/-- 'laws.FnExactFindMacros', WHERE WHAT IT READS IS OF BULK AT MOST 1048576: true; the input reads as it did. -/
def fnExactFindMacrosUptoRow : OpenClaim := { program := "ytenlmhbkigfjeaa", sum := "ca0a6632392f00ad4bb59483670a6c3f41cf31bdc588b0da116b5115e3dadeb8", func := "loop.example/g00855/laws.FnExactFindMacros", spec := "fnExactFindMacros", unfollowed := true, recurses := true, apart := false, narrowed := true }
def FnExactFindMacrosUptoSaid : Prop := fnExactFindMacrosUptoRow.holds Try.pinned (OpenSpec.upto fnExactFindMacrosSpec)

/-- 'laws.FnSupportWords', WHERE WHAT IT READS IS OF BULK AT MOST 1048576: true; the input reads as it did. -/
def fnSupportWordsUptoRow : OpenClaim := { program := "ytenlmhbkigfjeaa", sum := "ca0a6632392f00ad4bb59483670a6c3f41cf31bdc588b0da116b5115e3dadeb8", func := "loop.example/g00855/laws.FnSupportWords", spec := "fnSupportWords", unfollowed := true, recurses := true, apart := false, narrowed := true }
def FnSupportWordsUptoSaid : Prop := fnSupportWordsUptoRow.holds Try.pinned (OpenSpec.upto fnSupportWordsSpec)

/-- 'laws.FnInvariantIndex', WHERE WHAT IT READS IS OF BULK AT MOST 1048576: true; the input reads as it did. -/
def fnInvariantIndexUptoRow : OpenClaim := { program := "ytenlmhbkigfjeaa", sum := "ca0a6632392f00ad4bb59483670a6c3f41cf31bdc588b0da116b5115e3dadeb8", func := "loop.example/g00855/laws.FnInvariantIndex", spec := "fnInvariantIndex", unfollowed := true, recurses := true, apart := false, narrowed := true }
def FnInvariantIndexUptoSaid : Prop := fnInvariantIndexUptoRow.holds Try.pinned (OpenSpec.upto fnInvariantIndexSpec)

end Rows
end Go.Proofs.Ytenlmhbkigfjeaa

/-
  No cell of these rows narrows 'for every input' (looked for: loops, veiled, ifaces, maps, wideKeys, modest, calm, conditions, laid).
  DERIVED. THE GIVEN ROWS OF THIS SEAT. 12 by the template 'for every input the law returns true; each argument reads behind the call as it read before'; 0 by the template 'total and deterministic' (their statements: YtbhaeaehgmpfhaaTotals.lean).
  GIVEN WITH THE SEED: the statements are not yours to turn. If you find one false, say at which input.
  Laid BY PROGRAM, IN A SANDBOX (cutbox-rows.mjs): the forced cells as the released guide's own fill.sh prints them over the translation 845500f7f0b296e1… (all of the seat's roots in one cut). By AI agents, Wed Nov 11 2026. No macro, syntax, notation, axiom, sorry.
-/
import Derived.Test.YtbhaeaehgmpfhaaChecked
import GoSem.Claim
import GoSem.ClaimJoined
import GoSem.ClaimMapViews
import Derived.JoinedTies
import Derived.KernelRfl
namespace Go.Proofs.Ytbhaeaehgmpfhaa
/- THE CELL 'sum', in the pinned program and in every row, IS THE sha256 OF THE DUMP (.gsa) THAT YtbhaeaehgmpfhaaProg.lean LOADS. Nothing in Lean hashes anything: it is a label: what it is worth is what the hold of that sum in a sandbox is worth. -/
noncomputable def Try.pinned : Pinned := { name := "ytbhaeaehgmpfhaa", sum := "845500f7f0b296e16456584a62d0b0aa2adf6e30e80cb204b8bef0a2f7946eb1", checked := Try.checked }
namespace Rows
def none {H : Type} : Left H := { results := [], args := [] }

/-- 'laws.FnExactIsProperScramble': WHATEVER THE INPUT: true; the input reads as it did. -/
def fnExactIsProperScrambleSpec : ChangeSpec := { name := "fnExactIsProperScramble", fn := fun _ => fun
  | [d1, d2] => { results := [.lit (.bool true)], args := [d1, d2] }
  | _ => none }
def fnExactIsProperScrambleRow : OpenClaim := { program := "ytbhaeaehgmpfhaa", sum := "845500f7f0b296e16456584a62d0b0aa2adf6e30e80cb204b8bef0a2f7946eb1", func := "loop.example/g00855/laws.FnExactIsProperScramble", spec := "fnExactIsProperScramble", unfollowed := true, recurses := true, apart := false }
def FnExactIsProperScrambleSaid : Prop := fnExactIsProperScrambleRow.holds Try.pinned (OpenSpec.ofChange fnExactIsProperScrambleSpec)

/-- ITS FALSE NEIGHBOUR: 'it returns false'. Refute it at one input. -/
def fnExactIsProperScrambleWrong : ChangeSpec := { name := "fnExactIsProperScramble", fn := fun _ => fun
  | [d1, d2] => { results := [.lit (.bool false)], args := [d1, d2] }
  | _ => none }
def FnExactIsProperScrambleWrongFalsely : Prop := fnExactIsProperScrambleRow.holds Try.pinned (OpenSpec.ofChange fnExactIsProperScrambleWrong)

/-- 'laws.FnExactScrambleWord': WHATEVER THE INPUT: true; the input reads as it did. -/
def fnExactScrambleWordSpec : ChangeSpec := { name := "fnExactScrambleWord", fn := fun _ => fun
  | [d1, d2, d3] => { results := [.lit (.bool true)], args := [d1, d2, d3] }
  | _ => none }
def fnExactScrambleWordRow : OpenClaim := { program := "ytbhaeaehgmpfhaa", sum := "845500f7f0b296e16456584a62d0b0aa2adf6e30e80cb204b8bef0a2f7946eb1", func := "loop.example/g00855/laws.FnExactScrambleWord", spec := "fnExactScrambleWord", unfollowed := true, recurses := true, apart := false }
def FnExactScrambleWordSaid : Prop := fnExactScrambleWordRow.holds Try.pinned (OpenSpec.ofChange fnExactScrambleWordSpec)

/-- ITS FALSE NEIGHBOUR: 'it returns false'. Refute it at one input. -/
def fnExactScrambleWordWrong : ChangeSpec := { name := "fnExactScrambleWord", fn := fun _ => fun
  | [d1, d2, d3] => { results := [.lit (.bool false)], args := [d1, d2, d3] }
  | _ => none }
def FnExactScrambleWordWrongFalsely : Prop := fnExactScrambleWordRow.holds Try.pinned (OpenSpec.ofChange fnExactScrambleWordWrong)

/-- 'laws.FnPieceRoundTrip': WHATEVER THE INPUT: true; the input reads as it did. -/
def fnPieceRoundTripSpec : ChangeSpec := { name := "fnPieceRoundTrip", fn := fun _ => fun
  | [d] => { results := [.lit (.bool true)], args := [d] }
  | _ => none }
def fnPieceRoundTripRow : OpenClaim := { program := "ytbhaeaehgmpfhaa", sum := "845500f7f0b296e16456584a62d0b0aa2adf6e30e80cb204b8bef0a2f7946eb1", func := "loop.example/g00855/laws.FnPieceRoundTrip", spec := "fnPieceRoundTrip", unfollowed := true, recurses := true, apart := false }
def FnPieceRoundTripSaid : Prop := fnPieceRoundTripRow.holds Try.pinned (OpenSpec.ofChange fnPieceRoundTripSpec)

/-- ITS FALSE NEIGHBOUR: 'it returns false'. Refute it at one input. -/
def fnPieceRoundTripWrong : ChangeSpec := { name := "fnPieceRoundTrip", fn := fun _ => fun
  | [d] => { results := [.lit (.bool false)], args := [d] }
  | _ => none }
def FnPieceRoundTripWrongFalsely : Prop := fnPieceRoundTripRow.holds Try.pinned (OpenSpec.ofChange fnPieceRoundTripWrong)

/-- 'laws.FnPieceHomomorphism': WHATEVER THE INPUT: true; the input reads as it did. -/
def fnPieceHomomorphismSpec : ChangeSpec := { name := "fnPieceHomomorphism", fn := fun _ => fun
  | [d] => { results := [.lit (.bool true)], args := [d] }
  | _ => none }
def fnPieceHomomorphismRow : OpenClaim := { program := "ytbhaeaehgmpfhaa", sum := "845500f7f0b296e16456584a62d0b0aa2adf6e30e80cb204b8bef0a2f7946eb1", func := "loop.example/g00855/laws.FnPieceHomomorphism", spec := "fnPieceHomomorphism", unfollowed := true, recurses := true, apart := false }
def FnPieceHomomorphismSaid : Prop := fnPieceHomomorphismRow.holds Try.pinned (OpenSpec.ofChange fnPieceHomomorphismSpec)

/-- ITS FALSE NEIGHBOUR: 'it returns false'. Refute it at one input. -/
def fnPieceHomomorphismWrong : ChangeSpec := { name := "fnPieceHomomorphism", fn := fun _ => fun
  | [d] => { results := [.lit (.bool false)], args := [d] }
  | _ => none }
def FnPieceHomomorphismWrongFalsely : Prop := fnPieceHomomorphismRow.holds Try.pinned (OpenSpec.ofChange fnPieceHomomorphismWrong)

/-- 'laws.FnExactScrambledState': WHATEVER THE INPUT: true; the input reads as it did. -/
def fnExactScrambledStateSpec : ChangeSpec := { name := "fnExactScrambledState", fn := fun _ => fun
  | [d1, d2, d3] => { results := [.lit (.bool true)], args := [d1, d2, d3] }
  | _ => none }
def fnExactScrambledStateRow : OpenClaim := { program := "ytbhaeaehgmpfhaa", sum := "845500f7f0b296e16456584a62d0b0aa2adf6e30e80cb204b8bef0a2f7946eb1", func := "loop.example/g00855/laws.FnExactScrambledState", spec := "fnExactScrambledState", unfollowed := true, recurses := true, apart := false }
def FnExactScrambledStateSaid : Prop := fnExactScrambledStateRow.holds Try.pinned (OpenSpec.ofChange fnExactScrambledStateSpec)

/-- ITS FALSE NEIGHBOUR: 'it returns false'. Refute it at one input. -/
def fnExactScrambledStateWrong : ChangeSpec := { name := "fnExactScrambledState", fn := fun _ => fun
  | [d1, d2, d3] => { results := [.lit (.bool false)], args := [d1, d2, d3] }
  | _ => none }
def FnExactScrambledStateWrongFalsely : Prop := fnExactScrambledStateRow.holds Try.pinned (OpenSpec.ofChange fnExactScrambledStateWrong)

/-- 'laws.FnExactDistinctScrambles': WHATEVER THE INPUT: true; the input reads as it did. -/
def fnExactDistinctScramblesSpec : ChangeSpec := { name := "fnExactDistinctScrambles", fn := fun _ => fun
  | [d1, d2, d3, d4] => { results := [.lit (.bool true)], args := [d1, d2, d3, d4] }
  | _ => none }
def fnExactDistinctScramblesRow : OpenClaim := { program := "ytbhaeaehgmpfhaa", sum := "845500f7f0b296e16456584a62d0b0aa2adf6e30e80cb204b8bef0a2f7946eb1", func := "loop.example/g00855/laws.FnExactDistinctScrambles", spec := "fnExactDistinctScrambles", unfollowed := true, recurses := true, apart := false }
def FnExactDistinctScramblesSaid : Prop := fnExactDistinctScramblesRow.holds Try.pinned (OpenSpec.ofChange fnExactDistinctScramblesSpec)

/-- ITS FALSE NEIGHBOUR: 'it returns false'. Refute it at one input. -/
def fnExactDistinctScramblesWrong : ChangeSpec := { name := "fnExactDistinctScrambles", fn := fun _ => fun
  | [d1, d2, d3, d4] => { results := [.lit (.bool false)], args := [d1, d2, d3, d4] }
  | _ => none }
def FnExactDistinctScramblesWrongFalsely : Prop := fnExactDistinctScramblesRow.holds Try.pinned (OpenSpec.ofChange fnExactDistinctScramblesWrong)

/-- 'laws.FnExactConsistentStateCount': WHATEVER THE INPUT: true; the input reads as it did. -/
def fnExactConsistentStateCountSpec : ChangeSpec := { name := "fnExactConsistentStateCount", fn := fun _ => fun
  | [d] => { results := [.lit (.bool true)], args := [d] }
  | _ => none }
def fnExactConsistentStateCountRow : OpenClaim := { program := "ytbhaeaehgmpfhaa", sum := "845500f7f0b296e16456584a62d0b0aa2adf6e30e80cb204b8bef0a2f7946eb1", func := "loop.example/g00855/laws.FnExactConsistentStateCount", spec := "fnExactConsistentStateCount", unfollowed := true, recurses := true, apart := false }
def FnExactConsistentStateCountSaid : Prop := fnExactConsistentStateCountRow.holds Try.pinned (OpenSpec.ofChange fnExactConsistentStateCountSpec)

/-- ITS FALSE NEIGHBOUR: 'it returns false'. Refute it at one input. -/
def fnExactConsistentStateCountWrong : ChangeSpec := { name := "fnExactConsistentStateCount", fn := fun _ => fun
  | [d] => { results := [.lit (.bool false)], args := [d] }
  | _ => none }
def FnExactConsistentStateCountWrongFalsely : Prop := fnExactConsistentStateCountRow.holds Try.pinned (OpenSpec.ofChange fnExactConsistentStateCountWrong)

/-- 'laws.FnExactWordSupport': WHATEVER THE INPUT: true; the input reads as it did. -/
def fnExactWordSupportSpec : ChangeSpec := { name := "fnExactWordSupport", fn := fun _ => fun
  | [d1, d2] => { results := [.lit (.bool true)], args := [d1, d2] }
  | _ => none }
def fnExactWordSupportRow : OpenClaim := { program := "ytbhaeaehgmpfhaa", sum := "845500f7f0b296e16456584a62d0b0aa2adf6e30e80cb204b8bef0a2f7946eb1", func := "loop.example/g00855/laws.FnExactWordSupport", spec := "fnExactWordSupport", unfollowed := true, recurses := true, apart := false }
def FnExactWordSupportSaid : Prop := fnExactWordSupportRow.holds Try.pinned (OpenSpec.ofChange fnExactWordSupportSpec)

/-- ITS FALSE NEIGHBOUR: 'it returns false'. Refute it at one input. -/
def fnExactWordSupportWrong : ChangeSpec := { name := "fnExactWordSupport", fn := fun _ => fun
  | [d1, d2] => { results := [.lit (.bool false)], args := [d1, d2] }
  | _ => none }
def FnExactWordSupportWrongFalsely : Prop := fnExactWordSupportRow.holds Try.pinned (OpenSpec.ofChange fnExactWordSupportWrong)

/-- 'laws.FnExactIsMacro': WHATEVER THE INPUT: true; the input reads as it did. -/
def fnExactIsMacroSpec : ChangeSpec := { name := "fnExactIsMacro", fn := fun _ => fun
  | [d1, d2] => { results := [.lit (.bool true)], args := [d1, d2] }
  | _ => none }
def fnExactIsMacroRow : OpenClaim := { program := "ytbhaeaehgmpfhaa", sum := "845500f7f0b296e16456584a62d0b0aa2adf6e30e80cb204b8bef0a2f7946eb1", func := "loop.example/g00855/laws.FnExactIsMacro", spec := "fnExactIsMacro", unfollowed := true, recurses := true, apart := false }
def FnExactIsMacroSaid : Prop := fnExactIsMacroRow.holds Try.pinned (OpenSpec.ofChange fnExactIsMacroSpec)

/-- ITS FALSE NEIGHBOUR: 'it returns false'. Refute it at one input. -/
def fnExactIsMacroWrong : ChangeSpec := { name := "fnExactIsMacro", fn := fun _ => fun
  | [d1, d2] => { results := [.lit (.bool false)], args := [d1, d2] }
  | _ => none }
def FnExactIsMacroWrongFalsely : Prop := fnExactIsMacroRow.holds Try.pinned (OpenSpec.ofChange fnExactIsMacroWrong)

/-- 'laws.FnExactSmallestPower': WHATEVER THE INPUT: true; the input reads as it did. -/
def fnExactSmallestPowerSpec : ChangeSpec := { name := "fnExactSmallestPower", fn := fun _ => fun
  | [d1, d2] => { results := [.lit (.bool true)], args := [d1, d2] }
  | _ => none }
def fnExactSmallestPowerRow : OpenClaim := { program := "ytbhaeaehgmpfhaa", sum := "845500f7f0b296e16456584a62d0b0aa2adf6e30e80cb204b8bef0a2f7946eb1", func := "loop.example/g00855/laws.FnExactSmallestPower", spec := "fnExactSmallestPower", unfollowed := true, recurses := true, apart := false }
def FnExactSmallestPowerSaid : Prop := fnExactSmallestPowerRow.holds Try.pinned (OpenSpec.ofChange fnExactSmallestPowerSpec)

/-- ITS FALSE NEIGHBOUR: 'it returns false'. Refute it at one input. -/
def fnExactSmallestPowerWrong : ChangeSpec := { name := "fnExactSmallestPower", fn := fun _ => fun
  | [d1, d2] => { results := [.lit (.bool false)], args := [d1, d2] }
  | _ => none }
def FnExactSmallestPowerWrongFalsely : Prop := fnExactSmallestPowerRow.holds Try.pinned (OpenSpec.ofChange fnExactSmallestPowerWrong)

/-- 'laws.FnExactCommutatorMacros': WHATEVER THE INPUT: true; the input reads as it did. -/
def fnExactCommutatorMacrosSpec : ChangeSpec := { name := "fnExactCommutatorMacros", fn := fun _ => fun
  | [d] => { results := [.lit (.bool true)], args := [d] }
  | _ => none }
def fnExactCommutatorMacrosRow : OpenClaim := { program := "ytbhaeaehgmpfhaa", sum := "845500f7f0b296e16456584a62d0b0aa2adf6e30e80cb204b8bef0a2f7946eb1", func := "loop.example/g00855/laws.FnExactCommutatorMacros", spec := "fnExactCommutatorMacros", unfollowed := true, recurses := true, apart := false }
def FnExactCommutatorMacrosSaid : Prop := fnExactCommutatorMacrosRow.holds Try.pinned (OpenSpec.ofChange fnExactCommutatorMacrosSpec)

/-- ITS FALSE NEIGHBOUR: 'it returns false'. Refute it at one input. -/
def fnExactCommutatorMacrosWrong : ChangeSpec := { name := "fnExactCommutatorMacros", fn := fun _ => fun
  | [d] => { results := [.lit (.bool false)], args := [d] }
  | _ => none }
def FnExactCommutatorMacrosWrongFalsely : Prop := fnExactCommutatorMacrosRow.holds Try.pinned (OpenSpec.ofChange fnExactCommutatorMacrosWrong)

/-- 'laws.FnExactConjugateMacro': WHATEVER THE INPUT: true; the input reads as it did. -/
def fnExactConjugateMacroSpec : ChangeSpec := { name := "fnExactConjugateMacro", fn := fun _ => fun
  | [d1, d2, d3] => { results := [.lit (.bool true)], args := [d1, d2, d3] }
  | _ => none }
def fnExactConjugateMacroRow : OpenClaim := { program := "ytbhaeaehgmpfhaa", sum := "845500f7f0b296e16456584a62d0b0aa2adf6e30e80cb204b8bef0a2f7946eb1", func := "loop.example/g00855/laws.FnExactConjugateMacro", spec := "fnExactConjugateMacro", unfollowed := true, recurses := true, apart := false }
def FnExactConjugateMacroSaid : Prop := fnExactConjugateMacroRow.holds Try.pinned (OpenSpec.ofChange fnExactConjugateMacroSpec)

/-- ITS FALSE NEIGHBOUR: 'it returns false'. Refute it at one input. -/
def fnExactConjugateMacroWrong : ChangeSpec := { name := "fnExactConjugateMacro", fn := fun _ => fun
  | [d1, d2, d3] => { results := [.lit (.bool false)], args := [d1, d2, d3] }
  | _ => none }
def FnExactConjugateMacroWrongFalsely : Prop := fnExactConjugateMacroRow.holds Try.pinned (OpenSpec.ofChange fnExactConjugateMacroWrong)

/- THE SECOND FORM. 'bulk': how many values and letters a reading holds, each counted each time it is reached (what is shared counts as often as it is met; a slice's spare places count too). A statement '..UptoSaid' is the law's where the arguments, and the package variables that the reading takes, are together of bulk at most 1048576: NARROWER than '..Said'. Prove '..Said' where nothing that the law and all that it calls make is longer than what came in: it says more and counts as full. Else prove '..UptoSaid'. A law counts once. -/
mutual
def uptoBulk {H : Type} : DataW H → Nat
  | .lit (.string bytes) => bytes.length + 1
  | .lit _ => 1
  | .nil => 1
  | .ptr d => uptoBulk d + 1
  | .slice elems spare => uptoBulkAll elems + uptoBulkAll spare + 1
  | .agg parts => uptoBulkAll parts + 1
  | .iface _ d => uptoBulk d + 1
  | .map entries => uptoBulkEntries entries + 1
  | .held _ => 1
def uptoBulkAll {H : Type} : List (DataW H) → Nat
  | [] => 0
  | d :: r => uptoBulk d + uptoBulkAll r
def uptoBulkEntries {H : Type} : List (Lit × DataW H) → Nat
  | [] => 0
  | x :: r => uptoBulkEntry x + uptoBulkEntries r
def uptoBulkEntry {H : Type} : Lit × DataW H → Nat
  | (.string bytes, d) => bytes.length + uptoBulk d + 1
  | (_, d) => uptoBulk d + 1
 end
def uptoSmall : (H : Type) → List (DataW H) → Bool := fun _ ds => decide (uptoBulkAll ds ≤ 1048576)
def OpenSpec.upto (s : _root_.Go.ChangeSpec) : _root_.Go.OpenSpec := { _root_.Go.OpenSpec.ofChange s with cond := some uptoSmall }

/-- 'laws.FnExactIsProperScramble', WHERE WHAT IT READS IS OF BULK AT MOST 1048576: true; the input reads as it did. -/
def fnExactIsProperScrambleUptoRow : OpenClaim := { program := "ytbhaeaehgmpfhaa", sum := "845500f7f0b296e16456584a62d0b0aa2adf6e30e80cb204b8bef0a2f7946eb1", func := "loop.example/g00855/laws.FnExactIsProperScramble", spec := "fnExactIsProperScramble", unfollowed := true, recurses := true, apart := false, narrowed := true }
def FnExactIsProperScrambleUptoSaid : Prop := fnExactIsProperScrambleUptoRow.holds Try.pinned (OpenSpec.upto fnExactIsProperScrambleSpec)

/-- 'laws.FnExactScrambleWord', WHERE WHAT IT READS IS OF BULK AT MOST 1048576: true; the input reads as it did. -/
def fnExactScrambleWordUptoRow : OpenClaim := { program := "ytbhaeaehgmpfhaa", sum := "845500f7f0b296e16456584a62d0b0aa2adf6e30e80cb204b8bef0a2f7946eb1", func := "loop.example/g00855/laws.FnExactScrambleWord", spec := "fnExactScrambleWord", unfollowed := true, recurses := true, apart := false, narrowed := true }
def FnExactScrambleWordUptoSaid : Prop := fnExactScrambleWordUptoRow.holds Try.pinned (OpenSpec.upto fnExactScrambleWordSpec)

/-- 'laws.FnPieceRoundTrip', WHERE WHAT IT READS IS OF BULK AT MOST 1048576: true; the input reads as it did. -/
def fnPieceRoundTripUptoRow : OpenClaim := { program := "ytbhaeaehgmpfhaa", sum := "845500f7f0b296e16456584a62d0b0aa2adf6e30e80cb204b8bef0a2f7946eb1", func := "loop.example/g00855/laws.FnPieceRoundTrip", spec := "fnPieceRoundTrip", unfollowed := true, recurses := true, apart := false, narrowed := true }
def FnPieceRoundTripUptoSaid : Prop := fnPieceRoundTripUptoRow.holds Try.pinned (OpenSpec.upto fnPieceRoundTripSpec)

/-- 'laws.FnPieceHomomorphism', WHERE WHAT IT READS IS OF BULK AT MOST 1048576: true; the input reads as it did. -/
def fnPieceHomomorphismUptoRow : OpenClaim := { program := "ytbhaeaehgmpfhaa", sum := "845500f7f0b296e16456584a62d0b0aa2adf6e30e80cb204b8bef0a2f7946eb1", func := "loop.example/g00855/laws.FnPieceHomomorphism", spec := "fnPieceHomomorphism", unfollowed := true, recurses := true, apart := false, narrowed := true }
def FnPieceHomomorphismUptoSaid : Prop := fnPieceHomomorphismUptoRow.holds Try.pinned (OpenSpec.upto fnPieceHomomorphismSpec)

/-- 'laws.FnExactScrambledState', WHERE WHAT IT READS IS OF BULK AT MOST 1048576: true; the input reads as it did. -/
def fnExactScrambledStateUptoRow : OpenClaim := { program := "ytbhaeaehgmpfhaa", sum := "845500f7f0b296e16456584a62d0b0aa2adf6e30e80cb204b8bef0a2f7946eb1", func := "loop.example/g00855/laws.FnExactScrambledState", spec := "fnExactScrambledState", unfollowed := true, recurses := true, apart := false, narrowed := true }
def FnExactScrambledStateUptoSaid : Prop := fnExactScrambledStateUptoRow.holds Try.pinned (OpenSpec.upto fnExactScrambledStateSpec)

/-- 'laws.FnExactDistinctScrambles', WHERE WHAT IT READS IS OF BULK AT MOST 1048576: true; the input reads as it did. -/
def fnExactDistinctScramblesUptoRow : OpenClaim := { program := "ytbhaeaehgmpfhaa", sum := "845500f7f0b296e16456584a62d0b0aa2adf6e30e80cb204b8bef0a2f7946eb1", func := "loop.example/g00855/laws.FnExactDistinctScrambles", spec := "fnExactDistinctScrambles", unfollowed := true, recurses := true, apart := false, narrowed := true }
def FnExactDistinctScramblesUptoSaid : Prop := fnExactDistinctScramblesUptoRow.holds Try.pinned (OpenSpec.upto fnExactDistinctScramblesSpec)

/-- 'laws.FnExactConsistentStateCount', WHERE WHAT IT READS IS OF BULK AT MOST 1048576: true; the input reads as it did. -/
def fnExactConsistentStateCountUptoRow : OpenClaim := { program := "ytbhaeaehgmpfhaa", sum := "845500f7f0b296e16456584a62d0b0aa2adf6e30e80cb204b8bef0a2f7946eb1", func := "loop.example/g00855/laws.FnExactConsistentStateCount", spec := "fnExactConsistentStateCount", unfollowed := true, recurses := true, apart := false, narrowed := true }
def FnExactConsistentStateCountUptoSaid : Prop := fnExactConsistentStateCountUptoRow.holds Try.pinned (OpenSpec.upto fnExactConsistentStateCountSpec)

/-- 'laws.FnExactWordSupport', WHERE WHAT IT READS IS OF BULK AT MOST 1048576: true; the input reads as it did. -/
def fnExactWordSupportUptoRow : OpenClaim := { program := "ytbhaeaehgmpfhaa", sum := "845500f7f0b296e16456584a62d0b0aa2adf6e30e80cb204b8bef0a2f7946eb1", func := "loop.example/g00855/laws.FnExactWordSupport", spec := "fnExactWordSupport", unfollowed := true, recurses := true, apart := false, narrowed := true }
def FnExactWordSupportUptoSaid : Prop := fnExactWordSupportUptoRow.holds Try.pinned (OpenSpec.upto fnExactWordSupportSpec)

/-- 'laws.FnExactIsMacro', WHERE WHAT IT READS IS OF BULK AT MOST 1048576: true; the input reads as it did. -/
def fnExactIsMacroUptoRow : OpenClaim := { program := "ytbhaeaehgmpfhaa", sum := "845500f7f0b296e16456584a62d0b0aa2adf6e30e80cb204b8bef0a2f7946eb1", func := "loop.example/g00855/laws.FnExactIsMacro", spec := "fnExactIsMacro", unfollowed := true, recurses := true, apart := false, narrowed := true }
def FnExactIsMacroUptoSaid : Prop := fnExactIsMacroUptoRow.holds Try.pinned (OpenSpec.upto fnExactIsMacroSpec)

/-- 'laws.FnExactSmallestPower', WHERE WHAT IT READS IS OF BULK AT MOST 1048576: true; the input reads as it did. -/
def fnExactSmallestPowerUptoRow : OpenClaim := { program := "ytbhaeaehgmpfhaa", sum := "845500f7f0b296e16456584a62d0b0aa2adf6e30e80cb204b8bef0a2f7946eb1", func := "loop.example/g00855/laws.FnExactSmallestPower", spec := "fnExactSmallestPower", unfollowed := true, recurses := true, apart := false, narrowed := true }
def FnExactSmallestPowerUptoSaid : Prop := fnExactSmallestPowerUptoRow.holds Try.pinned (OpenSpec.upto fnExactSmallestPowerSpec)

/-- 'laws.FnExactCommutatorMacros', WHERE WHAT IT READS IS OF BULK AT MOST 1048576: true; the input reads as it did. -/
def fnExactCommutatorMacrosUptoRow : OpenClaim := { program := "ytbhaeaehgmpfhaa", sum := "845500f7f0b296e16456584a62d0b0aa2adf6e30e80cb204b8bef0a2f7946eb1", func := "loop.example/g00855/laws.FnExactCommutatorMacros", spec := "fnExactCommutatorMacros", unfollowed := true, recurses := true, apart := false, narrowed := true }
def FnExactCommutatorMacrosUptoSaid : Prop := fnExactCommutatorMacrosUptoRow.holds Try.pinned (OpenSpec.upto fnExactCommutatorMacrosSpec)

/-- 'laws.FnExactConjugateMacro', WHERE WHAT IT READS IS OF BULK AT MOST 1048576: true; the input reads as it did. -/
def fnExactConjugateMacroUptoRow : OpenClaim := { program := "ytbhaeaehgmpfhaa", sum := "845500f7f0b296e16456584a62d0b0aa2adf6e30e80cb204b8bef0a2f7946eb1", func := "loop.example/g00855/laws.FnExactConjugateMacro", spec := "fnExactConjugateMacro", unfollowed := true, recurses := true, apart := false, narrowed := true }
def FnExactConjugateMacroUptoSaid : Prop := fnExactConjugateMacroUptoRow.holds Try.pinned (OpenSpec.upto fnExactConjugateMacroSpec)

end Rows
end Go.Proofs.Ytbhaeaehgmpfhaa

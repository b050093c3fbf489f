/-
  No cell of these rows narrows 'for every input' (looked for: loops, veiled, ifaces, maps, wideKeys, modest, calm, conditions, laid).
  DERIVED. THE GIVEN ROWS OF THIS SEAT. 4 by the template 'for every input the law returns true; each argument reads behind the call as it read before'; 0 by the template 'total and deterministic' (their statements: YtnoaihgfdmffoaaTotals.lean).
  GIVEN WITH THE SEED: the statements are not yours to turn. If you find one false, say at which input.
  Laid BY PROGRAM, IN A SANDBOX (cutbox-rows.mjs): the forced cells as the released guide's own fill.sh prints them over the translation fa6a43ce1c96aab0… (all of the seat's roots in one cut). By AI agents, Wed Nov 11 2026. No macro, syntax, notation, axiom, sorry.
-/
import Derived.Test.YtnoaihgfdmffoaaChecked
import GoSem.Claim
import GoSem.ClaimJoined
import GoSem.ClaimMapViews
import Derived.JoinedTies
import Derived.KernelRfl
namespace Go.Proofs.Ytnoaihgfdmffoaa
/- THE CELL 'sum', in the pinned program and in every row, IS THE sha256 OF THE DUMP (.gsa) THAT YtnoaihgfdmffoaaProg.lean LOADS. Nothing in Lean hashes anything: it is a label: what it is worth is what the hold of that sum in a sandbox is worth. -/
noncomputable def Try.pinned : Pinned := { name := "ytnoaihgfdmffoaa", sum := "fa6a43ce1c96aab0fb9e7096b07b91dccb8138b789e13b722bf07bc3d5b372a4", checked := Try.checked }
namespace Rows
def none {H : Type} : Left H := { results := [], args := [] }

/-- 'laws.FnInvariantsHold': WHATEVER THE INPUT: true; the input reads as it did. -/
def fnInvariantsHoldSpec : ChangeSpec := { name := "fnInvariantsHold", fn := fun _ => fun
  | [d] => { results := [.lit (.bool true)], args := [d] }
  | _ => none }
def fnInvariantsHoldRow : OpenClaim := { program := "ytnoaihgfdmffoaa", sum := "fa6a43ce1c96aab0fb9e7096b07b91dccb8138b789e13b722bf07bc3d5b372a4", func := "loop.example/g00855/laws.FnInvariantsHold", spec := "fnInvariantsHold", unfollowed := true, recurses := true, apart := false }
def FnInvariantsHoldSaid : Prop := fnInvariantsHoldRow.holds Try.pinned (OpenSpec.ofChange fnInvariantsHoldSpec)

/-- ITS FALSE NEIGHBOUR: 'it returns false'. Refute it at one input. -/
def fnInvariantsHoldWrong : ChangeSpec := { name := "fnInvariantsHold", fn := fun _ => fun
  | [d] => { results := [.lit (.bool false)], args := [d] }
  | _ => none }
def FnInvariantsHoldWrongFalsely : Prop := fnInvariantsHoldRow.holds Try.pinned (OpenSpec.ofChange fnInvariantsHoldWrong)

/-- 'laws.FnCompiledMoves': WHATEVER THE INPUT: true; the input reads as it did. -/
def fnCompiledMovesSpec : ChangeSpec := { name := "fnCompiledMoves", fn := fun _ => fun
  | [d] => { results := [.lit (.bool true)], args := [d] }
  | _ => none }
def fnCompiledMovesRow : OpenClaim := { program := "ytnoaihgfdmffoaa", sum := "fa6a43ce1c96aab0fb9e7096b07b91dccb8138b789e13b722bf07bc3d5b372a4", func := "loop.example/g00855/laws.FnCompiledMoves", spec := "fnCompiledMoves", unfollowed := true, recurses := true, apart := false }
def FnCompiledMovesSaid : Prop := fnCompiledMovesRow.holds Try.pinned (OpenSpec.ofChange fnCompiledMovesSpec)

/-- ITS FALSE NEIGHBOUR: 'it returns false'. Refute it at one input. -/
def fnCompiledMovesWrong : ChangeSpec := { name := "fnCompiledMoves", fn := fun _ => fun
  | [d] => { results := [.lit (.bool false)], args := [d] }
  | _ => none }
def FnCompiledMovesWrongFalsely : Prop := fnCompiledMovesRow.holds Try.pinned (OpenSpec.ofChange fnCompiledMovesWrong)

/-- 'laws.FnExactCompilePieces': WHATEVER THE INPUT: true; the input reads as it did. -/
def fnExactCompilePiecesSpec : ChangeSpec := { name := "fnExactCompilePieces", fn := fun _ => fun
  | [d] => { results := [.lit (.bool true)], args := [d] }
  | _ => none }
def fnExactCompilePiecesRow : OpenClaim := { program := "ytnoaihgfdmffoaa", sum := "fa6a43ce1c96aab0fb9e7096b07b91dccb8138b789e13b722bf07bc3d5b372a4", func := "loop.example/g00855/laws.FnExactCompilePieces", spec := "fnExactCompilePieces", unfollowed := true, recurses := true, apart := false }
def FnExactCompilePiecesSaid : Prop := fnExactCompilePiecesRow.holds Try.pinned (OpenSpec.ofChange fnExactCompilePiecesSpec)

/-- ITS FALSE NEIGHBOUR: 'it returns false'. Refute it at one input. -/
def fnExactCompilePiecesWrong : ChangeSpec := { name := "fnExactCompilePieces", fn := fun _ => fun
  | [d] => { results := [.lit (.bool false)], args := [d] }
  | _ => none }
def FnExactCompilePiecesWrongFalsely : Prop := fnExactCompilePiecesRow.holds Try.pinned (OpenSpec.ofChange fnExactCompilePiecesWrong)

/-- 'laws.FnSmallestPowers': WHATEVER THE INPUT: true; the input reads as it did. -/
def fnSmallestPowersSpec : ChangeSpec := { name := "fnSmallestPowers", fn := fun _ => fun
  | [d] => { results := [.lit (.bool true)], args := [d] }
  | _ => none }
def fnSmallestPowersRow : OpenClaim := { program := "ytnoaihgfdmffoaa", sum := "fa6a43ce1c96aab0fb9e7096b07b91dccb8138b789e13b722bf07bc3d5b372a4", func := "loop.example/g00855/laws.FnSmallestPowers", spec := "fnSmallestPowers", unfollowed := true, recurses := true, apart := false }
def FnSmallestPowersSaid : Prop := fnSmallestPowersRow.holds Try.pinned (OpenSpec.ofChange fnSmallestPowersSpec)

/-- ITS FALSE NEIGHBOUR: 'it returns false'. Refute it at one input. -/
def fnSmallestPowersWrong : ChangeSpec := { name := "fnSmallestPowers", fn := fun _ => fun
  | [d] => { results := [.lit (.bool false)], args := [d] }
  | _ => none }
def FnSmallestPowersWrongFalsely : Prop := fnSmallestPowersRow.holds Try.pinned (OpenSpec.ofChange fnSmallestPowersWrong)

/- THE SECOND FORM. 'bulk': how many values and letters a reading holds, each counted each time it is reached (what is shared counts as often as it is met; a slice's spare places count too). A statement '..UptoSaid' is the law's where the arguments, and the package variables that the reading takes, are together of bulk at most 1048576: NARROWER than '..Said'. Prove '..Said' where nothing that the law and all that it calls make is longer than what came in: it says more and counts as full. Else prove '..UptoSaid'. A law counts once. -/
mutual
def uptoBulk {H : Type} : DataW H → Nat
  | .lit (.string bytes) => bytes.length + 1
  | .lit _ => 1
  | .nil => 1
  | .ptr d => uptoBulk d + 1
  | .slice elems spare => uptoBulkAll elems + uptoBulkAll spare + 1
  | .agg parts => uptoBulkAll parts + 1
  | .iface _ d => uptoBulk d + 1
  | .map entries => uptoBulkEntries entries + 1
  | .held _ => 1
def uptoBulkAll {H : Type} : List (DataW H) → Nat
  | [] => 0
  | d :: r => uptoBulk d + uptoBulkAll r
def uptoBulkEntries {H : Type} : List (Lit × DataW H) → Nat
  | [] => 0
  | x :: r => uptoBulkEntry x + uptoBulkEntries r
def uptoBulkEntry {H : Type} : Lit × DataW H → Nat
  | (.string bytes, d) => bytes.length + uptoBulk d + 1
  | (_, d) => uptoBulk d + 1
 end
def uptoSmall : (H : Type) → List (DataW H) → Bool := fun _ ds => decide (uptoBulkAll ds ≤ 1048576)
def OpenSpec.upto (s : _root_.Go.ChangeSpec) : _root_.Go.OpenSpec := { _root_.Go.OpenSpec.ofChange s with cond := some uptoSmall }

/-- 'laws.FnInvariantsHold', WHERE WHAT IT READS IS OF BULK AT MOST 1048576: true; the input reads as it did. -/
def fnInvariantsHoldUptoRow : OpenClaim := { program := "ytnoaihgfdmffoaa", sum := "fa6a43ce1c96aab0fb9e7096b07b91dccb8138b789e13b722bf07bc3d5b372a4", func := "loop.example/g00855/laws.FnInvariantsHold", spec := "fnInvariantsHold", unfollowed := true, recurses := true, apart := false, narrowed := true }
def FnInvariantsHoldUptoSaid : Prop := fnInvariantsHoldUptoRow.holds Try.pinned (OpenSpec.upto fnInvariantsHoldSpec)

/-- 'laws.FnCompiledMoves', WHERE WHAT IT READS IS OF BULK AT MOST 1048576: true; the input reads as it did. -/
def fnCompiledMovesUptoRow : OpenClaim := { program := "ytnoaihgfdmffoaa", sum := "fa6a43ce1c96aab0fb9e7096b07b91dccb8138b789e13b722bf07bc3d5b372a4", func := "loop.example/g00855/laws.FnCompiledMoves", spec := "fnCompiledMoves", unfollowed := true, recurses := true, apart := false, narrowed := true }
def FnCompiledMovesUptoSaid : Prop := fnCompiledMovesUptoRow.holds Try.pinned (OpenSpec.upto fnCompiledMovesSpec)

/-- 'laws.FnExactCompilePieces', WHERE WHAT IT READS IS OF BULK AT MOST 1048576: true; the input reads as it did. -/
def fnExactCompilePiecesUptoRow : OpenClaim := { program := "ytnoaihgfdmffoaa", sum := "fa6a43ce1c96aab0fb9e7096b07b91dccb8138b789e13b722bf07bc3d5b372a4", func := "loop.example/g00855/laws.FnExactCompilePieces", spec := "fnExactCompilePieces", unfollowed := true, recurses := true, apart := false, narrowed := true }
def FnExactCompilePiecesUptoSaid : Prop := fnExactCompilePiecesUptoRow.holds Try.pinned (OpenSpec.upto fnExactCompilePiecesSpec)

/-- 'laws.FnSmallestPowers', WHERE WHAT IT READS IS OF BULK AT MOST 1048576: true; the input reads as it did. -/
def fnSmallestPowersUptoRow : OpenClaim := { program := "ytnoaihgfdmffoaa", sum := "fa6a43ce1c96aab0fb9e7096b07b91dccb8138b789e13b722bf07bc3d5b372a4", func := "loop.example/g00855/laws.FnSmallestPowers", spec := "fnSmallestPowers", unfollowed := true, recurses := true, apart := false, narrowed := true }
def FnSmallestPowersUptoSaid : Prop := fnSmallestPowersUptoRow.holds Try.pinned (OpenSpec.upto fnSmallestPowersSpec)

end Rows
end Go.Proofs.Ytnoaihgfdmffoaa

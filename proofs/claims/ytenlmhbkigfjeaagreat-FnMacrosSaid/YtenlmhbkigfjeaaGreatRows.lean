/-
  No cell of these rows narrows 'for every input' (looked for: loops, veiled, ifaces, maps, wideKeys, modest, calm, conditions, laid).
  DERIVED. THE GIVEN ROWS OF THIS SEAT. 2 by the template 'for every input the law returns true; each argument reads behind the call as it read before'; 0 by the template 'total and deterministic' (their statements: YtenlmhbkigfjeaaGreatTotals.lean).
  GIVEN WITH THE SEED: the statements are not yours to turn. If you find one false, say at which input.
  Laid BY PROGRAM, IN A SANDBOX (cutbox-rows.mjs): the forced cells as the released guide's own fill.sh prints them over the translation 6b821696a2be5a27… (all of the seat's roots in one cut). By AI agents, Wed Nov 11 2026. No macro, syntax, notation, axiom, sorry.
-/
import Derived.Test.YtenlmhbkigfjeaaGreatChecked
import GoSem.Claim
import GoSem.ClaimJoined
import GoSem.ClaimMapViews
import Derived.JoinedTies
import Derived.KernelRfl
namespace Go.Proofs.YtenlmhbkigfjeaaGreat
/- THE CELL 'sum', in the pinned program and in every row, IS THE sha256 OF THE DUMP (.gsa) THAT YtenlmhbkigfjeaaGreatProg.lean LOADS. Nothing in Lean hashes anything: it is a label: what it is worth is what the hold of that sum in a sandbox is worth. -/
noncomputable def Tryz.pinned : Pinned := { name := "ytenlmhbkigfjeaagreat", sum := "6b821696a2be5a2721fc831c551cdf0eee1356378cd376439ef27e701c8b7a40", checked := Tryz.checked }
namespace Rows
def none {H : Type} : Left H := { results := [], args := [] }

/-- 'laws.FnExactWordWithSupportIn': WHATEVER THE INPUT: true; the input reads as it did. -/
def fnExactWordWithSupportInSpec : ChangeSpec := { name := "fnExactWordWithSupportIn", fn := fun _ => fun
  | [d1, d2] => { results := [.lit (.bool true)], args := [d1, d2] }
  | _ => none }
def fnExactWordWithSupportInRow : OpenClaim := { program := "ytenlmhbkigfjeaagreat", sum := "6b821696a2be5a2721fc831c551cdf0eee1356378cd376439ef27e701c8b7a40", func := "loop.example/g00855/laws.FnExactWordWithSupportIn", spec := "fnExactWordWithSupportIn", unfollowed := true, recurses := true, apart := false }
def FnExactWordWithSupportInSaid : Prop := fnExactWordWithSupportInRow.holds Tryz.pinned (OpenSpec.ofChange fnExactWordWithSupportInSpec)

/-- ITS FALSE NEIGHBOUR: 'it returns false'. Refute it at one input. -/
def fnExactWordWithSupportInWrong : ChangeSpec := { name := "fnExactWordWithSupportIn", fn := fun _ => fun
  | [d1, d2] => { results := [.lit (.bool false)], args := [d1, d2] }
  | _ => none }
def FnExactWordWithSupportInWrongFalsely : Prop := fnExactWordWithSupportInRow.holds Tryz.pinned (OpenSpec.ofChange fnExactWordWithSupportInWrong)

/-- 'laws.FnMacros': WHATEVER THE INPUT: true; the input reads as it did. -/
def fnMacrosSpec : ChangeSpec := { name := "fnMacros", fn := fun _ => fun
  | [d] => { results := [.lit (.bool true)], args := [d] }
  | _ => none }
def fnMacrosRow : OpenClaim := { program := "ytenlmhbkigfjeaagreat", sum := "6b821696a2be5a2721fc831c551cdf0eee1356378cd376439ef27e701c8b7a40", func := "loop.example/g00855/laws.FnMacros", spec := "fnMacros", unfollowed := true, recurses := true, apart := false }
def FnMacrosSaid : Prop := fnMacrosRow.holds Tryz.pinned (OpenSpec.ofChange fnMacrosSpec)

/-- ITS FALSE NEIGHBOUR: 'it returns false'. Refute it at one input. -/
def fnMacrosWrong : ChangeSpec := { name := "fnMacros", fn := fun _ => fun
  | [d] => { results := [.lit (.bool false)], args := [d] }
  | _ => none }
def FnMacrosWrongFalsely : Prop := fnMacrosRow.holds Tryz.pinned (OpenSpec.ofChange fnMacrosWrong)

/- THE SECOND FORM. 'bulk': how many values and letters a reading holds, each counted each time it is reached (what is shared counts as often as it is met; a slice's spare places count too). A statement '..UptoSaid' is the law's where the arguments, and the package variables that the reading takes, are together of bulk at most 1048576: NARROWER than '..Said'. Prove '..Said' where nothing that the law and all that it calls make is longer than what came in: it says more and counts as full. Else prove '..UptoSaid'. A law counts once. -/
mutual
def uptoBulk {H : Type} : DataW H → Nat
  | .lit (.string bytes) => bytes.length + 1
  | .lit _ => 1
  | .nil => 1
  | .ptr d => uptoBulk d + 1
  | .slice elems spare => uptoBulkAll elems + uptoBulkAll spare + 1
  | .agg parts => uptoBulkAll parts + 1
  | .iface _ d => uptoBulk d + 1
  | .map entries => uptoBulkEntries entries + 1
  | .held _ => 1
def uptoBulkAll {H : Type} : List (DataW H) → Nat
  | [] => 0
  | d :: r => uptoBulk d + uptoBulkAll r
def uptoBulkEntries {H : Type} : List (Lit × DataW H) → Nat
  | [] => 0
  | x :: r => uptoBulkEntry x + uptoBulkEntries r
def uptoBulkEntry {H : Type} : Lit × DataW H → Nat
  | (.string bytes, d) => bytes.length + uptoBulk d + 1
  | (_, d) => uptoBulk d + 1
 end
def uptoSmall : (H : Type) → List (DataW H) → Bool := fun _ ds => decide (uptoBulkAll ds ≤ 1048576)
def OpenSpec.upto (s : _root_.Go.ChangeSpec) : _root_.Go.OpenSpec := { _root_.Go.OpenSpec.ofChange s with cond := some uptoSmall }

/-- 'laws.FnExactWordWithSupportIn', WHERE WHAT IT READS IS OF BULK AT MOST 1048576: true; the input reads as it did. -/
def fnExactWordWithSupportInUptoRow : OpenClaim := { program := "ytenlmhbkigfjeaagreat", sum := "6b821696a2be5a2721fc831c551cdf0eee1356378cd376439ef27e701c8b7a40", func := "loop.example/g00855/laws.FnExactWordWithSupportIn", spec := "fnExactWordWithSupportIn", unfollowed := true, recurses := true, apart := false, narrowed := true }
def FnExactWordWithSupportInUptoSaid : Prop := fnExactWordWithSupportInUptoRow.holds Tryz.pinned (OpenSpec.upto fnExactWordWithSupportInSpec)

/-- 'laws.FnMacros', WHERE WHAT IT READS IS OF BULK AT MOST 1048576: true; the input reads as it did. -/
def fnMacrosUptoRow : OpenClaim := { program := "ytenlmhbkigfjeaagreat", sum := "6b821696a2be5a2721fc831c551cdf0eee1356378cd376439ef27e701c8b7a40", func := "loop.example/g00855/laws.FnMacros", spec := "fnMacros", unfollowed := true, recurses := true, apart := false, narrowed := true }
def FnMacrosUptoSaid : Prop := fnMacrosUptoRow.holds Tryz.pinned (OpenSpec.upto fnMacrosSpec)

end Rows
end Go.Proofs.YtenlmhbkigfjeaaGreat

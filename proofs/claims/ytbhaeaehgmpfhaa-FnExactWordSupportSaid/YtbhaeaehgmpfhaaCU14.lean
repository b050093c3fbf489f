/-
  CONTRACTS of functions of the program, and what they compute, by content.
-/
import Derived.Test.YtbhaeaehgmpfhaaCU13
import Derived.Test.YtbhaeaehgmpfhaaCP4
set_option linter.unusedVariables false
set_option linter.unusedSimpArgs false
set_option maxRecDepth 8000
namespace Go.AM
open Go.Proofs
def itL (p : List Int) (x k : Nat) : List Int := (List.range k).map fun i => ((itN (fOf p) i x : Nat) : Int)
def cycK (p : List Int) (k : Nat) : List (List Int) := ((List.range k).filter (minI p)).map (orbI p)
def longC (L : List (List Int)) : List (List Int) := L.filter fun l => decide (1 < l.length)
end Go.AM

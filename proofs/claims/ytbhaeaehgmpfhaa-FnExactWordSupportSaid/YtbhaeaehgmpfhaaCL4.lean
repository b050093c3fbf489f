/-
  CONTRACTS of functions of the program, and what they compute, by content.
-/
import Derived.Test.YtbhaeaehgmpfhaaCU15
set_option linter.unusedVariables false
set_option linter.unusedSimpArgs false
set_option maxRecDepth 8000
namespace Go.AM
open Go.Proofs
def invV (ks : List Kind) (s : List Twist) (i : Invar) : Int := if i.k = 1 then twR ks s i.s else if i.k = 2 then parR ks s i.s else -1
end Go.AM

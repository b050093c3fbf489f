/-
  CONTRACTS of functions of the program, and what they compute, by content.
-/
import Derived.Test.YtbhaeaehgmpfhaaCU4
set_option linter.unusedVariables false
set_option linter.unusedSimpArgs false
set_option maxRecDepth 8000
namespace Go.AM
open Go.Proofs
def fcI (l : List Kind) : Int := if ∀ k ∈ l, kOk k then facets l else 21
def stR (l : List Kind) : Int := if kindsOk l then stC l else 0
end Go.AM

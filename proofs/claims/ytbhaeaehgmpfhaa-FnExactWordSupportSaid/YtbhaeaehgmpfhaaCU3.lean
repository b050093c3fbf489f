/-
  CONTRACTS of functions of the program, and what they compute, by content.
-/
import Derived.Test.YtbhaeaehgmpfhaaCU1
import Derived.Test.YtbhaeaehgmpfhaaCP2
set_option linter.unusedVariables false
set_option linter.unusedSimpArgs false
set_option maxRecDepth 8000
namespace Go.AM
open Go.Proofs
def nilTw : AV := .agg [.nilsl, .nilsl]
end Go.AM

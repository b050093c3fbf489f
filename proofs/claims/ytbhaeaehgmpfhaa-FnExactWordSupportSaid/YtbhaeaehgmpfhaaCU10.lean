/-
  CONTRACTS of functions of the program, and what they compute, by content.
-/
import Derived.Test.YtbhaeaehgmpfhaaCU9
set_option linter.unusedVariables false
set_option linter.unusedSimpArgs false
set_option maxRecDepth 8000
namespace Go.AM
open Go.Proofs
def invR (ks : List Kind) (a : List Twist) : AV := if psOk ks a then .tup [ttr (invS ks a), .bl true] else .tup [.tr 2 [], .bl false]
end Go.AM

/-
  CONTRACTS of functions of the program, and what they compute, by content.
-/
import Derived.Test.YtbhaeaehgmpfhaaCU6
import Derived.Test.YtbhaeaehgmpfhaaCP3
import Derived.Test.YtbhaeaehgmpfhaaCE0
set_option linter.unusedVariables false
set_option linter.unusedSimpArgs false
set_option maxRecDepth 8000
namespace Go.AM
open Go.Proofs
end Go.AM

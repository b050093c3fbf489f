/-
  CONTRACTS of functions of the program, and what they compute, by content.
-/
import Derived.Test.YtbhaeaehgmpfhaaCP6
set_option linter.unusedVariables false
set_option linter.unusedSimpArgs false
namespace Go.AM
/-! the permutation of a piece state is one -/
end Go.AM

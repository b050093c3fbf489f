/-
  CONTRACTS of functions of the program, and what they compute, by content.
-/
import Derived.Test.YtbhaeaehgmpfhaaCW7
import Derived.Test.YtbhaeaehgmpfhaaCU12
import Derived.Test.YtbhaeaehgmpfhaaCP7
set_option linter.unusedVariables false
set_option linter.unusedSimpArgs false
set_option maxRecDepth 8000
namespace Go.AM
namespace Draws
open Go.Proofs
theorem few_small {ks : List Kind} {tw : List Twist} (h : anyOk ks tw) : ks.length ≤ 1099511627776 ∧ smallT tw := ⟨by have := h.1; omega, (fewT_small h.2)⟩
end Draws
end Go.AM

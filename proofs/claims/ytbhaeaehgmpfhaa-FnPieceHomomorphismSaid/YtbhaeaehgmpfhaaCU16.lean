/-
  CONTRACTS of functions of the program, and what they compute, by content.
-/
import Derived.Test.YtbhaeaehgmpfhaaCL4
set_option linter.unusedVariables false
set_option linter.unusedSimpArgs false
set_option maxRecDepth 8000
namespace Go.AM
open Go.Proofs
instance : Thing UInt8 := ⟨⟩
end Go.AM

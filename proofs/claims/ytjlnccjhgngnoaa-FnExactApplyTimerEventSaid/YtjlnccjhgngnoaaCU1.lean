/-
  CONTRACTS of functions of the program, and what they compute, by content.
-/
import Derived.Test.YtjlnccjhgngnoaaM2Facts
import Derived.Test.YtjlnccjhgngnoaaCU0
set_option linter.unusedVariables false
set_option linter.unusedSimpArgs false
set_option maxRecDepth 8000
namespace Go.AM
open Go.Proofs
def MM : FuncId → List Bool := fun f => if f = 27 then [true, false] else if f = 45 then [true, false] else if f = 46 then [true, false] else []
/-- a size that no machine passes -/
abbrev big : Int := 1099511627776
end Go.AM

/-
  CONTRACTS of functions of the program, and what they compute, by content.
-/
import Derived.Test.YtbhaeaehgmpfhaaCW1
import Derived.Test.YtbhaeaehgmpfhaaCE1
import Derived.Test.YtbhaeaehgmpfhaaCP2
set_option linter.unusedVariables false
set_option linter.unusedSimpArgs false
set_option maxRecDepth 8000
namespace Go.AM
namespace Draws
open Go.Proofs
def sdK (l : List UInt8) : Nat → Int
  | 0 => 590033 + l.length
  | k + 1 => bitsI .and .i64 (sdK l k * 337 + (l.getD k default).toNat + 11) 1073741823
end Draws
end Go.AM

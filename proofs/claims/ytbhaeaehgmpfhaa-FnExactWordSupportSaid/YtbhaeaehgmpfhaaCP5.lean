/-
  CONTRACTS of functions of the program, and what they compute, by content.
-/
import Derived.Test.YtbhaeaehgmpfhaaCP4
set_option linter.unusedVariables false
set_option linter.unusedSimpArgs false
namespace Go.AM
/-! sizes of moves -/
def sizeLL (l : List (List Twist)) : Nat := match l with | [] => 0 | a :: r => 1 + sizeL a + sizeLL r
end Go.AM

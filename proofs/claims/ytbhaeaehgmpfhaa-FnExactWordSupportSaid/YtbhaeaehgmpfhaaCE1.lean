/-
  CONTRACTS of functions of the program, and what they compute, by content.
-/
import Derived.Test.YtbhaeaehgmpfhaaCE0
set_option linter.unusedVariables false
set_option linter.unusedSimpArgs false
namespace Go.AM
/-- both cells of a variable are nil: looked at as empty trees -/
def St.nilC2 (st : St) (s z w : Nat) : St := (st.nilC s 0 z w [.nilsl, .nilsl]).nilC s 1 z w [.tr w [], .nilsl]
end Go.AM

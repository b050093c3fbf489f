/-
  CONTRACTS of functions of the program, and what they compute, by content.
-/
import Derived.Test.YtbhaeaehgmpfhaaCU7
set_option linter.unusedVariables false
set_option linter.unusedSimpArgs false
set_option maxRecDepth 8000
namespace Go.AM
open Go.Proofs
def compR (ks : List Kind) (a b : List Twist) : AV := if psOk ks a ∧ psOk ks b then .tup [ttr (compS ks a b), .bl true] else .tup [.tr 2 [], .bl false]
abbrev smallT (s : List Twist) : Prop := s.length ≤ 1099511627776 ∧ ∀ t ∈ s, t.to.length ≤ 1099511627776 ∧ t.by'.length ≤ 1099511627776
end Go.AM

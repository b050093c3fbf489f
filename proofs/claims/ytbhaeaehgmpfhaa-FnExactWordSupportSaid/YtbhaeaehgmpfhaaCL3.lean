/-
  CONTRACTS of functions of the program, and what they compute, by content.
-/
import Derived.Test.YtbhaeaehgmpfhaaCU10
set_option linter.unusedVariables false
set_option linter.unusedSimpArgs false
set_option maxRecDepth 8000
namespace Go.AM
open Go.Proofs
/-- a piece state that is no greater than what the program makes -/
def fewT (s : List Twist) : Prop := s.length ≤ 3 ∧ (∀ t ∈ s, t.to.length ≤ 20 ∧ t.by'.length ≤ 20) ∧ cnts s ≤ 120
abbrev wfT (s : List Twist) : Prop := s.length ≤ 9223372036854775807 ∧ ∀ t ∈ s, t.to.length ≤ 9223372036854775807 ∧ t.by'.length ≤ 9223372036854775807
end Go.AM

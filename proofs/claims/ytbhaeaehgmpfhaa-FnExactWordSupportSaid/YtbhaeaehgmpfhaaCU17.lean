/-
  CONTRACTS of functions of the program, and what they compute, by content.
-/
import Derived.Test.YtbhaeaehgmpfhaaCU16
import Derived.Test.YtbhaeaehgmpfhaaCP5
set_option linter.unusedVariables false
set_option linter.unusedSimpArgs false
set_option maxRecDepth 8000
namespace Go.AM
open Go.Proofs
instance : Thing (List Twist) := ⟨⟩
abbrev smallTS (l : List (List Twist)) : Prop := l.length ≤ 1099511627776 ∧ ∀ s ∈ l, smallT s
abbrev wfTS (l : List (List Twist)) : Prop := l.length ≤ 9223372036854775807 ∧ ∀ s ∈ l, wfT s
def Model.size (m : Model) : Nat := m.ks.length + m.nm.length + sizeLL m.mv
abbrev wfM (m : Model) : Prop := m.ks.length ≤ 9223372036854775807 ∧ m.nm.length ≤ 9223372036854775807 ∧ wfTS m.mv
abbrev smallM (m : Model) : Prop := m.ks.length ≤ 1099511627776 ∧ m.nm.length ≤ 1099511627776 ∧ smallTS m.mv
end Go.AM

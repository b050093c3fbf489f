/-
  CONTRACTS of functions of the program, and what they compute, by content.
-/
import Derived.Test.YtbhaeaehgmpfhaaCU10
set_option linter.unusedVariables false
set_option linter.unusedSimpArgs false
set_option maxRecDepth 8000
namespace Go.AM
open Go.Proofs
/-- a piece state that is no greater than what the program makes -/
def fewT (s : List Twist) : Prop := s.length ≤ 3 ∧ (∀ t ∈ s, t.to.length ≤ 20 ∧ t.by'.length ≤ 20) ∧ cnts s ≤ 120
theorem fewT_of (s : List Twist) (h1 : s.length ≤ 3) (h2 : ∀ t ∈ s, t.to.length ≤ 20 ∧ t.by'.length ≤ 20) : fewT s := by
  refine ⟨h1, h2, ?_⟩
  have := cnts_bound s 40 (fun t ht => by have := h2 t ht; show t.to.length + t.by'.length ≤ 40; omega)
  omega
theorem fewT_small {s : List Twist} (h : fewT s) : smallT s := ⟨by have := h.1; omega, fun t ht => by have := h.2.1 t ht; omega⟩
abbrev wfT (s : List Twist) : Prop := s.length ≤ 9223372036854775807 ∧ ∀ t ∈ s, t.to.length ≤ 9223372036854775807 ∧ t.by'.length ≤ 9223372036854775807
end Go.AM

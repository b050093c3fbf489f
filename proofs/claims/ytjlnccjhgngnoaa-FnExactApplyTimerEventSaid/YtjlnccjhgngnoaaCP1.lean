/-
  CONTRACTS of functions of the program, and what they compute, by content.
-/
import Derived.Test.YtjlnccjhgngnoaaCU0
set_option linter.unusedVariables false
set_option linter.unusedSimpArgs false
namespace Go.AM
/-! permutations, plainly -/
def isPerm (p : List Int) : Prop := (1 ≤ p.length ∧ p.length ≤ 20) ∧ (∀ x ∈ p, 0 ≤ x ∧ x < p.length) ∧ p.Nodup
instance (p : List Int) : Decidable (isPerm p) := by unfold isPerm; infer_instance
def maskN : List Nat → Nat
  | [] => 0
  | x :: r => (2 ^ x) ||| maskN r
def mask (p : List Int) : Nat := maskN (p.map Int.toNat)
end Go.AM

/-
  CONTRACTS of functions of the program, and what they compute, by content.
-/
import Derived.Test.YtbhaeaehgmpfhaaCL3
set_option linter.unusedVariables false
set_option linter.unusedSimpArgs false
set_option maxRecDepth 8000
namespace Go.AM
open Go.Proofs
theorem prod_bound {a b : Int} (h1 : 0 ≤ a) (h2 : a ≤ 20) (h3 : 0 ≤ b) (h4 : b ≤ 20) : 0 ≤ a * b ∧ a * b ≤ 400 := by
  have := Int.mul_le_mul h2 h4 h3 (by omega)
  have := Int.mul_nonneg h1 h3
  omega
theorem natmul_bound {a b : Nat} (h2 : a ≤ 20) (h4 : b ≤ 20) : a * b ≤ 400 := Nat.mul_le_mul h2 h4
theorem permL_le {ks : List Kind} {s : List Twist} (h : kindsOk ks) {n : Nat} (hn : n ≤ ks.length) : (permL ks s n).length ≤ 20 := by
  have := permL_len ks s h.2.1 n hn
  have := (facets_mono ks h.2.1 n).1
  have := h.2.2
  omega
end Go.AM

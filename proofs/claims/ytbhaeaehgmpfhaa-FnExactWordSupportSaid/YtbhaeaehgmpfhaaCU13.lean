/-
  CONTRACTS of functions of the program, and what they compute, by content.
-/
import Derived.Test.YtbhaeaehgmpfhaaCU12
set_option linter.unusedVariables false
set_option linter.unusedSimpArgs false
set_option maxRecDepth 8000
namespace Go.AM
open Go.Proofs
def sumI : List Int → Int
  | [] => 0
  | x :: r => x + sumI r
def twS (k : Kind) (t : Twist) : Int := (sumI t.by').tmod k.o
def twR (ks : List Kind) (s : List Twist) (n : Int) : Int := if psOk ks s ∧ 0 ≤ n ∧ n < ks.length then twS (ks.getD n.toNat default) (s.getD n.toNat default) else -1
end Go.AM

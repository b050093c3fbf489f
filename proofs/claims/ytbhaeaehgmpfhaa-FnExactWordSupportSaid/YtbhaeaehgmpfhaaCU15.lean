/-
  CONTRACTS of functions of the program, and what they compute, by content.
-/
import Derived.Test.YtbhaeaehgmpfhaaCU14
set_option linter.unusedVariables false
set_option linter.unusedSimpArgs false
set_option maxRecDepth 8000
namespace Go.AM
open Go.Proofs
/-- is kind k among a set of kinds? -/
def bitK (set : Int) (k : Nat) : Bool := bitsI .and .i64 (set.fdiv (2 ^ (min k 64))) 1 == 1
def oddS (s : List Twist) (set : Int) : Nat → Nat
  | 0 => 0
  | k + 1 => oddS s set k + if bitK set k = true ∧ sgnI (s.getD k default).to < 0 then 1 else 0
def parS (s : List Twist) (set : Int) : Int := ((oddS s set s.length % 2 : Nat) : Int)
def parR (ks : List Kind) (s : List Twist) (set : Int) : Int := if psOk ks s ∧ 1 ≤ set ∧ set ≤ ((2 ^ ks.length : Nat) : Int) - 1 then parS s set else -1
end Go.AM

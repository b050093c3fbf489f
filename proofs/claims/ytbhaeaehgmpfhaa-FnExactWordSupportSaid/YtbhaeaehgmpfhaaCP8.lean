/-
  CONTRACTS of functions of the program, and what they compute, by content.
-/
import Derived.Test.YtbhaeaehgmpfhaaCP6
set_option linter.unusedVariables false
set_option linter.unusedSimpArgs false
namespace Go.AM
/-! a permutation of the facelets as a piece state -/
def pAt (p : List Int) (b o i : Nat) : Int := p.getD (b + i * o) 0 - b
def ctL (p : List Int) (b o n : Nat) : List Int := (List.range n).map fun i => (pAt p b o i).tdiv o
def cbL (p : List Int) (b o n : Nat) : List Int := (List.range n).map fun i => (pAt p b o i).tmod o
def candT (ks : List Kind) (p : List Int) (k : Nat) : Twist :=
  ⟨ctL p (facets (ks.take k)).toNat (ks.getD k default).o.toNat (ks.getD k default).c.toNat, cbL p (facets (ks.take k)).toNat (ks.getD k default).o.toNat (ks.getD k default).c.toNat⟩
def candL (ks : List Kind) (p : List Int) (n : Nat) : List Twist := (List.range n).map (candT ks p)
def ptpOk (ks : List Kind) (p : List Int) : Prop := kindsOk ks ∧ (p.length : Int) = facets ks ∧ psOk ks (candL ks p ks.length) ∧ permOf ks (candL ks p ks.length) = p
instance (ks : List Kind) (p : List Int) : Decidable (ptpOk ks p) := by unfold ptpOk; infer_instance
def ptpR (ks : List Kind) (p : List Int) : List Twist := if ptpOk ks p then candL ks p ks.length else []
end Go.AM

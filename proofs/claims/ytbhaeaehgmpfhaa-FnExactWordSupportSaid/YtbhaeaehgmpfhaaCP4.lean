/-
  CONTRACTS of functions of the program, and what they compute, by content.
-/
import Derived.Test.YtbhaeaehgmpfhaaCP3
set_option linter.unusedVariables false
set_option linter.unusedSimpArgs false
namespace Go.AM
/-! cycles, plainly -/
def itN (f : Nat → Nat) : Nat → Nat → Nat
  | 0, x => x
  | k + 1, x => f (itN f k x)
structure PermF (n : Nat) (f : Nat → Nat) : Prop where
  lt : ∀ x, x < n → f x < n
  inj : ∀ x y, x < n → y < n → f x = f y → x = y
section
variable {n : Nat} {f : Nat → Nat}
def perN (n : Nat) (f : Nat → Nat) (x : Nat) : Nat := ((List.range n).find? fun k => itN f (k + 1) x == x).getD 0 + 1
def orbN (n : Nat) (f : Nat → Nat) (x : Nat) : List Nat := (List.range (perN n f x)).map fun i => itN f i x
def minN (n : Nat) (f : Nat → Nat) (x : Nat) : Bool := (orbN n f x).all fun y => decide (x ≤ y)
def cycN (n : Nat) (f : Nat → Nat) : List (List Nat) := ((List.range n).filter (minN n f)).map (orbN n f)
end
def fOf (p : List Int) : Nat → Nat := fun x => (p.getD x 0).toNat
def orbI (p : List Int) (x : Nat) : List Int := (orbN p.length (fOf p) x).map fun (y : Nat) => (y : Int)
def minI (p : List Int) (x : Nat) : Bool := minN p.length (fOf p) x
/-- the cycles of a permutation, fixed points included, by their smallest points -/
def cycI (p : List Int) : List (List Int) := ((List.range p.length).filter (minI p)).map (orbI p)
def sgnI (p : List Int) : Int := if (p.length - (cycI p).length) % 2 = 1 then -1 else 1
instance : Thing Bool := ⟨⟩
def seenB (p : List Int) (i y : Nat) : Bool := (List.range i).any fun z => decide (y ∈ orbN p.length (fOf p) z)
def seenJ (p : List Int) (i j : Nat) : List Bool := (List.range p.length).map fun y => seenB p i y || decide (y ∈ (orbN p.length (fOf p) i).take j)
section
variable {p : List Int} (hp : isPerm p)
include hp
end
end Go.AM

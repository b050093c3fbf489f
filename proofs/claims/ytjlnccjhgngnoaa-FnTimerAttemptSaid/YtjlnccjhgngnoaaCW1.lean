/-
  CONTRACTS of functions of the program, and what they compute, by content.
-/
import Derived.Test.YtjlnccjhgngnoaaCU1
set_option linter.unusedVariables false
set_option linter.unusedSimpArgs false
set_option maxRecDepth 8000
namespace Go.AM
namespace Draws
open Go.Proofs
def MM : FuncId → List Bool := fun f => []
structure Src where
  b : List UInt8
  k : Nat
  s : Int
abbrev bsl (l : List UInt8) : AV := .sl 1 (l.map fun x => .u8 x.toNat)
abbrev Src.pt (s : Src) : AV := .pt 3 (.agg [bsl s.b, .i64 s.k, .i64 s.s])
abbrev Src.ok (s : Src) : Prop := s.b.length ≤ 4096 ∧ s.k ≤ s.b.length ∧ intOk s.s
instance : Thing UInt8 := ⟨⟩
def nxS (s : Int) : Int := IntKind.i64.wrap (IntKind.i64.wrap (s * 6364136223846793005) + 1442695040888963407)
def nxX (s : Int) : Int := bitsI .and .i64 (bitsI .xor .i64 (s.fdiv (2 ^ (min 33 64))) (s.fdiv (2 ^ (min 45 64)))) 255
end Draws
end Go.AM

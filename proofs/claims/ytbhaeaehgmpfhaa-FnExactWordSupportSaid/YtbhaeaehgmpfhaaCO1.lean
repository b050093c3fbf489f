/-
  CONTRACTS of functions of the program, and what they compute, by content.
-/
import Derived.Test.YtbhaeaehgmpfhaaM2Facts
import Derived.Test.YtbhaeaehgmpfhaaCP3
import Derived.Test.YtbhaeaehgmpfhaaM2SC
set_option linter.unusedVariables false
set_option linter.unusedSimpArgs false
namespace Go.AM
open Go.Proofs
theorem openInt : Opens Try.prog 2 Int (fun n => [AV.i64 n]) intOk := opens_int Try.underlying2
theorem openInts : Opens Try.prog 25 (List Int) (fun l => [AV.sl 1 (l.map AV.i64)]) (fun l => l.length ≤ 9223372036854775807 ∧ ∀ b ∈ l, intOk b) :=
  opens_slice Try.underlying25 (by kernel_rfl) (by decide) AV.i64 (fun _ => rfl) openInt
theorem openIntss : Opens Try.prog 22 (List (List Int)) (fun ll => [AV.sl 1 (ll.map isl)]) (fun ll => ll.length ≤ 9223372036854775807 ∧ ∀ l ∈ ll, l.length ≤ 9223372036854775807 ∧ ∀ b ∈ l, intOk b) :=
  opens_slice Try.underlying22 (by kernel_rfl) (by decide) isl (fun _ => rfl) openInts
theorem openString : Opens Try.prog 9 (List UInt8) (fun l => [AV.st l]) (fun l => l.length ≤ 9223372036854775807) := opens_string Try.underlying9
end Go.AM

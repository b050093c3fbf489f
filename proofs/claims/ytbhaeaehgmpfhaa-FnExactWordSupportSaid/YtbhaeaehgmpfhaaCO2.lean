/-
  CONTRACTS of functions of the program, and what they compute, by content.
-/
import Derived.Test.YtbhaeaehgmpfhaaCO1
import Derived.Test.YtbhaeaehgmpfhaaCP9
set_option linter.unusedVariables false
set_option linter.unusedSimpArgs false
namespace Go.AM
open Go.Proofs
theorem openPuzzle : Opens Try.prog 24 Puzz (fun p => [.i64 p.n, .st p.nm, ssl p.mv]) (fun p => intOk p.n ∧ p.nm.length ≤ 9223372036854775807 ∧ p.mv.length ≤ 9223372036854775807 ∧ ∀ s ∈ p.mv, s.length ≤ 9223372036854775807 ∧ ∀ x ∈ s, intOk x) :=
  Opens.map (opens_struct Try.underlying24 (by kernel_rfl)
    (opensFs_cons 2 1 (by rfl) (by kernel_rfl) (by rfl) (by decide) openInt
    (opensFs_cons 9 1 (by rfl) (by kernel_rfl) (by rfl) (by decide) openString
    (opensFs_cons 22 1 (by rfl) (by kernel_rfl) (by rfl) (by decide) openIntss opensFs_nil))))
    (fun p => Puzz.mk p.1 p.2.1 p.2.2.1) (fun _ => rfl) (fun _ h => ⟨h.1, h.2.1, h.2.2.1⟩)
end Go.AM

/-
  CONTRACTS of functions of the program, and what they compute, by content.
-/
import Derived.Test.YtjlnccjhgngnoaaCO1
import Derived.Test.YtjlnccjhgngnoaaCV2
set_option linter.unusedVariables false
set_option linter.unusedSimpArgs false
namespace Go.AM
open Go.Proofs
theorem openTimer : Opens Try.prog 38 Timer Timer.cs (fun t => intOk t.phase ∧ intOk t.last ∧ intOk t.inspect ∧ intOk t.down ∧ intOk t.start ∧ intOk t.stop ∧ intOk t.pen) :=
  Opens.map (opens_struct Try.underlying38 (by kernel_rfl)
    (opensFs_cons 2 1 (by rfl) (by kernel_rfl) (by rfl) (by decide) openInt
    (opensFs_cons 2 1 (by rfl) (by kernel_rfl) (by rfl) (by decide) openInt
    (opensFs_cons 2 1 (by rfl) (by kernel_rfl) (by rfl) (by decide) openInt
    (opensFs_cons 2 1 (by rfl) (by kernel_rfl) (by rfl) (by decide) openInt
    (opensFs_cons 2 1 (by rfl) (by kernel_rfl) (by rfl) (by decide) openInt
    (opensFs_cons 2 1 (by rfl) (by kernel_rfl) (by rfl) (by decide) openInt
    (opensFs_cons 2 1 (by rfl) (by kernel_rfl) (by rfl) (by decide) openInt
    (opensFs_cons 4 1 (by rfl) (by kernel_rfl) (by rfl) (by decide) (opens_bool Try.underlying4) opensFs_nil)))))))))
    (fun p => Timer.mk p.1 p.2.1 p.2.2.1 p.2.2.2.1 p.2.2.2.2.1 p.2.2.2.2.2.1 p.2.2.2.2.2.2.1 p.2.2.2.2.2.2.2.1) (fun _ => rfl) (fun _ h => ⟨h.1, h.2.1, h.2.2.1, h.2.2.2.1, h.2.2.2.2.1, h.2.2.2.2.2.1, h.2.2.2.2.2.2.1⟩)
theorem openTimerEvent : Opens Try.prog 59 TEvent TEvent.cs (fun t => intOk t.kind ∧ intOk t.at') :=
  Opens.map (opens_struct Try.underlying59 (by kernel_rfl)
    (opensFs_cons 2 1 (by rfl) (by kernel_rfl) (by rfl) (by decide) openInt
    (opensFs_cons 2 1 (by rfl) (by kernel_rfl) (by rfl) (by decide) openInt opensFs_nil)))
    (fun p => TEvent.mk p.1 p.2.1) (fun _ => rfl) (fun _ h => ⟨h.1, h.2.1⟩)
end Go.AM

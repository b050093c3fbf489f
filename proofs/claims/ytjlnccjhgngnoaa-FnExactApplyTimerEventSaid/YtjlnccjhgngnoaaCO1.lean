/-
  CONTRACTS of functions of the program, and what they compute, by content.
-/
import Derived.Test.YtjlnccjhgngnoaaM2Facts
import Derived.Test.YtjlnccjhgngnoaaCP3
import Derived.Test.YtjlnccjhgngnoaaM2SC
set_option linter.unusedVariables false
set_option linter.unusedSimpArgs false
namespace Go.AM
open Go.Proofs
theorem openInt : Opens Try.prog 2 Int (fun n => [AV.i64 n]) intOk := opens_int Try.underlying2
end Go.AM

/-
  CONTRACTS of functions of the program, and what they compute, by content.
-/
import Derived.Test.YtbhaeaehgmpfhaaCG1
import Derived.Test.YtbhaeaehgmpfhaaCG2
import Derived.Test.YtbhaeaehgmpfhaaCU1
set_option linter.unusedVariables false
set_option linter.unusedSimpArgs false
namespace Go.AM
open Go.Proofs
theorem sortI (l : List Int) (hl : l.length ≤ 1099511627776) : SpecX Try.prog 183 [itr l] [some (itr (srt l))] (.tup []) :=
  spec_sort ⟨_, _, Try.func183, rfl, by decide⟩ (fun blk off cap zs w hH hblk hsz => AnyM.slices_Sort_int Try.sortL blk off cap zs w hH hblk hsz) (fun p cap w => AnyM.slices_Sort_int_none Try.sortL p cap w) l (by omega)
end Go.AM

/-
  CONTRACTS of functions of the program, and what they compute, by content.
-/
import Derived.Test.YtbhaeaehgmpfhaaCP5
set_option linter.unusedVariables false
set_option linter.unusedSimpArgs false
namespace Go.AM
/-! lists of invariants -/
abbrev vsl (l : List Invar) : AV := .sl 2 (l.map Invar.av)
abbrev vtr (l : List Invar) : AV := .tr 2 (l.map Invar.av)
theorem vset (l : List Invar) (i : Nat) (a b : Int) : (l.map Invar.av).set i (.agg [.i64 a, .i64 b]) = (l.set i ⟨a, b⟩).map Invar.av := by rw [List.map_set]; rfl
theorem vsnoc (l : List Invar) (a b : Int) : l.map Invar.av ++ [.agg [.i64 a, .i64 b]] = (l ++ [(⟨a, b⟩ : Invar)]).map Invar.av := by simp [Invar.av]
theorem vpure (l : List Invar) : AV.pureL (l.map Invar.av) = true := pureL_map _ (fun _ => rfl) l
def twL (k : Nat) : List Invar := (List.range k).map fun (i : Nat) => ⟨1, (i : Int)⟩
def paL (k : Nat) : List Invar := (List.range k).map fun (i : Nat) => ⟨2, ((i + 1 : Nat) : Int)⟩
end Go.AM

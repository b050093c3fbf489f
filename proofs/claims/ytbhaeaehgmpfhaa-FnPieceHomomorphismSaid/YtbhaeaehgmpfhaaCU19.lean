/-
  CONTRACTS of functions of the program, and what they compute, by content.
-/
import Derived.Test.YtbhaeaehgmpfhaaCU18
import Derived.Test.YtbhaeaehgmpfhaaCP6
set_option linter.unusedVariables false
set_option linter.unusedSimpArgs false
set_option maxRecDepth 8000
namespace Go.AM
open Go.Proofs
def consM (m : Model) (i : Invar) : Prop := modelOk m ∧ ∀ s ∈ m.mv, invV m.ks s i = 0
instance (m : Model) (i : Invar) : Decidable (consM m i) := by unfold consM; infer_instance
def trivK (ks : List Kind) (set : Int) : Nat → Bool
  | 0 => true
  | k + 1 => trivK ks set k && !(bitK set k && decide (1 < (ks.getD k default).c))
def trivI (ks : List Kind) (i : Invar) : Bool := if i.k = 1 then decide ((ks.getD i.s.toNat default).o = 1) else trivK ks i.s ks.length
end Go.AM

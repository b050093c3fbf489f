/-
  CONTRACTS of functions of the program, and what they compute, by content.
-/
import Derived.Test.YtbhaeaehgmpfhaaCW2
set_option linter.unusedVariables false
set_option linter.unusedSimpArgs false
set_option maxRecDepth 8000
namespace Go.AM
namespace Draws
open Go.Proofs
noncomputable def bS (s : Src) (n : Int) : Src := open Classical in if h : s.ok ∧ intOk n then (below s n h.1 h.2).choose else s
noncomputable def bX (s : Src) (n : Int) : Int := open Classical in if h : s.ok ∧ intOk n then (below s n h.1 h.2).choose_spec.choose else 0
theorem grabL_ints (s : Nat) (p : Path) : ∀ (L : List Int) (i : Nat) (st : St) (K : List AV → St → Prop), grabL s p i (L.map AV.i64) st K = K (L.map AV.i64) st
  | [], _, _, _ => rfl
  | a :: r, i, st, K => by
    have hb : AV.bears (AV.v (.int .i64 a)) = false := rfl
    rw [List.map_cons, grabL_cons, grabE_v, grabC_v, hb]
    refine (propext ⟨fun h => ?_, fun h => ?_⟩ : _ = _)
    · have h2 := h.2
      rw [grabL_ints s p r (i + 1) st] at h2
      exact h2
    · refine ⟨rfl, ?_⟩
      rw [grabL_ints s p r (i + 1) st]
      exact h
noncomputable def ordK (s : Src) : Nat → Src × List Int
  | 0 => (s, [])
  | k + 1 => (bS (ordK s k).1 (k + 1), (ordK s k).2.take (bX (ordK s k).1 (k + 1)).toNat ++ [(k : Int)] ++ (ordK s k).2.drop (bX (ordK s k).1 (k + 1)).toNat)
end Draws
end Go.AM

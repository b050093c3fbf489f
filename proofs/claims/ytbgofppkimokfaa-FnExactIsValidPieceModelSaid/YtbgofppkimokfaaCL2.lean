/-
  CONTRACTS of functions of the program, and what they compute, by content.
-/
import Derived.Test.YtbgofppkimokfaaCU8
set_option linter.unusedVariables false
set_option linter.unusedSimpArgs false
set_option maxRecDepth 8000
namespace Go.AM
open Go.Proofs
theorem solvedR_bound (ks : List Kind) : (solvedR ks).length ≤ 3 ∧ (∀ t ∈ solvedR ks, t.to.length ≤ 20 ∧ t.by'.length ≤ 20) ∧ cnts (solvedR ks) ≤ 120 := by
  unfold solvedR
  split
  · rename_i h
    have hb : ∀ t ∈ ks.map solvedK, t.to.length ≤ 20 ∧ t.by'.length ≤ 20 := by
      intro t ht
      obtain ⟨k, hk, rfl⟩ := List.mem_map.1 ht
      have := h.2.1 k hk
      have := this.1
      simp only [solvedK, runI_len, List.length_replicate]; omega
    have hl := h.1.2
    refine ⟨by simpa using hl, hb, ?_⟩
    have := cnts_bound (ks.map solvedK) 40 (fun t ht => by have := hb t ht; show t.to.length + t.by'.length ≤ 40; omega)
    have e : (ks.map solvedK).length = ks.length := by simp
    rw [e] at this
    omega
  · simp [cnts]
end Go.AM

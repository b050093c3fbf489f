/-
  CONTRACTS of functions of the program, and what they compute, by content.
-/
import Derived.Test.YtbhaeaehgmpfhaaCU17
set_option linter.unusedVariables false
set_option linter.unusedSimpArgs false
set_option maxRecDepth 8000
namespace Go.AM
open Go.Proofs
def fidxG {α : Type} (pr : α → Bool) (l : List α) : Int := match l.findIdx? pr with | some i => i | none => -1
theorem fidxG_nonneg {α : Type} (pr : α → Bool) (l : List α) : 0 ≤ fidxG pr l ↔ l.any pr = true := by
  unfold fidxG
  split
  · rename_i i e
    rw [List.findIdx?_eq_some_iff_getElem] at e
    obtain ⟨hi, h1, _⟩ := e
    simp only [List.any_eq_true]
    exact ⟨fun _ => ⟨_, List.getElem_mem hi, h1⟩, fun _ => by omega⟩
  · rename_i e
    rw [List.findIdx?_eq_none_iff] at e
    simp only [List.any_eq_true]
    exact ⟨fun q => by omega, fun ⟨x, hx, hp⟩ => by rw [e x hx] at hp; cases hp⟩
theorem fidxG_at {α : Type} (pr : α → Bool) (l : List α) (d : α) (k : Nat) (hk : k < l.length) (h1 : ∀ x ∈ l.take k, pr x = false) (h2 : pr (l.getD k d) = true) : fidxG pr l = k := by
  have : l.findIdx? pr = some k := by
    rw [List.findIdx?_eq_some_iff_getElem]
    refine ⟨hk, by rw [← getD_eq l k d hk]; exact h2, fun j hj => ?_⟩
    have := h1 (l[j]) (by rw [List.mem_take_iff_getElem]; exact ⟨j, by omega, rfl⟩)
    simpa using this
  rw [fidxG, this]
theorem fidxG_none {α : Type} (pr : α → Bool) (l : List α) (h : ∀ x ∈ l, pr x = false) : fidxG pr l = -1 := by
  have : l.findIdx? pr = none := by rw [List.findIdx?_eq_none_iff]; exact h
  rw [fidxG, this]
end Go.AM
